/- Parts: commonplaceref07's Map: Delete. Condition: at most 5 * 10^7 entries. -/
import Derived.Test.YtnkmhaachfgaoaaGreatDoorKPq33
set_option maxHeartbeats 20000000
set_option maxRecDepth 100000
namespace Go.Proofs.YtnkmhaachfgaoaaGreatDoor
open Go Go.RowKit
def Wf (S0:Nat->Prop) (b M:Nat) (l:List Ax) (w:World) (e:Ending) (w':World):Prop:=e=.returned (.tuple #[])/\KB (fun i=>i=M) w w'/\ ∃V',J6 S0 b w' M V' l
theorem T7 {S0:Nat->Prop} {b n c:Nat} {w:World} {l:List Ax} {a:Option Addr} (h:Al S0 b 71 7 w (dO l) (.slice a n c)) (i j:Nat) (hi:i<=l.length) (hj:j<=l.length):
 ∃(A1 A2:Option Addr) (n1 n2:List Value) (B1 B2 c2:Nat),(B1<=w.heap.size/\B2<=w.heap.size)/\(∀X,(Instr.slice 22 (.slice a n c) none (some (.int .i64 i)) none).run Tryz.prog X=.ok (.slice A1 i c) X)/\(∀X,(Instr.slice 22 (.slice a n c) (some (.int .i64 j)) none none).run Tryz.prog X=.ok (.slice A2 (l.length - j) c2) X)/\
  A5 w B1 7 A1 i n1/\A5 w B2 7 A2 (l.length - j) n2/\An (fun x=>S0 x/\(Value.slice a n c).ownBlock≠some x) w (dO (l.take i)) n1/\An (fun x=>S0 x/\(Value.slice a n c).ownBlock≠some x) w (dO (l.drop j)) n2:=by
 have hT:dO (l.take i)=(dO l).take i:=by rw[Bi,Bi,List.map_take]
 have hD:dO (l.drop j)=(dO l).drop j:=by rw[Bi,Bi,List.map_drop]
 have hln:=At l;rw[hT,hD];have key: ∃cap,c=cap/\n=l.length/\l.length<=cap/\(a=none/\l= []/\cap=0\/ ∃g,a=some ⟨g,0,none⟩):=by
  obtain⟨ns,h1,_⟩:=id h;rcases h1.2 with⟨e,e0⟩|⟨g,cap,cur,e,_,_,hnc,_⟩
  . cases e
    rw[hln]at e0;exact⟨0,rfl,e0.symm,by omega,.inl ⟨rfl,List.eq_nil_of_length_eq_zero e0,rfl⟩⟩
  . cases e
    exact⟨_,rfl,hln,by omega,.inr ⟨g,rfl⟩⟩
 obtain⟨cap,rfl,rfl,hc,ha⟩:=key;have r1: ∀X,(Instr.slice 22 (.slice a l.length c) none (some (.int .i64 i)) none).run Tryz.prog X=.ok (.slice (if c=0 then a else a.map (·.add (0*7))) i c) X:=fun X=>by
  rw[run_slice_h X _ a _ c (by kernel_rfl) .i64 i (by omega) (by omega)];simp[go_sem]
 have r2: ∀X,(Instr.slice 22 (.slice a l.length c) (some (.int .i64 j)) none none).run Tryz.prog X=.ok (.slice (if c=j then a else a.map (·.add (j*7))) (l.length - j) (c - j)) X:=fun X=>by
  rw[run_slice_l X _ a _ c (by kernel_rfl) .i64 j (by omega) (by omega)];simp[go_sem]
 rcases ha with⟨rfl,rfl,rfl⟩|⟨g,rfl⟩
 . obtain rfl:i=0:=by simpa using hi
   obtain rfl:j=0:=by simpa using hj
   refine⟨_,_, [], [],0,0,_,⟨by omega,by omega⟩,r1,r2,⟨rfl,fun h=>absurd h (by simp)⟩,⟨rfl,fun h=>absurd h (by simp)⟩,fun _ _ _=>by simp[dO,Af],fun _ _ _=>by simp[dO,Af]⟩
 . obtain⟨n1,n2,c1,_,c3,_⟩:=h.cut i (by omega);obtain⟨m1,m2,_,d2,_,d4⟩:=h.cut j (by omega);rw[hln]at d2;have hgb:=(h.base g rfl).2;refine⟨_,_,n1,m2,g+1,g+1,_,⟨by omega,by omega⟩,r1,r2, ?_, ?_,c3,d4⟩
   . have e:(if c=0 then some (⟨g,0,none⟩:Addr)else(some (⟨g,0,none⟩:Addr)).map (·.add (0*7)))=some ⟨g,0,none⟩:=by
      split
      . rfl
      . simp[Addr.add]
     rw[e];exact c1
   . by_cases hcj:c=j
     . have hz:l.length - j=0:=by omega
       rw[hz]at d2 ⊢;exact⟨d2.1,fun h=>absurd h (by omega)⟩
     . rw[if_neg hcj];have e:(some (⟨g,0,none⟩:Addr)).map (·.add (j*7))=some ⟨g,j*7,none⟩:=by
        show some ((⟨g,0,none⟩:Addr).add (j*7))=_;rw[A9,Nat.zero_add]
       rw[e];exact d2
theorem A5.below2 {w w':World} {B0 B s n:Nat} {A:Option Addr} {cs:List Value} (h:A5 w B s A n cs) (hB:B<=B0) (hb:Below B0 w w'):A5 w' B s A n cs:=h.below (hb.mono hB)
theorem Rk (S0:Nat->Prop) (b:Nat) (l:List Ax) (M:Nat) (V:Value) (k:ByteArray) (v:Val) (k':Int) (b':Bool) (n':Int) (t':ByteArray) (la:Option Addr) (ln lc:Nat) (oa:Option Addr) (on oc:Nat) (w:World) (hM:J6 S0 b w M V l) (hb:b<=w.heap.size) (hv:Ag S0 w (dV v) [.int .i64 k',.bool b',.int .i64 n',.string t',.slice la ln lc,.slice oa on oc]) (hl:l.length<=50000000) (hSM: ¬S0 M):
 Calls Tryz.prog 41 #[.pointer (some ⟨M,0,none⟩),.string k,.agg #[.int .i64 k',.bool b',.int .i64 n',.string t',.slice la ln lc,.slice oa on oc]] w (Wf S0 b M (Bz k v l) w):=by
 obtain⟨PO,hPO⟩: ∃P:Ending->World->Prop,Wf S0 b M (Bz k v l) w=P:=⟨_,rfl⟩;rw[hPO];obtain⟨m1,m2,m3⟩:=hM;obtain⟨aV,cV,rfl⟩:=m2.slice_n (At l);obtain⟨w1,hw1⟩: ∃w1,w.alloc (.cells #[.int .i64 k',.bool b',.int .i64 n',.string t',.slice la ln lc,.slice oa on oc] 40)=w1:=⟨_,rfl⟩;have hb1:Below w.heap.size w w1:=hw1▸Aa _ _;have Hx1:Hid (Ah w1 w.heap.size 40 #[.int .i64 k',.bool b',.int .i64 n',.string t',.slice la ln lc,.slice oa on oc]):=hw1▸Ah.new _ _ _;have lM:=m1.lt;have HA:=qz (Tu k l M aV l.length cV w1 ((m1.below hb1 lM).cell 0) ((m2.below hb1).close) (by omega));obtain⟨j0,hj,hy0,hy1,hy2⟩:=info_parts Gt;obtain⟨HPO,M1,M2,M3,Hb1,Hv,Hj,Hy0,Hy1,Hy2⟩:=hid10 hPO m1 m2 m3 hb1 hv hj hy0 hy1 hy2;clear hPO m1 m2 m3 hb1 hv hj hy0 hy1 hy2;go_enter Tryz.func41,Tryz.ntmps41;go_wp2_with (fail);(with_reducible refine(HA.out).mono ?_);rintro e w2 ⟨rfl,hb2⟩;have hW2:=Hb1.out.trans (hb2.mono Hb1.out.size);have hi:=Qo k l;obtain⟨j,hj2,hjl,hput⟩: ∃j:Nat,(j=if Bm k l=true then Cy k l+1 else Cy k l)/\j<=l.length/\Bz k v l=l.take (Cy k l)++ [(k,v)]++l.drop j:=by
  refine⟨_,rfl, ?_,Af5 k v l⟩;by_cases h:Bm k l=true
  . rw[if_pos h];unfold Bm at h;rcases Nat.lt_or_ge (Cy k l) l.length with h1|h1
    . omega
    . rw[List.getElem?_eq_none h1]at h
      cases h
  . rw[if_neg h];exact hi
 obtain⟨A1,A2,n1,n2,B1,B2,c2,⟨hB1,hB2⟩,r1,r2,d1,d2,d3,d4⟩:=T7 (M2.out.below hW2) (Cy k l) j hi hjl;have D3':Hid (An (fun i=>S0 i/\(Value.slice none 0 0).ownBlock≠some i) w2 (dO (l.take (Cy k l))) n1):=d3.mono fun i _ h=>⟨h.1,by simp[Value.ownBlock]⟩;have hlt:(dO (l.take (Cy k l))).length=Cy k l:=by rw[At,List.length_take];omega
 have hld:(dO (l.drop j)).length=l.length - j:=by rw[At,List.length_drop]
 have hx2:=Hx1.out.below hb2 Hx1.out.lt;have hm2:=(M1.out.below Hb1.out lM).below hb2 (by have:=Hb1.out.size;omega);obtain⟨x0,x1,x2,x3,x4,x5⟩:=Dv hx2;have lx:=hx2.lt;have u0:=hm2.cell 0;have lM2:=hm2.lt;have hz2:=hW2.size;have hcase:(Bm k l=true/\j=Cy k l+1)\/(Bm k l=false/\j=Cy k l):=by
  cases hh:Bm k l with
  |true=>exact .inl ⟨rfl,by rw[hj2,hh,if_pos rfl]⟩
  |false=>exact .inr ⟨rfl,by rw[hj2,hh,if_neg (by simp)]⟩
 have hv2:=Hv.out.base hW2;generalize Cy k l=I at*
 generalize Bm k l=HB at*
 have y1:IntKind.i64.wrap ((I:Int)+1)=((I+1:Nat):Int):=by rw[IntWalk.i64_in _ (by omega)];omega
 obtain⟨D1,D2,D4,Hput,Hlt,Hld,Hx2,Hm2,HW2,Hv2,Hcase,Hjl⟩:=hid12 d1 d2 d4 hput hlt hld hx2 hm2 hW2 hv2 hcase hjl;clear d1 d2 d4 hput hlt hld hx2 hm2 hW2 hv2 hcase hjl;clear hb2 hj2 d3 HA hw1;go_wp2_with (at_builtin;apply Shut.out);unfold Shut;refine B8 rfl (.tmp 15) (.tmp 21) 22 rfl Tryz.underlying22 Hj.out Hy0.out Hy1.out Hy2.out rfl (by omega) rfl (Al.nil S0 b 71 7 w2) (by omega) (Dh _) D3'.out rfl D1.out Hlt.out.symm (by simp only[List.length_nil,maxLen];omega) (by simp only[List.length_nil];omega) ?_;intro V3 w3 hr3 hg3 hat3;rw[List.nil_append]at hr3;obtain⟨a3,c3,rfl⟩:=hr3.slice_n Hlt.out;have hb23:Below w2.heap.size w2 w3:=(Below.refl _ w2).grown hg3 (Nat.le_refl _) (fun k hk=>by cases hk);have ho3: ∀g,(Value.slice a3 I c3).ownBlock=some g->w2.heap.size<=g:=fun g e=>by
  rcases hat3 with h|h
  . rw[h]at e;cases e
  . rw[h]at e;have e2:w2.heap.size=g:=Option.some.inj e;omega
 have hx3:=Hx2.out.below hb23 lx;have Hm3:=qz (Hm2.out.below hb23 lM2);have hz3:=hb23.size;clear x0 x1 x2 x3 x4 x5 lx u0 lM2;obtain⟨x0,x1,x2,x3,x4,x5⟩:=Dv hx3;have lx:=hx3.lt;have hb34:=Aa w3 (.cells #[.string k,.int .i64 k',.bool b',.int .i64 n',.string t',.slice la ln lc,.slice oa on oc] 71);have Hr4:=qz (hr3.below hb34);have hd4:Ag (fun i=>S0 i/\(Value.slice a3 I c3).ownBlock≠some i) (w3.alloc (.cells #[.string k,.int .i64 k',.bool b',.int .i64 n',.string t',.slice la ln lc,.slice oa on oc] 71)) (dP (k,v)) [.string k,.int .i64 k',.bool b',.int .i64 n',.string t',.slice la ln lc,.slice oa on oc]:=fun w'' q1 q2=>
  ⟨[.string k],_,rfl,⟨rfl,rfl⟩,_, [],by simp,(((Hv2.out.below hb23).below hb34) w'' q1 fun p p1 p2=>q2 p ⟨p1.1,fun e=>by have:=ho3 _ e;omega⟩ p2),rfl⟩
 have Hrd:=qz (Db (Ah.new w3 71 #[.string k,.int .i64 k',.bool b',.int .i64 n',.string t',.slice la ln lc,.slice oa on oc]));have hz4:=hb34.size;obtain⟨Hd4,Hb23,Hb34,Ho3⟩:=hid4 hd4 hb23 hb34 ho3;clear hd4 hb23 hb34 ho3;clear hr3 hg3 hat3 hx3 D3' D1;go_wp2_with (at_builtin;apply Shut.out);unfold Shut;refine Fe (d:=dP (k,v)) rfl (.tmp 23) (.tmp 27) 22 rfl Tryz.underlying22 Hj.out Hy0.out Hy1.out Hy2.out rfl (by omega) rfl Hr4.out (by omega) (Dr _) Hd4.out rfl Hrd.out (by rw[Hlt.out];simp only[maxLen];omega) (by rw[Hlt.out];omega) ?_;intro V5 w5 hr5 hg5 hat5;have e5:dO (l.take I)++ [dP (k,v)]=dO (l.take I++ [(k,v)]):=by rw[Bi,Bi,List.map_append];rfl
 rw[e5]at hr5;have hl5:(dO (l.take I++ [(k,v)])).length=I+1:=by rw[<-e5,List.length_append,Hlt.out];rfl
 obtain⟨a5,c5,rfl⟩:=hr5.slice_n hl5;have hb35:Below w2.heap.size w2 w5:=(Hb23.out.trans (Hb34.out.mono hz3)).grown hg5 (by omega) (fun k hk=>Ho3.out k hk);have ho5: ∀g,(Value.slice a5 (I+1) c5).ownBlock=some g->w2.heap.size<=g:=fun g e=>by
  rcases hat5 with h|h
  . rw[h]at e;exact Ho3.out g e
  . rw[h]at e;have e2:=Option.some.inj e;omega
 have hm5:=Hm2.out.below hb35 Hm2.out.lt;have hz5:=hb35.size;have u0:=hm5.cell 0;have fzM:=hm5.frozen;have lM5:=hm5.lt;have Hd5:Hid (An (fun i=>S0 i/\(Value.slice a5 (I+1) c5).ownBlock≠some i) w5 (dO (l.drop j)) n2):=(D4.out.base hb35).mono fun i _ h=>⟨h.1.1,fun e=>by have:=ho5 _ e;omega⟩;have hrd5:=A5.below2 D2.out hB2 hb35;have hLo:Hid ((dO (l.take I++ [(k,v)])).length+(l.length - j)<=maxLen/\((dO (l.take I++ [(k,v)])).length+(l.length - j))*104<=140737488355328):=by rw[hl5];exact⟨by simp only[maxLen];omega,by omega⟩
 obtain⟨Hr5,Hrd5,Hb35,Ho5,Hm5,Hl5⟩:=hid6 hr5 hrd5 hb35 ho5 hm5 hl5;clear hr5 hrd5 hb35 ho5 hm5 hl5;clear hg5 hat5 e5 Hr4 Hd4 Hrd Hb23 Hb34 Ho3 Hm3 x0 x1 x2 x3 x4 x5 lx;obtain⟨y2,hy⟩: ∃J:Int,(HB=true/\IntKind.i64.wrap ((I:Int)+1)=(j:Int))\/(HB=false/\(I:Int)=(j:Int)):=⟨0,by
  rcases Hcase.out with⟨h1,h2⟩|⟨h1,h2⟩
  . exact .inl ⟨h1,by rw[y1,h2]⟩
  . exact .inr ⟨h1,by rw[h2]⟩⟩
 have HIj:Hid (I<=l.length):=hi;clear y1 y2 hi;rcases hy with⟨rfl,y1⟩|⟨rfl,y1⟩
 all_goals
  go_wp2_with (at_builtin;apply Shut.out);unfold Shut;refine B8 rfl (.tmp 33) (.tmp 39) 22 rfl Tryz.underlying22 Hj.out Hy0.out Hy1.out Hy2.out rfl (by omega) rfl Hr5.out (by omega) (Dh _) Hd5.out rfl Hrd5.out Hld.out.symm hLo.out.1 hLo.out.2 ?_;have hjl:=Hjl.out;intro V7 w7 hr7 hg7 hat7;have e7:=(congrArg dO Hput.out).trans (Zz _ _);rw[<-e7]at hr7;have hm7:=Hm5.out.grown hg7 (fun e=>by have:=Ho5.out M e.symm;omega);have hr7':=hr7.base;have ho7: ∀g,V7.ownBlock=some g->w2.heap.size<=g:=fun g e=>by
   rcases hat7 with h|h
   . rw[h]at e;exact Ho5.out g e
   . rw[h]at e;have e2:=Option.some.inj e;omega
  obtain⟨N7,hN7⟩: ∃N7,(dO (Bz k v l)).length=N7:=⟨_,rfl⟩;obtain⟨a7,c7,rfl⟩:=hr7.slice_n hN7;have u7:=hm7.cell 0;have fz7:=hm7.frozen;have lM7:=hm7.lt;have HP:Hid (PO (.returned (.tuple #[])) (w7.setCell ⟨M,0,none⟩ (.slice a7 N7 c7))):=by
   show PO _ _;rw[<-HPO.out];have hW7:=(HW2.out.trans (Hb35.out.mono hz2)).grown hg7 (by omega) (fun q hq=>by have:=Ho5.out q hq;omega);refine⟨rfl,(KB.of_below hW7).trans (KB.set (S:=fun i=>i=M) w7 ⟨M,0,none⟩ rfl _) fun _ _ h=>h,_,hm7.set_ 0 _,hr7.keepN (Nat.le_refl _) (fun i hi=>hi) (by simp[World.setCell]) fun i i1 _=>Below.heap_setCell _ _ _ _ ?_,fun e=>by have:=ho7 M e;omega⟩;show i≠M;rcases i1 with i1|i1
   . exact fun e=>hSM (e▸i1)
   . have:=ho7 i i1;omega
  clear hg7 hat7 hr7 hm7 hN7 e7;go_wp2;exact bodyPost_end (Fh rfl) rfl HP.out
theorem Al.reads_all {S0:Nat->Prop} {b s n c:Nat} {t:TypeId} {w:World} {l:List D} {a:Option Addr} (h:Al S0 b t s w l (.slice a n c)): ∃ns B,B<=w.heap.size/\A5 w B s a n ns/\An (fun i=>S0 i/\(Value.slice a n c).ownBlock≠some i) w l ns/\n=l.length:=by
 rcases a with _|⟨g,o,f⟩
 . obtain⟨ns,h1,h2,h3⟩:=h;rcases h1.2 with⟨e,e0⟩|⟨g',cap,cur,e,_⟩
   . cases e
     obtain rfl:=List.eq_nil_of_length_eq_zero e0;exact⟨[],0,Nat.zero_le _,⟨by simp,fun h=>absurd h (by simp)⟩,fun _ _ _=>rfl,rfl⟩
   . cases e
 . obtain⟨ns,h1,h2,h3⟩:=id h;rcases h1.2 with⟨e,e0⟩|⟨g',cap,cur,e,_⟩
   . cases e
   . cases e
     obtain⟨ns,r1,r2,r3⟩:=h.reads;exact⟨ns,g+1,(h.base g rfl).2,r1,r2,r3⟩
def Abi (l:List Ax) (w:World) (e:Ending) (w':World):Prop:=Below w.heap.size w w'/\ ∃M V,e=.returned (.pointer (some ⟨M,0,none⟩))/\w.heap.size<=M/\J6 (fun i=>i<w.heap.size) w.heap.size w' M V l
theorem Aan (S0:Nat->Prop) (b:Nat) (l:List Ax) (M:Nat) (V:Value) (w:World) (hM:J6 S0 b w M V l) (hl:l.length<=50000000):Calls Tryz.prog 42 #[.pointer (some ⟨M,0,none⟩)] w (Abi l w):=by
 obtain⟨PO,hPO⟩: ∃P:Ending->World->Prop,Abi l w=P:=⟨_,rfl⟩;rw[hPO];obtain⟨m1,m2,m3⟩:=hM;obtain⟨aV,cV,rfl⟩:=m2.slice_n (At l);obtain⟨ns,B,hB,hrd,hA,hnn⟩:=m2.reads_all;have lM:=m1.lt;have u0:=m1.cell 0;obtain⟨j0,hj,hy0,hy1,hy2⟩:=info_parts Gt;have HA':Hid (An (fun i=>i<w.heap.size/\(Value.slice none 0 0).ownBlock≠some i) w (dO l) ns):=hA.mono fun i hi _=>⟨hi,by simp[Value.ownBlock]⟩;obtain⟨HPO,Hrd,Hj,Hy0,Hy1,Hy2,Hnn⟩:=hid7 hPO hrd hj hy0 hy1 hy2 hnn;clear hPO hrd hj hy0 hy1 hy2 hnn;clear m1 m2 m3 hA;go_enter Tryz.func42,Tryz.ntmps42;go_wp2_with (at_builtin;apply Shut.out);unfold Shut;refine B8 rfl (.const (.slice none 0 0)) (.tmp 6) 22 rfl Tryz.underlying22 Hj.out Hy0.out Hy1.out Hy2.out rfl (by omega) rfl (Al.nil (fun i=>i<w.heap.size) w.heap.size 71 7 w) (Nat.le_refl _) (Dh _) HA'.out rfl Hrd.out Hnn.out (by simp only[List.length_nil,maxLen];omega) (by simp only[List.length_nil];omega) ?_;intro V3 w3 hr3 hg3 hat3;rw[List.nil_append]at hr3;have hb3:Below w.heap.size w w3:=(Below.refl _ w).grown hg3 (Nat.le_refl _) (fun k hk=>by cases hk);have hz3:=hb3.size;obtain⟨a3,c3,rfl⟩:=hr3.slice_n (At l);have HP:Hid (PO (.returned (.pointer (some ⟨w3.heap.size,0,none⟩))) (w3.alloc (.cells #[.slice a3 l.length c3] Wk))):=by
  show PO _ _;rw[<-HPO.out];refine⟨hb3.trans ((Aa w3 _).mono hz3),_,_,rfl,hz3,Ah.new _ _ _,hr3.below (Aa w3 _),fun e=> ?_⟩;have:=(hr3.base _ e).2;omega
 clear hr3 hg3 hat3;go_wp2;exact HP.out
section
variable {P:Program}
theorem Mj {ops:Array Oper} {o:Oper} {a:Act} {w:World} {K:Act->World->Prop} {Q:Exit->Act->World->Prop} {E:Prop} (hgd:o.guard=none) (s x:Operand) (t:TypeId) {e:TypeId}
 (ho:o.op=.call {callee:=.builtin .append,args:= #[s,x],argTypes:= #[t,t]}) {i:TypeInfo} {z:Value} {sz bytes:Nat} (ht:P.underlying t=some (.slice e)) (hi:P.info? e=some i) (hz:i.zero=some z) (hsize:i.size=sz) (hby:i.bytes=bytes) (hzs:z.cells.size=sz) (hsz:0<sz)
 {S0:Nat->Prop} {b:Nat} {l:List D} {V:Value} (hs:a.eval s=V) (hrow:Al S0 b e sz w l V) (hbw:b<=w.heap.size) {dl:List D} {cs:List Value} (hd: ∀d ∈ dl,d.cells=sz) (hf:An (fun i=>S0 i/\V.ownBlock≠some i) w dl cs)
 {B:Nat} {A:Option Addr} {n c:Nat} (hx:a.eval x=.slice A n c) (hr:A5 w B sz A n cs) (hn:n=dl.length) (h63:l.length+n<=maxLen) (hbytes:(l.length+n)*bytes<=140737488355328)
 (h: ∀V' w6,Al S0 b e sz w6 (l++dl) V'->w.grownBy w6 V.ownBlock->(V'.ownBlock=V.ownBlock\/V'.ownBlock=some w.heap.size)->K (a.put o.dst V') w6):
 if Region.wanted o (yielded ops a.tmps)=true then Oper.wp P o a w K Q else E:=by
 have hw:Region.wanted o (yielded ops a.tmps)=true:=by simp[Region.wanted,hgd]
 rw[if_pos hw];exact P0 s x t ho ht hi hz hsize hby hzs hsz hs hrow hbw hd hf hx hr hn h63 hbytes h
end
def We (S0:Nat->Prop) (b M:Nat) (l:List Ax) (B:Bool) (w:World) (e:Ending) (w':World):Prop:=e=.returned (.bool B)/\KB (fun i=>i=M) w w'/\ ∃V',J6 S0 b w' M V' l
theorem Aao (S0:Nat->Prop) (b:Nat) (l:List Ax) (M:Nat) (V:Value) (k:ByteArray) (w:World) (hM:J6 S0 b w M V l) (hb:b<=w.heap.size) (ha:Az l) (hl:l.length<=50000000) (hSM: ¬S0 M):
 Calls Tryz.prog 43 #[.pointer (some ⟨M,0,none⟩),.string k] w (We S0 b M (B3 k l) (Bm k l) w):=by
 obtain⟨PO,hPO⟩: ∃P:Ending->World->Prop,We S0 b M (B3 k l) (Bm k l) w=P:=⟨_,rfl⟩;rw[hPO];obtain⟨m1,m2,m3⟩:=hM;obtain⟨aV,cV,rfl⟩:=m2.slice_n (At l);have lM:=m1.lt;have HA:=qz (Tu k l M aV l.length cV w (m1.cell 0) m2.close (by omega));obtain⟨j0,hj,hy0,hy1,hy2⟩:=info_parts Gt;obtain⟨HPO,M1,M2,M3,Hj,Hy0,Hy1,Hy2⟩:=hid8 hPO m1 m2 m3 hj hy0 hy1 hy2;clear hPO m1 m2 m3 hj hy0 hy1 hy2;go_enter Tryz.func43,Tryz.ntmps43;go_wp2_with (fail);(with_reducible refine(HA.out).mono ?_);rintro e w2 ⟨rfl,hb2⟩;have hm2:=M1.out.below hb2 lM;have hr2:=M2.out.below hb2;have lM2:=hm2.lt;have u0:=hm2.cell 0;have hi:=Qo k l
 cases hh:Bm k l with
 |false=>
  have e1:B3 k l=l:=Abt ((Xm ha).trans hh);have HP:Hid (PO (.returned (.bool false)) w2):=by
   show PO _ _;rw[<-HPO.out,hh,e1];exact⟨rfl,KB.of_below hb2,_,hm2,hr2,M3.out⟩
  clear hb2 hm2 hr2 HA;go_wp2;exact HP.out
 |true=>
  have e1:=Xa ha hh;have hlt:=Uz hh;obtain⟨J,hJ⟩: ∃J,J=Cy k l+1:=⟨_,rfl⟩;have hJl:J<=l.length:=by omega
  obtain⟨A1,A2,n1,n2,B1,B2,c2,⟨hB1,hB2⟩,r1,r2,d1,d2,d3,d4⟩:=T7 hr2 (Cy k l) J hi hJl;have d3':An (fun i=>S0 i/\(Value.slice none 0 0).ownBlock≠some i) w2 (dO (l.take (Cy k l))) n1:=d3.mono fun i _ h=>⟨h.1,by simp[Value.ownBlock]⟩;have hlt1:(dO (l.take (Cy k l))).length=Cy k l:=by rw[At,List.length_take];omega
  have hld:(dO (l.drop J)).length=l.length - J:=by rw[At,List.length_drop]
  have hz2:=hb2.size;have hcat:dO (l.take (Cy k l))++dO (l.drop J)=dO (B3 k l):=by rw[hJ,<-Zz,<-e1]
  generalize Cy k l=I at*
  have y1:IntKind.i64.wrap ((I:Int)+1)=(J:Int):=by rw[IntWalk.i64_in _ (by omega)];omega
  clear hJ hlt;have hbd:Below w2.heap.size w2 w2.drew:=Below.drew (Below.refl _ _);have d1':=A5.below2 d1 hB1 hbd;have d2':=A5.below2 d2 hB2 hbd;have d3':=d3'.base hbd;have d4':=d4.base hbd;have Hmd:=qz (hm2.below hbd lM2);have D3'':Hid (An (fun i=>S0 i/\(Value.slice none 0 0).ownBlock≠some i) w2.drew (dO (l.take I)) n1):=d3'.mono fun i _ h=>h.1;have hLo1:Hid (([]:List D).length+I<=maxLen/\(([]:List D).length+I)*104<=140737488355328):=⟨by simp only[List.length_nil,maxLen];omega,by simp only[List.length_nil];omega⟩;have hLo2:Hid ((dO (l.take I)).length+(l.length - J)<=maxLen/\((dO (l.take I)).length+(l.length - J))*104<=140737488355328):=by rw[hlt1];exact⟨by simp only[maxLen];omega,by omega⟩
  have Hbs:Hid (b<=w2.drew.heap.size):=Nat.le_trans (Nat.le_trans hb hz2) hbd.size;obtain⟨D1',D2',D4',Hcat,Hlt1,Hld,Hb2⟩:=hid7 d1' d2' d4' hcat hlt1 hld hb2;clear d1' d2' d4' hcat hlt1 hld hb2;clear d1 d2 d3 d4 d3' hm2 hr2 HA e1;go_upto_region 3 with(fail)
  go_region_law (first
   |(refine Mj (by rfl) (.const (.slice none 0 0)) (.tmp 20) 22 (by rfl) Tryz.underlying22 Hj.out Hy0.out Hy1.out Hy2.out rfl (by omega) (by rfl) (Al.nil S0 b 71 7 w2.drew) Hbs.out (Dh _) D3''.out (by rfl) D1'.out Hlt1.out.symm hLo1.out.1 hLo1.out.2 ?_;intro V3 w3 hr3 hg3 hat3;rw[List.nil_append]at hr3;have hb23:Below w2.drew.heap.size w2.drew w3:=(Below.refl _ w2.drew).grown hg3 (Nat.le_refl _) (fun k hk=>by cases hk);have Hr3:=qz hr3;have Hbs3:=qz (Nat.le_trans Hbs.out hb23.size);have ho3: ∀g,V3.ownBlock=some g->w2.drew.heap.size<=g:=(fun g e=>hat3.elim (fun h=>by rw[h]at e;cases e) (fun h=>by rw[h]at e;exact Nat.le_of_eq (Option.some.inj e)));have D4'':Hid (An (fun i=>S0 i/\V3.ownBlock≠some i) w3 (dO (l.drop J)) n2):=((D4'.out.base hb23).mono fun i _ h=>⟨h.1.1.1,fun e=>by have:=ho3 _ e;omega⟩);have D2'':=qz (A5.below2 D2'.out (Nat.le_trans hB2 hbd.size) hb23);have Hm3:=qz (Hmd.out.below hb23 Hmd.out.lt);have u3:=Hm3.out.cell 0;have Ho3:Hid (some M≠V3.ownBlock):=(fun e=>by have h1:=ho3 M e.symm;have h2:=Hmd.out.lt;have h3:=hbd.size;omega);have Hb3:=qz (And.intro hb23 ho3);clear hr3 hg3 hat3 hb23 ho3)
   |(refine Mj (by rfl) (.tmp 21) (.tmp 28) 22 (by rfl) Tryz.underlying22 Hj.out Hy0.out Hy1.out Hy2.out rfl (by omega) (by rfl) Hr3.out Hbs3.out (Dh _) D4''.out (by rfl) D2''.out Hld.out.symm hLo2.out.1 hLo2.out.2 ?_;intro V5 w5 hr5 hg5 hat5;have u5:=(Hm3.out.grown hg5 Ho3.out).cell 0;have Hm5:=qz (Hm3.out.grown hg5 Ho3.out);have l5:=Hm5.out.lt;have f5:=Hm5.out.frozen;rw[Hcat.out]at hr5;obtain⟨a5,c5,rfl⟩:=hr5.slice;have HG5:=qz (And.intro hr5 (And.intro hg5 hat5));clear hr5 hg5 hat5))
  all_goals
   obtain⟨hr5,hg5,hat5⟩:=HG5.out;obtain⟨N5,hN5⟩: ∃N5,(dO (B3 k l)).length=N5:=⟨_,rfl⟩;rw[hN5]at hr5 hat5 ⊢;have hg5:w3.grownBy w5 V3.ownBlock:=hg5;obtain⟨hb23,ho3⟩:=Hb3.out;have hW5:Below w2.drew.heap.size w2.drew w5:=hb23.grown hg5 hb23.size (fun q hq=>ho3 q hq);have hbw:Below w.heap.size w w5:=(Hb2.out.trans (hbd.mono hz2)).trans (hW5.mono (Nat.le_trans hz2 hbd.size));have ho5: ∀g,(Value.slice a5 N5 c5).ownBlock=some g->w2.drew.heap.size<=g:=fun g e=>by
    rcases hat5 with h|h
    . exact ho3 g (h.symm.trans e)
    . have e2:=Option.some.inj (h.symm.trans e);have:=hb23.size;omega
   have lM2:=Hmd.out.lt;have HP:Hid (PO (.returned (.bool true)) (w5.setCell ⟨M,0,none⟩ (.slice a5 N5 c5))):=by
    show PO _ _;rw[<-HPO.out,hh];refine⟨rfl,(KB.of_below hbw).trans (KB.set (S:=fun i=>i=M) w5 ⟨M,0,none⟩ rfl _) fun _ _ h=>h,_,Hm5.out.set_ 0 _,hr5.keepN (Nat.le_refl _) (fun i hi=>hi) (by simp[World.setCell]) fun i i1 _=>Below.heap_setCell _ _ _ _ ?_,fun e=>by have:=ho5 M e;omega⟩;show i≠M;rcases i1 with i1|i1
    . exact fun e=>hSM (e▸i1)
    . have:=ho5 i i1;omega
   clear hr5 hg5 hat5 HG5 hb23 ho3 hW5 hbw ho5 Hb3 hN5;go_wp2;exact HP.out
end Go.Proofs.YtnkmhaachfgaoaaGreatDoor
