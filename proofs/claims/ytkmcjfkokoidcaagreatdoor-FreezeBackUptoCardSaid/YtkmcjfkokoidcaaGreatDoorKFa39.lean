/- Parts: What is of a tree, and of a map, later; values that may be, in lists. Plain. No condition. -/
import Derived.Test.YtkmcjfkokoidcaaGreatDoorKFa31
import Derived.Test.YtkmcjfkokoidcaaGreatDoorKFa36
set_option maxHeartbeats 20000000
set_option maxRecDepth 100000
namespace Go.Proofs.YtkmcjfkokoidcaaGreatDoor
open Go Go.RowKit
def Ti (S0:Nat->Prop) (b M:Nat) (l:List A5) (w:World) (e:Ending) (w':World):Prop:=e=.returned (.tuple #[])/\KB (fun i=>i=M) w w'/\ ∃V',Lw S0 b w' M V' l
theorem Aiv {S0:Nat->Prop} {b n c:Nat} {w:World} {l:List A5} {a:Option Addr} (h:At S0 b 63 7 w (dO l) (.slice a n c)) (i j:Nat) (hi:i<=l.length) (hj:j<=l.length):
 ∃(A1 A2:Option Addr) (n1 n2:List Value) (B1 B2 c2:Nat),(B1<=w.heap.size/\B2<=w.heap.size)/\(∀X,(Instr.slice 22 (.slice a n c) none (some (.int .i64 i)) none).run Tryz.prog X=.ok (.slice A1 i c) X)/\(∀X,(Instr.slice 22 (.slice a n c) (some (.int .i64 j)) none none).run Tryz.prog X=.ok (.slice A2 (l.length - j) c2) X)/\
  Bu w B1 7 A1 i n1/\Bu w B2 7 A2 (l.length - j) n2/\Aw (fun x=>S0 x/\(Value.slice a n c).ownBlock≠some x) w (dO (l.take i)) n1/\Aw (fun x=>S0 x/\(Value.slice a n c).ownBlock≠some x) w (dO (l.drop j)) n2:=by
 have hT:dO (l.take i)=(dO l).take i:=by rw[Bo,Bo,List.map_take]
 have hD:dO (l.drop j)=(dO l).drop j:=by rw[Bo,Bo,List.map_drop]
 have hln:=Av l;rw[hT,hD];have key: ∃cap,c=cap/\n=l.length/\l.length<=cap/\(a=none/\l= []/\cap=0\/ ∃g,a=some ⟨g,0,none⟩):=by
  obtain⟨ns,h1,_⟩:=id h;rcases h1.2 with⟨e,e0⟩|⟨g,cap,cur,e,_,_,hnc,_⟩
  . cases e
    rw[hln]at e0;exact⟨0,rfl,e0.symm,by omega,.inl ⟨rfl,List.eq_nil_of_length_eq_zero e0,rfl⟩⟩
  . cases e
    exact⟨_,rfl,hln,by omega,.inr ⟨g,rfl⟩⟩
 obtain⟨cap,rfl,rfl,hc,ha⟩:=key;have r1: ∀X,(Instr.slice 22 (.slice a l.length c) none (some (.int .i64 i)) none).run Tryz.prog X=.ok (.slice (if c=0 then a else a.map (·.add (0*7))) i c) X:=fun X=>by
  rw[run_slice_h X _ a _ c (by kernel_rfl) .i64 i (by omega) (by omega)];simp[go_sem]
 have r2: ∀X,(Instr.slice 22 (.slice a l.length c) (some (.int .i64 j)) none none).run Tryz.prog X=.ok (.slice (if c=j then a else a.map (·.add (j*7))) (l.length - j) (c - j)) X:=fun X=>by
  rw[run_slice_l X _ a _ c (by kernel_rfl) .i64 j (by omega) (by omega)];simp[go_sem]
 rcases ha with⟨rfl,rfl,rfl⟩|⟨g,rfl⟩
 . obtain rfl:i=0:=by simpa using hi
   obtain rfl:j=0:=by simpa using hj
   refine⟨_,_, [], [],0,0,_,⟨by omega,by omega⟩,r1,r2,⟨rfl,fun h=>absurd h (by simp)⟩,⟨rfl,fun h=>absurd h (by simp)⟩,fun _ _ _=>by simp[dO,Af],fun _ _ _=>by simp[dO,Af]⟩
 . obtain⟨n1,n2,c1,_,c3,_⟩:=h.cut i (by omega);obtain⟨m1,m2,_,d2,_,d4⟩:=h.cut j (by omega);rw[hln]at d2;have hgb:=(h.base g rfl).2;refine⟨_,_,n1,m2,g+1,g+1,_,⟨by omega,by omega⟩,r1,r2, ?_, ?_,c3,d4⟩
   . have e:(if c=0 then some (⟨g,0,none⟩:Addr)else(some (⟨g,0,none⟩:Addr)).map (·.add (0*7)))=some ⟨g,0,none⟩:=by
      split
      . rfl
      . simp[Addr.add]
     rw[e];exact c1
   . by_cases hcj:c=j
     . have hz:l.length - j=0:=by omega
       rw[hz]at d2 ⊢;exact⟨d2.1,fun h=>absurd h (by omega)⟩
     . rw[if_neg hcj];have e:(some (⟨g,0,none⟩:Addr)).map (·.add (j*7))=some ⟨g,j*7,none⟩:=by
        show some ((⟨g,0,none⟩:Addr).add (j*7))=_;rw[Bn,Nat.zero_add]
       rw[e];exact d2
theorem Bu.below2 {w w':World} {B0 B s n:Nat} {A:Option Addr} {cs:List Value} (h:Bu w B s A n cs) (hB:B<=B0) (hb:Below B0 w w'):Bu w' B s A n cs:=h.below (hb.mono hB)
theorem Uk (S0:Nat->Prop) (b:Nat) (l:List A5) (M:Nat) (V:Value) (k:ByteArray) (v:Val) (k':Int) (b':Bool) (n':Int) (t':ByteArray) (la:Option Addr) (ln lc:Nat) (oa:Option Addr) (on oc:Nat) (w:World) (hM:Lw S0 b w M V l) (hb:b<=w.heap.size) (hv:Ah S0 w (dV v) [.int .i64 k',.bool b',.int .i64 n',.string t',.slice la ln lc,.slice oa on oc]) (hl:l.length<=50000000) (hSM: ¬S0 M):
 Calls Tryz.prog 42 #[.pointer (some ⟨M,0,none⟩),.string k,.agg #[.int .i64 k',.bool b',.int .i64 n',.string t',.slice la ln lc,.slice oa on oc]] w (Ti S0 b M (Cf k v l) w):=by
 obtain⟨PO,hPO⟩: ∃P:Ending->World->Prop,Ti S0 b M (Cf k v l) w=P:=⟨_,rfl⟩;rw[hPO];obtain⟨m1,m2,m3⟩:=hM;obtain⟨aV,cV,rfl⟩:=m2.slice_n (Av l);obtain⟨w1,hw1⟩: ∃w1,w.alloc (.cells #[.int .i64 k',.bool b',.int .i64 n',.string t',.slice la ln lc,.slice oa on oc] 37)=w1:=⟨_,rfl⟩;have hb1:Below w.heap.size w w1:=hw1▸Aa _ _;have Hx1:Hid (Aj w1 w.heap.size 37 #[.int .i64 k',.bool b',.int .i64 n',.string t',.slice la ln lc,.slice oa on oc]):=hw1▸Aj.new _ _ _;have lM:=m1.lt;have HA:=qz (Ah7 k l M aV l.length cV w1 ((m1.below hb1 lM).cell 0) ((m2.below hb1).close) (by omega));obtain⟨j0,hj,hy0,hy1,hy2⟩:=info_parts J6;obtain⟨HPO,M1,M2,M3,Hb1,Hv,Hj,Hy0,Hy1,Hy2⟩:=hid10 hPO m1 m2 m3 hb1 hv hj hy0 hy1 hy2;clear hPO m1 m2 m3 hb1 hv hj hy0 hy1 hy2;go_enter Tryz.func42,Tryz.ntmps42;go_wp2_with (fail);(with_reducible refine(HA.out).mono ?_);rintro e w2 ⟨rfl,hb2⟩;have hW2:=Hb1.out.trans (hb2.mono Hb1.out.size);have hi:=Ys k l;obtain⟨j,hj2,hjl,hput⟩: ∃j:Nat,(j=if Cb k l=true then Do k l+1 else Do k l)/\j<=l.length/\Cf k v l=l.take (Do k l)++ [(k,v)]++l.drop j:=by
  refine⟨_,rfl, ?_,Alk k v l⟩;by_cases h:Cb k l=true
  . rw[if_pos h];unfold Cb at h;rcases Nat.lt_or_ge (Do k l) l.length with h1|h1
    . omega
    . rw[List.getElem?_eq_none h1]at h
      cases h
  . rw[if_neg h];exact hi
 obtain⟨A1,A2,n1,n2,B1,B2,c2,⟨hB1,hB2⟩,r1,r2,d1,d2,d3,d4⟩:=Aiv (M2.out.below hW2) (Do k l) j hi hjl;have D3':Hid (Aw (fun i=>S0 i/\(Value.slice none 0 0).ownBlock≠some i) w2 (dO (l.take (Do k l))) n1):=d3.mono fun i _ h=>⟨h.1,by simp[Value.ownBlock]⟩;have hlt:(dO (l.take (Do k l))).length=Do k l:=by rw[Av,List.length_take];omega
 have hld:(dO (l.drop j)).length=l.length - j:=by rw[Av,List.length_drop]
 have hx2:=Hx1.out.below hb2 Hx1.out.lt;have hm2:=(M1.out.below Hb1.out lM).below hb2 (by have:=Hb1.out.size;omega);obtain⟨x0,x1,x2,x3,x4,x5⟩:=Bp hx2;have lx:=hx2.lt;have u0:=hm2.cell 0;have lM2:=hm2.lt;have hz2:=hW2.size;have hcase:(Cb k l=true/\j=Do k l+1)\/(Cb k l=false/\j=Do k l):=by
  cases hh:Cb k l with
  |true=>exact .inl ⟨rfl,by rw[hj2,hh,if_pos rfl]⟩
  |false=>exact .inr ⟨rfl,by rw[hj2,hh,if_neg (by simp)]⟩
 have hv2:=Hv.out.base hW2;generalize Do k l=I at*
 generalize Cb k l=HB at*
 have y1:IntKind.i64.wrap ((I:Int)+1)=((I+1:Nat):Int):=by rw[IntWalk.i64_in _ (by omega)];omega
 obtain⟨D1,D2,D4,Hput,Hlt,Hld,Hx2,Hm2,HW2,Hv2,Hcase,Hjl⟩:=hid12 d1 d2 d4 hput hlt hld hx2 hm2 hW2 hv2 hcase hjl;clear d1 d2 d4 hput hlt hld hx2 hm2 hW2 hv2 hcase hjl;clear hb2 hj2 d3 HA hw1;go_wp2_with (at_builtin;apply Shut.out);unfold Shut;refine C4 rfl (.tmp 15) (.tmp 21) 22 rfl Tryz.underlying22 Hj.out Hy0.out Hy1.out Hy2.out rfl (by omega) rfl (At.nil S0 b 63 7 w2) (by omega) (Es _) D3'.out rfl D1.out Hlt.out.symm (by simp only[List.length_nil,maxLen];omega) (by simp only[List.length_nil];omega) ?_;intro V3 w3 hr3 hg3 hat3;rw[List.nil_append]at hr3;obtain⟨a3,c3,rfl⟩:=hr3.slice_n Hlt.out;have hb23:Below w2.heap.size w2 w3:=(Below.refl _ w2).grown hg3 (Nat.le_refl _) (fun k hk=>by cases hk);have ho3: ∀g,(Value.slice a3 I c3).ownBlock=some g->w2.heap.size<=g:=fun g e=>by
  rcases hat3 with h|h
  . rw[h]at e;cases e
  . rw[h]at e;have e2:w2.heap.size=g:=Option.some.inj e;omega
 have hx3:=Hx2.out.below hb23 lx;have Hm3:=qz (Hm2.out.below hb23 lM2);have hz3:=hb23.size;clear x0 x1 x2 x3 x4 x5 lx u0 lM2;obtain⟨x0,x1,x2,x3,x4,x5⟩:=Bp hx3;have lx:=hx3.lt;have hb34:=Aa w3 (.cells #[.string k,.int .i64 k',.bool b',.int .i64 n',.string t',.slice la ln lc,.slice oa on oc] 63);have Hr4:=qz (hr3.below hb34);have hd4:Ah (fun i=>S0 i/\(Value.slice a3 I c3).ownBlock≠some i) (w3.alloc (.cells #[.string k,.int .i64 k',.bool b',.int .i64 n',.string t',.slice la ln lc,.slice oa on oc] 63)) (dP (k,v)) [.string k,.int .i64 k',.bool b',.int .i64 n',.string t',.slice la ln lc,.slice oa on oc]:=fun w'' q1 q2=>
  ⟨[.string k],_,rfl,⟨rfl,rfl⟩,_, [],by simp,(((Hv2.out.below hb23).below hb34) w'' q1 fun p p1 p2=>q2 p ⟨p1.1,fun e=>by have:=ho3 _ e;omega⟩ p2),rfl⟩
 have Hrd:=qz (F2 (Aj.new w3 63 #[.string k,.int .i64 k',.bool b',.int .i64 n',.string t',.slice la ln lc,.slice oa on oc]));have hz4:=hb34.size;obtain⟨Hd4,Hb23,Hb34,Ho3⟩:=hid4 hd4 hb23 hb34 ho3;clear hd4 hb23 hb34 ho3;clear hr3 hg3 hat3 hx3 D3' D1;go_wp2_with (at_builtin;apply Shut.out);unfold Shut;refine Jm (d:=dP (k,v)) rfl (.tmp 23) (.tmp 27) 22 rfl Tryz.underlying22 Hj.out Hy0.out Hy1.out Hy2.out rfl (by omega) rfl Hr4.out (by omega) (C7 _) Hd4.out rfl Hrd.out (by rw[Hlt.out];simp only[maxLen];omega) (by rw[Hlt.out];omega) ?_;intro V5 w5 hr5 hg5 hat5;have e5:dO (l.take I)++ [dP (k,v)]=dO (l.take I++ [(k,v)]):=by rw[Bo,Bo,List.map_append];rfl
 rw[e5]at hr5;have hl5:(dO (l.take I++ [(k,v)])).length=I+1:=by rw[<-e5,List.length_append,Hlt.out];rfl
 obtain⟨a5,c5,rfl⟩:=hr5.slice_n hl5;have hb35:Below w2.heap.size w2 w5:=(Hb23.out.trans (Hb34.out.mono hz3)).grown hg5 (by omega) (fun k hk=>Ho3.out k hk);have ho5: ∀g,(Value.slice a5 (I+1) c5).ownBlock=some g->w2.heap.size<=g:=fun g e=>by
  rcases hat5 with h|h
  . rw[h]at e;exact Ho3.out g e
  . rw[h]at e;have e2:=Option.some.inj e;omega
 have hm5:=Hm2.out.below hb35 Hm2.out.lt;have hz5:=hb35.size;have u0:=hm5.cell 0;have fzM:=hm5.frozen;have lM5:=hm5.lt;have Hd5:Hid (Aw (fun i=>S0 i/\(Value.slice a5 (I+1) c5).ownBlock≠some i) w5 (dO (l.drop j)) n2):=(D4.out.base hb35).mono fun i _ h=>⟨h.1.1,fun e=>by have:=ho5 _ e;omega⟩;have hrd5:=Bu.below2 D2.out hB2 hb35;have hLo:Hid ((dO (l.take I++ [(k,v)])).length+(l.length - j)<=maxLen/\((dO (l.take I++ [(k,v)])).length+(l.length - j))*104<=140737488355328):=by rw[hl5];exact⟨by simp only[maxLen];omega,by omega⟩
 obtain⟨Hr5,Hrd5,Hb35,Ho5,Hm5,Hl5⟩:=hid6 hr5 hrd5 hb35 ho5 hm5 hl5;clear hr5 hrd5 hb35 ho5 hm5 hl5;clear hg5 hat5 e5 Hr4 Hd4 Hrd Hb23 Hb34 Ho3 Hm3 x0 x1 x2 x3 x4 x5 lx;obtain⟨y2,hy⟩: ∃J:Int,(HB=true/\IntKind.i64.wrap ((I:Int)+1)=(j:Int))\/(HB=false/\(I:Int)=(j:Int)):=⟨0,by
  rcases Hcase.out with⟨h1,h2⟩|⟨h1,h2⟩
  . exact .inl ⟨h1,by rw[y1,h2]⟩
  . exact .inr ⟨h1,by rw[h2]⟩⟩
 have HIj:Hid (I<=l.length):=hi;clear y1 y2 hi;rcases hy with⟨rfl,y1⟩|⟨rfl,y1⟩
 all_goals
  go_wp2_with (at_builtin;apply Shut.out);unfold Shut;refine C4 rfl (.tmp 33) (.tmp 39) 22 rfl Tryz.underlying22 Hj.out Hy0.out Hy1.out Hy2.out rfl (by omega) rfl Hr5.out (by omega) (Es _) Hd5.out rfl Hrd5.out Hld.out.symm hLo.out.1 hLo.out.2 ?_;have hjl:=Hjl.out;intro V7 w7 hr7 hg7 hat7;have e7:=(congrArg dO Hput.out).trans (Aj0 _ _);rw[<-e7]at hr7;have hm7:=Hm5.out.grown hg7 (fun e=>by have:=Ho5.out M e.symm;omega);have hr7':=hr7.base;have ho7: ∀g,V7.ownBlock=some g->w2.heap.size<=g:=fun g e=>by
   rcases hat7 with h|h
   . rw[h]at e;exact Ho5.out g e
   . rw[h]at e;have e2:=Option.some.inj e;omega
  obtain⟨N7,hN7⟩: ∃N7,(dO (Cf k v l)).length=N7:=⟨_,rfl⟩;obtain⟨a7,c7,rfl⟩:=hr7.slice_n hN7;have u7:=hm7.cell 0;have fz7:=hm7.frozen;have lM7:=hm7.lt;have HP:Hid (PO (.returned (.tuple #[])) (w7.setCell ⟨M,0,none⟩ (.slice a7 N7 c7))):=by
   show PO _ _;rw[<-HPO.out];have hW7:=(HW2.out.trans (Hb35.out.mono hz2)).grown hg7 (by omega) (fun q hq=>by have:=Ho5.out q hq;omega);refine⟨rfl,(KB.of_below hW7).trans (KB.set (S:=fun i=>i=M) w7 ⟨M,0,none⟩ rfl _) fun _ _ h=>h,_,hm7.set_ 0 _,hr7.keepN (Nat.le_refl _) (fun i hi=>hi) (by simp[World.setCell]) fun i i1 _=>Below.heap_setCell _ _ _ _ ?_,fun e=>by have:=ho7 M e;omega⟩;show i≠M;rcases i1 with i1|i1
   . exact fun e=>hSM (e▸i1)
   . have:=ho7 i i1;omega
  clear hg7 hat7 hr7 hm7 hN7 e7;go_wp2;exact bodyPost_end (Uz rfl) rfl HP.out
theorem Om (k:ByteArray) (v:Val) (c0 c1 c2 c3 c4 c5:Value) (w:World) (hT:Cm w) (hV:Ac w w.heap.size v [c0,c1,c2,c3,c4,c5]) (hk:k.size<=1000000000) (hb:v.bulk<=100000000) (hi:J8 v):
 Calls Tryz.prog 47 #[.string k,.agg #[c0,c1,c2,c3,c4,c5]] w fun e w'=>e=.returned (.int .i64 (K6 (k,v)))/\Below w.heap.size w w':=by
 obtain⟨PO,hPO⟩: ∃P:Ending->World->Prop,(fun e w'=>e=.returned (.int .i64 (K6 (k,v)))/\Below w.heap.size w w')=P:=⟨_,rfl⟩;rw[hPO];have hV':=hV;obtain⟨kk,b,n,t,l,o⟩:=v;simp only[Ac]at hV';obtain⟨la,lc,oa,oc,hcs,_,_⟩:=hV';simp only[List.cons.injEq,and_true]at hcs;obtain⟨rfl,rfl,rfl,rfl,rfl,rfl⟩:=hcs;rw[Agn]at hPO;have hb1:=Aa w (.cells #[.int .i64 kk,.bool b,.int .i64 n,.string t,.slice la l.length lc,.slice oa o.length oc] 37);have hx1:=Aj.new w 37 #[.int .i64 kk,.bool b,.int .i64 n,.string t,.slice la l.length lc,.slice oa o.length oc];have HK:=qz (fun W=>Afk k W hk);have HF:=qz (Aap _ _ _ (hT.below hb1) ((hV.below hb1).more hb1.size) hb hi);obtain⟨x0,x1,x2,x3,x4,x5⟩:=Bp hx1;have lx:=hx1.lt;obtain⟨HPO,Hb1⟩:=hid2 hPO hb1;clear hPO hb1;clear hV hT hx1;go_enter Tryz.func47,Tryz.ntmps47;go_wp2_with (fail);(with_reducible refine(HK.out _).mono ?_);rintro e w2 ⟨rfl,rfl⟩;by_cases h0:Og k=0
 . have e0:(Og k != 0)=false:=by simpa using h0
   go_wp2_with (fail);(with_reducible refine(HF.out).mono ?_);rintro e w3 ⟨rfl,hb3⟩;have HP:Hid (PO (.returned (.int .i64 (Gt (.mk kk b n t l o)))) w3):=by
    show PO _ _;rw[<-HPO.out];exact⟨by rw[if_neg (fun e=>e h0)],Hb1.out.trans (hb3.mono Hb1.out.size)⟩
   clear hb3;go_wp2;exact HP.out
 . have e0:(Og k != 0)=true:=by simpa using h0
   have HP:Hid (PO (.returned (.int .i64 8)) (w.alloc (.cells #[.int .i64 kk,.bool b,.int .i64 n,.string t,.slice la l.length lc,.slice oa o.length oc] 37))):=by
    show PO _ _;rw[<-HPO.out];exact⟨by rw[if_pos h0],Hb1.out⟩
   generalize Og k=E at*
   clear h0 HPO;go_wp2;exact HP.out
theorem An2 {S:Nat->Prop} {w:World} {key:ByteArray} {v:Val} {cs:List Value} (h:Ah S w (dV v) cs):Ah S w (dP (key,v)) (.string key::cs):=fun w'' h1 h2=>⟨[.string key],cs,rfl,⟨rfl,rfl⟩,cs, [],(List.append_nil _).symm,h w'' h1 h2,rfl⟩
theorem Aaj (w:World) (B:Nat):Ag w B (dV Lr) [.int .i64 0,.bool false,.int .i64 0,.string ⟨#[]⟩,.slice none 0 0,.slice none 0 0]:=Ej _ _ (Pa w B)
theorem Aie {w:World} {B:Nat} {o:List A5} {a:Option Addr} {c:Nat} (h:Ag w B (.row 7 (dO o)) [.slice a o.length c]):Ag w B (dV (ov o)) [.int .i64 6,.bool false,.int .i64 0,.string ⟨#[]⟩,.slice none 0 0,.slice a o.length c]:=by
 unfold ov dV;exact⟨[.int .i64 6],_,rfl,⟨rfl,rfl⟩, [.bool false],_,rfl,⟨rfl,rfl⟩, [.int .i64 0],_,rfl,⟨rfl,rfl⟩, [.string ⟨#[]⟩],_,rfl,⟨rfl,rfl⟩, [.slice none 0 0],_,rfl,⟨none,0,rfl,fun d hd=>by simp[dL]at hd, [],rfl,.inl rfl⟩, [.slice a o.length c], [],rfl,h,rfl⟩
def Lx (l:List A5) (w:World) (e:Ending) (w':World):Prop:=Below w.heap.size w w'/\ ∃a n c,e=.returned (.tuple #[.agg #[.int .i64 (if As l=0 then 6 else 0),.bool false,.int .i64 0,.string ⟨#[]⟩,.slice none 0 0,.slice a n c],.int .i64 (As l)])/\Ag w' w'.heap.size (dV (if As l=0 then ov l else Lr)) [.int .i64 (if As l=0 then 6 else 0),.bool false,.int .i64 0,.string ⟨#[]⟩,.slice none 0 0,.slice a n c]
def Al8 (w:World) (l:List A5) (q:Nat) (wr:World) (V:Value):Prop:=Below w.heap.size w wr/\Aj wr w.heap.size 37 Bk/\Aj wr (w.heap.size+1) 37 #[.int .i64 6,.bool false,.int .i64 0,.string ⟨#[]⟩,.slice none 0 0,V]/\At (fun i=>i<w.heap.size) (w.heap.size+2) 94 7 wr (dO (l.take q)) V/\As (l.take q)=0
theorem Gh (l:List A5) (M:Nat) (a:Option Addr) (n c:Nat) (w:World) (hT:Cm w) (hM:w.cell? ⟨M,0,none⟩=some (.slice a n c)) (h:Ag w w.heap.size (.row 7 (dO l)) [.slice a n c]) (hb:Ab l<=50000000) (hin:Ew l):
 Calls Tryz.prog 16 #[.pointer (some ⟨M,0,none⟩)] w (Lx l w):=by
 obtain⟨PO,hPO⟩: ∃P:Ending->World->Prop,Lx l w=P:=⟨_,rfl⟩;rw[hPO];have hln:=Bc l;have hn:=h.row_len;rw[Av]at hn;subst hn;have lM:M<w.heap.size:=World.block_lt_of_cell? w _ hM;obtain⟨j0,hj,hy0,hy1,hy2⟩:=info_parts Ui;have hI0:Al8 w l 0 ((w.alloc (.cells Bk 37)).alloc (.cells #[.int .i64 6,.bool false,.int .i64 0,.string ⟨#[]⟩,.slice none 0 0,.slice none 0 0] 37)) (.slice none 0 0):=
  ⟨(Aa w _).alloc (by simp) _,(Aj.new _ _ _).alloc _,Aj.nxt _ _ _ _,by simpa[dO]using At.nil _ _ _ _ _,rfl⟩
 have HTI:=qz (Ah.of_old h (Nat.le_refl _) (Below.refl _ _));obtain⟨HPO,HI0,Hj,Hy0,Hy1,Hy2,HT⟩:=hid7 hPO hI0 hj hy0 hy1 hy2 hT;clear hPO hI0 hj hy0 hy1 hy2 hT;clear h;go_enter Tryz.func16,Tryz.ntmps16;go_wp2_with (fail);go_loopw [5] (fun i wr=> ∃q:Nat,i=.int .i64 q/\q<=l.length/\ ∃V,Hid (Al8 w l q wr V)) (fun i _=>l.length - (intOf i).toNat)
 case atStart=>exact⟨0,rfl,Nat.zero_le _,_,HI0⟩
 case round=>
  obtain⟨q,rfl,hq,V,hI⟩:=hrel;clear HI0;obtain⟨hbw,hx0,hx1,hrow,hm0⟩:=hI.out;have hz:=hbw.size;have lx0:=hx0.lt;have lx1:=hx1.lt;have hMr:wr.cell? ⟨M,0,none⟩=some (.slice a l.length c):=(hbw.cell (p:=⟨M,0,none⟩) lM).trans hM;by_cases hlt:q<l.length
  . obtain⟨⟨key,⟨k',b',n',t',l',o'⟩⟩,hx⟩: ∃v,l[q]? =some v:=⟨_,List.getElem?_eq_getElem hlt⟩;have hmem:=List.mem_of_getElem? hx;have hbm:=Bz hmem;simp only at hbm;have hine:=Jq hin hmem;obtain⟨g,off,rfl,hg,la,lc,oa,oc,hv0,d0,d1,d2,d3,d4,d5,d6⟩:=Fp HTI.out hx;have hv:=hv0.below hbw;have hgr:g<wr.heap.size:=by omega
    have lMr:M<wr.heap.size:=by omega
    have q1:(q:Int)<(l.length:Int):=by omega
    have q0:(0:Int)<=q:=by omega
    obtain⟨hmt,hme⟩:=Me hm0 hx;have hkeep: ∀W,Below w.heap.size wr W->(W.cell? ⟨M,0,none⟩=some (.slice (some ⟨g,off,none⟩) l.length c)/\W.cell? ⟨g,off+q*7,none⟩=some (.string key)/\W.cell? ⟨g,off+q*7+1,none⟩=some (.int .i64 k')/\W.cell? ⟨g,off+q*7+2,none⟩=some (.bool b')/\W.cell? ⟨g,off+q*7+3,none⟩=some (.int .i64 n')/\W.cell? ⟨g,off+q*7+4,none⟩=some (.string t')/\W.cell? ⟨g,off+q*7+5,none⟩=some (.slice la l'.length lc)/\W.cell? ⟨g,off+q*7+6,none⟩=some (.slice oa o'.length oc)):=fun W hW=>
     ⟨(hW.cell (p:=⟨M,0,none⟩) lM).trans hMr,(hW.cell hg).trans ((hbw.cell hg).trans d0),(hW.cell hg).trans ((hbw.cell hg).trans d1),(hW.cell hg).trans ((hbw.cell hg).trans d2),(hW.cell hg).trans ((hbw.cell hg).trans d3),(hW.cell hg).trans ((hbw.cell hg).trans d4),(hW.cell hg).trans ((hbw.cell hg).trans d5),(hW.cell hg).trans ((hbw.cell hg).trans d6)⟩
    have HC:=qz (Om key (.mk k' b' n' t' l' o') _ _ _ _ _ _ wr.drew (HT.out.below (hbw.trans ((Below.drew (Below.refl _ _)).mono hz))) (Cg _ _ (hv.below (Below.drew (Below.refl _ _))).now) (by omega) (by omega) hine);generalize hME:K6 (key,.mk k' b' n' t' l' o')=E at*
    obtain⟨Hbw,Hkeep,Hx0,Hx1,Hrow,Hv,Hmt,Hme,Hx⟩:=hid9 hbw hkeep hx0 hx1 hrow hv hmt hme hx;clear hbw hkeep hx0 hx1 hrow hv hmt hme hx;clear hI hv0 d0 d1 d2 d3 d4 d5 d6 hmem hine hm0;have hHx:=Hkeep.out wr (Below.refl _ _);go_wp2_with (fail);go_upto_region 5 with(fail);clear hHx;refine wp_region_held_drew (S:=fun W:World=>W.cell? ⟨M,0,none⟩=some (.slice (some ⟨g,off,none⟩) l.length c)/\W.cell? ⟨g,off+q*7,none⟩=some (.string key)/\W.cell? ⟨g,off+q*7+1,none⟩=some (.int .i64 k')/\W.cell? ⟨g,off+q*7+2,none⟩=some (.bool b')/\W.cell? ⟨g,off+q*7+3,none⟩=some (.int .i64 n')/\W.cell? ⟨g,off+q*7+4,none⟩=some (.string t')/\W.cell? ⟨g,off+q*7+5,none⟩=some (.slice la l'.length lc)/\W.cell? ⟨g,off+q*7+6,none⟩=some (.slice oa o'.length oc)) (by kernel_rfl) (Hkeep.out _ (Below.drew (Below.refl _ _))) (fun hHeld=> ?_);refine tkH 0 hHeld ?_;refine tkH 1 hHeld ?_;refine tkH 2 hHeld ?_;refine tkH 3 hHeld ?_;refine tkH 4 hHeld ?_;refine tkH 5 hHeld ?_;refine tkH 6 hHeld ?_;refine tkH 7 hHeld ?_;refine tkH 8 hHeld ?_;refine tkH 9 hHeld ?_;refine tkH 10 hHeld ?_;refine tkH 11 hHeld ?_;refine tkH 12 hHeld ?_;refine tkH 13 hHeld ?_;refine tkH 14 hHeld ?_;refine tkH 15 hHeld ?_;refine Ee 16 fun K hK=> ?_;go_simp;(with_reducible refine(HC.out).mono ?_);rintro e w2 ⟨rfl,hb2⟩;have hw2:Below wr.heap.size wr w2:=(Below.drew (Below.refl _ _)).trans hb2;refine hK.out _ _ (Hkeep.out _ (hw2.mono hz)) (fun hHeld=> ?_);clear hK K hb2 HC
    try simp only[Act.put,tk1,tk2,tk3,tk4,tk5,tk6]
    refine tkH 17 hHeld ?_;refine wpAnyH_done (by kernel_rfl) ?_ _;clear hHeld;by_cases hE:E=0
    . subst hE;have hwd:Below w.heap.size wr w2.drew:=(hw2.mono hz).trans ((Below.drew (Below.refl _ _)).mono (Nat.le_trans hz hw2.size));have hb4:=Aa w2.drew (.cells #[.string key,.int .i64 k',.bool b',.int .i64 n',.string t',.slice la l'.length lc,.slice oa o'.length oc] 94);have hwd4:Below w.heap.size wr (w2.drew.alloc (.cells #[.string key,.int .i64 k',.bool b',.int .i64 n',.string t',.slice la l'.length lc,.slice oa o'.length oc] 94)):=hwd.trans (hb4.mono (Nat.le_trans hz hwd.size));have hb24:Below w2.heap.size w2 (w2.drew.alloc (.cells #[.string key,.int .i64 k',.bool b',.int .i64 n',.string t',.slice la l'.length lc,.slice oa o'.length oc] 94)):=(Below.drew (Below.refl _ _)).trans hb4;have hr4:=((Hrow.out.below hw2).below hb24);have hln2:(dO (l.take q)).length=q:=by rw[Av,List.length_take];omega
      obtain⟨aV,cV,rfl⟩:=hr4.slice_n hln2;have hba:=hr4.base;have Hd4:Hid (Ah (fun i=>i<w.heap.size/\(Value.slice aV q cV).ownBlock≠some i) (w2.drew.alloc (.cells #[.string key,.int .i64 k',.bool b',.int .i64 n',.string t',.slice la l'.length lc,.slice oa o'.length oc] 94)) (dP (key,.mk k' b' n' t' l' o')) [.string key,.int .i64 k',.bool b',.int .i64 n',.string t',.slice la l'.length lc,.slice oa o'.length oc]):=(An2 ((Hv.out.below hw2).below hb24)).mono fun i _ hi=>⟨hi,fun e=>by have:=(hba i e).1;omega⟩;have Hrd:=qz (F2 (Aj.new w2.drew 94 #[.string key,.int .i64 k',.bool b',.int .i64 n',.string t',.slice la l'.length lc,.slice oa o'.length oc]));have hx12:=Hx1.out.below hw2 lx1;have hx02:=Hx0.out.below hw2 lx0;have Hx14:=qz (hx12.below hb24 hx12.lt);have x5:=hx12.cell 5;have lx2:=hx12.lt;have Hx04:=qz (hx02.below hb24 hx02.lt);have hbs:w.heap.size+2<=(w2.drew.alloc (.cells #[.string key,.int .i64 k',.bool b',.int .i64 n',.string t',.slice la l'.length lc,.slice oa o'.length oc] 94)).heap.size:=by have h1:=hb24.size;have h2:=hx12.lt;omega
      have hcat:dO (l.take q)++ [dP (key,.mk k' b' n' t' l' o')]=dO (l.take (q+1)):=by rw[Bo,Bo,List.take_add_one,Hx.out];simp
      have hkd:=Hkeep.out _ hwd;have hk4:=Hkeep.out _ hwd4;have hLo:Hid ((dO (l.take q)).length+1<=maxLen/\((dO (l.take q)).length+1)*104<=140737488355328):=by rw[hln2];exact⟨by simp only[maxLen];omega,by omega⟩
      obtain⟨Hr4,Hwd4,Hbs,Hcat,Hba,Hkd,Hk4⟩:=hid7 hr4 hwd4 hbs hcat hba hkd hk4;clear hr4 hwd4 hbs hcat hba hkd hk4;clear hwd hb4 hb24 hx12 hx02;go_wp2_with (fail);go_upto_region 8 with(fail);refine wp_region_held_drew (S:=fun W:World=>W.cell? ⟨M,0,none⟩=some (.slice (some ⟨g,off,none⟩) l.length c)/\W.cell? ⟨g,off+q*7,none⟩=some (.string key)/\W.cell? ⟨g,off+q*7+1,none⟩=some (.int .i64 k')/\W.cell? ⟨g,off+q*7+2,none⟩=some (.bool b')/\W.cell? ⟨g,off+q*7+3,none⟩=some (.int .i64 n')/\W.cell? ⟨g,off+q*7+4,none⟩=some (.string t')/\W.cell? ⟨g,off+q*7+5,none⟩=some (.slice la l'.length lc)/\W.cell? ⟨g,off+q*7+6,none⟩=some (.slice oa o'.length oc)) (by kernel_rfl) Hkd.out (fun hHeld=> ?_);refine tkH 0 hHeld ?_;refine tkH 2 hHeld ?_;refine tkH 3 hHeld ?_;refine tkH 4 hHeld ?_;refine tkH 5 hHeld ?_;refine tkH 6 hHeld ?_;refine tkH 7 hHeld ?_;refine tkH 8 hHeld ?_;refine tkH 9 hHeld ?_;refine tkH 10 hHeld ?_;refine tkH 11 hHeld ?_;refine tkH 12 hHeld ?_;refine tkH 13 hHeld ?_;refine tkH 14 hHeld ?_;refine tkH 15 hHeld ?_;refine tkH 16 hHeld ?_;refine tkH 17 hHeld ?_;refine tkH 18 hHeld ?_;refine rd2 1 19 (fun K hK=> ?_) (fun K hK=> ?_)
      . go_simp;refine hK.out _ _ Hkd.out (fun hHeld=> ?_);clear hK K
        try simp only[Act.put,tk1,tk2,tk3,tk4,tk5,tk6]
        refine Ee 19 fun K hK=> ?_;go_simp;refine hK.out _ _ Hk4.out (fun hHeld=> ?_);clear hK K
        try simp only[Act.put,tk1,tk2,tk3,tk4,tk5,tk6]
        refine Ee 20 fun K hK=> ?_;refine Gg (d:=dP (key,.mk k' b' n' t' l' o')) rfl (.tmp 39) (.tmp 57) 35 rfl Tryz.underlying35 Hj.out Hy0.out Hy1.out Hy2.out rfl (by omega) rfl Hr4.out Hbs.out (C7 _) Hd4.out rfl Hrd.out hLo.out.1 hLo.out.2 ?_;intro V5 w5 hr5 hg5 hat5;rw[Hcat.out]at hr5;have hg5:(w2.drew.alloc (.cells #[.string key,.int .i64 k',.bool b',.int .i64 n',.string t',.slice la l'.length lc,.slice oa o'.length oc] 94)).grownBy w5 (Value.slice aV q cV).ownBlock:=hg5;have hl5:(dO (l.take (q+1))).length=q+1:=by rw[Av,List.length_take];omega
        obtain⟨a5,c5,rfl⟩:=hr5.slice_n hl5;have hw5:Below w.heap.size wr w5:=Hwd4.out.grown hg5 (Nat.le_trans (by omega) Hbs.out) (fun k hk=>by have:=(Hba.out k hk).1;omega);have hx15:=Hx14.out.grown hg5 (fun e=>by have:=(Hba.out _ e.symm).1;omega);have hx05:=Hx04.out.grown hg5 (fun e=>by have:=(Hba.out _ e.symm).1;omega);have hba5:=hr5.base;refine hK.out _ _ (Hkeep.out _ hw5) (fun hHeld=> ?_);clear hK K
        try simp only[Act.put,tk1,tk2,tk3,tk4,tk5,tk6]
        have z5:=hx15.cell 5;have lz5:=hx15.lt;have fz5:=hx15.frozen;have hw6:Below w.heap.size wr (w5.setCell ⟨w.heap.size+1,5,none⟩ (.slice a5 (q+1) c5)):=hw5.setCell (by show w.heap.size<=w.heap.size+1;omega) _;have HN:Hid (Al8 w l (q+1) (w5.setCell ⟨w.heap.size+1,5,none⟩ (.slice a5 (q+1) c5)) (.slice a5 (q+1) c5)):=⟨Hbw.out.trans hw6,hx05.far (by show w.heap.size≠w.heap.size+1;omega) _,hx15.set_ 5 _,hr5.keepN (Nat.le_refl _) (fun i hi=>hi) (by simp[World.setCell]) (fun i i1 _=>Below.heap_setCell _ _ _ _ (by
         show i≠w.heap.size+1;rcases i1 with i1|i1
         . omega
         . have:=(hba5 i i1).1;omega)),Hmt.out⟩
        refine tkH 21 hHeld ?_;refine Ee 22 fun K hK=> ?_;go_simp;refine hK.out _ _ (Hkeep.out _ hw6) (fun hHeld=> ?_);clear hK K
        try simp only[Act.put,tk1,tk2,tk3,tk4,tk5,tk6]
        refine wpAnyH_done (by kernel_rfl) ?_ _;clear hHeld hr5 hg5 hat5 hl5 hx15 hx05 hba5 z5 lz5 fz5 hw5 hw6;go_wp2;go_roundw
        case rel=>exact⟨q+1,by go_num,by omega,_,HN⟩
        case measure=>simp only[intOf];omega
      . go_simp;refine hK.out _ _ Hk4.out (fun hHeld=> ?_);clear hK K
        try simp only[Act.put,tk1,tk2,tk3,tk4,tk5,tk6]
        have x5':=Hx14.out.cell 5;refine Ee 1 fun K hK=> ?_;go_simp;refine hK.out _ _ Hk4.out (fun hHeld=> ?_);clear hK K
        try simp only[Act.put,tk1,tk2,tk3,tk4,tk5,tk6]
        refine Ee 20 fun K hK=> ?_;refine Gg (d:=dP (key,.mk k' b' n' t' l' o')) rfl (.tmp 39) (.tmp 57) 35 rfl Tryz.underlying35 Hj.out Hy0.out Hy1.out Hy2.out rfl (by omega) rfl Hr4.out Hbs.out (C7 _) Hd4.out rfl Hrd.out hLo.out.1 hLo.out.2 ?_;intro V5 w5 hr5 hg5 hat5;rw[Hcat.out]at hr5;have hg5:(w2.drew.alloc (.cells #[.string key,.int .i64 k',.bool b',.int .i64 n',.string t',.slice la l'.length lc,.slice oa o'.length oc] 94)).grownBy w5 (Value.slice aV q cV).ownBlock:=hg5;have hl5:(dO (l.take (q+1))).length=q+1:=by rw[Av,List.length_take];omega
        obtain⟨a5,c5,rfl⟩:=hr5.slice_n hl5;have hw5:Below w.heap.size wr w5:=Hwd4.out.grown hg5 (Nat.le_trans (by omega) Hbs.out) (fun k hk=>by have:=(Hba.out k hk).1;omega);have hx15:=Hx14.out.grown hg5 (fun e=>by have:=(Hba.out _ e.symm).1;omega);have hx05:=Hx04.out.grown hg5 (fun e=>by have:=(Hba.out _ e.symm).1;omega);have hba5:=hr5.base;refine hK.out _ _ (Hkeep.out _ hw5) (fun hHeld=> ?_);clear hK K
        try simp only[Act.put,tk1,tk2,tk3,tk4,tk5,tk6]
        have z5:=hx15.cell 5;have lz5:=hx15.lt;have fz5:=hx15.frozen;have hw6:Below w.heap.size wr (w5.setCell ⟨w.heap.size+1,5,none⟩ (.slice a5 (q+1) c5)):=hw5.setCell (by show w.heap.size<=w.heap.size+1;omega) _;have HN:Hid (Al8 w l (q+1) (w5.setCell ⟨w.heap.size+1,5,none⟩ (.slice a5 (q+1) c5)) (.slice a5 (q+1) c5)):=⟨Hbw.out.trans hw6,hx05.far (by show w.heap.size≠w.heap.size+1;omega) _,hx15.set_ 5 _,hr5.keepN (Nat.le_refl _) (fun i hi=>hi) (by simp[World.setCell]) (fun i i1 _=>Below.heap_setCell _ _ _ _ (by
         show i≠w.heap.size+1;rcases i1 with i1|i1
         . omega
         . have:=(hba5 i i1).1;omega)),Hmt.out⟩
        refine tkH 21 hHeld ?_;refine Ee 22 fun K hK=> ?_;go_simp;refine hK.out _ _ (Hkeep.out _ hw6) (fun hHeld=> ?_);clear hK K
        try simp only[Act.put,tk1,tk2,tk3,tk4,tk5,tk6]
        refine wpAnyH_done (by kernel_rfl) ?_ _;clear hHeld hr5 hg5 hat5 hl5 hx15 hx05 hba5 z5 lz5 fz5 hw5 hw6;go_wp2;go_roundw
        case rel=>exact⟨q+1,by go_num,by omega,_,HN⟩
        case measure=>simp only[intOf];omega
    . have hne:(E != 0)=true:=by simpa using hE
      have hx02:=Hx0.out.below hw2 lx0;obtain⟨x0,x1,x2,x3,x4,x5⟩:=Bp hx02;have fz:=hx02.frozen;have lx:=hx02.lt;have HX:=qz hx02;have HP:Hid (PO (.returned (.tuple #[.agg #[.int .i64 0,.bool false,.int .i64 0,.string ⟨#[]⟩,.slice none 0 0,.slice none 0 0],.int .i64 E])) (Ak w2 w.heap.size 0 [.int .i64 0,.bool false,.int .i64 0,.string ⟨#[]⟩,.slice none 0 0,.slice none 0 0])):=by
       show PO _ _;rw[<-HPO.out];have e1:=Hme.out hE;refine⟨A4 [.int .i64 0,.bool false,.int .i64 0,.string ⟨#[]⟩,.slice none 0 0,.slice none 0 0] (Hbw.out.trans (hw2.mono hz)) (Nat.le_refl _) (o:=0),_,_,_,by rw[e1,if_neg hE], ?_⟩;rw[e1,if_neg hE,if_neg hE];exact Aaj _ _
      clear hx02 hw2 hE;go_wp2;exact bodyPost_ret (C3 rfl rfl ((((((HX.out.set_ 0 (.int .i64 0)).set_ 1 (.bool false)).set_ 2 (.int .i64 0)).set_ 3 (.string ⟨#[]⟩)).set_ 4 (.slice none 0 0)).set_ 5 (.slice none 0 0))) rfl HP.out
  . obtain rfl:q=l.length:=by omega
    rw[List.take_length]at hrow hm0;have hln2:(dO l).length=l.length:=Av l;obtain⟨aV,cV,rfl⟩:=hrow.slice_n hln2;obtain⟨x0,x1,x2,x3,x4,x5⟩:=Bp hx0;obtain⟨z0,z1,z2,z3,z4,z5⟩:=Bp hx1;have fz:=hx0.frozen;have hba:=hrow.base;have q1: ¬(l.length:Int)<(l.length:Int):=by omega
    have HP:Hid (PO (.returned (.tuple #[.agg #[.int .i64 6,.bool false,.int .i64 0,.string ⟨#[]⟩,.slice none 0 0,.slice aV l.length cV],.int .i64 0])) (Ak wr w.heap.size 0 [.int .i64 6,.bool false,.int .i64 0,.string ⟨#[]⟩,.slice none 0 0,.slice aV l.length cV])):=by
     show PO _ _;rw[<-HPO.out];refine⟨A4 [.int .i64 6,.bool false,.int .i64 0,.string ⟨#[]⟩,.slice none 0 0,.slice aV l.length cV] hbw (Nat.le_refl _) (o:=0),_,_,_,by rw[if_pos hm0,hm0], ?_⟩;rw[if_pos hm0,if_pos hm0];have hh:=hrow.closeIn;refine Aie (hh.later (Nat.le_of_eq (Ca _ _ _ _).symm) fun p p1 _=>World.cell?_of_block (A0 _ _ _ _ _ ?_)).now;rcases p1 with p1|p1
     . omega
     . have:=(hba _ p1).1;omega
    have HX:=qz hx0;clear hI hbw hx0 hx1 hrow hm0 hba;go_wp2;exact bodyPost_ret (C3 rfl rfl ((((((HX.out.set_ 0 (.int .i64 6)).set_ 1 (.bool false)).set_ 2 (.int .i64 0)).set_ 3 (.string ⟨#[]⟩)).set_ 4 (.slice none 0 0)).set_ 5 (.slice aV l.length cV))) rfl HP.out
theorem Afg (es:List A5) (e:A5):Kd (es++ [e])=Cf e.1 e.2 (Kd es):=by unfold Kd;rw[List.foldl_append];rfl
theorem Aii (es:List A5):(Kd es).length<=es.length/\Ab (Kd es)<=Ab es:=by
 obtain⟨_,h2,h3,h4⟩:=C9 es;rw[h2]at h3 h4;exact⟨h3,h4⟩
def MOI (w:World) (es:List A5) (q:Nat) (wr:World):Prop:=Below w.heap.size w wr/\ ∃V,Lw (fun i=>i<w.heap.size) w.heap.size wr w.heap.size V (Kd (es.take q))
def Po (l:List A5) (w:World) (e:Ending) (w':World):Prop:=Below w.heap.size w w'/\e=.returned (.pointer (some ⟨w.heap.size,0,none⟩))/\ ∃V,Lw (fun i=>i<w.heap.size) w.heap.size w' w.heap.size V l
theorem Iz (es:List A5) (a:Option Addr) (n c:Nat) (w:World) (h:Ag w w.heap.size (.row 7 (dO es)) [.slice a n c]) (hb:Ab es<=50000000):Calls Tryz.prog 12 #[.slice a n c] w (Po (Kd es) w):=by
 obtain⟨PO,hPO⟩: ∃P:Ending->World->Prop,Po (Kd es) w=P:=⟨_,rfl⟩;rw[hPO];have hn:=h.row_len;rw[Av]at hn;subst hn;have hln:=Bc es;have HI0:Hid (MOI w es 0 (w.alloc (.cells #[.slice none 0 0] Aaq))):=⟨Aa _ _,_,Aj.new _ _ _,by simpa[Kd,dO]using At.nil (fun i=>i<w.heap.size) w.heap.size 63 7 (w.alloc (.cells #[.slice none 0 0] Aaq)),fun e=>by cases e⟩;have HT:=qz (Ah.of_old h (Nat.le_refl _) (Below.refl _ _));obtain⟨H,HPO⟩:=hid2 h hPO;clear h hPO;go_enter Tryz.func12,Tryz.ntmps12;go_wp2_with (fail);go_loopw [4] (fun i wr=> ∃q:Nat,i=.int .i64 q/\q<=es.length/\Hid (MOI w es q wr)) (fun i _=>es.length - (intOf i).toNat)
 case atStart=>exact⟨0,rfl,Nat.zero_le _,HI0⟩
 case round=>
  obtain⟨q,rfl,hq,hI⟩:=hrel;clear HI0;obtain⟨hbw,V,hM⟩:=hI.out;by_cases hlt:q<es.length
  . obtain⟨⟨key,⟨k',b',n',t',l',o'⟩⟩,hx⟩: ∃v,es[q]? =some v:=⟨_,List.getElem?_eq_getElem hlt⟩;have hz:=hbw.size;obtain⟨g,off,rfl,hg,la,lc,oa,oc,hv0,d0,d1,d2,d3,d4,d5,d6⟩:=Fp HT.out hx;have hv:=hv0.below hbw;have hgr:g<wr.heap.size:=by omega
    obtain⟨c0,c1,c2,c3,c4,c5,c6⟩:wr.cell? ⟨g,off+q*7,none⟩=some (.string key)/\wr.cell? ⟨g,off+q*7+1,none⟩=some (.int .i64 k')/\wr.cell? ⟨g,off+q*7+2,none⟩=some (.bool b')/\wr.cell? ⟨g,off+q*7+3,none⟩=some (.int .i64 n')/\wr.cell? ⟨g,off+q*7+4,none⟩=some (.string t')/\wr.cell? ⟨g,off+q*7+5,none⟩=some (.slice la l'.length lc)/\wr.cell? ⟨g,off+q*7+6,none⟩=some (.slice oa o'.length oc):=⟨(hbw.cell hg).trans d0,(hbw.cell hg).trans d1,(hbw.cell hg).trans d2,(hbw.cell hg).trans d3,(hbw.cell hg).trans d4,(hbw.cell hg).trans d5,(hbw.cell hg).trans d6⟩;have htk:Kd (es.take (q+1))=Cf key (.mk k' b' n' t' l' o') (Kd (es.take q)):=by
     rw[List.take_add_one,hx,Option.toList_some,Afg]
    have hpl:=(Aii (es.take q)).1;rw[List.length_take]at hpl;have hC:=Uk (fun i=>i<w.heap.size) w.heap.size (Kd (es.take q)) w.heap.size V key (.mk k' b' n' t' l' o') k' b' n' t' la l'.length lc oa o'.length oc wr.drew ⟨hM.1.drew,hM.2.1.below (Below.drew (Below.refl _ _)),hM.2.2⟩ hz (hv.below (Below.drew (Below.refl _ _))) (by omega) (by omega);rw[<-htk]at hC;have q1:(q:Int)<(es.length:Int):=by omega
    have q0:(0:Int)<=q:=by omega
    obtain⟨HC,Hbw⟩:=hid2 hC hbw;clear hC hbw;clear hI hM hv hv0 htk hx d0 d1 d2 d3 d4 d5 d6;go_upto_region 5 with(fail);refine wp_region_held_drew (S:=fun Y:World=>Y.cell? ⟨g,off+q*7,none⟩=some (.string key)/\Y.cell? ⟨g,off+q*7+1,none⟩=some (.int .i64 k')/\Y.cell? ⟨g,off+q*7+2,none⟩=some (.bool b')/\Y.cell? ⟨g,off+q*7+3,none⟩=some (.int .i64 n')/\Y.cell? ⟨g,off+q*7+4,none⟩=some (.string t')/\Y.cell? ⟨g,off+q*7+5,none⟩=some (.slice la l'.length lc)/\Y.cell? ⟨g,off+q*7+6,none⟩=some (.slice oa o'.length oc)) (by kernel_rfl) ⟨c0,c1,c2,c3,c4,c5,c6⟩ (fun hHeld=> ?_);refine tkH 0 hHeld ?_;refine tkH 1 hHeld ?_;refine tkH 2 hHeld ?_;refine tkH 3 hHeld ?_;refine tkH 4 hHeld ?_;refine tkH 5 hHeld ?_;refine tkH 6 hHeld ?_;refine tkH 7 hHeld ?_;refine tkH 8 hHeld ?_;refine tkH 9 hHeld ?_;refine tkH 10 hHeld ?_;refine Ee 11 fun K hK=> ?_;go_simp;(with_reducible refine(HC.out).mono ?_);rintro e w2 ⟨rfl,hk2,V2,hM2⟩;have hk2':KB (fun i=>i=w.heap.size) wr w2:=(KB.of_below (S:=fun i=>i=w.heap.size) (Below.drew (Below.refl _ wr))).trans hk2 fun _ _ h=>h;have hcell: ∀o,w2.cell? ⟨g,o,none⟩=wr.cell? ⟨g,o,none⟩:=fun o=>World.cell?_of_block (hk2'.block g hgr (fun e=>by have e2:g=w.heap.size:=e;omega));have HI2:Hid (MOI w es (q+1) w2):=⟨Hbw.out.trans (hk2'.below (fun k h=>by subst h;exact Nat.le_refl _) hz),V2,hM2⟩;refine hK.out _ _ ⟨(hcell _).trans c0,(hcell _).trans c1,(hcell _).trans c2,(hcell _).trans c3,(hcell _).trans c4,(hcell _).trans c5,(hcell _).trans c6⟩ (fun hHeld=> ?_);clear hK K hk2 hk2' hM2 hcell
    try simp only[Act.put,tk1,tk2,tk3,tk4,tk5,tk6]
    refine wpAnyH_done (by kernel_rfl) ?_ _;clear hHeld;go_wp2;go_roundw
    case rel=>exact⟨q+1,by go_num,by omega,HI2⟩
    case measure=>simp only[intOf];omega
  . obtain rfl:q=es.length:=by omega
    rw[List.take_length]at hM;have HP:Hid (PO (.returned (.pointer (some ⟨w.heap.size,0,none⟩))) wr):=by
     show PO _ _;rw[<-HPO.out];exact⟨hbw,rfl,V,hM⟩
    have q1: ¬(es.length:Int)<(es.length:Int):=by omega
    clear hI hbw hM;go_wp2;exact HP.out
theorem Aek (B:Nat) (acc:List A5) (V:Value) (w:World) (hB:B<=w.heap.size) (hr:At (fun i=>B<=i) B 63 7 w (dO acc) V) (hb:Ab acc<=100000000):Calls Tryz.prog 51 #[V,.pointer none] w (Lu B acc V w):=by
 obtain⟨PO,hPO⟩: ∃P:Ending->World->Prop,Lu B acc V w=P:=⟨_,rfl⟩;rw[hPO];have hE:=Q9 w;have hla:=Bc acc;obtain⟨j0,hj,hy0,hy1,hy2⟩:=info_parts J6;have hLo:Hid ((dO acc).length+0<=maxLen/\((dO acc).length+0)*104<=140737488355328):=by rw[Av];exact⟨by simp only[maxLen];omega,by omega⟩
 obtain⟨aV,cV,rfl⟩:=hr.slice;have HX:Hid (Aw (fun i=>B<=i/\(Value.slice aV (dO acc).length cV).ownBlock≠some i) w [] []):=fun _ _ _=>rfl;have Hrd:Hid (Bu w 0 7 none 0 []):=⟨rfl,fun h=>absurd h (by omega)⟩;obtain⟨HE,HPO,Hr,Hj,Hy0,Hy1,Hy2⟩:=hid7 hE hPO hr hj hy0 hy1 hy2;clear hE hPO hr hj hy0 hy1 hy2;go_enter Tryz.func51,Tryz.ntmps51;go_wp2_with (fail);(with_reducible refine(HE.out).mono ?_);rintro e w1 ⟨rfl,rfl⟩;go_wp2_with (at_builtin;apply Shut.out);unfold Shut;refine C4 rfl (.tmp 7) (.tmp 9) 22 rfl Tryz.underlying22 Hj.out Hy0.out Hy1.out Hy2.out rfl (by omega) rfl Hr.out (by omega) (fun d hd=>by cases hd) HX.out rfl Hrd.out rfl hLo.out.1 hLo.out.2 ?_;intro V6 w6 hrow6 hg6 hat6;rw[List.append_nil]at hrow6;obtain⟨a6,c6,rfl⟩:=hrow6.slice;have HK:=qz (Aia w6);have hP:Lu B acc (.slice aV (dO acc).length cV) w (.returned (.slice a6 (dO acc).length c6)) w6:=by
  refine⟨KB.of_grown (S:=fun i=>(Value.slice aV (dO acc).length cV).ownBlock=some i) hg6 fun k e=>e,_,rfl,hrow6, ?_⟩;rcases hat6 with e|e
  . exact .inl e
  . exact .inr ⟨_,e,Nat.le_refl _⟩
 rw[HPO.out]at hP;have HP:=qz hP;clear hP hrow6 hg6 hat6;go_wp2_with (fail);(with_reducible refine(HK.out).mono ?_);rintro e w7 ⟨rfl,rfl⟩;go_wp2_with (fail);go_loopw [0,14] (fun V i wr=>V=.slice a6 (dO acc).length c6/\i=.int .i64 0/\wr=w6) (fun _ _ _=>0)
 case atStart=>exact⟨rfl,rfl,rfl⟩
 case round=>
  obtain⟨rfl,rfl,rfl⟩:=hrel;go_wp2;exact HP.out
def Ns (es:List A5) (w:World) (e:Ending) (w':World):Prop:=Below w.heap.size w w'/\ ∃V,e=.returned V/\At (fun i=>w.heap.size<=i) w.heap.size 63 7 w' (dO es) V
theorem Kw (t:Option (Nat×Nd)) (p:Option Addr) (w:World) (ht:Eo (fun i=>i<w.heap.size) w t p) (ok:Pb t) (hb:Ab (Ba t)<=100000000):Calls Tryz.prog 23 #[.agg #[.pointer p]] w (Ns (Ba t) w):=by
 obtain⟨PO,hPO⟩: ∃P:Ending->World->Prop,Ns (Ba t) w=P:=⟨_,rfl⟩;rw[hPO];have hln:=Bc (Ba t);obtain⟨w1,hw1⟩: ∃w1,w.alloc (.cells #[.pointer p] 26)=w1:=⟨_,rfl⟩;have hb1:Below w.heap.size w w1:=hw1▸Aa _ _;have hx1:Aj w1 w.heap.size 26 #[.pointer p]:=hw1▸Aj.new _ _ _;have HL:=qz (Ki _ t p w1.drew ((ht.below hb1).below (Below.drew (Below.refl _ _))));obtain⟨j0,hj,hy0,hy1,hy2⟩:=info_parts J6;have c0:=hx1.cell 0;have lx:=hx1.lt;obtain⟨HPO,Hb1,Hx1,Hj,Hy0,Hy1,Hy2,Ht⟩:=hid8 hPO hb1 hx1 hj hy0 hy1 hy2 ht;clear hPO hb1 hx1 hj hy0 hy1 hy2 ht;go_enter Tryz.func23,Tryz.ntmps23;go_upto_region 1 with(fail);clear hw1;refine wp_region_held_drew (S:=fun Y:World=>Y.cell? ⟨w.heap.size,0,none⟩=some (.pointer p)) (by kernel_rfl) c0 (fun hHeld=> ?_);refine tkH 0 hHeld ?_;refine tkH 3 hHeld ?_;refine tkH 4 hHeld ?_;refine Ee 1 fun K hK=> ?_;go_simp;(with_reducible refine(HL.out).mono ?_);rintro e w2 ⟨rfl,hb2⟩;have hx2:=Hx1.out.drew.below hb2 Hx1.out.drew.lt;refine hK.out _ _ (hx2.cell 0) (fun hHeld=> ?_);clear hK K
 try simp only[Act.put,tk1,tk2,tk3,tk4,tk5,tk6]
 have hW2:Below w.heap.size w w2:=(Hb1.out.trans ((Below.drew (Below.refl _ w1)).mono Hb1.out.size)).trans (hb2.mono Hb1.out.size);obtain⟨N,hN⟩: ∃N,(Ba t).length=N:=⟨_,rfl⟩;rw[hN]at hln ⊢;obtain⟨w3,hrun,hown,hgr⟩:=run_make_own (P:=Tryz.prog) w2 w.heap.size 22 63 j0 _ 7 Tryz.underlying22 Hj.out Hy0.out Hy1.out .i64 .i64 N (by rw[Hy2.out];omega) (by simp only[maxLen];omega) hW2.size;have hx3:=hx2.grown hgr (by simp);have hW3:=hW2.grown hgr hW2.size (fun k hk=>by cases hk);have hz2:=hW2.size;have hz3:=hgr.size;have hrow:At (fun i=>w.heap.size<=i) w.heap.size 63 7 w3 (dO []) (.slice (some ⟨w2.heap.size,0,none⟩) 0 N):=⟨[],by simpa[dO]using hown,by simp[dO],fun _ _ _=>by simp[dO,Af]⟩;have hG:Calls Tryz.prog 51 #[.slice (some ⟨w2.heap.size,0,none⟩) 0 N,.pointer p] w3 (Lu w.heap.size (Ba t) (.slice (some ⟨w2.heap.size,0,none⟩) 0 N) w3):=by
  cases t with
  |none=>
   have hp:p=none:=Ht.out;subst hp;exact Aek w.heap.size [] _ w3 hW3.size hrow (by simp[Ab])
  |some t=>
   obtain⟨h',n⟩:=t;obtain⟨l1,l2,l3⟩:=Fb h';obtain⟨b,rfl,hn⟩:=(Ht.out.below hW3);have:=Y8 w.heap.size n [] _ b w3 hn hW3.size hrow ⟨_,h',l2,l3,ok.1⟩ (by simpa[Ab,Ba]using hb);simpa[Ba]using this
 refine Ee 2 fun K hK=> ?_;go_simp;refine hK.out _ _ (hx3.cell 0) (fun hHeld=> ?_);clear hK K
 try simp only[Act.put,tk1,tk2,tk3,tk4,tk5,tk6]
 refine Ee 5 fun K hK=> ?_;go_simp;(with_reducible refine(hG).mono ?_);rintro e w4 ⟨hk4,V4,rfl,hr4,hat4⟩;have hx4:Aj w4 w.heap.size 26 #[.pointer p]:=hx3.kb hk4 (fun e=>by have e2:w2.heap.size=w.heap.size:=Option.some.inj e;have:=hx2.lt;omega);have hW4:Below w.heap.size w w4:=hW3.trans (hk4.below (fun k e=>by have e2:w2.heap.size=k:=Option.some.inj e;omega) hW3.size);refine hK.out _ _ (hx4.cell 0) (fun hHeld=> ?_);clear hK K;have HP:Hid (PO (.returned V4) w4):=by
  show PO _ _;rw[<-HPO.out];exact⟨hW4,V4,rfl,hr4⟩
 obtain⟨a4,c4,rfl⟩:=hr4.slice;clear hG hk4 hr4 hat4 hW4 hrow
 try simp only[Act.put,tk1,tk2,tk3,tk4,tk5,tk6]
 refine tkH 6 hHeld ?_;refine wpAnyH_done (by kernel_rfl) ?_ _;clear hHeld;go_wp2;exact HP.out
theorem Qf {t:Option (Nat×Nd)} (h:Pb t):Ay (Ba t):=by
 match t,h with
 |none,_=>exact List.Pairwise.nil
 |some (_,_),h=>exact h.2
theorem Lw.later {b:Nat} {w w':World} {M:Nat} {V:Value} {l:List A5} {S0:Nat->Prop} (h:Lw S0 b w M V l) (hb:Below w.heap.size w w'): ∃a c,w'.cell? ⟨M,0,none⟩=some (.slice a l.length c)/\Ah (fun i=>i<w.heap.size) w' (.row 7 (dO l)) [.slice a l.length c]/\M<w.heap.size:=by
 obtain⟨h1,h2,_⟩:=h;obtain⟨a,c,rfl⟩:=h2.slice_n (Av l);refine⟨a,c,(hb.cell (p:=⟨M,0,none⟩) h1.lt).trans (h1.cell 0), ?_,h1.lt⟩;have h3:Ah (fun i=>i<w.heap.size) w (.row 7 (dO l)) [.slice a l.length c]:=Ah.of_old h2.close (Nat.le_refl _) (Below.refl _ _);exact h3.below hb
theorem Akg {l:List A5} (h: ∀e ∈ l,J8 e.2):Ew l:=by
 induction l with
 |nil=>trivial
 |cons x r ih=>
  obtain⟨k,v⟩:=x;exact⟨h (k,v) (by simp),ih fun e he=>h e (by simp[he])⟩
theorem Akh {k:ByteArray} {v:Val} {l:List A5} (hv:J8 v) (hl:Ew l):Ew (Cf k v l):=Akg fun e he=>by
 rcases Uw he with rfl|h
 . exact hv
 . exact Jq hl h
theorem Abu: ∀(es l:List A5),Ew es->Ew l->Ew (es.foldl (fun l e=>Cf e.1 e.2 l) l)
 | [],_,_,h=>h
 |e::r,l,h,hl=>Abu r (Cf e.1 e.2 l) (Akg fun x hx=>Jq h (by simp[hx])) (Akh (Jq h (by simp)) hl)
theorem Lk {es:List A5} (h:Ew es):Ew (Kd es):=Abu es [] h trivial
end Go.Proofs.YtkmcjfkokoidcaaGreatDoor
