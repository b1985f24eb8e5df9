/- Parts: What MutCas writes: the pairs. Condition: values of a bulk of at most 10^8. -/
import Derived.Test.YtobmaegpfbheoaaGreatDoorKMo24
set_option maxHeartbeats 20000000
set_option maxRecDepth 100000
namespace Go.Proofs.YtobmaegpfbheoaaGreatDoor
open Go Go.RowKit
def kOf:Option Val->Int
 |none=>0
 |some (.mk k _ _ _ _ _)=>k
def tOf:Option Val->ByteArray
 |none=>⟨#[]⟩
 |some (.mk _ _ _ t _ _)=>t
theorem Le.six {o:List (ByteArray×Val)} {key:ByteArray} {w w':World} {e:Ending} (h:Le o key w e w'):Below w.heap.size w w'/\ ∃b n la ln lc oa on oc,
 e=.returned (.tuple #[.agg #[.int .i64 (kOf (Av key o)),.bool b,.int .i64 n,.string (tOf (Av key o)),.slice la ln lc,.slice oa on oc],.bool (Av key o).isSome])/\
 ∀x,Av key o=some x->Ai w w.heap.size (dV x) [.int .i64 (kOf (Av key o)),.bool b,.int .i64 n,.string (tOf (Av key o)),.slice la ln lc,.slice oa on oc]:=by
 obtain⟨hb,h⟩:=h;refine⟨hb, ?_⟩
 cases hf:Av key o with
 |none=>
  rw[hf]at h;exact⟨false,0,none,0,0,none,0,0,h,fun x e=>by cases e⟩
 |some x=>
  rw[hf]at h;obtain⟨cs,rfl,hh⟩:=h;obtain⟨k,b,n,t,l,ob⟩:=x;have h6:=Co _ _ hh;simp only[Ac]at h6;obtain⟨la,lc,oa,oc,rfl,_,_⟩:=h6;exact⟨b,n,la,l.length,lc,oa,ob.length,oc,rfl,fun y e=>by cases e;exact hh⟩
abbrev Fg (c:Int):Ending:=.panicked [{v:=.iface 172 (.agg #[.int .i64 c]),recovered:=false}]
def Acw (o:List (ByteArray×Val)) (key:ByteArray) (w:World) (e:Ending) (w':World):Prop:=Below w.heap.size w w'/\e=if kOf (Av key o)=4 then .returned (.string (tOf (Av key o)))else Fg 9
theorem E6 (o:List (ByteArray×Val)) (a:Option Addr) (c:Nat) (key:ByteArray) (w:World) (h:Ai w w.heap.size (.row 7 (dO o)) [.slice a o.length c]) (hl:o.length<=100000000):
 Calls Tryz.prog 70 #[.slice a o.length c,.string key] w (Acw o key w):=by
 have HF:=qz (Ji o a c key w h hl);have HY:=qz (fun W=>Dh 9 W);have HN:=qz (fun W=>Ia 9 W);clear h;go_enter Tryz.func70,Tryz.ntmps70;go_upto_region 1 with(fail);go_wp2_with (fail);(with_reducible refine(HF.out).mono ?_);rintro e w1 hp;obtain⟨hb1,b,n,la,ln,lc,oa,on,oc,rfl,_⟩:=hp.six;have hB:=hb1.alloc hb1.size (.cells #[.int .i64 (kOf (Av key o)),.bool b,.int .i64 n,.string (tOf (Av key o)),.slice la ln lc,.slice oa on oc] 42);have hP:Acw o key w (if kOf (Av key o)=4 then .returned (.string (tOf (Av key o)))else Fg 9) (w1.alloc (.cells #[.int .i64 (kOf (Av key o)),.bool b,.int .i64 n,.string (tOf (Av key o)),.slice la ln lc,.slice oa on oc] 42)):=⟨hB,rfl⟩;clear hp hb1 hB HF;generalize kOf (Av key o)=k at hP ⊢;generalize tOf (Av key o)=t at hP ⊢;by_cases hk:k=4
 . subst hk;rw[if_pos rfl]at hP;have HP:=qz hP;clear hP;go_wp2_with (fail);(with_reducible refine(HY.out _).mono ?_);rintro e w2 ⟨rfl,rfl⟩;go_wp2;go_ret;exact HP.out
 . rw[if_neg hk]at hP;have e1:(k==4)=false:=by simpa using hk
   have HP:=qz hP;clear hP;clear hk;go_wp2_with (fail);(with_reducible refine(HN.out _).mono ?_);rintro e w2 ⟨rfl,rfl⟩;go_wp2;exact⟨rfl,HP.out⟩
abbrev zV0:Val:=.mk 0 false 0 ⟨#[]⟩ [] []
theorem Yk (w:World) (B:Nat):Ai w B (dV zV0) [.int .i64 0,.bool false,.int .i64 0,.string ⟨#[]⟩,.slice none 0 0,.slice none 0 0]:=by
 refine Eo _ _ ?_;simp only[Ac];exact⟨none,0,none,0,rfl,by simp,by simp⟩
theorem Le.held {o:List (ByteArray×Val)} {key:ByteArray} {w w':World} {e:Ending} (h:Le o key w e w'):Below w.heap.size w w'/\ ∃k b n t l ob la lc oa oc,(Av key o).getD zV0=.mk k b n t l ob/\
 e=.returned (.tuple #[.agg #[.int .i64 k,.bool b,.int .i64 n,.string t,.slice la (l:List Val).length lc,.slice oa (ob:List (ByteArray×Val)).length oc],.bool (Av key o).isSome])/\
 Ai w w.heap.size (dV (.mk k b n t l ob)) [.int .i64 k,.bool b,.int .i64 n,.string t,.slice la l.length lc,.slice oa ob.length oc]:=by
 obtain⟨hb,h⟩:=h;refine⟨hb, ?_⟩
 cases hf:Av key o with
 |none=>
  rw[hf]at h;exact⟨0,false,0,⟨#[]⟩, [], [],none,0,none,0,rfl,h,Yk _ _⟩
 |some x=>
  rw[hf]at h;obtain⟨cs,rfl,hh⟩:=h;obtain⟨k,b,n,t,l,ob⟩:=x;have h6:=Co _ _ hh;simp only[Ac]at h6;obtain⟨la,lc,oa,oc,rfl,_,_⟩:=h6;exact⟨k,b,n,t,l,ob,la,lc,oa,oc,rfl,rfl,hh⟩
def Ahl (o:List (ByteArray×Val)) (key:ByteArray) (w:World) (e:Ending) (w':World):Prop:=Below w.heap.size w w'/\ ∃cs:List Value,e=.returned (.tuple #[.agg cs.toArray,.bool (Av key o).isSome])/\An w.heap.size w' (dV ((Av key o).getD zV0)) cs
theorem Jb (o:List (ByteArray×Val)) (a:Option Addr) (c:Nat) (key:ByteArray) (w:World) (h:Ai w w.heap.size (.row 7 (dO o)) [.slice a o.length c]) (hl:o.length<=100000000) (hb: ∀x,Av key o=some x->x.bulk<=100000000):
 Calls Tryz.prog 121 #[.slice a o.length c,.string key] w (Ahl o key w):=by
 have hI0:FN w (w.alloc (.cells Ak 42)):=⟨(Below.refl _ _).alloc (Nat.le_refl _) _,Aj.new w _ _⟩;obtain⟨wi,hwi⟩: ∃wi,w.alloc (.cells Ak 42)=wi:=⟨_,rfl⟩;rw[hwi]at hI0;have HF:=qz (Ji o a c key wi ((h.below hI0.below).more hI0.below.size) hl);obtain⟨HI0,Hb⟩:=hid2 hI0 hb;clear hI0 hb;go_enter Tryz.func121,Tryz.ntmps121;go_upto_region 1 with(fail);clear hwi;go_wp2_with (fail);(with_reducible refine(HF.out).mono ?_);rintro e w1 hp;obtain⟨hb1,k,b,n,t,l,ob,la,lc,oa,oc,hg,rfl,hx⟩:=hp.held;have hbk:(Val.mk k b n t l ob).bulk<=100000000:=by
  rw[<-hg]
  cases hf:Av key o with
  |none=>decide
  |some x=>exact Hb.out x hf
 have hI1:FN w (w1.alloc (.cells #[.int .i64 k,.bool b,.int .i64 n,.string t,.slice la l.length lc,.slice oa ob.length oc] 42)):=
  FN.alloc ⟨HI0.out.below.trans (hb1.mono HI0.out.below.size),HI0.out.res.below hb1 HI0.out.res.lt⟩ _
 have Hxb:=qz (Aj.new w1 42 #[.int .i64 k,.bool b,.int .i64 n,.string t,.slice la l.length lc,.slice oa ob.length oc]);have HC:=qz (Hd _ _ (w1.alloc (.cells #[.int .i64 k,.bool b,.int .i64 n,.string t,.slice la l.length lc,.slice oa ob.length oc] 42)) (Co _ _ (((hx.below hb1).more hb1.size).below (Aa _ _) |>.more (by simp))) hbk);have hsz:=HI0.out.below.size;obtain⟨HI1,Hg⟩:=hid2 hI1 hg;clear hI1 hg;clear hp hb1 hx HI0;go_wp2_with (fail);(with_reducible refine(HC.out).mono ?_);rintro e w4 ⟨⟨cs4,rfl,hl4,hf4⟩,hb4⟩;obtain⟨xla,xlc,xoa,xoc,rfl⟩:=Eu hf4;have hI4:FN w w4:=⟨HI1.out.below.trans (hb4.mono HI1.out.below.size),HI1.out.res.below hb4 HI1.out.res.lt⟩;obtain⟨r0,r1,r2,r3,r4,r5⟩:=Bd hI4.res;have fz:=hI4.res.frozen;have lt1:=hI4.res.lt;have hlow:=HI1.out.res.lt;obtain⟨HI4,Hf4,Hb4⟩:=hid3 hI4 hf4 hb4;clear hI4 hf4 hb4;dsimp only
 repeat go_step
 have hxf:=(((((HI4.out.res.set_ 0 (.int .i64 k)).set_ 1 (.bool b)).set_ 2 (.int .i64 n)).set_ 3 (.string t)).set_ 4 (.slice xla l.length xlc)).set_ 5 (.slice xoa ob.length xoc);have hbf:=At [.int .i64 k,.bool b,.int .i64 n,.string t,.slice xla l.length xlc,.slice xoa ob.length xoc] HI4.out.below (Nat.le_refl w.heap.size) (o:=0);have hff:=Hf4.out.keep (b':=w.heap.size) (w':=A7 w4 w.heap.size 0 [.int .i64 k,.bool b,.int .i64 n,.string t,.slice xla l.length xlc,.slice xoa ob.length xoc]) (by omega) (by rw[Aw];exact Nat.le_refl _) (fun p p1 _=>World.cell?_of_block (Ar _ _ _ _ _ (by omega)));refine bodyPost_ret (Fl rfl rfl hxf) rfl ⟨hbf,_,rfl, ?_⟩;rw[Hg.out];exact hff
abbrev Tpr:TypeId:=131
theorem Aiu:(Tryz.prog.info? 131).map (fun i=>(i.zero,i.size,i.bytes))=some (some (.agg #[.string ⟨#[]⟩,.int .i64 0,.bool false,.int .i64 0,.string ⟨#[]⟩,.slice none 0 0,.slice none 0 0]),7,104):=by kernel_rfl
theorem Ag7 (w:World) (a0 a1 a2 a3 a4 a5 a6:Value):B5 (w.alloc (.cells #[a0,a1,a2,a3,a4,a5,a6] Tpr)) (w.heap.size+1) 7 (some ⟨w.heap.size,0,none⟩) 1 [a0,a1,a2,a3,a4,a5,a6]:=Ge (Aj.new w Tpr #[a0,a1,a2,a3,a4,a5,a6])
theorem Ac5 {S:Nat->Prop} {w:World} {key:ByteArray} {v:Val} {cs:List Value} (h:Ab S w (dV v) cs):Ab S w (dP (key,v)) (.string key::cs):=fun w'' h1 h2=>⟨[.string key],cs,rfl,⟨rfl,rfl⟩,cs, [],(List.append_nil _).symm,h w'' h1 h2,rfl⟩
def Ri (o:List (ByteArray×Val)) (fs:List (ByteArray×Int)):Bool:=(o.all fun p=>(J7 p.1 fs).isSome)&&fs.all fun f=>(Av f.1 o).isSome||decide (f.2=1)
def I6 (S:Nat->Prop) (k:Int) (o:List (ByteArray×Val)) (fs:List (ByteArray×Int)) (w:World) (e:Ending) (w':World):Prop:=Below w.heap.size w w'/\
 if k≠6 then e=Fg 9 else if Ri o fs=false then e=Fg 10 else ∃a c,e=.returned (.slice a o.length c)/\Ab (fun i=>S i\/w.heap.size<=i) w' (.row 7 (dO o)) [.slice a o.length c]
structure MB (S:Nat->Prop) (w:World) (six:Array Value) (o:List (ByteArray×Val)) (q:Nat) (wr:World) (V:Value):Prop where
 below:Below w.heap.size w wr
 box:Aj wr w.heap.size 42 six
 row:Bo S (w.heap.size+1) Tpr 7 wr (dO (o.take q)) V
theorem MB.later {S:Nat->Prop} {w wr w':World} {six:Array Value} {o:List (ByteArray×Val)} {q:Nat} {V:Value} (h:MB S w six o q wr V) (hb:Below wr.heap.size wr w'):MB S w six o q w' V:=
 ⟨h.below.trans (hb.mono h.below.size),h.box.below hb h.box.lt,h.row.below hb⟩
theorem Kb (S:Nat->Prop) (k':Int) (b':Bool) (n':Int) (t':ByteArray) (l':List Val) (o:List (ByteArray×Val)) (la lc oa oc) (fs:List (ByteArray×Int)) (g off fc:Nat) (w:World)
 (h:Ab S w (.row 7 (dO o)) [.slice oa o.length oc]) (hF:Fld w g off fs) (hol:o.length<=100000000) (hfl:fs.length<=1000000):
 Calls Tryz.prog 127 #[.agg #[.int .i64 k',.bool b',.int .i64 n',.string t',.slice la l'.length lc,.slice oa o.length oc],.slice (some ⟨g,off,none⟩) fs.length fc] w (I6 S k' o fs w):=by
 obtain⟨j0,hj,hy0,hy1,hy2⟩:=info_parts Aiu;have hY9:=fun W=>Dh 9 W;have hN9:=fun W=>Ia 9 W;have hY:=fun W=>Dh 10 W;have hN:=fun W=>Ia 10 W;have hI0:MB S w #[.int .i64 k',.bool b',.int .i64 n',.string t',.slice la l'.length lc,.slice oa o.length oc] o 0 (w.alloc (.cells #[.int .i64 k',.bool b',.int .i64 n',.string t',.slice la l'.length lc,.slice oa o.length oc] 42)) (.slice none 0 0):=
  ⟨(Below.refl _ _).alloc (Nat.le_refl _) _,Aj.new w _ _,by simpa[dO]using Bo.nil _ _ _ _ _⟩
 by_cases hk:k'=6;rotate_left
 . have e1:(k'==6)=false:=by simpa using hk
   have HP:Hid (I6 S k' o fs w (Fg 9) (w.alloc (.cells #[.int .i64 k',.bool b',.int .i64 n',.string t',.slice la l'.length lc,.slice oa o.length oc] 42))):=⟨hI0.below,by rw[if_pos hk]⟩;obtain⟨HN9,Hj,Hy0,Hy1,Hy2,HI0,H,HF,HY9,HY,HN⟩:=hid11 hN9 hj hy0 hy1 hy2 hI0 h hF hY9 hY hN;clear hN9 hj hy0 hy1 hy2 hI0 h hF hY9 hY hN;clear hk;go_enter Tryz.func127,Tryz.ntmps127;go_wp2_with (fail);(with_reducible refine(HN9.out _).mono ?_);rintro e w2 ⟨rfl,rfl⟩;go_wp2;exact⟨rfl,HP.out⟩
 subst hk;have HFF:=qz (fun key (W:World) (hB:Below w.heap.size w W)=>Yf fs g off fc key W (hF.below hB) (by omega));obtain⟨Hj,Hy0,Hy1,Hy2,HI0,H,HF,HY9,HN9,HY,HN⟩:=hid11 hj hy0 hy1 hy2 hI0 h hF hY9 hN9 hY hN;clear hj hy0 hy1 hy2 hI0 h hF hY9 hN9 hY hN;go_enter Tryz.func127,Tryz.ntmps127;go_wp2_with (fail);(with_reducible refine(HY9.out _).mono ?_);rintro e w2 ⟨rfl,rfl⟩;have y5:=HI0.out.box.cell 5;have yl:=HI0.out.box.lt;go_upto_region 4 with(fail);clear y5 yl;go_loopw [5,21] (fun V i wr=> ∃q:Nat,i=.int .i64 q/\q<=o.length/\Hid (∀p ∈ o.take q,(J7 p.1 fs).isSome=true)/\Hid (MB S w #[.int .i64 6,.bool b',.int .i64 n',.string t',.slice la l'.length lc,.slice oa o.length oc] o q wr V)) (fun _ i _=>o.length - (intOf i).toNat)
 case atStart=>exact⟨0,rfl,Nat.zero_le _,qz (by simp),HI0⟩
 case round=>
  obtain⟨q,rfl,hq,hin,hI⟩:=hrel;clear HI0;have hq0:(0:Int)<=q:=by omega
  by_cases hlt:q<o.length
  . obtain⟨p,hp⟩: ∃p,o[q]? =some p:=⟨_,List.getElem?_eq_getElem (by omega)⟩;obtain⟨pkey,⟨pk,pb,pn,pt,pl,po⟩⟩:=p;have hz:=hI.out.below.size;obtain⟨g1,off1,rfl,hg1,pla,plc,poa,poc,hv,d0,d1,d2,d3,d4,d5,d6⟩:=Yz H.out hp;have c0:=(hI.out.below.cell (p:=⟨g1,off1+q*7,none⟩) hg1).trans d0;have c1:=(hI.out.below.cell (p:=⟨g1,off1+q*7+1,none⟩) hg1).trans d1;have c2:=(hI.out.below.cell (p:=⟨g1,off1+q*7+2,none⟩) hg1).trans d2;have c3:=(hI.out.below.cell (p:=⟨g1,off1+q*7+3,none⟩) hg1).trans d3;have c4:=(hI.out.below.cell (p:=⟨g1,off1+q*7+4,none⟩) hg1).trans d4;have c5:=(hI.out.below.cell (p:=⟨g1,off1+q*7+5,none⟩) hg1).trans d5;have c6:=(hI.out.below.cell (p:=⟨g1,off1+q*7+6,none⟩) hg1).trans d6;clear d0 d1 d2 d3 d4 d5 d6;have hgr:g1<wr.heap.size:=Nat.lt_of_lt_of_le hg1 hz;have hq1:(q:Int)<(o.length:Int):=by omega
    have HIa:=qz (hI.out.later (Aa wr (.cells #[.string pkey,.int .i64 pk,.bool pb,.int .i64 pn,.string pt,.slice pla pl.length plc,.slice poa po.length poc] 74)));have Hmb:=qz (Aj.new wr 74 #[.string pkey,.int .i64 pk,.bool pb,.int .i64 pn,.string pt,.slice pla pl.length plc,.slice poa po.length poc]);have Htk:=qz (show o.take (q+1)=o.take q++ [(pkey,.mk pk pb pn pt pl po)]from by rw[List.take_add_one,hp];simp);have Hmem:Hid ((pkey,Val.mk pk pb pn pt pl po) ∈ o):=List.mem_of_getElem? hp;obtain⟨Hv,Hp⟩:=hid2 hv hp;clear hv hp;clear hI;go_wp2_with (fail);(with_reducible refine(HFF.out pkey _ HIa.out.below).mono ?_);rintro e w2 ⟨hb2,rfl⟩;have hI2:=HIa.out.later hb2;have hm2:=Hmb.out.below hb2 Hmb.out.lt
    cases hs:(J7 pkey fs).isSome with
    |false=>
     have hP:I6 S 6 o fs w (Fg 10) w2:=⟨hI2.below,by
      have hb:Ri o fs=false:=by
       unfold Ri;rw[Bool.and_eq_false_iff]
       left
       rw[List.all_eq_false];exact⟨_,Hmem.out,by rw[hs];simp⟩
      rw[if_neg (by decide),if_pos hb]⟩
     obtain⟨HP,HI2,Hm2⟩:=hid3 hP hI2 hm2;clear hP hI2 hm2;clear hs hin;go_wp2_with (fail);(with_reducible refine(HN.out _).mono ?_);rintro e w3 ⟨rfl,rfl⟩;go_wp2;exact⟨rfl,HP.out⟩
    |true=>
     have hin':Hid (∀p ∈ o.take (q+1),(J7 p.1 fs).isSome=true):=by
      refine qz ?_;rw[Htk.out];intro p hp;rcases List.mem_append.1 hp with h|h
      . exact hin.out p h
      . obtain rfl:=List.mem_singleton.1 h;exact hs
     obtain⟨aV,cV,rfl⟩:=hI2.row.slice;have hdl:(dO (o.take q)).length=q:=by rw[Dg,List.length_take];omega
     have m0:=hm2.cell 0;have m1:=hm2.cell 1;have m2:=hm2.cell 2;have m3:=hm2.cell 3;have m4:=hm2.cell 4;have m5:=hm2.cell 5;have m6:=hm2.cell 6;have ml:=hm2.lt;have hw8:=Aa w2 (.cells #[.string pkey,.int .i64 pk,.bool pb,.int .i64 pn,.string pt,.slice pla pl.length plc,.slice poa po.length poc] Tpr);have hbw8:=hI2.below.trans (hw8.mono hI2.below.size);have Hrow8:=qz (hI2.row.below hw8);have Hxi:=qz (((Ac5 (key:=pkey) Hv.out).mono (T:=fun i=>S i/\(Value.slice aV (dO (o.take q)).length cV).ownBlock≠some i) (fun i h0 hi=>⟨hi,fun e=>by have:=(hI2.row.base i e).1;omega⟩)).below hbw8);have hsz2:=hI2.below.size;have hlt2:=hI2.box.lt;have hLo:Hid ((dO (o.take q)).length+1<=maxLen/\((dO (o.take q)).length+1)*104<=140737488355328):=by rw[hdl];exact⟨by simp only[maxLen];omega,by omega⟩
     obtain⟨HI2,Hm2,Hw8,Hbw8⟩:=hid4 hI2 hm2 hw8 hbw8;clear hI2 hm2 hw8 hbw8;clear hs hin hdl c0 c1 c2 c3 c4 c5 c6;go_wp2_with (fail);(with_reducible refine(HY.out _).mono ?_);rintro e w3 ⟨rfl,rfl⟩;go_wp2_with (at_builtin;refine Eg rfl (.tmp 34) (.tmp 40) 123 rfl Tryz.underlying123 Hj.out Hy0.out Hy1.out Hy2.out rfl (by omega) rfl Hrow8.out (Nat.le_trans hlt2 (by simp)) (Cv _) Hxi.out rfl (Ag7 _ _ _ _ _ _ _ _) hLo.out.1 hLo.out.2 ?_;intro V6 w6 hrow6 hg6 hat6);have HN:Hid (MB S w #[.int .i64 6,.bool b',.int .i64 n',.string t',.slice la l'.length lc,.slice (some ⟨g1,off1,none⟩) o.length oc] o (q+1) w6 V6):=qz ⟨Hbw8.out.grown hg6 (Nat.le_trans hsz2 (by simp)) (fun k hk=>Nat.le_trans (Nat.le_succ _) (Hrow8.out.base k hk).1),(HI2.out.box.below Hw8.out hlt2).grown hg6 (fun e=>by have:=(Hrow8.out.base _ e.symm).1;omega),by
      have e:dO (o.take q)++ [dP (pkey,.mk pk pb pn pt pl po)]=dO (o.take (q+1)):=by rw[Htk.out,D4,D4];simp
      rw[<-e];exact hrow6⟩
     clear hrow6 hg6 hat6;go_wp2;go_roundw
     case rel=>exact⟨q+1,by go_num,by omega,hin',HN⟩
     case measure=>simp only[intOf];omega
  . obtain rfl:q=o.length:=by omega
    have hall: ∀p ∈ o,(J7 p.1 fs).isSome=true:=by
     have:=hin.out
     rwa [List.take_length]at this
    obtain⟨hi1,hi2,hi3⟩:=hI.out;rw[List.take_length]at hi3;obtain⟨aV,cV,rfl⟩:=hi3.slice_n (Dg o);have HJ0:Hid (Below w.heap.size w wr/\Bo S (w.heap.size+1) Tpr 7 wr (dO o) (.slice aV o.length cV)):=⟨hi1,hi3⟩;clear hi1 hi2 hi3 hI hin;have Hall:=qz hall;clear hall;go_upto_region 10 with(fail);go_wp2_with (fail);go_loopw [45] (fun i wr=> ∃q:Nat,i=.int .i64 q/\q<=fs.length/\Hid (∀f ∈ fs.take q,((Av f.1 o).isSome||decide (f.2=1))=true)/\Hid (Below w.heap.size w wr/\Bo S (w.heap.size+1) Tpr 7 wr (dO o) (.slice aV o.length cV))) (fun i _=>fs.length - (intOf i).toNat)
    case atStart=>exact⟨0,rfl,Nat.zero_le _,qz (by simp),HJ0⟩
    case round=>
     obtain⟨q,rfl,hq,hin,hI⟩:=hrel;clear HJ0;have hq0:(0:Int)<=q:=by omega
     have hz:=hI.out.1.size;by_cases hlt:q<fs.length
     . obtain⟨p,hp⟩: ∃p,fs[q]? =some p:=⟨_,List.getElem?_eq_getElem (by omega)⟩;obtain⟨fk,fv⟩:=p;have hFw:=HF.out.below hI.out.1;have c0:=hFw.key q _ hp;have c1:=hFw.has q _ hp;have hgr:=hFw.lt;have hq1:(q:Int)<(fs.length:Int):=by omega
       have hba:=Aa wr (.cells #[.string fk,.int .i64 fv] 135);have hI2:Below w.heap.size w (wr.alloc (.cells #[.string fk,.int .i64 fv] 135))/\Bo S (w.heap.size+1) Tpr 7 (wr.alloc (.cells #[.string fk,.int .i64 fv] 135)) (dO o) (.slice aV o.length cV):=⟨hI.out.1.trans (hba.mono hz),hI.out.2.below hba⟩;have Hmb:=qz (Aj.new wr 135 #[.string fk,.int .i64 fv]);have HV:=qz (Ji o aV cV fk _ hI2.2.close (by omega));have Htk:=qz (show fs.take (q+1)=fs.take q++ [(fk,fv)]from by rw[List.take_add_one,hp];simp);have Hmem:Hid ((fk,fv) ∈ fs):=List.mem_of_getElem? hp;obtain⟨HI2,HFw⟩:=hid2 hI2 hFw;clear hI2 hFw;clear hI hba;go_wp2_with (fail);(with_reducible refine(HV.out).mono ?_);rintro e w2 hr2;obtain⟨hb2,xb,xn,xla,xln,xlc,xoa,xon,xoc,rfl,_⟩:=hr2.six;have hI3:Below w.heap.size w w2/\Bo S (w.heap.size+1) Tpr 7 w2 (dO o) (.slice aV o.length cV):=⟨HI2.out.1.trans (hb2.mono HI2.out.1.size),HI2.out.2.below hb2⟩;have hm2:=Hmb.out.below hb2 Hmb.out.lt;have hba:=Aa w2 (.cells #[.int .i64 (kOf (Av fk o)),.bool xb,.int .i64 xn,.string (tOf (Av fk o)),.slice xla xln xlc,.slice xoa xon xoc] 42);have HI4:Hid (Below w.heap.size w (w2.alloc (.cells #[.int .i64 (kOf (Av fk o)),.bool xb,.int .i64 xn,.string (tOf (Av fk o)),.slice xla xln xlc,.slice xoa xon xoc] 42))/\Bo S (w.heap.size+1) Tpr 7 (w2.alloc (.cells #[.int .i64 (kOf (Av fk o)),.bool xb,.int .i64 xn,.string (tOf (Av fk o)),.slice xla xln xlc,.slice xoa xon xoc] 42)) (dO o) (.slice aV o.length cV)):=⟨hI3.1.trans (hba.mono hI3.1.size),hI3.2.below hba⟩;have hmc1:=hm2.cell 1;have hml:=hm2.lt;have hmr:=Hmb.out.lt;have Hm2:=qz hm2;clear hm2;clear hr2 hI3 hba hb2;by_cases hok:((Av fk o).isSome||decide (fv=1))=true
       . have hin':Hid (∀f ∈ fs.take (q+1),((Av f.1 o).isSome||decide (f.2=1))=true):=by
          refine qz ?_;rw[Htk.out];intro p hp;rcases List.mem_append.1 hp with h|h
          . exact hin.out p h
          . obtain rfl:=List.mem_singleton.1 h;exact hok
         clear hin
         cases hs:(Av fk o).isSome with
         |true=>
          clear hok;go_wp2_with (fail);(with_reducible refine(HY.out _).mono ?_);rintro e w3 ⟨rfl,rfl⟩;go_wp2;go_roundw
          case rel=>exact⟨q+1,by go_num,by omega,hin',HI4⟩
          case measure=>simp only[intOf];omega
         |false=>
          rw[hs,Bool.false_or,decide_eq_true_eq]at hok;subst hok;go_wp2_with (fail);(with_reducible refine(HY.out _).mono ?_);rintro e w3 ⟨rfl,rfl⟩;go_wp2;go_roundw
          case rel=>exact⟨q+1,by go_num,by omega,hin',HI4⟩
          case measure=>simp only[intOf];omega
       . have hno:=hok;simp only[Bool.or_eq_true,not_or,Bool.not_eq_true,decide_eq_true_eq]at hno;obtain⟨hs,hne⟩:=hno;have e1:(fv==1)=false:=by simpa using hne
         have hP:I6 S 6 o fs w (Fg 10) (w2.alloc (.cells #[.int .i64 (kOf (Av fk o)),.bool xb,.int .i64 xn,.string (tOf (Av fk o)),.slice xla xln xlc,.slice xoa xon xoc] 42)):=⟨HI4.out.1,by
          have hb:Ri o fs=false:=by
           unfold Ri;rw[Bool.and_eq_false_iff]
           right
           rw[List.all_eq_false];exact⟨_,Hmem.out,hok⟩
          rw[if_neg (by decide),if_pos hb]⟩
         have HP:=qz hP;clear hP;clear hok hne hin;rw[hs];go_wp2_with (fail);(with_reducible refine(HN.out _).mono ?_);rintro e w3 ⟨rfl,rfl⟩;go_wp2;exact⟨rfl,HP.out⟩
     . obtain rfl:q=fs.length:=by omega
       have hb:Ri o fs=true:=by
        have h2:=hin.out;rw[List.take_length]at h2;unfold Ri;rw[Bool.and_eq_true,List.all_eq_true,List.all_eq_true];exact⟨Hall.out,h2⟩
       have Hb:=qz hb;clear hb;clear hin;go_wp2;go_ret;refine⟨hI.out.1, ?_⟩;rw[if_neg (by decide),if_neg (by rw[Hb.out];simp)];exact⟨_,_,rfl,hI.out.2.closeIn.mono fun i _ hi=>hi.imp id fun e=>by have:=(hI.out.2.base i e).1;omega⟩
abbrev Af:TypeId:=45
theorem Cq {P:Program} {fn:Func} {t:Tmp} {ty tb:TypeId} {tmps:Array Value} {W:World} {R:Nat} {cs:Array Value} {d:TypeDesc} (h:fn.results= #[.cell t ty]) (hp:tmps.getD t undef=.pointer (some ⟨R,0,none⟩)) (hx:Aj W R tb cs)
 (hu:P.underlying ty=some d) (hd:d.isRow=true) (hi:(P.info? ty).map (·.size)=some cs.size):(results fn tmps).run P W=.ok (.agg cs) W:=by
 have hl:=run_loadVar_mid (P:=P) W R 0 ty cs.toList d (Bf hx) hu hd (by simpa using hi);have hp':tmps[t]?.getD undef=.pointer (some ⟨R,0,none⟩):=by simpa using hp
 simp[results,h,hp',asAddr,hl]
abbrev B4:Array Value:= #[.int .i64 0,.string ⟨#[]⟩,.string ⟨#[]⟩,.int .i64 0,.bool false,.int .i64 0,.bool false,.int .i64 0,.string ⟨#[]⟩,.slice none 0 0,.slice none 0 0,.bool false,.int .i64 0,.bool false,.int .i64 0,.string ⟨#[]⟩,.slice none 0 0,.slice none 0 0,.slice none 0 0]
abbrev Gp (key dst:ByteArray):Array Value:= #[.int .i64 0,.string key,.string dst,.int .i64 0,.bool false,.int .i64 0,.bool false,.int .i64 0,.string ⟨#[]⟩,.slice none 0 0,.slice none 0 0,.bool false,.int .i64 0,.bool false,.int .i64 0,.string ⟨#[]⟩,.slice none 0 0,.slice none 0 0,.slice none 0 0]
def Acu (o:List (ByteArray×Val)) (w:World) (e:Ending) (w':World):Prop:=Below w.heap.size w w'/\e=if kOf (Av ⟨#[107,101,121]⟩ o)=4 then .returned (.agg (Gp (tOf (Av ⟨#[107,101,121]⟩ o)) ⟨#[]⟩))else Fg 9
structure RB (w wr:World) (cs:Array Value):Prop where
 below:Below w.heap.size w wr
 res:Aj wr w.heap.size Af cs
theorem RB.call {w wr w':World} {cs:Array Value} (h:RB w wr cs) (hb:Below wr.heap.size wr w'):RB w w' cs:=⟨h.below.trans (hb.mono h.below.size),h.res.below hb h.res.lt⟩
theorem Ab3 (o:List (ByteArray×Val)) (a:Option Addr) (c:Nat) (w:World) (h:Ai w w.heap.size (.row 7 (dO o)) [.slice a o.length c]) (hl:o.length<=100000000):
 Calls Tryz.prog 69 #[.slice a o.length c] w (Acu o w):=by
 have hI0:RB w (w.alloc (.cells B4 Af)) B4:=⟨(Below.refl _ _).alloc (Nat.le_refl _) _,Aj.new w _ _⟩;obtain⟨wi,hwi⟩: ∃wi,w.alloc (.cells B4 Af)=wi:=⟨_,rfl⟩;rw[hwi]at hI0;have HT:=qz (E6 o a c ⟨#[107,101,121]⟩ wi ((h.below hI0.below).more hI0.below.size) hl);have hz0:=hI0.below.size;have HI0:=qz hI0;clear hI0;go_enter Tryz.func69,Tryz.ntmps69;go_upto_region 1 with(fail);clear hwi;go_wp2_with (fail);(with_reducible refine(HT.out).mono ?_);rintro e w2 ⟨hb2,rfl⟩;have hI2:=HI0.out.call hb2;have hP:Below w.heap.size w w2:=hI2.below;generalize hk:kOf (Av ⟨#[107,101,121]⟩ o)=k;generalize ht:tOf (Av ⟨#[107,101,121]⟩ o)=t;by_cases h4:k=4
 . subst h4;rw[if_pos rfl];have hP2:Acu o w (.returned (.agg (Gp t ⟨#[]⟩))) w2->Acu o w (.returned (.agg (Gp t ⟨#[]⟩))) w2:=id;obtain⟨HI2,Hk,Ht,HP⟩:=hid4 hI2 hk ht hP;clear hI2 hk ht hP;clear hb2;dsimp only
   iterate 5 go_step
   refine Ff (cs:=B4) Af (.tmp 2) (.tmp 5) rfl w.heap.size 0 HI2.out.res (.agg (Gp t ⟨#[]⟩)) rfl rfl (Nat.le_of_ble_eq_true rfl) (by kernel_rfl) (by simp[Value.cells,Value.oneCell']) HI2.out.below (Nat.le_refl _) ?_;intro w3 hx3 hb3;have hx4:Aj w3 w.heap.size Af (Gp t ⟨#[]⟩):=by
    have hx:=hx3;rw[show(Value.agg (Gp t ⟨#[]⟩)).cells=Gp t ⟨#[]⟩from by simp only[Value.cells],B3 B4 (Gp t ⟨#[]⟩) rfl]at hx;exact hx
   clear hx3;have Hx4:=qz hx4;clear hx4
   repeat go_step
   refine bodyPost_ret (Cq rfl rfl Hx4.out Tryz.underlying45 rfl (by kernel_rfl)) rfl ⟨hb3, ?_⟩;rw[Hk.out,Ht.out,if_pos rfl]
 . rw[if_neg h4];obtain⟨Hk,Ht,HP,H4⟩:=hid4 hk ht hP h4;clear hk ht hP h4;clear hb2 hI2;go_wp2;refine⟨rfl,HP.out, ?_⟩;rw[Hk.out,if_neg H4.out]
abbrev B6:TypeId:=131
theorem Ng:(Tryz.prog.info? 131).map (fun i=>(i.zero,i.size,i.bytes))=some (some (.agg #[.string ⟨#[]⟩,.int .i64 0,.bool false,.int .i64 0,.string ⟨#[]⟩,.slice none 0 0,.slice none 0 0]),7,104):=by kernel_rfl
theorem Nh {b:Nat} {w:World} {o:List (ByteArray×Val)} {V:Value} (h:Bo (fun i=>b<=i) b B6 7 w (dO o) V) (ho:0<o.length):Et b w o V:=by
 obtain⟨ns,h1,h2,h3⟩:=h;rw[Dg]at h1;obtain⟨g,c,rfl,hg,hlt⟩:=h1.form ho;exact⟨g,c,ns,rfl,hg,hlt,fun w'' k1 k2=>h3 w'' k1 (fun p p1 p2=>k2 p p1.1 p2),fun j u hu=>by have:=h1.cells (g:=g) rfl j u hu;rwa [Fw,Nat.zero_add]at this⟩
theorem Oe (w:World) (a0 a1 a2 a3 a4 a5 a6:Value):B5 (w.alloc (.cells #[a0,a1,a2,a3,a4,a5,a6] B6)) (w.heap.size+1) 7 (some ⟨w.heap.size,0,none⟩) 1 [a0,a1,a2,a3,a4,a5,a6]:=Ge (Aj.new w B6 #[a0,a1,a2,a3,a4,a5,a6])
theorem Et.keep {b:Nat} {w w':World} {o:List (ByteArray×Val)} {V:Value} (h:Et b w o V) (hb:Below w.heap.size w w'):Et b w' o V:=by
 obtain⟨g,c,ns,rfl,h1,h2,h3,h4⟩:=h;exact⟨g,c,ns,rfl,h1,Nat.lt_of_lt_of_le h2 hb.size,h3.later hb,fun j u hu=>(hb.cell (p:=⟨g,j,none⟩) h2).trans (h4 j u hu)⟩
theorem Af8 (y0:Value) (key:ByteArray) (y2 y3 y5 y6 y7 y8 y9 y10 y11 y12 y13 y14 y15 y16 y17 y18:Value) (w:World) (was:Val):
 Calls Tryz.prog 125 #[.agg #[y0,.string key,y2,y3,.bool false,y5,y6,y7,y8,y9,y10,y11,y12,y13,y14,y15,y16,y17,y18]] w (Cn (Br key false was) w):=by
 have HC:=qz (fun W=>Bg key W);go_enter Tryz.func125,Tryz.ntmps125;go_wp2_with (fail);(with_reducible refine(HC.out _).mono ?_);rintro e w1 ⟨rfl,hb1⟩;have hbw:=(Aa w _).trans (hb1.mono (by simp));have hz:=hbw.size;have hx1:=(Aj.new w 45 #[y0,.string key,y2,y3,.bool false,y5,y6,y7,y8,y9,y10,y11,y12,y13,y14,y15,y16,y17,y18]).below hb1 (Aj.new _ _ _).lt;have d4:=hx1.cell 4;have hg4:=hx1.lt;obtain⟨Hbw,Hx1,Hb1⟩:=hid3 hbw hx1 hb1;clear hbw hx1 hb1;go_wp2;go_ret;exact⟨Hbw.out.alloc hz _,_,rfl,D0 hz rfl (Bc.one (Dz _ _ As key))⟩
theorem Ad5 (y0:Value) (key:ByteArray) (y2 y3:Value) (k:Int) (b:Bool) (n:Int) (t:ByteArray) (l:List Val) (o:List (ByteArray×Val)) (la oa:Option Addr) (lc oc:Nat) (y11 y12 y13 y14 y15 y16 y17 y18:Value) (w:World)
 (hV:Ac w w.heap.size (.mk k b n t l o) [.int .i64 k,.bool b,.int .i64 n,.string t,.slice la l.length lc,.slice oa o.length oc]) (hb:(Val.mk k b n t l o).bulk<=100000000):
 Calls Tryz.prog 125 #[.agg #[y0,.string key,y2,y3,.bool true,.int .i64 k,.bool b,.int .i64 n,.string t,.slice la l.length lc,.slice oa o.length oc,y11,y12,y13,y14,y15,y16,y17,y18]] w (Cn (Br key true (.mk k b n t l o)) w):=by
 have HC:=qz (fun W=>Bg key W);have HD:Hid (∀W,Below w.heap.size w W->Calls Tryz.prog 34 #[.agg #[.int .i64 k,.bool b,.int .i64 n,.string t,.slice la l.length lc,.slice oa o.length oc]] W (Ga W (.mk k b n t l o))):=fun W hB=>Hd _ _ W (Ac.more hB.size _ _ (hV.below hB)) hb;obtain⟨j0,hj,hy0,hy1,hy2⟩:=info_parts Ng;obtain⟨wi,hwi⟩: ∃wi,w.alloc (.cells #[y0,.string key,y2,y3,.bool true,.int .i64 k,.bool b,.int .i64 n,.string t,.slice la l.length lc,.slice oa o.length oc,y11,y12,y13,y14,y15,y16,y17,y18] 45)=wi:=⟨_,rfl⟩;have Hbi:Hid (Below w.heap.size w wi):=hwi▸Aa _ _;have hxb:Aj wi w.heap.size 45 #[y0,.string key,y2,y3,.bool true,.int .i64 k,.bool b,.int .i64 n,.string t,.slice la l.length lc,.slice oa o.length oc,y11,y12,y13,y14,y15,y16,y17,y18]:=hwi▸Aj.new _ _ _;have d1:=hxb.cell 1;have hgb:=hxb.lt;obtain⟨Hxb,Hj,Hy0,Hy1,Hy2⟩:=hid5 hxb hj hy0 hy1 hy2;clear hxb hj hy0 hy1 hy2;clear hV;go_enter Tryz.func125,Tryz.ntmps125;go_upto_region 1 with(fail);clear hwi;go_wp2_with (fail);(with_reducible refine(HC.out _).mono ?_);rintro e w1 ⟨rfl,hb1⟩;have hx1:=Hxb.out.below hb1 hgb;have hz1:=hb1.size;clear d1;obtain⟨w2,hw2⟩: ∃w2,w1.alloc (.cells #[.string As,.int .i64 4,.bool false,.int .i64 0,.string key,.slice none 0 0,.slice none 0 0] B6)=w2:=⟨_,rfl⟩;have hb2:Below w1.heap.size w1 w2:=hw2▸Aa _ _;have hx2:=hx1.below hb2 hx1.lt;have hw12:=Hbi.out.trans (hb1.mono Hbi.out.size);have hrow2:Bo (fun i=>w.heap.size<=i) w.heap.size B6 7 w2 [dP (As,tv key)] (.slice (some ⟨w1.heap.size,0,none⟩) 1 1):=by
  rw[<-hw2];exact Bo.lit (cs:= #[.string As,.int .i64 4,.bool false,.int .i64 0,.string key,.slice none 0 0,.slice none 0 0]) hw12.size (Cv _) (B8 _ _ As key)
 have Hsz2:=qz (show w2.heap.size=w1.heap.size+1 from by rw[<-hw2];simp);have d4:=hx2.cell 4;have d5:=hx2.cell 5;have d6:=hx2.cell 6;have d7:=hx2.cell 7;have d8:=hx2.cell 8;have d9:=hx2.cell 9;have d10:=hx2.cell 10;have hgb2:=hx2.lt;have Hw22:=qz (hw12.trans (hb2.mono hw12.size));obtain⟨Hb1,Hb2,Hx1,Hx2,Hrow2,Hw12⟩:=hid6 hb1 hb2 hx1 hx2 hrow2 hw12;clear hb1 hb2 hx1 hx2 hrow2 hw12;go_upto_region 3 with(fail);clear hw2;go_wp2_with (fail);(with_reducible refine(HD.out _ Hw22.out).mono ?_);rintro e w3 ⟨⟨cs4,rfl,hl4,hf4⟩,hb3⟩;obtain⟨la2,lc2,oa2,oc2,rfl⟩:=Eu hf4;have Hrow3:=qz (Hrow2.out.below hb3);obtain⟨Hf4,Hb3⟩:=hid2 hf4 hb3;have hz3:=hb3.size;have Hw32:=qz (Hw22.out.trans (hb3.mono Hw22.out.size));clear hf4 hb3 hl4 d4 d5 d6 d7 d8 d9 d10;have hdO:dO (Br key true (.mk k b n t l o))= [dP (As,tv key)]++ [dP (Cp,.mk k b n t l o)]:=by simp[Br,dO]
 have HdO:=qz hdO;have hX:Ab (fun i=>w.heap.size<=i/\(Value.slice (some ⟨w1.heap.size,0,none⟩) 1 1).ownBlock≠some i) (w3.alloc (.cells #[.string Cp,.int .i64 k,.bool b,.int .i64 n,.string t,.slice la2 l.length lc2,.slice oa2 o.length oc2] B6)) (dP (Cp,.mk k b n t l o)) [.string Cp,.int .i64 k,.bool b,.int .i64 n,.string t,.slice la2 l.length lc2,.slice oa2 o.length oc2]:=
  (Ab.of_fresh ((Da (key:=Cp) Hf4.out).later (Aa w3 (.cells #[.string Cp,.int .i64 k,.bool b,.int .i64 n,.string t,.slice la2 l.length lc2,.slice oa2 o.length oc2] B6)))).mono fun i _ hi=>by
    have hi':w2.heap.size<=i:=hi;have h1:=Hw22.out.size;have h2:=Hsz2.out;exact⟨by omega,fun e=>absurd (Option.some.inj (show some w1.heap.size=some i from e)) (by omega)⟩
 have HX:=qz hX;clear hdO hX;go_wp2_with (at_builtin;refine Eg rfl (.tmp 11) (.tmp 16) 123 rfl Tryz.underlying123 Hj.out Hy0.out Hy1.out Hy2.out rfl (by omega) rfl (Hrow3.out.below (Aa _ _)) (Nat.le_trans Hw32.out.size (by simp)) (Cv _) HX.out rfl (Oe _ _ _ _ _ _ _ _) (by simp[maxLen]) (by simp) ?_;intro V6 w6 hrow6 hg6 hat6);rw[<-HdO.out]at hrow6;go_ret;exact⟨Im (Hw32.out.alloc Hw32.out.size _) hg6 Hrow3.out (Nat.le_refl _) (Nat.le_trans Hw32.out.size (by simp)),V6,rfl,Nh hrow6 (by simp[Br])⟩
theorem Mi (y0:Value) (key:ByteArray) (y2 y3:Value) (had:Bool) (k:Int) (b:Bool) (n:Int) (t:ByteArray) (l:List Val) (o:List (ByteArray×Val)) (la oa:Option Addr) (lc oc:Nat) (y11 y12 y13 y14 y15 y16 y17 y18:Value) (w:World)
 (hV:Ac w w.heap.size (.mk k b n t l o) [.int .i64 k,.bool b,.int .i64 n,.string t,.slice la l.length lc,.slice oa o.length oc]) (hb:(Val.mk k b n t l o).bulk<=100000000):
 Calls Tryz.prog 125 #[.agg #[y0,.string key,y2,y3,.bool had,.int .i64 k,.bool b,.int .i64 n,.string t,.slice la l.length lc,.slice oa o.length oc,y11,y12,y13,y14,y15,y16,y17,y18]] w (Cn (Br key had (.mk k b n t l o)) w):=by
 cases had with
 |false=>exact Af8 _ _ _ _ _ _ _ _ _ _ _ _ _ _ _ _ _ _ _ _
 |true=>exact Ad5 _ _ _ _ _ _ _ _ _ _ _ _ _ _ _ _ _ _ _ _ _ _ _ hV hb
theorem Et.parts {b:Nat} {w:World} {o:List (ByteArray×Val)} {V:Value} (h:Et b w o V):
 ∃g c ns,V=.slice (some ⟨g,0,none⟩) o.length c/\b<=g/\g<w.heap.size/\B5 w w.heap.size 7 (some ⟨g,0,none⟩) o.length ns/\A6 (fun i=>b<=i) w (dO o) ns:=by
 obtain⟨g,c,ns,rfl,h1,h2,h3,h4⟩:=h;refine⟨g,c,ns,rfl,h1,h2,⟨?_,fun _=>⟨_,rfl,h2,fun j u hu=>by rw[Fw,Nat.zero_add];exact h4 j u hu⟩⟩,h3⟩;rw[h3.now.len.1,Lj (Cu o),Dg]
theorem A6.mono {S T:Nat->Prop} {w:World} {l:List D} {cs:List Value} (h:A6 S w l cs) (hST: ∀i,i<w.heap.size->S i->T i):A6 T w l cs:=
 fun w'' h1 h2=>h w'' h1 fun p p1 p2=>h2 p (hST _ p2 p1) p2
theorem K5 (key:ByteArray) (had:Bool) (was:Val):(Br key had was).length<=2/\0<(Br key had was).length:=by
 unfold Br
 cases had<;>simp
theorem Ajm (a b:List (ByteArray×Val)):dO (a++b)=dO a++dO b:=by rw[D4,D4,D4,List.map_append]
theorem Aiy (y0:Value) (key:ByteArray) (y2 y3:Value) (had:Bool) (k:Int) (b:Bool) (n:Int) (t:ByteArray) (l:List Val) (o:List (ByteArray×Val)) (la oa:Option Addr) (lc oc:Nat) (y12 y13 y14 y15 y16 y17 y18:Value) (w:World)
 (hV:Ac w w.heap.size (.mk k b n t l o) [.int .i64 k,.bool b,.int .i64 n,.string t,.slice la l.length lc,.slice oa o.length oc]) (hb:(Val.mk k b n t l o).bulk<=100000000):
 Calls Tryz.prog 124 #[.agg #[y0,.string key,y2,y3,.bool had,.int .i64 k,.bool b,.int .i64 n,.string t,.slice la l.length lc,.slice oa o.length oc,.bool false,y12,y13,y14,y15,y16,y17,y18]] w (Cn (Br key had (.mk k b n t l o)) w):=by
 have hC:=fun W (hW:Below w.heap.size w W)=>Mi y0 key y2 y3 had k b n t l o la oa lc oc (.bool false) y12 y13 y14 y15 y16 y17 y18 W (Ac.more hW.size _ _ (hV.below hW)) hb;obtain⟨j0,hj,hy0,hy1,hy2⟩:=info_parts Ng;have Hxb:=qz (Aj.new w 45 #[y0,.string key,y2,y3,.bool had,.int .i64 k,.bool b,.int .i64 n,.string t,.slice la l.length lc,.slice oa o.length oc,.bool false,y12,y13,y14,y15,y16,y17,y18]);have hgl:=K5 key had (.mk k b n t l o);have hdl:=Dg (Br key had (.mk k b n t l o));generalize Br key had (.mk k b n t l o)=G at hC hgl hdl ⊢;obtain⟨HC,Hj,Hy0,Hy1,Hy2,Hgl,Hdl⟩:=hid7 hC hj hy0 hy1 hy2 hgl hdl;clear hC hj hy0 hy1 hy2 hgl hdl;clear hV;go_enter Tryz.func124,Tryz.ntmps124;go_upto_region 4 with(fail)
 iterate 5 go_step
 refine Ae 45 (.tmp 1) rfl w.heap.size _ Hxb.out rfl _ Tryz.underlying45 rfl (by kernel_rfl) ?_;go_wp2_with (fail);(with_reducible refine(HC.out _ (Aa _ _)).mono ?_);rintro e w1 ⟨hb1,V,rfl,hP⟩;obtain⟨g,c,ns,rfl,hbg,hlt,hR,hA⟩:=hP.parts;have Hw1:=qz ((Aa w (.cells #[y0,.string key,y2,y3,.bool had,.int .i64 k,.bool b,.int .i64 n,.string t,.slice la l.length lc,.slice oa o.length oc,.bool false,y12,y13,y14,y15,y16,y17,y18] 45)).trans (hb1.mono (by simp)));have HX:Hid (A6 (fun i=>w.heap.size<=i/\(Value.slice none 0 0).ownBlock≠some i) w1 (dO G) ns):=hA.mono fun i _ hi=>⟨by have:(w.alloc (.cells #[y0,.string key,y2,y3,.bool had,.int .i64 k,.bool b,.int .i64 n,.string t,.slice la l.length lc,.slice oa o.length oc,.bool false,y12,y13,y14,y15,y16,y17,y18] 45)).heap.size<=i:=hi;simp at this;omega,by simp[Value.ownBlock]⟩;obtain⟨Hb1,HP,HR⟩:=hid3 hb1 hP hR;clear hb1 hP hR;clear hA;go_wp2_with (at_builtin;refine L3 rfl (.tmp 13) (.tmp 15) 123 rfl Tryz.underlying123 Hj.out Hy0.out Hy1.out Hy2.out rfl (by omega) rfl (Bo.nil (fun i=>w.heap.size<=i) w.heap.size B6 7 w1) Hw1.out.size (Cu _) HX.out rfl HR.out Hdl.out.symm (by have:=Hgl.out;simp[maxLen];omega) (by have:=Hgl.out;simp;omega) ?_;intro V6 w6 hrow6 hg6 hat6);rw[List.nil_append]at hrow6;go_ret;exact⟨Im Hw1.out hg6 (Bo.nil (fun i=>w.heap.size<=i) w.heap.size B6 7 w1) (Nat.le_refl _) Hw1.out.size,V6,rfl,Nh hrow6 Hgl.out.2⟩
theorem Ahh (y0:Value) (key:ByteArray) (y2 y3:Value) (had:Bool) (k:Int) (b:Bool) (n:Int) (t:ByteArray) (l:List Val) (o:List (ByteArray×Val)) (la oa:Option Addr) (lc oc:Nat) (k':Int) (b':Bool) (n':Int) (t':ByteArray) (l':List Val) (o':List (ByteArray×Val)) (la' oa':Option Addr) (lc' oc':Nat) (y18:Value) (w:World)
 (hV:Ac w w.heap.size (.mk k b n t l o) [.int .i64 k,.bool b,.int .i64 n,.string t,.slice la l.length lc,.slice oa o.length oc]) (hb:(Val.mk k b n t l o).bulk<=100000000) (hV':Ac w w.heap.size (.mk k' b' n' t' l' o') [.int .i64 k',.bool b',.int .i64 n',.string t',.slice la' l'.length lc',.slice oa' o'.length oc']) (hb':(Val.mk k' b' n' t' l' o').bulk<=100000000):
 Calls Tryz.prog 124 #[.agg #[y0,.string key,y2,y3,.bool had,.int .i64 k,.bool b,.int .i64 n,.string t,.slice la l.length lc,.slice oa o.length oc,.bool true,.int .i64 k',.bool b',.int .i64 n',.string t',.slice la' l'.length lc',.slice oa' o'.length oc',y18]] w (Cn ((Kg,.mk k' b' n' t' l' o')::Br key had (.mk k b n t l o)) w):=by
 have hC:=fun W (hW:Below w.heap.size w W)=>Mi y0 key y2 y3 had k b n t l o la oa lc oc (.bool true) (.int .i64 k') (.bool b') (.int .i64 n') (.string t') (.slice la' l'.length lc') (.slice oa' o'.length oc') y18 W (Ac.more hW.size _ _ (hV.below hW)) hb;have HD:Hid (∀W,Below w.heap.size w W->Calls Tryz.prog 34 #[.agg #[.int .i64 k',.bool b',.int .i64 n',.string t',.slice la' l'.length lc',.slice oa' o'.length oc']] W (Ga W (.mk k' b' n' t' l' o'))):=fun W hB=>Hd _ _ W (Ac.more hB.size _ _ (hV'.below hB)) hb';obtain⟨j0,hj,hy0,hy1,hy2⟩:=info_parts Ng;obtain⟨wi,hwi⟩: ∃wi,w.alloc (.cells #[y0,.string key,y2,y3,.bool had,.int .i64 k,.bool b,.int .i64 n,.string t,.slice la l.length lc,.slice oa o.length oc,.bool true,.int .i64 k',.bool b',.int .i64 n',.string t',.slice la' l'.length lc',.slice oa' o'.length oc',y18] 45)=wi:=⟨_,rfl⟩;have Hbi:Hid (Below w.heap.size w wi):=hwi▸Aa _ _;have hxb:Aj wi w.heap.size 45 #[y0,.string key,y2,y3,.bool had,.int .i64 k,.bool b,.int .i64 n,.string t,.slice la l.length lc,.slice oa o.length oc,.bool true,.int .i64 k',.bool b',.int .i64 n',.string t',.slice la' l'.length lc',.slice oa' o'.length oc',y18]:=hwi▸Aj.new _ _ _;have d11:=hxb.cell 11;have d12:=hxb.cell 12;have d13:=hxb.cell 13;have d14:=hxb.cell 14;have d15:=hxb.cell 15;have d16:=hxb.cell 16;have d17:=hxb.cell 17;have hgb:=hxb.lt;have hgl:=K5 key had (.mk k b n t l o);have hdl:=Dg (Br key had (.mk k b n t l o));have hap:=Ajm [(Kg,.mk k' b' n' t' l' o')] (Br key had (.mk k b n t l o));generalize Br key had (.mk k b n t l o)=G at hC hgl hdl hap ⊢;obtain⟨HC,Hxb,Hj,Hy0,Hy1,Hy2,Hgl,Hdl,Hap⟩:=hid9 hC hxb hj hy0 hy1 hy2 hgl hdl hap;clear hC hxb hj hy0 hy1 hy2 hgl hdl hap;clear hV hV';go_enter Tryz.func124,Tryz.ntmps124;go_upto_region 3 with(fail);clear hwi;go_wp2_with (fail);(with_reducible refine(HD.out _ Hbi.out).mono ?_);rintro e w3 ⟨⟨cs4,rfl,hl4,hf4⟩,hb3⟩;obtain⟨la2,lc2,oa2,oc2,rfl⟩:=Eu hf4;have hw3:=Hbi.out.trans (hb3.mono Hbi.out.size);have hz3:=hw3.size;have Hx3:=qz ((Hxb.out.below hb3 hgb).alloc (.cells #[.string Kg,.int .i64 k',.bool b',.int .i64 n',.string t',.slice la2 l'.length lc2,.slice oa2 o'.length oc2] B6));have hX:Ab (fun i=>w.heap.size<=i/\(Value.slice none 0 0).ownBlock≠some i) (w3.alloc (.cells #[.string Kg,.int .i64 k',.bool b',.int .i64 n',.string t',.slice la2 l'.length lc2,.slice oa2 o'.length oc2] B6)) (dP (Kg,.mk k' b' n' t' l' o')) [.string Kg,.int .i64 k',.bool b',.int .i64 n',.string t',.slice la2 l'.length lc2,.slice oa2 o'.length oc2]:=
  (Ab.of_fresh ((Da (key:=Kg) hf4).later (Aa w3 (.cells #[.string Kg,.int .i64 k',.bool b',.int .i64 n',.string t',.slice la2 l'.length lc2,.slice oa2 o'.length oc2] B6)))).mono fun i _ hi=>by
    have hi':wi.heap.size<=i:=hi;have h1:=Hbi.out.size;exact⟨by omega,by simp[Value.ownBlock]⟩
 obtain⟨Hb3,Hf4,Hw3,HX⟩:=hid4 hb3 hf4 hw3 hX;clear hb3 hf4 hw3 hX;clear d11 d12 d13 d14 d15 d16 d17 hl4;go_wp2_with (at_builtin;apply Shut.out);unfold Shut;refine Eg (V:=.slice none 0 0) rfl (.tmp 6) (.tmp 11) 123 rfl Tryz.underlying123 Hj.out Hy0.out Hy1.out Hy2.out rfl (by omega) rfl (Bo.nil (fun i=>w.heap.size<=i) w.heap.size B6 7 _) (Nat.le_trans Hw3.out.size (by simp)) (Cv _) HX.out rfl (Oe _ _ _ _ _ _ _ _) (by simp[maxLen]) (by simp) ?_;intro V6 w6 hrow6 hg6 hat6;rw[List.nil_append]at hrow6;have Hx6:=qz (Hx3.out.grown hg6 (by simp[Value.ownBlock]));have hw6:=Im (Hw3.out.alloc Hw3.out.size _) hg6 (Bo.nil (fun i=>w.heap.size<=i) w.heap.size B6 7 w3) (Nat.le_refl _) (Nat.le_trans Hw3.out.size (by simp));have hz6:=hw6.size;obtain⟨Hw6,Hrow6⟩:=hid2 hw6 hrow6;clear hw6 hrow6 hg6 hat6;go_upto_region 4 with(fail)
 iterate 5 go_step
 refine Ae 45 (.tmp 1) rfl w.heap.size _ Hx6.out rfl _ Tryz.underlying45 rfl (by kernel_rfl) ?_;go_wp2_with (fail);(with_reducible refine(HC.out _ Hw6.out).mono ?_);rintro e w7 ⟨hb7,V,rfl,hP⟩;obtain⟨g,c,ns,rfl,hbg,hlt,hR,hA⟩:=hP.parts;have Hw7:=qz (Hw6.out.trans (hb7.mono Hw6.out.size));have Hrow7:=qz (Hrow6.out.below hb7);have hX7:A6 (fun i=>w.heap.size<=i/\V6.ownBlock≠some i) w7 (dO G) ns:=hA.mono fun i _ hi=>by
  have hi':w6.heap.size<=i:=hi;exact⟨by omega,fun e=>by have:=(Hrow6.out.base i e).2;omega⟩
 obtain⟨Hb7,HP,HR,HX7⟩:=hid4 hb7 hP hR hX7;clear hb7 hP hR hX7;clear hA;go_wp2_with (at_builtin;refine L3 rfl (.tmp 13) (.tmp 15) 123 rfl Tryz.underlying123 Hj.out Hy0.out Hy1.out Hy2.out rfl (by omega) rfl Hrow7.out Hw7.out.size (Cu _) HX7.out rfl HR.out Hdl.out.symm (by have:=Hgl.out;simp[maxLen];omega) (by have:=Hgl.out;simp;omega) ?_;intro V8 w8 hrow8 hg8 hat8);have hrow9:Bo (fun i=>w.heap.size<=i) w.heap.size B6 7 w8 (dO ((Kg,.mk k' b' n' t' l' o')::G)) V8:=by
  have:=Hap.out;simp only[List.singleton_append]at this;rw[this];exact hrow8
 go_ret;exact⟨Im Hw7.out hg8 Hrow7.out (Nat.le_refl _) Hw7.out.size,V8,rfl,Nh hrow9 (by simp)⟩
end Go.Proofs.YtobmaegpfbheoaaGreatDoor
