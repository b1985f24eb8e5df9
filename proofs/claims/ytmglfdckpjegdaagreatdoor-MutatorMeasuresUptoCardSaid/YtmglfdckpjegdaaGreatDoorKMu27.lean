/- Parts: The reference's own values: Int, Text, Object, List; rows that share old memory. No condition. -/
import Derived.Test.YtmglfdckpjegdaaGreatDoorKMu19
import Derived.Test.YtmglfdckpjegdaaGreatDoorKMu24
set_option maxHeartbeats 20000000
namespace Go.Proofs.YtmglfdckpjegdaaGreatDoor
open Go Go.RowKit
def kOf:Option Val->Int
 |none=>0
 |some (.mk k _ _ _ _ _)=>k
def tOf:Option Val->ByteArray
 |none=>⟨#[]⟩
 |some (.mk _ _ _ t _ _)=>t
theorem Nl.six {o:List (ByteArray×Val)} {key:ByteArray} {w w':World} {e:Ending} (h:Nl o key w e w'):Below w.heap.size w w'/\ ∃b n la ln lc oa on oc,
 e=.returned (.tuple #[.agg #[.int .i64 (kOf (As key o)),.bool b,.int .i64 n,.string (tOf (As key o)),.slice la ln lc,.slice oa on oc],.bool (As key o).isSome])/\
 ∀x,As key o=some x->Holds w w.heap.size (dV x) [.int .i64 (kOf (As key o)),.bool b,.int .i64 n,.string (tOf (As key o)),.slice la ln lc,.slice oa on oc]:=by
 obtain⟨hb,h⟩:=h;refine⟨hb, ?_⟩
 cases hf:As key o with
 |none=>
  rw[hf]at h;exact⟨false,0,none,0,0,none,0,0,h,fun x e=>by cases e⟩
 |some x=>
  rw[hf]at h;obtain⟨cs,rfl,hh⟩:=h;obtain⟨k,b,n,t,l,ob⟩:=x;have h6:=B8 _ _ hh;simp only[Ab]at h6;obtain⟨la,lc,oa,oc,rfl,_,_⟩:=h6;exact⟨b,n,la,l.length,lc,oa,ob.length,oc,rfl,fun y e=>by cases e;exact hh⟩
abbrev Gg (c:Int):Ending:=.panicked [{v:=.iface 137 (.agg #[.int .i64 c]),recovered:=false}]
def Ahc (o:List (ByteArray×Val)) (key:ByteArray) (w:World) (e:Ending) (w':World):Prop:=Below w.heap.size w w'/\e=if kOf (As key o)=4 then .returned (.string (tOf (As key o)))else Gg 9
set_option maxRecDepth 100000 in
theorem F8 (o:List (ByteArray×Val)) (a:Option Addr) (c:Nat) (key:ByteArray) (w:World) (h:Holds w w.heap.size (.row 7 (dO o)) [.slice a o.length c]) (hl:o.length<=100000000):
 Calls Tryz.prog 67 #[.slice a o.length c,.string key] w (Ahc o key w):=by
 have hF:=K6 o a c key w h hl;have hY:=fun W=>D9 9 W;have hN:=fun W=>Ju 9 W;obtain⟨HF,HY,HN⟩:=hid3 hF hY hN;clear hF hY hN;clear h;go_enter Tryz.func67,Tryz.ntmps67;go_upto_region 1 with(fail);go_wp2_with (fail);(with_reducible refine(HF.out).mono ?_);rintro e w1 hp;obtain⟨hb1,b,n,la,ln,lc,oa,on,oc,rfl,_⟩:=hp.six;have hB:=hb1.alloc hb1.size (.cells #[.int .i64 (kOf (As key o)),.bool b,.int .i64 n,.string (tOf (As key o)),.slice la ln lc,.slice oa on oc] 27);have hP:Ahc o key w (if kOf (As key o)=4 then .returned (.string (tOf (As key o)))else Gg 9) (w1.alloc (.cells #[.int .i64 (kOf (As key o)),.bool b,.int .i64 n,.string (tOf (As key o)),.slice la ln lc,.slice oa on oc] 27)):=⟨hB,rfl⟩;clear hp hb1 hB HF;generalize kOf (As key o)=k at hP ⊢;generalize tOf (As key o)=t at hP ⊢;by_cases hk:k=4
 . subst hk;rw[if_pos rfl]at hP;have HP:=Lib.hid hP;clear hP;go_wp2_with (fail);(with_reducible refine(HY.out _).mono ?_);rintro e w2 ⟨rfl,rfl⟩;go_wp2;go_ret;exact HP.out
 . rw[if_neg hk]at hP;have e1:(k==4)=false:=by simpa using hk
   have HP:=Lib.hid hP;clear hP;clear hk;go_wp2_with (fail);(with_reducible refine(HN.out _).mono ?_);rintro e w2 ⟨rfl,rfl⟩;go_wp2;exact⟨rfl,HP.out⟩
abbrev zV0:Val:=.mk 0 false 0 ⟨#[]⟩ [] []
theorem Rk (w:World) (B:Nat):Holds w B (dV zV0) [.int .i64 0,.bool false,.int .i64 0,.string ⟨#[]⟩,.slice none 0 0,.slice none 0 0]:=by
 refine Fp _ _ ?_;simp only[Ab];exact⟨none,0,none,0,rfl,by simp,by simp⟩
theorem Nl.held {o:List (ByteArray×Val)} {key:ByteArray} {w w':World} {e:Ending} (h:Nl o key w e w'):Below w.heap.size w w'/\ ∃k b n t l ob la lc oa oc,(As key o).getD zV0=.mk k b n t l ob/\
 e=.returned (.tuple #[.agg #[.int .i64 k,.bool b,.int .i64 n,.string t,.slice la (l:List Val).length lc,.slice oa (ob:List (ByteArray×Val)).length oc],.bool (As key o).isSome])/\
 Holds w w.heap.size (dV (.mk k b n t l ob)) [.int .i64 k,.bool b,.int .i64 n,.string t,.slice la l.length lc,.slice oa ob.length oc]:=by
 obtain⟨hb,h⟩:=h;refine⟨hb, ?_⟩
 cases hf:As key o with
 |none=>
  rw[hf]at h;exact⟨0,false,0,⟨#[]⟩, [], [],none,0,none,0,rfl,h,Rk _ _⟩
 |some x=>
  rw[hf]at h;obtain⟨cs,rfl,hh⟩:=h;obtain⟨k,b,n,t,l,ob⟩:=x;have h6:=B8 _ _ hh;simp only[Ab]at h6;obtain⟨la,lc,oa,oc,rfl,_,_⟩:=h6;exact⟨k,b,n,t,l,ob,la,lc,oa,oc,rfl,rfl,hh⟩
def Anc (o:List (ByteArray×Val)) (key:ByteArray) (w:World) (e:Ending) (w':World):Prop:=Below w.heap.size w w'/\ ∃cs:List Value,e=.returned (.tuple #[.agg cs.toArray,.bool (As key o).isSome])/\Au w.heap.size w' (dV ((As key o).getD zV0)) cs
set_option maxRecDepth 100000 in
theorem Kv (o:List (ByteArray×Val)) (a:Option Addr) (c:Nat) (key:ByteArray) (w:World) (h:Holds w w.heap.size (.row 7 (dO o)) [.slice a o.length c]) (hl:o.length<=100000000) (hb: ∀x,As key o=some x->x.bulk<=100000000):
 Calls Tryz.prog 106 #[.slice a o.length c,.string key] w (Anc o key w):=by
 have hI0:FN w (w.alloc (.cells Ap 27)):=⟨(Below.refl _ _).alloc (Nat.le_refl _) _,Al.new w _ _⟩;obtain⟨wi,hwi⟩: ∃wi,w.alloc (.cells Ap 27)=wi:=⟨_,rfl⟩;rw[hwi]at hI0;have hF:=K6 o a c key wi ((h.below hI0.below).more hI0.below.size) hl;obtain⟨HF,HI0,Hb⟩:=hid3 hF hI0 hb;clear hF hI0 hb;go_enter Tryz.func106,Tryz.ntmps106;go_upto_region 1 with(fail);clear hwi;go_wp2_with (fail);(with_reducible refine(HF.out).mono ?_);rintro e w1 hp;obtain⟨hb1,k,b,n,t,l,ob,la,lc,oa,oc,hg,rfl,hx⟩:=hp.held;have hbk:(Val.mk k b n t l ob).bulk<=100000000:=by
  rw[<-hg]
  cases hf:As key o with
  |none=>decide
  |some x=>exact Hb.out x hf
 have hI1:FN w (w1.alloc (.cells #[.int .i64 k,.bool b,.int .i64 n,.string t,.slice la l.length lc,.slice oa ob.length oc] 27)):=
  FN.alloc ⟨HI0.out.below.trans (hb1.mono HI0.out.below.size),HI0.out.res.below hb1 HI0.out.res.lt⟩ _
 have hxb:=Al.new w1 27 #[.int .i64 k,.bool b,.int .i64 n,.string t,.slice la l.length lc,.slice oa ob.length oc];have hC:=Mp _ _ (w1.alloc (.cells #[.int .i64 k,.bool b,.int .i64 n,.string t,.slice la l.length lc,.slice oa ob.length oc] 27)) (B8 _ _ (((hx.below hb1).more hb1.size).below (Aa _ _) |>.more (by simp))) hbk;have hsz:=HI0.out.below.size;obtain⟨HI1,Hxb,HC,Hg⟩:=hid4 hI1 hxb hC hg;clear hI1 hxb hC hg;clear hp hb1 hx HI0;go_wp2_with (fail);(with_reducible refine(HC.out).mono ?_);rintro e w4 ⟨⟨cs4,rfl,hl4,hf4⟩,hb4⟩;obtain⟨xla,xlc,xoa,xoc,rfl⟩:=Ge hf4;have hI4:FN w w4:=⟨HI1.out.below.trans (hb4.mono HI1.out.below.size),HI1.out.res.below hb4 HI1.out.res.lt⟩;obtain⟨r0,r1,r2,r3,r4,r5⟩:=Bo hI4.res;have fz:=hI4.res.frozen;have lt1:=hI4.res.lt;have hlow:=HI1.out.res.lt;obtain⟨HI4,Hf4,Hb4⟩:=hid3 hI4 hf4 hb4;clear hI4 hf4 hb4;dsimp only
 repeat go_step
 have hxf:=(((((HI4.out.res.set_ 0 (.int .i64 k)).set_ 1 (.bool b)).set_ 2 (.int .i64 n)).set_ 3 (.string t)).set_ 4 (.slice xla l.length xlc)).set_ 5 (.slice xoa ob.length xoc);have hbf:=A7 [.int .i64 k,.bool b,.int .i64 n,.string t,.slice xla l.length xlc,.slice xoa ob.length xoc] HI4.out.below (Nat.le_refl w.heap.size) (o:=0);have hff:=Hf4.out.keep (b':=w.heap.size) (w':=Bi w4 w.heap.size 0 [.int .i64 k,.bool b,.int .i64 n,.string t,.slice xla l.length xlc,.slice xoa ob.length xoc]) (by omega) (by rw[A9];exact Nat.le_refl _) (fun p p1 _=>World.cell?_of_block (A0 _ _ _ _ _ (by omega)));refine bodyPost_ret (Du rfl rfl hxf) rfl ⟨hbf,_,rfl, ?_⟩;rw[Hg.out];exact hff
abbrev Tpr:TypeId:=99
theorem Aov:(Tryz.prog.info? 99).map (fun i=>(i.zero,i.size,i.bytes))=some (some (.agg #[.string ⟨#[]⟩,.int .i64 0,.bool false,.int .i64 0,.string ⟨#[]⟩,.slice none 0 0,.slice none 0 0]),7,104):=by kernel_rfl
theorem Amx (w:World) (a0 a1 a2 a3 a4 a5 a6:Value):Cy (w.alloc (.cells #[a0,a1,a2,a3,a4,a5,a6] Tpr)) (w.heap.size+1) 7 (some ⟨w.heap.size,0,none⟩) 1 [a0,a1,a2,a3,a4,a5,a6]:=Kk (Al.new w Tpr #[a0,a1,a2,a3,a4,a5,a6])
theorem Apc {S:Nat->Prop} {w:World} {key:ByteArray} {v:Val} {cs:List Value} (h:Ae S w (dV v) cs):Ae S w (dP (key,v)) (.string key::cs):=fun w'' h1 h2=>⟨[.string key],cs,rfl,⟨rfl,rfl⟩,cs, [],(List.append_nil _).symm,h w'' h1 h2,rfl⟩
def Ud (o:List (ByteArray×Val)) (fs:List (ByteArray×Int)):Bool:=(o.all fun p=>(Ly p.1 fs).isSome)&&fs.all fun f=>(As f.1 o).isSome||decide (f.2=1)
def Kq (S:Nat->Prop) (k:Int) (o:List (ByteArray×Val)) (fs:List (ByteArray×Int)) (w:World) (e:Ending) (w':World):Prop:=Below w.heap.size w w'/\
 if k≠6 then e=Gg 9 else if Ud o fs=false then e=Gg 10 else ∃a c,e=.returned (.slice a o.length c)/\Ae (fun i=>S i\/w.heap.size<=i) w' (.row 7 (dO o)) [.slice a o.length c]
structure MB (S:Nat->Prop) (w:World) (six:Array Value) (o:List (ByteArray×Val)) (q:Nat) (wr:World) (V:Value):Prop where
 below:Below w.heap.size w wr
 box:Al wr w.heap.size 27 six
 row:C9 S (w.heap.size+1) Tpr 7 wr (dO (o.take q)) V
theorem MB.later {S:Nat->Prop} {w wr w':World} {six:Array Value} {o:List (ByteArray×Val)} {q:Nat} {V:Value} (h:MB S w six o q wr V) (hb:Below wr.heap.size wr w'):MB S w six o q w' V:=
 ⟨h.below.trans (hb.mono h.below.size),h.box.below hb h.box.lt,h.row.below hb⟩
set_option maxRecDepth 100000 in
theorem L3 (S:Nat->Prop) (k':Int) (b':Bool) (n':Int) (t':ByteArray) (l':List Val) (o:List (ByteArray×Val)) (la lc oa oc) (fs:List (ByteArray×Int)) (g off fc:Nat) (w:World)
 (h:Ae S w (.row 7 (dO o)) [.slice oa o.length oc]) (hF:Fld w g off fs) (hol:o.length<=100000000) (hfl:fs.length<=1000000):
 Calls Tryz.prog 95 #[.agg #[.int .i64 k',.bool b',.int .i64 n',.string t',.slice la l'.length lc,.slice oa o.length oc],.slice (some ⟨g,off,none⟩) fs.length fc] w (Kq S k' o fs w):=by
 obtain⟨j0,hj,hy0,hy1,hy2⟩:=info_parts Aov;have hY9:=fun W=>D9 9 W;have hN9:=fun W=>Ju 9 W;have hY:=fun W=>D9 10 W;have hN:=fun W=>Ju 10 W;have hI0:MB S w #[.int .i64 k',.bool b',.int .i64 n',.string t',.slice la l'.length lc,.slice oa o.length oc] o 0 (w.alloc (.cells #[.int .i64 k',.bool b',.int .i64 n',.string t',.slice la l'.length lc,.slice oa o.length oc] 27)) (.slice none 0 0):=
  ⟨(Below.refl _ _).alloc (Nat.le_refl _) _,Al.new w _ _,by simpa[dO]using C9.nil _ _ _ _ _⟩
 by_cases hk:k'=6;rotate_left
 . have e1:(k'==6)=false:=by simpa using hk
   have hP:Kq S k' o fs w (Gg 9) (w.alloc (.cells #[.int .i64 k',.bool b',.int .i64 n',.string t',.slice la l'.length lc,.slice oa o.length oc] 27)):=⟨hI0.below,by rw[if_pos hk]⟩;obtain⟨HP,HN9,Hj,Hy0,Hy1,Hy2,HI0,H,HF,HY9,HY,HN⟩:=hid12 hP hN9 hj hy0 hy1 hy2 hI0 h hF hY9 hY hN;clear hP hN9 hj hy0 hy1 hy2 hI0 h hF hY9 hY hN;clear hk;go_enter Tryz.func95,Tryz.ntmps95;go_wp2_with (fail);(with_reducible refine(HN9.out _).mono ?_);rintro e w2 ⟨rfl,rfl⟩;go_wp2;exact⟨rfl,HP.out⟩
 subst hk;have hFF:=fun key (W:World) (hB:Below w.heap.size w W)=>Acq fs g off fc key W (hF.below hB) (by omega);obtain⟨Hj,Hy0,Hy1,Hy2,HI0,H,HF,HY9,HN9,HY,HN,HFF⟩:=hid12 hj hy0 hy1 hy2 hI0 h hF hY9 hN9 hY hN hFF;clear hj hy0 hy1 hy2 hI0 h hF hY9 hN9 hY hN hFF;go_enter Tryz.func95,Tryz.ntmps95;go_wp2_with (fail);(with_reducible refine(HY9.out _).mono ?_);rintro e w2 ⟨rfl,rfl⟩;have y5:=HI0.out.box.cell 5;have yl:=HI0.out.box.lt;go_upto_region 4 with(fail);clear y5 yl;go_loopw [5,21] (fun V i wr=> ∃q:Nat,i=.int .i64 q/\q<=o.length/\Hid (∀p ∈ o.take q,(Ly p.1 fs).isSome=true)/\Hid (MB S w #[.int .i64 6,.bool b',.int .i64 n',.string t',.slice la l'.length lc,.slice oa o.length oc] o q wr V)) (fun _ i _=>o.length - (intOf i).toNat)
 case atStart=>exact⟨0,rfl,Nat.zero_le _,Lib.hid (by simp),HI0⟩
 case round=>
  obtain⟨q,rfl,hq,hin,hI⟩:=hrel;clear HI0;have hq0:(0:Int)<=q:=by omega
  by_cases hlt:q<o.length
  . obtain⟨p,hp⟩: ∃p,o[q]? =some p:=⟨_,List.getElem?_eq_getElem (by omega)⟩;obtain⟨pkey,⟨pk,pb,pn,pt,pl,po⟩⟩:=p;have hz:=hI.out.below.size;obtain⟨g1,off1,rfl,hg1,pla,plc,poa,poc,hv,d0,d1,d2,d3,d4,d5,d6⟩:=Ade H.out hp;have c0:=(hI.out.below.cell (p:=⟨g1,off1+q*7,none⟩) hg1).trans d0;have c1:=(hI.out.below.cell (p:=⟨g1,off1+q*7+1,none⟩) hg1).trans d1;have c2:=(hI.out.below.cell (p:=⟨g1,off1+q*7+2,none⟩) hg1).trans d2;have c3:=(hI.out.below.cell (p:=⟨g1,off1+q*7+3,none⟩) hg1).trans d3;have c4:=(hI.out.below.cell (p:=⟨g1,off1+q*7+4,none⟩) hg1).trans d4;have c5:=(hI.out.below.cell (p:=⟨g1,off1+q*7+5,none⟩) hg1).trans d5;have c6:=(hI.out.below.cell (p:=⟨g1,off1+q*7+6,none⟩) hg1).trans d6;clear d0 d1 d2 d3 d4 d5 d6;have hgr:g1<wr.heap.size:=Nat.lt_of_lt_of_le hg1 hz;have hq1:(q:Int)<(o.length:Int):=by omega
    have hIa:=hI.out.later (Aa wr (.cells #[.string pkey,.int .i64 pk,.bool pb,.int .i64 pn,.string pt,.slice pla pl.length plc,.slice poa po.length poc] 63));have hmb:=Al.new wr 63 #[.string pkey,.int .i64 pk,.bool pb,.int .i64 pn,.string pt,.slice pla pl.length plc,.slice poa po.length poc];have htk:o.take (q+1)=o.take q++ [(pkey,.mk pk pb pn pt pl po)]:=by rw[List.take_add_one,hp];simp
    have hmem:(pkey,Val.mk pk pb pn pt pl po) ∈ o:=List.mem_of_getElem? hp;obtain⟨HIa,Hmb,Hv,Hp,Htk,Hmem⟩:=hid6 hIa hmb hv hp htk hmem;clear hIa hmb hv hp htk hmem;clear hI;go_wp2_with (fail);(with_reducible refine(HFF.out pkey _ HIa.out.below).mono ?_);rintro e w2 ⟨hb2,rfl⟩;have hI2:=HIa.out.later hb2;have hm2:=Hmb.out.below hb2 Hmb.out.lt
    cases hs:(Ly pkey fs).isSome with
    |false=>
     have hP:Kq S 6 o fs w (Gg 10) w2:=⟨hI2.below,by
      have hb:Ud o fs=false:=by
       unfold Ud;rw[Bool.and_eq_false_iff]
       left
       rw[List.all_eq_false];exact⟨_,Hmem.out,by rw[hs];simp⟩
      rw[if_neg (by decide),if_pos hb]⟩
     obtain⟨HP,HI2,Hm2⟩:=hid3 hP hI2 hm2;clear hP hI2 hm2;clear hs hin;go_wp2_with (fail);(with_reducible refine(HN.out _).mono ?_);rintro e w3 ⟨rfl,rfl⟩;go_wp2;exact⟨rfl,HP.out⟩
    |true=>
     have hin':Hid (∀p ∈ o.take (q+1),(Ly p.1 fs).isSome=true):=by
      refine Lib.hid ?_;rw[Htk.out];intro p hp;rcases List.mem_append.1 hp with h|h
      . exact hin.out p h
      . obtain rfl:=List.mem_singleton.1 h;exact hs
     obtain⟨aV,cV,rfl⟩:=hI2.row.slice;have hdl:(dO (o.take q)).length=q:=by rw[Fv,List.length_take];omega
     have m0:=hm2.cell 0;have m1:=hm2.cell 1;have m2:=hm2.cell 2;have m3:=hm2.cell 3;have m4:=hm2.cell 4;have m5:=hm2.cell 5;have m6:=hm2.cell 6;have ml:=hm2.lt;have hw8:=Aa w2 (.cells #[.string pkey,.int .i64 pk,.bool pb,.int .i64 pn,.string pt,.slice pla pl.length plc,.slice poa po.length poc] Tpr);have hbw8:=hI2.below.trans (hw8.mono hI2.below.size);have hrow8:=hI2.row.below hw8;have hxi:=((Apc (key:=pkey) Hv.out).mono (T:=fun i=>S i/\(Value.slice aV (dO (o.take q)).length cV).ownBlock≠some i) (fun i h0 hi=>⟨hi,fun e=>by have:=(hI2.row.base i e).1;omega⟩)).below hbw8;have hsz2:=hI2.below.size;have hlt2:=hI2.box.lt;have hLo:Hid ((dO (o.take q)).length+1<=maxLen/\((dO (o.take q)).length+1)*104<=140737488355328):=by rw[hdl];exact⟨by simp only[maxLen];omega,by omega⟩
     obtain⟨HI2,Hm2,Hw8,Hbw8,Hrow8,Hxi⟩:=hid6 hI2 hm2 hw8 hbw8 hrow8 hxi;clear hI2 hm2 hw8 hbw8 hrow8 hxi;clear hs hin hdl c0 c1 c2 c3 c4 c5 c6;go_wp2_with (fail);(with_reducible refine(HY.out _).mono ?_);rintro e w3 ⟨rfl,rfl⟩;go_wp2_with (at_builtin;refine Fh rfl (.tmp 34) (.tmp 40) 91 rfl Tryz.underlying91 Hj.out Hy0.out Hy1.out Hy2.out rfl (by omega) rfl Hrow8.out (Nat.le_trans hlt2 (by simp)) (Ey _) Hxi.out rfl (Amx _ _ _ _ _ _ _ _) hLo.out.1 hLo.out.2 ?_;intro V6 w6 hrow6 hg6 hat6);have HN:Hid (MB S w #[.int .i64 6,.bool b',.int .i64 n',.string t',.slice la l'.length lc,.slice (some ⟨g1,off1,none⟩) o.length oc] o (q+1) w6 V6):=Lib.hid ⟨Hbw8.out.grown hg6 (Nat.le_trans hsz2 (by simp)) (fun k hk=>Nat.le_trans (Nat.le_succ _) (Hrow8.out.base k hk).1),(HI2.out.box.below Hw8.out hlt2).grown hg6 (fun e=>by have:=(Hrow8.out.base _ e.symm).1;omega),by
      have e:dO (o.take q)++ [dP (pkey,.mk pk pb pn pt pl po)]=dO (o.take (q+1)):=by rw[Htk.out,Gb,Gb];simp
      rw[<-e];exact hrow6⟩
     clear hrow6 hg6 hat6;go_wp2;go_roundw
     case rel=>exact⟨q+1,by go_num,by omega,hin',HN⟩
     case measure=>simp only[intOf];omega
  . obtain rfl:q=o.length:=by omega
    have hall: ∀p ∈ o,(Ly p.1 fs).isSome=true:=by
     have:=hin.out
     rwa [List.take_length]at this
    obtain⟨hi1,hi2,hi3⟩:=hI.out;rw[List.take_length]at hi3;obtain⟨aV,cV,rfl⟩:=hi3.slice_n (Fv o);have hJ0:Below w.heap.size w wr/\C9 S (w.heap.size+1) Tpr 7 wr (dO o) (.slice aV o.length cV):=⟨hi1,hi3⟩;clear hi1 hi2 hi3 hI hin;obtain⟨HJ0,Hall⟩:=hid2 hJ0 hall;clear hJ0 hall;go_upto_region 10 with(fail);go_wp2_with (fail);go_loopw [45] (fun i wr=> ∃q:Nat,i=.int .i64 q/\q<=fs.length/\Hid (∀f ∈ fs.take q,((As f.1 o).isSome||decide (f.2=1))=true)/\Hid (Below w.heap.size w wr/\C9 S (w.heap.size+1) Tpr 7 wr (dO o) (.slice aV o.length cV))) (fun i _=>fs.length - (intOf i).toNat)
    case atStart=>exact⟨0,rfl,Nat.zero_le _,Lib.hid (by simp),HJ0⟩
    case round=>
     obtain⟨q,rfl,hq,hin,hI⟩:=hrel;clear HJ0;have hq0:(0:Int)<=q:=by omega
     have hz:=hI.out.1.size;by_cases hlt:q<fs.length
     . obtain⟨p,hp⟩: ∃p,fs[q]? =some p:=⟨_,List.getElem?_eq_getElem (by omega)⟩;obtain⟨fk,fv⟩:=p;have hFw:=HF.out.below hI.out.1;have c0:=hFw.key q _ hp;have c1:=hFw.has q _ hp;have hgr:=hFw.lt;have hq1:(q:Int)<(fs.length:Int):=by omega
       have hba:=Aa wr (.cells #[.string fk,.int .i64 fv] 103);have hI2:Below w.heap.size w (wr.alloc (.cells #[.string fk,.int .i64 fv] 103))/\C9 S (w.heap.size+1) Tpr 7 (wr.alloc (.cells #[.string fk,.int .i64 fv] 103)) (dO o) (.slice aV o.length cV):=⟨hI.out.1.trans (hba.mono hz),hI.out.2.below hba⟩;have hmb:=Al.new wr 103 #[.string fk,.int .i64 fv];have hV:=K6 o aV cV fk _ hI2.2.close (by omega);have htk:fs.take (q+1)=fs.take q++ [(fk,fv)]:=by rw[List.take_add_one,hp];simp
       have hmem:(fk,fv) ∈ fs:=List.mem_of_getElem? hp;obtain⟨HI2,Hmb,HV,Htk,Hmem,HFw⟩:=hid6 hI2 hmb hV htk hmem hFw;clear hI2 hmb hV htk hmem hFw;clear hI hba;go_wp2_with (fail);(with_reducible refine(HV.out).mono ?_);rintro e w2 hr2;obtain⟨hb2,xb,xn,xla,xln,xlc,xoa,xon,xoc,rfl,_⟩:=hr2.six;have hI3:Below w.heap.size w w2/\C9 S (w.heap.size+1) Tpr 7 w2 (dO o) (.slice aV o.length cV):=⟨HI2.out.1.trans (hb2.mono HI2.out.1.size),HI2.out.2.below hb2⟩;have hm2:=Hmb.out.below hb2 Hmb.out.lt;have hba:=Aa w2 (.cells #[.int .i64 (kOf (As fk o)),.bool xb,.int .i64 xn,.string (tOf (As fk o)),.slice xla xln xlc,.slice xoa xon xoc] 27);have hI4:Below w.heap.size w (w2.alloc (.cells #[.int .i64 (kOf (As fk o)),.bool xb,.int .i64 xn,.string (tOf (As fk o)),.slice xla xln xlc,.slice xoa xon xoc] 27))/\C9 S (w.heap.size+1) Tpr 7 (w2.alloc (.cells #[.int .i64 (kOf (As fk o)),.bool xb,.int .i64 xn,.string (tOf (As fk o)),.slice xla xln xlc,.slice xoa xon xoc] 27)) (dO o) (.slice aV o.length cV):=⟨hI3.1.trans (hba.mono hI3.1.size),hI3.2.below hba⟩;have hmc1:=hm2.cell 1;have hml:=hm2.lt;have hmr:=Hmb.out.lt;obtain⟨HI4,Hm2⟩:=hid2 hI4 hm2;clear hI4 hm2;clear hr2 hI3 hba hb2;by_cases hok:((As fk o).isSome||decide (fv=1))=true
       . have hin':Hid (∀f ∈ fs.take (q+1),((As f.1 o).isSome||decide (f.2=1))=true):=by
          refine Lib.hid ?_;rw[Htk.out];intro p hp;rcases List.mem_append.1 hp with h|h
          . exact hin.out p h
          . obtain rfl:=List.mem_singleton.1 h;exact hok
         clear hin
         cases hs:(As fk o).isSome with
         |true=>
          clear hok;go_wp2_with (fail);(with_reducible refine(HY.out _).mono ?_);rintro e w3 ⟨rfl,rfl⟩;go_wp2;go_roundw
          case rel=>exact⟨q+1,by go_num,by omega,hin',HI4⟩
          case measure=>simp only[intOf];omega
         |false=>
          rw[hs,Bool.false_or,decide_eq_true_eq]at hok;subst hok;go_wp2_with (fail);(with_reducible refine(HY.out _).mono ?_);rintro e w3 ⟨rfl,rfl⟩;go_wp2;go_roundw
          case rel=>exact⟨q+1,by go_num,by omega,hin',HI4⟩
          case measure=>simp only[intOf];omega
       . have hno:=hok;simp only[Bool.or_eq_true,not_or,Bool.not_eq_true,decide_eq_true_eq]at hno;obtain⟨hs,hne⟩:=hno;have e1:(fv==1)=false:=by simpa using hne
         have hP:Kq S 6 o fs w (Gg 10) (w2.alloc (.cells #[.int .i64 (kOf (As fk o)),.bool xb,.int .i64 xn,.string (tOf (As fk o)),.slice xla xln xlc,.slice xoa xon xoc] 27)):=⟨HI4.out.1,by
          have hb:Ud o fs=false:=by
           unfold Ud;rw[Bool.and_eq_false_iff]
           right
           rw[List.all_eq_false];exact⟨_,Hmem.out,hok⟩
          rw[if_neg (by decide),if_pos hb]⟩
         have HP:=Lib.hid hP;clear hP;clear hok hne hin;rw[hs];go_wp2_with (fail);(with_reducible refine(HN.out _).mono ?_);rintro e w3 ⟨rfl,rfl⟩;go_wp2;exact⟨rfl,HP.out⟩
     . obtain rfl:q=fs.length:=by omega
       have hb:Ud o fs=true:=by
        have h2:=hin.out;rw[List.take_length]at h2;unfold Ud;rw[Bool.and_eq_true,List.all_eq_true,List.all_eq_true];exact⟨Hall.out,h2⟩
       have Hb:=Lib.hid hb;clear hb;clear hin;go_wp2;go_ret;refine⟨hI.out.1, ?_⟩;rw[if_neg (by decide),if_neg (by rw[Hb.out];simp)];exact⟨_,_,rfl,hI.out.2.closeIn.mono fun i _ hi=>hi.imp id fun e=>by have:=(hI.out.2.base i e).1;omega⟩
abbrev Ag:TypeId:=30
theorem Fj {P:Program} {fn:Func} {t:Tmp} {ty tb:TypeId} {tmps:Array Value} {W:World} {R:Nat} {cs:Array Value} {d:TypeDesc} (h:fn.results= #[.cell t ty]) (hp:tmps.getD t undef=.pointer (some ⟨R,0,none⟩)) (hx:Al W R tb cs)
 (hu:P.underlying ty=some d) (hd:d.isRow=true) (hi:(P.info? ty).map (·.size)=some cs.size):(results fn tmps).run P W=.ok (.agg cs) W:=by
 have hl:=run_loadVar_mid (P:=P) W R 0 ty cs.toList d (Cz hx) hu hd (by simpa using hi);have hp':tmps[t]?.getD undef=.pointer (some ⟨R,0,none⟩):=by simpa using hp
 simp[results,h,hp',asAddr,hl]
abbrev Cx:Array Value:= #[.int .i64 0,.string ⟨#[]⟩,.string ⟨#[]⟩,.int .i64 0,.bool false,.int .i64 0,.bool false,.int .i64 0,.string ⟨#[]⟩,.slice none 0 0,.slice none 0 0,.bool false,.int .i64 0,.bool false,.int .i64 0,.string ⟨#[]⟩,.slice none 0 0,.slice none 0 0,.slice none 0 0]
abbrev Iz (key dst:ByteArray):Array Value:= #[.int .i64 0,.string key,.string dst,.int .i64 0,.bool false,.int .i64 0,.bool false,.int .i64 0,.string ⟨#[]⟩,.slice none 0 0,.slice none 0 0,.bool false,.int .i64 0,.bool false,.int .i64 0,.string ⟨#[]⟩,.slice none 0 0,.slice none 0 0,.slice none 0 0]
def Ahb (o:List (ByteArray×Val)) (w:World) (e:Ending) (w':World):Prop:=Below w.heap.size w w'/\e=if kOf (As ⟨#[107,101,121]⟩ o)=4 then .returned (.agg (Iz (tOf (As ⟨#[107,101,121]⟩ o)) ⟨#[]⟩))else Gg 9
structure RB (w wr:World) (cs:Array Value):Prop where
 below:Below w.heap.size w wr
 res:Al wr w.heap.size Ag cs
theorem RB.call {w wr w':World} {cs:Array Value} (h:RB w wr cs) (hb:Below wr.heap.size wr w'):RB w w' cs:=⟨h.below.trans (hb.mono h.below.size),h.res.below hb h.res.lt⟩
set_option maxRecDepth 100000 in
theorem Agm (o:List (ByteArray×Val)) (a:Option Addr) (c:Nat) (w:World) (h:Holds w w.heap.size (.row 7 (dO o)) [.slice a o.length c]) (hl:o.length<=100000000):
 Calls Tryz.prog 66 #[.slice a o.length c] w (Ahb o w):=by
 have hI0:RB w (w.alloc (.cells Cx Ag)) Cx:=⟨(Below.refl _ _).alloc (Nat.le_refl _) _,Al.new w _ _⟩;obtain⟨wi,hwi⟩: ∃wi,w.alloc (.cells Cx Ag)=wi:=⟨_,rfl⟩;rw[hwi]at hI0;have hT:=F8 o a c ⟨#[107,101,121]⟩ wi ((h.below hI0.below).more hI0.below.size) hl;have hz0:=hI0.below.size;obtain⟨HI0,HT⟩:=hid2 hI0 hT;clear hI0 hT;go_enter Tryz.func66,Tryz.ntmps66;go_upto_region 1 with(fail);clear hwi;go_wp2_with (fail);(with_reducible refine(HT.out).mono ?_);rintro e w2 ⟨hb2,rfl⟩;have hI2:=HI0.out.call hb2;have hP:Below w.heap.size w w2:=hI2.below;generalize hk:kOf (As ⟨#[107,101,121]⟩ o)=k;generalize ht:tOf (As ⟨#[107,101,121]⟩ o)=t;by_cases h4:k=4
 . subst h4;rw[if_pos rfl];have hP2:Ahb o w (.returned (.agg (Iz t ⟨#[]⟩))) w2->Ahb o w (.returned (.agg (Iz t ⟨#[]⟩))) w2:=id;obtain⟨HI2,Hk,Ht,HP⟩:=hid4 hI2 hk ht hP;clear hI2 hk ht hP;clear hb2;dsimp only
   iterate 5 go_step
   refine Gf (cs:=Cx) Ag (.tmp 2) (.tmp 5) rfl w.heap.size 0 HI2.out.res (.agg (Iz t ⟨#[]⟩)) rfl rfl (Nat.le_of_ble_eq_true rfl) (by kernel_rfl) (by simp[Value.cells,Value.oneCell']) HI2.out.below (Nat.le_refl _) ?_;intro w3 hx3 hb3;have hx4:Al w3 w.heap.size Ag (Iz t ⟨#[]⟩):=by
    have hx:=hx3;rw[show(Value.agg (Iz t ⟨#[]⟩)).cells=Iz t ⟨#[]⟩from by simp only[Value.cells],Dd Cx (Iz t ⟨#[]⟩) rfl]at hx;exact hx
   clear hx3;have Hx4:=Lib.hid hx4;clear hx4
   repeat go_step
   refine bodyPost_ret (Fj rfl rfl Hx4.out Tryz.underlying30 rfl (by kernel_rfl)) rfl ⟨hb3, ?_⟩;rw[Hk.out,Ht.out,if_pos rfl]
 . rw[if_neg h4];obtain⟨Hk,Ht,HP,H4⟩:=hid4 hk ht hP h4;clear hk ht hP h4;clear hb2 hI2;go_wp2;refine⟨rfl,HP.out, ?_⟩;rw[Hk.out,if_neg H4.out]
theorem Yu (w:World) (B:Nat) (key s:ByteArray):Holds w B (dP (key,tv s)) [.string key,.int .i64 4,.bool false,.int .i64 0,.string s,.slice none 0 0,.slice none 0 0]:=by
 have h1:Ab w B (tv s) [.int .i64 4,.bool false,.int .i64 0,.string s,.slice none 0 0,.slice none 0 0]:=by
  simp only[tv,Ab];exact⟨none,0,none,0,rfl,by simp,by simp⟩
 exact⟨[.string key],_,rfl,⟨rfl,rfl⟩,_, [],by simp,Fp _ _ h1,rfl⟩
theorem Yt (w:World) (B:Nat) (key:ByteArray) (n:Int):Holds w B (dP (key,iv n)) [.string key,.int .i64 3,.bool false,.int .i64 n,.string ⟨#[]⟩,.slice none 0 0,.slice none 0 0]:=by
 have h1:Ab w B (iv n) [.int .i64 3,.bool false,.int .i64 n,.string ⟨#[]⟩,.slice none 0 0,.slice none 0 0]:=by
  simp only[iv,Ab];exact⟨none,0,none,0,rfl,by simp,by simp⟩
 exact⟨[.string key],_,rfl,⟨rfl,rfl⟩,_, [],by simp,Fp _ _ h1,rfl⟩
theorem Et (b:Nat) (w:World) (key s:ByteArray):Au b w (dP (key,tv s)) [.string key,.int .i64 4,.bool false,.int .i64 0,.string s,.slice none 0 0,.slice none 0 0]:=fun _ _ _=>Yu _ _ _ _
theorem Ali {b:Nat} {w:World} {vs:List Val} {a:Option Addr} {n c:Nat} (h:Au b w (.row 6 (dL vs)) [.slice a n c]):Au b w (dV (lv vs)) [.int .i64 5,.bool false,.int .i64 0,.string ⟨#[]⟩,.slice a n c,.slice none 0 0]:=fun w'' h1 h2=>by
 simp only[lv,dV,Holds];exact Aj.six.2 ⟨[.slice a n c], [.slice none 0 0],rfl,rfl,rfl,rfl,rfl,h w'' h1 h2,⟨none,0,rfl,by simp[dO], [],rfl,by simp[dO]⟩⟩
theorem Bw (s:ByteArray) (w:World):Calls Tryz.prog 64 #[.string s] w fun e w'=>e=.returned (.agg #[.int .i64 4,.bool false,.int .i64 0,.string s,.slice none 0 0,.slice none 0 0])/\Below w.heap.size w w':=by
 go_enter Tryz.func64,Tryz.ntmps64;go_wp2;exact bodyPost_ret (v:=.agg #[.int .i64 4,.bool false,.int .i64 0,.string s,.slice none 0 0,.slice none 0 0]) (by simp[results,Tryz.results64,go_sem]) rfl ⟨rfl,(Below.refl _ _).alloc (Nat.le_refl _) _⟩
def Fr (b:Nat) (w:World) (o:List (ByteArray×Val)) (V:Value):Prop:= ∃g c ns,V=.slice (some ⟨g,0,none⟩) o.length c/\b<=g/\g<w.heap.size/\Bl b w (dO o) ns/\ ∀j u,ns[j]? =some u->w.cell? ⟨g,j,none⟩=some u
def Di (o:List (ByteArray×Val)) (w:World) (e:Ending) (w':World):Prop:=Below w.heap.size w w'/\ ∃V,e=.returned V/\Fr w.heap.size w' o V
theorem Eu {b:Nat} {w:World} {t:TypeId} {cs:Array Value} {o:List (ByteArray×Val)} {n c:Nat} (hb:b<=w.heap.size) (hn:n=o.length) (h:Bl b (w.alloc (.cells cs t)) (dO o) cs.toList):Fr b (w.alloc (.cells cs t)) o (.slice (some ⟨w.heap.size,0,none⟩) n c):=by
 subst hn;have hx:=Al.new w t cs;exact⟨_,c,cs.toList,rfl,hb,hx.lt,h,fun j u hu=>(hx.cell j).trans (by rw[<-Array.getElem?_toList];exact hu)⟩
theorem Bl.app {b:Nat} {w:World} {l r:List D} {cs es:List Value} (h:Bl b w l cs) (k:Bl b w r es):Bl b w (l++r) (cs++es):=fun w'' h1 h2=>(h w'' h1 h2).app (k w'' h1 h2)
theorem Bl.one {b:Nat} {w:World} {d:D} {cs:List Value} (h:Au b w d cs):Bl b w [d] cs:=fun w'' h1 h2=>Aj.one (h w'' h1 h2)
theorem Aiy (b:Nat) (w:World) (key:ByteArray) (n:Int):Au b w (dP (key,iv n)) [.string key,.int .i64 3,.bool false,.int .i64 n,.string ⟨#[]⟩,.slice none 0 0,.slice none 0 0]:=fun _ _ _=>Yt _ _ _ _
set_option maxRecDepth 100000 in
theorem Ag5 (y0:Value) (key:ByteArray) (y2 y3 y4 y5 y6 y7 y8 y9 y10 y11 y12 y13 y14 y15 y16 y17 y18:Value) (w:World):
 Calls Tryz.prog 68 #[.agg #[y0,.string key,y2,y3,y4,y5,y6,y7,y8,y9,y10,y11,y12,y13,y14,y15,y16,y17,y18]] w (Di [(Ar,tv key)] w):=by
 have hC:=fun W=>Bw key W;have HC:=Lib.hid hC;clear hC;go_enter Tryz.func68,Tryz.ntmps68;go_wp2_with (fail);(with_reducible refine(HC.out _).mono ?_);rintro e w1 ⟨rfl,hb1⟩;have hbw:=(Aa w _).trans (hb1.mono (by simp));have hz:=hbw.size;have Hbw:=Lib.hid hbw;clear hbw;go_wp2;go_ret;exact⟨Hbw.out.alloc hz _,_,rfl,Eu hz rfl (Bl.one (Et _ _ Ar key))⟩
set_option maxRecDepth 100000 in
theorem Aeo (y0:Value) (key dst:ByteArray) (y3 y4 y5 y6 y7 y8 y9 y10 y11 y12 y13 y14 y15 y16 y17 y18:Value) (w:World):
 Calls Tryz.prog 74 #[.agg #[y0,.string key,.string dst,y3,y4,y5,y6,y7,y8,y9,y10,y11,y12,y13,y14,y15,y16,y17,y18]] w (Di [(Dn,tv key),(Nj,tv dst)] w):=by
 have hC:=fun W=>Bw key W;have hD:=fun W=>Bw dst W;obtain⟨wi,hwi⟩: ∃wi,w.alloc (.cells #[y0,.string key,.string dst,y3,y4,y5,y6,y7,y8,y9,y10,y11,y12,y13,y14,y15,y16,y17,y18] 30)=wi:=⟨_,rfl⟩;have hbi:Below w.heap.size w wi:=hwi▸Aa _ _;have hxb:Al wi w.heap.size 30 #[y0,.string key,.string dst,y3,y4,y5,y6,y7,y8,y9,y10,y11,y12,y13,y14,y15,y16,y17,y18]:=hwi▸Al.new _ _ _;have d1:=hxb.cell 1;have d2:=hxb.cell 2;have hgb:=hxb.lt;obtain⟨HC,HD,Hbi,Hxb⟩:=hid4 hC hD hbi hxb;clear hC hD hbi hxb;go_enter Tryz.func74,Tryz.ntmps74;go_upto_region 1 with(fail);clear hwi
 go_region_held3 (fun W=>W.cell? ⟨w.heap.size,1,none⟩=some (.string key)/\W.cell? ⟨w.heap.size,2,none⟩=some (.string dst)) (go_keep) (first
  |(go_at_call 64;refine(HC.out _).mono ?_;rintro e w2 ⟨rfl,hb2⟩;have hbr2:Below wi.heap.size wi w2:=((Below.drew (Below.refl _ _)).trans hb2);obtain⟨hc2,hg2⟩:=Bc hbr2)
  |(go_at_call 64;refine(HD.out _).mono ?_;rintro e w3 ⟨rfl,hb3⟩;have hbr3:=hbr2.trans (hb3.mono hbr2.size);obtain⟨hc3,hg3⟩:=Bc hbr3))
 all_goals
  have HB:=Lib.hid (Hbi.out.trans (hbr3.mono Hbi.out.size));clear hc2 hg2 hc3 hg3 hb2 hb3 hbr2 hbr3;go_wp2;go_ret;exact⟨HB.out.alloc HB.out.size _,_,rfl,Eu HB.out.size rfl ((Bl.one (Et _ _ Dn key)).app (Bl.one (Et _ _ Nj dst)))⟩
set_option maxRecDepth 100000 in
theorem Ag6 (y0:Value) (key:ByteArray) (y2:Value) (n:Int) (y4 y5 y6 y7 y8 y9 y10 y11 y12 y13 y14 y15 y16 y17 y18:Value) (w:World):
 Calls Tryz.prog 72 #[.agg #[y0,.string key,y2,.int .i64 n,y4,y5,y6,y7,y8,y9,y10,y11,y12,y13,y14,y15,y16,y17,y18]] w (Di [(Od,iv n),(Ar,tv key)] w):=by
 have hC:=fun W=>Bw key W;go_enter Tryz.func72,Tryz.ntmps72;go_upto_region 2 with(fail);obtain⟨wi,hwi⟩: ∃wi,(w.alloc (.cells #[y0,.string key,y2,.int .i64 n,y4,y5,y6,y7,y8,y9,y10,y11,y12,y13,y14,y15,y16,y17,y18] 30)).alloc (.cells #[.int .i64 3,.bool false,.int .i64 n,.string ⟨#[]⟩,.slice none 0 0,.slice none 0 0] 27)=wi:=⟨_,rfl⟩;have hbi:Below w.heap.size w wi:=hwi▸((Aa _ _).alloc (by simp) _);have hxb:Al wi w.heap.size 30 #[y0,.string key,y2,.int .i64 n,y4,y5,y6,y7,y8,y9,y10,y11,y12,y13,y14,y15,y16,y17,y18]:=hwi▸(Al.new _ _ _).alloc _;have hxv:Al wi (w.heap.size+1) 27 #[.int .i64 3,.bool false,.int .i64 n,.string ⟨#[]⟩,.slice none 0 0,.slice none 0 0]:=by
  rw[<-hwi];have:=Al.new (w.alloc (.cells #[y0,.string key,y2,.int .i64 n,y4,y5,y6,y7,y8,y9,y10,y11,y12,y13,y14,y15,y16,y17,y18] 30)) 27 #[.int .i64 3,.bool false,.int .i64 n,.string ⟨#[]⟩,.slice none 0 0,.slice none 0 0]
  rwa [World.size_alloc]at this
 have d1:=hxb.cell 1;obtain⟨v0,v1,v2,v3,v4,v5⟩:=Bo hxv;have hgb:=hxb.lt;have hgv:=hxv.lt;obtain⟨HC,Hbi,Hxb,Hxv⟩:=hid4 hC hbi hxb hxv;clear hC hbi hxb hxv;rw[hwi];clear hwi
 go_region_held3 (fun W=>W.cell? ⟨w.heap.size,1,none⟩=some (.string key)/\W.cell? ⟨w.heap.size+1,0,none⟩=some (.int .i64 3)/\W.cell? ⟨w.heap.size+1,1,none⟩=some (.bool false)/\W.cell? ⟨w.heap.size+1,2,none⟩=some (.int .i64 n)/\W.cell? ⟨w.heap.size+1,3,none⟩=some (.string ⟨#[]⟩)/\W.cell? ⟨w.heap.size+1,4,none⟩=some (.slice none 0 0)/\W.cell? ⟨w.heap.size+1,5,none⟩=some (.slice none 0 0)) (go_keep) (first
  |(go_at_call 64;refine(HC.out _).mono ?_;rintro e w2 ⟨rfl,hb2⟩;have hbr2:Below wi.heap.size wi w2:=((Below.drew (Below.refl _ _)).trans hb2);obtain⟨hc2,hg2⟩:=Bc hbr2))
 all_goals
  have HB:=Lib.hid (Hbi.out.trans (hbr2.mono Hbi.out.size));clear hc2 hg2 hb2 hbr2;go_wp2;go_ret;exact⟨HB.out.alloc HB.out.size _,_,rfl,Eu HB.out.size rfl ((Bl.one (Aiy _ _ Od n)).app (Bl.one (Et _ _ Ar key)))⟩
set_option maxRecDepth 100000 in
theorem W6 (y0:Value) (key:ByteArray) (y2 y3 y4 y5 y6 y7 y8 y9 y10 y11:Value) (k:Int) (b:Bool) (n:Int) (t:ByteArray) (l:List Val) (o:List (ByteArray×Val)) (la oa:Option Addr) (lc oc:Nat) (y18:Value) (w:World)
 (hV:Ab w w.heap.size (.mk k b n t l o) [.int .i64 k,.bool b,.int .i64 n,.string t,.slice la l.length lc,.slice oa o.length oc]) (hb:(Val.mk k b n t l o).bulk<=100000000):
 Calls Tryz.prog 107 #[.agg #[y0,.string key,y2,y3,y4,y5,y6,y7,y8,y9,y10,y11,.int .i64 k,.bool b,.int .i64 n,.string t,.slice la l.length lc,.slice oa o.length oc,y18]] w (Di [(Ar,tv key),(Fb,.mk k b n t l o)] w):=by
 have hC:=fun W=>Bw key W;have hD: ∀W,Below w.heap.size w W->Calls Tryz.prog 49 #[.agg #[.int .i64 k,.bool b,.int .i64 n,.string t,.slice la l.length lc,.slice oa o.length oc]] W (J8 W (.mk k b n t l o)):=fun W hB=>Mp _ _ W (Ab.more hB.size _ _ (hV.below hB)) hb;obtain⟨wi,hwi⟩: ∃wi,w.alloc (.cells #[y0,.string key,y2,y3,y4,y5,y6,y7,y8,y9,y10,y11,.int .i64 k,.bool b,.int .i64 n,.string t,.slice la l.length lc,.slice oa o.length oc,y18] 30)=wi:=⟨_,rfl⟩;have hbi:Below w.heap.size w wi:=hwi▸Aa _ _;have hxb:Al wi w.heap.size 30 #[y0,.string key,y2,y3,y4,y5,y6,y7,y8,y9,y10,y11,.int .i64 k,.bool b,.int .i64 n,.string t,.slice la l.length lc,.slice oa o.length oc,y18]:=hwi▸Al.new _ _ _;have d1:=hxb.cell 1;have d12:=hxb.cell 12;have d13:=hxb.cell 13;have d14:=hxb.cell 14;have d15:=hxb.cell 15;have d16:=hxb.cell 16;have d17:=hxb.cell 17;have hgb:=hxb.lt;obtain⟨HC,HD,Hbi,Hxb⟩:=hid4 hC hD hbi hxb;clear hC hD hbi hxb;clear hV;go_enter Tryz.func107,Tryz.ntmps107;go_upto_region 1 with(fail);clear hwi
 go_region_held3 (fun W=>W.cell? ⟨w.heap.size,1,none⟩=some (.string key)/\W.cell? ⟨w.heap.size,12,none⟩=some (.int .i64 k)/\W.cell? ⟨w.heap.size,13,none⟩=some (.bool b)/\W.cell? ⟨w.heap.size,14,none⟩=some (.int .i64 n)/\W.cell? ⟨w.heap.size,15,none⟩=some (.string t)/\W.cell? ⟨w.heap.size,16,none⟩=some (.slice la l.length lc)/\W.cell? ⟨w.heap.size,17,none⟩=some (.slice oa o.length oc)) (go_keep) (first
  |(go_at_call 64;refine(HC.out _).mono ?_;rintro e w2 ⟨rfl,hb2⟩;have hbr2:Below wi.heap.size wi w2:=((Below.drew (Below.refl _ _)).trans hb2);obtain⟨hc2,hg2⟩:=Bc hbr2)
  |(go_at_call 49;refine(HD.out _ (Hbi.out.trans (hbr2.mono Hbi.out.size))).mono ?_;rintro e w3 ⟨⟨cs4,rfl,hl4,hf4⟩,hb3⟩;obtain⟨la2,lc2,oa2,oc2,rfl⟩:=Ge hf4;have hbr3:=hbr2.trans (hb3.mono hbr2.size);have hff:=hf4.keep (b':=w.heap.size) (w':=w3) (Nat.le_trans Hbi.out.size hbr2.size) (Nat.le_refl _) (fun _ _ _=>rfl);have Hff:=Lib.hid hff;obtain⟨hc3,hg3⟩:=Bc hbr3;clear hf4 hff))
 all_goals
  have HB:=Lib.hid (Hbi.out.trans (hbr3.mono Hbi.out.size));clear hc2 hg2 hc3 hg3 hb2 hb3 hbr2 hbr3;go_wp2;go_ret;exact⟨HB.out.alloc HB.out.size _,_,rfl,Eu HB.out.size rfl ((Bl.one (Et _ _ Ar key)).app (Bl.one ((D8 (key:=Fb) Hff.out).later (Aa _ _))))⟩
theorem Dq {S:Nat->Prop} {w:World} {o:List (ByteArray×Val)} {a:Option Addr} {n c:Nat} (h:Ae S w (.row 7 (dO o)) [.slice a n c]):Ae S w (dV (ov o)) [.int .i64 6,.bool false,.int .i64 0,.string ⟨#[]⟩,.slice none 0 0,.slice a n c]:=fun w'' h1 h2=>by
 simp only[ov,dV,Holds];exact Aj.six.2 ⟨[.slice none 0 0], [.slice a n c],rfl,rfl,rfl,rfl,rfl,⟨none,0,rfl,by simp[dL], [],rfl,by simp[dL]⟩,h w'' h1 h2⟩
theorem C7 (S:Nat->Prop) (w:World) (key s:ByteArray):Ae S w (dP (key,tv s)) [.string key,.int .i64 4,.bool false,.int .i64 0,.string s,.slice none 0 0,.slice none 0 0]:=fun _ _ _=>Yu _ _ _ _
theorem Je {S:Nat->Prop} {w:World} {key:ByteArray} {v:Val} {cs:List Value} (h:Ae S w (dV v) cs):Ae S w (dP (key,v)) (.string key::cs):=fun w'' h1 h2=>⟨[.string key],cs,rfl,⟨rfl,rfl⟩,cs, [],by simp,h w'' h1 h2,rfl⟩
theorem Ab4 {S0:Nat->Prop} {w w6:World} {R b:Nat} {t e:TypeId} {sz:Nat} {l:List D} {V:Value} {cs:Array Value} {wr:World} (h:Al w R t cs) (hg:w.grownBy w6 V.ownBlock) (hr:C9 S0 b e sz wr l V) (hR:R<b\/wr.heap.size<=R):Al w6 R t cs:=
 h.grown hg fun e=>by have:=hr.base R e.symm;omega
theorem Ka {S0:Nat->Prop} {w w6:World} {B b:Nat} {e:TypeId} {sz:Nat} {l:List D} {V:Value} {w0 wr:World} (h:Below B w0 w) (hg:w.grownBy w6 V.ownBlock) (hr:C9 S0 b e sz wr l V) (hB:B<=b) (hBw:B<=w.heap.size):Below B w0 w6:=
 h.grown hg hBw fun k hk=>Nat.le_trans hB (hr.base k hk).1
theorem Acx (S:Nat->Prop) (w:World) (key:ByteArray) (n:Int):Ae S w (dP (key,iv n)) [.string key,.int .i64 3,.bool false,.int .i64 n,.string ⟨#[]⟩,.slice none 0 0,.slice none 0 0]:=fun _ _ _=>Yt _ _ _ _
end Go.Proofs.YtmglfdckpjegdaaGreatDoor
