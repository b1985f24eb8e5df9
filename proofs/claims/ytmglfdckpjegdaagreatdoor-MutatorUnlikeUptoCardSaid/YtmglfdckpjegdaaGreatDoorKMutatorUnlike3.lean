/- Parts: value.Same, slices.EqualFunc over mutators, mutator.Same of any two. Condition: bulks of at most 10^8. -/
import Derived.Test.YtmglfdckpjegdaaGreatDoorKMu27
import Derived.Test.YtmglfdckpjegdaaGreatDoorKMutatorUnlike2
set_option maxHeartbeats 20000000
namespace Go.Proofs.YtmglfdckpjegdaaGreatDoor
open Go Go.RowKit
set_option maxRecDepth 100000 in
theorem T2 (v v':Val) (cs cs':List Value) (w:World) (hV:Ab w w.heap.size v cs) (hV':Ab w w.heap.size v' cs') (hb:v.bulk<=100000000) (hb':v'.bulk<=100000000):
 Calls Tryz.prog 55 #[.agg cs.toArray,.agg cs'.toArray] w (Ba (Do v v'=true) w):=by
 have hC:=fun(W:World) (hB:Below w.heap.size w W)=>Agg v v' cs cs' W (Ab.more hB.size _ _ (hV.below hB)) (Ab.more hB.size _ _ (hV'.below hB)) hb hb';generalize Do v v'=B at hC ⊢;obtain⟨k,b,n,t,l,o⟩:=v;obtain⟨k',b',n',t',l',o'⟩:=v';simp only[Ab]at hV hV';obtain⟨la,lc,oa,oc,rfl,hla,hoa⟩:=hV;obtain⟨la',lc',oa',oc',rfl,hla',hoa'⟩:=hV';have HC:=Lib.hid hC;clear hC;clear hla hoa hla' hoa';go_enter Tryz.func55,Tryz.ntmps55;go_wp2_with (fail);(with_reducible refine(HC.out _ (Bj _ _ _)).mono ?_);rintro e w1 ⟨c,rfl,hc,hb1⟩;have hw:=(Bj w (.cells #[.int .i64 k,.bool b,.int .i64 n,.string t,.slice la l.length lc,.slice oa o.length oc] 27) (.cells #[.int .i64 k',.bool b',.int .i64 n',.string t',.slice la' l'.length lc',.slice oa' o'.length oc'] 27)).trans (hb1.mono (by simp;omega));by_cases h0:c=0
 . have h1:=hc.1 h0;subst h0;obtain⟨Hw,H1⟩:=hid2 hw h1;clear hw h1;clear hc hb1;go_wp2;go_ret;exact Ba.yes H1.out Hw.out
 . have h1: ¬(B=true):=fun e=>h0 (hc.2 e);have f1:(c==0)=false:=by simpa using h0
   obtain⟨Hw,H1⟩:=hid2 hw h1;clear hw h1;clear hc hb1 h0;go_wp2;go_ret;exact Ba.no H1.out Hw.out
def Apj (m:Mut):Prop:= ∀(m':Mut) (cs cs':List Value) (w:World),Ah w w.heap.size (dM m) cs->Ah w w.heap.size (dM m') cs'->Bm m<=100000000->Bm m'<=100000000->
 Calls Tryz.prog 27 #[.agg cs.toArray,.agg cs'.toArray] w (Ba (Jy m m'=true) w)
set_option maxRecDepth 100000 in
theorem Aiq (l l':List Mut) (a a':Option Addr) (c c':Nat) (w:World) (hl:Ah w w.heap.size (.row 19 (Gw l)) [.slice a l.length c]) (hl':Ah w w.heap.size (.row 19 (Gw l')) [.slice a' l'.length c']) (hbl:C3 l<=100000000) (hbl':C3 l'<=100000000) (ih: ∀x ∈ l,Apj x):
 Calls Tryz.prog 56 #[.slice a l.length c,.slice a' l'.length c',.func (.func 27) #[] #[]] w (Ba (Fz l l'=true) w):=by
 have hls:=Fm l;by_cases hln:l.length=l'.length;rotate_left
 . have hno: ¬(Fz l l'=true):=fun h=>hln (Kn.1 h).1;have f1:((l.length:Int) != (l'.length:Int))=true:=by simp;omega
   have Hno:=Lib.hid hno;clear hno;clear ih hl hl';go_enter Tryz.func56,Tryz.ntmps56;go_wp2;go_ret;exact Ba.no Hno.out (Below.refl _ _)
 have h00: ∀j x y,j<0->l[j]? =some x->l'[j]? =some y->Jy x y=true:=fun _ _ _ e=>absurd e (Nat.not_lt_zero _);have hB0:Below w.heap.size w w:=Below.refl _ _;have f1:((l.length:Int) != (l'.length:Int))=false:=by simp;omega
 obtain⟨H00,HB0,Hl,Hl',Ih,Hln⟩:=hid6 h00 hB0 hl hl' ih hln;clear h00 hB0 hl hl' ih hln;go_enter Tryz.func56,Tryz.ntmps56;go_wp2_with (fail);go_loopw [17] (fun i wr=> ∃q:Nat,i=.int .i64 q/\q<=l.length/\Hid (∀j x y,j<q->l[j]? =some x->l'[j]? =some y->Jy x y=true)/\Hid (Below w.heap.size w wr)) (fun i _=>l.length - (intOf i).toNat)
 case atStart=>exact⟨0,rfl,Nat.zero_le _,H00,HB0⟩
 case round=>
  obtain⟨q,rfl,hq,htk,hea⟩:=hrel;clear H00 HB0;by_cases hlt:q<l.length
  . have hlt':q<l'.length:=by have:=Hln.out;omega
    obtain⟨x,hx⟩: ∃v,l[q]? =some v:=⟨_,List.getElem?_eq_getElem hlt⟩;obtain⟨x',hx'⟩: ∃v,l'[q]? =some v:=⟨_,List.getElem?_eq_getElem hlt'⟩;have ihx:=Ih.out _ (List.mem_of_getElem? hx);have hbv:=D1 (List.mem_of_getElem? hx);have hbv':=D1 (List.mem_of_getElem? hx');have hbw:=hea.out;have hz:=hbw.size;have hT:=fun(e:Jy x x'=true)=>(fun j y y' hj h1 h2=>by
     rcases Nat.lt_succ_iff_lt_or_eq.1 hj with hj|rfl
     . exact htk.out j y y' hj h1 h2
     . rw[hx]at h1;rw[hx']at h2;rw[<-Option.some.inj h1,<-Option.some.inj h2];exact e: ∀j y y',j<q+1->l[j]? =some y->l'[j]? =some y'->Jy y y'=true)
    have hNe:=fun(e: ¬Jy x x'=true) (h:Fz l l'=true)=>e ((Kn.1 h).2 q x x' hx hx');obtain⟨g,off,rfl,hg,cs1,hcs1,hn1l,hcell1⟩:=Ki (Hl.out.below hbw) hx;obtain⟨g',off',rfl,hg',cs2,hcs2,hn2l,hcell2⟩:=Ki (Hl'.out.below hbw) hx';have hC: ∀W,Below wr.heap.size wr W->Calls Tryz.prog 27 #[.agg cs1.toArray,.agg cs2.toArray] W (Ba (Jy x x'=true) W):=fun W hW=>
     ihx _ _ _ W ((hcs1.below (hW.mono hz)).more (Nat.le_trans hz hW.size)) ((hcs2.below (hW.mono hz)).more (Nat.le_trans hz hW.size)) (by omega) (by omega)
    have hr1:wr.rangeAt g (off+q*19) cs1:=hcell1;have hr2:wr.rangeAt g' (off'+q*19) cs2:=hcell2;have hs1:cs1.toArray.size=19:=by simpa using hn1l
    have hs2:cs2.toArray.size=19:=by simpa using hn2l
    have ho1:cs1.toArray.all (·.oneCell')=true:=by rw[Array.all_eq_true];intro i hi;exact hcs1.len.2 _ (by simp)
    have ho2:cs2.toArray.all (·.oneCell')=true:=by rw[Array.all_eq_true];intro i hi;exact hcs2.len.2 _ (by simp)
    have hi1:(Tryz.prog.info? Ag).map (·.size)=some cs1.length:=by rw[hn1l];kernel_rfl
    have hi2:(Tryz.prog.info? Ag).map (·.size)=some cs2.length:=by rw[hn2l];kernel_rfl
    have z1:g<wr.heap.size:=by omega
    have z2:g'<wr.heap.size:=by omega
    have z5:(q:Int)<(l.length:Int):=by omega
    have z6:(0:Int)<=q:=by omega
    have hb1:=Aa wr (.cells cs1.toArray Ag);have hx1:=Al.new wr Ag cs1.toArray;have hr2':(wr.alloc (.cells cs1.toArray Ag)).rangeAt g' (off'+q*19) cs2:=fun j v hv=>(hb1.cell (p:=⟨g',off'+q*19+j,none⟩) z2).trans (hr2 j v hv);have hb2:=hb1.alloc hb1.size (.cells cs2.toArray Ag);have hx2:=hx1.alloc (.cells cs2.toArray Ag);have hy2:=Al.new (wr.alloc (.cells cs1.toArray Ag)) Ag cs2.toArray;have hz2:(wr.alloc (.cells cs1.toArray Ag)).heap.size=wr.heap.size+1:=World.size_alloc _ _;rw[hz2]at hy2;obtain⟨HC,HT,HNe,Hb2,Hx2,Hy2⟩:=hid6 hC hT hNe hb2 hx2 hy2;clear hC hT hNe hb2 hx2 hy2;clear hbw hcs1 hcs2 hx hx' ihx hcell1 hcell2 htk hb1 hx1 hr2;go_upto_region 5 with(fail)
    iterate 8 go_step
    refine wp_load_mid Ag (.tmp 20) rfl g (off+q*19) rfl cs1 _ hr1 Tryz.underlying30 rfl hi1 ?_
    iterate 8 go_step
    refine Co Ag (.tmp 8) (.tmp 21) rfl (cs0:=Cx) cs1.toArray rfl rfl hs1.symm (by rw[hs1];kernel_rfl) ho1 ?_;go_upto_region 6 with(fail)
    iterate 11 go_step
    refine wp_load_mid Ag (.tmp 24) rfl g' (off'+q*19) rfl cs2 _ hr2' Tryz.underlying30 rfl hi2 ?_
    iterate 5 go_step
    refine Co Ag (.tmp 9) (.tmp 25) rfl (cs0:=Cx) cs2.toArray (by rw[World.size_alloc];rfl) rfl hs2.symm (by rw[hs2];kernel_rfl) ho2 ?_;generalize (wr.alloc (.cells cs1.toArray Ag)).alloc (.cells cs2.toArray Ag)=w2 at Hb2 Hx2 Hy2 ⊢;go_upto_region 7 with(fail)
    iterate 5 go_step
    refine Ac Ag (.tmp 8) rfl wr.heap.size _ Hx2.out rfl _ Tryz.underlying30 rfl (by rw[hs1];kernel_rfl) ?_
    iterate 2 go_step
    refine Ac Ag (.tmp 9) rfl (wr.heap.size+1) _ Hy2.out rfl _ Tryz.underlying30 rfl (by rw[hs2];kernel_rfl) ?_;go_wp2_with (fail);(with_reducible refine(HC.out _ Hb2.out).mono ?_);rintro e w4 ⟨B,rfl,hB,hb4⟩;have HE4:=Lib.hid (hea.out.trans ((Hb2.out.trans (hb4.mono Hb2.out.size)).mono hz));clear hb4 hea hr1 hr2'
    cases B with
    |true=>
     have HT':=Lib.hid (HT.out (hB.1 rfl));clear hB HT HNe;go_wp2;go_roundw
     case rel=>exact⟨q+1,by go_num,by omega,HT',HE4⟩
     case measure=>simp only[intOf];omega
    |false=>
     have hno: ¬(Fz l l'=true):=fun h=>HNe.out (fun e=>by have:=hB.2 e;cases this) h;have Hno:=Lib.hid hno;clear hB HT HNe hno;go_wp2;go_ret;exact Ba.no Hno.out HE4.out
  . obtain rfl:q=l.length:=by omega
    have hE:Fz l l'=true:=Kn.2 ⟨Hln.out,fun j x y h1 h2=>htk.out j x y (List.getElem?_eq_some_iff.1 h1).1 h1 h2⟩;have HE:=Lib.hid hE;clear hE;clear htk;go_wp2;go_ret;exact Ba.yes HE.out hea.out
set_option maxRecDepth 100000 in
theorem Amr (k:Int) (key dst:ByteArray) (n:Int) (had has:Bool) (k1:Int) (b1:Bool) (n1:Int) (t1:ByteArray) (l1:List Val) (o1:List (ByteArray×Val)) (k2:Int) (b2:Bool) (n2:Int) (t2:ByteArray) (l2:List Val) (o2:List (ByteArray×Val)) (k1':Int) (b1':Bool) (n1':Int) (t1':ByteArray) (l1':List Val) (o1':List (ByteArray×Val)) (k2':Int) (b2':Bool) (n2':Int) (t2':ByteArray) (l2':List Val) (o2':List (ByteArray×Val)) (la1 oa1:Option Addr) (lc1 oc1:Nat) (la2 oa2:Option Addr) (lc2 oc2:Nat) (la1' oa1':Option Addr) (lc1' oc1':Nat) (la2' oa2':Option Addr) (lc2' oc2':Nat) (l l':List Mut) (a a':Option Addr) (c c':Nat) (w:World)
 (hv1:Ab w w.heap.size (.mk k1 b1 n1 t1 l1 o1) [.int .i64 k1,.bool b1,.int .i64 n1,.string t1,.slice la1 l1.length lc1,.slice oa1 o1.length oc1]) (hv2:Ab w w.heap.size (.mk k2 b2 n2 t2 l2 o2) [.int .i64 k2,.bool b2,.int .i64 n2,.string t2,.slice la2 l2.length lc2,.slice oa2 o2.length oc2]) (hv1':Ab w w.heap.size (.mk k1' b1' n1' t1' l1' o1') [.int .i64 k1',.bool b1',.int .i64 n1',.string t1',.slice la1' l1'.length lc1',.slice oa1' o1'.length oc1']) (hv2':Ab w w.heap.size (.mk k2' b2' n2' t2' l2' o2') [.int .i64 k2',.bool b2',.int .i64 n2',.string t2',.slice la2' l2'.length lc2',.slice oa2' o2'.length oc2'])
 (hb1:(Val.mk k1 b1 n1 t1 l1 o1).bulk<=100000000) (hb2:(Val.mk k2 b2 n2 t2 l2 o2).bulk<=100000000) (hb1':(Val.mk k1' b1' n1' t1' l1' o1').bulk<=100000000) (hb2':(Val.mk k2' b2' n2' t2' l2' o2').bulk<=100000000)
 (hl:Ah w w.heap.size (.row 19 (Gw l)) [.slice a l.length c]) (hl':Ah w w.heap.size (.row 19 (Gw l')) [.slice a' l'.length c']) (hbl:C3 l<=100000000) (hbl':C3 l'<=100000000) (ih: ∀x ∈ l,Apj x):
 Calls Tryz.prog 27 #[.agg #[.int .i64 k,.string key,.string dst,.int .i64 n,.bool had,.int .i64 k1,.bool b1,.int .i64 n1,.string t1,.slice la1 l1.length lc1,.slice oa1 o1.length oc1,.bool has,.int .i64 k2,.bool b2,.int .i64 n2,.string t2,.slice la2 l2.length lc2,.slice oa2 o2.length oc2,.slice a l.length c],.agg #[.int .i64 k,.string key,.string dst,.int .i64 n,.bool had,.int .i64 k1',.bool b1',.int .i64 n1',.string t1',.slice la1' l1'.length lc1',.slice oa1' o1'.length oc1',.bool has,.int .i64 k2',.bool b2',.int .i64 n2',.string t2',.slice la2' l2'.length lc2',.slice oa2' o2'.length oc2',.slice a' l'.length c']] w (Ba ((Do (Val.mk k1 b1 n1 t1 l1 o1) (.mk k1' b1' n1' t1' l1' o1')=true/\Do (Val.mk k2 b2 n2 t2 l2 o2) (.mk k2' b2' n2' t2' l2' o2')=true)/\Fz l l'=true) w):=by
 have hQ1:=fun(W:World) (hB:Below w.heap.size w W)=>T2 (.mk k1 b1 n1 t1 l1 o1) (.mk k1' b1' n1' t1' l1' o1') _ _ W (Ab.more hB.size _ _ (hv1.below hB)) (Ab.more hB.size _ _ (hv1'.below hB)) hb1 hb1';have hQ2:=fun(W:World) (hB:Below w.heap.size w W)=>T2 (.mk k2 b2 n2 t2 l2 o2) (.mk k2' b2' n2' t2' l2' o2') _ _ W (Ab.more hB.size _ _ (hv2.below hB)) (Ab.more hB.size _ _ (hv2'.below hB)) hb2 hb2';have hQ3:=fun(W:World) (hB:Below w.heap.size w W)=>Aiq l l' a a' c c' W ((hl.below hB).more hB.size) ((hl'.below hB).more hB.size) hbl hbl' ih;generalize (Do (Val.mk k1 b1 n1 t1 l1 o1) (.mk k1' b1' n1' t1' l1' o1')=true)=P1 at hQ1 ⊢;generalize (Do (Val.mk k2 b2 n2 t2 l2 o2) (.mk k2' b2' n2' t2' l2' o2')=true)=P2 at hQ2 ⊢;generalize (Fz l l'=true)=P3 at hQ3 ⊢;generalize l.length=ln at hQ3 ⊢;generalize l'.length=ln' at hQ3 ⊢;have hA0:EMA w #[.int .i64 k,.string key,.string dst,.int .i64 n,.bool had,.int .i64 k1,.bool b1,.int .i64 n1,.string t1,.slice la1 l1.length lc1,.slice oa1 o1.length oc1,.bool has,.int .i64 k2,.bool b2,.int .i64 n2,.string t2,.slice la2 l2.length lc2,.slice oa2 o2.length oc2,.slice a ln c] #[.int .i64 k,.string key,.string dst,.int .i64 n,.bool had,.int .i64 k1',.bool b1',.int .i64 n1',.string t1',.slice la1' l1'.length lc1',.slice oa1' o1'.length oc1',.bool has,.int .i64 k2',.bool b2',.int .i64 n2',.string t2',.slice la2' l2'.length lc2',.slice oa2' o2'.length oc2',.slice a' ln' c'] ((w.alloc (.cells #[.int .i64 k,.string key,.string dst,.int .i64 n,.bool had,.int .i64 k1,.bool b1,.int .i64 n1,.string t1,.slice la1 l1.length lc1,.slice oa1 o1.length oc1,.bool has,.int .i64 k2,.bool b2,.int .i64 n2,.string t2,.slice la2 l2.length lc2,.slice oa2 o2.length oc2,.slice a ln c] 30)).alloc (.cells #[.int .i64 k,.string key,.string dst,.int .i64 n,.bool had,.int .i64 k1',.bool b1',.int .i64 n1',.string t1',.slice la1' l1'.length lc1',.slice oa1' o1'.length oc1',.bool has,.int .i64 k2',.bool b2',.int .i64 n2',.string t2',.slice la2' l2'.length lc2',.slice oa2' o2'.length oc2',.slice a' ln' c'] 30)):=by
  refine⟨Bj _ _ _,(Al.new w 30 #[.int .i64 k,.string key,.string dst,.int .i64 n,.bool had,.int .i64 k1,.bool b1,.int .i64 n1,.string t1,.slice la1 l1.length lc1,.slice oa1 o1.length oc1,.bool has,.int .i64 k2,.bool b2,.int .i64 n2,.string t2,.slice la2 l2.length lc2,.slice oa2 o2.length oc2,.slice a ln c]).alloc _, ?_⟩;have:=Al.new (w.alloc (.cells #[.int .i64 k,.string key,.string dst,.int .i64 n,.bool had,.int .i64 k1,.bool b1,.int .i64 n1,.string t1,.slice la1 l1.length lc1,.slice oa1 o1.length oc1,.bool has,.int .i64 k2,.bool b2,.int .i64 n2,.string t2,.slice la2 l2.length lc2,.slice oa2 o2.length oc2,.slice a ln c] 30)) 30 #[.int .i64 k,.string key,.string dst,.int .i64 n,.bool had,.int .i64 k1',.bool b1',.int .i64 n1',.string t1',.slice la1' l1'.length lc1',.slice oa1' o1'.length oc1',.bool has,.int .i64 k2',.bool b2',.int .i64 n2',.string t2',.slice la2' l2'.length lc2',.slice oa2' o2'.length oc2',.slice a' ln' c']
  rwa [World.size_alloc]at this
 obtain⟨HQ1,HQ2,HQ3,HA0⟩:=hid4 hQ1 hQ2 hQ3 hA0;clear hQ1 hQ2 hQ3 hA0;clear hv1 hv2 hv1' hv2' hl hl' ih hbl hbl';go_enter Tryz.func27,Tryz.ntmps27;go_wp2_with (fail);have hA01:=HA0.out.1;(with_reducible refine(HQ1.out _ hA01).mono ?_);rintro e w1 ⟨B1,rfl,hB1,hb1w⟩;have hA1:=HA0.out.step hb1w
 cases B1 with
 |false=>
  have hno: ¬((P1/\P2)/\P3):=fun h=>by have:=hB1.2 h.1.1;cases this
  obtain⟨HA1,Hno,HB1,Hb1w⟩:=hid4 hA1 hno hB1 hb1w;clear hA1 hno hB1 hb1w;go_wp2;go_ret;exact Ba.no Hno.out HA1.out.1
 |true=>
  have hp1:=hB1.1 rfl;have x12:=hA1.2.1.cell 12;have y12:=hA1.2.2.cell 12;have x13:=hA1.2.1.cell 13;have y13:=hA1.2.2.cell 13;have x14:=hA1.2.1.cell 14;have y14:=hA1.2.2.cell 14;have x15:=hA1.2.1.cell 15;have y15:=hA1.2.2.cell 15;have x16:=hA1.2.1.cell 16;have y16:=hA1.2.2.cell 16;have x17:=hA1.2.1.cell 17;have y17:=hA1.2.2.cell 17;have x18:=hA1.2.1.cell 18;have y18:=hA1.2.2.cell 18;have gx:=hA1.2.1.lt;have gy:=hA1.2.2.lt;obtain⟨HA1,Hp1,HB1,Hb1w⟩:=hid4 hA1 hp1 hB1 hb1w;clear hA1 hp1 hB1 hb1w;go_wp2_with (fail);have hA11:=HA1.out.1;(with_reducible refine(HQ2.out _ hA11).mono ?_);rintro e w2 ⟨B2,rfl,hB2,hb2w⟩;have hA2:=HA1.out.step hb2w;clear x12 y12 x13 y13 x14 y14 x15 y15 x16 y16 x17 y17 x18 y18 gx gy
  cases B2 with
  |false=>
   have hno: ¬((P1/\P2)/\P3):=fun h=>by have:=hB2.2 h.1.2;cases this
   obtain⟨HA2,Hno,HB2,Hb2w⟩:=hid4 hA2 hno hB2 hb2w;clear hA2 hno hB2 hb2w;go_wp2;go_ret;exact Ba.no Hno.out HA2.out.1
  |true=>
   have hp2:=hB2.1 rfl;have x18:=hA2.2.1.cell 18;have y18:=hA2.2.2.cell 18;have gx:=hA2.2.1.lt;have gy:=hA2.2.2.lt;obtain⟨HA2,Hp2,HB2,Hb2w⟩:=hid4 hA2 hp2 hB2 hb2w;clear hA2 hp2 hB2 hb2w;go_wp2_with (fail);have hA21:=HA2.out.1;(with_reducible refine(HQ3.out _ hA21).mono ?_);rintro e w3 ⟨B3,rfl,hB3,hb3w⟩;have hA3:=HA2.out.step hb3w;have hfin:B3=true ↔ (P1/\P2)/\P3:=⟨fun e=>⟨⟨Hp1.out,Hp2.out⟩,hB3.1 e⟩,fun e=>hB3.2 e.2⟩;obtain⟨HA3,Hfin⟩:=hid2 hA3 hfin;clear hA3 hfin;clear hB3 hb3w x18 y18 gx gy;go_wp2;go_ret;exact⟨B3,rfl,Hfin.out,HA3.out.1⟩
theorem Ajj: ∀m,Apj m:=by
 refine Mut.ind ?_;intro k key dst n had was has v l IH m' cs cs' w hM hM' hb hb';obtain⟨k1,b1,n1,t1,l1,o1⟩:=was;obtain⟨k2,b2,n2,t2,l2,o2⟩:=v;obtain⟨la1,lc1,oa1,oc1,la2,lc2,oa2,oc2,a,c,rfl,hv1,hv2,hl⟩:=Bq hM;obtain⟨k',key',dst',n',had',⟨k1',b1',n1',t1',l1',o1'⟩,has',⟨k2',b2',n2',t2',l2',o2'⟩,l'⟩:=m';obtain⟨la1',lc1',oa1',oc1',la2',lc2',oa2',oc2',a',c',rfl,hv1',hv2',hl'⟩:=Bq hM';simp only[Bm]at hb hb';by_cases hd:k≠k'\/key≠key'\/dst≠dst'\/n≠n'\/had≠had'\/has≠has'
 . refine Amq _ _ _ _ _ _ _ _ _ _ _ _ _ _ _ _ _ _ _ _ _ _ _ _ _ _ _ _ _ _ _ _ _ _ _ _ _ _ _ _ _ _ w _ (fun e=> ?_) hd;simp only[Jy,Bool.and_eq_true,decide_eq_true_eq,beq_iff_eq]at e;obtain⟨⟨⟨⟨⟨⟨⟨⟨e1,e2⟩,e3⟩,e4⟩,e5⟩,e7⟩,_⟩,_⟩,e9⟩:=e;rcases hd with h|h|h|h|h|h
   . exact h e1
   . exact h e2
   . exact h e3
   . exact h e4
   . exact h e5
   . exact h e7
 . obtain⟨rfl,rfl,rfl,rfl,rfl,rfl⟩:k=k'/\key=key'/\dst=dst'/\n=n'/\had=had'/\has=has':=by
    refine⟨Classical.byContradiction fun e=>hd (.inl e),Classical.byContradiction fun e=>hd (.inr (.inl e)),Classical.byContradiction fun e=>hd (.inr (.inr (.inl e))),Classical.byContradiction fun e=>hd (.inr (.inr (.inr (.inl e)))),Classical.byContradiction fun e=>hd (.inr (.inr (.inr (.inr (.inl e))))),Classical.byContradiction fun e=>hd (.inr (.inr (.inr (.inr (.inr e)))))⟩
   have h:=Amr k key dst n had has k1 b1 n1 t1 l1 o1 k2 b2 n2 t2 l2 o2 k1' b1' n1' t1' l1' o1' k2' b2' n2' t2' l2' o2' la1 oa1 lc1 oc1 la2 oa2 lc2 oc2 la1' oa1' lc1' oc1' la2' oa2' lc2' oc2' l l' a a' c c' w hv1 hv2 hv1' hv2' (by omega) (by omega) (by omega) (by omega) hl hl' (by omega) (by omega) IH;refine h.mono ?_;rintro e w' ⟨B,rfl,hB,hbw⟩;exact⟨B,rfl,hB.trans (by simp[Jy,and_assoc]),hbw⟩
end Go.Proofs.YtmglfdckpjegdaaGreatDoor
