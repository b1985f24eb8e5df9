/- Parts: The reference's word on a mutator's fields: zero, short, key, bare. Condition: values of a bulk of at most 10^8. -/
import Derived.Test.YtobmaegpfbheoaaGreatDoorKPf26
import Derived.Test.YtobmaegpfbheoaaGreatDoorKPf27
set_option maxHeartbeats 20000000
set_option maxRecDepth 100000
namespace Go.Proofs.YtobmaegpfbheoaaGreatDoor
open Go.RowKit
def Yo (m:Mut):Prop:= ∀(cs:List Value) (d:Int) (w:World),B7 w->Ag w w.heap.size (dM m) cs->Cg m<=100000000->Ug m->1<=d->d<=7->
 Calls Tryz.prog 65 #[.agg cs.toArray,.int .i64 d] w fun e w'=>e=Vh (D1 m d)/\Below w.heap.size w w'
theorem T1 {k:Int} {dst:ByteArray} {n:Int} {had:Bool} {w1:Val} {has:Bool} {v:Val} {ln:Nat} {B:Bool} (h:Ai k dst n had (Cx w1) has (Cx v) ln=B):Cm k dst n had (Cx w1) has (Cx v) ln= !B:=by rw[Rm,h]
theorem Xr (k:Int) (key dst:ByteArray) (n:Int) (had:Bool) (k1:Int) (b1:Bool) (n1:Int) (t1:ByteArray) (l1:List Val) (o1:List (ByteArray×Val)) (has:Bool) (k2:Int) (b2:Bool) (n2:Int) (t2:ByteArray) (l2:List Val) (o2:List (ByteArray×Val)) (l:List Mut) (ih: ∀x ∈ l,Yo x):Yo (Mut.mk k key dst n had (.mk k1 b1 n1 t1 l1 o1) has (.mk k2 b2 n2 t2 l2 o2) l):=by
 intro cs d w hT hM hb hi hd1 hd7;obtain⟨la1,lc1,oa1,oc1,la2,lc2,oa2,oc2,a,c,rfl,hv1,hv2,hl⟩:=Bf hM;have hls:=E3 l;simp only[Cg]at hb;simp only[Ug]at hi;obtain⟨_,hi1,hi2,hi3⟩:=hi;obtain⟨wi,hwi⟩: ∃wi,w.alloc (.cells #[.int .i64 k,.string key,.string dst,.int .i64 n,.bool had,.int .i64 k1,.bool b1,.int .i64 n1,.string t1,.slice la1 l1.length lc1,.slice oa1 o1.length oc1,.bool has,.int .i64 k2,.bool b2,.int .i64 n2,.string t2,.slice la2 l2.length lc2,.slice oa2 o2.length oc2,.slice a l.length c] 45)=wi:=⟨_,rfl⟩;have Hbi:Hid (Below w.heap.size w wi):=hwi▸Aa _ _;have Hxb:Hid (Aj wi w.heap.size 45 #[.int .i64 k,.string key,.string dst,.int .i64 n,.bool had,.int .i64 k1,.bool b1,.int .i64 n1,.string t1,.slice la1 l1.length lc1,.slice oa1 o1.length oc1,.bool has,.int .i64 k2,.bool b2,.int .i64 n2,.string t2,.slice la2 l2.length lc2,.slice oa2 o2.length oc2,.slice a l.length c]):=hwi▸Aj.new _ _ _;have hST:=fun W=>Ob k key dst n had k1 b1 n1 t1 l1 o1 has k2 b2 n2 t2 l2 o2 l la1 lc1 oa1 oc1 la2 lc2 oa2 oc2 a c W;have hKE:=fun(W:World) (hB:Below w.heap.size w W)=>Sw k key dst had (.int .i64 n) (.int .i64 k1) (.bool b1) (.int .i64 n1) (.string t1) (.slice la1 l1.length lc1) (.slice oa1 o1.length oc1) (.bool has) (.int .i64 k2) (.bool b2) (.int .i64 n2) (.string t2) (.slice la2 l2.length lc2) (.slice oa2 o2.length oc2) (.slice a l.length c) W (hT.below hB) (by omega) (by omega);have hF1: ∀(W:World) (_:Below w.heap.size w W),Calls Tryz.prog 119 #[.agg #[.int .i64 k1,.bool b1,.int .i64 n1,.string t1,.slice la1 l1.length lc1,.slice oa1 o1.length oc1]] W fun e w'=>e=.returned (.int .i64 (C3 (.mk k1 b1 n1 t1 l1 o1)))/\Below W.heap.size W w':=fun W hB=>Na _ _ W (hT.below hB) (Ab.more hB.size _ _ (hv1.below hB)) (by omega) hi1;have hF2: ∀(W:World) (_:Below w.heap.size w W),Calls Tryz.prog 119 #[.agg #[.int .i64 k2,.bool b2,.int .i64 n2,.string t2,.slice la2 l2.length lc2,.slice oa2 o2.length oc2]] W fun e w'=>e=.returned (.int .i64 (C3 (.mk k2 b2 n2 t2 l2 o2)))/\Below W.heap.size W w':=fun W hB=>Na _ _ W (hT.below hB) (Ab.more hB.size _ _ (hv2.below hB)) (by omega) hi2;have hMX:D1 (Mut.mk k key dst n had (.mk k1 b1 n1 t1 l1 o1) has (.mk k2 b2 n2 t2 l2 o2) l) d=D1 (Mut.mk k key dst n had (.mk k1 b1 n1 t1 l1 o1) has (.mk k2 b2 n2 t2 l2 o2) l) d:=rfl
 conv at hMX=>rhs;simp only[D1]
 generalize D1 (Mut.mk k key dst n had (.mk k1 b1 n1 t1 l1 o1) has (.mk k2 b2 n2 t2 l2 o2) l) d=X at hMX ⊢;generalize C3 (.mk k1 b1 n1 t1 l1 o1)=X1 at hF1 hMX;generalize C3 (.mk k2 b2 n2 t2 l2 o2)=X2 at hF2 hMX;generalize hKB:Cd k key dst had=KB at hKE hMX;have hk4:Ai k dst n had (Cx (.mk k1 b1 n1 t1 l1 o1)) has (Cx (.mk k2 b2 n2 t2 l2 o2)) l.length=true->has=true->k=4:=by
  intro h1 h2;unfold Ai at h1;simp only[Bool.and_eq_true,Bool.or_eq_true,decide_eq_true_eq,h2]at h1;have h3:=h1.1.1.1.2;simpa using h3
 generalize hBB:Ai k dst n had (Cx (.mk k1 b1 n1 t1 l1 o1)) has (Cx (.mk k2 b2 n2 t2 l2 o2)) l.length=BB at hMX hk4;rw[T1 hBB]at hST;clear hBB hKB hM;obtain⟨HST,HKE,HF1,HF2,HT,Hl,Ih,Hi3⟩:=hid8 hST hKE hF1 hF2 hT hl ih hi3;clear hST hKE hF1 hF2 hT hl ih hi3
 cases BB with
 |false=>
  rw[if_pos rfl]at hMX;have HE:=qz hMX;clear hMX;go_enter Tryz.func65,Tryz.ntmps65;go_upto_region 1 with(fail);clear hwi
  iterate 2 go_step
  refine Ah 45 (.tmp 2) rfl w.heap.size _ Hxb.out rfl _ Tryz.underlying45 rfl (by kernel_rfl) ?_;go_wp2_with (fail);(with_reducible refine(HST.out _).mono ?_);rintro e w1 ⟨rfl,hb1⟩;have Hbw1:=qz (Hbi.out.trans (hb1.mono Hbi.out.size));have Hx1:=qz (Hxb.out.below hb1 Hxb.out.lt);clear hb1;go_wp2_with (fail);(with_reducible refine(M6 9 _).mono ?_);rintro e _ ⟨rfl,rfl⟩;exact⟨rfl,by rw[HE.out];exact(Dq (by decide)).symm,Hbw1.out⟩
 |true=>
 rw[if_neg (by simp)]at hMX;by_cases h6:6<d
 . rw[if_pos h6]at hMX;have t66:decide (d<=6)=false:=by simpa using h6
   have HE:=qz hMX;clear hMX;go_enter Tryz.func65,Tryz.ntmps65;go_upto_region 1 with(fail);clear hwi
   iterate 2 go_step
   refine Ah 45 (.tmp 2) rfl w.heap.size _ Hxb.out rfl _ Tryz.underlying45 rfl (by kernel_rfl) ?_;go_wp2_with (fail);(with_reducible refine(HST.out _).mono ?_);rintro e w1 ⟨rfl,hb1⟩;have Hbw1:=qz (Hbi.out.trans (hb1.mono Hbi.out.size));have Hx1:=qz (Hxb.out.below hb1 Hxb.out.lt);clear hb1;go_wp2_with (fail);(with_reducible refine(D6 9 _).mono ?_);rintro e _ ⟨rfl,rfl⟩;go_wp2_with (fail);(with_reducible refine(M6 5 _).mono ?_);rintro e _ ⟨rfl,rfl⟩;exact⟨rfl,by rw[HE.out];exact(Dq (by decide)).symm,Hbw1.out⟩
 rw[if_neg h6]at hMX;have h66:d<=6:=by omega
 clear h6
 cases KB with
 |false=>
  rw[if_pos rfl]at hMX;have HE:=qz hMX;clear hMX;go_enter Tryz.func65,Tryz.ntmps65;go_upto_region 1 with(fail);clear hwi
  iterate 2 go_step
  refine Ah 45 (.tmp 2) rfl w.heap.size _ Hxb.out rfl _ Tryz.underlying45 rfl (by kernel_rfl) ?_;go_wp2_with (fail);(with_reducible refine(HST.out _).mono ?_);rintro e w1 ⟨rfl,hb1⟩;have Hbw1:=qz (Hbi.out.trans (hb1.mono Hbi.out.size));have Hx1:=qz (Hxb.out.below hb1 Hxb.out.lt);clear hb1;go_wp2_with (fail);(with_reducible refine(D6 9 _).mono ?_);rintro e _ ⟨rfl,rfl⟩;go_wp2_with (fail);(with_reducible refine(D6 5 _).mono ?_);rintro e _ ⟨rfl,rfl⟩;go_upto_region 3 with(fail)
  iterate 2 go_step
  refine Ah 45 (.tmp 2) rfl w.heap.size _ Hx1.out rfl _ Tryz.underlying45 rfl (by kernel_rfl) ?_;go_wp2_with (fail);(with_reducible refine(HKE.out _ Hbw1.out).mono ?_);rintro e w2 ⟨rfl,hb2⟩;have Hbw2:=qz (Hbw1.out.trans (hb2.mono Hbw1.out.size));have hx2:=Hx1.out.below hb2 Hx1.out.lt;have y4:=hx2.cell 4;have Hx2:=qz hx2;clear hx2;clear hb2;go_wp2_with (fail);(with_reducible refine(M6 8 _).mono ?_);rintro e _ ⟨rfl,rfl⟩;exact⟨rfl,by rw[HE.out];exact(Dq (by decide)).symm,Hbw2.out⟩
 |true=>
 rw[if_neg (by simp)]at hMX;have hk4':=hk4 rfl;clear hk4;by_cases h4:had=true/\X1≠0
 . rw[if_pos h4]at hMX;have HE:=qz hMX;clear hMX;obtain⟨rfl,h40⟩:=h4;go_enter Tryz.func65,Tryz.ntmps65;go_upto_region 1 with(fail);clear hwi
   iterate 2 go_step
   refine Ah 45 (.tmp 2) rfl w.heap.size _ Hxb.out rfl _ Tryz.underlying45 rfl (by kernel_rfl) ?_;go_wp2_with (fail);(with_reducible refine(HST.out _).mono ?_);rintro e w1 ⟨rfl,hb1⟩;have Hbr1:=qz hb1;have Hbw1:=qz (Hbi.out.trans (hb1.mono Hbi.out.size));have Hx1:=qz (Hxb.out.below hb1 Hxb.out.lt);clear hb1;go_wp2_with (fail);(with_reducible refine(D6 9 _).mono ?_);rintro e _ ⟨rfl,rfl⟩;go_wp2_with (fail);(with_reducible refine(D6 5 _).mono ?_);rintro e _ ⟨rfl,rfl⟩;go_upto_region 3 with(fail)
   iterate 2 go_step
   refine Ah 45 (.tmp 2) rfl w.heap.size _ Hx1.out rfl _ Tryz.underlying45 rfl (by kernel_rfl) ?_;go_wp2_with (fail);(with_reducible refine(HKE.out _ Hbw1.out).mono ?_);rintro e w2 ⟨rfl,hb2⟩;have Hbr2:=qz (Hbr1.out.trans (hb2.mono Hbr1.out.size));have Hbw2:=qz (Hbw1.out.trans (hb2.mono Hbw1.out.size));have hx2:=Hx1.out.below hb2 Hx1.out.lt;have y4:=hx2.cell 4;have y5:=hx2.cell 5;have y6:=hx2.cell 6;have y7:=hx2.cell 7;have y8:=hx2.cell 8;have y9:=hx2.cell 9;have y10:=hx2.cell 10;have Hx2:=qz hx2;clear hx2;clear hb2;go_wp2_with (fail);(with_reducible refine(D6 8 _).mono ?_);rintro e _ ⟨rfl,rfl⟩;go_wp2_with (fail);(with_reducible refine(HF1.out _ Hbw2.out).mono ?_);rintro e w3 ⟨rfl,hb3⟩;have hbw3:=Hbw2.out.trans (hb3.mono Hbw2.out.size);go_wp2_with (fail);(with_reducible refine(Xa _ h40 _).mono ?_);rintro e _ ⟨rfl,rfl⟩;exact⟨rfl,by rw[HE.out];exact(Dq h40).symm,hbw3⟩
 rw[if_neg h4]at hMX;go_enter Tryz.func65,Tryz.ntmps65;go_upto_region 1 with(fail);clear hwi
 iterate 2 go_step
 refine Ah 45 (.tmp 2) rfl w.heap.size _ Hxb.out rfl _ Tryz.underlying45 rfl (by kernel_rfl) ?_;go_wp2_with (fail);(with_reducible refine(HST.out _).mono ?_);rintro e w1 ⟨rfl,hb1⟩;have Hbr1:=qz hb1;have Hbw1:=qz (Hbi.out.trans (hb1.mono Hbi.out.size));have Hx1:=qz (Hxb.out.below hb1 Hxb.out.lt);clear hb1;go_wp2_with (fail);(with_reducible refine(D6 9 _).mono ?_);rintro e _ ⟨rfl,rfl⟩;go_wp2_with (fail);(with_reducible refine(D6 5 _).mono ?_);rintro e _ ⟨rfl,rfl⟩;go_upto_region 3 with(fail)
 iterate 2 go_step
 refine Ah 45 (.tmp 2) rfl w.heap.size _ Hx1.out rfl _ Tryz.underlying45 rfl (by kernel_rfl) ?_;go_wp2_with (fail);(with_reducible refine(HKE.out _ Hbw1.out).mono ?_);rintro e w2 ⟨rfl,hb2⟩;have Hbr2:=qz (Hbr1.out.trans (hb2.mono Hbr1.out.size));have Hbw2:=qz (Hbw1.out.trans (hb2.mono Hbw1.out.size));have hx2:=Hx1.out.below hb2 Hx1.out.lt;have y4:=hx2.cell 4;have y5:=hx2.cell 5;have y6:=hx2.cell 6;have y7:=hx2.cell 7;have y8:=hx2.cell 8;have y9:=hx2.cell 9;have y10:=hx2.cell 10;have Hx2:=qz hx2;clear hx2;clear hb2;go_wp2_with (fail);(with_reducible refine(D6 8 _).mono ?_);rintro e _ ⟨rfl,rfl⟩;go_upto_if 17 with(fail);go_cut [] (fun wx=>Hid (Below wi.heap.size wi wx))
 case first=>
  cases had with
  |false=>
   go_wp2;go_meet;exact Hbr2
  |true=>
   obtain rfl:X1=0:=by simpa using h4
   go_wp2_with (fail);(with_reducible refine(HF1.out _ Hbw2.out).mono ?_);rintro e w3 ⟨rfl,hb3⟩;go_wp2_with (fail);(with_reducible refine(Tj _).mono ?_);rintro e _ ⟨rfl,rfl⟩;have HB:=qz (Hbr2.out.trans (hb3.mono Hbr2.out.size));clear hb3;go_wp2;go_meet;exact HB
 case rest=>
  obtain⟨wm,hwm⟩: ∃wm:World,wm=wc:=⟨_,rfl⟩;subst hwm;clear Hbr1 Hbr2 Hbw1 Hbw2 Hx1 Hx2 y4 y5 y6 y7 y8 y9 y10 HF1 HST HKE;have hbr3:=hcut.out;have hbw3:=Hbi.out.trans (hbr3.mono Hbi.out.size);have hx3:=Hxb.out.below hbr3 Hxb.out.lt;have y0:=hx3.cell 0;have y11:=hx3.cell 11;have y12:=hx3.cell 12;have y13:=hx3.cell 13;have y14:=hx3.cell 14;have y15:=hx3.cell 15;have y16:=hx3.cell 16;have y17:=hx3.cell 17;have y18:=hx3.cell 18;clear hcut;go_upto_region 6 with(fail);go_cut [38] (fun s wx=>s=.bool (has||decide (k=1)||decide (k=5))/\wx=wm)
  case first=>
   by_cases e1:k=1
   . subst e1;go_wp2;go_meet;exact⟨by simp,rfl⟩
   by_cases e5:k=5
   . subst e5;go_wp2;go_meet;exact⟨by simp,rfl⟩
   by_cases e4:k=4
   . subst e4;go_wp2;go_meet;exact⟨by simp,rfl⟩
   . have t1:(k==1)=false:=by simpa using e1
     have t5:(k==5)=false:=by simpa using e5
     have t4:(k==4)=false:=by simpa using e4
     obtain rfl:has=false:=by
      cases has with
      |false=>rfl
      |true=>exact absurd (hk4' rfl) e4
     go_wp2;go_meet;exact⟨by simp[e1,e5],rfl⟩
  case rest=>
  obtain⟨rfl,hwc⟩:=hcut;subst hwc;obtain⟨Hbr3,Hbw3,Hx3⟩:=hid3 hbr3 hbw3 hx3;clear hbr3 hbw3 hx3;generalize (has||decide (k=1)||decide (k=5))=P at hMX;by_cases h5:P=true/\X2≠0
  . rw[if_pos h5]at hMX;have HE:=qz hMX;clear hMX;obtain⟨rfl,h50⟩:=h5;go_wp2_with (fail);(with_reducible refine(HF2.out _ Hbw3.out).mono ?_);rintro e w4 ⟨rfl,hb4⟩;go_wp2_with (fail);(with_reducible refine(Xa _ h50 _).mono ?_);rintro e _ ⟨rfl,rfl⟩;exact⟨rfl,by rw[HE.out];exact(Dq h50).symm,Hbw3.out.trans (hb4.mono Hbw3.out.size)⟩
  rw[if_neg h5]at hMX;go_upto_if 38 with(fail);go_cut [] (fun wx=>Hid (Below wi.heap.size wi wx))
  case first=>
   cases P with
   |true=>
    obtain rfl:X2=0:=by
     by_cases h:X2=0
     . exact h
     . exact absurd ⟨rfl,h⟩ h5
    go_wp2_with (fail);(with_reducible refine(HF2.out _ Hbw3.out).mono ?_);rintro e w4 ⟨rfl,hb4⟩;go_wp2_with (fail);(with_reducible refine(Tj _).mono ?_);rintro e _ ⟨rfl,rfl⟩;have HB:=qz (Hbr3.out.trans (hb4.mono Hbr3.out.size));clear hb4;go_wp2;go_meet;exact HB
   |false=>
    go_wp2;go_meet;exact Hbr3
  case rest=>
   have hbr5:=hcut.out;have Hbw5:=qz (Hbi.out.trans (hbr5.mono Hbi.out.size));have hx5:=Hxb.out.below hbr5 Hxb.out.lt;clear y0 y11 y12 y13 y14 y15 y16 y17 y18 Hbr3 Hbw3 Hx3 h5 HF2 h4;have y18:=hx5.cell 18;have HX0:=qz (show H9 (l.drop 0) (d+1)=X from by rw[List.drop_zero];exact hMX.symm);clear hMX;obtain⟨Hbr5,Hx5⟩:=hid2 hbr5 hx5;clear hbr5 hx5;clear hcut;go_wp2_with (fail);go_loopw [46] (fun i wr=> ∃q:Nat,i=.int .i64 q/\q<=l.length/\Hid (H9 (l.drop q) (d+1)=X)/\Hid (Below wi.heap.size wi wr)) (fun i _=>l.length - (intOf i).toNat)
   case atStart=>exact⟨0,rfl,Nat.zero_le _,HX0,Hbr5⟩
   case round=>
    obtain⟨q,rfl,hq,hX,hbr⟩:=hrel;clear HX0 Hbr5 Hbw5 Hx5 y18;have hbw:=Hbi.out.trans (hbr.out.mono Hbi.out.size);by_cases hlt:q<l.length
    . obtain⟨m,hm⟩: ∃p,l[q]? =some p:=⟨_,List.getElem?_eq_getElem hlt⟩;have hmem:=List.mem_of_getElem? hm;have hbm:=E4 hmem;have hC:=Ih.out m hmem;have hin:=Nv hmem Hi3.out;have hXd:=hX.out;rw[N1 hm]at hXd;obtain⟨k',key',dst',n',had',⟨k1',b1',n1',t1',l1',o1'⟩,has',⟨k2',b2',n2',t2',l2',o2'⟩,l'⟩:=m;have hz:=hbw.size;obtain⟨g,off,rfl,hg,cs',hcs,_,hcell⟩:=Lo (Hl.out.below hbw) hm;obtain⟨la1',lc1',oa1',oc1',la2',lc2',oa2',oc2',a',c',rfl,_,_,_⟩:=Bf hcs;have hrange:wr.rangeAt g (off+q*19) [.int .i64 k',.string key',.string dst',.int .i64 n',.bool had',.int .i64 k1',.bool b1',.int .i64 n1',.string t1',.slice la1' l1'.length lc1',.slice oa1' o1'.length oc1',.bool has',.int .i64 k2',.bool b2',.int .i64 n2',.string t2',.slice la2' l2'.length lc2',.slice oa2' o2'.length oc2',.slice a' l'.length c']:=hcell;have hgr:g<wr.heap.size:=by omega
      have hq1:(q:Int)<(l.length:Int):=by omega
      have hq0:(0:Int)<=q:=by omega
      have hC': ∀W,Below wr.heap.size wr W->Calls Tryz.prog 65 #[.agg #[.int .i64 k',.string key',.string dst',.int .i64 n',.bool had',.int .i64 k1',.bool b1',.int .i64 n1',.string t1',.slice la1' l1'.length lc1',.slice oa1' o1'.length oc1',.bool has',.int .i64 k2',.bool b2',.int .i64 n2',.string t2',.slice la2' l2'.length lc2',.slice oa2' o2'.length oc2',.slice a' l'.length c'],.int .i64 (d+1)] W fun e w'=>e=Vh (D1 (Mut.mk k' key' dst' n' had' (.mk k1' b1' n1' t1' l1' o1') has' (.mk k2' b2' n2' t2' l2' o2') l') (d+1))/\Below W.heap.size W w':=fun W hW=>hC _ _ W (HT.out.below (hbw.trans (hW.mono hz))) ((hcs.below (hW.mono hz)).more (Nat.le_trans hz hW.size)) (by omega) hin (by omega) (by omega);generalize D1 (Mut.mk k' key' dst' n' had' (.mk k1' b1' n1' t1' l1' o1') has' (.mk k2' b2' n2' t2' l2' o2') l') (d+1)=Y at hC' hXd;obtain⟨HC',Hbw⟩:=hid2 hC' hbw;clear hC' hbw;clear hC hcs hcell hmem hbm hm hX hin;go_upto_region 10 with(fail)
      iterate 5 go_step
      refine wp_load_mid 45 (.tmp 48) rfl g (off+q*19) rfl [.int .i64 k',.string key',.string dst',.int .i64 n',.bool had',.int .i64 k1',.bool b1',.int .i64 n1',.string t1',.slice la1' l1'.length lc1',.slice oa1' o1'.length oc1',.bool has',.int .i64 k2',.bool b2',.int .i64 n2',.string t2',.slice la2' l2'.length lc2',.slice oa2' o2'.length oc2',.slice a' l'.length c'] _ hrange Tryz.underlying45 rfl (by kernel_rfl) ?_
      iterate 5 go_step
      refine Dh 45 (.tmp 5) (.tmp 49) rfl #[.int .i64 k',.string key',.string dst',.int .i64 n',.bool had',.int .i64 k1',.bool b1',.int .i64 n1',.string t1',.slice la1' l1'.length lc1',.slice oa1' o1'.length oc1',.bool has',.int .i64 k2',.bool b2',.int .i64 n2',.string t2',.slice la2' l2'.length lc2',.slice oa2' o2'.length oc2',.slice a' l'.length c'] rfl rfl rfl (by kernel_rfl) (by simp[Value.oneCell']) ?_;go_upto_region 11 with(fail)
      iterate 2 go_step
      refine Ah 45 (.tmp 5) rfl wr.heap.size _ (Aj.new _ _ _) rfl _ Tryz.underlying45 rfl (by kernel_rfl) ?_;go_wp2_with (fail);(with_reducible refine(HC'.out _ (Aa _ _)).mono ?_);rintro e w6 ⟨rfl,hb6⟩;have hz2:=hbr.out.size;have hbf:=hbr.out.trans (((Aa wr (.cells #[.int .i64 k',.string key',.string dst',.int .i64 n',.bool had',.int .i64 k1',.bool b1',.int .i64 n1',.string t1',.slice la1' l1'.length lc1',.slice oa1' o1'.length oc1',.bool has',.int .i64 k2',.bool b2',.int .i64 n2',.string t2',.slice la2' l2'.length lc2',.slice oa2' o2'.length oc2',.slice a' l'.length c'] 45)).trans (hb6.mono (by simp))).mono hz2);by_cases hY:Y=0
      . subst hY;rw[if_pos rfl]at hXd;rw[Lg];obtain⟨HXd,Hbf⟩:=hid2 hXd hbf;clear hXd hbf;clear hb6;go_wp2;go_roundw
        case rel=>exact⟨q+1,by go_num,by omega,HXd,Hbf⟩
        case measure=>simp only[intOf];omega
      . rw[if_neg hY]at hXd;rw[Dq hY];exact⟨rfl,by rw[<-hXd,Dq hY],Hbi.out.trans (hbf.mono Hbi.out.size)⟩
    . obtain rfl:q=l.length:=by omega
      have hE:=hX.out;rw[List.drop_length]at hE;have hE':X=0:=hE.symm;subst hE';have Hbw:=qz hbw;clear hbw;clear hX hE;go_wp2
      go_end0
      exact⟨rfl,Hbw.out⟩
theorem Vu: ∀m,Yo m:=by
 refine Mut.ind ?_;intro k key dst n had was has v l IH;obtain⟨k1,b1,n1,t1,l1,o1⟩:=was;obtain⟨k2,b2,n2,t2,l2,o2⟩:=v;exact Xr k key dst n had k1 b1 n1 t1 l1 o1 has k2 b2 n2 t2 l2 o2 l IH
theorem Vv (m:Mut) (cs:List Value) (g:Nat) (W:World) (hT:B7 W) (hM:Ag W W.heap.size (dM m) cs) (hx:Aj W g 45 cs.toArray) (hb:Cg m<=100000000) (hi:Ug m):
 Calls Tryz.prog 64 #[.pointer (some ⟨g,0,none⟩)] W fun e w'=>e=Vh (D1 m 1)/\Below W.heap.size W w':=by
 have hC:=Vu m cs 1 W hT hM hb hi (by omega) (by omega);have hs:cs.toArray.size=19:=by simpa using W6 hM
 generalize D1 m 1=Y at hC ⊢;obtain⟨HC,Hx⟩:=hid2 hC hx;clear hC hx;go_enter Tryz.func64,Tryz.ntmps64
 iterate 3 go_step
 refine Ah 45 (.tmp 0) rfl g _ Hx.out rfl _ Tryz.underlying45 rfl (by rw[hs];kernel_rfl) ?_;go_wp2_with (fail);(with_reducible refine(HC.out).mono ?_);rintro e w1 ⟨rfl,hb1⟩;by_cases hY:Y=0
 . subst hY;rw[Lg];go_wp2
   go_end0
   exact⟨rfl,hb1⟩
 . rw[Dq hY];exact⟨rfl,(Dq hY).symm,hb1⟩
theorem Kn (m:Mut) (cs:List Value) (w:World) (hT:B7 w) (hM:Ag w w.heap.size (dM m) cs) (hb:Cg m<=100000000) (hi:Ug m):
 Calls Tryz.prog 35 #[.agg cs.toArray] w fun e w'=>e=.returned (.int .i64 (D2 m))/\Below w.heap.size w w':=by
 obtain⟨k,key,dst,n,had,⟨k1,b1,n1,t1,l1,o1⟩,has,⟨k2,b2,n2,t2,l2,o2⟩,l⟩:=m;have hM':=hM;obtain⟨la1,lc1,oa1,oc1,la2,lc2,oa2,oc2,a,c,rfl,_,_,_⟩:=Bf hM;obtain⟨wi,hwi⟩: ∃wi,w.alloc (.cells #[.int .i64 k,.string key,.string dst,.int .i64 n,.bool had,.int .i64 k1,.bool b1,.int .i64 n1,.string t1,.slice la1 l1.length lc1,.slice oa1 o1.length oc1,.bool has,.int .i64 k2,.bool b2,.int .i64 n2,.string t2,.slice la2 l2.length lc2,.slice oa2 o2.length oc2,.slice a l.length c] 45)=wi:=⟨_,rfl⟩;have hbi:Below w.heap.size w wi:=hwi▸Aa _ _;have hxb:Aj wi w.heap.size 45 #[.int .i64 k,.string key,.string dst,.int .i64 n,.bool had,.int .i64 k1,.bool b1,.int .i64 n1,.string t1,.slice la1 l1.length lc1,.slice oa1 o1.length oc1,.bool has,.int .i64 k2,.bool b2,.int .i64 n2,.string t2,.slice la2 l2.length lc2,.slice oa2 o2.length oc2,.slice a l.length c]:=hwi▸Aj.new _ _ _;have hmf: ∀(fn:Fn) (first cap:Array Value) (w:World),(Instr.makeFunc fn first cap).run Tryz.prog w=.ok (.func fn first cap) w:=fun _ _ _ _=>rfl;have hS:=Te _ _ wi ((hM'.below hbi).more hbi.size) hb;have hsz:=Fc (Mut.mk k key dst n had (.mk k1 b1 n1 t1 l1 o1) has (.mk k2 b2 n2 t2 l2 o2) l);have hC: ∀w1,Below wi.heap.size wi w1->Calls Tryz.prog 63 #[.func (.func 64) #[] #[.pointer (some ⟨w.heap.size,0,none⟩)]] w1 fun e w'=>e=.returned (.int .i64 (D1 (Mut.mk k key dst n had (.mk k1 b1 n1 t1 l1 o1) has (.mk k2 b2 n2 t2 l2 o2) l) 1))/\Below w1.heap.size w1 w':=fun w1 h1=>
  Qr _ _ w1 fun W hW=>by
   have hB:=hbi.trans ((h1.trans (hW.mono h1.size)).mono hbi.size);exact Vv (Mut.mk k key dst n had (.mk k1 b1 n1 t1 l1 o1) has (.mk k2 b2 n2 t2 l2 o2) l) _ w.heap.size W (hT.below hB) ((hM'.below hB).more hB.size) (hxb.below (h1.trans (hW.mono h1.size)) hxb.lt) hb hi
 have hE:D2 (Mut.mk k key dst n had (.mk k1 b1 n1 t1 l1 o1) has (.mk k2 b2 n2 t2 l2 o2) l)=if 64<B4 (Mut.mk k key dst n had (.mk k1 b1 n1 t1 l1 o1) has (.mk k2 b2 n2 t2 l2 o2) l)then 6 else D1 (Mut.mk k key dst n had (.mk k1 b1 n1 t1 l1 o1) has (.mk k2 b2 n2 t2 l2 o2) l) 1:=rfl;have hSi:((B4 (Mut.mk k key dst n had (.mk k1 b1 n1 t1 l1 o1) has (.mk k2 b2 n2 t2 l2 o2) l):Nat):Int)<=100000000:=by omega
 have hS0:(0:Int)<=((B4 (Mut.mk k key dst n had (.mk k1 b1 n1 t1 l1 o1) has (.mk k2 b2 n2 t2 l2 o2) l):Nat):Int):=by omega
 by_cases h64:64<B4 (Mut.mk k key dst n had (.mk k1 b1 n1 t1 l1 o1) has (.mk k2 b2 n2 t2 l2 o2) l)
 . rw[if_pos h64]at hE;have t64:(64:Int)<((B4 (Mut.mk k key dst n had (.mk k1 b1 n1 t1 l1 o1) has (.mk k2 b2 n2 t2 l2 o2) l):Nat):Int):=by omega
   generalize ((B4 (Mut.mk k key dst n had (.mk k1 b1 n1 t1 l1 o1) has (.mk k2 b2 n2 t2 l2 o2) l):Nat):Int)=Z at hS hSi hS0 t64;obtain⟨HS,Hxb,Hbi,HE⟩:=hid4 hS hxb hbi hE;clear hS hxb hbi hE;clear hC hM' hM hb hi hsz h64;go_enter Tryz.func35,Tryz.ntmps35;go_upto_region 1 with(fail);clear hwi
   iterate 2 go_step
   refine Ah 45 (.tmp 1) rfl w.heap.size _ Hxb.out rfl _ Tryz.underlying45 rfl (by kernel_rfl) ?_;go_wp2_with (fail);(with_reducible refine(HS.out).mono ?_);rintro e w1 ⟨rfl,hb1⟩;go_wp2;go_ret;exact⟨by rw[HE.out];rfl,Hbi.out.trans (hb1.mono Hbi.out.size)⟩
 . rw[if_neg h64]at hE;have t64:((B4 (Mut.mk k key dst n had (.mk k1 b1 n1 t1 l1 o1) has (.mk k2 b2 n2 t2 l2 o2) l):Nat):Int)<=64:=by omega
   generalize ((B4 (Mut.mk k key dst n had (.mk k1 b1 n1 t1 l1 o1) has (.mk k2 b2 n2 t2 l2 o2) l):Nat):Int)=Z at hS hSi hS0 t64;obtain⟨HS,Hxb,Hbi,HE,HC⟩:=hid5 hS hxb hbi hE hC;clear hS hxb hbi hE hC;clear hM' hM hb hi hsz h64;go_enter Tryz.func35,Tryz.ntmps35;go_upto_region 1 with(fail);clear hwi
   iterate 2 go_step
   refine Ah 45 (.tmp 1) rfl w.heap.size _ Hxb.out rfl _ Tryz.underlying45 rfl (by kernel_rfl) ?_;go_wp2_with (fail);(with_reducible refine(HS.out).mono ?_);rintro e w1 ⟨rfl,hb1⟩;go_wp2_with (fail);(with_reducible refine(HC.out _ hb1).mono ?_);rintro e w2 ⟨rfl,hb2⟩;go_wp2;go_ret;exact⟨by rw[HE.out];rfl,(Hbi.out.trans (hb1.mono Hbi.out.size)).trans (hb2.mono (Nat.le_trans Hbi.out.size hb1.size))⟩
theorem Jn (v:Val) (cs:List Value) (w:World) (hV:Ab w w.heap.size v cs) (hb:v.bulk<=100000000) {B:Bool} (hB:Cx v=B):
 Calls Tryz.prog 129 #[.agg cs.toArray] w fun e w'=>e=.returned (.bool B)/\Below w.heap.size w w':=by
 obtain⟨k,b,n,t,l,o⟩:=v;have hV':=hV;simp only[Ab]at hV';obtain⟨la,lc,oa,oc,rfl,_,_⟩:=hV';have hb0:=Aa w (.cells #[.int .i64 k,.bool b,.int .i64 n,.string t,.slice la l.length lc,.slice oa o.length oc] 42);have HC:=qz (Tw _ _ _ (Ab.more hb0.size _ _ (hV.below hb0)) hb hB);have Hb0:=qz hb0;clear hb0;clear hV hB;go_enter Tryz.func129,Tryz.ntmps129;go_wp2_with (fail);(with_reducible refine(HC.out).mono ?_);rintro e w1 ⟨rfl,hb1⟩;go_wp2;go_ret;exact⟨rfl,Hb0.out.trans (hb1.mono Hb0.out.size)⟩
theorem Ks (s:ByteArray) (w:World) (hs:s.size<=1000000000):Calls Tryz.prog 130 #[.string s] w fun e w'=>e=.returned (.bool (Cq s))/\Below w.heap.size w w':=by
 obtain⟨B,hB⟩: ∃B,Al s=B:=⟨_,rfl⟩;have hC:=fun(W:World)=>By hB W (by omega);by_cases h1:s.size<=64
 . have hE:Cq s=B:=by unfold Cq;rw[hB];simp[h1]
   have t1:(s.size:Int)<=64:=by omega
   obtain⟨HC,HE⟩:=hid2 hC hE;clear hC hE;clear h1;go_enter Tryz.func130,Tryz.ntmps130;go_wp2_with (fail);(with_reducible refine(HC.out _).mono ?_);rintro e w2 ⟨rfl,rfl⟩;go_wp2;go_ret;exact⟨by rw[HE.out];rfl,Below.refl _ _⟩
 . have hE:Cq s=false:=by unfold Cq;simp[h1]
   have t1:(64:Int)<(s.size:Int):=by omega
   have HE:=qz hE;clear hE;clear h1 hC;go_enter Tryz.func130,Tryz.ntmps130;go_wp2;go_ret;exact⟨by rw[HE.out];rfl,Below.refl _ _⟩
theorem Rb (k:Int) (key dst:ByteArray) (had:Bool) (y3 y5 y6 y7 y8 y9 y10 y11 y12 y13 y14 y15 y16 y17 y18:Value) (w:World) (h1:key.size<=1000000000) (h2:dst.size<=1000000000):
 Calls Tryz.prog 84 #[.agg #[.int .i64 k,.string key,.string dst,y3,.bool had,y5,y6,y7,y8,y9,y10,y11,y12,y13,y14,y15,y16,y17,y18]] w fun e w'=>e=.returned (.bool (Cd k key dst had))/\Below w.heap.size w w':=by
 by_cases e6:k=6
 . subst e6;have hE:Cd 6 key dst had=(Cq key&&Cq dst):=by unfold Cd;rw[if_pos rfl]
   have hC:=fun(W:World)=>Ks key W h1;have hD:=fun(W:World)=>Ks dst W h2;rw[hE];generalize Cq key=B at hC ⊢;generalize Cq dst=B' at hD ⊢;obtain⟨HC,HD⟩:=hid2 hC hD;clear hC hD;clear hE
   cases B with
   |false=>
    go_enter Tryz.func84,Tryz.ntmps84;go_wp2_with (fail);(with_reducible refine(HC.out _).mono ?_);rintro e w2 ⟨rfl,hb2⟩;go_wp2;go_ret;exact⟨rfl,(Aa _ _).trans (hb2.mono (by simp))⟩
   |true=>
    go_enter Tryz.func84,Tryz.ntmps84;go_wp2_with (fail);(with_reducible refine(HC.out _).mono ?_);rintro e w2 ⟨rfl,hb2⟩;have hlt2:w.heap.size<w2.heap.size:=by(have:=hb2.size;simp at this;omega)
    obtain⟨hc2,hg2⟩:=At hb2;go_wp2_with (fail);(with_reducible refine(HD.out _).mono ?_);rintro e w3 ⟨rfl,hb3⟩;go_wp2;go_ret;exact⟨by simp,((Aa _ _).trans (hb2.mono (by simp))).trans (hb3.mono (by omega))⟩
 have t6:(k==6)=false:=by simpa using e6
 by_cases e7:k=7/\key.toList.isEmpty=true
 . obtain⟨rfl,hk⟩:=e7;have hE:Cd 7 key dst had= !had:=by unfold Cd;rw[if_neg (by omega),if_pos ⟨rfl,hk⟩]
   rw[Ny,decide_eq_true_eq]at hk;subst hk;rw[hE];clear hE;go_enter Tryz.func84,Tryz.ntmps84;go_wp2;go_ret;exact⟨rfl,Aa _ _⟩
 have hE:Cd k key dst had=decide (Mu key=0):=by
  unfold Cd;rw[if_neg e6,if_neg e7,Bool.eq_iff_iff,decide_eq_true_eq,P4]
 have hC:=fun(W:World)=>Wa key W h1;rw[hE];generalize Mu key=X at hC ⊢;by_cases k7:k=7
 . subst k7;have t8:key.toList.isEmpty=false:=by cases e:key.toList.isEmpty;rfl;exact absurd ⟨rfl,e⟩ e7
   have HC:=qz hC;clear hC;clear hE e6 e7;go_enter Tryz.func84,Tryz.ntmps84;go_wp2_with (fail);(with_reducible refine(HC.out _).mono ?_);rintro e w2 ⟨rfl,rfl⟩;go_wp2;go_ret;exact⟨by simp[J7],Aa _ _⟩
 . have t7:(k==7)=false:=by simpa using k7
   have HC:=qz hC;clear hC;clear hE e6 e7 k7;go_enter Tryz.func84,Tryz.ntmps84;go_wp2_with (fail);(with_reducible refine(HC.out _).mono ?_);rintro e w2 ⟨rfl,rfl⟩;go_wp2;go_ret;exact⟨by simp[J7],Aa _ _⟩
end Go.Proofs.YtobmaegpfbheoaaGreatDoor
