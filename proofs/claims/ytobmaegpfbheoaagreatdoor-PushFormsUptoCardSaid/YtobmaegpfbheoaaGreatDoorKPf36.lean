/- Parts: push.May, and the reference's: why a push may not be. Condition: a bulk of at most 10^8. -/
import Derived.Test.YtobmaegpfbheoaaGreatDoorKPf33
set_option maxHeartbeats 20000000
set_option maxRecDepth 100000
namespace Go.Proofs.YtobmaegpfbheoaaGreatDoor
open Go.RowKit
def Yt (m:Mut):Prop:= ∀(cs:List Value) (d:Int) (w:World),B7 w->Ag w w.heap.size (dM m) cs->Cg m<=100000000->Ug m->1<=d->d<=7->
 Calls Tryz.prog 39 #[.agg cs.toArray,.int .i64 d] w fun e w'=>e=.returned (.int .i64 (D1 m d))/\Below w.heap.size w w'
theorem X6 (k:Int) (key dst:ByteArray) (n:Int) (had:Bool) (k1:Int) (b1:Bool) (n1:Int) (t1:ByteArray) (l1:List Val) (o1:List (ByteArray×Val)) (has:Bool) (k2:Int) (b2:Bool) (n2:Int) (t2:ByteArray) (l2:List Val) (o2:List (ByteArray×Val)) (l:List Mut) (ih: ∀x ∈ l,Yt x):Yt (Mut.mk k key dst n had (.mk k1 b1 n1 t1 l1 o1) has (.mk k2 b2 n2 t2 l2 o2) l):=by
 intro cs d w hT hM hb hi hd1 hd7;obtain⟨la1,lc1,oa1,oc1,la2,lc2,oa2,oc2,a,c,rfl,hv1,hv2,hl⟩:=Bf hM;have hls:=E3 l;simp only[Cg]at hb;simp only[Ug]at hi;obtain⟨_,hi1,hi2,hi3⟩:=hi;obtain⟨wi,hwi⟩: ∃wi,w.alloc (.cells #[.int .i64 k,.string key,.string dst,.int .i64 n,.bool had,.int .i64 k1,.bool b1,.int .i64 n1,.string t1,.slice la1 l1.length lc1,.slice oa1 o1.length oc1,.bool has,.int .i64 k2,.bool b2,.int .i64 n2,.string t2,.slice la2 l2.length lc2,.slice oa2 o2.length oc2,.slice a l.length c] 45)=wi:=⟨_,rfl⟩;have Hbi:Hid (Below w.heap.size w wi):=hwi▸Aa _ _;have Hxb:Hid (Aj wi w.heap.size 45 #[.int .i64 k,.string key,.string dst,.int .i64 n,.bool had,.int .i64 k1,.bool b1,.int .i64 n1,.string t1,.slice la1 l1.length lc1,.slice oa1 o1.length oc1,.bool has,.int .i64 k2,.bool b2,.int .i64 n2,.string t2,.slice la2 l2.length lc2,.slice oa2 o2.length oc2,.slice a l.length c]):=hwi▸Aj.new _ _ _;have hST:=fun(W:World) (hB:Below w.heap.size w W)=>Tk k key dst n had k1 b1 n1 t1 l1 o1 has k2 b2 n2 t2 l2 o2 l la1 lc1 oa1 oc1 la2 lc2 oa2 oc2 a l.length c W (Ab.more hB.size _ _ (hv1.below hB)) (Ab.more hB.size _ _ (hv2.below hB)) (by omega) (by omega);have hKE:=fun(W:World)=>Rb k key dst had (.int .i64 n) (.int .i64 k1) (.bool b1) (.int .i64 n1) (.string t1) (.slice la1 l1.length lc1) (.slice oa1 o1.length oc1) (.bool has) (.int .i64 k2) (.bool b2) (.int .i64 n2) (.string t2) (.slice la2 l2.length lc2) (.slice oa2 o2.length oc2) (.slice a l.length c) W (by omega) (by omega);have hF1: ∀(W:World) (_:Below w.heap.size w W),Calls Tryz.prog 85 #[.agg #[.int .i64 k1,.bool b1,.int .i64 n1,.string t1,.slice la1 l1.length lc1,.slice oa1 o1.length oc1]] W fun e w'=>e=.returned (.int .i64 (C3 (.mk k1 b1 n1 t1 l1 o1)))/\Below W.heap.size W w':=fun W hB=>L1 _ _ W (hT.below hB) (Ab.more hB.size _ _ (hv1.below hB)) (by omega) hi1;have hF2: ∀(W:World) (_:Below w.heap.size w W),Calls Tryz.prog 85 #[.agg #[.int .i64 k2,.bool b2,.int .i64 n2,.string t2,.slice la2 l2.length lc2,.slice oa2 o2.length oc2]] W fun e w'=>e=.returned (.int .i64 (C3 (.mk k2 b2 n2 t2 l2 o2)))/\Below W.heap.size W w':=fun W hB=>L1 _ _ W (hT.below hB) (Ab.more hB.size _ _ (hv2.below hB)) (by omega) hi2;have hMX:D1 (Mut.mk k key dst n had (.mk k1 b1 n1 t1 l1 o1) has (.mk k2 b2 n2 t2 l2 o2) l) d=D1 (Mut.mk k key dst n had (.mk k1 b1 n1 t1 l1 o1) has (.mk k2 b2 n2 t2 l2 o2) l) d:=rfl
 conv at hMX=>rhs;simp only[D1]
 generalize D1 (Mut.mk k key dst n had (.mk k1 b1 n1 t1 l1 o1) has (.mk k2 b2 n2 t2 l2 o2) l) d=X at hMX ⊢;generalize C3 (.mk k1 b1 n1 t1 l1 o1)=X1 at hF1 hMX;generalize C3 (.mk k2 b2 n2 t2 l2 o2)=X2 at hF2 hMX;generalize Cd k key dst had=KB at hKE hMX;generalize Ai k dst n had (Cx (.mk k1 b1 n1 t1 l1 o1)) has (Cx (.mk k2 b2 n2 t2 l2 o2)) l.length=BB at hMX hST;clear hM;obtain⟨HST,HKE,HF1,HF2,Hl,Ih,Hi3,HT⟩:=hid8 hST hKE hF1 hF2 hl ih hi3 hT;clear hST hKE hF1 hF2 hl ih hi3 hT
 cases BB with
 |false=>
  rw[if_pos rfl]at hMX;have HE:=qz hMX;clear hMX;go_enter Tryz.func39,Tryz.ntmps39;go_upto_region 1 with(fail);clear hwi
  iterate 2 go_step
  refine Ah 45 (.tmp 2) rfl w.heap.size _ Hxb.out rfl _ Tryz.underlying45 rfl (by kernel_rfl) ?_;go_wp2_with (fail);(with_reducible refine(HST.out _ Hbi.out).mono ?_);rintro e w1 ⟨rfl,hb1⟩;have Hbr1:=qz hb1;have Hbw1:=qz (Hbi.out.trans (hb1.mono Hbi.out.size));have Hx1:=qz (Hxb.out.below hb1 Hxb.out.lt);clear hb1;go_wp2;go_ret;exact⟨by rw[HE.out];rfl,Hbw1.out⟩
 |true=>
 rw[if_neg (by simp)]at hMX;by_cases h6:6<d
 . rw[if_pos h6]at hMX;have HE:=qz hMX;clear hMX;go_enter Tryz.func39,Tryz.ntmps39;go_upto_region 1 with(fail);clear hwi
   iterate 2 go_step
   refine Ah 45 (.tmp 2) rfl w.heap.size _ Hxb.out rfl _ Tryz.underlying45 rfl (by kernel_rfl) ?_;go_wp2_with (fail);(with_reducible refine(HST.out _ Hbi.out).mono ?_);rintro e w1 ⟨rfl,hb1⟩;have Hbr1:=qz hb1;have Hbw1:=qz (Hbi.out.trans (hb1.mono Hbi.out.size));have Hx1:=qz (Hxb.out.below hb1 Hxb.out.lt);clear hb1;go_wp2;go_ret;exact⟨by rw[HE.out];rfl,Hbw1.out⟩
 rw[if_neg h6]at hMX;have h66:d<=6:=by omega
 clear h6
 cases KB with
 |false=>
  rw[if_pos rfl]at hMX;have HE:=qz hMX;clear hMX;go_enter Tryz.func39,Tryz.ntmps39;go_upto_region 1 with(fail);clear hwi
  iterate 2 go_step
  refine Ah 45 (.tmp 2) rfl w.heap.size _ Hxb.out rfl _ Tryz.underlying45 rfl (by kernel_rfl) ?_;go_wp2_with (fail);(with_reducible refine(HST.out _ Hbi.out).mono ?_);rintro e w1 ⟨rfl,hb1⟩;have Hbr1:=qz hb1;have Hbw1:=qz (Hbi.out.trans (hb1.mono Hbi.out.size));have Hx1:=qz (Hxb.out.below hb1 Hxb.out.lt);clear hb1;go_upto_region 5 with(fail)
  iterate 2 go_step
  refine Ah 45 (.tmp 2) rfl w.heap.size _ Hx1.out rfl _ Tryz.underlying45 rfl (by kernel_rfl) ?_;go_wp2_with (fail);(with_reducible refine(HKE.out _).mono ?_);rintro e w2 ⟨rfl,hb2⟩;have Hbr2:=qz (Hbr1.out.trans (hb2.mono Hbr1.out.size));have Hbw2:=qz (Hbw1.out.trans (hb2.mono Hbw1.out.size));have hx2:=Hx1.out.below hb2 Hx1.out.lt;have y4:=hx2.cell 4;have y5:=hx2.cell 5;have y6:=hx2.cell 6;have y7:=hx2.cell 7;have y8:=hx2.cell 8;have y9:=hx2.cell 9;have y10:=hx2.cell 10;have Hx2:=qz hx2;clear hx2;clear hb2;go_wp2;go_ret;exact⟨by rw[HE.out];rfl,Hbw2.out⟩
 |true=>
 rw[if_neg (by simp)]at hMX;by_cases h4:had=true/\X1≠0
 . rw[if_pos h4]at hMX;have HE:=qz hMX;clear hMX;obtain⟨rfl,h40⟩:=h4;have t40:(X1 != 0)=true:=by simpa using h40
   go_enter Tryz.func39,Tryz.ntmps39;go_upto_region 1 with(fail);clear hwi
   iterate 2 go_step
   refine Ah 45 (.tmp 2) rfl w.heap.size _ Hxb.out rfl _ Tryz.underlying45 rfl (by kernel_rfl) ?_;go_wp2_with (fail);(with_reducible refine(HST.out _ Hbi.out).mono ?_);rintro e w1 ⟨rfl,hb1⟩;have Hbr1:=qz hb1;have Hbw1:=qz (Hbi.out.trans (hb1.mono Hbi.out.size));have Hx1:=qz (Hxb.out.below hb1 Hxb.out.lt);clear hb1;go_upto_region 5 with(fail)
   iterate 2 go_step
   refine Ah 45 (.tmp 2) rfl w.heap.size _ Hx1.out rfl _ Tryz.underlying45 rfl (by kernel_rfl) ?_;go_wp2_with (fail);(with_reducible refine(HKE.out _).mono ?_);rintro e w2 ⟨rfl,hb2⟩;have Hbr2:=qz (Hbr1.out.trans (hb2.mono Hbr1.out.size));have Hbw2:=qz (Hbw1.out.trans (hb2.mono Hbw1.out.size));have hx2:=Hx1.out.below hb2 Hx1.out.lt;have y4:=hx2.cell 4;have y5:=hx2.cell 5;have y6:=hx2.cell 6;have y7:=hx2.cell 7;have y8:=hx2.cell 8;have y9:=hx2.cell 9;have y10:=hx2.cell 10;have Hx2:=qz hx2;clear hx2;clear hb2;go_wp2_with (fail);(with_reducible refine(HF1.out _ Hbw2.out).mono ?_);rintro e w3 ⟨rfl,hb3⟩;have hbw3:=Hbw2.out.trans (hb3.mono Hbw2.out.size);go_wp2;go_ret;exact⟨by rw[HE.out];rfl,hbw3⟩
 rw[if_neg h4]at hMX;go_enter Tryz.func39,Tryz.ntmps39;go_upto_region 1 with(fail);clear hwi
 iterate 2 go_step
 refine Ah 45 (.tmp 2) rfl w.heap.size _ Hxb.out rfl _ Tryz.underlying45 rfl (by kernel_rfl) ?_;go_wp2_with (fail);(with_reducible refine(HST.out _ Hbi.out).mono ?_);rintro e w1 ⟨rfl,hb1⟩;have Hbr1:=qz hb1;have Hbw1:=qz (Hbi.out.trans (hb1.mono Hbi.out.size));have Hx1:=qz (Hxb.out.below hb1 Hxb.out.lt);clear hb1;go_upto_region 5 with(fail)
 iterate 2 go_step
 refine Ah 45 (.tmp 2) rfl w.heap.size _ Hx1.out rfl _ Tryz.underlying45 rfl (by kernel_rfl) ?_;go_wp2_with (fail);(with_reducible refine(HKE.out _).mono ?_);rintro e w2 ⟨rfl,hb2⟩;have Hbr2:=qz (Hbr1.out.trans (hb2.mono Hbr1.out.size));have Hbw2:=qz (Hbw1.out.trans (hb2.mono Hbw1.out.size));have hx2:=Hx1.out.below hb2 Hx1.out.lt;have y4:=hx2.cell 4;have y5:=hx2.cell 5;have y6:=hx2.cell 6;have y7:=hx2.cell 7;have y8:=hx2.cell 8;have y9:=hx2.cell 9;have y10:=hx2.cell 10;have Hx2:=qz hx2;clear hx2;clear hb2;go_upto_region 7 with(fail);go_upto_if 18 with(fail);go_cut [] (fun wx=>Hid (Below wi.heap.size wi wx))
 case first=>
  cases had with
  |false=>
   go_wp2;go_meet;exact Hbr2
  |true=>
   obtain rfl:X1=0:=by simpa using h4
   go_wp2_with (fail);(with_reducible refine(HF1.out _ Hbw2.out).mono ?_);rintro e w3 ⟨rfl,hb3⟩;have HB:=qz (Hbr2.out.trans (hb3.mono Hbr2.out.size));clear hb3;go_wp2;go_meet;exact HB
 case rest=>
  obtain⟨wm,hwm⟩: ∃wm:World,wm=wc:=⟨_,rfl⟩;subst hwm;clear Hbr1 Hbr2 Hbw1 Hbw2 Hx1 Hx2 y4 y5 y6 y7 y8 y9 y10 HF1 HST HKE;have hbr3:=hcut.out;have hbw3:=Hbi.out.trans (hbr3.mono Hbi.out.size);have hx3:=Hxb.out.below hbr3 Hxb.out.lt;have y0:=hx3.cell 0;have y11:=hx3.cell 11;have y12:=hx3.cell 12;have y13:=hx3.cell 13;have y14:=hx3.cell 14;have y15:=hx3.cell 15;have y16:=hx3.cell 16;have y17:=hx3.cell 17;have y18:=hx3.cell 18;clear hcut;go_upto_region 11 with(fail);go_cut [36] (fun s wx=>s=.bool (has||decide (k=1)||decide (k=5))/\wx=wm)
  case first=>
   cases has with
   |true=>
    go_wp2;go_meet;exact⟨by simp,rfl⟩
   |false=>
    by_cases e1:k=1
    . subst e1;go_wp2;go_meet;exact⟨by simp,rfl⟩
    have t1:(k==1)=false:=by simpa using e1
    go_wp2;go_meet;exact⟨by simp[e1,J7],rfl⟩
  case rest=>
  obtain⟨rfl,hwc⟩:=hcut;subst hwc;obtain⟨Hbr3,Hbw3,Hx3⟩:=hid3 hbr3 hbw3 hx3;clear hbr3 hbw3 hx3;generalize (has||decide (k=1)||decide (k=5))=P at hMX;by_cases h5:P=true/\X2≠0
  . rw[if_pos h5]at hMX;have HE:=qz hMX;clear hMX;obtain⟨rfl,h50⟩:=h5;have t50:(X2 != 0)=true:=by simpa using h50
    go_wp2_with (fail);(with_reducible refine(HF2.out _ Hbw3.out).mono ?_);rintro e w4 ⟨rfl,hb4⟩;have hbw4:=Hbw3.out.trans (hb4.mono Hbw3.out.size);go_wp2;go_ret;exact⟨by rw[HE.out];rfl,hbw4⟩
  rw[if_neg h5]at hMX;go_upto_if 36 with(fail);go_cut [] (fun wx=>Hid (Below wi.heap.size wi wx))
  case first=>
   cases P with
   |true=>
    obtain rfl:X2=0:=by
     by_cases h:X2=0
     . exact h
     . exact absurd ⟨rfl,h⟩ h5
    go_wp2_with (fail);(with_reducible refine(HF2.out _ Hbw3.out).mono ?_);rintro e w4 ⟨rfl,hb4⟩;have HB:=qz (Hbr3.out.trans (hb4.mono Hbr3.out.size));clear hb4;go_wp2;go_meet;exact HB
   |false=>
    go_wp2;go_meet;exact Hbr3
  case rest=>
   have Hbr5:=qz hcut.out;clear y0 y11 y12 y13 y14 y15 y16 y17 y18 Hbr3 Hbw3 Hx3 h5 HF2 h4;have HX0:=qz (show H9 (l.drop 0) (d+1)=X from by rw[List.drop_zero];exact hMX.symm);clear hMX;clear hcut;go_wp2_with (fail);go_loopw [7] (fun i wr=> ∃q:Nat,i=.int .i64 q/\q<=l.length/\Hid (H9 (l.drop q) (d+1)=X)/\Hid (Below wi.heap.size wi wr)) (fun i _=>l.length - (intOf i).toNat)
   case atStart=>exact⟨0,rfl,Nat.zero_le _,HX0,Hbr5⟩
   case round=>
    obtain⟨q,rfl,hq,hX,hbr⟩:=hrel;clear HX0 Hbr5;have hbw:=Hbi.out.trans (hbr.out.mono Hbi.out.size);have y18:=(Hxb.out.below hbr.out Hxb.out.lt).cell 18;have hgb:=Nat.lt_of_lt_of_le Hxb.out.lt hbr.out.size;by_cases hlt:q<l.length
    . obtain⟨m,hm⟩: ∃p,l[q]? =some p:=⟨_,List.getElem?_eq_getElem hlt⟩;have hmem:=List.mem_of_getElem? hm;have hbm:=E4 hmem;have hC:=Ih.out m hmem;have hin:=Nv hmem Hi3.out;have hXd:=hX.out;rw[N1 hm]at hXd;obtain⟨k',key',dst',n',had',⟨k1',b1',n1',t1',l1',o1'⟩,has',⟨k2',b2',n2',t2',l2',o2'⟩,l'⟩:=m;have hz:=hbw.size;obtain⟨g,off,rfl,hg,cs',hcs,_,hcell⟩:=Lo (Hl.out.below hbw) hm;obtain⟨la1',lc1',oa1',oc1',la2',lc2',oa2',oc2',a',c',rfl,_,_,_⟩:=Bf hcs;have hrange:wr.rangeAt g (off+q*19) [.int .i64 k',.string key',.string dst',.int .i64 n',.bool had',.int .i64 k1',.bool b1',.int .i64 n1',.string t1',.slice la1' l1'.length lc1',.slice oa1' o1'.length oc1',.bool has',.int .i64 k2',.bool b2',.int .i64 n2',.string t2',.slice la2' l2'.length lc2',.slice oa2' o2'.length oc2',.slice a' l'.length c']:=hcell;have hgr:g<wr.heap.size:=by omega
      have hq1:(q:Int)<(l.length:Int):=by omega
      have hq0:(0:Int)<=q:=by omega
      have hC':Calls Tryz.prog 39 #[.agg #[.int .i64 k',.string key',.string dst',.int .i64 n',.bool had',.int .i64 k1',.bool b1',.int .i64 n1',.string t1',.slice la1' l1'.length lc1',.slice oa1' o1'.length oc1',.bool has',.int .i64 k2',.bool b2',.int .i64 n2',.string t2',.slice la2' l2'.length lc2',.slice oa2' o2'.length oc2',.slice a' l'.length c'],.int .i64 (d+1)] wr fun e w'=>e=.returned (.int .i64 (D1 (Mut.mk k' key' dst' n' had' (.mk k1' b1' n1' t1' l1' o1') has' (.mk k2' b2' n2' t2' l2' o2') l') (d+1)))/\Below wr.heap.size wr w':=hC _ _ wr (HT.out.below hbw) (hcs.more hz) (by omega) hin (by omega) (by omega);generalize D1 (Mut.mk k' key' dst' n' had' (.mk k1' b1' n1' t1' l1' o1') has' (.mk k2' b2' n2' t2' l2' o2') l') (d+1)=Y at hC' hXd;obtain⟨HC',Hbw⟩:=hid2 hC' hbw;clear hC' hbw;clear hC hcs hcell hmem hbm hm hX hin;go_upto_region 18 with(fail)
      iterate 14 go_step
      refine wp_load_mid 45 (.tmp 53) rfl g (off+q*19) rfl [.int .i64 k',.string key',.string dst',.int .i64 n',.bool had',.int .i64 k1',.bool b1',.int .i64 n1',.string t1',.slice la1' l1'.length lc1',.slice oa1' o1'.length oc1',.bool has',.int .i64 k2',.bool b2',.int .i64 n2',.string t2',.slice la2' l2'.length lc2',.slice oa2' o2'.length oc2',.slice a' l'.length c'] _ hrange Tryz.underlying45 rfl (by kernel_rfl) ?_;go_wp2_with (fail);(with_reducible refine(HC'.out).mono ?_);rintro e w6 ⟨rfl,hb6⟩;have hbf:=hbr.out.trans (hb6.mono hbr.out.size);by_cases hY:Y=0
      . subst hY;rw[if_pos rfl]at hXd;obtain⟨HXd,Hbf⟩:=hid2 hXd hbf;clear hXd hbf;clear hb6;go_wp2;go_roundw
        case rel=>exact⟨q+1,by go_num,by omega,HXd,Hbf⟩
        case measure=>simp only[intOf];omega
      . rw[if_neg hY]at hXd;have tY:(Y != 0)=true:=by simpa using hY
        obtain⟨HXd,Hbf⟩:=hid2 hXd hbf;clear hXd hbf;clear hb6;go_wp2;go_ret;exact⟨by rw[<-HXd.out];rfl,Hbi.out.trans (Hbf.out.mono Hbi.out.size)⟩
    . obtain rfl:q=l.length:=by omega
      have hE:=hX.out;rw[List.drop_length]at hE;have hE':X=0:=hE.symm;subst hE';have Hbw:=qz hbw;clear hbw;clear hX hE;go_wp2;go_ret;exact⟨rfl,Hbw.out⟩
theorem Wb: ∀m,Yt m:=by
 refine Mut.ind ?_;intro k key dst n had was has v l IH;obtain⟨k1,b1,n1,t1,l1,o1⟩:=was;obtain⟨k2,b2,n2,t2,l2,o2⟩:=v;exact X6 k key dst n had k1 b1 n1 t1 l1 o1 has k2 b2 n2 t2 l2 o2 l IH
theorem Pj (m:Mut) (cs:List Value) (w:World) (hT:B7 w) (hM:Ag w w.heap.size (dM m) cs) (hb:Cg m<=100000000) (hi:Ug m):
 Calls Tryz.prog 18 #[.agg cs.toArray] w fun e w'=>e=.returned (.int .i64 (D2 m))/\Below w.heap.size w w':=by
 obtain⟨k,key,dst,n,had,⟨k1,b1,n1,t1,l1,o1⟩,has,⟨k2,b2,n2,t2,l2,o2⟩,l⟩:=m;have hM':=hM;obtain⟨la1,lc1,oa1,oc1,la2,lc2,oa2,oc2,a,c,rfl,_,_,_⟩:=Bf hM;obtain⟨wi,hwi⟩: ∃wi,w.alloc (.cells #[.int .i64 k,.string key,.string dst,.int .i64 n,.bool had,.int .i64 k1,.bool b1,.int .i64 n1,.string t1,.slice la1 l1.length lc1,.slice oa1 o1.length oc1,.bool has,.int .i64 k2,.bool b2,.int .i64 n2,.string t2,.slice la2 l2.length lc2,.slice oa2 o2.length oc2,.slice a l.length c] 45)=wi:=⟨_,rfl⟩;have hbi:Below w.heap.size w wi:=hwi▸Aa _ _;have hxb:Aj wi w.heap.size 45 #[.int .i64 k,.string key,.string dst,.int .i64 n,.bool had,.int .i64 k1,.bool b1,.int .i64 n1,.string t1,.slice la1 l1.length lc1,.slice oa1 o1.length oc1,.bool has,.int .i64 k2,.bool b2,.int .i64 n2,.string t2,.slice la2 l2.length lc2,.slice oa2 o2.length oc2,.slice a l.length c]:=hwi▸Aj.new _ _ _;have hS:=Tr _ _ wi ((hM'.below hbi).more hbi.size) hb;have hsz:=Fc (Mut.mk k key dst n had (.mk k1 b1 n1 t1 l1 o1) has (.mk k2 b2 n2 t2 l2 o2) l);have hC: ∀w1,Below wi.heap.size wi w1->Calls Tryz.prog 39 #[.agg #[.int .i64 k,.string key,.string dst,.int .i64 n,.bool had,.int .i64 k1,.bool b1,.int .i64 n1,.string t1,.slice la1 l1.length lc1,.slice oa1 o1.length oc1,.bool has,.int .i64 k2,.bool b2,.int .i64 n2,.string t2,.slice la2 l2.length lc2,.slice oa2 o2.length oc2,.slice a l.length c],.int .i64 1] w1 fun e w'=>e=.returned (.int .i64 (D1 (Mut.mk k key dst n had (.mk k1 b1 n1 t1 l1 o1) has (.mk k2 b2 n2 t2 l2 o2) l) 1))/\Below w1.heap.size w1 w':=fun w1 h1=>by
  have hB:=hbi.trans (h1.mono hbi.size);exact Wb _ _ 1 w1 (hT.below hB) ((hM'.below hB).more hB.size) hb hi (by omega) (by omega)
 have hE:D2 (Mut.mk k key dst n had (.mk k1 b1 n1 t1 l1 o1) has (.mk k2 b2 n2 t2 l2 o2) l)=if 64<B4 (Mut.mk k key dst n had (.mk k1 b1 n1 t1 l1 o1) has (.mk k2 b2 n2 t2 l2 o2) l)then 6 else D1 (Mut.mk k key dst n had (.mk k1 b1 n1 t1 l1 o1) has (.mk k2 b2 n2 t2 l2 o2) l) 1:=rfl;have hSi:((B4 (Mut.mk k key dst n had (.mk k1 b1 n1 t1 l1 o1) has (.mk k2 b2 n2 t2 l2 o2) l):Nat):Int)<=100000000:=by omega
 have hS0:(0:Int)<=((B4 (Mut.mk k key dst n had (.mk k1 b1 n1 t1 l1 o1) has (.mk k2 b2 n2 t2 l2 o2) l):Nat):Int):=by omega
 by_cases h64:64<B4 (Mut.mk k key dst n had (.mk k1 b1 n1 t1 l1 o1) has (.mk k2 b2 n2 t2 l2 o2) l)
 . rw[if_pos h64]at hE;have t64:(64:Int)<((B4 (Mut.mk k key dst n had (.mk k1 b1 n1 t1 l1 o1) has (.mk k2 b2 n2 t2 l2 o2) l):Nat):Int):=by omega
   generalize ((B4 (Mut.mk k key dst n had (.mk k1 b1 n1 t1 l1 o1) has (.mk k2 b2 n2 t2 l2 o2) l):Nat):Int)=Z at hS hSi hS0 t64;obtain⟨HS,Hxb,Hbi,HE⟩:=hid4 hS hxb hbi hE;clear hS hxb hbi hE;clear hC hM' hM hb hi hsz h64;go_enter Tryz.func18,Tryz.ntmps18;go_upto_region 1 with(fail);clear hwi
   iterate 2 go_step
   refine Ah 45 (.tmp 1) rfl w.heap.size _ Hxb.out rfl _ Tryz.underlying45 rfl (by kernel_rfl) ?_;go_wp2_with (fail);(with_reducible refine(HS.out).mono ?_);rintro e w1 ⟨rfl,hb1⟩;go_wp2;go_ret;exact⟨by rw[HE.out];rfl,Hbi.out.trans (hb1.mono Hbi.out.size)⟩
 . rw[if_neg h64]at hE;have t64:((B4 (Mut.mk k key dst n had (.mk k1 b1 n1 t1 l1 o1) has (.mk k2 b2 n2 t2 l2 o2) l):Nat):Int)<=64:=by omega
   generalize ((B4 (Mut.mk k key dst n had (.mk k1 b1 n1 t1 l1 o1) has (.mk k2 b2 n2 t2 l2 o2) l):Nat):Int)=Z at hS hSi hS0 t64;obtain⟨HS,Hxb,Hbi,HE,HC⟩:=hid5 hS hxb hbi hE hC;clear hS hxb hbi hE hC;clear hM' hM hb hi hsz h64;go_enter Tryz.func18,Tryz.ntmps18;go_upto_region 1 with(fail);clear hwi
   iterate 2 go_step
   refine Ah 45 (.tmp 1) rfl w.heap.size _ Hxb.out rfl _ Tryz.underlying45 rfl (by kernel_rfl) ?_;go_wp2_with (fail);(with_reducible refine(HS.out).mono ?_);rintro e w1 ⟨rfl,hb1⟩;go_upto_region 3 with(fail)
   iterate 2 go_step
   refine Ah 45 (.tmp 1) rfl w.heap.size _ (Hxb.out.below hb1 Hxb.out.lt) rfl _ Tryz.underlying45 rfl (by kernel_rfl) ?_;go_wp2_with (fail);(with_reducible refine(HC.out _ hb1).mono ?_);rintro e w2 ⟨rfl,hb2⟩;go_wp2;go_ret;exact⟨by rw[HE.out];rfl,(Hbi.out.trans (hb1.mono Hbi.out.size)).trans (hb2.mono (Nat.le_trans Hbi.out.size hb1.size))⟩
theorem Q7 {w:World} {B n c:Nat} {l:List Num} {a:Option Addr} (h:Ag w B (.row 20 (Si l)) [.slice a n c]) {q:Nat} {p:Num} (hi:l[q]? =some p):
 ∃g off,a=some ⟨g,off,none⟩/\g<B/\ ∃cs,Ag w B (dM p.m) cs/\cs.length=19/\w.cell? ⟨g,off+q*20,none⟩=some (.int .u64 p.id)/\ ∀j u,cs[j]? =some u->w.cell? ⟨g,off+q*20+1+j,none⟩=some u:=by
 obtain⟨g,off,ea,hg,cs,h1,h2,h3⟩:=h.at_ (i:=q) (d:=dN p) (by unfold Si;rw[List.getElem?_map,hi];rfl);unfold dN at h1;simp only[Ag]at h1;obtain⟨_,_,rfl,⟨rfl,_⟩,x,_,rfl,h4,rfl⟩:=h1;refine⟨g,off,ea,hg,x,h4,W6 h4,by simpa using h3 0 _ rfl,fun j u hu=> ?_⟩;have:=h3 (1+j) u (by rw[Nat.add_comm 1 j];simpa using hu)
 rwa [<-Nat.add_assoc]at this
theorem It {l:List Num} {p:Num} (h:p ∈ l):Cg p.m<=Dj l:=by
 induction l with
 |nil=>cases h
 |cons x r ih=>
  simp only[Dj];rcases List.mem_cons.1 h with rfl|h
  . omega
  . have:=ih h;omega
theorem Ir (l:List Num):l.length<=Dj l:=by
 induction l with
 |nil=>simp[Dj]
 |cons x r ih=>simp only[Dj,List.length_cons];omega
theorem N2 {l:List Num} {q:Nat} {p:Num} (h:l[q]? =some p):Fq (l.drop q)=if p.id<=0\/4611686018427387903<p.id then 2 else if D2 p.m=0 then Fq (l.drop (q+1))else D2 p.m:=by
 obtain⟨hlt,rfl⟩:=List.getElem?_eq_some_iff.1 h;rw[List.drop_eq_getElem_cons hlt];rfl
theorem Nd {w:World} {g:Nat} {t:TypeId} {x:Value} {cs:List Value} (h:Aj w g t (x::cs).toArray):w.rangeAt g 1 cs:=fun j v hv=>(h.cell (1+j)).trans (by rw[Nat.add_comm];simpa using hv)
theorem Er (n:Int) (B:Bool) (w:World) (h:decide (0<n/\n<=4611686018427387903)=B):Calls Tryz.prog 49 #[.int .u64 n] w fun e w'=>e=.returned (.bool B)/\w'=w:=by
 subst h;by_cases h1:0<n
 . by_cases h2:n<=4611686018427387903
   . rw[show decide (0<n/\n<=4611686018427387903)=true from by simp[h1,h2]];go_enter Tryz.func49,Tryz.ntmps49;go_wp2;go_ret;exact⟨by simp[],rfl⟩
   . rw[show decide (0<n/\n<=4611686018427387903)=false from by simp[h2]];go_enter Tryz.func49,Tryz.ntmps49;go_wp2;go_ret;exact⟨by simp[],rfl⟩
 . rw[show decide (0<n/\n<=4611686018427387903)=false from by simp[h1]];go_enter Tryz.func49,Tryz.ntmps49;go_wp2;go_ret;exact⟨rfl,rfl⟩
theorem Jm (c:Int) (l:List Num) (a:Option Addr) (n cc:Nat) (w:World) (_:0<=c) (hT:B7 w) (h:Ag w w.heap.size (.row 20 (Si l)) [.slice a n cc]) (hb:Dj l<=100000000) (hin:Xq l):
 Calls Tryz.prog 24 #[.agg #[.int .u64 c,.slice a n cc]] w fun e w'=>e=.returned (.int .i64 (B9 c l))/\Below w.heap.size w w':=by
 have hn:=h.row_len;rw[Iv]at hn;subst hn;have hlq:=Ir l;have hE:B9 c l=B9 c l:=rfl
 conv at hE=>rhs;unfold B9
 generalize B9 c l=X at hE ⊢;by_cases h1:c<=0\/4611686018427387903<c
 . rw[if_pos h1]at hE;have HC:=qz (fun W=>Er c false W (by simp;omega));have HE:=qz hE;clear hE;clear h hT;go_enter Tryz.func24,Tryz.ntmps24;go_wp2_with (fail);(with_reducible refine(HC.out _).mono ?_);rintro e w1 ⟨rfl,rfl⟩;go_wp2;go_ret;exact⟨by rw[HE.out];rfl,Aa _ _⟩
 rw[if_neg h1]at hE;have hC:=fun W=>Er c true W (by simp;omega);by_cases h2:64<l.length
 . rw[if_pos h2]at hE;have t2:(64:Int)<(l.length:Int):=by omega
   obtain⟨HC,HE⟩:=hid2 hC hE;clear hC hE;clear h hT;go_enter Tryz.func24,Tryz.ntmps24;go_wp2_with (fail);(with_reducible refine(HC.out _).mono ?_);rintro e w1 ⟨rfl,rfl⟩;go_wp2;go_ret;exact⟨by rw[HE.out];rfl,Aa _ _⟩
 rw[if_neg h2]at hE;have t2:(l.length:Int)<=64:=by omega
 have hI0:Hid (Below w.heap.size w (w.alloc (.cells #[.int .u64 c,.slice a l.length cc] 25))):=qz (Aa _ _);have hX0:Hid (Fq (l.drop 0)=X):=qz (by rw[List.drop_zero];exact hE.symm);clear hE;obtain⟨HC,H,HT,Hin⟩:=hid4 hC h hT hin;clear hC h hT hin;go_enter Tryz.func24,Tryz.ntmps24;go_wp2_with (fail);(with_reducible refine(HC.out _).mono ?_);rintro e w1 ⟨rfl,rfl⟩;go_wp2_with (fail);go_loopw [17] (fun i wr=> ∃q:Nat,i=.int .i64 q/\q<=l.length/\Hid (Fq (l.drop q)=X)/\Hid (Below w.heap.size w wr)) (fun i _=>l.length - (intOf i).toNat)
 case atStart=>exact⟨0,rfl,Nat.zero_le _,hX0,hI0⟩
 case round=>
  obtain⟨q,rfl,hq,hX,hbr⟩:=hrel;clear hX0 hI0;by_cases hlt:q<l.length
  . obtain⟨p,hp⟩: ∃p,l[q]? =some p:=⟨_,List.getElem?_eq_getElem hlt⟩;have hmem:=List.mem_of_getElem? hp;have hbm:=It hmem;obtain⟨hid0,hin'⟩:=Hin.out p hmem;have hXd:=hX.out;rw[N2 hp]at hXd;obtain⟨id,k',key',dst',n',had',⟨k1',b1',n1',t1',l1',o1'⟩,has',⟨k2',b2',n2',t2',l2',o2'⟩,l'⟩:=p;have hz:=hbr.out.size;obtain⟨g,off,rfl,hg,cs',hcs,_,hc0,hcell⟩:=Q7 (H.out.below hbr.out) hp;obtain⟨la1',lc1',oa1',oc1',la2',lc2',oa2',oc2',a',c',rfl,_,_,_⟩:=Bf hcs;simp only at hXd hbm hin' hc0 hid0;have hrange:wr.rangeAt g (off+q*20) [.int .u64 id,.int .i64 k',.string key',.string dst',.int .i64 n',.bool had',.int .i64 k1',.bool b1',.int .i64 n1',.string t1',.slice la1' l1'.length lc1',.slice oa1' o1'.length oc1',.bool has',.int .i64 k2',.bool b2',.int .i64 n2',.string t2',.slice la2' l2'.length lc2',.slice oa2' o2'.length oc2',.slice a' l'.length c']:=fun j u hu=>by
     cases j with
     |zero=>simp only[List.getElem?_cons_zero,Option.some.injEq]at hu;rw[<-hu];simpa using hc0
     |succ j=>rw[List.getElem?_cons_succ]at hu;rw[show off+q*20+(j+1)=off+q*20+1+j from by omega];exact hcell j u hu
    have hgr:g<wr.heap.size:=by omega
    have hq1:(q:Int)<(l.length:Int):=by omega
    have hq0:(0:Int)<=q:=by omega
    have hM: ∀W,Below wr.heap.size wr W->Calls Tryz.prog 35 #[.agg #[.int .i64 k',.string key',.string dst',.int .i64 n',.bool had',.int .i64 k1',.bool b1',.int .i64 n1',.string t1',.slice la1' l1'.length lc1',.slice oa1' o1'.length oc1',.bool has',.int .i64 k2',.bool b2',.int .i64 n2',.string t2',.slice la2' l2'.length lc2',.slice oa2' o2'.length oc2',.slice a' l'.length c']] W fun e w'=>e=.returned (.int .i64 (D2 (Mut.mk k' key' dst' n' had' (.mk k1' b1' n1' t1' l1' o1') has' (.mk k2' b2' n2' t2' l2' o2') l')))/\Below W.heap.size W w':=fun W hW=>Kn _ _ W (HT.out.below (hbr.out.trans (hW.mono hz))) ((hcs.below (hW.mono hz)).more (Nat.le_trans hz hW.size)) (by omega) hin';generalize D2 (Mut.mk k' key' dst' n' had' (.mk k1' b1' n1' t1' l1' o1') has' (.mk k2' b2' n2' t2' l2' o2') l')=Y at hM hXd;have hwx:=Aa wr (.cells #[.int .u64 id,.int .i64 k',.string key',.string dst',.int .i64 n',.bool had',.int .i64 k1',.bool b1',.int .i64 n1',.string t1',.slice la1' l1'.length lc1',.slice oa1' o1'.length oc1',.bool has',.int .i64 k2',.bool b2',.int .i64 n2',.string t2',.slice la2' l2'.length lc2',.slice oa2' o2'.length oc2',.slice a' l'.length c'] 61);have hbx:=hbr.out.trans (hwx.mono hz);by_cases hi:id<=0\/4611686018427387903<id
    . rw[if_pos hi]at hXd;have HC2:=qz (fun W=>Er id false W (by simp;omega));obtain⟨HM,HXd,Hbx⟩:=hid3 hM hXd hbx;clear hM hXd hbx;clear hcs hcell hmem hbm hp hX hin' hwx;go_upto_region 7 with(fail)
      iterate 5 go_step
      refine wp_load_mid 61 (.tmp 19) rfl g (off+q*20) rfl [.int .u64 id,.int .i64 k',.string key',.string dst',.int .i64 n',.bool had',.int .i64 k1',.bool b1',.int .i64 n1',.string t1',.slice la1' l1'.length lc1',.slice oa1' o1'.length oc1',.bool has',.int .i64 k2',.bool b2',.int .i64 n2',.string t2',.slice la2' l2'.length lc2',.slice oa2' o2'.length oc2',.slice a' l'.length c'] _ hrange Tryz.underlying61 rfl (by kernel_rfl) ?_
      iterate 5 go_step
      refine Dh 61 (.tmp 4) (.tmp 20) rfl #[.int .u64 id,.int .i64 k',.string key',.string dst',.int .i64 n',.bool had',.int .i64 k1',.bool b1',.int .i64 n1',.string t1',.slice la1' l1'.length lc1',.slice oa1' o1'.length oc1',.bool has',.int .i64 k2',.bool b2',.int .i64 n2',.string t2',.slice la2' l2'.length lc2',.slice oa2' o2'.length oc2',.slice a' l'.length c'] rfl rfl rfl (by kernel_rfl) (by simp[Value.oneCell']) ?_;go_wp2_with (fail);(with_reducible refine(HC2.out _).mono ?_);rintro e w2 ⟨rfl,rfl⟩;go_wp2;go_ret;exact⟨by rw[<-HXd.out];rfl,Hbx.out⟩
    . rw[if_neg hi]at hXd;have HC2:=qz (fun W=>Er id true W (by simp;omega));have HMx:=qz (hM _ hwx);have Hxn:=qz (Aj.new wr 61 #[.int .u64 id,.int .i64 k',.string key',.string dst',.int .i64 n',.bool had',.int .i64 k1',.bool b1',.int .i64 n1',.string t1',.slice la1' l1'.length lc1',.slice oa1' o1'.length oc1',.bool has',.int .i64 k2',.bool b2',.int .i64 n2',.string t2',.slice la2' l2'.length lc2',.slice oa2' o2'.length oc2',.slice a' l'.length c']);obtain⟨HM,Hbx⟩:=hid2 hM hbx;clear hM hbx;clear hcs hcell hmem hbm hp hX hin' hwx;go_upto_region 7 with(fail)
      iterate 5 go_step
      refine wp_load_mid 61 (.tmp 19) rfl g (off+q*20) rfl [.int .u64 id,.int .i64 k',.string key',.string dst',.int .i64 n',.bool had',.int .i64 k1',.bool b1',.int .i64 n1',.string t1',.slice la1' l1'.length lc1',.slice oa1' o1'.length oc1',.bool has',.int .i64 k2',.bool b2',.int .i64 n2',.string t2',.slice la2' l2'.length lc2',.slice oa2' o2'.length oc2',.slice a' l'.length c'] _ hrange Tryz.underlying61 rfl (by kernel_rfl) ?_
      iterate 5 go_step
      refine Dh 61 (.tmp 4) (.tmp 20) rfl #[.int .u64 id,.int .i64 k',.string key',.string dst',.int .i64 n',.bool had',.int .i64 k1',.bool b1',.int .i64 n1',.string t1',.slice la1' l1'.length lc1',.slice oa1' o1'.length oc1',.bool has',.int .i64 k2',.bool b2',.int .i64 n2',.string t2',.slice la2' l2'.length lc2',.slice oa2' o2'.length oc2',.slice a' l'.length c'] rfl rfl rfl (by kernel_rfl) (by simp[Value.oneCell']) ?_;go_wp2_with (fail);(with_reducible refine(HC2.out _).mono ?_);rintro e w2 ⟨rfl,rfl⟩;go_upto_region 10 with(fail)
      iterate 5 go_step
      refine wp_load_mid 45 (.tmp 25) rfl wr.heap.size 1 rfl [.int .i64 k',.string key',.string dst',.int .i64 n',.bool had',.int .i64 k1',.bool b1',.int .i64 n1',.string t1',.slice la1' l1'.length lc1',.slice oa1' o1'.length oc1',.bool has',.int .i64 k2',.bool b2',.int .i64 n2',.string t2',.slice la2' l2'.length lc2',.slice oa2' o2'.length oc2',.slice a' l'.length c'] _ (Nd Hxn.out) Tryz.underlying45 rfl (by kernel_rfl) ?_;go_wp2_with (fail);(with_reducible refine(HMx.out).mono ?_);rintro e w3 ⟨rfl,hb3⟩;have hbf:=Hbx.out.trans (hb3.mono Hbx.out.size);by_cases hY:Y=0
      . subst hY;rw[if_pos rfl]at hXd;obtain⟨HXd,Hbf⟩:=hid2 hXd hbf;clear hXd hbf;clear hb3;go_wp2;go_roundw
        case rel=>exact⟨q+1,by go_num,by omega,HXd,Hbf⟩
        case measure=>simp only[intOf];omega
      . rw[if_neg hY]at hXd;have tY:(Y != 0)=true:=by simpa using hY
        obtain⟨HXd,Hbf⟩:=hid2 hXd hbf;clear hXd hbf;clear hb3;go_wp2;go_ret;exact⟨by rw[<-HXd.out];rfl,Hbf.out⟩
  . obtain rfl:q=l.length:=by omega
    have hE:=hX.out;rw[List.drop_length]at hE;have hE':X=0:=hE.symm;subst hE';clear hX hE;go_wp2;go_ret;exact⟨rfl,hbr.out⟩
end Go.Proofs.YtobmaegpfbheoaaGreatDoor
