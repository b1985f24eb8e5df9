/- Parts: The law PatchLeast returns true. Condition: a bulk of at most 2 * 10^6 each. -/
import Derived.Test.YtnkmhaachfgaoaaGreatDoorKPq40
import Derived.Test.YtnkmhaachfgaoaaGreatDoorKPatchLeast1
import Derived.Test.YtnkmhaachfgaoaaGreatDoorKPatchLeast2
import Derived.Test.YtnkmhaachfgaoaaGreatDoorKPatchLeast3
set_option maxHeartbeats 20000000
set_option maxRecDepth 100000
namespace Go.Proofs.YtnkmhaachfgaoaaGreatDoor
open Go Go.RowKit
theorem Re: ∀{r:List POp} {q:POp},Aq (some q) r=0-> ∀p ∈ r,p.k≠3
 | [],_,_,p,hp=>by cases hp
 |x::r,q,h,p,hp=>by
  simp only[Aq,Option.any_some]at h;have hx:x.k≠3:=by
   intro e;have:Di q x=false:=by unfold Di;simp[e]
   simp[this]at h
  have hr:Aq (some x) r=0:=by
   split at h
   . omega
   split at h
   . omega
   split at h
   . exact h
   split at h
   . exact h
   . rename_i hf;exact absurd h hf
  rcases List.mem_cons.1 hp with rfl|hp
  . exact hx
  . exact Re hr p hp
theorem U4 {x:POp} {r:List POp} (h:Aq none (x::r)=0) (h3:x.k≠3): ∀p ∈ x::r,p.k≠3:=by
 simp only[Aq,Option.any_none,Bool.or_false]at h;have hr:Aq (some x) r=0:=by
  split at h
  . omega
  split at h
  . omega
  split at h
  . exact h
  split at h
  . exact h
  . rename_i hf;exact absurd h hf
 intro p hp;rcases List.mem_cons.1 hp with rfl|hp
 . exact h3
 . exact Re hr p hp
theorem Ql (x:List Ax) (l:List POp) (a:Option Addr) (n c:Nat) (b:Option Addr) (m d:Nat) (w:World) (hT:Cr w) (hN:G5 w) (hx:Ae w w.heap.size (.row 7 (dO x)) [.slice a n c]) (hl:Ae w w.heap.size (.row 8 (Ex l)) [.slice b m d]) (hbx:Ac x<=2000000) (hbl:Bo l<=2000000) (hin:inQ l):
 Calls Tryz.prog 3 #[.slice a n c,.slice b m d] w fun e w'=>e=.returned (.bool true)/\Below w.heap.size w w':=by
 obtain⟨PO,hPO⟩: ∃P:Ending->World->Prop,(fun e w'=>e=.returned (.bool true)/\Below w.heap.size w w')=P:=⟨_,rfl⟩;rw[hPO];have h1:=Cn x a n c w hx (by omega);have H3:=qz (fun(W:World) (hB:Below w.heap.size w W)=>Pk l b m d W ((hl.below hB).more hB.size) (by omega));have H4:=qz (fun(W:World) (hB:Below w.heap.size w W)=>Gn W (hT.below hB) (hN.below hB));have H5:=qz (fun(W:World) (hB:Below w.heap.size w W)=>Mg l b m d W (hT.below hB) ((hl.below hB).more hB.size) (by omega) hin);obtain⟨ok1,f1,l1,b1⟩:=Cs x;have as1:=Ko ok1;have lx:=Aw x;have ll:=Em l;have HTT:=qz (fun(W:World) (hB:Below w.heap.size w W)=>hT.below hB);generalize Cd x=t1 at h1 ok1 f1 l1 b1 as1;have hm0:=hl.row_len;rw[Ee]at hm0;subst hm0;obtain⟨k1,k2,k3,k4⟩:=Er l t1 ok1;have hap:M5 (Dp t1 l)/\(Ba (Dp t1 l)).length<=1000000/\Ac (Ba (Dp t1 l))<=50000000:=by
  unfold Dp;by_cases hm:Aq none l=0
  . rw[if_pos hm];exact⟨k1,by omega,by omega⟩
  . rw[if_neg hm];exact⟨trivial,by simp[Ba],by simp[Ba,Ac]⟩
 obtain⟨ok2,l2,b2⟩:=hap;have hlst:Aq none l=0->(∀p,l[0]? =some p->p.k≠3)->(Bq (Ba t1) (Ba (Dp t1 l))).length<=l.length:=fun hm h0=>by
  have e:Dp t1 l=l.foldl Ol t1:=by unfold Dp;rw[if_pos hm]
  rw[e,k2];refine Acm as1 ?_
  cases l with
  |nil=>intro p hp;cases hp
  |cons y r=>exact U4 hm (h0 y rfl)
 have Hself:=qz (Aem (Ba t1));unfold Iy at h1;obtain⟨H1,HPO,Ok1,As1,Ok2,Hlst⟩:=hid6 h1 hPO ok1 as1 ok2 hlst;clear h1 hPO ok1 as1 ok2 hlst;have Hl:=qz hl;clear hT hN hx hl f1 k1 k2 k3 k4;go_enter Tryz.func3,Tryz.ntmps3;go_wp2_with (fail);(with_reducible refine(H1.out).mono ?_);rintro e w2 ⟨hb2,p1,rfl,ht1⟩;go_upto_region 2 with(fail);obtain⟨w3,hw3⟩: ∃w3,w2.alloc (.cells #[.pointer p1] 27)=w3:=⟨_,rfl⟩;have hb3:Below w2.heap.size w2 w3:=hw3▸Aa _ _;have x3:Ah w3 w2.heap.size 27 #[.pointer p1]:=hw3▸Ah.new _ _ _;rw[hw3];have hW3:Below w.heap.size w w3:=hb2.trans (hb3.mono hb2.size);have ht3:C5 (fun i=>i<w3.heap.size) w3 t1 p1:=(ht1.below hb3).mono fun i hi _=>hi;have HO:=qz (fun(W:World) (hB:Below w3.heap.size w3 W)=>H3.out W (hW3.trans (hB.mono hW3.size)));have hA:=fun(W:World) (a':Option Addr) (n' c':Nat) (hB:Below w3.heap.size w3 W) (hq:Ae W W.heap.size (.row 8 (Ex l)) [.slice a' n' c'])=>Fm (fun i=>i<w3.heap.size) t1 p1 l a' n' c' W (HTT.out W (hW3.trans (hB.mono hW3.size))) (ht3.below hB) Ok1.out hq (by omega) (by omega) (by omega) hin;unfold Ix at hA;have Hkeep:Hid (∀W,Below w3.heap.size w3 W->W.cell? ⟨w2.heap.size,0,none⟩=some (.pointer p1)):=fun W hW=>(x3.below hW x3.lt).cell 0;have hz2:=hb2.size;have hz3:=hb3.size;have lx3:=x3.lt;obtain⟨HW3,Ht3,HA,X3⟩:=hid4 hW3 ht3 hA x3;clear hW3 ht3 hA x3;clear hw3 hb2 hb3 ht1 H1;obtain⟨C0,hC0⟩: ∃C0,Value.int .i64 (Aq none l)=C0:=⟨_,rfl⟩;rw[hC0]at HA;have HC0:=qz hC0;clear hC0;go_cut [6,7] (fun pv c wx=>Hid (Tb w3 (Dp t1 l) C0 pv c wx))
 case first=>
  refine wp_region_held_drew (S:=fun Y:World=>Y.cell? ⟨w2.heap.size,0,none⟩=some (.pointer p1)) (by kernel_rfl) (Hkeep.out _ (Below.drew (Below.refl _ _))) (fun hHeld=> ?_);refine tkH 0 hHeld ?_;refine tkH 1 hHeld ?_;refine rd2 2 7 (fun K hK=> ?_) (fun K hK=> ?_)
  . skip;go_simp;(with_reducible refine(HO.out _ (show Below w3.heap.size w3 w3.drew from Below.drew (Below.refl _ _))).mono ?_);rintro e wp ⟨hb1',a',c',rfl,hf'⟩;have hq:=hf'.now;have hbp:Below w3.heap.size w3 wp:=(show Below w3.heap.size w3 w3.drew from Below.drew (Below.refl _ _)).trans (hb1'.mono (show w3.heap.size<=(w3.drew).heap.size from(show Below w3.heap.size w3 w3.drew from Below.drew (Below.refl _ _)).size));refine hK.out _ _ (Hkeep.out _ hbp) (fun hHeld=> ?_);clear hK K
    try simp only[Act.put,tk1,tk2,tk3,tk4,tk5,tk6]
    clear hb1';refine rd2 3 7 (fun K hK=> ?_) (fun K hK=> ?_)
    . skip;go_simp;(with_reducible refine(HA.out _ _ _ _ hbp hq).mono ?_);rintro e wq ⟨hb2',qq,rfl,htq⟩;have hbq:Below w3.heap.size w3 wq:=hbp.trans (hb2'.mono (show w3.heap.size<=(wp).heap.size from hbp.size));refine hK.out _ _ (Hkeep.out _ hbq) (fun hHeld=> ?_);clear hK K
      try simp only[Act.put,tk1,tk2,tk3,tk4,tk5,tk6]
      refine tkH 4 hHeld ?_;refine tkH 5 hHeld ?_;refine tkH 6 hHeld ?_;refine C4 7 fun K hK=> ?_;go_simp;refine hK.out _ _ (Hkeep.out _ (hbq.alloc hbq.size (.cells #[.pointer none] 27))) (fun hHeld=> ?_);clear hK K
      try simp only[Act.put,tk1,tk2,tk3,tk4,tk5,tk6]
      refine C4 8 fun K hK=> ?_;go_simp;refine hK.out _ _ (Hkeep.out _ (hbq.alloc hbq.size (.cells #[.pointer qq] 27))) (fun hHeld=> ?_);clear hK K
      try simp only[Act.put,tk1,tk2,tk3,tk4,tk5,tk6]
      refine tkH 9 hHeld ?_;refine wpAnyH_done (by kernel_rfl) ?_ _;clear hHeld;have HF:=qz (Tb.new (c0:=C0) hbq htq);skip;go_wp2;go_meet;exact HF.out
    . skip;go_simp;refine hK.out _ _ (Hkeep.out _ (hbp.alloc hbp.size (.cells #[.pointer none] 27))) (fun hHeld=> ?_);clear hK K
      try simp only[Act.put,tk1,tk2,tk3,tk4,tk5,tk6]
      refine C4 3 fun K hK=> ?_;go_simp;(with_reducible refine(HA.out _ _ _ _ (hbp.alloc hbp.size (.cells #[.pointer none] 27)) ((hq.below (Aa wp (.cells #[.pointer none] 27))).more (Aa wp (.cells #[.pointer none] 27)).size)).mono ?_);rintro e wq ⟨hb2',qq,rfl,htq⟩;have hbq:Below w3.heap.size w3 wq:=(hbp.alloc hbp.size (.cells #[.pointer none] 27)).trans (hb2'.mono (show w3.heap.size<=(wp.alloc (.cells #[.pointer none] 27)).heap.size from(hbp.alloc hbp.size (.cells #[.pointer none] 27)).size));refine hK.out _ _ (Hkeep.out _ hbq) (fun hHeld=> ?_);clear hK K
      try simp only[Act.put,tk1,tk2,tk3,tk4,tk5,tk6]
      refine tkH 4 hHeld ?_;refine tkH 5 hHeld ?_;refine tkH 6 hHeld ?_;have hxZ:Ah wq wp.heap.size 27 #[.pointer none]:=(Ah.new wp 27 #[.pointer none]).below hb2' (Ah.lt (Ah.new _ _ _));have cZ:=hxZ.cell 0;have fZ:=hxZ.frozen;have lZ:=hxZ.lt;have gZ:w3.heap.size<=wp.heap.size:=hbp.size;refine C4 8 fun K hK=> ?_;go_simp;refine hK.out _ _ (Hkeep.out _ (hbq.setCell (p:=⟨wp.heap.size,0,none⟩) gZ _)) (fun hHeld=> ?_);clear hK K
      try simp only[Act.put,tk1,tk2,tk3,tk4,tk5,tk6]
      refine tkH 9 hHeld ?_;refine wpAnyH_done (by kernel_rfl) ?_ _;clear hHeld;have HF:=qz (Tb.old (c0:=C0) hbq gZ hxZ htq (fun i i1=>by rcases i1 with i1|i1<;>first|omega|(simp only[World.size_alloc]at i1;omega)|(have:=hbp.size;simp only[World.size_alloc]at*;omega)));skip;go_wp2;go_meet;exact HF.out
  . skip;go_simp;refine hK.out _ _ (Hkeep.out _ ((show Below w3.heap.size w3 w3.drew from Below.drew (Below.refl _ _)).alloc (show Below w3.heap.size w3 w3.drew from Below.drew (Below.refl _ _)).size (.cells #[.pointer none] 27))) (fun hHeld=> ?_);clear hK K
    try simp only[Act.put,tk1,tk2,tk3,tk4,tk5,tk6]
    refine C4 2 fun K hK=> ?_;have hxd:Ah (w3.alloc (.cells #[.pointer none] 27)).drew w3.heap.size 27 #[.pointer none]:=(Ah.new w3 27 #[.pointer none]).drew;have hBd:Below w3.heap.size w3 (w3.alloc (.cells #[.pointer none] 27)).drew:=Below.drew (Aa w3 (.cells #[.pointer none] 27));go_simp;(with_reducible refine(HO.out _ hBd).mono ?_);rintro e wp ⟨hb1',a',c',rfl,hf'⟩;have hq:=hf'.now;have hbp:Below w3.heap.size w3 wp:=hBd.trans (hb1'.mono hBd.size);have hxp:Ah wp w3.heap.size 27 #[.pointer none]:=hxd.below hb1' hxd.lt;have lxp:=hxp.lt;refine hK.out _ _ (Hkeep.out _ hbp) (fun hHeld=> ?_);clear hK K
    try simp only[Act.put,tk1,tk2,tk3,tk4,tk5,tk6]
    clear hb1' hxd hBd;refine C4 3 fun K hK=> ?_;go_simp;(with_reducible refine(HA.out _ _ _ _ hbp hq).mono ?_);rintro e wq ⟨hb2',qq,rfl,htq⟩;have hbq:Below w3.heap.size w3 wq:=hbp.trans (hb2'.mono (show w3.heap.size<=(wp).heap.size from hbp.size));refine hK.out _ _ (Hkeep.out _ hbq) (fun hHeld=> ?_);clear hK K
    try simp only[Act.put,tk1,tk2,tk3,tk4,tk5,tk6]
    refine tkH 4 hHeld ?_;refine tkH 5 hHeld ?_;refine tkH 6 hHeld ?_;have hxZ:Ah wq w3.heap.size 27 #[.pointer none]:=hxp.below hb2' lxp;have cZ:=hxZ.cell 0;have fZ:=hxZ.frozen;have lZ:=hxZ.lt;have gZ:w3.heap.size<=w3.heap.size:=Nat.le_refl _;refine C4 8 fun K hK=> ?_;go_simp;refine hK.out _ _ (Hkeep.out _ (hbq.setCell (p:=⟨w3.heap.size,0,none⟩) gZ _)) (fun hHeld=> ?_);clear hK K
    try simp only[Act.put,tk1,tk2,tk3,tk4,tk5,tk6]
    refine tkH 9 hHeld ?_;refine wpAnyH_done (by kernel_rfl) ?_ _;clear hHeld;have HF:=qz (Tb.old (c0:=C0) hbq gZ hxZ htq (fun i i1=>by rcases i1 with i1|i1<;>first|omega|(simp only[World.size_alloc]at i1;omega)|(have:=hbp.size;simp only[World.size_alloc]at*;omega)));skip;go_wp2;go_meet;exact HF.out
 case rest=>
  obtain⟨Z,q,rfl,rfl,hb4,hZ,x4,ht4⟩:=hcut.out;obtain⟨w4,rfl⟩: ∃w4:World,w4=wc:=⟨_,rfl⟩;have e0:=HC0.out;subst e0;have hW4:=HW3.out.trans (hb4.mono HW3.out.size);have hz4:=hb4.size;have HR:=qz (H5.out w4 hW4);obtain⟨HW4,Hb4,X4,Ht4⟩:=hid4 hW4 hb4 x4 ht4;clear hW4 hb4 x4 ht4;clear hcut HO HA HC0 H3 H5;go_wp2_with (fail);(with_reducible refine(HR.out).mono ?_);rintro e w5 ⟨rfl,hb5⟩;have hb35:Below w3.heap.size w3 w5:=Hb4.out.trans (hb5.mono Hb4.out.size);have HW5:=qz (HW4.out.trans (hb5.mono HW4.out.size));have hx5:=X3.out.below hb35 lx3;have Hy5:=qz (X4.out.below hb5 X4.out.lt);have Ht5:=qz (Ht4.out.below hb5);have hz35:=hb35.size;have hF:=Gk t1 t1 p1 p1 w5 ((Ht3.out.below hb35).mono fun i hi _=>hi) ((Ht3.out.below hb35).mono fun i hi _=>hi) Ok1.out Ok1.out (by omega) (by omega) (by omega) (by omega);rw[Hself.out]at hF;obtain⟨E,hE⟩: ∃E,Aq none l=E:=⟨_,rfl⟩;rw[hE];have d0:=hx5.cell 0;have ld:=hx5.lt;obtain⟨HF,Hx5,HE,Hb35⟩:=hid4 hF hx5 hE hb35;clear hF hx5 hE hb35;clear hb5 HR HW4 Hb4 X4 Ht4;go_wp2_with (fail);(with_reducible refine(HF.out).mono ?_);rintro e w6 ⟨hb6,V6,rfl,hr6⟩;obtain⟨a6,c6,rfl⟩:=hr6.slice_n (n:=0) rfl;have hW6:=HW5.out.trans (hb6.mono HW5.out.size);have hx6:=Hx5.out.below hb6 Hx5.out.lt;have hy6:=Hy5.out.below hb6 Hy5.out.lt;have ht6:=Ht5.out.below hb6;have hb36:=Hb35.out.trans (hb6.mono hz35);have hz36:=hb36.size;have hk6:=H4.out w6 hW6;have d1:=hx6.cell 0;have e1:=hy6.cell 0;have ld1:=hx6.lt;have le1:=hy6.lt;have HG:=qz (Gk t1 (Dp t1 l) p1 q w6 ((Ht3.out.below hb36).mono fun i hi _=>hi) (ht6.mono fun i hi _=>hi) Ok1.out Ok2.out (by omega) (by omega) (by omega) (by omega));obtain⟨Hk6,HW6⟩:=hid2 hk6 hW6;clear hk6 hW6;clear hb6 HF hr6 d0 ld hx6 hy6 ht6 hb36;have hfin: ∀W,Below w6.heap.size w6 W->Calls Tryz.prog 15 #[] W fun e w'=>e=.returned (.bool true)/\PO (.returned (.bool true)) w':=fun W hB=>(H4.out W (HW6.out.trans (hB.mono HW6.out.size))).mono fun e w' ⟨h1,h2⟩=>by
   refine⟨h1, ?_⟩;rw[<-HPO.out];have h3:=HW6.out.trans (hB.mono HW6.out.size);exact⟨rfl,h3.trans (h2.mono h3.size)⟩
  have Hend:Hid (∀(L:Nat),L<=l.length->((L:Int)<=(l.length:Int))):=fun L h=>by omega
  have Hfin:=qz hfin;clear hfin;clear Hk6;by_cases hE0:E=0
  . subst hE0;have h9:(∀p,l[0]? =some p->p.k≠3)->(Bq (Ba t1) (Ba (Dp t1 l))).length<=l.length:=fun h=>Hlst.out HE.out h;have hG':(∀p,l[0]? =some p->p.k≠3)->Calls Tryz.prog 14 #[.agg #[.pointer p1],.agg #[.pointer q]] w6 fun e w'=> ∃a9 L c9,e=.returned (.slice a9 L c9)/\((L:Int)<=(l.length:Int))/\Below w6.heap.size w6 w':=fun h=>(HG.out).mono fun e w' ⟨h1,V,h2,h3⟩=>by
     obtain⟨a9,c9,rfl⟩:=h3.slice;refine⟨a9,_,c9,h2, ?_,h1⟩;have:=h9 h;rw[Ee,List.length_map];omega
    cases hl0:l[0]? with
    |none=>
     have hl1:l.length=0:=by
      have:=List.getElem?_eq_none_iff.1 hl0;omega
     have hQ:=hG' (fun p e=>by rw[hl0]at e;cases e);have hgt: ¬((0:Int)<(l.length:Int)):=by omega
     have HQ:=qz hQ;clear hQ;clear h9 hG' hl0 hl1;go_wp2_with (fail);(with_reducible refine(HQ.out).mono ?_);rintro e w7 ⟨a9,L,c9,rfl,hL,hb7⟩;have HF7:=qz (Hfin.out w7 hb7);clear hb7 HQ HG;go_wp2_with (fail);(with_reducible refine(HF7.out).mono ?_);rintro e w8 ⟨rfl,hP⟩;have HP:=qz hP;clear hP;go_wp2;exact HP.out
    |some pp=>
     obtain⟨kk,key,⟨k',b',n',t',l',o'⟩⟩:=pp;have hlt:0<l.length:=(List.getElem?_eq_some_iff.1 hl0).1;obtain⟨gl,off,rfl,hgl,la',lc',oa',oc',hv,c0, -⟩:=Kp Hl.out hl0;have s0:=(HW6.out.cell (p:=⟨gl,off+0*8,none⟩) hgl).trans c0;simp only[Nat.zero_mul,Nat.add_zero]at s0;have hgt:(0:Int)<(l.length:Int):=by omega
     have lg6:gl<w6.heap.size:=Nat.lt_of_lt_of_le hgl HW6.out.size;by_cases hk3:kk=3
     . subst hk3;have HF6:=qz (Hfin.out w6 (Below.refl _ _));clear h9 hG' hl0 hv c0 HG hlt;go_wp2_with (fail);(with_reducible refine(HF6.out).mono ?_);rintro e w8 ⟨rfl,hP⟩;have HP:=qz hP;clear hP;go_wp2;exact HP.out
     . have hk3':(kk==3)=false:=by simpa using hk3
       have HQ:=qz (hG' (fun p e=>by rw[hl0]at e;cases e;exact hk3));clear h9 hG' hl0 hv c0 hk3 hlt;go_wp2_with (fail);(with_reducible refine(HQ.out).mono ?_);rintro e w7 ⟨a9,L,c9,rfl,hL,hb7⟩;have HF7:=qz (Hfin.out w7 hb7);clear hb7 HQ HG;go_wp2_with (fail);(with_reducible refine(HF7.out).mono ?_);rintro e w8 ⟨rfl,hP⟩;have HP:=qz hP;clear hP;go_wp2;exact HP.out
  . have hne:(E != 0)=true:=by simpa using hE0
    have HF6:=qz (Hfin.out w6 (Below.refl _ _));clear hE0 HG;go_wp2_with (fail);(with_reducible refine(HF6.out).mono ?_);rintro e w8 ⟨rfl,hP⟩;have HP:=qz hP;clear hP;go_wp2;exact HP.out
end Go.Proofs.YtnkmhaachfgaoaaGreatDoor
