/- Parts: The law FreezeExact returns true. Condition: a text of at most 1048576 bytes. -/
import Derived.Test.YtkmcjfkokoidcaaGreatDoorKFb41
import Derived.Test.YtkmcjfkokoidcaaGreatDoorKFb42
import Derived.Test.YtkmcjfkokoidcaaGreatDoorKFreezeExact4
import Derived.Test.YtkmcjfkokoidcaaGreatDoorKFreezeExact5
set_option maxHeartbeats 20000000
set_option maxRecDepth 100000
namespace Go.Proofs.YtkmcjfkokoidcaaGreatDoor
open Go Go.RowKit
def Gb (r:Int×List Bj) (w:World) (e:Ending) (w':World):Prop:=Below w.heap.size w w'/\ ∃M,e=.returned (.tuple #[.pointer (some ⟨M,0,none⟩),.int .i64 r.1])/\Fu w' M r.2
theorem Po (HC: ∀v,Ms v) (s:ByteArray) (w:World) (hT:B3 w) (hs:s.size<=6000000):
 Calls Tryz.prog 21 #[.string s] w (Gb (E1 s.data.toList) w):=by
 obtain⟨PO,hPO⟩: ∃P:Ending->World->Prop,Gb (E1 s.data.toList) w=P:=⟨_,rfl⟩;rw[hPO];have hV:=Vc HC s w (by omega);have hTT: ∀W,Below w.heap.size w W->B3 W:=fun W h=>hT.below h
 cases hr:Ej s.data.toList with
 |bad c q=>
  rw[hr]at hV;have hc:c≠0:=by have:=Ot hr;omega
  have hc1:(c != 0)=true:=by simpa using hc
  have Hof:=qz (show E1 s.data.toList=(c, [])from by unfold E1;rw[hr]);obtain⟨HV,HPO⟩:=hid2 hV hPO;clear hV hPO;clear hr hT hTT;go_enter Tryz.func21,Tryz.ntmps21;go_wp2_with (fail);(with_reducible refine(HV.out).mono ?_);rintro e w4 ⟨hb4,rfl⟩;go_upto_region 2 with(fail);obtain⟨w5,hw5⟩: ∃w5,w4.alloc (.cells #[.int .i64 0,.bool false,.int .i64 0,.string ⟨#[]⟩,.slice none 0 0,.slice none 0 0] 37)=w5:=⟨_,rfl⟩;have hb5:Below w4.heap.size w4 w5:=hw5▸Aa _ _;rw[hw5];have hB5:=hb4.trans (hb5.mono hb4.size);have HP:Hid (PO (.returned (.tuple #[.pointer (some ⟨w5.heap.size,0,none⟩),.int .i64 c])) (w5.alloc (.cells #[.slice none 0 0] Vz))):=by
   show PO _ _;rw[<-HPO.out,Hof.out];exact⟨hB5.alloc hB5.size _,_,rfl,Fu.emp _⟩
  clear hb4 hb5 hB5 hw5 hc;go_wp2;exact HP.out
 |ok v q=>
  rw[hr]at hV;obtain⟨hm1,hm2,hm3,hm4⟩:=Jd hr;rw[Ab]at hm3;have hof:E1 s.data.toList=Di v:=by unfold E1;rw[hr]
  obtain⟨k',b',n',t',l',o'⟩:=v;have hF:=fun la oa lc oc W hW hh=>Ss k' b' n' t' l' o' la oa lc oc W (hTT W hW) hh (by omega) hm4;unfold Im at hF;rw[<-hof]at hF;obtain⟨HV,HPO,HF⟩:=hid3 hV hPO hF;clear hV hPO hF;clear hr hT hTT hm1 hm2 hm3 hm4 hof;go_enter Tryz.func21,Tryz.ntmps21;go_wp2_with (fail);(with_reducible refine(HV.out).mono ?_);rintro e w4 ⟨hb4,cs,rfl,hf4⟩;obtain⟨la4,lc4,oa4,oc4,rfl⟩:=Dp hf4;have hb5:=hb4.alloc hb4.size (.cells #[.int .i64 k',.bool b',.int .i64 n',.string t',.slice la4 l'.length lc4,.slice oa4 o'.length oc4] 37);have hf5:=hf4.later (Aa w4 (.cells #[.int .i64 k',.bool b',.int .i64 n',.string t',.slice la4 l'.length lc4,.slice oa4 o'.length oc4] 37));have HC:=qz (HF.out la4 oa4 lc4 oc4 _ hb5 (Cb _ _ hf5.now));have Hb5:=qz hb5;clear hb5;clear hf4 hf5 hb4;go_wp2_with (fail);(with_reducible refine(HC.out).mono ?_);rintro e w6 ⟨hb6,M,rfl,hM⟩;have HP:Hid (PO (.returned (.tuple #[.pointer (some ⟨M,0,none⟩),.int .i64 (E1 s.data.toList).1])) w6):=by
   show PO _ _;rw[<-HPO.out];exact⟨Hb5.out.trans (hb6.mono Hb5.out.size),M,rfl,hM⟩
  clear hb6 hM;go_wp2;exact HP.out
theorem Rx (HC: ∀v,Ms v) (s:ByteArray) (w:World) (hT:B3 w) (hs:s.size<=6000000):
 Calls Tryz.prog 27 #[.string s] w (Gb (Qo s.data.toList) w):=by
 obtain⟨PO,hPO⟩: ∃P:Ending->World->Prop,Gb (Qo s.data.toList) w=P:=⟨_,rfl⟩;rw[hPO];have hV:=Po HC s w hT hs;unfold Gb at hV;have hTT: ∀W,Below w.heap.size w W->B3 W:=fun W h=>hT.below h;by_cases h0:(E1 s.data.toList).1=0
 . obtain⟨h1,h2,h3,h4⟩:=On h0;rw[Ab]at h3;have hx:Qo s.data.toList=if Bn (ov (E1 s.data.toList).2)=s.data.toList then(0,(E1 s.data.toList).2)else(4, []):=by unfold Qo;rw[if_neg (by rw[h0];simp)]
   have hX:=fun(W:World) (hW:Below w.heap.size w W) M a c h1' h2'=>Su (E1 s.data.toList).2 M a (E1 s.data.toList).2.length c W (hTT W hW) h1' h2' (by omega) h4 (fun h=>Uq h1 h);rw[h2]at hX;have hcmp:((W8 (E1 s.data.toList).2).toList==s.toList)=decide (Bn (ov (E1 s.data.toList).2)=s.data.toList):=by
    rw[Aa8 h1 h2,<-We,ByteArray.toList_eq]
   rw[h0]at hV;generalize (E1 s.data.toList).2=L at hV hx hX hcmp;generalize W8 L=S at hX hcmp;obtain⟨HV,HPO,Hx,HX⟩:=hid4 hV hPO hx hX;clear hV hPO hx hX;clear hT hTT h0 h1 h2 h3 h4;go_enter Tryz.func27,Tryz.ntmps27;go_wp2_with (fail);(with_reducible refine(HV.out).mono ?_);rintro e w4 ⟨hb4,M,rfl,hM⟩;obtain⟨a,c,hM1,hM2⟩:=hM;have HC:=qz (HX.out w4 hb4 M a c hM1 hM2);have HM:Hid (Fu w4 M L):=⟨a,c,hM1,hM2⟩;clear hM1 hM2;go_wp2_with (fail);(with_reducible refine(HC.out).mono ?_);rintro e w5 ⟨rfl,hb5⟩;have hB5:=hb4.trans (hb5.mono hb4.size);have hM5:=HM.out.below hb5;by_cases ht:Bn (ov L)=s.data.toList
   . rw[decide_eq_true ht]at hcmp;have hne:(S.toList != s.toList)=false:=by rw[bne,hcmp];rfl
     have HP:Hid (PO (.returned (.tuple #[.pointer (some ⟨M,0,none⟩),.int .i64 0])) w5):=by
      show PO _ _;rw[<-HPO.out,Hx.out,if_pos ht];exact⟨hB5,M,rfl,hM5⟩
     clear hb4 hb5 hB5 hM5 ht;go_wp2;exact HP.out
   . rw[decide_eq_false ht]at hcmp;have hne:(S.toList != s.toList)=true:=by rw[bne,hcmp];rfl
     have HP:Hid (PO (.returned (.tuple #[.pointer (some ⟨w5.heap.size,0,none⟩),.int .i64 4])) (w5.alloc (.cells #[.slice none 0 0] Vz))):=by
      show PO _ _;rw[<-HPO.out,Hx.out,if_neg ht];exact⟨hB5.alloc hB5.size _,_,rfl,Fu.emp _⟩
     clear hb4 hb5 hB5 hM5 ht;go_wp2;exact HP.out
 . have hx:Qo s.data.toList=((E1 s.data.toList).1, []):=by unfold Qo;rw[if_pos h0]
   have hL:=U5 h0;have hc1:((E1 s.data.toList).1 != 0)=true:=by simpa using h0
   rw[hL]at hV;generalize (E1 s.data.toList).1=E at hV hx hc1;obtain⟨HV,HPO,Hx⟩:=hid3 hV hPO hx;clear hV hPO hx;clear hT hTT h0 hL;go_enter Tryz.func27,Tryz.ntmps27;go_wp2_with (fail);(with_reducible refine(HV.out).mono ?_);rintro e w4 ⟨hb4,M,rfl,hM⟩;have HP:Hid (PO (.returned (.tuple #[.pointer (some ⟨M,0,none⟩),.int .i64 E])) w4):=by
    show PO _ _;rw[<-HPO.out,Hx.out];exact⟨hb4,M,rfl,hM⟩
   clear hb4 hM;go_wp2;exact HP.out
theorem P4 (s:ByteArray) (w:World) (hT:B3 w) (hN:Mw w) (hs:s.size<=1048576):
 Calls Tryz.prog 7 #[.string s] w fun e w'=>e=.returned (.bool true)/\Below w.heap.size w w':=by
 obtain⟨PO,hPO⟩: ∃P:Ending->World->Prop,(fun e w'=>e=.returned (.bool true)/\Below w.heap.size w w')=P:=⟨_,rfl⟩;rw[hPO];have h1:=Uo s w hT hN (by omega) fun v q hr=>by
  obtain⟨_,_,hm3,_⟩:=Jd hr;rw[Ab]at hm3;omega
 have h2:=fun(W:World) (hB:Below w.heap.size w W)=>Rx Q6 s W (hT.below hB) (by omega);have H4:=qz (fun(W:World) (hB:Below w.heap.size w W)=>(Lx W (hT.below hB) (hN.below hB)).mono fun e w' h=>show e=.returned (.bool true)/\Below W.heap.size W w' from h);obtain⟨Sc,hbL⟩:(Sc (ofT (Qo s.data.toList))/\Db (ofT (Qo s.data.toList))=(Qo s.data.toList).2)/\Ae (Qo s.data.toList).2<=10000000:=by
  refine⟨Ae3 Aha (Afy _), ?_⟩;unfold Qo;by_cases h:(E1 s.data.toList).1=0
  . have:=(On h).2.2.1;rw[Ab]at this;rw[if_neg (by rw[h];simp)]
    split
    . show Ae (E1 s.data.toList).2<=_;omega
    . simp[Ae]
  . rw[if_pos h];simp[Ae]
 unfold T7 at h1;obtain⟨⟨E,L⟩,hr⟩: ∃r,Qo s.data.toList=r:=⟨_,rfl⟩;simp only[hr]at h1 h2 Sc hbL;obtain⟨H1,H2,HPO,OkT,HbL⟩:=hid5 h1 h2 hPO Sc hbL;clear h1 h2 hPO Sc hbL;clear hT hN hr;go_enter Tryz.func7,Tryz.ntmps7;go_wp2_with (fail);(with_reducible refine(H1.out).mono ?_);rintro e w3 ⟨hb3,p,rfl,ht3⟩;have HC1:=qz True.intro;go_upto_region 2 with(fail);obtain⟨w4,hw4⟩: ∃w4,w3.alloc (.cells #[.pointer p] 26)=w4:=⟨_,rfl⟩;have hb4:Below w3.heap.size w3 w4:=hw4▸Aa _ _;have x3:Aj w4 w3.heap.size 26 #[.pointer p]:=hw4▸Aj.new _ _ _;rw[hw4];have hb0:=hb3.trans (hb4.mono hb3.size);have Ht4:=qz ((ht3.below hb4).mono (T:=fun i=>i<w4.heap.size) fun i hi _=>hi);have hR:=H2.out w4 hb0;unfold Gb at hR;have x0:=x3.cell 0;have lx3:=x3.lt;obtain⟨HR,Hb0,X3⟩:=hid3 hR hb0 x3;clear hR hb0 x3;clear hb3 hb4 ht3 hw4 HC1;go_wp2_with (fail);(with_reducible refine(HR.out).mono ?_);rintro e w5 ⟨hb5,M,rfl,hM⟩;obtain⟨aM,cM,hM1,hM2⟩:=hM;have hW5:=Hb0.out.trans (hb5.mono Hb0.out.size);have hx5:=X3.out.below hb5 X3.out.lt;have ht5:=Ht4.out.below hb5;have lM:=World.block_lt_of_cell? w5 _ hM1;have hkeep5: ∀W,Below w5.heap.size w5 W->(W.cell? ⟨w3.heap.size,0,none⟩=some (.pointer p)/\W.cell? ⟨M,0,none⟩=some (.slice aM L.length cM)):=fun W hW=>
  ⟨(hx5.below hW hx5.lt).cell 0,(hW.cell (p:=⟨M,0,none⟩) lM).trans hM1⟩
 have hE1:=fun(W:World) (hW:Below w5.heap.size w5 W)=>Pv (ofT (E,L)) p W ((ht5.below hW).mono fun i hi _=>hi) OkT.out.1 (by rw[OkT.out.2];exact Nat.le_trans HbL.out (by omega));rw[OkT.out.2]at hE1;have HK:=qz (fun(W:World) (hW:Below w5.heap.size w5 W)=>H4.out W (hW5.trans (hW.mono hW5.size)));have hlL:=HbL.out;unfold K4 at hE1;obtain⟨Hkeep5,HE1,HM2,HW5⟩:=hid4 hkeep5 hE1 hM2 hW5;clear hkeep5 hE1 hM2 hW5;clear hx5 ht5 hb5 HR Hb0 X3 Ht4 H4 hM1 x0 lx3;go_upto_region 3 with(fail);refine wp_region_held_drew (S:=fun Y:World=>Y.cell? ⟨w3.heap.size,0,none⟩=some (.pointer p)/\Y.cell? ⟨M,0,none⟩=some (.slice aM L.length cM)) (by kernel_rfl) (Hkeep5.out _ (Below.drew (Below.refl _ _))) (fun hHeld=> ?_);refine tkH 0 hHeld ?_;refine tkH 1 hHeld ?_;refine tkH 2 hHeld ?_;refine tkH 3 hHeld ?_;refine tkH 4 hHeld ?_;refine tkH 6 hHeld ?_;refine tkH 7 hHeld ?_;refine tkH 8 hHeld ?_;refine tkH 9 hHeld ?_;refine Ie 5 fun K hK=> ?_;go_simp;(with_reducible refine(HE1.out _ (Below.drew (Below.refl _ _))).mono ?_);rintro e w6 ⟨hb6,V6,rfl,hr6⟩;have hw6:Below w5.heap.size w5 w6:=(Below.drew (Below.refl _ _)).trans hb6;obtain⟨a6,c6,rfl⟩:=hr6.slice_n (Ax L);have HS:=qz (Ps L L _ _ _ _ _ _ w6 hr6.close ((HM2.out.below hw6).more hw6.size) (by omega) (by omega));refine hK.out _ _ (Hkeep5.out _ hw6) (fun hHeld=> ?_);clear hK K hb6 hr6
 try simp only[Act.put,tk1,tk2,tk3,tk4,tk5,tk6]
 refine Ie 10 fun K hK=> ?_;go_simp;(with_reducible refine(HS.out).mono ?_);rintro e w7 ⟨B7,rfl,hB,hb7⟩;obtain rfl:B7=true:=hB.2 (Mk _);have hw7:Below w5.heap.size w5 w7:=hw6.trans (hb7.mono hw6.size);refine hK.out _ _ (Hkeep5.out _ hw7) (fun hHeld=> ?_);clear hK K hb7 hB hw6 HS
 try simp only[Act.put,tk1,tk2,tk3,tk4,tk5,tk6]
 refine tkH 11 hHeld ?_;refine tkH 12 hHeld ?_;refine Ie 13 fun K hK=> ?_;go_simp;(with_reducible refine(HK.out _ hw7).mono ?_);rintro e w10 ⟨rfl,hb10⟩;have hw10:Below w5.heap.size w5 w10:=hw7.trans (hb10.mono hw7.size);have HP:Hid (PO (.returned (.bool true)) w10):=by
  show PO _ _;rw[<-HPO.out];exact⟨rfl,HW5.out.trans (hw10.mono HW5.out.size)⟩
 refine hK.out _ _ (Hkeep5.out _ hw10) (fun hHeld=> ?_);clear hK K hb10 hw7 hw10
 try simp only[Act.put,tk1,tk2,tk3,tk4,tk5,tk6]
 refine tkH 14 hHeld ?_;refine tkH 15 hHeld ?_;refine wpAnyH_done (by kernel_rfl) ?_ _;clear hHeld;go_wp2;exact HP.out
end Go.Proofs.YtkmcjfkokoidcaaGreatDoor
