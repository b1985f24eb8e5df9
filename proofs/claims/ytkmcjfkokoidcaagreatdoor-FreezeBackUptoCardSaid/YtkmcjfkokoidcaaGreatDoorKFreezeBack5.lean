/- Parts: freeze.Exact: the tree whose own text it is, or why there is none. Condition: a text of at most 10^8 bytes, a value of a bulk of at most 4 * 10^7. -/
import Derived.Test.YtkmcjfkokoidcaaGreatDoorKFreezeBack2
set_option maxHeartbeats 20000000
set_option maxRecDepth 100000
namespace Go.Proofs.YtkmcjfkokoidcaaGreatDoor
open Go Go.RowKit
def S5 (s:List UInt8) (w:World) (e:Ending) (w':World):Prop:=Below w.heap.size w w'/\ ∃p,e=.returned (.tuple #[.agg #[.pointer p],.int .i64 (exE s).1])/\Eo (fun i=>w.heap.size<=i) w' (ofT (exE s)) p
theorem P6 (s:ByteArray) (w:World) (hT:Cm w) (hN:Mv w) (hs:s.size<=100000000) (hbk: ∀v q,Fe s.data.toList=.ok v q->v.bulk<=40000000):
 Calls Tryz.prog 26 #[.string s] w (S5 s.data.toList w):=by
 obtain⟨PO,hPO⟩: ∃P:Ending->World->Prop,S5 s.data.toList w=P:=⟨_,rfl⟩;rw[hPO];obtain⟨w1,hw1⟩: ∃w1,w.alloc (.cells #[.pointer none] 26)=w1:=⟨_,rfl⟩;have hb1:Below w.heap.size w w1:=hw1▸Aa _ _;have hR1:Aj w1 w.heap.size 26 #[.pointer none]:=hw1▸Aj.new _ _ _;have hV:=O8 s w1 (hT.below hb1) (hN.below hb1) hs hbk;unfold Lt at hV;have hTT: ∀W,Below w.heap.size w W->Cm W:=fun W h=>hT.below h;have herr: ∀(E:Int),exE s.data.toList=(E, [])->E≠0-> ∀W,Below w.heap.size w W->PO (.returned (.tuple #[.agg #[.pointer none],.int .i64 E])) W:=fun E h1 h2 W hW=>by
  rw[<-hPO];exact⟨hW,none,by rw[h1],by rw[h1];unfold ofT;rw[if_neg h2];rfl⟩
 by_cases h0:(Kw s.data.toList).1=0
 . obtain⟨h1,h2,h3,h4⟩:=Ak2 h0;have hx:exE s.data.toList=if Am (ov (Kw s.data.toList).2)=s.data.toList then(0,(Kw s.data.toList).2)else(4, []):=by unfold exE;rw[if_neg (by rw[h0];simp)]
   have hbl:Ab (Kw s.data.toList).2<=40000000:=by
    unfold Kw at h0 ⊢
    cases hr:Fe s.data.toList with
    |bad c q=>simp[Ab]
    |ok v q=>
     rw[hr]at h0;simp only at h0 ⊢;have h5:=hbk _ _ hr;rw[(P7 h0).1]at h5;simp only[ov,Val.bulk]at h5;omega
   have hTx:=fun(W:World) (hW:Below w.heap.size w W) p ht=>Ed (Bd (Kw s.data.toList).2) p W (hTT W hW) ht (C9 _).1 (by rw[M5 h1];exact hbl) (by rw[M5 h1];exact h4) (by rw[M5 h1];exact fun h=>Fv h1 h);rw[M5 h1,h2]at hTx;have hcmp:((Pj (Kw s.data.toList).2).toList==s.toList)=decide (Am (ov (Kw s.data.toList).2)=s.data.toList):=by
    rw[Tb h1 h2,<-Ajn,ByteArray.toList_eq]
   rw[if_pos h0,h0]at hV;generalize (Kw s.data.toList).2=L at hV hx hTx hcmp;generalize Pj L=S at hTx hcmp;obtain⟨HV,HPO,Hx,HTx,Hb1,HR1,Herr⟩:=hid7 hV hPO hx hTx hb1 hR1 herr;clear hV hPO hx hTx hb1 hR1 herr;clear hT hN hTT h0 h1 h2 h3 h4 hbk hbl;go_enter Tryz.func26,Tryz.ntmps26;go_upto_region 1 with(fail);clear hw1;go_wp2_with (fail);(with_reducible refine(HV.out).mono ?_);rintro e w3 ⟨hb3,p,rfl,ht3⟩;go_upto_region 2 with(fail);obtain⟨w4,hw4⟩: ∃w4,w3.alloc (.cells #[.pointer p] 26)=w4:=⟨_,rfl⟩;have hb4:Below w3.heap.size w3 w4:=hw4▸Aa _ _;have hY4:Aj w4 w3.heap.size 26 #[.pointer p]:=hw4▸Aj.new _ _ _;rw[hw4];have hb14:=hb3.trans (hb4.mono hb3.size);have hB4:=Hb1.out.trans (hb14.mono Hb1.out.size);have HR4:=qz (HR1.out.below hb14 HR1.out.lt);have hlR:w.heap.size<w1.heap.size:=HR1.out.lt;have ht4:=ht3.below hb4;have y0:=hY4.cell 0;have ly:=hY4.lt;have HC:=qz (HTx.out w4 hB4 p (ht4.mono fun i hi _=>hi));obtain⟨HB4,Ht4,HY4⟩:=hid3 hB4 ht4 hY4;clear hB4 ht4 hY4;clear hb3 ht3 hb4 hb14 hw4;go_wp2_with (fail);(with_reducible refine(HC.out).mono ?_);rintro e w5 ⟨rfl,hb5⟩;have hB5:=HB4.out.trans (hb5.mono HB4.out.size);have hR5:=HR4.out.below hb5 HR4.out.lt;have hY5:=HY4.out.below hb5 HY4.out.lt;have ht5:=Ht4.out.below hb5;clear y0 ly;have y0:=hY5.cell 0;have ly:=hY5.lt;have r0:=hR5.cell 0;have fr:=hR5.frozen;have lr:=hR5.lt;by_cases ht:Am (ov L)=s.data.toList
   . rw[decide_eq_true ht]at hcmp;have hne:(S.toList != s.toList)=false:=by rw[bne,hcmp];rfl
     have HP:Hid (PO (.returned (.tuple #[.agg #[.pointer p],.int .i64 0])) (w5.setCell ⟨w.heap.size,0,none⟩ (.pointer p))):=by
      show PO _ _;rw[<-HPO.out];refine⟨hB5.setCell (p:=⟨w.heap.size,0,none⟩) (Nat.le_refl _) _,p,by rw[Hx.out,if_pos ht], ?_⟩;rw[Hx.out,if_pos ht];unfold ofT;rw[if_pos rfl];exact(ht5.later (by simp[World.setCell]) (fun i i1 _=>Below.heap_setCell _ _ _ _ (by show i≠w.heap.size;omega))).mono fun i _ h=>by omega
     have Hcl:=qz ((hR5.set_ 0 (.pointer p)).cell 0);clear hb5 hB5 hR5 hY5 ht5 ht;go_wp2;exact bodyPost_ret (Cs rfl rfl Hcl.out) rfl HP.out
   . rw[decide_eq_false ht]at hcmp;have hne:(S.toList != s.toList)=true:=by rw[bne,hcmp];rfl
     have HP:=qz (Herr.out 4 (by rw[Hx.out,if_neg ht]) (by decide) (w5.setCell ⟨w.heap.size,0,none⟩ (.pointer none)) (hB5.setCell (p:=⟨w.heap.size,0,none⟩) (Nat.le_refl _) _));have Hcl:=qz ((hR5.set_ 0 (.pointer none)).cell 0);clear hb5 hB5 hR5 hY5 ht5 ht;go_wp2;exact bodyPost_ret (Cs rfl rfl Hcl.out) rfl HP.out
 . have hx:exE s.data.toList=((Kw s.data.toList).1, []):=by unfold exE;rw[if_pos h0]
   have hc1:((Kw s.data.toList).1 != 0)=true:=by simpa using h0
   have herr:=herr _ hx h0;generalize (Kw s.data.toList).1=E at hV herr hc1;obtain⟨HV,HPO,Hb1,HR1,Herr⟩:=hid5 hV hPO hb1 hR1 herr;clear hV hPO hb1 hR1 herr;clear hT hN hTT h0 hx hbk;go_enter Tryz.func26,Tryz.ntmps26;go_upto_region 1 with(fail);clear hw1;go_wp2_with (fail);(with_reducible refine(HV.out).mono ?_);rintro e w3 ⟨hb3,p,rfl, -⟩;go_upto_region 2 with(fail);obtain⟨w4,hw4⟩: ∃w4,w3.alloc (.cells #[.pointer p] 26)=w4:=⟨_,rfl⟩;have hb4:Below w3.heap.size w3 w4:=hw4▸Aa _ _;rw[hw4];have hb14:=hb3.trans (hb4.mono hb3.size);have hB4:=Hb1.out.trans (hb14.mono Hb1.out.size);have hR4:=HR1.out.below hb14 HR1.out.lt;have r0:=hR4.cell 0;have fr:=hR4.frozen;have lr:=hR4.lt;have HP:=qz (Herr.out (w4.setCell ⟨w.heap.size,0,none⟩ (.pointer none)) (hB4.setCell (p:=⟨w.heap.size,0,none⟩) (Nat.le_refl _) _));have Hcl:=qz ((hR4.set_ 0 (.pointer none)).cell 0);clear hb3 hb4 hb14 hB4 hR4 hw4;go_wp2;exact bodyPost_ret (Cs rfl rfl Hcl.out) rfl HP.out
end Go.Proofs.YtkmcjfkokoidcaaGreatDoor
