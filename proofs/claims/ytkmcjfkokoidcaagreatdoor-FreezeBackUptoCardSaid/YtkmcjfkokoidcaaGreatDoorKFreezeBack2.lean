/- Parts: freeze.Exact: the tree whose own text it is, or why there is none. Condition: a text of at most 10^8 bytes, a value of a bulk of at most 4 * 10^7. -/
import Derived.Test.YtkmcjfkokoidcaaGreatDoorKFa40
set_option maxHeartbeats 20000000
set_option maxRecDepth 100000
namespace Go.Proofs.YtkmcjfkokoidcaaGreatDoor
open Go Go.RowKit
def Lt (s:List UInt8) (w:World) (e:Ending) (w':World):Prop:=Below w.heap.size w w'/\ ∃p,e=.returned (.tuple #[.agg #[.pointer p],.int .i64 (Kv s).1])/\Eo (fun i=>w.heap.size<=i) w' (if(Kv s).1=0 then Bd (Kv s).2 else none) p
theorem O9 (s:ByteArray) (w:World) (hT:Cm w) (hN:Mv w) (hs:s.size<=100000000) (hbk: ∀v q,Fe s.data.toList=.ok v q->v.bulk<=40000000):
 Calls Tryz.prog 20 #[.string s] w (Lt s.data.toList w):=by
 obtain⟨PO,hPO⟩: ∃P:Ending->World->Prop,Lt s.data.toList w=P:=⟨_,rfl⟩;rw[hPO];obtain⟨w1,hw1⟩: ∃w1,w.alloc (.cells #[.pointer none] 26)=w1:=⟨_,rfl⟩;have hb1:Below w.heap.size w w1:=hw1▸Aa _ _;have hR1:Aj w1 w.heap.size 26 #[.pointer none]:=hw1▸Aj.new _ _ _;have hV:=Acn s w1 (hT.below hb1) (hN.below hb1) (by omega);have hTT: ∀W,Below w.heap.size w W->Cm W:=fun W h=>hT.below h
 cases hr:Fe s.data.toList with
 |bad c q=>
  rw[hr]at hV;have hc:c≠0:=by have:=Xq hr;omega
  have hc1:(c != 0)=true:=by simpa using hc
  have Hof:=qz (show Kv s.data.toList=(c, [])from by unfold Kv;rw[hr]);obtain⟨HV,HPO,Hb1,HR1⟩:=hid4 hV hPO hb1 hR1;clear hV hPO hb1 hR1;clear hr hT hN hTT hbk;go_enter Tryz.func20,Tryz.ntmps20;go_upto_region 1 with(fail);clear hw1;go_wp2_with (fail);(with_reducible refine(HV.out).mono ?_);rintro e w4 ⟨hb4,rfl⟩;have hR4:=HR1.out.below hb4 HR1.out.lt;have hB5:=(Hb1.out.trans (hb4.mono Hb1.out.size)).setCell (p:=⟨w.heap.size,0,none⟩) (Nat.le_refl _) (.pointer none);have hB6:=hB5.alloc hB5.size (.cells #[.int .i64 0,.bool false,.int .i64 0,.string ⟨#[]⟩,.slice none 0 0,.slice none 0 0] 37);have r0:=(HR1.out.below hb4 HR1.out.lt).cell 0;have fr:=(HR1.out.below hb4 HR1.out.lt).frozen;have lr:=(HR1.out.below hb4 HR1.out.lt).lt;have HP:Hid (PO (.returned (.tuple #[.agg #[.pointer none],.int .i64 c])) ((w4.setCell ⟨w.heap.size,0,none⟩ (.pointer none)).alloc (.cells #[.int .i64 0,.bool false,.int .i64 0,.string ⟨#[]⟩,.slice none 0 0,.slice none 0 0] 37))):=by
   show PO _ _;rw[<-HPO.out];exact⟨hB6,none,by rw[Hof.out],by rw[Hof.out,if_neg hc];rfl⟩
  have Hcl:=qz (((hR4.set_ 0 (.pointer none)).alloc (.cells #[.int .i64 0,.bool false,.int .i64 0,.string ⟨#[]⟩,.slice none 0 0,.slice none 0 0] 37)).cell 0);clear hb4 hB5 hB6 hR4 hc;go_wp2;exact bodyPost_ret (Cs rfl rfl Hcl.out) rfl HP.out
 |ok v q=>
  rw[hr]at hV;obtain⟨hm1,hm2,_,hm4⟩:=Rg hr;have hm3:=hbk _ _ hr;have hof:Kv s.data.toList=Cv v:=by unfold Kv;rw[hr]
  obtain⟨k',b',n',t',l',o'⟩:=v;have hF:=fun la oa lc oc W hW hh=>Ru k' b' n' t' l' o' la oa lc oc W (hTT W hW) hh hm3 hm4;unfold Mu at hF;rw[<-hof]at hF;obtain⟨HV,HPO,Hb1,HR1,HF⟩:=hid5 hV hPO hb1 hR1 hF;clear hV hPO hb1 hR1 hF;clear hr hT hN hTT hm1 hm2 hm3 hm4 hof hbk;go_enter Tryz.func20,Tryz.ntmps20;go_upto_region 1 with(fail);clear hw1;go_wp2_with (fail);(with_reducible refine(HV.out).mono ?_);rintro e w4 ⟨hb4,cs,rfl,hf4⟩;obtain⟨la4,lc4,oa4,oc4,rfl⟩:=G7 hf4;have hb5:=hb4.alloc hb4.size (.cells #[.int .i64 k',.bool b',.int .i64 n',.string t',.slice la4 l'.length lc4,.slice oa4 o'.length oc4] 37);have hf5:=hf4.later (Aa w4 (.cells #[.int .i64 k',.bool b',.int .i64 n',.string t',.slice la4 l'.length lc4,.slice oa4 o'.length oc4] 37));have hB5:=Hb1.out.trans (hb5.mono Hb1.out.size);have HC:=qz (HF.out la4 oa4 lc4 oc4 _ hB5 (Cg _ _ hf5.now));have HR5:=qz (HR1.out.below hb5 HR1.out.lt);have HB5:=qz hB5;clear hB5;clear hf4 hf5 hb4 hb5;go_wp2_with (fail);(with_reducible refine(HC.out).mono ?_);rintro e w6 ⟨hb6,p,rfl,ht6⟩;have hR6:=HR5.out.below hb6 HR5.out.lt;have hz5:=HB5.out.size;have lR:=HR5.out.lt;have r0:=hR6.cell 0;have fr:=hR6.frozen;have lr:=hR6.lt;have HP:Hid (PO (.returned (.tuple #[.agg #[.pointer p],.int .i64 (Kv s.data.toList).1])) (w6.setCell ⟨w.heap.size,0,none⟩ (.pointer p))):=by
   show PO _ _;rw[<-HPO.out];refine⟨(HB5.out.trans (hb6.mono hz5)).setCell (p:=⟨w.heap.size,0,none⟩) (Nat.le_refl _) _,p,rfl, ?_⟩;exact(ht6.later (by simp[World.setCell]) (fun i i1 _=>Below.heap_setCell _ _ _ _ (by show i≠w.heap.size;omega))).mono fun i _ h=>Nat.le_trans hz5 h
  have Hcl:=qz ((hR6.set_ 0 (.pointer p)).cell 0);clear hb6 ht6 hR6;go_wp2;exact bodyPost_ret (Cs rfl rfl Hcl.out) rfl HP.out
theorem Nz (s:ByteArray) (w:World) (hT:Cm w) (hN:Mv w) (hs:s.size<=6000000):
 Calls Tryz.prog 20 #[.string s] w (Lt s.data.toList w):=O9 s w hT hN (by omega) fun v q hr=>by
 obtain⟨_,_,hm3,_⟩:=Rg hr;rw[Al]at hm3;omega
theorem Ahz (w:World) (B:Nat) (k:ByteArray):Ag w B (dP (k,lv [])) [.string k,.int .i64 5,.bool false,.int .i64 0,.string ⟨#[]⟩,.slice none 0 0,.slice none 0 0]:=
 ⟨[.string k],_,rfl,⟨rfl,rfl⟩,_, [],(List.append_nil _).symm,Ej _ _ (by unfold lv Ac;exact⟨none,0,none,0,rfl,.inl rfl,.inl rfl⟩),rfl⟩
theorem Amr (w:World):Ag (w.alloc (.cells #[.string ⟨#[98]⟩,.int .i64 3,.bool false,.int .i64 1,.string ⟨#[]⟩,.slice none 0 0,.slice none 0 0,.string ⟨#[97]⟩,.int .i64 5,.bool false,.int .i64 0,.string ⟨#[]⟩,.slice none 0 0,.slice none 0 0] 63)) (w.alloc (.cells #[.string ⟨#[98]⟩,.int .i64 3,.bool false,.int .i64 1,.string ⟨#[]⟩,.slice none 0 0,.slice none 0 0,.string ⟨#[97]⟩,.int .i64 5,.bool false,.int .i64 0,.string ⟨#[]⟩,.slice none 0 0,.slice none 0 0] 63)).heap.size (.row 7 (dO Ah4)) [.slice (some ⟨w.heap.size,0,none⟩) 2 2]:=
 Ahx (Aj.new _ _ _) (Es _) ((Af.one (Ahy _ _ _ 1)).app (Af.one (Ahz _ _ _))) rfl
theorem Ga (w:World) (hT:Cm w) (hN:Mv w):Calls Tryz.prog 18 #[] w fun e w'=>e=.returned (.bool true)/\Below w.heap.size w w':=by
 obtain⟨PO,hPO⟩: ∃P:Ending->World->Prop,(fun e w'=>e=.returned (.bool true)/\Below w.heap.size w w')=P:=⟨_,rfl⟩;rw[hPO];have HbA:=qz (E3 Ah4 _ 2 2 _ (Amr w) (by decide));have HWA:=qz (Aa w (.cells #[.string ⟨#[98]⟩,.int .i64 3,.bool false,.int .i64 1,.string ⟨#[]⟩,.slice none 0 0,.slice none 0 0,.string ⟨#[97]⟩,.int .i64 5,.bool false,.int .i64 0,.string ⟨#[]⟩,.slice none 0 0,.slice none 0 0] 63));obtain⟨HT,HN,HPO⟩:=hid3 hT hN hPO;clear hT hN hPO;go_enter Tryz.func18,Tryz.ntmps18;go_wp2_with (fail);(with_reducible refine(HbA.out).mono ?_);rintro e w3 ⟨hb3,p1,rfl,hT3⟩;have hW3:=HWA.out.trans (hb3.mono HWA.out.size);have hT3':=hT3.mono (T:=fun i=>i<w3.heap.size) fun i hi _=>hi;have hTx:=Ed (Bd Ah4) p1 w3 (HT.out.below hW3) hT3' (C9 Ah4).1 (by rw[Ze];decide) (by rw[Ze];simp[Ah5,Ew,inP,J8,Pl,iv,lv]) (by rw[Ze];exact fun _=>Akp);rw[Ze,Aoq,Agm]at hTx;obtain⟨HTx,HW3⟩:=hid2 hTx hW3;clear hTx hW3;clear hb3 hT3 hT3';go_wp2_with (fail);(with_reducible refine(HTx.out).mono ?_);rintro e w4 ⟨rfl,hb4⟩;have hW4:=HW3.out.trans (hb4.mono HW3.out.size);have hO1:=Nz ⟨#[91,93]⟩ w4 (HT.out.below hW4) (HN.out.below hW4) (by decide);have hO2:=fun W (hW:Below w.heap.size w W)=>Nz ⟨#[123,34,34,58,49,125]⟩ W (HT.out.below hW) (HN.out.below hW) (by decide);have hO3:=fun W (hW:Below w.heap.size w W)=>Nz ⟨#[123,34,97,34,58,49]⟩ W (HT.out.below hW) (HN.out.below hW) (by decide);unfold Lt at hO1 hO2 hO3;rw[Aor]at hO1;rw[Aos]at hO2;rw[Aot]at hO3;obtain⟨HO1,HO2,HO3,HW4⟩:=hid4 hO1 hO2 hO3 hW4;clear hO1 hO2 hO3 hW4;clear hb4;go_wp2_with (fail);(with_reducible refine(HO1.out).mono ?_);rintro e w5 ⟨hb5,p5,rfl,_⟩;have hW5:=(HW4.out.trans (hb5.mono HW4.out.size)).alloc (HW4.out.trans (hb5.mono HW4.out.size)).size (.cells #[.pointer p5] 26);have HC2:=qz (HO2.out _ hW5);have HW5:=qz hW5;clear hW5;clear hb5;go_wp2_with (fail);(with_reducible refine(HC2.out).mono ?_);rintro e w6 ⟨hb6,p6,rfl,_⟩;have hW6:=(HW5.out.trans (hb6.mono HW5.out.size)).alloc (HW5.out.trans (hb6.mono HW5.out.size)).size (.cells #[.pointer p6] 26);have HC3:=qz (HO3.out _ hW6);have HW6:=qz hW6;clear hW6;clear hb6;go_wp2_with (fail);(with_reducible refine(HC3.out).mono ?_);rintro e w7 ⟨hb7,p7,rfl,_⟩;have HP:Hid (PO (.returned (.bool true)) (w7.alloc (.cells #[.pointer p7] 26))):=by
  show PO _ _;rw[<-HPO.out];exact⟨rfl,(HW6.out.trans (hb7.mono HW6.out.size)).alloc (HW6.out.trans (hb7.mono HW6.out.size)).size _⟩
 clear hb7;go_wp2;exact HP.out
theorem Tx {v:Val} (h:(Cv v).1≠0):(Cv v).2= []:=by
 obtain⟨k,b,n,t,l,o⟩:=v;unfold Cv at h ⊢;by_cases h1:Au (.mk k b n t l o) 1≠0
 . rw[if_pos h1]
 rw[if_neg h1]at h ⊢;simp only at h ⊢;by_cases h2:k≠6
 . rw[if_pos h2]
 rw[if_neg h2]at h ⊢;by_cases h3:As o=0
 . rw[if_pos h3]at h;exact absurd rfl h
 . rw[if_neg h3]
theorem Ak3 {s:List UInt8} (h:(Kv s).1=0):Ay (Kv s).2/\As (Kv s).2=0/\Ab (Kv s).2<=6*s.length/\Ew (Kv s).2:=by
 unfold Kv at h ⊢
 cases hr:Fe s with
 |bad c q=>
  rw[hr]at h;simp only at h;have:=Xq hr;omega
 |ok v q=>
  rw[hr]at h;simp only at h ⊢;obtain⟨h1,h2,h3⟩:=P8 h;obtain⟨_,_,m3,m4⟩:=Rg hr;rw[h1]at m3 m4;refine⟨h2,h3, ?_, ?_⟩
  . simp only[ov,Val.bulk]at m3;omega
  . simp only[ov,J8]at m4;exact m4.2.2
theorem Acj {l:List A5} (ha:Ay l) (hm:As l=0) (hi:Ew l):Kv (Am (ov l))=(0,l):=by
 unfold Kv;rw[W6 ha hm (T8 hi)];exact Aei ha hm
def exE (s:List UInt8):Int×List A5:=if(Kv s).1≠0 then((Kv s).1, [])else if Am (ov (Kv s).2)=s then(0,(Kv s).2)else(4, [])
theorem Aka {l:List A5} (ha:Ay l) (hm:As l=0) (hi:Ew l):exE (Am (ov l))=(0,l):=by
 unfold exE;rw[Acj ha hm hi,if_neg (by simp),if_pos rfl]
theorem M5 {l:List A5} (ha:Ay l):Ba (Bd l)=l:=(C9 l).2.1.trans (Aa0 ha)
theorem Tc {l:List A5} (ha:Ay l) (hm:As l=0):Pk l=⟨(Am (ov l)).toArray⟩:=by
 unfold Pk Ou;rw[if_pos hm,if_pos (Fv ha hm)]
def ofT (r:Int×List A5):Option (Nat×Nd):=if r.1=0 then Bd r.2 else none
theorem Ak4 {r:Int×List A5} (h0:r.1≠0->r.2= []) (ha:Ay r.2):Pb (ofT r)/\Ba (ofT r)=r.2:=by
 unfold ofT;by_cases h:r.1=0
 . rw[if_pos h];exact⟨(C9 r.2).1,M5 ha⟩
 . rw[if_neg h,h0 h];exact⟨trivial,rfl⟩
theorem Ahu (v:Val):Ay (Cv v).2:=by
 by_cases h:(Cv v).1=0
 . exact(P8 h).2.1
 . rw[Tx h];exact List.Pairwise.nil
def S6 (s:List UInt8) (w:World) (e:Ending) (w':World):Prop:=Below w.heap.size w w'/\ ∃p,e=.returned (.tuple #[.agg #[.pointer p],.int .i64 (exE s).1])/\Eo (fun i=>w.heap.size<=i) w' (ofT (exE s)) p
theorem P7 (s:ByteArray) (w:World) (hT:Cm w) (hN:Mv w) (hs:s.size<=100000000) (hbk: ∀v q,Fe s.data.toList=.ok v q->v.bulk<=40000000):
 Calls Tryz.prog 26 #[.string s] w (S6 s.data.toList w):=by
 obtain⟨PO,hPO⟩: ∃P:Ending->World->Prop,S6 s.data.toList w=P:=⟨_,rfl⟩;rw[hPO];obtain⟨w1,hw1⟩: ∃w1,w.alloc (.cells #[.pointer none] 26)=w1:=⟨_,rfl⟩;have hb1:Below w.heap.size w w1:=hw1▸Aa _ _;have hR1:Aj w1 w.heap.size 26 #[.pointer none]:=hw1▸Aj.new _ _ _;have hV:=O9 s w1 (hT.below hb1) (hN.below hb1) hs hbk;unfold Lt at hV;have hTT: ∀W,Below w.heap.size w W->Cm W:=fun W h=>hT.below h;have herr: ∀(E:Int),exE s.data.toList=(E, [])->E≠0-> ∀W,Below w.heap.size w W->PO (.returned (.tuple #[.agg #[.pointer none],.int .i64 E])) W:=fun E h1 h2 W hW=>by
  rw[<-hPO];exact⟨hW,none,by rw[h1],by rw[h1];unfold ofT;rw[if_neg h2];rfl⟩
 by_cases h0:(Kv s.data.toList).1=0
 . obtain⟨h1,h2,h3,h4⟩:=Ak3 h0;have hx:exE s.data.toList=if Am (ov (Kv s.data.toList).2)=s.data.toList then(0,(Kv s.data.toList).2)else(4, []):=by unfold exE;rw[if_neg (by rw[h0];simp)]
   have hbl:Ab (Kv s.data.toList).2<=40000000:=by
    unfold Kv at h0 ⊢
    cases hr:Fe s.data.toList with
    |bad c q=>simp[Ab]
    |ok v q=>
     rw[hr]at h0;simp only at h0 ⊢;have h5:=hbk _ _ hr;rw[(P8 h0).1]at h5;simp only[ov,Val.bulk]at h5;omega
   have hTx:=fun(W:World) (hW:Below w.heap.size w W) p ht=>Ed (Bd (Kv s.data.toList).2) p W (hTT W hW) ht (C9 _).1 (by rw[M5 h1];exact hbl) (by rw[M5 h1];exact h4) (by rw[M5 h1];exact fun h=>Fv h1 h);rw[M5 h1,h2]at hTx;have hcmp:((Pk (Kv s.data.toList).2).toList==s.toList)=decide (Am (ov (Kv s.data.toList).2)=s.data.toList):=by
    rw[Tc h1 h2,<-Ajo,ByteArray.toList_eq]
   rw[if_pos h0,h0]at hV;generalize (Kv s.data.toList).2=L at hV hx hTx hcmp;generalize Pk L=S at hTx hcmp;obtain⟨HV,HPO,Hx,HTx,Hb1,HR1,Herr⟩:=hid7 hV hPO hx hTx hb1 hR1 herr;clear hV hPO hx hTx hb1 hR1 herr;clear hT hN hTT h0 h1 h2 h3 h4 hbk hbl;go_enter Tryz.func26,Tryz.ntmps26;go_upto_region 1 with(fail);clear hw1;go_wp2_with (fail);(with_reducible refine(HV.out).mono ?_);rintro e w3 ⟨hb3,p,rfl,ht3⟩;go_upto_region 2 with(fail);obtain⟨w4,hw4⟩: ∃w4,w3.alloc (.cells #[.pointer p] 26)=w4:=⟨_,rfl⟩;have hb4:Below w3.heap.size w3 w4:=hw4▸Aa _ _;have hY4:Aj w4 w3.heap.size 26 #[.pointer p]:=hw4▸Aj.new _ _ _;rw[hw4];have hb14:=hb3.trans (hb4.mono hb3.size);have hB4:=Hb1.out.trans (hb14.mono Hb1.out.size);have HR4:=qz (HR1.out.below hb14 HR1.out.lt);have hlR:w.heap.size<w1.heap.size:=HR1.out.lt;have ht4:=ht3.below hb4;have y0:=hY4.cell 0;have ly:=hY4.lt;have HC:=qz (HTx.out w4 hB4 p (ht4.mono fun i hi _=>hi));obtain⟨HB4,Ht4,HY4⟩:=hid3 hB4 ht4 hY4;clear hB4 ht4 hY4;clear hb3 ht3 hb4 hb14 hw4;go_wp2_with (fail);(with_reducible refine(HC.out).mono ?_);rintro e w5 ⟨rfl,hb5⟩;have hB5:=HB4.out.trans (hb5.mono HB4.out.size);have hR5:=HR4.out.below hb5 HR4.out.lt;have hY5:=HY4.out.below hb5 HY4.out.lt;have ht5:=Ht4.out.below hb5;clear y0 ly;have y0:=hY5.cell 0;have ly:=hY5.lt;have r0:=hR5.cell 0;have fr:=hR5.frozen;have lr:=hR5.lt;by_cases ht:Am (ov L)=s.data.toList
   . rw[decide_eq_true ht]at hcmp;have hne:(S.toList != s.toList)=false:=by rw[bne,hcmp];rfl
     have HP:Hid (PO (.returned (.tuple #[.agg #[.pointer p],.int .i64 0])) (w5.setCell ⟨w.heap.size,0,none⟩ (.pointer p))):=by
      show PO _ _;rw[<-HPO.out];refine⟨hB5.setCell (p:=⟨w.heap.size,0,none⟩) (Nat.le_refl _) _,p,by rw[Hx.out,if_pos ht], ?_⟩;rw[Hx.out,if_pos ht];unfold ofT;rw[if_pos rfl];exact(ht5.later (by simp[World.setCell]) (fun i i1 _=>Below.heap_setCell _ _ _ _ (by show i≠w.heap.size;omega))).mono fun i _ h=>by omega
     have Hcl:=qz ((hR5.set_ 0 (.pointer p)).cell 0);clear hb5 hB5 hR5 hY5 ht5 ht;go_wp2;exact bodyPost_ret (Cs rfl rfl Hcl.out) rfl HP.out
   . rw[decide_eq_false ht]at hcmp;have hne:(S.toList != s.toList)=true:=by rw[bne,hcmp];rfl
     have HP:=qz (Herr.out 4 (by rw[Hx.out,if_neg ht]) (by decide) (w5.setCell ⟨w.heap.size,0,none⟩ (.pointer none)) (hB5.setCell (p:=⟨w.heap.size,0,none⟩) (Nat.le_refl _) _));have Hcl:=qz ((hR5.set_ 0 (.pointer none)).cell 0);clear hb5 hB5 hR5 hY5 ht5 ht;go_wp2;exact bodyPost_ret (Cs rfl rfl Hcl.out) rfl HP.out
 . have hx:exE s.data.toList=((Kv s.data.toList).1, []):=by unfold exE;rw[if_pos h0]
   have hc1:((Kv s.data.toList).1 != 0)=true:=by simpa using h0
   have herr:=herr _ hx h0;generalize (Kv s.data.toList).1=E at hV herr hc1;obtain⟨HV,HPO,Hb1,HR1,Herr⟩:=hid5 hV hPO hb1 hR1 herr;clear hV hPO hb1 hR1 herr;clear hT hN hTT h0 hx hbk;go_enter Tryz.func26,Tryz.ntmps26;go_upto_region 1 with(fail);clear hw1;go_wp2_with (fail);(with_reducible refine(HV.out).mono ?_);rintro e w3 ⟨hb3,p,rfl, -⟩;go_upto_region 2 with(fail);obtain⟨w4,hw4⟩: ∃w4,w3.alloc (.cells #[.pointer p] 26)=w4:=⟨_,rfl⟩;have hb4:Below w3.heap.size w3 w4:=hw4▸Aa _ _;rw[hw4];have hb14:=hb3.trans (hb4.mono hb3.size);have hB4:=Hb1.out.trans (hb14.mono Hb1.out.size);have hR4:=HR1.out.below hb14 HR1.out.lt;have r0:=hR4.cell 0;have fr:=hR4.frozen;have lr:=hR4.lt;have HP:=qz (Herr.out (w4.setCell ⟨w.heap.size,0,none⟩ (.pointer none)) (hB4.setCell (p:=⟨w.heap.size,0,none⟩) (Nat.le_refl _) _));have Hcl:=qz ((hR4.set_ 0 (.pointer none)).cell 0);clear hb3 hb4 hb14 hB4 hR4 hw4;go_wp2;exact bodyPost_ret (Cs rfl rfl Hcl.out) rfl HP.out
end Go.Proofs.YtkmcjfkokoidcaaGreatDoor
