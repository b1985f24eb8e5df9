/- Parts: What the tree of its own text is. Plain. No condition. -/
import Derived.Test.YtkmcjfkokoidcaaGreatDoorKFreezeOrder2
set_option maxHeartbeats 20000000
set_option maxRecDepth 100000
namespace Go.Proofs.YtkmcjfkokoidcaaGreatDoor
open Go Go.RowKit
theorem Ahz (w:World) (B:Nat) (k:ByteArray):Ag w B (dP (k,lv [])) [.string k,.int .i64 5,.bool false,.int .i64 0,.string ⟨#[]⟩,.slice none 0 0,.slice none 0 0]:=
 ⟨[.string k],_,rfl,⟨rfl,rfl⟩,_, [],(List.append_nil _).symm,Ej _ _ (by unfold lv Ac;exact⟨none,0,none,0,rfl,.inl rfl,.inl rfl⟩),rfl⟩
theorem Amr (w:World):Ag (w.alloc (.cells #[.string ⟨#[98]⟩,.int .i64 3,.bool false,.int .i64 1,.string ⟨#[]⟩,.slice none 0 0,.slice none 0 0,.string ⟨#[97]⟩,.int .i64 5,.bool false,.int .i64 0,.string ⟨#[]⟩,.slice none 0 0,.slice none 0 0] 63)) (w.alloc (.cells #[.string ⟨#[98]⟩,.int .i64 3,.bool false,.int .i64 1,.string ⟨#[]⟩,.slice none 0 0,.slice none 0 0,.string ⟨#[97]⟩,.int .i64 5,.bool false,.int .i64 0,.string ⟨#[]⟩,.slice none 0 0,.slice none 0 0] 63)).heap.size (.row 7 (dO Ah4)) [.slice (some ⟨w.heap.size,0,none⟩) 2 2]:=
 Ahx (Aj.new _ _ _) (Es _) ((Af.one (Ahy _ _ _ 1)).app (Af.one (Ahz _ _ _))) rfl
theorem Ga (w:World) (hT:Cm w) (hN:Mv w):Calls Tryz.prog 18 #[] w fun e w'=>e=.returned (.bool true)/\Below w.heap.size w w':=by
 obtain⟨PO,hPO⟩: ∃P:Ending->World->Prop,(fun e w'=>e=.returned (.bool true)/\Below w.heap.size w w')=P:=⟨_,rfl⟩;rw[hPO];have HbA:=qz (E3 Ah4 _ 2 2 _ (Amr w) (by decide));have HWA:=qz (Aa w (.cells #[.string ⟨#[98]⟩,.int .i64 3,.bool false,.int .i64 1,.string ⟨#[]⟩,.slice none 0 0,.slice none 0 0,.string ⟨#[97]⟩,.int .i64 5,.bool false,.int .i64 0,.string ⟨#[]⟩,.slice none 0 0,.slice none 0 0] 63));obtain⟨HT,HN,HPO⟩:=hid3 hT hN hPO;clear hT hN hPO;go_enter Tryz.func18,Tryz.ntmps18;go_wp2_with (fail);(with_reducible refine(HbA.out).mono ?_);rintro e w3 ⟨hb3,p1,rfl,hT3⟩;have hW3:=HWA.out.trans (hb3.mono HWA.out.size);have hT3':=hT3.mono (T:=fun i=>i<w3.heap.size) fun i hi _=>hi;have hTx:=Ed (Bd Ah4) p1 w3 (HT.out.below hW3) hT3' (C9 Ah4).1 (by rw[Ze];decide) (by rw[Ze];simp[Ah5,Ew,inP,J8,Pl,iv,lv]) (by rw[Ze];exact fun _=>Akp);rw[Ze,Aoq,Agm]at hTx;obtain⟨HTx,HW3⟩:=hid2 hTx hW3;clear hTx hW3;clear hb3 hT3 hT3';go_wp2_with (fail);(with_reducible refine(HTx.out).mono ?_);rintro e w4 ⟨rfl,hb4⟩;have hW4:=HW3.out.trans (hb4.mono HW3.out.size);have hO1:=Nz ⟨#[91,93]⟩ w4 (HT.out.below hW4) (HN.out.below hW4) (by decide);have hO2:=fun W (hW:Below w.heap.size w W)=>Nz ⟨#[123,34,34,58,49,125]⟩ W (HT.out.below hW) (HN.out.below hW) (by decide);have hO3:=fun W (hW:Below w.heap.size w W)=>Nz ⟨#[123,34,97,34,58,49]⟩ W (HT.out.below hW) (HN.out.below hW) (by decide);unfold Lt at hO1 hO2 hO3;rw[Aor]at hO1;rw[Aos]at hO2;rw[Aot]at hO3;obtain⟨HO1,HO2,HO3,HW4⟩:=hid4 hO1 hO2 hO3 hW4;clear hO1 hO2 hO3 hW4;clear hb4;go_wp2_with (fail);(with_reducible refine(HO1.out).mono ?_);rintro e w5 ⟨hb5,p5,rfl,_⟩;have hW5:=(HW4.out.trans (hb5.mono HW4.out.size)).alloc (HW4.out.trans (hb5.mono HW4.out.size)).size (.cells #[.pointer p5] 26);have HC2:=qz (HO2.out _ hW5);have HW5:=qz hW5;clear hW5;clear hb5;go_wp2_with (fail);(with_reducible refine(HC2.out).mono ?_);rintro e w6 ⟨hb6,p6,rfl,_⟩;have hW6:=(HW5.out.trans (hb6.mono HW5.out.size)).alloc (HW5.out.trans (hb6.mono HW5.out.size)).size (.cells #[.pointer p6] 26);have HC3:=qz (HO3.out _ hW6);have HW6:=qz hW6;clear hW6;clear hb6;go_wp2_with (fail);(with_reducible refine(HC3.out).mono ?_);rintro e w7 ⟨hb7,p7,rfl,_⟩;have HP:Hid (PO (.returned (.bool true)) (w7.alloc (.cells #[.pointer p7] 26))):=by
  show PO _ _;rw[<-HPO.out];exact⟨rfl,(HW6.out.trans (hb7.mono HW6.out.size)).alloc (HW6.out.trans (hb7.mono HW6.out.size)).size _⟩
 clear hb7;go_wp2;exact HP.out
theorem Tx {v:Val} (h:(Cv v).1≠0):(Cv v).2= []:=by
 obtain⟨k,b,n,t,l,o⟩:=v;unfold Cv at h ⊢;by_cases h1:Au (.mk k b n t l o) 1≠0
 . rw[if_pos h1]
 rw[if_neg h1]at h ⊢;simp only at h ⊢;by_cases h2:k≠6
 . rw[if_pos h2]
 rw[if_neg h2]at h ⊢;by_cases h3:As o=0
 . rw[if_pos h3]at h;exact absurd rfl h
 . rw[if_neg h3]
theorem Ak3 {s:List UInt8} (h:(Kv s).1=0):Ay (Kv s).2/\As (Kv s).2=0/\Ab (Kv s).2<=6*s.length/\Ew (Kv s).2:=by
 unfold Kv at h ⊢
 cases hr:Fe s with
 |bad c q=>
  rw[hr]at h;simp only at h;have:=Xq hr;omega
 |ok v q=>
  rw[hr]at h;simp only at h ⊢;obtain⟨h1,h2,h3⟩:=P8 h;obtain⟨_,_,m3,m4⟩:=Rg hr;rw[h1]at m3 m4;refine⟨h2,h3, ?_, ?_⟩
  . simp only[ov,Val.bulk]at m3;omega
  . simp only[ov,J8]at m4;exact m4.2.2
theorem Acj {l:List A5} (ha:Ay l) (hm:As l=0) (hi:Ew l):Kv (Am (ov l))=(0,l):=by
 unfold Kv;rw[W6 ha hm (T8 hi)];exact Aei ha hm
def exE (s:List UInt8):Int×List A5:=if(Kv s).1≠0 then((Kv s).1, [])else if Am (ov (Kv s).2)=s then(0,(Kv s).2)else(4, [])
theorem Aka {l:List A5} (ha:Ay l) (hm:As l=0) (hi:Ew l):exE (Am (ov l))=(0,l):=by
 unfold exE;rw[Acj ha hm hi,if_neg (by simp),if_pos rfl]
theorem M5 {l:List A5} (ha:Ay l):Ba (Bd l)=l:=(C9 l).2.1.trans (Aa0 ha)
theorem Tc {l:List A5} (ha:Ay l) (hm:As l=0):Pk l=⟨(Am (ov l)).toArray⟩:=by
 unfold Pk Ou;rw[if_pos hm,if_pos (Fv ha hm)]
def ofT (r:Int×List A5):Option (Nat×Nd):=if r.1=0 then Bd r.2 else none
theorem Ak4 {r:Int×List A5} (h0:r.1≠0->r.2= []) (ha:Ay r.2):Pb (ofT r)/\Ba (ofT r)=r.2:=by
 unfold ofT;by_cases h:r.1=0
 . rw[if_pos h];exact⟨(C9 r.2).1,M5 ha⟩
 . rw[if_neg h,h0 h];exact⟨trivial,rfl⟩
theorem Ahu (v:Val):Ay (Cv v).2:=by
 by_cases h:(Cv v).1=0
 . exact(P8 h).2.1
 . rw[Tx h];exact List.Pairwise.nil
end Go.Proofs.YtkmcjfkokoidcaaGreatDoor
