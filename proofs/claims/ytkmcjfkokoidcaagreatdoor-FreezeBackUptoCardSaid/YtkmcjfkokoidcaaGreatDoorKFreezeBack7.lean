/- Parts: (tree.Tree).Is, Same. Condition: at most 10^6 entries, bulks of at most 10^8. -/
import Derived.Test.YtkmcjfkokoidcaaGreatDoorKFa39
import Derived.Test.YtkmcjfkokoidcaaGreatDoorKFreezeBack6
set_option maxHeartbeats 20000000
set_option maxRecDepth 100000
namespace Go.Proofs.YtkmcjfkokoidcaaGreatDoor
open Go Go.RowKit
theorem Eo.inj {S T:Nat->Prop} {w:World} {t u:Option (Nat×Nd)} {p:Option Addr} (h:Eo S w t p) (h':Eo T w u p):Ba t=Ba u:=by
 rcases t with _|⟨a,n⟩
 . rcases u with _|⟨b,m⟩
   . rfl
   . cases h
     obtain⟨_,e,_⟩:=h'
     cases e
 . obtain⟨x,rfl,h1⟩:=h;rcases u with _|⟨b,m⟩
   . cases h'
   . obtain⟨y,e,h2⟩:=h'
     cases e
     show Bi n=Bi m;rw[Cd.inj _ _ _ h1.now h2.now]
theorem Am8 {S T:Nat->Prop} {w:World} {t u:Option (Nat×Nd)} {p q:Option Addr} (ht:Eo S w t p) (hu:Eo T w u q): ∃B:Bool,(B=true->p=q)/\ ∀W,Below w.heap.size w W->(binOp .eql 24 (.pointer p) (.pointer q)).run Tryz.prog W=.ok (.bool B) W:=by
 have hu0:Tryz.prog.underlying 24=some (.pointer (Tryz.prog.pointee 24)):=by kernel_rfl
 have hnil: ∀(W:World) (r:Option Addr),(binOp .eql 24 (.pointer r) (.pointer none)).run Tryz.prog W=.ok (.bool r.isNone) W:=fun W r=>run_eql_pointer_nil W _ r hu0;have hnil': ∀(W:World) (r:Addr),(binOp .eql 24 (.pointer none) (.pointer (some r))).run Tryz.prog W=.ok (.bool false) W:=fun W r=>by
  have h1: ∀d:Nat,(Op.equalIn (d+1) 24 (.pointer none) (.pointer (some r))).run Tryz.prog W=.ok false W:=fun d=>by
   simp[Op.equalIn,run_underlying hu0]
  simp only[binOp];simp[Op.equal,Op.maxDepth,h1 9999]
 rcases t with _|⟨a,n⟩
 . cases ht
   rcases u with _|⟨b,m⟩
   . cases hu
     exact⟨true,fun _=>rfl,fun W _=>hnil W none⟩
   . obtain⟨y,rfl,h2⟩:=hu;exact⟨false,(fun h=>by cases h),fun W _=>hnil' W _⟩
 . obtain⟨x,rfl,h1⟩:=ht;rcases u with _|⟨b,m⟩
   . cases hu
     exact⟨false,(fun h=>by cases h),fun W _=>hnil W (some _)⟩
   . obtain⟨y,rfl,h2⟩:=hu;by_cases hxy:x=y
     . subst hxy;exact⟨true,fun _=>rfl,fun W _=>Alj W x⟩
     . obtain⟨cs,hq⟩:=h1.blk;obtain⟨ds,hr⟩:=h2.blk;exact⟨false,(fun h=>by cases h),fun W hW=>Aif (hq.below hW hq.lt) (hr.below hW hr.lt) hxy⟩
theorem Aiz {S T:Nat->Prop} {t u:Option (Nat×Nd)} {p q:Option Addr} (w:World) (ht:Eo S w t p) (hu:Eo T w u q):Calls Tryz.prog 59 #[.agg #[.pointer p],.agg #[.pointer q]] w fun e w'=> ∃B:Bool,e=.returned (.bool B)/\(B=true->p=q)/\Below w.heap.size w w':=by
 obtain⟨w2,hw2⟩: ∃w2,(w.alloc (.cells #[.pointer p] 26)).alloc (.cells #[.pointer q] 26)=w2:=⟨_,rfl⟩;have hb2:Below w.heap.size w w2:=hw2▸Ct _ _ _;have hx2:Aj w2 w.heap.size 26 #[.pointer p]:=hw2▸(Aj.new _ _ _).alloc _;have hy2:Aj w2 (w.heap.size+1) 26 #[.pointer q]:=hw2▸Aj.new1 _ _ _ _;have d0:=hx2.cell 0;have d1:=hy2.cell 0;have l0:=hx2.lt;have l1:=hy2.lt;obtain⟨B,hB,hE⟩:=Am8 ht hu;have hE2:=hE w2 hb2;obtain⟨PO,hPO⟩: ∃P:Ending->World->Prop,(fun e w'=> ∃B:Bool,e=.returned (.bool B)/\(B=true->p=q)/\Below w.heap.size w w')=P:=⟨_,rfl⟩;rw[hPO];have HP:Hid (PO (.returned (.bool B)) w2):=by
  show PO _ _;rw[<-hPO];exact⟨B,rfl,hB,hb2⟩
 clear hx2 hy2 hb2 ht hu hPO hB hE;go_enter Tryz.func59,Tryz.ntmps59;go_wp2;exact HP.out
theorem Nq (t u:Option (Nat×Nd)) (p q:Option Addr) (w:World) (ht:Eo (fun i=>i<w.heap.size) w t p) (hu:Eo (fun i=>i<w.heap.size) w u q) (ok:Pb t) (ok':Pb u) (hb:Ab (Ba t)<=100000000) (hb':Ab (Ba u)<=100000000):
 Calls Tryz.prog 31 #[.agg #[.pointer p],.agg #[.pointer q]] w (Bt (En (Ba t) (Ba u)=true) w):=by
 obtain⟨PO,hPO⟩: ∃P:Ending->World->Prop,Bt (En (Ba t) (Ba u)=true) w=P:=⟨_,rfl⟩;rw[hPO];obtain⟨w2,hw2⟩: ∃w2,(w.alloc (.cells #[.pointer p] 26)).alloc (.cells #[.pointer q] 26)=w2:=⟨_,rfl⟩;have hb2:Below w.heap.size w w2:=hw2▸Ct _ _ _;have hx2:Aj w2 w.heap.size 26 #[.pointer p]:=hw2▸(Aj.new _ _ _).alloc _;have hy2:Aj w2 (w.heap.size+1) 26 #[.pointer q]:=hw2▸Aj.new1 _ _ _ _;have HI:=qz (Aiz w2 (ht.below hb2) (hu.below hb2));have d0:=hx2.cell 0;have d1:=hy2.cell 0;have l0:=hx2.lt;have l1:=hy2.lt;obtain⟨HPO,Hb2,Hx2,Hy2⟩:=hid4 hPO hb2 hx2 hy2;clear hPO hb2 hx2 hy2;go_enter Tryz.func31,Tryz.ntmps31;go_wp2_with (fail);(with_reducible refine(HI.out).mono ?_);rintro e w3 ⟨BE,rfl,hBE,hb3⟩;have hw3:=Hb2.out.trans (hb3.mono Hb2.out.size)
 cases BE with
 |true=>
  obtain rfl:=hBE rfl;have HP:Hid (PO (.returned (.bool true)) w3):=by
   show PO _ _;rw[<-HPO.out];refine Bt.yes ?_ hw3;rw[ht.inj hu];exact Gn _
  clear hb3 hBE ht hu d0 d1 l0 l1 hw2;go_wp2;exact HP.out
 |false=>
  have hz2:=Hb2.out.size;have hz3:=hw3.size;have hx3:=Hx2.out.below hb3 l0;have hy3:=Hy2.out.below hb3 l1;have LenA:=qz (fun(W:World) (hW:Below w3.heap.size w3 W)=>Ki _ t p W ((ht.below hw3).below hW));have LenB:=qz (fun(W:World) (hW:Below w3.heap.size w3 W)=>Ki _ u q W ((hu.below hw3).below hW));have EntA:=qz (fun(W:World) (hW:Below w3.heap.size w3 W)=>Kw t p W (((ht.below hw3).below hW).mono fun i hi _=>hi) ok hb);have EntB:=qz (fun(W:World) (hW:Below w3.heap.size w3 W)=>Kw u q W (((hu.below hw3).below hW).mono fun i hi _=>hi) ok' hb');have Hkeep:Hid (∀W,Below w3.heap.size w3 W->(W.cell? ⟨w.heap.size,0,none⟩=some (.pointer p)/\W.cell? ⟨w.heap.size+1,0,none⟩=some (.pointer q))):=fun W hW=>⟨(hx3.below hW hx3.lt).cell 0,(hy3.below hW hy3.lt).cell 0⟩;generalize hN1:(Ba t).length=N1 at*
  generalize hN2:(Ba u).length=N2 at*
  obtain⟨Hw3,HN1,HN2⟩:=hid3 hw3 hN1 hN2;clear hw3 hN1 hN2;clear ht hu ok ok' hBE d0 d1 l0 l1 hb3 hx3 hy3 hw2 HI;go_wp2_with (fail);go_upto_region 3 with(fail);refine wp_region_held_drew (S:=fun Y:World=>Y.cell? ⟨w.heap.size,0,none⟩=some (.pointer p)/\Y.cell? ⟨w.heap.size+1,0,none⟩=some (.pointer q)) (by kernel_rfl) (Hkeep.out _ (Below.drew (Below.refl _ _))) (fun hHeld=> ?_);refine tkH 0 hHeld ?_;refine tkH 2 hHeld ?_;refine Ee 1 fun K hK=> ?_;go_simp;(with_reducible refine(LenA.out _ (Below.drew (Below.refl _ _))).mono ?_);rintro e w4 ⟨rfl,hb4⟩;have hw4:Below w3.heap.size w3 w4:=(Below.drew (Below.refl _ _)).trans hb4;refine hK.out _ _ (Hkeep.out _ hw4) (fun hHeld=> ?_);clear hK K hb4
  try simp only[Act.put,tk1,tk2,tk3,tk4,tk5,tk6]
  refine Ee 3 fun K hK=> ?_;go_simp;(with_reducible refine(LenB.out _ hw4).mono ?_);rintro e w5 ⟨rfl,hb5⟩;have hw5:Below w3.heap.size w3 w5:=hw4.trans (hb5.mono hw4.size);refine hK.out _ _ (Hkeep.out _ hw5) (fun hHeld=> ?_);clear hK K hb5 hw4
  try simp only[Act.put,tk1,tk2,tk3,tk4,tk5,tk6]
  by_cases hN:N1=N2
  . subst hN;refine tkH 4 hHeld ?_;refine tkH 5 hHeld ?_;refine tkH 6 hHeld ?_;refine tkH 8 hHeld ?_;refine Ee 7 fun K hK=> ?_;go_simp;(with_reducible refine(EntA.out _ hw5).mono ?_);rintro e w6 ⟨hb6,V6,rfl,hr6⟩;have hw6:Below w3.heap.size w3 w6:=hw5.trans (hb6.mono hw5.size);obtain⟨a6,c6,rfl⟩:=hr6.slice;have hh6:=hr6.close;refine hK.out _ _ (Hkeep.out _ hw6) (fun hHeld=> ?_);clear hK K hb6 hr6 hw5
    try simp only[Act.put,tk1,tk2,tk3,tk4,tk5,tk6]
    refine Ee 9 fun K hK=> ?_;go_simp;(with_reducible refine(EntB.out _ hw6).mono ?_);rintro e w7 ⟨hb7,V7,rfl,hr7⟩;have hw7:Below w3.heap.size w3 w7:=hw6.trans (hb7.mono hw6.size);obtain⟨a7,c7,rfl⟩:=hr7.slice;have HQ:=qz (Ahn _ _ _ _ _ _ _ _ w7 ((hh6.below hb7).more hb7.size) hr7.close hb hb');refine hK.out _ _ (Hkeep.out _ hw7) (fun hHeld=> ?_);clear hK K hb7 hr7 hw6 hh6
    try simp only[Act.put,tk1,tk2,tk3,tk4,tk5,tk6]
    refine Ee 10 fun K hK=> ?_;go_simp;(with_reducible refine(HQ.out).mono ?_);rintro e w8 ⟨B,rfl,hB,hb8⟩;have hw8:Below w3.heap.size w3 w8:=hw7.trans (hb8.mono hw7.size);have HP:Hid (PO (.returned (.bool B)) w8):=by
     show PO _ _;rw[<-HPO.out];exact⟨B,rfl,hB,Hw3.out.trans (hw8.mono hz3)⟩
    refine hK.out _ _ (Hkeep.out _ hw8) (fun hHeld=> ?_);clear hK K hb8 hw7 hB hw8 HQ
    try simp only[Act.put,tk1,tk2,tk3,tk4,tk5,tk6]
    refine tkH 11 hHeld ?_;refine tkH 12 hHeld ?_;refine wpAnyH_done (by kernel_rfl) ?_ _;clear hHeld;go_wp2;exact HP.out
  . have e2:((N1:Int)==(N2:Int))=false:=beq_eq_false_iff_ne.2 (by omega);have HP:Hid (PO (.returned (.bool false)) w5):=by
     show PO _ _;rw[<-HPO.out];exact Bt.no (fun e=>hN (by rw[<-HN1.out,<-HN2.out];exact(Gu.1 e).1)) (Hw3.out.trans (hw5.mono hz3))
    clear hw5 hN;refine tkH 4 hHeld ?_;refine tkH 5 hHeld ?_;refine tkN 6 hHeld ?_;refine tkN 7 hHeld ?_;refine tkN 8 hHeld ?_;refine tkN 9 hHeld ?_;refine tkN 10 hHeld ?_;refine tkH 11 hHeld ?_;refine tkH 12 hHeld ?_;refine wpAnyH_done (by kernel_rfl) ?_ _;clear hHeld;go_wp2;exact HP.out
end Go.Proofs.YtkmcjfkokoidcaaGreatDoor
