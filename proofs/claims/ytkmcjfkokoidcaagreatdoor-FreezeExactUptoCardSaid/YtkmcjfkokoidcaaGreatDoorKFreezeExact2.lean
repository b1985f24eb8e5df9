/- Parts: Arguments of the Parse laws that are opened beside the trees: texts, rows of bytes. No condition. -/
import Derived.Test.YtkmcjfkokoidcaaGreatDoorRows
import Derived.Deep.Slices
import Derived.WideKeyArgs
import Derived.ChangeSame
import Derived.OpenShut
import Derived.Deep.DeepHandedRow
import Derived.Test.YtkmcjfkokoidcaaGreatDoorKFb1
namespace Go.Proofs.YtkmcjfkokoidcaaGreatDoor
open Go.RowKit Go.ChangeShapes Go.WideShapes
section
variable {H:Type} {enc:TypeId×Value->H} {w:World} {sp:Nat->Bool} {held:Bool}
end
theorem Aeu:laidOutB Tryz.prog=true:=by kernel_rfl
theorem Ags {H:Type} {enc:TypeId×Value->H} {W W':World} {t:TypeId} {v:Value} {d:DataW H} {ps:List MemPlace} {sp':Nat->Bool} (hr:Tryz.prog.readableRec t=true) (ht:t<Tryz.prog.types.size)
 (h:DataW.Trod enc Tryz.prog W 0 (fun _=>true) true t v d ps) (hlt: ∀p ∈ ps,p.block<W.heap.size) (hb:Below W.heap.size W W') (hs: ∀p ∈ ps,sp' p.block=true):DataW.Trod enc Tryz.prog W' 0 sp' true t v d ps:=by
 refine Go.WideElems.Trod_stays Aeu hr ht h (fun p hp=> ?_) hs;have hl:=hlt p hp
 cases p with
 |cell b off=>exact World.cell?_of_block (w:=W) (w':=W') (a:=⟨b,off,none⟩) (hb.block b hl)
 |map b=>exact hb.block b hl
end Go.Proofs.YtkmcjfkokoidcaaGreatDoor
namespace Go.Proofs.YtkmcjfkokoidcaaGreatDoor
open Go.RowKit Go.ChangeShapes Go.WideShapes Go.ChangeAt
section
variable {H:Type} {enc:TypeId×Value->H} {w:World} {sp:Nat->Bool} {held:Bool}
set_option maxRecDepth 10000 in
theorem J8 {base:Nat} {v0:Value} {d:DataW H} {ps:List MemPlace} (hv:Value.okWide Tryz.prog w .any base 9 v0) (h:DataW.Trod enc Tryz.prog w 0 sp held 9 v0 d ps):
 ∃s:ByteArray,v0=.string s/\s.size+1<=Rows.uptoBulk d:=by
 obtain⟨s,rfl⟩:=okWide_string Tryz.underlying9 hv;obtain⟨fuel,hf⟩:=h;obtain⟨s',h1,h2,_⟩:=DataW.trod_string Tryz.underlying9 hf;simp only[Value.cells,List.cons.injEq,Value.string.injEq,and_true]at h1;subst h1;simp only[Prod.mk.injEq]at h2;refine⟨s,rfl, ?_⟩;rw[h2.1];simp only[Rows.uptoBulk];rw[Array.length_toList];exact Nat.le_refl _
end
end Go.Proofs.YtkmcjfkokoidcaaGreatDoor
