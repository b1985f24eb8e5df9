/- Parts: Arguments of the Parse laws that are opened beside the trees: texts, rows of bytes. No condition. -/
import Derived.ChangeSame
import Derived.OpenShut
import Derived.Deep.DeepHandedRow
import Derived.Test.YtkmcjfkokoidcaaGreatDoorKFa25
namespace Go.Proofs.YtkmcjfkokoidcaaGreatDoor
open Go.RowKit Go.ChangeShapes Go.WideShapes Go.ChangeAt
section
variable {H:Type} {enc:TypeId×Value->H} {w:World} {sp:Nat->Bool} {held:Bool}
set_option maxRecDepth 10000 in
theorem Sx {base:Nat} {v0:Value} {d:DataW H} {ps:List MemPlace} (hv:Value.okWide Tryz.prog w .any base 9 v0) (h:DataW.Trod enc Tryz.prog w 0 sp held 9 v0 d ps):
 ∃s:ByteArray,v0=.string s/\s.size+1<=Rows.uptoBulk d:=by
 obtain⟨s,rfl⟩:=okWide_string Tryz.underlying9 hv;obtain⟨fuel,hf⟩:=h;obtain⟨s',h1,h2,_⟩:=DataW.trod_string Tryz.underlying9 hf;simp only[Value.cells,List.cons.injEq,Value.string.injEq,and_true]at h1;subst h1;simp only[Prod.mk.injEq]at h2;refine⟨s,rfl, ?_⟩;rw[h2.1];simp only[Rows.uptoBulk];rw[Array.length_toList];exact Nat.le_refl _
end
end Go.Proofs.YtkmcjfkokoidcaaGreatDoor
