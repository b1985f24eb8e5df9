/- Parts: Arguments that are opened beside the trees: numbers, Booleans. No condition. -/
import Derived.ChangeSame
import Derived.OpenShut
import Derived.Test.YtmglfdckpjegdaaGreatDoorKMu23
namespace Go.Proofs.YtmglfdckpjegdaaGreatDoor
open Go.RowKit Go.ChangeShapes Go.WideShapes Go.ChangeAt
section
variable {H:Type} {enc:TypeId×Value->H} {w:World} {sp:Nat->Bool} {held:Bool}
set_option maxRecDepth 10000 in
theorem Uf {base:Nat} {v0:Value} {d:DataW H} {ps:List MemPlace} (hv:Value.okWide Tryz.prog w .any base 9 v0) (h:DataW.Trod enc Tryz.prog w 0 sp held 9 v0 d ps):
 ∃s:ByteArray,v0=.string s/\s.size+1<=Rows.uptoBulk d:=by
 obtain⟨s,rfl⟩:=okWide_string Tryz.underlying9 hv;obtain⟨fuel,hf⟩:=h;obtain⟨s',h1,h2,_⟩:=DataW.trod_string Tryz.underlying9 hf;simp only[Value.cells,List.cons.injEq,Value.string.injEq,and_true]at h1;subst h1;simp only[Prod.mk.injEq]at h2;refine⟨s,rfl, ?_⟩;rw[h2.1];simp only[Rows.uptoBulk];rw[Array.length_toList];exact Nat.le_refl _
end
section
variable {H:Type} {enc:TypeId×Value->H} {w:World} {sp:Nat->Bool} {held:Bool}
set_option maxRecDepth 10000 in
theorem Aa5 {base:Nat} {v0:Value} {d:DataW H} {ps:List MemPlace} (hv:Value.okWide Tryz.prog w .any base 3 v0) (h:DataW.Trod enc Tryz.prog w 0 sp held 3 v0 d ps):
 ∃n:Int,v0=.int .i64 n:=by
 obtain⟨n,rfl,_⟩:=open_int Tryz.underlying3 hv h;exact⟨n,rfl⟩
end
end Go.Proofs.YtmglfdckpjegdaaGreatDoor
