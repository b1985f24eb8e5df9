/- The shelf's contracts that are used. -/
import Derived.Shelf.SlSorted.Search
import Derived.Ground.SlsoProg
import Derived.Test.YtjgfchcldhmjcaaGreatDoorProg
namespace Go.Proofs
open Go.Shelf
def Tryz.search_ren:Go.Shelf.Ren:=⟨fun|16=>287|n=>n,fun|3=>3|35=>370|4=>4|38=>262|n=>n,fun|n=>n⟩
theorem Tryz.search:Go.Proofs.SlLaysO.n16 Tryz.prog Tryz.search_ren:={
 mixed:=by kernel_rfl
 f16:=Tryz.func287.trans (congrArg some (by kernel_rfl))
 t3:=Tryz.underlying3
 a3:=Tryz.isAgg3
 z3:=Tryz.sizeOf3
 v3:=Tryz.zeroValue3
 t4:=Tryz.underlying4
 a4:=Tryz.isAgg4
 z4:=Tryz.sizeOf4
 v4:=Tryz.zeroValue4
 t35:=Tryz.underlying370
 a35:=Tryz.isAgg370
 z35:=Tryz.sizeOf370
 v35:=Tryz.zeroValue370
 t38:=Tryz.underlying262
 a38:=Tryz.isAgg262
 z38:=Tryz.sizeOf262
 v38:=Tryz.zeroValue262}
open Go.RowKit Go.Sort in
theorem Tryz.sort_Search (g:Nat) (cb:Array Value) (n:Nat) (p:Nat->Bool) (w:World) (eg: ∀args w,(callFunc g args).run Tryz.prog w=.ok (.enter g args) w) (hsz:n<4611686018427387904)
 (hf: ∀(m:Nat) (os:Array Obj) (i:Nat),i<n->Calls Tryz.prog g (#[.int .i64 i]++cb) (grow (w.drewN m) os) fun e w'=>e=.returned (.bool (p i))/\ ∃q os',w'=grow ((grow (w.drewN m) os).drewN q) os')
 (hmono: ∀a b,a<=b->b<n->p a=true->p b=true):
 Calls Tryz.prog 287 #[.int .i64 n,.func (.func g) #[] cb] w fun e w'=>e=.returned (.int .i64 ((List.range n).countP (fun i=> !p i):Nat))/\ ∃q os,w'=grow (w.drewN q) os:=Any.sort_Search Tryz.search g cb n p w eg hsz hf hmono
end Go.Proofs
