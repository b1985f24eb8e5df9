/- Parts, joined: An argument that reads as a value of package api: the tree that it is. No condition. Arguments that read as a pull, and as an answer. No condition. -/
import Derived.Test.YtackmnbpfbaemaaGreatDoorProg
import Derived.Test.YtackmnbpfbaemaaGreatDoorRows
import Derived.Deep.Slices
import Derived.WideKeyArgs
import Derived.Lib.SmallJoins
import Derived.Test.YtackmnbpfbaemaaGreatDoorKAs1
import Derived.Test.YtackmnbpfbaemaaGreatDoorKAs24
namespace Go.Proofs.YtackmnbpfbaemaaGreatDoor
open Go.RowKit Go.ChangeShapes Go.WideShapes
section
variable {H:Type} {enc:TypeId×Value→H} {w:World} {sp:Nat→Bool} {held:Bool}
end
theorem laid_out:laidOutB Tryz.prog=true:=by kernel_rfl
theorem stays {H:Type} {enc:TypeId×Value→H} {W W':World} {t:TypeId} {v:Value} {d:DataW H} {ps:List MemPlace} {sp':Nat→Bool} (hr:Tryz.prog.readableRec t=true) (ht:t<Tryz.prog.types.size)
 (h:DataW.Trod enc Tryz.prog W 0 (fun _=>true) true t v d ps) (hlt: ∀p ∈ ps,p.block<W.heap.size) (hb:Below W.heap.size W W') (hs: ∀p ∈ ps,sp' p.block=true):DataW.Trod enc Tryz.prog W' 0 sp' true t v d ps:=by
 refine Go.WideElems.Trod_stays laid_out hr ht h (fun p hp=> ?_) hs
 have hl:=hlt p hp
 cases p with
 |cell b off=>exact World.cell?_of_block (w:=W) (w':=W') (a:=⟨b,off,none⟩) (hb.block b hl)
 |map b=>exact hb.block b hl
end Go.Proofs.YtackmnbpfbaemaaGreatDoor

namespace Go.Proofs.YtackmnbpfbaemaaGreatDoor
open Go.RowKit Go.ChangeShapes Go.WideShapes
theorem cells_u64:Tryz.prog.cellsOf 22=1:=by kernel_rfl
theorem cells_req:Tryz.prog.cellsOf 24=2:=by kernel_rfl
theorem u64_in {n:Int} (hwf:(Lit.int .u64 n).wf=true):0≤n:=by
 have h1:IntKind.u64.min=0:=by decide
 simp only[Lit.wf,h1,Bool.and_eq_true,decide_eq_true_eq]at hwf
 exact hwf.1
section
variable {H:Type} {enc:TypeId×Value→H} {w:World} {sp:Nat→Bool} {held:Bool}
set_option maxRecDepth 100000 in
theorem open_arg_req {base:Nat} {v0:Value} {d:DataW H} {ps:List MemPlace} (hv:Value.okWide Tryz.prog w .any base 24 v0) (h:DataW.Trod enc Tryz.prog w 0 sp held 24 v0 d ps):
 ∃c k:Int,v0= .agg #[.int .u64 c, .int .u64 k]∧0≤c∧0≤k:=by
 obtain⟨cs,rfl,_⟩:=okWide_struct Tryz.underlying24 hv
 obtain⟨fuel,hf⟩:=h
 obtain⟨xs,m,rfl,_,hl,hlen,hx⟩:=DataW.trod_struct Tryz.underlying24 hf
 have hl2:cs.toList.length=2:=hl.trans cells_req
 obtain⟨l⟩:=cs
 match l,hl2 with
 | [c0,c1],_=>
   have f0:DataW.trod enc Tryz.prog w 0 sp held m 22 (([c0,c1].drop 0).take (Tryz.prog.cellsOf 22))=xs[0]? :=hx 0 _ rfl
   have f1:DataW.trod enc Tryz.prog w 0 sp held m 22 (([c0,c1].drop 1).take (Tryz.prog.cellsOf 22))=xs[1]? :=hx 1 _ rfl
   simp only[cells_u64,List.drop_zero,List.drop_succ_cons,List.take_succ_cons,List.take_zero]at f0 f1
   match xs,hlen with
   | [y0,y1],_=>
     simp only[List.getElem?_cons_zero,List.getElem?_cons_succ]at f0 f1
     obtain⟨n0,e0,_,w0⟩:=DataW.trod_int Tryz.underlying22 f0
     obtain⟨n1,e1,_,w1⟩:=DataW.trod_int Tryz.underlying22 f1
     simp only[List.cons.injEq,and_true]at e0 e1
     subst e0 e1
     exact⟨n0,n1,rfl,u64_in w0,u64_in w1⟩
end
end Go.Proofs.YtackmnbpfbaemaaGreatDoor
