/- Parts, joined: Parts of a row of bytes, as slices. Plain. No condition. string(b): bytes as a text. No condition. -/
import Derived.Test.YtackmnbpfbaemaaGreatDoorProg
import Derived.Laws.Slices
import Derived.Laws.BytesArg
import Derived.Test.YtackmnbpfbaemaaGreatDoorKAs20
namespace Go.Proofs.YtackmnbpfbaemaaGreatDoor
open Go Go.RowKit
theorem dB_where {w:World} {B n c:Nat} {l:List UInt8} {a:Option Addr} (h:Holds w B (.row 1 (dB l)) [.slice a n c]):
 l= []∨ ∃g off,a=some ⟨g,off,none⟩∧g<B∧ ∀j x,l[j]? =some x→w.cell? ⟨g,off+j,none⟩=some (.int .u8 x.toNat):=by
 cases l with
 |nil=>exact .inl rfl
 |cons y r=>
  obtain⟨g,off,rfl,hg,_⟩:=dB_at h (i:=0) (x:=y) rfl
  refine .inr ⟨g,off,rfl,hg,fun j x hx=> ?_⟩
  obtain⟨g',off',e,_,hc⟩:=dB_at h hx
  simp only[Option.some.injEq,Addr.mk.injEq,and_true]at e
  obtain⟨rfl,rfl⟩:=e
  exact hc
theorem dB_row {w:World} {B n c:Nat} {l:List UInt8} {a:Option Addr} (hn:n=l.length) (h:l= []∨ ∃g off,a=some ⟨g,off,none⟩∧g<B∧ ∀j x,l[j]? =some x→w.cell? ⟨g,off+j,none⟩=some (.int .u8 x.toNat)):
 Holds w B (.row 1 (dB l)) [.slice a n c]:=by
 subst hn
 refine⟨a,c,by rw[dB_len],dB_cells _,bcells l,dB_holds _ _ _, ?_⟩
 rcases h with rfl|⟨g,off,rfl,hg,hc⟩
 · exact .inl rfl
 · refine .inr ⟨g,off,rfl,hg,fun j u hu=> ?_⟩
   unfold bcells at hu
   rw[List.getElem?_map]at hu
   obtain⟨x,hx,rfl⟩:=Option.map_eq_some_iff.1 hu
   exact hc j x hx
theorem dB_front {w:World} {B n c:Nat} {l:List UInt8} {a:Option Addr} (h:Holds w B (.row 1 (dB l)) [.slice a n c]) (q:Nat) (hq:q≤l.length) (c':Nat):Holds w B (.row 1 (dB (l.take q))) [.slice a q c']:=by
 refine dB_row (by rw[List.length_take,Nat.min_eq_left hq]) ?_
 rcases dB_where h with rfl|⟨g,off,rfl,hg,hc⟩
 · exact .inl (by simp)
 · refine .inr ⟨g,off,rfl,hg,fun j x hx=>hc j x ?_⟩
   rw[List.getElem?_take]at hx
   split at hx
   · exact hx
   · cases hx
end Go.Proofs.YtackmnbpfbaemaaGreatDoor

namespace Go.Proofs.YtackmnbpfbaemaaGreatDoor
open Go Go.RowKit
theorem nums_str (l:List UInt8):strOfNums (l.map fun x=>((x.toNat:Nat):Int))=⟨l.toArray⟩:=by
 unfold strOfNums
 congr 1
 rw[List.map_map]
 have:((fun n:Int=>UInt8.ofNat n.toNat) ∘ fun x:UInt8=>((x.toNat:Nat):Int))=id:=by
  funext x
  simp
 rw[this,List.map_id]
theorem run_bstr {w:World} {B n c:Nat} {l:List UInt8} {a:Option Addr} (h:Holds w B (.row 1 (dB l)) [.slice a n c]):(convert 25 9 (.slice a n c)).run Tryz.prog w= .ok (.string ⟨l.toArray⟩) w:=by
 have hn:=dB_n h
 subst hn
 rw[←nums_str]
 rcases dB_where h with rfl|⟨g,off,rfl,hg,hc⟩
 · cases a with
   |none=>exact run_convert_bytes_nil w 25 5 Tryz.underlying25 Tryz.underlying5 _ _ _ Tryz.underlying9
   |some p=>
    have hl:(loadCells p 0).run Tryz.prog w= .ok (([]:List Int).map (Value.int .u8)).toArray w:=by
     have:=run_loadCells_list (P:=Tryz.prog) w p [] (fun j v hj=>by simp at hj)
     simpa using this
    show(convert _ _ (.slice (some p) 0 c)).run _ w=_
    rw[run_convert_bytes_string w 25 9 5 _ 0 c Tryz.underlying25 Tryz.underlying5 Tryz.underlying9,run_bytesToString w _ 0 c [] hl]
    rfl
 · refine run_convert_bytes_arg w 25 5 Tryz.underlying25 Tryz.underlying5 g off l.length c _ (by rw[List.length_map]) (fun i hi=> ?_) _ Tryz.underlying9
   rw[hc i _ (List.getElem?_eq_getElem hi)]
   simp[List.getD,hi]
end Go.Proofs.YtackmnbpfbaemaaGreatDoor
