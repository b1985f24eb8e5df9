/- Parts: What an answer's frame is read as, in one form for an answer and for none. Plain over the contracts. No condition. -/
import Derived.Test.YtackmnbpfbaemaaGreatDoorKPr33
import Derived.Test.YtackmnbpfbaemaaGreatDoorKPullBodies1
namespace Go.Proofs.YtackmnbpfbaemaaGreatDoor
open Go Go.RowKit
theorem Abn (L:List UInt8): ∃(C B K S:Int) (OPS:List POp),D5 OPS<=6*L.length/\
 (∀w e w',Fx L w e w'->Below w.heap.size w w'/\ ∃a n,e=.returned (.tuple #[.agg #[.int .u64 C,.int .u64 B,.int .u64 K,.int .u64 S,.slice a OPS.length n],.int .i64 (A7 L).1])/\Ap w.heap.size w' (.row 8 (Je OPS)) [.slice a OPS.length n])/\
 (∀w e w',Gm L w e w'->Below w.heap.size w w'/\ ∃a n,e=.returned (.tuple #[.agg #[.int .u64 C,.int .u64 B,.int .u64 K,.int .u64 S,.slice a OPS.length n],.int .i64 (A7 L).1])/\Ae w' w'.heap.size (.row 8 (Je OPS)) [.slice a OPS.length n]):=by
 by_cases h:(A7 L).1=0
 . obtain⟨hb,_⟩:=Ahu (L:=L) (c:=(A7 L).2.1) (b:=(A7 L).2.2.1) (k:=(A7 L).2.2.2.1) (s:=(A7 L).2.2.2.2.1) (l:=(A7 L).2.2.2.2.2) (by rw[<-h]);refine⟨(A7 L).2.1,(A7 L).2.2.1,(A7 L).2.2.2.1,(A7 L).2.2.2.2.1,(A7 L).2.2.2.2.2,hb,fun w e w' hp=> ?_,fun w e w' hp=> ?_⟩
   . obtain⟨h1,h2⟩:=hp;rw[if_neg (fun h'=>h' h)]at h2;rw[h];exact⟨h1,h2⟩
   . obtain⟨h1,h2⟩:=hp;rw[if_neg (fun h'=>h' h)]at h2;rw[h];exact⟨h1,h2⟩
 . have h0: ∀(w:World) B,Ae w B (.row 8 (Je [])) [.slice none 0 0]:=fun _ _=>⟨none,0,rfl,by simp[Je], [],rfl,.inl rfl⟩;refine⟨0,0,0,0, [],Nat.zero_le _,fun w e w' hp=> ?_,fun w e w' hp=> ?_⟩
   . obtain⟨h1,h2⟩:=hp;rw[if_pos h]at h2;exact⟨h1,none,0,h2,fun _ _ _=>h0 _ _⟩
   . obtain⟨h1,h2⟩:=hp;rw[if_pos h]at h2;exact⟨h1,none,0,h2,h0 _ _⟩
end Go.Proofs.YtackmnbpfbaemaaGreatDoor
