/- What writes a value's text: the functions that own hands back. Condition: a bulk of at most 10^9. -/
import Derived.Test.YtjmkafbdmppfaaaDoorProg
import Derived.Test.YtjmkafbdmppfaaaDoorJoin
import Derived.Test.YtjmkafbdmppfaaaDoorQuote3
namespace Go.Proofs.YtjmkafbdmppfaaaDoor
open Go.RowKit

def quoteB (s : ByteArray) : List UInt8 := 34 :: quoteRunes (runes s) ++ [34]

mutual
/-- A value's text. -/
def textV : Val → List UInt8
  | .mk k b n t l o =>
    if k = 2 then Lib.formatBool b else if k = 3 then Lib.itoa n else if k = 4 then quoteB t
    else if k = 5 then 91 :: (textL l true ++ [93]) else if k = 6 then 123 :: (textO o true ++ [125]) else [110, 117, 108, 108]
def textL : List Val → Bool → List UInt8
  | [], _ => []
  | v :: r, f => (if f then [] else [44]) ++ (textV v ++ textL r false)
def textO : List (ByteArray × Val) → Bool → List UInt8
  | [], _ => []
  | p :: r, f => (if f then [] else [44]) ++ (textP p ++ textO r false)
def textP : ByteArray × Val → List UInt8
  | (key, v) => quoteB key ++ (58 :: textV v)
end

mutual
/-- All texts and keys in a value are texts; its Ints are of 64 bits. -/
def okV : Val → Prop
  | .mk _ _ n t l o => validB t = true ∧ (-9223372036854775808 ≤ n ∧ n ≤ 9223372036854775807) ∧ okL l ∧ okO o
def okL : List Val → Prop
  | [] => True
  | v :: r => okV v ∧ okL r
def okO : List (ByteArray × Val) → Prop
  | [] => True
  | p :: r => okP p ∧ okO r
def okP : ByteArray × Val → Prop
  | (key, v) => validB key = true ∧ okV v
end

/-- Which function writes a value of this kind, and what it has captured. -/
def ownF (k : Int) : Nat :=
  if k = 2 then 46 else if k = 3 then 49 else if k = 4 then 50 else if k = 5 then 52 else if k = 6 then 54 else 56
def ownCaps (k : Int) (p : Nat) : Array Value :=
  if k = 2 ∨ k = 3 ∨ k = 4 ∨ k = 5 ∨ k = 6 then #[.pointer (some ⟨p, 0, none⟩)] else #[]

theorem enters_ownF (k : Int) (args : Array Value) (w : World) : (callFunc (ownF k) args).run Tryd.prog w = .ok (.enter (ownF k) args) w := by
  unfold ownF
  split
  · exact enters_of Tryd.func46 (by kernel_rfl) rfl args w
  split
  · exact enters_of Tryd.func49 (by kernel_rfl) rfl args w
  split
  · exact enters_of Tryd.func50 (by kernel_rfl) rfl args w
  split
  · exact enters_of Tryd.func52 (by kernel_rfl) rfl args w
  split
  · exact enters_of Tryd.func54 (by kernel_rfl) rfl args w
  · exact enters_of Tryd.func56 (by kernel_rfl) rfl args w

set_option maxHeartbeats 1000000 in
theorem own_calls (k : Int) (b : Bool) (n : Int) (t : ByteArray) (la oa : Option Addr) (ln lc on oc : Nat) (w : World) :
    Calls Tryd.prog 25 #[.agg #[.int .i64 k, .bool b, .int .i64 n, .string t, .slice la ln lc, .slice oa on oc]] w fun e w' =>
      e = .returned (.func (.func (ownF k)) #[] (ownCaps k w.heap.size)) ∧ w.alloc (.cells #[.int .i64 k, .bool b, .int .i64 n, .string t, .slice la ln lc, .slice oa on oc] 26) = w' := by
  rcases (by omega : k = 2 ∨ k = 3 ∨ k = 4 ∨ k = 5 ∨ k = 6 ∨ (k ≠ 2 ∧ k ≠ 3 ∧ k ≠ 4 ∧ k ≠ 5 ∧ k ≠ 6)) with rfl | rfl | rfl | rfl | rfl | ⟨h2, h3, h4, h5, h6⟩
  all_goals
    try have e2 : (k == 2) = false := by simpa using h2
    try have e3 : (k == 3) = false := by simpa using h3
    try have e4 : (k == 4) = false := by simpa using h4
    try have e5 : (k == 5) = false := by simpa using h5
    try have e6 : (k == 6) = false := by simpa using h6
    try have hf : Hid (ownF k = 56) := by show _ = _; simp [ownF, h2, h3, h4, h5, h6]
    try have hc : Hid (ownCaps k w.heap.size = #[]) := by show _ = _; simp [ownCaps, h2, h3, h4, h5, h6]
    try clear h2 h3 h4 h5 h6
    go_enter Tryd.func25, Tryd.ntmps25
    go_wp2
    go_ret
  all_goals first | exact ⟨rfl, rfl⟩ | exact ⟨by rw [hf.out, hc.out]; rfl, rfl⟩

/-- What is to be shown of the function that writes v. -/
def WritesC (v : Val) : Prop := ∀ (W : World) (B g p : Nat) (keeps : Bool) (acc : List UInt8) (cs : List Value) (k : Int) (b : Bool) (n : Int) (t : ByteArray) (l : List Val) (o : List (ByteArray × Val)), v = .mk k b n t l o → 5 ≤ B → Tabs W → HoldsV W B v cs →
    W.heap[p]? = some (.cells cs.toArray 26 (0, 0)) → p ≠ g → Wr W B g keeps acc → okV v → v.bulk ≤ 1000000000 → acc.length + 6 * v.bulk ≤ 20000000000 →
    Calls Tryd.prog (ownF k) (#[.pointer (some ⟨g, 0, none⟩)] ++ ownCaps k p) W fun e W' => e = .returned (.tuple #[]) ∧ Wr W' B g keeps (acc ++ textV v) ∧ Below B W W' ∧ Kept g W W'

end Go.Proofs.YtjmkafbdmppfaaaDoor
