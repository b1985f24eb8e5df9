/- Parts, joined: What writes a value's text: the functions that own hands back. Condition: a bulk of at most 10^9. What writes a value's text: the plain kinds. Condition: a bulk of at most 10^9. What writes a list's text. Condition: a bulk of at most 10^9. -/
import Derived.Test.YtemceefalkfneaaGreatDoorProg
import Derived.Lib.ItoaLen
import Derived.Test.YtemceefalkfneaaGreatDoorKCm10
import Derived.Test.YtemceefalkfneaaGreatDoorKCm11
/- What writes a value's text: the functions that own hands back. Condition: a bulk of at most 10^9. -/
namespace Go.Proofs.YtemceefalkfneaaGreatDoor
open Go.RowKit

def quoteB (s : ByteArray) : List UInt8 := 34 :: quoteRunes (runes s) ++ [34]

mutual
/-- A value's text. -/
def textV : Val → List UInt8
  | .mk k b n t l o =>
    if k = 2 then Lib.formatBool b else if k = 3 then Lib.itoa n else if k = 4 then quoteB t
    else if k = 5 then 91 :: (textL l true ++ [93]) else if k = 6 then 123 :: (textO o true ++ [125]) else [110, 117, 108, 108]
def textL : List Val → Bool → List UInt8
  | [], _ => []
  | v :: r, f => (if f then [] else [44]) ++ (textV v ++ textL r false)
def textO : List (ByteArray × Val) → Bool → List UInt8
  | [], _ => []
  | p :: r, f => (if f then [] else [44]) ++ (textP p ++ textO r false)
def textP : ByteArray × Val → List UInt8
  | (key, v) => quoteB key ++ (58 :: textV v)
end

mutual
/-- All texts and keys in a value are texts; its Ints are of 64 bits. -/
def okV : Val → Prop
  | .mk _ _ n t l o => validB t = true ∧ (-9223372036854775808 ≤ n ∧ n ≤ 9223372036854775807) ∧ okL l ∧ okO o
def okL : List Val → Prop
  | [] => True
  | v :: r => okV v ∧ okL r
def okO : List (ByteArray × Val) → Prop
  | [] => True
  | p :: r => okP p ∧ okO r
def okP : ByteArray × Val → Prop
  | (key, v) => validB key = true ∧ okV v
end

/-- Which function writes a value of this kind, and what it has captured. -/
def ownF (k : Int) : Nat :=
  if k = 2 then 99 else if k = 3 then 102 else if k = 4 then 104 else if k = 5 then 106 else if k = 6 then 108 else 110
def ownCaps (k : Int) (p : Nat) : Array Value :=
  if k = 2 ∨ k = 3 ∨ k = 4 ∨ k = 5 ∨ k = 6 then #[.pointer (some ⟨p, 0, none⟩)] else #[]

theorem enters_ownF (k : Int) (args : Array Value) (w : World) : (callFunc (ownF k) args).run Tryz.prog w = .ok (.enter (ownF k) args) w := by
  unfold ownF
  split
  · exact enters_of Tryz.func99 (by kernel_rfl) rfl args w
  split
  · exact enters_of Tryz.func102 (by kernel_rfl) rfl args w
  split
  · exact enters_of Tryz.func104 (by kernel_rfl) rfl args w
  split
  · exact enters_of Tryz.func106 (by kernel_rfl) rfl args w
  split
  · exact enters_of Tryz.func108 (by kernel_rfl) rfl args w
  · exact enters_of Tryz.func110 (by kernel_rfl) rfl args w

set_option maxHeartbeats 1000000 in
theorem own_calls (k : Int) (b : Bool) (n : Int) (t : ByteArray) (la oa : Option Addr) (ln lc on oc : Nat) (w : World) :
    Calls Tryz.prog 61 #[.agg #[.int .i64 k, .bool b, .int .i64 n, .string t, .slice la ln lc, .slice oa on oc]] w fun e w' =>
      e = .returned (.func (.func (ownF k)) #[] (ownCaps k w.heap.size)) ∧ w.alloc (.cells #[.int .i64 k, .bool b, .int .i64 n, .string t, .slice la ln lc, .slice oa on oc] 52) = w' := by
  rcases (by omega : k = 2 ∨ k = 3 ∨ k = 4 ∨ k = 5 ∨ k = 6 ∨ (k ≠ 2 ∧ k ≠ 3 ∧ k ≠ 4 ∧ k ≠ 5 ∧ k ≠ 6)) with rfl | rfl | rfl | rfl | rfl | ⟨h2, h3, h4, h5, h6⟩
  all_goals
    try have e2 : (k == 2) = false := by simpa using h2
    try have e3 : (k == 3) = false := by simpa using h3
    try have e4 : (k == 4) = false := by simpa using h4
    try have e5 : (k == 5) = false := by simpa using h5
    try have e6 : (k == 6) = false := by simpa using h6
    try have hf : Hid (ownF k = 110) := by show _ = _; simp [ownF, h2, h3, h4, h5, h6]
    try have hc : Hid (ownCaps k w.heap.size = #[]) := by show _ = _; simp [ownCaps, h2, h3, h4, h5, h6]
    try clear h2 h3 h4 h5 h6
    go_enter Tryz.func61, Tryz.ntmps61
    go_wp2
    go_ret
  all_goals first | exact ⟨rfl, rfl⟩ | exact ⟨by rw [hf.out, hc.out]; rfl, rfl⟩

/-- What is to be shown of the function that writes v. -/
def WritesC (v : Val) : Prop := ∀ (W : World) (B g p : Nat) (keeps : Bool) (acc : List UInt8) (cs : List Value) (k : Int) (b : Bool) (n : Int) (t : ByteArray) (l : List Val) (o : List (ByteArray × Val)), v = .mk k b n t l o → 5 ≤ B → Tabs W → HoldsV W B v cs →
    W.heap[p]? = some (.cells cs.toArray 52 (0, 0)) → p ≠ g → Wr W B g keeps acc → okV v → v.bulk ≤ 1000000000 → acc.length + 6 * v.bulk ≤ 20000000000 →
    Calls Tryz.prog (ownF k) (#[.pointer (some ⟨g, 0, none⟩)] ++ ownCaps k p) W fun e W' => e = .returned (.tuple #[]) ∧ Wr W' B g keeps (acc ++ textV v) ∧ Below B W W' ∧ Kept g W W'

end Go.Proofs.YtemceefalkfneaaGreatDoor

/- What writes a value's text: the plain kinds. Condition: a bulk of at most 10^9. -/
namespace Go.Proofs.YtemceefalkfneaaGreatDoor
open Go.RowKit

theorem Tabs.keep {w w' : World} {B : Nat} (h : Tabs w) (hb : Below B w w') (h5B : 5 ≤ B) : Tabs w' := by
  obtain ⟨h5, ⟨h1, h2⟩, h3⟩ := h
  refine ⟨Nat.le_trans h5 hb.size, ⟨fun c hc => ?_, fun i hi => ⟨?_, ?_⟩⟩, ?_⟩
  · exact (hb.cell (p := ⟨2, c, none⟩) (by show 2 < _; omega)).trans (h1 c hc)
  · exact (hb.cell (p := ⟨3, 2 * i, none⟩) (by show 3 < _; omega)).trans (h2 i hi).1
  · exact (hb.cell (p := ⟨3, 2 * i + 1, none⟩) (by show 3 < _; omega)).trans (h2 i hi).2
  · have hg : Tryz.prog.globalNamed "internal/strconv.uint64pow10" = some 4 := by kernel_rfl
    unfold Lib.TabIs World.var? at h3 ⊢
    rw [hg] at h3 ⊢
    simp only [Option.bind_some] at h3 ⊢
    rw [hb.block 4 (by omega)]
    exact h3

theorem grow_below (W : World) (k : Nat) (os : Array Obj) : Below W.heap.size W (Sort.grow (W.drewN k) os) :=
  ⟨rfl, rfl, rfl, by show W.heap.size ≤ (W.heap ++ os).size; simp, fun i hi => by show (W.heap ++ os)[i]? = W.heap[i]?; rw [Array.getElem?_append_left hi]⟩

theorem formatBool_len (b : Bool) : (Lib.formatBool b).length ≤ 5 := by cases b <;> decide
theorem flat_one (l : List UInt8) : flat [⟨l.toArray⟩] = l := by simp [flat]

/-- The block that a call of join is handed. -/
theorem join_new {B g : Nat} {keeps : Bool} {acc : List UInt8} {w : World} (ss : List ByteArray) (c : Nat) (h : Wr w B g keeps acc) (hlen : acc.length + (flat ss).length ≤ 50000000000) (hn : ss.length ≤ 1000) :
    Calls Tryz.prog 100 #[.pointer (some ⟨g, 0, none⟩), .slice (some ⟨w.heap.size, 0, none⟩) ss.length c] (w.alloc (.cells (ss.map Value.string).toArray 9 (0, 0))) fun e w' => e = .returned (.tuple #[]) ∧ Wr w' B g keeps (acc ++ flat ss) ∧ Below B w w' ∧ Kept g w w' := by
  have hlt := h.lt
  have hb := h.base
  refine (join_calls B g keeps acc ss w.heap.size c _ (h.below ((Below.refl _ _).alloc (Nat.le_refl _) _)) (heap_alloc_new _ _) (by omega) hlen hn).mono ?_
  rintro e w' ⟨rfl, h1, h2, h3⟩
  exact ⟨rfl, h1, ((Below.refl B w).alloc (by omega) _).trans h2, ((Lib.OthersKept.refl _ _ w).alloc _).trans h3⟩

set_option maxHeartbeats 1000000 in
theorem writes_bool (W : World) (B g p : Nat) (keeps : Bool) (acc : List UInt8) (b : Bool) (v2 v3 v4 v5 : Value) (k : Value) (hp : W.heap[p]? = some (.cells #[k, .bool b, v2, v3, v4, v5] 52 (0, 0)))
    (hW : Wr W B g keeps acc) (hlen : acc.length ≤ 20000000000) :
    Calls Tryz.prog 99 #[.pointer (some ⟨g, 0, none⟩), .pointer (some ⟨p, 0, none⟩)] W fun e W' => e = .returned (.tuple #[]) ∧ Wr W' B g keeps (acc ++ Lib.formatBool b) ∧ Below B W W' ∧ Kept g W W' := by
  have c1 : W.cell? ⟨p, 1, none⟩ = some (.bool b) := (Lib.cell_of_heap hp 1).trans rfl
  have hj := join_new [⟨(Lib.formatBool b).toArray⟩] 1 hW (by rw [flat_one]; have := formatBool_len b; omega) (by simp)
  rw [flat_one] at hj
  have cB := Tryz.strconv_FormatBool b W
  generalize Lib.formatBool b = L at hj cB ⊢
  have HJ := Lib.hid hj
  have CB := Lib.hid cB
  clear hj cB
  go_enter Tryz.func99, Tryz.ntmps99
  go_wp2_with (first | (go_at_call 101; refine (CB.out).mono ?_; rintro e wx ⟨rfl, hwx⟩; subst hwx) | (go_at_call 100; refine (HJ.out).mono ?_; rintro e w2 ⟨rfl, h1, h2, h3⟩))
  go_end0
  exact ⟨rfl, h1, h2, h3⟩

set_option maxHeartbeats 1000000 in
theorem writes_int (W : World) (B g p : Nat) (keeps : Bool) (acc : List UInt8) (n : Int) (v1 v3 v4 v5 : Value) (k : Value) (hp : W.heap[p]? = some (.cells #[k, v1, .int .i64 n, v3, v4, v5] 52 (0, 0)))
    (hT : Tabs W) (hn0 : -9223372036854775808 ≤ n) (hn1 : n ≤ 9223372036854775807) (_hpg : p ≠ g) (hW : Wr W B g keeps acc) (hlen : acc.length ≤ 20000000000) :
    Calls Tryz.prog 102 #[.pointer (some ⟨g, 0, none⟩), .pointer (some ⟨p, 0, none⟩)] W fun e W' => e = .returned (.tuple #[]) ∧ Wr W' B g keeps (acc ++ Lib.itoa n) ∧ Below B W W' ∧ Kept g W W' := by
  have c1 : W.cell? ⟨p, 2, none⟩ = some (.int .i64 n) := (Lib.cell_of_heap hp 2).trans rfl
  have hl := Lib.itoa_length_le n hn0 hn1
  have cB := Tryz.strconv_FormatInt_10 n hn0 hn1 W hT.2.2
  have hj : ∀ w1, Below W.heap.size W w1 → Calls Tryz.prog 100 #[.pointer (some ⟨g, 0, none⟩), .slice (some ⟨w1.heap.size, 0, none⟩) 1 1] (w1.alloc (.cells #[.string ⟨(Lib.itoa n).toArray⟩] 9 (0, 0))) fun e w' => e = .returned (.tuple #[]) ∧ Wr w' B g keeps (acc ++ Lib.itoa n) ∧ Below B w1 w' ∧ Kept g w1 w' := fun w1 hb => by
    have := join_new [⟨(Lib.itoa n).toArray⟩] 1 (hW.below hb) (by rw [flat_one]; omega) (by simp)
    rwa [flat_one] at this
  have hB := hW.base
  have hlt := hW.lt
  generalize Lib.itoa n = L at hj cB ⊢
  have HJ := Lib.hid hj
  have CB := Lib.hid cB
  clear hj cB hl hp
  go_enter Tryz.func102, Tryz.ntmps102
  go_wp2_with (first | (go_at_call 103; refine (CB.out).mono ?_; rintro e w1 ⟨rfl, kk, os, hwx⟩; have hb1 : Below W.heap.size W w1 := hwx ▸ grow_below W kk os; clear hwx) | (go_at_call 100; refine (HJ.out _ hb1).mono ?_; rintro e w2 ⟨rfl, h1, h2, h3⟩))
  go_end0
  exact ⟨rfl, h1, (hb1.mono (by omega)).trans h2, fun j o hj hg ho => h3 j o ((hb1.block j (Array.getElem?_eq_some_iff.1 hj).1).trans hj) hg ho⟩

set_option maxHeartbeats 1000000 in
theorem writes_null (W : World) (B g : Nat) (keeps : Bool) (acc : List UInt8) (hW : Wr W B g keeps acc) (hlen : acc.length ≤ 20000000000) :
    Calls Tryz.prog 110 #[.pointer (some ⟨g, 0, none⟩)] W fun e W' => e = .returned (.tuple #[]) ∧ Wr W' B g keeps (acc ++ [110, 117, 108, 108]) ∧ Below B W W' ∧ Kept g W W' := by
  have hj := join_new [⟨#[110, 117, 108, 108]⟩] 1 hW (by simp [flat]; omega) (by simp)
  have HJ := Lib.hid hj
  clear hj
  go_enter Tryz.func110, Tryz.ntmps110
  go_wp2_with (go_at_call 100; refine (HJ.out).mono ?_; rintro e w2 ⟨rfl, h1, h2, h3⟩)
  go_end0
  exact ⟨rfl, h1, h2, h3⟩

theorem quote_calls (s : ByteArray) (w : World) (hT : Tabs w) (hs : s.size ≤ 1000000000) (hv : validB s = true) :
    Calls Tryz.prog 105 #[.string s] w fun e w' => e = .returned (.string ⟨(quoteB s).toArray⟩) ∧ Below w.heap.size w w' := by
  have cQ := Quote_valid s w hT hs hv
  unfold quoteB
  generalize 34 :: quoteRunes (runes s) ++ [34] = L at cQ ⊢
  have CQ := Lib.hid cQ
  clear cQ
  go_enter Tryz.func105, Tryz.ntmps105
  go_wp2_with (go_at_call 168; refine (CQ.out).mono ?_; rintro e w2 ⟨rfl, h1⟩)
  go_ret
  exact ⟨rfl, h1⟩

theorem quoteB_len (s : ByteArray) : (quoteB s).length ≤ 6 * s.size + 2 := by
  have e1 := quoteRunes_len (runes s)
  have e3 := runesFrom_len s.size s.data.toList 0
  unfold runes at e1
  unfold quoteB runes
  simp only [List.length_cons, List.length_append, List.length_nil]
  omega

set_option maxHeartbeats 1000000 in
theorem writes_text (W : World) (B g p : Nat) (keeps : Bool) (acc : List UInt8) (t : ByteArray) (v1 v2 v4 v5 : Value) (k : Value) (hp : W.heap[p]? = some (.cells #[k, v1, v2, .string t, v4, v5] 52 (0, 0)))
    (hT : Tabs W) (hv : validB t = true) (ht : t.size ≤ 1000000000) (_hpg : p ≠ g) (hW : Wr W B g keeps acc) (hlen : acc.length ≤ 20000000000) :
    Calls Tryz.prog 104 #[.pointer (some ⟨g, 0, none⟩), .pointer (some ⟨p, 0, none⟩)] W fun e W' => e = .returned (.tuple #[]) ∧ Wr W' B g keeps (acc ++ quoteB t) ∧ Below B W W' ∧ Kept g W W' := by
  have c1 : W.cell? ⟨p, 3, none⟩ = some (.string t) := (Lib.cell_of_heap hp 3).trans rfl
  have hl := quoteB_len t
  have cB := quote_calls t W hT ht hv
  have hj : ∀ w1, Below W.heap.size W w1 → Calls Tryz.prog 100 #[.pointer (some ⟨g, 0, none⟩), .slice (some ⟨w1.heap.size, 0, none⟩) 1 1] (w1.alloc (.cells #[.string ⟨(quoteB t).toArray⟩] 9 (0, 0))) fun e w' => e = .returned (.tuple #[]) ∧ Wr w' B g keeps (acc ++ quoteB t) ∧ Below B w1 w' ∧ Kept g w1 w' := fun w1 hb => by
    have := join_new [⟨(quoteB t).toArray⟩] 1 (hW.below hb) (by rw [flat_one]; omega) (by simp)
    rwa [flat_one] at this
  have hB := hW.base
  have hlt := hW.lt
  generalize quoteB t = L at hj cB ⊢
  have HJ := Lib.hid hj
  have CB := Lib.hid cB
  clear hj cB hl hp
  go_enter Tryz.func104, Tryz.ntmps104
  go_wp2_with (first | (go_at_call 105; refine (CB.out).mono ?_; rintro e w1 ⟨rfl, hb1⟩) | (go_at_call 100; refine (HJ.out _ hb1).mono ?_; rintro e w2 ⟨rfl, h1, h2, h3⟩))
  go_end0
  exact ⟨rfl, h1, (hb1.mono (by omega)).trans h2, fun j o hj hg ho => h3 j o ((hb1.block j (Array.getElem?_eq_some_iff.1 hj).1).trans hj) hg ho⟩

theorem between_calls (i : Int) (w : World) : Calls Tryz.prog 107 #[.int .i64 i] w fun e w' => e = .returned (.string ⟨(if i = 0 then [] else [44] : List UInt8).toArray⟩) ∧ w = w' := by
  by_cases h : i = 0
  · subst h
    go_enter Tryz.func107, Tryz.ntmps107
    go_wp2
    go_ret
    exact ⟨rfl, rfl⟩
  · have e : (i == 0) = false := by simpa using h
    rw [if_neg h]
    clear h
    go_enter Tryz.func107, Tryz.ntmps107
    go_wp2
    go_ret
    exact ⟨rfl, rfl⟩

end Go.Proofs.YtemceefalkfneaaGreatDoor

/- What writes a list's text. Condition: a bulk of at most 10^9. -/
namespace Go.Proofs.YtemceefalkfneaaGreatDoor
open Go.RowKit

theorem okL_mem {l : List Val} (h : okL l) {v : Val} (hv : v ∈ l) : okV v := by
  induction l with
  | nil => cases hv
  | cons x r ih =>
    simp only [okL] at h
    rcases List.mem_cons.1 hv with rfl | hv
    · exact h.1
    · exact ih h.2 hv
theorem okO_mem {l : List (ByteArray × Val)} (h : okO l) {m : ByteArray × Val} (hv : m ∈ l) : validB m.1 = true ∧ okV m.2 := by
  induction l with
  | nil => cases hv
  | cons x r ih =>
    obtain ⟨k, v⟩ := x
    simp only [okO, okP] at h
    rcases List.mem_cons.1 hv with rfl | hv
    · exact h.1
    · exact ih h.2 hv

theorem textL_len : ∀ (l : List Val), (∀ v ∈ l, okV v → (textV v).length + 1 ≤ 6 * v.bulk) → okL l → ∀ f, (textL l f).length ≤ 6 * bulkL l
  | [], _, _, f => by simp [textL]
  | v :: r, ih, ho, f => by
    simp only [okL] at ho
    have h1 := ih v (by simp) ho.1
    have h2 := textL_len r (fun x hx => ih x (by simp [hx])) ho.2 false
    simp only [textL, bulkL, List.length_append]
    split <;> simp <;> omega
theorem textO_len : ∀ (l : List (ByteArray × Val)), (∀ m ∈ l, okV m.2 → (textV m.2).length + 1 ≤ 6 * m.2.bulk) → okO l → ∀ f, (textO l f).length ≤ 6 * bulkO l
  | [], _, _, f => by simp [textO]
  | (k, v) :: r, ih, ho, f => by
    simp only [okO, okP] at ho
    have h1 := ih (k, v) (by simp) ho.1.2
    have h2 := textO_len r (fun x hx => ih x (by simp [hx])) ho.2 false
    have h3 := quoteB_len k
    simp only [textO, textP, bulkO, bulkP, List.length_append, List.length_cons]
    simp only at h1
    split <;> simp <;> omega
theorem textV_len : ∀ (v : Val), okV v → (textV v).length + 1 ≤ 6 * v.bulk := by
  refine Val.ind ?_
  intro k b n t l o hl ho h
  simp only [okV] at h
  have h1 := textL_len l hl h.2.2.1 true
  have h2 := textO_len o ho h.2.2.2 true
  have h3 := formatBool_len b
  have h4 := Lib.itoa_length_le n h.2.1.1 h.2.1.2
  have h5 := quoteB_len t
  simp only [textV, Val.bulk]
  repeat' split
  all_goals (try simp only [List.length_cons, List.length_append, List.length_nil])
  all_goals omega

theorem textL_snoc (v : Val) : ∀ (a : List Val) (f : Bool), textL (a ++ [v]) f = textL a f ++ ((if f && a.isEmpty then [] else [44]) ++ textV v)
  | [], f => by cases f <;> simp [textL]
  | x :: r, f => by
    simp only [List.cons_append, textL, textL_snoc v r false]
    simp [List.append_assoc]
theorem textO_snoc (p : ByteArray × Val) : ∀ (a : List (ByteArray × Val)) (f : Bool), textO (a ++ [p]) f = textO a f ++ ((if f && a.isEmpty then [] else [44]) ++ textP p)
  | [], f => by cases f <;> simp [textO]
  | x :: r, f => by
    simp only [List.cons_append, textO, textO_snoc p r false]
    simp [List.append_assoc]

theorem bulkL_split {l : List Val} {k : Nat} {v : Val} (h : l[k]? = some v) : bulkL l = bulkL (l.take k) + (v.bulk + bulkL (l.drop (k + 1))) := by
  have h1 : ∀ a b : List Val, bulkL (a ++ b) = bulkL a + bulkL b := by
    intro a b
    induction a with
    | nil => simp [bulkL]
    | cons x r ih => simp only [List.cons_append, bulkL, ih]; omega
  have h2 : l = l.take k ++ (v :: l.drop (k + 1)) := by rw [← drop_of_get h, List.take_append_drop]
  conv => lhs; rw [h2, h1]
  rfl
theorem bulkO_split {l : List (ByteArray × Val)} {k : Nat} {p : ByteArray × Val} (h : l[k]? = some p) : bulkO l = bulkO (l.take k) + (bulkP p + bulkO (l.drop (k + 1))) := by
  have h1 : ∀ a b : List (ByteArray × Val), bulkO (a ++ b) = bulkO a + bulkO b := by
    intro a b
    induction a with
    | nil => simp [bulkO]
    | cons x r ih => simp only [List.cons_append, bulkO, ih]; omega
  have h2 : l = l.take k ++ (p :: l.drop (k + 1)) := by rw [← drop_of_get h, List.take_append_drop]
  conv => lhs; rw [h2, h1]
  rfl
theorem okL_take {l : List Val} (h : okL l) (k : Nat) : okL (l.take k) := by
  induction l generalizing k with
  | nil => simp [okL]
  | cons x r ih =>
    cases k with
    | zero => simp [okL]
    | succ k => simp only [okL] at h; simp only [List.take_succ_cons, okL]; exact ⟨h.1, ih h.2 k⟩
theorem okO_take {l : List (ByteArray × Val)} (h : okO l) (k : Nat) : okO (l.take k) := by
  induction l generalizing k with
  | nil => simp [okO]
  | cons x r ih =>
    cases k with
    | zero => simp [okO]
    | succ k => simp only [okO] at h; simp only [List.take_succ_cons, okO]; exact ⟨h.1, ih h.2 k⟩

/-- A block of cells that are no bytes and no writer's stands. -/
theorem Kept.cells {g j : Nat} {A W : World} (h : Kept g A W) {cs : Array Value} {t : TypeId} {fz : Nat × Nat} (hj : A.heap[j]? = some (.cells cs t fz)) (hg : j ≠ g) (ht : t ≠ 5) : W.heap[j]? = some (.cells cs t fz) :=
  h j _ hj (by simpa using hg) (fun c fz e => by injection e with _ e2 _; exact ht e2)

set_option maxHeartbeats 4000000 in
set_option maxRecDepth 100000 in
theorem writes_list (l : List Val) (IH : ∀ v ∈ l, WritesC v) (W : World) (B g p : Nat) (h5 : 5 ≤ B) (keeps : Bool) (acc : List UInt8) (la : Option Addr) (lc : Nat) (v0 v1 v2 v3 v5 : Value)
    (hp : W.heap[p]? = some (.cells #[v0, v1, v2, v3, .slice la l.length lc, v5] 52 (0, 0)))
    (gl off : Nat) (hla : l = [] ∨ (la = some ⟨gl, off, none⟩ ∧ gl < B ∧ HoldsL W B l gl off)) (hT : Tabs W) (hpg : p ≠ g) (hW : Wr W B g keeps acc) (hok : okL l) (hlen : acc.length + 6 * (6 + bulkL l) ≤ 20000000000) (hb : bulkL l ≤ 1000000000) :
    Calls Tryz.prog 106 #[.pointer (some ⟨g, 0, none⟩), .pointer (some ⟨p, 0, none⟩)] W fun e W' => e = .returned (.tuple #[]) ∧ Wr W' B g keeps (acc ++ 91 :: (textL l true ++ [93])) ∧ Below B W W' ∧ Kept g W W' := by
  have hll : l.length ≤ 1000000000 := by have := bulkL_len l; omega
  have hj1 := join_new [⟨#[91]⟩] 1 hW (by simp [flat]; omega) (by simp)
  have HJ1 := Lib.hid hj1
  clear hj1
  have HP := Lib.hid hp
  go_enter Tryz.func106, Tryz.ntmps106
  go_wp2_with (go_at_call 100; refine (HJ1.out).mono ?_; rintro e w1 ⟨rfl, hw1, hb1, hk1⟩; have hp1 := hk1.cells HP.out hpg (by decide); have c4 : w1.cell? ⟨p, 4, none⟩ = some (.slice la l.length lc) := (Lib.cell_of_heap hp1 4).trans rfl)
  have hw1' : Wr w1 B g keeps (acc ++ 91 :: textL (l.take 0) true) := by simpa [flat, textL] using hw1
  clear c4 hp1 hw1 HJ1
  go_loopw [11] (fun i wr => ∃ k : Nat, k ≤ l.length ∧ i = .int .i64 k ∧ Wr wr B g keeps (acc ++ 91 :: textL (l.take k) true) ∧ Below B W wr ∧ Kept g W wr) (fun i _ => l.length - (intOf i).toNat)
  case atStart => exact ⟨0, Nat.zero_le _, rfl, hw1', hb1, hk1⟩
  case round =>
    obtain ⟨k, hk, rfl, hw, hbw, hkw⟩ := hrel
    clear hw1' hb1 hk1
    have hBg := hw.base
    by_cases hlt : k < l.length
    · obtain ⟨rfl, hg, hL⟩ : la = some ⟨gl, off, none⟩ ∧ gl < B ∧ HoldsL W B l gl off := by
        rcases hla with rfl | h
        · simp at hlt
        · exact h
      obtain ⟨v, hv⟩ : ∃ v, l[k]? = some v := ⟨_, List.getElem?_eq_getElem hlt⟩
      have hmem : v ∈ l := List.mem_of_getElem? hv
      have hsp := bulkL_split hv
      have IHv := Lib.hid (IH v hmem)
      have hokv := okL_mem hok hmem
      have htk : l.take (k + 1) = l.take k ++ [v] := by rw [List.take_add_one, hv]; rfl
      have htl := textL_len (l.take k) (fun x _ => textV_len x) (okL_take hok k) true
      have hfin : acc ++ 91 :: textL (l.take (k + 1)) true = ((acc ++ 91 :: textL (l.take k) true) ++ (if (k : Int) = 0 then [] else [44])) ++ textV v := by
        rw [htk, textL_snoc]
        have e : ((true && (l.take k).isEmpty) = true) ↔ (k : Int) = 0 := by
          rw [Bool.true_and, List.isEmpty_iff]
          constructor
          · intro h
            have := congrArg List.length h
            rw [List.length_take, List.length_nil] at this
            omega
          · intro h
            have : k = 0 := by omega
            subst this
            rfl
        by_cases h0 : (k : Int) = 0
        · rw [if_pos h0, if_pos (e.2 h0)]; simp
        · rw [if_neg h0, if_neg (fun h => h0 (e.1 h))]; simp
      have hpos := v.bulk_pos
      have hlenA : (acc ++ 91 :: textL (l.take k) true).length + 6 * (v.bulk + 1) ≤ 20000000000 := by
        rw [List.length_append, List.length_cons]; omega
      generalize acc ++ 91 :: textL (l.take k) true = A at *
      have Hfin := Lib.hid hfin
      clear hfin htk htl IH hla
      obtain ⟨k', b', n', t', l', o'⟩ := v
      have hLr := hL.below hg hbw
      obtain ⟨la', lc', oa', oc', hvs, c0, c1, c2, c3, c4, c5⟩ := hLr.six hv
      clear hL hLr hv hmem hok
      obtain ⟨wA, hwA⟩ : ∃ wA, wr.alloc (.cells #[.int .i64 k', .bool b', .int .i64 n', .string t', .slice la' l'.length lc', .slice oa' o'.length oc'] 52) = wA := ⟨_, rfl⟩
      have hAw : Below wr.heap.size wr wA := by rw [← hwA]; exact (Below.refl _ _).alloc (Nat.le_refl _) _
      have hbox : wA.heap[wr.heap.size]? = some (.cells #[.int .i64 k', .bool b', .int .i64 n', .string t', .slice la' l'.length lc', .slice oa' o'.length oc'] 52 (0, 0)) := by rw [← hwA]; exact heap_alloc_new _ _
      have hgw := hw.lt
      have HTr := Lib.hid (fun W' (hb' : Below B wr W') => hT.keep (hbw.trans hb') h5)
      have HVr := Lib.hid (fun W' (hb' : Below B wr W') => hvs.below hb')
      have hszA : wA.heap.size = wr.heap.size + 1 := by rw [← hwA]; simp
      have hj : ∀ (S : List UInt8), S.length ≤ 1 → Calls Tryz.prog 100 #[.pointer (some ⟨g, 0, none⟩), .slice (some ⟨wA.heap.size, 0, none⟩) 1 1] (wA.alloc (.cells #[.string ⟨S.toArray⟩] 9 (0, 0))) fun e w' => e = .returned (.tuple #[]) ∧ Wr w' B g keeps (A ++ S) ∧ Below B wA w' ∧ Kept g wA w' := fun S hS => by
        have := join_new [⟨S.toArray⟩] 1 (hw.below hAw) (by rw [flat_one]; omega) (by simp)
        rwa [flat_one] at this
      have hj1 := hj (if (k : Int) = 0 then [] else [44]) (by split <;> simp)
      have hs2 : (if (k : Int) = 0 then [] else [44] : List UInt8).length ≤ 1 := by split <;> simp
      have cBt := between_calls (k : Int) wA
      generalize (if (k : Int) = 0 then [] else [44] : List UInt8) = S at hj1 hs2 cBt Hfin
      rw [hszA] at hj1
      subst hwA
      have HJ := Lib.hid hj1
      have CB := Lib.hid cBt
      clear hj1 hj cBt
      have HOK := Lib.hid hokv
      have ent := enters_ownF
      clear hokv hvs
      have HB := Lib.hid hbox
      have hne : wr.heap.size ≠ g := by omega
      go_wp2_with (first | (go_at_call 107; refine (CB.out).mono ?_; rintro e wx ⟨rfl, rfl⟩) | (go_at_call 100; refine (HJ.out).mono ?_; rintro e w2 ⟨rfl, h1, h2, h3⟩; have hz2 := h1.lt; have hb2 := h3.cells HB.out hne (by decide); have d0 : w2.cell? ⟨wr.heap.size, 0, none⟩ = some (.int .i64 k') := (Lib.cell_of_heap hb2 0).trans rfl; have d1 : w2.cell? ⟨wr.heap.size, 1, none⟩ = some (.bool b') := (Lib.cell_of_heap hb2 1).trans rfl; have d2 : w2.cell? ⟨wr.heap.size, 2, none⟩ = some (.int .i64 n') := (Lib.cell_of_heap hb2 2).trans rfl; have d3 : w2.cell? ⟨wr.heap.size, 3, none⟩ = some (.string t') := (Lib.cell_of_heap hb2 3).trans rfl; have d4 : w2.cell? ⟨wr.heap.size, 4, none⟩ = some (.slice la' l'.length lc') := (Lib.cell_of_heap hb2 4).trans rfl; have d5 : w2.cell? ⟨wr.heap.size, 5, none⟩ = some (.slice oa' o'.length oc') := (Lib.cell_of_heap hb2 5).trans rfl) | (go_at_call 61; refine (own_calls k' b' n' t' la' oa' l'.length lc' o'.length oc' w2).mono ?_; rintro e w3 ⟨rfl, rfl⟩) | (go_at_fn (ownF k'); refine (IHv.out _ B g w2.heap.size keeps (A ++ S) (cells6 k' b' n' t' la' l'.length lc' oa' o'.length oc') k' b' n' t' l' o' rfl h5 (HTr.out _ ?_) (HVr.out _ ?_) (heap_alloc_new _ _) ?_ (h1.below ((Below.refl _ _).alloc (Nat.le_refl _) _)) HOK.out ?_ ?_).mono ?_; rotate_right; rintro e w4 ⟨rfl, h6, h7, h8⟩))
      go_roundw
      case rel =>
        refine ⟨k + 1, by omega, by go_num, ?_, hbw.trans ((((Below.refl B wr).alloc (by omega) _).trans h2).trans (((Below.refl B w2).alloc (by omega) _).trans h7)), (hkw.trans (((Lib.OthersKept.refl _ _ wr).alloc _).trans h3)).trans (((Lib.OthersKept.refl _ _ w2).alloc _).trans h8)⟩
        rw [Hfin.out]
        exact h6
      case measure => simp [intOf]; omega
      · exact (((Below.refl B wr).alloc (by omega) _).trans h2).alloc (by omega) _
      · exact (((Below.refl B wr).alloc (by omega) _).trans h2).alloc (by omega) _
      · omega
      · omega
      · rw [List.length_append]; omega
    · obtain rfl : k = l.length := by omega
      rw [List.take_length] at hw
      have htl := textL_len l (fun x _ => textV_len x) hok true
      have hj2 := join_new [⟨#[93]⟩] 1 hw (by rw [List.length_append, List.length_cons]; simp [flat]; omega) (by simp)
      have HJ := Lib.hid hj2
      clear hj2 htl hok
      have hgw := hw.lt
      have hBg := hw.base
      have e : flat [⟨#[93]⟩] = [93] := by simp [flat]
      go_wp2_with (go_at_call 100; refine (HJ.out).mono ?_; rintro e w2 ⟨rfl, h1, h2, h3⟩)
      go_end0
      rw [e, List.append_assoc, List.cons_append] at h1
      exact ⟨rfl, h1, hbw.trans h2, hkw.trans h3⟩

end Go.Proofs.YtemceefalkfneaaGreatDoor
