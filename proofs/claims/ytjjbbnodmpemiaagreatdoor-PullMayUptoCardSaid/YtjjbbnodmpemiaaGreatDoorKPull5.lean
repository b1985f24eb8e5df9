/- Parts, joined: value.Object: members in order, each once, or ErrKey. Condition: a bulk of at most 10^8. value.Object, walked: members in order, each once, or ErrKey. Condition: a bulk of at most 9 * 10^7. Whether a value has anything that its kind does not name: the program's function and the reference's. No condition. Why a value may not be: the program's function and the reference's, held against one plain function. Condition: texts shorter than 2^63. -/
import Derived.Test.YtjjbbnodmpemiaaGreatDoorProg
import Derived.IntWalk
import Derived.WalkKit
import Derived.BigQuiet
import Derived.Deep.QuietTactic
import Derived.WalkLawsBesides
import Derived.WalkSpells
import Derived.Lib.Hide
import Derived.Lib.Strings
import Derived.Test.YtjjbbnodmpemiaaGreatDoorShelf
import Derived.Lib.SmallJoins
import Derived.Test.YtjjbbnodmpemiaaGreatDoorKPull4
/- value.Object: members in order, each once, or ErrKey. Condition: a bulk of at most 10^8. -/
namespace Go.Proofs.YtjjbbnodmpemiaaGreatDoor
open Go.RowKit

theorem toMx {w : World} {B : Nat} : ∀ {o : List (ByteArray × Val)} {ns : List Value}, HoldsA w B (dO o) ns → ∃ d : List Mx, d.map memM = o ∧ ns = d.flatMap encM ∧ ∀ x ∈ d, Holds w B (dP (memM x)) (encM x)
  | [], ns, h => by
    have : ns = [] := h
    subst this
    exact ⟨[], rfl, rfl, fun x hx => by cases hx⟩
  | (key, v) :: r, ns, h => by
    obtain ⟨c1, c2, rfl, h1, h2⟩ := h
    obtain ⟨d, e1, e2, e3⟩ := toMx h2
    have h1' := h1
    obtain ⟨_, cv, rfl, ⟨rfl, _⟩, c3, c4, rfl, h3, rfl⟩ := h1
    obtain ⟨k, b, n, t, l, o⟩ := v
    have h4 := holdsV_of _ _ h3
    simp only [HoldsV] at h4
    obtain ⟨la, lc, oa, oc, rfl, _, _⟩ := h4
    refine ⟨(key, .mk k b n t l o, (la, lc), oa, oc) :: d, by simp [memM, e1], by rw [e2]; rfl, fun x hx => ?_⟩
    rcases List.mem_cons.1 hx with rfl | hx
    · simp only [List.append_nil, List.cons_append, List.nil_append] at h1'
      exact h1'
    · exact e3 x hx
theorem ofMx {w : World} {B : Nat} : ∀ {d : List Mx}, (∀ x ∈ d, Holds w B (dP (memM x)) (encM x)) → HoldsA w B (dO (d.map memM)) (d.flatMap encM)
  | [], _ => rfl
  | x :: d, h => ⟨encM x, d.flatMap encM, rfl, h x (by simp), ofMx fun y hy => h y (by simp [hy])⟩
theorem flat_get : ∀ (d : List Mx) (i j : Nat), i < d.length → j < 7 → (d.flatMap encM)[i * 7 + j]? = some (encM d[i]!)[j]!
  | [], i, j, hi, _ => by simp at hi
  | x :: d, 0, j, _, hj => by
    have hl := encM_len x
    rw [List.flatMap_cons, List.getElem?_append_left (by omega), Nat.zero_mul, Nat.zero_add, List.getElem?_eq_getElem (by omega)]
    simp [hl, hj]
  | x :: d, i + 1, j, hi, hj => by
    have hl := encM_len x
    rw [List.flatMap_cons, List.getElem?_append_right (by omega), hl, show (i + 1) * 7 + j - 7 = i * 7 + j from by omega, flat_get d i j (by simpa using hi) hj]
    simp
theorem flat_len (d : List Mx) : (d.flatMap encM).length = d.length * 7 := by
  induction d with
  | nil => rfl
  | cons x d ih => rw [List.flatMap_cons, List.length_append, encM_len, ih, List.length_cons]; omega
theorem flat_cells {w : World} {g : Nat} {d : List Mx} (h : ∀ i, i < d.length → ∀ j, j < 7 → w.cell? ⟨g, i * 7 + j, none⟩ = some (encM d[i]!)[j]!) : ∀ (t : Nat) (u : Value), (d.flatMap encM)[t]? = some u → w.cell? ⟨g, t, none⟩ = some u := by
  intro t u hu
  have ht := (List.getElem?_eq_some_iff.1 hu).1
  rw [flat_len] at ht
  have e : t = t / 7 * 7 + t % 7 := by omega
  rw [e] at hu ⊢
  rw [flat_get d _ _ (by omega) (by omega)] at hu
  rw [h _ (by omega) _ (by omega)]
  exact hu
theorem own_form {w : World} {B m s : Nat} {t : TypeId} {v : Value} {ns : List Value} (h : w.ownsRow B t s v m ns) :
    ∃ a c, v = .slice a m c ∧ ((m = 0 ∧ a = none ∧ c = 0) ∨ ∃ g, a = some ⟨g, 0, none⟩ ∧ B ≤ g ∧ g < w.heap.size ∧ m ≤ c ∧ (∀ (j : Nat) (u : Value), ns[j]? = some u → w.cell? ⟨g, j, none⟩ = some u) ∧ ∀ j, w.frozen? ⟨g, j, none⟩ = false) := by
  rcases h.2 with ⟨rfl, hz⟩ | ⟨g, cap, cur, rfl, hbg, hg, hmc, _, _, _⟩
  · subst hz
    exact ⟨none, 0, rfl, .inl ⟨rfl, rfl, rfl⟩⟩
  · refine ⟨_, cap, rfl, .inr ⟨g, rfl, hbg, (Array.getElem?_eq_some_iff.1 hg).1, hmc, fun j u hu => ?_, fun j => by simp [World.frozen?, hg]⟩⟩
    have := h.cells (g := g) rfl j u hu
    rwa [add_plain', Nat.zero_add] at this

/-- The sort, whatever the length. -/
def SDone (W : World) (a : Option Addr) (d : List Mx) (e : Ending) (w' : World) : Prop := e = .returned (.tuple #[]) ∧ ∃ d' : List Mx, d'.length = d.length ∧ d'.Perm d ∧ (∀ i j, i < j → j < d.length → ltM d'[j]! d'[i]! = false) ∧
  (d.length = 0 ∨ ∃ g, a = some ⟨g, 0, none⟩ ∧ g < w'.heap.size ∧ ∀ i, i < d.length → ∀ j, j < 7 → w'.cell? ⟨g, i * 7 + j, none⟩ = some (encM d'[i]!)[j]!) ∧
  (∀ b, b < W.heap.size → (∀ g, a = some ⟨g, 0, none⟩ → b ≠ g) → w'.heap[b]? = W.heap[b]?) ∧ W.heap.size ≤ w'.heap.size ∧ w'.os = W.os ∧ w'.tape = W.tape ∧ w'.output = W.output
theorem sortM_any (a : Option Addr) (c Bs : Nat) (d : List Mx) (hsz : d.length < 4611686018427387904) (W : World)
    (h : (d.length = 0 ∧ a = none) ∨ ∃ g, a = some ⟨g, 0, none⟩ ∧ g < W.heap.size ∧ Bs ≠ g ∧ (∀ i, i < d.length → ∀ j, j < 7 → W.cell? ⟨g, i * 7 + j, none⟩ = some (encM d[i]!)[j]!) ∧ ∀ j, W.frozen? ⟨g, j, none⟩ = false)
    (hBs : W.cell? ⟨Bs, 0, none⟩ = some (.slice a d.length c)) (hB1 : Bs < W.heap.size) :
    Calls Tryz.prog 58 #[.iface 43 (.slice a d.length c), .func (.func 59) #[] #[.pointer (some ⟨Bs, 0, none⟩)]] W (SDone W a d) := by
  by_cases h2 : 2 ≤ d.length
  · rcases h with ⟨h, _⟩ | ⟨g, rfl, hg, hne, hc, hf⟩
    · omega
    · have hH : Go.Sort.HoldsK encM 7 W g 0 d.toArray := by
        intro j hj
        rw [Go.Sort.size_flatK, List.size_toArray] at hj
        rw [Go.Sort.get_flatK _ _ _ _ (by simpa using hj), Nat.zero_add]
        refine ⟨?_, hf _⟩
        have := hc (j / 7) (by omega) (j % 7) (by omega)
        rw [show j / 7 * 7 + j % 7 = j from by omega] at this
        rw [this]
        simp
      have hS := sortM_many g c Bs d.toArray (by simpa using h2) (by simpa using hsz) W hH hg (by simpa using hBs) hB1 hne
      simp only [List.size_toArray] at hS
      refine hS.mono ?_
      rintro e w' ⟨rfl, d', s1, s2, s3, s4, s5, s6, s7⟩
      simp only [List.size_toArray] at s1 s3 s4
      refine ⟨rfl, d'.toList, by simpa using s1, by simpa using s2, fun i j h1 h2 => ?_, .inr ⟨g, rfl, by omega, fun i hi j hj => ?_⟩, fun b hb hne => s5 b hb (hne g rfl), s6, s7⟩
      · simp only [Array.getElem!_toList]
        exact s3 i j (Nat.zero_le _) h1 h2
      · simp only [Array.getElem!_toList]
        exact s4 i hi j hj
  · refine (sortM_few a d.length c Bs (by omega) W).mono ?_
    rintro e w' ⟨rfl, hb⟩
    refine ⟨rfl, d, rfl, List.Perm.refl _, fun i j h1 h3 => by omega, ?_, fun b hb1 _ => hb.block b hb1, hb.size, hb.os, hb.tape, hb.output⟩
    rcases h with ⟨h, _⟩ | ⟨g, ea, hg, hne, hc, hf⟩
    · exact .inl h
    · exact .inr ⟨g, ea, by have := hb.size; omega, fun i hi j hj => (hb.cell (p := ⟨g, i * 7 + j, none⟩) hg).trans (hc i hi j hj)⟩

theorem asc_of {d : List Mx} (hs : ∀ i j, i < j → j < d.length → ltM d[j]! d[i]! = false) (hn : ∀ t, 1 ≤ t → t < d.length → (d[t]!).1 ≠ (d[t - 1]!).1) : ascO (d.map memM) := by
  have hadj : ∀ t, t + 1 < d.length → ltM d[t]! d[t + 1]! = true := by
    intro t ht
    have h1 := hs t (t + 1) (by omega) ht
    have h2 := hn (t + 1) (by omega) ht
    rcases ltB_tri (d[t]!).1 (d[t + 1]!).1 with p | p | p
    · exact p
    · exact absurd p.symm h2
    · unfold ltM at h1; rw [h1] at p; cases p
  have hlt : ∀ k i, i + k + 1 < d.length → ltM d[i]! d[i + k + 1]! = true := by
    intro k
    induction k with
    | zero => intro i hi; exact hadj i hi
    | succ k ih => intro i hi; exact ltB_trans (ih i (by omega)) (hadj (i + k + 1) (by omega))
  unfold ascO
  rw [List.pairwise_map, List.pairwise_iff_getElem]
  intro i j hi hj hij
  have := hlt (j - i - 1) i (by omega)
  rw [show i + (j - i - 1) + 1 = j from by omega] at this
  simpa [ltM, memM, hi, hj] using this
end Go.Proofs.YtjjbbnodmpemiaaGreatDoor

/- value.Object, walked: members in order, each once, or ErrKey. Condition: a bulk of at most 9 * 10^7. -/
namespace Go.Proofs.YtjjbbnodmpemiaaGreatDoor
open Go.RowKit

theorem below_dr {B : Nat} {a w : World} (h : Below B a w) (n : Nat) : Below B a (w.drewN n) := ⟨h.os, h.tape, h.output, h.size, h.block⟩
theorem not_nodup {d : List Mx} {q : Nat} (h1 : 1 ≤ q) (hq : q < d.length) (e : (d[q]!).1 = (d[q - 1]!).1) : ¬((d.map memM).map (·.1)).Nodup := by
  intro hn
  rw [List.map_map] at hn
  have h2 := List.pairwise_iff_getElem.1 hn (q - 1) q (by simp; omega) (by simpa using hq) (by omega)
  simp only [List.getElem_map, Function.comp, memM] at h2
  have hp : q - 1 < d.length := by omega
  apply h2
  have e1 : d[q]! = d[q] := by simp [hq]
  have e2 : d[q - 1]! = d[q - 1] := by simp [hp]
  rw [← e1, ← e2]
  exact e.symm
abbrev zero6 : Array Value := #[.int .i64 0, .bool false, .int .i64 0, .string ⟨#[]⟩, .slice none 0 0, .slice none 0 0]
/-- What value.Object hands back. -/
def VObjPost (w : World) (o : List (ByteArray × Val)) (e : Ending) (w' : World) : Prop := Below w.heap.size w w' ∧
  ((objAll o [] = none ∧ e = .returned (.tuple #[.agg zero6, .int .i64 8])) ∨
   ∃ o' cs, objAll o [] = some o' ∧ e = .returned (.tuple #[.agg (cs : List Value).toArray, .int .i64 0]) ∧ cs.length = 6 ∧ Fresh w.heap.size w' (dV (.mk 6 false 0 ⟨#[]⟩ [] o')) cs)

set_option maxRecDepth 100000 in
set_option maxHeartbeats 4000000 in
theorem vobj_calls (o : List (ByteArray × Val)) (a : Option Addr) (n c : Nat) (w : World) (h : Holds w w.heap.size (.row 7 (dO o)) [.slice a n c]) (hb : bulkO o ≤ 90000000) :
    Calls Tryz.prog 37 #[.slice a n c] w (VObjPost w o) := by
  have hln := bulkO_len o
  have hn := h.row_len
  rw [dO_len] at hn
  subst hn
  obtain ⟨w0, hw0⟩ : ∃ w0, w.alloc (.cells zero6 45) = w0 := ⟨_, rfl⟩
  have hb0 : Below w.heap.size w w0 := hw0 ▸ (Below.refl _ _).alloc (Nat.le_refl _) _
  have hx0 : Blk w0 w.heap.size 45 zero6 := by rw [← hw0]; exact Blk.new _ _ _
  have hs0 : w0.heap.size = w.heap.size + 1 := by rw [← hw0]; simp
  have hCL := clone_calls o a o.length c w0 (h.later hb0) (by omega)
  have hs0' : w.heap.size < w0.heap.size := by omega
  have hS0 := Lib.hid hs0
  have HCL := Lib.hid hCL
  have Hb0 := Lib.hid hb0
  have Hx0 := Lib.hid hx0
  clear hCL hb0 hx0
  clear h hs0
  subst hw0
  go_enter Tryz.func37, Tryz.ntmps37
  go_wp2_with (fail)
  with_reducible refine HCL.out.mono ?_
  rintro e w1 ⟨V, ns, rfl, hown, hA, hb1⟩
  obtain ⟨d, hd1, rfl, hd3⟩ := toMx hA
  obtain ⟨a1, c1, rfl, hform⟩ := own_form hown
  have hdl : d.length = o.length := by rw [← hd1, List.length_map]
  have hx1 := Hx0.out.below hb1 Hx0.out.lt
  have hs1 := hb1.size
  have hb1' := Hb0.out.trans (hb1.mono (Nat.le_of_lt hs0'))
  have Hown := Lib.hid hown
  have HA := Lib.hid hA
  have Hd1 := Lib.hid hd1
  have Hd3 := Lib.hid hd3
  have Hdl := Lib.hid hdl
  have Hform := Lib.hid hform
  have Hx1 := Lib.hid hx1
  have Hb1' := Lib.hid hb1'
  have Hb1 := Lib.hid hb1
  clear hown hA hd1 hd3 hdl hform hx1 hb1' hb1
  clear Hb0 Hx0
  have hbs : Below w1.heap.size w1 (w1.alloc (.cells #[.slice a1 o.length c1] 43)) := (Below.refl _ _).alloc (Nat.le_refl _) _
  have hsort : Calls Tryz.prog 58 #[.iface 43 (.slice a1 o.length c1), .func (.func 59) #[] #[.pointer (some ⟨w1.heap.size, 0, none⟩)]] (w1.alloc (.cells #[.slice a1 o.length c1] 43)) (SDone (w1.alloc (.cells #[.slice a1 o.length c1] 43)) a1 d) := by
    have hBs : (w1.alloc (.cells #[.slice a1 o.length c1] 43)).cell? ⟨w1.heap.size, 0, none⟩ = some (.slice a1 d.length c1) := by
      rw [Hdl.out]; exact (Blk.new w1 43 #[.slice a1 o.length c1]).cell 0
    have := sortM_any a1 c1 w1.heap.size d (by have := Hdl.out; omega) (w1.alloc (.cells #[.slice a1 o.length c1] 43)) ?_ hBs (by simp)
    · rwa [Hdl.out] at this
    · rcases Hform.out with ⟨f1, f2, _⟩ | ⟨g, f1, f2, f3, f4, f5, f6⟩
      · exact .inl ⟨by rw [Hdl.out]; exact f1, f2⟩
      · refine .inr ⟨g, f1, by simp; omega, by omega, fun i hi j hj => ?_, fun j => ?_⟩
        · rw [hbs.cell (p := ⟨g, i * 7 + j, none⟩) f3]
          exact f5 _ _ (flat_get d i j hi hj)
        · rw [hbs.frozen (p := ⟨g, j, none⟩) f3]
          exact f6 j
  have Hsort := Lib.hid hsort
  have Hbs := Lib.hid hbs
  clear hsort hbs
  go_wp2_with (fail)
  with_reducible refine Hsort.out.mono ?_
  rintro e w3 ⟨rfl, d', s1, s2, s3, s4, s5, s6, s7, s8, s9⟩
  have hg1 : ∀ g, a1 = some ⟨g, 0, none⟩ → w.heap.size + 1 ≤ g ∧ g < w1.heap.size := by
    intro g e
    rcases Hform.out with ⟨_, f2, _⟩ | ⟨g', f1, f2, f3, _⟩
    · rw [f2] at e; cases e
    · rw [f1] at e
      simp only [Option.some.injEq, Addr.mk.injEq, and_true] at e
      have := hS0.out
      omega
  have q1 : w3.cell? ⟨w1.heap.size, 0, none⟩ = some (.slice a1 o.length c1) := by
    rw [World.cell?_of_block (s5 w1.heap.size (by simp) (fun g e => by have := hg1 g e; omega))]
    exact (Blk.new w1 43 #[.slice a1 o.length c1]).cell 0
  have hw1s : w.heap.size + 1 ≤ w1.heap.size := by have := hS0.out; omega
  have q2 : Blk w3 w.heap.size 45 zero6 := by
    have h1 := s5 w.heap.size (by simp; omega) (fun g e => by have := hg1 g e; omega)
    exact h1.trans (Hx1.out.below Hbs.out (by omega))
  have q4 : Below (w.alloc (.cells zero6 45)).heap.size (w.alloc (.cells zero6 45)) w3 := by
    have h0 := Hb1.out
    have hs := hS0.out
    refine ⟨s7.trans h0.os, s8.trans h0.tape, s9.trans h0.output, by simp at s6; omega, fun i hi => ?_⟩
    rw [s5 i (by simp; omega) (fun g e => by have := hg1 g e; omega), Hbs.out.block i (by omega)]
    exact h0.block i hi
  have q3 : Below w.heap.size w w3 := by
    have h0 := Hb1'.out
    refine ⟨s7.trans h0.os, s8.trans h0.tape, s9.trans h0.output, by simp at s6; omega, fun i hi => ?_⟩
    rw [s5 i (by simp; omega) (fun g e => by have := hg1 g e; omega), Hbs.out.block i (by omega)]
    exact h0.block i hi
  rw [Hdl.out] at s1 s3 s4
  have hsz3 : w1.heap.size + 1 ≤ w3.heap.size := by simpa using s6
  have hol : o.length < 9000000000 := by omega
  have H0 : Hid (∀ t, 1 ≤ t → t < 1 → (d'[t]!).1 ≠ (d'[t - 1]!).1) := fun t h1 h2 => absurd h2 (by omega)
  have S1 := Lib.hid s1
  have S2 := Lib.hid s2
  have S3 := Lib.hid s3
  have S4 := Lib.hid s4
  have Q2 := Lib.hid q2
  have Q3 := Lib.hid q3
  have Q4 := Lib.hid q4
  clear s1 s2 s3 s4 q2 q3 q4
  clear s5 s6 s7 s8 s9 Hsort hg1
  go_wp2_with (fail)
  go_loopw [5] (fun i wx => ∃ q m : Nat, i = .int .i64 q ∧ 1 ≤ q ∧ (q ≤ o.length ∨ q = 1) ∧ Hid (∀ t, 1 ≤ t → t < q → (d'[t]!).1 ≠ (d'[t - 1]!).1) ∧ wx = w3.drewN m) (fun i _ => o.length - (intOf i).toNat)
  case atStart => exact ⟨1, 0, rfl, Nat.le_refl _, .inr rfl, H0, rfl⟩
  case round =>
    obtain ⟨q, m, rfl, hq1, hq2, hne, rfl⟩ := hrel
    clear H0
    by_cases hlt : q < o.length
    · obtain ⟨g, rfl, hg, hc⟩ := S4.out.resolve_left (by omega)
      have cq : w3.cell? ⟨g, q * 7, none⟩ = some (.string (d'[q]!).1) := by
        have := hc q hlt 0 (by omega)
        rwa [Nat.add_zero, encM_key] at this
      have cp : w3.cell? ⟨g, (q - 1) * 7, none⟩ = some (.string (d'[q - 1]!).1) := by
        have := hc (q - 1) (by omega) 0 (by omega)
        rwa [Nat.add_zero, encM_key] at this
      obtain ⟨K, hK⟩ : ∃ K, (d'[q]!).1 = K := ⟨_, rfl⟩
      obtain ⟨L, hL⟩ : ∃ L, (d'[q - 1]!).1 = L := ⟨_, rfl⟩
      rw [hK] at cq
      rw [hL] at cp
      have HK := Lib.hid hK
      have HL := Lib.hid hL
      clear hK hL
      clear hc
      have x1 : IntKind.i64.wrap ((q : Int) - 1) = (q : Int) - 1 := IntWalk.i64_in _ (by omega)
      have y1 : (1 : Int) ≤ (q : Int) := by omega
      have y2 : (q : Int) < (o.length : Int) := by omega
      have y3 : (q : Int) < (o.length : Int) + 1 := by omega
      have y4 : q < o.length + 1 := by omega
      have y5 : (q : Int) - 1 < (o.length : Int) := by omega
      have y6 : 0 ≤ (q : Int) - 1 := by omega
      have x2 : ((q : Int) - 1).toNat = q - 1 := by omega
      by_cases hkl : K.toList = L.toList
      · have hb1 : (K.toList == L.toList) = true := by simpa using hkl
        have Hkl := Lib.hid hkl
        clear hkl
        go_wp2_with (fail)
        go_quiet (fail)
        clear x1 x2
        obtain ⟨z0, z1, z2, z3, z4, z5⟩ := vcell Q2.out
        have zf := fun i => Q2.out.frozen i
        go_wp2
        refine bodyPost_ret (v := .tuple #[.agg zero6, .int .i64 8]) (by simp [results, Tryz.results37, go_sem, z0, z1, z2, z3, z4, z5]) rfl ⟨?_, .inl ⟨?_, rfl⟩⟩
        · repeat (refine Below.setCell ?_ (by simp) _)
          first | exact below_dr Q3.out _ | exact below_dr (below_dr Q3.out _) _
        · have hpm := (S2.out.map memM).trans (by rw [Hd1.out])
          exact objAll_twice hpm (not_nodup hq1 (by rw [S1.out]; exact hlt) (by rw [HK.out, HL.out]; exact toList_inj Hkl.out))
      · have hb1 : (K.toList == L.toList) = false := by simpa using hkl
        have Hkl := Lib.hid hkl
        clear hkl
        go_wp2_with (fail)
        go_quiet (fail)
        clear x1 x2
        have Hne : Hid (∀ t, 1 ≤ t → t < q + 1 → (d'[t]!).1 ≠ (d'[t - 1]!).1) := by
          intro t h1 h2
          by_cases ht : t = q
          · subst ht
            rw [HK.out, HL.out]
            intro e
            exact Hkl.out (by rw [e])
          · exact hne.out t h1 (by omega)
        clear hne
        go_wp2
        go_roundw
        case rel => exact ⟨q + 1, _, by go_num, by omega, .inl (by omega), Hne, by first | rfl | exact World.drewN_drewN _ _ _⟩
        case measure => simp only [intOf]; omega
    · have hasc : ascO (d'.map memM) := asc_of (fun i j h1 h2 => S3.out i j h1 (by have := S1.out; omega)) (fun t h1 h2 => hne.out t h1 (by have := S1.out; omega))
      have hpm : (d'.map memM).Perm o := (S2.out.map memM).trans (by rw [Hd1.out])
      have hall := objAll_sorted hpm hasc
      have hlen : (d'.map memM).length = o.length := by rw [List.length_map, S1.out]
      have hbk := objAll_bulk hall
      simp only [bulkO, Nat.zero_add] at hbk
      have hWd : Below (w.alloc (.cells zero6 45)).heap.size (w.alloc (.cells zero6 45)) (w3.drewN m) := below_dr Q4.out m
      have hV : HoldsV (w3.drewN m) (w3.drewN m).heap.size (.mk 6 false 0 ⟨#[]⟩ [] (d'.map memM)) [.int .i64 6, .bool false, .int .i64 0, .string ⟨#[]⟩, .slice none 0 0, .slice a1 o.length c1] := by
        simp only [HoldsV]
        refine ⟨none, 0, a1, c1, by rw [hlen]; rfl, .inl trivial, ?_⟩
        rcases S4.out with h0 | ⟨g, rfl, hg, hc⟩
        · exact .inl (List.eq_nil_of_length_eq_zero (by rw [hlen]; exact h0))
        · refine .inr ⟨g, 0, rfl, hg, HoldsA.toO (fun m _ => holdsV_of m.2) (ofMx (d := d') (fun x hx => ?_)) (fun j u hj => ?_)⟩
          · exact ((Hd3.out x (S2.out.mem_iff.1 hx)).below hWd).more hWd.size
          · rw [Nat.zero_add]
            exact flat_cells (w := w3) (fun i hi j hj => hc i (by have := S1.out; omega) j hj) j u hj
      have hCP := vcopy_calls _ _ _ hV (by simp only [Val.bulk, bulkL, ByteArray.size]; rw [hbk]; simp; omega)
      have hsz4 : w.heap.size < w3.heap.size := Q2.out.lt
      obtain ⟨z0, z1, z2, z3, z4, z5⟩ := vcell Q2.out
      have zf := fun i => Q2.out.frozen i
      obtain ⟨O, hO⟩ : ∃ O, d'.map memM = O := ⟨_, rfl⟩
      rw [hO] at hCP hall
      have HCP := Lib.hid hCP
      have Hall := Lib.hid hall
      have Hsz4 := Lib.hid hsz4
      clear hCP hall hsz4
      clear hne hasc hpm hlen hbk hWd hV hO
      go_wp2_with (fail)
      with_reducible refine HCP.out.mono ?_
      rintro e w4 ⟨⟨cs, rfl, hl4, hf4⟩, hb4⟩
      obtain ⟨la2, lc2, oa2, oc2, rfl⟩ := six_now hf4
      obtain ⟨hc4, hz4⟩ := bcell' hb4
      have hg4 : w.heap.size < w3.heap.size := Hsz4.out
      have HB4 : Hid (Below w.heap.size w w4) := (below_dr Q3.out m).trans (hb4.mono Q3.out.size)
      have HSz4 : Hid (w3.heap.size ≤ w4.heap.size) := hb4.size
      have k0 : w4.cell? ⟨w.heap.size, 0, none⟩ = some (.int .i64 0) := (hc4 w.heap.size 0 hg4).trans z0
      have k1 : w4.cell? ⟨w.heap.size, 1, none⟩ = some (.bool false) := (hc4 w.heap.size 1 hg4).trans z1
      have k2 : w4.cell? ⟨w.heap.size, 2, none⟩ = some (.int .i64 0) := (hc4 w.heap.size 2 hg4).trans z2
      have k3 : w4.cell? ⟨w.heap.size, 3, none⟩ = some (.string ⟨#[]⟩) := (hc4 w.heap.size 3 hg4).trans z3
      have k4 : w4.cell? ⟨w.heap.size, 4, none⟩ = some (.slice none 0 0) := (hc4 w.heap.size 4 hg4).trans z4
      have k5 : w4.cell? ⟨w.heap.size, 5, none⟩ = some (.slice none 0 0) := (hc4 w.heap.size 5 hg4).trans z5
      have kf : ∀ i, w4.frozen? ⟨w.heap.size, i, none⟩ = false := fun i => (hz4 w.heap.size i hg4).trans (zf i)
      have hblk : w4.heap[w.heap.size]? = some (.cells zero6 45 (0, 0)) := (hb4.block _ hg4).trans Q2.out
      have Hf4 := Lib.hid hf4
      have Hblk := Lib.hid hblk
      clear hf4 hblk
      clear hb4 hc4 hz4 hl4 z0 z1 z2 z3 z4 z5 zf
      go_wp2
      obtain ⟨W, hW⟩ : ∃ W, ((((((w4.setCell ⟨w.heap.size, 0, none⟩ (.int .i64 6)).setCell ⟨w.heap.size, 1, none⟩ (.bool false)).setCell ⟨w.heap.size, 2, none⟩ (.int .i64 0)).setCell ⟨w.heap.size, 3, none⟩ (.string ⟨#[]⟩)).setCell ⟨w.heap.size, 4, none⟩ (.slice la2 0 lc2)).setCell ⟨w.heap.size, 5, none⟩ (.slice oa2 O.length oc2)) = W := ⟨_, rfl⟩
      have hWh : ∀ c, c ≠ w.heap.size → W.heap[c]? = w4.heap[c]? := by
        intro c hc
        rw [← hW]
        simp only [setCell_far _ _ _ _ hc]
      have hWs : W.heap.size = w4.heap.size := by rw [← hW]; simp [World.setCell]
      have hWb : Below w.heap.size w W := by
        rw [← hW]
        exact (((((HB4.out.setCell (by simp) _).setCell (by simp) _).setCell (by simp) _).setCell (by simp) _).setCell (by simp) _).setCell (by simp) _
      have hWr : Blk W w.heap.size 45 #[.int .i64 6, .bool false, .int .i64 0, .string ⟨#[]⟩, .slice la2 0 lc2, .slice oa2 O.length oc2] := by
        have q3 : Blk w4 w.heap.size 45 zero6 := Hblk.out
        rw [← hW]
        exact (((((q3.set_ 0 _).set_ 1 _).set_ 2 _).set_ 3 _).set_ 4 _).set_ 5 _
      obtain ⟨s0, s1, s2, s3, s4, s5⟩ := vcell hWr
      have hFr : Fresh w.heap.size W (dV (.mk 6 false 0 ⟨#[]⟩ [] O)) [.int .i64 6, .bool false, .int .i64 0, .string ⟨#[]⟩, .slice la2 0 lc2, .slice oa2 O.length oc2] :=
        Hf4.out.keep (by show w.heap.size ≤ w3.heap.size; omega) (by omega) (fun p p1 p2 => World.cell?_of_block (hWh _ (by have p1' : w3.heap.size ≤ p.block := p1; omega)))
      rw [hW]
      exact bodyPost_ret (v := .tuple #[.agg #[.int .i64 6, .bool false, .int .i64 0, .string ⟨#[]⟩, .slice la2 0 lc2, .slice oa2 O.length oc2], .int .i64 0]) (by simp [results, Tryz.results37, go_sem, s0, s1, s2, s3, s4, s5]) rfl ⟨hWb, .inr ⟨O, _, Hall.out, rfl, rfl, hFr⟩⟩
end Go.Proofs.YtjjbbnodmpemiaaGreatDoor

/- Whether a value has anything that its kind does not name: the program's function and the reference's. No condition. -/
namespace Go.Proofs.YtjjbbnodmpemiaaGreatDoor
open Go.RowKit

def oddB (k : Int) (b : Bool) (n : Int) (t : ByteArray) (ln on : Nat) : Bool :=
  if k == 1 then b || n != 0 || !t.toList.isEmpty || ln != 0 || on != 0
  else if k == 2 then n != 0 || !t.toList.isEmpty || ln != 0 || on != 0
  else if k == 3 then b || !t.toList.isEmpty || ln != 0 || on != 0
  else if k == 4 then b || n != 0 || ln != 0 || on != 0
  else if k == 5 then b || n != 0 || !t.toList.isEmpty || on != 0
  else if k == 6 then b || n != 0 || !t.toList.isEmpty || ln != 0
  else true

set_option maxHeartbeats 1000000 in
theorem odd_calls (k : Int) (b : Bool) (n : Int) (t : ByteArray) (la oa : Option Addr) (ln lc on oc : Nat) (w : World) :
  Calls Tryz.prog 99 #[.agg #[.int .i64 k, .bool b, .int .i64 n, .string t, .slice la ln lc, .slice oa on oc]] w fun e w' => e = .returned (.bool (oddB k b n t ln on)) ∧ Below w.heap.size w w' := by
  go_enter Tryz.func99, Tryz.ntmps99
  go_wp2
  all_goals go_ret
  all_goals simp only [oddB, *]
  all_goals refine ⟨by first | (simp_all; done) | (simp_all; omega) | (simp_all; rw [Bool.eq_iff_iff]; simp [Nat.pos_iff_ne_zero]), ?_⟩
  all_goals exact Below.alloc (Below.refl _ _) (Nat.le_refl _) _

theorem toList_empty : (ByteArray.empty).toList = [] := by rw [Lib.toList_data]; rfl
theorem toList_ne {t : ByteArray} (h : ¬t = ByteArray.empty) : t.toList ≠ [] := by
  intro e
  rw [Lib.toList_data] at e
  apply h
  have : t.data = #[] := by simpa using e
  exact ByteArray.ext this
theorem ret_bool {a b : Bool} (h : a = b) : Ending.returned (.bool a) = .returned (.bool b) := by rw [h]
theorem cast_beq (n : Nat) : ((n : Int) == 0) = (n == 0) := by rw [Bool.eq_iff_iff]; simp

set_option maxHeartbeats 2000000 in
theorem bare_calls (k : Int) (b : Bool) (n : Int) (t : ByteArray) (la oa : Option Addr) (ln lc on oc : Nat) (w : World) :
  Calls Tryz.prog 100 #[.agg #[.int .i64 k, .bool b, .int .i64 n, .string t, .slice la ln lc, .slice oa on oc]] w fun e w' => e = .returned (.bool (!oddB k b n t ln on)) ∧ Below w.heap.size w w' := by
  rcases (by omega : k = 1 ∨ k = 2 ∨ k = 3 ∨ k = 4 ∨ k = 5 ∨ k = 6 ∨ k < 1 ∨ 6 < k) with rfl | rfl | rfl | rfl | rfl | rfl | h | h
  all_goals
    go_enter Tryz.func100, Tryz.ntmps100
    go_wp2
    all_goals go_ret
    all_goals refine ⟨ret_bool ?_, Below.alloc (Below.refl _ _) (Nat.le_refl _) _⟩
    all_goals simp only [oddB, cast_beq]
  all_goals first | (simp_all [toList_ne]; done) | (subst_vars; simp_all [bne]; done) | (rw [if_neg (by simp; omega), if_neg (by simp; omega), if_neg (by simp; omega), if_neg (by simp; omega), if_neg (by simp; omega), if_neg (by simp; omega)]; rfl) | skip

end Go.Proofs.YtjjbbnodmpemiaaGreatDoor

/- Why a value may not be: the program's function and the reference's, held against one plain function. Condition: texts shorter than 2^63. -/
namespace Go.Proofs.YtjjbbnodmpemiaaGreatDoor
open Go.RowKit

/-- The tables of the library's that are read, as they are laid. -/
def Tabs (w : World) : Prop :=
  5 ≤ w.heap.size ∧ Lib.Utf8Tabs 1 2 w ∧ Lib.TabIs Tryz.prog w "internal/strconv.uint64pow10" .u64 Lib.pow10Tab

def validB (s : ByteArray) : Bool := Lib.validD s.data.toList

theorem utfValid_calls (s : ByteArray) (w : World) (hs : s.size ≤ 9223372036854775807) (hT : Tabs w) :
    Calls Tryz.prog 73 #[.string s] w fun e w' => e = .returned (.bool (validB s)) ∧ Below w.heap.size w w' := by
  have cV := Tryz.utf8_ValidString s w hs hT.2.1
  unfold validB
  generalize Lib.validD s.data.toList = V at cV ⊢
  go_enter Tryz.func73, Tryz.ntmps73
  go_wp2_with (go_at_call 98; refine cV.mono ?_; rintro e w' ⟨rfl, hb⟩)
  go_ret
  exact ⟨rfl, hb⟩

def leB (a b : ByteArray) : Bool := Op.bytesLess a.toList b.toList || a.toList == b.toList

mutual
/-- Why a value that stands so deep may not be. -/
def mayV : Val → Int → Int
  | .mk k b n t l o, d =>
    if oddB k b n t l.length o.length then 9 else if 64 < d then 5 else if validB t then (if mayL l (d + 1) = 0 then mayO o none (d + 1) else mayL l (d + 1)) else 3
def mayL : List Val → Int → Int
  | [], _ => 0
  | v :: r, d => if mayV v d = 0 then mayL r d else mayV v d
def mayO : List (ByteArray × Val) → Option ByteArray → Int → Int
  | [], _, _ => 0
  | p :: r, last, d => if mayP p last d = 0 then mayO r (some p.1) d else mayP p last d
def mayP : ByteArray × Val → Option ByteArray → Int → Int
  | (key, v), last, d => if validB key then (match last with | none => mayV v d | some q => if leB key q then 8 else mayV v d) else 3
end

theorem odd_calls2 {k : Int} {b : Bool} {n : Int} {t : ByteArray} {la oa : Option Addr} {ln lc on oc : Nat} {B : Bool} (h : oddB k b n t ln on = B) (w : World) :
  Calls Tryz.prog 99 #[.agg #[.int .i64 k, .bool b, .int .i64 n, .string t, .slice la ln lc, .slice oa on oc]] w fun e w' => e = .returned (.bool B) ∧ Below w.heap.size w w' := by
  subst h
  exact odd_calls _ _ _ _ _ _ _ _ _ _ _

theorem Tabs.below {w w' : World} (h : Tabs w) (hb : Below w.heap.size w w') : Tabs w' := by
  obtain ⟨h5, ⟨h1, h2⟩, h3⟩ := h
  refine ⟨Nat.le_trans h5 hb.size, ⟨fun c hc => ?_, fun i hi => ⟨?_, ?_⟩⟩, Go.Joins.tab_stays (g := 3) (by kernel_rfl) h3 hb (Nat.le_refl _)⟩
  · exact (hb.cell (p := ⟨1, c, none⟩) (by show 1 < _; omega)).trans (h1 c hc)
  · exact (hb.cell (p := ⟨2, 2 * i, none⟩) (by show 2 < _; omega)).trans (h2 i hi).1
  · exact (hb.cell (p := ⟨2, 2 * i + 1, none⟩) (by show 2 < _; omega)).trans (h2 i hi).2

theorem bcell {W w1 : World} (hb : Below W.heap.size W w1) : (∀ b o, b < W.heap.size → w1.cell? ⟨b, o, none⟩ = W.cell? ⟨b, o, none⟩) ∧ (∀ b o, b < W.heap.size → w1.frozen? ⟨b, o, none⟩ = W.frozen? ⟨b, o, none⟩) :=
  ⟨fun b o h => hb.cell (p := ⟨b, o, none⟩) h, fun b o h => hb.frozen (p := ⟨b, o, none⟩) h⟩

theorem drop_of_get {α : Type} {l : List α} {k : Nat} {v : α} (h : l[k]? = some v) : l.drop k = v :: l.drop (k + 1) := by
  obtain ⟨hlt, rfl⟩ := List.getElem?_eq_some_iff.1 h
  exact List.drop_eq_getElem_cons hlt

theorem below_drewN {B : Nat} {a w : World} (h : Below B a w) (n : Nat) : Below B a (w.drewN n) := ⟨h.os, h.tape, h.output, h.size, h.block⟩

/-- The contract of may, of the values that p names. -/
def MayC (v : Val) : Prop := ∀ (cs : List Value) (d : Int) (w : World), Tabs w → HoldsV w w.heap.size v cs → v.bulk ≤ 1000000000 → 0 ≤ d → d ≤ 65 →
    Calls Tryz.prog 74 #[.agg cs.toArray, .int .i64 d] w fun e w' => e = .returned (.int .i64 (mayV v d)) ∧ Below w.heap.size w w'

set_option maxHeartbeats 1000000 in
theorem may_list (b : Bool) (n : Int) (t : ByteArray) (l : List Val) (la oa : Option Addr) (lc oc : Nat) (d : Int) (w : World) (hT : Tabs w) (g off : Nat) (hla : l = [] ∨ (la = some ⟨g, off, none⟩ ∧ g < w.heap.size ∧ HoldsL w w.heap.size l g off))
    (hb : bulkL l ≤ 1000000000) (h0 : 0 ≤ d) (h64 : d ≤ 64) (IH : ∀ v ∈ l, MayC v) (hodd : oddB 5 b n t l.length 0 = false) :
    Calls Tryz.prog 74 #[.agg #[.int .i64 5, .bool b, .int .i64 n, .string t, .slice la l.length lc, .slice oa 0 oc], .int .i64 d] w fun e w' => e = .returned (.int .i64 (mayL l (d + 1))) ∧ Below w.heap.size w w' := by
  have hlen : l.length ≤ 1000000000 := by have := bulkL_len l; omega
  go_enter Tryz.func74, Tryz.ntmps74
  go_wp2_with (go_at_call 99; refine (odd_calls2 hodd _).mono ?_; rintro e w1 ⟨rfl, hb1⟩; obtain ⟨hc1, hf1⟩ := bcell hb1; have hz1 := hb1.size; simp only [World.size_alloc] at hz1)
  have hbw1 : Below w.heap.size w w1 := ((Below.refl _ _).alloc (Nat.le_refl _) _).trans (hb1.mono (by simp))
  have H : Hid (mayL (l.drop 0) (d + 1) = mayL l (d + 1)) := by rw [List.drop_zero]; exact rfl
  clear hb1 hodd hc1 hf1 hz1
  go_loopw [30] (fun i wr => ∃ k : Nat, k ≤ l.length ∧ i = .int .i64 k ∧ Hid (mayL (l.drop k) (d + 1) = mayL l (d + 1)) ∧ Below w.heap.size w wr) (fun i _ => l.length - (intOf i).toNat)
  case atStart => exact ⟨0, Nat.zero_le _, rfl, H, hbw1⟩
  case round =>
    obtain ⟨k, hk, rfl, hm, hbw⟩ := hrel
    clear H hbw1
    by_cases hlt : k < l.length
    · obtain ⟨rfl, hg, hL⟩ : la = some ⟨g, off, none⟩ ∧ g < w.heap.size ∧ HoldsL w w.heap.size l g off := by
        rcases hla with rfl | h
        · simp at hlt
        · exact h
      obtain ⟨v, hv⟩ : ∃ v, l[k]? = some v := ⟨_, List.getElem?_eq_getElem hlt⟩
      have hdrop : l.drop k = v :: l.drop (k + 1) := drop_of_get hv
      have hmem : v ∈ l := List.mem_of_getElem? hv
      have hbv := bulkL_mem hmem
      have IHv := Lib.hid (IH v hmem)
      have hm' := hm.out
      rw [hdrop] at hm'
      simp only [mayL] at hm'
      clear hm hdrop hmem IH
      obtain ⟨m, hmv⟩ : ∃ m, mayV v (d + 1) = m := ⟨_, rfl⟩
      rw [hmv] at hm'
      have Hmv := Lib.hid hmv
      have Hm := Lib.hid hm'
      clear hm' hmv
      obtain ⟨k', b', n', t', l', o'⟩ := v
      obtain ⟨la', lc', oa', oc', hvs, c0, c1, c2, c3, c4, c5⟩ := (hL.below hg hbw).six hv
      clear hla hL hv
      have hz := hbw.size
      by_cases hm0 : m = 0
      · have Hk : Hid (mayL (l.drop (k + 1)) (d + 1) = mayL l (d + 1)) := by
          have := Hm.out
          rwa [if_pos hm0] at this
        subst hm0
        clear Hm
        go_wp2_with (go_at_call 74; refine (IHv.out _ (d + 1) _ (hT.below (hbw.alloc hz _)) (HoldsV.more (by simp; omega) _ _ (hvs.below ((Below.refl _ _).alloc hz _))) (by omega) (by omega) (by omega)).mono ?_; rintro e w2 ⟨he, hb2⟩; rw [Hmv.out] at he; subst he; have hbw2 : Below w.heap.size w w2 := (hbw.alloc hz _).trans (hb2.mono (by simp; omega)); obtain ⟨hc2, hf2⟩ := bcell hb2; have hz2 := hb2.size; simp only [World.size_alloc] at hz2)
        go_roundw
        case rel => exact ⟨k + 1, by omega, by go_num, Hk, hbw2⟩
        case measure => simp [intOf]; omega
      · have Hk : Hid (m = mayL l (d + 1)) := by
          have := Hm.out
          rwa [if_neg hm0] at this
        clear Hm
        have hm1 : (m == 0) = false := by simpa using hm0
        have hm2 : (m != 0) = true := by simpa using hm0
        go_wp2_with (go_at_call 74; refine (IHv.out _ (d + 1) _ (hT.below (hbw.alloc hz _)) (HoldsV.more (by simp; omega) _ _ (hvs.below ((Below.refl _ _).alloc hz _))) (by omega) (by omega) (by omega)).mono ?_; rintro e w2 ⟨he, hb2⟩; rw [Hmv.out] at he; subst he; have hbw2 : Below w.heap.size w w2 := (hbw.alloc hz _).trans (hb2.mono (by simp; omega)); obtain ⟨hc2, hf2⟩ := bcell hb2; have hz2 := hb2.size; simp only [World.size_alloc] at hz2)
        go_ret
        exact ⟨by rw [← Hk.out]; rfl, hbw2⟩
    · obtain rfl : k = l.length := by omega
      rw [List.drop_length] at hm
      go_wp2
      go_ret
      exact ⟨by rw [← hm.out]; rfl, hbw⟩

theorem utfValid_calls2 {s : ByteArray} {B : Bool} (h : validB s = B) (w : World) (hs : s.size ≤ 9223372036854775807) (hT : Tabs w) :
    Calls Tryz.prog 73 #[.string s] w fun e w' => e = .returned (.bool B) ∧ Below w.heap.size w w' := by
  subst h
  exact utfValid_calls _ _ hs hT

def lastKey (o : List (ByteArray × Val)) : Nat → Option ByteArray
  | 0 => none
  | k + 1 => (o[k]?).map (·.1)

set_option maxHeartbeats 2000000 in
theorem may_obj (b : Bool) (n : Int) (t : ByteArray) (o : List (ByteArray × Val)) (la oa : Option Addr) (lc oc : Nat) (d : Int) (w : World) (hT : Tabs w) (g off : Nat) (hoa : o = [] ∨ (oa = some ⟨g, off, none⟩ ∧ g < w.heap.size ∧ HoldsO w w.heap.size o g off))
    (hb : bulkO o ≤ 1000000000) (h0 : 0 ≤ d) (h64 : d ≤ 64) (IH : ∀ m ∈ o, MayC m.2) (hodd : oddB 6 b n t 0 o.length = false) :
    Calls Tryz.prog 74 #[.agg #[.int .i64 6, .bool b, .int .i64 n, .string t, .slice la 0 lc, .slice oa o.length oc], .int .i64 d] w fun e w' => e = .returned (.int .i64 (mayO o none (d + 1))) ∧ Below w.heap.size w w' := by
  have hlen : o.length ≤ 1000000000 := by have := bulkO_len o; omega
  go_enter Tryz.func74, Tryz.ntmps74
  go_wp2_with (go_at_call 99; refine (odd_calls2 hodd _).mono ?_; rintro e w1 ⟨rfl, hb1⟩; obtain ⟨hc1, hf1⟩ := bcell hb1; have hz1 := hb1.size; simp only [World.size_alloc] at hz1)
  have hbw1 : Below w.heap.size w w1 := ((Below.refl _ _).alloc (Nat.le_refl _) _).trans (hb1.mono (by simp))
  have hbox1 : w1.heap[w.heap.size]? = some (.cells #[.int .i64 6, .bool b, .int .i64 n, .string t, .slice la 0 lc, .slice oa o.length oc] 45 (0, 0)) := by
    rw [hb1.block _ (by simp)]; exact heap_alloc_new _ _
  have H : Hid (mayO (o.drop 0) (lastKey o 0) (d + 1) = mayO o none (d + 1)) := by rw [List.drop_zero]; exact rfl
  clear hb1 hodd hc1 hf1 hz1
  go_loopw [47] (fun i wr => ∃ k : Nat, k ≤ o.length ∧ i = .int .i64 k ∧ Hid (mayO (o.drop k) (lastKey o k) (d + 1) = mayO o none (d + 1)) ∧ Below w.heap.size w wr ∧ wr.heap[w.heap.size]? = some (.cells #[.int .i64 6, .bool b, .int .i64 n, .string t, .slice la 0 lc, .slice oa o.length oc] 45 (0, 0))) (fun i _ => o.length - (intOf i).toNat)
  case atStart => exact ⟨0, Nat.zero_le _, rfl, H, hbw1, hbox1⟩
  case round =>
    obtain ⟨k, hk, rfl, hm, hbw, hbox⟩ := hrel
    clear H hbw1 hbox1
    by_cases hlt : k < o.length
    · obtain ⟨rfl, hg, hL⟩ : oa = some ⟨g, off, none⟩ ∧ g < w.heap.size ∧ HoldsO w w.heap.size o g off := by
        rcases hoa with rfl | h
        · simp at hlt
        · exact h
      obtain ⟨⟨key, v⟩, hv⟩ : ∃ v, o[k]? = some v := ⟨_, List.getElem?_eq_getElem hlt⟩
      have hdrop : o.drop k = (key, v) :: o.drop (k + 1) := drop_of_get hv
      have hmem : (key, v) ∈ o := List.mem_of_getElem? hv
      have hbv := bulkO_mem hmem
      simp only at hbv
      have IHv := Lib.hid (IH (key, v) hmem)
      have hlast : lastKey o (k + 1) = some key := by simp [lastKey, hv]
      have hm' := hm.out
      rw [hdrop] at hm'
      simp only [mayO, mayP, ← hlast] at hm'
      clear hm hdrop hmem IH
      have hbx : w.heap.size < wr.heap.size := (Array.getElem?_eq_some_iff.1 hbox).1
      have b5 : wr.cell? ⟨w.heap.size, 5, none⟩ = some (.slice (some ⟨g, off, none⟩) o.length oc) := by rw [Lib.cell_of_heap hbox]; rfl
      have hz := hbw.size
      have hLr := hL.below hg hbw
      have hgr : g < wr.heap.size := by omega
      obtain ⟨k', b', n', t', l', o'⟩ := v
      obtain ⟨la', lc', oa', oc', hvs, c0, c1, c2, c3, c4, c5, c6⟩ := hLr.seven hv
      by_cases hval : validB key = true
      · rw [hval] at hm'
        simp only [if_true] at hm'
        by_cases hkp : 0 < k
        · -- a member behind another one
          have hlt1 : k - 1 < o.length := by omega
          obtain ⟨⟨q, vq⟩, hq⟩ : ∃ m, o[k - 1]? = some m := ⟨_, List.getElem?_eq_getElem hlt1⟩
          have hlq : lastKey o k = some q := by
            obtain ⟨j, rfl⟩ : ∃ j, k = j + 1 := ⟨k - 1, by omega⟩
            simp only [Nat.add_sub_cancel] at hq
            simp [lastKey, hq]
          rw [hlq] at hm'
          simp only at hm'
          have cq : wr.cell? ⟨g, off + (k - 1) * 7, none⟩ = some (.string q) := (hLr.at_ hq).1
          have hgd : decide (0 < k) = true := by simpa using hkp
          have hk1 : (0 : Int) ≤ (k : Int) - 1 := by omega
          have hk2 : (k : Int) - 1 < (o.length : Int) := by omega
          clear hlq hq hlast hL hv hLr hoa
          by_cases hle : leB key q = true
          · rw [if_pos hle] at hm'
            unfold leB at hle
            have Hm := Lib.hid hm'
            clear hm'
            go_wp2_with (go_at_call 73; refine (utfValid_calls2 hval _ (by omega) (hT.below (hbw.alloc hz _))).mono ?_; rintro e w2 ⟨rfl, hb2⟩; obtain ⟨hc2, hf2⟩ := bcell hb2; have hz2 := hb2.size; simp only [World.size_alloc] at hz2; have hbw2 : Below w.heap.size w w2 := (hbw.alloc hz _).trans (hb2.mono (by simp; omega)); have hvs2 := hvs.below (((Below.refl _ wr).alloc hz (.cells #[.string key, .int .i64 k', .bool b', .int .i64 n', .string t', .slice la' l'.length lc', .slice oa' o'.length oc'] 60)).trans (hb2.mono (by simp; omega))))
            have x1 : IntKind.i64.wrap ((k : Int) - 1) = (k : Int) - 1 := IntWalk.i64_in _ (by omega)
            have y1 : 1 ≤ k := by omega
            have y2 : (1 : Int) ≤ (k : Int) := by omega
            have y3 : (k : Int) < (o.length : Int) + 1 := by omega
            have y4 : k < o.length + 1 := by omega
            have y5 : (k : Int) ≤ (o.length : Int) := by omega
            have x2 : ((k : Int) - 1).toNat = k - 1 := by omega
            go_quiet (fail)
            clear x1 x2
            go_wp2
            go_ret
            exact ⟨by rw [← Hm.out]; rfl, below_drewN hbw2 _⟩
          · rw [if_neg hle] at hm'
            have hle' : (Op.bytesLess key.toList q.toList || key.toList == q.toList) = false := by simpa [leB] using hle
            obtain ⟨m, hmv⟩ : ∃ m, mayV (.mk k' b' n' t' l' o') (d + 1) = m := ⟨_, rfl⟩
            rw [hmv] at hm'
            have Hmv := Lib.hid hmv
            clear hmv
            by_cases hm0 : m = 0
            · rw [if_pos hm0] at hm'
              subst hm0
              have Hm := Lib.hid hm'
              clear hm'
              go_wp2_with (go_at_call 73; refine (utfValid_calls2 hval _ (by omega) (hT.below (hbw.alloc hz _))).mono ?_; rintro e w2 ⟨rfl, hb2⟩; obtain ⟨hc2, hf2⟩ := bcell hb2; have hz2 := hb2.size; simp only [World.size_alloc] at hz2; have hbw2 : Below w.heap.size w w2 := (hbw.alloc hz _).trans (hb2.mono (by simp; omega)); have hvs2 := hvs.below (((Below.refl _ wr).alloc hz (.cells #[.string key, .int .i64 k', .bool b', .int .i64 n', .string t', .slice la' l'.length lc', .slice oa' o'.length oc'] 60)).trans (hb2.mono (by simp; omega))))
              have x1 : IntKind.i64.wrap ((k : Int) - 1) = (k : Int) - 1 := IntWalk.i64_in _ (by omega)
              have y1 : 1 ≤ k := by omega
              have y2 : (1 : Int) ≤ (k : Int) := by omega
              have y3 : (k : Int) < (o.length : Int) + 1 := by omega
              have y4 : k < o.length + 1 := by omega
              have y5 : (k : Int) ≤ (o.length : Int) := by omega
              have x2 : ((k : Int) - 1).toNat = k - 1 := by omega
              go_quiet (fail)
              clear x1 x2
              go_wp2_with (go_at_call 74; refine (IHv.out _ (d + 1) _ (hT.below (below_drewN hbw2 _)) (HoldsV.more (by simp; omega) _ _ (hvs2.below (below_drewN (Below.refl _ _) _))) (by omega) (by omega) (by omega)).mono ?_; rintro e w3 ⟨he, hb3⟩; rw [Hmv.out] at he; subst he; have hbw3 : Below w.heap.size w w3 := (below_drewN hbw2 _).trans (hb3.mono (by have := hbw2.size; simp; omega)); have hbx3 : w3.heap[w.heap.size]? = wr.heap[w.heap.size]? := (hb3.block _ (by simp; omega)).trans ((hb2.block _ (by simp; omega)).trans (Below.heap_alloc _ _ _ hbx)))
              go_roundw
              case rel => exact ⟨k + 1, by omega, by go_num, Hm, hbw3, hbx3.trans hbox⟩
              case measure => simp [intOf]; omega
            · rw [if_neg hm0] at hm'
              have hm1 : (m == 0) = false := by simpa using hm0
              have hm2 : (m != 0) = true := by simpa using hm0
              have Hm := Lib.hid hm'
              clear hm'
              go_wp2_with (go_at_call 73; refine (utfValid_calls2 hval _ (by omega) (hT.below (hbw.alloc hz _))).mono ?_; rintro e w2 ⟨rfl, hb2⟩; obtain ⟨hc2, hf2⟩ := bcell hb2; have hz2 := hb2.size; simp only [World.size_alloc] at hz2; have hbw2 : Below w.heap.size w w2 := (hbw.alloc hz _).trans (hb2.mono (by simp; omega)); have hvs2 := hvs.below (((Below.refl _ wr).alloc hz (.cells #[.string key, .int .i64 k', .bool b', .int .i64 n', .string t', .slice la' l'.length lc', .slice oa' o'.length oc'] 60)).trans (hb2.mono (by simp; omega))))
              have x1 : IntKind.i64.wrap ((k : Int) - 1) = (k : Int) - 1 := IntWalk.i64_in _ (by omega)
              have y1 : 1 ≤ k := by omega
              have y2 : (1 : Int) ≤ (k : Int) := by omega
              have y3 : (k : Int) < (o.length : Int) + 1 := by omega
              have y4 : k < o.length + 1 := by omega
              have y5 : (k : Int) ≤ (o.length : Int) := by omega
              have x2 : ((k : Int) - 1).toNat = k - 1 := by omega
              go_quiet (fail)
              clear x1 x2
              go_wp2_with (go_at_call 74; refine (IHv.out _ (d + 1) _ (hT.below (below_drewN hbw2 _)) (HoldsV.more (by simp; omega) _ _ (hvs2.below (below_drewN (Below.refl _ _) _))) (by omega) (by omega) (by omega)).mono ?_; rintro e w3 ⟨he, hb3⟩; rw [Hmv.out] at he; subst he; have hbw3 : Below w.heap.size w w3 := (below_drewN hbw2 _).trans (hb3.mono (by have := hbw2.size; simp; omega)); have hbx3 : w3.heap[w.heap.size]? = wr.heap[w.heap.size]? := (hb3.block _ (by simp; omega)).trans ((hb2.block _ (by simp; omega)).trans (Below.heap_alloc _ _ _ hbx)))
              go_ret
              exact ⟨by rw [← Hm.out]; rfl, hbw3⟩
        · have hlk : lastKey o k = none := by
            obtain rfl : k = 0 := by omega
            rfl
          rw [hlk] at hm'
          simp only at hm'
          have hgd : decide (0 < k) = false := by simpa using hkp
          have hk0 : k ≤ 0 := by omega
          clear hlk hlast hL hv hLr hoa
          obtain ⟨m, hmv⟩ : ∃ m, mayV (.mk k' b' n' t' l' o') (d + 1) = m := ⟨_, rfl⟩
          rw [hmv] at hm'
          have Hmv := Lib.hid hmv
          clear hmv
          by_cases hm0 : m = 0
          · rw [if_pos hm0] at hm'
            subst hm0
            have Hm := Lib.hid hm'
            clear hm'
            go_wp2_with (go_at_call 73; refine (utfValid_calls2 hval _ (by omega) (hT.below (hbw.alloc hz _))).mono ?_; rintro e w2 ⟨rfl, hb2⟩; obtain ⟨hc2, hf2⟩ := bcell hb2; have hz2 := hb2.size; simp only [World.size_alloc] at hz2; have hbw2 : Below w.heap.size w w2 := (hbw.alloc hz _).trans (hb2.mono (by simp; omega)); have hvs2 := hvs.below (((Below.refl _ wr).alloc hz (.cells #[.string key, .int .i64 k', .bool b', .int .i64 n', .string t', .slice la' l'.length lc', .slice oa' o'.length oc'] 60)).trans (hb2.mono (by simp; omega))))
            go_quiet (fail)
            go_wp2_with (go_at_call 74; refine (IHv.out _ (d + 1) _ (hT.below (below_drewN hbw2 _)) (HoldsV.more (by simp; omega) _ _ (hvs2.below (below_drewN (Below.refl _ _) _))) (by omega) (by omega) (by omega)).mono ?_; rintro e w3 ⟨he, hb3⟩; rw [Hmv.out] at he; subst he; have hbw3 : Below w.heap.size w w3 := (below_drewN hbw2 _).trans (hb3.mono (by have := hbw2.size; simp; omega)); have hbx3 : w3.heap[w.heap.size]? = wr.heap[w.heap.size]? := (hb3.block _ (by simp; omega)).trans ((hb2.block _ (by simp; omega)).trans (Below.heap_alloc _ _ _ hbx)))
            go_roundw
            case rel => exact ⟨k + 1, by omega, by go_num, Hm, hbw3, hbx3.trans hbox⟩
            case measure => simp [intOf]; omega
          · rw [if_neg hm0] at hm'
            have hm1 : (m == 0) = false := by simpa using hm0
            have hm2 : (m != 0) = true := by simpa using hm0
            have Hm := Lib.hid hm'
            clear hm'
            go_wp2_with (go_at_call 73; refine (utfValid_calls2 hval _ (by omega) (hT.below (hbw.alloc hz _))).mono ?_; rintro e w2 ⟨rfl, hb2⟩; obtain ⟨hc2, hf2⟩ := bcell hb2; have hz2 := hb2.size; simp only [World.size_alloc] at hz2; have hbw2 : Below w.heap.size w w2 := (hbw.alloc hz _).trans (hb2.mono (by simp; omega)); have hvs2 := hvs.below (((Below.refl _ wr).alloc hz (.cells #[.string key, .int .i64 k', .bool b', .int .i64 n', .string t', .slice la' l'.length lc', .slice oa' o'.length oc'] 60)).trans (hb2.mono (by simp; omega))))
            go_quiet (fail)
            go_wp2_with (go_at_call 74; refine (IHv.out _ (d + 1) _ (hT.below (below_drewN hbw2 _)) (HoldsV.more (by simp; omega) _ _ (hvs2.below (below_drewN (Below.refl _ _) _))) (by omega) (by omega) (by omega)).mono ?_; rintro e w3 ⟨he, hb3⟩; rw [Hmv.out] at he; subst he; have hbw3 : Below w.heap.size w w3 := (below_drewN hbw2 _).trans (hb3.mono (by have := hbw2.size; simp; omega)); have hbx3 : w3.heap[w.heap.size]? = wr.heap[w.heap.size]? := (hb3.block _ (by simp; omega)).trans ((hb2.block _ (by simp; omega)).trans (Below.heap_alloc _ _ _ hbx)))
            go_ret
            exact ⟨by rw [← Hm.out]; rfl, hbw3⟩
      · have hvf : validB key = false := by simpa using hval
        rw [hvf] at hm'
        have Hm := Lib.hid hm'
        clear hm' hlast hval hbox hoa hL hv hLr
        go_wp2_with (go_at_call 73; refine (utfValid_calls2 hvf _ (by omega) (hT.below (hbw.alloc hz _))).mono ?_; rintro e w2 ⟨rfl, hb2⟩; have hbw2 : Below w.heap.size w w2 := (hbw.alloc hz _).trans (hb2.mono (by simp; omega)))
        go_ret
        exact ⟨by rw [← Hm.out]; simp, hbw2⟩
    · obtain rfl : k = o.length := by omega
      rw [List.drop_length] at hm
      go_wp2
      go_ret
      exact ⟨by rw [← hm.out]; rfl, hbw⟩

theorem toList_nil {t : ByteArray} (h : t.toList = []) : t = ByteArray.empty := by
  rw [Lib.toList_data] at h
  have : t.data = #[] := by simpa using h
  exact ByteArray.ext this
theorem validB_empty : validB ByteArray.empty = true := by decide

/-- What is so of a value whose kind names all that it has. -/
theorem odd_parts {k : Int} {b : Bool} {n : Int} {t : ByteArray} {ln on : Nat} (h : oddB k b n t ln on = false) :
    (k = 1 ∨ k = 2 ∨ k = 3 ∨ k = 4 ∨ k = 5 ∨ k = 6) ∧ (k = 4 ∨ t = ByteArray.empty) ∧ (k = 5 ∨ ln = 0) ∧ (k = 6 ∨ on = 0) := by
  unfold oddB at h
  by_cases h1 : k = 1
  · subst h1; simp at h; exact ⟨.inl rfl, .inr (toList_nil h.1.1.2), .inr h.1.2, .inr h.2⟩
  by_cases h2 : k = 2
  · subst h2; simp at h; exact ⟨by omega, .inr (toList_nil h.1.1.2), .inr h.1.2, .inr h.2⟩
  by_cases h3 : k = 3
  · subst h3; simp at h; exact ⟨by omega, .inr (toList_nil h.1.1.2), .inr h.1.2, .inr h.2⟩
  by_cases h4 : k = 4
  · subst h4; simp at h; exact ⟨by omega, .inl rfl, .inr h.1.2, .inr h.2⟩
  by_cases h5 : k = 5
  · subst h5; simp at h; exact ⟨by omega, .inr (toList_nil h.1.2), .inl rfl, .inr h.2⟩
  by_cases h6 : k = 6
  · subst h6; simp at h; exact ⟨by omega, .inr (toList_nil h.1.2), .inr h.2, .inl rfl⟩
  simp [h1, h2, h3, h4, h5, h6] at h

theorem mayV_plain {k : Int} {b : Bool} {n : Int} {t : ByteArray} {d : Int} (ho : oddB k b n t 0 0 = false) (h64 : d ≤ 64) : mayV (.mk k b n t [] []) d = if validB t then 0 else 3 := by
  simp only [mayV, List.length_nil, ho, Bool.false_eq_true, if_false, if_neg (show ¬64 < d by omega), mayL, mayO, if_true]

set_option maxHeartbeats 1000000 in
theorem may_calls : ∀ (v : Val), MayC v := by
  refine Val.ind ?_
  intro k b n t l o ihl iho cs d w hT hV hb h0 h65
  simp only [HoldsV] at hV
  obtain ⟨la, lc, oa, oc, rfl, hL, hO⟩ := hV
  by_cases hodd : oddB k b n t l.length o.length = true
  · have hm : mayV (.mk k b n t l o) d = 9 := by simp only [mayV, hodd, if_true]
    rw [hm]
    clear hm ihl iho hL hO
    go_enter Tryz.func74, Tryz.ntmps74
    go_wp2_with (go_at_call 99; refine (odd_calls2 hodd _).mono ?_; rintro e w' ⟨rfl, hb1⟩)
    go_ret
    exact ⟨rfl, ((Below.refl _ _).alloc (Nat.le_refl _) _).trans (hb1.mono (by simp))⟩
  have hodd' : oddB k b n t l.length o.length = false := by simpa using hodd
  clear hodd
  by_cases h64 : 64 < d
  · have hm : mayV (.mk k b n t l o) d = 5 := by simp only [mayV, hodd', Bool.false_eq_true, if_false, h64, if_true]
    rw [hm]
    clear hm ihl iho hL hO
    go_enter Tryz.func74, Tryz.ntmps74
    go_wp2_with (go_at_call 99; refine (odd_calls2 hodd' _).mono ?_; rintro e w' ⟨rfl, hb1⟩)
    go_ret
    exact ⟨rfl, ((Below.refl _ _).alloc (Nat.le_refl _) _).trans (hb1.mono (by simp))⟩
  obtain ⟨hk, ht, hl, ho⟩ := odd_parts hodd'
  simp only [Val.bulk] at hb
  rcases hk with rfl | rfl | rfl | rfl | rfl | rfl
  · obtain rfl : l = [] := List.eq_nil_of_length_eq_zero (by omega)
    obtain rfl : o = [] := List.eq_nil_of_length_eq_zero (by omega)
    obtain rfl : t = ByteArray.empty := by simpa using ht
    rw [mayV_plain hodd' (by omega), validB_empty]
    clear ihl iho hL hO hl ho ht
    go_enter Tryz.func74, Tryz.ntmps74
    go_wp2_with (go_at_call 99; refine (odd_calls2 hodd' _).mono ?_; rintro e w' ⟨rfl, hb1⟩; obtain ⟨hc1, hf1⟩ := bcell hb1; have hz1 := hb1.size; simp only [World.size_alloc] at hz1)
    go_ret
    exact ⟨rfl, ((Below.refl _ _).alloc (Nat.le_refl _) _).trans (hb1.mono (by simp))⟩
  · obtain rfl : l = [] := List.eq_nil_of_length_eq_zero (by omega)
    obtain rfl : o = [] := List.eq_nil_of_length_eq_zero (by omega)
    obtain rfl : t = ByteArray.empty := by simpa using ht
    rw [mayV_plain hodd' (by omega), validB_empty]
    clear ihl iho hL hO hl ho ht
    go_enter Tryz.func74, Tryz.ntmps74
    go_wp2_with (go_at_call 99; refine (odd_calls2 hodd' _).mono ?_; rintro e w' ⟨rfl, hb1⟩; obtain ⟨hc1, hf1⟩ := bcell hb1; have hz1 := hb1.size; simp only [World.size_alloc] at hz1)
    go_ret
    exact ⟨rfl, ((Below.refl _ _).alloc (Nat.le_refl _) _).trans (hb1.mono (by simp))⟩
  · obtain rfl : l = [] := List.eq_nil_of_length_eq_zero (by omega)
    obtain rfl : o = [] := List.eq_nil_of_length_eq_zero (by omega)
    obtain rfl : t = ByteArray.empty := by simpa using ht
    rw [mayV_plain hodd' (by omega), validB_empty]
    clear ihl iho hL hO hl ho ht
    go_enter Tryz.func74, Tryz.ntmps74
    go_wp2_with (go_at_call 99; refine (odd_calls2 hodd' _).mono ?_; rintro e w' ⟨rfl, hb1⟩; obtain ⟨hc1, hf1⟩ := bcell hb1; have hz1 := hb1.size; simp only [World.size_alloc] at hz1)
    go_ret
    exact ⟨rfl, ((Below.refl _ _).alloc (Nat.le_refl _) _).trans (hb1.mono (by simp))⟩
  · obtain rfl : l = [] := List.eq_nil_of_length_eq_zero (by omega)
    obtain rfl : o = [] := List.eq_nil_of_length_eq_zero (by omega)
    rw [mayV_plain hodd' (by omega)]
    clear ihl iho hL hO hl ho ht
    have hT1 : ∀ w1, Below w.heap.size w w1 → Tabs w1 := fun _ h => hT.below h
    by_cases hv : validB t = true
    · rw [hv]
      go_enter Tryz.func74, Tryz.ntmps74
      go_wp2_with (first | (go_at_call 99; refine (odd_calls2 hodd' _).mono ?_; rintro e w1 ⟨rfl, hb1⟩; obtain ⟨hc1, hf1⟩ := bcell hb1; have hz1 := hb1.size; simp only [World.size_alloc] at hz1; have hbw1 : Below w.heap.size w w1 := ((Below.refl _ _).alloc (Nat.le_refl _) _).trans (hb1.mono (by simp))) | (go_at_call 73; refine (utfValid_calls2 hv _ (by omega) (hT1 _ hbw1)).mono ?_; rintro e w2 ⟨rfl, hb2⟩))
      go_ret
      exact ⟨rfl, hbw1.trans (hb2.mono hbw1.size)⟩
    · have hv' : validB t = false := by simpa using hv
      rw [hv']
      go_enter Tryz.func74, Tryz.ntmps74
      go_wp2_with (first | (go_at_call 99; refine (odd_calls2 hodd' _).mono ?_; rintro e w1 ⟨rfl, hb1⟩; obtain ⟨hc1, hf1⟩ := bcell hb1; have hz1 := hb1.size; simp only [World.size_alloc] at hz1; have hbw1 : Below w.heap.size w w1 := ((Below.refl _ _).alloc (Nat.le_refl _) _).trans (hb1.mono (by simp))) | (go_at_call 73; refine (utfValid_calls2 hv' _ (by omega) (hT1 _ hbw1)).mono ?_; rintro e w2 ⟨rfl, hb2⟩))
      go_ret
      exact ⟨rfl, hbw1.trans (hb2.mono hbw1.size)⟩
  · obtain rfl : o = [] := List.eq_nil_of_length_eq_zero (by omega)
    obtain rfl : t = ByteArray.empty := by simpa using ht
    have hm : mayV (.mk 5 b n ByteArray.empty l []) d = mayL l (d + 1) := by
      simp only [mayV, hodd', Bool.false_eq_true, if_false, h64, validB_empty, if_true, mayO]
      split <;> simp_all
    rw [hm]
    rcases hL with rfl | ⟨g, off, rfl, hg, hL⟩
    · exact may_list b n _ [] la oa lc oc d w hT 0 0 (.inl rfl) (by simp [bulkL]) h0 (by omega) ihl hodd'
    · exact may_list b n _ l _ oa lc oc d w hT g off (.inr ⟨rfl, hg, hL⟩) (by omega) h0 (by omega) ihl hodd'
  · obtain rfl : l = [] := List.eq_nil_of_length_eq_zero (by omega)
    obtain rfl : t = ByteArray.empty := by simpa using ht
    have hm : mayV (.mk 6 b n ByteArray.empty [] o) d = mayO o none (d + 1) := by
      simp only [mayV, hodd', Bool.false_eq_true, if_false, h64, validB_empty, if_true, mayL]
    rw [hm]
    rcases hO with rfl | ⟨g, off, rfl, hg, hO⟩
    · exact may_obj b n _ [] la oa lc oc d w hT 0 0 (.inl rfl) (by simp [bulkO]) h0 (by omega) iho hodd'
    · exact may_obj b n _ o la _ lc oc d w hT g off (.inr ⟨rfl, hg, hO⟩) (by omega) h0 (by omega) iho hodd'

/-- value.May -/
theorem May_calls (v : Val) (cs : List Value) (w : World) (hT : Tabs w) (hV : HoldsV w w.heap.size v cs) (hb : v.bulk ≤ 1000000000) :
    Calls Tryz.prog 49 #[.agg cs.toArray] w fun e w' => e = .returned (.int .i64 (mayV v 1)) ∧ Below w.heap.size w w' := by
  have hV' := hV
  obtain ⟨k, b, n, t, l, o⟩ := v
  simp only [HoldsV] at hV'
  obtain ⟨la, lc, oa, oc, rfl, _, _⟩ := hV'
  have hc := may_calls _ _ 1 (w.alloc (.cells #[.int .i64 k, .bool b, .int .i64 n, .string t, .slice la l.length lc, .slice oa o.length oc] 45)) (hT.below ((Below.refl _ _).alloc (Nat.le_refl _) _)) (HoldsV.more (by simp) _ _ (hV.below ((Below.refl _ _).alloc (Nat.le_refl _) _))) hb (by omega) (by omega)
  generalize mayV _ _ = m at hc ⊢
  have H := Lib.hid hc
  clear hc hV
  go_enter Tryz.func49, Tryz.ntmps49
  go_wp2_with (go_at_call 74; refine (H.out).mono ?_; rintro e w' ⟨rfl, hb1⟩)
  go_ret
  exact ⟨rfl, ((Below.refl _ _).alloc (Nat.le_refl _) _).trans (hb1.mono (by simp))⟩

end Go.Proofs.YtjjbbnodmpemiaaGreatDoor
