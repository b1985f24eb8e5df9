/- Parts, joined: Keys in order; a list of members has one order. Plain. No condition. sort.Slice of members by their keys, as value.Object calls it. Condition: fewer than 2^62 of them. value.Object: members in order, each once, or ErrKey. Condition: a bulk of at most 10^8. -/
import Derived.Test.YtjjbbnodmpemiaaGreatDoorProg
import Derived.Lib.Strings
import Derived.Test.YtjjbbnodmpemiaaGreatDoorShelf
import Derived.Shelf.SlSortFuncK.WholeK
import Derived.Shelf.GgSortFunc.Tiny
import Derived.Deep.QuietTactic
import Derived.BigQuiet
import Derived.Test.YtjjbbnodmpemiaaGreatDoorKPull20
import Derived.Test.YtjjbbnodmpemiaaGreatDoorKPull23
import Derived.Test.YtjjbbnodmpemiaaGreatDoorKPull24
import Derived.Test.YtjjbbnodmpemiaaGreatDoorKPull26
/- Keys in order; a list of members has one order. Plain. No condition. -/
namespace Go.Proofs.YtjjbbnodmpemiaaGreatDoor
open Go.RowKit

theorem bl_irrefl : ∀ x : List UInt8, Op.bytesLess x x = false
  | [] => rfl
  | a :: x => by simp [Op.bytesLess, bl_irrefl x, UInt8.lt_irrefl]
theorem bl_trans : ∀ {x y z : List UInt8}, Op.bytesLess x y = true → Op.bytesLess y z = true → Op.bytesLess x z = true
  | _, [], _, h, _ => by cases ‹List UInt8› <;> simp [Op.bytesLess] at h
  | _, _ :: _, [], _, h => by simp [Op.bytesLess] at h
  | [], _ :: _, _ :: _, _, _ => rfl
  | a :: x, b :: y, c :: z, h, k => by
    simp only [Op.bytesLess, Bool.or_eq_true, Bool.and_eq_true, decide_eq_true_eq, beq_iff_eq] at h k ⊢
    rcases h with h | ⟨rfl, h⟩ <;> rcases k with k | ⟨rfl, k⟩
    · exact .inl (UInt8.lt_trans h k)
    · exact .inl h
    · exact .inl k
    · exact .inr ⟨rfl, bl_trans h k⟩
theorem bl_tri : ∀ (x y : List UInt8), Op.bytesLess x y = true ∨ x = y ∨ Op.bytesLess y x = true
  | [], [] => .inr (.inl rfl)
  | [], _ :: _ => .inl rfl
  | _ :: _, [] => .inr (.inr rfl)
  | a :: x, b :: y => by
    simp only [Op.bytesLess, Bool.or_eq_true, Bool.and_eq_true, decide_eq_true_eq, beq_iff_eq]
    rcases Nat.lt_trichotomy a.toNat b.toNat with h | h | h
    · exact .inl (.inl (UInt8.lt_iff_toNat_lt.2 h))
    · have hab : a = b := UInt8.toNat_inj.1 h
      subst hab
      rcases bl_tri x y with h | h | h
      · exact .inl (.inr ⟨rfl, h⟩)
      · exact .inr (.inl (by rw [h]))
      · exact .inr (.inr (.inr ⟨rfl, h⟩))
    · exact .inr (.inr (.inl (UInt8.lt_iff_toNat_lt.2 h)))
theorem toList_inj {a b : ByteArray} (h : a.toList = b.toList) : a = b := by
  rw [Lib.toList_data, Lib.toList_data] at h
  exact ByteArray.ext (Array.ext' h)
theorem ltB_irrefl (a : ByteArray) : ltB a a = false := bl_irrefl _
theorem ltB_trans {a b c : ByteArray} (h : ltB a b = true) (k : ltB b c = true) : ltB a c = true := bl_trans h k
theorem ltB_tri (a b : ByteArray) : ltB a b = true ∨ a = b ∨ ltB b a = true := by
  rcases bl_tri a.toList b.toList with h | h | h
  · exact .inl h
  · exact .inr (.inl (toList_inj h))
  · exact .inr (.inr h)
theorem ltB_asym {a b : ByteArray} (h : ltB a b = true) : ltB b a = false := by
  cases e : ltB b a with
  | false => rfl
  | true => have := ltB_trans h e; rw [ltB_irrefl] at this; cases this

/-- Members by rising keys, each once. -/
def ascO (l : List (ByteArray × Val)) : Prop := l.Pairwise fun a b => ltB a.1 b.1 = true

theorem atO_split (k : ByteArray) : ∀ {acc : List (ByteArray × Val)}, ascO acc → hitO k acc = false → (∀ p ∈ acc.take (atO k acc), ltB p.1 k = true) ∧ (∀ p ∈ acc.drop (atO k acc), ltB k p.1 = true)
  | [], _, _ => by simp
  | q :: r, ha, hh => by
    obtain ⟨h1, h2⟩ := List.pairwise_cons.1 ha
    by_cases hq : ltB q.1 k = true
    · have hh' : hitO k r = false := by
        unfold hitO at hh ⊢
        simpa only [atO, if_pos hq, List.getElem?_cons_succ] using hh
      obtain ⟨a, b⟩ := atO_split k h2 hh'
      simp only [atO, if_pos hq, List.take_succ_cons, List.drop_succ_cons]
      refine ⟨fun p hp => ?_, b⟩
      rcases List.mem_cons.1 hp with rfl | hp
      · exact hq
      · exact a p hp
    · simp only [atO, if_neg hq, List.take_zero, List.drop_zero]
      refine ⟨fun p hp => (by cases hp), ?_⟩
      have hne : q.1 ≠ k := by
        intro e
        unfold hitO at hh
        simp only [atO, if_neg hq, List.getElem?_cons_zero, Option.any_some] at hh
        rw [e] at hh
        simp at hh
      have hkq : ltB k q.1 = true := by
        rcases ltB_tri q.1 k with h | h | h
        · exact absurd h hq
        · exact absurd h hne
        · exact h
      intro p hp
      rcases List.mem_cons.1 hp with rfl | hp
      · exact hkq
      · exact ltB_trans hkq (h1 p hp)
theorem putO_asc {m : ByteArray × Val} {acc : List (ByteArray × Val)} (ha : ascO acc) (hh : hitO m.1 acc = false) : ascO (putO m acc) := by
  obtain ⟨h1, h2⟩ := atO_split m.1 ha hh
  have h3 : ascO (acc.take (atO m.1 acc) ++ acc.drop (atO m.1 acc)) := by rw [List.take_append_drop]; exact ha
  obtain ⟨h4, h5, h6⟩ := List.pairwise_append.1 h3
  refine List.pairwise_append.2 ⟨h4, List.pairwise_cons.2 ⟨h2, h5⟩, fun a ha b hb => ?_⟩
  rcases List.mem_cons.1 hb with rfl | hb
  · exact h1 a ha
  · exact h6 a ha b hb
theorem putO_perm (m : ByteArray × Val) (acc : List (ByteArray × Val)) : (putO m acc).Perm (m :: acc) := by
  have h : (acc.take (atO m.1 acc) ++ ([m] ++ acc.drop (atO m.1 acc))).Perm ([m] ++ (acc.take (atO m.1 acc) ++ acc.drop (atO m.1 acc))) := by
    rw [← List.append_assoc, ← List.append_assoc]
    exact List.Perm.append_right _ List.perm_append_comm
  rw [List.take_append_drop] at h
  exact h
theorem hitO_mem {k : ByteArray} {acc : List (ByteArray × Val)} (h : hitO k acc = true) : ∃ v, (k, v) ∈ acc := by
  unfold hitO at h
  cases e : acc[atO k acc]? with
  | none => rw [e] at h; cases h
  | some p =>
    rw [e] at h
    have hk : p.1 = k := toList_inj (by simpa using h)
    exact ⟨p.2, by rw [← hk]; exact List.mem_of_getElem? e⟩
theorem objAll_some : ∀ {l acc o : List (ByteArray × Val)}, objAll l acc = some o → ascO acc → ascO o ∧ o.Perm (l ++ acc)
  | [], acc, o, h, ha => by
    simp only [objAll, Option.some.injEq] at h
    subst h
    exact ⟨ha, List.Perm.refl _⟩
  | m :: r, acc, o, h, ha => by
    simp only [objAll] at h
    by_cases hh : hitO m.1 acc = true
    · rw [if_pos hh] at h; cases h
    · rw [if_neg hh] at h
      obtain ⟨h1, h2⟩ := objAll_some h (putO_asc ha (by simpa using hh))
      exact ⟨h1, h2.trans ((List.Perm.append_left r (putO_perm m acc)).trans List.perm_middle)⟩
theorem asc_keys {l : List (ByteArray × Val)} (h : ascO l) : (l.map (·.1)).Nodup := by
  rw [List.Nodup, List.pairwise_map]
  exact h.imp fun hab e => by rw [e, ltB_irrefl] at hab; cases hab
theorem objAll_none : ∀ {l acc : List (ByteArray × Val)}, objAll l acc = none → ¬((l ++ acc).map (·.1)).Nodup
  | [], acc, h => by simp [objAll] at h
  | m :: r, acc, h => by
    simp only [objAll] at h
    by_cases hh : hitO m.1 acc = true
    · obtain ⟨v, hv⟩ := hitO_mem hh
      intro hn
      rw [List.cons_append, List.map_cons, List.nodup_cons] at hn
      exact hn.1 (List.mem_map.2 ⟨(m.1, v), List.mem_append.2 (.inr hv), rfl⟩)
    · rw [if_neg hh] at h
      intro hn
      refine objAll_none h ?_
      have hp : ((r ++ putO m acc).map (·.1)).Perm ((m :: r ++ acc).map (·.1)) := ((List.Perm.append_left r (putO_perm m acc)).trans List.perm_middle).map _
      exact hp.nodup_iff.2 hn
theorem asc_unique : ∀ {a b : List (ByteArray × Val)}, ascO a → ascO b → a.Perm b → a = b
  | [], b, _, _, h => (List.Perm.nil_eq h)
  | x :: a, [], _, _, h => by have := h.length_eq; simp at this
  | x :: a, y :: b, ha, hb, h => by
    obtain ⟨h1, h2⟩ := List.pairwise_cons.1 ha
    obtain ⟨h3, h4⟩ := List.pairwise_cons.1 hb
    have hxy : x = y := by
      rcases List.mem_cons.1 (h.mem_iff.1 (List.mem_cons_self (a := x))) with e | hx
      · exact e
      · rcases List.mem_cons.1 (h.mem_iff.2 (List.mem_cons_self (a := y))) with e | hy
        · exact e.symm
        · have p := h3 x hx
          have q := h1 y hy
          rw [ltB_asym p] at q
          cases q
    subst hxy
    rw [asc_unique h2 h4 (List.perm_cons _ |>.1 h)]
/-- What a sorted row of these members, without a key twice, must be. -/
theorem objAll_sorted {l d : List (ByteArray × Val)} (hp : d.Perm l) (ha : ascO d) : objAll l [] = some d := by
  cases e : objAll l [] with
  | none =>
    exfalso
    refine objAll_none e ?_
    rw [List.append_nil]
    exact (hp.map (·.1)).nodup_iff.1 (asc_keys ha)
  | some o =>
    obtain ⟨h1, h2⟩ := objAll_some e List.Pairwise.nil
    rw [List.append_nil] at h2
    rw [asc_unique ha h1 (hp.trans h2.symm)]
theorem objAll_twice {l d : List (ByteArray × Val)} (hp : d.Perm l) (ht : ¬(d.map (·.1)).Nodup) : objAll l [] = none := by
  cases e : objAll l [] with
  | none => rfl
  | some o =>
    obtain ⟨h1, h2⟩ := objAll_some e List.Pairwise.nil
    rw [List.append_nil] at h2
    exact absurd ((hp.trans h2.symm).map (·.1) |>.nodup_iff.2 (asc_keys h1)) ht
end Go.Proofs.YtjjbbnodmpemiaaGreatDoor

/- sort.Slice of members by their keys, as value.Object calls it. Condition: fewer than 2^62 of them. -/
namespace Go.Proofs.YtjjbbnodmpemiaaGreatDoor
open Go.RowKit

/-- A member and where its slices lie. -/
abbrev Mx : Type := ByteArray × (Val × ((Option Addr × Nat) × (Option Addr × Nat)))
instance : Inhabited Val := ⟨.mk 0 false 0 ⟨#[]⟩ [] []⟩
def encM : Mx → List Value
  | (key, (.mk k b n t l o, ((la, lc), (oa, oc)))) => [.string key, .int .i64 k, .bool b, .int .i64 n, .string t, .slice la l.length lc, .slice oa o.length oc]
def memM (x : Mx) : ByteArray × Val := (x.1, x.2.1)
theorem encM_len (x : Mx) : (encM x).length = 7 := by
  obtain ⟨key, ⟨k, b, n, t, l, o⟩, ⟨la, lc⟩, oa, oc⟩ := x
  rfl
theorem encM_one (x : Mx) : ∀ v ∈ encM x, v.oneCell' = true := by
  obtain ⟨key, ⟨k, b, n, t, l, o⟩, ⟨la, lc⟩, oa, oc⟩ := x
  intro v hv
  simp only [encM, List.mem_cons, List.not_mem_nil, or_false] at hv
  rcases hv with rfl | rfl | rfl | rfl | rfl | rfl | rfl <;> rfl
theorem encM_key (x : Mx) : (encM x)[0]! = .string x.1 := by
  obtain ⟨key, ⟨k, b, n, t, l, o⟩, ⟨la, lc⟩, oa, oc⟩ := x
  rfl
def ltM (x y : Mx) : Bool := ltB x.1 y.1
theorem swoM : Go.Sort.SWO ltM where
  irrefl x := ltB_irrefl _
  trans x y z h k := ltB_trans h k
  ntrans x y z h k := by
    unfold ltM at *
    cases e : ltB x.1 z.1 with
    | false => rfl
    | true =>
      rcases ltB_tri x.1 y.1 with p | p | p
      · rw [h] at p; cases p
      · rw [p] at e; rw [k] at e; cases e
      · have := ltB_trans p e; rw [k] at this; cases this

/-- The call's own closure. -/
theorem lessM (blk off c Bs size : Nat) (W : World) (G : Nat → ByteArray) (hs : W.cell? ⟨Bs, 0, none⟩ = some (.slice (some ⟨blk, off, none⟩) size c))
    (hc : ∀ t, t < size → W.cell? ⟨blk, off + t * 7, none⟩ = some (.string (G t))) (i j : Nat) (hi : i < size) (hj : j < size) (_hsz : size < 4611686018427387904) :
    Calls Tryz.prog 59 #[.int .i64 i, .int .i64 j, .pointer (some ⟨Bs, 0, none⟩)] W fun e w' => e = .returned (.bool (ltB (G i) (G j))) ∧ ∃ q, w' = W.drewN q := by
  have ci := hc i hi
  have cj := hc j hj
  clear hc
  have i1 : (i : Int) < (size : Int) := by omega
  have j1 : (j : Int) < (size : Int) := by omega
  go_enter Tryz.func59, Tryz.ntmps59
  go_wp2
  go_quiet (fail)
  go_wp2
  go_ret
  exact ⟨rfl, nq, rfl⟩

noncomputable def sortT : TypeInfo := (Tryz.prog.info? 43).get (by kernel_rfl)
noncomputable def sortE : TypeInfo := (Tryz.prog.info? 60).get (by kernel_rfl)
theorem sortK (n : Nat) (h2 : 2 ≤ n) : Lib.swapperK n sortE 25 = 9 := by
  have a : sortE.hasPointers = true := by kernel_rfl
  have b : sortE.bytes = 104 := by kernel_rfl
  have c : (n == 0) = false := by simp; omega
  have d : (n == 1) = false := by simp; omega
  simp [Lib.swapperK, a, b, c, d]

/-- What the sort leaves. -/
def SortPost (w : World) (blk : Nat) (d : Array Mx) (e : Ending) (w' : World) : Prop := e = .returned (.tuple #[]) ∧ ∃ d' : Array Mx, d'.size = d.size ∧ d'.toList.Perm d.toList ∧ Go.Sort.SortedIn ltM 0 d.size d' ∧
  (∀ i, i < d.size → ∀ j, j < 7 → w'.cell? ⟨blk, i * 7 + j, none⟩ = some (encM d'[i]!)[j]!) ∧ (∀ b, b < w.heap.size → b ≠ blk → w'.heap[b]? = w.heap[b]?) ∧ w.heap.size ≤ w'.heap.size ∧ w'.os = w.os ∧ w'.tape = w.tape ∧ w'.output = w.output

theorem sortM_many (blk c Bs : Nat) (d : Array Mx) (h2 : 2 ≤ d.size) (hsz : d.size < 4611686018427387904) (w : World) (hH : Go.Sort.HoldsK encM 7 w blk 0 d) (hblk : blk < w.heap.size)
    (hBs : w.cell? ⟨Bs, 0, none⟩ = some (.slice (some ⟨blk, 0, none⟩) d.size c)) (hB1 : Bs < w.heap.size) (hB2 : Bs ≠ blk) :
    Calls Tryz.prog 58 #[.iface 43 (.slice (some ⟨blk, 0, none⟩) d.size c), .func (.func 59) #[] #[.pointer (some ⟨Bs, 0, none⟩)]] w (SortPost w blk d) := by
  have hless : LessReadsK Tryz.prog 59 #[.pointer (some ⟨Bs, 0, none⟩)] encM 7 ltM blk 0 d.size w := by
    intro m os dk hs i j hi hj
    have e : sortWorldK encM 7 w blk 0 m dk os = Go.Sort.putRowK encM 7 (Go.Sort.grow (Go.Sort.ahead w m) os) blk 0 dk := by
      unfold sortWorldK; rw [Go.Sort.putRowK_grow _ _ (Go.Sort.ahead w m) _ blk 0 _ hblk]
    have hHg : Go.Sort.HoldsK encM 7 (Go.Sort.grow (Go.Sort.ahead w m) os) blk 0 d := Go.Sort.holdsK_grow _ _ _ _ blk 0 d hblk (Go.Sort.holdsK_ahead _ _ _ _ _ _ _ hH)
    refine lessM blk 0 c Bs d.size _ (fun t => dk[t]!.1) ?_ (fun t ht => ?_) i j hi hj (by omega)
    · rw [e, Go.Sort.cell?_putRowK_other _ _ _ blk 0 dk _ (by exact hB2), Go.Sort.cell?_grow _ _ _ (by exact hB1)]; exact hBs
    · rw [e, ← encM_key]; exact ((Go.Sort.holdsK_putRowK _ _ _ blk 0 d dk hHg hs).cell (i := t) (c := 0) (by omega) (by omega)).1
  have hS := Any.sort_Slice_cells_sorted Tryz.sortSlice_lays 43 60 sortT sortE (by kernel_rfl) (by kernel_rfl) (by kernel_rfl) (by kernel_rfl) 25 (fun _ => by kernel_rfl) encM 7 encM_len (by kernel_rfl) (fun _ => by kernel_rfl)
    encM_one ltM swoM 59 _
    (enters_of Tryz.func59 (by kernel_rfl) rfl) blk 0 c d h2 hsz 109 (by rw [sortK _ h2]; kernel_rfl) false
    (fun args W => run_callFunc_extern Tryz.func109 (by kernel_rfl) (by kernel_rfl) (by kernel_rfl) (e := Extern.ReflectliteSwapper.swap false) (by kernel_rfl) args W) w hless hH hblk
  change Calls Tryz.prog 58 _ _ _ at hS
  refine hS.mono ?_
  rintro e w' ⟨rfl, d', n, os, ⟨hs', _, hp⟩, hso, rfl⟩
  have hp' : d'.toList.Perm d.toList := by
    have e1 : d'.extract 0 d.size = d' := by rw [← hs']; simp
    have e2 : d.extract 0 d.size = d := by simp
    rwa [e1, e2] at hp
  have hH2 : Go.Sort.HoldsK encM 7 (Go.Sort.putRowK encM 7 (Go.Sort.ahead w n) blk 0 d') blk 0 d' := Go.Sort.holdsK_putRowK _ _ _ blk 0 d d' (Go.Sort.holdsK_ahead _ _ _ _ _ _ _ hH) hs'
  have hsize : (Go.Sort.putRowK encM 7 (Go.Sort.ahead w n) blk 0 d').heap.size = w.heap.size := by
    simp [Go.Sort.putRowK, Go.Sort.putRow, Go.Sort.mapBlock, Go.Sort.ahead]
  refine ⟨rfl, d', hs', hp', hso, fun i hi j hj => ?_, fun b hb hne => ?_, by rw [Go.Sort.size_grow, hsize]; omega, rfl, rfl, rfl⟩
  · rw [Go.Sort.cell?_grow _ _ _ (by show blk < _; rw [hsize]; exact hblk)]
    have := (hH2.cell (i := i) (c := j) (by omega) hj).1
    rwa [Nat.zero_add] at this
  · show ((Go.Sort.putRowK encM 7 (Go.Sort.ahead w n) blk 0 d').heap ++ os)[b]? = _
    rw [Array.getElem?_append_left (by rw [hsize]; exact hb)]
    simp only [Go.Sort.putRowK, Go.Sort.putRow, Go.Sort.mapBlock, Go.Sort.ahead, Array.getElem?_modify]
    rw [if_neg (fun e => hne e.symm)]
theorem sortM_few (p : Option Addr) (n c Bs : Nat) (h1 : n ≤ 1) (w : World) :
    Calls Tryz.prog 58 #[.iface 43 (.slice p n c), .func (.func 59) #[] #[.pointer (some ⟨Bs, 0, none⟩)]] w fun e w' => e = .returned (.tuple #[]) ∧ Below w.heap.size w w' := by
  have key : ∀ f, Tryz.prog.funcs.findIdx? (·.name == "internal/reflectlite" ++ ".Swapper$" ++ toString (Lib.swapperK n sortE 25)) = some f →
      Calls Tryz.prog 58 #[.iface 43 (.slice p n c), .func (.func 59) #[] #[.pointer (some ⟨Bs, 0, none⟩)]] w fun e w' => e = .returned (.tuple #[]) ∧ Below w.heap.size w w' := by
    intro f hf
    have hS := Any.sort_Slice_tiny Tryz.sortSlice_lays 43 60 sortT sortE (by kernel_rfl) (by kernel_rfl) (by kernel_rfl) (by kernel_rfl) 25 (fun _ => by kernel_rfl) p n c h1 f hf (.func 59) #[] #[.pointer (some ⟨Bs, 0, none⟩)] w
    change Calls Tryz.prog 58 _ _ _ at hS
    refine hS.mono ?_
    rintro e w' ⟨rfl, os, rfl⟩
    refine ⟨rfl, ⟨rfl, rfl, rfl, by rw [Go.Sort.size_grow]; omega, fun i hi => ?_⟩⟩
    show (w.heap ++ os)[i]? = _
    exact Array.getElem?_append_left hi
  rcases Nat.eq_zero_or_pos n with rfl | h0
  · exact key 101 (by kernel_rfl)
  · obtain rfl : n = 1 := by omega
    exact key 102 (by kernel_rfl)
end Go.Proofs.YtjjbbnodmpemiaaGreatDoor

/- value.Object: members in order, each once, or ErrKey. Condition: a bulk of at most 10^8. -/
namespace Go.Proofs.YtjjbbnodmpemiaaGreatDoor
open Go.RowKit

theorem toMx {w : World} {B : Nat} : ∀ {o : List (ByteArray × Val)} {ns : List Value}, HoldsA w B (dO o) ns → ∃ d : List Mx, d.map memM = o ∧ ns = d.flatMap encM ∧ ∀ x ∈ d, Holds w B (dP (memM x)) (encM x)
  | [], ns, h => by
    have : ns = [] := h
    subst this
    exact ⟨[], rfl, rfl, fun x hx => by cases hx⟩
  | (key, v) :: r, ns, h => by
    obtain ⟨c1, c2, rfl, h1, h2⟩ := h
    obtain ⟨d, e1, e2, e3⟩ := toMx h2
    have h1' := h1
    obtain ⟨_, cv, rfl, ⟨rfl, _⟩, c3, c4, rfl, h3, rfl⟩ := h1
    obtain ⟨k, b, n, t, l, o⟩ := v
    have h4 := holdsV_of _ _ h3
    simp only [HoldsV] at h4
    obtain ⟨la, lc, oa, oc, rfl, _, _⟩ := h4
    refine ⟨(key, .mk k b n t l o, (la, lc), oa, oc) :: d, by simp [memM, e1], by rw [e2]; rfl, fun x hx => ?_⟩
    rcases List.mem_cons.1 hx with rfl | hx
    · simp only [List.append_nil, List.cons_append, List.nil_append] at h1'
      exact h1'
    · exact e3 x hx
theorem ofMx {w : World} {B : Nat} : ∀ {d : List Mx}, (∀ x ∈ d, Holds w B (dP (memM x)) (encM x)) → HoldsA w B (dO (d.map memM)) (d.flatMap encM)
  | [], _ => rfl
  | x :: d, h => ⟨encM x, d.flatMap encM, rfl, h x (by simp), ofMx fun y hy => h y (by simp [hy])⟩
theorem flat_get : ∀ (d : List Mx) (i j : Nat), i < d.length → j < 7 → (d.flatMap encM)[i * 7 + j]? = some (encM d[i]!)[j]!
  | [], i, j, hi, _ => by simp at hi
  | x :: d, 0, j, _, hj => by
    have hl := encM_len x
    rw [List.flatMap_cons, List.getElem?_append_left (by omega), Nat.zero_mul, Nat.zero_add, List.getElem?_eq_getElem (by omega)]
    simp [hl, hj]
  | x :: d, i + 1, j, hi, hj => by
    have hl := encM_len x
    rw [List.flatMap_cons, List.getElem?_append_right (by omega), hl, show (i + 1) * 7 + j - 7 = i * 7 + j from by omega, flat_get d i j (by simpa using hi) hj]
    simp
theorem flat_len (d : List Mx) : (d.flatMap encM).length = d.length * 7 := by
  induction d with
  | nil => rfl
  | cons x d ih => rw [List.flatMap_cons, List.length_append, encM_len, ih, List.length_cons]; omega
theorem flat_cells {w : World} {g : Nat} {d : List Mx} (h : ∀ i, i < d.length → ∀ j, j < 7 → w.cell? ⟨g, i * 7 + j, none⟩ = some (encM d[i]!)[j]!) : ∀ (t : Nat) (u : Value), (d.flatMap encM)[t]? = some u → w.cell? ⟨g, t, none⟩ = some u := by
  intro t u hu
  have ht := (List.getElem?_eq_some_iff.1 hu).1
  rw [flat_len] at ht
  have e : t = t / 7 * 7 + t % 7 := by omega
  rw [e] at hu ⊢
  rw [flat_get d _ _ (by omega) (by omega)] at hu
  rw [h _ (by omega) _ (by omega)]
  exact hu
theorem own_form {w : World} {B m s : Nat} {t : TypeId} {v : Value} {ns : List Value} (h : w.ownsRow B t s v m ns) :
    ∃ a c, v = .slice a m c ∧ ((m = 0 ∧ a = none ∧ c = 0) ∨ ∃ g, a = some ⟨g, 0, none⟩ ∧ B ≤ g ∧ g < w.heap.size ∧ m ≤ c ∧ (∀ (j : Nat) (u : Value), ns[j]? = some u → w.cell? ⟨g, j, none⟩ = some u) ∧ ∀ j, w.frozen? ⟨g, j, none⟩ = false) := by
  rcases h.2 with ⟨rfl, hz⟩ | ⟨g, cap, cur, rfl, hbg, hg, hmc, _, _, _⟩
  · subst hz
    exact ⟨none, 0, rfl, .inl ⟨rfl, rfl, rfl⟩⟩
  · refine ⟨_, cap, rfl, .inr ⟨g, rfl, hbg, (Array.getElem?_eq_some_iff.1 hg).1, hmc, fun j u hu => ?_, fun j => by simp [World.frozen?, hg]⟩⟩
    have := h.cells (g := g) rfl j u hu
    rwa [add_plain', Nat.zero_add] at this

/-- The sort, whatever the length. -/
def SDone (W : World) (a : Option Addr) (d : List Mx) (e : Ending) (w' : World) : Prop := e = .returned (.tuple #[]) ∧ ∃ d' : List Mx, d'.length = d.length ∧ d'.Perm d ∧ (∀ i j, i < j → j < d.length → ltM d'[j]! d'[i]! = false) ∧
  (d.length = 0 ∨ ∃ g, a = some ⟨g, 0, none⟩ ∧ g < w'.heap.size ∧ ∀ i, i < d.length → ∀ j, j < 7 → w'.cell? ⟨g, i * 7 + j, none⟩ = some (encM d'[i]!)[j]!) ∧
  (∀ b, b < W.heap.size → (∀ g, a = some ⟨g, 0, none⟩ → b ≠ g) → w'.heap[b]? = W.heap[b]?) ∧ W.heap.size ≤ w'.heap.size ∧ w'.os = W.os ∧ w'.tape = W.tape ∧ w'.output = W.output
theorem sortM_any (a : Option Addr) (c Bs : Nat) (d : List Mx) (hsz : d.length < 4611686018427387904) (W : World)
    (h : (d.length = 0 ∧ a = none) ∨ ∃ g, a = some ⟨g, 0, none⟩ ∧ g < W.heap.size ∧ Bs ≠ g ∧ (∀ i, i < d.length → ∀ j, j < 7 → W.cell? ⟨g, i * 7 + j, none⟩ = some (encM d[i]!)[j]!) ∧ ∀ j, W.frozen? ⟨g, j, none⟩ = false)
    (hBs : W.cell? ⟨Bs, 0, none⟩ = some (.slice a d.length c)) (hB1 : Bs < W.heap.size) :
    Calls Tryz.prog 58 #[.iface 43 (.slice a d.length c), .func (.func 59) #[] #[.pointer (some ⟨Bs, 0, none⟩)]] W (SDone W a d) := by
  by_cases h2 : 2 ≤ d.length
  · rcases h with ⟨h, _⟩ | ⟨g, rfl, hg, hne, hc, hf⟩
    · omega
    · have hH : Go.Sort.HoldsK encM 7 W g 0 d.toArray := by
        intro j hj
        rw [Go.Sort.size_flatK, List.size_toArray] at hj
        rw [Go.Sort.get_flatK _ _ _ _ (by simpa using hj), Nat.zero_add]
        refine ⟨?_, hf _⟩
        have := hc (j / 7) (by omega) (j % 7) (by omega)
        rw [show j / 7 * 7 + j % 7 = j from by omega] at this
        rw [this]
        simp
      have hS := sortM_many g c Bs d.toArray (by simpa using h2) (by simpa using hsz) W hH hg (by simpa using hBs) hB1 hne
      simp only [List.size_toArray] at hS
      refine hS.mono ?_
      rintro e w' ⟨rfl, d', s1, s2, s3, s4, s5, s6, s7⟩
      simp only [List.size_toArray] at s1 s3 s4
      refine ⟨rfl, d'.toList, by simpa using s1, by simpa using s2, fun i j h1 h2 => ?_, .inr ⟨g, rfl, by omega, fun i hi j hj => ?_⟩, fun b hb hne => s5 b hb (hne g rfl), s6, s7⟩
      · simp only [Array.getElem!_toList]
        exact s3 i j (Nat.zero_le _) h1 h2
      · simp only [Array.getElem!_toList]
        exact s4 i hi j hj
  · refine (sortM_few a d.length c Bs (by omega) W).mono ?_
    rintro e w' ⟨rfl, hb⟩
    refine ⟨rfl, d, rfl, List.Perm.refl _, fun i j h1 h3 => by omega, ?_, fun b hb1 _ => hb.block b hb1, hb.size, hb.os, hb.tape, hb.output⟩
    rcases h with ⟨h, _⟩ | ⟨g, ea, hg, hne, hc, hf⟩
    · exact .inl h
    · exact .inr ⟨g, ea, by have := hb.size; omega, fun i hi j hj => (hb.cell (p := ⟨g, i * 7 + j, none⟩) hg).trans (hc i hi j hj)⟩

theorem asc_of {d : List Mx} (hs : ∀ i j, i < j → j < d.length → ltM d[j]! d[i]! = false) (hn : ∀ t, 1 ≤ t → t < d.length → (d[t]!).1 ≠ (d[t - 1]!).1) : ascO (d.map memM) := by
  have hadj : ∀ t, t + 1 < d.length → ltM d[t]! d[t + 1]! = true := by
    intro t ht
    have h1 := hs t (t + 1) (by omega) ht
    have h2 := hn (t + 1) (by omega) ht
    rcases ltB_tri (d[t]!).1 (d[t + 1]!).1 with p | p | p
    · exact p
    · exact absurd p.symm h2
    · unfold ltM at h1; rw [h1] at p; cases p
  have hlt : ∀ k i, i + k + 1 < d.length → ltM d[i]! d[i + k + 1]! = true := by
    intro k
    induction k with
    | zero => intro i hi; exact hadj i hi
    | succ k ih => intro i hi; exact ltB_trans (ih i (by omega)) (hadj (i + k + 1) (by omega))
  unfold ascO
  rw [List.pairwise_map, List.pairwise_iff_getElem]
  intro i j hi hj hij
  have := hlt (j - i - 1) i (by omega)
  rw [show i + (j - i - 1) + 1 = j from by omega] at this
  simpa [ltM, memM, hi, hj] using this
end Go.Proofs.YtjjbbnodmpemiaaGreatDoor
