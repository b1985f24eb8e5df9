/- Parts, joined: Keys in order; a list of members has one order. Plain. No condition. sort.Slice of members by their keys, as value.Object calls it. Condition: fewer than 2^62 of them. slices.Clone of members. Condition: at most 10^8 of them. Rows that a call makes and fills, of data of any make. Plain. No condition. value.Copy: all of a value, in new memory. Condition: a bulk of at most 10^8. -/
import Derived.Test.YtjjbbnodmpemiaaGreatDoorProg
import Derived.Lib.Strings
import Derived.Test.YtjjbbnodmpemiaaGreatDoorShelf
import Derived.Shelf.SlSortFuncK.WholeK
import Derived.Shelf.GgSortFunc.Tiny
import Derived.Deep.QuietTactic
import Derived.BigQuiet
import Derived.WalkSpells
import Derived.Lib.Hide
import Derived.Deep.RegionHeld3
import Derived.Deep.DeepCutAuto
import Derived.Laws.MakeOwn
import Derived.Test.YtjjbbnodmpemiaaGreatDoorKPull3
/- Keys in order; a list of members has one order. Plain. No condition. -/
namespace Go.Proofs.YtjjbbnodmpemiaaGreatDoor
open Go.RowKit

theorem bl_irrefl : ∀ x : List UInt8, Op.bytesLess x x = false
  | [] => rfl
  | a :: x => by simp [Op.bytesLess, bl_irrefl x, UInt8.lt_irrefl]
theorem bl_trans : ∀ {x y z : List UInt8}, Op.bytesLess x y = true → Op.bytesLess y z = true → Op.bytesLess x z = true
  | _, [], _, h, _ => by cases ‹List UInt8› <;> simp [Op.bytesLess] at h
  | _, _ :: _, [], _, h => by simp [Op.bytesLess] at h
  | [], _ :: _, _ :: _, _, _ => rfl
  | a :: x, b :: y, c :: z, h, k => by
    simp only [Op.bytesLess, Bool.or_eq_true, Bool.and_eq_true, decide_eq_true_eq, beq_iff_eq] at h k ⊢
    rcases h with h | ⟨rfl, h⟩ <;> rcases k with k | ⟨rfl, k⟩
    · exact .inl (UInt8.lt_trans h k)
    · exact .inl h
    · exact .inl k
    · exact .inr ⟨rfl, bl_trans h k⟩
theorem bl_tri : ∀ (x y : List UInt8), Op.bytesLess x y = true ∨ x = y ∨ Op.bytesLess y x = true
  | [], [] => .inr (.inl rfl)
  | [], _ :: _ => .inl rfl
  | _ :: _, [] => .inr (.inr rfl)
  | a :: x, b :: y => by
    simp only [Op.bytesLess, Bool.or_eq_true, Bool.and_eq_true, decide_eq_true_eq, beq_iff_eq]
    rcases Nat.lt_trichotomy a.toNat b.toNat with h | h | h
    · exact .inl (.inl (UInt8.lt_iff_toNat_lt.2 h))
    · have hab : a = b := UInt8.toNat_inj.1 h
      subst hab
      rcases bl_tri x y with h | h | h
      · exact .inl (.inr ⟨rfl, h⟩)
      · exact .inr (.inl (by rw [h]))
      · exact .inr (.inr (.inr ⟨rfl, h⟩))
    · exact .inr (.inr (.inl (UInt8.lt_iff_toNat_lt.2 h)))
theorem toList_inj {a b : ByteArray} (h : a.toList = b.toList) : a = b := by
  rw [Lib.toList_data, Lib.toList_data] at h
  exact ByteArray.ext (Array.ext' h)
theorem ltB_irrefl (a : ByteArray) : ltB a a = false := bl_irrefl _
theorem ltB_trans {a b c : ByteArray} (h : ltB a b = true) (k : ltB b c = true) : ltB a c = true := bl_trans h k
theorem ltB_tri (a b : ByteArray) : ltB a b = true ∨ a = b ∨ ltB b a = true := by
  rcases bl_tri a.toList b.toList with h | h | h
  · exact .inl h
  · exact .inr (.inl (toList_inj h))
  · exact .inr (.inr h)
theorem ltB_asym {a b : ByteArray} (h : ltB a b = true) : ltB b a = false := by
  cases e : ltB b a with
  | false => rfl
  | true => have := ltB_trans h e; rw [ltB_irrefl] at this; cases this

/-- Members by rising keys, each once. -/
def ascO (l : List (ByteArray × Val)) : Prop := l.Pairwise fun a b => ltB a.1 b.1 = true

theorem atO_split (k : ByteArray) : ∀ {acc : List (ByteArray × Val)}, ascO acc → hitO k acc = false → (∀ p ∈ acc.take (atO k acc), ltB p.1 k = true) ∧ (∀ p ∈ acc.drop (atO k acc), ltB k p.1 = true)
  | [], _, _ => by simp
  | q :: r, ha, hh => by
    obtain ⟨h1, h2⟩ := List.pairwise_cons.1 ha
    by_cases hq : ltB q.1 k = true
    · have hh' : hitO k r = false := by
        unfold hitO at hh ⊢
        simpa only [atO, if_pos hq, List.getElem?_cons_succ] using hh
      obtain ⟨a, b⟩ := atO_split k h2 hh'
      simp only [atO, if_pos hq, List.take_succ_cons, List.drop_succ_cons]
      refine ⟨fun p hp => ?_, b⟩
      rcases List.mem_cons.1 hp with rfl | hp
      · exact hq
      · exact a p hp
    · simp only [atO, if_neg hq, List.take_zero, List.drop_zero]
      refine ⟨fun p hp => (by cases hp), ?_⟩
      have hne : q.1 ≠ k := by
        intro e
        unfold hitO at hh
        simp only [atO, if_neg hq, List.getElem?_cons_zero, Option.any_some] at hh
        rw [e] at hh
        simp at hh
      have hkq : ltB k q.1 = true := by
        rcases ltB_tri q.1 k with h | h | h
        · exact absurd h hq
        · exact absurd h hne
        · exact h
      intro p hp
      rcases List.mem_cons.1 hp with rfl | hp
      · exact hkq
      · exact ltB_trans hkq (h1 p hp)
theorem putO_asc {m : ByteArray × Val} {acc : List (ByteArray × Val)} (ha : ascO acc) (hh : hitO m.1 acc = false) : ascO (putO m acc) := by
  obtain ⟨h1, h2⟩ := atO_split m.1 ha hh
  have h3 : ascO (acc.take (atO m.1 acc) ++ acc.drop (atO m.1 acc)) := by rw [List.take_append_drop]; exact ha
  obtain ⟨h4, h5, h6⟩ := List.pairwise_append.1 h3
  refine List.pairwise_append.2 ⟨h4, List.pairwise_cons.2 ⟨h2, h5⟩, fun a ha b hb => ?_⟩
  rcases List.mem_cons.1 hb with rfl | hb
  · exact h1 a ha
  · exact h6 a ha b hb
theorem putO_perm (m : ByteArray × Val) (acc : List (ByteArray × Val)) : (putO m acc).Perm (m :: acc) := by
  have h : (acc.take (atO m.1 acc) ++ ([m] ++ acc.drop (atO m.1 acc))).Perm ([m] ++ (acc.take (atO m.1 acc) ++ acc.drop (atO m.1 acc))) := by
    rw [← List.append_assoc, ← List.append_assoc]
    exact List.Perm.append_right _ List.perm_append_comm
  rw [List.take_append_drop] at h
  exact h
theorem hitO_mem {k : ByteArray} {acc : List (ByteArray × Val)} (h : hitO k acc = true) : ∃ v, (k, v) ∈ acc := by
  unfold hitO at h
  cases e : acc[atO k acc]? with
  | none => rw [e] at h; cases h
  | some p =>
    rw [e] at h
    have hk : p.1 = k := toList_inj (by simpa using h)
    exact ⟨p.2, by rw [← hk]; exact List.mem_of_getElem? e⟩
theorem objAll_some : ∀ {l acc o : List (ByteArray × Val)}, objAll l acc = some o → ascO acc → ascO o ∧ o.Perm (l ++ acc)
  | [], acc, o, h, ha => by
    simp only [objAll, Option.some.injEq] at h
    subst h
    exact ⟨ha, List.Perm.refl _⟩
  | m :: r, acc, o, h, ha => by
    simp only [objAll] at h
    by_cases hh : hitO m.1 acc = true
    · rw [if_pos hh] at h; cases h
    · rw [if_neg hh] at h
      obtain ⟨h1, h2⟩ := objAll_some h (putO_asc ha (by simpa using hh))
      exact ⟨h1, h2.trans ((List.Perm.append_left r (putO_perm m acc)).trans List.perm_middle)⟩
theorem asc_keys {l : List (ByteArray × Val)} (h : ascO l) : (l.map (·.1)).Nodup := by
  rw [List.Nodup, List.pairwise_map]
  exact h.imp fun hab e => by rw [e, ltB_irrefl] at hab; cases hab
theorem objAll_none : ∀ {l acc : List (ByteArray × Val)}, objAll l acc = none → ¬((l ++ acc).map (·.1)).Nodup
  | [], acc, h => by simp [objAll] at h
  | m :: r, acc, h => by
    simp only [objAll] at h
    by_cases hh : hitO m.1 acc = true
    · obtain ⟨v, hv⟩ := hitO_mem hh
      intro hn
      rw [List.cons_append, List.map_cons, List.nodup_cons] at hn
      exact hn.1 (List.mem_map.2 ⟨(m.1, v), List.mem_append.2 (.inr hv), rfl⟩)
    · rw [if_neg hh] at h
      intro hn
      refine objAll_none h ?_
      have hp : ((r ++ putO m acc).map (·.1)).Perm ((m :: r ++ acc).map (·.1)) := ((List.Perm.append_left r (putO_perm m acc)).trans List.perm_middle).map _
      exact hp.nodup_iff.2 hn
theorem asc_unique : ∀ {a b : List (ByteArray × Val)}, ascO a → ascO b → a.Perm b → a = b
  | [], b, _, _, h => (List.Perm.nil_eq h)
  | x :: a, [], _, _, h => by have := h.length_eq; simp at this
  | x :: a, y :: b, ha, hb, h => by
    obtain ⟨h1, h2⟩ := List.pairwise_cons.1 ha
    obtain ⟨h3, h4⟩ := List.pairwise_cons.1 hb
    have hxy : x = y := by
      rcases List.mem_cons.1 (h.mem_iff.1 (List.mem_cons_self (a := x))) with e | hx
      · exact e
      · rcases List.mem_cons.1 (h.mem_iff.2 (List.mem_cons_self (a := y))) with e | hy
        · exact e.symm
        · have p := h3 x hx
          have q := h1 y hy
          rw [ltB_asym p] at q
          cases q
    subst hxy
    rw [asc_unique h2 h4 (List.perm_cons _ |>.1 h)]
/-- What a sorted row of these members, without a key twice, must be. -/
theorem objAll_sorted {l d : List (ByteArray × Val)} (hp : d.Perm l) (ha : ascO d) : objAll l [] = some d := by
  cases e : objAll l [] with
  | none =>
    exfalso
    refine objAll_none e ?_
    rw [List.append_nil]
    exact (hp.map (·.1)).nodup_iff.1 (asc_keys ha)
  | some o =>
    obtain ⟨h1, h2⟩ := objAll_some e List.Pairwise.nil
    rw [List.append_nil] at h2
    rw [asc_unique ha h1 (hp.trans h2.symm)]
theorem objAll_twice {l d : List (ByteArray × Val)} (hp : d.Perm l) (ht : ¬(d.map (·.1)).Nodup) : objAll l [] = none := by
  cases e : objAll l [] with
  | none => rfl
  | some o =>
    obtain ⟨h1, h2⟩ := objAll_some e List.Pairwise.nil
    rw [List.append_nil] at h2
    exact absurd ((hp.trans h2.symm).map (·.1) |>.nodup_iff.2 (asc_keys h1)) ht
end Go.Proofs.YtjjbbnodmpemiaaGreatDoor

/- sort.Slice of members by their keys, as value.Object calls it. Condition: fewer than 2^62 of them. -/
namespace Go.Proofs.YtjjbbnodmpemiaaGreatDoor
open Go.RowKit

/-- A member and where its slices lie. -/
abbrev Mx : Type := ByteArray × (Val × ((Option Addr × Nat) × (Option Addr × Nat)))
instance : Inhabited Val := ⟨.mk 0 false 0 ⟨#[]⟩ [] []⟩
def encM : Mx → List Value
  | (key, (.mk k b n t l o, ((la, lc), (oa, oc)))) => [.string key, .int .i64 k, .bool b, .int .i64 n, .string t, .slice la l.length lc, .slice oa o.length oc]
def memM (x : Mx) : ByteArray × Val := (x.1, x.2.1)
theorem encM_len (x : Mx) : (encM x).length = 7 := by
  obtain ⟨key, ⟨k, b, n, t, l, o⟩, ⟨la, lc⟩, oa, oc⟩ := x
  rfl
theorem encM_one (x : Mx) : ∀ v ∈ encM x, v.oneCell' = true := by
  obtain ⟨key, ⟨k, b, n, t, l, o⟩, ⟨la, lc⟩, oa, oc⟩ := x
  intro v hv
  simp only [encM, List.mem_cons, List.not_mem_nil, or_false] at hv
  rcases hv with rfl | rfl | rfl | rfl | rfl | rfl | rfl <;> rfl
theorem encM_key (x : Mx) : (encM x)[0]! = .string x.1 := by
  obtain ⟨key, ⟨k, b, n, t, l, o⟩, ⟨la, lc⟩, oa, oc⟩ := x
  rfl
def ltM (x y : Mx) : Bool := ltB x.1 y.1
theorem swoM : Go.Sort.SWO ltM where
  irrefl x := ltB_irrefl _
  trans x y z h k := ltB_trans h k
  ntrans x y z h k := by
    unfold ltM at *
    cases e : ltB x.1 z.1 with
    | false => rfl
    | true =>
      rcases ltB_tri x.1 y.1 with p | p | p
      · rw [h] at p; cases p
      · rw [p] at e; rw [k] at e; cases e
      · have := ltB_trans p e; rw [k] at this; cases this

/-- The call's own closure. -/
theorem lessM (blk off c Bs size : Nat) (W : World) (G : Nat → ByteArray) (hs : W.cell? ⟨Bs, 0, none⟩ = some (.slice (some ⟨blk, off, none⟩) size c))
    (hc : ∀ t, t < size → W.cell? ⟨blk, off + t * 7, none⟩ = some (.string (G t))) (i j : Nat) (hi : i < size) (hj : j < size) (_hsz : size < 4611686018427387904) :
    Calls Tryz.prog 59 #[.int .i64 i, .int .i64 j, .pointer (some ⟨Bs, 0, none⟩)] W fun e w' => e = .returned (.bool (ltB (G i) (G j))) ∧ ∃ q, w' = W.drewN q := by
  have ci := hc i hi
  have cj := hc j hj
  clear hc
  have i1 : (i : Int) < (size : Int) := by omega
  have j1 : (j : Int) < (size : Int) := by omega
  go_enter Tryz.func59, Tryz.ntmps59
  go_wp2
  go_quiet (fail)
  go_wp2
  go_ret
  exact ⟨rfl, nq, rfl⟩

noncomputable def sortT : TypeInfo := (Tryz.prog.info? 43).get (by kernel_rfl)
noncomputable def sortE : TypeInfo := (Tryz.prog.info? 60).get (by kernel_rfl)
theorem sortK (n : Nat) (h2 : 2 ≤ n) : Lib.swapperK n sortE 25 = 9 := by
  have a : sortE.hasPointers = true := by kernel_rfl
  have b : sortE.bytes = 104 := by kernel_rfl
  have c : (n == 0) = false := by simp; omega
  have d : (n == 1) = false := by simp; omega
  simp [Lib.swapperK, a, b, c, d]

/-- What the sort leaves. -/
def SortPost (w : World) (blk : Nat) (d : Array Mx) (e : Ending) (w' : World) : Prop := e = .returned (.tuple #[]) ∧ ∃ d' : Array Mx, d'.size = d.size ∧ d'.toList.Perm d.toList ∧ Go.Sort.SortedIn ltM 0 d.size d' ∧
  (∀ i, i < d.size → ∀ j, j < 7 → w'.cell? ⟨blk, i * 7 + j, none⟩ = some (encM d'[i]!)[j]!) ∧ (∀ b, b < w.heap.size → b ≠ blk → w'.heap[b]? = w.heap[b]?) ∧ w.heap.size ≤ w'.heap.size ∧ w'.os = w.os ∧ w'.tape = w.tape ∧ w'.output = w.output

theorem sortM_many (blk c Bs : Nat) (d : Array Mx) (h2 : 2 ≤ d.size) (hsz : d.size < 4611686018427387904) (w : World) (hH : Go.Sort.HoldsK encM 7 w blk 0 d) (hblk : blk < w.heap.size)
    (hBs : w.cell? ⟨Bs, 0, none⟩ = some (.slice (some ⟨blk, 0, none⟩) d.size c)) (hB1 : Bs < w.heap.size) (hB2 : Bs ≠ blk) :
    Calls Tryz.prog 58 #[.iface 43 (.slice (some ⟨blk, 0, none⟩) d.size c), .func (.func 59) #[] #[.pointer (some ⟨Bs, 0, none⟩)]] w (SortPost w blk d) := by
  have hless : LessReadsK Tryz.prog 59 #[.pointer (some ⟨Bs, 0, none⟩)] encM 7 ltM blk 0 d.size w := by
    intro m os dk hs i j hi hj
    have e : sortWorldK encM 7 w blk 0 m dk os = Go.Sort.putRowK encM 7 (Go.Sort.grow (Go.Sort.ahead w m) os) blk 0 dk := by
      unfold sortWorldK; rw [Go.Sort.putRowK_grow _ _ (Go.Sort.ahead w m) _ blk 0 _ hblk]
    have hHg : Go.Sort.HoldsK encM 7 (Go.Sort.grow (Go.Sort.ahead w m) os) blk 0 d := Go.Sort.holdsK_grow _ _ _ _ blk 0 d hblk (Go.Sort.holdsK_ahead _ _ _ _ _ _ _ hH)
    refine lessM blk 0 c Bs d.size _ (fun t => dk[t]!.1) ?_ (fun t ht => ?_) i j hi hj (by omega)
    · rw [e, Go.Sort.cell?_putRowK_other _ _ _ blk 0 dk _ (by exact hB2), Go.Sort.cell?_grow _ _ _ (by exact hB1)]; exact hBs
    · rw [e, ← encM_key]; exact ((Go.Sort.holdsK_putRowK _ _ _ blk 0 d dk hHg hs).cell (i := t) (c := 0) (by omega) (by omega)).1
  have hS := Any.sort_Slice_cells_sorted Tryz.sortSlice_lays 43 60 sortT sortE (by kernel_rfl) (by kernel_rfl) (by kernel_rfl) (by kernel_rfl) 25 (fun _ => by kernel_rfl) encM 7 encM_len (by kernel_rfl) (fun _ => by kernel_rfl)
    encM_one ltM swoM 59 _
    (enters_of Tryz.func59 (by kernel_rfl) rfl) blk 0 c d h2 hsz 109 (by rw [sortK _ h2]; kernel_rfl) false
    (fun args W => run_callFunc_extern Tryz.func109 (by kernel_rfl) (by kernel_rfl) (by kernel_rfl) (e := Extern.ReflectliteSwapper.swap false) (by kernel_rfl) args W) w hless hH hblk
  change Calls Tryz.prog 58 _ _ _ at hS
  refine hS.mono ?_
  rintro e w' ⟨rfl, d', n, os, ⟨hs', _, hp⟩, hso, rfl⟩
  have hp' : d'.toList.Perm d.toList := by
    have e1 : d'.extract 0 d.size = d' := by rw [← hs']; simp
    have e2 : d.extract 0 d.size = d := by simp
    rwa [e1, e2] at hp
  have hH2 : Go.Sort.HoldsK encM 7 (Go.Sort.putRowK encM 7 (Go.Sort.ahead w n) blk 0 d') blk 0 d' := Go.Sort.holdsK_putRowK _ _ _ blk 0 d d' (Go.Sort.holdsK_ahead _ _ _ _ _ _ _ hH) hs'
  have hsize : (Go.Sort.putRowK encM 7 (Go.Sort.ahead w n) blk 0 d').heap.size = w.heap.size := by
    simp [Go.Sort.putRowK, Go.Sort.putRow, Go.Sort.mapBlock, Go.Sort.ahead]
  refine ⟨rfl, d', hs', hp', hso, fun i hi j hj => ?_, fun b hb hne => ?_, by rw [Go.Sort.size_grow, hsize]; omega, rfl, rfl, rfl⟩
  · rw [Go.Sort.cell?_grow _ _ _ (by show blk < _; rw [hsize]; exact hblk)]
    have := (hH2.cell (i := i) (c := j) (by omega) hj).1
    rwa [Nat.zero_add] at this
  · show ((Go.Sort.putRowK encM 7 (Go.Sort.ahead w n) blk 0 d').heap ++ os)[b]? = _
    rw [Array.getElem?_append_left (by rw [hsize]; exact hb)]
    simp only [Go.Sort.putRowK, Go.Sort.putRow, Go.Sort.mapBlock, Go.Sort.ahead, Array.getElem?_modify]
    rw [if_neg (fun e => hne e.symm)]
theorem sortM_few (p : Option Addr) (n c Bs : Nat) (h1 : n ≤ 1) (w : World) :
    Calls Tryz.prog 58 #[.iface 43 (.slice p n c), .func (.func 59) #[] #[.pointer (some ⟨Bs, 0, none⟩)]] w fun e w' => e = .returned (.tuple #[]) ∧ Below w.heap.size w w' := by
  have key : ∀ f, Tryz.prog.funcs.findIdx? (·.name == "internal/reflectlite" ++ ".Swapper$" ++ toString (Lib.swapperK n sortE 25)) = some f →
      Calls Tryz.prog 58 #[.iface 43 (.slice p n c), .func (.func 59) #[] #[.pointer (some ⟨Bs, 0, none⟩)]] w fun e w' => e = .returned (.tuple #[]) ∧ Below w.heap.size w w' := by
    intro f hf
    have hS := Any.sort_Slice_tiny Tryz.sortSlice_lays 43 60 sortT sortE (by kernel_rfl) (by kernel_rfl) (by kernel_rfl) (by kernel_rfl) 25 (fun _ => by kernel_rfl) p n c h1 f hf (.func 59) #[] #[.pointer (some ⟨Bs, 0, none⟩)] w
    change Calls Tryz.prog 58 _ _ _ at hS
    refine hS.mono ?_
    rintro e w' ⟨rfl, os, rfl⟩
    refine ⟨rfl, ⟨rfl, rfl, rfl, by rw [Go.Sort.size_grow]; omega, fun i hi => ?_⟩⟩
    show (w.heap ++ os)[i]? = _
    exact Array.getElem?_append_left hi
  rcases Nat.eq_zero_or_pos n with rfl | h0
  · exact key 101 (by kernel_rfl)
  · obtain rfl : n = 1 := by omega
    exact key 102 (by kernel_rfl)
end Go.Proofs.YtjjbbnodmpemiaaGreatDoor

/- slices.Clone of members. Condition: at most 10^8 of them. -/
namespace Go.Proofs.YtjjbbnodmpemiaaGreatDoor
open Go.RowKit

def ClonePost (w : World) (o : List (ByteArray × Val)) (e : Ending) (w' : World) : Prop := ∃ V ns, e = .returned V ∧ w'.ownsRow w.heap.size 60 7 V o.length ns ∧ HoldsA w w.heap.size (dO o) ns ∧ Below w.heap.size w w'

set_option maxRecDepth 100000 in
theorem clone_calls (o : List (ByteArray × Val)) (a : Option Addr) (n c : Nat) (w : World) (h : Holds w w.heap.size (.row 7 (dO o)) [.slice a n c]) (hn : o.length ≤ 100000000) :
    Calls Tryz.prog 57 #[.slice a n c] w (ClonePost w o) := by
  have hl := h.row_len
  rw [dO_len] at hl
  subst hl
  obtain ⟨ns, hr, hA, ho⟩ := h.reads
  have hnil := fun W => Lib.run_eql_slice_nil (P := Tryz.prog) W 43 60 a o.length c 0 0 Tryz.underlying43
  cases a with
  | none =>
    have h0 : o.length = 0 := by
      rcases Nat.eq_zero_or_pos o.length with h0 | h0
      · exact h0
      · obtain ⟨ad, e, _⟩ := hr.2 h0
        cases e
    have hns : ns = [] := List.eq_nil_of_length_eq_zero (by rw [hr.1, h0])
    subst hns
    have H0 := Lib.hid h0
    have HA := Lib.hid hA
    clear h0 hA
    clear h hr ho
    go_enter Tryz.func57, Tryz.ntmps57
    go_wp2
    go_ret
    exact ⟨.slice none 0 0, [], rfl, by rw [H0.out]; exact World.ownsRow_nil _ _ _ _, HA.out, Below.refl _ _⟩
  | some ad =>
    obtain ⟨j0, hj, hy0, hy1, hy2⟩ := info_parts info_mem
    have Hj := Lib.hid hj
    have Hy0 := Lib.hid hy0
    have Hy1 := Lib.hid hy1
    have Hy2 := Lib.hid hy2
    have Hr := Lib.hid hr
    have HA := Lib.hid hA
    have Ho := Lib.hid ho
    clear hj hy0 hy1 hy2 hr hA ho
    clear h
    go_enter Tryz.func57, Tryz.ntmps57
    have HOwn : Hid ((w.alloc (.cells #[] 60)).ownsRow w.heap.size 60 7 (.slice (some ⟨w.heap.size, 0, none⟩) 0 0) 0 []) :=
      ⟨by simp, .inr ⟨w.heap.size, 0, #[], rfl, Nat.le_refl _, heap_alloc_new _ _, Nat.le_refl _, by unfold maxLen; omega, by simp, by simp⟩⟩
    go_wp2_with (at_builtin; refine wpList_append_any _ rfl (.tmp 5) (.tmp 6) 43 rfl w.heap.size 60 j0 (.agg #[.string ⟨#[]⟩, .int .i64 0, .bool false, .int .i64 0, .string ⟨#[]⟩, .slice none 0 0, .slice none 0 0]) 7 104 Tryz.underlying43 Hj.out Hy0.out Hy1.out Hy2.out rfl (by omega) (.slice (some ⟨w.heap.size, 0, none⟩) 0 0) 0 [] rfl HOwn.out w.heap.size _ o.length _ ns rfl ?c0 ?c1 ?c2 ?c3 ?c4 ?_)
    case c0 => exact Hr.out.alloc (Nat.le_refl _) _
    case c1 => exact Ho.out
    case c2 => unfold maxLen; omega
    case c3 => omega
    case c4 => simp
    intro v1 w1 hown1 hgrow1 _
    have hb : Below w.heap.size w w1 := ((Below.refl _ _).alloc (Nat.le_refl _) _).grown hgrow1 (by simp) (fun g hg => by simp [Value.ownBlock] at hg; omega)
    have Hown1 := Lib.hid hown1
    have Hb := Lib.hid hb
    clear hown1 hb
    clear hgrow1
    go_wp2
    go_ret
    exact ⟨v1, ns, rfl, by simpa using Hown1.out, HA.out, Hb.out⟩
end Go.Proofs.YtjjbbnodmpemiaaGreatDoor

/- Rows that a call makes and fills, of data of any make. Plain. No condition. -/
namespace Go.Proofs.YtjjbbnodmpemiaaGreatDoor
open Go Go.RowKit

/-- Cells of one block stored one behind the other. -/
def setMany (w : World) (g o : Nat) : List Value → World
  | [] => w
  | v :: r => setMany (w.setCell ⟨g, o, none⟩ v) g (o + 1) r
def over (cs : Array Value) (o : Nat) : List Value → Array Value
  | [] => cs
  | v :: r => over (cs.setIfInBounds o v) (o + 1) r
theorem setMany_size : ∀ (vs : List Value) (w : World) (g o : Nat), (setMany w g o vs).heap.size = w.heap.size
  | [], _, _, _ => rfl
  | v :: r, w, g, o => by simp only [setMany]; rw [setMany_size r]; simp [World.setCell]
theorem setMany_far : ∀ (vs : List Value) (w : World) (g o c : Nat), c ≠ g → (setMany w g o vs).heap[c]? = w.heap[c]?
  | [], _, _, _, _, _ => rfl
  | v :: r, w, g, o, c, h => by
    simp only [setMany]
    rw [setMany_far r _ _ _ _ h]
    simp only [World.setCell, Array.getElem?_modify]
    rw [if_neg (fun e => h e.symm)]
theorem setMany_at : ∀ (vs : List Value) {w : World} {g o : Nat} {cs : Array Value} {t : TypeId}, w.heap[g]? = some (.cells cs t (0, 0)) → (setMany w g o vs).heap[g]? = some (.cells (over cs o vs) t (0, 0))
  | [], _, _, _, _, _, h => h
  | v :: r, w, g, o, cs, t, h => by
    simp only [setMany, over]
    exact setMany_at r (by simp [World.setCell, Array.getElem?_modify, h])
theorem setMany_below {B : Nat} {a : World} : ∀ (vs : List Value) {w : World} {g o : Nat}, Below B a w → B ≤ g → Below B a (setMany w g o vs)
  | [], _, _, _, h, _ => h
  | v :: r, w, g, o, h, hg => by
    simp only [setMany]
    exact setMany_below r (h.setCell hg _) hg
theorem over_size : ∀ (vs : List Value) (cs : Array Value) (o : Nat), (over cs o vs).size = cs.size
  | [], _, _ => rfl
  | v :: r, cs, o => by simp only [over]; rw [over_size r]; simp
theorem over_get : ∀ (vs : List Value) (cs : Array Value) (o i : Nat), o + vs.length ≤ cs.size → (over cs o vs)[i]? = if o ≤ i ∧ i < o + vs.length then vs[i - o]? else cs[i]?
  | [], cs, o, i, _ => by
    simp only [over, List.length_nil]
    rw [if_neg (by omega)]
  | v :: r, cs, o, i, h => by
    simp only [List.length_cons] at h
    simp only [over]
    rw [over_get r _ _ _ (by simp; omega)]
    by_cases h1 : o + 1 ≤ i ∧ i < o + 1 + r.length
    · rw [if_pos h1, if_pos ⟨by omega, by simp only [List.length_cons]; omega⟩, show i - o = (i - (o + 1)) + 1 from by omega, List.getElem?_cons_succ]
    · rw [if_neg h1]
      by_cases h2 : i = o
      · subst h2
        rw [if_pos ⟨Nat.le_refl _, by simp⟩]
        simp only [Nat.sub_self, List.getElem?_cons_zero]
        rw [Array.getElem?_setIfInBounds_self_of_lt (by omega)]
      · rw [if_neg (by simp only [List.length_cons]; omega), Array.getElem?_setIfInBounds_ne (by omega)]

/-- A block of N elements of s cells that the call has made, filled so far with these data; they hold in every world that agrees on the blocks from b on, but for the block itself. -/
def FillD (b g : Nat) (t : TypeId) (s N : Nat) (wr : World) (l : List D) : Prop :=
  b ≤ g ∧ l.length ≤ N ∧ (∀ d ∈ l, d.cells = s) ∧ ∃ (cs : Array Value) (ns : List Value), wr.heap[g]? = some (.cells cs t (0, 0)) ∧ cs.size = N * s ∧ (∀ (j : Nat) (u : Value), ns[j]? = some u → cs[j]? = some u) ∧
    ∀ w'' : World, wr.heap.size ≤ w''.heap.size → (∀ p : Addr, b ≤ p.block → p.block < wr.heap.size → p.block ≠ g → w''.cell? p = wr.cell? p) → HoldsA w'' wr.heap.size l ns
theorem FillD.start {b g : Nat} {t : TypeId} {s N : Nat} {wr : World} {cs : Array Value} (hb : b ≤ g) (hg : wr.heap[g]? = some (.cells cs t (0, 0))) (hs : cs.size = N * s) : FillD b g t s N wr [] :=
  ⟨hb, Nat.zero_le _, fun d hd => (by cases hd), cs, [], hg, hs, fun j u h => (by simp at h), fun _ _ _ => rfl⟩
theorem FillD.lt {b g : Nat} {t : TypeId} {s N : Nat} {wr : World} {l : List D} (h : FillD b g t s N wr l) : g < wr.heap.size := by
  obtain ⟨_, _, _, cs, ns, h4, _⟩ := h
  exact (Array.getElem?_eq_some_iff.1 h4).1
theorem FillD.cell {b g : Nat} {t : TypeId} {s N : Nat} {wr : World} {l : List D} (h : FillD b g t s N wr l) : (∀ j, j < N * s → ∃ u, wr.cell? ⟨g, j, none⟩ = some u) ∧ ∀ j, wr.frozen? ⟨g, j, none⟩ = false := by
  obtain ⟨_, _, _, cs, ns, h4, h5, _⟩ := h
  refine ⟨fun j hj => ?_, fun j => ?_⟩
  · exact ⟨cs[j], by rw [cell_of_row wr g j cs t (0, 0) h4]; exact Array.getElem?_eq_getElem (by omega)⟩
  · simp [World.frozen?, h4]
/-- The world has grown and none of the call's blocks was written. -/
theorem FillD.keep {b g : Nat} {t : TypeId} {s N : Nat} {wr w' : World} {l : List D} (h : FillD b g t s N wr l) (hs : wr.heap.size ≤ w'.heap.size) (hk : ∀ i, b ≤ i → i < wr.heap.size → w'.heap[i]? = wr.heap[i]?) : FillD b g t s N w' l := by
  have hlt := h.lt
  obtain ⟨h1, h2, h3, cs, ns, h4, h5, h6, h7⟩ := h
  exact ⟨h1, h2, h3, cs, ns, (hk g h1 hlt).trans h4, h5, h6, fun w'' k1 k2 => HoldsA.more (h7 w'' (by omega) (fun p p1 p2 p3 => (k2 p p1 (by omega) p3).trans (World.cell?_of_block (hk p.block p1 p2)))) hs⟩
theorem FillD.below {b g : Nat} {t : TypeId} {s N : Nat} {wr w' : World} {l : List D} (h : FillD b g t s N wr l) (hb : Below wr.heap.size wr w') : FillD b g t s N w' l := h.keep hb.size fun i _ hi => hb.block i hi
/-- One more: made behind wr, stored behind the others. -/
theorem FillD.step {b g : Nat} {t : TypeId} {s N : Nat} {wr w4 : World} {l : List D} {d : D} {cs' : List Value} (h : FillD b g t s N wr l) (hl : l.length < N) (hd : d.cells = s) (hx : Fresh wr.heap.size w4 d cs') (h4 : Below wr.heap.size wr w4) :
    FillD b g t s N (setMany w4 g (l.length * s) cs') (l ++ [d]) := by
  have hlt := h.lt
  have h' := h.below h4
  obtain ⟨h1, h2, h3, cs, ns, k4, h5, h6, h7⟩ := h'
  have hcl : cs'.length = s := hx.now.len.1.trans hd
  have hnl : ns.length = l.length * s := by
    have hA := h7 w4 (Nat.le_refl _) (fun _ _ _ _ => rfl)
    rw [hA.len.1, cellsA_all h3]
  have hN : l.length * s + s ≤ N * s := by
    have := Nat.mul_le_mul_right s (show l.length + 1 ≤ N by omega)
    rw [Nat.add_mul, Nat.one_mul] at this
    exact this
  have hsz := h4.size
  refine ⟨h1, by rw [List.length_append, List.length_cons, List.length_nil]; omega, ?_, over cs (l.length * s) cs', ns ++ cs', setMany_at cs' k4, by rw [over_size]; exact h5, ?_, ?_⟩
  · intro x hx'
    rcases List.mem_append.1 hx' with hx' | hx'
    · exact h3 x hx'
    · simp only [List.mem_cons, List.not_mem_nil, or_false] at hx'
      rw [hx']; exact hd
  · intro j u hj
    rw [over_get cs' cs (l.length * s) j (by omega)]
    by_cases hjn : j < ns.length
    · rw [List.getElem?_append_left hjn] at hj
      rw [if_neg (by omega)]
      exact h6 j u hj
    · rw [List.getElem?_append_right (by omega)] at hj
      have := (List.getElem?_eq_some_iff.1 hj).1
      rw [if_pos ⟨by omega, by omega⟩, ← hnl]
      exact hj
  · intro w'' k1 k2
    rw [setMany_size] at k1 k2 ⊢
    have hfar : ∀ p : Addr, b ≤ p.block → p.block < w4.heap.size → p.block ≠ g → w''.cell? p = w4.cell? p := fun p p1 p2 p3 => (k2 p p1 p2 p3).trans (World.cell?_of_block (setMany_far cs' w4 g _ _ p3))
    exact (h7 w'' k1 hfar).snoc (hx w'' k1 (fun p p1 p2 => hfar p (by omega) p2 (by omega)))
/-- The row, done. -/
theorem FillD.close {b g : Nat} {t : TypeId} {s : Nat} {wr : World} {l : List D} (h : FillD b g t s l.length wr l) (c : Nat) : Fresh b wr (.row s l) [.slice (some ⟨g, 0, none⟩) l.length c] := by
  have hlt := h.lt
  obtain ⟨h1, h2, h3, cs, ns, h4, h5, h6, h7⟩ := h
  intro w'' k1 k2
  refine ⟨_, c, rfl, h3, ns, h7 w'' k1 (fun p p1 p2 _ => k2 p p1 p2), .inr ⟨g, 0, rfl, hlt, fun j u hu => ?_⟩⟩
  rw [k2 _ h1 hlt, Nat.zero_add, cell_of_row wr g j cs t (0, 0) h4]
  exact h6 j u hu
end Go.Proofs.YtjjbbnodmpemiaaGreatDoor

/- value.Copy: all of a value, in new memory. Condition: a bulk of at most 10^8. -/
namespace Go.Proofs.YtjjbbnodmpemiaaGreatDoor
open Go.RowKit

/-- Copy has handed back this value, in memory of its own. -/
def VCopyPost (w : World) (v : Val) (e : Ending) (w' : World) : Prop := (∃ cs', e = .returned (.agg (cs' : List Value).toArray) ∧ cs'.length = 6 ∧ Fresh w.heap.size w' (dV v) cs') ∧ Below w.heap.size w w'
/-- What Copy does with a value. -/
def VCopyC (v : Val) : Prop := ∀ (cs : List Value) (w : World), HoldsV w w.heap.size v cs → v.bulk ≤ 100000000 → Calls Tryz.prog 56 #[.agg cs.toArray] w (VCopyPost w v)

theorem run_make_rows {P : Program} (t e : TypeId) (i : TypeInfo) (z : Value) (ht : P.underlying t = some (.slice e)) (hi : P.info? e = some i) (hz : i.zero = some z)
    (n : Nat) (hbytes : i.bytes * n ≤ 281474976710656) (h63 : n ≤ 9223372036854775807) (w : World) :
    (Instr.makeSlice t (.int .i64 (n : Int)) (.int .i64 (n : Int))).run P w = .ok (.slice (some ⟨w.heap.size, 0, none⟩) n n) (w.alloc (.cells (madeCells z.cells (n * i.size)) e)) := by
  have hb : (i.bytes : Int) * (n : Int) ≤ 281474976710656 := by
    have h : ((i.bytes * n : Nat) : Int) ≤ 281474976710656 := by omega
    rwa [Int.natCast_mul] at h
  have hr := run_make (P := P) w t e i z ht hi hz .i64 .i64 n n (by omega) (by omega) hb (by omega)
  simp only [Int.toNat_natCast] at hr
  exact hr

/-- The call's three boxes; what it had made up to wx is as it was then. -/
def VA (w wx : World) (b1 z b3 : Array Value) (wr : World) : Prop :=
  Below w.heap.size w wr ∧ Blk wr w.heap.size 45 b1 ∧ Blk wr (w.heap.size + 1) 45 z ∧ Blk wr (w.heap.size + 2) 45 b3 ∧ (∀ c, w.heap.size + 3 ≤ c → c < wx.heap.size → wr.heap[c]? = wx.heap[c]?) ∧ wx.heap.size ≤ wr.heap.size ∧ w.heap.size + 3 ≤ wx.heap.size
/-- A round's head: the block that is being filled, too. -/
def VLoop (w wx : World) (b1 z b3 : Array Value) (g s N : Nat) (t : TypeId) (l : List D) (wr : World) : Prop := VA w wx b1 z b3 wr ∧ FillD wx.heap.size g t s N wr l
/-- Behind a loop: the row, done. -/
def VP (w wx : World) (b1 z b3 : Array Value) (l : List D) (s : Nat) (V : Value) (wr : World) : Prop := VA w wx b1 z b3 wr ∧ Fresh wx.heap.size wr (.row s l) [V]
theorem VP.nil {w wx wr : World} {b1 z b3 : Array Value} (s : Nat) (h : VA w wx b1 z b3 wr) (a : Option Addr) (c : Nat) : VP w wx b1 z b3 [] s (.slice a 0 c) wr :=
  ⟨h, fun _ _ _ => ⟨a, c, rfl, fun d hd => (by cases hd), [], rfl, .inl rfl⟩⟩
theorem VLoop.step {w wx : World} {b1 z b3 : Array Value} {g s N : Nat} {t : TypeId} {l : List D} {wr w4 : World} {d : D} {cs : List Value} (h : VLoop w wx b1 z b3 g s N t l wr) (h4 : Below wr.heap.size wr w4) (hx : Fresh wr.heap.size w4 d cs) (hl : l.length < N) (hd : d.cells = s) :
    VLoop w wx b1 z b3 g s N t (l ++ [d]) (setMany w4 g (l.length * s) cs) := by
  obtain ⟨⟨hb, x1, x2, x3, hk, hs, hw⟩, hf⟩ := h
  have hg := hf.1
  have hs4 := h4.size
  have hbl : ∀ {i : Nat} {c : Array Value}, i < w.heap.size + 3 → Blk wr i 45 c → Blk (setMany w4 g (l.length * s) cs) i 45 c := fun hi hB => (setMany_far cs w4 g _ _ (by omega)).trans (hB.below h4 hB.lt)
  exact ⟨⟨setMany_below cs (hb.trans (h4.mono hb.size)) (by omega), hbl (by omega) x1, hbl (by omega) x2, hbl (by omega) x3, fun c h1 h2 => (setMany_far cs w4 g _ _ (by omega)).trans ((h4.block c (by omega)).trans (hk c h1 h2)), by rw [setMany_size]; omega, hw⟩, hf.step hl hd hx h4⟩
theorem VLoop.done {w wx : World} {b1 z b3 : Array Value} {g s N : Nat} {t : TypeId} {l : List D} {wr : World} (h : VLoop w wx b1 z b3 g s N t l wr) (hN : l.length = N) (c : Nat) : VP w wx b1 z b3 l s (.slice (some ⟨g, 0, none⟩) N c) wr := by
  subst hN
  exact ⟨h.1, h.2.close c⟩
theorem bcell' {W w1 : World} (hb : Below W.heap.size W w1) : (∀ b o, b < W.heap.size → w1.cell? ⟨b, o, none⟩ = W.cell? ⟨b, o, none⟩) ∧ (∀ b o, b < W.heap.size → w1.frozen? ⟨b, o, none⟩ = W.frozen? ⟨b, o, none⟩) :=
  ⟨fun b o h => hb.cell (p := ⟨b, o, none⟩) h, fun b o h => hb.frozen (p := ⟨b, o, none⟩) h⟩
theorem six_now {B : Nat} {w4 : World} {k : Int} {b : Bool} {n : Int} {t : ByteArray} {l : List Val} {o : List (ByteArray × Val)} {cs : List Value} (h : Fresh B w4 (dV (.mk k b n t l o)) cs) : ∃ la lc oa oc, cs = [.int .i64 k, .bool b, .int .i64 n, .string t, .slice la l.length lc, .slice oa o.length oc] := by
  have h1 := holdsV_of _ _ h.now
  simp only [HoldsV] at h1
  obtain ⟨la, lc, oa, oc, e, _, _⟩ := h1
  exact ⟨la, lc, oa, oc, e⟩
theorem vcell {w : World} {g : Nat} {t : TypeId} {a0 a1 a2 a3 a4 a5 : Value} (h : Blk w g t #[a0, a1, a2, a3, a4, a5]) :
    w.cell? ⟨g, 0, none⟩ = some a0 ∧ w.cell? ⟨g, 1, none⟩ = some a1 ∧ w.cell? ⟨g, 2, none⟩ = some a2 ∧ w.cell? ⟨g, 3, none⟩ = some a3 ∧ w.cell? ⟨g, 4, none⟩ = some a4 ∧ w.cell? ⟨g, 5, none⟩ = some a5 :=
  ⟨h.cell 0, h.cell 1, h.cell 2, h.cell 3, h.cell 4, h.cell 5⟩
theorem dP_fresh {B : Nat} {w : World} {key : ByteArray} {v : Val} {cs : List Value} (h : Fresh B w (dV v) cs) : Fresh B w (dP (key, v)) (.string key :: cs) := fun w'' h1 h2 => ⟨[.string key], cs, rfl, ⟨rfl, rfl⟩, cs, [], by simp, h w'' h1 h2, rfl⟩


set_option maxRecDepth 100000 in
set_option maxHeartbeats 8000000 in
theorem vcopy_step (k : Int) (b : Bool) (n : Int) (t : ByteArray) (l : List Val) (o : List (ByteArray × Val)) (la oa : Option Addr) (oc lc : Nat) (w : World) (IH : ∀ v ∈ l, VCopyC v) (IHo : ∀ m ∈ o, VCopyC m.2)
    (hl : l = [] ∨ ∃ g off, la = some ⟨g, off, none⟩ ∧ g < w.heap.size ∧ HoldsL w w.heap.size l g off) (ho : o = [] ∨ ∃ g off, oa = some ⟨g, off, none⟩ ∧ g < w.heap.size ∧ HoldsO w w.heap.size o g off) (hbl : bulkL l ≤ 100000000) (hbo : bulkO o ≤ 100000000) :
    Calls Tryz.prog 56 #[.agg #[.int .i64 k, .bool b, .int .i64 n, .string t, .slice la l.length lc, .slice oa o.length oc]] w (VCopyPost w (.mk k b n t l o)) := by
  have hln := bulkL_len l
  have hon := bulkO_len o
  obtain ⟨i0, hi, hz0, hz1, hz2⟩ := info_parts info_val
  obtain ⟨j0, hj, hy0, hy1, hy2⟩ := info_parts info_mem
  have hmk := fun W => run_make_rows (P := Tryz.prog) 42 45 i0 _ Tryz.underlying42 hi hz0 l.length (by rw [hz2]; omega) (by omega) W
  have hmo := fun W => run_make_rows (P := Tryz.prog) 43 60 j0 _ Tryz.underlying43 hj hy0 o.length (by rw [hy2]; omega) (by omega) W
  rw [hz1] at hmk
  rw [hy1] at hmo
  obtain ⟨M1, hM1⟩ : ∃ M, madeCells (Value.cells (.agg #[.int .i64 0, .bool false, .int .i64 0, .string ⟨#[]⟩, .slice none 0 0, .slice none 0 0])) (l.length * 6) = M := ⟨_, rfl⟩
  obtain ⟨M2, hM2⟩ : ∃ M, madeCells (Value.cells (.agg #[.string ⟨#[]⟩, .int .i64 0, .bool false, .int .i64 0, .string ⟨#[]⟩, .slice none 0 0, .slice none 0 0])) (o.length * 7) = M := ⟨_, rfl⟩
  simp only [hM1] at hmk
  simp only [hM2] at hmo
  have hS1 : M1.size = l.length * 6 := by rw [← hM1, size_madeCells]
  have hS2 : M2.size = o.length * 7 := by rw [← hM2, size_madeCells]
  have HIH := Lib.hid IH
  have HIHo := Lib.hid IHo
  have HL := Lib.hid hl
  have HO := Lib.hid ho
  have HS1 := Lib.hid hS1
  have HS2 := Lib.hid hS2
  clear IH IHo hl ho hS1 hS2 hM1 hM2 hi hz0 hz1 hz2 hj hy0 hy1 hy2
  go_enter Tryz.func56, Tryz.ntmps56
  go_upto_if 14 with (fail)
  obtain ⟨w0, hw0⟩ : ∃ w0, ((w.alloc (.cells #[.int .i64 k, .bool b, .int .i64 n, .string t, .slice la l.length lc, .slice oa o.length oc] 45)).alloc (.cells #[.int .i64 0, .bool false, .int .i64 0, .string ⟨#[]⟩, .slice none 0 0, .slice none 0 0] 45)).alloc (.cells #[.int .i64 k, .bool b, .int .i64 n, .string t, .slice none 0 0, .slice none 0 0] 45) = w0 := ⟨_, rfl⟩
  have hA0 : VA w w0 #[.int .i64 k, .bool b, .int .i64 n, .string t, .slice la l.length lc, .slice oa o.length oc] #[.int .i64 0, .bool false, .int .i64 0, .string ⟨#[]⟩, .slice none 0 0, .slice none 0 0] #[.int .i64 k, .bool b, .int .i64 n, .string t, .slice none 0 0, .slice none 0 0] w0 := by
    rw [← hw0]
    refine ⟨(((Below.refl _ _).alloc (Nat.le_refl _) _).alloc (by simp) _).alloc (by simp; omega) _, ((Blk.new w 45 #[.int .i64 k, .bool b, .int .i64 n, .string t, .slice la l.length lc, .slice oa o.length oc]).alloc (.cells #[.int .i64 0, .bool false, .int .i64 0, .string ⟨#[]⟩, .slice none 0 0, .slice none 0 0] 45)).alloc (.cells #[.int .i64 k, .bool b, .int .i64 n, .string t, .slice none 0 0, .slice none 0 0] 45), ?_, ?_, fun _ _ _ => rfl, Nat.le_refl _, by simp⟩
    · have := (Blk.new (w.alloc (.cells #[.int .i64 k, .bool b, .int .i64 n, .string t, .slice la l.length lc, .slice oa o.length oc] 45)) 45 #[.int .i64 0, .bool false, .int .i64 0, .string ⟨#[]⟩, .slice none 0 0, .slice none 0 0]).alloc (.cells #[.int .i64 k, .bool b, .int .i64 n, .string t, .slice none 0 0, .slice none 0 0] 45)
      simpa using this
    · have := Blk.new ((w.alloc (.cells #[.int .i64 k, .bool b, .int .i64 n, .string t, .slice la l.length lc, .slice oa o.length oc] 45)).alloc (.cells #[.int .i64 0, .bool false, .int .i64 0, .string ⟨#[]⟩, .slice none 0 0, .slice none 0 0] 45)) 45 #[.int .i64 k, .bool b, .int .i64 n, .string t, .slice none 0 0, .slice none 0 0]
      simpa using this
  rw [hw0]
  clear hw0
  have hsl : w.heap.size + 3 ≤ w0.heap.size := hA0.2.2.2.2.2.2
  have HA0 := Lib.hid hA0
  clear hA0
  go_cut [] (fun wx => ∃ a c, Hid (VP w w0 #[.int .i64 k, .bool b, .int .i64 n, .string t, .slice la l.length lc, .slice oa o.length oc] #[.int .i64 0, .bool false, .int .i64 0, .string ⟨#[]⟩, .slice none 0 0, .slice none 0 0] #[.int .i64 k, .bool b, .int .i64 n, .string t, .slice a l.length c, .slice none 0 0] (dL l) 6 (.slice a l.length c) wx))

  case first =>
    by_cases h0 : l = []
    · subst h0
      go_wp2
      go_meet
      exact ⟨none, 0, VP.nil 6 HA0.out none 0⟩
    · have hpos : 0 < l.length := List.length_pos_iff.2 h0
      obtain ⟨_, y1, y2, y3, _⟩ := HA0.out
      obtain ⟨b0, b1, b2, b3, b4, b5⟩ := vcell y1
      obtain ⟨e0, e1, e2, e3, e4, e5⟩ := vcell y3
      have f3 := y3.frozen 4
      have g0 : w.heap.size < w0.heap.size := by omega
      have g2 : w.heap.size + 2 < w0.heap.size := by omega
      have Y1 := Lib.hid y1
      have Y2 := Lib.hid y2
      have Y3 := Lib.hid y3
      clear y1 y2 y3
      go_wp2_with (fail)
      obtain ⟨w1, hw1⟩ : ∃ w1, (w0.setCell ⟨w.heap.size + 1 + 1, 4, none⟩ (.slice (some ⟨w0.heap.size, 0, none⟩) l.length l.length)).alloc (.cells M1 45) = w1 := ⟨_, rfl⟩
      have hV : VLoop w w0 #[.int .i64 k, .bool b, .int .i64 n, .string t, .slice la l.length lc, .slice oa o.length oc] #[.int .i64 0, .bool false, .int .i64 0, .string ⟨#[]⟩, .slice none 0 0, .slice none 0 0] #[.int .i64 k, .bool b, .int .i64 n, .string t, .slice (some ⟨w0.heap.size, 0, none⟩) l.length l.length, .slice none 0 0] w0.heap.size 6 l.length 45 (dL (l.take 0)) w1 := by
        rw [← hw1]
        obtain ⟨z1, z2, z3, z4, z5, z6, z7⟩ := HA0.out
        refine ⟨⟨(z1.setCell (by simp; omega) _).alloc (by simp; omega) _, (z2.far (by simp; omega) _).alloc _, (z3.far (by simp) _).alloc _, (z4.set_ 4 _).alloc _, fun c h1 h2 => ?_, by simp, z7⟩, FillD.start (Nat.le_refl _) ?_ HS1.out⟩
        · rw [Lib.alloc_old _ _ _ (by simp; omega), setCell_far _ _ _ _ (by omega)]
        · have := heap_alloc_new (w0.setCell ⟨w.heap.size + 1 + 1, 4, none⟩ (.slice (some ⟨w0.heap.size, 0, none⟩) l.length l.length)) (.cells M1 45)
          simpa using this
      have HV := Lib.hid hV
      rw [hw1]
      clear hw1 hV b0 b1 b2 b3 b4 b5 e0 e1 e2 e3 e4 e5 f3 HA0 Y1 Y2 Y3 HS1 HS2 hmk hmo
      go_loopw [23] (fun i wr => ∃ q : Nat, i = .int .i64 q ∧ q ≤ l.length ∧ Hid (VLoop w w0 #[.int .i64 k, .bool b, .int .i64 n, .string t, .slice la l.length lc, .slice oa o.length oc] #[.int .i64 0, .bool false, .int .i64 0, .string ⟨#[]⟩, .slice none 0 0, .slice none 0 0] #[.int .i64 k, .bool b, .int .i64 n, .string t, .slice (some ⟨w0.heap.size, 0, none⟩) l.length l.length, .slice none 0 0] w0.heap.size 6 l.length 45 (dL (l.take q)) wr)) (fun i _ => l.length - (intOf i).toNat)
      case atStart => exact ⟨0, rfl, Nat.zero_le _, HV⟩
      case round =>
        obtain ⟨q, rfl, hq, hv⟩ := hrel
        clear HV
        by_cases hlt : q < l.length
        · obtain ⟨g, off, rfl, hg, hLL⟩ : ∃ g off, la = some ⟨g, off, none⟩ ∧ g < w.heap.size ∧ HoldsL w w.heap.size l g off := HL.out.resolve_left h0
          obtain ⟨x, hx⟩ : ∃ v, l[q]? = some v := ⟨_, List.getElem?_eq_getElem hlt⟩
          have hmem := List.mem_of_getElem? hx
          have IHx := HIH.out _ hmem
          have hbv := bulkL_mem hmem
          have := trivial
          have htk : dL (l.take (q + 1)) = dL (l.take q) ++ [dV x] := by rw [List.take_add_one, hx, dL_map, dL_map]; simp
          have hqlen : (dL (l.take q)).length = q := by rw [dL_len, List.length_take]; omega
          obtain ⟨⟨hbw, x1, x2, x3, hk, hsx, hw3⟩, hF⟩ := hv.out
          have hz := hbw.size
          have b4 := x3.cell 4
          obtain ⟨k', b', n', t', l', o'⟩ := x
          obtain ⟨la', lc', oa', oc', hvs, c0, c1, c2, c3, c4, c5⟩ := (hLL.below hg hbw).six hx
          have hC : ∀ W, Below wr.heap.size wr W → Calls Tryz.prog 56 #[.agg #[.int .i64 k', .bool b', .int .i64 n', .string t', .slice la' l'.length lc', .slice oa' o'.length oc']] W (VCopyPost W (.mk k' b' n' t' l' o')) := fun W hW =>
            IHx _ W (HoldsV.more (Nat.le_trans hz hW.size) _ _ (hvs.below (hW.mono hz))) (by omega)
          have hgr : g < wr.heap.size := by omega
          have hg2 : w.heap.size + 2 < wr.heap.size := x3.lt
          have hgl := hF.lt
          have hcell : ∀ W, Below wr.heap.size wr W → (∀ j, j < 6 → ∃ u, W.cell? ⟨w0.heap.size, q * 6 + j, none⟩ = some u) ∧ (∀ j, W.frozen? ⟨w0.heap.size, j, none⟩ = false) := fun W hW => by
            have h1 := (hF.below hW).cell
            exact ⟨fun j hj => h1.1 _ (by omega), h1.2⟩
          have y1 : (q : Int) < (l.length : Int) := by omega
          have n1 : w.heap.size + 2 ≠ w0.heap.size := by omega
          have n2 : wr.heap.size ≠ w0.heap.size := by omega
          have n3 := n1.symm
          have n4 := n2.symm
          have HC := Lib.hid hC
          have Hcell := Lib.hid hcell
          have Htk := Lib.hid htk
          have Hqlen := Lib.hid hqlen
          clear hC hcell htk hqlen
          clear hbw x1 x2 x3 hF hvs hx hmem IHx hLL hk hsx hw3
          go_wp2_with (fail)
          go_region_held3 (fun W => W.cell? ⟨w.heap.size + 2, 4, none⟩ = some (.slice (some ⟨w0.heap.size, 0, none⟩) l.length l.length) ∧ W.cell? ⟨wr.heap.size, 0, none⟩ = some (.int .i64 k') ∧ W.cell? ⟨wr.heap.size, 1, none⟩ = some (.bool b') ∧ W.cell? ⟨wr.heap.size, 2, none⟩ = some (.int .i64 n') ∧ W.cell? ⟨wr.heap.size, 3, none⟩ = some (.string t') ∧ W.cell? ⟨wr.heap.size, 4, none⟩ = some (.slice la' l'.length lc') ∧ W.cell? ⟨wr.heap.size, 5, none⟩ = some (.slice oa' o'.length oc')) (go_keep) (first | (go_at_call 56; refine (HC.out _ ?_).mono ?_; (exact (Below.drew ((Below.refl _ _).alloc (Nat.le_refl _) _))); rintro e w4 ⟨⟨cs4, rfl, hl4, hf4⟩, hb4⟩; obtain ⟨la2, lc2, oa2, oc2, rfl⟩ := six_now hf4; have hbr : Below wr.heap.size wr w4 := ((Below.drew ((Below.refl _ _).alloc (Nat.le_refl _) _)).trans (hb4.mono (by simp))); obtain ⟨hd, hfz⟩ := Hcell.out w4 hbr; obtain ⟨v0, d0⟩ := hd 0 (by omega); obtain ⟨v1, d1⟩ := hd 1 (by omega); obtain ⟨v2, d2⟩ := hd 2 (by omega); obtain ⟨v3, d3⟩ := hd 3 (by omega); obtain ⟨v4, d4⟩ := hd 4 (by omega); obtain ⟨v5, d5⟩ := hd 5 (by omega); rw [Nat.add_zero] at d0; obtain ⟨hc4, hf4'⟩ := bcell' hb4; have g3 := (hbr.cell (p := ⟨w.heap.size + 2, 4, none⟩) hg2).trans b4; clear hd))
          all_goals
            have hf5 : Fresh wr.heap.size w4 (dV (.mk k' b' n' t' l' o')) [.int .i64 k', .bool b', .int .i64 n', .string t', .slice la2 l'.length lc2, .slice oa2 o'.length oc2] := hf4.keep (by simp) (Nat.le_refl _) (fun _ _ _ => rfl)
            have hN := hv.out.step hbr hf5 (by rw [Hqlen.out]; exact hlt) (dV_cells _)
            rw [Hqlen.out, ← Htk.out] at hN
            have HN : Hid (VLoop w w0 #[.int .i64 k, .bool b, .int .i64 n, .string t, .slice (some ⟨g, off, none⟩) l.length lc, .slice oa o.length oc] #[.int .i64 0, .bool false, .int .i64 0, .string ⟨#[]⟩, .slice none 0 0, .slice none 0 0] #[.int .i64 k, .bool b, .int .i64 n, .string t, .slice (some ⟨w0.heap.size, 0, none⟩) l.length l.length, .slice none 0 0] w0.heap.size 6 l.length 45 (dL (l.take (q + 1))) ((((((w4.setCell ⟨w0.heap.size, q * 6, none⟩ (.int .i64 k')).setCell ⟨w0.heap.size, q * 6 + 1, none⟩ (.bool b')).setCell ⟨w0.heap.size, q * 6 + 2, none⟩ (.int .i64 n')).setCell ⟨w0.heap.size, q * 6 + 3, none⟩ (.string t')).setCell ⟨w0.heap.size, q * 6 + 4, none⟩ (.slice la2 l'.length lc2)).setCell ⟨w0.heap.size, q * 6 + 5, none⟩ (.slice oa2 o'.length oc2))) := hN
            clear hN hf5 hf4 hb4 hbr hfz hc4 hf4' g3 hv HC Hcell Htk Hqlen b4 c0 c1 c2 c3 c4 c5 d0 d1 d2 d3 d4 d5 n1 n2 n3 n4
            go_wp2
            go_roundw
            case rel => exact ⟨q + 1, by go_num, by omega, HN⟩
            case measure => simp only [intOf]; omega
        · obtain rfl : q = l.length := by omega
          have hv' := hv.out
          rw [List.take_length] at hv'
          have HD := Lib.hid (hv'.done (dL_len _) l.length)
          clear hv hv'
          go_wp2
          go_meet
          exact ⟨_, _, HD⟩

  case rest =>
  obtain ⟨aL, cL, hP⟩ := hcut
  obtain ⟨wm, hwm⟩ : ∃ wm : World, wm = wc := ⟨_, rfl⟩
  subst hwm
  have hA1 : VA w wm #[.int .i64 k, .bool b, .int .i64 n, .string t, .slice la l.length lc, .slice oa o.length oc] #[.int .i64 0, .bool false, .int .i64 0, .string ⟨#[]⟩, .slice none 0 0, .slice none 0 0] #[.int .i64 k, .bool b, .int .i64 n, .string t, .slice aL l.length cL, .slice none 0 0] wm := by
    obtain ⟨⟨z1, z2, z3, z4, z5, z6, z7⟩, _⟩ := hP.out
    exact ⟨z1, z2, z3, z4, fun _ _ _ => rfl, Nat.le_refl _, Nat.le_trans z7 z6⟩
  have hsm : w.heap.size + 3 ≤ wm.heap.size := hA1.2.2.2.2.2.2
  obtain ⟨b0, b1, b2, b3, b4, b5⟩ := vcell hA1.2.1
  have HA1 := Lib.hid hA1
  clear hA1
  clear HIH HL HA0 HS1 hmk
  go_upto_if 38 with (fail)
  clear b0 b1 b2 b3 b4 b5
  go_cut [] (fun wx => ∃ a c, Hid (VP w wm #[.int .i64 k, .bool b, .int .i64 n, .string t, .slice la l.length lc, .slice oa o.length oc] #[.int .i64 0, .bool false, .int .i64 0, .string ⟨#[]⟩, .slice none 0 0, .slice none 0 0] #[.int .i64 k, .bool b, .int .i64 n, .string t, .slice aL l.length cL, .slice a o.length c] (dO o) 7 (.slice a o.length c) wx))
  case first =>
    by_cases h0 : o = []
    · subst h0
      go_wp2
      go_meet
      exact ⟨none, 0, VP.nil 7 HA1.out none 0⟩
    · have hpos : 0 < o.length := List.length_pos_iff.2 h0
      obtain ⟨_, y1, y2, y3, _⟩ := HA1.out
      obtain ⟨b0, b1, b2, b3, b4, b5⟩ := vcell y1
      obtain ⟨e0, e1, e2, e3, e4, e5⟩ := vcell y3
      have f3 := y3.frozen 5
      have g0 : w.heap.size < wm.heap.size := by omega
      have g2 : w.heap.size + 2 < wm.heap.size := by omega
      have Y1 := Lib.hid y1
      have Y2 := Lib.hid y2
      have Y3 := Lib.hid y3
      clear y1 y2 y3
      go_wp2_with (fail)
      obtain ⟨w1, hw1⟩ : ∃ w1, (wm.setCell ⟨w.heap.size + 1 + 1, 5, none⟩ (.slice (some ⟨wm.heap.size, 0, none⟩) o.length o.length)).alloc (.cells M2 60) = w1 := ⟨_, rfl⟩
      have hV : VLoop w wm #[.int .i64 k, .bool b, .int .i64 n, .string t, .slice la l.length lc, .slice oa o.length oc] #[.int .i64 0, .bool false, .int .i64 0, .string ⟨#[]⟩, .slice none 0 0, .slice none 0 0] #[.int .i64 k, .bool b, .int .i64 n, .string t, .slice aL l.length cL, .slice (some ⟨wm.heap.size, 0, none⟩) o.length o.length] wm.heap.size 7 o.length 60 (dO (o.take 0)) w1 := by
        rw [← hw1]
        obtain ⟨z1, z2, z3, z4, z5, z6, z7⟩ := HA1.out
        refine ⟨⟨(z1.setCell (by simp; omega) _).alloc (by simp; omega) _, (z2.far (by simp; omega) _).alloc _, (z3.far (by simp) _).alloc _, (z4.set_ 5 _).alloc _, fun c h1 h2 => ?_, by simp, z7⟩, FillD.start (Nat.le_refl _) ?_ HS2.out⟩
        · rw [Lib.alloc_old _ _ _ (by simp; omega), setCell_far _ _ _ _ (by omega)]
        · have := heap_alloc_new (wm.setCell ⟨w.heap.size + 1 + 1, 5, none⟩ (.slice (some ⟨wm.heap.size, 0, none⟩) o.length o.length)) (.cells M2 60)
          simpa using this
      have HV := Lib.hid hV
      rw [hw1]
      clear hw1 hV b0 b1 b2 b3 b4 b5 e0 e1 e2 e3 e4 e5 f3 HA1 Y1 Y2 Y3 HS2 hmo
      go_loopw [47] (fun i wr => ∃ q : Nat, i = .int .i64 q ∧ q ≤ o.length ∧ Hid (VLoop w wm #[.int .i64 k, .bool b, .int .i64 n, .string t, .slice la l.length lc, .slice oa o.length oc] #[.int .i64 0, .bool false, .int .i64 0, .string ⟨#[]⟩, .slice none 0 0, .slice none 0 0] #[.int .i64 k, .bool b, .int .i64 n, .string t, .slice aL l.length cL, .slice (some ⟨wm.heap.size, 0, none⟩) o.length o.length] wm.heap.size 7 o.length 60 (dO (o.take q)) wr)) (fun i _ => o.length - (intOf i).toNat)
      case atStart => exact ⟨0, rfl, Nat.zero_le _, HV⟩
      case round =>
        obtain ⟨q, rfl, hq, hv⟩ := hrel
        clear HV
        by_cases hlt : q < o.length
        · obtain ⟨g, off, rfl, hg, hLL⟩ : ∃ g off, oa = some ⟨g, off, none⟩ ∧ g < w.heap.size ∧ HoldsO w w.heap.size o g off := HO.out.resolve_left h0
          obtain ⟨⟨key, x⟩, hx⟩ : ∃ v, o[q]? = some v := ⟨_, List.getElem?_eq_getElem hlt⟩
          have hmem := List.mem_of_getElem? hx
          have IHx := HIHo.out _ hmem
          have hbv := bulkO_mem hmem
          simp only at IHx hbv
          have htk : dO (o.take (q + 1)) = dO (o.take q) ++ [dP (key, x)] := by rw [List.take_add_one, hx, dO_map, dO_map]; simp
          have hqlen : (dO (o.take q)).length = q := by rw [dO_len, List.length_take]; omega
          obtain ⟨⟨hbw, x1, x2, x3, hk, hsx, hw3⟩, hF⟩ := hv.out
          have hz := hbw.size
          have b4 := x3.cell 5
          obtain ⟨k', b', n', t', l', o'⟩ := x
          obtain ⟨la', lc', oa', oc', hvs, c0, c1, c2, c3, c4, c5, c6⟩ := (hLL.below hg hbw).seven hx
          have hC : ∀ W, Below wr.heap.size wr W → Calls Tryz.prog 56 #[.agg #[.int .i64 k', .bool b', .int .i64 n', .string t', .slice la' l'.length lc', .slice oa' o'.length oc']] W (VCopyPost W (.mk k' b' n' t' l' o')) := fun W hW =>
            IHx _ W (HoldsV.more (Nat.le_trans hz hW.size) _ _ (hvs.below (hW.mono hz))) (by omega)
          have hgr : g < wr.heap.size := by omega
          have hg2 : w.heap.size + 2 < wr.heap.size := x3.lt
          have hgl := hF.lt
          have hcell : ∀ W, Below wr.heap.size wr W → (∀ j, j < 7 → ∃ u, W.cell? ⟨wm.heap.size, q * 7 + j, none⟩ = some u) ∧ (∀ j, W.frozen? ⟨wm.heap.size, j, none⟩ = false) := fun W hW => by
            have h1 := (hF.below hW).cell
            exact ⟨fun j hj => h1.1 _ (by omega), h1.2⟩
          have y1 : (q : Int) < (o.length : Int) := by omega
          have n1 : w.heap.size + 2 ≠ wm.heap.size := by omega
          have n2 : wr.heap.size ≠ wm.heap.size := by omega
          have n3 := n1.symm
          have n4 := n2.symm
          have HC := Lib.hid hC
          have Hcell := Lib.hid hcell
          have Htk := Lib.hid htk
          have Hqlen := Lib.hid hqlen
          clear hC hcell htk hqlen
          clear hbw x1 x2 x3 hF hvs hx hmem IHx hLL hk hsx hw3
          go_wp2_with (fail)
          go_region_held3 (fun W => W.cell? ⟨w.heap.size + 2, 5, none⟩ = some (.slice (some ⟨wm.heap.size, 0, none⟩) o.length o.length) ∧ W.cell? ⟨wr.heap.size, 0, none⟩ = some (.string key) ∧ W.cell? ⟨wr.heap.size, 1, none⟩ = some (.int .i64 k') ∧ W.cell? ⟨wr.heap.size, 2, none⟩ = some (.bool b') ∧ W.cell? ⟨wr.heap.size, 3, none⟩ = some (.int .i64 n') ∧ W.cell? ⟨wr.heap.size, 4, none⟩ = some (.string t') ∧ W.cell? ⟨wr.heap.size, 5, none⟩ = some (.slice la' l'.length lc') ∧ W.cell? ⟨wr.heap.size, 6, none⟩ = some (.slice oa' o'.length oc')) (go_keep) (first | (go_at_call 56; refine (HC.out _ ?_).mono ?_; (exact (Below.drew ((Below.refl _ _).alloc (Nat.le_refl _) _))); rintro e w4 ⟨⟨cs4, rfl, hl4, hf4⟩, hb4⟩; obtain ⟨la2, lc2, oa2, oc2, rfl⟩ := six_now hf4; have hbr : Below wr.heap.size wr w4 := ((Below.drew ((Below.refl _ _).alloc (Nat.le_refl _) _)).trans (hb4.mono (by simp))); obtain ⟨hd, hfz⟩ := Hcell.out w4 hbr; obtain ⟨v0, d0⟩ := hd 0 (by omega); obtain ⟨v1, d1⟩ := hd 1 (by omega); obtain ⟨v2, d2⟩ := hd 2 (by omega); obtain ⟨v3, d3⟩ := hd 3 (by omega); obtain ⟨v4, d4⟩ := hd 4 (by omega); obtain ⟨v5, d5⟩ := hd 5 (by omega); obtain ⟨v6, d6⟩ := hd 6 (by omega); rw [Nat.add_zero] at d0; obtain ⟨hc4, hf4'⟩ := bcell' hb4; have g3 := (hbr.cell (p := ⟨w.heap.size + 2, 5, none⟩) hg2).trans b4; clear hd))
          all_goals
            have hf5 : Fresh wr.heap.size w4 (dV (.mk k' b' n' t' l' o')) [.int .i64 k', .bool b', .int .i64 n', .string t', .slice la2 l'.length lc2, .slice oa2 o'.length oc2] := hf4.keep (by simp) (Nat.le_refl _) (fun _ _ _ => rfl)
            have hN := hv.out.step hbr (dP_fresh (key := key) hf5) (by rw [Hqlen.out]; exact hlt) (dP_cells _)
            rw [Hqlen.out, ← Htk.out] at hN
            have HN : Hid (VLoop w wm #[.int .i64 k, .bool b, .int .i64 n, .string t, .slice la l.length lc, .slice (some ⟨g, off, none⟩) o.length oc] #[.int .i64 0, .bool false, .int .i64 0, .string ⟨#[]⟩, .slice none 0 0, .slice none 0 0] #[.int .i64 k, .bool b, .int .i64 n, .string t, .slice aL l.length cL, .slice (some ⟨wm.heap.size, 0, none⟩) o.length o.length] wm.heap.size 7 o.length 60 (dO (o.take (q + 1))) (((((((w4.setCell ⟨wm.heap.size, q * 7, none⟩ (.string key)).setCell ⟨wm.heap.size, q * 7 + 1, none⟩ (.int .i64 k')).setCell ⟨wm.heap.size, q * 7 + 2, none⟩ (.bool b')).setCell ⟨wm.heap.size, q * 7 + 3, none⟩ (.int .i64 n')).setCell ⟨wm.heap.size, q * 7 + 4, none⟩ (.string t')).setCell ⟨wm.heap.size, q * 7 + 5, none⟩ (.slice la2 l'.length lc2)).setCell ⟨wm.heap.size, q * 7 + 6, none⟩ (.slice oa2 o'.length oc2))) := hN
            clear hN hf5 hf4 hb4 hbr hfz hc4 hf4' g3 hv HC Hcell Htk Hqlen b4 c0 c1 c2 c3 c4 c5 c6 d0 d1 d2 d3 d4 d5 d6 n1 n2 n3 n4
            go_wp2
            go_roundw
            case rel => exact ⟨q + 1, by go_num, by omega, HN⟩
            case measure => simp only [intOf]; omega
        · obtain rfl : q = o.length := by omega
          have hv' := hv.out
          rw [List.take_length] at hv'
          have HD := Lib.hid (hv'.done (dO_len _) o.length)
          clear hv hv'
          go_wp2
          go_meet
          exact ⟨_, _, HD⟩

  case rest =>
  obtain ⟨aO, cO, hQ⟩ := hcut
  obtain ⟨⟨z1, z2, z3, z4, z5, z6, z7⟩, hF2⟩ := hQ.out
  obtain ⟨⟨_, _, _, _, _, k6, k7⟩, hF1⟩ := hP.out
  obtain ⟨e0, e1, e2, e3, e4, e5⟩ := vcell z4
  obtain ⟨r0, r1, r2, r3, r4, r5⟩ := vcell z3
  have f2 := fun i => z3.frozen i
  have hz := Lib.hid (And.intro z1 (And.intro z3 (And.intro z5 (And.intro hF1 hF2))))
  clear z1 z2 z3 z4 z5 hF1 hF2 hP hQ HIHo HO HA1 HS2 hmo
  go_wp2
  obtain ⟨W, hW⟩ : ∃ W, ((((((wc.setCell ⟨w.heap.size + 1, 0, none⟩ (.int .i64 k)).setCell ⟨w.heap.size + 1, 1, none⟩ (.bool b)).setCell ⟨w.heap.size + 1, 2, none⟩ (.int .i64 n)).setCell ⟨w.heap.size + 1, 3, none⟩ (.string t)).setCell ⟨w.heap.size + 1, 4, none⟩ (.slice aL l.length cL)).setCell ⟨w.heap.size + 1, 5, none⟩ (.slice aO o.length cO)) = W := ⟨_, rfl⟩
  obtain ⟨q1, q3, q5, qF1, qF2⟩ := hz.out
  have hWh : ∀ c, c ≠ w.heap.size + 1 → W.heap[c]? = wc.heap[c]? := by
    intro c hc
    rw [← hW]
    simp only [setCell_far _ _ _ _ hc]
  have hWs : W.heap.size = wc.heap.size := by rw [← hW]; simp [World.setCell]
  have hWb : Below w.heap.size w W := by
    rw [← hW]
    exact (((((q1.setCell (by simp) _).setCell (by simp) _).setCell (by simp) _).setCell (by simp) _).setCell (by simp) _).setCell (by simp) _
  have hWr : Blk W (w.heap.size + 1) 45 #[.int .i64 k, .bool b, .int .i64 n, .string t, .slice aL l.length cL, .slice aO o.length cO] := by
    rw [← hW]
    exact (((((q3.set_ 0 _).set_ 1 _).set_ 2 _).set_ 3 _).set_ 4 _).set_ 5 _
  obtain ⟨s0, s1, s2, s3, s4, s5⟩ := vcell hWr
  have hFr : Fresh w.heap.size W (dV (.mk k b n t l o)) [.int .i64 k, .bool b, .int .i64 n, .string t, .slice aL l.length cL, .slice aO o.length cO] := by
    have g1 := qF1.keep (b' := w.heap.size) (w' := W) (by omega) (by omega) (fun p p1 p2 => World.cell?_of_block ((hWh _ (by omega)).trans (q5 _ (by omega) p2)))
    have g2 := qF2.keep (b' := w.heap.size) (w' := W) (by omega) (by omega) (fun p p1 p2 => World.cell?_of_block (hWh _ (by omega)))
    intro w'' h1 h2
    simp only [dV, Holds]
    exact HoldsA.six.2 ⟨[.slice aL l.length cL], [.slice aO o.length cO], rfl, rfl, rfl, rfl, rfl, g1 w'' h1 h2, g2 w'' h1 h2⟩
  rw [hW]
  exact bodyPost_ret (v := .agg #[.int .i64 k, .bool b, .int .i64 n, .string t, .slice aL l.length cL, .slice aO o.length cO]) (by simp [results, Tryz.results56, go_sem, s0, s1, s2, s3, s4, s5]) rfl ⟨⟨_, rfl, rfl, hFr⟩, hWb⟩

/-- value.Copy: the same value, in the call's own memory. -/
theorem vcopy_calls : ∀ v, VCopyC v := by
  refine Val.ind ?_
  intro k b n t l o hl ho cs w hV hb
  simp only [HoldsV] at hV
  obtain ⟨la, lc, oa, oc, rfl, hla, hoa⟩ := hV
  simp only [Val.bulk] at hb
  exact vcopy_step k b n t l o la oa oc lc w hl ho hla hoa (by omega) (by omega)
end Go.Proofs.YtjjbbnodmpemiaaGreatDoor
