/- Parts, joined: Keys in order; a list of members has one order. Plain. No condition. sort.Slice of members by their keys, as value.Object calls it. Condition: fewer than 2^62 of them. commonplaceref02.Equal: has one value all that the other one has? Condition: a bulk of at most 10^8. -/
import Derived.Test.YtemceefalkfneaaGreatDoorProg
import Derived.Lib.Strings
import Derived.Test.YtemceefalkfneaaGreatDoorShelf
import Derived.Shelf.SlSortFuncK.WholeK
import Derived.Shelf.GgSortFunc.Tiny
import Derived.Deep.QuietTactic
import Derived.BigQuiet
import Derived.Deep.RegionHeld3
import Derived.Lib.Hide
import Derived.Test.YtemceefalkfneaaGreatDoorKCm1
import Derived.Test.YtemceefalkfneaaGreatDoorKCm12
import Derived.Test.YtemceefalkfneaaGreatDoorKCm14
import Derived.Test.YtemceefalkfneaaGreatDoorKCm16
import Derived.Test.YtemceefalkfneaaGreatDoorKCm20
/- Keys in order; a list of members has one order. Plain. No condition. -/
namespace Go.Proofs.YtemceefalkfneaaGreatDoor
open Go.RowKit

theorem bl_irrefl : ∀ x : List UInt8, Op.bytesLess x x = false
  | [] => rfl
  | a :: x => by simp [Op.bytesLess, bl_irrefl x, UInt8.lt_irrefl]
theorem bl_trans : ∀ {x y z : List UInt8}, Op.bytesLess x y = true → Op.bytesLess y z = true → Op.bytesLess x z = true
  | _, [], _, h, _ => by cases ‹List UInt8› <;> simp [Op.bytesLess] at h
  | _, _ :: _, [], _, h => by simp [Op.bytesLess] at h
  | [], _ :: _, _ :: _, _, _ => rfl
  | a :: x, b :: y, c :: z, h, k => by
    simp only [Op.bytesLess, Bool.or_eq_true, Bool.and_eq_true, decide_eq_true_eq, beq_iff_eq] at h k ⊢
    rcases h with h | ⟨rfl, h⟩ <;> rcases k with k | ⟨rfl, k⟩
    · exact .inl (UInt8.lt_trans h k)
    · exact .inl h
    · exact .inl k
    · exact .inr ⟨rfl, bl_trans h k⟩
theorem bl_tri : ∀ (x y : List UInt8), Op.bytesLess x y = true ∨ x = y ∨ Op.bytesLess y x = true
  | [], [] => .inr (.inl rfl)
  | [], _ :: _ => .inl rfl
  | _ :: _, [] => .inr (.inr rfl)
  | a :: x, b :: y => by
    simp only [Op.bytesLess, Bool.or_eq_true, Bool.and_eq_true, decide_eq_true_eq, beq_iff_eq]
    rcases Nat.lt_trichotomy a.toNat b.toNat with h | h | h
    · exact .inl (.inl (UInt8.lt_iff_toNat_lt.2 h))
    · have hab : a = b := UInt8.toNat_inj.1 h
      subst hab
      rcases bl_tri x y with h | h | h
      · exact .inl (.inr ⟨rfl, h⟩)
      · exact .inr (.inl (by rw [h]))
      · exact .inr (.inr (.inr ⟨rfl, h⟩))
    · exact .inr (.inr (.inl (UInt8.lt_iff_toNat_lt.2 h)))
theorem toList_inj {a b : ByteArray} (h : a.toList = b.toList) : a = b := by
  rw [Lib.toList_data, Lib.toList_data] at h
  exact ByteArray.ext (Array.ext' h)
theorem ltB_irrefl (a : ByteArray) : ltB a a = false := bl_irrefl _
theorem ltB_trans {a b c : ByteArray} (h : ltB a b = true) (k : ltB b c = true) : ltB a c = true := bl_trans h k
theorem ltB_tri (a b : ByteArray) : ltB a b = true ∨ a = b ∨ ltB b a = true := by
  rcases bl_tri a.toList b.toList with h | h | h
  · exact .inl h
  · exact .inr (.inl (toList_inj h))
  · exact .inr (.inr h)
theorem ltB_asym {a b : ByteArray} (h : ltB a b = true) : ltB b a = false := by
  cases e : ltB b a with
  | false => rfl
  | true => have := ltB_trans h e; rw [ltB_irrefl] at this; cases this

/-- Members by rising keys, each once. -/
def ascO (l : List (ByteArray × Val)) : Prop := l.Pairwise fun a b => ltB a.1 b.1 = true

theorem atO_split (k : ByteArray) : ∀ {acc : List (ByteArray × Val)}, ascO acc → hitO k acc = false → (∀ p ∈ acc.take (atO k acc), ltB p.1 k = true) ∧ (∀ p ∈ acc.drop (atO k acc), ltB k p.1 = true)
  | [], _, _ => by simp
  | q :: r, ha, hh => by
    obtain ⟨h1, h2⟩ := List.pairwise_cons.1 ha
    by_cases hq : ltB q.1 k = true
    · have hh' : hitO k r = false := by
        unfold hitO at hh ⊢
        simpa only [atO, if_pos hq, List.getElem?_cons_succ] using hh
      obtain ⟨a, b⟩ := atO_split k h2 hh'
      simp only [atO, if_pos hq, List.take_succ_cons, List.drop_succ_cons]
      refine ⟨fun p hp => ?_, b⟩
      rcases List.mem_cons.1 hp with rfl | hp
      · exact hq
      · exact a p hp
    · simp only [atO, if_neg hq, List.take_zero, List.drop_zero]
      refine ⟨fun p hp => (by cases hp), ?_⟩
      have hne : q.1 ≠ k := by
        intro e
        unfold hitO at hh
        simp only [atO, if_neg hq, List.getElem?_cons_zero, Option.any_some] at hh
        rw [e] at hh
        simp at hh
      have hkq : ltB k q.1 = true := by
        rcases ltB_tri q.1 k with h | h | h
        · exact absurd h hq
        · exact absurd h hne
        · exact h
      intro p hp
      rcases List.mem_cons.1 hp with rfl | hp
      · exact hkq
      · exact ltB_trans hkq (h1 p hp)
theorem putO_asc {m : ByteArray × Val} {acc : List (ByteArray × Val)} (ha : ascO acc) (hh : hitO m.1 acc = false) : ascO (putO m acc) := by
  obtain ⟨h1, h2⟩ := atO_split m.1 ha hh
  have h3 : ascO (acc.take (atO m.1 acc) ++ acc.drop (atO m.1 acc)) := by rw [List.take_append_drop]; exact ha
  obtain ⟨h4, h5, h6⟩ := List.pairwise_append.1 h3
  refine List.pairwise_append.2 ⟨h4, List.pairwise_cons.2 ⟨h2, h5⟩, fun a ha b hb => ?_⟩
  rcases List.mem_cons.1 hb with rfl | hb
  · exact h1 a ha
  · exact h6 a ha b hb
theorem putO_perm (m : ByteArray × Val) (acc : List (ByteArray × Val)) : (putO m acc).Perm (m :: acc) := by
  have h : (acc.take (atO m.1 acc) ++ ([m] ++ acc.drop (atO m.1 acc))).Perm ([m] ++ (acc.take (atO m.1 acc) ++ acc.drop (atO m.1 acc))) := by
    rw [← List.append_assoc, ← List.append_assoc]
    exact List.Perm.append_right _ List.perm_append_comm
  rw [List.take_append_drop] at h
  exact h
theorem hitO_mem {k : ByteArray} {acc : List (ByteArray × Val)} (h : hitO k acc = true) : ∃ v, (k, v) ∈ acc := by
  unfold hitO at h
  cases e : acc[atO k acc]? with
  | none => rw [e] at h; cases h
  | some p =>
    rw [e] at h
    have hk : p.1 = k := toList_inj (by simpa using h)
    exact ⟨p.2, by rw [← hk]; exact List.mem_of_getElem? e⟩
theorem objAll_some : ∀ {l acc o : List (ByteArray × Val)}, objAll l acc = some o → ascO acc → ascO o ∧ o.Perm (l ++ acc)
  | [], acc, o, h, ha => by
    simp only [objAll, Option.some.injEq] at h
    subst h
    exact ⟨ha, List.Perm.refl _⟩
  | m :: r, acc, o, h, ha => by
    simp only [objAll] at h
    by_cases hh : hitO m.1 acc = true
    · rw [if_pos hh] at h; cases h
    · rw [if_neg hh] at h
      obtain ⟨h1, h2⟩ := objAll_some h (putO_asc ha (by simpa using hh))
      exact ⟨h1, h2.trans ((List.Perm.append_left r (putO_perm m acc)).trans List.perm_middle)⟩
theorem asc_keys {l : List (ByteArray × Val)} (h : ascO l) : (l.map (·.1)).Nodup := by
  rw [List.Nodup, List.pairwise_map]
  exact h.imp fun hab e => by rw [e, ltB_irrefl] at hab; cases hab
theorem objAll_none : ∀ {l acc : List (ByteArray × Val)}, objAll l acc = none → ¬((l ++ acc).map (·.1)).Nodup
  | [], acc, h => by simp [objAll] at h
  | m :: r, acc, h => by
    simp only [objAll] at h
    by_cases hh : hitO m.1 acc = true
    · obtain ⟨v, hv⟩ := hitO_mem hh
      intro hn
      rw [List.cons_append, List.map_cons, List.nodup_cons] at hn
      exact hn.1 (List.mem_map.2 ⟨(m.1, v), List.mem_append.2 (.inr hv), rfl⟩)
    · rw [if_neg hh] at h
      intro hn
      refine objAll_none h ?_
      have hp : ((r ++ putO m acc).map (·.1)).Perm ((m :: r ++ acc).map (·.1)) := ((List.Perm.append_left r (putO_perm m acc)).trans List.perm_middle).map _
      exact hp.nodup_iff.2 hn
theorem asc_unique : ∀ {a b : List (ByteArray × Val)}, ascO a → ascO b → a.Perm b → a = b
  | [], b, _, _, h => (List.Perm.nil_eq h)
  | x :: a, [], _, _, h => by have := h.length_eq; simp at this
  | x :: a, y :: b, ha, hb, h => by
    obtain ⟨h1, h2⟩ := List.pairwise_cons.1 ha
    obtain ⟨h3, h4⟩ := List.pairwise_cons.1 hb
    have hxy : x = y := by
      rcases List.mem_cons.1 (h.mem_iff.1 (List.mem_cons_self (a := x))) with e | hx
      · exact e
      · rcases List.mem_cons.1 (h.mem_iff.2 (List.mem_cons_self (a := y))) with e | hy
        · exact e.symm
        · have p := h3 x hx
          have q := h1 y hy
          rw [ltB_asym p] at q
          cases q
    subst hxy
    rw [asc_unique h2 h4 (List.perm_cons _ |>.1 h)]
/-- What a sorted row of these members, without a key twice, must be. -/
theorem objAll_sorted {l d : List (ByteArray × Val)} (hp : d.Perm l) (ha : ascO d) : objAll l [] = some d := by
  cases e : objAll l [] with
  | none =>
    exfalso
    refine objAll_none e ?_
    rw [List.append_nil]
    exact (hp.map (·.1)).nodup_iff.1 (asc_keys ha)
  | some o =>
    obtain ⟨h1, h2⟩ := objAll_some e List.Pairwise.nil
    rw [List.append_nil] at h2
    rw [asc_unique ha h1 (hp.trans h2.symm)]
theorem objAll_twice {l d : List (ByteArray × Val)} (hp : d.Perm l) (ht : ¬(d.map (·.1)).Nodup) : objAll l [] = none := by
  cases e : objAll l [] with
  | none => rfl
  | some o =>
    obtain ⟨h1, h2⟩ := objAll_some e List.Pairwise.nil
    rw [List.append_nil] at h2
    exact absurd ((hp.trans h2.symm).map (·.1) |>.nodup_iff.2 (asc_keys h1)) ht
end Go.Proofs.YtemceefalkfneaaGreatDoor

/- sort.Slice of members by their keys, as value.Object calls it. Condition: fewer than 2^62 of them. -/
namespace Go.Proofs.YtemceefalkfneaaGreatDoor
open Go.RowKit

/-- A member and where its slices lie. -/
abbrev Mx : Type := ByteArray × (Val × ((Option Addr × Nat) × (Option Addr × Nat)))
instance : Inhabited Val := ⟨.mk 0 false 0 ⟨#[]⟩ [] []⟩
def encM : Mx → List Value
  | (key, (.mk k b n t l o, ((la, lc), (oa, oc)))) => [.string key, .int .i64 k, .bool b, .int .i64 n, .string t, .slice la l.length lc, .slice oa o.length oc]
def memM (x : Mx) : ByteArray × Val := (x.1, x.2.1)
theorem encM_len (x : Mx) : (encM x).length = 7 := by
  obtain ⟨key, ⟨k, b, n, t, l, o⟩, ⟨la, lc⟩, oa, oc⟩ := x
  rfl
theorem encM_one (x : Mx) : ∀ v ∈ encM x, v.oneCell' = true := by
  obtain ⟨key, ⟨k, b, n, t, l, o⟩, ⟨la, lc⟩, oa, oc⟩ := x
  intro v hv
  simp only [encM, List.mem_cons, List.not_mem_nil, or_false] at hv
  rcases hv with rfl | rfl | rfl | rfl | rfl | rfl | rfl <;> rfl
theorem encM_key (x : Mx) : (encM x)[0]! = .string x.1 := by
  obtain ⟨key, ⟨k, b, n, t, l, o⟩, ⟨la, lc⟩, oa, oc⟩ := x
  rfl
def ltM (x y : Mx) : Bool := ltB x.1 y.1
theorem swoM : Go.Sort.SWO ltM where
  irrefl x := ltB_irrefl _
  trans x y z h k := ltB_trans h k
  ntrans x y z h k := by
    unfold ltM at *
    cases e : ltB x.1 z.1 with
    | false => rfl
    | true =>
      rcases ltB_tri x.1 y.1 with p | p | p
      · rw [h] at p; cases p
      · rw [p] at e; rw [k] at e; cases e
      · have := ltB_trans p e; rw [k] at this; cases this

/-- The call's own closure. -/
theorem lessM (blk off c Bs size : Nat) (W : World) (G : Nat → ByteArray) (hs : W.cell? ⟨Bs, 0, none⟩ = some (.slice (some ⟨blk, off, none⟩) size c))
    (hc : ∀ t, t < size → W.cell? ⟨blk, off + t * 7, none⟩ = some (.string (G t))) (i j : Nat) (hi : i < size) (hj : j < size) (_hsz : size < 4611686018427387904) :
    Calls Tryz.prog 81 #[.int .i64 i, .int .i64 j, .pointer (some ⟨Bs, 0, none⟩)] W fun e w' => e = .returned (.bool (ltB (G i) (G j))) ∧ ∃ q, w' = W.drewN q := by
  have ci := hc i hi
  have cj := hc j hj
  clear hc
  have i1 : (i : Int) < (size : Int) := by omega
  have j1 : (j : Int) < (size : Int) := by omega
  go_enter Tryz.func81, Tryz.ntmps81
  go_wp2
  go_quiet (fail)
  go_wp2
  go_ret
  exact ⟨rfl, nq, rfl⟩

noncomputable def sortT : TypeInfo := (Tryz.prog.info? 50).get (by kernel_rfl)
noncomputable def sortE : TypeInfo := (Tryz.prog.info? 57).get (by kernel_rfl)
theorem sortK (n : Nat) (h2 : 2 ≤ n) : Lib.swapperK n sortE 25 = 9 := by
  have a : sortE.hasPointers = true := by kernel_rfl
  have b : sortE.bytes = 104 := by kernel_rfl
  have c : (n == 0) = false := by simp; omega
  have d : (n == 1) = false := by simp; omega
  simp [Lib.swapperK, a, b, c, d]

/-- What the sort leaves. -/
def SortPost (w : World) (blk : Nat) (d : Array Mx) (e : Ending) (w' : World) : Prop := e = .returned (.tuple #[]) ∧ ∃ d' : Array Mx, d'.size = d.size ∧ d'.toList.Perm d.toList ∧ Go.Sort.SortedIn ltM 0 d.size d' ∧
  (∀ i, i < d.size → ∀ j, j < 7 → w'.cell? ⟨blk, i * 7 + j, none⟩ = some (encM d'[i]!)[j]!) ∧ (∀ b, b < w.heap.size → b ≠ blk → w'.heap[b]? = w.heap[b]?) ∧ w.heap.size ≤ w'.heap.size ∧ w'.os = w.os ∧ w'.tape = w.tape ∧ w'.output = w.output

theorem sortM_many (blk c Bs : Nat) (d : Array Mx) (h2 : 2 ≤ d.size) (hsz : d.size < 4611686018427387904) (w : World) (hH : Go.Sort.HoldsK encM 7 w blk 0 d) (hblk : blk < w.heap.size)
    (hBs : w.cell? ⟨Bs, 0, none⟩ = some (.slice (some ⟨blk, 0, none⟩) d.size c)) (hB1 : Bs < w.heap.size) (hB2 : Bs ≠ blk) :
    Calls Tryz.prog 80 #[.iface 50 (.slice (some ⟨blk, 0, none⟩) d.size c), .func (.func 81) #[] #[.pointer (some ⟨Bs, 0, none⟩)]] w (SortPost w blk d) := by
  have hless : LessReadsK Tryz.prog 81 #[.pointer (some ⟨Bs, 0, none⟩)] encM 7 ltM blk 0 d.size w := by
    intro m os dk hs i j hi hj
    have e : sortWorldK encM 7 w blk 0 m dk os = Go.Sort.putRowK encM 7 (Go.Sort.grow (Go.Sort.ahead w m) os) blk 0 dk := by
      unfold sortWorldK; rw [Go.Sort.putRowK_grow _ _ (Go.Sort.ahead w m) _ blk 0 _ hblk]
    have hHg : Go.Sort.HoldsK encM 7 (Go.Sort.grow (Go.Sort.ahead w m) os) blk 0 d := Go.Sort.holdsK_grow _ _ _ _ blk 0 d hblk (Go.Sort.holdsK_ahead _ _ _ _ _ _ _ hH)
    refine lessM blk 0 c Bs d.size _ (fun t => dk[t]!.1) ?_ (fun t ht => ?_) i j hi hj (by omega)
    · rw [e, Go.Sort.cell?_putRowK_other _ _ _ blk 0 dk _ (by exact hB2), Go.Sort.cell?_grow _ _ _ (by exact hB1)]; exact hBs
    · rw [e, ← encM_key]; exact ((Go.Sort.holdsK_putRowK _ _ _ blk 0 d dk hHg hs).cell (i := t) (c := 0) (by omega) (by omega)).1
  have hS := Any.sort_Slice_cells_sorted Tryz.sortSlice_lays 50 57 sortT sortE (by kernel_rfl) (by kernel_rfl) (by kernel_rfl) (by kernel_rfl) 25 (fun _ => by kernel_rfl) encM 7 encM_len (by kernel_rfl) (fun _ => by kernel_rfl)
    encM_one ltM swoM 81 _
    (enters_of Tryz.func81 (by kernel_rfl) rfl) blk 0 c d h2 hsz 187 (by rw [sortK _ h2]; kernel_rfl) false
    (fun args W => run_callFunc_extern Tryz.func187 (by kernel_rfl) (by kernel_rfl) (by kernel_rfl) (e := Extern.ReflectliteSwapper.swap false) (by kernel_rfl) args W) w hless hH hblk
  change Calls Tryz.prog 80 _ _ _ at hS
  refine hS.mono ?_
  rintro e w' ⟨rfl, d', n, os, ⟨hs', _, hp⟩, hso, rfl⟩
  have hp' : d'.toList.Perm d.toList := by
    have e1 : d'.extract 0 d.size = d' := by rw [← hs']; simp
    have e2 : d.extract 0 d.size = d := by simp
    rwa [e1, e2] at hp
  have hH2 : Go.Sort.HoldsK encM 7 (Go.Sort.putRowK encM 7 (Go.Sort.ahead w n) blk 0 d') blk 0 d' := Go.Sort.holdsK_putRowK _ _ _ blk 0 d d' (Go.Sort.holdsK_ahead _ _ _ _ _ _ _ hH) hs'
  have hsize : (Go.Sort.putRowK encM 7 (Go.Sort.ahead w n) blk 0 d').heap.size = w.heap.size := by
    simp [Go.Sort.putRowK, Go.Sort.putRow, Go.Sort.mapBlock, Go.Sort.ahead]
  refine ⟨rfl, d', hs', hp', hso, fun i hi j hj => ?_, fun b hb hne => ?_, by rw [Go.Sort.size_grow, hsize]; omega, rfl, rfl, rfl⟩
  · rw [Go.Sort.cell?_grow _ _ _ (by show blk < _; rw [hsize]; exact hblk)]
    have := (hH2.cell (i := i) (c := j) (by omega) hj).1
    rwa [Nat.zero_add] at this
  · show ((Go.Sort.putRowK encM 7 (Go.Sort.ahead w n) blk 0 d').heap ++ os)[b]? = _
    rw [Array.getElem?_append_left (by rw [hsize]; exact hb)]
    simp only [Go.Sort.putRowK, Go.Sort.putRow, Go.Sort.mapBlock, Go.Sort.ahead, Array.getElem?_modify]
    rw [if_neg (fun e => hne e.symm)]
theorem sortM_few (p : Option Addr) (n c Bs : Nat) (h1 : n ≤ 1) (w : World) :
    Calls Tryz.prog 80 #[.iface 50 (.slice p n c), .func (.func 81) #[] #[.pointer (some ⟨Bs, 0, none⟩)]] w fun e w' => e = .returned (.tuple #[]) ∧ Below w.heap.size w w' := by
  have key : ∀ f, Tryz.prog.funcs.findIdx? (·.name == "internal/reflectlite" ++ ".Swapper$" ++ toString (Lib.swapperK n sortE 25)) = some f →
      Calls Tryz.prog 80 #[.iface 50 (.slice p n c), .func (.func 81) #[] #[.pointer (some ⟨Bs, 0, none⟩)]] w fun e w' => e = .returned (.tuple #[]) ∧ Below w.heap.size w w' := by
    intro f hf
    have hS := Any.sort_Slice_tiny Tryz.sortSlice_lays 50 57 sortT sortE (by kernel_rfl) (by kernel_rfl) (by kernel_rfl) (by kernel_rfl) 25 (fun _ => by kernel_rfl) p n c h1 f hf (.func 81) #[] #[.pointer (some ⟨Bs, 0, none⟩)] w
    change Calls Tryz.prog 80 _ _ _ at hS
    refine hS.mono ?_
    rintro e w' ⟨rfl, os, rfl⟩
    refine ⟨rfl, ⟨rfl, rfl, rfl, by rw [Go.Sort.size_grow]; omega, fun i hi => ?_⟩⟩
    show (w.heap ++ os)[i]? = _
    exact Array.getElem?_append_left hi
  rcases Nat.eq_zero_or_pos n with rfl | h0
  · exact key 179 (by kernel_rfl)
  · obtain rfl : n = 1 := by omega
    exact key 180 (by kernel_rfl)
end Go.Proofs.YtemceefalkfneaaGreatDoor

/- commonplaceref02.Equal: has one value all that the other one has? Condition: a bulk of at most 10^8. -/
namespace Go.Proofs.YtemceefalkfneaaGreatDoor
open Go.RowKit

def EqPost (p : Prop) (w : World) (e : Ending) (w' : World) : Prop := ∃ B : Bool, e = .returned (.bool B) ∧ (B = true ↔ p) ∧ Below w.heap.size w w'
theorem EqPost.no {p : Prop} {w w' : World} (h : ¬p) (hb : Below w.heap.size w w') : EqPost p w (.returned (.bool false)) w' := ⟨false, rfl, by simp [h], hb⟩
theorem EqPost.yes {p : Prop} {w w' : World} (h : p) (hb : Below w.heap.size w w') : EqPost p w (.returned (.bool true)) w' := ⟨true, rfl, by simp [h], hb⟩
/-- What Equal does with a value. -/
def EqC (a : Val) : Prop := ∀ (b : Val) (cs cs' : List Value) (w : World), HoldsV w w.heap.size a cs → HoldsV w w.heap.size b cs' → a.bulk ≤ 100000000 → b.bulk ≤ 100000000 →
    Calls Tryz.prog 47 #[.agg cs.toArray, .agg cs'.toArray] w (EqPost (a = b) w)
theorem below_dr' {B : Nat} {a w : World} (h : Below B a w) (n : Nat) : Below B a (w.drewN n) := ⟨h.os, h.tape, h.output, h.size, h.block⟩
theorem two_boxes (w : World) (o o' : Obj) : Below w.heap.size w ((w.alloc o).alloc o') := (alloc_below w o).alloc (by simp) _
theorem eq_bcell {W w1 : World} (hb : Below W.heap.size W w1) : (∀ b o, b < W.heap.size → w1.cell? ⟨b, o, none⟩ = W.cell? ⟨b, o, none⟩) ∧ (∀ b o, b < W.heap.size → w1.frozen? ⟨b, o, none⟩ = W.frozen? ⟨b, o, none⟩) :=
  ⟨fun b o h => hb.cell (p := ⟨b, o, none⟩) h, fun b o h => hb.frozen (p := ⟨b, o, none⟩) h⟩

set_option maxRecDepth 100000 in
set_option maxHeartbeats 2000000 in
theorem eq_diff (k k' : Int) (b b' : Bool) (n n' : Int) (t t' : ByteArray) (la oa la' oa' : Option Addr) (ln lc on oc ln' lc' on' oc' : Nat) (w : World) (p : Prop) (hp : ¬p) (h : k ≠ k' ∨ b ≠ b' ∨ n ≠ n' ∨ t ≠ t' ∨ ln ≠ ln' ∨ on ≠ on') :
    Calls Tryz.prog 47 #[.agg #[.int .i64 k, .bool b, .int .i64 n, .string t, .slice la ln lc, .slice oa on oc], .agg #[.int .i64 k', .bool b', .int .i64 n', .string t', .slice la' ln' lc', .slice oa' on' oc']] w (EqPost p w) := by
  by_cases hk : k = k'
  rotate_left
  · have e : (k != k') = true := by simpa using hk
    clear h hk
    go_enter Tryz.func47, Tryz.ntmps47
    go_wp2
    go_ret
    exact EqPost.no hp (two_boxes _ _ _)
  subst hk
  by_cases hb : b = b'
  rotate_left
  · clear h
    cases b <;> cases b' <;> first | exact absurd rfl hb | (clear hb; go_enter Tryz.func47, Tryz.ntmps47; go_wp2; go_ret; exact EqPost.no hp (two_boxes _ _ _))
  subst hb
  by_cases hn : n = n'
  rotate_left
  · have e : (n != n') = true := by simpa using hn
    clear h hn
    go_enter Tryz.func47, Tryz.ntmps47
    go_wp2
    go_ret
    exact EqPost.no hp (two_boxes _ _ _)
  subst hn
  by_cases ht : t = t'
  rotate_left
  · have e : (t.toList != t'.toList) = true := by simp only [bne_iff_ne]; exact fun e => ht (by rw [Lib.toList_data, Lib.toList_data] at e; exact ByteArray.ext (Array.ext' e))
    have e2 : (t.toList == t'.toList) = false := by simpa using e
    have e3 : ¬ t.toList = t'.toList := by simpa using e
    clear h ht
    go_enter Tryz.func47, Tryz.ntmps47
    go_wp2
    go_ret
    exact EqPost.no hp (two_boxes _ _ _)
  subst ht
  by_cases hln : ln = ln'
  rotate_left
  · have e : ((ln : Int) != (ln' : Int)) = true := by simp; omega
    clear h hln
    go_enter Tryz.func47, Tryz.ntmps47
    go_wp2
    go_ret
    exact EqPost.no hp (two_boxes _ _ _)
  subst hln
  by_cases hon : on = on'
  rotate_left
  · have e : ((on : Int) != (on' : Int)) = true := by simp; omega
    clear h hon
    go_enter Tryz.func47, Tryz.ntmps47
    go_wp2
    go_ret
    exact EqPost.no hp (two_boxes _ _ _)
  subst hon
  simp at h

/-- The call's two boxes. -/
def EA (w : World) (b1 b2 : Array Value) (wr : World) : Prop := Below w.heap.size w wr ∧ Blk wr w.heap.size 52 b1 ∧ Blk wr (w.heap.size + 1) 52 b2
theorem EA.step {w : World} {b1 b2 : Array Value} {wr w4 : World} (h : EA w b1 b2 wr) (hb : Below wr.heap.size wr w4) : EA w b1 b2 w4 := ⟨h.1.trans (hb.mono h.1.size), h.2.1.below hb h.2.1.lt, h.2.2.below hb h.2.2.lt⟩
theorem take_eq_of {α : Type} {l l' : List α} {q : Nat} {x x' : α} (h : l.take q = l'.take q) (hx : l[q]? = some x) (hx' : l'[q]? = some x') (e : x = x') : l.take (q + 1) = l'.take (q + 1) := by
  rw [List.take_add_one, List.take_add_one, hx, hx', h, e]
theorem ne_of_at {α : Type} {l l' : List α} {q : Nat} {x x' : α} (hx : l[q]? = some x) (hx' : l'[q]? = some x') (e : x ≠ x') : l ≠ l' := by
  rintro rfl
  rw [hx] at hx'
  exact e (Option.some.inj hx')

set_option maxRecDepth 100000 in
set_option maxHeartbeats 8000000 in
theorem eq_same (k : Int) (b : Bool) (n : Int) (t : ByteArray) (l l' : List Val) (o o' : List (ByteArray × Val)) (la oa la' oa' : Option Addr) (lc oc lc' oc' : Nat) (w : World) (IH : ∀ v ∈ l, EqC v) (IHo : ∀ m ∈ o, EqC m.2)
    (hln : l.length = l'.length) (hon : o.length = o'.length)
    (hl : l = [] ∨ ∃ g off, la = some ⟨g, off, none⟩ ∧ g < w.heap.size ∧ HoldsL w w.heap.size l g off) (hl' : l' = [] ∨ ∃ g off, la' = some ⟨g, off, none⟩ ∧ g < w.heap.size ∧ HoldsL w w.heap.size l' g off)
    (ho : o = [] ∨ ∃ g off, oa = some ⟨g, off, none⟩ ∧ g < w.heap.size ∧ HoldsO w w.heap.size o g off) (ho' : o' = [] ∨ ∃ g off, oa' = some ⟨g, off, none⟩ ∧ g < w.heap.size ∧ HoldsO w w.heap.size o' g off)
    (hbl : bulkL l ≤ 100000000) (hbl' : bulkL l' ≤ 100000000) (hbo : bulkO o ≤ 100000000) (hbo' : bulkO o' ≤ 100000000) :
    Calls Tryz.prog 47 #[.agg #[.int .i64 k, .bool b, .int .i64 n, .string t, .slice la l.length lc, .slice oa o.length oc], .agg #[.int .i64 k, .bool b, .int .i64 n, .string t, .slice la' l.length lc', .slice oa' o.length oc']] w (EqPost (l = l' ∧ o = o') w) := by
  have hlb := bulkL_len l
  have hob := bulkO_len o
  have hA0 : EA w #[.int .i64 k, .bool b, .int .i64 n, .string t, .slice la l.length lc, .slice oa o.length oc] #[.int .i64 k, .bool b, .int .i64 n, .string t, .slice la' l.length lc', .slice oa' o.length oc'] ((w.alloc (.cells #[.int .i64 k, .bool b, .int .i64 n, .string t, .slice la l.length lc, .slice oa o.length oc] 52)).alloc (.cells #[.int .i64 k, .bool b, .int .i64 n, .string t, .slice la' l.length lc', .slice oa' o.length oc'] 52)) := by
    refine ⟨two_boxes _ _ _, (Blk.new w 52 #[.int .i64 k, .bool b, .int .i64 n, .string t, .slice la l.length lc, .slice oa o.length oc]).alloc _, ?_⟩
    have := Blk.new (w.alloc (.cells #[.int .i64 k, .bool b, .int .i64 n, .string t, .slice la l.length lc, .slice oa o.length oc] 52)) 52 #[.int .i64 k, .bool b, .int .i64 n, .string t, .slice la' l.length lc', .slice oa' o.length oc']
    simpa using this
  have h00 : l.take 0 = l'.take 0 := by simp
  have HIH := Lib.hid IH
  have HIHo := Lib.hid IHo
  have HA0 := Lib.hid hA0
  have H00 := Lib.hid h00
  have Hln := Lib.hid hln
  have Hon := Lib.hid hon
  have Hl := Lib.hid hl
  have Hl' := Lib.hid hl'
  have Ho := Lib.hid ho
  have Ho' := Lib.hid ho'
  clear hA0 h00 hln hon hl hl' ho ho'
  clear IH IHo
  go_enter Tryz.func47, Tryz.ntmps47
  go_wp2_with (fail)
  obtain ⟨w0, hw0⟩ : ∃ w0, (w.alloc (.cells #[.int .i64 k, .bool b, .int .i64 n, .string t, .slice la l.length lc, .slice oa o.length oc] 52)).alloc (.cells #[.int .i64 k, .bool b, .int .i64 n, .string t, .slice la' l.length lc', .slice oa' o.length oc'] 52) = w0 := ⟨_, rfl⟩
  rw [hw0] at HA0 ⊢
  clear hw0
  go_loopw [5] (fun i wr => ∃ q : Nat, i = .int .i64 q ∧ q ≤ l.length ∧ Hid (l.take q = l'.take q) ∧ Hid (EA w #[.int .i64 k, .bool b, .int .i64 n, .string t, .slice la l.length lc, .slice oa o.length oc] #[.int .i64 k, .bool b, .int .i64 n, .string t, .slice la' l.length lc', .slice oa' o.length oc'] wr)) (fun i _ => l.length - (intOf i).toNat)
  case atStart => exact ⟨0, rfl, Nat.zero_le _, H00, HA0⟩
  case round =>
    obtain ⟨q, rfl, hq, htk, hea⟩ := hrel
    clear H00 HA0
    have m1 := hea.out.2.1.cell 4
    have m2 := hea.out.2.2.cell 4
    by_cases hlt : q < l.length
    · have hlt' : q < l'.length := by have := Hln.out; omega
      obtain ⟨g, off, rfl, hg, hLL⟩ : ∃ g off, la = some ⟨g, off, none⟩ ∧ g < w.heap.size ∧ HoldsL w w.heap.size l g off := Hl.out.resolve_left (by intro e; rw [e] at hlt; simp at hlt)
      obtain ⟨g', off', rfl, hg', hLL'⟩ : ∃ g off, la' = some ⟨g, off, none⟩ ∧ g < w.heap.size ∧ HoldsL w w.heap.size l' g off := Hl'.out.resolve_left (by intro e; rw [e] at hlt'; simp at hlt')
      obtain ⟨x, hx⟩ : ∃ v, l[q]? = some v := ⟨_, List.getElem?_eq_getElem hlt⟩
      obtain ⟨x', hx'⟩ : ∃ v, l'[q]? = some v := ⟨_, List.getElem?_eq_getElem hlt'⟩
      have IHx := HIH.out _ (List.mem_of_getElem? hx)
      have hbv := bulkL_mem (List.mem_of_getElem? hx)
      have hbv' := bulkL_mem (List.mem_of_getElem? hx')
      have := trivial
      have hbw := hea.out.1
      have hz := hbw.size
      have hT := fun e => take_eq_of htk.out hx hx' e
      have hN := fun e => ne_of_at hx hx' e
      obtain ⟨xv, hxv⟩ : ∃ xv, x = xv := ⟨_, rfl⟩
      obtain ⟨xv', hxv'⟩ : ∃ xv, x' = xv := ⟨_, rfl⟩
      obtain ⟨k1, b1, n1, t1, l1, o1⟩ := x
      obtain ⟨k2, b2, n2, t2, l2, o2⟩ := x'
      obtain ⟨la1, lc1, oa1, oc1, hv1, c0, c1, c2, c3, c4, c5⟩ := (hLL.below hg hbw).six hx
      obtain ⟨la2, lc2, oa2, oc2, hv2, d0, d1, d2, d3, d4, d5⟩ := (hLL'.below hg' hbw).six hx'
      have hC : ∀ W, Below wr.heap.size wr W → Calls Tryz.prog 47 #[.agg #[.int .i64 k1, .bool b1, .int .i64 n1, .string t1, .slice la1 l1.length lc1, .slice oa1 o1.length oc1], .agg #[.int .i64 k2, .bool b2, .int .i64 n2, .string t2, .slice la2 l2.length lc2, .slice oa2 o2.length oc2]] W (EqPost (xv = xv') W) := fun W hW => by
        rw [← hxv, ← hxv']
        exact IHx _ _ _ W (HoldsV.more (Nat.le_trans hz hW.size) _ _ (hv1.below (hW.mono hz))) (HoldsV.more (Nat.le_trans hz hW.size) _ _ (hv2.below (hW.mono hz))) (by omega) (by omega)
      rw [hxv, hxv'] at hT hN
      have z1 : g < wr.heap.size := by omega
      have z2 : g' < wr.heap.size := by omega
      have z3 : w.heap.size < wr.heap.size := hea.out.2.1.lt
      have z4 : w.heap.size + 1 < wr.heap.size := hea.out.2.2.lt
      have z5 : (q : Int) < (l.length : Int) := by omega
      have HC := Lib.hid hC
      have HT := Lib.hid hT
      have HN := Lib.hid hN
      clear hC hT hN
      clear hbw hv1 hv2 hx hx' IHx hLL hLL' hxv hxv' htk
      go_wp2_with (fail)
      go_region_held3 (fun W => W.cell? ⟨w.heap.size, 4, none⟩ = some (.slice (some ⟨g, off, none⟩) l.length lc) ∧ W.cell? ⟨w.heap.size + 1, 4, none⟩ = some (.slice (some ⟨g', off', none⟩) l.length lc') ∧ W.cell? ⟨g, off + q * 6, none⟩ = some (.int .i64 k1) ∧ W.cell? ⟨g, off + q * 6 + 1, none⟩ = some (.bool b1) ∧ W.cell? ⟨g, off + q * 6 + 2, none⟩ = some (.int .i64 n1) ∧ W.cell? ⟨g, off + q * 6 + 3, none⟩ = some (.string t1) ∧ W.cell? ⟨g, off + q * 6 + 4, none⟩ = some (.slice la1 l1.length lc1) ∧ W.cell? ⟨g, off + q * 6 + 5, none⟩ = some (.slice oa1 o1.length oc1) ∧ W.cell? ⟨g', off' + q * 6, none⟩ = some (.int .i64 k2) ∧ W.cell? ⟨g', off' + q * 6 + 1, none⟩ = some (.bool b2) ∧ W.cell? ⟨g', off' + q * 6 + 2, none⟩ = some (.int .i64 n2) ∧ W.cell? ⟨g', off' + q * 6 + 3, none⟩ = some (.string t2) ∧ W.cell? ⟨g', off' + q * 6 + 4, none⟩ = some (.slice la2 l2.length lc2) ∧ W.cell? ⟨g', off' + q * 6 + 5, none⟩ = some (.slice oa2 o2.length oc2)) (go_keep) (first | (go_at_call 47; refine (HC.out _ ?_).mono ?_; (exact (Below.drew (Below.refl _ _))); rintro e w4 ⟨B, rfl, hB, hb4⟩; have hbr : Below wr.heap.size wr w4 := ((Below.drew (Below.refl _ _)).trans hb4); obtain ⟨hc4, hf4⟩ := eq_bcell hbr))
      all_goals
        have HE4 : Hid (EA w #[.int .i64 k, .bool b, .int .i64 n, .string t, .slice (some ⟨g, off, none⟩) l.length lc, .slice oa o.length oc] #[.int .i64 k, .bool b, .int .i64 n, .string t, .slice (some ⟨g', off', none⟩) l.length lc', .slice oa' o.length oc'] w4) := hea.out.step hbr
        clear hb4 hbr hc4 hf4 hea
        cases B with
        | true =>
          have HT' := Lib.hid (HT.out ((hB.1 rfl)))
          clear hB HT HN
          go_wp2
          go_roundw
          case rel => exact ⟨q + 1, by go_num, by omega, HT', HE4⟩
          case measure => simp only [intOf]; omega
        | false =>
          have hno : ¬(l = l' ∧ o = o') := fun h => HN.out ((fun e => by have := hB.2 e; cases this)) h.1
          have Hno := Lib.hid hno
          clear hB HT HN hno
          go_wp2
          go_ret
          exact EqPost.no Hno.out HE4.out.1
    · obtain rfl : q = l.length := by omega
      have hE := htk.out
      rw [List.take_length, Hln.out, List.take_length] at hE
      have HE := Lib.hid hE
      clear hE
      clear htk
      have HE0 := HE
      clear HE m1 m2
      obtain ⟨wo, hwo⟩ : ∃ wo : World, wo = wr := ⟨_, rfl⟩
      subst hwo
      have hb5 := hea.out.2.1.cell 5
      have h01 : o.take 0 = o'.take 0 := by simp
      have H01 := Lib.hid h01
      clear h01
      have m4 := hea.out.2.1.cell 4
      go_wp2_with (fail)
      clear m4
      go_loopw [6] (fun i wr => ∃ q : Nat, i = .int .i64 q ∧ q ≤ o.length ∧ Hid (o.take q = o'.take q) ∧ Hid (EA w #[.int .i64 k, .bool b, .int .i64 n, .string t, .slice la l.length lc, .slice oa o.length oc] #[.int .i64 k, .bool b, .int .i64 n, .string t, .slice la' l.length lc', .slice oa' o.length oc'] wr)) (fun i _ => o.length - (intOf i).toNat)
      case atStart => exact ⟨0, rfl, Nat.zero_le _, H01, hea⟩
      case round =>
        obtain ⟨q, rfl, hq, htk, hea⟩ := hrel
        clear H01
        have m1 := hea.out.2.1.cell 5
        have m2 := hea.out.2.2.cell 5
        by_cases hlt : q < o.length
        · have hlt' : q < o'.length := by have := Hon.out; omega
          obtain ⟨g, off, rfl, hg, hLL⟩ : ∃ g off, oa = some ⟨g, off, none⟩ ∧ g < w.heap.size ∧ HoldsO w w.heap.size o g off := Ho.out.resolve_left (by intro e; rw [e] at hlt; simp at hlt)
          obtain ⟨g', off', rfl, hg', hLL'⟩ : ∃ g off, oa' = some ⟨g, off, none⟩ ∧ g < w.heap.size ∧ HoldsO w w.heap.size o' g off := Ho'.out.resolve_left (by intro e; rw [e] at hlt'; simp at hlt')
          obtain ⟨⟨key, x⟩, hx⟩ : ∃ v, o[q]? = some v := ⟨_, List.getElem?_eq_getElem hlt⟩
          obtain ⟨⟨key', x'⟩, hx'⟩ : ∃ v, o'[q]? = some v := ⟨_, List.getElem?_eq_getElem hlt'⟩
          have IHx := HIHo.out _ (List.mem_of_getElem? hx)
          have hbv := bulkO_mem (List.mem_of_getElem? hx)
          have hbv' := bulkO_mem (List.mem_of_getElem? hx')
          simp only at IHx hbv hbv'
          have hbw := hea.out.1
          have hz := hbw.size
          have hT := fun e => take_eq_of htk.out hx hx' e
          have hN := fun e => ne_of_at hx hx' e
          obtain ⟨xv, hxv⟩ : ∃ xv, x = xv := ⟨_, rfl⟩
          obtain ⟨xv', hxv'⟩ : ∃ xv, x' = xv := ⟨_, rfl⟩
          obtain ⟨k1, b1, n1, t1, l1, o1⟩ := x
          obtain ⟨k2, b2, n2, t2, l2, o2⟩ := x'
          obtain ⟨la1, lc1, oa1, oc1, hv1, c0, c1, c2, c3, c4, c5, c6⟩ := (hLL.below hg hbw).seven hx
          obtain ⟨la2, lc2, oa2, oc2, hv2, d0, d1, d2, d3, d4, d5, d6⟩ := (hLL'.below hg' hbw).seven hx'
          have hC : ∀ W, Below wr.heap.size wr W → Calls Tryz.prog 47 #[.agg #[.int .i64 k1, .bool b1, .int .i64 n1, .string t1, .slice la1 l1.length lc1, .slice oa1 o1.length oc1], .agg #[.int .i64 k2, .bool b2, .int .i64 n2, .string t2, .slice la2 l2.length lc2, .slice oa2 o2.length oc2]] W (EqPost (xv = xv') W) := fun W hW => by
            rw [← hxv, ← hxv']
            exact IHx _ _ _ W (HoldsV.more (Nat.le_trans hz hW.size) _ _ (hv1.below (hW.mono hz))) (HoldsV.more (Nat.le_trans hz hW.size) _ _ (hv2.below (hW.mono hz))) (by omega) (by omega)
          rw [hxv, hxv'] at hT hN
          have z1 : g < wr.heap.size := by omega
          have z2 : g' < wr.heap.size := by omega
          have z3 : w.heap.size < wr.heap.size := hea.out.2.1.lt
          have z4 : w.heap.size + 1 < wr.heap.size := hea.out.2.2.lt
          have z5 : (q : Int) < (o.length : Int) := by omega
          have HC := Lib.hid hC
          have HT := Lib.hid hT
          have HN := Lib.hid hN
          clear hC hT hN
          clear hbw hv1 hv2 hx hx' IHx hLL hLL' hxv hxv' htk
          by_cases hk : key.toList = key'.toList
          · have hkk := toList_inj hk
            subst hkk
            have e1 : (key.toList != key.toList) = false := by simp
            clear hk
            go_wp2_with (fail)
            go_region_held3 (fun W => W.cell? ⟨w.heap.size, 5, none⟩ = some (.slice (some ⟨g, off, none⟩) o.length oc) ∧ W.cell? ⟨w.heap.size + 1, 5, none⟩ = some (.slice (some ⟨g', off', none⟩) o.length oc') ∧ W.cell? ⟨g, off + q * 7, none⟩ = some (.string key) ∧ W.cell? ⟨g, off + q * 7 + 1, none⟩ = some (.int .i64 k1) ∧ W.cell? ⟨g, off + q * 7 + 2, none⟩ = some (.bool b1) ∧ W.cell? ⟨g, off + q * 7 + 3, none⟩ = some (.int .i64 n1) ∧ W.cell? ⟨g, off + q * 7 + 4, none⟩ = some (.string t1) ∧ W.cell? ⟨g, off + q * 7 + 5, none⟩ = some (.slice la1 l1.length lc1) ∧ W.cell? ⟨g, off + q * 7 + 6, none⟩ = some (.slice oa1 o1.length oc1) ∧ W.cell? ⟨g', off' + q * 7, none⟩ = some (.string key) ∧ W.cell? ⟨g', off' + q * 7 + 1, none⟩ = some (.int .i64 k2) ∧ W.cell? ⟨g', off' + q * 7 + 2, none⟩ = some (.bool b2) ∧ W.cell? ⟨g', off' + q * 7 + 3, none⟩ = some (.int .i64 n2) ∧ W.cell? ⟨g', off' + q * 7 + 4, none⟩ = some (.string t2) ∧ W.cell? ⟨g', off' + q * 7 + 5, none⟩ = some (.slice la2 l2.length lc2) ∧ W.cell? ⟨g', off' + q * 7 + 6, none⟩ = some (.slice oa2 o2.length oc2)) (go_keep) (first | (go_at_call 47; refine (HC.out _ ?_).mono ?_; (exact (Below.drew (Below.refl _ _))); rintro e w4 ⟨B, rfl, hB, hb4⟩; have hbr : Below wr.heap.size wr w4 := ((Below.drew (Below.refl _ _)).trans hb4); obtain ⟨hc4, hf4⟩ := eq_bcell hbr))
            all_goals
              have HE4 : Hid (EA w #[.int .i64 k, .bool b, .int .i64 n, .string t, .slice la l.length lc, .slice (some ⟨g, off, none⟩) o.length oc] #[.int .i64 k, .bool b, .int .i64 n, .string t, .slice la' l.length lc', .slice (some ⟨g', off', none⟩) o.length oc'] w4) := hea.out.step hbr
              clear hb4 hbr hc4 hf4 hea
              cases B with
              | true =>
                have HT' := Lib.hid (HT.out (by rw [hB.1 rfl]))
                clear hB HT HN
                go_wp2
                go_roundw
                case rel => exact ⟨q + 1, by go_num, by omega, HT', HE4⟩
                case measure => simp only [intOf]; omega
              | false =>
                have hno : ¬(l = l' ∧ o = o') := fun h => HN.out (fun e => by have := hB.2 (congrArg Prod.snd e); cases this) h.2
                have Hno := Lib.hid hno
                clear hB HT HN hno
                go_wp2
                go_ret
                exact EqPost.no Hno.out HE4.out.1
          · have e1 : (key.toList != key'.toList) = true := by simpa using hk
            have e2 : (key.toList == key'.toList) = false := by simpa using hk
            have hno : ¬(l = l' ∧ o = o') := fun h => HN.out (fun e => hk (by have e5 := congrArg Prod.fst e; simp only at e5; rw [e5])) h.2
            have Hno := Lib.hid hno
            have Hk := Lib.hid hk
            clear hno hk
            clear HC HT HN
            go_wp2_with (fail)
            go_quiet (fail)
            go_wp2
            go_ret
            exact EqPost.no Hno.out (by first | exact below_dr' hea.out.1 _ | exact below_dr' (below_dr' hea.out.1 _) _)
        · obtain rfl : q = o.length := by omega
          have hE := htk.out
          rw [List.take_length, Hon.out, List.take_length] at hE
          have HE := Lib.hid hE
          clear hE
          clear htk
          go_wp2
          go_ret
          exact EqPost.yes ⟨HE0.out, HE.out⟩ hea.out.1

/-- commonplaceref02.Equal: yes of a value and itself alone. -/
theorem req_calls : ∀ a, EqC a := by
  refine Val.ind ?_
  intro k b n t l o hl ho b' cs cs' w hV hV' hb hb'
  obtain ⟨k', b', n', t', l', o'⟩ := b'
  simp only [HoldsV] at hV hV'
  obtain ⟨la, lc, oa, oc, rfl, hla, hoa⟩ := hV
  obtain ⟨la', lc', oa', oc', rfl, hla', hoa'⟩ := hV'
  simp only [Val.bulk] at hb hb'
  by_cases hd : k ≠ k' ∨ b ≠ b' ∨ n ≠ n' ∨ t ≠ t' ∨ l.length ≠ l'.length ∨ o.length ≠ o'.length
  · exact eq_diff k k' b b' n n' t t' la oa la' oa' l.length lc o.length oc l'.length lc' o'.length oc' w _ (by rintro ⟨⟩; simp at hd) hd
  · simp only [not_or, Decidable.not_not] at hd
    obtain ⟨rfl, rfl, rfl, rfl, e1, e2⟩ := hd
    have := eq_same k b n t l l' o o' la oa la' oa' lc oc lc' oc' w hl ho e1 e2 hla hla' hoa hoa' (by omega) (by omega) (by omega) (by omega)
    rw [e1, e2] at this
    refine (show cells6 k b n t la l.length lc oa o.length oc = _ by rw [e1, e2]) ▸ this.mono ?_
    rintro e w' ⟨B, rfl, hB, hb⟩
    exact ⟨B, rfl, by rw [hB]; simp, hb⟩
end Go.Proofs.YtemceefalkfneaaGreatDoor
