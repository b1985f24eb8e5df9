/- Parts, joined: Keys in order; a list of members has one order. Plain. No condition. sort.Slice of members by their keys, as value.Object calls it. Condition: fewer than 2^62 of them. -/
import Derived.Test.YtkoliaodkojghaaGreatDoorProg
import Derived.Lib.Strings
import Derived.Test.YtkoliaodkojghaaGreatDoorShelf
import Derived.Shelf.SlSortFuncK.WholeK
import Derived.Shelf.GgSortFunc.Tiny
import Derived.Deep.QuietTactic
import Derived.BigQuiet
import Derived.Test.YtkoliaodkojghaaGreatDoorKPush25
import Derived.Test.YtkoliaodkojghaaGreatDoorKPush29
/- Keys in order; a list of members has one order. Plain. No condition. -/
namespace Go.Proofs.YtkoliaodkojghaaGreatDoor
open Go.RowKit

theorem bl_irrefl : ∀ x : List UInt8, Op.bytesLess x x = false
  | [] => rfl
  | a :: x => by simp [Op.bytesLess, bl_irrefl x, UInt8.lt_irrefl]
theorem bl_trans : ∀ {x y z : List UInt8}, Op.bytesLess x y = true → Op.bytesLess y z = true → Op.bytesLess x z = true
  | _, [], _, h, _ => by cases ‹List UInt8› <;> simp [Op.bytesLess] at h
  | _, _ :: _, [], _, h => by simp [Op.bytesLess] at h
  | [], _ :: _, _ :: _, _, _ => rfl
  | a :: x, b :: y, c :: z, h, k => by
    simp only [Op.bytesLess, Bool.or_eq_true, Bool.and_eq_true, decide_eq_true_eq, beq_iff_eq] at h k ⊢
    rcases h with h | ⟨rfl, h⟩ <;> rcases k with k | ⟨rfl, k⟩
    · exact .inl (UInt8.lt_trans h k)
    · exact .inl h
    · exact .inl k
    · exact .inr ⟨rfl, bl_trans h k⟩
theorem bl_tri : ∀ (x y : List UInt8), Op.bytesLess x y = true ∨ x = y ∨ Op.bytesLess y x = true
  | [], [] => .inr (.inl rfl)
  | [], _ :: _ => .inl rfl
  | _ :: _, [] => .inr (.inr rfl)
  | a :: x, b :: y => by
    simp only [Op.bytesLess, Bool.or_eq_true, Bool.and_eq_true, decide_eq_true_eq, beq_iff_eq]
    rcases Nat.lt_trichotomy a.toNat b.toNat with h | h | h
    · exact .inl (.inl (UInt8.lt_iff_toNat_lt.2 h))
    · have hab : a = b := UInt8.toNat_inj.1 h
      subst hab
      rcases bl_tri x y with h | h | h
      · exact .inl (.inr ⟨rfl, h⟩)
      · exact .inr (.inl (by rw [h]))
      · exact .inr (.inr (.inr ⟨rfl, h⟩))
    · exact .inr (.inr (.inl (UInt8.lt_iff_toNat_lt.2 h)))
theorem toList_inj {a b : ByteArray} (h : a.toList = b.toList) : a = b := by
  rw [Lib.toList_data, Lib.toList_data] at h
  exact ByteArray.ext (Array.ext' h)
theorem ltB_irrefl (a : ByteArray) : ltB a a = false := bl_irrefl _
theorem ltB_trans {a b c : ByteArray} (h : ltB a b = true) (k : ltB b c = true) : ltB a c = true := bl_trans h k
theorem ltB_tri (a b : ByteArray) : ltB a b = true ∨ a = b ∨ ltB b a = true := by
  rcases bl_tri a.toList b.toList with h | h | h
  · exact .inl h
  · exact .inr (.inl (toList_inj h))
  · exact .inr (.inr h)
theorem ltB_asym {a b : ByteArray} (h : ltB a b = true) : ltB b a = false := by
  cases e : ltB b a with
  | false => rfl
  | true => have := ltB_trans h e; rw [ltB_irrefl] at this; cases this

/-- Members by rising keys, each once. -/
def ascO (l : List (ByteArray × Val)) : Prop := l.Pairwise fun a b => ltB a.1 b.1 = true

theorem atO_split (k : ByteArray) : ∀ {acc : List (ByteArray × Val)}, ascO acc → hitO k acc = false → (∀ p ∈ acc.take (atO k acc), ltB p.1 k = true) ∧ (∀ p ∈ acc.drop (atO k acc), ltB k p.1 = true)
  | [], _, _ => by simp
  | q :: r, ha, hh => by
    obtain ⟨h1, h2⟩ := List.pairwise_cons.1 ha
    by_cases hq : ltB q.1 k = true
    · have hh' : hitO k r = false := by
        unfold hitO at hh ⊢
        simpa only [atO, if_pos hq, List.getElem?_cons_succ] using hh
      obtain ⟨a, b⟩ := atO_split k h2 hh'
      simp only [atO, if_pos hq, List.take_succ_cons, List.drop_succ_cons]
      refine ⟨fun p hp => ?_, b⟩
      rcases List.mem_cons.1 hp with rfl | hp
      · exact hq
      · exact a p hp
    · simp only [atO, if_neg hq, List.take_zero, List.drop_zero]
      refine ⟨fun p hp => (by cases hp), ?_⟩
      have hne : q.1 ≠ k := by
        intro e
        unfold hitO at hh
        simp only [atO, if_neg hq, List.getElem?_cons_zero, Option.any_some] at hh
        rw [e] at hh
        simp at hh
      have hkq : ltB k q.1 = true := by
        rcases ltB_tri q.1 k with h | h | h
        · exact absurd h hq
        · exact absurd h hne
        · exact h
      intro p hp
      rcases List.mem_cons.1 hp with rfl | hp
      · exact hkq
      · exact ltB_trans hkq (h1 p hp)
theorem putO_asc {m : ByteArray × Val} {acc : List (ByteArray × Val)} (ha : ascO acc) (hh : hitO m.1 acc = false) : ascO (putO m acc) := by
  obtain ⟨h1, h2⟩ := atO_split m.1 ha hh
  have h3 : ascO (acc.take (atO m.1 acc) ++ acc.drop (atO m.1 acc)) := by rw [List.take_append_drop]; exact ha
  obtain ⟨h4, h5, h6⟩ := List.pairwise_append.1 h3
  refine List.pairwise_append.2 ⟨h4, List.pairwise_cons.2 ⟨h2, h5⟩, fun a ha b hb => ?_⟩
  rcases List.mem_cons.1 hb with rfl | hb
  · exact h1 a ha
  · exact h6 a ha b hb
theorem putO_perm (m : ByteArray × Val) (acc : List (ByteArray × Val)) : (putO m acc).Perm (m :: acc) := by
  have h : (acc.take (atO m.1 acc) ++ ([m] ++ acc.drop (atO m.1 acc))).Perm ([m] ++ (acc.take (atO m.1 acc) ++ acc.drop (atO m.1 acc))) := by
    rw [← List.append_assoc, ← List.append_assoc]
    exact List.Perm.append_right _ List.perm_append_comm
  rw [List.take_append_drop] at h
  exact h
theorem hitO_mem {k : ByteArray} {acc : List (ByteArray × Val)} (h : hitO k acc = true) : ∃ v, (k, v) ∈ acc := by
  unfold hitO at h
  cases e : acc[atO k acc]? with
  | none => rw [e] at h; cases h
  | some p =>
    rw [e] at h
    have hk : p.1 = k := toList_inj (by simpa using h)
    exact ⟨p.2, by rw [← hk]; exact List.mem_of_getElem? e⟩
theorem objAll_some : ∀ {l acc o : List (ByteArray × Val)}, objAll l acc = some o → ascO acc → ascO o ∧ o.Perm (l ++ acc)
  | [], acc, o, h, ha => by
    simp only [objAll, Option.some.injEq] at h
    subst h
    exact ⟨ha, List.Perm.refl _⟩
  | m :: r, acc, o, h, ha => by
    simp only [objAll] at h
    by_cases hh : hitO m.1 acc = true
    · rw [if_pos hh] at h; cases h
    · rw [if_neg hh] at h
      obtain ⟨h1, h2⟩ := objAll_some h (putO_asc ha (by simpa using hh))
      exact ⟨h1, h2.trans ((List.Perm.append_left r (putO_perm m acc)).trans List.perm_middle)⟩
theorem asc_keys {l : List (ByteArray × Val)} (h : ascO l) : (l.map (·.1)).Nodup := by
  rw [List.Nodup, List.pairwise_map]
  exact h.imp fun hab e => by rw [e, ltB_irrefl] at hab; cases hab
theorem objAll_none : ∀ {l acc : List (ByteArray × Val)}, objAll l acc = none → ¬((l ++ acc).map (·.1)).Nodup
  | [], acc, h => by simp [objAll] at h
  | m :: r, acc, h => by
    simp only [objAll] at h
    by_cases hh : hitO m.1 acc = true
    · obtain ⟨v, hv⟩ := hitO_mem hh
      intro hn
      rw [List.cons_append, List.map_cons, List.nodup_cons] at hn
      exact hn.1 (List.mem_map.2 ⟨(m.1, v), List.mem_append.2 (.inr hv), rfl⟩)
    · rw [if_neg hh] at h
      intro hn
      refine objAll_none h ?_
      have hp : ((r ++ putO m acc).map (·.1)).Perm ((m :: r ++ acc).map (·.1)) := ((List.Perm.append_left r (putO_perm m acc)).trans List.perm_middle).map _
      exact hp.nodup_iff.2 hn
theorem asc_unique : ∀ {a b : List (ByteArray × Val)}, ascO a → ascO b → a.Perm b → a = b
  | [], b, _, _, h => (List.Perm.nil_eq h)
  | x :: a, [], _, _, h => by have := h.length_eq; simp at this
  | x :: a, y :: b, ha, hb, h => by
    obtain ⟨h1, h2⟩ := List.pairwise_cons.1 ha
    obtain ⟨h3, h4⟩ := List.pairwise_cons.1 hb
    have hxy : x = y := by
      rcases List.mem_cons.1 (h.mem_iff.1 (List.mem_cons_self (a := x))) with e | hx
      · exact e
      · rcases List.mem_cons.1 (h.mem_iff.2 (List.mem_cons_self (a := y))) with e | hy
        · exact e.symm
        · have p := h3 x hx
          have q := h1 y hy
          rw [ltB_asym p] at q
          cases q
    subst hxy
    rw [asc_unique h2 h4 (List.perm_cons _ |>.1 h)]
/-- What a sorted row of these members, without a key twice, must be. -/
theorem objAll_sorted {l d : List (ByteArray × Val)} (hp : d.Perm l) (ha : ascO d) : objAll l [] = some d := by
  cases e : objAll l [] with
  | none =>
    exfalso
    refine objAll_none e ?_
    rw [List.append_nil]
    exact (hp.map (·.1)).nodup_iff.1 (asc_keys ha)
  | some o =>
    obtain ⟨h1, h2⟩ := objAll_some e List.Pairwise.nil
    rw [List.append_nil] at h2
    rw [asc_unique ha h1 (hp.trans h2.symm)]
theorem objAll_twice {l d : List (ByteArray × Val)} (hp : d.Perm l) (ht : ¬(d.map (·.1)).Nodup) : objAll l [] = none := by
  cases e : objAll l [] with
  | none => rfl
  | some o =>
    obtain ⟨h1, h2⟩ := objAll_some e List.Pairwise.nil
    rw [List.append_nil] at h2
    exact absurd ((hp.trans h2.symm).map (·.1) |>.nodup_iff.2 (asc_keys h1)) ht
end Go.Proofs.YtkoliaodkojghaaGreatDoor

/- sort.Slice of members by their keys, as value.Object calls it. Condition: fewer than 2^62 of them. -/
namespace Go.Proofs.YtkoliaodkojghaaGreatDoor
open Go.RowKit

/-- A member and where its slices lie. -/
abbrev Mx : Type := ByteArray × (Val × ((Option Addr × Nat) × (Option Addr × Nat)))
instance : Inhabited Val := ⟨.mk 0 false 0 ⟨#[]⟩ [] []⟩
def encM : Mx → List Value
  | (key, (.mk k b n t l o, ((la, lc), (oa, oc)))) => [.string key, .int .i64 k, .bool b, .int .i64 n, .string t, .slice la l.length lc, .slice oa o.length oc]
def memM (x : Mx) : ByteArray × Val := (x.1, x.2.1)
theorem encM_len (x : Mx) : (encM x).length = 7 := by
  obtain ⟨key, ⟨k, b, n, t, l, o⟩, ⟨la, lc⟩, oa, oc⟩ := x
  rfl
theorem encM_one (x : Mx) : ∀ v ∈ encM x, v.oneCell' = true := by
  obtain ⟨key, ⟨k, b, n, t, l, o⟩, ⟨la, lc⟩, oa, oc⟩ := x
  intro v hv
  simp only [encM, List.mem_cons, List.not_mem_nil, or_false] at hv
  rcases hv with rfl | rfl | rfl | rfl | rfl | rfl | rfl <;> rfl
theorem encM_key (x : Mx) : (encM x)[0]! = .string x.1 := by
  obtain ⟨key, ⟨k, b, n, t, l, o⟩, ⟨la, lc⟩, oa, oc⟩ := x
  rfl
def ltM (x y : Mx) : Bool := ltB x.1 y.1
theorem swoM : Go.Sort.SWO ltM where
  irrefl x := ltB_irrefl _
  trans x y z h k := ltB_trans h k
  ntrans x y z h k := by
    unfold ltM at *
    cases e : ltB x.1 z.1 with
    | false => rfl
    | true =>
      rcases ltB_tri x.1 y.1 with p | p | p
      · rw [h] at p; cases p
      · rw [p] at e; rw [k] at e; cases e
      · have := ltB_trans p e; rw [k] at this; cases this

/-- The call's own closure. -/
theorem lessM (blk off c Bs size : Nat) (W : World) (G : Nat → ByteArray) (hs : W.cell? ⟨Bs, 0, none⟩ = some (.slice (some ⟨blk, off, none⟩) size c))
    (hc : ∀ t, t < size → W.cell? ⟨blk, off + t * 7, none⟩ = some (.string (G t))) (i j : Nat) (hi : i < size) (hj : j < size) (_hsz : size < 4611686018427387904) :
    Calls Tryz.prog 64 #[.int .i64 i, .int .i64 j, .pointer (some ⟨Bs, 0, none⟩)] W fun e w' => e = .returned (.bool (ltB (G i) (G j))) ∧ ∃ q, w' = W.drewN q := by
  have ci := hc i hi
  have cj := hc j hj
  clear hc
  have i1 : (i : Int) < (size : Int) := by omega
  have j1 : (j : Int) < (size : Int) := by omega
  go_enter Tryz.func64, Tryz.ntmps64
  go_wp2
  go_quiet (fail)
  go_wp2
  go_ret
  exact ⟨rfl, nq, rfl⟩

noncomputable def sortT : TypeInfo := (Tryz.prog.info? 43).get (by kernel_rfl)
noncomputable def sortE : TypeInfo := (Tryz.prog.info? 72).get (by kernel_rfl)
theorem sortK (n : Nat) (h2 : 2 ≤ n) : Lib.swapperK n sortE 25 = 9 := by
  have a : sortE.hasPointers = true := by kernel_rfl
  have b : sortE.bytes = 104 := by kernel_rfl
  have c : (n == 0) = false := by simp; omega
  have d : (n == 1) = false := by simp; omega
  simp [Lib.swapperK, a, b, c, d]

/-- What the sort leaves. -/
def SortPost (w : World) (blk : Nat) (d : Array Mx) (e : Ending) (w' : World) : Prop := e = .returned (.tuple #[]) ∧ ∃ d' : Array Mx, d'.size = d.size ∧ d'.toList.Perm d.toList ∧ Go.Sort.SortedIn ltM 0 d.size d' ∧
  (∀ i, i < d.size → ∀ j, j < 7 → w'.cell? ⟨blk, i * 7 + j, none⟩ = some (encM d'[i]!)[j]!) ∧ (∀ b, b < w.heap.size → b ≠ blk → w'.heap[b]? = w.heap[b]?) ∧ w.heap.size ≤ w'.heap.size ∧ w'.os = w.os ∧ w'.tape = w.tape ∧ w'.output = w.output

theorem sortM_many (blk c Bs : Nat) (d : Array Mx) (h2 : 2 ≤ d.size) (hsz : d.size < 4611686018427387904) (w : World) (hH : Go.Sort.HoldsK encM 7 w blk 0 d) (hblk : blk < w.heap.size)
    (hBs : w.cell? ⟨Bs, 0, none⟩ = some (.slice (some ⟨blk, 0, none⟩) d.size c)) (hB1 : Bs < w.heap.size) (hB2 : Bs ≠ blk) :
    Calls Tryz.prog 63 #[.iface 43 (.slice (some ⟨blk, 0, none⟩) d.size c), .func (.func 64) #[] #[.pointer (some ⟨Bs, 0, none⟩)]] w (SortPost w blk d) := by
  have hless : LessReadsK Tryz.prog 64 #[.pointer (some ⟨Bs, 0, none⟩)] encM 7 ltM blk 0 d.size w := by
    intro m os dk hs i j hi hj
    have e : sortWorldK encM 7 w blk 0 m dk os = Go.Sort.putRowK encM 7 (Go.Sort.grow (Go.Sort.ahead w m) os) blk 0 dk := by
      unfold sortWorldK; rw [Go.Sort.putRowK_grow _ _ (Go.Sort.ahead w m) _ blk 0 _ hblk]
    have hHg : Go.Sort.HoldsK encM 7 (Go.Sort.grow (Go.Sort.ahead w m) os) blk 0 d := Go.Sort.holdsK_grow _ _ _ _ blk 0 d hblk (Go.Sort.holdsK_ahead _ _ _ _ _ _ _ hH)
    refine lessM blk 0 c Bs d.size _ (fun t => dk[t]!.1) ?_ (fun t ht => ?_) i j hi hj (by omega)
    · rw [e, Go.Sort.cell?_putRowK_other _ _ _ blk 0 dk _ (by exact hB2), Go.Sort.cell?_grow _ _ _ (by exact hB1)]; exact hBs
    · rw [e, ← encM_key]; exact ((Go.Sort.holdsK_putRowK _ _ _ blk 0 d dk hHg hs).cell (i := t) (c := 0) (by omega) (by omega)).1
  have hS := Any.sort_Slice_cells_sorted Tryz.sortSlice_lays 43 72 sortT sortE (by kernel_rfl) (by kernel_rfl) (by kernel_rfl) (by kernel_rfl) 25 (fun _ => by kernel_rfl) encM 7 encM_len (by kernel_rfl) (fun _ => by kernel_rfl)
    encM_one ltM swoM 64 _
    (enters_of Tryz.func64 (by kernel_rfl) rfl) blk 0 c d h2 hsz 149 (by rw [sortK _ h2]; kernel_rfl) false
    (fun args W => run_callFunc_extern Tryz.func149 (by kernel_rfl) (by kernel_rfl) (by kernel_rfl) (e := Extern.ReflectliteSwapper.swap false) (by kernel_rfl) args W) w hless hH hblk
  change Calls Tryz.prog 63 _ _ _ at hS
  refine hS.mono ?_
  rintro e w' ⟨rfl, d', n, os, ⟨hs', _, hp⟩, hso, rfl⟩
  have hp' : d'.toList.Perm d.toList := by
    have e1 : d'.extract 0 d.size = d' := by rw [← hs']; simp
    have e2 : d.extract 0 d.size = d := by simp
    rwa [e1, e2] at hp
  have hH2 : Go.Sort.HoldsK encM 7 (Go.Sort.putRowK encM 7 (Go.Sort.ahead w n) blk 0 d') blk 0 d' := Go.Sort.holdsK_putRowK _ _ _ blk 0 d d' (Go.Sort.holdsK_ahead _ _ _ _ _ _ _ hH) hs'
  have hsize : (Go.Sort.putRowK encM 7 (Go.Sort.ahead w n) blk 0 d').heap.size = w.heap.size := by
    simp [Go.Sort.putRowK, Go.Sort.putRow, Go.Sort.mapBlock, Go.Sort.ahead]
  refine ⟨rfl, d', hs', hp', hso, fun i hi j hj => ?_, fun b hb hne => ?_, by rw [Go.Sort.size_grow, hsize]; omega, rfl, rfl, rfl⟩
  · rw [Go.Sort.cell?_grow _ _ _ (by show blk < _; rw [hsize]; exact hblk)]
    have := (hH2.cell (i := i) (c := j) (by omega) hj).1
    rwa [Nat.zero_add] at this
  · show ((Go.Sort.putRowK encM 7 (Go.Sort.ahead w n) blk 0 d').heap ++ os)[b]? = _
    rw [Array.getElem?_append_left (by rw [hsize]; exact hb)]
    simp only [Go.Sort.putRowK, Go.Sort.putRow, Go.Sort.mapBlock, Go.Sort.ahead, Array.getElem?_modify]
    rw [if_neg (fun e => hne e.symm)]
theorem sortM_few (p : Option Addr) (n c Bs : Nat) (h1 : n ≤ 1) (w : World) :
    Calls Tryz.prog 63 #[.iface 43 (.slice p n c), .func (.func 64) #[] #[.pointer (some ⟨Bs, 0, none⟩)]] w fun e w' => e = .returned (.tuple #[]) ∧ Below w.heap.size w w' := by
  have key : ∀ f, Tryz.prog.funcs.findIdx? (·.name == "internal/reflectlite" ++ ".Swapper$" ++ toString (Lib.swapperK n sortE 25)) = some f →
      Calls Tryz.prog 63 #[.iface 43 (.slice p n c), .func (.func 64) #[] #[.pointer (some ⟨Bs, 0, none⟩)]] w fun e w' => e = .returned (.tuple #[]) ∧ Below w.heap.size w w' := by
    intro f hf
    have hS := Any.sort_Slice_tiny Tryz.sortSlice_lays 43 72 sortT sortE (by kernel_rfl) (by kernel_rfl) (by kernel_rfl) (by kernel_rfl) 25 (fun _ => by kernel_rfl) p n c h1 f hf (.func 64) #[] #[.pointer (some ⟨Bs, 0, none⟩)] w
    change Calls Tryz.prog 63 _ _ _ at hS
    refine hS.mono ?_
    rintro e w' ⟨rfl, os, rfl⟩
    refine ⟨rfl, ⟨rfl, rfl, rfl, by rw [Go.Sort.size_grow]; omega, fun i hi => ?_⟩⟩
    show (w.heap ++ os)[i]? = _
    exact Array.getElem?_append_left hi
  rcases Nat.eq_zero_or_pos n with rfl | h0
  · exact key 141 (by kernel_rfl)
  · obtain rfl : n = 1 := by omega
    exact key 142 (by kernel_rfl)
end Go.Proofs.YtkoliaodkojghaaGreatDoor
