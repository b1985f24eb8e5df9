/- What goes over an object's members: their keys as they are written, and what writes their values. Condition: keys and values in a bulk of at most 10^9. -/
import Derived.Test.YtjmkafbdmppfaaaDoorProg
import Derived.Test.YtjmkafbdmppfaaaDoorOwn3
import Derived.Test.YtjmkafbdmppfaaaDoorRange2
import Derived.LoopIn
import Derived.Stop.RegionWithIn
import Derived.LoopNIn
namespace Go.Proofs.YtjmkafbdmppfaaaDoor
open Go.RowKit
attribute [local go_sem] Oper.semAt_some

/-- The members, each with a mark: whether it is the first. -/
def marks : List (ByteArray × Val) → Bool → List (Bool × (ByteArray × Val))
  | [], _ => []
  | p :: r, f => (f, p) :: marks r false
def Val.kind : Val → Int
  | .mk k _ _ _ _ _ => k

/-- A member's key, as it is written. -/
def memText (x : Bool × (ByteArray × Val)) : ByteArray := (⟨(if x.1 then [] else [44] : List UInt8).toArray⟩ : ByteArray) ++ ⟨(quoteB x.2.1).toArray⟩

/-- What is yielded of a member, if its value lies boxed in the block q. -/
def memEnc (x : Bool × (ByteArray × Val)) (q : Nat) : Array Value :=
  #[.string (memText x), .func (.func (ownF x.2.2.kind)) #[] (ownCaps x.2.2.kind q)]

/-- The block q holds the member's value. -/
def MemBox (W0 : World) (B G : Nat) (x : Bool × (ByteArray × Val)) (q : Nat) (A : World) : Prop :=
  G < q ∧ ∃ cs, A.heap[q]? = some (.cells cs.toArray 26 (0, 0)) ∧ HoldsV W0 B x.2.2 cs

theorem members_calls (oa : Option Addr) (on oc : Nat) (w : World) :
    Calls Tryd.prog 55 #[.slice oa on oc] w fun e w' => e = .returned (.func (.func 73) #[] #[.pointer (some ⟨w.heap.size, 0, none⟩)]) ∧ w.alloc (.cells #[.slice oa on oc] 24) = w' := by
  go_enter Tryd.func55, Tryd.ntmps55
  go_wp2
  go_ret
  exact ⟨rfl, rfl⟩

set_option maxRecDepth 100000 in
set_option maxHeartbeats 4000000 in
theorem members_yields (o : List (ByteArray × Val)) (W0 : World) (B G p : Nat) (oa : Option Addr) (oc : Nat) (go off : Nat) (h5 : 5 ≤ B) (hT : Tabs W0)
    (hoa : o = [] ∨ (oa = some ⟨go, off, none⟩ ∧ go < B ∧ HoldsO W0 B o go off)) (hok : okO o) (hb : bulkO o ≤ 1000000000) :
    YieldsE Tryd.prog 73 #[.pointer (some ⟨p, 0, none⟩)] memEnc (MemBox W0 B G) (marks o true)
      (fun A => A.heap[p]? = some (.cells #[.slice oa o.length oc] 24 (0, 0)) ∧ Below B W0 A ∧ G < A.heap.size) := by
  intro n l J W hJn hJb hY h0
  have hoo : o.length ≤ 1000000000 := by have := bulkO_len o; omega
  have hmx : Tryd.prog.follows .mixedOrders = true := by kernel_rfl
  have hc0 : W.cell? ⟨p, 0, none⟩ = some (.slice oa o.length oc) := (Lib.cell_of_heap (hJb _ _ h0).1 0).trans rfl
  refine callsIn_of_wp Tryd.func73 rfl trivial ?_ rfl
  simp only [Tryd.ntmps73, List.size_toArray, List.length_cons, List.length_nil, Nat.reduceAdd, Nat.reduceSub, Array.replicate_succ, Array.replicate_zero, List.push_toArray, List.append_toArray, List.nil_append, List.cons_append]
  gi_wp2
  gi_loopw [7] (fun i wr => ∃ (pre : List (Bool × (ByteArray × Val))) (k : Nat), i = .int .i64 k ∧ k ≤ o.length ∧ Hid (marks o true = pre ++ marks (o.drop k) (decide ((k : Int) = 0))) ∧ J pre wr) (fun i _ => o.length - (intOf i).toNat)
  case atStart => exact ⟨[], 0, rfl, Nat.zero_le _, rfl, h0⟩
  case round =>
    obtain ⟨pre, k, rfl, hk, hr, hJ⟩ := hrel
    obtain ⟨hp, hbw, hG⟩ := hJb _ _ hJ
    by_cases hlt : k < o.length
    · obtain ⟨rfl, hg, hO⟩ : oa = some ⟨go, off, none⟩ ∧ go < B ∧ HoldsO W0 B o go off := by
        rcases hoa with rfl | h
        · simp at hlt
        · exact h
      obtain ⟨m, hm⟩ : ∃ m, o[k]? = some m := ⟨_, List.getElem?_eq_getElem hlt⟩
      have hmem : m ∈ o := List.mem_of_getElem? hm
      have hsp := bulkO_split hm
      have hokm := okO_mem hok hmem
      have hTr : Tabs wr := hT.keep hbw h5
      have hr' := hr.out
      rw [drop_of_get hm] at hr'
      simp only [marks] at hr'
      have hk1 : decide (((k + 1 : Nat) : Int) = 0) = false := by simp; omega
      obtain ⟨key, v⟩ := m
      obtain ⟨k', b', n', t', l', o'⟩ := v
      obtain ⟨la', lc', oa', oc', hvs, c0, c1, c2, c3, c4, c5, c6⟩ := hO.seven hm
      replace c0 := (hbw.cell (p := ⟨go, off + k * 7, none⟩) hg).trans c0
      replace c1 := (hbw.cell (p := ⟨go, off + k * 7 + 1, none⟩) hg).trans c1
      replace c2 := (hbw.cell (p := ⟨go, off + k * 7 + 2, none⟩) hg).trans c2
      replace c3 := (hbw.cell (p := ⟨go, off + k * 7 + 3, none⟩) hg).trans c3
      replace c4 := (hbw.cell (p := ⟨go, off + k * 7 + 4, none⟩) hg).trans c4
      replace c5 := (hbw.cell (p := ⟨go, off + k * 7 + 5, none⟩) hg).trans c5
      replace c6 := (hbw.cell (p := ⟨go, off + k * 7 + 6, none⟩) hg).trans c6
      have HY : Hid (∀ (A : World) (q : Nat), G < q → A.heap[q]? = some (.cells #[.int .i64 k', .bool b', .int .i64 n', .string t', .slice la' l'.length lc', .slice oa' o'.length oc'] 26 (0, 0)) → Below wr.heap.size wr A →
          YieldAt Fence.wide n Tryd.prog l #[.string ((⟨(if decide ((k : Int) = 0) then [] else [44] : List UInt8).toArray⟩ : ByteArray) ++ ⟨(quoteB key).toArray⟩), .func (.func (ownF k')) #[] (ownCaps k' q)] A fun e B => e = .returned (.bool true) ∧ J (pre ++ [(decide ((k : Int) = 0), key, .mk k' b' n' t' l' o')]) B) :=
by
        show ∀ _ _, _
        intro A q hq hA hb
        have hM : MemBox W0 B G (decide ((k : Int) = 0), key, .mk k' b' n' t' l' o') q A := ⟨hq, cells6 k' b' n' t' la' l'.length lc' oa' o'.length oc', hA, hvs⟩
        have := hY pre _ _ q A hr' (hJn _ _ _ hJ hb) hM
        simp only [memEnc, memText, Val.kind] at this
        exact this
      have Hr2 : Hid (marks o true = (pre ++ [(decide ((k : Int) = 0), key, .mk k' b' n' t' l' o')]) ++ marks (o.drop (k + 1)) (decide (((k + 1 : Nat) : Int) = 0))) := by
        show _ = _
        rw [hk1, hr']; simp
      have cB : ∀ w, Calls Tryd.prog 53 #[.int .i64 k] w fun e w' => e = .returned (.string ⟨(if decide ((k : Int) = 0) then [] else [44] : List UInt8).toArray⟩) ∧ w = w' := by
        intro w
        have := between_calls (k : Int) w
        simpa only [decide_eq_true_eq] using this
      have hkz : key.size ≤ 1000000000 := by simp only [bulkP] at hsp; omega
      have cQ : ∀ w, Tabs w → Calls Tryd.prog 51 #[.string key] w fun e w' => e = .returned (.string ⟨(quoteB key).toArray⟩) ∧ Below w.heap.size w w' := fun w hw => quote_calls key w hw hkz hokm.1
      clear hr hr' hsp hokm hmem hm hO hvs hoa hY hk1 hok
      have hS1 : (⟨(if decide ((k : Int) = 0) then [] else [44] : List UInt8).toArray⟩ : ByteArray).size ≤ 1 := by
        split <;> simp [ByteArray.size]
      have hS2 : (⟨(quoteB key).toArray⟩ : ByteArray).size ≤ 6000000002 := by
        have := quoteB_len key
        simp only [ByteArray.size, List.size_toArray]; omega
      generalize (⟨(if decide ((k : Int) = 0) then [] else [44] : List UInt8).toArray⟩ : ByteArray) = S at HY cB hS1
      generalize (⟨(quoteB key).toArray⟩ : ByteArray) = Q at HY cQ hS2
      have hSQ : ((S.size : Int) + (Q.size : Int) > 9223372036854775807) = False := by simp; omega
      have hSQ2 : ((S.size + Q.size : Nat) : Int) > IntKind.i64.max ↔ False := by
        have e : IntKind.i64.max = 9223372036854775807 := rfl
        simp only [iff_false, e]; omega
      have CB := Lib.hid cB
      have CQ := Lib.hid cQ
      clear cB cQ
      have HJn := Lib.hid hJn
      have HJb := Lib.hid hJb
      have HTr := Lib.hid hTr
      have Hbw := Lib.hid hbw
      have HJ := Lib.hid hJ
      have Hp := Lib.hid hp
      clear hc0 h0 hb hT hJn hJb hmx hTr hbw hJ hp
      have hGr := hG

      gi_wp2
      obtain ⟨A, hA⟩ : ∃ A, wr.alloc (.cells #[.string key, .int .i64 k', .bool b', .int .i64 n', .string t', .slice la' l'.length lc', .slice oa' o'.length oc'] 44) = A := ⟨_, rfl⟩
      have hAb : Below wr.heap.size wr A := by rw [← hA]; exact (Below.refl _ _).alloc (Nat.le_refl _) _
      have hAh : A.heap[wr.heap.size]? = some (.cells #[.string key, .int .i64 k', .bool b', .int .i64 n', .string t', .slice la' l'.length lc', .slice oa' o'.length oc'] 44 (0, 0)) := by rw [← hA]; exact heap_alloc_new _ _
      rw [hA]
      have hAz := (Array.getElem?_eq_some_iff.1 hAh).1
      have hDb : Below wr.heap.size wr A.drew := Below.drew hAb
      have hTD : Tabs A.drew := HTr.out.keep hDb HTr.out.1
      have hDh : A.drew.heap[wr.heap.size]? = some (.cells #[.string key, .int .i64 k', .bool b', .int .i64 n', .string t', .slice la' l'.length lc', .slice oa' o'.length oc'] 44 (0, 0)) := hAh
      clear hA c0 c1 c2 c3 c4 c5 c6 hAb
      have hGs : G < wr.heap.size := hG
      have hmx : Tryd.prog.follows .mixedOrders = true := by kernel_rfl
      have a0 : A.drew.cell? ⟨wr.heap.size, 0, none⟩ = some (.string key) := (Lib.cell_of_heap hDh 0).trans rfl
      have a1 : A.drew.cell? ⟨wr.heap.size, 1, none⟩ = some (.int .i64 k') := (Lib.cell_of_heap hDh 1).trans rfl
      have a2 : A.drew.cell? ⟨wr.heap.size, 2, none⟩ = some (.bool b') := (Lib.cell_of_heap hDh 2).trans rfl
      have a3 : A.drew.cell? ⟨wr.heap.size, 3, none⟩ = some (.int .i64 n') := (Lib.cell_of_heap hDh 3).trans rfl
      have a4 : A.drew.cell? ⟨wr.heap.size, 4, none⟩ = some (.string t') := (Lib.cell_of_heap hDh 4).trans rfl
      have a5 : A.drew.cell? ⟨wr.heap.size, 5, none⟩ = some (.slice la' l'.length lc') := (Lib.cell_of_heap hDh 5).trans rfl
      have a6 : A.drew.cell? ⟨wr.heap.size, 6, none⟩ = some (.slice oa' o'.length oc') := (Lib.cell_of_heap hDh 6).trans rfl
      have HDh := Lib.hid hDh
      have HTD := Lib.hid hTD
      have HDb := Lib.hid hDb
      have HG := Lib.hid hGs
      clear hDh hTD hDb hGs hG hAz hAh
      gi_region_with (first | (refine ⟨trivial, ?_⟩; gi_at_call 53; refine (callsIn_wide.2 (CB.out _)).mono ?_; rintro e wx ⟨rfl, rfl⟩) | (refine ⟨trivial, ?_⟩; gi_at_call 51; refine (callsIn_wide.2 (CQ.out _ HTD.out)).mono ?_; rintro e w2 ⟨rfl, hb2⟩; have HB2 := Lib.hid hb2; have d0 := (hb2.block wr.heap.size (Array.getElem?_eq_some_iff.1 HDh.out).1).trans HDh.out; have d1 : w2.cell? ⟨wr.heap.size, 1, none⟩ = some (.int .i64 k') := (Lib.cell_of_heap d0 1).trans rfl; have d2 : w2.cell? ⟨wr.heap.size, 2, none⟩ = some (.bool b') := (Lib.cell_of_heap d0 2).trans rfl; have d3 : w2.cell? ⟨wr.heap.size, 3, none⟩ = some (.int .i64 n') := (Lib.cell_of_heap d0 3).trans rfl; have d4 : w2.cell? ⟨wr.heap.size, 4, none⟩ = some (.string t') := (Lib.cell_of_heap d0 4).trans rfl; have d5 : w2.cell? ⟨wr.heap.size, 5, none⟩ = some (.slice la' l'.length lc') := (Lib.cell_of_heap d0 5).trans rfl; have d6 : w2.cell? ⟨wr.heap.size, 6, none⟩ = some (.slice oa' o'.length oc') := (Lib.cell_of_heap d0 6).trans rfl; clear hb2 d0) | (refine ⟨trivial, ?_⟩; gi_at_call 25; refine (callsIn_wide.2 (own_calls k' b' n' t' la' oa' l'.length lc' o'.length oc' w2)).mono ?_; rintro e w3 ⟨rfl, rfl⟩; obtain ⟨fn, tmps, assign, body, hy, hR⟩ := HY.out (w2.alloc (.cells #[.int .i64 k', .bool b', .int .i64 n', .string t', .slice la' l'.length lc', .slice oa' o'.length oc'] 26)) w2.heap.size (Nat.lt_of_lt_of_le HG.out (HDb.out.trans (HB2.out.mono HDb.out.size)).size) (heap_alloc_new _ _) (((HDb.out.trans (HB2.out.mono HDb.out.size))).alloc (HDb.out.trans (HB2.out.mono HDb.out.size)).size _)) | (refine hR.mono ?_; rintro e W3 ⟨rfl, hJ3⟩; clear hy hR))
      all_goals (
        gi_wp2
        go_roundw
        case rel => exact ⟨_, k + 1, by go_num, by omega, Hr2, hJ3⟩
        case measure => simp [intOf]; omega)
    · obtain rfl : k = o.length := by omega
      have hr' := hr.out
      rw [List.drop_length] at hr'
      simp only [marks, List.append_nil] at hr'
      have Hr := Lib.hid hr'
      clear hr hr' hoa hbw hT
      gi_wp2
      go_end0
      exact ⟨⟨_, rfl⟩, by rw [Hr.out]; exact hJ⟩

end Go.Proofs.YtjmkafbdmppfaaaDoor
