/- Parts, joined: push.object: a push's object. Condition: a push that may be, of a bulk of at most 2 * 10^6, numbers of 64 bits. -/
import Derived.Test.YtemceefalkfneaaGreatDoorProg
import Derived.Deep.RegionHeld3
import Derived.Test.YtemceefalkfneaaGreatDoorKPushSpoilt20
import Derived.Test.YtemceefalkfneaaGreatDoorKPushSpoilt21
/- push.object: a push's object. Condition: a push that may be, of a bulk of at most 2 * 10^6, numbers of 64 bits. -/
namespace Go.Proofs.YtemceefalkfneaaGreatDoor
open Go Go.RowKit

theorem pnumber_calls (n : Int) (h0 : 0 ≤ n) (h1 : n ≤ 4611686018427387903) (w : World) :
    Calls Tryz.prog 59 #[.int .u64 n] w fun e w' => e = .returned (.agg #[.int .i64 3, .bool false, .int .i64 n, .string ⟨#[]⟩, .slice none 0 0, .slice none 0 0]) ∧ Below w.heap.size w w' := by
  go_enter Tryz.func59, Tryz.ntmps59
  go_wp2
  exact bodyPost_ret (v := .agg #[.int .i64 3, .bool false, .int .i64 n, .string ⟨#[]⟩, .slice none 0 0, .slice none 0 0]) (by simp [results, Tryz.results59, go_sem]) rfl ⟨rfl, (Below.refl _ _).alloc (Nat.le_refl _) _⟩
/-- Two members as a literal: a number, and a value that lies somewhere. -/
theorem holds_two (p q : ByteArray) (n : Int) (X : Val) (u0 u1 u2 u3 u4 u5 : Value) (W : World) (h : Holds W W.heap.size (dV X) [u0, u1, u2, u3, u4, u5]) :
    Holds (W.alloc (.cells #[.string p, .int .i64 3, .bool false, .int .i64 n, .string ⟨#[]⟩, .slice none 0 0, .slice none 0 0, .string q, u0, u1, u2, u3, u4, u5] 57)) (W.alloc (.cells #[.string p, .int .i64 3, .bool false, .int .i64 n, .string ⟨#[]⟩, .slice none 0 0, .slice none 0 0, .string q, u0, u1, u2, u3, u4, u5] 57)).heap.size (.row 7 (dO [(p, iv n), (q, X)])) [.slice (some ⟨W.heap.size, 0, none⟩) 2 2] := by
  have hv := h.later (alloc_below W (.cells #[.string p, .int .i64 3, .bool false, .int .i64 n, .string ⟨#[]⟩, .slice none 0 0, .slice none 0 0, .string q, u0, u1, u2, u3, u4, u5] 57))
  have hp : Holds (W.alloc (.cells #[.string p, .int .i64 3, .bool false, .int .i64 n, .string ⟨#[]⟩, .slice none 0 0, .slice none 0 0, .string q, u0, u1, u2, u3, u4, u5] 57)) (W.alloc (.cells #[.string p, .int .i64 3, .bool false, .int .i64 n, .string ⟨#[]⟩, .slice none 0 0, .slice none 0 0, .string q, u0, u1, u2, u3, u4, u5] 57)).heap.size (dP (q, X)) [.string q, u0, u1, u2, u3, u4, u5] := ⟨[.string q], _, rfl, ⟨rfl, rfl⟩, _, [], by simp, hv, rfl⟩
  exact holds_blk (Blk.new _ _ _) (dO_cells _) ((HoldsA.one (holds_ivP _ _ p n)).app (HoldsA.one hp)) rfl
theorem holds_two' (p q : ByteArray) (n : Int) (X : Val) (u0 u1 u2 u3 u4 u5 : Value) (W : World) (s : Nat) (hs : W.heap.size = s) (h : Holds W W.heap.size (dV X) [u0, u1, u2, u3, u4, u5]) :
    Holds (W.alloc (.cells #[.string p, .int .i64 3, .bool false, .int .i64 n, .string ⟨#[]⟩, .slice none 0 0, .slice none 0 0, .string q, u0, u1, u2, u3, u4, u5] 57)) (W.alloc (.cells #[.string p, .int .i64 3, .bool false, .int .i64 n, .string ⟨#[]⟩, .slice none 0 0, .slice none 0 0, .string q, u0, u1, u2, u3, u4, u5] 57)).heap.size (.row 7 (dO [(p, iv n), (q, X)])) [.slice (some ⟨s, 0, none⟩) 2 2] := by
  subst hs
  exact holds_two p q n X u0 u1 u2 u3 u4 u5 W h
theorem num_all (n : Int) (X : Val) : objAll [(kId, iv n), (kMut, X)] [] = some [(kId, iv n), (kMut, X)] := by kernel_rfl
theorem push_all (n : Int) (X : Val) : objAll [(kCli, iv n), (kList, X)] [] = some [(kCli, iv n), (kList, X)] := by kernel_rfl
theorem mayNs_all {l : List Num} (h : mayNs l = 0) : ∀ p ∈ l, (0 < p.id ∧ p.id ≤ 4611686018427387903) ∧ mutMay p.m = 0 := by
  induction l with
  | nil => intro p hp; cases hp
  | cons x r ih =>
    simp only [mayNs] at h
    split at h
    · cases h
    · rename_i h1
      split at h
      · rename_i h2
        intro p hp
        rcases List.mem_cons.1 hp with rfl | hp
        · exact ⟨by omega, h2⟩
        · exact ih h p hp
      · rename_i h2
        exact absurd h h2
theorem bulk_two (p q : ByteArray) (n : Int) (X : Val) (hp : p.size ≤ 10) (hq : q.size ≤ 10) : bulkO [(p, iv n), (q, X)] ≤ 60 + X.bulk := by
  simp only [bulkO, bulkP, bulk_iv]; omega
theorem bulk_nums : ∀ l : List Num, bulkL (l.map numV) ≤ 20 * bulkN l
  | [] => by simp [bulkL]
  | p :: r => by
    have h1 := bulk_nums r
    have h2 := bulk_mutV p.m
    have h3 := bulk_two kId kMut p.id (mutV p.m) (by decide) (by decide)
    have h8 : 8 ≤ bulkM p.m := by cases p.m; simp only [bulkM]; omega
    have e1 : (⟨#[]⟩ : ByteArray).size = 0 := rfl
    simp only [List.map_cons, bulkL, bulkN, numV, ov, Val.bulk, e1]
    omega
/-- Behind the making of an item: its variable, and no error. -/
def AfterI (wk : World) (o : List (ByteArray × Val)) (s r : Value) (wx : World) : Prop := Below wk.heap.size wk wx ∧ r = .int .i64 0 ∧
  ∃ R la lc oa oc, s = .pointer (some ⟨R, 0, none⟩) ∧ wk.heap.size ≤ R ∧ Blk wx R 52 #[.int .i64 6, .bool false, .int .i64 0, .string ⟨#[]⟩, .slice la 0 lc, .slice oa 2 oc] ∧ Fresh wk.heap.size wx (dV (ov o)) [.int .i64 6, .bool false, .int .i64 0, .string ⟨#[]⟩, .slice la 0 lc, .slice oa 2 oc]
theorem afterI_old {wk w7 : World} {o : List (ByteArray × Val)} {R b : Nat} {la oa : Option Addr} {lc oc : Nat} (hb : Below wk.heap.size wk w7) (hR : wk.heap.size ≤ R) (hx : Blk w7 R 52 zero6)
    (hf : Fresh b w7 (dV (ov o)) [.int .i64 6, .bool false, .int .i64 0, .string ⟨#[]⟩, .slice la 0 lc, .slice oa 2 oc]) (hRb : R < b) :
    AfterI wk o (.pointer (some ⟨R, 0, none⟩)) (.int .i64 0) (setMany w7 R 0 [.int .i64 6, .bool false, .int .i64 0, .string ⟨#[]⟩, .slice la 0 lc, .slice oa 2 oc]) :=
  ⟨setMany_below _ hb hR, rfl, R, la, lc, oa, oc, rfl, hR, (((((hx.set_ 0 _).set_ 1 _).set_ 2 _).set_ 3 _).set_ 4 _).set_ 5 _, hf.keep (by omega) (by rw [setMany_size]; exact Nat.le_refl _) (fun p p1 _ => World.cell?_of_block (setMany_far _ _ _ _ _ (by omega)))⟩
theorem afterI_new {wk w7 : World} {o : List (ByteArray × Val)} {b : Nat} {la oa : Option Addr} {lc oc : Nat} (hb : Below wk.heap.size wk w7) (hbw : wk.heap.size ≤ b)
    (hf : Fresh b w7 (dV (ov o)) [.int .i64 6, .bool false, .int .i64 0, .string ⟨#[]⟩, .slice la 0 lc, .slice oa 2 oc]) :
    AfterI wk o (.pointer (some ⟨w7.heap.size, 0, none⟩)) (.int .i64 0) (w7.alloc (.cells #[.int .i64 6, .bool false, .int .i64 0, .string ⟨#[]⟩, .slice la 0 lc, .slice oa 2 oc] 52)) :=
  ⟨hb.alloc hb.size _, rfl, w7.heap.size, la, lc, oa, oc, rfl, hb.size, Blk.new _ _ _, (hf.later (alloc_below _ _)).keep hbw (Nat.le_refl _) (fun _ _ _ => rfl)⟩
/-- What holds between two rounds. -/
structure LO (w : World) (bx : Array Value) (l : List Num) (q : Nat) (wr : World) (V : Value) : Prop where
  below : Below w.heap.size w wr
  box : Blk wr w.heap.size 40 bx
  res : Blk wr (w.heap.size + 1) 52 zero6
  var : Blk wr (w.heap.size + 2) 52 #[.int .i64 5, .bool false, .int .i64 0, .string ⟨#[]⟩, V, .slice none 0 0]
  row : RowD (w.heap.size + 3) 52 6 wr (dL ((l.map numV).take q)) V
/-- A push's object, given back. -/
def PObjPost (c : Int) (l : List Num) (w : World) (e : Ending) (w' : World) : Prop := Below w.heap.size w w' ∧
  ∃ la lc oa oc, e = .returned (.tuple #[.agg #[.int .i64 6, .bool false, .int .i64 0, .string ⟨#[]⟩, .slice la 0 lc, .slice oa 2 oc], .int .i64 0]) ∧ Fresh w.heap.size w' (dV (ov (pushO c l))) [.int .i64 6, .bool false, .int .i64 0, .string ⟨#[]⟩, .slice la 0 lc, .slice oa 2 oc]

set_option maxRecDepth 100000 in
set_option maxHeartbeats 8000000 in
theorem pobject_calls (c : Int) (l : List Num) (a : Option Addr) (n cc : Nat) (w : World) (hc0 : 0 ≤ c) (hc1 : c ≤ 4611686018427387903) (hT : Tabs w) (hN : MNames w) (h : Holds w w.heap.size (.row 20 (dNs l)) [.slice a n cc]) (hb : bulkN l ≤ 2000000) (hin : inN l) (hm : mayNs l = 0) :
    Calls Tryz.prog 35 #[.agg #[.int .u64 c, .slice a n cc]] w (PObjPost c l w) := by
  have hlq := bulkN_len l
  have hn := h.row_len
  rw [dNs_len] at hn
  subst hn
  obtain ⟨j0, hj, hy0, hy1, hy2⟩ := info_parts val_info
  have hok := mayNs_all hm
  have hI0 : LO w #[.int .u64 c, .slice a l.length cc] l 0 (((w.alloc (.cells #[.int .u64 c, .slice a l.length cc] 40)).alloc (.cells zero6 52)).alloc (.cells #[.int .i64 5, .bool false, .int .i64 0, .string ⟨#[]⟩, .slice none 0 0, .slice none 0 0] 52)) (.slice none 0 0) := by
    have h1 := Blk.new (w.alloc (.cells #[.int .u64 c, .slice a l.length cc] 40)) 52 zero6
    have h2 := Blk.new ((w.alloc (.cells #[.int .u64 c, .slice a l.length cc] 40)).alloc (.cells zero6 52)) 52 #[.int .i64 5, .bool false, .int .i64 0, .string ⟨#[]⟩, .slice none 0 0, .slice none 0 0]
    rw [World.size_alloc] at h1 h2
    rw [World.size_alloc] at h2
    exact ⟨(((Below.refl _ _).alloc (Nat.le_refl _) _).alloc (by simp) _).alloc (by simp; omega) _, ((Blk.new _ _ _).alloc _).alloc _, h1.alloc _, h2, by simpa [dL] using RowD.nil _ _ _ _⟩
  have Hj := Lib.hid hj
  have Hy0 := Lib.hid hy0
  have Hy1 := Lib.hid hy1
  have Hy2 := Lib.hid hy2
  have H := Lib.hid h
  have Hok := Lib.hid hok
  have HI0 := Lib.hid hI0
  have Hin := Lib.hid hin
  have HT := Lib.hid hT
  have HN := Lib.hid hN
  clear hj hy0 hy1 hy2 h hok hI0 hin hT hN
  clear hm
  go_enter Tryz.func35, Tryz.ntmps35
  go_upto_region 2 with (fail)
  obtain ⟨w0, hw0⟩ : ∃ w0, ((w.alloc (.cells #[.int .u64 c, .slice a l.length cc] 40)).alloc (.cells zero6 52)).alloc (.cells #[.int .i64 5, .bool false, .int .i64 0, .string ⟨#[]⟩, .slice none 0 0, .slice none 0 0] 52) = w0 := ⟨_, rfl⟩
  have hI1 := HI0.out
  rw [hw0] at hI1 ⊢
  clear hw0 HI0
  have d1 := hI1.box.cell 1
  have hgb := hI1.box.lt
  have HI1 := Lib.hid hI1
  clear hI1
  go_wp2_with (fail)
  go_loopw [14] (fun i wr => ∃ q : Nat, i = .int .i64 q ∧ q ≤ l.length ∧ ∃ V, Hid (LO w #[.int .u64 c, .slice a l.length cc] l q wr V)) (fun i _ => l.length - (intOf i).toNat)
  case atStart => exact ⟨0, rfl, Nat.zero_le _, _, HI1⟩
  case round =>
    obtain ⟨q, rfl, hq, V, hI⟩ := hrel
    clear HI1 d1
    by_cases hlt : q < l.length
    · obtain ⟨p, hp⟩ : ∃ p, l[q]? = some p := ⟨_, List.getElem?_eq_getElem hlt⟩
      have hmem := List.mem_of_getElem? hp
      have hbq := bulkN_mem hmem
      obtain ⟨⟨hi0, hi1⟩, hmm⟩ := Hok.out p hmem
      have hinp := (Hin.out p hmem).2
      have hbw := hI.out.below
      have hz := hbw.size
      have htk : dL ((l.map numV).take q) ++ [dV (numV p)] = dL ((l.map numV).take (q + 1)) := by
        rw [List.take_add_one, List.getElem?_map, hp, dL_map, dL_map]; simp
      have hdl : (dL ((l.map numV).take q)).length = q := by rw [dL_len, List.length_take, List.length_map]; omega
      obtain ⟨g, off, rfl, hg, cs', hcs, _, hid0, hcell⟩ := num_at (H.out.below hbw) hp
      obtain ⟨id, m⟩ := p
      simp only at hi0 hi1 hmm hinp hcs hid0 hbq
      have hbm := bulk_mutV m
      have hX := bulk_two kId kMut id (mutV m) (by decide) (by decide)
      have hC : ∀ W', Below wr.heap.size wr W' → Calls Tryz.prog 58 #[.agg cs'.toArray] W' (MObjPost m W') := by
        intro W' hW'
        have hB := hbw.trans (hW'.mono hz)
        obtain ⟨k, key, dst, n, had, ⟨k1, b1, n1, t1, l1, o1⟩, has, ⟨k2, b2, n2, t2, l2, o2⟩, l'⟩ := m
        exact mutObject_calls _ _ _ _ _ _ _ _ _ _ _ _ _ _ _ _ _ _ _ _ W' (HT.out.below hB) (HN.out.below hB) ((hcs.below (hW'.mono hz)).more (Nat.le_trans hz hW'.size)) (by omega) hinp hmm
      obtain ⟨k', key', dst', n', had', ⟨k1', b1', n1', t1', l1', o1'⟩, has', ⟨k2', b2', n2', t2', l2', o2'⟩, l'⟩ := m
      obtain ⟨la1', lc1', oa1', oc1', la2', lc2', oa2', oc2', a', c', rfl, _, _, _⟩ := mut_cells hcs
      have hrange : wr.rangeAt g (off + q * 20) (.int .u64 id :: [.int .i64 k', .string key', .string dst', .int .i64 n', .bool had', .int .i64 k1', .bool b1', .int .i64 n1', .string t1', .slice la1' l1'.length lc1', .slice oa1' o1'.length oc1', .bool has', .int .i64 k2', .bool b2', .int .i64 n2', .string t2', .slice la2' l2'.length lc2', .slice oa2' o2'.length oc2', .slice a' l'.length c']) := by
        intro j v hv
        cases j with
        | zero => simp only [List.getElem?_cons_zero, Option.some.injEq] at hv; subst hv; exact hid0
        | succ j => rw [show off + q * 20 + (j + 1) = off + q * 20 + 1 + j from by omega]; exact hcell j v (by simpa using hv)
      have hgr : g < wr.heap.size := by omega
      have hq1 : (q : Int) < (l.length : Int) := by omega
      have hq0 : (0 : Int) ≤ q := by omega
      generalize hM : mutV (Mut.mk k' key' dst' n' had' (.mk k1' b1' n1' t1' l1' o1') has' (.mk k2' b2' n2' t2' l2' o2') l') = X at hX hbm
      have hO := fun (W : World) a n c h => vobj_ok [(kId, iv id), (kMut, X)] _ a n c W h (by omega) (num_all id X)
      have hnum := fun W => pnumber_calls id (by omega) hi1 W
      have HC := Lib.hid hC
      have Hbw := Lib.hid hbw
      have Htk := Lib.hid htk
      have HM := Lib.hid hM
      have HO := Lib.hid hO
      have Hnum := Lib.hid hnum
      have HX := Lib.hid hX
      have Hbm := Lib.hid hbm
      clear hC hbw htk hM hO hnum hX hbm
      clear hcs hcell hmem hp hid0
      go_upto_region 4 with (fail)
      iterate 5 go_step
      refine wp_load_mid 87 (.tmp 16) rfl g (off + q * 20) rfl (.int .u64 id :: [.int .i64 k', .string key', .string dst', .int .i64 n', .bool had', .int .i64 k1', .bool b1', .int .i64 n1', .string t1', .slice la1' l1'.length lc1', .slice oa1' o1'.length oc1', .bool has', .int .i64 k2', .bool b2', .int .i64 n2', .string t2', .slice la2' l2'.length lc2', .slice oa2' o2'.length oc2', .slice a' l'.length c']) _ hrange Tryz.underlying87 rfl (by kernel_rfl) ?_
      iterate 5 go_step
      refine wp_store_new 87 (.tmp 6) (.tmp 17) rfl #[.int .u64 id, .int .i64 k', .string key', .string dst', .int .i64 n', .bool had', .int .i64 k1', .bool b1', .int .i64 n1', .string t1', .slice la1' l1'.length lc1', .slice oa1' o1'.length oc1', .bool has', .int .i64 k2', .bool b2', .int .i64 n2', .string t2', .slice la2' l2'.length lc2', .slice oa2' o2'.length oc2', .slice a' l'.length c'] rfl rfl rfl (by kernel_rfl) (by simp [Value.oneCell']) ?_
      go_upto_region 5 with (fail)
      iterate 5 go_step
      refine wp_load_mid 85 (.tmp 19) rfl wr.heap.size 1 rfl [.int .i64 k', .string key', .string dst', .int .i64 n', .bool had', .int .i64 k1', .bool b1', .int .i64 n1', .string t1', .slice la1' l1'.length lc1', .slice oa1' o1'.length oc1', .bool has', .int .i64 k2', .bool b2', .int .i64 n2', .string t2', .slice la2' l2'.length lc2', .slice oa2' o2'.length oc2', .slice a' l'.length c'] _ (blk_range1 (Blk.new wr 87 #[.int .u64 id, .int .i64 k', .string key', .string dst', .int .i64 n', .bool had', .int .i64 k1', .bool b1', .int .i64 n1', .string t1', .slice la1' l1'.length lc1', .slice oa1' o1'.length oc1', .bool has', .int .i64 k2', .bool b2', .int .i64 n2', .string t2', .slice la2' l2'.length lc2', .slice oa2' o2'.length oc2', .slice a' l'.length c'])) Tryz.underlying85 rfl (by kernel_rfl) ?_
      go_wp2_with (fail)
      with_reducible refine (HC.out _ (alloc_below _ _)).mono ?_
      rintro e w5 ⟨hb5, oa5, oc5, rfl, hf5⟩
      have hz5 := hb5.size
      rw [World.size_alloc] at hz5
      have hx5 := (Blk.new wr 87 #[.int .u64 id, .int .i64 k', .string key', .string dst', .int .i64 n', .bool had', .int .i64 k1', .bool b1', .int .i64 n1', .string t1', .slice la1' l1'.length lc1', .slice oa1' o1'.length oc1', .bool has', .int .i64 k2', .bool b2', .int .i64 n2', .string t2', .slice la2' l2'.length lc2', .slice oa2' o2'.length oc2', .slice a' l'.length c']).below hb5 (Blk.new _ _ _).lt
      rw [HM.out] at hf5
      obtain ⟨aV, cV, rfl⟩ := hI.out.row.slice
      have hLo : Hid ((dL ((l.map numV).take q)).length + 1 ≤ maxLen ∧ ((dL ((l.map numV).take q)).length + 1) * 88 ≤ 140737488355328) := by rw [hdl]; exact ⟨by simp only [maxLen]; omega, by omega⟩
      have hb5' : Below wr.heap.size wr w5 := (alloc_below wr (.cells #[.int .u64 id, .int .i64 k', .string key', .string dst', .int .i64 n', .bool had', .int .i64 k1', .bool b1', .int .i64 n1', .string t1', .slice la1' l1'.length lc1', .slice oa1' o1'.length oc1', .bool has', .int .i64 k2', .bool b2', .int .i64 n2', .string t2', .slice la2' l2'.length lc2', .slice oa2' o2'.length oc2', .slice a' l'.length c'] 87)).trans (hb5.mono (by simp))
      have Hb5' := Lib.hid hb5'
      have Hf5 := Lib.hid hf5
      have Hx5 := Lib.hid hx5
      clear hb5' hf5 hx5
      clear hb5
      go_upto_region 8 with (fail)
      obtain ⟨wk, hwk⟩ : ∃ wk, w5.alloc (.cells #[.int .i64 6, .bool false, .int .i64 0, .string ⟨#[]⟩, .slice none 0 0, .slice oa5 2 oc5] 52) = wk := ⟨_, rfl⟩
      have hbk : Below w5.heap.size w5 wk := hwk ▸ alloc_below _ _
      have hxk : Blk wk w5.heap.size 52 #[.int .i64 6, .bool false, .int .i64 0, .string ⟨#[]⟩, .slice none 0 0, .slice oa5 2 oc5] := hwk ▸ Blk.new _ _ _
      have hxn := Hx5.out.below hbk Hx5.out.lt
      rw [hwk]
      have n0 := hxn.cell 0
      have hlk := hxk.lt
      have hln := hxn.lt
      have hfk := Hf5.out.later hbk
      have Hbk := Lib.hid hbk
      have Hxn := Lib.hid hxn
      have Hfk := Lib.hid hfk
      have Hxk := Lib.hid hxk
      have N0 := Lib.hid n0
      clear hbk hxn hfk hxk n0
      clear hwk
      go_cut [9, 8] (fun s r wx => AfterI wk [(kId, iv id), (kMut, X)] s r wx)
      case first =>
        refine wp_region_held_drew (S := (fun Y => Y.cell? ⟨wr.heap.size, 0, none⟩ = some (.int .u64 id) ∧ Blk Y w5.heap.size 52 #[.int .i64 6, .bool false, .int .i64 0, .string ⟨#[]⟩, .slice none 0 0, .slice oa5 2 oc5])) (by kernel_rfl) ⟨N0.out, Hxk.out.drew⟩ (fun hHeld => ?_)
        have hbd : Below wk.heap.size wk wk.drew := Below.drew (Below.refl _ _)
        refine wpAnyH_take (i := 0) (v := ?_) rfl (by kernel_rfl) (by kernel_rfl) (by kernel_rfl) (fun _ _ _ h => h) (Or.inl ⟨by kernel_rfl, ?_⟩) hHeld ?_
        rotate_left
        · intro Y hSw
          skip
          first | (go_simp; done) | (go_simp; with_reducible rfl)
        try simp only [Act.put, List.setIfInBounds_toArray]
        refine wpAnyH_take (i := 1) (v := ?_) rfl (by kernel_rfl) (by kernel_rfl) (by kernel_rfl) (fun _ _ _ h => h) (Or.inl ⟨by kernel_rfl, ?_⟩) hHeld ?_
        rotate_left
        · intro Y hSw
          have n0 := hSw.1
          first | (go_simp; done) | (go_simp; with_reducible rfl)
        try simp only [Act.put]
        refine wpAnyH_take (i := 4) (v := ?_) rfl (by kernel_rfl) (by kernel_rfl) (by kernel_rfl) (fun _ _ _ h => h) (Or.inl ⟨by kernel_rfl, ?_⟩) hHeld ?_
        rotate_left
        · intro Y hSw
          obtain ⟨e0, e1, e2, e3, e4, e5⟩ := vcell hSw.2
          first | (go_simp; done) | (go_simp; with_reducible rfl)
        try simp only [Act.put]
        refine wpAnyH_take (i := 5) (v := ?_) rfl (by kernel_rfl) (by kernel_rfl) (by kernel_rfl) (fun _ _ _ h => h) (Or.inl ⟨by kernel_rfl, ?_⟩) hHeld ?_
        rotate_left
        · intro Y hSw
          skip
          first | (go_simp; done) | (go_simp; with_reducible rfl)
        try simp only [Act.put]
        refine wpAnyH_ready (rs := [2, 11]) (by kernel_rfl) (by simp) ?_
        refine AllReadyH.cons rfl (fun K hK => ?_) (AllReadyH.cons rfl (fun K hK => ?_) AllReadyH.nil)
        · -- the number first
          go_simp
          (with_reducible refine (Hnum.out _).mono ?_)
          rintro e w6 ⟨rfl, hb6⟩
          have hbr6 : Below wk.heap.size wk w6 := hbd.trans (hb6.mono (show wk.heap.size ≤ (wk.drew).heap.size from hbd.size))
          have hS_ : (fun Y => Y.cell? ⟨wr.heap.size, 0, none⟩ = some (.int .u64 id) ∧ Blk Y w5.heap.size 52 #[.int .i64 6, .bool false, .int .i64 0, .string ⟨#[]⟩, .slice none 0 0, .slice oa5 2 oc5]) w6 := ⟨(hbr6.cell (p := ⟨wr.heap.size, 0, none⟩) (by show wr.heap.size < wk.heap.size; omega)).trans N0.out, Hxk.out.below hbr6 (by omega)⟩
          refine hK.out _ _ hS_ (fun hHeld => ?_)
          clear hK K
          try simp only [Act.put, List.setIfInBounds_toArray, List.set_cons_zero, List.set_cons_succ]
          refine wpAnyH_take (i := 3) (v := ?_) rfl (by kernel_rfl) (by kernel_rfl) (by kernel_rfl) (fun _ _ _ h => h) (Or.inl ⟨by kernel_rfl, ?_⟩) hHeld ?_
          rotate_left
          · intro Y hSw
            skip
            first | (go_simp; done) | (go_simp; with_reducible rfl)
          try simp only [Act.put, List.setIfInBounds_toArray]
          refine wpAnyH_ready (rs := [6, 11]) (by kernel_rfl) (by simp) ?_
          refine AllReadyH.cons rfl (fun K hK => ?_) (AllReadyH.cons rfl (fun K hK => ?_) AllReadyH.nil)
          · -- the literal
            go_simp
            have hS_ : (fun Y => Y.cell? ⟨wr.heap.size, 0, none⟩ = some (.int .u64 id) ∧ Blk Y w5.heap.size 52 #[.int .i64 6, .bool false, .int .i64 0, .string ⟨#[]⟩, .slice none 0 0, .slice oa5 2 oc5]) (w6.alloc (.cells #[.string kId, .int .i64 3, .bool false, .int .i64 id, .string ⟨#[]⟩, .slice none 0 0, .slice none 0 0, .string kMut, .int .i64 6, .bool false, .int .i64 0, .string ⟨#[]⟩, .slice none 0 0, .slice oa5 2 oc5] 57)) := ⟨((hbr6.alloc hbr6.size (.cells #[.string kId, .int .i64 3, .bool false, .int .i64 id, .string ⟨#[]⟩, .slice none 0 0, .slice none 0 0, .string kMut, .int .i64 6, .bool false, .int .i64 0, .string ⟨#[]⟩, .slice none 0 0, .slice oa5 2 oc5] 57)).cell (p := ⟨wr.heap.size, 0, none⟩) (by show wr.heap.size < wk.heap.size; omega)).trans N0.out, Hxk.out.below (hbr6.alloc hbr6.size (.cells #[.string kId, .int .i64 3, .bool false, .int .i64 id, .string ⟨#[]⟩, .slice none 0 0, .slice none 0 0, .string kMut, .int .i64 6, .bool false, .int .i64 0, .string ⟨#[]⟩, .slice none 0 0, .slice oa5 2 oc5] 57)) (by omega)⟩
            refine hK.out _ _ hS_ (fun hHeld => ?_)
            clear hK K
            try simp only [Act.put, List.setIfInBounds_toArray, List.set_cons_zero, List.set_cons_succ]
            refine wpAnyH_ready (rs := [7, 11]) (by kernel_rfl) (by simp) ?_
            refine AllReadyH.cons rfl (fun K hK => ?_) (AllReadyH.cons rfl (fun K hK => ?_) AllReadyH.nil)
            · -- the call
              go_simp
              (with_reducible refine (HO.out _ _ _ _ (holds_two kId kMut id X _ _ _ _ _ _ w6 (Hfk.out.later hbr6).now)).mono ?_)
              rintro e w7 ⟨hb7, la7, lc7, oa7, oc7, rfl, hf7⟩
              have hbr7 : Below wk.heap.size wk w7 := (hbr6.alloc hbr6.size (.cells #[.string kId, .int .i64 3, .bool false, .int .i64 id, .string ⟨#[]⟩, .slice none 0 0, .slice none 0 0, .string kMut, .int .i64 6, .bool false, .int .i64 0, .string ⟨#[]⟩, .slice none 0 0, .slice oa5 2 oc5] 57)).trans (hb7.mono (show wk.heap.size ≤ (w6.alloc (.cells #[.string kId, .int .i64 3, .bool false, .int .i64 id, .string ⟨#[]⟩, .slice none 0 0, .slice none 0 0, .string kMut, .int .i64 6, .bool false, .int .i64 0, .string ⟨#[]⟩, .slice none 0 0, .slice oa5 2 oc5] 57)).heap.size from (hbr6.alloc hbr6.size (.cells #[.string kId, .int .i64 3, .bool false, .int .i64 id, .string ⟨#[]⟩, .slice none 0 0, .slice none 0 0, .string kMut, .int .i64 6, .bool false, .int .i64 0, .string ⟨#[]⟩, .slice none 0 0, .slice oa5 2 oc5] 57)).size))
              have hS_ : (fun Y => Y.cell? ⟨wr.heap.size, 0, none⟩ = some (.int .u64 id) ∧ Blk Y w5.heap.size 52 #[.int .i64 6, .bool false, .int .i64 0, .string ⟨#[]⟩, .slice none 0 0, .slice oa5 2 oc5]) w7 := ⟨(hbr7.cell (p := ⟨wr.heap.size, 0, none⟩) (by show wr.heap.size < wk.heap.size; omega)).trans N0.out, Hxk.out.below hbr7 (by omega)⟩
              refine hK.out _ _ hS_ (fun hHeld => ?_)
              clear hK K
              try simp only [Act.put, List.setIfInBounds_toArray, List.set_cons_zero, List.set_cons_succ]
              refine wpAnyH_take (i := 8) (v := ?_) rfl (by kernel_rfl) (by kernel_rfl) (by kernel_rfl) (fun _ _ _ h => h) (Or.inl ⟨by kernel_rfl, ?_⟩) hHeld ?_
              rotate_left
              · intro Y hSw
                skip
                first | (go_simp; done) | (go_simp; with_reducible rfl)
              try simp only [Act.put, List.setIfInBounds_toArray]
              refine wpAnyH_take (i := 9) (v := ?_) rfl (by kernel_rfl) (by kernel_rfl) (by kernel_rfl) (fun _ _ _ h => h) (Or.inl ⟨by kernel_rfl, ?_⟩) hHeld ?_
              rotate_left
              · intro Y hSw
                skip
                first | (go_simp; done) | (go_simp; with_reducible rfl)
              try simp only [Act.put]
              refine wpAnyH_take (i := 10) (v := ?_) rfl (by kernel_rfl) (by kernel_rfl) (by kernel_rfl) (fun _ _ _ h => h) (Or.inl ⟨by kernel_rfl, ?_⟩) hHeld ?_
              rotate_left
              · intro Y hSw
                skip
                first | (go_simp; done) | (go_simp; with_reducible rfl)
              try simp only [Act.put]
              refine wpAnyH_ready (rs := [11]) (by kernel_rfl) (by simp) ?_
              refine AllReadyH.cons rfl (fun K hK => ?_) AllReadyH.nil
              go_simp
              have hS_ : (fun Y => Y.cell? ⟨wr.heap.size, 0, none⟩ = some (.int .u64 id) ∧ Blk Y w5.heap.size 52 #[.int .i64 6, .bool false, .int .i64 0, .string ⟨#[]⟩, .slice none 0 0, .slice oa5 2 oc5]) (w7.alloc (.cells zero6 52)) := ⟨((hbr7.alloc hbr7.size (.cells zero6 52)).cell (p := ⟨wr.heap.size, 0, none⟩) (by show wr.heap.size < wk.heap.size; omega)).trans N0.out, Hxk.out.below (hbr7.alloc hbr7.size (.cells zero6 52)) (by omega)⟩
              refine hK.out _ _ hS_ (fun hHeld => ?_)
              clear hK K
              try simp only [Act.put, List.setIfInBounds_toArray, List.set_cons_zero, List.set_cons_succ]
              refine wpAnyH_ready (rs := [12]) (by kernel_rfl) (by simp) ?_
              refine AllReadyH.cons rfl (fun K hK => ?_) AllReadyH.nil
              have hz7 := hbr7.size
              go_simp
              have hS_ : (fun Y => Y.cell? ⟨wr.heap.size, 0, none⟩ = some (.int .u64 id) ∧ Blk Y w5.heap.size 52 #[.int .i64 6, .bool false, .int .i64 0, .string ⟨#[]⟩, .slice none 0 0, .slice oa5 2 oc5]) (w7.alloc (.cells #[.int .i64 6, .bool false, .int .i64 0, .string ⟨#[]⟩, .slice la7 0 lc7, .slice oa7 2 oc7] 52)) := ⟨((hbr7.alloc hbr7.size (.cells #[.int .i64 6, .bool false, .int .i64 0, .string ⟨#[]⟩, .slice la7 0 lc7, .slice oa7 2 oc7] 52)).cell (p := ⟨wr.heap.size, 0, none⟩) (by show wr.heap.size < wk.heap.size; omega)).trans N0.out, Hxk.out.below (hbr7.alloc hbr7.size (.cells #[.int .i64 6, .bool false, .int .i64 0, .string ⟨#[]⟩, .slice la7 0 lc7, .slice oa7 2 oc7] 52)) (by omega)⟩
              refine hK.out _ _ hS_ (fun hHeld => ?_)
              clear hK K
              try simp only [Act.put, List.setIfInBounds_toArray, List.set_cons_zero, List.set_cons_succ]
              refine wpAnyH_take (i := 13) (v := ?_) rfl (by kernel_rfl) (by kernel_rfl) (by kernel_rfl) (fun _ _ _ h => h) (Or.inl ⟨by kernel_rfl, ?_⟩) hHeld ?_
              rotate_left
              · intro Y hSw
                skip
                first | (go_simp; done) | (go_simp; with_reducible rfl)
              try simp only [Act.put, List.setIfInBounds_toArray]
              refine wpAnyH_done (by kernel_rfl) ?_ _
              have HF := Lib.hid (afterI_new hbr7 (by have := hbr6.size; simp only [World.size_alloc]; omega) hf7)
              clear hS_ hHeld hb7 hf7 hbr7 hb6 hbr6
              go_wp2
              go_meet
              exact HF.out
            · -- the variable
              go_simp
              have hS_ : (fun Y => Y.cell? ⟨wr.heap.size, 0, none⟩ = some (.int .u64 id) ∧ Blk Y w5.heap.size 52 #[.int .i64 6, .bool false, .int .i64 0, .string ⟨#[]⟩, .slice none 0 0, .slice oa5 2 oc5]) ((w6.alloc (.cells #[.string kId, .int .i64 3, .bool false, .int .i64 id, .string ⟨#[]⟩, .slice none 0 0, .slice none 0 0, .string kMut, .int .i64 6, .bool false, .int .i64 0, .string ⟨#[]⟩, .slice none 0 0, .slice oa5 2 oc5] 57)).alloc (.cells zero6 52)) := ⟨(((hbr6.alloc hbr6.size (.cells #[.string kId, .int .i64 3, .bool false, .int .i64 id, .string ⟨#[]⟩, .slice none 0 0, .slice none 0 0, .string kMut, .int .i64 6, .bool false, .int .i64 0, .string ⟨#[]⟩, .slice none 0 0, .slice oa5 2 oc5] 57)).alloc (hbr6.alloc hbr6.size (.cells #[.string kId, .int .i64 3, .bool false, .int .i64 id, .string ⟨#[]⟩, .slice none 0 0, .slice none 0 0, .string kMut, .int .i64 6, .bool false, .int .i64 0, .string ⟨#[]⟩, .slice none 0 0, .slice oa5 2 oc5] 57)).size (.cells zero6 52)).cell (p := ⟨wr.heap.size, 0, none⟩) (by show wr.heap.size < wk.heap.size; omega)).trans N0.out, Hxk.out.below ((hbr6.alloc hbr6.size (.cells #[.string kId, .int .i64 3, .bool false, .int .i64 id, .string ⟨#[]⟩, .slice none 0 0, .slice none 0 0, .string kMut, .int .i64 6, .bool false, .int .i64 0, .string ⟨#[]⟩, .slice none 0 0, .slice oa5 2 oc5] 57)).alloc (hbr6.alloc hbr6.size (.cells #[.string kId, .int .i64 3, .bool false, .int .i64 id, .string ⟨#[]⟩, .slice none 0 0, .slice none 0 0, .string kMut, .int .i64 6, .bool false, .int .i64 0, .string ⟨#[]⟩, .slice none 0 0, .slice oa5 2 oc5] 57)).size (.cells zero6 52)) (by omega)⟩
              refine hK.out _ _ hS_ (fun hHeld => ?_)
              clear hK K
              try simp only [Act.put, List.setIfInBounds_toArray, List.set_cons_zero, List.set_cons_succ]
              refine wpAnyH_ready (rs := [7]) (by kernel_rfl) (by simp) ?_
              refine AllReadyH.cons rfl (fun K hK => ?_) AllReadyH.nil
              go_simp
              (with_reducible refine (HO.out _ _ _ _ ((holds_two kId kMut id X _ _ _ _ _ _ w6 (Hfk.out.later hbr6).now).later (alloc_below _ _))).mono ?_)
              rintro e w7 ⟨hb7, la7, lc7, oa7, oc7, rfl, hf7⟩
              have hbr7 : Below wk.heap.size wk w7 := ((hbr6.alloc hbr6.size (.cells #[.string kId, .int .i64 3, .bool false, .int .i64 id, .string ⟨#[]⟩, .slice none 0 0, .slice none 0 0, .string kMut, .int .i64 6, .bool false, .int .i64 0, .string ⟨#[]⟩, .slice none 0 0, .slice oa5 2 oc5] 57)).alloc (hbr6.alloc hbr6.size (.cells #[.string kId, .int .i64 3, .bool false, .int .i64 id, .string ⟨#[]⟩, .slice none 0 0, .slice none 0 0, .string kMut, .int .i64 6, .bool false, .int .i64 0, .string ⟨#[]⟩, .slice none 0 0, .slice oa5 2 oc5] 57)).size (.cells zero6 52)).trans (hb7.mono (show wk.heap.size ≤ ((w6.alloc (.cells #[.string kId, .int .i64 3, .bool false, .int .i64 id, .string ⟨#[]⟩, .slice none 0 0, .slice none 0 0, .string kMut, .int .i64 6, .bool false, .int .i64 0, .string ⟨#[]⟩, .slice none 0 0, .slice oa5 2 oc5] 57)).alloc (.cells zero6 52)).heap.size from ((hbr6.alloc hbr6.size (.cells #[.string kId, .int .i64 3, .bool false, .int .i64 id, .string ⟨#[]⟩, .slice none 0 0, .slice none 0 0, .string kMut, .int .i64 6, .bool false, .int .i64 0, .string ⟨#[]⟩, .slice none 0 0, .slice oa5 2 oc5] 57)).alloc (hbr6.alloc hbr6.size (.cells #[.string kId, .int .i64 3, .bool false, .int .i64 id, .string ⟨#[]⟩, .slice none 0 0, .slice none 0 0, .string kMut, .int .i64 6, .bool false, .int .i64 0, .string ⟨#[]⟩, .slice none 0 0, .slice oa5 2 oc5] 57)).size (.cells zero6 52)).size))
              have hS_ : (fun Y => Y.cell? ⟨wr.heap.size, 0, none⟩ = some (.int .u64 id) ∧ Blk Y w5.heap.size 52 #[.int .i64 6, .bool false, .int .i64 0, .string ⟨#[]⟩, .slice none 0 0, .slice oa5 2 oc5]) w7 := ⟨(hbr7.cell (p := ⟨wr.heap.size, 0, none⟩) (by show wr.heap.size < wk.heap.size; omega)).trans N0.out, Hxk.out.below hbr7 (by omega)⟩
              refine hK.out _ _ hS_ (fun hHeld => ?_)
              clear hK K
              try simp only [Act.put, List.setIfInBounds_toArray, List.set_cons_zero, List.set_cons_succ]
              refine wpAnyH_take (i := 8) (v := ?_) rfl (by kernel_rfl) (by kernel_rfl) (by kernel_rfl) (fun _ _ _ h => h) (Or.inl ⟨by kernel_rfl, ?_⟩) hHeld ?_
              rotate_left
              · intro Y hSw
                skip
                first | (go_simp; done) | (go_simp; with_reducible rfl)
              try simp only [Act.put, List.setIfInBounds_toArray]
              refine wpAnyH_take (i := 9) (v := ?_) rfl (by kernel_rfl) (by kernel_rfl) (by kernel_rfl) (fun _ _ _ h => h) (Or.inl ⟨by kernel_rfl, ?_⟩) hHeld ?_
              rotate_left
              · intro Y hSw
                skip
                first | (go_simp; done) | (go_simp; with_reducible rfl)
              try simp only [Act.put]
              refine wpAnyH_take (i := 10) (v := ?_) rfl (by kernel_rfl) (by kernel_rfl) (by kernel_rfl) (fun _ _ _ h => h) (Or.inl ⟨by kernel_rfl, ?_⟩) hHeld ?_
              rotate_left
              · intro Y hSw
                skip
                first | (go_simp; done) | (go_simp; with_reducible rfl)
              try simp only [Act.put]
              refine wpAnyH_ready (rs := [12]) (by kernel_rfl) (by simp) ?_
              refine AllReadyH.cons rfl (fun K hK => ?_) AllReadyH.nil
              have hxR : Blk w7 (w6.heap.size + 1) 52 zero6 := (by have h := Blk.new (w6.alloc (.cells #[.string kId, .int .i64 3, .bool false, .int .i64 id, .string ⟨#[]⟩, .slice none 0 0, .slice none 0 0, .string kMut, .int .i64 6, .bool false, .int .i64 0, .string ⟨#[]⟩, .slice none 0 0, .slice oa5 2 oc5] 57)) 52 zero6; rw [World.size_alloc] at h; exact h.below hb7 (by simp only [World.size_alloc]; omega))
              obtain ⟨c0, c1, c2, c3, c4, c5⟩ := vcell hxR
              have fz := hxR.frozen
              have hRl := hxR.lt
              have hRk : wk.heap.size ≤ w6.heap.size + 1 := by have := hbr6.size; omega
              go_simp
              have hS_ : (fun Y => Y.cell? ⟨wr.heap.size, 0, none⟩ = some (.int .u64 id) ∧ Blk Y w5.heap.size 52 #[.int .i64 6, .bool false, .int .i64 0, .string ⟨#[]⟩, .slice none 0 0, .slice oa5 2 oc5]) (setMany w7 (w6.heap.size + 1) 0 [.int .i64 6, .bool false, .int .i64 0, .string ⟨#[]⟩, .slice la7 0 lc7, .slice oa7 2 oc7]) := ⟨(World.cell?_of_block (a := ⟨wr.heap.size, 0, none⟩) (setMany_far _ _ _ _ _ (by show wr.heap.size ≠ w6.heap.size + 1; omega))).trans ((hbr7.cell (p := ⟨wr.heap.size, 0, none⟩) (by show wr.heap.size < wk.heap.size; omega)).trans N0.out), (setMany_far _ _ _ _ _ (by omega)).trans (Hxk.out.below hbr7 (by omega))⟩
              refine hK.out _ _ hS_ (fun hHeld => ?_)
              clear hK K
              try simp only [Act.put, List.setIfInBounds_toArray, List.set_cons_zero, List.set_cons_succ]
              refine wpAnyH_take (i := 13) (v := ?_) rfl (by kernel_rfl) (by kernel_rfl) (by kernel_rfl) (fun _ _ _ h => h) (Or.inl ⟨by kernel_rfl, ?_⟩) hHeld ?_
              rotate_left
              · intro Y hSw
                skip
                first | (go_simp; done) | (go_simp; with_reducible rfl)
              try simp only [Act.put, List.setIfInBounds_toArray]
              refine wpAnyH_done (by kernel_rfl) ?_ _
              have HF := Lib.hid (afterI_old hbr7 hRk hxR hf7 (by have := hbr6.size; simp only [World.size_alloc]; omega))
              clear c0 c1 c2 c3 c4 c5 fz hxR hS_ hHeld hb7 hf7 hbr7 hb6 hbr6
              go_wp2
              go_meet
              exact HF.out
          · -- the variable
            go_simp
            have hS_ : (fun Y => Y.cell? ⟨wr.heap.size, 0, none⟩ = some (.int .u64 id) ∧ Blk Y w5.heap.size 52 #[.int .i64 6, .bool false, .int .i64 0, .string ⟨#[]⟩, .slice none 0 0, .slice oa5 2 oc5]) (w6.alloc (.cells zero6 52)) := ⟨((hbr6.alloc hbr6.size (.cells zero6 52)).cell (p := ⟨wr.heap.size, 0, none⟩) (by show wr.heap.size < wk.heap.size; omega)).trans N0.out, Hxk.out.below (hbr6.alloc hbr6.size (.cells zero6 52)) (by omega)⟩
            refine hK.out _ _ hS_ (fun hHeld => ?_)
            clear hK K
            try simp only [Act.put, List.setIfInBounds_toArray, List.set_cons_zero, List.set_cons_succ]
            refine wpAnyH_ready (rs := [6]) (by kernel_rfl) (by simp) ?_
            refine AllReadyH.cons rfl (fun K hK => ?_) AllReadyH.nil
            go_simp
            have hS_ : (fun Y => Y.cell? ⟨wr.heap.size, 0, none⟩ = some (.int .u64 id) ∧ Blk Y w5.heap.size 52 #[.int .i64 6, .bool false, .int .i64 0, .string ⟨#[]⟩, .slice none 0 0, .slice oa5 2 oc5]) ((w6.alloc (.cells zero6 52)).alloc (.cells #[.string kId, .int .i64 3, .bool false, .int .i64 id, .string ⟨#[]⟩, .slice none 0 0, .slice none 0 0, .string kMut, .int .i64 6, .bool false, .int .i64 0, .string ⟨#[]⟩, .slice none 0 0, .slice oa5 2 oc5] 57)) := ⟨(((hbr6.alloc hbr6.size (.cells zero6 52)).alloc (hbr6.alloc hbr6.size (.cells zero6 52)).size (.cells #[.string kId, .int .i64 3, .bool false, .int .i64 id, .string ⟨#[]⟩, .slice none 0 0, .slice none 0 0, .string kMut, .int .i64 6, .bool false, .int .i64 0, .string ⟨#[]⟩, .slice none 0 0, .slice oa5 2 oc5] 57)).cell (p := ⟨wr.heap.size, 0, none⟩) (by show wr.heap.size < wk.heap.size; omega)).trans N0.out, Hxk.out.below ((hbr6.alloc hbr6.size (.cells zero6 52)).alloc (hbr6.alloc hbr6.size (.cells zero6 52)).size (.cells #[.string kId, .int .i64 3, .bool false, .int .i64 id, .string ⟨#[]⟩, .slice none 0 0, .slice none 0 0, .string kMut, .int .i64 6, .bool false, .int .i64 0, .string ⟨#[]⟩, .slice none 0 0, .slice oa5 2 oc5] 57)) (by omega)⟩
            refine hK.out _ _ hS_ (fun hHeld => ?_)
            clear hK K
            try simp only [Act.put, List.setIfInBounds_toArray, List.set_cons_zero, List.set_cons_succ]
            refine wpAnyH_ready (rs := [7]) (by kernel_rfl) (by simp) ?_
            refine AllReadyH.cons rfl (fun K hK => ?_) AllReadyH.nil
            go_simp
            (with_reducible refine (HO.out _ _ _ _ (holds_two' kId kMut id X _ _ _ _ _ _ (w6.alloc (.cells zero6 52)) _ (World.size_alloc _ _) (Hfk.out.later (hbr6.alloc hbr6.size _)).now)).mono ?_)
            rintro e w7 ⟨hb7, la7, lc7, oa7, oc7, rfl, hf7⟩
            have hbr7 : Below wk.heap.size wk w7 := ((hbr6.alloc hbr6.size (.cells zero6 52)).alloc (hbr6.alloc hbr6.size (.cells zero6 52)).size (.cells #[.string kId, .int .i64 3, .bool false, .int .i64 id, .string ⟨#[]⟩, .slice none 0 0, .slice none 0 0, .string kMut, .int .i64 6, .bool false, .int .i64 0, .string ⟨#[]⟩, .slice none 0 0, .slice oa5 2 oc5] 57)).trans (hb7.mono (show wk.heap.size ≤ ((w6.alloc (.cells zero6 52)).alloc (.cells #[.string kId, .int .i64 3, .bool false, .int .i64 id, .string ⟨#[]⟩, .slice none 0 0, .slice none 0 0, .string kMut, .int .i64 6, .bool false, .int .i64 0, .string ⟨#[]⟩, .slice none 0 0, .slice oa5 2 oc5] 57)).heap.size from ((hbr6.alloc hbr6.size (.cells zero6 52)).alloc (hbr6.alloc hbr6.size (.cells zero6 52)).size (.cells #[.string kId, .int .i64 3, .bool false, .int .i64 id, .string ⟨#[]⟩, .slice none 0 0, .slice none 0 0, .string kMut, .int .i64 6, .bool false, .int .i64 0, .string ⟨#[]⟩, .slice none 0 0, .slice oa5 2 oc5] 57)).size))
            have hS_ : (fun Y => Y.cell? ⟨wr.heap.size, 0, none⟩ = some (.int .u64 id) ∧ Blk Y w5.heap.size 52 #[.int .i64 6, .bool false, .int .i64 0, .string ⟨#[]⟩, .slice none 0 0, .slice oa5 2 oc5]) w7 := ⟨(hbr7.cell (p := ⟨wr.heap.size, 0, none⟩) (by show wr.heap.size < wk.heap.size; omega)).trans N0.out, Hxk.out.below hbr7 (by omega)⟩
            refine hK.out _ _ hS_ (fun hHeld => ?_)
            clear hK K
            try simp only [Act.put, List.setIfInBounds_toArray, List.set_cons_zero, List.set_cons_succ]
            refine wpAnyH_take (i := 8) (v := ?_) rfl (by kernel_rfl) (by kernel_rfl) (by kernel_rfl) (fun _ _ _ h => h) (Or.inl ⟨by kernel_rfl, ?_⟩) hHeld ?_
            rotate_left
            · intro Y hSw
              skip
              first | (go_simp; done) | (go_simp; with_reducible rfl)
            try simp only [Act.put, List.setIfInBounds_toArray]
            refine wpAnyH_take (i := 9) (v := ?_) rfl (by kernel_rfl) (by kernel_rfl) (by kernel_rfl) (fun _ _ _ h => h) (Or.inl ⟨by kernel_rfl, ?_⟩) hHeld ?_
            rotate_left
            · intro Y hSw
              skip
              first | (go_simp; done) | (go_simp; with_reducible rfl)
            try simp only [Act.put]
            refine wpAnyH_take (i := 10) (v := ?_) rfl (by kernel_rfl) (by kernel_rfl) (by kernel_rfl) (fun _ _ _ h => h) (Or.inl ⟨by kernel_rfl, ?_⟩) hHeld ?_
            rotate_left
            · intro Y hSw
              skip
              first | (go_simp; done) | (go_simp; with_reducible rfl)
            try simp only [Act.put]
            refine wpAnyH_ready (rs := [12]) (by kernel_rfl) (by simp) ?_
            refine AllReadyH.cons rfl (fun K hK => ?_) AllReadyH.nil
            have hxR : Blk w7 (w6.heap.size) 52 zero6 := ((Blk.new w6 52 zero6).alloc (.cells #[.string kId, .int .i64 3, .bool false, .int .i64 id, .string ⟨#[]⟩, .slice none 0 0, .slice none 0 0, .string kMut, .int .i64 6, .bool false, .int .i64 0, .string ⟨#[]⟩, .slice none 0 0, .slice oa5 2 oc5] 57)).below hb7 (by simp only [World.size_alloc]; omega)
            obtain ⟨c0, c1, c2, c3, c4, c5⟩ := vcell hxR
            have fz := hxR.frozen
            have hRl := hxR.lt
            have hRk : wk.heap.size ≤ w6.heap.size := by have := hbr6.size; omega
            go_simp
            have hS_ : (fun Y => Y.cell? ⟨wr.heap.size, 0, none⟩ = some (.int .u64 id) ∧ Blk Y w5.heap.size 52 #[.int .i64 6, .bool false, .int .i64 0, .string ⟨#[]⟩, .slice none 0 0, .slice oa5 2 oc5]) (setMany w7 (w6.heap.size) 0 [.int .i64 6, .bool false, .int .i64 0, .string ⟨#[]⟩, .slice la7 0 lc7, .slice oa7 2 oc7]) := ⟨(World.cell?_of_block (a := ⟨wr.heap.size, 0, none⟩) (setMany_far _ _ _ _ _ (by show wr.heap.size ≠ w6.heap.size; omega))).trans ((hbr7.cell (p := ⟨wr.heap.size, 0, none⟩) (by show wr.heap.size < wk.heap.size; omega)).trans N0.out), (setMany_far _ _ _ _ _ (by omega)).trans (Hxk.out.below hbr7 (by omega))⟩
            refine hK.out _ _ hS_ (fun hHeld => ?_)
            clear hK K
            try simp only [Act.put, List.setIfInBounds_toArray, List.set_cons_zero, List.set_cons_succ]
            refine wpAnyH_take (i := 13) (v := ?_) rfl (by kernel_rfl) (by kernel_rfl) (by kernel_rfl) (fun _ _ _ h => h) (Or.inl ⟨by kernel_rfl, ?_⟩) hHeld ?_
            rotate_left
            · intro Y hSw
              skip
              first | (go_simp; done) | (go_simp; with_reducible rfl)
            try simp only [Act.put, List.setIfInBounds_toArray]
            refine wpAnyH_done (by kernel_rfl) ?_ _
            have HF := Lib.hid (afterI_old hbr7 hRk hxR hf7 (by have := hbr6.size; simp only [World.size_alloc]; omega))
            clear c0 c1 c2 c3 c4 c5 fz hxR hS_ hHeld hb7 hf7 hbr7 hb6 hbr6
            go_wp2
            go_meet
            exact HF.out
        · -- the variable first
          go_simp
          have hS_ : (fun Y => Y.cell? ⟨wr.heap.size, 0, none⟩ = some (.int .u64 id) ∧ Blk Y w5.heap.size 52 #[.int .i64 6, .bool false, .int .i64 0, .string ⟨#[]⟩, .slice none 0 0, .slice oa5 2 oc5]) (wk.drew.alloc (.cells zero6 52)) := ⟨((hbd.alloc hbd.size (.cells zero6 52)).cell (p := ⟨wr.heap.size, 0, none⟩) (by show wr.heap.size < wk.heap.size; omega)).trans N0.out, Hxk.out.below (hbd.alloc hbd.size (.cells zero6 52)) (by omega)⟩
          refine hK.out _ _ hS_ (fun hHeld => ?_)
          clear hK K
          try simp only [Act.put, List.setIfInBounds_toArray, List.set_cons_zero, List.set_cons_succ]
          refine wpAnyH_ready (rs := [2]) (by kernel_rfl) (by simp) ?_
          refine AllReadyH.cons rfl (fun K hK => ?_) AllReadyH.nil
          go_simp
          (with_reducible refine (Hnum.out _).mono ?_)
          rintro e w6 ⟨rfl, hb6⟩
          have hbr6 : Below wk.heap.size wk w6 := (hbd.alloc hbd.size (.cells zero6 52)).trans (hb6.mono (show wk.heap.size ≤ (wk.drew.alloc (.cells zero6 52)).heap.size from (hbd.alloc hbd.size (.cells zero6 52)).size))
          have hS_ : (fun Y => Y.cell? ⟨wr.heap.size, 0, none⟩ = some (.int .u64 id) ∧ Blk Y w5.heap.size 52 #[.int .i64 6, .bool false, .int .i64 0, .string ⟨#[]⟩, .slice none 0 0, .slice oa5 2 oc5]) w6 := ⟨(hbr6.cell (p := ⟨wr.heap.size, 0, none⟩) (by show wr.heap.size < wk.heap.size; omega)).trans N0.out, Hxk.out.below hbr6 (by omega)⟩
          refine hK.out _ _ hS_ (fun hHeld => ?_)
          clear hK K
          try simp only [Act.put, List.setIfInBounds_toArray, List.set_cons_zero, List.set_cons_succ]
          refine wpAnyH_take (i := 3) (v := ?_) rfl (by kernel_rfl) (by kernel_rfl) (by kernel_rfl) (fun _ _ _ h => h) (Or.inl ⟨by kernel_rfl, ?_⟩) hHeld ?_
          rotate_left
          · intro Y hSw
            skip
            first | (go_simp; done) | (go_simp; with_reducible rfl)
          try simp only [Act.put, List.setIfInBounds_toArray]
          refine wpAnyH_ready (rs := [6]) (by kernel_rfl) (by simp) ?_
          refine AllReadyH.cons rfl (fun K hK => ?_) AllReadyH.nil
          go_simp
          have hS_ : (fun Y => Y.cell? ⟨wr.heap.size, 0, none⟩ = some (.int .u64 id) ∧ Blk Y w5.heap.size 52 #[.int .i64 6, .bool false, .int .i64 0, .string ⟨#[]⟩, .slice none 0 0, .slice oa5 2 oc5]) (w6.alloc (.cells #[.string kId, .int .i64 3, .bool false, .int .i64 id, .string ⟨#[]⟩, .slice none 0 0, .slice none 0 0, .string kMut, .int .i64 6, .bool false, .int .i64 0, .string ⟨#[]⟩, .slice none 0 0, .slice oa5 2 oc5] 57)) := ⟨((hbr6.alloc hbr6.size (.cells #[.string kId, .int .i64 3, .bool false, .int .i64 id, .string ⟨#[]⟩, .slice none 0 0, .slice none 0 0, .string kMut, .int .i64 6, .bool false, .int .i64 0, .string ⟨#[]⟩, .slice none 0 0, .slice oa5 2 oc5] 57)).cell (p := ⟨wr.heap.size, 0, none⟩) (by show wr.heap.size < wk.heap.size; omega)).trans N0.out, Hxk.out.below (hbr6.alloc hbr6.size (.cells #[.string kId, .int .i64 3, .bool false, .int .i64 id, .string ⟨#[]⟩, .slice none 0 0, .slice none 0 0, .string kMut, .int .i64 6, .bool false, .int .i64 0, .string ⟨#[]⟩, .slice none 0 0, .slice oa5 2 oc5] 57)) (by omega)⟩
          refine hK.out _ _ hS_ (fun hHeld => ?_)
          clear hK K
          try simp only [Act.put, List.setIfInBounds_toArray, List.set_cons_zero, List.set_cons_succ]
          refine wpAnyH_ready (rs := [7]) (by kernel_rfl) (by simp) ?_
          refine AllReadyH.cons rfl (fun K hK => ?_) AllReadyH.nil
          go_simp
          (with_reducible refine (HO.out _ _ _ _ (holds_two kId kMut id X _ _ _ _ _ _ w6 (Hfk.out.later hbr6).now)).mono ?_)
          rintro e w7 ⟨hb7, la7, lc7, oa7, oc7, rfl, hf7⟩
          have hbr7 : Below wk.heap.size wk w7 := (hbr6.alloc hbr6.size (.cells #[.string kId, .int .i64 3, .bool false, .int .i64 id, .string ⟨#[]⟩, .slice none 0 0, .slice none 0 0, .string kMut, .int .i64 6, .bool false, .int .i64 0, .string ⟨#[]⟩, .slice none 0 0, .slice oa5 2 oc5] 57)).trans (hb7.mono (show wk.heap.size ≤ (w6.alloc (.cells #[.string kId, .int .i64 3, .bool false, .int .i64 id, .string ⟨#[]⟩, .slice none 0 0, .slice none 0 0, .string kMut, .int .i64 6, .bool false, .int .i64 0, .string ⟨#[]⟩, .slice none 0 0, .slice oa5 2 oc5] 57)).heap.size from (hbr6.alloc hbr6.size (.cells #[.string kId, .int .i64 3, .bool false, .int .i64 id, .string ⟨#[]⟩, .slice none 0 0, .slice none 0 0, .string kMut, .int .i64 6, .bool false, .int .i64 0, .string ⟨#[]⟩, .slice none 0 0, .slice oa5 2 oc5] 57)).size))
          have hS_ : (fun Y => Y.cell? ⟨wr.heap.size, 0, none⟩ = some (.int .u64 id) ∧ Blk Y w5.heap.size 52 #[.int .i64 6, .bool false, .int .i64 0, .string ⟨#[]⟩, .slice none 0 0, .slice oa5 2 oc5]) w7 := ⟨(hbr7.cell (p := ⟨wr.heap.size, 0, none⟩) (by show wr.heap.size < wk.heap.size; omega)).trans N0.out, Hxk.out.below hbr7 (by omega)⟩
          refine hK.out _ _ hS_ (fun hHeld => ?_)
          clear hK K
          try simp only [Act.put, List.setIfInBounds_toArray, List.set_cons_zero, List.set_cons_succ]
          refine wpAnyH_take (i := 8) (v := ?_) rfl (by kernel_rfl) (by kernel_rfl) (by kernel_rfl) (fun _ _ _ h => h) (Or.inl ⟨by kernel_rfl, ?_⟩) hHeld ?_
          rotate_left
          · intro Y hSw
            skip
            first | (go_simp; done) | (go_simp; with_reducible rfl)
          try simp only [Act.put, List.setIfInBounds_toArray]
          refine wpAnyH_take (i := 9) (v := ?_) rfl (by kernel_rfl) (by kernel_rfl) (by kernel_rfl) (fun _ _ _ h => h) (Or.inl ⟨by kernel_rfl, ?_⟩) hHeld ?_
          rotate_left
          · intro Y hSw
            skip
            first | (go_simp; done) | (go_simp; with_reducible rfl)
          try simp only [Act.put]
          refine wpAnyH_take (i := 10) (v := ?_) rfl (by kernel_rfl) (by kernel_rfl) (by kernel_rfl) (fun _ _ _ h => h) (Or.inl ⟨by kernel_rfl, ?_⟩) hHeld ?_
          rotate_left
          · intro Y hSw
            skip
            first | (go_simp; done) | (go_simp; with_reducible rfl)
          try simp only [Act.put]
          refine wpAnyH_ready (rs := [12]) (by kernel_rfl) (by simp) ?_
          refine AllReadyH.cons rfl (fun K hK => ?_) AllReadyH.nil
          have hxR : Blk w7 (wk.heap.size) 52 zero6 := (((Blk.new wk.drew 52 zero6).below hb6 (Blk.new _ _ _).lt).alloc (.cells #[.string kId, .int .i64 3, .bool false, .int .i64 id, .string ⟨#[]⟩, .slice none 0 0, .slice none 0 0, .string kMut, .int .i64 6, .bool false, .int .i64 0, .string ⟨#[]⟩, .slice none 0 0, .slice oa5 2 oc5] 57)).below hb7 (show wk.heap.size < _ from by have := hbr6.size; simp only [World.size_alloc]; omega)
          obtain ⟨c0, c1, c2, c3, c4, c5⟩ := vcell hxR
          have fz := hxR.frozen
          have hRl := hxR.lt
          have hRk : wk.heap.size ≤ wk.heap.size := by have := hbr6.size; omega
          go_simp
          have hS_ : (fun Y => Y.cell? ⟨wr.heap.size, 0, none⟩ = some (.int .u64 id) ∧ Blk Y w5.heap.size 52 #[.int .i64 6, .bool false, .int .i64 0, .string ⟨#[]⟩, .slice none 0 0, .slice oa5 2 oc5]) (setMany w7 (wk.heap.size) 0 [.int .i64 6, .bool false, .int .i64 0, .string ⟨#[]⟩, .slice la7 0 lc7, .slice oa7 2 oc7]) := ⟨(World.cell?_of_block (a := ⟨wr.heap.size, 0, none⟩) (setMany_far _ _ _ _ _ (by show wr.heap.size ≠ wk.heap.size; omega))).trans ((hbr7.cell (p := ⟨wr.heap.size, 0, none⟩) (by show wr.heap.size < wk.heap.size; omega)).trans N0.out), (setMany_far _ _ _ _ _ (by omega)).trans (Hxk.out.below hbr7 (by omega))⟩
          refine hK.out _ _ hS_ (fun hHeld => ?_)
          clear hK K
          try simp only [Act.put, List.setIfInBounds_toArray, List.set_cons_zero, List.set_cons_succ]
          refine wpAnyH_take (i := 13) (v := ?_) rfl (by kernel_rfl) (by kernel_rfl) (by kernel_rfl) (fun _ _ _ h => h) (Or.inl ⟨by kernel_rfl, ?_⟩) hHeld ?_
          rotate_left
          · intro Y hSw
            skip
            first | (go_simp; done) | (go_simp; with_reducible rfl)
          try simp only [Act.put, List.setIfInBounds_toArray]
          refine wpAnyH_done (by kernel_rfl) ?_ _
          have HF := Lib.hid (afterI_old hbr7 hRk hxR hf7 (by have := hbr6.size; simp only [World.size_alloc]; omega))
          clear c0 c1 c2 c3 c4 c5 fz hxR hS_ hHeld hb7 hf7 hbr7 hb6 hbr6
          go_wp2
          go_meet
          exact HF.out
      case rest =>
        obtain ⟨hwc, rfl, R, la, lc, oa, oc, rfl, hR, hxR, hfR⟩ := hcut
        have hrc : Below wr.heap.size wr wc := (Hb5'.out.trans (Hbk.out.mono (by omega))).trans (hwc.mono (by omega))
        have hxv := hI.out.var.below hrc hI.out.var.lt
        have hbx := hI.out.box.below hrc hI.out.box.lt
        have hrs := hI.out.res.below hrc hI.out.res.lt
        have hrow := hI.out.row
        have hbase := hI.out.row.base
        rw [hdl] at hxv hrow hbase
        have hgv := hI.out.var.lt
        have hgvc := hxv.lt
        have hzc := hrc.size
        obtain ⟨r0, r1, r2, r3, r4, r5⟩ := vcell hxR
        have y4 := hxv.cell 4
        have hRl := hxR.lt
        rw [← HM.out] at hfR
        have hfe : Fresh wr.heap.size (wc.alloc (.cells #[.int .i64 6, .bool false, .int .i64 0, .string ⟨#[]⟩, .slice la 0 lc, .slice oa 2 oc] 52)) (dV (numV ⟨id, (Mut.mk k' key' dst' n' had' (.mk k1' b1' n1' t1' l1' o1') has' (.mk k2' b2' n2' t2' l2' o2') l')⟩)) [.int .i64 6, .bool false, .int .i64 0, .string ⟨#[]⟩, .slice la 0 lc, .slice oa 2 oc] :=
          (hfR.keep (b' := wr.heap.size) (by omega) (Nat.le_refl _) fun _ _ _ => rfl).later (alloc_below _ _)
        have hbe := hrc.alloc hzc (.cells #[.int .i64 6, .bool false, .int .i64 0, .string ⟨#[]⟩, .slice la 0 lc, .slice oa 2 oc] 52)
        have hxv5 := hxv.alloc (.cells #[.int .i64 6, .bool false, .int .i64 0, .string ⟨#[]⟩, .slice la 0 lc, .slice oa 2 oc] 52)
        have hbx5 := hbx.alloc (.cells #[.int .i64 6, .bool false, .int .i64 0, .string ⟨#[]⟩, .slice la 0 lc, .slice oa 2 oc] 52)
        have hrs5 := hrs.alloc (.cells #[.int .i64 6, .bool false, .int .i64 0, .string ⟨#[]⟩, .slice la 0 lc, .slice oa 2 oc] 52)
        have hw5 := Hbw.out.trans (hbe.mono hz)
        have Hwc := Lib.hid hwc
        have Hrc := Lib.hid hrc
        have Hxv := Lib.hid hxv
        have Hbx := Lib.hid hbx
        have Hrs := Lib.hid hrs
        have Hrow := Lib.hid hrow
        have HxR := Lib.hid hxR
        have HfR := Lib.hid hfR
        have Hfe := Lib.hid hfe
        have Hbe := Lib.hid hbe
        have Hxv5 := Lib.hid hxv5
        have Hbx5 := Lib.hid hbx5
        have Hrs5 := Lib.hid hrs5
        have Hw5 := Lib.hid hw5
        have Hbase := Lib.hid hbase
        clear hwc hrc hxv hbx hrs hrow hxR hfR hfe hbe hxv5 hbx5 hrs5 hw5 hbase
        clear Hxk Hfk Hf5 Hx5 Hxn N0
        go_wp2_with (at_builtin; apply Shut.out)
        unfold Shut
        refine wpList_append_D (d := dV (numV ⟨id, (Mut.mk k' key' dst' n' had' (.mk k1' b1' n1' t1' l1' o1') has' (.mk k2' b2' n2' t2' l2' o2') l')⟩)) (V := .slice aV q cV) rfl (.tmp 44) (.tmp 46) 49 rfl Tryz.underlying49 Hj.out Hy0.out Hy1.out Hy2.out rfl (by omega) rfl Hrow.out (by omega) Hbe.out (dV_cells _) Hfe.out rfl (reads_six wc _ _ _ _ _ _) hLo.out.1 hLo.out.2 ?_
        intro V6 w6 hrow6 hg6 hat6
        rw [Htk.out] at hrow6
        have hx6 := blk_app Hxv5.out hg6 Hrow.out (by omega)
        have hbx6 := blk_app Hbx5.out hg6 Hrow.out (by omega)
        have hrs6 := blk_app Hrs5.out hg6 Hrow.out (by omega)
        have hw6 := below_app Hw5.out hg6 Hrow.out (by omega) Hw5.out.size
        obtain ⟨a6, c6, rfl⟩ := hrow6.slice
        have e6 := hx6.cell 4
        have f6 := hx6.frozen 4
        have hg6v := hx6.lt
        have HN6 : Hid (LO w #[.int .u64 c, .slice (some ⟨g, off, none⟩) l.length cc] l (q + 1) (w6.setCell ⟨w.heap.size + 2, 4, none⟩ (.slice a6 (dL ((l.map numV).take (q + 1))).length c6)) (.slice a6 (dL ((l.map numV).take (q + 1))).length c6)) :=
          ⟨hw6.setCell (by simp) _, hbx6.far (by simp) _, hrs6.far (by simp) _, hx6.set_ 4 _, hrow6.keep (by simp [World.setCell]) (fun i h1 _ => Below.heap_setCell _ _ _ _ (by simp; omega))⟩
        have Hx6 := Lib.hid hx6
        have Hbx6 := Lib.hid hbx6
        have Hrs6 := Lib.hid hrs6
        have Hw6 := Lib.hid hw6
        have Hrow6 := Lib.hid hrow6
        clear hx6 hbx6 hrs6 hw6 hrow6
        clear hg6 hat6
        go_wp2
        go_roundw
        case rel => exact ⟨q + 1, by go_num, by omega, _, HN6⟩
        case measure => simp only [intOf]; omega
    · obtain rfl : q = l.length := by omega
      have hln : (dL ((l.map numV).take l.length)).length = l.length := by rw [dL_len, List.length_take, List.length_map, Nat.min_self]
      have hbw := hI.out.below
      have hz := hbw.size
      have hbx := hI.out.box
      have hrs := hI.out.res
      have hxv := hI.out.var
      have hrow := hI.out.row.close
      obtain ⟨aV, cV, rfl⟩ := hI.out.row.slice_n hln
      obtain ⟨a', c', e', _, hf, _⟩ := hrow
      rw [hln] at e' hf
      obtain ⟨rfl, rfl⟩ : aV = a' ∧ cV = c' := by simpa using e'
      have hfl : Fresh (w.heap.size + 3) wr (dV (lv (l.map numV))) [.int .i64 5, .bool false, .int .i64 0, .string ⟨#[]⟩, .slice aV l.length cV, .slice none 0 0] := by
        refine fresh_lv ?_
        have htl : (l.map numV).take l.length = l.map numV := List.take_of_length_le (by simp)
        rw [htl] at hf
        exact hf
      obtain ⟨x0, x1, x2, x3, x4, x5⟩ := vcell hxv
      obtain ⟨r0, r1, r2, r3, r4, r5⟩ := vcell hrs
      have fz := hrs.frozen
      have d0 := hbx.cell 0
      have hgb2 := hbx.lt
      have hgr2 := hrs.lt
      have hgv := hxv.lt
      have hnum := fun W => pnumber_calls c hc0 hc1 W
      have hX := bulk_two kCli kList c (lv (l.map numV)) (by decide) (by decide)
      have hbn := bulk_nums l
      have e00 : (⟨#[]⟩ : ByteArray).size = 0 := rfl
      have hO := fun (W : World) a n c' h => vobj_ok [(kCli, iv c), (kList, lv (l.map numV))] _ a n c' W h (by simp only [lv, Val.bulk, bulkO, e00] at hX ⊢; omega) (push_all c (lv (l.map numV)))
      have Hbw := Lib.hid hbw
      have Hbx := Lib.hid hbx
      have Hrs := Lib.hid hrs
      have Hxv := Lib.hid hxv
      have Hfl := Lib.hid hfl
      have Hnum := Lib.hid hnum
      have HO := Lib.hid hO
      have HX := Lib.hid hX
      have Hbn := Lib.hid hbn
      have E00 := Lib.hid e00
      clear hbw hbx hrs hxv hfl hnum hO hX hbn e00
      clear hI hf e' hln Hok Hin HT HN H
      go_upto_region 13 with (fail)
      go_region_held3 (fun W => W.cell? ⟨w.heap.size, 0, none⟩ = some (.int .u64 c) ∧ W.cell? ⟨w.heap.size + 2, 0, none⟩ = some (.int .i64 5) ∧ W.cell? ⟨w.heap.size + 2, 1, none⟩ = some (.bool false) ∧ W.cell? ⟨w.heap.size + 2, 2, none⟩ = some (.int .i64 0) ∧ W.cell? ⟨w.heap.size + 2, 3, none⟩ = some (.string ⟨#[]⟩) ∧ W.cell? ⟨w.heap.size + 2, 4, none⟩ = some (.slice aV l.length cV) ∧ W.cell? ⟨w.heap.size + 2, 5, none⟩ = some (.slice none 0 0)) (go_keep) (first
        | (go_at_call 59; refine (Hnum.out _).mono ?_; rintro e w6 ⟨rfl, hb6⟩; have hbr6 : Below wr.heap.size wr w6 := ((Below.drew (Below.refl _ _)).trans hb6); obtain ⟨hc6, hg6⟩ := bcellM hbr6)
        | (go_at_call 46; refine (HO.out _ _ _ _ (holds_two kCli kList c (lv (l.map numV)) _ _ _ _ _ _ w6 (Hfl.out.later hbr6).now)).mono ?_; rintro e w7 ⟨hb7, la7, lc7, oa7, oc7, rfl, hf7⟩; have hbr7 := (hbr6.alloc hbr6.size _).trans (hb7.mono (by have := hbr6.size; simp; omega)); obtain ⟨hc7, hg7⟩ := bcellM hbr7))
      all_goals
        have hz6 := hbr6.size
        have hr7 := Hrs.out.below hbr7 Hrs.out.lt
        have hw7 := Hbw.out.trans (hbr7.mono hz)
        have Hr7 := Lib.hid hr7
        have Hw7 := Lib.hid hw7
        have Hf7 := Lib.hid hf7
        clear hr7 hw7 hf7
        clear hc6 hg6 hc7 hg7 hb6 hb7 hbr6 hbr7 r0 r1 r2 r3 r4 r5 fz x0 x1 x2 x3 x4 x5 d0
        repeat go_step
        have hxf := ((((((Hr7.out.set_ 0 (.int .i64 6)).set_ 1 (.bool false)).set_ 2 (.int .i64 0)).set_ 3 (.string ⟨#[]⟩)).set_ 4 (.slice la7 0 lc7)).set_ 5 (.slice oa7 2 oc7))
        have hbf := setMany_below [.int .i64 6, .bool false, .int .i64 0, .string ⟨#[]⟩, .slice la7 0 lc7, .slice oa7 2 oc7] Hw7.out (Nat.le_succ w.heap.size) (o := 0)
        have hff : Fresh w.heap.size (setMany w7 (w.heap.size + 1) 0 [.int .i64 6, .bool false, .int .i64 0, .string ⟨#[]⟩, .slice la7 0 lc7, .slice oa7 2 oc7]) (dV (ov (pushO c l))) [.int .i64 6, .bool false, .int .i64 0, .string ⟨#[]⟩, .slice la7 0 lc7, .slice oa7 2 oc7] :=
          Hf7.out.keep (b' := w.heap.size) (by simp only [World.size_alloc]; omega) (by rw [setMany_size]; exact Nat.le_refl _) (fun p p1 _ => World.cell?_of_block (setMany_far _ _ _ _ _ (by simp only [World.size_alloc] at p1; omega)))
        exact bodyPost_ret (results_cell6_t rfl rfl hxf) rfl ⟨hbf, la7, lc7, oa7, oc7, rfl, hff⟩
end Go.Proofs.YtemceefalkfneaaGreatDoor
