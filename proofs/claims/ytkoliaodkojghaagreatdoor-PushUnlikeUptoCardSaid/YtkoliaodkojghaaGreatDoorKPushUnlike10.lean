/- Parts, joined: mutator.write for every mutator that may be. Condition: a bulk of at most 8 * 10^6. mutator.Object: a mutator's object, or why it has none. Condition: a bulk of at most 8 * 10^6, numbers of 64 bits. push.object: a push's object. Condition: a push that may be, of a bulk of at most 2 * 10^6, numbers of 64 bits. push.Encode: the frame of a push that may be, or why it has none. Condition: a bulk of at most 2 * 10^6, numbers of 64 bits. -/
import Derived.Test.YtkoliaodkojghaaGreatDoorProg
import Derived.Deep.RegionHeld3
import Derived.Test.YtkoliaodkojghaaGreatDoorKPush17
import Derived.Test.YtkoliaodkojghaaGreatDoorKPush24
import Derived.Test.YtkoliaodkojghaaGreatDoorKPushUnlike7
import Derived.Test.YtkoliaodkojghaaGreatDoorKPushUnlike8
/- mutator.write for every mutator that may be. Condition: a bulk of at most 8 * 10^6. -/
namespace Go.Proofs.YtkoliaodkojghaaGreatDoor
open Go Go.RowKit

set_option maxRecDepth 100000 in
set_option maxHeartbeats 4000000 in
theorem shapes8_calls (m : Mut) (y0 y1 y2 y3 y4 y5 y6 y7 y8 y9 y10 y11 y12 y13 y14 y15 y16 y17 y18 : Value) (A g : Nat) (w : World) (hA : w.cell? ⟨A, 0, none⟩ = some (.map (some g))) (hlt : A < w.heap.size)
    (hC : ∀ W', Below w.heap.size w W' → Calls Tryz.prog 60 #[.map (some g), .agg #[y0, y1, y2, y3, y4, y5, y6, y7, y8, y9, y10, y11, y12, y13, y14, y15, y16, y17, y18]] W' (WritePost m W')) :
    Calls Tryz.prog 113 #[.agg #[y0, y1, y2, y3, y4, y5, y6, y7, y8, y9, y10, y11, y12, y13, y14, y15, y16, y17, y18], .pointer (some ⟨A, 0, none⟩)] w (WritePost m w) := by
  have h0 : Below w.heap.size w ((w.alloc (.cells #[y0, y1, y2, y3, y4, y5, y6, y7, y8, y9, y10, y11, y12, y13, y14, y15, y16, y17, y18] 48)).alloc (.cells zero6 45)) := ((Below.refl _ _).alloc (Nat.le_refl _) _).alloc (by simp) _
  have hx0 : Blk ((w.alloc (.cells #[y0, y1, y2, y3, y4, y5, y6, y7, y8, y9, y10, y11, y12, y13, y14, y15, y16, y17, y18] 48)).alloc (.cells zero6 45)) w.heap.size 48 #[y0, y1, y2, y3, y4, y5, y6, y7, y8, y9, y10, y11, y12, y13, y14, y15, y16, y17, y18] := (Blk.new _ _ _).alloc _
  have hr0 : Blk ((w.alloc (.cells #[y0, y1, y2, y3, y4, y5, y6, y7, y8, y9, y10, y11, y12, y13, y14, y15, y16, y17, y18] 48)).alloc (.cells zero6 45)) (w.heap.size + 1) 45 zero6 := by
    have := Blk.new (w.alloc (.cells #[y0, y1, y2, y3, y4, y5, y6, y7, y8, y9, y10, y11, y12, y13, y14, y15, y16, y17, y18] 48)) 45 zero6
    rwa [World.size_alloc] at this
  have hz2 : w.heap.size + 2 ≤ ((w.alloc (.cells #[y0, y1, y2, y3, y4, y5, y6, y7, y8, y9, y10, y11, y12, y13, y14, y15, y16, y17, y18] 48)).alloc (.cells zero6 45)).heap.size := by simp
  have hA0 := (h0.cell (p := ⟨A, 0, none⟩) hlt).trans hA
  have H0 := Lib.hid h0
  have Hx0 := Lib.hid hx0
  have Hr0 := Lib.hid hr0
  have HC := Lib.hid hC
  have Hz2 := Lib.hid hz2
  clear h0 hx0 hr0 hC hz2
  go_enter Tryz.func113, Tryz.ntmps113
  go_upto_region 1 with (fail)
  iterate 5 go_step
  refine wp_load_blk 48 (.tmp 2) rfl w.heap.size _ Hx0.out rfl _ Tryz.underlying48 rfl (by kernel_rfl) ?_
  go_wp2_with (fail)
  with_reducible refine (HC.out _ H0.out).mono ?_
  rintro e w6 ⟨hb6, oa5, oc5, rfl, hf6⟩
  have hw6 := H0.out.trans (hb6.mono H0.out.size)
  have hr6 := Hr0.out.below hb6 Hr0.out.lt
  obtain ⟨c0, c1, c2, c3, c4, c5⟩ := vcell hr6
  have fz := hr6.frozen
  have hlt6 := hr6.lt
  have Hb6 := Lib.hid hb6
  have Hw6 := Lib.hid hw6
  have Hr6 := Lib.hid hr6
  have Hf6 := Lib.hid hf6
  clear hb6 hw6 hr6 hf6
  clear hA0 hA
  dsimp only
  repeat go_step
  have hxf := ((((((Hr6.out.set_ 0 (.int .i64 6)).set_ 1 (.bool false)).set_ 2 (.int .i64 0)).set_ 3 (.string ⟨#[]⟩)).set_ 4 (.slice none 0 0)).set_ 5 (.slice oa5 2 oc5))
  have hbf := setMany_below [.int .i64 6, .bool false, .int .i64 0, .string ⟨#[]⟩, .slice none 0 0, .slice oa5 2 oc5] Hw6.out (Nat.le_succ w.heap.size) (o := 0)
  have hff : Fresh w.heap.size (setMany w6 (w.heap.size + 1) 0 [.int .i64 6, .bool false, .int .i64 0, .string ⟨#[]⟩, .slice none 0 0, .slice oa5 2 oc5]) (dV (mutV m)) [.int .i64 6, .bool false, .int .i64 0, .string ⟨#[]⟩, .slice none 0 0, .slice oa5 2 oc5] :=
    Hf6.out.keep (b' := w.heap.size) (Nat.le_trans (by omega) Hz2.out) (by rw [setMany_size]; exact Nat.le_refl _) (fun p p1 _ => World.cell?_of_block (setMany_far _ _ _ _ _ (by have := Hz2.out; omega)))
  exact bodyPost_ret (results_cell6 rfl rfl hxf) rfl ⟨hbf, oa5, oc5, rfl, hff⟩

theorem wpost_write {m : Mut} {O : List (ByteArray × Val)} {nm : ByteArray} (e : mutV m = ov [(kArgs, ov O), (kName, tv nm)]) : WPost O nm = WritePost m := by
  unfold WPost WritePost
  rw [e]
def WriteC (m : Mut) : Prop := ∀ (cs : List Value) (d : Int) (g A R W : Nat) (F : Nat → Nat) (w : World), Shp w g A R W F → MNames w → Holds w w.heap.size (dM m) cs → bulkM m ≤ 8000000 → mayM m d = 0 →
  Calls Tryz.prog 60 #[.map (some g), .agg cs.toArray] w (WritePost m w)
theorem write_calls : ∀ m, WriteC m := by
  refine Mut.ind ?_
  intro k key dst n had was has v l IH cs d g A R W F w hS hN hM hb hm
  obtain ⟨k1, b1, n1, t1, l1, o1⟩ := was
  obtain ⟨k2, b2, n2, t2, l2, o2⟩ := v
  obtain ⟨la1, lc1, oa1, oc1, la2, lc2, oa2, oc2, a, c, rfl, hv1, hv2, hl⟩ := mut_cells hM
  have hls := bulkMs_len l
  simp only [bulkM] at hb
  obtain ⟨h1, _, _, _, _, h6⟩ := mayM_parts hm
  obtain ⟨k1', k7'⟩ := bare_kind h1
  have hkk : k = 1 ∨ k = 2 ∨ k = 3 ∨ k = 4 ∨ k = 5 ∨ k = 6 ∨ k = 7 := by omega
  have hv1' : ∀ W', Below w.heap.size w W' → HoldsV W' W'.heap.size (.mk k1 b1 n1 t1 l1 o1) [.int .i64 k1, .bool b1, .int .i64 n1, .string t1, .slice la1 l1.length lc1, .slice oa1 o1.length oc1] := fun W' hW => HoldsV.more hW.size _ _ (hv1.below hW)
  have hv2' : ∀ W', Below w.heap.size w W' → HoldsV W' W'.heap.size (.mk k2 b2 n2 t2 l2 o2) [.int .i64 k2, .bool b2, .int .i64 n2, .string t2, .slice la2 l2.length lc2, .slice oa2 o2.length oc2] := fun W' hW => HoldsV.more hW.size _ _ (hv2.below hW)
  rcases hkk with rfl | rfl | rfl | rfl | rfl | rfl | rfl
  · rw [← wpost_write (O := [(kKey, tv key), (kVal, .mk k2 b2 n2 t2 l2 o2)]) (nm := nPut) (by simp [mutV, nameM])]
    exact write_1 _ _ _ _ _ _ _ _ _ _ _ _ _ _ _ _ _ _ _ g A R W F w hS hN (by simp) fun W' hW => wval_calls _ key _ _ _ _ _ _ _ _ _ _ k2 b2 n2 t2 l2 o2 la2 oa2 lc2 oc2 _ W' (hv2' W' hW) (by omega)
  · rw [← wpost_write (O := [(kKey, tv key)]) (nm := nDel) (by simp [mutV, nameM])]
    exact write_2 _ _ _ _ _ _ _ _ _ _ _ _ _ _ _ _ _ _ _ g A R W F w hS hN (by simp) fun W' _ => wdel_calls _ key _ _ _ _ _ _ _ _ _ _ _ _ _ _ _ _ _ W'
  · rw [← wpost_write (O := [(kBy, iv n), (kKey, tv key)]) (nm := nInc) (by simp [mutV, nameM])]
    exact write_3 _ _ _ _ _ _ _ _ _ _ _ _ _ _ _ _ _ _ _ g A R W F w hS hN (by simp) fun W' _ => winc_calls _ key _ n _ _ _ _ _ _ _ _ _ _ _ _ _ _ _ W'
  · cases has with
    | false =>
      rw [← wpost_write (O := guardO key had (.mk k1 b1 n1 t1 l1 o1)) (nm := nCas) (by simp [mutV, nameM])]
      exact write_4 _ _ _ _ _ _ _ _ _ _ _ _ _ _ _ _ _ _ _ g A R W F w hS hN (by have := guard_len key had (.mk k1 b1 n1 t1 l1 o1); omega) fun W' hW => wcas_no _ key _ _ had k1 b1 n1 t1 l1 o1 la1 oa1 lc1 oc1 _ _ _ _ _ _ _ W' (hv1' W' hW) (by omega)
    | true =>
      rw [← wpost_write (O := (kIs, .mk k2 b2 n2 t2 l2 o2) :: guardO key had (.mk k1 b1 n1 t1 l1 o1)) (nm := nCas) (by simp [mutV, nameM])]
      exact write_4 _ _ _ _ _ _ _ _ _ _ _ _ _ _ _ _ _ _ _ g A R W F w hS hN (by have := guard_len key had (.mk k1 b1 n1 t1 l1 o1); simp; omega) fun W' hW => wcas_yes _ key _ _ had k1 b1 n1 t1 l1 o1 la1 oa1 lc1 oc1 k2 b2 n2 t2 l2 o2 la2 oa2 lc2 oc2 _ W' (hv1' W' hW) (by omega) (hv2' W' hW) (by omega)
  · rw [← wpost_write (O := [(kKey, tv key), (kVal, .mk k2 b2 n2 t2 l2 o2)]) (nm := nApp) (by simp [mutV, nameM])]
    exact write_5 _ _ _ _ _ _ _ _ _ _ _ _ _ _ _ _ _ _ _ g A R W F w hS hN (by simp) fun W' hW => wval_calls _ key _ _ _ _ _ _ _ _ _ _ k2 b2 n2 t2 l2 o2 la2 oa2 lc2 oc2 _ W' (hv2' W' hW) (by omega)
  · rw [← wpost_write (O := [(kFrom, tv key), (kTo, tv dst)]) (nm := nMove) (by simp [mutV, nameM])]
    exact write_6 _ _ _ _ _ _ _ _ _ _ _ _ _ _ _ _ _ _ _ g A R W F w hS hN (by simp) fun W' _ => wmove_calls _ key dst _ _ _ _ _ _ _ _ _ _ _ _ _ _ _ _ W'
  · rw [← wpost_write (O := (kDo, lv (mutVs l)) :: (if key.toList.isEmpty then [] else [(kIf, ov (guardO key had (.mk k1 b1 n1 t1 l1 o1)))])) (nm := nSeq) (by simp [mutV, nameM])]
    refine write_7 _ _ _ _ _ _ _ _ _ _ _ _ _ _ _ _ _ _ _ g A R W F w hS hN (by split <;> simp) fun W' hW => wseq_loop _ key _ _ had k1 b1 n1 t1 l1 o1 la1 oa1 lc1 oc1 _ _ _ _ _ _ _ l a c A W W' (hv1' W' hW) (by omega) ((hl.below hW).more hW.size) (by omega)
      (((hS.below hW).wr).cell 0) ((hS.below hW).wr.lt) fun x hx W2 cs2 hW2 hH2 => ?_
    have hbx := bulkMs_mem hx
    have hS2 := (hS.below hW).below hW2
    have hN2 := (hN.below hW).below hW2
    have hmx := mayMs_mem h6 x hx
    have hIH := IH x hx
    obtain ⟨k', key', dst', n', had', ⟨k1', b1', n1', t1', l1', o1'⟩, has', ⟨k2', b2', n2', t2', l2', o2'⟩, l'⟩ := x
    obtain ⟨la1', lc1', oa1', oc1', la2', lc2', oa2', oc2', a', c', rfl, _, _, _⟩ := mut_cells hH2
    exact shapes8_calls _ _ _ _ _ _ _ _ _ _ _ _ _ _ _ _ _ _ _ _ A g W2 (hS2.all_.cell 0) hS2.all_.lt fun W3 hW3 => hIH _ (d + 1) g A R W F W3 (hS2.below hW3) (hN2.below hW3) ((hH2.below hW3).more hW3.size) (by omega) hmx
end Go.Proofs.YtkoliaodkojghaaGreatDoor

/- mutator.Object: a mutator's object, or why it has none. Condition: a bulk of at most 8 * 10^6, numbers of 64 bits. -/
namespace Go.Proofs.YtkoliaodkojghaaGreatDoor
open Go Go.RowKit

/-- A mutator's object and no error, given back. -/
def MObjPost (m : Mut) (w : World) (e : Ending) (w' : World) : Prop := Below w.heap.size w w' ∧
  ∃ oa oc, e = .returned (.tuple #[.agg #[.int .i64 6, .bool false, .int .i64 0, .string ⟨#[]⟩, .slice none 0 0, .slice oa 2 oc], .int .i64 0]) ∧ Fresh w.heap.size w' (dV (mutV m)) [.int .i64 6, .bool false, .int .i64 0, .string ⟨#[]⟩, .slice none 0 0, .slice oa 2 oc]
theorem mutMay_zero {m : Mut} (h : mutMay m = 0) : mayM m 1 = 0 := by
  unfold mutMay at h
  split at h
  · cases h
  · exact h
set_option maxRecDepth 100000 in
set_option maxHeartbeats 4000000 in
theorem mutObject_calls (k : Int) (key dst : ByteArray) (n : Int) (had : Bool) (k1 : Int) (b1 : Bool) (n1 : Int) (t1 : ByteArray) (l1 : List Val) (o1 : List (ByteArray × Val)) (has : Bool) (k2 : Int) (b2 : Bool) (n2 : Int) (t2 : ByteArray) (l2 : List Val) (o2 : List (ByteArray × Val)) (l : List Mut) (cs : List Value) (w : World) (hT : Tabs w) (hN : MNames w) (hM : Holds w w.heap.size (dM (Mut.mk k key dst n had (.mk k1 b1 n1 t1 l1 o1) has (.mk k2 b2 n2 t2 l2 o2) l)) cs) (hb : bulkM (Mut.mk k key dst n had (.mk k1 b1 n1 t1 l1 o1) has (.mk k2 b2 n2 t2 l2 o2) l) ≤ 8000000) (hi : inM (Mut.mk k key dst n had (.mk k1 b1 n1 t1 l1 o1) has (.mk k2 b2 n2 t2 l2 o2) l)) (hm : mutMay (Mut.mk k key dst n had (.mk k1 b1 n1 t1 l1 o1) has (.mk k2 b2 n2 t2 l2 o2) l) = 0) :
    Calls Tryz.prog 33 #[.agg cs.toArray] w (MObjPost (Mut.mk k key dst n had (.mk k1 b1 n1 t1 l1 o1) has (.mk k2 b2 n2 t2 l2 o2) l) w) := by
  have hMay := fun W (hW : Below w.heap.size w W) => mutMay_calls _ cs W (hT.below hW) ((hM.below hW).more hW.size) (by omega) hi
  have hWr := fun W (hW : Below w.heap.size w W) g A R X F hS => write_calls (Mut.mk k key dst n had (.mk k1 b1 n1 t1 l1 o1) has (.mk k2 b2 n2 t2 l2 o2) l) cs 1 g A R X F W hS (hN.below hW) ((hM.below hW).more hW.size) hb (mutMay_zero hm)
  rw [hm] at hMay
  obtain ⟨la1, lc1, oa1, oc1, la2, lc2, oa2, oc2, a, c, rfl, _, _, _⟩ := mut_cells hM
  have h0 : Below w.heap.size w ((w.alloc (.cells #[.int .i64 k, .string key, .string dst, .int .i64 n, .bool had, .int .i64 k1, .bool b1, .int .i64 n1, .string t1, .slice la1 l1.length lc1, .slice oa1 o1.length oc1, .bool has, .int .i64 k2, .bool b2, .int .i64 n2, .string t2, .slice la2 l2.length lc2, .slice oa2 o2.length oc2, .slice a l.length c] 48)).alloc (.cells zero6 45)) := ((Below.refl _ _).alloc (Nat.le_refl _) _).alloc (by simp) _
  have hx0 : Blk ((w.alloc (.cells #[.int .i64 k, .string key, .string dst, .int .i64 n, .bool had, .int .i64 k1, .bool b1, .int .i64 n1, .string t1, .slice la1 l1.length lc1, .slice oa1 o1.length oc1, .bool has, .int .i64 k2, .bool b2, .int .i64 n2, .string t2, .slice la2 l2.length lc2, .slice oa2 o2.length oc2, .slice a l.length c] 48)).alloc (.cells zero6 45)) w.heap.size 48 #[.int .i64 k, .string key, .string dst, .int .i64 n, .bool had, .int .i64 k1, .bool b1, .int .i64 n1, .string t1, .slice la1 l1.length lc1, .slice oa1 o1.length oc1, .bool has, .int .i64 k2, .bool b2, .int .i64 n2, .string t2, .slice la2 l2.length lc2, .slice oa2 o2.length oc2, .slice a l.length c] := (Blk.new _ _ _).alloc _
  have hr0 : Blk ((w.alloc (.cells #[.int .i64 k, .string key, .string dst, .int .i64 n, .bool had, .int .i64 k1, .bool b1, .int .i64 n1, .string t1, .slice la1 l1.length lc1, .slice oa1 o1.length oc1, .bool has, .int .i64 k2, .bool b2, .int .i64 n2, .string t2, .slice la2 l2.length lc2, .slice oa2 o2.length oc2, .slice a l.length c] 48)).alloc (.cells zero6 45)) (w.heap.size + 1) 45 zero6 := by
    have := Blk.new (w.alloc (.cells #[.int .i64 k, .string key, .string dst, .int .i64 n, .bool had, .int .i64 k1, .bool b1, .int .i64 n1, .string t1, .slice la1 l1.length lc1, .slice oa1 o1.length oc1, .bool has, .int .i64 k2, .bool b2, .int .i64 n2, .string t2, .slice la2 l2.length lc2, .slice oa2 o2.length oc2, .slice a l.length c] 48)) 45 zero6
    rwa [World.size_alloc] at this
  have hz2 : w.heap.size + 2 ≤ ((w.alloc (.cells #[.int .i64 k, .string key, .string dst, .int .i64 n, .bool had, .int .i64 k1, .bool b1, .int .i64 n1, .string t1, .slice la1 l1.length lc1, .slice oa1 o1.length oc1, .bool has, .int .i64 k2, .bool b2, .int .i64 n2, .string t2, .slice la2 l2.length lc2, .slice oa2 o2.length oc2, .slice a l.length c] 48)).alloc (.cells zero6 45)).heap.size := by simp
  have H0 := Lib.hid h0
  have Hx0 := Lib.hid hx0
  have Hr0 := Lib.hid hr0
  have Hz2 := Lib.hid hz2
  have HMay := Lib.hid hMay
  have HWr := Lib.hid hWr
  clear h0 hx0 hr0 hz2 hMay hWr
  clear hM hT hN hb hi hm
  go_enter Tryz.func33, Tryz.ntmps33
  go_upto_region 1 with (fail)
  iterate 2 go_step
  refine wp_load_blk 48 (.tmp 1) rfl w.heap.size _ Hx0.out rfl _ Tryz.underlying48 rfl (by kernel_rfl) ?_
  go_wp2_with (fail)
  with_reducible refine (HMay.out _ H0.out).mono ?_
  rintro e w1 ⟨rfl, hb1⟩
  have hw1 := H0.out.trans (hb1.mono H0.out.size)
  have hx1 := Hx0.out.below hb1 Hx0.out.lt
  have hr1 := Hr0.out.below hb1 Hr0.out.lt
  have hz1 : w.heap.size + 2 ≤ w1.heap.size := Nat.le_trans Hz2.out hb1.size
  have Hb1 := Lib.hid hb1
  have Hw1 := Lib.hid hw1
  have Hx1 := Lib.hid hx1
  have Hr1 := Lib.hid hr1
  clear hb1 hw1 hx1 hr1
  go_upto_region 4 with (fail)
  refine wp_region_held_drew (S := fun X => X.rangeAt w.heap.size 0 [.int .i64 k, .string key, .string dst, .int .i64 n, .bool had, .int .i64 k1, .bool b1, .int .i64 n1, .string t1, .slice la1 l1.length lc1, .slice oa1 o1.length oc1, .bool has, .int .i64 k2, .bool b2, .int .i64 n2, .string t2, .slice la2 l2.length lc2, .slice oa2 o2.length oc2, .slice a l.length c]) (by kernel_rfl) (blk_range Hx1.out) (fun hHeld => ?_)
  refine wpAnyH_take (i := 1) rfl (by kernel_rfl) (by kernel_rfl) (by kernel_rfl) (fun _ _ _ h => h) (yieldsIf_load_mid (by kernel_rfl) 48 (.tmp 1) rfl w.heap.size 0 rfl [.int .i64 k, .string key, .string dst, .int .i64 n, .bool had, .int .i64 k1, .bool b1, .int .i64 n1, .string t1, .slice la1 l1.length lc1, .slice oa1 o1.length oc1, .bool has, .int .i64 k2, .bool b2, .int .i64 n2, .string t2, .slice la2 l2.length lc2, .slice oa2 o2.length oc2, .slice a l.length c] _ (fun X hX => hX) Tryz.underlying48 rfl (by kernel_rfl)) hHeld ?_
  try simp only [Act.put, List.setIfInBounds_toArray]
  refine wpAnyH_ready (rs := [0]) (by kernel_rfl) (by simp) ?_
  refine AllReadyH.cons rfl (fun K hK => ?_) AllReadyH.nil
  go_simp
  (with_reducible refine (shapes_calls _).mono ?_)
  rintro e w2 ⟨hb2, g, A, R, X, F, rfl, hS⟩
  have hb2' : Below w1.heap.size w1 w2 := (Below.drew (Below.refl _ _)).trans hb2
  have hw2 := Hw1.out.trans (hb2'.mono Hw1.out.size)
  have hx2 := Hx1.out.below hb2' Hx1.out.lt
  have hr2 := Hr1.out.below hb2' Hr1.out.lt
  refine hK.out _ _ (blk_range hx2) (fun hHeld => ?_)
  clear hK K
  try simp only [Act.put, List.setIfInBounds_toArray, List.set_cons_zero, List.set_cons_succ]
  refine wpAnyH_ready (rs := [2]) (by kernel_rfl) (by simp) ?_
  refine AllReadyH.cons rfl (fun K hK => ?_) AllReadyH.nil
  have hz22 : w.heap.size + 2 ≤ w2.heap.size := Nat.le_trans hz1 hb2'.size
  have HS := Lib.hid hS
  have Hw2 := Lib.hid hw2
  have Hx2 := Lib.hid hx2
  have Hr2 := Lib.hid hr2
  have Hb2 := Lib.hid hb2
  have Hb2' := Lib.hid hb2'
  clear hS hw2 hx2 hr2 hb2 hb2'
  go_simp
  (with_reducible refine (HWr.out _ Hw2.out g A R X F HS.out).mono ?_)
  rintro e w6 ⟨hb6, oa5, oc5, rfl, hf6⟩
  have hw6 := Hw2.out.trans (hb6.mono Hw2.out.size)
  have hx6 := Hx2.out.below hb6 Hx2.out.lt
  have hr6 := Hr2.out.below hb6 Hr2.out.lt
  refine hK.out _ _ (blk_range hx6) (fun hHeld => ?_)
  clear hK K
  try simp only [Act.put, List.setIfInBounds_toArray, List.set_cons_zero, List.set_cons_succ]
  refine wpAnyH_ready (rs := [3]) (by kernel_rfl) (by simp) ?_
  refine AllReadyH.cons rfl (fun K hK => ?_) AllReadyH.nil
  obtain ⟨c0, c1, c2, c3, c4, c5⟩ := vcell hr6
  have fz := hr6.frozen
  have hlt6 := hr6.lt
  have Hw6 := Lib.hid hw6
  have Hx6 := Lib.hid hx6
  have Hr6 := Lib.hid hr6
  have Hf6 := Lib.hid hf6
  have Hb6 := Lib.hid hb6
  clear hw6 hx6 hr6 hf6 hb6
  go_simp
  have hxs : Blk (setMany w6 (w.heap.size + 1) 0 [.int .i64 6, .bool false, .int .i64 0, .string ⟨#[]⟩, .slice none 0 0, .slice oa5 2 oc5]) w.heap.size 48 #[.int .i64 k, .string key, .string dst, .int .i64 n, .bool had, .int .i64 k1, .bool b1, .int .i64 n1, .string t1, .slice la1 l1.length lc1, .slice oa1 o1.length oc1, .bool has, .int .i64 k2, .bool b2, .int .i64 n2, .string t2, .slice la2 l2.length lc2, .slice oa2 o2.length oc2, .slice a l.length c] := (setMany_far _ _ _ _ _ (by omega)).trans Hx6.out
  refine hK.out _ _ (blk_range hxs) (fun hHeld => ?_)
  clear hK K
  try simp only [Act.put, List.setIfInBounds_toArray, List.set_cons_zero, List.set_cons_succ]
  refine wpAnyH_take (i := 4) (v := ?_) rfl (by kernel_rfl) (by kernel_rfl) (by kernel_rfl) (fun _ _ _ h => h) (Or.inl ⟨by kernel_rfl, ?_⟩) hHeld ?_
  rotate_left
  · intro X hSw
    first | (go_simp; done) | (go_simp; with_reducible rfl)
  try simp only [Act.put, List.setIfInBounds_toArray]
  refine wpAnyH_done (by kernel_rfl) ?_ _
  clear hHeld hxs c0 c1 c2 c3 c4 c5 fz
  repeat go_step
  have hxf := ((((((Hr6.out.set_ 0 (.int .i64 6)).set_ 1 (.bool false)).set_ 2 (.int .i64 0)).set_ 3 (.string ⟨#[]⟩)).set_ 4 (.slice none 0 0)).set_ 5 (.slice oa5 2 oc5))
  have hbf := setMany_below [.int .i64 6, .bool false, .int .i64 0, .string ⟨#[]⟩, .slice none 0 0, .slice oa5 2 oc5] Hw6.out (Nat.le_succ w.heap.size) (o := 0)
  have hff : Fresh w.heap.size (setMany w6 (w.heap.size + 1) 0 [.int .i64 6, .bool false, .int .i64 0, .string ⟨#[]⟩, .slice none 0 0, .slice oa5 2 oc5]) (dV (mutV (Mut.mk k key dst n had (.mk k1 b1 n1 t1 l1 o1) has (.mk k2 b2 n2 t2 l2 o2) l))) [.int .i64 6, .bool false, .int .i64 0, .string ⟨#[]⟩, .slice none 0 0, .slice oa5 2 oc5] :=
    Hf6.out.keep (b' := w.heap.size) (by omega) (by rw [setMany_size]; exact Nat.le_refl _) (fun p p1 _ => World.cell?_of_block (setMany_far _ _ _ _ _ (by omega)))
  exact bodyPost_ret (results_cell6_t rfl rfl hxf) rfl ⟨hbf, oa5, oc5, rfl, hff⟩
end Go.Proofs.YtkoliaodkojghaaGreatDoor

/- push.object: a push's object. Condition: a push that may be, of a bulk of at most 2 * 10^6, numbers of 64 bits. -/
namespace Go.Proofs.YtkoliaodkojghaaGreatDoor
open Go Go.RowKit

theorem pnumber_calls (n : Int) (h0 : 0 ≤ n) (h1 : n ≤ 4611686018427387903) (w : World) :
    Calls Tryz.prog 35 #[.int .u64 n] w fun e w' => e = .returned (.agg #[.int .i64 3, .bool false, .int .i64 n, .string ⟨#[]⟩, .slice none 0 0, .slice none 0 0]) ∧ Below w.heap.size w w' := by
  go_enter Tryz.func35, Tryz.ntmps35
  go_wp2
  exact bodyPost_ret (v := .agg #[.int .i64 3, .bool false, .int .i64 n, .string ⟨#[]⟩, .slice none 0 0, .slice none 0 0]) (by simp [results, Tryz.results35, go_sem]) rfl ⟨rfl, (Below.refl _ _).alloc (Nat.le_refl _) _⟩
/-- Two members as a literal: a number, and a value that lies somewhere. -/
theorem holds_two (p q : ByteArray) (n : Int) (X : Val) (u0 u1 u2 u3 u4 u5 : Value) (W : World) (h : Holds W W.heap.size (dV X) [u0, u1, u2, u3, u4, u5]) :
    Holds (W.alloc (.cells #[.string p, .int .i64 3, .bool false, .int .i64 n, .string ⟨#[]⟩, .slice none 0 0, .slice none 0 0, .string q, u0, u1, u2, u3, u4, u5] 72)) (W.alloc (.cells #[.string p, .int .i64 3, .bool false, .int .i64 n, .string ⟨#[]⟩, .slice none 0 0, .slice none 0 0, .string q, u0, u1, u2, u3, u4, u5] 72)).heap.size (.row 7 (dO [(p, iv n), (q, X)])) [.slice (some ⟨W.heap.size, 0, none⟩) 2 2] := by
  have hv := h.later (alloc_below W (.cells #[.string p, .int .i64 3, .bool false, .int .i64 n, .string ⟨#[]⟩, .slice none 0 0, .slice none 0 0, .string q, u0, u1, u2, u3, u4, u5] 72))
  have hp : Holds (W.alloc (.cells #[.string p, .int .i64 3, .bool false, .int .i64 n, .string ⟨#[]⟩, .slice none 0 0, .slice none 0 0, .string q, u0, u1, u2, u3, u4, u5] 72)) (W.alloc (.cells #[.string p, .int .i64 3, .bool false, .int .i64 n, .string ⟨#[]⟩, .slice none 0 0, .slice none 0 0, .string q, u0, u1, u2, u3, u4, u5] 72)).heap.size (dP (q, X)) [.string q, u0, u1, u2, u3, u4, u5] := ⟨[.string q], _, rfl, ⟨rfl, rfl⟩, _, [], by simp, hv, rfl⟩
  exact holds_blk (Blk.new _ _ _) (dO_cells _) ((HoldsA.one (holds_ivP _ _ p n)).app (HoldsA.one hp)) rfl
theorem holds_two' (p q : ByteArray) (n : Int) (X : Val) (u0 u1 u2 u3 u4 u5 : Value) (W : World) (s : Nat) (hs : W.heap.size = s) (h : Holds W W.heap.size (dV X) [u0, u1, u2, u3, u4, u5]) :
    Holds (W.alloc (.cells #[.string p, .int .i64 3, .bool false, .int .i64 n, .string ⟨#[]⟩, .slice none 0 0, .slice none 0 0, .string q, u0, u1, u2, u3, u4, u5] 72)) (W.alloc (.cells #[.string p, .int .i64 3, .bool false, .int .i64 n, .string ⟨#[]⟩, .slice none 0 0, .slice none 0 0, .string q, u0, u1, u2, u3, u4, u5] 72)).heap.size (.row 7 (dO [(p, iv n), (q, X)])) [.slice (some ⟨s, 0, none⟩) 2 2] := by
  subst hs
  exact holds_two p q n X u0 u1 u2 u3 u4 u5 W h
theorem num_all (n : Int) (X : Val) : objAll [(kId, iv n), (kMut, X)] [] = some [(kId, iv n), (kMut, X)] := by kernel_rfl
theorem push_all (n : Int) (X : Val) : objAll [(kCli, iv n), (kList, X)] [] = some [(kCli, iv n), (kList, X)] := by kernel_rfl
theorem mayNs_all {l : List Num} (h : mayNs l = 0) : ∀ p ∈ l, (0 < p.id ∧ p.id ≤ 4611686018427387903) ∧ mutMay p.m = 0 := by
  induction l with
  | nil => intro p hp; cases hp
  | cons x r ih =>
    simp only [mayNs] at h
    split at h
    · cases h
    · rename_i h1
      split at h
      · rename_i h2
        intro p hp
        rcases List.mem_cons.1 hp with rfl | hp
        · exact ⟨by omega, h2⟩
        · exact ih h p hp
      · rename_i h2
        exact absurd h h2
theorem bulk_two (p q : ByteArray) (n : Int) (X : Val) (hp : p.size ≤ 10) (hq : q.size ≤ 10) : bulkO [(p, iv n), (q, X)] ≤ 60 + X.bulk := by
  simp only [bulkO, bulkP, bulk_iv]; omega
theorem bulk_nums : ∀ l : List Num, bulkL (l.map numV) ≤ 20 * bulkN l
  | [] => by simp [bulkL]
  | p :: r => by
    have h1 := bulk_nums r
    have h2 := bulk_mutV p.m
    have h3 := bulk_two kId kMut p.id (mutV p.m) (by decide) (by decide)
    have h8 : 8 ≤ bulkM p.m := by cases p.m; simp only [bulkM]; omega
    have e1 : (⟨#[]⟩ : ByteArray).size = 0 := rfl
    simp only [List.map_cons, bulkL, bulkN, numV, ov, Val.bulk, e1]
    omega
/-- Behind the making of an item: its variable, and no error. -/
def AfterI (wk : World) (o : List (ByteArray × Val)) (s r : Value) (wx : World) : Prop := Below wk.heap.size wk wx ∧ r = .int .i64 0 ∧
  ∃ R la lc oa oc, s = .pointer (some ⟨R, 0, none⟩) ∧ wk.heap.size ≤ R ∧ Blk wx R 45 #[.int .i64 6, .bool false, .int .i64 0, .string ⟨#[]⟩, .slice la 0 lc, .slice oa 2 oc] ∧ Fresh wk.heap.size wx (dV (ov o)) [.int .i64 6, .bool false, .int .i64 0, .string ⟨#[]⟩, .slice la 0 lc, .slice oa 2 oc]
theorem afterI_old {wk w7 : World} {o : List (ByteArray × Val)} {R b : Nat} {la oa : Option Addr} {lc oc : Nat} (hb : Below wk.heap.size wk w7) (hR : wk.heap.size ≤ R) (hx : Blk w7 R 45 zero6)
    (hf : Fresh b w7 (dV (ov o)) [.int .i64 6, .bool false, .int .i64 0, .string ⟨#[]⟩, .slice la 0 lc, .slice oa 2 oc]) (hRb : R < b) :
    AfterI wk o (.pointer (some ⟨R, 0, none⟩)) (.int .i64 0) (setMany w7 R 0 [.int .i64 6, .bool false, .int .i64 0, .string ⟨#[]⟩, .slice la 0 lc, .slice oa 2 oc]) :=
  ⟨setMany_below _ hb hR, rfl, R, la, lc, oa, oc, rfl, hR, (((((hx.set_ 0 _).set_ 1 _).set_ 2 _).set_ 3 _).set_ 4 _).set_ 5 _, hf.keep (by omega) (by rw [setMany_size]; exact Nat.le_refl _) (fun p p1 _ => World.cell?_of_block (setMany_far _ _ _ _ _ (by omega)))⟩
theorem afterI_new {wk w7 : World} {o : List (ByteArray × Val)} {b : Nat} {la oa : Option Addr} {lc oc : Nat} (hb : Below wk.heap.size wk w7) (hbw : wk.heap.size ≤ b)
    (hf : Fresh b w7 (dV (ov o)) [.int .i64 6, .bool false, .int .i64 0, .string ⟨#[]⟩, .slice la 0 lc, .slice oa 2 oc]) :
    AfterI wk o (.pointer (some ⟨w7.heap.size, 0, none⟩)) (.int .i64 0) (w7.alloc (.cells #[.int .i64 6, .bool false, .int .i64 0, .string ⟨#[]⟩, .slice la 0 lc, .slice oa 2 oc] 45)) :=
  ⟨hb.alloc hb.size _, rfl, w7.heap.size, la, lc, oa, oc, rfl, hb.size, Blk.new _ _ _, (hf.later (alloc_below _ _)).keep hbw (Nat.le_refl _) (fun _ _ _ => rfl)⟩
/-- What holds between two rounds. -/
structure LO (w : World) (bx : Array Value) (l : List Num) (q : Nat) (wr : World) (V : Value) : Prop where
  below : Below w.heap.size w wr
  box : Blk wr w.heap.size 25 bx
  res : Blk wr (w.heap.size + 1) 45 zero6
  var : Blk wr (w.heap.size + 2) 45 #[.int .i64 5, .bool false, .int .i64 0, .string ⟨#[]⟩, V, .slice none 0 0]
  row : RowD (w.heap.size + 3) 45 6 wr (dL ((l.map numV).take q)) V
/-- A push's object, given back. -/
def PObjPost (c : Int) (l : List Num) (w : World) (e : Ending) (w' : World) : Prop := Below w.heap.size w w' ∧
  ∃ la lc oa oc, e = .returned (.tuple #[.agg #[.int .i64 6, .bool false, .int .i64 0, .string ⟨#[]⟩, .slice la 0 lc, .slice oa 2 oc], .int .i64 0]) ∧ Fresh w.heap.size w' (dV (ov (pushO c l))) [.int .i64 6, .bool false, .int .i64 0, .string ⟨#[]⟩, .slice la 0 lc, .slice oa 2 oc]

set_option maxRecDepth 100000 in
set_option maxHeartbeats 8000000 in
theorem pobject_calls (c : Int) (l : List Num) (a : Option Addr) (n cc : Nat) (w : World) (hc0 : 0 ≤ c) (hc1 : c ≤ 4611686018427387903) (hT : Tabs w) (hN : MNames w) (h : Holds w w.heap.size (.row 20 (dNs l)) [.slice a n cc]) (hb : bulkN l ≤ 2000000) (hin : inN l) (hm : mayNs l = 0) :
    Calls Tryz.prog 17 #[.agg #[.int .u64 c, .slice a n cc]] w (PObjPost c l w) := by
  have hlq := bulkN_len l
  have hn := h.row_len
  rw [dNs_len] at hn
  subst hn
  obtain ⟨j0, hj, hy0, hy1, hy2⟩ := info_parts val_info
  have hok := mayNs_all hm
  have hI0 : LO w #[.int .u64 c, .slice a l.length cc] l 0 (((w.alloc (.cells #[.int .u64 c, .slice a l.length cc] 25)).alloc (.cells zero6 45)).alloc (.cells #[.int .i64 5, .bool false, .int .i64 0, .string ⟨#[]⟩, .slice none 0 0, .slice none 0 0] 45)) (.slice none 0 0) := by
    have h1 := Blk.new (w.alloc (.cells #[.int .u64 c, .slice a l.length cc] 25)) 45 zero6
    have h2 := Blk.new ((w.alloc (.cells #[.int .u64 c, .slice a l.length cc] 25)).alloc (.cells zero6 45)) 45 #[.int .i64 5, .bool false, .int .i64 0, .string ⟨#[]⟩, .slice none 0 0, .slice none 0 0]
    rw [World.size_alloc] at h1 h2
    rw [World.size_alloc] at h2
    exact ⟨(((Below.refl _ _).alloc (Nat.le_refl _) _).alloc (by simp) _).alloc (by simp; omega) _, ((Blk.new _ _ _).alloc _).alloc _, h1.alloc _, h2, by simpa [dL] using RowD.nil _ _ _ _⟩
  have Hj := Lib.hid hj
  have Hy0 := Lib.hid hy0
  have Hy1 := Lib.hid hy1
  have Hy2 := Lib.hid hy2
  have H := Lib.hid h
  have Hok := Lib.hid hok
  have HI0 := Lib.hid hI0
  have Hin := Lib.hid hin
  have HT := Lib.hid hT
  have HN := Lib.hid hN
  clear hj hy0 hy1 hy2 h hok hI0 hin hT hN
  clear hm
  go_enter Tryz.func17, Tryz.ntmps17
  go_upto_region 2 with (fail)
  obtain ⟨w0, hw0⟩ : ∃ w0, ((w.alloc (.cells #[.int .u64 c, .slice a l.length cc] 25)).alloc (.cells zero6 45)).alloc (.cells #[.int .i64 5, .bool false, .int .i64 0, .string ⟨#[]⟩, .slice none 0 0, .slice none 0 0] 45) = w0 := ⟨_, rfl⟩
  have hI1 := HI0.out
  rw [hw0] at hI1 ⊢
  clear hw0 HI0
  have d1 := hI1.box.cell 1
  have hgb := hI1.box.lt
  have HI1 := Lib.hid hI1
  clear hI1
  go_wp2_with (fail)
  go_loopw [14] (fun i wr => ∃ q : Nat, i = .int .i64 q ∧ q ≤ l.length ∧ ∃ V, Hid (LO w #[.int .u64 c, .slice a l.length cc] l q wr V)) (fun i _ => l.length - (intOf i).toNat)
  case atStart => exact ⟨0, rfl, Nat.zero_le _, _, HI1⟩
  case round =>
    obtain ⟨q, rfl, hq, V, hI⟩ := hrel
    clear HI1 d1
    by_cases hlt : q < l.length
    · obtain ⟨p, hp⟩ : ∃ p, l[q]? = some p := ⟨_, List.getElem?_eq_getElem hlt⟩
      have hmem := List.mem_of_getElem? hp
      have hbq := bulkN_mem hmem
      obtain ⟨⟨hi0, hi1⟩, hmm⟩ := Hok.out p hmem
      have hinp := (Hin.out p hmem).2
      have hbw := hI.out.below
      have hz := hbw.size
      have htk : dL ((l.map numV).take q) ++ [dV (numV p)] = dL ((l.map numV).take (q + 1)) := by
        rw [List.take_add_one, List.getElem?_map, hp, dL_map, dL_map]; simp
      have hdl : (dL ((l.map numV).take q)).length = q := by rw [dL_len, List.length_take, List.length_map]; omega
      obtain ⟨g, off, rfl, hg, cs', hcs, _, hid0, hcell⟩ := num_at (H.out.below hbw) hp
      obtain ⟨id, m⟩ := p
      simp only at hi0 hi1 hmm hinp hcs hid0 hbq
      have hbm := bulk_mutV m
      have hX := bulk_two kId kMut id (mutV m) (by decide) (by decide)
      have hC : ∀ W', Below wr.heap.size wr W' → Calls Tryz.prog 33 #[.agg cs'.toArray] W' (MObjPost m W') := by
        intro W' hW'
        have hB := hbw.trans (hW'.mono hz)
        obtain ⟨k, key, dst, n, had, ⟨k1, b1, n1, t1, l1, o1⟩, has, ⟨k2, b2, n2, t2, l2, o2⟩, l'⟩ := m
        exact mutObject_calls _ _ _ _ _ _ _ _ _ _ _ _ _ _ _ _ _ _ _ _ W' (HT.out.below hB) (HN.out.below hB) ((hcs.below (hW'.mono hz)).more (Nat.le_trans hz hW'.size)) (by omega) hinp hmm
      obtain ⟨k', key', dst', n', had', ⟨k1', b1', n1', t1', l1', o1'⟩, has', ⟨k2', b2', n2', t2', l2', o2'⟩, l'⟩ := m
      obtain ⟨la1', lc1', oa1', oc1', la2', lc2', oa2', oc2', a', c', rfl, _, _, _⟩ := mut_cells hcs
      have hrange : wr.rangeAt g (off + q * 20) (.int .u64 id :: [.int .i64 k', .string key', .string dst', .int .i64 n', .bool had', .int .i64 k1', .bool b1', .int .i64 n1', .string t1', .slice la1' l1'.length lc1', .slice oa1' o1'.length oc1', .bool has', .int .i64 k2', .bool b2', .int .i64 n2', .string t2', .slice la2' l2'.length lc2', .slice oa2' o2'.length oc2', .slice a' l'.length c']) := by
        intro j v hv
        cases j with
        | zero => simp only [List.getElem?_cons_zero, Option.some.injEq] at hv; subst hv; exact hid0
        | succ j => rw [show off + q * 20 + (j + 1) = off + q * 20 + 1 + j from by omega]; exact hcell j v (by simpa using hv)
      have hgr : g < wr.heap.size := by omega
      have hq1 : (q : Int) < (l.length : Int) := by omega
      have hq0 : (0 : Int) ≤ q := by omega
      generalize hM : mutV (Mut.mk k' key' dst' n' had' (.mk k1' b1' n1' t1' l1' o1') has' (.mk k2' b2' n2' t2' l2' o2') l') = X at hX hbm
      have hO := fun (W : World) a n c h => vobj_ok [(kId, iv id), (kMut, X)] _ a n c W h (by omega) (num_all id X)
      have hnum := fun W => pnumber_calls id (by omega) hi1 W
      have HC := Lib.hid hC
      have Hbw := Lib.hid hbw
      have Htk := Lib.hid htk
      have HM := Lib.hid hM
      have HO := Lib.hid hO
      have Hnum := Lib.hid hnum
      have HX := Lib.hid hX
      have Hbm := Lib.hid hbm
      clear hC hbw htk hM hO hnum hX hbm
      clear hcs hcell hmem hp hid0
      go_upto_region 4 with (fail)
      iterate 5 go_step
      refine wp_load_mid 50 (.tmp 16) rfl g (off + q * 20) rfl (.int .u64 id :: [.int .i64 k', .string key', .string dst', .int .i64 n', .bool had', .int .i64 k1', .bool b1', .int .i64 n1', .string t1', .slice la1' l1'.length lc1', .slice oa1' o1'.length oc1', .bool has', .int .i64 k2', .bool b2', .int .i64 n2', .string t2', .slice la2' l2'.length lc2', .slice oa2' o2'.length oc2', .slice a' l'.length c']) _ hrange Tryz.underlying50 rfl (by kernel_rfl) ?_
      iterate 5 go_step
      refine wp_store_new 50 (.tmp 6) (.tmp 17) rfl #[.int .u64 id, .int .i64 k', .string key', .string dst', .int .i64 n', .bool had', .int .i64 k1', .bool b1', .int .i64 n1', .string t1', .slice la1' l1'.length lc1', .slice oa1' o1'.length oc1', .bool has', .int .i64 k2', .bool b2', .int .i64 n2', .string t2', .slice la2' l2'.length lc2', .slice oa2' o2'.length oc2', .slice a' l'.length c'] rfl rfl rfl (by kernel_rfl) (by simp [Value.oneCell']) ?_
      go_upto_region 5 with (fail)
      iterate 5 go_step
      refine wp_load_mid 48 (.tmp 19) rfl wr.heap.size 1 rfl [.int .i64 k', .string key', .string dst', .int .i64 n', .bool had', .int .i64 k1', .bool b1', .int .i64 n1', .string t1', .slice la1' l1'.length lc1', .slice oa1' o1'.length oc1', .bool has', .int .i64 k2', .bool b2', .int .i64 n2', .string t2', .slice la2' l2'.length lc2', .slice oa2' o2'.length oc2', .slice a' l'.length c'] _ (blk_range1 (Blk.new wr 50 #[.int .u64 id, .int .i64 k', .string key', .string dst', .int .i64 n', .bool had', .int .i64 k1', .bool b1', .int .i64 n1', .string t1', .slice la1' l1'.length lc1', .slice oa1' o1'.length oc1', .bool has', .int .i64 k2', .bool b2', .int .i64 n2', .string t2', .slice la2' l2'.length lc2', .slice oa2' o2'.length oc2', .slice a' l'.length c'])) Tryz.underlying48 rfl (by kernel_rfl) ?_
      go_wp2_with (fail)
      with_reducible refine (HC.out _ (alloc_below _ _)).mono ?_
      rintro e w5 ⟨hb5, oa5, oc5, rfl, hf5⟩
      have hz5 := hb5.size
      rw [World.size_alloc] at hz5
      have hx5 := (Blk.new wr 50 #[.int .u64 id, .int .i64 k', .string key', .string dst', .int .i64 n', .bool had', .int .i64 k1', .bool b1', .int .i64 n1', .string t1', .slice la1' l1'.length lc1', .slice oa1' o1'.length oc1', .bool has', .int .i64 k2', .bool b2', .int .i64 n2', .string t2', .slice la2' l2'.length lc2', .slice oa2' o2'.length oc2', .slice a' l'.length c']).below hb5 (Blk.new _ _ _).lt
      rw [HM.out] at hf5
      obtain ⟨aV, cV, rfl⟩ := hI.out.row.slice
      have hLo : Hid ((dL ((l.map numV).take q)).length + 1 ≤ maxLen ∧ ((dL ((l.map numV).take q)).length + 1) * 88 ≤ 140737488355328) := by rw [hdl]; exact ⟨by simp only [maxLen]; omega, by omega⟩
      have hb5' : Below wr.heap.size wr w5 := (alloc_below wr (.cells #[.int .u64 id, .int .i64 k', .string key', .string dst', .int .i64 n', .bool had', .int .i64 k1', .bool b1', .int .i64 n1', .string t1', .slice la1' l1'.length lc1', .slice oa1' o1'.length oc1', .bool has', .int .i64 k2', .bool b2', .int .i64 n2', .string t2', .slice la2' l2'.length lc2', .slice oa2' o2'.length oc2', .slice a' l'.length c'] 50)).trans (hb5.mono (by simp))
      have Hb5' := Lib.hid hb5'
      have Hf5 := Lib.hid hf5
      have Hx5 := Lib.hid hx5
      clear hb5' hf5 hx5
      clear hb5
      go_upto_region 8 with (fail)
      obtain ⟨wk, hwk⟩ : ∃ wk, w5.alloc (.cells #[.int .i64 6, .bool false, .int .i64 0, .string ⟨#[]⟩, .slice none 0 0, .slice oa5 2 oc5] 45) = wk := ⟨_, rfl⟩
      have hbk : Below w5.heap.size w5 wk := hwk ▸ alloc_below _ _
      have hxk : Blk wk w5.heap.size 45 #[.int .i64 6, .bool false, .int .i64 0, .string ⟨#[]⟩, .slice none 0 0, .slice oa5 2 oc5] := hwk ▸ Blk.new _ _ _
      have hxn := Hx5.out.below hbk Hx5.out.lt
      rw [hwk]
      have n0 := hxn.cell 0
      have hlk := hxk.lt
      have hln := hxn.lt
      have hfk := Hf5.out.later hbk
      have Hbk := Lib.hid hbk
      have Hxn := Lib.hid hxn
      have Hfk := Lib.hid hfk
      have Hxk := Lib.hid hxk
      have N0 := Lib.hid n0
      clear hbk hxn hfk hxk n0
      clear hwk
      go_cut [9, 8] (fun s r wx => AfterI wk [(kId, iv id), (kMut, X)] s r wx)
      case first =>
        refine wp_region_held_drew (S := (fun Y => Y.cell? ⟨wr.heap.size, 0, none⟩ = some (.int .u64 id) ∧ Blk Y w5.heap.size 45 #[.int .i64 6, .bool false, .int .i64 0, .string ⟨#[]⟩, .slice none 0 0, .slice oa5 2 oc5])) (by kernel_rfl) ⟨N0.out, Hxk.out.drew⟩ (fun hHeld => ?_)
        have hbd : Below wk.heap.size wk wk.drew := Below.drew (Below.refl _ _)
        refine wpAnyH_take (i := 0) (v := ?_) rfl (by kernel_rfl) (by kernel_rfl) (by kernel_rfl) (fun _ _ _ h => h) (Or.inl ⟨by kernel_rfl, ?_⟩) hHeld ?_
        rotate_left
        · intro Y hSw
          skip
          first | (go_simp; done) | (go_simp; with_reducible rfl)
        try simp only [Act.put, List.setIfInBounds_toArray]
        refine wpAnyH_take (i := 1) (v := ?_) rfl (by kernel_rfl) (by kernel_rfl) (by kernel_rfl) (fun _ _ _ h => h) (Or.inl ⟨by kernel_rfl, ?_⟩) hHeld ?_
        rotate_left
        · intro Y hSw
          have n0 := hSw.1
          first | (go_simp; done) | (go_simp; with_reducible rfl)
        try simp only [Act.put]
        refine wpAnyH_take (i := 4) (v := ?_) rfl (by kernel_rfl) (by kernel_rfl) (by kernel_rfl) (fun _ _ _ h => h) (Or.inl ⟨by kernel_rfl, ?_⟩) hHeld ?_
        rotate_left
        · intro Y hSw
          obtain ⟨e0, e1, e2, e3, e4, e5⟩ := vcell hSw.2
          first | (go_simp; done) | (go_simp; with_reducible rfl)
        try simp only [Act.put]
        refine wpAnyH_take (i := 5) (v := ?_) rfl (by kernel_rfl) (by kernel_rfl) (by kernel_rfl) (fun _ _ _ h => h) (Or.inl ⟨by kernel_rfl, ?_⟩) hHeld ?_
        rotate_left
        · intro Y hSw
          skip
          first | (go_simp; done) | (go_simp; with_reducible rfl)
        try simp only [Act.put]
        refine wpAnyH_ready (rs := [2, 11]) (by kernel_rfl) (by simp) ?_
        refine AllReadyH.cons rfl (fun K hK => ?_) (AllReadyH.cons rfl (fun K hK => ?_) AllReadyH.nil)
        · -- the number first
          go_simp
          (with_reducible refine (Hnum.out _).mono ?_)
          rintro e w6 ⟨rfl, hb6⟩
          have hbr6 : Below wk.heap.size wk w6 := hbd.trans (hb6.mono (show wk.heap.size ≤ (wk.drew).heap.size from hbd.size))
          have hS_ : (fun Y => Y.cell? ⟨wr.heap.size, 0, none⟩ = some (.int .u64 id) ∧ Blk Y w5.heap.size 45 #[.int .i64 6, .bool false, .int .i64 0, .string ⟨#[]⟩, .slice none 0 0, .slice oa5 2 oc5]) w6 := ⟨(hbr6.cell (p := ⟨wr.heap.size, 0, none⟩) (by show wr.heap.size < wk.heap.size; omega)).trans N0.out, Hxk.out.below hbr6 (by omega)⟩
          refine hK.out _ _ hS_ (fun hHeld => ?_)
          clear hK K
          try simp only [Act.put, List.setIfInBounds_toArray, List.set_cons_zero, List.set_cons_succ]
          refine wpAnyH_take (i := 3) (v := ?_) rfl (by kernel_rfl) (by kernel_rfl) (by kernel_rfl) (fun _ _ _ h => h) (Or.inl ⟨by kernel_rfl, ?_⟩) hHeld ?_
          rotate_left
          · intro Y hSw
            skip
            first | (go_simp; done) | (go_simp; with_reducible rfl)
          try simp only [Act.put, List.setIfInBounds_toArray]
          refine wpAnyH_ready (rs := [6, 11]) (by kernel_rfl) (by simp) ?_
          refine AllReadyH.cons rfl (fun K hK => ?_) (AllReadyH.cons rfl (fun K hK => ?_) AllReadyH.nil)
          · -- the literal
            go_simp
            have hS_ : (fun Y => Y.cell? ⟨wr.heap.size, 0, none⟩ = some (.int .u64 id) ∧ Blk Y w5.heap.size 45 #[.int .i64 6, .bool false, .int .i64 0, .string ⟨#[]⟩, .slice none 0 0, .slice oa5 2 oc5]) (w6.alloc (.cells #[.string kId, .int .i64 3, .bool false, .int .i64 id, .string ⟨#[]⟩, .slice none 0 0, .slice none 0 0, .string kMut, .int .i64 6, .bool false, .int .i64 0, .string ⟨#[]⟩, .slice none 0 0, .slice oa5 2 oc5] 72)) := ⟨((hbr6.alloc hbr6.size (.cells #[.string kId, .int .i64 3, .bool false, .int .i64 id, .string ⟨#[]⟩, .slice none 0 0, .slice none 0 0, .string kMut, .int .i64 6, .bool false, .int .i64 0, .string ⟨#[]⟩, .slice none 0 0, .slice oa5 2 oc5] 72)).cell (p := ⟨wr.heap.size, 0, none⟩) (by show wr.heap.size < wk.heap.size; omega)).trans N0.out, Hxk.out.below (hbr6.alloc hbr6.size (.cells #[.string kId, .int .i64 3, .bool false, .int .i64 id, .string ⟨#[]⟩, .slice none 0 0, .slice none 0 0, .string kMut, .int .i64 6, .bool false, .int .i64 0, .string ⟨#[]⟩, .slice none 0 0, .slice oa5 2 oc5] 72)) (by omega)⟩
            refine hK.out _ _ hS_ (fun hHeld => ?_)
            clear hK K
            try simp only [Act.put, List.setIfInBounds_toArray, List.set_cons_zero, List.set_cons_succ]
            refine wpAnyH_ready (rs := [7, 11]) (by kernel_rfl) (by simp) ?_
            refine AllReadyH.cons rfl (fun K hK => ?_) (AllReadyH.cons rfl (fun K hK => ?_) AllReadyH.nil)
            · -- the call
              go_simp
              (with_reducible refine (HO.out _ _ _ _ (holds_two kId kMut id X _ _ _ _ _ _ w6 (Hfk.out.later hbr6).now)).mono ?_)
              rintro e w7 ⟨hb7, la7, lc7, oa7, oc7, rfl, hf7⟩
              have hbr7 : Below wk.heap.size wk w7 := (hbr6.alloc hbr6.size (.cells #[.string kId, .int .i64 3, .bool false, .int .i64 id, .string ⟨#[]⟩, .slice none 0 0, .slice none 0 0, .string kMut, .int .i64 6, .bool false, .int .i64 0, .string ⟨#[]⟩, .slice none 0 0, .slice oa5 2 oc5] 72)).trans (hb7.mono (show wk.heap.size ≤ (w6.alloc (.cells #[.string kId, .int .i64 3, .bool false, .int .i64 id, .string ⟨#[]⟩, .slice none 0 0, .slice none 0 0, .string kMut, .int .i64 6, .bool false, .int .i64 0, .string ⟨#[]⟩, .slice none 0 0, .slice oa5 2 oc5] 72)).heap.size from (hbr6.alloc hbr6.size (.cells #[.string kId, .int .i64 3, .bool false, .int .i64 id, .string ⟨#[]⟩, .slice none 0 0, .slice none 0 0, .string kMut, .int .i64 6, .bool false, .int .i64 0, .string ⟨#[]⟩, .slice none 0 0, .slice oa5 2 oc5] 72)).size))
              have hS_ : (fun Y => Y.cell? ⟨wr.heap.size, 0, none⟩ = some (.int .u64 id) ∧ Blk Y w5.heap.size 45 #[.int .i64 6, .bool false, .int .i64 0, .string ⟨#[]⟩, .slice none 0 0, .slice oa5 2 oc5]) w7 := ⟨(hbr7.cell (p := ⟨wr.heap.size, 0, none⟩) (by show wr.heap.size < wk.heap.size; omega)).trans N0.out, Hxk.out.below hbr7 (by omega)⟩
              refine hK.out _ _ hS_ (fun hHeld => ?_)
              clear hK K
              try simp only [Act.put, List.setIfInBounds_toArray, List.set_cons_zero, List.set_cons_succ]
              refine wpAnyH_take (i := 8) (v := ?_) rfl (by kernel_rfl) (by kernel_rfl) (by kernel_rfl) (fun _ _ _ h => h) (Or.inl ⟨by kernel_rfl, ?_⟩) hHeld ?_
              rotate_left
              · intro Y hSw
                skip
                first | (go_simp; done) | (go_simp; with_reducible rfl)
              try simp only [Act.put, List.setIfInBounds_toArray]
              refine wpAnyH_take (i := 9) (v := ?_) rfl (by kernel_rfl) (by kernel_rfl) (by kernel_rfl) (fun _ _ _ h => h) (Or.inl ⟨by kernel_rfl, ?_⟩) hHeld ?_
              rotate_left
              · intro Y hSw
                skip
                first | (go_simp; done) | (go_simp; with_reducible rfl)
              try simp only [Act.put]
              refine wpAnyH_take (i := 10) (v := ?_) rfl (by kernel_rfl) (by kernel_rfl) (by kernel_rfl) (fun _ _ _ h => h) (Or.inl ⟨by kernel_rfl, ?_⟩) hHeld ?_
              rotate_left
              · intro Y hSw
                skip
                first | (go_simp; done) | (go_simp; with_reducible rfl)
              try simp only [Act.put]
              refine wpAnyH_ready (rs := [11]) (by kernel_rfl) (by simp) ?_
              refine AllReadyH.cons rfl (fun K hK => ?_) AllReadyH.nil
              go_simp
              have hS_ : (fun Y => Y.cell? ⟨wr.heap.size, 0, none⟩ = some (.int .u64 id) ∧ Blk Y w5.heap.size 45 #[.int .i64 6, .bool false, .int .i64 0, .string ⟨#[]⟩, .slice none 0 0, .slice oa5 2 oc5]) (w7.alloc (.cells zero6 45)) := ⟨((hbr7.alloc hbr7.size (.cells zero6 45)).cell (p := ⟨wr.heap.size, 0, none⟩) (by show wr.heap.size < wk.heap.size; omega)).trans N0.out, Hxk.out.below (hbr7.alloc hbr7.size (.cells zero6 45)) (by omega)⟩
              refine hK.out _ _ hS_ (fun hHeld => ?_)
              clear hK K
              try simp only [Act.put, List.setIfInBounds_toArray, List.set_cons_zero, List.set_cons_succ]
              refine wpAnyH_ready (rs := [12]) (by kernel_rfl) (by simp) ?_
              refine AllReadyH.cons rfl (fun K hK => ?_) AllReadyH.nil
              have hz7 := hbr7.size
              go_simp
              have hS_ : (fun Y => Y.cell? ⟨wr.heap.size, 0, none⟩ = some (.int .u64 id) ∧ Blk Y w5.heap.size 45 #[.int .i64 6, .bool false, .int .i64 0, .string ⟨#[]⟩, .slice none 0 0, .slice oa5 2 oc5]) (w7.alloc (.cells #[.int .i64 6, .bool false, .int .i64 0, .string ⟨#[]⟩, .slice la7 0 lc7, .slice oa7 2 oc7] 45)) := ⟨((hbr7.alloc hbr7.size (.cells #[.int .i64 6, .bool false, .int .i64 0, .string ⟨#[]⟩, .slice la7 0 lc7, .slice oa7 2 oc7] 45)).cell (p := ⟨wr.heap.size, 0, none⟩) (by show wr.heap.size < wk.heap.size; omega)).trans N0.out, Hxk.out.below (hbr7.alloc hbr7.size (.cells #[.int .i64 6, .bool false, .int .i64 0, .string ⟨#[]⟩, .slice la7 0 lc7, .slice oa7 2 oc7] 45)) (by omega)⟩
              refine hK.out _ _ hS_ (fun hHeld => ?_)
              clear hK K
              try simp only [Act.put, List.setIfInBounds_toArray, List.set_cons_zero, List.set_cons_succ]
              refine wpAnyH_take (i := 13) (v := ?_) rfl (by kernel_rfl) (by kernel_rfl) (by kernel_rfl) (fun _ _ _ h => h) (Or.inl ⟨by kernel_rfl, ?_⟩) hHeld ?_
              rotate_left
              · intro Y hSw
                skip
                first | (go_simp; done) | (go_simp; with_reducible rfl)
              try simp only [Act.put, List.setIfInBounds_toArray]
              refine wpAnyH_done (by kernel_rfl) ?_ _
              have HF := Lib.hid (afterI_new hbr7 (by have := hbr6.size; simp only [World.size_alloc]; omega) hf7)
              clear hS_ hHeld hb7 hf7 hbr7 hb6 hbr6
              go_wp2
              go_meet
              exact HF.out
            · -- the variable
              go_simp
              have hS_ : (fun Y => Y.cell? ⟨wr.heap.size, 0, none⟩ = some (.int .u64 id) ∧ Blk Y w5.heap.size 45 #[.int .i64 6, .bool false, .int .i64 0, .string ⟨#[]⟩, .slice none 0 0, .slice oa5 2 oc5]) ((w6.alloc (.cells #[.string kId, .int .i64 3, .bool false, .int .i64 id, .string ⟨#[]⟩, .slice none 0 0, .slice none 0 0, .string kMut, .int .i64 6, .bool false, .int .i64 0, .string ⟨#[]⟩, .slice none 0 0, .slice oa5 2 oc5] 72)).alloc (.cells zero6 45)) := ⟨(((hbr6.alloc hbr6.size (.cells #[.string kId, .int .i64 3, .bool false, .int .i64 id, .string ⟨#[]⟩, .slice none 0 0, .slice none 0 0, .string kMut, .int .i64 6, .bool false, .int .i64 0, .string ⟨#[]⟩, .slice none 0 0, .slice oa5 2 oc5] 72)).alloc (hbr6.alloc hbr6.size (.cells #[.string kId, .int .i64 3, .bool false, .int .i64 id, .string ⟨#[]⟩, .slice none 0 0, .slice none 0 0, .string kMut, .int .i64 6, .bool false, .int .i64 0, .string ⟨#[]⟩, .slice none 0 0, .slice oa5 2 oc5] 72)).size (.cells zero6 45)).cell (p := ⟨wr.heap.size, 0, none⟩) (by show wr.heap.size < wk.heap.size; omega)).trans N0.out, Hxk.out.below ((hbr6.alloc hbr6.size (.cells #[.string kId, .int .i64 3, .bool false, .int .i64 id, .string ⟨#[]⟩, .slice none 0 0, .slice none 0 0, .string kMut, .int .i64 6, .bool false, .int .i64 0, .string ⟨#[]⟩, .slice none 0 0, .slice oa5 2 oc5] 72)).alloc (hbr6.alloc hbr6.size (.cells #[.string kId, .int .i64 3, .bool false, .int .i64 id, .string ⟨#[]⟩, .slice none 0 0, .slice none 0 0, .string kMut, .int .i64 6, .bool false, .int .i64 0, .string ⟨#[]⟩, .slice none 0 0, .slice oa5 2 oc5] 72)).size (.cells zero6 45)) (by omega)⟩
              refine hK.out _ _ hS_ (fun hHeld => ?_)
              clear hK K
              try simp only [Act.put, List.setIfInBounds_toArray, List.set_cons_zero, List.set_cons_succ]
              refine wpAnyH_ready (rs := [7]) (by kernel_rfl) (by simp) ?_
              refine AllReadyH.cons rfl (fun K hK => ?_) AllReadyH.nil
              go_simp
              (with_reducible refine (HO.out _ _ _ _ ((holds_two kId kMut id X _ _ _ _ _ _ w6 (Hfk.out.later hbr6).now).later (alloc_below _ _))).mono ?_)
              rintro e w7 ⟨hb7, la7, lc7, oa7, oc7, rfl, hf7⟩
              have hbr7 : Below wk.heap.size wk w7 := ((hbr6.alloc hbr6.size (.cells #[.string kId, .int .i64 3, .bool false, .int .i64 id, .string ⟨#[]⟩, .slice none 0 0, .slice none 0 0, .string kMut, .int .i64 6, .bool false, .int .i64 0, .string ⟨#[]⟩, .slice none 0 0, .slice oa5 2 oc5] 72)).alloc (hbr6.alloc hbr6.size (.cells #[.string kId, .int .i64 3, .bool false, .int .i64 id, .string ⟨#[]⟩, .slice none 0 0, .slice none 0 0, .string kMut, .int .i64 6, .bool false, .int .i64 0, .string ⟨#[]⟩, .slice none 0 0, .slice oa5 2 oc5] 72)).size (.cells zero6 45)).trans (hb7.mono (show wk.heap.size ≤ ((w6.alloc (.cells #[.string kId, .int .i64 3, .bool false, .int .i64 id, .string ⟨#[]⟩, .slice none 0 0, .slice none 0 0, .string kMut, .int .i64 6, .bool false, .int .i64 0, .string ⟨#[]⟩, .slice none 0 0, .slice oa5 2 oc5] 72)).alloc (.cells zero6 45)).heap.size from ((hbr6.alloc hbr6.size (.cells #[.string kId, .int .i64 3, .bool false, .int .i64 id, .string ⟨#[]⟩, .slice none 0 0, .slice none 0 0, .string kMut, .int .i64 6, .bool false, .int .i64 0, .string ⟨#[]⟩, .slice none 0 0, .slice oa5 2 oc5] 72)).alloc (hbr6.alloc hbr6.size (.cells #[.string kId, .int .i64 3, .bool false, .int .i64 id, .string ⟨#[]⟩, .slice none 0 0, .slice none 0 0, .string kMut, .int .i64 6, .bool false, .int .i64 0, .string ⟨#[]⟩, .slice none 0 0, .slice oa5 2 oc5] 72)).size (.cells zero6 45)).size))
              have hS_ : (fun Y => Y.cell? ⟨wr.heap.size, 0, none⟩ = some (.int .u64 id) ∧ Blk Y w5.heap.size 45 #[.int .i64 6, .bool false, .int .i64 0, .string ⟨#[]⟩, .slice none 0 0, .slice oa5 2 oc5]) w7 := ⟨(hbr7.cell (p := ⟨wr.heap.size, 0, none⟩) (by show wr.heap.size < wk.heap.size; omega)).trans N0.out, Hxk.out.below hbr7 (by omega)⟩
              refine hK.out _ _ hS_ (fun hHeld => ?_)
              clear hK K
              try simp only [Act.put, List.setIfInBounds_toArray, List.set_cons_zero, List.set_cons_succ]
              refine wpAnyH_take (i := 8) (v := ?_) rfl (by kernel_rfl) (by kernel_rfl) (by kernel_rfl) (fun _ _ _ h => h) (Or.inl ⟨by kernel_rfl, ?_⟩) hHeld ?_
              rotate_left
              · intro Y hSw
                skip
                first | (go_simp; done) | (go_simp; with_reducible rfl)
              try simp only [Act.put, List.setIfInBounds_toArray]
              refine wpAnyH_take (i := 9) (v := ?_) rfl (by kernel_rfl) (by kernel_rfl) (by kernel_rfl) (fun _ _ _ h => h) (Or.inl ⟨by kernel_rfl, ?_⟩) hHeld ?_
              rotate_left
              · intro Y hSw
                skip
                first | (go_simp; done) | (go_simp; with_reducible rfl)
              try simp only [Act.put]
              refine wpAnyH_take (i := 10) (v := ?_) rfl (by kernel_rfl) (by kernel_rfl) (by kernel_rfl) (fun _ _ _ h => h) (Or.inl ⟨by kernel_rfl, ?_⟩) hHeld ?_
              rotate_left
              · intro Y hSw
                skip
                first | (go_simp; done) | (go_simp; with_reducible rfl)
              try simp only [Act.put]
              refine wpAnyH_ready (rs := [12]) (by kernel_rfl) (by simp) ?_
              refine AllReadyH.cons rfl (fun K hK => ?_) AllReadyH.nil
              have hxR : Blk w7 (w6.heap.size + 1) 45 zero6 := (by have h := Blk.new (w6.alloc (.cells #[.string kId, .int .i64 3, .bool false, .int .i64 id, .string ⟨#[]⟩, .slice none 0 0, .slice none 0 0, .string kMut, .int .i64 6, .bool false, .int .i64 0, .string ⟨#[]⟩, .slice none 0 0, .slice oa5 2 oc5] 72)) 45 zero6; rw [World.size_alloc] at h; exact h.below hb7 (by simp only [World.size_alloc]; omega))
              obtain ⟨c0, c1, c2, c3, c4, c5⟩ := vcell hxR
              have fz := hxR.frozen
              have hRl := hxR.lt
              have hRk : wk.heap.size ≤ w6.heap.size + 1 := by have := hbr6.size; omega
              go_simp
              have hS_ : (fun Y => Y.cell? ⟨wr.heap.size, 0, none⟩ = some (.int .u64 id) ∧ Blk Y w5.heap.size 45 #[.int .i64 6, .bool false, .int .i64 0, .string ⟨#[]⟩, .slice none 0 0, .slice oa5 2 oc5]) (setMany w7 (w6.heap.size + 1) 0 [.int .i64 6, .bool false, .int .i64 0, .string ⟨#[]⟩, .slice la7 0 lc7, .slice oa7 2 oc7]) := ⟨(World.cell?_of_block (a := ⟨wr.heap.size, 0, none⟩) (setMany_far _ _ _ _ _ (by show wr.heap.size ≠ w6.heap.size + 1; omega))).trans ((hbr7.cell (p := ⟨wr.heap.size, 0, none⟩) (by show wr.heap.size < wk.heap.size; omega)).trans N0.out), (setMany_far _ _ _ _ _ (by omega)).trans (Hxk.out.below hbr7 (by omega))⟩
              refine hK.out _ _ hS_ (fun hHeld => ?_)
              clear hK K
              try simp only [Act.put, List.setIfInBounds_toArray, List.set_cons_zero, List.set_cons_succ]
              refine wpAnyH_take (i := 13) (v := ?_) rfl (by kernel_rfl) (by kernel_rfl) (by kernel_rfl) (fun _ _ _ h => h) (Or.inl ⟨by kernel_rfl, ?_⟩) hHeld ?_
              rotate_left
              · intro Y hSw
                skip
                first | (go_simp; done) | (go_simp; with_reducible rfl)
              try simp only [Act.put, List.setIfInBounds_toArray]
              refine wpAnyH_done (by kernel_rfl) ?_ _
              have HF := Lib.hid (afterI_old hbr7 hRk hxR hf7 (by have := hbr6.size; simp only [World.size_alloc]; omega))
              clear c0 c1 c2 c3 c4 c5 fz hxR hS_ hHeld hb7 hf7 hbr7 hb6 hbr6
              go_wp2
              go_meet
              exact HF.out
          · -- the variable
            go_simp
            have hS_ : (fun Y => Y.cell? ⟨wr.heap.size, 0, none⟩ = some (.int .u64 id) ∧ Blk Y w5.heap.size 45 #[.int .i64 6, .bool false, .int .i64 0, .string ⟨#[]⟩, .slice none 0 0, .slice oa5 2 oc5]) (w6.alloc (.cells zero6 45)) := ⟨((hbr6.alloc hbr6.size (.cells zero6 45)).cell (p := ⟨wr.heap.size, 0, none⟩) (by show wr.heap.size < wk.heap.size; omega)).trans N0.out, Hxk.out.below (hbr6.alloc hbr6.size (.cells zero6 45)) (by omega)⟩
            refine hK.out _ _ hS_ (fun hHeld => ?_)
            clear hK K
            try simp only [Act.put, List.setIfInBounds_toArray, List.set_cons_zero, List.set_cons_succ]
            refine wpAnyH_ready (rs := [6]) (by kernel_rfl) (by simp) ?_
            refine AllReadyH.cons rfl (fun K hK => ?_) AllReadyH.nil
            go_simp
            have hS_ : (fun Y => Y.cell? ⟨wr.heap.size, 0, none⟩ = some (.int .u64 id) ∧ Blk Y w5.heap.size 45 #[.int .i64 6, .bool false, .int .i64 0, .string ⟨#[]⟩, .slice none 0 0, .slice oa5 2 oc5]) ((w6.alloc (.cells zero6 45)).alloc (.cells #[.string kId, .int .i64 3, .bool false, .int .i64 id, .string ⟨#[]⟩, .slice none 0 0, .slice none 0 0, .string kMut, .int .i64 6, .bool false, .int .i64 0, .string ⟨#[]⟩, .slice none 0 0, .slice oa5 2 oc5] 72)) := ⟨(((hbr6.alloc hbr6.size (.cells zero6 45)).alloc (hbr6.alloc hbr6.size (.cells zero6 45)).size (.cells #[.string kId, .int .i64 3, .bool false, .int .i64 id, .string ⟨#[]⟩, .slice none 0 0, .slice none 0 0, .string kMut, .int .i64 6, .bool false, .int .i64 0, .string ⟨#[]⟩, .slice none 0 0, .slice oa5 2 oc5] 72)).cell (p := ⟨wr.heap.size, 0, none⟩) (by show wr.heap.size < wk.heap.size; omega)).trans N0.out, Hxk.out.below ((hbr6.alloc hbr6.size (.cells zero6 45)).alloc (hbr6.alloc hbr6.size (.cells zero6 45)).size (.cells #[.string kId, .int .i64 3, .bool false, .int .i64 id, .string ⟨#[]⟩, .slice none 0 0, .slice none 0 0, .string kMut, .int .i64 6, .bool false, .int .i64 0, .string ⟨#[]⟩, .slice none 0 0, .slice oa5 2 oc5] 72)) (by omega)⟩
            refine hK.out _ _ hS_ (fun hHeld => ?_)
            clear hK K
            try simp only [Act.put, List.setIfInBounds_toArray, List.set_cons_zero, List.set_cons_succ]
            refine wpAnyH_ready (rs := [7]) (by kernel_rfl) (by simp) ?_
            refine AllReadyH.cons rfl (fun K hK => ?_) AllReadyH.nil
            go_simp
            (with_reducible refine (HO.out _ _ _ _ (holds_two' kId kMut id X _ _ _ _ _ _ (w6.alloc (.cells zero6 45)) _ (World.size_alloc _ _) (Hfk.out.later (hbr6.alloc hbr6.size _)).now)).mono ?_)
            rintro e w7 ⟨hb7, la7, lc7, oa7, oc7, rfl, hf7⟩
            have hbr7 : Below wk.heap.size wk w7 := ((hbr6.alloc hbr6.size (.cells zero6 45)).alloc (hbr6.alloc hbr6.size (.cells zero6 45)).size (.cells #[.string kId, .int .i64 3, .bool false, .int .i64 id, .string ⟨#[]⟩, .slice none 0 0, .slice none 0 0, .string kMut, .int .i64 6, .bool false, .int .i64 0, .string ⟨#[]⟩, .slice none 0 0, .slice oa5 2 oc5] 72)).trans (hb7.mono (show wk.heap.size ≤ ((w6.alloc (.cells zero6 45)).alloc (.cells #[.string kId, .int .i64 3, .bool false, .int .i64 id, .string ⟨#[]⟩, .slice none 0 0, .slice none 0 0, .string kMut, .int .i64 6, .bool false, .int .i64 0, .string ⟨#[]⟩, .slice none 0 0, .slice oa5 2 oc5] 72)).heap.size from ((hbr6.alloc hbr6.size (.cells zero6 45)).alloc (hbr6.alloc hbr6.size (.cells zero6 45)).size (.cells #[.string kId, .int .i64 3, .bool false, .int .i64 id, .string ⟨#[]⟩, .slice none 0 0, .slice none 0 0, .string kMut, .int .i64 6, .bool false, .int .i64 0, .string ⟨#[]⟩, .slice none 0 0, .slice oa5 2 oc5] 72)).size))
            have hS_ : (fun Y => Y.cell? ⟨wr.heap.size, 0, none⟩ = some (.int .u64 id) ∧ Blk Y w5.heap.size 45 #[.int .i64 6, .bool false, .int .i64 0, .string ⟨#[]⟩, .slice none 0 0, .slice oa5 2 oc5]) w7 := ⟨(hbr7.cell (p := ⟨wr.heap.size, 0, none⟩) (by show wr.heap.size < wk.heap.size; omega)).trans N0.out, Hxk.out.below hbr7 (by omega)⟩
            refine hK.out _ _ hS_ (fun hHeld => ?_)
            clear hK K
            try simp only [Act.put, List.setIfInBounds_toArray, List.set_cons_zero, List.set_cons_succ]
            refine wpAnyH_take (i := 8) (v := ?_) rfl (by kernel_rfl) (by kernel_rfl) (by kernel_rfl) (fun _ _ _ h => h) (Or.inl ⟨by kernel_rfl, ?_⟩) hHeld ?_
            rotate_left
            · intro Y hSw
              skip
              first | (go_simp; done) | (go_simp; with_reducible rfl)
            try simp only [Act.put, List.setIfInBounds_toArray]
            refine wpAnyH_take (i := 9) (v := ?_) rfl (by kernel_rfl) (by kernel_rfl) (by kernel_rfl) (fun _ _ _ h => h) (Or.inl ⟨by kernel_rfl, ?_⟩) hHeld ?_
            rotate_left
            · intro Y hSw
              skip
              first | (go_simp; done) | (go_simp; with_reducible rfl)
            try simp only [Act.put]
            refine wpAnyH_take (i := 10) (v := ?_) rfl (by kernel_rfl) (by kernel_rfl) (by kernel_rfl) (fun _ _ _ h => h) (Or.inl ⟨by kernel_rfl, ?_⟩) hHeld ?_
            rotate_left
            · intro Y hSw
              skip
              first | (go_simp; done) | (go_simp; with_reducible rfl)
            try simp only [Act.put]
            refine wpAnyH_ready (rs := [12]) (by kernel_rfl) (by simp) ?_
            refine AllReadyH.cons rfl (fun K hK => ?_) AllReadyH.nil
            have hxR : Blk w7 (w6.heap.size) 45 zero6 := ((Blk.new w6 45 zero6).alloc (.cells #[.string kId, .int .i64 3, .bool false, .int .i64 id, .string ⟨#[]⟩, .slice none 0 0, .slice none 0 0, .string kMut, .int .i64 6, .bool false, .int .i64 0, .string ⟨#[]⟩, .slice none 0 0, .slice oa5 2 oc5] 72)).below hb7 (by simp only [World.size_alloc]; omega)
            obtain ⟨c0, c1, c2, c3, c4, c5⟩ := vcell hxR
            have fz := hxR.frozen
            have hRl := hxR.lt
            have hRk : wk.heap.size ≤ w6.heap.size := by have := hbr6.size; omega
            go_simp
            have hS_ : (fun Y => Y.cell? ⟨wr.heap.size, 0, none⟩ = some (.int .u64 id) ∧ Blk Y w5.heap.size 45 #[.int .i64 6, .bool false, .int .i64 0, .string ⟨#[]⟩, .slice none 0 0, .slice oa5 2 oc5]) (setMany w7 (w6.heap.size) 0 [.int .i64 6, .bool false, .int .i64 0, .string ⟨#[]⟩, .slice la7 0 lc7, .slice oa7 2 oc7]) := ⟨(World.cell?_of_block (a := ⟨wr.heap.size, 0, none⟩) (setMany_far _ _ _ _ _ (by show wr.heap.size ≠ w6.heap.size; omega))).trans ((hbr7.cell (p := ⟨wr.heap.size, 0, none⟩) (by show wr.heap.size < wk.heap.size; omega)).trans N0.out), (setMany_far _ _ _ _ _ (by omega)).trans (Hxk.out.below hbr7 (by omega))⟩
            refine hK.out _ _ hS_ (fun hHeld => ?_)
            clear hK K
            try simp only [Act.put, List.setIfInBounds_toArray, List.set_cons_zero, List.set_cons_succ]
            refine wpAnyH_take (i := 13) (v := ?_) rfl (by kernel_rfl) (by kernel_rfl) (by kernel_rfl) (fun _ _ _ h => h) (Or.inl ⟨by kernel_rfl, ?_⟩) hHeld ?_
            rotate_left
            · intro Y hSw
              skip
              first | (go_simp; done) | (go_simp; with_reducible rfl)
            try simp only [Act.put, List.setIfInBounds_toArray]
            refine wpAnyH_done (by kernel_rfl) ?_ _
            have HF := Lib.hid (afterI_old hbr7 hRk hxR hf7 (by have := hbr6.size; simp only [World.size_alloc]; omega))
            clear c0 c1 c2 c3 c4 c5 fz hxR hS_ hHeld hb7 hf7 hbr7 hb6 hbr6
            go_wp2
            go_meet
            exact HF.out
        · -- the variable first
          go_simp
          have hS_ : (fun Y => Y.cell? ⟨wr.heap.size, 0, none⟩ = some (.int .u64 id) ∧ Blk Y w5.heap.size 45 #[.int .i64 6, .bool false, .int .i64 0, .string ⟨#[]⟩, .slice none 0 0, .slice oa5 2 oc5]) (wk.drew.alloc (.cells zero6 45)) := ⟨((hbd.alloc hbd.size (.cells zero6 45)).cell (p := ⟨wr.heap.size, 0, none⟩) (by show wr.heap.size < wk.heap.size; omega)).trans N0.out, Hxk.out.below (hbd.alloc hbd.size (.cells zero6 45)) (by omega)⟩
          refine hK.out _ _ hS_ (fun hHeld => ?_)
          clear hK K
          try simp only [Act.put, List.setIfInBounds_toArray, List.set_cons_zero, List.set_cons_succ]
          refine wpAnyH_ready (rs := [2]) (by kernel_rfl) (by simp) ?_
          refine AllReadyH.cons rfl (fun K hK => ?_) AllReadyH.nil
          go_simp
          (with_reducible refine (Hnum.out _).mono ?_)
          rintro e w6 ⟨rfl, hb6⟩
          have hbr6 : Below wk.heap.size wk w6 := (hbd.alloc hbd.size (.cells zero6 45)).trans (hb6.mono (show wk.heap.size ≤ (wk.drew.alloc (.cells zero6 45)).heap.size from (hbd.alloc hbd.size (.cells zero6 45)).size))
          have hS_ : (fun Y => Y.cell? ⟨wr.heap.size, 0, none⟩ = some (.int .u64 id) ∧ Blk Y w5.heap.size 45 #[.int .i64 6, .bool false, .int .i64 0, .string ⟨#[]⟩, .slice none 0 0, .slice oa5 2 oc5]) w6 := ⟨(hbr6.cell (p := ⟨wr.heap.size, 0, none⟩) (by show wr.heap.size < wk.heap.size; omega)).trans N0.out, Hxk.out.below hbr6 (by omega)⟩
          refine hK.out _ _ hS_ (fun hHeld => ?_)
          clear hK K
          try simp only [Act.put, List.setIfInBounds_toArray, List.set_cons_zero, List.set_cons_succ]
          refine wpAnyH_take (i := 3) (v := ?_) rfl (by kernel_rfl) (by kernel_rfl) (by kernel_rfl) (fun _ _ _ h => h) (Or.inl ⟨by kernel_rfl, ?_⟩) hHeld ?_
          rotate_left
          · intro Y hSw
            skip
            first | (go_simp; done) | (go_simp; with_reducible rfl)
          try simp only [Act.put, List.setIfInBounds_toArray]
          refine wpAnyH_ready (rs := [6]) (by kernel_rfl) (by simp) ?_
          refine AllReadyH.cons rfl (fun K hK => ?_) AllReadyH.nil
          go_simp
          have hS_ : (fun Y => Y.cell? ⟨wr.heap.size, 0, none⟩ = some (.int .u64 id) ∧ Blk Y w5.heap.size 45 #[.int .i64 6, .bool false, .int .i64 0, .string ⟨#[]⟩, .slice none 0 0, .slice oa5 2 oc5]) (w6.alloc (.cells #[.string kId, .int .i64 3, .bool false, .int .i64 id, .string ⟨#[]⟩, .slice none 0 0, .slice none 0 0, .string kMut, .int .i64 6, .bool false, .int .i64 0, .string ⟨#[]⟩, .slice none 0 0, .slice oa5 2 oc5] 72)) := ⟨((hbr6.alloc hbr6.size (.cells #[.string kId, .int .i64 3, .bool false, .int .i64 id, .string ⟨#[]⟩, .slice none 0 0, .slice none 0 0, .string kMut, .int .i64 6, .bool false, .int .i64 0, .string ⟨#[]⟩, .slice none 0 0, .slice oa5 2 oc5] 72)).cell (p := ⟨wr.heap.size, 0, none⟩) (by show wr.heap.size < wk.heap.size; omega)).trans N0.out, Hxk.out.below (hbr6.alloc hbr6.size (.cells #[.string kId, .int .i64 3, .bool false, .int .i64 id, .string ⟨#[]⟩, .slice none 0 0, .slice none 0 0, .string kMut, .int .i64 6, .bool false, .int .i64 0, .string ⟨#[]⟩, .slice none 0 0, .slice oa5 2 oc5] 72)) (by omega)⟩
          refine hK.out _ _ hS_ (fun hHeld => ?_)
          clear hK K
          try simp only [Act.put, List.setIfInBounds_toArray, List.set_cons_zero, List.set_cons_succ]
          refine wpAnyH_ready (rs := [7]) (by kernel_rfl) (by simp) ?_
          refine AllReadyH.cons rfl (fun K hK => ?_) AllReadyH.nil
          go_simp
          (with_reducible refine (HO.out _ _ _ _ (holds_two kId kMut id X _ _ _ _ _ _ w6 (Hfk.out.later hbr6).now)).mono ?_)
          rintro e w7 ⟨hb7, la7, lc7, oa7, oc7, rfl, hf7⟩
          have hbr7 : Below wk.heap.size wk w7 := (hbr6.alloc hbr6.size (.cells #[.string kId, .int .i64 3, .bool false, .int .i64 id, .string ⟨#[]⟩, .slice none 0 0, .slice none 0 0, .string kMut, .int .i64 6, .bool false, .int .i64 0, .string ⟨#[]⟩, .slice none 0 0, .slice oa5 2 oc5] 72)).trans (hb7.mono (show wk.heap.size ≤ (w6.alloc (.cells #[.string kId, .int .i64 3, .bool false, .int .i64 id, .string ⟨#[]⟩, .slice none 0 0, .slice none 0 0, .string kMut, .int .i64 6, .bool false, .int .i64 0, .string ⟨#[]⟩, .slice none 0 0, .slice oa5 2 oc5] 72)).heap.size from (hbr6.alloc hbr6.size (.cells #[.string kId, .int .i64 3, .bool false, .int .i64 id, .string ⟨#[]⟩, .slice none 0 0, .slice none 0 0, .string kMut, .int .i64 6, .bool false, .int .i64 0, .string ⟨#[]⟩, .slice none 0 0, .slice oa5 2 oc5] 72)).size))
          have hS_ : (fun Y => Y.cell? ⟨wr.heap.size, 0, none⟩ = some (.int .u64 id) ∧ Blk Y w5.heap.size 45 #[.int .i64 6, .bool false, .int .i64 0, .string ⟨#[]⟩, .slice none 0 0, .slice oa5 2 oc5]) w7 := ⟨(hbr7.cell (p := ⟨wr.heap.size, 0, none⟩) (by show wr.heap.size < wk.heap.size; omega)).trans N0.out, Hxk.out.below hbr7 (by omega)⟩
          refine hK.out _ _ hS_ (fun hHeld => ?_)
          clear hK K
          try simp only [Act.put, List.setIfInBounds_toArray, List.set_cons_zero, List.set_cons_succ]
          refine wpAnyH_take (i := 8) (v := ?_) rfl (by kernel_rfl) (by kernel_rfl) (by kernel_rfl) (fun _ _ _ h => h) (Or.inl ⟨by kernel_rfl, ?_⟩) hHeld ?_
          rotate_left
          · intro Y hSw
            skip
            first | (go_simp; done) | (go_simp; with_reducible rfl)
          try simp only [Act.put, List.setIfInBounds_toArray]
          refine wpAnyH_take (i := 9) (v := ?_) rfl (by kernel_rfl) (by kernel_rfl) (by kernel_rfl) (fun _ _ _ h => h) (Or.inl ⟨by kernel_rfl, ?_⟩) hHeld ?_
          rotate_left
          · intro Y hSw
            skip
            first | (go_simp; done) | (go_simp; with_reducible rfl)
          try simp only [Act.put]
          refine wpAnyH_take (i := 10) (v := ?_) rfl (by kernel_rfl) (by kernel_rfl) (by kernel_rfl) (fun _ _ _ h => h) (Or.inl ⟨by kernel_rfl, ?_⟩) hHeld ?_
          rotate_left
          · intro Y hSw
            skip
            first | (go_simp; done) | (go_simp; with_reducible rfl)
          try simp only [Act.put]
          refine wpAnyH_ready (rs := [12]) (by kernel_rfl) (by simp) ?_
          refine AllReadyH.cons rfl (fun K hK => ?_) AllReadyH.nil
          have hxR : Blk w7 (wk.heap.size) 45 zero6 := (((Blk.new wk.drew 45 zero6).below hb6 (Blk.new _ _ _).lt).alloc (.cells #[.string kId, .int .i64 3, .bool false, .int .i64 id, .string ⟨#[]⟩, .slice none 0 0, .slice none 0 0, .string kMut, .int .i64 6, .bool false, .int .i64 0, .string ⟨#[]⟩, .slice none 0 0, .slice oa5 2 oc5] 72)).below hb7 (show wk.heap.size < _ from by have := hbr6.size; simp only [World.size_alloc]; omega)
          obtain ⟨c0, c1, c2, c3, c4, c5⟩ := vcell hxR
          have fz := hxR.frozen
          have hRl := hxR.lt
          have hRk : wk.heap.size ≤ wk.heap.size := by have := hbr6.size; omega
          go_simp
          have hS_ : (fun Y => Y.cell? ⟨wr.heap.size, 0, none⟩ = some (.int .u64 id) ∧ Blk Y w5.heap.size 45 #[.int .i64 6, .bool false, .int .i64 0, .string ⟨#[]⟩, .slice none 0 0, .slice oa5 2 oc5]) (setMany w7 (wk.heap.size) 0 [.int .i64 6, .bool false, .int .i64 0, .string ⟨#[]⟩, .slice la7 0 lc7, .slice oa7 2 oc7]) := ⟨(World.cell?_of_block (a := ⟨wr.heap.size, 0, none⟩) (setMany_far _ _ _ _ _ (by show wr.heap.size ≠ wk.heap.size; omega))).trans ((hbr7.cell (p := ⟨wr.heap.size, 0, none⟩) (by show wr.heap.size < wk.heap.size; omega)).trans N0.out), (setMany_far _ _ _ _ _ (by omega)).trans (Hxk.out.below hbr7 (by omega))⟩
          refine hK.out _ _ hS_ (fun hHeld => ?_)
          clear hK K
          try simp only [Act.put, List.setIfInBounds_toArray, List.set_cons_zero, List.set_cons_succ]
          refine wpAnyH_take (i := 13) (v := ?_) rfl (by kernel_rfl) (by kernel_rfl) (by kernel_rfl) (fun _ _ _ h => h) (Or.inl ⟨by kernel_rfl, ?_⟩) hHeld ?_
          rotate_left
          · intro Y hSw
            skip
            first | (go_simp; done) | (go_simp; with_reducible rfl)
          try simp only [Act.put, List.setIfInBounds_toArray]
          refine wpAnyH_done (by kernel_rfl) ?_ _
          have HF := Lib.hid (afterI_old hbr7 hRk hxR hf7 (by have := hbr6.size; simp only [World.size_alloc]; omega))
          clear c0 c1 c2 c3 c4 c5 fz hxR hS_ hHeld hb7 hf7 hbr7 hb6 hbr6
          go_wp2
          go_meet
          exact HF.out
      case rest =>
        obtain ⟨hwc, rfl, R, la, lc, oa, oc, rfl, hR, hxR, hfR⟩ := hcut
        have hrc : Below wr.heap.size wr wc := (Hb5'.out.trans (Hbk.out.mono (by omega))).trans (hwc.mono (by omega))
        have hxv := hI.out.var.below hrc hI.out.var.lt
        have hbx := hI.out.box.below hrc hI.out.box.lt
        have hrs := hI.out.res.below hrc hI.out.res.lt
        have hrow := hI.out.row
        have hbase := hI.out.row.base
        rw [hdl] at hxv hrow hbase
        have hgv := hI.out.var.lt
        have hgvc := hxv.lt
        have hzc := hrc.size
        obtain ⟨r0, r1, r2, r3, r4, r5⟩ := vcell hxR
        have y4 := hxv.cell 4
        have hRl := hxR.lt
        rw [← HM.out] at hfR
        have hfe : Fresh wr.heap.size (wc.alloc (.cells #[.int .i64 6, .bool false, .int .i64 0, .string ⟨#[]⟩, .slice la 0 lc, .slice oa 2 oc] 45)) (dV (numV ⟨id, (Mut.mk k' key' dst' n' had' (.mk k1' b1' n1' t1' l1' o1') has' (.mk k2' b2' n2' t2' l2' o2') l')⟩)) [.int .i64 6, .bool false, .int .i64 0, .string ⟨#[]⟩, .slice la 0 lc, .slice oa 2 oc] :=
          (hfR.keep (b' := wr.heap.size) (by omega) (Nat.le_refl _) fun _ _ _ => rfl).later (alloc_below _ _)
        have hbe := hrc.alloc hzc (.cells #[.int .i64 6, .bool false, .int .i64 0, .string ⟨#[]⟩, .slice la 0 lc, .slice oa 2 oc] 45)
        have hxv5 := hxv.alloc (.cells #[.int .i64 6, .bool false, .int .i64 0, .string ⟨#[]⟩, .slice la 0 lc, .slice oa 2 oc] 45)
        have hbx5 := hbx.alloc (.cells #[.int .i64 6, .bool false, .int .i64 0, .string ⟨#[]⟩, .slice la 0 lc, .slice oa 2 oc] 45)
        have hrs5 := hrs.alloc (.cells #[.int .i64 6, .bool false, .int .i64 0, .string ⟨#[]⟩, .slice la 0 lc, .slice oa 2 oc] 45)
        have hw5 := Hbw.out.trans (hbe.mono hz)
        have Hwc := Lib.hid hwc
        have Hrc := Lib.hid hrc
        have Hxv := Lib.hid hxv
        have Hbx := Lib.hid hbx
        have Hrs := Lib.hid hrs
        have Hrow := Lib.hid hrow
        have HxR := Lib.hid hxR
        have HfR := Lib.hid hfR
        have Hfe := Lib.hid hfe
        have Hbe := Lib.hid hbe
        have Hxv5 := Lib.hid hxv5
        have Hbx5 := Lib.hid hbx5
        have Hrs5 := Lib.hid hrs5
        have Hw5 := Lib.hid hw5
        have Hbase := Lib.hid hbase
        clear hwc hrc hxv hbx hrs hrow hxR hfR hfe hbe hxv5 hbx5 hrs5 hw5 hbase
        clear Hxk Hfk Hf5 Hx5 Hxn N0
        go_wp2_with (at_builtin; apply Shut.out)
        unfold Shut
        refine wpList_append_D (d := dV (numV ⟨id, (Mut.mk k' key' dst' n' had' (.mk k1' b1' n1' t1' l1' o1') has' (.mk k2' b2' n2' t2' l2' o2') l')⟩)) (V := .slice aV q cV) rfl (.tmp 44) (.tmp 46) 42 rfl Tryz.underlying42 Hj.out Hy0.out Hy1.out Hy2.out rfl (by omega) rfl Hrow.out (by omega) Hbe.out (dV_cells _) Hfe.out rfl (reads_six wc _ _ _ _ _ _) hLo.out.1 hLo.out.2 ?_
        intro V6 w6 hrow6 hg6 hat6
        rw [Htk.out] at hrow6
        have hx6 := blk_app Hxv5.out hg6 Hrow.out (by omega)
        have hbx6 := blk_app Hbx5.out hg6 Hrow.out (by omega)
        have hrs6 := blk_app Hrs5.out hg6 Hrow.out (by omega)
        have hw6 := below_app Hw5.out hg6 Hrow.out (by omega) Hw5.out.size
        obtain ⟨a6, c6, rfl⟩ := hrow6.slice
        have e6 := hx6.cell 4
        have f6 := hx6.frozen 4
        have hg6v := hx6.lt
        have HN6 : Hid (LO w #[.int .u64 c, .slice (some ⟨g, off, none⟩) l.length cc] l (q + 1) (w6.setCell ⟨w.heap.size + 2, 4, none⟩ (.slice a6 (dL ((l.map numV).take (q + 1))).length c6)) (.slice a6 (dL ((l.map numV).take (q + 1))).length c6)) :=
          ⟨hw6.setCell (by simp) _, hbx6.far (by simp) _, hrs6.far (by simp) _, hx6.set_ 4 _, hrow6.keep (by simp [World.setCell]) (fun i h1 _ => Below.heap_setCell _ _ _ _ (by simp; omega))⟩
        have Hx6 := Lib.hid hx6
        have Hbx6 := Lib.hid hbx6
        have Hrs6 := Lib.hid hrs6
        have Hw6 := Lib.hid hw6
        have Hrow6 := Lib.hid hrow6
        clear hx6 hbx6 hrs6 hw6 hrow6
        clear hg6 hat6
        go_wp2
        go_roundw
        case rel => exact ⟨q + 1, by go_num, by omega, _, HN6⟩
        case measure => simp only [intOf]; omega
    · obtain rfl : q = l.length := by omega
      have hln : (dL ((l.map numV).take l.length)).length = l.length := by rw [dL_len, List.length_take, List.length_map, Nat.min_self]
      have hbw := hI.out.below
      have hz := hbw.size
      have hbx := hI.out.box
      have hrs := hI.out.res
      have hxv := hI.out.var
      have hrow := hI.out.row.close
      obtain ⟨aV, cV, rfl⟩ := hI.out.row.slice_n hln
      obtain ⟨a', c', e', _, hf, _⟩ := hrow
      rw [hln] at e' hf
      obtain ⟨rfl, rfl⟩ : aV = a' ∧ cV = c' := by simpa using e'
      have hfl : Fresh (w.heap.size + 3) wr (dV (lv (l.map numV))) [.int .i64 5, .bool false, .int .i64 0, .string ⟨#[]⟩, .slice aV l.length cV, .slice none 0 0] := by
        refine fresh_lv ?_
        have htl : (l.map numV).take l.length = l.map numV := List.take_of_length_le (by simp)
        rw [htl] at hf
        exact hf
      obtain ⟨x0, x1, x2, x3, x4, x5⟩ := vcell hxv
      obtain ⟨r0, r1, r2, r3, r4, r5⟩ := vcell hrs
      have fz := hrs.frozen
      have d0 := hbx.cell 0
      have hgb2 := hbx.lt
      have hgr2 := hrs.lt
      have hgv := hxv.lt
      have hnum := fun W => pnumber_calls c hc0 hc1 W
      have hX := bulk_two kCli kList c (lv (l.map numV)) (by decide) (by decide)
      have hbn := bulk_nums l
      have e00 : (⟨#[]⟩ : ByteArray).size = 0 := rfl
      have hO := fun (W : World) a n c' h => vobj_ok [(kCli, iv c), (kList, lv (l.map numV))] _ a n c' W h (by simp only [lv, Val.bulk, bulkO, e00] at hX ⊢; omega) (push_all c (lv (l.map numV)))
      have Hbw := Lib.hid hbw
      have Hbx := Lib.hid hbx
      have Hrs := Lib.hid hrs
      have Hxv := Lib.hid hxv
      have Hfl := Lib.hid hfl
      have Hnum := Lib.hid hnum
      have HO := Lib.hid hO
      have HX := Lib.hid hX
      have Hbn := Lib.hid hbn
      have E00 := Lib.hid e00
      clear hbw hbx hrs hxv hfl hnum hO hX hbn e00
      clear hI hf e' hln Hok Hin HT HN H
      go_upto_region 13 with (fail)
      go_region_held3 (fun W => W.cell? ⟨w.heap.size, 0, none⟩ = some (.int .u64 c) ∧ W.cell? ⟨w.heap.size + 2, 0, none⟩ = some (.int .i64 5) ∧ W.cell? ⟨w.heap.size + 2, 1, none⟩ = some (.bool false) ∧ W.cell? ⟨w.heap.size + 2, 2, none⟩ = some (.int .i64 0) ∧ W.cell? ⟨w.heap.size + 2, 3, none⟩ = some (.string ⟨#[]⟩) ∧ W.cell? ⟨w.heap.size + 2, 4, none⟩ = some (.slice aV l.length cV) ∧ W.cell? ⟨w.heap.size + 2, 5, none⟩ = some (.slice none 0 0)) (go_keep) (first
        | (go_at_call 35; refine (Hnum.out _).mono ?_; rintro e w6 ⟨rfl, hb6⟩; have hbr6 : Below wr.heap.size wr w6 := ((Below.drew (Below.refl _ _)).trans hb6); obtain ⟨hc6, hg6⟩ := bcellM hbr6)
        | (go_at_call 34; refine (HO.out _ _ _ _ (holds_two kCli kList c (lv (l.map numV)) _ _ _ _ _ _ w6 (Hfl.out.later hbr6).now)).mono ?_; rintro e w7 ⟨hb7, la7, lc7, oa7, oc7, rfl, hf7⟩; have hbr7 := (hbr6.alloc hbr6.size _).trans (hb7.mono (by have := hbr6.size; simp; omega)); obtain ⟨hc7, hg7⟩ := bcellM hbr7))
      all_goals
        have hz6 := hbr6.size
        have hr7 := Hrs.out.below hbr7 Hrs.out.lt
        have hw7 := Hbw.out.trans (hbr7.mono hz)
        have Hr7 := Lib.hid hr7
        have Hw7 := Lib.hid hw7
        have Hf7 := Lib.hid hf7
        clear hr7 hw7 hf7
        clear hc6 hg6 hc7 hg7 hb6 hb7 hbr6 hbr7 r0 r1 r2 r3 r4 r5 fz x0 x1 x2 x3 x4 x5 d0
        repeat go_step
        have hxf := ((((((Hr7.out.set_ 0 (.int .i64 6)).set_ 1 (.bool false)).set_ 2 (.int .i64 0)).set_ 3 (.string ⟨#[]⟩)).set_ 4 (.slice la7 0 lc7)).set_ 5 (.slice oa7 2 oc7))
        have hbf := setMany_below [.int .i64 6, .bool false, .int .i64 0, .string ⟨#[]⟩, .slice la7 0 lc7, .slice oa7 2 oc7] Hw7.out (Nat.le_succ w.heap.size) (o := 0)
        have hff : Fresh w.heap.size (setMany w7 (w.heap.size + 1) 0 [.int .i64 6, .bool false, .int .i64 0, .string ⟨#[]⟩, .slice la7 0 lc7, .slice oa7 2 oc7]) (dV (ov (pushO c l))) [.int .i64 6, .bool false, .int .i64 0, .string ⟨#[]⟩, .slice la7 0 lc7, .slice oa7 2 oc7] :=
          Hf7.out.keep (b' := w.heap.size) (by simp only [World.size_alloc]; omega) (by rw [setMany_size]; exact Nat.le_refl _) (fun p p1 _ => World.cell?_of_block (setMany_far _ _ _ _ _ (by simp only [World.size_alloc] at p1; omega)))
        exact bodyPost_ret (results_cell6_t rfl rfl hxf) rfl ⟨hbf, la7, lc7, oa7, oc7, rfl, hff⟩
end Go.Proofs.YtkoliaodkojghaaGreatDoor

/- push.Encode: the frame of a push that may be, or why it has none. Condition: a bulk of at most 2 * 10^6, numbers of 64 bits. -/
namespace Go.Proofs.YtkoliaodkojghaaGreatDoor
open Go Go.RowKit

theorem pw_lt : (0 : Int) ≤ 4611686018427387903 := by omega
theorem may_push {c : Int} {l : List Num} (h : mayNs l = 0) : mayV (ov (pushO c l)) 1 = 0 := by
  have v1 : validB kCli = true := by decide
  have v2 : validB kList = true := by decide
  have v3 : validB kId = true := by decide
  have v4 : validB kMut = true := by decide
  have l1 : leB kList kCli = false := by decide +kernel
  have l2 : leB kMut kId = false := by decide +kernel
  refine may_ov (by omega) (mayO_cons v1 (may_iv (by omega)) (no_last _) (mayO_cons v2 (may_lv (by omega) (mayL_of fun x hx => ?_)) (a_last l1) (by simp [mayO])))
  obtain ⟨p, hp, rfl⟩ := List.mem_map.1 hx
  obtain ⟨_, hm⟩ := mayNs_all h p hp
  exact may_ov (by omega) (mayO_cons v3 (may_iv (by omega)) (no_last _) (mayO_cons v4 (may_mutV p.m 1 _ (mutMay_zero hm) (by omega) (by omega)) (a_last l2) (by simp [mayO])))
theorem in_push {c : Int} {l : List Num} (h0 : 0 ≤ c) (h1 : c ≤ 4611686018427387903) (h : mayNs l = 0) (hin : inN l) : inV (ov (pushO c l)) := by
  have key : ∀ r : List Num, (∀ p ∈ r, p ∈ l) → inL (r.map numV) := by
    intro r
    induction r with
    | nil => intro _; trivial
    | cons p r ih =>
      intro hr
      obtain ⟨⟨a, b⟩, _⟩ := mayNs_all h p (hr p (by simp))
      exact ⟨in_ov ⟨in_iv (by omega) b, in_mutV p.m (hin p (hr p (by simp))).2, trivial⟩, ih fun q hq => hr q (by simp [hq])⟩
  exact in_ov ⟨in_iv h0 h1, in_lv (key l fun _ hp => hp), trivial⟩
theorem bulk_push (c : Int) (l : List Num) (h : bulkN l ≤ 2000000) : (ov (pushO c l)).bulk ≤ 90000010 := by
  have h1 := bulk_two kCli kList c (lv (l.map numV)) (by decide) (by decide)
  have h2 := bulk_nums l
  have e : (⟨#[]⟩ : ByteArray).size = 0 := rfl
  simp only [ov, lv, pushO, Val.bulk, bulkL, bulkO, e] at h1 ⊢
  omega

set_option maxRecDepth 100000 in
set_option maxHeartbeats 2000000 in
theorem pencode_calls (c : Int) (l : List Num) (a : Option Addr) (n cc : Nat) (w : World) (hc0 : 0 ≤ c) (hT : Tabs w) (hN : MNames w) (h : Holds w w.heap.size (.row 20 (dNs l)) [.slice a n cc]) (hb : bulkN l ≤ 2000000) (hin : inN l) (hm : mayPush c l = 0) :
    Calls Tryz.prog 9 #[.agg #[.int .u64 c, .slice a n cc]] w (BytesPost0 (sealL (1 :: textV (ov (pushO c l)))) w) := by
  have hn := h.row_len
  rw [dNs_len] at hn
  subst hn
  have hM := fun (W : World) (hB : Below w.heap.size w W) => pushMay_calls c l a l.length cc W hc0 (hT.below hB) ((h.below hB).more hB.size) (by omega) hin
  rw [hm] at hM
  obtain ⟨hc1, hmn⟩ : c ≤ 4611686018427387903 ∧ mayNs l = 0 := by
    unfold mayPush at hm
    split at hm
    · cases hm
    · split at hm
      · cases hm
      · exact ⟨by omega, hm⟩
  have hO := fun (W : World) (hB : Below w.heap.size w W) => pobject_calls c l a l.length cc W hc0 hc1 (hT.below hB) (hN.below hB) ((h.below hB).more hB.size) hb hin hmn
  have hmv := may_push (c := c) hmn
  have hiv := in_push hc0 hc1 hmn hin
  have hbv := bulk_push c l hb
  have hok := okV_of _ 1 hmv hiv
  have hlen := textV_len (ov (pushO c l)) hok
  have hT2 := fun (W : World) (hB : Below w.heap.size w W) cs hv => Text_calls (ov (pushO c l)) cs W (hT.below hB) hv (by omega) hiv
  have hts : textS (ov (pushO c l)) = ⟨(textV (ov (pushO c l))).toArray⟩ := by unfold textS; rw [if_pos hmv]
  simp only [hts, hmv] at hT2
  clear hts
  have hFr : ∀ (W : World) (a : Option Addr) (n c' : Nat), Holds W W.heap.size (.row 1 (dB (textV (ov (pushO c l))))) [.slice a n c'] → Calls Tryz.prog 19 #[.int .u8 1, .slice a n c'] W (BytesPost0 (sealL (1 :: textV (ov (pushO c l)))) W) := fun W a n c' hh => frame_calls 1 (by decide) (textV (ov (pushO c l))) a n c' W hh (by omega)
  obtain ⟨S, hS⟩ : ∃ S : ByteArray, ⟨(textV (ov (pushO c l))).toArray⟩ = S := ⟨_, rfl⟩
  have hSe : textV (ov (pushO c l)) = S.data.toList := by rw [← hS]
  rw [hS] at hT2
  rw [hSe] at hFr hlen ⊢
  generalize sealL (1 :: S.data.toList) = L at hFr ⊢
  obtain ⟨wi, hwi⟩ : ∃ wi, w.alloc (.cells #[.int .u64 c, .slice a l.length cc] 25) = wi := ⟨_, rfl⟩
  have hbi : Below w.heap.size w wi := hwi ▸ alloc_below _ _
  have hxi : Blk wi w.heap.size 25 #[.int .u64 c, .slice a l.length cc] := hwi ▸ Blk.new _ _ _
  have d0 := hxi.cell 0
  have d1 := hxi.cell 1
  have hgi := hxi.lt
  have HO := Lib.hid hO
  have HT2 := Lib.hid hT2
  have HFr := Lib.hid hFr
  have HT := Lib.hid hT
  have HN := Lib.hid hN
  have H := Lib.hid h
  have HS := Lib.hid hS
  have HSe := Lib.hid hSe
  have HM := Lib.hid hM
  have Hbi := Lib.hid hbi
  have Hxi := Lib.hid hxi
  clear hO hT2 hFr hT hN h hS hSe hM hbi hxi
  clear hm hmn hmv hiv hok hin
  go_enter Tryz.func9, Tryz.ntmps9
  go_upto_region 1 with (fail)
  clear hwi
  go_wp2_with (fail)
  with_reducible refine (HM.out _ Hbi.out).mono ?_
  rintro e w1 ⟨rfl, hb1⟩
  have hw1 := Hbi.out.trans (hb1.mono Hbi.out.size)
  have hx1 := Hxi.out.below hb1 hgi
  have d2 := hx1.cell 0
  have d3 := hx1.cell 1
  have Hb1 := Lib.hid hb1
  have Hw1 := Lib.hid hw1
  have Hx1 := Lib.hid hx1
  clear hb1 hw1 hx1
  clear d0 d1
  go_wp2_with (fail)
  with_reducible refine (HO.out _ Hw1.out).mono ?_
  rintro e w2 ⟨hb2, la, lc, oa, oc, rfl, hf2⟩
  have hw2 := Hw1.out.trans (hb2.mono Hw1.out.size)
  have hw2' := hw2.alloc hw2.size (.cells #[.int .i64 6, .bool false, .int .i64 0, .string ⟨#[]⟩, .slice la 0 lc, .slice oa 2 oc] 45)
  have hf2' := (hf2.later (alloc_below w2 (.cells #[.int .i64 6, .bool false, .int .i64 0, .string ⟨#[]⟩, .slice la 0 lc, .slice oa 2 oc] 45))).now
  have Hb2 := Lib.hid hb2
  have Hw2 := Lib.hid hw2
  have Hw2' := Lib.hid hw2'
  have Hf2 := Lib.hid hf2
  have Hf2' := Lib.hid hf2'
  clear hb2 hw2 hw2' hf2 hf2'
  clear d2 d3
  go_wp2_with (fail)
  with_reducible refine (HT2.out _ Hw2'.out _ (holdsV_of _ _ Hf2'.out)).mono ?_
  rintro e w3 ⟨rfl, hb3⟩
  have hw3 := Hw2'.out.trans (hb3.mono Hw2'.out.size)
  have Hb3 := Lib.hid hb3
  have Hw3 := Lib.hid hw3
  clear hb3 hw3
  go_wp2_with (first
    | (refine wpList_to_bytes rfl 9 31 5 (.tmp 29) rfl Tryz.underlying9 Tryz.underlying31 Tryz.underlying5 S rfl ?_; intro cap w4 hb4 hf4)
    | (go_at_call 19; (with_reducible refine (HFr.out _ _ _ _ hf4.now).mono ?_); rintro e w5 ⟨a2, c2, rfl, hf5, hb5⟩))
  go_ret2
  have hw4 := Hw3.out.trans (hb4.mono Hw3.out.size)
  have hw5 := hw4.trans (hb5.mono hw4.size)
  exact ⟨a2, c2, rfl, hf5.keep hw4.size (Nat.le_refl _) (fun _ _ _ => rfl), hw5⟩
end Go.Proofs.YtkoliaodkojghaaGreatDoor
