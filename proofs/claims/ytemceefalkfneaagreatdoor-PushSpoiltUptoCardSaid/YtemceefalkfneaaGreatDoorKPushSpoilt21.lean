/- Parts, joined: mutator.write for every mutator that may be. Condition: a bulk of at most 8 * 10^6. mutator.Object: a mutator's object, or why it has none. Condition: a bulk of at most 8 * 10^6, numbers of 64 bits. -/
import Derived.Test.YtemceefalkfneaaGreatDoorProg
import Derived.Deep.RegionHeld3
import Derived.Test.YtemceefalkfneaaGreatDoorKPushSpoilt17
import Derived.Test.YtemceefalkfneaaGreatDoorKPushSpoilt20
/- mutator.write for every mutator that may be. Condition: a bulk of at most 8 * 10^6. -/
namespace Go.Proofs.YtemceefalkfneaaGreatDoor
open Go Go.RowKit

set_option maxRecDepth 100000 in
set_option maxHeartbeats 4000000 in
theorem shapes8_calls (m : Mut) (y0 y1 y2 y3 y4 y5 y6 y7 y8 y9 y10 y11 y12 y13 y14 y15 y16 y17 y18 : Value) (A g : Nat) (w : World) (hA : w.cell? ⟨A, 0, none⟩ = some (.map (some g))) (hlt : A < w.heap.size)
    (hC : ∀ W', Below w.heap.size w W' → Calls Tryz.prog 96 #[.map (some g), .agg #[y0, y1, y2, y3, y4, y5, y6, y7, y8, y9, y10, y11, y12, y13, y14, y15, y16, y17, y18]] W' (WritePost m W')) :
    Calls Tryz.prog 162 #[.agg #[y0, y1, y2, y3, y4, y5, y6, y7, y8, y9, y10, y11, y12, y13, y14, y15, y16, y17, y18], .pointer (some ⟨A, 0, none⟩)] w (WritePost m w) := by
  have h0 : Below w.heap.size w ((w.alloc (.cells #[y0, y1, y2, y3, y4, y5, y6, y7, y8, y9, y10, y11, y12, y13, y14, y15, y16, y17, y18] 85)).alloc (.cells zero6 52)) := ((Below.refl _ _).alloc (Nat.le_refl _) _).alloc (by simp) _
  have hx0 : Blk ((w.alloc (.cells #[y0, y1, y2, y3, y4, y5, y6, y7, y8, y9, y10, y11, y12, y13, y14, y15, y16, y17, y18] 85)).alloc (.cells zero6 52)) w.heap.size 85 #[y0, y1, y2, y3, y4, y5, y6, y7, y8, y9, y10, y11, y12, y13, y14, y15, y16, y17, y18] := (Blk.new _ _ _).alloc _
  have hr0 : Blk ((w.alloc (.cells #[y0, y1, y2, y3, y4, y5, y6, y7, y8, y9, y10, y11, y12, y13, y14, y15, y16, y17, y18] 85)).alloc (.cells zero6 52)) (w.heap.size + 1) 52 zero6 := by
    have := Blk.new (w.alloc (.cells #[y0, y1, y2, y3, y4, y5, y6, y7, y8, y9, y10, y11, y12, y13, y14, y15, y16, y17, y18] 85)) 52 zero6
    rwa [World.size_alloc] at this
  have hz2 : w.heap.size + 2 ≤ ((w.alloc (.cells #[y0, y1, y2, y3, y4, y5, y6, y7, y8, y9, y10, y11, y12, y13, y14, y15, y16, y17, y18] 85)).alloc (.cells zero6 52)).heap.size := by simp
  have hA0 := (h0.cell (p := ⟨A, 0, none⟩) hlt).trans hA
  have H0 := Lib.hid h0
  have Hx0 := Lib.hid hx0
  have Hr0 := Lib.hid hr0
  have HC := Lib.hid hC
  have Hz2 := Lib.hid hz2
  clear h0 hx0 hr0 hC hz2
  go_enter Tryz.func162, Tryz.ntmps162
  go_upto_region 1 with (fail)
  iterate 5 go_step
  refine wp_load_blk 85 (.tmp 2) rfl w.heap.size _ Hx0.out rfl _ Tryz.underlying85 rfl (by kernel_rfl) ?_
  go_wp2_with (fail)
  with_reducible refine (HC.out _ H0.out).mono ?_
  rintro e w6 ⟨hb6, oa5, oc5, rfl, hf6⟩
  have hw6 := H0.out.trans (hb6.mono H0.out.size)
  have hr6 := Hr0.out.below hb6 Hr0.out.lt
  obtain ⟨c0, c1, c2, c3, c4, c5⟩ := vcell hr6
  have fz := hr6.frozen
  have hlt6 := hr6.lt
  have Hb6 := Lib.hid hb6
  have Hw6 := Lib.hid hw6
  have Hr6 := Lib.hid hr6
  have Hf6 := Lib.hid hf6
  clear hb6 hw6 hr6 hf6
  clear hA0 hA
  dsimp only
  repeat go_step
  have hxf := ((((((Hr6.out.set_ 0 (.int .i64 6)).set_ 1 (.bool false)).set_ 2 (.int .i64 0)).set_ 3 (.string ⟨#[]⟩)).set_ 4 (.slice none 0 0)).set_ 5 (.slice oa5 2 oc5))
  have hbf := setMany_below [.int .i64 6, .bool false, .int .i64 0, .string ⟨#[]⟩, .slice none 0 0, .slice oa5 2 oc5] Hw6.out (Nat.le_succ w.heap.size) (o := 0)
  have hff : Fresh w.heap.size (setMany w6 (w.heap.size + 1) 0 [.int .i64 6, .bool false, .int .i64 0, .string ⟨#[]⟩, .slice none 0 0, .slice oa5 2 oc5]) (dV (mutV m)) [.int .i64 6, .bool false, .int .i64 0, .string ⟨#[]⟩, .slice none 0 0, .slice oa5 2 oc5] :=
    Hf6.out.keep (b' := w.heap.size) (Nat.le_trans (by omega) Hz2.out) (by rw [setMany_size]; exact Nat.le_refl _) (fun p p1 _ => World.cell?_of_block (setMany_far _ _ _ _ _ (by have := Hz2.out; omega)))
  exact bodyPost_ret (results_cell6 rfl rfl hxf) rfl ⟨hbf, oa5, oc5, rfl, hff⟩

theorem wpost_write {m : Mut} {O : List (ByteArray × Val)} {nm : ByteArray} (e : mutV m = ov [(kArgs, ov O), (kName, tv nm)]) : WPost O nm = WritePost m := by
  unfold WPost WritePost
  rw [e]
def WriteC (m : Mut) : Prop := ∀ (cs : List Value) (d : Int) (g A R W : Nat) (F : Nat → Nat) (w : World), Shp w g A R W F → MNames w → Holds w w.heap.size (dM m) cs → bulkM m ≤ 8000000 → mayM m d = 0 →
  Calls Tryz.prog 96 #[.map (some g), .agg cs.toArray] w (WritePost m w)
theorem write_calls : ∀ m, WriteC m := by
  refine Mut.ind ?_
  intro k key dst n had was has v l IH cs d g A R W F w hS hN hM hb hm
  obtain ⟨k1, b1, n1, t1, l1, o1⟩ := was
  obtain ⟨k2, b2, n2, t2, l2, o2⟩ := v
  obtain ⟨la1, lc1, oa1, oc1, la2, lc2, oa2, oc2, a, c, rfl, hv1, hv2, hl⟩ := mut_cells hM
  have hls := bulkMs_len l
  simp only [bulkM] at hb
  obtain ⟨h1, _, _, _, _, h6⟩ := mayM_parts hm
  obtain ⟨k1', k7'⟩ := bare_kind h1
  have hkk : k = 1 ∨ k = 2 ∨ k = 3 ∨ k = 4 ∨ k = 5 ∨ k = 6 ∨ k = 7 := by omega
  have hv1' : ∀ W', Below w.heap.size w W' → HoldsV W' W'.heap.size (.mk k1 b1 n1 t1 l1 o1) [.int .i64 k1, .bool b1, .int .i64 n1, .string t1, .slice la1 l1.length lc1, .slice oa1 o1.length oc1] := fun W' hW => HoldsV.more hW.size _ _ (hv1.below hW)
  have hv2' : ∀ W', Below w.heap.size w W' → HoldsV W' W'.heap.size (.mk k2 b2 n2 t2 l2 o2) [.int .i64 k2, .bool b2, .int .i64 n2, .string t2, .slice la2 l2.length lc2, .slice oa2 o2.length oc2] := fun W' hW => HoldsV.more hW.size _ _ (hv2.below hW)
  rcases hkk with rfl | rfl | rfl | rfl | rfl | rfl | rfl
  · rw [← wpost_write (O := [(kKey, tv key), (kVal, .mk k2 b2 n2 t2 l2 o2)]) (nm := nPut) (by simp [mutV, nameM])]
    exact write_1 _ _ _ _ _ _ _ _ _ _ _ _ _ _ _ _ _ _ _ g A R W F w hS hN (by simp) fun W' hW => wval_calls _ key _ _ _ _ _ _ _ _ _ _ k2 b2 n2 t2 l2 o2 la2 oa2 lc2 oc2 _ W' (hv2' W' hW) (by omega)
  · rw [← wpost_write (O := [(kKey, tv key)]) (nm := nDel) (by simp [mutV, nameM])]
    exact write_2 _ _ _ _ _ _ _ _ _ _ _ _ _ _ _ _ _ _ _ g A R W F w hS hN (by simp) fun W' _ => wdel_calls _ key _ _ _ _ _ _ _ _ _ _ _ _ _ _ _ _ _ W'
  · rw [← wpost_write (O := [(kBy, iv n), (kKey, tv key)]) (nm := nInc) (by simp [mutV, nameM])]
    exact write_3 _ _ _ _ _ _ _ _ _ _ _ _ _ _ _ _ _ _ _ g A R W F w hS hN (by simp) fun W' _ => winc_calls _ key _ n _ _ _ _ _ _ _ _ _ _ _ _ _ _ _ W'
  · cases has with
    | false =>
      rw [← wpost_write (O := guardO key had (.mk k1 b1 n1 t1 l1 o1)) (nm := nCas) (by simp [mutV, nameM])]
      exact write_4 _ _ _ _ _ _ _ _ _ _ _ _ _ _ _ _ _ _ _ g A R W F w hS hN (by have := guard_len key had (.mk k1 b1 n1 t1 l1 o1); omega) fun W' hW => wcas_no _ key _ _ had k1 b1 n1 t1 l1 o1 la1 oa1 lc1 oc1 _ _ _ _ _ _ _ W' (hv1' W' hW) (by omega)
    | true =>
      rw [← wpost_write (O := (kIs, .mk k2 b2 n2 t2 l2 o2) :: guardO key had (.mk k1 b1 n1 t1 l1 o1)) (nm := nCas) (by simp [mutV, nameM])]
      exact write_4 _ _ _ _ _ _ _ _ _ _ _ _ _ _ _ _ _ _ _ g A R W F w hS hN (by have := guard_len key had (.mk k1 b1 n1 t1 l1 o1); simp; omega) fun W' hW => wcas_yes _ key _ _ had k1 b1 n1 t1 l1 o1 la1 oa1 lc1 oc1 k2 b2 n2 t2 l2 o2 la2 oa2 lc2 oc2 _ W' (hv1' W' hW) (by omega) (hv2' W' hW) (by omega)
  · rw [← wpost_write (O := [(kKey, tv key), (kVal, .mk k2 b2 n2 t2 l2 o2)]) (nm := nApp) (by simp [mutV, nameM])]
    exact write_5 _ _ _ _ _ _ _ _ _ _ _ _ _ _ _ _ _ _ _ g A R W F w hS hN (by simp) fun W' hW => wval_calls _ key _ _ _ _ _ _ _ _ _ _ k2 b2 n2 t2 l2 o2 la2 oa2 lc2 oc2 _ W' (hv2' W' hW) (by omega)
  · rw [← wpost_write (O := [(kFrom, tv key), (kTo, tv dst)]) (nm := nMove) (by simp [mutV, nameM])]
    exact write_6 _ _ _ _ _ _ _ _ _ _ _ _ _ _ _ _ _ _ _ g A R W F w hS hN (by simp) fun W' _ => wmove_calls _ key dst _ _ _ _ _ _ _ _ _ _ _ _ _ _ _ _ W'
  · rw [← wpost_write (O := (kDo, lv (mutVs l)) :: (if key.toList.isEmpty then [] else [(kIf, ov (guardO key had (.mk k1 b1 n1 t1 l1 o1)))])) (nm := nSeq) (by simp [mutV, nameM])]
    refine write_7 _ _ _ _ _ _ _ _ _ _ _ _ _ _ _ _ _ _ _ g A R W F w hS hN (by split <;> simp) fun W' hW => wseq_loop _ key _ _ had k1 b1 n1 t1 l1 o1 la1 oa1 lc1 oc1 _ _ _ _ _ _ _ l a c A W W' (hv1' W' hW) (by omega) ((hl.below hW).more hW.size) (by omega)
      (((hS.below hW).wr).cell 0) ((hS.below hW).wr.lt) fun x hx W2 cs2 hW2 hH2 => ?_
    have hbx := bulkMs_mem hx
    have hS2 := (hS.below hW).below hW2
    have hN2 := (hN.below hW).below hW2
    have hmx := mayMs_mem h6 x hx
    have hIH := IH x hx
    obtain ⟨k', key', dst', n', had', ⟨k1', b1', n1', t1', l1', o1'⟩, has', ⟨k2', b2', n2', t2', l2', o2'⟩, l'⟩ := x
    obtain ⟨la1', lc1', oa1', oc1', la2', lc2', oa2', oc2', a', c', rfl, _, _, _⟩ := mut_cells hH2
    exact shapes8_calls _ _ _ _ _ _ _ _ _ _ _ _ _ _ _ _ _ _ _ _ A g W2 (hS2.all_.cell 0) hS2.all_.lt fun W3 hW3 => hIH _ (d + 1) g A R W F W3 (hS2.below hW3) (hN2.below hW3) ((hH2.below hW3).more hW3.size) (by omega) hmx
end Go.Proofs.YtemceefalkfneaaGreatDoor

/- mutator.Object: a mutator's object, or why it has none. Condition: a bulk of at most 8 * 10^6, numbers of 64 bits. -/
namespace Go.Proofs.YtemceefalkfneaaGreatDoor
open Go Go.RowKit

/-- A mutator's object and no error, given back. -/
def MObjPost (m : Mut) (w : World) (e : Ending) (w' : World) : Prop := Below w.heap.size w w' ∧
  ∃ oa oc, e = .returned (.tuple #[.agg #[.int .i64 6, .bool false, .int .i64 0, .string ⟨#[]⟩, .slice none 0 0, .slice oa 2 oc], .int .i64 0]) ∧ Fresh w.heap.size w' (dV (mutV m)) [.int .i64 6, .bool false, .int .i64 0, .string ⟨#[]⟩, .slice none 0 0, .slice oa 2 oc]
theorem mutMay_zero {m : Mut} (h : mutMay m = 0) : mayM m 1 = 0 := by
  unfold mutMay at h
  split at h
  · cases h
  · exact h
set_option maxRecDepth 100000 in
set_option maxHeartbeats 4000000 in
theorem mutObject_calls (k : Int) (key dst : ByteArray) (n : Int) (had : Bool) (k1 : Int) (b1 : Bool) (n1 : Int) (t1 : ByteArray) (l1 : List Val) (o1 : List (ByteArray × Val)) (has : Bool) (k2 : Int) (b2 : Bool) (n2 : Int) (t2 : ByteArray) (l2 : List Val) (o2 : List (ByteArray × Val)) (l : List Mut) (cs : List Value) (w : World) (hT : Tabs w) (hN : MNames w) (hM : Holds w w.heap.size (dM (Mut.mk k key dst n had (.mk k1 b1 n1 t1 l1 o1) has (.mk k2 b2 n2 t2 l2 o2) l)) cs) (hb : bulkM (Mut.mk k key dst n had (.mk k1 b1 n1 t1 l1 o1) has (.mk k2 b2 n2 t2 l2 o2) l) ≤ 8000000) (hi : inM (Mut.mk k key dst n had (.mk k1 b1 n1 t1 l1 o1) has (.mk k2 b2 n2 t2 l2 o2) l)) (hm : mutMay (Mut.mk k key dst n had (.mk k1 b1 n1 t1 l1 o1) has (.mk k2 b2 n2 t2 l2 o2) l) = 0) :
    Calls Tryz.prog 58 #[.agg cs.toArray] w (MObjPost (Mut.mk k key dst n had (.mk k1 b1 n1 t1 l1 o1) has (.mk k2 b2 n2 t2 l2 o2) l) w) := by
  have hMay := fun W (hW : Below w.heap.size w W) => mutMay_calls _ cs W (hT.below hW) ((hM.below hW).more hW.size) (by omega) hi
  have hWr := fun W (hW : Below w.heap.size w W) g A R X F hS => write_calls (Mut.mk k key dst n had (.mk k1 b1 n1 t1 l1 o1) has (.mk k2 b2 n2 t2 l2 o2) l) cs 1 g A R X F W hS (hN.below hW) ((hM.below hW).more hW.size) hb (mutMay_zero hm)
  rw [hm] at hMay
  obtain ⟨la1, lc1, oa1, oc1, la2, lc2, oa2, oc2, a, c, rfl, _, _, _⟩ := mut_cells hM
  have h0 : Below w.heap.size w ((w.alloc (.cells #[.int .i64 k, .string key, .string dst, .int .i64 n, .bool had, .int .i64 k1, .bool b1, .int .i64 n1, .string t1, .slice la1 l1.length lc1, .slice oa1 o1.length oc1, .bool has, .int .i64 k2, .bool b2, .int .i64 n2, .string t2, .slice la2 l2.length lc2, .slice oa2 o2.length oc2, .slice a l.length c] 85)).alloc (.cells zero6 52)) := ((Below.refl _ _).alloc (Nat.le_refl _) _).alloc (by simp) _
  have hx0 : Blk ((w.alloc (.cells #[.int .i64 k, .string key, .string dst, .int .i64 n, .bool had, .int .i64 k1, .bool b1, .int .i64 n1, .string t1, .slice la1 l1.length lc1, .slice oa1 o1.length oc1, .bool has, .int .i64 k2, .bool b2, .int .i64 n2, .string t2, .slice la2 l2.length lc2, .slice oa2 o2.length oc2, .slice a l.length c] 85)).alloc (.cells zero6 52)) w.heap.size 85 #[.int .i64 k, .string key, .string dst, .int .i64 n, .bool had, .int .i64 k1, .bool b1, .int .i64 n1, .string t1, .slice la1 l1.length lc1, .slice oa1 o1.length oc1, .bool has, .int .i64 k2, .bool b2, .int .i64 n2, .string t2, .slice la2 l2.length lc2, .slice oa2 o2.length oc2, .slice a l.length c] := (Blk.new _ _ _).alloc _
  have hr0 : Blk ((w.alloc (.cells #[.int .i64 k, .string key, .string dst, .int .i64 n, .bool had, .int .i64 k1, .bool b1, .int .i64 n1, .string t1, .slice la1 l1.length lc1, .slice oa1 o1.length oc1, .bool has, .int .i64 k2, .bool b2, .int .i64 n2, .string t2, .slice la2 l2.length lc2, .slice oa2 o2.length oc2, .slice a l.length c] 85)).alloc (.cells zero6 52)) (w.heap.size + 1) 52 zero6 := by
    have := Blk.new (w.alloc (.cells #[.int .i64 k, .string key, .string dst, .int .i64 n, .bool had, .int .i64 k1, .bool b1, .int .i64 n1, .string t1, .slice la1 l1.length lc1, .slice oa1 o1.length oc1, .bool has, .int .i64 k2, .bool b2, .int .i64 n2, .string t2, .slice la2 l2.length lc2, .slice oa2 o2.length oc2, .slice a l.length c] 85)) 52 zero6
    rwa [World.size_alloc] at this
  have hz2 : w.heap.size + 2 ≤ ((w.alloc (.cells #[.int .i64 k, .string key, .string dst, .int .i64 n, .bool had, .int .i64 k1, .bool b1, .int .i64 n1, .string t1, .slice la1 l1.length lc1, .slice oa1 o1.length oc1, .bool has, .int .i64 k2, .bool b2, .int .i64 n2, .string t2, .slice la2 l2.length lc2, .slice oa2 o2.length oc2, .slice a l.length c] 85)).alloc (.cells zero6 52)).heap.size := by simp
  have H0 := Lib.hid h0
  have Hx0 := Lib.hid hx0
  have Hr0 := Lib.hid hr0
  have Hz2 := Lib.hid hz2
  have HMay := Lib.hid hMay
  have HWr := Lib.hid hWr
  clear h0 hx0 hr0 hz2 hMay hWr
  clear hM hT hN hb hi hm
  go_enter Tryz.func58, Tryz.ntmps58
  go_upto_region 1 with (fail)
  iterate 2 go_step
  refine wp_load_blk 85 (.tmp 1) rfl w.heap.size _ Hx0.out rfl _ Tryz.underlying85 rfl (by kernel_rfl) ?_
  go_wp2_with (fail)
  with_reducible refine (HMay.out _ H0.out).mono ?_
  rintro e w1 ⟨rfl, hb1⟩
  have hw1 := H0.out.trans (hb1.mono H0.out.size)
  have hx1 := Hx0.out.below hb1 Hx0.out.lt
  have hr1 := Hr0.out.below hb1 Hr0.out.lt
  have hz1 : w.heap.size + 2 ≤ w1.heap.size := Nat.le_trans Hz2.out hb1.size
  have Hb1 := Lib.hid hb1
  have Hw1 := Lib.hid hw1
  have Hx1 := Lib.hid hx1
  have Hr1 := Lib.hid hr1
  clear hb1 hw1 hx1 hr1
  go_upto_region 4 with (fail)
  refine wp_region_held_drew (S := fun X => X.rangeAt w.heap.size 0 [.int .i64 k, .string key, .string dst, .int .i64 n, .bool had, .int .i64 k1, .bool b1, .int .i64 n1, .string t1, .slice la1 l1.length lc1, .slice oa1 o1.length oc1, .bool has, .int .i64 k2, .bool b2, .int .i64 n2, .string t2, .slice la2 l2.length lc2, .slice oa2 o2.length oc2, .slice a l.length c]) (by kernel_rfl) (blk_range Hx1.out) (fun hHeld => ?_)
  refine wpAnyH_take (i := 1) rfl (by kernel_rfl) (by kernel_rfl) (by kernel_rfl) (fun _ _ _ h => h) (yieldsIf_load_mid (by kernel_rfl) 85 (.tmp 1) rfl w.heap.size 0 rfl [.int .i64 k, .string key, .string dst, .int .i64 n, .bool had, .int .i64 k1, .bool b1, .int .i64 n1, .string t1, .slice la1 l1.length lc1, .slice oa1 o1.length oc1, .bool has, .int .i64 k2, .bool b2, .int .i64 n2, .string t2, .slice la2 l2.length lc2, .slice oa2 o2.length oc2, .slice a l.length c] _ (fun X hX => hX) Tryz.underlying85 rfl (by kernel_rfl)) hHeld ?_
  try simp only [Act.put, List.setIfInBounds_toArray]
  refine wpAnyH_ready (rs := [0]) (by kernel_rfl) (by simp) ?_
  refine AllReadyH.cons rfl (fun K hK => ?_) AllReadyH.nil
  go_simp
  (with_reducible refine (shapes_calls _).mono ?_)
  rintro e w2 ⟨hb2, g, A, R, X, F, rfl, hS⟩
  have hb2' : Below w1.heap.size w1 w2 := (Below.drew (Below.refl _ _)).trans hb2
  have hw2 := Hw1.out.trans (hb2'.mono Hw1.out.size)
  have hx2 := Hx1.out.below hb2' Hx1.out.lt
  have hr2 := Hr1.out.below hb2' Hr1.out.lt
  refine hK.out _ _ (blk_range hx2) (fun hHeld => ?_)
  clear hK K
  try simp only [Act.put, List.setIfInBounds_toArray, List.set_cons_zero, List.set_cons_succ]
  refine wpAnyH_ready (rs := [2]) (by kernel_rfl) (by simp) ?_
  refine AllReadyH.cons rfl (fun K hK => ?_) AllReadyH.nil
  have hz22 : w.heap.size + 2 ≤ w2.heap.size := Nat.le_trans hz1 hb2'.size
  have HS := Lib.hid hS
  have Hw2 := Lib.hid hw2
  have Hx2 := Lib.hid hx2
  have Hr2 := Lib.hid hr2
  have Hb2 := Lib.hid hb2
  have Hb2' := Lib.hid hb2'
  clear hS hw2 hx2 hr2 hb2 hb2'
  go_simp
  (with_reducible refine (HWr.out _ Hw2.out g A R X F HS.out).mono ?_)
  rintro e w6 ⟨hb6, oa5, oc5, rfl, hf6⟩
  have hw6 := Hw2.out.trans (hb6.mono Hw2.out.size)
  have hx6 := Hx2.out.below hb6 Hx2.out.lt
  have hr6 := Hr2.out.below hb6 Hr2.out.lt
  refine hK.out _ _ (blk_range hx6) (fun hHeld => ?_)
  clear hK K
  try simp only [Act.put, List.setIfInBounds_toArray, List.set_cons_zero, List.set_cons_succ]
  refine wpAnyH_ready (rs := [3]) (by kernel_rfl) (by simp) ?_
  refine AllReadyH.cons rfl (fun K hK => ?_) AllReadyH.nil
  obtain ⟨c0, c1, c2, c3, c4, c5⟩ := vcell hr6
  have fz := hr6.frozen
  have hlt6 := hr6.lt
  have Hw6 := Lib.hid hw6
  have Hx6 := Lib.hid hx6
  have Hr6 := Lib.hid hr6
  have Hf6 := Lib.hid hf6
  have Hb6 := Lib.hid hb6
  clear hw6 hx6 hr6 hf6 hb6
  go_simp
  have hxs : Blk (setMany w6 (w.heap.size + 1) 0 [.int .i64 6, .bool false, .int .i64 0, .string ⟨#[]⟩, .slice none 0 0, .slice oa5 2 oc5]) w.heap.size 85 #[.int .i64 k, .string key, .string dst, .int .i64 n, .bool had, .int .i64 k1, .bool b1, .int .i64 n1, .string t1, .slice la1 l1.length lc1, .slice oa1 o1.length oc1, .bool has, .int .i64 k2, .bool b2, .int .i64 n2, .string t2, .slice la2 l2.length lc2, .slice oa2 o2.length oc2, .slice a l.length c] := (setMany_far _ _ _ _ _ (by omega)).trans Hx6.out
  refine hK.out _ _ (blk_range hxs) (fun hHeld => ?_)
  clear hK K
  try simp only [Act.put, List.setIfInBounds_toArray, List.set_cons_zero, List.set_cons_succ]
  refine wpAnyH_take (i := 4) (v := ?_) rfl (by kernel_rfl) (by kernel_rfl) (by kernel_rfl) (fun _ _ _ h => h) (Or.inl ⟨by kernel_rfl, ?_⟩) hHeld ?_
  rotate_left
  · intro X hSw
    first | (go_simp; done) | (go_simp; with_reducible rfl)
  try simp only [Act.put, List.setIfInBounds_toArray]
  refine wpAnyH_done (by kernel_rfl) ?_ _
  clear hHeld hxs c0 c1 c2 c3 c4 c5 fz
  repeat go_step
  have hxf := ((((((Hr6.out.set_ 0 (.int .i64 6)).set_ 1 (.bool false)).set_ 2 (.int .i64 0)).set_ 3 (.string ⟨#[]⟩)).set_ 4 (.slice none 0 0)).set_ 5 (.slice oa5 2 oc5))
  have hbf := setMany_below [.int .i64 6, .bool false, .int .i64 0, .string ⟨#[]⟩, .slice none 0 0, .slice oa5 2 oc5] Hw6.out (Nat.le_succ w.heap.size) (o := 0)
  have hff : Fresh w.heap.size (setMany w6 (w.heap.size + 1) 0 [.int .i64 6, .bool false, .int .i64 0, .string ⟨#[]⟩, .slice none 0 0, .slice oa5 2 oc5]) (dV (mutV (Mut.mk k key dst n had (.mk k1 b1 n1 t1 l1 o1) has (.mk k2 b2 n2 t2 l2 o2) l))) [.int .i64 6, .bool false, .int .i64 0, .string ⟨#[]⟩, .slice none 0 0, .slice oa5 2 oc5] :=
    Hf6.out.keep (b' := w.heap.size) (by omega) (by rw [setMany_size]; exact Nat.le_refl _) (fun p p1 _ => World.cell?_of_block (setMany_far _ _ _ _ _ (by omega)))
  exact bodyPost_ret (results_cell6_t rfl rfl hxf) rfl ⟨hbf, oa5, oc5, rfl, hff⟩
end Go.Proofs.YtemceefalkfneaaGreatDoor
