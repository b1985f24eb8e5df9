/- Parts, joined: The reference's word why a push may not be. Condition: a bulk of at most 10^8. push.Encode of a push that may not be; push.Decode of what is no frame of a push. Condition: a bulk of at most 10^7; at most 10^9 bytes. -/
import Derived.Test.YtemceefalkfneaaGreatDoorProg
import Derived.Test.YtemceefalkfneaaGreatDoorKCm17
import Derived.Test.YtemceefalkfneaaGreatDoorKCm19
import Derived.Test.YtemceefalkfneaaGreatDoorKCm27
import Derived.Test.YtemceefalkfneaaGreatDoorKPushSpoilt20
/- The reference's word why a push may not be. Condition: a bulk of at most 10^8. -/
namespace Go.Proofs.YtemceefalkfneaaGreatDoor
open Go.RowKit

set_option maxRecDepth 100000 in
set_option maxHeartbeats 8000000 in
theorem rpushMay_calls (c : Int) (l : List Num) (a : Option Addr) (n cc : Nat) (w : World) (hc : 0 ≤ c) (hT : Tabs w) (h : Holds w w.heap.size (.row 20 (dNs l)) [.slice a n cc]) (hb : bulkN l ≤ 100000000) (hin : inN l) :
    Calls Tryz.prog 13 #[.agg #[.int .u64 c, .slice a n cc]] w fun e w' => e = .returned (.int .i64 (mayPush c l)) ∧ Below w.heap.size w w' := by
  have hn := h.row_len
  rw [dNs_len] at hn
  subst hn
  have hlq := bulkN_len l
  have hE : mayPush c l = mayPush c l := rfl
  conv at hE => rhs; unfold mayPush
  generalize mayPush c l = X at hE ⊢
  by_cases h0 : c = 0
  · subst h0
    rw [if_pos (by omega)] at hE
    have HE := Lib.hid hE
    clear hE
    clear h hT
    go_enter Tryz.func13, Tryz.ntmps13
    go_wp2
    go_ret
    exact ⟨by rw [HE.out]; rfl, alloc_below _ _⟩
  have t0 : (c == 0) = false := by simpa using h0
  by_cases h1 : 4611686018427387903 < c
  · rw [if_pos (by omega)] at hE
    have HE := Lib.hid hE
    clear hE
    clear h hT h0
    go_enter Tryz.func13, Tryz.ntmps13
    go_wp2
    go_ret
    exact ⟨by rw [HE.out]; rfl, alloc_below _ _⟩
  rw [if_neg (by omega)] at hE
  have t1 : c ≤ 4611686018427387903 := by omega
  by_cases h2 : 64 < l.length
  · rw [if_pos h2] at hE
    have t2 : (64 : Int) < (l.length : Int) := by omega
    have HE := Lib.hid hE
    clear hE
    clear h hT h0 h1
    go_enter Tryz.func13, Tryz.ntmps13
    go_wp2
    go_ret
    exact ⟨by rw [HE.out]; rfl, alloc_below _ _⟩
  rw [if_neg h2] at hE
  have t2 : (l.length : Int) ≤ 64 := by omega
  obtain ⟨wi, hwi⟩ : ∃ wi, w.alloc (.cells #[.int .u64 c, .slice a l.length cc] 40) = wi := ⟨_, rfl⟩
  have hbi : Below w.heap.size w wi := hwi ▸ alloc_below _ _
  have hxb : Blk wi w.heap.size 40 #[.int .u64 c, .slice a l.length cc] := hwi ▸ Blk.new _ _ _
  have hI0 : Hid (Below wi.heap.size wi wi) := Lib.hid (Below.refl _ _)
  have hX0 : Hid (mayNs (l.drop 0) = X) := Lib.hid (by rw [List.drop_zero]; exact hE.symm)
  have y0 := hxb.cell 0
  have y1 := hxb.cell 1
  have hgb := hxb.lt
  have H := Lib.hid h
  have HT := Lib.hid hT
  have Hin := Lib.hid hin
  have Hbi := Lib.hid hbi
  have Hxb := Lib.hid hxb
  clear h hT hin hbi hxb
  clear hE h0 h1
  go_enter Tryz.func13, Tryz.ntmps13
  go_wp2_with (fail)
  clear hwi
  go_loopw [3] (fun i wr => ∃ q : Nat, i = .int .i64 q ∧ q ≤ l.length ∧ Hid (mayNs (l.drop q) = X) ∧ Hid (Below wi.heap.size wi wr)) (fun i _ => l.length - (intOf i).toNat)
  case atStart => exact ⟨0, rfl, Nat.zero_le _, hX0, hI0⟩
  case round =>
    obtain ⟨q, rfl, hq, hX, hbr⟩ := hrel
    clear hX0 hI0 y0 y1
    have hbw := Hbi.out.trans (hbr.out.mono Hbi.out.size)
    have y1 := (Hxb.out.below hbr.out Hxb.out.lt).cell 1
    have hgr0 := Nat.lt_of_lt_of_le Hxb.out.lt hbr.out.size
    by_cases hlt : q < l.length
    · obtain ⟨p, hp⟩ : ∃ p, l[q]? = some p := ⟨_, List.getElem?_eq_getElem hlt⟩
      have hmem := List.mem_of_getElem? hp
      have hbm := bulkN_mem hmem
      obtain ⟨hid0, hin'⟩ := Hin.out p hmem
      have hXd := hX.out
      rw [mayNs_drop hp] at hXd
      obtain ⟨id, k', key', dst', n', had', ⟨k1', b1', n1', t1', l1', o1'⟩, has', ⟨k2', b2', n2', t2', l2', o2'⟩, l'⟩ := p
      have hz := hbw.size
      obtain ⟨g, off, rfl, hg, cs', hcs, _, hc0, hcell⟩ := num_at (H.out.below hbw) hp
      obtain ⟨la1', lc1', oa1', oc1', la2', lc2', oa2', oc2', a', c', rfl, _, _, _⟩ := mut_cells hcs
      simp only at hXd hbm hin' hc0 hid0
      have hrange : wr.rangeAt g (off + q * 20 + 1) [.int .i64 k', .string key', .string dst', .int .i64 n', .bool had', .int .i64 k1', .bool b1', .int .i64 n1', .string t1', .slice la1' l1'.length lc1', .slice oa1' o1'.length oc1', .bool has', .int .i64 k2', .bool b2', .int .i64 n2', .string t2', .slice la2' l2'.length lc2', .slice oa2' o2'.length oc2', .slice a' l'.length c'] := hcell
      have hgr : g < wr.heap.size := by omega
      have hq1 : (q : Int) < (l.length : Int) := by omega
      have hq0 : (0 : Int) ≤ q := by omega
      have hM : Calls Tryz.prog 38 #[.agg #[.int .i64 k', .string key', .string dst', .int .i64 n', .bool had', .int .i64 k1', .bool b1', .int .i64 n1', .string t1', .slice la1' l1'.length lc1', .slice oa1' o1'.length oc1', .bool has', .int .i64 k2', .bool b2', .int .i64 n2', .string t2', .slice la2' l2'.length lc2', .slice oa2' o2'.length oc2', .slice a' l'.length c']] wr fun e w' => e = .returned (.int .i64 (mutMay (Mut.mk k' key' dst' n' had' (.mk k1' b1' n1' t1' l1' o1') has' (.mk k2' b2' n2' t2' l2' o2') l'))) ∧ Below wr.heap.size wr w' := rmutMay_calls _ _ wr (HT.out.below hbw) (hcs.more hz) (by omega) hin'
      generalize mutMay (Mut.mk k' key' dst' n' had' (.mk k1' b1' n1' t1' l1' o1') has' (.mk k2' b2' n2' t2' l2' o2') l') = Y at hM hXd
      by_cases i0 : id = 0
      · subst i0
        rw [if_pos (by omega)] at hXd
        have HXd := Lib.hid hXd
        have Hbw := Lib.hid hbw
        clear hXd hbw
        clear hcs hcell hmem hbm hp hX hin' hM
        go_wp2
        go_ret
        exact ⟨by rw [← HXd.out]; rfl, Hbw.out⟩
      have ti0 : (id == 0) = false := by simpa using i0
      by_cases i1 : 4611686018427387903 < id
      · rw [if_pos (by omega)] at hXd
        have HXd := Lib.hid hXd
        have Hbw := Lib.hid hbw
        clear hXd hbw
        clear hcs hcell hmem hbm hp hX hin' hM i0
        go_wp2
        go_ret
        exact ⟨by rw [← HXd.out]; rfl, Hbw.out⟩
      rw [if_neg (by omega)] at hXd
      have ti1 : id ≤ 4611686018427387903 := by omega
      have HM := Lib.hid hM
      have Hbw := Lib.hid hbw
      clear hM hbw
      clear hcs hcell hmem hbm hp hX hin' i0 i1
      go_upto_region 10 with (fail)
      iterate 17 go_step
      refine wp_load_mid 85 (.tmp 44) rfl g (off + q * 20 + 1) rfl [.int .i64 k', .string key', .string dst', .int .i64 n', .bool had', .int .i64 k1', .bool b1', .int .i64 n1', .string t1', .slice la1' l1'.length lc1', .slice oa1' o1'.length oc1', .bool has', .int .i64 k2', .bool b2', .int .i64 n2', .string t2', .slice la2' l2'.length lc2', .slice oa2' o2'.length oc2', .slice a' l'.length c'] _ hrange Tryz.underlying85 rfl (by kernel_rfl) ?_
      go_wp2_with (fail)
      with_reducible refine (HM.out).mono ?_
      rintro e w3 ⟨rfl, hb3⟩
      have hbf := hbr.out.trans (hb3.mono hbr.out.size)
      by_cases hY : Y = 0
      · subst hY
        rw [if_pos rfl] at hXd
        have HXd := Lib.hid hXd
        have Hbf := Lib.hid hbf
        clear hXd hbf
        clear hb3
        go_wp2
        go_roundw
        case rel => exact ⟨q + 1, by go_num, by omega, HXd, Hbf⟩
        case measure => simp only [intOf]; omega
      · rw [if_neg hY] at hXd
        have tY : (Y != 0) = true := by simpa using hY
        have HXd := Lib.hid hXd
        have Hbf := Lib.hid hbf
        clear hXd hbf
        clear hb3
        go_wp2
        go_ret
        exact ⟨by rw [← HXd.out]; rfl, Hbi.out.trans (Hbf.out.mono Hbi.out.size)⟩
    · obtain rfl : q = l.length := by omega
      have hE := hX.out
      rw [List.drop_length] at hE
      have hE' : X = 0 := hE.symm
      subst hE'
      have Hbw := Lib.hid hbw
      clear hbw
      clear hX hE
      go_wp2
      go_ret
      exact ⟨rfl, Hbw.out⟩
end Go.Proofs.YtemceefalkfneaaGreatDoor

/- push.Encode of a push that may not be; push.Decode of what is no frame of a push. Condition: a bulk of at most 10^7; at most 10^9 bytes. -/
namespace Go.Proofs.YtemceefalkfneaaGreatDoor
open Go Go.RowKit

set_option maxRecDepth 100000 in
set_option maxHeartbeats 2000000 in
theorem pencode_no (c : Int) (l : List Num) (a : Option Addr) (n cc : Nat) (w : World) (hc0 : 0 ≤ c) (hT : Tabs w) (h : Holds w w.heap.size (.row 20 (dNs l)) [.slice a n cc]) (hb : bulkN l ≤ 2000000) (hin : inN l) (hm : mayPush c l ≠ 0) :
    Calls Tryz.prog 12 #[.agg #[.int .u64 c, .slice a n cc]] w fun e w' => e = .returned (.tuple #[.slice none 0 0, .int .i64 (mayPush c l)]) ∧ Below w.heap.size w w' := by
  have hM := fun (W : World) (hB : Below w.heap.size w W) => pushMay_calls c l a n cc W hc0 (hT.below hB) ((h.below hB).more hB.size) (by omega) hin
  generalize mayPush c l = X at hm hM ⊢
  have tX : (X != 0) = true := by simpa using hm
  obtain ⟨wi, hwi⟩ : ∃ wi, w.alloc (.cells #[.int .u64 c, .slice a n cc] 40) = wi := ⟨_, rfl⟩
  have hbi : Below w.heap.size w wi := hwi ▸ alloc_below _ _
  have hxi : Blk wi w.heap.size 40 #[.int .u64 c, .slice a n cc] := hwi ▸ Blk.new _ _ _
  have d0 := hxi.cell 0
  have d1 := hxi.cell 1
  have hgi := hxi.lt
  have HT := Lib.hid hT
  have H := Lib.hid h
  have HM := Lib.hid hM
  have Hbi := Lib.hid hbi
  have Hxi := Lib.hid hxi
  clear hT h hM hbi hxi
  clear hm
  go_enter Tryz.func12, Tryz.ntmps12
  go_upto_region 1 with (fail)
  clear hwi
  go_wp2_with (fail)
  with_reducible refine (HM.out _ Hbi.out).mono ?_
  rintro e w1 ⟨rfl, hb1⟩
  have hw1 := Hbi.out.trans (hb1.mono Hbi.out.size)
  go_wp2
  go_ret2
  exact ⟨rfl, hw1⟩

theorem results_push_t {fn : Func} {t u : Tmp} {tmps : Array Value} {W : World} {R : Nat} {a0 a1 : Value} (h : fn.results = #[.cell t 40, .tmp u]) (hp : tmps.getD t undef = .pointer (some ⟨R, 0, none⟩)) (hx : Blk W R 40 #[a0, a1]) :
    (results fn tmps).run Tryz.prog W = .ok (.tuple #[.agg #[a0, a1], tmps.getD u undef]) W := by
  have c0 := hx.cell 0
  have c1 := hx.cell 1
  clear hx
  have hp' : tmps[t]?.getD undef = .pointer (some ⟨R, 0, none⟩) := by simpa using hp
  simp [results, h, hp', go_sem, c0, c1]

set_option maxRecDepth 100000 in
set_option maxHeartbeats 2000000 in
theorem popen_no (l : List UInt8) (x : Int) (hE : bodyE 1 l = x) (hx : x ≠ 0) (a : Option Addr) (n c : Nat) (w : World) (h : Holds w w.heap.size (.row 1 (dB l)) [.slice a n c]) (hc : n ≤ c) (hl : l.length ≤ 1000000000) :
    Calls Tryz.prog 40 #[.slice a n c] w fun e w' => e = .returned (.tuple #[.agg #[.int .i64 0, .bool false, .int .i64 0, .string ⟨#[]⟩, .slice none 0 0, .slice none 0 0], .int .i64 x]) ∧ Below w.heap.size w w' := by
  obtain ⟨w0, hw0⟩ : ∃ w0, w.alloc (.cells #[.int .i64 0, .bool false, .int .i64 0, .string ⟨#[]⟩, .slice none 0 0, .slice none 0 0] 52) = w0 := ⟨_, rfl⟩
  have hb0 : Below w.heap.size w w0 := hw0 ▸ alloc_below _ _
  have hR : Blk w0 w.heap.size 52 #[.int .i64 0, .bool false, .int .i64 0, .string ⟨#[]⟩, .slice none 0 0, .slice none 0 0] := hw0 ▸ Blk.new w _ _
  have hB : Calls Tryz.prog 51 #[.int .u8 1, .slice a n c] w0 (BodyPost 1 l w0) := body_calls 1 l a n c w0 ((h.below hb0).more hb0.size) hc hl
  have tX : (x != 0) = true := by simpa using hx
  have HB := Lib.hid hB
  have Hb0 := Lib.hid hb0
  have HR := Lib.hid hR
  have H := Lib.hid h
  have HE := Lib.hid hE
  clear hB hb0 hR h hE
  go_enter Tryz.func40, Tryz.ntmps40
  go_upto_region 1 with (fail)
  clear hw0
  go_wp2_with (fail)
  with_reducible refine (HB.out).mono ?_
  rintro e w1 ⟨hb1, hr⟩
  rw [HE.out, if_neg hx] at hr
  obtain rfl := hr
  have hw1 := Hb0.out.trans (hb1.mono Hb0.out.size)
  have hR1 := HR.out.below hb1 HR.out.lt
  obtain ⟨r0, r1, r2, r3, r4, r5⟩ := vcell hR1
  have fz := hR1.frozen
  have lt1 := hR1.lt
  have Hb1 := Lib.hid hb1
  have Hw1 := Lib.hid hw1
  have HR1 := Lib.hid hR1
  clear hb1 hw1 hR1
  go_upto_region 3 with (fail)
  repeat go_step
  have hxf := (((((HR1.out.set_ 0 (.int .i64 0)).set_ 1 (.bool false)).set_ 2 (.int .i64 0)).set_ 3 (.string ⟨#[]⟩)).set_ 4 (.slice none 0 0)).set_ 5 (.slice none 0 0)
  have hbf := setMany_below [.int .i64 0, .bool false, .int .i64 0, .string ⟨#[]⟩, .slice none 0 0, .slice none 0 0] Hw1.out (Nat.le_refl w.heap.size) (o := 0)
  exact bodyPost_ret (results_cell6_t rfl rfl hxf) rfl ⟨rfl, hbf⟩

set_option maxRecDepth 100000 in
set_option maxHeartbeats 2000000 in
theorem pdecode_no (l : List UInt8) (x : Int) (hE : bodyE 1 l = x) (hx : x ≠ 0) (a : Option Addr) (n c : Nat) (w : World) (h : Holds w w.heap.size (.row 1 (dB l)) [.slice a n c]) (hc : n ≤ c) (hl : l.length ≤ 1000000000) :
    Calls Tryz.prog 15 #[.slice a n c] w fun e w' => e = .returned (.tuple #[.agg #[.int .u64 0, .slice none 0 0], .int .i64 x]) ∧ Below w.heap.size w w' := by
  obtain ⟨w0, hw0⟩ : ∃ w0, w.alloc (.cells #[.int .u64 0, .slice none 0 0] 40) = w0 := ⟨_, rfl⟩
  have hb0 : Below w.heap.size w w0 := hw0 ▸ alloc_below _ _
  have hR : Blk w0 w.heap.size 40 #[.int .u64 0, .slice none 0 0] := hw0 ▸ Blk.new w _ _
  have hB := popen_no l x hE hx a n c w0 ((h.below hb0).more hb0.size) hc hl
  have tX : (x != 0) = true := by simpa using hx
  have HB := Lib.hid hB
  have Hb0 := Lib.hid hb0
  have HR := Lib.hid hR
  have H := Lib.hid h
  have HE := Lib.hid hE
  clear hB hb0 hR h hE
  go_enter Tryz.func15, Tryz.ntmps15
  go_upto_region 1 with (fail)
  clear hw0
  go_wp2_with (fail)
  with_reducible refine (HB.out).mono ?_
  rintro e w1 ⟨rfl, hb1⟩
  have hw1 := Hb0.out.trans (hb1.mono Hb0.out.size)
  have hR1 := HR.out.below hb1 HR.out.lt
  have hA : Below w.heap.size w (w1.alloc (.cells #[.int .i64 0, .bool false, .int .i64 0, .string ⟨#[]⟩, .slice none 0 0, .slice none 0 0] 52)) := hw1.alloc hw1.size _
  have hR2 : Blk (w1.alloc (.cells #[.int .i64 0, .bool false, .int .i64 0, .string ⟨#[]⟩, .slice none 0 0, .slice none 0 0] 52)) w.heap.size 40 #[.int .u64 0, .slice none 0 0] := hR1.alloc _
  have r0 := hR2.cell 0
  have r1 := hR2.cell 1
  have fz := hR2.frozen
  have lt1 := hR2.lt
  have Hb1 := Lib.hid hb1
  have Hw1 := Lib.hid hw1
  have HR1 := Lib.hid hR1
  have HA := Lib.hid hA
  have HR2 := Lib.hid hR2
  clear hb1 hw1 hR1 hA hR2
  go_upto_region 3 with (fail)
  repeat go_step
  have hxf := (HR2.out.set_ 0 (.int .u64 0)).set_ 1 (.slice none 0 0)
  have hbf := setMany_below [.int .u64 0, .slice none 0 0] HA.out (Nat.le_refl w.heap.size) (o := 0)
  exact bodyPost_ret (results_push_t rfl rfl hxf) rfl ⟨rfl, hbf⟩
end Go.Proofs.YtemceefalkfneaaGreatDoor
