/- Parts, joined: The law ParseBack: it answers true. Condition: a value of bulk at most 1048576, and a text of at most so many bytes. -/
import Derived.Test.YtgjiienipeoajaaGreatDoorProg
import Derived.Test.YtgjiienipeoajaaGreatDoorKPrs18
import Derived.Test.YtgjiienipeoajaaGreatDoorKPrs34
import Derived.Test.YtgjiienipeoajaaGreatDoorKPrs44
/- The law ParseBack: it answers true. Condition: a value of bulk at most 1048576, and a text of at most so many bytes. -/
namespace Go.Proofs.YtgjiienipeoajaaGreatDoor
open Go Go.RowKit

/-- A variable that holds a value. -/
structure Bx (W : World) (g : Nat) (k : Int) (b : Bool) (n : Int) (t : ByteArray) (l : List Val) (o : List (ByteArray × Val)) (la : Option Addr) (lc : Nat) (oa : Option Addr) (oc : Nat) : Prop where
  blk : Blk W g 26 #[.int .i64 k, .bool b, .int .i64 n, .string t, .slice la l.length lc, .slice oa o.length oc]
  holds : HoldsV W W.heap.size (.mk k b n t l o) [.int .i64 k, .bool b, .int .i64 n, .string t, .slice la l.length lc, .slice oa o.length oc]
theorem Bx.later {W W' : World} {g : Nat} {k : Int} {b : Bool} {n : Int} {t : ByteArray} {l : List Val} {o : List (ByteArray × Val)} {la : Option Addr} {lc : Nat} {oa : Option Addr} {oc : Nat} (h : Bx W g k b n t l o la lc oa oc) (hb : Below W.heap.size W W') : Bx W' g k b n t l o la lc oa oc :=
  ⟨h.blk.below hb h.blk.lt, HoldsV.more hb.size _ _ (h.holds.below hb)⟩
theorem Bx.new {w : World} {k : Int} {b : Bool} {n : Int} {t : ByteArray} {l : List Val} {o : List (ByteArray × Val)} {la : Option Addr} {lc : Nat} {oa : Option Addr} {oc : Nat} (h : HoldsV w w.heap.size (.mk k b n t l o) [.int .i64 k, .bool b, .int .i64 n, .string t, .slice la l.length lc, .slice oa o.length oc]) :
    Bx (w.alloc (.cells #[.int .i64 k, .bool b, .int .i64 n, .string t, .slice la l.length lc, .slice oa o.length oc] 26)) w.heap.size k b n t l o la lc oa oc :=
  ⟨Blk.new _ _ _, HoldsV.more (by simp) _ _ (h.below (alloc_below w _))⟩
theorem textS_facts {v : Val} (hm : mayV v 1 = 0) (hi : inV v) (hb : v.bulk ≤ 10000000) : (textS v).size ≤ 60000000 ∧ parseL (textS v).data.toList = .ok v (textS v).size ∧ exactL (textS v).data.toList = .ok v (textS v).size := by
  have e : textS v = ⟨(textV v).toArray⟩ := by unfold textS; rw [if_pos hm]
  have hl := textV_len v (okV_of v 1 hm hi)
  have hp := parse_text hm hi
  have hsz : (⟨(textV v).toArray⟩ : ByteArray).size = (textV v).length := rfl
  rw [e, hsz]
  refine ⟨by omega, hp, ?_⟩
  unfold exactL
  show (match parseL (textV v) with | .bad c q => Rd.bad c q | .ok u q => if textV u = textV v then .ok u q else .bad 4 q) = _
  rw [hp]
  simp only [if_true]
set_option maxRecDepth 100000 in
set_option maxHeartbeats 16000000 in
theorem ParseBack_law (v : Val) (cs : List Value) (s : ByteArray) (w : World) (hT : Tabs w) (hN : NumT w) (hV : HoldsV w w.heap.size v cs) (hb : v.bulk ≤ 1048576) (hi : inV v) (hs : s.size ≤ 1048576) :
    Calls Tryz.prog 6 #[.agg cs.toArray, .string s] w fun e w' => e = .returned (.bool true) ∧ Below w.heap.size w w' := by
  obtain ⟨k, b, n, t, l, o⟩ := v
  have hV' := hV
  simp only [HoldsV] at hV'
  obtain ⟨la0, lc0, oa0, oc0, rfl, _, _⟩ := hV'
  have h0 := Bx.new hV
  have hb0 := alloc_below w (.cells #[.int .i64 k, .bool b, .int .i64 n, .string t, .slice la0 l.length lc0, .slice oa0 o.length oc0] 26)
  have hMay : ∀ (cs : List Value) (W : World), HoldsV W W.heap.size (.mk k b n t l o) cs → Calls Tryz.prog 14 #[.agg cs.toArray] W fun e w' => e = .returned (.int .i64 (mayV (.mk k b n t l o) 1)) ∧ Below W.heap.size W w' := fun cs W h => RMay_calls _ cs W h (by omega)
  have hK : ∀ W, Below w.heap.size w W → Calls Tryz.prog 13 #[] W fun e w' => e = .returned (.bool true) ∧ Below W.heap.size W w' := fun W hW => known4_calls W (hT.below hW) (hN.below hW)
  have hPs : ∀ W, Below w.heap.size w W → Calls Tryz.prog 10 #[.string s] W (RefOut W (parseL s.data.toList)) := fun W hW => parse_calls s W (hT.below hW) (hN.below hW) (by omega)
  have hE : ∀ (cs cs' : List Value) (W : World), HoldsV W W.heap.size (.mk k b n t l o) cs → HoldsV W W.heap.size (.mk k b n t l o) cs' → Calls Tryz.prog 12 #[.agg cs.toArray, .agg cs'.toArray] W fun e w' => e = .returned (.bool true) ∧ Below W.heap.size W w' := fun cs cs' W => equal_same _ (by omega) cs cs' W
  have hx : mayV (.mk k b n t l o) 1 = 0 → (∀ (cs : List Value) (W : World), Below w.heap.size w W → HoldsV W W.heap.size (.mk k b n t l o) cs → Calls Tryz.prog 21 #[.agg cs.toArray] W fun e w' => e = .returned (.tuple #[.string (textS (.mk k b n t l o)), .int .i64 0]) ∧ Below W.heap.size W w') ∧
      (∀ W, Below w.heap.size w W → Calls Tryz.prog 10 #[.string (textS (.mk k b n t l o))] W (RefOut W (.ok (.mk k b n t l o) (textS (.mk k b n t l o)).size))) ∧ (∀ W, Below w.heap.size w W → Calls Tryz.prog 19 #[.string (textS (.mk k b n t l o))] W (ExOut W (.ok (.mk k b n t l o) (textS (.mk k b n t l o)).size))) := fun hm => by
    obtain ⟨f1, f2, f3⟩ := textS_facts hm hi (by omega)
    refine ⟨fun cs W hW h => ?_, fun W hW => ?_, fun W hW => ?_⟩
    · have := Text_calls _ cs W (hT.below hW) h (by omega) hi
      rwa [hm] at this
    · have := parse_calls (textS (.mk k b n t l o)) W (hT.below hW) (hN.below hW) (by omega)
      rwa [f2] at this
    · have := exact_calls (textS (.mk k b n t l o)) W (hT.below hW) (hN.below hW) (by omega)
      rwa [f3] at this
  generalize mayV (.mk k b n t l o) 1 = m at hMay hx
  generalize textS (.mk k b n t l o) = T at hx
  clear hV hb hi
  have H0 := Lib.hid h0
  have Hb0 := Lib.hid hb0
  have HMay := Lib.hid hMay
  have HK := Lib.hid hK
  have HPs := Lib.hid hPs
  have HE := Lib.hid hE
  have Hx := Lib.hid hx
  clear h0 hb0 hMay hK hPs hE hx
  go_enter Tryz.func6, Tryz.ntmps6
  have hM1 := HMay.out _ _ H0.out.holds
  have HM1 := Lib.hid hM1
  clear hM1
  go_wp2_with (fail)
  generalize w.alloc (.cells #[.int .i64 k, .bool b, .int .i64 n, .string t, .slice la0 l.length lc0, .slice oa0 o.length oc0] 26) = W0 at H0 Hb0 HM1 ⊢
  generalize hg0 : w.heap.size = g0 at H0 ⊢
  with_reducible refine (HM1.out).mono ?_
  rintro e w1 ⟨rfl, hb1⟩
  have h1 := H0.out.later hb1
  have hB1 := Hb0.out.trans (hb1.mono Hb0.out.size)
  have H1 := Lib.hid h1
  have HB1 := Lib.hid hB1
  clear h1 hB1
  clear hb1 H0 Hb0 HM1
  go_upto_if 21 with (fail)
  go_cut [] (fun wx => Hid (Below w.heap.size w wx))
  case first =>
    by_cases hm : m = 0
    · have em : (m == 0) = true := by simpa using hm
      obtain ⟨hTx, hPx, hEx⟩ := Hx.out hm
      have hTx := hTx _ w1 HB1.out H1.out.holds
      have HTx := Lib.hid hTx
      have HPx := Lib.hid hPx
      have HEx := Lib.hid hEx
      clear hTx hPx hEx
      clear hm
      obtain ⟨x0, x1, x2, x3, x4, x5⟩ := vcell (H1.out).blk
      have xl := (H1.out).blk.lt
      go_wp2_with (fail)
      with_reducible refine (HTx.out).mono ?_
      rintro e w2 ⟨rfl, hb2⟩
      have h2 := H1.out.later hb2
      have hB2 := HB1.out.trans (hb2.mono HB1.out.size)
      clear hb2 x0 x1 x2 x3 x4 x5 xl
      have hPx2 := HPx.out w2 hB2
      have H2 := Lib.hid h2
      have HB2 := Lib.hid hB2
      have HPx2 := Lib.hid hPx2
      clear h2 hB2 hPx2
      go_wp2_with (fail)
      with_reducible refine (HPx2.out).mono ?_
      rintro e w3 ⟨hb3, cs3, rfl, hf3⟩
      obtain ⟨la3, lc3, oa3, oc3, rfl⟩ := six_now hf3
      have hn3 := Bx.new (holdsV_of _ _ hf3.now)
      have ha3 := alloc_below w3 (.cells #[.int .i64 k, .bool b, .int .i64 n, .string t, .slice la3 l.length lc3, .slice oa3 o.length oc3] 26)
      have h3 := (H2.out.later hb3).later ha3
      have hB3 := (HB2.out.trans (hb3.mono HB2.out.size)).alloc (Nat.le_trans HB2.out.size hb3.size) (.cells #[.int .i64 k, .bool b, .int .i64 n, .string t, .slice la3 l.length lc3, .slice oa3 o.length oc3] 26)
      have hEx3 := HEx.out _ hB3
      clear hb3 hf3 ha3
      have H3 := Lib.hid h3
      have HB3 := Lib.hid hB3
      have Hn3 := Lib.hid hn3
      have HEx3 := Lib.hid hEx3
      clear h3 hB3 hn3 hEx3
      go_wp2_with (fail)
      generalize w3.alloc (.cells #[.int .i64 k, .bool b, .int .i64 n, .string t, .slice la3 l.length lc3, .slice oa3 o.length oc3] 26) = W3 at H3 HB3 Hn3 HEx3 ⊢
      generalize w3.heap.size = g3 at Hn3 ⊢
      with_reducible refine (HEx3.out).mono ?_
      rintro e w4 ⟨hb4, cs4, rfl, hf4⟩
      obtain ⟨la4, lc4, oa4, oc4, rfl⟩ := six_now hf4
      have hm4 := Bx.new (holdsV_of _ _ hf4.now)
      have ha4 := alloc_below w4 (.cells #[.int .i64 k, .bool b, .int .i64 n, .string t, .slice la4 l.length lc4, .slice oa4 o.length oc4] 26)
      have h4 := (H3.out.later hb4).later ha4
      have hn4 := (Hn3.out.later hb4).later ha4
      have hB4 := (HB3.out.trans (hb4.mono HB3.out.size)).alloc (Nat.le_trans HB3.out.size hb4.size) (.cells #[.int .i64 k, .bool b, .int .i64 n, .string t, .slice la4 l.length lc4, .slice oa4 o.length oc4] 26)
      obtain ⟨x0, x1, x2, x3, x4, x5⟩ := vcell (H3.out.later hb4).blk
      have xl := (H3.out.later hb4).blk.lt
      obtain ⟨y0, y1, y2, y3, y4, y5⟩ := vcell (Hn3.out.later hb4).blk
      have yl := (Hn3.out.later hb4).blk.lt
      have hE4 := HE.out _ _ _ h4.holds hn4.holds
      have eT : ((T.size : Int) != (T.size : Int)) = false := by simp
      clear hb4 hf4 ha4
      have H4 := Lib.hid h4
      have Hn4 := Lib.hid hn4
      have Hm4 := Lib.hid hm4
      have HB4 := Lib.hid hB4
      have HE4 := Lib.hid hE4
      clear h4 hn4 hm4 hB4 hE4
      go_wp2_with (fail)
      generalize w4.alloc (.cells #[.int .i64 k, .bool b, .int .i64 n, .string t, .slice la4 l.length lc4, .slice oa4 o.length oc4] 26) = W4 at H4 Hn4 Hm4 HB4 HE4 ⊢
      generalize w4.heap.size = g4 at Hm4 ⊢
      clear x0 x1 x2 x3 x4 x5 xl y0 y1 y2 y3 y4 y5 yl
      with_reducible refine (HE4.out).mono ?_
      rintro e w5 ⟨rfl, hb5⟩
      have h5 := H4.out.later hb5
      have hm5 := Hm4.out.later hb5
      have hB5 := HB4.out.trans (hb5.mono HB4.out.size)
      obtain ⟨x0, x1, x2, x3, x4, x5⟩ := vcell (h5).blk
      have xl := (h5).blk.lt
      obtain ⟨y0, y1, y2, y3, y4, y5⟩ := vcell (hm5).blk
      have yl := (hm5).blk.lt
      have hE5 := HE.out _ _ _ h5.holds hm5.holds
      clear hb5
      have H5 := Lib.hid h5
      have Hm5 := Lib.hid hm5
      have HB5 := Lib.hid hB5
      have HE5 := Lib.hid hE5
      clear h5 hm5 hB5 hE5
      go_wp2_with (fail)
      with_reducible refine (HE5.out).mono ?_
      rintro e w6 ⟨rfl, hb6⟩
      have hB6 := HB5.out.trans (hb6.mono HB5.out.size)
      clear hb6 x0 x1 x2 x3 x4 x5 xl y0 y1 y2 y3 y4 y5 yl
      have HB6 := Lib.hid hB6
      clear hB6
      go_wp2
      go_meet
      exact HB6
    · have em : (m == 0) = false := by simpa using hm
      go_wp2
      go_meet
      exact HB1
  have hBc := hcut.out
  clear hcut H1 HB1 Hx HMay HE
  have hP := HPs.out wc hBc
  have HBc := Lib.hid hBc
  clear hBc
  clear HPs
  cases hr : parseL s.data.toList with
  | bad c q =>
    rw [hr] at hP
    have hc1 : (c != 0) = true := by have := parse_bad hr; simp only [bne_iff_ne, ne_eq]; omega
    clear hr
    have HP := Lib.hid hP
    clear hP
    go_wp2_with (fail)
    with_reducible refine (HP.out).mono ?_
    rintro e w4 ⟨hb4, rfl⟩
    have hB4 := (HBc.out.trans (hb4.mono HBc.out.size)).alloc (Nat.le_trans HBc.out.size hb4.size) (.cells zero6 26)
    have hK4 := HK.out _ hB4
    clear hb4
    have HB4 := Lib.hid hB4
    have HK4 := Lib.hid hK4
    clear hB4 hK4
    go_wp2_with (fail)
    with_reducible refine (HK4.out).mono ?_
    rintro e w5 ⟨rfl, hb5⟩
    have hB5 := HB4.out.trans (hb5.mono HB4.out.size)
    clear hb5
    have HB5 := Lib.hid hB5
    clear hB5
    go_wp2
    go_ret
    exact ⟨rfl, HB5.out⟩
  | ok y q =>
    rw [hr] at hP
    obtain ⟨my, hq, hby, hiy⟩ := parse_may hr
    rw [size_toList] at hq hby
    subst hq
    clear hr
    obtain ⟨f1, f2, f3⟩ := textS_facts my hiy (by omega)
    obtain ⟨ky, by_, ny, ty, ly, oy⟩ := y
    have hTy : ∀ (cs : List Value) (W : World), Below w.heap.size w W → HoldsV W W.heap.size (.mk ky by_ ny ty ly oy) cs → Calls Tryz.prog 21 #[.agg cs.toArray] W fun e w' => e = .returned (.tuple #[.string (textS (.mk ky by_ ny ty ly oy)), .int .i64 0]) ∧ Below W.heap.size W w' := fun cs W hW h => by
      have := Text_calls _ cs W (hT.below hW) h (by omega) hiy
      rwa [my] at this
    have hEy : ∀ W, Below w.heap.size w W → Calls Tryz.prog 19 #[.string (textS (.mk ky by_ ny ty ly oy))] W (ExOut W (.ok (.mk ky by_ ny ty ly oy) (textS (.mk ky by_ ny ty ly oy)).size)) := fun W hW => by
      have := exact_calls (textS (.mk ky by_ ny ty ly oy)) W (hT.below hW) (hN.below hW) (by omega)
      rwa [f3] at this
    have hMy : ∀ (cs : List Value) (W : World), HoldsV W W.heap.size (.mk ky by_ ny ty ly oy) cs → Calls Tryz.prog 14 #[.agg cs.toArray] W fun e w' => e = .returned (.int .i64 0) ∧ Below W.heap.size W w' := fun cs W h => by
      have := RMay_calls _ cs W h (by omega)
      rwa [my] at this
    have hQy : ∀ (cs cs' : List Value) (W : World), HoldsV W W.heap.size (.mk ky by_ ny ty ly oy) cs → HoldsV W W.heap.size (.mk ky by_ ny ty ly oy) cs' → Calls Tryz.prog 12 #[.agg cs.toArray, .agg cs'.toArray] W fun e w' => e = .returned (.bool true) ∧ Below W.heap.size W w' := fun cs cs' W => equal_same _ (by omega) cs cs' W
    generalize textS (.mk ky by_ ny ty ly oy) = T2 at hTy hEy
    clear my hby hiy f1 f2 f3
    have HP := Lib.hid hP
    have HTy := Lib.hid hTy
    have HEy := Lib.hid hEy
    have HMy := Lib.hid hMy
    have HQy := Lib.hid hQy
    clear hP hTy hEy hMy hQy
    go_wp2_with (fail)
    with_reducible refine (HP.out).mono ?_
    rintro e w3 ⟨hb3, cs3, rfl, hf3⟩
    obtain ⟨la3, lc3, oa3, oc3, rfl⟩ := six_now hf3
    have hn3 := Bx.new (holdsV_of _ _ hf3.now)
    have hB3 := (HBc.out.trans (hb3.mono HBc.out.size)).alloc (Nat.le_trans HBc.out.size hb3.size) (.cells #[.int .i64 ky, .bool by_, .int .i64 ny, .string ty, .slice la3 ly.length lc3, .slice oa3 oy.length oc3] 26)
    have hT3 := HTy.out _ _ hB3 hn3.holds
    clear hb3 hf3
    have HB3 := Lib.hid hB3
    have Hn3 := Lib.hid hn3
    have HT3 := Lib.hid hT3
    clear hB3 hn3 hT3
    go_wp2_with (fail)
    generalize w3.alloc (.cells #[.int .i64 ky, .bool by_, .int .i64 ny, .string ty, .slice la3 ly.length lc3, .slice oa3 oy.length oc3] 26) = W3 at HB3 Hn3 HT3 ⊢
    generalize w3.heap.size = g3 at Hn3 ⊢
    with_reducible refine (HT3.out).mono ?_
    rintro e w4 ⟨rfl, hb4⟩
    have hn4 := Hn3.out.later hb4
    have hB4 := HB3.out.trans (hb4.mono HB3.out.size)
    have hE4 := HEy.out _ hB4
    clear hb4
    have Hn4 := Lib.hid hn4
    have HB4 := Lib.hid hB4
    have HE4 := Lib.hid hE4
    clear hn4 hB4 hE4
    go_wp2_with (fail)
    with_reducible refine (HE4.out).mono ?_
    rintro e w5 ⟨hb5, cs5, rfl, hf5⟩
    obtain ⟨la5, lc5, oa5, oc5, rfl⟩ := six_now hf5
    have hm5 := Bx.new (holdsV_of _ _ hf5.now)
    have ha5 := alloc_below w5 (.cells #[.int .i64 ky, .bool by_, .int .i64 ny, .string ty, .slice la5 ly.length lc5, .slice oa5 oy.length oc5] 26)
    have hn5 := (Hn4.out.later hb5).later ha5
    have hB5 := (HB4.out.trans (hb5.mono HB4.out.size)).alloc (Nat.le_trans HB4.out.size hb5.size) (.cells #[.int .i64 ky, .bool by_, .int .i64 ny, .string ty, .slice la5 ly.length lc5, .slice oa5 oy.length oc5] 26)
    obtain ⟨x0, x1, x2, x3, x4, x5⟩ := vcell (Hn4.out.later hb5).blk
    have xl := (Hn4.out.later hb5).blk.lt
    have hM5 := HMy.out _ _ hn5.holds
    have eS : ((s.size : Int) == (s.size : Int)) = true := by simp
    clear hb5 hf5 ha5
    have Hm5 := Lib.hid hm5
    have Hn5 := Lib.hid hn5
    have HB5 := Lib.hid hB5
    have HM5 := Lib.hid hM5
    clear hm5 hn5 hB5 hM5
    go_wp2_with (fail)
    generalize w5.alloc (.cells #[.int .i64 ky, .bool by_, .int .i64 ny, .string ty, .slice la5 ly.length lc5, .slice oa5 oy.length oc5] 26) = W5 at Hm5 Hn5 HB5 HM5 ⊢
    generalize w5.heap.size = g5 at Hm5 ⊢
    clear x0 x1 x2 x3 x4 x5 xl
    with_reducible refine (HM5.out).mono ?_
    rintro e w6 ⟨rfl, hb6⟩
    have hn6 := Hn5.out.later hb6
    have hm6 := Hm5.out.later hb6
    have hB6 := HB5.out.trans (hb6.mono HB5.out.size)
    obtain ⟨x0, x1, x2, x3, x4, x5⟩ := vcell (hn6).blk
    have xl := (hn6).blk.lt
    obtain ⟨y0, y1, y2, y3, y4, y5⟩ := vcell (hm6).blk
    have yl := (hm6).blk.lt
    have hQ6 := HQy.out _ _ _ hn6.holds hm6.holds
    clear hb6
    have Hn6 := Lib.hid hn6
    have Hm6 := Lib.hid hm6
    have HB6 := Lib.hid hB6
    have HQ6 := Lib.hid hQ6
    clear hn6 hm6 hB6 hQ6
    go_wp2_with (fail)
    with_reducible refine (HQ6.out).mono ?_
    rintro e w7 ⟨rfl, hb7⟩
    have hB7 := HB6.out.trans (hb7.mono HB6.out.size)
    have hK7 := HK.out _ hB7
    clear hb7 x0 x1 x2 x3 x4 x5 xl y0 y1 y2 y3 y4 y5 yl
    have HB7 := Lib.hid hB7
    have HK7 := Lib.hid hK7
    clear hB7 hK7
    go_wp2_with (fail)
    with_reducible refine (HK7.out).mono ?_
    rintro e w8 ⟨rfl, hb8⟩
    have hB8 := HB7.out.trans (hb8.mono HB7.out.size)
    clear hb8
    have HB8 := Lib.hid hB8
    clear hB8
    go_wp2
    go_ret
    exact ⟨rfl, HB8.out⟩
end Go.Proofs.YtgjiienipeoajaaGreatDoor
