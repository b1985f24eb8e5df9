/- Parts, joined: An argument that is a row of bytes. No condition. The law ParseBack: it answers true. Condition: a value of bulk at most 1048576, and a text of at most so many bytes. The law ParseBlanks: it answers true. Condition: a value and gaps of bulk at most 1048576. -/
import Derived.Test.YtgjiienipeoajaaGreatDoorProg
import Derived.Test.YtgjiienipeoajaaGreatDoorKPrs18
import Derived.Test.YtgjiienipeoajaaGreatDoorKPrs20
import Derived.Test.YtgjiienipeoajaaGreatDoorKPrs34
import Derived.Test.YtgjiienipeoajaaGreatDoorKPrs44
import Derived.Test.YtgjiienipeoajaaGreatDoorKParseBlanks1
import Derived.Test.YtgjiienipeoajaaGreatDoorKParseBlanks2
/- An argument that is a row of bytes. No condition. -/
namespace Go.Proofs.YtgjiienipeoajaaGreatDoor
open Go.RowKit Go.ChangeShapes Go.WideShapes Go.ChangeAt

theorem cells_u8 : Tryz.prog.cellsOf 5 = 1 := by kernel_rfl
section
variable {H : Type} {enc : TypeId × Value → H} {w : World} {sp : Nat → Bool} {held : Bool}
set_option maxRecDepth 10000 in
theorem open_bytes8 {n : Nat} : ∀ (elems : List (DataW H × List MemPlace)) (g off : Nat),
    (∀ i, i < elems.length → (w.cells? 0 ⟨g, off + i, none⟩ 1).bind (DataW.trod enc Tryz.prog w 0 sp held n 5) = elems[i]?) →
    ∃ L : List UInt8, L.length = elems.length ∧ (∀ j u, L[j]? = some u → w.cell? ⟨g, off + j, none⟩ = some (.int .u8 (u.toNat : Int))) ∧ L.length ≤ Rows.uptoBulkAll (elems.map (·.1))
  | [], _, _, _ => ⟨[], rfl, fun j u h => by simp at h, by simp⟩
  | y :: r, g, off, h => by
    obtain ⟨L, h1, h2, h3⟩ := open_bytes8 r g (off + 1) (fun i hi => by
      have := h (i + 1) (by simpa using hi)
      rw [show off + (i + 1) = off + 1 + i from by omega] at this
      simpa using this)
    have h0 := h 0 (by simp)
    simp only [Nat.add_zero, List.getElem?_cons_zero] at h0
    obtain ⟨cs, hcs, hx⟩ := Option.bind_eq_some_iff.1 h0
    obtain ⟨_, hc⟩ := cells_at (by omega) hcs
    obtain ⟨x, rfl, rfl, hwf⟩ := DataW.trod_int Tryz.underlying5 hx
    have hm1 : IntKind.u8.min = 0 := by decide
    have hm2 : IntKind.u8.max = 255 := by decide
    simp only [Lit.wf, hm1, hm2, Bool.and_eq_true, decide_eq_true_eq] at hwf
    refine ⟨UInt8.ofNat x.toNat :: L, by simp [h1], fun j u hj => ?_, ?_⟩
    · cases j with
      | zero =>
        simp only [List.getElem?_cons_zero, Option.some.injEq] at hj
        subst hj
        have := hc 0 _ rfl
        rw [this]
        have e : ((UInt8.ofNat x.toNat).toNat : Int) = x := by
          rw [UInt8.toNat_ofNat', Nat.mod_eq_of_lt (by omega)]
          omega
        rw [e]
      | succ j =>
        have := h2 j u (by simpa using hj)
        rwa [show off + (j + 1) = off + 1 + j by omega]
    · simp only [List.length_cons, List.map_cons, Rows.uptoBulkAll, Rows.uptoBulk]
      omega
set_option maxRecDepth 10000 in
theorem open_arg_bytes {base : Nat} {v0 : Value} {d : DataW H} {ps : List MemPlace} (hv : Value.okWide Tryz.prog w .any base 54 v0) (h : DataW.Trod enc Tryz.prog w 0 sp held 54 v0 d ps) :
    ∃ (L : List UInt8) (ga : Option Addr) (gc : Nat), v0 = .slice ga L.length gc ∧ GapsAt w w.heap.size L ga ∧ L.length ≤ Rows.uptoBulk d := by
  obtain ⟨a, len, cap, rfl⟩ := okWide_slice Tryz.underlying54 hv
  obtain ⟨fuel, hf⟩ := h
  rcases DataW.trod_slice Tryz.underlying54 hf with ⟨e, _⟩ | ⟨a', len', cap', elems, rest, q, hn, e, hd, _, _, _, hlen', hel, _, _⟩
  · simp only [Value.cells, List.cons.injEq, Value.slice.injEq, and_true] at e
    obtain ⟨rfl, rfl, rfl⟩ := e
    exact ⟨[], none, 0, rfl, .inl rfl, Nat.zero_le _⟩
  · simp only [Value.cells, List.cons.injEq, Value.slice.injEq, and_true] at e
    obtain ⟨rfl, rfl, rfl⟩ := e
    simp only [Prod.mk.injEq] at hd
    obtain ⟨rfl, _⟩ := hd
    by_cases h0 : len = 0
    · subst h0
      exact ⟨[], some a', cap, rfl, .inl rfl, Nat.zero_le _⟩
    · obtain ⟨g, off, spot⟩ := a'
      rw [cells_u8] at hel
      have hz := hel 0 (by omega)
      rw [List.getElem?_eq_getElem (by omega)] at hz
      obtain ⟨cs', hcs', _⟩ := Option.bind_eq_some_iff.1 hz
      obtain ⟨_, hcl, hcc⟩ := World.cells?_some hcs'
      have hz0 := hcc 0 (by omega)
      rw [List.getElem?_eq_getElem (by omega)] at hz0
      have hspot : spot = none := by simpa [Addr.add] using World.cell?_spot hz0
      subst hspot
      simp only [add_plain, Nat.mul_one] at hel hz0
      obtain ⟨L, h1, h2, h3⟩ := open_bytes8 elems g off (fun i hi => hel i (by omega))
      refine ⟨L, _, cap, by rw [h1, hlen'], .inr ⟨g, off, rfl, World.block_lt_of_cell? _ _ hz0, h2⟩, ?_⟩
      simp only [Rows.uptoBulk]
      omega
end
end Go.Proofs.YtgjiienipeoajaaGreatDoor

/- The law ParseBack: it answers true. Condition: a value of bulk at most 1048576, and a text of at most so many bytes. -/
namespace Go.Proofs.YtgjiienipeoajaaGreatDoor
open Go Go.RowKit

/-- A variable that holds a value. -/
structure Bx (W : World) (g : Nat) (k : Int) (b : Bool) (n : Int) (t : ByteArray) (l : List Val) (o : List (ByteArray × Val)) (la : Option Addr) (lc : Nat) (oa : Option Addr) (oc : Nat) : Prop where
  blk : Blk W g 26 #[.int .i64 k, .bool b, .int .i64 n, .string t, .slice la l.length lc, .slice oa o.length oc]
  holds : HoldsV W W.heap.size (.mk k b n t l o) [.int .i64 k, .bool b, .int .i64 n, .string t, .slice la l.length lc, .slice oa o.length oc]
theorem Bx.later {W W' : World} {g : Nat} {k : Int} {b : Bool} {n : Int} {t : ByteArray} {l : List Val} {o : List (ByteArray × Val)} {la : Option Addr} {lc : Nat} {oa : Option Addr} {oc : Nat} (h : Bx W g k b n t l o la lc oa oc) (hb : Below W.heap.size W W') : Bx W' g k b n t l o la lc oa oc :=
  ⟨h.blk.below hb h.blk.lt, HoldsV.more hb.size _ _ (h.holds.below hb)⟩
theorem Bx.new {w : World} {k : Int} {b : Bool} {n : Int} {t : ByteArray} {l : List Val} {o : List (ByteArray × Val)} {la : Option Addr} {lc : Nat} {oa : Option Addr} {oc : Nat} (h : HoldsV w w.heap.size (.mk k b n t l o) [.int .i64 k, .bool b, .int .i64 n, .string t, .slice la l.length lc, .slice oa o.length oc]) :
    Bx (w.alloc (.cells #[.int .i64 k, .bool b, .int .i64 n, .string t, .slice la l.length lc, .slice oa o.length oc] 26)) w.heap.size k b n t l o la lc oa oc :=
  ⟨Blk.new _ _ _, HoldsV.more (by simp) _ _ (h.below (alloc_below w _))⟩
theorem textS_facts {v : Val} (hm : mayV v 1 = 0) (hi : inV v) (hb : v.bulk ≤ 10000000) : (textS v).size ≤ 60000000 ∧ parseL (textS v).data.toList = .ok v (textS v).size ∧ exactL (textS v).data.toList = .ok v (textS v).size := by
  have e : textS v = ⟨(textV v).toArray⟩ := by unfold textS; rw [if_pos hm]
  have hl := textV_len v (okV_of v 1 hm hi)
  have hp := parse_text hm hi
  have hsz : (⟨(textV v).toArray⟩ : ByteArray).size = (textV v).length := rfl
  rw [e, hsz]
  refine ⟨by omega, hp, ?_⟩
  unfold exactL
  show (match parseL (textV v) with | .bad c q => Rd.bad c q | .ok u q => if textV u = textV v then .ok u q else .bad 4 q) = _
  rw [hp]
  simp only [if_true]
set_option maxRecDepth 100000 in
set_option maxHeartbeats 16000000 in
theorem ParseBack_law (v : Val) (cs : List Value) (s : ByteArray) (w : World) (hT : Tabs w) (hN : NumT w) (hV : HoldsV w w.heap.size v cs) (hb : v.bulk ≤ 1048576) (hi : inV v) (hs : s.size ≤ 1048576) :
    Calls Tryz.prog 6 #[.agg cs.toArray, .string s] w fun e w' => e = .returned (.bool true) ∧ Below w.heap.size w w' := by
  obtain ⟨k, b, n, t, l, o⟩ := v
  have hV' := hV
  simp only [HoldsV] at hV'
  obtain ⟨la0, lc0, oa0, oc0, rfl, _, _⟩ := hV'
  have h0 := Bx.new hV
  have hb0 := alloc_below w (.cells #[.int .i64 k, .bool b, .int .i64 n, .string t, .slice la0 l.length lc0, .slice oa0 o.length oc0] 26)
  have hMay : ∀ (cs : List Value) (W : World), HoldsV W W.heap.size (.mk k b n t l o) cs → Calls Tryz.prog 14 #[.agg cs.toArray] W fun e w' => e = .returned (.int .i64 (mayV (.mk k b n t l o) 1)) ∧ Below W.heap.size W w' := fun cs W h => RMay_calls _ cs W h (by omega)
  have hK : ∀ W, Below w.heap.size w W → Calls Tryz.prog 13 #[] W fun e w' => e = .returned (.bool true) ∧ Below W.heap.size W w' := fun W hW => known4_calls W (hT.below hW) (hN.below hW)
  have hPs : ∀ W, Below w.heap.size w W → Calls Tryz.prog 10 #[.string s] W (RefOut W (parseL s.data.toList)) := fun W hW => parse_calls s W (hT.below hW) (hN.below hW) (by omega)
  have hE : ∀ (cs cs' : List Value) (W : World), HoldsV W W.heap.size (.mk k b n t l o) cs → HoldsV W W.heap.size (.mk k b n t l o) cs' → Calls Tryz.prog 12 #[.agg cs.toArray, .agg cs'.toArray] W fun e w' => e = .returned (.bool true) ∧ Below W.heap.size W w' := fun cs cs' W => equal_same _ (by omega) cs cs' W
  have hx : mayV (.mk k b n t l o) 1 = 0 → (∀ (cs : List Value) (W : World), Below w.heap.size w W → HoldsV W W.heap.size (.mk k b n t l o) cs → Calls Tryz.prog 21 #[.agg cs.toArray] W fun e w' => e = .returned (.tuple #[.string (textS (.mk k b n t l o)), .int .i64 0]) ∧ Below W.heap.size W w') ∧
      (∀ W, Below w.heap.size w W → Calls Tryz.prog 10 #[.string (textS (.mk k b n t l o))] W (RefOut W (.ok (.mk k b n t l o) (textS (.mk k b n t l o)).size))) ∧ (∀ W, Below w.heap.size w W → Calls Tryz.prog 19 #[.string (textS (.mk k b n t l o))] W (ExOut W (.ok (.mk k b n t l o) (textS (.mk k b n t l o)).size))) := fun hm => by
    obtain ⟨f1, f2, f3⟩ := textS_facts hm hi (by omega)
    refine ⟨fun cs W hW h => ?_, fun W hW => ?_, fun W hW => ?_⟩
    · have := Text_calls _ cs W (hT.below hW) h (by omega) hi
      rwa [hm] at this
    · have := parse_calls (textS (.mk k b n t l o)) W (hT.below hW) (hN.below hW) (by omega)
      rwa [f2] at this
    · have := exact_calls (textS (.mk k b n t l o)) W (hT.below hW) (hN.below hW) (by omega)
      rwa [f3] at this
  generalize mayV (.mk k b n t l o) 1 = m at hMay hx
  generalize textS (.mk k b n t l o) = T at hx
  clear hV hb hi
  have H0 := Lib.hid h0
  have Hb0 := Lib.hid hb0
  have HMay := Lib.hid hMay
  have HK := Lib.hid hK
  have HPs := Lib.hid hPs
  have HE := Lib.hid hE
  have Hx := Lib.hid hx
  clear h0 hb0 hMay hK hPs hE hx
  go_enter Tryz.func6, Tryz.ntmps6
  have hM1 := HMay.out _ _ H0.out.holds
  have HM1 := Lib.hid hM1
  clear hM1
  go_wp2_with (fail)
  generalize w.alloc (.cells #[.int .i64 k, .bool b, .int .i64 n, .string t, .slice la0 l.length lc0, .slice oa0 o.length oc0] 26) = W0 at H0 Hb0 HM1 ⊢
  generalize hg0 : w.heap.size = g0 at H0 ⊢
  with_reducible refine (HM1.out).mono ?_
  rintro e w1 ⟨rfl, hb1⟩
  have h1 := H0.out.later hb1
  have hB1 := Hb0.out.trans (hb1.mono Hb0.out.size)
  have H1 := Lib.hid h1
  have HB1 := Lib.hid hB1
  clear h1 hB1
  clear hb1 H0 Hb0 HM1
  go_upto_if 21 with (fail)
  go_cut [] (fun wx => Hid (Below w.heap.size w wx))
  case first =>
    by_cases hm : m = 0
    · have em : (m == 0) = true := by simpa using hm
      obtain ⟨hTx, hPx, hEx⟩ := Hx.out hm
      have hTx := hTx _ w1 HB1.out H1.out.holds
      have HTx := Lib.hid hTx
      have HPx := Lib.hid hPx
      have HEx := Lib.hid hEx
      clear hTx hPx hEx
      clear hm
      obtain ⟨x0, x1, x2, x3, x4, x5⟩ := vcell (H1.out).blk
      have xl := (H1.out).blk.lt
      go_wp2_with (fail)
      with_reducible refine (HTx.out).mono ?_
      rintro e w2 ⟨rfl, hb2⟩
      have h2 := H1.out.later hb2
      have hB2 := HB1.out.trans (hb2.mono HB1.out.size)
      clear hb2 x0 x1 x2 x3 x4 x5 xl
      have hPx2 := HPx.out w2 hB2
      have H2 := Lib.hid h2
      have HB2 := Lib.hid hB2
      have HPx2 := Lib.hid hPx2
      clear h2 hB2 hPx2
      go_wp2_with (fail)
      with_reducible refine (HPx2.out).mono ?_
      rintro e w3 ⟨hb3, cs3, rfl, hf3⟩
      obtain ⟨la3, lc3, oa3, oc3, rfl⟩ := six_now hf3
      have hn3 := Bx.new (holdsV_of _ _ hf3.now)
      have ha3 := alloc_below w3 (.cells #[.int .i64 k, .bool b, .int .i64 n, .string t, .slice la3 l.length lc3, .slice oa3 o.length oc3] 26)
      have h3 := (H2.out.later hb3).later ha3
      have hB3 := (HB2.out.trans (hb3.mono HB2.out.size)).alloc (Nat.le_trans HB2.out.size hb3.size) (.cells #[.int .i64 k, .bool b, .int .i64 n, .string t, .slice la3 l.length lc3, .slice oa3 o.length oc3] 26)
      have hEx3 := HEx.out _ hB3
      clear hb3 hf3 ha3
      have H3 := Lib.hid h3
      have HB3 := Lib.hid hB3
      have Hn3 := Lib.hid hn3
      have HEx3 := Lib.hid hEx3
      clear h3 hB3 hn3 hEx3
      go_wp2_with (fail)
      generalize w3.alloc (.cells #[.int .i64 k, .bool b, .int .i64 n, .string t, .slice la3 l.length lc3, .slice oa3 o.length oc3] 26) = W3 at H3 HB3 Hn3 HEx3 ⊢
      generalize w3.heap.size = g3 at Hn3 ⊢
      with_reducible refine (HEx3.out).mono ?_
      rintro e w4 ⟨hb4, cs4, rfl, hf4⟩
      obtain ⟨la4, lc4, oa4, oc4, rfl⟩ := six_now hf4
      have hm4 := Bx.new (holdsV_of _ _ hf4.now)
      have ha4 := alloc_below w4 (.cells #[.int .i64 k, .bool b, .int .i64 n, .string t, .slice la4 l.length lc4, .slice oa4 o.length oc4] 26)
      have h4 := (H3.out.later hb4).later ha4
      have hn4 := (Hn3.out.later hb4).later ha4
      have hB4 := (HB3.out.trans (hb4.mono HB3.out.size)).alloc (Nat.le_trans HB3.out.size hb4.size) (.cells #[.int .i64 k, .bool b, .int .i64 n, .string t, .slice la4 l.length lc4, .slice oa4 o.length oc4] 26)
      obtain ⟨x0, x1, x2, x3, x4, x5⟩ := vcell (H3.out.later hb4).blk
      have xl := (H3.out.later hb4).blk.lt
      obtain ⟨y0, y1, y2, y3, y4, y5⟩ := vcell (Hn3.out.later hb4).blk
      have yl := (Hn3.out.later hb4).blk.lt
      have hE4 := HE.out _ _ _ h4.holds hn4.holds
      have eT : ((T.size : Int) != (T.size : Int)) = false := by simp
      clear hb4 hf4 ha4
      have H4 := Lib.hid h4
      have Hn4 := Lib.hid hn4
      have Hm4 := Lib.hid hm4
      have HB4 := Lib.hid hB4
      have HE4 := Lib.hid hE4
      clear h4 hn4 hm4 hB4 hE4
      go_wp2_with (fail)
      generalize w4.alloc (.cells #[.int .i64 k, .bool b, .int .i64 n, .string t, .slice la4 l.length lc4, .slice oa4 o.length oc4] 26) = W4 at H4 Hn4 Hm4 HB4 HE4 ⊢
      generalize w4.heap.size = g4 at Hm4 ⊢
      clear x0 x1 x2 x3 x4 x5 xl y0 y1 y2 y3 y4 y5 yl
      with_reducible refine (HE4.out).mono ?_
      rintro e w5 ⟨rfl, hb5⟩
      have h5 := H4.out.later hb5
      have hm5 := Hm4.out.later hb5
      have hB5 := HB4.out.trans (hb5.mono HB4.out.size)
      obtain ⟨x0, x1, x2, x3, x4, x5⟩ := vcell (h5).blk
      have xl := (h5).blk.lt
      obtain ⟨y0, y1, y2, y3, y4, y5⟩ := vcell (hm5).blk
      have yl := (hm5).blk.lt
      have hE5 := HE.out _ _ _ h5.holds hm5.holds
      clear hb5
      have H5 := Lib.hid h5
      have Hm5 := Lib.hid hm5
      have HB5 := Lib.hid hB5
      have HE5 := Lib.hid hE5
      clear h5 hm5 hB5 hE5
      go_wp2_with (fail)
      with_reducible refine (HE5.out).mono ?_
      rintro e w6 ⟨rfl, hb6⟩
      have hB6 := HB5.out.trans (hb6.mono HB5.out.size)
      clear hb6 x0 x1 x2 x3 x4 x5 xl y0 y1 y2 y3 y4 y5 yl
      have HB6 := Lib.hid hB6
      clear hB6
      go_wp2
      go_meet
      exact HB6
    · have em : (m == 0) = false := by simpa using hm
      go_wp2
      go_meet
      exact HB1
  have hBc := hcut.out
  clear hcut H1 HB1 Hx HMay HE
  have hP := HPs.out wc hBc
  have HBc := Lib.hid hBc
  clear hBc
  clear HPs
  cases hr : parseL s.data.toList with
  | bad c q =>
    rw [hr] at hP
    have hc1 : (c != 0) = true := by have := parse_bad hr; simp only [bne_iff_ne, ne_eq]; omega
    clear hr
    have HP := Lib.hid hP
    clear hP
    go_wp2_with (fail)
    with_reducible refine (HP.out).mono ?_
    rintro e w4 ⟨hb4, rfl⟩
    have hB4 := (HBc.out.trans (hb4.mono HBc.out.size)).alloc (Nat.le_trans HBc.out.size hb4.size) (.cells zero6 26)
    have hK4 := HK.out _ hB4
    clear hb4
    have HB4 := Lib.hid hB4
    have HK4 := Lib.hid hK4
    clear hB4 hK4
    go_wp2_with (fail)
    with_reducible refine (HK4.out).mono ?_
    rintro e w5 ⟨rfl, hb5⟩
    have hB5 := HB4.out.trans (hb5.mono HB4.out.size)
    clear hb5
    have HB5 := Lib.hid hB5
    clear hB5
    go_wp2
    go_ret
    exact ⟨rfl, HB5.out⟩
  | ok y q =>
    rw [hr] at hP
    obtain ⟨my, hq, hby, hiy⟩ := parse_may hr
    rw [size_toList] at hq hby
    subst hq
    clear hr
    obtain ⟨f1, f2, f3⟩ := textS_facts my hiy (by omega)
    obtain ⟨ky, by_, ny, ty, ly, oy⟩ := y
    have hTy : ∀ (cs : List Value) (W : World), Below w.heap.size w W → HoldsV W W.heap.size (.mk ky by_ ny ty ly oy) cs → Calls Tryz.prog 21 #[.agg cs.toArray] W fun e w' => e = .returned (.tuple #[.string (textS (.mk ky by_ ny ty ly oy)), .int .i64 0]) ∧ Below W.heap.size W w' := fun cs W hW h => by
      have := Text_calls _ cs W (hT.below hW) h (by omega) hiy
      rwa [my] at this
    have hEy : ∀ W, Below w.heap.size w W → Calls Tryz.prog 19 #[.string (textS (.mk ky by_ ny ty ly oy))] W (ExOut W (.ok (.mk ky by_ ny ty ly oy) (textS (.mk ky by_ ny ty ly oy)).size)) := fun W hW => by
      have := exact_calls (textS (.mk ky by_ ny ty ly oy)) W (hT.below hW) (hN.below hW) (by omega)
      rwa [f3] at this
    have hMy : ∀ (cs : List Value) (W : World), HoldsV W W.heap.size (.mk ky by_ ny ty ly oy) cs → Calls Tryz.prog 14 #[.agg cs.toArray] W fun e w' => e = .returned (.int .i64 0) ∧ Below W.heap.size W w' := fun cs W h => by
      have := RMay_calls _ cs W h (by omega)
      rwa [my] at this
    have hQy : ∀ (cs cs' : List Value) (W : World), HoldsV W W.heap.size (.mk ky by_ ny ty ly oy) cs → HoldsV W W.heap.size (.mk ky by_ ny ty ly oy) cs' → Calls Tryz.prog 12 #[.agg cs.toArray, .agg cs'.toArray] W fun e w' => e = .returned (.bool true) ∧ Below W.heap.size W w' := fun cs cs' W => equal_same _ (by omega) cs cs' W
    generalize textS (.mk ky by_ ny ty ly oy) = T2 at hTy hEy
    clear my hby hiy f1 f2 f3
    have HP := Lib.hid hP
    have HTy := Lib.hid hTy
    have HEy := Lib.hid hEy
    have HMy := Lib.hid hMy
    have HQy := Lib.hid hQy
    clear hP hTy hEy hMy hQy
    go_wp2_with (fail)
    with_reducible refine (HP.out).mono ?_
    rintro e w3 ⟨hb3, cs3, rfl, hf3⟩
    obtain ⟨la3, lc3, oa3, oc3, rfl⟩ := six_now hf3
    have hn3 := Bx.new (holdsV_of _ _ hf3.now)
    have hB3 := (HBc.out.trans (hb3.mono HBc.out.size)).alloc (Nat.le_trans HBc.out.size hb3.size) (.cells #[.int .i64 ky, .bool by_, .int .i64 ny, .string ty, .slice la3 ly.length lc3, .slice oa3 oy.length oc3] 26)
    have hT3 := HTy.out _ _ hB3 hn3.holds
    clear hb3 hf3
    have HB3 := Lib.hid hB3
    have Hn3 := Lib.hid hn3
    have HT3 := Lib.hid hT3
    clear hB3 hn3 hT3
    go_wp2_with (fail)
    generalize w3.alloc (.cells #[.int .i64 ky, .bool by_, .int .i64 ny, .string ty, .slice la3 ly.length lc3, .slice oa3 oy.length oc3] 26) = W3 at HB3 Hn3 HT3 ⊢
    generalize w3.heap.size = g3 at Hn3 ⊢
    with_reducible refine (HT3.out).mono ?_
    rintro e w4 ⟨rfl, hb4⟩
    have hn4 := Hn3.out.later hb4
    have hB4 := HB3.out.trans (hb4.mono HB3.out.size)
    have hE4 := HEy.out _ hB4
    clear hb4
    have Hn4 := Lib.hid hn4
    have HB4 := Lib.hid hB4
    have HE4 := Lib.hid hE4
    clear hn4 hB4 hE4
    go_wp2_with (fail)
    with_reducible refine (HE4.out).mono ?_
    rintro e w5 ⟨hb5, cs5, rfl, hf5⟩
    obtain ⟨la5, lc5, oa5, oc5, rfl⟩ := six_now hf5
    have hm5 := Bx.new (holdsV_of _ _ hf5.now)
    have ha5 := alloc_below w5 (.cells #[.int .i64 ky, .bool by_, .int .i64 ny, .string ty, .slice la5 ly.length lc5, .slice oa5 oy.length oc5] 26)
    have hn5 := (Hn4.out.later hb5).later ha5
    have hB5 := (HB4.out.trans (hb5.mono HB4.out.size)).alloc (Nat.le_trans HB4.out.size hb5.size) (.cells #[.int .i64 ky, .bool by_, .int .i64 ny, .string ty, .slice la5 ly.length lc5, .slice oa5 oy.length oc5] 26)
    obtain ⟨x0, x1, x2, x3, x4, x5⟩ := vcell (Hn4.out.later hb5).blk
    have xl := (Hn4.out.later hb5).blk.lt
    have hM5 := HMy.out _ _ hn5.holds
    have eS : ((s.size : Int) == (s.size : Int)) = true := by simp
    clear hb5 hf5 ha5
    have Hm5 := Lib.hid hm5
    have Hn5 := Lib.hid hn5
    have HB5 := Lib.hid hB5
    have HM5 := Lib.hid hM5
    clear hm5 hn5 hB5 hM5
    go_wp2_with (fail)
    generalize w5.alloc (.cells #[.int .i64 ky, .bool by_, .int .i64 ny, .string ty, .slice la5 ly.length lc5, .slice oa5 oy.length oc5] 26) = W5 at Hm5 Hn5 HB5 HM5 ⊢
    generalize w5.heap.size = g5 at Hm5 ⊢
    clear x0 x1 x2 x3 x4 x5 xl
    with_reducible refine (HM5.out).mono ?_
    rintro e w6 ⟨rfl, hb6⟩
    have hn6 := Hn5.out.later hb6
    have hm6 := Hm5.out.later hb6
    have hB6 := HB5.out.trans (hb6.mono HB5.out.size)
    obtain ⟨x0, x1, x2, x3, x4, x5⟩ := vcell (hn6).blk
    have xl := (hn6).blk.lt
    obtain ⟨y0, y1, y2, y3, y4, y5⟩ := vcell (hm6).blk
    have yl := (hm6).blk.lt
    have hQ6 := HQy.out _ _ _ hn6.holds hm6.holds
    clear hb6
    have Hn6 := Lib.hid hn6
    have Hm6 := Lib.hid hm6
    have HB6 := Lib.hid hB6
    have HQ6 := Lib.hid hQ6
    clear hn6 hm6 hB6 hQ6
    go_wp2_with (fail)
    with_reducible refine (HQ6.out).mono ?_
    rintro e w7 ⟨rfl, hb7⟩
    have hB7 := HB6.out.trans (hb7.mono HB6.out.size)
    have hK7 := HK.out _ hB7
    clear hb7 x0 x1 x2 x3 x4 x5 xl y0 y1 y2 y3 y4 y5 yl
    have HB7 := Lib.hid hB7
    have HK7 := Lib.hid hK7
    clear hB7 hK7
    go_wp2_with (fail)
    with_reducible refine (HK7.out).mono ?_
    rintro e w8 ⟨rfl, hb8⟩
    have hB8 := HB7.out.trans (hb8.mono HB7.out.size)
    clear hb8
    have HB8 := Lib.hid hB8
    clear hB8
    go_wp2
    go_ret
    exact ⟨rfl, HB8.out⟩
end Go.Proofs.YtgjiienipeoajaaGreatDoor

/- The law ParseBlanks: it answers true. Condition: a value and gaps of bulk at most 1048576. -/
namespace Go.Proofs.YtgjiienipeoajaaGreatDoor
open Go Go.RowKit

set_option maxRecDepth 100000 in
set_option maxHeartbeats 16000000 in
theorem ParseBlanks_law (v : Val) (cs : List Value) (L : List UInt8) (ga : Option Addr) (gc : Nat) (w : World) (hT : Tabs w) (hN : NumT w) (hV : HoldsV w w.heap.size v cs) (hb : v.bulk ≤ 1048576) (hi : inV v) (hG : GapsAt w w.heap.size L ga) (hL : L.length ≤ 1048576) :
    Calls Tryz.prog 8 #[.agg cs.toArray, .slice ga L.length gc] w fun e w' => e = .returned (.bool true) ∧ Below w.heap.size w w' := by
  obtain ⟨k, b, n, t, l, o⟩ := v
  have hV' := hV
  simp only [HoldsV] at hV'
  obtain ⟨la0, lc0, oa0, oc0, rfl, _, _⟩ := hV'
  have h0 := Bx.new hV
  have hb0 := alloc_below w (.cells #[.int .i64 k, .bool b, .int .i64 n, .string t, .slice la0 l.length lc0, .slice oa0 o.length oc0] 26)
  have hMay : ∀ (cs : List Value) (W : World), HoldsV W W.heap.size (.mk k b n t l o) cs → Calls Tryz.prog 14 #[.agg cs.toArray] W fun e w' => e = .returned (.int .i64 (mayV (.mk k b n t l o) 1)) ∧ Below W.heap.size W w' := fun cs W h => RMay_calls _ cs W h (by omega)
  have hK : ∀ W, Below w.heap.size w W → Calls Tryz.prog 13 #[] W fun e w' => e = .returned (.bool true) ∧ Below W.heap.size W w' := fun W hW => known4_calls W (hT.below hW) (hN.below hW)
  have hE : ∀ (cs cs' : List Value) (W : World), HoldsV W W.heap.size (.mk k b n t l o) cs → HoldsV W W.heap.size (.mk k b n t l o) cs' → Calls Tryz.prog 12 #[.agg cs.toArray, .agg cs'.toArray] W fun e w' => e = .returned (.bool true) ∧ Below W.heap.size W w' := fun cs cs' W => equal_same _ (by omega) cs cs' W
  have hS : mayV (.mk k b n t l o) 1 = 0 → ∀ (cs : List Value) (W : World) (g B : Nat), B ≤ g → HoldsV W B (.mk k b n t l o) cs → GapsAt W B L ga → CntAt W g 0 → Calls Tryz.prog 23 #[.agg cs.toArray, .slice ga L.length gc, .pointer (some ⟨g, 0, none⟩)] W (SprPost (.mk k b n t l o) 1 g 0 W) := fun hm cs W g B hBg hv hg hc =>
    spread_all _ cs W 1 L ga gc g 0 B hBg hv hm hi hb hg hc (by omega) (by omega)
  have hP : ∀ (T : ByteArray) W, Below w.heap.size w W → T.size ≤ 20000000 → ReadsV T.data.toList (.mk k b n t l o) 1 → Calls Tryz.prog 10 #[.string T] W (RefOut W (.ok (.mk k b n t l o) T.size)) := fun T W hW hz hr => by
    have := parse_calls T W (hT.below hW) (hN.below hW) (by omega)
    rwa [parse_reads hr, size_toList] at this
  unfold SprPost at hS
  obtain ⟨bk, hbk⟩ : ∃ x, (Val.mk k b n t l o).bulk = x := ⟨_, rfl⟩
  rw [hbk] at hS hb
  generalize mayV (.mk k b n t l o) 1 = m at hMay hS
  have hz0 := hb0.size
  clear hi hbk
  have hM1 := hMay _ _ h0.holds
  have H0 := Lib.hid h0
  have Hb0 := Lib.hid hb0
  have HMay := Lib.hid hMay
  have HK := Lib.hid hK
  have HE := Lib.hid hE
  have HS := Lib.hid hS
  have HP := Lib.hid hP
  have HM1 := Lib.hid hM1
  have HG := Lib.hid hG
  have HV := Lib.hid hV
  clear h0 hb0 hMay hK hE hS hP hM1 hG hV
  go_enter Tryz.func8, Tryz.ntmps8
  go_wp2_with (fail)
  generalize hW0 : w.alloc (.cells #[.int .i64 k, .bool b, .int .i64 n, .string t, .slice la0 l.length lc0, .slice oa0 o.length oc0] 26) = W0 at H0 Hb0 HM1 hz0 ⊢
  generalize hg0 : w.heap.size = g0 at H0 ⊢
  with_reducible refine (HM1.out).mono ?_
  rintro e w1 ⟨rfl, hb1⟩
  have h1 := H0.out.later hb1
  have hB1 := Hb0.out.trans (hb1.mono Hb0.out.size)
  have hz1 : w.heap.size < w1.heap.size := by have := hb1.size; have := h1.blk.lt; omega
  have H1 := Lib.hid h1
  have HB1 := Lib.hid hB1
  clear h1 hB1
  clear hb1 H0 Hb0 HM1 hW0
  by_cases hm : m = 0
  rotate_left
  · have em : (m != 0) = true := by simp [bne, hm]
    have hK1 := HK.out _ HB1.out
    have HK1 := Lib.hid hK1
    clear hK1
    go_wp2_with (fail)
    with_reducible refine (HK1.out).mono ?_
    rintro e w2 ⟨rfl, hb2⟩
    have hB2 := HB1.out.trans (hb2.mono HB1.out.size)
    clear hb2
    have HB2 := Lib.hid hB2
    clear hB2
    go_wp2
    go_ret
    exact ⟨rfl, HB2.out⟩
  have em : (m != 0) = false := by simp [bne, hm]
  have hn1 := Blk.new w1 3 #[.int .i64 0]
  have ha1 := alloc_below w1 (.cells #[.int .i64 0] 3)
  have h2 := H1.out.later ha1
  have hB2 := HB1.out.alloc HB1.out.size (.cells #[.int .i64 0] 3)
  have hSp := HS.out hm _ (w1.alloc (.cells #[.int .i64 0] 3)) w1.heap.size w1.heap.size (Nat.le_refl _) (H1.out.holds.below ha1) (by
    rcases HG.out with h | ⟨bb, off, e, hbl, hcell⟩
    · exact .inl h
    · exact .inr ⟨bb, off, e, by omega, fun j u hj => (hB2.cell (p := ⟨bb, off + j, none⟩) hbl).trans (hcell j u hj)⟩) hn1
  obtain ⟨x0, x1, x2, x3, x4, x5⟩ := vcell (h2).blk
  have xl := (h2).blk.lt
  have H2 := Lib.hid h2
  have HB2 := Lib.hid hB2
  have HSp := Lib.hid hSp
  have Hn1 := Lib.hid hn1
  clear h2 hB2 hSp hn1
  clear hm ha1 HS
  go_wp2_with (fail)
  generalize hW1 : w1.alloc (.cells #[.int .i64 0] 3) = W1 at H2 HB2 HSp Hn1 x0 x1 x2 x3 x4 x5 xl ⊢
  generalize hg1 : w1.heap.size = g1 at HSp Hn1 ⊢
  with_reducible refine (HSp.out).mono ?_
  rintro e w2 ⟨T, c', rfl, hrT, hsT, _, _, hg2, hk2⟩
  have hne : g0 ≠ g1 := by omega
  have hBg2 : Below w.heap.size w w2 := HB2.out.grown hg2 HB2.out.size (fun k e => by have := Option.some.inj e; omega)
  have hx2 : Blk w2 g0 26 #[.int .i64 k, .bool b, .int .i64 n, .string t, .slice la0 l.length lc0, .slice oa0 o.length oc0] := H2.out.blk.grown hg2 (fun e => hne (Option.some.inj e))
  have hv2 : HoldsV w2 w2.heap.size (.mk k b n t l o) [.int .i64 k, .bool b, .int .i64 n, .string t, .slice la0 l.length lc0, .slice oa0 o.length oc0] := HoldsV.more hBg2.size _ _ (HV.out.below hBg2)
  have hP2 := HP.out T w2 hBg2 (by omega) hrT
  have eT : ((T.size : Int) == (T.size : Int)) = true := by simp
  have hz2 : T.size ≤ 20000000 := by omega
  have HBg2 := Lib.hid hBg2
  have Hx2 := Lib.hid hx2
  have Hv2 := Lib.hid hv2
  have HP2 := Lib.hid hP2
  clear hBg2 hx2 hv2 hP2
  clear hrT hg2 hk2 x0 x1 x2 x3 x4 x5 xl hW1
  go_wp2_with (fail)
  with_reducible refine (HP2.out).mono ?_
  rintro e w3 ⟨hb3, cs3, rfl, hf3⟩
  obtain ⟨la3, lc3, oa3, oc3, rfl⟩ := six_now hf3
  have hn3 := Bx.new (holdsV_of _ _ hf3.now)
  have ha3 := alloc_below w3 (.cells #[.int .i64 k, .bool b, .int .i64 n, .string t, .slice la3 l.length lc3, .slice oa3 o.length oc3] 26)
  have hx3 := (Hx2.out.below hb3 Hx2.out.lt)
  have hB3 := (HBg2.out.trans (hb3.mono HBg2.out.size)).alloc (Nat.le_trans HBg2.out.size hb3.size) (.cells #[.int .i64 k, .bool b, .int .i64 n, .string t, .slice la3 l.length lc3, .slice oa3 o.length oc3] 26)
  have hv3 : HoldsV (w3.alloc (.cells #[.int .i64 k, .bool b, .int .i64 n, .string t, .slice la3 l.length lc3, .slice oa3 o.length oc3] 26)) (w3.alloc (.cells #[.int .i64 k, .bool b, .int .i64 n, .string t, .slice la3 l.length lc3, .slice oa3 o.length oc3] 26)).heap.size (.mk k b n t l o) [.int .i64 k, .bool b, .int .i64 n, .string t, .slice la0 l.length lc0, .slice oa0 o.length oc0] := HoldsV.more hB3.size _ _ (HV.out.below hB3)
  have hE3 := HE.out _ _ _ hv3 hn3.holds
  obtain ⟨x0, x1, x2, x3, x4, x5⟩ := vcell hx3
  have xl := hx3.lt
  clear hb3 hf3 ha3
  have HB3 := Lib.hid hB3
  have HE3 := Lib.hid hE3
  have Hn3 := Lib.hid hn3
  clear hB3 hE3 hn3
  go_wp2_with (fail)
  with_reducible refine (HE3.out).mono ?_
  rintro e w4 ⟨rfl, hb4⟩
  have hB4 := HB3.out.trans (hb4.mono HB3.out.size)
  have hK4 := HK.out _ hB4
  clear hb4 x0 x1 x2 x3 x4 x5 xl
  have HB4 := Lib.hid hB4
  have HK4 := Lib.hid hK4
  clear hB4 hK4
  go_wp2_with (fail)
  with_reducible refine (HK4.out).mono ?_
  rintro e w5 ⟨rfl, hb5⟩
  have hB5 := HB4.out.trans (hb5.mono HB4.out.size)
  clear hb5
  have HB5 := Lib.hid hB5
  clear hB5
  go_wp2
  go_ret
  exact ⟨rfl, HB5.out⟩
end Go.Proofs.YtgjiienipeoajaaGreatDoor
