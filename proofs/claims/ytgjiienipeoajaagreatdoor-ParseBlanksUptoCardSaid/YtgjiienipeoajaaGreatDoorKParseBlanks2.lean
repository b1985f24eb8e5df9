/- Parts, joined: commonplacelaw04.spread: a value's text with blanks between its parts; it is read as that value. Condition: a bulk of at most 1048576. -/
import Derived.Test.YtgjiienipeoajaaGreatDoorProg
import Derived.Test.YtgjiienipeoajaaGreatDoorKPrs21
import Derived.Test.YtgjiienipeoajaaGreatDoorKPrs35
import Derived.Test.YtgjiienipeoajaaGreatDoorKParseBlanks1
/- commonplacelaw04.spread: a value's text with blanks between its parts; it is read as that value. Condition: a bulk of at most 1048576. -/
namespace Go.Proofs.YtgjiienipeoajaaGreatDoor
open Go Go.RowKit

theorem list_end {d : Int} (hd : d ≤ 64) {ts : List (List UInt8 × Val)} (h : ∀ y ∈ ts, ReadsV y.1 y.2 (d + 1)) {G : List UInt8} (hG : Blanks G) : ReadsV (91 :: (joinC (ts.map (·.1)) ++ G ++ [93])) (lstV (ts.map (·.2))) d := by
  rcases List.eq_nil_or_concat ts with rfl | ⟨a, y, rfl⟩
  · have := read_list hd (l := []) (by simp) hG (fun e => absurd rfl e)
    simpa [joinC] using this
  · have hy := h y (by simp)
    have key := read_list hd (l := a ++ [(y.1 ++ G, y.2)]) (by
      intro z hz
      rcases List.mem_append.1 hz with hz | hz
      · exact h z (by simp [hz])
      · simp only [List.mem_cons, List.not_mem_nil, or_false] at hz
        rw [hz]; exact hy.behind hG) blanks_nil (fun _ => rfl)
    have e1 : joinC ((a ++ [(y.1 ++ G, y.2)]).map (·.1)) = joinC ((a ++ [y]).map (·.1)) ++ G := by
      rw [List.map_append, List.map_append, List.map_cons, List.map_nil, List.map_cons, List.map_nil, joinC_snoc, joinC_snoc]
      split <;> simp
    have e2 : (a ++ [(y.1 ++ G, y.2)]).map (·.2) = (a ++ [y]).map (·.2) := by simp
    rw [e1, e2, List.nil_append] at key
    rw [List.concat_eq_append]
    exact key
theorem object_end {d : Int} (hd : d ≤ 64) {ms : List Mem} (h : ∀ m ∈ ms, m.good (d + 1)) (hn : ((ms.map Mem.pair).map (·.1)).Nodup) {G : List UInt8} (hG : Blanks G) : ReadsV (123 :: (joinC (ms.map Mem.text) ++ G ++ [125])) (objV (sortO (ms.map Mem.pair))) d := by
  rcases List.eq_nil_or_concat ms with rfl | ⟨a, y, rfl⟩
  · have := read_obj hd (l := []) (by simp) hn hG (fun e => absurd rfl e)
    simpa [joinC] using this
  · rw [List.concat_eq_append] at h hn ⊢
    have hy := h y (by simp)
    obtain ⟨y1, y2, y3, y4⟩ := hy
    have e2 : (a ++ [Mem.mk y.pre y.mid (y.txt ++ G) y.key y.val]).map Mem.pair = (a ++ [y]).map Mem.pair := by simp [Mem.pair]
    have key := read_obj hd (l := a ++ [Mem.mk y.pre y.mid (y.txt ++ G) y.key y.val]) (by
      intro z hz
      rcases List.mem_append.1 hz with hz | hz
      · exact h z (by simp [hz])
      · simp only [List.mem_cons, List.not_mem_nil, or_false] at hz
        rw [hz]; exact ⟨y1, y2, y3, y4.behind hG⟩) (by rw [e2]; exact hn) blanks_nil (fun _ => rfl)
    have e1 : joinC ((a ++ [Mem.mk y.pre y.mid (y.txt ++ G) y.key y.val]).map Mem.text) = joinC ((a ++ [y]).map Mem.text) ++ G := by
      rw [List.map_append, List.map_append, List.map_cons, List.map_nil, List.map_cons, List.map_nil, joinC_snoc, joinC_snoc]
      have : (Mem.mk y.pre y.mid (y.txt ++ G) y.key y.val).text = y.text ++ G := by simp [Mem.text]
      rw [this]
      split <;> simp
    rw [e1, e2, List.nil_append] at key
    exact key
theorem bulkL_take {l : List Val} {q : Nat} {x : Val} (h : l[q]? = some x) : bulkL (l.take (q + 1)) = bulkL (l.take q) + x.bulk := by
  rw [List.take_add_one, h, Option.toList_some, bulkL_app]
  simp [bulkL]
theorem bulkL_take_le (l : List Val) (q : Nat) : bulkL (l.take q) ≤ bulkL l := by
  have := bulkL_app (l.take q) (l.drop q)
  rw [List.take_append_drop] at this
  omega
theorem bulkO_takeS {l : List (ByteArray × Val)} {q : Nat} {m : ByteArray × Val} (h : l[q]? = some m) : bulkO (l.take (q + 1)) = bulkO (l.take q) + bulkP m := by
  rw [List.take_add_one, h, Option.toList_some, bulkO_app]
  simp [bulkO]
theorem bulkO_take_leS (l : List (ByteArray × Val)) (q : Nat) : bulkO (l.take q) ≤ bulkO l := by
  have := bulkO_app (l.take q) (l.drop q)
  rw [List.take_append_drop] at this
  omega
/-- What holds of the call's world. -/
structure SI (w wr : World) (g c : Nat) (cs : Array Value) : Prop where
  grown : w.grownBy wr (some g)
  cnt : CntAt wr g c
  box : Blk wr w.heap.size 26 cs
theorem SI.step {w wr w' : World} {g c c' : Nat} {cs : Array Value} (h : SI w wr g c cs) (t : wr.grownBy w' (some g)) (k : CntAt w' g c') (hg : g < w.heap.size) : SI w w' g c' cs :=
  ⟨grownBy_trans h.grown t, k, h.box.grown t (fun e => by have := Option.some.inj e; omega)⟩
theorem SI.later {w wr w' : World} {g c : Nat} {cs : Array Value} (h : SI w wr g c cs) (t : Below wr.heap.size wr w') : SI w w' g c cs :=
  ⟨grownBy_below h.grown t, Blk.below h.cnt t (Blk.lt h.cnt), h.box.below t h.box.lt⟩
theorem SI.start {w : World} {g c : Nat} (h : CntAt w g c) (cs : Array Value) : SI w (w.alloc (.cells cs 26)) g c cs := ⟨grownBy_alloc (World.grownBy.refl _ _) _, Blk.alloc h _, Blk.new _ _ _⟩
/-- What 'spread' leaves. -/
def SprPost (v : Val) (d : Int) (g c : Nat) (w : World) (e : Ending) (w' : World) : Prop := ∃ (T : ByteArray) (c' : Nat), e = .returned (.string T) ∧ ReadsV T.data.toList v d ∧ T.size + 1 ≤ 12 * v.bulk ∧ c ≤ c' ∧ c' ≤ c + 2 * v.bulk ∧ w.grownBy w' (some g) ∧ CntAt w' g c'
/-- What 'spread' does with a value. -/
def SprC (v : Val) : Prop := ∀ (cs : List Value) (w : World) (d : Int) (L : List UInt8) (ga : Option Addr) (gc g c B : Nat), B ≤ g → HoldsV w B v cs → mayV v d = 0 → inV v → v.bulk ≤ 1048576 → GapsAt w B L ga → CntAt w g c → c + 2 * v.bulk ≤ 1000000000000000 → L.length ≤ 1000000000 →
    Calls Tryz.prog 23 #[.agg cs.toArray, .slice ga L.length gc, .pointer (some ⟨g, 0, none⟩)] w (SprPost v d g c w)
theorem app2 (a b : ByteArray) : (a ++ b).data.toList = a.data.toList ++ b.data.toList := by rw [ByteArray.data_append, Array.toList_append]
set_option maxRecDepth 100000 in
set_option maxHeartbeats 16000000 in
theorem spread_leaf (k : Int) (b : Bool) (n : Int) (t : ByteArray) (l : List Val) (o : List (ByteArray × Val)) (h5 : k ≠ 5) (h6 : k ≠ 6) (la oa : Option Addr) (lc oc : Nat) (w : World) (d : Int) (L : List UInt8) (ga : Option Addr) (gc g c B : Nat) (hBg : B ≤ g) (hV : HoldsV w B (.mk k b n t l o) [.int .i64 k, .bool b, .int .i64 n, .string t, .slice la l.length lc, .slice oa o.length oc]) (hm : mayV (.mk k b n t l o) d = 0) (hi : inV (.mk k b n t l o)) (hb : (Val.mk k b n t l o).bulk ≤ 1048576) (hG : GapsAt w B L ga) (hC : CntAt w g c) (hc : c + 2 * (Val.mk k b n t l o).bulk ≤ 1000000000000000) (hL : L.length ≤ 1000000000) :
    Calls Tryz.prog 23 #[.agg #[.int .i64 k, .bool b, .int .i64 n, .string t, .slice la l.length lc, .slice oa o.length oc], .slice ga L.length gc, .pointer (some ⟨g, 0, none⟩)] w (SprPost (.mk k b n t l o) d g c w) := by
  have hgl : g < w.heap.size := Blk.lt hC
  have hI0 := SI.start hC #[.int .i64 k, .bool b, .int .i64 n, .string t, .slice la l.length lc, .slice oa o.length oc]
  have hGap : ∀ (c1 : Nat) (W : World), SI w W g c1 #[.int .i64 k, .bool b, .int .i64 n, .string t, .slice la l.length lc, .slice oa o.length oc] → c1 ≤ 1000000000000000 → Calls Tryz.prog 45 #[.slice ga L.length gc, .pointer (some ⟨g, 0, none⟩)] W (GapPost g c1 W) := fun c1 W h hc => gap_calls L ga gc g c1 B W (hG.grown h.grown hBg (by omega)) h.cnt hc hL
  have hg0 := hGap c _ hI0 (by omega)
  have hrt := read_text _ d hm hi
  have htl := textV_len _ (okV_of _ d hm hi)
  have hTx : ∀ (c1 : Nat) W, SI w W g c1 #[.int .i64 k, .bool b, .int .i64 n, .string t, .slice la l.length lc, .slice oa o.length oc] → Calls Tryz.prog 16 #[.agg #[.int .i64 k, .bool b, .int .i64 n, .string t, .slice la l.length lc, .slice oa o.length oc]] W fun e w' => e = .returned (.string ⟨(textV (.mk k b n t l o)).toArray⟩) ∧ Below W.heap.size W w' := fun c1 W h => by
    have hb' : Below B w W := below_of_grown h.grown hBg (by omega)
    have hs' : B ≤ W.heap.size := by have := hb'.size; omega
    exact rtext_calls (.mk k b n t l o) _ W d (HoldsV.more hs' _ _ (hV.below hb')) (by omega) hm hi
  have hbpos : 6 ≤ (Val.mk k b n t l o).bulk := by simp only [Val.bulk]; omega
  have hsx : (⟨(textV (.mk k b n t l o)).toArray⟩ : ByteArray).size = (textV (.mk k b n t l o)).length := rfl
  have hdx : (⟨(textV (.mk k b n t l o)).toArray⟩ : ByteArray).data.toList = textV (.mk k b n t l o) := rfl
  generalize (⟨(textV (.mk k b n t l o)).toArray⟩ : ByteArray) = TX at hTx hsx hdx
  rw [← hdx] at hrt
  rw [← hsx] at htl
  obtain ⟨bk, hbk⟩ : ∃ x, (Val.mk k b n t l o).bulk = x := ⟨_, rfl⟩
  rw [hbk] at hb hc htl hbpos
  have e5 : (k == 5) = false := by simpa using h5
  have e6 : (k == 6) = false := by simpa using h6
  clear hm hi hV hG hsx hdx h5 h6
  have HI0 := Lib.hid hI0
  have HGap := Lib.hid hGap
  have Hg0 := Lib.hid hg0
  have Hrt := Lib.hid hrt
  have HTx := Lib.hid hTx
  have Hbk := Lib.hid hbk
  clear hI0 hGap hg0 hrt hTx hbk
  go_enter Tryz.func23, Tryz.ntmps23
  go_wp2_with (fail)
  generalize w.alloc (.cells #[.int .i64 k, .bool b, .int .i64 n, .string t, .slice la l.length lc, .slice oa o.length oc] 26) = W0 at HI0 Hg0 ⊢
  with_reducible refine (Hg0.out).mono ?_
  rintro e w2 ⟨T0, c0, rfl, hb0, hs0, hc1, hc2, hg2, hk2⟩
  have hI := HI0.out.step hg2 hk2 hgl
  obtain ⟨x0, x1, x2, x3, x4, x5⟩ := vcell hI.box
  have xl := hI.box.lt
  have HI := Lib.hid hI
  have Hb0 := Lib.hid hb0
  clear hI hb0
  clear hg2 hk2 HI0 Hg0
  have hX := HTx.out c0 w2 HI.out
  have HX := Lib.hid hX
  clear hX
  have z1 : T0.size + TX.size ≤ 100000000 := by omega
  have z2 : (T0 ++ TX).size = T0.size + TX.size := ByteArray.size_append
  go_wp2_with (fail)
  with_reducible refine (HX.out).mono ?_
  rintro e w3 ⟨rfl, hb3⟩
  have hI3 := HI.out.later hb3
  clear hb3 x0 x1 x2 x3 x4 x5 xl HI
  have HI := Lib.hid hI3
  have hR := (Hrt.out.ahead Hb0.out)
  rw [← app2] at hR
  clear hI3
  have HR := Lib.hid hR
  clear hR
  have hgf := HGap.out c0 w3 HI.out (by omega)
  have Hgf := Lib.hid hgf
  clear hgf
  go_wp2_with (fail)
  with_reducible refine (Hgf.out).mono ?_
  rintro e wz ⟨TZ, cz, rfl, hbz, hsz, hcz1, hcz2, hgz, hkz⟩
  have hfin : w.grownBy wz (some g) ∧ CntAt wz g cz := ⟨grownBy_trans HI.out.grown hgz, hkz⟩
  have hrd := HR.out.behind hbz
  have hs9 : (T0 ++ TX ++ TZ).size = (T0 ++ TX).size + TZ.size := ByteArray.size_append
  have hs8 : (T0 ++ TX).size ≤ 100000000 := by omega
  have Hfin := Lib.hid hfin
  have Hrd := Lib.hid hrd
  have Hs9 := Lib.hid hs9
  have Hbz := Lib.hid hbz
  clear hfin hrd hs9 hbz
  clear hgz hkz
  go_wp2
  go_ret
  exact ⟨_, cz, rfl, by rw [app2]; exact Hrd.out, by rw [Hs9.out, Hbk.out]; omega, by omega, by rw [Hbk.out]; omega, Hfin.out.1, Hfin.out.2⟩

set_option maxRecDepth 100000 in
set_option maxHeartbeats 16000000 in
theorem spread_list (l : List Val) (IH : ∀ x ∈ l, SprC x) (la oa : Option Addr) (lc oc : Nat) (w : World) (d : Int) (L : List UInt8) (ga : Option Addr) (gc g c B : Nat) (hBg : B ≤ g) (hl : l = [] ∨ ∃ g0 off, la = some ⟨g0, off, none⟩ ∧ g0 < B ∧ HoldsL w B l g0 off) (hd : d ≤ 64) (hm : ∀ x ∈ l, mayV x (d + 1) = 0) (hi : ∀ x ∈ l, inV x) (hb : (lstV l).bulk ≤ 1048576) (hG : GapsAt w B L ga) (hC : CntAt w g c) (hc : c + 2 * (lstV l).bulk ≤ 1000000000000000) (hL : L.length ≤ 1000000000) :
    Calls Tryz.prog 23 #[.agg #[.int .i64 5, .bool false, .int .i64 0, .string emptyB, .slice la l.length lc, .slice oa 0 oc], .slice ga L.length gc, .pointer (some ⟨g, 0, none⟩)] w (SprPost (lstV l) d g c w) := by
  have hgl : g < w.heap.size := Blk.lt hC
  have hI0 := SI.start hC #[.int .i64 5, .bool false, .int .i64 0, .string emptyB, .slice la l.length lc, .slice oa 0 oc]
  have hGap : ∀ (c1 : Nat) (W : World), SI w W g c1 #[.int .i64 5, .bool false, .int .i64 0, .string emptyB, .slice la l.length lc, .slice oa 0 oc] → c1 ≤ 1000000000000000 → Calls Tryz.prog 45 #[.slice ga L.length gc, .pointer (some ⟨g, 0, none⟩)] W (GapPost g c1 W) := fun c1 W h hc => gap_calls L ga gc g c1 B W (hG.grown h.grown hBg (by omega)) h.cnt hc hL
  have hg0 := hGap c _ hI0 (by omega)
  have hln := bulkL_len l
  have hbk : (lstV l).bulk = 6 + bulkL l := by unfold lstV; simp only [Val.bulk, bulkO]; rw [eb]; omega
  rw [hbk] at hb hc
  have IH_h := Lib.hid IH
  clear IH
  have HI0 := Lib.hid hI0
  have HGap := Lib.hid hGap
  have Hg0 := Lib.hid hg0
  have Hl := Lib.hid hl
  have HG := Lib.hid hG
  have Hm := Lib.hid hm
  have Hi := Lib.hid hi
  have Hbk := Lib.hid hbk
  clear hI0 hGap hg0 hl hG hm hi hbk
  go_enter Tryz.func23, Tryz.ntmps23
  go_wp2_with (fail)
  generalize w.alloc (.cells #[.int .i64 5, .bool false, .int .i64 0, .string emptyB, .slice la l.length lc, .slice oa 0 oc] 26) = W0 at HI0 Hg0 ⊢
  with_reducible refine (Hg0.out).mono ?_
  rintro e w2 ⟨T0, c0, rfl, hb0, hs0, hc1, hc2, hg2, hk2⟩
  have hI := HI0.out.step hg2 hk2 hgl
  obtain ⟨x0, x1, x2, x3, x4, x5⟩ := vcell hI.box
  have xl := hI.box.lt
  have HI := Lib.hid hI
  have Hb0 := Lib.hid hb0
  clear hI hb0
  clear hg2 hk2 HI0 Hg0
  have hS0 : Hid ((T0 ++ ⟨#[91]⟩).data.toList = T0.data.toList ++ 91 :: joinC (([] : List (List UInt8 × Val)).map (·.1)) ∧ (T0 ++ ⟨#[91]⟩).size = T0.size + 1) := ⟨by rw [app2]; rfl, by rw [ByteArray.size_append]; rfl⟩
  have hM0 : Hid (([] : List (List UInt8 × Val)).map (·.2) = l.take 0) := by show _ = _; simp
  have hR0 : Hid (∀ y ∈ ([] : List (List UInt8 × Val)), ReadsV y.1 y.2 (d + 1)) := fun y hy => by cases hy
  have hz0 : bulkL (l.take 0) = 0 := by simp [bulkL]
  have hs7 : T0.size ≤ 100000 := by omega
  go_wp2_with (fail)
  go_loopw [7, 8] (fun s i wr => ∃ (q c1 : Nat) (S : ByteArray) (ts : List (List UInt8 × Val)), s = .string S ∧ i = .int .i64 q ∧ q ≤ l.length ∧ S.size ≤ 3 + 12 * bulkL (l.take q) ∧ c0 ≤ c1 ∧ c1 ≤ c0 + 2 * bulkL (l.take q) ∧ Hid (ts.map (·.2) = l.take q) ∧ Hid (∀ y ∈ ts, ReadsV y.1 y.2 (d + 1)) ∧ Hid (S.data.toList = T0.data.toList ++ 91 :: joinC (ts.map (·.1))) ∧ Hid (SI w wr g c1 #[.int .i64 5, .bool false, .int .i64 0, .string emptyB, .slice la l.length lc, .slice oa 0 oc])) (fun _ i _ => l.length - (intOf i).toNat)
  case atStart => exact ⟨0, c0, _, [], rfl, rfl, Nat.zero_le _, by rw [hz0, hS0.out.2]; omega, Nat.le_refl _, by omega, hM0, hR0, hS0.out.1, HI⟩
  case round =>
    obtain ⟨q, c1, S, ts, rfl, rfl, hq, hSs, hc11, hc12, hM, hRd, hSl, hI⟩ := hrel
    clear hS0 hM0 hR0 hz0 HI x0 x1 x2 x3 x4 x5 xl
    have HI := hI
    clear hI
    obtain ⟨x0, x1, x2, x3, x4, x5⟩ := vcell HI.out.box
    have xl := HI.out.box.lt
    have hbt := bulkL_take_le l q
    have hS7 : S.size ≤ 20000000 := by omega
    have q0 : (0 : Int) ≤ (q : Int) := by omega
    by_cases hlt : q < l.length
    · obtain ⟨gl, off, rfl, hgB, hLL⟩ : ∃ g0 off, la = some ⟨g0, off, none⟩ ∧ g0 < B ∧ HoldsL w B l g0 off := by
        rcases Hl.out with h0 | h
        · rw [h0] at hlt; simp at hlt
        · exact h
      obtain ⟨x, hx⟩ : ∃ v, l[q]? = some v := ⟨_, List.getElem?_eq_getElem hlt⟩
      have hmem : x ∈ l := List.mem_of_getElem? hx
      have hbx := bulkL_take hx
      have hbx2 := bulkL_take_le l (q + 1)
      rw [hbx] at hbx2
      have l1 : decide ((q : Int) < (l.length : Int)) = true := decide_eq_true (by omega)
      have l2 : (q : Int) < (l.length : Int) := by omega
      have hbB : ∀ {W : World} {c2 : Nat}, SI w W g c2 #[.int .i64 5, .bool false, .int .i64 0, .string emptyB, .slice (some ⟨gl, off, none⟩) l.length lc, .slice oa 0 oc] → Below B w W := fun h => below_of_grown h.grown hBg (by omega)
      have hIHx := IH_h.out x hmem
      have hmx := Hm.out x hmem
      have hix := Hi.out x hmem
      have hMn : ts.map (·.2) ++ [x] = l.take (q + 1) := by rw [List.take_add_one, hx, hM.out]; rfl
      obtain ⟨bx, hbxe⟩ : ∃ n, x.bulk = n := ⟨_, rfl⟩
      rw [hbxe] at hbx hbx2
      obtain ⟨k', b', n', t', l', o'⟩ := x
      obtain ⟨la', lc', oa', oc', hvs, y0, y1, y2, y3, y4, y5⟩ := (hLL.below hgB (hbB HI.out)).six hx
      have hCx := hIHx _ wr (d + 1) L ga gc g c1 B hBg hvs hmx hix (by omega) (HG.out.grown HI.out.grown hBg (by omega)) HI.out.cnt (by omega) hL
      rw [show (cells6 k' b' n' t' la' l'.length lc' oa' o'.length oc').toArray = #[.int .i64 k', .bool b', .int .i64 n', .string t', .slice la' l'.length lc', .slice oa' o'.length oc'] from rfl] at hCx
      unfold SprPost at hCx
      rw [hbxe] at hCx
      have HCx := Lib.hid hCx
      have HMn := Lib.hid hMn
      have Hbxe := Lib.hid hbxe
      clear hCx hMn hbxe
      clear hIHx hmx hix hvs hx hmem hbB hLL
      go_upto_if 37 with (fail)
      go_cut [7] (fun s wx => ∃ S' : ByteArray, s = .string S' ∧ S'.size ≤ S.size + 1 ∧ Hid (∀ z, S'.data.toList ++ z = T0.data.toList ++ 91 :: joinC (ts.map (·.1) ++ [z])) ∧ wx = wr)
      case first =>
        have hlt0 : (ts.map (·.1)).length = q := by
          have := congrArg List.length hM.out
          rw [List.length_map, List.length_take] at this
          rw [List.length_map]; omega
        by_cases hq0 : q = 0
        · subst hq0
          have hN : Hid (∀ z, S.data.toList ++ z = T0.data.toList ++ 91 :: joinC (ts.map (·.1) ++ [z])) := fun z => by
            rw [hSl.out, List.eq_nil_of_length_eq_zero hlt0]
            simp [joinC]
          have g0 : decide ((0 : Int) < ((0 : Nat) : Int)) = false := by decide
          clear hlt0
          go_wp2
          go_meet
          exact ⟨S, rfl, by omega, hN, rfl⟩
        · have g0 : decide ((0 : Int) < (q : Int)) = true := decide_eq_true (by omega)
          have g1 : (0 : Int) < (q : Int) := by omega
          have hN : Hid ((∀ z, (S ++ ⟨#[44]⟩).data.toList ++ z = T0.data.toList ++ 91 :: joinC (ts.map (·.1) ++ [z])) ∧ (S ++ ⟨#[44]⟩).size ≤ S.size + 1) := by
            refine ⟨fun z => ?_, by rw [ByteArray.size_append]; exact Nat.le_refl _⟩
            rw [app2, hSl.out, joinC_snoc, if_neg (fun e => by rw [e] at hlt0; simp at hlt0; omega)]
            simp
          clear hlt0 hq0
          go_wp2
          go_meet
          exact ⟨_, rfl, hN.out.2, hN.out.1, rfl⟩
      obtain ⟨S', rfl, hS's, hS'l, rfl⟩ := hcut
      go_wp2_with (fail)
      with_reducible refine (HCx.out).mono ?_
      rintro e w3 ⟨TT, c3, rfl, hrT, hsT, hc31, hc32, hg3, hk3⟩
      have hI3 := HI.out.step hg3 hk3 hgl
      have z1 : S'.size + TT.size ≤ 100000000 := by omega
      have hz2 : (S' ++ TT).size = S'.size + TT.size := ByteArray.size_append
      have HN1 : Hid ((ts ++ [(TT.data.toList, Val.mk k' b' n' t' l' o')]).map (·.2) = l.take (q + 1)) := by show _ = _; rw [List.map_append]; exact HMn.out
      have HN2 : Hid (∀ y ∈ ts ++ [(TT.data.toList, Val.mk k' b' n' t' l' o')], ReadsV y.1 y.2 (d + 1)) := fun y hy => by
        rcases List.mem_append.1 hy with hy | hy
        · exact hRd.out y hy
        · simp only [List.mem_cons, List.not_mem_nil, or_false] at hy
          rw [hy]; exact hrT
      have HN3 : Hid ((S' ++ TT).data.toList = T0.data.toList ++ 91 :: joinC ((ts ++ [(TT.data.toList, Val.mk k' b' n' t' l' o')]).map (·.1))) := by
        show _ = _
        rw [app2, hS'l.out, List.map_append]; rfl
      have HN4 := Lib.hid hI3
      have HN5 : Hid ((S' ++ TT).size ≤ 3 + 12 * bulkL (l.take (q + 1))) := by show _ ≤ _; rw [hz2, hbx]; omega
      have HN6 : Hid (c3 ≤ c0 + 2 * bulkL (l.take (q + 1))) := by show _ ≤ _; rw [hbx]; omega
      clear hI3 hrT hg3 hk3 hz2
      go_wp2
      go_roundw
      case rel => exact ⟨q + 1, c3, _, _, rfl, by go_num, by omega, HN5.out, by omega, HN6.out, HN1, HN2, HN3, HN4⟩
      case measure => simp only [intOf]; omega
    · obtain rfl : q = l.length := by omega
      have l1 : decide ((l.length : Int) < (l.length : Int)) = false := decide_eq_false (by omega)
      have hMe := hM.out
      rw [List.take_length] at hMe hSs hc12
      have hg1 := HGap.out c1 wr HI.out (by omega)
      have HMe := Lib.hid hMe
      have Hg1 := Lib.hid hg1
      clear hMe hg1
      clear hM
      go_wp2_with (fail)
      with_reducible refine (Hg1.out).mono ?_
      rintro e w3 ⟨TG, c3, rfl, hbG, hsG, hc31, hc32, hg3, hk3⟩
      have hI3 := HI.out.step hg3 hk3 hgl
      have hR := (list_end hd hRd.out hbG).ahead Hb0.out
      rw [HMe.out] at hR
      have hR2 : ReadsV ((S ++ TG) ++ ⟨#[93]⟩ : ByteArray).data.toList (lstV l) d := by
        rw [app2, app2, hSl.out]
        have e : T0.data.toList ++ 91 :: joinC (ts.map (·.1)) ++ TG.data.toList ++ (⟨#[93]⟩ : ByteArray).data.toList = T0.data.toList ++ 91 :: (joinC (ts.map (·.1)) ++ TG.data.toList ++ [93]) := by simp
        rw [e]; exact hR
      have z1 : S.size + TG.size ≤ 100000000 := by omega
      have z2 : (S ++ TG).size = S.size + TG.size := ByteArray.size_append
      have z3 : (S ++ TG ++ ⟨#[93]⟩).size = S.size + TG.size + 1 := by rw [ByteArray.size_append, ByteArray.size_append]; rfl
      clear hR HI x0 x1 x2 x3 x4 x5 xl hg3 hk3
      have HI := Lib.hid hI3
      have HR := Lib.hid hR2
      have z4 : (S ++ TG).size ≤ 100000000 := by omega
      clear hI3 hR2
      have hgf := HGap.out c3 w3 HI.out (by omega)
      have Hgf := Lib.hid hgf
      clear hgf
      go_wp2_with (fail)
      with_reducible refine (Hgf.out).mono ?_
      rintro e wz ⟨TZ, cz, rfl, hbz, hsz, hcz1, hcz2, hgz, hkz⟩
      have hfin : w.grownBy wz (some g) ∧ CntAt wz g cz := ⟨grownBy_trans HI.out.grown hgz, hkz⟩
      have hrd := HR.out.behind hbz
      have hs9 : (S ++ TG ++ ⟨#[93]⟩ ++ TZ).size = (S ++ TG ++ ⟨#[93]⟩).size + TZ.size := ByteArray.size_append
      have hs8 : (S ++ TG ++ ⟨#[93]⟩).size ≤ 100000000 := by omega
      have Hfin := Lib.hid hfin
      have Hrd := Lib.hid hrd
      have Hs9 := Lib.hid hs9
      have Hbz := Lib.hid hbz
      clear hfin hrd hs9 hbz
      clear hgz hkz
      go_wp2
      go_ret
      exact ⟨_, cz, rfl, by rw [app2]; exact Hrd.out, by rw [Hs9.out, Hbk.out]; omega, by omega, by rw [Hbk.out]; omega, Hfin.out.1, Hfin.out.2⟩

set_option maxRecDepth 100000 in
set_option maxHeartbeats 16000000 in
theorem spread_obj (o : List (ByteArray × Val)) (IH : ∀ m ∈ o, SprC m.2) (la oa : Option Addr) (lc oc : Nat) (w : World) (d : Int) (L : List UInt8) (ga : Option Addr) (gc g c B : Nat) (hBg : B ≤ g) (ho : o = [] ∨ ∃ g0 off, oa = some ⟨g0, off, none⟩ ∧ g0 < B ∧ HoldsO w B o g0 off) (hd : d ≤ 64) (hm : ∀ m ∈ o, validB m.1 = true ∧ mayV m.2 (d + 1) = 0) (ha : ascO o) (hi : ∀ m ∈ o, inV m.2) (hb : (objV o).bulk ≤ 1048576) (hG : GapsAt w B L ga) (hC : CntAt w g c) (hc : c + 2 * (objV o).bulk ≤ 1000000000000000) (hL : L.length ≤ 1000000000) :
    Calls Tryz.prog 23 #[.agg #[.int .i64 6, .bool false, .int .i64 0, .string emptyB, .slice la 0 lc, .slice oa o.length oc], .slice ga L.length gc, .pointer (some ⟨g, 0, none⟩)] w (SprPost (objV o) d g c w) := by
  have hgl : g < w.heap.size := Blk.lt hC
  have hI0 := SI.start hC #[.int .i64 6, .bool false, .int .i64 0, .string emptyB, .slice la 0 lc, .slice oa o.length oc]
  have hGap : ∀ (c1 : Nat) (W : World), SI w W g c1 #[.int .i64 6, .bool false, .int .i64 0, .string emptyB, .slice la 0 lc, .slice oa o.length oc] → c1 ≤ 1000000000000000 → Calls Tryz.prog 45 #[.slice ga L.length gc, .pointer (some ⟨g, 0, none⟩)] W (GapPost g c1 W) := fun c1 W h hc => gap_calls L ga gc g c1 B W (hG.grown h.grown hBg (by omega)) h.cnt hc hL
  have hg0 := hGap c _ hI0 (by omega)
  have hln := bulkO_len o
  have hbk : (objV o).bulk = 6 + bulkO o := by unfold objV; simp only [Val.bulk, bulkL]; rw [eb]
  rw [hbk] at hb hc
  have hnd := asc_keys ha
  have hso := sortO_self ha
  have IH_h := Lib.hid IH
  clear IH ha
  have HI0 := Lib.hid hI0
  have HGap := Lib.hid hGap
  have Hg0 := Lib.hid hg0
  have Ho := Lib.hid ho
  have HG := Lib.hid hG
  have Hm := Lib.hid hm
  have Hi := Lib.hid hi
  have Hbk := Lib.hid hbk
  have Hnd := Lib.hid hnd
  have Hso := Lib.hid hso
  clear hI0 hGap hg0 ho hG hm hi hbk hnd hso
  go_enter Tryz.func23, Tryz.ntmps23
  go_wp2_with (fail)
  generalize w.alloc (.cells #[.int .i64 6, .bool false, .int .i64 0, .string emptyB, .slice la 0 lc, .slice oa o.length oc] 26) = W0 at HI0 Hg0 ⊢
  with_reducible refine (Hg0.out).mono ?_
  rintro e w2 ⟨T0, c0, rfl, hb0, hs0, hc1, hc2, hg2, hk2⟩
  have hI := HI0.out.step hg2 hk2 hgl
  obtain ⟨x0, x1, x2, x3, x4, x5⟩ := vcell hI.box
  have xl := hI.box.lt
  have HI := Lib.hid hI
  have Hb0 := Lib.hid hb0
  clear hI hb0
  clear hg2 hk2 HI0 Hg0
  have hS0 : Hid ((T0 ++ ⟨#[123]⟩).data.toList = T0.data.toList ++ 123 :: joinC (([] : List Mem).map Mem.text) ∧ (T0 ++ ⟨#[123]⟩).size = T0.size + 1) := ⟨by rw [app2]; rfl, by rw [ByteArray.size_append]; rfl⟩
  have hM0 : Hid (([] : List Mem).map Mem.pair = o.take 0) := by show _ = _; simp
  have hR0 : Hid (∀ m ∈ ([] : List Mem), m.good (d + 1)) := fun y hy => by cases hy
  have hz0 : bulkO (o.take 0) = 0 := by simp [bulkO]
  have hs7 : T0.size ≤ 100000 := by omega
  go_wp2_with (fail)
  go_loopw [7, 10] (fun s i wr => ∃ (q c1 : Nat) (S : ByteArray) (ms : List Mem), s = .string S ∧ i = .int .i64 q ∧ q ≤ o.length ∧ S.size ≤ 3 + 12 * bulkO (o.take q) ∧ c0 ≤ c1 ∧ c1 ≤ c0 + 2 * bulkO (o.take q) ∧ Hid (ms.map Mem.pair = o.take q) ∧ Hid (∀ m ∈ ms, m.good (d + 1)) ∧ Hid (S.data.toList = T0.data.toList ++ 123 :: joinC (ms.map Mem.text)) ∧ Hid (SI w wr g c1 #[.int .i64 6, .bool false, .int .i64 0, .string emptyB, .slice la 0 lc, .slice oa o.length oc])) (fun _ i _ => o.length - (intOf i).toNat)
  case atStart => exact ⟨0, c0, _, [], rfl, rfl, Nat.zero_le _, by rw [hz0, hS0.out.2]; omega, Nat.le_refl _, by omega, hM0, hR0, hS0.out.1, HI⟩
  case round =>
    obtain ⟨q, c1, S, ms, rfl, rfl, hq, hSs, hc11, hc12, hM, hRd, hSl, hI⟩ := hrel
    clear hS0 hM0 hR0 hz0 HI x0 x1 x2 x3 x4 x5 xl
    have HI := hI
    clear hI
    obtain ⟨x0, x1, x2, x3, x4, x5⟩ := vcell HI.out.box
    have xl := HI.out.box.lt
    have hbt := bulkO_take_leS o q
    have hS7 : S.size ≤ 20000000 := by omega
    have q0 : (0 : Int) ≤ (q : Int) := by omega
    by_cases hlt : q < o.length
    · obtain ⟨gl, off, rfl, hgB, hLL⟩ : ∃ g0 off, oa = some ⟨g0, off, none⟩ ∧ g0 < B ∧ HoldsO w B o g0 off := by
        rcases Ho.out with h0 | h
        · rw [h0] at hlt; simp at hlt
        · exact h
      obtain ⟨⟨key, x⟩, hx⟩ : ∃ v, o[q]? = some v := ⟨_, List.getElem?_eq_getElem hlt⟩
      have hmem := List.mem_of_getElem? hx
      have hbx := bulkO_takeS hx
      have hbx2 := bulkO_take_leS o (q + 1)
      rw [hbx] at hbx2
      have l1 : decide ((q : Int) < (o.length : Int)) = true := decide_eq_true (by omega)
      have l2 : (q : Int) < (o.length : Int) := by omega
      have hbB : ∀ {W : World} {c2 : Nat}, SI w W g c2 #[.int .i64 6, .bool false, .int .i64 0, .string emptyB, .slice la 0 lc, .slice (some ⟨gl, off, none⟩) o.length oc] → Below B w W := fun h => below_of_grown h.grown hBg (by omega)
      have hIHx : SprC x := IH_h.out _ hmem
      obtain ⟨hkv, hmx⟩ := Hm.out _ hmem
      have hix : inV x := Hi.out _ hmem
      have hMn : ms.map Mem.pair ++ [(key, x)] = o.take (q + 1) := by rw [List.take_add_one, hx, hM.out]; rfl
      obtain ⟨bx, hbxe⟩ : ∃ n, x.bulk = n := ⟨_, rfl⟩
      simp only [bulkP, hbxe] at hbx hbx2
      have hQu : ∀ W, Calls Tryz.prog 15 #[.string key] W fun e w' => e = .returned (.tuple #[.string ⟨(quoteB key).toArray⟩, .int .i64 0]) ∧ Below W.heap.size W w' := fun W => RQuote_calls key W (by omega) hkv
      have hqz := quoteB_len key
      obtain ⟨QQ, hQQ⟩ : ∃ Q : ByteArray, (⟨(quoteB key).toArray⟩ : ByteArray) = Q := ⟨_, rfl⟩
      have hQQl : QQ.data.toList = quoteB key := by rw [← hQQ]
      have hQs : QQ.size = (quoteB key).length := by rw [← hQQ]; rfl
      rw [hQQ] at hQu
      obtain ⟨k', b', n', t', l', o'⟩ := x
      have hsev : ∀ (c2 : Nat) W, SI w W g c2 #[.int .i64 6, .bool false, .int .i64 0, .string emptyB, .slice la 0 lc, .slice (some ⟨gl, off, none⟩) o.length oc] → ∃ la lc oa oc, HoldsV W B (.mk k' b' n' t' l' o') (cells6 k' b' n' t' la l'.length lc oa o'.length oc) ∧ W.cell? ⟨gl, off + q * 7, none⟩ = some (.string key) ∧ W.cell? ⟨gl, off + q * 7 + 1, none⟩ = some (.int .i64 k') ∧ W.cell? ⟨gl, off + q * 7 + 2, none⟩ = some (.bool b') ∧
          W.cell? ⟨gl, off + q * 7 + 3, none⟩ = some (.int .i64 n') ∧ W.cell? ⟨gl, off + q * 7 + 4, none⟩ = some (.string t') ∧ W.cell? ⟨gl, off + q * 7 + 5, none⟩ = some (.slice la l'.length lc) ∧ W.cell? ⟨gl, off + q * 7 + 6, none⟩ = some (.slice oa o'.length oc) := fun c2 W h => (hLL.below hgB (hbB h)).seven hx
      have hsp : ∀ (c2 : Nat) W cs, SI w W g c2 #[.int .i64 6, .bool false, .int .i64 0, .string emptyB, .slice la 0 lc, .slice (some ⟨gl, off, none⟩) o.length oc] → c2 ≤ c1 + 2 → HoldsV W B (.mk k' b' n' t' l' o') cs → Calls Tryz.prog 23 #[.agg cs.toArray, .slice ga L.length gc, .pointer (some ⟨g, 0, none⟩)] W (SprPost (.mk k' b' n' t' l' o') (d + 1) g c2 W) := fun c2 W cs h hc2 hv =>
        hIHx cs W (d + 1) L ga gc g c2 B hBg hv hmx hix (by omega) (HG.out.grown h.grown hBg (by omega)) h.cnt (by omega) hL
      unfold SprPost at hsp
      rw [hbxe] at hsp
      obtain ⟨xa, xc, xo, xp, hv0, k0, k1, k2, k3, k4, k5, k6⟩ := hsev _ _ HI.out
      have Hsp := Lib.hid hsp
      have HMn := Lib.hid hMn
      have Hbxe := Lib.hid hbxe
      have Hsev := Lib.hid hsev
      have HQu := Lib.hid hQu
      have HQQl := Lib.hid hQQl
      have Hkv := Lib.hid hkv
      clear hsp hMn hbxe hsev hQu hQQl hkv
      clear hIHx hmx hix hx hmem hbB hLL hv0 hQQ
      go_upto_if 69 with (fail)
      go_cut [7] (fun s wx => ∃ S' : ByteArray, s = .string S' ∧ S'.size ≤ S.size + 1 ∧ Hid (∀ z, S'.data.toList ++ z = T0.data.toList ++ 123 :: joinC (ms.map Mem.text ++ [z])) ∧ wx = wr)
      case first =>
        have hlt0 : (ms.map Mem.text).length = q := by
          have := congrArg List.length hM.out
          rw [List.length_map, List.length_take] at this
          rw [List.length_map]; omega
        by_cases hq0 : q = 0
        · subst hq0
          have hN : Hid (∀ z, S.data.toList ++ z = T0.data.toList ++ 123 :: joinC (ms.map Mem.text ++ [z])) := fun z => by
            rw [hSl.out, List.eq_nil_of_length_eq_zero hlt0]
            simp [joinC]
          have g0 : decide ((0 : Int) < ((0 : Nat) : Int)) = false := by decide
          clear hlt0
          go_wp2
          go_meet
          exact ⟨S, rfl, by omega, hN, rfl⟩
        · have g0 : decide ((0 : Int) < (q : Int)) = true := decide_eq_true (by omega)
          have g1 : (0 : Int) < (q : Int) := by omega
          have hN : Hid ((∀ z, (S ++ ⟨#[44]⟩).data.toList ++ z = T0.data.toList ++ 123 :: joinC (ms.map Mem.text ++ [z])) ∧ (S ++ ⟨#[44]⟩).size ≤ S.size + 1) := by
            refine ⟨fun z => ?_, by rw [ByteArray.size_append]; exact Nat.le_refl _⟩
            rw [app2, hSl.out, joinC_snoc, if_neg (fun e => by rw [e] at hlt0; simp at hlt0; omega)]
            simp
          clear hlt0 hq0
          go_wp2
          go_meet
          exact ⟨_, rfl, hN.out.2, hN.out.1, rfl⟩
      obtain ⟨S', rfl, hS's, hS'l, rfl⟩ := hcut
      have hQ1 := HQu.out wc
      have HQ1 := Lib.hid hQ1
      clear hQ1
      go_wp2_with (fail)
      with_reducible refine (HQ1.out).mono ?_
      rintro e w3 ⟨rfl, hb3⟩
      have hI3 := HI.out.later hb3
      have hg3 := HGap.out c1 w3 hI3 (by omega)
      clear hb3 k0 k1 k2 k3 k4 k5 k6 HI x0 x1 x2 x3 x4 x5 xl
      have HI3 := Lib.hid hI3
      have Hg3 := Lib.hid hg3
      clear hI3 hg3
      go_wp2_with (fail)
      with_reducible refine (Hg3.out).mono ?_
      rintro e w4 ⟨TA, c4, rfl, hbA, hsA, hc41, hc42, hgA, hkA⟩
      have hI4 := HI3.out.step hgA hkA hgl
      have hg4 := HGap.out c4 w4 hI4 (by omega)
      clear hgA hkA
      have HI4 := Lib.hid hI4
      have Hg4 := Lib.hid hg4
      clear hI4 hg4
      go_wp2_with (fail)
      with_reducible refine (Hg4.out).mono ?_
      rintro e w5 ⟨TB, c5, rfl, hbB, hsB, hc51, hc52, hgB5, hkB5⟩
      have hI5 := HI4.out.step hgB5 hkB5 hgl
      obtain ⟨xa, xc, xo, xp, hv5, k0, k1, k2, k3, k4, k5, k6⟩ := Hsev.out _ _ hI5
      obtain ⟨x0, x1, x2, x3, x4, x5⟩ := vcell hI5.box
      have xl := hI5.box.lt
      have hC5 := Hsp.out c5 w5 _ hI5 (by omega) hv5
      rw [show (cells6 k' b' n' t' xa l'.length xc xo o'.length xp).toArray = #[.int .i64 k', .bool b', .int .i64 n', .string t', .slice xa l'.length xc, .slice xo o'.length xp] from rfl] at hC5
      clear hgB5 hkB5 hv5
      have HI5 := Lib.hid hI5
      have HC5 := Lib.hid hC5
      have HbA := Lib.hid hbA
      have HbB := Lib.hid hbB
      clear hI5 hC5 hbA hbB
      go_wp2_with (fail)
      with_reducible refine (HC5.out).mono ?_
      rintro e w6 ⟨TT, c6, rfl, hrT, hsT, hc61, hc62, hg6, hk6⟩
      have hI6 := HI5.out.step hg6 hk6 hgl
      have u1 : S'.size ≤ 20000001 := by omega
      have u2 : TA.size + QQ.size + TB.size + TT.size ≤ 20000000 := by omega
      have z1 : (S' ++ TA).size = S'.size + TA.size := ByteArray.size_append
      have z2 : (S' ++ TA ++ QQ).size = S'.size + TA.size + QQ.size := by rw [ByteArray.size_append, ByteArray.size_append]
      have z3 : (S' ++ TA ++ QQ ++ TB).size = S'.size + TA.size + QQ.size + TB.size := by rw [ByteArray.size_append, z2]
      have z4 : (S' ++ TA ++ QQ ++ TB ++ ⟨#[58]⟩).size = S'.size + TA.size + QQ.size + TB.size + 1 := by rw [ByteArray.size_append, z3]; rfl
      have z5 : (S' ++ TA ++ QQ ++ TB ++ ⟨#[58]⟩ ++ TT).size = S'.size + TA.size + QQ.size + TB.size + 1 + TT.size := by rw [ByteArray.size_append, z4]
      have y1 : (S' ++ TA).size ≤ 100000000 := by omega
      have y2 : (S' ++ TA ++ QQ).size ≤ 100000000 := by omega
      have y3 : (S' ++ TA ++ QQ ++ TB).size ≤ 100000000 := by omega
      have y4 : (S' ++ TA ++ QQ ++ TB ++ ⟨#[58]⟩).size ≤ 100000001 := by omega
      have HN1 : Hid ((ms ++ [Mem.mk TA.data.toList TB.data.toList TT.data.toList key (Val.mk k' b' n' t' l' o')]).map Mem.pair = o.take (q + 1)) := by show _ = _; rw [List.map_append]; exact HMn.out
      have HN2 : Hid (∀ m ∈ ms ++ [Mem.mk TA.data.toList TB.data.toList TT.data.toList key (Val.mk k' b' n' t' l' o')], m.good (d + 1)) := fun y hy => by
        rcases List.mem_append.1 hy with hy | hy
        · exact hRd.out y hy
        · simp only [List.mem_cons, List.not_mem_nil, or_false] at hy
          rw [hy]; exact ⟨HbA.out, HbB.out, Hkv.out, hrT⟩
      have HN3 : Hid ((S' ++ TA ++ QQ ++ TB ++ ⟨#[58]⟩ ++ TT).data.toList = T0.data.toList ++ 123 :: joinC ((ms ++ [Mem.mk TA.data.toList TB.data.toList TT.data.toList key (Val.mk k' b' n' t' l' o')]).map Mem.text)) := by
        show _ = _
        rw [List.map_append]
        refine Eq.trans ?_ (hS'l.out (Mem.mk TA.data.toList TB.data.toList TT.data.toList key (Val.mk k' b' n' t' l' o')).text)
        simp only [app2, Mem.text, HQQl.out]
        simp
      have HN4 := Lib.hid hI6
      have HN5 : Hid ((S' ++ TA ++ QQ ++ TB ++ ⟨#[58]⟩ ++ TT).size ≤ 3 + 12 * bulkO (o.take (q + 1))) := by show _ ≤ _; rw [z5, hbx]; omega
      have HN6 : Hid (c6 ≤ c0 + 2 * bulkO (o.take (q + 1))) := by show _ ≤ _; rw [hbx]; omega
      clear hI6 hrT hg6 hk6 z5 k0 k1 k2 k3 k4 k5 k6
      go_wp2
      go_roundw
      case rel => exact ⟨q + 1, c6, _, _, rfl, by go_num, by omega, HN5.out, by omega, HN6.out, HN1, HN2, HN3, HN4⟩
      case measure => simp only [intOf]; omega
    · obtain rfl : q = o.length := by omega
      have l1 : decide ((o.length : Int) < (o.length : Int)) = false := decide_eq_false (by omega)
      have hMe := hM.out
      rw [List.take_length] at hMe hSs hc12
      have hg1 := HGap.out c1 wr HI.out (by omega)
      have HMe := Lib.hid hMe
      have Hg1 := Lib.hid hg1
      clear hMe hg1
      clear hM
      go_wp2_with (fail)
      with_reducible refine (Hg1.out).mono ?_
      rintro e w3 ⟨TG, c3, rfl, hbG, hsG, hc31, hc32, hg3, hk3⟩
      have hI3 := HI.out.step hg3 hk3 hgl
      have hR := (object_end hd hRd.out (by rw [HMe.out]; exact Hnd.out) hbG).ahead Hb0.out
      rw [HMe.out, Hso.out] at hR
      have hR2 : ReadsV ((S ++ TG) ++ ⟨#[125]⟩ : ByteArray).data.toList (objV o) d := by
        rw [app2, app2, hSl.out]
        have e : T0.data.toList ++ 123 :: joinC (ms.map Mem.text) ++ TG.data.toList ++ (⟨#[125]⟩ : ByteArray).data.toList = T0.data.toList ++ 123 :: (joinC (ms.map Mem.text) ++ TG.data.toList ++ [125]) := by simp
        rw [e]; exact hR
      have z1 : S.size + TG.size ≤ 100000000 := by omega
      have z2 : (S ++ TG).size = S.size + TG.size := ByteArray.size_append
      have z3 : (S ++ TG ++ ⟨#[125]⟩).size = S.size + TG.size + 1 := by rw [ByteArray.size_append, ByteArray.size_append]; rfl
      clear hR HI x0 x1 x2 x3 x4 x5 xl hg3 hk3
      have HI := Lib.hid hI3
      have HR := Lib.hid hR2
      have z4 : (S ++ TG).size ≤ 100000000 := by omega
      clear hI3 hR2
      have hgf := HGap.out c3 w3 HI.out (by omega)
      have Hgf := Lib.hid hgf
      clear hgf
      go_wp2_with (fail)
      with_reducible refine (Hgf.out).mono ?_
      rintro e wz ⟨TZ, cz, rfl, hbz, hsz, hcz1, hcz2, hgz, hkz⟩
      have hfin : w.grownBy wz (some g) ∧ CntAt wz g cz := ⟨grownBy_trans HI.out.grown hgz, hkz⟩
      have hrd := HR.out.behind hbz
      have hs9 : (S ++ TG ++ ⟨#[125]⟩ ++ TZ).size = (S ++ TG ++ ⟨#[125]⟩).size + TZ.size := ByteArray.size_append
      have hs8 : (S ++ TG ++ ⟨#[125]⟩).size ≤ 100000000 := by omega
      have Hfin := Lib.hid hfin
      have Hrd := Lib.hid hrd
      have Hs9 := Lib.hid hs9
      have Hbz := Lib.hid hbz
      clear hfin hrd hs9 hbz
      clear hgz hkz
      go_wp2
      go_ret
      exact ⟨_, cz, rfl, by rw [app2]; exact Hrd.out, by rw [Hs9.out, Hbk.out]; omega, by omega, by rw [Hbk.out]; omega, Hfin.out.1, Hfin.out.2⟩

theorem spread_all : ∀ v, SprC v := by
  refine Val.ind ?_
  intro k b n t l o hl ho cs w d L ga gc g c B hBg hV hm hi hb hG hC hc hL
  have hV' := hV
  simp only [HoldsV] at hV'
  obtain ⟨la, lc, oa, oc, rfl, hla, hoa⟩ := hV'
  obtain ⟨h1, hd, _, h4, h5⟩ := mayV_parts hm
  obtain ⟨_, ht, hln, hon⟩ := odd_parts h1
  obtain ⟨hbb, hn⟩ := odd_bn h1
  have hi' := hi
  simp only [inV] at hi'
  by_cases k5 : k = 5
  · subst k5
    have e2 : o = [] := List.eq_nil_of_length_eq_zero (hon.resolve_left (by decide))
    have e3 : t = emptyB := ht.resolve_left (by decide)
    have e4 : b = false := hbb.resolve_left (by decide)
    have e5 : n = 0 := hn.resolve_left (by decide)
    subst e2 e3 e4 e5
    exact spread_list l hl la oa lc oc w d L ga gc g c B hBg hla hd (fun x hx => mayL_all h4 x hx) (fun x hx => inL_mem hi'.2.1 hx) hb hG hC hc hL
  by_cases k6 : k = 6
  · subst k6
    have e2 : l = [] := List.eq_nil_of_length_eq_zero (hln.resolve_left (by decide))
    have e3 : t = emptyB := ht.resolve_left (by decide)
    have e4 : b = false := hbb.resolve_left (by decide)
    have e5 : n = 0 := hn.resolve_left (by decide)
    subst e2 e3 e4 e5
    exact spread_obj o ho la oa lc oc w d L ga gc g c B hBg hoa hd (fun m hm' => mayO_all h5 m hm') (mayO_rise h5).1 (fun m hm' => inO_mem hi'.2.2 hm') hb hG hC hc hL
  exact spread_leaf k b n t l o k5 k6 la oa lc oc w d L ga gc g c B hBg hV hm hi hb hG hC hc hL
end Go.Proofs.YtgjiienipeoajaaGreatDoor
