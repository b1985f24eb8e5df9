/- Parts, joined: The shapes of mutators: what each name has. No condition. -/
import Derived.Test.YtemceefalkfneaaGreatDoorProg
import Derived.Laws.EntriesVeiled
import Derived.Test.YtemceefalkfneaaGreatDoorKCm1
import Derived.Test.YtemceefalkfneaaGreatDoorKPushSpoilt3
import Derived.Test.YtemceefalkfneaaGreatDoorKPushSpoilt12
/- The shapes of mutators: what each name has. No condition. -/
namespace Go.Proofs.YtemceefalkfneaaGreatDoor
open Go Go.RowKit

abbrev Tneed : TypeId := 239
abbrev Tshapes : TypeId := 159
/-- A shape, as it lies in the map: its kind, its fields, what reads it, what writes it. -/
abbrev shapeV (k : Int) (f n : Nat) (rd wr : Value) : Value := .agg #[.int .i64 k, .slice (some ⟨f, 0, none⟩) n n, rd, wr]
theorem valued_calls (k : Int) (w : World) : Calls Tryz.prog 149 #[.int .i64 k] w fun e w' => Below w.heap.size w w' ∧ ∃ f, e = .returned (shapeV k f 2 (.func (.func 212) #[] #[]) (.func (.func 214) #[] #[])) ∧
    w.heap.size ≤ f ∧ Blk w' f Tneed #[.string kKey, .int .i64 0, .string kVal, .int .i64 0] := by
  go_enter Tryz.func149, Tryz.ntmps149
  go_wp2
  have h := Blk.new (w.alloc (.cells #[.int .i64 k, .slice (some ⟨w.heap.size + 1, 0, none⟩) 2 2, .func (.func 212) #[] #[], .func (.func 214) #[] #[]] 233)) Tneed #[.string kKey, .int .i64 0, .string kVal, .int .i64 0]
  rw [World.size_alloc] at h
  exact bodyPost_ret (v := shapeV k (w.heap.size + 1) 2 (.func (.func 212) #[] #[]) (.func (.func 214) #[] #[])) (by simp [results, Tryz.results149, go_sem]) rfl ⟨((Below.refl _ _).alloc (Nat.le_refl _) _).alloc (by simp) _, _, rfl, by omega, h⟩
theorem swapped_calls (w : World) : Calls Tryz.prog 158 #[] w fun e w' => Below w.heap.size w w' ∧ ∃ f, e = .returned (shapeV 4 f 3 (.func (.func 215) #[] #[]) (.func (.func 216) #[] #[])) ∧
    w.heap.size ≤ f ∧ Blk w' f Tneed #[.string kIs, .int .i64 1, .string kKey, .int .i64 0, .string kWas, .int .i64 1] := by
  go_enter Tryz.func158, Tryz.ntmps158
  go_wp2
  have h := Blk.new (w.alloc (.cells #[.int .i64 4, .slice (some ⟨w.heap.size + 1, 0, none⟩) 3 3, .func (.func 215) #[] #[], .func (.func 216) #[] #[]] 233)) Tneed #[.string kIs, .int .i64 1, .string kKey, .int .i64 0, .string kWas, .int .i64 1]
  rw [World.size_alloc] at h
  exact bodyPost_ret (v := shapeV 4 (w.heap.size + 1) 3 (.func (.func 215) #[] #[]) (.func (.func 216) #[] #[])) (by simp [results, Tryz.results158, go_sem]) rfl ⟨((Below.refl _ _).alloc (Nat.le_refl _) _).alloc (by simp) _, _, rfl, by omega, h⟩
theorem sequence_calls (fn gn : Fn) (c1 c2 : Array Value) (w : World) : Calls Tryz.prog 159 #[.func fn #[] c1, .func gn #[] c2] w fun e w' => Below w.heap.size w w' ∧ ∃ f r x, e = .returned (shapeV 7 f 2 (.func (.func 218) #[] #[.pointer (some ⟨r, 0, none⟩)]) (.func (.func 220) #[] #[.pointer (some ⟨x, 0, none⟩)])) ∧
    (w.heap.size ≤ f ∧ w.heap.size ≤ r ∧ w.heap.size ≤ x) ∧ Blk w' f Tneed #[.string kDo, .int .i64 0, .string kIf, .int .i64 1] ∧ Blk w' r 246 #[.func fn #[] c1] ∧ Blk w' x 247 #[.func gn #[] c2] := by
  have hr := Blk.new w 246 #[.func fn #[] c1]
  have hx := Blk.new (w.alloc (.cells #[.func fn #[] c1] 246)) 247 #[.func gn #[] c2]
  have h := Blk.new (((w.alloc (.cells #[.func fn #[] c1] 246)).alloc (.cells #[.func gn #[] c2] 247)).alloc (.cells #[.int .i64 7, .slice (some ⟨w.heap.size + 1 + 1 + 1, 0, none⟩) 2 2, .func (.func 218) #[] #[.pointer (some ⟨w.heap.size, 0, none⟩)], .func (.func 220) #[] #[.pointer (some ⟨w.heap.size + 1, 0, none⟩)]] 233)) Tneed #[.string kDo, .int .i64 0, .string kIf, .int .i64 1]
  rw [World.size_alloc] at hx
  rw [World.size_alloc, World.size_alloc, World.size_alloc] at h
  have Hr := Lib.hid hr
  have Hx := Lib.hid hx
  have H := Lib.hid h
  clear hr hx h
  go_enter Tryz.func159, Tryz.ntmps159
  go_wp2
  refine bodyPost_ret (v := shapeV 7 (w.heap.size + 1 + 1 + 1) 2 (.func (.func 218) #[] #[.pointer (some ⟨w.heap.size, 0, none⟩)]) (.func (.func 220) #[] #[.pointer (some ⟨w.heap.size + 1, 0, none⟩)])) (by simp [results, Tryz.results159, go_sem]) rfl
    ⟨((((Below.refl _ _).alloc (Nat.le_refl _) _).alloc (by simp) _).alloc (by simp; omega) _).alloc (by simp; omega) _, _, _, _, rfl, ⟨by omega, by omega, by omega⟩, H.out, ((Hr.out.alloc _).alloc _).alloc _, (Hx.out.alloc _).alloc _⟩

/-- The shapes, as they lie: g: the map, A: the variable that holds it, R, W: the two functions that sequence was handed, F: the fields of each kind. -/
structure Shp (w : World) (g A R W : Nat) (F : Nat → Nat) : Prop where
  map : MapAt Value.string w g [(nPut, shapeV 1 (F 1) 2 (.func (.func 212) #[] #[]) (.func (.func 214) #[] #[])),
    (nApp, shapeV 5 (F 5) 2 (.func (.func 212) #[] #[]) (.func (.func 214) #[] #[])),
    (nDel, shapeV 2 (F 2) 1 (.func (.func 150) #[] #[]) (.func (.func 152) #[] #[])),
    (nInc, shapeV 3 (F 3) 2 (.func (.func 153) #[] #[]) (.func (.func 155) #[] #[])),
    (nMove, shapeV 6 (F 6) 2 (.func (.func 156) #[] #[]) (.func (.func 157) #[] #[])),
    (nCas, shapeV 4 (F 4) 3 (.func (.func 215) #[] #[]) (.func (.func 216) #[] #[])),
    (nSeq, shapeV 7 (F 7) 2 (.func (.func 218) #[] #[.pointer (some ⟨R, 0, none⟩)]) (.func (.func 220) #[] #[.pointer (some ⟨W, 0, none⟩)]))]
  all_ : Blk w A Tshapes #[.map (some g)]
  rd : Blk w R 246 #[.func (.func 160) #[] #[.pointer (some ⟨A, 0, none⟩)]]
  wr : Blk w W 247 #[.func (.func 162) #[] #[.pointer (some ⟨A, 0, none⟩)]]
  f1 : Blk w (F 1) Tneed #[.string kKey, .int .i64 0, .string kVal, .int .i64 0]
  f5 : Blk w (F 5) Tneed #[.string kKey, .int .i64 0, .string kVal, .int .i64 0]
  f2 : Blk w (F 2) Tneed #[.string kKey, .int .i64 0]
  f3 : Blk w (F 3) Tneed #[.string kBy, .int .i64 0, .string kKey, .int .i64 0]
  f6 : Blk w (F 6) Tneed #[.string kFrom, .int .i64 0, .string kTo, .int .i64 0]
  f4 : Blk w (F 4) Tneed #[.string kIs, .int .i64 1, .string kKey, .int .i64 0, .string kWas, .int .i64 1]
  f7 : Blk w (F 7) Tneed #[.string kDo, .int .i64 0, .string kIf, .int .i64 1]
theorem Shp.below {w w' : World} {g A R W : Nat} {F : Nat → Nat} (h : Shp w g A R W F) (hb : Below w.heap.size w w') : Shp w' g A R W F :=
  ⟨h.map.below hb h.map.lt, h.all_.below hb h.all_.lt, h.rd.below hb h.rd.lt, h.wr.below hb h.wr.lt, h.f1.below hb h.f1.lt, h.f5.below hb h.f5.lt, h.f2.below hb h.f2.lt, h.f3.below hb h.f3.lt, h.f6.below hb h.f6.lt, h.f4.below hb h.f4.lt, h.f7.below hb h.f7.lt⟩
theorem mkey_shapes : MKey Tryz.prog 9 Value.string := mkey_string Tryz.underlying9

/-- While the map is being made: g: its block, A: the variable. -/
structure SS (w : World) (g A : Nat) (wr : World) (kv : List (ByteArray × Value)) : Prop where
  below : Below w.heap.size w wr
  map : MapAt Value.string wr g kv
  var : Blk wr A Tshapes #[.map none]
  ge : w.heap.size ≤ g ∧ g ≠ A
theorem SS.call {w wr w' : World} {g A : Nat} {kv : List (ByteArray × Value)} (h : SS w g A wr kv) (hb : Below wr.heap.size wr w') : SS w g A w' kv :=
  ⟨h.below.trans (hb.mono h.below.size), h.map.below hb h.map.lt, h.var.below hb h.var.lt, h.ge⟩
theorem SS.ins {w wr w' : World} {g A : Nat} {kv kv' : List (ByteArray × Value)} (h : SS w g A wr kv) (hM : MapAt Value.string w' g kv') (hg : wr.grownBy w' (some g)) : SS w g A w' kv' :=
  ⟨h.below.grown hg h.below.size fun k e => by cases e; exact h.ge.1, hM, h.var.grown hg (by simpa using Ne.symm h.ge.2), h.ge⟩
theorem findM_ne {a k : ByteArray} {v : Value} {r : List (ByteArray × Value)} (h : a ≠ k) (hr : findM a r = none) : findM a ((k, v) :: r) = none := by
  simp only [findM, if_neg h]; exact hr

set_option maxRecDepth 100000 in
set_option maxHeartbeats 4000000 in
theorem shapes_calls (w : World) : Calls Tryz.prog 97 #[] w fun e w' => Below w.heap.size w w' ∧ ∃ g A R W F, e = .returned (.map (some g)) ∧ Shp w' g A R W F := by
  have hmm := fun W => run_makeMap (P := Tryz.prog) Tshapes W
  go_enter Tryz.func97, Tryz.ntmps97
  go_upto_region 2 with (fail)
  have hS0 : SS w (w.heap.size + 1) w.heap.size ((w.alloc (.cells #[.map none] Tshapes)).alloc (.map #[] 0)) [] := by
    have := MapAt.new (f := Value.string) (w.alloc (.cells #[.map none] Tshapes))
    rw [World.size_alloc] at this
    exact ⟨((Below.refl _ _).alloc (Nat.le_refl _) _).alloc (by simp) _, this, (Blk.new _ _ _).alloc _, by omega, by omega⟩
  have h0s : ((w.alloc (.cells #[.map none] Tshapes)).alloc (.map #[] 0)).heap.size = w.heap.size + 1 + 1 := by simp
  have HS0 := Lib.hid hS0
  have H0s := Lib.hid h0s
  clear hS0 h0s
  go_wp2_with (fail)
  with_reducible refine (valued_calls 1 _).mono ?_
  rintro e w1 ⟨hb1, f1, rfl, hf1, k1⟩
  rw [H0s.out] at hf1
  have HS1 := Lib.hid (HS0.out.call hb1)
  have K1 := Lib.hid k1
  clear hb1 k1
  go_wp2_with ((with_reducible refine wpList_insertM rfl (.tmp 2) _ _ Tshapes rfl mkey_shapes Tryz.underlying159 rfl HS1.out.map rfl rfl rfl ?_); intro w2 hM2 hg2 hs2)
  have HS2 := Lib.hid (HS1.out.ins hM2 hg2)
  have K12 := Lib.hid (K1.out.grown hg2 (by simp; omega))
  have hz2 : w.heap.size + 1 + 1 ≤ w2.heap.size := by have := K1.out.lt; omega
  clear hM2 hg2 hs2 K1 HS1 HS0
  go_wp2_with (fail)
  with_reducible refine (valued_calls 5 _).mono ?_
  rintro e w3 ⟨hb3, f5, rfl, hf5, k5⟩
  have HS3 := Lib.hid (HS2.out.call hb3)
  have K13 := Lib.hid (K12.out.below hb3 K12.out.lt)
  have K53 := Lib.hid k5
  clear hb3 k5 K12 HS2
  go_wp2_with (first
    | ((with_reducible refine wpList_insertM rfl (.tmp 2) _ _ Tshapes rfl mkey_shapes Tryz.underlying159 rfl HS3.out.map rfl rfl (findM_ne (by decide) rfl) ?_); intro w4 hM4 hg4 hs4; have HS4 := Lib.hid (HS3.out.ins hM4 hg4); have K14 := Lib.hid (K13.out.grown hg4 (by simp; omega)); have K54 := Lib.hid (K53.out.grown hg4 (by simp; omega)); have hz4 : w.heap.size + 1 + 1 ≤ w4.heap.size := (by have := K14.out.lt; omega); clear hM4 hg4 hs4 HS3 K13 K53)
    | (((with_reducible refine wpList_insertM rfl (.tmp 2) _ _ Tshapes rfl mkey_shapes Tryz.underlying159 rfl (HS4.out.call (alloc_below w4 (.cells #[.string kKey, .int .i64 0] Tneed))).map rfl rfl (findM_ne (by decide) (findM_ne (by decide) rfl)) ?_)); intro w5 hM5 hg5 hs5; have HS5 := Lib.hid ((HS4.out.call (alloc_below w4 (.cells #[.string kKey, .int .i64 0] Tneed))).ins hM5 hg5); have K15 := Lib.hid ((K14.out.alloc (.cells #[.string kKey, .int .i64 0] Tneed)).grown hg5 (by simp; omega)); have K55 := Lib.hid ((K54.out.alloc (.cells #[.string kKey, .int .i64 0] Tneed)).grown hg5 (by simp; omega)); have K25 := Lib.hid ((Blk.new w4 Tneed #[.string kKey, .int .i64 0]).grown hg5 (by simp; omega)); have hz5 : w.heap.size + 1 + 1 ≤ w5.heap.size := (by have := K15.out.lt; omega); clear hM5 hg5 hs5 HS4 K14 K54)
    | (((with_reducible refine wpList_insertM rfl (.tmp 2) _ _ Tshapes rfl mkey_shapes Tryz.underlying159 rfl (HS5.out.call (alloc_below w5 (.cells #[.string kBy, .int .i64 0, .string kKey, .int .i64 0] Tneed))).map rfl rfl (findM_ne (by decide) (findM_ne (by decide) (findM_ne (by decide) rfl))) ?_)); intro w6 hM6 hg6 hs6; have HS6 := Lib.hid ((HS5.out.call (alloc_below w5 (.cells #[.string kBy, .int .i64 0, .string kKey, .int .i64 0] Tneed))).ins hM6 hg6); have K16 := Lib.hid ((K15.out.alloc (.cells #[.string kBy, .int .i64 0, .string kKey, .int .i64 0] Tneed)).grown hg6 (by simp; omega)); have K56 := Lib.hid ((K55.out.alloc (.cells #[.string kBy, .int .i64 0, .string kKey, .int .i64 0] Tneed)).grown hg6 (by simp; omega)); have K26 := Lib.hid ((K25.out.alloc (.cells #[.string kBy, .int .i64 0, .string kKey, .int .i64 0] Tneed)).grown hg6 (by simp; omega)); have K36 := Lib.hid ((Blk.new w5 Tneed #[.string kBy, .int .i64 0, .string kKey, .int .i64 0]).grown hg6 (by simp; omega)); have hz6 : w.heap.size + 1 + 1 ≤ w6.heap.size := (by have := K16.out.lt; omega); clear hM6 hg6 hs6 HS5 K15 K55 K25)
    | (((with_reducible refine wpList_insertM rfl (.tmp 2) _ _ Tshapes rfl mkey_shapes Tryz.underlying159 rfl (HS6.out.call (alloc_below w6 (.cells #[.string kFrom, .int .i64 0, .string kTo, .int .i64 0] Tneed))).map rfl rfl (findM_ne (by decide) (findM_ne (by decide) (findM_ne (by decide) (findM_ne (by decide) rfl)))) ?_)); intro w7 hM7 hg7 hs7; have HS7 := Lib.hid ((HS6.out.call (alloc_below w6 (.cells #[.string kFrom, .int .i64 0, .string kTo, .int .i64 0] Tneed))).ins hM7 hg7); have K17 := Lib.hid ((K16.out.alloc (.cells #[.string kFrom, .int .i64 0, .string kTo, .int .i64 0] Tneed)).grown hg7 (by simp; omega)); have K57 := Lib.hid ((K56.out.alloc (.cells #[.string kFrom, .int .i64 0, .string kTo, .int .i64 0] Tneed)).grown hg7 (by simp; omega)); have K27 := Lib.hid ((K26.out.alloc (.cells #[.string kFrom, .int .i64 0, .string kTo, .int .i64 0] Tneed)).grown hg7 (by simp; omega)); have K37 := Lib.hid ((K36.out.alloc (.cells #[.string kFrom, .int .i64 0, .string kTo, .int .i64 0] Tneed)).grown hg7 (by simp; omega)); have K67 := Lib.hid ((Blk.new w6 Tneed #[.string kFrom, .int .i64 0, .string kTo, .int .i64 0]).grown hg7 (by simp; omega)); have hz7 : w.heap.size + 1 + 1 ≤ w7.heap.size := (by have := K17.out.lt; omega); clear hM7 hg7 hs7 HS6 K16 K56 K26 K36))
  with_reducible refine (swapped_calls _).mono ?_
  rintro e w8 ⟨hb8, f4, rfl, hf4, k4⟩
  have HS8 := Lib.hid (HS7.out.call hb8)
  have K18 := Lib.hid (K17.out.below hb8 K17.out.lt)
  have K58 := Lib.hid (K57.out.below hb8 K57.out.lt)
  have K28 := Lib.hid (K27.out.below hb8 K27.out.lt)
  have K38 := Lib.hid (K37.out.below hb8 K37.out.lt)
  have K68 := Lib.hid (K67.out.below hb8 K67.out.lt)
  have K48 := Lib.hid k4
  clear hb8 k4 HS7 K17 K57 K27 K37 K67
  go_wp2_with ((with_reducible refine wpList_insertM rfl (.tmp 2) _ _ Tshapes rfl mkey_shapes Tryz.underlying159 rfl HS8.out.map rfl rfl (findM_ne (by decide) (findM_ne (by decide) (findM_ne (by decide) (findM_ne (by decide) (findM_ne (by decide) rfl))))) ?_); intro w9 hM9 hg9 hs9; have HS9 := Lib.hid (HS8.out.ins hM9 hg9); have K19 := Lib.hid (K18.out.grown hg9 (by simp; omega)); have K59 := Lib.hid (K58.out.grown hg9 (by simp; omega)); have K29 := Lib.hid (K28.out.grown hg9 (by simp; omega)); have K39 := Lib.hid (K38.out.grown hg9 (by simp; omega)); have K69 := Lib.hid (K68.out.grown hg9 (by simp; omega)); have K49 := Lib.hid (K48.out.grown hg9 (by simp; omega)); have hz9 : w.heap.size + 1 + 1 ≤ w9.heap.size := (by have := K19.out.lt; omega); clear hM9 hg9 hs9 HS8 K18 K58 K28 K38 K68 K48)
  with_reducible refine (sequence_calls _ _ _ _ _).mono ?_
  rintro e w10 ⟨hb10, f7, r, x, rfl, ⟨hf7, hr, hx⟩, k7, kr, kx⟩
  have HSa := Lib.hid (HS9.out.call hb10)
  have K1a := Lib.hid (K19.out.below hb10 K19.out.lt)
  have K5a := Lib.hid (K59.out.below hb10 K59.out.lt)
  have K2a := Lib.hid (K29.out.below hb10 K29.out.lt)
  have K3a := Lib.hid (K39.out.below hb10 K39.out.lt)
  have K6a := Lib.hid (K69.out.below hb10 K69.out.lt)
  have K4a := Lib.hid (K49.out.below hb10 K49.out.lt)
  have K7 := Lib.hid k7
  have Kr := Lib.hid kr
  have Kx := Lib.hid kx
  clear k7 kr kx
  clear hb10 HS9 K19 K59 K29 K39 K69 K49
  go_wp2_with ((with_reducible refine wpList_insertM rfl (.tmp 2) _ _ Tshapes rfl mkey_shapes Tryz.underlying159 rfl HSa.out.map rfl rfl (findM_ne (by decide) (findM_ne (by decide) (findM_ne (by decide) (findM_ne (by decide) (findM_ne (by decide) (findM_ne (by decide) rfl)))))) ?_); intro wb hMb hgb hsb; have HSb := Lib.hid (HSa.out.ins hMb hgb); have K1b := Lib.hid (K1a.out.grown hgb (by simp; omega)); have K5b := Lib.hid (K5a.out.grown hgb (by simp; omega)); have K2b := Lib.hid (K2a.out.grown hgb (by simp; omega)); have K3b := Lib.hid (K3a.out.grown hgb (by simp; omega)); have K6b := Lib.hid (K6a.out.grown hgb (by simp; omega)); have K4b := Lib.hid (K4a.out.grown hgb (by simp; omega)); have K7b := Lib.hid (K7.out.grown hgb (by simp; omega)); have Krb := Lib.hid (Kr.out.grown hgb (by simp; omega)); have Kxb := Lib.hid (Kx.out.grown hgb (by simp; omega)); have hgA := HSb.out.var.lt; have dA := HSb.out.var.cell 0; have fA := HSb.out.var.frozen 0; clear hMb hgb hsb HSa K7 Kr Kx K1a K5a K2a K3a K6a K4a)
  go_ret
  have hbb := HSb.out.below
  refine ⟨hbb.setCell (Nat.le_refl _) _, w.heap.size + 1, w.heap.size, r, x, fun i => if i = 1 then f1 else if i = 5 then f5 else if i = 2 then w4.heap.size else if i = 3 then w5.heap.size else if i = 6 then w6.heap.size else if i = 4 then f4 else f7, rfl, ?_⟩
  exact ⟨HSb.out.map.setCell (by simp) _, HSb.out.var.set_ 0 _, Krb.out.far (by simp; omega) _, Kxb.out.far (by simp; omega) _, K1b.out.far (by simp; omega) _, K5b.out.far (by simp; omega) _, K2b.out.far (by simp; omega) _, K3b.out.far (by simp; omega) _, K6b.out.far (by simp; omega) _, K4b.out.far (by simp; omega) _, K7b.out.far (by simp; omega) _⟩
end Go.Proofs.YtemceefalkfneaaGreatDoor
