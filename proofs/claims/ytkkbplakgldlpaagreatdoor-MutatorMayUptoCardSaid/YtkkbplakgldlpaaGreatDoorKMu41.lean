/- Parts, joined: mutator.write: a mutator's object. Condition: a bulk of at most 10^8, at most 10^6 mutators in a list. -/
import Derived.Test.YtkkbplakgldlpaaGreatDoorProg
import Derived.Test.YtkkbplakgldlpaaGreatDoorKMu25
import Derived.Test.YtkkbplakgldlpaaGreatDoorKMu29
import Derived.Test.YtkkbplakgldlpaaGreatDoorKMu39
namespace Go.Proofs.YtkkbplakgldlpaaGreatDoor
open Go Go.RowKit
theorem findM_skip {a k:ByteArray} {v:Value} {r:List (ByteArray×Value)} (h:a≠k):findM a ((k,v)::r)=findM a r:=by simp only[findM,if_neg h]
theorem findM_hit {a:ByteArray} {v:Value} {r:List (ByteArray×Value)}:findM a ((a,v)::r)=some v:=by simp only[findM,if_true]
section
variable {α:Type} [DecidableEq α] {f:α→Value} {P:Program} {kt et t:TypeId} {w w':World} {g:Nat} {kv:List (α×Value)}
theorem wp_lookM {op:Oper} {a:Act} {K:Act→World→Prop} {Q:Exit→Act→World→Prop} (t:TypeId) (m x:Operand) (ho:op.op=.lookup t m x false) (Ky:MKey P kt f) (ht:P.underlying t=some (.map kt et)) (h:MapAt f w g kv) (hm:a.eval m=.map (some g))
 {k:α} (hx:a.eval x=f k) {z:Value} (hz: ∀w,(zeroValue et).run P w=.ok z w) {v:Value} (hv:findM k kv=some v) (hK:K (a.put op.dst v) w):op.wp P a w K Q:=by
 have hrun:=run_lookM Ky ht h k hz false
 rw[hv]at hrun
 unfold Oper.wp
 simp only[execOp,ho,hm,hx]
 simp[hrun,Result.andThen]
 exact hK
end
def WPost (O:List (ByteArray×Val)) (nm:ByteArray) (w:World) (e:Ending) (w':World):Prop:=Below w.heap.size w w'∧
 ∃oa oc,e=.returned (.agg #[.int .i64 6,.bool false,.int .i64 0,.string ⟨#[]⟩,.slice none 0 0,.slice oa 2 oc])∧Fresh w.heap.size w' (dV (ov [(kArgs,ov O),(kName,tv nm)])) [.int .i64 6,.bool false,.int .i64 0,.string ⟨#[]⟩,.slice none 0 0,.slice oa 2 oc]
theorem shape_zero (w:World):(zeroValue 97).run Tryz.prog w=.ok (.agg #[.int .i64 0,.slice none 0 0,.nilFunc,.nilFunc]) w:=by kernel_rfl
theorem shape_field (k:Int) (f n:Nat) (a b:Fn) (c d:Array Value) (w:World):(Instr.field 97 (.agg #[.int .i64 k,.slice (some ⟨f,0,none⟩) n n,.func a #[] c,.func b #[] d]) 3).run Tryz.prog w=.ok (.func b #[] d) w:=by kernel_rfl
set_option maxRecDepth 100000 in
set_option maxHeartbeats 4000000 in
theorem write_1 (y1 y2 y3 y4 y5 y6 y7 y8 y9 y10 y11 y12 y13 y14 y15 y16 y17 y18:Value) (O:List (ByteArray×Val)) (g A R W:Nat) (F:Nat→Nat) (w:World) (hS:Shp w g A R W F) (hN:MNames w) (ho:O.length≤1000000)
 (hC: ∀W',Below w.heap.size w W'→Calls Tryz.prog 112 #[.agg #[.int .i64 1,y1,y2,y3,y4,y5,y6,y7,y8,y9,y10,y11,y12,y13,y14,y15,y16,y17,y18]] W' (PairsPost O W')):
 Calls Tryz.prog 35 #[.map (some g),.agg #[.int .i64 1,y1,y2,y3,y4,y5,y6,y7,y8,y9,y10,y11,y12,y13,y14,y15,y16,y17,y18]] w (WPost O nPut w):=by
 have h0:Below w.heap.size w ((w.alloc (.cells #[.int .i64 1,y1,y2,y3,y4,y5,y6,y7,y8,y9,y10,y11,y12,y13,y14,y15,y16,y17,y18] 30)).alloc (.cells zero6 27)):=((Below.refl _ _).alloc (Nat.le_refl _) _).alloc (by simp) _
 have hm0:=(hS.map.alloc (.cells #[.int .i64 1,y1,y2,y3,y4,y5,y6,y7,y8,y9,y10,y11,y12,y13,y14,y15,y16,y17,y18] 30)).alloc (.cells zero6 27)
 have hx0:Blk ((w.alloc (.cells #[.int .i64 1,y1,y2,y3,y4,y5,y6,y7,y8,y9,y10,y11,y12,y13,y14,y15,y16,y17,y18] 30)).alloc (.cells zero6 27)) w.heap.size 30 #[.int .i64 1,y1,y2,y3,y4,y5,y6,y7,y8,y9,y10,y11,y12,y13,y14,y15,y16,y17,y18]:=(Blk.new _ _ _).alloc _
 have hr0:Blk ((w.alloc (.cells #[.int .i64 1,y1,y2,y3,y4,y5,y6,y7,y8,y9,y10,y11,y12,y13,y14,y15,y16,y17,y18] 30)).alloc (.cells zero6 27)) (w.heap.size+1) 27 zero6:=by
  have:=Blk.new (w.alloc (.cells #[.int .i64 1,y1,y2,y3,y4,y5,y6,y7,y8,y9,y10,y11,y12,y13,y14,y15,y16,y17,y18] 30)) 27 zero6
  rwa [World.size_alloc]at this
 have hn0:=hN.below h0
 obtain⟨n1,n2,n3,n4,n5,n6,n7,n8⟩:=hn0
 have hfd:=fun(f n:Nat) (a b:Fn) (c d:Array Value) (w:World)=>shape_field 1 f n a b c d w
 have H0:=Lib.hid h0
 have Hm0:=Lib.hid hm0
 have Hx0:=Lib.hid hx0
 have Hr0:=Lib.hid hr0
 have HC:=Lib.hid hC
 clear h0 hm0 hx0 hr0 hC
 clear hS hN
 go_enter Tryz.func35,Tryz.ntmps35
 go_upto_region 2 with(fail)
 clear n1 n2 n3 n4 n5 n6 n7
 iterate 7 go_step
 refine wpList_plain rfl fun K' hK'=> ?_
 refine wp_lookM Tshapes (.tmp 10) (.tmp 11) rfl mkey_shapes Tryz.underlying59 Hm0.out rfl rfl shape_zero findM_hit ?_
 refine hK' _ _ ?_
 clear hK' K'
 unfold shapeV
 iterate 4 go_step
 refine wp_load_blk 30 (.tmp 3) rfl w.heap.size _ Hx0.out rfl _ Tryz.underlying30 rfl (by kernel_rfl) ?_
 go_wp2_with (fail)
 with_reducible refine(HC.out _ H0.out).mono ?_
 rintro e w2 ⟨hb2,V,rfl,hP⟩
 have hw2:=H0.out.trans (hb2.mono H0.out.size)
 have hr2:=Hr0.out.below hb2 Hr0.out.lt
 have Hb2:=Lib.hid hb2
 have HP:=Lib.hid hP
 have Hw2:=Lib.hid hw2
 have Hr2:=Lib.hid hr2
 clear hb2 hP hw2 hr2
 go_wp2_with (fail)
 with_reducible refine(mobject_calls _ O V _ Hb2.out.size HP.out ho).mono ?_
 rintro e w3 ⟨hb3,oa3,oc3,rfl,hf3⟩
 have hw3:=Hw2.out.trans (hb3.mono Hw2.out.size)
 have hr3:=Hr2.out.below hb3 Hr2.out.lt
 have Hb3:=Lib.hid hb3
 have Hf3:=Lib.hid hf3
 have Hw3:=Lib.hid hw3
 have Hr3:=Lib.hid hr3
 clear hb3 hf3 hw3 hr3
 go_wp2_with (fail)
 with_reducible refine(mtextual_calls nPut _).mono ?_
 rintro e w4 ⟨rfl,hb4⟩
 have hw4:=Hw3.out.trans (hb4.mono Hw3.out.size)
 have hr4:=Hr3.out.below hb4 Hr3.out.lt
 have hf4:=Hf3.out.later hb4
 have hlt:=hr4.lt
 have hz2:w.heap.size+2≤((w.alloc (.cells #[.int .i64 1,y1,y2,y3,y4,y5,y6,y7,y8,y9,y10,y11,y12,y13,y14,y15,y16,y17,y18] 30)).alloc (.cells zero6 27)).heap.size:=by simp
 have hf4':=hf4.keep (b':=w.heap.size+2) hz2 (Nat.le_refl _) (fun _ _ _=>rfl)
 have hP5:PairsAt (w.heap.size+2) (w4.alloc (.cells #[.string kArgs,.int .i64 6,.bool false,.int .i64 0,.string ⟨#[]⟩,.slice none 0 0,.slice oa3 O.length oc3,.string kName,.int .i64 4,.bool false,.int .i64 0,.string nPut,.slice none 0 0,.slice none 0 0] Tpair)) [(kArgs,ov O),(kName,tv nPut)] (.slice (some ⟨w4.heap.size,0,none⟩) 2 2):=
  pairs_lit (by omega) rfl ((FreshA.one ((dP_fresh (key:=kArgs) hf4').later (alloc_below _ _))).app (FreshA.one (fresh_tvP _ _ kName nPut)))
 have hw5:=hw4.alloc hw4.size (.cells #[.string kArgs,.int .i64 6,.bool false,.int .i64 0,.string ⟨#[]⟩,.slice none 0 0,.slice oa3 O.length oc3,.string kName,.int .i64 4,.bool false,.int .i64 0,.string nPut,.slice none 0 0,.slice none 0 0] Tpair)
 have hr5:=hr4.alloc (.cells #[.string kArgs,.int .i64 6,.bool false,.int .i64 0,.string ⟨#[]⟩,.slice none 0 0,.slice oa3 O.length oc3,.string kName,.int .i64 4,.bool false,.int .i64 0,.string nPut,.slice none 0 0,.slice none 0 0] Tpair)
 have Hb4:=Lib.hid hb4
 have Hw4:=Lib.hid hw4
 have Hr4:=Lib.hid hr4
 have Hf4:=Lib.hid hf4
 have Hf4':=Lib.hid hf4'
 have HP5:=Lib.hid hP5
 have Hw5:=Lib.hid hw5
 have Hr5:=Lib.hid hr5
 clear hb4 hw4 hr4 hf4 hf4' hP5 hw5 hr5
 go_wp2_with (fail)
 with_reducible refine(mobject_calls (w.heap.size+2) [(kArgs,ov O),(kName,tv nPut)] _ _ (by simp;omega) HP5.out (by simp)).mono ?_
 rintro e w6 ⟨hb6,oa5,oc5,rfl,hf6⟩
 have hw6:=Hw5.out.trans (hb6.mono Hw5.out.size)
 have hr6:=Hr5.out.below hb6 Hr5.out.lt
 obtain⟨c0,c1,c2,c3,c4,c5⟩:=vcell hr6
 have fz:=hr6.frozen
 have hlt6:=hr6.lt
 have Hb6:=Lib.hid hb6
 have Hw6:=Lib.hid hw6
 have Hr6:=Lib.hid hr6
 have Hf6:=Lib.hid hf6
 clear hb6 hw6 hr6 hf6
 dsimp only
 repeat go_step
 have hxf:=((((((Hr6.out.set_ 0 (.int .i64 6)).set_ 1 (.bool false)).set_ 2 (.int .i64 0)).set_ 3 (.string ⟨#[]⟩)).set_ 4 (.slice none 0 0)).set_ 5 (.slice oa5 2 oc5))
 have hbf:=setMany_below [.int .i64 6,.bool false,.int .i64 0,.string ⟨#[]⟩,.slice none 0 0,.slice oa5 2 oc5] Hw6.out (Nat.le_succ w.heap.size) (o:=0)
 have hff:Fresh w.heap.size (setMany w6 (w.heap.size+1) 0 [.int .i64 6,.bool false,.int .i64 0,.string ⟨#[]⟩,.slice none 0 0,.slice oa5 2 oc5]) (dV (ov [(kArgs,ov O),(kName,tv nPut)])) [.int .i64 6,.bool false,.int .i64 0,.string ⟨#[]⟩,.slice none 0 0,.slice oa5 2 oc5]:=
  Hf6.out.keep (b':=w.heap.size) (by omega) (by rw[setMany_size];exact Nat.le_refl _) (fun p p1 _=>World.cell?_of_block (setMany_far _ _ _ _ _ (by omega)))
 exact bodyPost_ret (results_cell6 rfl rfl hxf) rfl ⟨hbf,oa5,oc5,rfl,hff⟩
set_option maxRecDepth 100000 in
set_option maxHeartbeats 4000000 in
theorem write_2 (y1 y2 y3 y4 y5 y6 y7 y8 y9 y10 y11 y12 y13 y14 y15 y16 y17 y18:Value) (O:List (ByteArray×Val)) (g A R W:Nat) (F:Nat→Nat) (w:World) (hS:Shp w g A R W F) (hN:MNames w) (ho:O.length≤1000000)
 (hC: ∀W',Below w.heap.size w W'→Calls Tryz.prog 72 #[.agg #[.int .i64 2,y1,y2,y3,y4,y5,y6,y7,y8,y9,y10,y11,y12,y13,y14,y15,y16,y17,y18]] W' (PairsPost O W')):
 Calls Tryz.prog 35 #[.map (some g),.agg #[.int .i64 2,y1,y2,y3,y4,y5,y6,y7,y8,y9,y10,y11,y12,y13,y14,y15,y16,y17,y18]] w (WPost O nDel w):=by
 have h0:Below w.heap.size w ((w.alloc (.cells #[.int .i64 2,y1,y2,y3,y4,y5,y6,y7,y8,y9,y10,y11,y12,y13,y14,y15,y16,y17,y18] 30)).alloc (.cells zero6 27)):=((Below.refl _ _).alloc (Nat.le_refl _) _).alloc (by simp) _
 have hm0:=(hS.map.alloc (.cells #[.int .i64 2,y1,y2,y3,y4,y5,y6,y7,y8,y9,y10,y11,y12,y13,y14,y15,y16,y17,y18] 30)).alloc (.cells zero6 27)
 have hx0:Blk ((w.alloc (.cells #[.int .i64 2,y1,y2,y3,y4,y5,y6,y7,y8,y9,y10,y11,y12,y13,y14,y15,y16,y17,y18] 30)).alloc (.cells zero6 27)) w.heap.size 30 #[.int .i64 2,y1,y2,y3,y4,y5,y6,y7,y8,y9,y10,y11,y12,y13,y14,y15,y16,y17,y18]:=(Blk.new _ _ _).alloc _
 have hr0:Blk ((w.alloc (.cells #[.int .i64 2,y1,y2,y3,y4,y5,y6,y7,y8,y9,y10,y11,y12,y13,y14,y15,y16,y17,y18] 30)).alloc (.cells zero6 27)) (w.heap.size+1) 27 zero6:=by
  have:=Blk.new (w.alloc (.cells #[.int .i64 2,y1,y2,y3,y4,y5,y6,y7,y8,y9,y10,y11,y12,y13,y14,y15,y16,y17,y18] 30)) 27 zero6
  rwa [World.size_alloc]at this
 have hn0:=hN.below h0
 obtain⟨n1,n2,n3,n4,n5,n6,n7,n8⟩:=hn0
 have hfd:=fun(f n:Nat) (a b:Fn) (c d:Array Value) (w:World)=>shape_field 2 f n a b c d w
 have H0:=Lib.hid h0
 have Hm0:=Lib.hid hm0
 have Hx0:=Lib.hid hx0
 have Hr0:=Lib.hid hr0
 have HC:=Lib.hid hC
 clear h0 hm0 hx0 hr0 hC
 clear hS hN
 go_enter Tryz.func35,Tryz.ntmps35
 go_upto_region 2 with(fail)
 clear n1 n2 n3 n4 n5 n6 n7
 iterate 7 go_step
 refine wpList_plain rfl fun K' hK'=> ?_
 refine wp_lookM Tshapes (.tmp 10) (.tmp 11) rfl mkey_shapes Tryz.underlying59 Hm0.out rfl rfl shape_zero ((findM_skip (by decide)).trans ((findM_skip (by decide)).trans findM_hit)) ?_
 refine hK' _ _ ?_
 clear hK' K'
 unfold shapeV
 iterate 4 go_step
 refine wp_load_blk 30 (.tmp 3) rfl w.heap.size _ Hx0.out rfl _ Tryz.underlying30 rfl (by kernel_rfl) ?_
 go_wp2_with (fail)
 with_reducible refine(HC.out _ H0.out).mono ?_
 rintro e w2 ⟨hb2,V,rfl,hP⟩
 have hw2:=H0.out.trans (hb2.mono H0.out.size)
 have hr2:=Hr0.out.below hb2 Hr0.out.lt
 have Hb2:=Lib.hid hb2
 have HP:=Lib.hid hP
 have Hw2:=Lib.hid hw2
 have Hr2:=Lib.hid hr2
 clear hb2 hP hw2 hr2
 go_wp2_with (fail)
 with_reducible refine(mobject_calls _ O V _ Hb2.out.size HP.out ho).mono ?_
 rintro e w3 ⟨hb3,oa3,oc3,rfl,hf3⟩
 have hw3:=Hw2.out.trans (hb3.mono Hw2.out.size)
 have hr3:=Hr2.out.below hb3 Hr2.out.lt
 have Hb3:=Lib.hid hb3
 have Hf3:=Lib.hid hf3
 have Hw3:=Lib.hid hw3
 have Hr3:=Lib.hid hr3
 clear hb3 hf3 hw3 hr3
 go_wp2_with (fail)
 with_reducible refine(mtextual_calls nDel _).mono ?_
 rintro e w4 ⟨rfl,hb4⟩
 have hw4:=Hw3.out.trans (hb4.mono Hw3.out.size)
 have hr4:=Hr3.out.below hb4 Hr3.out.lt
 have hf4:=Hf3.out.later hb4
 have hlt:=hr4.lt
 have hz2:w.heap.size+2≤((w.alloc (.cells #[.int .i64 2,y1,y2,y3,y4,y5,y6,y7,y8,y9,y10,y11,y12,y13,y14,y15,y16,y17,y18] 30)).alloc (.cells zero6 27)).heap.size:=by simp
 have hf4':=hf4.keep (b':=w.heap.size+2) hz2 (Nat.le_refl _) (fun _ _ _=>rfl)
 have hP5:PairsAt (w.heap.size+2) (w4.alloc (.cells #[.string kArgs,.int .i64 6,.bool false,.int .i64 0,.string ⟨#[]⟩,.slice none 0 0,.slice oa3 O.length oc3,.string kName,.int .i64 4,.bool false,.int .i64 0,.string nDel,.slice none 0 0,.slice none 0 0] Tpair)) [(kArgs,ov O),(kName,tv nDel)] (.slice (some ⟨w4.heap.size,0,none⟩) 2 2):=
  pairs_lit (by omega) rfl ((FreshA.one ((dP_fresh (key:=kArgs) hf4').later (alloc_below _ _))).app (FreshA.one (fresh_tvP _ _ kName nDel)))
 have hw5:=hw4.alloc hw4.size (.cells #[.string kArgs,.int .i64 6,.bool false,.int .i64 0,.string ⟨#[]⟩,.slice none 0 0,.slice oa3 O.length oc3,.string kName,.int .i64 4,.bool false,.int .i64 0,.string nDel,.slice none 0 0,.slice none 0 0] Tpair)
 have hr5:=hr4.alloc (.cells #[.string kArgs,.int .i64 6,.bool false,.int .i64 0,.string ⟨#[]⟩,.slice none 0 0,.slice oa3 O.length oc3,.string kName,.int .i64 4,.bool false,.int .i64 0,.string nDel,.slice none 0 0,.slice none 0 0] Tpair)
 have Hb4:=Lib.hid hb4
 have Hw4:=Lib.hid hw4
 have Hr4:=Lib.hid hr4
 have Hf4:=Lib.hid hf4
 have Hf4':=Lib.hid hf4'
 have HP5:=Lib.hid hP5
 have Hw5:=Lib.hid hw5
 have Hr5:=Lib.hid hr5
 clear hb4 hw4 hr4 hf4 hf4' hP5 hw5 hr5
 go_wp2_with (fail)
 with_reducible refine(mobject_calls (w.heap.size+2) [(kArgs,ov O),(kName,tv nDel)] _ _ (by simp;omega) HP5.out (by simp)).mono ?_
 rintro e w6 ⟨hb6,oa5,oc5,rfl,hf6⟩
 have hw6:=Hw5.out.trans (hb6.mono Hw5.out.size)
 have hr6:=Hr5.out.below hb6 Hr5.out.lt
 obtain⟨c0,c1,c2,c3,c4,c5⟩:=vcell hr6
 have fz:=hr6.frozen
 have hlt6:=hr6.lt
 have Hb6:=Lib.hid hb6
 have Hw6:=Lib.hid hw6
 have Hr6:=Lib.hid hr6
 have Hf6:=Lib.hid hf6
 clear hb6 hw6 hr6 hf6
 dsimp only
 repeat go_step
 have hxf:=((((((Hr6.out.set_ 0 (.int .i64 6)).set_ 1 (.bool false)).set_ 2 (.int .i64 0)).set_ 3 (.string ⟨#[]⟩)).set_ 4 (.slice none 0 0)).set_ 5 (.slice oa5 2 oc5))
 have hbf:=setMany_below [.int .i64 6,.bool false,.int .i64 0,.string ⟨#[]⟩,.slice none 0 0,.slice oa5 2 oc5] Hw6.out (Nat.le_succ w.heap.size) (o:=0)
 have hff:Fresh w.heap.size (setMany w6 (w.heap.size+1) 0 [.int .i64 6,.bool false,.int .i64 0,.string ⟨#[]⟩,.slice none 0 0,.slice oa5 2 oc5]) (dV (ov [(kArgs,ov O),(kName,tv nDel)])) [.int .i64 6,.bool false,.int .i64 0,.string ⟨#[]⟩,.slice none 0 0,.slice oa5 2 oc5]:=
  Hf6.out.keep (b':=w.heap.size) (by omega) (by rw[setMany_size];exact Nat.le_refl _) (fun p p1 _=>World.cell?_of_block (setMany_far _ _ _ _ _ (by omega)))
 exact bodyPost_ret (results_cell6 rfl rfl hxf) rfl ⟨hbf,oa5,oc5,rfl,hff⟩
set_option maxRecDepth 100000 in
set_option maxHeartbeats 4000000 in
theorem write_3 (y1 y2 y3 y4 y5 y6 y7 y8 y9 y10 y11 y12 y13 y14 y15 y16 y17 y18:Value) (O:List (ByteArray×Val)) (g A R W:Nat) (F:Nat→Nat) (w:World) (hS:Shp w g A R W F) (hN:MNames w) (ho:O.length≤1000000)
 (hC: ∀W',Below w.heap.size w W'→Calls Tryz.prog 75 #[.agg #[.int .i64 3,y1,y2,y3,y4,y5,y6,y7,y8,y9,y10,y11,y12,y13,y14,y15,y16,y17,y18]] W' (PairsPost O W')):
 Calls Tryz.prog 35 #[.map (some g),.agg #[.int .i64 3,y1,y2,y3,y4,y5,y6,y7,y8,y9,y10,y11,y12,y13,y14,y15,y16,y17,y18]] w (WPost O nInc w):=by
 have h0:Below w.heap.size w ((w.alloc (.cells #[.int .i64 3,y1,y2,y3,y4,y5,y6,y7,y8,y9,y10,y11,y12,y13,y14,y15,y16,y17,y18] 30)).alloc (.cells zero6 27)):=((Below.refl _ _).alloc (Nat.le_refl _) _).alloc (by simp) _
 have hm0:=(hS.map.alloc (.cells #[.int .i64 3,y1,y2,y3,y4,y5,y6,y7,y8,y9,y10,y11,y12,y13,y14,y15,y16,y17,y18] 30)).alloc (.cells zero6 27)
 have hx0:Blk ((w.alloc (.cells #[.int .i64 3,y1,y2,y3,y4,y5,y6,y7,y8,y9,y10,y11,y12,y13,y14,y15,y16,y17,y18] 30)).alloc (.cells zero6 27)) w.heap.size 30 #[.int .i64 3,y1,y2,y3,y4,y5,y6,y7,y8,y9,y10,y11,y12,y13,y14,y15,y16,y17,y18]:=(Blk.new _ _ _).alloc _
 have hr0:Blk ((w.alloc (.cells #[.int .i64 3,y1,y2,y3,y4,y5,y6,y7,y8,y9,y10,y11,y12,y13,y14,y15,y16,y17,y18] 30)).alloc (.cells zero6 27)) (w.heap.size+1) 27 zero6:=by
  have:=Blk.new (w.alloc (.cells #[.int .i64 3,y1,y2,y3,y4,y5,y6,y7,y8,y9,y10,y11,y12,y13,y14,y15,y16,y17,y18] 30)) 27 zero6
  rwa [World.size_alloc]at this
 have hn0:=hN.below h0
 obtain⟨n1,n2,n3,n4,n5,n6,n7,n8⟩:=hn0
 have hfd:=fun(f n:Nat) (a b:Fn) (c d:Array Value) (w:World)=>shape_field 3 f n a b c d w
 have H0:=Lib.hid h0
 have Hm0:=Lib.hid hm0
 have Hx0:=Lib.hid hx0
 have Hr0:=Lib.hid hr0
 have HC:=Lib.hid hC
 clear h0 hm0 hx0 hr0 hC
 clear hS hN
 go_enter Tryz.func35,Tryz.ntmps35
 go_upto_region 2 with(fail)
 clear n1 n2 n3 n4 n5 n6 n7
 iterate 7 go_step
 refine wpList_plain rfl fun K' hK'=> ?_
 refine wp_lookM Tshapes (.tmp 10) (.tmp 11) rfl mkey_shapes Tryz.underlying59 Hm0.out rfl rfl shape_zero ((findM_skip (by decide)).trans ((findM_skip (by decide)).trans ((findM_skip (by decide)).trans findM_hit))) ?_
 refine hK' _ _ ?_
 clear hK' K'
 unfold shapeV
 iterate 4 go_step
 refine wp_load_blk 30 (.tmp 3) rfl w.heap.size _ Hx0.out rfl _ Tryz.underlying30 rfl (by kernel_rfl) ?_
 go_wp2_with (fail)
 with_reducible refine(HC.out _ H0.out).mono ?_
 rintro e w2 ⟨hb2,V,rfl,hP⟩
 have hw2:=H0.out.trans (hb2.mono H0.out.size)
 have hr2:=Hr0.out.below hb2 Hr0.out.lt
 have Hb2:=Lib.hid hb2
 have HP:=Lib.hid hP
 have Hw2:=Lib.hid hw2
 have Hr2:=Lib.hid hr2
 clear hb2 hP hw2 hr2
 go_wp2_with (fail)
 with_reducible refine(mobject_calls _ O V _ Hb2.out.size HP.out ho).mono ?_
 rintro e w3 ⟨hb3,oa3,oc3,rfl,hf3⟩
 have hw3:=Hw2.out.trans (hb3.mono Hw2.out.size)
 have hr3:=Hr2.out.below hb3 Hr2.out.lt
 have Hb3:=Lib.hid hb3
 have Hf3:=Lib.hid hf3
 have Hw3:=Lib.hid hw3
 have Hr3:=Lib.hid hr3
 clear hb3 hf3 hw3 hr3
 go_wp2_with (fail)
 with_reducible refine(mtextual_calls nInc _).mono ?_
 rintro e w4 ⟨rfl,hb4⟩
 have hw4:=Hw3.out.trans (hb4.mono Hw3.out.size)
 have hr4:=Hr3.out.below hb4 Hr3.out.lt
 have hf4:=Hf3.out.later hb4
 have hlt:=hr4.lt
 have hz2:w.heap.size+2≤((w.alloc (.cells #[.int .i64 3,y1,y2,y3,y4,y5,y6,y7,y8,y9,y10,y11,y12,y13,y14,y15,y16,y17,y18] 30)).alloc (.cells zero6 27)).heap.size:=by simp
 have hf4':=hf4.keep (b':=w.heap.size+2) hz2 (Nat.le_refl _) (fun _ _ _=>rfl)
 have hP5:PairsAt (w.heap.size+2) (w4.alloc (.cells #[.string kArgs,.int .i64 6,.bool false,.int .i64 0,.string ⟨#[]⟩,.slice none 0 0,.slice oa3 O.length oc3,.string kName,.int .i64 4,.bool false,.int .i64 0,.string nInc,.slice none 0 0,.slice none 0 0] Tpair)) [(kArgs,ov O),(kName,tv nInc)] (.slice (some ⟨w4.heap.size,0,none⟩) 2 2):=
  pairs_lit (by omega) rfl ((FreshA.one ((dP_fresh (key:=kArgs) hf4').later (alloc_below _ _))).app (FreshA.one (fresh_tvP _ _ kName nInc)))
 have hw5:=hw4.alloc hw4.size (.cells #[.string kArgs,.int .i64 6,.bool false,.int .i64 0,.string ⟨#[]⟩,.slice none 0 0,.slice oa3 O.length oc3,.string kName,.int .i64 4,.bool false,.int .i64 0,.string nInc,.slice none 0 0,.slice none 0 0] Tpair)
 have hr5:=hr4.alloc (.cells #[.string kArgs,.int .i64 6,.bool false,.int .i64 0,.string ⟨#[]⟩,.slice none 0 0,.slice oa3 O.length oc3,.string kName,.int .i64 4,.bool false,.int .i64 0,.string nInc,.slice none 0 0,.slice none 0 0] Tpair)
 have Hb4:=Lib.hid hb4
 have Hw4:=Lib.hid hw4
 have Hr4:=Lib.hid hr4
 have Hf4:=Lib.hid hf4
 have Hf4':=Lib.hid hf4'
 have HP5:=Lib.hid hP5
 have Hw5:=Lib.hid hw5
 have Hr5:=Lib.hid hr5
 clear hb4 hw4 hr4 hf4 hf4' hP5 hw5 hr5
 go_wp2_with (fail)
 with_reducible refine(mobject_calls (w.heap.size+2) [(kArgs,ov O),(kName,tv nInc)] _ _ (by simp;omega) HP5.out (by simp)).mono ?_
 rintro e w6 ⟨hb6,oa5,oc5,rfl,hf6⟩
 have hw6:=Hw5.out.trans (hb6.mono Hw5.out.size)
 have hr6:=Hr5.out.below hb6 Hr5.out.lt
 obtain⟨c0,c1,c2,c3,c4,c5⟩:=vcell hr6
 have fz:=hr6.frozen
 have hlt6:=hr6.lt
 have Hb6:=Lib.hid hb6
 have Hw6:=Lib.hid hw6
 have Hr6:=Lib.hid hr6
 have Hf6:=Lib.hid hf6
 clear hb6 hw6 hr6 hf6
 dsimp only
 repeat go_step
 have hxf:=((((((Hr6.out.set_ 0 (.int .i64 6)).set_ 1 (.bool false)).set_ 2 (.int .i64 0)).set_ 3 (.string ⟨#[]⟩)).set_ 4 (.slice none 0 0)).set_ 5 (.slice oa5 2 oc5))
 have hbf:=setMany_below [.int .i64 6,.bool false,.int .i64 0,.string ⟨#[]⟩,.slice none 0 0,.slice oa5 2 oc5] Hw6.out (Nat.le_succ w.heap.size) (o:=0)
 have hff:Fresh w.heap.size (setMany w6 (w.heap.size+1) 0 [.int .i64 6,.bool false,.int .i64 0,.string ⟨#[]⟩,.slice none 0 0,.slice oa5 2 oc5]) (dV (ov [(kArgs,ov O),(kName,tv nInc)])) [.int .i64 6,.bool false,.int .i64 0,.string ⟨#[]⟩,.slice none 0 0,.slice oa5 2 oc5]:=
  Hf6.out.keep (b':=w.heap.size) (by omega) (by rw[setMany_size];exact Nat.le_refl _) (fun p p1 _=>World.cell?_of_block (setMany_far _ _ _ _ _ (by omega)))
 exact bodyPost_ret (results_cell6 rfl rfl hxf) rfl ⟨hbf,oa5,oc5,rfl,hff⟩
set_option maxRecDepth 100000 in
set_option maxHeartbeats 4000000 in
theorem write_4 (y1 y2 y3 y4 y5 y6 y7 y8 y9 y10 y11 y12 y13 y14 y15 y16 y17 y18:Value) (O:List (ByteArray×Val)) (g A R W:Nat) (F:Nat→Nat) (w:World) (hS:Shp w g A R W F) (hN:MNames w) (ho:O.length≤1000000)
 (hC: ∀W',Below w.heap.size w W'→Calls Tryz.prog 115 #[.agg #[.int .i64 4,y1,y2,y3,y4,y5,y6,y7,y8,y9,y10,y11,y12,y13,y14,y15,y16,y17,y18]] W' (PairsPost O W')):
 Calls Tryz.prog 35 #[.map (some g),.agg #[.int .i64 4,y1,y2,y3,y4,y5,y6,y7,y8,y9,y10,y11,y12,y13,y14,y15,y16,y17,y18]] w (WPost O nCas w):=by
 have h0:Below w.heap.size w ((w.alloc (.cells #[.int .i64 4,y1,y2,y3,y4,y5,y6,y7,y8,y9,y10,y11,y12,y13,y14,y15,y16,y17,y18] 30)).alloc (.cells zero6 27)):=((Below.refl _ _).alloc (Nat.le_refl _) _).alloc (by simp) _
 have hm0:=(hS.map.alloc (.cells #[.int .i64 4,y1,y2,y3,y4,y5,y6,y7,y8,y9,y10,y11,y12,y13,y14,y15,y16,y17,y18] 30)).alloc (.cells zero6 27)
 have hx0:Blk ((w.alloc (.cells #[.int .i64 4,y1,y2,y3,y4,y5,y6,y7,y8,y9,y10,y11,y12,y13,y14,y15,y16,y17,y18] 30)).alloc (.cells zero6 27)) w.heap.size 30 #[.int .i64 4,y1,y2,y3,y4,y5,y6,y7,y8,y9,y10,y11,y12,y13,y14,y15,y16,y17,y18]:=(Blk.new _ _ _).alloc _
 have hr0:Blk ((w.alloc (.cells #[.int .i64 4,y1,y2,y3,y4,y5,y6,y7,y8,y9,y10,y11,y12,y13,y14,y15,y16,y17,y18] 30)).alloc (.cells zero6 27)) (w.heap.size+1) 27 zero6:=by
  have:=Blk.new (w.alloc (.cells #[.int .i64 4,y1,y2,y3,y4,y5,y6,y7,y8,y9,y10,y11,y12,y13,y14,y15,y16,y17,y18] 30)) 27 zero6
  rwa [World.size_alloc]at this
 have hn0:=hN.below h0
 obtain⟨n1,n2,n3,n4,n5,n6,n7,n8⟩:=hn0
 have hfd:=fun(f n:Nat) (a b:Fn) (c d:Array Value) (w:World)=>shape_field 4 f n a b c d w
 have H0:=Lib.hid h0
 have Hm0:=Lib.hid hm0
 have Hx0:=Lib.hid hx0
 have Hr0:=Lib.hid hr0
 have HC:=Lib.hid hC
 clear h0 hm0 hx0 hr0 hC
 clear hS hN
 go_enter Tryz.func35,Tryz.ntmps35
 go_upto_region 2 with(fail)
 clear n1 n2 n3 n4 n5 n6 n7
 iterate 7 go_step
 refine wpList_plain rfl fun K' hK'=> ?_
 refine wp_lookM Tshapes (.tmp 10) (.tmp 11) rfl mkey_shapes Tryz.underlying59 Hm0.out rfl rfl shape_zero ((findM_skip (by decide)).trans ((findM_skip (by decide)).trans ((findM_skip (by decide)).trans ((findM_skip (by decide)).trans ((findM_skip (by decide)).trans findM_hit))))) ?_
 refine hK' _ _ ?_
 clear hK' K'
 unfold shapeV
 iterate 4 go_step
 refine wp_load_blk 30 (.tmp 3) rfl w.heap.size _ Hx0.out rfl _ Tryz.underlying30 rfl (by kernel_rfl) ?_
 go_wp2_with (fail)
 with_reducible refine(HC.out _ H0.out).mono ?_
 rintro e w2 ⟨hb2,V,rfl,hP⟩
 have hw2:=H0.out.trans (hb2.mono H0.out.size)
 have hr2:=Hr0.out.below hb2 Hr0.out.lt
 have Hb2:=Lib.hid hb2
 have HP:=Lib.hid hP
 have Hw2:=Lib.hid hw2
 have Hr2:=Lib.hid hr2
 clear hb2 hP hw2 hr2
 go_wp2_with (fail)
 with_reducible refine(mobject_calls _ O V _ Hb2.out.size HP.out ho).mono ?_
 rintro e w3 ⟨hb3,oa3,oc3,rfl,hf3⟩
 have hw3:=Hw2.out.trans (hb3.mono Hw2.out.size)
 have hr3:=Hr2.out.below hb3 Hr2.out.lt
 have Hb3:=Lib.hid hb3
 have Hf3:=Lib.hid hf3
 have Hw3:=Lib.hid hw3
 have Hr3:=Lib.hid hr3
 clear hb3 hf3 hw3 hr3
 go_wp2_with (fail)
 with_reducible refine(mtextual_calls nCas _).mono ?_
 rintro e w4 ⟨rfl,hb4⟩
 have hw4:=Hw3.out.trans (hb4.mono Hw3.out.size)
 have hr4:=Hr3.out.below hb4 Hr3.out.lt
 have hf4:=Hf3.out.later hb4
 have hlt:=hr4.lt
 have hz2:w.heap.size+2≤((w.alloc (.cells #[.int .i64 4,y1,y2,y3,y4,y5,y6,y7,y8,y9,y10,y11,y12,y13,y14,y15,y16,y17,y18] 30)).alloc (.cells zero6 27)).heap.size:=by simp
 have hf4':=hf4.keep (b':=w.heap.size+2) hz2 (Nat.le_refl _) (fun _ _ _=>rfl)
 have hP5:PairsAt (w.heap.size+2) (w4.alloc (.cells #[.string kArgs,.int .i64 6,.bool false,.int .i64 0,.string ⟨#[]⟩,.slice none 0 0,.slice oa3 O.length oc3,.string kName,.int .i64 4,.bool false,.int .i64 0,.string nCas,.slice none 0 0,.slice none 0 0] Tpair)) [(kArgs,ov O),(kName,tv nCas)] (.slice (some ⟨w4.heap.size,0,none⟩) 2 2):=
  pairs_lit (by omega) rfl ((FreshA.one ((dP_fresh (key:=kArgs) hf4').later (alloc_below _ _))).app (FreshA.one (fresh_tvP _ _ kName nCas)))
 have hw5:=hw4.alloc hw4.size (.cells #[.string kArgs,.int .i64 6,.bool false,.int .i64 0,.string ⟨#[]⟩,.slice none 0 0,.slice oa3 O.length oc3,.string kName,.int .i64 4,.bool false,.int .i64 0,.string nCas,.slice none 0 0,.slice none 0 0] Tpair)
 have hr5:=hr4.alloc (.cells #[.string kArgs,.int .i64 6,.bool false,.int .i64 0,.string ⟨#[]⟩,.slice none 0 0,.slice oa3 O.length oc3,.string kName,.int .i64 4,.bool false,.int .i64 0,.string nCas,.slice none 0 0,.slice none 0 0] Tpair)
 have Hb4:=Lib.hid hb4
 have Hw4:=Lib.hid hw4
 have Hr4:=Lib.hid hr4
 have Hf4:=Lib.hid hf4
 have Hf4':=Lib.hid hf4'
 have HP5:=Lib.hid hP5
 have Hw5:=Lib.hid hw5
 have Hr5:=Lib.hid hr5
 clear hb4 hw4 hr4 hf4 hf4' hP5 hw5 hr5
 go_wp2_with (fail)
 with_reducible refine(mobject_calls (w.heap.size+2) [(kArgs,ov O),(kName,tv nCas)] _ _ (by simp;omega) HP5.out (by simp)).mono ?_
 rintro e w6 ⟨hb6,oa5,oc5,rfl,hf6⟩
 have hw6:=Hw5.out.trans (hb6.mono Hw5.out.size)
 have hr6:=Hr5.out.below hb6 Hr5.out.lt
 obtain⟨c0,c1,c2,c3,c4,c5⟩:=vcell hr6
 have fz:=hr6.frozen
 have hlt6:=hr6.lt
 have Hb6:=Lib.hid hb6
 have Hw6:=Lib.hid hw6
 have Hr6:=Lib.hid hr6
 have Hf6:=Lib.hid hf6
 clear hb6 hw6 hr6 hf6
 dsimp only
 repeat go_step
 have hxf:=((((((Hr6.out.set_ 0 (.int .i64 6)).set_ 1 (.bool false)).set_ 2 (.int .i64 0)).set_ 3 (.string ⟨#[]⟩)).set_ 4 (.slice none 0 0)).set_ 5 (.slice oa5 2 oc5))
 have hbf:=setMany_below [.int .i64 6,.bool false,.int .i64 0,.string ⟨#[]⟩,.slice none 0 0,.slice oa5 2 oc5] Hw6.out (Nat.le_succ w.heap.size) (o:=0)
 have hff:Fresh w.heap.size (setMany w6 (w.heap.size+1) 0 [.int .i64 6,.bool false,.int .i64 0,.string ⟨#[]⟩,.slice none 0 0,.slice oa5 2 oc5]) (dV (ov [(kArgs,ov O),(kName,tv nCas)])) [.int .i64 6,.bool false,.int .i64 0,.string ⟨#[]⟩,.slice none 0 0,.slice oa5 2 oc5]:=
  Hf6.out.keep (b':=w.heap.size) (by omega) (by rw[setMany_size];exact Nat.le_refl _) (fun p p1 _=>World.cell?_of_block (setMany_far _ _ _ _ _ (by omega)))
 exact bodyPost_ret (results_cell6 rfl rfl hxf) rfl ⟨hbf,oa5,oc5,rfl,hff⟩
set_option maxRecDepth 100000 in
set_option maxHeartbeats 4000000 in
theorem write_5 (y1 y2 y3 y4 y5 y6 y7 y8 y9 y10 y11 y12 y13 y14 y15 y16 y17 y18:Value) (O:List (ByteArray×Val)) (g A R W:Nat) (F:Nat→Nat) (w:World) (hS:Shp w g A R W F) (hN:MNames w) (ho:O.length≤1000000)
 (hC: ∀W',Below w.heap.size w W'→Calls Tryz.prog 112 #[.agg #[.int .i64 5,y1,y2,y3,y4,y5,y6,y7,y8,y9,y10,y11,y12,y13,y14,y15,y16,y17,y18]] W' (PairsPost O W')):
 Calls Tryz.prog 35 #[.map (some g),.agg #[.int .i64 5,y1,y2,y3,y4,y5,y6,y7,y8,y9,y10,y11,y12,y13,y14,y15,y16,y17,y18]] w (WPost O nApp w):=by
 have h0:Below w.heap.size w ((w.alloc (.cells #[.int .i64 5,y1,y2,y3,y4,y5,y6,y7,y8,y9,y10,y11,y12,y13,y14,y15,y16,y17,y18] 30)).alloc (.cells zero6 27)):=((Below.refl _ _).alloc (Nat.le_refl _) _).alloc (by simp) _
 have hm0:=(hS.map.alloc (.cells #[.int .i64 5,y1,y2,y3,y4,y5,y6,y7,y8,y9,y10,y11,y12,y13,y14,y15,y16,y17,y18] 30)).alloc (.cells zero6 27)
 have hx0:Blk ((w.alloc (.cells #[.int .i64 5,y1,y2,y3,y4,y5,y6,y7,y8,y9,y10,y11,y12,y13,y14,y15,y16,y17,y18] 30)).alloc (.cells zero6 27)) w.heap.size 30 #[.int .i64 5,y1,y2,y3,y4,y5,y6,y7,y8,y9,y10,y11,y12,y13,y14,y15,y16,y17,y18]:=(Blk.new _ _ _).alloc _
 have hr0:Blk ((w.alloc (.cells #[.int .i64 5,y1,y2,y3,y4,y5,y6,y7,y8,y9,y10,y11,y12,y13,y14,y15,y16,y17,y18] 30)).alloc (.cells zero6 27)) (w.heap.size+1) 27 zero6:=by
  have:=Blk.new (w.alloc (.cells #[.int .i64 5,y1,y2,y3,y4,y5,y6,y7,y8,y9,y10,y11,y12,y13,y14,y15,y16,y17,y18] 30)) 27 zero6
  rwa [World.size_alloc]at this
 have hn0:=hN.below h0
 obtain⟨n1,n2,n3,n4,n5,n6,n7,n8⟩:=hn0
 have hfd:=fun(f n:Nat) (a b:Fn) (c d:Array Value) (w:World)=>shape_field 5 f n a b c d w
 have H0:=Lib.hid h0
 have Hm0:=Lib.hid hm0
 have Hx0:=Lib.hid hx0
 have Hr0:=Lib.hid hr0
 have HC:=Lib.hid hC
 clear h0 hm0 hx0 hr0 hC
 clear hS hN
 go_enter Tryz.func35,Tryz.ntmps35
 go_upto_region 2 with(fail)
 clear n1 n2 n3 n4 n5 n6 n7
 iterate 7 go_step
 refine wpList_plain rfl fun K' hK'=> ?_
 refine wp_lookM Tshapes (.tmp 10) (.tmp 11) rfl mkey_shapes Tryz.underlying59 Hm0.out rfl rfl shape_zero ((findM_skip (by decide)).trans findM_hit) ?_
 refine hK' _ _ ?_
 clear hK' K'
 unfold shapeV
 iterate 4 go_step
 refine wp_load_blk 30 (.tmp 3) rfl w.heap.size _ Hx0.out rfl _ Tryz.underlying30 rfl (by kernel_rfl) ?_
 go_wp2_with (fail)
 with_reducible refine(HC.out _ H0.out).mono ?_
 rintro e w2 ⟨hb2,V,rfl,hP⟩
 have hw2:=H0.out.trans (hb2.mono H0.out.size)
 have hr2:=Hr0.out.below hb2 Hr0.out.lt
 have Hb2:=Lib.hid hb2
 have HP:=Lib.hid hP
 have Hw2:=Lib.hid hw2
 have Hr2:=Lib.hid hr2
 clear hb2 hP hw2 hr2
 go_wp2_with (fail)
 with_reducible refine(mobject_calls _ O V _ Hb2.out.size HP.out ho).mono ?_
 rintro e w3 ⟨hb3,oa3,oc3,rfl,hf3⟩
 have hw3:=Hw2.out.trans (hb3.mono Hw2.out.size)
 have hr3:=Hr2.out.below hb3 Hr2.out.lt
 have Hb3:=Lib.hid hb3
 have Hf3:=Lib.hid hf3
 have Hw3:=Lib.hid hw3
 have Hr3:=Lib.hid hr3
 clear hb3 hf3 hw3 hr3
 go_wp2_with (fail)
 with_reducible refine(mtextual_calls nApp _).mono ?_
 rintro e w4 ⟨rfl,hb4⟩
 have hw4:=Hw3.out.trans (hb4.mono Hw3.out.size)
 have hr4:=Hr3.out.below hb4 Hr3.out.lt
 have hf4:=Hf3.out.later hb4
 have hlt:=hr4.lt
 have hz2:w.heap.size+2≤((w.alloc (.cells #[.int .i64 5,y1,y2,y3,y4,y5,y6,y7,y8,y9,y10,y11,y12,y13,y14,y15,y16,y17,y18] 30)).alloc (.cells zero6 27)).heap.size:=by simp
 have hf4':=hf4.keep (b':=w.heap.size+2) hz2 (Nat.le_refl _) (fun _ _ _=>rfl)
 have hP5:PairsAt (w.heap.size+2) (w4.alloc (.cells #[.string kArgs,.int .i64 6,.bool false,.int .i64 0,.string ⟨#[]⟩,.slice none 0 0,.slice oa3 O.length oc3,.string kName,.int .i64 4,.bool false,.int .i64 0,.string nApp,.slice none 0 0,.slice none 0 0] Tpair)) [(kArgs,ov O),(kName,tv nApp)] (.slice (some ⟨w4.heap.size,0,none⟩) 2 2):=
  pairs_lit (by omega) rfl ((FreshA.one ((dP_fresh (key:=kArgs) hf4').later (alloc_below _ _))).app (FreshA.one (fresh_tvP _ _ kName nApp)))
 have hw5:=hw4.alloc hw4.size (.cells #[.string kArgs,.int .i64 6,.bool false,.int .i64 0,.string ⟨#[]⟩,.slice none 0 0,.slice oa3 O.length oc3,.string kName,.int .i64 4,.bool false,.int .i64 0,.string nApp,.slice none 0 0,.slice none 0 0] Tpair)
 have hr5:=hr4.alloc (.cells #[.string kArgs,.int .i64 6,.bool false,.int .i64 0,.string ⟨#[]⟩,.slice none 0 0,.slice oa3 O.length oc3,.string kName,.int .i64 4,.bool false,.int .i64 0,.string nApp,.slice none 0 0,.slice none 0 0] Tpair)
 have Hb4:=Lib.hid hb4
 have Hw4:=Lib.hid hw4
 have Hr4:=Lib.hid hr4
 have Hf4:=Lib.hid hf4
 have Hf4':=Lib.hid hf4'
 have HP5:=Lib.hid hP5
 have Hw5:=Lib.hid hw5
 have Hr5:=Lib.hid hr5
 clear hb4 hw4 hr4 hf4 hf4' hP5 hw5 hr5
 go_wp2_with (fail)
 with_reducible refine(mobject_calls (w.heap.size+2) [(kArgs,ov O),(kName,tv nApp)] _ _ (by simp;omega) HP5.out (by simp)).mono ?_
 rintro e w6 ⟨hb6,oa5,oc5,rfl,hf6⟩
 have hw6:=Hw5.out.trans (hb6.mono Hw5.out.size)
 have hr6:=Hr5.out.below hb6 Hr5.out.lt
 obtain⟨c0,c1,c2,c3,c4,c5⟩:=vcell hr6
 have fz:=hr6.frozen
 have hlt6:=hr6.lt
 have Hb6:=Lib.hid hb6
 have Hw6:=Lib.hid hw6
 have Hr6:=Lib.hid hr6
 have Hf6:=Lib.hid hf6
 clear hb6 hw6 hr6 hf6
 dsimp only
 repeat go_step
 have hxf:=((((((Hr6.out.set_ 0 (.int .i64 6)).set_ 1 (.bool false)).set_ 2 (.int .i64 0)).set_ 3 (.string ⟨#[]⟩)).set_ 4 (.slice none 0 0)).set_ 5 (.slice oa5 2 oc5))
 have hbf:=setMany_below [.int .i64 6,.bool false,.int .i64 0,.string ⟨#[]⟩,.slice none 0 0,.slice oa5 2 oc5] Hw6.out (Nat.le_succ w.heap.size) (o:=0)
 have hff:Fresh w.heap.size (setMany w6 (w.heap.size+1) 0 [.int .i64 6,.bool false,.int .i64 0,.string ⟨#[]⟩,.slice none 0 0,.slice oa5 2 oc5]) (dV (ov [(kArgs,ov O),(kName,tv nApp)])) [.int .i64 6,.bool false,.int .i64 0,.string ⟨#[]⟩,.slice none 0 0,.slice oa5 2 oc5]:=
  Hf6.out.keep (b':=w.heap.size) (by omega) (by rw[setMany_size];exact Nat.le_refl _) (fun p p1 _=>World.cell?_of_block (setMany_far _ _ _ _ _ (by omega)))
 exact bodyPost_ret (results_cell6 rfl rfl hxf) rfl ⟨hbf,oa5,oc5,rfl,hff⟩
set_option maxRecDepth 100000 in
set_option maxHeartbeats 4000000 in
theorem write_6 (y1 y2 y3 y4 y5 y6 y7 y8 y9 y10 y11 y12 y13 y14 y15 y16 y17 y18:Value) (O:List (ByteArray×Val)) (g A R W:Nat) (F:Nat→Nat) (w:World) (hS:Shp w g A R W F) (hN:MNames w) (ho:O.length≤1000000)
 (hC: ∀W',Below w.heap.size w W'→Calls Tryz.prog 77 #[.agg #[.int .i64 6,y1,y2,y3,y4,y5,y6,y7,y8,y9,y10,y11,y12,y13,y14,y15,y16,y17,y18]] W' (PairsPost O W')):
 Calls Tryz.prog 35 #[.map (some g),.agg #[.int .i64 6,y1,y2,y3,y4,y5,y6,y7,y8,y9,y10,y11,y12,y13,y14,y15,y16,y17,y18]] w (WPost O nMove w):=by
 have h0:Below w.heap.size w ((w.alloc (.cells #[.int .i64 6,y1,y2,y3,y4,y5,y6,y7,y8,y9,y10,y11,y12,y13,y14,y15,y16,y17,y18] 30)).alloc (.cells zero6 27)):=((Below.refl _ _).alloc (Nat.le_refl _) _).alloc (by simp) _
 have hm0:=(hS.map.alloc (.cells #[.int .i64 6,y1,y2,y3,y4,y5,y6,y7,y8,y9,y10,y11,y12,y13,y14,y15,y16,y17,y18] 30)).alloc (.cells zero6 27)
 have hx0:Blk ((w.alloc (.cells #[.int .i64 6,y1,y2,y3,y4,y5,y6,y7,y8,y9,y10,y11,y12,y13,y14,y15,y16,y17,y18] 30)).alloc (.cells zero6 27)) w.heap.size 30 #[.int .i64 6,y1,y2,y3,y4,y5,y6,y7,y8,y9,y10,y11,y12,y13,y14,y15,y16,y17,y18]:=(Blk.new _ _ _).alloc _
 have hr0:Blk ((w.alloc (.cells #[.int .i64 6,y1,y2,y3,y4,y5,y6,y7,y8,y9,y10,y11,y12,y13,y14,y15,y16,y17,y18] 30)).alloc (.cells zero6 27)) (w.heap.size+1) 27 zero6:=by
  have:=Blk.new (w.alloc (.cells #[.int .i64 6,y1,y2,y3,y4,y5,y6,y7,y8,y9,y10,y11,y12,y13,y14,y15,y16,y17,y18] 30)) 27 zero6
  rwa [World.size_alloc]at this
 have hn0:=hN.below h0
 obtain⟨n1,n2,n3,n4,n5,n6,n7,n8⟩:=hn0
 have hfd:=fun(f n:Nat) (a b:Fn) (c d:Array Value) (w:World)=>shape_field 6 f n a b c d w
 have H0:=Lib.hid h0
 have Hm0:=Lib.hid hm0
 have Hx0:=Lib.hid hx0
 have Hr0:=Lib.hid hr0
 have HC:=Lib.hid hC
 clear h0 hm0 hx0 hr0 hC
 clear hS hN
 go_enter Tryz.func35,Tryz.ntmps35
 go_upto_region 2 with(fail)
 clear n1 n2 n3 n4 n5 n6 n7
 iterate 7 go_step
 refine wpList_plain rfl fun K' hK'=> ?_
 refine wp_lookM Tshapes (.tmp 10) (.tmp 11) rfl mkey_shapes Tryz.underlying59 Hm0.out rfl rfl shape_zero ((findM_skip (by decide)).trans ((findM_skip (by decide)).trans ((findM_skip (by decide)).trans ((findM_skip (by decide)).trans findM_hit)))) ?_
 refine hK' _ _ ?_
 clear hK' K'
 unfold shapeV
 iterate 4 go_step
 refine wp_load_blk 30 (.tmp 3) rfl w.heap.size _ Hx0.out rfl _ Tryz.underlying30 rfl (by kernel_rfl) ?_
 go_wp2_with (fail)
 with_reducible refine(HC.out _ H0.out).mono ?_
 rintro e w2 ⟨hb2,V,rfl,hP⟩
 have hw2:=H0.out.trans (hb2.mono H0.out.size)
 have hr2:=Hr0.out.below hb2 Hr0.out.lt
 have Hb2:=Lib.hid hb2
 have HP:=Lib.hid hP
 have Hw2:=Lib.hid hw2
 have Hr2:=Lib.hid hr2
 clear hb2 hP hw2 hr2
 go_wp2_with (fail)
 with_reducible refine(mobject_calls _ O V _ Hb2.out.size HP.out ho).mono ?_
 rintro e w3 ⟨hb3,oa3,oc3,rfl,hf3⟩
 have hw3:=Hw2.out.trans (hb3.mono Hw2.out.size)
 have hr3:=Hr2.out.below hb3 Hr2.out.lt
 have Hb3:=Lib.hid hb3
 have Hf3:=Lib.hid hf3
 have Hw3:=Lib.hid hw3
 have Hr3:=Lib.hid hr3
 clear hb3 hf3 hw3 hr3
 go_wp2_with (fail)
 with_reducible refine(mtextual_calls nMove _).mono ?_
 rintro e w4 ⟨rfl,hb4⟩
 have hw4:=Hw3.out.trans (hb4.mono Hw3.out.size)
 have hr4:=Hr3.out.below hb4 Hr3.out.lt
 have hf4:=Hf3.out.later hb4
 have hlt:=hr4.lt
 have hz2:w.heap.size+2≤((w.alloc (.cells #[.int .i64 6,y1,y2,y3,y4,y5,y6,y7,y8,y9,y10,y11,y12,y13,y14,y15,y16,y17,y18] 30)).alloc (.cells zero6 27)).heap.size:=by simp
 have hf4':=hf4.keep (b':=w.heap.size+2) hz2 (Nat.le_refl _) (fun _ _ _=>rfl)
 have hP5:PairsAt (w.heap.size+2) (w4.alloc (.cells #[.string kArgs,.int .i64 6,.bool false,.int .i64 0,.string ⟨#[]⟩,.slice none 0 0,.slice oa3 O.length oc3,.string kName,.int .i64 4,.bool false,.int .i64 0,.string nMove,.slice none 0 0,.slice none 0 0] Tpair)) [(kArgs,ov O),(kName,tv nMove)] (.slice (some ⟨w4.heap.size,0,none⟩) 2 2):=
  pairs_lit (by omega) rfl ((FreshA.one ((dP_fresh (key:=kArgs) hf4').later (alloc_below _ _))).app (FreshA.one (fresh_tvP _ _ kName nMove)))
 have hw5:=hw4.alloc hw4.size (.cells #[.string kArgs,.int .i64 6,.bool false,.int .i64 0,.string ⟨#[]⟩,.slice none 0 0,.slice oa3 O.length oc3,.string kName,.int .i64 4,.bool false,.int .i64 0,.string nMove,.slice none 0 0,.slice none 0 0] Tpair)
 have hr5:=hr4.alloc (.cells #[.string kArgs,.int .i64 6,.bool false,.int .i64 0,.string ⟨#[]⟩,.slice none 0 0,.slice oa3 O.length oc3,.string kName,.int .i64 4,.bool false,.int .i64 0,.string nMove,.slice none 0 0,.slice none 0 0] Tpair)
 have Hb4:=Lib.hid hb4
 have Hw4:=Lib.hid hw4
 have Hr4:=Lib.hid hr4
 have Hf4:=Lib.hid hf4
 have Hf4':=Lib.hid hf4'
 have HP5:=Lib.hid hP5
 have Hw5:=Lib.hid hw5
 have Hr5:=Lib.hid hr5
 clear hb4 hw4 hr4 hf4 hf4' hP5 hw5 hr5
 go_wp2_with (fail)
 with_reducible refine(mobject_calls (w.heap.size+2) [(kArgs,ov O),(kName,tv nMove)] _ _ (by simp;omega) HP5.out (by simp)).mono ?_
 rintro e w6 ⟨hb6,oa5,oc5,rfl,hf6⟩
 have hw6:=Hw5.out.trans (hb6.mono Hw5.out.size)
 have hr6:=Hr5.out.below hb6 Hr5.out.lt
 obtain⟨c0,c1,c2,c3,c4,c5⟩:=vcell hr6
 have fz:=hr6.frozen
 have hlt6:=hr6.lt
 have Hb6:=Lib.hid hb6
 have Hw6:=Lib.hid hw6
 have Hr6:=Lib.hid hr6
 have Hf6:=Lib.hid hf6
 clear hb6 hw6 hr6 hf6
 dsimp only
 repeat go_step
 have hxf:=((((((Hr6.out.set_ 0 (.int .i64 6)).set_ 1 (.bool false)).set_ 2 (.int .i64 0)).set_ 3 (.string ⟨#[]⟩)).set_ 4 (.slice none 0 0)).set_ 5 (.slice oa5 2 oc5))
 have hbf:=setMany_below [.int .i64 6,.bool false,.int .i64 0,.string ⟨#[]⟩,.slice none 0 0,.slice oa5 2 oc5] Hw6.out (Nat.le_succ w.heap.size) (o:=0)
 have hff:Fresh w.heap.size (setMany w6 (w.heap.size+1) 0 [.int .i64 6,.bool false,.int .i64 0,.string ⟨#[]⟩,.slice none 0 0,.slice oa5 2 oc5]) (dV (ov [(kArgs,ov O),(kName,tv nMove)])) [.int .i64 6,.bool false,.int .i64 0,.string ⟨#[]⟩,.slice none 0 0,.slice oa5 2 oc5]:=
  Hf6.out.keep (b':=w.heap.size) (by omega) (by rw[setMany_size];exact Nat.le_refl _) (fun p p1 _=>World.cell?_of_block (setMany_far _ _ _ _ _ (by omega)))
 exact bodyPost_ret (results_cell6 rfl rfl hxf) rfl ⟨hbf,oa5,oc5,rfl,hff⟩
set_option maxRecDepth 100000 in
set_option maxHeartbeats 4000000 in
theorem write_7 (y1 y2 y3 y4 y5 y6 y7 y8 y9 y10 y11 y12 y13 y14 y15 y16 y17 y18:Value) (O:List (ByteArray×Val)) (g A R W:Nat) (F:Nat→Nat) (w:World) (hS:Shp w g A R W F) (hN:MNames w) (ho:O.length≤1000000)
 (hC: ∀W',Below w.heap.size w W'→Calls Tryz.prog 118 #[.agg #[.int .i64 7,y1,y2,y3,y4,y5,y6,y7,y8,y9,y10,y11,y12,y13,y14,y15,y16,y17,y18],.pointer (some ⟨W,0,none⟩)] W' (PairsPost O W')):
 Calls Tryz.prog 35 #[.map (some g),.agg #[.int .i64 7,y1,y2,y3,y4,y5,y6,y7,y8,y9,y10,y11,y12,y13,y14,y15,y16,y17,y18]] w (WPost O nSeq w):=by
 have h0:Below w.heap.size w ((w.alloc (.cells #[.int .i64 7,y1,y2,y3,y4,y5,y6,y7,y8,y9,y10,y11,y12,y13,y14,y15,y16,y17,y18] 30)).alloc (.cells zero6 27)):=((Below.refl _ _).alloc (Nat.le_refl _) _).alloc (by simp) _
 have hm0:=(hS.map.alloc (.cells #[.int .i64 7,y1,y2,y3,y4,y5,y6,y7,y8,y9,y10,y11,y12,y13,y14,y15,y16,y17,y18] 30)).alloc (.cells zero6 27)
 have hx0:Blk ((w.alloc (.cells #[.int .i64 7,y1,y2,y3,y4,y5,y6,y7,y8,y9,y10,y11,y12,y13,y14,y15,y16,y17,y18] 30)).alloc (.cells zero6 27)) w.heap.size 30 #[.int .i64 7,y1,y2,y3,y4,y5,y6,y7,y8,y9,y10,y11,y12,y13,y14,y15,y16,y17,y18]:=(Blk.new _ _ _).alloc _
 have hr0:Blk ((w.alloc (.cells #[.int .i64 7,y1,y2,y3,y4,y5,y6,y7,y8,y9,y10,y11,y12,y13,y14,y15,y16,y17,y18] 30)).alloc (.cells zero6 27)) (w.heap.size+1) 27 zero6:=by
  have:=Blk.new (w.alloc (.cells #[.int .i64 7,y1,y2,y3,y4,y5,y6,y7,y8,y9,y10,y11,y12,y13,y14,y15,y16,y17,y18] 30)) 27 zero6
  rwa [World.size_alloc]at this
 have hn0:=hN.below h0
 obtain⟨n1,n2,n3,n4,n5,n6,n7,n8⟩:=hn0
 have hfd:=fun(f n:Nat) (a b:Fn) (c d:Array Value) (w:World)=>shape_field 7 f n a b c d w
 have H0:=Lib.hid h0
 have Hm0:=Lib.hid hm0
 have Hx0:=Lib.hid hx0
 have Hr0:=Lib.hid hr0
 have HC:=Lib.hid hC
 clear h0 hm0 hx0 hr0 hC
 clear hS hN
 go_enter Tryz.func35,Tryz.ntmps35
 go_upto_region 2 with(fail)
 clear n1 n2 n3 n4 n5 n6 n7
 iterate 7 go_step
 refine wpList_plain rfl fun K' hK'=> ?_
 refine wp_lookM Tshapes (.tmp 10) (.tmp 11) rfl mkey_shapes Tryz.underlying59 Hm0.out rfl rfl shape_zero ((findM_skip (by decide)).trans ((findM_skip (by decide)).trans ((findM_skip (by decide)).trans ((findM_skip (by decide)).trans ((findM_skip (by decide)).trans ((findM_skip (by decide)).trans findM_hit)))))) ?_
 refine hK' _ _ ?_
 clear hK' K'
 unfold shapeV
 iterate 4 go_step
 refine wp_load_blk 30 (.tmp 3) rfl w.heap.size _ Hx0.out rfl _ Tryz.underlying30 rfl (by kernel_rfl) ?_
 go_wp2_with (fail)
 with_reducible refine(HC.out _ H0.out).mono ?_
 rintro e w2 ⟨hb2,V,rfl,hP⟩
 have hw2:=H0.out.trans (hb2.mono H0.out.size)
 have hr2:=Hr0.out.below hb2 Hr0.out.lt
 have Hb2:=Lib.hid hb2
 have HP:=Lib.hid hP
 have Hw2:=Lib.hid hw2
 have Hr2:=Lib.hid hr2
 clear hb2 hP hw2 hr2
 go_wp2_with (fail)
 with_reducible refine(mobject_calls _ O V _ Hb2.out.size HP.out ho).mono ?_
 rintro e w3 ⟨hb3,oa3,oc3,rfl,hf3⟩
 have hw3:=Hw2.out.trans (hb3.mono Hw2.out.size)
 have hr3:=Hr2.out.below hb3 Hr2.out.lt
 have Hb3:=Lib.hid hb3
 have Hf3:=Lib.hid hf3
 have Hw3:=Lib.hid hw3
 have Hr3:=Lib.hid hr3
 clear hb3 hf3 hw3 hr3
 go_wp2_with (fail)
 with_reducible refine(mtextual_calls nSeq _).mono ?_
 rintro e w4 ⟨rfl,hb4⟩
 have hw4:=Hw3.out.trans (hb4.mono Hw3.out.size)
 have hr4:=Hr3.out.below hb4 Hr3.out.lt
 have hf4:=Hf3.out.later hb4
 have hlt:=hr4.lt
 have hz2:w.heap.size+2≤((w.alloc (.cells #[.int .i64 7,y1,y2,y3,y4,y5,y6,y7,y8,y9,y10,y11,y12,y13,y14,y15,y16,y17,y18] 30)).alloc (.cells zero6 27)).heap.size:=by simp
 have hf4':=hf4.keep (b':=w.heap.size+2) hz2 (Nat.le_refl _) (fun _ _ _=>rfl)
 have hP5:PairsAt (w.heap.size+2) (w4.alloc (.cells #[.string kArgs,.int .i64 6,.bool false,.int .i64 0,.string ⟨#[]⟩,.slice none 0 0,.slice oa3 O.length oc3,.string kName,.int .i64 4,.bool false,.int .i64 0,.string nSeq,.slice none 0 0,.slice none 0 0] Tpair)) [(kArgs,ov O),(kName,tv nSeq)] (.slice (some ⟨w4.heap.size,0,none⟩) 2 2):=
  pairs_lit (by omega) rfl ((FreshA.one ((dP_fresh (key:=kArgs) hf4').later (alloc_below _ _))).app (FreshA.one (fresh_tvP _ _ kName nSeq)))
 have hw5:=hw4.alloc hw4.size (.cells #[.string kArgs,.int .i64 6,.bool false,.int .i64 0,.string ⟨#[]⟩,.slice none 0 0,.slice oa3 O.length oc3,.string kName,.int .i64 4,.bool false,.int .i64 0,.string nSeq,.slice none 0 0,.slice none 0 0] Tpair)
 have hr5:=hr4.alloc (.cells #[.string kArgs,.int .i64 6,.bool false,.int .i64 0,.string ⟨#[]⟩,.slice none 0 0,.slice oa3 O.length oc3,.string kName,.int .i64 4,.bool false,.int .i64 0,.string nSeq,.slice none 0 0,.slice none 0 0] Tpair)
 have Hb4:=Lib.hid hb4
 have Hw4:=Lib.hid hw4
 have Hr4:=Lib.hid hr4
 have Hf4:=Lib.hid hf4
 have Hf4':=Lib.hid hf4'
 have HP5:=Lib.hid hP5
 have Hw5:=Lib.hid hw5
 have Hr5:=Lib.hid hr5
 clear hb4 hw4 hr4 hf4 hf4' hP5 hw5 hr5
 go_wp2_with (fail)
 with_reducible refine(mobject_calls (w.heap.size+2) [(kArgs,ov O),(kName,tv nSeq)] _ _ (by simp;omega) HP5.out (by simp)).mono ?_
 rintro e w6 ⟨hb6,oa5,oc5,rfl,hf6⟩
 have hw6:=Hw5.out.trans (hb6.mono Hw5.out.size)
 have hr6:=Hr5.out.below hb6 Hr5.out.lt
 obtain⟨c0,c1,c2,c3,c4,c5⟩:=vcell hr6
 have fz:=hr6.frozen
 have hlt6:=hr6.lt
 have Hb6:=Lib.hid hb6
 have Hw6:=Lib.hid hw6
 have Hr6:=Lib.hid hr6
 have Hf6:=Lib.hid hf6
 clear hb6 hw6 hr6 hf6
 dsimp only
 repeat go_step
 have hxf:=((((((Hr6.out.set_ 0 (.int .i64 6)).set_ 1 (.bool false)).set_ 2 (.int .i64 0)).set_ 3 (.string ⟨#[]⟩)).set_ 4 (.slice none 0 0)).set_ 5 (.slice oa5 2 oc5))
 have hbf:=setMany_below [.int .i64 6,.bool false,.int .i64 0,.string ⟨#[]⟩,.slice none 0 0,.slice oa5 2 oc5] Hw6.out (Nat.le_succ w.heap.size) (o:=0)
 have hff:Fresh w.heap.size (setMany w6 (w.heap.size+1) 0 [.int .i64 6,.bool false,.int .i64 0,.string ⟨#[]⟩,.slice none 0 0,.slice oa5 2 oc5]) (dV (ov [(kArgs,ov O),(kName,tv nSeq)])) [.int .i64 6,.bool false,.int .i64 0,.string ⟨#[]⟩,.slice none 0 0,.slice oa5 2 oc5]:=
  Hf6.out.keep (b':=w.heap.size) (by omega) (by rw[setMany_size];exact Nat.le_refl _) (fun p p1 _=>World.cell?_of_block (setMany_far _ _ _ _ _ (by omega)))
 exact bodyPost_ret (results_cell6 rfl rfl hxf) rfl ⟨hbf,oa5,oc5,rfl,hff⟩
end Go.Proofs.YtkkbplakgldlpaaGreatDoor
