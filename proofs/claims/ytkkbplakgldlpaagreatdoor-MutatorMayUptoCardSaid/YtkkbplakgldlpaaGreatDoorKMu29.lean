/- Parts, joined: What a name has in a list of fields, in a reader of mutators. Condition: at most 10^8 fields. The shapes of mutators: what each name has. No condition. Rows that a call builds by append: several data at once; a row's literal. Plain. No condition. -/
import Derived.Test.YtkkbplakgldlpaaGreatDoorProg
import Derived.Laws.EntriesVeiled
import Derived.Test.YtkkbplakgldlpaaGreatDoorKMu1
import Derived.Test.YtkkbplakgldlpaaGreatDoorKMu13
import Derived.Test.YtkkbplakgldlpaaGreatDoorKMu14
import Derived.Test.YtkkbplakgldlpaaGreatDoorKMu25
namespace Go.Proofs.YtkkbplakgldlpaaGreatDoor
open Go Go.RowKit
def findF (k:ByteArray):List (ByteArray×Int)→Option Int
 | []=>none
 |(a,x)::r=>if a=k then some x else findF k r
theorem findF_take {k:ByteArray}: ∀{o:List (ByteArray×Int)} {q:Nat} {p:ByteArray×Int},(∀x ∈ o.take q,x.1≠k)→o[q]? =some p→p.1=k→findF k o=some p.2
 | [],q,p,_,h,_=>by simp at h
 |x::r,0,p,_,h,e=>by
  simp only[List.getElem?_cons_zero,Option.some.injEq]at h
  subst h
  unfold findF
  rw[if_pos e]
 |x::r,q+1,p,ht,h,e=>by
  unfold findF
  rw[if_neg (ht x (by simp))]
  exact findF_take (fun y hy=>ht y (by rw[List.take_succ_cons];exact List.mem_cons_of_mem _ hy)) (by simpa using h) e
theorem findF_all {k:ByteArray}: ∀{o:List (ByteArray×Int)},(∀x ∈ o,x.1≠k)→findF k o=none
 | [],_=>rfl
 |(a,x)::r,h=>by
  unfold findF
  rw[if_neg (h (a,x) (by simp)),findF_all fun y hy=>h y (List.mem_cons_of_mem _ hy)]
structure Fld (w:World) (g off:Nat) (fs:List (ByteArray×Int)):Prop where
 lt:g<w.heap.size
 key: ∀j p,fs[j]? =some p→w.cell? ⟨g,off+j*2,none⟩=some (.string p.1)
 has: ∀j p,fs[j]? =some p→w.cell? ⟨g,off+j*2+1,none⟩=some (.int .i64 p.2)
theorem Fld.below {w w':World} {g off:Nat} {fs:List (ByteArray×Int)} (h:Fld w g off fs) (hb:Below w.heap.size w w'):Fld w' g off fs:=
 ⟨Nat.lt_of_lt_of_le h.lt hb.size,fun j p e=>(hb.cell (p:=⟨g,off+j*2,none⟩) h.lt).trans (h.key j p e),fun j p e=>(hb.cell (p:=⟨g,off+j*2+1,none⟩) h.lt).trans (h.has j p e)⟩
def FnfPost (fs:List (ByteArray×Int)) (key:ByteArray) (w:World) (e:Ending) (w':World):Prop:=Below w.heap.size w w'∧e=.returned (.tuple #[.int .i64 ((findF key fs).getD 0),.bool (findF key fs).isSome])
set_option maxRecDepth 100000 in
set_option maxHeartbeats 8000000 in
theorem findF_calls (fs:List (ByteArray×Int)) (g off c:Nat) (key:ByteArray) (w:World) (h:Fld w g off fs) (hl:fs.length≤100000000):
 Calls Tryz.prog 141 #[.slice (some ⟨g,off,none⟩) fs.length c,.string key] w (FnfPost fs key w):=by
 have hs0: ∀p ∈ fs.take 0,p.1≠key:=by simp
 have hI0:Below w.heap.size w w:=Below.refl _ _
 have HI0:=Lib.hid hI0
 have H:=Lib.hid h
 have Hs0:=Lib.hid hs0
 clear hI0 h hs0
 go_enter Tryz.func141,Tryz.ntmps141
 go_upto_region 1 with(fail)
 go_wp2_with (fail)
 go_loopw [11] (fun i wr=> ∃q:Nat,i=.int .i64 q∧q≤fs.length∧Hid (∀p ∈ fs.take q,p.1≠key)∧Hid (Below w.heap.size w wr)) (fun i _=>fs.length - (intOf i).toNat)
 case atStart=>exact⟨0,rfl,Nat.zero_le _,Hs0,HI0⟩
 case round=>
  obtain⟨q,rfl,hq,hin,hI⟩:=hrel
  clear HI0 Hs0
  have hq0:(0:Int)≤q:=by omega
  by_cases hlt:q<fs.length
  · obtain⟨p,hp⟩: ∃p,fs[q]? =some p:=⟨_,List.getElem?_eq_getElem (by omega)⟩
    obtain⟨pkey,pn⟩:=p
    have hz:=hI.out.size
    have hF:=H.out.below hI.out
    have c0:=hF.key q _ hp
    have c1:=hF.has q _ hp
    have hgr:=hF.lt
    have hq1:(q:Int)<(fs.length:Int):=by omega
    have hIa:=hI.out.alloc hz (.cells #[.string pkey,.int .i64 pn] 103)
    have htk:fs.take (q+1)=fs.take q++ [(pkey,pn)]:=by rw[List.take_add_one,hp];simp
    by_cases hkk:pkey=key
    · subst hkk
      obtain⟨e1,e2⟩:=bl_yes pkey
      have hfind:=findF_take (o:=fs) hin.out hp rfl
      have HIa:=Lib.hid hIa
      have Hp:=Lib.hid hp
      have Htk:=Lib.hid htk
      have Hfind:=Lib.hid hfind
      have HF:=Lib.hid hF
      clear hIa hp htk hfind hF
      clear hI hin
      go_wp2
      go_ret2
      exact⟨HIa.out,by rw[Hfind.out];rfl⟩
    · obtain⟨e1,e2⟩:=bl_no hkk
      have hin':Hid (∀p ∈ fs.take (q+1),p.1≠key):=by
       refine Lib.hid ?_
       rw[htk]
       intro p hp
       rcases List.mem_append.1 hp with h|h
       · exact hin.out p h
       · obtain rfl:=List.mem_singleton.1 h
         exact hkk
      have HIa:=Lib.hid hIa
      have Hp:=Lib.hid hp
      have Htk:=Lib.hid htk
      have HF:=Lib.hid hF
      clear hIa hp htk hF
      clear hI hin hkk
      go_wp2
      go_roundw
      case rel=>exact⟨q+1,by go_num,by omega,hin',HIa⟩
      case measure=>simp only[intOf];omega
  · obtain rfl:q=fs.length:=by omega
    have hnone:=findF_all (k:=key) (o:=fs) (by
     have:=hin.out
     rwa [List.take_length]at this)
    have Hnone:=Lib.hid hnone
    clear hnone
    clear hin
    go_wp2
    go_ret2
    exact⟨hI.out,by rw[Hnone.out];rfl⟩
end Go.Proofs.YtkkbplakgldlpaaGreatDoor

namespace Go.Proofs.YtkkbplakgldlpaaGreatDoor
open Go Go.RowKit
abbrev Tneed:TypeId:=103
abbrev Tshapes:TypeId:=59
abbrev shapeV (k:Int) (f n:Nat) (rd wr:Value):Value:=.agg #[.int .i64 k,.slice (some ⟨f,0,none⟩) n n,rd,wr]
theorem valued_calls (k:Int) (w:World):Calls Tryz.prog 69 #[.int .i64 k] w fun e w'=>Below w.heap.size w w'∧ ∃f,e=.returned (shapeV k f 2 (.func (.func 110) #[] #[]) (.func (.func 112) #[] #[]))∧
 w.heap.size≤f∧Blk w' f Tneed #[.string kKey,.int .i64 0,.string kVal,.int .i64 0]:=by
 go_enter Tryz.func69,Tryz.ntmps69
 go_wp2
 have h:=Blk.new (w.alloc (.cells #[.int .i64 k,.slice (some ⟨w.heap.size+1,0,none⟩) 2 2,.func (.func 110) #[] #[],.func (.func 112) #[] #[]] 97)) Tneed #[.string kKey,.int .i64 0,.string kVal,.int .i64 0]
 rw[World.size_alloc]at h
 exact bodyPost_ret (v:=shapeV k (w.heap.size+1) 2 (.func (.func 110) #[] #[]) (.func (.func 112) #[] #[])) (by simp[results,Tryz.results69,go_sem]) rfl ⟨((Below.refl _ _).alloc (Nat.le_refl _) _).alloc (by simp) _,_,rfl,by omega,h⟩
theorem swapped_calls (w:World):Calls Tryz.prog 78 #[] w fun e w'=>Below w.heap.size w w'∧ ∃f,e=.returned (shapeV 4 f 3 (.func (.func 114) #[] #[]) (.func (.func 115) #[] #[]))∧
 w.heap.size≤f∧Blk w' f Tneed #[.string kIs,.int .i64 1,.string kKey,.int .i64 0,.string kWas,.int .i64 1]:=by
 go_enter Tryz.func78,Tryz.ntmps78
 go_wp2
 have h:=Blk.new (w.alloc (.cells #[.int .i64 4,.slice (some ⟨w.heap.size+1,0,none⟩) 3 3,.func (.func 114) #[] #[],.func (.func 115) #[] #[]] 97)) Tneed #[.string kIs,.int .i64 1,.string kKey,.int .i64 0,.string kWas,.int .i64 1]
 rw[World.size_alloc]at h
 exact bodyPost_ret (v:=shapeV 4 (w.heap.size+1) 3 (.func (.func 114) #[] #[]) (.func (.func 115) #[] #[])) (by simp[results,Tryz.results78,go_sem]) rfl ⟨((Below.refl _ _).alloc (Nat.le_refl _) _).alloc (by simp) _,_,rfl,by omega,h⟩
theorem sequence_calls (fn gn:Fn) (c1 c2:Array Value) (w:World):Calls Tryz.prog 79 #[.func fn #[] c1,.func gn #[] c2] w fun e w'=>Below w.heap.size w w'∧ ∃f r x,e=.returned (shapeV 7 f 2 (.func (.func 117) #[] #[.pointer (some ⟨r,0,none⟩)]) (.func (.func 118) #[] #[.pointer (some ⟨x,0,none⟩)]))∧
 (w.heap.size≤f∧w.heap.size≤r∧w.heap.size≤x)∧Blk w' f Tneed #[.string kDo,.int .i64 0,.string kIf,.int .i64 1]∧Blk w' r 109 #[.func fn #[] c1]∧Blk w' x 41 #[.func gn #[] c2]:=by
 have hr:=Blk.new w 109 #[.func fn #[] c1]
 have hx:=Blk.new (w.alloc (.cells #[.func fn #[] c1] 109)) 41 #[.func gn #[] c2]
 have h:=Blk.new (((w.alloc (.cells #[.func fn #[] c1] 109)).alloc (.cells #[.func gn #[] c2] 41)).alloc (.cells #[.int .i64 7,.slice (some ⟨w.heap.size+1+1+1,0,none⟩) 2 2,.func (.func 117) #[] #[.pointer (some ⟨w.heap.size,0,none⟩)],.func (.func 118) #[] #[.pointer (some ⟨w.heap.size+1,0,none⟩)]] 97)) Tneed #[.string kDo,.int .i64 0,.string kIf,.int .i64 1]
 rw[World.size_alloc]at hx
 rw[World.size_alloc,World.size_alloc,World.size_alloc]at h
 have Hr:=Lib.hid hr
 have Hx:=Lib.hid hx
 have H:=Lib.hid h
 clear hr hx h
 go_enter Tryz.func79,Tryz.ntmps79
 go_wp2
 refine bodyPost_ret (v:=shapeV 7 (w.heap.size+1+1+1) 2 (.func (.func 117) #[] #[.pointer (some ⟨w.heap.size,0,none⟩)]) (.func (.func 118) #[] #[.pointer (some ⟨w.heap.size+1,0,none⟩)])) (by simp[results,Tryz.results79,go_sem]) rfl
  ⟨((((Below.refl _ _).alloc (Nat.le_refl _) _).alloc (by simp) _).alloc (by simp;omega) _).alloc (by simp;omega) _,_,_,_,rfl,⟨by omega,by omega,by omega⟩,H.out,((Hr.out.alloc _).alloc _).alloc _,(Hx.out.alloc _).alloc _⟩
structure Shp (w:World) (g A R W:Nat) (F:Nat→Nat):Prop where
 map:MapAt Value.string w g [(nPut,shapeV 1 (F 1) 2 (.func (.func 110) #[] #[]) (.func (.func 112) #[] #[])),
  (nApp,shapeV 5 (F 5) 2 (.func (.func 110) #[] #[]) (.func (.func 112) #[] #[])),
  (nDel,shapeV 2 (F 2) 1 (.func (.func 70) #[] #[]) (.func (.func 72) #[] #[])),
  (nInc,shapeV 3 (F 3) 2 (.func (.func 73) #[] #[]) (.func (.func 75) #[] #[])),
  (nMove,shapeV 6 (F 6) 2 (.func (.func 76) #[] #[]) (.func (.func 77) #[] #[])),
  (nCas,shapeV 4 (F 4) 3 (.func (.func 114) #[] #[]) (.func (.func 115) #[] #[])),
  (nSeq,shapeV 7 (F 7) 2 (.func (.func 117) #[] #[.pointer (some ⟨R,0,none⟩)]) (.func (.func 118) #[] #[.pointer (some ⟨W,0,none⟩)]))]
 all_:Blk w A Tshapes #[.map (some g)]
 rd:Blk w R 109 #[.func (.func 80) #[] #[.pointer (some ⟨A,0,none⟩)]]
 wr:Blk w W 41 #[.func (.func 81) #[] #[.pointer (some ⟨A,0,none⟩)]]
 f1:Blk w (F 1) Tneed #[.string kKey,.int .i64 0,.string kVal,.int .i64 0]
 f5:Blk w (F 5) Tneed #[.string kKey,.int .i64 0,.string kVal,.int .i64 0]
 f2:Blk w (F 2) Tneed #[.string kKey,.int .i64 0]
 f3:Blk w (F 3) Tneed #[.string kBy,.int .i64 0,.string kKey,.int .i64 0]
 f6:Blk w (F 6) Tneed #[.string kFrom,.int .i64 0,.string kTo,.int .i64 0]
 f4:Blk w (F 4) Tneed #[.string kIs,.int .i64 1,.string kKey,.int .i64 0,.string kWas,.int .i64 1]
 f7:Blk w (F 7) Tneed #[.string kDo,.int .i64 0,.string kIf,.int .i64 1]
theorem Shp.below {w w':World} {g A R W:Nat} {F:Nat→Nat} (h:Shp w g A R W F) (hb:Below w.heap.size w w'):Shp w' g A R W F:=
 ⟨h.map.below hb h.map.lt,h.all_.below hb h.all_.lt,h.rd.below hb h.rd.lt,h.wr.below hb h.wr.lt,h.f1.below hb h.f1.lt,h.f5.below hb h.f5.lt,h.f2.below hb h.f2.lt,h.f3.below hb h.f3.lt,h.f6.below hb h.f6.lt,h.f4.below hb h.f4.lt,h.f7.below hb h.f7.lt⟩
theorem mkey_shapes:MKey Tryz.prog 9 Value.string:=mkey_string Tryz.underlying9
structure SS (w:World) (g A:Nat) (wr:World) (kv:List (ByteArray×Value)):Prop where
 below:Below w.heap.size w wr
 map:MapAt Value.string wr g kv
 var:Blk wr A Tshapes #[.map none]
 ge:w.heap.size≤g∧g≠A
theorem SS.call {w wr w':World} {g A:Nat} {kv:List (ByteArray×Value)} (h:SS w g A wr kv) (hb:Below wr.heap.size wr w'):SS w g A w' kv:=
 ⟨h.below.trans (hb.mono h.below.size),h.map.below hb h.map.lt,h.var.below hb h.var.lt,h.ge⟩
theorem SS.ins {w wr w':World} {g A:Nat} {kv kv':List (ByteArray×Value)} (h:SS w g A wr kv) (hM:MapAt Value.string w' g kv') (hg:wr.grownBy w' (some g)):SS w g A w' kv':=
 ⟨h.below.grown hg h.below.size fun k e=>by cases e;exact h.ge.1,hM,h.var.grown hg (by simpa using Ne.symm h.ge.2),h.ge⟩
theorem findM_ne {a k:ByteArray} {v:Value} {r:List (ByteArray×Value)} (h:a≠k) (hr:findM a r=none):findM a ((k,v)::r)=none:=by
 simp only[findM,if_neg h];exact hr
set_option maxRecDepth 100000 in
set_option maxHeartbeats 4000000 in
theorem shapes_calls (w:World):Calls Tryz.prog 36 #[] w fun e w'=>Below w.heap.size w w'∧ ∃g A R W F,e=.returned (.map (some g))∧Shp w' g A R W F:=by
 have hmm:=fun W=>run_makeMap (P:=Tryz.prog) Tshapes W
 go_enter Tryz.func36,Tryz.ntmps36
 go_upto_region 2 with(fail)
 have hS0:SS w (w.heap.size+1) w.heap.size ((w.alloc (.cells #[.map none] Tshapes)).alloc (.map #[] 0)) []:=by
  have:=MapAt.new (f:=Value.string) (w.alloc (.cells #[.map none] Tshapes))
  rw[World.size_alloc]at this
  exact⟨((Below.refl _ _).alloc (Nat.le_refl _) _).alloc (by simp) _,this,(Blk.new _ _ _).alloc _,by omega,by omega⟩
 have h0s:((w.alloc (.cells #[.map none] Tshapes)).alloc (.map #[] 0)).heap.size=w.heap.size+1+1:=by simp
 have HS0:=Lib.hid hS0
 have H0s:=Lib.hid h0s
 clear hS0 h0s
 go_wp2_with (fail)
 with_reducible refine(valued_calls 1 _).mono ?_
 rintro e w1 ⟨hb1,f1,rfl,hf1,k1⟩
 rw[H0s.out]at hf1
 have HS1:=Lib.hid (HS0.out.call hb1)
 have K1:=Lib.hid k1
 clear hb1 k1
 go_wp2_with ((with_reducible refine wpList_insertM rfl (.tmp 2) _ _ Tshapes rfl mkey_shapes Tryz.underlying59 rfl HS1.out.map rfl rfl rfl ?_);intro w2 hM2 hg2 hs2)
 have HS2:=Lib.hid (HS1.out.ins hM2 hg2)
 have K12:=Lib.hid (K1.out.grown hg2 (by simp;omega))
 have hz2:w.heap.size+1+1≤w2.heap.size:=by have:=K1.out.lt;omega
 clear hM2 hg2 hs2 K1 HS1 HS0
 go_wp2_with (fail)
 with_reducible refine(valued_calls 5 _).mono ?_
 rintro e w3 ⟨hb3,f5,rfl,hf5,k5⟩
 have HS3:=Lib.hid (HS2.out.call hb3)
 have K13:=Lib.hid (K12.out.below hb3 K12.out.lt)
 have K53:=Lib.hid k5
 clear hb3 k5 K12 HS2
 go_wp2_with (first
  |((with_reducible refine wpList_insertM rfl (.tmp 2) _ _ Tshapes rfl mkey_shapes Tryz.underlying59 rfl HS3.out.map rfl rfl (findM_ne (by decide) rfl) ?_);intro w4 hM4 hg4 hs4;have HS4:=Lib.hid (HS3.out.ins hM4 hg4);have K14:=Lib.hid (K13.out.grown hg4 (by simp;omega));have K54:=Lib.hid (K53.out.grown hg4 (by simp;omega));have hz4:w.heap.size+1+1≤w4.heap.size:=(by have:=K14.out.lt;omega);clear hM4 hg4 hs4 HS3 K13 K53)
  |(((with_reducible refine wpList_insertM rfl (.tmp 2) _ _ Tshapes rfl mkey_shapes Tryz.underlying59 rfl (HS4.out.call (alloc_below w4 (.cells #[.string kKey,.int .i64 0] Tneed))).map rfl rfl (findM_ne (by decide) (findM_ne (by decide) rfl)) ?_));intro w5 hM5 hg5 hs5;have HS5:=Lib.hid ((HS4.out.call (alloc_below w4 (.cells #[.string kKey,.int .i64 0] Tneed))).ins hM5 hg5);have K15:=Lib.hid ((K14.out.alloc (.cells #[.string kKey,.int .i64 0] Tneed)).grown hg5 (by simp;omega));have K55:=Lib.hid ((K54.out.alloc (.cells #[.string kKey,.int .i64 0] Tneed)).grown hg5 (by simp;omega));have K25:=Lib.hid ((Blk.new w4 Tneed #[.string kKey,.int .i64 0]).grown hg5 (by simp;omega));have hz5:w.heap.size+1+1≤w5.heap.size:=(by have:=K15.out.lt;omega);clear hM5 hg5 hs5 HS4 K14 K54)
  |(((with_reducible refine wpList_insertM rfl (.tmp 2) _ _ Tshapes rfl mkey_shapes Tryz.underlying59 rfl (HS5.out.call (alloc_below w5 (.cells #[.string kBy,.int .i64 0,.string kKey,.int .i64 0] Tneed))).map rfl rfl (findM_ne (by decide) (findM_ne (by decide) (findM_ne (by decide) rfl))) ?_));intro w6 hM6 hg6 hs6;have HS6:=Lib.hid ((HS5.out.call (alloc_below w5 (.cells #[.string kBy,.int .i64 0,.string kKey,.int .i64 0] Tneed))).ins hM6 hg6);have K16:=Lib.hid ((K15.out.alloc (.cells #[.string kBy,.int .i64 0,.string kKey,.int .i64 0] Tneed)).grown hg6 (by simp;omega));have K56:=Lib.hid ((K55.out.alloc (.cells #[.string kBy,.int .i64 0,.string kKey,.int .i64 0] Tneed)).grown hg6 (by simp;omega));have K26:=Lib.hid ((K25.out.alloc (.cells #[.string kBy,.int .i64 0,.string kKey,.int .i64 0] Tneed)).grown hg6 (by simp;omega));have K36:=Lib.hid ((Blk.new w5 Tneed #[.string kBy,.int .i64 0,.string kKey,.int .i64 0]).grown hg6 (by simp;omega));have hz6:w.heap.size+1+1≤w6.heap.size:=(by have:=K16.out.lt;omega);clear hM6 hg6 hs6 HS5 K15 K55 K25)
  |(((with_reducible refine wpList_insertM rfl (.tmp 2) _ _ Tshapes rfl mkey_shapes Tryz.underlying59 rfl (HS6.out.call (alloc_below w6 (.cells #[.string kFrom,.int .i64 0,.string kTo,.int .i64 0] Tneed))).map rfl rfl (findM_ne (by decide) (findM_ne (by decide) (findM_ne (by decide) (findM_ne (by decide) rfl)))) ?_));intro w7 hM7 hg7 hs7;have HS7:=Lib.hid ((HS6.out.call (alloc_below w6 (.cells #[.string kFrom,.int .i64 0,.string kTo,.int .i64 0] Tneed))).ins hM7 hg7);have K17:=Lib.hid ((K16.out.alloc (.cells #[.string kFrom,.int .i64 0,.string kTo,.int .i64 0] Tneed)).grown hg7 (by simp;omega));have K57:=Lib.hid ((K56.out.alloc (.cells #[.string kFrom,.int .i64 0,.string kTo,.int .i64 0] Tneed)).grown hg7 (by simp;omega));have K27:=Lib.hid ((K26.out.alloc (.cells #[.string kFrom,.int .i64 0,.string kTo,.int .i64 0] Tneed)).grown hg7 (by simp;omega));have K37:=Lib.hid ((K36.out.alloc (.cells #[.string kFrom,.int .i64 0,.string kTo,.int .i64 0] Tneed)).grown hg7 (by simp;omega));have K67:=Lib.hid ((Blk.new w6 Tneed #[.string kFrom,.int .i64 0,.string kTo,.int .i64 0]).grown hg7 (by simp;omega));have hz7:w.heap.size+1+1≤w7.heap.size:=(by have:=K17.out.lt;omega);clear hM7 hg7 hs7 HS6 K16 K56 K26 K36))
 with_reducible refine(swapped_calls _).mono ?_
 rintro e w8 ⟨hb8,f4,rfl,hf4,k4⟩
 have HS8:=Lib.hid (HS7.out.call hb8)
 have K18:=Lib.hid (K17.out.below hb8 K17.out.lt)
 have K58:=Lib.hid (K57.out.below hb8 K57.out.lt)
 have K28:=Lib.hid (K27.out.below hb8 K27.out.lt)
 have K38:=Lib.hid (K37.out.below hb8 K37.out.lt)
 have K68:=Lib.hid (K67.out.below hb8 K67.out.lt)
 have K48:=Lib.hid k4
 clear hb8 k4 HS7 K17 K57 K27 K37 K67
 go_wp2_with ((with_reducible refine wpList_insertM rfl (.tmp 2) _ _ Tshapes rfl mkey_shapes Tryz.underlying59 rfl HS8.out.map rfl rfl (findM_ne (by decide) (findM_ne (by decide) (findM_ne (by decide) (findM_ne (by decide) (findM_ne (by decide) rfl))))) ?_);intro w9 hM9 hg9 hs9;have HS9:=Lib.hid (HS8.out.ins hM9 hg9);have K19:=Lib.hid (K18.out.grown hg9 (by simp;omega));have K59:=Lib.hid (K58.out.grown hg9 (by simp;omega));have K29:=Lib.hid (K28.out.grown hg9 (by simp;omega));have K39:=Lib.hid (K38.out.grown hg9 (by simp;omega));have K69:=Lib.hid (K68.out.grown hg9 (by simp;omega));have K49:=Lib.hid (K48.out.grown hg9 (by simp;omega));have hz9:w.heap.size+1+1≤w9.heap.size:=(by have:=K19.out.lt;omega);clear hM9 hg9 hs9 HS8 K18 K58 K28 K38 K68 K48)
 with_reducible refine(sequence_calls _ _ _ _ _).mono ?_
 rintro e w10 ⟨hb10,f7,r,x,rfl,⟨hf7,hr,hx⟩,k7,kr,kx⟩
 have HSa:=Lib.hid (HS9.out.call hb10)
 have K1a:=Lib.hid (K19.out.below hb10 K19.out.lt)
 have K5a:=Lib.hid (K59.out.below hb10 K59.out.lt)
 have K2a:=Lib.hid (K29.out.below hb10 K29.out.lt)
 have K3a:=Lib.hid (K39.out.below hb10 K39.out.lt)
 have K6a:=Lib.hid (K69.out.below hb10 K69.out.lt)
 have K4a:=Lib.hid (K49.out.below hb10 K49.out.lt)
 have K7:=Lib.hid k7
 have Kr:=Lib.hid kr
 have Kx:=Lib.hid kx
 clear k7 kr kx
 clear hb10 HS9 K19 K59 K29 K39 K69 K49
 go_wp2_with ((with_reducible refine wpList_insertM rfl (.tmp 2) _ _ Tshapes rfl mkey_shapes Tryz.underlying59 rfl HSa.out.map rfl rfl (findM_ne (by decide) (findM_ne (by decide) (findM_ne (by decide) (findM_ne (by decide) (findM_ne (by decide) (findM_ne (by decide) rfl)))))) ?_);intro wb hMb hgb hsb;have HSb:=Lib.hid (HSa.out.ins hMb hgb);have K1b:=Lib.hid (K1a.out.grown hgb (by simp;omega));have K5b:=Lib.hid (K5a.out.grown hgb (by simp;omega));have K2b:=Lib.hid (K2a.out.grown hgb (by simp;omega));have K3b:=Lib.hid (K3a.out.grown hgb (by simp;omega));have K6b:=Lib.hid (K6a.out.grown hgb (by simp;omega));have K4b:=Lib.hid (K4a.out.grown hgb (by simp;omega));have K7b:=Lib.hid (K7.out.grown hgb (by simp;omega));have Krb:=Lib.hid (Kr.out.grown hgb (by simp;omega));have Kxb:=Lib.hid (Kx.out.grown hgb (by simp;omega));have hgA:=HSb.out.var.lt;have dA:=HSb.out.var.cell 0;have fA:=HSb.out.var.frozen 0;clear hMb hgb hsb HSa K7 Kr Kx K1a K5a K2a K3a K6a K4a)
 go_ret
 have hbb:=HSb.out.below
 refine⟨hbb.setCell (Nat.le_refl _) _,w.heap.size+1,w.heap.size,r,x,fun i=>if i=1 then f1 else if i=5 then f5 else if i=2 then w4.heap.size else if i=3 then w5.heap.size else if i=6 then w6.heap.size else if i=4 then f4 else f7,rfl, ?_⟩
 exact⟨HSb.out.map.setCell (by simp) _,HSb.out.var.set_ 0 _,Krb.out.far (by simp;omega) _,Kxb.out.far (by simp;omega) _,K1b.out.far (by simp;omega) _,K5b.out.far (by simp;omega) _,K2b.out.far (by simp;omega) _,K3b.out.far (by simp;omega) _,K6b.out.far (by simp;omega) _,K4b.out.far (by simp;omega) _,K7b.out.far (by simp;omega) _⟩
end Go.Proofs.YtkkbplakgldlpaaGreatDoor

namespace Go.Proofs.YtkkbplakgldlpaaGreatDoor
open Go Go.RowKit
theorem RowX.lit {S0:Nat→Prop} {b:Nat} {t:TypeId} {w:World} {d:D} {cs:Array Value} (hb:b≤w.heap.size) (hd:d.cells=cs.size) (h:HoldsIn (fun i=>S0 i∧i≠w.heap.size) (w.alloc (.cells cs t)) d cs.toList):
 RowX S0 b t cs.size (w.alloc (.cells cs t)) [d] (.slice (some ⟨w.heap.size,0,none⟩) 1 1):=by
 refine⟨cs.toList,⟨by simp,.inr ⟨w.heap.size,1,cs,rfl,hb,heap_alloc_new w _,Nat.le_refl _,by unfold maxLen;omega,by simp, ?_⟩⟩,fun x hx=> ?_,HoldsInA.one (h.mono fun i _ hi=>⟨hi.1,fun e=>hi.2 (Option.some.inj (e:some w.heap.size=some i)).symm⟩)⟩
 · simp only[List.length_cons,List.length_nil,Nat.zero_add,Nat.one_mul]
   rw[←Array.length_toList,List.take_length]
 · simp only[List.mem_cons,List.not_mem_nil,or_false]at hx
   rw[hx];exact hd
section
variable {P:Program}
theorem run_append_L {t ty e:TypeId} {i:TypeInfo} {z:Value} {sz bytes:Nat} (ht:P.underlying t=some (.slice e)) (hi:P.info? e=some i) (hz:i.zero=some z) (hsize:i.size=sz) (hby:i.bytes=bytes) (hzs:z.cells.size=sz) (hsz:0<sz)
 {S0:Nat→Prop} {b:Nat} {w:World} {l:List D} {V:Value} (hrow:RowX S0 b e sz w l V) (hbw:b≤w.heap.size) {dl:List D} {cs:List Value} (hd: ∀d ∈ dl,d.cells=sz) (hx:HoldsInA (fun i=>S0 i∧V.ownBlock≠some i) w dl cs)
 {B:Nat} {A:Option Addr} {n c:Nat} (hr:Reads w B sz A n cs) (hn:n=dl.length) (h63:l.length+n≤maxLen) (hbytes:(l.length+n)*bytes≤140737488355328):
 ∃V' w6,(Builtin.append_ #[t,t] ty #[V,.slice A n c]).run P w=.ok V' w6∧RowX S0 b e sz w6 (l++dl) V'∧w.grownBy w6 V.ownBlock∧(V'.ownBlock=V.ownBlock∨V'.ownBlock=some w.heap.size):=by
 subst hn
 obtain⟨ns,h1,h2,h3⟩:=hrow
 obtain⟨V',w6,hrun,g1,g2,g3⟩:=run_append_any (P:=P) w b t ty e i z sz bytes ht hi hz hsize hby hzs hsz V l.length ns h1 B A dl.length c cs hr hx.now.len.2 h63 hbytes hbw
 refine⟨V',w6,hrun,⟨ns++cs,by rw[List.length_append];exact g1, ?_, ?_⟩,g2,g3⟩
 · intro x hx'
   rcases List.mem_append.1 hx' with hx'|hx'
   · exact h2 x hx'
   · exact hd x hx'
 · have key: ∀p:Addr,V.ownBlock≠some p.block→p.block<w.heap.size→V'.ownBlock≠some p.block:=by
    intro p p1 p2
    rcases g3 with e3|e3
    · rw[e3];exact p1
    · rw[e3];intro e4;have:=Option.some.inj e4;omega
   have hag: ∀w'':World,w6.heap.size≤w''.heap.size→(∀p:Addr,S0 p.block∧V'.ownBlock≠some p.block→p.block<w6.heap.size→w''.cell? p=w6.cell? p)→ ∀p:Addr,S0 p.block∧V.ownBlock≠some p.block→p.block<w.heap.size→w''.cell? p=w.cell? p:=by
    intro w'' k1 k2 p p1 p2
    rw[k2 p ⟨p1.1,key p p1.2 p2⟩ (Nat.lt_of_lt_of_le p2 g2.size)]
    exact World.cell?_of_block (g2.block p.block p2 (fun e=>p1.2 e.symm))
   intro w'' k1 k2
   have a1:=HoldsA.more (h3 w'' (Nat.le_trans g2.size k1) (hag w'' k1 k2)) g2.size
   have a2:=HoldsA.more (hx w'' (Nat.le_trans g2.size k1) (hag w'' k1 k2)) g2.size
   exact a1.app a2
theorem wp_append_L {o:Oper} {a:Act} {w:World} {K:Act→World→Prop} {Q:Exit→Act→World→Prop} (s x:Operand) (t:TypeId) {e:TypeId}
 (ho:o.op=.call {callee:=.builtin .append,args:= #[s,x],argTypes:= #[t,t]}) {i:TypeInfo} {z:Value} {sz bytes:Nat} (ht:P.underlying t=some (.slice e)) (hi:P.info? e=some i) (hz:i.zero=some z) (hsize:i.size=sz) (hby:i.bytes=bytes) (hzs:z.cells.size=sz) (hsz:0<sz)
 {S0:Nat→Prop} {b:Nat} {l:List D} {V:Value} (hs:a.eval s=V) (hrow:RowX S0 b e sz w l V) (hbw:b≤w.heap.size) {dl:List D} {cs:List Value} (hd: ∀d ∈ dl,d.cells=sz) (hf:HoldsInA (fun i=>S0 i∧V.ownBlock≠some i) w dl cs)
 {B:Nat} {A:Option Addr} {n c:Nat} (hx:a.eval x=.slice A n c) (hr:Reads w B sz A n cs) (hn:n=dl.length) (h63:l.length+n≤maxLen) (hbytes:(l.length+n)*bytes≤140737488355328)
 (h: ∀V' w6,RowX S0 b e sz w6 (l++dl) V'→w.grownBy w6 V.ownBlock→(V'.ownBlock=V.ownBlock∨V'.ownBlock=some w.heap.size)→K (a.put o.dst V') w6):o.wp P a w K Q:=by
 obtain⟨V',w6,hrun,g1,g2,g3⟩:=run_append_L (ty:=o.type) (c:=c) ht hi hz hsize hby hzs hsz hrow hbw hd hf hr hn h63 hbytes
 unfold Oper.wp execOp
 simp only[ho,resolve,invoke,builtin,Sem.run_bind,Sem.run_pure,Result.andThen_ok,List.map_toArray,List.map_cons,List.map_nil,hs,hx,hrun]
 exact h V' w6 g1 g2 g3
theorem wpList_append_L {ops:Array Oper} {rest:List Oper} {o:Oper} {a:Act} {w:World} {Q:Exit→Act→World→Prop} (hgd:o.guard=none) (s x:Operand) (t:TypeId) {e:TypeId}
 (ho:o.op=.call {callee:=.builtin .append,args:= #[s,x],argTypes:= #[t,t]}) {i:TypeInfo} {z:Value} {sz bytes:Nat} (ht:P.underlying t=some (.slice e)) (hi:P.info? e=some i) (hz:i.zero=some z) (hsize:i.size=sz) (hby:i.bytes=bytes) (hzs:z.cells.size=sz) (hsz:0<sz)
 {S0:Nat→Prop} {b:Nat} {l:List D} {V:Value} (hs:a.eval s=V) (hrow:RowX S0 b e sz w l V) (hbw:b≤w.heap.size) {dl:List D} {cs:List Value} (hd: ∀d ∈ dl,d.cells=sz) (hf:HoldsInA (fun i=>S0 i∧V.ownBlock≠some i) w dl cs)
 {B:Nat} {A:Option Addr} {n c:Nat} (hx:a.eval x=.slice A n c) (hr:Reads w B sz A n cs) (hn:n=dl.length) (h63:l.length+n≤maxLen) (hbytes:(l.length+n)*bytes≤140737488355328)
 (h: ∀V' w6,RowX S0 b e sz w6 (l++dl) V'→w.grownBy w6 V.ownBlock→(V'.ownBlock=V.ownBlock∨V'.ownBlock=some w.heap.size)→wpList P ops Q rest (a.put o.dst V') w6):wpList P ops Q (o::rest) a w:=
 wpList_plain hgd fun _ hK=>wp_append_L s x t ho ht hi hz hsize hby hzs hsz hs hrow hbw hd hf hx hr hn h63 hbytes fun V' w6 h2 h3 h4=>hK _ _ (h V' w6 h2 h3 h4)
end
end Go.Proofs.YtkkbplakgldlpaaGreatDoor
