/- Parts, joined: mutator.read: the mutator of an object; what reads its members keeps its word. Condition: a value of a bulk of at most 10^8. Printed by mkre1.py. -/
import Derived.Test.YtkkbplakgldlpaaGreatDoorProg
import Derived.Deep.RegionHeld3
import Derived.Test.YtkkbplakgldlpaaGreatDoorKMu40
namespace Go.Proofs.YtkkbplakgldlpaaGreatDoor
open Go Go.RowKit
set_option maxRecDepth 100000 in
set_option maxHeartbeats 16000000 in
theorem read_walk (r:Val→Int×Mut) (vk:Int) (vb:Bool) (vn:Int) (vt:ByteArray) (vl:List Val) (vo:List (ByteArray×Val)) (vla vlc voa voc) (g:Nat) (kv:List (ByteArray×Value)) (w:World)
 (hV:Holds w w.heap.size (dV (.mk vk vb vn vt vl vo)) [.int .i64 vk,.bool vb,.int .i64 vn,.string vt,.slice vla vl.length vlc,.slice voa vo.length voc]) (hb:(Val.mk vk vb vn vt vl vo).bulk≤100000000)
 (hM:MapAt Value.string w g kv) (h0: ∀a,kindOf a=none→findM a kv=none)
 (h1: ∀a k,kindOf a=some k→1≤k∧k≤7∧ ∃(fn:Nat) (caps:Array Value) (gF wn:Nat) (wcaps:Array Value),findM a kv=some (.agg #[.int .i64 k,.slice (some ⟨gF,0,none⟩) (fldsK k).length (fldsK k).length,.func (.func fn) #[] caps,.func (.func wn) #[] wcaps])∧Fld w gF 0 (fldsK k)∧(∀(args:Array Value) (W:World),(callFunc fn args).run Tryz.prog W=.ok (.enter fn args) W)∧
   ∀W (a:Option Addr) (c:Nat),Below w.heap.size w W→Holds W W.heap.size (.row 7 (dO (objV' (atO' kArgs vo)))) [.slice a (objV' (atO' kArgs vo)).length c]→Calls Tryz.prog fn (#[.slice a (objV' (atO' kArgs vo)).length c]++caps) W (RdP (argsM r k (objV' (atO' kArgs vo))) W)):
 Calls Tryz.prog 50 #[.map (some g),.agg #[.int .i64 vk,.bool vb,.int .i64 vn,.string vt,.slice vla vl.length vlc,.slice voa vo.length voc]] w (RdQ (readB r (.mk vk vb vn vt vl vo)) w):=by
 have hI0:RV w #[.int .i64 vk,.bool vb,.int .i64 vn,.string vt,.slice vla vl.length vlc,.slice voa vo.length voc] ((w.alloc (.cells #[.int .i64 vk,.bool vb,.int .i64 vn,.string vt,.slice vla vl.length vlc,.slice voa vo.length voc] 27)).alloc (.cells z19 Tmut)):=
  ⟨((Below.refl _ _).alloc (Nat.le_refl _) _).alloc (by simp) _,(Blk.new w _ _).alloc _,by simpa using Blk.new (w.alloc (.cells #[.int .i64 vk,.bool vb,.int .i64 vn,.string vt,.slice vla vl.length vlc,.slice voa vo.length voc] 27)) Tmut z19⟩
 obtain⟨wi,hwi⟩: ∃wi,(w.alloc (.cells #[.int .i64 vk,.bool vb,.int .i64 vn,.string vt,.slice vla vl.length vlc,.slice voa vo.length voc] 27)).alloc (.cells z19 Tmut)=wi:=⟨_,rfl⟩
 rw[hwi]at hI0
 have hIm:=hI0.call (alloc_below wi (.cells #[.string kArgs,.int .i64 0,.string kName,.int .i64 0] Tnd))
 have hol:7*vo.length≤100000000:=by have:=bulkO_len vo;simp only[Val.bulk]at hb;omega
 have hob: ∀key x,findO key vo=some x→x.bulk≤100000000:=fun key x e=>by have h2:1+key.size+x.bulk≤bulkO vo:=bulkO_mem (findO_some e);simp only[Val.bulk]at hb;omega
 have hMb:=mmembers_calls (fun i=>i<w.heap.size) vk vb vn vt vl vo vla vlc voa voc [(kArgs,0),(kName,0)] wi.heap.size 0 2 (wi.alloc (.cells #[.string kArgs,.int .i64 0,.string kName,.int .i64 0] Tnd)) ((inO_row (HoldsIn.of_old hV (Nat.le_refl _) (Below.refl _ _))).below hIm.below) (fld_two wi kArgs kName 0 0) (by omega) (by decide)
 have hlen2:([(kArgs,0),(kName,0)]:List (ByteArray×Int)).length=2:=rfl
 rw[hlen2,fit_names]at hMb
 obtain⟨RES,hRES⟩: ∃r',readB r (.mk vk vb vn vt vl vo)=r':=⟨_,rfl⟩
 rw[hRES]
 unfold readB at hRES
 rw[show kindV (Val.mk vk vb vn vt vl vo)=vk from rfl,show objV' (Val.mk vk vb vn vt vl vo)=vo from rfl]at hRES
 obtain⟨x0,x1,x2,x3,x4,x5⟩:=vcell hI0.box
 have xl:=hI0.box.lt
 have HI0:=Lib.hid hI0
 have HIm:=Lib.hid hIm
 have HMb:=Lib.hid hMb
 have Hol:=Lib.hid hol
 have Hob:=Lib.hid hob
 have HM:=Lib.hid hM
 have H0:=Lib.hid h0
 have H1:=Lib.hid h1
 clear hI0 hIm hMb hol hob hM h0 h1
 clear hlen2 hV
 go_enter Tryz.func50,Tryz.ntmps50
 go_upto_region 1 with(fail)
 clear hwi
 go_wp2_with (fail)
 with_reducible refine(HMb.out).mono ?_
 rintro e w2 ⟨hb2,hr2⟩
 have hI2:=HIm.out.call hb2
 by_cases h6:vk≠6
 · rw[if_pos h6]at hr2 hRES
   obtain rfl:=hr2
   have hP:=RdQ.no (r:=RES) (c:=9) (by rw[←hRES]) (by omega) hI2.below
   have HP:=Lib.hid hP
   clear hP
   clear hb2 hI2 h6
   go_wp2
   exact⟨rfl,HP.out⟩
 rw[if_neg h6]at hr2 hRES
 by_cases hfit:fitB [kArgs,kName] [] vo=false
 · rw[if_pos hfit]at hr2 hRES
   obtain rfl:=hr2
   have hP:=RdQ.no (r:=RES) (c:=10) (by rw[←hRES]) (by omega) hI2.below
   have HP:=Lib.hid hP
   clear hP
   clear hb2 hI2 h6 hfit
   go_wp2
   exact⟨rfl,HP.out⟩
 rw[if_neg hfit]at hr2 hRES
 obtain⟨a2,c2,rfl,hrow2⟩:=hr2
 have hF:=findV_calls vo a2 c2 ⟨#[97,114,103,115]⟩ w2 hrow2.now (by have:=Hol.out;omega)
 have HI2:=Lib.hid hI2
 have HF:=Lib.hid hF
 have Hrow2:=Lib.hid hrow2
 clear hI2 hF hrow2
 clear hb2 h6 hfit x0 x1 x2 x3 x4 x5
 dsimp only
 go_upto_region 2 with(fail)
 go_wp2_with (fail)
 with_reducible refine(HF.out).mono ?_
 rintro e w3 hp
 obtain⟨hb3,ak,ab,an,at',al,ao,ala,alc,aoa,aoc,hg,rfl,ha⟩:=hp.held
 have hg':atO' kArgs vo=.mk ak ab an at' al ao:=hg
 have hba:(Val.mk ak ab an at' al ao).bulk≤100000000:=by
  rw[←hg']
  unfold atO'
  cases hf:findO kArgs vo with
  |none=>decide
  |some x=>exact Hob.out kArgs x hf
 rw[hg',show kindV (Val.mk ak ab an at' al ao)=ak from rfl,show objV' (Val.mk ak ab an at' al ao)=ao from rfl]at hRES
 have hh1:=H1.out
 rw[hg',show objV' (Val.mk ak ab an at' al ao)=ao from rfl]at hh1
 generalize (findO ⟨#[97,114,103,115]⟩ vo).isSome=B
 have hI3:=(HI2.out.call hb3).call (alloc_below w3 (.cells #[.int .i64 ak,.bool ab,.int .i64 an,.string at',.slice ala al.length alc,.slice aoa ao.length aoc] 27))
 have hx3:=Blk.new w3 27 #[.int .i64 ak,.bool ab,.int .i64 an,.string at',.slice ala al.length alc,.slice aoa ao.length aoc]
 have ha3:Holds (w3.alloc (.cells #[.int .i64 ak,.bool ab,.int .i64 an,.string at',.slice ala al.length alc,.slice aoa ao.length aoc] 27)) w3.heap.size (dV (.mk ak ab an at' al ao)) [.int .i64 ak,.bool ab,.int .i64 an,.string at',.slice ala al.length alc,.slice aoa ao.length aoc]:=((ha.below hb3).more hb3.size).below (alloc_below _ _)
 have hrow3:=(Hrow2.out.below hb3).below (alloc_below w3 (.cells #[.int .i64 ak,.bool ab,.int .i64 an,.string at',.slice ala al.length alc,.slice aoa ao.length aoc] 27))
 have hT:=mtext_calls vo a2 c2 ⟨#[110,97,109,101]⟩ (w3.alloc (.cells #[.int .i64 ak,.bool ab,.int .i64 an,.string at',.slice ala al.length alc,.slice aoa ao.length aoc] 27)) hrow3.now (by have:=Hol.out;omega)
 have hzA:w.heap.size+1<w3.heap.size:=Nat.lt_of_lt_of_le HI2.out.res.lt hb3.size
 obtain⟨Z,hZ⟩: ∃Z,w3.heap.size=Z:=⟨_,rfl⟩
 obtain⟨wj,hwj⟩: ∃wj,w3.alloc (.cells #[.int .i64 ak,.bool ab,.int .i64 an,.string at',.slice ala al.length alc,.slice aoa ao.length aoc] 27)=wj:=⟨_,rfl⟩
 have hzj:wj.heap.size=Z+1:=by rw[←hwj,←hZ];simp
 rw[hwj]at hI3 hx3 ha3 hT
 rw[hZ]at hx3 ha3 hzA
 have HI3:=Lib.hid hI3
 have Hx3:=Lib.hid hx3
 have Ha3:=Lib.hid ha3
 have HT:=Lib.hid hT
 have Hh1:=Lib.hid hh1
 have Hba:=Lib.hid hba
 have HzA:=Lib.hid hzA
 clear hI3 hx3 ha3 hT hh1 hba hzA
 clear hp hb3 hg hg' ha hrow3 HF H1
 dsimp only
 go_upto_region 3 with(fail)
 clear hwj
 go_wp2_with (fail)
 with_reducible refine(HT.out).mono ?_
 rintro e w4 ⟨hb4,rfl⟩
 have hI4:=HI3.out.call hb4
 have hx4:=Hx3.out.below hb4 Hx3.out.lt
 have ha4:=Ha3.out.below (hb4.mono (by omega))
 rw[kOf_kind,tOf_txt,show(⟨#[110,97,109,101]⟩:ByteArray)=kName from rfl]
 generalize kindV (atO' kName vo)=k at hRES ⊢
 generalize txtV' (atO' kName vo)=nm at hRES ⊢
 by_cases h4:k=4
 rotate_left
 · rw[if_neg h4]
   rw[if_pos h4]at hRES
   have hP:=RdQ.no (r:=RES) (c:=9) (by rw[←hRES]) (by omega) hI4.below
   have HP:=Lib.hid hP
   clear hP
   clear hb4 hI4 hx4 ha4 h4
   go_wp2
   exact⟨rfl,HP.out⟩
 subst h4
 rw[if_pos rfl]
 rw[if_neg (by simp)]at hRES
 have hM4:=HM.out.below hI4.below HM.out.lt
 have hs4:=hb4.size
 have HI4:=Lib.hid hI4
 have Hx4:=Lib.hid hx4
 have Ha4:=Lib.hid ha4
 have HM4:=Lib.hid hM4
 clear hI4 hx4 ha4 hM4
 clear hb4
 dsimp only
 iterate 2 go_step
 cases hk:kindOf nm with
 |none=>
  rw[hk]at hRES
  simp only at hRES
  refine wp_lookM2 Tshapes (.tmp 22) (.tmp 24) rfl mkey_shapes Tryz.underlying59 HM4.out rfl rfl shape_zero' (H0.out nm hk) ?_
  have hN:=fun W=>must_no 12 W
  have hP:=RdQ.no (r:=RES) (c:=12) (by rw[←hRES]) (by omega) (HI4.out.call (alloc_below w4 (.cells #[.int .i64 0,.slice none 0 0,.nilFunc,.nilFunc] 97))).below
  have HP:=Lib.hid hP
  have HN:=Lib.hid hN
  clear hP hN
  clear hRES
  rw[show((none:Option Value).getD (.agg #[.int .i64 0,.slice none 0 0,.nilFunc,.nilFunc]))=.agg #[.int .i64 0,.slice none 0 0,.nilFunc,.nilFunc]from rfl,show(none:Option Value).isSome=false from rfl]
  dsimp only
  go_upto_region 4 with(fail)
  go_wp2_with (fail)
  with_reducible refine(HN.out _).mono ?_
  rintro e w5 ⟨rfl,rfl⟩
  go_wp2
  exact⟨rfl,HP.out⟩
 |some kd=>
  rw[hk]at hRES
  simp only at hRES
  obtain⟨k1,k7,fn,caps,gF,wn,wcaps,hfind,hFld,hcf,hC⟩:=Hh1.out nm kd hk
  refine wp_lookM2 Tshapes (.tmp 22) (.tmp 24) rfl mkey_shapes Tryz.underlying59 HM4.out rfl rfl shape_zero' hfind ?_
  have hY:=fun W=>must_yes 12 W
  have hI5:=HI4.out.call (alloc_below w4 (.cells #[.int .i64 kd,.slice (some ⟨gF,0,none⟩) (fldsK kd).length (fldsK kd).length,.func (.func fn) #[] caps,.func (.func wn) #[] wcaps] 97))
  have hx5:=Hx4.out.alloc (.cells #[.int .i64 kd,.slice (some ⟨gF,0,none⟩) (fldsK kd).length (fldsK kd).length,.func (.func fn) #[] caps,.func (.func wn) #[] wcaps] 97)
  have hs5:=Blk.new w4 97 #[.int .i64 kd,.slice (some ⟨gF,0,none⟩) (fldsK kd).length (fldsK kd).length,.func (.func fn) #[] caps,.func (.func wn) #[] wcaps]
  have ha5:=Ha4.out.below ((alloc_below w4 (.cells #[.int .i64 kd,.slice (some ⟨gF,0,none⟩) (fldsK kd).length (fldsK kd).length,.func (.func fn) #[] caps,.func (.func wn) #[] wcaps] 97)).mono (by omega))
  rw[show((some (Value.agg #[.int .i64 kd,.slice (some ⟨gF,0,none⟩) (fldsK kd).length (fldsK kd).length,.func (.func fn) #[] caps,.func (.func wn) #[] wcaps])).getD (.agg #[.int .i64 0,.slice none 0 0,.nilFunc,.nilFunc]))=.agg #[.int .i64 kd,.slice (some ⟨gF,0,none⟩) (fldsK kd).length (fldsK kd).length,.func (.func fn) #[] caps,.func (.func wn) #[] wcaps]from rfl,show(some (Value.agg #[.int .i64 kd,.slice (some ⟨gF,0,none⟩) (fldsK kd).length (fldsK kd).length,.func (.func fn) #[] caps,.func (.func wn) #[] wcaps])).isSome=true from rfl]
  have HY:=Lib.hid hY
  have HI5:=Lib.hid hI5
  have Hx5:=Lib.hid hx5
  have Hs5:=Lib.hid hs5
  have Ha5:=Lib.hid ha5
  have HRES:=Lib.hid hRES
  have HFld:=Lib.hid hFld
  have HC:=Lib.hid hC
  have Hcf:=Lib.hid hcf
  clear hY hI5 hx5 hs5 ha5 hRES hFld hC hcf
  clear hfind HI4 Hx4 Ha4 HM4 HM H0
  dsimp only
  go_upto_region 4 with(fail)
  go_wp2_with (fail)
  with_reducible refine(HY.out _).mono ?_
  rintro e w5 ⟨rfl,rfl⟩
  have hY4:w4.heap.size<(w4.alloc (.cells #[.int .i64 kd,.slice (some ⟨gF,0,none⟩) (fldsK kd).length (fldsK kd).length,.func (.func fn) #[] caps,.func (.func wn) #[] wcaps] 97)).heap.size:=by simp
  have hYZ:Z<w4.heap.size:=by have:=hs4;omega
  have hYw:w.heap.size+1<Z:=HzA.out
  generalize w4.alloc (.cells #[.int .i64 kd,.slice (some ⟨gF,0,none⟩) (fldsK kd).length (fldsK kd).length,.func (.func fn) #[] caps,.func (.func wn) #[] wcaps] 97)=w5 at HI5 Hx5 Hs5 Ha5 hY4 ⊢
  generalize w4.heap.size=Y at Hs5 hY4 hYZ ⊢
  have hS: ∀X,Blk X Y 97 #[.int .i64 kd,.slice (some ⟨gF,0,none⟩) (fldsK kd).length (fldsK kd).length,.func (.func fn) #[] caps,.func (.func wn) #[] wcaps]→Blk X Z 27 #[.int .i64 ak,.bool ab,.int .i64 an,.string at',.slice ala al.length alc,.slice aoa ao.length aoc]→(fun X=>X.cell? ⟨Y,1,none⟩=some (.slice (some ⟨gF,0,none⟩) (fldsK kd).length (fldsK kd).length)∧X.cell? ⟨Y,2,none⟩=some (.func (.func fn) #[] caps)∧X.cell? ⟨Z,0,none⟩=some (.int .i64 ak)∧X.cell? ⟨Z,1,none⟩=some (.bool ab)∧X.cell? ⟨Z,2,none⟩=some (.int .i64 an)∧X.cell? ⟨Z,3,none⟩=some (.string at')∧X.cell? ⟨Z,4,none⟩=some (.slice ala al.length alc)∧X.cell? ⟨Z,5,none⟩=some (.slice aoa ao.length aoc)) X:=fun X h1 h2=>⟨h1.cell 1,h1.cell 2,h2.cell 0,h2.cell 1,h2.cell 2,h2.cell 3,h2.cell 4,h2.cell 5⟩
  have hS0:=hS _ Hs5.out Hx5.out
  have hMb5:=fun(W:World) (hB:Below w5.heap.size w5 W)=>mmembers_calls (fun i=>i<W.heap.size) ak ab an at' al ao ala alc aoa aoc (fldsK kd) gF 0 (fldsK kd).length W (inO_row (HoldsIn.of_old (((Ha5.out.more (by omega)).below hB).more hB.size) (Nat.le_refl _) (Below.refl _ _))) ((HFld.out.below HI5.out.below).below hB) (by have h:=Hba.out;have:=bulkO_len ao;simp only[Val.bulk]at h;omega) (by unfold fldsK;repeat (first|decide|split))
  simp only[fit_flds k1 k7]at hMb5
  have HS:=Lib.hid hS
  have HMb5:=Lib.hid hMb5
  clear hS hMb5
  have HIw5:=HI5
  have Hxw5:=Hx5
  have Hsw5:=Hs5
  clear HI5 Hx5 Hs5
  go_upto_region 5 with(fail)
  go_cut [10] (fun s wx=> ∃M cs,s=.pointer (some ⟨M,0,none⟩)∧Hid (RD w #[.int .i64 vk,.bool vb,.int .i64 vn,.string vt,.slice vla vl.length vlc,.slice voa vo.length voc] Y #[.int .i64 kd,.slice (some ⟨gF,0,none⟩) (fldsK kd).length (fldsK kd).length,.func (.func fn) #[] caps,.func (.func wn) #[] wcaps] (argsM r kd ao).2 cs M wx)∧Hid ((argsM r kd ao).1=0)∧Hid (argsM r kd ao=RES))
  case first=>
   refine wp_region_held_drew (S:=(fun X=>X.cell? ⟨Y,1,none⟩=some (.slice (some ⟨gF,0,none⟩) (fldsK kd).length (fldsK kd).length)∧X.cell? ⟨Y,2,none⟩=some (.func (.func fn) #[] caps)∧X.cell? ⟨Z,0,none⟩=some (.int .i64 ak)∧X.cell? ⟨Z,1,none⟩=some (.bool ab)∧X.cell? ⟨Z,2,none⟩=some (.int .i64 an)∧X.cell? ⟨Z,3,none⟩=some (.string at')∧X.cell? ⟨Z,4,none⟩=some (.slice ala al.length alc)∧X.cell? ⟨Z,5,none⟩=some (.slice aoa ao.length aoc))) (by kernel_rfl) hS0 (fun hHeld=> ?_)
   refine wpAnyH_take (i:=0) (v:= ?_) rfl (by kernel_rfl) (by kernel_rfl) (by kernel_rfl) (fun _ _ _ h=>h) (Or.inl ⟨by kernel_rfl, ?_⟩) hHeld ?_
   rotate_left
   · intro X hSw
     skip
     first|(go_simp;done)|(go_simp;with_reducible rfl)
   try simp only[Act.put,List.getElem_toArray,List.getElem_cons_zero,List.setIfInBounds_toArray,List.set_cons_zero,List.set_cons_succ]
   refine wpAnyH_take (i:=1) (v:= ?_) rfl (by kernel_rfl) (by kernel_rfl) (by kernel_rfl) (fun _ _ _ h=>h) (Or.inl ⟨by kernel_rfl, ?_⟩) hHeld ?_
   rotate_left
   · intro X hSw
     obtain⟨_,s,_⟩:=hSw
     first|(go_simp;done)|(go_simp;with_reducible rfl)
   try simp only[Act.put,List.getElem_toArray,List.getElem_cons_succ,List.getElem_cons_zero,List.setIfInBounds_toArray,List.set_cons_zero,List.set_cons_succ]
   refine wpAnyH_take (i:=2) (v:= ?_) rfl (by kernel_rfl) (by kernel_rfl) (by kernel_rfl) (fun _ _ _ h=>h) (Or.inl ⟨by kernel_rfl, ?_⟩) hHeld ?_
   rotate_left
   · intro X hSw
     obtain⟨_,_,s0,s1,s2,s3,s4,s5⟩:=hSw
     first|(go_simp;done)|(go_simp;with_reducible rfl)
   try simp only[Act.put,List.getElem_toArray,List.getElem_cons_succ,List.getElem_cons_zero,List.setIfInBounds_toArray,List.set_cons_zero,List.set_cons_succ]
   refine wpAnyH_take (i:=3) (v:= ?_) rfl (by kernel_rfl) (by kernel_rfl) (by kernel_rfl) (fun _ _ _ h=>h) (Or.inl ⟨by kernel_rfl, ?_⟩) hHeld ?_
   rotate_left
   · intro X hSw
     skip
     first|(go_simp;done)|(go_simp;with_reducible rfl)
   try simp only[Act.put,List.getElem_toArray,List.getElem_cons_succ,List.getElem_cons_zero,List.setIfInBounds_toArray,List.set_cons_zero,List.set_cons_succ]
   refine wpAnyH_take (i:=4) (v:= ?_) rfl (by kernel_rfl) (by kernel_rfl) (by kernel_rfl) (fun _ _ _ h=>h) (Or.inl ⟨by kernel_rfl, ?_⟩) hHeld ?_
   rotate_left
   · intro X hSw
     obtain⟨s,_⟩:=hSw
     first|(go_simp;done)|(go_simp;with_reducible rfl)
   try simp only[Act.put,List.getElem_toArray,List.getElem_cons_succ,List.getElem_cons_zero,List.setIfInBounds_toArray,List.set_cons_zero,List.set_cons_succ]
   refine wpAnyH_ready (rs:= [5,7]) (by kernel_rfl) (by simp) ?_
   refine AllReadyH.cons rfl (fun K hK=> ?_) (AllReadyH.cons rfl (fun K hK=> ?_) AllReadyH.nil)
   ·
    go_simp
    with_reducible refine(HMb5.out _ (Below.drew (Below.refl _ _))).mono ?_
    rintro e w6 ⟨hbx,hr⟩
    have hbw6:Below w5.heap.size w5 w6:=(Below.drew (Below.refl _ _)).trans hbx
    have hIw6:=HIw5.out.call hbw6
    have hxw6:=Hxw5.out.below hbw6 Hxw5.out.lt
    have hsw6:=Hsw5.out.below hbw6 Hsw5.out.lt
    have hzw6:w5.heap.size≤w6.heap.size:=hbw6.size
    have hR:=HRES.out
    by_cases h6:ak≠6
    · rw[if_pos h6]at hr hR
      obtain rfl:=hr
      have hP:=RdQ.no (r:=RES) (c:=9) (by rw[←hR]) (by omega) hIw6.below
      have HP:=Lib.hid hP
      clear hP
      clear hK hbx hbw6 hIw6 hxw6 hsw6 h6
      go_wp2
      exact⟨rfl,HP.out⟩
    rw[if_neg h6]at hr hR
    by_cases hfit:fitB (mustN kd) (mayN kd) ao=false
    · rw[if_pos hfit]at hr hR
      obtain rfl:=hr
      have hP:=RdQ.no (r:=RES) (c:=10) (by rw[←hR]) (by omega) hIw6.below
      have HP:=Lib.hid hP
      clear hP
      clear hK hbx hbw6 hIw6 hxw6 hsw6 h6 hfit
      go_wp2
      exact⟨rfl,HP.out⟩
    rw[if_neg hfit]at hr hR
    obtain⟨a6,c6,rfl,hrow⟩:=hr
    have hSw6:=HS.out _ hsw6 hxw6
    have HR:=Lib.hid hR
    have HIw6:=Lib.hid hIw6
    have Hxw6:=Lib.hid hxw6
    have Hsw6:=Lib.hid hsw6
    have Hbw6:=Lib.hid hbw6
    have Hrow:=Lib.hid hrow
    clear hIw6 hxw6 hsw6 hbw6 hrow
    refine hK.out _ _ hSw6 (fun hHeld=> ?_)
    clear hK K hbx h6 hfit hR
    try simp only[Act.put,List.getElem_toArray,List.getElem_cons_succ,List.getElem_cons_zero,List.setIfInBounds_toArray,List.set_cons_zero,List.set_cons_succ]
    refine wpAnyH_ready (rs:= [6,7]) (by kernel_rfl) (by simp) ?_
    refine AllReadyH.cons rfl (fun K hK=> ?_) (AllReadyH.cons rfl (fun K hK=> ?_) AllReadyH.nil)
    ·
     refine wp_callF (.tmp 31) (.tmp 35) rfl (v:=.slice a6 ao.length c6) rfl rfl Hcf.out ?_
     with_reducible refine(HC.out w6 a6 c6 HIw6.out.below Hrow.out.now).mono ?_
     rintro e w7 ⟨hbw7,hr⟩
     have hIw7:=HIw6.out.call hbw7
     have hxw7:=Hxw6.out.below hbw7 Hxw6.out.lt
     have hsw7:=Hsw6.out.below hbw7 Hsw6.out.lt
     have hzw7:w6.heap.size≤w7.heap.size:=hbw7.size
     have hR:=HR.out
     by_cases hc:(argsM r kd ao).1≠0
     · rw[if_pos hc]at hr
       obtain rfl:=hr
       have hP:=RdQ.no (r:=RES) (c:=(argsM r kd ao).1) (by rw[←hR]) hc hIw7.below
       generalize (argsM r kd ao).1=code at hP ⊢
       have HP:=Lib.hid hP
       clear hP
       clear hK hbw7 hIw7 hxw7 hsw7 hc hR
       go_wp2
       exact⟨rfl,HP.out⟩
     rw[if_neg hc]at hr
     obtain⟨cs,rfl,hf⟩:=hr
     have hSw7:=HS.out _ hsw7 hxw7
     have hcl:=hf.now.len
     rw[dM_cells]at hcl
     obtain⟨hl18,hone⟩:=hcl
     have hl18:cs.length=18:=by simpa using hl18
     have hone: ∀u ∈ cs,u.oneCell'=true:=fun u hu=>hone u (List.mem_cons_of_mem _ hu)
     have HIw7:=Lib.hid hIw7
     have Hxw7:=Lib.hid hxw7
     have Hsw7:=Lib.hid hsw7
     have Hbw7:=Lib.hid hbw7
     have Hone:=Lib.hid hone
     have Hc:=Lib.hid hc
     clear hIw7 hxw7 hsw7 hbw7 hone hc
     refine hK.out _ _ hSw7 (fun hHeld=> ?_)
     clear hK K hR
     try simp only[Act.put,List.getElem_toArray,List.getElem_cons_succ,List.getElem_cons_zero,List.setIfInBounds_toArray,List.set_cons_zero,List.set_cons_succ]
     refine wpAnyH_ready (rs:= [7]) (by kernel_rfl) (by simp) ?_
     refine AllReadyH.cons rfl (fun K hK=> ?_) AllReadyH.nil
     go_simp
     obtain⟨w8,hww8⟩: ∃x,(w7.alloc (.cells z19 Tmut))=x:=⟨_,rfl⟩
     have hbw8:Below w7.heap.size w7 w8:=hww8▸alloc_below _ _
     have hvw8:Blk w8 w7.heap.size Tmut z19:=hww8▸(Blk.new w7 Tmut z19:Blk (w7.alloc (.cells z19 Tmut)) _ _ _)
     have hzw8:w8.heap.size=w7.heap.size+1:=by rw[←hww8];simp
     rw[show(w7.alloc (.cells #[.int .i64 0,.string ⟨#[]⟩,.string ⟨#[]⟩,.int .i64 0,.bool false,.int .i64 0,.bool false,.int .i64 0,.string ⟨#[]⟩,.slice none 0 0,.slice none 0 0,.bool false,.int .i64 0,.bool false,.int .i64 0,.string ⟨#[]⟩,.slice none 0 0,.slice none 0 0,.slice none 0 0] Tmut))=w8 from hww8]
     have hIw8:=HIw7.out.call hbw8
     have hxw8:=Hxw7.out.below hbw8 Hxw7.out.lt
     have hsw8:=Hsw7.out.below hbw8 Hsw7.out.lt
     have hSw8:=HS.out _ hsw8 hxw8
     have HIw8:=Lib.hid hIw8
     have Hxw8:=Lib.hid hxw8
     have Hsw8:=Lib.hid hsw8
     have Hbw8:=Lib.hid hbw8
     have Hvw8:=Lib.hid hvw8
     clear hIw8 hxw8 hsw8 hbw8 hvw8
     refine hK.out _ _ hSw8 (fun hHeld=> ?_)
     clear hK K hww8
     try simp only[Act.put,List.getElem_toArray,List.getElem_cons_succ,List.getElem_cons_zero,List.setIfInBounds_toArray,List.set_cons_zero,List.set_cons_succ]
     refine wpAnyH_ready (rs:= [8]) (by kernel_rfl) (by simp) ?_
     refine AllReadyH.cons rfl (fun K hK=> ?_) AllReadyH.nil
     have hMge:w.heap.size≤w7.heap.size:=by omega
     have hdat:=((HoldsIn.of_fresh hf).mono (T:=fun i=>w.heap.size≤i∧i≠w7.heap.size∧i≠w.heap.size+1) (fun i h1 h2=>⟨by omega,by omega,by omega⟩)).below Hbw8.out
     have hs19:z19.size=(Value.int .i64 0::cs).toArray.size:=by simp[hl18]
     refine wp_store_far (cs:=z19) Tmut (.tmp 10) (.tmp 36) rfl w7.heap.size 0 Hvw8.out (.agg (Value.int .i64 0::cs).toArray) rfl rfl (by simp only[Value.cells];rw[←hs19];exact Nat.le_of_ble_eq_true rfl) (by simp only[Value.cells];rw[←hs19];kernel_rfl) (by simp only[Value.cells];exact one_cons 0 Hone.out) HIw8.out.below hMge ?_
     intro wz hxz hbz hzz hfar
     rw[show(Value.agg (Value.int .i64 0::cs).toArray).cells=(Value.int .i64 0::cs).toArray from by simp only[Value.cells],over_all z19 _ hs19]at hxz
     have hIz:RV w #[.int .i64 vk,.bool vb,.int .i64 vn,.string vt,.slice vla vl.length vlc,.slice voa vo.length voc] wz:=⟨hbz,(hfar w.heap.size (by omega)).trans HIw8.out.box,(hfar (w.heap.size+1) (by omega)).trans HIw8.out.res⟩
     have hsz:Blk wz Y 97 _:=(hfar Y (by omega)).trans Hsw8.out
     have hxz2:Blk wz Z 27 _:=(hfar Z (by omega)).trans Hxw8.out
     have hdz:=hdat.later (w':=wz) (by omega) fun p p1 _=>World.cell?_of_block (hfar _ p1.2.1)
     have HD:Hid (RD w #[.int .i64 vk,.bool vb,.int .i64 vn,.string vt,.slice vla vl.length vlc,.slice voa vo.length voc] Y #[.int .i64 kd,.slice (some ⟨gF,0,none⟩) (fldsK kd).length (fldsK kd).length,.func (.func fn) #[] caps,.func (.func wn) #[] wcaps] (argsM r kd ao).2 cs w7.heap.size wz):=Lib.hid ⟨hIz,hxz,hsz,by omega,by omega,hdz,hl18,Hone.out⟩
     have hSz:=HS.out _ hsz hxz2
     have hok0:(argsM r kd ao).1=0:=by have:=Hc.out;omega
     have HOK:=Lib.hid hok0
     refine hK.out _ _ hSz (fun hHeld=> ?_)
     clear hK K hxz hbz hfar hIz hsz hxz2 hdz hSz hdat hs19 hok0
     try simp only[Act.put,List.getElem_toArray,List.getElem_cons_succ,List.getElem_cons_zero]
     refine wpAnyH_done (by kernel_rfl) ?_ _
     go_wp2
     go_meet
     exact⟨_,cs,rfl,HD,HOK,HR⟩
    ·
     go_simp
     obtain⟨w7,hww7⟩: ∃x,(w6.alloc (.cells z19 Tmut))=x:=⟨_,rfl⟩
     have hbw7:Below w6.heap.size w6 w7:=hww7▸alloc_below _ _
     have hvw7:Blk w7 w6.heap.size Tmut z19:=hww7▸(Blk.new w6 Tmut z19:Blk (w6.alloc (.cells z19 Tmut)) _ _ _)
     have hzw7:w7.heap.size=w6.heap.size+1:=by rw[←hww7];simp
     rw[show(w6.alloc (.cells #[.int .i64 0,.string ⟨#[]⟩,.string ⟨#[]⟩,.int .i64 0,.bool false,.int .i64 0,.bool false,.int .i64 0,.string ⟨#[]⟩,.slice none 0 0,.slice none 0 0,.bool false,.int .i64 0,.bool false,.int .i64 0,.string ⟨#[]⟩,.slice none 0 0,.slice none 0 0,.slice none 0 0] Tmut))=w7 from hww7]
     have hIw7:=HIw6.out.call hbw7
     have hxw7:=Hxw6.out.below hbw7 Hxw6.out.lt
     have hsw7:=Hsw6.out.below hbw7 Hsw6.out.lt
     have hSw7:=HS.out _ hsw7 hxw7
     have HIw7:=Lib.hid hIw7
     have Hxw7:=Lib.hid hxw7
     have Hsw7:=Lib.hid hsw7
     have Hbw7:=Lib.hid hbw7
     have Hvw7:=Lib.hid hvw7
     clear hIw7 hxw7 hsw7 hbw7 hvw7
     refine hK.out _ _ hSw7 (fun hHeld=> ?_)
     clear hK K hww7
     try simp only[Act.put,List.getElem_toArray,List.getElem_cons_succ,List.getElem_cons_zero,List.setIfInBounds_toArray,List.set_cons_zero,List.set_cons_succ]
     refine wpAnyH_ready (rs:= [6]) (by kernel_rfl) (by simp) ?_
     refine AllReadyH.cons rfl (fun K hK=> ?_) AllReadyH.nil
     refine wp_callF (.tmp 31) (.tmp 35) rfl (v:=.slice a6 ao.length c6) rfl rfl Hcf.out ?_
     with_reducible refine(HC.out w7 a6 c6 HIw7.out.below (Hrow.out.below Hbw7.out).now).mono ?_
     rintro e w8 ⟨hbw8,hr⟩
     have hIw8:=HIw7.out.call hbw8
     have hxw8:=Hxw7.out.below hbw8 Hxw7.out.lt
     have hsw8:=Hsw7.out.below hbw8 Hsw7.out.lt
     have hzw8:w7.heap.size≤w8.heap.size:=hbw8.size
     have hR:=HR.out
     by_cases hc:(argsM r kd ao).1≠0
     · rw[if_pos hc]at hr
       obtain rfl:=hr
       have hP:=RdQ.no (r:=RES) (c:=(argsM r kd ao).1) (by rw[←hR]) hc hIw8.below
       generalize (argsM r kd ao).1=code at hP ⊢
       have HP:=Lib.hid hP
       clear hP
       clear hK hbw8 hIw8 hxw8 hsw8 hc hR
       go_wp2
       exact⟨rfl,HP.out⟩
     rw[if_neg hc]at hr
     obtain⟨cs,rfl,hf⟩:=hr
     have hSw8:=HS.out _ hsw8 hxw8
     have hcl:=hf.now.len
     rw[dM_cells]at hcl
     obtain⟨hl18,hone⟩:=hcl
     have hl18:cs.length=18:=by simpa using hl18
     have hone: ∀u ∈ cs,u.oneCell'=true:=fun u hu=>hone u (List.mem_cons_of_mem _ hu)
     have HIw8:=Lib.hid hIw8
     have Hxw8:=Lib.hid hxw8
     have Hsw8:=Lib.hid hsw8
     have Hbw8:=Lib.hid hbw8
     have Hone:=Lib.hid hone
     have Hc:=Lib.hid hc
     clear hIw8 hxw8 hsw8 hbw8 hone hc
     refine hK.out _ _ hSw8 (fun hHeld=> ?_)
     clear hK K hR
     try simp only[Act.put,List.getElem_toArray,List.getElem_cons_succ,List.getElem_cons_zero,List.setIfInBounds_toArray,List.set_cons_zero,List.set_cons_succ]
     have hv8:=Hvw7.out.below Hbw8.out Hvw7.out.lt
     refine wpAnyH_ready (rs:= [8]) (by kernel_rfl) (by simp) ?_
     refine AllReadyH.cons rfl (fun K hK=> ?_) AllReadyH.nil
     have hMge:w.heap.size≤w6.heap.size:=by omega
     have hdat:=(HoldsIn.of_fresh hf).mono (T:=fun i=>w.heap.size≤i∧i≠w6.heap.size∧i≠w.heap.size+1) (fun i h1 h2=>⟨by omega,by omega,by omega⟩)
     have hs19:z19.size=(Value.int .i64 0::cs).toArray.size:=by simp[hl18]
     refine wp_store_far (cs:=z19) Tmut (.tmp 10) (.tmp 36) rfl w6.heap.size 0 hv8 (.agg (Value.int .i64 0::cs).toArray) rfl rfl (by simp only[Value.cells];rw[←hs19];exact Nat.le_of_ble_eq_true rfl) (by simp only[Value.cells];rw[←hs19];kernel_rfl) (by simp only[Value.cells];exact one_cons 0 Hone.out) HIw8.out.below hMge ?_
     intro wz hxz hbz hzz hfar
     rw[show(Value.agg (Value.int .i64 0::cs).toArray).cells=(Value.int .i64 0::cs).toArray from by simp only[Value.cells],over_all z19 _ hs19]at hxz
     have hIz:RV w #[.int .i64 vk,.bool vb,.int .i64 vn,.string vt,.slice vla vl.length vlc,.slice voa vo.length voc] wz:=⟨hbz,(hfar w.heap.size (by omega)).trans HIw8.out.box,(hfar (w.heap.size+1) (by omega)).trans HIw8.out.res⟩
     have hsz:Blk wz Y 97 _:=(hfar Y (by omega)).trans Hsw8.out
     have hxz2:Blk wz Z 27 _:=(hfar Z (by omega)).trans Hxw8.out
     have hdz:=hdat.later (w':=wz) (by omega) fun p p1 _=>World.cell?_of_block (hfar _ p1.2.1)
     have HD:Hid (RD w #[.int .i64 vk,.bool vb,.int .i64 vn,.string vt,.slice vla vl.length vlc,.slice voa vo.length voc] Y #[.int .i64 kd,.slice (some ⟨gF,0,none⟩) (fldsK kd).length (fldsK kd).length,.func (.func fn) #[] caps,.func (.func wn) #[] wcaps] (argsM r kd ao).2 cs w6.heap.size wz):=Lib.hid ⟨hIz,hxz,hsz,by omega,by omega,hdz,hl18,Hone.out⟩
     have hSz:=HS.out _ hsz hxz2
     have hok0:(argsM r kd ao).1=0:=by have:=Hc.out;omega
     have HOK:=Lib.hid hok0
     refine hK.out _ _ hSz (fun hHeld=> ?_)
     clear hK K hxz hbz hfar hIz hsz hxz2 hdz hSz hdat hs19 hok0
     try simp only[Act.put,List.getElem_toArray,List.getElem_cons_succ,List.getElem_cons_zero]
     refine wpAnyH_done (by kernel_rfl) ?_ _
     go_wp2
     go_meet
     exact⟨_,cs,rfl,HD,HOK,HR⟩
   ·
    go_simp
    obtain⟨w6,hww6⟩: ∃x,(w5.alloc (.cells z19 Tmut)).drew=x:=⟨_,rfl⟩
    have hbw6:Below w5.heap.size w5 w6:=hww6▸(Below.drew (alloc_below _ _))
    have hvw6:Blk w6 w5.heap.size Tmut z19:=hww6▸(Blk.new w5 Tmut z19:Blk (w5.alloc (.cells z19 Tmut)) _ _ _)
    have hzw6:w6.heap.size=w5.heap.size+1:=by rw[←hww6];simp
    rw[show(w5.alloc (.cells #[.int .i64 0,.string ⟨#[]⟩,.string ⟨#[]⟩,.int .i64 0,.bool false,.int .i64 0,.bool false,.int .i64 0,.string ⟨#[]⟩,.slice none 0 0,.slice none 0 0,.bool false,.int .i64 0,.bool false,.int .i64 0,.string ⟨#[]⟩,.slice none 0 0,.slice none 0 0,.slice none 0 0] Tmut)).drew=w6 from hww6]
    have hIw6:=HIw5.out.call hbw6
    have hxw6:=Hxw5.out.below hbw6 Hxw5.out.lt
    have hsw6:=Hsw5.out.below hbw6 Hsw5.out.lt
    have hSw6:=HS.out _ hsw6 hxw6
    have HIw6:=Lib.hid hIw6
    have Hxw6:=Lib.hid hxw6
    have Hsw6:=Lib.hid hsw6
    have Hbw6:=Lib.hid hbw6
    have Hvw6:=Lib.hid hvw6
    clear hIw6 hxw6 hsw6 hbw6 hvw6
    refine hK.out _ _ hSw6 (fun hHeld=> ?_)
    clear hK K hww6
    try simp only[Act.put,List.getElem_toArray,List.getElem_cons_succ,List.getElem_cons_zero,List.setIfInBounds_toArray,List.set_cons_zero,List.set_cons_succ]
    refine wpAnyH_ready (rs:= [5]) (by kernel_rfl) (by simp) ?_
    refine AllReadyH.cons rfl (fun K hK=> ?_) AllReadyH.nil
    go_simp
    with_reducible refine(HMb5.out _ Hbw6.out).mono ?_
    rintro e w7 ⟨hbx,hr⟩
    have hbw7:Below w6.heap.size w6 w7:=hbx
    have hIw7:=HIw6.out.call hbw7
    have hxw7:=Hxw6.out.below hbw7 Hxw6.out.lt
    have hsw7:=Hsw6.out.below hbw7 Hsw6.out.lt
    have hzw7:w6.heap.size≤w7.heap.size:=hbw7.size
    have hR:=HRES.out
    by_cases h6:ak≠6
    · rw[if_pos h6]at hr hR
      obtain rfl:=hr
      have hP:=RdQ.no (r:=RES) (c:=9) (by rw[←hR]) (by omega) hIw7.below
      have HP:=Lib.hid hP
      clear hP
      clear hK hbx hbw7 hIw7 hxw7 hsw7 h6
      go_wp2
      exact⟨rfl,HP.out⟩
    rw[if_neg h6]at hr hR
    by_cases hfit:fitB (mustN kd) (mayN kd) ao=false
    · rw[if_pos hfit]at hr hR
      obtain rfl:=hr
      have hP:=RdQ.no (r:=RES) (c:=10) (by rw[←hR]) (by omega) hIw7.below
      have HP:=Lib.hid hP
      clear hP
      clear hK hbx hbw7 hIw7 hxw7 hsw7 h6 hfit
      go_wp2
      exact⟨rfl,HP.out⟩
    rw[if_neg hfit]at hr hR
    obtain⟨a6,c6,rfl,hrow⟩:=hr
    have hSw7:=HS.out _ hsw7 hxw7
    have HR:=Lib.hid hR
    have HIw7:=Lib.hid hIw7
    have Hxw7:=Lib.hid hxw7
    have Hsw7:=Lib.hid hsw7
    have Hbw7:=Lib.hid hbw7
    have Hrow:=Lib.hid hrow
    clear hIw7 hxw7 hsw7 hbw7 hrow
    refine hK.out _ _ hSw7 (fun hHeld=> ?_)
    clear hK K hbx h6 hfit hR
    try simp only[Act.put,List.getElem_toArray,List.getElem_cons_succ,List.getElem_cons_zero,List.setIfInBounds_toArray,List.set_cons_zero,List.set_cons_succ]
    have hv7:=Hvw6.out.below Hbw7.out Hvw6.out.lt
    refine wpAnyH_ready (rs:= [6]) (by kernel_rfl) (by simp) ?_
    refine AllReadyH.cons rfl (fun K hK=> ?_) AllReadyH.nil
    refine wp_callF (.tmp 31) (.tmp 35) rfl (v:=.slice a6 ao.length c6) rfl rfl Hcf.out ?_
    with_reducible refine(HC.out w7 a6 c6 HIw7.out.below Hrow.out.now).mono ?_
    rintro e w8 ⟨hbw8,hr⟩
    have hIw8:=HIw7.out.call hbw8
    have hxw8:=Hxw7.out.below hbw8 Hxw7.out.lt
    have hsw8:=Hsw7.out.below hbw8 Hsw7.out.lt
    have hzw8:w7.heap.size≤w8.heap.size:=hbw8.size
    have hR:=HR.out
    by_cases hc:(argsM r kd ao).1≠0
    · rw[if_pos hc]at hr
      obtain rfl:=hr
      have hP:=RdQ.no (r:=RES) (c:=(argsM r kd ao).1) (by rw[←hR]) hc hIw8.below
      generalize (argsM r kd ao).1=code at hP ⊢
      have HP:=Lib.hid hP
      clear hP
      clear hK hbw8 hIw8 hxw8 hsw8 hc hR
      go_wp2
      exact⟨rfl,HP.out⟩
    rw[if_neg hc]at hr
    obtain⟨cs,rfl,hf⟩:=hr
    have hSw8:=HS.out _ hsw8 hxw8
    have hcl:=hf.now.len
    rw[dM_cells]at hcl
    obtain⟨hl18,hone⟩:=hcl
    have hl18:cs.length=18:=by simpa using hl18
    have hone: ∀u ∈ cs,u.oneCell'=true:=fun u hu=>hone u (List.mem_cons_of_mem _ hu)
    have HIw8:=Lib.hid hIw8
    have Hxw8:=Lib.hid hxw8
    have Hsw8:=Lib.hid hsw8
    have Hbw8:=Lib.hid hbw8
    have Hone:=Lib.hid hone
    have Hc:=Lib.hid hc
    clear hIw8 hxw8 hsw8 hbw8 hone hc
    refine hK.out _ _ hSw8 (fun hHeld=> ?_)
    clear hK K hR
    try simp only[Act.put,List.getElem_toArray,List.getElem_cons_succ,List.getElem_cons_zero,List.setIfInBounds_toArray,List.set_cons_zero,List.set_cons_succ]
    have hv8:=hv7.below Hbw8.out hv7.lt
    refine wpAnyH_ready (rs:= [8]) (by kernel_rfl) (by simp) ?_
    refine AllReadyH.cons rfl (fun K hK=> ?_) AllReadyH.nil
    have hMge:w.heap.size≤w5.heap.size:=by omega
    have hdat:=(HoldsIn.of_fresh hf).mono (T:=fun i=>w.heap.size≤i∧i≠w5.heap.size∧i≠w.heap.size+1) (fun i h1 h2=>⟨by omega,by omega,by omega⟩)
    have hs19:z19.size=(Value.int .i64 0::cs).toArray.size:=by simp[hl18]
    refine wp_store_far (cs:=z19) Tmut (.tmp 10) (.tmp 36) rfl w5.heap.size 0 hv8 (.agg (Value.int .i64 0::cs).toArray) rfl rfl (by simp only[Value.cells];rw[←hs19];exact Nat.le_of_ble_eq_true rfl) (by simp only[Value.cells];rw[←hs19];kernel_rfl) (by simp only[Value.cells];exact one_cons 0 Hone.out) HIw8.out.below hMge ?_
    intro wz hxz hbz hzz hfar
    rw[show(Value.agg (Value.int .i64 0::cs).toArray).cells=(Value.int .i64 0::cs).toArray from by simp only[Value.cells],over_all z19 _ hs19]at hxz
    have hIz:RV w #[.int .i64 vk,.bool vb,.int .i64 vn,.string vt,.slice vla vl.length vlc,.slice voa vo.length voc] wz:=⟨hbz,(hfar w.heap.size (by omega)).trans HIw8.out.box,(hfar (w.heap.size+1) (by omega)).trans HIw8.out.res⟩
    have hsz:Blk wz Y 97 _:=(hfar Y (by omega)).trans Hsw8.out
    have hxz2:Blk wz Z 27 _:=(hfar Z (by omega)).trans Hxw8.out
    have hdz:=hdat.later (w':=wz) (by omega) fun p p1 _=>World.cell?_of_block (hfar _ p1.2.1)
    have HD:Hid (RD w #[.int .i64 vk,.bool vb,.int .i64 vn,.string vt,.slice vla vl.length vlc,.slice voa vo.length voc] Y #[.int .i64 kd,.slice (some ⟨gF,0,none⟩) (fldsK kd).length (fldsK kd).length,.func (.func fn) #[] caps,.func (.func wn) #[] wcaps] (argsM r kd ao).2 cs w5.heap.size wz):=Lib.hid ⟨hIz,hxz,hsz,by omega,by omega,hdz,hl18,Hone.out⟩
    have hSz:=HS.out _ hsz hxz2
    have hok0:(argsM r kd ao).1=0:=by have:=Hc.out;omega
    have HOK:=Lib.hid hok0
    refine hK.out _ _ hSz (fun hHeld=> ?_)
    clear hK K hxz hbz hfar hIz hsz hxz2 hdz hSz hdat hs19 hok0
    try simp only[Act.put,List.getElem_toArray,List.getElem_cons_succ,List.getElem_cons_zero]
    refine wpAnyH_done (by kernel_rfl) ?_ _
    go_wp2
    go_meet
    exact⟨_,cs,rfl,HD,HOK,HR⟩
  case rest=>
   obtain⟨M,cs,rfl,hD,hok,hR⟩:=hcut
   have y0:=hD.out.sh_.cell 0
   have yl:=hD.out.sh_.lt
   obtain⟨sv,hsv⟩: ∃sv:Array Value,(Value.int .i64 0::cs).toArray=sv:=⟨_,rfl⟩
   have hvar:=hD.out.var
   rw[hsv]at hvar
   have hs1:sv.size=19:=by rw[←hsv];simp[hD.out.len]
   have Hvar:=Lib.hid hvar
   clear hvar
   go_upto_region 6 with(fail)
   iterate 11 go_step
   refine wp_store_far 22 (.tmp 39) (.tmp 38) rfl M 0 Hvar.out (.int .i64 kd) rfl rfl (by rw[hs1];exact Nat.le_of_ble_eq_true rfl) (by kernel_rfl) (by simp[Value.cells,Value.oneCell']) hD.out.rv.below (by have:=hD.out.ne;omega) ?_
   intro w6 hx6 hb6 hs6 hfar
   rw[show(Value.int .i64 kd).cells.toList= [.int .i64 kd]from by simp only[Value.cells],←hsv,over_head]at hx6
   have hne:=hD.out.ne
   have hbox6:=(hfar w.heap.size (by omega)).trans hD.out.rv.box
   have hres6:Blk w6 (w.heap.size+1) Tmut z19:=(hfar (w.heap.size+1) (by omega)).trans hD.out.rv.res
   have hdat6:=hD.out.dat.later (w':=w6) (by omega) fun p p1 _=>World.cell?_of_block (hfar _ p1.2.1)
   obtain⟨ca,hca⟩: ∃ca:Array Value,(Value.int .i64 kd::cs).toArray=ca:=⟨_,rfl⟩
   have hkk:=argsM_kind k1 k7 hok.out
   rw[hkk]at hdat6
   have hsc:z19.size=ca.size:=by rw[←hca];simp[hD.out.len]
   have hcc: ∀u ∈ ca.toList,u.oneCell'=true:=by rw[←hca];exact one_cons kd hD.out.one
   have hdl:HoldsIn (fun i=>w.heap.size≤i∧i≠M∧i≠w.heap.size+1) w6 (dM (argsM r kd ao).2) ca.toList:=by rw[←hca];exact hdat6
   rw[hca]at hx6
   have hfin:RES=(0,(argsM r kd ao).2):=by rw[←hR.out];exact Prod.ext hok.out rfl
   have Hx6:=Lib.hid hx6
   have Hb6:=Lib.hid hb6
   have Hres6:=Lib.hid hres6
   have Hdl:=Lib.hid hdl
   have Hfin:=Lib.hid hfin
   clear hx6 hb6 hres6 hdl hfin
   clear hfar hbox6 hdat6 hD hok hR y0 hca
   dsimp only
   go_upto_region 7 with(fail)
   iterate 2 go_step
   refine wp_load_blk Tmut (.tmp 10) rfl M _ Hx6.out rfl _ Tryz.underlying30 rfl (by rw[←hsc];kernel_rfl) ?_
   iterate 2 go_step
   refine wp_store_far (cs:=z19) Tmut (.tmp 4) (.tmp 40) rfl (w.heap.size+1) 0 Hres6.out (.agg ca) rfl rfl (by simp only[Value.cells];rw[←hsc];exact Nat.le_of_ble_eq_true rfl) (by simp only[Value.cells];rw[←hsc];kernel_rfl) (by simp only[Value.cells];exact hcc) Hb6.out (Nat.le_succ _) ?_
   intro w7 hx7 hb7 hs7 hfar
   rw[show(Value.agg ca).cells=ca from by simp only[Value.cells],over_all z19 ca hsc]at hx7
   have hd7:=(Hdl.out.later (w':=w7) (by omega) fun p p1 _=>World.cell?_of_block (hfar _ p1.2.2)).mono (T:=fun i=>w.heap.size≤i) fun i _ h=>h.1
   have hQ:RdQ RES w (.returned (.agg ca)) w7:=⟨hb7,by
    rw[Hfin.out,if_neg (by simp)]
    exact⟨ca,rfl,hd7⟩⟩
   have Hx7:=Lib.hid hx7
   have HQ:=Lib.hid hQ
   clear hx7 hQ
   clear hfar hd7 hb7
   repeat go_step
   exact bodyPost_ret (results_blk rfl rfl Hx7.out Tryz.underlying30 rfl (by rw[←hsc];kernel_rfl)) rfl HQ.out
end Go.Proofs.YtkkbplakgldlpaaGreatDoor
