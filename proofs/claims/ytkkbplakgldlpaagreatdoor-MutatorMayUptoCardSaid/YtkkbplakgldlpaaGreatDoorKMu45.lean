/- Parts, joined: mutator.Of: the mutator of any value, or why of none. Condition: a bulk of at most 10^8; what is read has a bulk of at most 10^8, and numbers of 64 bits. mutator.Parse: the mutator of a text, or why of none. Condition: a text of at most 10^8 bytes; what is read has a bulk of at most 10^8, and numbers of 64 bits. commonplacelaw11.falls: a text is refused so. Condition: a text of at most 10^8 bytes; what is read has a bulk of at most 10^8. -/
import Derived.Test.YtkkbplakgldlpaaGreatDoorProg
import Derived.Test.YtkkbplakgldlpaaGreatDoorKMu4
import Derived.Test.YtkkbplakgldlpaaGreatDoorKMu30
import Derived.Test.YtkkbplakgldlpaaGreatDoorKMu33
import Derived.Test.YtkkbplakgldlpaaGreatDoorKMu37
import Derived.Test.YtkkbplakgldlpaaGreatDoorKMu38
import Derived.Test.YtkkbplakgldlpaaGreatDoorKMu44
namespace Go.Proofs.YtkkbplakgldlpaaGreatDoor
open Go Go.RowKit
theorem results_blk2 {P:Program} {fn:Func} {t u:Tmp} {ty tb:TypeId} {tmps:Array Value} {W:World} {R:Nat} {cs:Array Value} {d:TypeDesc} (h:fn.results= #[.cell t ty,.tmp u]) (hp:tmps.getD t undef=.pointer (some ⟨R,0,none⟩)) (hx:Blk W R tb cs)
 (hu:P.underlying ty=some d) (hd:d.isRow=true) (hi:(P.info? ty).map (·.size)=some cs.size):(results fn tmps).run P W=.ok (.tuple #[.agg cs,tmps.getD u undef]) W:=by
 have hl:=run_loadVar_mid (P:=P) W R 0 ty cs.toList d (blk_range hx) hu hd (by simpa using hi)
 have hp':tmps[t]?.getD undef=.pointer (some ⟨R,0,none⟩):=by simpa using hp
 simp[results,h,hp',asAddr,hl]
def OfMP (v:Val) (w:World) (e:Ending) (w':World):Prop:=Below w.heap.size w w'∧ ∃ca:Array Value,e=.returned (.tuple #[.agg ca,.int .i64 (mutOf v).1])∧Fresh w.heap.size w' (dM (mutOf v).2) ca.toList
theorem fresh_noM (b:Nat) (w:World):Fresh b w (dM noM) z19.toList:=fresh_mut 0 nil0 nil0 0 false false (fresh_z6 _ _) (fresh_z6 _ _) (fresh_row0 _ _ _)
theorem OfMP.no {v:Val} {w w':World} {c:Int} (h:mutOf v=(c,noM)) (hb:Below w.heap.size w w'):OfMP v w (.returned (.tuple #[.agg z19,.int .i64 c])) w':=
 ⟨hb,z19,by rw[h],by rw[h];exact fresh_noM _ _⟩
structure OF (w:World) (six:Array Value) (wr:World):Prop where
 below:Below w.heap.size w wr
 box:Blk wr w.heap.size 27 six
 res:Blk wr (w.heap.size+1) Tmut z19
theorem OF.call {w wr w':World} {six:Array Value} (h:OF w six wr) (hb:Below wr.heap.size wr w'):OF w six w':=⟨h.below.trans (hb.mono h.below.size),h.box.below hb h.box.lt,h.res.below hb h.res.lt⟩
theorem OF.grown {w wr w':World} {six:Array Value} {M:Nat} (h:OF w six wr) (hg:wr.grownBy w' (some M)) (hM:w.heap.size+1<M):OF w six w':=
 ⟨h.below.grown hg h.below.size (fun k e=>by cases e;omega),h.box.grown hg (by simp;omega),h.res.grown hg (by simp;omega)⟩
set_option maxRecDepth 100000 in
set_option maxHeartbeats 8000000 in
theorem mof_calls (vk:Int) (vb:Bool) (vn:Int) (vt:ByteArray) (vl:List Val) (vo:List (ByteArray×Val)) (vla vlc voa voc) (w:World) (hT:Tabs w)
 (hV:Holds w w.heap.size (dV (.mk vk vb vn vt vl vo)) [.int .i64 vk,.bool vb,.int .i64 vn,.string vt,.slice vla vl.length vlc,.slice voa vo.length voc]) (hb:(Val.mk vk vb vn vt vl vo).bulk≤100000000)
 (hrb:(readM 65 (.mk vk vb vn vt vl vo)).1=0→bulkM (readM 65 (.mk vk vb vn vt vl vo)).2≤100000000∧inM (readM 65 (.mk vk vb vn vt vl vo)).2):
 Calls Tryz.prog 21 #[.agg #[.int .i64 vk,.bool vb,.int .i64 vn,.string vt,.slice vla vl.length vlc,.slice voa vo.length voc]] w (OfMP (.mk vk vb vn vt vl vo) w):=by
 have hI0:OF w #[.int .i64 vk,.bool vb,.int .i64 vn,.string vt,.slice vla vl.length vlc,.slice voa vo.length voc] ((w.alloc (.cells #[.int .i64 vk,.bool vb,.int .i64 vn,.string vt,.slice vla vl.length vlc,.slice voa vo.length voc] 27)).alloc (.cells z19 Tmut)):=
  ⟨((Below.refl _ _).alloc (Nat.le_refl _) _).alloc (by simp) _,(Blk.new w _ _).alloc _,by simpa using Blk.new (w.alloc (.cells #[.int .i64 vk,.bool vb,.int .i64 vn,.string vt,.slice vla vl.length vlc,.slice voa vo.length voc] 27)) Tmut z19⟩
 obtain⟨wi,hwi⟩: ∃wi,(w.alloc (.cells #[.int .i64 vk,.bool vb,.int .i64 vn,.string vt,.slice vla vl.length vlc,.slice voa vo.length voc] 27)).alloc (.cells z19 Tmut)=wi:=⟨_,rfl⟩
 rw[hwi]at hI0
 have hMay:=May_calls (.mk vk vb vn vt vl vo) [.int .i64 vk,.bool vb,.int .i64 vn,.string vt,.slice vla vl.length vlc,.slice voa vo.length voc] wi (hT.below hI0.below) (holdsV_of _ _ ((hV.below hI0.below).more hI0.below.size)) (by omega)
 obtain⟨x0,x1,x2,x3,x4,x5⟩:=vcell hI0.box
 have xl:=hI0.box.lt
 obtain⟨C0,hC0⟩: ∃c,mayV (.mk vk vb vn vt vl vo) 1=c:=⟨_,rfl⟩
 rw[hC0]at hMay
 obtain⟨PO,hPO⟩: ∃P,OfMP (.mk vk vb vn vt vl vo) w=P:=⟨_,rfl⟩
 rw[hPO]
 have HI0:=Lib.hid hI0
 have HMay:=Lib.hid hMay
 have HT:=Lib.hid hT
 have HV:=Lib.hid hV
 have HPO:=Lib.hid hPO
 have Hrb:=Lib.hid hrb
 clear hI0 hMay hT hV hPO hrb
 go_enter Tryz.func21,Tryz.ntmps21
 go_upto_region 1 with(fail)
 clear hwi
 go_wp2_with (fail)
 with_reducible refine(HMay.out).mono ?_
 rintro e w2 ⟨rfl,hb2⟩
 have hI2:=HI0.out.call hb2
 have hlt2:w.heap.size+1<w2.heap.size:=hI2.res.lt
 by_cases h0:C0=0
 rotate_left
 · have t0:(C0 != 0)=true:=by simpa using h0
   have hP:PO (.returned (.tuple #[.agg z19,.int .i64 C0])) w2→True:=fun _=>trivial
   have hmo:mutOf (.mk vk vb vn vt vl vo)=(C0,noM):=by
    unfold mutOf
    rw[hC0,if_pos h0]
   have HI2:=Lib.hid hI2
   have Hmo:=Lib.hid hmo
   clear hI2 hmo
   clear hb2 h0 hC0 hP x0 x1 x2 x3 x4 x5
   go_upto_region 3 with(fail)
   iterate 8 go_step
   refine wp_store_far (cs:=z19) Tmut (.tmp 2) (.tmp 11) rfl (w.heap.size+1) 0 HI2.out.res (.agg z19) rfl rfl (Nat.le_of_ble_eq_true rfl) (by kernel_rfl) (by simp[Value.cells,Value.oneCell']) HI2.out.below (Nat.le_succ _) ?_
   intro wz hxz hbz hsz hfar
   rw[show(Value.agg z19).cells=z19 from by simp only[Value.cells],over_all z19 z19 rfl]at hxz
   have Hxz:=Lib.hid hxz
   have Hbz:=Lib.hid hbz
   clear hxz hbz
   clear hfar hsz
   repeat go_step
   rw[←HPO.out]
   exact bodyPost_ret (results_blk2 rfl rfl Hxz.out Tryz.underlying30 rfl (by kernel_rfl)) rfl (OfMP.no Hmo.out Hbz.out)
 subst h0
 obtain⟨RES,hRES⟩: ∃r',readM 65 (.mk vk vb vn vt vl vo)=r':=⟨_,rfl⟩
 have hI3:=hI2.call (alloc_below w2 (.cells z19 Tmut))
 have hv3:=Blk.new w2 Tmut z19
 have hs3:w2.heap.size<(w2.alloc (.cells z19 Tmut)).heap.size:=by simp
 obtain⟨M,hMe⟩: ∃M,w2.heap.size=M:=⟨_,rfl⟩
 obtain⟨w3,hw3⟩: ∃x,w2.alloc (.cells z19 Tmut)=x:=⟨_,rfl⟩
 rw[hw3]at hI3 hv3 hs3
 rw[hMe]at hv3 hs3 hlt2
 have hrb3:=Hrb.out
 rw[hRES]at hrb3
 have hV3:=(HV.out.below hI3.below).more hI3.below.size
 have hCau:=caughtO_calls RES.1 M ⟨w.heap.size,0,none⟩ ⟨M,0,none⟩ w3 (OfX RES M (w3.heap.size+1)) hs3 (fun W W' hg h=>h.grown (by omega) hg) (fun W hW hs=>by
  have:=of1_calls vk vb vn vt vl vo vla vlc voa voc w.heap.size M (w3.heap.size+1) W hs (by omega) ((hV3.below hW).more hW.size) hb hC0 (hI3.box.below hW hI3.box.lt) (hv3.below hW hv3.lt)
  rw[hRES]at this
  exact this)
 have hmo:mutOf (.mk vk vb vn vt vl vo)=if RES.1≠0 then(RES.1,noM)else if mutMay RES.2≠0 then(mutMay RES.2,noM)else(0,RES.2):=by
  unfold mutOf
  rw[hC0,if_neg (by simp),hRES]
 obtain⟨C1,hC1⟩: ∃c,RES.1=c:=⟨_,rfl⟩
 rw[hC1]at hCau hmo
 have hmf: ∀(fn:Fn) (first cap:Array Value) (w:World),(Instr.makeFunc fn first cap).run Tryz.prog w=.ok (.func fn first cap) w:=fun _ _ _ _=>rfl
 have HI3:=Lib.hid hI3
 have Hv3:=Lib.hid hv3
 have HCau:=Lib.hid hCau
 have Hmo:=Lib.hid hmo
 have Hrb3:=Lib.hid hrb3
 clear hI3 hv3 hCau hmo hrb3
 clear hb2 hC0 x0 x1 x2 x3 x4 x5 hI2 Hrb
 go_upto_region 4 with(fail)
 go_upto_region 5 with(fail)
 clear hw3 hMe
 go_wp2_with (fail)
 with_reducible refine(HCau.out).mono ?_
 rintro e w4 ⟨rfl,hg4,hx4⟩
 have hI4:=HI3.out.grown hg4 hlt2
 have hT4:=HT.out.below hI4.below
 by_cases h1:C1=0
 rotate_left
 · have t0:(C1 != 0)=true:=by simpa using h1
   have t1:(C1==0)=false:=by simpa using h1
   have hmo:=Hmo.out
   rw[if_pos h1]at hmo
   have Hmo:=Lib.hid hmo
   have HI4:=Lib.hid hI4
   clear hI4
   clear hg4 hx4 hmo h1 hC1
   go_upto_region 9 with(fail)
   iterate 8 go_step
   refine wp_store_far (cs:=z19) Tmut (.tmp 2) (.tmp 21) rfl (w.heap.size+1) 0 HI4.out.res (.agg z19) rfl rfl (Nat.le_of_ble_eq_true rfl) (by kernel_rfl) (by simp[Value.cells,Value.oneCell']) HI4.out.below (Nat.le_succ _) ?_
   intro wz hxz hbz hsz hfar
   rw[show(Value.agg z19).cells=z19 from by simp only[Value.cells],over_all z19 z19 rfl]at hxz
   have Hxz:=Lib.hid hxz
   have Hbz:=Lib.hid hbz
   clear hxz hbz
   clear hfar hsz
   repeat go_step
   rw[←HPO.out]
   exact bodyPost_ret (results_blk2 rfl rfl Hxz.out Tryz.underlying30 rfl (by kernel_rfl)) rfl (OfMP.no Hmo.out Hbz.out)
 subst h1
 obtain⟨ca,hxa,hs19,hfa⟩:=hx4 hC1
 have hmo:=Hmo.out
 rw[if_neg (by simp)]at hmo
 obtain⟨hrb,hri⟩:=Hrb3.out hC1
 have hMM:=mutMay_calls RES.2 ca.toList w4 hT4 hfa.now hrb hri
 rw[show ca.toList.toArray=ca from by simp]at hMM
 obtain⟨C2,hC2⟩: ∃c,mutMay RES.2=c:=⟨_,rfl⟩
 rw[hC2]at hMM hmo
 have hsc:z19.size=ca.size:=by rw[hs19];rfl
 have hcc: ∀u ∈ ca.toList,u.oneCell'=true:=hfa.now.len.2
 have hz4:=hg4.size
 have HI4:=Lib.hid hI4
 have Hxa:=Lib.hid hxa
 have Hfa:=Lib.hid hfa
 have HMM:=Lib.hid hMM
 have Hmo:=Lib.hid hmo
 clear hI4 hxa hfa hMM hmo
 clear hg4 hx4
 go_upto_region 7 with(fail)
 iterate 2 go_step
 refine wp_load_blk Tmut (.tmp 5) rfl M _ Hxa.out rfl _ Tryz.underlying30 rfl (by rw[←hsc];kernel_rfl) ?_
 go_wp2_with (fail)
 with_reducible refine(HMM.out).mono ?_
 rintro e w5 ⟨rfl,hb5⟩
 have hI5:=HI4.out.call hb5
 have hxa5:=Hxa.out.below hb5 Hxa.out.lt
 have hfa5:=Hfa.out.later hb5
 have hs5:=HI3.out.res.lt
 have hz5:w3.heap.size≤w5.heap.size:=Nat.le_trans hz4 hb5.size
 by_cases h2:C2=0
 rotate_left
 · have t0:(C2 != 0)=true:=by simpa using h2
   have hmo:=Hmo.out
   rw[if_pos h2]at hmo
   have Hmo:=Lib.hid hmo
   have HI5:=Lib.hid hI5
   clear hI5
   clear hb5 hxa5 hfa5 hmo h2 hC2
   go_upto_region 9 with(fail)
   iterate 8 go_step
   refine wp_store_far (cs:=z19) Tmut (.tmp 2) (.tmp 21) rfl (w.heap.size+1) 0 HI5.out.res (.agg z19) rfl rfl (Nat.le_of_ble_eq_true rfl) (by kernel_rfl) (by simp[Value.cells,Value.oneCell']) HI5.out.below (Nat.le_succ _) ?_
   intro wz hxz hbz hsz hfar
   rw[show(Value.agg z19).cells=z19 from by simp only[Value.cells],over_all z19 z19 rfl]at hxz
   have Hxz:=Lib.hid hxz
   have Hbz:=Lib.hid hbz
   clear hxz hbz
   clear hfar hsz
   repeat go_step
   rw[←HPO.out]
   exact bodyPost_ret (results_blk2 rfl rfl Hxz.out Tryz.underlying30 rfl (by kernel_rfl)) rfl (OfMP.no Hmo.out Hbz.out)
 subst h2
 have hmo:=Hmo.out
 rw[if_neg (by simp)]at hmo
 have Hmo:=Lib.hid hmo
 have HI5:=Lib.hid hI5
 have Hxa5:=Lib.hid hxa5
 have Hfa5:=Lib.hid hfa5
 clear hI5 hxa5 hfa5
 clear hb5 hmo
 go_upto_region 10 with(fail)
 iterate 2 go_step
 refine wp_load_blk Tmut (.tmp 5) rfl M _ Hxa5.out rfl _ Tryz.underlying30 rfl (by rw[←hsc];kernel_rfl) ?_
 iterate 2 go_step
 refine wp_store_far (cs:=z19) Tmut (.tmp 2) (.tmp 23) rfl (w.heap.size+1) 0 HI5.out.res (.agg ca) rfl rfl (by simp only[Value.cells];rw[←hsc];exact Nat.le_of_ble_eq_true rfl) (by simp only[Value.cells];rw[←hsc];kernel_rfl) (by simp only[Value.cells];exact hcc) HI5.out.below (Nat.le_succ _) ?_
 intro wz hxz hbz hsz hfar
 rw[show(Value.agg ca).cells=ca from by simp only[Value.cells],over_all z19 ca hsc]at hxz
 have hfz:Fresh w.heap.size wz (dM RES.2) ca.toList:=Hfa5.out.keep (by omega) (by omega) fun p p1 _=>World.cell?_of_block (hfar _ (by omega))
 have hP:OfMP (.mk vk vb vn vt vl vo) w (.returned (.tuple #[.agg ca,.int .i64 0])) wz:=⟨hbz,ca,by rw[Hmo.out],by rw[Hmo.out];exact hfz⟩
 have Hxz:=Lib.hid hxz
 have HP:=Lib.hid hP
 clear hxz hP
 clear hfar hsz hbz hfz
 repeat go_step
 rw[←HPO.out]
 exact bodyPost_ret (results_blk2 rfl rfl Hxz.out Tryz.underlying30 rfl (by rw[←hsc];kernel_rfl)) rfl HP.out
end Go.Proofs.YtkkbplakgldlpaaGreatDoor

namespace Go.Proofs.YtkkbplakgldlpaaGreatDoor
open Go Go.RowKit
def ParMP (s:List UInt8) (w:World) (e:Ending) (w':World):Prop:=Below w.heap.size w w'∧ ∃ca:Array Value,e=.returned (.tuple #[.agg ca,.int .i64 (mutParse s).1])∧ca.size=19∧Fresh w.heap.size w' (dM (mutParse s).2) ca.toList
structure PM (w wr:World):Prop where
 below:Below w.heap.size w wr
 res:Blk wr w.heap.size Tmut z19
theorem PM.call {w wr w':World} (h:PM w wr) (hb:Below wr.heap.size wr w'):PM w w':=⟨h.below.trans (hb.mono h.below.size),h.res.below hb h.res.lt⟩
theorem parseL_bad0 {s:List UInt8} {c:Int} {q:Nat} (h:c=0):parseL s≠ .bad c q:=by
 intro e
 refine exactL_bad0 (s:=s) (c:=c) (q:=q) h ?_
 unfold exactL
 rw[e]
set_option maxRecDepth 100000 in
set_option maxHeartbeats 8000000 in
theorem mparse_calls (s:ByteArray) (w:World) (hT:Tabs w) (hNT:NumT w) (hs:s.size≤100000000)
 (hv: ∀v q,parseL s.data.toList=.ok v q→v.bulk≤100000000∧((readM 65 v).1=0→bulkM (readM 65 v).2≤100000000∧inM (readM 65 v).2)):
 Calls Tryz.prog 20 #[.string s] w (ParMP s.data.toList w):=by
 have hI0:PM w (w.alloc (.cells z19 Tmut)):=⟨(Below.refl _ _).alloc (Nat.le_refl _) _,Blk.new w _ _⟩
 obtain⟨wi,hwi⟩: ∃wi,w.alloc (.cells z19 Tmut)=wi:=⟨_,rfl⟩
 rw[hwi]at hI0
 have hP:=parse_calls s wi (hT.below hI0.below) (hNT.below hI0.below) hs
 obtain⟨PO,hPO⟩: ∃P,ParMP s.data.toList w=P:=⟨_,rfl⟩
 rw[hPO]
 have HI0:=Lib.hid hI0
 have HP:=Lib.hid hP
 have HT:=Lib.hid hT
 have HPO:=Lib.hid hPO
 have Hv:=Lib.hid hv
 clear hI0 hP hT hPO hv
 go_enter Tryz.func20,Tryz.ntmps20
 go_upto_region 1 with(fail)
 clear hwi
 go_wp2_with (fail)
 with_reducible refine(HP.out).mono ?_
 rintro e w2 ⟨hb2,hr⟩
 have hI2:=HI0.out.call hb2
 have hle0:=HI0.out.below.size
 obtain⟨RES,hRES⟩: ∃r,parseL s.data.toList=r:=⟨_,rfl⟩
 rw[hRES]at hr
 cases RES with
 |bad c q=>
  simp only at hr
  obtain rfl:=hr
  have hc:c≠0:=fun e=>parseL_bad0 e hRES
  have t0:(c != 0)=true:=by simpa using hc
  have hmo:mutParse s.data.toList=(c,noM):=by unfold mutParse;rw[hRES]
  have hI3:=hI2.call (alloc_below w2 (.cells zero6 27))
  have HI3:=Lib.hid hI3
  have Hmo:=Lib.hid hmo
  clear hI3 hmo
  clear hb2 hI2 hc hRES
  go_upto_region 3 with(fail)
  iterate 8 go_step
  refine wp_store_far (cs:=z19) Tmut (.tmp 2) (.tmp 15) rfl w.heap.size 0 HI3.out.res (.agg z19) rfl rfl (Nat.le_of_ble_eq_true rfl) (by kernel_rfl) (by simp[Value.cells,Value.oneCell']) HI3.out.below (Nat.le_refl _) ?_
  intro wz hxz hbz hsz hfar
  rw[show(Value.agg z19).cells=z19 from by simp only[Value.cells],over_all z19 z19 rfl]at hxz
  have Hxz:=Lib.hid hxz
  have Hbz:=Lib.hid hbz
  clear hxz hbz
  clear hfar hsz
  repeat go_step
  rw[←HPO.out]
  exact bodyPost_ret (results_blk2 rfl rfl Hxz.out Tryz.underlying30 rfl (by kernel_rfl)) rfl ⟨Hbz.out,z19,by rw[Hmo.out];rfl,rfl,by rw[Hmo.out];exact fresh_noM _ _⟩
 |ok v q=>
  simp only at hr
  obtain⟨cs,rfl,hf⟩:=hr
  obtain⟨hvb,hvr⟩:=Hv.out v q hRES
  have hmo:mutParse s.data.toList=mutOf v:=by unfold mutParse;rw[hRES]
  obtain⟨k,b,n,t,l,o⟩:=v
  obtain⟨la,lc,oa,oc,rfl⟩:=six_now hf
  have hI3:=hI2.call (alloc_below w2 (.cells #[.int .i64 k,.bool b,.int .i64 n,.string t,.slice la l.length lc,.slice oa o.length oc] 27))
  have hx3:=Blk.new w2 27 #[.int .i64 k,.bool b,.int .i64 n,.string t,.slice la l.length lc,.slice oa o.length oc]
  have hf3:=hf.later (alloc_below w2 (.cells #[.int .i64 k,.bool b,.int .i64 n,.string t,.slice la l.length lc,.slice oa o.length oc] 27))
  obtain⟨w3,hw3⟩: ∃x,w2.alloc (.cells #[.int .i64 k,.bool b,.int .i64 n,.string t,.slice la l.length lc,.slice oa o.length oc] 27)=x:=⟨_,rfl⟩
  rw[hw3]at hI3 hx3 hf3
  have hOf:=mof_calls k b n t l o la lc oa oc w3 (HT.out.below hI3.below) hf3.now hvb hvr
  obtain⟨x0,x1,x2,x3,x4,x5⟩:=vcell hx3
  have xl:=hx3.lt
  have HI3:=Lib.hid hI3
  have HOf:=Lib.hid hOf
  have Hmo:=Lib.hid hmo
  clear hI3 hOf hmo
  clear hb2 hI2 hf hf3 hx3 hRES hvr
  go_upto_region 4 with(fail)
  clear hw3
  go_wp2_with (fail)
  with_reducible refine(HOf.out).mono ?_
  rintro e w4 ⟨hb4,ca,rfl,hf4⟩
  have hI4:=HI3.out.call hb4
  have hsc:z19.size=ca.size:=by have:=hf4.now.len.1;rw[dM_cells]at this;simpa using this.symm
  have hcc: ∀u ∈ ca.toList,u.oneCell'=true:=hf4.now.len.2
  have hlt:=HI3.out.res.lt
  have hmo:=Hmo.out
  generalize hMO:mutOf (.mk k b n t l o)=MO at hf4 hmo ⊢
  have HI4:=Lib.hid hI4
  have Hf4:=Lib.hid hf4
  have Hmo:=Lib.hid hmo
  clear hI4 hf4 hmo
  clear hb4 hMO x0 x1 x2 x3 x4 x5
  dsimp only
  iterate 8 go_step
  refine wp_store_far (cs:=z19) Tmut (.tmp 2) (.tmp 19) rfl w.heap.size 0 HI4.out.res (.agg ca) rfl rfl (by simp only[Value.cells];rw[←hsc];exact Nat.le_of_ble_eq_true rfl) (by simp only[Value.cells];rw[←hsc];kernel_rfl) (by simp only[Value.cells];exact hcc) HI4.out.below (Nat.le_refl _) ?_
  intro wz hxz hbz hsz hfar
  rw[show(Value.agg ca).cells=ca from by simp only[Value.cells],over_all z19 ca hsc]at hxz
  have hfz:Fresh w.heap.size wz (dM MO.2) ca.toList:=Hf4.out.keep (by omega) (by omega) fun p p1 _=>World.cell?_of_block (hfar _ (by omega))
  have hQ:ParMP s.data.toList w (.returned (.tuple #[.agg ca,.int .i64 MO.1])) wz:=⟨hbz,ca,by rw[Hmo.out],by rw[←hsc];rfl,by rw[Hmo.out];exact hfz⟩
  have Hxz:=Lib.hid hxz
  have HQ:=Lib.hid hQ
  clear hxz hQ
  clear hfar hsz hbz hfz
  repeat go_step
  rw[←HPO.out]
  exact bodyPost_ret (results_blk2 rfl rfl Hxz.out Tryz.underlying30 rfl (by rw[←hsc];kernel_rfl)) rfl HQ.out
end Go.Proofs.YtkkbplakgldlpaaGreatDoor

namespace Go.Proofs.YtkkbplakgldlpaaGreatDoor
open Go Go.RowKit
theorem step_load_blk {P:Program} {ops:Array Oper} {op:Oper} {a:Act} {w:World} {K:Act→World→Prop} {Q:Exit→Act→World→Prop} {E:Prop} (hw:Region.wanted op (yielded ops a.tmps)=true) (ty:TypeId) (x:Operand) (ho:op.op=.load ty x) (g:Nat) {t:TypeId} (cs:Array Value) (hb:Blk w g t cs)
 (hx:a.eval x=.pointer (some ⟨g,0,none⟩)) (d:TypeDesc) (hu:P.underlying ty=some d) (hd:d.isRow=true) (hi:(P.info? ty).map (·.size)=some cs.size)
 (h:K (a.put op.dst (.agg cs)) w):if Region.wanted op (yielded ops a.tmps)=true then Oper.wp P op a w K Q else E:=by
 rw[if_pos hw]
 exact wp_load_blk ty x ho g cs hb hx d hu hd hi h
set_option maxRecDepth 100000 in
set_option maxHeartbeats 8000000 in
theorem falls_calls (s:ByteArray) (c:Int) (w:World) (hT:Tabs w) (hNT:NumT w) (hs:s.size≤100000000) (hp:mutParse s.data.toList=(c,noM))
 (hv: ∀v q,parseL s.data.toList=.ok v q→v.bulk≤100000000∧((readM 65 v).1=0→bulkM (readM 65 v).2≤100000000∧inM (readM 65 v).2)):
 Calls Tryz.prog 34 #[.string s,.int .i64 c] w fun e w'=>e=.returned (.bool true)∧Below w.heap.size w w':=by
 have hP:=mparse_calls s w hT hNT hs hv
 unfold ParMP at hP
 rw[hp]at hP
 have HP:=Lib.hid hP
 clear hP
 clear hp hv
 go_enter Tryz.func34,Tryz.ntmps34
 go_upto_region 1 with(fail)
 go_wp2_with (fail)
 with_reducible refine(HP.out).mono ?_
 rintro e w1 ⟨hb1,ca,rfl,hs19,hf⟩
 have hsc:z19.size=ca.size:=by rw[hs19];rfl
 have hcc:ca.all (·.oneCell')=true:=by rw[Array.all_eq_true];intro i hi;exact hf.now.len.2 _ (by simp)
 have hE:=meq_calls noM noM ca.toList z19.toList (w1.alloc (.cells ca Tmut)) (hf.later (alloc_below _ _)).now (fresh_noM (w1.alloc (.cells ca Tmut)).heap.size (w1.alloc (.cells ca Tmut))).now (by decide) (by decide)
 rw[show ca.toList.toArray=ca from by simp,show z19.toList.toArray=z19 from by simp]at hE
 have hx1:=Blk.new w1 Tmut ca
 have hw1:=hb1.alloc hb1.size (.cells ca Tmut)
 have HE:=Lib.hid hE
 have Hx1:=Lib.hid hx1
 have Hw1:=Lib.hid hw1
 clear hE hx1 hw1
 clear hf hb1
 dsimp only
 iterate 14 go_step
 refine wp_store_new Tmut (.tmp 5) (.tmp 10) rfl (cs0:=z19) ca rfl rfl hsc (by rw[←hsc];kernel_rfl) hcc ?_
 generalize w1.alloc (.cells ca Tmut)=wj at Hx1 HE Hw1 ⊢
 dsimp only
 go_upto_region 2 with(fail)
 iterate 13 go_step
 refine wpList_step fun K' hK'=> ?_
 refine step_load_blk rfl Tmut (.tmp 5) rfl w1.heap.size ca Hx1.out rfl _ Tryz.underlying30 rfl (by rw[←hsc];kernel_rfl) ?_
 refine hK' _ _ ?_
 clear hK' K'
 go_wp2_with (fail)
 with_reducible refine(HE.out).mono ?_
 rintro e w2 ⟨B,rfl,hB,hb2⟩
 obtain rfl:B=true:=by simpa using hB
 have hw2:=Hw1.out.trans (hb2.mono Hw1.out.size)
 have Hw2:=Lib.hid hw2
 clear hw2
 clear hb2 hB
 go_wp2
 go_ret
 exact⟨rfl,Hw2.out⟩
end Go.Proofs.YtkkbplakgldlpaaGreatDoor
