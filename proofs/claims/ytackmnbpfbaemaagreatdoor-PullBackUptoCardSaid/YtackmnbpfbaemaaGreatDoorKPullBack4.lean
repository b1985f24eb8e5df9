/- Parts, joined: pull.DecodeRequest: which pull's frame bytes are, or why of none. Condition: at most 10^8 bytes. The law PullBack, its first part: an answer that may be comes back of its frame. Condition: a bulk of at most 1.5 * 10^6. The law PullBack returns true. Condition: a bulk of at most 1.1 * 10^6, as many bytes. -/
import Derived.Test.YtackmnbpfbaemaaGreatDoorProg
import Derived.Test.YtackmnbpfbaemaaGreatDoorKPb11
import Derived.Test.YtackmnbpfbaemaaGreatDoorKPb27
import Derived.Test.YtackmnbpfbaemaaGreatDoorKPb28
import Derived.Test.YtackmnbpfbaemaaGreatDoorKPb37
import Derived.Test.YtackmnbpfbaemaaGreatDoorKPb38
import Derived.Test.YtackmnbpfbaemaaGreatDoorKPb39
import Derived.Test.YtackmnbpfbaemaaGreatDoorKPb40
import Derived.Test.YtackmnbpfbaemaaGreatDoorKPb43
import Derived.Test.YtackmnbpfbaemaaGreatDoorKPb46
import Derived.Test.YtackmnbpfbaemaaGreatDoorKPullBack1
import Derived.Test.YtackmnbpfbaemaaGreatDoorKPullBack2
import Derived.Test.YtackmnbpfbaemaaGreatDoorKPullBack3
namespace Go.Proofs.YtackmnbpfbaemaaGreatDoor
open Go Go.RowKit
theorem results_req_t {fn:Func} {t u:Tmp} {tmps:Array Value} {W:World} {R:Nat} {a0 a1:Value} (h:fn.results= #[.cell t 24, .tmp u]) (hp:tmps.getD t undef= .pointer (some ⟨R,0,none⟩)) (hx:Blk W R 24 #[a0,a1]):
 (results fn tmps).run Tryz.prog W= .ok (.tuple #[.agg #[a0,a1],tmps.getD u undef]) W:=by
 have c0:=hx.cell 0
 have c1:=hx.cell 1
 clear hx
 have hp':tmps[t]?.getD undef= .pointer (some ⟨R,0,none⟩):=by simpa using hp
 simp[results,h,hp',go_sem,c0,c1]
def DecPostQ (l:List UInt8) (w:World) (e:Ending) (w':World):Prop:=e= .returned (.tuple #[.agg #[.int .u64 (decReq l).2.1, .int .u64 (decReq l).2.2], .int .i64 (decReq l).1])∧Below w.heap.size w w'
theorem others_calls (v:Value) (w:World):Calls Tryz.prog 28 #[v] w fun e w'=>e= .returned (.map none)∧w=w':=by
 go_enter Tryz.func28,Tryz.ntmps28
 go_wp2
 go_ret
 exact⟨rfl,rfl⟩
theorem reqN_says {g:Nat} {W:World} {X:Nat} (h:LookIs W g 2 (reqNF X)):Says 101 (.map (some g)) 2 (fun k=> .pointer (npQ X k)) W:=by
 have:=says_nums h
 have e:(fun k=>(reqNF X k).getD (.pointer none))=fun k=> .pointer (npQ X k):=by
  funext k
  unfold reqNF npQ offQ
  by_cases h0:k=kClient
  · rw[if_pos h0,if_pos h0];rfl
  · rw[if_neg h0,if_neg h0]
    by_cases h1:k=kCookie
    · rw[if_pos h1,if_pos h1];rfl
    · rw[if_neg h1,if_neg h1];rfl
 rwa [e]at this
structure DQ (w wr:World):Prop where
 below:Below w.heap.size w wr
 res:Blk wr w.heap.size 24 #[.int .u64 0, .int .u64 0]
 nil:Blk wr (w.heap.size+1+1) 24 #[.int .u64 0, .int .u64 0]
theorem DQ.call {w wr w':World} (h:DQ w wr) (hb:Below wr.heap.size wr w'):DQ w w':=
 ⟨h.below.trans (hb.mono h.below.size),h.res.below hb h.res.lt,h.nil.below hb h.nil.lt⟩
theorem DQ.fill {w wr w':World} (h:DQ w wr) (hg:wr.grownBy w' (some (w.heap.size+1))):DQ w w':=
 ⟨h.below.grown hg h.below.size (fun k e=>by cases e;omega),h.res.grown hg (by simp),h.nil.grown hg (by simp)⟩
theorem Blk.drewQ {w:World} {g:Nat} {t:TypeId} {cs:Array Value} (h:Blk w g t cs):Blk w.drew g t cs:=h
theorem asc_may {k':Int} {b':Bool} {n':Int} {t':ByteArray} {l':List Val} {o':List (ByteArray×Val)} (h:mayV (.mk k' b' n' t' l' o') 1=0):ascO o':=(mayO_rise (mayV_parts h).2.2.2.2).1
theorem decQ_body {l:List UInt8} (h:bodyE 2 l≠0):decReq l=(bodyE 2 l,0,0):=by
 unfold decReq
 rw[if_pos h]
theorem decQ_bad {l:List UInt8} {x:Int} {q:Nat} (h:bodyE 2 l=0) (hx:exactL (bodyB l)= .bad x q):decReq l=(x,0,0):=by
 unfold decReq
 rw[if_neg (by omega),hx]
theorem decQ_ok {l:List UInt8} {v:Val} {q:Nat} (h:bodyE 2 l=0) (hx:exactL (bodyB l)= .ok v q):decReq l=reqOf v:=by
 unfold decReq
 rw[if_neg (by omega),hx]
theorem reqOf_no {v:Val} (h:numsE reqNs 2 v≠0):reqOf v=(numsE reqNs 2 v,0,0):=by
 unfold reqOf
 rw[if_pos h]
theorem reqOf_two {v xc xk:Val} (h:numsE reqNs 2 v=0) (ho:objV' v= [(kClient,xc),(kCookie,xk)]):reqOf v=if mayReq (u64I (intV' xc)) (u64I (intV' xk))=0 then(0,u64I (intV' xc),u64I (intV' xk))else(mayReq (u64I (intV' xc)) (u64I (intV' xk)),0,0):=by
 unfold reqOf
 rw[if_neg (show ¬numsE [kClient,kCookie] 2 v≠0 from fun h'=>h' h)]
 have:numsL 2 v= [u64I (intV' xc),u64I (intV' xk)]:=by unfold numsL;rw[ho];rfl
 rw[this]
set_option maxRecDepth 100000 in
set_option maxHeartbeats 8000000 in
theorem decodeQ_calls (l:List UInt8) (a:Option Addr) (n c:Nat) (w:World) (hT:Tabs w) (hNT:NumT w) (h:Holds w w.heap.size (.row 1 (dB l)) [.slice a n c]) (hc:n≤c) (hl:l.length≤100000000):
 Calls Tryz.prog 26 #[.int .u8 2, .slice a n c, .func (.func 27) #[] #[], .func (.func 28) #[] #[], .func (.func 23) #[] #[]] w (DecPostQ l w):=by
 obtain⟨w0,hw0⟩: ∃w0,((w.alloc (.cells #[.int .u64 0, .int .u64 0] 24)).alloc (.cells #[.int .u64 0, .int .u64 0] 24)).alloc (.cells #[.int .u64 0, .int .u64 0] 24)=w0:=⟨_,rfl⟩
 have hz0:w0.heap.size=w.heap.size+3:=by rw[←hw0];simp
 have hb0:Below w.heap.size w w0:=hw0▸(((Below.refl _ _).alloc (Nat.le_refl _) _).alloc (by simp) _).alloc (by simp;omega) _
 have hD0:DQ w w0:=⟨hb0,hw0▸((Blk.new w _ _).alloc _).alloc _,hw0▸by simpa using Blk.new ((w.alloc (.cells #[.int .u64 0, .int .u64 0] 24)).alloc (.cells #[.int .u64 0, .int .u64 0] 24)) 24 #[.int .u64 0, .int .u64 0]⟩
 have hX0:Blk w0 (w.heap.size+1) 24 #[.int .u64 0, .int .u64 0]:=hw0▸by simpa using(Blk.new (w.alloc (.cells #[.int .u64 0, .int .u64 0] 24)) 24 #[.int .u64 0, .int .u64 0]).alloc (.cells #[.int .u64 0, .int .u64 0] 24)
 have hB:Calls Tryz.prog 49 #[.int .u8 2, .slice a n c] w0 (BodyPost 2 l w0):=body_calls 2 l a n c w0 ((h.below hb0).more hb0.size) hc (by omega)
 have HB:=Lib.hid hB
 have HD0:=Lib.hid hD0
 have HX0:=Lib.hid hX0
 have H:=Lib.hid h
 have HT:=Lib.hid hT
 have HNT:=Lib.hid hNT
 clear hB hD0 hX0 h hT hNT
 go_enter Tryz.func26,Tryz.ntmps26
 go_upto_region 2 with(fail)
 clear hw0
 go_wp2_with (fail)
 with_reducible refine(HB.out).mono ?_
 rintro e w1 ⟨hb1,hr⟩
 have hD1:=HD0.out.call hb1
 have hX1:=HX0.out.below hb1 HX0.out.lt
 by_cases hE:bodyE 2 l=0
 rotate_left
 · rw[if_neg hE]at hr
   obtain rfl:=hr
   have tE:(bodyE 2 l != 0)=true:=by simpa using hE
   have hres:=decQ_body hE
   generalize bodyE 2 l=x at tE hres
   have r0:=hD1.res.cell 0
   have r1:=hD1.res.cell 1
   have x0:=hD1.nil.cell 0
   have x1:=hD1.nil.cell 1
   have fz:=hD1.res.frozen
   have lt1:=hD1.res.lt
   have lt2:=hD1.nil.lt
   have Hb1:=Lib.hid hb1
   have HD1:=Lib.hid hD1
   have HX1:=Lib.hid hX1
   have Hres:=Lib.hid hres
   clear hb1 hD1 hX1 hres
   clear hE
   go_upto_region 4 with(fail)
   repeat go_step
   have hxf:=(HD1.out.res.set_ 0 (.int .u64 0)).set_ 1 (.int .u64 0)
   have hbf:=setMany_below [.int .u64 0, .int .u64 0] HD1.out.below (Nat.le_refl w.heap.size) (o:=0)
   exact bodyPost_ret (results_req_t rfl rfl hxf) rfl ⟨by rw[Hres.out];rfl,hbf⟩
 rw[if_pos hE]at hr
 obtain⟨a1,c1,rfl,hf1⟩:=hr
 have hz1:=hb1.size
 have hlB:=bodyB_len l
 obtain⟨s,hs⟩: ∃s:ByteArray,⟨(bodyB l).toArray⟩=s:=⟨_,rfl⟩
 have hst:=run_bstr hf1.now
 rw[hs]at hst
 have hsd:s.data.toList=bodyB l:=by rw[←hs]
 have hEx:=exact_calls s w1 (HT.out.below hD1.below) (HNT.out.below hD1.below) (by rw[Lib.size_eq,hsd];omega)
 rw[hsd]at hEx
 have e0:bodyE 2 l=0:=hE
 have Hb1:=Lib.hid hb1
 have HD1:=Lib.hid hD1
 have HX1:=Lib.hid hX1
 have Hf1:=Lib.hid hf1
 have HEx:=Lib.hid hEx
 have HE:=Lib.hid hE
 have Hs:=Lib.hid hs
 have Hsd:=Lib.hid hsd
 have HlB:=Lib.hid hlB
 clear hb1 hD1 hX1 hf1 hEx hE hs hsd hlB
 clear e0
 go_wp2_with (fail)
 with_reducible refine(HEx.out).mono ?_
 rintro e w2 ⟨hb2,hr2⟩
 have hD2:=HD1.out.call hb2
 have hX2:=HX1.out.below hb2 HX1.out.lt
 obtain⟨RES,hRES⟩: ∃r,exactL (bodyB l)=r:=⟨_,rfl⟩
 rw[hRES]at hr2
 cases RES with
 |bad x q=>
  simp only at hr2
  obtain rfl:=hr2
  have hx0:x≠0:=fun e=>exactL_bad0 e hRES
  have tE:(x != 0)=true:=by simpa using hx0
  have hres:=decQ_bad HE.out hRES
  have hD3:=hD2.call (alloc_below w2 (.cells zero6 39))
  have r0:=hD3.res.cell 0
  have r1:=hD3.res.cell 1
  have x0:=hD3.nil.cell 0
  have x1:=hD3.nil.cell 1
  have fz:=hD3.res.frozen
  have lt1:=hD3.res.lt
  have lt2:=hD3.nil.lt
  have Hb2:=Lib.hid hb2
  have HD2:=Lib.hid hD2
  have HX2:=Lib.hid hX2
  have Hres:=Lib.hid hres
  have HD3:=Lib.hid hD3
  clear hb2 hD2 hX2 hres hD3
  clear hRES hx0
  go_upto_region 7 with(fail)
  repeat go_step
  have hxf:=(HD3.out.res.set_ 0 (.int .u64 0)).set_ 1 (.int .u64 0)
  have hbf:=setMany_below [.int .u64 0, .int .u64 0] HD3.out.below (Nat.le_refl w.heap.size) (o:=0)
  exact bodyPost_ret (results_req_t rfl rfl hxf) rfl ⟨by rw[Hres.out];rfl,hbf⟩
 |ok v q=>
  obtain⟨cs,rfl,hf2⟩:=hr2
  obtain⟨hmv,hiv,hbv,_⟩:=exactL_ok hRES
  have hres:=decQ_ok HE.out hRES
  obtain⟨k',b',n',t',l',o'⟩:=v
  obtain⟨la,lc,oa,oc,rfl⟩:=six_now hf2
  have hz2:=hb2.size
  have ho:=asc_may hmv
  have hl:o'.length≤100000000:=by
   have h1:=bulkO_len o'
   have h2:bulkO o'≤(Val.mk k' b' n' t' l' o').bulk:=by simp only[Val.bulk];omega
   have h3:=HlB.out
   omega
  have hD3:=hD2.call (alloc_below w2 (.cells #[.int .i64 k', .bool b', .int .i64 n', .string t', .slice la l'.length lc, .slice oa o'.length oc] 39))
  have hR3:=hX2.alloc (.cells #[.int .i64 k', .bool b', .int .i64 n', .string t', .slice la l'.length lc, .slice oa o'.length oc] 39)
  have hX3:=Blk.new w2 39 #[.int .i64 k', .bool b', .int .i64 n', .string t', .slice la l'.length lc, .slice oa o'.length oc]
  have hF3:=hf2.later (alloc_below w2 (.cells #[.int .i64 k', .bool b', .int .i64 n', .string t', .slice la l'.length lc, .slice oa o'.length oc] 39))
  have hXb:w.heap.size+1<w1.heap.size:=by omega
  have hge3:w.heap.size+1<w2.heap.size∧w2.heap.size<(w2.alloc (.cells #[.int .i64 k', .bool b', .int .i64 n', .string t', .slice la l'.length lc, .slice oa o'.length oc] 39)).heap.size:=⟨by omega,by simp⟩
  have Hb2:=Lib.hid hb2
  have HD2:=Lib.hid hD2
  have HX2:=Lib.hid hX2
  have Hres:=Lib.hid hres
  have Hmv:=Lib.hid hmv
  have Hiv:=Lib.hid hiv
  have Hbv:=Lib.hid hbv
  have Hf2:=Lib.hid hf2
  have Ho:=Lib.hid ho
  have Hl:=Lib.hid hl
  have HXb:=Lib.hid hXb
  clear hb2 hD2 hX2 hres hmv hiv hbv hf2 ho hl hXb
  clear hRES
  go_upto_region 8 with(fail)
  generalize w2.alloc (.cells #[.int .i64 k', .bool b', .int .i64 n', .string t', .slice la l'.length lc, .slice oa o'.length oc] 39)=w3 at hD3 hR3 hX3 hF3 hge3 ⊢
  have HD3:=Lib.hid hD3
  have HR3:=Lib.hid hR3
  have HX3:=Lib.hid hX3
  have HF3:=Lib.hid hF3
  have Hge3:=Lib.hid hge3
  clear hD3 hR3 hX3 hF3 hge3
  go_cut [17] (fun s wx=>s= .int .i64 (numsE reqNs 2 (.mk k' b' n' t' l' o'))∧Hid (DQ w wx∧(numsE reqNs 2 (.mk k' b' n' t' l' o')=0→ ∃xc xk,objV' (.mk k' b' n' t' l' o')= [(kClient,xc),(kCookie,xk)]∧Blk wx (w.heap.size+1) 24 #[.int .u64 (u64I (intV' xc)), .int .u64 (u64I (intV' xk))])))
  case first=>
   refine wp_region_held_drew (S:=fun W=>W.cell? ⟨w2.heap.size,0,none⟩=some (.int .i64 k')∧W.cell? ⟨w2.heap.size,1,none⟩=some (.bool b')∧W.cell? ⟨w2.heap.size,2,none⟩=some (.int .i64 n')∧W.cell? ⟨w2.heap.size,3,none⟩=some (.string t')∧W.cell? ⟨w2.heap.size,4,none⟩=some (.slice la l'.length lc)∧W.cell? ⟨w2.heap.size,5,none⟩=some (.slice oa o'.length oc)) (by kernel_rfl) (vcell (Blk.drewQ HX3.out)) (fun hHeld=> ?_)
   refine wpAnyH_take (i:=0) (v:= ?_) rfl (by kernel_rfl) (by kernel_rfl) (by kernel_rfl) (fun _ _ _ h=>h) (Or.inl ⟨by kernel_rfl, ?_⟩) hHeld ?_
   rotate_left
   · intro X hSw
     obtain⟨s0,s1,s2,s3,s4,s5⟩:=hSw
     first|(go_simp;done)|(go_simp;with_reducible rfl)
   try simp only[Act.put,List.getElem_toArray,List.getElem_cons_zero,List.setIfInBounds_toArray,List.set_cons_zero,List.set_cons_succ]
   refine wpAnyH_take (i:=1) (v:= ?_) rfl (by kernel_rfl) (by kernel_rfl) (by kernel_rfl) (fun _ _ _ h=>h) (Or.inl ⟨by kernel_rfl, ?_⟩) hHeld ?_
   rotate_left
   · intro X hSw
     obtain⟨s0,s1,s2,s3,s4,s5⟩:=hSw
     first|(go_simp;done)|(go_simp;with_reducible rfl)
   try simp only[Act.put,List.getElem_toArray,List.getElem_cons_succ,List.getElem_cons_zero,List.setIfInBounds_toArray,List.set_cons_zero,List.set_cons_succ]
   refine wpAnyH_take (i:=3) (v:= ?_) rfl (by kernel_rfl) (by kernel_rfl) (by kernel_rfl) (fun _ _ _ h=>h) (Or.inl ⟨by kernel_rfl, ?_⟩) hHeld ?_
   rotate_left
   · intro X hSw
     obtain⟨s0,s1,s2,s3,s4,s5⟩:=hSw
     first|(go_simp;done)|(go_simp;with_reducible rfl)
   try simp only[Act.put,List.getElem_toArray,List.getElem_cons_succ,List.getElem_cons_zero,List.setIfInBounds_toArray,List.set_cons_zero,List.set_cons_succ]
   refine wpAnyH_ready (rs:= [2]) (by kernel_rfl) (by simp) ?_
   refine AllReadyH.cons rfl (fun K hK=> ?_) AllReadyH.nil
   · go_simp
     with_reducible refine(reqN_calls _ _).mono ?_
     rintro e w4 ⟨g,rfl,hge,hLk,hb⟩
     have hb':Below w3.heap.size w3 w4:=(Below.drew (Below.refl _ _)).trans hb
     have hge':w3.heap.size≤g:=hge
     refine hK.out _ _ (vcell (HX3.out.below hb' HX3.out.lt)) (fun hHeld=> ?_)
     clear hK K
     try simp only[Act.put,List.setIfInBounds_toArray,List.set_cons_zero,List.set_cons_succ]
     refine wpAnyH_ready (rs:= [4]) (by kernel_rfl) (by simp) ?_
     refine AllReadyH.cons rfl (fun K hK=> ?_) AllReadyH.nil
     go_simp
     with_reducible refine(others_calls _ _).mono ?_
     rintro e w4' ⟨rfl,rfl⟩
     refine hK.out _ _ (hHeld) (fun hHeld=> ?_)
     clear hK K
     try simp only[Act.put,List.setIfInBounds_toArray,List.set_cons_zero,List.set_cons_succ]
     refine wpAnyH_ready (rs:= [5]) (by kernel_rfl) (by simp) ?_
     refine AllReadyH.cons rfl (fun K hK=> ?_) AllReadyH.nil
     go_simp
     have hz4:=hb'.size
     with_reducible refine(fillQ_calls k' b' n' t' l' o' la lc oa oc (w.heap.size+1) w1.heap.size (.map (some g)) (.map none) (.int .u64 0) (.int .u64 0) w4 (HF3.out.later hb') HXb.out Ho.out Hl.out (fun W hW=>reqN_says (hLk.keep (hW.block g hLk.lt (by have:=Hge3.out;simp;omega)))) (fun W _=>says_none W) (HR3.out.below hb' HR3.out.lt)).mono ?_
     rintro e w5 ⟨hg5,rfl,hz5⟩
     have hD5:=(HD3.out.call hb').fill hg5
     have hx5:=(HX3.out.below hb' HX3.out.lt).grown hg5 (by have:=Hge3.out;simp;omega)
     refine hK.out _ _ (vcell hx5) (fun hHeld=> ?_)
     clear hK K
     try simp only[Act.put,List.setIfInBounds_toArray,List.set_cons_zero,List.set_cons_succ]
     refine wpAnyH_take (i:=6) (v:= ?_) rfl (by kernel_rfl) (by kernel_rfl) (by kernel_rfl) (fun _ _ _ h=>h) (Or.inl ⟨by kernel_rfl, ?_⟩) hHeld ?_
     rotate_left
     · intro X hSw
       obtain⟨s0,s1,s2,s3,s4,s5⟩:=hSw
       first|(go_simp;done)|(go_simp;with_reducible rfl)
     try simp only[Act.put,List.getElem_toArray,List.getElem_cons_succ,List.getElem_cons_zero,List.setIfInBounds_toArray,List.set_cons_zero,List.set_cons_succ]
     refine wpAnyH_done (by kernel_rfl) ?_ _
     have HG:=Lib.hid (And.intro hD5 hz5)
     clear hHeld hb hb' hLk hg5 hz5 hx5 hD5
     go_wp2
     go_meet
     exact⟨rfl,HG⟩
  case rest=>
   obtain⟨rfl,hG⟩:=hcut
   obtain⟨hDx,hzx⟩:=hG.out
   by_cases hnum:numsE reqNs 2 (.mk k' b' n' t' l' o')=0
   rotate_left
   · have tE:(numsE reqNs 2 (.mk k' b' n' t' l' o') != 0)=true:=by simpa using hnum
     have hres':=Hres.out.trans (reqOf_no hnum)
     generalize numsE reqNs 2 (.mk k' b' n' t' l' o')=x at tE hres'
     have r0:=hDx.res.cell 0
     have r1:=hDx.res.cell 1
     have x0:=hDx.nil.cell 0
     have x1:=hDx.nil.cell 1
     have fz:=hDx.res.frozen
     have lt1:=hDx.res.lt
     have lt2:=hDx.nil.lt
     have HDx:=Lib.hid hDx
     have Hres':=Lib.hid hres'
     clear hDx hres'
     clear hnum hG hzx
     go_upto_region 10 with(fail)
     repeat go_step
     have hxf:=(HDx.out.res.set_ 0 (.int .u64 0)).set_ 1 (.int .u64 0)
     have hbf:=setMany_below [.int .u64 0, .int .u64 0] HDx.out.below (Nat.le_refl w.heap.size) (o:=0)
     exact bodyPost_ret (results_req_t rfl rfl hxf) rfl ⟨by rw[Hres'.out];rfl,hbf⟩
   obtain⟨xc,xk,hov,hbx⟩:=hzx hnum
   have hres':=Hres.out.trans (reqOf_two hnum hov)
   rw[hnum]
   generalize u64I (intV' xc)=C at hbx hres'
   generalize u64I (intV' xk)=Kk at hbx hres'
   have hMay:=MayRequest_calls C Kk wc
   have q0:=hbx.cell 0
   have q1:=hbx.cell 1
   have ql:=hbx.lt
   have HDx:=Lib.hid hDx
   have Hbx:=Lib.hid hbx
   have Hres':=Lib.hid hres'
   have HMay:=Lib.hid hMay
   clear hDx hbx hres' hMay
   clear hnum hG hzx hov
   go_wp2_with (fail)
   with_reducible refine(HMay.out).mono ?_
   rintro e w6 ⟨rfl,hb6⟩
   have hD6:=HDx.out.call hb6
   have hb6x:=Hbx.out.below hb6 Hbx.out.lt
   have r0:=hD6.res.cell 0
   have r1:=hD6.res.cell 1
   have x0:=hD6.nil.cell 0
   have x1:=hD6.nil.cell 1
   have y0:=hb6x.cell 0
   have y1:=hb6x.cell 1
   have fz:=hD6.res.frozen
   have lt1:=hD6.res.lt
   have lt2:=hD6.nil.lt
   have lt3:=hb6x.lt
   by_cases hm:mayReq C Kk=0
   · have hres2:=Hres'.out
     rw[if_pos hm]at hres2
     rw[hm]
     have HD6:=Lib.hid hD6
     have Hres2:=Lib.hid hres2
     have Hb6x:=Lib.hid hb6x
     clear hD6 hres2 hb6x
     clear q0 q1 ql hm hb6
     go_upto_region 14 with(fail)
     repeat go_step
     have hxf:=(HD6.out.res.set_ 0 (.int .u64 C)).set_ 1 (.int .u64 Kk)
     have hbf:=setMany_below [.int .u64 C, .int .u64 Kk] HD6.out.below (Nat.le_refl w.heap.size) (o:=0)
     exact bodyPost_ret (results_req_t rfl rfl hxf) rfl ⟨by rw[Hres2.out];rfl,hbf⟩
   · have tE:(mayReq C Kk != 0)=true:=by simpa using hm
     have hres2:=Hres'.out
     rw[if_neg hm]at hres2
     generalize mayReq C Kk=x at tE hres2
     have HD6:=Lib.hid hD6
     have Hres2:=Lib.hid hres2
     have Hb6x:=Lib.hid hb6x
     clear hD6 hres2 hb6x
     clear q0 q1 ql hm hb6
     go_upto_region 13 with(fail)
     repeat go_step
     have hxf:=(HD6.out.res.set_ 0 (.int .u64 0)).set_ 1 (.int .u64 0)
     have hbf:=setMany_below [.int .u64 0, .int .u64 0] HD6.out.below (Nat.le_refl w.heap.size) (o:=0)
     exact bodyPost_ret (results_req_t rfl rfl hxf) rfl ⟨by rw[Hres2.out];rfl,hbf⟩
set_option maxRecDepth 100000 in
set_option maxHeartbeats 2000000 in
theorem decodeReq_calls (l:List UInt8) (a:Option Addr) (n c:Nat) (w:World) (hT:Tabs w) (hNT:NumT w) (h:Holds w w.heap.size (.row 1 (dB l)) [.slice a n c]) (hc:n≤c) (hl:l.length≤100000000):
 Calls Tryz.prog 10 #[.slice a n c] w (DecPostQ l w):=by
 obtain⟨w0,hw0⟩: ∃w0,w.alloc (.cells #[.int .u64 0, .int .u64 0] 24)=w0:=⟨_,rfl⟩
 have hb0:Below w.heap.size w w0:=hw0▸alloc_below _ _
 have hR:Blk w0 w.heap.size 24 #[.int .u64 0, .int .u64 0]:=hw0▸Blk.new w _ _
 have hB:=decodeQ_calls l a n c w0 (hT.below hb0) (hNT.below hb0) ((h.below hb0).more hb0.size) hc hl
 have HB:=Lib.hid hB
 have Hb0:=Lib.hid hb0
 have HR:=Lib.hid hR
 have H:=Lib.hid h
 clear hB hb0 hR h
 go_enter Tryz.func10,Tryz.ntmps10
 go_upto_region 1 with(fail)
 clear hw0
 go_wp2_with (fail)
 with_reducible refine(HB.out).mono ?_
 rintro e w1 ⟨rfl,hb1⟩
 have hw1:=Hb0.out.trans (hb1.mono Hb0.out.size)
 have hR1:=HR.out.below hb1 HR.out.lt
 have r0:=hR1.cell 0
 have r1:=hR1.cell 1
 have fz:=hR1.frozen
 have lt1:=hR1.lt
 generalize hd:decReq l=dr
 obtain⟨dx,dc,dk⟩:=dr
 have Hb1:=Lib.hid hb1
 have Hw1:=Lib.hid hw1
 have HR1:=Lib.hid hR1
 have Hd:=Lib.hid hd
 clear hb1 hw1 hR1 hd
 dsimp only
 repeat go_step
 have hxf:=(HR1.out.set_ 0 (.int .u64 dc)).set_ 1 (.int .u64 dk)
 have hbf:=setMany_below [.int .u64 dc, .int .u64 dk] Hw1.out (Nat.le_refl w.heap.size) (o:=0)
 exact bodyPost_ret (results_req_t rfl rfl hxf) rfl ⟨by rw[Hd.out];rfl,hbf⟩
end Go.Proofs.YtackmnbpfbaemaaGreatDoor

namespace Go.Proofs.YtackmnbpfbaemaaGreatDoor
open Go Go.RowKit
theorem text_bulk {v:Val} (hm:mayV v 1=0) (hi:inV v): ∀v' q,exactL (bodyB (sealL (3::textV v)))= .ok v' q→v'=v:=by
 intro v' q h
 rw[bodyB_seal,exactL_text hm hi]at h
 injection h with h1
 exact h1.symm
theorem back_facts {c b k s:Int} {l:List POp} (h0:0≤c∧0≤b∧0≤k∧0≤s) (hm:mayResp c b k s l=0) (hb:bulkQ l≤1100000) (hin:inQ l):
 ∃M:List UInt8,sealL (3::textV (ov (respO c b k s l)))=M∧M.length≤100000000∧(∀v q,exactL (bodyB M)= .ok v q→v.bulk≤24000000)∧decResp M=(0,c,b,k,s,l)∧decReq M=(13,0,0):=by
 obtain⟨⟨g0,g1,g2,g3,g4⟩,g5⟩:=resp_small hm
 have hmv:=may_resp c b k s g5
 have hiv:inV (ov (respO c b k s l)):=in_resp (by omega) g1 h0.2.2.1 g3 h0.2.1 g2 h0.2.2.2 g4 hin
 have hbv:bulkO (respO c b k s l)≤16000000:=by
  have e0:kBase.size=4:=rfl
  have e1:kClient.size=6:=rfl
  have e2:kCookie.size=6:=rfl
  have e3:kLast.size=4:=rfl
  have e4:kPatch.size=5:=rfl
  have h1:=bulk_listQ l
  have h2:=bulkQ_len l
  simp only[respO,bulkO,bulkP,bulk_iv,e0,e1,e2,e3,e4];omega
 have hbo:(ov (respO c b k s l)).bulk≤16000010:=by simp only[ov,Val.bulk,bulkL];have:nil0.size=0:=rfl;omega
 have hln:=textV_len _ (okV_of _ 1 hmv hiv)
 have hl:mayV (listQ l) 1=0:=may_listQ (mayOps_all g5) (by omega)
 refine⟨_,rfl, ?_,fun v q h=> ?_, ?_,decReq_answer _⟩
 · rw[sealL_len,List.length_cons];omega
 · rw[text_bulk hmv hiv v q h]
   omega
 · exact decResp_frame h0.2.1 h0.2.2.1 h0.2.2.2 hm hl hmv hiv
end Go.Proofs.YtackmnbpfbaemaaGreatDoor

namespace Go.Proofs.YtackmnbpfbaemaaGreatDoor
open Go Go.RowKit
set_option maxRecDepth 100000 in
set_option maxHeartbeats 8000000 in
theorem PullBack_law (c b k s:Int) (l:List POp) (L:List UInt8) (h0:0≤c∧0≤b∧0≤k∧0≤s) (a:Option Addr) (n cc:Nat) (aB:Option Addr) (nB cB:Nat) (w:World) (hT:Tabs w) (hN:Names w) (hNT:NumT w) (h:Holds w w.heap.size (.row 8 (dQs l)) [.slice a n cc]) (hB:Holds w w.heap.size (.row 1 (dB L)) [.slice aB nB cB]) (hb:bulkQ l≤1100000) (hin:inQ l) (hL:L.length≤1100000):
 Calls Tryz.prog 6 #[.agg #[.int .u64 c, .int .u64 b, .int .u64 k, .int .u64 s, .slice a n cc], .slice aB nB cB] w fun e w'=>e= .returned (.bool true)∧Below w.heap.size w w':=by
 have h3:=fun(W:World) hB=>RMayResponse_calls c b k s h0.1 l a n cc W (hT.below (w':=W) hB) ((h.below hB).more hB.size) (by omega) hin
 obtain⟨wi,hwi⟩: ∃wi,w.alloc (.cells #[.int .u64 c, .int .u64 b, .int .u64 k, .int .u64 s, .slice a n cc] 47)=wi:=⟨_,rfl⟩
 have hxb:Blk wi w.heap.size 47 #[.int .u64 c, .int .u64 b, .int .u64 k, .int .u64 s, .slice a n cc]:=hwi▸Blk.new _ _ _
 have hbi:Below w.heap.size w wi:=hwi▸alloc_below _ _
 have d0:=hxb.cell 0
 have d1:=hxb.cell 1
 have d2:=hxb.cell 2
 have d3:=hxb.cell 3
 have d4:=hxb.cell 4
 have g0:=hxb.lt
 have H3:=Lib.hid h3
 have Hxb:=Lib.hid hxb
 have Hbi:=Lib.hid hbi
 have HT:=Lib.hid hT
 have HN:=Lib.hid hN
 have H:=Lib.hid h
 have HNT:=Lib.hid hNT
 have HB:=Lib.hid hB
 clear h3 hxb hbi hT hN h hNT hB
 go_enter Tryz.func6,Tryz.ntmps6
 go_upto_region 1 with(fail)
 clear hwi
 go_wp2_with (fail)
 refine(H3.out _ Hbi.out).mono ?_
 rintro e w1 ⟨rfl,hb1⟩
 have hw1:=Hbi.out.trans (hb1.mono Hbi.out.size)
 have hx1:=Hxb.out.below hb1 Hxb.out.lt
 have Hb1:=Lib.hid hb1
 have Hw1:=Lib.hid hw1
 have Hx1:=Lib.hid hx1
 clear hb1 hw1 hx1
 clear d0 d1 d2 d3 d4 g0
 go_upto_if 21 with(fail)
 go_cut [] (fun wx=>Hid (Below w.heap.size w wx))
 case first=>
  by_cases hm:mayResp c b k s l=0
  rotate_left
  · have e1:(mayResp c b k s l==0)=false:=by simpa using hm
    clear hm
    go_wp2
    go_meet
    exact Hw1
  obtain⟨M,hM,hMl,hMv,hMd,hMq⟩:=back_facts h0 hm hb hin
  have h1:=fun(W:World) hB=>answer_calls c b k s l a n cc W ((H.out.below (w':=W) hB).more hB.size) (by omega)
  have h2:=fun(W:World) hB a' n' c' hh=>encResp_calls c b k s l ⟨h0.2.1,h0.2.2.1,h0.2.2.2⟩ hm a' n' c' W (HT.out.below (w':=W) hB) (HN.out.below hB) hh (by omega) hin
  rw[hM]at h2
  have h4:=fun(W:World) a n cc hB hh hc=>decodeResp_calls M a n cc W (HT.out.below (w':=W) hB) (HNT.out.below hB) hh hc hMl hMv
  have h5:=fun(W:World) a n cc hB hh hc=>decodeReq_calls M a n cc W (HT.out.below (w':=W) hB) (HNT.out.below hB) hh hc hMl
  unfold DecPostR at h4
  unfold DecPostQ at h5
  simp only[hMd]at h4
  simp only[hMq]at h5
  rw[hm]
  obtain⟨d0,d1,d2,d3,d4⟩:w1.cell? ⟨w.heap.size,0,none⟩=some (.int .u64 c)∧w1.cell? ⟨w.heap.size,1,none⟩=some (.int .u64 b)∧w1.cell? ⟨w.heap.size,2,none⟩=some (.int .u64 k)∧w1.cell? ⟨w.heap.size,3,none⟩=some (.int .u64 s)∧w1.cell? ⟨w.heap.size,4,none⟩=some (.slice a n cc):=⟨Hx1.out.cell 0,Hx1.out.cell 1,Hx1.out.cell 2,Hx1.out.cell 3,Hx1.out.cell 4⟩
  have g0:=Hx1.out.lt
  have hSm:=fun(W:World) (hB:Below w.heap.size w W) a' n' c' hh=>sameR_calls c b k s c b k s l l a' a n' c' n cc W hh ((H.out.below hB).more hB.size) (by omega) (by omega)
  have H1:=Lib.hid h1
  have H2:=Lib.hid h2
  have H4:=Lib.hid h4
  have H5:=Lib.hid h5
  have HSm:=Lib.hid hSm
  clear h1 h2 h4 h5 hSm
  clear hm hM hMl hMv hMd hMq
  go_wp2_with (fail)
  refine(H1.out _ Hw1.out).mono ?_
  rintro e w2 ⟨hb2,a1,c1,rfl,hf2⟩
  have hw2:=Hw1.out.trans (hb2.mono Hw1.out.size)
  go_wp2_with (fail)
  refine(H2.out _ hw2 _ _ _ hf2.now).mono ?_
  rintro e w3 ⟨a3,c3,rfl,hf3,hb3⟩
  have hw3:=hw2.trans (hb3.mono hw2.size)
  go_wp2_with (fail)
  refine(H4.out _ _ _ _ hw3 hf3.now (by omega)).mono ?_
  rintro e w4 ⟨hb4,hr4⟩
  rw[if_neg (fun h=>h rfl)]at hr4
  obtain⟨a4,c4,rfl,hf4⟩:=hr4
  have hw4:=hw3.trans (hb4.mono hw3.size)
  have hA4:=hw4.alloc hw4.size (.cells #[.int .u64 c, .int .u64 b, .int .u64 k, .int .u64 s, .slice a4 l.length c4] 47)
  have hf34:=(hf3.later hb4).later (alloc_below w4 (.cells #[.int .u64 c, .int .u64 b, .int .u64 k, .int .u64 s, .slice a4 l.length c4] 47))
  go_wp2_with (fail)
  refine(H5.out _ _ _ _ hA4 hf34.now (by omega)).mono ?_
  rintro e w5 ⟨rfl,hb5⟩
  have hA5:=hA4.trans (hb5.mono hA4.size)
  have hA6:=hA5.alloc hA5.size (.cells #[.int .u64 0, .int .u64 0] 24)
  have hxx:=((Blk.new w4 47 #[.int .u64 c, .int .u64 b, .int .u64 k, .int .u64 s, .slice a4 l.length c4]).below hb5 (Blk.lt (Blk.new _ _ _))).alloc (.cells #[.int .u64 0, .int .u64 0] 24)
  have hb15:Below w1.heap.size w1 (w5.alloc (.cells #[.int .u64 0, .int .u64 0] 24)):=(((((hb2.trans (hb3.mono hb2.size)).trans (hb4.mono (Nat.le_trans hb2.size hb3.size))).alloc (Nat.le_trans (Nat.le_trans hb2.size hb3.size) hb4.size) (.cells #[.int .u64 c, .int .u64 b, .int .u64 k, .int .u64 s, .slice a4 l.length c4] 47)).trans (hb5.mono (by have:=hb2.size;have:=hb3.size;have:=hb4.size;simp;omega))).alloc (by have:=hb2.size;have:=hb3.size;have:=hb4.size;have:=hb5.size;simp at this;omega) (.cells #[.int .u64 0, .int .u64 0] 24))
  have hrr:=Hx1.out.below hb15 g0
  have hf45:=(((hf4.later (alloc_below w4 (.cells #[.int .u64 c, .int .u64 b, .int .u64 k, .int .u64 s, .slice a4 l.length c4] 47))).later hb5).later (alloc_below w5 (.cells #[.int .u64 0, .int .u64 0] 24)))
  obtain⟨p0,p1,p2,p3,p4⟩:(w5.alloc (.cells #[.int .u64 0, .int .u64 0] 24)).cell? ⟨w4.heap.size,0,none⟩=some (.int .u64 c)∧(w5.alloc (.cells #[.int .u64 0, .int .u64 0] 24)).cell? ⟨w4.heap.size,1,none⟩=some (.int .u64 b)∧(w5.alloc (.cells #[.int .u64 0, .int .u64 0] 24)).cell? ⟨w4.heap.size,2,none⟩=some (.int .u64 k)∧(w5.alloc (.cells #[.int .u64 0, .int .u64 0] 24)).cell? ⟨w4.heap.size,3,none⟩=some (.int .u64 s)∧(w5.alloc (.cells #[.int .u64 0, .int .u64 0] 24)).cell? ⟨w4.heap.size,4,none⟩=some (.slice a4 l.length c4):=⟨hxx.cell 0,hxx.cell 1,hxx.cell 2,hxx.cell 3,hxx.cell 4⟩
  obtain⟨r0,r1,r2,r3,r4⟩:(w5.alloc (.cells #[.int .u64 0, .int .u64 0] 24)).cell? ⟨w.heap.size,0,none⟩=some (.int .u64 c)∧(w5.alloc (.cells #[.int .u64 0, .int .u64 0] 24)).cell? ⟨w.heap.size,1,none⟩=some (.int .u64 b)∧(w5.alloc (.cells #[.int .u64 0, .int .u64 0] 24)).cell? ⟨w.heap.size,2,none⟩=some (.int .u64 k)∧(w5.alloc (.cells #[.int .u64 0, .int .u64 0] 24)).cell? ⟨w.heap.size,3,none⟩=some (.int .u64 s)∧(w5.alloc (.cells #[.int .u64 0, .int .u64 0] 24)).cell? ⟨w.heap.size,4,none⟩=some (.slice a n cc):=⟨hrr.cell 0,hrr.cell 1,hrr.cell 2,hrr.cell 3,hrr.cell 4⟩
  have pl:=hxx.lt
  have rl:=hrr.lt
  have HA6:=Lib.hid hA6
  have Hxx:=Lib.hid hxx
  have Hrr:=Lib.hid hrr
  have Hf45:=Lib.hid hf45
  have HA5:=Lib.hid hA5
  have HA4:=Lib.hid hA4
  have Hb15:=Lib.hid hb15
  clear hA6 hxx hrr hf45 hA5 hA4 hb15
  clear hb2 hb3 hb4 hb5 hf2 hf3 hf34 hf4 d0 d1 d2 d3 d4
  go_upto_region 5 with(fail)
  generalize w5.alloc (.cells #[.int .u64 0, .int .u64 0] 24)=w6 at HA6 Hxx Hrr Hf45 Hb15 p0 p1 p2 p3 p4 r0 r1 r2 r3 r4 pl rl ⊢
  go_wp2_with (fail)
  refine(HSm.out _ HA6.out _ _ _ Hf45.out.now).mono ?_
  rintro e w7 ⟨B,rfl,hBB,hb7⟩
  obtain rfl:B=true:=hBB.2 (by simp)
  have hw7:=HA6.out.trans (hb7.mono HA6.out.size)
  have Hw7:=Lib.hid hw7
  clear hw7
  clear hb7 hBB
  go_wp2
  go_meet
  exact Hw7
 case rest=>
  clear H3 Hxb Hb1 Hx1 Hw1 Hbi
  have h6:=fun(W:World) hB=>known18_calls W (HT.out.below (w':=W) hB) (HN.out.below hB)
  have h1:=fun(W:World) hB=>own18_calls L aB nB cB W ((HB.out.below (w':=W) hB).more hB.size) (by omega)
  have h2:=fun(W:World) a n cc hB hh hc=>decodeReq_calls L a n cc W (HT.out.below (w':=W) hB) (HNT.out.below hB) hh hc (by omega)
  have h4:=fun(W:World) a n cc hB hh hc=>decodeResp_calls L a n cc W (HT.out.below (w':=W) hB) (HNT.out.below hB) hh hc (by omega) (read_bulk hL)
  have h7:=fun(W:World) a n c hB h=>same_calls L L a aB n c nB cB true W h ((HB.out.below (w':=W) hB).more hB.size) (by omega) (by omega) (by simp)
  unfold DecPostQ at h2
  unfold DecPostR at h4
  have back1:(decReq L).1=0→(decResp L).1≠0:=dec_one
  have back2:=fun c k=>decReq_back (b:=L) (c:=c) (k:=k)
  have back3:=fun c b k s l=>decResp_back (B:=L) (c:=c) (b:=b) (k:=k) (s:=s) (l:=l)
  have back4:=fun c b k s l=>resp_read (L:=L) (c:=c) (b:=b) (k:=k) (s:=s) (l:=l)
  rcases hq:decReq L with⟨e1,qc,qk⟩
  rcases hr:decResp L with⟨f1,rc,rb,rk,rs,rl⟩
  simp only[hq]at h2 back1 back2
  simp only[hr]at h4 back1 back3 back4
  clear hq hr
  have H1:=Lib.hid h1
  have H2:=Lib.hid h2
  have H4:=Lib.hid h4
  have H6:=Lib.hid h6
  have H7:=Lib.hid h7
  have Hcut:=Lib.hid hcut
  clear h1 h2 h4 h6 h7 hcut
  have Back1:=Lib.hid back1
  have Back2:=Lib.hid back2
  have Back3:=Lib.hid back3
  have Back4:=Lib.hid back4
  clear back1 back2 back3 back4
  go_wp2_with (fail)
  refine(H1.out _ Hcut.out).mono ?_
  rintro e w2 ⟨a2,c2,rfl,hf2,hb2⟩
  have hw2:=Hcut.out.trans (hb2.mono Hcut.out.size)
  go_wp2_with (fail)
  refine(H2.out _ _ _ _ hw2 hf2.now (by omega)).mono ?_
  rintro e w3 ⟨rfl,hb3⟩
  have hw3:=hw2.trans (hb3.mono hw2.size)
  have hx3:Blk (w3.alloc (.cells #[.int .u64 qc, .int .u64 qk] 24)) w3.heap.size 24 #[.int .u64 qc, .int .u64 qk]:=Blk.new _ _ _
  have hw3a:Below w.heap.size w (w3.alloc (.cells #[.int .u64 qc, .int .u64 qk] 24)):=hw3.alloc hw3.size _
  clear hb2 hb3 hf2
  go_wp2_with (fail)
  refine(H1.out _ hw3a).mono ?_
  rintro e w4 ⟨a4,c4,rfl,hf4,hb4⟩
  have hw4:=hw3a.trans (hb4.mono hw3a.size)
  have hx4:=hx3.below hb4 hx3.lt
  go_wp2_with (fail)
  refine(H4.out _ _ _ _ hw4 hf4.now (by omega)).mono ?_
  rintro e w5 ⟨hb5,hr5⟩
  have hw5:=hw4.trans (hb5.mono hw4.size)
  have hx5:=hx4.below hb5 hx4.lt
  clear hx3 hx4 hw4 hw3a hw3 hw2 hf4 hb4
  by_cases hf1:f1≠0
  rotate_left
  · have hf0:f1=0:=by simpa using hf1
    have he1:e1≠0:=fun h=>Back1.out h hf0
    rw[if_neg hf1]at hr5
    obtain⟨a5,c5,rfl,hf5⟩:=hr5
    obtain⟨hLr,hmr,hrb,hrk,hrs,_⟩:=Back3.out _ _ _ _ _ (by rw[hf0])
    obtain⟨hbl,hinl⟩:=Back4.out _ _ _ _ _ (by rw[hf0])
    obtain⟨⟨g1,g2,g3,g4,g5⟩,_⟩:=resp_small hmr
    have h8:=fun(W:World) hB a n cc hh=>encResp_calls rc rb rk rs rl ⟨hrb,hrk,hrs⟩ hmr a n cc W (HT.out.below (w':=W) hB) (HN.out.below hB) hh (by omega) hinl
    rw[←hLr]at h8
    have h9:=fun(W:World) hB a n cc hh=>RMayResponse_calls rc rb rk rs (by omega) rl a n cc W (HT.out.below (w':=W) hB) hh (by omega) hinl
    rw[hmr]at h9
    have e1:(e1==0)=false:=by simpa using he1
    have hw6:=hw5.alloc hw5.size (.cells #[.int .u64 rc, .int .u64 rb, .int .u64 rk, .int .u64 rs, .slice a5 rl.length c5] 47)
    have hx6:Blk (w5.alloc (.cells #[.int .u64 rc, .int .u64 rb, .int .u64 rk, .int .u64 rs, .slice a5 rl.length c5] 47)) w5.heap.size 47 #[.int .u64 rc, .int .u64 rb, .int .u64 rk, .int .u64 rs, .slice a5 rl.length c5]:=Blk.new _ _ _
    have hf6:=hf5.later (alloc_below w5 (.cells #[.int .u64 rc, .int .u64 rb, .int .u64 rk, .int .u64 rs, .slice a5 rl.length c5] 47))
    obtain⟨w6,hw6e⟩: ∃w6,w5.alloc (.cells #[.int .u64 rc, .int .u64 rb, .int .u64 rk, .int .u64 rs, .slice a5 rl.length c5] 47)=w6:=⟨_,rfl⟩
    rw[hw6e]at hw6 hx6 hf6
    have d0:=hx6.cell 0
    have d1:=hx6.cell 1
    have d2:=hx6.cell 2
    have d3:=hx6.cell 3
    have d4:=hx6.cell 4
    have g0:=hx6.lt
    have H8:=Lib.hid h8
    have H9:=Lib.hid h9
    have Hw6:=Lib.hid hw6
    have Hx6:=Lib.hid hx6
    have Hf6:=Lib.hid hf6
    clear h8 h9 hw6 hx6 hf6
    clear hLr hmr hbl hinl g1 g2 g3 g4 g5 hrb hrk hrs hf1 he1 hf0 hf5 hx5 hb5 hw5
    go_wp2_with (fail)
    clear hw6e
    refine(H8.out _ Hw6.out _ _ _ Hf6.out.now).mono ?_
    rintro e w7 ⟨a7,c7,rfl,hf7,hb7⟩
    have hw7:=Hw6.out.trans (hb7.mono Hw6.out.size)
    have hx7:=Hx6.out.below hb7 g0
    have p0:=hx7.cell 0
    have p1:=hx7.cell 1
    have p2:=hx7.cell 2
    have p3:=hx7.cell 3
    have p4:=hx7.cell 4
    have pl:=hx7.lt
    have hf67:=Hf6.out.later hb7
    clear d0 d1 d2 d3 d4
    have Hx7:=Lib.hid hx7
    have Hb7:=Lib.hid hb7
    clear hx7 hb7
    go_wp2_with (fail)
    refine(H9.out _ hw7 _ _ _ hf67.now).mono ?_
    rintro e w8 ⟨rfl,hb8⟩
    have hw8:=hw7.trans (hb8.mono hw7.size)
    have hf8:=hf7.later hb8
    clear p0 p1 p2 p3 p4
    go_wp2_with (fail)
    refine(H7.out _ _ _ _ hw8 hf8.now).mono ?_
    rintro e w9 ⟨rfl,hb9⟩
    have hw9:=hw8.trans (hb9.mono hw8.size)
    go_wp2_with (fail)
    refine(H6.out _ hw9).mono ?_
    rintro e w10 ⟨rfl,hb10⟩
    have hw10:=hw9.trans (hb10.mono hw9.size)
    go_wp2
    go_ret
    exact⟨rfl,hw10⟩
  rw[if_pos hf1]at hr5
  subst hr5
  by_cases he1:e1=0
  · subst he1
    obtain⟨hLq,hmq,hqk⟩:=Back2.out _ _ rfl
    obtain⟨y1,y2,y3⟩:0<qc∧qc≤4611686018427387903∧qk≤4611686018427387903:=by
     unfold mayReq at hmq
     split at hmq
     · assumption
     · cases hmq
    have h8:=fun(W:World) hB=>encReq_calls qc qk y1 y2 hqk y3 W (HT.out.below (w':=W) hB)
    rw[←hLq]at h8
    have hw6:=hw5.alloc hw5.size (.cells #[.int .u64 0, .int .u64 0, .int .u64 0, .int .u64 0, .slice none 0 0] 47)
    have hx6:=hx5.alloc (.cells #[.int .u64 0, .int .u64 0, .int .u64 0, .int .u64 0, .slice none 0 0] 47)
    have d0:=hx6.cell 0
    have d1:=hx6.cell 1
    have g0:=hx6.lt
    have H8:=Lib.hid h8
    have Hw6:=Lib.hid hw6
    have Hx6:=Lib.hid hx6
    clear h8 hw6 hx6
    clear hLq hmq y1 y2 y3 hqk hx5 hb5 hw5
    go_wp2_with (fail)
    refine(H8.out _ Hw6.out).mono ?_
    rintro e w7 ⟨a7,c7,rfl,hf7,hb7⟩
    have hw7:=Hw6.out.trans (hb7.mono Hw6.out.size)
    go_wp2_with (fail)
    refine(H7.out _ _ _ _ hw7 hf7.now).mono ?_
    rintro e w8 ⟨rfl,hb8⟩
    have hw8:=hw7.trans (hb8.mono hw7.size)
    go_wp2_with (fail)
    refine(H6.out _ hw8).mono ?_
    rintro e w9 ⟨rfl,hb9⟩
    have hw9:=hw8.trans (hb9.mono hw8.size)
    go_wp2
    go_ret
    exact⟨rfl,hw9⟩
  have t1:(e1==0)=false:=by simpa using he1
  have t2:(f1==0)=false:=by simpa using hf1
  have hw6:=hw5.alloc hw5.size (.cells #[.int .u64 0, .int .u64 0, .int .u64 0, .int .u64 0, .slice none 0 0] 47)
  clear he1 hf1 hb5 hx5
  have Hw6:=Lib.hid hw6
  clear hw6
  go_wp2_with (fail)
  refine(H6.out _ Hw6.out).mono ?_
  rintro e w9 ⟨rfl,hb9⟩
  have hw9:=Hw6.out.trans (hb9.mono Hw6.out.size)
  go_wp2
  go_ret
  exact⟨rfl,hw9⟩
end Go.Proofs.YtackmnbpfbaemaaGreatDoor
