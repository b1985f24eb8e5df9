/- Parts, joined: pull.DecodeRequest: which pull's frame bytes are, or why of none. Condition: at most 10^8 bytes. -/
import Derived.Test.YtackmnbpfbaemaaGreatDoorProg
import Derived.Test.YtackmnbpfbaemaaGreatDoorKAs23
import Derived.Test.YtackmnbpfbaemaaGreatDoorKAs25
import Derived.Test.YtackmnbpfbaemaaGreatDoorKAs34
import Derived.Test.YtackmnbpfbaemaaGreatDoorKAs41
import Derived.Test.YtackmnbpfbaemaaGreatDoorKAs42
namespace Go.Proofs.YtackmnbpfbaemaaGreatDoor
open Go Go.RowKit
theorem results_req_t {fn:Func} {t u:Tmp} {tmps:Array Value} {W:World} {R:Nat} {a0 a1:Value} (h:fn.results= #[.cell t 24, .tmp u]) (hp:tmps.getD t undef= .pointer (some ⟨R,0,none⟩)) (hx:Blk W R 24 #[a0,a1]):
 (results fn tmps).run Tryz.prog W= .ok (.tuple #[.agg #[a0,a1],tmps.getD u undef]) W:=by
 have c0:=hx.cell 0
 have c1:=hx.cell 1
 clear hx
 have hp':tmps[t]?.getD undef= .pointer (some ⟨R,0,none⟩):=by simpa using hp
 simp[results,h,hp',go_sem,c0,c1]
def DecPostQ (l:List UInt8) (w:World) (e:Ending) (w':World):Prop:=e= .returned (.tuple #[.agg #[.int .u64 (decReq l).2.1, .int .u64 (decReq l).2.2], .int .i64 (decReq l).1])∧Below w.heap.size w w'
theorem others_calls (v:Value) (w:World):Calls Tryz.prog 28 #[v] w fun e w'=>e= .returned (.map none)∧w=w':=by
 go_enter Tryz.func28,Tryz.ntmps28
 go_wp2
 go_ret
 exact⟨rfl,rfl⟩
theorem reqN_says {g:Nat} {W:World} {X:Nat} (h:LookIs W g 2 (reqNF X)):Says 101 (.map (some g)) 2 (fun k=> .pointer (npQ X k)) W:=by
 have:=says_nums h
 have e:(fun k=>(reqNF X k).getD (.pointer none))=fun k=> .pointer (npQ X k):=by
  funext k
  unfold reqNF npQ offQ
  by_cases h0:k=kClient
  · rw[if_pos h0,if_pos h0];rfl
  · rw[if_neg h0,if_neg h0]
    by_cases h1:k=kCookie
    · rw[if_pos h1,if_pos h1];rfl
    · rw[if_neg h1,if_neg h1];rfl
 rwa [e]at this
structure DQ (w wr:World):Prop where
 below:Below w.heap.size w wr
 res:Blk wr w.heap.size 24 #[.int .u64 0, .int .u64 0]
 nil:Blk wr (w.heap.size+1+1) 24 #[.int .u64 0, .int .u64 0]
theorem DQ.call {w wr w':World} (h:DQ w wr) (hb:Below wr.heap.size wr w'):DQ w w':=
 ⟨h.below.trans (hb.mono h.below.size),h.res.below hb h.res.lt,h.nil.below hb h.nil.lt⟩
theorem DQ.fill {w wr w':World} (h:DQ w wr) (hg:wr.grownBy w' (some (w.heap.size+1))):DQ w w':=
 ⟨h.below.grown hg h.below.size (fun k e=>by cases e;omega),h.res.grown hg (by simp),h.nil.grown hg (by simp)⟩
theorem Blk.drewQ {w:World} {g:Nat} {t:TypeId} {cs:Array Value} (h:Blk w g t cs):Blk w.drew g t cs:=h
theorem asc_may {k':Int} {b':Bool} {n':Int} {t':ByteArray} {l':List Val} {o':List (ByteArray×Val)} (h:mayV (.mk k' b' n' t' l' o') 1=0):ascO o':=(mayO_rise (mayV_parts h).2.2.2.2).1
theorem decQ_body {l:List UInt8} (h:bodyE 2 l≠0):decReq l=(bodyE 2 l,0,0):=by
 unfold decReq
 rw[if_pos h]
theorem decQ_bad {l:List UInt8} {x:Int} {q:Nat} (h:bodyE 2 l=0) (hx:exactL (bodyB l)= .bad x q):decReq l=(x,0,0):=by
 unfold decReq
 rw[if_neg (by omega),hx]
theorem decQ_ok {l:List UInt8} {v:Val} {q:Nat} (h:bodyE 2 l=0) (hx:exactL (bodyB l)= .ok v q):decReq l=reqOf v:=by
 unfold decReq
 rw[if_neg (by omega),hx]
theorem reqOf_no {v:Val} (h:numsE reqNs 2 v≠0):reqOf v=(numsE reqNs 2 v,0,0):=by
 unfold reqOf
 rw[if_pos h]
theorem reqOf_two {v xc xk:Val} (h:numsE reqNs 2 v=0) (ho:objV' v= [(kClient,xc),(kCookie,xk)]):reqOf v=if mayReq (u64I (intV' xc)) (u64I (intV' xk))=0 then(0,u64I (intV' xc),u64I (intV' xk))else(mayReq (u64I (intV' xc)) (u64I (intV' xk)),0,0):=by
 unfold reqOf
 rw[if_neg (show ¬numsE [kClient,kCookie] 2 v≠0 from fun h'=>h' h)]
 have:numsL 2 v= [u64I (intV' xc),u64I (intV' xk)]:=by unfold numsL;rw[ho];rfl
 rw[this]
set_option maxRecDepth 100000 in
set_option maxHeartbeats 8000000 in
theorem decodeQ_calls (l:List UInt8) (a:Option Addr) (n c:Nat) (w:World) (hT:Tabs w) (hNT:NumT w) (h:Holds w w.heap.size (.row 1 (dB l)) [.slice a n c]) (hc:n≤c) (hl:l.length≤10000000):
 Calls Tryz.prog 26 #[.int .u8 2, .slice a n c, .func (.func 27) #[] #[], .func (.func 28) #[] #[], .func (.func 23) #[] #[]] w (DecPostQ l w):=by
 obtain⟨w0,hw0⟩: ∃w0,((w.alloc (.cells #[.int .u64 0, .int .u64 0] 24)).alloc (.cells #[.int .u64 0, .int .u64 0] 24)).alloc (.cells #[.int .u64 0, .int .u64 0] 24)=w0:=⟨_,rfl⟩
 have hz0:w0.heap.size=w.heap.size+3:=by rw[←hw0];simp
 have hb0:Below w.heap.size w w0:=hw0▸(((Below.refl _ _).alloc (Nat.le_refl _) _).alloc (by simp) _).alloc (by simp;omega) _
 have hD0:DQ w w0:=⟨hb0,hw0▸((Blk.new w _ _).alloc _).alloc _,hw0▸by simpa using Blk.new ((w.alloc (.cells #[.int .u64 0, .int .u64 0] 24)).alloc (.cells #[.int .u64 0, .int .u64 0] 24)) 24 #[.int .u64 0, .int .u64 0]⟩
 have hX0:Blk w0 (w.heap.size+1) 24 #[.int .u64 0, .int .u64 0]:=hw0▸by simpa using(Blk.new (w.alloc (.cells #[.int .u64 0, .int .u64 0] 24)) 24 #[.int .u64 0, .int .u64 0]).alloc (.cells #[.int .u64 0, .int .u64 0] 24)
 have hB:Calls Tryz.prog 49 #[.int .u8 2, .slice a n c] w0 (BodyPost 2 l w0):=body_calls 2 l a n c w0 ((h.below hb0).more hb0.size) hc (by omega)
 have HB:=Lib.hid hB
 have HD0:=Lib.hid hD0
 have HX0:=Lib.hid hX0
 have H:=Lib.hid h
 have HT:=Lib.hid hT
 have HNT:=Lib.hid hNT
 clear hB hD0 hX0 h hT hNT
 go_enter Tryz.func26,Tryz.ntmps26
 go_upto_region 2 with(fail)
 clear hw0
 go_wp2_with (fail)
 with_reducible refine(HB.out).mono ?_
 rintro e w1 ⟨hb1,hr⟩
 have hD1:=HD0.out.call hb1
 have hX1:=HX0.out.below hb1 HX0.out.lt
 by_cases hE:bodyE 2 l=0
 rotate_left
 · rw[if_neg hE]at hr
   obtain rfl:=hr
   have tE:(bodyE 2 l != 0)=true:=by simpa using hE
   have hres:=decQ_body hE
   generalize bodyE 2 l=x at tE hres
   have r0:=hD1.res.cell 0
   have r1:=hD1.res.cell 1
   have x0:=hD1.nil.cell 0
   have x1:=hD1.nil.cell 1
   have fz:=hD1.res.frozen
   have lt1:=hD1.res.lt
   have lt2:=hD1.nil.lt
   have Hb1:=Lib.hid hb1
   have HD1:=Lib.hid hD1
   have HX1:=Lib.hid hX1
   have Hres:=Lib.hid hres
   clear hb1 hD1 hX1 hres
   clear hE
   go_upto_region 4 with(fail)
   repeat go_step
   have hxf:=(HD1.out.res.set_ 0 (.int .u64 0)).set_ 1 (.int .u64 0)
   have hbf:=setMany_below [.int .u64 0, .int .u64 0] HD1.out.below (Nat.le_refl w.heap.size) (o:=0)
   exact bodyPost_ret (results_req_t rfl rfl hxf) rfl ⟨by rw[Hres.out];rfl,hbf⟩
 rw[if_pos hE]at hr
 obtain⟨a1,c1,rfl,hf1⟩:=hr
 have hz1:=hb1.size
 have hlB:=bodyB_len l
 obtain⟨s,hs⟩: ∃s:ByteArray,⟨(bodyB l).toArray⟩=s:=⟨_,rfl⟩
 have hst:=run_bstr hf1.now
 rw[hs]at hst
 have hsd:s.data.toList=bodyB l:=by rw[←hs]
 have hEx:=exact_calls s w1 (HT.out.below hD1.below) (HNT.out.below hD1.below) (by rw[Lib.size_eq,hsd];omega)
 rw[hsd]at hEx
 have e0:bodyE 2 l=0:=hE
 have Hb1:=Lib.hid hb1
 have HD1:=Lib.hid hD1
 have HX1:=Lib.hid hX1
 have Hf1:=Lib.hid hf1
 have HEx:=Lib.hid hEx
 have HE:=Lib.hid hE
 have Hs:=Lib.hid hs
 have Hsd:=Lib.hid hsd
 have HlB:=Lib.hid hlB
 clear hb1 hD1 hX1 hf1 hEx hE hs hsd hlB
 clear e0
 go_wp2_with (fail)
 with_reducible refine(HEx.out).mono ?_
 rintro e w2 ⟨hb2,hr2⟩
 have hD2:=HD1.out.call hb2
 have hX2:=HX1.out.below hb2 HX1.out.lt
 obtain⟨RES,hRES⟩: ∃r,exactL (bodyB l)=r:=⟨_,rfl⟩
 rw[hRES]at hr2
 cases RES with
 |bad x q=>
  simp only at hr2
  obtain rfl:=hr2
  have hx0:x≠0:=fun e=>exactL_bad0 e hRES
  have tE:(x != 0)=true:=by simpa using hx0
  have hres:=decQ_bad HE.out hRES
  have hD3:=hD2.call (alloc_below w2 (.cells zero6 39))
  have r0:=hD3.res.cell 0
  have r1:=hD3.res.cell 1
  have x0:=hD3.nil.cell 0
  have x1:=hD3.nil.cell 1
  have fz:=hD3.res.frozen
  have lt1:=hD3.res.lt
  have lt2:=hD3.nil.lt
  have Hb2:=Lib.hid hb2
  have HD2:=Lib.hid hD2
  have HX2:=Lib.hid hX2
  have Hres:=Lib.hid hres
  have HD3:=Lib.hid hD3
  clear hb2 hD2 hX2 hres hD3
  clear hRES hx0
  go_upto_region 7 with(fail)
  repeat go_step
  have hxf:=(HD3.out.res.set_ 0 (.int .u64 0)).set_ 1 (.int .u64 0)
  have hbf:=setMany_below [.int .u64 0, .int .u64 0] HD3.out.below (Nat.le_refl w.heap.size) (o:=0)
  exact bodyPost_ret (results_req_t rfl rfl hxf) rfl ⟨by rw[Hres.out];rfl,hbf⟩
 |ok v q=>
  obtain⟨cs,rfl,hf2⟩:=hr2
  obtain⟨hmv,hiv,hbv,_⟩:=exactL_ok hRES
  have hres:=decQ_ok HE.out hRES
  obtain⟨k',b',n',t',l',o'⟩:=v
  obtain⟨la,lc,oa,oc,rfl⟩:=six_now hf2
  have hz2:=hb2.size
  have ho:=asc_may hmv
  have hl:o'.length≤100000000:=by
   have h1:=bulkO_len o'
   have h2:bulkO o'≤(Val.mk k' b' n' t' l' o').bulk:=by simp only[Val.bulk];omega
   have h3:=HlB.out
   omega
  have hD3:=hD2.call (alloc_below w2 (.cells #[.int .i64 k', .bool b', .int .i64 n', .string t', .slice la l'.length lc, .slice oa o'.length oc] 39))
  have hR3:=hX2.alloc (.cells #[.int .i64 k', .bool b', .int .i64 n', .string t', .slice la l'.length lc, .slice oa o'.length oc] 39)
  have hX3:=Blk.new w2 39 #[.int .i64 k', .bool b', .int .i64 n', .string t', .slice la l'.length lc, .slice oa o'.length oc]
  have hF3:=hf2.later (alloc_below w2 (.cells #[.int .i64 k', .bool b', .int .i64 n', .string t', .slice la l'.length lc, .slice oa o'.length oc] 39))
  have hXb:w.heap.size+1<w1.heap.size:=by omega
  have hge3:w.heap.size+1<w2.heap.size∧w2.heap.size<(w2.alloc (.cells #[.int .i64 k', .bool b', .int .i64 n', .string t', .slice la l'.length lc, .slice oa o'.length oc] 39)).heap.size:=⟨by omega,by simp⟩
  have Hb2:=Lib.hid hb2
  have HD2:=Lib.hid hD2
  have HX2:=Lib.hid hX2
  have Hres:=Lib.hid hres
  have Hmv:=Lib.hid hmv
  have Hiv:=Lib.hid hiv
  have Hbv:=Lib.hid hbv
  have Hf2:=Lib.hid hf2
  have Ho:=Lib.hid ho
  have Hl:=Lib.hid hl
  have HXb:=Lib.hid hXb
  clear hb2 hD2 hX2 hres hmv hiv hbv hf2 ho hl hXb
  clear hRES
  go_upto_region 8 with(fail)
  generalize w2.alloc (.cells #[.int .i64 k', .bool b', .int .i64 n', .string t', .slice la l'.length lc, .slice oa o'.length oc] 39)=w3 at hD3 hR3 hX3 hF3 hge3 ⊢
  have HD3:=Lib.hid hD3
  have HR3:=Lib.hid hR3
  have HX3:=Lib.hid hX3
  have HF3:=Lib.hid hF3
  have Hge3:=Lib.hid hge3
  clear hD3 hR3 hX3 hF3 hge3
  go_cut [17] (fun s wx=>s= .int .i64 (numsE reqNs 2 (.mk k' b' n' t' l' o'))∧Hid (DQ w wx∧(numsE reqNs 2 (.mk k' b' n' t' l' o')=0→ ∃xc xk,objV' (.mk k' b' n' t' l' o')= [(kClient,xc),(kCookie,xk)]∧Blk wx (w.heap.size+1) 24 #[.int .u64 (u64I (intV' xc)), .int .u64 (u64I (intV' xk))])))
  case first=>
   refine wp_region_held_drew (S:=fun W=>W.cell? ⟨w2.heap.size,0,none⟩=some (.int .i64 k')∧W.cell? ⟨w2.heap.size,1,none⟩=some (.bool b')∧W.cell? ⟨w2.heap.size,2,none⟩=some (.int .i64 n')∧W.cell? ⟨w2.heap.size,3,none⟩=some (.string t')∧W.cell? ⟨w2.heap.size,4,none⟩=some (.slice la l'.length lc)∧W.cell? ⟨w2.heap.size,5,none⟩=some (.slice oa o'.length oc)) (by kernel_rfl) (vcell (Blk.drewQ HX3.out)) (fun hHeld=> ?_)
   refine wpAnyH_take (i:=0) (v:= ?_) rfl (by kernel_rfl) (by kernel_rfl) (by kernel_rfl) (fun _ _ _ h=>h) (Or.inl ⟨by kernel_rfl, ?_⟩) hHeld ?_
   rotate_left
   · intro X hSw
     obtain⟨s0,s1,s2,s3,s4,s5⟩:=hSw
     first|(go_simp;done)|(go_simp;with_reducible rfl)
   try simp only[Act.put,List.getElem_toArray,List.getElem_cons_zero,List.setIfInBounds_toArray,List.set_cons_zero,List.set_cons_succ]
   refine wpAnyH_take (i:=1) (v:= ?_) rfl (by kernel_rfl) (by kernel_rfl) (by kernel_rfl) (fun _ _ _ h=>h) (Or.inl ⟨by kernel_rfl, ?_⟩) hHeld ?_
   rotate_left
   · intro X hSw
     obtain⟨s0,s1,s2,s3,s4,s5⟩:=hSw
     first|(go_simp;done)|(go_simp;with_reducible rfl)
   try simp only[Act.put,List.getElem_toArray,List.getElem_cons_succ,List.getElem_cons_zero,List.setIfInBounds_toArray,List.set_cons_zero,List.set_cons_succ]
   refine wpAnyH_take (i:=3) (v:= ?_) rfl (by kernel_rfl) (by kernel_rfl) (by kernel_rfl) (fun _ _ _ h=>h) (Or.inl ⟨by kernel_rfl, ?_⟩) hHeld ?_
   rotate_left
   · intro X hSw
     obtain⟨s0,s1,s2,s3,s4,s5⟩:=hSw
     first|(go_simp;done)|(go_simp;with_reducible rfl)
   try simp only[Act.put,List.getElem_toArray,List.getElem_cons_succ,List.getElem_cons_zero,List.setIfInBounds_toArray,List.set_cons_zero,List.set_cons_succ]
   refine wpAnyH_ready (rs:= [2]) (by kernel_rfl) (by simp) ?_
   refine AllReadyH.cons rfl (fun K hK=> ?_) AllReadyH.nil
   · go_simp
     with_reducible refine(reqN_calls _ _).mono ?_
     rintro e w4 ⟨g,rfl,hge,hLk,hb⟩
     have hb':Below w3.heap.size w3 w4:=(Below.drew (Below.refl _ _)).trans hb
     have hge':w3.heap.size≤g:=hge
     refine hK.out _ _ (vcell (HX3.out.below hb' HX3.out.lt)) (fun hHeld=> ?_)
     clear hK K
     try simp only[Act.put,List.setIfInBounds_toArray,List.set_cons_zero,List.set_cons_succ]
     refine wpAnyH_ready (rs:= [4]) (by kernel_rfl) (by simp) ?_
     refine AllReadyH.cons rfl (fun K hK=> ?_) AllReadyH.nil
     go_simp
     with_reducible refine(others_calls _ _).mono ?_
     rintro e w4' ⟨rfl,rfl⟩
     refine hK.out _ _ (hHeld) (fun hHeld=> ?_)
     clear hK K
     try simp only[Act.put,List.setIfInBounds_toArray,List.set_cons_zero,List.set_cons_succ]
     refine wpAnyH_ready (rs:= [5]) (by kernel_rfl) (by simp) ?_
     refine AllReadyH.cons rfl (fun K hK=> ?_) AllReadyH.nil
     go_simp
     have hz4:=hb'.size
     with_reducible refine(fillQ_calls k' b' n' t' l' o' la lc oa oc (w.heap.size+1) w1.heap.size (.map (some g)) (.map none) (.int .u64 0) (.int .u64 0) w4 (HF3.out.later hb') HXb.out Ho.out Hl.out (fun W hW=>reqN_says (hLk.keep (hW.block g hLk.lt (by have:=Hge3.out;simp;omega)))) (fun W _=>says_none W) (HR3.out.below hb' HR3.out.lt)).mono ?_
     rintro e w5 ⟨hg5,rfl,hz5⟩
     have hD5:=(HD3.out.call hb').fill hg5
     have hx5:=(HX3.out.below hb' HX3.out.lt).grown hg5 (by have:=Hge3.out;simp;omega)
     refine hK.out _ _ (vcell hx5) (fun hHeld=> ?_)
     clear hK K
     try simp only[Act.put,List.setIfInBounds_toArray,List.set_cons_zero,List.set_cons_succ]
     refine wpAnyH_take (i:=6) (v:= ?_) rfl (by kernel_rfl) (by kernel_rfl) (by kernel_rfl) (fun _ _ _ h=>h) (Or.inl ⟨by kernel_rfl, ?_⟩) hHeld ?_
     rotate_left
     · intro X hSw
       obtain⟨s0,s1,s2,s3,s4,s5⟩:=hSw
       first|(go_simp;done)|(go_simp;with_reducible rfl)
     try simp only[Act.put,List.getElem_toArray,List.getElem_cons_succ,List.getElem_cons_zero,List.setIfInBounds_toArray,List.set_cons_zero,List.set_cons_succ]
     refine wpAnyH_done (by kernel_rfl) ?_ _
     have HG:=Lib.hid (And.intro hD5 hz5)
     clear hHeld hb hb' hLk hg5 hz5 hx5 hD5
     go_wp2
     go_meet
     exact⟨rfl,HG⟩
  case rest=>
   obtain⟨rfl,hG⟩:=hcut
   obtain⟨hDx,hzx⟩:=hG.out
   by_cases hnum:numsE reqNs 2 (.mk k' b' n' t' l' o')=0
   rotate_left
   · have tE:(numsE reqNs 2 (.mk k' b' n' t' l' o') != 0)=true:=by simpa using hnum
     have hres':=Hres.out.trans (reqOf_no hnum)
     generalize numsE reqNs 2 (.mk k' b' n' t' l' o')=x at tE hres'
     have r0:=hDx.res.cell 0
     have r1:=hDx.res.cell 1
     have x0:=hDx.nil.cell 0
     have x1:=hDx.nil.cell 1
     have fz:=hDx.res.frozen
     have lt1:=hDx.res.lt
     have lt2:=hDx.nil.lt
     have HDx:=Lib.hid hDx
     have Hres':=Lib.hid hres'
     clear hDx hres'
     clear hnum hG hzx
     go_upto_region 10 with(fail)
     repeat go_step
     have hxf:=(HDx.out.res.set_ 0 (.int .u64 0)).set_ 1 (.int .u64 0)
     have hbf:=setMany_below [.int .u64 0, .int .u64 0] HDx.out.below (Nat.le_refl w.heap.size) (o:=0)
     exact bodyPost_ret (results_req_t rfl rfl hxf) rfl ⟨by rw[Hres'.out];rfl,hbf⟩
   obtain⟨xc,xk,hov,hbx⟩:=hzx hnum
   have hres':=Hres.out.trans (reqOf_two hnum hov)
   rw[hnum]
   generalize u64I (intV' xc)=C at hbx hres'
   generalize u64I (intV' xk)=Kk at hbx hres'
   have hMay:=MayRequest_calls C Kk wc
   have q0:=hbx.cell 0
   have q1:=hbx.cell 1
   have ql:=hbx.lt
   have HDx:=Lib.hid hDx
   have Hbx:=Lib.hid hbx
   have Hres':=Lib.hid hres'
   have HMay:=Lib.hid hMay
   clear hDx hbx hres' hMay
   clear hnum hG hzx hov
   go_wp2_with (fail)
   with_reducible refine(HMay.out).mono ?_
   rintro e w6 ⟨rfl,hb6⟩
   have hD6:=HDx.out.call hb6
   have hb6x:=Hbx.out.below hb6 Hbx.out.lt
   have r0:=hD6.res.cell 0
   have r1:=hD6.res.cell 1
   have x0:=hD6.nil.cell 0
   have x1:=hD6.nil.cell 1
   have y0:=hb6x.cell 0
   have y1:=hb6x.cell 1
   have fz:=hD6.res.frozen
   have lt1:=hD6.res.lt
   have lt2:=hD6.nil.lt
   have lt3:=hb6x.lt
   by_cases hm:mayReq C Kk=0
   · have hres2:=Hres'.out
     rw[if_pos hm]at hres2
     rw[hm]
     have HD6:=Lib.hid hD6
     have Hres2:=Lib.hid hres2
     have Hb6x:=Lib.hid hb6x
     clear hD6 hres2 hb6x
     clear q0 q1 ql hm hb6
     go_upto_region 14 with(fail)
     repeat go_step
     have hxf:=(HD6.out.res.set_ 0 (.int .u64 C)).set_ 1 (.int .u64 Kk)
     have hbf:=setMany_below [.int .u64 C, .int .u64 Kk] HD6.out.below (Nat.le_refl w.heap.size) (o:=0)
     exact bodyPost_ret (results_req_t rfl rfl hxf) rfl ⟨by rw[Hres2.out];rfl,hbf⟩
   · have tE:(mayReq C Kk != 0)=true:=by simpa using hm
     have hres2:=Hres'.out
     rw[if_neg hm]at hres2
     generalize mayReq C Kk=x at tE hres2
     have HD6:=Lib.hid hD6
     have Hres2:=Lib.hid hres2
     have Hb6x:=Lib.hid hb6x
     clear hD6 hres2 hb6x
     clear q0 q1 ql hm hb6
     go_upto_region 13 with(fail)
     repeat go_step
     have hxf:=(HD6.out.res.set_ 0 (.int .u64 0)).set_ 1 (.int .u64 0)
     have hbf:=setMany_below [.int .u64 0, .int .u64 0] HD6.out.below (Nat.le_refl w.heap.size) (o:=0)
     exact bodyPost_ret (results_req_t rfl rfl hxf) rfl ⟨by rw[Hres2.out];rfl,hbf⟩
set_option maxRecDepth 100000 in
set_option maxHeartbeats 2000000 in
theorem decodeReq_calls (l:List UInt8) (a:Option Addr) (n c:Nat) (w:World) (hT:Tabs w) (hNT:NumT w) (h:Holds w w.heap.size (.row 1 (dB l)) [.slice a n c]) (hc:n≤c) (hl:l.length≤10000000):
 Calls Tryz.prog 10 #[.slice a n c] w (DecPostQ l w):=by
 obtain⟨w0,hw0⟩: ∃w0,w.alloc (.cells #[.int .u64 0, .int .u64 0] 24)=w0:=⟨_,rfl⟩
 have hb0:Below w.heap.size w w0:=hw0▸alloc_below _ _
 have hR:Blk w0 w.heap.size 24 #[.int .u64 0, .int .u64 0]:=hw0▸Blk.new w _ _
 have hB:=decodeQ_calls l a n c w0 (hT.below hb0) (hNT.below hb0) ((h.below hb0).more hb0.size) hc hl
 have HB:=Lib.hid hB
 have Hb0:=Lib.hid hb0
 have HR:=Lib.hid hR
 have H:=Lib.hid h
 clear hB hb0 hR h
 go_enter Tryz.func10,Tryz.ntmps10
 go_upto_region 1 with(fail)
 clear hw0
 go_wp2_with (fail)
 with_reducible refine(HB.out).mono ?_
 rintro e w1 ⟨rfl,hb1⟩
 have hw1:=Hb0.out.trans (hb1.mono Hb0.out.size)
 have hR1:=HR.out.below hb1 HR.out.lt
 have r0:=hR1.cell 0
 have r1:=hR1.cell 1
 have fz:=hR1.frozen
 have lt1:=hR1.lt
 generalize hd:decReq l=dr
 obtain⟨dx,dc,dk⟩:=dr
 have Hb1:=Lib.hid hb1
 have Hw1:=Lib.hid hw1
 have HR1:=Lib.hid hR1
 have Hd:=Lib.hid hd
 clear hb1 hw1 hR1 hd
 dsimp only
 repeat go_step
 have hxf:=(HR1.out.set_ 0 (.int .u64 dc)).set_ 1 (.int .u64 dk)
 have hbf:=setMany_below [.int .u64 dc, .int .u64 dk] Hw1.out (Nat.le_refl w.heap.size) (o:=0)
 exact bodyPost_ret (results_req_t rfl rfl hxf) rfl ⟨by rw[Hd.out];rfl,hbf⟩
end Go.Proofs.YtackmnbpfbaemaaGreatDoor
