/- Parts, joined: pull.DecodeResponse: which answer's frame bytes are, or why of none. Condition: at most 10^8 bytes, a value of a bulk of at most 2.4 * 10^7. -/
import Derived.Test.YtackmnbpfbaemaaGreatDoorProg
import Derived.Test.YtackmnbpfbaemaaGreatDoorKPb11
import Derived.Test.YtackmnbpfbaemaaGreatDoorKPb28
import Derived.Test.YtackmnbpfbaemaaGreatDoorKPb38
import Derived.Test.YtackmnbpfbaemaaGreatDoorKPb39
import Derived.Test.YtackmnbpfbaemaaGreatDoorKPb40
import Derived.Test.YtackmnbpfbaemaaGreatDoorKPb45
namespace Go.Proofs.YtackmnbpfbaemaaGreatDoor
open Go Go.RowKit
def DecPostR (l:List UInt8) (w:World) (e:Ending) (w':World):Prop:=Below w.heap.size w w'∧
 if(decResp l).1≠0 then e= .returned (.tuple #[.agg #[.int .u64 0, .int .u64 0, .int .u64 0, .int .u64 0, .slice none 0 0], .int .i64 (decResp l).1])else ∃a n,e= .returned (.tuple #[.agg #[.int .u64 (decResp l).2.1, .int .u64 (decResp l).2.2.1, .int .u64 (decResp l).2.2.2.1, .int .u64 (decResp l).2.2.2.2.1, .slice a (decResp l).2.2.2.2.2.length n], .int .i64 0])∧
  Fresh w.heap.size w' (.row 8 (dQs (decResp l).2.2.2.2.2)) [.slice a (decResp l).2.2.2.2.2.length n]
theorem DecPostR.no {l:List UInt8} {w w':World} {x:Int} (h:decResp l=noResp x) (hx:x≠0) (hb:Below w.heap.size w w'):DecPostR l w (.returned (.tuple #[.agg #[.int .u64 0, .int .u64 0, .int .u64 0, .int .u64 0, .slice none 0 0], .int .i64 x])) w':=by
 refine⟨hb, ?_⟩
 rw[h,if_pos (show(noResp x).1≠0 from hx)]
theorem respN_says {g:Nat} {W:World} {X:Nat} (h:LookIs W g 4 (respNF X)):Says 101 (.map (some g)) 4 (fun k=> .pointer (npR X k)) W:=by
 have:=says_nums h
 have e:(fun k=>(respNF X k).getD (.pointer none))=fun k=> .pointer (npR X k):=by
  funext k
  unfold respNF npR offR
  by_cases h0:k=kBase
  · rw[if_pos h0,if_pos h0];rfl
  rw[if_neg h0,if_neg h0]
  by_cases h1:k=kClient
  · rw[if_pos h1,if_pos h1];rfl
  rw[if_neg h1,if_neg h1]
  by_cases h2:k=kCookie
  · rw[if_pos h2,if_pos h2];rfl
  rw[if_neg h2,if_neg h2]
  by_cases h3:k=kLast
  · rw[if_pos h3,if_pos h3];rfl
  · rw[if_neg h3,if_neg h3];rfl
 rwa [e]at this
theorem respO_says {g Q:Nat} {W:World} (h:LookIs W g 1 (fun k=>if k=kPatch then some (patC Q)else none)):Says 103 (.map (some g)) 1 (othF (patC Q)) W:=by
 have:=says_others h
 have e:(fun k=>(if k=kPatch then some (patC Q)else none).getD .nilFunc)=othF (patC Q):=by
  funext k
  unfold othF
  by_cases h0:k=kPatch
  · rw[if_pos h0,if_pos h0];rfl
  · rw[if_neg h0,if_neg h0];rfl
 rwa [e]at this
def FillRes (v:Val) (X b:Nat) (code:Int) (w':World):Prop:=(numsE respN 4 v≠0∧code=numsE respN 4 v)∨(numsE respN 4 v=0∧ ∃xb xc xk xs x,objV' v= [(kBase,xb),(kClient,xc),(kCookie,xk),(kLast,xs),(kPatch,x)]∧code=(opsOf x).1∧
    ((opsOf x).1=0→ ∃la lc,Blk w' X 47 #[.int .u64 (u64I (intV' xc)), .int .u64 (u64I (intV' xb)), .int .u64 (u64I (intV' xk)), .int .u64 (u64I (intV' xs)), .slice la (opsOf x).2.length lc]∧Fresh b w' (.row 8 (dQs (opsOf x).2)) [.slice la (opsOf x).2.length lc]))
theorem FillPost.res {v:Val} {X b:Nat} {w w':World} {e:Ending} (h:FillPost v X b w e w'): ∃code:Int,e= .returned (.int .i64 code)∧w.grownBy w' (some X)∧FillRes v X b code w':=by
 obtain⟨hg,h⟩:=h
 by_cases hn:numsE respN 4 v=0
 · rw[if_neg (by omega)]at h
   obtain⟨xb,xc,xk,xs,x,h1,rfl,h3⟩:=h
   exact⟨_,rfl,hg, .inr ⟨hn,xb,xc,xk,xs,x,h1,rfl,h3⟩⟩
 · rw[if_pos hn]at h
   exact⟨_,h,hg, .inl ⟨hn,rfl⟩⟩
structure DR (w wr:World):Prop where
 below:Below w.heap.size w wr
 res:Blk wr w.heap.size 47 #[.int .u64 0, .int .u64 0, .int .u64 0, .int .u64 0, .slice none 0 0]
 nil:Blk wr (w.heap.size+1+1) 47 #[.int .u64 0, .int .u64 0, .int .u64 0, .int .u64 0, .slice none 0 0]
theorem DR.call {w wr w':World} (h:DR w wr) (hb:Below wr.heap.size wr w'):DR w w':=
 ⟨h.below.trans (hb.mono h.below.size),h.res.below hb h.res.lt,h.nil.below hb h.nil.lt⟩
theorem DR.fill {w wr w':World} (h:DR w wr) (hg:wr.grownBy w' (some (w.heap.size+1))):DR w w':=
 ⟨h.below.grown hg h.below.size (fun k e=>by cases e;omega),h.res.grown hg (by simp),h.nil.grown hg (by simp)⟩
theorem Blk.drewR {w:World} {g:Nat} {t:TypeId} {cs:Array Value} (h:Blk w g t cs):Blk w.drew g t cs:=h
theorem opsOf_bulk {x:Val} (hi:inV x) (h:(opsOf x).1=0):bulkQ (opsOf x).2≤3*x.bulk∧inQ (opsOf x).2:=by
 obtain⟨k,b,n,t,l,o⟩:=x
 unfold opsOf at h ⊢
 by_cases h1:mayV (.mk k b n t l o) 1≠0
 · rw[if_pos h1]at h;exact absurd h h1
 rw[if_neg h1]at h ⊢
 by_cases h2:kindV (.mk k b n t l o)≠5
 · rw[if_pos h2]at h;exact absurd h (show ¬(9:Int)=0 by omega)
 rw[if_neg h2]at h ⊢
 by_cases h3:(readOps (lstV' (.mk k b n t l o))).1≠0
 · rw[if_pos h3]at h;exact absurd h h3
 rw[if_neg h3]at h ⊢
 by_cases h4:mayOps none (readOps (lstV' (.mk k b n t l o))).2=0
 · rw[if_pos h4]
   obtain⟨a,b⟩:=readOps_bulk (l:=l) (fun v hv=>⟨inL_mem hi.2.1 hv,mayL_all (mayV_parts (by simpa using h1)).2.2.2.1 v hv⟩) (Decidable.byContradiction fun e=>h3 e)
   refine⟨?_,b⟩
   show bulkQ (readOps l).2≤_
   simp only[Val.bulk]
   omega
 · rw[if_neg h4]at h;exact absurd h h4
theorem asc_mayR {k':Int} {b':Bool} {n':Int} {t':ByteArray} {l':List Val} {o':List (ByteArray×Val)} (h:mayV (.mk k' b' n' t' l' o') 1=0):ascO o':=(mayO_rise (mayV_parts h).2.2.2.2).1
theorem decR_body {l:List UInt8} (h:bodyE 3 l≠0):decResp l=noResp (bodyE 3 l):=by
 unfold decResp
 rw[if_pos h]
theorem decR_bad {l:List UInt8} {x:Int} {q:Nat} (h:bodyE 3 l=0) (hx:exactL (bodyB l)= .bad x q):decResp l=noResp x:=by
 unfold decResp
 rw[if_neg (by omega),hx]
theorem decR_ok {l:List UInt8} {v:Val} {q:Nat} (h:bodyE 3 l=0) (hx:exactL (bodyB l)= .ok v q):decResp l=respOf v:=by
 unfold decResp
 rw[if_neg (by omega),hx]
theorem respOf_no {v:Val} (h:numsE respN 4 v≠0):respOf v=noResp (numsE respN 4 v):=by
 unfold respOf
 rw[if_pos h]
theorem respOf_five {v xb xc xk xs x:Val} (h:numsE respN 4 v=0) (ho:objV' v= [(kBase,xb),(kClient,xc),(kCookie,xk),(kLast,xs),(kPatch,x)]):respOf v=respV (u64I (intV' xc)) (u64I (intV' xb)) (u64I (intV' xk)) (u64I (intV' xs)) (opsOf x):=by
 unfold respOf
 rw[if_neg (by omega),ho]
set_option maxRecDepth 100000 in
set_option maxHeartbeats 8000000 in
theorem decodeR_calls (l:List UInt8) (a:Option Addr) (n c:Nat) (w:World) (hT:Tabs w) (hNT:NumT w) (h:Holds w w.heap.size (.row 1 (dB l)) [.slice a n c]) (hc:n≤c) (hlen:l.length≤100000000) (hvb: ∀v q,exactL (bodyB l)= .ok v q→v.bulk≤24000000):
 Calls Tryz.prog 35 #[.int .u8 3, .slice a n c, .func (.func 36) #[] #[], .func (.func 37) #[] #[], .func (.func 38) #[] #[]] w (DecPostR l w):=by
 obtain⟨w0,hw0⟩: ∃w0,((w.alloc (.cells #[.int .u64 0, .int .u64 0, .int .u64 0, .int .u64 0, .slice none 0 0] 47)).alloc (.cells #[.int .u64 0, .int .u64 0, .int .u64 0, .int .u64 0, .slice none 0 0] 47)).alloc (.cells #[.int .u64 0, .int .u64 0, .int .u64 0, .int .u64 0, .slice none 0 0] 47)=w0:=⟨_,rfl⟩
 have hz0:w0.heap.size=w.heap.size+3:=by rw[←hw0];simp
 have hb0:Below w.heap.size w w0:=hw0▸(((Below.refl _ _).alloc (Nat.le_refl _) _).alloc (by simp) _).alloc (by simp;omega) _
 have hD0:DR w w0:=⟨hb0,hw0▸((Blk.new w _ _).alloc _).alloc _,hw0▸by simpa using Blk.new ((w.alloc (.cells #[.int .u64 0, .int .u64 0, .int .u64 0, .int .u64 0, .slice none 0 0] 47)).alloc (.cells #[.int .u64 0, .int .u64 0, .int .u64 0, .int .u64 0, .slice none 0 0] 47)) 47 #[.int .u64 0, .int .u64 0, .int .u64 0, .int .u64 0, .slice none 0 0]⟩
 have hX0:Blk w0 (w.heap.size+1) 47 #[.int .u64 0, .int .u64 0, .int .u64 0, .int .u64 0, .slice none 0 0]:=hw0▸by simpa using(Blk.new (w.alloc (.cells #[.int .u64 0, .int .u64 0, .int .u64 0, .int .u64 0, .slice none 0 0] 47)) 47 #[.int .u64 0, .int .u64 0, .int .u64 0, .int .u64 0, .slice none 0 0]).alloc (.cells #[.int .u64 0, .int .u64 0, .int .u64 0, .int .u64 0, .slice none 0 0] 47)
 have hB:Calls Tryz.prog 49 #[.int .u8 3, .slice a n c] w0 (BodyPost 3 l w0):=body_calls 3 l a n c w0 ((h.below hb0).more hb0.size) hc (by omega)
 have HB:=Lib.hid hB
 have HD0:=Lib.hid hD0
 have HX0:=Lib.hid hX0
 have H:=Lib.hid h
 have HT:=Lib.hid hT
 have HNT:=Lib.hid hNT
 clear hB hD0 hX0 h hT hNT
 go_enter Tryz.func35,Tryz.ntmps35
 go_upto_region 2 with(fail)
 clear hw0
 go_wp2_with (fail)
 with_reducible refine(HB.out).mono ?_
 rintro e w1 ⟨hb1,hr⟩
 have hD1:=HD0.out.call hb1
 have hX1:=HX0.out.below hb1 HX0.out.lt
 by_cases hE:bodyE 3 l=0
 rotate_left
 · rw[if_neg hE]at hr
   obtain rfl:=hr
   have tE:(bodyE 3 l != 0)=true:=by simpa using hE
   have hP:=fun W hW=>DecPostR.no (w:=w) (w':=W) (decR_body hE) hE hW
   generalize bodyE 3 l=x at tE hP
   have r0:=hD1.res.cell 0
   have r1:=hD1.res.cell 1
   have r2:=hD1.res.cell 2
   have r3:=hD1.res.cell 3
   have r4:=hD1.res.cell 4
   have x0:=hD1.nil.cell 0
   have x1:=hD1.nil.cell 1
   have x2:=hD1.nil.cell 2
   have x3:=hD1.nil.cell 3
   have x4:=hD1.nil.cell 4
   have fz:=hD1.res.frozen
   have lt1:=hD1.res.lt
   have lt2:=hD1.nil.lt
   have Hb1:=Lib.hid hb1
   have HD1:=Lib.hid hD1
   have HX1:=Lib.hid hX1
   have HP:=Lib.hid hP
   clear hb1 hD1 hX1 hP
   clear hE
   go_upto_region 4 with(fail)
   repeat go_step
   have hxf:=((((HD1.out.res.set_ 0 (.int .u64 0)).set_ 1 (.int .u64 0)).set_ 2 (.int .u64 0)).set_ 3 (.int .u64 0)).set_ 4 (.slice none 0 0)
   have hbf:=setMany_below [.int .u64 0, .int .u64 0, .int .u64 0, .int .u64 0, .slice none 0 0] HD1.out.below (Nat.le_refl w.heap.size) (o:=0)
   exact bodyPost_ret (results_resp_t rfl rfl hxf) rfl (HP.out _ hbf)
 rw[if_pos hE]at hr
 obtain⟨a1,c1,rfl,hf1⟩:=hr
 have hz1:=hb1.size
 have hlB:=bodyB_len l
 obtain⟨s,hs⟩: ∃s:ByteArray,⟨(bodyB l).toArray⟩=s:=⟨_,rfl⟩
 have hst:=run_bstr hf1.now
 rw[hs]at hst
 have hsd:s.data.toList=bodyB l:=by rw[←hs]
 have hEx:=exact_calls s w1 (HT.out.below hD1.below) (HNT.out.below hD1.below) (by rw[Lib.size_eq,hsd];omega)
 rw[hsd]at hEx
 have e0:bodyE 3 l=0:=hE
 have Hb1:=Lib.hid hb1
 have HD1:=Lib.hid hD1
 have HX1:=Lib.hid hX1
 have Hf1:=Lib.hid hf1
 have HEx:=Lib.hid hEx
 have HE:=Lib.hid hE
 have Hs:=Lib.hid hs
 have Hsd:=Lib.hid hsd
 have HlB:=Lib.hid hlB
 clear hb1 hD1 hX1 hf1 hEx hE hs hsd hlB
 clear e0
 go_wp2_with (fail)
 with_reducible refine(HEx.out).mono ?_
 rintro e w2 ⟨hb2,hr2⟩
 have hD2:=HD1.out.call hb2
 have hX2:=HX1.out.below hb2 HX1.out.lt
 obtain⟨RES,hRES⟩: ∃r,exactL (bodyB l)=r:=⟨_,rfl⟩
 rw[hRES]at hr2
 cases RES with
 |bad x q=>
  simp only at hr2
  obtain rfl:=hr2
  have hx0:x≠0:=fun e=>exactL_bad0 e hRES
  have tE:(x != 0)=true:=by simpa using hx0
  have hP:=fun W hW=>DecPostR.no (w:=w) (w':=W) (decR_bad HE.out hRES) hx0 hW
  have hD3:=hD2.call (alloc_below w2 (.cells zero6 39))
  have r0:=hD3.res.cell 0
  have r1:=hD3.res.cell 1
  have r2:=hD3.res.cell 2
  have r3:=hD3.res.cell 3
  have r4:=hD3.res.cell 4
  have x0:=hD3.nil.cell 0
  have x1:=hD3.nil.cell 1
  have x2:=hD3.nil.cell 2
  have x3:=hD3.nil.cell 3
  have x4:=hD3.nil.cell 4
  have fz:=hD3.res.frozen
  have lt1:=hD3.res.lt
  have lt2:=hD3.nil.lt
  have Hb2:=Lib.hid hb2
  have HD2:=Lib.hid hD2
  have HX2:=Lib.hid hX2
  have HP:=Lib.hid hP
  have HD3:=Lib.hid hD3
  clear hb2 hD2 hX2 hP hD3
  clear hRES hx0
  go_upto_region 7 with(fail)
  repeat go_step
  have hxf:=((((HD3.out.res.set_ 0 (.int .u64 0)).set_ 1 (.int .u64 0)).set_ 2 (.int .u64 0)).set_ 3 (.int .u64 0)).set_ 4 (.slice none 0 0)
  have hbf:=setMany_below [.int .u64 0, .int .u64 0, .int .u64 0, .int .u64 0, .slice none 0 0] HD3.out.below (Nat.le_refl w.heap.size) (o:=0)
  exact bodyPost_ret (results_resp_t rfl rfl hxf) rfl (HP.out _ hbf)
 |ok v q=>
  obtain⟨cs,rfl,hf2⟩:=hr2
  obtain⟨hmv,hiv,_,_⟩:=exactL_ok hRES
  have hbv:=hvb _ _ hRES
  have hres:=decR_ok HE.out hRES
  obtain⟨k',b',n',t',l',o'⟩:=v
  obtain⟨la,lc,oa,oc,rfl⟩:=six_now hf2
  have hz2:=hb2.size
  have ho:=asc_mayR hmv
  have hl:o'.length≤100000000:=by
   have h1:=bulkO_len o'
   have h2:bulkO o'≤(Val.mk k' b' n' t' l' o').bulk:=by simp only[Val.bulk];omega
   have h3:=HlB.out
   omega
  have hD3:=hD2.call (alloc_below w2 (.cells #[.int .i64 k', .bool b', .int .i64 n', .string t', .slice la l'.length lc, .slice oa o'.length oc] 39))
  have hR3:=hX2.alloc (.cells #[.int .i64 k', .bool b', .int .i64 n', .string t', .slice la l'.length lc, .slice oa o'.length oc] 39)
  have hX3:=Blk.new w2 39 #[.int .i64 k', .bool b', .int .i64 n', .string t', .slice la l'.length lc, .slice oa o'.length oc]
  have hF3:=hf2.later (alloc_below w2 (.cells #[.int .i64 k', .bool b', .int .i64 n', .string t', .slice la l'.length lc, .slice oa o'.length oc] 39))
  have hXb:w.heap.size+1<w1.heap.size:=by omega
  have hge3:w.heap.size+1<w2.heap.size∧w2.heap.size<(w2.alloc (.cells #[.int .i64 k', .bool b', .int .i64 n', .string t', .slice la l'.length lc, .slice oa o'.length oc] 39)).heap.size:=⟨by omega,by simp⟩
  have Hb2:=Lib.hid hb2
  have HD2:=Lib.hid hD2
  have HX2:=Lib.hid hX2
  have Hres:=Lib.hid hres
  have Hmv:=Lib.hid hmv
  have Hiv:=Lib.hid hiv
  have Hbv:=Lib.hid hbv
  have Hf2:=Lib.hid hf2
  have Ho:=Lib.hid ho
  have Hl:=Lib.hid hl
  have HXb:=Lib.hid hXb
  clear hb2 hD2 hX2 hres hmv hiv hbv hf2 ho hl hXb
  clear hRES
  go_upto_region 8 with(fail)
  generalize w2.alloc (.cells #[.int .i64 k', .bool b', .int .i64 n', .string t', .slice la l'.length lc, .slice oa o'.length oc] 39)=w3 at hD3 hR3 hX3 hF3 hge3 ⊢
  have HD3:=Lib.hid hD3
  have HR3:=Lib.hid hR3
  have HX3:=Lib.hid hX3
  have HF3:=Lib.hid hF3
  have Hge3:=Lib.hid hge3
  clear hD3 hR3 hX3 hF3 hge3
  go_cut [17] (fun s wx=> ∃code:Int,s= .int .i64 code∧Hid (DR w wx∧FillRes (.mk k' b' n' t' l' o') (w.heap.size+1) w1.heap.size code wx))
  case first=>
   refine wp_region_held_drew (S:=fun W=>W.cell? ⟨w2.heap.size,0,none⟩=some (.int .i64 k')∧W.cell? ⟨w2.heap.size,1,none⟩=some (.bool b')∧W.cell? ⟨w2.heap.size,2,none⟩=some (.int .i64 n')∧W.cell? ⟨w2.heap.size,3,none⟩=some (.string t')∧W.cell? ⟨w2.heap.size,4,none⟩=some (.slice la l'.length lc)∧W.cell? ⟨w2.heap.size,5,none⟩=some (.slice oa o'.length oc)) (by kernel_rfl) (vcell (Blk.drewR HX3.out)) (fun hHeld=> ?_)
   refine wpAnyH_take (i:=0) (v:= ?_) rfl (by kernel_rfl) (by kernel_rfl) (by kernel_rfl) (fun _ _ _ h=>h) (Or.inl ⟨by kernel_rfl, ?_⟩) hHeld ?_
   rotate_left
   · intro X hSw
     obtain⟨s0,s1,s2,s3,s4,s5⟩:=hSw
     first|(go_simp;done)|(go_simp;with_reducible rfl)
   try simp only[Act.put,List.getElem_toArray,List.getElem_cons_zero,List.setIfInBounds_toArray,List.set_cons_zero,List.set_cons_succ]
   refine wpAnyH_take (i:=1) (v:= ?_) rfl (by kernel_rfl) (by kernel_rfl) (by kernel_rfl) (fun _ _ _ h=>h) (Or.inl ⟨by kernel_rfl, ?_⟩) hHeld ?_
   rotate_left
   · intro X hSw
     obtain⟨s0,s1,s2,s3,s4,s5⟩:=hSw
     first|(go_simp;done)|(go_simp;with_reducible rfl)
   try simp only[Act.put,List.getElem_toArray,List.getElem_cons_succ,List.getElem_cons_zero,List.setIfInBounds_toArray,List.set_cons_zero,List.set_cons_succ]
   refine wpAnyH_take (i:=3) (v:= ?_) rfl (by kernel_rfl) (by kernel_rfl) (by kernel_rfl) (fun _ _ _ h=>h) (Or.inl ⟨by kernel_rfl, ?_⟩) hHeld ?_
   rotate_left
   · intro X hSw
     obtain⟨s0,s1,s2,s3,s4,s5⟩:=hSw
     first|(go_simp;done)|(go_simp;with_reducible rfl)
   try simp only[Act.put,List.getElem_toArray,List.getElem_cons_succ,List.getElem_cons_zero,List.setIfInBounds_toArray,List.set_cons_zero,List.set_cons_succ]
   refine wpAnyH_ready (rs:= [2]) (by kernel_rfl) (by simp) ?_
   refine AllReadyH.cons rfl (fun K hK=> ?_) AllReadyH.nil
   go_simp
   with_reducible refine(respN_calls _ _).mono ?_
   rintro e w4 ⟨g,rfl,hge,hLk,hb⟩
   have hb':Below w3.heap.size w3 w4:=(Below.drew (Below.refl _ _)).trans hb
   have hge':w3.heap.size≤g:=hge
   refine hK.out _ _ (vcell (HX3.out.below hb' HX3.out.lt)) (fun hHeld=> ?_)
   clear hK K
   try simp only[Act.put,List.setIfInBounds_toArray,List.set_cons_zero,List.set_cons_succ]
   refine wpAnyH_ready (rs:= [4]) (by kernel_rfl) (by simp) ?_
   refine AllReadyH.cons rfl (fun K hK=> ?_) AllReadyH.nil
   go_simp
   with_reducible refine(respOth_calls _ _).mono ?_
   rintro e w5 ⟨gO,Q,rfl,hgO,hQg,hQn,hQ,hLO,hb5⟩
   have hz4:=hb'.size
   have hb5':Below w3.heap.size w3 w5:=hb'.trans (hb5.mono hz4)
   have hLk5:=hLk.below hb5 hLk.lt
   refine hK.out _ _ (vcell (HX3.out.below hb5' HX3.out.lt)) (fun hHeld=> ?_)
   clear hK K
   try simp only[Act.put,List.setIfInBounds_toArray,List.set_cons_zero,List.set_cons_succ]
   refine wpAnyH_ready (rs:= [5]) (by kernel_rfl) (by simp) ?_
   refine AllReadyH.cons rfl (fun K hK=> ?_) AllReadyH.nil
   go_simp
   have hz5:=hb5'.size
   have hC: ∀x,(kPatch,x) ∈ o'→ ∀(W:World) (cs:List Value) (c0 c1 c2 c3 c4:Value),w5.grownBy W (some (w.heap.size+1))→Fresh w1.heap.size W (dV x) cs→Blk W (w.heap.size+1) 47 #[c0,c1,c2,c3,c4]→
    Calls Tryz.prog 59 #[.agg cs.toArray, .pointer (some ⟨Q,0,none⟩)] W fun e W'=>e= .returned (.int .i64 (opsOf x).1)∧W.grownBy W' (some (w.heap.size+1))∧((opsOf x).1=0→ ∃la lc,Blk W' (w.heap.size+1) 47 #[c0,c1,c2,c3, .slice la (opsOf x).2.length lc]∧Fresh w1.heap.size W' (.row 8 (dQs (opsOf x).2)) [.slice la (opsOf x).2.length lc]):=by
    intro x hx W cs c0 c1 c2 c3 c4 hW hfW hXW
    have hDw:=(HD3.out.call hb5').below
    have hlo:=Hge3.out
    have hbx:=bulkO_mem hx
    have h2:bulkO o'≤(Val.mk k' b' n' t' l' o').bulk:=by simp only[Val.bulk];omega
    have h3:=HlB.out
    have h4:=Hbv.out
    have h5:=hW.size
    simp only at hbx
    exact patClo_calls x cs w1.heap.size (w.heap.size+1) Q c0 c1 c2 c3 c4 W (HT.out.below (hDw.grown hW hDw.size (fun k e=>by cases e;omega))) hfW (by omega) HXb.out hXW (hQ.grown hW (by simp;omega)) (inO_mem Hiv.out.2.2 hx) (by omega)
   with_reducible refine(fillR_calls k' b' n' t' l' o' la lc oa oc (w.heap.size+1) w1.heap.size (.map (some g)) (.map (some gO)) Q (.int .u64 0) (.int .u64 0) (.int .u64 0) (.int .u64 0) (.slice none 0 0) w5 (HF3.out.later hb5') HXb.out Ho.out Hl.out (fun W hW=>respN_says (hLk5.keep (hW.block g hLk5.lt (by have:=Hge3.out;simp;omega)))) (fun W hW=>respO_says (hLO.keep (hW.block gO hLO.lt (by have:=Hge3.out;simp;omega)))) (HR3.out.below hb5' HR3.out.lt) hC).mono ?_
   rintro e w6 hfp
   obtain⟨code,rfl,hg6,hres6⟩:=hfp.res
   have hD6:=(HD3.out.call hb5').fill hg6
   have hx6:=(HX3.out.below hb5' HX3.out.lt).grown hg6 (by have:=Hge3.out;simp;omega)
   refine hK.out _ _ (vcell hx6) (fun hHeld=> ?_)
   clear hK K
   try simp only[Act.put,List.setIfInBounds_toArray,List.set_cons_zero,List.set_cons_succ]
   refine wpAnyH_take (i:=6) (v:= ?_) rfl (by kernel_rfl) (by kernel_rfl) (by kernel_rfl) (fun _ _ _ h=>h) (Or.inl ⟨by kernel_rfl, ?_⟩) hHeld ?_
   rotate_left
   · intro X hSw
     obtain⟨s0,s1,s2,s3,s4,s5⟩:=hSw
     first|(go_simp;done)|(go_simp;with_reducible rfl)
   try simp only[Act.put,List.getElem_toArray,List.getElem_cons_succ,List.getElem_cons_zero,List.setIfInBounds_toArray,List.set_cons_zero,List.set_cons_succ]
   refine wpAnyH_done (by kernel_rfl) ?_ _
   have HG:=Lib.hid (And.intro hD6 hres6)
   clear hHeld hb hb' hb5 hb5' hLk hLk5 hLO hQ hg6 hres6 hfp hx6 hD6 hC
   go_wp2
   go_meet
   exact⟨code,rfl,HG⟩
  case rest=>
   obtain⟨code,rfl,hG⟩:=hcut
   obtain⟨hDx,hfr⟩:=hG.out
   clear hG
   rcases hfr with⟨hn,rfl⟩|⟨hn,xb,xc,xk,xs,x,hov,rfl,hend⟩
   · have tE:(numsE respN 4 (.mk k' b' n' t' l' o') != 0)=true:=by simpa using hn
     have hP:=fun W hW=>DecPostR.no (w:=w) (w':=W) (Hres.out.trans (respOf_no hn)) hn hW
     generalize numsE respN 4 (.mk k' b' n' t' l' o')=x at tE hP
     clear hn
     have r0:=hDx.res.cell 0
     have r1:=hDx.res.cell 1
     have r2:=hDx.res.cell 2
     have r3:=hDx.res.cell 3
     have r4:=hDx.res.cell 4
     have x0:=hDx.nil.cell 0
     have x1:=hDx.nil.cell 1
     have x2:=hDx.nil.cell 2
     have x3:=hDx.nil.cell 3
     have x4:=hDx.nil.cell 4
     have fz:=hDx.res.frozen
     have lt1:=hDx.res.lt
     have lt2:=hDx.nil.lt
     have HDD:=Lib.hid hDx
     have HP:=Lib.hid hP
     clear hP
     go_upto_region 10 with(fail)
     repeat go_step
     have hxf:=((((HDD.out.res.set_ 0 (.int .u64 0)).set_ 1 (.int .u64 0)).set_ 2 (.int .u64 0)).set_ 3 (.int .u64 0)).set_ 4 (.slice none 0 0)
     have hbf:=setMany_below [.int .u64 0, .int .u64 0, .int .u64 0, .int .u64 0, .slice none 0 0] HDD.out.below (Nat.le_refl w.heap.size) (o:=0)
     exact bodyPost_ret (results_resp_t rfl rfl hxf) rfl (HP.out _ hbf)
   have hres':=Hres.out.trans (respOf_five hn hov)
   by_cases hc:(opsOf x).1=0
   rotate_left
   · have tE:((opsOf x).1 != 0)=true:=by simpa using hc
     have hP:=fun W hW=>DecPostR.no (w:=w) (w':=W) (hres'.trans (by unfold respV;rw[if_pos hc])) hc hW
     generalize (opsOf x).1=y at tE hP
     clear hc hend hov hn
     have r0:=hDx.res.cell 0
     have r1:=hDx.res.cell 1
     have r2:=hDx.res.cell 2
     have r3:=hDx.res.cell 3
     have r4:=hDx.res.cell 4
     have x0:=hDx.nil.cell 0
     have x1:=hDx.nil.cell 1
     have x2:=hDx.nil.cell 2
     have x3:=hDx.nil.cell 3
     have x4:=hDx.nil.cell 4
     have fz:=hDx.res.frozen
     have lt1:=hDx.res.lt
     have lt2:=hDx.nil.lt
     have HDD:=Lib.hid hDx
     have HP:=Lib.hid hP
     clear hP
     go_upto_region 10 with(fail)
     repeat go_step
     have hxf:=((((HDD.out.res.set_ 0 (.int .u64 0)).set_ 1 (.int .u64 0)).set_ 2 (.int .u64 0)).set_ 3 (.int .u64 0)).set_ 4 (.slice none 0 0)
     have hbf:=setMany_below [.int .u64 0, .int .u64 0, .int .u64 0, .int .u64 0, .slice none 0 0] HDD.out.below (Nat.le_refl w.heap.size) (o:=0)
     exact bodyPost_ret (results_resp_t rfl rfl hxf) rfl (HP.out _ hbf)
   obtain⟨pla,plc,hbx,hfo⟩:=hend hc
   have hxm:(kPatch,x) ∈ o':=by
    have:objV' (.mk k' b' n' t' l' o')=o':=rfl
    rw[←this,hov]
    simp
   have hbk:=opsOf_bulk (x:=x) (inO_mem Hiv.out.2.2 hxm) hc
   have hxb:=bulkO_mem hxm
   have hbo:bulkO o'≤(Val.mk k' b' n' t' l' o').bulk:=by simp only[Val.bulk];omega
   have h3:=HlB.out
   have h4:=Hbv.out
   simp only at hxb
   unfold respV at hres'
   rw[if_neg (fun h=>h hc)]at hres'
   rw[hc]
   generalize u64I (intV' xc)=C at hbx hres'
   generalize u64I (intV' xb)=Bb at hbx hres'
   generalize u64I (intV' xk)=Kk at hbx hres'
   generalize u64I (intV' xs)=Ss at hbx hres'
   generalize (opsOf x).2=OPS at hbx hres' hfo hbk
   have hMay:=MayResponse_calls C Bb Kk Ss OPS pla OPS.length plc wc (HT.out.below hDx.below) hfo.now (by omega) hbk.2
   have q0:=hbx.cell 0
   have q1:=hbx.cell 1
   have q2:=hbx.cell 2
   have q3:=hbx.cell 3
   have q4:=hbx.cell 4
   have ql:=hbx.lt
   have HDx:=Lib.hid hDx
   have Hbx:=Lib.hid hbx
   have Hres':=Lib.hid hres'
   have HMay:=Lib.hid hMay
   have Hfo:=Lib.hid hfo
   clear hDx hbx hres' hMay hfo
   clear hn hov hend hc hxm hbk hxb hbo h3 h4
   go_wp2_with (fail)
   with_reducible refine(HMay.out).mono ?_
   rintro e w7 ⟨rfl,hb7⟩
   have hD7:=HDx.out.call hb7
   have hbx7:=Hbx.out.below hb7 Hbx.out.lt
   have hfo7:=Hfo.out.later hb7
   clear q0 q1 q2 q3 q4 ql
   by_cases hm:mayResp C Bb Kk Ss OPS=0
   · have hres2:=Hres'.out
     rw[if_pos hm]at hres2
     rw[hm]
     have r0:=hD7.res.cell 0
     have r1:=hD7.res.cell 1
     have r2:=hD7.res.cell 2
     have r3:=hD7.res.cell 3
     have r4:=hD7.res.cell 4
     have q0:=hbx7.cell 0
     have q1:=hbx7.cell 1
     have q2:=hbx7.cell 2
     have q3:=hbx7.cell 3
     have q4:=hbx7.cell 4
     have fz:=hD7.res.frozen
     have lt1:=hD7.res.lt
     have lt3:=hbx7.lt
     have HD7:=Lib.hid hD7
     have Hres2:=Lib.hid hres2
     have Hbx7:=Lib.hid hbx7
     have Hfo7:=Lib.hid hfo7
     clear hD7 hres2 hbx7 hfo7
     clear hm hb7
     go_upto_region 14 with(fail)
     repeat go_step
     have hxf:=((((HD7.out.res.set_ 0 (.int .u64 C)).set_ 1 (.int .u64 Bb)).set_ 2 (.int .u64 Kk)).set_ 3 (.int .u64 Ss)).set_ 4 (.slice pla OPS.length plc)
     have hbf:=setMany_below [.int .u64 C, .int .u64 Bb, .int .u64 Kk, .int .u64 Ss, .slice pla OPS.length plc] HD7.out.below (Nat.le_refl w.heap.size) (o:=0)
     have hff:=Hfo7.out.keep (b':=w.heap.size) (w':=setMany w7 w.heap.size 0 [.int .u64 C, .int .u64 Bb, .int .u64 Kk, .int .u64 Ss, .slice pla OPS.length plc]) (by have:=HXb.out;omega) (by rw[setMany_size];exact Nat.le_refl _) (fun p p1 _=>World.cell?_of_block (setMany_far _ _ _ _ _ (by have:=HXb.out;omega)))
     refine bodyPost_ret (results_resp_t rfl rfl hxf) rfl ⟨hbf, ?_⟩
     rw[Hres2.out,if_neg (fun h=>h rfl)]
     exact⟨pla,plc,rfl,hff⟩
   · have tE:(mayResp C Bb Kk Ss OPS != 0)=true:=by simpa using hm
     have hres2:=Hres'.out
     rw[if_neg hm]at hres2
     have hP:=fun W hW=>DecPostR.no (w:=w) (w':=W) hres2 hm hW
     generalize mayResp C Bb Kk Ss OPS=y at tE hP
     clear hres2 hm
     have r0:=hD7.res.cell 0
     have r1:=hD7.res.cell 1
     have r2:=hD7.res.cell 2
     have r3:=hD7.res.cell 3
     have r4:=hD7.res.cell 4
     have x0:=hD7.nil.cell 0
     have x1:=hD7.nil.cell 1
     have x2:=hD7.nil.cell 2
     have x3:=hD7.nil.cell 3
     have x4:=hD7.nil.cell 4
     have fz:=hD7.res.frozen
     have lt1:=hD7.res.lt
     have lt2:=hD7.nil.lt
     have HDD:=Lib.hid hD7
     have HP:=Lib.hid hP
     clear hP
     go_upto_region 13 with(fail)
     repeat go_step
     have hxf:=((((HDD.out.res.set_ 0 (.int .u64 0)).set_ 1 (.int .u64 0)).set_ 2 (.int .u64 0)).set_ 3 (.int .u64 0)).set_ 4 (.slice none 0 0)
     have hbf:=setMany_below [.int .u64 0, .int .u64 0, .int .u64 0, .int .u64 0, .slice none 0 0] HDD.out.below (Nat.le_refl w.heap.size) (o:=0)
     exact bodyPost_ret (results_resp_t rfl rfl hxf) rfl (HP.out _ hbf)
set_option maxRecDepth 100000 in
set_option maxHeartbeats 2000000 in
theorem decodeResp_calls (l:List UInt8) (a:Option Addr) (n c:Nat) (w:World) (hT:Tabs w) (hNT:NumT w) (h:Holds w w.heap.size (.row 1 (dB l)) [.slice a n c]) (hc:n≤c) (hl:l.length≤100000000) (hvb: ∀v q,exactL (bodyB l)= .ok v q→v.bulk≤24000000):
 Calls Tryz.prog 16 #[.slice a n c] w (DecPostR l w):=by
 obtain⟨w0,hw0⟩: ∃w0,w.alloc (.cells #[.int .u64 0, .int .u64 0, .int .u64 0, .int .u64 0, .slice none 0 0] 47)=w0:=⟨_,rfl⟩
 have hb0:Below w.heap.size w w0:=hw0▸alloc_below _ _
 have hR:Blk w0 w.heap.size 47 #[.int .u64 0, .int .u64 0, .int .u64 0, .int .u64 0, .slice none 0 0]:=hw0▸Blk.new w _ _
 have hB:=decodeR_calls l a n c w0 (hT.below hb0) (hNT.below hb0) ((h.below hb0).more hb0.size) hc hl hvb
 have HB:=Lib.hid hB
 have Hb0:=Lib.hid hb0
 have HR:=Lib.hid hR
 have H:=Lib.hid h
 clear hB hb0 hR h
 go_enter Tryz.func16,Tryz.ntmps16
 go_upto_region 1 with(fail)
 clear hw0
 go_wp2_with (fail)
 with_reducible refine(HB.out).mono ?_
 rintro e w1 ⟨hb1,hr⟩
 have hw1:=Hb0.out.trans (hb1.mono Hb0.out.size)
 have hR1:=HR.out.below hb1 HR.out.lt
 have r0:=hR1.cell 0
 have r1:=hR1.cell 1
 have r2:=hR1.cell 2
 have r3:=hR1.cell 3
 have r4:=hR1.cell 4
 have fz:=hR1.frozen
 have lt1:=hR1.lt
 have hlow:=HR.out.lt
 obtain⟨⟨dx,dc,db,dk,ds,dl⟩,hd⟩: ∃r,decResp l=r:=⟨_,rfl⟩
 rw[hd]at hr
 simp only at hr
 by_cases hx:dx=0
 · rw[if_neg (fun h=>h hx)]at hr
   obtain⟨ra,rc,rfl,hfr⟩:=hr
   subst hx
   have Hb1:=Lib.hid hb1
   have Hw1:=Lib.hid hw1
   have HR1:=Lib.hid hR1
   have Hd:=Lib.hid hd
   have Hfr:=Lib.hid hfr
   clear hb1 hw1 hR1 hd hfr
   dsimp only
   repeat go_step
   have hxf:=((((HR1.out.set_ 0 (.int .u64 dc)).set_ 1 (.int .u64 db)).set_ 2 (.int .u64 dk)).set_ 3 (.int .u64 ds)).set_ 4 (.slice ra dl.length rc)
   have hbf:=setMany_below [.int .u64 dc, .int .u64 db, .int .u64 dk, .int .u64 ds, .slice ra dl.length rc] Hw1.out (Nat.le_refl w.heap.size) (o:=0)
   have hff:=Hfr.out.keep (b':=w.heap.size) (w':=setMany w1 w.heap.size 0 [.int .u64 dc, .int .u64 db, .int .u64 dk, .int .u64 ds, .slice ra dl.length rc]) (by omega) (by rw[setMany_size];exact Nat.le_refl _) (fun p p1 _=>World.cell?_of_block (setMany_far _ _ _ _ _ (by omega)))
   refine bodyPost_ret (results_resp_t rfl rfl hxf) rfl ⟨hbf, ?_⟩
   rw[Hd.out,if_neg (fun h=>h rfl)]
   exact⟨ra,rc,rfl,hff⟩
 · rw[if_pos hx]at hr
   obtain rfl:=hr
   have Hb1:=Lib.hid hb1
   have Hw1:=Lib.hid hw1
   have HR1:=Lib.hid hR1
   have Hd:=Lib.hid hd
   clear hb1 hw1 hR1 hd
   dsimp only
   repeat go_step
   have hxf:=((((HR1.out.set_ 0 (.int .u64 0)).set_ 1 (.int .u64 0)).set_ 2 (.int .u64 0)).set_ 3 (.int .u64 0)).set_ 4 (.slice none 0 0)
   have hbf:=setMany_below [.int .u64 0, .int .u64 0, .int .u64 0, .int .u64 0, .slice none 0 0] Hw1.out (Nat.le_refl w.heap.size) (o:=0)
   refine bodyPost_ret (results_resp_t rfl rfl hxf) rfl ⟨hbf, ?_⟩
   rw[Hd.out,if_pos hx]
   rfl
end Go.Proofs.YtackmnbpfbaemaaGreatDoor
