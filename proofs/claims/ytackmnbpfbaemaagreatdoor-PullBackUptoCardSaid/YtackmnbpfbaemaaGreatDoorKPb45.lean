/- Parts, joined: patch.Of: the patch of a list, or why of none. Condition: a bulk of at most 3 * 10^7. The closure that reads an answer's patch. Condition: a bulk of at most 3 * 10^7. -/
import Derived.Test.YtackmnbpfbaemaaGreatDoorProg
import Derived.Test.YtackmnbpfbaemaaGreatDoorKPb4
import Derived.Test.YtackmnbpfbaemaaGreatDoorKPb26
import Derived.Test.YtackmnbpfbaemaaGreatDoorKPb37
import Derived.Test.YtackmnbpfbaemaaGreatDoorKPb38
import Derived.Test.YtackmnbpfbaemaaGreatDoorKPb42
import Derived.Test.YtackmnbpfbaemaaGreatDoorKPb44
namespace Go.Proofs.YtackmnbpfbaemaaGreatDoor
open Go Go.RowKit
theorem elL_at {w:World} {B n c:Nat} {l:List Val} {a:Option Addr} (h:Holds w B (.row 6 (dL l)) [.slice a n c]) {q:Nat} {k':Int} {b':Bool} {n':Int} {t':ByteArray} {l':List Val} {o':List (ByteArray×Val)} (hi:l[q]? =some (.mk k' b' n' t' l' o')):
 ∃g off,a=some ⟨g,off,none⟩∧g<B∧ ∃la lc oa oc,Holds w B (dV (.mk k' b' n' t' l' o')) [.int .i64 k', .bool b', .int .i64 n', .string t', .slice la l'.length lc, .slice oa o'.length oc]∧
  w.cell? ⟨g,off+q*6,none⟩=some (.int .i64 k')∧w.cell? ⟨g,off+q*6+1,none⟩=some (.bool b')∧
  w.cell? ⟨g,off+q*6+2,none⟩=some (.int .i64 n')∧w.cell? ⟨g,off+q*6+3,none⟩=some (.string t')∧w.cell? ⟨g,off+q*6+4,none⟩=some (.slice la l'.length lc)∧w.cell? ⟨g,off+q*6+5,none⟩=some (.slice oa o'.length oc):=by
 obtain⟨g,off,ea,hg,cs,h1,_,h3⟩:=h.at_ (i:=q) (d:=dV (.mk k' b' n' t' l' o')) (by rw[dL_map,List.getElem?_map,hi];rfl)
 have h6:=holdsV_of _ _ h1
 simp only[HoldsV]at h6
 obtain⟨la,lc,oa,oc,rfl,_,_⟩:=h6
 exact⟨g,off,ea,hg,la,lc,oa,oc,h1,h3 0 _ rfl,h3 1 _ rfl,h3 2 _ rfl,h3 3 _ rfl,h3 4 _ rfl,h3 5 _ rfl⟩
theorem eight_now {B:Nat} {w:World} {p:POp} {cs:List Value} (h:Fresh B w (dQ p) cs): ∃z2 z3 z4 z5 la lc oa oc ll ol,cs= [.int .i64 p.k, .string p.key, .int .i64 z2, .bool z3, .int .i64 z4, .string z5, .slice la ll lc, .slice oa ol oc]:=by
 obtain⟨k,key,⟨a,b,n,t,l,o⟩⟩:=p
 have h1:=h.now
 unfold dQ at h1
 simp only[Holds]at h1
 obtain⟨_,_,rfl,⟨rfl,_⟩,_,_,rfl,⟨rfl,_⟩,cv,_,rfl,h4,rfl⟩:=h1
 have h6:=holdsV_of _ _ h4
 simp only[HoldsV]at h6
 obtain⟨la,lc,oa,oc,rfl,_,_⟩:=h6
 exact⟨_,_,_,_,_,_,_,_,_,_,rfl⟩
structure PatI (w:World) (b0 gF:Nat) (l:List Val) (q:Nat) (wr:World) (V:Value):Prop where
 below:Below w.heap.size w wr
 fld:LookIs wr gF 3 fieldV
 ge:w.heap.size≤b0∧gF<b0∧b0≤wr.heap.size
 row:RowD b0 67 8 wr (dQs (readOps (l.take q)).2) V
theorem PatI.call {w:World} {b0 gF:Nat} {l:List Val} {q:Nat} {wr w':World} {V:Value} (h:PatI w b0 gF l q wr V) (hb:Below wr.heap.size wr w'):PatI w b0 gF l q w' V:=
 ⟨h.below.trans (hb.mono h.below.size),h.fld.below hb h.fld.lt,⟨h.ge.1,h.ge.2.1,Nat.le_trans h.ge.2.2 hb.size⟩,h.row.below hb⟩
def OfPost (v:Val) (w:World) (e:Ending) (w':World):Prop:=Below w.heap.size w w'∧
 if(opsOf v).1≠0 then e= .returned (.tuple #[.slice none 0 0, .int .i64 (opsOf v).1])else
  ∃a c,e= .returned (.tuple #[.slice a (opsOf v).2.length c, .int .i64 0])∧Fresh w.heap.size w' (.row 8 (dQs (opsOf v).2)) [.slice a (opsOf v).2.length c]
theorem OfPost.no {v:Val} {w w':World} {c:Int} (h:(opsOf v).1=c) (hc:c≠0) (hb:Below w.heap.size w w'):OfPost v w (.returned (.tuple #[.slice none 0 0, .int .i64 c])) w':=
 ⟨hb,by rw[if_pos (by omega),h]⟩
theorem opsOf_parts {k':Int} {b':Bool} {n':Int} {t':ByteArray} {l':List Val} {o':List (ByteArray×Val)} (hm:mayV (.mk k' b' n' t' l' o') 1=0) (hk:k'=5):opsOf (.mk k' b' n' t' l' o')=if(readOps l').1≠0 then((readOps l').1, [])else if mayOps none (readOps l').2=0 then(0,(readOps l').2)else(mayOps none (readOps l').2, []):=by
 unfold opsOf
 rw[if_neg (by omega),if_neg (show ¬kindV (.mk k' b' n' t' l' o')≠5 from fun h=>h hk)]
 rfl
theorem readOps_len: ∀(l:List Val),(readOps l).2.length≤l.length
 | []=>Nat.le_refl _
 |v::l=>by
  unfold readOps
  have:=readOps_len l
  split
  · exact Nat.zero_le _
  split
  · exact Nat.zero_le _
  · simp only[List.length_cons];omega
theorem readOps_bulk: ∀{l:List Val},(∀v ∈ l,inV v∧mayV v 2=0)→(readOps l).1=0→bulkQ (readOps l).2≤3*bulkL l∧inQ (readOps l).2
 | [],_,_=>⟨Nat.zero_le _,fun p h=>by cases h⟩
 |v::l,hm,h=>by
  unfold readOps at h ⊢
  by_cases h1:(readOp v).1≠0
  · rw[if_pos h1]at h;exact absurd h h1
  rw[if_neg h1]at h ⊢
  by_cases h2:(readOps l).1≠0
  · rw[if_pos h2]at h;exact absurd h h2
  rw[if_neg h2]
  obtain⟨i1,i2⟩:=readOps_bulk (fun x hx=>hm x (List.mem_cons_of_mem _ hx)) (by simpa using h2)
  obtain⟨m1,m2⟩:=hm v (List.mem_cons_self ..)
  have e:=progOp_eq m2
  obtain⟨b1,b2⟩:=op_bounds m1 (by rw[e];simpa using h1)
  rw[e]at b1 b2
  refine⟨by simp only[bulkQ,bulkL];omega,fun p hp=> ?_⟩
  rcases List.mem_cons.1 hp with rfl|hp
  · exact b2
  · exact i2 p hp
set_option maxRecDepth 100000 in
set_option maxHeartbeats 16000000 in
theorem of_calls (k':Int) (b':Bool) (n':Int) (t':ByteArray) (l':List Val) (o':List (ByteArray×Val)) (la lc oa oc) (w:World) (hT:Tabs w)
 (h:Holds w w.heap.size (dV (.mk k' b' n' t' l' o')) [.int .i64 k', .bool b', .int .i64 n', .string t', .slice la l'.length lc, .slice oa o'.length oc]) (hb:(Val.mk k' b' n' t' l' o').bulk≤30000000) (hi:inV (.mk k' b' n' t' l' o')):
 Calls Tryz.prog 60 #[.agg #[.int .i64 k', .bool b', .int .i64 n', .string t', .slice la l'.length lc, .slice oa o'.length oc]] w (OfPost (.mk k' b' n' t' l' o') w):=by
 obtain⟨wi,hwi⟩: ∃wi,w.alloc (.cells #[.int .i64 k', .bool b', .int .i64 n', .string t', .slice la l'.length lc, .slice oa o'.length oc] 39)=wi:=⟨_,rfl⟩
 have hbi:Below w.heap.size w wi:=hwi▸alloc_below _ _
 have hxi:Blk wi w.heap.size 39 #[.int .i64 k', .bool b', .int .i64 n', .string t', .slice la l'.length lc, .slice oa o'.length oc]:=hwi▸Blk.new _ _ _
 have hMay:=May_calls (.mk k' b' n' t' l' o') [.int .i64 k', .bool b', .int .i64 n', .string t', .slice la l'.length lc, .slice oa o'.length oc] wi (hT.below hbi) (holdsV_of _ _ ((h.below hbi).more hbi.size)) (by omega)
 obtain⟨x0,x1,x2,x3,x4,x5⟩:=vcell hxi
 have xl:=hxi.lt
 obtain⟨M,hM⟩: ∃M,mayV (.mk k' b' n' t' l' o') 1=M:=⟨_,rfl⟩
 rw[hM]at hMay
 have HMay:=Lib.hid hMay
 have Hbi:=Lib.hid hbi
 have Hxi:=Lib.hid hxi
 have H:=Lib.hid h
 have HT:=Lib.hid hT
 have Hi:=Lib.hid hi
 clear hMay hbi hxi h hT hi
 go_enter Tryz.func60,Tryz.ntmps60
 go_upto_region 1 with(fail)
 clear hwi
 go_wp2_with (fail)
 with_reducible refine(HMay.out).mono ?_
 rintro e w1 ⟨rfl,hb1⟩
 have hw1:=Hbi.out.trans (hb1.mono Hbi.out.size)
 have hx1:=Hxi.out.below hb1 Hxi.out.lt
 by_cases hm:M=0
 rotate_left
 · have tM:(M != 0)=true:=by simpa using hm
   have hP:=OfPost.no (v:= .mk k' b' n' t' l' o') (show(opsOf (.mk k' b' n' t' l' o')).1=M by unfold opsOf;rw[if_pos (by omega)];exact hM) hm hw1
   have HP:=Lib.hid hP
   clear hP
   clear hm hM
   go_wp2
   go_ret2
   exact HP.out
 subst hm
 have y0:=hx1.cell 0
 have y4:=hx1.cell 4
 have yl:=hx1.lt
 by_cases hk:k'=5
 rotate_left
 · have e5:(k' != 5)=true:=by simpa using hk
   have hP:=OfPost.no (v:= .mk k' b' n' t' l' o') (show(opsOf (.mk k' b' n' t' l' o')).1=9 by unfold opsOf;rw[if_neg (by omega),if_pos (show kindV (.mk k' b' n' t' l' o')≠5 from hk)]) (by omega) hw1
   have HP:=Lib.hid hP
   have Hb1:=Lib.hid hb1
   have Hw1:=Lib.hid hw1
   have Hx1:=Lib.hid hx1
   clear hP hb1 hw1 hx1
   clear hk hM x0 x1 x2 x3 x4 x5 xl
   go_wp2
   go_ret2
   exact HP.out
 subst hk
 have hop:=opsOf_parts hM rfl
 have hel: ∀v ∈ l',inV v∧mayV v 2=0:=fun v hv=>⟨inL_mem Hi.out.2.1 hv,mayL_all (mayV_parts hM).2.2.2.1 v hv⟩
 have hF:=fun W=>fields_calls W
 obtain⟨j0,hj,hy0,hy1,hy2⟩:=info_parts op_info
 have hbl:3*bulkL l'≤90000000:=by simp only[Val.bulk]at hb;omega
 have hll:l'.length≤30000000:=by have:=bulkL_len l';omega
 have Hb1:=Lib.hid hb1
 have Hw1:=Lib.hid hw1
 have Hx1:=Lib.hid hx1
 have Hop:=Lib.hid hop
 have Hel:=Lib.hid hel
 have HF:=Lib.hid hF
 have HM:=Lib.hid hM
 have Hj:=Lib.hid hj
 have Hy0:=Lib.hid hy0
 have Hy1:=Lib.hid hy1
 have Hy2:=Lib.hid hy2
 have Hbl:=Lib.hid hbl
 clear hb1 hw1 hx1 hop hel hF hM hj hy0 hy1 hy2 hbl
 clear x0 x1 x2 x3 x4 x5 xl
 go_wp2_with (fail)
 with_reducible refine(HF.out _).mono ?_
 rintro e w2 ⟨gF,rfl,hge,hLk,hb2⟩
 have hx2:=Hx1.out.below hb2 Hx1.out.lt
 have hw2:=Hw1.out.trans (hb2.mono Hw1.out.size)
 have hI0:PatI w w2.heap.size gF l' 0 w2 (.slice none 0 0):=⟨hw2,hLk,⟨hw2.size,hLk.lt,Nat.le_refl _⟩,RowD.nil _ _ _ _⟩
 have hr0:(readOps (l'.take 0)).1=0:=rfl
 have u4:=hx2.cell 4
 have ul:=hx2.lt
 have hhi:w.heap.size≤w2.heap.size:=hw2.size
 have HI0:=Lib.hid hI0
 have Hr0:=Lib.hid hr0
 have Hx2:=Lib.hid hx2
 have HLk:=Lib.hid hLk
 have Hb2:=Lib.hid hb2
 have Hw2:=Lib.hid hw2
 have Hhi:=Lib.hid hhi
 clear hI0 hr0 hx2 hLk hb2 hw2 hhi
 clear y0 y4 yl hge
 go_wp2_with (fail)
 go_loopw [6,24] (fun V i wr=> ∃q:Nat,i= .int .i64 q∧q≤l'.length∧Hid ((readOps (l'.take q)).1=0)∧Hid (PatI w w2.heap.size gF l' q wr V)) (fun _ i _=>l'.length - (intOf i).toNat)
 case atStart=>exact⟨0,rfl,Nat.zero_le _,Hr0,HI0⟩
 case round=>
  obtain⟨q,rfl,hq,hr,hI⟩:=hrel
  clear HI0 Hr0
  have hq0:(0:Int)≤q:=by omega
  by_cases hlt:q<l'.length
  · obtain⟨x,hx⟩: ∃v,l'[q]? =some v:=⟨_,List.getElem?_eq_getElem hlt⟩
    have hmem:=List.mem_of_getElem? hx
    have hbe:=bulkL_mem hmem
    obtain⟨i1,i2⟩:=Hel.out x hmem
    have hpo:=progOp_eq i2
    have htk:l'.take (q+1)=l'.take q++ [x]:=by rw[List.take_add_one,hx];simp
    have hone:=readOps_one (v:=x) hr.out
    obtain⟨ek,eb,en,et,el,eo⟩:=x
    have hz:=hI.out.below.size
    obtain⟨g,off,rfl,hg,ela,elc,eoa,eoc,hv,c0,c1,c2,c3,c4,c5⟩:=elL_at (list_row ((H.out.below hI.out.below).more hz)) hx
    have hq1:(q:Int)<(l'.length:Int):=by omega
    have hIa:=hI.out.call (alloc_below wr (.cells #[.int .i64 ek, .bool eb, .int .i64 en, .string et, .slice ela el.length elc, .slice eoa eo.length eoc] 39))
    have hC:=read_calls ek eb en et el eo ela elc eoa eoc gF (wr.alloc (.cells #[.int .i64 ek, .bool eb, .int .i64 en, .string et, .slice ela el.length elc, .slice eoa eo.length eoc] 39)) (hv.later (alloc_below _ _)) (by have:=Hbl.out;omega) hIa.fld
    have hsz:wr.heap.size≤(wr.alloc (.cells #[.int .i64 ek, .bool eb, .int .i64 en, .string et, .slice ela el.length elc, .slice eoa eo.length eoc] 39)).heap.size:=by simp
    have HIa:=Lib.hid hIa
    have HC:=Lib.hid hC
    have Hv:=Lib.hid hv
    have Hx:=Lib.hid hx
    have Htk:=Lib.hid htk
    have Hone:=Lib.hid hone
    have Hsz:=Lib.hid hsz
    have Hpo:=Lib.hid hpo
    clear hIa hC hv hx htk hone hsz hpo
    clear hmem hbe i1 i2 hz
    go_wp2_with (fail)
    with_reducible refine(HC.out).mono ?_
    rintro e w4 ⟨hb4,cs8,rfl,hn8,hf8⟩
    rw[Hpo.out]at hf8 hn8 ⊢
    have hI4:=HIa.out.call hb4
    by_cases hc:(readOp (.mk ek eb en et el eo)).1=0
    rotate_left
    · have tC:((readOp (.mk ek eb en et el eo)).1 != 0)=true:=by simpa using hc
      have hP:=OfPost.no (v:= .mk 5 b' n' t' l' o') (w:=w) (w':=w4.alloc (.cells zero8 67)) (c:=(readOp (.mk ek eb en et el eo)).1) (by
       have h1:=Hone.out
       rw[if_pos hc,←Htk.out]at h1
       have h2:=readOps_pre (l:=l'.take (q+1)) (r:=l'.drop (q+1)) (by rw[h1];exact hc)
       rw[List.take_append_drop,h1]at h2
       rw[Hop.out,if_pos (by rw[h2];exact hc),h2]) hc (hI4.call (alloc_below _ _)).below
      obtain rfl:=hn8 hc
      generalize (readOp (.mk ek eb en et el eo)).1=C at tC hP
      have HP:=Lib.hid hP
      have HI4:=Lib.hid hI4
      clear hP hI4
      clear hc hf8 hb4
      go_wp2
      go_ret2
      exact HP.out
    have hf9:=hf8 hc
    obtain⟨z2,z3,z4,z5,xla,xlc,xoa,xoc,xll,xol,rfl⟩:=eight_now hf9
    rw[hc]
    have htk2:dQs (readOps (l'.take q)).2++ [dQ (readOp (.mk ek eb en et el eo)).2]=dQs (readOps (l'.take (q+1))).2:=by
     rw[Htk.out,Hone.out,if_neg (by omega)]
     simp[dQs]
    have hr1:(readOps (l'.take (q+1))).1=0:=by rw[Htk.out,Hone.out,if_neg (by omega)]
    generalize (readOp (.mk ek eb en et el eo)).2=OP at hf9 htk2 ⊢
    obtain⟨aV,cV,rfl⟩:=hI.out.row.slice
    have hrow:=hI.out.row
    have hdl:(dQs (readOps (l'.take q)).2).length≤q:=by
     have:=readOps_len (l'.take q)
     rw[dQs_len]
     rw[List.length_take]at this
     omega
    have hLo:(dQs (readOps (l'.take q)).2).length+1≤maxLen∧((dQs (readOps (l'.take q)).2).length+1)*112≤140737488355328:=⟨by simp only[maxLen];omega,by omega⟩
    have hfe:Fresh wr.heap.size ((w4.alloc (.cells #[.int .i64 OP.k, .string OP.key, .int .i64 z2, .bool z3, .int .i64 z4, .string z5, .slice xla xll xlc, .slice xoa xol xoc] 67)).alloc (.cells #[.int .i64 OP.k, .string OP.key, .int .i64 z2, .bool z3, .int .i64 z4, .string z5, .slice xla xll xlc, .slice xoa xol xoc] 67)) (dQ OP) [.int .i64 OP.k, .string OP.key, .int .i64 z2, .bool z3, .int .i64 z4, .string z5, .slice xla xll xlc, .slice xoa xol xoc]:=
     ((hf9.keep (b':=wr.heap.size) Hsz.out (Nat.le_refl _) (fun _ _ _=>rfl)).later (alloc_below _ _)).later (alloc_below _ _)
    have hb4':Below wr.heap.size wr w4:=(alloc_below wr (.cells #[.int .i64 ek, .bool eb, .int .i64 en, .string et, .slice ela el.length elc, .slice eoa eo.length eoc] 39)).trans (hb4.mono Hsz.out)
    have hbe:Below wr.heap.size wr ((w4.alloc (.cells #[.int .i64 OP.k, .string OP.key, .int .i64 z2, .bool z3, .int .i64 z4, .string z5, .slice xla xll xlc, .slice xoa xol xoc] 67)).alloc (.cells #[.int .i64 OP.k, .string OP.key, .int .i64 z2, .bool z3, .int .i64 z4, .string z5, .slice xla xll xlc, .slice xoa xol xoc] 67)):=(hb4'.alloc hb4'.size _).alloc (by have:=hb4'.size;simp;omega) _
    have hI5:=(hI4.call (alloc_below w4 (.cells #[.int .i64 OP.k, .string OP.key, .int .i64 z2, .bool z3, .int .i64 z4, .string z5, .slice xla xll xlc, .slice xoa xol xoc] 67))).call (alloc_below (w4.alloc (.cells #[.int .i64 OP.k, .string OP.key, .int .i64 z2, .bool z3, .int .i64 z4, .string z5, .slice xla xll xlc, .slice xoa xol xoc] 67)) (.cells #[.int .i64 OP.k, .string OP.key, .int .i64 z2, .bool z3, .int .i64 z4, .string z5, .slice xla xll xlc, .slice xoa xol xoc] 67))
    have hgeb:=hI.out.ge.2.2
    have hRd:=reads_eight (w4.alloc (.cells #[.int .i64 OP.k, .string OP.key, .int .i64 z2, .bool z3, .int .i64 z4, .string z5, .slice xla xll xlc, .slice xoa xol xoc] 67)) (.int .i64 OP.k) (.string OP.key) (.int .i64 z2) (.bool z3) (.int .i64 z4) (.string z5) (.slice xla xll xlc) (.slice xoa xol xoc)
    rw[World.size_alloc]at hRd
    have HRd:=Lib.hid hRd
    clear hRd
    have Hrow:=Lib.hid hrow
    have HLo:=Lib.hid hLo
    have Hfe:=Lib.hid hfe
    have Hbe:=Lib.hid hbe
    have HI5:=Lib.hid hI5
    have Htk2:=Lib.hid htk2
    have Hr1:=Lib.hid hr1
    have HI4:=Lib.hid hI4
    clear hrow hLo hfe hbe hI5 htk2 hr1 hI4
    clear hf8 hf9 hn8 hb4 hb4' hc
    go_wp2_with (at_builtin;apply Shut.out)
    unfold Shut
    refine wpList_append_D (d:=dQ OP) (V:= .slice aV (dQs (readOps (l'.take q)).2).length cV) rfl (.tmp 37) (.tmp 39) 45 rfl Tryz.underlying45 Hj.out Hy0.out Hy1.out Hy2.out rfl (by omega) rfl Hrow.out hgeb Hbe.out (dQ_cells _) Hfe.out rfl HRd.out HLo.out.1 HLo.out.2 ?_
    intro V6 w6 hrow6 hg6 hat6
    have HN:=Lib.hid (And.intro hrow6 hg6)
    clear hrow6 hg6 hat6
    go_wp2
    have hN:Hid (PatI w w2.heap.size gF l' (q+1) w6 V6):=by
     refine Lib.hid ?_
     obtain⟨hrow6,hg6⟩:=HN.out
     rw[Htk2.out]at hrow6
     have hne:some gF≠(Value.slice aV (dQs (readOps (l'.take q)).2).length cV).ownBlock:=by
      intro e
      have:=Hrow.out.base gF e.symm
      have:=HI5.out.ge.2.1
      omega
     exact⟨below_app HI5.out.below hg6 Hrow.out HI5.out.ge.1 HI5.out.below.size,HI5.out.fld.keep (hg6.block gF HI5.out.fld.lt hne),⟨HI5.out.ge.1,HI5.out.ge.2.1,Nat.le_trans HI5.out.ge.2.2 hg6.size⟩,hrow6⟩
    clear HN
    go_roundw
    case rel=>exact⟨q+1,by go_num,by omega,Hr1,hN⟩
    case measure=>simp only[intOf];omega
  · obtain rfl:q=l'.length:=by omega
    rw[List.take_length]at hr
    have hln:(dQs (readOps (l'.take l'.length)).2).length=(readOps l').2.length:=by rw[List.take_length,dQs_len]
    obtain⟨aV,cV,rfl⟩:=hI.out.row.slice_n hln
    obtain⟨a',c',e',_,hfr,_⟩:=hI.out.row.close
    rw[hln]at e' hfr
    rw[List.take_length]at hfr
    obtain⟨rfl,rfl⟩:aV=a'∧cV=c':=by simpa using e'
    obtain⟨hbq,hiq⟩:=readOps_bulk Hel.out hr.out
    have hMy:=patMay_calls (readOps l').2 aV (readOps l').2.length cV wr (HT.out.below hI.out.below) hfr.now (by have:=Hbl.out;omega) hiq
    have hbw:=hI.out.below
    have hop:=Hop.out
    rw[if_neg (show ¬(readOps l').1≠0 from fun h=>h hr.out)]at hop
    obtain⟨X,hX⟩: ∃X,mayOps none (readOps l').2=X:=⟨_,rfl⟩
    rw[hX]at hMy hop
    generalize (readOps l').2=OPS at hMy hfr hop
    have HMy:=Lib.hid hMy
    have Hfr:=Lib.hid hfr
    have Hbw:=Lib.hid hbw
    have Hop:=Lib.hid hop
    clear hMy hfr hbw hop
    clear hI hr hln hbq hiq hX e'
    go_wp2_with (fail)
    with_reducible refine(HMy.out).mono ?_
    rintro e w9 ⟨rfl,hb9⟩
    have hwf:=Hbw.out.trans (hb9.mono Hbw.out.size)
    have hff:=Hfr.out.later hb9
    by_cases hX0:X=0
    · subst hX0
      have hop2:=Hop.out
      rw[if_pos rfl]at hop2
      have Hop2:=Lib.hid hop2
      have Hff:=Lib.hid hff
      have Hwf:=Lib.hid hwf
      clear hop2 hff hwf
      clear hb9
      go_wp2
      go_ret2
      refine⟨Hwf.out, ?_⟩
      rw[Hop2.out,if_neg (fun h=>h rfl)]
      exact⟨aV,cV,rfl,Hff.out.keep (by have:=Hhi.out;omega) (Nat.le_refl _) (fun _ _ _=>rfl)⟩
    · have tX:(X != 0)=true:=by simpa using hX0
      have hop2:=Hop.out
      rw[if_neg hX0]at hop2
      have hP:=OfPost.no (v:= .mk 5 b' n' t' l' o') (c:=X) (by rw[hop2]) hX0 hwf
      have HP:=Lib.hid hP
      clear hP
      clear hb9 hX0 hff hwf hop2
      go_wp2
      go_ret2
      exact HP.out
end Go.Proofs.YtackmnbpfbaemaaGreatDoor

namespace Go.Proofs.YtackmnbpfbaemaaGreatDoor
open Go Go.RowKit
set_option maxRecDepth 100000 in
set_option maxHeartbeats 4000000 in
theorem patClo_calls (x:Val) (cs:List Value) (b X Q:Nat) (c0 c1 c2 c3 c4:Value) (W:World) (hT:Tabs W) (hf:Fresh b W (dV x) cs) (hbW:b≤W.heap.size) (hXb:X<b) (hX:Blk W X 47 #[c0,c1,c2,c3,c4]) (hQ:Blk W Q 111 #[.pointer (some ⟨X,0,none⟩)]) (hi:inV x) (hb:x.bulk≤30000000):
 Calls Tryz.prog 59 #[.agg cs.toArray, .pointer (some ⟨Q,0,none⟩)] W fun e W'=>e= .returned (.int .i64 (opsOf x).1)∧W.grownBy W' (some X)∧((opsOf x).1=0→ ∃la lc,Blk W' X 47 #[c0,c1,c2,c3, .slice la (opsOf x).2.length lc]∧Fresh b W' (.row 8 (dQs (opsOf x).2)) [.slice la (opsOf x).2.length lc]):=by
 obtain⟨k,bb,n,t,l,o⟩:=x
 obtain⟨la,lc,oa,oc,rfl⟩:=six_now hf
 obtain⟨wi,hwi⟩: ∃wi,W.alloc (.cells #[.int .i64 k, .bool bb, .int .i64 n, .string t, .slice la l.length lc, .slice oa o.length oc] 39)=wi:=⟨_,rfl⟩
 have hbi:Below W.heap.size W wi:=hwi▸alloc_below _ _
 have hxi:Blk wi W.heap.size 39 #[.int .i64 k, .bool bb, .int .i64 n, .string t, .slice la l.length lc, .slice oa o.length oc]:=hwi▸Blk.new _ _ _
 have hC:=of_calls k bb n t l o la lc oa oc wi (hT.below hbi) ((hf.later hbi).now) hb hi
 have hX1:=hX.below hbi hX.lt
 have hQ1:=hQ.below hbi hQ.lt
 obtain⟨x0,x1,x2,x3,x4,x5⟩:=vcell hxi
 have xl:=hxi.lt
 obtain⟨⟨C,OPS⟩,hRES⟩: ∃r,opsOf (.mk k bb n t l o)=r:=⟨_,rfl⟩
 rw[hRES]
 have HC:=Lib.hid hC
 have Hbi:=Lib.hid hbi
 have Hxi:=Lib.hid hxi
 have HX1:=Lib.hid hX1
 have HQ1:=Lib.hid hQ1
 have Hf:=Lib.hid hf
 have HT:=Lib.hid hT
 have HRES:=Lib.hid hRES
 clear hC hbi hxi hX1 hQ1 hf hT hRES
 clear hX hQ
 go_enter Tryz.func59,Tryz.ntmps59
 go_upto_region 1 with(fail)
 clear hwi
 go_wp2_with (fail)
 with_reducible refine(HC.out).mono ?_
 rintro e w2 ⟨hb2,hr⟩
 have hX2:=HX1.out.below hb2 HX1.out.lt
 have hQ2:=HQ1.out.below hb2 HQ1.out.lt
 have q0:=hQ2.cell 0
 have ql:=hQ2.lt
 have y4:=hX2.cell 4
 have fz:=hX2.frozen
 have yl:=hX2.lt
 have hw2:=Hbi.out.trans (hb2.mono Hbi.out.size)
 have hzi:=Hbi.out.size
 rw[HRES.out]at hr
 simp only at hr
 by_cases hc:C=0
 · rw[if_neg (fun h=>h hc)]at hr
   obtain⟨sa,sc,rfl,hfr⟩:=hr
   subst hc
   have hset:=hX2.set_ 4 (.slice sa OPS.length sc)
   have hgr:W.grownBy (w2.setCell ⟨X,4,none⟩ (.slice sa OPS.length sc)) (some X):=grownBy_set (grownBy_of_below _ hw2) _ (.inl rfl) _
   have hff:Fresh b (w2.setCell ⟨X,4,none⟩ (.slice sa OPS.length sc)) (.row 8 (dQs OPS)) [.slice sa OPS.length sc]:=hfr.keep (by omega) (by simp[World.setCell]) fun p p1 _=>World.cell?_of_block (Below.heap_setCell _ _ _ _ (by intro e;simp at e;omega))
   have Hset:=Lib.hid hset
   have Hgr:=Lib.hid hgr
   have Hff:=Lib.hid hff
   have HX2:=Lib.hid hX2
   have HQ2:=Lib.hid hQ2
   have Hw2:=Lib.hid hw2
   have Hfr:=Lib.hid hfr
   clear hset hgr hff hX2 hQ2 hw2 hfr
   clear hb2
   go_wp2
   go_ret
   exact⟨rfl,Hgr.out,sa,sc,Hset.out,Hff.out⟩
 · rw[if_pos hc]at hr
   obtain rfl:=hr
   have hgr:W.grownBy (w2.setCell ⟨X,4,none⟩ (.slice none 0 0)) (some X):=grownBy_set (grownBy_of_below _ hw2) _ (.inl rfl) _
   have hno: ∀P:Prop,C=0→P:=fun P h=>absurd h hc
   have Hgr:=Lib.hid hgr
   have HX2:=Lib.hid hX2
   have HQ2:=Lib.hid hQ2
   have Hw2:=Lib.hid hw2
   have Hno:=Lib.hid hno
   clear hgr hX2 hQ2 hw2 hno
   clear hb2 hc
   go_wp2
   go_ret
   exact⟨rfl,Hgr.out,fun h=>Hno.out _ h⟩
end Go.Proofs.YtackmnbpfbaemaaGreatDoor
