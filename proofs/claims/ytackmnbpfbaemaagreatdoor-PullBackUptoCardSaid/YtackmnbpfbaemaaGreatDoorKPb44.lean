/- Parts, joined: patch.read: the op whose object it is, or why none. Condition: a bulk of at most 10^8. -/
import Derived.Test.YtackmnbpfbaemaaGreatDoorProg
import Derived.BigQuiet
import Derived.Deep.QuietTactic
import Derived.Deep.RegionWith
import Derived.Deep.RegionHeld3
import Derived.Test.YtackmnbpfbaemaaGreatDoorKPb37
import Derived.Test.YtackmnbpfbaemaaGreatDoorKPb38
import Derived.Test.YtackmnbpfbaemaaGreatDoorKPb41
namespace Go.Proofs.YtackmnbpfbaemaaGreatDoor
open Go Go.RowKit
theorem results_op_t {fn:Func} {t u:Tmp} {tmps:Array Value} {W:World} {R:Nat} {a0 a1 a2 a3 a4 a5 a6 a7:Value} (h:fn.results= #[.cell t 67, .tmp u]) (hp:tmps.getD t undef= .pointer (some ⟨R,0,none⟩)) (hx:Blk W R 67 #[a0,a1,a2,a3,a4,a5,a6,a7]):
 (results fn tmps).run Tryz.prog W= .ok (.tuple #[.agg #[a0,a1,a2,a3,a4,a5,a6,a7],tmps.getD u undef]) W:=by
 obtain⟨c0,c1,c2,c3,c4,c5,c6,c7⟩:=ocell hx
 clear hx
 have hp':tmps[t]?.getD undef= .pointer (some ⟨R,0,none⟩):=by simpa using hp
 simp[results,h,hp',go_sem,c0,c1,c2,c3,c4,c5,c6,c7]
abbrev zero8:Array Value:= #[.int .i64 0, .string ⟨#[]⟩, .int .i64 0, .bool false, .int .i64 0, .string ⟨#[]⟩, .slice none 0 0, .slice none 0 0]
def OpPost (v:Val) (w:World) (e:Ending) (w':World):Prop:=Below w.heap.size w w'∧ ∃cs:List Value,e= .returned (.tuple #[.agg cs.toArray, .int .i64 (progOp v).1])∧((progOp v).1≠0→cs=zero8.toList)∧((progOp v).1=0→Fresh w.heap.size w' (dQ (progOp v).2) cs)
theorem OpPost.no {v:Val} {w w':World} {c:Int} (h:progOp v=(c,noOp)) (hc:c≠0) (hb:Below w.heap.size w w'):OpPost v w (.returned (.tuple #[.agg zero8, .int .i64 c])) w':=
 ⟨hb,zero8.toList,by rw[h],fun _=>rfl,fun e=>by rw[h]at e;exact absurd e hc⟩
structure RI (w:World) (six:Array Value) (wr:World):Prop where
 below:Below w.heap.size w wr
 box:Blk wr w.heap.size 39 six
 res:Blk wr (w.heap.size+1) 67 zero8
theorem RI.alloc {w wr:World} {six:Array Value} (h:RI w six wr) (o:Obj):RI w six (wr.alloc o):=⟨h.below.alloc h.below.size o,h.box.alloc o,h.res.alloc o⟩
theorem RI.call {w wr w':World} {six:Array Value} (h:RI w six wr) (hb:Below wr.heap.size wr w'):RI w six w':=⟨h.below.trans (hb.mono h.below.size),h.box.below hb h.box.lt,h.res.below hb h.res.lt⟩
theorem RI.zero {w wr:World} {six:Array Value} (h:RI w six wr):Blk (setMany wr (w.heap.size+1) 0 zero8.toList) (w.heap.size+1) 67 zero8∧Below w.heap.size w (setMany wr (w.heap.size+1) 0 zero8.toList):=
 ⟨(((((((h.res.set_ 0 (.int .i64 0)).set_ 1 (.string ⟨#[]⟩)).set_ 2 (.int .i64 0)).set_ 3 (.bool false)).set_ 4 (.int .i64 0)).set_ 5 (.string ⟨#[]⟩)).set_ 6 (.slice none 0 0)).set_ 7 (.slice none 0 0),setMany_below _ h.below (Nat.le_succ _)⟩
theorem MemPost.any {v:Val} {key:ByteArray} {w w':World} {e:Ending} (hk:kindV v=6) (h:MemPost v key w e w'):Below w.heap.size w w'∧ ∃xla xlc xoa xoc,∃k b n t l o,(findO key (objV' v)).getD noV= .mk k b n t l o∧
 e= .returned (.tuple #[.agg #[.int .i64 k, .bool b, .int .i64 n, .string t, .slice xla (l:List Val).length xlc, .slice xoa (o:List (ByteArray×Val)).length xoc], .int .i64 (if(findO key (objV' v)).isSome then 0 else 12)])∧
 Fresh w.heap.size w' (dV (.mk k b n t l o)) [.int .i64 k, .bool b, .int .i64 n, .string t, .slice xla l.length xlc, .slice xoa o.length xoc]:=by
 obtain⟨hb,h⟩:=h
 rw[if_neg (by omega)]at h
 refine⟨hb, ?_⟩
 cases hf:findO key (objV' v)with
 |none=>
  rw[hf]at h
  refine⟨none,0,none,0,0,false,0,nil0, [], [],rfl,h,fun w'' _ _=> ?_⟩
  exact holds_of_V _ _ (holds_zero w'' _)
 |some x=>
  rw[hf]at h
  obtain⟨cs,rfl,hfr⟩:=h
  obtain⟨k,b,n,t,l,o⟩:=x
  obtain⟨la,lc,oa,oc,rfl⟩:=six_now hfr
  exact⟨la,lc,oa,oc,k,b,n,t,l,o,rfl,rfl,hfr⟩
theorem getD_bulk {key:ByteArray} {k':Int} {b':Bool} {n':Int} {t':ByteArray} {l':List Val} {o':List (ByteArray×Val)} (hb:(Val.mk k' b' n' t' l' o').bulk≤100000000):((findO key o').getD noV).bulk≤100000000:=by
 cases h:findO key o' with
 |none=>decide
 |some x=>
  have h1:=bulkO_mem (findO_some h)
  have h2:bulkO o'≤(Val.mk k' b' n' t' l' o').bulk:=by simp only[Val.bulk];omega
  simp only at h1
  show x.bulk≤_
  omega
theorem zero_field (w:World):(zeroValue 209).run Tryz.prog w= .ok (.agg #[.int .i64 0, .bool false, .bool false]) w:=by kernel_rfl
set_option maxRecDepth 100000 in
set_option maxHeartbeats 16000000 in
theorem read_calls (k':Int) (b':Bool) (n':Int) (t':ByteArray) (l':List Val) (o':List (ByteArray×Val)) (la lc oa oc) (g:Nat) (w:World)
 (h:Holds w w.heap.size (dV (.mk k' b' n' t' l' o')) [.int .i64 k', .bool b', .int .i64 n', .string t', .slice la l'.length lc, .slice oa o'.length oc]) (hb:(Val.mk k' b' n' t' l' o').bulk≤100000000) (hM:LookIs w g 3 fieldV):
 Calls Tryz.prog 92 #[.map (some g), .agg #[.int .i64 k', .bool b', .int .i64 n', .string t', .slice la l'.length lc, .slice oa o'.length oc]] w (OpPost (.mk k' b' n' t' l' o') w):=by
 have hI0:RI w #[.int .i64 k', .bool b', .int .i64 n', .string t', .slice la l'.length lc, .slice oa o'.length oc] ((w.alloc (.cells #[.int .i64 k', .bool b', .int .i64 n', .string t', .slice la l'.length lc, .slice oa o'.length oc] 39)).alloc (.cells zero8 67)):=
  ⟨((Below.refl _ _).alloc (Nat.le_refl _) _).alloc (by simp) _,(Blk.new w _ _).alloc _,by simpa using Blk.new (w.alloc (.cells #[.int .i64 k', .bool b', .int .i64 n', .string t', .slice la l'.length lc, .slice oa o'.length oc] 39)) 67 zero8⟩
 obtain⟨wi,hwi⟩: ∃wi,(w.alloc (.cells #[.int .i64 k', .bool b', .int .i64 n', .string t', .slice la l'.length lc, .slice oa o'.length oc] 39)).alloc (.cells zero8 67)=wi:=⟨_,rfl⟩
 rw[hwi]at hI0
 have hgl:=hM.lt
 obtain⟨x0,x1,x2,x3,x4,x5⟩:=vcell hI0.box
 have xl:=hI0.box.lt
 by_cases hk:k'=6
 rotate_left
 · have e1:(k' != 6)=true:=by simpa using hk
   have hP:=fun W hW=>OpPost.no (w:=w) (w':=W) (show progOp (.mk k' b' n' t' l' o')=(9,noOp)from if_pos hk) (by omega) hW
   have HI:=Lib.hid hI0
   have HP:=Lib.hid hP
   have H:=Lib.hid h
   have HM:=Lib.hid hM
   clear hP h hM
   obtain⟨r0,r1,r2,r3,r4,r5,r6,r7⟩:=ocell hI0.res
   have fz:=hI0.res.frozen
   have lt1:=hI0.res.lt
   clear hk hI0
   go_enter Tryz.func92,Tryz.ntmps92
   go_upto_region 2 with(fail)
   clear hwi
   repeat go_step
   have hz:=HI.out.zero
   exact bodyPost_ret (results_op_t rfl rfl hz.1) rfl (HP.out _ hz.2)
 subst hk
 have hMem:=fun key (W:World) hB=>member_calls 6 b' n' t' l' o' la lc oa oc key W ((h.below (w':=W) hB).more hB.size) hb
 have hp0: ∀nm,findO kOp o'=some nm→kindV nm=4→ ∀k fk fv,fieldOf (txtV' nm)=some (k,fk,fv)→progOp (.mk 6 b' n' t' l' o')=if(findO kKey o').isSome≠fk∨(findO kVal o').isSome≠fv∨o'.length≠1+(if fk then 1 else 0)+(if fv then 1 else 0)then(10,noOp)
  else if fk=true∧kindV ((findO kKey o').getD noV)≠4 then(9,noOp)
  else(0,⟨k,txtV' ((findO kKey o').getD noV),(findO kVal o').getD noV⟩):=fun nm h1 h2 k fk fv h3=>by
  unfold progOp
  rw[if_neg (show ¬kindV (.mk 6 b' n' t' l' o')≠6 from fun h=>h rfl)]
  show(match findO kOp o' with|none=>_|some nm=>_)=_
  rw[h1]
  simp only
  rw[if_neg (by omega),h3]
  rfl
 have HMem:=Lib.hid hMem
 have HI0:=Lib.hid hI0
 have H:=Lib.hid h
 have HM:=Lib.hid hM
 have Hp0:=Lib.hid hp0
 clear hMem hI0 h hM hp0
 go_enter Tryz.func92,Tryz.ntmps92
 go_upto_region 1 with(fail)
 clear hwi
 go_wp2_with (fail)
 with_reducible refine(HMem.out kOp _ HI0.out.below).mono ?_
 rintro e w2 hr2
 obtain⟨hb2,nla,nlc,noa,noc,nk,nb,nn,nt,nl,no,hgd,rfl,hfn⟩:=MemPost.any rfl hr2
 have hI2:=(HI0.out.call hb2).alloc (.cells #[.int .i64 nk, .bool nb, .int .i64 nn, .string nt, .slice nla nl.length nlc, .slice noa no.length noc] 39)
 have hnm2:=Blk.new w2 39 #[.int .i64 nk, .bool nb, .int .i64 nn, .string nt, .slice nla nl.length nlc, .slice noa no.length noc]
 have hz2:=(HI0.out.call hb2).below.size
 have hord0:w.heap.size+1<w2.heap.size:=(HI0.out.call hb2).res.lt
 have Hord0:=Lib.hid hord0
 clear hord0
 clear hr2 x0 x1 x2 x3 x4 x5 xl
 by_cases hs:(findO kOp o').isSome=true
 rotate_left
 · rw[show(if(findO kOp (objV' (Val.mk 6 b' n' t' l' o'))).isSome=true then(0:Int)else 12)=12 from if_neg hs]
   have hP:=fun W hW=>OpPost.no (w:=w) (w':=W) (v:= .mk 6 b' n' t' l' o') (c:=10) (by
    have:findO kOp o'=none:=by simpa using hs
    unfold progOp
    rw[if_neg (show ¬kindV (.mk 6 b' n' t' l' o')≠6 from fun h=>h rfl)]
    show(match findO kOp o' with|none=>_|some nm=>_)=_
    rw[this]) (by omega) hW
   have HP:=Lib.hid hP
   have Hnm2:=Lib.hid hnm2
   have Hfn:=Lib.hid hfn
   clear hP hnm2 hfn
   clear hs hgd hb2
   obtain⟨r0,r1,r2,r3,r4,r5,r6,r7⟩:=ocell hI2.res
   have fz:=hI2.res.frozen
   have lt1:=hI2.res.lt
   have HI:=Lib.hid hI2
   go_upto_region 5 with(fail)
   repeat go_step
   have hz:=HI.out.zero
   exact bodyPost_ret (results_op_t rfl rfl hz.1) rfl (HP.out _ hz.2)
 rw[show(if(findO kOp (objV' (Val.mk 6 b' n' t' l' o'))).isSome=true then(0:Int)else 12)=0 from if_pos hs]
 obtain⟨nm,hnm⟩:=Option.isSome_iff_exists.1 hs
 obtain rfl:nm= .mk nk nb nn nt nl no:=by
  have h:=hgd
  rw[show findO kOp (objV' (Val.mk 6 b' n' t' l' o'))=some nm from hnm]at h
  exact h
 obtain⟨m0,m1,m2,m3,m4,m5⟩:=vcell hnm2
 have ml:=hnm2.lt
 by_cases h4:nk=4
 rotate_left
 · have e4:(nk != 4)=true:=by simpa using h4
   have hP:=fun W hW=>OpPost.no (w:=w) (w':=W) (v:= .mk 6 b' n' t' l' o') (c:=9) (by
    unfold progOp
    rw[if_neg (show ¬kindV (.mk 6 b' n' t' l' o')≠6 from fun h=>h rfl)]
    show(match findO kOp o' with|none=>_|some nm=>_)=_
    rw[hnm]
    exact if_pos h4) (by omega) hW
   have HP:=Lib.hid hP
   have Hnm2:=Lib.hid hnm2
   have Hfn:=Lib.hid hfn
   clear hP hnm2 hfn
   clear hs hgd hb2 h4 hnm
   obtain⟨r0,r1,r2,r3,r4,r5,r6,r7⟩:=ocell hI2.res
   have fz:=hI2.res.frozen
   have lt1:=hI2.res.lt
   have HI:=Lib.hid hI2
   go_upto_region 7 with(fail)
   repeat go_step
   have hz:=HI.out.zero
   exact bodyPost_ret (results_op_t rfl rfl hz.1) rfl (HP.out _ hz.2)
 subst h4
 have hMA:=HM.out.below hI2.below hgl
 have hlk:=run_lookL mkey_str Tryz.underlying159 hMA nt zero_field true
 cases hfo:fieldOf nt with
 |none=>
  have hfv:fieldV nt=none:=by unfold fieldV;rw[hfo];rfl
  rw[hfv]at hlk
  simp only[Option.getD_none,Option.isSome_none,if_true]at hlk
  have hP:=fun W hW=>OpPost.no (w:=w) (w':=W) (v:= .mk 6 b' n' t' l' o') (c:=12) (by
   unfold progOp
   rw[if_neg (show ¬kindV (.mk 6 b' n' t' l' o')≠6 from fun h=>h rfl)]
   show(match findO kOp o' with|none=>_|some nm=>_)=_
   rw[hnm]
   simp only
   rw[if_neg (show ¬kindV (.mk 4 nb nn nt nl no)≠4 from fun h=>h rfl),show fieldOf (txtV' (.mk 4 nb nn nt nl no))=none from hfo]) (by omega) hW
  have hI3:=hI2.alloc (.cells #[.int .i64 0, .bool false, .bool false] 209)
  have HP:=Lib.hid hP
  have Hnm2:=Lib.hid hnm2
  have Hfn:=Lib.hid hfn
  have HMA:=Lib.hid hMA
  clear hP hnm2 hfn hMA
  clear hs hgd hb2 hnm hfv
  obtain⟨r0,r1,r2,r3,r4,r5,r6,r7⟩:=ocell hI3.res
  have fz:=hI3.res.frozen
  have lt1:=hI3.res.lt
  have HI:=Lib.hid hI3
  go_upto_region 10 with(fail)
  repeat go_step
  have hz:=HI.out.zero
  exact bodyPost_ret (results_op_t rfl rfl hz.1) rfl (HP.out _ hz.2)
 |some f=>
  obtain⟨k,fk,fv⟩:=f
  have hfv:fieldV nt=some (.agg #[.int .i64 k, .bool fk, .bool fv]):=by unfold fieldV;rw[hfo];rfl
  rw[hfv]at hlk
  simp only[Option.getD_some,Option.isSome_some,if_true]at hlk
  have hp1:=Hp0.out _ hnm rfl _ _ _ hfo
  have hI3:=hI2.alloc (.cells #[.int .i64 k, .bool fk, .bool fv] 209)
  have hfb3:=Blk.new (w2.alloc (.cells #[.int .i64 4, .bool nb, .int .i64 nn, .string nt, .slice nla nl.length nlc, .slice noa no.length noc] 39)) 209 #[.int .i64 k, .bool fk, .bool fv]
  obtain⟨x0,x1,x2,x3,x4,x5⟩:=vcell hI3.box
  have xl:=hI3.box.lt
  have Hnm2:=Lib.hid hnm2
  have Hfn:=Lib.hid hfn
  have HMA:=Lib.hid hMA
  have Hp1:=Lib.hid hp1
  clear hnm2 hfn hMA hp1
  clear hs hgd hb2 hnm hfv
  go_upto_region 11 with(fail)
  clear hlk m0 m1 m2 m3 m4 m5 ml hfo
  rw[World.size_alloc]at hfb3
  generalize (w2.alloc (.cells #[.int .i64 4, .bool nb, .int .i64 nn, .string nt, .slice nla nl.length nlc, .slice noa no.length noc] 39)).alloc (.cells #[.int .i64 k, .bool fk, .bool fv] 209)=w3 at hI3 hfb3 x0 x1 x2 x3 x4 x5 xl ⊢
  have HI3:=Lib.hid hI3
  have Hfb3:=Lib.hid hfb3
  clear hI3 hfb3
  clear hI2
  go_wp2_with (fail)
  with_reducible refine(HMem.out kKey _ HI3.out.below).mono ?_
  rintro e w4 hr4
  obtain⟨hb4,ala,alc,aoa,aoc,ak,ab,an,at',al,ao,hgk,rfl,hfk⟩:=MemPost.any rfl hr4
  have hord4:w2.heap.size+1<w4.heap.size:=Nat.lt_of_lt_of_le Hfb3.out.lt hb4.size
  have hord2:w.heap.size+1<w2.heap.size:=Hord0.out
  have Hord4:=Lib.hid hord4
  have Hord2:=Lib.hid hord2
  clear hord4 hord2
  have hI4:=(HI3.out.call hb4).alloc (.cells #[.int .i64 ak, .bool ab, .int .i64 an, .string at', .slice ala al.length alc, .slice aoa ao.length aoc] 39)
  have hkb:=Blk.new w4 39 #[.int .i64 ak, .bool ab, .int .i64 an, .string at', .slice ala al.length alc, .slice aoa ao.length aoc]
  have hfb4:=(Hfb3.out.below hb4 Hfb3.out.lt).alloc (.cells #[.int .i64 ak, .bool ab, .int .i64 an, .string at', .slice ala al.length alc, .slice aoa ao.length aoc] 39)
  obtain⟨hk,hhk⟩: ∃B,(findO kKey o').isSome=B:=⟨_,rfl⟩
  obtain⟨cA,hcA⟩: ∃c:Int,(if(findO kKey (objV' (Val.mk 6 b' n' t' l' o'))).isSome=true then(0:Int)else 12)=c:=⟨_,rfl⟩
  rw[hcA]
  have ecA:(cA==0)=hk:=by
   rw[←hcA,←hhk]
   show((if(findO kKey o').isSome=true then(0:Int)else 12)==0)=_
   cases (findO kKey o').isSome<;>rfl
  clear hcA
  obtain⟨y0,y1,y2,y3,y4,y5⟩:=vcell hI4.box
  have yl:=hI4.box.lt
  have HI4:=Lib.hid hI4
  have Hkb:=Lib.hid hkb
  have Hfb4:=Lib.hid hfb4
  have Hgk:=Lib.hid hgk
  have Hfk:=Lib.hid hfk
  have Hhk:=Lib.hid hhk
  clear hI4 hkb hfb4 hgk hfk hhk
  clear hr4 hb4 x0 x1 x2 x3 x4 x5 xl
  go_wp2_with (fail)
  with_reducible refine(HMem.out kVal _ HI4.out.below).mono ?_
  rintro e w5 hr5
  obtain⟨hb5,vla,vlc,voa,voc,vk,vb,vn,vt,vl,vo,hgv,rfl,hfv⟩:=MemPost.any rfl hr5
  have hI5:=(HI4.out.call hb5).alloc (.cells #[.int .i64 vk, .bool vb, .int .i64 vn, .string vt, .slice vla vl.length vlc, .slice voa vo.length voc] 39)
  have hvb:=Blk.new w5 39 #[.int .i64 vk, .bool vb, .int .i64 vn, .string vt, .slice vla vl.length vlc, .slice voa vo.length voc]
  have hkb5:=(Hkb.out.below hb5 Hkb.out.lt).alloc (.cells #[.int .i64 vk, .bool vb, .int .i64 vn, .string vt, .slice vla vl.length vlc, .slice voa vo.length voc] 39)
  have hfb5:=(Hfb4.out.below hb5 Hfb4.out.lt).alloc (.cells #[.int .i64 vk, .bool vb, .int .i64 vn, .string vt, .slice vla vl.length vlc, .slice voa vo.length voc] 39)
  have hfk5:=(Hfk.out.later ((alloc_below w4 (.cells #[.int .i64 ak, .bool ab, .int .i64 an, .string at', .slice ala al.length alc, .slice aoa ao.length aoc] 39)).trans (hb5.mono (by simp)))).later (alloc_below w5 (.cells #[.int .i64 vk, .bool vb, .int .i64 vn, .string vt, .slice vla vl.length vlc, .slice voa vo.length voc] 39))
  have hfv5:=hfv.later (alloc_below w5 (.cells #[.int .i64 vk, .bool vb, .int .i64 vn, .string vt, .slice vla vl.length vlc, .slice voa vo.length voc] 39))
  obtain⟨hv,hhv⟩: ∃B,(findO kVal o').isSome=B:=⟨_,rfl⟩
  obtain⟨cV,hcV⟩: ∃c:Int,(if(findO kVal (objV' (Val.mk 6 b' n' t' l' o'))).isSome=true then(0:Int)else 12)=c:=⟨_,rfl⟩
  rw[hcV]
  have ecV:(cV==0)=hv:=by
   rw[←hcV,←hhv]
   show((if(findO kVal o').isSome=true then(0:Int)else 12)==0)=_
   cases (findO kVal o').isSome<;>rfl
  clear hcV
  obtain⟨f0,f1,f2⟩:(w5.alloc (.cells #[.int .i64 vk, .bool vb, .int .i64 vn, .string vt, .slice vla vl.length vlc, .slice voa vo.length voc] 39)).cell? ⟨w2.heap.size+1,0,none⟩=some (.int .i64 k)∧(w5.alloc (.cells #[.int .i64 vk, .bool vb, .int .i64 vn, .string vt, .slice vla vl.length vlc, .slice voa vo.length voc] 39)).cell? ⟨w2.heap.size+1,1,none⟩=some (.bool fk)∧(w5.alloc (.cells #[.int .i64 vk, .bool vb, .int .i64 vn, .string vt, .slice vla vl.length vlc, .slice voa vo.length voc] 39)).cell? ⟨w2.heap.size+1,2,none⟩=some (.bool fv):=⟨hfb5.cell 0,hfb5.cell 1,hfb5.cell 2⟩
  have fl:=hfb5.lt
  have hs5:w4.heap.size<w5.heap.size:=Nat.lt_of_lt_of_le (by simp) hb5.size
  have HI5:=Lib.hid hI5
  have Hvb:=Lib.hid hvb
  have Hkb5:=Lib.hid hkb5
  have Hfb5:=Lib.hid hfb5
  have Hgv:=Lib.hid hgv
  have Hfv:=Lib.hid hfv
  have Hhv:=Lib.hid hhv
  have Hfk5:=Lib.hid hfk5
  have Hfv5:=Lib.hid hfv5
  have Hs5:=Lib.hid hs5
  clear hI5 hvb hkb5 hfb5 hgv hfv hhv hfk5 hfv5 hs5
  clear hr5 hb5 y0 y1 y2 y3 y4 y5 yl
  go_upto_region 14 with(fail)
  have hI6:=HI5.out.alloc (.cells #[.int .i64 k, .bool hk, .bool hv] 209)
  have hhb:=Blk.new (w5.alloc (.cells #[.int .i64 vk, .bool vb, .int .i64 vn, .string vt, .slice vla vl.length vlc, .slice voa vo.length voc] 39)) 209 #[.int .i64 k, .bool hk, .bool hv]
  rw[World.size_alloc]at hhb
  have hvb6:=Hvb.out.alloc (.cells #[.int .i64 k, .bool hk, .bool hv] 209)
  have hkb6:=Hkb5.out.alloc (.cells #[.int .i64 k, .bool hk, .bool hv] 209)
  have hfb6:=Hfb5.out.alloc (.cells #[.int .i64 k, .bool hk, .bool hv] 209)
  have hfk6:=Hfk5.out.later (alloc_below _ (.cells #[.int .i64 k, .bool hk, .bool hv] 209))
  have hfv6:=Hfv5.out.later (alloc_below _ (.cells #[.int .i64 k, .bool hk, .bool hv] 209))
  clear f0 f1 f2 fl
  generalize (w5.alloc (.cells #[.int .i64 vk, .bool vb, .int .i64 vn, .string vt, .slice vla vl.length vlc, .slice voa vo.length voc] 39)).alloc (.cells #[.int .i64 k, .bool hk, .bool hv] 209)=w6 at hI6 hhb hvb6 hkb6 hfb6 hfk6 hfv6 ⊢
  obtain⟨P,hP⟩: ∃P:Bool,decide (hk≠fk∨hv≠fv∨o'.length≠1+(if fk then 1 else 0)+(if fv then 1 else 0))=P:=⟨_,rfl⟩
  have hw6:=Below.refl w6.heap.size w6
  have HI6:=Lib.hid hI6
  have Hhb:=Lib.hid hhb
  have Hvb6:=Lib.hid hvb6
  have Hkb6:=Lib.hid hkb6
  have Hfb6:=Lib.hid hfb6
  have Hfk6:=Lib.hid hfk6
  have Hfv6:=Lib.hid hfv6
  have Hw6:=Lib.hid hw6
  clear hI6 hhb hvb6 hkb6 hfb6 hfk6 hfv6 hw6
  clear HI5 Hvb Hkb5 Hfb5 Hfk5 Hfv5
  go_cut [68] (fun s wx=>s= .bool P∧Hid (Below w6.heap.size w6 wx))
  case first=>
   have hMm:=fun W=>fmembers_calls k fk fv W
   have v5:=HI6.out.box.cell 5
   have v5l:=HI6.out.box.lt
   obtain⟨f0,f1,f2⟩:w6.cell? ⟨w2.heap.size+1,0,none⟩=some (.int .i64 k)∧w6.cell? ⟨w2.heap.size+1,1,none⟩=some (.bool fk)∧w6.cell? ⟨w2.heap.size+1,2,none⟩=some (.bool fv):=⟨Hfb6.out.cell 0,Hfb6.out.cell 1,Hfb6.out.cell 2⟩
   obtain⟨h0,h1,h2⟩:w6.cell? ⟨w5.heap.size+1,0,none⟩=some (.int .i64 k)∧w6.cell? ⟨w5.heap.size+1,1,none⟩=some (.bool hk)∧w6.cell? ⟨w5.heap.size+1,2,none⟩=some (.bool hv):=⟨Hhb.out.cell 0,Hhb.out.cell 1,Hhb.out.cell 2⟩
   have fl:=Hfb6.out.lt
   have hl:=Hhb.out.lt
   have ekk:(k==k)=true:=by simp
   have HMm:=Lib.hid hMm
   clear hMm
   clear HMem Hfn HMA Hp1 Hgk Hfk Hgv Hfv
   by_cases hne:hk=fk∧hv=fv
   · obtain⟨rfl,rfl⟩:=hne
     obtain⟨mI,hmI⟩: ∃m:Int,((1+(if hk then 1 else 0)+(if hv then 1 else 0):Nat):Int)=m:=⟨_,rfl⟩
     have hMm:=HMm.out
     rw[hmI]at hMm
     have em:((o'.length:Int) != mI)=P:=by
      rw[←hP,←hmI,Bool.eq_iff_iff]
      simp only[bne_iff_ne,ne_eq,decide_eq_true_eq,not_true_eq_false,false_or]
      omega
     have eb1:(hk==hk)=true:=by simp
     have eb2:(hv==hv)=true:=by simp
     clear hP HMm
     have HMm:=Lib.hid hMm
     clear hMm
     go_region_with (go_at_call 132;(with_reducible refine(HMm.out _).mono ?_);rintro e w7 ⟨rfl,hb7⟩;have hw7:Below w6.heap.size w6 w7:=(Below.drew (Below.refl _ _)).trans hb7;obtain⟨hc7,hg7⟩:=bcellM hw7)
     all_goals
      have HW7:=Lib.hid hw7
      clear hc7 hg7 hb7 hw7
      go_wp2
      go_meet
      exact⟨rfl,HW7⟩
   · obtain rfl:true=P:=by
      rw[←hP]
      refine(decide_eq_true ?_).symm
      by_cases h:hk=fk
      · exact .inr (.inl fun h2=>hne ⟨h,h2⟩)
      · exact .inl h
     clear hP
     cases hk<;>cases hv<;>cases fk<;>cases fv
     all_goals first
      |exact absurd ⟨rfl,rfl⟩ hne
      |skip
     all_goals
      clear hne
      go_quiet (fail)
      go_wp2
      go_meet
      exact⟨rfl,Lib.hid ⟨rfl,rfl,rfl,Nat.le_refl _,fun _ _=>rfl⟩⟩
  case rest=>
   obtain⟨rfl,hbc⟩:=hcut
   have hIc:=HI6.out.call hbc.out
   have hfbc:=Hfb6.out.below hbc.out Hfb6.out.lt
   have hkbc:=Hkb6.out.below hbc.out Hkb6.out.lt
   have hvbc:=Hvb6.out.below hbc.out Hvb6.out.lt
   have hfvc:=Hfv6.out.later hbc.out
   have hp2:=Hp1.out
   rw[Hhk.out,Hhv.out]at hp2
   cases P with
   |true=>
    have hpo:progOp (.mk 6 b' n' t' l' o')=(10,noOp):=by
     rw[hp2,if_pos]
     exact of_decide_eq_true hP
    have HP:=Lib.hid (fun W hW=>OpPost.no (w:=w) (w':=W) hpo (by omega) hW)
    clear hp2 hpo hP
    obtain⟨r0,r1,r2,r3,r4,r5,r6,r7⟩:=ocell hIc.res
    have fz:=hIc.res.frozen
    have lt1:=hIc.res.lt
    have HI:=Lib.hid hIc
    go_upto_region 15 with(fail)
    repeat go_step
    have hz:=HI.out.zero
    exact bodyPost_ret (results_op_t rfl rfl hz.1) rfl (HP.out _ hz.2)
   |false=>
    have hno:=of_decide_eq_false hP
    rw[if_neg hno]at hp2
    have hgk':(findO kKey o').getD noV= .mk ak ab an at' al ao:=Hgk.out
    have hgv':(findO kVal o').getD noV= .mk vk vb vn vt vl vo:=Hgv.out
    rw[hgk',hgv']at hp2
    have hbv:(Val.mk vk vb vn vt vl vo).bulk≤100000000:=by rw[←hgv'];exact getD_bulk hb
    obtain⟨f0,f1⟩:wc.cell? ⟨w2.heap.size+1,0,none⟩=some (.int .i64 k)∧wc.cell? ⟨w2.heap.size+1,1,none⟩=some (.bool fk):=⟨hfbc.cell 0,hfbc.cell 1⟩
    have fl:=hfbc.lt
    obtain⟨a0,a3⟩:wc.cell? ⟨w4.heap.size,0,none⟩=some (.int .i64 ak)∧wc.cell? ⟨w4.heap.size,3,none⟩=some (.string at'):=⟨hkbc.cell 0,hkbc.cell 3⟩
    have kl:=hkbc.lt
    by_cases h9:fk=true∧ak≠4
    · obtain⟨rfl,h9⟩:=h9
      have e9:(ak != 4)=true:=by simpa using h9
      have hpo:progOp (.mk 6 b' n' t' l' o')=(9,noOp):=by
       rw[hp2,if_pos ⟨rfl,h9⟩]
      have HP:=Lib.hid (fun W hW=>OpPost.no (w:=w) (w':=W) hpo (by omega) hW)
      clear hp2 hpo hno h9 hP
      obtain⟨r0,r1,r2,r3,r4,r5,r6,r7⟩:=ocell hIc.res
      have fz:=hIc.res.frozen
      have lt1:=hIc.res.lt
      have HI:=Lib.hid hIc
      go_upto_region 17 with(fail)
      repeat go_step
      have hz:=HI.out.zero
      exact bodyPost_ret (results_op_t rfl rfl hz.1) rfl (HP.out _ hz.2)
    · rw[if_neg (show ¬(fk=true∧kindV (.mk ak ab an at' al ao)≠4)from h9)]at hp2
      have hC: ∀W,Below wc.heap.size wc W→Calls Tryz.prog 72 #[.agg #[.int .i64 vk, .bool vb, .int .i64 vn, .string vt, .slice vla vl.length vlc, .slice voa vo.length voc]] W (VCopyPost W (.mk vk vb vn vt vl vo)):=fun W hB=>vcopy_calls _ [.int .i64 vk, .bool vb, .int .i64 vn, .string vt, .slice vla vl.length vlc, .slice voa vo.length voc] W (holdsV_of _ _ (hfvc.later hB).now) hbv
      obtain⟨v0,v1,v2,v3,v4,v5⟩:=vcell hvbc
      have vl5:=hvbc.lt
      have hlow:=hIc.res.lt
      have hcase:fk=false∨(fk=true∧ak=4):=by
       cases fk with
       |false=>exact .inl rfl
       |true=>
        refine .inr ⟨rfl, ?_⟩
        by_cases h:ak=4
        · exact h
        · exact absurd ⟨rfl,h⟩ h9
      have hS: ∀W:World,Blk W (w2.heap.size+1) 209 #[.int .i64 k, .bool fk, .bool fv]→Blk W w4.heap.size 39 #[.int .i64 ak, .bool ab, .int .i64 an, .string at', .slice ala al.length alc, .slice aoa ao.length aoc]→Blk W w5.heap.size 39 #[.int .i64 vk, .bool vb, .int .i64 vn, .string vt, .slice vla vl.length vlc, .slice voa vo.length voc]→W.cell? ⟨w2.heap.size+1,0,none⟩=some (.int .i64 k)∧W.cell? ⟨w4.heap.size,3,none⟩=some (.string at')∧W.cell? ⟨w5.heap.size,0,none⟩=some (.int .i64 vk)∧W.cell? ⟨w5.heap.size,1,none⟩=some (.bool vb)∧W.cell? ⟨w5.heap.size,2,none⟩=some (.int .i64 vn)∧W.cell? ⟨w5.heap.size,3,none⟩=some (.string vt)∧W.cell? ⟨w5.heap.size,4,none⟩=some (.slice vla vl.length vlc)∧W.cell? ⟨w5.heap.size,5,none⟩=some (.slice voa vo.length voc):=fun W a b c=>⟨a.cell 0,b.cell 3,c.cell 0,c.cell 1,c.cell 2,c.cell 3,c.cell 4,c.cell 5⟩
      have hord:w.heap.size+1<w2.heap.size∧w2.heap.size+1<w4.heap.size∧w4.heap.size<w5.heap.size:=⟨Hord2.out,Hord4.out,Hs5.out⟩
      have HC:=Lib.hid hC
      have HIc:=Lib.hid hIc
      have Hfvc:=Lib.hid hfvc
      have Hvbc:=Lib.hid hvbc
      have Hkbc:=Lib.hid hkbc
      have Hfbc:=Lib.hid hfbc
      have Hp2:=Lib.hid hp2
      have HS:=Lib.hid hS
      have Hord:=Lib.hid hord
      clear hC hIc hfvc hvbc hkbc hfbc hp2 hS hord
      clear h9 hP hno hbc hgk' hgv' hbv HI6 Hfb6 Hkb6 Hvb6 Hfv6 Hhb Hfk6 HMem HMA Hp1
      rcases hcase with rfl|⟨rfl,rfl⟩
      all_goals
       go_upto_region 18 with(fail)
       refine wp_region_held_drew (S:=fun W=>W.cell? ⟨w2.heap.size+1,0,none⟩=some (.int .i64 k)∧W.cell? ⟨w4.heap.size,3,none⟩=some (.string at')∧W.cell? ⟨w5.heap.size,0,none⟩=some (.int .i64 vk)∧W.cell? ⟨w5.heap.size,1,none⟩=some (.bool vb)∧W.cell? ⟨w5.heap.size,2,none⟩=some (.int .i64 vn)∧W.cell? ⟨w5.heap.size,3,none⟩=some (.string vt)∧W.cell? ⟨w5.heap.size,4,none⟩=some (.slice vla vl.length vlc)∧W.cell? ⟨w5.heap.size,5,none⟩=some (.slice voa vo.length voc)) (by kernel_rfl) (HS.out _ Hfbc.out Hkbc.out Hvbc.out) (fun hHeld=> ?_)
       refine wpAnyH_take (i:=0) (v:= ?_) rfl (by kernel_rfl) (by kernel_rfl) (by kernel_rfl) (fun _ _ _ h=>h) (Or.inl ⟨by kernel_rfl, ?_⟩) hHeld ?_
       rotate_left
       · intro X hSw
         obtain⟨s0,s1,s2,s3,s4,s5,s6,s7⟩:=hSw
         first|(go_simp;done)|(go_simp;with_reducible rfl)
       try simp only[Act.put,List.getElem_toArray,List.getElem_cons_zero,List.setIfInBounds_toArray,List.set_cons_zero,List.set_cons_succ]
       refine wpAnyH_take (i:=1) (v:= ?_) rfl (by kernel_rfl) (by kernel_rfl) (by kernel_rfl) (fun _ _ _ h=>h) (Or.inl ⟨by kernel_rfl, ?_⟩) hHeld ?_
       rotate_left
       · intro X hSw
         obtain⟨s0,s1,s2,s3,s4,s5,s6,s7⟩:=hSw
         first|(go_simp;done)|(go_simp;with_reducible rfl)
       try simp only[Act.put,List.getElem_toArray,List.getElem_cons_succ,List.getElem_cons_zero,List.setIfInBounds_toArray,List.set_cons_zero,List.set_cons_succ]
       refine wpAnyH_take (i:=2) (v:= ?_) rfl (by kernel_rfl) (by kernel_rfl) (by kernel_rfl) (fun _ _ _ h=>h) (Or.inl ⟨by kernel_rfl, ?_⟩) hHeld ?_
       rotate_left
       · intro X hSw
         obtain⟨s0,s1,s2,s3,s4,s5,s6,s7⟩:=hSw
         first|(go_simp;done)|(go_simp;with_reducible rfl)
       try simp only[Act.put,List.getElem_toArray,List.getElem_cons_succ,List.getElem_cons_zero,List.setIfInBounds_toArray,List.set_cons_zero,List.set_cons_succ]
       refine wpAnyH_take (i:=3) (v:= ?_) rfl (by kernel_rfl) (by kernel_rfl) (by kernel_rfl) (fun _ _ _ h=>h) (Or.inl ⟨by kernel_rfl, ?_⟩) hHeld ?_
       rotate_left
       · intro X hSw
         obtain⟨s0,s1,s2,s3,s4,s5,s6,s7⟩:=hSw
         first|(go_simp;done)|(go_simp;with_reducible rfl)
       try simp only[Act.put,List.getElem_toArray,List.getElem_cons_succ,List.getElem_cons_zero,List.setIfInBounds_toArray,List.set_cons_zero,List.set_cons_succ]
       refine wpAnyH_take (i:=4) (v:= ?_) rfl (by kernel_rfl) (by kernel_rfl) (by kernel_rfl) (fun _ _ _ h=>h) (Or.inl ⟨by kernel_rfl, ?_⟩) hHeld ?_
       rotate_left
       · intro X hSw
         obtain⟨s0,s1,s2,s3,s4,s5,s6,s7⟩:=hSw
         first|(go_simp;done)|(go_simp;with_reducible rfl)
       try simp only[Act.put,List.getElem_toArray,List.getElem_cons_succ,List.getElem_cons_zero,List.setIfInBounds_toArray,List.set_cons_zero,List.set_cons_succ]
       refine wpAnyH_ready (rs:= [5]) (by kernel_rfl) (by simp) ?_
       refine AllReadyH.cons rfl (fun K hK=> ?_) AllReadyH.nil
       go_simp
       with_reducible refine(HC.out _ (Below.drew (Below.refl _ _))).mono ?_
       rintro e w8 ⟨⟨cs8,rfl,hl8,hf8⟩,hb8⟩
       obtain⟨xla,xlc,xoa,xoc,rfl⟩:=six_now hf8
       have hbr8:Below wc.heap.size wc w8:=(Below.drew (Below.refl _ _)).trans hb8
       have hI8:=HIc.out.call hbr8
       have hge8:=hbr8.size
       have hfb8:=Hfbc.out.below hbr8 Hfbc.out.lt
       have hkb8:=Hkbc.out.below hbr8 Hkbc.out.lt
       have hvb8:=Hvbc.out.below hbr8 Hvbc.out.lt
       refine hK.out _ _ (HS.out _ hfb8 hkb8 hvb8) (fun hHeld=> ?_)
       clear hK K
       try simp only[Act.put,List.setIfInBounds_toArray,List.set_cons_zero,List.set_cons_succ]
       refine wpAnyH_take (i:=6) (v:= ?_) rfl (by kernel_rfl) (by kernel_rfl) (by kernel_rfl) (fun _ _ _ h=>h) (Or.inl ⟨by kernel_rfl, ?_⟩) hHeld ?_
       rotate_left
       · intro X hSw
         obtain⟨s0,s1,s2,s3,s4,s5,s6,s7⟩:=hSw
         first|(go_simp;done)|(go_simp;with_reducible rfl)
       try simp only[Act.put,List.getElem_toArray,List.getElem_cons_succ,List.getElem_cons_zero,List.setIfInBounds_toArray,List.set_cons_zero,List.set_cons_succ]
       refine wpAnyH_ready (rs:= [7]) (by kernel_rfl) (by simp) ?_
       refine AllReadyH.cons rfl (fun K hK=> ?_) AllReadyH.nil
       obtain⟨r0,r1,r2,r3,r4,r5,r6,r7⟩:=ocell hI8.res
       have fz:=hI8.res.frozen
       have lt1:=hI8.res.lt
       have hs1:Blk (setMany w8 (w.heap.size+1) 0 [.int .i64 k, .string at', .int .i64 vk, .bool vb, .int .i64 vn, .string vt, .slice xla vl.length xlc, .slice xoa vo.length xoc]) (w2.heap.size+1) 209 _:=(setMany_far _ _ _ _ _ (by have:=Hord.out;omega)).trans hfb8
       have hs2:Blk (setMany w8 (w.heap.size+1) 0 [.int .i64 k, .string at', .int .i64 vk, .bool vb, .int .i64 vn, .string vt, .slice xla vl.length xlc, .slice xoa vo.length xoc]) w4.heap.size 39 _:=(setMany_far _ _ _ _ _ (by have:=Hord.out;omega)).trans hkb8
       have hs3:Blk (setMany w8 (w.heap.size+1) 0 [.int .i64 k, .string at', .int .i64 vk, .bool vb, .int .i64 vn, .string vt, .slice xla vl.length xlc, .slice xoa vo.length xoc]) w5.heap.size 39 _:=(setMany_far _ _ _ _ _ (by have:=Hord.out;omega)).trans hvb8
       have HI8:=Lib.hid hI8
       have Hf8:=Lib.hid hf8
       have Hbr8:=Lib.hid hbr8
       have Hs1:=Lib.hid hs1
       have Hs2:=Lib.hid hs2
       have Hs3:=Lib.hid hs3
       have Hb8:=Lib.hid hb8
       have Hfb8:=Lib.hid hfb8
       have Hkb8:=Lib.hid hkb8
       have Hvb8:=Lib.hid hvb8
       clear hI8 hf8 hbr8 hs1 hs2 hs3 hb8 hfb8 hkb8 hvb8
       go_simp
       refine hK.out _ _ (HS.out _ Hs1.out Hs2.out Hs3.out) (fun hHeld=> ?_)
       clear hK K
       try simp only[Act.put,List.setIfInBounds_toArray,List.set_cons_zero,List.set_cons_succ]
       refine wpAnyH_take (i:=8) (v:= ?_) rfl (by kernel_rfl) (by kernel_rfl) (by kernel_rfl) (fun _ _ _ h=>h) (Or.inl ⟨by kernel_rfl, ?_⟩) hHeld ?_
       rotate_left
       · intro X hSw
         obtain⟨s0,s1,s2,s3,s4,s5,s6,s7⟩:=hSw
         first|(go_simp;done)|(go_simp;with_reducible rfl)
       try simp only[Act.put,List.getElem_toArray,List.getElem_cons_succ,List.getElem_cons_zero,List.setIfInBounds_toArray,List.set_cons_zero,List.set_cons_succ]
       refine wpAnyH_done (by kernel_rfl) ?_ _
       clear hHeld r0 r1 r2 r3 r4 r5 r6 r7 fz
       repeat go_step
       have hxf:=(((((((HI8.out.res.set_ 0 (.int .i64 k)).set_ 1 (.string at')).set_ 2 (.int .i64 vk)).set_ 3 (.bool vb)).set_ 4 (.int .i64 vn)).set_ 5 (.string vt)).set_ 6 (.slice xla vl.length xlc)).set_ 7 (.slice xoa vo.length xoc)
       have hbf:=setMany_below [.int .i64 k, .string at', .int .i64 vk, .bool vb, .int .i64 vn, .string vt, .slice xla vl.length xlc, .slice xoa vo.length xoc] HI8.out.below (Nat.le_succ w.heap.size) (o:=0)
       have hff:=(dQ_fresh (k:=k) (key:=at') Hf8.out).keep (b':=w.heap.size) (w':=(setMany w8 (w.heap.size+1) 0 [.int .i64 k, .string at', .int .i64 vk, .bool vb, .int .i64 vn, .string vt, .slice xla vl.length xlc, .slice xoa vo.length xoc])) (by simp;omega) (by rw[setMany_size];exact Nat.le_refl _) (fun p p1 _=>World.cell?_of_block (setMany_far _ _ _ _ _ (by simp at p1;omega)))
       exact bodyPost_ret (results_op_t rfl rfl hxf) rfl ⟨hbf,_,by rw[Hp2.out];rfl,fun h=>absurd (show(progOp (.mk 6 b' n' t' l' o')).1=0 by rw[Hp2.out]) h,fun _=>by rw[Hp2.out];exact hff⟩
end Go.Proofs.YtackmnbpfbaemaaGreatDoor
