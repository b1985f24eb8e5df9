/- Parts: commonplaceref14.one: the op whose object it is, or why none (it lies in the object's memory). Condition: at most 10^8 members. -/
import Derived.Test.YtdbejcbbhomdbaaGreatDoorKPt33
import Derived.Test.YtdbejcbbhomdbaaGreatDoorKPt34
set_option maxHeartbeats 20000000
set_option maxRecDepth 100000
namespace Go.Proofs.YtdbejcbbhomdbaaGreatDoor
open Go Go.RowKit
theorem Av {fn:Func} {t u:Tmp} {tmps:Array Value} {W:World} {R:Nat} {a0 a1 a2 a3 a4 a5 a6 a7:Value} (h:fn.results= #[.cell t 64,.tmp u]) (hp:tmps.getD t undef=.pointer (some ⟨R,0,none⟩)) (hx:Aj W R 64 #[a0,a1,a2,a3,a4,a5,a6,a7]):
 (results fn tmps).run Tryz.prog W=.ok (.tuple #[.agg #[a0,a1,a2,a3,a4,a5,a6,a7],tmps.getD u undef]) W:=by
 obtain⟨c0,c1,c2,c3,c4,c5,c6,c7⟩:=Du hx;clear hx;have hp':tmps[t]?.getD undef=.pointer (some ⟨R,0,none⟩):=by simpa using hp
 simp[results,h,hp',go_sem,c0,c1,c2,c3,c4,c5,c6,c7]
abbrev F8:Array Value:= #[.int .i64 0,.string ⟨#[]⟩,.int .i64 0,.bool false,.int .i64 0,.string ⟨#[]⟩,.slice none 0 0,.slice none 0 0]
def Ij (v:Val) (w:World) (e:Ending) (w':World):Prop:=Below w.heap.size w w'/\ ∃cs:List Value,e=.returned (.tuple #[.agg cs.toArray,.int .i64 (C4 v).1])/\((C4 v).1≠0->cs=F8.toList)/\((C4 v).1=0->Bb w.heap.size w' (dQ (C4 v).2) cs)
theorem Ij.no {v:Val} {w w':World} {c:Int} (h:C4 v=(c,Cm)) (hc:c≠0) (hb:Below w.heap.size w w'):Ij v w (.returned (.tuple #[.agg F8,.int .i64 c])) w':=
 ⟨hb,F8.toList,by rw[h],fun _=>rfl,fun e=>by rw[h]at e;exact absurd e hc⟩
structure RI (w:World) (six:Array Value) (wr:World):Prop where
 below:Below w.heap.size w wr
 box:Aj wr w.heap.size 33 six
 res:Aj wr (w.heap.size+1) 64 F8
theorem RI.alloc {w wr:World} {six:Array Value} (h:RI w six wr) (o:Obj):RI w six (wr.alloc o):=⟨h.below.alloc h.below.size o,h.box.alloc o,h.res.alloc o⟩
theorem RI.call {w wr w':World} {six:Array Value} (h:RI w six wr) (hb:Below wr.heap.size wr w'):RI w six w':=⟨h.below.trans (hb.mono h.below.size),h.box.below hb h.box.lt,h.res.below hb h.res.lt⟩
theorem RI.zero {w wr:World} {six:Array Value} (h:RI w six wr):Aj (Bd wr (w.heap.size+1) 0 F8.toList) (w.heap.size+1) 64 F8/\Below w.heap.size w (Bd wr (w.heap.size+1) 0 F8.toList):=
 ⟨(((((((h.res.set_ 0 (.int .i64 0)).set_ 1 (.string ⟨#[]⟩)).set_ 2 (.int .i64 0)).set_ 3 (.bool false)).set_ 4 (.int .i64 0)).set_ 5 (.string ⟨#[]⟩)).set_ 6 (.slice none 0 0)).set_ 7 (.slice none 0 0),Am _ h.below (Nat.le_succ _)⟩
theorem Ii.any {v:Val} {key:ByteArray} {w w':World} {e:Ending} (hk:Bf v=6) (h:Ii v key w e w'):Below w.heap.size w w'/\ ∃xla xlc xoa xoc,∃k b n t l o,(Ap key (Bg v)).getD Lf=.mk k b n t l o/\
 e=.returned (.tuple #[.agg #[.int .i64 k,.bool b,.int .i64 n,.string t,.slice xla (l:List Val).length xlc,.slice xoa (o:List (ByteArray×Val)).length xoc],.int .i64 (if(Ap key (Bg v)).isSome then 0 else 12)])/\
 Bb w.heap.size w' (dV (.mk k b n t l o)) [.int .i64 k,.bool b,.int .i64 n,.string t,.slice xla l.length xlc,.slice xoa o.length xoc]:=by
 obtain⟨hb,h⟩:=h;rw[if_neg (by omega)]at h;refine⟨hb, ?_⟩
 cases hf:Ap key (Bg v)with
 |none=>
  rw[hf]at h;refine⟨none,0,none,0,0,false,0,Le, [], [],rfl,h,fun w'' _ _=> ?_⟩;exact D0 _ _ (Gl w'' _)
 |some x=>
  rw[hf]at h;obtain⟨cs,rfl,hfr⟩:=h;obtain⟨k,b,n,t,l,o⟩:=x;obtain⟨la,lc,oa,oc,rfl⟩:=G0 hfr;exact⟨la,lc,oa,oc,k,b,n,t,l,o,rfl,rfl,hfr⟩
theorem Zs {key:ByteArray} {k':Int} {b':Bool} {n':Int} {t':ByteArray} {l':List Val} {o':List (ByteArray×Val)} (hb:(Val.mk k' b' n' t' l' o').bulk<=100000000):((Ap key o').getD Lf).bulk<=100000000:=by
 cases h:Ap key o' with
 |none=>decide
 |some x=>
  have h1:=Ca (Fc h);have h2:Ag o'<=(Val.mk k' b' n' t' l' o').bulk:=by simp only[Val.bulk];omega
  simp only at h1;show x.bulk<=_;omega
theorem Yl (w:World):(zeroValue 155).run Tryz.prog w=.ok (.agg #[.int .i64 0,.bool false,.bool false]) w:=by kernel_rfl
theorem X3 (k':Int) (b':Bool) (n':Int) (t':ByteArray) (l':List Val) (o':List (ByteArray×Val)) (la lc oa oc) (g:Nat) (w:World)
 (h:Ae w w.heap.size (dV (.mk k' b' n' t' l' o')) [.int .i64 k',.bool b',.int .i64 n',.string t',.slice la l'.length lc,.slice oa o'.length oc]) (hb:(Val.mk k' b' n' t' l' o').bulk<=100000000) (hM:Dx w g 3 Jm):
 Calls Tryz.prog 58 #[.map (some g),.agg #[.int .i64 k',.bool b',.int .i64 n',.string t',.slice la l'.length lc,.slice oa o'.length oc]] w (Ij (.mk k' b' n' t' l' o') w):=by
 have hI0:RI w #[.int .i64 k',.bool b',.int .i64 n',.string t',.slice la l'.length lc,.slice oa o'.length oc] ((w.alloc (.cells #[.int .i64 k',.bool b',.int .i64 n',.string t',.slice la l'.length lc,.slice oa o'.length oc] 33)).alloc (.cells F8 64)):=
  ⟨((Below.refl _ _).alloc (Nat.le_refl _) _).alloc (by simp) _,(Aj.new w _ _).alloc _,by simpa using Aj.new (w.alloc (.cells #[.int .i64 k',.bool b',.int .i64 n',.string t',.slice la l'.length lc,.slice oa o'.length oc] 33)) 64 F8⟩
 obtain⟨wi,hwi⟩: ∃wi,(w.alloc (.cells #[.int .i64 k',.bool b',.int .i64 n',.string t',.slice la l'.length lc,.slice oa o'.length oc] 33)).alloc (.cells F8 64)=wi:=⟨_,rfl⟩;rw[hwi]at hI0;have hgl:=hM.lt;obtain⟨x0,x1,x2,x3,x4,x5⟩:=A7 hI0.box;have xl:=hI0.box.lt;by_cases hk:k'=6;rotate_left
 . have e1:(k' != 6)=true:=by simpa using hk
   have HP:=qz (fun W hW=>Ij.no (w:=w) (w':=W) (show C4 (.mk k' b' n' t' l' o')=(9,Cm)from if_pos hk) (by omega) hW);obtain⟨HI,H,HM⟩:=hid3 hI0 h hM;clear h hM;obtain⟨r0,r1,r2,r3,r4,r5,r6,r7⟩:=Du hI0.res;have fz:=hI0.res.frozen;have lt1:=hI0.res.lt;clear hk hI0;go_enter Tryz.func58,Tryz.ntmps58;go_upto_region 2 with(fail);clear hwi
   repeat go_step
   have hz:=HI.out.zero;exact bodyPost_ret (Av rfl rfl hz.1) rfl (HP.out _ hz.2)
 subst hk;have HMem:=qz (fun key (W:World) hB=>S7 6 b' n' t' l' o' la lc oa oc key W ((h.below (w':=W) hB).more hB.size) hb);have hp0: ∀nm,Ap Bh o'=some nm->Bf nm=4-> ∀k fk fv,Gy (Cy nm)=some (k,fk,fv)->C4 (.mk 6 b' n' t' l' o')=if(Ap Ao o').isSome≠fk\/(Ap Bc o').isSome≠fv\/o'.length≠1+(if fk then 1 else 0)+(if fv then 1 else 0)then(10,Cm)
  else if fk=true/\Bf ((Ap Ao o').getD Lf)≠4 then(9,Cm)
  else(0,⟨k,Cy ((Ap Ao o').getD Lf),(Ap Bc o').getD Lf⟩):=fun nm h1 h2 k fk fv h3=>by
  unfold C4;rw[if_neg (show ¬Bf (.mk 6 b' n' t' l' o')≠6 from fun h=>h rfl)];show(match Ap Bh o' with|none=>_|some nm=>_)=_;rw[h1];simp only;rw[if_neg (by omega),h3];rfl
 obtain⟨HI0,H,HM,Hp0⟩:=hid4 hI0 h hM hp0;clear hI0 h hM hp0;go_enter Tryz.func58,Tryz.ntmps58;go_upto_region 1 with(fail);clear hwi;go_wp2_with (fail);(with_reducible refine(HMem.out Bh _ HI0.out.below).mono ?_);rintro e w2 hr2;obtain⟨hb2,nla,nlc,noa,noc,nk,nb,nn,nt,nl,no,hgd,rfl,hfn⟩:=Ii.any rfl hr2;have hI2:=(HI0.out.call hb2).alloc (.cells #[.int .i64 nk,.bool nb,.int .i64 nn,.string nt,.slice nla nl.length nlc,.slice noa no.length noc] 33);have hnm2:=Aj.new w2 33 #[.int .i64 nk,.bool nb,.int .i64 nn,.string nt,.slice nla nl.length nlc,.slice noa no.length noc];have hz2:=(HI0.out.call hb2).below.size;have Hord0:Hid (w.heap.size+1<w2.heap.size):=(HI0.out.call hb2).res.lt;clear hr2 x0 x1 x2 x3 x4 x5 xl;by_cases hs:(Ap Bh o').isSome=true;rotate_left
 . rw[show(if(Ap Bh (Bg (Val.mk 6 b' n' t' l' o'))).isSome=true then(0:Int)else 12)=12 from if_neg hs];have hP:=fun W hW=>Ij.no (w:=w) (w':=W) (v:=.mk 6 b' n' t' l' o') (c:=10) (by
    have:Ap Bh o'=none:=by simpa using hs
    unfold C4;rw[if_neg (show ¬Bf (.mk 6 b' n' t' l' o')≠6 from fun h=>h rfl)];show(match Ap Bh o' with|none=>_|some nm=>_)=_;rw[this]) (by omega) hW
   obtain⟨HP,Hnm2,Hfn⟩:=hid3 hP hnm2 hfn;clear hP hnm2 hfn;clear hs hgd hb2;obtain⟨r0,r1,r2,r3,r4,r5,r6,r7⟩:=Du hI2.res;have fz:=hI2.res.frozen;have lt1:=hI2.res.lt;have HI:=qz hI2;go_upto_region 5 with(fail)
   repeat go_step
   have hz:=HI.out.zero;exact bodyPost_ret (Av rfl rfl hz.1) rfl (HP.out _ hz.2)
 rw[show(if(Ap Bh (Bg (Val.mk 6 b' n' t' l' o'))).isSome=true then(0:Int)else 12)=0 from if_pos hs];obtain⟨nm,hnm⟩:=Option.isSome_iff_exists.1 hs;obtain rfl:nm=.mk nk nb nn nt nl no:=by
  have h:=hgd;rw[show Ap Bh (Bg (Val.mk 6 b' n' t' l' o'))=some nm from hnm]at h;exact h
 obtain⟨m0,m1,m2,m3,m4,m5⟩:=A7 hnm2;have ml:=hnm2.lt;by_cases h4:nk=4;rotate_left
 . have e4:(nk != 4)=true:=by simpa using h4
   have hP:=fun W hW=>Ij.no (w:=w) (w':=W) (v:=.mk 6 b' n' t' l' o') (c:=9) (by
    unfold C4;rw[if_neg (show ¬Bf (.mk 6 b' n' t' l' o')≠6 from fun h=>h rfl)];show(match Ap Bh o' with|none=>_|some nm=>_)=_;rw[hnm];exact if_pos h4) (by omega) hW
   obtain⟨HP,Hnm2,Hfn⟩:=hid3 hP hnm2 hfn;clear hP hnm2 hfn;clear hs hgd hb2 h4 hnm;obtain⟨r0,r1,r2,r3,r4,r5,r6,r7⟩:=Du hI2.res;have fz:=hI2.res.frozen;have lt1:=hI2.res.lt;have HI:=qz hI2;go_upto_region 7 with(fail)
   repeat go_step
   have hz:=HI.out.zero;exact bodyPost_ret (Av rfl rfl hz.1) rfl (HP.out _ hz.2)
 subst h4;have hMA:=HM.out.below hI2.below hgl;have hlk:=Aam L5 Tryz.underlying105 hMA nt Yl true
 cases hfo:Gy nt with
 |none=>
  have hfv:Jm nt=none:=by unfold Jm;rw[hfo];rfl
  rw[hfv]at hlk;simp only[Option.getD_none,Option.isSome_none,if_true]at hlk;have hP:=fun W hW=>Ij.no (w:=w) (w':=W) (v:=.mk 6 b' n' t' l' o') (c:=12) (by
   unfold C4;rw[if_neg (show ¬Bf (.mk 6 b' n' t' l' o')≠6 from fun h=>h rfl)];show(match Ap Bh o' with|none=>_|some nm=>_)=_;rw[hnm];simp only;rw[if_neg (show ¬Bf (.mk 4 nb nn nt nl no)≠4 from fun h=>h rfl),show Gy (Cy (.mk 4 nb nn nt nl no))=none from hfo]) (by omega) hW
  have hI3:=hI2.alloc (.cells #[.int .i64 0,.bool false,.bool false] 155);obtain⟨HP,Hnm2,Hfn,HMA⟩:=hid4 hP hnm2 hfn hMA;clear hP hnm2 hfn hMA;clear hs hgd hb2 hnm hfv;obtain⟨r0,r1,r2,r3,r4,r5,r6,r7⟩:=Du hI3.res;have fz:=hI3.res.frozen;have lt1:=hI3.res.lt;have HI:=qz hI3;go_upto_region 10 with(fail)
  repeat go_step
  have hz:=HI.out.zero;exact bodyPost_ret (Av rfl rfl hz.1) rfl (HP.out _ hz.2)
 |some f=>
  obtain⟨k,fk,fv⟩:=f;have hfv:Jm nt=some (.agg #[.int .i64 k,.bool fk,.bool fv]):=by unfold Jm;rw[hfo];rfl
  rw[hfv]at hlk;simp only[Option.getD_some,Option.isSome_some,if_true]at hlk;have Hp1:=qz (Hp0.out _ hnm rfl _ _ _ hfo);have hI3:=hI2.alloc (.cells #[.int .i64 k,.bool fk,.bool fv] 155);have hfb3:=Aj.new (w2.alloc (.cells #[.int .i64 4,.bool nb,.int .i64 nn,.string nt,.slice nla nl.length nlc,.slice noa no.length noc] 33)) 155 #[.int .i64 k,.bool fk,.bool fv];obtain⟨x0,x1,x2,x3,x4,x5⟩:=A7 hI3.box;have xl:=hI3.box.lt;obtain⟨Hnm2,Hfn,HMA⟩:=hid3 hnm2 hfn hMA;clear hnm2 hfn hMA;clear hs hgd hb2 hnm hfv;go_upto_region 11 with(fail);clear hlk m0 m1 m2 m3 m4 m5 ml hfo;rw[World.size_alloc]at hfb3;generalize (w2.alloc (.cells #[.int .i64 4,.bool nb,.int .i64 nn,.string nt,.slice nla nl.length nlc,.slice noa no.length noc] 33)).alloc (.cells #[.int .i64 k,.bool fk,.bool fv] 155)=w3 at hI3 hfb3 x0 x1 x2 x3 x4 x5 xl ⊢;obtain⟨HI3,Hfb3⟩:=hid2 hI3 hfb3;clear hI3 hfb3;clear hI2;go_wp2_with (fail);(with_reducible refine(HMem.out Ao _ HI3.out.below).mono ?_);rintro e w4 hr4;obtain⟨hb4,ala,alc,aoa,aoc,ak,ab,an,at',al,ao,hgk,rfl,hfk⟩:=Ii.any rfl hr4;have Hord4:Hid (w2.heap.size+1<w4.heap.size):=Nat.lt_of_lt_of_le Hfb3.out.lt hb4.size;have Hord2:Hid (w.heap.size+1<w2.heap.size):=Hord0.out;have hI4:=(HI3.out.call hb4).alloc (.cells #[.int .i64 ak,.bool ab,.int .i64 an,.string at',.slice ala al.length alc,.slice aoa ao.length aoc] 33);have Hkb:=qz (Aj.new w4 33 #[.int .i64 ak,.bool ab,.int .i64 an,.string at',.slice ala al.length alc,.slice aoa ao.length aoc]);have Hfb4:=qz ((Hfb3.out.below hb4 Hfb3.out.lt).alloc (.cells #[.int .i64 ak,.bool ab,.int .i64 an,.string at',.slice ala al.length alc,.slice aoa ao.length aoc] 33));obtain⟨hk,hhk⟩: ∃B,(Ap Ao o').isSome=B:=⟨_,rfl⟩;obtain⟨cA,hcA⟩: ∃c:Int,(if(Ap Ao (Bg (Val.mk 6 b' n' t' l' o'))).isSome=true then(0:Int)else 12)=c:=⟨_,rfl⟩;rw[hcA];have ecA:(cA==0)=hk:=by
   rw[<-hcA,<-hhk];show((if(Ap Ao o').isSome=true then(0:Int)else 12)==0)=_
   cases (Ap Ao o').isSome<;>rfl
  clear hcA;obtain⟨y0,y1,y2,y3,y4,y5⟩:=A7 hI4.box;have yl:=hI4.box.lt;obtain⟨HI4,Hgk,Hfk,Hhk⟩:=hid4 hI4 hgk hfk hhk;clear hI4 hgk hfk hhk;clear hr4 hb4 x0 x1 x2 x3 x4 x5 xl;go_wp2_with (fail);(with_reducible refine(HMem.out Bc _ HI4.out.below).mono ?_);rintro e w5 hr5;obtain⟨hb5,vla,vlc,voa,voc,vk,vb,vn,vt,vl,vo,hgv,rfl,hfv⟩:=Ii.any rfl hr5;have HI5:=qz ((HI4.out.call hb5).alloc (.cells #[.int .i64 vk,.bool vb,.int .i64 vn,.string vt,.slice vla vl.length vlc,.slice voa vo.length voc] 33));have Hvb:=qz (Aj.new w5 33 #[.int .i64 vk,.bool vb,.int .i64 vn,.string vt,.slice vla vl.length vlc,.slice voa vo.length voc]);have Hkb5:=qz ((Hkb.out.below hb5 Hkb.out.lt).alloc (.cells #[.int .i64 vk,.bool vb,.int .i64 vn,.string vt,.slice vla vl.length vlc,.slice voa vo.length voc] 33));have hfb5:=(Hfb4.out.below hb5 Hfb4.out.lt).alloc (.cells #[.int .i64 vk,.bool vb,.int .i64 vn,.string vt,.slice vla vl.length vlc,.slice voa vo.length voc] 33);have Hfk5:=qz ((Hfk.out.later ((Ab w4 (.cells #[.int .i64 ak,.bool ab,.int .i64 an,.string at',.slice ala al.length alc,.slice aoa ao.length aoc] 33)).trans (hb5.mono (by simp)))).later (Ab w5 (.cells #[.int .i64 vk,.bool vb,.int .i64 vn,.string vt,.slice vla vl.length vlc,.slice voa vo.length voc] 33)));have Hfv5:=qz (hfv.later (Ab w5 (.cells #[.int .i64 vk,.bool vb,.int .i64 vn,.string vt,.slice vla vl.length vlc,.slice voa vo.length voc] 33)));obtain⟨hv,hhv⟩: ∃B,(Ap Bc o').isSome=B:=⟨_,rfl⟩;obtain⟨cV,hcV⟩: ∃c:Int,(if(Ap Bc (Bg (Val.mk 6 b' n' t' l' o'))).isSome=true then(0:Int)else 12)=c:=⟨_,rfl⟩;rw[hcV];have ecV:(cV==0)=hv:=by
   rw[<-hcV,<-hhv];show((if(Ap Bc o').isSome=true then(0:Int)else 12)==0)=_
   cases (Ap Bc o').isSome<;>rfl
  clear hcV;obtain⟨f0,f1,f2⟩:(w5.alloc (.cells #[.int .i64 vk,.bool vb,.int .i64 vn,.string vt,.slice vla vl.length vlc,.slice voa vo.length voc] 33)).cell? ⟨w2.heap.size+1,0,none⟩=some (.int .i64 k)/\(w5.alloc (.cells #[.int .i64 vk,.bool vb,.int .i64 vn,.string vt,.slice vla vl.length vlc,.slice voa vo.length voc] 33)).cell? ⟨w2.heap.size+1,1,none⟩=some (.bool fk)/\(w5.alloc (.cells #[.int .i64 vk,.bool vb,.int .i64 vn,.string vt,.slice vla vl.length vlc,.slice voa vo.length voc] 33)).cell? ⟨w2.heap.size+1,2,none⟩=some (.bool fv):=⟨hfb5.cell 0,hfb5.cell 1,hfb5.cell 2⟩;have fl:=hfb5.lt;have Hs5:Hid (w4.heap.size<w5.heap.size):=Nat.lt_of_lt_of_le (by simp) hb5.size;obtain⟨Hfb5,Hgv,Hfv,Hhv⟩:=hid4 hfb5 hgv hfv hhv;clear hfb5 hgv hfv hhv;clear hr5 hb5 y0 y1 y2 y3 y4 y5 yl;go_upto_region 14 with(fail);have hI6:=HI5.out.alloc (.cells #[.int .i64 k,.bool hk,.bool hv] 155);have hhb:=Aj.new (w5.alloc (.cells #[.int .i64 vk,.bool vb,.int .i64 vn,.string vt,.slice vla vl.length vlc,.slice voa vo.length voc] 33)) 155 #[.int .i64 k,.bool hk,.bool hv];rw[World.size_alloc]at hhb;have hvb6:=Hvb.out.alloc (.cells #[.int .i64 k,.bool hk,.bool hv] 155);have hkb6:=Hkb5.out.alloc (.cells #[.int .i64 k,.bool hk,.bool hv] 155);have hfb6:=Hfb5.out.alloc (.cells #[.int .i64 k,.bool hk,.bool hv] 155);have hfk6:=Hfk5.out.later (Ab _ (.cells #[.int .i64 k,.bool hk,.bool hv] 155));have hfv6:=Hfv5.out.later (Ab _ (.cells #[.int .i64 k,.bool hk,.bool hv] 155));clear f0 f1 f2 fl;generalize (w5.alloc (.cells #[.int .i64 vk,.bool vb,.int .i64 vn,.string vt,.slice vla vl.length vlc,.slice voa vo.length voc] 33)).alloc (.cells #[.int .i64 k,.bool hk,.bool hv] 155)=w6 at hI6 hhb hvb6 hkb6 hfb6 hfk6 hfv6 ⊢;obtain⟨P,hP⟩: ∃P:Bool,decide (hk≠fk\/hv≠fv\/o'.length≠1+(if fk then 1 else 0)+(if fv then 1 else 0))=P:=⟨_,rfl⟩;have Hw6:=qz (Below.refl w6.heap.size w6);obtain⟨HI6,Hhb,Hvb6,Hkb6,Hfb6,Hfk6,Hfv6⟩:=hid7 hI6 hhb hvb6 hkb6 hfb6 hfk6 hfv6;clear hI6 hhb hvb6 hkb6 hfb6 hfk6 hfv6;clear HI5 Hvb Hkb5 Hfb5 Hfk5 Hfv5;go_cut [68] (fun s wx=>s=.bool P/\Hid (Below w6.heap.size w6 wx))
  case first=>
   have HMm:=qz (fun W=>Pi k fk fv W);have v5:=HI6.out.box.cell 5;have v5l:=HI6.out.box.lt;obtain⟨f0,f1,f2⟩:w6.cell? ⟨w2.heap.size+1,0,none⟩=some (.int .i64 k)/\w6.cell? ⟨w2.heap.size+1,1,none⟩=some (.bool fk)/\w6.cell? ⟨w2.heap.size+1,2,none⟩=some (.bool fv):=⟨Hfb6.out.cell 0,Hfb6.out.cell 1,Hfb6.out.cell 2⟩;obtain⟨h0,h1,h2⟩:w6.cell? ⟨w5.heap.size+1,0,none⟩=some (.int .i64 k)/\w6.cell? ⟨w5.heap.size+1,1,none⟩=some (.bool hk)/\w6.cell? ⟨w5.heap.size+1,2,none⟩=some (.bool hv):=⟨Hhb.out.cell 0,Hhb.out.cell 1,Hhb.out.cell 2⟩;have fl:=Hfb6.out.lt;have hl:=Hhb.out.lt;have ekk:(k==k)=true:=by simp
   clear HMem Hfn HMA Hp1 Hgk Hfk Hgv Hfv;by_cases hne:hk=fk/\hv=fv
   . obtain⟨rfl,rfl⟩:=hne;obtain⟨mI,hmI⟩: ∃m:Int,((1+(if hk then 1 else 0)+(if hv then 1 else 0):Nat):Int)=m:=⟨_,rfl⟩;have hMm:=HMm.out;rw[hmI]at hMm;have em:((o'.length:Int) != mI)=P:=by
      rw[<-hP,<-hmI,Bool.eq_iff_iff];simp only[bne_iff_ne,ne_eq,decide_eq_true_eq,not_true_eq_false,false_or];omega
     have eb1:(hk==hk)=true:=by simp
     have eb2:(hv==hv)=true:=by simp
     clear hP HMm;have HMm:=qz hMm;clear hMm
     go_region_with (go_at_call 95;(with_reducible refine(HMm.out _).mono ?_);rintro e w7 ⟨rfl,hb7⟩;have hw7:Below w6.heap.size w6 w7:=(Below.drew (Below.refl _ _)).trans hb7;obtain⟨hc7,hg7⟩:=Cn hw7)
     all_goals
      have HW7:=qz hw7;clear hc7 hg7 hb7 hw7;go_wp2;go_meet;exact⟨rfl,HW7⟩
   . obtain rfl:true=P:=by
      rw[<-hP];refine(decide_eq_true ?_).symm;by_cases h:hk=fk
      . exact .inr (.inl fun h2=>hne ⟨h,h2⟩)
      . exact .inl h
     clear hP
     cases hk<;>cases hv<;>cases fk<;>cases fv
     all_goals first
      |exact absurd ⟨rfl,rfl⟩ hne
      |skip
     all_goals
      clear hne;go_quiet (fail);go_wp2;go_meet;exact⟨rfl,qz ⟨rfl,rfl,rfl,Nat.le_refl _,fun _ _=>rfl⟩⟩
  case rest=>
   obtain⟨rfl,hbc⟩:=hcut;have hIc:=HI6.out.call hbc.out;have hfbc:=Hfb6.out.below hbc.out Hfb6.out.lt;have hkbc:=Hkb6.out.below hbc.out Hkb6.out.lt;have hvbc:=Hvb6.out.below hbc.out Hvb6.out.lt;have hfvc:=Hfv6.out.later hbc.out;have hp2:=Hp1.out;rw[Hhk.out,Hhv.out]at hp2
   cases P with
   |true=>
    have hpo:C4 (.mk 6 b' n' t' l' o')=(10,Cm):=by
     rw[hp2,if_pos];exact of_decide_eq_true hP
    have HP:=qz (fun W hW=>Ij.no (w:=w) (w':=W) hpo (by omega) hW);clear hp2 hpo hP;obtain⟨r0,r1,r2,r3,r4,r5,r6,r7⟩:=Du hIc.res;have fz:=hIc.res.frozen;have lt1:=hIc.res.lt;have HI:=qz hIc;go_upto_region 15 with(fail)
    repeat go_step
    have hz:=HI.out.zero;exact bodyPost_ret (Av rfl rfl hz.1) rfl (HP.out _ hz.2)
   |false=>
    have hno:=of_decide_eq_false hP;rw[if_neg hno]at hp2;have hgk':(Ap Ao o').getD Lf=.mk ak ab an at' al ao:=Hgk.out;have hgv':(Ap Bc o').getD Lf=.mk vk vb vn vt vl vo:=Hgv.out;rw[hgk',hgv']at hp2;have hbv:(Val.mk vk vb vn vt vl vo).bulk<=100000000:=by rw[<-hgv'];exact Zs hb
    obtain⟨f0,f1⟩:wc.cell? ⟨w2.heap.size+1,0,none⟩=some (.int .i64 k)/\wc.cell? ⟨w2.heap.size+1,1,none⟩=some (.bool fk):=⟨hfbc.cell 0,hfbc.cell 1⟩;have fl:=hfbc.lt;obtain⟨a0,a3⟩:wc.cell? ⟨w4.heap.size,0,none⟩=some (.int .i64 ak)/\wc.cell? ⟨w4.heap.size,3,none⟩=some (.string at'):=⟨hkbc.cell 0,hkbc.cell 3⟩;have kl:=hkbc.lt;by_cases h9:fk=true/\ak≠4
    . obtain⟨rfl,h9⟩:=h9;have e9:(ak != 4)=true:=by simpa using h9
      have hpo:C4 (.mk 6 b' n' t' l' o')=(9,Cm):=by
       rw[hp2,if_pos ⟨rfl,h9⟩]
      have HP:=qz (fun W hW=>Ij.no (w:=w) (w':=W) hpo (by omega) hW);clear hp2 hpo hno h9 hP;obtain⟨r0,r1,r2,r3,r4,r5,r6,r7⟩:=Du hIc.res;have fz:=hIc.res.frozen;have lt1:=hIc.res.lt;have HI:=qz hIc;go_upto_region 17 with(fail)
      repeat go_step
      have hz:=HI.out.zero;exact bodyPost_ret (Av rfl rfl hz.1) rfl (HP.out _ hz.2)
    . rw[if_neg (show ¬(fk=true/\Bf (.mk ak ab an at' al ao)≠4)from h9)]at hp2;have HC:Hid (∀W,Below wc.heap.size wc W->Calls Tryz.prog 79 #[.agg #[.int .i64 vk,.bool vb,.int .i64 vn,.string vt,.slice vla vl.length vlc,.slice voa vo.length voc]] W (Gg W (.mk vk vb vn vt vl vo))):=fun W hB=>F0 _ [.int .i64 vk,.bool vb,.int .i64 vn,.string vt,.slice vla vl.length vlc,.slice voa vo.length voc] W (Az _ _ (hfvc.later hB).now) hbv;obtain⟨v0,v1,v2,v3,v4,v5⟩:=A7 hvbc;have vl5:=hvbc.lt;have hlow:=hIc.res.lt;have hcase:fk=false\/(fk=true/\ak=4):=by
       cases fk with
       |false=>exact .inl rfl
       |true=>
        refine .inr ⟨rfl, ?_⟩;by_cases h:ak=4
        . exact h
        . exact absurd ⟨rfl,h⟩ h9
      have HS:Hid (∀W:World,Aj W (w2.heap.size+1) 155 #[.int .i64 k,.bool fk,.bool fv]->Aj W w4.heap.size 33 #[.int .i64 ak,.bool ab,.int .i64 an,.string at',.slice ala al.length alc,.slice aoa ao.length aoc]->Aj W w5.heap.size 33 #[.int .i64 vk,.bool vb,.int .i64 vn,.string vt,.slice vla vl.length vlc,.slice voa vo.length voc]->W.cell? ⟨w2.heap.size+1,0,none⟩=some (.int .i64 k)/\W.cell? ⟨w4.heap.size,3,none⟩=some (.string at')/\W.cell? ⟨w5.heap.size,0,none⟩=some (.int .i64 vk)/\W.cell? ⟨w5.heap.size,1,none⟩=some (.bool vb)/\W.cell? ⟨w5.heap.size,2,none⟩=some (.int .i64 vn)/\W.cell? ⟨w5.heap.size,3,none⟩=some (.string vt)/\W.cell? ⟨w5.heap.size,4,none⟩=some (.slice vla vl.length vlc)/\W.cell? ⟨w5.heap.size,5,none⟩=some (.slice voa vo.length voc)):=fun W a b c=>⟨a.cell 0,b.cell 3,c.cell 0,c.cell 1,c.cell 2,c.cell 3,c.cell 4,c.cell 5⟩;have Hord:Hid (w.heap.size+1<w2.heap.size/\w2.heap.size+1<w4.heap.size/\w4.heap.size<w5.heap.size):=⟨Hord2.out,Hord4.out,Hs5.out⟩;obtain⟨HIc,Hfvc,Hvbc,Hkbc,Hfbc,Hp2⟩:=hid6 hIc hfvc hvbc hkbc hfbc hp2;clear hIc hfvc hvbc hkbc hfbc hp2;clear h9 hP hno hbc hgk' hgv' hbv HI6 Hfb6 Hkb6 Hvb6 Hfv6 Hhb Hfk6 HMem HMA Hp1;rcases hcase with rfl|⟨rfl,rfl⟩
      all_goals
       go_upto_region 18 with(fail);refine wp_region_held_drew (S:=fun W=>W.cell? ⟨w2.heap.size+1,0,none⟩=some (.int .i64 k)/\W.cell? ⟨w4.heap.size,3,none⟩=some (.string at')/\W.cell? ⟨w5.heap.size,0,none⟩=some (.int .i64 vk)/\W.cell? ⟨w5.heap.size,1,none⟩=some (.bool vb)/\W.cell? ⟨w5.heap.size,2,none⟩=some (.int .i64 vn)/\W.cell? ⟨w5.heap.size,3,none⟩=some (.string vt)/\W.cell? ⟨w5.heap.size,4,none⟩=some (.slice vla vl.length vlc)/\W.cell? ⟨w5.heap.size,5,none⟩=some (.slice voa vo.length voc)) (by kernel_rfl) (HS.out _ Hfbc.out Hkbc.out Hvbc.out) (fun hHeld=> ?_);refine tkH 0 hHeld ?_;refine tkH 1 hHeld ?_;refine tkH 2 hHeld ?_;refine tkH 3 hHeld ?_;refine tkH 4 hHeld ?_;refine wpAnyH_ready (rs:= [5]) (by kernel_rfl) (by simp) ?_;refine AllReadyH.cons rfl (fun K hK=> ?_) AllReadyH.nil;go_simp;(with_reducible refine(HC.out _ (Below.drew (Below.refl _ _))).mono ?_);rintro e w8 ⟨⟨cs8,rfl,hl8,hf8⟩,hb8⟩;obtain⟨xla,xlc,xoa,xoc,rfl⟩:=G0 hf8;have hbr8:Below wc.heap.size wc w8:=(Below.drew (Below.refl _ _)).trans hb8;have hI8:=HIc.out.call hbr8;have hge8:=hbr8.size;have hfb8:=Hfbc.out.below hbr8 Hfbc.out.lt;have hkb8:=Hkbc.out.below hbr8 Hkbc.out.lt;have hvb8:=Hvbc.out.below hbr8 Hvbc.out.lt;refine hK.out _ _ (HS.out _ hfb8 hkb8 hvb8) (fun hHeld=> ?_);clear hK K
       try simp only[Act.put,tk4,tk5,tk6]
       refine tkH 6 hHeld ?_;refine wpAnyH_ready (rs:= [7]) (by kernel_rfl) (by simp) ?_;refine AllReadyH.cons rfl (fun K hK=> ?_) AllReadyH.nil;obtain⟨r0,r1,r2,r3,r4,r5,r6,r7⟩:=Du hI8.res;have fz:=hI8.res.frozen;have lt1:=hI8.res.lt;have Hs1:Hid (Aj (Bd w8 (w.heap.size+1) 0 [.int .i64 k,.string at',.int .i64 vk,.bool vb,.int .i64 vn,.string vt,.slice xla vl.length xlc,.slice xoa vo.length xoc]) (w2.heap.size+1) 155 _):=(Bw _ _ _ _ _ (by have:=Hord.out;omega)).trans hfb8;have Hs2:Hid (Aj (Bd w8 (w.heap.size+1) 0 [.int .i64 k,.string at',.int .i64 vk,.bool vb,.int .i64 vn,.string vt,.slice xla vl.length xlc,.slice xoa vo.length xoc]) w4.heap.size 33 _):=(Bw _ _ _ _ _ (by have:=Hord.out;omega)).trans hkb8;have Hs3:Hid (Aj (Bd w8 (w.heap.size+1) 0 [.int .i64 k,.string at',.int .i64 vk,.bool vb,.int .i64 vn,.string vt,.slice xla vl.length xlc,.slice xoa vo.length xoc]) w5.heap.size 33 _):=(Bw _ _ _ _ _ (by have:=Hord.out;omega)).trans hvb8;obtain⟨HI8,Hf8,Hbr8,Hb8,Hfb8,Hkb8,Hvb8⟩:=hid7 hI8 hf8 hbr8 hb8 hfb8 hkb8 hvb8;clear hI8 hf8 hbr8 hb8 hfb8 hkb8 hvb8;go_simp;refine hK.out _ _ (HS.out _ Hs1.out Hs2.out Hs3.out) (fun hHeld=> ?_);clear hK K
       try simp only[Act.put,tk4,tk5,tk6]
       refine tkH 8 hHeld ?_;refine wpAnyH_done (by kernel_rfl) ?_ _;clear hHeld r0 r1 r2 r3 r4 r5 r6 r7 fz
       repeat go_step
       have hxf:=(((((((HI8.out.res.set_ 0 (.int .i64 k)).set_ 1 (.string at')).set_ 2 (.int .i64 vk)).set_ 3 (.bool vb)).set_ 4 (.int .i64 vn)).set_ 5 (.string vt)).set_ 6 (.slice xla vl.length xlc)).set_ 7 (.slice xoa vo.length xoc);have hbf:=Am [.int .i64 k,.string at',.int .i64 vk,.bool vb,.int .i64 vn,.string vt,.slice xla vl.length xlc,.slice xoa vo.length xoc] HI8.out.below (Nat.le_succ w.heap.size) (o:=0);have hff:=(Un (k:=k) (key:=at') Hf8.out).keep (b':=w.heap.size) (w':=(Bd w8 (w.heap.size+1) 0 [.int .i64 k,.string at',.int .i64 vk,.bool vb,.int .i64 vn,.string vt,.slice xla vl.length xlc,.slice xoa vo.length xoc])) (by simp;omega) (by rw[B4];exact Nat.le_refl _) (fun p p1 _=>World.cell?_of_block (Bw _ _ _ _ _ (by simp at p1;omega)));exact bodyPost_ret (Av rfl rfl hxf) rfl ⟨hbf,_,by rw[Hp2.out];rfl,fun h=>absurd (show(C4 (.mk 6 b' n' t' l' o')).1=0 by rw[Hp2.out]) h,fun _=>by rw[Hp2.out];exact hff⟩
theorem Aek {S:Nat->Prop} {w:World} {k:Int} {key:ByteArray} {v:Val} {cs:List Value} (h:Ac S w (dV v) cs):Ac S w (dQ ⟨k,key,v⟩) (.int .i64 k:: .string key::cs):=fun w'' h1 h2=>⟨[.int .i64 k],.string key::cs,rfl,⟨rfl,rfl⟩, [.string key],cs,rfl,⟨rfl,rfl⟩,cs, [],by simp,h w'' h1 h2,rfl⟩
def B7 (v:Val) (S:Nat->Prop) (w0 w:World) (e:Ending) (w':World):Prop:=Below w.heap.size w w'/\ ∃cs:List Value,e=.returned (.tuple #[.agg cs.toArray,.int .i64 (Ku v).1])/\Ac S w0 (dQ (Ku v).2) cs
theorem B7.no {v:Val} {S:Nat->Prop} {w0 w w':World} {c:Int} (h:Ku v=(c,Cm)) (hb:Below w.heap.size w w'):B7 v S w0 w (.returned (.tuple #[.agg F8,.int .i64 c])) w':=
 ⟨hb,F8.toList,by rw[h],by rw[h];exact Aek (Sy S w0)⟩
theorem B7.yes {v:Val} {S:Nat->Prop} {w0 w w':World} {p:POp} {cs:List Value} (h:Ku v=(0,p)) (hb:Below w.heap.size w w') (hh:Ac S w0 (dQ p) cs):B7 v S w0 w (.returned (.tuple #[.agg cs.toArray,.int .i64 0])) w':=
 ⟨hb,cs,by rw[h],by rw[h];exact hh⟩
theorem RI.put {w wr w0:World} {S:Nat->Prop} {six:Array Value} {k:Int} {key:ByteArray} {xk:Int} {xb:Bool} {xn:Int} {xt:ByteArray} {xl:List Val} {xo:List (ByteArray×Val)} {xla xoa:Option Addr} {xlc xoc:Nat} (h:RI w six wr) (hh:Ac S w0 (dV (.mk xk xb xn xt xl xo)) [.int .i64 xk,.bool xb,.int .i64 xn,.string xt,.slice xla xl.length xlc,.slice xoa xo.length xoc]):
 Aj (Bd wr (w.heap.size+1) 0 [.int .i64 k,.string key,.int .i64 xk,.bool xb,.int .i64 xn,.string xt,.slice xla xl.length xlc,.slice xoa xo.length xoc]) (w.heap.size+1) 64 #[.int .i64 k,.string key,.int .i64 xk,.bool xb,.int .i64 xn,.string xt,.slice xla xl.length xlc,.slice xoa xo.length xoc]/\
 Below w.heap.size w (Bd wr (w.heap.size+1) 0 [.int .i64 k,.string key,.int .i64 xk,.bool xb,.int .i64 xn,.string xt,.slice xla xl.length xlc,.slice xoa xo.length xoc])/\
 Ac S w0 (dQ ⟨k,key,.mk xk xb xn xt xl xo⟩) [.int .i64 k,.string key,.int .i64 xk,.bool xb,.int .i64 xn,.string xt,.slice xla xl.length xlc,.slice xoa xo.length xoc]:=
 ⟨(((((((h.res.set_ 0 (.int .i64 k)).set_ 1 (.string key)).set_ 2 (.int .i64 xk)).set_ 3 (.bool xb)).set_ 4 (.int .i64 xn)).set_ 5 (.string xt)).set_ 6 (.slice xla xl.length xlc)).set_ 7 (.slice xoa xo.length xoc),Am _ h.below (Nat.le_succ _),Aek hh⟩
theorem Xq {a:ByteArray} {l:List UInt8} (h:a≠⟨l.toArray⟩):(a.toList==l)=false:=by
 rw[beq_eq_false_iff_ne];intro e;apply h;obtain⟨⟨a⟩⟩:=a;rw[ByteArray.toList_eq]at e;simp at e;rw[e]
theorem Ada:(Tryz.prog.info? 9).map (fun i=>(i.zero,i.size,i.bytes))=some (some (.string ⟨#[]⟩),1,16):=by kernel_rfl
theorem Aaa {b:Nat} {wr:World} {v:Value} {n:Nat} {names:List ByteArray} (h:wr.ownsRow b 9 1 v n (names.map Value.string)): ∃a c,v=.slice a n c/\Ae wr wr.heap.size (.row 1 (dX names)) [.slice a n c]:=by
 have h':=h;have hn:n=names.length:=by have:=h.1;rw[List.length_map]at this;omega
 rcases h.2 with⟨rfl,h0⟩|⟨g,cap,cur,rfl,hbg,hg,hnc,_⟩
 . subst h0;have:names= []:=List.eq_nil_of_length_eq_zero hn.symm;subst this;exact⟨none,0,rfl,none,0,rfl,by simp[dX], [],rfl,.inl rfl⟩
 . have hgl:=(Array.getElem?_eq_some_iff.1 hg).1;refine⟨_,cap,rfl,_,cap,by rw[W7,hn],Uo _,_,Pc _ _ _,.inr ⟨g,0,rfl,hgl,fun j u hu=> ?_⟩⟩;have h5:=h'.cells (g:=g) rfl j u hu
   rwa [Bi]at h5
theorem X5 (k':Int) (b':Bool) (n':Int) (t':ByteArray) (l':List Val) (o':List (ByteArray×Val)) (la lc oa oc) (S:Nat->Prop) (w0 w:World) (hw:Below w0.heap.size w0 w)
 (h:Ac S w0 (dV (.mk k' b' n' t' l' o')) [.int .i64 k',.bool b',.int .i64 n',.string t',.slice la l'.length lc,.slice oa o'.length oc]) (hl:o'.length<=100000000):
 Calls Tryz.prog 60 #[.agg #[.int .i64 k',.bool b',.int .i64 n',.string t',.slice la l'.length lc,.slice oa o'.length oc]] w (B7 (.mk k' b' n' t' l' o') S w0 w):=by
 have hI0:RI w #[.int .i64 k',.bool b',.int .i64 n',.string t',.slice la l'.length lc,.slice oa o'.length oc] ((w.alloc (.cells #[.int .i64 k',.bool b',.int .i64 n',.string t',.slice la l'.length lc,.slice oa o'.length oc] 33)).alloc (.cells F8 64)):=
  ⟨((Below.refl _ _).alloc (Nat.le_refl _) _).alloc (by simp) _,(Aj.new w _ _).alloc _,by simpa using Aj.new (w.alloc (.cells #[.int .i64 k',.bool b',.int .i64 n',.string t',.slice la l'.length lc,.slice oa o'.length oc] 33)) 64 F8⟩
 obtain⟨wi,hwi⟩: ∃wi,(w.alloc (.cells #[.int .i64 k',.bool b',.int .i64 n',.string t',.slice la l'.length lc,.slice oa o'.length oc] 33)).alloc (.cells F8 64)=wi:=⟨_,rfl⟩;rw[hwi]at hI0;obtain⟨y0,y1,y2,y3,y4,y5⟩:=A7 hI0.box;have yl:=hI0.box.lt;by_cases hk:k'=6;rotate_left
 . have e1:(k' != 6)=true:=by simpa using hk
   have hop:Ku (.mk k' b' n' t' l' o')=(9,Cm):=by
    unfold Ku;rw[if_pos (show Bf (.mk k' b' n' t' l' o')≠6 from hk)]
   have HP:=qz (fun W (hW:Below w.heap.size w W)=>B7.no (S:=S) (w0:=w0) (w:=w) (w':=W) hop hW);obtain⟨r0,r1,r2,r3,r4,r5,r6,r7⟩:=Du hI0.res;have fz:=hI0.res.frozen;have lt1:=hI0.res.lt;have HZ:=qz hI0.zero;have H:=qz h;clear h;clear hk hI0 hop;go_enter Tryz.func60,Tryz.ntmps60;go_upto_region 2 with(fail);clear hwi
   repeat go_step
   exact bodyPost_ret (Av rfl rfl HZ.out.1) rfl (HP.out _ HZ.out.2)
 subst hk;have hHas:=fun(s:ByteArray) (W:World) (hW:Below w.heap.size w W)=>P9 6 b' n' t' l' o' la lc oa oc s S w0 W (hw.trans (hW.mono hw.size)) h hl;unfold Lr at hHas;simp only[Pj]at hHas;have hJu:=fun(names:List ByteArray) (a:Option Addr) (c:Nat) (W:World) (hW:Below w.heap.size w W) (hA:Ae W W.heap.size (.row 1 (dX names)) [.slice a names.length c]) (hla:names.length<=1000)=>Vt 6 b' n' t' l' o' la lc oa oc names [] a names.length c none 0 0 S w0 W (hw.trans (hW.mono hw.size)) h hA ⟨none,0,rfl,by simp[dX], [],rfl,.inl rfl⟩ hl hla (by simp);have hjj: ∀names,Nj names [] (.mk 6 b' n' t' l' o')=Fx names o':=fun names=>Xk rfl;simp only[hjj]at hJu;have hop:Ku (.mk 6 b' n' t' l' o')=if(Ap Bh o').isSome=false then(10,Cm)else
  if Bf (Ex Bh o')≠4 then(9,Cm)else
  if Cy (Ex Bh o')=B3 then(if o'.length≠1 then(10,Cm)else(0,⟨3,Le,Lf⟩))else
  if Cy (Ex Bh o')=D6 then
   (if Fx [Ao,Bh,Bc] o'=false then(10,Cm)else if Bf (Ex Ao o')≠4 then(9,Cm)else(0,⟨1,Cy (Ex Ao o'),Ex Bc o'⟩))else
  if Cy (Ex Bh o')=Ef then
   (if Fx [Ao,Bh] o'=false then(10,Cm)else if Bf (Ex Ao o')≠4 then(9,Cm)else(0,⟨2,Cy (Ex Ao o'),Lf⟩))else
  (12,Cm):=by
  unfold Ku;rw[if_neg (show ¬Bf (.mk 6 b' n' t' l' o')≠6 from fun h=>h rfl)];rfl
 have hn1:=hHas Bh;have hn2:=hHas Ao;have hn3:=hHas Bc;change ∀W,_->Calls _ _ _ _ fun e w'=>Below _ _ _/\ ∃cs:List Value,e=.returned (.tuple #[.agg cs.toArray,.bool (Ap Bh o').isSome])/\Ac S w0 (dV (Ex Bh o')) cs at hn1;change ∀W,_->Calls _ _ _ _ fun e w'=>Below _ _ _/\ ∃cs:List Value,e=.returned (.tuple #[.agg cs.toArray,.bool (Ap Ao o').isSome])/\Ac S w0 (dV (Ex Ao o')) cs at hn2;change ∀W,_->Calls _ _ _ _ fun e w'=>Below _ _ _/\ ∃cs:List Value,e=.returned (.tuple #[.agg cs.toArray,.bool (Ap Bc o').isSome])/\Ac S w0 (dV (Ex Bc o')) cs at hn3;generalize (Ap Bh o').isSome=P1 at hn1 hop;generalize (Ap Ao o').isSome=P2 at hn2;generalize (Ap Bc o').isSome=P3 at hn3;obtain⟨⟨ak,ab,an,at',al,ao⟩,hav⟩: ∃x,Ex Bh o'=x:=⟨_,rfl⟩;obtain⟨⟨ck,cb,cn,ct,cl,co⟩,hcv⟩: ∃x,Ex Ao o'=x:=⟨_,rfl⟩;obtain⟨⟨vk,vb,vn,vt,vl,vo⟩,hvv⟩: ∃x,Ex Bc o'=x:=⟨_,rfl⟩;rw[hav,hcv,hvv]at hop;simp only[hav]at hn1;simp only[hcv]at hn2;simp only[hvv]at hn3;change _=if P1=false then(10,Cm)else if ak≠4 then(9,Cm)else if at'=B3 then(if o'.length≠1 then(10,Cm)else(0,⟨3,Le,Lf⟩))else if at'=D6 then(if Fx [Ao,Bh,Bc] o'=false then(10,Cm)else if ck≠4 then(9,Cm)else(0,⟨1,ct,.mk vk vb vn vt vl vo⟩))else if at'=Ef then(if Fx [Ao,Bh] o'=false then(10,Cm)else if ck≠4 then(9,Cm)else(0,⟨2,ct,Lf⟩))else(12,Cm)at hop;have HB0:=qz hI0.below;obtain⟨H,Hn1,Hn2,Hn3,HJu,Hop,HI0⟩:=hid7 h hn1 hn2 hn3 hJu hop hI0;clear h hn1 hn2 hn3 hJu hop hI0;clear hHas hjj hav hcv hvv;go_enter Tryz.func60,Tryz.ntmps60;go_upto_region 1 with(fail);clear hwi;go_wp2_with (fail);(with_reducible refine(Hn1.out _ HB0.out).mono ?_);rintro e w2 ⟨hb2,cs,rfl,hh2⟩;obtain⟨ala,alc,aoa,aoc,rfl⟩:=G9 hh2;have hI2:=HI0.out.call hb2;have hI3:=hI2.alloc (.cells #[.int .i64 ak,.bool ab,.int .i64 an,.string at',.slice ala al.length alc,.slice aoa ao.length aoc] 33);have hx3:=Aj.new w2 33 #[.int .i64 ak,.bool ab,.int .i64 an,.string at',.slice ala al.length alc,.slice aoa ao.length aoc];have hlow2:=hI2.res.lt;obtain⟨w3,hw3⟩: ∃w3,w2.alloc (.cells #[.int .i64 ak,.bool ab,.int .i64 an,.string at',.slice ala al.length alc,.slice aoa ao.length aoc] 33)=w3:=⟨_,rfl⟩;rw[hw3]at hI3 hx3;have x0:=hx3.cell 0;have x3:=hx3.cell 3;have xl:=hx3.lt;have hop:=Hop.out;clear y0 y1 y2 y3 y4 y5 yl hb2 hh2 hI2 Hop;obtain⟨y0,y1,y2,y3,y4,y5⟩:=A7 hI3.box;have yl:=hI3.box.lt;obtain⟨HI3,Hx3⟩:=hid2 hI3 hx3;clear hI3 hx3;go_upto_region 4 with(fail);clear hw3;have hI3:=HI3.out;have hx3:=Hx3.out;clear HI3 Hx3
 cases P1 with
 |false=>
  rw[if_pos rfl]at hop;have HP:=qz (fun W (hW:Below w.heap.size w W)=>B7.no (S:=S) (w0:=w0) (w:=w) (w':=W) hop hW);obtain⟨r0,r1,r2,r3,r4,r5,r6,r7⟩:=Du hI3.res;have fz:=hI3.res.frozen;have lt1:=hI3.res.lt;have HZ:=qz hI3.zero;clear hI3 hop hx3;go_upto_region 5 with(fail)
  repeat go_step
  exact bodyPost_ret (Av rfl rfl HZ.out.1) rfl (HP.out _ HZ.out.2)
 |true=>
 rw[if_neg (show ¬true=false from Bool.noConfusion)]at hop;by_cases h4:ak=4;rotate_left
 . have e1:(ak != 4)=true:=by simpa using h4
   rw[if_pos h4]at hop;have HP:=qz (fun W (hW:Below w.heap.size w W)=>B7.no (S:=S) (w0:=w0) (w:=w) (w':=W) hop hW);obtain⟨r0,r1,r2,r3,r4,r5,r6,r7⟩:=Du hI3.res;have fz:=hI3.res.frozen;have lt1:=hI3.res.lt;have HZ:=qz hI3.zero;clear hI3 hop hx3;go_upto_region 7 with(fail)
   repeat go_step
   exact bodyPost_ret (Av rfl rfl HZ.out.1) rfl (HP.out _ HZ.out.2)
 subst h4;rw[if_neg (show ¬(4:Int)≠4 from fun h=>h rfl)]at hop;by_cases hcl:at'=B3
 . subst hcl;rw[if_pos rfl]at hop;by_cases h1:o'.length=1;rotate_left
   . have e1:((o'.length:Int) != 1)=true:=by simp only[bne_iff_ne,ne_eq];omega
     rw[if_pos h1]at hop;have HP:=qz (fun W (hW:Below w.heap.size w W)=>B7.no (S:=S) (w0:=w0) (w:=w) (w':=W) hop hW);obtain⟨r0,r1,r2,r3,r4,r5,r6,r7⟩:=Du hI3.res;have fz:=hI3.res.frozen;have lt1:=hI3.res.lt;have HZ:=qz hI3.zero;clear hI3 hop hx3;go_upto_region 10 with(fail)
     repeat go_step
     exact bodyPost_ret (Av rfl rfl HZ.out.1) rfl (HP.out _ HZ.out.2)
   rw[if_neg (show ¬o'.length≠1 from fun h=>h h1)]at hop;have e1:((o'.length:Int) != 1)=false:=by rw[h1];rfl
   have HP:=qz (fun W (cs:List Value) (hW:Below w.heap.size w W) hh=>B7.yes (S:=S) (w0:=w0) (w:=w) (w':=W) (cs:=cs) hop hW hh);obtain⟨r0,r1,r2,r3,r4,r5,r6,r7⟩:=Du hI3.res;have fz:=hI3.res.frozen;have lt1:=hI3.res.lt;have HZ:=qz (hI3.put (k:=3) (key:=⟨#[]⟩) (Sy S w0));clear hI3 hop hx3;go_upto_region 11 with(fail)
   repeat go_step
   exact bodyPost_ret (Av rfl rfl HZ.out.1) rfl (HP.out _ _ HZ.out.2.1 HZ.out.2.2)
 rw[if_neg hcl]at hop;have c1:=Xq (l:= [99,108,101,97,114]) hcl;by_cases hpt:at'=D6
 . subst hpt;rw[if_pos rfl]at hop;have hJ:=HJu.out [Ao,Bh,Bc];simp only[List.length_cons,List.length_nil]at hJ;generalize Fx [Ao,Bh,Bc] o'=PJ at hJ hop;have hw3b:=hI3.below;have hIa:=hI3.alloc (.cells #[.string Ao,.string Bh] 9);have hown0:(w3.alloc (.cells #[.string Ao,.string Bh] 9)).ownsRow w3.heap.size 9 1 (.slice (some ⟨w3.heap.size,0,none⟩) 2 2) 2 [.string Ao,.string Bh]:=World.ownsRow_lit w3 #[.string Ao,.string Bh] 2 (Nat.le_refl _) (by simp[maxLen]) rfl;have HIb:=qz (hIa.alloc (.cells #[.string Bc] 9));have Hown1:=qz (hown0.alloc (.cells #[.string Bc] 9));have hrd:=D4 (Aj.new (w3.alloc (.cells #[.string Ao,.string Bh] 9)) 9 #[.string Bc]);rw[World.size_alloc]at hrd;obtain⟨j0,hji,hy0,hy1,hy2⟩:=info_parts Ada;have Hxb:=qz ((hx3.alloc (.cells #[.string Ao,.string Bh] 9)).alloc (.cells #[.string Bc] 9));have H3s:=qz (show w3.heap.size<=((w3.alloc (.cells #[.string Ao,.string Bh] 9)).alloc (.cells #[.string Bc] 9)).heap.size from by simp;omega);obtain⟨HJ,HIa,Hown0,Hrd,Hji,Hy0,Hy1,Hy2,Hx3,HI3⟩:=hid10 hJ hIa hown0 hrd hji hy0 hy1 hy2 hx3 hI3;clear hJ hIa hown0 hrd hji hy0 hy1 hy2 hx3 hI3;clear hw3b;go_wp2_with (at_builtin;apply Shut.out);unfold Shut;refine G1 _ rfl (.tmp 40) (.tmp 41) 160 rfl w3.heap.size 9 _ _ 1 16 Tryz.underlying160 Hji.out Hy0.out Hy1.out Hy2.out rfl (by omega) _ 2 [.string Ao,.string Bh] rfl Hown1.out _ _ 1 1 [.string Bc] rfl Hrd.out (by simp[Value.oneCell']) (by simp[maxLen]) (by omega) H3s.out ?_;intro V6 w6 hown6 hg6 hat6;have hI6:RI w #[.int .i64 6,.bool b',.int .i64 n',.string t',.slice la l'.length lc,.slice oa o'.length oc] w6:=⟨HIb.out.below.grown hg6 (Nat.le_trans HI3.out.below.size H3s.out) (fun g e=>Nat.le_trans HI3.out.below.size (Hown1.out.lt g e).1),HIb.out.box.grown hg6 (fun e=>by have:=(Hown1.out.lt _ e.symm).1;have:=HI3.out.box.lt;omega),HIb.out.res.grown hg6 (fun e=>by have:=(Hown1.out.lt _ e.symm).1;have:=HI3.out.res.lt;omega)⟩;have hx6:=Hxb.out.grown hg6 (fun e=>by have:=(Hown1.out.lt _ e.symm).1;have:=Hx3.out.lt;omega);have hnR:=Aaa (names:= [Ao,Bh,Bc]) hown6;obtain⟨aN,cN,rfl,hN⟩:=hnR;obtain⟨z0,z1,z2,z3,z4,z5⟩:=A7 hI6.box;have zl:=hI6.box.lt;have q3:=hx6.cell 3;have ql:=hx6.lt;have HB6:=qz hI6.below;obtain⟨HI6,Hx6,HN⟩:=hid3 hI6 hx6 hN;clear hI6 hx6 hN;clear hown6 hg6 hat6 HIa HIb Hown0 Hown1 Hrd Hji Hy0 Hy1 Hy2 Hxb H3s Hx3 HI3 y0 y1 y2 y3 y4 y5 yl x0 x3 xl;go_wp2_with (fail);(with_reducible refine(HJ.out _ _ _ HB6.out HN.out (by omega)).mono ?_);rintro e w7 ⟨rfl,hb7⟩;have hI7:=HI6.out.call hb7;have hx7:=Hx6.out.below hb7 Hx6.out.lt;clear z0 z1 z2 z3 z4 z5 zl q3 ql hb7;obtain⟨z0,z1,z2,z3,z4,z5⟩:=A7 hI7.box;have zl:=hI7.box.lt;have q3:=hx7.cell 3;have ql:=hx7.lt
   cases PJ with
   |false=>
    rw[if_pos rfl]at hop;have HP:=qz (fun W (hW:Below w.heap.size w W)=>B7.no (S:=S) (w0:=w0) (w:=w) (w':=W) hop hW);obtain⟨r0,r1,r2,r3,r4,r5,r6,r7⟩:=Du hI7.res;have fz:=hI7.res.frozen;have lt1:=hI7.res.lt;have HZ:=qz hI7.zero;clear hI7 hop hx7;go_upto_region 18 with(fail)
    repeat go_step
    exact bodyPost_ret (Av rfl rfl HZ.out.1) rfl (HP.out _ HZ.out.2)
   |true=>
   rw[if_neg (show ¬true=false from Bool.noConfusion)]at hop;have HB7:=qz hI7.below;obtain⟨HI7,Hx7⟩:=hid2 hI7 hx7;clear hI7 hx7;go_wp2_with (fail);(with_reducible refine(Hn2.out _ HB7.out).mono ?_);rintro e w8 ⟨hb8,cs8,rfl,hh8⟩;obtain⟨cla,clc,coa,coc,rfl⟩:=G9 hh8;have hI8:=(HI7.out.call hb8).alloc (.cells #[.int .i64 ck,.bool cb,.int .i64 cn,.string ct,.slice cla cl.length clc,.slice coa co.length coc] 33);have hx8:=(Hx7.out.below hb8 Hx7.out.lt).alloc (.cells #[.int .i64 ck,.bool cb,.int .i64 cn,.string ct,.slice cla cl.length clc,.slice coa co.length coc] 33);have hc8:=Aj.new w8 33 #[.int .i64 ck,.bool cb,.int .i64 cn,.string ct,.slice cla cl.length clc,.slice coa co.length coc];obtain⟨w9,hw9⟩: ∃w9,w8.alloc (.cells #[.int .i64 ck,.bool cb,.int .i64 cn,.string ct,.slice cla cl.length clc,.slice coa co.length coc] 33)=w9:=⟨_,rfl⟩;rw[hw9]at hI8 hx8 hc8;clear z0 z1 z2 z3 z4 z5 zl q3 ql hb8;obtain⟨z0,z1,z2,z3,z4,z5⟩:=A7 hI8.box;have zl:=hI8.box.lt;have q3:=hx8.cell 3;have ql:=hx8.lt;have u0:=hc8.cell 0;have u3:=hc8.cell 3;have ul:=hc8.lt;by_cases h4:ck=4;rotate_left
   . have e1:(ck != 4)=true:=by simpa using h4
     rw[if_pos h4]at hop;have HP:=qz (fun W (hW:Below w.heap.size w W)=>B7.no (S:=S) (w0:=w0) (w:=w) (w':=W) hop hW);obtain⟨r0,r1,r2,r3,r4,r5,r6,r7⟩:=Du hI8.res;have fz:=hI8.res.frozen;have lt1:=hI8.res.lt;have HZ:=qz hI8.zero;clear hI8 hop hx8 hc8;go_upto_region 21 with(fail);clear hw9
     repeat go_step
     exact bodyPost_ret (Av rfl rfl HZ.out.1) rfl (HP.out _ HZ.out.2)
   subst h4;rw[if_neg (show ¬(4:Int)≠4 from fun h=>h rfl)]at hop;have HP:=qz (fun W (cs:List Value) (hW:Below w.heap.size w W) hh=>B7.yes (S:=S) (w0:=w0) (w:=w) (w':=W) (cs:=cs) hop hW hh);have HB9:=qz hI8.below;obtain⟨HI8,Hx8,Hc8⟩:=hid3 hI8 hx8 hc8;clear hI8 hx8 hc8;clear hop;go_wp2_with (fail);clear hw9;(with_reducible refine(Hn3.out _ HB9.out).mono ?_);rintro e wa ⟨hba,csa,rfl,hha⟩;obtain⟨vla,vlc,voa,voc,rfl⟩:=G9 hha;have hIa:=(HI8.out.call hba).alloc (.cells #[.int .i64 vk,.bool vb,.int .i64 vn,.string vt,.slice vla vl.length vlc,.slice voa vo.length voc] 33);have hca:=(Hc8.out.below hba Hc8.out.lt).alloc (.cells #[.int .i64 vk,.bool vb,.int .i64 vn,.string vt,.slice vla vl.length vlc,.slice voa vo.length voc] 33);have hva:=Aj.new wa 33 #[.int .i64 vk,.bool vb,.int .i64 vn,.string vt,.slice vla vl.length vlc,.slice voa vo.length voc];obtain⟨wb,hwb⟩: ∃wb,wa.alloc (.cells #[.int .i64 vk,.bool vb,.int .i64 vn,.string vt,.slice vla vl.length vlc,.slice voa vo.length voc] 33)=wb:=⟨_,rfl⟩;rw[hwb]at hIa hca hva;clear z0 z1 z2 z3 z4 z5 zl q3 ql u0 u3 ul hba;obtain⟨v0,v1,v2,v3,v4,v5⟩:=A7 hva;have vl5:=hva.lt;have u3:=hca.cell 3;have ul:=hca.lt;obtain⟨r0,r1,r2,r3,r4,r5,r6,r7⟩:=Du hIa.res;have fz:=hIa.res.frozen;have lt1:=hIa.res.lt;have HZ:=qz (hIa.put (k:=1) (key:=ct) hha);clear hIa hca hva hha;go_upto_region 25 with(fail);clear hwb
   repeat go_step
   exact bodyPost_ret (Av rfl rfl HZ.out.1) rfl (HP.out _ _ HZ.out.2.1 HZ.out.2.2)
 rw[if_neg hpt]at hop;have p1:=Xq (l:= [112,117,116]) hpt;by_cases hdl:at'=Ef
 . subst hdl;rw[if_pos rfl]at hop;have hJ:=HJu.out [Ao,Bh];simp only[List.length_cons,List.length_nil]at hJ;generalize Fx [Ao,Bh] o'=PJ at hJ hop;have hw3b:=hI3.below;have hIa:=hI3.alloc (.cells #[.string Ao,.string Bh] 9);have hx6:=hx3.alloc (.cells #[.string Ao,.string Bh] 9);obtain⟨w6,hw6⟩: ∃w6,w3.alloc (.cells #[.string Ao,.string Bh] 9)=w6:=⟨_,rfl⟩;have HN:=qz (show Ae w6 w6.heap.size (.row 1 (dX [Ao,Bh])) [.slice (some ⟨w3.heap.size,0,none⟩) 2 2]from by rw[<-hw6];exact Ae9 (names:= [Ao,Bh]) (Aj.new w3 9 #[.string Ao,.string Bh]) rfl (by simp));rw[hw6]at hIa hx6;have hI6:=hIa;clear hw3b;obtain⟨z0,z1,z2,z3,z4,z5⟩:=A7 hI6.box;have zl:=hI6.box.lt;have q3:=hx6.cell 3;have ql:=hx6.lt;have HB6:=qz hI6.below;obtain⟨HI6,Hx6,HJ⟩:=hid3 hI6 hx6 hJ;clear hI6 hx6 hJ;clear hIa hx3 hI3;go_wp2_with (fail);clear hw6 y0 y1 y2 y3 y4 y5 yl x0 x3 xl;(with_reducible refine(HJ.out _ _ _ HB6.out HN.out (by omega)).mono ?_);rintro e w7 ⟨rfl,hb7⟩;have hI7:=HI6.out.call hb7;have hx7:=Hx6.out.below hb7 Hx6.out.lt;clear z0 z1 z2 z3 z4 z5 zl q3 ql hb7;obtain⟨z0,z1,z2,z3,z4,z5⟩:=A7 hI7.box;have zl:=hI7.box.lt;have q3:=hx7.cell 3;have ql:=hx7.lt
   cases PJ with
   |false=>
    rw[if_pos rfl]at hop;have HP:=qz (fun W (hW:Below w.heap.size w W)=>B7.no (S:=S) (w0:=w0) (w:=w) (w':=W) hop hW);obtain⟨r0,r1,r2,r3,r4,r5,r6,r7⟩:=Du hI7.res;have fz:=hI7.res.frozen;have lt1:=hI7.res.lt;have HZ:=qz hI7.zero;clear hI7 hop hx7;go_upto_region 18 with(fail)
    repeat go_step
    exact bodyPost_ret (Av rfl rfl HZ.out.1) rfl (HP.out _ HZ.out.2)
   |true=>
   rw[if_neg (show ¬true=false from Bool.noConfusion)]at hop;have HB7:=qz hI7.below;obtain⟨HI7,Hx7⟩:=hid2 hI7 hx7;clear hI7 hx7;go_wp2_with (fail);(with_reducible refine(Hn2.out _ HB7.out).mono ?_);rintro e w8 ⟨hb8,cs8,rfl,hh8⟩;obtain⟨cla,clc,coa,coc,rfl⟩:=G9 hh8;have hI8:=(HI7.out.call hb8).alloc (.cells #[.int .i64 ck,.bool cb,.int .i64 cn,.string ct,.slice cla cl.length clc,.slice coa co.length coc] 33);have hx8:=(Hx7.out.below hb8 Hx7.out.lt).alloc (.cells #[.int .i64 ck,.bool cb,.int .i64 cn,.string ct,.slice cla cl.length clc,.slice coa co.length coc] 33);have hc8:=Aj.new w8 33 #[.int .i64 ck,.bool cb,.int .i64 cn,.string ct,.slice cla cl.length clc,.slice coa co.length coc];obtain⟨w9,hw9⟩: ∃w9,w8.alloc (.cells #[.int .i64 ck,.bool cb,.int .i64 cn,.string ct,.slice cla cl.length clc,.slice coa co.length coc] 33)=w9:=⟨_,rfl⟩;rw[hw9]at hI8 hx8 hc8;clear z0 z1 z2 z3 z4 z5 zl q3 ql hb8;obtain⟨z0,z1,z2,z3,z4,z5⟩:=A7 hI8.box;have zl:=hI8.box.lt;have q3:=hx8.cell 3;have ql:=hx8.lt;have u0:=hc8.cell 0;have u3:=hc8.cell 3;have ul:=hc8.lt;by_cases h4:ck=4;rotate_left
   . have e1:(ck != 4)=true:=by simpa using h4
     rw[if_pos h4]at hop;have HP:=qz (fun W (hW:Below w.heap.size w W)=>B7.no (S:=S) (w0:=w0) (w:=w) (w':=W) hop hW);obtain⟨r0,r1,r2,r3,r4,r5,r6,r7⟩:=Du hI8.res;have fz:=hI8.res.frozen;have lt1:=hI8.res.lt;have HZ:=qz hI8.zero;clear hI8 hop hx8 hc8;go_upto_region 21 with(fail);clear hw9
     repeat go_step
     exact bodyPost_ret (Av rfl rfl HZ.out.1) rfl (HP.out _ HZ.out.2)
   subst h4;rw[if_neg (show ¬(4:Int)≠4 from fun h=>h rfl)]at hop;have HP:=qz (fun W (cs:List Value) (hW:Below w.heap.size w W) hh=>B7.yes (S:=S) (w0:=w0) (w:=w) (w':=W) (cs:=cs) hop hW hh);obtain⟨r0,r1,r2,r3,r4,r5,r6,r7⟩:=Du hI8.res;have fz:=hI8.res.frozen;have lt1:=hI8.res.lt;have HZ:=qz (hI8.put (k:=2) (key:=ct) (Sy S w0));clear hI8 hop hx8 hc8;go_upto_region 23 with(fail);clear hw9
   repeat go_step
   exact bodyPost_ret (Av rfl rfl HZ.out.1) rfl (HP.out _ _ HZ.out.2.1 HZ.out.2.2)
 rw[if_neg hdl]at hop;have d1:=Xq (l:= [100,101,108]) hdl;have hI6:=hI3.alloc (.cells #[.string Ao,.string Bh] 9);have hx6:=hx3.alloc (.cells #[.string Ao,.string Bh] 9);obtain⟨w6,hw6⟩: ∃w6,w3.alloc (.cells #[.string Ao,.string Bh] 9)=w6:=⟨_,rfl⟩;rw[hw6]at hI6 hx6;clear hx3;have q3:=hx6.cell 3;have ql:=hx6.lt;have HP:=qz (fun W (hW:Below w.heap.size w W)=>B7.no (S:=S) (w0:=w0) (w:=w) (w':=W) hop hW);obtain⟨r0,r1,r2,r3,r4,r5,r6,r7⟩:=Du hI6.res;have fz:=hI6.res.frozen;have lt1:=hI6.res.lt;have HZ:=qz hI6.zero;clear hI6 hop hI3 hx6;go_upto_region 16 with(fail);clear hw6
 repeat go_step
 exact bodyPost_ret (Av rfl rfl HZ.out.1) rfl (HP.out _ HZ.out.2)
end Go.Proofs.YtdbejcbbhomdbaaGreatDoor
