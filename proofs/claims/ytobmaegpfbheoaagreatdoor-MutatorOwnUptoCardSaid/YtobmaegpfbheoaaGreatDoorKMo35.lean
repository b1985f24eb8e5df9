/- Parts: commonplacelaw11.falls: a text is refused so. Condition: a text of at most 10^8 bytes; what is read has a bulk of at most 10^8. -/
import Derived.Test.YtobmaegpfbheoaaGreatDoorKMo28
import Derived.Test.YtobmaegpfbheoaaGreatDoorKMo34
set_option maxHeartbeats 20000000
set_option maxRecDepth 100000
namespace Go.Proofs.YtobmaegpfbheoaaGreatDoor
open Go Go.RowKit
theorem Gf {P:Program} {fn:Func} {t u:Tmp} {ty tb:TypeId} {tmps:Array Value} {W:World} {R:Nat} {cs:Array Value} {d:TypeDesc} (h:fn.results= #[.cell t ty,.tmp u]) (hp:tmps.getD t undef=.pointer (some ⟨R,0,none⟩)) (hx:Aj W R tb cs)
 (hu:P.underlying ty=some d) (hd:d.isRow=true) (hi:(P.info? ty).map (·.size)=some cs.size):(results fn tmps).run P W=.ok (.tuple #[.agg cs,tmps.getD u undef]) W:=by
 have hl:=run_loadVar_mid (P:=P) W R 0 ty cs.toList d (Bf hx) hu hd (by simpa using hi);have hp':tmps[t]?.getD undef=.pointer (some ⟨R,0,none⟩):=by simpa using hp
 simp[results,h,hp',asAddr,hl]
def Xl (v:Val) (w:World) (e:Ending) (w':World):Prop:=Below w.heap.size w w'/\ ∃ca:Array Value,e=.returned (.tuple #[.agg ca,.int .i64 (Nx v).1])/\An w.heap.size w' (dM (Nx v).2) ca.toList
theorem P0 (b:Nat) (w:World):An b w (dM Jy) B4.toList:=Dk 0 Ec Ec 0 false false (D5 _ _) (D5 _ _) (F5 _ _ _)
theorem Xl.no {v:Val} {w w':World} {c:Int} (h:Nx v=(c,Jy)) (hb:Below w.heap.size w w'):Xl v w (.returned (.tuple #[.agg B4,.int .i64 c])) w':=
 ⟨hb,B4,by rw[h],by rw[h];exact P0 _ _⟩
structure OF (w:World) (six:Array Value) (wr:World):Prop where
 below:Below w.heap.size w wr
 box:Aj wr w.heap.size 42 six
 res:Aj wr (w.heap.size+1) Af B4
theorem OF.call {w wr w':World} {six:Array Value} (h:OF w six wr) (hb:Below wr.heap.size wr w'):OF w six w':=⟨h.below.trans (hb.mono h.below.size),h.box.below hb h.box.lt,h.res.below hb h.res.lt⟩
theorem OF.grown {w wr w':World} {six:Array Value} {M:Nat} (h:OF w six wr) (hg:wr.grownBy w' (some M)) (hM:w.heap.size+1<M):OF w six w':=
 ⟨h.below.grown hg h.below.size (fun k e=>by cases e;omega),h.box.grown hg (by simp;omega),h.res.grown hg (by simp;omega)⟩
theorem Aec (vk:Int) (vb:Bool) (vn:Int) (vt:ByteArray) (vl:List Val) (vo:List (ByteArray×Val)) (vla vlc voa voc) (w:World) (hT:Cl w)
 (hV:Ai w w.heap.size (dV (.mk vk vb vn vt vl vo)) [.int .i64 vk,.bool vb,.int .i64 vn,.string vt,.slice vla vl.length vlc,.slice voa vo.length voc]) (hb:(Val.mk vk vb vn vt vl vo).bulk<=100000000)
 (hrb:(Df 65 (.mk vk vb vn vt vl vo)).1=0->Bm (Df 65 (.mk vk vb vn vt vl vo)).2<=100000000/\Nv (Df 65 (.mk vk vb vn vt vl vo)).2):
 Calls Tryz.prog 135 #[.agg #[.int .i64 vk,.bool vb,.int .i64 vn,.string vt,.slice vla vl.length vlc,.slice voa vo.length voc]] w (Xl (.mk vk vb vn vt vl vo) w):=by
 have hI0:OF w #[.int .i64 vk,.bool vb,.int .i64 vn,.string vt,.slice vla vl.length vlc,.slice voa vo.length voc] ((w.alloc (.cells #[.int .i64 vk,.bool vb,.int .i64 vn,.string vt,.slice vla vl.length vlc,.slice voa vo.length voc] 42)).alloc (.cells B4 Af)):=
  ⟨((Below.refl _ _).alloc (Nat.le_refl _) _).alloc (by simp) _,(Aj.new w _ _).alloc _,by simpa using Aj.new (w.alloc (.cells #[.int .i64 vk,.bool vb,.int .i64 vn,.string vt,.slice vla vl.length vlc,.slice voa vo.length voc] 42)) Af B4⟩
 obtain⟨wi,hwi⟩: ∃wi,(w.alloc (.cells #[.int .i64 vk,.bool vb,.int .i64 vn,.string vt,.slice vla vl.length vlc,.slice voa vo.length voc] 42)).alloc (.cells B4 Af)=wi:=⟨_,rfl⟩;rw[hwi]at hI0;have hMay:=Ps (.mk vk vb vn vt vl vo) [.int .i64 vk,.bool vb,.int .i64 vn,.string vt,.slice vla vl.length vlc,.slice voa vo.length voc] wi (hT.below hI0.below) (Co _ _ ((hV.below hI0.below).more hI0.below.size)) (by omega);obtain⟨x0,x1,x2,x3,x4,x5⟩:=Bd hI0.box;have xl:=hI0.box.lt;obtain⟨C0,hC0⟩: ∃c,Bb (.mk vk vb vn vt vl vo) 1=c:=⟨_,rfl⟩;rw[hC0]at hMay;obtain⟨PO,hPO⟩: ∃P,Xl (.mk vk vb vn vt vl vo) w=P:=⟨_,rfl⟩;rw[hPO];obtain⟨HI0,HMay,HT,HV,HPO,Hrb⟩:=hid6 hI0 hMay hT hV hPO hrb;clear hI0 hMay hT hV hPO hrb;go_enter Tryz.func135,Tryz.ntmps135;go_upto_region 1 with(fail);clear hwi;go_wp2_with (fail);(with_reducible refine(HMay.out).mono ?_);rintro e w2 ⟨rfl,hb2⟩;have hI2:=HI0.out.call hb2;have hlt2:w.heap.size+1<w2.heap.size:=hI2.res.lt;by_cases h0:C0=0;rotate_left
 . have t0:(C0 != 0)=true:=by simpa using h0
   have hP:PO (.returned (.tuple #[.agg B4,.int .i64 C0])) w2->True:=fun _=>trivial;have hmo:Nx (.mk vk vb vn vt vl vo)=(C0,Jy):=by
    unfold Nx;rw[hC0,if_pos h0]
   obtain⟨HI2,Hmo⟩:=hid2 hI2 hmo;clear hI2 hmo;clear hb2 h0 hC0 hP x0 x1 x2 x3 x4 x5;go_upto_region 3 with(fail)
   iterate 8 go_step
   refine Ag (cs:=B4) Af (.tmp 2) (.tmp 11) rfl (w.heap.size+1) 0 HI2.out.res (.agg B4) rfl rfl (Nat.le_of_ble_eq_true rfl) (by kernel_rfl) (by simp[Value.cells,Value.oneCell']) HI2.out.below (Nat.le_succ _) ?_;intro wz hxz hbz hsz hfar;rw[show(Value.agg B4).cells=B4 from by simp only[Value.cells],B3 B4 B4 rfl]at hxz;obtain⟨Hxz,Hbz⟩:=hid2 hxz hbz;clear hxz hbz;clear hfar hsz
   repeat go_step
   rw[<-HPO.out];exact bodyPost_ret (Gf rfl rfl Hxz.out Tryz.underlying45 rfl (by kernel_rfl)) rfl (Xl.no Hmo.out Hbz.out)
 subst h0;obtain⟨RES,hRES⟩: ∃r',Df 65 (.mk vk vb vn vt vl vo)=r':=⟨_,rfl⟩;have hI3:=hI2.call (Aa w2 (.cells B4 Af));have hv3:=Aj.new w2 Af B4;have hs3:w2.heap.size<(w2.alloc (.cells B4 Af)).heap.size:=by simp
 obtain⟨M,hMe⟩: ∃M,w2.heap.size=M:=⟨_,rfl⟩;obtain⟨w3,hw3⟩: ∃x,w2.alloc (.cells B4 Af)=x:=⟨_,rfl⟩;rw[hw3]at hI3 hv3 hs3;rw[hMe]at hv3 hs3 hlt2;have hrb3:=Hrb.out;rw[hRES]at hrb3;have hV3:=(HV.out.below hI3.below).more hI3.below.size;have hCau:=Tl RES.1 M ⟨w.heap.size,0,none⟩ ⟨M,0,none⟩ w3 (OfX RES M (w3.heap.size+1)) hs3 (fun W W' hg h=>h.grown (by omega) hg) (fun W hW hs=>by
  have:=Aef vk vb vn vt vl vo vla vlc voa voc w.heap.size M (w3.heap.size+1) W hs (by omega) ((hV3.below hW).more hW.size) hb hC0 (hI3.box.below hW hI3.box.lt) (hv3.below hW hv3.lt);rw[hRES]at this;exact this)
 have hmo:Nx (.mk vk vb vn vt vl vo)=if RES.1≠0 then(RES.1,Jy)else if Di RES.2≠0 then(Di RES.2,Jy)else(0,RES.2):=by
  unfold Nx;rw[hC0,if_neg (by simp),hRES]
 obtain⟨C1,hC1⟩: ∃c,RES.1=c:=⟨_,rfl⟩;rw[hC1]at hCau hmo;have hmf: ∀(fn:Fn) (first cap:Array Value) (w:World),(Instr.makeFunc fn first cap).run Tryz.prog w=.ok (.func fn first cap) w:=fun _ _ _ _=>rfl;obtain⟨HI3,Hv3,HCau,Hmo,Hrb3⟩:=hid5 hI3 hv3 hCau hmo hrb3;clear hI3 hv3 hCau hmo hrb3;clear hb2 hC0 x0 x1 x2 x3 x4 x5 hI2 Hrb;go_upto_region 4 with(fail);go_upto_region 5 with(fail);clear hw3 hMe;go_wp2_with (fail);(with_reducible refine(HCau.out).mono ?_);rintro e w4 ⟨rfl,hg4,hx4⟩;have hI4:=HI3.out.grown hg4 hlt2;have hT4:=HT.out.below hI4.below;by_cases h1:C1=0;rotate_left
 . have t0:(C1 != 0)=true:=by simpa using h1
   have t1:(C1==0)=false:=by simpa using h1
   have hmo:=Hmo.out;rw[if_pos h1]at hmo;obtain⟨Hmo,HI4⟩:=hid2 hmo hI4;clear hI4;clear hg4 hx4 hmo h1 hC1;go_upto_region 9 with(fail)
   iterate 8 go_step
   refine Ag (cs:=B4) Af (.tmp 2) (.tmp 21) rfl (w.heap.size+1) 0 HI4.out.res (.agg B4) rfl rfl (Nat.le_of_ble_eq_true rfl) (by kernel_rfl) (by simp[Value.cells,Value.oneCell']) HI4.out.below (Nat.le_succ _) ?_;intro wz hxz hbz hsz hfar;rw[show(Value.agg B4).cells=B4 from by simp only[Value.cells],B3 B4 B4 rfl]at hxz;obtain⟨Hxz,Hbz⟩:=hid2 hxz hbz;clear hxz hbz;clear hfar hsz
   repeat go_step
   rw[<-HPO.out];exact bodyPost_ret (Gf rfl rfl Hxz.out Tryz.underlying45 rfl (by kernel_rfl)) rfl (Xl.no Hmo.out Hbz.out)
 subst h1;obtain⟨ca,hxa,hs19,hfa⟩:=hx4 hC1;have hmo:=Hmo.out;rw[if_neg (by simp)]at hmo;obtain⟨hrb,hri⟩:=Hrb3.out hC1;have hMM:=Lu RES.2 ca.toList w4 hT4 hfa.now hrb hri;rw[show ca.toList.toArray=ca from by simp]at hMM;obtain⟨C2,hC2⟩: ∃c,Di RES.2=c:=⟨_,rfl⟩;rw[hC2]at hMM hmo;have hsc:B4.size=ca.size:=by rw[hs19];rfl
 have hcc: ∀u ∈ ca.toList,u.oneCell'=true:=hfa.now.len.2;have hz4:=hg4.size;obtain⟨HI4,Hxa,Hfa,HMM,Hmo⟩:=hid5 hI4 hxa hfa hMM hmo;clear hI4 hxa hfa hMM hmo;clear hg4 hx4;go_upto_region 7 with(fail)
 iterate 2 go_step
 refine Ae Af (.tmp 5) rfl M _ Hxa.out rfl _ Tryz.underlying45 rfl (by rw[<-hsc];kernel_rfl) ?_;go_wp2_with (fail);(with_reducible refine(HMM.out).mono ?_);rintro e w5 ⟨rfl,hb5⟩;have hI5:=HI4.out.call hb5;have hxa5:=Hxa.out.below hb5 Hxa.out.lt;have hfa5:=Hfa.out.later hb5;have hs5:=HI3.out.res.lt;have hz5:w3.heap.size<=w5.heap.size:=Nat.le_trans hz4 hb5.size;by_cases h2:C2=0;rotate_left
 . have t0:(C2 != 0)=true:=by simpa using h2
   have hmo:=Hmo.out;rw[if_pos h2]at hmo;obtain⟨Hmo,HI5⟩:=hid2 hmo hI5;clear hI5;clear hb5 hxa5 hfa5 hmo h2 hC2;go_upto_region 9 with(fail)
   iterate 8 go_step
   refine Ag (cs:=B4) Af (.tmp 2) (.tmp 21) rfl (w.heap.size+1) 0 HI5.out.res (.agg B4) rfl rfl (Nat.le_of_ble_eq_true rfl) (by kernel_rfl) (by simp[Value.cells,Value.oneCell']) HI5.out.below (Nat.le_succ _) ?_;intro wz hxz hbz hsz hfar;rw[show(Value.agg B4).cells=B4 from by simp only[Value.cells],B3 B4 B4 rfl]at hxz;obtain⟨Hxz,Hbz⟩:=hid2 hxz hbz;clear hxz hbz;clear hfar hsz
   repeat go_step
   rw[<-HPO.out];exact bodyPost_ret (Gf rfl rfl Hxz.out Tryz.underlying45 rfl (by kernel_rfl)) rfl (Xl.no Hmo.out Hbz.out)
 subst h2;have hmo:=Hmo.out;rw[if_neg (by simp)]at hmo;obtain⟨Hmo,HI5,Hxa5,Hfa5⟩:=hid4 hmo hI5 hxa5 hfa5;clear hI5 hxa5 hfa5;clear hb5 hmo;go_upto_region 10 with(fail)
 iterate 2 go_step
 refine Ae Af (.tmp 5) rfl M _ Hxa5.out rfl _ Tryz.underlying45 rfl (by rw[<-hsc];kernel_rfl) ?_
 iterate 2 go_step
 refine Ag (cs:=B4) Af (.tmp 2) (.tmp 23) rfl (w.heap.size+1) 0 HI5.out.res (.agg ca) rfl rfl (by simp only[Value.cells];rw[<-hsc];exact Nat.le_of_ble_eq_true rfl) (by simp only[Value.cells];rw[<-hsc];kernel_rfl) (by simp only[Value.cells];exact hcc) HI5.out.below (Nat.le_succ _) ?_;intro wz hxz hbz hsz hfar;rw[show(Value.agg ca).cells=ca from by simp only[Value.cells],B3 B4 ca hsc]at hxz;have hfz:An w.heap.size wz (dM RES.2) ca.toList:=Hfa5.out.keep (by omega) (by omega) fun p p1 _=>World.cell?_of_block (hfar _ (by omega));have HP:Hid (Xl (.mk vk vb vn vt vl vo) w (.returned (.tuple #[.agg ca,.int .i64 0])) wz):=⟨hbz,ca,by rw[Hmo.out],by rw[Hmo.out];exact hfz⟩;have Hxz:=qz hxz;clear hxz;clear hfar hsz hbz hfz
 repeat go_step
 rw[<-HPO.out];exact bodyPost_ret (Gf rfl rfl Hxz.out Tryz.underlying45 rfl (by rw[<-hsc];kernel_rfl)) rfl HP.out
def Acs (s:List UInt8) (w:World) (e:Ending) (w':World):Prop:=Below w.heap.size w w'/\ ∃ca:Array Value,e=.returned (.tuple #[.agg ca,.int .i64 (F7 s).1])/\ca.size=19/\An w.heap.size w' (dM (F7 s).2) ca.toList
structure PM (w wr:World):Prop where
 below:Below w.heap.size w wr
 res:Aj wr w.heap.size Af B4
theorem PM.call {w wr w':World} (h:PM w wr) (hb:Below wr.heap.size wr w'):PM w w':=⟨h.below.trans (hb.mono h.below.size),h.res.below hb h.res.lt⟩
theorem Za {s:List UInt8} {c:Int} {q:Nat} (h:c=0):Ib s≠ .bad c q:=by
 intro e;refine Yd (s:=s) (c:=c) (q:=q) h ?_;unfold Aa8;rw[e]
theorem Wo (s:ByteArray) (w:World) (hT:Cl w) (hNT:Q9 w) (hs:s.size<=100000000)
 (hv: ∀v q,Ib s.data.toList=.ok v q->v.bulk<=100000000/\((Df 65 v).1=0->Bm (Df 65 v).2<=100000000/\Nv (Df 65 v).2)):
 Calls Tryz.prog 86 #[.string s] w (Acs s.data.toList w):=by
 have hI0:PM w (w.alloc (.cells B4 Af)):=⟨(Below.refl _ _).alloc (Nat.le_refl _) _,Aj.new w _ _⟩;obtain⟨wi,hwi⟩: ∃wi,w.alloc (.cells B4 Af)=wi:=⟨_,rfl⟩;rw[hwi]at hI0;have HP:=qz (Zb s wi (hT.below hI0.below) (hNT.below hI0.below) hs);obtain⟨PO,hPO⟩: ∃P,Acs s.data.toList w=P:=⟨_,rfl⟩;rw[hPO];obtain⟨HI0,HT,HPO,Hv⟩:=hid4 hI0 hT hPO hv;clear hI0 hT hPO hv;go_enter Tryz.func86,Tryz.ntmps86;go_upto_region 1 with(fail);clear hwi;go_wp2_with (fail);(with_reducible refine(HP.out).mono ?_);rintro e w2 ⟨hb2,hr⟩;have hI2:=HI0.out.call hb2;have hle0:=HI0.out.below.size;obtain⟨RES,hRES⟩: ∃r,Ib s.data.toList=r:=⟨_,rfl⟩;rw[hRES]at hr
 cases RES with
 |bad c q=>
  simp only at hr;obtain rfl:=hr;have hc:c≠0:=fun e=>Za e hRES;have t0:(c != 0)=true:=by simpa using hc
  have Hmo:=qz (show F7 s.data.toList=(c,Jy)from by unfold F7;rw[hRES]);have HI3:=qz (hI2.call (Aa w2 (.cells Ak 42)));clear hb2 hI2 hc hRES;go_upto_region 3 with(fail)
  iterate 8 go_step
  refine Ag (cs:=B4) Af (.tmp 2) (.tmp 15) rfl w.heap.size 0 HI3.out.res (.agg B4) rfl rfl (Nat.le_of_ble_eq_true rfl) (by kernel_rfl) (by simp[Value.cells,Value.oneCell']) HI3.out.below (Nat.le_refl _) ?_;intro wz hxz hbz hsz hfar;rw[show(Value.agg B4).cells=B4 from by simp only[Value.cells],B3 B4 B4 rfl]at hxz;obtain⟨Hxz,Hbz⟩:=hid2 hxz hbz;clear hxz hbz;clear hfar hsz
  repeat go_step
  rw[<-HPO.out];exact bodyPost_ret (Gf rfl rfl Hxz.out Tryz.underlying45 rfl (by kernel_rfl)) rfl ⟨Hbz.out,B4,by rw[Hmo.out];rfl,rfl,by rw[Hmo.out];exact P0 _ _⟩
 |ok v q=>
  simp only at hr;obtain⟨cs,rfl,hf⟩:=hr;obtain⟨hvb,hvr⟩:=Hv.out v q hRES;have Hmo:=qz (show F7 s.data.toList=Nx v from by unfold F7;rw[hRES]);obtain⟨k,b,n,t,l,o⟩:=v;obtain⟨la,lc,oa,oc,rfl⟩:=Eu hf;have hI3:=hI2.call (Aa w2 (.cells #[.int .i64 k,.bool b,.int .i64 n,.string t,.slice la l.length lc,.slice oa o.length oc] 42));have hx3:=Aj.new w2 42 #[.int .i64 k,.bool b,.int .i64 n,.string t,.slice la l.length lc,.slice oa o.length oc];have hf3:=hf.later (Aa w2 (.cells #[.int .i64 k,.bool b,.int .i64 n,.string t,.slice la l.length lc,.slice oa o.length oc] 42));obtain⟨w3,hw3⟩: ∃x,w2.alloc (.cells #[.int .i64 k,.bool b,.int .i64 n,.string t,.slice la l.length lc,.slice oa o.length oc] 42)=x:=⟨_,rfl⟩;rw[hw3]at hI3 hx3 hf3;have HOf:=qz (Aec k b n t l o la lc oa oc w3 (HT.out.below hI3.below) hf3.now hvb hvr);obtain⟨x0,x1,x2,x3,x4,x5⟩:=Bd hx3;have xl:=hx3.lt;have HI3:=qz hI3;clear hI3;clear hb2 hI2 hf hf3 hx3 hRES hvr;go_upto_region 4 with(fail);clear hw3;go_wp2_with (fail);(with_reducible refine(HOf.out).mono ?_);rintro e w4 ⟨hb4,ca,rfl,hf4⟩;have HI4:=qz (HI3.out.call hb4);have hsc:B4.size=ca.size:=by have:=hf4.now.len.1;rw[C9]at this;simpa using this.symm
  have hcc: ∀u ∈ ca.toList,u.oneCell'=true:=hf4.now.len.2;have hlt:=HI3.out.res.lt;have hmo:=Hmo.out;generalize hMO:Nx (.mk k b n t l o)=MO at hf4 hmo ⊢;obtain⟨Hf4,Hmo⟩:=hid2 hf4 hmo;clear hf4 hmo;clear hb4 hMO x0 x1 x2 x3 x4 x5;dsimp only
  iterate 8 go_step
  refine Ag (cs:=B4) Af (.tmp 2) (.tmp 19) rfl w.heap.size 0 HI4.out.res (.agg ca) rfl rfl (by simp only[Value.cells];rw[<-hsc];exact Nat.le_of_ble_eq_true rfl) (by simp only[Value.cells];rw[<-hsc];kernel_rfl) (by simp only[Value.cells];exact hcc) HI4.out.below (Nat.le_refl _) ?_;intro wz hxz hbz hsz hfar;rw[show(Value.agg ca).cells=ca from by simp only[Value.cells],B3 B4 ca hsc]at hxz;have hfz:An w.heap.size wz (dM MO.2) ca.toList:=Hf4.out.keep (by omega) (by omega) fun p p1 _=>World.cell?_of_block (hfar _ (by omega));have HQ:Hid (Acs s.data.toList w (.returned (.tuple #[.agg ca,.int .i64 MO.1])) wz):=⟨hbz,ca,by rw[Hmo.out],by rw[<-hsc];rfl,by rw[Hmo.out];exact hfz⟩;have Hxz:=qz hxz;clear hxz;clear hfar hsz hbz hfz
  repeat go_step
  rw[<-HPO.out];exact bodyPost_ret (Gf rfl rfl Hxz.out Tryz.underlying45 rfl (by rw[<-hsc];kernel_rfl)) rfl HQ.out
theorem Ua {P:Program} {ops:Array Oper} {op:Oper} {a:Act} {w:World} {K:Act->World->Prop} {Q:Exit->Act->World->Prop} {E:Prop} (hw:Region.wanted op (yielded ops a.tmps)=true) (ty:TypeId) (x:Operand) (ho:op.op=.load ty x) (g:Nat) {t:TypeId} (cs:Array Value) (hb:Aj w g t cs)
 (hx:a.eval x=.pointer (some ⟨g,0,none⟩)) (d:TypeDesc) (hu:P.underlying ty=some d) (hd:d.isRow=true) (hi:(P.info? ty).map (·.size)=some cs.size)
 (h:K (a.put op.dst (.agg cs)) w):if Region.wanted op (yielded ops a.tmps)=true then Oper.wp P op a w K Q else E:=by
 rw[if_pos hw];exact Ae ty x ho g cs hb hx d hu hd hi h
theorem Kl (s:ByteArray) (c:Int) (w:World) (hT:Cl w) (hNT:Q9 w) (hs:s.size<=100000000) (hp:F7 s.data.toList=(c,Jy))
 (hv: ∀v q,Ib s.data.toList=.ok v q->v.bulk<=100000000/\((Df 65 v).1=0->Bm (Df 65 v).2<=100000000/\Nv (Df 65 v).2)):
 Calls Tryz.prog 41 #[.string s,.int .i64 c] w fun e w'=>e=.returned (.bool true)/\Below w.heap.size w w':=by
 have hP:=Wo s w hT hNT hs hv;unfold Acs at hP;rw[hp]at hP;have HP:=qz hP;clear hP;clear hp hv;go_enter Tryz.func41,Tryz.ntmps41;go_upto_region 1 with(fail);go_wp2_with (fail);(with_reducible refine(HP.out).mono ?_);rintro e w1 ⟨hb1,ca,rfl,hs19,hf⟩;have hsc:B4.size=ca.size:=by rw[hs19];rfl
 have hcc:ca.all (·.oneCell')=true:=by rw[Array.all_eq_true];intro i hi;exact hf.now.len.2 _ (by simp)
 have hE:=U4 Jy Jy ca.toList B4.toList (w1.alloc (.cells ca Af)) (hf.later (Aa _ _)).now (P0 (w1.alloc (.cells ca Af)).heap.size (w1.alloc (.cells ca Af))).now (by decide) (by decide);rw[show ca.toList.toArray=ca from by simp,show B4.toList.toArray=B4 from by simp]at hE;have Hx1:=qz (Aj.new w1 Af ca);have Hw1:=qz (hb1.alloc hb1.size (.cells ca Af));have HE:=qz hE;clear hE;clear hf hb1;dsimp only
 iterate 14 go_step
 refine Cz Af (.tmp 5) (.tmp 10) rfl (cs0:=B4) ca rfl rfl hsc (by rw[<-hsc];kernel_rfl) hcc ?_;generalize w1.alloc (.cells ca Af)=wj at Hx1 HE Hw1 ⊢;dsimp only;go_upto_region 2 with(fail)
 iterate 13 go_step
 refine wpList_step fun K' hK'=> ?_;refine Ua rfl Af (.tmp 5) rfl w1.heap.size ca Hx1.out rfl _ Tryz.underlying45 rfl (by rw[<-hsc];kernel_rfl) ?_;refine hK' _ _ ?_;clear hK' K';go_wp2_with (fail);(with_reducible refine(HE.out).mono ?_);rintro e w2 ⟨B,rfl,hB,hb2⟩;obtain rfl:B=true:=by simpa using hB
 have Hw2:=qz (Hw1.out.trans (hb2.mono Hw1.out.size));clear hb2 hB;go_wp2;go_ret;exact⟨rfl,Hw2.out⟩
end Go.Proofs.YtobmaegpfbheoaaGreatDoor
