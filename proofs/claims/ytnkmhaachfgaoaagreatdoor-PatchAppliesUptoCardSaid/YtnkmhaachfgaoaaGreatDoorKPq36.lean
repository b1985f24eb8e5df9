/- Parts: tree.mend. Condition: 2 to 8 kids, of which one has three. -/
import Derived.Test.YtnkmhaachfgaoaaGreatDoorKPq33
set_option maxHeartbeats 20000000
set_option maxRecDepth 100000
namespace Go.Proofs.YtnkmhaachfgaoaaGreatDoor
open Go Go.RowKit
theorem Vf (S:Nat->Prop) (b gl gr:Nat) (l r:List Ax) (w:World) (hl:Al (fun i=>i≠gr) b 71 7 w (dO l) (.slice (some ⟨gl,0,none⟩) l.length l.length)) (hr:Al (fun i=>i≠gl) b 71 7 w (dO r) (.slice (some ⟨gr,0,none⟩) r.length r.length)) (hne:gl≠gr) (hb:b<=w.heap.size)
 (hl3:l.length=3) (h4:4<r.length) (h8:r.length<=8) (ha:Az (l++r)) (hbk:Ac l+Ac r<=100000000):
 Calls Tryz.prog 163 #[.slice (some ⟨gl,0,none⟩) l.length l.length,.slice (some ⟨gr,0,none⟩) r.length r.length,.func (.func 92) #[] #[]] w (SPb S b (Gg l r) w):=by
 obtain⟨PO,hPO⟩: ∃P:Ending->World->Prop,SPb S b (Gg l r) w=P:=⟨_,rfl⟩;rw[hPO];obtain⟨⟨k,v⟩,rr,rfl⟩: ∃x t,r=x::t:=by
  cases r with
  |nil=>simp at h4
  |cons x t=>exact⟨x,t,rfl⟩
 have he:Gg l ((k,v)::rr)=(.leaf (l++ [(k,v)]),some (.leaf rr)):=by unfold Gg;rw[if_neg (by omega),if_pos h4];rfl
 obtain⟨R,hR⟩: ∃R,rr.length=R:=⟨_,rfl⟩;have hlr:((k,v)::rr).length=R+1:=by rw[List.length_cons,hR]
 rw[hlr]at hr h4 h8 ⊢;obtain⟨k',b',n',t',la,ln,lc,oa,on,oc,hv,r1⟩:=hr.entAt (q:=0) (k:=k) (v:=v) rfl;rw[Nat.zero_mul]at r1;have hpw:=List.pairwise_append.1 ha;have hpr:=List.pairwise_cons.1 hpw.2.1;have ha1:Az (l++ [(k,v)]):=List.pairwise_append.2 ⟨hpw.1,List.pairwise_singleton _ _,fun x hx y hy=>by
  rw[List.mem_singleton.1 hy];exact hpw.2.2 _ hx _ (by simp)⟩
 have hbk1:Ac (l++ [(k,v)])<=100000000:=by
  rw[Eg];simp only[Ac]at hbk ⊢;omega
 have hbk2:Ac rr<=100000000:=by
  simp only[Ac]at hbk;omega
 have hrI:Ag (fun i=>i≠gl) w (.row 7 (dO ((k,v)::rr))) [.slice (some ⟨gr,0,none⟩) (R+1) (R+1)]:=hr.closeIn.mono fun i _ hi=>hi.elim id fun e=>by
  have e2:gr=i:=Option.some.inj e;omega
 rw[hl3]at hl ⊢;have s0:w.cell? ⟨gr,0,none⟩=some (.string k):=by simpa using r1 0 _ rfl
 have s1:w.cell? ⟨gr,1,none⟩=some (.int .i64 k'):=by simpa using r1 1 _ rfl
 have s2:w.cell? ⟨gr,2,none⟩=some (.bool b'):=by simpa using r1 2 _ rfl
 have s3:w.cell? ⟨gr,3,none⟩=some (.int .i64 n'):=by simpa using r1 3 _ rfl
 have s4:w.cell? ⟨gr,4,none⟩=some (.string t'):=by simpa using r1 4 _ rfl
 have s5:w.cell? ⟨gr,5,none⟩=some (.slice la ln lc):=by simpa using r1 5 _ rfl
 have s6:w.cell? ⟨gr,6,none⟩=some (.slice oa on oc):=by simpa using r1 6 _ rfl
 have y0:(4:Int)<(R:Int)+1:=by omega
 have y1:(0:Int)<(R:Int)+1:=by omega
 have y2:(1:Int)<=(R:Int)+1:=by omega
 have y3: ¬R+1=1:=by omega
 have y4: ¬R=0:=by omega
 have y5:1<=R+1:=by omega
 have lgl:=(hl.base gl rfl).2;have lgr:=(hr.base gr rfl).2;have hlb:=(hl.base gl rfl).1;obtain⟨j0,hj,hy0,hy1,hy2⟩:=info_parts Xt;obtain⟨Hl,Hr,HPO,He,Hv,HrI,Ha1,Hbk1,Hbk2,Hpr,Hj,Hy0,Hy1,Hy2,HR,Hl3⟩:=hid16 hl hr hPO he hv hrI ha1 hbk1 hbk2 hpr hj hy0 hy1 hy2 hR hl3;clear hl hr hPO he hv hrI ha1 hbk1 hbk2 hpr hj hy0 hy1 hy2 hR hl3;clear hpw r1 ha hbk h4;go_enter Tryz.func163,Tryz.ntmps163;go_upto_region 5 with(fail);refine wp_region_held_drew (S:=fun Y:World=>Y.cell? ⟨gr,0,none⟩=some (.string k)/\Y.cell? ⟨gr,1,none⟩=some (.int .i64 k')/\Y.cell? ⟨gr,2,none⟩=some (.bool b')/\Y.cell? ⟨gr,3,none⟩=some (.int .i64 n')/\Y.cell? ⟨gr,4,none⟩=some (.string t')/\Y.cell? ⟨gr,5,none⟩=some (.slice la ln lc)/\Y.cell? ⟨gr,6,none⟩=some (.slice oa on oc)) (by kernel_rfl) ⟨s0,s1,s2,s3,s4,s5,s6⟩ (fun hHeld=> ?_);have hbd:Below w.heap.size w w.drew:=Below.drew (Below.refl _ w);generalize w.drew=wd at hbd hHeld ⊢;have hS: ∀(W W':World),w.heap.size<=W.heap.size->W'.heap[gr]? =W.heap[gr]? ->(W.cell? ⟨gr,0,none⟩=some (.string k)/\W.cell? ⟨gr,1,none⟩=some (.int .i64 k')/\W.cell? ⟨gr,2,none⟩=some (.bool b')/\W.cell? ⟨gr,3,none⟩=some (.int .i64 n')/\W.cell? ⟨gr,4,none⟩=some (.string t')/\W.cell? ⟨gr,5,none⟩=some (.slice la ln lc)/\W.cell? ⟨gr,6,none⟩=some (.slice oa on oc))->(W'.cell? ⟨gr,0,none⟩=some (.string k)/\W'.cell? ⟨gr,1,none⟩=some (.int .i64 k')/\W'.cell? ⟨gr,2,none⟩=some (.bool b')/\W'.cell? ⟨gr,3,none⟩=some (.int .i64 n')/\W'.cell? ⟨gr,4,none⟩=some (.string t')/\W'.cell? ⟨gr,5,none⟩=some (.slice la ln lc)/\W'.cell? ⟨gr,6,none⟩=some (.slice oa on oc)):=by
  rintro W W' _ hB ⟨a0,a1,a2,a3,a4,a5,a6⟩;have hc: ∀o,W'.cell? ⟨gr,o,none⟩=W.cell? ⟨gr,o,none⟩:=fun o=>World.cell?_of_block hB;exact⟨(hc _).trans a0,(hc _).trans a1,(hc _).trans a2,(hc _).trans a3,(hc _).trans a4,(hc _).trans a5,(hc _).trans a6⟩
 have HS:=qz hS;clear hS;refine tkH 0 hHeld ?_;refine tkH 1 hHeld ?_;refine tkH 2 hHeld ?_;refine tkH 3 hHeld ?_;refine tkH 4 hHeld ?_;refine tkH 8 hHeld ?_;refine tkH 9 hHeld ?_;refine tkH 10 hHeld ?_;refine C4 5 fun K hK=> ?_;go_simp;have hb1:=Aa wd (.cells #[.string k,.int .i64 k',.bool b',.int .i64 n',.string t',.slice la ln lc,.slice oa on oc] 71);have hrd:=Db (Ah.new wd 71 #[.string k,.int .i64 k',.bool b',.int .i64 n',.string t',.slice la ln lc,.slice oa on oc]);have hw1:=hbd.trans (hb1.mono hbd.size);refine hK.out _ _ (HS.out wd _ hbd.size (hb1.block gr (Nat.lt_of_lt_of_le lgr hbd.size)) hHeld) (fun hHeld=> ?_);clear hK K
 try simp only[Act.put,tk1,tk2,tk3,tk4,tk5,tk6]
 generalize wd.heap.size=vb at hrd ⊢;generalize wd.alloc (.cells #[.string k,.int .i64 k',.bool b',.int .i64 n',.string t',.slice la ln lc,.slice oa on oc] 71)=W at hrd hw1 hHeld ⊢;clear hb1;have hv2:Ag (fun i=>True/\(Value.slice (some ⟨gl,0,none⟩) 3 3).ownBlock≠some i) W (dP (k,v)) (.string k:: [.int .i64 k',.bool b',.int .i64 n',.string t',.slice la ln lc,.slice oa on oc]):=fun w'' q1 q2=>
  Nr ((Hv.out.below hw1) w'' q1 fun p p1 p2=>q2 p ⟨trivial,fun e=>by
   have e2:gl=p.block:=Option.some.inj e;rcases p1 with p1|p1
   . exact p1 e2.symm
   . omega⟩ p2)
 have HlW:=qz ((Hl.out.below hw1).mono (T0:=fun _=>True) fun _ _=>trivial);have hzw:=hw1.size;have Hlo:=qz (show(dO l).length=3 from by rw[At];exact Hl3.out);obtain⟨Hv2,Hrd,Hw1⟩:=hid3 hv2 hrd hw1;clear hv2 hrd hw1;refine C4 6 fun K hK=> ?_;refine E8 (d:=dP (k,v)) (V:=.slice (some ⟨gl,0,none⟩) 3 3) (by rfl) (.tmp 35) (.tmp 39) 22 (by rfl) Tryz.underlying22 Hj.out Hy0.out Hy1.out Hy2.out rfl (by omega) (by rfl) HlW.out (Nat.le_trans hb hzw) (Dr _) Hv2.out (by rfl) Hrd.out (by rw[Hlo.out];simp only[maxLen];omega) (by rw[Hlo.out];omega) ?_;intro V2 W2 hr2 hg2 _;have e2:dO l++ [dP (k,v)]=dO (l++ [(k,v)]):=by rw[Bi,Bi,List.map_append];rfl
 rw[e2]at hr2;have HBb:Hid (Below b w W2):=(Hw1.out.mono hb).grown hg2 (Nat.le_trans hb hzw) (fun j hj=>by cases hj;exact hlb);have l2:(dO (l++ [(k,v)])).length=4:=by rw[At,List.length_append,Hl3.out];rfl
 obtain⟨a2,c2,rfl⟩:=hr2.slice_n l2;have HC2:=qz (Dj (fun _=>False) (l++ [(k,v)]) a2 4 c2 W2 hr2.close Ha1.out (by rw[List.length_append,Hl3.out];simp) Hbk1.out);have hzW:=hg2.size;have HrI2:Hid (Ag (fun i=>i≠gl) W2 (.row 7 (dO ((k,v)::rr))) [.slice (some ⟨gr,0,none⟩) (R+1) (R+1)]):=(HrI.out.below Hw1.out).later hzW fun p p1 p2=>World.cell?_of_block (hg2.block _ p2 fun e=>p1 (Option.some.inj e));refine hK.out _ _ (HS.out W _ hzw (hg2.block gr (Nat.lt_of_lt_of_le lgr hzw) fun e=>hne (Option.some.inj e).symm) hHeld) (fun hHeld=> ?_);clear hK K hr2 hg2 e2 l2
 try simp only[Act.put,tk1,tk2,tk3,tk4,tk5,tk6]
 refine C4 7 fun K hK=> ?_;go_simp;(with_reducible refine(HC2.out).mono ?_);rintro e W3 ⟨hb3,b3,rfl,hN3⟩;have hd:Ae W3 W3.heap.size (.row 7 (dO rr)) [.slice (some ⟨gr,7,none⟩) R R]:=by
  have:=(HrI2.out.below hb3).now.cutR (i:=1) (m:=R) (by rw[At,List.length_cons,HR.out];omega) R;simpa[dO]using this
 have HC3:=qz (Dj (fun _=>False) rr (some ⟨gr,7,none⟩) R R W3 hd Hpr.out.2 (by rw[HR.out];omega) Hbk2.out);refine hK.out _ _ (HS.out W2 _ (Nat.le_trans hzw hzW) (hb3.block gr (by omega)) hHeld) (fun hHeld=> ?_);obtain⟨Hb3,HN3⟩:=hid2 hb3 hN3;clear hb3 hN3;clear hK K hd
 try simp only[Act.put,tk1,tk2,tk3,tk4,tk5,tk6]
 refine C4 11 fun K hK=> ?_;go_simp;(with_reducible refine(HC3.out).mono ?_);rintro e W4 ⟨hb4,b4,rfl,hN4⟩;have HP:Hid (PO (.returned (.tuple #[.pointer (some ⟨b3,0,none⟩),.pointer (some ⟨b4,0,none⟩)])) W4):=by
  show PO _ _;rw[<-HPO.out,He.out];have hz3:=Hb3.out.size;exact⟨(HBb.out.trans (Hb3.out.mono (by omega))).trans (hb4.mono (by omega)),b3,_,rfl,(HN3.out.below hb4).mono (fun i _ h=> .inr (h.elim False.elim fun h=>by omega)),b4,rfl,hN4.mono fun i _ h=> .inr (h.elim False.elim fun h=>by omega)⟩
 refine hK.out _ _ (HS.out W3 _ (by have:=Hb3.out.size;omega) (hb4.block gr (by have:=Hb3.out.size;omega)) hHeld) (fun hHeld=> ?_);clear hK K hb4 hN4
 try simp only[Act.put,tk1,tk2,tk3,tk4,tk5,tk6]
 refine tkH 12 hHeld ?_;refine tkH 13 hHeld ?_;refine wpAnyH_done (by kernel_rfl) ?_ _;clear hHeld;go_wp2;exact HP.out
theorem Vg (S:Nat->Prop) (b gl gr:Nat) (l r:List Ax) (w:World) (hl:Al (fun i=>i≠gr) b 71 7 w (dO l) (.slice (some ⟨gl,0,none⟩) l.length l.length)) (hr:Al (fun i=>i≠gl) b 71 7 w (dO r) (.slice (some ⟨gr,0,none⟩) r.length r.length)) (_hne:gl≠gr) (hb:b<=w.heap.size)
 (hl4:l.length<=4) (hr4:r.length<=4) (ha:Az (l++r)) (hbk:Ac l+Ac r<=100000000):
 Calls Tryz.prog 163 #[.slice (some ⟨gl,0,none⟩) l.length l.length,.slice (some ⟨gr,0,none⟩) r.length r.length,.func (.func 92) #[] #[]] w (SPb S b (Gg l r) w):=by
 obtain⟨PO,hPO⟩: ∃P:Ending->World->Prop,SPb S b (Gg l r) w=P:=⟨_,rfl⟩;rw[hPO];have he:Gg l r=(.leaf (l++r),none):=by unfold Gg;rw[if_neg (by omega),if_neg (by omega)]
 obtain⟨ns,hrd,hA,hnn⟩:=hr.reads;clear hnn;have HA2:Hid (An (fun i=>True/\(Value.slice (some ⟨gl,0,none⟩) l.length l.length).ownBlock≠some i) w (dO r) ns):=hA.mono fun i _ h=>⟨trivial,fun e=>h.1 (Option.some.inj e).symm⟩;have Hl2:=qz (hl.mono (T0:=fun _=>True) fun _ _=>trivial);have hlb:=(hl.base gl rfl).1;have hdl:=(At r).symm;have hdl2:=At l;obtain⟨j0,hj,hy0,hy1,hy2⟩:=info_parts Xt;have y0: ¬(4:Int)<(l.length:Int):=by omega
 have y1: ¬(4:Int)<(r.length:Int):=by omega
 have Hbk1:=qz (show Ac (l++r)<=100000000 from by rw[Eg];exact hbk);obtain⟨HPO,He,Hrd,Hj,Hy0,Hy1,Hy2,Hdl,Hdl2,Ha⟩:=hid10 hPO he hrd hj hy0 hy1 hy2 hdl hdl2 ha;clear hPO he hrd hj hy0 hy1 hy2 hdl hdl2 ha;clear hl hr hA;go_enter Tryz.func163,Tryz.ntmps163;go_wp2_with (at_builtin;apply Shut.out);unfold Shut;refine B8 (n:=r.length) (A:=some ⟨gr,0,none⟩) (c:=r.length) rfl (.tmp 47) (.tmp 48) 22 rfl Tryz.underlying22 Hj.out Hy0.out Hy1.out Hy2.out rfl (by omega) rfl Hl2.out hb (Dh _) HA2.out rfl Hrd.out Hdl.out (by rw[Hdl2.out];simp only[maxLen];omega) (by rw[Hdl2.out];omega) ?_;intro V2 W2 hr2 hg2 _;have e2:dO l++dO r=dO (l++r):=by rw[Bi,Bi,Bi,List.map_append]
 rw[e2]at hr2;have HBb:Hid (Below b w W2):=(Below.refl b w).grown hg2 hb (fun j hj=>by cases hj;exact hlb);obtain⟨N,hN⟩: ∃N,(dO (l++r)).length=N:=⟨_,rfl⟩;obtain⟨a2,c2,rfl⟩:=hr2.slice_n hN;have HC2:=qz (Dj (fun _=>False) (l++r) a2 N c2 W2 hr2.close Ha.out (by rw[List.length_append];omega) Hbk1.out);have hzW:=hg2.size;clear hr2 hg2 e2 hN;go_wp2_with (fail);(with_reducible refine(HC2.out).mono ?_);rintro e W3 ⟨hb3,b3,rfl,hN3⟩;have HP:Hid (PO (.returned (.tuple #[.pointer (some ⟨b3,0,none⟩),.pointer none])) W3):=by
  show PO _ _;rw[<-HPO.out,He.out];exact⟨HBb.out.trans (hb3.mono (by omega)),b3,_,rfl,hN3.mono (fun i _ h=> .inr (h.elim False.elim fun h=>by omega)),rfl⟩
 clear hb3 hN3;go_wp2;exact HP.out
theorem Yi (S:Nat->Prop) (b gl gr:Nat) (l r:List Ax) (w:World) (hl:Al (fun i=>i≠gr) b 71 7 w (dO l) (.slice (some ⟨gl,0,none⟩) l.length l.length)) (hr:Al (fun i=>i≠gl) b 71 7 w (dO r) (.slice (some ⟨gr,0,none⟩) r.length r.length)) (hne:gl≠gr) (hb:b<=w.heap.size)
 (hl8:3<=l.length/\l.length<=8) (hr8:3<=r.length/\r.length<=8) (h3:l.length=3\/r.length=3) (ha:Az (l++r)) (hbk:Ac l+Ac r<=100000000):
 Calls Tryz.prog 163 #[.slice (some ⟨gl,0,none⟩) l.length l.length,.slice (some ⟨gr,0,none⟩) r.length r.length,.func (.func 92) #[] #[]] w (SPb S b (Gg l r) w):=by
 by_cases h1:4<l.length
 . exact Ve S b gl gr l r w hl hr hne hb hl8.2 (by omega) h1 ha hbk
 by_cases h2:4<r.length
 . exact Vf S b gl gr l r w hl hr hne hb (by omega) h2 hr8.2 ha hbk
 exact Vg S b gl gr l r w hl hr hne hb (by omega) (by omega) ha hbk
theorem O9 {a b:List Nd} (h:Az (Ap (a++b))):Az (Ap a)/\Az (Ap b):=by
 rw[A0]at h;have:=List.pairwise_append.1 h;exact⟨this.1,this.2.1⟩
theorem Pa {a b:List Nd}:(Ap (a++b)).length=(Ap a).length+(Ap b).length:=by rw[A0,List.length_append]
theorem W7 (a b:List Nat):Ar (a++b)=Ar a++Ar b:=by unfold Ar;rw[List.map_append]
theorem Al.ptrAt {S0:Nat->Prop} {b g n c q p:Nat} {w:World} {l:List Nat} (h:Al S0 b 25 1 w (Ar l) (.slice (some ⟨g,0,none⟩) n c)) (hi:l[q]? =some p):w.cell? ⟨g,q,none⟩=some (.pointer (some ⟨p,0,none⟩)):=by
 obtain⟨g',off,e,hg,hc⟩:=Ik h.close hi
 cases e
 rwa [Nat.zero_add]at hc
theorem Vh (S:Nat->Prop) (T b gl gr cl cr:Nat) (l r:List Nd) (bl br:List Nat) (w:World) (hl:Al (fun _=>False) b 25 1 w (Ar bl) (.slice (some ⟨gl,0,none⟩) l.length cl)) (hr:Al (fun _=>False) b 25 1 w (Ar br) (.slice (some ⟨gr,0,none⟩) r.length cr)) (hkl:Am S w l bl) (hkr:Am S w r br) (hSb: ∀i,S i->i<b) (hne:gl≠gr) (hb:b<=w.heap.size)
 (h8:l.length<=8) (hr3:r.length=3) (h4:4<l.length) (ha:Az (Ap (l++r))) (hok: ∀k ∈ l++r,Cb 4 T k) (hT:T<=1000000) (hN:(Ap (l++r)).length<=1000000000):
 Calls Tryz.prog 164 #[.slice (some ⟨gl,0,none⟩) l.length cl,.slice (some ⟨gr,0,none⟩) r.length cr,.func (.func 58) #[] #[]] w (SPb S b (Gh l r) w):=by
 obtain⟨PO,hPO⟩: ∃P:Ending->World->Prop,SPb S b (Gh l r) w=P:=⟨_,rfl⟩;rw[hPO];have he:Gh l r=(Ce (l.take (l.length - 1)),some (Ce (l.drop (l.length - 1)++r))):=by unfold Gh;rw[if_pos h4,List.dropLast_eq_take]
 obtain⟨M,hM⟩: ∃M,l.length=M+1:=⟨l.length - 1,by omega⟩;rw[show l.length - 1=M from by omega]at he;have hbl:=hkl.now.len;have hbr:=hkr.now.len;obtain⟨p,hp⟩: ∃p,bl[M]? =some p:=⟨_,List.getElem?_eq_getElem (by omega)⟩;have s0:=hl.ptrAt hp;have hdl:bl.drop M= [p]:=by
  rw[List.drop_eq_getElem_cons (by omega),List.drop_of_length_le (by omega)];have:=(List.getElem?_eq_some_iff.1 hp).2;rw[this]
 have hcut:l=l.take M++l.drop M:=(List.take_append_drop M l).symm;have ha':Az (Ap (l.take M++(l.drop M++r))):=by rw[<-List.append_assoc,<-hcut];exact ha
 have hN':(Ap (l.take M++(l.drop M++r))).length<=1000000000:=by rw[<-List.append_assoc,<-hcut];exact hN
 have hok': ∀k ∈ l.take M++(l.drop M++r),Cb 4 T k:=by rw[<-List.append_assoc,<-hcut];exact hok
 obtain⟨ha1,ha2⟩:=O9 ha';rw[Pa]at hN';have hok1: ∀k ∈ l.take M,Cb 4 T k:=fun k hk=>hok' k (List.mem_append.2 (.inl hk));have Hok2:Hid (∀k ∈ l.drop M++r,Cb 4 T k):=fun k hk=>hok' k (List.mem_append.2 (.inr hk));obtain⟨k1,k2⟩:=hkl.split M;rw[hdl]at k2;have k3:=k2.app hkr;have hd1:Ar (bl.take M)=(Ar bl).take M:=by unfold Ar;rw[List.map_take]
 have hl1:Ae w w.heap.size (.row 1 (Ar (bl.take M))) [.slice (some ⟨gl,0,none⟩) M cl]:=hd1▸hl.close.cutL (i:=M) (by rw[Av];omega) cl;have HC1:=qz (fun(W:World) (hB:Below w.heap.size w W)=>Co S T (l.take M) (bl.take M) (some ⟨gl,0,none⟩) M cl W ((hl1.below hB).more hB.size) (k1.below hB) ha1 hok1 (by rw[List.length_take];omega) (by rw[List.length_take];omega) hT (by omega));have hlc:M+1<=cl:=by
  obtain⟨_,_,e,hc⟩:=hl.slice_cap
  injection e with e1 e2 e3
  subst e3;rw[Av]at hc;omega
 have l2:(l.drop M++r).length=4:=by rw[List.length_append,List.length_drop];omega
 rw[hM]at ⊢;rw[hr3]at hr ⊢;have y0:(4:Int)<(M:Int)+1:=by omega
 have y1:IntKind.i64.wrap ((M:Int)+1 - 1)=(M:Int):=by rw[IntWalk.i64_in _ (by omega)];omega
 have y2:(M:Int)<(M:Int)+1:=by omega
 have y3:(M:Int)<=(cl:Int):=by omega
 have y4:M<=cl:=by omega
 have hc63:cl<=9223372036854775807:=by
  obtain⟨ns,q1,_⟩:=id hl;rcases q1.2 with⟨e,_⟩|⟨_,_,_,e,_,_,_,hcm,_⟩
  . cases e
  . injection e with e1 e2 e3
    subst e3;simp only[maxLen]at hcm;omega
 have lgl:=(hl.base gl rfl).2;have lgr:=(hr.base gr rfl).2;have hrb:=(hr.base gr rfl).1;obtain⟨Hr,HPO,He,K3,Ha2,Hbr,L2,HN',HSb⟩:=hid9 hr hPO he k3 ha2 hbr l2 hN' hSb;clear hr hPO he k3 ha2 hbr l2 hN' hSb;clear hdl hcut ha' hok' hd1 hl1 k1 k2 hkl hkr hl hp ha hok hN hbl ha1 hok1;go_enter Tryz.func164,Tryz.ntmps164;go_upto_region 3 with(fail);refine wp_region_held_drew (S:=fun Y:World=>Y.cell? ⟨gl,M,none⟩=some (.pointer (some ⟨p,0,none⟩))) (by kernel_rfl) s0 (fun hHeld=> ?_);have hbd:Below w.heap.size w w.drew:=Below.drew (Below.refl _ w);generalize w.drew=wd at hbd hHeld ⊢;refine tkH 0 hHeld ?_;refine tkH 1 hHeld ?_;refine tkH 2 hHeld ?_;refine tkH 3 hHeld ?_;refine tkH 5 hHeld ?_;refine tkH 6 hHeld ?_;refine tkH 7 hHeld ?_;refine tkH 8 hHeld ?_;refine tkH 9 hHeld ?_;refine tkH 10 hHeld ?_;have HS:Hid (∀(W:World),Below w.heap.size w W->W.cell? ⟨gl,M,none⟩=some (.pointer (some ⟨p,0,none⟩))):=fun W hB=>(hB.cell (p:=⟨gl,M,none⟩) lgl).trans s0;have Hbd:=qz hbd;clear hbd;refine rd2 4 11 (fun K hK=> ?gA) (fun K hK=> ?gB)
 case' gA=>
  go_simp;(with_reducible refine(HC1.out _ Hbd.out).mono ?_);rintro e w1 ⟨hb1,b1,rfl,hN1⟩;have hw1:=Hbd.out.trans (hb1.mono Hbd.out.size);refine hK.out _ _ (HS.out _ hw1) (fun hHeld=> ?_);clear hK K hb1
  try simp only[Act.put,tk1,tk2,tk3,tk4,tk5,tk6]
  have hb2:=Aa w1 (.cells #[.pointer (some ⟨p,0,none⟩)] 25);have HX:=qz (Ah.new w1 25 #[.pointer (some ⟨p,0,none⟩)]);have Hw2:=qz (hw1.trans (hb2.mono hw1.size));have HN2:=qz ((hN1.below hb2).mono (T:=fun i=>S i\/w.heap.size<=i) fun i _ hi=>hi.imp id fun h=>Nat.le_trans Hbd.out.size h);have Hvb:=qz hw1.size;clear hb2 hw1 hN1;refine C4 11 fun K hK=> ?_;go_simp;refine hK.out _ _ (HS.out _ Hw2.out) (fun hHeld=> ?_);clear hK K
  try simp only[Act.put,tk1,tk2,tk3,tk4,tk5,tk6]
  generalize w1.heap.size=vb at HX Hvb ⊢;generalize w1.alloc (.cells #[.pointer (some ⟨p,0,none⟩)] 25)=W at HX Hw2 HN2 hHeld ⊢
 case' gB=>
  go_simp;have hb2:=Aa wd (.cells #[.pointer (some ⟨p,0,none⟩)] 25);have hX:=Ah.new wd 25 #[.pointer (some ⟨p,0,none⟩)];have hw1:=Hbd.out.trans (hb2.mono Hbd.out.size);have hvb:w.heap.size<=wd.heap.size:=Hbd.out.size;refine hK.out _ _ (HS.out _ hw1) (fun hHeld=> ?_);clear hK K hb2
  try simp only[Act.put,tk1,tk2,tk3,tk4,tk5,tk6]
  refine C4 4 fun K hK=> ?_;go_simp;(with_reducible refine(HC1.out _ hw1).mono ?_);rintro e W ⟨hb1,b1,rfl,hN1⟩;have Hw2:=qz (hw1.trans (hb1.mono hw1.size));have HX:=qz (hX.below hb1 hX.lt);have HN2:=qz (hN1.mono (T:=fun i=>S i\/w.heap.size<=i) fun i _ hi=>hi.imp id fun h=>Nat.le_trans hw1.size h);have Hvb:=qz hvb;clear hvb;clear hb1 hw1 hN1;refine hK.out _ _ (HS.out _ Hw2.out) (fun hHeld=> ?_);clear hK K
  try simp only[Act.put,tk1,tk2,tk3,tk4,tk5,tk6]
  generalize wd.heap.size=vb at HX Hvb ⊢
 all_goals
  clear HC1 Hbd;have hrW:=Hr.out.below Hw2.out;have hbl3:br.length=3:=by have:=Hbr.out;omega
  have hI:=Xw b W gr cr 0 vb p br (by rw[hbl3];exact hrW) (Nat.le_trans hb Hw2.out.size) (Nat.zero_le _) (by omega) HX.out (by have:=Hvb.out;omega);rw[hbl3,show((0:Nat):Int)=0 from rfl]at hI;have e3:br.take 0++ [p]++br.drop 0= [p]++br:=by simp
  rw[e3]at hI;have K4:=qz (K3.out.below Hw2.out);have HI:=qz hI;clear hI;clear hrW HX hbl3 e3;refine C4 12 fun K hK=> ?_;go_simp;(with_reducible refine(HI.out).mono ?_);rintro e W2 ⟨V2,rfl,hr2,hg2⟩;have HBb:Hid (Below b w W2):=(Hw2.out.mono hb).grown hg2 (Nat.le_trans hb Hw2.out.size) (fun j hj=>by cases hj;exact hrb);have l4:(Ar ([p]++br)).length=4:=by rw[Av,List.length_append,Hbr.out];simp[hr3]
  obtain⟨a2,c2,rfl⟩:=hr2.slice_n l4;have hzW:=hg2.size;have hzw:=Hw2.out.size;have hk: ∀i,(S i\/w.heap.size<=i)->i<W.heap.size->W2.heap[i]? =W.heap[i]? :=fun i h1 h2=>hg2.block i h2 (fun e=>by
   have e2:=Option.some.inj e;rcases h1 with h1|h1
   . have:=HSb.out i h1;omega
   . omega)
  have HC2:=qz (Co S T (l.drop M++r) ([p]++br) a2 4 c2 W2 hr2.close (K4.out.later hzW fun i h1 h2=>hk i (.inl h1) h2) Ha2.out Hok2.out (by rw[L2.out];omega) (by rw[L2.out];omega) hT (by have:=HN'.out;omega));have HN3:=qz (HN2.out.later hzW hk);have hcl:W2.cell? ⟨gl,M,none⟩=W.cell? ⟨gl,M,none⟩:=World.cell?_of_block (hg2.block gl (Nat.lt_of_lt_of_le lgl hzw) (fun e=>hne (Option.some.inj e)));refine hK.out _ _ (hcl.trans hHeld) (fun hHeld=> ?_);clear hK K hr2 hg2 l4 HI hcl hk
  try simp only[Act.put,tk1,tk2,tk3,tk4,tk5,tk6]
  refine C4 13 fun K hK=> ?_;go_simp;(with_reducible refine(HC2.out).mono ?_);rintro e W3 ⟨hb3,b3,rfl,hN4⟩;have HP:Hid (PO (.returned (.tuple #[.pointer (some ⟨b1,0,none⟩),.pointer (some ⟨b3,0,none⟩)])) W3):=by
   show PO _ _;rw[<-HPO.out,He.out];exact⟨HBb.out.trans (hb3.mono (by omega)),b1,_,rfl,HN3.out.below hb3,b3,rfl,hN4.mono fun i _ h=>h.imp id fun h=>by omega⟩
  refine hK.out _ _ ((hb3.cell (p:=⟨gl,M,none⟩) (by show gl<_;omega)).trans hHeld) (fun hHeld=> ?_);clear hK K hb3 hN4
  try simp only[Act.put,tk1,tk2,tk3,tk4,tk5,tk6]
  refine tkH 14 hHeld ?_;refine tkH 15 hHeld ?_;refine wpAnyH_done (by kernel_rfl) ?_ _;clear hHeld;go_wp2;exact HP.out
theorem Vi (S:Nat->Prop) (T b gl gr cl cr:Nat) (l r:List Nd) (bl br:List Nat) (w:World) (hl:Al (fun _=>False) b 25 1 w (Ar bl) (.slice (some ⟨gl,0,none⟩) l.length cl)) (hr:Al (fun _=>False) b 25 1 w (Ar br) (.slice (some ⟨gr,0,none⟩) r.length cr)) (hkl:Am S w l bl) (hkr:Am S w r br) (hSb: ∀i,S i->i<b) (hne:gl≠gr) (hb:b<=w.heap.size)
 (hl3:l.length=3) (h4:4<r.length) (h8:r.length<=8) (ha:Az (Ap (l++r))) (hok: ∀k ∈ l++r,Cb 4 T k) (hT:T<=1000000) (hN:(Ap (l++r)).length<=1000000000):
 Calls Tryz.prog 164 #[.slice (some ⟨gl,0,none⟩) l.length cl,.slice (some ⟨gr,0,none⟩) r.length cr,.func (.func 58) #[] #[]] w (SPb S b (Gh l r) w):=by
 obtain⟨PO,hPO⟩: ∃P:Ending->World->Prop,SPb S b (Gh l r) w=P:=⟨_,rfl⟩;rw[hPO];have hbl:=hkl.now.len;have hbr:=hkr.now.len;have he:Gh l r=(Ce (l++r.take 1),some (Ce (r.drop 1))):=by unfold Gh;rw[if_neg (by omega),if_pos h4]
 obtain⟨p,rr,rfl⟩: ∃x t,br=x::t:=by
  cases br with
  |nil=>simp at hbr;omega
  |cons x t=>exact⟨x,t,rfl⟩
 obtain⟨R,hR⟩: ∃R,r.length=R+1:=⟨r.length - 1,by omega⟩;have hrr:rr.length=R:=by rw[List.length_cons]at hbr;omega
 have s0:=hr.ptrAt (q:=0) (p:=p) rfl;have hcut:r=r.take 1++r.drop 1:=(List.take_append_drop 1 r).symm;have ha':Az (Ap ((l++r.take 1)++r.drop 1)):=by rw[List.append_assoc,<-hcut];exact ha
 have hN':(Ap ((l++r.take 1)++r.drop 1)).length<=1000000000:=by rw[List.append_assoc,<-hcut];exact hN
 have hok': ∀k ∈ (l++r.take 1)++r.drop 1,Cb 4 T k:=by rw[List.append_assoc,<-hcut];exact hok
 obtain⟨ha1,ha2⟩:=O9 ha';rw[Pa]at hN';have Hok1:Hid (∀k ∈ l++r.take 1,Cb 4 T k):=fun k hk=>hok' k (List.mem_append.2 (.inl hk));have Hok2:Hid (∀k ∈ r.drop 1,Cb 4 T k):=fun k hk=>hok' k (List.mem_append.2 (.inr hk));obtain⟨k1,k2⟩:=hkr.split 1;have k1:Am S w (r.take 1) [p]:=k1;have k2:Am S w (r.drop 1) rr:=k2;have k3:=hkl.app k1;have hl1:(l++r.take 1).length=4:=by rw[List.length_append,List.length_take];omega
 have hl2:(r.drop 1).length=R:=by rw[List.length_drop];omega
 have hrI:Ag (fun i=>i=gr) w (.row 1 (Ar (p::rr))) [.slice (some ⟨gr,0,none⟩) r.length cr]:=hr.closeIn.mono fun i _ hi=>hi.elim False.elim fun e=>(Option.some.inj e).symm;have hbl3:bl.length=3:=by omega
 obtain⟨hlc,hc63⟩:R+1<=cr/\cr<=9223372036854775807:=by
  obtain⟨ns,q1,_⟩:=id hr;rcases q1.2 with⟨e,_⟩|⟨_,_,_,e,_,_,hnc,hcm,_⟩
  . cases e
  . injection e with e1 e2 e3
    subst e3;simp only[maxLen]at hcm;rw[Av,hbr]at hnc;omega
 rw[hR]at hr hrI h4 h8 ⊢;rw[hl3]at hl ⊢;have y0:(4:Int)<(R:Int)+1:=by omega
 have y1:(0:Int)<(R:Int)+1:=by omega
 have y2:(1:Int)<=(R:Int)+1:=by omega
 have y3: ¬cr=1:=by omega
 have y4:(1:Int)<=(cr:Int):=by omega
 have y5:1<=cr:=by omega
 have y6:(R:Int)+1<=(cr:Int):=by omega
 have lgl:=(hl.base gl rfl).2;have lgr:=(hr.base gr rfl).2;have hlb:=(hl.base gl rfl).1;obtain⟨j0,hj,hy0,hy1,hy2⟩:=info_parts Jw;obtain⟨Hl,HPO,He,HrI,Ha1,Ha2,K3,K2,Hl1,Hl2,HN',Hj,Hy0,Hy1,Hy2,HSb⟩:=hid16 hl hPO he hrI ha1 ha2 k3 k2 hl1 hl2 hN' hj hy0 hy1 hy2 hSb;obtain⟨Hbl3,Hrr⟩:=hid2 hbl3 hrr;clear hl hPO he hrI ha1 ha2 k3 k2 hl1 hl2 hN' hj hy0 hy1 hy2 hSb hbl3 hrr;clear hr hcut ha' hok' k1 hkl hkr ha hok hN hbl hbr hl3 hR h4;go_enter Tryz.func164,Tryz.ntmps164;go_upto_region 5 with(fail);refine wp_region_held_drew (S:=fun Y:World=>Y.cell? ⟨gr,0,none⟩=some (.pointer (some ⟨p,0,none⟩))) (by kernel_rfl) s0 (fun hHeld=> ?_);have hbd:Below w.heap.size w w.drew:=Below.drew (Below.refl _ w);generalize w.drew=wd at hbd hHeld ⊢;refine tkH 0 hHeld ?_;refine tkH 1 hHeld ?_;refine tkH 2 hHeld ?_;refine tkH 3 hHeld ?_;refine tkH 4 hHeld ?_;refine tkH 8 hHeld ?_;refine tkH 9 hHeld ?_;refine tkH 10 hHeld ?_;refine C4 5 fun K hK=> ?_;go_simp;have hb1:=Aa wd (.cells #[.pointer (some ⟨p,0,none⟩)] 25);have hrd:=Db (Ah.new wd 25 #[.pointer (some ⟨p,0,none⟩)]);have hw1:=hbd.trans (hb1.mono hbd.size);refine hK.out _ _ ((hb1.cell (p:=⟨gr,0,none⟩) (Nat.lt_of_lt_of_le lgr hbd.size)).trans hHeld) (fun hHeld=> ?_);clear hK K
 try simp only[Act.put,tk1,tk2,tk3,tk4,tk5,tk6]
 generalize wd.heap.size=vb at hrd ⊢;generalize wd.alloc (.cells #[.pointer (some ⟨p,0,none⟩)] 25)=W at hrd hw1 hHeld ⊢;clear hb1;have Hv2:Hid (Ag (fun i=>False/\(Value.slice (some ⟨gl,0,none⟩) 3 cl).ownBlock≠some i) W (Se p) [.pointer (some ⟨p,0,none⟩)]):=Fq _ _ _;have HlW:=qz (Hl.out.below hw1);have hzw:=hw1.size;have Hlo:=qz (show(Ar bl).length=3 from by rw[Av];exact Hbl3.out);have K3W:=qz (K3.out.below hw1);have K2W:=qz (K2.out.below hw1);obtain⟨Hrd,Hw1⟩:=hid2 hrd hw1;clear hrd hw1;clear K3 K2;refine C4 6 fun K hK=> ?_;refine E8 (d:=Se p) (V:=.slice (some ⟨gl,0,none⟩) 3 cl) (by rfl) (.tmp 35) (.tmp 39) 111 (by rfl) Tryz.underlying111 Hj.out Hy0.out Hy1.out Hy2.out rfl (by omega) (by rfl) HlW.out (Nat.le_trans hb hzw) rfl Hv2.out (by rfl) Hrd.out (by rw[Hlo.out];simp only[maxLen];omega) (by rw[Hlo.out];omega) ?_;intro V2 W2 hr2 hg2 _;have e2:Ar bl++ [Se p]=Ar (bl++ [p]):=by rw[W7];rfl
 rw[e2]at hr2;have HBb:Hid (Below b w W2):=(Hw1.out.mono hb).grown hg2 (Nat.le_trans hb hzw) (fun j hj=>by cases hj;exact hlb);have l2:(Ar (bl++ [p])).length=4:=by rw[Av,List.length_append,Hbl3.out];rfl
 obtain⟨a2,c2,rfl⟩:=hr2.slice_n l2;have hzW:=hg2.size;have hk: ∀i,S i->i<W.heap.size->W2.heap[i]? =W.heap[i]? :=fun i h1 h2=>hg2.block i h2 (fun e=>by
  have e2:i=gl:=Option.some.inj e;have:=HSb.out i h1;omega)
 have HC2:=qz (Co S T (l++r.take 1) (bl++ [p]) a2 4 c2 W2 hr2.close (K3W.out.later hzW hk) Ha1.out Hok1.out (by rw[Hl1.out];omega) (by rw[Hl1.out];omega) hT (by have:=HN'.out;omega));have K2W2:=qz (K2W.out.later hzW hk);have hrI2:Ag (fun i=>i=gr) W2 (.row 1 (Ar (p::rr))) [.slice (some ⟨gr,0,none⟩) (R+1) cr]:=(HrI.out.below Hw1.out).later hzW fun q q1 q2=>World.cell?_of_block (hg2.block _ q2 fun e=>by
  have e2:q.block=gl:=Option.some.inj e;have e3:q.block=gr:=q1;omega)
 refine hK.out _ _ ((World.cell?_of_block (hg2.block gr (Nat.lt_of_lt_of_le lgr hzw) fun e=>hne (Option.some.inj e).symm)).trans hHeld) (fun hHeld=> ?_);have HrI2:=qz hrI2;clear hrI2;clear hK K hr2 hg2 e2 l2 K3W K2W
 try simp only[Act.put,tk1,tk2,tk3,tk4,tk5,tk6]
 refine C4 7 fun K hK=> ?_;go_simp;(with_reducible refine(HC2.out).mono ?_);rintro e W3 ⟨hb3,b3,rfl,hN3⟩;have hd:Ae W3 W3.heap.size (.row 1 (Ar rr)) [.slice (some ⟨gr,1,none⟩) R (cr - 1)]:=by
  have:=(HrI2.out.below hb3).now.cutR (i:=1) (m:=R) (by rw[Av,List.length_cons,Hrr.out];omega) (cr - 1);simpa[Ar]using this
 have HC3:=qz (Co S T (r.drop 1) rr (some ⟨gr,1,none⟩) R (cr - 1) W3 hd (K2W2.out.below hb3) Ha2.out Hok2.out (by rw[Hl2.out];omega) (by rw[Hl2.out];omega) hT (by have:=HN'.out;omega));refine hK.out _ _ ((hb3.cell (p:=⟨gr,0,none⟩) (by show gr<_;omega)).trans hHeld) (fun hHeld=> ?_);obtain⟨Hb3,HN3⟩:=hid2 hb3 hN3;clear hb3 hN3;clear hK K hd
 try simp only[Act.put,tk1,tk2,tk3,tk4,tk5,tk6]
 refine C4 11 fun K hK=> ?_;go_simp;(with_reducible refine(HC3.out).mono ?_);rintro e W4 ⟨hb4,b4,rfl,hN4⟩;have hz3:=Hb3.out.size;have HP:Hid (PO (.returned (.tuple #[.pointer (some ⟨b3,0,none⟩),.pointer (some ⟨b4,0,none⟩)])) W4):=by
  show PO _ _;rw[<-HPO.out,He.out];exact⟨(HBb.out.trans (Hb3.out.mono (by omega))).trans (hb4.mono (by omega)),b3,_,rfl,(HN3.out.below hb4).mono (fun i _ h=>h.imp id fun h=>by omega),b4,rfl,hN4.mono fun i _ h=>h.imp id fun h=>by omega⟩
 refine hK.out _ _ ((hb4.cell (p:=⟨gr,0,none⟩) (by show gr<_;omega)).trans hHeld) (fun hHeld=> ?_);clear hK K hb4 hN4
 try simp only[Act.put,tk1,tk2,tk3,tk4,tk5,tk6]
 refine tkH 12 hHeld ?_;refine tkH 13 hHeld ?_;refine wpAnyH_done (by kernel_rfl) ?_ _;clear hHeld;go_wp2;exact HP.out
theorem Vj (S:Nat->Prop) (T b gl gr cl cr:Nat) (l r:List Nd) (bl br:List Nat) (w:World) (hl:Al (fun _=>False) b 25 1 w (Ar bl) (.slice (some ⟨gl,0,none⟩) l.length cl)) (hr:Al (fun _=>False) b 25 1 w (Ar br) (.slice (some ⟨gr,0,none⟩) r.length cr)) (hkl:Am S w l bl) (hkr:Am S w r br) (hSb: ∀i,S i->i<b) (hb:b<=w.heap.size)
 (hl4:3<=l.length/\l.length<=4) (hr4:r.length<=4) (ha:Az (Ap (l++r))) (hok: ∀k ∈ l++r,Cb 4 T k) (hT:T<=1000000) (hN:(Ap (l++r)).length<=1000000000):
 Calls Tryz.prog 164 #[.slice (some ⟨gl,0,none⟩) l.length cl,.slice (some ⟨gr,0,none⟩) r.length cr,.func (.func 58) #[] #[]] w (SPb S b (Gh l r) w):=by
 obtain⟨PO,hPO⟩: ∃P:Ending->World->Prop,SPb S b (Gh l r) w=P:=⟨_,rfl⟩;rw[hPO];have hbl:=hkl.now.len;have hbr:=hkr.now.len;have he:Gh l r=(Ce (l++r),none):=by unfold Gh;rw[if_neg (by omega),if_neg (by omega)]
 obtain⟨ns,hrd,hA,hnn⟩:=hr.reads;clear hnn;have HA2:Hid (An (fun i=>False/\(Value.slice (some ⟨gl,0,none⟩) l.length cl).ownBlock≠some i) w (Ar br) ns):=fun w'' _ _=>Qw hA.now;have hlb:=(hl.base gl rfl).1;have hdl:r.length=(Ar br).length:=by rw[Av];exact hbr.symm
 have hdl2:(Ar bl).length=l.length:=by rw[Av];exact hbl
 obtain⟨j0,hj,hy0,hy1,hy2⟩:=info_parts Jw;have y0: ¬(4:Int)<(l.length:Int):=by omega
 have y1: ¬(4:Int)<(r.length:Int):=by omega
 have Hk3:=qz (hkl.app hkr);obtain⟨HPO,He,Hl,Hrd,Hj,Hy0,Hy1,Hy2,Hdl,Hdl2,Ha,Hok,HN,HSb⟩:=hid14 hPO he hl hrd hj hy0 hy1 hy2 hdl hdl2 ha hok hN hSb;clear hPO he hl hrd hj hy0 hy1 hy2 hdl hdl2 ha hok hN hSb;clear hr hA hkl hkr hbl hbr;go_enter Tryz.func164,Tryz.ntmps164;go_wp2_with (at_builtin;apply Shut.out);unfold Shut;refine B8 (n:=r.length) (A:=some ⟨gr,0,none⟩) (c:=cr) rfl (.tmp 47) (.tmp 48) 111 rfl Tryz.underlying111 Hj.out Hy0.out Hy1.out Hy2.out rfl (by omega) rfl Hl.out hb (Mv _) HA2.out rfl Hrd.out Hdl.out (by rw[Hdl2.out];simp only[maxLen];omega) (by rw[Hdl2.out];omega) ?_;intro V2 W2 hr2 hg2 _;rw[<-W7]at hr2;have HBb:Hid (Below b w W2):=(Below.refl b w).grown hg2 hb (fun j hj=>by cases hj;exact hlb);obtain⟨N,hN0⟩: ∃N,(Ar (bl++br)).length=N:=⟨_,rfl⟩;obtain⟨a2,c2,rfl⟩:=hr2.slice_n hN0;have hzW:=hg2.size;have hC2:=Co S T (l++r) (bl++br) a2 N c2 W2 hr2.close (Hk3.out.later hzW fun i h1 h2=>hg2.block i h2 fun e=>by
  have e2:i=gl:=Option.some.inj e;have:=HSb.out i h1;omega) Ha.out Hok.out (by rw[List.length_append];omega) (by rw[List.length_append];omega) hT HN.out
 have HC2:=qz hC2;clear hC2;clear hr2 hg2 hN0;go_wp2_with (fail);(with_reducible refine(HC2.out).mono ?_);rintro e W3 ⟨hb3,b3,rfl,hN3⟩;have HP:Hid (PO (.returned (.tuple #[.pointer (some ⟨b3,0,none⟩),.pointer none])) W3):=by
  show PO _ _;rw[<-HPO.out,He.out];exact⟨HBb.out.trans (hb3.mono (by omega)),b3,_,rfl,hN3.mono (fun i _ h=>h.imp id fun h=>by omega),rfl⟩
 clear hb3 hN3;go_wp2;exact HP.out
theorem Yj (S:Nat->Prop) (T b gl gr cl cr:Nat) (l r:List Nd) (bl br:List Nat) (w:World) (hl:Al (fun _=>False) b 25 1 w (Ar bl) (.slice (some ⟨gl,0,none⟩) l.length cl)) (hr:Al (fun _=>False) b 25 1 w (Ar br) (.slice (some ⟨gr,0,none⟩) r.length cr)) (hkl:Am S w l bl) (hkr:Am S w r br) (hSb: ∀i,S i->i<b) (hne:gl≠gr) (hb:b<=w.heap.size)
 (hl8:3<=l.length/\l.length<=8) (hr8:3<=r.length/\r.length<=8) (h3:l.length=3\/r.length=3) (ha:Az (Ap (l++r))) (hok: ∀k ∈ l++r,Cb 4 T k) (hT:T<=1000000) (hN:(Ap (l++r)).length<=1000000000):
 Calls Tryz.prog 164 #[.slice (some ⟨gl,0,none⟩) l.length cl,.slice (some ⟨gr,0,none⟩) r.length cr,.func (.func 58) #[] #[]] w (SPb S b (Gh l r) w):=by
 by_cases h1:4<l.length
 . exact Vh S T b gl gr cl cr l r bl br w hl hr hkl hkr hSb hne hb hl8.2 (by omega) h1 ha hok hT hN
 by_cases h2:4<r.length
 . exact Vi S T b gl gr cl cr l r bl br w hl hr hkl hkr hSb hne hb (by omega) h2 hr8.2 ha hok hT hN
 exact Vj S T b gl gr cl cr l r bl br w hl hr hkl hkr hSb hb (by omega) (by omega) ha hok hT hN
theorem Al.old {S0:Nat->Prop} {b s:Nat} {t:TypeId} {w:World} {l:List D} {V:Value} (h:Al S0 b t s w l V):Al (fun i=>S0 i/\i<w.heap.size) b t s w l V:=by
 obtain⟨ns,h1,h2,h3⟩:=h;exact⟨ns,h1,h2,(h3.base (Below.refl _ _)).mono fun i _ hi=>⟨⟨hi.1.1,hi.2⟩,hi.1.2⟩⟩
theorem Ahr {α:Type} (l:List α) (P:Nat) (h:P+1<l.length) (a b:α):(l.set P a).set (P+1) b=l.take P++a::([b]++l.drop (P+2)):=by
 rw[List.set_eq_take_append_cons_drop,if_pos (by rw[List.length_set];exact h),List.take_set,List.set_eq_take_append_cons_drop,if_pos (by rw[List.length_take];omega),List.take_take,Nat.min_eq_left (by omega),List.drop_take,List.drop_set_of_lt (by omega)];simp
theorem Ahf {α:Type} (l:List α) (P:Nat) (h:P+1<l.length) (a:α):(l.set P a).take (P+1)++(l.set P a).drop (P+2)=l.take P++a::l.drop (P+2):=by
 rw[List.drop_set_of_lt (by omega),List.take_set,List.set_eq_take_append_cons_drop,if_pos (by rw[List.length_take];omega),List.take_take,Nat.min_eq_left (by omega),List.drop_take];simp
def Wg (S:Nat->Prop) (b g:Nat) (ks:List Nd) (w:World) (e:Ending) (w':World):Prop:=KB (fun j=>j=g) w w'/\ ∃V' bs',e=.returned V'/\Al (fun _=>False) b 25 1 w' (Ar bs') V'/\Am (fun j=>S j\/w.heap.size<=j) w' ks bs'
theorem Aaq (S:Nat->Prop) (T b g c i P:Nat) (ks:List Nd) (bs:List Nat) (x y:Nd) (w:World) (hR:Al (fun _=>False) b 25 1 w (Ar bs) (.slice (some ⟨g,0,none⟩) ks.length c)) (hk:Am S w ks bs) (hSg: ¬S g) (_hb:b<=w.heap.size) (hi:i<8) (hP:P=i - 1) (hx:ks[P]? =some x) (hy:ks[P+1]? =some y) (h8:ks.length<=8)
 (okx:Cb 3 T x) (oky:Cb 3 T y) (h7:7<=A7 x+A7 y) (h3:A7 x=3\/A7 y=3) (ha:Az (A6 x++A6 y)) (hbk:Ac (A6 x)+Ac (A6 y)<=100000000) (hT:T<=1000000) (hN:(A6 x++A6 y).length<=1000000000):
 Calls Tryz.prog 102 #[.slice (some ⟨g,0,none⟩) ks.length c,.int .i64 i] w (Wg S b g (F6 ks i) w):=by
 obtain⟨PO,hPO⟩: ∃PP:Ending->World->Prop,Wg S b g (F6 ks i) w=PP:=⟨_,rfl⟩;rw[hPO];have hmk:F6 ks i=ks.take P++(Ek x y).1::((Ek x y).2.toList++ks.drop (P+2)):=by
  unfold F6;rw[<-hP,List.getD_eq_getElem?_getD,List.getD_eq_getElem?_getD,hx,hy];rfl
 have hlt:P+1<ks.length:=(List.getElem?_eq_some_iff.1 hy).1;obtain⟨bx,hbx,hnx⟩:=hk.at_ hx;obtain⟨bY,hby,hny⟩:=hk.at_ hy;have s0:=hR.ptrAt hbx;have s1:=hR.ptrAt hby;have hbl:=hk.now.len;have lg:=(hR.base g rfl).2;have hgb:=(hR.base g rfl).1;have hmax:max ((i:Int) - 1) 0=(P:Int):=by omega
 have hw1:IntKind.i64.wrap ((i:Int) - 1)=(i:Int) - 1:=IntWalk.i64_in _ (by omega);have hw2:IntKind.i64.wrap ((P:Int)+1)=(P:Int)+1:=IntWalk.i64_in _ (by omega);have y1:(P:Int)<(ks.length:Int):=by omega
 have y2:(P:Int)+1<(ks.length:Int):=by omega
 have y3:(0:Int)<=(P:Int)+1:=by omega
 obtain⟨HPO,HR,Hk,Hmk,Hnx,Hny,Hbl⟩:=hid7 hPO hR hk hmk hnx hny hbl;clear hPO hR hk hmk hnx hny hbl;clear hbx hby hx hy hP;go_enter Tryz.func102,Tryz.ntmps102;go_upto_region 2 with(fail);refine wp_region_held_drew (S:=fun Y:World=>Y.cell? ⟨g,P,none⟩=some (.pointer (some ⟨bx,0,none⟩))/\Y.cell? ⟨g,P+1,none⟩=some (.pointer (some ⟨bY,0,none⟩))) (by kernel_rfl) ⟨s0,s1⟩ (fun hHeld=> ?_);have hbd:Below w.heap.size w w.drew:=Below.drew (Below.refl _ w);generalize w.drew=wd at hbd hHeld ⊢;refine tkH 0 hHeld ?_;refine tkH 1 hHeld ?_;refine tkH 2 hHeld ?_;refine tkH 3 hHeld ?_;refine tkH 4 hHeld ?_;refine tkH 5 hHeld ?_;refine tkH 6 hHeld ?_;refine tkH 7 hHeld ?_;refine tkH 8 hHeld ?_;refine tkH 9 hHeld ?_;refine tkH 10 hHeld ?_;refine wpAnyH_done (by kernel_rfl) ?_ _;clear hHeld;have hzd:=hbd.size;have hxd:=Hnx.out.below hbd;have hyd:=Hny.out.below hbd;have hht:=Cl hxd.now;rw[Lc (.inl (by omega)) okx]at hht;have hfin: ∀(W:World) (b1:Nat),Below wd.heap.size wd W->Bj (fun j=>S j\/wd.heap.size<=j) W (Ek x y).1 b1->(((Ek x y).2=none-> ∀W',Al (fun _=>False) b 25 1 W' ((Ar (bs.set P b1)).take (P+1)++(Ar (bs.set P b1)).drop (P+2)) (.slice (some ⟨g,0,none⟩) (ks.length - 1) c)->KB (fun k=>k=g) W W'->PO (.returned (.slice (some ⟨g,0,none⟩) (ks.length - 1) c)) W')/\ ∀m b2,(Ek x y).2=some m->Bj (fun j=>S j\/wd.heap.size<=j) W m b2->PO (.returned (.slice (some ⟨g,0,none⟩) ks.length c)) ((W.setCell ⟨g,P,none⟩ (.pointer (some ⟨b1,0,none⟩))).setCell ⟨g,P+1,none⟩ (.pointer (some ⟨b2,0,none⟩)))):=fun W b1 hW hN1=>by
  have hwW:Below w.heap.size w W:=hbd.trans (hW.mono hzd);have hkW:=Hk.out.below hwW;have hRW:=HR.out.below hwW;have hzW:=hwW.size;have hmo: ∀{W':World} {n:Nd} {q:Nat},KB (fun k=>k=g) W W'->Bj (fun j=>S j\/wd.heap.size<=j) W n q->Bj (fun j=>S j\/w.heap.size<=j) W' n q:=fun hKB h=>(h.later hKB.size fun j h1 h2=>hKB.block j h2 fun e=>by
   rcases h1 with h1|h1
   . exact hSg (e▸h1)
   . omega).mono fun j _ hj=>hj.imp id fun h=>by omega
  have hmk2: ∀{W':World},KB (fun k=>k=g) W W'->Am (fun j=>S j\/w.heap.size<=j) W' ks bs:=fun hKB=>(hkW.later hKB.size fun j h1 h2=>hKB.block j h2 fun e=>hSg (e▸h1)).mono fun j _ hj=> .inl hj;refine⟨fun hq W' hR' hKB=> ?_,fun m b2 hq hN2=> ?_⟩
  . rw[<-HPO.out];have e1:(Ar (bs.set P b1)).take (P+1)++(Ar (bs.set P b1)).drop (P+2)=Ar (bs.take P++b1::bs.drop (P+2)):=by
     rw[<-Ahf bs P (by rw[Hbl.out];exact hlt) b1];unfold Ar;rw[List.map_append,List.map_take,List.map_drop]
    rw[e1]at hR';refine⟨(KB.of_below hwW).trans hKB fun _ _ h=>h,_,_,rfl,hR', ?_⟩;rw[Hmk.out,hq];have:=(((hmk2 hKB).split P).1.app (Am.one (hmo hKB hN1))).app ((hmk2 hKB).split (P+2)).2;simpa using this
  . rw[<-HPO.out];have hKB:KB (fun k=>k=g) W ((W.setCell ⟨g,P,none⟩ (.pointer (some ⟨b1,0,none⟩))).setCell ⟨g,P+1,none⟩ (.pointer (some ⟨b2,0,none⟩))):=(KB.set (S:=fun k=>k=g) W ⟨g,P,none⟩ rfl _).trans (KB.set (S:=fun k=>k=g) _ ⟨g,P+1,none⟩ rfl _) fun _ _ h=>h;have r1:=(hRW.put1 (i:=P) (p:=b1) (by rw[Hbl.out];omega)).put1 (i:=P+1) (p:=b2) (by rw[List.length_set,Hbl.out];omega);refine⟨(KB.of_below hwW).trans hKB fun _ _ h=>h,_,_,rfl,r1, ?_⟩;have h2:=((hmk2 hKB).set P (hmo hKB hN1)).set (P+1) (hmo hKB hN2);rw[Ahr ks P hlt]at h2;rw[Hmk.out,hq];exact h2
 have hdel: ∀(W:World) (b1:Nat),Below wd.heap.size wd W->Calls Tryz.prog 165 #[.slice (some ⟨g,0,none⟩) ks.length c,.int .i64 ((P:Int)+1),.int .i64 ((P:Int)+2)] (W.setCell ⟨g,P,none⟩ (.pointer (some ⟨b1,0,none⟩))) fun e w'=>e=.returned (.slice (some ⟨g,0,none⟩) (ks.length - 1) c)/\Al (fun _=>False) b 25 1 w' ((Ar (bs.set P b1)).take (P+1)++(Ar (bs.set P b1)).drop (P+2)) (.slice (some ⟨g,0,none⟩) (ks.length - 1) c)/\KB (fun k=>k=g) W w':=fun W b1 hW=>by
  have hwW:Below w.heap.size w W:=hbd.trans (hW.mono hzd);have r1:=(HR.out.below hwW).put1 (i:=P) (p:=b1) (by rw[Hbl.out];omega);have:=Z4 (fun _=>False) b g ks.length c (P+1) (ks.length - 1) (Ar (bs.set P b1)) _ r1 (by rw[Av,List.length_set,Hbl.out];omega) (by omega) (by omega);rw[show((P+1:Nat):Int)=(P:Int)+1 from by omega,show(P:Int)+1+1=(P:Int)+2 from by omega]at this;exact this.mono fun e w' ⟨q1,q2,q3⟩=>⟨q1,q2,(KB.set (S:=fun k=>k=g) W ⟨g,P,none⟩ rfl _).trans q3 fun _ _ h=>h⟩
 have hcells: ∀(W:World),Below wd.heap.size wd W->W.cell? ⟨g,P,none⟩=some (.pointer (some ⟨bx,0,none⟩))/\W.cell? ⟨g,P+1,none⟩=some (.pointer (some ⟨bY,0,none⟩))/\g<W.heap.size/\ ∀o,W.frozen? ⟨g,o,none⟩=false:=fun W hW=>by
  have hwW:Below w.heap.size w W:=hbd.trans (hW.mono hzd);obtain⟨cur,hbg⟩:=(HR.out.below hwW).blk;exact⟨(hwW.cell (p:=⟨g,P,none⟩) lg).trans s0,(hwW.cell (p:=⟨g,P+1,none⟩) lg).trans s1,hbg.lt,hbg.frozen⟩
 have hw3:IntKind.i64.wrap ((P:Int)+2)=(P:Int)+2:=IntWalk.i64_in _ (by omega);obtain⟨Hfin,Hdel,Hcells,Hbd⟩:=hid4 hfin hdel hcells hbd;clear hfin hdel hcells hbd;clear s0 s1 hmax hw1 HPO HR Hk Hnx Hny
 cases T with
 |zero=>
  match x,y,okx,oky with
  | .leaf ex,.leaf ey,okx,oky=>
    simp only[A7]at h7 h3;have HC1:=qz (Ft hxd.now (by have:=okx.1;omega) (by simp only[A6]at hbk;omega));have Hht:=qz hht;clear hht;go_wp2_with (fail);(with_reducible refine(Hht.out).mono ?_);rintro e w1 ⟨rfl,rfl⟩;go_wp2_with (fail);(with_reducible refine(HC1.out).mono ?_);rintro e w1 ⟨hb1,g1,rfl,hR1⟩;have HC2:=qz (Ft (hyd.below hb1).now (by have:=oky.1;omega) (by simp only[A6]at hbk;omega));have Hb1:=qz hb1;clear hb1;go_wp2_with (fail);(with_reducible refine(HC2.out).mono ?_);rintro e w2 ⟨hb2,g2,rfl,hR2⟩;have q1:=hR1.base g1 rfl;have q2:=hR2.base g2 rfl;have hzb1:=Hb1.out.size;have hzb2:=hb2.size;have hR1':=((hR1.old).below hb2).mono (T0:=fun i=>i≠g2) fun i hi=>by omega
    have hR2':=(hR2.keepN (T0:=fun i=>i≠g1) (b':=wd.heap.size) hzb1 (fun i hi=>by omega) (Nat.le_refl _) fun _ _ _=>rfl);have HP:=qz (Yi S wd.heap.size g1 g2 ex ey w2 hR1' hR2' (by omega) (by omega) okx oky (by simpa using h3) ha hbk);have Hw12:Hid (Below wd.heap.size wd w2):=Hb1.out.trans (hb2.mono hzb1);clear hR1 hR2 hR1' hR2' hb2;go_wp2_with (fail);(with_reducible refine(HP.out).mono ?_);rintro e W ⟨hbW,b1,q,rfl,hn1,hq⟩;have hWW:=Hw12.out.trans hbW;have hN1:Bj (fun j=>S j\/wd.heap.size<=j) W (Ek (.leaf ex) (.leaf ey)).1 b1:=hn1.mono fun j _ hj=>hj.imp id fun h=>by omega
    have hQ:Nj (fun j=>S j\/wd.heap.size<=j) W (Ek (.leaf ex) (.leaf ey)).2 q:=hq.mono fun j _ hj=>hj.imp id fun h=>by omega
    have hF:=Hfin.out W b1 hWW hN1;obtain⟨f0,f1,lgW,fz⟩:=Hcells.out W hWW;generalize (Ek (.leaf ex) (.leaf ey)).2=r2 at hQ hF
    cases r2 with
    |none=>
     have hq0:q=none:=hQ;subst hq0;have HD:=qz (Hdel.out W b1 hWW);have HF1:=qz (hF.1 rfl);clear hF hQ hN1 hn1 hq hWW hbW;go_wp2_with (fail);(with_reducible refine(HD.out).mono ?_);rintro e W' ⟨rfl,hR',hKB⟩;have HPP:=qz (HF1.out W' hR' hKB);clear hR' hKB;go_wp2;exact HPP.out
    |some m=>
     obtain⟨b2,rfl,hn2⟩:=hQ;have HPP:=qz (hF.2 m b2 rfl hn2);have y4: ¬P+1=P:=by omega
     clear hF hN1 hn1 hq hn2 hWW hbW;go_wp2;exact HPP.out
 |succ T=>
  match x,y,okx,oky with
  | .inner ex,.inner ey,okx,oky=>
    simp only[A7]at h7 h3;simp only[Cb]at okx oky;have hzT:((((T+1:Nat):Int))==0)=false:=beq_eq_false_iff_ne.2 (by omega);have hzT2:(((T:Int)+1)==0)=false:=beq_eq_false_iff_ne.2 (by omega);have HC1:=qz (Fu (S:=fun i=>S i/\i<wd.heap.size) (hxd.mono fun i h1 h2=>⟨h2,h1⟩) (by omega) (by omega));have Hyd2:Hid (Bj (fun i=>S i/\i<wd.heap.size) wd (.inner ey) bY):=hyd.mono fun i h1 h2=>⟨h2,h1⟩;have Hht:=qz hht;clear hht;go_wp2_with (fail);(with_reducible refine(Hht.out).mono ?_);rintro e w1 ⟨rfl,rfl⟩;go_wp2_with (fail);(with_reducible refine(HC1.out).mono ?_);rintro e w1 ⟨bl,hkl,hb1,V1,rfl,hR1⟩;have HC2:=qz (Fu (S:=fun i=>S i/\i<wd.heap.size) (Hyd2.out.below hb1) (by omega) (by omega));have hl1:(Ar bl).length=ex.length:=by rw[Av];exact hkl.now.len
    obtain⟨g1,c1,rfl,hc1,_⟩:=hR1.ptr (by intro e;rw[e]at hl1;simp at hl1;omega);rw[hl1]at hR1 ⊢;obtain⟨Hb1,Hkl⟩:=hid2 hb1 hkl;clear hb1 hkl;clear hc1 hl1;go_wp2_with (fail);(with_reducible refine(HC2.out).mono ?_);rintro e w2 ⟨br,hkr,hb2,V2,rfl,hR2⟩;have hl2:(Ar br).length=ey.length:=by rw[Av];exact hkr.now.len
    obtain⟨g2,c2,rfl,hc2,_⟩:=hR2.ptr (by intro e;rw[e]at hl2;simp at hl2;omega);rw[hl2]at hR2 ⊢;have q1:=hR1.base g1 rfl;have q2:=hR2.base g2 rfl;have hzb1:=Hb1.out.size;have hzb2:=hb2.size;have hR2':=(hR2.keepN (T0:=fun _=>False) (b':=wd.heap.size) hzb1 (fun i hi=>hi) (Nat.le_refl _) fun _ _ _=>rfl);have hok: ∀k ∈ ex++ey,Cb 4 T k:=fun k hk=>(List.mem_append.1 hk).elim (okx.2.2 k) (oky.2.2 k);have hfl:Ap (ex++ey)=A6 (.inner ex)++A6 (.inner ey):=A0 _ _;have HP:=qz (Yj (fun i=>S i/\i<wd.heap.size) T wd.heap.size g1 g2 c1 c2 ex ey bl br w2 (hR1.below hb2) hR2' (Hkl.out.below (Hb1.out.trans (hb2.mono hzb1))) (hkr.below hb2) (fun i hi=>hi.2) (by omega) (by omega) ⟨okx.1,okx.2.1⟩ ⟨oky.1,oky.2.1⟩ (by simpa using h3) (by rw[hfl];exact ha) hok (by omega) (by rw[hfl];exact hN));have Hw12:Hid (Below wd.heap.size wd w2):=Hb1.out.trans (hb2.mono hzb1);clear hR1 hR2 hR2' hb2 hkr hc2 hl2 hok hfl;go_wp2_with (fail);(with_reducible refine(HP.out).mono ?_);rintro e W ⟨hbW,b1,q,rfl,hn1,hq⟩;have hWW:=Hw12.out.trans hbW;have hN1:Bj (fun j=>S j\/wd.heap.size<=j) W (Ek (.inner ex) (.inner ey)).1 b1:=hn1.mono fun j _ hj=>hj.imp (fun h=>h.1) fun h=>by omega
    have hQ:Nj (fun j=>S j\/wd.heap.size<=j) W (Ek (.inner ex) (.inner ey)).2 q:=hq.mono fun j _ hj=>hj.imp (fun h=>h.1) fun h=>by omega
    have hF:=Hfin.out W b1 hWW hN1;obtain⟨f0,f1,lgW,fz⟩:=Hcells.out W hWW;generalize (Ek (.inner ex) (.inner ey)).2=r2 at hQ hF
    cases r2 with
    |none=>
     have hq0:q=none:=hQ;subst hq0;have HD:=qz (Hdel.out W b1 hWW);have HF1:=qz (hF.1 rfl);clear hF hQ hN1 hn1 hq hWW hbW;go_wp2_with (fail);(with_reducible refine(HD.out).mono ?_);rintro e W' ⟨rfl,hR',hKB⟩;have HPP:=qz (HF1.out W' hR' hKB);clear hR' hKB;go_wp2;exact HPP.out
    |some m=>
     obtain⟨b2,rfl,hn2⟩:=hQ;have HPP:=qz (hF.2 m b2 rfl hn2);have y4: ¬P+1=P:=by omega
     clear hF hN1 hn1 hq hn2 hWW hbW;go_wp2;exact HPP.out
end Go.Proofs.YtnkmhaachfgaoaaGreatDoor
