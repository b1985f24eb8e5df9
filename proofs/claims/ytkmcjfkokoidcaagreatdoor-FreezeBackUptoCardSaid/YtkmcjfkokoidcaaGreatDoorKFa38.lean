/- Parts: (tree.Tree).Delete. Condition: a bulk of at most 10^8, a height of at most 90000. -/
import Derived.Test.YtkmcjfkokoidcaaGreatDoorKFa35
import Derived.Test.YtkmcjfkokoidcaaGreatDoorKFa36
set_option maxHeartbeats 20000000
set_option maxRecDepth 100000
namespace Go.Proofs.YtkmcjfkokoidcaaGreatDoor
open Go Go.RowKit
theorem Zs (S:Nat->Prop) (b gl gr:Nat) (l r:List A5) (w:World) (hl:At (fun i=>i≠gr) b 63 7 w (dO l) (.slice (some ⟨gl,0,none⟩) l.length l.length)) (hr:At (fun i=>i≠gl) b 63 7 w (dO r) (.slice (some ⟨gr,0,none⟩) r.length r.length)) (hne:gl≠gr) (hb:b<=w.heap.size)
 (hl3:l.length=3) (h4:4<r.length) (h8:r.length<=8) (ha:Ay (l++r)) (hbk:Ab l+Ab r<=100000000):
 Calls Tryz.prog 172 #[.slice (some ⟨gl,0,none⟩) l.length l.length,.slice (some ⟨gr,0,none⟩) r.length r.length,.func (.func 100) #[] #[]] w (SPb S b (Ic l r) w):=by
 obtain⟨PO,hPO⟩: ∃P:Ending->World->Prop,SPb S b (Ic l r) w=P:=⟨_,rfl⟩;rw[hPO];obtain⟨⟨k,v⟩,rr,rfl⟩: ∃x t,r=x::t:=by
  cases r with
  |nil=>simp at h4
  |cons x t=>exact⟨x,t,rfl⟩
 have he:Ic l ((k,v)::rr)=(.leaf (l++ [(k,v)]),some (.leaf rr)):=by unfold Ic;rw[if_neg (by omega),if_pos h4];rfl
 obtain⟨R,hR⟩: ∃R,rr.length=R:=⟨_,rfl⟩;have hlr:((k,v)::rr).length=R+1:=by rw[List.length_cons,hR]
 rw[hlr]at hr h4 h8 ⊢;obtain⟨k',b',n',t',la,ln,lc,oa,on,oc,hv,r1⟩:=hr.entAt (q:=0) (k:=k) (v:=v) rfl;rw[Nat.zero_mul]at r1;have hpw:=List.pairwise_append.1 ha;have hpr:=List.pairwise_cons.1 hpw.2.1;have ha1:Ay (l++ [(k,v)]):=List.pairwise_append.2 ⟨hpw.1,List.pairwise_singleton _ _,fun x hx y hy=>by
  rw[List.mem_singleton.1 hy];exact hpw.2.2 _ hx _ (by simp)⟩
 have hbk1:Ab (l++ [(k,v)])<=100000000:=by
  rw[Eh];simp only[Ab]at hbk ⊢;omega
 have hbk2:Ab rr<=100000000:=by
  simp only[Ab]at hbk;omega
 have hrI:Ah (fun i=>i≠gl) w (.row 7 (dO ((k,v)::rr))) [.slice (some ⟨gr,0,none⟩) (R+1) (R+1)]:=hr.closeIn.mono fun i _ hi=>hi.elim id fun e=>by
  have e2:gr=i:=Option.some.inj e;omega
 rw[hl3]at hl ⊢;have s0:w.cell? ⟨gr,0,none⟩=some (.string k):=by simpa using r1 0 _ rfl
 have s1:w.cell? ⟨gr,1,none⟩=some (.int .i64 k'):=by simpa using r1 1 _ rfl
 have s2:w.cell? ⟨gr,2,none⟩=some (.bool b'):=by simpa using r1 2 _ rfl
 have s3:w.cell? ⟨gr,3,none⟩=some (.int .i64 n'):=by simpa using r1 3 _ rfl
 have s4:w.cell? ⟨gr,4,none⟩=some (.string t'):=by simpa using r1 4 _ rfl
 have s5:w.cell? ⟨gr,5,none⟩=some (.slice la ln lc):=by simpa using r1 5 _ rfl
 have s6:w.cell? ⟨gr,6,none⟩=some (.slice oa on oc):=by simpa using r1 6 _ rfl
 have y0:(4:Int)<(R:Int)+1:=by omega
 have y1:(0:Int)<(R:Int)+1:=by omega
 have y2:(1:Int)<=(R:Int)+1:=by omega
 have y3: ¬R+1=1:=by omega
 have y4: ¬R=0:=by omega
 have y5:1<=R+1:=by omega
 have lgl:=(hl.base gl rfl).2;have lgr:=(hr.base gr rfl).2;have hlb:=(hl.base gl rfl).1;obtain⟨j0,hj,hy0,hy1,hy2⟩:=info_parts Abw;obtain⟨Hl,Hr,HPO,He,Hv,HrI,Ha1,Hbk1,Hbk2,Hpr,Hj,Hy0,Hy1,Hy2,HR,Hl3⟩:=hid16 hl hr hPO he hv hrI ha1 hbk1 hbk2 hpr hj hy0 hy1 hy2 hR hl3;clear hl hr hPO he hv hrI ha1 hbk1 hbk2 hpr hj hy0 hy1 hy2 hR hl3;clear hpw r1 ha hbk h4;go_enter Tryz.func172,Tryz.ntmps172;go_upto_region 5 with(fail);refine wp_region_held_drew (S:=fun Y:World=>Y.cell? ⟨gr,0,none⟩=some (.string k)/\Y.cell? ⟨gr,1,none⟩=some (.int .i64 k')/\Y.cell? ⟨gr,2,none⟩=some (.bool b')/\Y.cell? ⟨gr,3,none⟩=some (.int .i64 n')/\Y.cell? ⟨gr,4,none⟩=some (.string t')/\Y.cell? ⟨gr,5,none⟩=some (.slice la ln lc)/\Y.cell? ⟨gr,6,none⟩=some (.slice oa on oc)) (by kernel_rfl) ⟨s0,s1,s2,s3,s4,s5,s6⟩ (fun hHeld=> ?_);have hbd:Below w.heap.size w w.drew:=Below.drew (Below.refl _ w);generalize w.drew=wd at hbd hHeld ⊢;have hS: ∀(W W':World),w.heap.size<=W.heap.size->W'.heap[gr]? =W.heap[gr]? ->(W.cell? ⟨gr,0,none⟩=some (.string k)/\W.cell? ⟨gr,1,none⟩=some (.int .i64 k')/\W.cell? ⟨gr,2,none⟩=some (.bool b')/\W.cell? ⟨gr,3,none⟩=some (.int .i64 n')/\W.cell? ⟨gr,4,none⟩=some (.string t')/\W.cell? ⟨gr,5,none⟩=some (.slice la ln lc)/\W.cell? ⟨gr,6,none⟩=some (.slice oa on oc))->(W'.cell? ⟨gr,0,none⟩=some (.string k)/\W'.cell? ⟨gr,1,none⟩=some (.int .i64 k')/\W'.cell? ⟨gr,2,none⟩=some (.bool b')/\W'.cell? ⟨gr,3,none⟩=some (.int .i64 n')/\W'.cell? ⟨gr,4,none⟩=some (.string t')/\W'.cell? ⟨gr,5,none⟩=some (.slice la ln lc)/\W'.cell? ⟨gr,6,none⟩=some (.slice oa on oc)):=by
  rintro W W' _ hB ⟨a0,a1,a2,a3,a4,a5,a6⟩;have hc: ∀o,W'.cell? ⟨gr,o,none⟩=W.cell? ⟨gr,o,none⟩:=fun o=>World.cell?_of_block hB;exact⟨(hc _).trans a0,(hc _).trans a1,(hc _).trans a2,(hc _).trans a3,(hc _).trans a4,(hc _).trans a5,(hc _).trans a6⟩
 have HS:=qz hS;clear hS;refine tkH 0 hHeld ?_;refine tkH 1 hHeld ?_;refine tkH 2 hHeld ?_;refine tkH 3 hHeld ?_;refine tkH 4 hHeld ?_;refine tkH 8 hHeld ?_;refine tkH 9 hHeld ?_;refine tkH 10 hHeld ?_;refine Ee 5 fun K hK=> ?_;go_simp;have hb1:=Aa wd (.cells #[.string k,.int .i64 k',.bool b',.int .i64 n',.string t',.slice la ln lc,.slice oa on oc] 63);have hrd:=F2 (Aj.new wd 63 #[.string k,.int .i64 k',.bool b',.int .i64 n',.string t',.slice la ln lc,.slice oa on oc]);have hw1:=hbd.trans (hb1.mono hbd.size);refine hK.out _ _ (HS.out wd _ hbd.size (hb1.block gr (Nat.lt_of_lt_of_le lgr hbd.size)) hHeld) (fun hHeld=> ?_);clear hK K
 try simp only[Act.put,tk1,tk2,tk3,tk4,tk5,tk6]
 generalize wd.heap.size=vb at hrd ⊢;generalize wd.alloc (.cells #[.string k,.int .i64 k',.bool b',.int .i64 n',.string t',.slice la ln lc,.slice oa on oc] 63)=W at hrd hw1 hHeld ⊢;clear hb1;have hv2:Ah (fun i=>True/\(Value.slice (some ⟨gl,0,none⟩) 3 3).ownBlock≠some i) W (dP (k,v)) (.string k:: [.int .i64 k',.bool b',.int .i64 n',.string t',.slice la ln lc,.slice oa on oc]):=fun w'' q1 q2=>
  P1 ((Hv.out.below hw1) w'' q1 fun p p1 p2=>q2 p ⟨trivial,fun e=>by
   have e2:gl=p.block:=Option.some.inj e;rcases p1 with p1|p1
   . exact p1 e2.symm
   . omega⟩ p2)
 have HlW:=qz ((Hl.out.below hw1).mono (T0:=fun _=>True) fun _ _=>trivial);have hzw:=hw1.size;have Hlo:=qz (show(dO l).length=3 from by rw[Av];exact Hl3.out);obtain⟨Hv2,Hrd,Hw1⟩:=hid3 hv2 hrd hw1;clear hv2 hrd hw1;refine Ee 6 fun K hK=> ?_;refine Gg (d:=dP (k,v)) (V:=.slice (some ⟨gl,0,none⟩) 3 3) (by rfl) (.tmp 35) (.tmp 39) 22 (by rfl) Tryz.underlying22 Hj.out Hy0.out Hy1.out Hy2.out rfl (by omega) (by rfl) HlW.out (Nat.le_trans hb hzw) (C7 _) Hv2.out (by rfl) Hrd.out (by rw[Hlo.out];simp only[maxLen];omega) (by rw[Hlo.out];omega) ?_;intro V2 W2 hr2 hg2 _;have e2:dO l++ [dP (k,v)]=dO (l++ [(k,v)]):=by rw[Bo,Bo,List.map_append];rfl
 rw[e2]at hr2;have HBb:Hid (Below b w W2):=(Hw1.out.mono hb).grown hg2 (Nat.le_trans hb hzw) (fun j hj=>by cases hj;exact hlb);have l2:(dO (l++ [(k,v)])).length=4:=by rw[Av,List.length_append,Hl3.out];rfl
 obtain⟨a2,c2,rfl⟩:=hr2.slice_n l2;have HC2:=qz (Ef (fun _=>False) (l++ [(k,v)]) a2 4 c2 W2 hr2.close Ha1.out (by rw[List.length_append,Hl3.out];simp) Hbk1.out);have hzW:=hg2.size;have HrI2:Hid (Ah (fun i=>i≠gl) W2 (.row 7 (dO ((k,v)::rr))) [.slice (some ⟨gr,0,none⟩) (R+1) (R+1)]):=(HrI.out.below Hw1.out).later hzW fun p p1 p2=>World.cell?_of_block (hg2.block _ p2 fun e=>p1 (Option.some.inj e));refine hK.out _ _ (HS.out W _ hzw (hg2.block gr (Nat.lt_of_lt_of_le lgr hzw) fun e=>hne (Option.some.inj e).symm) hHeld) (fun hHeld=> ?_);clear hK K hr2 hg2 e2 l2
 try simp only[Act.put,tk1,tk2,tk3,tk4,tk5,tk6]
 refine Ee 7 fun K hK=> ?_;go_simp;(with_reducible refine(HC2.out).mono ?_);rintro e W3 ⟨hb3,b3,rfl,hN3⟩;have hd:Ag W3 W3.heap.size (.row 7 (dO rr)) [.slice (some ⟨gr,7,none⟩) R R]:=by
  have:=(HrI2.out.below hb3).now.cutR (i:=1) (m:=R) (by rw[Av,List.length_cons,HR.out];omega) R;simpa[dO]using this
 have HC3:=qz (Ef (fun _=>False) rr (some ⟨gr,7,none⟩) R R W3 hd Hpr.out.2 (by rw[HR.out];omega) Hbk2.out);refine hK.out _ _ (HS.out W2 _ (Nat.le_trans hzw hzW) (hb3.block gr (by omega)) hHeld) (fun hHeld=> ?_);obtain⟨Hb3,HN3⟩:=hid2 hb3 hN3;clear hb3 hN3;clear hK K hd
 try simp only[Act.put,tk1,tk2,tk3,tk4,tk5,tk6]
 refine Ee 11 fun K hK=> ?_;go_simp;(with_reducible refine(HC3.out).mono ?_);rintro e W4 ⟨hb4,b4,rfl,hN4⟩;have HP:Hid (PO (.returned (.tuple #[.pointer (some ⟨b3,0,none⟩),.pointer (some ⟨b4,0,none⟩)])) W4):=by
  show PO _ _;rw[<-HPO.out,He.out];have hz3:=Hb3.out.size;exact⟨(HBb.out.trans (Hb3.out.mono (by omega))).trans (hb4.mono (by omega)),b3,_,rfl,(HN3.out.below hb4).mono (fun i _ h=> .inr (h.elim False.elim fun h=>by omega)),b4,rfl,hN4.mono fun i _ h=> .inr (h.elim False.elim fun h=>by omega)⟩
 refine hK.out _ _ (HS.out W3 _ (by have:=Hb3.out.size;omega) (hb4.block gr (by have:=Hb3.out.size;omega)) hHeld) (fun hHeld=> ?_);clear hK K hb4 hN4
 try simp only[Act.put,tk1,tk2,tk3,tk4,tk5,tk6]
 refine tkH 12 hHeld ?_;refine tkH 13 hHeld ?_;refine wpAnyH_done (by kernel_rfl) ?_ _;clear hHeld;go_wp2;exact HP.out
theorem Zt (S:Nat->Prop) (b gl gr:Nat) (l r:List A5) (w:World) (hl:At (fun i=>i≠gr) b 63 7 w (dO l) (.slice (some ⟨gl,0,none⟩) l.length l.length)) (hr:At (fun i=>i≠gl) b 63 7 w (dO r) (.slice (some ⟨gr,0,none⟩) r.length r.length)) (_hne:gl≠gr) (hb:b<=w.heap.size)
 (hl4:l.length<=4) (hr4:r.length<=4) (ha:Ay (l++r)) (hbk:Ab l+Ab r<=100000000):
 Calls Tryz.prog 172 #[.slice (some ⟨gl,0,none⟩) l.length l.length,.slice (some ⟨gr,0,none⟩) r.length r.length,.func (.func 100) #[] #[]] w (SPb S b (Ic l r) w):=by
 obtain⟨PO,hPO⟩: ∃P:Ending->World->Prop,SPb S b (Ic l r) w=P:=⟨_,rfl⟩;rw[hPO];have he:Ic l r=(.leaf (l++r),none):=by unfold Ic;rw[if_neg (by omega),if_neg (by omega)]
 obtain⟨ns,hrd,hA,hnn⟩:=hr.reads;clear hnn;have HA2:Hid (Aw (fun i=>True/\(Value.slice (some ⟨gl,0,none⟩) l.length l.length).ownBlock≠some i) w (dO r) ns):=hA.mono fun i _ h=>⟨trivial,fun e=>h.1 (Option.some.inj e).symm⟩;have Hl2:=qz (hl.mono (T0:=fun _=>True) fun _ _=>trivial);have hlb:=(hl.base gl rfl).1;have hdl:=(Av r).symm;have hdl2:=Av l;obtain⟨j0,hj,hy0,hy1,hy2⟩:=info_parts Abw;have y0: ¬(4:Int)<(l.length:Int):=by omega
 have y1: ¬(4:Int)<(r.length:Int):=by omega
 have Hbk1:=qz (show Ab (l++r)<=100000000 from by rw[Eh];exact hbk);obtain⟨HPO,He,Hrd,Hj,Hy0,Hy1,Hy2,Hdl,Hdl2,Ha⟩:=hid10 hPO he hrd hj hy0 hy1 hy2 hdl hdl2 ha;clear hPO he hrd hj hy0 hy1 hy2 hdl hdl2 ha;clear hl hr hA;go_enter Tryz.func172,Tryz.ntmps172;go_wp2_with (at_builtin;apply Shut.out);unfold Shut;refine C4 (n:=r.length) (A:=some ⟨gr,0,none⟩) (c:=r.length) rfl (.tmp 47) (.tmp 48) 22 rfl Tryz.underlying22 Hj.out Hy0.out Hy1.out Hy2.out rfl (by omega) rfl Hl2.out hb (Es _) HA2.out rfl Hrd.out Hdl.out (by rw[Hdl2.out];simp only[maxLen];omega) (by rw[Hdl2.out];omega) ?_;intro V2 W2 hr2 hg2 _;have e2:dO l++dO r=dO (l++r):=by rw[Bo,Bo,Bo,List.map_append]
 rw[e2]at hr2;have HBb:Hid (Below b w W2):=(Below.refl b w).grown hg2 hb (fun j hj=>by cases hj;exact hlb);obtain⟨N,hN⟩: ∃N,(dO (l++r)).length=N:=⟨_,rfl⟩;obtain⟨a2,c2,rfl⟩:=hr2.slice_n hN;have HC2:=qz (Ef (fun _=>False) (l++r) a2 N c2 W2 hr2.close Ha.out (by rw[List.length_append];omega) Hbk1.out);have hzW:=hg2.size;clear hr2 hg2 e2 hN;go_wp2_with (fail);(with_reducible refine(HC2.out).mono ?_);rintro e W3 ⟨hb3,b3,rfl,hN3⟩;have HP:Hid (PO (.returned (.tuple #[.pointer (some ⟨b3,0,none⟩),.pointer none])) W3):=by
  show PO _ _;rw[<-HPO.out,He.out];exact⟨HBb.out.trans (hb3.mono (by omega)),b3,_,rfl,hN3.mono (fun i _ h=> .inr (h.elim False.elim fun h=>by omega)),rfl⟩
 clear hb3 hN3;go_wp2;exact HP.out
theorem Acl (S:Nat->Prop) (b gl gr:Nat) (l r:List A5) (w:World) (hl:At (fun i=>i≠gr) b 63 7 w (dO l) (.slice (some ⟨gl,0,none⟩) l.length l.length)) (hr:At (fun i=>i≠gl) b 63 7 w (dO r) (.slice (some ⟨gr,0,none⟩) r.length r.length)) (hne:gl≠gr) (hb:b<=w.heap.size)
 (hl8:3<=l.length/\l.length<=8) (hr8:3<=r.length/\r.length<=8) (h3:l.length=3\/r.length=3) (ha:Ay (l++r)) (hbk:Ab l+Ab r<=100000000):
 Calls Tryz.prog 172 #[.slice (some ⟨gl,0,none⟩) l.length l.length,.slice (some ⟨gr,0,none⟩) r.length r.length,.func (.func 100) #[] #[]] w (SPb S b (Ic l r) w):=by
 by_cases h1:4<l.length
 . exact Zr S b gl gr l r w hl hr hne hb hl8.2 (by omega) h1 ha hbk
 by_cases h2:4<r.length
 . exact Zs S b gl gr l r w hl hr hne hb (by omega) h2 hr8.2 ha hbk
 exact Zt S b gl gr l r w hl hr hne hb (by omega) (by omega) ha hbk
theorem At.old {S0:Nat->Prop} {b s:Nat} {t:TypeId} {w:World} {l:List D} {V:Value} (h:At S0 b t s w l V):At (fun i=>S0 i/\i<w.heap.size) b t s w l V:=by
 obtain⟨ns,h1,h2,h3⟩:=h;exact⟨ns,h1,h2,(h3.base (Below.refl _ _)).mono fun i _ hi=>⟨⟨hi.1.1,hi.2⟩,hi.1.2⟩⟩
theorem Anc {α:Type} (l:List α) (P:Nat) (h:P+1<l.length) (a b:α):(l.set P a).set (P+1) b=l.take P++a::([b]++l.drop (P+2)):=by
 rw[List.set_eq_take_append_cons_drop,if_pos (by rw[List.length_set];exact h),List.take_set,List.set_eq_take_append_cons_drop,if_pos (by rw[List.length_take];omega),List.take_take,Nat.min_eq_left (by omega),List.drop_take,List.drop_set_of_lt (by omega)];simp
theorem Am2 {α:Type} (l:List α) (P:Nat) (h:P+1<l.length) (a:α):(l.set P a).take (P+1)++(l.set P a).drop (P+2)=l.take P++a::l.drop (P+2):=by
 rw[List.drop_set_of_lt (by omega),List.take_set,List.set_eq_take_append_cons_drop,if_pos (by rw[List.length_take];omega),List.take_take,Nat.min_eq_left (by omega),List.drop_take];simp
def Aam (S:Nat->Prop) (b g:Nat) (ks:List Nd) (w:World) (e:Ending) (w':World):Prop:=KB (fun j=>j=g) w w'/\ ∃V' bs',e=.returned V'/\At (fun _=>False) b 24 1 w' (Bb bs') V'/\Ar (fun j=>S j\/w.heap.size<=j) w' ks bs'
theorem Ae1 (S:Nat->Prop) (T b g c i P:Nat) (ks:List Nd) (bs:List Nat) (x y:Nd) (w:World) (hR:At (fun _=>False) b 24 1 w (Bb bs) (.slice (some ⟨g,0,none⟩) ks.length c)) (hk:Ar S w ks bs) (hSg: ¬S g) (_hb:b<=w.heap.size) (hi:i<8) (hP:P=i - 1) (hx:ks[P]? =some x) (hy:ks[P+1]? =some y) (h8:ks.length<=8)
 (okx:Co 3 T x) (oky:Co 3 T y) (h7:7<=Bh x+Bh y) (h3:Bh x=3\/Bh y=3) (ha:Ay (Bi x++Bi y)) (hbk:Ab (Bi x)+Ab (Bi y)<=100000000) (hT:T<=1000000) (hN:(Bi x++Bi y).length<=1000000000):
 Calls Tryz.prog 110 #[.slice (some ⟨g,0,none⟩) ks.length c,.int .i64 i] w (Aam S b g (G2 ks i) w):=by
 obtain⟨PO,hPO⟩: ∃PP:Ending->World->Prop,Aam S b g (G2 ks i) w=PP:=⟨_,rfl⟩;rw[hPO];have hmk:G2 ks i=ks.take P++(Ft x y).1::((Ft x y).2.toList++ks.drop (P+2)):=by
  unfold G2;rw[<-hP,List.getD_eq_getElem?_getD,List.getD_eq_getElem?_getD,hx,hy];rfl
 have hlt:P+1<ks.length:=(List.getElem?_eq_some_iff.1 hy).1;obtain⟨bx,hbx,hnx⟩:=hk.at_ hx;obtain⟨bY,hby,hny⟩:=hk.at_ hy;have s0:=hR.ptrAt hbx;have s1:=hR.ptrAt hby;have hbl:=hk.now.len;have lg:=(hR.base g rfl).2;have hgb:=(hR.base g rfl).1;have hmax:max ((i:Int) - 1) 0=(P:Int):=by omega
 have hw1:IntKind.i64.wrap ((i:Int) - 1)=(i:Int) - 1:=IntWalk.i64_in _ (by omega);have hw2:IntKind.i64.wrap ((P:Int)+1)=(P:Int)+1:=IntWalk.i64_in _ (by omega);have y1:(P:Int)<(ks.length:Int):=by omega
 have y2:(P:Int)+1<(ks.length:Int):=by omega
 have y3:(0:Int)<=(P:Int)+1:=by omega
 obtain⟨HPO,HR,Hk,Hmk,Hnx,Hny,Hbl⟩:=hid7 hPO hR hk hmk hnx hny hbl;clear hPO hR hk hmk hnx hny hbl;clear hbx hby hx hy hP;go_enter Tryz.func110,Tryz.ntmps110;go_upto_region 2 with(fail);refine wp_region_held_drew (S:=fun Y:World=>Y.cell? ⟨g,P,none⟩=some (.pointer (some ⟨bx,0,none⟩))/\Y.cell? ⟨g,P+1,none⟩=some (.pointer (some ⟨bY,0,none⟩))) (by kernel_rfl) ⟨s0,s1⟩ (fun hHeld=> ?_);have hbd:Below w.heap.size w w.drew:=Below.drew (Below.refl _ w);generalize w.drew=wd at hbd hHeld ⊢;refine tkH 0 hHeld ?_;refine tkH 1 hHeld ?_;refine tkH 2 hHeld ?_;refine tkH 3 hHeld ?_;refine tkH 4 hHeld ?_;refine tkH 5 hHeld ?_;refine tkH 6 hHeld ?_;refine tkH 7 hHeld ?_;refine tkH 8 hHeld ?_;refine tkH 9 hHeld ?_;refine tkH 10 hHeld ?_;refine wpAnyH_done (by kernel_rfl) ?_ _;clear hHeld;have hzd:=hbd.size;have hxd:=Hnx.out.below hbd;have hyd:=Hny.out.below hbd;have hht:=Cx hxd.now;rw[Mc (.inl (by omega)) okx]at hht;have hfin: ∀(W:World) (b1:Nat),Below wd.heap.size wd W->Bm (fun j=>S j\/wd.heap.size<=j) W (Ft x y).1 b1->(((Ft x y).2=none-> ∀W',At (fun _=>False) b 24 1 W' ((Bb (bs.set P b1)).take (P+1)++(Bb (bs.set P b1)).drop (P+2)) (.slice (some ⟨g,0,none⟩) (ks.length - 1) c)->KB (fun k=>k=g) W W'->PO (.returned (.slice (some ⟨g,0,none⟩) (ks.length - 1) c)) W')/\ ∀m b2,(Ft x y).2=some m->Bm (fun j=>S j\/wd.heap.size<=j) W m b2->PO (.returned (.slice (some ⟨g,0,none⟩) ks.length c)) ((W.setCell ⟨g,P,none⟩ (.pointer (some ⟨b1,0,none⟩))).setCell ⟨g,P+1,none⟩ (.pointer (some ⟨b2,0,none⟩)))):=fun W b1 hW hN1=>by
  have hwW:Below w.heap.size w W:=hbd.trans (hW.mono hzd);have hkW:=Hk.out.below hwW;have hRW:=HR.out.below hwW;have hzW:=hwW.size;have hmo: ∀{W':World} {n:Nd} {q:Nat},KB (fun k=>k=g) W W'->Bm (fun j=>S j\/wd.heap.size<=j) W n q->Bm (fun j=>S j\/w.heap.size<=j) W' n q:=fun hKB h=>(h.later hKB.size fun j h1 h2=>hKB.block j h2 fun e=>by
   rcases h1 with h1|h1
   . exact hSg (e▸h1)
   . omega).mono fun j _ hj=>hj.imp id fun h=>by omega
  have hmk2: ∀{W':World},KB (fun k=>k=g) W W'->Ar (fun j=>S j\/w.heap.size<=j) W' ks bs:=fun hKB=>(hkW.later hKB.size fun j h1 h2=>hKB.block j h2 fun e=>hSg (e▸h1)).mono fun j _ hj=> .inl hj;refine⟨fun hq W' hR' hKB=> ?_,fun m b2 hq hN2=> ?_⟩
  . rw[<-HPO.out];have e1:(Bb (bs.set P b1)).take (P+1)++(Bb (bs.set P b1)).drop (P+2)=Bb (bs.take P++b1::bs.drop (P+2)):=by
     rw[<-Am2 bs P (by rw[Hbl.out];exact hlt) b1];unfold Bb;rw[List.map_append,List.map_take,List.map_drop]
    rw[e1]at hR';refine⟨(KB.of_below hwW).trans hKB fun _ _ h=>h,_,_,rfl,hR', ?_⟩;rw[Hmk.out,hq];have:=(((hmk2 hKB).split P).1.app (Ar.one (hmo hKB hN1))).app ((hmk2 hKB).split (P+2)).2;simpa using this
  . rw[<-HPO.out];have hKB:KB (fun k=>k=g) W ((W.setCell ⟨g,P,none⟩ (.pointer (some ⟨b1,0,none⟩))).setCell ⟨g,P+1,none⟩ (.pointer (some ⟨b2,0,none⟩))):=(KB.set (S:=fun k=>k=g) W ⟨g,P,none⟩ rfl _).trans (KB.set (S:=fun k=>k=g) _ ⟨g,P+1,none⟩ rfl _) fun _ _ h=>h;have r1:=(hRW.put1 (i:=P) (p:=b1) (by rw[Hbl.out];omega)).put1 (i:=P+1) (p:=b2) (by rw[List.length_set,Hbl.out];omega);refine⟨(KB.of_below hwW).trans hKB fun _ _ h=>h,_,_,rfl,r1, ?_⟩;have h2:=((hmk2 hKB).set P (hmo hKB hN1)).set (P+1) (hmo hKB hN2);rw[Anc ks P hlt]at h2;rw[Hmk.out,hq];exact h2
 have hdel: ∀(W:World) (b1:Nat),Below wd.heap.size wd W->Calls Tryz.prog 174 #[.slice (some ⟨g,0,none⟩) ks.length c,.int .i64 ((P:Int)+1),.int .i64 ((P:Int)+2)] (W.setCell ⟨g,P,none⟩ (.pointer (some ⟨b1,0,none⟩))) fun e w'=>e=.returned (.slice (some ⟨g,0,none⟩) (ks.length - 1) c)/\At (fun _=>False) b 24 1 w' ((Bb (bs.set P b1)).take (P+1)++(Bb (bs.set P b1)).drop (P+2)) (.slice (some ⟨g,0,none⟩) (ks.length - 1) c)/\KB (fun k=>k=g) W w':=fun W b1 hW=>by
  have hwW:Below w.heap.size w W:=hbd.trans (hW.mono hzd);have r1:=(HR.out.below hwW).put1 (i:=P) (p:=b1) (by rw[Hbl.out];omega);have:=Aeb (fun _=>False) b g ks.length c (P+1) (ks.length - 1) (Bb (bs.set P b1)) _ r1 (by rw[A8,List.length_set,Hbl.out];omega) (by omega) (by omega);rw[show((P+1:Nat):Int)=(P:Int)+1 from by omega,show(P:Int)+1+1=(P:Int)+2 from by omega]at this;exact this.mono fun e w' ⟨q1,q2,q3⟩=>⟨q1,q2,(KB.set (S:=fun k=>k=g) W ⟨g,P,none⟩ rfl _).trans q3 fun _ _ h=>h⟩
 have hcells: ∀(W:World),Below wd.heap.size wd W->W.cell? ⟨g,P,none⟩=some (.pointer (some ⟨bx,0,none⟩))/\W.cell? ⟨g,P+1,none⟩=some (.pointer (some ⟨bY,0,none⟩))/\g<W.heap.size/\ ∀o,W.frozen? ⟨g,o,none⟩=false:=fun W hW=>by
  have hwW:Below w.heap.size w W:=hbd.trans (hW.mono hzd);obtain⟨cur,hbg⟩:=(HR.out.below hwW).blk;exact⟨(hwW.cell (p:=⟨g,P,none⟩) lg).trans s0,(hwW.cell (p:=⟨g,P+1,none⟩) lg).trans s1,hbg.lt,hbg.frozen⟩
 have hw3:IntKind.i64.wrap ((P:Int)+2)=(P:Int)+2:=IntWalk.i64_in _ (by omega);obtain⟨Hfin,Hdel,Hcells,Hbd⟩:=hid4 hfin hdel hcells hbd;clear hfin hdel hcells hbd;clear s0 s1 hmax hw1 HPO HR Hk Hnx Hny
 cases T with
 |zero=>
  match x,y,okx,oky with
  | .leaf ex,.leaf ey,okx,oky=>
    simp only[Bh]at h7 h3;have HC1:=qz (Jd hxd.now (by have:=okx.1;omega) (by simp only[Bi]at hbk;omega));have Hht:=qz hht;clear hht;go_wp2_with (fail);(with_reducible refine(Hht.out).mono ?_);rintro e w1 ⟨rfl,rfl⟩;go_wp2_with (fail);(with_reducible refine(HC1.out).mono ?_);rintro e w1 ⟨hb1,g1,rfl,hR1⟩;have HC2:=qz (Jd (hyd.below hb1).now (by have:=oky.1;omega) (by simp only[Bi]at hbk;omega));have Hb1:=qz hb1;clear hb1;go_wp2_with (fail);(with_reducible refine(HC2.out).mono ?_);rintro e w2 ⟨hb2,g2,rfl,hR2⟩;have q1:=hR1.base g1 rfl;have q2:=hR2.base g2 rfl;have hzb1:=Hb1.out.size;have hzb2:=hb2.size;have hR1':=((hR1.old).below hb2).mono (T0:=fun i=>i≠g2) fun i hi=>by omega
    have hR2':=(hR2.keepN (T0:=fun i=>i≠g1) (b':=wd.heap.size) hzb1 (fun i hi=>by omega) (Nat.le_refl _) fun _ _ _=>rfl);have HP:=qz (Acl S wd.heap.size g1 g2 ex ey w2 hR1' hR2' (by omega) (by omega) okx oky (by simpa using h3) ha hbk);have Hw12:Hid (Below wd.heap.size wd w2):=Hb1.out.trans (hb2.mono hzb1);clear hR1 hR2 hR1' hR2' hb2;go_wp2_with (fail);(with_reducible refine(HP.out).mono ?_);rintro e W ⟨hbW,b1,q,rfl,hn1,hq⟩;have hWW:=Hw12.out.trans hbW;have hN1:Bm (fun j=>S j\/wd.heap.size<=j) W (Ft (.leaf ex) (.leaf ey)).1 b1:=hn1.mono fun j _ hj=>hj.imp id fun h=>by omega
    have hQ:Pq (fun j=>S j\/wd.heap.size<=j) W (Ft (.leaf ex) (.leaf ey)).2 q:=hq.mono fun j _ hj=>hj.imp id fun h=>by omega
    have hF:=Hfin.out W b1 hWW hN1;obtain⟨f0,f1,lgW,fz⟩:=Hcells.out W hWW;generalize (Ft (.leaf ex) (.leaf ey)).2=r2 at hQ hF
    cases r2 with
    |none=>
     have hq0:q=none:=hQ;subst hq0;have HD:=qz (Hdel.out W b1 hWW);have HF1:=qz (hF.1 rfl);clear hF hQ hN1 hn1 hq hWW hbW;go_wp2_with (fail);(with_reducible refine(HD.out).mono ?_);rintro e W' ⟨rfl,hR',hKB⟩;have HPP:=qz (HF1.out W' hR' hKB);clear hR' hKB;go_wp2;exact HPP.out
    |some m=>
     obtain⟨b2,rfl,hn2⟩:=hQ;have HPP:=qz (hF.2 m b2 rfl hn2);have y4: ¬P+1=P:=by omega
     clear hF hN1 hn1 hq hn2 hWW hbW;go_wp2;exact HPP.out
 |succ T=>
  match x,y,okx,oky with
  | .inner ex,.inner ey,okx,oky=>
    simp only[Bh]at h7 h3;simp only[Co]at okx oky;have hzT:((((T+1:Nat):Int))==0)=false:=beq_eq_false_iff_ne.2 (by omega);have hzT2:(((T:Int)+1)==0)=false:=beq_eq_false_iff_ne.2 (by omega);have HC1:=qz (Fr (S:=fun i=>S i/\i<wd.heap.size) (hxd.mono fun i h1 h2=>⟨h2,h1⟩) (by omega) (by omega));have Hyd2:Hid (Bm (fun i=>S i/\i<wd.heap.size) wd (.inner ey) bY):=hyd.mono fun i h1 h2=>⟨h2,h1⟩;have Hht:=qz hht;clear hht;go_wp2_with (fail);(with_reducible refine(Hht.out).mono ?_);rintro e w1 ⟨rfl,rfl⟩;go_wp2_with (fail);(with_reducible refine(HC1.out).mono ?_);rintro e w1 ⟨bl,hkl,hb1,V1,rfl,hR1⟩;have HC2:=qz (Fr (S:=fun i=>S i/\i<wd.heap.size) (Hyd2.out.below hb1) (by omega) (by omega));have hl1:(Bb bl).length=ex.length:=by rw[A8];exact hkl.now.len
    obtain⟨g1,c1,rfl,hc1,_⟩:=hR1.ptr (by intro e;rw[e]at hl1;simp at hl1;omega);rw[hl1]at hR1 ⊢;obtain⟨Hb1,Hkl⟩:=hid2 hb1 hkl;clear hb1 hkl;clear hc1 hl1;go_wp2_with (fail);(with_reducible refine(HC2.out).mono ?_);rintro e w2 ⟨br,hkr,hb2,V2,rfl,hR2⟩;have hl2:(Bb br).length=ey.length:=by rw[A8];exact hkr.now.len
    obtain⟨g2,c2,rfl,hc2,_⟩:=hR2.ptr (by intro e;rw[e]at hl2;simp at hl2;omega);rw[hl2]at hR2 ⊢;have q1:=hR1.base g1 rfl;have q2:=hR2.base g2 rfl;have hzb1:=Hb1.out.size;have hzb2:=hb2.size;have hR2':=(hR2.keepN (T0:=fun _=>False) (b':=wd.heap.size) hzb1 (fun i hi=>hi) (Nat.le_refl _) fun _ _ _=>rfl);have hok: ∀k ∈ ex++ey,Co 4 T k:=fun k hk=>(List.mem_append.1 hk).elim (okx.2.2 k) (oky.2.2 k);have hfl:Bg (ex++ey)=Bi (.inner ex)++Bi (.inner ey):=Be _ _;have HP:=qz (Acm (fun i=>S i/\i<wd.heap.size) T wd.heap.size g1 g2 c1 c2 ex ey bl br w2 (hR1.below hb2) hR2' (Hkl.out.below (Hb1.out.trans (hb2.mono hzb1))) (hkr.below hb2) (fun i hi=>hi.2) (by omega) (by omega) ⟨okx.1,okx.2.1⟩ ⟨oky.1,oky.2.1⟩ (by simpa using h3) (by rw[hfl];exact ha) hok (by omega) (by rw[hfl];exact hN));have Hw12:Hid (Below wd.heap.size wd w2):=Hb1.out.trans (hb2.mono hzb1);clear hR1 hR2 hR2' hb2 hkr hc2 hl2 hok hfl;go_wp2_with (fail);(with_reducible refine(HP.out).mono ?_);rintro e W ⟨hbW,b1,q,rfl,hn1,hq⟩;have hWW:=Hw12.out.trans hbW;have hN1:Bm (fun j=>S j\/wd.heap.size<=j) W (Ft (.inner ex) (.inner ey)).1 b1:=hn1.mono fun j _ hj=>hj.imp (fun h=>h.1) fun h=>by omega
    have hQ:Pq (fun j=>S j\/wd.heap.size<=j) W (Ft (.inner ex) (.inner ey)).2 q:=hq.mono fun j _ hj=>hj.imp (fun h=>h.1) fun h=>by omega
    have hF:=Hfin.out W b1 hWW hN1;obtain⟨f0,f1,lgW,fz⟩:=Hcells.out W hWW;generalize (Ft (.inner ex) (.inner ey)).2=r2 at hQ hF
    cases r2 with
    |none=>
     have hq0:q=none:=hQ;subst hq0;have HD:=qz (Hdel.out W b1 hWW);have HF1:=qz (hF.1 rfl);clear hF hQ hN1 hn1 hq hWW hbW;go_wp2_with (fail);(with_reducible refine(HD.out).mono ?_);rintro e W' ⟨rfl,hR',hKB⟩;have HPP:=qz (HF1.out W' hR' hKB);clear hR' hKB;go_wp2;exact HPP.out
    |some m=>
     obtain⟨b2,rfl,hn2⟩:=hQ;have HPP:=qz (hF.2 m b2 rfl hn2);have y4: ¬P+1=P:=by omega
     clear hF hN1 hn1 hq hn2 hWW hbW;go_wp2;exact HPP.out
def Nr (S:Nat->Prop) (b:Nat) (o:Option Nd) (w:World) (e:Ending) (w':World):Prop:=Below w.heap.size w w'/\match o with
 |none=>e=.returned (.tuple #[.pointer (some ⟨b,0,none⟩),.bool false])
 |some x=> ∃b',e=.returned (.tuple #[.pointer (some ⟨b',0,none⟩),.bool true])/\Bm (fun i=>S i\/w.heap.size<=i) w' x b'
theorem Aoc {l:List Nd} {i:Nat} {x y:Nd} (hx:l[i]? =some x) (hy:l[i+1]? =some y):l=l.take i++x::y::l.drop (i+2):=by
 obtain⟨h1,e1⟩:=List.getElem?_eq_some_iff.1 hx;obtain⟨h2,e2⟩:=List.getElem?_eq_some_iff.1 hy;have e:=(List.take_append_drop i l).symm;rw[List.drop_eq_getElem_cons h1,e1,List.drop_eq_getElem_cons h2,e2]at e;exact e
theorem Ai1 {l:List Nd} {i:Nat} {x y:Nd} (ha:Ay (Bg l)) (hx:l[i]? =some x) (hy:l[i+1]? =some y):Ay (Bi x++Bi y)/\(Bi x++Bi y).length<=(Bg l).length/\Ab (Bi x)+Ab (Bi y)<=Ab (Bg l):=by
 have e:=Aoc hx hy;have hf:Bg l=Bg (l.take i)++((Bi x++Bi y)++Bg (l.drop (i+2))):=by
  conv=>lhs;rw[e]
  rw[Be];simp[Bg]
 rw[hf]at ha ⊢;refine⟨(List.pairwise_append.1 (List.pairwise_append.1 ha).2.1).1,by simp only[List.length_append];omega,by rw[Eh,Eh,Eh];omega⟩
theorem Adc (k:ByteArray) (w:World):Calls Tryz.prog 57 #[.pointer none,.string k] w fun e w'=>e=.returned (.tuple #[.pointer none,.bool false])/\Below w.heap.size w w':=by
 obtain⟨PO,hPO⟩: ∃P:Ending->World->Prop,(fun e w'=>e=.returned (.tuple #[.pointer none,.bool false])/\Below w.heap.size w w')=P:=⟨_,rfl⟩;rw[hPO];have HHt:=qz (Ku w);have HEn:=qz (Q9 w);have hPl:=Jy [] k none 0 0 w ⟨none,0,rfl,fun d hd=>(by cases hd), [],rfl,.inl rfl⟩ (by simp[Ay]) (by simp);rw[show Do k ([]:List A5)=0 from rfl,show Cb k ([]:List A5)=false from rfl]at hPl;obtain⟨HPl,HPO⟩:=hid2 hPl hPO;clear hPl hPO;go_enter Tryz.func57,Tryz.ntmps57;go_wp2_with (fail);(with_reducible refine(HHt.out).mono ?_);rintro e w1 ⟨rfl,rfl⟩;go_wp2_with (fail);(with_reducible refine(HEn.out).mono ?_);rintro e w1 ⟨rfl,rfl⟩;go_wp2_with (fail);(with_reducible refine(HPl.out).mono ?_);rintro e w2 ⟨rfl,hb2⟩;have HP:Hid (PO (.returned (.tuple #[.pointer none,.bool false])) w2):=by
  show PO _ _;rw[<-HPO.out];exact⟨rfl,hb2⟩
 clear hb2;go_wp2;exact HP.out
theorem Adb (S:Nat->Prop) (es:List A5) (b:Nat) (k:ByteArray) (w:World) (h:Cd w w.heap.size (.leaf es) b) (h1:1<=es.length) (h8:es.length<=8) (ha:Ay es) (hb:Ab es<=100000000):
 Calls Tryz.prog 57 #[.pointer (some ⟨b,0,none⟩),.string k] w (Nr S b (Jf 0 (.leaf es) k) w):=by
 obtain⟨PO,hPO⟩: ∃P:Ending->World->Prop,Nr S b (Jf 0 (.leaf es) k) w=P:=⟨_,rfl⟩;rw[hPO];have hHt:=Cx h;rw[show Ms (.leaf es)=0 from by simp[Ms]]at hHt;have HEn:=qz (Jd h (by omega) hb);have ho:Jf 0 (.leaf es) k=if Cb k es=true then some (.leaf (C1 k es))else none:=by
  simp only[Jf];rw[show Bi (.leaf es)=es from rfl,Abr ha]
 obtain⟨HHt,HPO,Ho⟩:=hid3 hHt hPO ho;clear hHt hPO ho;clear h;go_enter Tryz.func57,Tryz.ntmps57;go_wp2_with (fail);(with_reducible refine(HHt.out).mono ?_);rintro e w1 ⟨rfl,rfl⟩;go_wp2_with (fail);(with_reducible refine(HEn.out).mono ?_);rintro e w1 ⟨hb1,g,rfl,hR⟩;have HPl:=qz (Jy es k (some ⟨g,0,none⟩) es.length es.length w1 hR.close ha (by omega));obtain⟨Hb1,HR⟩:=hid2 hb1 hR;clear hb1 hR;go_wp2_with (fail);(with_reducible refine(HPl.out).mono ?_);rintro e w2 ⟨rfl,hb2⟩;have hw2:=Hb1.out.trans (hb2.mono Hb1.out.size);have hR2:=HR.out.below hb2;by_cases hh:Cb k es=true
 . have hlt:=Agi hh;have hce:=Aj4 ha hh;have hda:=M0 (k:=k) ha;have hdl:=S8 k es;have hdb:=L3 k es;obtain⟨M,hM⟩: ∃M,es.length=M+1:=⟨es.length - 1,by omega⟩;rw[hh];generalize Do k es=I at hlt hce ⊢;have hD:=Aea _ w.heap.size g es.length es.length I M (dO es) w2 hR2 (by rw[Av];exact hM) (by omega) (by omega);have e1:(dO es).take I++(dO es).drop (I+1)=dO (C1 k es):=by rw[hce,Bo,Bo,List.map_append,List.map_take,List.map_drop]
   rw[e1]at hD;have hw1:IntKind.i64.wrap ((I:Int)+1)=(I:Int)+1:=IntWalk.i64_in _ (by omega);have hgb:=(hR2.base g rfl).1;have hce2:(C1 k es).length=M:=by
    rw[hce,List.length_append,List.length_take,List.length_drop];omega
   obtain⟨HD,Hw2,Hda,Hdb,Hce2,HM⟩:=hid6 hD hw2 hda hdb hce2 hM;clear hD hw2 hda hdb hce2 hM;clear hR2 hb2 hce e1;go_wp2_with (fail);(with_reducible refine(HD.out).mono ?_);rintro e w3 ⟨rfl,hR3,hk3⟩;have Hw3:Hid (Below w.heap.size w w3):=Hw2.out.trans (hk3.below (fun j hj=>by subst hj;exact hgb) Hw2.out.size);have HC:=qz (Ef S (C1 k es) (some ⟨g,0,none⟩) M es.length w3 hR3.close Hda.out (by omega) (by have:=Hdb.out;omega));clear hR3 hk3;go_wp2_with (fail);(with_reducible refine(HC.out).mono ?_);rintro e w4 ⟨hb4,b4,rfl,hN4⟩;have HP:Hid (PO (.returned (.tuple #[.pointer (some ⟨b4,0,none⟩),.bool true])) w4):=by
    show PO _ _;rw[<-HPO.out,Ho.out,if_pos hh];exact⟨Hw3.out.trans (hb4.mono Hw3.out.size),b4,rfl,hN4.mono (Fq Hw3.out.size)⟩
   clear hb4 hN4;go_wp2;exact HP.out
 . have hf:Cb k es=false:=by simpa using hh
   rw[hf];have HP:Hid (PO (.returned (.tuple #[.pointer (some ⟨b,0,none⟩),.bool false])) w2):=by
    show PO _ _;rw[<-HPO.out,Ho.out,if_neg hh];exact⟨hw2,rfl⟩
   generalize Do k es=I;clear hw2 hR2 hb2;go_wp2;exact HP.out
theorem Add (S:Nat->Prop) (T:Nat) (ks:List Nd) (lo b:Nat) (k:ByteArray) (w:World) (hS:Bm S w (.inner ks) b) (hn:Co lo (T+1) (.inner ks)) (hlo:2<=lo) (ha:Ay (Bg ks)) (hT:T<=100000) (hN:(Bg ks).length<=100000000)
 (hb:Ab (Bg ks)<=100000000) (hI0: ∀(S':Nat->Prop) (x:Nd) (b':Nat) (W:World),Bm S' W x b'->Co 4 T x->Ay (Bi x)->(Bi x).length<=100000000->Ab (Bi x)<=100000000->Calls Tryz.prog 57 #[.pointer (some ⟨b',0,none⟩),.string k] W (Nr S' b' (Jf T x k) W)):
 Calls Tryz.prog 57 #[.pointer (some ⟨b,0,none⟩),.string k] w (Nr S b (Jf (T+1) (.inner ks) k) w):=by
 have h:Bm (fun i=>S i/\i<w.heap.size) w (.inner ks) b:=hS.mono fun i hi h=>⟨h,hi⟩;clear hS;obtain⟨x,hx,eg,hxo,hxa,hxl,hxb,hy⟩:=Ab0 k hlo hn ha;have hht:(Ms (.inner ks):Int)=(T:Int)+1:=by rw[Mc (.inl (by omega)) hn];rfl
 simp only[Co]at hn;obtain⟨hn2,hn8,hnk⟩:=hn;have hne: ∀k ∈ ks,Bi k≠ []:=fun y hy=>K9 (by omega) (hnk y hy);obtain⟨PO,hPO⟩: ∃P:Ending->World->Prop,Nr S b (Jf (T+1) (.inner ks) k) w=P:=⟨_,rfl⟩;rw[hPO];have ho:(Jf T x k=none->Jf (T+1) (.inner ks) k=none)/\ ∀y,Jf T x k=some y->Jf (T+1) (.inner ks) k=some (Cu (if Bh y<4 then G2 (ks.set (An ks k) y) (An ks k)else ks.set (An ks k) y)):=by
  refine⟨fun h=> ?_,fun y h=> ?_⟩
  . simp only[Jf];rw[eg,h]
  . simp only[Jf];rw[eg,h]
 have hHt:=Cx h.now;rw[hht]at hHt;have hz:(((T:Int)+1)==0)=false:=beq_eq_false_iff_ne.2 (by omega);have HKi:=qz (Fr h (by omega) (by omega));have hlt:An ks k<ks.length:=(List.getElem?_eq_some_iff.1 hx).1;obtain⟨HHt,HPO,HI0,Ho,Hy⟩:=hid5 hHt hPO hI0 ho hy;clear hHt hPO hI0 ho hy;clear h hht eg;go_enter Tryz.func57,Tryz.ntmps57;go_wp2_with (fail);(with_reducible refine(HHt.out).mono ?_);rintro e w1 ⟨rfl,rfl⟩;go_wp2_with (fail);(with_reducible refine(HKi.out).mono ?_);rintro e w1 ⟨bs,hks,hb1,V,rfl,hR⟩;have hbl:=hks.now.len;have hbl2:(Bb bs).length=ks.length:=by rw[A8];exact hbl
 obtain⟨g,c,rfl,hcn,hg1,hg2⟩:=hR.ptr (by intro e;rw[e]at hbl2;simp at hbl2;omega);rw[hbl2]at hR hcn ⊢;have hks1:=hks.below hb1;have HWh:=qz (Mk ks bs k (some ⟨g,0,none⟩) ks.length c w1 hR.close hks1.now ha hne (by omega));obtain⟨HR,Hks1,Hb1⟩:=hid3 hR hks1 hb1;clear hR hks1 hb1;clear hks hbl2;go_wp2_with (fail);(with_reducible refine(HWh.out).mono ?_);rintro e w2 ⟨rfl,hb2⟩;have Hbw2:=qz (Hb1.out.trans (hb2.mono Hb1.out.size));have hR2:=HR.out.below hb2;have hks2:=Hks1.out.below hb2;generalize An ks k=P at hx hlt Ho Hy ⊢;obtain⟨bx,hbx,hnx⟩:=hks2.at_ hx;have s1:=hR2.ptrAt hbx;have hCx:=HI0.out _ x bx w2 hnx hxo hxa (by omega) (by omega);have lg2:g<w2.heap.size:=(hR2.base g rfl).2;have y1:(P:Int)<(ks.length:Int):=by omega
 have y2:(0:Int)<=(P:Int):=by omega
 obtain⟨HCx,HR2,Hks2⟩:=hid3 hCx hR2 hks2;clear hCx hR2 hks2;clear hnx hbx hb2 HR Hks1 HWh HKi HI0 HHt;go_wp2_with (fail);(with_reducible refine(HCx.out).mono ?_);rintro e w4 ⟨hb4,he⟩;have hbw4:=Hbw2.out.trans (hb4.mono Hbw2.out.size);have hR4:=HR2.out.below hb4;have hks4:=Hks2.out.below hb4
 cases hr:Jf T x k with
 |none=>
  rw[hr]at he
  cases he
  have Ho:=qz (Ho.out.1 hr);have HP:Hid (PO (.returned (.tuple #[.pointer (some ⟨b,0,none⟩),.bool false])) w4):=by
   show PO _ _;rw[<-HPO.out,Ho.out];exact⟨hbw4,rfl⟩
  clear hbw4 hR4 hks4 hb4 hr;go_wp2;exact HP.out
 |some y=>
  rw[hr]at he;have ho:=Ho.out.2 y hr;obtain⟨bA,rfl,hnA⟩:=he;obtain⟨hyo,hset,hoth,hm1,hm2⟩:=Hy.out y hr;have lg:g<w4.heap.size:=Nat.lt_of_lt_of_le lg2 hb4.size;have f0:w4.cell? ⟨g,P,none⟩=some (.pointer (some ⟨bx,0,none⟩)):=(hb4.cell (p:=⟨g,P,none⟩) lg2).trans s1;obtain⟨cur,hbg⟩:=hR4.blk;have fz:=hbg.frozen;have hgw:=(hR4.base g rfl).1;have hgi: ∀i,((S i/\i<w.heap.size)\/w2.heap.size<=i)->i≠g:=fun i i1=>by
   rcases i1 with⟨_,i1⟩|i1<;>omega
  obtain⟨w5,hw5⟩: ∃W,w4.setCell ⟨g,P,none⟩ (.pointer (some ⟨bA,0,none⟩))=W:=⟨_,rfl⟩;have hKB5:KB (fun j=>j=g) w4 w5:=hw5▸KB.set (S:=fun j=>j=g) w4 ⟨g,P,none⟩ rfl _;have hsz5:w5.heap.size=w4.heap.size:=by rw[<-hw5];simp[World.setCell]
  have hnA5:Bm (fun i=>(S i/\i<w.heap.size)\/w2.heap.size<=i) w5 y bA:=hnA.later hKB5.size fun i i1 i2=>hKB5.block i i2 (hgi i i1);have hks5:=(hks4.later hKB5.size fun i i1 i2=>hKB5.block i i2 (hgi i (.inl i1))).mono (T:=fun i=>(S i/\i<w.heap.size)\/w2.heap.size<=i) fun i _ hi=> .inl hi;have hkA5:=hks5.set P hnA5;have hR5:=hR4.put1 (i:=P) (p:=bA) (by omega);rw[hw5]at hR5;have hB5:Below w.heap.size w w5:=hbw4.trans (hKB5.below (fun j hj=>by subst hj;exact hgw) hbw4.size);have hzw2:=Hbw2.out.size;have hasc5:Ay (Bg (ks.set P y)):=by rw[hset];exact M0 ha
  have hlen5:(Bg (ks.set P y)).length<=100000000:=by rw[hset];exact Nat.le_trans (S8 _ _) hN
  have hbk5:Ab (Bg (ks.set P y))<=100000000:=by rw[hset];exact Nat.le_trans (L3 _ _) hb
  have hSz:=Je hnA5.now (by have:=(Gf hyo).2;omega);have hsl:=(Gf hyo);have hinn: ∀(W:World) (R:List Nd) (br:List Nat) (a:Option Addr) (n c:Nat) (S3:Nat->Prop),Below w.heap.size w W->Ag W W.heap.size (.row 1 (Bb br)) [.slice a n c]->Ar S3 W R br->(∀i,S3 i->i<W.heap.size->(S i\/w.heap.size<=i))->Bg R=C1 k (Bg ks)->(∀z ∈ R,Co 4 T z)->1<=R.length->R.length<=8->Jf (T+1) (.inner ks) k=some (Cu R)->Calls Tryz.prog 55 #[.slice a n c] W fun e W'=> ∃b',e=.returned (.pointer (some ⟨b',0,none⟩))/\PO (.returned (.tuple #[.pointer (some ⟨b',0,none⟩),.bool true])) W':=fun W R br a n c S3 hW hRo hK hS3 hfl hok h1 h8 he=>by
   refine(Df S3 T R br a n c W hRo hK (by rw[hfl];exact M0 ha) hok h1 h8 (by omega) (by rw[hfl];exact Nat.le_trans (S8 _ _) (by omega))).mono ?_;rintro e W' ⟨hb',b',rfl,hN'⟩;refine⟨b',rfl, ?_⟩;rw[<-HPO.out,he];refine⟨hW.trans (hb'.mono hW.size),b',rfl,(hN'.mono (T:=fun i=>i<W.heap.size/\S3 i\/W.heap.size<=i) fun i hi hh=> ?_).mono fun i hi hh=> ?_⟩
   . rcases Nat.lt_or_ge i W.heap.size with hl|hl
     . rcases hh with hh|hh
       . exact .inl ⟨hl,hh⟩
       . exact .inr hh
     . exact .inr hl
   . rcases hh with⟨h1,h2⟩|hh
     . exact hS3 i h2 h1
     . exact .inr (Nat.le_trans hW.size hh)
  have hlks:(ks.set P y).length=ks.length:=List.length_set;by_cases h4:Bh y<4
  . have hmd: ∃x' y',(ks.set P y)[P - 1]? =some x'/\(ks.set P y)[P - 1+1]? =some y'/\Co 3 T x'/\Co 3 T y'/\7<=Bh x'+Bh y'/\(Bh x'=3\/Bh y'=3):=by
     by_cases hp0:P=0
     . subst hp0;obtain⟨z,hz⟩: ∃z,ks[1]? =some z:=⟨_,List.getElem?_eq_getElem (by omega)⟩;have hzo:=hoth 1 z (by omega) hz;have:=(Gf hzo).1;exact⟨y,z,by rw[List.getElem?_set_self (by omega)],by rw[List.getElem?_set_ne (by omega)];exact hz,hyo,Mg (by omega) hzo,by omega,.inl (by omega)⟩
     . obtain⟨z,hz⟩: ∃z,ks[P - 1]? =some z:=⟨_,List.getElem?_eq_getElem (by omega)⟩;have hzo:=hoth (P - 1) z (by omega) hz;have:=(Gf hzo).1;exact⟨z,y,by rw[List.getElem?_set_ne (by omega)];exact hz,by rw[show P - 1+1=P from by omega,List.getElem?_set_self (by omega)],Mg (by omega) hzo,hyo,by omega,.inr (by omega)⟩
    obtain⟨x',y',hx',hy',ox',oy',h7',h3'⟩:=hmd;obtain⟨t1,t2,t3⟩:=Ai1 hasc5 hx' hy';obtain⟨m1,m2,m3,m4⟩:=hm1 h4;rw[if_pos h4]at ho;have Ho:=qz ho;clear ho;have hMd:=fun(W:World) (hW:Below w5.heap.size w5 W)=>Ae1 (fun i=>(S i/\i<w.heap.size)\/w2.heap.size<=i) T w.heap.size g c P (P - 1) (ks.set P y) (bs.set P bA) x' y' W (by rw[hlks];exact hR5.below hW) (hkA5.below hW) (fun hc=>hgi g hc rfl) (Nat.le_trans hB5.size hW.size) (by omega) rfl hx' hy' (by omega) ox' oy' h7' h3' t1 (by omega) (by omega) (by omega);rw[hlks]at hMd;have y4:((Bh y:Nat):Int)<4:=by omega
    obtain⟨HMd,HSz,Hinn,HB5,M2⟩:=hid5 hMd hSz hinn hB5 m2;clear hMd hSz hinn hB5 m2;have Hw5:=qz hw5;clear hnA5 hks5 hkA5 hR5 hbw4 hR4 hks4 hb4 hnA hKB5 hbg hm1 hm2 hoth Hy HCx HR2 Hks2 t1 t2 t3 hx' hy' ox' oy' h7' h3' hasc5 hlen5 hbk5 hr hw5;go_upto_region 13 with(fail);rw[Hw5.out];clear f0 fz lg;go_wp2_with (fail);(with_reducible refine(HSz.out).mono ?_);rintro e w6 ⟨rfl,hb6⟩;have HC:=qz (HMd.out w6 hb6);have hz6:=hb6.size;have Hw6:=qz (HB5.out.trans (hb6.mono HB5.out.size));clear hb6;generalize (Bh y)=sy at y4 hsl;go_wp2_with (fail);(with_reducible refine(HC.out).mono ?_);rintro e w7 ⟨hk7,V7,bs7,rfl,hr7,hn7⟩;have hw7:Below w.heap.size w w7:=Hw6.out.trans (hk7.below (fun j hj=>by subst hj;exact hgw) Hw6.out.size);obtain⟨N7,hN7⟩: ∃N,(Bb bs7).length=N:=⟨_,rfl⟩;obtain⟨a7,c7,rfl⟩:=hr7.slice_n hN7;have hC2:=Hinn.out w7 _ bs7 a7 N7 c7 _ hw7 hr7.close hn7 (fun i hi _=>by
     rcases hi with(hi|hi)|hi
     . exact .inl hi.1
     . exact .inr (by omega)
     . exact .inr (Nat.le_trans Hw6.out.size hi)) m1 M2.out m3 m4 Ho.out
    have HC2:=qz hC2;clear hC2;clear hr7 hn7 hk7 hN7 hw7 m1 m3 m4;go_wp2_with (fail);(with_reducible refine(HC2.out).mono ?_);rintro e w8 ⟨b8,rfl,hP⟩;have HP:=qz hP;clear hP;go_wp2;exact HP.out
  . have m2:=hm2 h4;rw[if_neg h4]at ho;have Ho:=qz ho;clear ho;have y4: ¬((Bh y:Nat):Int)<4:=by omega
    have HRc:=qz (fun(W:World) (hW:Below w5.heap.size w5 W)=>(hR5.below hW).close);have Hkc:=qz (fun(W:World) (hW:Below w5.heap.size w5 W)=>hkA5.below hW);obtain⟨HSz,Hinn,HB5,M2,Hset,Hlks⟩:=hid6 hSz hinn hB5 m2 hset hlks;clear hSz hinn hB5 m2 hset hlks;have Hw5:=qz hw5;clear hnA5 hks5 hkA5 hR5 hbw4 hR4 hks4 hb4 hnA hKB5 hbg hm1 hm2 hoth Hy HCx HR2 Hks2 hasc5 hlen5 hbk5 hr hw5;go_upto_region 13 with(fail);rw[Hw5.out];clear f0 fz lg;go_wp2_with (fail);(with_reducible refine(HSz.out).mono ?_);rintro e w6 ⟨rfl,hb6⟩;have hw6:=HB5.out.trans (hb6.mono HB5.out.size);have hC2:=Hinn.out w6 (ks.set P y) (bs.set P bA) (some ⟨g,0,none⟩) ks.length c _ hw6 (HRc.out w6 hb6) (Hkc.out w6 hb6) (fun i hi _=>by
     rcases hi with hi|hi
     . exact .inl hi.1
     . exact .inr (by omega)) Hset.out M2.out (by rw[Hlks.out];omega) (by rw[Hlks.out];omega) Ho.out
    have HC2:=qz hC2;clear hC2;clear hw6 hb6;generalize (Bh y)=sy at y4 hsl;go_wp2_with (fail);(with_reducible refine(HC2.out).mono ?_);rintro e w8 ⟨b8,rfl,hP⟩;have HP:=qz hP;clear hP;go_wp2;exact HP.out
theorem Vb (k:ByteArray): ∀(T:Nat) (S:Nat->Prop) (n:Nd) (lo b:Nat) (w:World),Bm S w n b->Co lo T n->0<lo->(0<T->2<=lo)->Ay (Bi n)->T<=100000->(Bi n).length<=100000000->Ab (Bi n)<=100000000->
 Calls Tryz.prog 57 #[.pointer (some ⟨b,0,none⟩),.string k] w (Nr S b (Jf T n k) w)
 |0,S,.leaf es,lo,b,w,h,hn,hlo,_,ha,_,_,hb=>by
  simp only[Co]at hn;exact Adb S es b k w h.now (by omega) hn.2 ha hb
 |0,_,.inner ks,_,_,_,_,hn,_,_,_,_,_,_=>absurd hn (by simp[Co])
 |T+1,_,.leaf es,_,_,_,_,hn,_,_,_,_,_,_=>absurd hn (by simp[Co])
 |T+1,S,.inner ks,lo,b,w,h,hn,_,h2,ha,hT,hN,hb=>
  Add S T ks lo b k w h hn (h2 (by omega)) ha (by omega) hN hb fun S' x b' W hx hxo hxa hxl hxb=>Vb k T S' x 4 b' W hx hxo (by omega) (fun _=>by omega) hxa (by omega) hxl hxb
theorem Cs {fn:Func} {t u:Tmp} {tmps:Array Value} {W:World} {R:Nat} {a:Value} (h:fn.results= #[.cell t 26,.tmp u]) (hp:tmps.getD t undef=.pointer (some ⟨R,0,none⟩)) (hx:W.cell? ⟨R,0,none⟩=some a):
 (results fn tmps).run Tryz.prog W=.ok (.tuple #[.agg #[a],tmps.getD u undef]) W:=by
 have hp':tmps[t]?.getD undef=.pointer (some ⟨R,0,none⟩):=by simpa using hp
 simp[results,h,hp',go_sem,hx]
def Yj (S:Nat->Prop) (t:Option (Nat×Nd)×Bool) (w:World) (e:Ending) (w':World):Prop:=Below w.heap.size w w'/\ ∃p,e=.returned (.tuple #[.agg #[.pointer p],.bool t.2])/\Eo (fun i=>S i\/w.heap.size<=i) w' t.1 p
theorem We (S:Nat->Prop) (t:Option (Nat×Nd)) (p:Option Addr) (k:ByteArray) (w:World) (hS:Eo S w t p) (hok:Pb t) (hT:htT t<=90000) (hN:(Ba t).length<=100000000) (hb:Ab (Ba t)<=100000000):
 Calls Tryz.prog 30 #[.agg #[.pointer p],.string k] w (Yj S (Mh t k) w):=by
 have ht:=hS.mono (T:=fun i=>S i/\i<w.heap.size) fun i hi h=>⟨h,hi⟩;clear hS;obtain⟨PO,hPO⟩: ∃P:Ending->World->Prop,Yj S (Mh t k) w=P:=⟨_,rfl⟩;rw[hPO];obtain⟨w3,hw3⟩: ∃w3,((w.alloc (.cells #[.pointer p] 26)).alloc (.cells #[.pointer none] 26))=w3:=⟨_,rfl⟩;have hb3:Below w.heap.size w w3:=hw3▸((Aa w (.cells #[.pointer p] 26)).alloc (by simp) _);have hx3:Aj w3 (w.heap.size+1) 26 #[.pointer none]:=by
  have:=Aj.new (w.alloc (.cells #[.pointer p] 26)) 26 #[.pointer none]
  rwa [World.size_alloc,hw3]at this
 have hx1:Aj w3 w.heap.size 26 #[.pointer p]:=hw3▸(Aj.new w 26 #[.pointer p]).alloc _;have hz3:w3.heap.size=w.heap.size+1+1:=by rw[<-hw3];simp
 have e0:=hx1.cell 0;have m1:=hx1.lt;have ht3:=ht.below hb3;have hfin: ∀(W:World) (q:Option Addr),Below w.heap.size w W->Eo (fun i=>(S i/\i<w.heap.size)\/w3.heap.size<=i) W (Mh t k).1 q->Aj W (w.heap.size+1) 26 #[.pointer none]->PO (.returned (.tuple #[.agg #[.pointer q],.bool (Mh t k).2])) (W.setCell ⟨w.heap.size+1,0,none⟩ (.pointer q))/\(W.setCell ⟨w.heap.size+1,0,none⟩ (.pointer q)).cell? ⟨w.heap.size+1,0,none⟩=some (.pointer q):=fun W q hW hq hx=>by
  refine⟨?_,(hx.set_ 0 (.pointer q)).cell 0⟩;rw[<-hPO];exact⟨hW.setCell (p:=⟨w.heap.size+1,0,none⟩) (by simp) _,q,rfl,(hq.later (by simp[World.setCell]) fun i i1 _=>Below.heap_setCell _ _ _ _ (by show i≠w.heap.size+1;rcases i1 with⟨_,i1⟩|i1<;>omega)).mono fun i _ hi=>hi.imp (fun h=>h.1) fun h=>by omega⟩
 clear hx1
 cases t with
 |none=>
  cases ht
  have HC:=qz (Adc k w3);obtain⟨Hfin,Hb3,Hx3⟩:=hid3 hfin hb3 hx3;clear hfin hb3 hx3;have Hw3:=qz hw3;clear hPO ht3;go_enter Tryz.func30,Tryz.ntmps30;go_wp2_with (fail);(with_reducible refine(HC.out).mono ?_);rintro e w4 ⟨rfl,hb4⟩;have hw4:=Hb3.out.trans (hb4.mono Hb3.out.size);have hx4:=Hx3.out.below hb4 Hx3.out.lt;have d0:=hx4.cell 0;have fz:=hx4.frozen;have lx:=hx4.lt;obtain⟨hP,hxf⟩:=Hfin.out w4 none hw4 rfl hx4;have HCo:=qz (Un w4);obtain⟨HP,Hxf⟩:=hid2 hP hxf;clear hP hxf;clear hb4 hw4 hx4 e0 m1 hw3;go_wp2_with (fail);(with_reducible refine(HCo.out).mono ?_);rintro e w5 ⟨rfl,rfl⟩;go_wp2_with (fail);exact bodyPost_ret (Cs rfl rfl Hxf.out) rfl HP.out
 |some t=>
  obtain⟨h,n⟩:=t;obtain⟨hn,ha⟩:=hok;obtain⟨b,rfl,hb'⟩:=ht3;obtain⟨l1,l2,l3⟩:=Fb h;have HC:=qz (Vb k h _ n (F7 h) b w3 hb' hn l2 l3 ha (by have:h<=90000:=hT;omega) hN hb);have hne:Bi n≠ []:=K9 l2 hn;have hoT:Mh (some (h,n)) k=match Jf h n k with
   |none=>(some (h,n),false)
   |some x=>(if(Bi x).isEmpty then none else some (Ms x,x),true):=rfl
  have Hok2:=qz (Tf h (k:=k) l2 l3 hn ha);obtain⟨Hfin,Hb3,Hx3,Hb',HoT⟩:=hid5 hfin hb3 hx3 hb' hoT;clear hfin hb3 hx3 hb' hoT;have Hw3:=qz hw3;clear hPO ht;go_enter Tryz.func30,Tryz.ntmps30;go_wp2_with (fail);(with_reducible refine(HC.out).mono ?_);rintro e w4 ⟨hb4,he⟩;have hw4:=Hb3.out.trans (hb4.mono Hb3.out.size);have hx4:=Hx3.out.below hb4 Hx3.out.lt;have d0:=hx4.cell 0;have fz:=hx4.frozen;have lx:=hx4.lt
  cases hr:Jf h n k with
  |none=>
   rw[hr]at he;have e2:Mh (some (h,n)) k=(some (h,n),false):=by rw[HoT.out,hr]
   cases he
   have hn4:=Hb'.out.below hb4;have HCo:=qz (G3 hn4.now);obtain⟨hP,hxf⟩:=Hfin.out w4 (some ⟨b,0,none⟩) hw4 (by rw[e2];exact⟨b,rfl,hn4.mono fun i _ hi=> .inl hi⟩) hx4;rw[e2]at hP;have hz:(((Bi n).length:Int)==0)=false:=beq_eq_false_iff_ne.2 (by have:=List.length_pos_iff.2 hne;omega);obtain⟨HP,Hxf⟩:=hid2 hP hxf;clear hP hxf;clear hb4 hw4 hx4 e0 m1 hw3 hn4 e2 hr;generalize (Bi n).length=N at HCo hz;go_wp2_with (fail);(with_reducible refine(HCo.out).mono ?_);rintro e w5 ⟨rfl,rfl⟩;go_wp2_with (fail);exact bodyPost_ret (Cs rfl rfl Hxf.out) rfl HP.out
  |some x=>
   rw[hr]at he;have e2:Mh (some (h,n)) k=(if(Bi x).isEmpty then none else some (Ms x,x),true):=by rw[HoT.out,hr]
   obtain⟨bA,rfl,hnA⟩:=he;have hCo:=G3 hnA.now;by_cases h0:Bi x= []
   . have e3:Mh (some (h,n)) k=(none,true):=by rw[e2,h0];rfl
     obtain⟨hP,hxf⟩:=Hfin.out w4 none hw4 (by rw[e3];rfl) hx4;rw[e3]at hP;rw[h0]at hCo;obtain⟨HP,Hxf,HCo⟩:=hid3 hP hxf hCo;clear hP hxf hCo;clear hb4 hw4 hx4 e0 m1 hw3 hnA e2 hr e3 h0;go_wp2_with (fail);(with_reducible refine(HCo.out).mono ?_);rintro e w5 ⟨rfl,rfl⟩;go_wp2_with (fail);exact bodyPost_ret (Cs rfl rfl Hxf.out) rfl HP.out
   . have e3:Mh (some (h,n)) k=(some (Ms x,x),true):=by
      rw[e2]
      cases hf:Bi x with
      |nil=>exact absurd hf h0
      |cons a r=>rfl
     obtain⟨hP,hxf⟩:=Hfin.out w4 (some ⟨bA,0,none⟩) hw4 (by rw[e3];exact⟨bA,rfl,hnA⟩) hx4;rw[e3]at hP;have hz:(((Bi x).length:Int)==0)=false:=beq_eq_false_iff_ne.2 (by have:=List.length_pos_iff.2 h0;omega);obtain⟨HP,Hxf,HCo⟩:=hid3 hP hxf hCo;clear hP hxf hCo;clear hb4 hw4 hx4 e0 m1 hw3 hnA e2 hr e3 h0;generalize (Bi x).length=N at HCo hz;go_wp2_with (fail);(with_reducible refine(HCo.out).mono ?_);rintro e w5 ⟨rfl,rfl⟩;go_wp2_with (fail);exact bodyPost_ret (Cs rfl rfl Hxf.out) rfl HP.out
end Go.Proofs.YtkmcjfkokoidcaaGreatDoor
