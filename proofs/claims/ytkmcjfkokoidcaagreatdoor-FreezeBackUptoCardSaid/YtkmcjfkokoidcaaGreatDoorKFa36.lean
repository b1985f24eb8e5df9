/- Parts: tree.pair of nodes: the other ways. Condition: 3 to 8 each, one of them 3. -/
import Derived.Test.YtkmcjfkokoidcaaGreatDoorKFa30
set_option maxHeartbeats 20000000
set_option maxRecDepth 100000
namespace Go.Proofs.YtkmcjfkokoidcaaGreatDoor
open Go Go.RowKit
abbrev Aaq:TypeId:=55
theorem Aw.base {S:Nat->Prop} {w0 w:World} {l:List D} {cs:List Value} (h:Aw S w0 l cs) (hb:Below w0.heap.size w0 w):Aw (fun i=>S i/\i<w0.heap.size) w l cs:=fun w'' h1 h2=>
 Af.more (h w'' (Nat.le_trans hb.size h1) fun p p1 p2=>(h2 p ⟨p1,p2⟩ (Nat.lt_of_lt_of_le p2 hb.size)).trans (hb.cell p2)) hb.size
theorem Aw.mono {S T:Nat->Prop} {w:World} {l:List D} {cs:List Value} (h:Aw S w l cs) (hST: ∀i,i<w.heap.size->S i->T i):Aw T w l cs:=fun w'' h1 h2=>h w'' h1 fun p p1 p2=>h2 p (hST _ p2 p1) p2
theorem At.cut {S0:Nat->Prop} {b s g n c:Nat} {t:TypeId} {w:World} {l:List D} (h:At S0 b t s w l (.slice (some ⟨g,0,none⟩) n c)) (i:Nat) (hi:i<=l.length):
 ∃n1 n2,Bu w (g+1) s (some ⟨g,0,none⟩) i n1/\Bu w (g+1) s (some ⟨g,i*s,none⟩) (l.length - i) n2/\Aw (fun j=>S0 j/\(Value.slice (some ⟨g,0,none⟩) n c).ownBlock≠some j) w (l.take i) n1/\Aw (fun j=>S0 j/\(Value.slice (some ⟨g,0,none⟩) n c).ownBlock≠some j) w (l.drop i) n2:=by
 obtain⟨ns,h1,h2,h3⟩:=h;have hA:=h3.split h2 i;rcases h1.2 with⟨e,_⟩|⟨g',cap,cur,e,hbg,hg,hnc,hcm,hcs,hcx⟩
 . cases e
 . cases e
   have hb:Aj w g t cur:=hg;have hcell: ∀j u,ns[j]? =some u->w.cell? ⟨g,j,none⟩=some u:=fun j u hu=>by
    refine(hb.cell j).trans ?_;rw[<-Array.getElem?_toList];rw[<-hcx,List.getElem?_take]at hu
    split at hu
    . exact hu
    . cases hu
   have hl:=h1.1;have hm:i*s<=l.length*s:=Nat.mul_le_mul_right _ hi;refine⟨ns.take (i*s),ns.drop (i*s),⟨by rw[List.length_take];omega,fun _=>⟨_,rfl,by simp,fun j u hu=> ?_⟩⟩,⟨by rw[List.length_drop,hl,Nat.sub_mul],fun _=>⟨_,rfl,by simp,fun j u hu=> ?_⟩⟩,hA.1,hA.2⟩
   . rw[Bn,Nat.zero_add];rw[List.getElem?_take]at hu
     split at hu
     . exact hcell j u hu
     . cases hu
   . rw[Bn];rw[List.getElem?_drop]at hu;exact hcell _ u hu
def Lw (S0:Nat->Prop) (b:Nat) (w:World) (M:Nat) (V:Value) (l:List A5):Prop:=Aj w M Aaq #[V]/\At S0 b 63 7 w (dO l) V/\V.ownBlock≠some M
theorem Alk (k:ByteArray) (v:Val) (l:List A5):Cf k v l=l.take (Do k l)++ [(k,v)]++l.drop (if Cb k l=true then Do k l+1 else Do k l):=by
 rw[Qj];by_cases h:Cb k l=true
 . rw[if_pos h,if_pos h];have hlt:Do k l<l.length:=by
    unfold Cb at h;rcases Nat.lt_or_ge (Do k l) l.length with h1|h1
    . exact h1
    . rw[List.getElem?_eq_none h1]at h
      cases h
   rw[List.set_eq_take_append_cons_drop,if_pos hlt];simp
 . rw[if_neg h,if_neg h]
def SPb (S:Nat->Prop) (b:Nat) (r:Nd×Option Nd) (w:World) (e:Ending) (w':World):Prop:=Below b w w'/\ ∃b1 q,e=.returned (.tuple #[.pointer (some ⟨b1,0,none⟩),.pointer q])/\Bm (fun i=>S i\/w.heap.size<=i) w' r.1 b1/\Pq (fun i=>S i\/w.heap.size<=i) w' r.2 q
theorem At.entAt {S0:Nat->Prop} {b g n c q:Nat} {w:World} {l:List A5} (h:At S0 b 63 7 w (dO l) (.slice (some ⟨g,0,none⟩) n c)) {k:ByteArray} {v:Val} (hi:l[q]? =some (k,v)):
 ∃k' b' n' t' la ln lc oa on oc,Ah (fun i=>S0 i\/i=g) w (dV v) [.int .i64 k',.bool b',.int .i64 n',.string t',.slice la ln lc,.slice oa on oc]/\w.rangeAt g (q*7) [.string k,.int .i64 k',.bool b',.int .i64 n',.string t',.slice la ln lc,.slice oa on oc]:=by
 have h1:=h.closeIn;obtain⟨kk,bb,nn,tt,ll,oo⟩:=v;obtain⟨g',off,e,hg,la,lc,oa,oc,hv,c0,c1,c2,c3,c4,c5,c6⟩:=Fp h1 hi
 cases e
 rw[Nat.zero_add]at c0 c1 c2 c3 c4 c5 c6;refine⟨_,_,_,_,_,_,_,_,_,_,hv.mono fun i _ hi=>hi.imp id fun e=>(Option.some.inj e).symm,fun j u hj=> ?_⟩
 match j with
 |0=>cases hj;exact c0
 |1=>cases hj;exact c1
 |2=>cases hj;exact c2
 |3=>cases hj;exact c3
 |4=>cases hj;exact c4
 |5=>cases hj;exact c5
 |6=>cases hj;exact c6
 |j+7=>simp at hj
theorem Zr (S:Nat->Prop) (b gl gr:Nat) (l r:List A5) (w:World) (hl:At (fun i=>i≠gr) b 63 7 w (dO l) (.slice (some ⟨gl,0,none⟩) l.length l.length)) (hr:At (fun i=>i≠gl) b 63 7 w (dO r) (.slice (some ⟨gr,0,none⟩) r.length r.length)) (hne:gl≠gr) (hb:b<=w.heap.size)
 (h8:l.length<=8) (hr3:r.length=3) (h4:4<l.length) (ha:Ay (l++r)) (hbk:Ab l+Ab r<=100000000):
 Calls Tryz.prog 172 #[.slice (some ⟨gl,0,none⟩) l.length l.length,.slice (some ⟨gr,0,none⟩) r.length r.length,.func (.func 100) #[] #[]] w (SPb S b (Ic l r) w):=by
 obtain⟨PO,hPO⟩: ∃P:Ending->World->Prop,SPb S b (Ic l r) w=P:=⟨_,rfl⟩;rw[hPO];have he:Ic l r=(.leaf (l.take (l.length - 1)),some (.leaf (l.drop (l.length - 1)++r))):=by unfold Ic;rw[if_pos h4,List.dropLast_eq_take]
 obtain⟨M,hM⟩: ∃M,l.length=M+1:=⟨l.length - 1,by omega⟩;rw[show l.length - 1=M from by omega]at he;obtain⟨⟨k,v⟩,hx⟩: ∃v,l[M]? =some v:=⟨_,List.getElem?_eq_getElem (by omega)⟩;obtain⟨k',b',n',t',la,ln,lc,oa,on,oc,hv,r1⟩:=hl.entAt hx;have hdl:l.drop M= [(k,v)]:=by
  rw[List.drop_eq_getElem_cons (by omega),List.drop_of_length_le (by omega)];have:=(List.getElem?_eq_some_iff.1 hx).2;rw[this]
 rw[hdl]at he;have hbk2:Ab ([(k,v)]++r)<=100000000:=by
  have:=(Ii l M).2;rw[hdl]at this;rw[Eh];omega
 have hpw:=List.pairwise_append.1 ha;have hsp:=List.pairwise_append.1 (show Ay (l.take M++l.drop M)from by rw[List.take_append_drop];exact hpw.1);have ha2:Ay ([(k,v)]++r):=by
  refine List.pairwise_append.2 ⟨List.pairwise_singleton _ _,hpw.2.1,fun x hx' y hy=> ?_⟩;rw[List.mem_singleton.1 hx'];exact hpw.2.2 _ (List.mem_of_getElem? hx) y hy
 have hd1:dO (l.take M)=(dO l).take M:=by rw[Bo,Bo,List.map_take]
 have hl1:Ag w w.heap.size (.row 7 (dO (l.take M))) [.slice (some ⟨gl,0,none⟩) M l.length]:=hd1▸hl.close.cutL (i:=M) (by rw[Av];omega) l.length;have hC1:=fun(W:World) (hB:Below w.heap.size w W)=>Ef (fun _=>False) (l.take M) (some ⟨gl,0,none⟩) M l.length W ((hl1.below hB).more hB.size) hsp.1 (by rw[List.length_take];omega) (Nat.le_trans (Ii l M).1 (by omega));rw[hM]at hC1 ⊢;rw[hr3]at hr ⊢;have s0:w.cell? ⟨gl,M*7,none⟩=some (.string k):=by simpa using r1 0 _ rfl
 have s1:=r1 1 _ rfl;have s2:=r1 2 _ rfl;have s3:=r1 3 _ rfl;have s4:=r1 4 _ rfl;have s5:=r1 5 _ rfl;have s6:=r1 6 _ rfl;have y0:(4:Int)<(M:Int)+1:=by omega
 have y1:IntKind.i64.wrap ((M:Int)+1 - 1)=(M:Int):=by rw[IntWalk.i64_in _ (by omega)];omega
 have y2:(M:Int)<(M:Int)+1:=by omega
 have y3:(M:Int)<=(M:Int)+1:=by omega
 have lgl:=(hl.base gl rfl).2;have lgr:=(hr.base gr rfl).2;have hrb:=(hr.base gr rfl).1;obtain⟨Hl,Hr,HC1,HPO,He,Hv⟩:=hid6 hl hr hC1 hPO he hv;clear hl hr hC1 hPO he hv;clear hdl hpw hsp hd1 hl1 r1 hx;go_enter Tryz.func172,Tryz.ntmps172;go_upto_region 3 with(fail);refine wp_region_held_drew (S:=fun Y:World=>Y.cell? ⟨gl,M*7,none⟩=some (.string k)/\Y.cell? ⟨gl,M*7+1,none⟩=some (.int .i64 k')/\Y.cell? ⟨gl,M*7+2,none⟩=some (.bool b')/\Y.cell? ⟨gl,M*7+3,none⟩=some (.int .i64 n')/\Y.cell? ⟨gl,M*7+4,none⟩=some (.string t')/\Y.cell? ⟨gl,M*7+5,none⟩=some (.slice la ln lc)/\Y.cell? ⟨gl,M*7+6,none⟩=some (.slice oa on oc)) (by kernel_rfl) ⟨s0,s1,s2,s3,s4,s5,s6⟩ (fun hHeld=> ?_);have hbd:Below w.heap.size w w.drew:=Below.drew (Below.refl _ w);generalize w.drew=wd at hbd hHeld ⊢;refine tkH 0 hHeld ?_;refine tkH 1 hHeld ?_;refine tkH 2 hHeld ?_;refine tkH 3 hHeld ?_;refine tkH 5 hHeld ?_;refine tkH 6 hHeld ?_;refine tkH 7 hHeld ?_;refine tkH 8 hHeld ?_;refine tkH 9 hHeld ?_;refine tkH 10 hHeld ?_;have hS: ∀(W:World),Below w.heap.size w W->W.cell? ⟨gl,M*7,none⟩=some (.string k)/\W.cell? ⟨gl,M*7+1,none⟩=some (.int .i64 k')/\W.cell? ⟨gl,M*7+2,none⟩=some (.bool b')/\W.cell? ⟨gl,M*7+3,none⟩=some (.int .i64 n')/\W.cell? ⟨gl,M*7+4,none⟩=some (.string t')/\W.cell? ⟨gl,M*7+5,none⟩=some (.slice la ln lc)/\W.cell? ⟨gl,M*7+6,none⟩=some (.slice oa on oc):=fun W hB=>by
  have hc: ∀o,W.cell? ⟨gl,o,none⟩=w.cell? ⟨gl,o,none⟩:=fun o=>hB.cell (p:=⟨gl,o,none⟩) lgl;exact⟨(hc _).trans s0,(hc _).trans s1,(hc _).trans s2,(hc _).trans s3,(hc _).trans s4,(hc _).trans s5,(hc _).trans s6⟩
 obtain⟨HS,Hbd⟩:=hid2 hS hbd;clear hS hbd;refine rd2 4 11 (fun K hK=> ?gA) (fun K hK=> ?gB)
 case' gA=>
  go_simp;(with_reducible refine(HC1.out _ Hbd.out).mono ?_);rintro e w1 ⟨hb1,b1,rfl,hN1⟩;have hw1:=Hbd.out.trans (hb1.mono Hbd.out.size);refine hK.out _ _ (HS.out _ hw1) (fun hHeld=> ?_);clear hK K hb1
  try simp only[Act.put,tk1,tk2,tk3,tk4,tk5,tk6]
  have hb2:=Aa w1 (.cells #[.string k,.int .i64 k',.bool b',.int .i64 n',.string t',.slice la ln lc,.slice oa on oc] 63);have HX:=qz (Aj.new w1 63 #[.string k,.int .i64 k',.bool b',.int .i64 n',.string t',.slice la ln lc,.slice oa on oc]);have Hw2:=qz (hw1.trans (hb2.mono hw1.size));have HN2:=qz ((hN1.below hb2).mono (T:=fun i=>w.heap.size<=i) fun i _ hi=>hi.elim False.elim fun h=>Nat.le_trans Hbd.out.size h);have Hvb:=qz hw1.size;clear hb2 hw1 hN1;refine Ee 11 fun K hK=> ?_;go_simp;refine hK.out _ _ (HS.out _ Hw2.out) (fun hHeld=> ?_);clear hK K
  try simp only[Act.put,tk1,tk2,tk3,tk4,tk5,tk6]
  generalize w1.heap.size=vb at HX Hvb ⊢;generalize w1.alloc (.cells #[.string k,.int .i64 k',.bool b',.int .i64 n',.string t',.slice la ln lc,.slice oa on oc] 63)=W at HX Hw2 HN2 hHeld ⊢
 case' gB=>
  go_simp;have hb2:=Aa wd (.cells #[.string k,.int .i64 k',.bool b',.int .i64 n',.string t',.slice la ln lc,.slice oa on oc] 63);have hX:=Aj.new wd 63 #[.string k,.int .i64 k',.bool b',.int .i64 n',.string t',.slice la ln lc,.slice oa on oc];have hw1:=Hbd.out.trans (hb2.mono Hbd.out.size);have hvb:w.heap.size<=wd.heap.size:=Hbd.out.size;refine hK.out _ _ (HS.out _ hw1) (fun hHeld=> ?_);clear hK K hb2
  try simp only[Act.put,tk1,tk2,tk3,tk4,tk5,tk6]
  refine Ee 4 fun K hK=> ?_;go_simp;(with_reducible refine(HC1.out _ hw1).mono ?_);rintro e W ⟨hb1,b1,rfl,hN1⟩;have Hw2:=qz (hw1.trans (hb1.mono hw1.size));have HX:=qz (hX.below hb1 hX.lt);have HN2:=qz (hN1.mono (T:=fun i=>w.heap.size<=i) fun i _ hi=>hi.elim False.elim fun h=>Nat.le_trans hw1.size h);have Hvb:=qz hvb;clear hvb;clear hb1 hw1 hN1;refine hK.out _ _ (HS.out _ Hw2.out) (fun hHeld=> ?_);clear hK K
  try simp only[Act.put,tk1,tk2,tk3,tk4,tk5,tk6]
  generalize wd.heap.size=vb at HX Hvb ⊢
 all_goals
  clear HC1 Hbd;have hv2:Ah (fun i=>True/\(Value.slice (some ⟨gr,0,none⟩) r.length r.length).ownBlock≠some i) W (dP (k,v)) (.string k:: [.int .i64 k',.bool b',.int .i64 n',.string t',.slice la ln lc,.slice oa on oc]):=fun w'' q1 q2=>
   P1 ((Hv.out.below Hw2.out) w'' q1 fun p p1 p2=>q2 p ⟨trivial,fun e=>by
    have e2:gr=p.block:=Option.some.inj e;rcases p1 with p1|p1
    . exact p1 e2.symm
    . omega⟩ p2)
  have hrW:=(Hr.out.below Hw2.out).mono (T0:=fun _=>True) fun _ _=>trivial;rw[<-hr3]at hrW;have hI:=Aby b W gr 0 vb r (dP (k,v)) (.string k:: [.int .i64 k',.bool b',.int .i64 n',.string t',.slice la ln lc,.slice oa on oc]) hrW (Nat.le_trans hb Hw2.out.size) (Nat.zero_le _) (by omega) (C7 _) hv2 (fun j u hj=>(HX.out.cell j).trans (by rw[<-Array.getElem?_toList];exact hj));rw[hr3,show((0:Nat):Int)=0 from rfl]at hI;have hgW:gr<W.heap.size:=Nat.lt_of_lt_of_le lgr Hw2.out.size;have HI:=qz hI;clear hI;clear hv2 hrW HX;refine Ee 12 fun K hK=> ?_;go_simp;(with_reducible refine(HI.out).mono ?_);rintro e W2 ⟨V2,rfl,hr2,hg2⟩;have HBb:Hid (Below b w W2):=(Hw2.out.mono hb).grown hg2 (Nat.le_trans hb Hw2.out.size) (fun j hj=>by cases hj;exact(hrb));have e2:(dO r).take 0++ [dP (k,v)]++(dO r).drop 0=dO ([(k,v)]++r):=by simp[dO]
  rw[e2]at hr2;have l2:(dO ([(k,v)]++r)).length=4:=by rw[Av];simp[hr3]
  obtain⟨a2,c2,rfl⟩:=hr2.slice_n l2;have HC2:=qz (Ef (fun _=>False) ([(k,v)]++r) a2 4 c2 W2 hr2.close ha2 (by simp[hr3]) hbk2);have HN3:=qz (HN2.out.later hg2.size fun i h1 h2=>hg2.block i h2 (fun e=>by have:=Option.some.inj e;omega));have hcl: ∀o,W2.cell? ⟨gl,o,none⟩=W.cell? ⟨gl,o,none⟩:=fun o=>World.cell?_of_block (hg2.block gl (Nat.lt_of_lt_of_le lgl Hw2.out.size) (fun e=>hne (Option.some.inj e)));have hzW:=hg2.size;have hzw:=Hw2.out.size;refine hK.out _ _ (by
   obtain⟨a0,a1,a2,a3,a4,a5,a6⟩:=hHeld;exact⟨(hcl _).trans a0,(hcl _).trans a1,(hcl _).trans a2,(hcl _).trans a3,(hcl _).trans a4,(hcl _).trans a5,(hcl _).trans a6⟩) (fun hHeld=> ?_)
  clear hK K hr2 hg2 e2 l2 HI hcl
  try simp only[Act.put,tk1,tk2,tk3,tk4,tk5,tk6]
  refine Ee 13 fun K hK=> ?_;go_simp;(with_reducible refine(HC2.out).mono ?_);rintro e W3 ⟨hb3,b3,rfl,hN4⟩;have HP:Hid (PO (.returned (.tuple #[.pointer (some ⟨b1,0,none⟩),.pointer (some ⟨b3,0,none⟩)])) W3):=by
   show PO _ _;rw[<-HPO.out,He.out];exact⟨HBb.out.trans (hb3.mono (Nat.le_trans (Nat.le_trans hb hzw) hzW)),b1,_,rfl,(HN3.out.below hb3).mono (fun i _ h=> .inr h),b3,rfl,hN4.mono fun i _ h=> .inr (h.elim False.elim fun h=>Nat.le_trans (Nat.le_trans hzw hzW) h)⟩
  refine hK.out _ _ (by
   have hcl: ∀o,W3.cell? ⟨gl,o,none⟩=W2.cell? ⟨gl,o,none⟩:=fun o=>hb3.cell (p:=⟨gl,o,none⟩) (by show gl<_;omega);obtain⟨a0,a1,a2,a3,a4,a5,a6⟩:=hHeld;exact⟨(hcl _).trans a0,(hcl _).trans a1,(hcl _).trans a2,(hcl _).trans a3,(hcl _).trans a4,(hcl _).trans a5,(hcl _).trans a6⟩) (fun hHeld=> ?_)
  clear hK K hb3 hN4
  try simp only[Act.put,tk1,tk2,tk3,tk4,tk5,tk6]
  refine tkH 14 hHeld ?_;refine tkH 15 hHeld ?_;refine wpAnyH_done (by kernel_rfl) ?_ _;clear hHeld;go_wp2;exact HP.out
theorem Rv {a b:List Nd} (h:Ay (Bg (a++b))):Ay (Bg a)/\Ay (Bg b):=by
 rw[Be]at h;have:=List.pairwise_append.1 h;exact⟨this.1,this.2.1⟩
theorem Rw {a b:List Nd}:(Bg (a++b)).length=(Bg a).length+(Bg b).length:=by rw[Be,List.length_append]
theorem Aba (a b:List Nat):Bb (a++b)=Bb a++Bb b:=by unfold Bb;rw[List.map_append]
theorem At.ptrAt {S0:Nat->Prop} {b g n c q p:Nat} {w:World} {l:List Nat} (h:At S0 b 24 1 w (Bb l) (.slice (some ⟨g,0,none⟩) n c)) (hi:l[q]? =some p):w.cell? ⟨g,q,none⟩=some (.pointer (some ⟨p,0,none⟩)):=by
 obtain⟨g',off,e,hg,hc⟩:=J9 h.close hi
 cases e
 rwa [Nat.zero_add]at hc
theorem Zu (S:Nat->Prop) (T b gl gr cl cr:Nat) (l r:List Nd) (bl br:List Nat) (w:World) (hl:At (fun _=>False) b 24 1 w (Bb bl) (.slice (some ⟨gl,0,none⟩) l.length cl)) (hr:At (fun _=>False) b 24 1 w (Bb br) (.slice (some ⟨gr,0,none⟩) r.length cr)) (hkl:Ar S w l bl) (hkr:Ar S w r br) (hSb: ∀i,S i->i<b) (hne:gl≠gr) (hb:b<=w.heap.size)
 (h8:l.length<=8) (hr3:r.length=3) (h4:4<l.length) (ha:Ay (Bg (l++r))) (hok: ∀k ∈ l++r,Co 4 T k) (hT:T<=1000000) (hN:(Bg (l++r)).length<=1000000000):
 Calls Tryz.prog 173 #[.slice (some ⟨gl,0,none⟩) l.length cl,.slice (some ⟨gr,0,none⟩) r.length cr,.func (.func 55) #[] #[]] w (SPb S b (Ie l r) w):=by
 obtain⟨PO,hPO⟩: ∃P:Ending->World->Prop,SPb S b (Ie l r) w=P:=⟨_,rfl⟩;rw[hPO];have he:Ie l r=(Cu (l.take (l.length - 1)),some (Cu (l.drop (l.length - 1)++r))):=by unfold Ie;rw[if_pos h4,List.dropLast_eq_take]
 obtain⟨M,hM⟩: ∃M,l.length=M+1:=⟨l.length - 1,by omega⟩;rw[show l.length - 1=M from by omega]at he;have hbl:=hkl.now.len;have hbr:=hkr.now.len;obtain⟨p,hp⟩: ∃p,bl[M]? =some p:=⟨_,List.getElem?_eq_getElem (by omega)⟩;have s0:=hl.ptrAt hp;have hdl:bl.drop M= [p]:=by
  rw[List.drop_eq_getElem_cons (by omega),List.drop_of_length_le (by omega)];have:=(List.getElem?_eq_some_iff.1 hp).2;rw[this]
 have hcut:l=l.take M++l.drop M:=(List.take_append_drop M l).symm;have ha':Ay (Bg (l.take M++(l.drop M++r))):=by rw[<-List.append_assoc,<-hcut];exact ha
 have hN':(Bg (l.take M++(l.drop M++r))).length<=1000000000:=by rw[<-List.append_assoc,<-hcut];exact hN
 have hok': ∀k ∈ l.take M++(l.drop M++r),Co 4 T k:=by rw[<-List.append_assoc,<-hcut];exact hok
 obtain⟨ha1,ha2⟩:=Rv ha';rw[Rw]at hN';have hok1: ∀k ∈ l.take M,Co 4 T k:=fun k hk=>hok' k (List.mem_append.2 (.inl hk));have Hok2:Hid (∀k ∈ l.drop M++r,Co 4 T k):=fun k hk=>hok' k (List.mem_append.2 (.inr hk));obtain⟨k1,k2⟩:=hkl.split M;rw[hdl]at k2;have k3:=k2.app hkr;have hd1:Bb (bl.take M)=(Bb bl).take M:=by unfold Bb;rw[List.map_take]
 have hl1:Ag w w.heap.size (.row 1 (Bb (bl.take M))) [.slice (some ⟨gl,0,none⟩) M cl]:=hd1▸hl.close.cutL (i:=M) (by rw[A8];omega) cl;have HC1:=qz (fun(W:World) (hB:Below w.heap.size w W)=>Df S T (l.take M) (bl.take M) (some ⟨gl,0,none⟩) M cl W ((hl1.below hB).more hB.size) (k1.below hB) ha1 hok1 (by rw[List.length_take];omega) (by rw[List.length_take];omega) hT (by omega));have hlc:M+1<=cl:=by
  obtain⟨_,_,e,hc⟩:=hl.slice_cap
  injection e with e1 e2 e3
  subst e3;rw[A8]at hc;omega
 have l2:(l.drop M++r).length=4:=by rw[List.length_append,List.length_drop];omega
 rw[hM]at ⊢;rw[hr3]at hr ⊢;have y0:(4:Int)<(M:Int)+1:=by omega
 have y1:IntKind.i64.wrap ((M:Int)+1 - 1)=(M:Int):=by rw[IntWalk.i64_in _ (by omega)];omega
 have y2:(M:Int)<(M:Int)+1:=by omega
 have y3:(M:Int)<=(cl:Int):=by omega
 have y4:M<=cl:=by omega
 have hc63:cl<=9223372036854775807:=by
  obtain⟨ns,q1,_⟩:=id hl;rcases q1.2 with⟨e,_⟩|⟨_,_,_,e,_,_,_,hcm,_⟩
  . cases e
  . injection e with e1 e2 e3
    subst e3;simp only[maxLen]at hcm;omega
 have lgl:=(hl.base gl rfl).2;have lgr:=(hr.base gr rfl).2;have hrb:=(hr.base gr rfl).1;obtain⟨Hr,HPO,He,K3,Ha2,Hbr,L2,HN',HSb⟩:=hid9 hr hPO he k3 ha2 hbr l2 hN' hSb;clear hr hPO he k3 ha2 hbr l2 hN' hSb;clear hdl hcut ha' hok' hd1 hl1 k1 k2 hkl hkr hl hp ha hok hN hbl ha1 hok1;go_enter Tryz.func173,Tryz.ntmps173;go_upto_region 3 with(fail);refine wp_region_held_drew (S:=fun Y:World=>Y.cell? ⟨gl,M,none⟩=some (.pointer (some ⟨p,0,none⟩))) (by kernel_rfl) s0 (fun hHeld=> ?_);have hbd:Below w.heap.size w w.drew:=Below.drew (Below.refl _ w);generalize w.drew=wd at hbd hHeld ⊢;refine tkH 0 hHeld ?_;refine tkH 1 hHeld ?_;refine tkH 2 hHeld ?_;refine tkH 3 hHeld ?_;refine tkH 5 hHeld ?_;refine tkH 6 hHeld ?_;refine tkH 7 hHeld ?_;refine tkH 8 hHeld ?_;refine tkH 9 hHeld ?_;refine tkH 10 hHeld ?_;have HS:Hid (∀(W:World),Below w.heap.size w W->W.cell? ⟨gl,M,none⟩=some (.pointer (some ⟨p,0,none⟩))):=fun W hB=>(hB.cell (p:=⟨gl,M,none⟩) lgl).trans s0;have Hbd:=qz hbd;clear hbd;refine rd2 4 11 (fun K hK=> ?gA) (fun K hK=> ?gB)
 case' gA=>
  go_simp;(with_reducible refine(HC1.out _ Hbd.out).mono ?_);rintro e w1 ⟨hb1,b1,rfl,hN1⟩;have hw1:=Hbd.out.trans (hb1.mono Hbd.out.size);refine hK.out _ _ (HS.out _ hw1) (fun hHeld=> ?_);clear hK K hb1
  try simp only[Act.put,tk1,tk2,tk3,tk4,tk5,tk6]
  have hb2:=Aa w1 (.cells #[.pointer (some ⟨p,0,none⟩)] 24);have HX:=qz (Aj.new w1 24 #[.pointer (some ⟨p,0,none⟩)]);have Hw2:=qz (hw1.trans (hb2.mono hw1.size));have HN2:=qz ((hN1.below hb2).mono (T:=fun i=>S i\/w.heap.size<=i) fun i _ hi=>hi.imp id fun h=>Nat.le_trans Hbd.out.size h);have Hvb:=qz hw1.size;clear hb2 hw1 hN1;refine Ee 11 fun K hK=> ?_;go_simp;refine hK.out _ _ (HS.out _ Hw2.out) (fun hHeld=> ?_);clear hK K
  try simp only[Act.put,tk1,tk2,tk3,tk4,tk5,tk6]
  generalize w1.heap.size=vb at HX Hvb ⊢;generalize w1.alloc (.cells #[.pointer (some ⟨p,0,none⟩)] 24)=W at HX Hw2 HN2 hHeld ⊢
 case' gB=>
  go_simp;have hb2:=Aa wd (.cells #[.pointer (some ⟨p,0,none⟩)] 24);have hX:=Aj.new wd 24 #[.pointer (some ⟨p,0,none⟩)];have hw1:=Hbd.out.trans (hb2.mono Hbd.out.size);have hvb:w.heap.size<=wd.heap.size:=Hbd.out.size;refine hK.out _ _ (HS.out _ hw1) (fun hHeld=> ?_);clear hK K hb2
  try simp only[Act.put,tk1,tk2,tk3,tk4,tk5,tk6]
  refine Ee 4 fun K hK=> ?_;go_simp;(with_reducible refine(HC1.out _ hw1).mono ?_);rintro e W ⟨hb1,b1,rfl,hN1⟩;have Hw2:=qz (hw1.trans (hb1.mono hw1.size));have HX:=qz (hX.below hb1 hX.lt);have HN2:=qz (hN1.mono (T:=fun i=>S i\/w.heap.size<=i) fun i _ hi=>hi.imp id fun h=>Nat.le_trans hw1.size h);have Hvb:=qz hvb;clear hvb;clear hb1 hw1 hN1;refine hK.out _ _ (HS.out _ Hw2.out) (fun hHeld=> ?_);clear hK K
  try simp only[Act.put,tk1,tk2,tk3,tk4,tk5,tk6]
  generalize wd.heap.size=vb at HX Hvb ⊢
 all_goals
  clear HC1 Hbd;have hrW:=Hr.out.below Hw2.out;have hbl3:br.length=3:=by have:=Hbr.out;omega
  have hI:=Abz b W gr cr 0 vb p br (by rw[hbl3];exact hrW) (Nat.le_trans hb Hw2.out.size) (Nat.zero_le _) (by omega) HX.out (by have:=Hvb.out;omega);rw[hbl3,show((0:Nat):Int)=0 from rfl]at hI;have e3:br.take 0++ [p]++br.drop 0= [p]++br:=by simp
  rw[e3]at hI;have K4:=qz (K3.out.below Hw2.out);have HI:=qz hI;clear hI;clear hrW HX hbl3 e3;refine Ee 12 fun K hK=> ?_;go_simp;(with_reducible refine(HI.out).mono ?_);rintro e W2 ⟨V2,rfl,hr2,hg2⟩;have HBb:Hid (Below b w W2):=(Hw2.out.mono hb).grown hg2 (Nat.le_trans hb Hw2.out.size) (fun j hj=>by cases hj;exact hrb);have l4:(Bb ([p]++br)).length=4:=by rw[A8,List.length_append,Hbr.out];simp[hr3]
  obtain⟨a2,c2,rfl⟩:=hr2.slice_n l4;have hzW:=hg2.size;have hzw:=Hw2.out.size;have hk: ∀i,(S i\/w.heap.size<=i)->i<W.heap.size->W2.heap[i]? =W.heap[i]? :=fun i h1 h2=>hg2.block i h2 (fun e=>by
   have e2:=Option.some.inj e;rcases h1 with h1|h1
   . have:=HSb.out i h1;omega
   . omega)
  have HC2:=qz (Df S T (l.drop M++r) ([p]++br) a2 4 c2 W2 hr2.close (K4.out.later hzW fun i h1 h2=>hk i (.inl h1) h2) Ha2.out Hok2.out (by rw[L2.out];omega) (by rw[L2.out];omega) hT (by have:=HN'.out;omega));have HN3:=qz (HN2.out.later hzW hk);have hcl:W2.cell? ⟨gl,M,none⟩=W.cell? ⟨gl,M,none⟩:=World.cell?_of_block (hg2.block gl (Nat.lt_of_lt_of_le lgl hzw) (fun e=>hne (Option.some.inj e)));refine hK.out _ _ (hcl.trans hHeld) (fun hHeld=> ?_);clear hK K hr2 hg2 l4 HI hcl hk
  try simp only[Act.put,tk1,tk2,tk3,tk4,tk5,tk6]
  refine Ee 13 fun K hK=> ?_;go_simp;(with_reducible refine(HC2.out).mono ?_);rintro e W3 ⟨hb3,b3,rfl,hN4⟩;have HP:Hid (PO (.returned (.tuple #[.pointer (some ⟨b1,0,none⟩),.pointer (some ⟨b3,0,none⟩)])) W3):=by
   show PO _ _;rw[<-HPO.out,He.out];exact⟨HBb.out.trans (hb3.mono (by omega)),b1,_,rfl,HN3.out.below hb3,b3,rfl,hN4.mono fun i _ h=>h.imp id fun h=>by omega⟩
  refine hK.out _ _ ((hb3.cell (p:=⟨gl,M,none⟩) (by show gl<_;omega)).trans hHeld) (fun hHeld=> ?_);clear hK K hb3 hN4
  try simp only[Act.put,tk1,tk2,tk3,tk4,tk5,tk6]
  refine tkH 14 hHeld ?_;refine tkH 15 hHeld ?_;refine wpAnyH_done (by kernel_rfl) ?_ _;clear hHeld;go_wp2;exact HP.out
theorem Zv (S:Nat->Prop) (T b gl gr cl cr:Nat) (l r:List Nd) (bl br:List Nat) (w:World) (hl:At (fun _=>False) b 24 1 w (Bb bl) (.slice (some ⟨gl,0,none⟩) l.length cl)) (hr:At (fun _=>False) b 24 1 w (Bb br) (.slice (some ⟨gr,0,none⟩) r.length cr)) (hkl:Ar S w l bl) (hkr:Ar S w r br) (hSb: ∀i,S i->i<b) (hne:gl≠gr) (hb:b<=w.heap.size)
 (hl3:l.length=3) (h4:4<r.length) (h8:r.length<=8) (ha:Ay (Bg (l++r))) (hok: ∀k ∈ l++r,Co 4 T k) (hT:T<=1000000) (hN:(Bg (l++r)).length<=1000000000):
 Calls Tryz.prog 173 #[.slice (some ⟨gl,0,none⟩) l.length cl,.slice (some ⟨gr,0,none⟩) r.length cr,.func (.func 55) #[] #[]] w (SPb S b (Ie l r) w):=by
 obtain⟨PO,hPO⟩: ∃P:Ending->World->Prop,SPb S b (Ie l r) w=P:=⟨_,rfl⟩;rw[hPO];have hbl:=hkl.now.len;have hbr:=hkr.now.len;have he:Ie l r=(Cu (l++r.take 1),some (Cu (r.drop 1))):=by unfold Ie;rw[if_neg (by omega),if_pos h4]
 obtain⟨p,rr,rfl⟩: ∃x t,br=x::t:=by
  cases br with
  |nil=>simp at hbr;omega
  |cons x t=>exact⟨x,t,rfl⟩
 obtain⟨R,hR⟩: ∃R,r.length=R+1:=⟨r.length - 1,by omega⟩;have hrr:rr.length=R:=by rw[List.length_cons]at hbr;omega
 have s0:=hr.ptrAt (q:=0) (p:=p) rfl;have hcut:r=r.take 1++r.drop 1:=(List.take_append_drop 1 r).symm;have ha':Ay (Bg ((l++r.take 1)++r.drop 1)):=by rw[List.append_assoc,<-hcut];exact ha
 have hN':(Bg ((l++r.take 1)++r.drop 1)).length<=1000000000:=by rw[List.append_assoc,<-hcut];exact hN
 have hok': ∀k ∈ (l++r.take 1)++r.drop 1,Co 4 T k:=by rw[List.append_assoc,<-hcut];exact hok
 obtain⟨ha1,ha2⟩:=Rv ha';rw[Rw]at hN';have Hok1:Hid (∀k ∈ l++r.take 1,Co 4 T k):=fun k hk=>hok' k (List.mem_append.2 (.inl hk));have Hok2:Hid (∀k ∈ r.drop 1,Co 4 T k):=fun k hk=>hok' k (List.mem_append.2 (.inr hk));obtain⟨k1,k2⟩:=hkr.split 1;have k1:Ar S w (r.take 1) [p]:=k1;have k2:Ar S w (r.drop 1) rr:=k2;have k3:=hkl.app k1;have hl1:(l++r.take 1).length=4:=by rw[List.length_append,List.length_take];omega
 have hl2:(r.drop 1).length=R:=by rw[List.length_drop];omega
 have hrI:Ah (fun i=>i=gr) w (.row 1 (Bb (p::rr))) [.slice (some ⟨gr,0,none⟩) r.length cr]:=hr.closeIn.mono fun i _ hi=>hi.elim False.elim fun e=>(Option.some.inj e).symm;have hbl3:bl.length=3:=by omega
 obtain⟨hlc,hc63⟩:R+1<=cr/\cr<=9223372036854775807:=by
  obtain⟨ns,q1,_⟩:=id hr;rcases q1.2 with⟨e,_⟩|⟨_,_,_,e,_,_,hnc,hcm,_⟩
  . cases e
  . injection e with e1 e2 e3
    subst e3;simp only[maxLen]at hcm;rw[A8,hbr]at hnc;omega
 rw[hR]at hr hrI h4 h8 ⊢;rw[hl3]at hl ⊢;have y0:(4:Int)<(R:Int)+1:=by omega
 have y1:(0:Int)<(R:Int)+1:=by omega
 have y2:(1:Int)<=(R:Int)+1:=by omega
 have y3: ¬cr=1:=by omega
 have y4:(1:Int)<=(cr:Int):=by omega
 have y5:1<=cr:=by omega
 have y6:(R:Int)+1<=(cr:Int):=by omega
 have lgl:=(hl.base gl rfl).2;have lgr:=(hr.base gr rfl).2;have hlb:=(hl.base gl rfl).1;obtain⟨j0,hj,hy0,hy1,hy2⟩:=info_parts Qh;obtain⟨Hl,HPO,He,HrI,Ha1,Ha2,K3,K2,Hl1,Hl2,HN',Hj,Hy0,Hy1,Hy2,HSb⟩:=hid16 hl hPO he hrI ha1 ha2 k3 k2 hl1 hl2 hN' hj hy0 hy1 hy2 hSb;obtain⟨Hbl3,Hrr⟩:=hid2 hbl3 hrr;clear hl hPO he hrI ha1 ha2 k3 k2 hl1 hl2 hN' hj hy0 hy1 hy2 hSb hbl3 hrr;clear hr hcut ha' hok' k1 hkl hkr ha hok hN hbl hbr hl3 hR h4;go_enter Tryz.func173,Tryz.ntmps173;go_upto_region 5 with(fail);refine wp_region_held_drew (S:=fun Y:World=>Y.cell? ⟨gr,0,none⟩=some (.pointer (some ⟨p,0,none⟩))) (by kernel_rfl) s0 (fun hHeld=> ?_);have hbd:Below w.heap.size w w.drew:=Below.drew (Below.refl _ w);generalize w.drew=wd at hbd hHeld ⊢;refine tkH 0 hHeld ?_;refine tkH 1 hHeld ?_;refine tkH 2 hHeld ?_;refine tkH 3 hHeld ?_;refine tkH 4 hHeld ?_;refine tkH 8 hHeld ?_;refine tkH 9 hHeld ?_;refine tkH 10 hHeld ?_;refine Ee 5 fun K hK=> ?_;go_simp;have hb1:=Aa wd (.cells #[.pointer (some ⟨p,0,none⟩)] 24);have hrd:=F2 (Aj.new wd 24 #[.pointer (some ⟨p,0,none⟩)]);have hw1:=hbd.trans (hb1.mono hbd.size);refine hK.out _ _ ((hb1.cell (p:=⟨gr,0,none⟩) (Nat.lt_of_lt_of_le lgr hbd.size)).trans hHeld) (fun hHeld=> ?_);clear hK K
 try simp only[Act.put,tk1,tk2,tk3,tk4,tk5,tk6]
 generalize wd.heap.size=vb at hrd ⊢;generalize wd.alloc (.cells #[.pointer (some ⟨p,0,none⟩)] 24)=W at hrd hw1 hHeld ⊢;clear hb1;have Hv2:Hid (Ah (fun i=>False/\(Value.slice (some ⟨gl,0,none⟩) 3 cl).ownBlock≠some i) W (dPt p) [.pointer (some ⟨p,0,none⟩)]):=Ks _ _ _;have HlW:=qz (Hl.out.below hw1);have hzw:=hw1.size;have Hlo:=qz (show(Bb bl).length=3 from by rw[A8];exact Hbl3.out);have K3W:=qz (K3.out.below hw1);have K2W:=qz (K2.out.below hw1);obtain⟨Hrd,Hw1⟩:=hid2 hrd hw1;clear hrd hw1;clear K3 K2;refine Ee 6 fun K hK=> ?_;refine Gg (d:=dPt p) (V:=.slice (some ⟨gl,0,none⟩) 3 cl) (by rfl) (.tmp 35) (.tmp 39) 108 (by rfl) Tryz.underlying108 Hj.out Hy0.out Hy1.out Hy2.out rfl (by omega) (by rfl) HlW.out (Nat.le_trans hb hzw) rfl Hv2.out (by rfl) Hrd.out (by rw[Hlo.out];simp only[maxLen];omega) (by rw[Hlo.out];omega) ?_;intro V2 W2 hr2 hg2 _;have e2:Bb bl++ [dPt p]=Bb (bl++ [p]):=by rw[Aba];rfl
 rw[e2]at hr2;have HBb:Hid (Below b w W2):=(Hw1.out.mono hb).grown hg2 (Nat.le_trans hb hzw) (fun j hj=>by cases hj;exact hlb);have l2:(Bb (bl++ [p])).length=4:=by rw[A8,List.length_append,Hbl3.out];rfl
 obtain⟨a2,c2,rfl⟩:=hr2.slice_n l2;have hzW:=hg2.size;have hk: ∀i,S i->i<W.heap.size->W2.heap[i]? =W.heap[i]? :=fun i h1 h2=>hg2.block i h2 (fun e=>by
  have e2:i=gl:=Option.some.inj e;have:=HSb.out i h1;omega)
 have HC2:=qz (Df S T (l++r.take 1) (bl++ [p]) a2 4 c2 W2 hr2.close (K3W.out.later hzW hk) Ha1.out Hok1.out (by rw[Hl1.out];omega) (by rw[Hl1.out];omega) hT (by have:=HN'.out;omega));have K2W2:=qz (K2W.out.later hzW hk);have hrI2:Ah (fun i=>i=gr) W2 (.row 1 (Bb (p::rr))) [.slice (some ⟨gr,0,none⟩) (R+1) cr]:=(HrI.out.below Hw1.out).later hzW fun q q1 q2=>World.cell?_of_block (hg2.block _ q2 fun e=>by
  have e2:q.block=gl:=Option.some.inj e;have e3:q.block=gr:=q1;omega)
 refine hK.out _ _ ((World.cell?_of_block (hg2.block gr (Nat.lt_of_lt_of_le lgr hzw) fun e=>hne (Option.some.inj e).symm)).trans hHeld) (fun hHeld=> ?_);have HrI2:=qz hrI2;clear hrI2;clear hK K hr2 hg2 e2 l2 K3W K2W
 try simp only[Act.put,tk1,tk2,tk3,tk4,tk5,tk6]
 refine Ee 7 fun K hK=> ?_;go_simp;(with_reducible refine(HC2.out).mono ?_);rintro e W3 ⟨hb3,b3,rfl,hN3⟩;have hd:Ag W3 W3.heap.size (.row 1 (Bb rr)) [.slice (some ⟨gr,1,none⟩) R (cr - 1)]:=by
  have:=(HrI2.out.below hb3).now.cutR (i:=1) (m:=R) (by rw[A8,List.length_cons,Hrr.out];omega) (cr - 1);simpa[Bb]using this
 have HC3:=qz (Df S T (r.drop 1) rr (some ⟨gr,1,none⟩) R (cr - 1) W3 hd (K2W2.out.below hb3) Ha2.out Hok2.out (by rw[Hl2.out];omega) (by rw[Hl2.out];omega) hT (by have:=HN'.out;omega));refine hK.out _ _ ((hb3.cell (p:=⟨gr,0,none⟩) (by show gr<_;omega)).trans hHeld) (fun hHeld=> ?_);obtain⟨Hb3,HN3⟩:=hid2 hb3 hN3;clear hb3 hN3;clear hK K hd
 try simp only[Act.put,tk1,tk2,tk3,tk4,tk5,tk6]
 refine Ee 11 fun K hK=> ?_;go_simp;(with_reducible refine(HC3.out).mono ?_);rintro e W4 ⟨hb4,b4,rfl,hN4⟩;have hz3:=Hb3.out.size;have HP:Hid (PO (.returned (.tuple #[.pointer (some ⟨b3,0,none⟩),.pointer (some ⟨b4,0,none⟩)])) W4):=by
  show PO _ _;rw[<-HPO.out,He.out];exact⟨(HBb.out.trans (Hb3.out.mono (by omega))).trans (hb4.mono (by omega)),b3,_,rfl,(HN3.out.below hb4).mono (fun i _ h=>h.imp id fun h=>by omega),b4,rfl,hN4.mono fun i _ h=>h.imp id fun h=>by omega⟩
 refine hK.out _ _ ((hb4.cell (p:=⟨gr,0,none⟩) (by show gr<_;omega)).trans hHeld) (fun hHeld=> ?_);clear hK K hb4 hN4
 try simp only[Act.put,tk1,tk2,tk3,tk4,tk5,tk6]
 refine tkH 12 hHeld ?_;refine tkH 13 hHeld ?_;refine wpAnyH_done (by kernel_rfl) ?_ _;clear hHeld;go_wp2;exact HP.out
theorem Zw (S:Nat->Prop) (T b gl gr cl cr:Nat) (l r:List Nd) (bl br:List Nat) (w:World) (hl:At (fun _=>False) b 24 1 w (Bb bl) (.slice (some ⟨gl,0,none⟩) l.length cl)) (hr:At (fun _=>False) b 24 1 w (Bb br) (.slice (some ⟨gr,0,none⟩) r.length cr)) (hkl:Ar S w l bl) (hkr:Ar S w r br) (hSb: ∀i,S i->i<b) (hb:b<=w.heap.size)
 (hl4:3<=l.length/\l.length<=4) (hr4:r.length<=4) (ha:Ay (Bg (l++r))) (hok: ∀k ∈ l++r,Co 4 T k) (hT:T<=1000000) (hN:(Bg (l++r)).length<=1000000000):
 Calls Tryz.prog 173 #[.slice (some ⟨gl,0,none⟩) l.length cl,.slice (some ⟨gr,0,none⟩) r.length cr,.func (.func 55) #[] #[]] w (SPb S b (Ie l r) w):=by
 obtain⟨PO,hPO⟩: ∃P:Ending->World->Prop,SPb S b (Ie l r) w=P:=⟨_,rfl⟩;rw[hPO];have hbl:=hkl.now.len;have hbr:=hkr.now.len;have he:Ie l r=(Cu (l++r),none):=by unfold Ie;rw[if_neg (by omega),if_neg (by omega)]
 obtain⟨ns,hrd,hA,hnn⟩:=hr.reads;clear hnn;have HA2:Hid (Aw (fun i=>False/\(Value.slice (some ⟨gl,0,none⟩) l.length cl).ownBlock≠some i) w (Bb br) ns):=fun w'' _ _=>To hA.now;have hlb:=(hl.base gl rfl).1;have hdl:r.length=(Bb br).length:=by rw[A8];exact hbr.symm
 have hdl2:(Bb bl).length=l.length:=by rw[A8];exact hbl
 obtain⟨j0,hj,hy0,hy1,hy2⟩:=info_parts Qh;have y0: ¬(4:Int)<(l.length:Int):=by omega
 have y1: ¬(4:Int)<(r.length:Int):=by omega
 have Hk3:=qz (hkl.app hkr);obtain⟨HPO,He,Hl,Hrd,Hj,Hy0,Hy1,Hy2,Hdl,Hdl2,Ha,Hok,HN,HSb⟩:=hid14 hPO he hl hrd hj hy0 hy1 hy2 hdl hdl2 ha hok hN hSb;clear hPO he hl hrd hj hy0 hy1 hy2 hdl hdl2 ha hok hN hSb;clear hr hA hkl hkr hbl hbr;go_enter Tryz.func173,Tryz.ntmps173;go_wp2_with (at_builtin;apply Shut.out);unfold Shut;refine C4 (n:=r.length) (A:=some ⟨gr,0,none⟩) (c:=cr) rfl (.tmp 47) (.tmp 48) 108 rfl Tryz.underlying108 Hj.out Hy0.out Hy1.out Hy2.out rfl (by omega) rfl Hl.out hb (O4 _) HA2.out rfl Hrd.out Hdl.out (by rw[Hdl2.out];simp only[maxLen];omega) (by rw[Hdl2.out];omega) ?_;intro V2 W2 hr2 hg2 _;rw[<-Aba]at hr2;have HBb:Hid (Below b w W2):=(Below.refl b w).grown hg2 hb (fun j hj=>by cases hj;exact hlb);obtain⟨N,hN0⟩: ∃N,(Bb (bl++br)).length=N:=⟨_,rfl⟩;obtain⟨a2,c2,rfl⟩:=hr2.slice_n hN0;have hzW:=hg2.size;have hC2:=Df S T (l++r) (bl++br) a2 N c2 W2 hr2.close (Hk3.out.later hzW fun i h1 h2=>hg2.block i h2 fun e=>by
  have e2:i=gl:=Option.some.inj e;have:=HSb.out i h1;omega) Ha.out Hok.out (by rw[List.length_append];omega) (by rw[List.length_append];omega) hT HN.out
 have HC2:=qz hC2;clear hC2;clear hr2 hg2 hN0;go_wp2_with (fail);(with_reducible refine(HC2.out).mono ?_);rintro e W3 ⟨hb3,b3,rfl,hN3⟩;have HP:Hid (PO (.returned (.tuple #[.pointer (some ⟨b3,0,none⟩),.pointer none])) W3):=by
  show PO _ _;rw[<-HPO.out,He.out];exact⟨HBb.out.trans (hb3.mono (by omega)),b3,_,rfl,hN3.mono (fun i _ h=>h.imp id fun h=>by omega),rfl⟩
 clear hb3 hN3;go_wp2;exact HP.out
theorem Acm (S:Nat->Prop) (T b gl gr cl cr:Nat) (l r:List Nd) (bl br:List Nat) (w:World) (hl:At (fun _=>False) b 24 1 w (Bb bl) (.slice (some ⟨gl,0,none⟩) l.length cl)) (hr:At (fun _=>False) b 24 1 w (Bb br) (.slice (some ⟨gr,0,none⟩) r.length cr)) (hkl:Ar S w l bl) (hkr:Ar S w r br) (hSb: ∀i,S i->i<b) (hne:gl≠gr) (hb:b<=w.heap.size)
 (hl8:3<=l.length/\l.length<=8) (hr8:3<=r.length/\r.length<=8) (h3:l.length=3\/r.length=3) (ha:Ay (Bg (l++r))) (hok: ∀k ∈ l++r,Co 4 T k) (hT:T<=1000000) (hN:(Bg (l++r)).length<=1000000000):
 Calls Tryz.prog 173 #[.slice (some ⟨gl,0,none⟩) l.length cl,.slice (some ⟨gr,0,none⟩) r.length cr,.func (.func 55) #[] #[]] w (SPb S b (Ie l r) w):=by
 by_cases h1:4<l.length
 . exact Zu S T b gl gr cl cr l r bl br w hl hr hkl hkr hSb hne hb hl8.2 (by omega) h1 ha hok hT hN
 by_cases h2:4<r.length
 . exact Zv S T b gl gr cl cr l r bl br w hl hr hkl hkr hSb hne hb (by omega) h2 hr8.2 ha hok hT hN
 exact Zw S T b gl gr cl cr l r bl br w hl hr hkl hkr hSb hb (by omega) (by omega) ha hok hT hN
end Go.Proofs.YtkmcjfkokoidcaaGreatDoor
