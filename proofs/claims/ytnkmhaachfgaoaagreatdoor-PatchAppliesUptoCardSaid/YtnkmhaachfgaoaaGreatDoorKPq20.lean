/- Parts: tree.with at no node; tree.Put. Condition: at most 10^8 entries, a bulk of at most 10^8, a height of at most 10^5. -/
import Derived.Test.YtnkmhaachfgaoaaGreatDoorKPq18
set_option maxHeartbeats 20000000
set_option maxRecDepth 100000
namespace Go.Proofs.YtnkmhaachfgaoaaGreatDoor
open Go Go.RowKit
theorem Al.ptr {S0:Nat->Prop} {b s:Nat} {t:TypeId} {wr:World} {l:List D} {V:Value} (h:Al S0 b t s wr l V) (hl:l≠ []): ∃g c,V=.slice (some ⟨g,0,none⟩) l.length c/\l.length<=c/\b<=g/\g<wr.heap.size:=by
 have hba:=h.base;obtain⟨ns,h1,_⟩:=h;rcases h1.2 with⟨rfl,h0⟩|⟨g,cap,cur,rfl,_,hg,hc,_⟩
 . exact absurd (List.eq_nil_of_length_eq_zero h0) hl
 . exact⟨g,cap,rfl,hc,hba g rfl⟩
theorem Al.put1 {b:Nat} {t:TypeId} {w:World} {bs:List Nat} {g i n c p:Nat} (h:Al (fun _=>False) b t 1 w (Ar bs) (.slice (some ⟨g,0,none⟩) n c)) (hi:i<bs.length):
 Al (fun _=>False) b t 1 (w.setCell ⟨g,i,none⟩ (.pointer (some ⟨p,0,none⟩))) (Ar (bs.set i p)) (.slice (some ⟨g,0,none⟩) n c):=by
 have h1:=h.put (i:=i) (d:=Se p) (ys:= [.pointer (some ⟨p,0,none⟩)]) (by rw[Av];exact hi) rfl (Fq _ _ p);rw[Nat.mul_one]at h1;have e:(Ar bs).set i (Se p)=Ar (bs.set i p):=by unfold Ar;rw[List.map_set]
 rw[e]at h1;exact h1
theorem Afi {T:Nat} {ks:List Nd} {k:ByteArray} {v:Val} {x:Nd} (hx:ks[Ai ks k]? =some x):Gw T ks k v=(ks.set (Ai ks k) (Ck T x k v).1).take (Ai ks k+1)++(Ck T x k v).2.toList++(ks.set (Ai ks k) (Ck T x k v).1).drop (Ai ks k+1):=by
 have hlt:Ai ks k<ks.length:=(List.getElem?_eq_some_iff.1 hx).1;have eg:ks.getD (Ai ks k) (.leaf [])=x:=by rw[List.getD_eq_getElem?_getD,hx];rfl
 unfold Gw;rw[eg];generalize Ai ks k=p at hlt ⊢;have e1:(ks.set p (Ck T x k v).1).take (p+1)=ks.take p++ [(Ck T x k v).1]:=by
  rw[List.set_eq_take_append_cons_drop,if_pos hlt,List.take_append,List.length_take,Nat.min_eq_left (by omega),List.take_of_length_le (by rw[List.length_take];omega),show p+1 - p=1 from by omega];rfl
 have e2:(ks.set p (Ck T x k v).1).drop (p+1)=ks.drop (p+1):=by
  rw[List.drop_set_of_lt (by omega)]
 rw[e1,e2];simp
theorem Nj.later {S:Nat->Prop} {w w':World} {t:Option Nd} {p:Option Addr} (h:Nj S w t p) (hs:w.heap.size<=w'.heap.size) (hk: ∀i,S i->i<w.heap.size->w'.heap[i]? =w.heap[i]?):Nj S w' t p:=by
 cases t with
 |none=>exact h
 |some t=>
  obtain⟨b,e,h1⟩:=h;exact⟨b,e,h1.later hs hk⟩
theorem Vv (S:Nat->Prop) (T:Nat) (ks:List Nd) (lo b:Nat) (k:ByteArray) (v:Val) (c0 c1 c2 c3 c4 c5:Value) (w:World) (hS:Bj S w (.inner ks) b) (hn:Cb lo (T+1) (.inner ks)) (hlo:2<=lo) (ha:Az (Ap ks)) (hv:Ae w w.heap.size (dV v) [c0,c1,c2,c3,c4,c5]) (hT:T<=100000) (hN:(Ap ks).length+1<=100000000)
 (hb:Ac (Ap ks)+Ac [(k,v)]<=100000000) (hI0: ∀(S':Nat->Prop) (x:Nd) (b':Nat) (W:World),Bj S' W x b'->Cb 4 T x->Az (A6 x)->(A6 x).length+1<=100000000->Ac (A6 x)+Ac [(k,v)]<=100000000->Ae W W.heap.size (dV v) [c0,c1,c2,c3,c4,c5]->Calls Tryz.prog 57 #[.pointer (some ⟨b',0,none⟩),.agg #[.string k,c0,c1,c2,c3,c4,c5]] W (SP S' (Ck T x k v) W)):
 Calls Tryz.prog 57 #[.pointer (some ⟨b,0,none⟩),.agg #[.string k,c0,c1,c2,c3,c4,c5]] w (SP S (Gd (Gw T ks k v)) w):=by
 have h:Bj (fun i=>S i/\i<w.heap.size) w (.inner ks) b:=hS.mono fun i hi h=>⟨h,hi⟩;clear hS;obtain⟨k',b',n',t',la,ln,lc,oa,on,oc,rfl,rfl,rfl,rfl,rfl,rfl⟩:=M8 hv;obtain⟨x,hx,_,hxo,hxa,hxl,hxb,hflW,hokW,h2W,h9W⟩:=Afj k v hlo hn ha;have heW:=Afi (T:=T) (v:=v) hx;have hht:(I8 (.inner ks):Int)=(T:Int)+1:=by rw[Lc (.inl (by omega)) hn];rfl
 simp only[Cb]at hn;obtain⟨hn2,hn8,hnk⟩:=hn;have hne: ∀k ∈ ks,A6 k≠ []:=fun y hy=>Kn (by omega) (hnk y hy);obtain⟨PO,hPO⟩: ∃P:Ending->World->Prop,SP S (Gd (Gw T ks k v)) w=P:=⟨_,rfl⟩;rw[hPO];obtain⟨wi,hwi⟩: ∃wi,w.alloc (.cells #[.string k,(.int .i64 k'),(.bool b'),(.int .i64 n'),(.string t'),(.slice la ln lc),(.slice oa on oc)] 71)=wi:=⟨_,rfl⟩;have hbi:Below w.heap.size w wi:=hwi▸Aa _ _;have Hxi:Hid (Ah wi w.heap.size 71 #[.string k,(.int .i64 k'),(.bool b'),(.int .i64 n'),(.string t'),(.slice la ln lc),(.slice oa on oc)]):=hwi▸Ah.new _ _ _;have hsz:wi.heap.size=w.heap.size+1:=by rw[<-hwi];simp
 have hHt:=Cl (h.now.below hbi);rw[hht]at hHt;have hz:(((T:Int)+1)==0)=false:=beq_eq_false_iff_ne.2 (by omega);have HKi:=qz (Fu (h.below hbi) (by omega) (by omega));have hlW:(Ap (Gw T ks k v)).length<=1000000000:=by
  rw[hflW];have:=Im (k:=k) (v:=v) (Ap ks);omega
 have hSp: ∀(S0:Nat->Prop) (W:World) (V':Value) (bs':List Nat),Below w.heap.size w W->Al (fun _=>False) wi.heap.size 25 1 W (Ar bs') V'->Am S0 W (Gw T ks k v) bs'->Calls Tryz.prog 95 #[V',.func (.func 58) #[] #[]] W (SP S0 (Gd (Gw T ks k v)) W):=fun S0 W V' bs' hB hR hK=>by
  obtain⟨a,c,rfl,hc⟩:=hR.slice_cap;exact S7 S0 T (Gw T ks k v) bs' a _ c W hR.close hK (by rw[hflW];exact Jx ha) hokW (by omega) h9W hc (by omega) hlW
 have hlt:Ai ks k<ks.length:=(List.getElem?_eq_some_iff.1 hx).1;obtain⟨HHt,Hbi,HPO,HSp,H,Hv,HI0,HeW⟩:=hid8 hHt hbi hPO hSp h hv hI0 heW;clear hHt hbi hPO hSp h hv hI0 heW;clear hflW hokW h2W h9W hlW;go_enter Tryz.func57,Tryz.ntmps57;go_upto_region 1 with(fail);go_wp2_with (fail);(with_reducible refine(HHt.out).mono ?_);rintro e w1 ⟨rfl,rfl⟩;go_wp2_with (fail);(with_reducible refine(HKi.out).mono ?_);rintro e w1 ⟨bs,hks,hb1,V,rfl,hR⟩;have hbl:=hks.now.len;obtain⟨g,c,rfl,hcn,hg1,hg2⟩:=hR.ptr (by intro e;have:=congrArg List.length e;rw[Av,hbl,List.length_nil]at this;omega);rw[Av,hbl]at hR hcn ⊢;have Hbw1:=qz (Hbi.out.trans (hb1.mono Hbi.out.size));have hx1:=Hxi.out.below hb1 Hxi.out.lt;have hks1:=hks.below hb1;have HWh:=qz (Og ks bs k (some ⟨g,0,none⟩) ks.length c w1 hR.close hks1.now ha hne (by omega));have d0:=hx1.cell 0;have lx:=hx1.lt;obtain⟨Hx1,HR,Hks1⟩:=hid3 hx1 hR hks1;clear hx1 hR hks1;clear hb1 hks;go_wp2_with (fail);(with_reducible refine(HWh.out).mono ?_);rintro e w2 ⟨rfl,hb2⟩;have hbw2:=Hbw1.out.trans (hb2.mono Hbw1.out.size);have hx2:=Hx1.out.below hb2 lx;have hR2:=HR.out.below hb2;have hks2:=Hks1.out.below hb2;clear d0 lx hb2;generalize Ai ks k=P at hx hlt HeW ⊢;obtain⟨bx,hbx,hnx⟩:=hks2.at_ hx;obtain⟨g',off,e',_,s1⟩:=Ik hR2.close hbx
 cases e'
 rw[Nat.zero_add]at s1;have hD2:=Below.drew (Below.refl w2.heap.size w2);have hbd:=hbw2.trans (hD2.mono hbw2.size);have HCx:=qz (HI0.out _ x bx w2.drew (hnx.below hD2) hxo hxa (by omega) (by omega) ((Hv.out.below hbd).more hbd.size));have hSS:(fun Y:World=>Y.cell? ⟨g,P,none⟩=some (.pointer (some ⟨bx,0,none⟩))/\Y.cell? ⟨w.heap.size,0,none⟩=some (.string k)/\Y.cell? ⟨w.heap.size,1,none⟩=some (.int .i64 k')/\Y.cell? ⟨w.heap.size,2,none⟩=some (.bool b')/\Y.cell? ⟨w.heap.size,3,none⟩=some (.int .i64 n')/\Y.cell? ⟨w.heap.size,4,none⟩=some (.string t')/\Y.cell? ⟨w.heap.size,5,none⟩=some (.slice la ln lc)/\Y.cell? ⟨w.heap.size,6,none⟩=some (.slice oa on oc)) w2.drew:=⟨s1,hx2.cell 0,hx2.cell 1,hx2.cell 2,hx2.cell 3,hx2.cell 4,hx2.cell 5,hx2.cell 6⟩;have hRd:=hR2.below hD2;have Hksd:=qz (hks2.below hD2);have hg3:g<w2.drew.heap.size:=(hRd.base g rfl).2;have hg4:wi.heap.size<=g:=(hRd.base g rfl).1;have y1:(P:Int)<(ks.length:Int):=by omega
 have y2:(0:Int)<=(P:Int):=by omega
 obtain⟨HRd,Hbd⟩:=hid2 hRd hbd;clear hRd hbd;clear hbw2 hR2 hks2 hnx hbx s1 hD2 HR Hks1 HWh Hbw1 Hx1 Hxi HKi HI0 HHt H Hv;go_upto_region 10 with(fail);refine wp_region_held_drew (S:=fun Y:World=>Y.cell? ⟨g,P,none⟩=some (.pointer (some ⟨bx,0,none⟩))/\Y.cell? ⟨w.heap.size,0,none⟩=some (.string k)/\Y.cell? ⟨w.heap.size,1,none⟩=some (.int .i64 k')/\Y.cell? ⟨w.heap.size,2,none⟩=some (.bool b')/\Y.cell? ⟨w.heap.size,3,none⟩=some (.int .i64 n')/\Y.cell? ⟨w.heap.size,4,none⟩=some (.string t')/\Y.cell? ⟨w.heap.size,5,none⟩=some (.slice la ln lc)/\Y.cell? ⟨w.heap.size,6,none⟩=some (.slice oa on oc)) (by kernel_rfl) hSS (fun hHeld=> ?_);have hlx:w.heap.size<w2.drew.heap.size:=hx2.drew.lt;generalize w2.drew=wd at HCx HRd Hksd Hbd hg3 hlx hHeld ⊢;clear hSS hx2;refine tkH 0 hHeld ?_;refine tkH 1 hHeld ?_;refine tkH 2 hHeld ?_;refine tkH 3 hHeld ?_;refine tkH 4 hHeld ?_;refine C4 5 fun K hK=> ?_;go_simp;(with_reducible refine(HCx.out).mono ?_);rintro e w4 ⟨hb4,bA,q4,rfl,hnA,hoA⟩;have hHeld4:(fun Y:World=>Y.cell? ⟨g,P,none⟩=some (.pointer (some ⟨bx,0,none⟩))/\Y.cell? ⟨w.heap.size,0,none⟩=some (.string k)/\Y.cell? ⟨w.heap.size,1,none⟩=some (.int .i64 k')/\Y.cell? ⟨w.heap.size,2,none⟩=some (.bool b')/\Y.cell? ⟨w.heap.size,3,none⟩=some (.int .i64 n')/\Y.cell? ⟨w.heap.size,4,none⟩=some (.string t')/\Y.cell? ⟨w.heap.size,5,none⟩=some (.slice la ln lc)/\Y.cell? ⟨w.heap.size,6,none⟩=some (.slice oa on oc)) w4:=by
  have hc: ∀(j:Nat),w4.cell? ⟨w.heap.size,j,none⟩=wd.cell? ⟨w.heap.size,j,none⟩:=fun j=>hb4.cell (p:=⟨w.heap.size,j,none⟩) hlx;obtain⟨a0,a1,a2,a3,a4,a5,a6,a7⟩:=hHeld;exact⟨(hb4.cell (p:=⟨g,P,none⟩) hg3).trans a0,(hc _).trans a1,(hc _).trans a2,(hc _).trans a3,(hc _).trans a4,(hc _).trans a5,(hc _).trans a6,(hc _).trans a7⟩
 refine hK.out _ _ hHeld4 (fun hHeld=> ?_);clear hK K hHeld4;have Hbw4:=qz (Hbd.out.trans (hb4.mono Hbd.out.size));have HR4:=qz (HRd.out.below hb4);have Hks4:=qz (Hksd.out.below hb4);obtain⟨HnA,HoA⟩:=hid2 hnA hoA;clear hnA hoA;have Hbd0:=qz Hbd.out;clear hb4 HCx HRd Hksd Hbd
 try simp only[Act.put,tk1,tk2,tk3,tk4,tk5,tk6]
 refine tkH 6 hHeld ?_;refine tkH 7 hHeld ?_;refine tkH 8 hHeld ?_;refine tkH 9 hHeld ?_;refine tkH 10 hHeld ?_;refine wpAnyH_done (by kernel_rfl) ?_ _;obtain⟨s1,d0,d1,d2,d3,d4,d5,d6⟩:=hHeld;clear d0 d1 d2 d3 d4 d5 d6;obtain⟨cur,hbg⟩:=HR4.out.blk;have fz:=hbg.frozen;have lg:=hbg.lt;have hgi: ∀i,((S i/\i<w.heap.size)\/wd.heap.size<=i)->i≠g:=fun i i1=>by
  rcases i1 with⟨_,i1⟩|i1<;>omega
 have hnA5:Bj (fun i=>(S i/\i<w.heap.size)\/wd.heap.size<=i) (w4.setCell ⟨g,P,none⟩ (.pointer (some ⟨bA,0,none⟩))) (Ck T x k v).1 bA:=HnA.out.later (by simp[World.setCell]) fun i i1 _=>Below.heap_setCell _ _ _ _ (hgi i i1);have HoA5:Hid (Nj (fun i=>(S i/\i<w.heap.size)\/wd.heap.size<=i) (w4.setCell ⟨g,P,none⟩ (.pointer (some ⟨bA,0,none⟩))) (Ck T x k v).2 q4):=HoA.out.later (by simp[World.setCell]) fun i i1 _=>Below.heap_setCell _ _ _ _ (hgi i i1);have hks5:Am (fun i=>(S i/\i<w.heap.size)) (w4.setCell ⟨g,P,none⟩ (.pointer (some ⟨bA,0,none⟩))) ks bs:=Hks4.out.later (by simp[World.setCell]) fun i i1 _=>Below.heap_setCell _ _ _ _ (hgi i (.inl i1));have HkA5:=qz ((hks5.mono (T:=fun i=>(S i/\i<w.heap.size)\/wd.heap.size<=i) fun i _ hi=> .inl hi).set P hnA5);have hR5:=HR4.out.put1 (i:=P) (p:=bA) (by omega);have HB5:=qz (Hbw4.out.setCell (p:=⟨g,P,none⟩) (by simp;omega) (.pointer (some ⟨bA,0,none⟩)));have hwd:w.heap.size<=wd.heap.size:=Hbd0.out.size;have hlen5:(bs.set P bA).length=ks.length:=by rw[List.length_set,hbl]
 have lg5:g<(w4.setCell ⟨g,P,none⟩ (.pointer (some ⟨bA,0,none⟩))).heap.size:=by simp only[World.setCell,Array.size_modify];exact lg
 have HR5:=qz hR5;clear hR5;clear hnA5 hks5 HR4 Hks4 HnA HoA Hbw4 hbg;go_upto_region 12 with(fail);generalize World.setCell w4 ⟨g,P,none⟩ (.pointer (some ⟨bA,0,none⟩))=w5 at HkA5 HoA5 HR5 HB5 lg5 ⊢;clear s1 fz lg;have hfin: ∀(w7:World) (e:Ending) (w6:World),Below w.heap.size w w7->SP (fun i=>(S i/\i<w.heap.size)\/wd.heap.size<=i) (Gd (Gw T ks k v)) w7 e w6->PO e w6:=fun w7 e w6 hB7 hP=>by
  obtain⟨hb6,b6,q6,rfl,hN,hO⟩:=hP;rw[<-HPO.out];have hz7:=hB7.size;have hmo: ∀i,i<w6.heap.size->(((S i/\i<w.heap.size)\/wd.heap.size<=i)\/w7.heap.size<=i)->(S i\/w.heap.size<=i):=fun i _ hi=>by
   rcases hi with(⟨hi,_⟩|hi)|hi
   . exact .inl hi
   . exact .inr (by omega)
   . exact .inr (by omega)
  exact⟨hB7.trans (hb6.mono hz7),b6,q6,rfl,hN.mono hmo,hO.mono hmo⟩
 have Hfin:=qz hfin;clear hfin;rcases hw2:(Ck T x k v).2 with _|m
 . rw[hw2]at HoA5 HeW;have hq:q4=none:=HoA5.out;subst hq;have hkW:Am (fun i=>(S i/\i<w.heap.size)\/wd.heap.size<=i) w5 (Gw T ks k v) (bs.set P bA):=by
    rw[HeW.out];simpa using HkA5.out
   have HC:=qz (HSp.out _ w5 _ _ HB5.out HR5.out hkW);have HB:=qz HB5.out;clear hkW HkA5 HoA5 HR5 HB5 HSp HeW;go_wp2_with (fail);(with_reducible refine(HC.out).mono ?_);intro e w6 hP;have HP:=qz (Hfin.out _ _ _ HB.out hP);obtain⟨_,b6,q6,rfl,_,_⟩:=hP;clear HC;go_wp2;exact HP.out
 . rw[hw2]at HoA5 HeW;obtain⟨b2,rfl,hm⟩: ∃b2,q4=some ⟨b2,0,none⟩/\Bj (fun i=>(S i/\i<w.heap.size)\/wd.heap.size<=i) w5 m b2:=HoA5.out;have hRR:Al (fun _=>False) wi.heap.size 25 1 (w5.alloc (.cells #[.pointer (some ⟨b2,0,none⟩)] 25)) (Ar (bs.set P bA)) (.slice (some ⟨g,0,none⟩) (bs.set P bA).length c):=by
    rw[hlen5];exact HR5.out.below (Aa _ _)
   have HB6:=qz (HB5.out.alloc HB5.out.size (.cells #[.pointer (some ⟨b2,0,none⟩)] 25));have hI:=Xw wi.heap.size (w5.alloc (.cells #[.pointer (some ⟨b2,0,none⟩)] 25)) g c (P+1) w5.heap.size b2 (bs.set P bA) hRR (by simp;omega) (by omega) (by omega) (Ah.new _ _ _) (by omega);rw[hlen5,show((P+1:Nat):Int)=(P:Int)+1 from by omega]at hI;have hwr:IntKind.i64.wrap ((P:Int)+1)=(P:Int)+1:=IntWalk.i64_in _ (by omega);obtain⟨HI,Hm⟩:=hid2 hI hm;clear hI hm;clear hRR;go_wp2_with (fail);(with_reducible refine(HI.out).mono ?_);rintro e w7 ⟨V',rfl,hR7,hg7⟩;have hB7:=HB6.out.grown hg7 HB6.out.size (fun j hj=>by have:=Option.some.inj hj;omega);have hk57: ∀i,((S i/\i<w.heap.size)\/wd.heap.size<=i)->i<w5.heap.size->w7.heap[i]? =w5.heap[i]? :=fun i i1 i2=>by
    rw[hg7.block i (by simp;omega) (fun e=>hgi i i1 (Option.some.inj e))];exact(Aa w5 (.cells #[.pointer (some ⟨b2,0,none⟩)] 25)).block i i2
   have hz57:w5.heap.size<=w7.heap.size:=by have:=hg7.size;simp at this;omega
   have hkA7:=HkA5.out.later hz57 hk57;have hm7:=Hm.out.later hz57 hk57;have hkW:Am (fun i=>(S i/\i<w.heap.size)\/wd.heap.size<=i) w7 (Gw T ks k v) ((bs.set P bA).take (P+1)++ [b2]++(bs.set P bA).drop (P+1)):=by
    rw[HeW.out];exact((hkA7.split (P+1)).1.app (Am.one hm7)).app (hkA7.split (P+1)).2
   have HC:=qz (HSp.out _ w7 _ _ hB7 hR7 hkW);have HB:=qz hB7;clear hkW hkA7 hm7 hk57 hB7 hR7 hg7 HkA5 HoA5 HR5 HB5 HSp HeW HI HB6 Hm;go_wp2_with (fail);(with_reducible refine(HC.out).mono ?_);intro e w6 hP;have HP:=qz (Hfin.out _ _ _ HB.out hP);obtain⟨_,b6,q6,rfl,_,_⟩:=hP;clear HC;go_wp2;exact HP.out
theorem Px (k:ByteArray) (v:Val) (c0 c1 c2 c3 c4 c5:Value): ∀(T:Nat) (S:Nat->Prop) (n:Nd) (lo b:Nat) (w:World),Bj S w n b->Cb lo T n->0<lo->(0<T->2<=lo)->Az (A6 n)->T<=100000->(A6 n).length+1<=100000000->Ac (A6 n)+Ac [(k,v)]<=100000000->Ae w w.heap.size (dV v) [c0,c1,c2,c3,c4,c5]->
 Calls Tryz.prog 57 #[.pointer (some ⟨b,0,none⟩),.agg #[.string k,c0,c1,c2,c3,c4,c5]] w (SP S (Ck T n k v) w)
 |0,S,.leaf es,lo,b,w,h,hn,hlo,_,ha,_,_,hb,hv=>by
  simp only[Cb]at hn;exact Vt S es b k v c0 c1 c2 c3 c4 c5 w h.now (by omega) hn.2 ha hv hb
 |0,_,.inner ks,_,_,_,_,hn,_,_,_,_,_,_,_=>absurd hn (by simp[Cb])
 |T+1,_,.leaf es,_,_,_,_,hn,_,_,_,_,_,_,_=>absurd hn (by simp[Cb])
 |T+1,S,.inner ks,lo,b,w,h,hn,_,h2,ha,hT,hN,hb,hv=>
  Vv S T ks lo b k v c0 c1 c2 c3 c4 c5 w h hn (h2 (by omega)) ha hv (by omega) hN hb fun S' x b' W hx hxo hxa hxl hxb hvW=>Px k v c0 c1 c2 c3 c4 c5 T S' x 4 b' W hx hxo (by omega) (fun _=>by omega) hxa (by omega) hxl hxb hvW
theorem Oy (w:World):Calls Tryz.prog 75 #[.pointer none] w fun e w'=>e=.returned (.slice none 0 0)/\w=w':=by
 go_enter Tryz.func75,Tryz.ntmps75;go_wp2;go_ret;exact⟨rfl,rfl⟩
theorem Vu (S:Nat->Prop) (k:ByteArray) (v:Val) (c0 c1 c2 c3 c4 c5:Value) (w:World) (hv:Ae w w.heap.size (dV v) [c0,c1,c2,c3,c4,c5]) (hb:Ac [(k,v)]<=100000000):
 Calls Tryz.prog 57 #[.pointer none,.agg #[.string k,c0,c1,c2,c3,c4,c5]] w (SP S (.leaf [(k,v)],none) w):=by
 obtain⟨k',b',n',t',la,ln,lc,oa,on,oc,rfl,rfl,rfl,rfl,rfl,rfl⟩:=M8 hv;obtain⟨PO,hPO⟩: ∃P:Ending->World->Prop,SP S (.leaf [(k,v)],none) w=P:=⟨_,rfl⟩;rw[hPO];obtain⟨wi,hwi⟩: ∃wi,w.alloc (.cells #[.string k,(.int .i64 k'),(.bool b'),(.int .i64 n'),(.string t'),(.slice la ln lc),(.slice oa on oc)] 71)=wi:=⟨_,rfl⟩;have Hbi:Hid (Below w.heap.size w wi):=hwi▸Aa _ _;have hxi:Ah wi w.heap.size 71 #[.string k,(.int .i64 k'),(.bool b'),(.int .i64 n'),(.string t'),(.slice la ln lc),(.slice oa on oc)]:=hwi▸Ah.new _ _ _;have HHt:=qz (Pg wi);have HEn:=qz (Oy wi);have HPl:=qz (Hu [] k none 0 0 wi ⟨none,0,rfl,fun d hd=>(by cases hd), [],rfl,.inl rfl⟩ (by simp[Az]) (by simp));have Hvi:=qz (Nr (k:=k) hv);have hSp: ∀(W:World) (V':Value),Below w.heap.size w W->Al (fun _=>True) w.heap.size 71 7 W (dO [(k,v)]) V'->Calls Tryz.prog 91 #[V',.func (.func 92) #[] #[]] W (SP S (.leaf [(k,v)],none) W):=fun W V' hB hR=>by
  obtain⟨a,c,rfl,hc⟩:=hR.slice_cap;exact Mk S [(k,v)] a _ c W hR.close (by simp[Az]) (by simp) hc hb
 have d0:=hxi.cell 0;have lx:=hxi.lt;obtain⟨Hxi,HPO,HSp⟩:=hid3 hxi hPO hSp;clear hxi hPO hSp;go_enter Tryz.func57,Tryz.ntmps57;go_upto_region 1 with(fail);go_wp2_with (fail);(with_reducible refine(HHt.out).mono ?_);rintro e w1 ⟨rfl,rfl⟩;go_wp2_with (fail);(with_reducible refine(HEn.out).mono ?_);rintro e w1 ⟨rfl,rfl⟩;go_wp2_with (fail);(with_reducible refine(HPl.out).mono ?_);rintro e w2 ⟨rfl,hb2⟩;have hbw2:=Hbi.out.trans (hb2.mono Hbi.out.size);have hx2:=Hxi.out.below hb2 lx;clear d0 lx hb2;have d0:=hx2.cell 0;have d1:=hx2.cell 1;have d2:=hx2.cell 2;have d3:=hx2.cell 3;have d4:=hx2.cell 4;have d5:=hx2.cell 5;have d6:=hx2.cell 6;have lx:=hx2.lt;have hb23:=hbw2.alloc hbw2.size (.cells #[.string k,(.int .i64 k'),(.bool b'),(.int .i64 n'),(.string t'),(.slice la ln lc),(.slice oa on oc)] 71);have hx3:=Ah.new w2 71 #[.string k,(.int .i64 k'),(.bool b'),(.int .i64 n'),(.string t'),(.slice la ln lc),(.slice oa on oc)];have hxP3:=Ag.of_old Hvi.out (Nat.le_refl _) hb23;have hI:=Xu w.heap.size (w2.alloc (.cells #[.string k,(.int .i64 k'),(.bool b'),(.int .i64 n'),(.string t'),(.slice la ln lc),(.slice oa on oc)] 71)) (.slice none 0 0) 0 [] (World.ownsRow_nil _ _ _ _) (by have:=hb23.size;simp at this ⊢;omega) (by omega) w2.heap.size [.string k,(.int .i64 k'),(.bool b'),(.int .i64 n'),(.string t'),(.slice la ln lc),(.slice oa on oc)] rfl (fun j u hj=>(hx3.cell j).trans (by rw[<-Array.getElem?_toList];exact hj)) (hxP3.now.len.2);rw[show((0:Nat):Int)=0 from rfl]at hI;obtain⟨HI,Hb23,HxP3⟩:=hid3 hI hb23 hxP3;clear hI hb23 hxP3;clear hx3 hx2 hbw2 HPl Hxi Hbi;have hat:Cy k ([]:List Ax)=0:=rfl;have hht:Bm k ([]:List Ax)=false:=rfl;rw[hat,hht];go_wp2_with (fail);(with_reducible refine(HI.out).mono ?_);rintro e w5 ⟨V',rfl,hR5,hg5,ha5⟩;have HB5:=qz (Hb23.out.grown hg5 Hb23.out.size (fun k hk=>by cases hk));have HR5:Hid (Al (fun _=>True) w.heap.size 71 7 w5 (dO [(k,v)]) V'):=by
  refine⟨_,hR5,Dh _,An.one ?_⟩;exact Ag.grow (V:=.slice none 0 0) (S0:=fun _=>True) (HxP3.out.mono fun i _ _=>⟨trivial,by simp[Value.ownBlock]⟩) hg5 ha5
 clear hR5 hg5 ha5 d0 d1 d2 d3 d4 d5 d6 lx HI;go_wp2_with (fail);(with_reducible refine(HSp.out _ _ HB5.out HR5.out).mono ?_);rintro e w6 ⟨hb6,b6,q6,rfl,hN,hO⟩;have HP:Hid (PO (.returned (.tuple #[.pointer (some ⟨b6,0,none⟩),.pointer q6])) w6):=by
  show PO _ _;rw[<-HPO.out];exact⟨HB5.out.trans (hb6.mono HB5.out.size),b6,q6,rfl,hN.mono (Ej HB5.out.size),hO.mono (Ej HB5.out.size)⟩
 clear hb6 hN hO;go_wp2;exact HP.out
def C5 (S:Nat->Prop) (w:World):Option (Nat×Nd)->Option Addr->Prop
 |none,p=>p=none
 |some (_,n),p=> ∃b,p=some ⟨b,0,none⟩/\Bj S w n b
def htT:Option (Nat×Nd)->Nat
 |none=>0
 |some (h,_)=>h
theorem C5.mono {S T:Nat->Prop} {w:World} {t:Option (Nat×Nd)} {p:Option Addr} (h:C5 S w t p) (hST: ∀i,i<w.heap.size->S i->T i):C5 T w t p:=by
 cases t with
 |none=>exact h
 |some t=>
  obtain⟨b,e,h1⟩:=h;exact⟨b,e,h1.mono hST⟩
theorem C5.later {S:Nat->Prop} {w w':World} {t:Option (Nat×Nd)} {p:Option Addr} (h:C5 S w t p) (hs:w.heap.size<=w'.heap.size) (hk: ∀i,S i->i<w.heap.size->w'.heap[i]? =w.heap[i]?):C5 S w' t p:=by
 cases t with
 |none=>exact h
 |some t=>
  obtain⟨b,e,h1⟩:=h;exact⟨b,e,h1.later hs hk⟩
theorem C5.below {S:Nat->Prop} {w w':World} {t:Option (Nat×Nd)} {p:Option Addr} (h:C5 S w t p) (hb:Below w.heap.size w w'):C5 S w' t p:=h.later hb.size fun i _ hi=>hb.block i hi
def Iy (S:Nat->Prop) (t:Option (Nat×Nd)) (w:World) (e:Ending) (w':World):Prop:=Below w.heap.size w w'/\ ∃p,e=.returned (.agg #[.pointer p])/\C5 (fun i=>S i\/w.heap.size<=i) w' t p
def Rz (r:Nd×Option Nd):Nd:=match r.2 with
 |none=>r.1
 |some m=>Ce [r.1,m]
def It (t:Option (Nat×Nd)) (k:ByteArray) (v:Val):Nd×Option Nd:=match t with
 |none=>(.leaf [(k,v)],none)
 |some (h,n)=>Ck h n k v
theorem Adc (t:Option (Nat×Nd)) (k:ByteArray) (v:Val): ∃h,Jy t k v=some (h,Rz (It t k v)):=by
 cases t with
 |none=>exact⟨0,rfl⟩
 |some t=>
  obtain⟨h,n⟩:=t;simp only[Jy,It,Rz];rcases Ck h n k v with⟨a,_|m⟩
  . exact⟨h,rfl⟩
  . exact⟨h+1,rfl⟩
theorem Ks {fn:Func} {t:Tmp} {tmps:Array Value} {W:World} {R:Nat} {a:Value} (h:fn.results= #[.cell t 27]) (hp:tmps.getD t undef=.pointer (some ⟨R,0,none⟩)) (hx:W.cell? ⟨R,0,none⟩=some a):
 (results fn tmps).run Tryz.prog W=.ok (.agg #[a]) W:=by
 have hp':tmps[t]?.getD undef=.pointer (some ⟨R,0,none⟩):=by simpa using hp
 simp[results,h,hp',go_sem,hx]
theorem R8 (S:Nat->Prop) (t:Option (Nat×Nd)) (p:Option Addr) (k:ByteArray) (v:Val) (c0 c1 c2 c3 c4 c5:Value) (w:World) (hS:C5 S w t p) (hok:M5 t) (hT:htT t<=90000) (hN:(Ba t).length+1<=100000000) (hb:Ac (Ba t)+Ac [(k,v)]<=100000000) (hv:Ae w w.heap.size (dV v) [c0,c1,c2,c3,c4,c5]):
 Calls Tryz.prog 31 #[.agg #[.pointer p],.string k,.agg #[c0,c1,c2,c3,c4,c5]] w (Iy S (Jy t k v) w):=by
 have ht:=hS.mono (T:=fun i=>S i/\i<w.heap.size) fun i hi h=>⟨h,hi⟩;clear hS;obtain⟨PO,hPO⟩: ∃P:Ending->World->Prop,Iy S (Jy t k v) w=P:=⟨_,rfl⟩;rw[hPO];have hrr:Tk (It t k v)=Bz k v (Ba t)/\ ∀m,(It t k v).2=some m->Cb 4 (htT t) (It t k v).1/\Cb 4 (htT t) m:=by
  cases t with
  |none=>exact⟨rfl,fun m e=>by cases e⟩
  |some t=>
   obtain⟨h,n⟩:=t;obtain⟨hn,ha⟩:=hok;obtain⟨l1,l2,l3⟩:=Es h;obtain⟨i1,i2,i3⟩:=Oh h (k:=k) (v:=v) (by omega:F9 h<=4) (.inl l2) l3 hn ha;exact⟨i1,i3⟩
 have hasc:Az (Ba t):=by
  cases t with
  |none=>exact List.Pairwise.nil
  |some t=>exact hok.2
 have hWi: ∀W,Below w.heap.size w W->Calls Tryz.prog 57 #[.pointer p,.agg #[.string k,c0,c1,c2,c3,c4,c5]] W (SP (fun i=>S i/\i<w.heap.size) (It t k v) W):=fun W hW=>by
  cases t with
  |none=>
   cases ht
   exact Vu _ k v c0 c1 c2 c3 c4 c5 W ((hv.below hW).more hW.size) (by omega)
  |some t=>
   obtain⟨h,n⟩:=t;obtain⟨hn,ha⟩:=hok;obtain⟨b,rfl,hb'⟩:=ht;obtain⟨l1,l2,l3⟩:=Es h;exact Px k v c0 c1 c2 c3 c4 c5 h _ n (F9 h) b W (hb'.below hW) hn l2 l3 ha (by have:h<=90000:=hT;omega) hN hb ((hv.below hW).more hW.size)
 obtain⟨hgt,hpt⟩:=Adc t k v;obtain⟨k',b',n',t',la,ln,lc,oa,on,oc,rfl,rfl,rfl,rfl,rfl,rfl⟩:=M8 hv;have hfin: ∀(W:World) (b:Nat),Below w.heap.size w W->Bj (fun i=>S i\/w.heap.size<=i) W (Rz (It t k v)) b->PO (.returned (.agg #[.pointer (some ⟨b,0,none⟩)])) W:=fun W b hW hN=>by
  rw[<-hPO,hpt];exact⟨hW,_,rfl,b,rfl,hN⟩
 obtain⟨w3,hw3⟩: ∃w3,((w.alloc (.cells #[.pointer p] 27)).alloc (.cells #[.int .i64 k',.bool b',.int .i64 n',.string t',.slice la ln lc,.slice oa on oc] 40)).alloc (.cells #[.pointer none] 27)=w3:=⟨_,rfl⟩;have hb3:Below w.heap.size w w3:=hw3▸((Aa w (.cells #[.pointer p] 27)).alloc (by simp) _).alloc (by simp;omega) _;have hx3:Ah w3 (w.heap.size+1+1) 27 #[.pointer none]:=by
  have:=Ah.new ((w.alloc (.cells #[.pointer p] 27)).alloc (.cells #[.int .i64 k',.bool b',.int .i64 n',.string t',.slice la ln lc,.slice oa on oc] 40)) 27 #[.pointer none]
  rwa [World.size_alloc,World.size_alloc,hw3]at this
 have hx1:Ah w3 w.heap.size 27 #[.pointer p]:=hw3▸((Ah.new w 27 #[.pointer p]).alloc _).alloc _;have hx2:Ah w3 (w.heap.size+1) 40 #[.int .i64 k',.bool b',.int .i64 n',.string t',.slice la ln lc,.slice oa on oc]:=by
  have:=(Ah.new (w.alloc (.cells #[.pointer p] 27)) 40 #[.int .i64 k',.bool b',.int .i64 n',.string t',.slice la ln lc,.slice oa on oc]).alloc (.cells #[.pointer none] 27)
  rwa [World.size_alloc,hw3]at this
 have e0:=hx1.cell 0;obtain⟨v0,v1,v2,v3,v4,v5⟩:=Dv hx2;have m1:=hx1.lt;have m2:=hx2.lt;clear hx1 hx2;have HC:=qz (hWi w3 hb3);obtain⟨Hfin,Hb3,Hx3,Hrr⟩:=hid4 hfin hb3 hx3 hrr;clear hfin hb3 hx3 hrr;clear hWi hPO ht hv hpt;go_enter Tryz.func31,Tryz.ntmps31;go_wp2_with (fail);clear e0 v0 v1 v2 v3 v4 v5 m1 m2;(with_reducible refine(HC.out).mono ?_);rintro e w4 ⟨hb4,b1,q,rfl,hN1,hO1⟩;have hw4:=Hb3.out.trans (hb4.mono Hb3.out.size);have hx4:=Hx3.out.below hb4 Hx3.out.lt;have d0:=hx4.cell 0;have fz:=hx4.frozen;have lx:=hx4.lt;have hz3:=Hb3.out.size;have hz4:=hb4.size;have hl3:=Hx3.out.lt;clear hw3;rcases hr2:(It t k v).2 with _|m
 . rw[hr2]at hO1
   cases hO1
   have hrt:Rz (It t k v)=(It t k v).1:=by unfold Rz;rw[hr2]
   have hxf:=(hx4.set_ 0 (.pointer (some ⟨b1,0,none⟩))).cell 0;have hBf:=hw4.setCell (p:=⟨w.heap.size+1+1,0,none⟩) (by simp;omega) (.pointer (some ⟨b1,0,none⟩));have hNf:Bj (fun i=>(S i/\i<w.heap.size)\/w3.heap.size<=i) (w4.setCell ⟨w.heap.size+1+1,0,none⟩ (.pointer (some ⟨b1,0,none⟩))) (It t k v).1 b1:=hN1.later (by simp[World.setCell]) fun i i1 _=>Below.heap_setCell _ _ _ _ (by rcases i1 with⟨_,i1⟩|i1<;>(simp;omega));have HP:=qz (Hfin.out _ b1 hBf (hrt▸hNf.mono fun i _ hi=>hi.imp (fun h=>h.1) (fun h=>by omega)));have Hxf:=qz hxf;clear hxf;clear hBf hNf hw4 hb4 hN1 hx4 hr2 hrt;go_wp2_with (fail);exact bodyPost_ret (Ks rfl rfl Hxf.out) rfl HP.out
 . rw[hr2]at hO1;obtain⟨b2,rfl,hN2⟩:=hO1;obtain⟨o1,o2⟩:=Hrr.out.2 m hr2;have hrt:Rz (It t k v)=Ce [(It t k v).1,m]:=by unfold Rz;rw[hr2]
   have hfl:Ap [(It t k v).1,m]=Bz k v (Ba t):=by
    rw[<-Hrr.out.1];unfold Tk;rw[hr2];simp[Ap]
   have hb5:=Aa w4 (.cells #[.pointer (some ⟨b1,0,none⟩),.pointer (some ⟨b2,0,none⟩)] 25);have Hw5:=qz (hw4.alloc hw4.size (.cells #[.pointer (some ⟨b1,0,none⟩),.pointer (some ⟨b2,0,none⟩)] 25));have Hx5:=qz (hx4.alloc (.cells #[.pointer (some ⟨b1,0,none⟩),.pointer (some ⟨b2,0,none⟩)] 25));have hv5:=Ah.new w4 25 #[.pointer (some ⟨b1,0,none⟩),.pointer (some ⟨b2,0,none⟩)];have hK:=(Am.one (hN1.below hb5)).app (Am.one (hN2.below hb5));have hRow:Ae (w4.alloc (.cells #[.pointer (some ⟨b1,0,none⟩),.pointer (some ⟨b2,0,none⟩)] 25)) (w4.alloc (.cells #[.pointer (some ⟨b1,0,none⟩),.pointer (some ⟨b2,0,none⟩)] 25)).heap.size (.row 1 (Ar [b1,b2])) [.slice (some ⟨w4.heap.size,0,none⟩) 2 2]:=
    ⟨_,2,rfl,Mv _, [.pointer (some ⟨b1,0,none⟩),.pointer (some ⟨b2,0,none⟩)],⟨[_], [_],rfl,⟨rfl,rfl⟩, [_], [],rfl,⟨rfl,rfl⟩,rfl⟩,.inr ⟨w4.heap.size,0,rfl,hv5.lt,fun j u hj=>by
      rw[Nat.zero_add];exact(hv5.cell j).trans (by rw[<-Array.getElem?_toList];exact hj)⟩⟩
   have hI:=Co (fun i=>(S i/\i<w.heap.size)\/w3.heap.size<=i) (htT t) [(It t k v).1,m] [b1,b2] _ 2 2 _ hRow hK (by rw[hfl];exact Jx hasc) (fun y hy=>by
    simp only[List.mem_cons,List.not_mem_nil,or_false]at hy;rcases hy with rfl|rfl
    . exact o1
    . exact o2) (by simp) (by simp) (by omega) (by
    rw[hfl];have:=Im (k:=k) (v:=v) (Ba t);omega)
   rw[<-hrt]at hI;have hz5:w4.heap.size<(w4.alloc (.cells #[.pointer (some ⟨b1,0,none⟩),.pointer (some ⟨b2,0,none⟩)] 25)).heap.size:=hv5.lt;have HI:=qz hI;clear hI;clear hK hRow hv5 hb5 hN1 hN2 hr2 hrt hfl o1 o2 hx4 hw4 hb4 d0 fz lx;go_wp2_with (fail);(with_reducible refine(HI.out).mono ?_);rintro e w6 ⟨hb6,b6,rfl,hN6⟩;have hw6:=Hw5.out.trans (hb6.mono Hw5.out.size);have hx6:=Hx5.out.below hb6 Hx5.out.lt;have d0:=hx6.cell 0;have fz:=hx6.frozen;have lx:=hx6.lt;have hxf:=(hx6.set_ 0 (.pointer (some ⟨b6,0,none⟩))).cell 0;have hBf:=hw6.setCell (p:=⟨w.heap.size+1+1,0,none⟩) (by simp;omega) (.pointer (some ⟨b6,0,none⟩));have hNf:=hN6.later (w':=w6.setCell ⟨w.heap.size+1+1,0,none⟩ (.pointer (some ⟨b6,0,none⟩))) (by simp[World.setCell]) fun i i1 _=>Below.heap_setCell _ _ _ _ (by rcases i1 with(⟨_,i1⟩|i1)|i1<;>(simp;omega));have HP:=qz (Hfin.out _ b6 hBf (hNf.mono fun i _ hi=>hi.elim (fun h=>h.imp (fun h=>h.1) (fun h=>by omega)) (fun h=> .inr (by omega))));have Hxf:=qz hxf;clear hxf;clear hBf hNf hw6 hb6 hN6 hx6 HI Hw5 Hx5;go_wp2_with (fail);exact bodyPost_ret (Ks rfl rfl Hxf.out) rfl HP.out
end Go.Proofs.YtnkmhaachfgaoaaGreatDoor
