/- Parts: commonplacelaw14.mapOf. Condition: a bulk of at most 5 * 10^7. -/
import Derived.Test.YtdbejcbbhomdbaaGreatDoorKPu35
import Derived.Test.YtdbejcbbhomdbaaGreatDoorKPu37
set_option maxHeartbeats 20000000
set_option maxRecDepth 100000
namespace Go.Proofs.YtdbejcbbhomdbaaGreatDoor
open Go Go.RowKit
def Sv (t:Option (Nat×Nd)):List Nd:=(t.map (·.2)).toList
theorem Ip (t:Option (Nat×Nd)):As (Sv t)=Cb t:=by
 cases t with
 |none=>rfl
 |some t=>simp[Sv,As,Cb]
theorem Zl {t:Option (Nat×Nd)} (h:T3 t) (hl:(Cb t).length<=1000000) (hb:Af (Cb t)<=100000000):CurOk [] (Sv t)/\Di (Sv t)<=3000000:=by
 have hg: ∀n ∈ Sv t,gd n:=by
  cases t with
  |none=>simp[Sv]
  |some t=>
   obtain⟨h',n⟩:=t;obtain⟨l1,l2,l3⟩:=Fe h';intro m hm;simp only[Sv,Option.map_some,Option.toList_some,List.mem_singleton]at hm;subst hm;exact⟨_,h',l2,l3,h.1⟩
 have ha:Bb (Cb t):=by
  cases t with
  |none=>simp[Cb,Bb]
  |some t=>exact h.2
 refine⟨⟨hg,by rw[List.nil_append,Ip];exact ha,by rw[List.nil_append,Ip];exact hb,by rw[List.nil_append,Ip];exact hl⟩, ?_⟩;have:=Tk fun k hk=>Abu k (hg k hk);rw[Ip]at this;omega
theorem Sl {S:Nat->Prop} {w:World} {t:Option (Nat×Nd)} {p:Option Addr} (h:Ff S w t p): ∃q:Option Nat,p=(q.map fun b=>(⟨b,0,none⟩:Addr))/\Am S w (Sv t) q.toList:=by
 cases t with
 |none=>
  refine⟨none,h, ?_⟩;simp[Sv,Am]
 |some t=>
  obtain⟨b,rfl,h1⟩:=h;exact⟨some b,rfl,Am.one h1⟩
theorem Pi {D:Nat->Prop} {w:World} {C:Nat} {V:Value} {t:Option (Nat×Nd)} {q:Option Nat} (hx:Ao w C Fy #[.slice none 0 0,V,.int .i64 0]) (hR:An (fun _=>False) (C+1) 43 1 w (Av q.toList) V) (hn:Am D w (Sv t) q.toList) (hw:Di (Sv t)<=3000000):D3 D w C V [] (Sv t):=by
 refine⟨none,0,0,q.toList,hx,⟨by omega,by simp only[List.length_nil];omega,by simp⟩,fun w'' _ _=>⟨none,0,by simp[dO],by simp[dO], [],rfl,.inl (by simp[dO])⟩, ?_,hn⟩;have:q.toList.reverse=q.toList:=by cases q<;>rfl
 rw[this];exact hR
theorem X4 (l:Nat) (X:World):(binOp .neq 147 (.func (.yield l) #[] #[]) .nilFunc).run Tryz.prog X=.ok (.bool true) X:=by
 have h: ∀d:Nat,(Op.equalIn (d+1) 147 (.func (.yield l) #[] #[]) .nilFunc).run Tryz.prog X=.ok false X:=fun d=>by
  simp[Op.equalIn,run_underlying Tryz.underlying147]
 simp only[binOp];simp[Op.equal,Op.maxDepth,h 9999]
def Abp (K0:Nat->Prop) (t1 t2:Option (Nat×Nd)) (p1 p2:Option Addr) (pa pb:Nat) (A:World):Prop:=
 Ao A pa 45 #[.pointer p1]/\Ao A pb 45 #[.pointer p2]/\Ff K0 A t1 p1/\Ff K0 A t2 p2/\K0 pa/\K0 pb/\ ∀i,K0 i->i<A.heap.size
theorem Rf (K0:Nat->Prop) (t1 t2:Option (Nat×Nd)) (p1 p2:Option Addr) (pa pb:Nat) (ok1:T3 t1) (ok2:T3 t2) (l1:(Cb t1).length<=1000000) (l2:(Cb t2).length<=1000000) (b1:Af (Cb t1)<=100000000) (b2:Af (Cb t2)<=100000000):
 Ur Tryz.prog 89 #[.pointer (some ⟨pa,0,none⟩),.pointer (some ⟨pb,0,none⟩)] I7 Zn K0 (Bx (Cb t1) (Cb t2)) (Abp K0 t1 t2 p1 p2 pa pb):=by
 rintro n l J W hJn hY ⟨ha,hb,hT1,hT2,hKa,hKb,hK⟩ hJ0;obtain⟨q1,rfl,hn1⟩:=Sl hT1;obtain⟨q2,rfl,hn2⟩:=Sl hT2;obtain⟨c1,m1⟩:=Zl ok1 l1 b1;obtain⟨c2,m2⟩:=Zl ok2 l2 b2;obtain⟨xs,hxs⟩: ∃xs,Bx (Cb t1) (Cb t2)=xs:=⟨_,rfl⟩;rw[hxs]at hY ⊢;obtain⟨PO,hPO⟩: ∃P:Ending->World->Prop,(fun e B=>(∃v,e=.returned v)/\ ∃T K,J xs T K B)=P:=⟨_,rfl⟩;rw[hPO];have d1:=ha.cell 0;have d2:=hb.cell 0;have la:=ha.lt;have lb:=hb.lt;obtain⟨A1,hA1⟩: ∃A1,(q1.map fun b=>(⟨b,0,none⟩:Addr))=A1:=⟨_,rfl⟩;obtain⟨A2,hA2⟩: ∃A2,(q2.map fun b=>(⟨b,0,none⟩:Addr))=A2:=⟨_,rfl⟩;have hs1:=fun w=>Lo q1 w;have hs2:=fun w=>Lo q2 w;rw[hA1]at d1 hs1 ha;rw[hA2]at d2 hs2 hb;obtain⟨Hs1,Hs2,HPO,Ha,Hb,Hn1,Hn2,C1,C2,HJ0,HK⟩:=hid11 hs1 hs2 hPO ha hb hn1 hn2 c1 c2 hJ0 hK;clear hs1 hs2 hPO ha hb hn1 hn2 c1 c2 hJ0 hK;clear hT1 hT2 hA1 hA2;refine callsIn_wide.2 ?_;show Calls _ _ #[.func (.yield l) #[] #[],.pointer (some ⟨pa,0,none⟩),.pointer (some ⟨pb,0,none⟩)] _ _;have hne:=X4 l;go_enter Tryz.func89,Tryz.ntmps89;go_upto_region 1 with(fail);refine wp_region_held_drew (S:=fun Y:World=>Y.cell? ⟨pa,0,none⟩=some (.pointer A1)/\Y.cell? ⟨pb,0,none⟩=some (.pointer A2)) (by kernel_rfl) ⟨d1,d2⟩ (fun hHeld=> ?_);refine tkH 0 hHeld ?_;refine tkH 2 hHeld ?_;refine tkH 4 hHeld ?_;refine Iu 1 fun K hKK=> ?_;go_simp;(with_reducible refine(Hs1.out W.drew).mono ?_);rintro e w1 ⟨hb1,X,Vx,rfl,hXz,hx1,hr1⟩;refine hKK.out _ _ ⟨(Ha.out.drew.below hb1 Ha.out.drew.lt).cell 0,(Hb.out.drew.below hb1 Hb.out.drew.lt).cell 0⟩ (fun hHeld=> ?_);clear hKK K
 try simp only[Act.put,tk1,tk2,tk3,tk4,tk5,tk6]
 refine Iu 3 fun K hKK=> ?_;go_simp;(with_reducible refine(Hs2.out w1).mono ?_);rintro e w2 ⟨hb2,Y,Vy,rfl,hYz,hy2,hr2⟩;have hW1:Below W.heap.size W w1:=(Below.drew (Below.refl _ W)).trans hb1;have hW2:Below W.heap.size W w2:=hW1.trans (hb2.mono hW1.size);refine hKK.out _ _ ⟨(Ha.out.below hW2 Ha.out.lt).cell 0,(Hb.out.below hW2 Hb.out.lt).cell 0⟩ (fun hHeld=> ?_);clear hKK K
 try simp only[Act.put,tk1,tk2,tk3,tk4,tk5,tk6]
 have hx2:=hx1.below hb2 hx1.lt;have hr1':=hr1.below hb2;have lX:=hx1.lt;have lY:=hy2.lt;have hXb:=hr1.base;have hYb:=hr2.base;have hz1:=hW1.size;obtain⟨TT,hTT⟩: ∃TT:Nat->Prop,(fun i=>i=X\/i=Y\/Vx.ownBlock=some i\/Vy.ownBlock=some i)=TT:=⟨_,rfl⟩;obtain⟨KK,hKK2⟩: ∃KK:Nat->Prop,(fun i=>K0 i\/(W.heap.size<=i/\i<w2.heap.size))=KK:=⟨_,rfl⟩;have hz2:=hb2.size;have hXz':W.heap.size<=X:=hXz;have hTb: ∀i,TT i->W.heap.size<=i/\i<w2.heap.size:=by
  rw[<-hTT];rintro i (h|h|h|h)
  . omega
  . omega
  . have:=hXb i h;omega
  . have:=hYb i h;omega
 have hTo: ∀i,K0 i->KK i/\ ¬TT i:=fun i hi=>⟨by rw[<-hKK2];exact .inl hi,fun h=>by have:=hTb i h;have:=HK.out i hi;omega⟩;have hTC:TC w2 TT KK X Y Vx Vy [] (Sv t1) [] (Sv t2):=by
  refine⟨Pi hx2 hr1' ((Hn1.out.below hW2).mono fun i _ hi=>hTo i hi) m1,Pi hy2 hr2 ((Hn2.out.below hW2).mono fun i _ hi=>hTo i hi) m2,C1.out,C2.out, ?_, ?_, ?_, ?_,by omega, ?_⟩
  . rw[<-hKK2];rintro i (h|h)
    . exact Nat.lt_of_lt_of_le (HK.out i h) hW2.size
    . exact h.2
  . intro i h;rw[<-hKK2];exact .inr (hTb i h)
  . rw[<-hTT];exact⟨.inl rfl,fun g e=>⟨.inr (.inr (.inl e)),by have:=hXb g e;omega⟩⟩
  . rw[<-hTT];exact⟨.inr (.inl rfl),fun g e=>⟨.inr (.inr (.inr e)),by have:=hYb g e;omega⟩⟩
  . intro g e e';have:=hXb g e;have:=hYb g e';omega
 have hJ2:J [] TT KK w2/\Ao w2 pa 45 #[.pointer A1]/\Ao w2 pb 45 #[.pointer A2]/\(KK pa/\ ¬TT pa)/\(KK pb/\ ¬TT pb):=
  ⟨hJn [] _ _ W TT KK w2 HJ0.out (KB.of_below hW2) (fun i hi=>⟨⟨fun h=>by have:=hTb i h;omega,fun h=>h.elim⟩,⟨fun h=>by
    rw[<-hKK2]at h;rcases h with h|h
    . exact h
    . omega,fun h=>(hTo i h).1⟩⟩) hTC.kb,Ha.out.below hW2 Ha.out.lt,Hb.out.below hW2 Hb.out.lt,hTo _ hKa,hTo _ hKb⟩
 have hWk:=callsIn_wide.1 (Sn n l xs (fun s T K A=>J s T K A/\Ao A pa 45 #[.pointer A1]/\Ao A pb 45 #[.pointer A2]/\(K pa/\ ¬T pa)/\(K pb/\ ¬T pb)) (by
  rintro s T K A T' K' B ⟨j1,j2,j3,j4,j5⟩ h1 h2 h3;exact⟨hJn _ _ _ _ _ _ _ j1 h1 h2 h3,(h1.block _ j2.lt j4.2).trans j2,(h1.block _ j3.lt j5.2).trans j3,⟨(h2 _ j2.lt).2.2 j4.1,fun h=>j4.2 ((h2 _ j2.lt).1.1 h)⟩,⟨(h2 _ j3.lt).2.2 j5.1,fun h=>j5.2 ((h2 _ j3.lt).1.1 h)⟩⟩) (by
  rintro pre x rest q T K A e1 ⟨j1,j2,j3,j4,j5⟩ h1 h2 h3;obtain⟨fn,tmps,assign,body,hy,hR⟩:=hY pre x rest q T K A e1 j1 h1 h2 h3;refine⟨fn,tmps,assign,body,hy,hR.mono ?_⟩;rintro e B ⟨rfl,k1,k2⟩;exact⟨rfl,⟨k1,(k2.block _ j2.lt fun h=>h j4.1).trans j2,(k2.block _ j3.lt fun h=>h j5.1).trans j3,j4,j5⟩,k2⟩) [] _ _ X Y Vx Vy [] [] (Sv t1) (Sv t2) w2 hJ2 hTC (by rw[List.nil_append,List.nil_append,List.nil_append,Ip,Ip,hxs]))
 refine Iu 5 fun K hKK=> ?_;go_simp;(with_reducible refine hWk.mono ?_);rintro e w3 ⟨rfl,T,K3,hJ3,ha3,hb3,_⟩;refine hKK.out _ _ ⟨ha3.cell 0,hb3.cell 0⟩ (fun hHeld=> ?_);have HP:Hid (PO (.returned (.tuple #[])) w3):=by
  show PO _ _;rw[<-HPO.out];exact⟨⟨_,rfl⟩,T,K3,hJ3⟩
 clear hKK K hWk hJn hY hJ2 hJ3 hTC
 try simp only[Act.put,tk1,tk2,tk3,tk4,tk5,tk6]
 refine wpAnyH_done (by kernel_rfl) ?_ _;clear hHeld;go_wp2;exact bodyPost_end (Ds rfl) rfl HP.out
theorem T8 (es:List A0) (e:A0):Gf (es++ [e])=A7 e.1 e.2 (Gf es):=by unfold Gf;rw[List.foldl_append];rfl
theorem Wk (es:List A0):(Gf es).length<=es.length/\Af (Gf es)<=Af es:=by
 obtain⟨_,h2,h3,h4⟩:=Dw es;rw[h2]at h3 h4;exact⟨h3,h4⟩
def MOI (w:World) (es:List A0) (q:Nat) (wr:World):Prop:=Below w.heap.size w wr/\ ∃V,Sy (fun i=>i<w.heap.size) w.heap.size wr w.heap.size V (Gf (es.take q))
def Pl (l:List A0) (w:World) (e:Ending) (w':World):Prop:=Below w.heap.size w w'/\e=.returned (.pointer (some ⟨w.heap.size,0,none⟩))/\ ∃V,Sy (fun i=>i<w.heap.size) w.heap.size w' w.heap.size V l
theorem La (es:List A0) (a:Option Addr) (n c:Nat) (w:World) (h:Ai w w.heap.size (.row 7 (dO es)) [.slice a n c]) (hb:Af es<=50000000):Calls Tryz.prog 21 #[.slice a n c] w (Pl (Gf es) w):=by
 obtain⟨PO,hPO⟩: ∃P:Ending->World->Prop,Pl (Gf es) w=P:=⟨_,rfl⟩;rw[hPO];have hn:=h.row_len;rw[Az]at hn;subst hn;have hln:=Aw es;have HI0:Hid (MOI w es 0 (w.alloc (.cells #[.slice none 0 0] Xd))):=⟨Ac _ _,_,Ao.new _ _ _,by simpa[Gf,dO]using An.nil (fun i=>i<w.heap.size) w.heap.size 84 7 (w.alloc (.cells #[.slice none 0 0] Xd)),fun e=>by cases e⟩;have HT:=qz (Ag.of_old h (Nat.le_refl _) (Below.refl _ _));obtain⟨H,HPO⟩:=hid2 h hPO;clear h hPO;go_enter Tryz.func21,Tryz.ntmps21;go_wp2_with (fail);go_loopw [4] (fun i wr=> ∃q:Nat,i=.int .i64 q/\q<=es.length/\Hid (MOI w es q wr)) (fun i _=>es.length - (intOf i).toNat)
 case atStart=>exact⟨0,rfl,Nat.zero_le _,HI0⟩
 case round=>
  obtain⟨q,rfl,hq,hI⟩:=hrel;clear HI0;obtain⟨hbw,V,hM⟩:=hI.out;by_cases hlt:q<es.length
  . obtain⟨⟨key,⟨k',b',n',t',l',o'⟩⟩,hx⟩: ∃v,es[q]? =some v:=⟨_,List.getElem?_eq_getElem hlt⟩;have hz:=hbw.size;obtain⟨g,off,rfl,hg,la,lc,oa,oc,hv0,d0,d1,d2,d3,d4,d5,d6⟩:=Hu HT.out hx;have hv:=hv0.below hbw;have hgr:g<wr.heap.size:=by omega
    obtain⟨c0,c1,c2,c3,c4,c5,c6⟩:wr.cell? ⟨g,off+q*7,none⟩=some (.string key)/\wr.cell? ⟨g,off+q*7+1,none⟩=some (.int .i64 k')/\wr.cell? ⟨g,off+q*7+2,none⟩=some (.bool b')/\wr.cell? ⟨g,off+q*7+3,none⟩=some (.int .i64 n')/\wr.cell? ⟨g,off+q*7+4,none⟩=some (.string t')/\wr.cell? ⟨g,off+q*7+5,none⟩=some (.slice la l'.length lc)/\wr.cell? ⟨g,off+q*7+6,none⟩=some (.slice oa o'.length oc):=⟨(hbw.cell hg).trans d0,(hbw.cell hg).trans d1,(hbw.cell hg).trans d2,(hbw.cell hg).trans d3,(hbw.cell hg).trans d4,(hbw.cell hg).trans d5,(hbw.cell hg).trans d6⟩;have htk:Gf (es.take (q+1))=A7 key (.mk k' b' n' t' l' o') (Gf (es.take q)):=by
     rw[List.take_add_one,hx,Option.toList_some,T8]
    have hpl:=(Wk (es.take q)).1;rw[List.length_take]at hpl;have hC:=Jn (fun i=>i<w.heap.size) w.heap.size (Gf (es.take q)) w.heap.size V key (.mk k' b' n' t' l' o') k' b' n' t' la l'.length lc oa o'.length oc wr.drew ⟨hM.1.drew,hM.2.1.below (Below.drew (Below.refl _ _)),hM.2.2⟩ hz (hv.below (Below.drew (Below.refl _ _))) (by omega) (by omega);rw[<-htk]at hC;have q1:(q:Int)<(es.length:Int):=by omega
    have q0:(0:Int)<=q:=by omega
    obtain⟨HC,Hbw⟩:=hid2 hC hbw;clear hC hbw;clear hI hM hv hv0 htk hx d0 d1 d2 d3 d4 d5 d6;go_upto_region 5 with(fail);refine wp_region_held_drew (S:=fun Y:World=>Y.cell? ⟨g,off+q*7,none⟩=some (.string key)/\Y.cell? ⟨g,off+q*7+1,none⟩=some (.int .i64 k')/\Y.cell? ⟨g,off+q*7+2,none⟩=some (.bool b')/\Y.cell? ⟨g,off+q*7+3,none⟩=some (.int .i64 n')/\Y.cell? ⟨g,off+q*7+4,none⟩=some (.string t')/\Y.cell? ⟨g,off+q*7+5,none⟩=some (.slice la l'.length lc)/\Y.cell? ⟨g,off+q*7+6,none⟩=some (.slice oa o'.length oc)) (by kernel_rfl) ⟨c0,c1,c2,c3,c4,c5,c6⟩ (fun hHeld=> ?_);refine tkH 0 hHeld ?_;refine tkH 1 hHeld ?_;refine tkH 2 hHeld ?_;refine tkH 3 hHeld ?_;refine tkH 4 hHeld ?_;refine tkH 5 hHeld ?_;refine tkH 6 hHeld ?_;refine tkH 7 hHeld ?_;refine tkH 8 hHeld ?_;refine tkH 9 hHeld ?_;refine tkH 10 hHeld ?_;refine Iu 11 fun K hK=> ?_;go_simp;(with_reducible refine(HC.out).mono ?_);rintro e w2 ⟨rfl,hk2,V2,hM2⟩;have hk2':KB (fun i=>i=w.heap.size) wr w2:=(KB.of_below (S:=fun i=>i=w.heap.size) (Below.drew (Below.refl _ wr))).trans hk2 fun _ _ h=>h;have hcell: ∀o,w2.cell? ⟨g,o,none⟩=wr.cell? ⟨g,o,none⟩:=fun o=>World.cell?_of_block (hk2'.block g hgr (fun e=>by have e2:g=w.heap.size:=e;omega));have HI2:Hid (MOI w es (q+1) w2):=⟨Hbw.out.trans (hk2'.below (fun k h=>by subst h;exact Nat.le_refl _) hz),V2,hM2⟩;refine hK.out _ _ ⟨(hcell _).trans c0,(hcell _).trans c1,(hcell _).trans c2,(hcell _).trans c3,(hcell _).trans c4,(hcell _).trans c5,(hcell _).trans c6⟩ (fun hHeld=> ?_);clear hK K hk2 hk2' hM2 hcell
    try simp only[Act.put,tk1,tk2,tk3,tk4,tk5,tk6]
    refine wpAnyH_done (by kernel_rfl) ?_ _;clear hHeld;go_wp2;go_roundw
    case rel=>exact⟨q+1,by go_num,by omega,HI2⟩
    case measure=>simp only[intOf];omega
  . obtain rfl:q=es.length:=by omega
    rw[List.take_length]at hM;have HP:Hid (PO (.returned (.pointer (some ⟨w.heap.size,0,none⟩))) wr):=by
     show PO _ _;rw[<-HPO.out];exact⟨hbw,rfl,V,hM⟩
    have q1: ¬(es.length:Int)<(es.length:Int):=by omega
    clear hI hbw hM;go_wp2;exact HP.out
end Go.Proofs.YtdbejcbbhomdbaaGreatDoor
