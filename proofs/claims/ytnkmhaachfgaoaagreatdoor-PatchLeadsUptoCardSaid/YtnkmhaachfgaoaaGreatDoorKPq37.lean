/- Parts: diff.Diff's iterator over two trees: it yields their changes. Condition: at most 10^6 entries, a bulk of at most 10^8. -/
import Derived.Test.YtnkmhaachfgaoaaGreatDoorKPq34
set_option maxHeartbeats 20000000
set_option maxRecDepth 100000
namespace Go.Proofs.YtnkmhaachfgaoaaGreatDoor
open Go Go.RowKit
def Zf (t:Option (Nat×Nd)):List Nd:=(t.map (·.2)).toList
theorem Lz (t:Option (Nat×Nd)):Ap (Zf t)=Ba t:=by
 cases t with
 |none=>rfl
 |some t=>simp[Zf,Ap,Ba]
theorem Agh {t:Option (Nat×Nd)} (h:M5 t) (hl:(Ba t).length<=1000000) (hb:Ac (Ba t)<=100000000):CurOk [] (Zf t)/\Ev (Zf t)<=3000000:=by
 have hg: ∀n ∈ Zf t,gd n:=by
  cases t with
  |none=>simp[Zf]
  |some t=>
   obtain⟨h',n⟩:=t;obtain⟨l1,l2,l3⟩:=Es h';intro m hm;simp only[Zf,Option.map_some,Option.toList_some,List.mem_singleton]at hm;subst hm;exact⟨_,h',l2,l3,h.1⟩
 have ha:Az (Ba t):=by
  cases t with
  |none=>simp[Ba,Az]
  |some t=>exact h.2
 refine⟨⟨hg,by rw[List.nil_append,Lz];exact ha,by rw[List.nil_append,Lz];exact hb,by rw[List.nil_append,Lz];exact hl⟩, ?_⟩;have:=Aab fun k hk=>Ai4 k (hg k hk);rw[Lz]at this;omega
theorem Y5 {S:Nat->Prop} {w:World} {t:Option (Nat×Nd)} {p:Option Addr} (h:C5 S w t p): ∃q:Option Nat,p=(q.map fun b=>(⟨b,0,none⟩:Addr))/\Am S w (Zf t) q.toList:=by
 cases t with
 |none=>
  refine⟨none,h, ?_⟩;simp[Zf,Am]
 |some t=>
  obtain⟨b,rfl,h1⟩:=h;exact⟨some b,rfl,Am.one h1⟩
theorem T9 {D:Nat->Prop} {w:World} {C:Nat} {V:Value} {t:Option (Nat×Nd)} {q:Option Nat} (hx:Ah w C Je #[.slice none 0 0,V,.int .i64 0]) (hR:Al (fun _=>False) (C+1) 25 1 w (Ar q.toList) V) (hn:Am D w (Zf t) q.toList) (hw:Ev (Zf t)<=3000000):F0 D w C V [] (Zf t):=by
 refine⟨none,0,0,q.toList,hx,⟨by omega,by simp only[List.length_nil];omega,by simp⟩,fun w'' _ _=>⟨none,0,by simp[dO],by simp[dO], [],rfl,.inl (by simp[dO])⟩, ?_,hn⟩;have:q.toList.reverse=q.toList:=by cases q<;>rfl
 rw[this];exact hR
theorem Ae0 (l:Nat) (X:World):(binOp .neq 119 (.func (.yield l) #[] #[]) .nilFunc).run Tryz.prog X=.ok (.bool true) X:=by
 have h: ∀d:Nat,(Op.equalIn (d+1) 119 (.func (.yield l) #[] #[]) .nilFunc).run Tryz.prog X=.ok false X:=fun d=>by
  simp[Op.equalIn,run_underlying Tryz.underlying119]
 simp only[binOp];simp[Op.equal,Op.maxDepth,h 9999]
def Aiz (K0:Nat->Prop) (t1 t2:Option (Nat×Nd)) (p1 p2:Option Addr) (pa pb:Nat) (A:World):Prop:=
 Ah A pa 27 #[.pointer p1]/\Ah A pb 27 #[.pointer p2]/\C5 K0 A t1 p1/\C5 K0 A t2 p2/\K0 pa/\K0 pb/\ ∀i,K0 i->i<A.heap.size
theorem Xb (K0:Nat->Prop) (t1 t2:Option (Nat×Nd)) (p1 p2:Option Addr) (pa pb:Nat) (ok1:M5 t1) (ok2:M5 t2) (l1:(Ba t1).length<=1000000) (l2:(Ba t2).length<=1000000) (b1:Ac (Ba t1)<=100000000) (b2:Ac (Ba t2)<=100000000):
 Abo Tryz.prog 68 #[.pointer (some ⟨pa,0,none⟩),.pointer (some ⟨pb,0,none⟩)] Mb ChE K0 (Bq (Ba t1) (Ba t2)) (Aiz K0 t1 t2 p1 p2 pa pb):=by
 rintro n l J W hJn hY ⟨ha,hb,hT1,hT2,hKa,hKb,hK⟩ hJ0;obtain⟨q1,rfl,hn1⟩:=Y5 hT1;obtain⟨q2,rfl,hn2⟩:=Y5 hT2;obtain⟨c1,m1⟩:=Agh ok1 l1 b1;obtain⟨c2,m2⟩:=Agh ok2 l2 b2;obtain⟨xs,hxs⟩: ∃xs,Bq (Ba t1) (Ba t2)=xs:=⟨_,rfl⟩;rw[hxs]at hY ⊢;obtain⟨PO,hPO⟩: ∃P:Ending->World->Prop,(fun e B=>(∃v,e=.returned v)/\ ∃T K,J xs T K B)=P:=⟨_,rfl⟩;rw[hPO];have d1:=ha.cell 0;have d2:=hb.cell 0;have la:=ha.lt;have lb:=hb.lt;obtain⟨A1,hA1⟩: ∃A1,(q1.map fun b=>(⟨b,0,none⟩:Addr))=A1:=⟨_,rfl⟩;obtain⟨A2,hA2⟩: ∃A2,(q2.map fun b=>(⟨b,0,none⟩:Addr))=A2:=⟨_,rfl⟩;have hs1:=fun w=>Pu q1 w;have hs2:=fun w=>Pu q2 w;rw[hA1]at d1 hs1 ha;rw[hA2]at d2 hs2 hb;obtain⟨Hs1,Hs2,HPO,Ha,Hb,Hn1,Hn2,C1,C2,HJ0,HK⟩:=hid11 hs1 hs2 hPO ha hb hn1 hn2 c1 c2 hJ0 hK;clear hs1 hs2 hPO ha hb hn1 hn2 c1 c2 hJ0 hK;clear hT1 hT2 hA1 hA2;refine callsIn_wide.2 ?_;show Calls _ _ #[.func (.yield l) #[] #[],.pointer (some ⟨pa,0,none⟩),.pointer (some ⟨pb,0,none⟩)] _ _;have hne:=Ae0 l;go_enter Tryz.func68,Tryz.ntmps68;go_upto_region 1 with(fail);refine wp_region_held_drew (S:=fun Y:World=>Y.cell? ⟨pa,0,none⟩=some (.pointer A1)/\Y.cell? ⟨pb,0,none⟩=some (.pointer A2)) (by kernel_rfl) ⟨d1,d2⟩ (fun hHeld=> ?_);refine tkH 0 hHeld ?_;refine tkH 2 hHeld ?_;refine tkH 4 hHeld ?_;refine C4 1 fun K hKK=> ?_;go_simp;(with_reducible refine(Hs1.out W.drew).mono ?_);rintro e w1 ⟨hb1,X,Vx,rfl,hXz,hx1,hr1⟩;refine hKK.out _ _ ⟨(Ha.out.drew.below hb1 Ha.out.drew.lt).cell 0,(Hb.out.drew.below hb1 Hb.out.drew.lt).cell 0⟩ (fun hHeld=> ?_);clear hKK K
 try simp only[Act.put,tk1,tk2,tk3,tk4,tk5,tk6]
 refine C4 3 fun K hKK=> ?_;go_simp;(with_reducible refine(Hs2.out w1).mono ?_);rintro e w2 ⟨hb2,Y,Vy,rfl,hYz,hy2,hr2⟩;have hW1:Below W.heap.size W w1:=(Below.drew (Below.refl _ W)).trans hb1;have hW2:Below W.heap.size W w2:=hW1.trans (hb2.mono hW1.size);refine hKK.out _ _ ⟨(Ha.out.below hW2 Ha.out.lt).cell 0,(Hb.out.below hW2 Hb.out.lt).cell 0⟩ (fun hHeld=> ?_);clear hKK K
 try simp only[Act.put,tk1,tk2,tk3,tk4,tk5,tk6]
 have hx2:=hx1.below hb2 hx1.lt;have hr1':=hr1.below hb2;have lX:=hx1.lt;have lY:=hy2.lt;have hXb:=hr1.base;have hYb:=hr2.base;have hz1:=hW1.size;obtain⟨TT,hTT⟩: ∃TT:Nat->Prop,(fun i=>i=X\/i=Y\/Vx.ownBlock=some i\/Vy.ownBlock=some i)=TT:=⟨_,rfl⟩;obtain⟨KK,hKK2⟩: ∃KK:Nat->Prop,(fun i=>K0 i\/(W.heap.size<=i/\i<w2.heap.size))=KK:=⟨_,rfl⟩;have hz2:=hb2.size;have hXz':W.heap.size<=X:=hXz;have hTb: ∀i,TT i->W.heap.size<=i/\i<w2.heap.size:=by
  rw[<-hTT];rintro i (h|h|h|h)
  . omega
  . omega
  . have:=hXb i h;omega
  . have:=hYb i h;omega
 have hTo: ∀i,K0 i->KK i/\ ¬TT i:=fun i hi=>⟨by rw[<-hKK2];exact .inl hi,fun h=>by have:=hTb i h;have:=HK.out i hi;omega⟩;have hTC:TC w2 TT KK X Y Vx Vy [] (Zf t1) [] (Zf t2):=by
  refine⟨T9 hx2 hr1' ((Hn1.out.below hW2).mono fun i _ hi=>hTo i hi) m1,T9 hy2 hr2 ((Hn2.out.below hW2).mono fun i _ hi=>hTo i hi) m2,C1.out,C2.out, ?_, ?_, ?_, ?_,by omega, ?_⟩
  . rw[<-hKK2];rintro i (h|h)
    . exact Nat.lt_of_lt_of_le (HK.out i h) hW2.size
    . exact h.2
  . intro i h;rw[<-hKK2];exact .inr (hTb i h)
  . rw[<-hTT];exact⟨.inl rfl,fun g e=>⟨.inr (.inr (.inl e)),by have:=hXb g e;omega⟩⟩
  . rw[<-hTT];exact⟨.inr (.inl rfl),fun g e=>⟨.inr (.inr (.inr e)),by have:=hYb g e;omega⟩⟩
  . intro g e e';have:=hXb g e;have:=hYb g e';omega
 have hJ2:J [] TT KK w2/\Ah w2 pa 27 #[.pointer A1]/\Ah w2 pb 27 #[.pointer A2]/\(KK pa/\ ¬TT pa)/\(KK pb/\ ¬TT pb):=
  ⟨hJn [] _ _ W TT KK w2 HJ0.out (KB.of_below hW2) (fun i hi=>⟨⟨fun h=>by have:=hTb i h;omega,fun h=>h.elim⟩,⟨fun h=>by
    rw[<-hKK2]at h;rcases h with h|h
    . exact h
    . omega,fun h=>(hTo i h).1⟩⟩) hTC.kb,Ha.out.below hW2 Ha.out.lt,Hb.out.below hW2 Hb.out.lt,hTo _ hKa,hTo _ hKb⟩
 have hWk:=callsIn_wide.1 (Y7 n l xs (fun s T K A=>J s T K A/\Ah A pa 27 #[.pointer A1]/\Ah A pb 27 #[.pointer A2]/\(K pa/\ ¬T pa)/\(K pb/\ ¬T pb)) (by
  rintro s T K A T' K' B ⟨j1,j2,j3,j4,j5⟩ h1 h2 h3;exact⟨hJn _ _ _ _ _ _ _ j1 h1 h2 h3,(h1.block _ j2.lt j4.2).trans j2,(h1.block _ j3.lt j5.2).trans j3,⟨(h2 _ j2.lt).2.2 j4.1,fun h=>j4.2 ((h2 _ j2.lt).1.1 h)⟩,⟨(h2 _ j3.lt).2.2 j5.1,fun h=>j5.2 ((h2 _ j3.lt).1.1 h)⟩⟩) (by
  rintro pre x rest q T K A e1 ⟨j1,j2,j3,j4,j5⟩ h1 h2 h3;obtain⟨fn,tmps,assign,body,hy,hR⟩:=hY pre x rest q T K A e1 j1 h1 h2 h3;refine⟨fn,tmps,assign,body,hy,hR.mono ?_⟩;rintro e B ⟨rfl,k1,k2⟩;exact⟨rfl,⟨k1,(k2.block _ j2.lt fun h=>h j4.1).trans j2,(k2.block _ j3.lt fun h=>h j5.1).trans j3,j4,j5⟩,k2⟩) [] _ _ X Y Vx Vy [] [] (Zf t1) (Zf t2) w2 hJ2 hTC (by rw[List.nil_append,List.nil_append,List.nil_append,Lz,Lz,hxs]))
 refine C4 5 fun K hKK=> ?_;go_simp;(with_reducible refine hWk.mono ?_);rintro e w3 ⟨rfl,T,K3,hJ3,ha3,hb3,_⟩;refine hKK.out _ _ ⟨ha3.cell 0,hb3.cell 0⟩ (fun hHeld=> ?_);have HP:Hid (PO (.returned (.tuple #[])) w3):=by
  show PO _ _;rw[<-HPO.out];exact⟨⟨_,rfl⟩,T,K3,hJ3⟩
 clear hKK K hWk hJn hY hJ2 hJ3 hTC
 try simp only[Act.put,tk1,tk2,tk3,tk4,tk5,tk6]
 refine wpAnyH_done (by kernel_rfl) ?_ _;clear hHeld;go_wp2;exact bodyPost_end (Fh rfl) rfl HP.out
end Go.Proofs.YtnkmhaachfgaoaaGreatDoor
