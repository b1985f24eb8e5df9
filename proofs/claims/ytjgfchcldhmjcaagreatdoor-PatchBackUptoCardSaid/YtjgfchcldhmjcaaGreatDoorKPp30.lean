/- Parts: diff.Diff's iterator over two trees: it yields their changes. Condition: at most 10^6 entries, a bulk of at most 10^8. -/
import Derived.Test.YtjgfchcldhmjcaaGreatDoorKPp25
import Derived.Test.YtjgfchcldhmjcaaGreatDoorKPp28
set_option maxHeartbeats 20000000
set_option maxRecDepth 100000
namespace Go.Proofs.YtjgfchcldhmjcaaGreatDoor
open Go Go.RowKit
def tnd (t:Option (Nat×Nd)):List Nd:=(t.map (·.2)).toList
theorem Mt (t:Option (Nat×Nd)):B9 (tnd t)=Lc t:=by
 cases t with
 |none=>rfl
 |some t=>simp[tnd,B9,Lc]
theorem Aj9 {t:Option (Nat×Nd)} (h:okT t) (g:(Lc t).length<=7) (e:Af (Lc t)<=100000000):CurOk [] (tnd t)/\Gs (tnd t)<=3000000:=by
 have b: ∀n ∈ tnd t,gd n:=by
  cases t with
  |none=>simp[tnd]
  |some t=>
   obtain⟨a,n⟩:=t;obtain⟨l,i,j⟩:=Agt a;intro m c;simp only[tnd,Option.map_some,Option.toList_some,List.mem_singleton]at c;subst c;exact⟨_,a,i,j,h.1⟩
 have d:Dg (Lc t):=by
  cases t with
  |none=>simp[Lc,Dg]
  |some t=>exact h.2
 refine⟨⟨b,by rw[List.nil_append,Mt];exact d,by rw[List.nil_append,Mt];exact e,by rw[List.nil_append,Mt];exact g⟩, ?_⟩;have:=Aco fun k f=>Anb k (b k f);rw[Mt]at this;omega
theorem Abj {S:Nat->Prop} {w:World} {t:Option (Nat×Nd)} {p:Option Addr} (h:Lr S w t p): ∃q:Option Nat,p=(q.map fun b=>(⟨b,0,none⟩:Addr))/\Ax S w (tnd t) q.toList:=by
 cases t with
 |none=>
  refine⟨none,h, ?_⟩;simp[tnd,Ax]
 |some t=>
  obtain⟨b,rfl,a⟩:=h;exact⟨some b,rfl,Ax.one a⟩
theorem Ws {D:Nat->Prop} {w:World} {C:Nat} {V:Value} {t:Option (Nat×Nd)} {q:Option Nat} (c:Ap w C M8 #[.slice none 0 0,V,.int .i64 0]) (a:Bk (fun _=>False) (C+1) 98 1 w (Im q.toList) V) (b:Ax D w (tnd t) q.toList) (e:Gs (tnd t)<=3000000):Gt D w C V [] (tnd t):=by
 refine⟨none,0,0,q.toList,c,⟨by omega,by simp only[List.length_nil];omega,by simp⟩,fun d _ _=>⟨none,0,by simp[dO],by simp[dO], [],rfl,.inl (by simp[dO])⟩, ?_,b⟩;have:q.toList.reverse=q.toList:=by cases q<;>rfl
 rw[this];exact a
theorem Aij (l:Nat) (X:World):(binOp .neq 219 (.func (.yield l) #[] #[]) .nilFunc).run Tryz.prog X=.ok (.bool true) X:=by
 have h: ∀d:Nat,(Op.equalIn (d+1) 219 (.func (.yield l) #[] #[]) .nilFunc).run Tryz.prog X=.ok false X:=fun d=>by
  simp[Op.equalIn,run_underlying Tryz.underlying219]
 simp only[binOp];simp[Op.equal,Op.maxDepth,h 9999]
def Am3 (K0:Nat->Prop) (t1 t2:Option (Nat×Nd)) (p1 p2:Option Addr) (pa pb:Nat) (A:World):Prop:=
 Ap A pa 100 #[.pointer p1]/\Ap A pb 100 #[.pointer p2]/\Lr K0 A t1 p1/\Lr K0 A t2 p2/\K0 pa/\K0 pb/\ ∀i,K0 i->i<A.heap.size
theorem Zp (K0:Nat->Prop) (t u:Option (Nat×Nd)) (p1 p2:Option Addr) (pa k:Nat) (a3:okT t) (a4:okT u) (l1:(Lc t).length<=7) (l2:(Lc u).length<=7) (b1:Af (Lc t)<=100000000) (b2:Af (Lc u)<=100000000):
 Aek Tryz.prog 148 #[.pointer (some ⟨pa,0,none⟩),.pointer (some ⟨k,0,none⟩)] Ng ChE K0 (D1 (Lc t) (Lc u)) (Am3 K0 t u p1 p2 pa k):=by
 rintro n l J W z hY ⟨ha,hb,af,ag,ax,ay,hK⟩ ac;obtain⟨q1,rfl,ai⟩:=Abj af;obtain⟨q2,rfl,aj⟩:=Abj ag;obtain⟨c1,m1⟩:=Aj9 a3 l1 b1;obtain⟨c2,m2⟩:=Aj9 a4 l2 b2;obtain⟨xs,an⟩: ∃xs,D1 (Lc t) (Lc u)=xs:=⟨_,rfl⟩;rw[an]at hY ⊢;obtain⟨PO,C⟩: ∃P:Ending->World->Prop,(fun e B=>(∃v,e=.returned v)/\ ∃T K,J xs T K B)=P:=⟨_,rfl⟩;rw[C];have d1:=ha.cell 0;have d2:=hb.cell 0;have la:=ha.lt;have lb:=hb.lt;obtain⟨A1,aa⟩: ∃A1,(q1.map fun b=>(⟨b,0,none⟩:Addr))=A1:=⟨_,rfl⟩;obtain⟨A2,ab⟩: ∃A2,(q2.map fun b=>(⟨b,0,none⟩:Addr))=A2:=⟨_,rfl⟩;have N:=fun w=>Ro q1 w;have O:=fun w=>Ro q2 w;rw[aa]at d1 N ha;rw[ab]at d2 O hb;obtain⟨av,aw,aq,V,Z,ar,au,C1,C2,ap,HK⟩:=hid11 N O C ha hb ai aj c1 c2 ac hK;clear N O C ha hb ai aj c1 c2 ac hK;clear af ag aa ab;refine callsIn_wide.2 ?_;show Calls _ _ #[.func (.yield l) #[] #[],.pointer (some ⟨pa,0,none⟩),.pointer (some ⟨k,0,none⟩)] _ _;have a7:=Aij l;go_enter Tryz.func148,Tryz.ntmps148;go_upto_region 1 with(fail);refine wp_region_held_drew (S:=fun Y:World=>Y.cell? ⟨pa,0,none⟩=some (.pointer A1)/\Y.cell? ⟨k,0,none⟩=some (.pointer A2)) (by kernel_rfl) ⟨d1,d2⟩ (fun a=> ?_);refine tkH 0 a ?_;refine tkH 2 a ?_;refine tkH 4 a ?_;refine rd1 1 fun K c=> ?_;go_simp;(with_reducible refine(av.out W.drew).mono ?_);rintro e w1 ⟨L,X,Vx,rfl,az,Q,ak⟩;refine c.out _ _ ⟨(V.out.drew.below L V.out.drew.lt).cell 0,(Z.out.drew.below L Z.out.drew.lt).cell 0⟩ (fun a=> ?_);clear c K
 try simp only[Act.put,tk1,tk2,tk3,tk4,tk5,tk6]
 refine rd1 3 fun K c=> ?_;go_simp;(with_reducible refine(aw.out w1).mono ?_);rintro e p ⟨o,Y,Vy,rfl,a6,ao,am⟩;have G:Below W.heap.size W w1:=(Below.drew (Below.refl _ W)).trans L;have d:Below W.heap.size W p:=G.trans (o.mono G.size);refine c.out _ _ ⟨(V.out.below d V.out.lt).cell 0,(Z.out.below d Z.out.lt).cell 0⟩ (fun a=> ?_);clear c K
 try simp only[Act.put,tk1,tk2,tk3,tk4,tk5,tk6]
 have a2:=Q.below o Q.lt;have al:=ak.below o;have lX:=Q.lt;have lY:=ao.lt;have H:=ak.base;have I:=am.base;have a8:=G.size;obtain⟨m,E⟩: ∃m:Nat->Prop,(fun i=>i=X\/i=Y\/Vx.ownBlock=some i\/Vy.ownBlock=some i)=m:=⟨_,rfl⟩;obtain⟨r,f⟩: ∃r:Nat->Prop,(fun i=>K0 i\/(W.heap.size<=i/\i<p.heap.size))=r:=⟨_,rfl⟩;have a9:=o.size;have a5:W.heap.size<=X:=az;have F: ∀i,m i->W.heap.size<=i/\i<p.heap.size:=by
  rw[<-E];rintro i (h|h|h|h)
  . omega
  . omega
  . have:=H i h;omega
  . have:=I i h;omega
 have j: ∀i,K0 i->r i/\ ¬m i:=fun i M=>⟨by rw[<-f];exact .inl M,fun h=>by have:=F i h;have:=HK.out i M;omega⟩;have D:TC p m r X Y Vx Vy [] (tnd t) [] (tnd u):=by
  refine⟨Ws a2 al ((ar.out.below d).mono fun i _ M=>j i M) m1,Ws ao am ((au.out.below d).mono fun i _ M=>j i M) m2,C1.out,C2.out, ?_, ?_, ?_, ?_,by omega, ?_⟩
  . rw[<-f];rintro i (h|h)
    . exact Nat.lt_of_lt_of_le (HK.out i h) d.size
    . exact h.2
  . intro i h;rw[<-f];exact .inr (F i h)
  . rw[<-E];exact⟨.inl rfl,fun g e=>⟨.inr (.inr (.inl e)),by have:=H g e;omega⟩⟩
  . rw[<-E];exact⟨.inr (.inl rfl),fun g e=>⟨.inr (.inr (.inr e)),by have:=I g e;omega⟩⟩
  . intro g e e';have:=H g e;have:=I g e';omega
 have ad:J [] m r p/\Ap p pa 100 #[.pointer A1]/\Ap p k 100 #[.pointer A2]/\(r pa/\ ¬m pa)/\(r k/\ ¬m k):=
  ⟨z [] _ _ W m r p ap.out (KB.of_below d) (fun i M=>⟨⟨fun h=>by have:=F i h;omega,fun h=>h.elim⟩,⟨fun h=>by
    rw[<-f]at h;rcases h with h|h
    . exact h
    . omega,fun h=>(j i h).1⟩⟩) D.kb,V.out.below d V.out.lt,Z.out.below d Z.out.lt,j _ ax,j _ ay⟩
 have ah:=callsIn_wide.1 (Abo n l xs (fun s T K A=>J s T K A/\Ap A pa 100 #[.pointer A1]/\Ap A k 100 #[.pointer A2]/\(K pa/\ ¬T pa)/\(K k/\ ¬T k)) (by
  rintro s T K A T' K' B ⟨j1,R,U,j4,j5⟩ h1 y h3;exact⟨z _ _ _ _ _ _ _ j1 h1 y h3,(h1.block _ R.lt j4.2).trans R,(h1.block _ U.lt j5.2).trans U,⟨(y _ R.lt).2.2 j4.1,fun h=>j4.2 ((y _ R.lt).1.1 h)⟩,⟨(y _ U.lt).2.2 j5.1,fun h=>j5.2 ((y _ U.lt).1.1 h)⟩⟩) (by
  rintro pre x rest q T K A e1 ⟨j1,R,U,j4,j5⟩ h1 y h3;obtain⟨fn,tmps,assign,body,hy,hR⟩:=hY pre x rest q T K A e1 j1 h1 y h3;refine⟨fn,tmps,assign,body,hy,hR.mono ?_⟩;rintro e B ⟨rfl,k1,k2⟩;exact⟨rfl,⟨k1,(k2.block _ R.lt fun h=>h j4.1).trans R,(k2.block _ U.lt fun h=>h j5.1).trans U,j4,j5⟩,k2⟩) [] _ _ X Y Vx Vy [] [] (tnd t) (tnd u) p ad D (by rw[List.nil_append,List.nil_append,List.nil_append,Mt,Mt,an]))
 refine rd1 5 fun K c=> ?_;go_simp;(with_reducible refine ah.mono ?_);rintro e w3 ⟨rfl,T,K3,ae,a0,a1,_⟩;refine c.out _ _ ⟨a0.cell 0,a1.cell 0⟩ (fun a=> ?_);have HP:Hid (PO (.returned (.tuple #[])) w3):=by
  show PO _ _;rw[<-aq.out];exact⟨⟨_,rfl⟩,T,K3,ae⟩
 clear c K ah z hY ad ae D
 try simp only[Act.put,tk1,tk2,tk3,tk4,tk5,tk6]
 refine wpAnyH_done (by kernel_rfl) ?_ _;clear a;go_wp2;exact bodyPost_end (Lk rfl) rfl HP.out
end Go.Proofs.YtjgfchcldhmjcaaGreatDoor
