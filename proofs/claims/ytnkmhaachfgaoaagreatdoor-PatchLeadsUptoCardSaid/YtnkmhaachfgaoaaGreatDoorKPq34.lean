/- Parts: diff.walk: what it yields. Condition: trees of at most 10^6 entries, a bulk of at most 10^8. -/
import Derived.WalkMore
import Derived.Test.YtnkmhaachfgaoaaGreatDoorKPq31
set_option maxHeartbeats 20000000
set_option maxRecDepth 100000
namespace Go.Proofs.YtnkmhaachfgaoaaGreatDoor
open Go Go.RowKit
attribute [local go_sem] Oper.semAt_some
def O3:List Value:= [.int .i64 0,.bool false,.int .i64 0,.string ⟨#[]⟩,.slice none 0 0,.slice none 0 0]
def Fl (D:Nat->Prop) (A:World):Option Val->List Value->Prop
 |some v,cs=>Ag D A (dV v) cs
 |none,cs=>cs=O3
def Mb (x:Wc) (q:List Value×List Value):Array Value:= #[.agg ([Value.string x.1,Value.bool x.2.1.isSome]++q.1++ [Value.bool x.2.2.isSome]++q.2).toArray]
def ChE (x:Wc) (q:List Value×List Value) (D:Nat->Prop) (A:World):Prop:=Fl D A x.2.1 q.1/\Fl D A x.2.2 q.2
theorem Fl.keep {D D':Nat->Prop} {A B:World} {o:Option Val} {cs:List Value} (h:Fl D A o cs) (hD: ∀i,i<B.heap.size->D i->D' i) (hs:A.heap.size<=B.heap.size) (hk: ∀i,D i->i<A.heap.size->B.heap[i]? =A.heap[i]?):Fl D' B o cs:=by
 cases o with
 |none=>exact h
 |some v=>exact(Ag.later (S:=D) h hs fun p p1 p2=>World.cell?_of_block (hk p.block p1 p2)).mono hD
theorem ChE.put (x:Wc) (q:List Value×List Value) (D:Nat->Prop) (A:World) (k:Nat) (o':Obj) (h:ChE x q D A) (hk: ¬D k):ChE x q D (A.putObj k o'):=
 ⟨h.1.keep (fun _ _ h=>h) (by simp[World.putObj]) fun i i1 _=>World.putObj_heap_other (fun e=>hk (e▸i1)),h.2.keep (fun _ _ h=>h) (by simp[World.putObj]) fun i i1 _=>World.putObj_heap_other (fun e=>hk (e▸i1))⟩
theorem Ain {a b:ByteArray} (h1: ¬Bn a b=true) (h2: ¬Bn b a=true):a=b:=by
 rcases Fb a b with c|c|c
 . exact absurd c h1
 . exact c
 . exact absurd c h2
theorem Fl.step {W W' W2:World} {T K T' K':Nat->Prop} {v:Val} {cs:List Value} (h:Ag (fun i=>K i/\ ¬T i) W' (dV v) cs) (hst:Ad9 W W' T K T' K') (hk: ∀i,K i->i<W.heap.size) (hb:Below W'.heap.size W' W2):Fl (fun i=>K' i/\ ¬T' i) W2 (some v) cs:=
 Ag.mono (S:=fun i=>K i/\ ¬T i) (T:=fun i=>K' i/\ ¬T' i) (d:=dV v) (Ag.below h hb) fun i _ hi=>⟨(hst.2.1 i (hk i hi.1)).2.2 hi.1,fun h=>hi.2 ((hst.2.1 i (hk i hi.1)).1.1 h)⟩
theorem Fl.now {D:Nat->Prop} {A:World} {v:Val} {cs:List Value} (h:Fl D A (some v) cs):Ae A A.heap.size (dV v) cs:=Ag.now (S:=D) h
theorem Y7 (n l:Nat) (xs:List Wc) (J:List Wc->(Nat->Prop)->(Nat->Prop)->World->Prop)
 (hJn: ∀s T K A T' K' B,J s T K A->KB T A B->(∀i,i<A.heap.size->(T' i ↔ T i)/\(K' i ↔ K i))->(∀i,K' i->i<B.heap.size)->J s T' K' B)
 (hY: ∀pre x rest q T K A,xs=pre++x::rest->J pre T K A->ChE x q (fun i=>K i/\ ¬T i) A->(∀i,T i->K i)->(∀i,K i->i<A.heap.size)->YieldAt Fence.wide n Tryz.prog l (Mb x q) A fun e B=>e=.returned (.bool true)/\J (pre++ [x]) T K B/\KB (fun i=> ¬K i) A B)
 (pre0:List Wc) (T0 K0:Nat->Prop) (X Y:Nat) (Vx0 Vy0:Value) (ex0 ey0:List Ax) (nx0 ny0:List Nd) (W:World) (hJ0:J pre0 T0 K0 W) (hTC0:TC W T0 K0 X Y Vx0 Vy0 ex0 nx0 ey0 ny0) (hx0:xs=pre0++Bq (ex0++Ap nx0) (ey0++Ap ny0)):
 CallsIn Fence.wide (n+1) Tryz.prog 69 #[.pointer (some ⟨X,0,none⟩),.pointer (some ⟨Y,0,none⟩),.func (.yield l) #[] #[]] W fun e B=>e=.returned (.tuple #[])/\ ∃T K,J xs T K B:=by
 obtain⟨PO,hPO⟩: ∃P:Ending->World->Prop,(fun e B=>e=.returned (.tuple #[])/\ ∃T K,J xs T K B)=P:=⟨_,rfl⟩;rw[hPO];refine callsIn_of_wp Tryz.func69 rfl trivial ?_ rfl;simp only[Tryz.ntmps69,List.size_toArray,List.length_cons,List.length_nil,Nat.reduceAdd,Nat.reduceSub,Array.replicate_succ,Array.replicate_zero,List.push_toArray,List.append_toArray,List.nil_append,List.cons_append];obtain⟨HJ0,HTC0,Hx0,HPO⟩:=hid4 hJ0 hTC0 hx0 hPO;clear hJ0 hTC0 hx0 hPO;refine wpIn_wide.2 (wp_scope_straight ((wpIn_wide (n:=n+1)).1 ?_));refine wpIn_seq (wpIn_label ?_);show Code.wpIn _ _ _ _ _ _ _
 gi_wp2_with (fail)
 gi_loopg [] (ex0.length+Ev nx0+(ey0.length+Ev ny0)) (fun k wr=> ∃pre T K Vx Vy ex nx ey ny,k=List.length ex+Ev nx+(List.length ey+Ev ny)/\Hid (J pre T K wr)/\Hid (xs=pre++Bq (ex++Ap nx) (ey++Ap ny))/\Hid (TC wr T K X Y Vx Vy ex nx ey ny))
 case atStart=>exact⟨pre0,T0,K0,Vx0,Vy0,ex0,nx0,ey0,ny0,rfl,HJ0,Hx0,HTC0⟩
 case round=>
  obtain⟨pre,T,K,Vx,Vy,ex,nx,ey,ny,rfl,hJ,Hxs,hTC⟩:=hrel;clear HJ0 HTC0 Hx0;have HX:=qz (Q7 _ X Vx ex nx wr hTC.out.x hTC.out.okx)
  gi_wp2_with (fail)
  refine⟨trivial, ?_⟩
  gi_at_call 110
  refine(callsIn_wide.2 HX.out).mono ?_;rintro e w1 ⟨p1,h1,f1,l1,b1,rfl,hb1,hh1⟩
  gi_wp2_with (fail)
  obtain⟨w2,hw2⟩: ∃w2,w1.alloc (.cells #[.pointer p1,.int .i64 h1,.string f1,.string l1] Thd)=w2:=⟨_,rfl⟩;have hB2:Ah w2 w1.heap.size Thd #[.pointer p1,.int .i64 h1,.string f1,.string l1]:=hw2▸Ah.new _ _ _;have hb2:Below w1.heap.size w1 w2:=hw2▸Aa _ _;rw[hw2];have hT2:=(hTC.out.below hb1).below hb2;have hh1':=(hh1.later hb1).later hb2;have HY2:=qz (Q7 _ Y Vy ey ny w2 hT2.y hT2.oky);clear HX hw2 hh1;refine⟨trivial, ?_⟩
  gi_at_call 110
  refine(callsIn_wide.2 HY2.out).mono ?_;rintro e w3 ⟨p2,h2,f2,l2,b2,rfl,hb3,hh2⟩
  gi_upto_region 4 with(fail)
  obtain⟨w4,hw4⟩: ∃w4,w3.alloc (.cells #[.pointer p2,.int .i64 h2,.string f2,.string l2] Thd)=w4:=⟨_,rfl⟩;have hb4:Below w3.heap.size w3 w4:=hw4▸Aa _ _;have hA4:=(hB2.below hb3 hB2.lt).below hb4 (by have:=hB2.lt;have:=hb3.size;omega);have hB4:Ah w4 w3.heap.size Thd #[.pointer p2,.int .i64 h2,.string f2,.string l2]:=hw4▸Ah.new _ _ _;rw[hw4];have hT4:=(hT2.below hb3).below hb4;have hh1:=(hh1'.later hb3).later hb4;have hh2':=(hh2.later hb3).later hb4;have hbA:Below wr.heap.size wr w4:=((hb1.trans (hb2.mono hb1.size)).trans (hb3.mono (by have:=hb1.size;have:=hb2.size;omega))).trans (hb4.mono (by have:=hb1.size;have:=hb2.size;have:=hb3.size;omega));have hJ4:J pre T K w4:=hJn _ _ _ _ _ _ _ hJ.out (KB.of_below hbA) (fun _ _=>⟨Iff.rfl,Iff.rfl⟩) hT4.kb;obtain⟨u0,u1,u2,u3⟩:w4.cell? ⟨w1.heap.size,0,none⟩=some (.pointer p1)/\w4.cell? ⟨w1.heap.size,1,none⟩=some (.int .i64 h1)/\w4.cell? ⟨w1.heap.size,2,none⟩=some (.string f1)/\w4.cell? ⟨w1.heap.size,3,none⟩=some (.string l1):=⟨hA4.cell 0,hA4.cell 1,hA4.cell 2,hA4.cell 3⟩;obtain⟨v0,v1,v2,v3⟩:w4.cell? ⟨w3.heap.size,0,none⟩=some (.pointer p2)/\w4.cell? ⟨w3.heap.size,1,none⟩=some (.int .i64 h2)/\w4.cell? ⟨w3.heap.size,2,none⟩=some (.string f2)/\w4.cell? ⟨w3.heap.size,3,none⟩=some (.string l2):=⟨hB4.cell 0,hB4.cell 1,hB4.cell 2,hB4.cell 3⟩;clear hw4 hbA hb4 hb3 hb2 hb1 hA4 hB4 hB2 HY2 hT2 hh1' hh2 hJ;have hDx: ¬(K X/\ ¬T X):=fun h=>h.2 hT4.tx.1;have hDy: ¬(K Y/\ ¬T Y):=fun h=>h.2 hT4.ty.1;have hVx: ∀g,Vx.ownBlock=some g-> ¬(K g/\ ¬T g):=fun g e h=>h.2 (hT4.tx.2 g e).1;have hVy: ∀g,Vy.ownBlock=some g-> ¬(K g/\ ¬T g):=fun g e h=>h.2 (hT4.ty.2 g e).1;have hDb: ∀i,(K i/\ ¬T i)->i<w4.heap.size:=fun i h=>hT4.kb i h.1;rcases hh1 with⟨k1,x1,r1,rfl,rfl,rfl,rfl,rfl,rfl⟩|⟨n1,r1,q1,rfl,rfl,rfl,hn1,rfl,rfl,rfl,rfl⟩|⟨rfl,rfl,rfl,rfl,rfl,rfl,rfl⟩
  . rcases hh2' with⟨k2,x2,r2,rfl,rfl,rfl,rfl,rfl,rfl⟩|⟨n2,r2,q2,rfl,rfl,rfl,hn2,rfl,rfl,rfl,rfl⟩|⟨rfl,rfl,rfl,rfl,rfl,rfl,rfl⟩
    . by_cases c1:Bn k1 k2=true
      . have c1':Op.bytesLess (k1).toList (k2).toList=true:=c1;have hstep:Bq ((k1,x1)::(r1++Ap nx)) ((k2,x2)::(r2++Ap ny))=(k1,some x1,none)::Bq (r1++Ap nx) ((k2,x2)::(r2++Ap ny)):=Qt (Lr (by simpa using hT4.oky.asc) rfl c1);have HO:=qz (D3 _ X Vx k1 x1 r1 nx w4 hT4.x hDx (fun e=>by have:=(hT4.x.lt.2 X e).1;omega));clear hDx hVx hDy hVy hDb
        gi_wp2_with (fail)
        refine⟨trivial, ?_⟩
        gi_at_call 114
        refine(callsIn_wide.2 HO.out).mono ?_;rintro e w5 ⟨hkb,hc,k',b',n',t',la,ln,lc,oa,on,oc,rfl,hv⟩;obtain⟨hTC5,hst⟩:=hT4.step (V':=Vx) ⟨hkb.os,hkb.tape,hkb.output,hkb.size,fun k a1 a2=>hkb.block k a1 fun h=>a2 (.inl h)⟩ (hc.keep (fun i _ hi=> .inl hi) (Nat.le_refl _) fun _ _ _=>rfl) hT4.okx.tail (.inl rfl);have HJ5:=qz (hJn _ _ _ _ _ _ _ hJ4 hst.1 hst.2.1 hst.2.2);have HGo:=qz (Mz k1 k' b' n' t' la ln lc oa on oc w5);obtain⟨Hv,HT5,Hst⟩:=hid3 hv hTC5 hst;clear hkb hc hTC5 hst hv hJ4 HO u0 u1 u2 u3 v0 v1 v2 v3
        gi_wp2_with (fail)
        refine⟨trivial, ?_⟩
        gi_at_call 113
        refine(callsIn_wide.2 HGo.out).mono ?_;rintro e w6 ⟨rfl,hb6⟩;have hTC6:=HT5.out.below hb6;have hJ6:=hJn _ _ _ _ _ _ _ HJ5.out (KB.of_below hb6) (fun _ _=>⟨Iff.rfl,Iff.rfl⟩) hTC6.kb;have hxe:xs=pre++(k1,some x1,none)::Bq (r1++Ap nx) (((k2,x2)::r2)++Ap (ny)):=by
         rw[Hxs.out];simp only[List.cons_append];rw[hstep]
        have hv:=Hv.out;have hst:=Hst.out;have hYk:=hY pre (k1,some x1,none) (Bq (r1++Ap nx) (((k2,x2)::r2)++Ap (ny))) ([.int .i64 k',.bool b',.int .i64 n',.string t',.slice la ln lc,.slice oa on oc],O3) _ _ w6 hxe hJ6 ⟨Fl.step hv hst hT4.kb hb6,rfl⟩ hTC6.tk hTC6.kb;have HX6:Hid (xs=(pre++ [(k1,some x1,none)])++Bq (r1++Ap nx) (((k2,x2)::r2)++Ap (ny))):=by
         show _=_;rw[hxe];simp
        have HT6:=qz hTC6;obtain⟨fn,tmps,assign,body,hy,hR⟩:=hYk;simp only[Mb,O3,Option.isSome_some,Option.isSome_none,List.cons_append,List.nil_append]at hy;clear hTC6 hJ6 hxe hv hst Hv Hst HT5 HJ5 hJn hT4 HGo hstep
        gi_wp2_with (refine hR.mono ?_;rintro e w7 ⟨rfl,hJ7,hkb7⟩;clear hy hR)
        gi_roundg (List.length r1+Ev nx+(List.length ((k2,x2)::r2)+Ev (ny)))
        case rel=>exact⟨pre++ [(k1,some x1,none)],_,_,Vx,Vy,r1,nx,(k2,x2)::r2,ny,rfl,qz hJ7,HX6,qz (HT6.out.keep hkb7)⟩
        case measure=>simp only[List.length_cons];omega
      . have c1':Op.bytesLess (k1).toList (k2).toList=false:=Bool.eq_false_iff.2 c1;by_cases c2:Bn k2 k1=true
        . have c2':Op.bytesLess (k2).toList (k1).toList=true:=c2;have hstep:Bq ((k1,x1)::(r1++Ap nx)) ((k2,x2)::(r2++Ap ny))=(k2,none,some x2)::Bq ((k1,x1)::(r1++Ap nx)) (r2++Ap ny):=Qs (Lr (by simpa using hT4.okx.asc) rfl c2);have HO:=qz (D3 _ Y Vy k2 x2 r2 ny w4 hT4.y hDy (fun e=>by have:=(hT4.y.lt.2 Y e).1;omega));clear hDx hVx hDy hVy hDb
          gi_wp2_with (fail)
          refine⟨trivial, ?_⟩
          gi_at_call 114
          refine(callsIn_wide.2 HO.out).mono ?_;rintro e w5 ⟨hkb,hc,k',b',n',t',la,ln,lc,oa,on,oc,rfl,hv⟩;obtain⟨hTC5,hst⟩:=hT4.swap.step (V':=Vy) ⟨hkb.os,hkb.tape,hkb.output,hkb.size,fun k a1 a2=>hkb.block k a1 fun h=>a2 (.inl h)⟩ (hc.keep (fun i _ hi=> .inl hi) (Nat.le_refl _) fun _ _ _=>rfl) hT4.oky.tail (.inl rfl);have HJ5:=qz (hJn _ _ _ _ _ _ _ hJ4 hst.1 hst.2.1 hst.2.2);have HGo:=qz (Ms k2 k' b' n' t' la ln lc oa on oc w5);obtain⟨Hv,HT5,Hst⟩:=hid3 hv hTC5 hst;clear hkb hc hTC5 hst hv hJ4 HO u0 u1 u2 u3 v0 v1 v2 v3
          gi_wp2_with (fail)
          refine⟨trivial, ?_⟩
          gi_at_call 115
          refine(callsIn_wide.2 HGo.out).mono ?_;rintro e w6 ⟨rfl,hb6⟩;have hTC6:=HT5.out.below hb6;have hJ6:=hJn _ _ _ _ _ _ _ HJ5.out (KB.of_below hb6) (fun _ _=>⟨Iff.rfl,Iff.rfl⟩) hTC6.kb;have hxe:xs=pre++(k2,none,some x2)::Bq (((k1,x1)::r1)++Ap (nx)) (r2++Ap ny):=by
           rw[Hxs.out];simp only[List.cons_append];rw[hstep]
          have hv:=Hv.out;have hst:=Hst.out;have hYk:=hY pre (k2,none,some x2) (Bq (((k1,x1)::r1)++Ap (nx)) (r2++Ap ny)) (O3, [.int .i64 k',.bool b',.int .i64 n',.string t',.slice la ln lc,.slice oa on oc]) _ _ w6 hxe hJ6 ⟨rfl,Fl.step hv hst hT4.swap.kb hb6⟩ hTC6.tk hTC6.kb;have HX6:Hid (xs=(pre++ [(k2,none,some x2)])++Bq (((k1,x1)::r1)++Ap (nx)) (r2++Ap ny)):=by
           show _=_;rw[hxe];simp
          have HT6:=qz hTC6;obtain⟨fn,tmps,assign,body,hy,hR⟩:=hYk;simp only[Mb,O3,Option.isSome_some,Option.isSome_none,List.cons_append,List.nil_append]at hy;clear hTC6 hJ6 hxe hv hst Hv Hst HT5 HJ5 hJn hT4 HGo hstep
          gi_wp2_with (refine hR.mono ?_;rintro e w7 ⟨rfl,hJ7,hkb7⟩;clear hy hR)
          gi_roundg (List.length ((k1,x1)::r1)+Ev (nx)+(List.length r2+Ev ny))
          case rel=>exact⟨pre++ [(k2,none,some x2)],_,_,Vx,Vy,(k1,x1)::r1,nx,r2,ny,rfl,qz hJ7,HX6,qz (HT6.out.swap.keep hkb7)⟩
          case measure=>simp only[List.length_cons];omega
        . have c2':Op.bytesLess (k2).toList (k1).toList=false:=Bool.eq_false_iff.2 c2;obtain rfl:=Ain c1 c2;have c0:Op.bytesLess k1.toList k1.toList=false:=c1';have hstep:Bq ((k1,x1)::(r1++Ap nx)) ((k1,x2)::(r2++Ap ny))=if Bu x1 x2 then Bq (r1++Ap nx) (r2++Ap ny)else(k1,some x1,some x2)::Bq (r1++Ap nx) (r2++Ap ny):=Zw;have HO:=qz (D3 _ X Vx k1 x1 r1 nx w4 hT4.x hDx (fun e=>by have:=(hT4.x.lt.2 X e).1;omega));clear hDx hVx hDy hVy hDb
          gi_wp2_with (fail)
          refine⟨trivial, ?_⟩
          gi_at_call 114
          refine(callsIn_wide.2 HO.out).mono ?_;rintro e w5 ⟨hkb,hc,k',b',n',t',la,ln,lc,oa,on,oc,rfl,hv⟩;obtain⟨hTC5,hst⟩:=hT4.step (V':=Vx) ⟨hkb.os,hkb.tape,hkb.output,hkb.size,fun k a1 a2=>hkb.block k a1 fun h=>a2 (.inl h)⟩ (hc.keep (fun i _ hi=> .inl hi) (Nat.le_refl _) fun _ _ _=>rfl) hT4.okx.tail (.inl rfl);have HJ5:=qz (hJn _ _ _ _ _ _ _ hJ4 hst.1 hst.2.1 hst.2.2);have hv5:=Fl.step hv hst hT4.kb (Below.refl _ _);have HO2:=qz (D3 _ Y Vy k1 x2 r2 ny w5 hTC5.y (fun h=>h.2 hTC5.ty.1) (fun e=>by have:=(hTC5.y.lt.2 Y e).1;omega));obtain⟨HT5,Hv5⟩:=hid2 hTC5 hv5;clear hkb hc hTC5 hst hJ4 HO u0 u1 u2 u3 v0 v1 v2 v3 hv hv5
          gi_wp2_with (fail)
          refine⟨trivial, ?_⟩
          gi_at_call 114
          refine(callsIn_wide.2 HO2.out).mono ?_;rintro e w6 ⟨hkb,hc,k'',b'',n'',t'',la',ln',lc',oa',on',oc',rfl,hv⟩;obtain⟨hTC6,hst⟩:=HT5.out.swap.step (V':=Vy) ⟨hkb.os,hkb.tape,hkb.output,hkb.size,fun k a1 a2=>hkb.block k a1 fun h=>a2 (.inl h)⟩ (hc.keep (fun i _ hi=> .inl hi) (Nat.le_refl _) fun _ _ _=>rfl) HT5.out.oky.tail (.inl rfl);have HJ6:=qz (hJn _ _ _ _ _ _ _ HJ5.out hst.1 hst.2.1 hst.2.2);have hv6y:=Fl.step hv hst HT5.out.kb (Below.refl _ _);have hv6x:=Hv5.out.keep (D':=_) (B:=w6) (fun i _ hi=>(⟨(hst.2.1 i (HT5.out.kb i hi.1)).2.2 hi.1,fun h=>hi.2 ((hst.2.1 i (HT5.out.kb i hi.1)).1.1 h)⟩:_/\ ¬_)) hkb.size fun i hi i2=>hst.1.block i i2 hi.2;have hbx:=hT4.okx.bulk;have hby:=hT4.oky.bulk;simp only[List.cons_append,Ac,Dg]at hbx hby;have HBc:=qz (Uo k1 k1 x1 x2 _ _ _ _ _ _ _ _ _ _ _ _ w6 (Fl.now hv6x) (Fl.now hv6y) (by omega) (by omega));have HT6:=qz hTC6.swap;obtain⟨Hv6x,Hv6y⟩:=hid2 hv6x hv6y;clear hkb hc hTC6 hst hv hv6x hv6y HT5 Hv5 HJ5 HO2 hT4
          gi_wp2_with (fail)
          refine⟨trivial, ?_⟩
          gi_at_call 116
          refine(callsIn_wide.2 HBc.out).mono ?_;clear HBc;rintro e w7 ⟨hb7,rfl⟩;have hTC7:=HT6.out.below hb7;have hJ7:=hJn _ _ _ _ _ _ _ HJ6.out (KB.of_below hb7) (fun _ _=>⟨Iff.rfl,Iff.rfl⟩) hTC7.kb
          cases hsm:Bu x1 x2 with
          |true=>
           rw[if_pos rfl];have hb8:=Aa w7 (.cells O4 Tch);have HT8:=qz (hTC7.below hb8);have HJ8:=qz (hJn _ _ _ _ _ _ _ hJ7 (KB.of_below hb8) (fun _ _=>⟨Iff.rfl,Iff.rfl⟩) (hTC7.below hb8).kb);have HX8:Hid (xs=pre++Bq (r1++Ap nx) (r2++Ap ny)):=by
            show _=_;rw[Hxs.out];simp only[List.cons_append];rw[hstep,hsm,if_pos rfl]
           clear hb8 hTC7 hJ7 hb7 HT6 Hv6x Hv6y HJ6 hstep hsm hbx hby
           gi_wp2_with (fail)
           refine⟨fun _ h=>(by cases h), ?_⟩
           gi_wp2_with (fail)
           gi_roundg (List.length r1+Ev nx+(List.length r2+Ev ny))
           case rel=>exact⟨pre,_,_,Vx,Vy,r1,nx,r2,ny,rfl,HJ8,HX8,HT8⟩
           case measure=>simp only[List.length_cons];omega
          |false=>
           rw[if_neg (by simp)];obtain⟨w8,hw8⟩: ∃w8,w7.alloc (.cells #[.string k1,.bool true,.int .i64 k',.bool b',.int .i64 n',.string t',.slice la ln lc,.slice oa on oc,.bool true,.int .i64 k'',.bool b'',.int .i64 n'',.string t'',.slice la' ln' lc',.slice oa' on' oc'] Tch)=w8:=⟨_,rfl⟩;have hb8:Below w7.heap.size w7 w8:=hw8▸Aa _ _;have hC8:Ah w8 w7.heap.size Tch #[.string k1,.bool true,.int .i64 k',.bool b',.int .i64 n',.string t',.slice la ln lc,.slice oa on oc,.bool true,.int .i64 k'',.bool b'',.int .i64 n'',.string t'',.slice la' ln' lc',.slice oa' on' oc']:=hw8▸Ah.new _ _ _;have hT8:=hTC7.below hb8;have hJ8:=hJn _ _ _ _ _ _ _ hJ7 (KB.of_below hb8) (fun _ _=>⟨Iff.rfl,Iff.rfl⟩) hT8.kb;have hb68:Below w6.heap.size w6 w8:=hb7.trans (hb8.mono hb7.size);have hE1:=Hv6x.out.keep (fun _ _ h=>h) hb68.size fun i _ hi=>hb68.block i hi;have hE2:=Hv6y.out.keep (fun _ _ h=>h) hb68.size fun i _ hi=>hb68.block i hi;have hxe:xs=pre++(k1,some x1,some x2)::Bq (r1++Ap nx) (r2++Ap ny):=by
            rw[Hxs.out];simp only[List.cons_append];rw[hstep,hsm,if_neg (by simp)]
           have hYk:=hY pre (k1,some x1,some x2) (Bq (r1++Ap nx) (r2++Ap ny)) ([.int .i64 k',.bool b',.int .i64 n',.string t',.slice la ln lc,.slice oa on oc], [.int .i64 k'',.bool b'',.int .i64 n'',.string t'',.slice la' ln' lc',.slice oa' on' oc']) _ _ w8 hxe hJ8 ⟨hE1,hE2⟩ hT8.tk hT8.kb;have HX8:Hid (xs=(pre++ [(k1,some x1,some x2)])++Bq (r1++Ap nx) (r2++Ap ny)):=by
            show _=_;rw[hxe];simp
           have HT8:=qz hT8;obtain⟨fn,tmps,assign,body,hy,hR⟩:=hYk;simp only[Mb,Option.isSome_some,List.cons_append,List.nil_append]at hy;clear hb8 hTC7 hJ7 hb7 HT6 Hv6x Hv6y HJ6 hstep hsm hbx hby hT8 hJ8 hb68 hE1 hE2 hxe hJn
           gi_upto_region 3 with(fail)
           have s0:=hC8.cell 0;have s1:=hC8.cell 1;have s2:=hC8.cell 2;have s3:=hC8.cell 3;have s4:=hC8.cell 4;have s5:=hC8.cell 5;have s6:=hC8.cell 6;have s7:=hC8.cell 7;have s8:=hC8.cell 8;have s9:=hC8.cell 9;have s10:=hC8.cell 10;have s11:=hC8.cell 11;have s12:=hC8.cell 12;have s13:=hC8.cell 13;have s14:=hC8.cell 14;clear hC8 hw8
           gi_wp2_with (refine hR.mono ?_;rintro e w9 ⟨rfl,hJ9,hkb9⟩;clear hy hR)
           gi_roundg (List.length r1+Ev nx+(List.length r2+Ev ny))
           case rel=>exact⟨pre++ [(k1,some x1,some x2)],_,_,Vx,Vy,r1,nx,r2,ny,rfl,qz hJ9,HX8,qz (HT8.out.keep hkb9)⟩
           case measure=>simp only[List.length_cons];omega
    . by_cases c1:Bn k1 (Ao n2)=true
      . have c1':Op.bytesLess (k1).toList ((Ao n2)).toList=true:=c1;have hstep:Bq ((k1,x1)::(r1++Ap nx)) (Ap (n2::r2))=(k1,some x1,none)::Bq (r1++Ap nx) (Ap (n2::r2)):=Qt (by obtain⟨v,r,e⟩:=Tj (ns:=r2) (hT4.oky.gds n2 (by simp));exact Lr (by simpa using hT4.oky.asc) e c1);have HO:=qz (D3 _ X Vx k1 x1 r1 nx w4 hT4.x hDx (fun e=>by have:=(hT4.x.lt.2 X e).1;omega));clear hDx hVx hDy hVy hDb
        gi_wp2_with (fail)
        refine⟨trivial, ?_⟩
        gi_at_call 114
        refine(callsIn_wide.2 HO.out).mono ?_;rintro e w5 ⟨hkb,hc,k',b',n',t',la,ln,lc,oa,on,oc,rfl,hv⟩;obtain⟨hTC5,hst⟩:=hT4.step (V':=Vx) ⟨hkb.os,hkb.tape,hkb.output,hkb.size,fun k a1 a2=>hkb.block k a1 fun h=>a2 (.inl h)⟩ (hc.keep (fun i _ hi=> .inl hi) (Nat.le_refl _) fun _ _ _=>rfl) hT4.okx.tail (.inl rfl);have HJ5:=qz (hJn _ _ _ _ _ _ _ hJ4 hst.1 hst.2.1 hst.2.2);have HGo:=qz (Mz k1 k' b' n' t' la ln lc oa on oc w5);obtain⟨Hv,HT5,Hst⟩:=hid3 hv hTC5 hst;clear hkb hc hTC5 hst hv hJ4 HO u0 u1 u2 u3 v0 v1 v2 v3
        gi_wp2_with (fail)
        refine⟨trivial, ?_⟩
        gi_at_call 113
        refine(callsIn_wide.2 HGo.out).mono ?_;rintro e w6 ⟨rfl,hb6⟩;have hTC6:=HT5.out.below hb6;have hJ6:=hJn _ _ _ _ _ _ _ HJ5.out (KB.of_below hb6) (fun _ _=>⟨Iff.rfl,Iff.rfl⟩) hTC6.kb;have hxe:xs=pre++(k1,some x1,none)::Bq (r1++Ap nx) (([]:List Ax)++Ap (n2::r2)):=by
         rw[Hxs.out];simp only[List.cons_append,List.nil_append];rw[hstep]
        have hv:=Hv.out;have hst:=Hst.out;have hYk:=hY pre (k1,some x1,none) (Bq (r1++Ap nx) (([]:List Ax)++Ap (n2::r2))) ([.int .i64 k',.bool b',.int .i64 n',.string t',.slice la ln lc,.slice oa on oc],O3) _ _ w6 hxe hJ6 ⟨Fl.step hv hst hT4.kb hb6,rfl⟩ hTC6.tk hTC6.kb;have HX6:Hid (xs=(pre++ [(k1,some x1,none)])++Bq (r1++Ap nx) (([]:List Ax)++Ap (n2::r2))):=by
         show _=_;rw[hxe];simp
        have HT6:=qz hTC6;obtain⟨fn,tmps,assign,body,hy,hR⟩:=hYk;simp only[Mb,O3,Option.isSome_some,Option.isSome_none,List.cons_append,List.nil_append]at hy;clear hTC6 hJ6 hxe hv hst Hv Hst HT5 HJ5 hJn hT4 HGo hstep
        gi_wp2_with (refine hR.mono ?_;rintro e w7 ⟨rfl,hJ7,hkb7⟩;clear hy hR)
        gi_roundg (List.length r1+Ev nx+(List.length ([]:List Ax)+Ev (n2::r2)))
        case rel=>exact⟨pre++ [(k1,some x1,none)],_,_,Vx,Vy,r1,nx, [],n2::r2,rfl,qz hJ7,HX6,qz (HT6.out.keep hkb7)⟩
        case measure=>simp only[List.length_nil,List.length_cons];omega
      . have c1':Op.bytesLess (k1).toList ((Ao n2)).toList=false:=Bool.eq_false_iff.2 c1;by_cases c2:Bn (Ca n2) k1=true
        . have c2':Op.bytesLess ((Ca n2)).toList (k1).toList=true:=c2;have HO:=qz (Cp _ Y Vy n2 r2 w4 hT4.y hT4.oky hDy hVy hDb);clear hDb hDx hVx hDy hVy
          gi_wp2_with (fail)
          refine⟨trivial, ?_⟩
          gi_at_call 112
          refine(callsIn_wide.2 HO.out).mono ?_;rintro e w5 ⟨rfl,hkb,V',es',ns',hc,hok,heq,hwt,hV⟩;obtain⟨hTC5,hst⟩:=hT4.swap.step hkb hc hok hV;have HJ5:Hid (J pre _ _ w5):=qz (hJn _ _ _ _ _ _ _ hJ4 hst.1 hst.2.1 hst.2.2);have HT5:=qz hTC5.swap;have HX5:Hid (xs=pre++Bq (((k1,x1)::r1)++Ap (nx)) (es'++Ap ns')):=by
           show _=_;rw[Hxs.out,heq];simp only[List.nil_append]
          have Hwt:=qz hwt;clear hkb hc hok hst hTC5 heq hwt hV hJ4 hT4 HO u0 u1 u2 u3 v0 v1 v2 v3
          gi_wp2_with (fail)
          gi_roundg (List.length ((k1,x1)::r1)+Ev (nx)+(List.length es'+Ev ns'))
          case rel=>exact⟨pre,_,_,Vx,V',(k1,x1)::r1,nx,es',ns',rfl,HJ5,HX5,HT5⟩
          case measure=>have:=Hwt.out;simp only[List.length_nil,List.length_cons]at this ⊢;omega
        . have c2':Op.bytesLess ((Ca n2)).toList (k1).toList=false:=Bool.eq_false_iff.2 c2;have hg0: ¬(-1:Int)>(I8 n2:Int):=by omega
          have hg1:(I8 n2:Int)>(-1:Int):=by omega
          have HO:=qz (Cp _ Y Vy n2 r2 w4 hT4.y hT4.oky hDy hVy hDb);clear hDb hDx hVx hDy hVy
          gi_wp2_with (fail)
          refine⟨trivial, ?_⟩
          gi_at_call 112
          refine(callsIn_wide.2 HO.out).mono ?_;rintro e w5 ⟨rfl,hkb,V',es',ns',hc,hok,heq,hwt,hV⟩;obtain⟨hTC5,hst⟩:=hT4.swap.step hkb hc hok hV;have HJ5:Hid (J pre _ _ w5):=qz (hJn _ _ _ _ _ _ _ hJ4 hst.1 hst.2.1 hst.2.2);have HT5:=qz hTC5.swap;have HX5:Hid (xs=pre++Bq (((k1,x1)::r1)++Ap (nx)) (es'++Ap ns')):=by
           show _=_;rw[Hxs.out,heq];simp only[List.nil_append]
          have Hwt:=qz hwt;clear hkb hc hok hst hTC5 heq hwt hV hJ4 hT4 HO u0 u1 u2 u3 v0 v1 v2 v3
          gi_wp2_with (fail)
          gi_roundg (List.length ((k1,x1)::r1)+Ev (nx)+(List.length es'+Ev ns'))
          case rel=>exact⟨pre,_,_,Vx,V',(k1,x1)::r1,nx,es',ns',rfl,HJ5,HX5,HT5⟩
          case measure=>have:=Hwt.out;simp only[List.length_nil,List.length_cons]at this ⊢;omega
    . have hstep:Bq ((k1,x1)::(r1++Ap nx)) (Ap ([]:List Nd))=(k1,some x1,none)::Bq (r1++Ap nx) (Ap ([]:List Nd)):=Qt (by simp[Ap]);have HO:=qz (D3 _ X Vx k1 x1 r1 nx w4 hT4.x hDx (fun e=>by have:=(hT4.x.lt.2 X e).1;omega));clear hDx hVx hDy hVy hDb
      gi_wp2_with (fail)
      refine⟨trivial, ?_⟩
      gi_at_call 114
      refine(callsIn_wide.2 HO.out).mono ?_;rintro e w5 ⟨hkb,hc,k',b',n',t',la,ln,lc,oa,on,oc,rfl,hv⟩;obtain⟨hTC5,hst⟩:=hT4.step (V':=Vx) ⟨hkb.os,hkb.tape,hkb.output,hkb.size,fun k a1 a2=>hkb.block k a1 fun h=>a2 (.inl h)⟩ (hc.keep (fun i _ hi=> .inl hi) (Nat.le_refl _) fun _ _ _=>rfl) hT4.okx.tail (.inl rfl);have HJ5:=qz (hJn _ _ _ _ _ _ _ hJ4 hst.1 hst.2.1 hst.2.2);have HGo:=qz (Mz k1 k' b' n' t' la ln lc oa on oc w5);obtain⟨Hv,HT5,Hst⟩:=hid3 hv hTC5 hst;clear hkb hc hTC5 hst hv hJ4 HO u0 u1 u2 u3 v0 v1 v2 v3
      gi_wp2_with (fail)
      refine⟨trivial, ?_⟩
      gi_at_call 113
      refine(callsIn_wide.2 HGo.out).mono ?_;rintro e w6 ⟨rfl,hb6⟩;have hTC6:=HT5.out.below hb6;have hJ6:=hJn _ _ _ _ _ _ _ HJ5.out (KB.of_below hb6) (fun _ _=>⟨Iff.rfl,Iff.rfl⟩) hTC6.kb;have hxe:xs=pre++(k1,some x1,none)::Bq (r1++Ap nx) (([]:List Ax)++Ap ([]:List Nd)):=by
       rw[Hxs.out];simp only[List.cons_append,List.nil_append];rw[hstep]
      have hv:=Hv.out;have hst:=Hst.out;have hYk:=hY pre (k1,some x1,none) (Bq (r1++Ap nx) (([]:List Ax)++Ap ([]:List Nd))) ([.int .i64 k',.bool b',.int .i64 n',.string t',.slice la ln lc,.slice oa on oc],O3) _ _ w6 hxe hJ6 ⟨Fl.step hv hst hT4.kb hb6,rfl⟩ hTC6.tk hTC6.kb;have HX6:Hid (xs=(pre++ [(k1,some x1,none)])++Bq (r1++Ap nx) (([]:List Ax)++Ap ([]:List Nd))):=by
       show _=_;rw[hxe];simp
      have HT6:=qz hTC6;obtain⟨fn,tmps,assign,body,hy,hR⟩:=hYk;simp only[Mb,O3,Option.isSome_some,Option.isSome_none,List.cons_append,List.nil_append]at hy;clear hTC6 hJ6 hxe hv hst Hv Hst HT5 HJ5 hJn hT4 HGo hstep
      gi_wp2_with (refine hR.mono ?_;rintro e w7 ⟨rfl,hJ7,hkb7⟩;clear hy hR)
      gi_roundg (List.length r1+Ev nx+(List.length ([]:List Ax)+Ev ([]:List Nd)))
      case rel=>exact⟨pre++ [(k1,some x1,none)],_,_,Vx,Vy,r1,nx, [], [],rfl,qz hJ7,HX6,qz (HT6.out.keep hkb7)⟩
      case measure=>simp only[List.length_nil,List.length_cons];omega
  . rcases hh2' with⟨k2,x2,r2,rfl,rfl,rfl,rfl,rfl,rfl⟩|⟨n2,r2,q2,rfl,rfl,rfl,hn2,rfl,rfl,rfl,rfl⟩|⟨rfl,rfl,rfl,rfl,rfl,rfl,rfl⟩
    . by_cases c1:Bn (Ca n1) k2=true
      . have c1':Op.bytesLess ((Ca n1)).toList (k2).toList=true:=c1;have HO:=qz (Cp _ X Vx n1 r1 w4 hT4.x hT4.okx hDx hVx hDb);clear hDb hDx hVx hDy hVy
        gi_wp2_with (fail)
        refine⟨trivial, ?_⟩
        gi_at_call 112
        refine(callsIn_wide.2 HO.out).mono ?_;rintro e w5 ⟨rfl,hkb,V',es',ns',hc,hok,heq,hwt,hV⟩;obtain⟨hTC5,hst⟩:=hT4.step hkb hc hok hV;have HJ5:Hid (J pre _ _ w5):=qz (hJn _ _ _ _ _ _ _ hJ4 hst.1 hst.2.1 hst.2.2);have HT5:=qz hTC5;have HX5:Hid (xs=pre++Bq (es'++Ap ns') (((k2,x2)::r2)++Ap (ny))):=by
         show _=_;rw[Hxs.out,heq];simp only[List.nil_append]
        have Hwt:=qz hwt;clear hkb hc hok hst hTC5 heq hwt hV hJ4 hT4 HO u0 u1 u2 u3 v0 v1 v2 v3
        gi_wp2_with (fail)
        gi_roundg (List.length es'+Ev ns'+(List.length ((k2,x2)::r2)+Ev (ny)))
        case rel=>exact⟨pre,_,_,V',Vy,es',ns',(k2,x2)::r2,ny,rfl,HJ5,HX5,HT5⟩
        case measure=>have:=Hwt.out;simp only[List.length_nil,List.length_cons]at this ⊢;omega
      . have c1':Op.bytesLess ((Ca n1)).toList (k2).toList=false:=Bool.eq_false_iff.2 c1;by_cases c2:Bn k2 (Ao n1)=true
        . have c2':Op.bytesLess (k2).toList ((Ao n1)).toList=true:=c2;have hstep:Bq (Ap (n1::r1)) ((k2,x2)::(r2++Ap ny))=(k2,none,some x2)::Bq (Ap (n1::r1)) (r2++Ap ny):=Qs (by obtain⟨v,r,e⟩:=Tj (ns:=r1) (hT4.okx.gds n1 (by simp));exact Lr (by simpa using hT4.okx.asc) e c2);have HO:=qz (D3 _ Y Vy k2 x2 r2 ny w4 hT4.y hDy (fun e=>by have:=(hT4.y.lt.2 Y e).1;omega));clear hDx hVx hDy hVy hDb
          gi_wp2_with (fail)
          refine⟨trivial, ?_⟩
          gi_at_call 114
          refine(callsIn_wide.2 HO.out).mono ?_;rintro e w5 ⟨hkb,hc,k',b',n',t',la,ln,lc,oa,on,oc,rfl,hv⟩;obtain⟨hTC5,hst⟩:=hT4.swap.step (V':=Vy) ⟨hkb.os,hkb.tape,hkb.output,hkb.size,fun k a1 a2=>hkb.block k a1 fun h=>a2 (.inl h)⟩ (hc.keep (fun i _ hi=> .inl hi) (Nat.le_refl _) fun _ _ _=>rfl) hT4.oky.tail (.inl rfl);have HJ5:=qz (hJn _ _ _ _ _ _ _ hJ4 hst.1 hst.2.1 hst.2.2);have HGo:=qz (Ms k2 k' b' n' t' la ln lc oa on oc w5);obtain⟨Hv,HT5,Hst⟩:=hid3 hv hTC5 hst;clear hkb hc hTC5 hst hv hJ4 HO u0 u1 u2 u3 v0 v1 v2 v3
          gi_wp2_with (fail)
          refine⟨trivial, ?_⟩
          gi_at_call 115
          refine(callsIn_wide.2 HGo.out).mono ?_;rintro e w6 ⟨rfl,hb6⟩;have hTC6:=HT5.out.below hb6;have hJ6:=hJn _ _ _ _ _ _ _ HJ5.out (KB.of_below hb6) (fun _ _=>⟨Iff.rfl,Iff.rfl⟩) hTC6.kb;have hxe:xs=pre++(k2,none,some x2)::Bq (([]:List Ax)++Ap (n1::r1)) (r2++Ap ny):=by
           rw[Hxs.out];simp only[List.cons_append,List.nil_append];rw[hstep]
          have hv:=Hv.out;have hst:=Hst.out;have hYk:=hY pre (k2,none,some x2) (Bq (([]:List Ax)++Ap (n1::r1)) (r2++Ap ny)) (O3, [.int .i64 k',.bool b',.int .i64 n',.string t',.slice la ln lc,.slice oa on oc]) _ _ w6 hxe hJ6 ⟨rfl,Fl.step hv hst hT4.swap.kb hb6⟩ hTC6.tk hTC6.kb;have HX6:Hid (xs=(pre++ [(k2,none,some x2)])++Bq (([]:List Ax)++Ap (n1::r1)) (r2++Ap ny)):=by
           show _=_;rw[hxe];simp
          have HT6:=qz hTC6;obtain⟨fn,tmps,assign,body,hy,hR⟩:=hYk;simp only[Mb,O3,Option.isSome_some,Option.isSome_none,List.cons_append,List.nil_append]at hy;clear hTC6 hJ6 hxe hv hst Hv Hst HT5 HJ5 hJn hT4 HGo hstep
          gi_wp2_with (refine hR.mono ?_;rintro e w7 ⟨rfl,hJ7,hkb7⟩;clear hy hR)
          gi_roundg (List.length ([]:List Ax)+Ev (n1::r1)+(List.length r2+Ev ny))
          case rel=>exact⟨pre++ [(k2,none,some x2)],_,_,Vx,Vy, [],n1::r1,r2,ny,rfl,qz hJ7,HX6,qz (HT6.out.swap.keep hkb7)⟩
          case measure=>simp only[List.length_nil,List.length_cons];omega
        . have c2':Op.bytesLess (k2).toList ((Ao n1)).toList=false:=Bool.eq_false_iff.2 c2;have hg1:(I8 n1:Int)>(-1:Int):=by omega
          have HO:=qz (Cp _ X Vx n1 r1 w4 hT4.x hT4.okx hDx hVx hDb);clear hDb hDx hVx hDy hVy
          gi_wp2_with (fail)
          refine⟨trivial, ?_⟩
          gi_at_call 112
          refine(callsIn_wide.2 HO.out).mono ?_;rintro e w5 ⟨rfl,hkb,V',es',ns',hc,hok,heq,hwt,hV⟩;obtain⟨hTC5,hst⟩:=hT4.step hkb hc hok hV;have HJ5:Hid (J pre _ _ w5):=qz (hJn _ _ _ _ _ _ _ hJ4 hst.1 hst.2.1 hst.2.2);have HT5:=qz hTC5;have HX5:Hid (xs=pre++Bq (es'++Ap ns') (((k2,x2)::r2)++Ap (ny))):=by
           show _=_;rw[Hxs.out,heq];simp only[List.nil_append]
          have Hwt:=qz hwt;clear hkb hc hok hst hTC5 heq hwt hV hJ4 hT4 HO u0 u1 u2 u3 v0 v1 v2 v3
          gi_wp2_with (fail)
          gi_roundg (List.length es'+Ev ns'+(List.length ((k2,x2)::r2)+Ev (ny)))
          case rel=>exact⟨pre,_,_,V',Vy,es',ns',(k2,x2)::r2,ny,rfl,HJ5,HX5,HT5⟩
          case measure=>have:=Hwt.out;simp only[List.length_nil,List.length_cons]at this ⊢;omega
    . by_cases hq:q1=q2
      . subst hq;obtain rfl:=By.inj n1 q1 n2 hn1.now hn2.now;have hpe:=Yk w4 q1;have HO:=qz (Pt _ X Vx n1 r1 w4 hT4.x hT4.okx hDx);clear hDx hVx hDb
        gi_wp2_with (fail)
        refine⟨trivial, ?_⟩
        gi_at_call 111
        refine(callsIn_wide.2 HO.out).mono ?_;rintro e w5 ⟨rfl,hkb,V',hV',hc⟩;obtain⟨hTC5,hst⟩:=hT4.step (V':=V') ⟨hkb.os,hkb.tape,hkb.output,hkb.size,fun k a1 a2=>hkb.block k a1 fun h=>a2 (.inl h)⟩ (hc.keep (fun i _ hi=> .inl hi) (Nat.le_refl _) fun _ _ _=>rfl) hT4.okx.skip (.inl hV');have HJ5:=qz (hJn _ _ _ _ _ _ _ hJ4 hst.1 hst.2.1 hst.2.2);have HO2:=qz (Pt _ Y Vy n1 r2 w5 hTC5.y hTC5.oky (fun h=>h.2 hTC5.ty.1));have HT5:=qz hTC5;clear hkb hc hTC5 hst hJ4 hT4 HO u0 u1 u2 u3 v0 v1 v2 v3 hDy hVy
        gi_wp2_with (fail)
        refine⟨trivial, ?_⟩
        gi_at_call 111
        refine(callsIn_wide.2 HO2.out).mono ?_;rintro e w6 ⟨rfl,hkb,V2,hV2,hc⟩;obtain⟨hTC6,hst⟩:=HT5.out.swap.step (V':=V2) ⟨hkb.os,hkb.tape,hkb.output,hkb.size,fun k a1 a2=>hkb.block k a1 fun h=>a2 (.inl h)⟩ (hc.keep (fun i _ hi=> .inl hi) (Nat.le_refl _) fun _ _ _=>rfl) HT5.out.oky.skip (.inl hV2);have HJ6:=qz (hJn _ _ _ _ _ _ _ HJ5.out hst.1 hst.2.1 hst.2.2);have HX6:Hid (xs=pre++Bq ([]++Ap r1) ([]++Ap r2)):=by
         show _=_;rw[Hxs.out];simp only[List.nil_append,Ap];rw[Qu]
        have HT6:=qz hTC6.swap;clear hkb hc hTC6 hst HT5 HJ5 HO2
        gi_wp2_with (fail)
        gi_roundg (List.length ([]:List Ax)+Ev r1+(List.length ([]:List Ax)+Ev r2))
        case rel=>exact⟨pre,_,_,V',V2, [],r1, [],r2,rfl,HJ6,HX6,HT6⟩
        case measure=>
         have:0<wtN n1:=by cases n1<;>(simp only[wtN];omega)
         simp only[List.length_nil,Ev];omega
      . have hpe:(binOp .eql 25 (.pointer (some ⟨q1,0,none⟩)) (.pointer (some ⟨q2,0,none⟩))).run Tryz.prog w4=.ok (.bool false) w4:=by
         obtain⟨_,hk1⟩:=hn1.blk;obtain⟨_,hk2⟩:=hn2.blk;exact Ty hk1 hk2 hq
        by_cases c1:Bn (Ca n1) (Ao n2)=true
        . have c1':Op.bytesLess ((Ca n1)).toList ((Ao n2)).toList=true:=c1;have HO:=qz (Cp _ X Vx n1 r1 w4 hT4.x hT4.okx hDx hVx hDb);clear hDb hDx hVx hDy hVy
          gi_wp2_with (fail)
          refine⟨trivial, ?_⟩
          gi_at_call 112
          refine(callsIn_wide.2 HO.out).mono ?_;rintro e w5 ⟨rfl,hkb,V',es',ns',hc,hok,heq,hwt,hV⟩;obtain⟨hTC5,hst⟩:=hT4.step hkb hc hok hV;have HJ5:Hid (J pre _ _ w5):=qz (hJn _ _ _ _ _ _ _ hJ4 hst.1 hst.2.1 hst.2.2);have HT5:=qz hTC5;have HX5:Hid (xs=pre++Bq (es'++Ap ns') (([]:List Ax)++Ap (n2::r2))):=by
           show _=_;rw[Hxs.out,heq];simp only[List.nil_append]
          have Hwt:=qz hwt;clear hkb hc hok hst hTC5 heq hwt hV hJ4 hT4 HO u0 u1 u2 u3 v0 v1 v2 v3
          gi_wp2_with (fail)
          gi_roundg (List.length es'+Ev ns'+(List.length ([]:List Ax)+Ev (n2::r2)))
          case rel=>exact⟨pre,_,_,V',Vy,es',ns', [],n2::r2,rfl,HJ5,HX5,HT5⟩
          case measure=>have:=Hwt.out;simp only[List.length_nil]at this ⊢;omega
        . have c1':Op.bytesLess ((Ca n1)).toList ((Ao n2)).toList=false:=Bool.eq_false_iff.2 c1;by_cases c2:Bn (Ca n2) (Ao n1)=true
          . have c2':Op.bytesLess ((Ca n2)).toList ((Ao n1)).toList=true:=c2;have HO:=qz (Cp _ Y Vy n2 r2 w4 hT4.y hT4.oky hDy hVy hDb);clear hDb hDx hVx hDy hVy
            gi_wp2_with (fail)
            refine⟨trivial, ?_⟩
            gi_at_call 112
            refine(callsIn_wide.2 HO.out).mono ?_;rintro e w5 ⟨rfl,hkb,V',es',ns',hc,hok,heq,hwt,hV⟩;obtain⟨hTC5,hst⟩:=hT4.swap.step hkb hc hok hV;have HJ5:Hid (J pre _ _ w5):=qz (hJn _ _ _ _ _ _ _ hJ4 hst.1 hst.2.1 hst.2.2);have HT5:=qz hTC5.swap;have HX5:Hid (xs=pre++Bq (([]:List Ax)++Ap (n1::r1)) (es'++Ap ns')):=by
             show _=_;rw[Hxs.out,heq];simp only[List.nil_append]
            have Hwt:=qz hwt;clear hkb hc hok hst hTC5 heq hwt hV hJ4 hT4 HO u0 u1 u2 u3 v0 v1 v2 v3
            gi_wp2_with (fail)
            gi_roundg (List.length ([]:List Ax)+Ev (n1::r1)+(List.length es'+Ev ns'))
            case rel=>exact⟨pre,_,_,Vx,V', [],n1::r1,es',ns',rfl,HJ5,HX5,HT5⟩
            case measure=>have:=Hwt.out;simp only[List.length_nil]at this ⊢;omega
          . have c2':Op.bytesLess ((Ca n2)).toList ((Ao n1)).toList=false:=Bool.eq_false_iff.2 c2;by_cases hg:(I8 n1:Int)>(I8 n2:Int)
            . have hO:=Cp _ X Vx n1 r1 w4 hT4.x hT4.okx hDx hVx hDb;have HO:=qz hO;clear hO;clear hDb hDx hVx hDy hVy
              gi_wp2_with (fail)
              refine⟨trivial, ?_⟩
              gi_at_call 112
              refine(callsIn_wide.2 HO.out).mono ?_;rintro e w5 ⟨rfl,hkb,V',es',ns',hc,hok,heq,hwt,hV⟩;obtain⟨hTC5,hst⟩:=hT4.step hkb hc hok hV;have HJ5:Hid (J pre _ _ w5):=qz (hJn _ _ _ _ _ _ _ hJ4 hst.1 hst.2.1 hst.2.2);have HT5:=qz hTC5;have HX5:Hid (xs=pre++Bq (es'++Ap ns') (([]:List Ax)++Ap (n2::r2))):=by
               show _=_;rw[Hxs.out,heq];simp only[List.nil_append]
              have Hwt:=qz hwt;clear hkb hc hok hst hTC5 heq hwt hV hJ4 hT4 HO u0 u1 u2 u3 v0 v1 v2 v3
              gi_wp2_with (fail)
              gi_roundg (List.length es'+Ev ns'+(List.length ([]:List Ax)+Ev (n2::r2)))
              case rel=>exact⟨pre,_,_,V',Vy,es',ns', [],n2::r2,rfl,HJ5,HX5,HT5⟩
              case measure=>have:=Hwt.out;simp only[List.length_nil]at this ⊢;omega
            . by_cases hg2:(I8 n2:Int)>(I8 n1:Int)
              . have hO:=Cp _ Y Vy n2 r2 w4 hT4.y hT4.oky hDy hVy hDb;have HO:=qz hO;clear hO;clear hDb hDx hVx hDy hVy
                gi_wp2_with (fail)
                refine⟨trivial, ?_⟩
                gi_at_call 112
                refine(callsIn_wide.2 HO.out).mono ?_;rintro e w5 ⟨rfl,hkb,V',es',ns',hc,hok,heq,hwt,hV⟩;obtain⟨hTC5,hst⟩:=hT4.swap.step hkb hc hok hV;have HJ5:Hid (J pre _ _ w5):=qz (hJn _ _ _ _ _ _ _ hJ4 hst.1 hst.2.1 hst.2.2);have HT5:=qz hTC5.swap;have HX5:Hid (xs=pre++Bq (([]:List Ax)++Ap (n1::r1)) (es'++Ap ns')):=by
                 show _=_;rw[Hxs.out,heq];simp only[List.nil_append]
                have Hwt:=qz hwt;clear hkb hc hok hst hTC5 heq hwt hV hJ4 hT4 HO u0 u1 u2 u3 v0 v1 v2 v3
                gi_wp2_with (fail)
                gi_roundg (List.length ([]:List Ax)+Ev (n1::r1)+(List.length es'+Ev ns'))
                case rel=>exact⟨pre,_,_,Vx,V', [],n1::r1,es',ns',rfl,HJ5,HX5,HT5⟩
                case measure=>have:=Hwt.out;simp only[List.length_nil]at this ⊢;omega
              . have hO:=Cp _ Y Vy n2 r2 w4 hT4.y hT4.oky hDy hVy hDb;have HO:=qz hO;clear hO;clear hDb hDx hVx hDy hVy
                gi_wp2_with (fail)
                refine⟨trivial, ?_⟩
                gi_at_call 112
                refine(callsIn_wide.2 HO.out).mono ?_;rintro e w5 ⟨rfl,hkb,V',es',ns',hc,hok,heq,hwt,hV⟩;obtain⟨hTC5,hst⟩:=hT4.swap.step hkb hc hok hV;have HJ5:Hid (J pre _ _ w5):=qz (hJn _ _ _ _ _ _ _ hJ4 hst.1 hst.2.1 hst.2.2);have HT5:=qz hTC5.swap;have HX5:Hid (xs=pre++Bq (([]:List Ax)++Ap (n1::r1)) (es'++Ap ns')):=by
                 show _=_;rw[Hxs.out,heq];simp only[List.nil_append]
                have Hwt:=qz hwt;clear hkb hc hok hst hTC5 heq hwt hV hJ4 hT4 HO u0 u1 u2 u3 v0 v1 v2 v3
                gi_wp2_with (fail)
                gi_roundg (List.length ([]:List Ax)+Ev (n1::r1)+(List.length es'+Ev ns'))
                case rel=>exact⟨pre,_,_,Vx,V', [],n1::r1,es',ns',rfl,HJ5,HX5,HT5⟩
                case measure=>have:=Hwt.out;simp only[List.length_nil]at this ⊢;omega
    . have hO:=Cp _ X Vx n1 r1 w4 hT4.x hT4.okx hDx hVx hDb;have HO:=qz hO;clear hO;clear hDb hDx hVx hDy hVy
      gi_wp2_with (fail)
      refine⟨trivial, ?_⟩
      gi_at_call 112
      refine(callsIn_wide.2 HO.out).mono ?_;rintro e w5 ⟨rfl,hkb,V',es',ns',hc,hok,heq,hwt,hV⟩;obtain⟨hTC5,hst⟩:=hT4.step hkb hc hok hV;have HJ5:Hid (J pre _ _ w5):=qz (hJn _ _ _ _ _ _ _ hJ4 hst.1 hst.2.1 hst.2.2);have HT5:=qz hTC5;have HX5:Hid (xs=pre++Bq (es'++Ap ns') (([]:List Ax)++Ap ([]:List Nd))):=by
       show _=_;rw[Hxs.out,heq];simp only[List.nil_append]
      have Hwt:=qz hwt;clear hkb hc hok hst hTC5 heq hwt hV hJ4 hT4 HO u0 u1 u2 u3 v0 v1 v2 v3
      gi_wp2_with (fail)
      gi_roundg (List.length es'+Ev ns'+(List.length ([]:List Ax)+Ev ([]:List Nd)))
      case rel=>exact⟨pre,_,_,V',Vy,es',ns', [], [],rfl,HJ5,HX5,HT5⟩
      case measure=>have:=Hwt.out;simp only[List.length_nil]at this ⊢;omega
  . rcases hh2' with⟨k2,x2,r2,rfl,rfl,rfl,rfl,rfl,rfl⟩|⟨n2,r2,q2,rfl,rfl,rfl,hn2,rfl,rfl,rfl,rfl⟩|⟨rfl,rfl,rfl,rfl,rfl,rfl,rfl⟩
    . have hstep:Bq (Ap ([]:List Nd)) ((k2,x2)::(r2++Ap ny))=(k2,none,some x2)::Bq (Ap ([]:List Nd)) (r2++Ap ny):=Qs (by simp[Ap]);have HO:=qz (D3 _ Y Vy k2 x2 r2 ny w4 hT4.y hDy (fun e=>by have:=(hT4.y.lt.2 Y e).1;omega));clear hDx hVx hDy hVy hDb
      gi_wp2_with (fail)
      refine⟨trivial, ?_⟩
      gi_at_call 114
      refine(callsIn_wide.2 HO.out).mono ?_;rintro e w5 ⟨hkb,hc,k',b',n',t',la,ln,lc,oa,on,oc,rfl,hv⟩;obtain⟨hTC5,hst⟩:=hT4.swap.step (V':=Vy) ⟨hkb.os,hkb.tape,hkb.output,hkb.size,fun k a1 a2=>hkb.block k a1 fun h=>a2 (.inl h)⟩ (hc.keep (fun i _ hi=> .inl hi) (Nat.le_refl _) fun _ _ _=>rfl) hT4.oky.tail (.inl rfl);have HJ5:=qz (hJn _ _ _ _ _ _ _ hJ4 hst.1 hst.2.1 hst.2.2);have HGo:=qz (Ms k2 k' b' n' t' la ln lc oa on oc w5);obtain⟨Hv,HT5,Hst⟩:=hid3 hv hTC5 hst;clear hkb hc hTC5 hst hv hJ4 HO u0 u1 u2 u3 v0 v1 v2 v3
      gi_wp2_with (fail)
      refine⟨trivial, ?_⟩
      gi_at_call 115
      refine(callsIn_wide.2 HGo.out).mono ?_;rintro e w6 ⟨rfl,hb6⟩;have hTC6:=HT5.out.below hb6;have hJ6:=hJn _ _ _ _ _ _ _ HJ5.out (KB.of_below hb6) (fun _ _=>⟨Iff.rfl,Iff.rfl⟩) hTC6.kb;have hxe:xs=pre++(k2,none,some x2)::Bq (([]:List Ax)++Ap ([]:List Nd)) (r2++Ap ny):=by
       rw[Hxs.out];simp only[List.cons_append,List.nil_append];rw[hstep]
      have hv:=Hv.out;have hst:=Hst.out;have hYk:=hY pre (k2,none,some x2) (Bq (([]:List Ax)++Ap ([]:List Nd)) (r2++Ap ny)) (O3, [.int .i64 k',.bool b',.int .i64 n',.string t',.slice la ln lc,.slice oa on oc]) _ _ w6 hxe hJ6 ⟨rfl,Fl.step hv hst hT4.swap.kb hb6⟩ hTC6.tk hTC6.kb;have HX6:Hid (xs=(pre++ [(k2,none,some x2)])++Bq (([]:List Ax)++Ap ([]:List Nd)) (r2++Ap ny)):=by
       show _=_;rw[hxe];simp
      have HT6:=qz hTC6;obtain⟨fn,tmps,assign,body,hy,hR⟩:=hYk;simp only[Mb,O3,Option.isSome_some,Option.isSome_none,List.cons_append,List.nil_append]at hy;clear hTC6 hJ6 hxe hv hst Hv Hst HT5 HJ5 hJn hT4 HGo hstep
      gi_wp2_with (refine hR.mono ?_;rintro e w7 ⟨rfl,hJ7,hkb7⟩;clear hy hR)
      gi_roundg (List.length ([]:List Ax)+Ev ([]:List Nd)+(List.length r2+Ev ny))
      case rel=>exact⟨pre++ [(k2,none,some x2)],_,_,Vx,Vy, [], [],r2,ny,rfl,qz hJ7,HX6,qz (HT6.out.swap.keep hkb7)⟩
      case measure=>simp only[List.length_nil,List.length_cons];omega
    . have hO:=Cp _ Y Vy n2 r2 w4 hT4.y hT4.oky hDy hVy hDb;have HO:=qz hO;clear hO;clear hDb hDx hVx hDy hVy
      gi_wp2_with (fail)
      refine⟨trivial, ?_⟩
      gi_at_call 112
      refine(callsIn_wide.2 HO.out).mono ?_;rintro e w5 ⟨rfl,hkb,V',es',ns',hc,hok,heq,hwt,hV⟩;obtain⟨hTC5,hst⟩:=hT4.swap.step hkb hc hok hV;have HJ5:Hid (J pre _ _ w5):=qz (hJn _ _ _ _ _ _ _ hJ4 hst.1 hst.2.1 hst.2.2);have HT5:=qz hTC5.swap;have HX5:Hid (xs=pre++Bq (([]:List Ax)++Ap ([]:List Nd)) (es'++Ap ns')):=by
       show _=_;rw[Hxs.out,heq];simp only[List.nil_append]
      have Hwt:=qz hwt;clear hkb hc hok hst hTC5 heq hwt hV hJ4 hT4 HO u0 u1 u2 u3 v0 v1 v2 v3
      gi_wp2_with (fail)
      gi_roundg (List.length ([]:List Ax)+Ev ([]:List Nd)+(List.length es'+Ev ns'))
      case rel=>exact⟨pre,_,_,Vx,V', [], [],es',ns',rfl,HJ5,HX5,HT5⟩
      case measure=>have:=Hwt.out;simp only[List.length_nil]at this ⊢;omega
    . have HP:Hid (PO (.returned (.tuple #[])) w4):=by
       show PO _ _;rw[<-HPO.out];refine⟨rfl,T,K, ?_⟩;have e:=Hxs.out;have e0:pre=xs:=by rw[e];simp[Ap,Bq]
       exact e0▸hJ4
      clear hDx hVx hDy hVy hDb hT4 hJ4
      gi_wp2
      exact bodyPost_end (Fh rfl) rfl HP.out
end Go.Proofs.YtnkmhaachfgaoaaGreatDoor
