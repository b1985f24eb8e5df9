/- Parts: freeze.Value: a tree's object, or why there is none. Condition: a bulk of at most 4 * 10^7. -/
import Derived.Test.YtkmcjfkokoidcaaGreatDoorKFb29
import Derived.Test.YtkmcjfkokoidcaaGreatDoorKFb30
set_option maxHeartbeats 20000000
set_option maxRecDepth 100000
namespace Go.Proofs.YtkmcjfkokoidcaaGreatDoor
open Go Go.RowKit
theorem A0.ownBk {S0:Nat->Prop} {b s i:Nat} {t:TypeId} {wr:World} {l:List D} {V:Value} (h:A0 S0 b t s wr l V) (hi:V.ownBlock=some i): ∃cur,Aj wr i t cur:=by
 obtain⟨ns,h1,_⟩:=h;rcases h1.2 with⟨rfl,_⟩|⟨g,cap,cur,rfl,_,hg,_⟩
 . cases hi
 . cases hi
   exact⟨cur,hg⟩
theorem ScE.below (x:Bj) (q:List Value) (D:Nat->Prop) (A B:World) (h:ScE x q D A) (hb:Below A.heap.size A B):ScE x q D B:=by
 obtain⟨k',b',n',t',la,ln,lc,oa,on,oc,e,h⟩:=h;exact⟨k',b',n',t',la,ln,lc,oa,on,oc,e,h.below hb⟩
theorem ScE.put (x:Bj) (q:List Value) (D:Nat->Prop) (A:World) (k:Nat) (o':Obj) (h:ScE x q D A) (hk: ¬D k):ScE x q D (A.putObj k o'):=by
 obtain⟨k',b',n',t',la,ln,lc,oa,on,oc,e,h⟩:=h;exact⟨k',b',n',t',la,ln,lc,oa,on,oc,e,h.later (by simp[World.putObj]) fun p p1 _=>World.cell?_of_block (World.putObj_heap_other fun e=>hk (e▸p1))⟩
structure FzI (w:World) (B4 c bG bO:Nat) (s:List Bj) (T K:Nat->Prop) (A:World):Prop where
 obj: ∃V,Aj A bO 37 #[.int .i64 6,.bool false,.int .i64 0,.string ⟨#[]⟩,.slice none 0 0,V]/\A0 (fun i=>K i/\ ¬T i) B4 94 7 A (dO s) V/\ ∀g,V.ownBlock=some g-> ¬K g/\ ¬T g
 below:Below w.heap.size w A
 code:Aj A c O4 #[.int .i64 0]
 gate:Aj A bG Tgt (Ri c)
 res:Aj A (w.heap.size+1) 37 A5
 err:Aj A (w.heap.size+2) O4 #[.int .i64 0]
 may:A6 s=0
 own: ∀i,w.heap.size<=i->i<B4-> ¬K i/\ ¬T i
 old: ∀i,T i->w.heap.size<=i
 lt: ∀i,K i->i<A.heap.size
 sz:B4<=A.heap.size
 pos:w.heap.size+2<B4/\w.heap.size<=c/\c<B4/\w.heap.size<=bG/\bG<B4/\w.heap.size<=bO/\bO<B4
theorem FzI.step {w:World} {B4 c bG bO:Nat} {s:List Bj} {T K T' K':Nat->Prop} {A B:World} (h:FzI w B4 c bG bO s T K A) (hb:KB T A B) (hT: ∀i,i<A.heap.size->(T' i ↔ T i)/\(K' i ↔ K i)) (hK: ∀i,K' i->i<B.heap.size):FzI w B4 c bG bO s T' K' B:=by
 obtain⟨V,h1,h2,h5⟩:=h.obj;obtain⟨p1,p2,p3,p4,p5,p6,p7⟩:=h.pos;have z1:=h1.lt;have own:=h.own;refine⟨⟨V,h1.kb hb (own _ p6 p7).2,h2.keepN (Nat.le_refl _) (fun i hi=>⟨(hT i (h.lt i hi.1)).2.2 hi.1,fun h'=>hi.2 ((hT i (h.lt i hi.1)).1.1 h')⟩) hb.size fun i i1 i2=>hb.block i i2 ?_,fun g e=> ?_⟩,h.below.trans (hb.below h.old h.below.size),h.code.kb hb (own _ p2 p3).2,h.gate.kb hb (own _ p4 p5).2,h.res.kb hb (own _ (by omega) (by omega)).2,h.err.kb hb (own _ (by omega) p1).2,h.may,fun i i1 i2=> ?_,fun i hi=> ?_,hK,Nat.le_trans h.sz hb.size,h.pos⟩
 . rcases i1 with i1|i1
   . exact i1.2
   . exact(h5 i i1).2
 . have hl:=(h2.base g e).2;exact⟨fun h'=>(h5 g e).1 ((hT g hl).2.1 h'),fun h'=>(h5 g e).2 ((hT g hl).1.1 h')⟩
 . have hl:i<A.heap.size:=Nat.lt_of_lt_of_le i2 h.sz;exact⟨fun h'=>(own i i1 i2).1 ((hT i hl).2.1 h'),fun h'=>(own i i1 i2).2 ((hT i hl).1.1 h')⟩
 . rcases Nat.lt_or_ge i A.heap.size with h'|h'
   . exact h.old i ((hT i h').1.1 hi)
   . have:=h.below.size;omega
theorem FzI.put {w:World} {B4 c bG bO:Nat} {s:List Bj} {T K:Nat->Prop} {A:World} {k:Nat} {o:Obj} (h:FzI w B4 c bG bO s T K A) (ho:A.heap[k]? =some o) (hc:o.isCells=false) (hk: ¬K k) (hw:w.heap.size<=k) (o':Obj):FzI w B4 c bG bO s T K (A.putObj k o'):=by
 have hcell: ∀i cur t,A.heap[i]? =some (.cells cur t (0,0))->i≠k:=by
  rintro i cur t hi rfl;rw[hi]at ho
  cases ho
  cases hc
 obtain⟨V,h1,h2,h5⟩:=h.obj;refine⟨⟨V,(World.putObj_heap_other (hcell _ _ _ h1)).trans h1,h2.keepN (Nat.le_refl _) (fun i hi=>hi) (by simp[World.putObj]) fun i i1 _=>World.putObj_heap_other ?_,h5⟩,h.below.trans ((KB.put (S:=fun i=>w.heap.size<=i) A hw o').below (fun _ h=>h) h.below.size),(World.putObj_heap_other (hcell _ _ _ h.code)).trans h.code,(World.putObj_heap_other (hcell _ _ _ h.gate)).trans h.gate,(World.putObj_heap_other (hcell _ _ _ h.res)).trans h.res,(World.putObj_heap_other (hcell _ _ _ h.err)).trans h.err,h.may,h.own,h.old,fun i hi=>by have:=h.lt i hi;simpa[World.putObj]using this,by have:=h.sz;simpa[World.putObj]using this,h.pos⟩;rcases i1 with i1|i1
 . exact fun e=>hk (e▸i1.1)
 . obtain⟨cur,hcur⟩:=h2.ownBk i1;exact hcell i _ _ hcur
structure FzX (w:World) (l:List Bj) (A:World):Prop where
 below:Below w.heap.size w A
 bad:A6 l≠0
 res:Aj A (w.heap.size+1) 37 A5
 err:Aj A (w.heap.size+2) O4 #[.int .i64 (A6 l)]
theorem FzX.later {w:World} {l:List Bj} {A B:World} (h:FzX w l A) (hb:Below A.heap.size A B):FzX w l B:=⟨h.below.trans (hb.mono h.below.size),h.bad,h.res.below hb h.res.lt,h.err.below hb h.err.lt⟩
theorem FzX.put {w:World} {l:List Bj} {A:World} {k:Nat} {o:Obj} (h:FzX w l A) (ho:A.heap[k]? =some o) (hc:o.isCells=false) (hw:w.heap.size<=k) (o':Obj):FzX w l (A.putObj k o'):=by
 have hcell: ∀i cur t,A.heap[i]? =some (.cells cur t (0,0))->i≠k:=by
  rintro i cur t hi rfl;rw[hi]at ho
  cases ho
  cases hc
 exact⟨h.below.trans ((KB.put (S:=fun i=>w.heap.size<=i) A hw o').below (fun _ h=>h) h.below.size),h.bad,(World.putObj_heap_other (hcell _ _ _ h.res)).trans h.res,(World.putObj_heap_other (hcell _ _ _ h.err)).trans h.err⟩
theorem J9 {fn:Func} {t u:Tmp} {tmps:Array Value} {W:World} {R R2:Nat} {a0 a1 a2 a3 a4 a5 e:Value} (h:fn.results= #[.cell t 37,.cell u O4]) (hp:tmps.getD t undef=.pointer (some ⟨R,0,none⟩)) (hq:tmps.getD u undef=.pointer (some ⟨R2,0,none⟩)) (hx:Aj W R 37 #[a0,a1,a2,a3,a4,a5]) (hy:Aj W R2 O4 #[e]):
 (results fn tmps).run Tryz.prog W=.ok (.tuple #[.agg #[a0,a1,a2,a3,a4,a5],e]) W:=by
 obtain⟨c0,c1,c2,c3,c4,c5⟩:=Az hx;have d0:W.cell? ⟨R2,0,none⟩=some e:=hy.cell 0;clear hx hy;have hp':tmps[t]?.getD undef=.pointer (some ⟨R,0,none⟩):=by simpa using hp
 have hq':tmps[u]?.getD undef=.pointer (some ⟨R2,0,none⟩):=by simpa using hq
 simp[results,h,hp',hq',go_sem,c0,c1,c2,c3,c4,c5,d0]
theorem Vl (w:World) {p q:Addr} (h:p.block≠q.block) (u v:Value):(w.setCell p u).setCell q v=(w.setCell q v).setCell p u:=by
 unfold World.setCell;simp only[World.mk.injEq,and_true];refine Array.ext_getElem? fun i=> ?_;simp only[Array.getElem?_modify];by_cases h1:p.block=i
 . by_cases h2:q.block=i
   . exact absurd (h1.trans h2.symm) h
   . simp[h1,h2]
 . by_cases h2:q.block=i<;>simp[h1,h2]
theorem Nv: ∀(vs:List Value) (w:World) {g o:Nat} {p:Addr} (_:p.block≠g) (v:Value),(An w g o vs).setCell p v=An (w.setCell p v) g o vs
 | [],_,_,_,_,_,_=>rfl
 |u::r,w,g,o,p,h,v=>by
  unfold An;rw[Nv r (w.setCell ⟨g,o,none⟩ u) h v,Vl w (p:=⟨g,o,none⟩) (q:=p) (fun e=>h e.symm)]
theorem FzI.add {w:World} {B4 c bG bO:Nat} {pre:List Bj} {T K:Nat->Prop} {A w6 w7:World} {key:ByteArray} {v:Val} {cs:List Value} {V:Value} {g7 c7:Nat} {o:Obj}
 (hI:FzI w B4 c bG bO pre T K A) (hE:Ai (fun i=>K i/\ ¬T i) A (dV v) cs) (hk6:KB (fun i=>i=c) A w6) (hc6:Aj w6 c O4 #[.int .i64 0]) (hm:A6 (pre++ [(key,v)])=0)
 (hV:Aj A bO 37 #[.int .i64 6,.bool false,.int .i64 0,.string ⟨#[]⟩,.slice none 0 0,V]) (hrow:A0 (fun i=>K i/\ ¬T i) B4 94 7 A (dO pre) V) (hVo: ∀g,V.ownBlock=some g-> ¬K g/\ ¬T g)
 (hcb:c≠bO) (hgb:bG≠bO) (hgc:bG≠c) (hv1:w.heap.size+1≠bO/\w.heap.size+1≠c) (hv2:w.heap.size+2≠bO/\w.heap.size+2≠c)
 (hg:(w6.drew.alloc o).grownBy w7 V.ownBlock) (hat:(Value.slice (some ⟨g7,0,none⟩) (pre.length+1) c7).ownBlock=V.ownBlock\/(Value.slice (some ⟨g7,0,none⟩) (pre.length+1) c7).ownBlock=some (w6.drew.alloc o).heap.size)
 (hr7:A0 (fun i=>K i/\ ¬T i) B4 94 7 w7 (dO pre++ [dP (G8,Kc)]) (.slice (some ⟨g7,0,none⟩) (pre.length+1) c7)) (hTK: ∀i,T i->K i) (hKA: ∀i,K i->i<A.heap.size):
 FzI w B4 c bG bO (pre++ [(key,v)]) T K ((An w7 g7 (pre.length*7) (.string key::cs)).setCell ⟨bO,5,none⟩ (.slice (some ⟨g7,0,none⟩) (pre.length+1) c7))/\KB (fun i=>i=c\/i=bO\/V.ownBlock=some i) A ((An w7 g7 (pre.length*7) (.string key::cs)).setCell ⟨bO,5,none⟩ (.slice (some ⟨g7,0,none⟩) (pre.length+1) c7)):=by
 obtain⟨p1,p2,p3,p4,p5,p6,p7⟩:=hI.pos;have own:=hI.own;have hz:=hI.sz;have hbb:Below w6.heap.size w6 (w6.drew.alloc o):=(Below.drew (Below.refl _ w6)).alloc (Nat.le_refl _) _;have k6a:KB (fun i=>i=c) A (w6.drew.alloc o):=hk6.trans (KB.of_below (S:=fun i=>i=c) hbb) fun _ _ h=>h;have k60:KB (fun i=>i=c\/V.ownBlock=some i) A (w6.drew.alloc o):=(KB.of_below (Below.refl _ A)).trans k6a fun i _ h=> .inl h;have k67:KB (fun i=>i=c\/V.ownBlock=some i) A w7:=k60.trans (KB.of_grown (S:=fun i=>V.ownBlock=some i) hg fun k e=>e) fun i _ h=> .inr h;have hzA:=hk6.size;have hz6:=hbb.size;have hz7:=hg.size;have hba:=hrow.base;have hnew: ∀g,(Value.slice (some ⟨g7,0,none⟩) (pre.length+1) c7).ownBlock=some g->V.ownBlock=some g\/A.heap.size<=g:=fun g e=>by
  rcases hat with e6|e6
  . exact .inl (e6▸e)
  . rw[e6]at e;have e7:=Option.some.inj e;exact .inr (by omega)
 have hgo:(Value.slice (some ⟨g7,0,none⟩) (pre.length+1) c7).ownBlock=some g7:=rfl;have hg7:=hnew g7 hgo;have hb7:=hr7.base g7 hgo;have hKg: ¬K g7/\ ¬T g7:=by
  rcases hg7 with h|h
  . exact hVo _ h
  . have hk: ¬K g7:=fun hk=>by have:=hKA g7 hk;omega
    exact⟨hk,fun ht=>hk (hTK g7 ht)⟩
 have hE0:Ai (fun i=>K i/\ ¬T i) w7 (dV v) cs:=hE.later k67.size fun p d1 d2=>World.cell?_of_block (k67.block p.block d2 fun h=>by
  rcases h with h|h
  . exact(own c p2 p3).1 (h▸d1.1)
  . exact(hVo _ h).1 d1.1)
 have hE7:Ai (fun i=>(K i/\ ¬T i)/\g7≠i) w7 (dP (key,v)) (.string key::cs):=
  Ai.mono (Oi hE0) fun i _ hi=>⟨hi,fun e=>hKg.1 (e▸hi.1)⟩
 have hrP:=hr7.put (i:=pre.length) (d:=dP (key,v)) (ys:=.string key::cs) (by rw[List.length_append,Ax];simp) (Cs _) hE7;have hcat:(dO pre++ [dP (G8,Kc)]).set pre.length (dP (key,v))=dO (pre++ [(key,v)]):=by
  rw[List.set_append_right _ _ (by rw[Ax];exact Nat.le_refl _),Ax,Nat.sub_self,Bl,Bl,List.map_append];rfl
 rw[hcat]at hrP;have hsm:=Bb (.string key::cs) w7 g7 (pre.length*7);have hfs:=fun d (hd:d≠g7)=>Ar (.string key::cs) w7 g7 (pre.length*7) d hd;have hqs:=Bq (.string key::cs) (Below.refl 0 w7) (Nat.zero_le g7) (o:=pre.length*7);generalize An w7 g7 (pre.length*7) (.string key::cs)=w8 at hrP hsm hfs hqs ⊢;have k78:KB (fun i=>i=g7) w7 w8:=⟨hqs.os,hqs.tape,hqs.output,hqs.size,fun k _ h2=>hfs k h2⟩;have k89:KB (fun i=>i=bO) w8 (w8.setCell ⟨bO,5,none⟩ (.slice (some ⟨g7,0,none⟩) (pre.length+1) c7)):=KB.set (S:=fun i=>i=bO) w8 ⟨bO,5,none⟩ rfl _;have kAll:KB (fun i=>i=c\/i=bO\/V.ownBlock=some i) A (w8.setCell ⟨bO,5,none⟩ (.slice (some ⟨g7,0,none⟩) (pre.length+1) c7)):=by
  have q1:KB (fun i=>i=c\/i=bO\/V.ownBlock=some i) A w7:=(KB.of_below (Below.refl _ A)).trans k67 fun i _ h=>h.imp id .inr;have q2:=q1.trans k78 fun i hi h=>by
   have h:i=g7:=h;subst h;rcases hg7 with h|h
   . exact .inr (.inr h)
   . omega
  exact q2.trans k89 fun i _ h=> .inr (.inl h)
 have hb7':bO<A.heap.size:=by omega
 have g7ge:B4<=g7:=hb7.1;have hc8:Aj w8 c O4 #[.int .i64 0]:=by
  have h1:Aj (w6.drew.alloc o) c O4 #[.int .i64 0]:=hc6.below hbb hc6.lt;have h2:Aj w7 c O4 #[.int .i64 0]:=h1.grown hg fun e=>by have:=(hba c e.symm).1;omega
  exact h2.kb k78 (by show ¬c=g7;omega)
 have hV7:Aj w8 bO 37 #[.int .i64 6,.bool false,.int .i64 0,.string ⟨#[]⟩,.slice none 0 0,V]:=
  (hV.kb k67 (fun h=>h.elim (fun h=>hcb h.symm) fun h=>by have:=(hba _ h).1;omega)).kb k78 (by show ¬bO=g7;omega)
 have hno: ∀g,(Value.slice (some ⟨g7,0,none⟩) (pre.length+1) c7).ownBlock=some g-> ¬K g/\ ¬T g:=fun g e=>by
  rw[hgo]at e
  cases e
  exact hKg
 refine⟨⟨⟨_,hV7.set_ 5 _,hrP.keepN (Nat.le_refl _) (fun i hi=>hi) (by simp[World.setCell]) fun i i1 _=>Below.heap_setCell _ _ _ _ ?_,hno⟩,hI.below.trans (kAll.below (fun i hi=> ?_) hI.below.size),hc8.far (p:=⟨bO,5,none⟩) hcb _, ?_, ?_, ?_,hm,own,hI.old,fun i hi=>Nat.lt_of_lt_of_le (hI.lt i hi) kAll.size,Nat.le_trans hz kAll.size,hI.pos⟩,kAll⟩
 . show i≠bO;rintro rfl;rcases i1 with i1|i1
   . exact(own i p6 p7).1 i1.1
   . rw[hgo]at i1;have:=Option.some.inj i1;omega
 . rcases hi with rfl|rfl|hi
   . exact p2
   . exact p6
   . have:=(hba i hi).1;have:=hI.pos;omega
 . exact hI.gate.kb kAll (fun h=>h.elim hgc fun h=>h.elim hgb fun h=>by have:=(hba _ h).1;omega)
 . exact hI.res.kb kAll (fun h=>h.elim hv1.2 fun h=>h.elim hv1.1 fun h=>by have:=(hba _ h).1;omega)
 . exact hI.err.kb kAll (fun h=>h.elim hv2.2 fun h=>h.elim hv2.1 fun h=>by have:=(hba _ h).1;omega)
attribute [local go_sem] Oper.semAt_some
def Yw (l:List Bj) (w:World) (e:Ending) (w':World):Prop:=Below w.heap.size w w'/\ ∃a n c,e=.returned (.tuple #[.agg #[.int .i64 (if A6 l=0 then 6 else 0),.bool false,.int .i64 0,.string ⟨#[]⟩,.slice none 0 0,.slice a n c],.int .i64 (A6 l)])/\Ah w' w'.heap.size (dV (if A6 l=0 then ov l else Kc)) [.int .i64 (if A6 l=0 then 6 else 0),.bool false,.int .i64 0,.string ⟨#[]⟩,.slice none 0 0,.slice a n c]
def FzB (B5 bT bV bE bG bO c:Nat) (fn:Value) (tr:Value) (x:Bj) (q:List Value) (a':Act) (W:World):Prop:=
 ∃g k' b' n' t' la ln lc oa on oc,q= [.int .i64 k',.bool b',.int .i64 n',.string t',.slice la ln lc,.slice oa on oc]/\B5<=g/\Aj W g 37 #[.int .i64 k',.bool b',.int .i64 n',.string t',.slice la ln lc,.slice oa on oc]/\
  a'={tmps:= #[tr,.pointer (some ⟨bT,0,none⟩),.pointer (some ⟨bV,0,none⟩),.pointer (some ⟨bE,0,none⟩),.pointer (some ⟨bG,0,none⟩),.pointer (some ⟨bO,0,none⟩),.string x.1,.pointer (some ⟨g,0,none⟩),.agg #[.func (.func 76) #[] #[.pointer (some ⟨c,0,none⟩)],.func (.func 79) #[] #[.pointer (some ⟨c,0,none⟩)]],.agg #[.int .i64 6,.bool false,.int .i64 0,.string ⟨#[]⟩,.slice none 0 0,.slice none 0 0],tr,fn,.string x.1,.agg #[.int .i64 k',.bool b',.int .i64 n',.string t',.slice la ln lc,.slice oa on oc],undef,undef,undef,undef,undef,undef,undef,undef,undef,undef,undef,undef,undef,undef,undef,undef,undef,undef,undef,undef],defers:= []}
theorem FzB.put {B5 bT bV bE bG bO c:Nat} {fn tr:Value} {x:Bj} {q:List Value} {a':Act} {W:World} {k:Nat} {o:Obj} (h:FzB B5 bT bV bE bG bO c fn tr x q a' W) (ho:W.heap[k]? =some o) (hc:o.isCells=false) (o':Obj):FzB B5 bT bV bE bG bO c fn tr x q a' (W.putObj k o'):=by
 obtain⟨g,k',b',n',t',la,ln,lc,oa,on,oc,h1,hg,h2,h3⟩:=h;refine⟨g,k',b',n',t',la,ln,lc,oa,on,oc,h1,hg,(World.putObj_heap_other ?_).trans h2,h3⟩;rintro rfl;rw[show W.heap[g]? =some (Obj.cells _ _ _)from h2]at ho
 cases ho
 cases hc
theorem Ur (t:Option (Nat×Nd)) (r:Option Addr) (w:World) (hT:B3 w) (ht:Il (fun i=>i<w.heap.size) w t r) (ok:Sc t) (hb:Ae (Db t)<=40000000) (hin:G3 (Db t)):
 Calls Tryz.prog 14 #[.agg #[.pointer r]] w (Yw (Db t) w):=by
 obtain⟨PO,hPO⟩: ∃P:Ending->World->Prop,Yw (Db t) w=P:=⟨_,rfl⟩;rw[hPO];have hln:=Ba (Db t);obtain⟨w1,hw1⟩: ∃w1,((w.alloc (.cells #[.pointer r] 26)).alloc (.cells A5 37)).alloc (.cells #[.int .i64 0] O4)=w1:=⟨_,rfl⟩;have Hb1:Hid (Below w.heap.size w w1):=hw1▸(Lq _ _ _).alloc (by simp;omega) _;have Hz1:=qz (show w1.heap.size=w.heap.size+1+1+1 from by rw[<-hw1];simp);have HT1:Hid (Aj w1 w.heap.size 26 #[.pointer r]):=hw1▸((Aj.new _ _ _).alloc _).alloc _;have HV1:Hid (Aj w1 (w.heap.size+1) 37 A5):=hw1▸(Aj.nxt _ _ _ _).alloc _;have hE1:Aj w1 (w.heap.size+2) O4 #[.int .i64 0]:=by
  have:=Aj.nxt (w.alloc (.cells #[.pointer r] 26)) (.cells A5 37) O4 #[.int .i64 0]
  rwa [World.size_alloc,hw1]at this
 have HG:=qz (Rj w1);obtain⟨HPO,HE1,Ht⟩:=hid3 hPO hE1 ht;clear hPO hE1 ht;refine(callsIn_wide (n:=12)).1 ?_;refine callsIn_of_wp_marks Tryz.func14 rfl trivial ?_ rfl;simp only[Tryz.ntmps14,List.size_toArray,List.length_cons,List.length_nil,Nat.reduceAdd,Nat.reduceSub,Array.replicate_succ,Array.replicate_zero,List.push_toArray,List.append_toArray,List.nil_append,List.cons_append]
 gi_wp2_with (fail)
 refine⟨trivial, ?_⟩
 gi_at_call 44
 refine(callsIn_wide.2 HG.out).mono ?_;rintro e w2 ⟨hb2,c,rfl,hc,hx2⟩;dsimp only[Ri]
 gi_upto_region 3 with(fail)
 obtain⟨w4,hw4⟩: ∃w4,(w2.alloc (.cells #[.func (.func 76) #[] #[.pointer (some ⟨c,0,none⟩)],.func (.func 79) #[] #[.pointer (some ⟨c,0,none⟩)]] Tgt)).alloc (.cells #[.int .i64 6,.bool false,.int .i64 0,.string ⟨#[]⟩,.slice none 0 0,.slice none 0 0] 37)=w4:=⟨_,rfl⟩;have hb4:Below w2.heap.size w2 w4:=hw4▸(Lq _ _ _);rw[hw4];have hz4:w4.heap.size=w2.heap.size+1+1:=by rw[<-hw4];simp
 have HG4:Hid (Aj w4 w2.heap.size Tgt #[.func (.func 76) #[] #[.pointer (some ⟨c,0,none⟩)],.func (.func 79) #[] #[.pointer (some ⟨c,0,none⟩)]]):=hw4▸(Aj.new _ _ _).alloc _;have HO4:Hid (Aj w4 (w2.heap.size+1) 37 #[.int .i64 6,.bool false,.int .i64 0,.string ⟨#[]⟩,.slice none 0 0,.slice none 0 0]):=hw4▸Aj.nxt _ _ _ _;have hz1:=Hz1.out;have hz2:=hb2.size;have hb14:=hb2.trans (hb4.mono hz2);have HW4:=qz (Hb1.out.trans (hb14.mono Hb1.out.size));have hT4:=HT1.out.below hb14 HT1.out.lt;have HV4:=qz (HV1.out.below hb14 HV1.out.lt);have HE4:=qz (HE1.out.below hb14 HE1.out.lt);have Hc4:=qz (hx2.below hb4 hx2.lt);have lc2:=hx2.lt;have HA:=qz (Abq r w4);have d0:=hT4.cell 0;have ld:=hT4.lt;clear hb2 hb4 hb14 hw4 hw1 hx2 hT4 Hb1 HT1 HV1 HE1 HG
 gi_wp2_with (fail)
 refine⟨trivial, ?_⟩
 gi_at_call 45
 refine(callsIn_wide.2 HA.out).mono ?_;rintro e w5 ⟨hb5,b1,b2,b3,b4,rfl,⟨q1,q2,q3,q4⟩,⟨p1,p2,p3,p4⟩,⟨l1,l2,l3,l4⟩⟩
 gi_wp2_with (fail)
 have HW5:=qz (HW4.out.trans (hb5.mono HW4.out.size));have hz5:=hb5.size;obtain⟨j0,hj,hy0,hy1,hy2⟩:=info_parts Nj;have HQ:Hid (w5.cell? ⟨b1,0,none⟩=some (.pointer r)/\w5.cell? ⟨b2,0,none⟩=some (.string G8)/\w5.cell? ⟨b3,0,none⟩=some (.string G8)/\w5.cell? ⟨b4,0,none⟩=some (.bool true)):=⟨q1,q2,q3,q4⟩;obtain⟨Hj,Hy0,Hy1,Hy2,Hb5⟩:=hid5 hj hy0 hy1 hy2 hb5;clear hj hy0 hy1 hy2 hb5;clear q1 q2 q3 q4;refine Aat (n:=10) (gf:=138) (lb:= #[.pointer (some ⟨b1,0,none⟩),.pointer (some ⟨b2,0,none⟩),.pointer (some ⟨b3,0,none⟩),.pointer (some ⟨b4,0,none⟩)]) rfl (enters_of Tryz.func138 (by kernel_rfl) rfl) (Ye (fun i=>i<w.heap.size\/(w4.heap.size<=i/\i<w5.heap.size)) t r b1 b2 b3 b4 ok (by omega)) (fun _ _=>rfl)
  ScE.put ?hK0 (FzI w w4.heap.size c w2.heap.size (w2.heap.size+1)) (FzX w (Db t)) ?hXn ?hXp ?hIn ?hIp ScE.below ?hN ?h0 (FzB w5.heap.size w.heap.size (w.heap.size+1) (w.heap.size+1+1) w2.heap.size (w2.heap.size+1) c (.func (.func 138) #[] #[.pointer (some ⟨b1,0,none⟩),.pointer (some ⟨b2,0,none⟩),.pointer (some ⟨b3,0,none⟩),.pointer (some ⟨b4,0,none⟩)]) (.agg #[.pointer r])) ?hRp ?assign ?body ?stop ?done
 case hRp=>exact fun x q a' A k o o' h h1 h2=>h.put h1 h2 o'
 case hXn=>exact fun A B h hb=>h.later hb
 case hXp=>exact fun A k o o' h h1 h2 h3=>h.put h1 h2 (by have:=HW5.out.size;omega) o'
 case hK0=>rintro i (h|⟨_,h⟩)<;>omega
 case hIn=>exact fun s T K A T' K' B h h1 h2 h3=>h.step h1 h2 h3
 case hIp=>exact fun s T K A k o o' h h1 h2 h3 h4=>h.put h1 h2 h3 (by have:=HW5.out.size;omega) o'
 case hN=>
  intro W hW;have hz:=hW.size;obtain⟨q1,q2,q3,q4⟩:=HQ.out;exact⟨(hW.cell (p:=⟨b1,0,none⟩) l1).trans q1,(hW.cell (p:=⟨b2,0,none⟩) l2).trans q2,(hW.cell (p:=⟨b3,0,none⟩) l3).trans q3,(hW.cell (p:=⟨b4,0,none⟩) l4).trans q4,⟨.inr ⟨p1,l1⟩,.inr ⟨p2,l2⟩,.inr ⟨p3,l3⟩,.inr ⟨p4,l4⟩⟩,((Ht.out.below HW5.out).below hW).mono fun i _ h=> .inl h,by rintro i (h|⟨_,h⟩)<;>omega⟩
 case h0=>
  have:=HW4.out.size;exact⟨⟨_,HO4.out.below Hb5.out HO4.out.lt,by simpa[dO]using A0.nil _ _ _ _ _,fun g e=>(by cases e)⟩,HW5.out,Hc4.out.below Hb5.out Hc4.out.lt,HG4.out.below Hb5.out HG4.out.lt,HV4.out.below Hb5.out HV4.out.lt,HE4.out.below Hb5.out HE4.out.lt,rfl,fun i h1 h2=>⟨by rintro(h|⟨h,_⟩)<;>omega,fun h=>h⟩,fun i h=>h.elim,by rintro i (h|⟨_,h⟩)<;>omega,by omega,by omega⟩
 case assign=>
  rintro l ⟨k,v⟩ q D W K hw5 ⟨k',b',n',t',la,ln,lc,oa,on,oc,rfl,hE⟩ hK;clear hE;dsimp only[Abn]
  gi_wp2_with (fail)
  exact hK _ _ (Aa _ _) ⟨_,k',b',n',t',la,ln,lc,oa,on,oc,rfl,by omega,Aj.new _ _ _,rfl⟩
 case body=>
  rintro l pre ⟨key,v⟩ rest q T K0 a' A ⟨G,k2',b2',n2',t2',la2,ln2,lc2,oa2,on2,oc2,hq,hG5,hB1,rfl⟩ hx hI ⟨k',b',n',t',la,ln,lc,oa,on,oc,hq2,hE⟩ hTK hKA hd1 hd2 ⟨ds,hds⟩ ⟨rc,hrc⟩;rw[hq2]at hq;simp only[List.cons.injEq,and_true,Value.int.injEq,true_and,Value.bool.injEq,Value.string.injEq,Value.slice.injEq]at hq;obtain⟨rfl,rfl,rfl,rfl,⟨rfl,rfl,rfl⟩,⟨rfl,rfl,rfl⟩⟩:=hq;clear hq2;dsimp only at hE;have hmem:(key,v) ∈ Db t:=by rw[hx];simp
  have hbm:=Ck hmem;simp only at hbm;have hiv:=Ng hin hmem;have hds2:=(Array.getElem?_eq_some_iff.1 hds).1;have hrc2:=(Array.getElem?_eq_some_iff.1 hrc).1;have hR:=L1 key v k' b' n' t' la ln lc oa on oc c 0 w A hT hI.below hI.pos.2.1 (Cb _ _ hE.now) hI.code (by omega) (by omega) hiv;unfold Ql at hR;have g0:A.cell? ⟨w2.heap.size,0,none⟩=some (.func (.func 76) #[] #[.pointer (some ⟨c,0,none⟩)]):=hI.gate.cell 0;have lg:=hI.gate.lt;obtain⟨x0,x1,x2,x3,x4,x5⟩:=Az hB1;have lB1:=hB1.lt;obtain⟨HI,HE,HR,HB1,Hds,Hrc⟩:=hid6 hI hE hR hB1 hds hrc;clear hI hE hR hB1 hds hrc;dsimp only
  gi_wp2_with (fail)
  refine⟨trivial, ?_⟩
  gi_at_call 76
  refine(CallsIn.inRound l (callsIn_wide.2 HR.out)).mono ?_;rintro e w6 ⟨rfl,hk6,hc6⟩;have hmor:=J0 (l:=Db t) (q:=pre.length) (e:=(key,v)) (by rw[hx,List.take_left];exact HI.out.may) (by rw[hx];simp);have htk1:(Db t).take (pre.length+1)=pre++ [(key,v)]:=by
   rw[hx,show pre++(key,v)::rest=(pre++ [(key,v)])++rest by simp];exact List.take_left' (by simp)
  rw[htk1]at hmor;generalize I0 (key,v)=E at*
  have hz5':=HW5.out.size;have hp:=HI.out.pos;have hg6:=HI.out.gate.kb hk6 (show ¬w2.heap.size=c by omega);have hv6:=HI.out.res.kb hk6 (show ¬w.heap.size+1=c by omega);have he6:=HI.out.err.kb hk6 (show ¬w.heap.size+2=c by omega);have hbl6:=HI.out.below.trans (hk6.below (B:=w.heap.size) (fun k h=>by subst h;exact hp.2.1) HI.out.below.size);by_cases hE0:E=0
  . subst hE0;have hme:A6 (pre++ [(key,v)])=0:=hmor.1;obtain⟨V,hV,hrow,hVo⟩:=HI.out.obj;have hBG:=HB1.out.kb hk6 (show ¬G=c by omega);have hO6:=hV.kb hk6 (show ¬w2.heap.size+1=c by omega);have hba:=hrow.base;have hr6:=hrow.keepN (Nat.le_refl _) (fun i hi=>hi) hk6.size fun i i1 i2=>hk6.block i i2 (by
     rcases i1 with i1|i1
     . rintro rfl;exact(HI.out.own _ hp.2.1 hp.2.2.1).1 i1.1
     . have:=(hba i i1).1;omega)
    have hlp:pre.length+1<=40000000:=by
     have:=congrArg List.length hx;simp only[List.length_append,List.length_cons]at this;omega
    obtain⟨aV,cV,rfl⟩:=hrow.slice_n (Ax pre);have hbb:Below w6.heap.size w6 (w6.drew.alloc (.cells #[.string ⟨#[]⟩,.int .i64 0,.bool false,.int .i64 0,.string ⟨#[]⟩,.slice none 0 0,.slice none 0 0] 94)):=(Below.drew (Below.refl _ w6)).alloc (Nat.le_refl _) _;have Hrd:=qz (Ge (Aj.new w6.drew 94 #[.string ⟨#[]⟩,.int .i64 0,.bool false,.int .i64 0,.string ⟨#[]⟩,.slice none 0 0,.slice none 0 0]));have Hd:Hid (Ai (fun i=>(K0 i/\ ¬T i)/\(Value.slice aV pre.length cV).ownBlock≠some i) (w6.drew.alloc (.cells #[.string ⟨#[]⟩,.int .i64 0,.bool false,.int .i64 0,.string ⟨#[]⟩,.slice none 0 0,.slice none 0 0] 94)) (dP (G8,Kc)) [.string ⟨#[]⟩,.int .i64 0,.bool false,.int .i64 0,.string ⟨#[]⟩,.slice none 0 0,.slice none 0 0]):=Oi fun _ _ _=>D3 _ _ (Mf _ _);have Hra:=qz (hr6.below hbb);have hO8:=hO6.below hbb hO6.lt;have hBG8:=hBG.below hbb hBG.lt;have hHG: ∀Y,Aj Y G 37 #[.int .i64 k',.bool b',.int .i64 n',.string t',.slice la ln lc,.slice oa on oc]->Y.cell? ⟨G,0,none⟩=some (.int .i64 k')/\Y.cell? ⟨G,1,none⟩=some (.bool b')/\Y.cell? ⟨G,2,none⟩=some (.int .i64 n')/\Y.cell? ⟨G,3,none⟩=some (.string t')/\Y.cell? ⟨G,4,none⟩=some (.slice la ln lc)/\Y.cell? ⟨G,5,none⟩=some (.slice oa on oc):=fun Y h=>⟨h.cell 0,h.cell 1,h.cell 2,h.cell 3,h.cell 4,h.cell 5⟩;have hGA:=hHG _ hBG;have hGB:=hHG _ hBG8;have hB6:w4.heap.size<=(w6.drew.alloc (.cells #[.string ⟨#[]⟩,.int .i64 0,.bool false,.int .i64 0,.string ⟨#[]⟩,.slice none 0 0,.slice none 0 0] 94)).heap.size:=by have:=hbb.size;have:=hk6.size;have:=HI.out.sz;omega
    have c5:=hO6.cell 5;have c58:=hO8.cell 5;have lo6:=hO6.lt;have lo8:=hO8.lt;have hLo:Hid ((dO pre).length+1<=maxLen/\((dO pre).length+1)*104<=140737488355328):=by rw[Ax];exact⟨by simp only[maxLen];omega,by omega⟩
    obtain⟨HV,Hrow,HVo,HO6,Hr6,Hbb,HO8,HBG8,HHG,HB6,Hk6,Hc6,Hg6,Hv6,He6,Hbl6⟩:=hid16 hV hrow hVo hO6 hr6 hbb hO8 hBG8 hHG hB6 hk6 hc6 hg6 hv6 he6 hbl6;obtain⟨HBG,Hme⟩:=hid2 hBG hme;clear hV hrow hVo hO6 hr6 hbb hO8 hBG8 hHG hB6 hk6 hc6 hg6 hv6 he6 hbl6 hBG hme;clear hmor
    gi_upto_region 8 with(fail)
    refine Qj (S:=fun Y:World=>Y.cell? ⟨G,0,none⟩=some (.int .i64 k')/\Y.cell? ⟨G,1,none⟩=some (.bool b')/\Y.cell? ⟨G,2,none⟩=some (.int .i64 n')/\Y.cell? ⟨G,3,none⟩=some (.string t')/\Y.cell? ⟨G,4,none⟩=some (.slice la ln lc)/\Y.cell? ⟨G,5,none⟩=some (.slice oa on oc)) (by kernel_rfl) (by kernel_rfl) (by rintro⟨_,_,h⟩;exact h) hGA (fun hHeld=> ?_);refine tkH 0 hHeld ?_;refine tkH 2 hHeld ?_;refine tkH 3 hHeld ?_;refine tkH 4 hHeld ?_;refine rd2 1 6 (fun K hK=> ?gA) (fun K hK=> ?gB)
    case' gA=>
     go_simp;refine hK.out _ _ hGA (fun hHeld=> ?_);clear hK K
     try simp only[Act.put,tk1,tk2,tk3,tk4,tk5,tk6]
     refine tkH 5 hHeld ?_;refine Ie 6 fun K hK=> ?_;go_simp;refine hK.out _ _ hGB (fun hHeld=> ?_);clear hK K
     try simp only[Act.put,tk1,tk2,tk3,tk4,tk5,tk6]
    case' gB=>
     go_simp;refine hK.out _ _ hGB (fun hHeld=> ?_);clear hK K
     try simp only[Act.put,tk1,tk2,tk3,tk4,tk5,tk6]
     refine Ie 1 fun K hK=> ?_;go_simp;refine hK.out _ _ hGB (fun hHeld=> ?_);clear hK K
     try simp only[Act.put,tk1,tk2,tk3,tk4,tk5,tk6]
     refine tkH 5 hHeld ?_
    all_goals
     refine Ie 7 fun K hK=> ?_;refine I6 (d:=dP (G8,Kc)) (V:=.slice aV pre.length cV) (by rfl) (.tmp 24) (.tmp 29) 35 (by rfl) Tryz.underlying35 Hj.out Hy0.out Hy1.out Hy2.out rfl (by omega) (by rfl) Hra.out HB6.out (Cs _) Hd.out (by rfl) Hrd.out hLo.out.1 hLo.out.2 ?_;intro V7 w7 hr7 hg7 hat7;have hGn:(Value.slice aV pre.length cV).ownBlock≠some G:=fun e=>by
      obtain⟨cur,hcur⟩:=Hrow.out.ownBk e;have h2:=HB1.out;unfold Aj at hcur h2;rw[hcur]at h2
      cases h2
     have hOn:(Value.slice aV pre.length cV).ownBlock≠some (w2.heap.size+1):=fun e=>by have:=(hba _ e).1;omega
     have hBG7:=HBG8.out.grown hg7 hGn.symm;have hO7:=HO8.out.grown hg7 hOn.symm;have hl7:(dO pre++ [dP (G8,Kc)]).length=pre.length+1:=by rw[List.length_append,Ax];rfl
     obtain⟨g7,c7,rfl,hc7,hg7a,hg7b⟩:=hr7.ptr (by simp);rw[hl7]at hr7 hat7 hc7 ⊢;have hrc7:=hr7.close;rw[show dO pre++ [dP (G8,Kc)]=dO (pre++ [(G8,Kc)])by simp[Bl]]at hrc7;obtain⟨g',off',he',_,u1,u2,u3,u4,u5,u6,_,hcc⟩:=Dt hrc7 (q:=pre.length) (e:=(G8,Kc)) (by simp)
     cases he'
     rw[Nat.zero_add]at hcc;obtain⟨cur7,hcur7⟩:=hr7.ownBk (i:=g7) rfl;have y0:w7.cell? ⟨g7,pre.length*7,none⟩=some (.string G8):=hcc 0 _ rfl;have y1:w7.cell? ⟨g7,pre.length*7+1,none⟩=some (u1):=hcc 1 _ rfl;have y2:w7.cell? ⟨g7,pre.length*7+2,none⟩=some (u2):=hcc 2 _ rfl;have y3:w7.cell? ⟨g7,pre.length*7+3,none⟩=some (u3):=hcc 3 _ rfl;have y4:w7.cell? ⟨g7,pre.length*7+4,none⟩=some (u4):=hcc 4 _ rfl;have y5:w7.cell? ⟨g7,pre.length*7+5,none⟩=some (u5):=hcc 5 _ rfl;have y6:w7.cell? ⟨g7,pre.length*7+6,none⟩=some (u6):=hcc 6 _ rfl;have f7:=hcur7.frozen;have lf7:=hcur7.lt;have o7:=hO7.cell 5;have fo7:=hO7.frozen;have lo7:=hO7.lt;refine hK.out _ _ (HHG.out _ hBG7) (fun hHeld=> ?_);clear hK K
     try simp only[Act.put,tk1,tk2,tk3,tk4,tk5,tk6]
     have hi7:(pre.length:Int)<(pre.length:Int)+1:=by omega
     have hGg:G≠g7:=by
      rintro rfl;have h2:=hBG7;unfold Aj at hcur7 h2;rw[hcur7]at h2
      cases h2
     have hOg:w2.heap.size+1≠g7:=by omega
     have HF:Hid (∀aa,Le (fun B=>FzI w w4.heap.size c w2.heap.size (w2.heap.size+1) (pre++ [(key,v)]) T K0 B/\KB (fun i=> ¬K0 i) A B) (fun B=>FzX w (Db t) B/\KB (fun i=> ¬K0 i) A B) w5.heap.size A .normal aa ((An w7 g7 (pre.length*7) [.string key,.int .i64 k',.bool b',.int .i64 n',.string t',.slice la ln lc,.slice oa on oc]).setCell ⟨w2.heap.size+1,5,none⟩ (.slice (some ⟨g7,0,none⟩) (pre.length+1) c7))):=by
      intro aa;have hadd:=FzI.add HI.out HE.out Hk6.out Hc6.out Hme.out HV.out Hrow.out HVo.out (by omega) (by omega) (by omega) ⟨by omega,by omega⟩ ⟨by omega,by omega⟩ hg7 hat7 hr7 hTK hKA;have hown:=HI.out.own;have hfar: ∀d o,w5.heap.size<=d->d<A.heap.size->A.heap[d]? =some o->o.isCells=false->(((An w7 g7 (pre.length*7) [.string key,.int .i64 k',.bool b',.int .i64 n',.string t',.slice la ln lc,.slice oa on oc]).setCell ⟨w2.heap.size+1,5,none⟩ (.slice (some ⟨g7,0,none⟩) (pre.length+1) c7))).heap[d]? =A.heap[d]? :=fun d o h1 h2 h3 h4=>hadd.2.block d h2 (fun h=>by
       rcases h with h|h|h
       . omega
       . omega
       . obtain⟨cur,hc⟩:=Hrow.out.ownBk h;rw[show A.heap[d]? =some (Obj.cells _ _ _)from hc]at h3
         cases h3
         cases h4)
      refine⟨hfar _ _ (Nat.le_refl _) hds2 Hds.out rfl,hfar _ _ (Nat.le_succ _) hrc2 Hrc.out rfl,hadd.1,(KB.of_below (Below.refl _ A)).trans hadd.2 fun i _ h=> ?_⟩;rcases h with rfl|rfl|h
      . exact(hown _ hp.2.1 hp.2.2.1).1
      . exact(hown _ (by omega) (by omega)).1
      . exact(HVo.out _ h).1
     have hO7s:=hO7.set_ 5 (.slice (some ⟨g7,0,none⟩) (pre.length+1) c7);have HBG7s:=qz (hBG7.far (p:=⟨w2.heap.size+1,5,none⟩) (show G≠w2.heap.size+1 by omega) (.slice (some ⟨g7,0,none⟩) (pre.length+1) c7));have hcf:=fun j (hj:j<w7.heap.size)=>hj;obtain⟨Hcc,Hcur7,HBG7,HO7,Hr7,Hg7,Hat7,HO7s⟩:=hid8 hcc hcur7 hBG7 hO7 hr7 hg7 hat7 hO7s;clear hcc hcur7 hBG7 hO7 hr7 hg7 hat7 hO7s;refine tkH 8 hHeld ?_;refine tkH 10 hHeld ?_;have hsw:((An w7 g7 (pre.length*7) [.string key,.int .i64 k',.bool b',.int .i64 n',.string t',.slice la ln lc,.slice oa on oc]).setCell ⟨w2.heap.size+1,5,none⟩ (.slice (some ⟨g7,0,none⟩) (pre.length+1) c7))=An (w7.setCell ⟨w2.heap.size+1,5,none⟩ (.slice (some ⟨g7,0,none⟩) (pre.length+1) c7)) g7 (pre.length*7) [.string key,.int .i64 k',.bool b',.int .i64 n',.string t',.slice la ln lc,.slice oa on oc]:=Nv [.string key,.int .i64 k',.bool b',.int .i64 n',.string t',.slice la ln lc,.slice oa on oc] w7 (g:=g7) (o:=pre.length*7) (p:=⟨w2.heap.size+1,5,none⟩) hOg (.slice (some ⟨g7,0,none⟩) (pre.length+1) c7);refine rd2 9 11 (fun K hK=> ?_) (fun K hK=> ?_)
     . go_simp;have hfs:=fun d (hd:d≠g7)=>Ar [.string key,.int .i64 k',.bool b',.int .i64 n',.string t',.slice la ln lc,.slice oa on oc] w7 g7 (pre.length*7) d hd;have hF:=HF.out;obtain⟨w8,hw8⟩: ∃w8,An w7 g7 (pre.length*7) [.string key,.int .i64 k',.bool b',.int .i64 n',.string t',.slice la ln lc,.slice oa on oc]=w8:=⟨_,rfl⟩;rw[hw8]at hfs hF;have hBG9:Aj w8 G 37 #[.int .i64 k',.bool b',.int .i64 n',.string t',.slice la ln lc,.slice oa on oc]:=(hfs G hGg).trans HBG7.out;have hO9:Aj w8 (w2.heap.size+1) 37 #[.int .i64 6,.bool false,.int .i64 0,.string ⟨#[]⟩,.slice none 0 0,.slice aV pre.length cV]:=(hfs _ hOg).trans HO7.out;show K _ (An w7 g7 (pre.length*7) [.string key,.int .i64 k',.bool b',.int .i64 n',.string t',.slice la ln lc,.slice oa on oc]);rw[hw8];refine hK.out _ _ (HHG.out _ hBG9) (fun hHeld=> ?_);clear hK K hw8 HF hsw y0 y1 y2 y3 y4 y5 y6 o7 fo7 lo7 f7 lf7
       try simp only[Act.put,tk1,tk2,tk3,tk4,tk5,tk6]
       have o9:=hO9.cell 5;have fo9:=hO9.frozen;have lo9:=hO9.lt;have hH9:=HHG.out _ (hBG9.far (p:=⟨w2.heap.size+1,5,none⟩) (show G≠w2.heap.size+1 by omega) (.slice (some ⟨g7,0,none⟩) (pre.length+1) c7));refine Ie 11 fun K hK=> ?_;go_simp;refine hK.out _ _ hH9 (fun hHeld=> ?_);clear hK K
       try simp only[Act.put,tk1,tk2,tk3,tk4,tk5,tk6]
       refine wpAnyH_done (by kernel_rfl) ?_ _;exact hF {tmps:= #[],defers:= []}
     . go_simp;have hF:=HF.out;rw[hsw]at hF;refine hK.out _ _ (HHG.out _ HBG7s.out) (fun hHeld=> ?_);clear hK K HF hsw
       try simp only[Act.put,tk1,tk2,tk3,tk4,tk5,tk6]
       refine Ie 9 fun K hK=> ?_;go_simp;have hBG9:Aj (An (w7.setCell ⟨w2.heap.size+1,5,none⟩ (.slice (some ⟨g7,0,none⟩) (pre.length+1) c7)) g7 (pre.length*7) [.string key,.int .i64 k',.bool b',.int .i64 n',.string t',.slice la ln lc,.slice oa on oc]) G 37 #[.int .i64 k',.bool b',.int .i64 n',.string t',.slice la ln lc,.slice oa on oc]:=(Ar [.string key,.int .i64 k',.bool b',.int .i64 n',.string t',.slice la ln lc,.slice oa on oc] (w7.setCell ⟨w2.heap.size+1,5,none⟩ (.slice (some ⟨g7,0,none⟩) (pre.length+1) c7)) g7 (pre.length*7) G hGg).trans HBG7s.out;show K _ (An (w7.setCell ⟨w2.heap.size+1,5,none⟩ (.slice (some ⟨g7,0,none⟩) (pre.length+1) c7)) g7 (pre.length*7) [.string key,.int .i64 k',.bool b',.int .i64 n',.string t',.slice la ln lc,.slice oa on oc]);refine hK.out _ _ (HHG.out _ hBG9) (fun hHeld=> ?_);clear hK K
       try simp only[Act.put,tk1,tk2,tk3,tk4,tk5,tk6]
       refine wpAnyH_done (by kernel_rfl) ?_ _;exact hF {tmps:= #[],defers:= []}
  . have hne:(E != 0)=true:=by simpa using hE0
    have Hwy:=qz (T4 c E w6 (hc6.cell 0));have g1:w6.cell? ⟨w2.heap.size,1,none⟩=some (.func (.func 79) #[] #[.pointer (some ⟨c,0,none⟩)]):=hg6.cell 1;have lg6:=hg6.lt;obtain⟨v0,v1,v2,v3,v4,v5⟩:=Az hv6;have fv:=hv6.frozen;have lv:=hv6.lt;have he6':Aj w6 (w.heap.size+1+1) O4 #[.int .i64 0]:=he6;have e0:=he6'.cell 0;have fe:=he6'.frozen;have le:=he6'.lt;have HF:Hid (∀aa,Le (fun B=>FzI w w4.heap.size c w2.heap.size (w2.heap.size+1) (pre++ [(key,v)]) T K0 B/\KB (fun i=> ¬K0 i) A B) (fun B=>FzX w (Db t) B/\KB (fun i=> ¬K0 i) A B) w5.heap.size A .ret aa ((An w6 (w.heap.size+1) 0 [.int .i64 0,.bool false,.int .i64 0,.string ⟨#[]⟩,.slice none 0 0,.slice none 0 0]).setCell ⟨w.heap.size+1+1,0,none⟩ (.int .i64 E))):=by
     intro aa;have hkm:KB (fun i=>i=w.heap.size+1) w6 (An w6 (w.heap.size+1) 0 [.int .i64 0,.bool false,.int .i64 0,.string ⟨#[]⟩,.slice none 0 0,.slice none 0 0]):=
      have hq:=Bq [.int .i64 0,.bool false,.int .i64 0,.string ⟨#[]⟩,.slice none 0 0,.slice none 0 0] (Below.refl 0 w6) (Nat.zero_le (w.heap.size+1)) (o:=0)
      ⟨hq.os,hq.tape,hq.output,hq.size,fun k _ h2=>Ar _ _ _ _ _ h2⟩
     have hvm:Aj (An w6 (w.heap.size+1) 0 [.int .i64 0,.bool false,.int .i64 0,.string ⟨#[]⟩,.slice none 0 0,.slice none 0 0]) (w.heap.size+1) 37 A5:=(((((hv6.set_ 0 (.int .i64 0)).set_ 1 (.bool false)).set_ 2 (.int .i64 0)).set_ 3 (.string ⟨#[]⟩)).set_ 4 (.slice none 0 0)).set_ 5 (.slice none 0 0);have hem:=he6'.kb hkm (show ¬w.heap.size+1+1=w.heap.size+1 by omega);have hblm:=Bq [.int .i64 0,.bool false,.int .i64 0,.string ⟨#[]⟩,.slice none 0 0,.slice none 0 0] hbl6 (Nat.le_succ w.heap.size) (o:=0);generalize An w6 (w.heap.size+1) 0 [.int .i64 0,.bool false,.int .i64 0,.string ⟨#[]⟩,.slice none 0 0,.slice none 0 0]=Wm at hkm hvm hem hblm ⊢;have hzA:A.heap.size<=w6.heap.size:=hk6.size;have hzm:=hkm.size;have hfar: ∀d,w5.heap.size<=d->d<A.heap.size->(Wm.setCell ⟨w.heap.size+1+1,0,none⟩ (.int .i64 E)).heap[d]? =A.heap[d]? :=fun d h1 h2=>
      (Below.heap_setCell _ _ _ _ (by show d≠w.heap.size+1+1;omega)).trans ((hkm.block d (by omega) (by show ¬d=w.heap.size+1;omega)).trans (hk6.block d h2 (by show ¬d=c;omega)))
     have hbadE:=hmor.2 hE0;have hown:=HI.out.own;refine⟨hfar _ (Nat.le_refl _) hds2,hfar _ (Nat.le_succ _) hrc2,⟨hblm.setCell (p:=⟨w.heap.size+1+1,0,none⟩) (by show w.heap.size<=w.heap.size+1+1;omega) _,by rw[hbadE];exact hE0,hvm.far (p:=⟨w.heap.size+1+1,0,none⟩) (by show w.heap.size+1≠w.heap.size+1+1;omega) _,by rw[hbadE];exact hem.set_ 0 _⟩, ?_⟩;have k1:KB (fun i=> ¬K0 i) A w6:=(KB.of_below (Below.refl _ A)).trans hk6 fun i _ e=>by subst e;exact(hown _ hp.2.1 hp.2.2.1).1
     have k2:=k1.trans hkm fun i _ e=>by subst e;exact(hown _ (by omega) (by omega)).1
     exact k2.trans (KB.set (S:=fun i=>i=w.heap.size+1+1) Wm ⟨w.heap.size+1+1,0,none⟩ rfl _) fun i _ e=>by
      have e:i=w.heap.size+1+1:=e;subst e;exact(hown _ (by omega) (by omega)).1
    have HBm:Hid (Aj (An w6 (w.heap.size+1) 0 [.int .i64 0,.bool false,.int .i64 0,.string ⟨#[]⟩,.slice none 0 0,.slice none 0 0]) (w.heap.size+1+1) O4 #[.int .i64 0]):=(Ar [.int .i64 0,.bool false,.int .i64 0,.string ⟨#[]⟩,.slice none 0 0,.slice none 0 0] w6 (w.heap.size+1) 0 (w.heap.size+1+1) (by omega)).trans he6';clear hmor hk6 hc6 hg6 hv6 he6 he6' hbl6 hE0
    gi_wp2_with (fail)
    refine⟨trivial, ?_⟩
    gi_at_call 79
    refine(CallsIn.inRound l (callsIn_wide.2 Hwy.out)).mono ?_;rintro e w7 ⟨rfl,rfl⟩;dsimp only
    iterate 3 gi_step
    obtain⟨Wm,hWm⟩: ∃Wm,((((((w6.setCell ⟨w.heap.size+1,0,none⟩ (.int .i64 0)).setCell ⟨w.heap.size+1,1,none⟩ (.bool false)).setCell ⟨w.heap.size+1,2,none⟩ (.int .i64 0)).setCell ⟨w.heap.size+1,3,none⟩ (.string ⟨#[]⟩)).setCell ⟨w.heap.size+1,4,none⟩ (.slice none 0 0)).setCell ⟨w.heap.size+1,5,none⟩ (.slice none 0 0))=Wm:=⟨_,rfl⟩;rw[hWm];have hWm':An w6 (w.heap.size+1) 0 [.int .i64 0,.bool false,.int .i64 0,.string ⟨#[]⟩,.slice none 0 0,.slice none 0 0]=Wm:=hWm;have hBm:=HBm.out;have hF:=HF.out;rw[hWm']at hBm hF;clear HBm HF hWm hWm' e0 fe le v0 v1 v2 v3 v4 v5 fv lv g1 lg6;have e0:=hBm.cell 0;have fe:=hBm.frozen;have le:=hBm.lt;have HF:=qz hF;clear hF;clear hBm
    iterate 3 gi_step
    clear e0 fe le
    gi_wp2_with (fail)
    exact HF.out _
 case stop=>
  intro A hX hds;have hX2:=hX.put hds rfl (by have:=HW5.out.size;omega) (.deferred none);have HP:Hid (PO (.returned (.tuple #[.agg A5,.int .i64 (A6 (Db t))])) (A.putObj w5.heap.size (.deferred none))):=by
   show PO _ _;rw[<-HPO.out];refine⟨hX2.below,none,0,0,by rw[if_neg hX.bad], ?_⟩;rw[if_neg hX.bad,if_neg hX.bad];exact D3 _ _ (Mf _ _)
  have Hr1:=qz hX2.res;have Hr2:Hid (Aj (A.putObj w5.heap.size (.deferred none)) (w.heap.size+1+1) O4 #[.int .i64 (A6 (Db t))]):=hX2.err;clear hX hX2
  gi_wp2
  refine⟨by simp,.inl ⟨_,_,rfl,run_takeDeferred hds, ?_⟩⟩;exact⟨_,J9 rfl rfl rfl Hr1.out Hr2.out,HP.out⟩
 case done=>
  rintro T K0 A hI hnk hds;obtain⟨V,h1,h2,h3⟩:=hI.obj;obtain⟨aV,cV,rfl⟩:=h2.slice_n (Ax (Db t));have hm:=hI.may;obtain⟨p1,p2,p3,p4,p5,p6,p7⟩:=hI.pos;have own:=hI.own;have hv:=hI.res;have he:Aj A (w.heap.size+1+1) O4 #[.int .i64 0]:=hI.err;have hba:=h2.base;have hsz:=hI.sz;have hz5':=Hb5.out.size;have hdn:(Value.slice aV (Db t).length cV).ownBlock≠some w5.heap.size:=fun e=>by
   obtain⟨cur,hc⟩:=h2.ownBk e;rw[show A.heap[w5.heap.size]? =some (Obj.cells _ _ _)from hc]at hds
   cases hds
  have hkm:KB (fun i=>i=w.heap.size+1) A (An A (w.heap.size+1) 0 [.int .i64 6,.bool false,.int .i64 0,.string ⟨#[]⟩,.slice none 0 0,.slice aV (Db t).length cV]):=
   have hq:=Bq [.int .i64 6,.bool false,.int .i64 0,.string ⟨#[]⟩,.slice none 0 0,.slice aV (Db t).length cV] (Below.refl 0 A) (Nat.zero_le (w.heap.size+1)) (o:=0)
   ⟨hq.os,hq.tape,hq.output,hq.size,fun k _ h2=>Ar _ _ _ _ _ h2⟩
  have hvm:Aj (An A (w.heap.size+1) 0 [.int .i64 6,.bool false,.int .i64 0,.string ⟨#[]⟩,.slice none 0 0,.slice aV (Db t).length cV]) (w.heap.size+1) 37 #[.int .i64 6,.bool false,.int .i64 0,.string ⟨#[]⟩,.slice none 0 0,.slice aV (Db t).length cV]:=(((((hv.set_ 0 (.int .i64 6)).set_ 1 (.bool false)).set_ 2 (.int .i64 0)).set_ 3 (.string ⟨#[]⟩)).set_ 4 (.slice none 0 0)).set_ 5 (.slice aV (Db t).length cV);have hem:=he.kb hkm (show ¬w.heap.size+1+1=w.heap.size+1 by omega);have hsq:=Bb [.int .i64 6,.bool false,.int .i64 0,.string ⟨#[]⟩,.slice none 0 0,.slice aV (Db t).length cV] A (w.heap.size+1) 0;obtain⟨z0,z1,z2,z3,z4,z5⟩:=Az h1;obtain⟨v0,v1,v2,v3,v4,v5⟩:=Az hv;have fv:=hv.frozen;have lv:=hv.lt;have lo:=h1.lt;have hbl:=hI.below;have hcl:=h2.closeIn;obtain⟨Wm,hWm⟩: ∃Wm,An A (w.heap.size+1) 0 [.int .i64 6,.bool false,.int .i64 0,.string ⟨#[]⟩,.slice none 0 0,.slice aV (Db t).length cV]=Wm:=⟨_,rfl⟩;rw[hWm]at hkm hvm hem hsq;have hsz2:(((Wm.setCell ⟨w.heap.size+1+1,0,none⟩ (.int .i64 0)).putObj w5.heap.size (.deferred none))).heap.size=A.heap.size:=by
   rw[<-hsq];simp[World.setCell,World.putObj]
  have hlr: ∀p:Addr,(K0 p.block/\ ¬T p.block)\/(Value.slice aV (Db t).length cV).ownBlock=some p.block->p.block<A.heap.size->(((Wm.setCell ⟨w.heap.size+1+1,0,none⟩ (.int .i64 0)).putObj w5.heap.size (.deferred none))).cell? p=A.cell? p:=fun p q1 q2=>by
   have n1:p.block≠w.heap.size+1/\p.block≠w.heap.size+1+1/\p.block≠w5.heap.size:=by
    rcases q1 with q1|q1
    . refine⟨fun e=>(own p.block (by omega) (by omega)).1 q1.1,fun e=>(own p.block (by omega) (by omega)).1 q1.1,fun e=>hnk (e▸q1.1)⟩
    . have:=(hba _ q1).1;exact⟨by omega,by omega,fun e=>hdn (e▸q1)⟩
   refine World.cell?_of_block ?_;exact(World.putObj_heap_other n1.2.2).trans ((Below.heap_setCell _ _ _ _ n1.2.1).trans (hkm.block _ q2 n1.1))
  have hds2:=hds;have hdm:(Wm.setCell ⟨w.heap.size+1+1,0,none⟩ (.int .i64 0)).heap[w5.heap.size]? =some (.deferred (some [])):=
   (Below.heap_setCell _ _ _ _ (by show w5.heap.size≠w.heap.size+1+1;omega)).trans ((hkm.block _ (Array.getElem?_eq_some_iff.1 hds).1 (by show ¬w5.heap.size=w.heap.size+1;omega)).trans hds)
  have HP:Hid (PO (.returned (.tuple #[.agg #[.int .i64 6,.bool false,.int .i64 0,.string ⟨#[]⟩,.slice none 0 0,.slice aV (Db t).length cV],.int .i64 0])) ((Wm.setCell ⟨w.heap.size+1+1,0,none⟩ (.int .i64 0)).putObj w5.heap.size (.deferred none))):=by
   show PO _ _;rw[<-HPO.out];refine⟨hbl.trans (((((KB.of_below (Below.refl _ A):KB (fun i=>w.heap.size<=i) A A).trans hkm fun i _ h=>by have h:i=w.heap.size+1:=h;omega).trans (KB.set (S:=fun i=>w.heap.size<=i) Wm ⟨w.heap.size+1+1,0,none⟩ (by show w.heap.size<=w.heap.size+1+1;omega) (.int .i64 0)) fun _ _ h=>h).trans (KB.put (S:=fun i=>w.heap.size<=i) _ (k:=w5.heap.size) (by omega) (.deferred none)) fun _ _ h=>h).below (fun _ h=>h) hbl.size),_,_,_,by rw[if_pos hm,hm], ?_⟩;rw[if_pos hm,if_pos hm];exact(Zn (hcl.later (Nat.le_of_eq hsz2.symm) hlr)).now
  have Hr1:Hid (Aj ((Wm.setCell ⟨w.heap.size+1+1,0,none⟩ (.int .i64 0)).putObj w5.heap.size (.deferred none)) (w.heap.size+1) 37 #[.int .i64 6,.bool false,.int .i64 0,.string ⟨#[]⟩,.slice none 0 0,.slice aV (Db t).length cV]):=(World.putObj_heap_other (by omega)).trans (hvm.far (p:=⟨w.heap.size+1+1,0,none⟩) (by show w.heap.size+1≠w.heap.size+1+1;omega) (.int .i64 0));have Hr2:Hid (Aj ((Wm.setCell ⟨w.heap.size+1+1,0,none⟩ (.int .i64 0)).putObj w5.heap.size (.deferred none)) (w.heap.size+1+1) O4 #[.int .i64 0]):=(World.putObj_heap_other (by omega)).trans (hem.set_ 0 (.int .i64 0));obtain⟨HI,H1,H2,H3,Hm,Hv,He,Hvm,Hem,Hkm,Hsq,Hbl,Hcl,Hds,Hdm⟩:=hid15 hI h1 h2 h3 hm hv he hvm hem hkm hsq hbl hcl hds hdm;clear hI h1 h2 h3 hm hv he hvm hem hkm hsq hbl hcl hds hdm;clear hlr hba hsz2 hds2
  iterate 5 gi_step
  iterate 2 gi_step
  iterate 3 gi_step
  obtain⟨Wq,hWq⟩: ∃Wq,((((((A.setCell ⟨w.heap.size+1,0,none⟩ (.int .i64 6)).setCell ⟨w.heap.size+1,1,none⟩ (.bool false)).setCell ⟨w.heap.size+1,2,none⟩ (.int .i64 0)).setCell ⟨w.heap.size+1,3,none⟩ (.string ⟨#[]⟩)).setCell ⟨w.heap.size+1,4,none⟩ (.slice none 0 0)).setCell ⟨w.heap.size+1,5,none⟩ (.slice aV (Db t).length cV))=Wq:=⟨_,rfl⟩;rw[hWq];obtain rfl:Wq=Wm:=hWq.symm.trans hWm;clear hWq hWm v0 v1 v2 v3 v4 v5 fv lv z0 z1 z2 z3 z4 z5 lo;have e0:=Hem.out.cell 0;have fe:=Hem.out.frozen;have le:=Hem.out.lt
  iterate 3 gi_step
  clear e0 fe le;have hds:=Hdm.out
  gi_wp2_with (fail)
  refine⟨by simp,.inl ⟨_,_,rfl,run_takeDeferred hds, ?_⟩⟩;exact⟨_,J9 rfl rfl rfl Hr1.out Hr2.out,HP.out⟩
end Go.Proofs.YtkmcjfkokoidcaaGreatDoor
