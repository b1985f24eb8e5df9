/- Parts: Two cursors of a diff that stand side by side. No condition. -/
import Derived.Test.YtnkmhaachfgaoaaGreatDoorKPq28
import Derived.Test.YtnkmhaachfgaoaaGreatDoorKPq29
import Derived.Test.YtnkmhaachfgaoaaGreatDoorKPq30
namespace Go.Proofs.YtnkmhaachfgaoaaGreatDoor
open Go Go.RowKit
def F0 (D:Nat->Prop) (w:World) (C:Nat) (V:Value) (es:List Ax) (ns:List Nd):Prop:=
 ∃(ea:Option Addr) (c:Nat) (o:Int) (bs:List Nat),Ah w C Je #[.slice ea es.length c,V,.int .i64 o]/\(0<=o/\o+((es.length+Ev ns:Nat):Int)<=100000000/\es.length<=c)/\Ag D w (.row 7 (dO es)) [.slice ea es.length c]/\
  Al (fun _=>False) (C+1) 25 1 w (Ar bs.reverse) V/\Am D w ns bs
theorem F0.keep {D D':Nat->Prop} {w w':World} {C:Nat} {V:Value} {es:List Ax} {ns:List Nd} (h:F0 D w C V es ns) (hD: ∀i,i<w'.heap.size->D i->D' i) (hs:w.heap.size<=w'.heap.size) (hk: ∀i,(D i\/i=C\/V.ownBlock=some i)->i<w.heap.size->w'.heap[i]? =w.heap[i]?):F0 D' w' C V es ns:=by
 obtain⟨ea,c,o,bs,h1,h2,h3,h4,h5⟩:=h;exact⟨ea,c,o,bs,(hk C (.inr (.inl rfl)) h1.lt).trans h1,h2,(h3.later hs fun p p1 p2=>World.cell?_of_block (hk p.block (.inl p1) p2)).mono hD,h4.keepP hs fun i e hi=>hk i (.inr (.inr e)) hi,h5.imp hD hs fun i i1 i2=>hk i (.inl i1) i2⟩
theorem F0.below {D:Nat->Prop} {w w':World} {C:Nat} {V:Value} {es:List Ax} {ns:List Nd} (h:F0 D w C V es ns) (hb:Below w.heap.size w w'):F0 D w' C V es ns:=h.keep (fun _ _ h=>h) hb.size fun i _ hi=>hb.block i hi
theorem F0.lt {D:Nat->Prop} {w:World} {C:Nat} {V:Value} {es:List Ax} {ns:List Nd} (h:F0 D w C V es ns):C<w.heap.size/\ ∀g,V.ownBlock=some g->C<g/\g<w.heap.size:=by
 obtain⟨ea,c,o,bs,h1,h2,h3,h4,h5⟩:=h;exact⟨h1.lt,fun g e=>by have:=h4.base g e;omega⟩
def Ue (D:Nat->Prop) (w:World) (es:List Ax) (ns:List Nd) (p:Option Addr) (h:Int) (f l:ByteArray) (b:Bool):Prop:=
 (∃k v r,es=(k,v)::r/\p=none/\h= -1/\k=f/\k=l/\b=true)\/
 (∃n r q,es= []/\ns=n::r/\p=some ⟨q,0,none⟩/\Bj D w n q/\h=I8 n/\f=Ao n/\l=Ca n/\b=true)\/
 (es= []/\ns= []/\p=none/\h=0/\f=⟨#[]⟩/\l=⟨#[]⟩/\b=false)
theorem Ue.later {D:Nat->Prop} {w w':World} {es:List Ax} {ns:List Nd} {p:Option Addr} {h:Int} {f l:ByteArray} {b:Bool} (hh:Ue D w es ns p h f l b) (hb:Below w.heap.size w w'):Ue D w' es ns p h f l b:=by
 rcases hh with hh|⟨n,r,q,h1,h2,h3,h4,h5⟩|hh
 . exact .inl hh
 . exact .inr (.inl ⟨n,r,q,h1,h2,h3,h4.below hb,h5⟩)
 . exact .inr (.inr hh)
theorem Q7 (D:Nat->Prop) (C:Nat) (V:Value) (es:List Ax) (ns:List Nd) (w:World) (hc:F0 D w C V es ns) (ho:CurOk es ns):
 Calls Tryz.prog 110 #[.pointer (some ⟨C,0,none⟩)] w fun e w'=> ∃p h f l b,e=.returned (.tuple #[.agg #[.pointer p,.int .i64 h,.string f,.string l],.bool b])/\Below w.heap.size w w'/\Ue D w es ns p h f l b:=by
 obtain⟨ea,c,o,bs,h1,h2,h3,h4,h5⟩:=hc;have hlen:=ho.len;have hgl:=Ux ho.gds;rw[List.length_append]at hlen
 cases es with
 |cons x r=>
  obtain⟨k,v⟩:=x;obtain⟨g,off,rfl,_,u1,u2,u3,u4,u5,u6,_,r1⟩:=Ds h3.now (q:=0) rfl;have s0:=r1 0 _ rfl;simp only[Nat.zero_mul,Nat.add_zero]at s0;refine(Xn C g off r.length c V o k w h1 s0).mono ?_;rintro e w' ⟨rfl,hb⟩;exact⟨_,_,_,_,_,rfl,hb,.inl ⟨k,v,r,rfl,rfl,rfl,rfl,rfl,rfl⟩⟩
 |nil=>
  cases ns with
  |nil=>
   simp only[Am]at h5;subst h5;obtain⟨a',c',rfl⟩:=h4.slice;refine(Xp C c c' ea a' o w h1).mono ?_;rintro e w' ⟨rfl,hb⟩;exact⟨_,_,_,_,_,rfl,hb,.inr (.inr ⟨rfl,rfl,rfl,rfl,rfl,rfl,rfl⟩)⟩
  |cons n r=>
   simp only[Am]at h5;obtain⟨q,t,rfl,h6,h7⟩:=h5;rw[List.reverse_cons]at h4;have hl7:=h7.now.len;rw[List.length_cons]at hgl;obtain⟨g,c',rfl,_,_,s0⟩:=Vk h4 rfl;refine(Xo C c c' g t.reverse.length ea o n q w h1 (by rw[List.length_reverse];omega) s0 h6.now).mono ?_;rintro e w' ⟨rfl,hb⟩;exact⟨_,_,_,_,_,rfl,hb,.inr (.inl ⟨n,r,q,rfl,rfl,rfl,h6,rfl,rfl,rfl,rfl⟩)⟩
theorem Pt (D:Nat->Prop) (C:Nat) (V:Value) (n:Nd) (ns:List Nd) (w:World) (hc:F0 D w C V [] (n::ns)) (ho:CurOk [] (n::ns)) (hD: ¬D C):
 Calls Tryz.prog 111 #[.pointer (some ⟨C,0,none⟩)] w fun e w'=>e=.returned (.tuple #[])/\KB (fun i=>i=C) w w'/\ ∃V',V'.ownBlock=V.ownBlock/\F0 D w' C V' [] ns:=by
 obtain⟨ea,c,o,bs,h1,h2,h3,h4,h5⟩:=hc;have hlen:=ho.len;have hgl:=Ux ho.gds;rw[List.length_append]at hlen;simp only[Am]at h5;obtain⟨q,t,rfl,h6,h7⟩:=h5;rw[List.reverse_cons]at h4;have hl7:=h7.now.len;rw[List.length_cons]at hgl;obtain⟨g,c',rfl,hcap,hgC,s0⟩:=Vk h4 rfl;refine(M9 C g t.reverse.length c' (.slice ea 0 c) o w h1 hcap (by rw[List.length_reverse];omega)).mono ?_;rintro e w' ⟨rfl,rfl⟩;have hp:Al (fun _=>False) (C+1) 25 1 w (Ar t.reverse) (.slice (some ⟨g,0,none⟩) t.reverse.length c'):=by
  have e1:Ar (t.reverse++ [q])=Ar t.reverse++ [Se q]:=by simp[Ar]
  rw[e1]at h4;have:=h4.pop
  rwa [Av]at this
 have hk: ∀i,i≠C->i<w.heap.size->(w.setCell ⟨C,1,none⟩ (.slice (some ⟨g,0,none⟩) t.reverse.length c')).drew.heap[i]? =w.heap[i]? :=fun i i1 _=>Below.heap_setCell _ _ _ _ (fun e=>i1 e);have hs:w.heap.size<=(w.setCell ⟨C,1,none⟩ (.slice (some ⟨g,0,none⟩) t.reverse.length c')).drew.heap.size:=by simp[World.setCell]
 have hnC: ∀i,D i->i≠C:=fun i hi e=>hD (e▸hi);refine⟨rfl,(KB.set (S:=fun i=>i=C) w ⟨C,1,none⟩ rfl _).trans (KB.of_below (S:=fun i=>i=C) (Below.drew (Below.refl _ _))) fun _ _ h=>h,.slice (some ⟨g,0,none⟩) t.reverse.length c',rfl,ea,c,o,t,(h1.set_ 1 _).drew, ?_,h3.later hs fun p p1 p2=>World.cell?_of_block (hk p.block (hnC _ p1) p2),hp.keepP hs fun i e hi=>hk i (by have e2:g=i:=Option.some.inj e;omega) hi,h7.later hs fun i i1 i2=>hk i (hnC i i1) i2⟩;have:Ev ns<=Ev (n::ns):=by simp only[Ev];omega
 simp only[List.length_nil]at h2 ⊢;exact⟨h2.1,by omega,h2.2.2⟩
theorem D3 (D:Nat->Prop) (C:Nat) (V:Value) (k:ByteArray) (v:Val) (es:List Ax) (ns:List Nd) (w:World) (hc:F0 D w C V ((k,v)::es) ns) (hD: ¬D C) (hV:V.ownBlock≠some C):
 Calls Tryz.prog 114 #[.pointer (some ⟨C,0,none⟩)] w fun e w'=>KB (fun i=>i=C) w w'/\F0 D w' C V es ns/\ ∃k' b' n' t' la ln lc oa on oc,e=.returned (.agg #[.string k,.int .i64 k',.bool b',.int .i64 n',.string t',.slice la ln lc,.slice oa on oc])/\Ag D w' (dV v) [.int .i64 k',.bool b',.int .i64 n',.string t',.slice la ln lc,.slice oa on oc]:=by
 obtain⟨ea,c,o,bs,h1,h2,h3,h4,h5⟩:=hc;obtain⟨k',b',n',t',l',o'⟩:=v;obtain⟨g,off,rfl,_,la,lc,oa,oc,hv,c0,c1,c2,c3,c4,c5,c6⟩:=F5 h3 (q:=0) rfl;simp only[Nat.zero_mul,Nat.add_zero]at c0 c1 c2 c3 c4 c5 c6;have hcap:es.length+1<=c:=h2.2.2;refine(Aa7 C g off es.length c V o k k' b' n' t' la l'.length lc oa o'.length oc w h1 hcap ?_).mono ?_
 . intro j u hj
   match j with
   |0=>cases hj;exact c0
   |1=>cases hj;exact c1
   |2=>cases hj;exact c2
   |3=>cases hj;exact c3
   |4=>cases hj;exact c4
   |5=>cases hj;exact c5
   |6=>cases hj;exact c6
   |j+7=>simp at hj
 rintro e w' ⟨rfl,hkb,a2,ha2,hx⟩;have hs:=hkb.size;have hnC: ∀i,D i->i≠C:=fun i hi e=>hD (e▸hi);have hk: ∀i,i≠C->i<w.heap.size->w'.heap[i]? =w.heap[i]? :=fun i i1 i2=>hkb.block i i2 i1;refine⟨hkb,⟨a2,c - 1,o,bs,hx, ?_, ?_,h4.keepP hs fun i e hi=>hk i (by rintro rfl;exact hV e) hi,h5.later hs fun i i1 i2=>hk i (hnC i i1) i2⟩,_,_,_,_,_,_,_,_,_,_,rfl,hv.later hs fun p p1 p2=>World.cell?_of_block (hk p.block (hnC _ p1) p2)⟩
 . simp only[List.length_cons]at h2;exact⟨h2.1,by omega,by omega⟩
 . have h6:Ag D w' (.row 7 (dO ((k,.mk k' b' n' t' l' o')::es))) [.slice (some ⟨g,off,none⟩) (es.length+1) c]:=h3.later hs fun p p1 p2=>World.cell?_of_block (hk p.block (hnC _ p1) p2);intro w'' q1 q2;have h7:=(h6 w'' q1 q2).cutR (i:=1) (m:=es.length) (by simp[At];omega) (c - 1);have e1:(dO ((k,.mk k' b' n' t' l' o')::es)).drop 1=dO es:=by simp[dO]
   rw[e1]at h7;by_cases h0:es.length=0
   . have:es= []:=List.eq_nil_of_length_eq_zero h0;subst this;exact⟨a2,c - 1,rfl,by simp[dO], [],rfl,.inl rfl⟩
   . rw[ha2 h0];rw[Nat.one_mul]at h7;exact h7
structure TC (W:World) (T K:Nat->Prop) (X Y:Nat) (Vx Vy:Value) (ex:List Ax) (nx:List Nd) (ey:List Ax) (ny:List Nd):Prop where
 x:F0 (fun i=>K i/\ ¬T i) W X Vx ex nx
 y:F0 (fun i=>K i/\ ¬T i) W Y Vy ey ny
 okx:CurOk ex nx
 oky:CurOk ey ny
 kb: ∀i,K i->i<W.heap.size
 tk: ∀i,T i->K i
 tx:T X/\ ∀g,Vx.ownBlock=some g->T g/\g≠Y
 ty:T Y/\ ∀g,Vy.ownBlock=some g->T g/\g≠X
 ne:X≠Y/\ ∀g,Vx.ownBlock=some g->Vy.ownBlock≠some g
section
variable {W W':World} {T K:Nat->Prop} {X Y:Nat} {Vx Vy:Value} {ex:List Ax} {nx:List Nd} {ey:List Ax} {ny:List Nd}
theorem TC.swap (h:TC W T K X Y Vx Vy ex nx ey ny):TC W T K Y X Vy Vx ey ny ex nx:=
 ⟨h.y,h.x,h.oky,h.okx,h.kb,h.tk,h.ty,h.tx,h.ne.1.symm,fun g e e'=>h.ne.2 g e' e⟩
theorem TC.keep (h:TC W T K X Y Vx Vy ex nx ey ny) (hb:KB (fun i=> ¬K i) W W'):TC W' T K X Y Vx Vy ex nx ey ny:=by
 have hk: ∀i,i<W.heap.size->K i->W'.heap[i]? =W.heap[i]? :=fun i i1 i2=>hb.block i i1 fun h=>h i2;exact⟨h.x.keep (fun _ _ h=>h) hb.size fun i i1 i2=>hk i i2 (by
  rcases i1 with i1|i1|i1
  . exact i1.1
  . exact i1▸h.tk X h.tx.1
  . exact h.tk i (h.tx.2 i i1).1),h.y.keep (fun _ _ h=>h) hb.size fun i i1 i2=>hk i i2 (by
  rcases i1 with i1|i1|i1
  . exact i1.1
  . exact i1▸h.tk Y h.ty.1
  . exact h.tk i (h.ty.2 i i1).1),h.okx,h.oky,fun i hi=>Nat.lt_of_lt_of_le (h.kb i hi) hb.size,h.tk,h.tx,h.ty,h.ne⟩
theorem TC.below (h:TC W T K X Y Vx Vy ex nx ey ny) (hb:Below W.heap.size W W'):TC W' T K X Y Vx Vy ex nx ey ny:=h.keep (KB.of_below hb)
def Ad9 (W W':World) (T K T' K':Nat->Prop):Prop:=KB T W W'/\(∀i,i<W.heap.size->(T' i ↔ T i)/\(K' i ↔ K i))/\ ∀i,K' i->i<W'.heap.size
theorem TC.step {V':Value} {ex':List Ax} {nx':List Nd} (h:TC W T K X Y Vx Vy ex nx ey ny) (hb:KB (fun i=>i=X\/Vx.ownBlock=some i) W W')
 (hc:F0 (fun i=>(K i/\ ¬T i)\/(W.heap.size<=i/\V'.ownBlock≠some i)) W' X V' ex' nx') (ho:CurOk ex' nx') (hV:V'.ownBlock=Vx.ownBlock\/ ∃g,V'.ownBlock=some g/\W.heap.size<=g):
 TC W' (fun i=>T i\/V'.ownBlock=some i) (fun i=>K i\/(W.heap.size<=i/\i<W'.heap.size)) X Y V' Vy ex' nx' ey ny/\Ad9 W W' T K (fun i=>T i\/V'.ownBlock=some i) (fun i=>K i\/(W.heap.size<=i/\i<W'.heap.size)):=by
 have hz:=hb.size;have hT: ∀i,i<W.heap.size->V'.ownBlock=some i->T i:=fun i i1 i2=>by
  rcases hV with e|⟨g,e,hg⟩
  . exact(h.tx.2 i (e▸i2)).1
  . rw[e]at i2;cases i2;omega
 have hTb: ∀i,T i->i<W.heap.size:=fun i hi=>h.kb i (h.tk i hi);have hXb:=h.kb X (h.tk X h.tx.1);have hYb:=h.kb Y (h.tk Y h.ty.1);have hV': ∀g,V'.ownBlock=some g->(T g/\Vx.ownBlock=some g)\/W.heap.size<=g:=fun g e=>by
  rcases hV with e'|⟨g',e',hg⟩
  . exact .inl ⟨(h.tx.2 g (e'▸e)).1,e'▸e⟩
  . rw[e']at e;cases e;exact .inr hg
 have hlt:=hc.lt;have hKB:KB T W W':=⟨hb.os,hb.tape,hb.output,hb.size,fun k k1 k2=>hb.block k k1 (by
  rintro(e|e)
  . exact k2 (e▸h.tx.1)
  . exact k2 (h.tx.2 k e).1)⟩
 refine⟨⟨hc.keep (fun i i1 i2=> ?_) (Nat.le_refl _) fun _ _ _=>rfl,h.y.keep (fun i i1 i2=> ?_) hz fun i i1 i2=>hb.block i i2 ?_,ho,h.oky, ?_, ?_, ?_, ?_,h.ne.1, ?_⟩,⟨hKB,fun i hi=>⟨⟨fun h1=>h1.elim id (hT i hi),.inl⟩,⟨fun h1=>h1.elim id fun h2=>by omega,.inl⟩⟩, ?_⟩⟩
 . rcases i2 with i2|i2
   . refine⟨.inl i2.1,fun h1=>h1.elim i2.2 fun e=>i2.2 (hT i (h.kb i i2.1) e)⟩
   . exact⟨.inr ⟨i2.1,i1⟩,fun h1=>h1.elim (fun h2=>by have:=hTb i h2;omega) i2.2⟩
 . exact⟨.inl i2.1,fun h1=>h1.elim i2.2 fun e=>i2.2 (hT i (h.kb i i2.1) e)⟩
 . rintro(e|e)
   . subst e;rcases i1 with i1|i1|i1
     . exact i1.2 h.tx.1
     . exact h.ne.1 i1
     . exact(h.ty.2 _ i1).2 rfl
   . rcases i1 with i1|i1|i1
     . exact i1.2 (h.tx.2 i e).1
     . exact(h.tx.2 i e).2 i1
     . exact h.ne.2 i e i1
 . rintro i (hi|hi)
   . exact Nat.lt_of_lt_of_le (h.kb i hi) hz
   . exact hi.2
 . rintro i (hi|hi)
   . exact .inl (h.tk i hi)
   . rcases hV' i hi with h1|h1
     . exact .inl (h.tk i h1.1)
     . exact .inr ⟨h1,(hlt.2 i hi).2⟩
 . refine⟨.inl h.tx.1,fun g e=>⟨.inr e, ?_⟩⟩;rcases hV' g e with h1|h1
   . exact(h.tx.2 g h1.2).2
   . omega
 . exact⟨.inl h.ty.1,fun g e=>⟨.inl (h.ty.2 g e).1,(h.ty.2 g e).2⟩⟩
 . intro g e e';rcases hV' g e with h1|h1
   . exact h.ne.2 g h1.2 e'
   . have:=hTb g (h.ty.2 g e').1;omega
 . rintro i (hi|hi)
   . exact Nat.lt_of_lt_of_le (h.kb i hi) hz
   . exact hi.2
end
theorem Cp (D:Nat->Prop) (C:Nat) (V:Value) (n:Nd) (ns:List Nd) (w:World) (hc:F0 D w C V [] (n::ns)) (ho:CurOk [] (n::ns)) (hD: ¬D C) (hV: ∀g,V.ownBlock=some g-> ¬D g) (_: ∀i,D i->i<w.heap.size):
 Calls Tryz.prog 112 #[.pointer (some ⟨C,0,none⟩)] w fun e w'=>e=.returned (.tuple #[])/\KB (fun i=>i=C\/V.ownBlock=some i) w w'/\ ∃V' es' ns',F0 (fun i=>D i\/(w.heap.size<=i/\V'.ownBlock≠some i)) w' C V' es' ns'/\CurOk es' ns'/\es'++Ap ns'=Ap (n::ns)/\es'.length+Ev ns'+1=Ev (n::ns)/\(V'.ownBlock=V.ownBlock\/ ∃g,V'.ownBlock=some g/\w.heap.size<=g):=by
 obtain⟨ea,c,o,bs,h1,h2,h3,h4,h5⟩:=hc;have hlen:=ho.len;have hgl:=Ux ho.gds;rw[List.length_append]at hlen;simp only[Am]at h5;obtain⟨q,t,rfl,h6,h7⟩:=h5;rw[List.reverse_cons]at h4;have hl7:=h7.now.len;rw[List.length_cons]at hgl;obtain⟨g,c',rfl,hcap,hgC,s0⟩:=Vk h4 rfl;have hg:=hV g rfl;have hlt:=h4.base g rfl;have hnC: ∀i,D i-> ¬(i=C\/i=g):=fun i hi h=>by
  rcases h with e|e
  . exact hD (e▸hi)
  . exact hg (e▸hi)
 have hgd:=ho.gds n (by simp);have hp:Al (fun _=>False) (C+1) 25 1 w (Ar t.reverse) (.slice (some ⟨g,0,none⟩) t.reverse.length c'):=by
  have e1:Ar (t.reverse++ [q])=Ar t.reverse++ [Se q]:=by simp[Ar]
  rw[e1]at h4;have:=h4.pop
  rwa [Av]at this
 have hwt:0<wtN n:=by cases n<;>(simp only[wtN];omega)
 have hbk:=ho.bulk;simp only[List.length_nil,List.nil_append,Ev]at h2 hbk
 cases n with
 |leaf es=>
  have hb2:Ac es<=100000000:=by
   simp only[Ap,A6]at hbk;rw[Cu]at hbk;omega
  refine(Yf D C g t.reverse.length c' c ea o es q w h1 hcap (by rw[List.length_reverse];omega) (by omega) s0 h6 hD hgd.leaf hb2).mono ?_;rintro e w' ⟨rfl,hkb,g2,hg2,hx,hR⟩;have hs:=hkb.size;have hk: ∀i,i≠C->i<w.heap.size->w'.heap[i]? =w.heap[i]? :=fun i i1 i2=>hkb.block i i2 i1;refine⟨rfl,⟨hkb.os,hkb.tape,hkb.output,hs,fun k k1 k2=>hkb.block k k1 fun h=>k2 (.inl h)⟩,.slice (some ⟨g,0,none⟩) t.reverse.length c',es,ns,⟨_,_,_,t,hx, ?_, ?_,hp.keepP hs fun i e hi=>hk i (by have e2:g=i:=Option.some.inj e;omega) hi,h7.imp (fun i _ hi=> .inl hi) hs fun i i1 i2=>hk i (fun e=>hnC i i1 (.inl e)) i2⟩,ho.openL,by simp only[Ap,A6],by simp only[Ev,wtN];omega,.inl rfl⟩
  . simp only[wtN]at h2;exact⟨by omega,by omega,Nat.le_refl _⟩
  . refine(hR.closeIn).mono fun i _ hi=> .inr ?_;rcases hi with hi|hi
    . exact⟨hi,fun e=>by have e2:g=i:=Option.some.inj e;omega⟩
    . have e3:g2=i:=Option.some.inj hi;exact⟨by omega,fun e=>by have e2:g=i:=Option.some.inj e;omega⟩
 |inner ks=>
  obtain⟨k2,k8,kg⟩:=hgd.inner;refine(Ye D C g t.reverse.length c' c ea o ks t.reverse q w h1 hcap (by rw[List.length_reverse];omega) (by omega) h4 rfl h6 hD hg (by omega) k8).mono ?_;rintro e w' ⟨rfl,hkb,kb,V',hkn,hx,hR,hV'⟩;have hs:=hkb.size;have hk: ∀i, ¬(i=C\/i=g)->i<w.heap.size->w'.heap[i]? =w.heap[i]? :=fun i i1 i2=>hkb.block i i2 i1;refine⟨rfl,⟨hkb.os,hkb.tape,hkb.output,hs,fun k k1 k2=>hkb.block k k1 fun h=>k2 (h.imp id fun e=>by rw[e];rfl)⟩,V', [],ks++ns,⟨_,_,_,kb++t,hx, ?_, ?_, ?_, ?_⟩,ho.openI,by simp only[Ap,A6,A0,List.nil_append],by simp only[Ev,wtN,Wa,List.length_nil];omega, ?_⟩
  . simp only[wtN]at h2;simp only[Wa,List.length_nil];exact⟨by omega,by omega,by omega⟩
  . exact(h3.later hs fun p p1 p2=>World.cell?_of_block (hk p.block (hnC _ p1) p2)).mono fun i _ hi=> .inl hi
  . rw[List.reverse_append];exact hR
  . exact(hkn.mono fun i _ hi=> .inl hi).app (h7.imp (fun i _ hi=> .inl hi) hs fun i i1 i2=>hk i (hnC i i1) i2)
  . exact hV'
end Go.Proofs.YtnkmhaachfgaoaaGreatDoor
