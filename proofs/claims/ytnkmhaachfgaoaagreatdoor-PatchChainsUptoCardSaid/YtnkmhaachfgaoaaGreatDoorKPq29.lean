/- Parts: A key taken out of the kids of a node. Plain. No condition. -/
import Derived.Deep.RegionHeld
import Derived.StillTailTactics
import Derived.Test.YtnkmhaachfgaoaaGreatDoorKPq26
set_option maxHeartbeats 20000000
set_option maxRecDepth 100000
namespace Go.Proofs.YtnkmhaachfgaoaaGreatDoor
open Go Go.RowKit
theorem Aij {S:Nat->Prop} {s n c g off:Nat} {w:World} {l:List D} {q:Nat} {d:D} {u0 v1:Value} (h:Ag S w (.row s l) [.slice (some ⟨g,off,none⟩) n c]) (hi:l[q]? =some d) (hu: ∀(w:World) (B:Nat) cs,Ae w B d cs->cs[0]? =some u0) (hv:v1≠u0):
 S g/\ ∀cs:List Value,(∀j u,cs[j]? =some u->w.cell? ⟨g,off+q*s+j,none⟩=some u)->cs.length=s->Ag S w d cs:=by
 obtain⟨g',off',e,hg,cs0,h1,hl0,hc0⟩:=h.now.at_ hi
 cases e
 have hf:=hc0 0 u0 (hu _ _ _ h1);have hge:S g:=by
  refine Classical.byContradiction fun hlt=>hv ?_;obtain⟨g2,off2,e,_,cs1,h2,_,hc1⟩:=(h (w.setCell ⟨g,off+q*s+0,none⟩ v1) (by simp[World.setCell]) (fun p p1 p2=>World.cell?_setCell_far _ _ _ _ (by show g≠p.block;intro e;exact hlt (e▸p1)))).at_ hi
  cases e
  have:=hc1 0 u0 (hu _ _ _ h2);rw[World.cell?_setCell_same _ _ _ hf]at this;exact Option.some.inj this
 refine⟨hge,fun cs hcs hl w'' hs hk=> ?_⟩;obtain⟨g2,off2,e,_,cs2,h2,hl2,hc2⟩:=(h w'' hs hk).at_ hi
 cases e
 have:cs2=cs:=by
  refine List.ext_getElem? fun j=> ?_;by_cases hj:j<s
  . obtain⟨u,hu1⟩: ∃u,cs2[j]? =some u:=⟨_,List.getElem?_eq_getElem (by omega)⟩;obtain⟨u',hu2⟩: ∃u,cs[j]? =some u:=⟨_,List.getElem?_eq_getElem (by omega)⟩;have e1:=hc2 j u hu1;rw[hk _ hge hg,hcs j u' hu2]at e1;rw[hu1,hu2,Option.some.inj e1]
  . rw[List.getElem?_eq_none (by omega),List.getElem?_eq_none (by omega)]
 rw[<-this];exact h2
theorem F5 {S:Nat->Prop} {w:World} {n c:Nat} {l:List (ByteArray×Val)} {a:Option Addr} (h:Ag S w (.row 7 (dO l)) [.slice a n c]) {q:Nat} {key:ByteArray} {k':Int} {b':Bool} {n':Int} {t':ByteArray} {l':List Val} {o':List (ByteArray×Val)} (hi:l[q]? =some (key,.mk k' b' n' t' l' o')):
 ∃g off,a=some ⟨g,off,none⟩/\g<w.heap.size/\ ∃la lc oa oc,Ag S w (dV (.mk k' b' n' t' l' o')) [.int .i64 k',.bool b',.int .i64 n',.string t',.slice la l'.length lc,.slice oa o'.length oc]/\
  w.cell? ⟨g,off+q*7,none⟩=some (.string key)/\w.cell? ⟨g,off+q*7+1,none⟩=some (.int .i64 k')/\w.cell? ⟨g,off+q*7+2,none⟩=some (.bool b')/\
  w.cell? ⟨g,off+q*7+3,none⟩=some (.int .i64 n')/\w.cell? ⟨g,off+q*7+4,none⟩=some (.string t')/\w.cell? ⟨g,off+q*7+5,none⟩=some (.slice la l'.length lc)/\w.cell? ⟨g,off+q*7+6,none⟩=some (.slice oa o'.length oc):=by
 obtain⟨g,off,rfl,hg,la,lc,oa,oc,_,c0,c1,c2,c3,c4,c5,c6⟩:=Abz h.now hi;refine⟨g,off,rfl,hg,la,lc,oa,oc, ?_,c0,c1,c2,c3,c4,c5,c6⟩;have hm:=(Aij (v1:=.bool false) h (d:=dP (key,.mk k' b' n' t' l' o')) (by rw[Bi,List.getElem?_map,hi];rfl) Aer (by simp)).2 [.string key,.int .i64 k',.bool b',.int .i64 n',.string t',.slice la l'.length lc,.slice oa o'.length oc] (fun j u hj=>by
  match j with
  |0=>cases hj;exact c0
  |1=>cases hj;exact c1
  |2=>cases hj;exact c2
  |3=>cases hj;exact c3
  |4=>cases hj;exact c4
  |5=>cases hj;exact c5
  |6=>cases hj;exact c6
  |j+7=>simp at hj) rfl
 exact fun w'' h1 h2=>Aif (hm w'' h1 h2)
theorem Ag.base {S:Nat->Prop} {w0 w:World} {d:D} {cs:List Value} (h:Ag S w0 d cs) (hb:Below w0.heap.size w0 w):Ag (fun i=>S i/\i<w0.heap.size) w d cs:=fun w'' h1 h2=>
 (h w'' (Nat.le_trans hb.size h1) fun p p1 p2=>(h2 p ⟨p1,p2⟩ (Nat.lt_of_lt_of_le p2 hb.size)).trans (hb.cell p2)).more hb.size
theorem Aiw {S:Nat->Prop} {w4:World} {k:Int} {b:Bool} {n:Int} {t:ByteArray} {l:List Val} {o:List (ByteArray×Val)} {cs:List Value} (h:Ag S w4 (dV (.mk k b n t l o)) cs): ∃la lc oa oc,cs= [.int .i64 k,.bool b,.int .i64 n,.string t,.slice la l.length lc,.slice oa o.length oc]:=by
 have h1:=Bp _ _ h.now;simp only[Ab]at h1;obtain⟨la,lc,oa,oc,e,_,_⟩:=h1;exact⟨la,lc,oa,oc,e⟩
def Ew (b:Nat) (wr:World) (own:Option Nat) (l:List Val) (ns:List Value):Prop:= ∀w'':World,wr.heap.size<=w''.heap.size->
 (∀p:Addr,b<=p.block->p.block<wr.heap.size->own≠some p.block->w''.cell? p=wr.cell? p)->Iu w'' wr.heap.size l ns
theorem Ew.step {b:Nat} {wr w4 w6:World} {own own':Option Nat} {t N:Nat} {l:List Val} {ns cs:List Value} {x:Val} (h:Ew b wr own l ns) (hx:Mo wr w4 x cs) (hw:b<=wr.heap.size)
 (ho: ∀g,own=some g->g<wr.heap.size) (ho':own'=own\/own'=some N) (hN:w4.heap.size<=N) (ht:t<b)
 (h4: ∀p:Addr,p.block<wr.heap.size->w4.cell? p=wr.cell? p) (hs4:wr.heap.size<=w4.heap.size)
 (h6: ∀p:Addr,p.block<w4.heap.size->own≠some p.block->p.block≠t->w6.cell? p=w4.cell? p) (hs6:w4.heap.size<=w6.heap.size):Ew b w6 own' (l++ [x]) (ns++cs):=by
 intro w'' hsz hag;have a1:Iu w'' w6.heap.size l ns:=by
  refine Iu.more (by omega) (h w'' (by omega) (fun p p1 p2 p3=> ?_));have e1:own'≠some p.block:=by
   rcases ho' with e|e
   . rw[e];exact p3
   . rw[e];intro e2;have:=Option.some.inj e2;omega
  rw[hag p p1 (by omega) e1,h6 p (by omega) p3 (by omega),h4 p p2]
 have a2:Ab w'' w6.heap.size x cs:=by
  refine Ab.more hs6 _ _ (hx w'' (by omega) (fun p p1 p2=> ?_));have e0:own≠some p.block:=fun e=>by have:=ho _ e;omega
  have e1:own'≠some p.block:=by
   rcases ho' with e|e
   . rw[e];exact e0
   . rw[e];intro e2;have:=Option.some.inj e2;omega
  rw[hag p (by omega) (by omega) e1,h6 p p2 e0 (by omega)]
 exact Iu.snoc a2 a1
def Ah6 (b:Nat) (wr:World) (l:List Val) (V:Value):Prop:= ∃la lc,V=.slice la l.length lc/\(l= []\/ ∃g,la=some ⟨g,0,none⟩/\g<wr.heap.size/\ ∀w'':World,wr.heap.size<=w''.heap.size->
 (∀p:Addr,b<=p.block->p.block<wr.heap.size->w''.cell? p=wr.cell? p)->Aj w'' wr.heap.size l g 0)
theorem Ew.close {b:Nat} {wr:World} {l:List Val} {V:Value} {ns:List Value} (h:Ew b wr V.ownBlock l ns) (ho:wr.ownsRow b 40 6 V l.length ns):Ah6 b wr l V:=by
 obtain⟨la,lc,rfl,hs⟩:=O1 ho;refine⟨la,lc,rfl, ?_⟩;rcases hs with h0|⟨g,rfl,hbg,hg,hc⟩
 . exact .inl (List.length_eq_zero_iff.1 h0)
 . refine .inr ⟨g,rfl,hg,fun w'' hsz hag=> ?_⟩;exact(h w'' hsz (fun p p1 p2 _=>hag p p1 p2)).holds (fun v cs hv=>hv) (fun j u hu=>by rw[hag _ hbg hg];exact hc j u hu)
def Eb (b:Nat) (wr:World) (own:Option Nat) (l:List (ByteArray×Val)) (ns:List Value):Prop:= ∀w'':World,wr.heap.size<=w''.heap.size->
 (∀p:Addr,b<=p.block->p.block<wr.heap.size->own≠some p.block->w''.cell? p=wr.cell? p)->Fz w'' wr.heap.size l ns
theorem Eb.step {b:Nat} {wr w4 w6:World} {own own':Option Nat} {t N:Nat} {l:List (ByteArray×Val)} {ns cs:List Value} {key:ByteArray} {x:Val} (h:Eb b wr own l ns) (hx:Mo wr w4 x cs) (hw:b<=wr.heap.size)
 (ho: ∀g,own=some g->g<wr.heap.size) (ho':own'=own\/own'=some N) (hN:w4.heap.size<=N) (ht:t<b)
 (h4: ∀p:Addr,p.block<wr.heap.size->w4.cell? p=wr.cell? p) (hs4:wr.heap.size<=w4.heap.size)
 (h6: ∀p:Addr,p.block<w4.heap.size->own≠some p.block->p.block≠t->w6.cell? p=w4.cell? p) (hs6:w4.heap.size<=w6.heap.size):Eb b w6 own' (l++ [(key,x)]) (ns++(.string key::cs)):=by
 intro w'' hsz hag;have a1:Fz w'' w6.heap.size l ns:=by
  refine Fz.more (by omega) (h w'' (by omega) (fun p p1 p2 p3=> ?_));have e1:own'≠some p.block:=by
   rcases ho' with e|e
   . rw[e];exact p3
   . rw[e];intro e2;have:=Option.some.inj e2;omega
  rw[hag p p1 (by omega) e1,h6 p (by omega) p3 (by omega),h4 p p2]
 have a2:Ab w'' w6.heap.size x cs:=by
  refine Ab.more hs6 _ _ (hx w'' (by omega) (fun p p1 p2=> ?_));have e0:own≠some p.block:=fun e=>by have:=ho _ e;omega
  have e1:own'≠some p.block:=by
   rcases ho' with e|e
   . rw[e];exact e0
   . rw[e];intro e2;have:=Option.some.inj e2;omega
  rw[hag p (by omega) (by omega) e1,h6 p p2 e0 (by omega)]
 exact Fz.snoc a2 a1
def Ah7 (b:Nat) (wr:World) (l:List (ByteArray×Val)) (V:Value):Prop:= ∃la lc,V=.slice la l.length lc/\(l= []\/ ∃g,la=some ⟨g,0,none⟩/\g<wr.heap.size/\ ∀w'':World,wr.heap.size<=w''.heap.size->
 (∀p:Addr,b<=p.block->p.block<wr.heap.size->w''.cell? p=wr.cell? p)->Ak w'' wr.heap.size l g 0)
theorem Eb.close {b:Nat} {wr:World} {l:List (ByteArray×Val)} {V:Value} {ns:List Value} (h:Eb b wr V.ownBlock l ns) (ho:wr.ownsRow b 94 7 V l.length ns):Ah7 b wr l V:=by
 have ho':=ho;rcases ho.2 with⟨rfl,hz⟩|⟨g,cap,cur,rfl,hbg,hg,_,_,_,_⟩
 . exact⟨none,0,by rw[hz],.inl (List.length_eq_zero_iff.1 hz)⟩
 . refine⟨_,cap,rfl,.inr ⟨g,rfl,(Array.getElem?_eq_some_iff.1 hg).1,fun w'' hsz hag=> ?_⟩⟩;refine(h w'' hsz (fun p p1 p2 _=>hag p p1 p2)).holds (fun j u hu=> ?_);rw[hag _ hbg (Array.getElem?_eq_some_iff.1 hg).1];have:=ho'.cells (g:=g) rfl j u hu
   rwa [Go.WideShapes.add_plain]at this
theorem Pp {w4 w5:World} {ob:Obj} {own:Option Nat} {t i:Nat} {V:Value} (hg:(w4.alloc ob).grownBy w5 own):
 (∀c,c<w4.heap.size->own≠some c->c≠t->(w5.setCell ⟨t,i,none⟩ V).heap[c]? =w4.heap[c]?)/\(∀p:Addr,p.block<w4.heap.size->own≠some p.block->p.block≠t->(w5.setCell ⟨t,i,none⟩ V).cell? p=w4.cell? p)/\
 w4.heap.size<=(w5.setCell ⟨t,i,none⟩ V).heap.size:=by
 have h1: ∀c,c<w4.heap.size->own≠some c->c≠t->(w5.setCell ⟨t,i,none⟩ V).heap[c]? =w4.heap[c]? :=by
  intro c hc ho ht;rw[Fx _ _ _ _ ht,hg.block c (by simp;omega) (fun e=>ho e.symm),Lib.alloc_old w4 _ _ hc]
 refine⟨h1,fun p hp ho ht=>World.cell?_of_block (h1 p.block hp ho ht), ?_⟩;have:=hg.size;simp only[World.size_alloc]at this;have e:(w5.setCell ⟨t,i,none⟩ V).heap.size=w5.heap.size:=by simp[World.setCell]
 omega
theorem Aco (k:Int) (b:Bool) (n:Int) (t:ByteArray) (l:List Val) (o:List (ByteArray×Val)) (la oa:Option Addr) (oc lc:Nat) (w:World) (IH: ∀v ∈ l,Adz v) (IHo: ∀m ∈ o,Adz m.2)
 (ho:o= []\/ ∃g off,oa=some ⟨g,off,none⟩/\g<w.heap.size/\Ak w w.heap.size o g off) (hbo:Ac o<=100000000)
 (hl:l= []\/ ∃g off,la=some ⟨g,off,none⟩/\g<w.heap.size/\Aj w w.heap.size l g off) (hb:Bc l<=100000000):
 Calls Tryz.prog 35 #[.agg #[.int .i64 k,.bool b,.int .i64 n,.string t,.slice la l.length lc,.slice oa o.length oc]] w fun e w'=>(∃cs',e=.returned (.agg (cs':List Value).toArray)/\cs'.length=6/\Mo w w' (.mk k b n t l o) cs')/\Below w.heap.size w w':=by
 have hln:=Ct l;obtain⟨i0,hi,hz0,hz1,hz2⟩:=info_parts Nw;obtain⟨HI,HZ0,HZ1,HZ2,HIH,HIHo,Ho⟩:=hid7 hi hz0 hz1 hz2 IH IHo ho;have hlo:=Aw o;clear hi hz0 hz1 hz2 IH IHo ho;go_enter Tryz.func35,Tryz.ntmps35;go_wp2_with (fail);obtain⟨w0,hw0⟩: ∃w0,((w.alloc (.cells #[.int .i64 k,.bool b,.int .i64 n,.string t,.slice la l.length lc,.slice oa o.length oc] 40)).alloc (.cells #[.int .i64 0,.bool false,.int .i64 0,.string ⟨#[]⟩,.slice none 0 0,.slice none 0 0] 40)).alloc (.cells #[.int .i64 k,.bool b,.int .i64 n,.string t,.slice none 0 0,.slice none 0 0] 40)=w0:=⟨_,rfl⟩;have Hown0:Hid (w0.ownsRow (w.heap.size+3) 40 6 (.slice none 0 0) 0 []):=World.ownsRow_nil _ _ _ _;have Hfr0:Hid (Ew (w.heap.size+3) w0 (Value.slice none 0 0).ownBlock (l.take 0) []):=fun _ _ _=>rfl;have Hbw0:Hid (Below w.heap.size w w0):=by
  show Below _ _ _;rw[<-hw0];exact(((Below.refl _ _).alloc (Nat.le_refl _) _).alloc (by simp) _).alloc (by simp;omega) _
 have Hx10:Hid (w0.heap[w.heap.size]? =some (.cells #[.int .i64 k,.bool b,.int .i64 n,.string t,.slice la l.length lc,.slice oa o.length oc] 40 (0,0))):=by
  show _=_;rw[<-hw0,Lib.alloc_old _ _ _ (by simp;omega),Lib.alloc_old _ _ _ (by simp)];exact heap_alloc_new _ _
 have Hx20:Hid (w0.heap[w.heap.size+1]? =some (.cells #[.int .i64 0,.bool false,.int .i64 0,.string ⟨#[]⟩,.slice none 0 0,.slice none 0 0] 40 (0,0))):=by
  show _=_;rw[<-hw0,Lib.alloc_old _ _ _ (by simp)];have:=heap_alloc_new (w.alloc (.cells #[.int .i64 k,.bool b,.int .i64 n,.string t,.slice la l.length lc,.slice oa o.length oc] 40)) (.cells #[.int .i64 0,.bool false,.int .i64 0,.string ⟨#[]⟩,.slice none 0 0,.slice none 0 0] 40);simpa using this
 have Hx30:Hid (w0.heap[w.heap.size+2]? =some (.cells #[.int .i64 k,.bool b,.int .i64 n,.string t,.slice none 0 0,.slice none 0 0] 40 (0,0))):=by
  show _=_;rw[<-hw0];have:=heap_alloc_new ((w.alloc (.cells #[.int .i64 k,.bool b,.int .i64 n,.string t,.slice la l.length lc,.slice oa o.length oc] 40)).alloc (.cells #[.int .i64 0,.bool false,.int .i64 0,.string ⟨#[]⟩,.slice none 0 0,.slice none 0 0] 40)) (.cells #[.int .i64 k,.bool b,.int .i64 n,.string t,.slice none 0 0,.slice none 0 0] 40);simpa using this
 rw[hw0];clear hw0;go_loopw [4] (fun i wr=> ∃(q:Nat) (v1:Value) (ns:List Value),i=.int .i64 q/\q<=l.length/\Hid (wr.ownsRow (w.heap.size+3) 40 6 v1 q ns)/\Hid (Ew (w.heap.size+3) wr v1.ownBlock (l.take q) ns)/\Hid (Below w.heap.size w wr)/\
  Hid (wr.heap[w.heap.size+1]? =some (.cells #[.int .i64 0,.bool false,.int .i64 0,.string ⟨#[]⟩,.slice none 0 0,.slice none 0 0] 40 (0,0)))/\
  Hid (wr.heap[w.heap.size]? =some (.cells #[.int .i64 k,.bool b,.int .i64 n,.string t,.slice la l.length lc,.slice oa o.length oc] 40 (0,0)))/\
  Hid (wr.heap[w.heap.size+2]? =some (.cells #[.int .i64 k,.bool b,.int .i64 n,.string t,v1,.slice none 0 0] 40 (0,0)))) (fun i _=>l.length - (intOf i).toNat)
 case atStart=>exact⟨0,.slice none 0 0, [],rfl,Nat.zero_le _,Hown0,Hfr0,Hbw0,Hx20,Hx10,Hx30⟩
 case round=>
  obtain⟨q,v1,ns,rfl,hq,hown,hfrow,hbw,hx2,hx1,hx3⟩:=hrel;clear Hown0 Hfr0 Hbw0 Hx20 Hx10 Hx30;have b1:wr.cell? ⟨w.heap.size,4,none⟩=some (.slice la l.length lc):=by rw[Lib.cell_of_heap hx1.out];rfl
  have b3:wr.cell? ⟨w.heap.size+2,4,none⟩=some v1:=by rw[Lib.cell_of_heap hx3.out];rfl
  have f3:wr.frozen? ⟨w.heap.size+2,4,none⟩=false:=Lib.frozen_of_heap hx3.out _;have z3:w.heap.size+2<wr.heap.size:=(Array.getElem?_eq_some_iff.1 hx3.out).1;by_cases hlt:q<l.length
  . obtain⟨g,off,rfl,hg,hL⟩: ∃g off,la=some ⟨g,off,none⟩/\g<w.heap.size/\Aj w w.heap.size l g off:=by
     rcases hl with rfl|h
     . simp at hlt
     . exact h
    obtain⟨x,hx⟩: ∃v,l[q]? =some v:=⟨_,List.getElem?_eq_getElem hlt⟩;have hmem:=List.mem_of_getElem? hx;have IHx:=HIH.out x hmem;have hbv:=Da hmem;have htk:l.take (q+1)=l.take q++ [x]:=by rw[List.take_add_one,hx];rfl
    obtain⟨k',b',n',t',l',o'⟩:=x;obtain⟨la',lc',oa',oc',hvs,c0,c1,c2,c3,c4,c5⟩:=(hL.below hg hbw.out).six hx;have hz:=hbw.out.size;have HC:=qz (IHx _ wr.drew (Ab.more hz _ _ (hvs.below (Below.drew (Below.refl _ _)))) (by omega));have hown4: ∀w4:World,Below wr.drew.heap.size wr.drew w4->w4.ownsRow (w.heap.size+3) 40 6 v1 q ns:=by
     intro w4 h4;have h5:Below wr.heap.size wr w4:=(Below.drew (Below.refl _ _)).trans h4;refine hown.out.kept (I0 h5) ?_
     cases v1.ownBlock with
     |none=>exact .inl rfl
     |some g=>exact .inr (by simp)
    have Hown4:=qz hown4;have HZ:=qz (show w.heap.size+3<=wr.heap.size by omega);have HX6:Hid (∀(w4:World),Below wr.drew.heap.size wr.drew w4-> ∀(ob:Obj) (w5:World),(w4.alloc ob).grownBy w5 v1.ownBlock->w5.heap[w.heap.size+2]? =some (.cells #[.int .i64 k,.bool b,.int .i64 n,.string t,v1,.slice none 0 0] 40 (0,0))):=by
     intro w4 h4 ob w5 h5;have e4:w4.heap[w.heap.size+2]? =_:=(h4.block (w.heap.size+2) z3).trans hx3.out;have l4:=(Array.getElem?_eq_some_iff.1 e4).1;rw[h5.block _ (by simp;omega) (fun e=>by have:=(hown.out.lt _ e.symm).1;omega),Lib.alloc_old w4 _ _ l4];exact e4
    have HG6:Hid (∀(w4:World),Below wr.drew.heap.size wr.drew w4-> ∀ob:Obj,(w4.alloc ob).cell? ⟨w.heap.size+2,4,none⟩=some v1):=by
     intro w4 h4 ob;have e4:w4.heap[w.heap.size+2]? =_:=(h4.block (w.heap.size+2) z3).trans hx3.out;have l4:=(Array.getElem?_eq_some_iff.1 e4).1;have e5:(w4.alloc ob).heap[w.heap.size+2]? =_:=(Lib.alloc_old w4 ob _ l4).trans e4;rw[Lib.cell_of_heap e5];rfl
    clear hown4 hvs hx hmem IHx hL hg;go_wp2_with (fail)
    go_region_law (first|(refine step_append_lies _ (by rfl) (.tmp 23) (.tmp 30) 37 (by rfl) (w.heap.size+3) 40 i0 (.agg #[.int .i64 0,.bool false,.int .i64 0,.string ⟨#[]⟩,.slice none 0 0,.slice none 0 0]) 6 88 Tryz.underlying37 HI.out HZ0.out HZ1.out HZ2.out rfl (by omega) v1 q ns (by rfl) ((Hown4.out _ Hb4.out).alloc _) ⟨w4.heap.size,0,none⟩ 1 1 [a0,a1,a2,a3,a4,a5] (by rfl) (by rfl) (World.news_of_block (cs:= #[a0,a1,a2,a3,a4,a5]) (t:=40) (fr:=(0,0)) (heap_alloc_new w4 _)) Hone.out (by omega) (by unfold maxLen;omega) (by omega) Hsz.out (w4.heap.size+1) (by simp) ?_;intro gg cap w5 hown5 hgrow5 hat5 hlt5;have hx5:w5.heap[w.heap.size+2]? =some (.cells #[.int .i64 k,.bool b,.int .i64 n,.string t,v1,.slice none 0 0] 40 (0,0)):=HX5.out w5 hgrow5;have g5:w5.cell? ⟨w.heap.size+2,4,none⟩=some v1:=(by rw[Lib.cell_of_heap hx5];rfl);have f5:w5.frozen? ⟨w.heap.size+2,4,none⟩=false:=Lib.frozen_of_heap hx5 _;have Hown5:=qz hown5;have Hgrow5:=qz hgrow5;have Hat5:=qz hat5;have Hx5:=qz hx5;clear hown5 hgrow5 hat5 hx5)|(go_simp;go_at_call 35;refine(HC.out).mono ?_;rintro e w4 ⟨⟨cs4,rfl,hl4,hfr⟩,hb4⟩;obtain⟨a0,a1,a2,a3,a4,a5,rfl⟩:=Yx hl4;have Hfr:=qz hfr;have Hb4:=qz hb4;have g3:w4.cell? ⟨w.heap.size+2,4,none⟩=some v1:=(hb4.cell (p:=⟨w.heap.size+2,4,none⟩) z3).trans b3;have Hone:Hid (∀u ∈ [a0,a1,a2,a3,a4,a5],u.oneCell'=true):=(hfr w4 (Nat.le_refl _) (fun _ _ _=>rfl)).len.2;have Hsz:Hid (w.heap.size+3<=(w4.alloc (.cells #[a0,a1,a2,a3,a4,a5] 40)).heap.size):=(by show _<=_;have h1:=hb4.size;have h2:=HZ.out;have h3:wr.drew.heap.size=wr.heap.size:=rfl;simp;omega);have g4:(w4.alloc (.cells #[a0,a1,a2,a3,a4,a5] 40)).cell? ⟨w.heap.size+2,4,none⟩=some v1:=HG6.out w4 hb4 _;have HX5:Hid (∀w5:World,(w4.alloc (.cells #[a0,a1,a2,a3,a4,a5] 40)).grownBy w5 v1.ownBlock->w5.heap[w.heap.size+2]? =some (.cells #[.int .i64 k,.bool b,.int .i64 n,.string t,v1,.slice none 0 0] 40 (0,0))):=(fun w5 hg5=>HX6.out w4 hb4 _ w5 hg5);clear hfr hb4 hl4))
    all_goals
     have hb4':Below wr.heap.size wr w4:=(Below.drew (Below.refl _ _)).trans Hb4.out;have hlo:=fun gg hh=>(hown.out.lt gg hh);obtain⟨r1,r2,r3⟩:=Pp (t:=w.heap.size+2) (i:=4) (V:=.slice (some ⟨gg,0,none⟩) (q+1) cap) Hgrow5.out;have n2:v1.ownBlock≠some (w.heap.size+2):=fun e=>by have:=(hlo _ e).1;omega
     have n0:v1.ownBlock≠some w.heap.size:=fun e=>by have:=(hlo _ e).1;omega
     have hs4:=hb4'.size;have Hfr':Hid (Ew (w.heap.size+3) (w5.setCell ⟨w.heap.size+2,4,none⟩ (.slice (some ⟨gg,0,none⟩) (q+1) cap)) (some gg) (l.take (q+1)) (ns++ [a0,a1,a2,a3,a4,a5])):=by
      show Ew _ _ _ _ _;rw[htk];refine Ew.step (t:=w.heap.size+2) (N:=w4.heap.size+1) hfrow.out Hfr.out HZ.out (fun g hh=>(hlo g hh).2) ?_ (by omega) (by omega) (fun p hp=>hb4'.cell hp) hs4 r2 r3;rcases Hat5.out with e|e
      . exact .inl e.symm
      . exact .inr (by rw[e])
     have Ho':Hid ((w5.setCell ⟨w.heap.size+2,4,none⟩ (.slice (some ⟨gg,0,none⟩) (q+1) cap)).ownsRow (w.heap.size+3) 40 6 (.slice (some ⟨gg,0,none⟩) (q+1) cap) (q+1) (ns++ [a0,a1,a2,a3,a4,a5])):=ownsRow_setCell_below Hown5.out (by simp) _;have Hb':Hid (Below w.heap.size w (w5.setCell ⟨w.heap.size+2,4,none⟩ (.slice (some ⟨gg,0,none⟩) (q+1) cap))):=(((hbw.out.trans (hb4'.mono hz)).alloc (by omega) _).grown Hgrow5.out (by simp;omega) (fun c hc=>by have:=(hlo c hc).1;omega)).setCell (by simp) _;have n1:v1.ownBlock≠some (w.heap.size+1):=fun e=>by have:=(hlo _ e).1;omega
     have Hx2':Hid ((w5.setCell ⟨w.heap.size+2,4,none⟩ (.slice (some ⟨gg,0,none⟩) (q+1) cap)).heap[w.heap.size+1]? =some (.cells #[.int .i64 0,.bool false,.int .i64 0,.string ⟨#[]⟩,.slice none 0 0,.slice none 0 0] 40 (0,0))):=by
      show _=_;rw[r1 _ (by omega) n1 (by omega),hb4'.block _ (by omega)];exact hx2.out
     have Hx1':Hid ((w5.setCell ⟨w.heap.size+2,4,none⟩ (.slice (some ⟨gg,0,none⟩) (q+1) cap)).heap[w.heap.size]? =some (.cells #[.int .i64 k,.bool b,.int .i64 n,.string t,.slice (some ⟨g,off,none⟩) l.length lc,.slice oa o.length oc] 40 (0,0))):=by
      show _=_;rw[r1 _ (by omega) n0 (by omega),hb4'.block _ (by omega)];exact hx1.out
     have Hx3':Hid ((w5.setCell ⟨w.heap.size+2,4,none⟩ (.slice (some ⟨gg,0,none⟩) (q+1) cap)).heap[w.heap.size+2]? =some (.cells #[.int .i64 k,.bool b,.int .i64 n,.string t,.slice (some ⟨gg,0,none⟩) (q+1) cap,.slice none 0 0] 40 (0,0))):=by
      show _=_;rw[B6 Hx5.out];rfl
     clear hb4' hlo r1 r2 r3 n2 n1 n0 hs4 hx2 Hgrow5 Hown5 Hat5 Hx5 Hfr hown hfrow hbw hx1 hx3 g5 f5 HX5 HX6 HG6 Hown4 g3 g4 b1 b3 f3 c0 c1 c2 c3 c4 c5;go_wp2;go_roundw
     case rel=>exact⟨q+1,_,_,by go_num,by omega,Ho',Hfr',Hb',Hx2',Hx1',Hx3'⟩
     case measure=>simp only[intOf];omega
  . obtain rfl:q=l.length:=by omega
    have hfl:=hfrow.out;rw[List.take_length]at hfl;have HL:=qz (hfl.close hown.out);clear hfl hown hfrow;obtain⟨wa,rfl⟩: ∃wa:World,wa=wr:=⟨_,rfl⟩;obtain⟨j0,hj,hy0,hy1,hy2⟩:=info_parts Q9;obtain⟨HJ,HY0,HY1,HY2⟩:=hid4 hj hy0 hy1 hy2;have Hown0:Hid (wa.ownsRow wa.heap.size 94 7 (.slice none 0 0) 0 []):=World.ownsRow_nil _ _ _ _;have Hfr0:Hid (Eb wa.heap.size wa (Value.slice none 0 0).ownBlock (o.take 0) []):=fun _ _ _=>rfl;have hsA:w.heap.size+3<=wa.heap.size:=by omega
    clear hj hy0 hy1 hy2 b3 f3 hl;go_wp2_with (fail);clear b1;go_loopw [5] (fun i wr=> ∃(q:Nat) (v2:Value) (ns:List Value),i=.int .i64 q/\q<=o.length/\Hid (wr.ownsRow wa.heap.size 94 7 v2 q ns)/\Hid (Eb wa.heap.size wr v2.ownBlock (o.take q) ns)/\Hid (Below w.heap.size w wr)/\
     Hid (∀c,c<wa.heap.size->c≠w.heap.size+2->wr.heap[c]? =wa.heap[c]?)/\wa.heap.size<=wr.heap.size/\
     Hid (wr.heap[w.heap.size+2]? =some (.cells #[.int .i64 k,.bool b,.int .i64 n,.string t,v1,v2] 40 (0,0)))) (fun i _=>o.length - (intOf i).toNat)
    case atStart=>exact⟨0,.slice none 0 0, [],rfl,Nat.zero_le _,Hown0,Hfr0,hbw,qz (fun _ _ _=>rfl),Nat.le_refl _,hx3⟩
    case round=>
     obtain⟨q,v2,ns2,rfl,hq2,hown,hfrow,hbw2,hkp,hsx,hx3'⟩:=hrel;clear Hown0 Hfr0;have hx1':Hid (wr.heap[w.heap.size]? =some (.cells #[.int .i64 k,.bool b,.int .i64 n,.string t,.slice la l.length lc,.slice oa o.length oc] 40 (0,0))):=by
      show _=_;rw[hkp.out _ (by omega) (by omega)];exact hx1.out
     have b1:wr.cell? ⟨w.heap.size,5,none⟩=some (.slice oa o.length oc):=by rw[Lib.cell_of_heap hx1'.out];rfl
     have b3:wr.cell? ⟨w.heap.size+2,5,none⟩=some v2:=by rw[Lib.cell_of_heap hx3'.out];rfl
     have z3:w.heap.size+2<wr.heap.size:=by omega
     by_cases hlt2:q<o.length
     . obtain⟨g,off,rfl,hg,hL⟩: ∃g off,oa=some ⟨g,off,none⟩/\g<w.heap.size/\Ak w w.heap.size o g off:=by
        rcases Ho.out with h0|h
        . rw[h0]at hlt2;simp at hlt2
        . exact h
       obtain⟨⟨key,x⟩,hx⟩: ∃v,o[q]? =some v:=⟨_,List.getElem?_eq_getElem hlt2⟩;have hmem:=List.mem_of_getElem? hx;have IHx:=HIHo.out _ hmem;have hbv:=B4 hmem;simp only at IHx hbv;have htk:o.take (q+1)=o.take q++ [(key,x)]:=by rw[List.take_add_one,hx];rfl
       obtain⟨k',b',n',t',l',o'⟩:=x;obtain⟨la',lc',oa',oc',hvs,c0,c1,c2,c3,c4,c5,c6⟩:=(hL.below hg hbw2.out).seven hx;have hz:=hbw2.out.size;have HC:=qz (IHx _ wr.drew (Ab.more hz _ _ (hvs.below (Below.drew (Below.refl _ _)))) (show(Val.mk k' b' n' t' l' o').bulk<=100000000 from by omega));have Hown4:Hid (∀w4:World,Below wr.drew.heap.size wr.drew w4->w4.ownsRow wa.heap.size 94 7 v2 q ns2):=by
        intro w4 h4;have h5:Below wr.heap.size wr w4:=(Below.drew (Below.refl _ _)).trans h4;refine hown.out.kept (I0 h5) ?_
        cases v2.ownBlock with
        |none=>exact .inl rfl
        |some g=>exact .inr (by simp)
       have HX6:Hid (∀(w4:World),Below wr.drew.heap.size wr.drew w4-> ∀(ob:Obj) (w5:World),(w4.alloc ob).grownBy w5 v2.ownBlock->w5.heap[w.heap.size+2]? =some (.cells #[.int .i64 k,.bool b,.int .i64 n,.string t,v1,v2] 40 (0,0))):=by
        intro w4 h4 ob w5 h5;have e4:w4.heap[w.heap.size+2]? =_:=(h4.block (w.heap.size+2) z3).trans hx3'.out;have l4:=(Array.getElem?_eq_some_iff.1 e4).1;rw[h5.block _ (by simp;omega) (fun e=>by have:=(hown.out.lt _ e.symm).1;omega),Lib.alloc_old w4 _ _ l4];exact e4
       have HG6:Hid (∀(w4:World),Below wr.drew.heap.size wr.drew w4-> ∀ob:Obj,(w4.alloc ob).cell? ⟨w.heap.size+2,5,none⟩=some v2):=by
        intro w4 h4 ob;have e4:w4.heap[w.heap.size+2]? =_:=(h4.block (w.heap.size+2) z3).trans hx3'.out;have l4:=(Array.getElem?_eq_some_iff.1 e4).1;have e5:(w4.alloc ob).heap[w.heap.size+2]? =_:=(Lib.alloc_old w4 ob _ l4).trans e4;rw[Lib.cell_of_heap e5];rfl
       have hgx:g<wr.heap.size:=by omega
       have hwx:w.heap.size<wr.heap.size:=by omega
       clear hvs hx hmem IHx hL;go_wp2_with (fail)
       go_region_law (first|(refine step_append_lies _ (by rfl) (.tmp 41) (.tmp 56) 38 (by rfl) wa.heap.size 94 j0 (.agg #[.string ⟨#[]⟩,.int .i64 0,.bool false,.int .i64 0,.string ⟨#[]⟩,.slice none 0 0,.slice none 0 0]) 7 104 Tryz.underlying38 HJ.out HY0.out HY1.out HY2.out rfl (by omega) v2 q ns2 (by rfl) ((Hown4.out _ Hb4.out).alloc _) ⟨w4.heap.size,0,none⟩ 1 1 [.string key,a0,a1,a2,a3,a4,a5] (by rfl) (by rfl) (World.news_of_block (cs:= #[.string key,a0,a1,a2,a3,a4,a5]) (t:=94) (fr:=(0,0)) (heap_alloc_new w4 _)) Hone.out (by omega) (by unfold maxLen;omega) (by omega) Hsz.out (w4.heap.size+1) (by simp) ?_;intro gg cap w5 hown5 hgrow5 hat5 hlt5;have hx5:w5.heap[w.heap.size+2]? =some (.cells #[.int .i64 k,.bool b,.int .i64 n,.string t,v1,v2] 40 (0,0)):=HX5.out w5 hgrow5;have g5:w5.cell? ⟨w.heap.size+2,5,none⟩=some v2:=(by rw[Lib.cell_of_heap hx5];rfl);have f5:w5.frozen? ⟨w.heap.size+2,5,none⟩=false:=Lib.frozen_of_heap hx5 _;have Hown5:=qz hown5;have Hgrow5:=qz hgrow5;have Hat5:=qz hat5;have Hx5:=qz hx5;clear hown5 hgrow5 hat5 hx5)|(go_simp;go_at_call 35;refine(HC.out).mono ?_;rintro e w4 ⟨⟨cs4,rfl,hl4,hfr⟩,hb4⟩;obtain⟨a0,a1,a2,a3,a4,a5,rfl⟩:=Yx hl4;have Hfr:=qz hfr;have Hb4:=qz hb4;have g3:w4.cell? ⟨w.heap.size+2,5,none⟩=some v2:=(hb4.cell (p:=⟨w.heap.size+2,5,none⟩) z3).trans b3;have g1:w4.cell? ⟨w.heap.size,5,none⟩=some (.slice (some ⟨g,off,none⟩) o.length oc):=(hb4.cell (p:=⟨w.heap.size,5,none⟩) hwx).trans b1;have g0:w4.cell? ⟨g,off+q*7,none⟩=some (.string key):=(hb4.cell (p:=⟨g,off+q*7,none⟩) hgx).trans c0;have Hone:Hid (∀u ∈ [.string key,a0,a1,a2,a3,a4,a5],u.oneCell'=true):=(Ahe key (hfr w4 (Nat.le_refl _) (fun _ _ _=>rfl)).len.2);have Hsz:Hid (wa.heap.size<=(w4.alloc (.cells #[.string key,a0,a1,a2,a3,a4,a5] 94)).heap.size):=(by show _<=_;have h1:=hb4.size;have h3:wr.drew.heap.size=wr.heap.size:=rfl;simp;omega);have g4:(w4.alloc (.cells #[.string key,a0,a1,a2,a3,a4,a5] 94)).cell? ⟨w.heap.size+2,5,none⟩=some v2:=HG6.out w4 hb4 _;have HX5:Hid (∀w5:World,(w4.alloc (.cells #[.string key,a0,a1,a2,a3,a4,a5] 94)).grownBy w5 v2.ownBlock->w5.heap[w.heap.size+2]? =some (.cells #[.int .i64 k,.bool b,.int .i64 n,.string t,v1,v2] 40 (0,0))):=(fun w5 hg5=>HX6.out w4 hb4 _ w5 hg5);clear hfr hb4 hl4))
       all_goals
        have hb4':Below wr.heap.size wr w4:=(Below.drew (Below.refl _ _)).trans Hb4.out;have hlw:=fun gg hh=>(hown.out.lt gg hh);obtain⟨r1,r2,r3⟩:=Pp (t:=w.heap.size+2) (i:=5) (V:=.slice (some ⟨gg,0,none⟩) (q+1) cap) Hgrow5.out;have hs4:=hb4'.size;have Hfr':Hid (Eb wa.heap.size (w5.setCell ⟨w.heap.size+2,5,none⟩ (.slice (some ⟨gg,0,none⟩) (q+1) cap)) (some gg) (o.take (q+1)) (ns2++ [.string key,a0,a1,a2,a3,a4,a5])):=by
         show Eb _ _ _ _ _;rw[htk];refine Eb.step (t:=w.heap.size+2) (N:=w4.heap.size+1) hfrow.out Hfr.out hsx (fun g hh=>(hlw g hh).2) ?_ (by omega) (by omega) (fun p hp=>hb4'.cell hp) hs4 r2 r3;rcases Hat5.out with e|e
         . exact .inl e.symm
         . exact .inr (by rw[e])
        have Ho':Hid ((w5.setCell ⟨w.heap.size+2,5,none⟩ (.slice (some ⟨gg,0,none⟩) (q+1) cap)).ownsRow wa.heap.size 94 7 (.slice (some ⟨gg,0,none⟩) (q+1) cap) (q+1) (ns2++ [.string key,a0,a1,a2,a3,a4,a5])):=ownsRow_setCell_below Hown5.out (by simp;omega) _;have Hb':Hid (Below w.heap.size w (w5.setCell ⟨w.heap.size+2,5,none⟩ (.slice (some ⟨gg,0,none⟩) (q+1) cap))):=(((hbw2.out.trans (hb4'.mono hz)).alloc (by omega) _).grown Hgrow5.out (by simp;omega) (fun c hc=>by have:=(hlw c hc).1;omega)).setCell (by simp) _;have Hk':Hid (∀c,c<wa.heap.size->c≠w.heap.size+2->(w5.setCell ⟨w.heap.size+2,5,none⟩ (.slice (some ⟨gg,0,none⟩) (q+1) cap)).heap[c]? =wa.heap[c]?):=by
         intro c hc hc2;rw[r1 c (by omega) (fun e=>by have:=(hlw _ e).1;omega) hc2,hb4'.block c (by omega)];exact hkp.out c hc hc2
        have Hs':wa.heap.size<=(w5.setCell ⟨w.heap.size+2,5,none⟩ (.slice (some ⟨gg,0,none⟩) (q+1) cap)).heap.size:=by omega
        have Hx3':Hid ((w5.setCell ⟨w.heap.size+2,5,none⟩ (.slice (some ⟨gg,0,none⟩) (q+1) cap)).heap[w.heap.size+2]? =some (.cells #[.int .i64 k,.bool b,.int .i64 n,.string t,v1,.slice (some ⟨gg,0,none⟩) (q+1) cap] 40 (0,0))):=by
         show _=_;rw[B6 Hx5.out];rfl
        clear hb4' hlw r1 r2 r3 hs4 Hgrow5 Hown5 Hat5 Hx5 Hfr hown hfrow hbw2 hx1' hx3' g5 f5 HX5 HX6 HG6 Hown4 g3 g4 g1 g0 b1 b3 c0 c1 c2 c3 c4 c5 c6 hkp;go_wp2;go_roundw
        case rel=>exact⟨q+1,_,_,by go_num,by omega,Ho',Hfr',Hb',Hk',Hs',Hx3'⟩
        case measure=>simp only[intOf];omega
     . obtain rfl:q=o.length:=by omega
       have hfl:=hfrow.out;rw[List.take_length]at hfl;have HO:=qz (hfl.close hown.out);have hx2':wr.heap[w.heap.size+1]? =some (.cells #[.int .i64 0,.bool false,.int .i64 0,.string ⟨#[]⟩,.slice none 0 0,.slice none 0 0] 40 (0,0)):=(hkp.out _ (by omega) (by omega)).trans hx2.out;have Hx2:=qz hx2';obtain⟨d0,d1,d2,d3,d4,d5⟩:=Mq hx3'.out;obtain⟨e0,e1,e2,e3,e4,e5⟩:=Mq hx2';have hfz:=Lib.frozen_of_heap hx2';clear hfl hown hfrow hx2';obtain⟨la1,lc1,rfl,hLf⟩:=HL.out;obtain⟨oa1,oc1,rfl,hOf⟩:=HO.out;obtain⟨HLf,HOf⟩:=hid2 hLf hOf;clear HL HO hLf hOf b3;go_wp2;obtain⟨W,hW⟩: ∃W,((((((wr.setCell ⟨w.heap.size+1,0,none⟩ (.int .i64 k)).setCell ⟨w.heap.size+1,1,none⟩ (.bool b)).setCell ⟨w.heap.size+1,2,none⟩ (.int .i64 n)).setCell ⟨w.heap.size+1,3,none⟩ (.string t)).setCell ⟨w.heap.size+1,4,none⟩ (.slice la1 l.length lc1)).setCell ⟨w.heap.size+1,5,none⟩ (.slice oa1 o.length oc1))=W:=⟨_,rfl⟩;have hWh: ∀c,c≠w.heap.size+1->W.heap[c]? =wr.heap[c]? :=by
        intro c hc;rw[<-hW];simp only[Fx _ _ _ _ hc]
       have hWs:W.heap.size=wr.heap.size:=by rw[<-hW];simp[World.setCell]
       have hWb:Below w.heap.size w W:=by
        rw[<-hW];exact(((((hbw2.out.setCell (by simp) _).setCell (by simp) _).setCell (by simp) _).setCell (by simp) _).setCell (by simp) _).setCell (by simp) _
       have hFr:Mo w W (.mk k b n t l o) [.int .i64 k,.bool b,.int .i64 n,.string t,.slice la1 l.length lc1,.slice oa1 o.length oc1]:=by
        intro w'' hsz hag;simp only[Ab];refine⟨la1,lc1,oa1,oc1,rfl, ?_, ?_⟩
        . rcases HLf.out with h0|⟨g,rfl,hg,hf⟩
          . exact .inl h0
          . refine .inr ⟨g,0,rfl,by omega,Aj.of_more l (fun v _ cs h=>Ab.more (by omega) _ _ h) g 0 (hf w'' (by omega) (fun p p1 p2=> ?_))⟩;rw[hag p (by omega) (by omega)];exact World.cell?_of_block ((hWh p.block (by omega)).trans (hkp.out p.block p2 (by omega)))
        . rcases HOf.out with h0|⟨g,rfl,hg,hf⟩
          . exact .inl h0
          . refine .inr ⟨g,0,rfl,by omega,Ak.of_more o (fun m _ cs h=>Ab.more (by omega) _ _ h) g 0 (hf w'' (by omega) (fun p p1 p2=> ?_))⟩;rw[hag p (by omega) (by omega)];exact World.cell?_of_block (hWh p.block (by omega))
       have hWr:W.heap[w.heap.size+1]? =some (.cells #[.int .i64 k,.bool b,.int .i64 n,.string t,.slice la1 l.length lc1,.slice oa1 o.length oc1] 40 (0,0)):=by
        rw[<-hW];exact B6 (B6 (B6 (B6 (B6 (B6 Hx2.out _) _) _) _) _) _
       obtain⟨y0,y1,y2,y3,y4,y5⟩:=Mq hWr;rw[hW];exact bodyPost_ret (v:=.agg #[.int .i64 k,.bool b,.int .i64 n,.string t,.slice la1 l.length lc1,.slice oa1 o.length oc1]) (by simp[results,Tryz.results35,go_sem,y0,y1,y2,y3,y4,y5]) rfl ⟨⟨[.int .i64 k,.bool b,.int .i64 n,.string t,.slice la1 l.length lc1,.slice oa1 o.length oc1],rfl,rfl,hFr⟩,hWb⟩
theorem Zy: ∀v,Adz v:=by
 refine Val.ind ?_;intro k b n t l o hl ho cs w hV hb;simp only[Ab]at hV;obtain⟨la,lc,oa,oc,rfl,hla,hoa⟩:=hV;simp only[Val.bulk]at hb;exact Aco k b n t l o la oa oc lc w hl ho hoa (by omega) hla (by omega)
end Go.Proofs.YtnkmhaachfgaoaaGreatDoor
namespace Go.Proofs.YtnkmhaachfgaoaaGreatDoor
theorem Uz {k:ByteArray} {l:List Ax} (h:Bm k l=true):Cy k l<l.length:=by
 unfold Bm at h;rcases Nat.lt_or_ge (Cy k l) l.length with h1|h1
 . exact h1
 . rw[List.getElem?_eq_none h1]at h
   cases h
theorem Abt {k:ByteArray} {l:List Ax} (h:Gf k l=false):B3 k l=l:=(Lw fun e he c=>by
 have:Gf k l=true:=List.any_eq_true.2 ⟨e,he,by simp[c]⟩;rw[h]at this;cases this).1
theorem Xm {k:ByteArray} {l:List Ax} (ha:Az l):Gf k l=Bm k l:=by
 have h:=Mw (k:=k) ha;by_cases hh:Bm k l=true
 . rw[hh]at h ⊢;have hlt:=Uz hh;by_cases hc:Gf k l=true
   . exact hc
   . have:=Abt (by simpa using hc:Gf k l=false);rw[this,if_pos rfl]at h;have:=congrArg List.length h;rw[List.length_append,List.length_take,List.length_drop]at this;omega
 . have hf:Bm k l=false:=by simpa using hh
   rw[hf]at h ⊢;by_cases hc:Gf k l=true
   . have:=Qy ha hc;rw[h,if_neg (by simp)]at this;omega
   . simpa using hc
theorem Xa {k:ByteArray} {l:List Ax} (ha:Az l) (h:Bm k l=true):B3 k l=l.take (Cy k l)++l.drop (Cy k l+1):=by rw[Mw ha,if_pos h]
theorem Qd (k:ByteArray) (l:List Ax):(B3 k l).length<=l.length:=List.length_filter_le _ _
theorem Kb (k:ByteArray): ∀l:List Ax,Ac (B3 k l)<=Ac l
 | []=>by simp[B3,Ac]
 |e::r=>by
  have ih:=Kb k r;unfold B3 at ih ⊢;rw[List.filter_cons]
  split
  . simp only[Ac];omega
  . simp only[Ac];omega
theorem Afh {h lo:Nat} {ks:List Nd} (k:ByteArray) (hlo:2<=lo) (hn:Cb lo (h+1) (.inner ks)) (ha:Az (Ap ks)):
 ∃x,ks[Ai ks k]? =some x/\ks.getD (Ai ks k) (.leaf [])=x/\Cb 4 h x/\Az (A6 x)/\(A6 x).length<=(Ap ks).length/\Ac (A6 x)<=Ac (Ap ks)/\
  ∀y,Gx h x k=some y->Cb 3 h y/\Ap (ks.set (Ai ks k) y)=B3 k (Ap ks)/\(∀j z,j≠Ai ks k->ks[j]? =some z->Cb 4 h z)/\
   (A7 y<4->Ap (F6 (ks.set (Ai ks k) y) (Ai ks k))=B3 k (Ap ks)/\(∀z ∈ F6 (ks.set (Ai ks k) y) (Ai ks k),Cb 4 h z)/\1<=(F6 (ks.set (Ai ks k) y) (Ai ks k)).length/\(F6 (ks.set (Ai ks k) y) (Ai ks k)).length<=8)/\
   (¬A7 y<4-> ∀z ∈ ks.set (Ai ks k) y,Cb 4 h z):=by
 simp only[Cb]at hn;obtain⟨h2,h8,hk⟩:=hn;have hne:ks≠ []:=by intro e;rw[e]at h2;simp at h2;omega
 obtain⟨A,x,C,e,hA,hlow,hhi⟩:=H6 (k:=k) hne hk ha;have hx:Cb 4 h x:=hk x (by rw[e];simp);have hax:Az (A6 x):=by
  have ha':Az (Ap ks):=ha;rw[e,A0]at ha';have:=(List.pairwise_append.1 ha').2.1;simp only[Ap]at this;exact(List.pairwise_append.1 this).1
 have eg:ks.getD (Ai ks k) (.leaf [])=x:=by rw[<-hA,e];simp
 have eq:ks[Ai ks k]? =some x:=by rw[<-hA,e];simp
 have hlen:ks.length=A.length+1+C.length:=by rw[e];simp;omega
 have hfl:Ap ks=Ap A++(A6 x++Ap C):=by rw[e,A0];simp[Ap]
 refine⟨x,eq,eg,hx,hax,by rw[hfl];simp;omega,by rw[hfl,Cu,Cu];omega,fun y hr=> ?_⟩;have ih:=Qh h (k:=k) (lo:=4) (by omega) (fun _=>by omega) hx hax;rw[hr]at ih;obtain⟨_,i2,i3⟩:=ih;have hy:Cb 3 h y:=by
  rcases i3 with i3|⟨_,_,_,c⟩
  . exact i3.1
  . omega
 have es:ks.set (Ai ks k) y=A++y::C:=by rw[<-hA,e];simp
 have hkA: ∀z ∈ A,Cb 4 h z:=fun z hz=>hk z (by rw[e];simp[hz]);have hkC: ∀z ∈ C,Cb 4 h z:=fun z hz=>hk z (by rw[e];simp[hz]);have hset:Ap (ks.set (Ai ks k) y)=B3 k (Ap ks):=by
  rw[es,hfl,K9,K9,(Qe hlow).1,(Ii hhi).1,A0,<-i2];simp only[Ap]
 refine⟨hy,hset,fun j z _ hz=>hk z (List.mem_of_getElem? hz),fun h4=> ?_,fun h4 z hz=> ?_⟩
 . obtain⟨m1,m2,m3,m4⟩:=Ab1 hy (by have:=(E7 hy).1;omega) hkA hkC (by omega);rw[<-hset,es,<-hA];exact⟨m1,m2,by omega,by omega⟩
 . rw[es]at hz;rcases List.mem_append.1 hz with hz|hz
   . exact hkA z hz
   rcases List.mem_cons.1 hz with rfl|hz
   . exact Va hy (by omega)
   . exact hkC z hz
end Go.Proofs.YtnkmhaachfgaoaaGreatDoor
