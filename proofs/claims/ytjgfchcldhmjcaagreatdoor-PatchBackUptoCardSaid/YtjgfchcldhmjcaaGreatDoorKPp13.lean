/- Parts: commonplaceref02.Copy: all of a value, in new memory. Condition: a bulk of at most 10^8. -/
import Derived.Deep.RegionLaw
import Derived.StillTailTactics
import Derived.Test.YtjgfchcldhmjcaaGreatDoorKPp9
set_option maxHeartbeats 20000000
set_option maxRecDepth 100000
namespace Go.Proofs.YtjgfchcldhmjcaaGreatDoor
open Go.RowKit
def F4 (b:Nat) (wr:World) (own:Option Nat) (l:List Val) (ns:List Value):Prop:= ∀w'':World,wr.heap.size<=w''.heap.size->
 (∀p:Addr,b<=p.block->p.block<wr.heap.size->own≠some p.block->w''.cell? p=wr.cell? p)->J3 w'' wr.heap.size l ns
theorem F4.step {b:Nat} {wr w4 w6:World} {c a:Option Nat} {t N:Nat} {l:List Val} {ns cs:List Value} {x:Val} (h:F4 b wr c l ns) (A:Lu wr w4 x cs) (C:b<=wr.heap.size)
 (w: ∀g,c=some g->g<wr.heap.size) (i:a=c\/a=some N) (hN:w4.heap.size<=N) (B:t<b)
 (v: ∀p:Addr,p.block<wr.heap.size->w4.cell? p=wr.cell? p) (y:wr.heap.size<=w4.heap.size)
 (q: ∀p:Addr,p.block<w4.heap.size->c≠some p.block->p.block≠t->w6.cell? p=w4.cell? p) (m:w4.heap.size<=w6.heap.size):F4 b w6 a (l++ [x]) (ns++cs):=by
 intro d z f;have a1:J3 d w6.heap.size l ns:=by
  refine J3.more (by omega) (h d (by omega) (fun p r n s=> ?_));have j:a≠some p.block:=by
   rcases i with e|e
   . rw[e];exact s
   . rw[e];intro k;have:=Option.some.inj k;omega
  rw[f p r (by omega) j,q p (by omega) s (by omega),v p n]
 have u:Ab d w6.heap.size x cs:=by
  refine Ab.more m _ _ (A d (by omega) (fun p r n=> ?_));have o:c≠some p.block:=fun e=>by have:=w _ e;omega
  have j:a≠some p.block:=by
   rcases i with e|e
   . rw[e];exact o
   . rw[e];intro k;have:=Option.some.inj k;omega
  rw[f p (by omega) (by omega) j,q p n o (by omega)]
 exact J3.snoc u a1
def Al3 (b:Nat) (wr:World) (l:List Val) (V:Value):Prop:= ∃la lc,V=.slice la l.length lc/\(l= []\/ ∃g,la=some ⟨g,0,none⟩/\g<wr.heap.size/\ ∀w'':World,wr.heap.size<=w''.heap.size->
 (∀p:Addr,b<=p.block->p.block<wr.heap.size->w''.cell? p=wr.cell? p)->Aq w'' wr.heap.size l g 0)
theorem F4.close {b:Nat} {wr:World} {l:List Val} {V:Value} {ns:List Value} (h:F4 b wr V.ownBlock l ns) (k:wr.ownsRow b 42 6 V l.length ns):Al3 b wr l V:=by
 obtain⟨q,r,rfl,m⟩:=Qf k;refine⟨q,r,rfl, ?_⟩;rcases m with h0|⟨g,rfl,c,f,i⟩
 . exact .inl (List.length_eq_zero_iff.1 h0)
 . refine .inr ⟨g,rfl,f,fun e d a=> ?_⟩;exact(h e d (fun p s t _=>a p s t)).holds (fun v cs o=>o) (fun j u n=>by rw[a _ c f];exact i j u n)
def E1 (b:Nat) (wr:World) (own:Option Nat) (l:List (ByteArray×Val)) (ns:List Value):Prop:= ∀w'':World,wr.heap.size<=w''.heap.size->
 (∀p:Addr,b<=p.block->p.block<wr.heap.size->own≠some p.block->w''.cell? p=wr.cell? p)->Fe w'' wr.heap.size l ns
theorem E1.step {b:Nat} {wr w4 w6:World} {c a:Option Nat} {t N:Nat} {l:List (ByteArray×Val)} {ns cs:List Value} {key:ByteArray} {x:Val} (h:E1 b wr c l ns) (A:Lu wr w4 x cs) (C:b<=wr.heap.size)
 (w: ∀g,c=some g->g<wr.heap.size) (i:a=c\/a=some N) (hN:w4.heap.size<=N) (B:t<b)
 (v: ∀p:Addr,p.block<wr.heap.size->w4.cell? p=wr.cell? p) (y:wr.heap.size<=w4.heap.size)
 (q: ∀p:Addr,p.block<w4.heap.size->c≠some p.block->p.block≠t->w6.cell? p=w4.cell? p) (m:w4.heap.size<=w6.heap.size):E1 b w6 a (l++ [(key,x)]) (ns++(.string key::cs)):=by
 intro d z f;have a1:Fe d w6.heap.size l ns:=by
  refine Fe.more (by omega) (h d (by omega) (fun p r n s=> ?_));have j:a≠some p.block:=by
   rcases i with e|e
   . rw[e];exact s
   . rw[e];intro k;have:=Option.some.inj k;omega
  rw[f p r (by omega) j,q p (by omega) s (by omega),v p n]
 have u:Ab d w6.heap.size x cs:=by
  refine Ab.more m _ _ (A d (by omega) (fun p r n=> ?_));have o:c≠some p.block:=fun e=>by have:=w _ e;omega
  have j:a≠some p.block:=by
   rcases i with e|e
   . rw[e];exact o
   . rw[e];intro k;have:=Option.some.inj k;omega
  rw[f p (by omega) (by omega) j,q p n o (by omega)]
 exact Fe.snoc u a1
def Al4 (b:Nat) (wr:World) (l:List (ByteArray×Val)) (V:Value):Prop:= ∃la lc,V=.slice la l.length lc/\(l= []\/ ∃g,la=some ⟨g,0,none⟩/\g<wr.heap.size/\ ∀w'':World,wr.heap.size<=w''.heap.size->
 (∀p:Addr,b<=p.block->p.block<wr.heap.size->w''.cell? p=wr.cell? p)->An w'' wr.heap.size l g 0)
theorem E1.close {b:Nat} {wr:World} {l:List (ByteArray×Val)} {V:Value} {ns:List Value} (h:E1 b wr V.ownBlock l ns) (f:wr.ownsRow b 111 7 V l.length ns):Al4 b wr l V:=by
 have c:=f;rcases f.2 with⟨rfl,hz⟩|⟨g,cap,cur,rfl,hbg,hg,_,_,_,_⟩
 . exact⟨none,0,by rw[hz],.inl (List.length_eq_zero_iff.1 hz)⟩
 . refine⟨_,cap,rfl,.inr ⟨g,rfl,(Array.getElem?_eq_some_iff.1 hg).1,fun e d a=> ?_⟩⟩;refine(h e d (fun p k m _=>a p k m)).holds (fun j u i=> ?_);rw[a _ hbg (Array.getElem?_eq_some_iff.1 hg).1];have:=c.cells (g:=g) rfl j u i
   rwa [Go.WideShapes.add_plain]at this
theorem Rk {w4 b:World} {l:Obj} {a:Option Nat} {t i:Nat} {V:Value} (h:(w4.alloc l).grownBy b a):
 (∀c,c<w4.heap.size->a≠some c->c≠t->(b.setCell ⟨t,i,none⟩ V).heap[c]? =w4.heap[c]?)/\(∀p:Addr,p.block<w4.heap.size->a≠some p.block->p.block≠t->(b.setCell ⟨t,i,none⟩ V).cell? p=w4.cell? p)/\
 w4.heap.size<=(b.setCell ⟨t,i,none⟩ V).heap.size:=by
 have g: ∀c,c<w4.heap.size->a≠some c->c≠t->(b.setCell ⟨t,i,none⟩ V).heap[c]? =w4.heap[c]? :=by
  intro c j d f;rw[D8 _ _ _ _ f,h.block c (by simp;omega) (fun e=>d e.symm),Lib.alloc_old w4 _ _ j]
 refine⟨g,fun p k d f=>World.cell?_of_block (g p.block k d f), ?_⟩;have:=h.size;simp only[World.size_alloc]at this;have e:(b.setCell ⟨t,i,none⟩ V).heap.size=b.heap.size:=by simp[World.setCell]
 omega
theorem Afg (k:Int) (b:Bool) (n:Int) (t:ByteArray) (l:List Val) (o:List (ByteArray×Val)) (la oa:Option Addr) (oc lc:Nat) (w:World) (IH: ∀v ∈ l,Qp v) (bo: ∀m ∈ o,Qp m.2)
 (ho:o= []\/ ∃g z,oa=some ⟨g,z,none⟩/\g<w.heap.size/\An w w.heap.size o g z) (cw:Af o<=100000000)
 (hl:l= []\/ ∃g z,la=some ⟨g,z,none⟩/\g<w.heap.size/\Aq w w.heap.size l g z) (hb:A5 l<=100000000):
 Calls Tryz.prog 31 #[.agg #[.int .i64 k,.bool b,.int .i64 n,.string t,.slice la l.length lc,.slice oa o.length oc]] w fun e w'=>(∃bh,e=.returned (.agg (bh:List Value).toArray)/\bh.length=6/\Lu w w' (.mk k b n t l o) bh)/\Below w.heap.size w w':=by
 have cy:=C9 l;obtain⟨i0,hi,b2,b4,b5⟩:=info_parts O7;obtain⟨HI,cd,ce,cf,b7,bl,Ho⟩:=hid7 hi b2 b4 b5 IH bo ho;have Z:=B5 o;clear hi b2 b4 b5 IH bo ho;go_enter Tryz.func31,Tryz.ntmps31;go_wp2_with (fail);obtain⟨w0,ad⟩: ∃w0,((w.alloc (.cells #[.int .i64 k,.bool b,.int .i64 n,.string t,.slice la l.length lc,.slice oa o.length oc] 42)).alloc (.cells #[.int .i64 0,.bool false,.int .i64 0,.string ⟨#[]⟩,.slice none 0 0,.slice none 0 0] 42)).alloc (.cells #[.int .i64 k,.bool b,.int .i64 n,.string t,.slice none 0 0,.slice none 0 0] 42)=w0:=⟨_,rfl⟩;have C:Hid (w0.ownsRow (w.heap.size+3) 42 6 (.slice none 0 0) 0 []):=World.ownsRow_nil _ _ _ _;have K:Hid (F4 (w.heap.size+3) w0 (Value.slice none 0 0).ownBlock (l.take 0) []):=fun _ _ _=>rfl;have a9:Hid (Below w.heap.size w w0):=by
  show Below _ _ _;rw[<-ad];exact(((Below.refl _ _).alloc (Nat.le_refl _) _).alloc (by simp) _).alloc (by simp;omega) _
 have ba:Hid (w0.heap[w.heap.size]? =some (.cells #[.int .i64 k,.bool b,.int .i64 n,.string t,.slice la l.length lc,.slice oa o.length oc] 42 (0,0))):=by
  show _=_;rw[<-ad,Lib.alloc_old _ _ _ (by simp;omega),Lib.alloc_old _ _ _ (by simp)];exact heap_alloc_new _ _
 have bb:Hid (w0.heap[w.heap.size+1]? =some (.cells #[.int .i64 0,.bool false,.int .i64 0,.string ⟨#[]⟩,.slice none 0 0,.slice none 0 0] 42 (0,0))):=by
  show _=_;rw[<-ad,Lib.alloc_old _ _ _ (by simp)];have:=heap_alloc_new (w.alloc (.cells #[.int .i64 k,.bool b,.int .i64 n,.string t,.slice la l.length lc,.slice oa o.length oc] 42)) (.cells #[.int .i64 0,.bool false,.int .i64 0,.string ⟨#[]⟩,.slice none 0 0,.slice none 0 0] 42);simpa using this
 have bc:Hid (w0.heap[w.heap.size+2]? =some (.cells #[.int .i64 k,.bool b,.int .i64 n,.string t,.slice none 0 0,.slice none 0 0] 42 (0,0))):=by
  show _=_;rw[<-ad];have:=heap_alloc_new ((w.alloc (.cells #[.int .i64 k,.bool b,.int .i64 n,.string t,.slice la l.length lc,.slice oa o.length oc] 42)).alloc (.cells #[.int .i64 0,.bool false,.int .i64 0,.string ⟨#[]⟩,.slice none 0 0,.slice none 0 0] 42)) (.cells #[.int .i64 k,.bool b,.int .i64 n,.string t,.slice none 0 0,.slice none 0 0] 42);simpa using this
 rw[ad];clear ad;go_loopw [4] (fun i wr=> ∃(q:Nat) (v1:Value) (ns:List Value),i=.int .i64 q/\q<=l.length/\Hid (wr.ownsRow (w.heap.size+3) 42 6 v1 q ns)/\Hid (F4 (w.heap.size+3) wr v1.ownBlock (l.take q) ns)/\Hid (Below w.heap.size w wr)/\
  Hid (wr.heap[w.heap.size+1]? =some (.cells #[.int .i64 0,.bool false,.int .i64 0,.string ⟨#[]⟩,.slice none 0 0,.slice none 0 0] 42 (0,0)))/\
  Hid (wr.heap[w.heap.size]? =some (.cells #[.int .i64 k,.bool b,.int .i64 n,.string t,.slice la l.length lc,.slice oa o.length oc] 42 (0,0)))/\
  Hid (wr.heap[w.heap.size+2]? =some (.cells #[.int .i64 k,.bool b,.int .i64 n,.string t,v1,.slice none 0 0] 42 (0,0)))) (fun i _=>l.length - (intOf i).toNat)
 case atStart=>exact⟨0,.slice none 0 0, [],rfl,Nat.zero_le _,C,K,a9,bb,ba,bc⟩
 case round=>
  obtain⟨q,v1,ns,rfl,hq,a,j,ar,bk,a7,aa⟩:=hrel;clear C K a9 bb ba bc;have b1:wr.cell? ⟨w.heap.size,4,none⟩=some (.slice la l.length lc):=by rw[Lib.cell_of_heap a7.out];rfl
  have b3:wr.cell? ⟨w.heap.size+2,4,none⟩=some v1:=by rw[Lib.cell_of_heap aa.out];rfl
  have f3:wr.frozen? ⟨w.heap.size+2,4,none⟩=false:=Lib.frozen_of_heap aa.out _;have z3:w.heap.size+2<wr.heap.size:=(Array.getElem?_eq_some_iff.1 aa.out).1;by_cases bv:q<l.length
  . obtain⟨g,z,rfl,hg,hL⟩: ∃g z,la=some ⟨g,z,none⟩/\g<w.heap.size/\Aq w w.heap.size l g z:=by
     rcases hl with rfl|h
     . simp at bv
     . exact h
    obtain⟨x,hx⟩: ∃v,l[q]? =some v:=⟨_,List.getElem?_eq_getElem bv⟩;have F:=List.mem_of_getElem? hx;have ac:=b7.out x F;have bt:=Dp F;have bj:l.take (q+1)=l.take q++ [x]:=by rw[List.take_add_one,hx];rfl
    obtain⟨k',b',n',t',l',o'⟩:=x;obtain⟨cq,cr,ct,cu,az,c0,c1,c2,c3,c4,c5⟩:=(hL.below hg ar.out).six hx;have hz:=ar.out.size;have HC:=qz (ac _ wr.drew (Ab.more hz _ _ (az.below (Below.drew (Below.refl _ _)))) (by omega));have ax: ∀w4:World,Below wr.drew.heap.size wr.drew w4->w4.ownsRow (w.heap.size+3) 42 6 v1 q ns:=by
     intro w4 h4;have h5:Below wr.heap.size wr w4:=(Below.drew (Below.refl _ _)).trans h4;refine a.out.kept (J6 h5) ?_
     cases v1.ownBlock with
     |none=>exact .inl rfl
     |some g=>exact .inr (by simp)
    have D:=qz ax;have HZ:=qz (show w.heap.size+3<=wr.heap.size by omega);have ak:Hid (∀(w4:World),Below wr.drew.heap.size wr.drew w4-> ∀(ob:Obj) (s:World),(w4.alloc ob).grownBy s v1.ownBlock->s.heap[w.heap.size+2]? =some (.cells #[.int .i64 k,.bool b,.int .i64 n,.string t,v1,.slice none 0 0] 42 (0,0))):=by
     intro w4 h4 ob s h5;have e4:w4.heap[w.heap.size+2]? =_:=(h4.block (w.heap.size+2) z3).trans aa.out;have l4:=(Array.getElem?_eq_some_iff.1 e4).1;rw[h5.block _ (by simp;omega) (fun e=>by have:=(a.out.lt _ e.symm).1;omega),Lib.alloc_old w4 _ _ l4];exact e4
    have ai:Hid (∀(w4:World),Below wr.drew.heap.size wr.drew w4-> ∀ob:Obj,(w4.alloc ob).cell? ⟨w.heap.size+2,4,none⟩=some v1):=by
     intro w4 h4 ob;have e4:w4.heap[w.heap.size+2]? =_:=(h4.block (w.heap.size+2) z3).trans aa.out;have l4:=(Array.getElem?_eq_some_iff.1 e4).1;have e5:(w4.alloc ob).heap[w.heap.size+2]? =_:=(Lib.alloc_old w4 ob _ l4).trans e4;rw[Lib.cell_of_heap e5];rfl
    clear ax az hx F ac hL hg;go_wp2_with (fail)
    go_region_law (first|(refine step_append_lies _ (by rfl) (.tmp 23) (.tmp 30) 39 (by rfl) (w.heap.size+3) 42 i0 (.agg #[.int .i64 0,.bool false,.int .i64 0,.string ⟨#[]⟩,.slice none 0 0,.slice none 0 0]) 6 88 Tryz.underlying39 HI.out cd.out ce.out cf.out rfl (by omega) v1 q ns (by rfl) ((D.out _ al.out).alloc _) ⟨w4.heap.size,0,none⟩ 1 1 [L,a1,M,O,P,Q] (by rfl) (by rfl) (World.news_of_block (cs:= #[L,a1,M,O,P,Q]) (t:=42) (fr:=(0,0)) (heap_alloc_new w4 _)) ao.out (by omega) (by unfold maxLen;omega) (by omega) bg.out (w4.heap.size+1) (by simp) ?_;intro B f s G r R bw;have I:s.heap[w.heap.size+2]? =some (.cells #[.int .i64 k,.bool b,.int .i64 n,.string t,v1,.slice none 0 0] 42 (0,0)):=aj.out s r;have g5:s.cell? ⟨w.heap.size+2,4,none⟩=some v1:=(by rw[Lib.cell_of_heap I];rfl);have f5:s.frozen? ⟨w.heap.size+2,4,none⟩=false:=Lib.frozen_of_heap I _;have E:=qz G;have d:=qz r;have J:=qz R;have aq:=qz I;clear G r R I)|(go_simp;go_at_call 31;refine(HC.out).mono ?_;rintro e w4 ⟨⟨cj,rfl,av,Y⟩,A⟩;obtain⟨L,a1,M,O,P,Q,rfl⟩:=Uc av;have am:=qz Y;have al:=qz A;have g3:w4.cell? ⟨w.heap.size+2,4,none⟩=some v1:=(A.cell (p:=⟨w.heap.size+2,4,none⟩) z3).trans b3;have ao:Hid (∀u ∈ [L,a1,M,O,P,Q],u.oneCell'=true):=(Y w4 (Nat.le_refl _) (fun _ _ _=>rfl)).len.2;have bg:Hid (w.heap.size+3<=(w4.alloc (.cells #[L,a1,M,O,P,Q] 42)).heap.size):=(by show _<=_;have h1:=A.size;have h2:=HZ.out;have h3:wr.drew.heap.size=wr.heap.size:=rfl;simp;omega);have g4:(w4.alloc (.cells #[L,a1,M,O,P,Q] 42)).cell? ⟨w.heap.size+2,4,none⟩=some v1:=ai.out w4 A _;have aj:Hid (∀s:World,(w4.alloc (.cells #[L,a1,M,O,P,Q] 42)).grownBy s v1.ownBlock->s.heap[w.heap.size+2]? =some (.cells #[.int .i64 k,.bool b,.int .i64 n,.string t,v1,.slice none 0 0] 42 (0,0))):=(fun s bi=>ak.out w4 A _ s bi);clear Y A av))
    all_goals
     have y:Below wr.heap.size wr w4:=(Below.drew (Below.refl _ _)).trans al.out;have Z:=fun B hh=>(a.out.lt B hh);obtain⟨r1,r2,r3⟩:=Rk (t:=w.heap.size+2) (i:=4) (V:=.slice (some ⟨B,0,none⟩) (q+1) f) d.out;have n2:v1.ownBlock≠some (w.heap.size+2):=fun e=>by have:=(Z _ e).1;omega
     have n0:v1.ownBlock≠some w.heap.size:=fun e=>by have:=(Z _ e).1;omega
     have ay:=y.size;have an:Hid (F4 (w.heap.size+3) (s.setCell ⟨w.heap.size+2,4,none⟩ (.slice (some ⟨B,0,none⟩) (q+1) f)) (some B) (l.take (q+1)) (ns++ [L,a1,M,O,P,Q])):=by
      show F4 _ _ _ _ _;rw[bj];refine F4.step (t:=w.heap.size+2) (N:=w4.heap.size+1) j.out am.out HZ.out (fun g hh=>(Z g hh).2) ?_ (by omega) (by omega) (fun p hp=>y.cell hp) ay r2 r3;rcases J.out with e|e
      . exact .inl e.symm
      . exact .inr (by rw[e])
     have bf:Hid ((s.setCell ⟨w.heap.size+2,4,none⟩ (.slice (some ⟨B,0,none⟩) (q+1) f)).ownsRow (w.heap.size+3) 42 6 (.slice (some ⟨B,0,none⟩) (q+1) f) (q+1) (ns++ [L,a1,M,O,P,Q])):=ownsRow_setCell_below E.out (by simp) _;have be:Hid (Below w.heap.size w (s.setCell ⟨w.heap.size+2,4,none⟩ (.slice (some ⟨B,0,none⟩) (q+1) f))):=(((ar.out.trans (y.mono hz)).alloc (by omega) _).grown d.out (by simp;omega) (fun c hc=>by have:=(Z c hc).1;omega)).setCell (by simp) _;have n1:v1.ownBlock≠some (w.heap.size+1):=fun e=>by have:=(Z _ e).1;omega
     have bn:Hid ((s.setCell ⟨w.heap.size+2,4,none⟩ (.slice (some ⟨B,0,none⟩) (q+1) f)).heap[w.heap.size+1]? =some (.cells #[.int .i64 0,.bool false,.int .i64 0,.string ⟨#[]⟩,.slice none 0 0,.slice none 0 0] 42 (0,0))):=by
      show _=_;rw[r1 _ (by omega) n1 (by omega),y.block _ (by omega)];exact bk.out
     have bm:Hid ((s.setCell ⟨w.heap.size+2,4,none⟩ (.slice (some ⟨B,0,none⟩) (q+1) f)).heap[w.heap.size]? =some (.cells #[.int .i64 k,.bool b,.int .i64 n,.string t,.slice (some ⟨g,z,none⟩) l.length lc,.slice oa o.length oc] 42 (0,0))):=by
      show _=_;rw[r1 _ (by omega) n0 (by omega),y.block _ (by omega)];exact a7.out
     have ap:Hid ((s.setCell ⟨w.heap.size+2,4,none⟩ (.slice (some ⟨B,0,none⟩) (q+1) f)).heap[w.heap.size+2]? =some (.cells #[.int .i64 k,.bool b,.int .i64 n,.string t,.slice (some ⟨B,0,none⟩) (q+1) f,.slice none 0 0] 42 (0,0))):=by
      show _=_;rw[Cg aq.out];rfl
     clear y Z r1 r2 r3 n2 n1 n0 ay bk d E J aq am a j ar a7 aa g5 f5 aj ak ai D g3 g4 b1 b3 f3 c0 c1 c2 c3 c4 c5;go_wp2;go_roundw
     case rel=>exact⟨q+1,_,_,by go_num,by omega,bf,an,be,bn,bm,ap⟩
     case measure=>simp only[intOf];omega
  . obtain rfl:q=l.length:=by omega
    have X:=j.out;rw[List.take_length]at X;have HL:=qz (X.close a.out);clear X a j;obtain⟨H,rfl⟩: ∃H:World,H=wr:=⟨_,rfl⟩;obtain⟨j0,hj,bx,bz,b0⟩:=info_parts O6;obtain⟨HJ,ca,cb,cc⟩:=hid4 hj bx bz b0;have C:Hid (H.ownsRow H.heap.size 111 7 (.slice none 0 0) 0 []):=World.ownsRow_nil _ _ _ _;have K:Hid (E1 H.heap.size H (Value.slice none 0 0).ownBlock (o.take 0) []):=fun _ _ _=>rfl;have c7:w.heap.size+3<=H.heap.size:=by omega
    clear hj bx bz b0 b3 f3 hl;go_wp2_with (fail);clear b1;go_loopw [5] (fun i wr=> ∃(q:Nat) (U:Value) (ns:List Value),i=.int .i64 q/\q<=o.length/\Hid (wr.ownsRow H.heap.size 111 7 U q ns)/\Hid (E1 H.heap.size wr U.ownBlock (o.take q) ns)/\Hid (Below w.heap.size w wr)/\
     Hid (∀c,c<H.heap.size->c≠w.heap.size+2->wr.heap[c]? =H.heap[c]?)/\H.heap.size<=wr.heap.size/\
     Hid (wr.heap[w.heap.size+2]? =some (.cells #[.int .i64 k,.bool b,.int .i64 n,.string t,v1,U] 42 (0,0)))) (fun i _=>o.length - (intOf i).toNat)
    case atStart=>exact⟨0,.slice none 0 0, [],rfl,Nat.zero_le _,C,K,ar,qz (fun _ _ _=>rfl),Nat.le_refl _,aa⟩
    case round=>
     obtain⟨q,U,a8,rfl,cz,a,j,S,au,co,T⟩:=hrel;clear C K;have bd:Hid (wr.heap[w.heap.size]? =some (.cells #[.int .i64 k,.bool b,.int .i64 n,.string t,.slice la l.length lc,.slice oa o.length oc] 42 (0,0))):=by
      show _=_;rw[au.out _ (by omega) (by omega)];exact a7.out
     have b1:wr.cell? ⟨w.heap.size,5,none⟩=some (.slice oa o.length oc):=by rw[Lib.cell_of_heap bd.out];rfl
     have b3:wr.cell? ⟨w.heap.size+2,5,none⟩=some U:=by rw[Lib.cell_of_heap T.out];rfl
     have z3:w.heap.size+2<wr.heap.size:=by omega
     by_cases aw:q<o.length
     . obtain⟨g,z,rfl,hg,hL⟩: ∃g z,oa=some ⟨g,z,none⟩/\g<w.heap.size/\An w w.heap.size o g z:=by
        rcases Ho.out with h0|h
        . rw[h0]at aw;simp at aw
        . exact h
       obtain⟨⟨key,x⟩,hx⟩: ∃v,o[q]? =some v:=⟨_,List.getElem?_eq_getElem aw⟩;have F:=List.mem_of_getElem? hx;have ac:=bl.out _ F;have bt:=C4 F;simp only at ac bt;have bj:o.take (q+1)=o.take q++ [(key,x)]:=by rw[List.take_add_one,hx];rfl
       obtain⟨k',b',n',t',l',o'⟩:=x;obtain⟨cq,cr,ct,cu,az,c0,c1,c2,c3,c4,c5,c6⟩:=(hL.below hg S.out).seven hx;have hz:=S.out.size;have HC:=qz (ac _ wr.drew (Ab.more hz _ _ (az.below (Below.drew (Below.refl _ _)))) (show(Val.mk k' b' n' t' l' o').bulk<=100000000 from by omega));have D:Hid (∀w4:World,Below wr.drew.heap.size wr.drew w4->w4.ownsRow H.heap.size 111 7 U q a8):=by
        intro w4 h4;have h5:Below wr.heap.size wr w4:=(Below.drew (Below.refl _ _)).trans h4;refine a.out.kept (J6 h5) ?_
        cases U.ownBlock with
        |none=>exact .inl rfl
        |some g=>exact .inr (by simp)
       have ak:Hid (∀(w4:World),Below wr.drew.heap.size wr.drew w4-> ∀(ob:Obj) (s:World),(w4.alloc ob).grownBy s U.ownBlock->s.heap[w.heap.size+2]? =some (.cells #[.int .i64 k,.bool b,.int .i64 n,.string t,v1,U] 42 (0,0))):=by
        intro w4 h4 ob s h5;have e4:w4.heap[w.heap.size+2]? =_:=(h4.block (w.heap.size+2) z3).trans T.out;have l4:=(Array.getElem?_eq_some_iff.1 e4).1;rw[h5.block _ (by simp;omega) (fun e=>by have:=(a.out.lt _ e.symm).1;omega),Lib.alloc_old w4 _ _ l4];exact e4
       have ai:Hid (∀(w4:World),Below wr.drew.heap.size wr.drew w4-> ∀ob:Obj,(w4.alloc ob).cell? ⟨w.heap.size+2,5,none⟩=some U):=by
        intro w4 h4 ob;have e4:w4.heap[w.heap.size+2]? =_:=(h4.block (w.heap.size+2) z3).trans T.out;have l4:=(Array.getElem?_eq_some_iff.1 e4).1;have e5:(w4.alloc ob).heap[w.heap.size+2]? =_:=(Lib.alloc_old w4 ob _ l4).trans e4;rw[Lib.cell_of_heap e5];rfl
       have cn:g<wr.heap.size:=by omega
       have cp:w.heap.size<wr.heap.size:=by omega
       clear az hx F ac hL;go_wp2_with (fail)
       go_region_law (first|(refine step_append_lies _ (by rfl) (.tmp 41) (.tmp 56) 40 (by rfl) H.heap.size 111 j0 (.agg #[.string ⟨#[]⟩,.int .i64 0,.bool false,.int .i64 0,.string ⟨#[]⟩,.slice none 0 0,.slice none 0 0]) 7 104 Tryz.underlying40 HJ.out ca.out cb.out cc.out rfl (by omega) U q a8 (by rfl) ((D.out _ al.out).alloc _) ⟨w4.heap.size,0,none⟩ 1 1 [.string key,L,a1,M,O,P,Q] (by rfl) (by rfl) (World.news_of_block (cs:= #[.string key,L,a1,M,O,P,Q]) (t:=111) (fr:=(0,0)) (heap_alloc_new w4 _)) ao.out (by omega) (by unfold maxLen;omega) (by omega) bg.out (w4.heap.size+1) (by simp) ?_;intro B f s G r R bw;have I:s.heap[w.heap.size+2]? =some (.cells #[.int .i64 k,.bool b,.int .i64 n,.string t,v1,U] 42 (0,0)):=aj.out s r;have g5:s.cell? ⟨w.heap.size+2,5,none⟩=some U:=(by rw[Lib.cell_of_heap I];rfl);have f5:s.frozen? ⟨w.heap.size+2,5,none⟩=false:=Lib.frozen_of_heap I _;have E:=qz G;have d:=qz r;have J:=qz R;have aq:=qz I;clear G r R I)|(go_simp;go_at_call 31;refine(HC.out).mono ?_;rintro e w4 ⟨⟨cj,rfl,av,Y⟩,A⟩;obtain⟨L,a1,M,O,P,Q,rfl⟩:=Uc av;have am:=qz Y;have al:=qz A;have g3:w4.cell? ⟨w.heap.size+2,5,none⟩=some U:=(A.cell (p:=⟨w.heap.size+2,5,none⟩) z3).trans b3;have g1:w4.cell? ⟨w.heap.size,5,none⟩=some (.slice (some ⟨g,z,none⟩) o.length oc):=(A.cell (p:=⟨w.heap.size,5,none⟩) cp).trans b1;have g0:w4.cell? ⟨g,z+q*7,none⟩=some (.string key):=(A.cell (p:=⟨g,z+q*7,none⟩) cn).trans c0;have ao:Hid (∀u ∈ [.string key,L,a1,M,O,P,Q],u.oneCell'=true):=(Ae4 key (Y w4 (Nat.le_refl _) (fun _ _ _=>rfl)).len.2);have bg:Hid (H.heap.size<=(w4.alloc (.cells #[.string key,L,a1,M,O,P,Q] 111)).heap.size):=(by show _<=_;have h1:=A.size;have h3:wr.drew.heap.size=wr.heap.size:=rfl;simp;omega);have g4:(w4.alloc (.cells #[.string key,L,a1,M,O,P,Q] 111)).cell? ⟨w.heap.size+2,5,none⟩=some U:=ai.out w4 A _;have aj:Hid (∀s:World,(w4.alloc (.cells #[.string key,L,a1,M,O,P,Q] 111)).grownBy s U.ownBlock->s.heap[w.heap.size+2]? =some (.cells #[.int .i64 k,.bool b,.int .i64 n,.string t,v1,U] 42 (0,0))):=(fun s bi=>ak.out w4 A _ s bi);clear Y A av))
       all_goals
        have y:Below wr.heap.size wr w4:=(Below.drew (Below.refl _ _)).trans al.out;have a6:=fun B hh=>(a.out.lt B hh);obtain⟨r1,r2,r3⟩:=Rk (t:=w.heap.size+2) (i:=5) (V:=.slice (some ⟨B,0,none⟩) (q+1) f) d.out;have ay:=y.size;have an:Hid (E1 H.heap.size (s.setCell ⟨w.heap.size+2,5,none⟩ (.slice (some ⟨B,0,none⟩) (q+1) f)) (some B) (o.take (q+1)) (a8++ [.string key,L,a1,M,O,P,Q])):=by
         show E1 _ _ _ _ _;rw[bj];refine E1.step (t:=w.heap.size+2) (N:=w4.heap.size+1) j.out am.out co (fun g hh=>(a6 g hh).2) ?_ (by omega) (by omega) (fun p hp=>y.cell hp) ay r2 r3;rcases J.out with e|e
         . exact .inl e.symm
         . exact .inr (by rw[e])
        have bf:Hid ((s.setCell ⟨w.heap.size+2,5,none⟩ (.slice (some ⟨B,0,none⟩) (q+1) f)).ownsRow H.heap.size 111 7 (.slice (some ⟨B,0,none⟩) (q+1) f) (q+1) (a8++ [.string key,L,a1,M,O,P,Q])):=ownsRow_setCell_below E.out (by simp;omega) _;have be:Hid (Below w.heap.size w (s.setCell ⟨w.heap.size+2,5,none⟩ (.slice (some ⟨B,0,none⟩) (q+1) f))):=(((S.out.trans (y.mono hz)).alloc (by omega) _).grown d.out (by simp;omega) (fun c hc=>by have:=(a6 c hc).1;omega)).setCell (by simp) _;have cg:Hid (∀c,c<H.heap.size->c≠w.heap.size+2->(s.setCell ⟨w.heap.size+2,5,none⟩ (.slice (some ⟨B,0,none⟩) (q+1) f)).heap[c]? =H.heap[c]?):=by
         intro c hc bu;rw[r1 c (by omega) (fun e=>by have:=(a6 _ e).1;omega) bu,y.block c (by omega)];exact au.out c hc bu
        have ch:H.heap.size<=(s.setCell ⟨w.heap.size+2,5,none⟩ (.slice (some ⟨B,0,none⟩) (q+1) f)).heap.size:=by omega
        have ap:Hid ((s.setCell ⟨w.heap.size+2,5,none⟩ (.slice (some ⟨B,0,none⟩) (q+1) f)).heap[w.heap.size+2]? =some (.cells #[.int .i64 k,.bool b,.int .i64 n,.string t,v1,.slice (some ⟨B,0,none⟩) (q+1) f] 42 (0,0))):=by
         show _=_;rw[Cg aq.out];rfl
        clear y a6 r1 r2 r3 ay d E J aq am a j S bd T g5 f5 aj ak ai D g3 g4 g1 g0 b1 b3 c0 c1 c2 c3 c4 c5 c6 au;go_wp2;go_roundw
        case rel=>exact⟨q+1,_,_,by go_num,by omega,bf,an,be,cg,ch,ap⟩
        case measure=>simp only[intOf];omega
     . obtain rfl:q=o.length:=by omega
       have X:=j.out;rw[List.take_length]at X;have HO:=qz (X.close a.out);have ab:wr.heap[w.heap.size+1]? =some (.cells #[.int .i64 0,.bool false,.int .i64 0,.string ⟨#[]⟩,.slice none 0 0,.slice none 0 0] 42 (0,0)):=(au.out _ (by omega) (by omega)).trans bk.out;have ci:=qz ab;obtain⟨d0,d1,d2,d3,d4,d5⟩:=Gd T.out;obtain⟨e0,e1,e2,e3,e4,e5⟩:=Gd ab;have cx:=Lib.frozen_of_heap ab;clear X a j ab;obtain⟨ae,af,rfl,bp⟩:=HL.out;obtain⟨ag,ah,rfl,bq⟩:=HO.out;obtain⟨b8,b9⟩:=hid2 bp bq;clear HL HO bp bq b3;go_wp2;obtain⟨W,hW⟩: ∃W,((((((wr.setCell ⟨w.heap.size+1,0,none⟩ (.int .i64 k)).setCell ⟨w.heap.size+1,1,none⟩ (.bool b)).setCell ⟨w.heap.size+1,2,none⟩ (.int .i64 n)).setCell ⟨w.heap.size+1,3,none⟩ (.string t)).setCell ⟨w.heap.size+1,4,none⟩ (.slice ae l.length af)).setCell ⟨w.heap.size+1,5,none⟩ (.slice ag o.length ah))=W:=⟨_,rfl⟩;have br: ∀c,c≠w.heap.size+1->W.heap[c]? =wr.heap[c]? :=by
        intro c hc;rw[<-hW];simp only[D8 _ _ _ _ hc]
       have cv:W.heap.size=wr.heap.size:=by rw[<-hW];simp[World.setCell]
       have cl:Below w.heap.size w W:=by
        rw[<-hW];exact(((((S.out.setCell (by simp) _).setCell (by simp) _).setCell (by simp) _).setCell (by simp) _).setCell (by simp) _).setCell (by simp) _
       have ck:Lu w W (.mk k b n t l o) [.int .i64 k,.bool b,.int .i64 n,.string t,.slice ae l.length af,.slice ag o.length ah]:=by
        intro b6 c8 bs;simp only[Ab];refine⟨ae,af,ag,ah,rfl, ?_, ?_⟩
        . rcases b8.out with h0|⟨g,rfl,hg,hf⟩
          . exact .inl h0
          . refine .inr ⟨g,0,rfl,by omega,Aq.of_more l (fun v _ cs h=>Ab.more (by omega) _ _ h) g 0 (hf b6 (by omega) (fun p p1 p2=> ?_))⟩;rw[bs p (by omega) (by omega)];exact World.cell?_of_block ((br p.block (by omega)).trans (au.out p.block p2 (by omega)))
        . rcases b9.out with h0|⟨g,rfl,hg,hf⟩
          . exact .inl h0
          . refine .inr ⟨g,0,rfl,by omega,An.of_more o (fun m _ cs h=>Ab.more (by omega) _ _ h) g 0 (hf b6 (by omega) (fun p p1 p2=> ?_))⟩;rw[bs p (by omega) (by omega)];exact World.cell?_of_block (br p.block (by omega))
       have cm:W.heap[w.heap.size+1]? =some (.cells #[.int .i64 k,.bool b,.int .i64 n,.string t,.slice ae l.length af,.slice ag o.length ah] 42 (0,0)):=by
        rw[<-hW];exact Cg (Cg (Cg (Cg (Cg (Cg ci.out _) _) _) _) _) _
       obtain⟨y0,y1,y2,y3,y4,y5⟩:=Gd cm;rw[hW];exact bodyPost_ret (v:=.agg #[.int .i64 k,.bool b,.int .i64 n,.string t,.slice ae l.length af,.slice ag o.length ah]) (by simp[results,Tryz.results31,go_sem,y0,y1,y2,y3,y4,y5]) rfl ⟨⟨[.int .i64 k,.bool b,.int .i64 n,.string t,.slice ae l.length af,.slice ag o.length ah],rfl,rfl,ck⟩,cl⟩
theorem Sw: ∀v,Qp v:=by
 refine Val.ind ?_;intro k b n t l o f g cs w d e;simp only[Ab]at d;obtain⟨h,i,j,oc,rfl,a,c⟩:=d;simp only[Val.bulk]at e;exact Afg k b n t l o h j oc i w f g c (by omega) a (by omega)
end Go.Proofs.YtjgfchcldhmjcaaGreatDoor
