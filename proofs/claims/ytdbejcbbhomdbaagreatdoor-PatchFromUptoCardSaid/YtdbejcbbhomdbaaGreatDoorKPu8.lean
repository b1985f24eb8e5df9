/- Parts: A reader of values, byte by byte: what stands at a place of a text, and where that ends, or what is wrong, and where. Plain. No condition. -/
import Derived.Deep.MidRow
import Derived.Lib.ValidU
import Derived.Laws.IdiomStrings
import Derived.Lib.ItoaLen
import Derived.Test.YtdbejcbbhomdbaaGreatDoorKPu4
import Derived.Test.YtdbejcbbhomdbaaGreatDoorKPu5
import Derived.Test.YtdbejcbbhomdbaaGreatDoorKPu7
namespace Go.Proofs.YtdbejcbbhomdbaaGreatDoor
theorem Yq {a b:ByteArray} (h:Bq a b=true):a≠b:=by
 rintro rfl;rw[Cm]at h
 cases h
def Ed:Nd->Nat
 | .leaf es=>es.length
 | .inner ks=>ks.length
theorem Sj {lo h:Nat} {n:Nd} (hn:Ej lo h n):lo<=Ed n/\Ed n<=8:=by
 match h,n,hn with
 |0,.leaf es,hn=>exact hn
 |_+1,.inner ks,hn=>simp only[Ej]at hn;exact⟨hn.1,hn.2.1⟩
mutual
def Iy:Nd->Nat
 | .leaf _=>0
 | .inner ks=>htL ks+1
def htL:List Nd->Nat
 | []=>0
 |k::_=>Iy k
end
theorem P1: ∀{h:Nat} {n:Nd} {lo:Nat},0<lo\/h=0->Ej lo h n->Iy n=h
 |0,.leaf es,_,_,_=>by simp[Iy]
 |0,.inner ks,_,_,hn=>absurd hn (by simp[Ej])
 |h+1,.leaf es,_,_,hn=>absurd hn (by simp[Ej])
 |h+1,.inner ks,lo,h0,hn=>by
  simp only[Ej]at hn
  match ks,hn with
  | [],hn=>have:=hn.1;simp at this;omega
  |k::r,hn=>simp only[Iy,htL,P1 (.inl (by omega)) (hn.2.2 k (by simp))]
end Go.Proofs.YtdbejcbbhomdbaaGreatDoor
namespace Go.Proofs.YtdbejcbbhomdbaaGreatDoor
open Go.RowKit
mutual
def dV:Val->D
 | .mk k b n t l o=> .agg [.leaf (.int .i64 k),.leaf (.bool b),.leaf (.int .i64 n),.leaf (.string t),.row 6 (dL l),.row 7 (dO o)]
def dL:List Val->List D
 | []=> []
 |v::r=>dV v::dL r
def dO:List (ByteArray×Val)->List D
 | []=> []
 |p::r=>dP p::dO r
def dP:ByteArray×Val->D
 |(key,v)=> .agg [.leaf (.string key),dV v]
end
theorem Jl: ∀l,dL l=l.map dV
 | []=>rfl
 |v::r=>by simp[dL,Jl r]
theorem Bv: ∀l,dO l=l.map dP
 | []=>rfl
 |v::r=>by simp[dO,Bv r]
theorem Cr (v:Val):(dV v).cells=6:=by
 obtain⟨k,b,n,t,l,o⟩:=v;rfl
theorem D7 (p:ByteArray×Val):(dP p).cells=7:=by
 obtain⟨k,v⟩:=p;simp only[dP,D.cells,Fg,Cr]
theorem Ra (l:List Val): ∀d ∈ dL l,d.cells=6:=by
 rw[Jl];intro d hd;obtain⟨v,_,rfl⟩:=List.mem_map.1 hd;exact Cr v
theorem Dj (l:List (ByteArray×Val)): ∀d ∈ dO l,d.cells=7:=by
 rw[Bv];intro d hd;obtain⟨v,_,rfl⟩:=List.mem_map.1 hd;exact D7 v
theorem Ks (l:List Val):(dL l).length=l.length:=by rw[Jl,List.length_map]
theorem Az (l:List (ByteArray×Val)):(dO l).length=l.length:=by rw[Bv,List.length_map]
theorem Ah.six {w:World} {B:Nat} {a b c d:Value} {e f:D} {cs:List Value}:
 Ah w B [.leaf a,.leaf b,.leaf c,.leaf d,e,f] cs ↔ ∃c4 c5,cs= [a,b,c,d]++(c4++c5)/\a.oneCell'=true/\b.oneCell'=true/\c.oneCell'=true/\d.oneCell'=true/\Ai w B e c4/\Ai w B f c5:=by
 constructor
 . rintro⟨_,_,rfl,⟨rfl,ha⟩,_,_,rfl,⟨rfl,hb⟩,_,_,rfl,⟨rfl,hc⟩,_,_,rfl,⟨rfl,hd⟩,c4,_,rfl,h4,c5,_,rfl,h5,rfl⟩;exact⟨c4,c5,by simp,ha,hb,hc,hd,h4,h5⟩
 . rintro⟨c4,c5,rfl,ha,hb,hc,hd,h4,h5⟩;exact⟨[a],_,rfl,⟨rfl,ha⟩, [b],_,rfl,⟨rfl,hb⟩, [c],_,rfl,⟨rfl,hc⟩, [d],_,rfl,⟨rfl,hd⟩,c4,_,rfl,h4,c5, [],by simp,h5,rfl⟩
theorem Ah.toL {w:World} {B:Nat} {g:Nat}: ∀{l:List Val},(∀v ∈ l,∀cs,Ai w B (dV v) cs->Ae w B v cs)-> ∀{ns:List Value} {off:Nat},Ah w B (dL l) ns->(∀j u,ns[j]? =some u->w.cell? ⟨g,off+j,none⟩=some u)->Aj w B l g off
 | [],_,_,_,_,_=>by simp[Aj]
 |v::r,ih,ns,off,h,hc=>by
  obtain⟨c1,c2,rfl,h1,h2⟩:=h;have hl:c1.length=6:=h1.len.1.trans (Cr v);simp only[Aj];refine⟨⟨c1,ih v (by simp) c1 h1,fun j u hu=>hc j u (by rw[List.getElem?_append_left (List.getElem?_eq_some_iff.1 hu).1];exact hu)⟩,Ah.toL (fun x hx=>ih x (by simp[hx])) h2 (fun j u hu=> ?_)⟩;rw[show off+6+j=off+(6+j)from by omega];refine hc (6+j) u ?_;rw[List.getElem?_append_right (by omega),hl,show 6+j - 6=j from by omega];exact hu
theorem Ah.toO {w:World} {B:Nat} {g:Nat}: ∀{l:List (ByteArray×Val)},(∀m ∈ l,∀cs,Ai w B (dV m.2) cs->Ae w B m.2 cs)-> ∀{ns:List Value} {off:Nat},Ah w B (dO l) ns->(∀j u,ns[j]? =some u->w.cell? ⟨g,off+j,none⟩=some u)->Ak w B l g off
 | [],_,_,_,_,_=>by simp[Ak]
 |(key,v)::r,ih,ns,off,h,hc=>by
  obtain⟨c1,c2,rfl,h1,h2⟩:=h;obtain⟨_,c3,rfl,⟨rfl,_⟩,cv,c4,rfl,h3,rfl⟩:=h1;have hl:cv.length=6:=h3.len.1.trans (Cr v);simp only[Ak,Gh];refine⟨⟨by have:=hc 0 (.string key) rfl;simpa using this,cv,ih (key,v) (by simp) cv h3,fun j u hu=> ?_⟩,Ah.toO (fun x hx=>ih x (by simp[hx])) h2 (fun j u hu=> ?_)⟩
  . have h5:=(List.getElem?_eq_some_iff.1 hu).1;rw[show off+1+j=off+(j+1)from by omega];refine hc (j+1) u ?_;simp only[List.append_nil,List.cons_append,List.nil_append,List.getElem?_cons_succ];rw[List.getElem?_append_left h5];exact hu
  . rw[show off+7+j=off+(6+j+1)from by omega];refine hc (6+j+1) u ?_;simp only[List.append_nil,List.cons_append,List.nil_append,List.getElem?_cons_succ];rw[List.getElem?_append_right (by omega),hl,show 6+j - 6=j from by omega];exact hu
theorem Bj {w:World} {B:Nat}: ∀(v:Val) cs,Ai w B (dV v) cs->Ae w B v cs:=by
 refine Val.ind ?_;intro k b n t l o hl ho cs h;simp only[dV,Ai]at h;obtain⟨c4,c5,rfl,_,_,_,_,⟨a4,n4,rfl,_,ns4,h4,i4⟩,⟨a5,n5,rfl,_,ns5,h5,i5⟩⟩:=Ah.six.1 h;simp only[Ae];refine⟨a4,n4,a5,n5,by simp[Dr,Ks,Az], ?_, ?_⟩
 . rcases i4 with e|⟨g,off,e,hg,hc⟩
   . refine .inl ?_
     cases l with
     |nil=>rfl
     |cons x r=>simp[dL]at e
   . exact .inr ⟨g,off,e,hg,Ah.toL hl h4 hc⟩
 . rcases i5 with e|⟨g,off,e,hg,hc⟩
   . refine .inl ?_
     cases o with
     |nil=>rfl
     |cons x r=>simp[dO]at e
   . exact .inr ⟨g,off,e,hg,Ah.toO ho h5 hc⟩
theorem Ah.ofL {w:World} {B:Nat} {g:Nat}: ∀{l:List Val},(∀v ∈ l,∀cs,Ae w B v cs->Ai w B (dV v) cs)-> ∀{off:Nat},Aj w B l g off-> ∃ns,Ah w B (dL l) ns/\ ∀j u,ns[j]? =some u->w.cell? ⟨g,off+j,none⟩=some u
 | [],_,_,_=>⟨[],rfl,fun j u h=>by simp at h⟩
 |v::r,ih,off,h=>by
  simp only[Aj]at h;obtain⟨⟨cs,h1,hc⟩,h2⟩:=h;have h1':=ih v (by simp) cs h1;have hl:cs.length=6:=h1'.len.1.trans (Cr v);obtain⟨ns,h3,h4⟩:=Ah.ofL (fun x hx=>ih x (by simp[hx])) h2;refine⟨cs++ns,⟨cs,ns,rfl,h1',h3⟩,fun j u hu=> ?_⟩;by_cases hj:j<6
  . rw[List.getElem?_append_left (by omega)]at hu;exact hc j u hu
  . rw[List.getElem?_append_right (by omega),hl]at hu;have:=h4 (j - 6) u hu
    rwa [show off+6+(j - 6)=off+j from by omega]at this
theorem Ah.ofO {w:World} {B:Nat} {g:Nat}: ∀{l:List (ByteArray×Val)},(∀m ∈ l,∀cs,Ae w B m.2 cs->Ai w B (dV m.2) cs)-> ∀{off:Nat},Ak w B l g off-> ∃ns,Ah w B (dO l) ns/\ ∀j u,ns[j]? =some u->w.cell? ⟨g,off+j,none⟩=some u
 | [],_,_,_=>⟨[],rfl,fun j u h=>by simp at h⟩
 |(key,v)::r,ih,off,h=>by
  simp only[Ak,Gh]at h;obtain⟨⟨h0,cs,h1,hc⟩,h2⟩:=h;have h1':=ih (key,v) (by simp) cs h1;have hl:cs.length=6:=h1'.len.1.trans (Cr v);obtain⟨ns,h3,h4⟩:=Ah.ofO (fun x hx=>ih x (by simp[hx])) h2;refine⟨(.string key::cs)++ns,⟨.string key::cs,ns,rfl,⟨[.string key],cs,rfl,⟨rfl,rfl⟩,cs, [],by simp,h1',rfl⟩,h3⟩,fun j u hu=> ?_⟩
  match j,hu with
  |0,hu=>
   simp at hu;subst hu;exact h0
  |j+1,hu=>
   simp only[List.cons_append,List.getElem?_cons_succ]at hu;by_cases hj:j<6
   . rw[List.getElem?_append_left (by omega)]at hu;have:=hc j u hu
     rwa [show off+1+j=off+(j+1)from by omega]at this
   . rw[List.getElem?_append_right (by omega),hl]at hu;have:=h4 (j - 6) u hu
     rwa [show off+7+(j - 6)=off+(j+1)from by omega]at this
theorem Gl {w:World} {B:Nat}: ∀(v:Val) cs,Ae w B v cs->Ai w B (dV v) cs:=by
 refine Val.ind ?_;intro k b n t l o hl ho cs h;simp only[Ae]at h;obtain⟨la,lc,oa,oc,rfl,h1,h2⟩:=h;simp only[dV,Ai];refine Ah.six.2 ⟨[.slice la l.length lc], [.slice oa o.length oc],rfl,rfl,rfl,rfl,rfl, ?_, ?_⟩
 . rcases h1 with rfl|⟨g,off,e,hg,h1⟩
   . exact⟨la,lc,rfl,Ra _, [],rfl,.inl rfl⟩
   . obtain⟨ns,h3,h4⟩:=Ah.ofL hl h1;exact⟨la,lc,by rw[Ks],Ra _,ns,h3,.inr ⟨g,off,e,hg,h4⟩⟩
 . rcases h2 with rfl|⟨g,off,e,hg,h2⟩
   . exact⟨oa,oc,rfl,Dj _, [],rfl,.inl rfl⟩
   . obtain⟨ns,h3,h4⟩:=Ah.ofO ho h2;exact⟨oa,oc,by rw[Az],Dj _,ns,h3,.inr ⟨g,off,e,hg,h4⟩⟩
abbrev Cc:Array Value:= #[.int .i64 0,.bool false,.int .i64 0,.string ⟨#[]⟩,.slice none 0 0,.slice none 0 0]
theorem L8 {B:Nat} {w4:World} {k:Int} {b:Bool} {n:Int} {t:ByteArray} {l:List Val} {o:List (ByteArray×Val)} {cs:List Value} (h:Bk B w4 (dV (.mk k b n t l o)) cs): ∃la lc oa oc,cs= [.int .i64 k,.bool b,.int .i64 n,.string t,.slice la l.length lc,.slice oa o.length oc]:=by
 have h1:=Bj _ _ h.now;simp only[Ae]at h1;obtain⟨la,lc,oa,oc,e,_,_⟩:=h1;exact⟨la,lc,oa,oc,e⟩
theorem Co {w:World} {g:Nat} {t:TypeId} {a0 a1 a2 a3 a4 a5:Value} (h:Ao w g t #[a0,a1,a2,a3,a4,a5]):
 w.cell? ⟨g,0,none⟩=some a0/\w.cell? ⟨g,1,none⟩=some a1/\w.cell? ⟨g,2,none⟩=some a2/\w.cell? ⟨g,3,none⟩=some a3/\w.cell? ⟨g,4,none⟩=some a4/\w.cell? ⟨g,5,none⟩=some a5:=
 ⟨h.cell 0,h.cell 1,h.cell 2,h.cell 3,h.cell 4,h.cell 5⟩
theorem Mg {B:Nat} {w:World} {key:ByteArray} {v:Val} {cs:List Value} (h:Bk B w (dV v) cs):Bk B w (dP (key,v)) (.string key::cs):=fun w'' h1 h2=>⟨[.string key],cs,rfl,⟨rfl,rfl⟩,cs, [],by simp,h w'' h1 h2,rfl⟩
theorem R4:(Tryz.prog.info? 88).map (fun i=>(i.zero,i.size,i.bytes))=some (some (.agg #[.string ⟨#[]⟩,.int .i64 0,.bool false,.int .i64 0,.string ⟨#[]⟩,.slice none 0 0,.slice none 0 0]),7,104):=by kernel_rfl
theorem F0 {fn:Func} {t:Tmp} {tmps:Array Value} {W:World} {R:Nat} {a0 a1 a2 a3 a4 a5:Value} (h:fn.results= #[.cell t 33]) (hp:tmps.getD t undef=.pointer (some ⟨R,0,none⟩)) (hx:Ao W R 33 #[a0,a1,a2,a3,a4,a5]):
 (results fn tmps).run Tryz.prog W=.ok (.agg #[a0,a1,a2,a3,a4,a5]) W:=by
 obtain⟨c0,c1,c2,c3,c4,c5⟩:=Co hx;clear hx;have hp':tmps[t]?.getD undef=.pointer (some ⟨R,0,none⟩):=by simpa using hp
 simp[results,h,hp',go_sem,c0,c1,c2,c3,c4,c5]
theorem Cw.slice_n {b:Nat} {t:TypeId} {s n:Nat} {wr:World} {l:List D} {V:Value} (h:Cw b t s wr l V) (hn:l.length=n): ∃a c,V=.slice a n c:=by
 subst hn;exact h.slice
theorem Ik {w w6:World} {R b:Nat} {t e:TypeId} {sz:Nat} {l:List D} {V:Value} {cs:Array Value} {wr:World} (h:Ao w R t cs) (hg:w.grownBy w6 V.ownBlock) (hr:Cw b e sz wr l V) (hR:R<b):Ao w6 R t cs:=
 h.grown hg fun e=>by have:=(hr.base R e.symm).1;omega
theorem Ii {w w6:World} {B b:Nat} {e:TypeId} {sz:Nat} {l:List D} {V:Value} {w0 wr:World} (h:Below B w0 w) (hg:w.grownBy w6 V.ownBlock) (hr:Cw b e sz wr l V) (hB:B<=b) (hBw:B<=w.heap.size):Below B w0 w6:=
 h.grown hg hBw fun k hk=>Nat.le_trans hB (hr.base k hk).1
theorem H9 (w:World) (a0 a1 a2 a3 a4 a5 a6:Value):A4 (w.alloc (.cells #[a0,a1,a2,a3,a4,a5,a6] 88)) (w.heap.size+1) 7 (some ⟨w.heap.size,0,none⟩) 1 [a0,a1,a2,a3,a4,a5,a6]:=B5 (Ao.new w 88 #[a0,a1,a2,a3,a4,a5,a6])
theorem Zm:(Tryz.prog.info? 33).map (fun i=>(i.zero,i.size,i.bytes))=some (some (.agg #[.int .i64 0,.bool false,.int .i64 0,.string ⟨#[]⟩,.slice none 0 0,.slice none 0 0]),6,88):=by kernel_rfl
theorem Wl (w:World) (a0 a1 a2 a3 a4 a5:Value):A4 (w.alloc (.cells #[a0,a1,a2,a3,a4,a5] 33)) (w.heap.size+1) 6 (some ⟨w.heap.size,0,none⟩) 1 [a0,a1,a2,a3,a4,a5]:=B5 (Ao.new w 33 #[a0,a1,a2,a3,a4,a5])
theorem Dq {fn:Func} {t u:Tmp} {tmps:Array Value} {W:World} {R:Nat} {a0 a1 a2 a3 a4 a5:Value} (h:fn.results= #[.cell t 33,.tmp u]) (hp:tmps.getD t undef=.pointer (some ⟨R,0,none⟩)) (hx:Ao W R 33 #[a0,a1,a2,a3,a4,a5]):
 (results fn tmps).run Tryz.prog W=.ok (.tuple #[.agg #[a0,a1,a2,a3,a4,a5],tmps.getD u undef]) W:=by
 obtain⟨c0,c1,c2,c3,c4,c5⟩:=Co hx;clear hx;have hp':tmps[t]?.getD undef=.pointer (some ⟨R,0,none⟩):=by simpa using hp
 simp[results,h,hp',go_sem,c0,c1,c2,c3,c4,c5]
abbrev Nn:TypeId:=168
def Qp (b:Nat):D:=.leaf (.pointer (some ⟨b,0,none⟩))
def Av (l:List Nat):List D:=l.map Qp
theorem Mh (l:List Nat): ∀d ∈ Av l,d.cells=1:=by
 intro d hd;obtain⟨b,_,rfl⟩:=List.mem_map.1 hd;rfl
theorem Ax (l:List Nat):(Av l).length=l.length:=List.length_map ..
def Bn (n:Nd):ByteArray:=((By n).getLast?.map (·.1)).getD ByteArray.empty
mutual
def Bi (w:World) (B:Nat):Nd->Nat->Prop
 | .leaf es,b=>b<B/\ ∃a c,Ai w B (.row 7 (dO es)) [.slice a es.length c]/\
    Ao w b Nn #[.slice a es.length c,.slice none 0 0,.int .i64 0,.int .i64 es.length,.string (Al (.leaf es)),.string (Bn (.leaf es)),.bool false]
 | .inner ks,b=>b<B/\ ∃bs a c,Ai w B (.row 1 (Av bs)) [.slice a ks.length c]/\
    Ao w b Nn #[.slice none 0 0,.slice a ks.length c,.int .i64 (Iy (.inner ks)),.int .i64 (As ks).length,.string (Al (.inner ks)),.string (Bn (.inner ks)),.bool false]/\Ar w B ks bs
def Ar (w:World) (B:Nat):List Nd->List Nat->Prop
 | [],bs=>bs= []
 |k::r,bs=> ∃b t,bs=b::t/\Bi w B k b/\Ar w B r t
end
theorem Ar.imp {w w':World} {B B':Nat}: ∀{ks:List Nd},(∀k ∈ ks,∀b,Bi w B k b->Bi w' B' k b)-> ∀{bs},Ar w B ks bs->Ar w' B' ks bs
 | [],_,_,h=>h
 |k::r,ih,bs,h=>by
  simp only[Ar]at h ⊢;obtain⟨b,t,e,h1,h2⟩:=h;exact⟨b,t,e,ih k (by simp) b h1,Ar.imp (fun x hx=>ih x (by simp[hx])) h2⟩
theorem Bi.imp {w w':World} {B B':Nat} (hB:B<=B') (hk: ∀i,i<B->w'.heap[i]? =w.heap[i]?): ∀{n:Nd} {b:Nat},Bi w B n b->Bi w' B' n b:=by
 intro n;refine Nd.ind (p:=fun n=> ∀{b:Nat},Bi w B n b->Bi w' B' n b) ?_ ?_ n
 . intro es b h;simp only[Bi]at h ⊢;obtain⟨h0,a,c,h1,h2⟩:=h;exact⟨by omega,a,c,h1.imp hB fun p hp=>World.cell?_of_block (hk p.block hp),(hk b h0).trans h2⟩
 . intro ks ih b h;simp only[Bi]at h ⊢;obtain⟨h0,bs,a,c,h1,h2,h3⟩:=h;exact⟨by omega,bs,a,c,h1.imp hB fun p hp=>World.cell?_of_block (hk p.block hp),(hk b h0).trans h2,Ar.imp (fun k hk' _ hb=>ih k hk' hb) h3⟩
theorem Bi.below {w w':World} {B:Nat} {n:Nd} {b:Nat} (h:Bi w B n b) (hb:Below B w w'):Bi w' B n b:=h.imp (Nat.le_refl _) fun i hi=>hb.block i hi
theorem Bi.more {w:World} {B B':Nat} {n:Nd} {b:Nat} (h:Bi w B n b) (hB:B<=B'):Bi w B' n b:=h.imp hB fun _ _=>rfl
theorem Bi.later {w w':World} {n:Nd} {b:Nat} (h:Bi w w.heap.size n b) (hb:Below w.heap.size w w'):Bi w' w'.heap.size n b:=(h.below hb).more hb.size
theorem Ar.below {w w':World} {B:Nat} {ks:List Nd} {bs:List Nat} (h:Ar w B ks bs) (hb:Below B w w'):Ar w' B ks bs:=Ar.imp (fun _ _ _ h=>h.below hb) h
theorem Ar.more {w:World} {B B':Nat} {ks:List Nd} {bs:List Nat} (h:Ar w B ks bs) (hB:B<=B'):Ar w B' ks bs:=Ar.imp (fun _ _ _ h=>h.more hB) h
theorem Ar.later {w w':World} {ks:List Nd} {bs:List Nat} (h:Ar w w.heap.size ks bs) (hb:Below w.heap.size w w'):Ar w' w'.heap.size ks bs:=(h.below hb).more hb.size
theorem Bi.lt {w:World} {B:Nat} {n:Nd} {b:Nat} (h:Bi w B n b):b<B:=by
 cases n<;>(simp only[Bi]at h;exact h.1)
theorem Ar.len {w:World} {B:Nat}: ∀{ks:List Nd} {bs:List Nat},Ar w B ks bs->bs.length=ks.length
 | [],bs,h=>by
   simp only[Ar]at h;rw[h];rfl
 |k::r,bs,h=>by
  simp only[Ar]at h;obtain⟨b,t,rfl,_,h2⟩:=h;simp[Ar.len h2]
theorem Ar.at_ {w:World} {B:Nat}: ∀{ks:List Nd} {bs:List Nat},Ar w B ks bs-> ∀{i:Nat} {k:Nd},ks[i]? =some k-> ∃b,bs[i]? =some b/\Bi w B k b
 | [],bs,h,i,k,hi=>by simp at hi
 |x::r,bs,h,i,k,hi=>by
  simp only[Ar]at h;obtain⟨b,t,rfl,h1,h2⟩:=h
  cases i with
  |zero=>
   simp only[List.getElem?_cons_zero,Option.some.injEq]at hi;subst hi;exact⟨b,rfl,h1⟩
  |succ i=>
   simp only[List.getElem?_cons_succ]at hi ⊢;exact Ar.at_ h2 hi
theorem Ar.app {w:World} {B:Nat}: ∀{ks ks':List Nd} {bs bs':List Nat},Ar w B ks bs->Ar w B ks' bs'->Ar w B (ks++ks') (bs++bs')
 | [],ks',bs,bs',h,h'=>by
   simp only[Ar]at h;subst h;exact h'
 |k::r,ks',bs,bs',h,h'=>by
  simp only[Ar]at h;obtain⟨b,t,rfl,h1,h2⟩:=h;simp only[List.cons_append,Ar];exact⟨b,t++bs',rfl,h1,Ar.app h2 h'⟩
theorem Ar.one {w:World} {B:Nat} {k:Nd} {b:Nat} (h:Bi w B k b):Ar w B [k] [b]:=by
 simp only[Ar];exact⟨b, [],rfl,h,rfl⟩
theorem Ar.split {w:World} {B:Nat}: ∀{ks:List Nd} {bs:List Nat} (i:Nat),Ar w B ks bs->Ar w B (ks.take i) (bs.take i)/\Ar w B (ks.drop i) (bs.drop i)
 | [],bs,i,h=>by
   simp only[Ar]at h;subst h;simp[Ar]
 |k::r,bs,0,h=>by
  simp only[List.take_zero,List.drop_zero];exact⟨by simp only[Ar],h⟩
 |k::r,bs,i+1,h=>by
  simp only[Ar]at h;obtain⟨b,t,rfl,h1,h2⟩:=h;obtain⟨a1,a2⟩:=Ar.split i h2;simp only[List.take_succ_cons,List.drop_succ_cons,Ar];exact⟨⟨b,t.take i,rfl,h1,a1⟩,a2⟩
theorem Ar.set {w:World} {B:Nat}: ∀{ks:List Nd} {bs:List Nat} (i:Nat) {k:Nd} {b:Nat},Ar w B ks bs->Bi w B k b->Ar w B (ks.set i k) (bs.set i b)
 | [],bs,i,k,b,h,_=>by
   simp only[Ar]at h;subst h;simp[Ar]
 |x::r,bs,0,k,b,h,hk=>by
  simp only[Ar]at h;obtain⟨b',t,rfl,h1,h2⟩:=h;simp only[tk5,Ar];exact⟨b,t,rfl,hk,h2⟩
 |x::r,bs,i+1,k,b,h,hk=>by
  simp only[Ar]at h;obtain⟨b',t,rfl,h1,h2⟩:=h;simp only[tk6,Ar];exact⟨b',t.set i b,rfl,h1,Ar.set i h2 hk⟩
def Pm (w:World) (B:Nat):Option (Nat×Nd)->Option Addr->Prop
 |none,p=>p=none
 |some (_,n),p=> ∃b,p=some ⟨b,0,none⟩/\Bi w B n b
theorem Pm.below {w w':World} {B:Nat} {t:Option (Nat×Nd)} {p:Option Addr} (h:Pm w B t p) (hb:Below B w w'):Pm w' B t p:=by
 cases t with
 |none=>exact h
 |some t=>
  obtain⟨b,e,h1⟩:=h;exact⟨b,e,h1.below hb⟩
theorem Pm.more {w:World} {B B':Nat} {t:Option (Nat×Nd)} {p:Option Addr} (h:Pm w B t p) (hB:B<=B'):Pm w B' t p:=by
 cases t with
 |none=>exact h
 |some t=>
  obtain⟨b,e,h1⟩:=h;exact⟨b,e,h1.more hB⟩
theorem Pm.later {w w':World} {t:Option (Nat×Nd)} {p:Option Addr} (h:Pm w w.heap.size t p) (hb:Below w.heap.size w w'):Pm w' w'.heap.size t p:=(h.below hb).more hb.size
theorem Ac (w:World) (o:Obj):Below w.heap.size w (w.alloc o):=(Below.refl _ _).alloc (Nat.le_refl _) _
theorem Xh (n:Nat):((n:Int)==0)=decide (n=0):=by rw[Bool.eq_iff_iff];simp
theorem Zt (a b:Int):(a != b)=decide (a≠b):=by rw[Bool.eq_iff_iff];simp
theorem Zs (a b:Int):(a==b)=decide (a=b):=by rw[Bool.eq_iff_iff];simp
theorem G7 {W w1:World} (hb:Below W.heap.size W w1):(∀b o,b<W.heap.size->w1.cell? ⟨b,o,none⟩=W.cell? ⟨b,o,none⟩)/\(∀b o,b<W.heap.size->w1.frozen? ⟨b,o,none⟩=W.frozen? ⟨b,o,none⟩):=
 ⟨fun b o h=>hb.cell (p:=⟨b,o,none⟩) h,fun b o h=>hb.frozen (p:=⟨b,o,none⟩) h⟩
end Go.Proofs.YtdbejcbbhomdbaaGreatDoor
namespace Go.Proofs.YtdbejcbbhomdbaaGreatDoor
end Go.Proofs.YtdbejcbbhomdbaaGreatDoor
namespace Go.Proofs.YtdbejcbbhomdbaaGreatDoor
open Go Go.RowKit
theorem U3 {w:World} {B n c:Nat} {l:List (ByteArray×Val)} {a:Option Addr} (h:Ai w B (.row 7 (dO l)) [.slice a n c]) {q:Nat} {key:ByteArray} {k':Int} {b':Bool} {n':Int} {t':ByteArray} {l':List Val} {o':List (ByteArray×Val)} (hi:l[q]? =some (key,.mk k' b' n' t' l' o')):
 ∃g off,a=some ⟨g,off,none⟩/\g<B/\ ∃la lc oa oc,Ai w B (dV (.mk k' b' n' t' l' o')) [.int .i64 k',.bool b',.int .i64 n',.string t',.slice la l'.length lc,.slice oa o'.length oc]/\
  w.cell? ⟨g,off+q*7,none⟩=some (.string key)/\w.cell? ⟨g,off+q*7+1,none⟩=some (.int .i64 k')/\w.cell? ⟨g,off+q*7+2,none⟩=some (.bool b')/\
  w.cell? ⟨g,off+q*7+3,none⟩=some (.int .i64 n')/\w.cell? ⟨g,off+q*7+4,none⟩=some (.string t')/\w.cell? ⟨g,off+q*7+5,none⟩=some (.slice la l'.length lc)/\w.cell? ⟨g,off+q*7+6,none⟩=some (.slice oa o'.length oc):=by
 obtain⟨g,off,ea,hg,cs,h1,_,h3⟩:=h.at_ (i:=q) (d:=dP (key,.mk k' b' n' t' l' o')) (by rw[Bv,List.getElem?_map,hi];rfl);unfold dP at h1;simp only[Ai]at h1;obtain⟨_,_,rfl,⟨rfl,_⟩,cv,_,rfl,h4,rfl⟩:=h1;have h6:=Bj _ _ h4;simp only[Ae]at h6;obtain⟨la,lc,oa,oc,rfl,_,_⟩:=h6;exact⟨g,off,ea,hg,la,lc,oa,oc,h4,h3 0 _ rfl,h3 1 _ rfl,h3 2 _ rfl,h3 3 _ rfl,h3 4 _ rfl,h3 5 _ rfl,h3 6 _ rfl⟩
theorem Xw {key:ByteArray} {v:Val} (w:World) (B:Nat) (cs:List Value) (h:Ai w B (dP (key,v)) cs):cs[0]? =some (.string key):=by
 unfold dP at h;simp only[Ai]at h;obtain⟨_,_,rfl,⟨rfl,_⟩,_⟩:=h;rfl
theorem Aa6 {key:ByteArray} {v:Val} {w:World} {B:Nat} {u:Value} {cs:List Value} (h:Ai w B (dP (key,v)) (u::cs)):Ai w B (dV v) cs:=by
 unfold dP at h;simp only[Ai]at h;obtain⟨_,_,e,⟨rfl,_⟩,cv,_,rfl,h4,rfl⟩:=h;simp only[List.cons_append,List.nil_append,List.append_nil,List.cons.injEq]at e;rw[e.2];exact h4
section
variable {P:Program}
end
end Go.Proofs.YtdbejcbbhomdbaaGreatDoor
namespace Go.Proofs.YtdbejcbbhomdbaaGreatDoor
theorem Jk {α:Type} (p:α->Bool): ∀{l:List α},(l.Pairwise fun a b=>p a=true->p b=true)->l.countP (fun a=> !p a)=l.findIdx p
 | [],_=>by simp
 |x::r,h=>by
  obtain⟨h1,h2⟩:=List.pairwise_cons.1 h;rw[List.countP_cons,List.findIdx_cons,Jk p h2]
  cases hx:p x with
  |true=>
   have:r.findIdx p=0\/r= []:=by
    cases r with
    |nil=>exact .inr rfl
    |cons y s=>exact .inl (by rw[List.findIdx_cons,h1 y (by simp) hx];rfl)
   rcases this with e|e
   . simp[e]
   . subst e;simp
  |false=>simp
theorem I8 {α:Type} (l:List α) (f:α->Bool):(List.range l.length).countP (fun i=>(l[i]?.map f).getD false)=l.countP f:=by
 have h:(List.range l.length).map (fun i=>(l[i]?.map f).getD false)=l.map f:=by
  apply List.ext_getElem
  . simp
  . intro i h1 h2;simp at h1 h2;simp[h2]
 have e1:(List.range l.length).countP (fun i=>(l[i]?.map f).getD false)=((List.range l.length).map (fun i=>(l[i]?.map f).getD false)).countP id:=by rw[List.countP_map];rfl
 have e2:l.countP f=(l.map f).countP id:=by rw[List.countP_map];rfl
 rw[e1,e2,h]
theorem Us (k:ByteArray): ∀l:List A0,Ct k l=l.findIdx fun e=> !Bq e.1 k
 | []=>by simp[Ct]
 |(a,x)::r=>by
  rw[List.findIdx_cons];simp only[Ct];by_cases h:Bq a k=true
  . rw[if_pos h,h,Us k r];simp
  . rw[if_neg h];have:Bq a k=false:=by simpa using h
    rw[this];simp
theorem Xg {k:ByteArray} {l:List A0} (h:Bb l):l.Pairwise fun a b=>(!Bq a.1 k)=true->(!Bq b.1 k)=true:=by
 refine h.imp fun {a b} hab ha=> ?_
 cases hb:Bq b.1 k with
 |false=>rfl
 |true=>rw[A9 hab hb]at ha;exact ha
theorem Xt {k:ByteArray} {l:List A0} (h:Bb l):(List.range l.length).countP (fun i=>(l[i]?.map fun e=>Bq e.1 k).getD false)=Ct k l:=by
 rw[I8,Us,<-Jk _ (Xg h)]
 congr 1
 funext e
 simp
end Go.Proofs.YtdbejcbbhomdbaaGreatDoor
namespace Go.Proofs.YtdbejcbbhomdbaaGreatDoor
open Go Go.RowKit
section
variable {P:Program} {md:Region.Mode} {ops:Array Oper} {Q:Exit->Act->World->Prop} {S:World->Prop}
theorem tkN (i:Nat) {oi:Oper} {fuel:Nat} {listed:Array Bool} {a a':Act} {w:World} (hS:S w) (h:wpAnyH P md ops Q S fuel (listed.setIfInBounds i true) a' w)
 (hi:ops[i]? =some oi:=by rfl) (hs:Region.noSelect ops=true:=by kernel_rfl) (hf:Region.free md ops listed i=true:=by kernel_rfl) (hr:(Region.ready md ops listed).contains i=true:=by kernel_rfl)
 (hQ: ∀c a w,Q (.panic c) (a.put oi.dst undef) w->Q (.panic c) a w:=by exact fun _ _ _ h=>h) (hw:Region.wanted oi (yielded ops a.tmps)=false:=by kernel_rfl)
 (hn:a.put oi.dst undef=a':=by((try simp only[Act.put,tk1,tk2,tk3,tk4,tk5,tk6]);exact rfl)):wpAnyH P md ops Q S (fuel+1) listed a w:=
 wpAnyH_take hi hs hf hr hQ (Or.inr ⟨hw,rfl⟩) hS (hn▸h)
end
end Go.Proofs.YtdbejcbbhomdbaaGreatDoor
namespace Go.Proofs.YtdbejcbbhomdbaaGreatDoor
end Go.Proofs.YtdbejcbbhomdbaaGreatDoor
namespace Go.Proofs.YtdbejcbbhomdbaaGreatDoor
open Go.RowKit
def Pu:List Int:= [34,92,47,8,12,10,13,9]
structure KB (S:Nat->Prop) (w w':World):Prop where
 os:w'.os=w.os
 tape:w'.tape=w.tape
 output:w'.output=w.output
 size:w.heap.size<=w'.heap.size
 block: ∀k,k<w.heap.size-> ¬S k->w'.heap[k]? =w.heap[k]?
theorem KB.trans {S T:Nat->Prop} {w w1 w2:World} (h:KB S w w1) (h':KB T w1 w2) (hT: ∀k,k<w.heap.size->T k->S k):KB S w w2:=
 ⟨h'.os.trans h.os,h'.tape.trans h.tape,h'.output.trans h.output,Nat.le_trans h.size h'.size,fun k h1 h2=>(h'.block k (Nat.lt_of_lt_of_le h1 h.size) fun h3=>h2 (hT k h1 h3)).trans (h.block k h1 h2)⟩
theorem KB.of_below {S:Nat->Prop} {w w':World} (h:Below w.heap.size w w'):KB S w w':=⟨h.os,h.tape,h.output,h.size,fun k h1 _=>h.block k h1⟩
theorem KB.of_grown {S:Nat->Prop} {w w':World} {r:Option Nat} (h:w.grownBy w' r) (hr: ∀k,r=some k->S k):KB S w w':=⟨h.os,h.tape,h.output,h.size,fun k h1 h2=>h.block k h1 fun e=>h2 (hr k e.symm)⟩
theorem KB.set {S:Nat->Prop} (w:World) (p:Addr) (hp:S p.block) (v:Value):KB S w (w.setCell p v):=⟨rfl,rfl,rfl,by simp[World.setCell],fun k _ h2=>Below.heap_setCell _ _ _ _ (fun e=>h2 (e▸hp))⟩
theorem KB.below {S:Nat->Prop} {w w':World} {B:Nat} (h:KB S w w') (hS: ∀k,S k->B<=k) (hB:B<=w.heap.size):Below B w w':=⟨h.os,h.tape,h.output,h.size,fun k h1=>h.block k (Nat.lt_of_lt_of_le h1 hB) fun h2=>Nat.lt_irrefl _ (Nat.lt_of_lt_of_le h1 (hS k h2))⟩
theorem Ao.kb {S:Nat->Prop} {w w':World} {g:Nat} {t:TypeId} {cs:Array Value} (hx:Ao w g t cs) (h:KB S w w') (hn: ¬S g):Ao w' g t cs:=(h.block g hx.lt hn).trans hx
def Kt:ByteArray:=⟨#[]⟩
def Aca:Val:=.mk 1 false 0 Kt [] []
def Aan (b:Bool):Val:=.mk 2 b 0 Kt [] []
def Acz (n:Int):Val:=.mk 3 false n Kt [] []
def Add (l:List UInt8):Val:=.mk 4 false 0 ⟨l.toArray⟩ [] []
def Ab6 (l:List Val):Val:=.mk 5 false 0 Kt l []
def Acb (o:List (ByteArray×Val)):Val:=.mk 6 false 0 Kt [] o
def Rd.map {α β:Type} (g:α->β):Rd α->Rd β
 | .ok a q=> .ok (g a) q
 | .bad e q=> .bad e q
def Uk (s:List UInt8) (p:Nat) (w:List UInt8) (v:Val):Rd Val:=if w.isPrefixOf (s.drop p)=true then .ok v (p+w.length)else .bad 4 p
def Acg (l:List (ByteArray×Val)):List (ByteArray×Val):=(Cn l []).getD []
def Acw (k:ByteArray) (l:List (ByteArray×Val)):Bool:=l.any fun m=>decide (m.1=k)
def Aai (c:UInt8):Bool:=Uz c||c==45||c==34||c==91||c==123||c==110||c==116||c==102
mutual
def Ju:Nat->List UInt8->Nat->Int->Rd Val
 |0,s,p,_=> .bad 4 (Cg s p)
 |f+1,s,p,d=>match s[Cg s p]? with
  |none=> .bad 4 (Cg s p)
  |some c=>
   if Aai c=false then .bad 4 (Cg s p)
   else if 64<d then .bad 5 (Cg s p)
   else if c=91 then Ab5 f s (Cg s p) d
   else if c=123 then Ac9 f s (Cg s p) d
   else if c=34 then(Aaw s (Cg s p)).map Add
   else if c=110 then Uk s (Cg s p) [110,117,108,108] Aca
   else if c=116 then Uk s (Cg s p) [116,114,117,101] (Aan true)
   else if c=102 then Uk s (Cg s p) [102,97,108,115,101] (Aan false)
   else(Yu s (Cg s p)).map Acz
def Ab5:Nat->List UInt8->Nat->Int->Rd Val
 |0,s,p,_=> .bad 4 (Cg s (p+1))
 |f+1,s,p,d=>if s[Cg s (p+1)]? =some 93 then .ok (Ab6 []) (Cg s (p+1)+1)else Yg f s (Cg s (p+1)) d []
def Ac9:Nat->List UInt8->Nat->Int->Rd Val
 |0,s,p,_=> .bad 4 (Cg s (p+1))
 |f+1,s,p,d=>if s[Cg s (p+1)]? =some 125 then .ok (Acb []) (Cg s (p+1)+1)else R5 f s (Cg s (p+1)) d []
def Yg:Nat->List UInt8->Nat->Int->List Val->Rd Val
 |0,s,p,_,_=> .bad 4 (Cg s p)
 |f+1,s,p,d,acc=>match Ju f s p (d+1)with
  | .bad e q=> .bad e q
  | .ok v q=>if s[Cg s q]? =some 44 then Yg f s (Cg s q+1) d (acc++ [v])else if s[Cg s q]? =some 93 then .ok (Ab6 (acc++ [v])) (Cg s q+1)else .bad 4 (Cg s q)
def R5:Nat->List UInt8->Nat->Int->List (ByteArray×Val)->Rd Val
 |0,s,p,_,_=> .bad 4 (Cg s p)
 |f+1,s,p,d,acc=>match Aaw s (Cg s p)with
  | .bad e q=> .bad e q
  | .ok k q=>if Acw ⟨k.toArray⟩ acc=true then .bad 8 (Cg s p)
    else if s[Cg s q]? =some 58 then Z6 f s (Cg s q+1) d acc ⟨k.toArray⟩
    else .bad 4 (Cg s q)
def Z6:Nat->List UInt8->Nat->Int->List (ByteArray×Val)->ByteArray->Rd Val
 |0,s,p,_,_,_=> .bad 4 (Cg s p)
 |f+1,s,p,d,acc,k=>match Ju f s p (d+1)with
  | .bad e q=> .bad e q
  | .ok v q=>if s[Cg s q]? =some 44 then R5 f s (Cg s q+1) d (acc++ [(k,v)])else if s[Cg s q]? =some 125 then .ok (Acb (Acg (acc++ [(k,v)]))) (Cg s q+1)else .bad 4 (Cg s q)
end
theorem Rd.within.from {α:Type} {p p' n:Nat} {r:Rd α} (h:r.within p' n) (hp:p<=p'):r.within p n:=by
 cases r with
 |ok a q=>exact⟨by have:=h.1;omega,h.2⟩
 |bad e q=>exact⟨by have:=h.1;omega,h.2⟩
theorem Rd.within.map {α β:Type} {g:α->β} {p n:Nat} {r:Rd α} (h:r.within p n):(r.map g).within p n:=by
 cases r<;>exact h
end Go.Proofs.YtdbejcbbhomdbaaGreatDoor
