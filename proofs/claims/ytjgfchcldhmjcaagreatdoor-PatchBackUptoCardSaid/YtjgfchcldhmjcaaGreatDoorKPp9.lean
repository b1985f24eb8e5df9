/- Parts: utf: digit, unit, paired, refused. Condition: a text of at most 10^9 bytes. -/
import Derived.Test.YtjgfchcldhmjcaaGreatDoorKPp7
import Derived.Test.YtjgfchcldhmjcaaGreatDoorKPp8
set_option maxHeartbeats 20000000
set_option maxRecDepth 100000
namespace Go.Proofs.YtjgfchcldhmjcaaGreatDoor
open Go Go.RowKit
section
variable {P:Program} {md:Region.Mode} {ops:Array Oper} {Q:Exit->Act->World->Prop} {S:World->Prop}
theorem tkH (i:Nat) {oi:Oper} {v:Value} {fuel:Nat} {listed:Array Bool} {a a':Act} {w:World} (hS:S w) (h:wpAnyH P md ops Q S fuel (listed.setIfInBounds i true) a' w)
 (hi:ops[i]? =some oi:=by rfl) (hs:Region.noSelect ops=true:=by kernel_rfl) (hf:Region.free md ops listed i=true:=by kernel_rfl) (hr:(Region.ready md ops listed).contains i=true:=by kernel_rfl)
 (hQ: ∀c a w,Q (.panic c) (a.put oi.dst v) w->Q (.panic c) a w:=by exact fun _ _ _ h=>h) (hw:Region.wanted oi (yielded ops a.tmps)=true:=by kernel_rfl)
 (hy: ∀w,S w->(execOp a.eval oi).run P w=.ok (.value v) w:=by(intro X hSw;(repeat (obtain⟨_,hSw⟩:=hSw));first|(go_simp;done)|(go_simp;with_reducible rfl)))
 (hn:a.put oi.dst v=a':=by((try simp only[Act.put,List.getElem_toArray,List.getElem_cons_succ,List.getElem_cons_zero,List.setIfInBounds_toArray,List.set_cons_zero,List.set_cons_succ]);exact rfl)):wpAnyH P md ops Q S (fuel+1) listed a w:=
 wpAnyH_take hi hs hf hr hQ (Or.inl ⟨hw,hy⟩) hS (hn▸h)
theorem rd1 (i:Nat) {o:Oper} {fuel:Nat} {listed:Array Bool} {a:Act} {w:World}
 (h: ∀K':Act->World->Prop,Shut (∀a w,S w->(S w->wpAnyH P md ops Q S fuel (listed.setIfInBounds i true) a w)->K' a w)->if Region.wanted o (yielded ops a.tmps)=true then Oper.wp P o a w K' Q else K' (a.put o.dst undef) w)
 (hr:Region.ready md ops listed= [i]:=by kernel_rfl) (ho:ops[i]? =some o:=by rfl):wpAnyH P md ops Q S (fuel+1) listed a w:=
 wpAnyH_ready hr (by simp) (AllReadyH.cons ho h AllReadyH.nil)
end
end Go.Proofs.YtjgfchcldhmjcaaGreatDoor
namespace Go.Proofs.YtjgfchcldhmjcaaGreatDoor
abbrev Cq:=ByteArray×Val
inductive Nd where
 |leaf (es:List Cq)
 |inner (ks:List Nd)
theorem Nd.ind {p:Nd->Prop} (h0: ∀c,p (.leaf c)) (e: ∀ks,(∀k ∈ ks,p k)->p (.inner ks)): ∀n,p n:=by
 intro n;refine Nd.rec (motive_1:=p) (motive_2:=fun l=> ∀d ∈ l,p d) h0 e ?_ ?_ n
 . intro d a
   cases a
 . intro d r a f x b;rcases List.mem_cons.1 b with rfl|b
   . exact a
   . exact f x b
mutual
def On:Nd->List Cq
 | .leaf es=>es
 | .inner ks=>B9 ks
def B9:List Nd->List Cq
 | []=> []
 |k::r=>On k++B9 r
end
def Dz (k:ByteArray) (v:Val):List Cq->List Cq
 | []=> [(k,v)]
 |(a,x)::r=>if Er a k then(a,x)::Dz k v r else if a=k then(k,v)::r else(k,v)::(a,x)::r
theorem Pj {k:ByteArray} {v:Val}: ∀(l:List Cq),(Dz k v l).length<=l.length+1/\0<(Dz k v l).length
 | []=>by simp[Dz]
 |(a,x)::r=>by
  simp only[Dz];have d:=Pj (k:=k) (v:=v) r;by_cases b:Er a k=true
  . rw[if_pos b];simp;omega
  . rw[if_neg b];by_cases c:a=k
    . rw[if_pos c];simp
    . rw[if_neg c];simp
theorem Aaw {k:ByteArray} {v:Val}: ∀{l:List Cq} {e:Cq},e ∈ Dz k v l->e=(k,v)\/e ∈ l
 | [],e,h=>by simp[Dz]at h;exact .inl h
 |(a,x)::r,e,h=>by
  simp only[Dz]at h;by_cases b:Er a k=true
  . rw[if_pos b]at h;rcases List.mem_cons.1 h with rfl|h
    . exact .inr (by simp)
    . rcases Aaw h with h|h
      . exact .inl h
      . exact .inr (List.mem_cons_of_mem _ h)
  . rw[if_neg b]at h;by_cases c:a=k
    . rw[if_pos c]at h;rcases List.mem_cons.1 h with h|h
      . exact .inl h
      . exact .inr (List.mem_cons_of_mem _ h)
    . rw[if_neg c]at h;rcases List.mem_cons.1 h with h|h
      . exact .inl h
      . exact .inr h
theorem Tz {k:ByteArray} {v:Val}: ∀{l:List Cq},Dg l->Dg (Dz k v l)
 | [],_=>by simp[Dz,Dg]
 |(a,x)::r,h=>by
  obtain⟨d,i⟩:=List.pairwise_cons.1 h;simp only[Dz];by_cases b:Er a k=true
  . rw[if_pos b];refine List.pairwise_cons.2 ⟨fun e f=> ?_,Tz i⟩;rcases Aaw f with rfl|f
    . exact b
    . exact d e f
  . rw[if_neg b];by_cases e:a=k
    . subst e;rw[if_pos rfl];exact List.pairwise_cons.2 ⟨d,i⟩
    . rw[if_neg e];have c:Er k a=true:=by
       rcases Kb a k with h|h|h
       . exact absurd h b
       . exact absurd h e
       . exact h
      refine List.pairwise_cons.2 ⟨fun y g=> ?_,h⟩;rcases List.mem_cons.1 g with rfl|g
      . exact c
      . exact Dq c (d y g)
def okN:Nat->Nat->Nd->Prop
 |lo,0,.leaf es=>lo<=es.length/\es.length<=8
 |lo,h+1,.inner ks=>lo<=ks.length/\ks.length<=8/\ ∀k ∈ ks,okN 4 h k
 |_,_,_=>False
theorem Ajh: ∀{h:Nat} {n:Nd} {lo:Nat},0<lo->okN lo h n->On n≠ []
 |0,.leaf es,_,h0,h=>by
  intro e;have a:=h.1;have:es= []:=e;rw[this]at a;simp at a;omega
 |0,.inner ks,_,_,h=>absurd h (by simp[okN])
 |h+1,.leaf es,_,_,hn=>absurd hn (by simp[okN])
 |h+1,.inner ks,_,h0,hn=>by
  simp only[okN]at hn;obtain⟨a,_,b⟩:=hn
  match ks,a with
  | [],a=>simp at a;omega
  |x::r,_=>
   have:=Ajh (by omega) (b x (by simp));simp only[On,B9];intro e;exact this (List.append_eq_nil_iff.1 e).1
def Cu (n:Nd):ByteArray:=((On n).head?.map (·.1)).getD ByteArray.empty
theorem Afw {n:Nd} (h:On n≠ []): ∃x r,On n=(Cu n,x)::r:=by
 unfold Cu
 match hn:On n,h with
 |(a,x)::r,_=>exact⟨x,r,rfl⟩
def J1 (l:List Cq):Nd×Option Nd:=if l.length<=8 then(.leaf l,none)else(.leaf (l.take 4),some (.leaf (l.drop 4)))
def Lc:Option (Nat×Nd)->List Cq
 |none=> []
 |some (_,n)=>On n
def Qh (h:Nat):Nat:=if h=0 then 1 else 2
def okT:Option (Nat×Nd)->Prop
 |none=>True
 |some (h,n)=>okN (Qh h) h n/\Dg (On n)
theorem Agt (h:Nat):Qh h<=2/\0<Qh h/\(0<h->2<=Qh h):=by
 unfold Qh;by_cases e:h=0
 . rw[if_pos e];omega
 . rw[if_neg e];omega
def Adw:Nd->Nat
 | .leaf es=>es.length
 | .inner ks=>ks.length
mutual
def Tf:Nd->Nat
 | .leaf _=>0
 | .inner ks=>htL ks+1
def htL:List Nd->Nat
 | []=>0
 |k::_=>Tf k
end
end Go.Proofs.YtjgfchcldhmjcaaGreatDoor
namespace Go.Proofs.YtjgfchcldhmjcaaGreatDoor
open Go Go.RowKit
abbrev Al:Array Value:= #[.int .i64 0,.bool false,.int .i64 0,.string ⟨#[]⟩,.slice none 0 0,.slice none 0 0]
theorem Dc {B:Nat} {w4:World} {k:Int} {b:Bool} {n:Int} {t:ByteArray} {l:List Val} {o:List (ByteArray×Val)} {cs:List Value} (h:A7 B w4 (dV (.mk k b n t l o)) cs): ∃a c d oc,cs= [.int .i64 k,.bool b,.int .i64 n,.string t,.slice a l.length c,.slice d o.length oc]:=by
 have f:=Be _ _ h.now;simp only[Ab]at f;obtain⟨a,c,d,oc,e,_,_⟩:=f;exact⟨a,c,d,oc,e⟩
theorem At {w:World} {g:Nat} {t:TypeId} {a a1 b c d e:Value} (h:Ap w g t #[a,a1,b,c,d,e]):
 w.cell? ⟨g,0,none⟩=some a/\w.cell? ⟨g,1,none⟩=some a1/\w.cell? ⟨g,2,none⟩=some b/\w.cell? ⟨g,3,none⟩=some c/\w.cell? ⟨g,4,none⟩=some d/\w.cell? ⟨g,5,none⟩=some e:=
 ⟨h.cell 0,h.cell 1,h.cell 2,h.cell 3,h.cell 4,h.cell 5⟩
theorem Js {B:Nat} {w:World} {key:ByteArray} {v:Val} {cs:List Value} (h:A7 B w (dV v) cs):A7 B w (dP (key,v)) (.string key::cs):=fun a b c=>⟨[.string key],cs,rfl,⟨rfl,rfl⟩,cs, [],by simp,h a b c,rfl⟩
theorem Pc:(Tryz.prog.info? 111).map (fun i=>(i.zero,i.size,i.bytes))=some (some (.agg #[.string ⟨#[]⟩,.int .i64 0,.bool false,.int .i64 0,.string ⟨#[]⟩,.slice none 0 0,.slice none 0 0]),7,104):=by kernel_rfl
theorem Br {fn:Func} {t:Tmp} {tmps:Array Value} {W:World} {R:Nat} {b a1 c d e f:Value} (h:fn.results= #[.cell t 42]) (i:tmps.getD t undef=.pointer (some ⟨R,0,none⟩)) (g:Ap W R 42 #[b,a1,c,d,e,f]):
 (results fn tmps).run Tryz.prog W=.ok (.agg #[b,a1,c,d,e,f]) W:=by
 obtain⟨c0,c1,c2,c3,c4,c5⟩:=At g;clear g;have a:tmps[t]?.getD undef=.pointer (some ⟨R,0,none⟩):=by simpa using i
 simp[results,h,a,go_sem,c0,c1,c2,c3,c4,c5]
theorem C3.slice_n {b:Nat} {t:TypeId} {s n:Nat} {wr:World} {l:List D} {V:Value} (h:C3 b t s wr l V) (d:l.length=n): ∃a c,V=.slice a n c:=by
 subst d;exact h.slice
theorem C8 {w w6:World} {R b:Nat} {t e:TypeId} {d:Nat} {l:List D} {V:Value} {cs:Array Value} {wr:World} (h:Ap w R t cs) (a:w.grownBy w6 V.ownBlock) (c:C3 b e d wr l V) (f:R<b):Ap w6 R t cs:=
 h.grown a fun e=>by have:=(c.base R e.symm).1;omega
theorem Jk {w w6:World} {B b:Nat} {e:TypeId} {i:Nat} {l:List D} {V:Value} {w0 wr:World} (h:Below B w0 w) (d:w.grownBy w6 V.ownBlock) (g:C3 b e i wr l V) (c:B<=b) (a:B<=w.heap.size):Below B w0 w6:=
 h.grown d a fun k f=>Nat.le_trans c (g.base k f).1
theorem Fr (w:World) (a a1 b c d e f:Value):Bt (w.alloc (.cells #[a,a1,b,c,d,e,f] 111)) (w.heap.size+1) 7 (some ⟨w.heap.size,0,none⟩) 1 [a,a1,b,c,d,e,f]:=Ib (Ap.new w 111 #[a,a1,b,c,d,e,f])
theorem Ui:(Tryz.prog.info? 42).map (fun i=>(i.zero,i.size,i.bytes))=some (some (.agg #[.int .i64 0,.bool false,.int .i64 0,.string ⟨#[]⟩,.slice none 0 0,.slice none 0 0]),6,88):=by kernel_rfl
theorem Kr (w:World) (a a1 b c d e:Value):Bt (w.alloc (.cells #[a,a1,b,c,d,e] 42)) (w.heap.size+1) 6 (some ⟨w.heap.size,0,none⟩) 1 [a,a1,b,c,d,e]:=Ib (Ap.new w 42 #[a,a1,b,c,d,e])
theorem B3 {fn:Func} {t u:Tmp} {tmps:Array Value} {W:World} {R:Nat} {b a1 c d e f:Value} (h:fn.results= #[.cell t 42,.tmp u]) (i:tmps.getD t undef=.pointer (some ⟨R,0,none⟩)) (g:Ap W R 42 #[b,a1,c,d,e,f]):
 (results fn tmps).run Tryz.prog W=.ok (.tuple #[.agg #[b,a1,c,d,e,f],tmps.getD u undef]) W:=by
 obtain⟨c0,c1,c2,c3,c4,c5⟩:=At g;clear g;have a:tmps[t]?.getD undef=.pointer (some ⟨R,0,none⟩):=by simpa using i
 simp[results,h,a,go_sem,c0,c1,c2,c3,c4,c5]
theorem Ae {fn:Func} {t u i:Tmp} {tmps:Array Value} {W:World} {R:Nat} {b a1 c d e f:Value} (h:fn.results= #[.cell t 42,.tmp u,.tmp i]) (j:tmps.getD t undef=.pointer (some ⟨R,0,none⟩)) (g:Ap W R 42 #[b,a1,c,d,e,f]):
 (results fn tmps).run Tryz.prog W=.ok (.tuple #[.agg #[b,a1,c,d,e,f],tmps.getD u undef,tmps.getD i undef]) W:=by
 obtain⟨c0,c1,c2,c3,c4,c5⟩:=At g;clear g;have a:tmps[t]?.getD undef=.pointer (some ⟨R,0,none⟩):=by simpa using j
 simp[results,h,a,go_sem,c0,c1,c2,c3,c4,c5]
abbrev Yv:TypeId:=367
def dPt (b:Nat):D:=.leaf (.pointer (some ⟨b,0,none⟩))
def Im (l:List Nat):List D:=l.map dPt
theorem O1 (l:List Nat):(Im l).length=l.length:=List.length_map ..
def Ez (n:Nd):ByteArray:=((On n).getLast?.map (·.1)).getD ByteArray.empty
mutual
def Ct (w:World) (B:Nat):Nd->Nat->Prop
 | .leaf es,b=>b<B/\ ∃a c,Ag w B (.row 7 (dO es)) [.slice a es.length c]/\
    Ap w b Yv #[.slice a es.length c,.slice none 0 0,.int .i64 0,.int .i64 es.length,.string (Cu (.leaf es)),.string (Ez (.leaf es)),.bool false]
 | .inner ks,b=>b<B/\ ∃bs a c,Ag w B (.row 1 (Im bs)) [.slice a ks.length c]/\
    Ap w b Yv #[.slice none 0 0,.slice a ks.length c,.int .i64 (Tf (.inner ks)),.int .i64 (B9 ks).length,.string (Cu (.inner ks)),.string (Ez (.inner ks)),.bool false]/\Az w B ks bs
def Az (w:World) (B:Nat):List Nd->List Nat->Prop
 | [],bs=>bs= []
 |k::r,bs=> ∃b t,bs=b::t/\Ct w B k b/\Az w B r t
end
theorem Az.imp {w w':World} {B B':Nat}: ∀{ks:List Nd},(∀k ∈ ks,∀b,Ct w B k b->Ct w' B' k b)-> ∀{bs},Az w B ks bs->Az w' B' ks bs
 | [],_,_,h=>h
 |k::r,ih,bs,h=>by
  simp only[Az]at h ⊢;obtain⟨b,t,e,a,c⟩:=h;exact⟨b,t,e,ih k (by simp) b a,Az.imp (fun x d=>ih x (by simp[d])) c⟩
theorem Ct.imp {w w':World} {B B':Nat} (l:B<=B') (d: ∀i,i<B->w'.heap[i]? =w.heap[i]?): ∀{n:Nd} {b:Nat},Ct w B n b->Ct w' B' n b:=by
 intro n;refine Nd.ind (p:=fun n=> ∀{b:Nat},Ct w B n b->Ct w' B' n b) ?_ ?_ n
 . intro s b h;simp only[Ct]at h ⊢;obtain⟨h0,a,c,e,f⟩:=h;exact⟨by omega,a,c,e.imp l fun p j=>World.cell?_of_block (d p.block j),(d b h0).trans f⟩
 . intro ks r b h;simp only[Ct]at h ⊢;obtain⟨h0,m,a,c,e,f,o⟩:=h;exact⟨by omega,m,a,c,e.imp l fun p j=>World.cell?_of_block (d p.block j),(d b h0).trans f,Az.imp (fun k g _ q=>r k g q) o⟩
theorem Ct.below {w w':World} {B:Nat} {n:Nd} {b:Nat} (h:Ct w B n b) (a:Below B w w'):Ct w' B n b:=h.imp (Nat.le_refl _) fun i c=>a.block i c
theorem Ct.more {w:World} {B B':Nat} {n:Nd} {b:Nat} (h:Ct w B n b) (a:B<=B'):Ct w B' n b:=h.imp a fun _ _=>rfl
theorem Ct.later {w w':World} {n:Nd} {b:Nat} (h:Ct w w.heap.size n b) (a:Below w.heap.size w w'):Ct w' w'.heap.size n b:=(h.below a).more a.size
theorem Az.below {w w':World} {B:Nat} {ks:List Nd} {a:List Nat} (h:Az w B ks a) (b:Below B w w'):Az w' B ks a:=Az.imp (fun _ _ _ h=>h.below b) h
theorem Az.more {w:World} {B B':Nat} {ks:List Nd} {a:List Nat} (h:Az w B ks a) (b:B<=B'):Az w B' ks a:=Az.imp (fun _ _ _ h=>h.more b) h
theorem Az.later {w w':World} {ks:List Nd} {a:List Nat} (h:Az w w.heap.size ks a) (b:Below w.heap.size w w'):Az w' w'.heap.size ks a:=(h.below b).more b.size
theorem Ct.lt {w:World} {B:Nat} {n:Nd} {b:Nat} (h:Ct w B n b):b<B:=by
 cases n<;>(simp only[Ct]at h;exact h.1)
theorem Az.len {w:World} {B:Nat}: ∀{ks:List Nd} {bs:List Nat},Az w B ks bs->bs.length=ks.length
 | [],bs,h=>by
   simp only[Az]at h;rw[h];rfl
 |k::r,bs,h=>by
  simp only[Az]at h;obtain⟨b,t,rfl,_,a⟩:=h;simp[Az.len a]
theorem Az.at_ {w:World} {B:Nat}: ∀{ks:List Nd} {bs:List Nat},Az w B ks bs-> ∀{i:Nat} {k:Nd},ks[i]? =some k-> ∃b,bs[i]? =some b/\Ct w B k b
 | [],bs,h,i,k,hi=>by simp at hi
 |x::r,bs,h,i,k,hi=>by
  simp only[Az]at h;obtain⟨b,t,rfl,a,c⟩:=h
  cases i with
  |zero=>
   simp only[List.getElem?_cons_zero,Option.some.injEq]at hi;subst hi;exact⟨b,rfl,a⟩
  |succ i=>
   simp only[List.getElem?_cons_succ]at hi ⊢;exact Az.at_ c hi
theorem Az.app {w:World} {B:Nat}: ∀{ks ks':List Nd} {bs bs':List Nat},Az w B ks bs->Az w B ks' bs'->Az w B (ks++ks') (bs++bs')
 | [],ks',bs,bs',h,h'=>by
   simp only[Az]at h;subst h;exact h'
 |k::r,ks',bs,bs',h,h'=>by
  simp only[Az]at h;obtain⟨b,t,rfl,a,c⟩:=h;simp only[List.cons_append,Az];exact⟨b,t++bs',rfl,a,Az.app c h'⟩
theorem Az.one {w:World} {B:Nat} {k:Nd} {b:Nat} (h:Ct w B k b):Az w B [k] [b]:=by
 simp only[Az];exact⟨b, [],rfl,h,rfl⟩
theorem Az.split {w:World} {B:Nat}: ∀{ks:List Nd} {bs:List Nat} (i:Nat),Az w B ks bs->Az w B (ks.take i) (bs.take i)/\Az w B (ks.drop i) (bs.drop i)
 | [],bs,i,h=>by
   simp only[Az]at h;subst h;simp[Az]
 |k::r,bs,0,h=>by
  simp only[List.take_zero,List.drop_zero];exact⟨by simp only[Az],h⟩
 |k::r,bs,i+1,h=>by
  simp only[Az]at h;obtain⟨b,t,rfl,c,d⟩:=h;obtain⟨a1,a⟩:=Az.split i d;simp only[List.take_succ_cons,List.drop_succ_cons,Az];exact⟨⟨b,t.take i,rfl,c,a1⟩,a⟩
theorem Az.set {w:World} {B:Nat}: ∀{ks:List Nd} {bs:List Nat} (i:Nat) {k:Nd} {b:Nat},Az w B ks bs->Ct w B k b->Az w B (ks.set i k) (bs.set i b)
 | [],bs,i,k,b,h,_=>by
   simp only[Az]at h;subst h;simp[Az]
 |x::r,bs,0,k,b,h,hk=>by
  simp only[Az]at h;obtain⟨b',t,rfl,c,a⟩:=h;simp only[tk5,Az];exact⟨b,t,rfl,hk,a⟩
 |x::r,bs,i+1,k,b,h,hk=>by
  simp only[Az]at h;obtain⟨b',t,rfl,c,a⟩:=h;simp only[tk6,Az];exact⟨b',t.set i b,rfl,c,Az.set i a hk⟩
def W7 (w:World) (B:Nat):Option (Nat×Nd)->Option Addr->Prop
 |none,p=>p=none
 |some (_,n),p=> ∃b,p=some ⟨b,0,none⟩/\Ct w B n b
theorem W7.below {w w':World} {B:Nat} {t:Option (Nat×Nd)} {p:Option Addr} (h:W7 w B t p) (c:Below B w w'):W7 w' B t p:=by
 cases t with
 |none=>exact h
 |some t=>
  obtain⟨b,e,a⟩:=h;exact⟨b,e,a.below c⟩
theorem W7.more {w:World} {B B':Nat} {t:Option (Nat×Nd)} {p:Option Addr} (h:W7 w B t p) (c:B<=B'):W7 w B' t p:=by
 cases t with
 |none=>exact h
 |some t=>
  obtain⟨b,e,a⟩:=h;exact⟨b,e,a.more c⟩
theorem W7.later {w w':World} {t:Option (Nat×Nd)} {p:Option Addr} (h:W7 w w.heap.size t p) (a:Below w.heap.size w w'):W7 w' w'.heap.size t p:=(h.below a).more a.size
theorem Ct.blk {w:World} {B:Nat} {n:Nd} {b:Nat} (h:Ct w B n b): ∃g e i j f k,Ap w b Yv #[.slice g e i,.slice j f k,.int .i64 (Tf n),.int .i64 (On n).length,.string (Cu n),.string (Ez n),.bool false]/\e+f=Adw n:=by
 cases n with
 |leaf es=>
  simp only[Ct]at h;obtain⟨_,a,c,_,d⟩:=h;exact⟨a,es.length,c,none,0,0,by simpa[Tf,On]using d,by simp[Adw]⟩
 |inner ks=>
  simp only[Ct]at h;obtain⟨_,l,a,c,_,d,_⟩:=h;exact⟨none,0,0,a,ks.length,c,by simpa[On]using d,by simp[Adw]⟩
theorem Ki {w:World} {B:Nat} {n:Nd} {b:Nat} (h:Ct w B n b):Calls Tryz.prog 219 #[.pointer (some ⟨b,0,none⟩)] w fun e w'=>e=.returned (.int .i64 (Tf n))/\w=w':=by
 obtain⟨c,f,d,i,k,j,a,_⟩:=h.blk;have c2:=a.cell 2;have g:=a.lt;clear a h;go_enter Tryz.func219,Tryz.ntmps219;go_wp2;go_ret;exact⟨rfl,rfl⟩
theorem Aaf (w:World):Calls Tryz.prog 219 #[.pointer none] w fun e w'=>e=.returned (.int .i64 0)/\w=w':=by
 go_enter Tryz.func219,Tryz.ntmps219;go_wp2;go_ret;exact⟨rfl,rfl⟩
theorem X0 {w:World} {B:Nat} {n:Nd} {b:Nat} (h:Ct w B n b):Calls Tryz.prog 282 #[.pointer (some ⟨b,0,none⟩)] w fun e w'=>e=.returned (.string (Cu n))/\w=w':=by
 obtain⟨c,f,d,i,k,j,a,_⟩:=h.blk;have c4:=a.cell 4;have g:=a.lt;clear a h;go_enter Tryz.func282,Tryz.ntmps282;go_wp2;go_ret;exact⟨rfl,rfl⟩
theorem Aag {w:World} {B:Nat} {n:Nd} {b:Nat} (h:Ct w B n b):Calls Tryz.prog 283 #[.pointer (some ⟨b,0,none⟩)] w fun e w'=>e=.returned (.string (Ez n))/\w=w':=by
 obtain⟨c,f,d,i,k,j,a,_⟩:=h.blk;have c5:=a.cell 5;have g:=a.lt;clear a h;go_enter Tryz.func283,Tryz.ntmps283;go_wp2;go_ret;exact⟨rfl,rfl⟩
theorem Mh {l:List UInt8} (h:l≠ []) (f p:Nat):
 ((Gc l).2=0/\Au (f+1) l p= [])\/(∃n r:Nat,Gc l=((r:Int),(n:Int))/\1<=n/\n<=l.length/\Au (f+1) l p=(p,r)::Au f (l.drop n) (p+n)):=by
 have a:=K4 l h;unfold I0 at a;by_cases b:(Lib.decodeL l).1=65533/\(Lib.decodeL l).2=1
 . rw[if_pos b]at a;rw[a];refine .inl ⟨rfl, ?_⟩;simp only[Au];rw[if_neg h,if_pos b]
 . rw[if_neg b]at a;have c:=Lib.decodeL_width l;refine .inr ⟨(Lib.decodeL l).2,(Lib.decodeL l).1,a,c,Lib.decodeL_le l h, ?_⟩;simp only[Au];rw[if_neg h,if_neg b]
def Lo (v1 v2:Value):Prop:= ∀g,v1.ownBlock=some g->v2.ownBlock≠some g
theorem Lo.ne {v1 a:Value} (h:Lo v1 a):v1.ownBlock=none\/v1.ownBlock≠a.ownBlock:=by
 cases e:v1.ownBlock with
 |none=>exact .inl rfl
 |some g=>exact .inr fun b=>h g e (by rw[<-b])
theorem Lo.symm {v1 a:Value} (h:Lo v1 a):Lo a v1:=fun g e b=>h g b e
theorem Lo.step {v1 a d:Value} {w:World} {B n N:Nat} {e:TypeId} {size:Nat} {xs:List Value} (h:Lo v1 d) (i:w.ownsRow B e size d n xs) (b:a.ownBlock=v1.ownBlock\/a.ownBlock=some N) (hN:w.heap.size<=N):Lo a d:=by
 intro g c f;rcases b with b|b
 . exact h g (by rw[<-b];exact c) f
 . rw[b]at c;obtain rfl:=Option.some.inj c;have:=(i.lt _ f).2;omega
theorem Air:(Tryz.prog.info? 3).map (fun i=>(i.zero,i.size,i.bytes))=some (some (.int .i64 0),1,8):=by kernel_rfl
set_option maxRecDepth 20000 in
theorem W6 (s:ByteArray) (w:World) (hs:s.size<=1000000000):
 Calls Tryz.prog 192 #[.string s] w fun e w'=>(∃v1 Y,e=.returned (.tuple #[v1,Y])/\w'.ownsRow w.heap.size 3 1 v1 (Bw s).length ((Bw s).map fun x=>Value.int .i64 x.2))/\Below w.heap.size w w':=by
 obtain⟨i0,hi,U,V,W⟩:=info_parts Air;obtain⟨Z,M,N,O⟩:=hid4 hi U V W;clear hi U V W;have d:Hid (w.ownsRow w.heap.size 3 1 (.slice none 0 0) 0 []):=World.ownsRow_nil _ _ _ _;have z:Hid (Lo (.slice none 0 0) (.slice none 0 0)):=qz (fun g e=>by simp[Value.ownBlock]at e);go_enter Tryz.func192,Tryz.ntmps192;go_wp2;go_loopw [4,5,6] (fun v1 Y i wr=> ∃(pre:List (Nat×Nat)) (f k:Nat),i=.int .i64 k/\k<=s.size/\s.size - k<=f/\Hid (Bw s=pre++Au f (s.data.toList.drop k) k)/\pre.length<=k/\
  Hid (wr.ownsRow w.heap.size 3 1 v1 pre.length (pre.map fun x=>Value.int .i64 x.2))/\Hid (wr.ownsRow w.heap.size 3 1 Y pre.length (pre.map fun x=>Value.int .i64 x.1))/\Hid (Lo v1 Y)/\Hid (Below w.heap.size w wr)) (fun _ _ i _=>s.size - (intOf i).toNat)
 case atStart=>exact⟨[],s.size,0,rfl,Nat.zero_le _,by omega,rfl,Nat.le_refl _,d,d,z,Below.refl _ _⟩
 case round=>
  obtain⟨pre,f,k,rfl,X,hf,J,ab,o,H,D,l⟩:=hrel;clear d z;by_cases aa:k<s.size
  . have F:s.data.toList.drop k≠ []:=by
     intro e;have:=congrArg List.length e;rw[List.length_drop,<-Lib.size_eq]at this;simp at this;omega
    obtain⟨f,rfl⟩: ∃f',f=f'+1:=⟨f - 1,by omega⟩;have C:=Si s k wr (by omega) (by omega);rcases Mh F f k with⟨h0,hv⟩|⟨n,r,hn,hn1,hn2,hv⟩
    . have a:=J.out;rw[hv,List.append_nil]at a;rw[h0]at C;generalize (Gc (s.data.toList.drop k)).1=R at C;obtain⟨K,L⟩:=hid2 C a;clear C h0 hv F J a;go_wp2_with (fail);(with_reducible refine K.out.mono ?_);rintro e w' ⟨rfl,rfl⟩;clear K;go_wp2;go_ret2;exact⟨⟨u4,u5,rfl,by rw[L.out];exact o.out⟩,l.out⟩
    . have a:=J.out;rw[hv,List.drop_drop]at a;rw[hn]at C;rw[List.length_drop,<-Lib.size_eq]at hn2;obtain⟨K,L⟩:=hid2 C a;have P:w.heap.size<=wr.heap.size:=l.out.size;clear C hn hv F J a;have e0:((n:Int)==0)=false:=by simp;omega
      go_wp2_with (fail);(with_reducible refine K.out.mono ?_);rintro e w' ⟨rfl,rfl⟩;clear K;go_wp2_with (at_builtin;refine wpList_append_own_at _ rfl (.tmp 21) (.tmp 23) 277 rfl w.heap.size 3 i0 (.int .i64 0) 1 8 Tryz.underlying277 Z.out M.out N.out O.out rfl (by decide) u4 pre.length _ rfl (o.out.alloc _) ⟨wr.heap.size,0,none⟩ 1 1 [.int .i64 r] rfl rfl ?c1 ?c2 ?c3 ?c4 ?c5 ?_)
      case c1=>
       intro j u y
       match j,y with
       |0,y=>simp at y;subst y;simp[Addr.add]
      case c2=>intro u T;simp at T;subst T;rfl
      case c3=>unfold maxLen;omega
      case c4=>omega
      case c5=>simp;omega
      intro ac w2 t b _ A;have p:=qz t;have q:=qz ((H.out.alloc (.cells #[.int .i64 r] 3)).kept b D.out.symm.ne);have h:=qz (Lo.step D.out H.out A (by omega));have m:=qz ((l.out.alloc P (.cells #[.int .i64 r] 3)).grown b (by simp;omega) (fun k X=>(o.out.lt k X).1));have Q:w.heap.size<=w2.heap.size:=m.out.size;clear t b A o H D l P;go_wp2_with (at_builtin;refine wpList_append_own_at _ rfl (.tmp 25) (.tmp 27) 277 rfl w.heap.size 3 i0 (.int .i64 0) 1 8 Tryz.underlying277 Z.out M.out N.out O.out rfl (by decide) u5 pre.length _ rfl (q.out.alloc _) ⟨w2.heap.size,0,none⟩ 1 1 [.int .i64 k] rfl rfl ?d1 ?d2 ?d3 ?d4 ?d5 ?_)
      case d1=>
       intro j u y
       match j,y with
       |0,y=>simp at y;subst y;simp[Addr.add]
      case d2=>intro u T;simp at T;subst T;rfl
      case d3=>unfold maxLen;omega
      case d4=>omega
      case d5=>simp;omega
      intro ad w3 v c _ B;have I:=qz v;have G:=qz ((p.out.alloc (.cells #[.int .i64 k] 3)).kept c h.out.ne);have E:=qz (Lo.step h.out.symm p.out B (by omega)).symm;have S:=qz ((m.out.alloc Q (.cells #[.int .i64 k] 3)).grown c (by simp;omega) (fun k X=>(q.out.lt k X).1));clear v c B p q h m Q;go_wp2;go_roundw
      case rel=>exact⟨pre++ [(k,r)],f,k+n,by go_num,by omega,by omega,qz (by rw[List.append_assoc];exact L.out),by simp;omega,qz (by rw[List.length_append,List.map_append];exact G.out),qz (by rw[List.length_append,List.map_append];exact I.out),E,S⟩
      case measure=>simp only[intOf];omega
  . obtain rfl:k=s.size:=by omega
    have a:=J.out;have e:Au f (s.data.toList.drop s.size) s.size= []:=by
     rw[List.drop_eq_nil_of_le (by rw[<-Lib.size_eq];omega)]
     cases f<;>simp[Au]
    rw[e,List.append_nil]at a;have L:=qz a;clear J a e;go_wp2;go_ret2;exact⟨⟨u4,u5,rfl,by rw[L.out];exact o.out⟩,l.out⟩
def Gy:List Int:= [34,92,47,8,12,10,13,9]
theorem Qr (k:Nat) (c:Int) (h:Gy[k]? =some c) (w:World):
 Calls Tryz.prog 193 #[.int .i64 k] w fun e w'=>e=.returned (.int .i64 c)/\Below w.heap.size w w':=by
 have a:k<8:=(List.getElem?_eq_some_iff.1 h).1;rcases(by omega:k=0\/k=1\/k=2\/k=3\/k=4\/k=5\/k=6\/k=7)with rfl|rfl|rfl|rfl|rfl|rfl|rfl|rfl
 all_goals
  (obtain rfl:=Option.some.inj h
   clear h a;go_enter Tryz.func193,Tryz.ntmps193;go_wp2;go_ret;exact⟨rfl,(Below.refl _ _).alloc (Nat.le_refl _) _⟩)
def Gg:List UInt8:= [34,92,47,98,102,110,114,116]
theorem U5: ∀j:Fin 8,j.val≠2->Ao ((Gy.getD j.val 0).toNat)= [92,Gg.getD j.val 0]:=by decide
def Qq (r:Nat) (j:Nat):Prop:= ∀i:Nat,i<j->i≠2->Gy.getD i 0≠(r:Int)
theorem Qq.all {r:Nat} (h:Qq r 8):r≠34/\r≠92/\r≠8/\r≠12/\r≠10/\r≠13/\r≠9:=by
 have h0:=h 0 (by omega) (by omega);have a:=h 1 (by omega) (by omega);have b:=h 3 (by omega) (by omega);have c:=h 4 (by omega) (by omega);have d:=h 5 (by omega) (by omega);have e:=h 6 (by omega) (by omega);have f:=h 7 (by omega) (by omega);simp[Gy]at h0 a b c d e f;omega
theorem Ya {r:Nat} (h:Qq r 8):Ao r=if r<32 then [92,117,48,48,Ld (r / 16),Ld (r % 16)]else Lib.encodeRune r:=by
 obtain⟨a1,b,c,d,e,f,g⟩:=h.all;unfold Ao;by_cases a:r<32
 . rw[if_neg (by omega),if_pos a];have:Dy (r:Int) Bn=none:=by
    simp only[Bn,Dy]
    repeat rw[if_neg (by omega)]
   rw[this]
 . rw[if_pos (by omega),if_neg a]
theorem Qq.step {r j:Nat} (h:Qq r j) (a:j=2\/Gy.getD j 0≠(r:Int)):Qq r (j+1):=by
 intro i d b;by_cases c:i=j
 . subst c;rcases a with a|a
   . exact absurd a b
   . exact a
 . exact h i (by omega) b
def D0 (r:Nat):Prop:=r<=1114111/\ ¬(55296<=r/\r<57344)
theorem Y0 (F:Option Int) (n:Nat) (a:Int):(Dh F n a).2=0\/((Dh F n a).1<=1114111/\ ¬(55296<=(Dh F n a).1/\(Dh F n a).1<57344)):=by
 unfold Dh
 split
 . simp
 . split
   . simp
   . rename_i h
     right
     simp only;omega
theorem K5 (rest:List UInt8) (n:Nat) (b a:Int):(By rest n b a).2=0\/((By rest n b a).1<=1114111/\ ¬(55296<=(By rest n b a).1/\(By rest n b a).1<57344)):=by
 unfold By
 split
 . exact .inl rfl
 . exact Y0 _ _ _
theorem Ow (l:List UInt8):(Gc l).2=0\/((Gc l).1<=1114111/\ ¬(55296<=(Gc l).1/\(Gc l).1<57344)):=by
 cases l with
 |nil=>exact .inl rfl
 |cons c rest=>
  rw[Gm];by_cases a:(c.toNat:Int)<128
  . rw[if_pos a]
    right
    simp only;omega
  rw[if_neg a]
  split
  . exact K5 _ _ _ _
  split
  . exact K5 _ _ _ _
  split
  . exact K5 _ _ _ _
  . exact .inl rfl
theorem Fw: ∀(n:Nat) (l:List UInt8) (p:Nat),∀x ∈ Au n l p,D0 x.2
 |0,_,_,x,a=>by simp[Au]at a
 |n+1,l,p,x,a=>by
  by_cases h:l= []
  . subst h;simp[Au]at a
  . rcases Mh h n p with⟨_,e⟩|⟨m,r,hn,h1,_,e⟩
    . rw[e]at a
      cases a
    . rw[e]at a;rcases List.mem_cons.1 a with rfl|a
      . have:=Ow l;rw[hn]at this;unfold D0;simp only at this ⊢;omega
      . exact Fw n _ _ x a
theorem Ae5 (d:Nat) (a:d<16) (w:World):(Instr.slice 9 (.string ⟨#[48,49,50,51,52,53,54,55,56,57,97,98,99,100,101,102]⟩) (some (.int .i64 d)) (some (.int .i64 ((d:Int)+1))) none).run Tryz.prog w=.ok (.string ⟨#[Ld d]⟩) w:=by
 have:=Yi ⟨#[48,49,50,51,52,53,54,55,56,57,97,98,99,100,101,102]⟩ d (d+1) (by omega) (by show d+1<=16;omega) w;have e: ∀d:Fin 16,(⟨#[48,49,50,51,52,53,54,55,56,57,97,98,99,100,101,102]⟩:ByteArray).extract d.val (d.val+1)=⟨#[Ld d.val]⟩:=by decide
 rw[e ⟨d,a⟩]at this;exact this
theorem Ali (d:Nat) (a:d<8) (w:World):(Instr.slice 9 (.string ⟨#[34,92,47,98,102,110,114,116]⟩) (some (.int .i64 d)) (some (.int .i64 ((d:Int)+1))) none).run Tryz.prog w=.ok (.string ⟨#[Gg.getD d 0]⟩) w:=by
 have:=Yi ⟨#[34,92,47,98,102,110,114,116]⟩ d (d+1) (by omega) (by show d+1<=8;omega) w;have e: ∀d:Fin 8,(⟨#[34,92,47,98,102,110,114,116]⟩:ByteArray).extract d.val (d.val+1)=⟨#[Gg.getD d.val 0]⟩:=by decide
 rw[e ⟨d,a⟩]at this;exact this
theorem Il {k:Int} {b:Bool} {n:Int} {t:ByteArray} {c f:Option Addr} {a d on oc:Nat} {B:Bool} (h:Fo k b n t a on=B) (w:World):
 Calls Tryz.prog 191 #[.agg #[.int .i64 k,.bool b,.int .i64 n,.string t,.slice c a d,.slice f on oc]] w fun e w'=>e=.returned (.bool (!B))/\Below w.heap.size w w':=by
 subst h;exact Ab4 _ _ _ _ _ _ _ _ _ _ _
theorem Cm {s:ByteArray} {B:Bool} (h:A6 s=B) (w:World) (a:s.size<=1000000000):
 Calls Tryz.prog 66 #[.string s] w fun e w'=>e=.returned (.bool B)/\w=w':=by
 subst h;exact Ou _ _ a
def Ahi (v:Val):Prop:= ∀(cs:List Value) (d:Int) (w:World),Ab w w.heap.size v cs->v.bulk<=1000000000->0<=d->d<=65->
    Calls Tryz.prog 124 #[.agg cs.toArray,.int .i64 d] w fun e w'=>e=.returned (.int .i64 (A0 v d))/\Below w.heap.size w w'
theorem Agb (k:Int) (b:Bool) (n:Int) (t:ByteArray) (l:List Val) (D Q:Option Addr) (P oc:Nat) (d:Int) (w:World) (g y:Nat) (I:l= []\/(D=some ⟨g,y,none⟩/\g<w.heap.size/\Aq w w.heap.size l g y))
 (hb:A5 l+t.size<=1000000000) (h0:0<=d) (aa:d<=64) (W: ∀v ∈ l,Ahi v) (A:Fo k b n t l.length 0=false) (K:A6 t=true):
 Calls Tryz.prog 124 #[.agg #[.int .i64 k,.bool b,.int .i64 n,.string t,.slice D l.length P,.slice Q 0 oc],.int .i64 d] w fun e w'=>e=.returned (.int .i64 (Dn l (d+1)))/\Below w.heap.size w w':=by
 have Z:l.length<=1000000000:=by have:=C9 l;omega
 have X: ¬(64<d):=by omega
 have H:Hid (Dn (l.drop 0) (d+1)=Dn l (d+1)):=by rw[List.drop_zero];exact rfl
 go_enter Tryz.func124,Tryz.ntmps124;go_wp2_with (first|(go_at_call 191;refine(Il A _).mono ?_;rintro e w1 ⟨rfl,f⟩;obtain⟨U,V⟩:=Fy f;have M:=f.size;simp only[World.size_alloc]at M;have z:Below w.heap.size w w1:=((Below.refl _ _).alloc (Nat.le_refl _) _).trans (f.mono (by simp));have o:w1.heap[w.heap.size]? =some (.cells #[.int .i64 k,.bool b,.int .i64 n,.string t,.slice D l.length P,.slice Q 0 oc] 42 (0,0)):=(f.block _ (by simp)).trans (heap_alloc_new _ _))|(go_at_call 66;refine(Cm K _ (by omega)).mono ?_;rintro e R ⟨rfl,rfl⟩));clear f A U V M;go_loopw [5] (fun i wr=> ∃j:Nat,j<=l.length/\i=.int .i64 j/\Hid (Dn (l.drop j) (d+1)=Dn l (d+1))/\Below w.heap.size w wr/\wr.heap[w.heap.size]? =some (.cells #[.int .i64 k,.bool b,.int .i64 n,.string t,.slice D l.length P,.slice Q 0 oc] 42 (0,0))) (fun i _=>l.length - (intOf i).toNat)
 case atStart=>exact⟨0,Nat.zero_le _,rfl,H,z,o⟩
 case round=>
  obtain⟨j,hj,rfl,N,p,c⟩:=hrel;clear H z o;have T:w.heap.size<wr.heap.size:=(Array.getElem?_eq_some_iff.1 c).1;have b4:wr.cell? ⟨w.heap.size,4,none⟩=some (.slice D l.length P):=by rw[Lib.cell_of_heap c];rfl
  have b5:wr.cell? ⟨w.heap.size,5,none⟩=some (.slice Q 0 oc):=by rw[Lib.cell_of_heap c];rfl
  by_cases J:j<l.length
  . obtain⟨rfl,hg,Y⟩:D=some ⟨g,y,none⟩/\g<w.heap.size/\Aq w w.heap.size l g y:=by
     rcases I with rfl|h
     . simp at J
     . exact h
    obtain⟨v,O⟩: ∃v,l[j]? =some v:=⟨_,List.getElem?_eq_getElem J⟩;have r:l.drop j=v::l.drop (j+1):=Cr O;have u:v ∈ l:=List.mem_of_getElem? O;have ab:=Dp u;have F:=qz (W v u);have a:=N.out;rw[r]at a;simp only[Dn]at a;clear N r u W;obtain⟨m,C⟩: ∃m,A0 v (d+1)=m:=⟨_,rfl⟩;rw[C]at a;have E:=qz C;clear C;obtain⟨k',b',n',t',l',o'⟩:=v;obtain⟨ae,af,ag,ah,L,c0,c1,c2,c3,c4,c5⟩:=(Y.below hg p).six O;clear I Y O;have hz:=p.size;by_cases s:m=0
    . rw[if_pos s]at a;subst s;have S:=qz a;clear a;go_wp2_with (go_at_call 124;refine(F.out _ (d+1) _ (Ab.more (by omega) _ _ L) (by omega) (by omega) (by omega)).mono ?_;rintro e R ⟨G,x⟩;rw[E.out]at G;subst G;have q:Below w.heap.size w R:=p.trans (x.mono hz);have B:=(x.block _ T).trans c);go_roundw
      case rel=>exact⟨j+1,by omega,by go_num,S,q,B⟩
      case measure=>simp[intOf];omega
    . rw[if_neg s]at a;have S:=qz a;clear a;have ac:(m==0)=false:=by simpa using s
      have ad:(m != 0)=true:=by simpa using s
      go_wp2_with (go_at_call 124;refine(F.out _ (d+1) _ (Ab.more (by omega) _ _ L) (by omega) (by omega) (by omega)).mono ?_;rintro e R ⟨G,x⟩;rw[E.out]at G;subst G;have q:Below w.heap.size w R:=p.trans (x.mono hz));go_ret;exact⟨by rw[<-S.out];rfl,q⟩
  . obtain rfl:j=l.length:=by omega
    have a:=N.out;rw[List.drop_length]at a;have Hm:=qz a;clear N a;go_wp2;go_loopw [8] (fun i wx=>i=.int .i64 0/\wx=wr) (fun _ _=>0)
    case atStart=>exact⟨rfl,rfl⟩
    case round=>
     obtain⟨rfl,rfl⟩:=hrel;go_wp2;go_ret;exact⟨by rw[<-Hm.out];rfl,p⟩
structure KB (S:Nat->Prop) (w w':World):Prop where
 os:w'.os=w.os
 tape:w'.tape=w.tape
 output:w'.output=w.output
 size:w.heap.size<=w'.heap.size
 block: ∀k,k<w.heap.size-> ¬S k->w'.heap[k]? =w.heap[k]?
theorem KB.trans {S T:Nat->Prop} {w w1 d:World} (h:KB S w w1) (a:KB T w1 d) (f: ∀k,k<w.heap.size->T k->S k):KB S w d:=
 ⟨a.os.trans h.os,a.tape.trans h.tape,a.output.trans h.output,Nat.le_trans h.size a.size,fun k b c=>(a.block k (Nat.lt_of_lt_of_le b h.size) fun e=>c (f k b e)).trans (h.block k b c)⟩
theorem KB.of_below {S:Nat->Prop} {w w':World} (h:Below w.heap.size w w'):KB S w w':=⟨h.os,h.tape,h.output,h.size,fun k a _=>h.block k a⟩
theorem KB.of_grown {S:Nat->Prop} {w w':World} {r:Option Nat} (h:w.grownBy w' r) (c: ∀k,r=some k->S k):KB S w w':=⟨h.os,h.tape,h.output,h.size,fun k a b=>h.block k a fun e=>b (c k e.symm)⟩
theorem KB.set {S:Nat->Prop} (w:World) (p:Addr) (b:S p.block) (v:Value):KB S w (w.setCell p v):=⟨rfl,rfl,rfl,by simp[World.setCell],fun k _ a=>Below.heap_setCell _ _ _ _ (fun e=>a (e▸b))⟩
theorem KB.below {S:Nat->Prop} {w w':World} {B:Nat} (h:KB S w w') (d: ∀k,S k->B<=k) (c:B<=w.heap.size):Below B w w':=⟨h.os,h.tape,h.output,h.size,fun k a=>h.block k (Nat.lt_of_lt_of_le a c) fun b=>Nat.lt_irrefl _ (Nat.lt_of_lt_of_le a (d k b))⟩
theorem Ap.kb {S:Nat->Prop} {w w':World} {g:Nat} {t:TypeId} {cs:Array Value} (a:Ap w g t cs) (h:KB S w w') (b: ¬S g):Ap w' g t cs:=(h.block g a.lt b).trans a
def Qp (v:Val):Prop:= ∀(cs:List Value) (w:World),Ab w w.heap.size v cs->v.bulk<=100000000->
    Calls Tryz.prog 31 #[.agg cs.toArray] w fun e w'=>(∃cs',e=.returned (.agg (cs':List Value).toArray)/\cs'.length=6/\Lu w w' v cs')/\Below w.heap.size w w'
theorem Akr {c:UInt8} {d:Nat} (h:M9 c=some d) (w:World):Calls Tryz.prog 368 #[.int .u8 c.toNat] w fun e w'=>e=.returned (.tuple #[.int .i32 d,.bool true])/\w=w':=by
 have l:=Bl c;unfold M9 at h
 split at h
 . rename_i f;obtain⟨a,b⟩:=f;have e:(d:Int)=(c.toNat:Int) - 48:=by have:=Option.some.inj h;omega
   have j:(48:Int)<=(c.toNat:Int):=by omega
   have k:(c.toNat:Int)<=57:=by omega
   rw[e];clear h e a b;go_enter Tryz.func368,Tryz.ntmps368;go_wp2;go_ret2;exact⟨rfl,rfl⟩
 split at h
 . rename_i g f;obtain⟨a,b⟩:=f;have e:(d:Int)=(c.toNat:Int) - 97+10:=by have:=Option.some.inj h;omega
   have m: ¬((c.toNat:Int)<=57):=by omega
   have j:(97:Int)<=(c.toNat:Int):=by omega
   have k:(c.toNat:Int)<=102:=by omega
   rw[e];clear h e a b g;go_enter Tryz.func368,Tryz.ntmps368;go_wp2;go_ret2;exact⟨rfl,rfl⟩
 split at h
 . rename_i i g f;obtain⟨a,b⟩:=f;have e:(d:Int)=(c.toNat:Int) - 65+10:=by have:=Option.some.inj h;omega
   have m: ¬((c.toNat:Int)<=57):=by omega
   have n: ¬((97:Int)<=(c.toNat:Int)):=by omega
   have j:(65:Int)<=(c.toNat:Int):=by omega
   have k:(c.toNat:Int)<=70:=by omega
   rw[e];clear h e a b g i;go_enter Tryz.func368,Tryz.ntmps368;go_wp2;go_ret2;exact⟨rfl,rfl⟩
 . cases h
theorem Ami {c:UInt8} (h:M9 c=none) (w:World):Calls Tryz.prog 368 #[.int .u8 c.toNat] w fun e w'=>e=.returned (.tuple #[.int .i32 0,.bool false])/\w=w':=by
 have f:=Bl c;unfold M9 at h
 split at h
 . cases h
 split at h
 . cases h
 split at h
 . cases h
 rename_i a b d;by_cases a1:(48:Int)<=(c.toNat:Int)<;>by_cases g:(c.toNat:Int)<=57<;>by_cases i:(97:Int)<=(c.toNat:Int)<;>by_cases j:(c.toNat:Int)<=102<;>by_cases k:(65:Int)<=(c.toNat:Int)<;>by_cases l:(c.toNat:Int)<=70
 all_goals first|(exfalso;omega)|(clear h a b d;go_enter Tryz.func368,Tryz.ntmps368;go_wp2;go_ret2;exact⟨rfl,rfl⟩)
theorem Va (c:UInt8) (w:World):Calls Tryz.prog 320 #[.int .u8 c.toNat] w fun e w'=>e=.returned (.int .i64 (if c.toNat<32 then 4 else 3))/\w=w':=by
 have b:=Bl c;by_cases h:c.toNat<32
 . rw[if_pos h];have a:(c.toNat:Int)<32:=by omega
   clear h;go_enter Tryz.func320,Tryz.ntmps320;go_wp2;go_ret;exact⟨rfl,rfl⟩
 . rw[if_neg h];have a: ¬((c.toNat:Int)<32):=by omega
   clear h;go_enter Tryz.func320,Tryz.ntmps320;go_wp2;go_ret;exact⟨rfl,rfl⟩
theorem We (a:Nat) (b:a<2147483648):(BitVec.ofInt 32 (a:Int)).toNat=a:=by
 rw[BitVec.ofInt_natCast,BitVec.toNat_ofNat];exact Nat.mod_eq_of_lt (by omega)
theorem Aoc {n d:Nat} (c:n<4096) (a:d<16):bits .or .i32 ((n:Int)*16) (d:Int)=((16*n+d:Nat):Int):=by
 have e:(n:Int)*16=((n*16:Nat):Int):=by omega
 have h:n*16 ||| d=n*16+d:=by
  have:=Nat.shiftLeft_add_eq_or_of_lt (i:=4) (b:=d) (by omega) n;rw[Nat.shiftLeft_eq]at this;exact this.symm
 rw[e];show IntKind.i32.wrap ((BitVec.ofInt 32 ((n*16:Nat):Int) ||| BitVec.ofInt 32 (d:Int)).toNat:Int)=_;rw[BitVec.toNat_or,We _ (by omega),We _ (by omega),h,IntKind.wrap_i32];omega
def Abl (u:Option Nat):Value:=match u with
 |some n=> .tuple #[.int .i32 n,.bool true]
 |none=> .tuple #[.int .i32 0,.bool false]
theorem Ug (t:ByteArray) (w:World) (T:t.size<=1000000000):Calls Tryz.prog 347 #[.string t] w fun e w'=>e=.returned (Abl (Dd t.data.toList))/\w=w':=by
 have j:=Ac t;by_cases B:t.size<6
 . have e:Dd t.data.toList=none:=by unfold Dd;rw[if_pos (by omega)]
   rw[e];have l:(t.size:Int)<6:=by omega
   clear e j;go_enter Tryz.func347,Tryz.ntmps347;go_wp2;go_ret2;exact⟨rfl,rfl⟩
 have U: ¬((t.size:Int)<6):=by omega
 have R:0<t.size:=by omega
 have S:1<t.size:=by omega
 obtain⟨a,H⟩: ∃a,t[0]=a:=⟨_,rfl⟩;obtain⟨b,J⟩: ∃b,t[1]=b:=⟨_,rfl⟩;have p:t.data.toList[0]? =some a:=by rw[Bc t R,H]
 have q:t.data.toList[1]? =some b:=by rw[Bc t S,J]
 have I:=Bl a;have K:=Bl b;have ne: ∀(c:UInt8) (n:Nat),n<256->c≠UInt8.ofNat n->((c.toNat:Int)==(n:Int))=false:=fun c n z h=>by rw[Ie z];simpa using h
 by_cases m:a=92;rotate_left
 . have e:Dd t.data.toList=none:=by unfold Dd;rw[if_pos];right;left;rw[p];simpa using m
   have G:=ne a 92 (by decide) m;rw[e];clear e j p q ne m B;go_enter Tryz.func347,Tryz.ntmps347;go_wp2;go_ret2;exact⟨rfl,rfl⟩
 by_cases g:b=117;rotate_left
 . have e:Dd t.data.toList=none:=by unfold Dd;rw[if_pos];right;right;rw[q];simpa using g
   have G:=ne b 117 (by decide) g;rw[e];subst m;clear e j p q ne g B;go_enter Tryz.func347,Tryz.ntmps347;go_wp2;go_ret2;exact⟨rfl,rfl⟩
 subst m g;have e:Dd t.data.toList=Jf (t.data.toList.drop 2) 4 0:=by
  unfold Dd;rw[if_neg];rw[p,q];simp;omega
 rw[e];obtain⟨F,u⟩: ∃F,Jf (t.data.toList.drop 2) 4 0=F:=⟨_,rfl⟩;rw[u];have A:=qz u;clear e u p q ne j;go_enter Tryz.func347,Tryz.ntmps347;go_wp2
 go_loop [4,5] (fun x i=> ∃k n:Nat,2<=k/\k<=6/\i=.int .i64 k/\x=.int .i32 n/\n<16 ^ (k - 2)/\Hid (Jf (t.data.toList.drop k) (6 - k) n=F)) (fun _ i=>6 - (intOf i).toNat)
 case atStart=>exact⟨2,0,by omega,by omega,rfl,rfl,by decide,A⟩
 case round=>
  obtain⟨k,n,N,O,rfl,rfl,z,r⟩:=hrel;clear A;by_cases P:k<6
  . have y:k<t.size:=by omega
    obtain⟨c,L⟩: ∃c,t[k]=c:=⟨_,rfl⟩;have v:t.data.toList[k]? =some c:=by rw[Bc t y,L]
    have M:=Bl c;have Q:n<4096:=by
     have:16 ^ (k - 2)<=16 ^ 3:=Nat.pow_le_pow_right (by decide) (by omega);omega
    have f:=r.out;rw[Ep v,show 6 - k=(6 - (k+1))+1 from by omega]at f;simp only[Jf]at f
    cases hd:M9 c with
    |none=>
     rw[hd]at f;subst f;have s:=qz (fun W=>Ami hd W);clear r hd v;go_wp2_with (fail);(with_reducible refine(s.out _).mono ?_);rintro e w1 ⟨rfl,rfl⟩;go_wp2;go_ret2;exact⟨rfl,rfl⟩
    |some d=>
     rw[hd]at f;simp only at f;have s:=qz (fun W=>Akr hd W);have C:=Xr hd;have D:=qz f;have o:16*n+d<16 ^ (k+1 - 2):=by
      rw[show k+1 - 2=(k - 2)+1 from by omega,Nat.pow_succ];omega
     have E:=qz o;clear r hd v f z o;go_wp2_with (fail);(with_reducible refine(s.out _).mono ?_);rintro e w1 ⟨rfl,rfl⟩;go_wp2
     go_round
     case rel=>exact⟨k+1,16*n+d,by omega,by omega,by go_num,by rw[Aoc (by omega) (by omega)],E.out,D⟩
     case measure=>simp[intOf];omega
  . obtain rfl:k=6:=by omega
    have f:=r.out;have e:Jf (t.data.toList.drop 6) (6 - 6) n=some n:=by cases t.data.toList.drop 6<;>rfl
    rw[e]at f;subst f;clear r e;go_wp2;go_ret2;exact⟨rfl,rfl⟩
end Go.Proofs.YtjgfchcldhmjcaaGreatDoor
