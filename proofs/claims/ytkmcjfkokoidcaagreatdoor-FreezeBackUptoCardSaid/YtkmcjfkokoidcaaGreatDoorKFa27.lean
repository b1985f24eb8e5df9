/- Parts: A range over an iterator that asks the body to keep what is its (K), by a body that may leave the function. No condition. -/
import Derived.Deep.RegionHeld
import Derived.Test.YtkmcjfkokoidcaaGreatDoorKFa22
import Derived.Test.YtkmcjfkokoidcaaGreatDoorKFa23
namespace Go.Proofs.YtkmcjfkokoidcaaGreatDoor
open Go.RowKit
theorem N4: ∀{l:List (ByteArray×Val)} {last:Option ByteArray} {d:Int},Ep l last d=0->Ay l/\ ∀q,last=some q-> ∀m ∈ l,Dp q m.1=true
 | [],_,_,_=>⟨List.Pairwise.nil,fun q _ m hm=>by cases hm⟩
 |(k,v)::r,last,d,h=>by
  simp only[Ep]at h;by_cases hP:Q6 (k,v) last d=0
  . rw[if_pos hP]at h;obtain⟨h1,h2⟩:=N4 h;refine⟨List.pairwise_cons.2 ⟨fun m hm=>h2 k rfl m hm,h1⟩,fun q hq m hm=> ?_⟩;subst hq;have hqk:Dp q k=true:=by
     simp only[Q6]at hP
     split at hP
     . split at hP
       . cases hP
       . rename_i hle;unfold leB at hle;simp only[Bool.or_eq_true,not_or]at hle;rcases Ku q k with t|t|t
         . exact t
         . subst t;exact absurd (by simp) hle.2
         . exact absurd t hle.1
     . cases hP
    rcases List.mem_cons.1 hm with rfl|hm
    . exact hqk
    . exact C0 hqk (h2 k rfl m hm)
  . rw[if_neg hP]at h;exact absurd h hP
theorem U8: ∀(l:List Val),Bq l true=Dk (l.map Am)
 | []=>rfl
 | [v]=>by simp[Bq,Dk]
 |v::u::r=>by
  have ih:=U8 (u::r);simp only[Bq,if_true,List.nil_append,List.map_cons,Dk]at ih ⊢;rw[<-ih];simp
theorem U9: ∀(l:List (ByteArray×Val)),Bs l true=Dk (l.map Lq)
 | []=>rfl
 | [v]=>by simp[Bs,Dk]
 |v::u::r=>by
  have ih:=U9 (u::r);simp only[Bs,if_true,List.nil_append,List.map_cons,Dk]at ih ⊢;rw[<-ih];simp
def Xg (m:ByteArray×Val):Mem:=⟨[], [],Am m.2,m.1,m.2⟩
theorem Aez (m:ByteArray×Val):(Xg m).text=Lq m:=by
 obtain⟨k,v⟩:=m;simp[Xg,Mem.text,Lq]
theorem Ug (l:List (ByteArray×Val)):(l.map Xg).map Mem.pair=l:=by
 rw[List.map_map]
 conv=>rhs;rw[<-List.map_id l]
 exact List.map_congr_left fun x _=>rfl
theorem Ab8 (l:List (ByteArray×Val)):(l.map Xg).map Mem.text=l.map Lq:=by
 rw[List.map_map];exact List.map_congr_left fun x _=>Aez x
theorem Afp {l:List (ByteArray×Val)} (h:Ay l):G9 l=l:=by
 unfold G9;rw[Vq (List.Perm.refl l) h];rfl
theorem L1:Mt []:=fun c h=>by cases h
theorem Aik: ∀(v:Val) (d:Int),Au v d=0->J9 v->F7 (Am v) v d:=by
 refine Val.ind ?_;intro k b n t l o hl ho d h hi;obtain⟨h1,hd,hv,h4,h5⟩:=Em h;obtain⟨hk,ht,hln,hon⟩:=Fa h1;obtain⟨hb,hn⟩:=Rc h1;simp only[J9]at hi;have e1:k≠5->l= []:=fun e=>List.eq_nil_of_length_eq_zero (hln.resolve_left e);have e2:k≠6->o= []:=fun e=>List.eq_nil_of_length_eq_zero (hon.resolve_left e);have e3:k≠4->t=Fl:=fun e=>ht.resolve_left e;have e4:k≠2->b=false:=fun e=>hb.resolve_left e;have e5:k≠3->n=0:=fun e=>hn.resolve_left e;rcases hk with rfl|rfl|rfl|rfl|rfl|rfl
 . rw[e1 (by decide),e2 (by decide),e3 (by decide),e4 (by decide),e5 (by decide)];have e:Am (.mk 1 false 0 Fl [] [])= [110,117,108,108]:=by simp[Am]
   rw[e];exact Aij hd
 . rw[e1 (by decide),e2 (by decide),e3 (by decide),e5 (by decide)]
   cases b
   . exact Afi hd
   . exact Ail hd
 . rw[e1 (by decide),e2 (by decide),e3 (by decide),e4 (by decide)];have e:Am (.mk 3 false n Fl [] [])=Lib.itoa n:=by simp[Am]
   rw[e];exact Alm hi.1 hd
 . rw[e1 (by decide),e2 (by decide),e4 (by decide),e5 (by decide)];have e:Am (.mk 4 false 0 t [] [])=Bl t:=by simp[Am]
   rw[e];exact Alo hv hd
 . rw[e2 (by decide),e3 (by decide),e4 (by decide),e5 (by decide)];have e:Am (.mk 5 false 0 Fl l [])=91::([]++Dk ((l.map fun v=>(Am v,v)).map (·.1))++ [93]):=by
    simp only[Am,U8,List.map_map,List.nil_append];rfl
   rw[e];have key:=Aii hd (l:=l.map fun v=>(Am v,v)) (fun y hy=>by
    obtain⟨v,hv,rfl⟩:=List.mem_map.1 hy;exact hl v hv (d+1) (G2 h4 v hv) (Agj hi.2.1 hv)) L1 (fun _=>rfl)
   have e6:(l.map fun v=>(Am v,v)).map (·.2)=l:=by
    rw[List.map_map]
    conv=>rhs;rw[<-List.map_id l]
    exact List.map_congr_left fun x _=>rfl
   rw[e6]at key;exact key
 . rw[e1 (by decide),e3 (by decide),e4 (by decide),e5 (by decide)];have hr:=(N4 h5).1;have e:Am (.mk 6 false 0 Fl [] o)=123::([]++Dk ((o.map Xg).map Mem.text)++ [125]):=by
    rw[Ab8,<-U9];simp[Am]
   rw[e];have key:=Aln hd (l:=o.map Xg) (fun m hm=>by
    obtain⟨x,hx,rfl⟩:=List.mem_map.1 hm;obtain⟨k1,k2⟩:=Kc h5 x hx;exact⟨L1,L1,k1,ho x hx (d+1) k2 (Jr hi.2.2 hx)⟩) (by rw[Ug];exact Aar hr) L1 (fun _=>rfl)
   rw[Ug,Afp hr]at key;exact key
theorem Acn {t:List UInt8} {v:Val} (h:F7 t v 1):Fe t=.ok v t.length:=by
 obtain⟨q,h1,h2⟩:=h (4*t.length+4) t 0 [] (Nat.zero_le _) (by simp) F4.nil (by omega);unfold Fe;rw[h1];simp only;rw[h2,Nat.zero_add,Uu (Nat.le_refl _),if_neg (by omega)]
theorem Afb {v:Val} (h:Au v 1=0) (hi:J9 v):Fe (Am v)=.ok v (Am v).length:=Acn (Aik v 1 h hi)
end Go.Proofs.YtkmcjfkokoidcaaGreatDoor
namespace Go.Proofs.YtkmcjfkokoidcaaGreatDoor
end Go.Proofs.YtkmcjfkokoidcaaGreatDoor
namespace Go.Proofs.YtkmcjfkokoidcaaGreatDoor
open Go Go.RowKit
theorem An5 {S:Nat->Prop} {s n c g off:Nat} {w:World} {l:List D} {q:Nat} {d:D} {u0 v1:Value} (h:Ah S w (.row s l) [.slice (some ⟨g,off,none⟩) n c]) (hi:l[q]? =some d) (hu: ∀(w:World) (B:Nat) cs,Ag w B d cs->cs[0]? =some u0) (hv:v1≠u0):
 S g/\ ∀cs:List Value,(∀j u,cs[j]? =some u->w.cell? ⟨g,off+q*s+j,none⟩=some u)->cs.length=s->Ah S w d cs:=by
 obtain⟨g',off',e,hg,cs0,h1,hl0,hc0⟩:=h.now.at_ hi
 cases e
 have hf:=hc0 0 u0 (hu _ _ _ h1);have hge:S g:=by
  refine Classical.byContradiction fun hlt=>hv ?_;obtain⟨g2,off2,e,_,cs1,h2,_,hc1⟩:=(h (w.setCell ⟨g,off+q*s+0,none⟩ v1) (by simp[World.setCell]) (fun p p1 p2=>World.cell?_setCell_far _ _ _ _ (by show g≠p.block;intro e;exact hlt (e▸p1)))).at_ hi
  cases e
  have:=hc1 0 u0 (hu _ _ _ h2);rw[World.cell?_setCell_same _ _ _ hf]at this;exact Option.some.inj this
 refine⟨hge,fun cs hcs hl w'' hs hk=> ?_⟩;obtain⟨g2,off2,e,_,cs2,h2,hl2,hc2⟩:=(h w'' hs hk).at_ hi
 cases e
 have:cs2=cs:=by
  refine List.ext_getElem? fun j=> ?_;by_cases hj:j<s
  . obtain⟨u,hu1⟩: ∃u,cs2[j]? =some u:=⟨_,List.getElem?_eq_getElem (by omega)⟩;obtain⟨u',hu2⟩: ∃u,cs[j]? =some u:=⟨_,List.getElem?_eq_getElem (by omega)⟩;have e1:=hc2 j u hu1;rw[hk _ hge hg,hcs j u' hu2]at e1;rw[hu1,hu2,Option.some.inj e1]
  . rw[List.getElem?_eq_none (by omega),List.getElem?_eq_none (by omega)]
 rw[<-this];exact h2
theorem Fp {S:Nat->Prop} {w:World} {n c:Nat} {l:List (ByteArray×Val)} {a:Option Addr} (h:Ah S w (.row 7 (dO l)) [.slice a n c]) {q:Nat} {key:ByteArray} {k':Int} {b':Bool} {n':Int} {t':ByteArray} {l':List Val} {o':List (ByteArray×Val)} (hi:l[q]? =some (key,.mk k' b' n' t' l' o')):
 ∃g off,a=some ⟨g,off,none⟩/\g<w.heap.size/\ ∃la lc oa oc,Ah S w (dV (.mk k' b' n' t' l' o')) [.int .i64 k',.bool b',.int .i64 n',.string t',.slice la l'.length lc,.slice oa o'.length oc]/\
  w.cell? ⟨g,off+q*7,none⟩=some (.string key)/\w.cell? ⟨g,off+q*7+1,none⟩=some (.int .i64 k')/\w.cell? ⟨g,off+q*7+2,none⟩=some (.bool b')/\
  w.cell? ⟨g,off+q*7+3,none⟩=some (.int .i64 n')/\w.cell? ⟨g,off+q*7+4,none⟩=some (.string t')/\w.cell? ⟨g,off+q*7+5,none⟩=some (.slice la l'.length lc)/\w.cell? ⟨g,off+q*7+6,none⟩=some (.slice oa o'.length oc):=by
 obtain⟨g,off,rfl,hg,la,lc,oa,oc,_,c0,c1,c2,c3,c4,c5,c6⟩:=Agq h.now hi;refine⟨g,off,rfl,hg,la,lc,oa,oc, ?_,c0,c1,c2,c3,c4,c5,c6⟩;have hm:=(An5 (v1:=.bool false) h (d:=dP (key,.mk k' b' n' t' l' o')) (by rw[Bo,List.getElem?_map,hi];rfl) Aj0 (by simp)).2 [.string key,.int .i64 k',.bool b',.int .i64 n',.string t',.slice la l'.length lc,.slice oa o'.length oc] (fun j u hj=>by
  match j with
  |0=>cases hj;exact c0
  |1=>cases hj;exact c1
  |2=>cases hj;exact c2
  |3=>cases hj;exact c3
  |4=>cases hj;exact c4
  |5=>cases hj;exact c5
  |6=>cases hj;exact c6
  |j+7=>simp at hj) rfl
 exact fun w'' h1 h2=>An2 (hm w'' h1 h2)
theorem Ah.base {S:Nat->Prop} {w0 w:World} {d:D} {cs:List Value} (h:Ah S w0 d cs) (hb:Below w0.heap.size w0 w):Ah (fun i=>S i/\i<w0.heap.size) w d cs:=fun w'' h1 h2=>
 (h w'' (Nat.le_trans hb.size h1) fun p p1 p2=>(h2 p ⟨p1,p2⟩ (Nat.lt_of_lt_of_le p2 hb.size)).trans (hb.cell p2)).more hb.size
def Af7 {α β:Type} (P:Program) (gf:Nat) (lb:Array Value) (encs:α->β->Array Value) (E:α->β->(Nat->Prop)->World->Prop) (K0:Nat->Prop) (xs:List α) (N:World->Prop):Prop:=
 ∀(n l:Nat) (J:List α->(Nat->Prop)->(Nat->Prop)->World->Prop) (Jx:World->Prop) (W:World),
  (∀s T K A T' K' B,J s T K A->KB T A B->(∀i,i<A.heap.size->(T' i ↔ T i)/\(K' i ↔ K i))->(∀i,K' i->i<B.heap.size)->J s T' K' B)->
  (∀pre x rest q T K A,xs=pre++x::rest->J pre T K A->E x q (fun i=>K i/\ ¬T i) A->(∀i,T i->K i)->(∀i,K i->i<A.heap.size)->YieldAt Fence.wide n P l (encs x q) A fun e B=>(e=.returned (.bool true)/\J (pre++ [x]) T K B/\KB (fun i=> ¬K i) A B)\/(e=.returned (.bool false)/\Jx B/\KB (fun i=> ¬K i) A B))->(∀A B,Jx A->Below A.heap.size A B->Jx B)->
  N W->J [] (fun _=>False) K0 W->CallsIn Fence.wide (n+1) P gf (#[.func (.yield l) #[] #[]]++lb) W fun e B=>(∃v,e=.returned v)/\((∃T K,J xs T K B)\/Jx B)
theorem Afy {α β:Type} {P:Program} {g:Operand} {ps:Array Tmp} {assign body:Code} {Q:Exit->Act->World->Prop} {a:Act} {w:World} {n:Nat}
 {gf:Nat} {lb:Array Value} (hg:a.eval g=.func (.func gf) #[] lb) (eg: ∀args w,(callFunc gf args).run P w=.ok (.enter gf args) w)
 {encs:α->β->Array Value} {E:α->β->(Nat->Prop)->World->Prop} {K0:Nat->Prop} {xs:List α} {N:World->Prop} (hit:Af7 P gf lb encs E K0 xs N) (hps: ∀x q,(encs x q).size=ps.size)
 (hEp: ∀x q D A k o',E x q D A-> ¬D k->E x q D (A.putObj k o')) (hK0: ∀i,K0 i->i<w.heap.size)
 (I:List α->(Nat->Prop)->(Nat->Prop)->World->Prop) (Ix:World->Prop) (hXn: ∀A B,Ix A->Below A.heap.size A B->Ix B)
 (hXp: ∀A k o o',Ix A->A.heap[k]? =some o->o.isCells=false->w.heap.size<=k->Ix (A.putObj k o'))
 (hIn: ∀s T K A T' K' B,I s T K A->KB T A B->(∀i,i<A.heap.size->(T' i ↔ T i)/\(K' i ↔ K i))->(∀i,K' i->i<B.heap.size)->I s T' K' B)
 (hIp: ∀s T K A k o o',I s T K A->A.heap[k]? =some o->o.isCells=false-> ¬K k->w.heap.size<=k->I s T K (A.putObj k o'))
 (hEb: ∀x q D A B,E x q D A->Below A.heap.size A B->E x q D B) (hN: ∀W,Below w.heap.size w W->N W) (h0:I [] (fun _=>False) K0 w) (RB:α->β->Act->World->Prop)
 (hRp: ∀x q a' A k o o',RB x q a' A->A.heap[k]? =some o->o.isCells=false->RB x q a' (A.putObj k o'))
 (hassign: ∀(l:Nat) (x:α) (q:β) (D:Nat->Prop) (W:World) (K:Act->World->Prop),w.heap.size+1<W.heap.size->E x q D W->(∀a' W',Below W.heap.size W W'->RB x q a' W'->K a' W')->
   assign.wpIn (Fence.wide.inRound l) n P (Exit.then K (fun _ _ _=>False)) {tmps:=(ps.zip (encs x q)).foldl (fun t (p,v)=>t.setIfInBounds p v) a.tmps,defers:= []} W)
 (hbody: ∀(l:Nat) (pre:List α) (x:α) (rest:List α) (q:β) (T K:Nat->Prop) (a':Act) (W:World),RB x q a' W->xs=pre++x::rest->I pre T K W->E x q (fun i=>K i/\ ¬T i) W->(∀i,T i->K i)->(∀i,K i->i<W.heap.size)->
   ¬K w.heap.size-> ¬K (w.heap.size+1)->(∃ds,W.heap[w.heap.size]? =some (.deferred ds))->(∃r,W.heap[w.heap.size+1]? =some (.loop r))->
   body.wpIn (Fence.wide.inRound l) n P (N3 (fun B=>I (pre++ [x]) T K B/\KB (fun i=> ¬K i) W B) (fun B=>Ix B/\KB (fun i=> ¬K i) W B) w.heap.size W) a' W)
 (hstop: ∀(W:World),Ix W->W.heap[w.heap.size]? =some (.deferred (some []))->Code.ret.wpIn Fence.wide (n+1+1) P Q {a with defers:={target:=.collected w.heap.size,args:= #[]}::a.defers} W)
 (hdone: ∀(T K:Nat->Prop) (W:World),I xs T K W-> ¬K w.heap.size->W.heap[w.heap.size]? =some (.deferred (some []))->Q .normal {a with defers:={target:=.collected w.heap.size,args:= #[]}::a.defers} W):
 (Code.rangeFunc g ps assign body).wpIn Fence.wide (n+1+1) P Q a w:=by
 refine wpIn_rangeFunc ?_;intro fn hfn;have hro:Fence.wide.round=none:=rfl;rw[hro];obtain⟨rec,hrec⟩: ∃rec:LoopState->Option Code->Loop,rec=fun st pe=>{state:=st,pending:=pe,fn,tmps:=a.tmps,params:=ps,assign,body,defers:=w.heap.size}:=⟨_,rfl⟩;obtain⟨W1,hW1⟩: ∃W1,(w.alloc (.deferred (some []))).alloc (.loop (rec .ready none))=W1:=⟨_,rfl⟩;have hL1:W1.heap[w.heap.size+1]? =some (.loop (rec .ready none)):=by
  rw[<-hW1];have:=World.alloc_heap_new (w.alloc (.deferred (some []))) (.loop (rec .ready none));rwa [World.size_alloc]at this
 have hK1:W1.heap[w.heap.size]? =some (.deferred (some [])):=by
  rw[<-hW1];exact(Below.heap_alloc _ _ _ (by simp)).trans (World.alloc_heap_new w _)
 have hbW:Below w.heap.size w W1:=hW1▸((Below.refl _ w).alloc (Nat.le_refl _) _).alloc (by simp) _;have hI1:I [] (fun _=>False) K0 W1:=hIn _ _ _ _ _ _ _ h0 (KB.of_below hbW) (fun _ _=>⟨Iff.rfl,Iff.rfl⟩) fun i hi=>Nat.lt_of_lt_of_le (hK0 i hi) hbW.size;refine⟨w.heap.size+1, [{target:=.collected w.heap.size,args:= #[]}],W1,{target:=.fn (.func gf) lb,args:= #[.func (.yield (w.heap.size+1)) #[] #[]]},W1,gf,
  #[.func (.yield (w.heap.size+1)) #[] #[]]++lb,W1, ?_, ?_, ?_, ?_,fun h=>by simp[Fence.wide]at h, ?_⟩
 . rw[<-hW1,hrec];exact run_enterLoop_outer _ _ _ _ _
 . simp only[resolve,hg];simp[go_sem]
 . intro f' _;trivial
 . simp[invoke,go_sem,eg]
 . refine(hit n (w.heap.size+1)
    (fun pre T K W=>I pre T K W/\W.heap[w.heap.size+1]? =some (.loop (rec .ready none))/\W.heap[w.heap.size]? =some (.deferred (some []))/\ ¬T w.heap.size/\ ¬T (w.heap.size+1)/\ ¬K w.heap.size/\ ¬K (w.heap.size+1)/\ ∀i,K i->i<W.heap.size)
    (fun W=>Ix W/\W.heap[w.heap.size+1]? =some (.loop (rec .done (some .ret)))/\W.heap[w.heap.size]? =some (.deferred (some [])))
    W1 ?_ ?_ (fun A B hs hb=>⟨hXn A B hs.1 hb,(hb.block _ (Array.getElem?_eq_some_iff.1 hs.2.1).1).trans hs.2.1,(hb.block _ (Array.getElem?_eq_some_iff.1 hs.2.2).1).trans hs.2.2⟩) (hN _ hbW) ⟨hI1,hL1,hK1,fun h=>h,fun h=>h,fun h=>by have:=hK0 _ h;omega,fun h=>by have:=hK0 _ h;omega,fun i hi=>Nat.lt_of_lt_of_le (hK0 i hi) hbW.size⟩).mono ?_
   . rintro s T K A T' K' B ⟨j1,j2,j3,j4,j5,j6,j7,j8⟩ hb hTK hKB;have z2:=(Array.getElem?_eq_some_iff.1 j2).1;have z3:=(Array.getElem?_eq_some_iff.1 j3).1;exact⟨hIn _ _ _ _ _ _ _ j1 hb hTK hKB,(hb.block _ z2 j5).trans j2,(hb.block _ z3 j4).trans j3,fun h=>j4 ((hTK _ z3).1.1 h),fun h=>j5 ((hTK _ z2).1.1 h),fun h=>j6 ((hTK _ z3).2.1 h),fun h=>j7 ((hTK _ z2).2.1 h),hKB⟩
   ·
    rintro pre x rest q T K W hx ⟨hi,hl,hk,j4,j5,j6,j7,j8⟩ hE hTK _;have hlt:w.heap.size+1<W.heap.size:=(Array.getElem?_eq_some_iff.1 hl).1;have hy:=run_yield (P:=P) (args:=encs x q) hl (by rw[hrec];exact hps x q);rw[hrec]at hy;refine⟨fn,_,assign,body,hy,roundIn_of_wpIn trivial (hassign _ x q _ W _ hlt hE fun a' W' hbW hRB=>⟨_,run_beginRound ((hbW.block _ hlt).trans hl) (by rw[hrec]), ?_⟩)⟩;have hlt':=Nat.lt_of_lt_of_le hlt hbW.size;have hlW:=(hbW.block _ hlt).trans hl;have hkW:=(hbW.block _ (by omega)).trans hk;have hiW:=hIn _ _ _ _ T K _ hi (KB.of_below hbW) (fun _ _=>⟨Iff.rfl,Iff.rfl⟩) fun i h=>Nat.lt_of_lt_of_le (j8 i h) hbW.size;have hEW:=hEb _ _ _ _ _ hE hbW;have hl2:(W'.putObj (w.heap.size+1) (.loop {rec .ready none with state:=.busy})).heap[w.heap.size+1]? =some (.loop {rec .ready none with state:=.busy}):=World.putObj_heap_same hlt';have hk2:(W'.putObj (w.heap.size+1) (.loop {rec .ready none with state:=.busy})).heap[w.heap.size]? =some (.deferred (some [])):=(World.putObj_heap_other (by omega)).trans hkW;have hkb1:=(KB.of_below (S:=fun i=> ¬K i) hbW).trans (KB.put (S:=fun i=> ¬K i) W' (k:=w.heap.size+1) j7 (.loop {rec .ready none with state:=.busy})) fun _ _ h=>h;refine wpIn_mono (hbody _ pre x rest q T K a' _ (hRp _ _ _ _ _ _ _ hRB hlW rfl) hx (hIp _ _ _ _ _ _ _ hiW hlW rfl j7 (by omega)) (hEp _ _ _ _ _ _ hEW fun h=>j7 h.1) hTK (fun i hi=>Nat.lt_of_lt_of_le (j8 i hi) hkb1.size) j6 j7 ⟨_,hk2⟩ ⟨_,hl2⟩) ?_;rintro e a3 W3 hp
    cases e with
    |normal=>
     obtain⟨h1,h2,hi3,hkb2⟩:=hp;have hl3:=h2.trans hl2;have hk3:=h1.trans hk2;have hr:=run_endRound (P:=P) none hl3;rw[hrec]at hr;have hkb3:=(hkb1.trans hkb2 fun _ _ h=>h).trans (KB.put (S:=fun i=> ¬K i) W3 (k:=w.heap.size+1) j7 (.loop {rec .ready none with state:=.ready})) fun _ _ h=>h;refine⟨_,_,hr,.inl ⟨rfl,⟨hIp _ _ _ _ _ _ _ hi3 hl3 rfl j7 (by omega), ?_, ?_,j4,j5,j6,j7,fun i hi=>Nat.lt_of_lt_of_le (j8 i hi) ?_⟩, ?_⟩⟩
     . rw[World.putObj_heap_same (Array.getElem?_eq_some_iff.1 hl3).1,hrec];rfl
     . exact(World.putObj_heap_other (by omega)).trans hk3
     . rw[hrec]at hkb3;exact hkb3.size
     . rw[hrec]at hkb3;exact hkb3
    |ret=>
     obtain⟨h1,h2,hi3,hkb2⟩:=hp;have hl3:=h2.trans hl2;have hk3:=h1.trans hk2;have hr:=run_endRound (P:=P) (some .ret) hl3;rw[hrec]at hr;have hkb3:=(hkb1.trans hkb2 fun _ _ h=>h).trans (KB.put (S:=fun i=> ¬K i) W3 (k:=w.heap.size+1) j7 (.loop {rec .done (some .ret)with state:=.done})) fun _ _ h=>h;refine⟨_,_,hr,.inr ⟨rfl,⟨hXp _ _ _ _ hi3 hl3 rfl (by omega), ?_, ?_⟩, ?_⟩⟩
     . rw[World.putObj_heap_same (Array.getElem?_eq_some_iff.1 hl3).1,hrec];rfl
     . exact(World.putObj_heap_other (by omega)).trans hk3
     . rw[hrec]at hkb3;exact hkb3
    |exit id=>exact hp.elim
    |goto t=>exact hp.elim
    |panic ch=>exact hp.elim
    |outgrown=>exact hp.elim
   ·
    rintro e W2 ⟨⟨v,rfl⟩,⟨T,K,hi,hl,hk,_,_,j6,j7,_⟩|⟨hi,hl,hk⟩⟩
    . exact⟨none,_,by have:=run_endLoop (P:=P) hl (by rw[hrec];simp);rw[hrec]at this;exact this,hdone T K _ (hIp _ _ _ _ _ _ _ hi hl rfl j7 (by omega)) j6 ((World.putObj_heap_other (by omega)).trans hk)⟩
    . exact⟨some .ret,_,by have:=run_endLoop (P:=P) hl (by rw[hrec];simp);rw[hrec]at this;exact this,hstop _ (hXp _ _ _ _ hi hl rfl (by omega)) ((World.putObj_heap_other (by omega)).trans hk)⟩
end Go.Proofs.YtkmcjfkokoidcaaGreatDoor
