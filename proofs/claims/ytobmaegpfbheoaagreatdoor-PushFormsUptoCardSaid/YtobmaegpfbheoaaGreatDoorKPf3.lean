/- Parts: strings.Builder wherever it lies (a block of its own, or a field of a struct that the call made): its methods' contracts. Condition: at most 2^47 bytes. -/
import Derived.Laws.AppendOwn
import Derived.Lib.Builder
import Derived.RangeFuncNested
import Derived.RangeFuncBound
import Derived.RangeFuncCalls
import Derived.RangeFuncLeaves
import Derived.OwnWalkIn
import Derived.TacticsInMore
import Derived.Test.YtobmaegpfbheoaaGreatDoorZPfShelf
import Derived.Lib.OthersKept
import Derived.Lib.FrozenHead2
import Derived.Shelf.Strings.BuilderK
import Derived.Test.YtobmaegpfbheoaaGreatDoorKPf1
set_option maxHeartbeats 20000000
set_option maxRecDepth 100000
namespace Go.Proofs.YtobmaegpfbheoaaGreatDoor
open Go.RowKit
def Ha (w:World) (B:Nat):List Val->List Value->Prop
 | [],ns=>ns= []
 |v::r,ns=> ∃cs rest,ns=cs++rest/\Ab w B v cs/\Ha w B r rest
theorem Ab.len {w:World} {B:Nat} {v:Val} {cs:List Value} (h:Ab w B v cs):cs.length=6/\ ∀u ∈ cs,u.oneCell'=true:=by
 obtain⟨k,b,n,t,l,o⟩:=v;simp only[Ab]at h;obtain⟨la,lc,oa,oc,rfl,_,_⟩:=h;refine⟨rfl,fun u hu=> ?_⟩;simp only[List.mem_cons,List.not_mem_nil,or_false]at hu;rcases hu with rfl|rfl|rfl|rfl|rfl|rfl<;>rfl
theorem Ha.len {w:World} {B:Nat}: ∀{l:List Val} {ns:List Value},Ha w B l ns->ns.length=l.length*6/\ ∀u ∈ ns,u.oneCell'=true
 | [],ns,h=>by
   have:ns= []:=h;subst this;exact⟨rfl,fun u hu=>by cases hu⟩
 |v::r,ns,h=>by
  obtain⟨cs,rest,rfl,h1,h2⟩:=h;obtain⟨a1,a2⟩:=h1.len;obtain⟨b1,b2⟩:=Ha.len h2;refine⟨by rw[List.length_append,a1,b1,List.length_cons];omega,fun u hu=> ?_⟩;rcases List.mem_append.1 hu with hu|hu
  . exact a2 u hu
  . exact b2 u hu
theorem Aq.row {w:World} {B:Nat}: ∀{l:List Val} {g off:Nat},Aq w B l g off-> ∃ns,Ha w B l ns/\ ∀j u,ns[j]? =some u->w.cell? ⟨g,off+j,none⟩=some u
 | [],_,_,_=>⟨[],rfl,fun j u h=>by simp at h⟩
 |v::r,g,off,h=>by
  simp only[Aq]at h;obtain⟨⟨cs,h1,h2⟩,h3⟩:=h;obtain⟨ns,h4,h5⟩:=Aq.row h3;refine⟨cs++ns,⟨cs,ns,rfl,h1,h4⟩,fun j u hu=> ?_⟩;have hl:=h1.len.1;by_cases hj:j<6
  . rw[List.getElem?_append_left (by omega)]at hu;exact h2 j u hu
  . rw[List.getElem?_append_right (by omega),hl]at hu;have:=h5 (j - 6) u hu
    rwa [show off+6+(j - 6)=off+j from by omega]at this
theorem Ha.holds {w w':World} {B B':Nat} (hk: ∀v cs,Ab w B v cs->Ab w' B' v cs) {g:Nat}: ∀{l:List Val} {ns:List Value} {off:Nat},Ha w B l ns->(∀j u,ns[j]? =some u->w'.cell? ⟨g,off+j,none⟩=some u)->Aq w' B' l g off
 | [],_,_,_,_=>by simp[Aq]
 |v::r,ns,off,h,hc=>by
  obtain⟨cs,rest,rfl,h1,h2⟩:=h;have hl:=h1.len.1;simp only[Aq];refine⟨⟨cs,hk v cs h1,fun j u hu=>hc j u ?_⟩,Ha.holds hk h2 (fun j u hu=> ?_)⟩
  . have:=(List.getElem?_eq_some_iff.1 hu).1;rw[List.getElem?_append_left this];exact hu
  . rw[show off+6+j=off+(6+j)from by omega];refine hc (6+j) u ?_;rw[List.getElem?_append_right (by omega),hl,show 6+j - 6=j from by omega];exact hu
theorem Ha.snoc {w:World} {B:Nat} {v:Val} {cs:List Value} (hv:Ab w B v cs): ∀{l:List Val} {ns:List Value},Ha w B l ns->Ha w B (l++ [v]) (ns++cs)
 | [],ns,h=>by
   have:ns= []:=h;subst this;exact⟨cs, [],by simp,hv,rfl⟩
 |x::r,ns,h=>by
  obtain⟨c1,rest,rfl,h1,h2⟩:=h;exact⟨c1,rest++cs,by simp,h1,Ha.snoc hv h2⟩
def within:Val->List Val
 | .mk k _ _ _ l o=>if k=5 then l else if k=6 then o.map (·.2)else []
theorem Ha.more {w:World} {B B':Nat} (h:B<=B'): ∀{l:List Val} {ns:List Value},Ha w B l ns->Ha w B' l ns
 | [],_,e=>e
 |_::_,_,⟨cs,rest,e,h1,h2⟩=>⟨cs,rest,e,Ab.more h _ _ h1,Ha.more h h2⟩
def Ff (w:World) (B:Nat):List (ByteArray×Val)->List Value->Prop
 | [],ns=>ns= []
 |(key,v)::r,ns=> ∃cs rest,ns=.string key::(cs++rest)/\Ab w B v cs/\Ff w B r rest
theorem Ff.more {w:World} {B B':Nat} (h:B<=B'): ∀{l:List (ByteArray×Val)} {ns:List Value},Ff w B l ns->Ff w B' l ns
 | [],_,e=>e
 |(_,_)::_,_,⟨cs,rest,e,h1,h2⟩=>⟨cs,rest,e,Ab.more h _ _ h1,Ff.more h h2⟩
theorem Ff.holds {w:World} {B:Nat} {g:Nat}: ∀{l:List (ByteArray×Val)} {ns:List Value} {off:Nat},Ff w B l ns->(∀j u,ns[j]? =some u->w.cell? ⟨g,off+j,none⟩=some u)->As w B l g off
 | [],_,_,_,_=>by simp[As]
 |(key,v)::r,ns,off,h,hc=>by
  obtain⟨cs,rest,rfl,h1,h2⟩:=h;have hl:=h1.len.1;simp only[As,Hg];refine⟨⟨hc 0 _ rfl,cs,h1,fun j u hu=> ?_⟩,Ff.holds h2 (fun j u hu=> ?_)⟩
  . have h3:=(List.getElem?_eq_some_iff.1 hu).1;rw[show off+1+j=off+(j+1)from by omega];refine hc (j+1) u ?_;rw[List.getElem?_cons_succ,List.getElem?_append_left h3];exact hu
  . rw[show off+7+j=off+(6+j+1)from by omega];refine hc (6+j+1) u ?_;rw[List.getElem?_cons_succ,List.getElem?_append_right (by omega),hl,show 6+j - 6=j from by omega];exact hu
theorem Ff.snoc {w:World} {B:Nat} {key:ByteArray} {v:Val} {cs:List Value} (hv:Ab w B v cs): ∀{l:List (ByteArray×Val)} {ns:List Value},Ff w B l ns->Ff w B (l++ [(key,v)]) (ns++(.string key::cs))
 | [],ns,h=>by
   have:ns= []:=h;subst this;exact⟨cs, [],by simp,hv,rfl⟩
 |(k',x)::r,ns,h=>by
  obtain⟨c1,rest,rfl,h1,h2⟩:=h;exact⟨c1,rest++(.string key::cs),by simp,h1,Ff.snoc hv h2⟩
theorem Nx:(Tryz.prog.info? 42).map (fun i=>(i.zero,i.size,i.bytes))=some (some (.agg #[.int .i64 0,.bool false,.int .i64 0,.string ⟨#[]⟩,.slice none 0 0,.slice none 0 0]),6,88):=by kernel_rfl
theorem Sv:(Tryz.prog.info? 74).map (fun i=>(i.zero,i.size,i.bytes))=some (some (.agg #[.string ⟨#[]⟩,.int .i64 0,.bool false,.int .i64 0,.string ⟨#[]⟩,.slice none 0 0,.slice none 0 0]),7,104):=by kernel_rfl
theorem Gd (w:World) (b i:Nat) (V:Value) {c:Nat} (h:c≠b):(w.setCell ⟨b,i,none⟩ V).heap[c]? =w.heap[c]? :=by
 simp only[World.setCell,Array.getElem?_modify];rw[if_neg (fun e=>h e.symm)]
def Uu {α:Type} (P:Program) (gf:Nat) (lb:Array Value) (encs:α->Array Value) (xs:List α) (N:World->Prop):Prop:=
 ∀(n l:Nat) (J:List α->World->Prop) (W:World),(∀s A B,J s A->Below A.heap.size A B->J s B)->(∀s A,J s A->N A)->
  (∀pre x rest A,xs=pre++x::rest->J pre A->YieldAt Fence.wide n P l (encs x) A fun e B=>e=.returned (.bool true)/\J (pre++ [x]) B)->
  J [] W->CallsIn Fence.wide (n+1) P gf (#[.func (.yield l) #[] #[]]++lb) W fun e B=>(∃v,e=.returned v)/\J xs B
def Qx (I:World->Prop) (d:Nat) (W:World):Exit->Act->World->Prop
 | .normal,_,W'=>W'.heap[d]? =W.heap[d]? /\W'.heap[d+1]? =W.heap[d+1]? /\I W'
 |_,_,_=>False
theorem K3 {α:Type} {P:Program} {g:Operand} {ps:Array Tmp} {assign body:Code} {Q:Exit->Act->World->Prop} {a:Act} {w:World} {n:Nat}
 {gf:Nat} {lb:Array Value} (hg:a.eval g=.func (.func gf) #[] lb) (eg: ∀args w,(callFunc gf args).run P w=.ok (.enter gf args) w)
 {encs:α->Array Value} {xs:List α} {N:World->Prop} (hit:Uu P gf lb encs xs N) (hps: ∀x,(encs x).size=ps.size)
 (I:List α->World->Prop) (hIn: ∀s A B,I s A->Below A.heap.size A B->I s B)
 (hIp: ∀s A k o o',I s A->A.heap[k]? =some o->o.isCells=false->(k=w.heap.size\/k=w.heap.size+1)->I s (A.putObj k o'))
 (hIb: ∀s A,I s A->N A) (h0:I [] w) (a₁:α->Act)
 (hassign: ∀(l:Nat) (x:α) (W:World) (K:Act->World->Prop),K (a₁ x) W->
   assign.wpIn (Fence.wide.inRound l) n P (Exit.then K (fun _ _ _=>False)) {tmps:=(ps.zip (encs x)).foldl (fun t (p,v)=>t.setIfInBounds p v) a.tmps,defers:= []} W)
 (hbody: ∀(l:Nat) (pre:List α) (x:α) (rest:List α) (W:World),xs=pre++x::rest->I pre W->(∃ds,W.heap[w.heap.size]? =some (.deferred ds))->(∃r,W.heap[w.heap.size+1]? =some (.loop r))->
   body.wpIn (Fence.wide.inRound l) n P (Qx (I (pre++ [x])) w.heap.size W) (a₁ x) W)
 (hdone: ∀(W:World),I xs W->W.heap[w.heap.size]? =some (.deferred (some []))->Q .normal {a with defers:={target:=.collected w.heap.size,args:= #[]}::a.defers} W):
 (Code.rangeFunc g ps assign body).wpIn Fence.wide (n+1+1) P Q a w:=by
 refine wpIn_rangeFunc ?_;intro fn hfn;have hro:Fence.wide.round=none:=rfl;rw[hro];obtain⟨rec,hrec⟩: ∃rec:LoopState->Option Code->Loop,rec=fun st pe=>{state:=st,pending:=pe,fn,tmps:=a.tmps,params:=ps,assign,body,defers:=w.heap.size}:=⟨_,rfl⟩;obtain⟨W1,hW1⟩: ∃W1,(w.alloc (.deferred (some []))).alloc (.loop (rec .ready none))=W1:=⟨_,rfl⟩;have hL1:W1.heap[w.heap.size+1]? =some (.loop (rec .ready none)):=by
  rw[<-hW1];have:=World.alloc_heap_new (w.alloc (.deferred (some []))) (.loop (rec .ready none));rwa [World.size_alloc]at this
 have hK1:W1.heap[w.heap.size]? =some (.deferred (some [])):=by
  rw[<-hW1];exact(Below.heap_alloc _ _ _ (by simp)).trans (World.alloc_heap_new w _)
 have hI1:I [] W1:=by
  rw[<-hW1];exact hIn _ _ _ h0 (((Below.refl _ w).alloc (Nat.le_refl _) _).alloc (by simp) _)
 refine⟨w.heap.size+1, [{target:=.collected w.heap.size,args:= #[]}],W1,{target:=.fn (.func gf) lb,args:= #[.func (.yield (w.heap.size+1)) #[] #[]]},W1,gf,
  #[.func (.yield (w.heap.size+1)) #[] #[]]++lb,W1, ?_, ?_, ?_, ?_,fun h=>by simp[Fence.wide]at h, ?_⟩
 . rw[<-hW1,hrec];exact run_enterLoop_outer _ _ _ _ _
 . simp only[resolve,hg];simp[go_sem]
 . intro f' _;trivial
 . simp[invoke,go_sem,eg]
 . refine(hit n (w.heap.size+1)
    (fun pre W=>I pre W/\W.heap[w.heap.size+1]? =some (.loop (rec .ready none))/\W.heap[w.heap.size]? =some (.deferred (some [])))
    W1 (fun s A B hs hb=>⟨hIn s A B hs.1 hb,(hb.block _ (Array.getElem?_eq_some_iff.1 hs.2.1).1).trans hs.2.1,(hb.block _ (Array.getElem?_eq_some_iff.1 hs.2.2).1).trans hs.2.2⟩)
    (fun s A hs=>hIb s A hs.1) ?_ ⟨hI1,hL1,hK1⟩).mono ?_
   ·
    rintro pre x rest W hx ⟨hi,hl,hk⟩;have hlt:w.heap.size+1<W.heap.size:=(Array.getElem?_eq_some_iff.1 hl).1;have hy:=run_yield (P:=P) (args:=encs x) hl (by rw[hrec];exact hps x);rw[hrec]at hy;refine⟨fn,_,assign,body,hy,roundIn_of_wpIn trivial (hassign _ x W _ ⟨_,run_beginRound hl (by rw[hrec]), ?_⟩)⟩;have hl2:(W.putObj (w.heap.size+1) (.loop {rec .ready none with state:=.busy})).heap[w.heap.size+1]? =some (.loop {rec .ready none with state:=.busy}):=World.putObj_heap_same hlt;have hk2:(W.putObj (w.heap.size+1) (.loop {rec .ready none with state:=.busy})).heap[w.heap.size]? =some (.deferred (some [])):=(World.putObj_heap_other (by omega)).trans hk;refine wpIn_mono (hbody _ pre x rest _ hx (hIp _ _ _ _ _ hi hl rfl (.inr rfl)) ⟨_,hk2⟩ ⟨_,hl2⟩) ?_;rintro e a3 W3 hp
    cases e with
    |normal=>
     obtain⟨h1,h2,hi3⟩:=hp;have hl3:=h2.trans hl2;have hk3:=h1.trans hk2;have hr:=run_endRound (P:=P) none hl3;rw[hrec]at hr;refine⟨_,_,hr,rfl,hIp _ _ _ _ _ hi3 hl3 rfl (.inr rfl), ?_, ?_⟩
     . rw[World.putObj_heap_same (Array.getElem?_eq_some_iff.1 hl3).1,hrec];rfl
     . exact(World.putObj_heap_other (by omega)).trans hk3
    |ret=>exact hp.elim
    |exit id=>exact hp.elim
    |goto t=>exact hp.elim
    |panic ch=>exact hp.elim
    |outgrown=>exact hp.elim
   ·
    rintro e W2 ⟨⟨v,rfl⟩,hi,hl,hk⟩;exact⟨none,_,by have:=run_endLoop (P:=P) hl (by rw[hrec];simp);rw[hrec]at this;exact this,hdone _ (hIp _ _ _ _ _ hi hl rfl (.inr rfl)) ((World.putObj_heap_other (by omega)).trans hk)⟩
end Go.Proofs.YtobmaegpfbheoaaGreatDoor
namespace Go.Proofs.YtobmaegpfbheoaaGreatDoor
open Go.RowKit Go.Shelf
def J2 (w:World) (B g o:Nat) (t:TypeId) (cs:Array Value) (bs:List UInt8):Prop:=
 B<=g/\w.heap[g]? =some (.cells cs t (0,0))/\t≠5/\o+1<cs.size/\(cs[o]? =some (.pointer none)\/cs[o]? =some (.pointer (some ⟨g,o,none⟩)))/\
  ∃v,cs[o+1]? =some v/\w.ownsRow B 5 1 v bs.length (Lib.byteCells bs)
def Jt (g o:Nat) (cs:Array Value) (v:Value):Array Value:=(cs.setIfInBounds o (.pointer (some ⟨g,o,none⟩))).setIfInBounds (o+1) v
theorem J2.lt {w:World} {B g o:Nat} {t:TypeId} {cs:Array Value} {bs:List UInt8} (h:J2 w B g o t cs bs):g<w.heap.size:=by
 rcases Nat.lt_or_ge g w.heap.size with h'|h'
 . exact h'
 . have:=h.2.1;simp[Array.getElem?_eq_none h']at this
abbrev Du (g:Nat) (w w':World):Prop:=Lib.OthersKept 5 (some g) w w'
theorem Fv {w:World} {g i:Nat} {cs:Array Value} {t:TypeId} (h:w.heap[g]? =some (.cells cs t (0,0))) (u:Value):(w.setCell ⟨g,i,none⟩ u).heap[g]? =some (.cells (cs.setIfInBounds i u) t (0,0)):=by
 simp[World.setCell,Array.getElem?_modify,h]
theorem J2.used {w:World} {B g o:Nat} {t:TypeId} {cs:Array Value} {bs:List UInt8} (h:J2 w B g o t cs bs):
 J2 (w.setCell ⟨g,o,none⟩ (.pointer (some ⟨g,o,none⟩))) B g o t (cs.setIfInBounds o (.pointer (some ⟨g,o,none⟩))) bs:=by
 obtain⟨hB,hb,ht,hs,h0,v,h1,hown⟩:=h;refine⟨hB,Fv hb _,ht,by simpa using hs,.inr (by rw[Array.getElem?_setIfInBounds_self_of_lt (by omega)]),v,by rw[Array.getElem?_setIfInBounds,if_neg (by omega)];exact h1, ?_⟩;exact hown.kept (row:=some g) ⟨rfl,rfl,rfl,by simp[World.setCell],fun k _ hk=>Below.heap_setCell _ _ _ _ (fun e=>hk (by simp[e]))⟩ (Or.inr (Lib.ownBlock_ne hown hb ht))
theorem Fk (B g o:Nat) (t:TypeId) (cs:Array Value) (bs:List UInt8) (w:World) (h:J2 w B g o t cs bs) (hl:liesAt Tryz.prog Tryz.prog.depth t (cs.size / Tryz.prog.cellsOf t) o 98 1=true):
 Calls Tryz.prog 196 #[.pointer (some ⟨g,o,none⟩)] w fun e w'=>e=.returned (.tuple #[])/\J2 w' B g o t (cs.setIfInBounds o (.pointer (some ⟨g,o,none⟩))) bs/\Below B w w'/\Du g w w':=by
 have hu:=h.used;obtain⟨hB,hb,ht,hs,h0,v,h1,hown⟩:=h;obtain⟨j,hj,hj2⟩: ∃j,Tryz.prog.info? 98=some j/\j.size=2:=by
  have:(Tryz.prog.info? 98).map (·.size)=some 2:=by kernel_rfl
  cases hq:Tryz.prog.info? 98 with
  |none=>simp[hq]at this
  |some j=>exact⟨j,rfl,by simpa[hq]using this⟩
 have hsh:w.shape? g=some (t,cs.size):=by simp[World.shape?,hb]
 rcases h0 with h0|h0
 . have c0:w.cell? ⟨g,o,none⟩=some (.pointer none):=by rw[Lib.cell_of_heap hb];exact h0
   have f0:w.frozen? ⟨g,o,none⟩=false:=Lib.frozen_of_heap hb o;go_enter Tryz.func196,Tryz.ntmps196;go_wp2;rw[Lib.run_to_unsafe (P:=Tryz.prog) w (src:=96) (dst:=191) (t:=98) ⟨g,o,none⟩ Tryz.underlying96 Tryz.underlying191 hj (by omega) hsh (by show o<cs.size;omega)];simp only[Result.andThen];rw[Oper.upon_value];go_wp2;rw[run_callFunc_extern Tryz.func223 (by kernel_rfl) (by kernel_rfl) (by kernel_rfl) (e:=Extern.AbiNoEscape.same) (by kernel_rfl)];rw[Lib.run_noEscape];simp only[Result.andThen];rw[Oper.upon_value];go_wp2;rw[Lib.run_from_unsafe (P:=Tryz.prog) w (src:=191) (dst:=96) (u:=98) ⟨g,o,none⟩ Tryz.underlying191 Tryz.underlying96 hj hsh hl];simp only[Result.andThen];rw[Oper.upon_value];go_wp2
   go_end0
   exact⟨rfl,hu,(Below.refl B w).setCell (p:=⟨g,o,none⟩) hB _,(Lib.OthersKept.refl _ _ w).setCell ⟨g,o,none⟩ rfl _⟩
 . have c0:w.cell? ⟨g,o,none⟩=some (.pointer (some ⟨g,o,none⟩)):=by rw[Lib.cell_of_heap hb];exact h0
   have hself:cs.setIfInBounds o (.pointer (some ⟨g,o,none⟩))=cs:=by
    apply Array.ext_getElem?
    intro i;rw[Array.getElem?_setIfInBounds]
    split
    . rename_i h;subst h;rw[if_pos (by omega),h0]
    . rfl
   have neq:=Lib.run_neq_ptr_same (P:=Tryz.prog) w (tp:=96) (te:=98) ⟨g,o,none⟩ Tryz.underlying96 hj;go_enter Tryz.func196,Tryz.ntmps196;go_wp2
   go_end0
   exact⟨rfl,by rw[hself];exact⟨hB,hb,ht,hs,.inr h0,v,h1,hown⟩,Below.refl _ _,Lib.OthersKept.refl _ _ _⟩
theorem Su:(Tryz.prog.info? 5).map (fun i=>(i.zero,i.size,i.bytes))=some (some (.int .u8 0),1,1):=by kernel_rfl
theorem J2.put {w1 w2:World} {B g o:Nat} {t:TypeId} {cs:Array Value} {bs bs':List UInt8} (h:J2 w1 B g o t (cs.setIfInBounds o (.pointer (some ⟨g,o,none⟩))) bs) (hos:o+1<cs.size)
 (hb2:w2.heap[g]? =some (.cells (cs.setIfInBounds o (.pointer (some ⟨g,o,none⟩))) t (0,0))) {v':Value} (hown':w2.ownsRow B 5 1 v' bs'.length (Lib.byteCells bs')):
 J2 (w2.setCell ⟨g,o+1,none⟩ v') B g o t (Jt g o cs v') bs':=by
 obtain⟨hB,_,ht,hs,h0,_⟩:=h;refine⟨hB,Fv hb2 _,ht,by simpa[Jt]using hs,.inr ?_,v', ?_, ?_⟩
 . unfold Jt;rw[Array.getElem?_setIfInBounds,if_neg (by omega),Array.getElem?_setIfInBounds_self_of_lt (by omega)]
 . unfold Jt;rw[Array.getElem?_setIfInBounds_self_of_lt (by simpa using hs)]
 . exact hown'.kept (row:=some g) ⟨rfl,rfl,rfl,by simp[World.setCell],fun k _ hk=>Below.heap_setCell _ _ _ _ (fun e=>hk (by simp[e]))⟩ (Or.inr (Lib.ownBlock_ne hown' hb2 ht))
theorem Fu {w:World} {B:Nat} {e:TypeId} {v:Value} {n:Nat} {xs:List Value} (h:w.ownsRow B e 1 v n xs): ∀g,v.ownBlock=some g-> ∃c fz,w.heap[g]? =some (.cells c e fz):=by
 intro g hg;rcases h.2 with⟨rfl,_⟩|⟨g',cap,cur,rfl,_,hgg,_⟩
 . simp[Value.ownBlock]at hg
 . simp[Value.ownBlock]at hg;subst hg;exact⟨cur,_,hgg⟩
theorem E6 (a b:List UInt8):Lib.byteCells (a++b)=Lib.byteCells a++Lib.byteCells b:=by simp[Lib.byteCells]
theorem F9 (B g o:Nat) (t:TypeId) (cs:Array Value) (bs:List UInt8) (s:ByteArray) (w:World) (h:J2 w B g o t cs bs) (hl:liesAt Tryz.prog Tryz.prog.depth t (cs.size / Tryz.prog.cellsOf t) o 98 1=true)
 (hlen:bs.length+s.size<=140737488355328) (hBw:B<=w.heap.size):
 Calls Tryz.prog 151 #[.pointer (some ⟨g,o,none⟩),.string s] w fun e w'=>e=.returned (.tuple #[.int .i64 s.size,.nilIface])/\
  (∃v,J2 w' B g o t (Jt g o cs v) (bs++s.data.toList))/\Below B w w'/\Du g w w':=by
 obtain⟨i0,hi,hz0,hz1,hz2⟩:=info_parts Su;have hos:o+1<cs.size:=h.2.2.2.1;go_enter Tryz.func151,Tryz.ntmps151;go_wp2_with (go_at_call 196;refine(Fk B g o t cs bs _ h hl).mono ?_);rintro e w1 ⟨rfl,h1,hb1,hk1⟩;have h1':=h1;obtain⟨hB,hbk,ht,hs,h0,v,hv,hown⟩:=h1;have c1:w1.cell? ⟨g,o+1,none⟩=some v:=by rw[Lib.cell_of_heap hbk];exact hv
 clear h hv h0;go_wp2_with (at_builtin;refine Lib.wpList_append_own_string _ rfl _ _ 26 9 rfl B 5 i0 Tryz.underlying26 Tryz.underlying9 hi hz0 hz1 hz2 _ _ _ rfl hown s rfl ?c3 ?c4 ?c5 ?_)
 case c3=>unfold maxLen;omega
 case c4=>omega
 case c5=>have:=hb1.size;omega
 intro v' w2 hown' hgrow _;have hne:=Lib.ownBlock_ne hown hbk ht;have hlt:g<w1.heap.size:=h1'.lt;have hb2:w2.heap[g]? =some (.cells (cs.setIfInBounds o (.pointer (some ⟨g,o,none⟩))) t (0,0)):=by
  rw[hgrow.block g hlt (fun e=>hne e.symm)];exact hbk
 have d1:w2.cell? ⟨g,o+1,none⟩=some v:=by rw[Lib.cell_of_heap hb2,<-Lib.cell_of_heap hbk];exact c1
 have f1:w2.frozen? ⟨g,o+1,none⟩=false:=Lib.frozen_of_heap hb2 _;have hk2:=hk1.grown hgrow (Fu hown);have hbw2:=hb1.grown hgrow (by have:=hb1.size;omega) (fun k hk=>(hown.lt k hk).1);obtain⟨ao,n',cap,rfl⟩: ∃ao n' cap,v'=.slice ao n' cap:=by
  rcases hown'.2 with⟨hv,_⟩|⟨g,cap,cur,hv,_⟩
  . exact⟨_,_,_,hv⟩
  . exact⟨_,_,_,hv⟩
 have hfin:=J2.put h1' hos hb2 (bs':=bs++s.data.toList) (v':=.slice ao n' cap) (by
  rw[E6,List.length_append];have e:s.data.toList.length=s.size:=by rw[<-Lib.size_eq]
  rw[e];exact hown')
 clear hown hown' hgrow c1 hbk hb2 h1' hb1 hk1 hne;go_wp2;go_ret2;exact⟨rfl,⟨_,hfin⟩,hbw2.setCell (p:=⟨g,o+1,none⟩) hB _,hk2.setCell ⟨g,o+1,none⟩ rfl _⟩
theorem Mq (B g o:Nat) (t:TypeId) (cs:Array Value) (bs:List UInt8) (c:Int) (hc0:0<=c) (hc1:c<256) (w:World) (h:J2 w B g o t cs bs) (hl:liesAt Tryz.prog Tryz.prog.depth t (cs.size / Tryz.prog.cellsOf t) o 98 1=true)
 (hlen:bs.length+1<=140737488355328) (hBw:B<=w.heap.size):
 Calls Tryz.prog 201 #[.pointer (some ⟨g,o,none⟩),.int .u8 c] w fun e w'=>e=.returned .nilIface/\
  (∃v,J2 w' B g o t (Jt g o cs v) (bs++ [UInt8.ofNat c.toNat]))/\Below B w w'/\Du g w w':=by
 obtain⟨i0,hi,hz0,hz1,hz2⟩:=info_parts Su;have hos:o+1<cs.size:=h.2.2.2.1;go_enter Tryz.func201,Tryz.ntmps201;go_wp2_with (go_at_call 196;refine(Fk B g o t cs bs _ h hl).mono ?_);rintro e w1 ⟨rfl,h1,hb1,hk1⟩;have h1':=h1;obtain⟨hB,hbk,ht,hs,h0,v,hv,hown⟩:=h1;have c1:w1.cell? ⟨g,o+1,none⟩=some v:=by rw[Lib.cell_of_heap hbk];exact hv
 clear h hv h0;go_wp2_with (at_builtin;refine wpList_append_own _ rfl _ _ 26 rfl B 5 i0 (.int .u8 0) 1 1 Tryz.underlying26 hi hz0 hz1 hz2 rfl (by decide) _ _ _ rfl (hown.alloc _) ⟨w1.heap.size,0,none⟩ 1 1 [.int .u8 c] rfl rfl ?c1 ?c2 ?c3 ?c4 ?c5 ?_)
 case c1=>
  intro j u hj
  match j,hj with
  |0,hj=>simp at hj;subst hj;simp[Addr.add]
 case c2=>intro u hu;simp at hu;subst hu;rfl
 case c3=>unfold maxLen;omega
 case c4=>omega
 case c5=>have:=hb1.size;simp;omega
 intro v' w2 hown' hgrow _;have hne:=Lib.ownBlock_ne hown hbk ht;have hlt:g<w1.heap.size:=h1'.lt;have hb2:w2.heap[g]? =some (.cells (cs.setIfInBounds o (.pointer (some ⟨g,o,none⟩))) t (0,0)):=by
  rw[hgrow.block g (by simp;omega) (fun e=>hne e.symm),Lib.alloc_old w1 _ g hlt];exact hbk
 have d1:w2.cell? ⟨g,o+1,none⟩=some v:=by rw[Lib.cell_of_heap hb2,<-Lib.cell_of_heap hbk];exact c1
 have f1:w2.frozen? ⟨g,o+1,none⟩=false:=Lib.frozen_of_heap hb2 _;have hk2:=(hk1.alloc _).grown hgrow (Fu (hown.alloc _));have hbw2:=(hb1.alloc (by have:=hb1.size;omega) _).grown hgrow (by have:=hb1.size;simp;omega) (fun k hk=>(hown.lt k hk).1);obtain⟨ao,n',cap,rfl⟩: ∃ao n' cap,v'=.slice ao n' cap:=by
  rcases hown'.2 with⟨hv,_⟩|⟨g,cap,cur,hv,_⟩
  . exact⟨_,_,_,hv⟩
  . exact⟨_,_,_,hv⟩
 have hfin:=J2.put h1' hos hb2 (bs':=bs++ [UInt8.ofNat c.toNat]) (v':=.slice ao n' cap) (by
  rw[E6,List.length_append];have e:Lib.byteCells [UInt8.ofNat c.toNat]= [.int .u8 c]:=by
   simp[Lib.byteCells];omega
  rw[e];exact hown')
 clear hown hown' hgrow c1 hbk hb2 h1' hb1 hk1 hne;go_wp2;go_ret;exact⟨rfl,⟨_,hfin⟩,hbw2.setCell (p:=⟨g,o+1,none⟩) hB _,hk2.setCell ⟨g,o+1,none⟩ rfl _⟩
theorem Mw (r:Int):Lib.runeCells r=Lib.byteCells (Lib.encodeRune r):=(Lib.byteCells_encodeRune r).symm
theorem Mr (B g o:Nat) (t:TypeId) (cs:Array Value) (bs:List UInt8) (r:Int) (hr0: -2147483648<=r) (hr1:r<=2147483647) (w:World) (h:J2 w B g o t cs bs) (hl:liesAt Tryz.prog Tryz.prog.depth t (cs.size / Tryz.prog.cellsOf t) o 98 1=true)
 (hlen:bs.length+4<=140737488355328) (hBw:B<=w.heap.size):
 Calls Tryz.prog 204 #[.pointer (some ⟨g,o,none⟩),.int .i32 r] w fun e w'=>(∃k:Int,e=.returned (.tuple #[.int .i64 k,.nilIface]))/\
  (∃v,J2 w' B g o t (Jt g o cs v) (bs++Lib.encodeRune r))/\Below B w w'/\Du g w w':=by
 have hos:o+1<cs.size:=h.2.2.2.1;go_enter Tryz.func204,Tryz.ntmps204;go_wp2_with (go_at_call 196;refine(Fk B g o t cs bs _ h hl).mono ?_);rintro e w1 ⟨rfl,h1,hb1,hk1⟩;have h1':=h1;obtain⟨hB,hbk,ht,hs,h0,v,hv,hown⟩:=h1;have c1:w1.cell? ⟨g,o+1,none⟩=some v:=by rw[Lib.cell_of_heap hbk];exact hv
 clear h hv h0;obtain⟨ao,n0,cap,rfl⟩: ∃ao n' cap,v=.slice ao n' cap:=by
  rcases hown.2 with⟨hv,_⟩|⟨g,cap,cur,hv,_⟩
  . exact⟨_,_,_,hv⟩
  . exact⟨_,_,_,hv⟩
 go_wp2_with (go_at_call 230;refine(Tryz.utf8_AppendRune_plain B _ _ _ r hr0 hr1 _ hown (by omega) (by have:=hb1.size;omega)).mono ?_);rintro e w2 ⟨v',rfl,hown',ob,hgrow⟩;have hne:=Lib.ownBlock_ne hown hbk ht;have hlt:g<w1.heap.size:=h1'.lt;have hb2:w2.heap[g]? =some (.cells (cs.setIfInBounds o (.pointer (some ⟨g,o,none⟩))) t (0,0)):=by
  rw[hgrow.block g (by simp;omega) (fun e=>hne e.symm),Lib.alloc_old w1 _ g hlt];exact hbk
 have d1:w2.cell? ⟨g,o+1,none⟩=some (.slice ao n0 cap):=by rw[Lib.cell_of_heap hb2,<-Lib.cell_of_heap hbk];exact c1
 have f1:w2.frozen? ⟨g,o+1,none⟩=false:=Lib.frozen_of_heap hb2 _;have hk2:=(hk1.alloc ob).grown hgrow (Fu (hown.alloc _));have hbw2:=(hb1.alloc (by have:=hb1.size;omega) ob).grown hgrow (by have:=hb1.size;simp;omega) (fun k hk=>(hown.lt k hk).1);obtain⟨ao',n',cap',rfl⟩: ∃ao n' cap,v'=.slice ao n' cap:=by
  rcases hown'.2 with⟨hv,_⟩|⟨g,cap,cur,hv,_⟩
  . exact⟨_,_,_,hv⟩
  . exact⟨_,_,_,hv⟩
 have hfin:=J2.put h1' hos hb2 (bs':=bs++Lib.encodeRune r) (v':=.slice ao' n' cap') (by
  rw[E6,List.length_append];rw[Mw]at hown';simpa[Lib.byteCells]using hown')
 have e1:(w2.setCell ⟨g,o+1,none⟩ (.slice ao' n' cap')).cell? ⟨g,o+1,none⟩=some (.slice ao' n' cap'):=World.cell?_setCell_same' _ _ _ (by rw[d1];rfl);clear hown hown' hgrow c1 hbk hb2 h1' hb1 hk1 hne;go_wp2;go_ret2;exact⟨⟨_,rfl⟩,⟨_,hfin⟩,hbw2.setCell (p:=⟨g,o+1,none⟩) hB _,hk2.setCell ⟨g,o+1,none⟩ rfl _⟩
theorem J5 (B g o:Nat) (t:TypeId) (cs:Array Value) (l:List UInt8) (w:World) (h:J2 w B g o t cs l) (hl0:l≠ []):
 Calls Tryz.prog 54 #[.pointer (some ⟨g,o,none⟩)] w fun e w'=>e=.returned (.string ⟨l.toArray⟩)/\Below B w w'/\Du g w w':=by
 obtain⟨hB,hbk,ht,hs,h0,v,hv,hown⟩:=h;have hl1:l.length≠0:=by simpa using hl0
 obtain⟨gg,cap,cur,rfl,hbg,hg,hnc,hcm,hcs,htake⟩: ∃gg cap cur,v=.slice (some ⟨gg,0,none⟩) l.length cap/\B<=gg/\w.heap[gg]? =some (.cells cur 5 (0,0))/\l.length<=cap/\cap<=maxLen/\cur.size=cap*1/\cur.toList.take (l.length*1)=Lib.byteCells l:=by
  rcases hown.2 with⟨_,hz⟩|⟨gg,cap,cur,hv,r⟩
  . exact absurd hz hl1
  . exact⟨gg,cap,cur,hv,r⟩
 have c1:w.drew.cell? ⟨g,o+1,none⟩=some (.slice (some ⟨gg,0,none⟩) l.length cap):=by
  have:w.drew.heap[g]? =some (.cells cs t (0,0)):=hbk;rw[Lib.cell_of_heap this];exact hv
 have hSD:(Builtin.unsafeSliceData_ #[26] 163 #[.slice (some ⟨gg,0,none⟩) l.length cap]).run Tryz.prog w.drew=.ok (.pointer (some ⟨gg,0,none⟩)) w.drew:=
  Lib.run_unsafeSliceData_row _ _ _ _ _ _ (by omega)
 have hUS:(Builtin.unsafeString_ #[163,3] 9 #[.pointer (some ⟨gg,0,none⟩),.int .i64 l.length]).run Tryz.prog w.drew=.ok (.string ⟨l.toArray⟩) (w.drew.freeze ⟨gg,0,none⟩ l.length):=by
  refine Lib.run_unsafeString_row w.drew 163 3 9 5 Tryz.underlying163 (by kernel_rfl) gg cur.size (by have hg':w.drew.heap[gg]? =some (.cells cur 5 (0,0)):=hg;simp[World.shape?,hg']) l hl0 (by omega) (by unfold maxLen at hcm;omega) ?_;intro j x hx;have:=hown.cells (g:=gg) rfl j (.int .u8 x.toNat) (by simp[Lib.byteCells,hx]);exact this
 clear hv h0;go_enter Tryz.func54,Tryz.ntmps54;go_wp2;go_region
 all_goals(go_wp2;go_ret;exact⟨rfl,Lib.below_freeze (Below.drew (Below.refl B w)) (p:=⟨gg,0,none⟩) hbg _,((Lib.OthersKept.refl _ _ w).drew).freeze ⟨gg,0,none⟩ _ ⟨cur,_,hg⟩⟩)
end Go.Proofs.YtobmaegpfbheoaaGreatDoor
