/- Parts, joined: Rows of values, cell by cell. No condition. commonplaceref02.Copy: what its contract says; rows of members. Plain. No condition. A range over an iterator that yields a known list, by a body that always goes on: the law that the walks use. No condition. parse.reader: its world, and its small functions: wrong, skip, comes. Condition: a text of at most 10^9 bytes. -/
import Derived.Test.YtkkbplakgldlpaaGreatDoorProg
import Derived.Laws.AppendOwn
import Derived.WalkKit
import Derived.Lib.Hide
import Derived.Lib.Builder
import Derived.RangeFuncNested
import Derived.RangeFuncBound
import Derived.RangeFuncCalls
import Derived.RangeFuncLeaves
import Derived.OwnWalkIn
import Derived.TacticsInMore
import Derived.BigQuiet
import Derived.Deep.QuietTactic
import Derived.WalkLawsBesides
import Derived.WalkSpells
import Derived.IntWalk
import Derived.Deep.LoopGhost
import Derived.Test.YtkkbplakgldlpaaGreatDoorKMu1
import Derived.Test.YtkkbplakgldlpaaGreatDoorKMu2
namespace Go.Proofs.YtkkbplakgldlpaaGreatDoor
open Go.RowKit
def RowL (w:World) (B:Nat):List Val→List Value→Prop
 | [],ns=>ns= []
 |v::r,ns=> ∃cs rest,ns=cs++rest∧HoldsV w B v cs∧RowL w B r rest
theorem HoldsV.len {w:World} {B:Nat} {v:Val} {cs:List Value} (h:HoldsV w B v cs):cs.length=6∧ ∀u ∈ cs,u.oneCell'=true:=by
 obtain⟨k,b,n,t,l,o⟩:=v
 simp only[HoldsV]at h
 obtain⟨la,lc,oa,oc,rfl,_,_⟩:=h
 refine⟨rfl,fun u hu=> ?_⟩
 simp only[List.mem_cons,List.not_mem_nil,or_false]at hu
 rcases hu with rfl|rfl|rfl|rfl|rfl|rfl<;>rfl
theorem RowL.len {w:World} {B:Nat}: ∀{l:List Val} {ns:List Value},RowL w B l ns→ns.length=l.length*6∧ ∀u ∈ ns,u.oneCell'=true
 | [],ns,h=>by
   have:ns= []:=h
   subst this
   exact⟨rfl,fun u hu=>by cases hu⟩
 |v::r,ns,h=>by
  obtain⟨cs,rest,rfl,h1,h2⟩:=h
  obtain⟨a1,a2⟩:=h1.len
  obtain⟨b1,b2⟩:=RowL.len h2
  refine⟨by rw[List.length_append,a1,b1,List.length_cons];omega,fun u hu=> ?_⟩
  rcases List.mem_append.1 hu with hu|hu
  · exact a2 u hu
  · exact b2 u hu
theorem HoldsL.row {w:World} {B:Nat}: ∀{l:List Val} {g off:Nat},HoldsL w B l g off→ ∃ns,RowL w B l ns∧ ∀j u,ns[j]? =some u→w.cell? ⟨g,off+j,none⟩=some u
 | [],_,_,_=>⟨[],rfl,fun j u h=>by simp at h⟩
 |v::r,g,off,h=>by
  simp only[HoldsL]at h
  obtain⟨⟨cs,h1,h2⟩,h3⟩:=h
  obtain⟨ns,h4,h5⟩:=HoldsL.row h3
  refine⟨cs++ns,⟨cs,ns,rfl,h1,h4⟩,fun j u hu=> ?_⟩
  have hl:=h1.len.1
  by_cases hj:j<6
  · rw[List.getElem?_append_left (by omega)]at hu
    exact h2 j u hu
  · rw[List.getElem?_append_right (by omega),hl]at hu
    have:=h5 (j - 6) u hu
    rwa [show off+6+(j - 6)=off+j from by omega]at this
theorem RowL.holds {w w':World} {B B':Nat} (hk: ∀v cs,HoldsV w B v cs→HoldsV w' B' v cs) {g:Nat}: ∀{l:List Val} {ns:List Value} {off:Nat},RowL w B l ns→(∀j u,ns[j]? =some u→w'.cell? ⟨g,off+j,none⟩=some u)→HoldsL w' B' l g off
 | [],_,_,_,_=>by simp[HoldsL]
 |v::r,ns,off,h,hc=>by
  obtain⟨cs,rest,rfl,h1,h2⟩:=h
  have hl:=h1.len.1
  simp only[HoldsL]
  refine⟨⟨cs,hk v cs h1,fun j u hu=>hc j u ?_⟩,RowL.holds hk h2 (fun j u hu=> ?_)⟩
  · have:=(List.getElem?_eq_some_iff.1 hu).1
    rw[List.getElem?_append_left this]
    exact hu
  · rw[show off+6+j=off+(6+j)from by omega]
    refine hc (6+j) u ?_
    rw[List.getElem?_append_right (by omega),hl,show 6+j - 6=j from by omega]
    exact hu
theorem RowL.snoc {w:World} {B:Nat} {v:Val} {cs:List Value} (hv:HoldsV w B v cs): ∀{l:List Val} {ns:List Value},RowL w B l ns→RowL w B (l++ [v]) (ns++cs)
 | [],ns,h=>by
   have:ns= []:=h
   subst this
   exact⟨cs, [],by simp,hv,rfl⟩
 |x::r,ns,h=>by
  obtain⟨c1,rest,rfl,h1,h2⟩:=h
  exact⟨c1,rest++cs,by simp,h1,RowL.snoc hv h2⟩
def within:Val→List Val
 | .mk k _ _ _ l o=>if k=5 then l else if k=6 then o.map (·.2)else []
end Go.Proofs.YtkkbplakgldlpaaGreatDoor

namespace Go.Proofs.YtkkbplakgldlpaaGreatDoor
open Go.RowKit
theorem RowL.more {w:World} {B B':Nat} (h:B≤B'): ∀{l:List Val} {ns:List Value},RowL w B l ns→RowL w B' l ns
 | [],_,e=>e
 |_::_,_,⟨cs,rest,e,h1,h2⟩=>⟨cs,rest,e,HoldsV.more h _ _ h1,RowL.more h h2⟩
def RowO (w:World) (B:Nat):List (ByteArray×Val)→List Value→Prop
 | [],ns=>ns= []
 |(key,v)::r,ns=> ∃cs rest,ns=.string key::(cs++rest)∧HoldsV w B v cs∧RowO w B r rest
theorem RowO.more {w:World} {B B':Nat} (h:B≤B'): ∀{l:List (ByteArray×Val)} {ns:List Value},RowO w B l ns→RowO w B' l ns
 | [],_,e=>e
 |(_,_)::_,_,⟨cs,rest,e,h1,h2⟩=>⟨cs,rest,e,HoldsV.more h _ _ h1,RowO.more h h2⟩
theorem RowO.holds {w:World} {B:Nat} {g:Nat}: ∀{l:List (ByteArray×Val)} {ns:List Value} {off:Nat},RowO w B l ns→(∀j u,ns[j]? =some u→w.cell? ⟨g,off+j,none⟩=some u)→HoldsO w B l g off
 | [],_,_,_,_=>by simp[HoldsO]
 |(key,v)::r,ns,off,h,hc=>by
  obtain⟨cs,rest,rfl,h1,h2⟩:=h
  have hl:=h1.len.1
  simp only[HoldsO,HoldsP]
  refine⟨⟨hc 0 _ rfl,cs,h1,fun j u hu=> ?_⟩,RowO.holds h2 (fun j u hu=> ?_)⟩
  · have h3:=(List.getElem?_eq_some_iff.1 hu).1
    rw[show off+1+j=off+(j+1)from by omega]
    refine hc (j+1) u ?_
    rw[List.getElem?_cons_succ,List.getElem?_append_left h3]
    exact hu
  · rw[show off+7+j=off+(6+j+1)from by omega]
    refine hc (6+j+1) u ?_
    rw[List.getElem?_cons_succ,List.getElem?_append_right (by omega),hl,show 6+j - 6=j from by omega]
    exact hu
theorem RowO.snoc {w:World} {B:Nat} {key:ByteArray} {v:Val} {cs:List Value} (hv:HoldsV w B v cs): ∀{l:List (ByteArray×Val)} {ns:List Value},RowO w B l ns→RowO w B (l++ [(key,v)]) (ns++(.string key::cs))
 | [],ns,h=>by
   have:ns= []:=h
   subst this
   exact⟨cs, [],by simp,hv,rfl⟩
 |(k',x)::r,ns,h=>by
  obtain⟨c1,rest,rfl,h1,h2⟩:=h
  exact⟨c1,rest++(.string key::cs),by simp,h1,RowO.snoc hv h2⟩
theorem info_val:(Tryz.prog.info? 27).map (fun i=>(i.zero,i.size,i.bytes))=some (some (.agg #[.int .i64 0,.bool false,.int .i64 0,.string ⟨#[]⟩,.slice none 0 0,.slice none 0 0]),6,88):=by kernel_rfl
theorem info_mem:(Tryz.prog.info? 63).map (fun i=>(i.zero,i.size,i.bytes))=some (some (.agg #[.string ⟨#[]⟩,.int .i64 0,.bool false,.int .i64 0,.string ⟨#[]⟩,.slice none 0 0,.slice none 0 0]),7,104):=by kernel_rfl
theorem setCell_far (w:World) (b i:Nat) (V:Value) {c:Nat} (h:c≠b):(w.setCell ⟨b,i,none⟩ V).heap[c]? =w.heap[c]? :=by
 simp only[World.setCell,Array.getElem?_modify]
 rw[if_neg (fun e=>h e.symm)]
end Go.Proofs.YtkkbplakgldlpaaGreatDoor

namespace Go.Proofs.YtkkbplakgldlpaaGreatDoor
open Go.RowKit
def Yields {α:Type} (P:Program) (gf:Nat) (lb:Array Value) (encs:α→Array Value) (xs:List α) (N:World→Prop):Prop:=
 ∀(n l:Nat) (J:List α→World→Prop) (W:World),(∀s A B,J s A→Below A.heap.size A B→J s B)→(∀s A,J s A→N A)→
  (∀pre x rest A,xs=pre++x::rest→J pre A→YieldAt Fence.wide n P l (encs x) A fun e B=>e=.returned (.bool true)∧J (pre++ [x]) B)→
  J [] W→CallsIn Fence.wide (n+1) P gf (#[.func (.yield l) #[] #[]]++lb) W fun e B=>(∃v,e=.returned v)∧J xs B
def goesOn (I:World→Prop) (d:Nat) (W:World):Exit→Act→World→Prop
 | .normal,_,W'=>W'.heap[d]? =W.heap[d]? ∧W'.heap[d+1]? =W.heap[d+1]? ∧I W'
 |_,_,_=>False
theorem wp_range_all {α:Type} {P:Program} {g:Operand} {ps:Array Tmp} {assign body:Code} {Q:Exit→Act→World→Prop} {a:Act} {w:World} {n:Nat}
 {gf:Nat} {lb:Array Value} (hg:a.eval g=.func (.func gf) #[] lb) (eg: ∀args w,(callFunc gf args).run P w=.ok (.enter gf args) w)
 {encs:α→Array Value} {xs:List α} {N:World→Prop} (hit:Yields P gf lb encs xs N) (hps: ∀x,(encs x).size=ps.size)
 (I:List α→World→Prop) (hIn: ∀s A B,I s A→Below A.heap.size A B→I s B)
 (hIp: ∀s A k o o',I s A→A.heap[k]? =some o→o.isCells=false→(k=w.heap.size∨k=w.heap.size+1)→I s (A.putObj k o'))
 (hIb: ∀s A,I s A→N A) (h0:I [] w) (a₁:α→Act)
 (hassign: ∀(l:Nat) (x:α) (W:World) (K:Act→World→Prop),K (a₁ x) W→
   assign.wpIn (Fence.wide.inRound l) n P (Exit.then K (fun _ _ _=>False)) {tmps:=(ps.zip (encs x)).foldl (fun t (p,v)=>t.setIfInBounds p v) a.tmps,defers:= []} W)
 (hbody: ∀(l:Nat) (pre:List α) (x:α) (rest:List α) (W:World),xs=pre++x::rest→I pre W→(∃ds,W.heap[w.heap.size]? =some (.deferred ds))→(∃r,W.heap[w.heap.size+1]? =some (.loop r))→
   body.wpIn (Fence.wide.inRound l) n P (goesOn (I (pre++ [x])) w.heap.size W) (a₁ x) W)
 (hdone: ∀(W:World),I xs W→W.heap[w.heap.size]? =some (.deferred (some []))→Q .normal {a with defers:={target:=.collected w.heap.size,args:= #[]}::a.defers} W):
 (Code.rangeFunc g ps assign body).wpIn Fence.wide (n+1+1) P Q a w:=by
 refine wpIn_rangeFunc ?_
 intro fn hfn
 have hro:Fence.wide.round=none:=rfl
 rw[hro]
 obtain⟨rec,hrec⟩: ∃rec:LoopState→Option Code→Loop,rec=fun st pe=>{state:=st,pending:=pe,fn,tmps:=a.tmps,params:=ps,assign,body,defers:=w.heap.size}:=⟨_,rfl⟩
 obtain⟨W1,hW1⟩: ∃W1,(w.alloc (.deferred (some []))).alloc (.loop (rec .ready none))=W1:=⟨_,rfl⟩
 have hL1:W1.heap[w.heap.size+1]? =some (.loop (rec .ready none)):=by
  rw[←hW1];have:=World.alloc_heap_new (w.alloc (.deferred (some []))) (.loop (rec .ready none));rwa [World.size_alloc]at this
 have hK1:W1.heap[w.heap.size]? =some (.deferred (some [])):=by
  rw[←hW1];exact(Below.heap_alloc _ _ _ (by simp)).trans (World.alloc_heap_new w _)
 have hI1:I [] W1:=by
  rw[←hW1];exact hIn _ _ _ h0 (((Below.refl _ w).alloc (Nat.le_refl _) _).alloc (by simp) _)
 refine⟨w.heap.size+1, [{target:=.collected w.heap.size,args:= #[]}],W1,{target:=.fn (.func gf) lb,args:= #[.func (.yield (w.heap.size+1)) #[] #[]]},W1,gf,
  #[.func (.yield (w.heap.size+1)) #[] #[]]++lb,W1, ?_, ?_, ?_, ?_,fun h=>by simp[Fence.wide]at h, ?_⟩
 · rw[←hW1,hrec];exact run_enterLoop_outer _ _ _ _ _
 · simp only[resolve,hg]
   simp[go_sem]
 · intro f' _;trivial
 · simp[invoke,go_sem,eg]
 · refine(hit n (w.heap.size+1)
    (fun pre W=>I pre W∧W.heap[w.heap.size+1]? =some (.loop (rec .ready none))∧W.heap[w.heap.size]? =some (.deferred (some [])))
    W1 (fun s A B hs hb=>⟨hIn s A B hs.1 hb,(hb.block _ (Array.getElem?_eq_some_iff.1 hs.2.1).1).trans hs.2.1,(hb.block _ (Array.getElem?_eq_some_iff.1 hs.2.2).1).trans hs.2.2⟩)
    (fun s A hs=>hIb s A hs.1) ?_ ⟨hI1,hL1,hK1⟩).mono ?_
   ·
    rintro pre x rest W hx ⟨hi,hl,hk⟩
    have hlt:w.heap.size+1<W.heap.size:=(Array.getElem?_eq_some_iff.1 hl).1
    have hy:=run_yield (P:=P) (args:=encs x) hl (by rw[hrec];exact hps x)
    rw[hrec]at hy
    refine⟨fn,_,assign,body,hy,roundIn_of_wpIn trivial (hassign _ x W _ ⟨_,run_beginRound hl (by rw[hrec]), ?_⟩)⟩
    have hl2:(W.putObj (w.heap.size+1) (.loop {rec .ready none with state:=.busy})).heap[w.heap.size+1]? =some (.loop {rec .ready none with state:=.busy}):=World.putObj_heap_same hlt
    have hk2:(W.putObj (w.heap.size+1) (.loop {rec .ready none with state:=.busy})).heap[w.heap.size]? =some (.deferred (some [])):=(World.putObj_heap_other (by omega)).trans hk
    refine wpIn_mono (hbody _ pre x rest _ hx (hIp _ _ _ _ _ hi hl rfl (.inr rfl)) ⟨_,hk2⟩ ⟨_,hl2⟩) ?_
    rintro e a3 W3 hp
    cases e with
    |normal=>
     obtain⟨h1,h2,hi3⟩:=hp
     have hl3:=h2.trans hl2
     have hk3:=h1.trans hk2
     have hr:=run_endRound (P:=P) none hl3
     rw[hrec]at hr
     refine⟨_,_,hr,rfl,hIp _ _ _ _ _ hi3 hl3 rfl (.inr rfl), ?_, ?_⟩
     · rw[World.putObj_heap_same (Array.getElem?_eq_some_iff.1 hl3).1,hrec];rfl
     · exact(World.putObj_heap_other (by omega)).trans hk3
    |ret=>exact hp.elim
    |exit id=>exact hp.elim
    |goto t=>exact hp.elim
    |panic ch=>exact hp.elim
    |outgrown=>exact hp.elim
   ·
    rintro e W2 ⟨⟨v,rfl⟩,hi,hl,hk⟩
    exact⟨none,_,by have:=run_endLoop (P:=P) hl (by rw[hrec];simp);rw[hrec]at this;exact this,hdone _ (hIp _ _ _ _ _ hi hl rfl (.inr rfl)) ((World.putObj_heap_other (by omega)).trans hk)⟩
end Go.Proofs.YtkkbplakgldlpaaGreatDoor

namespace Go.Proofs.YtkkbplakgldlpaaGreatDoor
open Go Go.RowKit
def faultE (e q:Int):Ending:=.panicked [{v:=.iface 127 (.agg #[.int .i64 e,.int .i64 q]),recovered:=false}]
def KV (R:Nat):List (Int×Value):=
 let f:=fun n:Nat=>Value.func (.func n) #[.pointer (some ⟨R,0,none⟩)] #[]
 [(110,f 134),(102,f 135),(116,f 136),(34,f 137),(91,f 138),(123,f 139),(45,f 140),
  (48,f 140),(49,f 140),(50,f 140),(51,f 140),(52,f 140),(53,f 140),(54,f 140),(55,f 140),(56,f 140),(57,f 140)]
def RdB (w:World) (R g:Nat) (s:ByteArray) (k:Nat):Prop:=Blk w R 133 #[.string s,.int .i64 k,.map (some g)]
def RdTo (R g:Nat) (s:ByteArray) (k':Nat) (w w':World):Prop:=w.grownBy w' (some R)∧RdB w' R g s k'
theorem grownBy_trans {w w1 w2:World} {r:Option Nat} (h:w.grownBy w1 r) (k:w1.grownBy w2 r):w.grownBy w2 r:=
 ⟨k.os.trans h.os,k.tape.trans h.tape,k.output.trans h.output,Nat.le_trans h.size k.size,fun i hi hn=>(k.block i (Nat.lt_of_lt_of_le hi h.size) hn).trans (h.block i hi hn)⟩
theorem grownBy_drewN {w w1:World} {r:Option Nat} (h:w.grownBy w1 r) (n:Nat):w.grownBy (w1.drewN n) r:=⟨h.os,h.tape,h.output,h.size,h.block⟩
theorem grownBy_alloc {w w1:World} {r:Option Nat} (h:w.grownBy w1 r) (o:Obj):w.grownBy (w1.alloc o) r:=
 ⟨h.os,h.tape,h.output,Nat.le_trans h.size (by simp),fun i hi hne=>(Below.heap_alloc w1 o i (Nat.lt_of_lt_of_le hi h.size)).trans (h.block i hi hne)⟩
theorem grownBy_below {w w1 w2:World} {r:Option Nat} (h:w.grownBy w1 r) (k:Below w1.heap.size w1 w2):w.grownBy w2 r:=
 ⟨k.os.trans h.os,k.tape.trans h.tape,k.output.trans h.output,Nat.le_trans h.size k.size,fun i hi hn=>(k.block i (Nat.lt_of_lt_of_le hi h.size)).trans (h.block i hi hn)⟩
theorem grownBy_set {w w1:World} {r:Nat} (h:w.grownBy w1 (some r)) (p:Addr) (hp:p.block=r∨w.heap.size≤p.block) (u:Value):w.grownBy (w1.setCell p u) (some r):=
 ⟨h.os,h.tape,h.output,by simpa[World.setCell]using h.size,fun i hi hne=>(Below.heap_setCell w1 p u i (by
   rintro rfl
   rcases hp with hp|hp
   · exact hne (by rw[hp])
   · omega)).trans (h.block i hi hne)⟩
theorem grownBy_of_below {w w1:World} (r:Option Nat) (k:Below w.heap.size w w1):w.grownBy w1 r:=⟨k.os,k.tape,k.output,k.size,fun i hi _=>k.block i hi⟩
theorem RdTo.refl {w:World} {R g k:Nat} {s:ByteArray} (h:RdB w R g s k):RdTo R g s k w w:=⟨World.grownBy.refl _ _,h⟩
theorem RdTo.trans {w w1 w2:World} {R g k k':Nat} {s:ByteArray} (h:RdTo R g s k w w1) (h':RdTo R g s k' w1 w2):RdTo R g s k' w w2:=⟨grownBy_trans h.1 h'.1,h'.2⟩
theorem RdTo.drewN {w w1:World} {R g k:Nat} {s:ByteArray} (h:RdTo R g s k w w1) (n:Nat):RdTo R g s k w (w1.drewN n):=⟨grownBy_drewN h.1 n,h.2⟩
theorem RdTo.drew {w w1:World} {R g k:Nat} {s:ByteArray} (h:RdTo R g s k w w1):RdTo R g s k w w1.drew:=⟨⟨h.1.os,h.1.tape,h.1.output,h.1.size,h.1.block⟩,h.2⟩
theorem RdTo.alloc {w w1:World} {R g k:Nat} {s:ByteArray} (h:RdTo R g s k w w1) (o:Obj):RdTo R g s k w (w1.alloc o):=⟨grownBy_alloc h.1 o,Blk.alloc h.2 o⟩
theorem RdTo.below {w w1 w2:World} {R g k:Nat} {s:ByteArray} (h:RdTo R g s k w w1) (hb:Below w1.heap.size w1 w2):RdTo R g s k w w2:=⟨grownBy_below h.1 hb,Blk.below h.2 hb (Blk.lt h.2)⟩
theorem RdTo.set {w w1:World} {R g k:Nat} {s:ByteArray} (h:RdTo R g s k w w1) (k':Nat):RdTo R g s k' w (w1.setCell ⟨R,1,none⟩ (.int .i64 k')):=
 ⟨grownBy_set h.1 _ (.inl rfl) _,by have:=Blk.set_ h.2 1 (.int .i64 k');exact this⟩
theorem RdB.cells {w:World} {R g k:Nat} {s:ByteArray} (h:RdB w R g s k):w.cell? ⟨R,0,none⟩=some (.string s)∧w.cell? ⟨R,1,none⟩=some (.int .i64 k)∧w.cell? ⟨R,2,none⟩=some (.map (some g))∧w.frozen? ⟨R,1,none⟩=false∧R<w.heap.size:=
 ⟨Blk.cell h 0,Blk.cell h 1,Blk.cell h 2,Blk.frozen h 1,Blk.lt h⟩
theorem get_byte (s:ByteArray) {a:Nat} (h:a<s.size):s.data.toList[a]? =some s[a]:=by
 rw[List.getElem?_eq_getElem (by rw[←Lib.size_eq];exact h)]
 rfl
theorem byte_lt (c:UInt8):(c.toNat:Int)<256:=by have:=c.toNat_lt;omega
theorem byte_eq {c:UInt8} {n:Nat} (hn:n<256):((c.toNat:Int)==(n:Int))=(c==UInt8.ofNat n):=by
 rw[Bool.eq_iff_iff]
 simp only[beq_iff_eq]
 constructor
 · intro h
   have:c.toNat=n:=by omega
   subst this
   simp
 · rintro rfl
   simp[UInt8.toNat_ofNat',Nat.mod_eq_of_lt hn]
theorem wrong_calls (p:Value) (e q:Int) (w:World):Calls Tryz.prog 93 #[p,.int .i64 e,.int .i64 q] w fun r w'=>r=faultE e q∧w'=w:=by
 go_enter Tryz.func93,Tryz.ntmps93
 go_wp2
 exact⟨rfl,rfl,rfl⟩
set_option maxRecDepth 100000 in
set_option maxHeartbeats 4000000 in
theorem skip_calls (R g:Nat) (s:ByteArray) (k:Nat) (w:World) (hs:s.size≤1000000000) (hk:k≤s.size) (h:RdB w R g s k):
 Calls Tryz.prog 92 #[.pointer (some ⟨R,0,none⟩)] w fun e w'=>e=.returned (.tuple #[])∧RdTo R g s (past s.data.toList k) w w':=by
 obtain⟨P,hP⟩: ∃P,past s.data.toList k=P:=⟨_,rfl⟩
 have H0:=Lib.hid (And.intro hP (RdTo.refl h))
 rw[hP]
 clear h hP
 go_enter Tryz.func92,Tryz.ntmps92
 go_wp2
 go_loopg [] (s.size - k) (fun n wr=> ∃j:Nat,j≤s.size∧n=s.size - j∧Hid (past s.data.toList j=P∧RdTo R g s j w wr))
 case atStart=>exact⟨k,hk,rfl,H0⟩
 case round=>
  obtain⟨j,hj,rfl,hh⟩:=hrel
  clear H0
  obtain⟨c0,c1,_,f1,hR⟩:=hh.out.2.2.cells
  by_cases hlt:j<s.size
  · obtain⟨c,hc⟩: ∃c,s[j]=c:=⟨_,rfl⟩
    have hg:s.data.toList[j]? =some c:=by rw[get_byte s hlt,hc]
    have hcl:=byte_lt c
    have i1:(j:Int)<(s.size:Int):=by omega
    have i0:(0:Int)≤(j:Int):=by omega
    by_cases hbl:isBlank c=true
    · have HN:Hid (past s.data.toList (j+1)=P∧ ∀nq,RdTo R g s (j+1) w ((wr.drewN nq).setCell ⟨R,1,none⟩ (.int .i64 ((j+1:Nat):Int)))):=
       ⟨by rw[←past_step hg hbl];exact hh.out.1,fun nq=>(hh.out.2.drewN nq).set _⟩
      unfold isBlank at hbl
      simp only[Bool.or_eq_true,beq_iff_eq]at hbl
      clear hg hh
      rcases hbl with((hbl|hbl)|hbl)|hbl
      all_goals
       subst hbl
       go_wp2
       go_quiet (fail)
       go_wp2
       go_quiet (fail)
       go_wp2
       go_roundg (s.size - (j+1))
       case measure=>omega
       case rel=>exact⟨j+1,by omega,rfl,HN.out.1,HN.out.2 _⟩
    · have HN:Hid (j=P∧ ∀nq,RdTo R g s j w (wr.drewN nq)):=⟨by rw[←hh.out.1,past_stop hg (by simpa using hbl)],fun nq=>hh.out.2.drewN nq⟩
      unfold isBlank at hbl
      simp only[Bool.or_eq_true,beq_iff_eq,not_or]at hbl
      obtain⟨⟨⟨h9,h10⟩,h13⟩,h32⟩:=hbl
      have ne: ∀n:Nat,n<256→c≠UInt8.ofNat n→((c.toNat:Int)==(n:Int))=false:=fun n hn h=>by rw[byte_eq hn];simpa using h
      have e9:((c.toNat:Int)==9)=false:=ne 9 (by decide) h9
      have e10:((c.toNat:Int)==10)=false:=ne 10 (by decide) h10
      have e13:((c.toNat:Int)==13)=false:=ne 13 (by decide) h13
      have e32:((c.toNat:Int)==32)=false:=ne 32 (by decide) h32
      clear ne h9 h10 h13 h32 hg hh
      go_wp2
      go_quiet (fail)
      go_wp2
      go_quiet (fail)
      go_wp2
      refine bodyPost_ret (results_none rfl _ _ _) rfl ?_
      refine⟨rfl, ?_⟩
      rw[←HN.out.1]
      exact HN.out.2 _
  · have HN:Hid (j=P∧ ∀nq,RdTo R g s j w (wr.drewN nq)):=⟨by rw[←hh.out.1,past_end (by rw[←Lib.size_eq];omega)],fun nq=>hh.out.2.drewN nq⟩
    have i1: ¬((j:Int)<(s.size:Int)):=by omega
    clear hh
    go_wp2
    go_quiet (fail)
    go_wp2
    go_end0
    refine⟨rfl, ?_⟩
    rw[←HN.out.1]
    exact HN.out.2 _
theorem size_toList (s:ByteArray):s.data.toList.length=s.size:=by rw[Array.length_toList];rfl
theorem past_size {s:ByteArray} {k:Nat} (hk:k≤s.size):past s.data.toList k≤s.size:=by
 have:=past_le (s:=s.data.toList) (p:=k) (by rw[size_toList];exact hk)
 rwa [size_toList]at this
set_option maxRecDepth 100000 in
set_option maxHeartbeats 4000000 in
theorem comes_yes (R g:Nat) (s:ByteArray) (k:Nat) (c:UInt8) (w:World) (hs:s.size≤1000000000) (hk:k≤s.size) (h:RdB w R g s k) (hc:s.data.toList[past s.data.toList k]? =some c):
 Calls Tryz.prog 171 #[.pointer (some ⟨R,0,none⟩),.int .u8 c.toNat] w fun e w'=>e=.returned (.bool true)∧RdTo R g s (past s.data.toList k+1) w w':=by
 have hS:=skip_calls R g s k w hs hk h
 have hP:=past_size hk
 generalize past s.data.toList k=P at hS hP hc ⊢
 have hlt:P<s.size:=by have:=get_lt hc;rwa [size_toList]at this
 have hx:s[P]=c:=by rw[get_byte s hlt]at hc;exact Option.some.inj hc
 have hcl:=byte_lt c
 have i0:(0:Int)≤(P:Int):=by omega
 have i1:(P:Int)<(s.size:Int):=by omega
 have e1:((P:Int)==(s.size:Int))=false:=by rw[beq_eq_false_iff_ne];omega
 clear hc h
 have HS:=Lib.hid hS
 clear hS
 go_enter Tryz.func171,Tryz.ntmps171
 go_wp2_with (fail)
 with_reducible refine(HS.out).mono ?_
 rintro e w1 ⟨rfl,h1⟩
 obtain⟨c0,c1,_,f1,hR⟩:=h1.2.cells
 have H1:=Lib.hid h1
 clear h1
 go_wp2
 go_quiet (fail)
 go_wp2
 go_ret
 exact⟨rfl,(H1.out.drewN _).set _⟩
set_option maxRecDepth 100000 in
set_option maxHeartbeats 4000000 in
theorem comes_no (R g:Nat) (s:ByteArray) (k:Nat) (c:UInt8) (w:World) (hs:s.size≤1000000000) (hk:k≤s.size) (h:RdB w R g s k) (hc: ¬(s.data.toList[past s.data.toList k]? =some c)):
 Calls Tryz.prog 171 #[.pointer (some ⟨R,0,none⟩),.int .u8 c.toNat] w fun e w'=>e=.returned (.bool false)∧RdTo R g s (past s.data.toList k) w w':=by
 have hS:=skip_calls R g s k w hs hk h
 have hP:=past_size hk
 generalize past s.data.toList k=P at hS hP hc ⊢
 have i0:(0:Int)≤(P:Int):=by omega
 by_cases hlt:P<s.size
 · obtain⟨x,hx⟩: ∃x,s[P]=x:=⟨_,rfl⟩
   have hne:((x.toNat:Int)==(c.toNat:Int))=false:=by
    rw[get_byte s hlt,hx]at hc
    rw[beq_eq_false_iff_ne]
    intro e
    exact hc (by rw[UInt8.toNat_inj.1 (by omega:x.toNat=c.toNat)])
   have hne2:((x.toNat:Int) != (c.toNat:Int))=true:=by unfold bne;rw[hne];rfl
   have hcl:=byte_lt c
   have hxl:=byte_lt x
   have i1:(P:Int)<(s.size:Int):=by omega
   have e1:((P:Int)==(s.size:Int))=false:=by rw[beq_eq_false_iff_ne];omega
   clear hc h
   have HS:=Lib.hid hS
   clear hS
   go_enter Tryz.func171,Tryz.ntmps171
   go_wp2_with (fail)
   with_reducible refine(HS.out).mono ?_
   rintro e w1 ⟨rfl,h1⟩
   obtain⟨c0,c1,_,f1,hR⟩:=h1.2.cells
   have H1:=Lib.hid h1
   clear h1
   go_wp2
   go_quiet (fail)
   go_wp2
   go_ret
   exact⟨rfl,H1.out.drewN _⟩
 · obtain rfl:P=s.size:=by omega
   have e1:((s.size:Int)==(s.size:Int))=true:=by simp
   clear hc h
   have HS:=Lib.hid hS
   clear hS
   go_enter Tryz.func171,Tryz.ntmps171
   go_wp2_with (fail)
   with_reducible refine(HS.out).mono ?_
   rintro e w1 ⟨rfl,h1⟩
   obtain⟨c0,c1,_,f1,hR⟩:=h1.2.cells
   have H1:=Lib.hid h1
   clear h1
   go_wp2
   go_quiet (fail)
   go_wp2
   go_ret
   exact⟨rfl,H1.out.drewN _⟩
theorem comes_calls (R g:Nat) (s:ByteArray) (k:Nat) (c:UInt8) {B:Bool} (w:World) (hs:s.size≤1000000000) (hk:k≤s.size) (h:RdB w R g s k) (hB:decide (s.data.toList[past s.data.toList k]? =some c)=B):
 Calls Tryz.prog 171 #[.pointer (some ⟨R,0,none⟩),.int .u8 c.toNat] w fun e w'=>e=.returned (.bool B)∧RdTo R g s (if B=true then past s.data.toList k+1 else past s.data.toList k) w w':=by
 subst hB
 by_cases hc:s.data.toList[past s.data.toList k]? =some c
 · rw[decide_eq_true hc,if_pos rfl];exact comes_yes R g s k c w hs hk h hc
 · rw[decide_eq_false hc,if_neg (by decide)];exact comes_no R g s k c w hs hk h hc
end Go.Proofs.YtkkbplakgldlpaaGreatDoor
