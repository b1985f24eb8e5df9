/- Parts, joined: The writer of texts: join. Condition: at most 10^11 bytes. A range over an iterator that yields a known list, each of it in one of several ways (what way, q, is known in the round alone), by a body that always goes on. No condition. Rows that a call makes and fills, of data of any make. Plain. No condition. A range over an iterator that yields a known list, by a body that may leave the function: the law that the walks use. No condition. -/
import Derived.Test.YtkkbplakgldlpaaGreatDoorProg
import Derived.RangeFuncNested
import Derived.RangeFuncBound
import Derived.RangeFuncCalls
import Derived.RangeFuncLeaves
import Derived.WalkKit
import Derived.OwnWalkIn
import Derived.TacticsInMore
import Derived.Test.YtkkbplakgldlpaaGreatDoorKMu1
import Derived.Test.YtkkbplakgldlpaaGreatDoorKMu3
import Derived.Test.YtkkbplakgldlpaaGreatDoorKMu5
import Derived.Test.YtkkbplakgldlpaaGreatDoorKMu6
namespace Go.Proofs.YtkkbplakgldlpaaGreatDoor
open Go.RowKit
def Wr (W:World) (B g:Nat) (keeps:Bool) (acc:List UInt8):Prop:=
 ∃p v,Bld W B g 1 115 #[.bool keeps,p,v,.int .i64 (acc.length:Int)] (if keeps then acc else [])
theorem liesW:liesAt Tryz.prog Tryz.prog.depth 115 (4 / Tryz.prog.cellsOf 115) 1 113 1=true:=by kernel_rfl
theorem Bld.other {w:World} {B g o:Nat} {t:TypeId} {cs:Array Value} {bs:List UInt8} (h:Bld w B g o t cs bs) (i:Nat) (hi:i≠o) (hi2:i≠o+1) (u:Value):
 Bld (w.setCell ⟨g,i,none⟩ u) B g o t (cs.setIfInBounds i u) bs:=by
 obtain⟨hB,hb,ht,hs,h0,v,h1,hown⟩:=h
 refine⟨hB,setCell_heap hb _,ht,by simpa using hs, ?_,v,by rw[Array.getElem?_setIfInBounds,if_neg hi2];exact h1, ?_⟩
 · rw[Array.getElem?_setIfInBounds,if_neg hi];exact h0
 · exact hown.kept (row:=some g) ⟨rfl,rfl,rfl,by simp[World.setCell],fun k _ hk=>Below.heap_setCell _ _ _ _ (fun e=>hk (by simp[e]))⟩ (Or.inr (Lib.ownBlock_ne hown hb ht))
theorem Wr.below {A W:World} {B g:Nat} {k:Bool} {acc:List UInt8} (h:Wr A B g k acc) (hb:Below A.heap.size A W):Wr W B g k acc:=by
 obtain⟨p,v,h⟩:=h
 exact⟨p,v,h.keep (below_grown hb) (fun k e=>by cases e)⟩
theorem Wr.put {A:World} {B g k:Nat} {b:Bool} {acc:List UInt8} {o o':Obj} (h:Wr A B g b acc) (ho:A.heap[k]? =some o) (hc:o.isCells=false):Wr (A.putObj k o') B g b acc:=by
 obtain⟨p,v,h⟩:=h
 exact⟨p,v,h.keep (grownBy_putObj' A k o') (fun j e=>by cases e;exact⟨o,ho,hc⟩)⟩
theorem Wr.lt {A:World} {B g:Nat} {k:Bool} {acc:List UInt8} (h:Wr A B g k acc):g<A.heap.size:=by
 obtain⟨p,v,h⟩:=h
 exact h.lt
theorem Wr.base {A:World} {B g:Nat} {k:Bool} {acc:List UInt8} (h:Wr A B g k acc):B≤g:=by
 obtain⟨p,v,h⟩:=h
 exact h.1
def flat (ss:List ByteArray):List UInt8:=ss.flatMap fun s=>s.data.toList
theorem flat_snoc (ss:List ByteArray) (s:ByteArray):flat (ss++ [s])=flat ss++s.data.toList:=by simp[flat]
set_option maxHeartbeats 2000000 in
set_option maxRecDepth 100000 in
theorem join_calls (B g:Nat) (keeps:Bool) (acc:List UInt8) (ss:List ByteArray) (b c:Nat) (w:World) (h:Wr w B g keeps acc) (hp:w.heap[b]? =some (.cells (ss.map Value.string).toArray 9 (0,0))) (hbg:b≠g)
 (hlen:acc.length+(flat ss).length≤50000000000) (hn:ss.length≤1000):
 Calls Tryz.prog 120 #[.pointer (some ⟨g,0,none⟩),.slice (some ⟨b,0,none⟩) ss.length c] w fun e w'=>e=.returned (.tuple #[])∧Wr w' B g keeps (acc++flat ss)∧Below B w w'∧Kept g w w':=by
 go_enter Tryz.func120,Tryz.ntmps120
 go_wp2
 go_loopw [8] (fun i wr=> ∃k:Nat,k≤ss.length∧i=.int .i64 k∧Wr wr B g keeps (acc++flat (ss.take k))∧Below B w wr∧Kept g w wr) (fun i _=>ss.length - (intOf i).toNat)
 case atStart=>exact⟨0,Nat.zero_le _,rfl,by simpa[flat]using h,Below.refl _ _,Lib.OthersKept.refl _ _ _⟩
 case round=>
  obtain⟨k,hk,rfl,hw,hb,hkp⟩:=hrel
  by_cases hlt:k<ss.length
  · obtain⟨s,hs⟩: ∃s,ss[k]? =some s:=⟨_,List.getElem?_eq_getElem hlt⟩
    have htk:ss.take (k+1)=ss.take k++ [s]:=by rw[List.take_add_one,hs];rfl
    have hfl:(flat ss).length=(flat (ss.take k)).length+s.size+(flat (ss.drop (k+1))).length:=by
     have:ss=ss.take k++ [s]++ss.drop (k+1):=by rw[←htk,List.take_append_drop]
     have h2:=congrArg (fun l=>(flat l).length) this
     simp only[flat,List.flatMap_append,List.length_append,List.flatMap_cons,List.flatMap_nil,List.append_nil]at h2 ⊢
     rw[h2,Lib.size_eq]
    have hpr:=hkp _ _ hp (by simpa using hbg) (fun c fz e=>by cases e)
    have cp:wr.cell? ⟨b,k,none⟩=some (.string s):=by rw[Lib.cell_of_heap hpr];simp[hs]
    obtain⟨p,v,hbl⟩:=hw
    have hbl':=hbl
    obtain⟨hB,hbk,ht,_,_,_⟩:=hbl'
    have g0:wr.cell? ⟨g,0,none⟩=some (.bool keeps):=by rw[Lib.cell_of_heap hbk];rfl
    have g3:wr.cell? ⟨g,3,none⟩=some (.int .i64 ((acc++flat (ss.take k)).length:Int)):=by rw[Lib.cell_of_heap hbk];rfl
    have f3:wr.frozen? ⟨g,3,none⟩=false:=Lib.frozen_of_heap hbk 3
    have hln:(acc++flat (ss.take k)).length≤50000000000:=by rw[List.length_append];omega
    have hln2:(acc++flat (ss.take k)).length+s.size≤50000000000:=by rw[List.length_append];omega
    have hz:=hbl.lt
    have hfin:acc++flat (ss.take (k+1))=(acc++flat (ss.take k))++s.data.toList:=by rw[htk,flat_snoc,List.append_assoc]
    generalize acc++flat (ss.take k)=L at*
    have Hfin:=Lib.hid hfin
    have he:((L.length:Int)+(s.size:Int))=((L++s.data.toList).length:Int):=by rw[List.length_append,←Lib.size_eq];omega
    have He:=Lib.hid he
    clear hfin he hbk htk hfl
    cases keeps
    · have hbs:Bld (wr.setCell ⟨g,3,none⟩ (.int .i64 ((L.length:Int)+(s.size:Int)))) B g 1 115 #[.bool false,p,v,.int .i64 ((L.length:Int)+(s.size:Int))] []:=hbl.other 3 (by omega) (by omega) _
      go_wp2
      go_roundw
      case rel=>
       refine⟨k+1,by omega,by go_num, ?_,hb.setCell (p:=⟨g,3,none⟩) hB _,hkp.setCell ⟨g,3,none⟩ rfl _⟩
       rw[Hfin.out]
       rw[He.out]at hbs ⊢
       exact⟨p,v,hbs⟩
      case measure=>simp[intOf];omega
    · have hbs:Bld (wr.setCell ⟨g,3,none⟩ (.int .i64 ((L.length:Int)+(s.size:Int)))) B g 1 115 #[.bool true,p,v,.int .i64 ((L.length:Int)+(s.size:Int))] L:=hbl.other 3 (by omega) (by omega) _
      go_wp2_with (go_at_call 163;refine(WriteString_calls B g 1 _ _ L s _ hbs liesW (by omega) (by simp[World.setCell];omega)).mono ?_;rintro e w2 ⟨rfl,⟨v',hb2⟩,hbw2,hk2⟩)
      go_roundw
      case rel=>
       refine⟨k+1,by omega,by go_num, ?_,(hb.setCell (p:=⟨g,3,none⟩) hB _).trans hbw2,(hkp.setCell ⟨g,3,none⟩ rfl _).trans hk2⟩
       rw[Hfin.out]
       rw[He.out]at hb2
       exact⟨_,v',hb2⟩
      case measure=>simp[intOf];omega
  · obtain rfl:k=ss.length:=by omega
    rw[List.take_length]at hw
    have Hw:=Lib.hid hw
    clear hw
    go_wp2
    go_end0
    exact⟨rfl,Hw.out,hb,hkp⟩
end Go.Proofs.YtkkbplakgldlpaaGreatDoor

namespace Go.Proofs.YtkkbplakgldlpaaGreatDoor
open Go.RowKit
def YieldsE {α β:Type} (P:Program) (gf:Nat) (lb:Array Value) (encs:α→β→Array Value) (E:α→β→World→Prop) (xs:List α) (N:World→Prop):Prop:=
 ∀(n l:Nat) (J:List α→World→Prop) (W:World),(∀s A B,J s A→Below A.heap.size A B→J s B)→(∀s A,J s A→N A)→
  (∀pre x rest q A,xs=pre++x::rest→J pre A→E x q A→YieldAt Fence.wide n P l (encs x q) A fun e B=>e=.returned (.bool true)∧J (pre++ [x]) B)→
  J [] W→CallsIn Fence.wide (n+1) P gf (#[.func (.yield l) #[] #[]]++lb) W fun e B=>(∃v,e=.returned v)∧J xs B
theorem wp_range_each {α β:Type} {P:Program} {g:Operand} {ps:Array Tmp} {assign body:Code} {Q:Exit→Act→World→Prop} {a:Act} {w:World} {n:Nat}
 {gf:Nat} {lb:Array Value} (hg:a.eval g=.func (.func gf) #[] lb) (eg: ∀args w,(callFunc gf args).run P w=.ok (.enter gf args) w)
 {encs:α→β→Array Value} {E:α→β→World→Prop} {xs:List α} {N:World→Prop} (hit:YieldsE P gf lb encs E xs N) (hps: ∀x q,(encs x q).size=ps.size)
 (hEp: ∀x q A k o o',E x q A→A.heap[k]? =some o→o.isCells=false→E x q (A.putObj k o'))
 (I:List α→World→Prop) (hIn: ∀s A B,I s A→Below A.heap.size A B→I s B)
 (hIp: ∀s A k o o',I s A→A.heap[k]? =some o→o.isCells=false→(k=w.heap.size∨k=w.heap.size+1)→I s (A.putObj k o'))
 (hIb: ∀s A,I s A→N A) (h0:I [] w) (a₁:α→β→Act)
 (hassign: ∀(l:Nat) (x:α) (q:β) (W:World) (K:Act→World→Prop),K (a₁ x q) W→
   assign.wpIn (Fence.wide.inRound l) n P (Exit.then K (fun _ _ _=>False)) {tmps:=(ps.zip (encs x q)).foldl (fun t (p,v)=>t.setIfInBounds p v) a.tmps,defers:= []} W)
 (hbody: ∀(l:Nat) (pre:List α) (x:α) (rest:List α) (q:β) (W:World),xs=pre++x::rest→I pre W→E x q W→(∃ds,W.heap[w.heap.size]? =some (.deferred ds))→(∃r,W.heap[w.heap.size+1]? =some (.loop r))→
   body.wpIn (Fence.wide.inRound l) n P (goesOn (I (pre++ [x])) w.heap.size W) (a₁ x q) W)
 (hdone: ∀(W:World),I xs W→W.heap[w.heap.size]? =some (.deferred (some []))→Q .normal {a with defers:={target:=.collected w.heap.size,args:= #[]}::a.defers} W):
 (Code.rangeFunc g ps assign body).wpIn Fence.wide (n+1+1) P Q a w:=by
 refine wpIn_rangeFunc ?_
 intro fn hfn
 have hro:Fence.wide.round=none:=rfl
 rw[hro]
 obtain⟨rec,hrec⟩: ∃rec:LoopState→Option Code→Loop,rec=fun st pe=>{state:=st,pending:=pe,fn,tmps:=a.tmps,params:=ps,assign,body,defers:=w.heap.size}:=⟨_,rfl⟩
 obtain⟨W1,hW1⟩: ∃W1,(w.alloc (.deferred (some []))).alloc (.loop (rec .ready none))=W1:=⟨_,rfl⟩
 have hL1:W1.heap[w.heap.size+1]? =some (.loop (rec .ready none)):=by
  rw[←hW1];have:=World.alloc_heap_new (w.alloc (.deferred (some []))) (.loop (rec .ready none));rwa [World.size_alloc]at this
 have hK1:W1.heap[w.heap.size]? =some (.deferred (some [])):=by
  rw[←hW1];exact(Below.heap_alloc _ _ _ (by simp)).trans (World.alloc_heap_new w _)
 have hI1:I [] W1:=by
  rw[←hW1];exact hIn _ _ _ h0 (((Below.refl _ w).alloc (Nat.le_refl _) _).alloc (by simp) _)
 refine⟨w.heap.size+1, [{target:=.collected w.heap.size,args:= #[]}],W1,{target:=.fn (.func gf) lb,args:= #[.func (.yield (w.heap.size+1)) #[] #[]]},W1,gf,
  #[.func (.yield (w.heap.size+1)) #[] #[]]++lb,W1, ?_, ?_, ?_, ?_,fun h=>by simp[Fence.wide]at h, ?_⟩
 · rw[←hW1,hrec];exact run_enterLoop_outer _ _ _ _ _
 · simp only[resolve,hg]
   simp[go_sem]
 · intro f' _;trivial
 · simp[invoke,go_sem,eg]
 · refine(hit n (w.heap.size+1)
    (fun pre W=>I pre W∧W.heap[w.heap.size+1]? =some (.loop (rec .ready none))∧W.heap[w.heap.size]? =some (.deferred (some [])))
    W1 (fun s A B hs hb=>⟨hIn s A B hs.1 hb,(hb.block _ (Array.getElem?_eq_some_iff.1 hs.2.1).1).trans hs.2.1,(hb.block _ (Array.getElem?_eq_some_iff.1 hs.2.2).1).trans hs.2.2⟩)
    (fun s A hs=>hIb s A hs.1) ?_ ⟨hI1,hL1,hK1⟩).mono ?_
   ·
    rintro pre x rest q W hx ⟨hi,hl,hk⟩ hE
    have hlt:w.heap.size+1<W.heap.size:=(Array.getElem?_eq_some_iff.1 hl).1
    have hy:=run_yield (P:=P) (args:=encs x q) hl (by rw[hrec];exact hps x q)
    rw[hrec]at hy
    refine⟨fn,_,assign,body,hy,roundIn_of_wpIn trivial (hassign _ x q W _ ⟨_,run_beginRound hl (by rw[hrec]), ?_⟩)⟩
    have hl2:(W.putObj (w.heap.size+1) (.loop {rec .ready none with state:=.busy})).heap[w.heap.size+1]? =some (.loop {rec .ready none with state:=.busy}):=World.putObj_heap_same hlt
    have hk2:(W.putObj (w.heap.size+1) (.loop {rec .ready none with state:=.busy})).heap[w.heap.size]? =some (.deferred (some [])):=(World.putObj_heap_other (by omega)).trans hk
    refine wpIn_mono (hbody _ pre x rest q _ hx (hIp _ _ _ _ _ hi hl rfl (.inr rfl)) (hEp _ _ _ _ _ _ hE hl rfl) ⟨_,hk2⟩ ⟨_,hl2⟩) ?_
    rintro e a3 W3 hp
    cases e with
    |normal=>
     obtain⟨h1,h2,hi3⟩:=hp
     have hl3:=h2.trans hl2
     have hk3:=h1.trans hk2
     have hr:=run_endRound (P:=P) none hl3
     rw[hrec]at hr
     refine⟨_,_,hr,rfl,hIp _ _ _ _ _ hi3 hl3 rfl (.inr rfl), ?_, ?_⟩
     · rw[World.putObj_heap_same (Array.getElem?_eq_some_iff.1 hl3).1,hrec];rfl
     · exact(World.putObj_heap_other (by omega)).trans hk3
    |ret=>exact hp.elim
    |exit id=>exact hp.elim
    |goto t=>exact hp.elim
    |panic ch=>exact hp.elim
    |outgrown=>exact hp.elim
   ·
    rintro e W2 ⟨⟨v,rfl⟩,hi,hl,hk⟩
    exact⟨none,_,by have:=run_endLoop (P:=P) hl (by rw[hrec];simp);rw[hrec]at this;exact this,hdone _ (hIp _ _ _ _ _ hi hl rfl (.inr rfl)) ((World.putObj_heap_other (by omega)).trans hk)⟩
end Go.Proofs.YtkkbplakgldlpaaGreatDoor

namespace Go.Proofs.YtkkbplakgldlpaaGreatDoor
open Go Go.RowKit
def setMany (w:World) (g o:Nat):List Value→World
 | []=>w
 |v::r=>setMany (w.setCell ⟨g,o,none⟩ v) g (o+1) r
def over (cs:Array Value) (o:Nat):List Value→Array Value
 | []=>cs
 |v::r=>over (cs.setIfInBounds o v) (o+1) r
theorem setMany_size: ∀(vs:List Value) (w:World) (g o:Nat),(setMany w g o vs).heap.size=w.heap.size
 | [],_,_,_=>rfl
 |v::r,w,g,o=>by simp only[setMany];rw[setMany_size r];simp[World.setCell]
theorem setMany_far: ∀(vs:List Value) (w:World) (g o c:Nat),c≠g→(setMany w g o vs).heap[c]? =w.heap[c]?
 | [],_,_,_,_,_=>rfl
 |v::r,w,g,o,c,h=>by
  simp only[setMany]
  rw[setMany_far r _ _ _ _ h]
  simp only[World.setCell,Array.getElem?_modify]
  rw[if_neg (fun e=>h e.symm)]
theorem setMany_at: ∀(vs:List Value) {w:World} {g o:Nat} {cs:Array Value} {t:TypeId},w.heap[g]? =some (.cells cs t (0,0))→(setMany w g o vs).heap[g]? =some (.cells (over cs o vs) t (0,0))
 | [],_,_,_,_,_,h=>h
 |v::r,w,g,o,cs,t,h=>by
  simp only[setMany,over]
  exact setMany_at r (by simp[World.setCell,Array.getElem?_modify,h])
theorem setMany_below {B:Nat} {a:World}: ∀(vs:List Value) {w:World} {g o:Nat},Below B a w→B≤g→Below B a (setMany w g o vs)
 | [],_,_,_,h,_=>h
 |v::r,w,g,o,h,hg=>by
  simp only[setMany]
  exact setMany_below r (h.setCell hg _) hg
theorem over_size: ∀(vs:List Value) (cs:Array Value) (o:Nat),(over cs o vs).size=cs.size
 | [],_,_=>rfl
 |v::r,cs,o=>by simp only[over];rw[over_size r];simp
theorem over_get: ∀(vs:List Value) (cs:Array Value) (o i:Nat),o+vs.length≤cs.size→(over cs o vs)[i]? =if o≤i∧i<o+vs.length then vs[i - o]? else cs[i]?
 | [],cs,o,i,_=>by
   simp only[over,List.length_nil]
   rw[if_neg (by omega)]
 |v::r,cs,o,i,h=>by
  simp only[List.length_cons]at h
  simp only[over]
  rw[over_get r _ _ _ (by simp;omega)]
  by_cases h1:o+1≤i∧i<o+1+r.length
  · rw[if_pos h1,if_pos ⟨by omega,by simp only[List.length_cons];omega⟩,show i - o=(i - (o+1))+1 from by omega,List.getElem?_cons_succ]
  · rw[if_neg h1]
    by_cases h2:i=o
    · subst h2
      rw[if_pos ⟨Nat.le_refl _,by simp⟩]
      simp only[Nat.sub_self,List.getElem?_cons_zero]
      rw[Array.getElem?_setIfInBounds_self_of_lt (by omega)]
    · rw[if_neg (by simp only[List.length_cons];omega),Array.getElem?_setIfInBounds_ne (by omega)]
def FillD (b g:Nat) (t:TypeId) (s N:Nat) (wr:World) (l:List D):Prop:=
 b≤g∧l.length≤N∧(∀d ∈ l,d.cells=s)∧ ∃(cs:Array Value) (ns:List Value),wr.heap[g]? =some (.cells cs t (0,0))∧cs.size=N*s∧(∀(j:Nat) (u:Value),ns[j]? =some u→cs[j]? =some u)∧
  ∀w'':World,wr.heap.size≤w''.heap.size→(∀p:Addr,b≤p.block→p.block<wr.heap.size→p.block≠g→w''.cell? p=wr.cell? p)→HoldsA w'' wr.heap.size l ns
theorem FillD.start {b g:Nat} {t:TypeId} {s N:Nat} {wr:World} {cs:Array Value} (hb:b≤g) (hg:wr.heap[g]? =some (.cells cs t (0,0))) (hs:cs.size=N*s):FillD b g t s N wr []:=
 ⟨hb,Nat.zero_le _,fun d hd=>(by cases hd),cs, [],hg,hs,fun j u h=>(by simp at h),fun _ _ _=>rfl⟩
theorem FillD.lt {b g:Nat} {t:TypeId} {s N:Nat} {wr:World} {l:List D} (h:FillD b g t s N wr l):g<wr.heap.size:=by
 obtain⟨_,_,_,cs,ns,h4,_⟩:=h
 exact(Array.getElem?_eq_some_iff.1 h4).1
theorem FillD.cell {b g:Nat} {t:TypeId} {s N:Nat} {wr:World} {l:List D} (h:FillD b g t s N wr l):(∀j,j<N*s→ ∃u,wr.cell? ⟨g,j,none⟩=some u)∧ ∀j,wr.frozen? ⟨g,j,none⟩=false:=by
 obtain⟨_,_,_,cs,ns,h4,h5,_⟩:=h
 refine⟨fun j hj=> ?_,fun j=> ?_⟩
 · exact⟨cs[j],by rw[cell_of_row wr g j cs t (0,0) h4];exact Array.getElem?_eq_getElem (by omega)⟩
 · simp[World.frozen?,h4]
theorem FillD.keep {b g:Nat} {t:TypeId} {s N:Nat} {wr w':World} {l:List D} (h:FillD b g t s N wr l) (hs:wr.heap.size≤w'.heap.size) (hk: ∀i,b≤i→i<wr.heap.size→w'.heap[i]? =wr.heap[i]?):FillD b g t s N w' l:=by
 have hlt:=h.lt
 obtain⟨h1,h2,h3,cs,ns,h4,h5,h6,h7⟩:=h
 exact⟨h1,h2,h3,cs,ns,(hk g h1 hlt).trans h4,h5,h6,fun w'' k1 k2=>HoldsA.more (h7 w'' (by omega) (fun p p1 p2 p3=>(k2 p p1 (by omega) p3).trans (World.cell?_of_block (hk p.block p1 p2)))) hs⟩
theorem FillD.below {b g:Nat} {t:TypeId} {s N:Nat} {wr w':World} {l:List D} (h:FillD b g t s N wr l) (hb:Below wr.heap.size wr w'):FillD b g t s N w' l:=h.keep hb.size fun i _ hi=>hb.block i hi
theorem FillD.step {b g:Nat} {t:TypeId} {s N:Nat} {wr w4:World} {l:List D} {d:D} {cs':List Value} (h:FillD b g t s N wr l) (hl:l.length<N) (hd:d.cells=s) (hx:Fresh wr.heap.size w4 d cs') (h4:Below wr.heap.size wr w4):
 FillD b g t s N (setMany w4 g (l.length*s) cs') (l++ [d]):=by
 have hlt:=h.lt
 have h':=h.below h4
 obtain⟨h1,h2,h3,cs,ns,k4,h5,h6,h7⟩:=h'
 have hcl:cs'.length=s:=hx.now.len.1.trans hd
 have hnl:ns.length=l.length*s:=by
  have hA:=h7 w4 (Nat.le_refl _) (fun _ _ _ _=>rfl)
  rw[hA.len.1,cellsA_all h3]
 have hN:l.length*s+s≤N*s:=by
  have:=Nat.mul_le_mul_right s (show l.length+1≤N by omega)
  rw[Nat.add_mul,Nat.one_mul]at this
  exact this
 have hsz:=h4.size
 refine⟨h1,by rw[List.length_append,List.length_cons,List.length_nil];omega, ?_,over cs (l.length*s) cs',ns++cs',setMany_at cs' k4,by rw[over_size];exact h5, ?_, ?_⟩
 · intro x hx'
   rcases List.mem_append.1 hx' with hx'|hx'
   · exact h3 x hx'
   · simp only[List.mem_cons,List.not_mem_nil,or_false]at hx'
     rw[hx'];exact hd
 · intro j u hj
   rw[over_get cs' cs (l.length*s) j (by omega)]
   by_cases hjn:j<ns.length
   · rw[List.getElem?_append_left hjn]at hj
     rw[if_neg (by omega)]
     exact h6 j u hj
   · rw[List.getElem?_append_right (by omega)]at hj
     have:=(List.getElem?_eq_some_iff.1 hj).1
     rw[if_pos ⟨by omega,by omega⟩,←hnl]
     exact hj
 · intro w'' k1 k2
   rw[setMany_size]at k1 k2 ⊢
   have hfar: ∀p:Addr,b≤p.block→p.block<w4.heap.size→p.block≠g→w''.cell? p=w4.cell? p:=fun p p1 p2 p3=>(k2 p p1 p2 p3).trans (World.cell?_of_block (setMany_far cs' w4 g _ _ p3))
   exact(h7 w'' k1 hfar).snoc (hx w'' k1 (fun p p1 p2=>hfar p (by omega) p2 (by omega)))
theorem FillD.close {b g:Nat} {t:TypeId} {s:Nat} {wr:World} {l:List D} (h:FillD b g t s l.length wr l) (c:Nat):Fresh b wr (.row s l) [.slice (some ⟨g,0,none⟩) l.length c]:=by
 have hlt:=h.lt
 obtain⟨h1,h2,h3,cs,ns,h4,h5,h6,h7⟩:=h
 intro w'' k1 k2
 refine⟨_,c,rfl,h3,ns,h7 w'' k1 (fun p p1 p2 _=>k2 p p1 p2),.inr ⟨g,0,rfl,hlt,fun j u hu=> ?_⟩⟩
 rw[k2 _ h1 hlt,Nat.zero_add,cell_of_row wr g j cs t (0,0) h4]
 exact h6 j u hu
end Go.Proofs.YtkkbplakgldlpaaGreatDoor

namespace Go.Proofs.YtkkbplakgldlpaaGreatDoor
open Go.RowKit
def YieldsS {α:Type} (P:Program) (gf:Nat) (lb:Array Value) (encs:α→Array Value) (xs:List α) (N:World→Prop):Prop:=
 ∀(n l:Nat) (J:List α→World→Prop) (Jx:World→Prop) (W:World),(∀s A B,J s A→Below A.heap.size A B→J s B)→(∀A B,Jx A→Below A.heap.size A B→Jx B)→(∀s A,J s A→N A)→
  (∀pre x rest A,xs=pre++x::rest→J pre A→YieldAt Fence.wide n P l (encs x) A fun e B=>(e=.returned (.bool true)∧J (pre++ [x]) B)∨(e=.returned (.bool false)∧Jx B))→
  J [] W→CallsIn Fence.wide (n+1) P gf (#[.func (.yield l) #[] #[]]++lb) W fun e B=>(∃v,e=.returned v)∧(J xs B∨Jx B)
def goesOnS (I Ix:World→Prop) (d:Nat) (W:World):Exit→Act→World→Prop
 | .normal,_,W'=>W'.heap[d]? =W.heap[d]? ∧W'.heap[d+1]? =W.heap[d+1]? ∧I W'
 | .ret,_,W'=>W'.heap[d]? =W.heap[d]? ∧W'.heap[d+1]? =W.heap[d+1]? ∧Ix W'
 |_,_,_=>False
theorem wp_range_stop {α:Type} {P:Program} {g:Operand} {ps:Array Tmp} {assign body:Code} {Q:Exit→Act→World→Prop} {a:Act} {w:World} {n:Nat}
 {gf:Nat} {lb:Array Value} (hg:a.eval g=.func (.func gf) #[] lb) (eg: ∀args w,(callFunc gf args).run P w=.ok (.enter gf args) w)
 {encs:α→Array Value} {xs:List α} {N:World→Prop} (hit:YieldsS P gf lb encs xs N) (hps: ∀x,(encs x).size=ps.size)
 (I:List α→World→Prop) (Ix:World→Prop) (hIn: ∀s A B,I s A→Below A.heap.size A B→I s B) (hXn: ∀A B,Ix A→Below A.heap.size A B→Ix B)
 (hXp: ∀A k o o',Ix A→A.heap[k]? =some o→o.isCells=false→(k=w.heap.size∨k=w.heap.size+1)→Ix (A.putObj k o'))
 (hIp: ∀s A k o o',I s A→A.heap[k]? =some o→o.isCells=false→(k=w.heap.size∨k=w.heap.size+1)→I s (A.putObj k o'))
 (hIb: ∀s A,I s A→N A) (h0:I [] w) (a₁:α→Act)
 (hassign: ∀(l:Nat) (x:α) (W:World) (K:Act→World→Prop),K (a₁ x) W→
   assign.wpIn (Fence.wide.inRound l) n P (Exit.then K (fun _ _ _=>False)) {tmps:=(ps.zip (encs x)).foldl (fun t (p,v)=>t.setIfInBounds p v) a.tmps,defers:= []} W)
 (hbody: ∀(l:Nat) (pre:List α) (x:α) (rest:List α) (W:World),xs=pre++x::rest→I pre W→(∃ds,W.heap[w.heap.size]? =some (.deferred ds))→(∃r,W.heap[w.heap.size+1]? =some (.loop r))→
   body.wpIn (Fence.wide.inRound l) n P (goesOnS (I (pre++ [x])) Ix w.heap.size W) (a₁ x) W)
 (hstop: ∀(W:World),Ix W→W.heap[w.heap.size]? =some (.deferred (some []))→Code.ret.wpIn Fence.wide (n+1+1) P Q {a with defers:={target:=.collected w.heap.size,args:= #[]}::a.defers} W)
 (hdone: ∀(W:World),I xs W→W.heap[w.heap.size]? =some (.deferred (some []))→Q .normal {a with defers:={target:=.collected w.heap.size,args:= #[]}::a.defers} W):
 (Code.rangeFunc g ps assign body).wpIn Fence.wide (n+1+1) P Q a w:=by
 refine wpIn_rangeFunc ?_
 intro fn hfn
 have hro:Fence.wide.round=none:=rfl
 rw[hro]
 obtain⟨rec,hrec⟩: ∃rec:LoopState→Option Code→Loop,rec=fun st pe=>{state:=st,pending:=pe,fn,tmps:=a.tmps,params:=ps,assign,body,defers:=w.heap.size}:=⟨_,rfl⟩
 obtain⟨W1,hW1⟩: ∃W1,(w.alloc (.deferred (some []))).alloc (.loop (rec .ready none))=W1:=⟨_,rfl⟩
 have hL1:W1.heap[w.heap.size+1]? =some (.loop (rec .ready none)):=by
  rw[←hW1];have:=World.alloc_heap_new (w.alloc (.deferred (some []))) (.loop (rec .ready none));rwa [World.size_alloc]at this
 have hK1:W1.heap[w.heap.size]? =some (.deferred (some [])):=by
  rw[←hW1];exact(Below.heap_alloc _ _ _ (by simp)).trans (World.alloc_heap_new w _)
 have hI1:I [] W1:=by
  rw[←hW1];exact hIn _ _ _ h0 (((Below.refl _ w).alloc (Nat.le_refl _) _).alloc (by simp) _)
 refine⟨w.heap.size+1, [{target:=.collected w.heap.size,args:= #[]}],W1,{target:=.fn (.func gf) lb,args:= #[.func (.yield (w.heap.size+1)) #[] #[]]},W1,gf,
  #[.func (.yield (w.heap.size+1)) #[] #[]]++lb,W1, ?_, ?_, ?_, ?_,fun h=>by simp[Fence.wide]at h, ?_⟩
 · rw[←hW1,hrec];exact run_enterLoop_outer _ _ _ _ _
 · simp only[resolve,hg]
   simp[go_sem]
 · intro f' _;trivial
 · simp[invoke,go_sem,eg]
 · refine(hit n (w.heap.size+1)
    (fun pre W=>I pre W∧W.heap[w.heap.size+1]? =some (.loop (rec .ready none))∧W.heap[w.heap.size]? =some (.deferred (some [])))
    (fun W=>Ix W∧W.heap[w.heap.size+1]? =some (.loop (rec .done (some .ret)))∧W.heap[w.heap.size]? =some (.deferred (some [])))
    W1 (fun s A B hs hb=>⟨hIn s A B hs.1 hb,(hb.block _ (Array.getElem?_eq_some_iff.1 hs.2.1).1).trans hs.2.1,(hb.block _ (Array.getElem?_eq_some_iff.1 hs.2.2).1).trans hs.2.2⟩)
    (fun A B hs hb=>⟨hXn A B hs.1 hb,(hb.block _ (Array.getElem?_eq_some_iff.1 hs.2.1).1).trans hs.2.1,(hb.block _ (Array.getElem?_eq_some_iff.1 hs.2.2).1).trans hs.2.2⟩)
    (fun s A hs=>hIb s A hs.1) ?_ ⟨hI1,hL1,hK1⟩).mono ?_
   ·
    rintro pre x rest W hx ⟨hi,hl,hk⟩
    have hlt:w.heap.size+1<W.heap.size:=(Array.getElem?_eq_some_iff.1 hl).1
    have hy:=run_yield (P:=P) (args:=encs x) hl (by rw[hrec];exact hps x)
    rw[hrec]at hy
    refine⟨fn,_,assign,body,hy,roundIn_of_wpIn trivial (hassign _ x W _ ⟨_,run_beginRound hl (by rw[hrec]), ?_⟩)⟩
    have hl2:(W.putObj (w.heap.size+1) (.loop {rec .ready none with state:=.busy})).heap[w.heap.size+1]? =some (.loop {rec .ready none with state:=.busy}):=World.putObj_heap_same hlt
    have hk2:(W.putObj (w.heap.size+1) (.loop {rec .ready none with state:=.busy})).heap[w.heap.size]? =some (.deferred (some [])):=(World.putObj_heap_other (by omega)).trans hk
    refine wpIn_mono (hbody _ pre x rest _ hx (hIp _ _ _ _ _ hi hl rfl (.inr rfl)) ⟨_,hk2⟩ ⟨_,hl2⟩) ?_
    rintro e a3 W3 hp
    cases e with
    |normal=>
     obtain⟨h1,h2,hi3⟩:=hp
     have hl3:=h2.trans hl2
     have hk3:=h1.trans hk2
     have hr:=run_endRound (P:=P) none hl3
     rw[hrec]at hr
     refine⟨_,_,hr,.inl ⟨rfl,hIp _ _ _ _ _ hi3 hl3 rfl (.inr rfl), ?_, ?_⟩⟩
     · rw[World.putObj_heap_same (Array.getElem?_eq_some_iff.1 hl3).1,hrec];rfl
     · exact(World.putObj_heap_other (by omega)).trans hk3
    |ret=>
     obtain⟨h1,h2,hi3⟩:=hp
     have hl3:=h2.trans hl2
     have hk3:=h1.trans hk2
     have hr:=run_endRound (P:=P) (some .ret) hl3
     rw[hrec]at hr
     refine⟨_,_,hr,.inr ⟨rfl,hXp _ _ _ _ hi3 hl3 rfl (.inr rfl), ?_, ?_⟩⟩
     · rw[World.putObj_heap_same (Array.getElem?_eq_some_iff.1 hl3).1,hrec];rfl
     · exact(World.putObj_heap_other (by omega)).trans hk3
    |exit id=>exact hp.elim
    |goto t=>exact hp.elim
    |panic ch=>exact hp.elim
    |outgrown=>exact hp.elim
   ·
    rintro e W2 ⟨⟨v,rfl⟩,⟨hi,hl,hk⟩|⟨hi,hl,hk⟩⟩
    · exact⟨none,_,by have:=run_endLoop (P:=P) hl (by rw[hrec];simp);rw[hrec]at this;exact this,hdone _ (hIp _ _ _ _ _ hi hl rfl (.inr rfl)) ((World.putObj_heap_other (by omega)).trans hk)⟩
    · exact⟨some .ret,_,by have:=run_endLoop (P:=P) hl (by rw[hrec];simp);rw[hrec]at this;exact this,hstop _ (hXp _ _ _ _ hi hl rfl (.inr rfl)) ((World.putObj_heap_other (by omega)).trans hk)⟩
end Go.Proofs.YtkkbplakgldlpaaGreatDoor
