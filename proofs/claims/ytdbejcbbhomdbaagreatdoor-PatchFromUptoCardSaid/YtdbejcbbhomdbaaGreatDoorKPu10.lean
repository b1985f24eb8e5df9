/- Parts: sort.Slice of members by their keys, as value.Object calls it. Condition: fewer than 2^62 of them. -/
import Derived.Shelf.SlSortFuncK.WholeK
import Derived.Shelf.GgSortFunc.Tiny
import Derived.Test.YtdbejcbbhomdbaaGreatDoorKPu8
import Derived.Test.YtdbejcbbhomdbaaGreatDoorKPu9
set_option maxHeartbeats 20000000
set_option maxRecDepth 100000
namespace Go.Proofs.YtdbejcbbhomdbaaGreatDoor
open Go Go.RowKit
theorem Bi.blk {w:World} {B:Nat} {n:Nd} {b:Nat} (h:Bi w B n b): ∃ea en ec ka kn kc,Ao w b Nn #[.slice ea en ec,.slice ka kn kc,.int .i64 (Iy n),.int .i64 (By n).length,.string (Al n),.string (Bn n),.bool false]/\en+kn=Ed n:=by
 cases n with
 |leaf es=>
  simp only[Bi]at h;obtain⟨_,a,c,_,hx⟩:=h;exact⟨a,es.length,c,none,0,0,by simpa[Iy,By]using hx,by simp[Ed]⟩
 |inner ks=>
  simp only[Bi]at h;obtain⟨_,bs,a,c,_,hx,_⟩:=h;exact⟨none,0,0,a,ks.length,c,by simpa[By]using hx,by simp[Ed]⟩
theorem C4 {w:World} {B:Nat} {n:Nd} {b:Nat} (h:Bi w B n b):Calls Tryz.prog 126 #[.pointer (some ⟨b,0,none⟩)] w fun e w'=>e=.returned (.int .i64 (Iy n))/\w=w':=by
 obtain⟨ea,en,ec,ka,kn,kc,hx,_⟩:=h.blk;have c2:=hx.cell 2;have hl:=hx.lt;clear hx h;go_enter Tryz.func126,Tryz.ntmps126;go_wp2;go_ret;exact⟨rfl,rfl⟩
theorem R7 (w:World):Calls Tryz.prog 126 #[.pointer none] w fun e w'=>e=.returned (.int .i64 0)/\w=w':=by
 go_enter Tryz.func126,Tryz.ntmps126;go_wp2;go_ret;exact⟨rfl,rfl⟩
theorem Gq {w:World} {B:Nat} {n:Nd} {b:Nat} (h:Bi w B n b):Calls Tryz.prog 71 #[.pointer (some ⟨b,0,none⟩)] w fun e w'=>e=.returned (.int .i64 (By n).length)/\w=w':=by
 obtain⟨ea,en,ec,ka,kn,kc,hx,_⟩:=h.blk;have c3:=hx.cell 3;have hl:=hx.lt;clear hx h;go_enter Tryz.func71,Tryz.ntmps71;go_wp2;go_ret;exact⟨rfl,rfl⟩
theorem Tz (w:World):Calls Tryz.prog 71 #[.pointer none] w fun e w'=>e=.returned (.int .i64 0)/\w=w':=by
 go_enter Tryz.func71,Tryz.ntmps71;go_wp2;go_ret;exact⟨rfl,rfl⟩
theorem J9 {w:World} {B:Nat} {n:Nd} {b:Nat} (h:Bi w B n b):Calls Tryz.prog 175 #[.pointer (some ⟨b,0,none⟩)] w fun e w'=>e=.returned (.string (Al n))/\w=w':=by
 obtain⟨ea,en,ec,ka,kn,kc,hx,_⟩:=h.blk;have c4:=hx.cell 4;have hl:=hx.lt;clear hx h;go_enter Tryz.func175,Tryz.ntmps175;go_wp2;go_ret;exact⟨rfl,rfl⟩
theorem R9 {w:World} {B:Nat} {n:Nd} {b:Nat} (h:Bi w B n b):Calls Tryz.prog 181 #[.pointer (some ⟨b,0,none⟩)] w fun e w'=>e=.returned (.string (Bn n))/\w=w':=by
 obtain⟨ea,en,ec,ka,kn,kc,hx,_⟩:=h.blk;have c5:=hx.cell 5;have hl:=hx.lt;clear hx h;go_enter Tryz.func181,Tryz.ntmps181;go_wp2;go_ret;exact⟨rfl,rfl⟩
theorem Sb {w:World} {B:Nat} {n:Nd} {b:Nat} (h:Bi w B n b) (hs:Ed n<=100):Calls Tryz.prog 147 #[.pointer (some ⟨b,0,none⟩)] w fun e w'=>e=.returned (.int .i64 (Ed n))/\Below w.heap.size w w':=by
 obtain⟨ea,en,ec,ka,kn,kc,hx,he⟩:=h.blk;have hSS:(fun Y:World=>Y.cell? ⟨b,0,none⟩=some (.slice ea en ec)/\Y.cell? ⟨b,1,none⟩=some (.slice ka kn kc)) w.drew:=⟨hx.cell 0,hx.cell 1⟩;have hb:=Below.drew (Below.refl w.heap.size w);have e1:((Ed n:Nat):Int)=(en:Int)+(kn:Int):=by omega
 have e2:IntKind.i64.wrap ((en:Int)+(kn:Int))=(en:Int)+(kn:Int):=IntWalk.i64_in _ (by omega);rw[e1];clear hx h e1 he hs;go_enter Tryz.func147,Tryz.ntmps147;go_upto_region 3 with(fail);refine wp_region_held_drew (S:=fun Y:World=>Y.cell? ⟨b,0,none⟩=some (.slice ea en ec)/\Y.cell? ⟨b,1,none⟩=some (.slice ka kn kc)) (by kernel_rfl) hSS (fun hHeld=> ?_);refine tkH 0 hHeld ?_;refine tkH 1 hHeld ?_;refine tkH 2 hHeld ?_;refine tkH 3 hHeld ?_;refine tkH 4 hHeld ?_;refine tkH 5 hHeld ?_;refine tkH 6 hHeld ?_;refine tkH 7 hHeld ?_;refine tkH 8 hHeld ?_;refine tkH 9 hHeld ?_;refine tkH 10 hHeld ?_;refine tkH 11 hHeld ?_;refine wpAnyH_done (by kernel_rfl) ?_ _;clear hHeld hSS;go_wp2;go_ret;exact⟨rfl,hb⟩
theorem P8 {w:World} {B:Nat} {n:Nd} {b:Nat} (h:Bi w B n b) (hs:Ed n<=100):Calls Tryz.prog 178 #[.pointer (some ⟨b,0,none⟩),.bool false] w fun e w'=>e=.returned (.bool (decide (4<=Ed n)))/\Below w.heap.size w w':=by
 have HZ:=qz (Sb h hs);obtain⟨ea,en,ec,ka,kn,kc,hx,he⟩:=h.blk;have c6:=hx.cell 6;have hl:=hx.lt;clear hx h;go_enter Tryz.func178,Tryz.ntmps178;go_wp2_with (fail);(with_reducible refine(HZ.out).mono ?_);rintro e w1 ⟨rfl,hb1⟩;go_wp2;go_ret;refine⟨?_,hb1⟩;show Ending.returned (.bool (decide ((4:Int)<=(Ed n:Nat))))=_;rw[show decide ((4:Int)<=(Ed n:Nat))=decide (4<=Ed n)from by rw[decide_eq_decide];omega]
def Wr (W:World) (B g:Nat) (keeps:Bool) (acc:List UInt8):Prop:=
 ∃p v,Jw W B g 1 131 #[.bool keeps,p,v,.int .i64 (acc.length:Int)] (if keeps then acc else [])
theorem Ab4:liesAt Tryz.prog Tryz.prog.depth 131 (4 / Tryz.prog.cellsOf 131) 1 129 1=true:=by kernel_rfl
theorem Jw.other {w:World} {B g o:Nat} {t:TypeId} {cs:Array Value} {bs:List UInt8} (h:Jw w B g o t cs bs) (i:Nat) (hi:i≠o) (hi2:i≠o+1) (u:Value):
 Jw (w.setCell ⟨g,i,none⟩ u) B g o t (cs.setIfInBounds i u) bs:=by
 obtain⟨hB,hb,ht,hs,h0,v,h1,hown⟩:=h;refine⟨hB,E7 hb _,ht,by simpa using hs, ?_,v,by rw[Array.getElem?_setIfInBounds,if_neg hi2];exact h1, ?_⟩
 . rw[Array.getElem?_setIfInBounds,if_neg hi];exact h0
 . exact hown.kept (row:=some g) ⟨rfl,rfl,rfl,by simp[World.setCell],fun k _ hk=>Below.heap_setCell _ _ _ _ (fun e=>hk (by simp[e]))⟩ (Or.inr (Lib.ownBlock_ne hown hb ht))
theorem Wr.below {A W:World} {B g:Nat} {k:Bool} {acc:List UInt8} (h:Wr A B g k acc) (hb:Below A.heap.size A W):Wr W B g k acc:=by
 obtain⟨p,v,h⟩:=h;exact⟨p,v,h.keep (K7 hb) (fun k e=>by cases e)⟩
theorem Wr.put {A:World} {B g k:Nat} {b:Bool} {acc:List UInt8} {o o':Obj} (h:Wr A B g b acc) (ho:A.heap[k]? =some o) (hc:o.isCells=false):Wr (A.putObj k o') B g b acc:=by
 obtain⟨p,v,h⟩:=h;exact⟨p,v,h.keep (grownBy_putObj' A k o') (fun j e=>by cases e;exact⟨o,ho,hc⟩)⟩
theorem Wr.lt {A:World} {B g:Nat} {k:Bool} {acc:List UInt8} (h:Wr A B g k acc):g<A.heap.size:=by
 obtain⟨p,v,h⟩:=h;exact h.lt
theorem Wr.base {A:World} {B g:Nat} {k:Bool} {acc:List UInt8} (h:Wr A B g k acc):B<=g:=by
 obtain⟨p,v,h⟩:=h;exact h.1
def Db (ss:List ByteArray):List UInt8:=ss.flatMap fun s=>s.data.toList
theorem Vp (ss:List ByteArray) (s:ByteArray):Db (ss++ [s])=Db ss++s.data.toList:=by simp[Db]
theorem To (B g:Nat) (keeps:Bool) (acc:List UInt8) (ss:List ByteArray) (b c:Nat) (w:World) (h:Wr w B g keeps acc) (hp:w.heap[b]? =some (.cells (ss.map Value.string).toArray 9 (0,0))) (hbg:b≠g)
 (hlen:acc.length+(Db ss).length<=50000000000) (hn:ss.length<=1000):
 Calls Tryz.prog 115 #[.pointer (some ⟨g,0,none⟩),.slice (some ⟨b,0,none⟩) ss.length c] w fun e w'=>e=.returned (.tuple #[])/\Wr w' B g keeps (acc++Db ss)/\Below B w w'/\C9 g w w':=by
 go_enter Tryz.func115,Tryz.ntmps115;go_wp2;go_loopw [8] (fun i wr=> ∃k:Nat,k<=ss.length/\i=.int .i64 k/\Wr wr B g keeps (acc++Db (ss.take k))/\Below B w wr/\C9 g w wr) (fun i _=>ss.length - (intOf i).toNat)
 case atStart=>exact⟨0,Nat.zero_le _,rfl,by simpa[Db]using h,Below.refl _ _,Lib.OthersKept.refl _ _ _⟩
 case round=>
  obtain⟨k,hk,rfl,hw,hb,hkp⟩:=hrel;by_cases hlt:k<ss.length
  . obtain⟨s,hs⟩: ∃s,ss[k]? =some s:=⟨_,List.getElem?_eq_getElem hlt⟩;have htk:ss.take (k+1)=ss.take k++ [s]:=by rw[List.take_add_one,hs];rfl
    have hfl:(Db ss).length=(Db (ss.take k)).length+s.size+(Db (ss.drop (k+1))).length:=by
     have:ss=ss.take k++ [s]++ss.drop (k+1):=by rw[<-htk,List.take_append_drop]
     have h2:=congrArg (fun l=>(Db l).length) this;simp only[Db,List.flatMap_append,List.length_append,List.flatMap_cons,List.flatMap_nil,List.append_nil]at h2 ⊢;rw[h2,Lib.size_eq]
    have hpr:=hkp _ _ hp (by simpa using hbg) (fun c fz e=>by cases e);have cp:wr.cell? ⟨b,k,none⟩=some (.string s):=by rw[Lib.cell_of_heap hpr];simp[hs]
    obtain⟨p,v,hbl⟩:=hw;have hbl':=hbl;obtain⟨hB,hbk,ht,_,_,_⟩:=hbl';have g0:wr.cell? ⟨g,0,none⟩=some (.bool keeps):=by rw[Lib.cell_of_heap hbk];rfl
    have g3:wr.cell? ⟨g,3,none⟩=some (.int .i64 ((acc++Db (ss.take k)).length:Int)):=by rw[Lib.cell_of_heap hbk];rfl
    have f3:wr.frozen? ⟨g,3,none⟩=false:=Lib.frozen_of_heap hbk 3;have hln:(acc++Db (ss.take k)).length<=50000000000:=by rw[List.length_append];omega
    have hln2:(acc++Db (ss.take k)).length+s.size<=50000000000:=by rw[List.length_append];omega
    have hz:=hbl.lt;have hfin:acc++Db (ss.take (k+1))=(acc++Db (ss.take k))++s.data.toList:=by rw[htk,Vp,List.append_assoc]
    generalize acc++Db (ss.take k)=L at*
    have Hfin:=qz hfin;have He:=qz (show((L.length:Int)+(s.size:Int))=((L++s.data.toList).length:Int)from by rw[List.length_append,<-Lib.size_eq];omega);clear hfin hbk htk hfl
    cases keeps
    . have hbs:Jw (wr.setCell ⟨g,3,none⟩ (.int .i64 ((L.length:Int)+(s.size:Int)))) B g 1 131 #[.bool false,p,v,.int .i64 ((L.length:Int)+(s.size:Int))] []:=hbl.other 3 (by omega) (by omega) _;go_wp2;go_roundw
      case rel=>
       refine⟨k+1,by omega,by go_num, ?_,hb.setCell (p:=⟨g,3,none⟩) hB _,hkp.setCell ⟨g,3,none⟩ rfl _⟩;rw[Hfin.out];rw[He.out]at hbs ⊢;exact⟨p,v,hbs⟩
      case measure=>simp[intOf];omega
    . have hbs:Jw (wr.setCell ⟨g,3,none⟩ (.int .i64 ((L.length:Int)+(s.size:Int)))) B g 1 131 #[.bool true,p,v,.int .i64 ((L.length:Int)+(s.size:Int))] L:=hbl.other 3 (by omega) (by omega) _;go_wp2_with (go_at_call 164;refine(Fs B g 1 _ _ L s _ hbs Ab4 (by omega) (by simp[World.setCell];omega)).mono ?_;rintro e w2 ⟨rfl,⟨v',hb2⟩,hbw2,hk2⟩);go_roundw
      case rel=>
       refine⟨k+1,by omega,by go_num, ?_,(hb.setCell (p:=⟨g,3,none⟩) hB _).trans hbw2,(hkp.setCell ⟨g,3,none⟩ rfl _).trans hk2⟩;rw[Hfin.out];rw[He.out]at hb2;exact⟨_,v',hb2⟩
      case measure=>simp[intOf];omega
  . obtain rfl:k=ss.length:=by omega
    rw[List.take_length]at hw;have Hw:=qz hw;clear hw;go_wp2
    go_end0
    exact⟨rfl,Hw.out,hb,hkp⟩
def Po {α β:Type} (P:Program) (gf:Nat) (lb:Array Value) (encs:α->β->Array Value) (E:α->β->World->Prop) (xs:List α) (N:World->Prop):Prop:=
 ∀(n l:Nat) (J:List α->World->Prop) (W:World),(∀s A B,J s A->Below A.heap.size A B->J s B)->(∀s A,J s A->N A)->
  (∀pre x rest q A,xs=pre++x::rest->J pre A->E x q A->YieldAt Fence.wide n P l (encs x q) A fun e B=>e=.returned (.bool true)/\J (pre++ [x]) B)->
  J [] W->CallsIn Fence.wide (n+1) P gf (#[.func (.yield l) #[] #[]]++lb) W fun e B=>(∃v,e=.returned v)/\J xs B
theorem Je {α β:Type} {P:Program} {g:Operand} {ps:Array Tmp} {assign body:Code} {Q:Exit->Act->World->Prop} {a:Act} {w:World} {n:Nat}
 {gf:Nat} {lb:Array Value} (hg:a.eval g=.func (.func gf) #[] lb) (eg: ∀args w,(callFunc gf args).run P w=.ok (.enter gf args) w)
 {encs:α->β->Array Value} {E:α->β->World->Prop} {xs:List α} {N:World->Prop} (hit:Po P gf lb encs E xs N) (hps: ∀x q,(encs x q).size=ps.size)
 (hEp: ∀x q A k o o',E x q A->A.heap[k]? =some o->o.isCells=false->E x q (A.putObj k o'))
 (I:List α->World->Prop) (hIn: ∀s A B,I s A->Below A.heap.size A B->I s B)
 (hIp: ∀s A k o o',I s A->A.heap[k]? =some o->o.isCells=false->(k=w.heap.size\/k=w.heap.size+1)->I s (A.putObj k o'))
 (hIb: ∀s A,I s A->N A) (h0:I [] w) (a₁:α->β->Act)
 (hassign: ∀(l:Nat) (x:α) (q:β) (W:World) (K:Act->World->Prop),K (a₁ x q) W->
   assign.wpIn (Fence.wide.inRound l) n P (Exit.then K (fun _ _ _=>False)) {tmps:=(ps.zip (encs x q)).foldl (fun t (p,v)=>t.setIfInBounds p v) a.tmps,defers:= []} W)
 (hbody: ∀(l:Nat) (pre:List α) (x:α) (rest:List α) (q:β) (W:World),xs=pre++x::rest->I pre W->E x q W->(∃ds,W.heap[w.heap.size]? =some (.deferred ds))->(∃r,W.heap[w.heap.size+1]? =some (.loop r))->
   body.wpIn (Fence.wide.inRound l) n P (Kx (I (pre++ [x])) w.heap.size W) (a₁ x q) W)
 (hdone: ∀(W:World),I xs W->W.heap[w.heap.size]? =some (.deferred (some []))->Q .normal {a with defers:={target:=.collected w.heap.size,args:= #[]}::a.defers} W):
 (Code.rangeFunc g ps assign body).wpIn Fence.wide (n+1+1) P Q a w:=by
 refine wpIn_rangeFunc ?_;intro fn hfn;have hro:Fence.wide.round=none:=rfl;rw[hro];obtain⟨rec,hrec⟩: ∃rec:LoopState->Option Code->Loop,rec=fun st pe=>{state:=st,pending:=pe,fn,tmps:=a.tmps,params:=ps,assign,body,defers:=w.heap.size}:=⟨_,rfl⟩;obtain⟨W1,hW1⟩: ∃W1,(w.alloc (.deferred (some []))).alloc (.loop (rec .ready none))=W1:=⟨_,rfl⟩;have hL1:W1.heap[w.heap.size+1]? =some (.loop (rec .ready none)):=by
  rw[<-hW1];have:=World.alloc_heap_new (w.alloc (.deferred (some []))) (.loop (rec .ready none));rwa [World.size_alloc]at this
 have hK1:W1.heap[w.heap.size]? =some (.deferred (some [])):=by
  rw[<-hW1];exact(Below.heap_alloc _ _ _ (by simp)).trans (World.alloc_heap_new w _)
 have hI1:I [] W1:=by
  rw[<-hW1];exact hIn _ _ _ h0 (((Below.refl _ w).alloc (Nat.le_refl _) _).alloc (by simp) _)
 refine⟨w.heap.size+1, [{target:=.collected w.heap.size,args:= #[]}],W1,{target:=.fn (.func gf) lb,args:= #[.func (.yield (w.heap.size+1)) #[] #[]]},W1,gf,
  #[.func (.yield (w.heap.size+1)) #[] #[]]++lb,W1, ?_, ?_, ?_, ?_,fun h=>by simp[Fence.wide]at h, ?_⟩
 . rw[<-hW1,hrec];exact run_enterLoop_outer _ _ _ _ _
 . simp only[resolve,hg];simp[go_sem]
 . intro f' _;trivial
 . simp[invoke,go_sem,eg]
 . refine(hit n (w.heap.size+1)
    (fun pre W=>I pre W/\W.heap[w.heap.size+1]? =some (.loop (rec .ready none))/\W.heap[w.heap.size]? =some (.deferred (some [])))
    W1 (fun s A B hs hb=>⟨hIn s A B hs.1 hb,(hb.block _ (Array.getElem?_eq_some_iff.1 hs.2.1).1).trans hs.2.1,(hb.block _ (Array.getElem?_eq_some_iff.1 hs.2.2).1).trans hs.2.2⟩)
    (fun s A hs=>hIb s A hs.1) ?_ ⟨hI1,hL1,hK1⟩).mono ?_
   ·
    rintro pre x rest q W hx ⟨hi,hl,hk⟩ hE;have hlt:w.heap.size+1<W.heap.size:=(Array.getElem?_eq_some_iff.1 hl).1;have hy:=run_yield (P:=P) (args:=encs x q) hl (by rw[hrec];exact hps x q);rw[hrec]at hy;refine⟨fn,_,assign,body,hy,roundIn_of_wpIn trivial (hassign _ x q W _ ⟨_,run_beginRound hl (by rw[hrec]), ?_⟩)⟩;have hl2:(W.putObj (w.heap.size+1) (.loop {rec .ready none with state:=.busy})).heap[w.heap.size+1]? =some (.loop {rec .ready none with state:=.busy}):=World.putObj_heap_same hlt;have hk2:(W.putObj (w.heap.size+1) (.loop {rec .ready none with state:=.busy})).heap[w.heap.size]? =some (.deferred (some [])):=(World.putObj_heap_other (by omega)).trans hk;refine wpIn_mono (hbody _ pre x rest q _ hx (hIp _ _ _ _ _ hi hl rfl (.inr rfl)) (hEp _ _ _ _ _ _ hE hl rfl) ⟨_,hk2⟩ ⟨_,hl2⟩) ?_;rintro e a3 W3 hp
    cases e with
    |normal=>
     obtain⟨h1,h2,hi3⟩:=hp;have hl3:=h2.trans hl2;have hk3:=h1.trans hk2;have hr:=run_endRound (P:=P) none hl3;rw[hrec]at hr;refine⟨_,_,hr,rfl,hIp _ _ _ _ _ hi3 hl3 rfl (.inr rfl), ?_, ?_⟩
     . rw[World.putObj_heap_same (Array.getElem?_eq_some_iff.1 hl3).1,hrec];rfl
     . exact(World.putObj_heap_other (by omega)).trans hk3
    |ret=>exact hp.elim
    |exit id=>exact hp.elim
    |goto t=>exact hp.elim
    |panic ch=>exact hp.elim
    |outgrown=>exact hp.elim
   ·
    rintro e W2 ⟨⟨v,rfl⟩,hi,hl,hk⟩;exact⟨none,_,by have:=run_endLoop (P:=P) hl (by rw[hrec];simp);rw[hrec]at this;exact this,hdone _ (hIp _ _ _ _ _ hi hl rfl (.inr rfl)) ((World.putObj_heap_other (by omega)).trans hk)⟩
abbrev Mx:Type:=ByteArray×(Val×((Option Addr×Nat)×(Option Addr×Nat)))
instance:Inhabited Val:=⟨.mk 0 false 0 ⟨#[]⟩ [] []⟩
def D8:Mx->List Value
 |(key,(.mk k b n t l o,((la,lc),(oa,oc))))=> [.string key,.int .i64 k,.bool b,.int .i64 n,.string t,.slice la l.length lc,.slice oa o.length oc]
def Iz (x:Mx):ByteArray×Val:=(x.1,x.2.1)
theorem J4 (x:Mx):(D8 x).length=7:=by
 obtain⟨key,⟨k,b,n,t,l,o⟩,⟨la,lc⟩,oa,oc⟩:=x;rfl
theorem Xz (x:Mx): ∀v ∈ D8 x,v.oneCell'=true:=by
 obtain⟨key,⟨k,b,n,t,l,o⟩,⟨la,lc⟩,oa,oc⟩:=x;intro v hv;simp only[D8,List.mem_cons,List.not_mem_nil,or_false]at hv;rcases hv with rfl|rfl|rfl|rfl|rfl|rfl|rfl<;>rfl
theorem Mk (x:Mx):(D8 x)[0]! =.string x.1:=by
 obtain⟨key,⟨k,b,n,t,l,o⟩,⟨la,lc⟩,oa,oc⟩:=x;rfl
def Yp (x y:Mx):Bool:=Bq x.1 y.1
theorem Adc:Go.Sort.SWO Yp where
 irrefl x:=Cm _
 trans x y z h k:=A9 h k
 ntrans x y z h k:=by
  unfold Yp at*
  cases e:Bq x.1 z.1 with
  |false=>rfl
  |true=>
   rcases D9 x.1 y.1 with p|p|p
   . rw[h]at p;cases p
   . rw[p]at e;rw[k]at e;cases e
   . have:=A9 p e;rw[k]at this;cases this
theorem Ab3 (blk off c Bs size:Nat) (W:World) (G:Nat->ByteArray) (hs:W.cell? ⟨Bs,0,none⟩=some (.slice (some ⟨blk,off,none⟩) size c))
 (hc: ∀t,t<size->W.cell? ⟨blk,off+t*7,none⟩=some (.string (G t))) (i j:Nat) (hi:i<size) (hj:j<size) (_hsz:size<4611686018427387904):
 Calls Tryz.prog 113 #[.int .i64 i,.int .i64 j,.pointer (some ⟨Bs,0,none⟩)] W fun e w'=>e=.returned (.bool (Bq (G i) (G j)))/\ ∃q,w'=W.drewN q:=by
 have ci:=hc i hi;have cj:=hc j hj;clear hc;have i1:(i:Int)<(size:Int):=by omega
 have j1:(j:Int)<(size:Int):=by omega
 go_enter Tryz.func113,Tryz.ntmps113;go_wp2;go_quiet (fail);go_wp2;go_ret;exact⟨rfl,nq,rfl⟩
noncomputable def Aat:TypeInfo:=(Tryz.prog.info? 31).get (by kernel_rfl)
noncomputable def Ph:TypeInfo:=(Tryz.prog.info? 88).get (by kernel_rfl)
theorem Acf (n:Nat) (h2:2<=n):Lib.swapperK n Ph 25=9:=by
 have a:Ph.hasPointers=true:=by kernel_rfl
 have b:Ph.bytes=104:=by kernel_rfl
 have c:(n==0)=false:=by simp;omega
 have d:(n==1)=false:=by simp;omega
 simp[Lib.swapperK,a,b,c,d]
def Xb (w:World) (blk:Nat) (d:Array Mx) (e:Ending) (w':World):Prop:=e=.returned (.tuple #[])/\ ∃d':Array Mx,d'.size=d.size/\d'.toList.Perm d.toList/\Go.Sort.SortedIn Yp 0 d.size d'/\
 (∀i,i<d.size-> ∀j,j<7->w'.cell? ⟨blk,i*7+j,none⟩=some (D8 d'[i]!)[j]!)/\(∀b,b<w.heap.size->b≠blk->w'.heap[b]? =w.heap[b]?)/\w.heap.size<=w'.heap.size/\w'.os=w.os/\w'.tape=w.tape/\w'.output=w.output
theorem Uc (blk c Bs:Nat) (d:Array Mx) (h2:2<=d.size) (hsz:d.size<4611686018427387904) (w:World) (hH:Go.Sort.HoldsK D8 7 w blk 0 d) (hblk:blk<w.heap.size)
 (hBs:w.cell? ⟨Bs,0,none⟩=some (.slice (some ⟨blk,0,none⟩) d.size c)) (hB1:Bs<w.heap.size) (hB2:Bs≠blk):
 Calls Tryz.prog 112 #[.iface 31 (.slice (some ⟨blk,0,none⟩) d.size c),.func (.func 113) #[] #[.pointer (some ⟨Bs,0,none⟩)]] w (Xb w blk d):=by
 have hless:LessReadsK Tryz.prog 113 #[.pointer (some ⟨Bs,0,none⟩)] D8 7 Yp blk 0 d.size w:=by
  intro m os dk hs i j hi hj;have e:sortWorldK D8 7 w blk 0 m dk os=Go.Sort.putRowK D8 7 (Go.Sort.grow (Go.Sort.ahead w m) os) blk 0 dk:=by
   unfold sortWorldK;rw[Go.Sort.putRowK_grow _ _ (Go.Sort.ahead w m) _ blk 0 _ hblk]
  have hHg:Go.Sort.HoldsK D8 7 (Go.Sort.grow (Go.Sort.ahead w m) os) blk 0 d:=Go.Sort.holdsK_grow _ _ _ _ blk 0 d hblk (Go.Sort.holdsK_ahead _ _ _ _ _ _ _ hH);refine Ab3 blk 0 c Bs d.size _ (fun t=>dk[t]!.1) ?_ (fun t ht=> ?_) i j hi hj (by omega)
  . rw[e,Go.Sort.cell?_putRowK_other _ _ _ blk 0 dk _ (by exact hB2),Go.Sort.cell?_grow _ _ _ (by exact hB1)];exact hBs
  . rw[e,<-Mk];exact((Go.Sort.holdsK_putRowK _ _ _ blk 0 d dk hHg hs).cell (i:=t) (c:=0) (by omega) (by omega)).1
 have hS:=Any.sort_Slice_cells_sorted Tryz.sortSlice_lays 31 88 Aat Ph (by kernel_rfl) (by kernel_rfl) (by kernel_rfl) (by kernel_rfl) 25 (fun _=>by kernel_rfl) D8 7 J4 (by kernel_rfl) (fun _=>by kernel_rfl)
  Xz Yp Adc 113 _
  (enters_of Tryz.func113 (by kernel_rfl) rfl) blk 0 c d h2 hsz 199 (by rw[Acf _ h2];kernel_rfl) false
  (fun args W=>run_callFunc_extern Tryz.func199 (by kernel_rfl) (by kernel_rfl) (by kernel_rfl) (e:=Extern.ReflectliteSwapper.swap false) (by kernel_rfl) args W) w hless hH hblk
 change Calls Tryz.prog 112 _ _ _ at hS;refine hS.mono ?_;rintro e w' ⟨rfl,d',n,os,⟨hs',_,hp⟩,hso,rfl⟩;have hp':d'.toList.Perm d.toList:=by
  have e1:d'.extract 0 d.size=d':=by rw[<-hs'];simp
  have e2:d.extract 0 d.size=d:=by simp
  rwa [e1,e2]at hp
 have hH2:Go.Sort.HoldsK D8 7 (Go.Sort.putRowK D8 7 (Go.Sort.ahead w n) blk 0 d') blk 0 d':=Go.Sort.holdsK_putRowK _ _ _ blk 0 d d' (Go.Sort.holdsK_ahead _ _ _ _ _ _ _ hH) hs';have hsize:(Go.Sort.putRowK D8 7 (Go.Sort.ahead w n) blk 0 d').heap.size=w.heap.size:=by
  simp[Go.Sort.putRowK,Go.Sort.putRow,Go.Sort.mapBlock,Go.Sort.ahead]
 refine⟨rfl,d',hs',hp',hso,fun i hi j hj=> ?_,fun b hb hne=> ?_,by rw[Go.Sort.size_grow,hsize];omega,rfl,rfl,rfl⟩
 . rw[Go.Sort.cell?_grow _ _ _ (by show blk<_;rw[hsize];exact hblk)];have:=(hH2.cell (i:=i) (c:=j) (by omega) hj).1
   rwa [Nat.zero_add]at this
 . show((Go.Sort.putRowK D8 7 (Go.Sort.ahead w n) blk 0 d').heap++os)[b]? =_;rw[Array.getElem?_append_left (by rw[hsize];exact hb)];simp only[Go.Sort.putRowK,Go.Sort.putRow,Go.Sort.mapBlock,Go.Sort.ahead,Array.getElem?_modify];rw[if_neg (fun e=>hne e.symm)]
theorem Wv (p:Option Addr) (n c Bs:Nat) (h1:n<=1) (w:World):
 Calls Tryz.prog 112 #[.iface 31 (.slice p n c),.func (.func 113) #[] #[.pointer (some ⟨Bs,0,none⟩)]] w fun e w'=>e=.returned (.tuple #[])/\Below w.heap.size w w':=by
 have key: ∀f,Tryz.prog.funcs.findIdx? (·.name== "internal/reflectlite" ++ ".Swapper$" ++toString (Lib.swapperK n Ph 25))=some f->
  Calls Tryz.prog 112 #[.iface 31 (.slice p n c),.func (.func 113) #[] #[.pointer (some ⟨Bs,0,none⟩)]] w fun e w'=>e=.returned (.tuple #[])/\Below w.heap.size w w':=by
  intro f hf;have hS:=Any.sort_Slice_tiny Tryz.sortSlice_lays 31 88 Aat Ph (by kernel_rfl) (by kernel_rfl) (by kernel_rfl) (by kernel_rfl) 25 (fun _=>by kernel_rfl) p n c h1 f hf (.func 113) #[] #[.pointer (some ⟨Bs,0,none⟩)] w;change Calls Tryz.prog 112 _ _ _ at hS;refine hS.mono ?_;rintro e w' ⟨rfl,os,rfl⟩;refine⟨rfl,⟨rfl,rfl,rfl,by rw[Go.Sort.size_grow];omega,fun i hi=> ?_⟩⟩;show(w.heap++os)[i]? =_;exact Array.getElem?_append_left hi
 rcases Nat.eq_zero_or_pos n with rfl|h0
 . exact key 191 (by kernel_rfl)
 . obtain rfl:n=1:=by omega
   exact key 192 (by kernel_rfl)
end Go.Proofs.YtdbejcbbhomdbaaGreatDoor
