/- Parts, joined: A range over an iterator that yields a known list, each of it in one of several ways (what way, q, is known in the round alone), by a body that always goes on. No condition. The reference's runes: At, Valid. Plain Lean, no program: the reference's runes are the decoder's. -/
import Derived.RangeFuncNested
import Derived.RangeFuncBound
import Derived.RangeFuncCalls
import Derived.RangeFuncLeaves
import Derived.WalkKit
import Derived.OwnWalkIn
import Derived.TacticsInMore
import Derived.Test.YtackmnbpfbaemaaGreatDoorProg
import Derived.Lib.ValidU
import Derived.Test.YtackmnbpfbaemaaGreatDoorKPb2
import Derived.Test.YtackmnbpfbaemaaGreatDoorKPb4
namespace Go.Proofs.YtackmnbpfbaemaaGreatDoor
open Go.RowKit
def YieldsE {α β:Type} (P:Program) (gf:Nat) (lb:Array Value) (encs:α→β→Array Value) (E:α→β→World→Prop) (xs:List α) (N:World→Prop):Prop:=
 ∀(n l:Nat) (J:List α→World→Prop) (W:World),(∀s A B,J s A→Below A.heap.size A B→J s B)→(∀s A,J s A→N A)→
  (∀pre x rest q A,xs=pre++x::rest→J pre A→E x q A→YieldAt Fence.wide n P l (encs x q) A fun e B=>e= .returned (.bool true)∧J (pre++ [x]) B)→
  J [] W→CallsIn Fence.wide (n+1) P gf (#[.func (.yield l) #[] #[]]++lb) W fun e B=>(∃v,e= .returned v)∧J xs B
theorem wp_range_each {α β:Type} {P:Program} {g:Operand} {ps:Array Tmp} {assign body:Code} {Q:Exit→Act→World→Prop} {a:Act} {w:World} {n:Nat}
 {gf:Nat} {lb:Array Value} (hg:a.eval g= .func (.func gf) #[] lb) (eg: ∀args w,(callFunc gf args).run P w= .ok (.enter gf args) w)
 {encs:α→β→Array Value} {E:α→β→World→Prop} {xs:List α} {N:World→Prop} (hit:YieldsE P gf lb encs E xs N) (hps: ∀x q,(encs x q).size=ps.size)
 (hEp: ∀x q A k o o',E x q A→A.heap[k]? =some o→o.isCells=false→E x q (A.putObj k o'))
 (I:List α→World→Prop) (hIn: ∀s A B,I s A→Below A.heap.size A B→I s B)
 (hIp: ∀s A k o o',I s A→A.heap[k]? =some o→o.isCells=false→(k=w.heap.size∨k=w.heap.size+1)→I s (A.putObj k o'))
 (hIb: ∀s A,I s A→N A) (h0:I [] w) (a₁:α→β→Act)
 (hassign: ∀(l:Nat) (x:α) (q:β) (W:World) (K:Act→World→Prop),K (a₁ x q) W→
   assign.wpIn (Fence.wide.inRound l) n P (Exit.then K (fun _ _ _=>False)) {tmps:=(ps.zip (encs x q)).foldl (fun t (p,v)=>t.setIfInBounds p v) a.tmps,defers:= []} W)
 (hbody: ∀(l:Nat) (pre:List α) (x:α) (rest:List α) (q:β) (W:World),xs=pre++x::rest→I pre W→E x q W→(∃ds,W.heap[w.heap.size]? =some (.deferred ds))→(∃r,W.heap[w.heap.size+1]? =some (.loop r))→
   body.wpIn (Fence.wide.inRound l) n P (goesOn (I (pre++ [x])) w.heap.size W) (a₁ x q) W)
 (hdone: ∀(W:World),I xs W→W.heap[w.heap.size]? =some (.deferred (some []))→Q .normal {a with defers:={target:= .collected w.heap.size,args:= #[]}::a.defers} W):
 (Code.rangeFunc g ps assign body).wpIn Fence.wide (n+1+1) P Q a w:=by
 refine wpIn_rangeFunc ?_
 intro fn hfn
 have hro:Fence.wide.round=none:=rfl
 rw[hro]
 obtain⟨rec,hrec⟩: ∃rec:LoopState→Option Code→Loop,rec=fun st pe=>{state:=st,pending:=pe,fn,tmps:=a.tmps,params:=ps,assign,body,defers:=w.heap.size}:=⟨_,rfl⟩
 obtain⟨W1,hW1⟩: ∃W1,(w.alloc (.deferred (some []))).alloc (.loop (rec .ready none))=W1:=⟨_,rfl⟩
 have hL1:W1.heap[w.heap.size+1]? =some (.loop (rec .ready none)):=by
  rw[←hW1];have:=World.alloc_heap_new (w.alloc (.deferred (some []))) (.loop (rec .ready none));rwa [World.size_alloc]at this
 have hK1:W1.heap[w.heap.size]? =some (.deferred (some [])):=by
  rw[←hW1];exact(Below.heap_alloc _ _ _ (by simp)).trans (World.alloc_heap_new w _)
 have hI1:I [] W1:=by
  rw[←hW1];exact hIn _ _ _ h0 (((Below.refl _ w).alloc (Nat.le_refl _) _).alloc (by simp) _)
 refine⟨w.heap.size+1, [{target:= .collected w.heap.size,args:= #[]}],W1,{target:= .fn (.func gf) lb,args:= #[.func (.yield (w.heap.size+1)) #[] #[]]},W1,gf,
  #[.func (.yield (w.heap.size+1)) #[] #[]]++lb,W1, ?_, ?_, ?_, ?_,fun h=>by simp[Fence.wide]at h, ?_⟩
 · rw[←hW1,hrec];exact run_enterLoop_outer _ _ _ _ _
 · simp only[resolve,hg]
   simp[go_sem]
 · intro f' _;trivial
 · simp[invoke,go_sem,eg]
 · refine(hit n (w.heap.size+1)
    (fun pre W=>I pre W∧W.heap[w.heap.size+1]? =some (.loop (rec .ready none))∧W.heap[w.heap.size]? =some (.deferred (some [])))
    W1 (fun s A B hs hb=>⟨hIn s A B hs.1 hb,(hb.block _ (Array.getElem?_eq_some_iff.1 hs.2.1).1).trans hs.2.1,(hb.block _ (Array.getElem?_eq_some_iff.1 hs.2.2).1).trans hs.2.2⟩)
    (fun s A hs=>hIb s A hs.1) ?_ ⟨hI1,hL1,hK1⟩).mono ?_
   ·
    rintro pre x rest q W hx ⟨hi,hl,hk⟩ hE
    have hlt:w.heap.size+1<W.heap.size:=(Array.getElem?_eq_some_iff.1 hl).1
    have hy:=run_yield (P:=P) (args:=encs x q) hl (by rw[hrec];exact hps x q)
    rw[hrec]at hy
    refine⟨fn,_,assign,body,hy,roundIn_of_wpIn trivial (hassign _ x q W _ ⟨_,run_beginRound hl (by rw[hrec]), ?_⟩)⟩
    have hl2:(W.putObj (w.heap.size+1) (.loop {rec .ready none with state:= .busy})).heap[w.heap.size+1]? =some (.loop {rec .ready none with state:= .busy}):=World.putObj_heap_same hlt
    have hk2:(W.putObj (w.heap.size+1) (.loop {rec .ready none with state:= .busy})).heap[w.heap.size]? =some (.deferred (some [])):=(World.putObj_heap_other (by omega)).trans hk
    refine wpIn_mono (hbody _ pre x rest q _ hx (hIp _ _ _ _ _ hi hl rfl (.inr rfl)) (hEp _ _ _ _ _ _ hE hl rfl) ⟨_,hk2⟩ ⟨_,hl2⟩) ?_
    rintro e a3 W3 hp
    cases e with
    |normal=>
     obtain⟨h1,h2,hi3⟩:=hp
     have hl3:=h2.trans hl2
     have hk3:=h1.trans hk2
     have hr:=run_endRound (P:=P) none hl3
     rw[hrec]at hr
     refine⟨_,_,hr,rfl,hIp _ _ _ _ _ hi3 hl3 rfl (.inr rfl), ?_, ?_⟩
     · rw[World.putObj_heap_same (Array.getElem?_eq_some_iff.1 hl3).1,hrec];rfl
     · exact(World.putObj_heap_other (by omega)).trans hk3
    |ret=>exact hp.elim
    |exit id=>exact hp.elim
    |goto t=>exact hp.elim
    |panic ch=>exact hp.elim
    |outgrown=>exact hp.elim
   ·
    rintro e W2 ⟨⟨v,rfl⟩,hi,hl,hk⟩
    exact⟨none,_,by have:=run_endLoop (P:=P) hl (by rw[hrec];simp);rw[hrec]at this;exact this,hdone _ (hIp _ _ _ _ _ hi hl rfl (.inr rfl)) ((World.putObj_heap_other (by omega)).trans hk)⟩
end Go.Proofs.YtackmnbpfbaemaaGreatDoor

namespace Go.Proofs.YtackmnbpfbaemaaGreatDoor
open Go.RowKit
def contFold:List UInt8→Nat→Int→Option Int
 |_,0,r=>some r
 | [],_+1,_=>none
 |d::l,n+1,r=>if(d.toNat:Int)<128∨192≤(d.toNat:Int)then none else contFold l n (64*r+d.toNat - 128)
def atEnd (F:Option Int) (n:Nat) (least:Int):Int×Int:=
 match F with
 |none=>(0,0)
 |some r=>if r<least∨1114111<r∨(55296≤r∧r<57344)then(0,0)else(r,n)
def atTail (rest:List UInt8) (n:Nat) (r0 least:Int):Int×Int:=
 if rest.length+1<n then(0,0)else atEnd (contFold rest (n - 1) r0) n least
def atSpec:List UInt8→Int×Int
 | []=>(0,0)
 |c::rest=>
  if(c.toNat:Int)<128 then(c.toNat,1)
  else if 192≤(c.toNat:Int)∧(c.toNat:Int)<224 then atTail rest 2 (c.toNat - 192) 128
  else if 224≤(c.toNat:Int)∧(c.toNat:Int)<240 then atTail rest 3 (c.toNat - 224) 2048
  else if 240≤(c.toNat:Int)∧(c.toNat:Int)<248 then atTail rest 4 (c.toNat - 240) 65536
  else(0,0)
theorem drop_byte (s:ByteArray) (a:Nat) (h:a<s.size):s.data.toList.drop a=s[a]::s.data.toList.drop (a+1):=by
 rw[List.drop_eq_getElem_cons (by rw[←Lib.size_eq];exact h)]
 rfl
theorem contFold_cons (d:UInt8) (l:List UInt8) (n:Nat) (r:Int):contFold (d::l) (n+1) r=if(d.toNat:Int)<128∨192≤(d.toNat:Int)then none else contFold l n (64*r+d.toNat - 128):=rfl
theorem atSpec_cons (c:UInt8) (rest:List UInt8):atSpec (c::rest)=
 (if(c.toNat:Int)<128 then((c.toNat:Int),(1:Int))
 else if 192≤(c.toNat:Int)∧(c.toNat:Int)<224 then atTail rest 2 (c.toNat - 192) 128
 else if 224≤(c.toNat:Int)∧(c.toNat:Int)<240 then atTail rest 3 (c.toNat - 224) 2048
 else if 240≤(c.toNat:Int)∧(c.toNat:Int)<248 then atTail rest 4 (c.toNat - 240) 65536
 else(0,0)):=rfl
set_option maxRecDepth 1000000 in
set_option maxHeartbeats 2000000 in
theorem At_two (s:ByteArray) (a:Nat) (w:World) (hs:s.size≤4611686018427387904) (h:a<s.size) (x:UInt8) (hx:s[a]=x) (h1:192≤(x.toNat:Int)) (h2:(x.toNat:Int)<224) (h3:a+2≤s.size):
 Calls Tryz.prog 127 #[.string s, .int .i64 a] w fun e w'=>e= .returned (.tuple #[.int .i64 (atTail (s.data.toList.drop (a+1)) 2 (x.toNat - 192) 128).1, .int .i64 (atTail (s.data.toList.drop (a+1)) 2 (x.toNat - 192) 128).2])∧w=w':=by
 have hlen: ¬(s.data.toList.drop (a+1)).length+1<2:=by
  rw[List.length_drop,←Lib.size_eq];omega
 obtain⟨F,hF⟩: ∃F,contFold (s.data.toList.drop (a+1)) (2 - 1) (x.toNat - 192)=F:=⟨_,rfl⟩
 have hat:atTail (s.data.toList.drop (a+1)) 2 (x.toNat - 192) 128=atEnd F 2 128:=by
  unfold atTail atEnd
  rw[if_neg hlen,hF]
 rw[hat]
 have H0:=Lib.hid hF
 clear hat hlen hF
 have e1:decide (s.size≤a)=false:=by simp;omega
 have e2:decide ((x.toNat:Int)<128)=false:=by simp;omega
 have e3:(a:Int)+2≤(s.size:Int):=by omega
 go_enter Tryz.func127,Tryz.ntmps127
 go_wp2
 go_loop [8,10] (fun r i=> ∃k:Nat,∃rr:Int,1≤k∧k≤2∧i= .int .i64 k∧r= .int .i64 rr∧0≤rr∧(k≤1→rr≤31)∧(k≤2→rr≤2047)∧(k≤3→rr≤131071)∧rr≤8388607∧Hid (contFold (s.data.toList.drop (a+k)) (2 - k) rr=F)) (fun _ i=>2 - (intOf i).toNat)
 case atStart=>exact⟨1,(x.toNat:Int) - 192,by omega,by omega,rfl,rfl,by omega,by omega,by omega,by omega,by omega,H0⟩
 case round=>
  obtain⟨k,rr,hk1,hk2,rfl,rfl,hr0,hr1,hr2,hr3,hr4,hf⟩:=hrel
  clear H0
  by_cases hlt:k<2
  · obtain rfl:k=1:=by omega
    have hak:a+1<s.size:=by omega
    obtain⟨y,hy⟩: ∃y,s[a+1]=y:=⟨_,rfl⟩
    have hyl:(y.toNat:Int)<256:=by have:=y.toNat_lt;omega
    have hf':=hf.out
    rw[drop_byte s (a+1) hak,hy,show 2 - 1=(2 - (1+1))+1 from by omega]at hf'
    rw[contFold_cons]at hf'
    by_cases hc:(y.toNat:Int)<128∨192≤(y.toNat:Int)
    · rw[if_pos hc]at hf'
      subst hf'
      clear hf
      rcases hc with hc|hc
      all_goals
       go_wp2
       all_goals go_ret2
       all_goals exact⟨rfl,rfl⟩
    · rw[if_neg hc]at hf'
      have Hf:=Lib.hid hf'
      clear hf hf'
      have hc1:128≤(y.toNat:Int):=by omega
      have hc2:(y.toNat:Int)<192:=by omega
      clear hc
      go_wp2
      go_round
      case rel=>exact⟨1+1,64*rr+y.toNat - 128,by omega,by omega,by go_num,rfl,by omega,by omega,by omega,by omega,by omega,Hf⟩
      case measure=>first|(simp[intOf];done)|(simp[intOf];omega)
  · obtain rfl:k=2:=by omega
    have hf':=hf.out
    rw[Nat.sub_self]at hf'
    rw[show contFold (s.data.toList.drop (a+2)) 0 rr=some rr from by cases (s.data.toList.drop (a+2))<;>rfl]at hf'
    subst hf'
    clear hf
    by_cases hbad:rr<128∨1114111<rr∨(55296≤rr∧rr<57344)
    · have hv:atEnd (some rr) 2 128=(0,0):=by unfold atEnd;simp only;rw[if_pos hbad]
      have Hv:=Lib.hid hv
      clear hv
      have hb:(rr<128)∨(¬rr<128∧1114111<rr)∨(¬rr<128∧ ¬1114111<rr∧55296≤rr∧rr<57344):=by omega
      clear hbad
      rcases hb with b1|⟨b1,b2⟩|⟨b1,b2,b3,b4⟩
      all_goals
       go_wp2
       all_goals go_ret2
       all_goals exact⟨by rw[Hv.out];rfl,rfl⟩
    · have hv:atEnd (some rr) 2 128=(rr,2):=by unfold atEnd;simp only;rw[if_neg hbad];rfl
      have Hv:=Lib.hid hv
      clear hv
      have hb:(¬rr<128∧ ¬1114111<rr∧rr<55296)∨(¬rr<128∧ ¬1114111<rr∧55296≤rr∧ ¬rr<57344):=by omega
      clear hbad
      rcases hb with⟨b1,b2,b3⟩|⟨b1,b2,b3,b4⟩
      all_goals
       go_wp2
       all_goals go_ret2
       all_goals exact⟨by rw[Hv.out];rfl,rfl⟩
set_option maxRecDepth 1000000 in
set_option maxHeartbeats 2000000 in
theorem At_three (s:ByteArray) (a:Nat) (w:World) (hs:s.size≤4611686018427387904) (h:a<s.size) (x:UInt8) (hx:s[a]=x) (h1:224≤(x.toNat:Int)) (h2:(x.toNat:Int)<240) (h3:a+3≤s.size):
 Calls Tryz.prog 127 #[.string s, .int .i64 a] w fun e w'=>e= .returned (.tuple #[.int .i64 (atTail (s.data.toList.drop (a+1)) 3 (x.toNat - 224) 2048).1, .int .i64 (atTail (s.data.toList.drop (a+1)) 3 (x.toNat - 224) 2048).2])∧w=w':=by
 have hlen: ¬(s.data.toList.drop (a+1)).length+1<3:=by
  rw[List.length_drop,←Lib.size_eq];omega
 obtain⟨F,hF⟩: ∃F,contFold (s.data.toList.drop (a+1)) (3 - 1) (x.toNat - 224)=F:=⟨_,rfl⟩
 have hat:atTail (s.data.toList.drop (a+1)) 3 (x.toNat - 224) 2048=atEnd F 3 2048:=by
  unfold atTail atEnd
  rw[if_neg hlen,hF]
 rw[hat]
 have H0:=Lib.hid hF
 clear hat hlen hF
 have e1:decide (s.size≤a)=false:=by simp;omega
 have e2:decide ((x.toNat:Int)<128)=false:=by simp;omega
 have e3:(a:Int)+3≤(s.size:Int):=by omega
 go_enter Tryz.func127,Tryz.ntmps127
 go_wp2
 go_loop [8,10] (fun r i=> ∃k:Nat,∃rr:Int,1≤k∧k≤3∧i= .int .i64 k∧r= .int .i64 rr∧0≤rr∧(k≤1→rr≤31)∧(k≤2→rr≤2047)∧(k≤3→rr≤131071)∧rr≤8388607∧Hid (contFold (s.data.toList.drop (a+k)) (3 - k) rr=F)) (fun _ i=>3 - (intOf i).toNat)
 case atStart=>exact⟨1,(x.toNat:Int) - 224,by omega,by omega,rfl,rfl,by omega,by omega,by omega,by omega,by omega,H0⟩
 case round=>
  obtain⟨k,rr,hk1,hk2,rfl,rfl,hr0,hr1,hr2,hr3,hr4,hf⟩:=hrel
  clear H0
  by_cases hlt:k<3
  · have hak:a+k<s.size:=by omega
    obtain⟨y,hy⟩: ∃y,s[a+k]=y:=⟨_,rfl⟩
    have hyl:(y.toNat:Int)<256:=by have:=y.toNat_lt;omega
    have hf':=hf.out
    rw[drop_byte s (a+k) hak,hy,show 3 - k=(3 - (k+1))+1 from by omega]at hf'
    rw[contFold_cons]at hf'
    by_cases hc:(y.toNat:Int)<128∨192≤(y.toNat:Int)
    · rw[if_pos hc]at hf'
      subst hf'
      clear hf
      rcases hc with hc|hc
      all_goals
       go_wp2
       all_goals go_ret2
       all_goals exact⟨rfl,rfl⟩
    · rw[if_neg hc]at hf'
      have Hf:=Lib.hid hf'
      clear hf hf'
      have hc1:128≤(y.toNat:Int):=by omega
      have hc2:(y.toNat:Int)<192:=by omega
      clear hc
      go_wp2
      go_round
      case rel=>exact⟨k+1,64*rr+y.toNat - 128,by omega,by omega,by go_num,rfl,by omega,by omega,by omega,by omega,by omega,Hf⟩
      case measure=>first|(simp[intOf];done)|(simp[intOf];omega)
  · obtain rfl:k=3:=by omega
    have hf':=hf.out
    rw[Nat.sub_self]at hf'
    rw[show contFold (s.data.toList.drop (a+3)) 0 rr=some rr from by cases (s.data.toList.drop (a+3))<;>rfl]at hf'
    subst hf'
    clear hf
    by_cases hbad:rr<2048∨1114111<rr∨(55296≤rr∧rr<57344)
    · have hv:atEnd (some rr) 3 2048=(0,0):=by unfold atEnd;simp only;rw[if_pos hbad]
      have Hv:=Lib.hid hv
      clear hv
      have hb:(rr<2048)∨(¬rr<2048∧1114111<rr)∨(¬rr<2048∧ ¬1114111<rr∧55296≤rr∧rr<57344):=by omega
      clear hbad
      rcases hb with b1|⟨b1,b2⟩|⟨b1,b2,b3,b4⟩
      all_goals
       go_wp2
       all_goals go_ret2
       all_goals exact⟨by rw[Hv.out];rfl,rfl⟩
    · have hv:atEnd (some rr) 3 2048=(rr,3):=by unfold atEnd;simp only;rw[if_neg hbad];rfl
      have Hv:=Lib.hid hv
      clear hv
      have hb:(¬rr<2048∧ ¬1114111<rr∧rr<55296)∨(¬rr<2048∧ ¬1114111<rr∧55296≤rr∧ ¬rr<57344):=by omega
      clear hbad
      rcases hb with⟨b1,b2,b3⟩|⟨b1,b2,b3,b4⟩
      all_goals
       go_wp2
       all_goals go_ret2
       all_goals exact⟨by rw[Hv.out];rfl,rfl⟩
set_option maxRecDepth 1000000 in
set_option maxHeartbeats 2000000 in
theorem At_four (s:ByteArray) (a:Nat) (w:World) (hs:s.size≤4611686018427387904) (h:a<s.size) (x:UInt8) (hx:s[a]=x) (h1:240≤(x.toNat:Int)) (h2:(x.toNat:Int)<248) (h3:a+4≤s.size):
 Calls Tryz.prog 127 #[.string s, .int .i64 a] w fun e w'=>e= .returned (.tuple #[.int .i64 (atTail (s.data.toList.drop (a+1)) 4 (x.toNat - 240) 65536).1, .int .i64 (atTail (s.data.toList.drop (a+1)) 4 (x.toNat - 240) 65536).2])∧w=w':=by
 have hlen: ¬(s.data.toList.drop (a+1)).length+1<4:=by
  rw[List.length_drop,←Lib.size_eq];omega
 obtain⟨F,hF⟩: ∃F,contFold (s.data.toList.drop (a+1)) (4 - 1) (x.toNat - 240)=F:=⟨_,rfl⟩
 have hat:atTail (s.data.toList.drop (a+1)) 4 (x.toNat - 240) 65536=atEnd F 4 65536:=by
  unfold atTail atEnd
  rw[if_neg hlen,hF]
 rw[hat]
 have H0:=Lib.hid hF
 clear hat hlen hF
 have e1:decide (s.size≤a)=false:=by simp;omega
 have e2:decide ((x.toNat:Int)<128)=false:=by simp;omega
 have e3:(a:Int)+4≤(s.size:Int):=by omega
 go_enter Tryz.func127,Tryz.ntmps127
 go_wp2
 go_loop [8,10] (fun r i=> ∃k:Nat,∃rr:Int,1≤k∧k≤4∧i= .int .i64 k∧r= .int .i64 rr∧0≤rr∧(k≤1→rr≤31)∧(k≤2→rr≤2047)∧(k≤3→rr≤131071)∧rr≤8388607∧Hid (contFold (s.data.toList.drop (a+k)) (4 - k) rr=F)) (fun _ i=>4 - (intOf i).toNat)
 case atStart=>exact⟨1,(x.toNat:Int) - 240,by omega,by omega,rfl,rfl,by omega,by omega,by omega,by omega,by omega,H0⟩
 case round=>
  obtain⟨k,rr,hk1,hk2,rfl,rfl,hr0,hr1,hr2,hr3,hr4,hf⟩:=hrel
  clear H0
  by_cases hlt:k<4
  · have hak:a+k<s.size:=by omega
    obtain⟨y,hy⟩: ∃y,s[a+k]=y:=⟨_,rfl⟩
    have hyl:(y.toNat:Int)<256:=by have:=y.toNat_lt;omega
    have hf':=hf.out
    rw[drop_byte s (a+k) hak,hy,show 4 - k=(4 - (k+1))+1 from by omega]at hf'
    rw[contFold_cons]at hf'
    by_cases hc:(y.toNat:Int)<128∨192≤(y.toNat:Int)
    · rw[if_pos hc]at hf'
      subst hf'
      clear hf
      rcases hc with hc|hc
      all_goals
       go_wp2
       all_goals go_ret2
       all_goals exact⟨rfl,rfl⟩
    · rw[if_neg hc]at hf'
      have Hf:=Lib.hid hf'
      clear hf hf'
      have hc1:128≤(y.toNat:Int):=by omega
      have hc2:(y.toNat:Int)<192:=by omega
      clear hc
      go_wp2
      go_round
      case rel=>exact⟨k+1,64*rr+y.toNat - 128,by omega,by omega,by go_num,rfl,by omega,by omega,by omega,by omega,by omega,Hf⟩
      case measure=>first|(simp[intOf];done)|(simp[intOf];omega)
  · obtain rfl:k=4:=by omega
    have hf':=hf.out
    rw[Nat.sub_self]at hf'
    rw[show contFold (s.data.toList.drop (a+4)) 0 rr=some rr from by cases (s.data.toList.drop (a+4))<;>rfl]at hf'
    subst hf'
    clear hf
    by_cases hbad:rr<65536∨1114111<rr∨(55296≤rr∧rr<57344)
    · have hv:atEnd (some rr) 4 65536=(0,0):=by unfold atEnd;simp only;rw[if_pos hbad]
      have Hv:=Lib.hid hv
      clear hv
      have hb:(rr<65536)∨(¬rr<65536∧1114111<rr)∨(¬rr<65536∧ ¬1114111<rr∧55296≤rr∧rr<57344):=by omega
      clear hbad
      rcases hb with b1|⟨b1,b2⟩|⟨b1,b2,b3,b4⟩
      all_goals
       go_wp2
       all_goals go_ret2
       all_goals exact⟨by rw[Hv.out];rfl,rfl⟩
    · have hv:atEnd (some rr) 4 65536=(rr,4):=by unfold atEnd;simp only;rw[if_neg hbad];rfl
      have Hv:=Lib.hid hv
      clear hv
      have hb:(¬rr<65536∧ ¬1114111<rr∧rr<55296)∨(¬rr<65536∧ ¬1114111<rr∧55296≤rr∧ ¬rr<57344):=by omega
      clear hbad
      rcases hb with⟨b1,b2,b3⟩|⟨b1,b2,b3,b4⟩
      all_goals
       go_wp2
       all_goals go_ret2
       all_goals exact⟨by rw[Hv.out];rfl,rfl⟩
set_option maxRecDepth 1000000 in
set_option maxHeartbeats 2000000 in
theorem At_none (s:ByteArray) (a:Nat) (w:World) (_hs:s.size≤4611686018427387904) (_ha:a≤4611686018427387904) (h:s.size≤a):
 Calls Tryz.prog 127 #[.string s, .int .i64 a] w fun e w'=>e= .returned (.tuple #[.int .i64 0, .int .i64 0])∧w=w':=by
 have e1:(s.size:Int)≤a:=by omega
 have e2:decide (s.size≤a)=true:=by simpa using h
 go_enter Tryz.func127,Tryz.ntmps127
 go_wp2
 all_goals go_ret2
 all_goals exact⟨rfl,rfl⟩
set_option maxRecDepth 1000000 in
set_option maxHeartbeats 2000000 in
theorem At_one (s:ByteArray) (a:Nat) (w:World) (_hs:s.size≤4611686018427387904) (h:a<s.size) (x:UInt8) (hx:s[a]=x) (h1:(x.toNat:Int)<128):
 Calls Tryz.prog 127 #[.string s, .int .i64 a] w fun e w'=>e= .returned (.tuple #[.int .i64 x.toNat, .int .i64 1])∧w=w':=by
 go_enter Tryz.func127,Tryz.ntmps127
 go_wp2
 all_goals go_ret2
 all_goals exact⟨rfl,rfl⟩
set_option maxRecDepth 1000000 in
set_option maxHeartbeats 20000000 in
theorem At_bad (s:ByteArray) (a:Nat) (w:World) (hs:s.size≤4611686018427387904) (h:a<s.size) (x:UInt8) (hx:s[a]=x) (h0:128≤(x.toNat:Int))
 (h1:(x.toNat:Int)<192∨248≤(x.toNat:Int)∨(192≤(x.toNat:Int)∧(x.toNat:Int)<224∧s.size<a+2)∨(224≤(x.toNat:Int)∧(x.toNat:Int)<240∧s.size<a+3)∨(240≤(x.toNat:Int)∧(x.toNat:Int)<248∧s.size<a+4)):
 Calls Tryz.prog 127 #[.string s, .int .i64 a] w fun e w'=>e= .returned (.tuple #[.int .i64 0, .int .i64 0])∧w=w':=by
 have hxl:(x.toNat:Int)<256:=by have:=x.toNat_lt;omega
 rcases h1 with h1|h1|⟨h1,h2,h3⟩|⟨h1,h2,h3⟩|⟨h1,h2,h3⟩
 · go_enter Tryz.func127,Tryz.ntmps127
   go_wp2
   all_goals go_ret2
   all_goals exact⟨rfl,rfl⟩
 · have g1:192≤(x.toNat:Int):=by omega
   have g2: ¬((x.toNat:Int)<224):=by omega
   have g3:224≤(x.toNat:Int):=by omega
   have g4: ¬((x.toNat:Int)<240):=by omega
   have g5:240≤(x.toNat:Int):=by omega
   have g6: ¬((x.toNat:Int)<248):=by omega
   go_enter Tryz.func127,Tryz.ntmps127
   go_wp2
   all_goals go_ret2
   all_goals exact⟨rfl,rfl⟩
 · have h4:(s.size:Int)<(a:Int)+2:=by omega
   go_enter Tryz.func127,Tryz.ntmps127
   go_wp2
   all_goals go_ret2
   all_goals exact⟨rfl,rfl⟩
 · have h4:(s.size:Int)<(a:Int)+3:=by omega
   go_enter Tryz.func127,Tryz.ntmps127
   go_wp2
   all_goals go_ret2
   all_goals exact⟨rfl,rfl⟩
 · have h4:(s.size:Int)<(a:Int)+4:=by omega
   go_enter Tryz.func127,Tryz.ntmps127
   go_wp2
   all_goals go_ret2
   all_goals exact⟨rfl,rfl⟩
theorem At_calls (s:ByteArray) (a:Nat) (w:World) (hs:s.size≤4611686018427387904) (ha:a≤4611686018427387904):
 Calls Tryz.prog 127 #[.string s, .int .i64 a] w fun e w'=>e= .returned (.tuple #[.int .i64 (atSpec (s.data.toList.drop a)).1, .int .i64 (atSpec (s.data.toList.drop a)).2])∧w=w':=by
 by_cases h:a<s.size
 · rw[drop_byte s a h]
   obtain⟨x,hx⟩: ∃x,s[a]=x:=⟨_,rfl⟩
   rw[hx]
   have hl:(s.data.toList.drop (a+1)).length=s.size - (a+1):=by rw[List.length_drop,←Lib.size_eq]
   have hxl:=x.toNat_lt
   rw[atSpec_cons]
   by_cases h1:(x.toNat:Int)<128
   · rw[if_pos h1];exact At_one s a w hs h x hx h1
   rw[if_neg h1]
   by_cases h2:192≤(x.toNat:Int)∧(x.toNat:Int)<224
   · rw[if_pos h2]
     by_cases h3:a+2≤s.size
     · exact At_two s a w hs h x hx h2.1 h2.2 h3
     · unfold atTail;rw[if_pos (by omega)];exact At_bad s a w hs h x hx (by omega) (by omega)
   rw[if_neg h2]
   by_cases h2:224≤(x.toNat:Int)∧(x.toNat:Int)<240
   · rw[if_pos h2]
     by_cases h3:a+3≤s.size
     · exact At_three s a w hs h x hx h2.1 h2.2 h3
     · unfold atTail;rw[if_pos (by omega)];exact At_bad s a w hs h x hx (by omega) (by omega)
   rw[if_neg h2]
   by_cases h2:240≤(x.toNat:Int)∧(x.toNat:Int)<248
   · rw[if_pos h2]
     by_cases h3:a+4≤s.size
     · exact At_four s a w hs h x hx h2.1 h2.2 h3
     · unfold atTail;rw[if_pos (by omega)];exact At_bad s a w hs h x hx (by omega) (by omega)
   rw[if_neg h2]
   exact At_bad s a w hs h x hx (by omega) (by omega)
 · rw[List.drop_eq_nil_of_le (by rw[←Lib.size_eq];omega)]
   exact At_none s a w hs ha (by omega)
end Go.Proofs.YtackmnbpfbaemaaGreatDoor

namespace Go.Proofs.YtackmnbpfbaemaaGreatDoor
theorem get_mk (l:List UInt8) (k:Nat):((ByteArray.mk l.toArray).get! k)=l.getD k 0:=by
 show l.toArray[k]! =l.getD k 0
 rw[getElem!_def]
 simp only[List.getElem?_toArray,List.getD_eq_getElem?_getD]
 cases l[k]? <;>rfl
theorem decodeL_eq (l:List UInt8):Lib.decodeL l=Lib.decodeN l.length (l.getD 0 0).toNat (l.getD 1 0).toNat (l.getD 2 0).toNat (l.getD 3 0).toNat:=by
 unfold Lib.decodeL
 rw[Lib.decode_at]
 simp only[Nat.sub_zero,Nat.zero_add,get_mk]
 rfl
theorem contFold_zero (l:List UInt8) (r:Int):contFold l 0 r=some r:=by cases l<;>rfl
def goodAt (l:List UInt8):Prop:=
 atSpec l=if(Lib.decodeL l).1=65533∧(Lib.decodeL l).2=1 then(0,0)else(((Lib.decodeL l).1:Int),((Lib.decodeL l).2:Int))
theorem pair_eq {a b c d:Int} (h:a=c) (k:b=d):(a,b)=(c,d):=by rw[h,k]
set_option maxHeartbeats 8000000 in
theorem atSpec_dec1 (a:UInt8):goodAt [a]:=by
 unfold goodAt
 rw[decodeL_eq]
 have ha:=a.toNat_lt
 simp only[atSpec_cons,atTail,List.length_nil,List.length_cons,List.getD_cons_zero,Nat.zero_add]
 generalize a.toNat=x at ha ⊢
 unfold Lib.decodeN
 simp only[Nat.lt_irrefl,false_and,and_false,if_false]
 repeat' split
 all_goals first|rfl|(exfalso;omega)|(simp_all;done)|(simp_all;omega)
set_option maxHeartbeats 8000000 in
theorem atSpec_dec2 (a b:UInt8):goodAt [a,b]:=by
 unfold goodAt
 rw[decodeL_eq]
 have ha:=a.toNat_lt
 have hb:=b.toNat_lt
 simp only[atSpec_cons,atTail,List.length_nil,List.length_cons,List.getD_cons_zero,List.getD_cons_succ,Nat.zero_add,Nat.reduceAdd,Nat.reduceLT,if_false,if_true,Nat.reduceSub]
 rw[show contFold [b] 1 ((a.toNat:Int) - 192)=_ from contFold_cons b [] 0 _,contFold_zero]
 generalize a.toNat=x at ha ⊢
 generalize b.toNat=y at hb ⊢
 unfold Lib.decodeN atEnd
 simp only[Nat.lt_irrefl,false_and,and_false,if_false]
 repeat' split
 all_goals first|rfl|(exfalso;omega)|(apply pair_eq<;>omega)|(simp_all;done)|(simp_all;omega)
set_option maxHeartbeats 8000000 in
theorem atSpec_dec3 (a b c:UInt8):goodAt [a,b,c]:=by
 unfold goodAt
 rw[decodeL_eq]
 have ha:=a.toNat_lt
 have hb:=b.toNat_lt
 have hc:=c.toNat_lt
 simp only[atSpec_cons,atTail,List.length_nil,List.length_cons,List.getD_cons_zero,List.getD_cons_succ,Nat.zero_add,Nat.reduceAdd,Nat.reduceLT,if_false,if_true,Nat.reduceSub]
 rw[show contFold [b,c] 1 ((a.toNat:Int) - 192)=_ from contFold_cons b [c] 0 _,contFold_zero,
  show contFold [b,c] 2 ((a.toNat:Int) - 224)=_ from contFold_cons b [c] 1 _,show contFold [c] 1 (64*((a.toNat:Int) - 224)+b.toNat - 128)=_ from contFold_cons c [] 0 _,contFold_zero]
 generalize a.toNat=x at ha ⊢
 generalize b.toNat=y at hb ⊢
 generalize c.toNat=z at hc ⊢
 unfold Lib.decodeN atEnd
 simp only[Nat.lt_irrefl,false_and,and_false,if_false]
 repeat' split
 all_goals first|rfl|(exfalso;omega)|(apply pair_eq<;>omega)|(simp_all;done)|(simp_all;omega)
set_option maxHeartbeats 8000000 in
theorem atSpec_dec4 (a b c d:UInt8) (r:List UInt8):goodAt (a::b::c::d::r):=by
 unfold goodAt
 rw[decodeL_eq]
 have ha:=a.toNat_lt
 have hb:=b.toNat_lt
 have hc:=c.toNat_lt
 have hd:=d.toNat_lt
 rw[atSpec_cons]
 have l2: ¬(b::c::d::r).length+1<2:=by simp
 have l3: ¬(b::c::d::r).length+1<3:=by simp
 have l4: ¬(b::c::d::r).length+1<4:=by simp
 have e2:atTail (b::c::d::r) 2 ((a.toNat:Int) - 192) 128=atEnd (if(b.toNat:Int)<128∨192≤(b.toNat:Int)then none else some (64*((a.toNat:Int) - 192)+b.toNat - 128)) 2 128:=by
  unfold atTail
  rw[if_neg l2,show(2 - 1:Nat)=0+1 from rfl,contFold_cons,contFold_zero]
 have e3:atTail (b::c::d::r) 3 ((a.toNat:Int) - 224) 2048=atEnd (if(b.toNat:Int)<128∨192≤(b.toNat:Int)then none else if(c.toNat:Int)<128∨192≤(c.toNat:Int)then none else some (64*(64*((a.toNat:Int) - 224)+b.toNat - 128)+c.toNat - 128)) 3 2048:=by
  unfold atTail
  rw[if_neg l3,show(3 - 1:Nat)=1+1 from rfl,contFold_cons,show(1:Nat)=0+1 from rfl,contFold_cons,contFold_zero]
 have e4:atTail (b::c::d::r) 4 ((a.toNat:Int) - 240) 65536=atEnd (if(b.toNat:Int)<128∨192≤(b.toNat:Int)then none else if(c.toNat:Int)<128∨192≤(c.toNat:Int)then none else if(d.toNat:Int)<128∨192≤(d.toNat:Int)then none else some (64*(64*(64*((a.toNat:Int) - 240)+b.toNat - 128)+c.toNat - 128)+d.toNat - 128)) 4 65536:=by
  unfold atTail
  rw[if_neg l4,show(4 - 1:Nat)=2+1 from rfl,contFold_cons,show(2:Nat)=1+1 from rfl,contFold_cons,show(1:Nat)=0+1 from rfl,contFold_cons,contFold_zero]
 rw[e2,e3,e4]
 clear e2 e3 e4 l2 l3 l4
 have hl:3<(a::b::c::d::r).length:=by simp
 generalize (a::b::c::d::r).length=n at hl
 simp only[List.getD_cons_zero,List.getD_cons_succ]
 generalize a.toNat=x at ha ⊢
 generalize b.toNat=y at hb ⊢
 generalize c.toNat=z at hc ⊢
 generalize d.toNat=u at hd ⊢
 unfold Lib.decodeN
 by_cases b1:(y:Int)<128∨192≤(y:Int)
 · simp only[if_pos b1]
   unfold atEnd
   repeat' split
   all_goals first|rfl|(exfalso;omega)|(apply pair_eq<;>omega)|(simp_all;done)|(simp_all;omega)
 simp only[if_neg b1]
 by_cases b2:(z:Int)<128∨192≤(z:Int)
 · simp only[if_pos b2]
   unfold atEnd
   repeat' split
   all_goals first|rfl|(exfalso;omega)|(apply pair_eq<;>omega)|(simp_all;done)|(simp_all;omega)
 simp only[if_neg b2]
 by_cases b3:(u:Int)<128∨192≤(u:Int)
 · simp only[if_pos b3]
   unfold atEnd
   repeat' split
   all_goals first|rfl|(exfalso;omega)|(apply pair_eq<;>omega)|(simp_all;done)|(simp_all;omega)
 simp only[if_neg b3]
 unfold atEnd
 repeat' split
 all_goals first|rfl|(exfalso;omega)|(apply pair_eq<;>omega)|(simp_all;done)|(simp_all;omega)
theorem atSpec_dec (l:List UInt8) (h:l≠ []):goodAt l:=
 match l,h with
 | [a],_=>atSpec_dec1 a
 | [a,b],_=>atSpec_dec2 a b
 | [a,b,c],_=>atSpec_dec3 a b c
 |a::b::c::d::r,_=>atSpec_dec4 a b c d r
end Go.Proofs.YtackmnbpfbaemaaGreatDoor
