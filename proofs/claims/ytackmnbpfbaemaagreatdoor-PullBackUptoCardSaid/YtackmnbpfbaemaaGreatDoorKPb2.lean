/- Parts, joined: A range over an iterator that yields a known list, by a body that always goes on: the law that the walks use. No condition. commonplaceref01.Bytes: a rune's bytes. Condition: a rune of Unicode, no surrogate. A reader of values, byte by byte: blanks, numbers, quotes. Plain. No condition. -/
import Derived.RangeFuncNested
import Derived.RangeFuncBound
import Derived.RangeFuncCalls
import Derived.RangeFuncLeaves
import Derived.WalkKit
import Derived.OwnWalkIn
import Derived.TacticsInMore
import Derived.Test.YtackmnbpfbaemaaGreatDoorProg
import Derived.Below
import Derived.Lib.RuneBytes
import Derived.Lib.Hide
import Derived.IntWalk
import Derived.Laws.IdiomStrings
import Derived.Lib.Builder
import Derived.Lib.MapLaws
namespace Go.Proofs.YtackmnbpfbaemaaGreatDoor
open Go.RowKit
def Yields {α:Type} (P:Program) (gf:Nat) (lb:Array Value) (encs:α→Array Value) (xs:List α) (N:World→Prop):Prop:=
 ∀(n l:Nat) (J:List α→World→Prop) (W:World),(∀s A B,J s A→Below A.heap.size A B→J s B)→(∀s A,J s A→N A)→
  (∀pre x rest A,xs=pre++x::rest→J pre A→YieldAt Fence.wide n P l (encs x) A fun e B=>e= .returned (.bool true)∧J (pre++ [x]) B)→
  J [] W→CallsIn Fence.wide (n+1) P gf (#[.func (.yield l) #[] #[]]++lb) W fun e B=>(∃v,e= .returned v)∧J xs B
def goesOn (I:World→Prop) (d:Nat) (W:World):Exit→Act→World→Prop
 | .normal,_,W'=>W'.heap[d]? =W.heap[d]? ∧W'.heap[d+1]? =W.heap[d+1]? ∧I W'
 |_,_,_=>False
theorem wp_range_all {α:Type} {P:Program} {g:Operand} {ps:Array Tmp} {assign body:Code} {Q:Exit→Act→World→Prop} {a:Act} {w:World} {n:Nat}
 {gf:Nat} {lb:Array Value} (hg:a.eval g= .func (.func gf) #[] lb) (eg: ∀args w,(callFunc gf args).run P w= .ok (.enter gf args) w)
 {encs:α→Array Value} {xs:List α} {N:World→Prop} (hit:Yields P gf lb encs xs N) (hps: ∀x,(encs x).size=ps.size)
 (I:List α→World→Prop) (hIn: ∀s A B,I s A→Below A.heap.size A B→I s B)
 (hIp: ∀s A k o o',I s A→A.heap[k]? =some o→o.isCells=false→(k=w.heap.size∨k=w.heap.size+1)→I s (A.putObj k o'))
 (hIb: ∀s A,I s A→N A) (h0:I [] w) (a₁:α→Act)
 (hassign: ∀(l:Nat) (x:α) (W:World) (K:Act→World→Prop),K (a₁ x) W→
   assign.wpIn (Fence.wide.inRound l) n P (Exit.then K (fun _ _ _=>False)) {tmps:=(ps.zip (encs x)).foldl (fun t (p,v)=>t.setIfInBounds p v) a.tmps,defers:= []} W)
 (hbody: ∀(l:Nat) (pre:List α) (x:α) (rest:List α) (W:World),xs=pre++x::rest→I pre W→(∃ds,W.heap[w.heap.size]? =some (.deferred ds))→(∃r,W.heap[w.heap.size+1]? =some (.loop r))→
   body.wpIn (Fence.wide.inRound l) n P (goesOn (I (pre++ [x])) w.heap.size W) (a₁ x) W)
 (hdone: ∀(W:World),I xs W→W.heap[w.heap.size]? =some (.deferred (some []))→Q .normal {a with defers:={target:= .collected w.heap.size,args:= #[]}::a.defers} W):
 (Code.rangeFunc g ps assign body).wpIn Fence.wide (n+1+1) P Q a w:=by
 refine wpIn_rangeFunc ?_
 intro fn hfn
 have hro:Fence.wide.round=none:=rfl
 rw[hro]
 obtain⟨rec,hrec⟩: ∃rec:LoopState→Option Code→Loop,rec=fun st pe=>{state:=st,pending:=pe,fn,tmps:=a.tmps,params:=ps,assign,body,defers:=w.heap.size}:=⟨_,rfl⟩
 obtain⟨W1,hW1⟩: ∃W1,(w.alloc (.deferred (some []))).alloc (.loop (rec .ready none))=W1:=⟨_,rfl⟩
 have hL1:W1.heap[w.heap.size+1]? =some (.loop (rec .ready none)):=by
  rw[←hW1];have:=World.alloc_heap_new (w.alloc (.deferred (some []))) (.loop (rec .ready none));rwa [World.size_alloc]at this
 have hK1:W1.heap[w.heap.size]? =some (.deferred (some [])):=by
  rw[←hW1];exact(Below.heap_alloc _ _ _ (by simp)).trans (World.alloc_heap_new w _)
 have hI1:I [] W1:=by
  rw[←hW1];exact hIn _ _ _ h0 (((Below.refl _ w).alloc (Nat.le_refl _) _).alloc (by simp) _)
 refine⟨w.heap.size+1, [{target:= .collected w.heap.size,args:= #[]}],W1,{target:= .fn (.func gf) lb,args:= #[.func (.yield (w.heap.size+1)) #[] #[]]},W1,gf,
  #[.func (.yield (w.heap.size+1)) #[] #[]]++lb,W1, ?_, ?_, ?_, ?_,fun h=>by simp[Fence.wide]at h, ?_⟩
 · rw[←hW1,hrec];exact run_enterLoop_outer _ _ _ _ _
 · simp only[resolve,hg]
   simp[go_sem]
 · intro f' _;trivial
 · simp[invoke,go_sem,eg]
 · refine(hit n (w.heap.size+1)
    (fun pre W=>I pre W∧W.heap[w.heap.size+1]? =some (.loop (rec .ready none))∧W.heap[w.heap.size]? =some (.deferred (some [])))
    W1 (fun s A B hs hb=>⟨hIn s A B hs.1 hb,(hb.block _ (Array.getElem?_eq_some_iff.1 hs.2.1).1).trans hs.2.1,(hb.block _ (Array.getElem?_eq_some_iff.1 hs.2.2).1).trans hs.2.2⟩)
    (fun s A hs=>hIb s A hs.1) ?_ ⟨hI1,hL1,hK1⟩).mono ?_
   ·
    rintro pre x rest W hx ⟨hi,hl,hk⟩
    have hlt:w.heap.size+1<W.heap.size:=(Array.getElem?_eq_some_iff.1 hl).1
    have hy:=run_yield (P:=P) (args:=encs x) hl (by rw[hrec];exact hps x)
    rw[hrec]at hy
    refine⟨fn,_,assign,body,hy,roundIn_of_wpIn trivial (hassign _ x W _ ⟨_,run_beginRound hl (by rw[hrec]), ?_⟩)⟩
    have hl2:(W.putObj (w.heap.size+1) (.loop {rec .ready none with state:= .busy})).heap[w.heap.size+1]? =some (.loop {rec .ready none with state:= .busy}):=World.putObj_heap_same hlt
    have hk2:(W.putObj (w.heap.size+1) (.loop {rec .ready none with state:= .busy})).heap[w.heap.size]? =some (.deferred (some [])):=(World.putObj_heap_other (by omega)).trans hk
    refine wpIn_mono (hbody _ pre x rest _ hx (hIp _ _ _ _ _ hi hl rfl (.inr rfl)) ⟨_,hk2⟩ ⟨_,hl2⟩) ?_
    rintro e a3 W3 hp
    cases e with
    |normal=>
     obtain⟨h1,h2,hi3⟩:=hp
     have hl3:=h2.trans hl2
     have hk3:=h1.trans hk2
     have hr:=run_endRound (P:=P) none hl3
     rw[hrec]at hr
     refine⟨_,_,hr,rfl,hIp _ _ _ _ _ hi3 hl3 rfl (.inr rfl), ?_, ?_⟩
     · rw[World.putObj_heap_same (Array.getElem?_eq_some_iff.1 hl3).1,hrec];rfl
     · exact(World.putObj_heap_other (by omega)).trans hk3
    |ret=>exact hp.elim
    |exit id=>exact hp.elim
    |goto t=>exact hp.elim
    |panic ch=>exact hp.elim
    |outgrown=>exact hp.elim
   ·
    rintro e W2 ⟨⟨v,rfl⟩,hi,hl,hk⟩
    exact⟨none,_,by have:=run_endLoop (P:=P) hl (by rw[hrec];simp);rw[hrec]at this;exact this,hdone _ (hIp _ _ _ _ _ hi hl rfl (.inr rfl)) ((World.putObj_heap_other (by omega)).trans hk)⟩
end Go.Proofs.YtackmnbpfbaemaaGreatDoor

namespace Go.Proofs.YtackmnbpfbaemaaGreatDoor
open Go.RowKit
theorem u8_back {z:Int} (h0:0≤z) (h1:z<256):((z.toNat.toUInt8).toNat:Int)=z:=by
 have:z.toNat<256:=by omega
 simp[Nat.toUInt8,UInt8.toNat_ofNat',Nat.mod_eq_of_lt this]
 omega
theorem run_bytes (w:World) (zs:List Int) (hz: ∀z ∈ zs,0≤z∧z<256) (t:TypeId):
 (convert 25 9 (.slice (some ⟨w.heap.size,0,none⟩) zs.length zs.length)).run Tryz.prog (w.alloc (.cells (zs.map (Value.int .u8)).toArray t))= .ok (.string ⟨(zs.map fun z=>z.toNat.toUInt8).toArray⟩) (w.alloc (.cells (zs.map (Value.int .u8)).toArray t)):=by
 have:=run_convert_bytes_back (P:=Tryz.prog) (w.alloc (.cells (zs.map (Value.int .u8)).toArray t)) 25 9 5 ⟨w.heap.size,0,none⟩ zs.length (zs.map fun z=>z.toNat.toUInt8) Tryz.underlying25 Tryz.underlying5 Tryz.underlying9 (by
  intro j hj
  rw[List.length_map]at hj
  have hh:(w.alloc (.cells (zs.map (Value.int .u8)).toArray t)).heap[w.heap.size]? =some (.cells (zs.map (Value.int .u8)).toArray t (0,0)):=heap_alloc_new _ _
  rw[show(⟨w.heap.size,0,none⟩:Addr).add j=⟨w.heap.size,j,none⟩from by unfold Addr.add;split<;>simp_all]
  rw[Lib.cell_of_heap hh]
  simp only[List.getElem?_toArray,List.getElem?_map,List.getElem?_eq_getElem hj,Option.map_some,List.getElem_map]
  rw[u8_back (hz _ (List.getElem_mem hj)).1 (hz _ (List.getElem_mem hj)).2])
 rwa [List.length_map]at this
set_option maxRecDepth 20000 in
set_option maxHeartbeats 1000000 in
theorem RBytes_calls (r:Int) (h0:0≤r) (h1:r≤1114111) (hs: ¬(55296≤r∧r<57344)) (w:World):
 Calls Tryz.prog 88 #[.int .i64 r] w fun e w'=>e= .returned (.string ⟨(Lib.encodeRune r).toArray⟩)∧Below w.heap.size w w':=by
 by_cases c1:r<128
 · have e:Lib.encodeRune r= [r].map fun z=>z.toNat.toUInt8:=by unfold Lib.encodeRune;rw[Lib.encodeRuneZ_one h0 (by omega)]
   have hB:=run_bytes w [r] (by intro z hz;simp at hz;omega) 5
   rw[e]
   simp only[List.map_cons,List.map_nil,List.length_cons,List.length_nil]at hB ⊢
   go_enter Tryz.func88,Tryz.ntmps88
   go_wp2
   go_ret
   exact⟨rfl,(Below.refl _ _).alloc (Nat.le_refl _) _⟩
 by_cases c2:r<2048
 · have e:Lib.encodeRune r= [192+r / 64,128+r % 64].map fun z=>z.toNat.toUInt8:=by unfold Lib.encodeRune;rw[Lib.encodeRuneZ_two (by omega) (by omega)]
   have hB:=run_bytes w [192+r / 64,128+r % 64] (by intro z hz;simp at hz;omega) 5
   rw[e]
   have b1:0≤r / 64:=by omega
   have b2:r / 64<32:=by omega
   have b3:0≤r % 64:=by omega
   have b4:r % 64<64:=by omega
   simp only[List.map_cons,List.map_nil,List.length_cons,List.length_nil]at hB ⊢
   obtain⟨z1,hz1⟩: ∃z,192+r / 64=z:=⟨_,rfl⟩
   obtain⟨z2,hz2⟩: ∃z,128+r % 64=z:=⟨_,rfl⟩
   have d1:0≤z1∧z1<256:=by omega
   have d2:0≤z2∧z2<256:=by omega
   rw[hz1,hz2]at hB ⊢
   go_enter Tryz.func88,Tryz.ntmps88
   go_wp2
   go_ret
   exact⟨rfl,(Below.refl _ _).alloc (Nat.le_refl _) _⟩
 by_cases c3:r<65536
 · have e:Lib.encodeRune r= [224+r / 4096,128+r / 64 % 64,128+r % 64].map fun z=>z.toNat.toUInt8:=by unfold Lib.encodeRune;rw[Lib.encodeRuneZ_three (by omega)]
   have hB:=run_bytes w [224+r / 4096,128+r / 64 % 64,128+r % 64] (by intro z hz;simp at hz;omega) 5
   rw[e]
   have b1:0≤r / 4096:=by omega
   have b2:r / 4096<16:=by omega
   have b3:0≤r % 64:=by omega
   have b4:r % 64<64:=by omega
   have b5:0≤r / 64:=by omega
   have b6:0≤r / 64 % 64:=by omega
   have b7:r / 64 % 64<64:=by omega
   simp only[List.map_cons,List.map_nil,List.length_cons,List.length_nil]at hB ⊢
   obtain⟨z1,hz1⟩: ∃z,224+r / 4096=z:=⟨_,rfl⟩
   obtain⟨z2,hz2⟩: ∃z,128+r / 64 % 64=z:=⟨_,rfl⟩
   obtain⟨z3,hz3⟩: ∃z,128+r % 64=z:=⟨_,rfl⟩
   have d1:0≤z1∧z1<256:=by omega
   have d2:0≤z2∧z2<256:=by omega
   have d3:0≤z3∧z3<256:=by omega
   rw[hz1,hz2,hz3]at hB ⊢
   go_enter Tryz.func88,Tryz.ntmps88
   go_wp2
   go_ret
   exact⟨rfl,(Below.refl _ _).alloc (Nat.le_refl _) _⟩
 · have e:Lib.encodeRune r= [240+r / 262144,128+r / 4096 % 64,128+r / 64 % 64,128+r % 64].map fun z=>z.toNat.toUInt8:=by unfold Lib.encodeRune;rw[Lib.encodeRuneZ_four (by omega) (by omega)]
   have hB:=run_bytes w [240+r / 262144,128+r / 4096 % 64,128+r / 64 % 64,128+r % 64] (by intro z hz;simp at hz;omega) 5
   rw[e]
   have b1:0≤r / 262144:=by omega
   have b2:r / 262144<8:=by omega
   have b3:0≤r % 64:=by omega
   have b4:r % 64<64:=by omega
   have b5:0≤r / 64:=by omega
   have b6:0≤r / 64 % 64:=by omega
   have b7:r / 64 % 64<64:=by omega
   have b8:0≤r / 4096:=by omega
   have b9:0≤r / 4096 % 64:=by omega
   have b10:r / 4096 % 64<64:=by omega
   simp only[List.map_cons,List.map_nil,List.length_cons,List.length_nil]at hB ⊢
   obtain⟨z0,hz0⟩: ∃z,240+r / 262144=z:=⟨_,rfl⟩
   obtain⟨z1,hz1⟩: ∃z,128+r / 4096 % 64=z:=⟨_,rfl⟩
   obtain⟨z2,hz2⟩: ∃z,128+r / 64 % 64=z:=⟨_,rfl⟩
   obtain⟨z3,hz3⟩: ∃z,128+r % 64=z:=⟨_,rfl⟩
   have d0:0≤z0∧z0<256:=by omega
   have d1:0≤z1∧z1<256:=by omega
   have d2:0≤z2∧z2<256:=by omega
   have d3:0≤z3∧z3<256:=by omega
   rw[hz0,hz1,hz2,hz3]at hB ⊢
   go_enter Tryz.func88,Tryz.ntmps88
   go_wp2
   go_ret
   exact⟨rfl,(Below.refl _ _).alloc (Nat.le_refl _) _⟩
end Go.Proofs.YtackmnbpfbaemaaGreatDoor

namespace Go.Proofs.YtackmnbpfbaemaaGreatDoor
open Go.RowKit
inductive Rd (α:Type) where
 |ok (a:α) (q:Nat)
 |bad (e:Int) (q:Nat)
def isBlank (c:UInt8):Bool:=c==9||c==10||c==13||c==32
def blanks:List UInt8→Nat
 | []=>0
 |c::r=>if isBlank c=true then blanks r+1 else 0
def past (s:List UInt8) (p:Nat):Nat:=p+blanks (s.drop p)
theorem blanks_le: ∀l:List UInt8,blanks l≤l.length
 | []=>Nat.le_refl _
 |c::r=>by
  unfold blanks
  split
  · have:=blanks_le r;simp only[List.length_cons];omega
  · exact Nat.zero_le _
theorem past_ge (s:List UInt8) (p:Nat):p≤past s p:=Nat.le_add_right _ _
theorem past_le {s:List UInt8} {p:Nat} (h:p≤s.length):past s p≤s.length:=by
 have:=blanks_le (s.drop p)
 rw[List.length_drop]at this
 unfold past;omega
theorem drop_at {s:List UInt8} {p:Nat} {c:UInt8} (h:s[p]? =some c):s.drop p=c::s.drop (p+1):=by
 obtain⟨hlt,rfl⟩:=List.getElem?_eq_some_iff.1 h
 exact List.drop_eq_getElem_cons hlt
theorem past_step {s:List UInt8} {p:Nat} {c:UInt8} (h:s[p]? =some c) (hb:isBlank c=true):past s p=past s (p+1):=by
 unfold past
 rw[drop_at h,blanks,if_pos hb];omega
theorem past_stop {s:List UInt8} {p:Nat} {c:UInt8} (h:s[p]? =some c) (hb:isBlank c=false):past s p=p:=by
 unfold past
 rw[drop_at h,blanks,if_neg (by rw[hb];decide)];rfl
theorem past_end {s:List UInt8} {p:Nat} (h:s.length≤p):past s p=p:=by
 unfold past
 rw[List.drop_eq_nil_of_le h];rfl
theorem past_at (s:List UInt8) (p:Nat): ∀c,s[past s p]? =some c→isBlank c=false:=by
 unfold past
 have key: ∀(l:List UInt8) c,l[blanks l]? =some c→isBlank c=false:=by
  intro l
  induction l with
  |nil=>intro c h;simp at h
  |cons x r ih=>
   intro c h
   unfold blanks at h
   split at h
   · rename_i hb
     rw[List.getElem?_cons_succ]at h
     exact ih c h
   · rename_i hb
     simp only[List.getElem?_cons_zero,Option.some.injEq]at h
     subst h
     simpa using hb
 intro c h
 exact key (s.drop p) c (by rw[List.getElem?_drop];exact h)
theorem past_past (s:List UInt8) (p:Nat):past s (past s p)=past s p:=by
 cases e:s[past s p]? with
 |none=>exact past_end (by simpa using e)
 |some c=>exact past_stop e (past_at s p c e)
def isDig (c:UInt8):Bool:=decide (48≤c.toNat∧c.toNat≤57)
def digN:List UInt8→Nat
 | []=>0
 |c::r=>if isDig c=true then digN r+1 else 0
theorem digN_le: ∀l:List UInt8,digN l≤l.length
 | []=>Nat.le_refl _
 |c::r=>by
  unfold digN
  split
  · have:=digN_le r;simp only[List.length_cons];omega
  · exact Nat.zero_le _
def digEnd (s:List UInt8) (p:Nat):Nat:=p+digN (s.drop p)
theorem digEnd_ge (s:List UInt8) (p:Nat):p≤digEnd s p:=Nat.le_add_right _ _
theorem digEnd_le {s:List UInt8} {p:Nat} (h:p≤s.length):digEnd s p≤s.length:=by
 have:=digN_le (s.drop p)
 rw[List.length_drop]at this
 unfold digEnd;omega
theorem digEnd_step {s:List UInt8} {p:Nat} {c:UInt8} (h:s[p]? =some c) (hb:isDig c=true):digEnd s p=digEnd s (p+1):=by
 unfold digEnd
 rw[drop_at h,digN,if_pos hb];omega
theorem digEnd_stop {s:List UInt8} {p:Nat} {c:UInt8} (h:s[p]? =some c) (hb:isDig c=false):digEnd s p=p:=by
 unfold digEnd
 rw[drop_at h,digN,if_neg (by rw[hb];decide)];rfl
theorem digEnd_end {s:List UInt8} {p:Nat} (h:s.length≤p):digEnd s p=p:=by
 unfold digEnd
 rw[List.drop_eq_nil_of_le h];rfl
theorem digEnd_dig (s:List UInt8) (p:Nat): ∀i c,p≤i→i<digEnd s p→s[i]? =some c→isDig c=true:=by
 have key: ∀(l:List UInt8) i c,i<digN l→l[i]? =some c→isDig c=true:=by
  intro l
  induction l with
  |nil=>intro i c h;simp[digN]at h
  |cons x r ih=>
   intro i c h hc
   unfold digN at h
   split at h
   · rename_i hb
     cases i with
     |zero=>simp only[List.getElem?_cons_zero,Option.some.injEq]at hc;subst hc;exact hb
     |succ i=>rw[List.getElem?_cons_succ]at hc;exact ih i c (by omega) hc
   · omega
 intro i c h1 h2 hc
 unfold digEnd at h2
 exact key (s.drop p) (i - p) c (by omega) (by rw[List.getElem?_drop,show p+(i - p)=i from by omega];exact hc)
def digV (l:List UInt8):Nat:=l.foldl (fun a c=>a*10+(c.toNat - 48)) 0
def numRes (neg:Bool) (m p q:Nat):Rd Int:=
 if neg=true then(if m=0∨9223372036854775808<m then .bad 7 p else .ok (-(m:Int)) q)else if 9223372036854775807<m then .bad 7 p else .ok (m:Int) q
def numFrom (s:List UInt8) (p f:Nat):Rd Int:=
 if digEnd s f=f then .bad 4 f
 else if s[f]? =some 48∧f+1<digEnd s f then .bad 4 (f+1)
 else numRes (decide (s[p]? =some 45)) (digV ((s.drop f).take (digEnd s f - f))) p (digEnd s f)
def numberAt (s:List UInt8) (p:Nat):Rd Int:=numFrom s p (if s[p]? =some 45 then p+1 else p)
def hexD (c:UInt8):Option Nat:=
 if 48≤c.toNat∧c.toNat≤57 then some (c.toNat - 48)else if 97≤c.toNat∧c.toNat≤102 then some (c.toNat - 87)else if 65≤c.toNat∧c.toNat≤70 then some (c.toNat - 55)else none
def hexF:List UInt8→Nat→Nat→Option Nat
 |_,0,n=>some n
 | [],_+1,_=>none
 |c::l,k+1,n=>match hexD c with
  |none=>none
  |some d=>hexF l k (16*n+d)
def unitL (l:List UInt8):Option Nat:=if l.length<6∨l[0]? ≠some 92∨l[1]? ≠some 117 then none else hexF (l.drop 2) 4 0
def escLet (c:UInt8):Option Nat:=
 if c=34 then some 34 else if c=92 then some 92 else if c=47 then some 47 else if c=98 then some 8 else if c=102 then some 12 else if c=110 then some 10 else if c=114 then some 13 else if c=116 then some 9 else none
def pairL (r:Nat) (l:List UInt8):Rd Nat:=
 if r<55296∨57344≤r then .ok r 6
 else if 56320≤r then .bad 3 0
 else match unitL l with
  |none=> .bad 3 0
  |some m=>if m<56320∨57344≤m then .bad 3 0 else .ok (65536+1024*(r - 55296)+(m - 56320)) 12
def letL (l:List UInt8):Rd Nat:=match l[1]? with
 |none=> .bad 4 0
 |some c=>match escLet c with
  |none=> .bad 4 0
  |some r=> .ok r 2
def escL (l:List UInt8):Rd Nat:=match unitL l with
 |some r=>pairL r (l.drop 6)
 |none=>letL l
theorem hexD_lt {c:UInt8} {d:Nat} (h:hexD c=some d):d<16:=by
 unfold hexD at h
 split at h
 · simp at h;omega
 split at h
 · simp at h;omega
 split at h
 · simp at h;omega
 · cases h
theorem hexF_lt: ∀(k:Nat) (l:List UInt8) (n r:Nat),hexF l k n=some r→r<(n+1)*16 ^ k
 |0,l,n,r,h=>by
  have:n=r:=by cases l<;>simpa[hexF]using h
  subst this;simp
 |k+1, [],n,r,h=>by simp[hexF]at h
 |k+1,c::l,n,r,h=>by
  simp only[hexF]at h
  cases hd:hexD c with
  |none=>rw[hd]at h;cases h
  |some d=>
   rw[hd]at h
   have h1:=hexF_lt k l _ r h
   have h2:=hexD_lt hd
   have h3:(16*n+d+1)*16 ^ k≤((n+1)*16)*16 ^ k:=Nat.mul_le_mul_right _ (by omega)
   rw[Nat.pow_succ,Nat.mul_comm (16 ^ k) 16,←Nat.mul_assoc]
   omega
theorem unitL_lt {l:List UInt8} {r:Nat} (h:unitL l=some r):r<65536∧6≤l.length:=by
 unfold unitL at h
 split at h
 · cases h
 · rename_i hn
   have:=hexF_lt 4 _ _ _ h
   omega
theorem escL_ok {l:List UInt8} {r n:Nat} (h:escL l= .ok r n):r≤1114111∧ ¬(55296≤r∧r<57344)∧2≤n∧n≤l.length:=by
 unfold escL at h
 cases hu:unitL l with
 |some u=>
  rw[hu]at h
  obtain⟨h1,h2⟩:=unitL_lt hu
  simp only[pairL]at h
  split at h
  · simp only[Rd.ok.injEq]at h;omega
  split at h
  · cases h
  cases hm:unitL (l.drop 6)with
  |none=>rw[hm]at h;cases h
  |some m=>
   rw[hm]at h
   obtain⟨h3,h4⟩:=unitL_lt hm
   rw[List.length_drop]at h4
   simp only at h
   split at h
   · cases h
   · simp only[Rd.ok.injEq]at h;omega
 |none=>
  rw[hu]at h
  simp only[letL]at h
  cases hc:l[1]? with
  |none=>rw[hc]at h;cases h
  |some c=>
   rw[hc]at h
   have hl:=(List.getElem?_eq_some_iff.1 hc).1
   simp only at h
   cases he:escLet c with
   |none=>rw[he]at h;cases h
   |some x=>
    rw[he]at h
    simp only[Rd.ok.injEq]at h
    have:x≤92:=by
     unfold escLet at he
     repeat' split at he
     all_goals first|(simp at he;omega)|cases he
    omega
def unqF:Nat→List UInt8→Nat→List UInt8→Rd (List UInt8)
 |0,_,i,_=> .bad 4 i
 |f+1,s,i,out=>match s[i]? with
  |none=> .bad 4 i
  |some c=>
   if c=34 then .ok out (i+1)
   else if c.toNat<32 then .bad 4 i
   else if c=92 then(match escL (s.drop i)with
    | .bad e _=> .bad e i
    | .ok r n=>unqF f s (i+n) (out++Lib.encodeRune (r:Int)))
   else if(Lib.decodeL (s.drop i)).1=65533∧(Lib.decodeL (s.drop i)).2=1 then .bad 3 i
   else unqF f s (i+(Lib.decodeL (s.drop i)).2) (out++(s.drop i).take (Lib.decodeL (s.drop i)).2)
def unqAt (s:List UInt8) (p:Nat):Rd (List UInt8):=if s[p]? =some 34 then unqF (s.length - p) s (p+1) []else .bad 4 p
theorem dec_le {s:List UInt8} {i:Nat} (h:i<s.length):i+(Lib.decodeL (s.drop i)).2≤s.length:=by
 have:=Lib.decodeL_le (s.drop i) (by intro e;have:=congrArg List.length e;rw[List.length_drop]at this;simp at this;omega)
 rw[List.length_drop]at this;omega
def Rd.within {α:Type} (p n:Nat):Rd α→Prop
 | .ok _ q=>p<q∧q≤n
 | .bad e q=>p≤q∧q≤n∧1≤e∧e≤18
theorem unqF_within: ∀(f:Nat) (s:List UInt8) (i:Nat) (out:List UInt8),i≤s.length→(unqF f s i out).within i s.length
 |0,s,i,out,h=>⟨Nat.le_refl _,h,by decide,by decide⟩
 |f+1,s,i,out,h=>by
  unfold unqF
  cases hc:s[i]? with
  |none=>exact⟨Nat.le_refl _,h,by decide,by decide⟩
  |some c=>
   have hi:=(List.getElem?_eq_some_iff.1 hc).1
   simp only
   have step: ∀j o,i<j→j≤s.length→(unqF f s j o).within i s.length:=by
    intro j o h1 h2
    have:=unqF_within f s j o h2
    cases hr:unqF f s j o with
    |ok a q=>rw[hr]at this;exact⟨by have:=this.1;omega,this.2⟩
    |bad e q=>rw[hr]at this;exact⟨by have:=this.1;omega,this.2⟩
   split
   · exact⟨by omega,by omega⟩
   split
   · exact⟨Nat.le_refl _,h,by decide,by decide⟩
   split
   · cases he:escL (s.drop i)with
     |bad e q=>
      refine⟨Nat.le_refl _,h, ?_⟩
      unfold escL pairL letL at he
      repeat' split at he
      all_goals first|(simp only[Rd.bad.injEq]at he;omega)|cases he
     |ok r n=>
      have:=escL_ok he
      rw[List.length_drop]at this
      exact step _ _ (by omega) (by omega)
   split
   · exact⟨Nat.le_refl _,h,by decide,by decide⟩
   · exact step _ _ (by have:=Lib.decodeL_width (s.drop i);omega) (dec_le hi)
theorem unqAt_within {s:List UInt8} {p:Nat} (h:p≤s.length):(unqAt s p).within p s.length:=by
 unfold unqAt
 split
 · rename_i hc
   have hi:=(List.getElem?_eq_some_iff.1 hc).1
   have:=unqF_within (s.length - p) s (p+1) [] (by omega)
   cases hr:unqF (s.length - p) s (p+1) []with
   |ok a q=>rw[hr]at this;exact⟨by have:=this.1;omega,this.2⟩
   |bad e q=>rw[hr]at this;exact⟨by have:=this.1;omega,this.2⟩
 · exact⟨Nat.le_refl _,h,by decide,by decide⟩
theorem numberAt_within {s:List UInt8} {p:Nat} (h:p<s.length):(numberAt s p).within p s.length:=by
 have hf:p≤(if s[p]? =some 45 then p+1 else p)∧(if s[p]? =some 45 then p+1 else p)≤s.length:=by split<;>omega
 have h1:=digEnd_ge s (if s[p]? =some 45 then p+1 else p)
 have h2:=digEnd_le hf.2
 unfold numberAt
 generalize (if s[p]? =some 45 then p+1 else p)=F at hf h1 h2 ⊢
 unfold numFrom numRes
 generalize digEnd s F=Q at h1 h2 ⊢
 repeat' split
 all_goals(unfold Rd.within;simp only;omega)
theorem get_lt {s:List UInt8} {p:Nat} {c:UInt8} (h:s[p]? =some c):p<s.length:=(List.getElem?_eq_some_iff.1 h).1
end Go.Proofs.YtackmnbpfbaemaaGreatDoor
