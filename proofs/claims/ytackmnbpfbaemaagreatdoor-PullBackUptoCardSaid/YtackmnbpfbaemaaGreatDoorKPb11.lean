/- Parts, joined: Rows that a call makes and fills, of data of any make. Plain. No condition. parse.reader: its world, and its small functions: wrong, skip, comes. Condition: a text of at most 10^9 bytes. parse.newReader: a reader at the beginning of a text. No condition. Printed by mknewr.py. -/
import Derived.Test.YtackmnbpfbaemaaGreatDoorProg
import Derived.WalkKit
import Derived.BigQuiet
import Derived.Deep.QuietTactic
import Derived.WalkLawsBesides
import Derived.WalkSpells
import Derived.Lib.Hide
import Derived.IntWalk
import Derived.Deep.LoopGhost
import Derived.LoopTactic
import Derived.Test.YtackmnbpfbaemaaGreatDoorKPb2
import Derived.Test.YtackmnbpfbaemaaGreatDoorKPb4
import Derived.Test.YtackmnbpfbaemaaGreatDoorKPb5
import Derived.Test.YtackmnbpfbaemaaGreatDoorKPb8
namespace Go.Proofs.YtackmnbpfbaemaaGreatDoor
open Go Go.RowKit
def setMany (w:World) (g o:Nat):List Value→World
 | []=>w
 |v::r=>setMany (w.setCell ⟨g,o,none⟩ v) g (o+1) r
def over (cs:Array Value) (o:Nat):List Value→Array Value
 | []=>cs
 |v::r=>over (cs.setIfInBounds o v) (o+1) r
theorem setMany_size: ∀(vs:List Value) (w:World) (g o:Nat),(setMany w g o vs).heap.size=w.heap.size
 | [],_,_,_=>rfl
 |v::r,w,g,o=>by simp only[setMany];rw[setMany_size r];simp[World.setCell]
theorem setMany_far: ∀(vs:List Value) (w:World) (g o c:Nat),c≠g→(setMany w g o vs).heap[c]? =w.heap[c]?
 | [],_,_,_,_,_=>rfl
 |v::r,w,g,o,c,h=>by
  simp only[setMany]
  rw[setMany_far r _ _ _ _ h]
  simp only[World.setCell,Array.getElem?_modify]
  rw[if_neg (fun e=>h e.symm)]
theorem setMany_at: ∀(vs:List Value) {w:World} {g o:Nat} {cs:Array Value} {t:TypeId},w.heap[g]? =some (.cells cs t (0,0))→(setMany w g o vs).heap[g]? =some (.cells (over cs o vs) t (0,0))
 | [],_,_,_,_,_,h=>h
 |v::r,w,g,o,cs,t,h=>by
  simp only[setMany,over]
  exact setMany_at r (by simp[World.setCell,Array.getElem?_modify,h])
theorem setMany_below {B:Nat} {a:World}: ∀(vs:List Value) {w:World} {g o:Nat},Below B a w→B≤g→Below B a (setMany w g o vs)
 | [],_,_,_,h,_=>h
 |v::r,w,g,o,h,hg=>by
  simp only[setMany]
  exact setMany_below r (h.setCell hg _) hg
theorem over_size: ∀(vs:List Value) (cs:Array Value) (o:Nat),(over cs o vs).size=cs.size
 | [],_,_=>rfl
 |v::r,cs,o=>by simp only[over];rw[over_size r];simp
theorem over_get: ∀(vs:List Value) (cs:Array Value) (o i:Nat),o+vs.length≤cs.size→(over cs o vs)[i]? =if o≤i∧i<o+vs.length then vs[i - o]? else cs[i]?
 | [],cs,o,i,_=>by
   simp only[over,List.length_nil]
   rw[if_neg (by omega)]
 |v::r,cs,o,i,h=>by
  simp only[List.length_cons]at h
  simp only[over]
  rw[over_get r _ _ _ (by simp;omega)]
  by_cases h1:o+1≤i∧i<o+1+r.length
  · rw[if_pos h1,if_pos ⟨by omega,by simp only[List.length_cons];omega⟩,show i - o=(i - (o+1))+1 from by omega,List.getElem?_cons_succ]
  · rw[if_neg h1]
    by_cases h2:i=o
    · subst h2
      rw[if_pos ⟨Nat.le_refl _,by simp⟩]
      simp only[Nat.sub_self,List.getElem?_cons_zero]
      rw[Array.getElem?_setIfInBounds_self_of_lt (by omega)]
    · rw[if_neg (by simp only[List.length_cons];omega),Array.getElem?_setIfInBounds_ne (by omega)]
def FillD (b g:Nat) (t:TypeId) (s N:Nat) (wr:World) (l:List D):Prop:=
 b≤g∧l.length≤N∧(∀d ∈ l,d.cells=s)∧ ∃(cs:Array Value) (ns:List Value),wr.heap[g]? =some (.cells cs t (0,0))∧cs.size=N*s∧(∀(j:Nat) (u:Value),ns[j]? =some u→cs[j]? =some u)∧
  ∀w'':World,wr.heap.size≤w''.heap.size→(∀p:Addr,b≤p.block→p.block<wr.heap.size→p.block≠g→w''.cell? p=wr.cell? p)→HoldsA w'' wr.heap.size l ns
theorem FillD.start {b g:Nat} {t:TypeId} {s N:Nat} {wr:World} {cs:Array Value} (hb:b≤g) (hg:wr.heap[g]? =some (.cells cs t (0,0))) (hs:cs.size=N*s):FillD b g t s N wr []:=
 ⟨hb,Nat.zero_le _,fun d hd=>(by cases hd),cs, [],hg,hs,fun j u h=>(by simp at h),fun _ _ _=>rfl⟩
theorem FillD.lt {b g:Nat} {t:TypeId} {s N:Nat} {wr:World} {l:List D} (h:FillD b g t s N wr l):g<wr.heap.size:=by
 obtain⟨_,_,_,cs,ns,h4,_⟩:=h
 exact(Array.getElem?_eq_some_iff.1 h4).1
theorem FillD.cell {b g:Nat} {t:TypeId} {s N:Nat} {wr:World} {l:List D} (h:FillD b g t s N wr l):(∀j,j<N*s→ ∃u,wr.cell? ⟨g,j,none⟩=some u)∧ ∀j,wr.frozen? ⟨g,j,none⟩=false:=by
 obtain⟨_,_,_,cs,ns,h4,h5,_⟩:=h
 refine⟨fun j hj=> ?_,fun j=> ?_⟩
 · exact⟨cs[j],by rw[cell_of_row wr g j cs t (0,0) h4];exact Array.getElem?_eq_getElem (by omega)⟩
 · simp[World.frozen?,h4]
theorem FillD.keep {b g:Nat} {t:TypeId} {s N:Nat} {wr w':World} {l:List D} (h:FillD b g t s N wr l) (hs:wr.heap.size≤w'.heap.size) (hk: ∀i,b≤i→i<wr.heap.size→w'.heap[i]? =wr.heap[i]?):FillD b g t s N w' l:=by
 have hlt:=h.lt
 obtain⟨h1,h2,h3,cs,ns,h4,h5,h6,h7⟩:=h
 exact⟨h1,h2,h3,cs,ns,(hk g h1 hlt).trans h4,h5,h6,fun w'' k1 k2=>HoldsA.more (h7 w'' (by omega) (fun p p1 p2 p3=>(k2 p p1 (by omega) p3).trans (World.cell?_of_block (hk p.block p1 p2)))) hs⟩
theorem FillD.below {b g:Nat} {t:TypeId} {s N:Nat} {wr w':World} {l:List D} (h:FillD b g t s N wr l) (hb:Below wr.heap.size wr w'):FillD b g t s N w' l:=h.keep hb.size fun i _ hi=>hb.block i hi
theorem FillD.step {b g:Nat} {t:TypeId} {s N:Nat} {wr w4:World} {l:List D} {d:D} {cs':List Value} (h:FillD b g t s N wr l) (hl:l.length<N) (hd:d.cells=s) (hx:Fresh wr.heap.size w4 d cs') (h4:Below wr.heap.size wr w4):
 FillD b g t s N (setMany w4 g (l.length*s) cs') (l++ [d]):=by
 have hlt:=h.lt
 have h':=h.below h4
 obtain⟨h1,h2,h3,cs,ns,k4,h5,h6,h7⟩:=h'
 have hcl:cs'.length=s:=hx.now.len.1.trans hd
 have hnl:ns.length=l.length*s:=by
  have hA:=h7 w4 (Nat.le_refl _) (fun _ _ _ _=>rfl)
  rw[hA.len.1,cellsA_all h3]
 have hN:l.length*s+s≤N*s:=by
  have:=Nat.mul_le_mul_right s (show l.length+1≤N by omega)
  rw[Nat.add_mul,Nat.one_mul]at this
  exact this
 have hsz:=h4.size
 refine⟨h1,by rw[List.length_append,List.length_cons,List.length_nil];omega, ?_,over cs (l.length*s) cs',ns++cs',setMany_at cs' k4,by rw[over_size];exact h5, ?_, ?_⟩
 · intro x hx'
   rcases List.mem_append.1 hx' with hx'|hx'
   · exact h3 x hx'
   · simp only[List.mem_cons,List.not_mem_nil,or_false]at hx'
     rw[hx'];exact hd
 · intro j u hj
   rw[over_get cs' cs (l.length*s) j (by omega)]
   by_cases hjn:j<ns.length
   · rw[List.getElem?_append_left hjn]at hj
     rw[if_neg (by omega)]
     exact h6 j u hj
   · rw[List.getElem?_append_right (by omega)]at hj
     have:=(List.getElem?_eq_some_iff.1 hj).1
     rw[if_pos ⟨by omega,by omega⟩,←hnl]
     exact hj
 · intro w'' k1 k2
   rw[setMany_size]at k1 k2 ⊢
   have hfar: ∀p:Addr,b≤p.block→p.block<w4.heap.size→p.block≠g→w''.cell? p=w4.cell? p:=fun p p1 p2 p3=>(k2 p p1 p2 p3).trans (World.cell?_of_block (setMany_far cs' w4 g _ _ p3))
   exact(h7 w'' k1 hfar).snoc (hx w'' k1 (fun p p1 p2=>hfar p (by omega) p2 (by omega)))
theorem FillD.close {b g:Nat} {t:TypeId} {s:Nat} {wr:World} {l:List D} (h:FillD b g t s l.length wr l) (c:Nat):Fresh b wr (.row s l) [.slice (some ⟨g,0,none⟩) l.length c]:=by
 have hlt:=h.lt
 obtain⟨h1,h2,h3,cs,ns,h4,h5,h6,h7⟩:=h
 intro w'' k1 k2
 refine⟨_,c,rfl,h3,ns,h7 w'' k1 (fun p p1 p2 _=>k2 p p1 p2), .inr ⟨g,0,rfl,hlt,fun j u hu=> ?_⟩⟩
 rw[k2 _ h1 hlt,Nat.zero_add,cell_of_row wr g j cs t (0,0) h4]
 exact h6 j u hu
end Go.Proofs.YtackmnbpfbaemaaGreatDoor

namespace Go.Proofs.YtackmnbpfbaemaaGreatDoor
open Go Go.RowKit
def faultE (e q:Int):Ending:= .panicked [{v:= .iface 195 (.agg #[.int .i64 e, .int .i64 q]),recovered:=false}]
def KV (R:Nat):List (Int×Value):=
 let f:=fun n:Nat=>Value.func (.func n) #[.pointer (some ⟨R,0,none⟩)] #[]
 [(110,f 166),(102,f 167),(116,f 168),(34,f 169),(91,f 170),(123,f 171),(45,f 172),
  (48,f 172),(49,f 172),(50,f 172),(51,f 172),(52,f 172),(53,f 172),(54,f 172),(55,f 172),(56,f 172),(57,f 172)]
def RdB (w:World) (R g:Nat) (s:ByteArray) (k:Nat):Prop:=Blk w R 201 #[.string s, .int .i64 k, .map (some g)]
def RdTo (R g:Nat) (s:ByteArray) (k':Nat) (w w':World):Prop:=w.grownBy w' (some R)∧RdB w' R g s k'
theorem grownBy_trans {w w1 w2:World} {r:Option Nat} (h:w.grownBy w1 r) (k:w1.grownBy w2 r):w.grownBy w2 r:=
 ⟨k.os.trans h.os,k.tape.trans h.tape,k.output.trans h.output,Nat.le_trans h.size k.size,fun i hi hn=>(k.block i (Nat.lt_of_lt_of_le hi h.size) hn).trans (h.block i hi hn)⟩
theorem grownBy_drewN {w w1:World} {r:Option Nat} (h:w.grownBy w1 r) (n:Nat):w.grownBy (w1.drewN n) r:=⟨h.os,h.tape,h.output,h.size,h.block⟩
theorem grownBy_alloc {w w1:World} {r:Option Nat} (h:w.grownBy w1 r) (o:Obj):w.grownBy (w1.alloc o) r:=
 ⟨h.os,h.tape,h.output,Nat.le_trans h.size (by simp),fun i hi hne=>(Below.heap_alloc w1 o i (Nat.lt_of_lt_of_le hi h.size)).trans (h.block i hi hne)⟩
theorem grownBy_below {w w1 w2:World} {r:Option Nat} (h:w.grownBy w1 r) (k:Below w1.heap.size w1 w2):w.grownBy w2 r:=
 ⟨k.os.trans h.os,k.tape.trans h.tape,k.output.trans h.output,Nat.le_trans h.size k.size,fun i hi hn=>(k.block i (Nat.lt_of_lt_of_le hi h.size)).trans (h.block i hi hn)⟩
theorem grownBy_set {w w1:World} {r:Nat} (h:w.grownBy w1 (some r)) (p:Addr) (hp:p.block=r∨w.heap.size≤p.block) (u:Value):w.grownBy (w1.setCell p u) (some r):=
 ⟨h.os,h.tape,h.output,by simpa[World.setCell]using h.size,fun i hi hne=>(Below.heap_setCell w1 p u i (by
   rintro rfl
   rcases hp with hp|hp
   · exact hne (by rw[hp])
   · omega)).trans (h.block i hi hne)⟩
theorem grownBy_of_below {w w1:World} (r:Option Nat) (k:Below w.heap.size w w1):w.grownBy w1 r:=⟨k.os,k.tape,k.output,k.size,fun i hi _=>k.block i hi⟩
theorem RdTo.refl {w:World} {R g k:Nat} {s:ByteArray} (h:RdB w R g s k):RdTo R g s k w w:=⟨World.grownBy.refl _ _,h⟩
theorem RdTo.trans {w w1 w2:World} {R g k k':Nat} {s:ByteArray} (h:RdTo R g s k w w1) (h':RdTo R g s k' w1 w2):RdTo R g s k' w w2:=⟨grownBy_trans h.1 h'.1,h'.2⟩
theorem RdTo.drewN {w w1:World} {R g k:Nat} {s:ByteArray} (h:RdTo R g s k w w1) (n:Nat):RdTo R g s k w (w1.drewN n):=⟨grownBy_drewN h.1 n,h.2⟩
theorem RdTo.drew {w w1:World} {R g k:Nat} {s:ByteArray} (h:RdTo R g s k w w1):RdTo R g s k w w1.drew:=⟨⟨h.1.os,h.1.tape,h.1.output,h.1.size,h.1.block⟩,h.2⟩
theorem RdTo.alloc {w w1:World} {R g k:Nat} {s:ByteArray} (h:RdTo R g s k w w1) (o:Obj):RdTo R g s k w (w1.alloc o):=⟨grownBy_alloc h.1 o,Blk.alloc h.2 o⟩
theorem RdTo.below {w w1 w2:World} {R g k:Nat} {s:ByteArray} (h:RdTo R g s k w w1) (hb:Below w1.heap.size w1 w2):RdTo R g s k w w2:=⟨grownBy_below h.1 hb,Blk.below h.2 hb (Blk.lt h.2)⟩
theorem RdTo.set {w w1:World} {R g k:Nat} {s:ByteArray} (h:RdTo R g s k w w1) (k':Nat):RdTo R g s k' w (w1.setCell ⟨R,1,none⟩ (.int .i64 k')):=
 ⟨grownBy_set h.1 _ (.inl rfl) _,by have:=Blk.set_ h.2 1 (.int .i64 k');exact this⟩
theorem RdB.cells {w:World} {R g k:Nat} {s:ByteArray} (h:RdB w R g s k):w.cell? ⟨R,0,none⟩=some (.string s)∧w.cell? ⟨R,1,none⟩=some (.int .i64 k)∧w.cell? ⟨R,2,none⟩=some (.map (some g))∧w.frozen? ⟨R,1,none⟩=false∧R<w.heap.size:=
 ⟨Blk.cell h 0,Blk.cell h 1,Blk.cell h 2,Blk.frozen h 1,Blk.lt h⟩
theorem get_byte (s:ByteArray) {a:Nat} (h:a<s.size):s.data.toList[a]? =some s[a]:=by
 rw[List.getElem?_eq_getElem (by rw[←Lib.size_eq];exact h)]
 rfl
theorem byte_lt (c:UInt8):(c.toNat:Int)<256:=by have:=c.toNat_lt;omega
theorem byte_eq {c:UInt8} {n:Nat} (hn:n<256):((c.toNat:Int)==(n:Int))=(c==UInt8.ofNat n):=by
 rw[Bool.eq_iff_iff]
 simp only[beq_iff_eq]
 constructor
 · intro h
   have:c.toNat=n:=by omega
   subst this
   simp
 · rintro rfl
   simp[UInt8.toNat_ofNat',Nat.mod_eq_of_lt hn]
theorem wrong_calls (p:Value) (e q:Int) (w:World):Calls Tryz.prog 125 #[p, .int .i64 e, .int .i64 q] w fun r w'=>r=faultE e q∧w'=w:=by
 go_enter Tryz.func125,Tryz.ntmps125
 go_wp2
 exact⟨rfl,rfl,rfl⟩
set_option maxRecDepth 100000 in
set_option maxHeartbeats 4000000 in
theorem skip_calls (R g:Nat) (s:ByteArray) (k:Nat) (w:World) (hs:s.size≤1000000000) (hk:k≤s.size) (h:RdB w R g s k):
 Calls Tryz.prog 124 #[.pointer (some ⟨R,0,none⟩)] w fun e w'=>e= .returned (.tuple #[])∧RdTo R g s (past s.data.toList k) w w':=by
 obtain⟨P,hP⟩: ∃P,past s.data.toList k=P:=⟨_,rfl⟩
 have H0:=Lib.hid (And.intro hP (RdTo.refl h))
 rw[hP]
 clear h hP
 go_enter Tryz.func124,Tryz.ntmps124
 go_wp2
 go_loopg [] (s.size - k) (fun n wr=> ∃j:Nat,j≤s.size∧n=s.size - j∧Hid (past s.data.toList j=P∧RdTo R g s j w wr))
 case atStart=>exact⟨k,hk,rfl,H0⟩
 case round=>
  obtain⟨j,hj,rfl,hh⟩:=hrel
  clear H0
  obtain⟨c0,c1,_,f1,hR⟩:=hh.out.2.2.cells
  by_cases hlt:j<s.size
  · obtain⟨c,hc⟩: ∃c,s[j]=c:=⟨_,rfl⟩
    have hg:s.data.toList[j]? =some c:=by rw[get_byte s hlt,hc]
    have hcl:=byte_lt c
    have i1:(j:Int)<(s.size:Int):=by omega
    have i0:(0:Int)≤(j:Int):=by omega
    by_cases hbl:isBlank c=true
    · have HN:Hid (past s.data.toList (j+1)=P∧ ∀nq,RdTo R g s (j+1) w ((wr.drewN nq).setCell ⟨R,1,none⟩ (.int .i64 ((j+1:Nat):Int)))):=
       ⟨by rw[←past_step hg hbl];exact hh.out.1,fun nq=>(hh.out.2.drewN nq).set _⟩
      unfold isBlank at hbl
      simp only[Bool.or_eq_true,beq_iff_eq]at hbl
      clear hg hh
      rcases hbl with((hbl|hbl)|hbl)|hbl
      all_goals
       subst hbl
       go_wp2
       go_quiet (fail)
       go_wp2
       go_quiet (fail)
       go_wp2
       go_roundg (s.size - (j+1))
       case measure=>omega
       case rel=>exact⟨j+1,by omega,rfl,HN.out.1,HN.out.2 _⟩
    · have HN:Hid (j=P∧ ∀nq,RdTo R g s j w (wr.drewN nq)):=⟨by rw[←hh.out.1,past_stop hg (by simpa using hbl)],fun nq=>hh.out.2.drewN nq⟩
      unfold isBlank at hbl
      simp only[Bool.or_eq_true,beq_iff_eq,not_or]at hbl
      obtain⟨⟨⟨h9,h10⟩,h13⟩,h32⟩:=hbl
      have ne: ∀n:Nat,n<256→c≠UInt8.ofNat n→((c.toNat:Int)==(n:Int))=false:=fun n hn h=>by rw[byte_eq hn];simpa using h
      have e9:((c.toNat:Int)==9)=false:=ne 9 (by decide) h9
      have e10:((c.toNat:Int)==10)=false:=ne 10 (by decide) h10
      have e13:((c.toNat:Int)==13)=false:=ne 13 (by decide) h13
      have e32:((c.toNat:Int)==32)=false:=ne 32 (by decide) h32
      clear ne h9 h10 h13 h32 hg hh
      go_wp2
      go_quiet (fail)
      go_wp2
      go_quiet (fail)
      go_wp2
      refine bodyPost_ret (results_none rfl _ _ _) rfl ?_
      refine⟨rfl, ?_⟩
      rw[←HN.out.1]
      exact HN.out.2 _
  · have HN:Hid (j=P∧ ∀nq,RdTo R g s j w (wr.drewN nq)):=⟨by rw[←hh.out.1,past_end (by rw[←Lib.size_eq];omega)],fun nq=>hh.out.2.drewN nq⟩
    have i1: ¬((j:Int)<(s.size:Int)):=by omega
    clear hh
    go_wp2
    go_quiet (fail)
    go_wp2
    go_end0
    refine⟨rfl, ?_⟩
    rw[←HN.out.1]
    exact HN.out.2 _
theorem size_toList (s:ByteArray):s.data.toList.length=s.size:=by rw[Array.length_toList];rfl
theorem past_size {s:ByteArray} {k:Nat} (hk:k≤s.size):past s.data.toList k≤s.size:=by
 have:=past_le (s:=s.data.toList) (p:=k) (by rw[size_toList];exact hk)
 rwa [size_toList]at this
set_option maxRecDepth 100000 in
set_option maxHeartbeats 4000000 in
theorem comes_yes (R g:Nat) (s:ByteArray) (k:Nat) (c:UInt8) (w:World) (hs:s.size≤1000000000) (hk:k≤s.size) (h:RdB w R g s k) (hc:s.data.toList[past s.data.toList k]? =some c):
 Calls Tryz.prog 202 #[.pointer (some ⟨R,0,none⟩), .int .u8 c.toNat] w fun e w'=>e= .returned (.bool true)∧RdTo R g s (past s.data.toList k+1) w w':=by
 have hS:=skip_calls R g s k w hs hk h
 have hP:=past_size hk
 generalize past s.data.toList k=P at hS hP hc ⊢
 have hlt:P<s.size:=by have:=get_lt hc;rwa [size_toList]at this
 have hx:s[P]=c:=by rw[get_byte s hlt]at hc;exact Option.some.inj hc
 have hcl:=byte_lt c
 have i0:(0:Int)≤(P:Int):=by omega
 have i1:(P:Int)<(s.size:Int):=by omega
 have e1:((P:Int)==(s.size:Int))=false:=by rw[beq_eq_false_iff_ne];omega
 clear hc h
 have HS:=Lib.hid hS
 clear hS
 go_enter Tryz.func202,Tryz.ntmps202
 go_wp2_with (fail)
 with_reducible refine(HS.out).mono ?_
 rintro e w1 ⟨rfl,h1⟩
 obtain⟨c0,c1,_,f1,hR⟩:=h1.2.cells
 have H1:=Lib.hid h1
 clear h1
 go_wp2
 go_quiet (fail)
 go_wp2
 go_ret
 exact⟨rfl,(H1.out.drewN _).set _⟩
set_option maxRecDepth 100000 in
set_option maxHeartbeats 4000000 in
theorem comes_no (R g:Nat) (s:ByteArray) (k:Nat) (c:UInt8) (w:World) (hs:s.size≤1000000000) (hk:k≤s.size) (h:RdB w R g s k) (hc: ¬(s.data.toList[past s.data.toList k]? =some c)):
 Calls Tryz.prog 202 #[.pointer (some ⟨R,0,none⟩), .int .u8 c.toNat] w fun e w'=>e= .returned (.bool false)∧RdTo R g s (past s.data.toList k) w w':=by
 have hS:=skip_calls R g s k w hs hk h
 have hP:=past_size hk
 generalize past s.data.toList k=P at hS hP hc ⊢
 have i0:(0:Int)≤(P:Int):=by omega
 by_cases hlt:P<s.size
 · obtain⟨x,hx⟩: ∃x,s[P]=x:=⟨_,rfl⟩
   have hne:((x.toNat:Int)==(c.toNat:Int))=false:=by
    rw[get_byte s hlt,hx]at hc
    rw[beq_eq_false_iff_ne]
    intro e
    exact hc (by rw[UInt8.toNat_inj.1 (by omega:x.toNat=c.toNat)])
   have hne2:((x.toNat:Int) != (c.toNat:Int))=true:=by unfold bne;rw[hne];rfl
   have hcl:=byte_lt c
   have hxl:=byte_lt x
   have i1:(P:Int)<(s.size:Int):=by omega
   have e1:((P:Int)==(s.size:Int))=false:=by rw[beq_eq_false_iff_ne];omega
   clear hc h
   have HS:=Lib.hid hS
   clear hS
   go_enter Tryz.func202,Tryz.ntmps202
   go_wp2_with (fail)
   with_reducible refine(HS.out).mono ?_
   rintro e w1 ⟨rfl,h1⟩
   obtain⟨c0,c1,_,f1,hR⟩:=h1.2.cells
   have H1:=Lib.hid h1
   clear h1
   go_wp2
   go_quiet (fail)
   go_wp2
   go_ret
   exact⟨rfl,H1.out.drewN _⟩
 · obtain rfl:P=s.size:=by omega
   have e1:((s.size:Int)==(s.size:Int))=true:=by simp
   clear hc h
   have HS:=Lib.hid hS
   clear hS
   go_enter Tryz.func202,Tryz.ntmps202
   go_wp2_with (fail)
   with_reducible refine(HS.out).mono ?_
   rintro e w1 ⟨rfl,h1⟩
   obtain⟨c0,c1,_,f1,hR⟩:=h1.2.cells
   have H1:=Lib.hid h1
   clear h1
   go_wp2
   go_quiet (fail)
   go_wp2
   go_ret
   exact⟨rfl,H1.out.drewN _⟩
theorem comes_calls (R g:Nat) (s:ByteArray) (k:Nat) (c:UInt8) {B:Bool} (w:World) (hs:s.size≤1000000000) (hk:k≤s.size) (h:RdB w R g s k) (hB:decide (s.data.toList[past s.data.toList k]? =some c)=B):
 Calls Tryz.prog 202 #[.pointer (some ⟨R,0,none⟩), .int .u8 c.toNat] w fun e w'=>e= .returned (.bool B)∧RdTo R g s (if B=true then past s.data.toList k+1 else past s.data.toList k) w w':=by
 subst hB
 by_cases hc:s.data.toList[past s.data.toList k]? =some c
 · rw[decide_eq_true hc,if_pos rfl];exact comes_yes R g s k c w hs hk h hc
 · rw[decide_eq_false hc,if_neg (by decide)];exact comes_no R g s k c w hs hk h hc
end Go.Proofs.YtackmnbpfbaemaaGreatDoor

namespace Go.Proofs.YtackmnbpfbaemaaGreatDoor
open Go Go.RowKit
abbrev Tkinds:TypeId:=199
theorem mkey_kinds:MKey Tryz.prog 5 (Value.int .u8):=mkey_int Tryz.underlying5
section
variable {α:Type} [DecidableEq α] {f:α→Value} {P:Program} {kt et t:TypeId} {w w':World} {g:Nat} {kv:List (α×Value)}
theorem findM_not {a k:α} {v:Value} {r:List (α×Value)} (h:a≠k) (hr:findM a r=none):findM a ((k,v)::r)=none:=by
 simp only[findM,if_neg h];exact hr
end
structure NR (s:ByteArray) (w wr:World) (m:Option Nat) (kv:List (Int×Value)):Prop where
 below:Below w.heap.size w wr
 map:MapAt (Value.int .u8) wr (w.heap.size+1) kv
 blk:Blk wr w.heap.size 201 #[.string s, .int .i64 0, .map m]
theorem NR.ins {s:ByteArray} {w wr w':World} {m:Option Nat} {kv kv':List (Int×Value)} (h:NR s w wr m kv) (hM:MapAt (Value.int .u8) w' (w.heap.size+1) kv') (hg:wr.grownBy w' (some (w.heap.size+1))):NR s w w' m kv':=
 ⟨h.below.grown hg h.below.size fun k e=>by have:=Option.some.inj e;omega,hM,h.blk.grown hg (by intro e;have:=Option.some.inj e;omega)⟩
theorem NR.set {s:ByteArray} {w wr:World} {m:Option Nat} {kv:List (Int×Value)} (h:NR s w wr m kv):NR s w (wr.setCell ⟨w.heap.size,2,none⟩ (.map (some (w.heap.size+1)))) (some (w.heap.size+1)) kv:=
 ⟨h.below.setCell (Nat.le_refl _) _,h.map.setCell (by show w.heap.size+1≠w.heap.size;omega) _,by have:=h.blk.set_ 2 (.map (some (w.heap.size+1)));exact this⟩
theorem KV_next (R:Nat): ∀j:Nat,j<10→findM (48+(j:Int)) ((KV R).take (7+j))=none∧(KV R).take (7+j)++ [(48+(j:Int),Value.func (.func 172) #[.pointer (some ⟨R,0,none⟩)] #[])]=(KV R).take (7+(j+1)):=by
 intro j hj
 match j,hj with
 |0,_|1,_|2,_|3,_|4,_|5,_|6,_|7,_|8,_|9,_=>exact⟨by simp[KV,findM],rfl⟩
set_option maxRecDepth 100000 in
set_option maxHeartbeats 8000000 in
theorem newReader_calls (s:ByteArray) (w:World):Calls Tryz.prog 122 #[.string s] w fun e w'=>e= .returned (.pointer (some ⟨w.heap.size,0,none⟩))∧NR s w w' (some (w.heap.size+1)) (KV w.heap.size):=by
 have hmm:=fun W=>run_makeMap (P:=Tryz.prog) Tkinds W
 have hS0:NR s w ((w.alloc (.cells #[.string s, .int .i64 0, .map none] 201)).alloc (.map #[] 0)) none []:=by
  have:=MapAt.new (f:=Value.int .u8) (w.alloc (.cells #[.string s, .int .i64 0, .map none] 201))
  rw[World.size_alloc]at this
  exact⟨((Below.refl _ _).alloc (Nat.le_refl _) _).alloc (by simp) _,this,(Blk.new _ _ _).alloc _⟩
 have HS0:=Lib.hid hS0
 clear hS0
 go_enter Tryz.func122,Tryz.ntmps122
 go_upto_region 2 with(fail)
 go_upto_region 3 with(first
  |(((with_reducible refine wpList_insertM rfl (.tmp 9) _ _ Tkinds rfl mkey_kinds Tryz.underlying199 rfl HS0.out.map (k:=110) rfl rfl rfl ?_));intro w1 hM hg hs;have HS1:=Lib.hid (HS0.out.ins hM hg);(have r2:=HS1.out.blk.cell 2);(have f2:=HS1.out.blk.frozen 2);(have hlt:=HS1.out.blk.lt);clear hM hg hs HS0)
  |(((with_reducible refine wpList_insertM rfl (.tmp 9) _ _ Tkinds rfl mkey_kinds Tryz.underlying199 rfl HS1.out.map (k:=102) rfl rfl (findM_not (by decide) rfl) ?_));intro w2 hM hg hs;have HS2:=Lib.hid (HS1.out.ins hM hg);(have r2:=HS2.out.blk.cell 2);(have f2:=HS2.out.blk.frozen 2);(have hlt:=HS2.out.blk.lt);clear hM hg hs HS1)
  |(((with_reducible refine wpList_insertM rfl (.tmp 9) _ _ Tkinds rfl mkey_kinds Tryz.underlying199 rfl HS2.out.map (k:=116) rfl rfl (findM_not (by decide) (findM_not (by decide) rfl)) ?_));intro w3 hM hg hs;have HS3:=Lib.hid (HS2.out.ins hM hg);(have r2:=HS3.out.blk.cell 2);(have f2:=HS3.out.blk.frozen 2);(have hlt:=HS3.out.blk.lt);clear hM hg hs HS2)
  |(((with_reducible refine wpList_insertM rfl (.tmp 9) _ _ Tkinds rfl mkey_kinds Tryz.underlying199 rfl HS3.out.map (k:=34) rfl rfl (findM_not (by decide) (findM_not (by decide) (findM_not (by decide) rfl))) ?_));intro w4 hM hg hs;have HS4:=Lib.hid (HS3.out.ins hM hg);(have r2:=HS4.out.blk.cell 2);(have f2:=HS4.out.blk.frozen 2);(have hlt:=HS4.out.blk.lt);clear hM hg hs HS3)
  |(((with_reducible refine wpList_insertM rfl (.tmp 9) _ _ Tkinds rfl mkey_kinds Tryz.underlying199 rfl HS4.out.map (k:=91) rfl rfl (findM_not (by decide) (findM_not (by decide) (findM_not (by decide) (findM_not (by decide) rfl)))) ?_));intro w5 hM hg hs;have HS5:=Lib.hid (HS4.out.ins hM hg);(have r2:=HS5.out.blk.cell 2);(have f2:=HS5.out.blk.frozen 2);(have hlt:=HS5.out.blk.lt);clear hM hg hs HS4)
  |(((with_reducible refine wpList_insertM rfl (.tmp 9) _ _ Tkinds rfl mkey_kinds Tryz.underlying199 rfl HS5.out.map (k:=123) rfl rfl (findM_not (by decide) (findM_not (by decide) (findM_not (by decide) (findM_not (by decide) (findM_not (by decide) rfl))))) ?_));intro w6 hM hg hs;have HS6:=Lib.hid (HS5.out.ins hM hg);(have r2:=HS6.out.blk.cell 2);(have f2:=HS6.out.blk.frozen 2);(have hlt:=HS6.out.blk.lt);clear hM hg hs HS5)
  |(((with_reducible refine wpList_insertM rfl (.tmp 9) _ _ Tkinds rfl mkey_kinds Tryz.underlying199 rfl HS6.out.map (k:=45) rfl rfl (findM_not (by decide) (findM_not (by decide) (findM_not (by decide) (findM_not (by decide) (findM_not (by decide) (findM_not (by decide) rfl)))))) ?_));intro w7 hM hg hs;have HS7:=Lib.hid (HS6.out.ins hM hg);(have r2:=HS7.out.blk.cell 2);(have f2:=HS7.out.blk.frozen 2);(have hlt:=HS7.out.blk.lt);clear hM hg hs HS6))
 have h0:NR s w (w7.setCell ⟨w.heap.size,2,none⟩ (.map (some (w.heap.size+1)))) (some (w.heap.size+1)) ((KV w.heap.size).take (7+0)):=HS7.out.set
 generalize w7.setCell ⟨w.heap.size,2,none⟩ (.map (some (w.heap.size+1)))=w8 at h0 ⊢
 clear r2 f2 hlt HS7
 have H0:=Lib.hid h0
 clear h0
 go_wp2
 go_loopw [4] (fun i wr=> ∃j:Nat,i= .int .u8 (48+(j:Int))∧j≤10∧Hid (NR s w wr (some (w.heap.size+1)) ((KV w.heap.size).take (7+j)))) (fun i _=>58 - (intOf i).toNat)
 case atStart=>exact⟨0,rfl,by omega,H0⟩
 case round=>
  obtain⟨j,rfl,hj,hh⟩:=hrel
  clear H0
  have c2:=hh.out.blk.cell 2
  have hlt:=hh.out.blk.lt
  by_cases hlt':j<10
  · obtain⟨hn,hk⟩:=KV_next w.heap.size j hlt'
    have l1:decide ((48:Int)+(j:Int)≤57)=true:=decide_eq_true (by omega)
    obtain⟨w9,hrun,hM,hg,_⟩:=run_insertM mkey_kinds Tryz.underlying199 hh.out.map hn (Value.func (.func 172) #[.pointer (some ⟨w.heap.size,0,none⟩)] #[])
    rw[hk]at hM
    have HN:=Lib.hid (hh.out.ins hM hg)
    clear hM hg hh hn hk
    go_wp2
    go_roundw
    case rel=>exact⟨j+1,by go_num,by omega,HN⟩
    case measure=>simp[intOf];omega
  · obtain rfl:j=10:=by omega
    go_wp2
    go_ret
    exact⟨rfl,hh.out⟩
end Go.Proofs.YtackmnbpfbaemaaGreatDoor
