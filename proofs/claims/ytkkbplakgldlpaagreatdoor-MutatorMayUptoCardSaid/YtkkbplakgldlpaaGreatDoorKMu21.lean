/- Parts, joined: parse.reader: quote, quoted, null, no, yes. Condition: a text of at most 10^9 bytes. parse.reader: what holds while values are read, in a world of the reader's own; the promise of 'value'. Condition: a text of at most 10^6 bytes. parse.reader.key. Condition: a text of at most 10^6 bytes. -/
import Derived.Test.YtkkbplakgldlpaaGreatDoorProg
import Derived.Deep.RegionHeld3
import Derived.Test.YtkkbplakgldlpaaGreatDoorZShelfN
import Derived.Test.YtkkbplakgldlpaaGreatDoorKMu7
import Derived.Test.YtkkbplakgldlpaaGreatDoorKMu8
import Derived.Test.YtkkbplakgldlpaaGreatDoorKMu17
import Derived.Test.YtkkbplakgldlpaaGreatDoorKMu18
namespace Go.Proofs.YtkkbplakgldlpaaGreatDoor
open Go Go.RowKit
def SPost (R g:Nat) (s:ByteArray) (w:World) (r:Rd (List UInt8)) (e:Ending) (w':World):Prop:=match r with
 | .ok a q=>e=.returned (.string ⟨a.toArray⟩)∧RdTo R g s q w w'
 | .bad c q=>e=faultE c q∧w.grownBy w' (some R)
def RVPost (R g:Nat) (s:ByteArray) (w:World) (r:Rd Val) (e:Ending) (w':World):Prop:=match r with
 | .ok v q=>(∃cs:List Value,e=.returned (.agg cs.toArray)∧Fresh w.heap.size w' (dV v) cs)∧RdTo R g s q w w'
 | .bad c q=>e=faultE c q∧w.grownBy w' (some R)
theorem fresh_leafs {b:Nat} {w:World} (k:Int) (c:Bool) (n:Int) (t:ByteArray):Fresh b w (dV (.mk k c n t [] [])) [.int .i64 k,.bool c,.int .i64 n,.string t,.slice none 0 0,.slice none 0 0]:=fun w'' _ _=>by
 refine holds_of_V _ _ ?_
 simp only[HoldsV]
 exact⟨none,0,none,0,rfl,by simp,by simp⟩
theorem unqAt_bad {s:List UInt8} {p:Nat} {e:Int} {q:Nat} (hp:p≤s.length) (h:unqAt s p=.bad e q):1≤e:=by
 have:=unqAt_within hp
 rw[h]at this
 exact this.2.2.1
set_option maxRecDepth 100000 in
set_option maxHeartbeats 4000000 in
theorem rdquote_calls (R g:Nat) (s:ByteArray) (k:Nat) (w:World) (hT:Tabs w) (hs:s.size≤1000000000) (hk:k≤s.size) (h:RdB w R g s k):
 Calls Tryz.prog 170 #[.pointer (some ⟨R,0,none⟩)] w (SPost R g s w (unqAt s.data.toList k)):=by
 have hU:=fun(W:World) (hB:Below w.heap.size w W)=>unq_calls s k W (hT.below hB) hs hk
 obtain⟨c0,c1,_,f1,hR⟩:=h.cells
 cases hr:unqAt s.data.toList k with
 |ok a q=>
  rw[hr]at hU
  simp only[unqR]at hU
  have t0:((0:Int) != 0)=false:=rfl
  have HU:=Lib.hid hU
  have H:=Lib.hid h
  have HT:=Lib.hid hT
  have Hr:=Lib.hid hr
  clear hU h hT hr
  go_enter Tryz.func170,Tryz.ntmps170
  go_wp2
  go_region_held3 (fun W=>W.cell? ⟨R,0,none⟩=some (.string s)∧W.cell? ⟨R,1,none⟩=some (.int .i64 k)) (go_keep) (first|(go_at_call 202;refine(HU.out _ (Below.drew (Below.refl _ _))).mono ?_;rintro e w1 ⟨rfl,hb1⟩;have hbr1:Below w.heap.size w w1:=(Below.drew (Below.refl _ _)).trans hb1;obtain⟨hc1,hf1⟩:=bcellM hbr1))
  all_goals
   have hB:RdTo R g s k w w1:=(RdTo.refl H.out).below hbr1
   obtain⟨d0,d1,_,d2,d3⟩:=hB.2.cells
   have HB:=Lib.hid hB
   clear hB
   clear hc1 hf1 hb1 hbr1
   go_wp2
   go_ret
   exact⟨rfl,HB.out.set q⟩
 |bad c q=>
  have hc1:=unqAt_bad (by rw[size_toList];exact hk) hr
  rw[hr]at hU
  simp only[unqR]at hU
  have t0:(c != 0)=true:=by rw[bne_iff_ne];omega
  have hW:=fun W=>wrong_calls (.pointer (some ⟨R,0,none⟩)) c q W
  have HU:=Lib.hid hU
  have H:=Lib.hid h
  have HT:=Lib.hid hT
  have Hr:=Lib.hid hr
  have HW:=Lib.hid hW
  clear hU h hT hr hW
  go_enter Tryz.func170,Tryz.ntmps170
  go_wp2
  go_region_held3 (fun W=>W.cell? ⟨R,0,none⟩=some (.string s)∧W.cell? ⟨R,1,none⟩=some (.int .i64 k)) (go_keep) (first|(go_at_call 202;refine(HU.out _ (Below.drew (Below.refl _ _))).mono ?_;rintro e w1 ⟨rfl,hb1⟩;have hbr1:Below w.heap.size w w1:=(Below.drew (Below.refl _ _)).trans hb1;obtain⟨hc1,hf1⟩:=bcellM hbr1))
  all_goals
   have hB:=Lib.hid hbr1
   clear hc1 hf1 hb1 hbr1
   go_wp2_with (fail)
   with_reducible refine(HW.out _).mono ?_
   rintro e w2 ⟨rfl,rfl⟩
   exact⟨rfl,rfl,grownBy_of_below _ hB.out⟩
theorem RdTo.unAlloc {R g q:Nat} {s:ByteArray} {w w1:World} {o:Obj} (h:RdTo R g s q (w.alloc o) w1):RdTo R g s q w w1:=⟨grownBy_trans (grownBy_alloc (World.grownBy.refl _ _) o) h.1,h.2⟩
theorem grownBy_unAlloc {R:Option Nat} {w w1:World} {o:Obj} (h:(w.alloc o).grownBy w1 R):w.grownBy w1 R:=grownBy_trans (grownBy_alloc (World.grownBy.refl _ _) o) h
theorem RdTo.many {R g q B:Nat} {s:ByteArray} {w:World} (hB:w.heap.size≤B) (hR:R<w.heap.size): ∀(vs:List Value) (o:Nat) {w1:World},RdTo R g s q w w1→RdTo R g s q w (setMany w1 B o vs)
 | [],_,_,h=>h
 |v::vs,o,w1,h=>RdTo.many hB hR vs (o+1) ⟨grownBy_set h.1 ⟨B,o,none⟩ (.inr hB) v,Blk.far h.2 (by show R≠B;omega) v⟩
theorem RdTo.res {R g q:Nat} {s:ByteArray} {w w1:World} {t:TypeId} {cs:Array Value} (h:RdTo R g s q (w.alloc (.cells cs t)) w1) (hR:R<w.heap.size):Blk w1 w.heap.size t cs:=(Blk.new w t cs).grown h.1 (by intro e;cases e;omega)
theorem wordAt_ok {s:List UInt8} {p q:Nat} {l:List UInt8} {v v':Val} (h:wordAt s p l v=.ok v' q):v'=v:=by
 unfold wordAt at h
 split at h
 · cases h;rfl
 · cases h
set_option maxRecDepth 100000 in
set_option maxHeartbeats 4000000 in
theorem quoted_calls (R g:Nat) (s:ByteArray) (k:Nat) (d:Int) (w:World) (hT:Tabs w) (hs:s.size≤1000000000) (hk:k≤s.size) (h:RdB w R g s k):
 Calls Tryz.prog 137 #[.pointer (some ⟨R,0,none⟩),.int .i64 d] w (RVPost R g s w ((unqAt s.data.toList k).map txtV)):=by
 have hR:R<w.heap.size:=Blk.lt h
 have hQ:=rdquote_calls R g s k (w.alloc (.cells zero6 27)) (hT.below (alloc_below _ _)) hs hk (Blk.alloc h _)
 cases hr:unqAt s.data.toList k with
 |ok a q=>
  rw[hr]at hQ
  simp only[Rd.map]
  clear hr hT h
  have HQ:=Lib.hid hQ
  clear hQ
  go_enter Tryz.func137,Tryz.ntmps137
  go_wp2_with (fail)
  with_reducible refine(HQ.out).mono ?_
  rintro e w1 ⟨rfl,h1⟩
  have hxr:=h1.res hR
  have h1':=h1.unAlloc
  have hlt:=hxr.lt
  obtain⟨c0,c1,c2,c3,c4,c5⟩:=vcell hxr
  have fz:=hxr.frozen
  have Hxr:=Lib.hid hxr
  have H1:=Lib.hid h1
  have H1':=Lib.hid h1'
  clear hxr h1 h1'
  dsimp only
  repeat go_step
  have hxf:=((((((Hxr.out.set_ 0 (.int .i64 4)).set_ 1 (.bool false)).set_ 2 (.int .i64 0)).set_ 3 (.string ⟨a.toArray⟩)).set_ 4 (.slice none 0 0)).set_ 5 (.slice none 0 0))
  exact bodyPost_ret (results_cell6 rfl rfl hxf) rfl ⟨⟨_,rfl,fresh_leafs 4 false 0 _⟩,RdTo.many (Nat.le_refl _) hR [.int .i64 4,.bool false,.int .i64 0,.string ⟨a.toArray⟩,.slice none 0 0,.slice none 0 0] 0 H1'.out⟩
 |bad c q=>
  rw[hr]at hQ
  simp only[Rd.map]
  clear hr hT h
  have HQ:=Lib.hid hQ
  clear hQ
  go_enter Tryz.func137,Tryz.ntmps137
  go_wp2_with (fail)
  with_reducible refine(HQ.out).mono ?_
  rintro e w1 ⟨rfl,h1⟩
  exact⟨rfl,rfl,grownBy_unAlloc h1⟩
set_option maxRecDepth 100000 in
set_option maxHeartbeats 4000000 in
theorem null_calls (R g:Nat) (s:ByteArray) (k:Nat) (d:Int) (w:World) (hs:s.size≤1000000000) (hk:k≤s.size) (h:RdB w R g s k):
 Calls Tryz.prog 134 #[.pointer (some ⟨R,0,none⟩),.int .i64 d] w (RVPost R g s w (wordAt s.data.toList k [110,117,108,108] nullV)):=by
 have hR:R<w.heap.size:=Blk.lt h
 have hQ:=word_calls R g s ⟨#[110,117,108,108]⟩ k nullV (w.alloc (.cells zero6 27)) hs hk (by decide) (Blk.alloc h _)
 dsimp only at hQ
 cases hr:wordAt s.data.toList k [110,117,108,108] nullV with
 |ok a q=>
  obtain rfl:=wordAt_ok hr
  rw[hr]at hQ
  clear hr h
  have HQ:=Lib.hid hQ
  clear hQ
  go_enter Tryz.func134,Tryz.ntmps134
  go_wp2_with (fail)
  with_reducible refine(HQ.out).mono ?_
  rintro e w1 ⟨rfl,h1⟩
  have hxr:=h1.res hR
  have h1':=h1.unAlloc
  have hlt:=hxr.lt
  obtain⟨c0,c1,c2,c3,c4,c5⟩:=vcell hxr
  have fz:=hxr.frozen
  have Hxr:=Lib.hid hxr
  have H1:=Lib.hid h1
  have H1':=Lib.hid h1'
  clear hxr h1 h1'
  dsimp only
  repeat go_step
  have hxf:=((((((Hxr.out.set_ 0 (.int .i64 1)).set_ 1 (.bool false)).set_ 2 (.int .i64 0)).set_ 3 (.string ⟨#[]⟩)).set_ 4 (.slice none 0 0)).set_ 5 (.slice none 0 0))
  exact bodyPost_ret (results_cell6 rfl rfl hxf) rfl ⟨⟨_,rfl,fresh_leafs 1 false 0 _⟩,RdTo.many (Nat.le_refl _) hR [.int .i64 1,.bool false,.int .i64 0,.string ⟨#[]⟩,.slice none 0 0,.slice none 0 0] 0 H1'.out⟩
 |bad c q=>
  rw[hr]at hQ
  clear hr h
  have HQ:=Lib.hid hQ
  clear hQ
  go_enter Tryz.func134,Tryz.ntmps134
  go_wp2_with (fail)
  with_reducible refine(HQ.out).mono ?_
  rintro e w1 ⟨rfl,h1⟩
  exact⟨rfl,rfl,grownBy_unAlloc h1⟩
set_option maxRecDepth 100000 in
set_option maxHeartbeats 4000000 in
theorem yes_calls (R g:Nat) (s:ByteArray) (k:Nat) (d:Int) (w:World) (hs:s.size≤1000000000) (hk:k≤s.size) (h:RdB w R g s k):
 Calls Tryz.prog 136 #[.pointer (some ⟨R,0,none⟩),.int .i64 d] w (RVPost R g s w (wordAt s.data.toList k [116,114,117,101] (boolV true))):=by
 have hR:R<w.heap.size:=Blk.lt h
 have hQ:=word_calls R g s ⟨#[116,114,117,101]⟩ k (boolV true) (w.alloc (.cells zero6 27)) hs hk (by decide) (Blk.alloc h _)
 dsimp only at hQ
 cases hr:wordAt s.data.toList k [116,114,117,101] (boolV true)with
 |ok a q=>
  obtain rfl:=wordAt_ok hr
  rw[hr]at hQ
  clear hr h
  have HQ:=Lib.hid hQ
  clear hQ
  go_enter Tryz.func136,Tryz.ntmps136
  go_wp2_with (fail)
  with_reducible refine(HQ.out).mono ?_
  rintro e w1 ⟨rfl,h1⟩
  have hxr:=h1.res hR
  have h1':=h1.unAlloc
  have hlt:=hxr.lt
  obtain⟨c0,c1,c2,c3,c4,c5⟩:=vcell hxr
  have fz:=hxr.frozen
  have Hxr:=Lib.hid hxr
  have H1:=Lib.hid h1
  have H1':=Lib.hid h1'
  clear hxr h1 h1'
  dsimp only
  repeat go_step
  have hxf:=((((((Hxr.out.set_ 0 (.int .i64 2)).set_ 1 (.bool true)).set_ 2 (.int .i64 0)).set_ 3 (.string ⟨#[]⟩)).set_ 4 (.slice none 0 0)).set_ 5 (.slice none 0 0))
  exact bodyPost_ret (results_cell6 rfl rfl hxf) rfl ⟨⟨_,rfl,fresh_leafs 2 true 0 _⟩,RdTo.many (Nat.le_refl _) hR [.int .i64 2,.bool true,.int .i64 0,.string ⟨#[]⟩,.slice none 0 0,.slice none 0 0] 0 H1'.out⟩
 |bad c q=>
  rw[hr]at hQ
  clear hr h
  have HQ:=Lib.hid hQ
  clear hQ
  go_enter Tryz.func136,Tryz.ntmps136
  go_wp2_with (fail)
  with_reducible refine(HQ.out).mono ?_
  rintro e w1 ⟨rfl,h1⟩
  exact⟨rfl,rfl,grownBy_unAlloc h1⟩
set_option maxRecDepth 100000 in
set_option maxHeartbeats 4000000 in
theorem no_calls (R g:Nat) (s:ByteArray) (k:Nat) (d:Int) (w:World) (hs:s.size≤1000000000) (hk:k≤s.size) (h:RdB w R g s k):
 Calls Tryz.prog 135 #[.pointer (some ⟨R,0,none⟩),.int .i64 d] w (RVPost R g s w (wordAt s.data.toList k [102,97,108,115,101] (boolV false))):=by
 have hR:R<w.heap.size:=Blk.lt h
 have hQ:=word_calls R g s ⟨#[102,97,108,115,101]⟩ k (boolV false) (w.alloc (.cells zero6 27)) hs hk (by decide) (Blk.alloc h _)
 dsimp only at hQ
 cases hr:wordAt s.data.toList k [102,97,108,115,101] (boolV false)with
 |ok a q=>
  obtain rfl:=wordAt_ok hr
  rw[hr]at hQ
  clear hr h
  have HQ:=Lib.hid hQ
  clear hQ
  go_enter Tryz.func135,Tryz.ntmps135
  go_wp2_with (fail)
  with_reducible refine(HQ.out).mono ?_
  rintro e w1 ⟨rfl,h1⟩
  have hxr:=h1.res hR
  have h1':=h1.unAlloc
  have hlt:=hxr.lt
  obtain⟨c0,c1,c2,c3,c4,c5⟩:=vcell hxr
  have fz:=hxr.frozen
  have Hxr:=Lib.hid hxr
  have H1:=Lib.hid h1
  have H1':=Lib.hid h1'
  clear hxr h1 h1'
  dsimp only
  repeat go_step
  have hxf:=((((((Hxr.out.set_ 0 (.int .i64 2)).set_ 1 (.bool false)).set_ 2 (.int .i64 0)).set_ 3 (.string ⟨#[]⟩)).set_ 4 (.slice none 0 0)).set_ 5 (.slice none 0 0))
  exact bodyPost_ret (results_cell6 rfl rfl hxf) rfl ⟨⟨_,rfl,fresh_leafs 2 false 0 _⟩,RdTo.many (Nat.le_refl _) hR [.int .i64 2,.bool false,.int .i64 0,.string ⟨#[]⟩,.slice none 0 0,.slice none 0 0] 0 H1'.out⟩
 |bad c q=>
  rw[hr]at hQ
  clear hr h
  have HQ:=Lib.hid hQ
  clear hQ
  go_enter Tryz.func135,Tryz.ntmps135
  go_wp2_with (fail)
  with_reducible refine(HQ.out).mono ?_
  rintro e w1 ⟨rfl,h1⟩
  exact⟨rfl,rfl,grownBy_unAlloc h1⟩
end Go.Proofs.YtkkbplakgldlpaaGreatDoor

namespace Go.Proofs.YtkkbplakgldlpaaGreatDoor
open Go Go.RowKit
structure RdI (w0 w:World) (R g:Nat) (s:ByteArray) (k:Nat):Prop where
 below:Below w0.heap.size w0 w
 ge:w0.heap.size≤R
 rd:RdB w R g s k
 map:MapAt (Value.int .u8) w g (KV R)
theorem RdI.ne {w0 w:World} {R g k:Nat} {s:ByteArray} (h:RdI w0 w R g s k):g≠R:=by
 rintro rfl
 have h1:=h.rd
 have h2:=h.map
 unfold RdB Blk at h1
 unfold MapAt at h2
 rw[h1]at h2
 simp at h2
theorem RdI.to {w0 w w':World} {R g k k':Nat} {s:ByteArray} (h:RdI w0 w R g s k) (t:RdTo R g s k' w w'):RdI w0 w' R g s k':=
 ⟨h.below.grown t.1 h.below.size fun r e=>by have:=Option.some.inj e;have:=h.ge;omega,h.ge,t.2,h.map.keep (t.1.block g h.map.lt (by intro e;exact h.ne (Option.some.inj e)))⟩
theorem RdI.later {w0 w w':World} {R g k:Nat} {s:ByteArray} (h:RdI w0 w R g s k) (t:Below w.heap.size w w'):RdI w0 w' R g s k:=
 ⟨h.below.trans (t.mono h.below.size),h.ge,Blk.below h.rd t (Blk.lt h.rd),h.map.below t h.map.lt⟩
def ValC (w0:World) (R g:Nat) (s:ByteArray) (f:Nat):Prop:= ∀(w:World) (k:Nat) (d:Int),RdI w0 w R g s k→k≤s.size→4*(s.size - k)+1≤f→0≤d→d≤65→
    Calls Tryz.prog 91 #[.pointer (some ⟨R,0,none⟩),.int .i64 d] w (RVPost R g s w (valueF f s.data.toList k d))
theorem RdTo.undrew {w w1:World} {R g k:Nat} {s:ByteArray} (h:RdTo R g s k w.drew w1):RdTo R g s k w w1:=⟨⟨h.1.os,h.1.tape,h.1.output,h.1.size,h.1.block⟩,h.2⟩
theorem grownBy_split {w w1:World} {R:Nat} (hR:R<w.heap.size) (h:w.grownBy w1 (some R)): ∃wm:World,wm.heap.size=w.heap.size∧(∀i,i≠R→wm.heap[i]? =w.heap[i]?)∧Below wm.heap.size wm w1:=by
 have hR1:R<w1.heap.size:=by have:=h.size;omega
 refine⟨{w with heap:=w.heap.setIfInBounds R w1.heap[R]},by simp,fun i hi=> ?_, ?_⟩
 · simp only[Array.getElem?_setIfInBounds];rw[if_neg (fun e=>hi e.symm)]
 · refine⟨h.os,h.tape,h.output,by simpa using h.size,fun i hi=> ?_⟩
   simp only[Array.size_setIfInBounds]at hi
   simp only[Array.getElem?_setIfInBounds]
   by_cases e:R=i
   · subst e;rw[if_pos rfl,if_pos hi,Array.getElem?_eq_getElem hR1]
   · rw[if_neg e];exact h.block i hi (fun e'=>e (Option.some.inj e').symm)
theorem RdTo.app {w w5 w6:World} {R g k b:Nat} {s:ByteArray} {e:TypeId} {sz:Nat} {l:List D} {V:Value} {wr:World} (h:RdTo R g s k w w5) (hg:w5.grownBy w6 V.ownBlock) (hr:RowD b e sz wr l V) (hb:w.heap.size≤b) (hR:R<w.heap.size):RdTo R g s k w w6:=by
 have hne: ∀i,i<w.heap.size→some i≠V.ownBlock:=fun i hi e=>by have:=(hr.base i e.symm).1;omega
 exact⟨⟨hg.os.trans h.1.os,hg.tape.trans h.1.tape,hg.output.trans h.1.output,Nat.le_trans h.1.size hg.size,fun i hi hn=>(hg.block i (by have:=h.1.size;omega) (hne i hi)).trans (h.1.block i hi hn)⟩,Blk.grown h.2 hg (hne R hR)⟩
theorem RdTo.setN {w w1:World} {R g k:Nat} {s:ByteArray} (h:RdTo R g s k w w1) (p:Addr) (hp:w.heap.size≤p.block) (hR:R<w.heap.size) (v:Value):RdTo R g s k w (w1.setCell p v):=
 ⟨grownBy_set h.1 p (.inr hp) v,Blk.far h.2 (by omega) v⟩
theorem comes_at (R g:Nat) (s:ByteArray) (k:Nat) (c:UInt8) (n:Int) (hn:(c.toNat:Int)=n) {B:Bool} (w:World) (hs:s.size≤1000000000) (hk:k≤s.size) (h:RdB w R g s k) (hB:decide (s.data.toList[past s.data.toList k]? =some c)=B):
 Calls Tryz.prog 171 #[.pointer (some ⟨R,0,none⟩),.int .u8 n] w fun e w'=>e=.returned (.bool B)∧RdTo R g s (if B=true then past s.data.toList k+1 else past s.data.toList k) w w':=by
 subst hn;exact comes_calls R g s k c w hs hk h hB
structure RdL (w wr:World) (R g:Nat) (s:ByteArray) (j:Nat) (cs:Array Value):Prop where
 went:RdTo R g s j w wr
 res:Blk wr w.heap.size 27 zero6
 var:Blk wr (w.heap.size+1) 27 cs
theorem RdL.to_ {w wr w':World} {R g j j':Nat} {s:ByteArray} {cs:Array Value} (h:RdL w wr R g s j cs) (hR:R<w.heap.size) (t:RdTo R g s j' wr w'):RdL w w' R g s j' cs:=
 ⟨h.went.trans t,h.res.grown t.1 (by intro e;have:=Option.some.inj e;omega),h.var.grown t.1 (by intro e;have:=Option.some.inj e;omega)⟩
theorem RdL.leave {w wr:World} {R g j:Nat} {s:ByteArray} {cs:Array Value} (h:RdL w wr R g s j cs) (hR:R<w.heap.size) (a0 a1 a2 a3 a4 a5:Value):
 Blk (setMany wr w.heap.size 0 [a0,a1,a2,a3,a4,a5]) w.heap.size 27 #[a0,a1,a2,a3,a4,a5]∧RdTo R g s j w (setMany wr w.heap.size 0 [a0,a1,a2,a3,a4,a5]):=
 ⟨((((((h.res.set_ 0 a0).set_ 1 a1).set_ 2 a2).set_ 3 a3).set_ 4 a4).set_ 5 a5),RdTo.many (Nat.le_refl _) hR _ 0 h.went⟩
theorem fresh_lst {b:Nat} {w:World} {vs:List Val} {a:Option Addr} {n c:Nat} (h:Fresh b w (.row 6 (dL vs)) [.slice a n c]):Fresh b w (dV (lstV vs)) [.int .i64 5,.bool false,.int .i64 0,.string ⟨#[]⟩,.slice a n c,.slice none 0 0]:=fun w'' h1 h2=>by
 simp only[lstV,emptyB,dV,Holds]
 exact HoldsA.six.2 ⟨[.slice a n c], [.slice none 0 0],rfl,rfl,rfl,rfl,rfl,h w'' h1 h2,⟨none,0,rfl,by simp[dO], [],rfl,by simp[dO]⟩⟩
theorem fresh_obj {b:Nat} {w:World} {o:List (ByteArray×Val)} {a:Option Addr} {n c:Nat} (h:Fresh b w (.row 7 (dO o)) [.slice a n c]):Fresh b w (dV (objV o)) [.int .i64 6,.bool false,.int .i64 0,.string ⟨#[]⟩,.slice none 0 0,.slice a n c]:=fun w'' h1 h2=>by
 simp only[objV,emptyB,dV,Holds]
 exact HoldsA.six.2 ⟨[.slice none 0 0], [.slice a n c],rfl,rfl,rfl,rfl,rfl,⟨none,0,rfl,by simp[dL], [],rfl,by simp[dL]⟩,h w'' h1 h2⟩
end Go.Proofs.YtkkbplakgldlpaaGreatDoor

namespace Go.Proofs.YtkkbplakgldlpaaGreatDoor
open Go Go.RowKit
abbrev Tseen:TypeId:=192
theorem mkey_seen:MKey Tryz.prog 9 Value.string:=mkey_string Tryz.underlying9
def keysM (acc:List (ByteArray×Val)):List (ByteArray×Value):=acc.map fun m=>(m.1,Value.agg #[])
theorem hasK_cons (a:ByteArray) (m:ByteArray×Val) (r:List (ByteArray×Val)):hasK a (m::r)=(decide (m.1=a)||hasK a r):=rfl
theorem findM_keys (a:ByteArray): ∀acc:List (ByteArray×Val),findM a (keysM acc)=if hasK a acc=true then some (.agg #[])else none
 | []=>rfl
 |m::r=>by
  have ih:=findM_keys a r
  show(if a=m.1 then some (Value.agg #[])else findM a (keysM r))=_
  rw[hasK_cons]
  by_cases h:a=m.1
  · rw[if_pos h,decide_eq_true h.symm,Bool.true_or,if_pos rfl]
  · rw[if_neg h,ih,decide_eq_false (fun e=>h e.symm),Bool.false_or]
def KPost (R g G:Nat) (s:ByteArray) (acc:List (ByteArray×Val)) (w:World) (r:Rd (List UInt8)) (p:Nat) (e:Ending) (w':World):Prop:=match r with
 | .bad c q=>e=faultE c q∧w.grownBy w' (some R)
 | .ok k q=>if hasK ⟨k.toArray⟩ acc=true then e=faultE 8 p∧w.grownBy w' (some R)
   else e=.returned (.string ⟨k.toArray⟩)∧ ∃w1,RdTo R g s q w w1∧w1.grownBy w' (some G)∧MapAt Value.string w' G (keysM acc++ [(⟨k.toArray⟩,.agg #[])])
theorem MapAt.grown {α:Type} {f:α→Value} {w w':World} {g:Nat} {kv:List (α×Value)} {r:Option Nat} (h:MapAt f w g kv) (t:w.grownBy w' r) (hg:some g≠r):MapAt f w' g kv:=h.keep (t.block g h.lt hg)
theorem zero_seen (w:World):(zeroValue 226).run Tryz.prog w=.ok (.agg #[]) w:=by kernel_rfl
set_option maxRecDepth 100000 in
set_option maxHeartbeats 4000000 in
theorem rdkey_calls (R g G:Nat) (s:ByteArray) (acc:List (ByteArray×Val)) (k:Nat) (w:World) (hT: ∀W,w.grownBy W (some R)→Tabs W) (hs:s.size≤1000000000) (hk:k≤s.size) (h:RdB w R g s k) (hM:MapAt Value.string w G (keysM acc)) (hG:G≠R):
 Calls Tryz.prog 172 #[.pointer (some ⟨R,0,none⟩),.map (some G)] w (KPost R g G s acc w (unqAt s.data.toList (past s.data.toList k)) (past s.data.toList k)):=by
 have hS:=skip_calls R g s k w hs hk h
 have hp:=past_size hk
 generalize past s.data.toList k=p at hS hp ⊢
 have hne:some G≠some R:=fun e=>hG (Option.some.inj e)
 cases hr:unqAt s.data.toList p with
 |bad c q=>
  have HS:=Lib.hid hS
  have HT:=Lib.hid hT
  have HM:=Lib.hid hM
  have Hr:=Lib.hid hr
  clear hS hT hM hr
  clear h
  go_enter Tryz.func172,Tryz.ntmps172
  go_wp2_with (fail)
  with_reducible refine(HS.out).mono ?_
  rintro e w1 ⟨rfl,h1⟩
  obtain⟨c0,c1,_,f1,hR⟩:=h1.2.cells
  have hQ:=rdquote_calls R g s p w1 (HT.out w1 h1.1) hs hp h1.2
  rw[Hr.out]at hQ
  have H1:=Lib.hid h1
  have HQ:=Lib.hid hQ
  clear h1 hQ
  go_wp2_with (fail)
  with_reducible refine(HQ.out).mono ?_
  rintro e w2 ⟨rfl,h2⟩
  exact⟨rfl,rfl,grownBy_trans H1.out.1 h2⟩
 |ok kk q=>
  unfold KPost
  dsimp only
  obtain⟨KK,hKK⟩: ∃K:ByteArray,(⟨kk.toArray⟩:ByteArray)=K:=⟨_,rfl⟩
  rw[hKK]
  have hF:=findM_keys KK acc
  cases hh:hasK KK acc with
  |true=>
   rw[hh,if_pos rfl]at hF
   simp only[if_true]
   have HS:=Lib.hid hS
   have HT:=Lib.hid hT
   have HM:=Lib.hid hM
   have Hr:=Lib.hid hr
   have HF:=Lib.hid hF
   have HKK:=Lib.hid hKK
   clear hS hT hM hr hF hKK
   clear h
   go_enter Tryz.func172,Tryz.ntmps172
   go_wp2_with (fail)
   with_reducible refine(HS.out).mono ?_
   rintro e w1 ⟨rfl,h1⟩
   obtain⟨c0,c1,_,f1,hR⟩:=h1.2.cells
   have hQ:=rdquote_calls R g s p w1 (HT.out w1 h1.1) hs hp h1.2
   rw[Hr.out]at hQ
   have H1:=Lib.hid h1
   have HQ:=Lib.hid hQ
   clear h1 hQ
   go_wp2_with (fail)
   with_reducible refine(HQ.out).mono ?_
   rintro e w2 ⟨e1,h2⟩
   rw[HKK.out]at e1
   subst e1
   have hM2:=(HM.out.grown H1.out.1 hne).grown h2.1 hne
   have hrun:=run_lookM mkey_seen Tryz.underlying192 hM2 KK zero_seen true
   rw[HF.out]at hrun
   simp only[Option.getD_some,Option.isSome_some,if_true]at hrun
   have h12:=grownBy_trans H1.out.1 h2.1
   have HM2:=Lib.hid hM2
   have H12:=Lib.hid h12
   clear hM2 h12
   clear h2
   go_wp2_with (fail)
   with_reducible refine(wrong_calls _ _ _ _).mono ?_
   rintro e w3 ⟨rfl,rfl⟩
   exact⟨rfl,rfl,grownBy_alloc H12.out _⟩
  |false=>
   rw[hh,if_neg (by decide)]at hF
   simp only[Bool.false_eq_true,if_false]
   have HS:=Lib.hid hS
   have HT:=Lib.hid hT
   have HM:=Lib.hid hM
   have Hr:=Lib.hid hr
   have HF:=Lib.hid hF
   have HKK:=Lib.hid hKK
   clear hS hT hM hr hF hKK
   clear h
   go_enter Tryz.func172,Tryz.ntmps172
   go_wp2_with (fail)
   with_reducible refine(HS.out).mono ?_
   rintro e w1 ⟨rfl,h1⟩
   obtain⟨c0,c1,_,f1,hR⟩:=h1.2.cells
   have hQ:=rdquote_calls R g s p w1 (HT.out w1 h1.1) hs hp h1.2
   rw[Hr.out]at hQ
   have H1:=Lib.hid h1
   have HQ:=Lib.hid hQ
   clear h1 hQ
   go_wp2_with (fail)
   with_reducible refine(HQ.out).mono ?_
   rintro e w2 ⟨e1,h2⟩
   rw[HKK.out]at e1
   subst e1
   have hM2:=(HM.out.grown H1.out.1 hne).grown h2.1 hne
   have hrun:=run_lookM mkey_seen Tryz.underlying192 hM2 KK zero_seen true
   rw[HF.out]at hrun
   simp only[Option.getD_none,Option.isSome_none,if_true]at hrun
   obtain⟨w4,hrun4,hM4,hg4,_⟩:=run_insertM mkey_seen Tryz.underlying192 (hM2.alloc (.cells #[] 226)) HF.out (.agg #[])
   have h12:=(H1.out.trans h2).alloc (.cells #[] 226)
   have HG:=Lib.hid (And.intro h12 (And.intro hg4 hM4))
   clear h2 hM2 hM4 hg4 h12
   go_wp2
   go_ret
   exact⟨rfl,_,HG.out.1,HG.out.2.1,HG.out.2.2⟩
end Go.Proofs.YtkkbplakgldlpaaGreatDoor
