/- Parts, joined: A value's own text is read as that value. Plain. No condition. encode.Fits and the reference's. Condition: a bulk of at most 10^8. When a value has nothing. Plain. No condition. A patch's ops as data, and why a list of them may not be a patch. Plain. No condition. The object of a patch's op, the list of a patch: they may be. Plain. No condition. A value's parts; a value that may be is what its Kind says. Plain. No condition. mutator.zero, blank, beginning, must, pass, keyed. Condition: texts shorter than 10^9. Mutators as data, and why one may not be. Plain. No condition. Sealed bytes, spoilt once, are none; what is sealed. Plain. No condition. What was sealed, and a frame's body, or why it has none. Plain. No condition. What a reader of a whole text hands back, and the variable that holds its result. No condition. Pulls and answers: why they may not be, their objects' members. Plain. No condition. A mutator's nineteen cells. Plain. No condition. The reference's keys and its zero value. Condition: a bulk of at most 10^8. -/
import Derived.Test.YtkkbplakgldlpaaGreatDoorProg
import Derived.Deep.RegionWith
import Derived.WalkLawsBesides
import Derived.Test.YtkkbplakgldlpaaGreatDoorKMu1
import Derived.Test.YtkkbplakgldlpaaGreatDoorKMu2
import Derived.Test.YtkkbplakgldlpaaGreatDoorKMu6
import Derived.Test.YtkkbplakgldlpaaGreatDoorKMu14
import Derived.Test.YtkkbplakgldlpaaGreatDoorKMu17
import Derived.Test.YtkkbplakgldlpaaGreatDoorKMu18
import Derived.Test.YtkkbplakgldlpaaGreatDoorKMu19
import Derived.Test.YtkkbplakgldlpaaGreatDoorKMu21
namespace Go.Proofs.YtkkbplakgldlpaaGreatDoor
open Go.RowKit
end Go.Proofs.YtkkbplakgldlpaaGreatDoor

namespace Go.Proofs.YtkkbplakgldlpaaGreatDoor
open Go.RowKit
def fitsV (v:Val):Int:=if mayV v 1=0 then(if 16<deepV v then 5 else if 1024<(textV v).length then 6 else 0)else mayV v 1
set_option maxRecDepth 100000 in
set_option maxHeartbeats 2000000 in
theorem Fits_calls (v:Val) (cs:List Value) (w:World) (hT:Tabs w) (hV:HoldsV w w.heap.size v cs) (hb:v.bulk≤100000000) (hi:inV v):
 Calls Tryz.prog 63 #[.agg cs.toArray] w fun e w'=>e=.returned (.int .i64 (fitsV v))∧Below w.heap.size w w':=by
 have hV':=hV
 obtain⟨k,b,n,t,l,o⟩:=v
 simp only[HoldsV]at hV'
 obtain⟨la,lc,oa,oc,rfl,_,_⟩:=hV'
 have H1:=Lib.hid (Boxd.start hT hV)
 obtain⟨v,hv⟩: ∃v,Val.mk k b n t l o=v:=⟨_,rfl⟩
 rw[hv]at hi hb H1 ⊢
 have CM:=fun w' (h:Boxd w w.heap.size v (cells6 k b n t la l.length lc oa o.length oc) w')=>May_calls v _ w' h.tabs h.2.2.2 (by omega)
 unfold fitsV
 by_cases hm:mayV v 1=0
 · have hok:=okV_of v 1 hm hi
   have CB:=fun w' (h:Boxd w w.heap.size v (cells6 k b n t la l.length lc oa o.length oc) w')=>bytes_calls v _ w' h.tabs h.2.2.2 (by omega) hok
   have CD:=fun w' (h:Boxd w w.heap.size v (cells6 k b n t la l.length lc oa o.length oc) w')=>deep_calls v _ w' h.2.2.2 (by omega)
   rw[if_pos hm]
   rw[hm]at CM
   generalize (textV v).length=L at CB ⊢
   generalize deepV v=D at CD ⊢
   have HB:=Lib.hid CB
   have HD:=Lib.hid CD
   have HM:=Lib.hid CM
   clear CB CM CD hm hi hb hT hV hv hok
   by_cases hd:16<D
   · rw[if_pos hd]
     go_enter Tryz.func63,Tryz.ntmps63
     go_wp2_with (fail)
     with_reducible refine(HM.out _ H1.out).mono ?_
     rintro e w2 ⟨rfl,hb2⟩
     have H2:=Lib.hid (H1.out.step hb2)
     obtain⟨d0,d1,d2,d3,d4,d5⟩:=H2.out.cells
     clear hb2 H1
     go_wp2_with (fail)
     with_reducible refine(HD.out _ H2.out).mono ?_
     rintro e w3 ⟨rfl,hb3⟩
     have H3:=Lib.hid (H2.out.step hb3)
     clear d0 d1 d2 d3 d4 d5 hb3 H2
     go_wp2
     go_ret
     exact⟨rfl,H3.out.below⟩
   · rw[if_neg hd]
     by_cases hl:1024<L
     all_goals
      (first|rw[if_pos hl]|rw[if_neg hl])
      go_enter Tryz.func63,Tryz.ntmps63
      go_wp2_with (fail)
      with_reducible refine(HM.out _ H1.out).mono ?_
      rintro e w2 ⟨rfl,hb2⟩
      have H2:=Lib.hid (H1.out.step hb2)
      obtain⟨d0,d1,d2,d3,d4,d5⟩:=H2.out.cells
      clear hb2 H1
      go_wp2_with (fail)
      with_reducible refine(HD.out _ H2.out).mono ?_
      rintro e w3 ⟨rfl,hb3⟩
      have H3:=Lib.hid (H2.out.step hb3)
      clear d0 d1 d2 d3 d4 d5 hb3 H2
      obtain⟨d0,d1,d2,d3,d4,d5⟩:=H3.out.cells
      go_wp2_with (fail)
      with_reducible refine(HB.out _ H3.out).mono ?_
      rintro e w4 ⟨rfl,hb4⟩
      have H4:=Lib.hid (H3.out.step hb4)
      clear d0 d1 d2 d3 d4 d5 hb4 H3
      go_wp2
      go_ret
      exact⟨rfl,H4.out.below⟩
 · rw[if_neg hm]
   have hmb:(mayV v 1==0)=false:=by simpa using hm
   have hmn:(mayV v 1 != 0)=true:=by simpa using hm
   generalize mayV v 1=m at*
   have HM:=Lib.hid CM
   clear CM hm hi hb hT hV hv
   go_enter Tryz.func63,Tryz.ntmps63
   go_wp2_with (fail)
   with_reducible refine(HM.out _ H1.out).mono ?_
   rintro e w2 ⟨rfl,hb2⟩
   have H2:=Lib.hid (H1.out.step hb2)
   clear hb2 H1
   go_wp2
   go_ret
   exact⟨rfl,H2.out.below⟩
set_option maxRecDepth 100000 in
set_option maxHeartbeats 2000000 in
theorem RFits_calls (v:Val) (cs:List Value) (w:World) (hT:Tabs w) (hV:HoldsV w w.heap.size v cs) (hb:v.bulk≤100000000) (hi:inV v):
 Calls Tryz.prog 66 #[.agg cs.toArray] w fun e w'=>e=.returned (.int .i64 (fitsV v))∧Below w.heap.size w w':=by
 have hV':=hV
 obtain⟨k,b,n,t,l,o⟩:=v
 simp only[HoldsV]at hV'
 obtain⟨la,lc,oa,oc,rfl,_,_⟩:=hV'
 have H1:=Lib.hid (Boxd.start hT hV)
 obtain⟨v,hv⟩: ∃v,Val.mk k b n t l o=v:=⟨_,rfl⟩
 rw[hv]at hi hb H1 ⊢
 have CM:=fun w' (h:Boxd w w.heap.size v (cells6 k b n t la l.length lc oa o.length oc) w')=>RMay_calls v _ w' h.2.2.2 (by omega)
 unfold fitsV
 by_cases hm:mayV v 1=0
 · have CB:=fun w' (h:Boxd w w.heap.size v (cells6 k b n t la l.length lc oa o.length oc) w')=>rtext_calls v _ w' 1 h.2.2.2 (by omega) hm hi
   have CD:=fun w' (h:Boxd w w.heap.size v (cells6 k b n t la l.length lc oa o.length oc) w')=>rdeep_calls v _ w' h.2.2.2 (by omega)
   obtain⟨S,hS⟩: ∃S:ByteArray,(⟨(textV v).toArray⟩:ByteArray)=S:=⟨_,rfl⟩
   have hL:(textV v).length=S.size:=by rw[←hS,size_mk]
   rw[if_pos hm,hL]
   rw[hm]at CM
   rw[hS]at CB
   generalize deepV v=D at CD ⊢
   have HB:=Lib.hid CB
   have HD:=Lib.hid CD
   have HM:=Lib.hid CM
   clear CB CM CD hm hi hb hT hV hv hS hL
   by_cases hd:16<D
   · rw[if_pos hd]
     go_enter Tryz.func66,Tryz.ntmps66
     go_wp2_with (fail)
     with_reducible refine(HM.out _ H1.out).mono ?_
     rintro e w2 ⟨rfl,hb2⟩
     have H2:=Lib.hid (H1.out.step hb2)
     obtain⟨d0,d1,d2,d3,d4,d5⟩:=H2.out.cells
     clear hb2 H1
     go_wp2_with (fail)
     with_reducible refine(HD.out _ H2.out).mono ?_
     rintro e w3 ⟨rfl,hb3⟩
     have H3:=Lib.hid (H2.out.step hb3)
     clear d0 d1 d2 d3 d4 d5 hb3 H2
     go_wp2
     go_ret
     exact⟨rfl,H3.out.below⟩
   · rw[if_neg hd]
     by_cases hl:1024<S.size
     all_goals
      (first|rw[if_pos hl]|rw[if_neg hl])
      go_enter Tryz.func66,Tryz.ntmps66
      go_wp2_with (fail)
      with_reducible refine(HM.out _ H1.out).mono ?_
      rintro e w2 ⟨rfl,hb2⟩
      have H2:=Lib.hid (H1.out.step hb2)
      obtain⟨d0,d1,d2,d3,d4,d5⟩:=H2.out.cells
      clear hb2 H1
      go_wp2_with (fail)
      with_reducible refine(HD.out _ H2.out).mono ?_
      rintro e w3 ⟨rfl,hb3⟩
      have H3:=Lib.hid (H2.out.step hb3)
      clear d0 d1 d2 d3 d4 d5 hb3 H2
      obtain⟨d0,d1,d2,d3,d4,d5⟩:=H3.out.cells
      go_wp2_with (fail)
      with_reducible refine(HB.out _ H3.out).mono ?_
      rintro e w4 ⟨rfl,hb4⟩
      have H4:=Lib.hid (H3.out.step hb4)
      clear d0 d1 d2 d3 d4 d5 hb4 H3
      go_wp2
      go_ret
      exact⟨rfl,H4.out.below⟩
 · rw[if_neg hm]
   have hmb:(mayV v 1==0)=false:=by simpa using hm
   have hmn:(mayV v 1 != 0)=true:=by simpa using hm
   generalize mayV v 1=m at*
   have HM:=Lib.hid CM
   clear CM hm hi hb hT hV hv
   go_enter Tryz.func66,Tryz.ntmps66
   go_wp2_with (fail)
   with_reducible refine(HM.out _ H1.out).mono ?_
   rintro e w2 ⟨rfl,hb2⟩
   have H2:=Lib.hid (H1.out.step hb2)
   clear hb2 H1
   go_wp2
   go_ret
   exact⟨rfl,H2.out.below⟩
end Go.Proofs.YtkkbplakgldlpaaGreatDoor

namespace Go.Proofs.YtkkbplakgldlpaaGreatDoor
open Go.RowKit
def zero6B (k:Int) (b:Bool) (n:Int) (t:ByteArray) (ln on:Nat):Bool:=decide (k=0)&& !b&&decide (n=0)&&t.toList.isEmpty&&decide (ln=0)&&decide (on=0)
end Go.Proofs.YtkkbplakgldlpaaGreatDoor

namespace Go.Proofs.YtkkbplakgldlpaaGreatDoor
open Go.RowKit
structure POp where
 k:Int
 key:ByteArray
 v:Val
def keyB (k:ByteArray):Bool:= !k.toList.isEmpty&&(decide (k.size≤64)&&validB k)
def keyE (k:ByteArray):Int:=if k.toList.isEmpty then 8 else if 64<k.size then 6 else if validB k then 0 else 3
theorem keyE_zero (k:ByteArray):keyE k=0 ↔ keyB k=true:=by
 unfold keyE keyB
 cases k.toList.isEmpty<;>by_cases h:64<k.size<;>cases validB k<;>simp[h]<;>omega
def zeroB:Val→Bool
 | .mk k b n t l o=>zero6B k b n t l.length o.length
end Go.Proofs.YtkkbplakgldlpaaGreatDoor

namespace Go.Proofs.YtkkbplakgldlpaaGreatDoor
open Go.RowKit
abbrev nil0:ByteArray:=⟨#[]⟩
abbrev kKey:ByteArray:=⟨#[107,101,121]⟩
abbrev kVal:ByteArray:=⟨#[118,97,108,117,101]⟩
def tv (s:ByteArray):Val:=.mk 4 false 0 s [] []
def iv (n:Int):Val:=.mk 3 false n nil0 [] []
def lv (l:List Val):Val:=.mk 5 false 0 nil0 l []
def ov (o:List (ByteArray×Val)):Val:=.mk 6 false 0 nil0 [] o
theorem nil0_valid:validB nil0=true:=by decide
theorem odd_tv (s:ByteArray):oddB 4 false 0 s 0 0=false:=by simp[oddB]
theorem odd_iv (n:Int):oddB 3 false n nil0 0 0=false:=by simp[oddB,Lib.toList_data]
theorem odd_lv (n:Nat):oddB 5 false 0 nil0 n 0=false:=by simp[oddB,Lib.toList_data]
theorem odd_ov (n:Nat):oddB 6 false 0 nil0 0 n=false:=by simp[oddB,Lib.toList_data]
theorem may_mk {k:Int} {b:Bool} {n:Int} {t:ByteArray} {l:List Val} {o:List (ByteArray×Val)} {d:Int} (h1:oddB k b n t l.length o.length=false) (h2:d≤64) (h3:validB t=true) (h4:mayL l (d+1)=0) (h5:mayO o none (d+1)=0):mayV (.mk k b n t l o) d=0:=by
 simp only[mayV]
 rw[if_neg (by rw[h1];simp),if_neg (by omega),if_pos h3,if_pos h4]
 exact h5
theorem may_tv {s:ByteArray} {d:Int} (h:validB s=true) (hd:d≤64):mayV (tv s) d=0:=may_mk (odd_tv s) hd h (by simp[mayL]) (by simp[mayO])
theorem may_iv {n d:Int} (hd:d≤64):mayV (iv n) d=0:=may_mk (odd_iv n) hd nil0_valid (by simp[mayL]) (by simp[mayO])
theorem may_lv {l:List Val} {d:Int} (hd:d≤64) (h:mayL l (d+1)=0):mayV (lv l) d=0:=may_mk (odd_lv _) hd nil0_valid h (by simp[mayO])
theorem may_ov {o:List (ByteArray×Val)} {d:Int} (hd:d≤64) (h:mayO o none (d+1)=0):mayV (ov o) d=0:=may_mk (odd_ov _) hd nil0_valid (by simp[mayL]) h
theorem mayO_cons {key:ByteArray} {v:Val} {r:List (ByteArray×Val)} {d:Int} (hk:validB key=true) (hv:mayV v d=0) {last:Option ByteArray} (hl: ∀q,last=some q→leB key q=false) (hr:mayO r (some key) d=0):mayO ((key,v)::r) last d=0:=by
 have h1:mayP (key,v) last d=0:=by
  simp only[mayP]
  rw[if_pos hk]
  cases last with
  |none=>exact hv
  |some q=>
   simp only
   rw[if_neg (by rw[hl q rfl];simp)]
   exact hv
 simp only[mayO]
 rw[if_pos h1]
 exact hr
theorem keyB_valid {k:ByteArray} (h:keyB k=true):validB k=true:=by
 unfold keyB at h
 simp only[Bool.and_eq_true]at h
 exact h.2.2
theorem fits_parts {v:Val} (h:fitsV v=0):mayV v 1=0∧deepV v≤16∧(textV v).length≤1024:=by
 unfold fitsV at h
 by_cases h1:mayV v 1=0
 · rw[if_pos h1]at h
   by_cases h2:16<deepV v
   · rw[if_pos h2]at h;cases h
   rw[if_neg h2]at h
   by_cases h3:1024<(textV v).length
   · rw[if_pos h3]at h;cases h
   exact⟨h1,by omega,by omega⟩
 · rw[if_neg h1]at h
   exact absurd h h1
theorem mayL_ofQ {l:List Val} {d:Int} (h: ∀v ∈ l,mayV v d=0):mayL l d=0:=by
 induction l with
 |nil=>simp[mayL]
 |cons v r ih=>
  simp only[mayL]
  rw[if_pos (h v (by simp))]
  exact ih fun x hx=>h x (by simp[hx])
end Go.Proofs.YtkkbplakgldlpaaGreatDoor

namespace Go.Proofs.YtkkbplakgldlpaaGreatDoor
def kindV:Val→Int
 | .mk k _ _ _ _ _=>k
def intV':Val→Int
 | .mk _ _ n _ _ _=>n
def objV':Val→List (ByteArray×Val)
 | .mk _ _ _ _ _ o=>o
def txtV':Val→ByteArray
 | .mk _ _ _ t _ _=>t
def lstV':Val→List Val
 | .mk _ _ _ _ l _=>l
end Go.Proofs.YtkkbplakgldlpaaGreatDoor

namespace Go.Proofs.YtkkbplakgldlpaaGreatDoor
open Go.RowKit
set_option maxRecDepth 100000 in
theorem mzero_calls (k:Int) (b:Bool) (n:Int) (t:ByteArray) (la oa:Option Addr) (ln lc on oc:Nat) (B:Bool) (w:World) (h:zero6B k b n t ln on=B):
 Calls Tryz.prog 100 #[.agg #[.int .i64 k,.bool b,.int .i64 n,.string t,.slice la ln lc,.slice oa on oc]] w fun e w'=>e=.returned (.bool B)∧Below w.heap.size w w':=by
 have fin: ∀X:Bool,X=zero6B k b n t ln on→Ending.returned (.bool X)=.returned (.bool B):=fun X hX=>by rw[hX,h]
 have Fin:=Lib.hid fin
 clear fin h
 go_enter Tryz.func100,Tryz.ntmps100
 go_wp2
 all_goals(go_ret;refine⟨Fin.out _ ?_,alloc_below _ _⟩;simp_all[zero6B,beq_cast])
def endE (c:Int):Ending:=if c=0 then .returned (.tuple #[])else .panicked [{v:=.iface 85 (.agg #[.int .i64 c]),recovered:=false}]
theorem endE_zero:endE 0=.returned (.tuple #[]):=rfl
theorem endE_some {c:Int} (h:c≠0):endE c=.panicked [{v:=.iface 85 (.agg #[.int .i64 c]),recovered:=false}]:=by unfold endE;rw[if_neg h]
theorem must_yes (c:Int) (w:World):Calls Tryz.prog 59 #[.bool true,.int .i64 c] w fun e w'=>e=.returned (.tuple #[])∧w'=w:=by
 go_enter Tryz.func59,Tryz.ntmps59
 go_wp2
 go_end0
 exact⟨rfl,rfl⟩
theorem must_no (c:Int) (w:World):Calls Tryz.prog 59 #[.bool false,.int .i64 c] w fun e w'=>e=.panicked [{v:=.iface 85 (.agg #[.int .i64 c]),recovered:=false}]∧w'=w:=by
 go_enter Tryz.func59,Tryz.ntmps59
 go_wp2
 exact⟨rfl,rfl,rfl⟩
theorem pass_yes (w:World):Calls Tryz.prog 62 #[.int .i64 0] w fun e w'=>e=.returned (.tuple #[])∧w'=w:=by
 have h:=fun W=>must_yes 0 W
 go_enter Tryz.func62,Tryz.ntmps62
 go_wp2_with (go_at_call 59;(with_reducible refine(h _).mono ?_);rintro e w1 ⟨rfl,rfl⟩)
 go_end0
 exact⟨rfl,rfl⟩
theorem pass_no (c:Int) (hc:c≠0) (w:World):Calls Tryz.prog 62 #[.int .i64 c] w fun e w'=>e=.panicked [{v:=.iface 85 (.agg #[.int .i64 c]),recovered:=false}]∧w'=w:=by
 have h:=fun W=>must_no c W
 have t0:(c==0)=false:=by simpa using hc
 go_enter Tryz.func62,Tryz.ntmps62
 go_wp2_with (go_at_call 59;(with_reducible refine(h _).mono ?_);rintro e w1 ⟨rfl,rfl⟩)
 exact⟨rfl,rfl,rfl⟩
end Go.Proofs.YtkkbplakgldlpaaGreatDoor

namespace Go.Proofs.YtkkbplakgldlpaaGreatDoor
open Go.RowKit
inductive Mut where
 |mk (k:Int) (key dst:ByteArray) (n:Int) (had:Bool) (was:Val) (has:Bool) (v:Val) (l:List Mut)
theorem Mut.ind {p:Mut→Prop} (h: ∀k key dst n had was has v l,(∀m ∈ l,p m)→p (.mk k key dst n had was has v l)): ∀m,p m:=by
 intro m
 refine Mut.rec (motive_1:=p) (motive_2:=fun l=> ∀m ∈ l,p m) ?_ ?_ ?_ m
 · intro k key dst n had was has v l hl
   exact h _ _ _ _ _ _ _ _ _ hl
 · intro m hm
   cases hm
 · intro m r hm hr x hx
   rcases List.mem_cons.1 hx with rfl|hx
   · exact hm
   · exact hr x hx
mutual
def dM:Mut→D
 | .mk k key dst n had was has v l=> .agg [.leaf (.int .i64 k),.leaf (.string key),.leaf (.string dst),.leaf (.int .i64 n),.leaf (.bool had),dV was,.leaf (.bool has),dV v,.row 19 (dMs l)]
def dMs:List Mut→List D
 | []=> []
 |m::r=>dM m::dMs r
end
theorem dM_cells (m:Mut):(dM m).cells=19:=by
 cases m
 simp only[dM,D.cells,cellsA,dV_cells]
theorem dMs_map: ∀l:List Mut,dMs l=l.map dM
 | []=>rfl
 |m::r=>by simp only[dMs,List.map_cons,dMs_map r]
theorem dMs_cells (l:List Mut): ∀d ∈ dMs l,d.cells=19:=by
 intro d hd
 rw[dMs_map]at hd
 obtain⟨m,_,rfl⟩:=List.mem_map.1 hd
 exact dM_cells m
theorem dMs_len (l:List Mut):(dMs l).length=l.length:=by rw[dMs_map,List.length_map]
mutual
def bulkM:Mut→Nat
 | .mk _ key dst _ _ was _ v l=>8+key.size+dst.size+was.bulk+v.bulk+bulkMs l
def bulkMs:List Mut→Nat
 | []=>0
 |m::r=>bulkM m+bulkMs r
end
theorem bulkMs_mem {l:List Mut} {m:Mut} (h:m ∈ l):bulkM m≤bulkMs l:=by
 induction l with
 |nil=>cases h
 |cons x r ih=>
  simp only[bulkMs]
  rcases List.mem_cons.1 h with rfl|h
  · omega
  · have:=ih h;omega
theorem bulkMs_len (l:List Mut):8*l.length≤bulkMs l:=by
 induction l with
 |nil=>simp[bulkMs]
 |cons x r ih=>
  simp only[bulkMs,List.length_cons]
  have:8≤bulkM x:=by cases x;simp only[bulkM];omega
  omega
mutual
def inM:Mut→Prop
 | .mk _ _ _ n _ was _ v l=>(-9223372036854775808≤n∧n≤9223372036854775807)∧inV was∧inV v∧inMs l
def inMs:List Mut→Prop
 | []=>True
 |m::r=>inM m∧inMs r
end
theorem inMs_mem {l:List Mut} {m:Mut} (h:m ∈ l) (hi:inMs l):inM m:=by
 induction l with
 |nil=>cases h
 |cons x r ih=>
  simp only[inMs]at hi
  rcases List.mem_cons.1 h with rfl|h
  · exact hi.1
  · exact ih h hi.2
mutual
def sizeM:Mut→Nat
 | .mk _ _ _ _ _ _ _ _ l=>1+sizeMs l
def sizeMs:List Mut→Nat
 | []=>0
 |m::r=>sizeM m+sizeMs r
end
theorem sizeMs_app: ∀(a b:List Mut),sizeMs (a++b)=sizeMs a+sizeMs b
 | [],b=>by simp[sizeMs]
 |x::r,b=>by simp only[List.cons_append,sizeMs,sizeMs_app r b];omega
theorem sizeM_bulk: ∀m,8*sizeM m≤bulkM m:=by
 refine Mut.ind ?_
 intro k key dst n had was has v l hl
 have:8*sizeMs l≤bulkMs l:=by
  induction l with
  |nil=>simp[sizeMs,bulkMs]
  |cons x r ih=>
   have h1:=hl x (by simp)
   have h2:=ih (fun m hm=>hl m (by simp[hm]))
   simp only[sizeMs,bulkMs];omega
 simp only[sizeM,bulkM];omega
def bareF (k:Int) (dst:ByteArray) (n:Int) (had wasZ has valZ:Bool) (ln:Nat):Bool:=
 decide (1≤k)&&decide (k≤7)&&(decide (k=6)||dst.toList.isEmpty)&&(decide (k=3)||decide (n=0))&&(decide (k=4)||decide (k=7)|| !had)&&(decide (k=4)|| !has)&&(had||wasZ)&&(decide (k=1)||decide (k=5)||(decide (k=4)&&has)||valZ)&&(decide (k=7)||decide (ln=0))
def shortB (s:ByteArray):Bool:=decide (s.size≤64)&&validB s
def keyedB (k:Int) (key dst:ByteArray) (had:Bool):Bool:=if k=6 then shortB key&&shortB dst else if k=7∧key.toList.isEmpty=true then !had else keyB key
mutual
def mayM:Mut→Int→Int
 | .mk k key dst n had was has v l,d=>
   if bareF k dst n had (zeroB was) has (zeroB v) l.length=false then 9 else if 6<d then 5 else if keyedB k key dst had=false then 8
   else if had=true∧fitsV was≠0 then fitsV was else if(has||decide (k=1)||decide (k=5))=true∧fitsV v≠0 then fitsV v else mayMs l (d+1)
def mayMs:List Mut→Int→Int
 | [],_=>0
 |m::r,d=>if mayM m d=0 then mayMs r d else mayM m d
end
def mutMay (m:Mut):Int:=if 64<sizeM m then 6 else mayM m 1
theorem mayMs_drop {l:List Mut} {q:Nat} {m:Mut} (h:l[q]? =some m) (d:Int):mayMs (l.drop q) d=if mayM m d=0 then mayMs (l.drop (q+1)) d else mayM m d:=by
 obtain⟨hlt,rfl⟩:=List.getElem?_eq_some_iff.1 h
 rw[List.drop_eq_getElem_cons hlt]
 rfl
structure Num where
 id:Int
 m:Mut
end Go.Proofs.YtkkbplakgldlpaaGreatDoor

namespace Go.Proofs.YtkkbplakgldlpaaGreatDoor
end Go.Proofs.YtkkbplakgldlpaaGreatDoor

namespace Go.Proofs.YtkkbplakgldlpaaGreatDoor
end Go.Proofs.YtkkbplakgldlpaaGreatDoor

namespace Go.Proofs.YtkkbplakgldlpaaGreatDoor
open Go Go.RowKit
structure RBx (w W:World) (cs:Array Value):Prop where
 below:Below w.heap.size w W
 blk:Blk W w.heap.size 27 cs
theorem RBx.start (w:World):RBx w (w.alloc (.cells zero6 27)) zero6:=⟨alloc_below w _,Blk.new _ _ _⟩
theorem RBx.later {w W W':World} {cs:Array Value} (h:RBx w W cs) (t:Below W.heap.size W W'):RBx w W' cs:=⟨h.below.trans (t.mono h.below.size),h.blk.below t h.blk.lt⟩
theorem RBx.many {w W:World} {b0 b1 b2 b3 b4 b5:Value} (h:RBx w W #[b0,b1,b2,b3,b4,b5]) (a0 a1 a2 a3 a4 a5:Value):RBx w (setMany W w.heap.size 0 [a0,a1,a2,a3,a4,a5]) #[a0,a1,a2,a3,a4,a5]:=
 ⟨setMany_below _ h.below (Nat.le_refl _),((((((h.blk.set_ 0 a0).set_ 1 a1).set_ 2 a2).set_ 3 a3).set_ 4 a4).set_ 5 a5)⟩
def RefOut (w:World) (RES:Rd Val) (e:Ending) (w':World):Prop:=Below w.heap.size w w'∧match RES with
 | .ok v q=> ∃cs:List Value,e=.returned (.tuple #[.agg cs.toArray,.int .i64 (q:Nat),.int .i64 0])∧Fresh w.heap.size w' (dV v) cs
 | .bad c q=>e=.returned (.tuple #[.agg zero6,.int .i64 (q:Nat),.int .i64 c])
end Go.Proofs.YtkkbplakgldlpaaGreatDoor

namespace Go.Proofs.YtkkbplakgldlpaaGreatDoor
end Go.Proofs.YtkkbplakgldlpaaGreatDoor

namespace Go.Proofs.YtkkbplakgldlpaaGreatDoor
open Go.RowKit
theorem mut_cells {w:World} {B:Nat} {k:Int} {key dst:ByteArray} {n:Int} {had:Bool} {k1:Int} {b1:Bool} {n1:Int} {t1:ByteArray} {l1:List Val} {o1:List (ByteArray×Val)} {has:Bool} {k2:Int} {b2:Bool} {n2:Int} {t2:ByteArray} {l2:List Val} {o2:List (ByteArray×Val)} {l:List Mut} {cs:List Value} (h:Holds w B (dM (Mut.mk k key dst n had (.mk k1 b1 n1 t1 l1 o1) has (.mk k2 b2 n2 t2 l2 o2) l)) cs):
 ∃la1 lc1 oa1 oc1 la2 lc2 oa2 oc2 a c,cs= [.int .i64 k,.string key,.string dst,.int .i64 n,.bool had,.int .i64 k1,.bool b1,.int .i64 n1,.string t1,.slice la1 l1.length lc1,.slice oa1 o1.length oc1,.bool has,.int .i64 k2,.bool b2,.int .i64 n2,.string t2,.slice la2 l2.length lc2,.slice oa2 o2.length oc2,.slice a l.length c]∧HoldsV w B (.mk k1 b1 n1 t1 l1 o1) [.int .i64 k1,.bool b1,.int .i64 n1,.string t1,.slice la1 l1.length lc1,.slice oa1 o1.length oc1]∧HoldsV w B (.mk k2 b2 n2 t2 l2 o2) [.int .i64 k2,.bool b2,.int .i64 n2,.string t2,.slice la2 l2.length lc2,.slice oa2 o2.length oc2]∧Holds w B (.row 19 (dMs l)) [.slice a l.length c]:=by
 simp only[dM,Holds]at h
 obtain⟨_,_,rfl,⟨rfl,_⟩,_,_,rfl,⟨rfl,_⟩,_,_,rfl,⟨rfl,_⟩,_,_,rfl,⟨rfl,_⟩,_,_,rfl,⟨rfl,_⟩,x1,_,rfl,h1,_,_,rfl,⟨rfl,_⟩,x2,_,rfl,h2,x3,_,rfl,h3,rfl⟩:=h
 have g1:=holdsV_of _ _ h1
 have g2:=holdsV_of _ _ h2
 have e1:=g1
 have e2:=g2
 simp only[HoldsV]at e1 e2
 obtain⟨la1,lc1,oa1,oc1,rfl,_,_⟩:=e1
 obtain⟨la2,lc2,oa2,oc2,rfl,_,_⟩:=e2
 obtain⟨a,c,rfl,hs,hr⟩:=h3
 rw[dMs_len]
 exact⟨la1,lc1,oa1,oc1,la2,lc2,oa2,oc2,a,c,rfl,g1,g2,a,c,by rw[dMs_len],hs,hr⟩
theorem mut_at {w:World} {B n c:Nat} {l:List Mut} {a:Option Addr} (h:Holds w B (.row 19 (dMs l)) [.slice a n c]) {q:Nat} {m:Mut} (hi:l[q]? =some m):
 ∃g off,a=some ⟨g,off,none⟩∧g<B∧ ∃cs,Holds w B (dM m) cs∧cs.length=19∧ ∀j u,cs[j]? =some u→w.cell? ⟨g,off+q*19+j,none⟩=some u:=
 h.at_ (i:=q) (d:=dM m) (by rw[dMs_map,List.getElem?_map,hi];rfl)
theorem mcell19 {w:World} {g:Nat} {t:TypeId} {a0 a1 a2 a3 a4 a5 a6 a7 a8 a9 a10 a11 a12 a13 a14 a15 a16 a17 a18:Value} (h:Blk w g t #[a0,a1,a2,a3,a4,a5,a6,a7,a8,a9,a10,a11,a12,a13,a14,a15,a16,a17,a18]):
 w.cell? ⟨g,0,none⟩=some a0∧w.cell? ⟨g,1,none⟩=some a1∧w.cell? ⟨g,2,none⟩=some a2∧w.cell? ⟨g,3,none⟩=some a3∧w.cell? ⟨g,4,none⟩=some a4∧w.cell? ⟨g,5,none⟩=some a5∧w.cell? ⟨g,6,none⟩=some a6∧w.cell? ⟨g,7,none⟩=some a7∧w.cell? ⟨g,8,none⟩=some a8∧w.cell? ⟨g,9,none⟩=some a9∧w.cell? ⟨g,10,none⟩=some a10∧w.cell? ⟨g,11,none⟩=some a11∧w.cell? ⟨g,12,none⟩=some a12∧w.cell? ⟨g,13,none⟩=some a13∧w.cell? ⟨g,14,none⟩=some a14∧w.cell? ⟨g,15,none⟩=some a15∧w.cell? ⟨g,16,none⟩=some a16∧w.cell? ⟨g,17,none⟩=some a17∧w.cell? ⟨g,18,none⟩=some a18:=⟨h.cell 0,h.cell 1,h.cell 2,h.cell 3,h.cell 4,h.cell 5,h.cell 6,h.cell 7,h.cell 8,h.cell 9,h.cell 10,h.cell 11,h.cell 12,h.cell 13,h.cell 14,h.cell 15,h.cell 16,h.cell 17,h.cell 18⟩
theorem mut_len {w:World} {B:Nat} {m:Mut} {cs:List Value} (h:Holds w B (dM m) cs):cs.length=19:=h.len.1.trans (dM_cells m)
end Go.Proofs.YtkkbplakgldlpaaGreatDoor

namespace Go.Proofs.YtkkbplakgldlpaaGreatDoor
open Go.RowKit
theorem rkey_calls (s:ByteArray) (w:World) (hs:s.size≤1000000000):Calls Tryz.prog 107 #[.string s] w fun e w'=>e=.returned (.int .i64 (keyE s))∧w=w':=by
 obtain⟨B,hB⟩: ∃B,validB s=B:=⟨_,rfl⟩
 have hC:=fun W=>RValid_calls2 hB W hs
 have e0:s.toList.isEmpty=decide (s.size=0):=by
  rw[Lib.toList_data,Lib.size_eq];cases s.data.toList<;>simp
 have hE:keyE s=if s.size=0 then 8 else if 64<s.size then 6 else if B then 0 else 3:=by
  unfold keyE
  rw[e0,hB];simp
 have HC:=Lib.hid hC
 clear hC
 clear hB e0
 by_cases h0:s.size=0
 · rw[if_pos h0]at hE
   have t0:((s.size:Int)==0)=true:=by rw[beq_iff_eq];omega
   have HE:=Lib.hid hE
   clear hE
   clear h0
   go_enter Tryz.func107,Tryz.ntmps107
   go_wp2
   go_ret
   exact⟨by rw[HE.out];rfl,rfl⟩
 rw[if_neg h0]at hE
 have t0:((s.size:Int)==0)=false:=by rw[beq_eq_false_iff_ne];omega
 by_cases h1:64<s.size
 · rw[if_pos h1]at hE
   have t1:(64:Int)<(s.size:Int):=by omega
   have HE:=Lib.hid hE
   clear hE
   clear h0 h1
   go_enter Tryz.func107,Tryz.ntmps107
   go_wp2
   go_ret
   exact⟨by rw[HE.out];rfl,rfl⟩
 rw[if_neg h1]at hE
 have t1:(s.size:Int)≤64:=by omega
 have HE:=Lib.hid hE
 clear hE
 clear h0 h1
 cases B with
 |true=>
  go_enter Tryz.func107,Tryz.ntmps107
  go_wp2_with (go_at_call 84;(with_reducible refine(HC.out _).mono ?_);rintro e w2 ⟨rfl,rfl⟩)
  go_ret
  exact⟨by rw[HE.out];rfl,rfl⟩
 |false=>
  go_enter Tryz.func107,Tryz.ntmps107
  go_wp2_with (go_at_call 84;(with_reducible refine(HC.out _).mono ?_);rintro e w2 ⟨rfl,rfl⟩)
  go_ret
  exact⟨by rw[HE.out];rfl,rfl⟩
abbrev zeroV:Val:=.mk 0 false 0 ⟨#[]⟩ [] []
theorem zeroB_iff (v:Val):zeroB v=true ↔ v=zeroV:=by
 obtain⟨k,b,n,t,l,o⟩:=v
 simp only[zeroB,zero6B,Bool.and_eq_true,decide_eq_true_eq,Bool.not_eq_true',List.length_eq_zero_iff,List.isEmpty_iff,Val.mk.injEq]
 constructor
 · rintro⟨⟨⟨⟨⟨rfl,rfl⟩,rfl⟩,ht⟩,rfl⟩,rfl⟩
   refine⟨rfl,rfl,rfl, ?_,rfl,rfl⟩
   rw[Lib.toList_data]at ht
   exact ByteArray.ext (Array.ext' ht)
 · rintro⟨rfl,rfl,rfl,rfl,rfl,rfl⟩
   exact⟨⟨⟨⟨⟨rfl,rfl⟩,rfl⟩,by rw[Lib.toList_data]⟩,rfl⟩,rfl⟩
theorem holds_zero (w:World) (B:Nat):HoldsV w B zeroV [.int .i64 0,.bool false,.int .i64 0,.string ⟨#[]⟩,.slice none 0 0,.slice none 0 0]:=by
 simp only[HoldsV]
 exact⟨none,0,none,0,rfl,by simp,by simp⟩
theorem rzero_calls (v:Val) (cs:List Value) (w:World) (hV:HoldsV w w.heap.size v cs) (hb:v.bulk≤100000000) {B:Bool} (hB:zeroB v=B):
 Calls Tryz.prog 14 #[.agg cs.toArray,.agg #[.int .i64 0,.bool false,.int .i64 0,.string ⟨#[]⟩,.slice none 0 0,.slice none 0 0]] w fun e w'=>e=.returned (.bool B)∧Below w.heap.size w w':=by
 refine(req_calls v zeroV cs _ w hV (holds_zero _ _) hb (by simp[Val.bulk,bulkL,bulkO,ByteArray.size])).mono ?_
 rintro e w' ⟨X,rfl,hX,hb'⟩
 refine⟨?_,hb'⟩
 rw[←zeroB_iff,hB]at hX
 cases X<;>cases B<;>simp_all
end Go.Proofs.YtkkbplakgldlpaaGreatDoor
