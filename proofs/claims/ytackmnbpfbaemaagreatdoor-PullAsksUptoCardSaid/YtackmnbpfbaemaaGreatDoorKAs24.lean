/- Parts, joined: A value parameter in its box, and the calls on it. Condition: a bulk of at most 10^8. encode.Fits and the reference's. Condition: a bulk of at most 10^8. A patch's ops as data, and why a list of them may not be a patch. Plain. No condition. The object of a patch's op, the list of a patch: they may be. Plain. No condition. Pulls and answers: why they may not be, their objects' members. Plain. No condition. The tables and the two errors that the rows list: a world for the witnesses. No condition. parse.reader: comes, word, null, no, yes. Condition: a text of at most 10^9 bytes. An object's keys: it has just these names, if it has as many members and each is one of them; or if it has each of them and no more. Plain. No condition. Values that may be and have the same text are the same, the values. Plain. No condition. Rows that a call builds by append, whose data may share old memory. Plain. No condition. -/
import Derived.Test.YtackmnbpfbaemaaGreatDoorProg
import Derived.Deep.RegionWith
import Derived.Test.YtackmnbpfbaemaaGreatDoorChecked
import Derived.Test.YtackmnbpfbaemaaGreatDoorRows
import Derived.Lay
import Derived.Lib.LaidIn
import Derived.Lib.LaidU8T
import Derived.LaidSub
import Derived.Lib.ItoaNum
import Derived.Deep.DeepHandedRow
import Derived.ProofKit
import Derived.Test.YtackmnbpfbaemaaGreatDoorZShelf
import Derived.Test.YtackmnbpfbaemaaGreatDoorKAs7
import Derived.Test.YtackmnbpfbaemaaGreatDoorKAs11
import Derived.Test.YtackmnbpfbaemaaGreatDoorKAs13
import Derived.Test.YtackmnbpfbaemaaGreatDoorKAs15
import Derived.Test.YtackmnbpfbaemaaGreatDoorKAs16
import Derived.Test.YtackmnbpfbaemaaGreatDoorKAs18
import Derived.Test.YtackmnbpfbaemaaGreatDoorKAs19
namespace Go.Proofs.YtackmnbpfbaemaaGreatDoor
open Go.RowKit
def Boxd (w:World) (g:Nat) (v:Val) (c:List Value) (w':World):Prop:=
 Below w.heap.size w w'∧w'.heap[g]? =some (.cells c.toArray 39 (0,0))∧Tabs w'∧HoldsV w' w'.heap.size v c
theorem Boxd.step {w w' w'':World} {g:Nat} {v:Val} {c:List Value} (h:Boxd w g v c w') (hb:Below w'.heap.size w' w''):Boxd w g v c w'':=by
 obtain⟨h1,h2,h3,h4⟩:=h
 exact⟨h1.trans (hb.mono h1.size),(hb.block _ (Array.getElem?_eq_some_iff.1 h2).1).trans h2,h3.below hb,HoldsV.more hb.size _ _ (h4.below hb)⟩
theorem Boxd.start {w:World} {v:Val} {c:List Value} (hT:Tabs w) (hV:HoldsV w w.heap.size v c):Boxd w w.heap.size v c (w.alloc (.cells c.toArray 39)):=by
 have hb:Below w.heap.size w (w.alloc (.cells c.toArray 39)):=(Below.refl _ _).alloc (Nat.le_refl _) _
 exact⟨hb,heap_alloc_new _ _,hT.below hb,HoldsV.more hb.size _ _ (hV.below hb)⟩
theorem Boxd.cells {w w':World} {g:Nat} {v:Val} {k:Int} {b:Bool} {n:Int} {t:ByteArray} {x y:Value} (h:Boxd w g v [.int .i64 k, .bool b, .int .i64 n, .string t,x,y] w'):
 w'.cell? ⟨g,0,none⟩=some (.int .i64 k)∧w'.cell? ⟨g,1,none⟩=some (.bool b)∧w'.cell? ⟨g,2,none⟩=some (.int .i64 n)∧w'.cell? ⟨g,3,none⟩=some (.string t)∧w'.cell? ⟨g,4,none⟩=some x∧w'.cell? ⟨g,5,none⟩=some y:=
 box_cells h.2.1
theorem Boxd.tabs {w w':World} {g:Nat} {v:Val} {c:List Value} (h:Boxd w g v c w'):Tabs w':=h.2.2.1
theorem Boxd.below {w w':World} {g:Nat} {v:Val} {c:List Value} (h:Boxd w g v c w'):Below w.heap.size w w':=h.1
end Go.Proofs.YtackmnbpfbaemaaGreatDoor

namespace Go.Proofs.YtackmnbpfbaemaaGreatDoor
open Go.RowKit
def fitsV (v:Val):Int:=if mayV v 1=0 then(if 16<deepV v then 5 else if 1024<(textV v).length then 6 else 0)else mayV v 1
set_option maxRecDepth 100000 in
set_option maxHeartbeats 2000000 in
theorem Fits_calls (v:Val) (cs:List Value) (w:World) (hT:Tabs w) (hV:HoldsV w w.heap.size v cs) (hb:v.bulk≤100000000) (hi:inV v):
 Calls Tryz.prog 96 #[.agg cs.toArray] w fun e w'=>e= .returned (.int .i64 (fitsV v))∧Below w.heap.size w w':=by
 have hV':=hV
 obtain⟨k,b,n,t,l,o⟩:=v
 simp only[HoldsV]at hV'
 obtain⟨la,lc,oa,oc,rfl,_,_⟩:=hV'
 have H1:=Lib.hid (Boxd.start hT hV)
 obtain⟨v,hv⟩: ∃v,Val.mk k b n t l o=v:=⟨_,rfl⟩
 rw[hv]at hi hb H1 ⊢
 have CM:=fun w' (h:Boxd w w.heap.size v (cells6 k b n t la l.length lc oa o.length oc) w')=>May_calls v _ w' h.tabs h.2.2.2 (by omega)
 unfold fitsV
 by_cases hm:mayV v 1=0
 · have hok:=okV_of v 1 hm hi
   have CB:=fun w' (h:Boxd w w.heap.size v (cells6 k b n t la l.length lc oa o.length oc) w')=>bytes_calls v _ w' h.tabs h.2.2.2 (by omega) hok
   have CD:=fun w' (h:Boxd w w.heap.size v (cells6 k b n t la l.length lc oa o.length oc) w')=>deep_calls v _ w' h.2.2.2 (by omega)
   rw[if_pos hm]
   rw[hm]at CM
   generalize (textV v).length=L at CB ⊢
   generalize deepV v=D at CD ⊢
   have HB:=Lib.hid CB
   have HD:=Lib.hid CD
   have HM:=Lib.hid CM
   clear CB CM CD hm hi hb hT hV hv hok
   by_cases hd:16<D
   · rw[if_pos hd]
     go_enter Tryz.func96,Tryz.ntmps96
     go_wp2_with (fail)
     with_reducible refine(HM.out _ H1.out).mono ?_
     rintro e w2 ⟨rfl,hb2⟩
     have H2:=Lib.hid (H1.out.step hb2)
     obtain⟨d0,d1,d2,d3,d4,d5⟩:=H2.out.cells
     clear hb2 H1
     go_wp2_with (fail)
     with_reducible refine(HD.out _ H2.out).mono ?_
     rintro e w3 ⟨rfl,hb3⟩
     have H3:=Lib.hid (H2.out.step hb3)
     clear d0 d1 d2 d3 d4 d5 hb3 H2
     go_wp2
     go_ret
     exact⟨rfl,H3.out.below⟩
   · rw[if_neg hd]
     by_cases hl:1024<L
     all_goals
      (first|rw[if_pos hl]|rw[if_neg hl])
      go_enter Tryz.func96,Tryz.ntmps96
      go_wp2_with (fail)
      with_reducible refine(HM.out _ H1.out).mono ?_
      rintro e w2 ⟨rfl,hb2⟩
      have H2:=Lib.hid (H1.out.step hb2)
      obtain⟨d0,d1,d2,d3,d4,d5⟩:=H2.out.cells
      clear hb2 H1
      go_wp2_with (fail)
      with_reducible refine(HD.out _ H2.out).mono ?_
      rintro e w3 ⟨rfl,hb3⟩
      have H3:=Lib.hid (H2.out.step hb3)
      clear d0 d1 d2 d3 d4 d5 hb3 H2
      obtain⟨d0,d1,d2,d3,d4,d5⟩:=H3.out.cells
      go_wp2_with (fail)
      with_reducible refine(HB.out _ H3.out).mono ?_
      rintro e w4 ⟨rfl,hb4⟩
      have H4:=Lib.hid (H3.out.step hb4)
      clear d0 d1 d2 d3 d4 d5 hb4 H3
      go_wp2
      go_ret
      exact⟨rfl,H4.out.below⟩
 · rw[if_neg hm]
   have hmb:(mayV v 1==0)=false:=by simpa using hm
   have hmn:(mayV v 1 != 0)=true:=by simpa using hm
   generalize mayV v 1=m at*
   have HM:=Lib.hid CM
   clear CM hm hi hb hT hV hv
   go_enter Tryz.func96,Tryz.ntmps96
   go_wp2_with (fail)
   with_reducible refine(HM.out _ H1.out).mono ?_
   rintro e w2 ⟨rfl,hb2⟩
   have H2:=Lib.hid (H1.out.step hb2)
   clear hb2 H1
   go_wp2
   go_ret
   exact⟨rfl,H2.out.below⟩
end Go.Proofs.YtackmnbpfbaemaaGreatDoor

namespace Go.Proofs.YtackmnbpfbaemaaGreatDoor
open Go.RowKit
structure POp where
 k:Int
 key:ByteArray
 v:Val
def dQ (p:POp):D:= .agg [.leaf (.int .i64 p.k), .leaf (.string p.key),dV p.v]
theorem dQ_cells (p:POp):(dQ p).cells=8:=by simp only[dQ,D.cells,cellsA,dV_cells]
def dQs (l:List POp):List D:=l.map dQ
theorem dQs_cells (l:List POp): ∀d ∈ dQs l,d.cells=8:=by
 intro d hd
 obtain⟨v,_,rfl⟩:=List.mem_map.1 hd
 exact dQ_cells v
theorem dQs_len (l:List POp):(dQs l).length=l.length:=List.length_map ..
def bulkQ:List POp→Nat
 | []=>0
 |p::r=>2+p.key.size+p.v.bulk+bulkQ r
theorem bulkQ_mem {l:List POp} {p:POp} (h:p ∈ l):2+p.key.size+p.v.bulk≤bulkQ l:=by
 induction l with
 |nil=>cases h
 |cons x r ih=>
  simp only[bulkQ]
  rcases List.mem_cons.1 h with rfl|h
  · omega
  · have:=ih h;omega
theorem bulkQ_len (l:List POp):8*l.length≤bulkQ l:=by
 induction l with
 |nil=>simp[bulkQ]
 |cons x r ih=>simp only[bulkQ,List.length_cons];have:=x.v.bulk_pos;omega
def inQ (l:List POp):Prop:= ∀p ∈ l,inV p.v
def keyB (k:ByteArray):Bool:= !k.toList.isEmpty&&(decide (k.size≤64)&&validB k)
def keyE (k:ByteArray):Int:=if k.toList.isEmpty then 8 else if 64<k.size then 6 else if validB k then 0 else 3
theorem keyE_zero (k:ByteArray):keyE k=0 ↔ keyB k=true:=by
 unfold keyE keyB
 cases k.toList.isEmpty<;>by_cases h:64<k.size<;>cases validB k<;>simp[h]<;>omega
def zeroB:Val→Bool
 | .mk k b n t l o=>zero6B k b n t l.length o.length
def strangeB (p:POp):Bool:=if p.k=1 then false else if p.k=2 then !zeroB p.v else if p.k=3 then !p.key.toList.isEmpty|| !zeroB p.v else true
def followsB (q p:POp):Bool:=decide (p.k≠3)&&(decide (q.k=3)||Op.bytesLess q.key.toList p.key.toList)
def mayOps:Option POp→List POp→Int
 |_, []=>0
 |prev,p::r=>
  if strangeB p||prev.any (fun q=> !followsB q p)then 2
  else if p.k=3 then mayOps (some p) r
  else if keyB p.key=false then 8
  else if p.k=2 then mayOps (some p) r
  else if fitsV p.v=0 then mayOps (some p) r else fitsV p.v
end Go.Proofs.YtackmnbpfbaemaaGreatDoor

namespace Go.Proofs.YtackmnbpfbaemaaGreatDoor
open Go.RowKit
abbrev nil0:ByteArray:=⟨#[]⟩
abbrev kKey:ByteArray:=⟨#[107,101,121]⟩
abbrev kOp:ByteArray:=⟨#[111,112]⟩
abbrev kVal:ByteArray:=⟨#[118,97,108,117,101]⟩
abbrev sPut:ByteArray:=⟨#[112,117,116]⟩
abbrev sDel:ByteArray:=⟨#[100,101,108]⟩
abbrev sClear:ByteArray:=⟨#[99,108,101,97,114]⟩
def tv (s:ByteArray):Val:= .mk 4 false 0 s [] []
def iv (n:Int):Val:= .mk 3 false n nil0 [] []
def lv (l:List Val):Val:= .mk 5 false 0 nil0 l []
def ov (o:List (ByteArray×Val)):Val:= .mk 6 false 0 nil0 [] o
def objQ (p:POp):Val:=ov (if p.k=1 then [(kKey,tv p.key),(kOp,tv sPut),(kVal,p.v)]else if p.k=2 then [(kKey,tv p.key),(kOp,tv sDel)]else [(kOp,tv sClear)])
def listQ (l:List POp):Val:=lv (l.map objQ)
theorem nil0_valid:validB nil0=true:=by decide
theorem odd_tv (s:ByteArray):oddB 4 false 0 s 0 0=false:=by simp[oddB]
theorem odd_iv (n:Int):oddB 3 false n nil0 0 0=false:=by simp[oddB,Lib.toList_data]
theorem odd_lv (n:Nat):oddB 5 false 0 nil0 n 0=false:=by simp[oddB,Lib.toList_data]
theorem odd_ov (n:Nat):oddB 6 false 0 nil0 0 n=false:=by simp[oddB,Lib.toList_data]
theorem may_mk {k:Int} {b:Bool} {n:Int} {t:ByteArray} {l:List Val} {o:List (ByteArray×Val)} {d:Int} (h1:oddB k b n t l.length o.length=false) (h2:d≤64) (h3:validB t=true) (h4:mayL l (d+1)=0) (h5:mayO o none (d+1)=0):mayV (.mk k b n t l o) d=0:=by
 simp only[mayV]
 rw[if_neg (by rw[h1];simp),if_neg (by omega),if_pos h3,if_pos h4]
 exact h5
theorem may_tv {s:ByteArray} {d:Int} (h:validB s=true) (hd:d≤64):mayV (tv s) d=0:=may_mk (odd_tv s) hd h (by simp[mayL]) (by simp[mayO])
theorem may_iv {n d:Int} (hd:d≤64):mayV (iv n) d=0:=may_mk (odd_iv n) hd nil0_valid (by simp[mayL]) (by simp[mayO])
theorem may_lv {l:List Val} {d:Int} (hd:d≤64) (h:mayL l (d+1)=0):mayV (lv l) d=0:=may_mk (odd_lv _) hd nil0_valid h (by simp[mayO])
theorem may_ov {o:List (ByteArray×Val)} {d:Int} (hd:d≤64) (h:mayO o none (d+1)=0):mayV (ov o) d=0:=may_mk (odd_ov _) hd nil0_valid (by simp[mayL]) h
theorem mayO_cons {key:ByteArray} {v:Val} {r:List (ByteArray×Val)} {d:Int} (hk:validB key=true) (hv:mayV v d=0) {last:Option ByteArray} (hl: ∀q,last=some q→leB key q=false) (hr:mayO r (some key) d=0):mayO ((key,v)::r) last d=0:=by
 have h1:mayP (key,v) last d=0:=by
  simp only[mayP]
  rw[if_pos hk]
  cases last with
  |none=>exact hv
  |some q=>
   simp only
   rw[if_neg (by rw[hl q rfl];simp)]
   exact hv
 simp only[mayO]
 rw[if_pos h1]
 exact hr
def okQ (p:POp):Prop:=(p.k=1∧keyB p.key=true∧fitsV p.v=0)∨(p.k=2∧keyB p.key=true)∨p.k=3
theorem mayOps_all: ∀{l:List POp} {prev:Option POp},mayOps prev l=0→ ∀p ∈ l,okQ p
 |p::r,prev,h,x,hx=>by
  simp only[mayOps]at h
  by_cases h1:(strangeB p||prev.any fun q=> !followsB q p)=true
  · rw[if_pos h1]at h;cases h
  rw[if_neg h1]at h
  by_cases h3:p.k=3
  · rw[if_pos h3]at h
    rcases List.mem_cons.1 hx with rfl|hx
    · exact .inr (.inr h3)
    · exact mayOps_all h x hx
  rw[if_neg h3]at h
  by_cases hk:keyB p.key=false
  · rw[if_pos hk]at h;cases h
  rw[if_neg hk]at h
  have hk':keyB p.key=true:=by simpa using hk
  by_cases h2:p.k=2
  · rw[if_pos h2]at h
    rcases List.mem_cons.1 hx with rfl|hx
    · exact .inr (.inl ⟨h2,hk'⟩)
    · exact mayOps_all h x hx
  rw[if_neg h2]at h
  by_cases hf:fitsV p.v=0
  · rw[if_pos hf]at h
    rcases List.mem_cons.1 hx with rfl|hx
    · refine .inl ⟨?_,hk',hf⟩
      have h1':strangeB x=false:=by
       cases e:strangeB x with
       |false=>rfl
       |true=>rw[e]at h1;simp at h1
      unfold strangeB at h1'
      by_cases h11:x.k=1
      · exact h11
      · rw[if_neg h11,if_neg h2,if_neg h3]at h1';cases h1'
    · exact mayOps_all h x hx
  · rw[if_neg hf]at h
    exact absurd h hf
theorem keyB_valid {k:ByteArray} (h:keyB k=true):validB k=true:=by
 unfold keyB at h
 simp only[Bool.and_eq_true]at h
 exact h.2.2
theorem fits_parts {v:Val} (h:fitsV v=0):mayV v 1=0∧deepV v≤16∧(textV v).length≤1024:=by
 unfold fitsV at h
 by_cases h1:mayV v 1=0
 · rw[if_pos h1]at h
   by_cases h2:16<deepV v
   · rw[if_pos h2]at h;cases h
   rw[if_neg h2]at h
   by_cases h3:1024<(textV v).length
   · rw[if_pos h3]at h;cases h
   exact⟨h1,by omega,by omega⟩
 · rw[if_neg h1]at h
   exact absurd h h1
theorem may_objQ {p:POp} {d:Int} (h:okQ p) (hd:d≤40):mayV (objQ p) d=0:=by
 have v1:validB kKey=true:=by decide
 have v2:validB kOp=true:=by decide
 have v3:validB kVal=true:=by decide
 have w1:validB sPut=true:=by decide
 have w2:validB sDel=true:=by decide
 have w3:validB sClear=true:=by decide
 have l1:leB kOp kKey=false:=by decide+kernel
 have l2:leB kVal kOp=false:=by decide+kernel
 unfold objQ
 refine may_ov (by omega) ?_
 rcases h with⟨h,hk,hf⟩|⟨h,hk⟩|h
 · rw[if_pos h]
   obtain⟨f1,f2,_⟩:=fits_parts hf
   exact mayO_cons v1 (may_tv (keyB_valid hk) (by omega)) (fun _ e=>by cases e) (mayO_cons v2 (may_tv w1 (by omega)) (fun q e=>by cases e;exact l1) (mayO_cons v3 (mayV_deeper p.v _ 1 f1 (by omega)) (fun q e=>by cases e;exact l2) (by simp[mayO])))
 · rw[if_neg (by omega),if_pos h]
   exact mayO_cons v1 (may_tv (keyB_valid hk) (by omega)) (fun _ e=>by cases e) (mayO_cons v2 (may_tv w2 (by omega)) (fun q e=>by cases e;exact l1) (by simp[mayO]))
 · rw[if_neg (by omega),if_neg (by omega)]
   exact mayO_cons v2 (may_tv w3 (by omega)) (fun _ e=>by cases e) (by simp[mayO])
theorem mayL_ofQ {l:List Val} {d:Int} (h: ∀v ∈ l,mayV v d=0):mayL l d=0:=by
 induction l with
 |nil=>simp[mayL]
 |cons v r ih=>
  simp only[mayL]
  rw[if_pos (h v (by simp))]
  exact ih fun x hx=>h x (by simp[hx])
theorem may_listQ {l:List POp} {d:Int} (h: ∀p ∈ l,okQ p) (hd:d≤39):mayV (listQ l) d=0:=by
 refine may_lv (by omega) (mayL_ofQ fun v hv=> ?_)
 obtain⟨p,hp,rfl⟩:=List.mem_map.1 hv
 exact may_objQ (h p hp) (by omega)
theorem in_objQ {p:POp} (h:inV p.v):inV (objQ p):=by
 unfold objQ ov
 simp only[inV]
 refine⟨by omega,by simp[inL], ?_⟩
 have ht: ∀s,inV (tv s):=fun s=>by simp only[tv,inV,inL,inO];exact⟨by omega,trivial,trivial⟩
 by_cases h1:p.k=1
 · rw[if_pos h1];exact⟨ht p.key,ht sPut,h,trivial⟩
 · rw[if_neg h1]
   by_cases h2:p.k=2
   · rw[if_pos h2];exact⟨ht p.key,ht sDel,trivial⟩
   · rw[if_neg h2];exact⟨ht sClear,trivial⟩
theorem in_listQ {l:List POp} (h:inQ l):inV (listQ l):=by
 unfold listQ lv
 simp only[inV]
 refine⟨by omega, ?_,by simp[inO]⟩
 induction l with
 |nil=>simp[inL]
 |cons p r ih=>
  simp only[List.map_cons,inL]
  exact⟨in_objQ (h p (by simp)),ih fun x hx=>h x (by simp[hx])⟩
theorem bulk_objQ (p:POp):(objQ p).bulk≤60+p.key.size+p.v.bulk:=by
 have e1:(⟨#[]⟩:ByteArray).size=0:=rfl
 have e2:kKey.size=3:=rfl
 have e3:kOp.size=2:=rfl
 have e4:kVal.size=5:=rfl
 have e5:sPut.size=3:=rfl
 have e6:sDel.size=3:=rfl
 have e7:sClear.size=5:=rfl
 unfold objQ ov
 split
 · simp only[Val.bulk,bulkL,bulkO,bulkP,tv,e1,e2,e3,e4,e5];omega
 · split
   · simp only[Val.bulk,bulkL,bulkO,bulkP,tv,e1,e2,e3,e6];omega
   · simp only[Val.bulk,bulkL,bulkO,bulkP,tv,e1,e3,e7];omega
theorem bulk_listQ (l:List POp):(listQ l).bulk≤6+60*l.length+bulkQ l:=by
 have e1:(⟨#[]⟩:ByteArray).size=0:=rfl
 have h:bulkL (l.map objQ)≤60*l.length+bulkQ l:=by
  induction l with
  |nil=>simp[bulkL]
  |cons p r ih=>
   have:=bulk_objQ p
   simp only[List.map_cons,bulkL,bulkQ,List.length_cons]
   omega
 unfold listQ lv
 simp only[Val.bulk,bulkO,e1]
 omega
end Go.Proofs.YtackmnbpfbaemaaGreatDoor

namespace Go.Proofs.YtackmnbpfbaemaaGreatDoor
def mayReq (c k:Int):Int:=if 0<c∧c≤4611686018427387903∧k≤4611686018427387903 then 0 else 2
def mayResp (c b k s:Int) (l:List POp):Int:=if 0<c∧c≤4611686018427387903∧b≤4611686018427387903∧k≤4611686018427387903∧s≤4611686018427387903 then mayOps none l else 2
abbrev kClient:ByteArray:=⟨#[99,108,105,101,110,116]⟩
abbrev kCookie:ByteArray:=⟨#[99,111,111,107,105,101]⟩
abbrev kBase:ByteArray:=⟨#[98,97,115,101]⟩
abbrev kLast:ByteArray:=⟨#[108,97,115,116]⟩
abbrev kPatch:ByteArray:=⟨#[112,97,116,99,104]⟩
def reqO (c k:Int):List (ByteArray×Val):= [(kClient,iv c),(kCookie,iv k)]
def respO (c b k s:Int) (l:List POp):List (ByteArray×Val):= [(kBase,iv b),(kClient,iv c),(kCookie,iv k),(kLast,iv s),(kPatch,listQ l)]
end Go.Proofs.YtackmnbpfbaemaaGreatDoor

namespace Go.Proofs.YtackmnbpfbaemaaGreatDoor
open Go.RowKit Go.ChangeShapes Go.WideShapes Go.ChangeAt
theorem own_knob:ownKnob Tryz.prog.godebug=none:=by kernel_rfl
noncomputable def laidWorld (os:Os):World:=World.laidAll Tryz.prog os Rows.pullReadsRow.laid
theorem laid_first:Rows.laid_unicode_utf8_first=Lib.firstData:=by kernel_rfl
theorem laid_accept:Rows.laid_unicode_utf8_acceptRanges (H:=Unit)=Lib.acceptData:=by kernel_rfl
theorem laid_pow10:Rows.laid_internal_strconv_uint64pow10 (H:=Unit)=Lib.tabData .u64 Lib.pow10Tab:=by kernel_rfl
theorem laid_met (os:Os) (args:Array Value):laidMet Tryz.prog Rows.pullReadsRow.laid ((laidWorld os).forCall (fun _ _=>0) ⟨#[],args, []⟩).memory:=
 laidMet_laidAll _ (by kernel_rfl) (by kernel_rfl)
end Go.Proofs.YtackmnbpfbaemaaGreatDoor

namespace Go.Proofs.YtackmnbpfbaemaaGreatDoor
open Go Go.RowKit
def UPost (R g:Nat) (s:ByteArray) (w:World) (r:Rd Val) (e:Ending) (w':World):Prop:=match r with
 | .ok _ q=>e= .returned (.tuple #[])∧RdTo R g s q w w'
 | .bad c q=>e=faultE c q∧w.grownBy w' (some R)
set_option maxRecDepth 100000 in
set_option maxHeartbeats 4000000 in
theorem word_calls (R g:Nat) (s t:ByteArray) (k:Nat) (v:Val) (w:World) (hs:s.size≤1000000000) (hk:k≤s.size) (ht:t.size≤100) (h:RdB w R g s k):
 Calls Tryz.prog 200 #[.pointer (some ⟨R,0,none⟩), .string t] w (UPost R g s w (wordAt s.data.toList k t.data.toList v)):=by
 have hext:(s.extract k s.size).data.toList=s.data.toList.drop k:=by
  rw[Lib.extract_data]
  exact List.take_of_length_le (by rw[List.length_drop,size_toList];omega)
 have hH:=fun W=>Tryz.strings_HasPrefix (s.extract k s.size) t W
 rw[hext]at hH
 have hB:Lib.hasPrefix (s.data.toList.drop k) t.data.toList=t.data.toList.isPrefixOf (s.data.toList.drop k):=rfl
 rw[hB]at hH
 clear hB hext
 have i0:(0:Int)≤(k:Int):=by omega
 have i1:(k:Int)≤(s.size:Int):=by omega
 obtain⟨c0,c1,_,f1,hR⟩:=h.cells
 have H:=Lib.hid h
 clear h
 unfold wordAt
 cases hp:t.data.toList.isPrefixOf (s.data.toList.drop k)with
 |true=>
  rw[hp]at hH
  rw[if_pos rfl,size_toList]
  have hle:k+t.size≤s.size:=by
   have:=(List.isPrefixOf_iff_prefix.1 hp).length_le
   rw[List.length_drop,size_toList,size_toList]at this;omega
  clear hp
  have HH:=Lib.hid hH
  clear hH
  go_enter Tryz.func200,Tryz.ntmps200
  go_wp2
  go_quiet ((go_at_call 223;exact Calls.quiet_of_same (HH.out _)))
  go_wp2
  go_end0
  exact⟨rfl,((RdTo.refl H.out).drewN _).set _⟩
 |false=>
  rw[hp]at hH
  rw[if_neg (by decide)]
  clear hp
  have hW:=fun W=>wrong_calls (.pointer (some ⟨R,0,none⟩)) 4 k W
  have HH:=Lib.hid hH
  have HW:=Lib.hid hW
  clear hH hW
  go_enter Tryz.func200,Tryz.ntmps200
  go_wp2
  go_quiet ((go_at_call 223;exact Calls.quiet_of_same (HH.out _)))
  go_wp2_with (fail)
  with_reducible refine(HW.out _).mono ?_
  rintro e w1 ⟨rfl,rfl⟩
  exact⟨rfl,rfl,grownBy_drewN (World.grownBy.refl _ _) _⟩
end Go.Proofs.YtackmnbpfbaemaaGreatDoor

namespace Go.Proofs.YtackmnbpfbaemaaGreatDoor
abbrev ascK (l:List ByteArray):Prop:=l.Pairwise fun a b=>ltB a b=true
theorem ascK_of {o:List (ByteArray×Val)} (h:ascO o):ascK (o.map (·.1)):=List.pairwise_map.2 h
theorem asc_sub: ∀(b:List ByteArray) {a:List ByteArray},ascK a→ascK b→(∀x ∈ a,x ∈ b)→a.Sublist b
 | [],a,_,_,h=>by
   cases a with
   |nil=>exact .slnil
   |cons x r=>exact absurd (h x (by simp)) (by simp)
 |y::b, [],_,_,_=>List.nil_sublist _
 |y::b,x::a,ha,hb,h=>by
  obtain⟨ha1,ha2⟩:=List.pairwise_cons.1 ha
  obtain⟨hb1,hb2⟩:=List.pairwise_cons.1 hb
  by_cases e:x=y
  · subst e
    refine(asc_sub b ha2 hb2 fun z hz=> ?_).cons_cons x
    rcases List.mem_cons.1 (h z (List.mem_cons_of_mem _ hz))with rfl|hm
    · have:=ha1 z hz
      rw[ltB_irrefl]at this
      cases this
    · exact hm
  · have hx:x ∈ b:=by
     rcases List.mem_cons.1 (h x (by simp))with e2|hm
     · exact absurd e2 e
     · exact hm
    have hyx:=hb1 x hx
    refine(asc_sub b ha hb2 fun z hz=> ?_).cons y
    rcases List.mem_cons.1 (h z hz)with e2|hm
    · subst e2
      rcases List.mem_cons.1 hz with e3|hz2
      · exact absurd e3.symm e
      · have h3:=ltB_trans hyx (ha1 z hz2)
        rw[ltB_irrefl]at h3
        cases h3
    · exact hm
theorem asc_same {a b:List ByteArray} (ha:ascK a) (hb:ascK b) (h: ∀x ∈ a,x ∈ b) (hl:a.length=b.length):a=b:=(asc_sub b ha hb h).eq_of_length hl
theorem keys_are {o:List (ByteArray×Val)} {names:List ByteArray} (ho:ascO o) (hn:ascK names):
 (o.length=names.length∧ ∀p ∈ o,p.1 ∈ names) ↔ o.map (·.1)=names:=by
 constructor
 · rintro⟨hl,hm⟩
   refine asc_same (ascK_of ho) hn (fun x hx=> ?_) (by rw[List.length_map];exact hl)
   obtain⟨p,hp,rfl⟩:=List.mem_map.1 hx
   exact hm p hp
 · rintro rfl
   exact⟨by rw[List.length_map],fun p hp=>List.mem_map.2 ⟨p,hp,rfl⟩⟩
end Go.Proofs.YtackmnbpfbaemaaGreatDoor

namespace Go.Proofs.YtackmnbpfbaemaaGreatDoor
open Go.RowKit
theorem odd_bn {k:Int} {b:Bool} {n:Int} {t:ByteArray} {ln on:Nat} (h:oddB k b n t ln on=false):(k=2∨b=false)∧(k=3∨n=0):=by
 unfold oddB at h
 by_cases h1:k=1
 · subst h1;simp at h;exact⟨.inr h.1.1.1.1, .inr h.1.1.1.2⟩
 by_cases h2:k=2
 · subst h2;simp at h;exact⟨.inl rfl, .inr h.1.1.1⟩
 by_cases h3:k=3
 · subst h3;simp at h;exact⟨.inr h.1.1.1, .inl rfl⟩
 by_cases h4:k=4
 · subst h4;simp at h;exact⟨.inr h.1.1.1, .inr h.1.1.2⟩
 by_cases h5:k=5
 · subst h5;simp at h;exact⟨.inr h.1.1.1, .inr h.1.1.2⟩
 by_cases h6:k=6
 · subst h6;simp at h;exact⟨.inr h.1.1.1, .inr h.1.1.2⟩
 simp[h1,h2,h3,h4,h5,h6]at h
theorem digs_range (u:Nat): ∀c ∈ digs u,48≤c.toNat∧c.toNat≤57:=by
 induction u using Nat.strongRecOn with
 |_ u ih=>
  intro c hc
  by_cases h:u=0
  · subst h
    rw[digs_zero]at hc
    cases hc
  · rw[digs_pos h]at hc
    rcases List.mem_append.1 hc with hc|hc
    · exact ih (u / 10) (by omega) c hc
    · simp only[List.mem_singleton]at hc
      subst hc
      have: ∀d:Fin 10,48≤(dgt d.val).toNat∧(dgt d.val).toNat≤57:=by decide
      exact this ⟨u % 10,by omega⟩
def numD (l:List UInt8):Nat:=l.foldl (fun a c=>a*10+(c.toNat - 48)) 0
theorem numD_digs (u:Nat):numD (digs u)=u:=by
 induction u using Nat.strongRecOn with
 |_ u ih=>
  by_cases h:u=0
  · subst h;rw[digs_zero];rfl
  · rw[digs_pos h]
    unfold numD
    rw[List.foldl_append]
    have:=ih (u / 10) (by omega)
    unfold numD at this
    rw[this]
    have hd: ∀d:Fin 10,(dgt d.val).toNat - 48=d.val:=by decide
    have:=hd ⟨u % 10,by omega⟩
    simp only[List.foldl_cons,List.foldl_nil]
    simp only at this
    omega
theorem itoa_range (n:Int): ∀c ∈ Lib.itoa n,c.toNat=45∨(48≤c.toNat∧c.toNat≤57):=by
 intro c hc
 by_cases h:n<0
 · have e:Lib.itoa n=45::digs n.natAbs:=by rw[Lib.itoa,if_pos h,digs_dec _ (by omega)]
   rw[e]at hc
   rcases List.mem_cons.1 hc with rfl|hc
   · exact .inl rfl
   · exact .inr (digs_range _ c hc)
 · by_cases h0:n=0
   · subst h0
     have e:Lib.itoa 0= [48]:=by
      rw[Lib.itoa,if_neg (by omega)]
      exact Lib.decDigits_one (i:=0) (by omega)
     rw[e]at hc
     simp only[List.mem_singleton]at hc
     subst hc
     exact .inr (by decide)
   · have e:Lib.itoa n=digs n.toNat:=by rw[Lib.itoa,if_neg h,digs_dec _ (by omega)]
     rw[e]at hc
     exact .inr (digs_range _ c hc)
end Go.Proofs.YtackmnbpfbaemaaGreatDoor

namespace Go.Proofs.YtackmnbpfbaemaaGreatDoor
open Go Go.RowKit
def HoldsIn (S:Nat→Prop) (w:World) (d:D) (cs:List Value):Prop:=
 ∀w'':World,w.heap.size≤w''.heap.size→(∀p:Addr,S p.block→p.block<w.heap.size→w''.cell? p=w.cell? p)→Holds w'' w.heap.size d cs
def HoldsInA (S:Nat→Prop) (w:World) (l:List D) (cs:List Value):Prop:=
 ∀w'':World,w.heap.size≤w''.heap.size→(∀p:Addr,S p.block→p.block<w.heap.size→w''.cell? p=w.cell? p)→HoldsA w'' w.heap.size l cs
theorem HoldsIn.now {S:Nat→Prop} {w:World} {d:D} {cs:List Value} (h:HoldsIn S w d cs):Holds w w.heap.size d cs:=h w (Nat.le_refl _) fun _ _ _=>rfl
theorem HoldsInA.now {S:Nat→Prop} {w:World} {l:List D} {cs:List Value} (h:HoldsInA S w l cs):HoldsA w w.heap.size l cs:=h w (Nat.le_refl _) fun _ _ _=>rfl
theorem HoldsIn.mono {S T:Nat→Prop} {w:World} {d:D} {cs:List Value} (h:HoldsIn S w d cs) (hST: ∀i,i<w.heap.size→S i→T i):HoldsIn T w d cs:=
 fun w'' h1 h2=>h w'' h1 fun p p1 p2=>h2 p (hST _ p2 p1) p2
theorem HoldsIn.later {S:Nat→Prop} {w w':World} {d:D} {cs:List Value} (h:HoldsIn S w d cs) (hs:w.heap.size≤w'.heap.size) (hk: ∀p:Addr,S p.block→p.block<w.heap.size→w'.cell? p=w.cell? p):HoldsIn S w' d cs:=fun w'' h1 h2=>
 (h w'' (Nat.le_trans hs h1) fun p p1 p2=>(h2 p p1 (Nat.lt_of_lt_of_le p2 hs)).trans (hk p p1 p2)).more hs
theorem HoldsIn.below {S:Nat→Prop} {w w':World} {d:D} {cs:List Value} (h:HoldsIn S w d cs) (hb:Below w.heap.size w w'):HoldsIn S w' d cs:=h.later hb.size fun _ _ p2=>hb.cell p2
theorem HoldsInA.one {S:Nat→Prop} {w:World} {d:D} {cs:List Value} (h:HoldsIn S w d cs):HoldsInA S w [d] cs:=fun w'' h1 h2=>HoldsA.one (h w'' h1 h2)
theorem HoldsInA.app {S:Nat→Prop} {w:World} {l r:List D} {cs es:List Value} (h:HoldsInA S w l cs) (k:HoldsInA S w r es):HoldsInA S w (l++r) (cs++es):=fun w'' h1 h2=>(h w'' h1 h2).app (k w'' h1 h2)
theorem HoldsIn.blk {S:Nat→Prop} {w:World} {g:Nat} {t:TypeId} {cs:Array Value} {l:List D} {s n c:Nat} (h:Blk w g t cs) (hS:S g) (hs: ∀d ∈ l,d.cells=s) (hA:HoldsInA S w l cs.toList) (hn:n=l.length):HoldsIn S w (.row s l) [.slice (some ⟨g,0,none⟩) n c]:=by
 subst hn
 intro w'' h1 h2
 exact⟨_,c,rfl,hs,cs.toList,hA w'' h1 h2, .inr ⟨g,0,rfl,h.lt,fun j u hu=>by
  rw[Nat.zero_add,h2 ⟨g,j,none⟩ hS h.lt]
  exact(h.cell j).trans (by rw[←Array.getElem?_toList];exact hu)⟩⟩
def RowX (S0:Nat→Prop) (b:Nat) (t:TypeId) (s:Nat) (wr:World) (l:List D) (V:Value):Prop:=
 ∃ns,wr.ownsRow b t s V l.length ns∧(∀d ∈ l,d.cells=s)∧HoldsInA (fun i=>S0 i∧V.ownBlock≠some i) wr l ns
theorem RowX.nil (S0:Nat→Prop) (b:Nat) (t:TypeId) (s:Nat) (wr:World):RowX S0 b t s wr [] (.slice none 0 0):=⟨[],World.ownsRow_nil _ _ _ _,fun d hd=>(by cases hd),fun _ _ _=>rfl⟩
theorem RowX.base {S0:Nat→Prop} {b:Nat} {t:TypeId} {s:Nat} {wr:World} {l:List D} {V:Value} (h:RowX S0 b t s wr l V): ∀g,V.ownBlock=some g→b≤g∧g<wr.heap.size:=by
 obtain⟨ns,h1,_⟩:=h
 exact h1.lt
theorem RowX.keep {S0:Nat→Prop} {b:Nat} {t:TypeId} {s:Nat} {wr w':World} {l:List D} {V:Value} (h:RowX S0 b t s wr l V) (hs:wr.heap.size≤w'.heap.size) (hk: ∀i,i<wr.heap.size→w'.heap[i]? =wr.heap[i]?):RowX S0 b t s w' l V:=by
 obtain⟨ns,h1,h2,h3⟩:=h
 refine⟨ns,⟨h1.1, ?_⟩,h2,fun w'' k1 k2=>HoldsA.more (h3 w'' (by omega) (fun p p1 p2=>(k2 p p1 (by omega)).trans (World.cell?_of_block (hk p.block p2)))) hs⟩
 rcases h1.2 with⟨rfl,h0⟩|⟨g,cap,cur,rfl,hbg,hg,h5⟩
 · exact .inl ⟨rfl,h0⟩
 · exact .inr ⟨g,cap,cur,rfl,hbg,(hk g (Array.getElem?_eq_some_iff.1 hg).1).trans hg,h5⟩
theorem RowX.below {S0:Nat→Prop} {b:Nat} {t:TypeId} {s:Nat} {wr w':World} {l:List D} {V:Value} (h:RowX S0 b t s wr l V) (hb:Below wr.heap.size wr w'):RowX S0 b t s w' l V:=h.keep hb.size fun i hi=>hb.block i hi
theorem RowX.slice {S0:Nat→Prop} {b:Nat} {t:TypeId} {s:Nat} {wr:World} {l:List D} {V:Value} (h:RowX S0 b t s wr l V): ∃a c,V= .slice a l.length c:=by
 obtain⟨ns,h1,_⟩:=h
 rcases h1.2 with⟨rfl,h0⟩|⟨g,cap,cur,rfl,_⟩
 · exact⟨_,_,by rw[h0]⟩
 · exact⟨_,_,rfl⟩
theorem RowX.slice_n {S0:Nat→Prop} {b:Nat} {t:TypeId} {s n:Nat} {wr:World} {l:List D} {V:Value} (h:RowX S0 b t s wr l V) (hn:l.length=n): ∃a c,V= .slice a n c:=by
 subst hn;exact h.slice
theorem RowX.close {S0:Nat→Prop} {b:Nat} {t:TypeId} {s:Nat} {wr:World} {l:List D} {a:Option Addr} {n c:Nat} (h:RowX S0 b t s wr l (.slice a n c)):Holds wr wr.heap.size (.row s l) [.slice a n c]:=by
 obtain⟨ns,h1,h2,h3⟩:=h
 have h1':=h1
 rcases h1.2 with⟨e,h0⟩|⟨g,cap,cur,e,hbg,hg,hnc,_⟩
 · cases e
   have hl:l= []:=List.eq_nil_of_length_eq_zero h0
   subst hl
   exact⟨none,0,rfl,h2, [],rfl, .inl rfl⟩
 · cases e
   have hgl:=(Array.getElem?_eq_some_iff.1 hg).1
   refine⟨_,_,rfl,h2,ns,h3.now, .inr ⟨g,0,rfl,hgl,fun j u hu=> ?_⟩⟩
   have h5:=h1'.cells (g:=g) rfl j u hu
   rwa [add_plain']at h5
section
variable {P:Program}
end
end Go.Proofs.YtackmnbpfbaemaaGreatDoor
