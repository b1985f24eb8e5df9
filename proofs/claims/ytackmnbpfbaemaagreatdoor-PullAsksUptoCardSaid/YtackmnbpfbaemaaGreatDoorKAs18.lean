/- Parts, joined: Values as data of any make. Plain. No condition. Cells of values: how a result's variable holds one, how one lies in a new block. Plain over the program's types. No condition. Small laws of worlds and of comparisons. Plain. No condition. encode.bytes: how many bytes a value's text has. Condition: a bulk of at most 10^9. Why a value may not be: the reference's function. Condition: a bulk of at most 10^9. Why a value may not be: the reference's function, over an object's members. Condition: a bulk of at most 10^9. Why a value may not be: the reference's function, of every value. Condition: a bulk of at most 10^9. commonplaceref02.Within: the values at once within one. Condition: a bulk of at most 10^8. commonplaceref02.Deep: how deep a value is. Condition: a bulk of at most 10^8. When a value has nothing. Plain. No condition. A value that may be may stand deeper, as long as it is not too deep. Plain. No condition. commonplaceref02.Equal: has one value all that the other one has? Condition: a bulk of at most 10^8. Maps by what they answer: an entry stored in a region that draws its order, an entry looked up. Plain. No condition. -/
import Derived.Test.YtackmnbpfbaemaaGreatDoorProg
import Derived.WalkKit
import Derived.Below
import Derived.Lib.Hide
import Derived.Maps.AppendAt
import Derived.Deep.RegionHeld3
import Derived.Deep.QuietTactic
import Derived.BigQuiet
import Derived.Lib.Strings
import Derived.Test.YtackmnbpfbaemaaGreatDoorKAs1
import Derived.Test.YtackmnbpfbaemaaGreatDoorKAs2
import Derived.Test.YtackmnbpfbaemaaGreatDoorKAs3
import Derived.Test.YtackmnbpfbaemaaGreatDoorKAs4
import Derived.Test.YtackmnbpfbaemaaGreatDoorKAs6
import Derived.Test.YtackmnbpfbaemaaGreatDoorKAs7
import Derived.Test.YtackmnbpfbaemaaGreatDoorKAs9
import Derived.Test.YtackmnbpfbaemaaGreatDoorKAs11
import Derived.Test.YtackmnbpfbaemaaGreatDoorKAs13
import Derived.Test.YtackmnbpfbaemaaGreatDoorKAs14
import Derived.Test.YtackmnbpfbaemaaGreatDoorKAs15
import Derived.Test.YtackmnbpfbaemaaGreatDoorKAs16
namespace Go.Proofs.YtackmnbpfbaemaaGreatDoor
open Go.RowKit
mutual
def dV:Val→D
 | .mk k b n t l o=> .agg [.leaf (.int .i64 k), .leaf (.bool b), .leaf (.int .i64 n), .leaf (.string t), .row 6 (dL l), .row 7 (dO o)]
def dL:List Val→List D
 | []=> []
 |v::r=>dV v::dL r
def dO:List (ByteArray×Val)→List D
 | []=> []
 |p::r=>dP p::dO r
def dP:ByteArray×Val→D
 |(key,v)=> .agg [.leaf (.string key),dV v]
end
theorem dL_map: ∀l,dL l=l.map dV
 | []=>rfl
 |v::r=>by simp[dL,dL_map r]
theorem dO_map: ∀l,dO l=l.map dP
 | []=>rfl
 |v::r=>by simp[dO,dO_map r]
theorem dV_cells (v:Val):(dV v).cells=6:=by
 obtain⟨k,b,n,t,l,o⟩:=v
 rfl
theorem dP_cells (p:ByteArray×Val):(dP p).cells=7:=by
 obtain⟨k,v⟩:=p
 simp only[dP,D.cells,cellsA,dV_cells]
theorem dL_cells (l:List Val): ∀d ∈ dL l,d.cells=6:=by
 rw[dL_map]
 intro d hd
 obtain⟨v,_,rfl⟩:=List.mem_map.1 hd
 exact dV_cells v
theorem dO_cells (l:List (ByteArray×Val)): ∀d ∈ dO l,d.cells=7:=by
 rw[dO_map]
 intro d hd
 obtain⟨v,_,rfl⟩:=List.mem_map.1 hd
 exact dP_cells v
theorem dL_len (l:List Val):(dL l).length=l.length:=by rw[dL_map,List.length_map]
theorem dO_len (l:List (ByteArray×Val)):(dO l).length=l.length:=by rw[dO_map,List.length_map]
theorem HoldsA.six {w:World} {B:Nat} {a b c d:Value} {e f:D} {cs:List Value}:
 HoldsA w B [.leaf a, .leaf b, .leaf c, .leaf d,e,f] cs ↔ ∃c4 c5,cs= [a,b,c,d]++(c4++c5)∧a.oneCell'=true∧b.oneCell'=true∧c.oneCell'=true∧d.oneCell'=true∧Holds w B e c4∧Holds w B f c5:=by
 constructor
 · rintro⟨_,_,rfl,⟨rfl,ha⟩,_,_,rfl,⟨rfl,hb⟩,_,_,rfl,⟨rfl,hc⟩,_,_,rfl,⟨rfl,hd⟩,c4,_,rfl,h4,c5,_,rfl,h5,rfl⟩
   exact⟨c4,c5,by simp,ha,hb,hc,hd,h4,h5⟩
 · rintro⟨c4,c5,rfl,ha,hb,hc,hd,h4,h5⟩
   exact⟨[a],_,rfl,⟨rfl,ha⟩, [b],_,rfl,⟨rfl,hb⟩, [c],_,rfl,⟨rfl,hc⟩, [d],_,rfl,⟨rfl,hd⟩,c4,_,rfl,h4,c5, [],by simp,h5,rfl⟩
theorem HoldsA.toL {w:World} {B:Nat} {g:Nat}: ∀{l:List Val},(∀v ∈ l,∀cs,Holds w B (dV v) cs→HoldsV w B v cs)→ ∀{ns:List Value} {off:Nat},HoldsA w B (dL l) ns→(∀j u,ns[j]? =some u→w.cell? ⟨g,off+j,none⟩=some u)→HoldsL w B l g off
 | [],_,_,_,_,_=>by simp[HoldsL]
 |v::r,ih,ns,off,h,hc=>by
  obtain⟨c1,c2,rfl,h1,h2⟩:=h
  have hl:c1.length=6:=h1.len.1.trans (dV_cells v)
  simp only[HoldsL]
  refine⟨⟨c1,ih v (by simp) c1 h1,fun j u hu=>hc j u (by rw[List.getElem?_append_left (List.getElem?_eq_some_iff.1 hu).1];exact hu)⟩,HoldsA.toL (fun x hx=>ih x (by simp[hx])) h2 (fun j u hu=> ?_)⟩
  rw[show off+6+j=off+(6+j)from by omega]
  refine hc (6+j) u ?_
  rw[List.getElem?_append_right (by omega),hl,show 6+j - 6=j from by omega]
  exact hu
theorem HoldsA.toO {w:World} {B:Nat} {g:Nat}: ∀{l:List (ByteArray×Val)},(∀m ∈ l,∀cs,Holds w B (dV m.2) cs→HoldsV w B m.2 cs)→ ∀{ns:List Value} {off:Nat},HoldsA w B (dO l) ns→(∀j u,ns[j]? =some u→w.cell? ⟨g,off+j,none⟩=some u)→HoldsO w B l g off
 | [],_,_,_,_,_=>by simp[HoldsO]
 |(key,v)::r,ih,ns,off,h,hc=>by
  obtain⟨c1,c2,rfl,h1,h2⟩:=h
  obtain⟨_,c3,rfl,⟨rfl,_⟩,cv,c4,rfl,h3,rfl⟩:=h1
  have hl:cv.length=6:=h3.len.1.trans (dV_cells v)
  simp only[HoldsO,HoldsP]
  refine⟨⟨by have:=hc 0 (.string key) rfl;simpa using this,cv,ih (key,v) (by simp) cv h3,fun j u hu=> ?_⟩,HoldsA.toO (fun x hx=>ih x (by simp[hx])) h2 (fun j u hu=> ?_)⟩
  · have h5:=(List.getElem?_eq_some_iff.1 hu).1
    rw[show off+1+j=off+(j+1)from by omega]
    refine hc (j+1) u ?_
    simp only[List.append_nil,List.cons_append,List.nil_append,List.getElem?_cons_succ]
    rw[List.getElem?_append_left h5];exact hu
  · rw[show off+7+j=off+(6+j+1)from by omega]
    refine hc (6+j+1) u ?_
    simp only[List.append_nil,List.cons_append,List.nil_append,List.getElem?_cons_succ]
    rw[List.getElem?_append_right (by omega),hl,show 6+j - 6=j from by omega]
    exact hu
theorem holdsV_of {w:World} {B:Nat}: ∀(v:Val) cs,Holds w B (dV v) cs→HoldsV w B v cs:=by
 refine Val.ind ?_
 intro k b n t l o hl ho cs h
 simp only[dV,Holds]at h
 obtain⟨c4,c5,rfl,_,_,_,_,⟨a4,n4,rfl,_,ns4,h4,i4⟩,⟨a5,n5,rfl,_,ns5,h5,i5⟩⟩:=HoldsA.six.1 h
 simp only[HoldsV]
 refine⟨a4,n4,a5,n5,by simp[cells6,dL_len,dO_len], ?_, ?_⟩
 · rcases i4 with e|⟨g,off,e,hg,hc⟩
   · refine .inl ?_
     cases l with
     |nil=>rfl
     |cons x r=>simp[dL]at e
   · exact .inr ⟨g,off,e,hg,HoldsA.toL hl h4 hc⟩
 · rcases i5 with e|⟨g,off,e,hg,hc⟩
   · refine .inl ?_
     cases o with
     |nil=>rfl
     |cons x r=>simp[dO]at e
   · exact .inr ⟨g,off,e,hg,HoldsA.toO ho h5 hc⟩
theorem HoldsA.ofL {w:World} {B:Nat} {g:Nat}: ∀{l:List Val},(∀v ∈ l,∀cs,HoldsV w B v cs→Holds w B (dV v) cs)→ ∀{off:Nat},HoldsL w B l g off→ ∃ns,HoldsA w B (dL l) ns∧ ∀j u,ns[j]? =some u→w.cell? ⟨g,off+j,none⟩=some u
 | [],_,_,_=>⟨[],rfl,fun j u h=>by simp at h⟩
 |v::r,ih,off,h=>by
  simp only[HoldsL]at h
  obtain⟨⟨cs,h1,hc⟩,h2⟩:=h
  have h1':=ih v (by simp) cs h1
  have hl:cs.length=6:=h1'.len.1.trans (dV_cells v)
  obtain⟨ns,h3,h4⟩:=HoldsA.ofL (fun x hx=>ih x (by simp[hx])) h2
  refine⟨cs++ns,⟨cs,ns,rfl,h1',h3⟩,fun j u hu=> ?_⟩
  by_cases hj:j<6
  · rw[List.getElem?_append_left (by omega)]at hu
    exact hc j u hu
  · rw[List.getElem?_append_right (by omega),hl]at hu
    have:=h4 (j - 6) u hu
    rwa [show off+6+(j - 6)=off+j from by omega]at this
theorem HoldsA.ofO {w:World} {B:Nat} {g:Nat}: ∀{l:List (ByteArray×Val)},(∀m ∈ l,∀cs,HoldsV w B m.2 cs→Holds w B (dV m.2) cs)→ ∀{off:Nat},HoldsO w B l g off→ ∃ns,HoldsA w B (dO l) ns∧ ∀j u,ns[j]? =some u→w.cell? ⟨g,off+j,none⟩=some u
 | [],_,_,_=>⟨[],rfl,fun j u h=>by simp at h⟩
 |(key,v)::r,ih,off,h=>by
  simp only[HoldsO,HoldsP]at h
  obtain⟨⟨h0,cs,h1,hc⟩,h2⟩:=h
  have h1':=ih (key,v) (by simp) cs h1
  have hl:cs.length=6:=h1'.len.1.trans (dV_cells v)
  obtain⟨ns,h3,h4⟩:=HoldsA.ofO (fun x hx=>ih x (by simp[hx])) h2
  refine⟨(.string key::cs)++ns,⟨.string key::cs,ns,rfl,⟨[.string key],cs,rfl,⟨rfl,rfl⟩,cs, [],by simp,h1',rfl⟩,h3⟩,fun j u hu=> ?_⟩
  match j,hu with
  |0,hu=>
   simp at hu
   subst hu
   exact h0
  |j+1,hu=>
   simp only[List.cons_append,List.getElem?_cons_succ]at hu
   by_cases hj:j<6
   · rw[List.getElem?_append_left (by omega)]at hu
     have:=hc j u hu
     rwa [show off+1+j=off+(j+1)from by omega]at this
   · rw[List.getElem?_append_right (by omega),hl]at hu
     have:=h4 (j - 6) u hu
     rwa [show off+7+(j - 6)=off+(j+1)from by omega]at this
theorem holds_of_V {w:World} {B:Nat}: ∀(v:Val) cs,HoldsV w B v cs→Holds w B (dV v) cs:=by
 refine Val.ind ?_
 intro k b n t l o hl ho cs h
 simp only[HoldsV]at h
 obtain⟨la,lc,oa,oc,rfl,h1,h2⟩:=h
 simp only[dV,Holds]
 refine HoldsA.six.2 ⟨[.slice la l.length lc], [.slice oa o.length oc],rfl,rfl,rfl,rfl,rfl, ?_, ?_⟩
 · rcases h1 with rfl|⟨g,off,e,hg,h1⟩
   · exact⟨la,lc,rfl,dL_cells _, [],rfl, .inl rfl⟩
   · obtain⟨ns,h3,h4⟩:=HoldsA.ofL hl h1
     exact⟨la,lc,by rw[dL_len],dL_cells _,ns,h3, .inr ⟨g,off,e,hg,h4⟩⟩
 · rcases h2 with rfl|⟨g,off,e,hg,h2⟩
   · exact⟨oa,oc,rfl,dO_cells _, [],rfl, .inl rfl⟩
   · obtain⟨ns,h3,h4⟩:=HoldsA.ofO ho h2
     exact⟨oa,oc,by rw[dO_len],dO_cells _,ns,h3, .inr ⟨g,off,e,hg,h4⟩⟩
end Go.Proofs.YtackmnbpfbaemaaGreatDoor

namespace Go.Proofs.YtackmnbpfbaemaaGreatDoor
open Go Go.RowKit
abbrev zero6:Array Value:= #[.int .i64 0, .bool false, .int .i64 0, .string ⟨#[]⟩, .slice none 0 0, .slice none 0 0]
theorem six_now {B:Nat} {w4:World} {k:Int} {b:Bool} {n:Int} {t:ByteArray} {l:List Val} {o:List (ByteArray×Val)} {cs:List Value} (h:Fresh B w4 (dV (.mk k b n t l o)) cs): ∃la lc oa oc,cs= [.int .i64 k, .bool b, .int .i64 n, .string t, .slice la l.length lc, .slice oa o.length oc]:=by
 have h1:=holdsV_of _ _ h.now
 simp only[HoldsV]at h1
 obtain⟨la,lc,oa,oc,e,_,_⟩:=h1
 exact⟨la,lc,oa,oc,e⟩
theorem vcell {w:World} {g:Nat} {t:TypeId} {a0 a1 a2 a3 a4 a5:Value} (h:Blk w g t #[a0,a1,a2,a3,a4,a5]):
 w.cell? ⟨g,0,none⟩=some a0∧w.cell? ⟨g,1,none⟩=some a1∧w.cell? ⟨g,2,none⟩=some a2∧w.cell? ⟨g,3,none⟩=some a3∧w.cell? ⟨g,4,none⟩=some a4∧w.cell? ⟨g,5,none⟩=some a5:=
 ⟨h.cell 0,h.cell 1,h.cell 2,h.cell 3,h.cell 4,h.cell 5⟩
theorem dP_fresh {B:Nat} {w:World} {key:ByteArray} {v:Val} {cs:List Value} (h:Fresh B w (dV v) cs):Fresh B w (dP (key,v)) (.string key::cs):=fun w'' h1 h2=>⟨[.string key],cs,rfl,⟨rfl,rfl⟩,cs, [],by simp,h w'' h1 h2,rfl⟩
theorem mem_info:(Tryz.prog.info? 63).map (fun i=>(i.zero,i.size,i.bytes))=some (some (.agg #[.string ⟨#[]⟩, .int .i64 0, .bool false, .int .i64 0, .string ⟨#[]⟩, .slice none 0 0, .slice none 0 0]),7,104):=by kernel_rfl
theorem results_cell6 {fn:Func} {t:Tmp} {tmps:Array Value} {W:World} {R:Nat} {a0 a1 a2 a3 a4 a5:Value} (h:fn.results= #[.cell t 39]) (hp:tmps.getD t undef= .pointer (some ⟨R,0,none⟩)) (hx:Blk W R 39 #[a0,a1,a2,a3,a4,a5]):
 (results fn tmps).run Tryz.prog W= .ok (.agg #[a0,a1,a2,a3,a4,a5]) W:=by
 obtain⟨c0,c1,c2,c3,c4,c5⟩:=vcell hx
 clear hx
 have hp':tmps[t]?.getD undef= .pointer (some ⟨R,0,none⟩):=by simpa using hp
 simp[results,h,hp',go_sem,c0,c1,c2,c3,c4,c5]
theorem RowD.slice_n {b:Nat} {t:TypeId} {s n:Nat} {wr:World} {l:List D} {V:Value} (h:RowD b t s wr l V) (hn:l.length=n): ∃a c,V= .slice a n c:=by
 subst hn;exact h.slice
theorem blk_app {w w6:World} {R b:Nat} {t e:TypeId} {sz:Nat} {l:List D} {V:Value} {cs:Array Value} {wr:World} (h:Blk w R t cs) (hg:w.grownBy w6 V.ownBlock) (hr:RowD b e sz wr l V) (hR:R<b):Blk w6 R t cs:=
 h.grown hg fun e=>by have:=(hr.base R e.symm).1;omega
theorem below_app {w w6:World} {B b:Nat} {e:TypeId} {sz:Nat} {l:List D} {V:Value} {w0 wr:World} (h:Below B w0 w) (hg:w.grownBy w6 V.ownBlock) (hr:RowD b e sz wr l V) (hB:B≤b) (hBw:B≤w.heap.size):Below B w0 w6:=
 h.grown hg hBw fun k hk=>Nat.le_trans hB (hr.base k hk).1
theorem reads_seven (w:World) (a0 a1 a2 a3 a4 a5 a6:Value):Reads (w.alloc (.cells #[a0,a1,a2,a3,a4,a5,a6] 63)) (w.heap.size+1) 7 (some ⟨w.heap.size,0,none⟩) 1 [a0,a1,a2,a3,a4,a5,a6]:=reads_one (Blk.new w 63 #[a0,a1,a2,a3,a4,a5,a6])
theorem val_info:(Tryz.prog.info? 39).map (fun i=>(i.zero,i.size,i.bytes))=some (some (.agg #[.int .i64 0, .bool false, .int .i64 0, .string ⟨#[]⟩, .slice none 0 0, .slice none 0 0]),6,88):=by kernel_rfl
theorem reads_six (w:World) (a0 a1 a2 a3 a4 a5:Value):Reads (w.alloc (.cells #[a0,a1,a2,a3,a4,a5] 39)) (w.heap.size+1) 6 (some ⟨w.heap.size,0,none⟩) 1 [a0,a1,a2,a3,a4,a5]:=reads_one (Blk.new w 39 #[a0,a1,a2,a3,a4,a5])
theorem results_cell6_t {fn:Func} {t u:Tmp} {tmps:Array Value} {W:World} {R:Nat} {a0 a1 a2 a3 a4 a5:Value} (h:fn.results= #[.cell t 39, .tmp u]) (hp:tmps.getD t undef= .pointer (some ⟨R,0,none⟩)) (hx:Blk W R 39 #[a0,a1,a2,a3,a4,a5]):
 (results fn tmps).run Tryz.prog W= .ok (.tuple #[.agg #[a0,a1,a2,a3,a4,a5],tmps.getD u undef]) W:=by
 obtain⟨c0,c1,c2,c3,c4,c5⟩:=vcell hx
 clear hx
 have hp':tmps[t]?.getD undef= .pointer (some ⟨R,0,none⟩):=by simpa using hp
 simp[results,h,hp',go_sem,c0,c1,c2,c3,c4,c5]
end Go.Proofs.YtackmnbpfbaemaaGreatDoor

namespace Go.Proofs.YtackmnbpfbaemaaGreatDoor
open Go.RowKit
theorem alloc_below (w:World) (o:Obj):Below w.heap.size w (w.alloc o):=(Below.refl _ _).alloc (Nat.le_refl _) _
theorem beq_cast (n:Nat):((n:Int)==0)=decide (n=0):=by rw[Bool.eq_iff_iff];simp
theorem bne_dec (a b:Int):(a != b)=decide (a≠b):=by rw[Bool.eq_iff_iff];simp
theorem beq_dec (a b:Int):(a==b)=decide (a=b):=by rw[Bool.eq_iff_iff];simp
theorem bcellM {W w1:World} (hb:Below W.heap.size W w1):(∀b o,b<W.heap.size→w1.cell? ⟨b,o,none⟩=W.cell? ⟨b,o,none⟩)∧(∀b o,b<W.heap.size→w1.frozen? ⟨b,o,none⟩=W.frozen? ⟨b,o,none⟩):=
 ⟨fun b o h=>hb.cell (p:=⟨b,o,none⟩) h,fun b o h=>hb.frozen (p:=⟨b,o,none⟩) h⟩
end Go.Proofs.YtackmnbpfbaemaaGreatDoor

namespace Go.Proofs.YtackmnbpfbaemaaGreatDoor
open Go.RowKit
set_option maxHeartbeats 2000000 in
theorem bytes_calls (v:Val) (cs:List Value) (w:World) (hT:Tabs w) (hV:HoldsV w w.heap.size v cs) (hb:v.bulk≤1000000000) (hok:okV v):
 Calls Tryz.prog 136 #[.agg cs.toArray] w fun e w'=>e= .returned (.int .i64 (textV v).length)∧Below w.heap.size w w':=by
 have hV':=hV
 obtain⟨k,b,n,t,l,o⟩:=v
 simp only[HoldsV]at hV'
 obtain⟨la,lc,oa,oc,rfl,_,_⟩:=hV'
 obtain⟨w1,hw1⟩: ∃w1,w.alloc (.cells (cells6 k b n t la l.length lc oa o.length oc).toArray 39)=w1:=⟨_,rfl⟩
 have hb1:Below w.heap.size w w1:=hw1▸(Below.refl _ _).alloc (Nat.le_refl _) _
 have hz1:w1.heap.size=w.heap.size+1:=by rw[←hw1];simp
 have hc:=writer_calls k b n t l o la oa lc oc false w1 (hT.below hb1) (HoldsV.more hb1.size _ _ (hV.below hb1)) hb hok
 have hown:=fun w=>own_calls k b n t la oa l.length lc o.length oc w
 rw[hz1]at hc
 generalize textV (.mk k b n t l o)=L at*
 have ent:=enters_ownF
 have HC:=Lib.hid hc
 have HO:=Lib.hid hown
 have HAB:=Lib.hid hb1
 subst hw1
 clear hc hown hV hb hok hT hz1 hb1
 go_enter Tryz.func136,Tryz.ntmps136
 go_wp2_with (first|(go_at_call 74;refine(HO.out _).mono ?_;rintro e w2 ⟨rfl,rfl⟩)|(go_at_fn (ownF k);refine(HC.out).mono ?_;rintro e w4 ⟨rfl,h6,h7⟩;have hW4:=h6;obtain⟨pp,vv,hbld⟩:=hW4;have g3:w4.cell? ⟨w.heap.size+1,3,none⟩=some (.int .i64 (L.length:Int)):=by(rw[Lib.cell_of_heap hbld.2.1];rfl)))
 go_ret
 exact⟨rfl,HAB.out.trans (h7.mono (by simp))⟩
end Go.Proofs.YtackmnbpfbaemaaGreatDoor

namespace Go.Proofs.YtackmnbpfbaemaaGreatDoor
open Go.RowKit
end Go.Proofs.YtackmnbpfbaemaaGreatDoor

namespace Go.Proofs.YtackmnbpfbaemaaGreatDoor
open Go.RowKit
end Go.Proofs.YtackmnbpfbaemaaGreatDoor

namespace Go.Proofs.YtackmnbpfbaemaaGreatDoor
open Go.RowKit
end Go.Proofs.YtackmnbpfbaemaaGreatDoor

namespace Go.Proofs.YtackmnbpfbaemaaGreatDoor
open Go.RowKit
end Go.Proofs.YtackmnbpfbaemaaGreatDoor

namespace Go.Proofs.YtackmnbpfbaemaaGreatDoor
open Go.RowKit
end Go.Proofs.YtackmnbpfbaemaaGreatDoor

namespace Go.Proofs.YtackmnbpfbaemaaGreatDoor
open Go.RowKit
def zero6B (k:Int) (b:Bool) (n:Int) (t:ByteArray) (ln on:Nat):Bool:=decide (k=0)&& !b&&decide (n=0)&&t.toList.isEmpty&&decide (ln=0)&&decide (on=0)
end Go.Proofs.YtackmnbpfbaemaaGreatDoor

namespace Go.Proofs.YtackmnbpfbaemaaGreatDoor
open Go.RowKit
theorem mayL_deeper: ∀{l:List Val},(∀v ∈ l,∀d d':Int,mayV v d'=0→d+deepV v≤65→mayV v d=0)→ ∀{d d':Int},mayL l d'=0→(l= []∨d+deepL l≤65)→mayL l d=0
 | [],_,_,_,_,_=>by simp[mayL]
 |v::r,ih,d,d',h,hd=>by
  have hd:=hd.resolve_left (by simp)
  simp only[deepL]at hd
  simp only[mayL]at h ⊢
  by_cases h0:mayV v d'=0
  · rw[if_pos h0]at h
    rw[if_pos (ih v (by simp) d d' h0 (by omega))]
    exact mayL_deeper (fun x hx=>ih x (by simp[hx])) h (.inr (by omega))
  · rw[if_neg h0]at h
    exact absurd h h0
theorem mayO_deeper: ∀{l:List (ByteArray×Val)},(∀m ∈ l,∀d d':Int,mayV m.2 d'=0→d+deepV m.2≤65→mayV m.2 d=0)→ ∀{last:Option ByteArray} {d d':Int},mayO l last d'=0→(l= []∨d+deepO l≤65)→mayO l last d=0
 | [],_,_,_,_,_,_=>by simp[mayO]
 |(key,v)::r,ih,last,d,d',h,hd=>by
  have hd:=hd.resolve_left (by simp)
  simp only[deepO,deepP]at hd
  simp only[mayO]at h ⊢
  by_cases h0:mayP (key,v) last d'=0
  · rw[if_pos h0]at h
    have h1:mayP (key,v) last d=0:=by
     simp only[mayP]at h0 ⊢
     by_cases hv:validB key=true
     · rw[if_pos hv]at h0 ⊢
       cases last with
       |none=>exact ih (key,v) (by simp) d d' h0 (by simp only;omega)
       |some q=>
        simp only at h0 ⊢
        by_cases hl:leB key q=true
        · rw[if_pos hl]at h0;cases h0
        · rw[if_neg hl]at h0 ⊢
          exact ih (key,v) (by simp) d d' h0 (by simp only;omega)
     · rw[if_neg hv]at h0;cases h0
    rw[if_pos h1]
    exact mayO_deeper (fun x hx=>ih x (by simp[hx])) h (.inr (by omega))
  · rw[if_neg h0]at h
    exact absurd h h0
theorem mayV_deeper: ∀(v:Val) (d d':Int),mayV v d'=0→d+deepV v≤65→mayV v d=0:=by
 refine Val.ind ?_
 intro k b n t l o hl ho d d' h hd
 obtain⟨h1,_,h3,h4,h5⟩:=mayV_parts h
 obtain⟨_,_,k5,k6⟩:=odd_parts h1
 simp only[deepV]at hd
 have hL:mayL l (d+1)=0:=by
  refine mayL_deeper hl h4 ?_
  rcases k5 with e|e
  · rw[if_pos e]at hd;exact .inr (by omega)
  · exact .inl (List.length_eq_zero_iff.1 e)
 have hO:mayO o none (d+1)=0:=by
  refine mayO_deeper ho h5 ?_
  rcases k6 with e|e
  · rw[if_neg (by omega),if_pos e]at hd;exact .inr (by omega)
  · exact .inl (List.length_eq_zero_iff.1 e)
 have h64: ¬64<d:=by
  have:0≤(if k=5 then deepL l else if k=6 then deepO o else 0):=Nat.zero_le _
  omega
 simp only[mayV]
 rw[if_neg (by rw[h1];simp),if_neg h64,if_pos h3,if_pos hL,hO]
end Go.Proofs.YtackmnbpfbaemaaGreatDoor

namespace Go.Proofs.YtackmnbpfbaemaaGreatDoor
open Go.RowKit
def EqPost (p:Prop) (w:World) (e:Ending) (w':World):Prop:= ∃B:Bool,e= .returned (.bool B)∧(B=true ↔ p)∧Below w.heap.size w w'
theorem EqPost.no {p:Prop} {w w':World} (h: ¬p) (hb:Below w.heap.size w w'):EqPost p w (.returned (.bool false)) w':=⟨false,rfl,by simp[h],hb⟩
def EA (w:World) (b1 b2:Array Value) (wr:World):Prop:=Below w.heap.size w wr∧Blk wr w.heap.size 39 b1∧Blk wr (w.heap.size+1) 39 b2
theorem EA.step {w:World} {b1 b2:Array Value} {wr w4:World} (h:EA w b1 b2 wr) (hb:Below wr.heap.size wr w4):EA w b1 b2 w4:=⟨h.1.trans (hb.mono h.1.size),h.2.1.below hb h.2.1.lt,h.2.2.below hb h.2.2.lt⟩
end Go.Proofs.YtackmnbpfbaemaaGreatDoor

namespace Go.Proofs.YtackmnbpfbaemaaGreatDoor
open Go Go.RowKit
theorem mkey_str:MKey Tryz.prog 9 Value.string:=mkey_string Tryz.underlying9
theorem findM_app (a k:ByteArray) (v:Value): ∀kv:List (ByteArray×Value),findM k kv=none→findM a (kv++ [(k,v)])=if a=k then some v else findM a kv
 | [],_=>by simp[findM]
 |(c,u)::r,h=>by
  have hc:k≠c:=by
   intro e
   simp[findM,e]at h
  have hr:findM k r=none:=by simpa[findM,hc]using h
  simp only[List.cons_append,findM]
  by_cases e:a=c
  · subst e
    rw[if_pos rfl,if_neg (Ne.symm hc),if_pos rfl]
  · rw[if_neg e,if_neg e,findM_app a k v r hr]
def LookIs (w:World) (g n:Nat) (F:ByteArray→Option Value):Prop:= ∃kv,MapAt Value.string w g kv∧kv.length=n∧ ∀k,findM k kv=F k
variable {w w':World} {g n:Nat} {F:ByteArray→Option Value} {P:Program}
theorem LookIs.lt (h:LookIs w g n F):g<w.heap.size:=by
 obtain⟨kv,h,_⟩:=h
 exact h.lt
theorem LookIs.keep (h:LookIs w g n F) (hk:w'.heap[g]? =w.heap[g]?):LookIs w' g n F:=by
 obtain⟨kv,h1,h2⟩:=h
 exact⟨kv,h1.keep hk,h2⟩
theorem LookIs.below {B:Nat} (h:LookIs w g n F) (hb:Below B w w') (hg:g<B):LookIs w' g n F:=h.keep (hb.block g hg)
theorem LookIs.new (w:World):LookIs (w.alloc (.map #[] 0)) w.heap.size 0 fun _=>none:=⟨[],MapAt.new w,rfl,fun _=>rfl⟩
theorem LookIs.ext {G:ByteArray→Option Value} (h:LookIs w g n F) (e: ∀k,F k=G k):LookIs w g n G:=by
 obtain⟨kv,h1,h2,h3⟩:=h
 exact⟨kv,h1,h2,fun k=>(h3 k).trans (e k)⟩
theorem oper_insertL {kt et t:TypeId} {o:Oper} {a:Act} {K:Act→World→Prop} {Q:Exit→Act→World→Prop} {m x u:Operand} (hop:o.op=Op.insert t m x u)
 (hP:MKey P kt Value.string) (ht:P.underlying t=some (.map kt et)) (hm:a.eval m= .map (some g)) (h:LookIs w g n F) {k:ByteArray} {v:Value} (hx:a.eval x= .string k) (hv:a.eval u=v) (hn:F k=none)
 (hK: ∀w',LookIs w' g (n+1) (fun b=>if b=k then some v else F b)→w.grownBy w' (some g)→w'.heap.size=w.heap.size→K (a.put o.dst undef) w'):Oper.wp P o a w K Q:=by
 obtain⟨kv,h1,h2,h3⟩:=h
 have hn':findM k kv=none:=(h3 k).trans hn
 obtain⟨w',hrun,r1,r2,r3⟩:=run_insertM hP ht h1 hn' v
 unfold Oper.wp
 simp[execOp,hop,hm,hx,hv,hrun,Result.andThen]
 refine hK w' ⟨_,r1,by simp[h2],fun b=> ?_⟩ r2 r3
 rw[findM_app b k v kv hn',h3 b]
theorem run_lookL {kt et t:TypeId} (hP:MKey P kt Value.string) (ht:P.underlying t=some (.map kt et)) (h:LookIs w g n F) (a:ByteArray) {z:Value} (hz: ∀w,(zeroValue et).run P w= .ok z w) (c:Bool):
 (Instr.lookup t (.map (some g)) (.string a) c).run P w= .ok (if c then .tuple #[(F a).getD z, .bool (F a).isSome]else(F a).getD z) w:=by
 obtain⟨kv,h1,_,h3⟩:=h
 have:=run_lookM hP ht h1 a hz c
 rw[h3 a]at this
 exact this
def anyOrder (md:Region.Mode) (ops:Array Oper) (E:Array Bool):Nat→Array Bool→List Nat→Bool
 |0,l,rs=>decide (rs= [])&&decide (l=E)
 |n+1,l,rs=>decide (rs≠ [])&&decide (Region.ready md ops l=rs)&&rs.all fun i=>anyOrder md ops E n (l.setIfInBounds i true) (rs.erase i)
theorem inserts_any {md:Region.Mode} {ops:Array Oper} {Q:Exit→Act→World→Prop} {E:Array Bool} {a:Act} {kt et t:TypeId} {w0:World} {fuel:Nat} (hP:MKey P kt Value.string) (ht:P.underlying t=some (.map kt et))
 (key:Nat→ByteArray) (val:Nat→Value) (rs0:List Nat) (hg:w0.heap.size≤g)
 (hop: ∀i ∈ rs0,∃o m x u,ops[i]? =some o∧(∀y,Region.wanted o y=true)∧a.put o.dst undef=a∧o.op=Op.insert t m x u∧a.eval m= .map (some g)∧a.eval x= .string (key i)∧a.eval u=val i)
 (hinj: ∀i ∈ rs0,∀j ∈ rs0,key i=key j→i=j)
 (G:ByteArray→Option Value) (m0:Nat)
 (hend: ∀W,LookIs W g m0 G→Below w0.heap.size w0 W→wpAnyH P md ops Q (fun _=>True) fuel E a W):
 ∀(n:Nat) (rs:List Nat) (l:Array Bool) (F:ByteArray→Option Value) (m:Nat) (W:World),(∀i ∈ rs,i ∈ rs0)→rs.Nodup→anyOrder md ops E n l rs=true→m+n=m0→LookIs W g m F→
  (∀i ∈ rs,F (key i)=none)→(∀i ∈ rs,G (key i)=some (val i))→(∀k,(∀i ∈ rs,k≠key i)→F k=G k)→Below w0.heap.size w0 W→wpAnyH P md ops Q (fun _=>True) (fuel+n) l a W
 |0,rs,l,F,m,W,_,_,ho,hm,hL,_,_,hF,hB=>by
  simp only[anyOrder,Bool.and_eq_true,decide_eq_true_eq]at ho
  obtain⟨rfl,rfl⟩:=ho
  subst hm
  exact hend W (hL.ext fun k=>hF k (fun i hi=>by cases hi)) hB
 |n+1,rs,l,F,m,W,hin,hnd,ho,hm,hL,hn,hv,hF,hB=>by
  simp only[anyOrder,Bool.and_eq_true,decide_eq_true_eq]at ho
  obtain⟨⟨hne,hr⟩,hall⟩:=ho
  refine wpAnyH_ready (rs:=rs) hr hne ?_
  intro i hi
  obtain⟨o,mm,x,u,h1,h2,h3,h4,h5,h6,h7⟩:=hop i (hin i hi)
  refine wpOp_step h1 (fun K' hK=> ?_)
  rw[if_pos (h2 _)]
  refine oper_insertL h4 hP ht h5 hL h6 h7 (hn i hi) ?_
  intro w' hL' hgr _
  refine hK _ _ ⟨trivial, ?_⟩
  rw[h3]
  have hrest:=List.all_eq_true.1 hall i hi
  have hni: ∀j ∈ rs.erase i,j ∈ rs∧j≠i:=fun j hj=>⟨List.mem_of_mem_erase hj,fun e=>by subst e;exact hnd.not_mem_erase hj⟩
  have hkey: ∀j ∈ rs.erase i,key j≠key i:=fun j hj e=>(hni j hj).2 (hinj j (hin j (hni j hj).1) i (hin i hi) e)
  refine inserts_any hP ht key val rs0 hg hop hinj G m0 hend n (rs.erase i) _ _ (m+1) w' (fun j hj=>hin j (hni j hj).1) (hnd.erase i) hrest (by omega) hL' (fun j hj=> ?_) (fun j hj=>hv j (hni j hj).1) (fun k hk=> ?_) (hB.grown hgr hB.size fun q e=>by cases e;exact hg)
  · show(if key j=key i then some (val i)else F (key j))=none
    rw[if_neg (hkey j hj)]
    exact hn j (hni j hj).1
  · show(if k=key i then some (val i)else F k)=G k
    by_cases e:k=key i
    · rw[if_pos e,e,hv i hi]
    · rw[if_neg e]
      refine hF k fun j hj=> ?_
      by_cases hji:j=i
      · rw[hji];exact e
      · exact hk j ((List.mem_erase_of_ne hji).2 hj)
end Go.Proofs.YtackmnbpfbaemaaGreatDoor
