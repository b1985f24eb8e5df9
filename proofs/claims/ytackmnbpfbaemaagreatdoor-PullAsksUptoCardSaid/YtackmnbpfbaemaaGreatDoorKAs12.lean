/- Parts, joined: What writes a value's text: the functions that own hands back. Condition: a bulk of at most 10^9. What writes a value's text: the plain kinds. Condition: a bulk of at most 10^9. -/
import Derived.Test.YtackmnbpfbaemaaGreatDoorProg
import Derived.Lib.ItoaLen
import Derived.Test.YtackmnbpfbaemaaGreatDoorKAs9
import Derived.Test.YtackmnbpfbaemaaGreatDoorKAs10
namespace Go.Proofs.YtackmnbpfbaemaaGreatDoor
open Go.RowKit
def quoteB (s:ByteArray):List UInt8:=34::quoteRunes (runes s)++ [34]
mutual
def textV:Val→List UInt8
 | .mk k b n t l o=>
   if k=2 then Lib.formatBool b else if k=3 then Lib.itoa n else if k=4 then quoteB t
   else if k=5 then 91::(textL l true++ [93])else if k=6 then 123::(textO o true++ [125])else [110,117,108,108]
def textL:List Val→Bool→List UInt8
 | [],_=> []
 |v::r,f=>(if f then []else [44])++(textV v++textL r false)
def textO:List (ByteArray×Val)→Bool→List UInt8
 | [],_=> []
 |p::r,f=>(if f then []else [44])++(textP p++textO r false)
def textP:ByteArray×Val→List UInt8
 |(key,v)=>quoteB key++(58::textV v)
end
mutual
def okV:Val→Prop
 | .mk _ _ n t l o=>validB t=true∧(-9223372036854775808≤n∧n≤9223372036854775807)∧okL l∧okO o
def okL:List Val→Prop
 | []=>True
 |v::r=>okV v∧okL r
def okO:List (ByteArray×Val)→Prop
 | []=>True
 |p::r=>okP p∧okO r
def okP:ByteArray×Val→Prop
 |(key,v)=>validB key=true∧okV v
end
def ownF (k:Int):Nat:=
 if k=2 then 106 else if k=3 then 109 else if k=4 then 111 else if k=5 then 113 else if k=6 then 115 else 117
def ownCaps (k:Int) (p:Nat):Array Value:=
 if k=2∨k=3∨k=4∨k=5∨k=6 then #[.pointer (some ⟨p,0,none⟩)]else #[]
theorem enters_ownF (k:Int) (args:Array Value) (w:World):(callFunc (ownF k) args).run Tryz.prog w= .ok (.enter (ownF k) args) w:=by
 unfold ownF
 split
 · exact enters_of Tryz.func106 (by kernel_rfl) rfl args w
 split
 · exact enters_of Tryz.func109 (by kernel_rfl) rfl args w
 split
 · exact enters_of Tryz.func111 (by kernel_rfl) rfl args w
 split
 · exact enters_of Tryz.func113 (by kernel_rfl) rfl args w
 split
 · exact enters_of Tryz.func115 (by kernel_rfl) rfl args w
 · exact enters_of Tryz.func117 (by kernel_rfl) rfl args w
set_option maxHeartbeats 1000000 in
theorem own_calls (k:Int) (b:Bool) (n:Int) (t:ByteArray) (la oa:Option Addr) (ln lc on oc:Nat) (w:World):
 Calls Tryz.prog 74 #[.agg #[.int .i64 k, .bool b, .int .i64 n, .string t, .slice la ln lc, .slice oa on oc]] w fun e w'=>
  e= .returned (.func (.func (ownF k)) #[] (ownCaps k w.heap.size))∧w.alloc (.cells #[.int .i64 k, .bool b, .int .i64 n, .string t, .slice la ln lc, .slice oa on oc] 39)=w':=by
 rcases(by omega:k=2∨k=3∨k=4∨k=5∨k=6∨(k≠2∧k≠3∧k≠4∧k≠5∧k≠6))with rfl|rfl|rfl|rfl|rfl|⟨h2,h3,h4,h5,h6⟩
 all_goals
  try have e2:(k==2)=false:=by simpa using h2
  try have e3:(k==3)=false:=by simpa using h3
  try have e4:(k==4)=false:=by simpa using h4
  try have e5:(k==5)=false:=by simpa using h5
  try have e6:(k==6)=false:=by simpa using h6
  try have hf:Hid (ownF k=117):=by show _=_;simp[ownF,h2,h3,h4,h5,h6]
  try have hc:Hid (ownCaps k w.heap.size= #[]):=by show _=_;simp[ownCaps,h2,h3,h4,h5,h6]
  try clear h2 h3 h4 h5 h6
  go_enter Tryz.func74,Tryz.ntmps74
  go_wp2
  go_ret
 all_goals first|exact⟨rfl,rfl⟩|exact⟨by rw[hf.out,hc.out];rfl,rfl⟩
def WritesC (v:Val):Prop:= ∀(W:World) (B g p:Nat) (keeps:Bool) (acc:List UInt8) (cs:List Value) (k:Int) (b:Bool) (n:Int) (t:ByteArray) (l:List Val) (o:List (ByteArray×Val)),v= .mk k b n t l o→5≤B→Tabs W→HoldsV W B v cs→
    W.heap[p]? =some (.cells cs.toArray 39 (0,0))→p≠g→Wr W B g keeps acc→okV v→v.bulk≤1000000000→acc.length+6*v.bulk≤20000000000→
    Calls Tryz.prog (ownF k) (#[.pointer (some ⟨g,0,none⟩)]++ownCaps k p) W fun e W'=>e= .returned (.tuple #[])∧Wr W' B g keeps (acc++textV v)∧Below B W W'∧Kept g W W'
end Go.Proofs.YtackmnbpfbaemaaGreatDoor

namespace Go.Proofs.YtackmnbpfbaemaaGreatDoor
open Go.RowKit
theorem Tabs.keep {w w':World} {B:Nat} (h:Tabs w) (hb:Below B w w') (h5B:5≤B):Tabs w':=by
 obtain⟨h5,⟨h1,h2⟩,h3⟩:=h
 refine⟨Nat.le_trans h5 hb.size,⟨fun c hc=> ?_,fun i hi=>⟨?_, ?_⟩⟩, ?_⟩
 · exact(hb.cell (p:=⟨1,c,none⟩) (by show 1<_;omega)).trans (h1 c hc)
 · exact(hb.cell (p:=⟨2,2*i,none⟩) (by show 2<_;omega)).trans (h2 i hi).1
 · exact(hb.cell (p:=⟨2,2*i+1,none⟩) (by show 2<_;omega)).trans (h2 i hi).2
 · have hg:Tryz.prog.globalNamed "internal/strconv.uint64pow10" =some 3:=by kernel_rfl
   unfold Lib.TabIs World.var? at h3 ⊢
   rw[hg]at h3 ⊢
   simp only[Option.bind_some]at h3 ⊢
   rw[hb.block 3 (by omega)]
   exact h3
theorem grow_below (W:World) (k:Nat) (os:Array Obj):Below W.heap.size W (Sort.grow (W.drewN k) os):=
 ⟨rfl,rfl,rfl,by show W.heap.size≤(W.heap++os).size;simp,fun i hi=>by show(W.heap++os)[i]? =W.heap[i]?;rw[Array.getElem?_append_left hi]⟩
theorem formatBool_len (b:Bool):(Lib.formatBool b).length≤5:=by cases b<;>decide
theorem flat_one (l:List UInt8):flat [⟨l.toArray⟩]=l:=by simp[flat]
theorem join_new {B g:Nat} {keeps:Bool} {acc:List UInt8} {w:World} (ss:List ByteArray) (c:Nat) (h:Wr w B g keeps acc) (hlen:acc.length+(flat ss).length≤50000000000) (hn:ss.length≤1000):
 Calls Tryz.prog 107 #[.pointer (some ⟨g,0,none⟩), .slice (some ⟨w.heap.size,0,none⟩) ss.length c] (w.alloc (.cells (ss.map Value.string).toArray 9 (0,0))) fun e w'=>e= .returned (.tuple #[])∧Wr w' B g keeps (acc++flat ss)∧Below B w w'∧Kept g w w':=by
 have hlt:=h.lt
 have hb:=h.base
 refine(join_calls B g keeps acc ss w.heap.size c _ (h.below ((Below.refl _ _).alloc (Nat.le_refl _) _)) (heap_alloc_new _ _) (by omega) hlen hn).mono ?_
 rintro e w' ⟨rfl,h1,h2,h3⟩
 exact⟨rfl,h1,((Below.refl B w).alloc (by omega) _).trans h2,((Lib.OthersKept.refl _ _ w).alloc _).trans h3⟩
set_option maxHeartbeats 1000000 in
theorem writes_bool (W:World) (B g p:Nat) (keeps:Bool) (acc:List UInt8) (b:Bool) (v2 v3 v4 v5:Value) (k:Value) (hp:W.heap[p]? =some (.cells #[k, .bool b,v2,v3,v4,v5] 39 (0,0)))
 (hW:Wr W B g keeps acc) (hlen:acc.length≤20000000000):
 Calls Tryz.prog 106 #[.pointer (some ⟨g,0,none⟩), .pointer (some ⟨p,0,none⟩)] W fun e W'=>e= .returned (.tuple #[])∧Wr W' B g keeps (acc++Lib.formatBool b)∧Below B W W'∧Kept g W W':=by
 have c1:W.cell? ⟨p,1,none⟩=some (.bool b):=(Lib.cell_of_heap hp 1).trans rfl
 have hj:=join_new [⟨(Lib.formatBool b).toArray⟩] 1 hW (by rw[flat_one];have:=formatBool_len b;omega) (by simp)
 rw[flat_one]at hj
 have cB:=Tryz.strconv_FormatBool b W
 generalize Lib.formatBool b=L at hj cB ⊢
 have HJ:=Lib.hid hj
 have CB:=Lib.hid cB
 clear hj cB
 go_enter Tryz.func106,Tryz.ntmps106
 go_wp2_with (first|(go_at_call 108;refine(CB.out).mono ?_;rintro e wx ⟨rfl,hwx⟩;subst hwx)|(go_at_call 107;refine(HJ.out).mono ?_;rintro e w2 ⟨rfl,h1,h2,h3⟩))
 go_end0
 exact⟨rfl,h1,h2,h3⟩
set_option maxHeartbeats 1000000 in
theorem writes_int (W:World) (B g p:Nat) (keeps:Bool) (acc:List UInt8) (n:Int) (v1 v3 v4 v5:Value) (k:Value) (hp:W.heap[p]? =some (.cells #[k,v1, .int .i64 n,v3,v4,v5] 39 (0,0)))
 (hT:Tabs W) (hn0: -9223372036854775808≤n) (hn1:n≤9223372036854775807) (_hpg:p≠g) (hW:Wr W B g keeps acc) (hlen:acc.length≤20000000000):
 Calls Tryz.prog 109 #[.pointer (some ⟨g,0,none⟩), .pointer (some ⟨p,0,none⟩)] W fun e W'=>e= .returned (.tuple #[])∧Wr W' B g keeps (acc++Lib.itoa n)∧Below B W W'∧Kept g W W':=by
 have c1:W.cell? ⟨p,2,none⟩=some (.int .i64 n):=(Lib.cell_of_heap hp 2).trans rfl
 have hl:=Lib.itoa_length_le n hn0 hn1
 have cB:=Tryz.strconv_FormatInt_10 n hn0 hn1 W hT.2.2
 have hj: ∀w1,Below W.heap.size W w1→Calls Tryz.prog 107 #[.pointer (some ⟨g,0,none⟩), .slice (some ⟨w1.heap.size,0,none⟩) 1 1] (w1.alloc (.cells #[.string ⟨(Lib.itoa n).toArray⟩] 9 (0,0))) fun e w'=>e= .returned (.tuple #[])∧Wr w' B g keeps (acc++Lib.itoa n)∧Below B w1 w'∧Kept g w1 w':=fun w1 hb=>by
  have:=join_new [⟨(Lib.itoa n).toArray⟩] 1 (hW.below hb) (by rw[flat_one];omega) (by simp)
  rwa [flat_one]at this
 have hB:=hW.base
 have hlt:=hW.lt
 generalize Lib.itoa n=L at hj cB ⊢
 have HJ:=Lib.hid hj
 have CB:=Lib.hid cB
 clear hj cB hl hp
 go_enter Tryz.func109,Tryz.ntmps109
 go_wp2_with (first|(go_at_call 110;refine(CB.out).mono ?_;rintro e w1 ⟨rfl,kk,os,hwx⟩;have hb1:Below W.heap.size W w1:=hwx▸grow_below W kk os;clear hwx)|(go_at_call 107;refine(HJ.out _ hb1).mono ?_;rintro e w2 ⟨rfl,h1,h2,h3⟩))
 go_end0
 exact⟨rfl,h1,(hb1.mono (by omega)).trans h2,fun j o hj hg ho=>h3 j o ((hb1.block j (Array.getElem?_eq_some_iff.1 hj).1).trans hj) hg ho⟩
set_option maxHeartbeats 1000000 in
theorem writes_null (W:World) (B g:Nat) (keeps:Bool) (acc:List UInt8) (hW:Wr W B g keeps acc) (hlen:acc.length≤20000000000):
 Calls Tryz.prog 117 #[.pointer (some ⟨g,0,none⟩)] W fun e W'=>e= .returned (.tuple #[])∧Wr W' B g keeps (acc++ [110,117,108,108])∧Below B W W'∧Kept g W W':=by
 have hj:=join_new [⟨#[110,117,108,108]⟩] 1 hW (by simp[flat];omega) (by simp)
 have HJ:=Lib.hid hj
 clear hj
 go_enter Tryz.func117,Tryz.ntmps117
 go_wp2_with (go_at_call 107;refine(HJ.out).mono ?_;rintro e w2 ⟨rfl,h1,h2,h3⟩)
 go_end0
 exact⟨rfl,h1,h2,h3⟩
theorem quote_calls (s:ByteArray) (w:World) (hT:Tabs w) (hs:s.size≤1000000000) (hv:validB s=true):
 Calls Tryz.prog 112 #[.string s] w fun e w'=>e= .returned (.string ⟨(quoteB s).toArray⟩)∧Below w.heap.size w w':=by
 have cQ:=Quote_valid s w hT hs hv
 unfold quoteB
 generalize 34::quoteRunes (runes s)++ [34]=L at cQ ⊢
 have CQ:=Lib.hid cQ
 clear cQ
 go_enter Tryz.func112,Tryz.ntmps112
 go_wp2_with (go_at_call 163;refine(CQ.out).mono ?_;rintro e w2 ⟨rfl,h1⟩)
 go_ret
 exact⟨rfl,h1⟩
theorem quoteB_len (s:ByteArray):(quoteB s).length≤6*s.size+2:=by
 have e1:=quoteRunes_len (runes s)
 have e3:=runesFrom_len s.size s.data.toList 0
 unfold runes at e1
 unfold quoteB runes
 simp only[List.length_cons,List.length_append,List.length_nil]
 omega
set_option maxHeartbeats 1000000 in
theorem writes_text (W:World) (B g p:Nat) (keeps:Bool) (acc:List UInt8) (t:ByteArray) (v1 v2 v4 v5:Value) (k:Value) (hp:W.heap[p]? =some (.cells #[k,v1,v2, .string t,v4,v5] 39 (0,0)))
 (hT:Tabs W) (hv:validB t=true) (ht:t.size≤1000000000) (_hpg:p≠g) (hW:Wr W B g keeps acc) (hlen:acc.length≤20000000000):
 Calls Tryz.prog 111 #[.pointer (some ⟨g,0,none⟩), .pointer (some ⟨p,0,none⟩)] W fun e W'=>e= .returned (.tuple #[])∧Wr W' B g keeps (acc++quoteB t)∧Below B W W'∧Kept g W W':=by
 have c1:W.cell? ⟨p,3,none⟩=some (.string t):=(Lib.cell_of_heap hp 3).trans rfl
 have hl:=quoteB_len t
 have cB:=quote_calls t W hT ht hv
 have hj: ∀w1,Below W.heap.size W w1→Calls Tryz.prog 107 #[.pointer (some ⟨g,0,none⟩), .slice (some ⟨w1.heap.size,0,none⟩) 1 1] (w1.alloc (.cells #[.string ⟨(quoteB t).toArray⟩] 9 (0,0))) fun e w'=>e= .returned (.tuple #[])∧Wr w' B g keeps (acc++quoteB t)∧Below B w1 w'∧Kept g w1 w':=fun w1 hb=>by
  have:=join_new [⟨(quoteB t).toArray⟩] 1 (hW.below hb) (by rw[flat_one];omega) (by simp)
  rwa [flat_one]at this
 have hB:=hW.base
 have hlt:=hW.lt
 generalize quoteB t=L at hj cB ⊢
 have HJ:=Lib.hid hj
 have CB:=Lib.hid cB
 clear hj cB hl hp
 go_enter Tryz.func111,Tryz.ntmps111
 go_wp2_with (first|(go_at_call 112;refine(CB.out).mono ?_;rintro e w1 ⟨rfl,hb1⟩)|(go_at_call 107;refine(HJ.out _ hb1).mono ?_;rintro e w2 ⟨rfl,h1,h2,h3⟩))
 go_end0
 exact⟨rfl,h1,(hb1.mono (by omega)).trans h2,fun j o hj hg ho=>h3 j o ((hb1.block j (Array.getElem?_eq_some_iff.1 hj).1).trans hj) hg ho⟩
theorem between_calls (i:Int) (w:World):Calls Tryz.prog 114 #[.int .i64 i] w fun e w'=>e= .returned (.string ⟨(if i=0 then []else [44]:List UInt8).toArray⟩)∧w=w':=by
 by_cases h:i=0
 · subst h
   go_enter Tryz.func114,Tryz.ntmps114
   go_wp2
   go_ret
   exact⟨rfl,rfl⟩
 · have e:(i==0)=false:=by simpa using h
   rw[if_neg h]
   clear h
   go_enter Tryz.func114,Tryz.ntmps114
   go_wp2
   go_ret
   exact⟨rfl,rfl⟩
end Go.Proofs.YtackmnbpfbaemaaGreatDoor
