/- Parts, joined: What writes a list's text. Condition: a bulk of at most 10^9. What goes over an object's members: their keys as they are written, and what writes their values. Condition: keys and values in a bulk of at most 10^9. -/
import Derived.Test.YtkkbplakgldlpaaGreatDoorProg
import Derived.LoopIn
import Derived.Stop.RegionWithIn
import Derived.LoopNIn
import Derived.Test.YtkkbplakgldlpaaGreatDoorKMu8
import Derived.Test.YtkkbplakgldlpaaGreatDoorKMu9
namespace Go.Proofs.YtkkbplakgldlpaaGreatDoor
open Go.RowKit
theorem okL_mem {l:List Val} (h:okL l) {v:Val} (hv:v ∈ l):okV v:=by
 induction l with
 |nil=>cases hv
 |cons x r ih=>
  simp only[okL]at h
  rcases List.mem_cons.1 hv with rfl|hv
  · exact h.1
  · exact ih h.2 hv
theorem okO_mem {l:List (ByteArray×Val)} (h:okO l) {m:ByteArray×Val} (hv:m ∈ l):validB m.1=true∧okV m.2:=by
 induction l with
 |nil=>cases hv
 |cons x r ih=>
  obtain⟨k,v⟩:=x
  simp only[okO,okP]at h
  rcases List.mem_cons.1 hv with rfl|hv
  · exact h.1
  · exact ih h.2 hv
theorem textL_len: ∀(l:List Val),(∀v ∈ l,okV v→(textV v).length+1≤6*v.bulk)→okL l→ ∀f,(textL l f).length≤6*bulkL l
 | [],_,_,f=>by simp[textL]
 |v::r,ih,ho,f=>by
  simp only[okL]at ho
  have h1:=ih v (by simp) ho.1
  have h2:=textL_len r (fun x hx=>ih x (by simp[hx])) ho.2 false
  simp only[textL,bulkL,List.length_append]
  split<;>simp<;>omega
theorem textO_len: ∀(l:List (ByteArray×Val)),(∀m ∈ l,okV m.2→(textV m.2).length+1≤6*m.2.bulk)→okO l→ ∀f,(textO l f).length≤6*bulkO l
 | [],_,_,f=>by simp[textO]
 |(k,v)::r,ih,ho,f=>by
  simp only[okO,okP]at ho
  have h1:=ih (k,v) (by simp) ho.1.2
  have h2:=textO_len r (fun x hx=>ih x (by simp[hx])) ho.2 false
  have h3:=quoteB_len k
  simp only[textO,textP,bulkO,bulkP,List.length_append,List.length_cons]
  simp only at h1
  split<;>simp<;>omega
theorem textV_len: ∀(v:Val),okV v→(textV v).length+1≤6*v.bulk:=by
 refine Val.ind ?_
 intro k b n t l o hl ho h
 simp only[okV]at h
 have h1:=textL_len l hl h.2.2.1 true
 have h2:=textO_len o ho h.2.2.2 true
 have h3:=formatBool_len b
 have h4:=Lib.itoa_length_le n h.2.1.1 h.2.1.2
 have h5:=quoteB_len t
 simp only[textV,Val.bulk]
 repeat' split
 all_goals(try simp only[List.length_cons,List.length_append,List.length_nil])
 all_goals omega
theorem textL_snoc (v:Val): ∀(a:List Val) (f:Bool),textL (a++ [v]) f=textL a f++((if f&&a.isEmpty then []else [44])++textV v)
 | [],f=>by cases f<;>simp[textL]
 |x::r,f=>by
  simp only[List.cons_append,textL,textL_snoc v r false]
  simp[List.append_assoc]
theorem textO_snoc (p:ByteArray×Val): ∀(a:List (ByteArray×Val)) (f:Bool),textO (a++ [p]) f=textO a f++((if f&&a.isEmpty then []else [44])++textP p)
 | [],f=>by cases f<;>simp[textO]
 |x::r,f=>by
  simp only[List.cons_append,textO,textO_snoc p r false]
  simp[List.append_assoc]
theorem bulkL_split {l:List Val} {k:Nat} {v:Val} (h:l[k]? =some v):bulkL l=bulkL (l.take k)+(v.bulk+bulkL (l.drop (k+1))):=by
 have h1: ∀a b:List Val,bulkL (a++b)=bulkL a+bulkL b:=by
  intro a b
  induction a with
  |nil=>simp[bulkL]
  |cons x r ih=>simp only[List.cons_append,bulkL,ih];omega
 have h2:l=l.take k++(v::l.drop (k+1)):=by rw[←drop_of_get h,List.take_append_drop]
 conv=>lhs;rw[h2,h1]
 rfl
theorem bulkO_split {l:List (ByteArray×Val)} {k:Nat} {p:ByteArray×Val} (h:l[k]? =some p):bulkO l=bulkO (l.take k)+(bulkP p+bulkO (l.drop (k+1))):=by
 have h1: ∀a b:List (ByteArray×Val),bulkO (a++b)=bulkO a+bulkO b:=by
  intro a b
  induction a with
  |nil=>simp[bulkO]
  |cons x r ih=>simp only[List.cons_append,bulkO,ih];omega
 have h2:l=l.take k++(p::l.drop (k+1)):=by rw[←drop_of_get h,List.take_append_drop]
 conv=>lhs;rw[h2,h1]
 rfl
theorem okL_take {l:List Val} (h:okL l) (k:Nat):okL (l.take k):=by
 induction l generalizing k with
 |nil=>simp[okL]
 |cons x r ih=>
  cases k with
  |zero=>simp[okL]
  |succ k=>simp only[okL]at h;simp only[List.take_succ_cons,okL];exact⟨h.1,ih h.2 k⟩
theorem Kept.cells {g j:Nat} {A W:World} (h:Kept g A W) {cs:Array Value} {t:TypeId} {fz:Nat×Nat} (hj:A.heap[j]? =some (.cells cs t fz)) (hg:j≠g) (ht:t≠5):W.heap[j]? =some (.cells cs t fz):=
 h j _ hj (by simpa using hg) (fun c fz e=>by injection e with _ e2 _;exact ht e2)
set_option maxHeartbeats 4000000 in
set_option maxRecDepth 100000 in
theorem writes_list (l:List Val) (IH: ∀v ∈ l,WritesC v) (W:World) (B g p:Nat) (h5:5≤B) (keeps:Bool) (acc:List UInt8) (la:Option Addr) (lc:Nat) (v0 v1 v2 v3 v5:Value)
 (hp:W.heap[p]? =some (.cells #[v0,v1,v2,v3,.slice la l.length lc,v5] 27 (0,0)))
 (gl off:Nat) (hla:l= []∨(la=some ⟨gl,off,none⟩∧gl<B∧HoldsL W B l gl off)) (hT:Tabs W) (hpg:p≠g) (hW:Wr W B g keeps acc) (hok:okL l) (hlen:acc.length+6*(6+bulkL l)≤20000000000) (hb:bulkL l≤1000000000):
 Calls Tryz.prog 126 #[.pointer (some ⟨g,0,none⟩),.pointer (some ⟨p,0,none⟩)] W fun e W'=>e=.returned (.tuple #[])∧Wr W' B g keeps (acc++91::(textL l true++ [93]))∧Below B W W'∧Kept g W W':=by
 have hll:l.length≤1000000000:=by have:=bulkL_len l;omega
 have hj1:=join_new [⟨#[91]⟩] 1 hW (by simp[flat];omega) (by simp)
 have HJ1:=Lib.hid hj1
 clear hj1
 have HP:=Lib.hid hp
 go_enter Tryz.func126,Tryz.ntmps126
 go_wp2_with (go_at_call 120;refine(HJ1.out).mono ?_;rintro e w1 ⟨rfl,hw1,hb1,hk1⟩;have hp1:=hk1.cells HP.out hpg (by decide);have c4:w1.cell? ⟨p,4,none⟩=some (.slice la l.length lc):=(Lib.cell_of_heap hp1 4).trans rfl)
 have hw1':Wr w1 B g keeps (acc++91::textL (l.take 0) true):=by simpa[flat,textL]using hw1
 clear c4 hp1 hw1 HJ1
 go_loopw [11] (fun i wr=> ∃k:Nat,k≤l.length∧i=.int .i64 k∧Wr wr B g keeps (acc++91::textL (l.take k) true)∧Below B W wr∧Kept g W wr) (fun i _=>l.length - (intOf i).toNat)
 case atStart=>exact⟨0,Nat.zero_le _,rfl,hw1',hb1,hk1⟩
 case round=>
  obtain⟨k,hk,rfl,hw,hbw,hkw⟩:=hrel
  clear hw1' hb1 hk1
  have hBg:=hw.base
  by_cases hlt:k<l.length
  · obtain⟨rfl,hg,hL⟩:la=some ⟨gl,off,none⟩∧gl<B∧HoldsL W B l gl off:=by
     rcases hla with rfl|h
     · simp at hlt
     · exact h
    obtain⟨v,hv⟩: ∃v,l[k]? =some v:=⟨_,List.getElem?_eq_getElem hlt⟩
    have hmem:v ∈ l:=List.mem_of_getElem? hv
    have hsp:=bulkL_split hv
    have IHv:=Lib.hid (IH v hmem)
    have hokv:=okL_mem hok hmem
    have htk:l.take (k+1)=l.take k++ [v]:=by rw[List.take_add_one,hv];rfl
    have htl:=textL_len (l.take k) (fun x _=>textV_len x) (okL_take hok k) true
    have hfin:acc++91::textL (l.take (k+1)) true=((acc++91::textL (l.take k) true)++(if(k:Int)=0 then []else [44]))++textV v:=by
     rw[htk,textL_snoc]
     have e:((true&&(l.take k).isEmpty)=true) ↔ (k:Int)=0:=by
      rw[Bool.true_and,List.isEmpty_iff]
      constructor
      · intro h
        have:=congrArg List.length h
        rw[List.length_take,List.length_nil]at this
        omega
      · intro h
        have:k=0:=by omega
        subst this
        rfl
     by_cases h0:(k:Int)=0
     · rw[if_pos h0,if_pos (e.2 h0)];simp
     · rw[if_neg h0,if_neg (fun h=>h0 (e.1 h))];simp
    have hpos:=v.bulk_pos
    have hlenA:(acc++91::textL (l.take k) true).length+6*(v.bulk+1)≤20000000000:=by
     rw[List.length_append,List.length_cons];omega
    generalize acc++91::textL (l.take k) true=A at*
    have Hfin:=Lib.hid hfin
    clear hfin htk htl IH hla
    obtain⟨k',b',n',t',l',o'⟩:=v
    have hLr:=hL.below hg hbw
    obtain⟨la',lc',oa',oc',hvs,c0,c1,c2,c3,c4,c5⟩:=hLr.six hv
    clear hL hLr hv hmem hok
    obtain⟨wA,hwA⟩: ∃wA,wr.alloc (.cells #[.int .i64 k',.bool b',.int .i64 n',.string t',.slice la' l'.length lc',.slice oa' o'.length oc'] 27)=wA:=⟨_,rfl⟩
    have hAw:Below wr.heap.size wr wA:=by rw[←hwA];exact(Below.refl _ _).alloc (Nat.le_refl _) _
    have hbox:wA.heap[wr.heap.size]? =some (.cells #[.int .i64 k',.bool b',.int .i64 n',.string t',.slice la' l'.length lc',.slice oa' o'.length oc'] 27 (0,0)):=by rw[←hwA];exact heap_alloc_new _ _
    have hgw:=hw.lt
    have HTr:=Lib.hid (fun W' (hb':Below B wr W')=>hT.keep (hbw.trans hb') h5)
    have HVr:=Lib.hid (fun W' (hb':Below B wr W')=>hvs.below hb')
    have hszA:wA.heap.size=wr.heap.size+1:=by rw[←hwA];simp
    have hj: ∀(S:List UInt8),S.length≤1→Calls Tryz.prog 120 #[.pointer (some ⟨g,0,none⟩),.slice (some ⟨wA.heap.size,0,none⟩) 1 1] (wA.alloc (.cells #[.string ⟨S.toArray⟩] 9 (0,0))) fun e w'=>e=.returned (.tuple #[])∧Wr w' B g keeps (A++S)∧Below B wA w'∧Kept g wA w':=fun S hS=>by
     have:=join_new [⟨S.toArray⟩] 1 (hw.below hAw) (by rw[flat_one];omega) (by simp)
     rwa [flat_one]at this
    have hj1:=hj (if(k:Int)=0 then []else [44]) (by split<;>simp)
    have hs2:(if(k:Int)=0 then []else [44]:List UInt8).length≤1:=by split<;>simp
    have cBt:=between_calls (k:Int) wA
    generalize (if(k:Int)=0 then []else [44]:List UInt8)=S at hj1 hs2 cBt Hfin
    rw[hszA]at hj1
    subst hwA
    have HJ:=Lib.hid hj1
    have CB:=Lib.hid cBt
    clear hj1 hj cBt
    have HOK:=Lib.hid hokv
    have ent:=enters_ownF
    clear hokv hvs
    have HB:=Lib.hid hbox
    have hne:wr.heap.size≠g:=by omega
    go_wp2_with (first|(go_at_call 127;refine(CB.out).mono ?_;rintro e wx ⟨rfl,rfl⟩)|(go_at_call 120;refine(HJ.out).mono ?_;rintro e w2 ⟨rfl,h1,h2,h3⟩;have hz2:=h1.lt;have hb2:=h3.cells HB.out hne (by decide);have d0:w2.cell? ⟨wr.heap.size,0,none⟩=some (.int .i64 k'):=(Lib.cell_of_heap hb2 0).trans rfl;have d1:w2.cell? ⟨wr.heap.size,1,none⟩=some (.bool b'):=(Lib.cell_of_heap hb2 1).trans rfl;have d2:w2.cell? ⟨wr.heap.size,2,none⟩=some (.int .i64 n'):=(Lib.cell_of_heap hb2 2).trans rfl;have d3:w2.cell? ⟨wr.heap.size,3,none⟩=some (.string t'):=(Lib.cell_of_heap hb2 3).trans rfl;have d4:w2.cell? ⟨wr.heap.size,4,none⟩=some (.slice la' l'.length lc'):=(Lib.cell_of_heap hb2 4).trans rfl;have d5:w2.cell? ⟨wr.heap.size,5,none⟩=some (.slice oa' o'.length oc'):=(Lib.cell_of_heap hb2 5).trans rfl)|(go_at_call 82;refine(own_calls k' b' n' t' la' oa' l'.length lc' o'.length oc' w2).mono ?_;rintro e w3 ⟨rfl,rfl⟩)|(go_at_fn (ownF k');refine(IHv.out _ B g w2.heap.size keeps (A++S) (cells6 k' b' n' t' la' l'.length lc' oa' o'.length oc') k' b' n' t' l' o' rfl h5 (HTr.out _ ?_) (HVr.out _ ?_) (heap_alloc_new _ _) ?_ (h1.below ((Below.refl _ _).alloc (Nat.le_refl _) _)) HOK.out ?_ ?_).mono ?_;rotate_right;rintro e w4 ⟨rfl,h6,h7,h8⟩))
    go_roundw
    case rel=>
     refine⟨k+1,by omega,by go_num, ?_,hbw.trans ((((Below.refl B wr).alloc (by omega) _).trans h2).trans (((Below.refl B w2).alloc (by omega) _).trans h7)),(hkw.trans (((Lib.OthersKept.refl _ _ wr).alloc _).trans h3)).trans (((Lib.OthersKept.refl _ _ w2).alloc _).trans h8)⟩
     rw[Hfin.out]
     exact h6
    case measure=>simp[intOf];omega
    · exact(((Below.refl B wr).alloc (by omega) _).trans h2).alloc (by omega) _
    · exact(((Below.refl B wr).alloc (by omega) _).trans h2).alloc (by omega) _
    · omega
    · omega
    · rw[List.length_append];omega
  · obtain rfl:k=l.length:=by omega
    rw[List.take_length]at hw
    have htl:=textL_len l (fun x _=>textV_len x) hok true
    have hj2:=join_new [⟨#[93]⟩] 1 hw (by rw[List.length_append,List.length_cons];simp[flat];omega) (by simp)
    have HJ:=Lib.hid hj2
    clear hj2 htl hok
    have hgw:=hw.lt
    have hBg:=hw.base
    have e:flat [⟨#[93]⟩]= [93]:=by simp[flat]
    go_wp2_with (go_at_call 120;refine(HJ.out).mono ?_;rintro e w2 ⟨rfl,h1,h2,h3⟩)
    go_end0
    rw[e,List.append_assoc,List.cons_append]at h1
    exact⟨rfl,h1,hbw.trans h2,hkw.trans h3⟩
end Go.Proofs.YtkkbplakgldlpaaGreatDoor

namespace Go.Proofs.YtkkbplakgldlpaaGreatDoor
open Go.RowKit
attribute [local go_sem] Oper.semAt_some
def marks:List (ByteArray×Val)→Bool→List (Bool×(ByteArray×Val))
 | [],_=> []
 |p::r,f=>(f,p)::marks r false
def Val.kind:Val→Int
 | .mk k _ _ _ _ _=>k
def memText (x:Bool×(ByteArray×Val)):ByteArray:=(⟨(if x.1 then []else [44]:List UInt8).toArray⟩:ByteArray)++⟨(quoteB x.2.1).toArray⟩
def memEnc (x:Bool×(ByteArray×Val)) (q:Nat):Array Value:=
 #[.string (memText x),.func (.func (ownF x.2.2.kind)) #[] (ownCaps x.2.2.kind q)]
def MemBox (W0:World) (B G:Nat) (x:Bool×(ByteArray×Val)) (q:Nat) (A:World):Prop:=
 G<q∧ ∃cs,A.heap[q]? =some (.cells cs.toArray 27 (0,0))∧HoldsV W0 B x.2.2 cs
theorem members_calls (oa:Option Addr) (on oc:Nat) (w:World):
 Calls Tryz.prog 129 #[.slice oa on oc] w fun e w'=>e=.returned (.func (.func 167) #[] #[.pointer (some ⟨w.heap.size,0,none⟩)])∧w.alloc (.cells #[.slice oa on oc] 25)=w':=by
 go_enter Tryz.func129,Tryz.ntmps129
 go_wp2
 go_ret
 exact⟨rfl,rfl⟩
set_option maxRecDepth 100000 in
set_option maxHeartbeats 4000000 in
theorem members_yields (o:List (ByteArray×Val)) (W0:World) (B G p:Nat) (oa:Option Addr) (oc:Nat) (go off:Nat) (h5:5≤B) (hT:Tabs W0)
 (hoa:o= []∨(oa=some ⟨go,off,none⟩∧go<B∧HoldsO W0 B o go off)) (hok:okO o) (hb:bulkO o≤1000000000):
 YieldsE Tryz.prog 167 #[.pointer (some ⟨p,0,none⟩)] memEnc (MemBox W0 B G) (marks o true)
  (fun A=>A.heap[p]? =some (.cells #[.slice oa o.length oc] 25 (0,0))∧Below B W0 A∧G<A.heap.size):=by
 intro n l J W hJn hJb hY h0
 have hoo:o.length≤1000000000:=by have:=bulkO_len o;omega
 have hmx:Tryz.prog.follows .mixedOrders=true:=by kernel_rfl
 have hc0:W.cell? ⟨p,0,none⟩=some (.slice oa o.length oc):=(Lib.cell_of_heap (hJb _ _ h0).1 0).trans rfl
 refine callsIn_of_wp Tryz.func167 rfl trivial ?_ rfl
 simp only[Tryz.ntmps167,List.size_toArray,List.length_cons,List.length_nil,Nat.reduceAdd,Nat.reduceSub,Array.replicate_succ,Array.replicate_zero,List.push_toArray,List.append_toArray,List.nil_append,List.cons_append]
 gi_wp2
 gi_loopw [7] (fun i wr=> ∃(pre:List (Bool×(ByteArray×Val))) (k:Nat),i=.int .i64 k∧k≤o.length∧Hid (marks o true=pre++marks (o.drop k) (decide ((k:Int)=0)))∧J pre wr) (fun i _=>o.length - (intOf i).toNat)
 case atStart=>exact⟨[],0,rfl,Nat.zero_le _,rfl,h0⟩
 case round=>
  obtain⟨pre,k,rfl,hk,hr,hJ⟩:=hrel
  obtain⟨hp,hbw,hG⟩:=hJb _ _ hJ
  by_cases hlt:k<o.length
  · obtain⟨rfl,hg,hO⟩:oa=some ⟨go,off,none⟩∧go<B∧HoldsO W0 B o go off:=by
     rcases hoa with rfl|h
     · simp at hlt
     · exact h
    obtain⟨m,hm⟩: ∃m,o[k]? =some m:=⟨_,List.getElem?_eq_getElem hlt⟩
    have hmem:m ∈ o:=List.mem_of_getElem? hm
    have hsp:=bulkO_split hm
    have hokm:=okO_mem hok hmem
    have hTr:Tabs wr:=hT.keep hbw h5
    have hr':=hr.out
    rw[drop_of_get hm]at hr'
    simp only[marks]at hr'
    have hk1:decide (((k+1:Nat):Int)=0)=false:=by simp;omega
    obtain⟨key,v⟩:=m
    obtain⟨k',b',n',t',l',o'⟩:=v
    obtain⟨la',lc',oa',oc',hvs,c0,c1,c2,c3,c4,c5,c6⟩:=hO.seven hm
    replace c0:=(hbw.cell (p:=⟨go,off+k*7,none⟩) hg).trans c0
    replace c1:=(hbw.cell (p:=⟨go,off+k*7+1,none⟩) hg).trans c1
    replace c2:=(hbw.cell (p:=⟨go,off+k*7+2,none⟩) hg).trans c2
    replace c3:=(hbw.cell (p:=⟨go,off+k*7+3,none⟩) hg).trans c3
    replace c4:=(hbw.cell (p:=⟨go,off+k*7+4,none⟩) hg).trans c4
    replace c5:=(hbw.cell (p:=⟨go,off+k*7+5,none⟩) hg).trans c5
    replace c6:=(hbw.cell (p:=⟨go,off+k*7+6,none⟩) hg).trans c6
    have HY:Hid (∀(A:World) (q:Nat),G<q→A.heap[q]? =some (.cells #[.int .i64 k',.bool b',.int .i64 n',.string t',.slice la' l'.length lc',.slice oa' o'.length oc'] 27 (0,0))→Below wr.heap.size wr A→
     YieldAt Fence.wide n Tryz.prog l #[.string ((⟨(if decide ((k:Int)=0)then []else [44]:List UInt8).toArray⟩:ByteArray)++⟨(quoteB key).toArray⟩),.func (.func (ownF k')) #[] (ownCaps k' q)] A fun e B=>e=.returned (.bool true)∧J (pre++ [(decide ((k:Int)=0),key,.mk k' b' n' t' l' o')]) B):=by
     show ∀_ _,_
     intro A q hq hA hb
     have hM:MemBox W0 B G (decide ((k:Int)=0),key,.mk k' b' n' t' l' o') q A:=⟨hq,cells6 k' b' n' t' la' l'.length lc' oa' o'.length oc',hA,hvs⟩
     have:=hY pre _ _ q A hr' (hJn _ _ _ hJ hb) hM
     simp only[memEnc,memText,Val.kind]at this
     exact this
    have Hr2:Hid (marks o true=(pre++ [(decide ((k:Int)=0),key,.mk k' b' n' t' l' o')])++marks (o.drop (k+1)) (decide (((k+1:Nat):Int)=0))):=by
     show _=_
     rw[hk1,hr'];simp
    have cB: ∀w,Calls Tryz.prog 127 #[.int .i64 k] w fun e w'=>e=.returned (.string ⟨(if decide ((k:Int)=0)then []else [44]:List UInt8).toArray⟩)∧w=w':=by
     intro w
     have:=between_calls (k:Int) w
     simpa only[decide_eq_true_eq]using this
    have hkz:key.size≤1000000000:=by simp only[bulkP]at hsp;omega
    have cQ: ∀w,Tabs w→Calls Tryz.prog 125 #[.string key] w fun e w'=>e=.returned (.string ⟨(quoteB key).toArray⟩)∧Below w.heap.size w w':=fun w hw=>quote_calls key w hw hkz hokm.1
    clear hr hr' hsp hokm hmem hm hO hvs hoa hY hk1 hok
    have hS1:(⟨(if decide ((k:Int)=0)then []else [44]:List UInt8).toArray⟩:ByteArray).size≤1:=by
     split<;>simp[ByteArray.size]
    have hS2:(⟨(quoteB key).toArray⟩:ByteArray).size≤6000000002:=by
     have:=quoteB_len key
     simp only[ByteArray.size,List.size_toArray];omega
    generalize (⟨(if decide ((k:Int)=0)then []else [44]:List UInt8).toArray⟩:ByteArray)=S at HY cB hS1
    generalize (⟨(quoteB key).toArray⟩:ByteArray)=Q at HY cQ hS2
    have hSQ:((S.size:Int)+(Q.size:Int)>9223372036854775807)=False:=by simp;omega
    have hSQ2:((S.size+Q.size:Nat):Int)>IntKind.i64.max ↔ False:=by
     have e:IntKind.i64.max=9223372036854775807:=rfl
     simp only[iff_false,e];omega
    have CB:=Lib.hid cB
    have CQ:=Lib.hid cQ
    clear cB cQ
    have HJn:=Lib.hid hJn
    have HJb:=Lib.hid hJb
    have HTr:=Lib.hid hTr
    have Hbw:=Lib.hid hbw
    have HJ:=Lib.hid hJ
    have Hp:=Lib.hid hp
    clear hc0 h0 hb hT hJn hJb hmx hTr hbw hJ hp
    have hGr:=hG
    gi_wp2
    obtain⟨A,hA⟩: ∃A,wr.alloc (.cells #[.string key,.int .i64 k',.bool b',.int .i64 n',.string t',.slice la' l'.length lc',.slice oa' o'.length oc'] 63)=A:=⟨_,rfl⟩
    have hAb:Below wr.heap.size wr A:=by rw[←hA];exact(Below.refl _ _).alloc (Nat.le_refl _) _
    have hAh:A.heap[wr.heap.size]? =some (.cells #[.string key,.int .i64 k',.bool b',.int .i64 n',.string t',.slice la' l'.length lc',.slice oa' o'.length oc'] 63 (0,0)):=by rw[←hA];exact heap_alloc_new _ _
    rw[hA]
    have hAz:=(Array.getElem?_eq_some_iff.1 hAh).1
    have hDb:Below wr.heap.size wr A.drew:=Below.drew hAb
    have hTD:Tabs A.drew:=HTr.out.keep hDb HTr.out.1
    have hDh:A.drew.heap[wr.heap.size]? =some (.cells #[.string key,.int .i64 k',.bool b',.int .i64 n',.string t',.slice la' l'.length lc',.slice oa' o'.length oc'] 63 (0,0)):=hAh
    clear hA c0 c1 c2 c3 c4 c5 c6 hAb
    have hGs:G<wr.heap.size:=hG
    have hmx:Tryz.prog.follows .mixedOrders=true:=by kernel_rfl
    have a0:A.drew.cell? ⟨wr.heap.size,0,none⟩=some (.string key):=(Lib.cell_of_heap hDh 0).trans rfl
    have a1:A.drew.cell? ⟨wr.heap.size,1,none⟩=some (.int .i64 k'):=(Lib.cell_of_heap hDh 1).trans rfl
    have a2:A.drew.cell? ⟨wr.heap.size,2,none⟩=some (.bool b'):=(Lib.cell_of_heap hDh 2).trans rfl
    have a3:A.drew.cell? ⟨wr.heap.size,3,none⟩=some (.int .i64 n'):=(Lib.cell_of_heap hDh 3).trans rfl
    have a4:A.drew.cell? ⟨wr.heap.size,4,none⟩=some (.string t'):=(Lib.cell_of_heap hDh 4).trans rfl
    have a5:A.drew.cell? ⟨wr.heap.size,5,none⟩=some (.slice la' l'.length lc'):=(Lib.cell_of_heap hDh 5).trans rfl
    have a6:A.drew.cell? ⟨wr.heap.size,6,none⟩=some (.slice oa' o'.length oc'):=(Lib.cell_of_heap hDh 6).trans rfl
    have HDh:=Lib.hid hDh
    have HTD:=Lib.hid hTD
    have HDb:=Lib.hid hDb
    have HG:=Lib.hid hGs
    clear hDh hTD hDb hGs hG hAz hAh
    gi_region_with (first|(refine⟨trivial, ?_⟩;gi_at_call 127;refine(callsIn_wide.2 (CB.out _)).mono ?_;rintro e wx ⟨rfl,rfl⟩)|(refine⟨trivial, ?_⟩;gi_at_call 125;refine(callsIn_wide.2 (CQ.out _ HTD.out)).mono ?_;rintro e w2 ⟨rfl,hb2⟩;have HB2:=Lib.hid hb2;have d0:=(hb2.block wr.heap.size (Array.getElem?_eq_some_iff.1 HDh.out).1).trans HDh.out;have d1:w2.cell? ⟨wr.heap.size,1,none⟩=some (.int .i64 k'):=(Lib.cell_of_heap d0 1).trans rfl;have d2:w2.cell? ⟨wr.heap.size,2,none⟩=some (.bool b'):=(Lib.cell_of_heap d0 2).trans rfl;have d3:w2.cell? ⟨wr.heap.size,3,none⟩=some (.int .i64 n'):=(Lib.cell_of_heap d0 3).trans rfl;have d4:w2.cell? ⟨wr.heap.size,4,none⟩=some (.string t'):=(Lib.cell_of_heap d0 4).trans rfl;have d5:w2.cell? ⟨wr.heap.size,5,none⟩=some (.slice la' l'.length lc'):=(Lib.cell_of_heap d0 5).trans rfl;have d6:w2.cell? ⟨wr.heap.size,6,none⟩=some (.slice oa' o'.length oc'):=(Lib.cell_of_heap d0 6).trans rfl;clear hb2 d0)|(refine⟨trivial, ?_⟩;gi_at_call 82;refine(callsIn_wide.2 (own_calls k' b' n' t' la' oa' l'.length lc' o'.length oc' w2)).mono ?_;rintro e w3 ⟨rfl,rfl⟩;obtain⟨fn,tmps,assign,body,hy,hR⟩:=HY.out (w2.alloc (.cells #[.int .i64 k',.bool b',.int .i64 n',.string t',.slice la' l'.length lc',.slice oa' o'.length oc'] 27)) w2.heap.size (Nat.lt_of_lt_of_le HG.out (HDb.out.trans (HB2.out.mono HDb.out.size)).size) (heap_alloc_new _ _) (((HDb.out.trans (HB2.out.mono HDb.out.size))).alloc (HDb.out.trans (HB2.out.mono HDb.out.size)).size _))|(refine hR.mono ?_;rintro e W3 ⟨rfl,hJ3⟩;clear hy hR))
    all_goals(
     gi_wp2
     go_roundw
     case rel=>exact⟨_,k+1,by go_num,by omega,Hr2,hJ3⟩
     case measure=>simp[intOf];omega)
  · obtain rfl:k=o.length:=by omega
    have hr':=hr.out
    rw[List.drop_length]at hr'
    simp only[marks,List.append_nil]at hr'
    have Hr:=Lib.hid hr'
    clear hr hr' hoa hbw hT
    gi_wp2
    go_end0
    exact⟨⟨_,rfl⟩,by rw[Hr.out];exact hJ⟩
end Go.Proofs.YtkkbplakgldlpaaGreatDoor
