/- Parts, joined: What writes an object's text. Condition: a bulk of at most 10^9. Every value's writer writes its text. Condition: a bulk of at most 10^9. encode.Text, encode.bytes. Condition: a bulk of at most 10^9. What may stand deep may stand higher; what is within a value that may be, may be. Plain. No condition. A value's text is a text, and clean. Plain. No condition. Values that may be and have the same text are the same. Plain. No condition. -/
import Derived.Test.YtkkbplakgldlpaaGreatDoorProg
import Derived.Shelf.AbstractIn
import Derived.Deep.RegionWith
import Derived.Test.YtkkbplakgldlpaaGreatDoorKMu10
import Derived.Test.YtkkbplakgldlpaaGreatDoorKMu11
namespace Go.Proofs.YtkkbplakgldlpaaGreatDoor
open Go.RowKit
attribute [local go_sem] Oper.semAt_some
theorem marks_split: ∀(o:List (ByteArray×Val)) (f:Bool) {pre:List (Bool×(ByteArray×Val))} {x:Bool×(ByteArray×Val)} {rest:List (Bool×(ByteArray×Val))},marks o f=pre++x::rest→
 x.1=(f&&(pre.map (·.2)).isEmpty)∧o=pre.map (·.2)++x.2::rest.map (·.2)
 | [],f,pre,x,rest,h=>by simp[marks]at h
 |p::r,f, [],x,rest,h=>by
  simp only[marks,List.nil_append,List.cons.injEq]at h
  obtain⟨rfl,h⟩:=h
  have: ∀(l:List (ByteArray×Val)) (f:Bool),(marks l f).map (·.2)=l:=by
   intro l
   induction l with
   |nil=>intro f;rfl
   |cons a l ih=>intro f;simp[marks,ih]
  rw[←h,this]
  simp
 |p::r,f,y::pre,x,rest,h=>by
  simp only[marks,List.cons_append,List.cons.injEq]at h
  obtain⟨rfl,h⟩:=h
  obtain⟨h1,h2⟩:=marks_split r false h
  exact⟨by simpa using h1,by simp[←h2]⟩
theorem marks_all: ∀(l:List (ByteArray×Val)) (f:Bool),(marks l f).map (·.2)=l
 | [],_=>rfl
 |a::l,f=>by simp[marks,marks_all l]
theorem Kept.of_below {g:Nat} {A W:World} (h:Below A.heap.size A W):Kept g A W:=fun j _ hj _ _=>(h.block j (Array.getElem?_eq_some_iff.1 hj).1).trans hj
theorem okO_pre: ∀{a:List (ByteArray×Val)} {b:List (ByteArray×Val)},okO (a++b)→okO a
 | [],_,_=>by simp[okO]
 |x::r,b,h=>by simp only[List.cons_append,okO]at h ⊢;exact⟨h.1,okO_pre h.2⟩
theorem bulkO_pre: ∀(a:List (ByteArray×Val)) (p:ByteArray×Val) (b:List (ByteArray×Val)),bulkO a+bulkP p≤bulkO (a++p::b)
 | [],p,b=>by simp[bulkO]
 |x::r,p,b=>by have:=bulkO_pre r p b;simp only[List.cons_append,bulkO];omega
def OI (W:World) (B g b pm:Nat) (keeps:Bool) (acc:List UInt8) (sl:Value) (pre:List (Bool×(ByteArray×Val))) (A:World):Prop:=
 Wr A B g keeps (acc++123::textO (pre.map (·.2)) true)∧Below B W A∧Kept g W A∧A.heap[b]? =some (.cells #[.pointer (some ⟨g,0,none⟩)] 118 (0,0))∧A.heap[pm]? =some (.cells #[sl] 25 (0,0))
set_option maxRecDepth 100000 in
set_option maxHeartbeats 4000000 in
theorem writes_object (o:List (ByteArray×Val)) (IH: ∀m ∈ o,WritesC m.2) (W:World) (B g p:Nat) (h5:5≤B) (keeps:Bool) (acc:List UInt8) (oa:Option Addr) (oc:Nat) (v0 v1 v2 v3 v4:Value)
 (hp:W.heap[p]? =some (.cells #[v0,v1,v2,v3,v4,.slice oa o.length oc] 27 (0,0)))
 (gl off:Nat) (hoa:o= []∨(oa=some ⟨gl,off,none⟩∧gl<B∧HoldsO W B o gl off)) (hT:Tabs W) (hpg:p≠g) (hW:Wr W B g keeps acc) (hok:okO o) (hlen:acc.length+6*(6+bulkO o)≤20000000000) (hb:bulkO o≤1000000000):
 Calls Tryz.prog 128 #[.pointer (some ⟨g,0,none⟩),.pointer (some ⟨p,0,none⟩)] W fun e W'=>e=.returned (.tuple #[])∧Wr W' B g keeps (acc++123::(textO o true++ [125]))∧Below B W W'∧Kept g W W':=by
 have hoo:o.length≤1000000000:=by have:=bulkO_len o;omega
 have hgW:=hW.lt
 have hBg:=hW.base
 have hpW:=(Array.getElem?_eq_some_iff.1 hp).1
 have hW0:Wr (W.alloc (.cells #[.pointer (some ⟨g,0,none⟩)] 118)) B g keeps acc:=hW.below ((Below.refl _ _).alloc (Nat.le_refl _) _)
 have hb0:Below W.heap.size W (W.alloc (.cells #[.pointer (some ⟨g,0,none⟩)] 118)):=(Below.refl _ _).alloc (Nat.le_refl _) _
 have hB0:=heap_alloc_new W (.cells #[.pointer (some ⟨g,0,none⟩)] 118)
 have hz0:(W.alloc (.cells #[.pointer (some ⟨g,0,none⟩)] 118)).heap.size=W.heap.size+1:=by simp
 have hj1:=join_new [⟨#[123]⟩] 1 hW0 (by simp[flat];omega) (by simp)
 rw[hz0]at hj1
 have HJ1:=Lib.hid hj1
 have HB0:=Lib.hid hB0
 have Hb0:=Lib.hid hb0
 have HP:=Lib.hid hp
 have HOA:=Lib.hid hoa
 have HIH:=Lib.hid IH
 have HOK:=Lib.hid hok
 have HT:=Lib.hid hT
 clear hj1 hB0 hb0 hp hoa IH hok hT hW0
 refine(callsIn_wide (n:=12)).1 ?_
 refine callsIn_of_wp_marks Tryz.func128 rfl trivial ?_ rfl
 simp only[Tryz.ntmps128,List.size_toArray,List.length_cons,List.length_nil,Nat.reduceAdd,Nat.reduceSub,Array.replicate_succ,Array.replicate_zero,List.push_toArray,List.append_toArray,List.nil_append,List.cons_append]
 gi_wp2_with (first|(refine⟨trivial, ?_⟩;gi_at_call 120;refine(callsIn_wide.2 HJ1.out).mono ?_;rintro e w1 ⟨rfl,hw1,hb1,hk1⟩;have hp1:=hk1.cells ((Hb0.out.block p hpW).trans HP.out) hpg (by decide);have c5:w1.cell? ⟨p,5,none⟩=some (.slice oa o.length oc):=(Lib.cell_of_heap hp1 5).trans rfl)|(refine⟨trivial, ?_⟩;gi_at_call 129;refine(callsIn_wide.2 (members_calls oa o.length oc w1)).mono ?_;rintro e w2 ⟨rfl,hw2⟩))
 have hz1:=hw1.lt
 have hbW1:Below B W w1:=(Hb0.out.mono (by omega)).trans hb1
 have hkW1:Kept g W w1:=(Kept.of_below Hb0.out).trans hk1
 have hbx1:=hk1.cells HB0.out (by omega) (by decide)
 have hs1:=hb1.size
 have hWs:W.heap.size<w1.heap.size:=(Array.getElem?_eq_some_iff.1 hbx1).1
 have hg2:Below w1.heap.size w1 w2:=hw2▸(Below.refl _ _).alloc (Nat.le_refl _) _
 have hpm:w2.heap[w1.heap.size]? =some (.cells #[.slice oa o.length oc] 25 (0,0)):=hw2▸heap_alloc_new _ _
 have hbx2:=(hg2.block W.heap.size hWs).trans hbx1
 have hW2:Wr w2 B g keeps (acc++123::textO [] true):=by
  have:=hw1.below hg2
  simpa[flat,textO]using this
 have hb2:Below B W w2:=hbW1.trans (hg2.mono (by omega))
 have hk2:Kept g W w2:=hkW1.trans (Kept.of_below hg2)
 have hz2:=(Array.getElem?_eq_some_iff.1 hpm).1
 clear hw2 hw1 hb1 hk1 hp1 c5 hbW1 hkW1 hbx1 hg2 hs1
 refine wp_range_each (n:=10) (gf:=167) (lb:= #[.pointer (some ⟨w1.heap.size,0,none⟩)]) rfl (enters_of Tryz.func167 (by kernel_rfl) rfl) (members_yields o W B g w1.heap.size oa oc gl off h5 HT.out HOA.out HOK.out hb) (fun _ _=>rfl)
  ?hEp (OI W B g W.heap.size w1.heap.size keeps acc (.slice oa o.length oc)) ?hIn ?hIp ?hIb ?h0 ?a1 ?assign ?body ?done
 case assign=>
  intro l x q W K hK
  dsimp only[memEnc]
  gi_wp2
  exact hK
 case h0=>exact⟨hW2,hb2,hk2,hbx2,hpm⟩
 case hIb=>
  rintro pre A ⟨h1,h2,h3,h4,h6⟩
  exact⟨h6,h2,h1.lt⟩
 case hIn=>
  rintro pre A A' ⟨h1,h2,h3,h4,h6⟩ hb'
  exact⟨h1.below hb',h2.trans (hb'.mono (Nat.le_trans h1.base (Nat.le_of_lt h1.lt))),h3.trans (Kept.of_below hb'),(hb'.block _ (Array.getElem?_eq_some_iff.1 h4).1).trans h4,(hb'.block _ (Array.getElem?_eq_some_iff.1 h6).1).trans h6⟩
 case hEp=>
  rintro x q A k u u' ⟨h1,cs,h2,h3⟩ ho hc
  refine⟨h1,cs, ?_,h3⟩
  rw[World.putObj_heap_other (by rintro rfl;rw[h2]at ho;injection ho with ho;subst ho;simp[Obj.isCells]at hc)]
  exact h2
 case hIp=>
  rintro pre A k u u' ⟨h1,h2,h3,h4,h6⟩ ho hc hk
  refine⟨h1.put ho hc,h2.grown (grownBy_putObj' A k u') (by have:=h2.size;omega) (fun j e=>by cases e;omega),fun j v hj hg hv=> ?_, ?_, ?_⟩
  · have:=(Array.getElem?_eq_some_iff.1 hj).1
    rw[World.putObj_heap_other (by omega)];exact h3 j v hj hg hv
  · rw[World.putObj_heap_other (by omega)];exact h4
  · rw[World.putObj_heap_other (by omega)];exact h6
 case body=>
  rintro l pre x rest q A hx ⟨h1,h2,h3,h4,h6⟩ ⟨hq,cs,hqc,hqv⟩ ⟨ds,hds⟩ ⟨rc,hrc⟩
  obtain⟨hf,ho⟩:=marks_split o true hx
  have htl:=textO_len (pre.map (·.2)) (fun m _=>textV_len m.2) (okO_pre (ho▸HOK.out)) true
  have hbk:bulkO (pre.map (·.2))+bulkP x.2≤bulkO o:=by rw[ho];exact bulkO_pre _ _ _
  have hxm:x.2 ∈ o:=by rw[ho];simp
  have hokx:=okO_mem HOK.out hxm
  have hsn:textO ((pre++ [x]).map (·.2)) true=textO (pre.map (·.2)) true++((memText x).data.toList++(58::textV x.2.2)):=by
   rw[List.map_append,List.map_cons,List.map_nil,textO_snoc]
   obtain⟨f,key,v⟩:=x
   simp only at hf
   simp only[textP,memText,hf]
   simp[List.append_assoc]
  obtain⟨f,key,v⟩:=x
  obtain⟨k',b',n',t',l',o'⟩:=v
  have hqk:=quoteB_len key
  have hmt:(memText (f,key,.mk k' b' n' t' l' o')).data.toList.length≤6*key.size+3:=by
   simp only[memText]
   split<;>simp<;>omega
  simp only[bulkP]at hbk
  have hfl:flat [memText (f,key,.mk k' b' n' t' l' o'),⟨#[58]⟩]=(memText (f,key,.mk k' b' n' t' l' o')).data.toList++ [58]:=by simp[flat]
  have hlA:(acc++123::textO (pre.map (·.2)) true).length+6*(Val.mk k' b' n' t' l' o').bulk+6*key.size+7≤20000000000:=by
   rw[List.length_append,List.length_cons];omega
  have hqb:(Val.mk k' b' n' t' l' o').bulk≤1000000000:=by omega
  have hM1:((memText (f,key,.mk k' b' n' t' l' o')).data.toList++ [58]).length=(memText (f,key,.mk k' b' n' t' l' o')).data.toList.length+1:=by simp
  have IHv:=Lib.hid (HIH.out _ hxm)
  have HOKx:=Lib.hid hokx
  have Hsn:=Lib.hid hsn
  have hj:=join_new [memText (f,key,.mk k' b' n' t' l' o'),⟨#[58]⟩] 2 h1 (by rw[hfl];omega) (by simp)
  rw[hfl]at hj
  have HJ:=Lib.hid hj
  have HQ:=Lib.hid hqc
  have HV:=Lib.hid hqv
  have h4c:A.cell? ⟨W.heap.size,0,none⟩=some (.pointer (some ⟨g,0,none⟩)):=(Lib.cell_of_heap h4 0).trans rfl
  have H2:=Lib.hid h2
  have hA:=h1.lt
  have hAb:=(Array.getElem?_eq_some_iff.1 h4).1
  have hl3:((acc++123::textO (pre.map (fun y:Bool×(ByteArray×Val)=>y.2)) true)++((memText (f,key,.mk k' b' n' t' l' o')).data.toList++ [58])).length+6*(Val.mk k' b' n' t' l' o').bulk≤20000000000:=by
   rw[List.length_append];omega
  have ent:=enters_ownF
  simp only[Val.kind]
  clear hj hsn hokx hxm ho hf htl hbk hx hfl hqc hqv
  gi_wp2_with (first|(refine⟨trivial, ?_⟩;gi_at_call 120;refine(CallsIn.inRound l (callsIn_wide.2 HJ.out)).mono ?_;rintro e A2 ⟨rfl,g1,g2,g3⟩;have g4:=g3.cells h4 (by omega) (by decide);have g5:A2.cell? ⟨W.heap.size,0,none⟩=some (.pointer (some ⟨g,0,none⟩)):=(Lib.cell_of_heap g4 0).trans rfl)|(refine⟨trivial, ?_⟩;gi_at_fn (ownF k');refine(CallsIn.inRound l (callsIn_wide.2 (IHv.out A2 B g q keeps _ cs k' b' n' t' l' o' rfl h5 (HT.out.keep (H2.out.trans g2) h5) (HV.out.below (H2.out.trans g2)) (g3.cells HQ.out (by omega) (by decide)) (by omega) g1 HOKx.out.2 hqb hl3))).mono ?_;rintro e A3 ⟨rfl,g6,g7,g8⟩))
  have hkk:Kept g A A3:=g3.trans g8
  refine⟨?_, ?_, ?_,h2.trans (g2.trans g7),h3.trans hkk,hkk.cells h4 (by omega) (by decide),hkk.cells h6 (by omega) (by decide)⟩
  · exact(hkk _ _ hds (by simp;omega) (fun c fz e=>by cases e)).trans hds.symm
  · exact(hkk _ _ hrc (by simp;omega) (fun c fz e=>by cases e)).trans hrc.symm
  · rw[Hsn.out]
    simpa[List.append_assoc]using g6
 case done=>
  rintro A ⟨h1,h2,h3,h4,h6⟩ hds
  rw[marks_all]at h1
  have htl:=textO_len o (fun m _=>textV_len m.2) HOK.out true
  have hj:=join_new [⟨#[125]⟩] 1 h1 (by rw[List.length_append,List.length_cons];simp[flat];omega) (by simp)
  have HJ:=Lib.hid hj
  have h4c:A.cell? ⟨W.heap.size,0,none⟩=some (.pointer (some ⟨g,0,none⟩)):=(Lib.cell_of_heap h4 0).trans rfl
  have hA:=h1.lt
  have hAb:=(Array.getElem?_eq_some_iff.1 h4).1
  have e:flat [⟨#[125]⟩]= [125]:=by simp[flat]
  clear hj htl
  gi_wp2_with (refine⟨trivial, ?_⟩;gi_at_call 120;refine(callsIn_wide.2 HJ.out).mono ?_;rintro e A2 ⟨rfl,g1,g2,g3⟩)
  have hd:=g3 _ _ hds (by simp;omega) (fun c fz e=>by cases e)
  refine⟨by simp,.inl ⟨_,_,rfl,run_takeDeferred hd, ?_⟩⟩
  rw[e,List.append_assoc,List.cons_append]at g1
  refine⟨_,results_none rfl _ _ _,rfl, ?_⟩
  have hbA:=h2.trans g2
  refine⟨g1.put hd rfl,hbA.grown (grownBy_putObj' A2 w2.heap.size _) (by have:=hbA.size;omega) (fun j e=>by cases e;omega),fun j v hj hg hv=> ?_⟩
  have:=(Array.getElem?_eq_some_iff.1 hj).1
  rw[World.putObj_heap_other (by omega)]
  exact g3 j v (h3 j v hj hg hv) hg hv
end Go.Proofs.YtkkbplakgldlpaaGreatDoor

namespace Go.Proofs.YtkkbplakgldlpaaGreatDoor
open Go.RowKit
theorem writes_all: ∀v,WritesC v:=by
 refine Val.ind ?_
 intro k b n t l o IHl IHo W B g p keeps acc cs k' b' n' t' l' o' hv h5 hT hH hp hpg hW hok hbk hlen
 injection hv with e1 e2 e3 e4 e5 e6
 subst e1 e2 e3 e4 e5 e6
 simp only[HoldsV]at hH
 obtain⟨la,lc,oa,oc,rfl,hla,hoa⟩:=hH
 simp only[okV]at hok
 simp only[Val.bulk]at hbk hlen
 by_cases h2:k=2
 · subst h2;exact writes_bool W B g p keeps acc b _ _ _ _ _ hp hW (by omega)
 by_cases h3:k=3
 · subst h3;exact writes_int W B g p keeps acc n _ _ _ _ _ hp hT hok.2.1.1 hok.2.1.2 hpg hW (by omega)
 by_cases h4:k=4
 · subst h4;exact writes_text W B g p keeps acc t _ _ _ _ _ hp hT hok.1 (by omega) hpg hW (by omega)
 by_cases h5':k=5
 · subst h5'
   rcases hla with rfl|⟨gl,off,rfl,hg,hL⟩
   · exact writes_list [] IHl W B g p h5 keeps acc la lc _ _ _ _ _ hp 0 0 (.inl rfl) hT hpg hW hok.2.2.1 (by omega) (by omega)
   · exact writes_list l IHl W B g p h5 keeps acc _ lc _ _ _ _ _ hp gl off (.inr ⟨rfl,hg,hL⟩) hT hpg hW hok.2.2.1 (by omega) (by omega)
 by_cases h6:k=6
 · subst h6
   rcases hoa with rfl|⟨gl,off,rfl,hg,hL⟩
   · exact writes_object [] IHo W B g p h5 keeps acc oa oc _ _ _ _ _ hp 0 0 (.inl rfl) hT hpg hW hok.2.2.2 (by omega) (by omega)
   · exact writes_object o IHo W B g p h5 keeps acc _ oc _ _ _ _ _ hp gl off (.inr ⟨rfl,hg,hL⟩) hT hpg hW hok.2.2.2 (by omega) (by omega)
 · have ef:ownF k=130:=by simp[ownF,h2,h3,h4,h5',h6]
   have ec:ownCaps k p= #[]:=by simp[ownCaps,h2,h3,h4,h5',h6]
   have et:textV (.mk k b n t l o)= [110,117,108,108]:=by simp[textV,h2,h3,h4,h5',h6]
   rw[ef,ec,et]
   exact writes_null W B g keeps acc hW (by omega)
end Go.Proofs.YtkkbplakgldlpaaGreatDoor

namespace Go.Proofs.YtkkbplakgldlpaaGreatDoor
open Go.RowKit
theorem okL_of: ∀(l:List Val),(∀v ∈ l,∀d,mayV v d=0→inV v→okV v)→ ∀d,mayL l d=0→inL l→okL l
 | [],_,_,_,_=>by simp[okL]
 |v::r,ih,d,h,hi=>by
  simp only[mayL]at h
  simp only[inL]at hi
  simp only[okL]
  split at h
  · rename_i h0
    exact⟨ih v (by simp) d h0 hi.1,okL_of r (fun x hx=>ih x (by simp[hx])) d h hi.2⟩
  · rename_i h0
    exact absurd h h0
theorem okO_of: ∀(l:List (ByteArray×Val)),(∀m ∈ l,∀d,mayV m.2 d=0→inV m.2→okV m.2)→ ∀last d,mayO l last d=0→inO l→okO l
 | [],_,_,_,_,_=>by simp[okO]
 |(key,v)::r,ih,last,d,h,hi=>by
  simp only[mayO]at h
  simp only[inO,inP]at hi
  simp only[okO,okP]
  split at h
  · rename_i h0
    refine⟨?_,okO_of r (fun x hx=>ih x (by simp[hx])) _ d h hi.2⟩
    simp only[mayP]at h0
    split at h0
    · rename_i hv
      refine⟨hv, ?_⟩
      cases last with
      |none=>exact ih (key,v) (by simp) d h0 hi.1
      |some q=>
       simp only at h0
       split at h0
       · cases h0
       · exact ih (key,v) (by simp) d h0 hi.1
    · cases h0
  · rename_i h0
    exact absurd h h0
theorem okV_of: ∀v d,mayV v d=0→inV v→okV v:=by
 refine Val.ind ?_
 intro k b n t l o hl ho d h hi
 simp only[mayV]at h
 simp only[inV]at hi
 simp only[okV]
 split at h
 · cases h
 split at h
 · cases h
 split at h
 · rename_i hv
   split at h
   · rename_i h0
     exact⟨hv,hi.1,okL_of l hl _ h0 hi.2.1,okO_of o ho _ _ h hi.2.2⟩
   · rename_i h0
     exact absurd h h0
 · cases h
theorem itoa_ne (n:Int):Lib.itoa n≠ []:=by
 unfold Lib.itoa
 split
 · simp
 · intro h
   have:=congrArg List.length h
   rw[Lib.decDigits_length]at this
   have h1:=Lib.nDigits_pos n.toNat
   simp at this
   omega
theorem textV_ne (v:Val):textV v≠ []:=by
 obtain⟨k,b,n,t,l,o⟩:=v
 simp only[textV]
 split
 · cases b<;>decide
 split
 · intro h
   exact itoa_ne n h
 split
 · simp[quoteB]
 split
 · simp
 split
 · simp
 · simp
theorem Wr_new (W:World) (B:Nat) (keeps:Bool) (h:B≤W.heap.size):Wr (W.alloc (.cells #[.bool keeps,.pointer none,.slice none 0 0,.int .i64 0] 115)) B W.heap.size keeps []:=
 ⟨.pointer none,.slice none 0 0,h,heap_alloc_new _ _,by decide,by simp,.inl rfl,.slice none 0 0,rfl,by cases keeps<;>exact World.ownsRow_nil _ _ _ _⟩
theorem writer_calls (k:Int) (b:Bool) (n:Int) (t:ByteArray) (l:List Val) (o:List (ByteArray×Val)) (la oa:Option Addr) (lc oc:Nat) (keeps:Bool) (w:World) (hT:Tabs w)
 (hV:HoldsV w w.heap.size (.mk k b n t l o) (cells6 k b n t la l.length lc oa o.length oc)) (hb:(Val.mk k b n t l o).bulk≤1000000000) (hok:okV (.mk k b n t l o)):
 Calls Tryz.prog (ownF k) (#[.pointer (some ⟨w.heap.size,0,none⟩)]++ownCaps k (w.heap.size+1))
  ((w.alloc (.cells #[.bool keeps,.pointer none,.slice none 0 0,.int .i64 0] 115)).alloc (.cells #[.int .i64 k,.bool b,.int .i64 n,.string t,.slice la l.length lc,.slice oa o.length oc] 27))
  fun e w'=>e=.returned (.tuple #[])∧Wr w' w.heap.size w.heap.size keeps (textV (.mk k b n t l o))∧Below w.heap.size w w':=by
 have hw:=writes_all (.mk k b n t l o)
 have h5:=hT.1
 have hWA:Wr (w.alloc (.cells #[.bool keeps,.pointer none,.slice none 0 0,.int .i64 0] 115)) w.heap.size w.heap.size keeps []:=Wr_new w _ keeps (Nat.le_refl _)
 obtain⟨wA,hA⟩: ∃wA,w.alloc (.cells #[.bool keeps,.pointer none,.slice none 0 0,.int .i64 0] 115)=wA:=⟨_,rfl⟩
 have hAb:Below w.heap.size w wA:=hA▸(Below.refl _ _).alloc (Nat.le_refl _) _
 have hAz:wA.heap.size=w.heap.size+1:=by rw[←hA];simp
 rw[hA]at hWA ⊢
 have hBb:Below wA.heap.size wA (wA.alloc (.cells #[.int .i64 k,.bool b,.int .i64 n,.string t,.slice la l.length lc,.slice oa o.length oc] 27)):=(Below.refl _ _).alloc (Nat.le_refl _) _
 have hAB:Below w.heap.size w (wA.alloc (.cells #[.int .i64 k,.bool b,.int .i64 n,.string t,.slice la l.length lc,.slice oa o.length oc] 27)):=hAb.trans (hBb.mono (by omega))
 have hc:=hw _ w.heap.size w.heap.size wA.heap.size keeps [] _ k b n t l o rfl h5 (hT.below hAB) (hV.below hAB) (heap_alloc_new wA (.cells #[.int .i64 k,.bool b,.int .i64 n,.string t,.slice la l.length lc,.slice oa o.length oc] 27)) (by omega) (hWA.below hBb) hok hb (by simp;omega)
 rw[hAz,List.nil_append]at hc
 refine hc.mono ?_
 rintro e w' ⟨he,h1,h2,h3⟩
 exact⟨he,h1,hAB.trans h2⟩
theorem box_cells {w:World} {g:Nat} {k:Int} {b:Bool} {n:Int} {t:ByteArray} {x y:Value} (h:w.heap[g]? =some (.cells #[.int .i64 k,.bool b,.int .i64 n,.string t,x,y] 27 (0,0))):
 w.cell? ⟨g,0,none⟩=some (.int .i64 k)∧w.cell? ⟨g,1,none⟩=some (.bool b)∧w.cell? ⟨g,2,none⟩=some (.int .i64 n)∧w.cell? ⟨g,3,none⟩=some (.string t)∧w.cell? ⟨g,4,none⟩=some x∧w.cell? ⟨g,5,none⟩=some y:=by
 refine⟨?_, ?_, ?_, ?_, ?_, ?_⟩<;>(rw[Lib.cell_of_heap h];rfl)
def textS (v:Val):ByteArray:=if mayV v 1=0 then⟨(textV v).toArray⟩else⟨#[]⟩
set_option maxHeartbeats 2000000 in
theorem Text_calls (v:Val) (cs:List Value) (w:World) (hT:Tabs w) (hV:HoldsV w w.heap.size v cs) (hb:v.bulk≤1000000000) (hi:inV v):
 Calls Tryz.prog 37 #[.agg cs.toArray] w fun e w'=>e=.returned (.tuple #[.string (textS v),.int .i64 (mayV v 1)])∧Below w.heap.size w w':=by
 have hV':=hV
 obtain⟨k,b,n,t,l,o⟩:=v
 simp only[HoldsV]at hV'
 obtain⟨la,lc,oa,oc,rfl,_,_⟩:=hV'
 obtain⟨w1,hw1⟩: ∃w1,w.alloc (.cells (cells6 k b n t la l.length lc oa o.length oc).toArray 27)=w1:=⟨_,rfl⟩
 have hb1:Below w.heap.size w w1:=hw1▸(Below.refl _ _).alloc (Nat.le_refl _) _
 have hz1:w1.heap.size=w.heap.size+1:=by rw[←hw1];simp
 have hbx:w1.heap[w.heap.size]? =some (.cells #[.int .i64 k,.bool b,.int .i64 n,.string t,.slice la l.length lc,.slice oa o.length oc] 27 (0,0)):=by rw[←hw1];exact heap_alloc_new _ _
 have hT1:=hT.below hb1
 have hV1:=HoldsV.more (hb1.size) _ _ (hV.below hb1)
 have hM:=May_calls _ _ w1 hT1 hV1 hb
 have HX:=Lib.hid hbx
 have HW:=Lib.hid hb1
 by_cases hm:mayV (.mk k b n t l o) 1=0
 · have hok:=okV_of _ 1 hm hi
   have hB:=fun w' (h:Below w1.heap.size w1 w')=>writer_calls k b n t l o la oa lc oc true w' (hT1.below h) (HoldsV.more h.size _ _ (hV1.below h)) hb hok
   have hne:=textV_ne (.mk k b n t l o)
   have hown:=fun w=>own_calls k b n t la oa l.length lc o.length oc w
   unfold textS
   rw[hm]at hM ⊢
   rw[if_pos rfl]
   generalize textV (.mk k b n t l o)=L at hB hne ⊢
   have ent:=enters_ownF
   have HO:=Lib.hid hown
   have HB:=Lib.hid hB
   have HM:=Lib.hid hM
   have HZ:=Lib.hid hz1
   clear hown hB hM hm hok hi hb hT hV hT1 hV1 hbx hb1 hz1
   subst hw1
   go_enter Tryz.func37,Tryz.ntmps37
   go_wp2_with (first|(go_at_call 46;refine(HM.out).mono ?_;rintro e w2 ⟨rfl,hb2⟩;have hz2:=hb2.size;rw[HZ.out]at hz2;have hlt2:w.heap.size<w2.heap.size:=(by omega);have hbox:w2.heap[w.heap.size]? =some (.cells #[.int .i64 k,.bool b,.int .i64 n,.string t,.slice la l.length lc,.slice oa o.length oc] 27 (0,0)):=(hb2.block _ (by simp)).trans HX.out;obtain⟨d0,d1,d2,d3,d4,d5⟩:=box_cells hbox)|(go_at_call 82;refine(HO.out _).mono ?_;rintro e w3 ⟨rfl,rfl⟩)|(go_at_fn (ownF k);refine(HB.out _ hb2).mono ?_;rintro e w4 ⟨rfl,h6,h7⟩;obtain⟨pp,vv,hbld⟩:=h6)|(go_at_call 83;refine(String_calls _ _ _ _ _ _ _ hbld hne).mono ?_;rintro e w5 ⟨rfl,hb5,hk5⟩))
   go_ret2
   exact⟨rfl,HW.out.trans ((hb2.trans ((h7.trans hb5).mono hb2.size)).mono (by simp))⟩
 · unfold textS
   rw[if_neg hm]
   have hmb:(mayV (.mk k b n t l o) 1==0)=false:=by simpa using hm
   generalize mayV (.mk k b n t l o) 1=m at*
   have HM:=Lib.hid hM
   clear hM hm hi hb hT hV hT1 hV1 hbx hb1 hz1
   subst hw1
   go_enter Tryz.func37,Tryz.ntmps37
   go_wp2_with (go_at_call 46;refine(HM.out).mono ?_;rintro e w2 ⟨rfl,hb2⟩)
   go_ret2
   exact⟨rfl,HW.out.trans (hb2.mono (by simp))⟩
end Go.Proofs.YtkkbplakgldlpaaGreatDoor

namespace Go.Proofs.YtkkbplakgldlpaaGreatDoor
open Go.RowKit
theorem mayL_all: ∀{l:List Val} {d:Int},mayL l d=0→ ∀v ∈ l,mayV v d=0
 |v::r,d,h,x,hx=>by
  simp only[mayL]at h
  split at h
  · rename_i h0
    rcases List.mem_cons.1 hx with rfl|hx
    · exact h0
    · exact mayL_all h x hx
  · rename_i h0
    exact absurd h h0
theorem mayO_all: ∀{l:List (ByteArray×Val)} {last:Option ByteArray} {d:Int},mayO l last d=0→ ∀m ∈ l,validB m.1=true∧mayV m.2 d=0
 |(key,v)::r,last,d,h,x,hx=>by
  simp only[mayO]at h
  split at h
  · rename_i h0
    rcases List.mem_cons.1 hx with rfl|hx
    · simp only[mayP]at h0
      split at h0
      · rename_i hv
        refine⟨hv, ?_⟩
        cases last with
        |none=>exact h0
        |some q=>
         simp only at h0
         split at h0
         · cases h0
         · exact h0
      · cases h0
    · exact mayO_all h x hx
  · rename_i h0
    exact absurd h h0
theorem mayV_parts {k:Int} {b:Bool} {n:Int} {t:ByteArray} {l:List Val} {o:List (ByteArray×Val)} {d:Int} (h:mayV (.mk k b n t l o) d=0):
 oddB k b n t l.length o.length=false∧d≤64∧validB t=true∧mayL l (d+1)=0∧mayO o none (d+1)=0:=by
 simp only[mayV]at h
 split at h
 · cases h
 rename_i h1
 split at h
 · cases h
 split at h
 · rename_i hv
   split at h
   · rename_i h0
     exact⟨by simpa using h1,by omega,hv,h0,h⟩
   · rename_i h0
     exact absurd h h0
 · cases h
theorem inL_mem {l:List Val} (h:inL l) {x:Val} (hx:x ∈ l):inV x:=by
 induction l with
 |nil=>cases hx
 |cons y r ih=>
  simp only[inL]at h
  rcases List.mem_cons.1 hx with rfl|hx
  · exact h.1
  · exact ih h.2 hx
theorem inO_mem {l:List (ByteArray×Val)} (h:inO l) {x:ByteArray×Val} (hx:x ∈ l):inV x.2:=by
 induction l with
 |nil=>cases hx
 |cons y r ih=>
  obtain⟨key,v⟩:=y
  simp only[inO,inP]at h
  rcases List.mem_cons.1 hx with rfl|hx
  · exact h.1
  · exact ih h.2 hx
theorem textL_app: ∀(a b:List Val) (f:Bool),textL (a++b) f=textL a f++textL b (f&&a.isEmpty)
 | [],b,f=>by simp[textL]
 |x::r,b,f=>by simp only[List.cons_append,textL,textL_app r b false];simp
theorem textL_take_len (l:List Val) (k:Nat) (f:Bool):(textL (l.take k) f).length≤(textL l f).length:=by
 have:=textL_app (l.take k) (l.drop k) f
 rw[List.take_append_drop]at this
 rw[this]
 simp
theorem textO_app: ∀(a b:List (ByteArray×Val)) (f:Bool),textO (a++b) f=textO a f++textO b (f&&a.isEmpty)
 | [],b,f=>by simp[textO]
 |x::r,b,f=>by simp only[List.cons_append,textO,textO_app r b false];simp
theorem textO_take_len (l:List (ByteArray×Val)) (k:Nat) (f:Bool):(textO (l.take k) f).length≤(textO l f).length:=by
 have:=textO_app (l.take k) (l.drop k) f
 rw[List.take_append_drop]at this
 rw[this]
 simp
theorem size_list (s:ByteArray):s.data.toList.length=s.size:=by rw[Array.length_toList];rfl
theorem size_mk (l:List UInt8):(⟨l.toArray⟩:ByteArray).size=l.length:=rfl
end Go.Proofs.YtkkbplakgldlpaaGreatDoor

namespace Go.Proofs.YtkkbplakgldlpaaGreatDoor
open Go.RowKit
theorem encode_bytes {r:Nat} (h:scalar r): ∀c ∈ Lib.encodeRune (r:Int),(r<128∧c.toNat=r)∨(128≤r∧128≤c.toNat):=by
 intro c hc
 unfold scalar at h
 unfold Lib.encodeRune at hc
 obtain⟨z,hz,rfl⟩:=List.mem_map.1 hc
 have key:(r<128∧z=r)∨(128≤r∧128≤z∧z<256):=by
  unfold Lib.encodeRuneZ at hz
  split at hz
  · simp at hz;omega
  split at hz
  · simp at hz;omega
  split at hz
  · simp at hz;omega
  split at hz
  · simp at hz;omega
  · omega
 have e:z.toNat.toUInt8.toNat=z.toNat:=by
  have:z.toNat<256:=by omega
  simp[Nat.toUInt8,UInt8.toNat_ofNat',Nat.mod_eq_of_lt this]
 rw[e]
 omega
theorem valid_ascii {c:UInt8} (h:c.toNat<128) (rest:List UInt8):Lib.validD (c::rest)=Lib.validD rest:=by
 rw[validD_step (by simp),decodeL_eq]
 have e:Lib.decodeN (c::rest).length ((c::rest).getD 0 0).toNat ((c::rest).getD 1 0).toNat ((c::rest).getD 2 0).toNat ((c::rest).getD 3 0).toNat=(c.toNat,1):=by
  unfold Lib.decodeN
  rw[if_pos (by simpa using h)]
  simp
 rw[e,if_neg (by simp only;omega)]
 rfl
theorem valid_asciis: ∀(a:List UInt8),(∀c ∈ a,c.toNat<128)→ ∀rest,Lib.validD (a++rest)=Lib.validD rest
 | [],_,rest=>rfl
 |c::a,h,rest=>by
  rw[List.cons_append,valid_ascii (h c (by simp))]
  exact valid_asciis a (fun x hx=>h x (by simp[hx])) rest
theorem u8_of {z:Int} (h0:0≤z) (h1:z<256):(z.toNat.toUInt8).toNat=z.toNat:=by
 have:z.toNat<256:=by omega
 simp[Nat.toUInt8,UInt8.toNat_ofNat',Nat.mod_eq_of_lt this]
theorem valid_of_dec {l:List UInt8} {r n:Nat} (hne:l≠ []) (h:Lib.decodeL l=(r,n)) (hn:n≠1):Lib.validD l=Lib.validD (l.drop n):=by
 rw[validD_step hne,h,if_neg (by simp only;omega)]
theorem valid_rune {r:Nat} (h:scalar r) (rest:List UInt8):Lib.validD (Lib.encodeRune (r:Int)++rest)=Lib.validD rest:=by
 unfold scalar at h
 by_cases c1:r<128
 · refine valid_asciis _ (fun c hc=> ?_) rest
   have:=encode_bytes (r:=r) (by unfold scalar;exact h) c hc
   omega
 unfold Lib.encodeRune
 by_cases c2:r<2048
 · rw[Lib.encodeRuneZ_two (by omega) (by omega)]
   simp only[List.map_cons,List.map_nil,List.cons_append,List.nil_append]
   have a1:((192+(r:Int) / 64).toNat.toUInt8).toNat=192+r / 64:=by rw[u8_of (by omega) (by omega)];omega
   have a2:((128+(r:Int) % 64).toNat.toUInt8).toNat=128+r % 64:=by rw[u8_of (by omega) (by omega)];omega
   generalize (192+(r:Int) / 64).toNat.toUInt8=x1 at*
   generalize (128+(r:Int) % 64).toNat.toUInt8=x2 at*
   refine valid_of_dec (l:=x1::x2::rest) (r:=r) (n:=2) (by simp) ?_ (by decide)
   rw[decodeL_eq]
   simp only[List.getD_cons_zero,List.getD_cons_succ,a1,a2,List.length_cons]
   unfold Lib.decodeN
   rw[if_neg (by omega),if_pos (by omega),if_pos (by omega)]
   exact Prod.ext (by simp only;omega) rfl
 by_cases c3:r<65536
 · rw[Lib.encodeRuneZ_three (by omega)]
   simp only[List.map_cons,List.map_nil,List.cons_append,List.nil_append]
   have a1:((224+(r:Int) / 4096).toNat.toUInt8).toNat=224+r / 4096:=by rw[u8_of (by omega) (by omega)];omega
   have a2:((128+(r:Int) / 64 % 64).toNat.toUInt8).toNat=128+r / 64 % 64:=by rw[u8_of (by omega) (by omega)];omega
   have a3:((128+(r:Int) % 64).toNat.toUInt8).toNat=128+r % 64:=by rw[u8_of (by omega) (by omega)];omega
   generalize (224+(r:Int) / 4096).toNat.toUInt8=x1 at*
   generalize (128+(r:Int) / 64 % 64).toNat.toUInt8=x2 at*
   generalize (128+(r:Int) % 64).toNat.toUInt8=x3 at*
   refine valid_of_dec (l:=x1::x2::x3::rest) (r:=r) (n:=3) (by simp) ?_ (by decide)
   rw[decodeL_eq]
   simp only[List.getD_cons_zero,List.getD_cons_succ,a1,a2,a3,List.length_cons]
   unfold Lib.decodeN
   have d1:r / 64 / 64=r / 4096:=by omega
   rw[if_neg (by omega),if_neg (by omega),if_pos (by omega),if_pos (by omega)]
   exact Prod.ext (by simp only;omega) rfl
 · rw[Lib.encodeRuneZ_four (by omega) (by omega)]
   simp only[List.map_cons,List.map_nil,List.cons_append,List.nil_append]
   have a1:((240+(r:Int) / 262144).toNat.toUInt8).toNat=240+r / 262144:=by rw[u8_of (by omega) (by omega)];omega
   have a2:((128+(r:Int) / 4096 % 64).toNat.toUInt8).toNat=128+r / 4096 % 64:=by rw[u8_of (by omega) (by omega)];omega
   have a3:((128+(r:Int) / 64 % 64).toNat.toUInt8).toNat=128+r / 64 % 64:=by rw[u8_of (by omega) (by omega)];omega
   have a4:((128+(r:Int) % 64).toNat.toUInt8).toNat=128+r % 64:=by rw[u8_of (by omega) (by omega)];omega
   generalize (240+(r:Int) / 262144).toNat.toUInt8=x0 at*
   generalize (128+(r:Int) / 4096 % 64).toNat.toUInt8=x1 at*
   generalize (128+(r:Int) / 64 % 64).toNat.toUInt8=x2 at*
   generalize (128+(r:Int) % 64).toNat.toUInt8=x3 at*
   refine valid_of_dec (l:=x0::x1::x2::x3::rest) (r:=r) (n:=4) (by simp) ?_ (by decide)
   rw[decodeL_eq]
   simp only[List.getD_cons_zero,List.getD_cons_succ,a1,a2,a3,a4,List.length_cons]
   unfold Lib.decodeN
   rw[if_neg (by omega),if_neg (by omega),if_neg (by omega),if_pos (by omega),if_pos (by omega)]
   exact Prod.ext (by simp only;omega) rfl
end Go.Proofs.YtkkbplakgldlpaaGreatDoor

namespace Go.Proofs.YtkkbplakgldlpaaGreatDoor
open Go.RowKit
end Go.Proofs.YtkkbplakgldlpaaGreatDoor
