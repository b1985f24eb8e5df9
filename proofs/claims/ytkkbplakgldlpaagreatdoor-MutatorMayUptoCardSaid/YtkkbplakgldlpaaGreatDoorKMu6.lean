/- Parts, joined: Rows of members, joined and parted. Plain. No condition. What commonplaceref02.Object comes to: members put where they belong. Plain. No condition. utf.Quote: the walk. Condition: a text shorter than 10^9. commonplaceref02.Within: the values at once within one. Condition: a bulk of at most 10^8. Rows that a call builds by append, of data of any make. Plain. No condition. -/
import Derived.Test.YtkkbplakgldlpaaGreatDoorProg
import Derived.Maps.AppendAt
import Derived.Test.YtkkbplakgldlpaaGreatDoorKMu1
import Derived.Test.YtkkbplakgldlpaaGreatDoorKMu3
import Derived.Test.YtkkbplakgldlpaaGreatDoorKMu4
import Derived.Test.YtkkbplakgldlpaaGreatDoorKMu5
namespace Go.Proofs.YtkkbplakgldlpaaGreatDoor
open Go.RowKit
theorem RowO.app {w:World} {B:Nat}: ∀{a b:List (ByteArray×Val)} {ns ms:List Value},RowO w B a ns→RowO w B b ms→RowO w B (a++b) (ns++ms)
 | [],b,ns,ms,h,h'=>by
   have:ns= []:=h
   subst this
   exact h'
 |(k,v)::r,b,ns,ms,⟨cs,rest,e,h1,h2⟩,h'=>by
  subst e
  exact⟨cs,rest++ms,by simp,h1,RowO.app h2 h'⟩
theorem RowO.len {w:World} {B:Nat}: ∀{l:List (ByteArray×Val)} {ns:List Value},RowO w B l ns→ns.length=l.length*7∧ ∀u ∈ ns,u.oneCell'=true
 | [],ns,h=>by
   have:ns= []:=h
   subst this
   exact⟨rfl,fun u hu=>by cases hu⟩
 |(k,v)::r,ns,⟨cs,rest,e,h1,h2⟩=>by
  subst e
  obtain⟨a1,a2⟩:=h1.len
  obtain⟨b1,b2⟩:=RowO.len h2
  refine⟨by rw[List.length_cons,List.length_append,a1,b1,List.length_cons];omega,fun u hu=> ?_⟩
  rcases List.mem_cons.1 hu with rfl|hu
  · rfl
  rcases List.mem_append.1 hu with hu|hu
  · exact a2 u hu
  · exact b2 u hu
theorem RowO.split {w:World} {B:Nat}: ∀{l:List (ByteArray×Val)} {ns:List Value} (k:Nat),RowO w B l ns→RowO w B (l.take k) (ns.take (k*7))∧RowO w B (l.drop k) (ns.drop (k*7))
 | [],ns,k,h=>by
   have:ns= []:=h
   subst this
   simp[RowO]
 |(key,v)::r,ns,0,h=>by
  simp only[List.take_zero,Nat.zero_mul,List.drop_zero]
  exact⟨rfl,h⟩
 |(key,v)::r,ns,k+1,⟨cs,rest,e,h1,h2⟩=>by
  subst e
  obtain⟨a,b⟩:=RowO.split k h2
  have hl:=h1.len.1
  have e1:(Value.string key::(cs++rest)).take ((k+1)*7)=.string key::(cs++rest.take (k*7)):=by
   rw[show(k+1)*7=(6+k*7)+1 from by omega,List.take_succ_cons,List.take_append,hl,List.take_of_length_le (by omega),show 6+k*7 - 6=k*7 from by omega]
  have e2:(Value.string key::(cs++rest)).drop ((k+1)*7)=rest.drop (k*7):=by
   rw[show(k+1)*7=(6+k*7)+1 from by omega,List.drop_succ_cons,List.drop_append,hl,List.drop_eq_nil_of_le (by omega),show 6+k*7 - 6=k*7 from by omega,List.nil_append]
  rw[e1,e2]
  exact⟨⟨cs,rest.take (k*7),rfl,h1,a⟩,b⟩
theorem bulkO_app: ∀(a b:List (ByteArray×Val)),bulkO (a++b)=bulkO a+bulkO b
 | [],b=>by simp[bulkO]
 |x::r,b=>by simp only[List.cons_append,bulkO,bulkO_app r b];omega
theorem inO_app: ∀{a b:List (ByteArray×Val)},inO a→inO b→inO (a++b)
 | [],_,_,h=>h
 |x::r,b,h,h'=>by
  simp only[List.cons_append,inO]at h ⊢
  exact⟨h.1,inO_app h.2 h'⟩
end Go.Proofs.YtkkbplakgldlpaaGreatDoor

namespace Go.Proofs.YtkkbplakgldlpaaGreatDoor
open Go.RowKit
def ltB (a b:ByteArray):Bool:=Op.bytesLess a.toList b.toList
def atO (k:ByteArray):List (ByteArray×Val)→Nat
 | []=>0
 |p::r=>if ltB p.1 k then atO k r+1 else 0
def hitO (k:ByteArray) (acc:List (ByteArray×Val)):Bool:=(acc[atO k acc]?).any fun p=>p.1.toList==k.toList
def putO (m:ByteArray×Val) (acc:List (ByteArray×Val)):List (ByteArray×Val):=acc.take (atO m.1 acc)++([m]++acc.drop (atO m.1 acc))
def objAll:List (ByteArray×Val)→List (ByteArray×Val)→Option (List (ByteArray×Val))
 | [],acc=>some acc
 |m::r,acc=>if hitO m.1 acc then none else objAll r (putO m acc)
theorem bulkO_put (m:ByteArray×Val) (acc:List (ByteArray×Val)):bulkO (putO m acc)=bulkO acc+bulkP m:=by
 have h:=congrArg bulkO (List.take_append_drop (atO m.1 acc) acc)
 rw[bulkO_app]at h
 simp only[putO,bulkO_app,bulkO]
 omega
theorem inO_take: ∀{l:List (ByteArray×Val)} (k:Nat),inO l→inO (l.take k)
 | [],k,_=>by simp[inO]
 |_::_,0,_=>by simp[inO]
 |x::r,k+1,h=>by
  simp only[List.take_succ_cons,inO]at h ⊢
  exact⟨h.1,inO_take k h.2⟩
theorem inO_drop: ∀{l:List (ByteArray×Val)} (k:Nat),inO l→inO (l.drop k)
 | [],k,_=>by simp[inO]
 |_::_,0,h=>h
 |x::r,k+1,h=>by
  simp only[List.drop_succ_cons,inO]at h ⊢
  exact inO_drop k h.2
theorem inO_put {m:ByteArray×Val} {acc:List (ByteArray×Val)} (h:inO acc) (hm:inV m.2):inO (putO m acc):=by
 obtain⟨k,v⟩:=m
 exact inO_app (inO_take _ h) (inO_app ⟨hm,trivial⟩ (inO_drop _ h))
theorem objAll_bulk: ∀{l acc o:List (ByteArray×Val)},objAll l acc=some o→bulkO o=bulkO acc+bulkO l
 | [],acc,o,h=>by
   simp only[objAll,Option.some.injEq]at h
   subst h
   simp[bulkO]
 |m::r,acc,o,h=>by
  simp only[objAll]at h
  by_cases hh:hitO m.1 acc=true
  · rw[if_pos hh]at h;cases h
  · rw[if_neg hh]at h
    rw[objAll_bulk h,bulkO_put]
    simp only[bulkO]
    omega
theorem objAll_in: ∀{l acc o:List (ByteArray×Val)},objAll l acc=some o→inO acc→inO l→inO o
 | [],acc,o,h,ha,_=>by
   simp only[objAll,Option.some.injEq]at h
   exact h▸ha
 |(k,v)::r,acc,o,h,ha,hl=>by
  simp only[objAll]at h
  by_cases hh:hitO k acc=true
  · rw[if_pos hh]at h;cases h
  · rw[if_neg hh]at h
    exact objAll_in h (inO_put ha hl.1) hl.2
end Go.Proofs.YtkkbplakgldlpaaGreatDoor

namespace Go.Proofs.YtkkbplakgldlpaaGreatDoor
open Go.RowKit
attribute [local go_sem] Oper.semAt_some
def QI (w:World) (g lb d:Nat) (pre:List (Nat×Nat)) (W:World):Prop:=
 Below w.heap.size w W∧BB W w.heap.size g (34::quoteRunes pre)∧ ∃m,Letters W lb d m
set_option maxRecDepth 100000 in
set_option maxHeartbeats 2000000 in
theorem Quote_valid (s:ByteArray) (w:World) (hT:Tabs w) (hs:s.size≤1000000000) (hv:validB s=true):
 Calls Tryz.prog 166 #[.string s] w fun e w'=>e=.returned (.tuple #[.string ⟨(34::quoteRunes (runes s)++ [34]).toArray⟩,.int .i64 0])∧Below w.heap.size w w':=by
 refine(callsIn_wide (n:=12)).1 ?_
 refine callsIn_of_wp_marks Tryz.func166 rfl trivial ?_ rfl
 simp only[Tryz.ntmps166,List.size_toArray,List.length_cons,List.length_nil,Nat.reduceAdd,Nat.reduceSub,Array.replicate_succ,Array.replicate_zero,List.push_toArray,List.append_toArray,List.nil_append,List.cons_append]
 gi_wp2_with (refine⟨trivial, ?_⟩;gi_at_call 133;refine(callsIn_wide.2 (utfValid_calls2 hv _ (by omega) hT)).mono ?_;rintro e w1 ⟨rfl,hb1⟩)
 have hz1:=hb1.size
 have hB1:BB ((w1.alloc (.cells #[.map none] 210)).alloc (.cells #[.pointer none,.slice none 0 0] 113)) w.heap.size (w1.heap.size+1) []:=
  ⟨_,_,by omega,by rw[←World.size_alloc w1 (.cells #[.map none] 210)];exact heap_alloc_new _ _,by decide,by simp,.inl rfl,.slice none 0 0,rfl,World.ownsRow_nil _ _ _ _⟩
 have hL1:((w1.alloc (.cells #[.map none] 210)).alloc (.cells #[.pointer none,.slice none 0 0] 113)).heap[w1.heap.size]? =some (.cells #[.map none] 210 (0,0)):=
  (Below.heap_alloc _ _ _ (by simp)).trans (heap_alloc_new _ _)
 have hbx:Below w.heap.size w ((w1.alloc (.cells #[.map none] 210)).alloc (.cells #[.pointer none,.slice none 0 0] 113)):=(hb1.alloc hz1 _).alloc (by simp;omega) _
 gi_wp2_with (first|(refine⟨trivial, ?_⟩;gi_at_call 195;refine(callsIn_wide.2 (bb_WriteByte 34 (by omega) (by omega) hB1 (by simp))).mono ?_;rintro e w2 ⟨rfl,hB2,hb2,hk2⟩)|(refine⟨trivial, ?_⟩;gi_at_call 196;refine(callsIn_wide.2 (Runes_calls _ _)).mono ?_;rintro e w3 ⟨rfl,rfl⟩))
 have hz2:=hb2.size
 simp only[World.size_alloc]at hz2
 have hL2:w2.heap[w1.heap.size]? =some (.cells #[.map none] 210 (0,0)):=hk2 _ _ hL1 (by simp) (fun c fz e=>by cases e)
 have hbw2:Below w.heap.size w w2:=hbx.trans hb2
 clear hB1 hL1 hb1 hk2 hb2 hbx
 have hnew:=heap_alloc_new w2 (.cells #[.string s] 9)
 have hT3:Tabs (w2.alloc (.cells #[.string s] 9)):=hT.below (hbw2.alloc (by omega) _)
 have hyld:=runes_yields s w2.heap.size hs
 have hB3:BB (w2.alloc (.cells #[.string s] 9)) w.heap.size (w1.heap.size+1) (34::quoteRunes []):=hB2.below ((Below.refl _ _).alloc (Nat.le_refl _) _)
 have hL3:=(Below.heap_alloc w2 (.cells #[.string s] 9) w1.heap.size (by omega)).trans hL2
 have hbw3:Below w.heap.size w (w2.alloc (.cells #[.string s] 9)):=hbw2.alloc (by omega) _
 have hz3:w2.heap.size+1=(w2.alloc (.cells #[.string s] 9)).heap.size:=by simp
 generalize w2.alloc (.cells #[.string s] 9)=w3 at*
 refine wp_range_all (n:=10) (gf:=214) (lb:= #[.pointer (some ⟨w2.heap.size,0,none⟩)]) rfl (enters_of Tryz.func214 (by kernel_rfl) rfl) hyld (fun _=>rfl)
  (fun pre W=>QI w (w1.heap.size+1) w1.heap.size w3.heap.size pre W∧W.heap[w2.heap.size]? =some (.cells #[.string s] 9 (0,0))) ?hIn ?hIp ?hIb ?h0 ?a1 ?assign ?body ?done
 case assign=>
  intro l x W K hK
  gi_wp2
  exact hK
 case h0=>exact⟨⟨hbw3,hB3,none,hL3,fun _ h=>by cases h⟩,hnew⟩
 case hIb=>
  rintro pre A ⟨⟨h1,h2,h3⟩,h4⟩
  exact⟨(Lib.cell_of_heap h4 0).trans rfl,hT.below h1⟩
 case hIn=>
  rintro pre A B ⟨⟨h1,h2,m,h3,h5⟩,h4⟩ hb
  refine⟨⟨h1.trans (hb.mono h1.size),h2.below hb,m,(hb.block _ (Array.getElem?_eq_some_iff.1 h3).1).trans h3,fun mb e=>⟨(h5 mb e).1,(hb.block _ (Array.getElem?_eq_some_iff.1 (h5 mb e).2).1).trans (h5 mb e).2⟩⟩,(hb.block _ (Array.getElem?_eq_some_iff.1 h4).1).trans h4⟩
 case hIp=>
  rintro pre A k o o' ⟨⟨h1,h2,m,h3,h5⟩,h4⟩ ho hc hk
  have hkw:w.heap.size≤k:=by omega
  have hk1:k<A.heap.size:=(Array.getElem?_eq_some_iff.1 ho).1
  refine⟨⟨h1.grown (grownBy_putObj' A k o') (by omega) (fun j e=>by cases e;exact hkw),h2.put ho hc,m, ?_,fun mb e=>⟨(h5 mb e).1, ?_⟩⟩, ?_⟩
  · rw[World.putObj_heap_other (by omega)];exact h3
  · have:=(h5 mb e).1
    rw[World.putObj_heap_other (by omega)];exact(h5 mb e).2
  · rw[World.putObj_heap_other (by omega)];exact h4
 case body=>
  rintro l pre x rest W hx ⟨⟨h1,h2,m,h3,h5⟩,h4⟩ ⟨ds,hds⟩ ⟨rc,hrc⟩
  have hlen:(quoteRunes pre).length≤6000000000:=by
   have e1:=quoteRunes_len pre
   have e2:=congrArg List.length hx
   have e3:=runesFrom_len s.size s.data.toList 0
   simp only[List.length_append,List.length_cons]at e2
   unfold runes at e2
   omega
  have hr:x.2≤1114111:=runesFrom_le s.size s.data.toList 0 x (by show x ∈ runes s;rw[hx];simp)
  have hsn:quoteRunes (pre++ [x])=quoteRunes pre++quoteRune x.2:=by simp[quoteRunes]
  obtain⟨p,r⟩:=x
  simp only at hr hsn
  have hz:=h1.size
  have hDm:w3.heap.size+1<W.heap.size:=(Array.getElem?_eq_some_iff.1 hrc).1
  have hdt:w1.heap.size+1<w3.heap.size:=by omega
  have hsb:w2.heap.size<w3.heap.size:=by omega
  have hsa:w1.heap.size+1<w2.heap.size:=by omega
  have fin: ∀(a:Act) (X:World) (bs:List UInt8),BB X w.heap.size (w1.heap.size+1) bs→bs=34::quoteRunes (pre++ [(p,r)])→Below w.heap.size w X→(∃m,Letters X w1.heap.size w3.heap.size m)→
   X.heap[w3.heap.size]? =some (.deferred ds)→X.heap[w3.heap.size+1]? =some (.loop rc)→X.heap[w2.heap.size]? =some (.cells #[.string s] 9 (0,0))→
   goesOn (fun X=>QI w (w1.heap.size+1) w1.heap.size w3.heap.size (pre++ [(p,r)]) X∧X.heap[w2.heap.size]? =some (.cells #[.string s] 9 (0,0))) w3.heap.size W .normal a X:=by
   intro a X bs hb e hbw hl hd hr2 hbox
   subst e
   exact⟨hd.trans hds.symm,hr2.trans hrc.symm,⟨hbw,hb,hl⟩,hbox⟩
  have Fin:=Lib.hid fin
  clear fin
  by_cases hst:32≤r∧r≠34∧r≠92
  · have hq:quoteRune r=Lib.encodeRune r:=by unfold quoteRune;rw[if_pos hst]
    have hB:decide (32≤(r:Int)∧(r:Int)≠34∧(r:Int)≠92)=true:=by simp;omega
    have Hq:Hid ((34::quoteRunes pre)++Lib.encodeRune r=34::quoteRunes (pre++ [(p,r)])):=by
     show _=_
     rw[hsn,hq];rfl
    clear hsn hq hst hx
    gi_wp2_with (first|(refine⟨trivial, ?_⟩;gi_at_call 197;refine(CallsIn.inRound l (callsIn_wide.2 (standsFor_calls2 hB _))).mono ?_;rintro e wx ⟨rfl,rfl⟩)|(refine⟨trivial, ?_⟩;gi_at_call 198;refine(CallsIn.inRound l (callsIn_wide.2 (bb_WriteRune (r:Int) (by omega) (by omega) h2 (by simp;omega)))).mono ?_;rintro e w4 ⟨⟨kk,rfl⟩,hB4,hb4,hk4⟩))
    exact Fin.out _ _ _ hB4 Hq.out (h1.trans hb4) ⟨m,hk4 _ _ h3 (by simp) (fun c fz e=>by cases e),fun mb e=>⟨(h5 mb e).1,hk4 _ _ (h5 mb e).2 (by have:=(h5 mb e).1;simp;omega) (fun c fz e=>by cases e)⟩⟩
     (hk4 _ _ hds (by simp;omega) (fun c fz e=>by cases e)) (hk4 _ _ hrc (by simp;omega) (fun c fz e=>by cases e)) (hk4 _ _ h4 (by simp;omega) (fun c fz e=>by cases e))
  · have hB:decide (32≤(r:Int)∧(r:Int)≠34∧(r:Int)≠92)=false:=by simp;omega
    have hnil:=fun(wx:World) (m0:Option Nat)=>run_eql_map_nil (P:=Tryz.prog) wx 210 _ _ m0 Tryz.underlying210
    rcases m with _|mb
    ·
     obtain⟨X,hX⟩: ∃X,(W.setCell ⟨w1.heap.size,0,none⟩ (.map (some W.heap.size))).alloc (.map (ents letterTab 0).toArray letterTab.length)=X:=⟨_,rfl⟩
     have hsz:(W.setCell ⟨w1.heap.size,0,none⟩ (.map (some W.heap.size))).heap.size=W.heap.size:=by simp[World.setCell]
     have hXk: ∀k,k≠w1.heap.size→k<W.heap.size→X.heap[k]? =W.heap[k]? :=fun k hk hk'=>by
      rw[←hX,Below.heap_alloc _ _ _ (by omega),Below.heap_setCell _ _ _ _ hk]
     have hXB:BB X w.heap.size (w1.heap.size+1) (34::quoteRunes pre):=by
      rw[←hX]
      exact(h2.store h3 (by decide) (by omega) 0 _).below ((Below.refl _ _).alloc (Nat.le_refl _) _)
     have hXw:Below w.heap.size w X:=by
      rw[←hX]
      exact(h1.setCell (p:=⟨w1.heap.size,0,none⟩) hz1 _).alloc (by omega) _
     have hXl:X.heap[w1.heap.size]? =some (.cells #[.map (some W.heap.size)] 210 (0,0)):=by
      rw[←hX,Below.heap_alloc _ _ _ (by omega)]
      exact setCell_heap h3 _
     have hXm:X.heap[W.heap.size]? =some (.map (ents letterTab 0).toArray letterTab.length):=by
      rw[←hX]
      have:=heap_alloc_new (W.setCell ⟨w1.heap.size,0,none⟩ (.map (some W.heap.size))) (.map (ents letterTab 0).toArray letterTab.length)
      rwa [hsz]at this
     have hXd:=(hXk _ (by omega) (by omega)).trans hds
     have hXr:=(hXk _ (by omega) (by omega)).trans hrc
     have hX4:=(hXk _ (by omega) (by omega)).trans h4
     have c3:W.cell? ⟨w1.heap.size,0,none⟩=some (.map none):=(Lib.cell_of_heap h3 0).trans rfl
     have f3:W.frozen? ⟨w1.heap.size,0,none⟩=false:=Lib.frozen_of_heap h3 0
     have hlb:w1.heap.size<W.heap.size:=by omega
     have hlk:=run_look X W.heap.size letterTab r hXm
     have hmb:w3.heap.size+1<W.heap.size:=hDm
     subst hX
     cases hf:findKV (r:Int) letterTab with
     |some c=>
      rw[hf]at hlk
      simp only[Option.getD_some,Option.isSome_some]at hlk
      have hc:=letters_range hf
      have hc0:=hc.1
      have hc1:=hc.2
      have hq:quoteRune r= [92,UInt8.ofNat c.toNat]:=by unfold quoteRune;rw[if_neg hst,hf]
      have Hq:Hid (((34::quoteRunes pre)++ [UInt8.ofNat (Int.toNat 92)])++Lib.encodeRune c=34::quoteRunes (pre++ [(p,r)])):=by
       show _=_
       rw[hsn,hq,encode_small (by omega) hc1];simp
      clear hsn hq hst hx hf hc h5 h2
      gi_wp2_with (first|(refine⟨trivial, ?_⟩;gi_at_call 197;refine(CallsIn.inRound l (callsIn_wide.2 (standsFor_calls2 hB _))).mono ?_;rintro e wx ⟨rfl,rfl⟩)|(refine⟨trivial, ?_⟩;gi_at_call 199;refine(CallsIn.inRound l (callsIn_wide.2 (letters_calls2 _))).mono ?_;rintro e wx ⟨rfl,rfl⟩)|(refine⟨trivial, ?_⟩;gi_at_call 195;refine(CallsIn.inRound l (callsIn_wide.2 (bb_WriteByte 92 (by omega) (by omega) hXB (by simp;omega)))).mono ?_;rintro e w4 ⟨rfl,hB4,hb4,hk4⟩)|(refine⟨trivial, ?_⟩;gi_at_call 198;refine(CallsIn.inRound l (callsIn_wide.2 (bb_WriteRune c (by omega) (by omega) hB4 (by simp;omega)))).mono ?_;rintro e w5 ⟨⟨kk,rfl⟩,hB5,hb5,hk5⟩))
      have hkk:=hk4.trans hk5
      exact Fin.out _ _ _ hB5 Hq.out ((hXw.trans hb4).trans hb5) ⟨some W.heap.size,hkk _ _ hXl (by simp) (fun c fz e=>by cases e),fun m' e=>by cases e;exact⟨hmb,hkk _ _ hXm (by simp;omega) (fun c fz e=>by cases e)⟩⟩
       (hkk _ _ hXd (by simp;omega) (fun c fz e=>by cases e)) (hkk _ _ hXr (by simp;omega) (fun c fz e=>by cases e)) (hkk _ _ hX4 (by simp;omega) (fun c fz e=>by cases e))
     |none=>
      rw[hf]at hlk
      simp only[Option.getD_none,Option.isSome_none]at hlk
      have hr32:=letters_none hf hst
      have hq:quoteRune r= [92,117,48,48,hexd (r / 16),hexd (r % 16)]:=by unfold quoteRune;rw[if_neg hst,hf]
      gi_wp2_with (first|(refine⟨trivial, ?_⟩;gi_at_call 197;refine(CallsIn.inRound l (callsIn_wide.2 (standsFor_calls2 hB _))).mono ?_;rintro e wx ⟨rfl,rfl⟩)|(refine⟨trivial, ?_⟩;gi_at_call 199;refine(CallsIn.inRound l (callsIn_wide.2 (letters_calls2 _))).mono ?_;rintro e wx ⟨rfl,rfl⟩)|(refine⟨trivial, ?_⟩;gi_at_call 163;refine(CallsIn.inRound l (callsIn_wide.2 (bb_WriteString ⟨#[92,117,48,48]⟩ hXB (by simp[ByteArray.size];omega)))).mono ?_;rintro e w4 ⟨rfl,hB4,hb4,hk4⟩))
      refine⟨trivial, ?_⟩
      refine(CallsIn.inRound l (callsIn_wide.2 (bb_WriteB _ hB4 (by simp;omega)))).mono ?_
      rintro e w5 ⟨rfl,hB5,hb5,hk5⟩
      rw[hexd_at ⟨r / 16,by omega⟩]at hB5
      have hand:=and15 ⟨r,hr32⟩
      dsimp only at hand
      have hm0:0≤(r:Int) % 16:=by omega
      have hm1:(r:Int) % 16<16:=by omega
      have hm2:r % 16<16:=by omega
      gi_wp2_with fail
      refine⟨trivial, ?_⟩
      refine(CallsIn.inRound l (callsIn_wide.2 (bb_WriteB _ hB5 (by simp;omega)))).mono ?_
      rintro e w6 ⟨rfl,hB6,hb6,hk6⟩
      rw[hexd_at ⟨r % 16,by omega⟩]at hB6
      gi_wp2_with fail
      have hkk:=(hk4.trans hk5).trans hk6
      have Hq:(((34::quoteRunes pre)++ [92,117,48,48])++ [hexd (r / 16)])++ [hexd (r % 16)]=34::quoteRunes (pre++ [(p,r)]):=by
       rw[hsn,hq];simp
      exact Fin.out _ _ _ hB6 Hq (((hXw.trans hb4).trans hb5).trans hb6) ⟨some W.heap.size,hkk _ _ hXl (by simp) (fun c fz e=>by cases e),fun m' e=>by cases e;exact⟨hmb,hkk _ _ hXm (by simp;omega) (fun c fz e=>by cases e)⟩⟩
       (hkk _ _ hXd (by simp;omega) (fun c fz e=>by cases e)) (hkk _ _ hXr (by simp;omega) (fun c fz e=>by cases e)) (hkk _ _ hX4 (by simp;omega) (fun c fz e=>by cases e))
    ·
     have hXm:=(h5 mb rfl).2
     have hmb:=(h5 mb rfl).1
     have c3:W.cell? ⟨w1.heap.size,0,none⟩=some (.map (some mb)):=(Lib.cell_of_heap h3 0).trans rfl
     have hlk:=run_look W mb letterTab r hXm
     have hXB:=h2
     have hXw:=h1
     have hXl:=h3
     have hXd:=hds
     have hXr:=hrc
     have hX4:=h4
     cases hf:findKV (r:Int) letterTab with
     |some c=>
      rw[hf]at hlk
      simp only[Option.getD_some,Option.isSome_some]at hlk
      have hc:=letters_range hf
      have hc0:=hc.1
      have hc1:=hc.2
      have hq:quoteRune r= [92,UInt8.ofNat c.toNat]:=by unfold quoteRune;rw[if_neg hst,hf]
      have Hq:Hid (((34::quoteRunes pre)++ [UInt8.ofNat (Int.toNat 92)])++Lib.encodeRune c=34::quoteRunes (pre++ [(p,r)])):=by
       show _=_
       rw[hsn,hq,encode_small (by omega) hc1];simp
      clear hsn hq hst hx hf hc h5 h2
      gi_wp2_with (first|(refine⟨trivial, ?_⟩;gi_at_call 197;refine(CallsIn.inRound l (callsIn_wide.2 (standsFor_calls2 hB _))).mono ?_;rintro e wx ⟨rfl,rfl⟩)|(refine⟨trivial, ?_⟩;gi_at_call 195;refine(CallsIn.inRound l (callsIn_wide.2 (bb_WriteByte 92 (by omega) (by omega) hXB (by simp;omega)))).mono ?_;rintro e w4 ⟨rfl,hB4,hb4,hk4⟩)|(refine⟨trivial, ?_⟩;gi_at_call 198;refine(CallsIn.inRound l (callsIn_wide.2 (bb_WriteRune c (by omega) (by omega) hB4 (by simp;omega)))).mono ?_;rintro e w5 ⟨⟨kk,rfl⟩,hB5,hb5,hk5⟩))
      have hkk:=hk4.trans hk5
      exact Fin.out _ _ _ hB5 Hq.out ((hXw.trans hb4).trans hb5) ⟨some mb,hkk _ _ hXl (by simp) (fun c fz e=>by cases e),fun m' e=>by cases e;exact⟨hmb,hkk _ _ hXm (by simp;omega) (fun c fz e=>by cases e)⟩⟩
       (hkk _ _ hXd (by simp;omega) (fun c fz e=>by cases e)) (hkk _ _ hXr (by simp;omega) (fun c fz e=>by cases e)) (hkk _ _ hX4 (by simp;omega) (fun c fz e=>by cases e))
     |none=>
      rw[hf]at hlk
      simp only[Option.getD_none,Option.isSome_none]at hlk
      have hr32:=letters_none hf hst
      have hq:quoteRune r= [92,117,48,48,hexd (r / 16),hexd (r % 16)]:=by unfold quoteRune;rw[if_neg hst,hf]
      gi_wp2_with (first|(refine⟨trivial, ?_⟩;gi_at_call 197;refine(CallsIn.inRound l (callsIn_wide.2 (standsFor_calls2 hB _))).mono ?_;rintro e wx ⟨rfl,rfl⟩)|(refine⟨trivial, ?_⟩;gi_at_call 163;refine(CallsIn.inRound l (callsIn_wide.2 (bb_WriteString ⟨#[92,117,48,48]⟩ hXB (by simp[ByteArray.size];omega)))).mono ?_;rintro e w4 ⟨rfl,hB4,hb4,hk4⟩))
      refine⟨trivial, ?_⟩
      refine(CallsIn.inRound l (callsIn_wide.2 (bb_WriteB _ hB4 (by simp;omega)))).mono ?_
      rintro e w5 ⟨rfl,hB5,hb5,hk5⟩
      rw[hexd_at ⟨r / 16,by omega⟩]at hB5
      have hand:=and15 ⟨r,hr32⟩
      dsimp only at hand
      have hm0:0≤(r:Int) % 16:=by omega
      have hm1:(r:Int) % 16<16:=by omega
      have hm2:r % 16<16:=by omega
      gi_wp2_with fail
      refine⟨trivial, ?_⟩
      refine(CallsIn.inRound l (callsIn_wide.2 (bb_WriteB _ hB5 (by simp;omega)))).mono ?_
      rintro e w6 ⟨rfl,hB6,hb6,hk6⟩
      rw[hexd_at ⟨r % 16,by omega⟩]at hB6
      gi_wp2_with fail
      have hkk:=(hk4.trans hk5).trans hk6
      have Hq:(((34::quoteRunes pre)++ [92,117,48,48])++ [hexd (r / 16)])++ [hexd (r % 16)]=34::quoteRunes (pre++ [(p,r)]):=by
       rw[hsn,hq];simp
      exact Fin.out _ _ _ hB6 Hq (((hXw.trans hb4).trans hb5).trans hb6) ⟨some mb,hkk _ _ hXl (by simp) (fun c fz e=>by cases e),fun m' e=>by cases e;exact⟨hmb,hkk _ _ hXm (by simp;omega) (fun c fz e=>by cases e)⟩⟩
       (hkk _ _ hXd (by simp;omega) (fun c fz e=>by cases e)) (hkk _ _ hXr (by simp;omega) (fun c fz e=>by cases e)) (hkk _ _ hX4 (by simp;omega) (fun c fz e=>by cases e))
 case done=>
  rintro W ⟨⟨h1,h2,m,h3,h5⟩,h4⟩ hds
  have hdt:w1.heap.size+1<w3.heap.size:=by omega
  have hlen:(quoteRunes (runes s)).length≤6000000000:=by
   have e1:=quoteRunes_len (runes s)
   have e3:=runesFrom_len s.size s.data.toList 0
   unfold runes at e1 ⊢
   omega
  gi_wp2_with (first|(refine⟨trivial, ?_⟩;gi_at_call 195;refine(callsIn_wide.2 (bb_WriteByte 34 (by omega) (by omega) h2 (by simp;omega))).mono ?_;rintro e w4 ⟨rfl,hB4,hb4,hk4⟩)|(refine⟨trivial, ?_⟩;gi_at_call 83;refine(callsIn_wide.2 (bb_String hB4 (by simp))).mono ?_;rintro e w5 ⟨rfl,hb5,hk5⟩))
  have hd4:=hk4 _ _ hds (by simp;omega) (fun c fz e=>by cases e)
  have hd5:=hk5 _ _ hd4 (by simp;omega) (fun c fz e=>by cases e)
  refine⟨by simp,.inl ⟨_,_,rfl,run_takeDeferred hd5, ?_⟩⟩
  have hbw5:Below w.heap.size w w5:=(h1.trans hb4).trans hb5
  refine⟨_,results_tmp2 rfl _ _ _,rfl,hbw5.grown (grownBy_putObj' w5 _ _) hbw5.size (fun k e=>by cases e;omega)⟩
end Go.Proofs.YtkkbplakgldlpaaGreatDoor

namespace Go.Proofs.YtkkbplakgldlpaaGreatDoor
open Go.RowKit
theorem own_slice {w:World} {B m:Nat} {v:Value} {ns:List Value} (h:w.ownsRow B 27 6 v m ns):
 ∃la lc,v=.slice la m lc∧(m=0∨ ∃g,la=some ⟨g,0,none⟩∧B≤g∧g<w.heap.size∧ ∀j u,ns[j]? =some u→w.cell? ⟨g,0+j,none⟩=some u):=by
 rcases h.2 with⟨rfl,hz⟩|⟨g,cap,cur,rfl,hbg,hg,_,_,_,_⟩
 · subst hz
   exact⟨none,0,rfl,.inl rfl⟩
 · refine⟨_,cap,rfl,.inr ⟨g,rfl,hbg,(Array.getElem?_eq_some_iff.1 hg).1,fun j u hu=> ?_⟩⟩
   have:=h.cells (g:=g) rfl j u hu
   rw[Go.WideShapes.add_plain]at this
   exact this
def WithinPost (w:World) (v:Val) (e:Ending) (w':World):Prop:=
 (∃la lc,e=.returned (.slice la (within v).length lc)∧(within v= []∨ ∃g off,la=some ⟨g,off,none⟩∧g<w'.heap.size∧HoldsL w' w'.heap.size (within v) g off))∧Below w.heap.size w w'
set_option maxRecDepth 100000 in
set_option maxHeartbeats 2000000 in
theorem within_list (b:Bool) (n:Int) (t:ByteArray) (l:List Val) (o:List (ByteArray×Val)) (la oa:Option Addr) (oc lc:Nat) (w:World) (hl:l= []∨ ∃g off,la=some ⟨g,off,none⟩∧g<w.heap.size∧HoldsL w w.heap.size l g off)
 (hb:bulkL l≤100000000):
 Calls Tryz.prog 162 #[.agg #[.int .i64 5,.bool b,.int .i64 n,.string t,.slice la l.length lc,.slice oa o.length oc]] w (WithinPost w (.mk 5 b n t l o)):=by
 have hln:=bulkL_len l
 have hw:within (.mk 5 b n t l o)=l:=by simp[within]
 by_cases h0:l= []
 · subst h0
   clear hl
   go_enter Tryz.func162,Tryz.ntmps162
   have Hw:=Lib.hid hw
   clear hw
   cases la
   · go_wp2
     go_ret
     exact⟨⟨none,0,by rw[Hw.out];rfl,.inl Hw.out⟩,(Below.refl _ _).alloc (Nat.le_refl _) _⟩
   · go_wp2
     go_ret
     exact⟨⟨none,0,by rw[Hw.out];rfl,.inl Hw.out⟩,(Below.refl _ _).alloc (Nat.le_refl _) _⟩
 · obtain⟨g,off,rfl,hg,hL⟩:=hl.resolve_left h0
   obtain⟨i0,hi,hz0,hz1,hz2⟩:=info_parts info_val
   obtain⟨ns,hrow,hcells⟩:=HoldsL.row hL
   obtain⟨hnl,hno⟩:=hrow.len
   have HI:=Lib.hid hi
   have HZ0:=Lib.hid hz0
   have HZ1:=Lib.hid hz1
   have HZ2:=Lib.hid hz2
   have Hrow:=Lib.hid hrow
   have Hcells:=Lib.hid hcells
   have Hw:=Lib.hid hw
   have HN:=Lib.hid hnl
   have HO:=Lib.hid hno
   clear hi hz0 hz1 hz2 hrow hcells hw hnl hno hl hL
   obtain⟨w1,hw1⟩: ∃w1,w.alloc (.cells #[.int .i64 5,.bool b,.int .i64 n,.string t,.slice (some ⟨g,off,none⟩) l.length lc,.slice oa o.length oc] 27)=w1:=⟨_,rfl⟩
   have hb1:Below w.heap.size w w1:=hw1▸(Below.refl _ _).alloc (Nat.le_refl _) _
   have hbx1:w1.heap[w.heap.size]? =some (.cells #[.int .i64 5,.bool b,.int .i64 n,.string t,.slice (some ⟨g,off,none⟩) l.length lc,.slice oa o.length oc] 27 (0,0)):=by rw[←hw1];exact heap_alloc_new _ _
   have hz1:w1.heap.size=w.heap.size+1:=by rw[←hw1];simp
   have HB1:=Lib.hid hb1
   have HX1:=Lib.hid hbx1
   have HS1:=Lib.hid hz1
   have Hown:Hid (w1.ownsRow (w.heap.size+1) 27 6 (.slice none 0 0) 0 []):=World.ownsRow_nil _ _ _ _
   clear hb1 hbx1 hz1
   subst hw1
   go_enter Tryz.func162,Tryz.ntmps162
   go_wp2_with (at_builtin;refine wpList_append_own _ rfl (.tmp 8) (.tmp 10) 24 rfl (w.heap.size+1) 27 i0 (.agg #[.int .i64 0,.bool false,.int .i64 0,.string ⟨#[]⟩,.slice none 0 0,.slice none 0 0]) 6 88 Tryz.underlying24 HI.out HZ0.out HZ1.out HZ2.out rfl (by decide) (.slice none 0 0) 0 [] rfl Hown.out ⟨g,off,none⟩ l.length lc ns rfl HN.out ?c1 ?c2 ?c3 ?c4 ?c5 ?_)
   case c1=>
    intro j u hj
    rw[Go.WideShapes.add_plain]
    exact(HB1.out.cell (p:=⟨g,off+j,none⟩) hg).trans (Hcells.out j u hj)
   case c2=>exact HO.out
   case c3=>unfold maxLen;omega
   case c4=>omega
   case c5=>simp
   intro v' w2 hown' hgrow _
   obtain⟨la',lc',rfl,hsl⟩:=own_slice hown'
   have hbA:=((HB1.out).grown hgrow (by rw[HS1.out];omega) (fun k hk=>by simp[Value.ownBlock]at hk))
   have hbox2:w2.heap[w.heap.size]? =some (.cells #[.int .i64 5,.bool b,.int .i64 n,.string t,.slice (some ⟨g,off,none⟩) l.length lc,.slice oa o.length oc] 27 (0,0)):=(hgrow.block _ (by rw[HS1.out];omega) (by simp[Value.ownBlock])).trans HX1.out
   have d0:w2.cell? ⟨w.heap.size,0,none⟩=some (.int .i64 5):=by rw[Lib.cell_of_heap hbox2];rfl
   have Hsl:=Lib.hid hsl
   have HbA:=Lib.hid hbA
   clear hown' hgrow hsl hbA hbox2
   go_wp2
   go_ret
   refine⟨⟨la',lc',by rw[Hw.out];rfl, ?_⟩,HbA.out⟩
   rw[Hw.out]
   refine .inr ?_
   rcases Hsl.out with h|⟨g',rfl,_,hg',hc'⟩
   · exact absurd (List.length_eq_zero_iff.1 h) h0
   · exact⟨g',0,rfl,hg',Hrow.out.holds (fun v cs h=>HoldsV.more HbA.out.size _ _ (h.below HbA.out)) hc'⟩
set_option maxRecDepth 100000 in
set_option maxHeartbeats 2000000 in
theorem within_obj (b:Bool) (n:Int) (t:ByteArray) (l:List Val) (o:List (ByteArray×Val)) (la oa:Option Addr) (oc lc:Nat) (w:World) (hl:o= []∨ ∃g off,oa=some ⟨g,off,none⟩∧g<w.heap.size∧HoldsO w w.heap.size o g off)
 (hb:bulkO o≤100000000):
 Calls Tryz.prog 162 #[.agg #[.int .i64 6,.bool b,.int .i64 n,.string t,.slice la l.length lc,.slice oa o.length oc]] w (WithinPost w (.mk 6 b n t l o)):=by
 have hln:=bulkO_len o
 have hw:within (.mk 6 b n t l o)=o.map (·.2):=by simp[within]
 obtain⟨i0,hi,hz0,hz1,hz2⟩:=info_parts info_val
 have HI:=Lib.hid hi
 have HZ0:=Lib.hid hz0
 have HZ1:=Lib.hid hz1
 have HZ2:=Lib.hid hz2
 have Hw:=Lib.hid hw
 clear hi hz0 hz1 hz2 hw
 obtain⟨w1,hw1⟩: ∃w1,w.alloc (.cells #[.int .i64 6,.bool b,.int .i64 n,.string t,.slice la l.length lc,.slice oa o.length oc] 27)=w1:=⟨_,rfl⟩
 have hb1:Below w.heap.size w w1:=hw1▸(Below.refl _ _).alloc (Nat.le_refl _) _
 have hbx1:w1.heap[w.heap.size]? =some (.cells #[.int .i64 6,.bool b,.int .i64 n,.string t,.slice la l.length lc,.slice oa o.length oc] 27 (0,0)):=by rw[←hw1];exact heap_alloc_new _ _
 have HB1:=Lib.hid hb1
 have HX1:=Lib.hid hbx1
 have Hown:Hid (w1.ownsRow (w.heap.size+1) 27 6 (.slice none 0 0) 0 []):=World.ownsRow_nil _ _ _ _
 have HR0:Hid (RowL w w.heap.size ((o.take 0).map (·.2)) []):=rfl
 clear hb1 hbx1
 subst hw1
 go_enter Tryz.func162,Tryz.ntmps162
 go_wp2_with (fail)
 go_loopw [3,4] (fun v1 i wr=> ∃(k:Nat) (ns:List Value),i=.int .i64 k∧k≤o.length∧Hid (wr.ownsRow (w.heap.size+1) 27 6 v1 k ns)∧Hid (RowL w w.heap.size ((o.take k).map (·.2)) ns)∧Hid (Below w.heap.size w wr)∧
  Hid (wr.heap[w.heap.size]? =some (.cells #[.int .i64 6,.bool b,.int .i64 n,.string t,.slice la l.length lc,.slice oa o.length oc] 27 (0,0)))) (fun _ i _=>o.length - (intOf i).toNat)
 case atStart=>exact⟨0, [],rfl,Nat.zero_le _,Hown,HR0,HB1,HX1⟩
 case round=>
  obtain⟨k,ns,rfl,hk,hown,hrow,hbw,hbx⟩:=hrel
  clear Hown HR0 HB1 HX1
  have b5:wr.cell? ⟨w.heap.size,5,none⟩=some (.slice oa o.length oc):=by rw[Lib.cell_of_heap hbx.out];rfl
  have hz:w.heap.size<wr.heap.size:=(Array.getElem?_eq_some_iff.1 hbx.out).1
  by_cases hlt:k<o.length
  · obtain⟨g,off,rfl,hg,hL⟩: ∃g off,oa=some ⟨g,off,none⟩∧g<w.heap.size∧HoldsO w w.heap.size o g off:=by
     rcases hl with rfl|h
     · simp at hlt
     · exact h
    obtain⟨⟨key,x⟩,hx⟩: ∃v,o[k]? =some v:=⟨_,List.getElem?_eq_getElem hlt⟩
    have htk:(o.take (k+1)).map (·.2)=(o.take k).map (·.2)++ [x]:=by rw[List.take_add_one,hx];simp
    obtain⟨k',b',n',t',l',o'⟩:=x
    obtain⟨la',lc',oa',oc',hvs,_,e1,e2,e3,e4,e5,e6⟩:=hL.seven hx
    have cc:=fun j (u:Value) (h:w.cell? ⟨g,j,none⟩=some u)=>(hbw.out.cell (p:=⟨g,j,none⟩) hg).trans h
    have c1:=cc _ _ e1
    have c2:=cc _ _ e2
    have c3:=cc _ _ e3
    have c4:=cc _ _ e4
    have c5:=cc _ _ e5
    have c6:=cc _ _ e6
    have hrow':=hrow.out.snoc hvs
    rw[←htk]at hrow'
    have Hrow:=Lib.hid hrow'
    have hno:=Lib.hid hvs.len.2
    clear hrow' hrow htk hx hL hg e1 e2 e3 e4 e5 e6 cc hvs
    go_wp2_with (at_builtin;refine wpList_append_own _ rfl (.tmp 22) (.tmp 29) 24 rfl (w.heap.size+1) 27 i0 (.agg #[.int .i64 0,.bool false,.int .i64 0,.string ⟨#[]⟩,.slice none 0 0,.slice none 0 0]) 6 88 Tryz.underlying24 HI.out HZ0.out HZ1.out HZ2.out rfl (by decide) u3 k ns rfl (hown.out.alloc _) ⟨wr.heap.size,0,none⟩ 1 1 (cells6 k' b' n' t' la' l'.length lc' oa' o'.length oc') rfl rfl ?c1 ?c2 ?c3 ?c4 ?c5 ?_)
    case c1=>
     intro j u hj
     rw[Go.WideShapes.add_plain]
     rw[Lib.cell_of_heap (heap_alloc_new wr (.cells #[.int .i64 k',.bool b',.int .i64 n',.string t',.slice la' l'.length lc',.slice oa' o'.length oc'] 27)),Nat.zero_add]
     simpa using hj
    case c2=>exact hno.out
    case c3=>unfold maxLen;omega
    case c4=>omega
    case c5=>simp;omega
    intro v' w2 hown' hgrow _
    have ho':=Lib.hid hown'
    have hbA:=Lib.hid ((hbw.out.alloc (by omega) (.cells #[.int .i64 k',.bool b',.int .i64 n',.string t',.slice la' l'.length lc',.slice oa' o'.length oc'] 27)).grown hgrow (by simp;omega) (fun q hq=>by have:=(hown.out.lt q hq).1;omega))
    have hbx2:Hid (w2.heap[w.heap.size]? =some (.cells #[.int .i64 6,.bool b,.int .i64 n,.string t,.slice la l.length lc,.slice (some ⟨g,off,none⟩) o.length oc] 27 (0,0))):=by
     show _=_
     rw[hgrow.block _ (by simp;omega) (fun e=>by have:=(hown.out.lt _ e.symm).1;omega),Lib.alloc_old wr _ _ hz]
     exact hbx.out
    clear hown' hgrow hown hbw hbx b5 c1 c2 c3 c4 c5 c6 hno
    go_wp2
    go_roundw
    case rel=>exact⟨k+1,_,by go_num,by omega,ho',Hrow,hbA,hbx2⟩
    case measure=>simp only[intOf];omega
  · obtain rfl:k=o.length:=by omega
    have hr':=hrow.out
    rw[List.take_length]at hr'
    obtain⟨la',lc',rfl,hsl⟩:=own_slice hown.out
    have Hsl:=Lib.hid hsl
    have HR:=Lib.hid hr'
    have Hlm:Hid (o.length=(o.map (·.2)).length):=by show _=_;simp
    clear hr' hrow hsl hown hl
    go_wp2
    go_ret
    refine⟨⟨la',lc',by rw[Hw.out,←Hlm.out];rfl, ?_⟩,hbw.out⟩
    rw[Hw.out]
    rcases Hsl.out with h|⟨g',rfl,_,hg',hc'⟩
    · exact .inl (by rw[List.length_eq_zero_iff.1 h];rfl)
    · exact .inr ⟨g',0,rfl,hg',HR.out.holds (fun v cs h=>HoldsV.more hbw.out.size _ _ (h.below hbw.out)) hc'⟩
end Go.Proofs.YtkkbplakgldlpaaGreatDoor

namespace Go.Proofs.YtkkbplakgldlpaaGreatDoor
open Go Go.RowKit
theorem add_plain' (g off i:Nat):(⟨g,off,none⟩:Addr).add i=⟨g,off+i,none⟩:=Go.WideShapes.add_plain g off i
theorem Holds.reads {w:World} {B s:Nat} {l:List D} {a:Option Addr} {n c:Nat} (h:Holds w B (.row s l) [.slice a n c]): ∃ns,Reads w B s a n ns∧HoldsA w B l ns∧ ∀u ∈ ns,u.oneCell'=true:=by
 have hn:=h.row_len
 obtain⟨a',c',e,hs,ns,h1,h2⟩:=h
 simp only[List.cons.injEq,Value.slice.injEq,and_true]at e
 obtain⟨rfl,rfl,rfl⟩:=e
 refine⟨ns,⟨by rw[h1.len.1,cellsA_all hs],fun h0=> ?_⟩,h1,h1.len.2⟩
 rcases h2 with rfl|⟨g,off,e,hg,hc⟩
 · simp at h0
 · exact⟨_,e,hg,fun j u hu=>by rw[add_plain'];exact hc j u hu⟩
def RowD (b:Nat) (t:TypeId) (s:Nat) (wr:World) (l:List D) (V:Value):Prop:=
 ∃ns,wr.ownsRow b t s V l.length ns∧(∀d ∈ l,d.cells=s)∧ ∀w'':World,wr.heap.size≤w''.heap.size→
  (∀p:Addr,b≤p.block→p.block<wr.heap.size→V.ownBlock≠some p.block→w''.cell? p=wr.cell? p)→HoldsA w'' wr.heap.size l ns
theorem RowD.nil (b:Nat) (t:TypeId) (s:Nat) (wr:World):RowD b t s wr [] (.slice none 0 0):=⟨[],World.ownsRow_nil _ _ _ _,fun d hd=>(by cases hd),fun _ _ _=>rfl⟩
theorem RowD.base {b:Nat} {t:TypeId} {s:Nat} {wr:World} {l:List D} {V:Value} (h:RowD b t s wr l V): ∀g,V.ownBlock=some g→b≤g∧g<wr.heap.size:=by
 obtain⟨ns,h1,_⟩:=h
 exact h1.lt
theorem RowD.keep {b:Nat} {t:TypeId} {s:Nat} {wr w':World} {l:List D} {V:Value} (h:RowD b t s wr l V) (hs:wr.heap.size≤w'.heap.size) (hk: ∀i,b≤i→i<wr.heap.size→w'.heap[i]? =wr.heap[i]?):RowD b t s w' l V:=by
 obtain⟨ns,h1,h2,h3⟩:=h
 refine⟨ns,⟨h1.1, ?_⟩,h2,fun w'' k1 k2=>HoldsA.more (h3 w'' (by omega) (fun p p1 p2 p3=>(k2 p p1 (by omega) p3).trans (World.cell?_of_block (hk p.block p1 p2)))) hs⟩
 rcases h1.2 with⟨rfl,h0⟩|⟨g,cap,cur,rfl,hbg,hg,h5⟩
 · exact .inl ⟨rfl,h0⟩
 · exact .inr ⟨g,cap,cur,rfl,hbg,(hk g hbg (Array.getElem?_eq_some_iff.1 hg).1).trans hg,h5⟩
theorem RowD.below {b:Nat} {t:TypeId} {s:Nat} {wr w':World} {l:List D} {V:Value} (h:RowD b t s wr l V) (hb:Below wr.heap.size wr w'):RowD b t s w' l V:=h.keep hb.size fun i _ hi=>hb.block i hi
theorem RowD.step {b:Nat} {t:TypeId} {s:Nat} {wr w4 w6:World} {l:List D} {V V':Value} {d:D} {cs ns:List Value} (hbw:b≤wr.heap.size)
 (hns: ∀w'':World,wr.heap.size≤w''.heap.size→(∀p:Addr,b≤p.block→p.block<wr.heap.size→V.ownBlock≠some p.block→w''.cell? p=wr.cell? p)→HoldsA w'' wr.heap.size l ns)
 (hall: ∀d ∈ l,d.cells=s) (hd:d.cells=s) (hx:Fresh wr.heap.size w4 d cs) (hlt: ∀g,V.ownBlock=some g→g<wr.heap.size)
 (hown:w6.ownsRow b t s V' (l.length+1) (ns++cs)) (hV:V'.ownBlock=V.ownBlock∨ ∃N,V'.ownBlock=some N∧w4.heap.size≤N)
 (hs4:wr.heap.size≤w4.heap.size) (hs6:w4.heap.size≤w6.heap.size) (h4: ∀p:Addr,b≤p.block→p.block<wr.heap.size→w4.cell? p=wr.cell? p)
 (h6: ∀p:Addr,b≤p.block→p.block<w4.heap.size→V.ownBlock≠some p.block→w6.cell? p=w4.cell? p):RowD b t s w6 (l++ [d]) V':=by
 refine⟨ns++cs,by rw[List.length_append];exact hown, ?_,fun w'' hsz hag=> ?_⟩
 · intro x hx'
   rcases List.mem_append.1 hx' with hx'|hx'
   · exact hall x hx'
   · simp only[List.mem_cons,List.not_mem_nil,or_false]at hx'
     rw[hx'];exact hd
 · have hnew: ∀p:Addr,p.block<w4.heap.size→V.ownBlock≠some p.block→V'.ownBlock≠some p.block:=by
    intro p p2 p3
    rcases hV with e|⟨N,e,hN⟩
    · rw[e];exact p3
    · rw[e];intro e2;have:=Option.some.inj e2;omega
   have a1:HoldsA w'' w6.heap.size l ns:=HoldsA.more (hns w'' (by omega) (fun p p1 p2 p3=>by
    rw[hag p p1 (by omega) (hnew p (by omega) p3),h6 p p1 (by omega) p3,h4 p p1 p2])) (by omega)
   have a2:Holds w'' w6.heap.size d cs:=Holds.more (hx w'' (by omega) (fun p p1 p2=>by
    have p3:V.ownBlock≠some p.block:=fun e=>by have:=hlt _ e;omega
    rw[hag p (by omega) (by omega) (hnew p p2 p3),h6 p (by omega) p2 p3])) hs6
   exact a1.snoc a2
theorem RowD.close {b:Nat} {t:TypeId} {s:Nat} {wr:World} {l:List D} {V:Value} (h:RowD b t s wr l V):
 ∃a c,V=.slice a l.length c∧l.length≤c∧Fresh b wr (.row s l) [.slice a l.length c]∧((l= []∧a=none∧c=0)∨ ∃g,a=some ⟨g,0,none⟩∧b≤g∧g<wr.heap.size):=by
 obtain⟨ns,h1,h2,h3⟩:=h
 have h1':=h1
 rcases h1.2 with⟨rfl,h0⟩|⟨g,cap,cur,rfl,hbg,hg,hnc,_⟩
 · have hl:l= []:=List.eq_nil_of_length_eq_zero h0
   subst hl
   exact⟨none,0,rfl,Nat.le_refl _,fun _ _ _=>⟨none,0,rfl,h2, [],rfl,.inl rfl⟩,.inl ⟨rfl,rfl,rfl⟩⟩
 · have hgl:=(Array.getElem?_eq_some_iff.1 hg).1
   refine⟨_,cap,rfl,hnc,fun w'' k1 k2=>⟨_,cap,rfl,h2,ns,h3 w'' k1 (fun p p1 p2 _=>k2 p p1 p2),.inr ⟨g,0,rfl,hgl,fun j u hu=> ?_⟩⟩,.inr ⟨g,rfl,hbg,hgl⟩⟩
   have h5:=h1'.cells (g:=g) rfl j u hu
   rw[add_plain']at h5
   exact(k2 _ hbg hgl).trans h5
end Go.Proofs.YtkkbplakgldlpaaGreatDoor
