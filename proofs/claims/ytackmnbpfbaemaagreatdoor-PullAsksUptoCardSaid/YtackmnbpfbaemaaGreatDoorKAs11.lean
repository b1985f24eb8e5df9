/- Parts, joined: Keys in order; a list of members has one order. Plain. No condition. parse.reader: its world, and its small functions: wrong, skip, comes. Condition: a text of at most 10^9 bytes. utf: digit, unit, paired, refused. Condition: a text of at most 10^9 bytes. -/
import Derived.Test.YtackmnbpfbaemaaGreatDoorProg
import Derived.Lib.Strings
import Derived.WalkKit
import Derived.BigQuiet
import Derived.Deep.QuietTactic
import Derived.WalkLawsBesides
import Derived.WalkSpells
import Derived.Lib.Hide
import Derived.IntWalk
import Derived.Deep.LoopGhost
import Derived.Test.YtackmnbpfbaemaaGreatDoorKAs2
import Derived.Test.YtackmnbpfbaemaaGreatDoorKAs3
import Derived.Test.YtackmnbpfbaemaaGreatDoorKAs7
import Derived.Test.YtackmnbpfbaemaaGreatDoorKAs9
namespace Go.Proofs.YtackmnbpfbaemaaGreatDoor
open Go.RowKit
theorem bl_irrefl: ∀x:List UInt8,Op.bytesLess x x=false
 | []=>rfl
 |a::x=>by simp[Op.bytesLess,bl_irrefl x,UInt8.lt_irrefl]
theorem bl_trans: ∀{x y z:List UInt8},Op.bytesLess x y=true→Op.bytesLess y z=true→Op.bytesLess x z=true
 |_, [],_,h,_=>by cases ‹List UInt8› <;>simp[Op.bytesLess]at h
 |_,_::_, [],_,h=>by simp[Op.bytesLess]at h
 | [],_::_,_::_,_,_=>rfl
 |a::x,b::y,c::z,h,k=>by
  simp only[Op.bytesLess,Bool.or_eq_true,Bool.and_eq_true,decide_eq_true_eq,beq_iff_eq]at h k ⊢
  rcases h with h|⟨rfl,h⟩<;>rcases k with k|⟨rfl,k⟩
  · exact .inl (UInt8.lt_trans h k)
  · exact .inl h
  · exact .inl k
  · exact .inr ⟨rfl,bl_trans h k⟩
theorem bl_tri: ∀(x y:List UInt8),Op.bytesLess x y=true∨x=y∨Op.bytesLess y x=true
 | [], []=> .inr (.inl rfl)
 | [],_::_=> .inl rfl
 |_::_, []=> .inr (.inr rfl)
 |a::x,b::y=>by
  simp only[Op.bytesLess,Bool.or_eq_true,Bool.and_eq_true,decide_eq_true_eq,beq_iff_eq]
  rcases Nat.lt_trichotomy a.toNat b.toNat with h|h|h
  · exact .inl (.inl (UInt8.lt_iff_toNat_lt.2 h))
  · have hab:a=b:=UInt8.toNat_inj.1 h
    subst hab
    rcases bl_tri x y with h|h|h
    · exact .inl (.inr ⟨rfl,h⟩)
    · exact .inr (.inl (by rw[h]))
    · exact .inr (.inr (.inr ⟨rfl,h⟩))
  · exact .inr (.inr (.inl (UInt8.lt_iff_toNat_lt.2 h)))
theorem toList_inj {a b:ByteArray} (h:a.toList=b.toList):a=b:=by
 rw[Lib.toList_data,Lib.toList_data]at h
 exact ByteArray.ext (Array.ext' h)
theorem ltB_irrefl (a:ByteArray):ltB a a=false:=bl_irrefl _
theorem ltB_trans {a b c:ByteArray} (h:ltB a b=true) (k:ltB b c=true):ltB a c=true:=bl_trans h k
theorem ltB_tri (a b:ByteArray):ltB a b=true∨a=b∨ltB b a=true:=by
 rcases bl_tri a.toList b.toList with h|h|h
 · exact .inl h
 · exact .inr (.inl (toList_inj h))
 · exact .inr (.inr h)
theorem ltB_asym {a b:ByteArray} (h:ltB a b=true):ltB b a=false:=by
 cases e:ltB b a with
 |false=>rfl
 |true=>have:=ltB_trans h e;rw[ltB_irrefl]at this;cases this
def ascO (l:List (ByteArray×Val)):Prop:=l.Pairwise fun a b=>ltB a.1 b.1=true
theorem atO_split (k:ByteArray): ∀{acc:List (ByteArray×Val)},ascO acc→hitO k acc=false→(∀p ∈ acc.take (atO k acc),ltB p.1 k=true)∧(∀p ∈ acc.drop (atO k acc),ltB k p.1=true)
 | [],_,_=>by simp
 |q::r,ha,hh=>by
  obtain⟨h1,h2⟩:=List.pairwise_cons.1 ha
  by_cases hq:ltB q.1 k=true
  · have hh':hitO k r=false:=by
     unfold hitO at hh ⊢
     simpa only[atO,if_pos hq,List.getElem?_cons_succ]using hh
    obtain⟨a,b⟩:=atO_split k h2 hh'
    simp only[atO,if_pos hq,List.take_succ_cons,List.drop_succ_cons]
    refine⟨fun p hp=> ?_,b⟩
    rcases List.mem_cons.1 hp with rfl|hp
    · exact hq
    · exact a p hp
  · simp only[atO,if_neg hq,List.take_zero,List.drop_zero]
    refine⟨fun p hp=>(by cases hp), ?_⟩
    have hne:q.1≠k:=by
     intro e
     unfold hitO at hh
     simp only[atO,if_neg hq,List.getElem?_cons_zero,Option.any_some]at hh
     rw[e]at hh
     simp at hh
    have hkq:ltB k q.1=true:=by
     rcases ltB_tri q.1 k with h|h|h
     · exact absurd h hq
     · exact absurd h hne
     · exact h
    intro p hp
    rcases List.mem_cons.1 hp with rfl|hp
    · exact hkq
    · exact ltB_trans hkq (h1 p hp)
theorem putO_asc {m:ByteArray×Val} {acc:List (ByteArray×Val)} (ha:ascO acc) (hh:hitO m.1 acc=false):ascO (putO m acc):=by
 obtain⟨h1,h2⟩:=atO_split m.1 ha hh
 have h3:ascO (acc.take (atO m.1 acc)++acc.drop (atO m.1 acc)):=by rw[List.take_append_drop];exact ha
 obtain⟨h4,h5,h6⟩:=List.pairwise_append.1 h3
 refine List.pairwise_append.2 ⟨h4,List.pairwise_cons.2 ⟨h2,h5⟩,fun a ha b hb=> ?_⟩
 rcases List.mem_cons.1 hb with rfl|hb
 · exact h1 a ha
 · exact h6 a ha b hb
theorem putO_perm (m:ByteArray×Val) (acc:List (ByteArray×Val)):(putO m acc).Perm (m::acc):=by
 have h:(acc.take (atO m.1 acc)++([m]++acc.drop (atO m.1 acc))).Perm ([m]++(acc.take (atO m.1 acc)++acc.drop (atO m.1 acc))):=by
  rw[←List.append_assoc,←List.append_assoc]
  exact List.Perm.append_right _ List.perm_append_comm
 rw[List.take_append_drop]at h
 exact h
theorem hitO_mem {k:ByteArray} {acc:List (ByteArray×Val)} (h:hitO k acc=true): ∃v,(k,v) ∈ acc:=by
 unfold hitO at h
 cases e:acc[atO k acc]? with
 |none=>rw[e]at h;cases h
 |some p=>
  rw[e]at h
  have hk:p.1=k:=toList_inj (by simpa using h)
  exact⟨p.2,by rw[←hk];exact List.mem_of_getElem? e⟩
theorem objAll_some: ∀{l acc o:List (ByteArray×Val)},objAll l acc=some o→ascO acc→ascO o∧o.Perm (l++acc)
 | [],acc,o,h,ha=>by
   simp only[objAll,Option.some.injEq]at h
   subst h
   exact⟨ha,List.Perm.refl _⟩
 |m::r,acc,o,h,ha=>by
  simp only[objAll]at h
  by_cases hh:hitO m.1 acc=true
  · rw[if_pos hh]at h;cases h
  · rw[if_neg hh]at h
    obtain⟨h1,h2⟩:=objAll_some h (putO_asc ha (by simpa using hh))
    exact⟨h1,h2.trans ((List.Perm.append_left r (putO_perm m acc)).trans List.perm_middle)⟩
theorem asc_keys {l:List (ByteArray×Val)} (h:ascO l):(l.map (·.1)).Nodup:=by
 rw[List.Nodup,List.pairwise_map]
 exact h.imp fun hab e=>by rw[e,ltB_irrefl]at hab;cases hab
theorem objAll_none: ∀{l acc:List (ByteArray×Val)},objAll l acc=none→ ¬((l++acc).map (·.1)).Nodup
 | [],acc,h=>by simp[objAll]at h
 |m::r,acc,h=>by
  simp only[objAll]at h
  by_cases hh:hitO m.1 acc=true
  · obtain⟨v,hv⟩:=hitO_mem hh
    intro hn
    rw[List.cons_append,List.map_cons,List.nodup_cons]at hn
    exact hn.1 (List.mem_map.2 ⟨(m.1,v),List.mem_append.2 (.inr hv),rfl⟩)
  · rw[if_neg hh]at h
    intro hn
    refine objAll_none h ?_
    have hp:((r++putO m acc).map (·.1)).Perm ((m::r++acc).map (·.1)):=((List.Perm.append_left r (putO_perm m acc)).trans List.perm_middle).map _
    exact hp.nodup_iff.2 hn
theorem asc_unique: ∀{a b:List (ByteArray×Val)},ascO a→ascO b→a.Perm b→a=b
 | [],b,_,_,h=>(List.Perm.nil_eq h)
 |x::a, [],_,_,h=>by have:=h.length_eq;simp at this
 |x::a,y::b,ha,hb,h=>by
  obtain⟨h1,h2⟩:=List.pairwise_cons.1 ha
  obtain⟨h3,h4⟩:=List.pairwise_cons.1 hb
  have hxy:x=y:=by
   rcases List.mem_cons.1 (h.mem_iff.1 (List.mem_cons_self (a:=x)))with e|hx
   · exact e
   · rcases List.mem_cons.1 (h.mem_iff.2 (List.mem_cons_self (a:=y)))with e|hy
     · exact e.symm
     · have p:=h3 x hx
       have q:=h1 y hy
       rw[ltB_asym p]at q
       cases q
  subst hxy
  rw[asc_unique h2 h4 (List.perm_cons _ |>.1 h)]
theorem objAll_sorted {l d:List (ByteArray×Val)} (hp:d.Perm l) (ha:ascO d):objAll l []=some d:=by
 cases e:objAll l []with
 |none=>
  exfalso
  refine objAll_none e ?_
  rw[List.append_nil]
  exact(hp.map (·.1)).nodup_iff.1 (asc_keys ha)
 |some o=>
  obtain⟨h1,h2⟩:=objAll_some e List.Pairwise.nil
  rw[List.append_nil]at h2
  rw[asc_unique ha h1 (hp.trans h2.symm)]
theorem objAll_twice {l d:List (ByteArray×Val)} (hp:d.Perm l) (ht: ¬(d.map (·.1)).Nodup):objAll l []=none:=by
 cases e:objAll l []with
 |none=>rfl
 |some o=>
  obtain⟨h1,h2⟩:=objAll_some e List.Pairwise.nil
  rw[List.append_nil]at h2
  exact absurd ((hp.trans h2.symm).map (·.1) |>.nodup_iff.2 (asc_keys h1)) ht
end Go.Proofs.YtackmnbpfbaemaaGreatDoor

namespace Go.Proofs.YtackmnbpfbaemaaGreatDoor
open Go Go.RowKit
def faultE (e q:Int):Ending:= .panicked [{v:= .iface 195 (.agg #[.int .i64 e, .int .i64 q]),recovered:=false}]
def KV (R:Nat):List (Int×Value):=
 let f:=fun n:Nat=>Value.func (.func n) #[.pointer (some ⟨R,0,none⟩)] #[]
 [(110,f 166),(102,f 167),(116,f 168),(34,f 169),(91,f 170),(123,f 171),(45,f 172),
  (48,f 172),(49,f 172),(50,f 172),(51,f 172),(52,f 172),(53,f 172),(54,f 172),(55,f 172),(56,f 172),(57,f 172)]
def RdB (w:World) (R g:Nat) (s:ByteArray) (k:Nat):Prop:=Blk w R 201 #[.string s, .int .i64 k, .map (some g)]
def RdTo (R g:Nat) (s:ByteArray) (k':Nat) (w w':World):Prop:=w.grownBy w' (some R)∧RdB w' R g s k'
theorem grownBy_trans {w w1 w2:World} {r:Option Nat} (h:w.grownBy w1 r) (k:w1.grownBy w2 r):w.grownBy w2 r:=
 ⟨k.os.trans h.os,k.tape.trans h.tape,k.output.trans h.output,Nat.le_trans h.size k.size,fun i hi hn=>(k.block i (Nat.lt_of_lt_of_le hi h.size) hn).trans (h.block i hi hn)⟩
theorem grownBy_drewN {w w1:World} {r:Option Nat} (h:w.grownBy w1 r) (n:Nat):w.grownBy (w1.drewN n) r:=⟨h.os,h.tape,h.output,h.size,h.block⟩
theorem grownBy_alloc {w w1:World} {r:Option Nat} (h:w.grownBy w1 r) (o:Obj):w.grownBy (w1.alloc o) r:=
 ⟨h.os,h.tape,h.output,Nat.le_trans h.size (by simp),fun i hi hne=>(Below.heap_alloc w1 o i (Nat.lt_of_lt_of_le hi h.size)).trans (h.block i hi hne)⟩
theorem grownBy_below {w w1 w2:World} {r:Option Nat} (h:w.grownBy w1 r) (k:Below w1.heap.size w1 w2):w.grownBy w2 r:=
 ⟨k.os.trans h.os,k.tape.trans h.tape,k.output.trans h.output,Nat.le_trans h.size k.size,fun i hi hn=>(k.block i (Nat.lt_of_lt_of_le hi h.size)).trans (h.block i hi hn)⟩
theorem grownBy_set {w w1:World} {r:Nat} (h:w.grownBy w1 (some r)) (p:Addr) (hp:p.block=r∨w.heap.size≤p.block) (u:Value):w.grownBy (w1.setCell p u) (some r):=
 ⟨h.os,h.tape,h.output,by simpa[World.setCell]using h.size,fun i hi hne=>(Below.heap_setCell w1 p u i (by
   rintro rfl
   rcases hp with hp|hp
   · exact hne (by rw[hp])
   · omega)).trans (h.block i hi hne)⟩
theorem grownBy_of_below {w w1:World} (r:Option Nat) (k:Below w.heap.size w w1):w.grownBy w1 r:=⟨k.os,k.tape,k.output,k.size,fun i hi _=>k.block i hi⟩
theorem RdTo.refl {w:World} {R g k:Nat} {s:ByteArray} (h:RdB w R g s k):RdTo R g s k w w:=⟨World.grownBy.refl _ _,h⟩
theorem RdTo.trans {w w1 w2:World} {R g k k':Nat} {s:ByteArray} (h:RdTo R g s k w w1) (h':RdTo R g s k' w1 w2):RdTo R g s k' w w2:=⟨grownBy_trans h.1 h'.1,h'.2⟩
theorem RdTo.drewN {w w1:World} {R g k:Nat} {s:ByteArray} (h:RdTo R g s k w w1) (n:Nat):RdTo R g s k w (w1.drewN n):=⟨grownBy_drewN h.1 n,h.2⟩
theorem RdTo.drew {w w1:World} {R g k:Nat} {s:ByteArray} (h:RdTo R g s k w w1):RdTo R g s k w w1.drew:=⟨⟨h.1.os,h.1.tape,h.1.output,h.1.size,h.1.block⟩,h.2⟩
theorem RdTo.alloc {w w1:World} {R g k:Nat} {s:ByteArray} (h:RdTo R g s k w w1) (o:Obj):RdTo R g s k w (w1.alloc o):=⟨grownBy_alloc h.1 o,Blk.alloc h.2 o⟩
theorem RdTo.below {w w1 w2:World} {R g k:Nat} {s:ByteArray} (h:RdTo R g s k w w1) (hb:Below w1.heap.size w1 w2):RdTo R g s k w w2:=⟨grownBy_below h.1 hb,Blk.below h.2 hb (Blk.lt h.2)⟩
theorem RdTo.set {w w1:World} {R g k:Nat} {s:ByteArray} (h:RdTo R g s k w w1) (k':Nat):RdTo R g s k' w (w1.setCell ⟨R,1,none⟩ (.int .i64 k')):=
 ⟨grownBy_set h.1 _ (.inl rfl) _,by have:=Blk.set_ h.2 1 (.int .i64 k');exact this⟩
theorem RdB.cells {w:World} {R g k:Nat} {s:ByteArray} (h:RdB w R g s k):w.cell? ⟨R,0,none⟩=some (.string s)∧w.cell? ⟨R,1,none⟩=some (.int .i64 k)∧w.cell? ⟨R,2,none⟩=some (.map (some g))∧w.frozen? ⟨R,1,none⟩=false∧R<w.heap.size:=
 ⟨Blk.cell h 0,Blk.cell h 1,Blk.cell h 2,Blk.frozen h 1,Blk.lt h⟩
theorem get_byte (s:ByteArray) {a:Nat} (h:a<s.size):s.data.toList[a]? =some s[a]:=by
 rw[List.getElem?_eq_getElem (by rw[←Lib.size_eq];exact h)]
 rfl
theorem byte_lt (c:UInt8):(c.toNat:Int)<256:=by have:=c.toNat_lt;omega
theorem byte_eq {c:UInt8} {n:Nat} (hn:n<256):((c.toNat:Int)==(n:Int))=(c==UInt8.ofNat n):=by
 rw[Bool.eq_iff_iff]
 simp only[beq_iff_eq]
 constructor
 · intro h
   have:c.toNat=n:=by omega
   subst this
   simp
 · rintro rfl
   simp[UInt8.toNat_ofNat',Nat.mod_eq_of_lt hn]
theorem wrong_calls (p:Value) (e q:Int) (w:World):Calls Tryz.prog 125 #[p, .int .i64 e, .int .i64 q] w fun r w'=>r=faultE e q∧w'=w:=by
 go_enter Tryz.func125,Tryz.ntmps125
 go_wp2
 exact⟨rfl,rfl,rfl⟩
set_option maxRecDepth 100000 in
set_option maxHeartbeats 4000000 in
theorem skip_calls (R g:Nat) (s:ByteArray) (k:Nat) (w:World) (hs:s.size≤1000000000) (hk:k≤s.size) (h:RdB w R g s k):
 Calls Tryz.prog 124 #[.pointer (some ⟨R,0,none⟩)] w fun e w'=>e= .returned (.tuple #[])∧RdTo R g s (past s.data.toList k) w w':=by
 obtain⟨P,hP⟩: ∃P,past s.data.toList k=P:=⟨_,rfl⟩
 have H0:=Lib.hid (And.intro hP (RdTo.refl h))
 rw[hP]
 clear h hP
 go_enter Tryz.func124,Tryz.ntmps124
 go_wp2
 go_loopg [] (s.size - k) (fun n wr=> ∃j:Nat,j≤s.size∧n=s.size - j∧Hid (past s.data.toList j=P∧RdTo R g s j w wr))
 case atStart=>exact⟨k,hk,rfl,H0⟩
 case round=>
  obtain⟨j,hj,rfl,hh⟩:=hrel
  clear H0
  obtain⟨c0,c1,_,f1,hR⟩:=hh.out.2.2.cells
  by_cases hlt:j<s.size
  · obtain⟨c,hc⟩: ∃c,s[j]=c:=⟨_,rfl⟩
    have hg:s.data.toList[j]? =some c:=by rw[get_byte s hlt,hc]
    have hcl:=byte_lt c
    have i1:(j:Int)<(s.size:Int):=by omega
    have i0:(0:Int)≤(j:Int):=by omega
    by_cases hbl:isBlank c=true
    · have HN:Hid (past s.data.toList (j+1)=P∧ ∀nq,RdTo R g s (j+1) w ((wr.drewN nq).setCell ⟨R,1,none⟩ (.int .i64 ((j+1:Nat):Int)))):=
       ⟨by rw[←past_step hg hbl];exact hh.out.1,fun nq=>(hh.out.2.drewN nq).set _⟩
      unfold isBlank at hbl
      simp only[Bool.or_eq_true,beq_iff_eq]at hbl
      clear hg hh
      rcases hbl with((hbl|hbl)|hbl)|hbl
      all_goals
       subst hbl
       go_wp2
       go_quiet (fail)
       go_wp2
       go_quiet (fail)
       go_wp2
       go_roundg (s.size - (j+1))
       case measure=>omega
       case rel=>exact⟨j+1,by omega,rfl,HN.out.1,HN.out.2 _⟩
    · have HN:Hid (j=P∧ ∀nq,RdTo R g s j w (wr.drewN nq)):=⟨by rw[←hh.out.1,past_stop hg (by simpa using hbl)],fun nq=>hh.out.2.drewN nq⟩
      unfold isBlank at hbl
      simp only[Bool.or_eq_true,beq_iff_eq,not_or]at hbl
      obtain⟨⟨⟨h9,h10⟩,h13⟩,h32⟩:=hbl
      have ne: ∀n:Nat,n<256→c≠UInt8.ofNat n→((c.toNat:Int)==(n:Int))=false:=fun n hn h=>by rw[byte_eq hn];simpa using h
      have e9:((c.toNat:Int)==9)=false:=ne 9 (by decide) h9
      have e10:((c.toNat:Int)==10)=false:=ne 10 (by decide) h10
      have e13:((c.toNat:Int)==13)=false:=ne 13 (by decide) h13
      have e32:((c.toNat:Int)==32)=false:=ne 32 (by decide) h32
      clear ne h9 h10 h13 h32 hg hh
      go_wp2
      go_quiet (fail)
      go_wp2
      go_quiet (fail)
      go_wp2
      refine bodyPost_ret (results_none rfl _ _ _) rfl ?_
      refine⟨rfl, ?_⟩
      rw[←HN.out.1]
      exact HN.out.2 _
  · have HN:Hid (j=P∧ ∀nq,RdTo R g s j w (wr.drewN nq)):=⟨by rw[←hh.out.1,past_end (by rw[←Lib.size_eq];omega)],fun nq=>hh.out.2.drewN nq⟩
    have i1: ¬((j:Int)<(s.size:Int)):=by omega
    clear hh
    go_wp2
    go_quiet (fail)
    go_wp2
    go_end0
    refine⟨rfl, ?_⟩
    rw[←HN.out.1]
    exact HN.out.2 _
theorem size_toList (s:ByteArray):s.data.toList.length=s.size:=by rw[Array.length_toList];rfl
theorem past_size {s:ByteArray} {k:Nat} (hk:k≤s.size):past s.data.toList k≤s.size:=by
 have:=past_le (s:=s.data.toList) (p:=k) (by rw[size_toList];exact hk)
 rwa [size_toList]at this
set_option maxRecDepth 100000 in
set_option maxHeartbeats 4000000 in
theorem comes_yes (R g:Nat) (s:ByteArray) (k:Nat) (c:UInt8) (w:World) (hs:s.size≤1000000000) (hk:k≤s.size) (h:RdB w R g s k) (hc:s.data.toList[past s.data.toList k]? =some c):
 Calls Tryz.prog 202 #[.pointer (some ⟨R,0,none⟩), .int .u8 c.toNat] w fun e w'=>e= .returned (.bool true)∧RdTo R g s (past s.data.toList k+1) w w':=by
 have hS:=skip_calls R g s k w hs hk h
 have hP:=past_size hk
 generalize past s.data.toList k=P at hS hP hc ⊢
 have hlt:P<s.size:=by have:=get_lt hc;rwa [size_toList]at this
 have hx:s[P]=c:=by rw[get_byte s hlt]at hc;exact Option.some.inj hc
 have hcl:=byte_lt c
 have i0:(0:Int)≤(P:Int):=by omega
 have i1:(P:Int)<(s.size:Int):=by omega
 have e1:((P:Int)==(s.size:Int))=false:=by rw[beq_eq_false_iff_ne];omega
 clear hc h
 have HS:=Lib.hid hS
 clear hS
 go_enter Tryz.func202,Tryz.ntmps202
 go_wp2_with (fail)
 with_reducible refine(HS.out).mono ?_
 rintro e w1 ⟨rfl,h1⟩
 obtain⟨c0,c1,_,f1,hR⟩:=h1.2.cells
 have H1:=Lib.hid h1
 clear h1
 go_wp2
 go_quiet (fail)
 go_wp2
 go_ret
 exact⟨rfl,(H1.out.drewN _).set _⟩
set_option maxRecDepth 100000 in
set_option maxHeartbeats 4000000 in
theorem comes_no (R g:Nat) (s:ByteArray) (k:Nat) (c:UInt8) (w:World) (hs:s.size≤1000000000) (hk:k≤s.size) (h:RdB w R g s k) (hc: ¬(s.data.toList[past s.data.toList k]? =some c)):
 Calls Tryz.prog 202 #[.pointer (some ⟨R,0,none⟩), .int .u8 c.toNat] w fun e w'=>e= .returned (.bool false)∧RdTo R g s (past s.data.toList k) w w':=by
 have hS:=skip_calls R g s k w hs hk h
 have hP:=past_size hk
 generalize past s.data.toList k=P at hS hP hc ⊢
 have i0:(0:Int)≤(P:Int):=by omega
 by_cases hlt:P<s.size
 · obtain⟨x,hx⟩: ∃x,s[P]=x:=⟨_,rfl⟩
   have hne:((x.toNat:Int)==(c.toNat:Int))=false:=by
    rw[get_byte s hlt,hx]at hc
    rw[beq_eq_false_iff_ne]
    intro e
    exact hc (by rw[UInt8.toNat_inj.1 (by omega:x.toNat=c.toNat)])
   have hne2:((x.toNat:Int) != (c.toNat:Int))=true:=by unfold bne;rw[hne];rfl
   have hcl:=byte_lt c
   have hxl:=byte_lt x
   have i1:(P:Int)<(s.size:Int):=by omega
   have e1:((P:Int)==(s.size:Int))=false:=by rw[beq_eq_false_iff_ne];omega
   clear hc h
   have HS:=Lib.hid hS
   clear hS
   go_enter Tryz.func202,Tryz.ntmps202
   go_wp2_with (fail)
   with_reducible refine(HS.out).mono ?_
   rintro e w1 ⟨rfl,h1⟩
   obtain⟨c0,c1,_,f1,hR⟩:=h1.2.cells
   have H1:=Lib.hid h1
   clear h1
   go_wp2
   go_quiet (fail)
   go_wp2
   go_ret
   exact⟨rfl,H1.out.drewN _⟩
 · obtain rfl:P=s.size:=by omega
   have e1:((s.size:Int)==(s.size:Int))=true:=by simp
   clear hc h
   have HS:=Lib.hid hS
   clear hS
   go_enter Tryz.func202,Tryz.ntmps202
   go_wp2_with (fail)
   with_reducible refine(HS.out).mono ?_
   rintro e w1 ⟨rfl,h1⟩
   obtain⟨c0,c1,_,f1,hR⟩:=h1.2.cells
   have H1:=Lib.hid h1
   clear h1
   go_wp2
   go_quiet (fail)
   go_wp2
   go_ret
   exact⟨rfl,H1.out.drewN _⟩
theorem comes_calls (R g:Nat) (s:ByteArray) (k:Nat) (c:UInt8) {B:Bool} (w:World) (hs:s.size≤1000000000) (hk:k≤s.size) (h:RdB w R g s k) (hB:decide (s.data.toList[past s.data.toList k]? =some c)=B):
 Calls Tryz.prog 202 #[.pointer (some ⟨R,0,none⟩), .int .u8 c.toNat] w fun e w'=>e= .returned (.bool B)∧RdTo R g s (if B=true then past s.data.toList k+1 else past s.data.toList k) w w':=by
 subst hB
 by_cases hc:s.data.toList[past s.data.toList k]? =some c
 · rw[decide_eq_true hc,if_pos rfl];exact comes_yes R g s k c w hs hk h hc
 · rw[decide_eq_false hc,if_neg (by decide)];exact comes_no R g s k c w hs hk h hc
end Go.Proofs.YtackmnbpfbaemaaGreatDoor

namespace Go.Proofs.YtackmnbpfbaemaaGreatDoor
open Go Go.RowKit
set_option maxRecDepth 100000 in
set_option maxHeartbeats 2000000 in
theorem dgt_yes {c:UInt8} {d:Nat} (h:hexD c=some d) (w:World):Calls Tryz.prog 265 #[.int .u8 c.toNat] w fun e w'=>e= .returned (.tuple #[.int .i32 d, .bool true])∧w=w':=by
 have hcl:=byte_lt c
 unfold hexD at h
 split at h
 · rename_i hr
   obtain⟨h1,h2⟩:=hr
   have e:(d:Int)=(c.toNat:Int) - 48:=by have:=Option.some.inj h;omega
   have l1:(48:Int)≤(c.toNat:Int):=by omega
   have l2:(c.toNat:Int)≤57:=by omega
   rw[e]
   clear h e h1 h2
   go_enter Tryz.func265,Tryz.ntmps265
   go_wp2
   go_ret2
   exact⟨rfl,rfl⟩
 split at h
 · rename_i hn hr
   obtain⟨h1,h2⟩:=hr
   have e:(d:Int)=(c.toNat:Int) - 97+10:=by have:=Option.some.inj h;omega
   have l0: ¬((c.toNat:Int)≤57):=by omega
   have l1:(97:Int)≤(c.toNat:Int):=by omega
   have l2:(c.toNat:Int)≤102:=by omega
   rw[e]
   clear h e h1 h2 hn
   go_enter Tryz.func265,Tryz.ntmps265
   go_wp2
   go_ret2
   exact⟨rfl,rfl⟩
 split at h
 · rename_i hn1 hn hr
   obtain⟨h1,h2⟩:=hr
   have e:(d:Int)=(c.toNat:Int) - 65+10:=by have:=Option.some.inj h;omega
   have l0: ¬((c.toNat:Int)≤57):=by omega
   have l3: ¬((97:Int)≤(c.toNat:Int)):=by omega
   have l1:(65:Int)≤(c.toNat:Int):=by omega
   have l2:(c.toNat:Int)≤70:=by omega
   rw[e]
   clear h e h1 h2 hn hn1
   go_enter Tryz.func265,Tryz.ntmps265
   go_wp2
   go_ret2
   exact⟨rfl,rfl⟩
 · cases h
set_option maxRecDepth 100000 in
set_option maxHeartbeats 2000000 in
theorem dgt_no {c:UInt8} (h:hexD c=none) (w:World):Calls Tryz.prog 265 #[.int .u8 c.toNat] w fun e w'=>e= .returned (.tuple #[.int .i32 0, .bool false])∧w=w':=by
 have hcl:=byte_lt c
 unfold hexD at h
 split at h
 · cases h
 split at h
 · cases h
 split at h
 · cases h
 rename_i h1 h2 h3
 by_cases a1:(48:Int)≤(c.toNat:Int)<;>by_cases a2:(c.toNat:Int)≤57<;>by_cases a3:(97:Int)≤(c.toNat:Int)<;>by_cases a4:(c.toNat:Int)≤102<;>by_cases a5:(65:Int)≤(c.toNat:Int)<;>by_cases a6:(c.toNat:Int)≤70
 all_goals first|(exfalso;omega)|(clear h h1 h2 h3;go_enter Tryz.func265,Tryz.ntmps265;go_wp2;go_ret2;exact⟨rfl,rfl⟩)
theorem refused_calls (c:UInt8) (w:World):Calls Tryz.prog 237 #[.int .u8 c.toNat] w fun e w'=>e= .returned (.int .i64 (if c.toNat<32 then 4 else 3))∧w=w':=by
 have hcl:=byte_lt c
 by_cases h:c.toNat<32
 · rw[if_pos h]
   have h':(c.toNat:Int)<32:=by omega
   clear h
   go_enter Tryz.func237,Tryz.ntmps237
   go_wp2
   go_ret
   exact⟨rfl,rfl⟩
 · rw[if_neg h]
   have h': ¬((c.toNat:Int)<32):=by omega
   clear h
   go_enter Tryz.func237,Tryz.ntmps237
   go_wp2
   go_ret
   exact⟨rfl,rfl⟩
theorem ofInt_i32 (a:Nat) (ha:a<2147483648):(BitVec.ofInt 32 (a:Int)).toNat=a:=by
 rw[BitVec.ofInt_natCast,BitVec.toNat_ofNat];exact Nat.mod_eq_of_lt (by omega)
theorem or16 {n d:Nat} (hn:n<4096) (hd:d<16):bits .or .i32 ((n:Int)*16) (d:Int)=((16*n+d:Nat):Int):=by
 have e:(n:Int)*16=((n*16:Nat):Int):=by omega
 have h:n*16 ||| d=n*16+d:=by
  have:=Nat.shiftLeft_add_eq_or_of_lt (i:=4) (b:=d) (by omega) n
  rw[Nat.shiftLeft_eq]at this
  exact this.symm
 rw[e]
 show IntKind.i32.wrap ((BitVec.ofInt 32 ((n*16:Nat):Int) ||| BitVec.ofInt 32 (d:Int)).toNat:Int)=_
 rw[BitVec.toNat_or,ofInt_i32 _ (by omega),ofInt_i32 _ (by omega),h,IntKind.wrap_i32]
 omega
def unitR (u:Option Nat):Value:=match u with
 |some n=> .tuple #[.int .i32 n, .bool true]
 |none=> .tuple #[.int .i32 0, .bool false]
set_option maxRecDepth 100000 in
set_option maxHeartbeats 4000000 in
theorem unit_calls (t:ByteArray) (w:World) (hs:t.size≤1000000000):Calls Tryz.prog 252 #[.string t] w fun e w'=>e= .returned (unitR (unitL t.data.toList))∧w=w':=by
 have hlen:=size_toList t
 by_cases h6:t.size<6
 · have e:unitL t.data.toList=none:=by unfold unitL;rw[if_pos (by omega)]
   rw[e]
   have l:(t.size:Int)<6:=by omega
   clear e hlen
   go_enter Tryz.func252,Tryz.ntmps252
   go_wp2
   go_ret2
   exact⟨rfl,rfl⟩
 have l6: ¬((t.size:Int)<6):=by omega
 have q0:0<t.size:=by omega
 have q1:1<t.size:=by omega
 obtain⟨a,ha⟩: ∃a,t[0]=a:=⟨_,rfl⟩
 obtain⟨b,hb⟩: ∃b,t[1]=b:=⟨_,rfl⟩
 have ga:t.data.toList[0]? =some a:=by rw[get_byte t q0,ha]
 have gb:t.data.toList[1]? =some b:=by rw[get_byte t q1,hb]
 have hal:=byte_lt a
 have hbl:=byte_lt b
 have ne: ∀(c:UInt8) (n:Nat),n<256→c≠UInt8.ofNat n→((c.toNat:Int)==(n:Int))=false:=fun c n hn h=>by rw[byte_eq hn];simpa using h
 by_cases h92:a=92
 rotate_left
 · have e:unitL t.data.toList=none:=by unfold unitL;rw[if_pos];right;left;rw[ga];simpa using h92
   have e1:=ne a 92 (by decide) h92
   rw[e]
   clear e hlen ga gb ne h92 h6
   go_enter Tryz.func252,Tryz.ntmps252
   go_wp2
   go_ret2
   exact⟨rfl,rfl⟩
 by_cases h117:b=117
 rotate_left
 · have e:unitL t.data.toList=none:=by unfold unitL;rw[if_pos];right;right;rw[gb];simpa using h117
   have e1:=ne b 117 (by decide) h117
   rw[e]
   subst h92
   clear e hlen ga gb ne h117 h6
   go_enter Tryz.func252,Tryz.ntmps252
   go_wp2
   go_ret2
   exact⟨rfl,rfl⟩
 subst h92 h117
 have e:unitL t.data.toList=hexF (t.data.toList.drop 2) 4 0:=by
  unfold unitL
  rw[if_neg]
  rw[ga,gb]
  simp;omega
 rw[e]
 obtain⟨F,hF⟩: ∃F,hexF (t.data.toList.drop 2) 4 0=F:=⟨_,rfl⟩
 rw[hF]
 have H0:=Lib.hid hF
 clear e hF ga gb ne hlen
 go_enter Tryz.func252,Tryz.ntmps252
 go_wp2
 go_loop [4,5] (fun x i=> ∃k n:Nat,2≤k∧k≤6∧i= .int .i64 k∧x= .int .i32 n∧n<16 ^ (k - 2)∧Hid (hexF (t.data.toList.drop k) (6 - k) n=F)) (fun _ i=>6 - (intOf i).toNat)
 case atStart=>exact⟨2,0,by omega,by omega,rfl,rfl,by decide,H0⟩
 case round=>
  obtain⟨k,n,hk2,hk6,rfl,rfl,hn,hf⟩:=hrel
  clear H0
  by_cases hlt:k<6
  · have hkt:k<t.size:=by omega
    obtain⟨c,hc⟩: ∃c,t[k]=c:=⟨_,rfl⟩
    have hg:t.data.toList[k]? =some c:=by rw[get_byte t hkt,hc]
    have hcl:=byte_lt c
    have hn':n<4096:=by
     have:16 ^ (k - 2)≤16 ^ 3:=Nat.pow_le_pow_right (by decide) (by omega)
     omega
    have hf':=hf.out
    rw[drop_at hg,show 6 - k=(6 - (k+1))+1 from by omega]at hf'
    simp only[hexF]at hf'
    cases hd:hexD c with
    |none=>
     rw[hd]at hf'
     subst hf'
     have hD:=fun W=>dgt_no hd W
     have HD:=Lib.hid hD
     clear hD
     clear hf hd hg
     go_wp2_with (fail)
     with_reducible refine(HD.out _).mono ?_
     rintro e w1 ⟨rfl,rfl⟩
     go_wp2
     go_ret2
     exact⟨rfl,rfl⟩
    |some d=>
     rw[hd]at hf'
     simp only at hf'
     have hD:=fun W=>dgt_yes hd W
     have hd16:=hexD_lt hd
     have HF:=Lib.hid hf'
     have hpow:16*n+d<16 ^ (k+1 - 2):=by
      rw[show k+1 - 2=(k - 2)+1 from by omega,Nat.pow_succ];omega
     have HP:=Lib.hid hpow
     have HD:=Lib.hid hD
     clear hD
     clear hf hd hg hf' hn hpow
     go_wp2_with (fail)
     with_reducible refine(HD.out _).mono ?_
     rintro e w1 ⟨rfl,rfl⟩
     go_wp2
     go_round
     case rel=>exact⟨k+1,16*n+d,by omega,by omega,by go_num,by rw[or16 (by omega) (by omega)],HP.out,HF⟩
     case measure=>simp[intOf];omega
  · obtain rfl:k=6:=by omega
    have hf':=hf.out
    have e:hexF (t.data.toList.drop 6) (6 - 6) n=some n:=by cases t.data.toList.drop 6<;>rfl
    rw[e]at hf'
    subst hf'
    clear hf e
    go_wp2
    go_ret2
    exact⟨rfl,rfl⟩
end Go.Proofs.YtackmnbpfbaemaaGreatDoor
