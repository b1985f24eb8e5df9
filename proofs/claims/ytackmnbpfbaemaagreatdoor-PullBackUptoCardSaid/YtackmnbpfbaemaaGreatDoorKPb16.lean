/- Parts, joined: Small laws of worlds and of comparisons. Plain. No condition. What commonplaceref02.Object comes to: members put where they belong. Plain. No condition. Keys in order; a list of members has one order. Plain. No condition. sort.Slice of members by their keys, as value.Object calls it. Condition: fewer than 2^62 of them. commonplaceref01.Code: an escape's rune. No condition. How the reference writes a rune, against how the program does. Plain. No condition. What may stand deep may stand higher; what is within a value that may be, may be. Plain. No condition. When a value has nothing. Plain. No condition. A value's text is a text, and clean. Plain. No condition. Values that may be and have the same text are the same. Plain. No condition. -/
import Derived.WalkKit
import Derived.Below
import Derived.Lib.Hide
import Derived.Test.YtackmnbpfbaemaaGreatDoorProg
import Derived.Lib.Strings
import Derived.Test.YtackmnbpfbaemaaGreatDoorZShelf
import Derived.Shelf.SlSortFuncK.WholeK
import Derived.Shelf.GgSortFunc.Tiny
import Derived.Deep.QuietTactic
import Derived.BigQuiet
import Derived.Lib.RuneBytes
import Derived.IntWalk
import Derived.Laws.IdiomStrings
import Derived.Test.YtackmnbpfbaemaaGreatDoorKPb1
import Derived.Test.YtackmnbpfbaemaaGreatDoorKPb2
import Derived.Test.YtackmnbpfbaemaaGreatDoorKPb9
import Derived.Test.YtackmnbpfbaemaaGreatDoorKPb10
import Derived.Test.YtackmnbpfbaemaaGreatDoorKPb12
import Derived.Test.YtackmnbpfbaemaaGreatDoorKPb14
namespace Go.Proofs.YtackmnbpfbaemaaGreatDoor
open Go.RowKit
theorem alloc_below (w:World) (o:Obj):Below w.heap.size w (w.alloc o):=(Below.refl _ _).alloc (Nat.le_refl _) _
theorem beq_cast (n:Nat):((n:Int)==0)=decide (n=0):=by rw[Bool.eq_iff_iff];simp
theorem bne_dec (a b:Int):(a != b)=decide (a≠b):=by rw[Bool.eq_iff_iff];simp
theorem beq_dec (a b:Int):(a==b)=decide (a=b):=by rw[Bool.eq_iff_iff];simp
theorem bcellM {W w1:World} (hb:Below W.heap.size W w1):(∀b o,b<W.heap.size→w1.cell? ⟨b,o,none⟩=W.cell? ⟨b,o,none⟩)∧(∀b o,b<W.heap.size→w1.frozen? ⟨b,o,none⟩=W.frozen? ⟨b,o,none⟩):=
 ⟨fun b o h=>hb.cell (p:=⟨b,o,none⟩) h,fun b o h=>hb.frozen (p:=⟨b,o,none⟩) h⟩
end Go.Proofs.YtackmnbpfbaemaaGreatDoor

namespace Go.Proofs.YtackmnbpfbaemaaGreatDoor
open Go.RowKit
def ltB (a b:ByteArray):Bool:=Op.bytesLess a.toList b.toList
def atO (k:ByteArray):List (ByteArray×Val)→Nat
 | []=>0
 |p::r=>if ltB p.1 k then atO k r+1 else 0
def hitO (k:ByteArray) (acc:List (ByteArray×Val)):Bool:=(acc[atO k acc]?).any fun p=>p.1.toList==k.toList
def putO (m:ByteArray×Val) (acc:List (ByteArray×Val)):List (ByteArray×Val):=acc.take (atO m.1 acc)++([m]++acc.drop (atO m.1 acc))
def objAll:List (ByteArray×Val)→List (ByteArray×Val)→Option (List (ByteArray×Val))
 | [],acc=>some acc
 |m::r,acc=>if hitO m.1 acc then none else objAll r (putO m acc)
theorem bulkO_put (m:ByteArray×Val) (acc:List (ByteArray×Val)):bulkO (putO m acc)=bulkO acc+bulkP m:=by
 have h:=congrArg bulkO (List.take_append_drop (atO m.1 acc) acc)
 rw[bulkO_app]at h
 simp only[putO,bulkO_app,bulkO]
 omega
theorem inO_take: ∀{l:List (ByteArray×Val)} (k:Nat),inO l→inO (l.take k)
 | [],k,_=>by simp[inO]
 |_::_,0,_=>by simp[inO]
 |x::r,k+1,h=>by
  simp only[List.take_succ_cons,inO]at h ⊢
  exact⟨h.1,inO_take k h.2⟩
theorem inO_drop: ∀{l:List (ByteArray×Val)} (k:Nat),inO l→inO (l.drop k)
 | [],k,_=>by simp[inO]
 |_::_,0,h=>h
 |x::r,k+1,h=>by
  simp only[List.drop_succ_cons,inO]at h ⊢
  exact inO_drop k h.2
theorem inO_put {m:ByteArray×Val} {acc:List (ByteArray×Val)} (h:inO acc) (hm:inV m.2):inO (putO m acc):=by
 obtain⟨k,v⟩:=m
 exact inO_app (inO_take _ h) (inO_app ⟨hm,trivial⟩ (inO_drop _ h))
theorem objAll_bulk: ∀{l acc o:List (ByteArray×Val)},objAll l acc=some o→bulkO o=bulkO acc+bulkO l
 | [],acc,o,h=>by
   simp only[objAll,Option.some.injEq]at h
   subst h
   simp[bulkO]
 |m::r,acc,o,h=>by
  simp only[objAll]at h
  by_cases hh:hitO m.1 acc=true
  · rw[if_pos hh]at h;cases h
  · rw[if_neg hh]at h
    rw[objAll_bulk h,bulkO_put]
    simp only[bulkO]
    omega
theorem objAll_in: ∀{l acc o:List (ByteArray×Val)},objAll l acc=some o→inO acc→inO l→inO o
 | [],acc,o,h,ha,_=>by
   simp only[objAll,Option.some.injEq]at h
   exact h▸ha
 |(k,v)::r,acc,o,h,ha,hl=>by
  simp only[objAll]at h
  by_cases hh:hitO k acc=true
  · rw[if_pos hh]at h;cases h
  · rw[if_neg hh]at h
    exact objAll_in h (inO_put ha hl.1) hl.2
end Go.Proofs.YtackmnbpfbaemaaGreatDoor

namespace Go.Proofs.YtackmnbpfbaemaaGreatDoor
open Go.RowKit
theorem bl_irrefl: ∀x:List UInt8,Op.bytesLess x x=false
 | []=>rfl
 |a::x=>by simp[Op.bytesLess,bl_irrefl x,UInt8.lt_irrefl]
theorem bl_trans: ∀{x y z:List UInt8},Op.bytesLess x y=true→Op.bytesLess y z=true→Op.bytesLess x z=true
 |_, [],_,h,_=>by cases ‹List UInt8› <;>simp[Op.bytesLess]at h
 |_,_::_, [],_,h=>by simp[Op.bytesLess]at h
 | [],_::_,_::_,_,_=>rfl
 |a::x,b::y,c::z,h,k=>by
  simp only[Op.bytesLess,Bool.or_eq_true,Bool.and_eq_true,decide_eq_true_eq,beq_iff_eq]at h k ⊢
  rcases h with h|⟨rfl,h⟩<;>rcases k with k|⟨rfl,k⟩
  · exact .inl (UInt8.lt_trans h k)
  · exact .inl h
  · exact .inl k
  · exact .inr ⟨rfl,bl_trans h k⟩
theorem bl_tri: ∀(x y:List UInt8),Op.bytesLess x y=true∨x=y∨Op.bytesLess y x=true
 | [], []=> .inr (.inl rfl)
 | [],_::_=> .inl rfl
 |_::_, []=> .inr (.inr rfl)
 |a::x,b::y=>by
  simp only[Op.bytesLess,Bool.or_eq_true,Bool.and_eq_true,decide_eq_true_eq,beq_iff_eq]
  rcases Nat.lt_trichotomy a.toNat b.toNat with h|h|h
  · exact .inl (.inl (UInt8.lt_iff_toNat_lt.2 h))
  · have hab:a=b:=UInt8.toNat_inj.1 h
    subst hab
    rcases bl_tri x y with h|h|h
    · exact .inl (.inr ⟨rfl,h⟩)
    · exact .inr (.inl (by rw[h]))
    · exact .inr (.inr (.inr ⟨rfl,h⟩))
  · exact .inr (.inr (.inl (UInt8.lt_iff_toNat_lt.2 h)))
theorem toList_inj {a b:ByteArray} (h:a.toList=b.toList):a=b:=by
 rw[Lib.toList_data,Lib.toList_data]at h
 exact ByteArray.ext (Array.ext' h)
theorem ltB_irrefl (a:ByteArray):ltB a a=false:=bl_irrefl _
theorem ltB_trans {a b c:ByteArray} (h:ltB a b=true) (k:ltB b c=true):ltB a c=true:=bl_trans h k
theorem ltB_tri (a b:ByteArray):ltB a b=true∨a=b∨ltB b a=true:=by
 rcases bl_tri a.toList b.toList with h|h|h
 · exact .inl h
 · exact .inr (.inl (toList_inj h))
 · exact .inr (.inr h)
theorem ltB_asym {a b:ByteArray} (h:ltB a b=true):ltB b a=false:=by
 cases e:ltB b a with
 |false=>rfl
 |true=>have:=ltB_trans h e;rw[ltB_irrefl]at this;cases this
def ascO (l:List (ByteArray×Val)):Prop:=l.Pairwise fun a b=>ltB a.1 b.1=true
theorem atO_split (k:ByteArray): ∀{acc:List (ByteArray×Val)},ascO acc→hitO k acc=false→(∀p ∈ acc.take (atO k acc),ltB p.1 k=true)∧(∀p ∈ acc.drop (atO k acc),ltB k p.1=true)
 | [],_,_=>by simp
 |q::r,ha,hh=>by
  obtain⟨h1,h2⟩:=List.pairwise_cons.1 ha
  by_cases hq:ltB q.1 k=true
  · have hh':hitO k r=false:=by
     unfold hitO at hh ⊢
     simpa only[atO,if_pos hq,List.getElem?_cons_succ]using hh
    obtain⟨a,b⟩:=atO_split k h2 hh'
    simp only[atO,if_pos hq,List.take_succ_cons,List.drop_succ_cons]
    refine⟨fun p hp=> ?_,b⟩
    rcases List.mem_cons.1 hp with rfl|hp
    · exact hq
    · exact a p hp
  · simp only[atO,if_neg hq,List.take_zero,List.drop_zero]
    refine⟨fun p hp=>(by cases hp), ?_⟩
    have hne:q.1≠k:=by
     intro e
     unfold hitO at hh
     simp only[atO,if_neg hq,List.getElem?_cons_zero,Option.any_some]at hh
     rw[e]at hh
     simp at hh
    have hkq:ltB k q.1=true:=by
     rcases ltB_tri q.1 k with h|h|h
     · exact absurd h hq
     · exact absurd h hne
     · exact h
    intro p hp
    rcases List.mem_cons.1 hp with rfl|hp
    · exact hkq
    · exact ltB_trans hkq (h1 p hp)
theorem putO_asc {m:ByteArray×Val} {acc:List (ByteArray×Val)} (ha:ascO acc) (hh:hitO m.1 acc=false):ascO (putO m acc):=by
 obtain⟨h1,h2⟩:=atO_split m.1 ha hh
 have h3:ascO (acc.take (atO m.1 acc)++acc.drop (atO m.1 acc)):=by rw[List.take_append_drop];exact ha
 obtain⟨h4,h5,h6⟩:=List.pairwise_append.1 h3
 refine List.pairwise_append.2 ⟨h4,List.pairwise_cons.2 ⟨h2,h5⟩,fun a ha b hb=> ?_⟩
 rcases List.mem_cons.1 hb with rfl|hb
 · exact h1 a ha
 · exact h6 a ha b hb
theorem putO_perm (m:ByteArray×Val) (acc:List (ByteArray×Val)):(putO m acc).Perm (m::acc):=by
 have h:(acc.take (atO m.1 acc)++([m]++acc.drop (atO m.1 acc))).Perm ([m]++(acc.take (atO m.1 acc)++acc.drop (atO m.1 acc))):=by
  rw[←List.append_assoc,←List.append_assoc]
  exact List.Perm.append_right _ List.perm_append_comm
 rw[List.take_append_drop]at h
 exact h
theorem hitO_mem {k:ByteArray} {acc:List (ByteArray×Val)} (h:hitO k acc=true): ∃v,(k,v) ∈ acc:=by
 unfold hitO at h
 cases e:acc[atO k acc]? with
 |none=>rw[e]at h;cases h
 |some p=>
  rw[e]at h
  have hk:p.1=k:=toList_inj (by simpa using h)
  exact⟨p.2,by rw[←hk];exact List.mem_of_getElem? e⟩
theorem objAll_some: ∀{l acc o:List (ByteArray×Val)},objAll l acc=some o→ascO acc→ascO o∧o.Perm (l++acc)
 | [],acc,o,h,ha=>by
   simp only[objAll,Option.some.injEq]at h
   subst h
   exact⟨ha,List.Perm.refl _⟩
 |m::r,acc,o,h,ha=>by
  simp only[objAll]at h
  by_cases hh:hitO m.1 acc=true
  · rw[if_pos hh]at h;cases h
  · rw[if_neg hh]at h
    obtain⟨h1,h2⟩:=objAll_some h (putO_asc ha (by simpa using hh))
    exact⟨h1,h2.trans ((List.Perm.append_left r (putO_perm m acc)).trans List.perm_middle)⟩
theorem asc_keys {l:List (ByteArray×Val)} (h:ascO l):(l.map (·.1)).Nodup:=by
 rw[List.Nodup,List.pairwise_map]
 exact h.imp fun hab e=>by rw[e,ltB_irrefl]at hab;cases hab
theorem objAll_none: ∀{l acc:List (ByteArray×Val)},objAll l acc=none→ ¬((l++acc).map (·.1)).Nodup
 | [],acc,h=>by simp[objAll]at h
 |m::r,acc,h=>by
  simp only[objAll]at h
  by_cases hh:hitO m.1 acc=true
  · obtain⟨v,hv⟩:=hitO_mem hh
    intro hn
    rw[List.cons_append,List.map_cons,List.nodup_cons]at hn
    exact hn.1 (List.mem_map.2 ⟨(m.1,v),List.mem_append.2 (.inr hv),rfl⟩)
  · rw[if_neg hh]at h
    intro hn
    refine objAll_none h ?_
    have hp:((r++putO m acc).map (·.1)).Perm ((m::r++acc).map (·.1)):=((List.Perm.append_left r (putO_perm m acc)).trans List.perm_middle).map _
    exact hp.nodup_iff.2 hn
theorem asc_unique: ∀{a b:List (ByteArray×Val)},ascO a→ascO b→a.Perm b→a=b
 | [],b,_,_,h=>(List.Perm.nil_eq h)
 |x::a, [],_,_,h=>by have:=h.length_eq;simp at this
 |x::a,y::b,ha,hb,h=>by
  obtain⟨h1,h2⟩:=List.pairwise_cons.1 ha
  obtain⟨h3,h4⟩:=List.pairwise_cons.1 hb
  have hxy:x=y:=by
   rcases List.mem_cons.1 (h.mem_iff.1 (List.mem_cons_self (a:=x)))with e|hx
   · exact e
   · rcases List.mem_cons.1 (h.mem_iff.2 (List.mem_cons_self (a:=y)))with e|hy
     · exact e.symm
     · have p:=h3 x hx
       have q:=h1 y hy
       rw[ltB_asym p]at q
       cases q
  subst hxy
  rw[asc_unique h2 h4 (List.perm_cons _ |>.1 h)]
theorem objAll_sorted {l d:List (ByteArray×Val)} (hp:d.Perm l) (ha:ascO d):objAll l []=some d:=by
 cases e:objAll l []with
 |none=>
  exfalso
  refine objAll_none e ?_
  rw[List.append_nil]
  exact(hp.map (·.1)).nodup_iff.1 (asc_keys ha)
 |some o=>
  obtain⟨h1,h2⟩:=objAll_some e List.Pairwise.nil
  rw[List.append_nil]at h2
  rw[asc_unique ha h1 (hp.trans h2.symm)]
theorem objAll_twice {l d:List (ByteArray×Val)} (hp:d.Perm l) (ht: ¬(d.map (·.1)).Nodup):objAll l []=none:=by
 cases e:objAll l []with
 |none=>rfl
 |some o=>
  obtain⟨h1,h2⟩:=objAll_some e List.Pairwise.nil
  rw[List.append_nil]at h2
  exact absurd ((hp.trans h2.symm).map (·.1) |>.nodup_iff.2 (asc_keys h1)) ht
end Go.Proofs.YtackmnbpfbaemaaGreatDoor

namespace Go.Proofs.YtackmnbpfbaemaaGreatDoor
open Go.RowKit
abbrev Mx:Type:=ByteArray×(Val×((Option Addr×Nat)×(Option Addr×Nat)))
instance:Inhabited Val:=⟨.mk 0 false 0 ⟨#[]⟩ [] []⟩
def encM:Mx→List Value
 |(key,(.mk k b n t l o,((la,lc),(oa,oc))))=> [.string key, .int .i64 k, .bool b, .int .i64 n, .string t, .slice la l.length lc, .slice oa o.length oc]
def memM (x:Mx):ByteArray×Val:=(x.1,x.2.1)
theorem encM_len (x:Mx):(encM x).length=7:=by
 obtain⟨key,⟨k,b,n,t,l,o⟩,⟨la,lc⟩,oa,oc⟩:=x
 rfl
theorem encM_one (x:Mx): ∀v ∈ encM x,v.oneCell'=true:=by
 obtain⟨key,⟨k,b,n,t,l,o⟩,⟨la,lc⟩,oa,oc⟩:=x
 intro v hv
 simp only[encM,List.mem_cons,List.not_mem_nil,or_false]at hv
 rcases hv with rfl|rfl|rfl|rfl|rfl|rfl|rfl<;>rfl
theorem encM_key (x:Mx):(encM x)[0]! = .string x.1:=by
 obtain⟨key,⟨k,b,n,t,l,o⟩,⟨la,lc⟩,oa,oc⟩:=x
 rfl
def ltM (x y:Mx):Bool:=ltB x.1 y.1
theorem swoM:Go.Sort.SWO ltM where
 irrefl x:=ltB_irrefl _
 trans x y z h k:=ltB_trans h k
 ntrans x y z h k:=by
  unfold ltM at*
  cases e:ltB x.1 z.1 with
  |false=>rfl
  |true=>
   rcases ltB_tri x.1 y.1 with p|p|p
   · rw[h]at p;cases p
   · rw[p]at e;rw[k]at e;cases e
   · have:=ltB_trans p e;rw[k]at this;cases this
theorem lessM (blk off c Bs size:Nat) (W:World) (G:Nat→ByteArray) (hs:W.cell? ⟨Bs,0,none⟩=some (.slice (some ⟨blk,off,none⟩) size c))
 (hc: ∀t,t<size→W.cell? ⟨blk,off+t*7,none⟩=some (.string (G t))) (i j:Nat) (hi:i<size) (hj:j<size) (_hsz:size<4611686018427387904):
 Calls Tryz.prog 71 #[.int .i64 i, .int .i64 j, .pointer (some ⟨Bs,0,none⟩)] W fun e w'=>e= .returned (.bool (ltB (G i) (G j)))∧ ∃q,w'=W.drewN q:=by
 have ci:=hc i hi
 have cj:=hc j hj
 clear hc
 have i1:(i:Int)<(size:Int):=by omega
 have j1:(j:Int)<(size:Int):=by omega
 go_enter Tryz.func71,Tryz.ntmps71
 go_wp2
 go_quiet (fail)
 go_wp2
 go_ret
 exact⟨rfl,nq,rfl⟩
noncomputable def sortT:TypeInfo:=(Tryz.prog.info? 37).get (by kernel_rfl)
noncomputable def sortE:TypeInfo:=(Tryz.prog.info? 63).get (by kernel_rfl)
theorem sortK (n:Nat) (h2:2≤n):Lib.swapperK n sortE 25=9:=by
 have a:sortE.hasPointers=true:=by kernel_rfl
 have b:sortE.bytes=104:=by kernel_rfl
 have c:(n==0)=false:=by simp;omega
 have d:(n==1)=false:=by simp;omega
 simp[Lib.swapperK,a,b,c,d]
def SortPost (w:World) (blk:Nat) (d:Array Mx) (e:Ending) (w':World):Prop:=e= .returned (.tuple #[])∧ ∃d':Array Mx,d'.size=d.size∧d'.toList.Perm d.toList∧Go.Sort.SortedIn ltM 0 d.size d'∧
 (∀i,i<d.size→ ∀j,j<7→w'.cell? ⟨blk,i*7+j,none⟩=some (encM d'[i]!)[j]!)∧(∀b,b<w.heap.size→b≠blk→w'.heap[b]? =w.heap[b]?)∧w.heap.size≤w'.heap.size∧w'.os=w.os∧w'.tape=w.tape∧w'.output=w.output
theorem sortM_many (blk c Bs:Nat) (d:Array Mx) (h2:2≤d.size) (hsz:d.size<4611686018427387904) (w:World) (hH:Go.Sort.HoldsK encM 7 w blk 0 d) (hblk:blk<w.heap.size)
 (hBs:w.cell? ⟨Bs,0,none⟩=some (.slice (some ⟨blk,0,none⟩) d.size c)) (hB1:Bs<w.heap.size) (hB2:Bs≠blk):
 Calls Tryz.prog 70 #[.iface 37 (.slice (some ⟨blk,0,none⟩) d.size c), .func (.func 71) #[] #[.pointer (some ⟨Bs,0,none⟩)]] w (SortPost w blk d):=by
 have hless:LessReadsK Tryz.prog 71 #[.pointer (some ⟨Bs,0,none⟩)] encM 7 ltM blk 0 d.size w:=by
  intro m os dk hs i j hi hj
  have e:sortWorldK encM 7 w blk 0 m dk os=Go.Sort.putRowK encM 7 (Go.Sort.grow (Go.Sort.ahead w m) os) blk 0 dk:=by
   unfold sortWorldK;rw[Go.Sort.putRowK_grow _ _ (Go.Sort.ahead w m) _ blk 0 _ hblk]
  have hHg:Go.Sort.HoldsK encM 7 (Go.Sort.grow (Go.Sort.ahead w m) os) blk 0 d:=Go.Sort.holdsK_grow _ _ _ _ blk 0 d hblk (Go.Sort.holdsK_ahead _ _ _ _ _ _ _ hH)
  refine lessM blk 0 c Bs d.size _ (fun t=>dk[t]!.1) ?_ (fun t ht=> ?_) i j hi hj (by omega)
  · rw[e,Go.Sort.cell?_putRowK_other _ _ _ blk 0 dk _ (by exact hB2),Go.Sort.cell?_grow _ _ _ (by exact hB1)];exact hBs
  · rw[e,←encM_key];exact((Go.Sort.holdsK_putRowK _ _ _ blk 0 d dk hHg hs).cell (i:=t) (c:=0) (by omega) (by omega)).1
 have hS:=Any.sort_Slice_cells_sorted Tryz.sortSlice_lays 37 63 sortT sortE (by kernel_rfl) (by kernel_rfl) (by kernel_rfl) (by kernel_rfl) 25 (fun _=>by kernel_rfl) encM 7 encM_len (by kernel_rfl) (fun _=>by kernel_rfl)
  encM_one ltM swoM 71 _
  (enters_of Tryz.func71 (by kernel_rfl) rfl) blk 0 c d h2 hsz 147 (by rw[sortK _ h2];kernel_rfl) false
  (fun args W=>run_callFunc_extern Tryz.func147 (by kernel_rfl) (by kernel_rfl) (by kernel_rfl) (e:=Extern.ReflectliteSwapper.swap false) (by kernel_rfl) args W) w hless hH hblk
 change Calls Tryz.prog 70 _ _ _ at hS
 refine hS.mono ?_
 rintro e w' ⟨rfl,d',n,os,⟨hs',_,hp⟩,hso,rfl⟩
 have hp':d'.toList.Perm d.toList:=by
  have e1:d'.extract 0 d.size=d':=by rw[←hs'];simp
  have e2:d.extract 0 d.size=d:=by simp
  rwa [e1,e2]at hp
 have hH2:Go.Sort.HoldsK encM 7 (Go.Sort.putRowK encM 7 (Go.Sort.ahead w n) blk 0 d') blk 0 d':=Go.Sort.holdsK_putRowK _ _ _ blk 0 d d' (Go.Sort.holdsK_ahead _ _ _ _ _ _ _ hH) hs'
 have hsize:(Go.Sort.putRowK encM 7 (Go.Sort.ahead w n) blk 0 d').heap.size=w.heap.size:=by
  simp[Go.Sort.putRowK,Go.Sort.putRow,Go.Sort.mapBlock,Go.Sort.ahead]
 refine⟨rfl,d',hs',hp',hso,fun i hi j hj=> ?_,fun b hb hne=> ?_,by rw[Go.Sort.size_grow,hsize];omega,rfl,rfl,rfl⟩
 · rw[Go.Sort.cell?_grow _ _ _ (by show blk<_;rw[hsize];exact hblk)]
   have:=(hH2.cell (i:=i) (c:=j) (by omega) hj).1
   rwa [Nat.zero_add]at this
 · show((Go.Sort.putRowK encM 7 (Go.Sort.ahead w n) blk 0 d').heap++os)[b]? =_
   rw[Array.getElem?_append_left (by rw[hsize];exact hb)]
   simp only[Go.Sort.putRowK,Go.Sort.putRow,Go.Sort.mapBlock,Go.Sort.ahead,Array.getElem?_modify]
   rw[if_neg (fun e=>hne e.symm)]
theorem sortM_few (p:Option Addr) (n c Bs:Nat) (h1:n≤1) (w:World):
 Calls Tryz.prog 70 #[.iface 37 (.slice p n c), .func (.func 71) #[] #[.pointer (some ⟨Bs,0,none⟩)]] w fun e w'=>e= .returned (.tuple #[])∧Below w.heap.size w w':=by
 have key: ∀f,Tryz.prog.funcs.findIdx? (·.name== "internal/reflectlite" ++ ".Swapper$" ++toString (Lib.swapperK n sortE 25))=some f→
  Calls Tryz.prog 70 #[.iface 37 (.slice p n c), .func (.func 71) #[] #[.pointer (some ⟨Bs,0,none⟩)]] w fun e w'=>e= .returned (.tuple #[])∧Below w.heap.size w w':=by
  intro f hf
  have hS:=Any.sort_Slice_tiny Tryz.sortSlice_lays 37 63 sortT sortE (by kernel_rfl) (by kernel_rfl) (by kernel_rfl) (by kernel_rfl) 25 (fun _=>by kernel_rfl) p n c h1 f hf (.func 71) #[] #[.pointer (some ⟨Bs,0,none⟩)] w
  change Calls Tryz.prog 70 _ _ _ at hS
  refine hS.mono ?_
  rintro e w' ⟨rfl,os,rfl⟩
  refine⟨rfl,⟨rfl,rfl,rfl,by rw[Go.Sort.size_grow];omega,fun i hi=> ?_⟩⟩
  show(w.heap++os)[i]? =_
  exact Array.getElem?_append_left hi
 rcases Nat.eq_zero_or_pos n with rfl|h0
 · exact key 139 (by kernel_rfl)
 · obtain rfl:n=1:=by omega
   exact key 140 (by kernel_rfl)
end Go.Proofs.YtackmnbpfbaemaaGreatDoor

namespace Go.Proofs.YtackmnbpfbaemaaGreatDoor
open Go.RowKit
def codeTab:List Int:= [34,92,47,8,12,10,13,9]
set_option maxHeartbeats 1000000 in
theorem RCode_calls (k:Nat) (c:Int) (h:codeTab[k]? =some c) (w:World):
 Calls Tryz.prog 87 #[.int .i64 k] w fun e w'=>e= .returned (.int .i64 c)∧Below w.heap.size w w':=by
 have hk:k<8:=(List.getElem?_eq_some_iff.1 h).1
 rcases(by omega:k=0∨k=1∨k=2∨k=3∨k=4∨k=5∨k=6∨k=7)with rfl|rfl|rfl|rfl|rfl|rfl|rfl|rfl
 all_goals
  (obtain rfl:=Option.some.inj h
   clear h hk
   go_enter Tryz.func87,Tryz.ntmps87
   go_wp2
   go_ret
   exact⟨rfl,(Below.refl _ _).alloc (Nat.le_refl _) _⟩)
end Go.Proofs.YtackmnbpfbaemaaGreatDoor

namespace Go.Proofs.YtackmnbpfbaemaaGreatDoor
open Go.RowKit
def letTab:List UInt8:= [34,92,47,98,102,110,114,116]
theorem quoteRune_let: ∀j:Fin 8,j.val≠2→quoteRune ((codeTab.getD j.val 0).toNat)= [92,letTab.getD j.val 0]:=by decide
def NoLet (r:Nat) (j:Nat):Prop:= ∀i:Nat,i<j→i≠2→codeTab.getD i 0≠(r:Int)
theorem NoLet.all {r:Nat} (h:NoLet r 8):r≠34∧r≠92∧r≠8∧r≠12∧r≠10∧r≠13∧r≠9:=by
 have h0:=h 0 (by omega) (by omega)
 have h1:=h 1 (by omega) (by omega)
 have h3:=h 3 (by omega) (by omega)
 have h4:=h 4 (by omega) (by omega)
 have h5:=h 5 (by omega) (by omega)
 have h6:=h 6 (by omega) (by omega)
 have h7:=h 7 (by omega) (by omega)
 simp[codeTab]at h0 h1 h3 h4 h5 h6 h7
 omega
theorem quoteRune_no {r:Nat} (h:NoLet r 8):quoteRune r=if r<32 then [92,117,48,48,hexd (r / 16),hexd (r % 16)]else Lib.encodeRune r:=by
 obtain⟨a1,a2,a3,a4,a5,a6,a7⟩:=h.all
 unfold quoteRune
 by_cases h32:r<32
 · rw[if_neg (by omega),if_pos h32]
   have:findKV (r:Int) letterTab=none:=by
    simp only[letterTab,findKV]
    repeat rw[if_neg (by omega)]
   rw[this]
 · rw[if_pos (by omega),if_neg h32]
theorem NoLet.step {r j:Nat} (h:NoLet r j) (hj:j=2∨codeTab.getD j 0≠(r:Int)):NoLet r (j+1):=by
 intro i hi h2
 by_cases he:i=j
 · subst he
   rcases hj with hj|hj
   · exact absurd hj h2
   · exact hj
 · exact h i (by omega) h2
def scalar (r:Nat):Prop:=r≤1114111∧ ¬(55296≤r∧r<57344)
theorem atEnd_range (F:Option Int) (n:Nat) (least:Int):(atEnd F n least).2=0∨((atEnd F n least).1≤1114111∧ ¬(55296≤(atEnd F n least).1∧(atEnd F n least).1<57344)):=by
 unfold atEnd
 split
 · simp
 · split
   · simp
   · rename_i h
     right
     simp only
     omega
theorem atTail_range (rest:List UInt8) (n:Nat) (r0 least:Int):(atTail rest n r0 least).2=0∨((atTail rest n r0 least).1≤1114111∧ ¬(55296≤(atTail rest n r0 least).1∧(atTail rest n r0 least).1<57344)):=by
 unfold atTail
 split
 · exact .inl rfl
 · exact atEnd_range _ _ _
theorem atSpec_range (l:List UInt8):(atSpec l).2=0∨((atSpec l).1≤1114111∧ ¬(55296≤(atSpec l).1∧(atSpec l).1<57344)):=by
 cases l with
 |nil=>exact .inl rfl
 |cons c rest=>
  rw[atSpec_cons]
  by_cases h1:(c.toNat:Int)<128
  · rw[if_pos h1]
    right
    simp only
    omega
  rw[if_neg h1]
  split
  · exact atTail_range _ _ _ _
  split
  · exact atTail_range _ _ _ _
  split
  · exact atTail_range _ _ _ _
  · exact .inl rfl
theorem runesFrom_scalar: ∀(n:Nat) (l:List UInt8) (p:Nat),∀x ∈ runesFrom n l p,scalar x.2
 |0,_,_,x,hx=>by simp[runesFrom]at hx
 |n+1,l,p,x,hx=>by
  by_cases h:l= []
  · subst h
    simp[runesFrom]at hx
  · rcases runesFrom_step h n p with⟨_,e⟩|⟨m,r,hn,h1,_,e⟩
    · rw[e]at hx
      cases hx
    · rw[e]at hx
      rcases List.mem_cons.1 hx with rfl|hx
      · have:=atSpec_range l
        rw[hn]at this
        unfold scalar
        simp only at this ⊢
        omega
      · exact runesFrom_scalar n _ _ x hx
theorem run_hex (d:Nat) (hd:d<16) (w:World):(Instr.slice 9 (.string ⟨#[48,49,50,51,52,53,54,55,56,57,97,98,99,100,101,102]⟩) (some (.int .i64 d)) (some (.int .i64 ((d:Int)+1))) none).run Tryz.prog w= .ok (.string ⟨#[hexd d]⟩) w:=by
 have:=run_cut ⟨#[48,49,50,51,52,53,54,55,56,57,97,98,99,100,101,102]⟩ d (d+1) (by omega) (by show d+1≤16;omega) w
 have e: ∀d:Fin 16,(⟨#[48,49,50,51,52,53,54,55,56,57,97,98,99,100,101,102]⟩:ByteArray).extract d.val (d.val+1)=⟨#[hexd d.val]⟩:=by decide
 rw[e ⟨d,hd⟩]at this
 exact this
theorem run_let (d:Nat) (hd:d<8) (w:World):(Instr.slice 9 (.string ⟨#[34,92,47,98,102,110,114,116]⟩) (some (.int .i64 d)) (some (.int .i64 ((d:Int)+1))) none).run Tryz.prog w= .ok (.string ⟨#[letTab.getD d 0]⟩) w:=by
 have:=run_cut ⟨#[34,92,47,98,102,110,114,116]⟩ d (d+1) (by omega) (by show d+1≤8;omega) w
 have e: ∀d:Fin 8,(⟨#[34,92,47,98,102,110,114,116]⟩:ByteArray).extract d.val (d.val+1)=⟨#[letTab.getD d.val 0]⟩:=by decide
 rw[e ⟨d,hd⟩]at this
 exact this
end Go.Proofs.YtackmnbpfbaemaaGreatDoor

namespace Go.Proofs.YtackmnbpfbaemaaGreatDoor
open Go.RowKit
theorem mayL_all: ∀{l:List Val} {d:Int},mayL l d=0→ ∀v ∈ l,mayV v d=0
 |v::r,d,h,x,hx=>by
  simp only[mayL]at h
  split at h
  · rename_i h0
    rcases List.mem_cons.1 hx with rfl|hx
    · exact h0
    · exact mayL_all h x hx
  · rename_i h0
    exact absurd h h0
theorem mayO_all: ∀{l:List (ByteArray×Val)} {last:Option ByteArray} {d:Int},mayO l last d=0→ ∀m ∈ l,validB m.1=true∧mayV m.2 d=0
 |(key,v)::r,last,d,h,x,hx=>by
  simp only[mayO]at h
  split at h
  · rename_i h0
    rcases List.mem_cons.1 hx with rfl|hx
    · simp only[mayP]at h0
      split at h0
      · rename_i hv
        refine⟨hv, ?_⟩
        cases last with
        |none=>exact h0
        |some q=>
         simp only at h0
         split at h0
         · cases h0
         · exact h0
      · cases h0
    · exact mayO_all h x hx
  · rename_i h0
    exact absurd h h0
theorem mayV_parts {k:Int} {b:Bool} {n:Int} {t:ByteArray} {l:List Val} {o:List (ByteArray×Val)} {d:Int} (h:mayV (.mk k b n t l o) d=0):
 oddB k b n t l.length o.length=false∧d≤64∧validB t=true∧mayL l (d+1)=0∧mayO o none (d+1)=0:=by
 simp only[mayV]at h
 split at h
 · cases h
 rename_i h1
 split at h
 · cases h
 split at h
 · rename_i hv
   split at h
   · rename_i h0
     exact⟨by simpa using h1,by omega,hv,h0,h⟩
   · rename_i h0
     exact absurd h h0
 · cases h
theorem inL_mem {l:List Val} (h:inL l) {x:Val} (hx:x ∈ l):inV x:=by
 induction l with
 |nil=>cases hx
 |cons y r ih=>
  simp only[inL]at h
  rcases List.mem_cons.1 hx with rfl|hx
  · exact h.1
  · exact ih h.2 hx
theorem inO_mem {l:List (ByteArray×Val)} (h:inO l) {x:ByteArray×Val} (hx:x ∈ l):inV x.2:=by
 induction l with
 |nil=>cases hx
 |cons y r ih=>
  obtain⟨key,v⟩:=y
  simp only[inO,inP]at h
  rcases List.mem_cons.1 hx with rfl|hx
  · exact h.1
  · exact ih h.2 hx
theorem textL_app: ∀(a b:List Val) (f:Bool),textL (a++b) f=textL a f++textL b (f&&a.isEmpty)
 | [],b,f=>by simp[textL]
 |x::r,b,f=>by simp only[List.cons_append,textL,textL_app r b false];simp
theorem textL_take_len (l:List Val) (k:Nat) (f:Bool):(textL (l.take k) f).length≤(textL l f).length:=by
 have:=textL_app (l.take k) (l.drop k) f
 rw[List.take_append_drop]at this
 rw[this]
 simp
theorem textO_app: ∀(a b:List (ByteArray×Val)) (f:Bool),textO (a++b) f=textO a f++textO b (f&&a.isEmpty)
 | [],b,f=>by simp[textO]
 |x::r,b,f=>by simp only[List.cons_append,textO,textO_app r b false];simp
theorem textO_take_len (l:List (ByteArray×Val)) (k:Nat) (f:Bool):(textO (l.take k) f).length≤(textO l f).length:=by
 have:=textO_app (l.take k) (l.drop k) f
 rw[List.take_append_drop]at this
 rw[this]
 simp
theorem size_list (s:ByteArray):s.data.toList.length=s.size:=by rw[Array.length_toList];rfl
theorem size_mk (l:List UInt8):(⟨l.toArray⟩:ByteArray).size=l.length:=rfl
end Go.Proofs.YtackmnbpfbaemaaGreatDoor

namespace Go.Proofs.YtackmnbpfbaemaaGreatDoor
open Go.RowKit
def zero6B (k:Int) (b:Bool) (n:Int) (t:ByteArray) (ln on:Nat):Bool:=decide (k=0)&& !b&&decide (n=0)&&t.toList.isEmpty&&decide (ln=0)&&decide (on=0)
end Go.Proofs.YtackmnbpfbaemaaGreatDoor

namespace Go.Proofs.YtackmnbpfbaemaaGreatDoor
open Go.RowKit
theorem encode_bytes {r:Nat} (h:scalar r): ∀c ∈ Lib.encodeRune (r:Int),(r<128∧c.toNat=r)∨(128≤r∧128≤c.toNat):=by
 intro c hc
 unfold scalar at h
 unfold Lib.encodeRune at hc
 obtain⟨z,hz,rfl⟩:=List.mem_map.1 hc
 have key:(r<128∧z=r)∨(128≤r∧128≤z∧z<256):=by
  unfold Lib.encodeRuneZ at hz
  split at hz
  · simp at hz;omega
  split at hz
  · simp at hz;omega
  split at hz
  · simp at hz;omega
  split at hz
  · simp at hz;omega
  · omega
 have e:z.toNat.toUInt8.toNat=z.toNat:=by
  have:z.toNat<256:=by omega
  simp[Nat.toUInt8,UInt8.toNat_ofNat',Nat.mod_eq_of_lt this]
 rw[e]
 omega
theorem valid_ascii {c:UInt8} (h:c.toNat<128) (rest:List UInt8):Lib.validD (c::rest)=Lib.validD rest:=by
 rw[validD_step (by simp),decodeL_eq]
 have e:Lib.decodeN (c::rest).length ((c::rest).getD 0 0).toNat ((c::rest).getD 1 0).toNat ((c::rest).getD 2 0).toNat ((c::rest).getD 3 0).toNat=(c.toNat,1):=by
  unfold Lib.decodeN
  rw[if_pos (by simpa using h)]
  simp
 rw[e,if_neg (by simp only;omega)]
 rfl
theorem valid_asciis: ∀(a:List UInt8),(∀c ∈ a,c.toNat<128)→ ∀rest,Lib.validD (a++rest)=Lib.validD rest
 | [],_,rest=>rfl
 |c::a,h,rest=>by
  rw[List.cons_append,valid_ascii (h c (by simp))]
  exact valid_asciis a (fun x hx=>h x (by simp[hx])) rest
theorem u8_of {z:Int} (h0:0≤z) (h1:z<256):(z.toNat.toUInt8).toNat=z.toNat:=by
 have:z.toNat<256:=by omega
 simp[Nat.toUInt8,UInt8.toNat_ofNat',Nat.mod_eq_of_lt this]
theorem valid_of_dec {l:List UInt8} {r n:Nat} (hne:l≠ []) (h:Lib.decodeL l=(r,n)) (hn:n≠1):Lib.validD l=Lib.validD (l.drop n):=by
 rw[validD_step hne,h,if_neg (by simp only;omega)]
theorem valid_rune {r:Nat} (h:scalar r) (rest:List UInt8):Lib.validD (Lib.encodeRune (r:Int)++rest)=Lib.validD rest:=by
 unfold scalar at h
 by_cases c1:r<128
 · refine valid_asciis _ (fun c hc=> ?_) rest
   have:=encode_bytes (r:=r) (by unfold scalar;exact h) c hc
   omega
 unfold Lib.encodeRune
 by_cases c2:r<2048
 · rw[Lib.encodeRuneZ_two (by omega) (by omega)]
   simp only[List.map_cons,List.map_nil,List.cons_append,List.nil_append]
   have a1:((192+(r:Int) / 64).toNat.toUInt8).toNat=192+r / 64:=by rw[u8_of (by omega) (by omega)];omega
   have a2:((128+(r:Int) % 64).toNat.toUInt8).toNat=128+r % 64:=by rw[u8_of (by omega) (by omega)];omega
   generalize (192+(r:Int) / 64).toNat.toUInt8=x1 at*
   generalize (128+(r:Int) % 64).toNat.toUInt8=x2 at*
   refine valid_of_dec (l:=x1::x2::rest) (r:=r) (n:=2) (by simp) ?_ (by decide)
   rw[decodeL_eq]
   simp only[List.getD_cons_zero,List.getD_cons_succ,a1,a2,List.length_cons]
   unfold Lib.decodeN
   rw[if_neg (by omega),if_pos (by omega),if_pos (by omega)]
   exact Prod.ext (by simp only;omega) rfl
 by_cases c3:r<65536
 · rw[Lib.encodeRuneZ_three (by omega)]
   simp only[List.map_cons,List.map_nil,List.cons_append,List.nil_append]
   have a1:((224+(r:Int) / 4096).toNat.toUInt8).toNat=224+r / 4096:=by rw[u8_of (by omega) (by omega)];omega
   have a2:((128+(r:Int) / 64 % 64).toNat.toUInt8).toNat=128+r / 64 % 64:=by rw[u8_of (by omega) (by omega)];omega
   have a3:((128+(r:Int) % 64).toNat.toUInt8).toNat=128+r % 64:=by rw[u8_of (by omega) (by omega)];omega
   generalize (224+(r:Int) / 4096).toNat.toUInt8=x1 at*
   generalize (128+(r:Int) / 64 % 64).toNat.toUInt8=x2 at*
   generalize (128+(r:Int) % 64).toNat.toUInt8=x3 at*
   refine valid_of_dec (l:=x1::x2::x3::rest) (r:=r) (n:=3) (by simp) ?_ (by decide)
   rw[decodeL_eq]
   simp only[List.getD_cons_zero,List.getD_cons_succ,a1,a2,a3,List.length_cons]
   unfold Lib.decodeN
   have d1:r / 64 / 64=r / 4096:=by omega
   rw[if_neg (by omega),if_neg (by omega),if_pos (by omega),if_pos (by omega)]
   exact Prod.ext (by simp only;omega) rfl
 · rw[Lib.encodeRuneZ_four (by omega) (by omega)]
   simp only[List.map_cons,List.map_nil,List.cons_append,List.nil_append]
   have a1:((240+(r:Int) / 262144).toNat.toUInt8).toNat=240+r / 262144:=by rw[u8_of (by omega) (by omega)];omega
   have a2:((128+(r:Int) / 4096 % 64).toNat.toUInt8).toNat=128+r / 4096 % 64:=by rw[u8_of (by omega) (by omega)];omega
   have a3:((128+(r:Int) / 64 % 64).toNat.toUInt8).toNat=128+r / 64 % 64:=by rw[u8_of (by omega) (by omega)];omega
   have a4:((128+(r:Int) % 64).toNat.toUInt8).toNat=128+r % 64:=by rw[u8_of (by omega) (by omega)];omega
   generalize (240+(r:Int) / 262144).toNat.toUInt8=x0 at*
   generalize (128+(r:Int) / 4096 % 64).toNat.toUInt8=x1 at*
   generalize (128+(r:Int) / 64 % 64).toNat.toUInt8=x2 at*
   generalize (128+(r:Int) % 64).toNat.toUInt8=x3 at*
   refine valid_of_dec (l:=x0::x1::x2::x3::rest) (r:=r) (n:=4) (by simp) ?_ (by decide)
   rw[decodeL_eq]
   simp only[List.getD_cons_zero,List.getD_cons_succ,a1,a2,a3,a4,List.length_cons]
   unfold Lib.decodeN
   rw[if_neg (by omega),if_neg (by omega),if_neg (by omega),if_pos (by omega),if_pos (by omega)]
   exact Prod.ext (by simp only;omega) rfl
end Go.Proofs.YtackmnbpfbaemaaGreatDoor

namespace Go.Proofs.YtackmnbpfbaemaaGreatDoor
open Go.RowKit
theorem dec_rune {r:Nat} (h:scalar r) (rest:List UInt8):Lib.decodeL (Lib.encodeRune (r:Int)++rest)=(r,(Lib.encodeRune (r:Int)).length):=by
 unfold scalar at h
 by_cases c1:r<128
 · have e:Lib.encodeRune (r:Int)= [UInt8.ofNat r]:=by
    rw[encode_small (by omega) (by omega)];simp
   have hn:(UInt8.ofNat r).toNat=r:=by simp[UInt8.toNat_ofNat'];omega
   rw[e,decodeL_eq]
   show Lib.decodeN _ _ _ _ _=(r,1)
   unfold Lib.decodeN
   simp only[List.cons_append,List.nil_append,List.getD_cons_zero,hn]
   rw[if_pos c1]
 unfold Lib.encodeRune
 by_cases c2:r<2048
 · rw[Lib.encodeRuneZ_two (by omega) (by omega)]
   simp only[List.map_cons,List.map_nil,List.cons_append,List.nil_append,List.length_cons,List.length_nil]
   have a1:((192+(r:Int) / 64).toNat.toUInt8).toNat=192+r / 64:=by rw[u8_of (by omega) (by omega)];omega
   have a2:((128+(r:Int) % 64).toNat.toUInt8).toNat=128+r % 64:=by rw[u8_of (by omega) (by omega)];omega
   generalize (192+(r:Int) / 64).toNat.toUInt8=x1 at*
   generalize (128+(r:Int) % 64).toNat.toUInt8=x2 at*
   rw[decodeL_eq]
   simp only[List.getD_cons_zero,List.getD_cons_succ,a1,a2,List.length_cons]
   unfold Lib.decodeN
   rw[if_neg (by omega),if_pos (by omega),if_pos (by omega)]
   exact Prod.ext (by simp only;omega) rfl
 by_cases c3:r<65536
 · rw[Lib.encodeRuneZ_three (by omega)]
   simp only[List.map_cons,List.map_nil,List.cons_append,List.nil_append,List.length_cons,List.length_nil]
   have a1:((224+(r:Int) / 4096).toNat.toUInt8).toNat=224+r / 4096:=by rw[u8_of (by omega) (by omega)];omega
   have a2:((128+(r:Int) / 64 % 64).toNat.toUInt8).toNat=128+r / 64 % 64:=by rw[u8_of (by omega) (by omega)];omega
   have a3:((128+(r:Int) % 64).toNat.toUInt8).toNat=128+r % 64:=by rw[u8_of (by omega) (by omega)];omega
   generalize (224+(r:Int) / 4096).toNat.toUInt8=x1 at*
   generalize (128+(r:Int) / 64 % 64).toNat.toUInt8=x2 at*
   generalize (128+(r:Int) % 64).toNat.toUInt8=x3 at*
   rw[decodeL_eq]
   simp only[List.getD_cons_zero,List.getD_cons_succ,a1,a2,a3,List.length_cons]
   unfold Lib.decodeN
   have d1:r / 64 / 64=r / 4096:=by omega
   rw[if_neg (by omega),if_neg (by omega),if_pos (by omega),if_pos (by omega)]
   exact Prod.ext (by simp only;omega) rfl
 · rw[Lib.encodeRuneZ_four (by omega) (by omega)]
   simp only[List.map_cons,List.map_nil,List.cons_append,List.nil_append,List.length_cons,List.length_nil]
   have a1:((240+(r:Int) / 262144).toNat.toUInt8).toNat=240+r / 262144:=by rw[u8_of (by omega) (by omega)];omega
   have a2:((128+(r:Int) / 4096 % 64).toNat.toUInt8).toNat=128+r / 4096 % 64:=by rw[u8_of (by omega) (by omega)];omega
   have a3:((128+(r:Int) / 64 % 64).toNat.toUInt8).toNat=128+r / 64 % 64:=by rw[u8_of (by omega) (by omega)];omega
   have a4:((128+(r:Int) % 64).toNat.toUInt8).toNat=128+r % 64:=by rw[u8_of (by omega) (by omega)];omega
   generalize (240+(r:Int) / 262144).toNat.toUInt8=x0 at*
   generalize (128+(r:Int) / 4096 % 64).toNat.toUInt8=x1 at*
   generalize (128+(r:Int) / 64 % 64).toNat.toUInt8=x2 at*
   generalize (128+(r:Int) % 64).toNat.toUInt8=x3 at*
   rw[decodeL_eq]
   simp only[List.getD_cons_zero,List.getD_cons_succ,a1,a2,a3,a4,List.length_cons]
   unfold Lib.decodeN
   rw[if_neg (by omega),if_neg (by omega),if_neg (by omega),if_pos (by omega),if_pos (by omega)]
   exact Prod.ext (by simp only;omega) rfl
theorem encode_ne (r:Int):Lib.encodeRune r≠ []:=by
 unfold Lib.encodeRune Lib.encodeRuneZ
 repeat' split
 all_goals simp
def unhex (c:UInt8):Nat:=if c.toNat<58 then c.toNat - 48 else c.toNat - 87
def unlet (c:UInt8):Nat:=if c.toNat=98 then 8 else if c.toNat=116 then 9 else if c.toNat=110 then 10 else if c.toNat=102 then 12 else if c.toNat=114 then 13 else c.toNat
theorem small_esc: ∀r:Fin 128,(r.val<32∨r.val=34∨r.val=92)→((quoteRune r.val).getD 0 0=92∧(((quoteRune r.val).length=2∧(quoteRune r.val).getD 1 0≠117∧unlet ((quoteRune r.val).getD 1 0)=r.val)∨
 ((quoteRune r.val).length=6∧(quoteRune r.val).getD 1 0=117∧unhex ((quoteRune r.val).getD 4 0)*16+unhex ((quoteRune r.val).getD 5 0)=r.val))):=by decide+kernel
theorem quoteRune_first {r:Nat} (h:scalar r): ∃c y,quoteRune r=c::y∧c≠34:=by
 by_cases hp:32≤r∧r≠34∧r≠92
 · have e:quoteRune r=Lib.encodeRune r:=by unfold quoteRune;rw[if_pos hp]
   rw[e]
   have hb:=encode_bytes h
   cases he:Lib.encodeRune (r:Int)with
   |nil=>exact absurd he (encode_ne r)
   |cons c y=>
    rw[he]at hb
    have:=hb c (by simp)
    refine⟨c,y,rfl,fun e'=> ?_⟩
    subst e'
    have e2:(34:UInt8).toNat=34:=rfl
    omega
 · obtain⟨h0,h1⟩:=small_esc ⟨r,by omega⟩ (by simp only;omega)
   simp only at h0 h1
   cases he:quoteRune r with
   |nil=>rw[he]at h1;simp at h1
   |cons c y=>
    rw[he]at h0
    have h0':c=92:=h0
    exact⟨c,y,rfl,by rw[h0'];decide⟩
theorem runes_back: ∀(n:Nat) (l:List UInt8) (p:Nat),l.length≤n→Lib.validD l=true→(runesFrom n l p).flatMap (fun x=>Lib.encodeRune (x.2:Int))=l
 |0,l,p,h,_=>by
  have:l= []:=List.length_eq_zero_iff.1 (by omega)
  subst this
  rfl
 |n+1,l,p,h,hv=>by
  by_cases hl:l= []
  · subst hl;simp[runesFrom]
  · rw[validD_step hl]at hv
    split at hv
    · cases hv
    rename_i hg
    have hw:=Lib.decodeL_width l
    have hle:=Lib.decodeL_le l hl
    simp only[runesFrom]
    rw[if_neg hl,if_neg hg,List.flatMap_cons,Lib.encode_decode l hl hg,runes_back n _ _ (by rw[List.length_drop];omega) hv]
    exact List.take_append_drop _ _
end Go.Proofs.YtackmnbpfbaemaaGreatDoor
