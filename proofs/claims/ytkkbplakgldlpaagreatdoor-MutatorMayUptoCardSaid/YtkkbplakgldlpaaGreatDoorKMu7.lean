/- Parts, joined: Keys in order; a list of members has one order. Plain. No condition. An object's keys: it has just these names, if it has as many members and each is one of them; or if it has each of them and no more. Plain. No condition. Plain Lean, no program: the reference's runes are the decoder's. The reference's Valid, and why it holds a value for one that may not be. commonplaceref01.Code: an escape's rune. No condition. parse.newReader: a reader at the beginning of a text. No condition. Printed by mknewr.py. -/
import Derived.Test.YtkkbplakgldlpaaGreatDoorProg
import Derived.Lib.Strings
import Derived.Lib.ValidU
import Derived.Lib.MapLaws
import Derived.WalkKit
import Derived.Below
import Derived.Lib.RuneBytes
import Derived.Lib.Hide
import Derived.IntWalk
import Derived.Laws.IdiomStrings
import Derived.LoopTactic
import Derived.Deep.Cut
import Derived.Test.YtkkbplakgldlpaaGreatDoorKMu3
import Derived.Test.YtkkbplakgldlpaaGreatDoorKMu5
import Derived.Test.YtkkbplakgldlpaaGreatDoorKMu6
namespace Go.Proofs.YtkkbplakgldlpaaGreatDoor
open Go.RowKit
theorem bl_irrefl: ∀x:List UInt8,Op.bytesLess x x=false
 | []=>rfl
 |a::x=>by simp[Op.bytesLess,bl_irrefl x,UInt8.lt_irrefl]
theorem bl_trans: ∀{x y z:List UInt8},Op.bytesLess x y=true→Op.bytesLess y z=true→Op.bytesLess x z=true
 |_, [],_,h,_=>by cases ‹List UInt8› <;>simp[Op.bytesLess]at h
 |_,_::_, [],_,h=>by simp[Op.bytesLess]at h
 | [],_::_,_::_,_,_=>rfl
 |a::x,b::y,c::z,h,k=>by
  simp only[Op.bytesLess,Bool.or_eq_true,Bool.and_eq_true,decide_eq_true_eq,beq_iff_eq]at h k ⊢
  rcases h with h|⟨rfl,h⟩<;>rcases k with k|⟨rfl,k⟩
  · exact .inl (UInt8.lt_trans h k)
  · exact .inl h
  · exact .inl k
  · exact .inr ⟨rfl,bl_trans h k⟩
theorem bl_tri: ∀(x y:List UInt8),Op.bytesLess x y=true∨x=y∨Op.bytesLess y x=true
 | [], []=> .inr (.inl rfl)
 | [],_::_=> .inl rfl
 |_::_, []=> .inr (.inr rfl)
 |a::x,b::y=>by
  simp only[Op.bytesLess,Bool.or_eq_true,Bool.and_eq_true,decide_eq_true_eq,beq_iff_eq]
  rcases Nat.lt_trichotomy a.toNat b.toNat with h|h|h
  · exact .inl (.inl (UInt8.lt_iff_toNat_lt.2 h))
  · have hab:a=b:=UInt8.toNat_inj.1 h
    subst hab
    rcases bl_tri x y with h|h|h
    · exact .inl (.inr ⟨rfl,h⟩)
    · exact .inr (.inl (by rw[h]))
    · exact .inr (.inr (.inr ⟨rfl,h⟩))
  · exact .inr (.inr (.inl (UInt8.lt_iff_toNat_lt.2 h)))
theorem toList_inj {a b:ByteArray} (h:a.toList=b.toList):a=b:=by
 rw[Lib.toList_data,Lib.toList_data]at h
 exact ByteArray.ext (Array.ext' h)
theorem ltB_irrefl (a:ByteArray):ltB a a=false:=bl_irrefl _
theorem ltB_trans {a b c:ByteArray} (h:ltB a b=true) (k:ltB b c=true):ltB a c=true:=bl_trans h k
theorem ltB_tri (a b:ByteArray):ltB a b=true∨a=b∨ltB b a=true:=by
 rcases bl_tri a.toList b.toList with h|h|h
 · exact .inl h
 · exact .inr (.inl (toList_inj h))
 · exact .inr (.inr h)
theorem ltB_asym {a b:ByteArray} (h:ltB a b=true):ltB b a=false:=by
 cases e:ltB b a with
 |false=>rfl
 |true=>have:=ltB_trans h e;rw[ltB_irrefl]at this;cases this
def ascO (l:List (ByteArray×Val)):Prop:=l.Pairwise fun a b=>ltB a.1 b.1=true
theorem atO_split (k:ByteArray): ∀{acc:List (ByteArray×Val)},ascO acc→hitO k acc=false→(∀p ∈ acc.take (atO k acc),ltB p.1 k=true)∧(∀p ∈ acc.drop (atO k acc),ltB k p.1=true)
 | [],_,_=>by simp
 |q::r,ha,hh=>by
  obtain⟨h1,h2⟩:=List.pairwise_cons.1 ha
  by_cases hq:ltB q.1 k=true
  · have hh':hitO k r=false:=by
     unfold hitO at hh ⊢
     simpa only[atO,if_pos hq,List.getElem?_cons_succ]using hh
    obtain⟨a,b⟩:=atO_split k h2 hh'
    simp only[atO,if_pos hq,List.take_succ_cons,List.drop_succ_cons]
    refine⟨fun p hp=> ?_,b⟩
    rcases List.mem_cons.1 hp with rfl|hp
    · exact hq
    · exact a p hp
  · simp only[atO,if_neg hq,List.take_zero,List.drop_zero]
    refine⟨fun p hp=>(by cases hp), ?_⟩
    have hne:q.1≠k:=by
     intro e
     unfold hitO at hh
     simp only[atO,if_neg hq,List.getElem?_cons_zero,Option.any_some]at hh
     rw[e]at hh
     simp at hh
    have hkq:ltB k q.1=true:=by
     rcases ltB_tri q.1 k with h|h|h
     · exact absurd h hq
     · exact absurd h hne
     · exact h
    intro p hp
    rcases List.mem_cons.1 hp with rfl|hp
    · exact hkq
    · exact ltB_trans hkq (h1 p hp)
theorem putO_asc {m:ByteArray×Val} {acc:List (ByteArray×Val)} (ha:ascO acc) (hh:hitO m.1 acc=false):ascO (putO m acc):=by
 obtain⟨h1,h2⟩:=atO_split m.1 ha hh
 have h3:ascO (acc.take (atO m.1 acc)++acc.drop (atO m.1 acc)):=by rw[List.take_append_drop];exact ha
 obtain⟨h4,h5,h6⟩:=List.pairwise_append.1 h3
 refine List.pairwise_append.2 ⟨h4,List.pairwise_cons.2 ⟨h2,h5⟩,fun a ha b hb=> ?_⟩
 rcases List.mem_cons.1 hb with rfl|hb
 · exact h1 a ha
 · exact h6 a ha b hb
theorem putO_perm (m:ByteArray×Val) (acc:List (ByteArray×Val)):(putO m acc).Perm (m::acc):=by
 have h:(acc.take (atO m.1 acc)++([m]++acc.drop (atO m.1 acc))).Perm ([m]++(acc.take (atO m.1 acc)++acc.drop (atO m.1 acc))):=by
  rw[←List.append_assoc,←List.append_assoc]
  exact List.Perm.append_right _ List.perm_append_comm
 rw[List.take_append_drop]at h
 exact h
theorem hitO_mem {k:ByteArray} {acc:List (ByteArray×Val)} (h:hitO k acc=true): ∃v,(k,v) ∈ acc:=by
 unfold hitO at h
 cases e:acc[atO k acc]? with
 |none=>rw[e]at h;cases h
 |some p=>
  rw[e]at h
  have hk:p.1=k:=toList_inj (by simpa using h)
  exact⟨p.2,by rw[←hk];exact List.mem_of_getElem? e⟩
theorem objAll_some: ∀{l acc o:List (ByteArray×Val)},objAll l acc=some o→ascO acc→ascO o∧o.Perm (l++acc)
 | [],acc,o,h,ha=>by
   simp only[objAll,Option.some.injEq]at h
   subst h
   exact⟨ha,List.Perm.refl _⟩
 |m::r,acc,o,h,ha=>by
  simp only[objAll]at h
  by_cases hh:hitO m.1 acc=true
  · rw[if_pos hh]at h;cases h
  · rw[if_neg hh]at h
    obtain⟨h1,h2⟩:=objAll_some h (putO_asc ha (by simpa using hh))
    exact⟨h1,h2.trans ((List.Perm.append_left r (putO_perm m acc)).trans List.perm_middle)⟩
theorem objAll_none: ∀{l acc:List (ByteArray×Val)},objAll l acc=none→ ¬((l++acc).map (·.1)).Nodup
 | [],acc,h=>by simp[objAll]at h
 |m::r,acc,h=>by
  simp only[objAll]at h
  by_cases hh:hitO m.1 acc=true
  · obtain⟨v,hv⟩:=hitO_mem hh
    intro hn
    rw[List.cons_append,List.map_cons,List.nodup_cons]at hn
    exact hn.1 (List.mem_map.2 ⟨(m.1,v),List.mem_append.2 (.inr hv),rfl⟩)
  · rw[if_neg hh]at h
    intro hn
    refine objAll_none h ?_
    have hp:((r++putO m acc).map (·.1)).Perm ((m::r++acc).map (·.1)):=((List.Perm.append_left r (putO_perm m acc)).trans List.perm_middle).map _
    exact hp.nodup_iff.2 hn
theorem asc_unique: ∀{a b:List (ByteArray×Val)},ascO a→ascO b→a.Perm b→a=b
 | [],b,_,_,h=>(List.Perm.nil_eq h)
 |x::a, [],_,_,h=>by have:=h.length_eq;simp at this
 |x::a,y::b,ha,hb,h=>by
  obtain⟨h1,h2⟩:=List.pairwise_cons.1 ha
  obtain⟨h3,h4⟩:=List.pairwise_cons.1 hb
  have hxy:x=y:=by
   rcases List.mem_cons.1 (h.mem_iff.1 (List.mem_cons_self (a:=x)))with e|hx
   · exact e
   · rcases List.mem_cons.1 (h.mem_iff.2 (List.mem_cons_self (a:=y)))with e|hy
     · exact e.symm
     · have p:=h3 x hx
       have q:=h1 y hy
       rw[ltB_asym p]at q
       cases q
  subst hxy
  rw[asc_unique h2 h4 (List.perm_cons _ |>.1 h)]
end Go.Proofs.YtkkbplakgldlpaaGreatDoor

namespace Go.Proofs.YtkkbplakgldlpaaGreatDoor
def findO (k:ByteArray):List (ByteArray×Val)→Option Val
 | []=>none
 |p::r=>if p.1=k then some p.2 else findO k r
theorem findO_some {k:ByteArray}: ∀{o:List (ByteArray×Val)} {v:Val},findO k o=some v→(k,v) ∈ o
 | [],_,h=>by cases h
 |p::r,v,h=>by
  unfold findO at h
  split at h
  · rename_i e
    cases h
    subst e
    exact List.mem_cons_self ..
  · exact List.mem_cons_of_mem _ (findO_some h)
theorem findO_none {k:ByteArray}: ∀{o:List (ByteArray×Val)},findO k o=none ↔ k ∉ o.map (·.1)
 | []=>by simp[findO]
 |p::r=>by
  unfold findO
  by_cases e:p.1=k
  · rw[if_pos e];simp[e]
  · rw[if_neg e,findO_none (o:=r)];simp[Ne.symm e]
end Go.Proofs.YtkkbplakgldlpaaGreatDoor

namespace Go.Proofs.YtkkbplakgldlpaaGreatDoor
theorem get_mk (l:List UInt8) (k:Nat):((ByteArray.mk l.toArray).get! k)=l.getD k 0:=by
 show l.toArray[k]! =l.getD k 0
 rw[getElem!_def]
 simp only[List.getElem?_toArray,List.getD_eq_getElem?_getD]
 cases l[k]? <;>rfl
theorem decodeL_eq (l:List UInt8):Lib.decodeL l=Lib.decodeN l.length (l.getD 0 0).toNat (l.getD 1 0).toNat (l.getD 2 0).toNat (l.getD 3 0).toNat:=by
 unfold Lib.decodeL
 rw[Lib.decode_at]
 simp only[Nat.sub_zero,Nat.zero_add,get_mk]
 rfl
theorem contFold_zero (l:List UInt8) (r:Int):contFold l 0 r=some r:=by cases l<;>rfl
def goodAt (l:List UInt8):Prop:=
 atSpec l=if(Lib.decodeL l).1=65533∧(Lib.decodeL l).2=1 then(0,0)else(((Lib.decodeL l).1:Int),((Lib.decodeL l).2:Int))
theorem pair_eq {a b c d:Int} (h:a=c) (k:b=d):(a,b)=(c,d):=by rw[h,k]
set_option maxHeartbeats 8000000 in
theorem atSpec_dec1 (a:UInt8):goodAt [a]:=by
 unfold goodAt
 rw[decodeL_eq]
 have ha:=a.toNat_lt
 simp only[atSpec_cons,atTail,List.length_nil,List.length_cons,List.getD_cons_zero,Nat.zero_add]
 generalize a.toNat=x at ha ⊢
 unfold Lib.decodeN
 simp only[Nat.lt_irrefl,false_and,and_false,if_false]
 repeat' split
 all_goals first|rfl|(exfalso;omega)|(simp_all;done)|(simp_all;omega)
set_option maxHeartbeats 8000000 in
theorem atSpec_dec2 (a b:UInt8):goodAt [a,b]:=by
 unfold goodAt
 rw[decodeL_eq]
 have ha:=a.toNat_lt
 have hb:=b.toNat_lt
 simp only[atSpec_cons,atTail,List.length_nil,List.length_cons,List.getD_cons_zero,List.getD_cons_succ,Nat.zero_add,Nat.reduceAdd,Nat.reduceLT,if_false,if_true,Nat.reduceSub]
 rw[show contFold [b] 1 ((a.toNat:Int) - 192)=_ from contFold_cons b [] 0 _,contFold_zero]
 generalize a.toNat=x at ha ⊢
 generalize b.toNat=y at hb ⊢
 unfold Lib.decodeN atEnd
 simp only[Nat.lt_irrefl,false_and,and_false,if_false]
 repeat' split
 all_goals first|rfl|(exfalso;omega)|(apply pair_eq<;>omega)|(simp_all;done)|(simp_all;omega)
set_option maxHeartbeats 8000000 in
theorem atSpec_dec3 (a b c:UInt8):goodAt [a,b,c]:=by
 unfold goodAt
 rw[decodeL_eq]
 have ha:=a.toNat_lt
 have hb:=b.toNat_lt
 have hc:=c.toNat_lt
 simp only[atSpec_cons,atTail,List.length_nil,List.length_cons,List.getD_cons_zero,List.getD_cons_succ,Nat.zero_add,Nat.reduceAdd,Nat.reduceLT,if_false,if_true,Nat.reduceSub]
 rw[show contFold [b,c] 1 ((a.toNat:Int) - 192)=_ from contFold_cons b [c] 0 _,contFold_zero,
  show contFold [b,c] 2 ((a.toNat:Int) - 224)=_ from contFold_cons b [c] 1 _,show contFold [c] 1 (64*((a.toNat:Int) - 224)+b.toNat - 128)=_ from contFold_cons c [] 0 _,contFold_zero]
 generalize a.toNat=x at ha ⊢
 generalize b.toNat=y at hb ⊢
 generalize c.toNat=z at hc ⊢
 unfold Lib.decodeN atEnd
 simp only[Nat.lt_irrefl,false_and,and_false,if_false]
 repeat' split
 all_goals first|rfl|(exfalso;omega)|(apply pair_eq<;>omega)|(simp_all;done)|(simp_all;omega)
set_option maxHeartbeats 8000000 in
theorem atSpec_dec4 (a b c d:UInt8) (r:List UInt8):goodAt (a::b::c::d::r):=by
 unfold goodAt
 rw[decodeL_eq]
 have ha:=a.toNat_lt
 have hb:=b.toNat_lt
 have hc:=c.toNat_lt
 have hd:=d.toNat_lt
 rw[atSpec_cons]
 have l2: ¬(b::c::d::r).length+1<2:=by simp
 have l3: ¬(b::c::d::r).length+1<3:=by simp
 have l4: ¬(b::c::d::r).length+1<4:=by simp
 have e2:atTail (b::c::d::r) 2 ((a.toNat:Int) - 192) 128=atEnd (if(b.toNat:Int)<128∨192≤(b.toNat:Int)then none else some (64*((a.toNat:Int) - 192)+b.toNat - 128)) 2 128:=by
  unfold atTail
  rw[if_neg l2,show(2 - 1:Nat)=0+1 from rfl,contFold_cons,contFold_zero]
 have e3:atTail (b::c::d::r) 3 ((a.toNat:Int) - 224) 2048=atEnd (if(b.toNat:Int)<128∨192≤(b.toNat:Int)then none else if(c.toNat:Int)<128∨192≤(c.toNat:Int)then none else some (64*(64*((a.toNat:Int) - 224)+b.toNat - 128)+c.toNat - 128)) 3 2048:=by
  unfold atTail
  rw[if_neg l3,show(3 - 1:Nat)=1+1 from rfl,contFold_cons,show(1:Nat)=0+1 from rfl,contFold_cons,contFold_zero]
 have e4:atTail (b::c::d::r) 4 ((a.toNat:Int) - 240) 65536=atEnd (if(b.toNat:Int)<128∨192≤(b.toNat:Int)then none else if(c.toNat:Int)<128∨192≤(c.toNat:Int)then none else if(d.toNat:Int)<128∨192≤(d.toNat:Int)then none else some (64*(64*(64*((a.toNat:Int) - 240)+b.toNat - 128)+c.toNat - 128)+d.toNat - 128)) 4 65536:=by
  unfold atTail
  rw[if_neg l4,show(4 - 1:Nat)=2+1 from rfl,contFold_cons,show(2:Nat)=1+1 from rfl,contFold_cons,show(1:Nat)=0+1 from rfl,contFold_cons,contFold_zero]
 rw[e2,e3,e4]
 clear e2 e3 e4 l2 l3 l4
 have hl:3<(a::b::c::d::r).length:=by simp
 generalize (a::b::c::d::r).length=n at hl
 simp only[List.getD_cons_zero,List.getD_cons_succ]
 generalize a.toNat=x at ha ⊢
 generalize b.toNat=y at hb ⊢
 generalize c.toNat=z at hc ⊢
 generalize d.toNat=u at hd ⊢
 unfold Lib.decodeN
 by_cases b1:(y:Int)<128∨192≤(y:Int)
 · simp only[if_pos b1]
   unfold atEnd
   repeat' split
   all_goals first|rfl|(exfalso;omega)|(apply pair_eq<;>omega)|(simp_all;done)|(simp_all;omega)
 simp only[if_neg b1]
 by_cases b2:(z:Int)<128∨192≤(z:Int)
 · simp only[if_pos b2]
   unfold atEnd
   repeat' split
   all_goals first|rfl|(exfalso;omega)|(apply pair_eq<;>omega)|(simp_all;done)|(simp_all;omega)
 simp only[if_neg b2]
 by_cases b3:(u:Int)<128∨192≤(u:Int)
 · simp only[if_pos b3]
   unfold atEnd
   repeat' split
   all_goals first|rfl|(exfalso;omega)|(apply pair_eq<;>omega)|(simp_all;done)|(simp_all;omega)
 simp only[if_neg b3]
 unfold atEnd
 repeat' split
 all_goals first|rfl|(exfalso;omega)|(apply pair_eq<;>omega)|(simp_all;done)|(simp_all;omega)
theorem atSpec_dec (l:List UInt8) (h:l≠ []):goodAt l:=
 match l,h with
 | [a],_=>atSpec_dec1 a
 | [a,b],_=>atSpec_dec2 a b
 | [a,b,c],_=>atSpec_dec3 a b c
 |a::b::c::d::r,_=>atSpec_dec4 a b c d r
end Go.Proofs.YtkkbplakgldlpaaGreatDoor

namespace Go.Proofs.YtkkbplakgldlpaaGreatDoor
open Go.RowKit
theorem validGoD_more: ∀(n m:Nat) (l:List UInt8),l.length≤n→l.length≤m→Lib.validGoD n l=Lib.validGoD m l
 |0,m,l,hn,hm=>by
  obtain rfl:l= []:=List.eq_nil_of_length_eq_zero (by omega)
  cases m<;>simp[Lib.validGoD]
 |n+1,0,l,hn,hm=>by
  obtain rfl:l= []:=List.eq_nil_of_length_eq_zero (by omega)
  simp[Lib.validGoD]
 |n+1,m+1,l,hn,hm=>by
  simp only[Lib.validGoD]
  by_cases h:l= []
  · simp[h]
  · rw[if_neg h,if_neg h]
    split
    · rfl
    · have hw:=Lib.decodeL_width l
      have hl:0<l.length:=List.length_pos_iff.2 h
      exact validGoD_more n m _ (by rw[List.length_drop];omega) (by rw[List.length_drop];omega)
theorem validD_step {l:List UInt8} (h:l≠ []):Lib.validD l=if(Lib.decodeL l).1=65533∧(Lib.decodeL l).2=1 then false else Lib.validD (l.drop (Lib.decodeL l).2):=by
 have hw:=Lib.decodeL_width l
 have hl:0<l.length:=List.length_pos_iff.2 h
 unfold Lib.validD
 obtain⟨n,hn⟩: ∃n,l.length=n+1:=⟨l.length - 1,by omega⟩
 rw[hn]
 simp only[Lib.validGoD]
 rw[if_neg h]
 split
 · rfl
 · exact validGoD_more _ _ _ (by rw[List.length_drop];omega) (Nat.le_refl _)
theorem validD_at {l:List UInt8} (h:l≠ []):((atSpec l).2=0∧Lib.validD l=false)∨(∃n:Nat,(atSpec l).2=(n:Int)∧1≤n∧n≤l.length∧Lib.validD l=Lib.validD (l.drop n)):=by
 have hg:=atSpec_dec l h
 unfold goodAt at hg
 rw[validD_step h]
 by_cases hb:(Lib.decodeL l).1=65533∧(Lib.decodeL l).2=1
 · rw[if_pos hb]at hg ⊢
   rw[hg]
   exact .inl ⟨rfl,rfl⟩
 · rw[if_neg hb]at hg ⊢
   rw[hg]
   have hw:=Lib.decodeL_width l
   exact .inr ⟨(Lib.decodeL l).2,rfl,hw,Lib.decodeL_le l h,rfl⟩
set_option maxHeartbeats 1000000 in
theorem RValid_calls (s:ByteArray) (w:World) (hs:s.size≤1000000000):
 Calls Tryz.prog 84 #[.string s] w fun e w'=>e=.returned (.bool (validB s))∧w=w':=by
 obtain⟨V,hV⟩: ∃V,validB s=V:=⟨_,rfl⟩
 rw[hV]
 have H0:=Lib.hid hV
 clear hV
 go_enter Tryz.func84,Tryz.ntmps84
 go_wp2
 go_loop [3] (fun i=> ∃k:Nat,k≤s.size∧i=.int .i64 k∧Hid (Lib.validD (s.data.toList.drop k)=V)) (fun i=>s.size - (intOf i).toNat)
 case atStart=>exact⟨0,Nat.zero_le _,rfl,H0⟩
 case round=>
  obtain⟨k,hk,rfl,hf⟩:=hrel
  clear H0
  by_cases hlt:k<s.size
  · have hne:s.data.toList.drop k≠ []:=by
     intro e
     have:=congrArg List.length e
     rw[List.length_drop,←Lib.size_eq]at this
     simp at this
     omega
    have hA:=At_calls s k w (by omega) (by omega)
    rcases validD_at hne with⟨h0,hv⟩|⟨n,hn,hn1,hn2,hv⟩
    · have hf':=hf.out
      rw[hv]at hf'
      subst hf'
      rw[h0]at hA
      generalize (atSpec (s.data.toList.drop k)).1=R at hA
      have HA:=Lib.hid hA
      clear hA h0 hv hne hf
      go_wp2_with (go_at_call 131;refine(HA.out).mono ?_;rintro e w' ⟨rfl,rfl⟩)
      go_ret
      exact⟨rfl,rfl⟩
    · have hf':=hf.out
      rw[hv,List.drop_drop]at hf'
      have Hf:=Lib.hid hf'
      rw[hn]at hA
      rw[List.length_drop,←Lib.size_eq]at hn2
      generalize (atSpec (s.data.toList.drop k)).1=R at hA
      have HA:=Lib.hid hA
      clear hA hn hv hne hf hf'
      have e0:((n:Int)==0)=false:=by simp;omega
      go_wp2_with (go_at_call 131;refine(HA.out).mono ?_;rintro e w' ⟨rfl,rfl⟩)
      go_round
      case rel=>exact⟨k+n,by omega,by go_num,Hf⟩
      case measure=>simp[intOf];omega
  · obtain rfl:k=s.size:=by omega
    have hf':=hf.out
    rw[List.drop_eq_nil_of_le (by rw[←Lib.size_eq];omega)]at hf'
    have:V=true:=by rw[←hf'];rfl
    subst this
    clear hf hf'
    go_wp2
    go_ret
    exact⟨rfl,rfl⟩
end Go.Proofs.YtkkbplakgldlpaaGreatDoor

namespace Go.Proofs.YtkkbplakgldlpaaGreatDoor
open Go.RowKit
def codeTab:List Int:= [34,92,47,8,12,10,13,9]
set_option maxHeartbeats 1000000 in
theorem RCode_calls (k:Nat) (c:Int) (h:codeTab[k]? =some c) (w:World):
 Calls Tryz.prog 86 #[.int .i64 k] w fun e w'=>e=.returned (.int .i64 c)∧Below w.heap.size w w':=by
 have hk:k<8:=(List.getElem?_eq_some_iff.1 h).1
 rcases(by omega:k=0∨k=1∨k=2∨k=3∨k=4∨k=5∨k=6∨k=7)with rfl|rfl|rfl|rfl|rfl|rfl|rfl|rfl
 all_goals
  (obtain rfl:=Option.some.inj h
   clear h hk
   go_enter Tryz.func86,Tryz.ntmps86
   go_wp2
   go_ret
   exact⟨rfl,(Below.refl _ _).alloc (Nat.le_refl _) _⟩)
end Go.Proofs.YtkkbplakgldlpaaGreatDoor

namespace Go.Proofs.YtkkbplakgldlpaaGreatDoor
open Go Go.RowKit
abbrev Tkinds:TypeId:=131
theorem mkey_kinds:MKey Tryz.prog 5 (Value.int .u8):=mkey_int Tryz.underlying5
section
variable {α:Type} [DecidableEq α] {f:α→Value} {P:Program} {kt et t:TypeId} {w w':World} {g:Nat} {kv:List (α×Value)}
theorem findM_not {a k:α} {v:Value} {r:List (α×Value)} (h:a≠k) (hr:findM a r=none):findM a ((k,v)::r)=none:=by
 simp only[findM,if_neg h];exact hr
end
structure NR (s:ByteArray) (w wr:World) (m:Option Nat) (kv:List (Int×Value)):Prop where
 below:Below w.heap.size w wr
 map:MapAt (Value.int .u8) wr (w.heap.size+1) kv
 blk:Blk wr w.heap.size 133 #[.string s,.int .i64 0,.map m]
theorem NR.ins {s:ByteArray} {w wr w':World} {m:Option Nat} {kv kv':List (Int×Value)} (h:NR s w wr m kv) (hM:MapAt (Value.int .u8) w' (w.heap.size+1) kv') (hg:wr.grownBy w' (some (w.heap.size+1))):NR s w w' m kv':=
 ⟨h.below.grown hg h.below.size fun k e=>by have:=Option.some.inj e;omega,hM,h.blk.grown hg (by intro e;have:=Option.some.inj e;omega)⟩
theorem NR.set {s:ByteArray} {w wr:World} {m:Option Nat} {kv:List (Int×Value)} (h:NR s w wr m kv):NR s w (wr.setCell ⟨w.heap.size,2,none⟩ (.map (some (w.heap.size+1)))) (some (w.heap.size+1)) kv:=
 ⟨h.below.setCell (Nat.le_refl _) _,h.map.setCell (by show w.heap.size+1≠w.heap.size;omega) _,by have:=h.blk.set_ 2 (.map (some (w.heap.size+1)));exact this⟩
theorem KV_next (R:Nat): ∀j:Nat,j<10→findM (48+(j:Int)) ((KV R).take (7+j))=none∧(KV R).take (7+j)++ [(48+(j:Int),Value.func (.func 140) #[.pointer (some ⟨R,0,none⟩)] #[])]=(KV R).take (7+(j+1)):=by
 intro j hj
 match j,hj with
 |0,_|1,_|2,_|3,_|4,_|5,_|6,_|7,_|8,_|9,_=>exact⟨by simp[KV,findM],rfl⟩
set_option maxRecDepth 100000 in
set_option maxHeartbeats 8000000 in
theorem newReader_calls (s:ByteArray) (w:World):Calls Tryz.prog 90 #[.string s] w fun e w'=>e=.returned (.pointer (some ⟨w.heap.size,0,none⟩))∧NR s w w' (some (w.heap.size+1)) (KV w.heap.size):=by
 have hmm:=fun W=>run_makeMap (P:=Tryz.prog) Tkinds W
 have hS0:NR s w ((w.alloc (.cells #[.string s,.int .i64 0,.map none] 133)).alloc (.map #[] 0)) none []:=by
  have:=MapAt.new (f:=Value.int .u8) (w.alloc (.cells #[.string s,.int .i64 0,.map none] 133))
  rw[World.size_alloc]at this
  exact⟨((Below.refl _ _).alloc (Nat.le_refl _) _).alloc (by simp) _,this,(Blk.new _ _ _).alloc _⟩
 have HS0:=Lib.hid hS0
 clear hS0
 go_enter Tryz.func90,Tryz.ntmps90
 go_upto_region 2 with(fail)
 go_upto_region 3 with(first
  |(((with_reducible refine wpList_insertM rfl (.tmp 9) _ _ Tkinds rfl mkey_kinds Tryz.underlying131 rfl HS0.out.map (k:=110) rfl rfl rfl ?_));intro w1 hM hg hs;have HS1:=Lib.hid (HS0.out.ins hM hg);(have r2:=HS1.out.blk.cell 2);(have f2:=HS1.out.blk.frozen 2);(have hlt:=HS1.out.blk.lt);clear hM hg hs HS0)
  |(((with_reducible refine wpList_insertM rfl (.tmp 9) _ _ Tkinds rfl mkey_kinds Tryz.underlying131 rfl HS1.out.map (k:=102) rfl rfl (findM_not (by decide) rfl) ?_));intro w2 hM hg hs;have HS2:=Lib.hid (HS1.out.ins hM hg);(have r2:=HS2.out.blk.cell 2);(have f2:=HS2.out.blk.frozen 2);(have hlt:=HS2.out.blk.lt);clear hM hg hs HS1)
  |(((with_reducible refine wpList_insertM rfl (.tmp 9) _ _ Tkinds rfl mkey_kinds Tryz.underlying131 rfl HS2.out.map (k:=116) rfl rfl (findM_not (by decide) (findM_not (by decide) rfl)) ?_));intro w3 hM hg hs;have HS3:=Lib.hid (HS2.out.ins hM hg);(have r2:=HS3.out.blk.cell 2);(have f2:=HS3.out.blk.frozen 2);(have hlt:=HS3.out.blk.lt);clear hM hg hs HS2)
  |(((with_reducible refine wpList_insertM rfl (.tmp 9) _ _ Tkinds rfl mkey_kinds Tryz.underlying131 rfl HS3.out.map (k:=34) rfl rfl (findM_not (by decide) (findM_not (by decide) (findM_not (by decide) rfl))) ?_));intro w4 hM hg hs;have HS4:=Lib.hid (HS3.out.ins hM hg);(have r2:=HS4.out.blk.cell 2);(have f2:=HS4.out.blk.frozen 2);(have hlt:=HS4.out.blk.lt);clear hM hg hs HS3)
  |(((with_reducible refine wpList_insertM rfl (.tmp 9) _ _ Tkinds rfl mkey_kinds Tryz.underlying131 rfl HS4.out.map (k:=91) rfl rfl (findM_not (by decide) (findM_not (by decide) (findM_not (by decide) (findM_not (by decide) rfl)))) ?_));intro w5 hM hg hs;have HS5:=Lib.hid (HS4.out.ins hM hg);(have r2:=HS5.out.blk.cell 2);(have f2:=HS5.out.blk.frozen 2);(have hlt:=HS5.out.blk.lt);clear hM hg hs HS4)
  |(((with_reducible refine wpList_insertM rfl (.tmp 9) _ _ Tkinds rfl mkey_kinds Tryz.underlying131 rfl HS5.out.map (k:=123) rfl rfl (findM_not (by decide) (findM_not (by decide) (findM_not (by decide) (findM_not (by decide) (findM_not (by decide) rfl))))) ?_));intro w6 hM hg hs;have HS6:=Lib.hid (HS5.out.ins hM hg);(have r2:=HS6.out.blk.cell 2);(have f2:=HS6.out.blk.frozen 2);(have hlt:=HS6.out.blk.lt);clear hM hg hs HS5)
  |(((with_reducible refine wpList_insertM rfl (.tmp 9) _ _ Tkinds rfl mkey_kinds Tryz.underlying131 rfl HS6.out.map (k:=45) rfl rfl (findM_not (by decide) (findM_not (by decide) (findM_not (by decide) (findM_not (by decide) (findM_not (by decide) (findM_not (by decide) rfl)))))) ?_));intro w7 hM hg hs;have HS7:=Lib.hid (HS6.out.ins hM hg);(have r2:=HS7.out.blk.cell 2);(have f2:=HS7.out.blk.frozen 2);(have hlt:=HS7.out.blk.lt);clear hM hg hs HS6))
 have h0:NR s w (w7.setCell ⟨w.heap.size,2,none⟩ (.map (some (w.heap.size+1)))) (some (w.heap.size+1)) ((KV w.heap.size).take (7+0)):=HS7.out.set
 generalize w7.setCell ⟨w.heap.size,2,none⟩ (.map (some (w.heap.size+1)))=w8 at h0 ⊢
 clear r2 f2 hlt HS7
 have H0:=Lib.hid h0
 clear h0
 go_wp2
 go_loopw [4] (fun i wr=> ∃j:Nat,i=.int .u8 (48+(j:Int))∧j≤10∧Hid (NR s w wr (some (w.heap.size+1)) ((KV w.heap.size).take (7+j)))) (fun i _=>58 - (intOf i).toNat)
 case atStart=>exact⟨0,rfl,by omega,H0⟩
 case round=>
  obtain⟨j,rfl,hj,hh⟩:=hrel
  clear H0
  have c2:=hh.out.blk.cell 2
  have hlt:=hh.out.blk.lt
  by_cases hlt':j<10
  · obtain⟨hn,hk⟩:=KV_next w.heap.size j hlt'
    have l1:decide ((48:Int)+(j:Int)≤57)=true:=decide_eq_true (by omega)
    obtain⟨w9,hrun,hM,hg,_⟩:=run_insertM mkey_kinds Tryz.underlying131 hh.out.map hn (Value.func (.func 140) #[.pointer (some ⟨w.heap.size,0,none⟩)] #[])
    rw[hk]at hM
    have HN:=Lib.hid (hh.out.ins hM hg)
    clear hM hg hh hn hk
    go_wp2
    go_roundw
    case rel=>exact⟨j+1,by go_num,by omega,HN⟩
    case measure=>simp[intOf];omega
  · obtain rfl:j=10:=by omega
    go_wp2
    go_ret
    exact⟨rfl,hh.out⟩
end Go.Proofs.YtkkbplakgldlpaaGreatDoor
