/- Parts, joined: A member of an object, cell by cell; the first of a key. Plain. No condition. What the reader reads may be. Plain. No condition. A value parameter in its box, and the calls on it. Condition: a bulk of at most 10^8. Cells of values: how a result's variable holds one, how one lies in a new block. Plain over the program's types. No condition. parse.reader: comes, word, null, no, yes. Condition: a text of at most 10^9 bytes. Digits, and what strconv.ParseInt says of them. Plain. No condition. -/
import Derived.Test.YtkkbplakgldlpaaGreatDoorProg
import Derived.Test.YtkkbplakgldlpaaGreatDoorZShelf
import Derived.Lib.ParseIntBCases
import Derived.Test.YtkkbplakgldlpaaGreatDoorKMu3
import Derived.Test.YtkkbplakgldlpaaGreatDoorKMu6
import Derived.Test.YtkkbplakgldlpaaGreatDoorKMu7
import Derived.Test.YtkkbplakgldlpaaGreatDoorKMu10
import Derived.Test.YtkkbplakgldlpaaGreatDoorKMu13
import Derived.Test.YtkkbplakgldlpaaGreatDoorKMu14
import Derived.Test.YtkkbplakgldlpaaGreatDoorKMu15
namespace Go.Proofs.YtkkbplakgldlpaaGreatDoor
open Go Go.RowKit
theorem memP_at {w:World} {B n c:Nat} {l:List (ByteArray×Val)} {a:Option Addr} (h:Holds w B (.row 7 (dO l)) [.slice a n c]) {q:Nat} {key:ByteArray} {k':Int} {b':Bool} {n':Int} {t':ByteArray} {l':List Val} {o':List (ByteArray×Val)} (hi:l[q]? =some (key,.mk k' b' n' t' l' o')):
 ∃g off,a=some ⟨g,off,none⟩∧g<B∧ ∃la lc oa oc,Holds w B (dV (.mk k' b' n' t' l' o')) [.int .i64 k',.bool b',.int .i64 n',.string t',.slice la l'.length lc,.slice oa o'.length oc]∧
  w.cell? ⟨g,off+q*7,none⟩=some (.string key)∧w.cell? ⟨g,off+q*7+1,none⟩=some (.int .i64 k')∧w.cell? ⟨g,off+q*7+2,none⟩=some (.bool b')∧
  w.cell? ⟨g,off+q*7+3,none⟩=some (.int .i64 n')∧w.cell? ⟨g,off+q*7+4,none⟩=some (.string t')∧w.cell? ⟨g,off+q*7+5,none⟩=some (.slice la l'.length lc)∧w.cell? ⟨g,off+q*7+6,none⟩=some (.slice oa o'.length oc):=by
 obtain⟨g,off,ea,hg,cs,h1,_,h3⟩:=h.at_ (i:=q) (d:=dP (key,.mk k' b' n' t' l' o')) (by rw[dO_map,List.getElem?_map,hi];rfl)
 unfold dP at h1
 simp only[Holds]at h1
 obtain⟨_,_,rfl,⟨rfl,_⟩,cv,_,rfl,h4,rfl⟩:=h1
 have h6:=holdsV_of _ _ h4
 simp only[HoldsV]at h6
 obtain⟨la,lc,oa,oc,rfl,_,_⟩:=h6
 exact⟨g,off,ea,hg,la,lc,oa,oc,h4,h3 0 _ rfl,h3 1 _ rfl,h3 2 _ rfl,h3 3 _ rfl,h3 4 _ rfl,h3 5 _ rfl,h3 6 _ rfl⟩
theorem obj_row {w:World} {B:Nat} {k':Int} {b':Bool} {n':Int} {t':ByteArray} {l':List Val} {o':List (ByteArray×Val)} {x0 x1 x2 x3 x4 oa:Value} (h:Holds w B (dV (.mk k' b' n' t' l' o')) [x0,x1,x2,x3,x4,oa]):Holds w B (.row 7 (dO o')) [oa]:=by
 have h':HoldsA w B [.leaf (.int .i64 k'),.leaf (.bool b'),.leaf (.int .i64 n'),.leaf (.string t'),.row 6 (dL l'),.row 7 (dO o')] [x0,x1,x2,x3,x4,oa]:=by
  unfold dV Holds at h
  exact h
 obtain⟨c4,c5,e,_,_,_,_,h4,h5⟩:=HoldsA.six.1 h'
 have l4:=h4.len.1
 have l5:=h5.len.1
 match c4,l4,c5,l5,e with
 | [u],_, [v],_,e=>
   simp only[List.cons_append,List.nil_append,List.cons.injEq,and_true]at e
   obtain⟨_,_,_,_,_,rfl⟩:=e
   exact h5
theorem list_row {w:World} {B:Nat} {k':Int} {b':Bool} {n':Int} {t':ByteArray} {l':List Val} {o':List (ByteArray×Val)} {x0 x1 x2 x3 la x5:Value} (h:Holds w B (dV (.mk k' b' n' t' l' o')) [x0,x1,x2,x3,la,x5]):Holds w B (.row 6 (dL l')) [la]:=by
 have h':HoldsA w B [.leaf (.int .i64 k'),.leaf (.bool b'),.leaf (.int .i64 n'),.leaf (.string t'),.row 6 (dL l'),.row 7 (dO o')] [x0,x1,x2,x3,la,x5]:=by
  unfold dV Holds at h
  exact h
 obtain⟨c4,c5,e,_,_,_,_,h4,h5⟩:=HoldsA.six.1 h'
 have l4:=h4.len.1
 have l5:=h5.len.1
 match c4,l4,c5,l5,e with
 | [u],_, [v],_,e=>
   simp only[List.cons_append,List.nil_append,List.cons.injEq,and_true]at e
   obtain⟨_,_,_,_,rfl,_⟩:=e
   exact h4
theorem dP_first {key:ByteArray} {v:Val} (w:World) (B:Nat) (cs:List Value) (h:Holds w B (dP (key,v)) cs):cs[0]? =some (.string key):=by
 unfold dP at h
 simp only[Holds]at h
 obtain⟨_,_,rfl,⟨rfl,_⟩,_⟩:=h
 rfl
theorem dP_val {key:ByteArray} {v:Val} {w:World} {B:Nat} {u:Value} {cs:List Value} (h:Holds w B (dP (key,v)) (u::cs)):Holds w B (dV v) cs:=by
 unfold dP at h
 simp only[Holds]at h
 obtain⟨_,_,e,⟨rfl,_⟩,cv,_,rfl,h4,rfl⟩:=h
 simp only[List.cons_append,List.nil_append,List.append_nil,List.cons.injEq]at e
 rw[e.2]
 exact h4
theorem findO_take {k:ByteArray}: ∀{o:List (ByteArray×Val)} {q:Nat} {p:ByteArray×Val},(∀x ∈ o.take q,x.1≠k)→o[q]? =some p→p.1=k→findO k o=some p.2
 | [],q,p,_,h,_=>by simp at h
 |x::r,0,p,_,h,e=>by
  simp only[List.getElem?_cons_zero,Option.some.injEq]at h
  subst h
  unfold findO
  rw[if_pos e]
 |x::r,q+1,p,ht,h,e=>by
  unfold findO
  rw[if_neg (ht x (by simp))]
  exact findO_take (fun y hy=>ht y (by rw[List.take_succ_cons];exact List.mem_cons_of_mem _ hy)) (by simpa using h) e
theorem findO_all {k:ByteArray} {o:List (ByteArray×Val)} (h: ∀x ∈ o,x.1≠k):findO k o=none:=by
 rw[findO_none]
 intro hm
 obtain⟨p,hp,e⟩:=List.mem_map.1 hm
 exact h p hp e
end Go.Proofs.YtkkbplakgldlpaaGreatDoor

namespace Go.Proofs.YtkkbplakgldlpaaGreatDoor
open Go.RowKit
theorem le_of_lt {a b:ByteArray} (h:ltB b a=true):leB a b=false:=by
 unfold leB
 have h1:=ltB_asym h
 unfold ltB at h1
 rw[h1,Bool.false_or]
 cases e:(a.toList==b.toList)with
 |false=>rfl
 |true=>
  have:a=b:=toList_inj (by simpa using e)
  subst this
  rw[ltB_irrefl]at h;cases h
theorem mayO_asc: ∀{l:List (ByteArray×Val)} {last:Option ByteArray} {d:Int},ascO l→(∀m ∈ l,validB m.1=true∧mayV m.2 d=0)→(∀q,last=some q→ ∀m ∈ l,ltB q m.1=true)→mayO l last d=0
 | [],_,_,_,_,_=>by simp[mayO]
 |(k,v)::r,last,d,ha,hm,hq=>by
  obtain⟨h1,h2⟩:=List.pairwise_cons.1 ha
  obtain⟨m1,m2⟩:=hm (k,v) (by simp)
  have hP:mayP (k,v) last d=0:=by
   simp only[mayP]
   rw[if_pos m1]
   cases last with
   |none=>exact m2
   |some q=>
    have:=le_of_lt (hq q rfl (k,v) (by simp))
    simp only at this ⊢
    rw[this,if_neg (by decide)]
    exact m2
  simp only[mayO]
  rw[if_pos hP]
  refine mayO_asc h2 (fun m hm'=>hm m (by simp[hm'])) (fun q hq' m hm'=> ?_)
  obtain rfl:=Option.some.inj hq'
  exact h1 m hm'
theorem mayL_of: ∀{l:List Val} {d:Int},(∀v ∈ l,mayV v d=0)→mayL l d=0
 | [],_,_=>by simp[mayL]
 |v::r,d,h=>by
  simp only[mayL]
  rw[if_pos (h v (by simp))]
  exact mayL_of fun x hx=>h x (by simp[hx])
theorem hasK_iff {k:ByteArray} {l:List (ByteArray×Val)}:hasK k l=true ↔ k ∈ l.map (·.1):=by
 unfold hasK
 simp[List.any_eq_true]
theorem sortO_some {l:List (ByteArray×Val)} (h:(l.map (·.1)).Nodup):objAll l []=some (sortO l)∧ascO (sortO l)∧(sortO l).Perm l:=by
 unfold sortO
 cases e:objAll l []with
 |none=>exact absurd (by rw[List.append_nil];exact h) (objAll_none e)
 |some o=>
  obtain⟨h1,h2⟩:=objAll_some e List.Pairwise.nil
  rw[List.append_nil]at h2
  exact⟨rfl,h1,h2⟩
theorem nodup_snoc {l:List (ByteArray×Val)} {k:ByteArray} {v:Val} (h:(l.map (·.1)).Nodup) (hk:hasK k l=false):((l++ [(k,v)]).map (·.1)).Nodup:=by
 rw[List.map_append,List.nodup_append]
 refine⟨h,by simp,fun a ha b hb=> ?_⟩
 simp only[List.map_cons,List.map_nil,List.mem_singleton]at hb
 subst hb
 intro e
 subst e
 rw[hasK_iff.2 ha]at hk;cases hk
theorem may_null {d:Int} (h:d≤64):mayV nullV d=0:=by
 simp only[nullV,mayV,List.length_nil]
 rw[if_neg (by decide+kernel),if_neg (by omega),if_pos (by decide+kernel)]
 simp[mayL,mayO]
theorem may_bool (b:Bool) {d:Int} (h:d≤64):mayV (boolV b) d=0:=by
 simp only[boolV,mayV,List.length_nil]
 rw[if_neg (by cases b<;>decide+kernel),if_neg (by omega),if_pos (by decide+kernel)]
 simp[mayL,mayO]
theorem may_int (n:Int) {d:Int} (h:d≤64):mayV (intV n) d=0:=by
 simp only[intV,mayV,List.length_nil]
 rw[if_neg (by simp[oddB,emptyB]),if_neg (by omega),if_pos (by decide+kernel)]
 simp[mayL,mayO]
theorem may_txt {a:List UInt8} (ha:Lib.validD a=true) {d:Int} (h:d≤64):mayV (txtV a) d=0:=by
 simp only[txtV,mayV,List.length_nil]
 rw[if_neg (by simp[oddB]),if_neg (by omega),if_pos (by exact ha)]
 simp[mayL,mayO]
theorem may_lst {l:List Val} {d:Int} (h:d≤64) (hl: ∀v ∈ l,mayV v (d+1)=0):mayV (lstV l) d=0:=by
 simp only[lstV,mayV,List.length_nil]
 rw[if_neg (by simp[oddB,emptyB]),if_neg (by omega),if_pos (by decide+kernel),if_pos (mayL_of hl)]
 simp[mayO]
theorem may_obj' {o:List (ByteArray×Val)} {d:Int} (h:d≤64) (ha:ascO o) (ho: ∀m ∈ o,validB m.1=true∧mayV m.2 (d+1)=0):mayV (objV o) d=0:=by
 simp only[objV,mayV,List.length_nil]
 rw[if_neg (by simp[oddB,emptyB]),if_neg (by omega),if_pos (by decide+kernel),if_pos (by simp[mayL])]
 exact mayO_asc ha ho (fun q hq=>by cases hq)
def Rd.mayIt (d:Int):Rd Val→Prop
 | .ok v _=>mayV v d=0
 | .bad _ _=>True
theorem may_all: ∀(f:Nat),(∀s p d,(valueF f s p d).mayIt d)∧(∀s p d,d≤64→(listF f s p d).mayIt d)∧(∀s p d,d≤64→(objF f s p d).mayIt d)∧
 (∀s p d acc,d≤64→(∀v ∈ acc,mayV v (d+1)=0)→(itemsF f s p d acc).mayIt d)∧
 (∀s p d acc,d≤64→(∀m ∈ acc,validB m.1=true∧mayV m.2 (d+1)=0)→(acc.map (·.1)).Nodup→(membersF f s p d acc).mayIt d)∧
 (∀s p d acc k,d≤64→(∀m ∈ acc,validB m.1=true∧mayV m.2 (d+1)=0)→(acc.map (·.1)).Nodup→hasK k acc=false→validB k=true→(memberF f s p d acc k).mayIt d):=by
 intro f
 induction f with
 |zero=>
  refine⟨fun s p d=> ?_,fun s p d _=> ?_,fun s p d _=> ?_,fun s p d acc _ _=> ?_,fun s p d acc _ _ _=> ?_,fun s p d acc k _ _ _ _ _=> ?_⟩
  · unfold valueF;trivial
  · unfold listF;trivial
  · unfold objF;trivial
  · unfold itemsF;trivial
  · unfold membersF;trivial
  · unfold memberF;trivial
 |succ f ih=>
  obtain⟨iv,il,io,ii,im,ik⟩:=ih
  refine⟨fun s p d=> ?_,fun s p d h=> ?_,fun s p d h=> ?_,fun s p d acc h hi=> ?_,fun s p d acc h hi hn=> ?_,fun s p d acc k h hi hn hk hv=> ?_⟩
  · unfold valueF
    cases hc:s[past s p]? with
    |none=>trivial
    |some c=>
     simp only
     split
     · trivial
     split
     · trivial
     rename_i hd
     have hd':d≤64:=by omega
     split
     · exact il s _ d hd'
     split
     · exact io s _ d hd'
     split
     · cases hu:unqAt s (past s p)with
       |bad e q=>trivial
       |ok a q=>exact may_txt (unqAt_ok hu).1 hd'
     split
     · unfold wordAt
       split
       · exact may_null hd'
       · trivial
     split
     · unfold wordAt
       split
       · exact may_bool true hd'
       · trivial
     split
     · unfold wordAt
       split
       · exact may_bool false hd'
       · trivial
     · cases hu:numberAt s (past s p)with
       |bad e q=>trivial
       |ok n q=>exact may_int n hd'
  · unfold listF
    split
    · exact may_lst h (fun v hv=>by cases hv)
    · exact ii s _ d [] h (fun v hv=>by cases hv)
  · unfold objF
    split
    · exact may_obj' h List.Pairwise.nil (fun v hv=>by cases hv)
    · exact im s _ d [] h (fun v hv=>by cases hv) (by simp)
  · unfold itemsF
    have hv:=iv s p (d+1)
    cases hr:valueF f s p (d+1)with
    |bad e q=>trivial
    |ok v q=>
     rw[hr]at hv
     have e2: ∀x ∈ acc++ [v],mayV x (d+1)=0:=by
      intro x hx
      rcases List.mem_append.1 hx with hx|hx
      · exact hi x hx
      · simp only[List.mem_singleton]at hx;rw[hx];exact hv
     simp only
     split
     · exact ii s _ d _ h e2
     split
     · exact may_lst h e2
     · trivial
  · unfold membersF
    cases hr:unqAt s (past s p)with
    |bad e q=>trivial
    |ok k q=>
     simp only
     split
     · trivial
     rename_i hk
     split
     · exact ik s _ d acc ⟨k.toArray⟩ h hi hn (by simpa using hk) (unqAt_ok hr).1
     · trivial
  · unfold memberF
    have hm:=iv s p (d+1)
    cases hr:valueF f s p (d+1)with
    |bad e q=>trivial
    |ok v q=>
     rw[hr]at hm
     have e2: ∀x ∈ acc++ [(k,v)],validB x.1=true∧mayV x.2 (d+1)=0:=by
      intro x hx
      rcases List.mem_append.1 hx with hx|hx
      · exact hi x hx
      · simp only[List.mem_singleton]at hx;rw[hx];exact⟨hv,hm⟩
     have e3:=nodup_snoc (v:=v) hn hk
     simp only
     split
     · exact im s _ d _ h e2 e3
     split
     · obtain⟨_,s2,s3⟩:=sortO_some e3
       exact may_obj' h s2 (fun m hm=>e2 m (s3.mem_iff.1 hm))
     · trivial
theorem value_may {f:Nat} {s:List UInt8} {p q:Nat} {d:Int} {v:Val} (h:valueF f s p d=.ok v q):mayV v d=0:=by
 have:=(may_all f).1 s p d
 rw[h]at this
 exact this
theorem parse_may {s:List UInt8} {v:Val} {q:Nat} (h:parseL s=.ok v q):mayV v 1=0∧q=s.length∧v.bulk≤6*s.length∧inV v:=by
 unfold parseL at h
 cases hr:valueF (4*s.length+4) s 0 1 with
 |bad e q=>rw[hr]at h;cases h
 |ok v' q'=>
  rw[hr]at h
  simp only at h
  have hw:=(within_all (4*s.length+4)).1 s 0 1 (Nat.zero_le _)
  have hs:=(sized_all (4*s.length+4)).1 s 0 1 (Nat.zero_le _)
  rw[hr]at hw hs
  have h2:=past_le hw.2
  split at h
  · cases h
  · simp only[Rd.ok.injEq]at h
    obtain⟨rfl,rfl⟩:=h
    have h3:=hs.1
    have h4:=hw.2
    exact⟨value_may hr,by omega,by omega,hs.2.2⟩
end Go.Proofs.YtkkbplakgldlpaaGreatDoor

namespace Go.Proofs.YtkkbplakgldlpaaGreatDoor
open Go.RowKit
def Boxd (w:World) (g:Nat) (v:Val) (c:List Value) (w':World):Prop:=
 Below w.heap.size w w'∧w'.heap[g]? =some (.cells c.toArray 27 (0,0))∧Tabs w'∧HoldsV w' w'.heap.size v c
theorem Boxd.step {w w' w'':World} {g:Nat} {v:Val} {c:List Value} (h:Boxd w g v c w') (hb:Below w'.heap.size w' w''):Boxd w g v c w'':=by
 obtain⟨h1,h2,h3,h4⟩:=h
 exact⟨h1.trans (hb.mono h1.size),(hb.block _ (Array.getElem?_eq_some_iff.1 h2).1).trans h2,h3.below hb,HoldsV.more hb.size _ _ (h4.below hb)⟩
theorem Boxd.start {w:World} {v:Val} {c:List Value} (hT:Tabs w) (hV:HoldsV w w.heap.size v c):Boxd w w.heap.size v c (w.alloc (.cells c.toArray 27)):=by
 have hb:Below w.heap.size w (w.alloc (.cells c.toArray 27)):=(Below.refl _ _).alloc (Nat.le_refl _) _
 exact⟨hb,heap_alloc_new _ _,hT.below hb,HoldsV.more hb.size _ _ (hV.below hb)⟩
theorem Boxd.cells {w w':World} {g:Nat} {v:Val} {k:Int} {b:Bool} {n:Int} {t:ByteArray} {x y:Value} (h:Boxd w g v [.int .i64 k,.bool b,.int .i64 n,.string t,x,y] w'):
 w'.cell? ⟨g,0,none⟩=some (.int .i64 k)∧w'.cell? ⟨g,1,none⟩=some (.bool b)∧w'.cell? ⟨g,2,none⟩=some (.int .i64 n)∧w'.cell? ⟨g,3,none⟩=some (.string t)∧w'.cell? ⟨g,4,none⟩=some x∧w'.cell? ⟨g,5,none⟩=some y:=
 box_cells h.2.1
theorem Boxd.tabs {w w':World} {g:Nat} {v:Val} {c:List Value} (h:Boxd w g v c w'):Tabs w':=h.2.2.1
theorem Boxd.below {w w':World} {g:Nat} {v:Val} {c:List Value} (h:Boxd w g v c w'):Below w.heap.size w w':=h.1
end Go.Proofs.YtkkbplakgldlpaaGreatDoor

namespace Go.Proofs.YtkkbplakgldlpaaGreatDoor
open Go Go.RowKit
abbrev zero6:Array Value:= #[.int .i64 0,.bool false,.int .i64 0,.string ⟨#[]⟩,.slice none 0 0,.slice none 0 0]
theorem six_now {B:Nat} {w4:World} {k:Int} {b:Bool} {n:Int} {t:ByteArray} {l:List Val} {o:List (ByteArray×Val)} {cs:List Value} (h:Fresh B w4 (dV (.mk k b n t l o)) cs): ∃la lc oa oc,cs= [.int .i64 k,.bool b,.int .i64 n,.string t,.slice la l.length lc,.slice oa o.length oc]:=by
 have h1:=holdsV_of _ _ h.now
 simp only[HoldsV]at h1
 obtain⟨la,lc,oa,oc,e,_,_⟩:=h1
 exact⟨la,lc,oa,oc,e⟩
theorem vcell {w:World} {g:Nat} {t:TypeId} {a0 a1 a2 a3 a4 a5:Value} (h:Blk w g t #[a0,a1,a2,a3,a4,a5]):
 w.cell? ⟨g,0,none⟩=some a0∧w.cell? ⟨g,1,none⟩=some a1∧w.cell? ⟨g,2,none⟩=some a2∧w.cell? ⟨g,3,none⟩=some a3∧w.cell? ⟨g,4,none⟩=some a4∧w.cell? ⟨g,5,none⟩=some a5:=
 ⟨h.cell 0,h.cell 1,h.cell 2,h.cell 3,h.cell 4,h.cell 5⟩
theorem dP_fresh {B:Nat} {w:World} {key:ByteArray} {v:Val} {cs:List Value} (h:Fresh B w (dV v) cs):Fresh B w (dP (key,v)) (.string key::cs):=fun w'' h1 h2=>⟨[.string key],cs,rfl,⟨rfl,rfl⟩,cs, [],by simp,h w'' h1 h2,rfl⟩
theorem mem_info:(Tryz.prog.info? 63).map (fun i=>(i.zero,i.size,i.bytes))=some (some (.agg #[.string ⟨#[]⟩,.int .i64 0,.bool false,.int .i64 0,.string ⟨#[]⟩,.slice none 0 0,.slice none 0 0]),7,104):=by kernel_rfl
theorem results_cell6 {fn:Func} {t:Tmp} {tmps:Array Value} {W:World} {R:Nat} {a0 a1 a2 a3 a4 a5:Value} (h:fn.results= #[.cell t 27]) (hp:tmps.getD t undef=.pointer (some ⟨R,0,none⟩)) (hx:Blk W R 27 #[a0,a1,a2,a3,a4,a5]):
 (results fn tmps).run Tryz.prog W=.ok (.agg #[a0,a1,a2,a3,a4,a5]) W:=by
 obtain⟨c0,c1,c2,c3,c4,c5⟩:=vcell hx
 clear hx
 have hp':tmps[t]?.getD undef=.pointer (some ⟨R,0,none⟩):=by simpa using hp
 simp[results,h,hp',go_sem,c0,c1,c2,c3,c4,c5]
theorem RowD.slice_n {b:Nat} {t:TypeId} {s n:Nat} {wr:World} {l:List D} {V:Value} (h:RowD b t s wr l V) (hn:l.length=n): ∃a c,V=.slice a n c:=by
 subst hn;exact h.slice
theorem blk_app {w w6:World} {R b:Nat} {t e:TypeId} {sz:Nat} {l:List D} {V:Value} {cs:Array Value} {wr:World} (h:Blk w R t cs) (hg:w.grownBy w6 V.ownBlock) (hr:RowD b e sz wr l V) (hR:R<b):Blk w6 R t cs:=
 h.grown hg fun e=>by have:=(hr.base R e.symm).1;omega
theorem below_app {w w6:World} {B b:Nat} {e:TypeId} {sz:Nat} {l:List D} {V:Value} {w0 wr:World} (h:Below B w0 w) (hg:w.grownBy w6 V.ownBlock) (hr:RowD b e sz wr l V) (hB:B≤b) (hBw:B≤w.heap.size):Below B w0 w6:=
 h.grown hg hBw fun k hk=>Nat.le_trans hB (hr.base k hk).1
theorem reads_seven (w:World) (a0 a1 a2 a3 a4 a5 a6:Value):Reads (w.alloc (.cells #[a0,a1,a2,a3,a4,a5,a6] 63)) (w.heap.size+1) 7 (some ⟨w.heap.size,0,none⟩) 1 [a0,a1,a2,a3,a4,a5,a6]:=reads_one (Blk.new w 63 #[a0,a1,a2,a3,a4,a5,a6])
theorem val_info:(Tryz.prog.info? 27).map (fun i=>(i.zero,i.size,i.bytes))=some (some (.agg #[.int .i64 0,.bool false,.int .i64 0,.string ⟨#[]⟩,.slice none 0 0,.slice none 0 0]),6,88):=by kernel_rfl
theorem reads_six (w:World) (a0 a1 a2 a3 a4 a5:Value):Reads (w.alloc (.cells #[a0,a1,a2,a3,a4,a5] 27)) (w.heap.size+1) 6 (some ⟨w.heap.size,0,none⟩) 1 [a0,a1,a2,a3,a4,a5]:=reads_one (Blk.new w 27 #[a0,a1,a2,a3,a4,a5])
theorem results_cell6_t {fn:Func} {t u:Tmp} {tmps:Array Value} {W:World} {R:Nat} {a0 a1 a2 a3 a4 a5:Value} (h:fn.results= #[.cell t 27,.tmp u]) (hp:tmps.getD t undef=.pointer (some ⟨R,0,none⟩)) (hx:Blk W R 27 #[a0,a1,a2,a3,a4,a5]):
 (results fn tmps).run Tryz.prog W=.ok (.tuple #[.agg #[a0,a1,a2,a3,a4,a5],tmps.getD u undef]) W:=by
 obtain⟨c0,c1,c2,c3,c4,c5⟩:=vcell hx
 clear hx
 have hp':tmps[t]?.getD undef=.pointer (some ⟨R,0,none⟩):=by simpa using hp
 simp[results,h,hp',go_sem,c0,c1,c2,c3,c4,c5]
end Go.Proofs.YtkkbplakgldlpaaGreatDoor

namespace Go.Proofs.YtkkbplakgldlpaaGreatDoor
open Go Go.RowKit
def UPost (R g:Nat) (s:ByteArray) (w:World) (r:Rd Val) (e:Ending) (w':World):Prop:=match r with
 | .ok _ q=>e=.returned (.tuple #[])∧RdTo R g s q w w'
 | .bad c q=>e=faultE c q∧w.grownBy w' (some R)
set_option maxRecDepth 100000 in
set_option maxHeartbeats 4000000 in
theorem word_calls (R g:Nat) (s t:ByteArray) (k:Nat) (v:Val) (w:World) (hs:s.size≤1000000000) (hk:k≤s.size) (ht:t.size≤100) (h:RdB w R g s k):
 Calls Tryz.prog 169 #[.pointer (some ⟨R,0,none⟩),.string t] w (UPost R g s w (wordAt s.data.toList k t.data.toList v)):=by
 have hext:(s.extract k s.size).data.toList=s.data.toList.drop k:=by
  rw[Lib.extract_data]
  exact List.take_of_length_le (by rw[List.length_drop,size_toList];omega)
 have hH:=fun W=>Tryz.strings_HasPrefix (s.extract k s.size) t W
 rw[hext]at hH
 have hB:Lib.hasPrefix (s.data.toList.drop k) t.data.toList=t.data.toList.isPrefixOf (s.data.toList.drop k):=rfl
 rw[hB]at hH
 clear hB hext
 have i0:(0:Int)≤(k:Int):=by omega
 have i1:(k:Int)≤(s.size:Int):=by omega
 obtain⟨c0,c1,_,f1,hR⟩:=h.cells
 have H:=Lib.hid h
 clear h
 unfold wordAt
 cases hp:t.data.toList.isPrefixOf (s.data.toList.drop k)with
 |true=>
  rw[hp]at hH
  rw[if_pos rfl,size_toList]
  have hle:k+t.size≤s.size:=by
   have:=(List.isPrefixOf_iff_prefix.1 hp).length_le
   rw[List.length_drop,size_toList,size_toList]at this;omega
  clear hp
  have HH:=Lib.hid hH
  clear hH
  go_enter Tryz.func169,Tryz.ntmps169
  go_wp2
  go_quiet ((go_at_call 201;exact Calls.quiet_of_same (HH.out _)))
  go_wp2
  go_end0
  exact⟨rfl,((RdTo.refl H.out).drewN _).set _⟩
 |false=>
  rw[hp]at hH
  rw[if_neg (by decide)]
  clear hp
  have hW:=fun W=>wrong_calls (.pointer (some ⟨R,0,none⟩)) 4 k W
  have HH:=Lib.hid hH
  have HW:=Lib.hid hW
  clear hH hW
  go_enter Tryz.func169,Tryz.ntmps169
  go_wp2
  go_quiet ((go_at_call 201;exact Calls.quiet_of_same (HH.out _)))
  go_wp2_with (fail)
  with_reducible refine(HW.out _).mono ?_
  rintro e w1 ⟨rfl,rfl⟩
  exact⟨rfl,rfl,grownBy_drewN (World.grownBy.refl _ _) _⟩
end Go.Proofs.YtkkbplakgldlpaaGreatDoor

namespace Go.Proofs.YtkkbplakgldlpaaGreatDoor
open Go Go.RowKit
def digF (acc:Nat) (l:List UInt8):Nat:=l.foldl (fun a c=>a*10+(c.toNat - 48)) acc
theorem digF_ge: ∀(l:List UInt8) (a:Nat),a≤digF a l
 | [],a=>Nat.le_refl a
 |c::r,a=>by
  have:=digF_ge r (a*10+(c.toNat - 48))
  show a≤digF (a*10+(c.toNat - 48)) r
  omega
theorem uintM_digits: ∀(l:List UInt8) (acc:Nat),(∀c ∈ l,isDig c=true)→Lib.parseUintM 18446744073709551615 acc l=if 18446744073709551615<digF acc l∧l≠ []then .range else .ok (digF acc l)
 | [],acc,_=>by simp[Lib.parseUintM,digF]
 |c::r,acc,h=>by
  have hc:=h c (by simp)
  unfold isDig at hc
  rw[decide_eq_true_iff]at hc
  have ih:=uintM_digits r (acc*10+(c.toNat - 48)) (fun x hx=>h x (by simp[hx]))
  have e:digF acc (c::r)=digF (acc*10+(c.toNat - 48)) r:=rfl
  have hg:=digF_ge r (acc*10+(c.toNat - 48))
  unfold Lib.parseUintM
  rw[if_pos hc,e]
  by_cases h1:1844674407370955162≤acc
  · rw[if_pos h1,if_pos ⟨by omega,by simp⟩]
  · rw[if_neg h1]
    by_cases h2:18446744073709551615<acc*10+(c.toNat - 48)
    · rw[if_pos h2,if_pos ⟨by omega,by simp⟩]
    · rw[if_neg h2,ih]
      by_cases hr:r= []
      · subst hr
        rw[if_neg (by simp)]
        have:digF (acc*10+(c.toNat - 48)) []=acc*10+(c.toNat - 48):=rfl
        rw[if_neg (by rw[this];omega)]
      · by_cases h3:18446744073709551615<digF (acc*10+(c.toNat - 48)) r
        · rw[if_pos ⟨h3,hr⟩,if_pos ⟨h3,by simp⟩]
        · rw[if_neg (fun q=>h3 q.1),if_neg (fun q=>h3 q.1)]
theorem uintB_digits {l:List UInt8} (h: ∀c ∈ l,isDig c=true) (hl:l≠ []):Lib.parseUintB 64 l=if 18446744073709551615<digV l then .range else .ok (digV l):=by
 unfold Lib.parseUintB
 rw[if_neg hl]
 have:=uintM_digits l 0 h
 have e:digF 0 l=digV l:=rfl
 rw[e]at this
 show Lib.parseUintM 18446744073709551615 0 l=_
 rw[this]
 by_cases h3:18446744073709551615<digV l
 · rw[if_pos ⟨h3,hl⟩,if_pos h3]
 · rw[if_neg (fun q=>h3 q.1),if_neg h3]
theorem intB_pos {l:List UInt8} (h: ∀c ∈ l,isDig c=true) (hl:l≠ []):Lib.parseIntB 64 l=if 9223372036854775807<digV l then .range else .ok (digV l:Int):=by
 obtain⟨c,r,rfl⟩: ∃c r,l=c::r:=by cases l with|nil=>exact absurd rfl hl|cons c r=>exact⟨c,r,rfl⟩
 have hc:=h c (by simp)
 unfold isDig at hc
 rw[decide_eq_true_iff]at hc
 unfold Lib.parseIntB
 simp only
 rw[if_neg (show ¬(c.toNat=43∨c.toNat=45)by omega),uintB_digits h hl]
 have hn: ¬(c.toNat=45):=by omega
 by_cases h1:18446744073709551615<digV (c::r)
 · rw[if_pos h1,if_pos (by omega)]
 · rw[if_neg h1]
   by_cases h2:9223372036854775807<digV (c::r)
   · simp only[hn,not_false_eq_true,true_and,false_and,if_false]
     rw[if_pos h2,if_pos (by show 9223372036854775808≤_;omega)]
   · simp only[hn,not_false_eq_true,true_and,false_and,if_false]
     rw[if_neg h2,if_neg (by show ¬(9223372036854775808≤_);omega)]
theorem intB_neg {l:List UInt8} (h: ∀c ∈ l,isDig c=true) (hl:l≠ []):Lib.parseIntB 64 (45::l)=if 9223372036854775808<digV l then .range else .ok (-(digV l:Int)):=by
 unfold Lib.parseIntB
 simp only
 rw[if_pos (by decide),uintB_digits h hl]
 by_cases h1:18446744073709551615<digV l
 · rw[if_pos h1,if_pos (by omega)]
 · rw[if_neg h1]
   have hn:(45:UInt8).toNat=45:=by decide
   by_cases h2:9223372036854775808<digV l
   · simp only[hn,not_true_eq_false,true_and,false_and,if_false]
     rw[if_pos h2,if_pos (by show 9223372036854775808<_;omega)]
   · simp only[hn,not_true_eq_false,true_and,false_and,if_false,if_true]
theorem digits_of (s:List UInt8) (f:Nat): ∀c ∈ (s.drop f).take (digEnd s f - f),isDig c=true:=by
 intro c hc
 obtain⟨i,hi⟩:=List.mem_iff_getElem?.1 hc
 have hlt:i<digEnd s f - f:=by
  by_cases h:i<digEnd s f - f
  · exact h
  · rw[List.getElem?_take_eq_none (by omega)]at hi;cases hi
 rw[List.getElem?_take_of_lt hlt,List.getElem?_drop]at hi
 exact digEnd_dig s f (f+i) c (by omega) (by omega) hi
theorem digV_first {s:List UInt8} {f e:Nat} {x:UInt8} (hx:s[f]? =some x) (hz: ¬x=48) (hf:f<digEnd s f) (he:digEnd s f=e):digV ((s.drop f).take (e - f))≠0:=by
 subst he
 have hd:=digEnd_dig s f f x (Nat.le_refl _) hf hx
 unfold isDig at hd
 rw[decide_eq_true_iff]at hd
 have hx48:x.toNat≠48:=fun q=>hz (UInt8.toNat_inj.1 q)
 obtain⟨n,hn⟩: ∃n,digEnd s f - f=n+1:=⟨digEnd s f - f - 1,by omega⟩
 rw[hn,drop_at hx,List.take_succ_cons]
 have h1:=digF_ge ((s.drop (f+1)).take n) (0*10+(x.toNat - 48))
 have e:digV (x::(s.drop (f+1)).take n)=digF (0*10+(x.toNat - 48)) ((s.drop (f+1)).take n):=rfl
 rw[e]
 omega
end Go.Proofs.YtkkbplakgldlpaaGreatDoor
