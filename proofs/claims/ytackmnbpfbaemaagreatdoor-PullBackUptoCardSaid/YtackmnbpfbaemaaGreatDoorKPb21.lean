/- Parts, joined: The object of a patch's op, the list of a patch: they may be. Plain. No condition. What the reader reads may be. Plain. No condition. A row of members sorted by their keys, by slices.SortFunc. Condition: no key twice. -/
import Derived.Test.YtackmnbpfbaemaaGreatDoorProg
import Derived.Test.YtackmnbpfbaemaaGreatDoorZShelf
import Derived.Test.YtackmnbpfbaemaaGreatDoorZShelfS
import Derived.Shelf.SlSortCmp.WholeK
import Derived.WalkKit
import Derived.Test.YtackmnbpfbaemaaGreatDoorKPb10
import Derived.Test.YtackmnbpfbaemaaGreatDoorKPb17
import Derived.Test.YtackmnbpfbaemaaGreatDoorKPb19
namespace Go.Proofs.YtackmnbpfbaemaaGreatDoor
open Go.RowKit
abbrev nil0:ByteArray:=⟨#[]⟩
abbrev kKey:ByteArray:=⟨#[107,101,121]⟩
abbrev kOp:ByteArray:=⟨#[111,112]⟩
abbrev kVal:ByteArray:=⟨#[118,97,108,117,101]⟩
abbrev sPut:ByteArray:=⟨#[112,117,116]⟩
abbrev sDel:ByteArray:=⟨#[100,101,108]⟩
abbrev sClear:ByteArray:=⟨#[99,108,101,97,114]⟩
def tv (s:ByteArray):Val:= .mk 4 false 0 s [] []
def iv (n:Int):Val:= .mk 3 false n nil0 [] []
def lv (l:List Val):Val:= .mk 5 false 0 nil0 l []
def ov (o:List (ByteArray×Val)):Val:= .mk 6 false 0 nil0 [] o
def objQ (p:POp):Val:=ov (if p.k=1 then [(kKey,tv p.key),(kOp,tv sPut),(kVal,p.v)]else if p.k=2 then [(kKey,tv p.key),(kOp,tv sDel)]else [(kOp,tv sClear)])
def listQ (l:List POp):Val:=lv (l.map objQ)
theorem nil0_valid:validB nil0=true:=by decide
theorem odd_tv (s:ByteArray):oddB 4 false 0 s 0 0=false:=by simp[oddB]
theorem odd_iv (n:Int):oddB 3 false n nil0 0 0=false:=by simp[oddB,Lib.toList_data]
theorem odd_lv (n:Nat):oddB 5 false 0 nil0 n 0=false:=by simp[oddB,Lib.toList_data]
theorem odd_ov (n:Nat):oddB 6 false 0 nil0 0 n=false:=by simp[oddB,Lib.toList_data]
theorem may_mk {k:Int} {b:Bool} {n:Int} {t:ByteArray} {l:List Val} {o:List (ByteArray×Val)} {d:Int} (h1:oddB k b n t l.length o.length=false) (h2:d≤64) (h3:validB t=true) (h4:mayL l (d+1)=0) (h5:mayO o none (d+1)=0):mayV (.mk k b n t l o) d=0:=by
 simp only[mayV]
 rw[if_neg (by rw[h1];simp),if_neg (by omega),if_pos h3,if_pos h4]
 exact h5
theorem may_tv {s:ByteArray} {d:Int} (h:validB s=true) (hd:d≤64):mayV (tv s) d=0:=may_mk (odd_tv s) hd h (by simp[mayL]) (by simp[mayO])
theorem may_iv {n d:Int} (hd:d≤64):mayV (iv n) d=0:=may_mk (odd_iv n) hd nil0_valid (by simp[mayL]) (by simp[mayO])
theorem may_lv {l:List Val} {d:Int} (hd:d≤64) (h:mayL l (d+1)=0):mayV (lv l) d=0:=may_mk (odd_lv _) hd nil0_valid h (by simp[mayO])
theorem may_ov {o:List (ByteArray×Val)} {d:Int} (hd:d≤64) (h:mayO o none (d+1)=0):mayV (ov o) d=0:=may_mk (odd_ov _) hd nil0_valid (by simp[mayL]) h
theorem mayO_cons {key:ByteArray} {v:Val} {r:List (ByteArray×Val)} {d:Int} (hk:validB key=true) (hv:mayV v d=0) {last:Option ByteArray} (hl: ∀q,last=some q→leB key q=false) (hr:mayO r (some key) d=0):mayO ((key,v)::r) last d=0:=by
 have h1:mayP (key,v) last d=0:=by
  simp only[mayP]
  rw[if_pos hk]
  cases last with
  |none=>exact hv
  |some q=>
   simp only
   rw[if_neg (by rw[hl q rfl];simp)]
   exact hv
 simp only[mayO]
 rw[if_pos h1]
 exact hr
def okQ (p:POp):Prop:=(p.k=1∧keyB p.key=true∧fitsV p.v=0)∨(p.k=2∧keyB p.key=true)∨p.k=3
theorem mayOps_all: ∀{l:List POp} {prev:Option POp},mayOps prev l=0→ ∀p ∈ l,okQ p
 |p::r,prev,h,x,hx=>by
  simp only[mayOps]at h
  by_cases h1:(strangeB p||prev.any fun q=> !followsB q p)=true
  · rw[if_pos h1]at h;cases h
  rw[if_neg h1]at h
  by_cases h3:p.k=3
  · rw[if_pos h3]at h
    rcases List.mem_cons.1 hx with rfl|hx
    · exact .inr (.inr h3)
    · exact mayOps_all h x hx
  rw[if_neg h3]at h
  by_cases hk:keyB p.key=false
  · rw[if_pos hk]at h;cases h
  rw[if_neg hk]at h
  have hk':keyB p.key=true:=by simpa using hk
  by_cases h2:p.k=2
  · rw[if_pos h2]at h
    rcases List.mem_cons.1 hx with rfl|hx
    · exact .inr (.inl ⟨h2,hk'⟩)
    · exact mayOps_all h x hx
  rw[if_neg h2]at h
  by_cases hf:fitsV p.v=0
  · rw[if_pos hf]at h
    rcases List.mem_cons.1 hx with rfl|hx
    · refine .inl ⟨?_,hk',hf⟩
      have h1':strangeB x=false:=by
       cases e:strangeB x with
       |false=>rfl
       |true=>rw[e]at h1;simp at h1
      unfold strangeB at h1'
      by_cases h11:x.k=1
      · exact h11
      · rw[if_neg h11,if_neg h2,if_neg h3]at h1';cases h1'
    · exact mayOps_all h x hx
  · rw[if_neg hf]at h
    exact absurd h hf
theorem keyB_valid {k:ByteArray} (h:keyB k=true):validB k=true:=by
 unfold keyB at h
 simp only[Bool.and_eq_true]at h
 exact h.2.2
theorem fits_parts {v:Val} (h:fitsV v=0):mayV v 1=0∧deepV v≤16∧(textV v).length≤1024:=by
 unfold fitsV at h
 by_cases h1:mayV v 1=0
 · rw[if_pos h1]at h
   by_cases h2:16<deepV v
   · rw[if_pos h2]at h;cases h
   rw[if_neg h2]at h
   by_cases h3:1024<(textV v).length
   · rw[if_pos h3]at h;cases h
   exact⟨h1,by omega,by omega⟩
 · rw[if_neg h1]at h
   exact absurd h h1
theorem may_objQ {p:POp} {d:Int} (h:okQ p) (hd:d≤40):mayV (objQ p) d=0:=by
 have v1:validB kKey=true:=by decide
 have v2:validB kOp=true:=by decide
 have v3:validB kVal=true:=by decide
 have w1:validB sPut=true:=by decide
 have w2:validB sDel=true:=by decide
 have w3:validB sClear=true:=by decide
 have l1:leB kOp kKey=false:=by decide+kernel
 have l2:leB kVal kOp=false:=by decide+kernel
 unfold objQ
 refine may_ov (by omega) ?_
 rcases h with⟨h,hk,hf⟩|⟨h,hk⟩|h
 · rw[if_pos h]
   obtain⟨f1,f2,_⟩:=fits_parts hf
   exact mayO_cons v1 (may_tv (keyB_valid hk) (by omega)) (fun _ e=>by cases e) (mayO_cons v2 (may_tv w1 (by omega)) (fun q e=>by cases e;exact l1) (mayO_cons v3 (mayV_deeper p.v _ 1 f1 (by omega)) (fun q e=>by cases e;exact l2) (by simp[mayO])))
 · rw[if_neg (by omega),if_pos h]
   exact mayO_cons v1 (may_tv (keyB_valid hk) (by omega)) (fun _ e=>by cases e) (mayO_cons v2 (may_tv w2 (by omega)) (fun q e=>by cases e;exact l1) (by simp[mayO]))
 · rw[if_neg (by omega),if_neg (by omega)]
   exact mayO_cons v2 (may_tv w3 (by omega)) (fun _ e=>by cases e) (by simp[mayO])
theorem mayL_ofQ {l:List Val} {d:Int} (h: ∀v ∈ l,mayV v d=0):mayL l d=0:=by
 induction l with
 |nil=>simp[mayL]
 |cons v r ih=>
  simp only[mayL]
  rw[if_pos (h v (by simp))]
  exact ih fun x hx=>h x (by simp[hx])
theorem may_listQ {l:List POp} {d:Int} (h: ∀p ∈ l,okQ p) (hd:d≤39):mayV (listQ l) d=0:=by
 refine may_lv (by omega) (mayL_ofQ fun v hv=> ?_)
 obtain⟨p,hp,rfl⟩:=List.mem_map.1 hv
 exact may_objQ (h p hp) (by omega)
theorem in_objQ {p:POp} (h:inV p.v):inV (objQ p):=by
 unfold objQ ov
 simp only[inV]
 refine⟨by omega,by simp[inL], ?_⟩
 have ht: ∀s,inV (tv s):=fun s=>by simp only[tv,inV,inL,inO];exact⟨by omega,trivial,trivial⟩
 by_cases h1:p.k=1
 · rw[if_pos h1];exact⟨ht p.key,ht sPut,h,trivial⟩
 · rw[if_neg h1]
   by_cases h2:p.k=2
   · rw[if_pos h2];exact⟨ht p.key,ht sDel,trivial⟩
   · rw[if_neg h2];exact⟨ht sClear,trivial⟩
theorem in_listQ {l:List POp} (h:inQ l):inV (listQ l):=by
 unfold listQ lv
 simp only[inV]
 refine⟨by omega, ?_,by simp[inO]⟩
 induction l with
 |nil=>simp[inL]
 |cons p r ih=>
  simp only[List.map_cons,inL]
  exact⟨in_objQ (h p (by simp)),ih fun x hx=>h x (by simp[hx])⟩
theorem bulk_objQ (p:POp):(objQ p).bulk≤60+p.key.size+p.v.bulk:=by
 have e1:(⟨#[]⟩:ByteArray).size=0:=rfl
 have e2:kKey.size=3:=rfl
 have e3:kOp.size=2:=rfl
 have e4:kVal.size=5:=rfl
 have e5:sPut.size=3:=rfl
 have e6:sDel.size=3:=rfl
 have e7:sClear.size=5:=rfl
 unfold objQ ov
 split
 · simp only[Val.bulk,bulkL,bulkO,bulkP,tv,e1,e2,e3,e4,e5];omega
 · split
   · simp only[Val.bulk,bulkL,bulkO,bulkP,tv,e1,e2,e3,e6];omega
   · simp only[Val.bulk,bulkL,bulkO,bulkP,tv,e1,e3,e7];omega
theorem bulk_listQ (l:List POp):(listQ l).bulk≤6+60*l.length+bulkQ l:=by
 have e1:(⟨#[]⟩:ByteArray).size=0:=rfl
 have h:bulkL (l.map objQ)≤60*l.length+bulkQ l:=by
  induction l with
  |nil=>simp[bulkL]
  |cons p r ih=>
   have:=bulk_objQ p
   simp only[List.map_cons,bulkL,bulkQ,List.length_cons]
   omega
 unfold listQ lv
 simp only[Val.bulk,bulkO,e1]
 omega
end Go.Proofs.YtackmnbpfbaemaaGreatDoor

namespace Go.Proofs.YtackmnbpfbaemaaGreatDoor
open Go.RowKit
theorem le_of_lt {a b:ByteArray} (h:ltB b a=true):leB a b=false:=by
 unfold leB
 have h1:=ltB_asym h
 unfold ltB at h1
 rw[h1,Bool.false_or]
 cases e:(a.toList==b.toList)with
 |false=>rfl
 |true=>
  have:a=b:=toList_inj (by simpa using e)
  subst this
  rw[ltB_irrefl]at h;cases h
theorem mayO_asc: ∀{l:List (ByteArray×Val)} {last:Option ByteArray} {d:Int},ascO l→(∀m ∈ l,validB m.1=true∧mayV m.2 d=0)→(∀q,last=some q→ ∀m ∈ l,ltB q m.1=true)→mayO l last d=0
 | [],_,_,_,_,_=>by simp[mayO]
 |(k,v)::r,last,d,ha,hm,hq=>by
  obtain⟨h1,h2⟩:=List.pairwise_cons.1 ha
  obtain⟨m1,m2⟩:=hm (k,v) (by simp)
  have hP:mayP (k,v) last d=0:=by
   simp only[mayP]
   rw[if_pos m1]
   cases last with
   |none=>exact m2
   |some q=>
    have:=le_of_lt (hq q rfl (k,v) (by simp))
    simp only at this ⊢
    rw[this,if_neg (by decide)]
    exact m2
  simp only[mayO]
  rw[if_pos hP]
  refine mayO_asc h2 (fun m hm'=>hm m (by simp[hm'])) (fun q hq' m hm'=> ?_)
  obtain rfl:=Option.some.inj hq'
  exact h1 m hm'
theorem mayL_of: ∀{l:List Val} {d:Int},(∀v ∈ l,mayV v d=0)→mayL l d=0
 | [],_,_=>by simp[mayL]
 |v::r,d,h=>by
  simp only[mayL]
  rw[if_pos (h v (by simp))]
  exact mayL_of fun x hx=>h x (by simp[hx])
theorem hasK_iff {k:ByteArray} {l:List (ByteArray×Val)}:hasK k l=true ↔ k ∈ l.map (·.1):=by
 unfold hasK
 simp[List.any_eq_true]
theorem sortO_some {l:List (ByteArray×Val)} (h:(l.map (·.1)).Nodup):objAll l []=some (sortO l)∧ascO (sortO l)∧(sortO l).Perm l:=by
 unfold sortO
 cases e:objAll l []with
 |none=>exact absurd (by rw[List.append_nil];exact h) (objAll_none e)
 |some o=>
  obtain⟨h1,h2⟩:=objAll_some e List.Pairwise.nil
  rw[List.append_nil]at h2
  exact⟨rfl,h1,h2⟩
theorem nodup_snoc {l:List (ByteArray×Val)} {k:ByteArray} {v:Val} (h:(l.map (·.1)).Nodup) (hk:hasK k l=false):((l++ [(k,v)]).map (·.1)).Nodup:=by
 rw[List.map_append,List.nodup_append]
 refine⟨h,by simp,fun a ha b hb=> ?_⟩
 simp only[List.map_cons,List.map_nil,List.mem_singleton]at hb
 subst hb
 intro e
 subst e
 rw[hasK_iff.2 ha]at hk;cases hk
theorem may_null {d:Int} (h:d≤64):mayV nullV d=0:=by
 simp only[nullV,mayV,List.length_nil]
 rw[if_neg (by decide+kernel),if_neg (by omega),if_pos (by decide+kernel)]
 simp[mayL,mayO]
theorem may_bool (b:Bool) {d:Int} (h:d≤64):mayV (boolV b) d=0:=by
 simp only[boolV,mayV,List.length_nil]
 rw[if_neg (by cases b<;>decide+kernel),if_neg (by omega),if_pos (by decide+kernel)]
 simp[mayL,mayO]
theorem may_int (n:Int) {d:Int} (h:d≤64):mayV (intV n) d=0:=by
 simp only[intV,mayV,List.length_nil]
 rw[if_neg (by simp[oddB,emptyB]),if_neg (by omega),if_pos (by decide+kernel)]
 simp[mayL,mayO]
theorem may_txt {a:List UInt8} (ha:Lib.validD a=true) {d:Int} (h:d≤64):mayV (txtV a) d=0:=by
 simp only[txtV,mayV,List.length_nil]
 rw[if_neg (by simp[oddB]),if_neg (by omega),if_pos (by exact ha)]
 simp[mayL,mayO]
theorem may_lst {l:List Val} {d:Int} (h:d≤64) (hl: ∀v ∈ l,mayV v (d+1)=0):mayV (lstV l) d=0:=by
 simp only[lstV,mayV,List.length_nil]
 rw[if_neg (by simp[oddB,emptyB]),if_neg (by omega),if_pos (by decide+kernel),if_pos (mayL_of hl)]
 simp[mayO]
theorem may_obj' {o:List (ByteArray×Val)} {d:Int} (h:d≤64) (ha:ascO o) (ho: ∀m ∈ o,validB m.1=true∧mayV m.2 (d+1)=0):mayV (objV o) d=0:=by
 simp only[objV,mayV,List.length_nil]
 rw[if_neg (by simp[oddB,emptyB]),if_neg (by omega),if_pos (by decide+kernel),if_pos (by simp[mayL])]
 exact mayO_asc ha ho (fun q hq=>by cases hq)
def Rd.mayIt (d:Int):Rd Val→Prop
 | .ok v _=>mayV v d=0
 | .bad _ _=>True
theorem may_all: ∀(f:Nat),(∀s p d,(valueF f s p d).mayIt d)∧(∀s p d,d≤64→(listF f s p d).mayIt d)∧(∀s p d,d≤64→(objF f s p d).mayIt d)∧
 (∀s p d acc,d≤64→(∀v ∈ acc,mayV v (d+1)=0)→(itemsF f s p d acc).mayIt d)∧
 (∀s p d acc,d≤64→(∀m ∈ acc,validB m.1=true∧mayV m.2 (d+1)=0)→(acc.map (·.1)).Nodup→(membersF f s p d acc).mayIt d)∧
 (∀s p d acc k,d≤64→(∀m ∈ acc,validB m.1=true∧mayV m.2 (d+1)=0)→(acc.map (·.1)).Nodup→hasK k acc=false→validB k=true→(memberF f s p d acc k).mayIt d):=by
 intro f
 induction f with
 |zero=>
  refine⟨fun s p d=> ?_,fun s p d _=> ?_,fun s p d _=> ?_,fun s p d acc _ _=> ?_,fun s p d acc _ _ _=> ?_,fun s p d acc k _ _ _ _ _=> ?_⟩
  · unfold valueF;trivial
  · unfold listF;trivial
  · unfold objF;trivial
  · unfold itemsF;trivial
  · unfold membersF;trivial
  · unfold memberF;trivial
 |succ f ih=>
  obtain⟨iv,il,io,ii,im,ik⟩:=ih
  refine⟨fun s p d=> ?_,fun s p d h=> ?_,fun s p d h=> ?_,fun s p d acc h hi=> ?_,fun s p d acc h hi hn=> ?_,fun s p d acc k h hi hn hk hv=> ?_⟩
  · unfold valueF
    cases hc:s[past s p]? with
    |none=>trivial
    |some c=>
     simp only
     split
     · trivial
     split
     · trivial
     rename_i hd
     have hd':d≤64:=by omega
     split
     · exact il s _ d hd'
     split
     · exact io s _ d hd'
     split
     · cases hu:unqAt s (past s p)with
       |bad e q=>trivial
       |ok a q=>exact may_txt (unqAt_ok hu).1 hd'
     split
     · unfold wordAt
       split
       · exact may_null hd'
       · trivial
     split
     · unfold wordAt
       split
       · exact may_bool true hd'
       · trivial
     split
     · unfold wordAt
       split
       · exact may_bool false hd'
       · trivial
     · cases hu:numberAt s (past s p)with
       |bad e q=>trivial
       |ok n q=>exact may_int n hd'
  · unfold listF
    split
    · exact may_lst h (fun v hv=>by cases hv)
    · exact ii s _ d [] h (fun v hv=>by cases hv)
  · unfold objF
    split
    · exact may_obj' h List.Pairwise.nil (fun v hv=>by cases hv)
    · exact im s _ d [] h (fun v hv=>by cases hv) (by simp)
  · unfold itemsF
    have hv:=iv s p (d+1)
    cases hr:valueF f s p (d+1)with
    |bad e q=>trivial
    |ok v q=>
     rw[hr]at hv
     have e2: ∀x ∈ acc++ [v],mayV x (d+1)=0:=by
      intro x hx
      rcases List.mem_append.1 hx with hx|hx
      · exact hi x hx
      · simp only[List.mem_singleton]at hx;rw[hx];exact hv
     simp only
     split
     · exact ii s _ d _ h e2
     split
     · exact may_lst h e2
     · trivial
  · unfold membersF
    cases hr:unqAt s (past s p)with
    |bad e q=>trivial
    |ok k q=>
     simp only
     split
     · trivial
     rename_i hk
     split
     · exact ik s _ d acc ⟨k.toArray⟩ h hi hn (by simpa using hk) (unqAt_ok hr).1
     · trivial
  · unfold memberF
    have hm:=iv s p (d+1)
    cases hr:valueF f s p (d+1)with
    |bad e q=>trivial
    |ok v q=>
     rw[hr]at hm
     have e2: ∀x ∈ acc++ [(k,v)],validB x.1=true∧mayV x.2 (d+1)=0:=by
      intro x hx
      rcases List.mem_append.1 hx with hx|hx
      · exact hi x hx
      · simp only[List.mem_singleton]at hx;rw[hx];exact⟨hv,hm⟩
     have e3:=nodup_snoc (v:=v) hn hk
     simp only
     split
     · exact im s _ d _ h e2 e3
     split
     · obtain⟨_,s2,s3⟩:=sortO_some e3
       exact may_obj' h s2 (fun m hm=>e2 m (s3.mem_iff.1 hm))
     · trivial
theorem value_may {f:Nat} {s:List UInt8} {p q:Nat} {d:Int} {v:Val} (h:valueF f s p d= .ok v q):mayV v d=0:=by
 have:=(may_all f).1 s p d
 rw[h]at this
 exact this
theorem parse_may {s:List UInt8} {v:Val} {q:Nat} (h:parseL s= .ok v q):mayV v 1=0∧q=s.length∧v.bulk≤6*s.length∧inV v:=by
 unfold parseL at h
 cases hr:valueF (4*s.length+4) s 0 1 with
 |bad e q=>rw[hr]at h;cases h
 |ok v' q'=>
  rw[hr]at h
  simp only at h
  have hw:=(within_all (4*s.length+4)).1 s 0 1 (Nat.zero_le _)
  have hs:=(sized_all (4*s.length+4)).1 s 0 1 (Nat.zero_le _)
  rw[hr]at hw hs
  have h2:=past_le hw.2
  split at h
  · cases h
  · simp only[Rd.ok.injEq]at h
    obtain⟨rfl,rfl⟩:=h
    have h3:=hs.1
    have h4:=hw.2
    exact⟨value_may hr,by omega,by omega,hs.2.2⟩
end Go.Proofs.YtackmnbpfbaemaaGreatDoor

namespace Go.Proofs.YtackmnbpfbaemaaGreatDoor
open Go Go.RowKit
theorem cmp_neg_iff: ∀a b:List UInt8,Lib.compareBytes a b<0 ↔ Op.bytesLess a b=true
 | [], []=>by decide
 | [],_::_=>by simp[Lib.compareBytes,Op.bytesLess]
 |_::_, []=>by simp[Lib.compareBytes,Op.bytesLess]
 |a::x,b::y=>by
  have ih:=cmp_neg_iff x y
  have e1:Lib.compareBytes (a::x) (b::y)=if a<b then -1 else if b<a then 1 else Lib.compareBytes x y:=rfl
  have e2:Op.bytesLess (a::x) (b::y)=(decide (a<b)||(a==b&&Op.bytesLess x y)):=rfl
  rw[e1,e2]
  by_cases h:a<b
  · rw[if_pos h];simp[h]
  · rw[if_neg h]
    by_cases h':b<a
    · rw[if_pos h']
      have hne:(a==b)=false:=by rw[beq_eq_false_iff_ne];rintro rfl;exact absurd h' h
      simp[h,hne]
    · rw[if_neg h',ih]
      have hab:a=b:=UInt8.toNat_inj.1 (by rw[UInt8.lt_iff_toNat_lt]at h h';omega)
      subst hab
      simp[h]
theorem cmp_neg (a b:List UInt8):decide (Lib.compareBytes a b<0)=Op.bytesLess a b:=by
 rw[Bool.eq_iff_iff,decide_eq_true_iff];exact cmp_neg_iff a b
structure MC where
 key:ByteArray
 val:Val
 cs:List Value
 len:cs.length=6
 one: ∀v ∈ cs,v.oneCell'=true
instance:Inhabited MC:=⟨⟨emptyB,nullV, [.int .i64 0, .int .i64 0, .int .i64 0, .int .i64 0, .int .i64 0, .int .i64 0],rfl,by simp[Value.oneCell']⟩⟩
def MC.enc (x:MC):List Value:= .string x.key::x.cs
def MC.pair (x:MC):ByteArray×Val:=(x.key,x.val)
def cfM (x y:MC):Int:=Lib.compareBytes x.key.data.toList y.key.data.toList
theorem ltMC (x y:MC):ltOf cfM x y=ltB x.key y.key:=by
 unfold ltOf cfM ltB
 rw[cmp_neg,Lib.toList_data,Lib.toList_data]
theorem swoMC:Sort.SWO (ltOf cfM) where
 irrefl x:=by rw[ltMC];exact ltB_irrefl _
 trans x y z:=by simp only[ltMC];exact ltB_trans
 ntrans x y z:=by
  simp only[ltMC]
  intro h1 h2
  cases h3:ltB x.key z.key with
  |false=>rfl
  |true=>
   exfalso
   rcases ltB_tri y.key x.key with h|h|h
   · have:=ltB_trans h h3;rw[h2]at this;cases this
   · rw[←h]at h3;rw[h2]at h3;cases h3
   · rw[h1]at h;cases h
theorem encMC_len (x:MC):x.enc.length=7:=by simp[MC.enc,x.len]
theorem encMC_one (x:MC): ∀v ∈ x.enc,v.oneCell'=true:=by
 intro v hv
 rcases List.mem_cons.1 hv with rfl|hv
 · rfl
 · exact x.one v hv
theorem six_list {l:List Value} (h:l.length=6): ∃a b c d e f,l= [a,b,c,d,e,f]:=by
 match l,h with
 | [a,b,c,d,e,f],_=>exact⟨a,b,c,d,e,f,rfl⟩
set_option maxRecDepth 100000 in
set_option maxHeartbeats 2000000 in
theorem closeM (x y:MC) (W:World):Calls Tryz.prog 205 #[.agg x.enc.toArray, .agg y.enc.toArray] W fun e w'=>e= .returned (.int .i64 (cfM x y))∧ ∃q os,w'=Sort.grow (W.drewN q) os:=by
 obtain⟨kx,vx,cx,lx,ox⟩:=x
 obtain⟨ky,vy,cy,ly,oy⟩:=y
 obtain⟨a0,a1,a2,a3,a4,a5,rfl⟩:=six_list lx
 obtain⟨b0,b1,b2,b3,b4,b5,rfl⟩:=six_list ly
 have hC:=fun W=>Tryz.strings_Compare kx ky W
 have hA:=Sort.alloc_eq_grow
 simp only[MC.enc,cfM]
 generalize Lib.compareBytes kx.data.toList ky.data.toList=r at hC ⊢
 have n0:=ox a0 (by simp)
 have n1:=ox a1 (by simp)
 have n2:=ox a2 (by simp)
 have n3:=ox a3 (by simp)
 have n4:=ox a4 (by simp)
 have n5:=ox a5 (by simp)
 have m0:=oy b0 (by simp)
 have m1:=oy b1 (by simp)
 have m2:=oy b2 (by simp)
 have m3:=oy b3 (by simp)
 have m4:=oy b4 (by simp)
 have m5:=oy b5 (by simp)
 have HC:=Lib.hid hC
 have HA:=Lib.hid hA
 clear hC hA
 go_enter Tryz.func205,Tryz.ntmps205
 go_wp2_with (fail)
 with_reducible refine(HC.out _).mono ?_
 rintro e w2 ⟨rfl,rfl⟩
 go_wp2
 go_ret
 refine⟨rfl,0, #[.cells #[.string kx,a0,a1,a2,a3,a4,a5] 63, .cells #[.string ky,b0,b1,b2,b3,b4,b5] 63], ?_⟩
 rw[HA.out,HA.out,Sort.grow_grow]
 rfl
theorem flat_at (k:Nat) (hk:0<k): ∀(l:List MC) (t:Nat),(∀x ∈ l,x.enc.length=k)→(l.flatMap MC.enc)[t]? =(l[t / k]?).bind fun x=>x.enc[t % k]?
 | [],t,_=>by simp
 |x::r,t,h=>by
  have hx:=h x (by simp)
  rw[List.flatMap_cons]
  by_cases ht:t<k
  · rw[List.getElem?_append_left (by omega),Nat.div_eq_of_lt ht,Nat.mod_eq_of_lt ht];simp
  · rw[List.getElem?_append_right (by omega),hx,flat_at k hk r (t - k) (fun y hy=>h y (by simp[hy]))]
    have h1:t / k=(t - k) / k+1:=by rw[Nat.div_eq_sub_div hk (by omega)]
    have h2:t % k=(t - k) % k:=Nat.mod_eq_sub_mod (by omega)
    rw[h1,h2,List.getElem?_cons_succ]
theorem flatMC_len: ∀l:List MC,(l.flatMap MC.enc).length=l.length*7
 | []=>rfl
 |x::r=>by rw[List.flatMap_cons,List.length_append,flatMC_len r,encMC_len,List.length_cons];omega
theorem flatK_eq (l:List MC):Sort.flatK MC.enc 7 l.toArray=(l.flatMap MC.enc).toArray:=by
 apply Array.ext
 · rw[Sort.size_flatK,List.size_toArray,List.size_toArray,flatMC_len]
 · intro t h1 h2
   rw[Sort.size_flatK,List.size_toArray]at h1
   have e1:=Sort.get_flatK MC.enc 7 l.toArray t (by simpa using h1)
   have e2:=flat_at 7 (by decide) l t (fun x _=>encMC_len x)
   have hd:t / 7<l.length:=by omega
   have hm:t % 7<(l[t / 7]).enc.length:=by rw[encMC_len];omega
   rw[List.getElem?_eq_getElem hd,Option.bind_some,List.getElem?_eq_getElem hm]at e2
   have e3:(l.flatMap MC.enc)[t]'(by simpa using h2)=(l[t / 7]).enc[t % 7]:=by
    rw[List.getElem?_eq_getElem (by simpa using h2)]at e2;exact Option.some.inj e2
   rw[getElem!_pos _ t (by rw[Sort.size_flatK];simpa using h1)]at e1
   rw[e1,List.getElem_toArray,e3]
   have e4:(l.toArray)[t / 7]! =l[t / 7]:=by rw[getElem!_pos _ _ (by simpa using hd)];simp
   rw[e4,getElem!_pos (l[t / 7]).enc (t % 7) hm]
theorem cells_of {F:World→Prop} {B:Nat}: ∀(acc:List (ByteArray×Val)) (ns:List Value),(∃w,F w)→(∀w'',F w''→HoldsA w'' B (dO acc) ns)→
 ∃d:List MC,d.map MC.pair=acc∧ns=d.flatMap MC.enc∧ ∀w'',F w''→ ∀x ∈ d,Holds w'' B (dP x.pair) x.enc
 | [],ns,⟨w,hw⟩,h=>⟨[],rfl,h w hw,by simp⟩
 |m::r,ns,⟨w,hw⟩,h=>by
  have h0:=h w hw
  simp only[dO,HoldsA]at h0
  obtain⟨c1,c2,rfl,h1,h2⟩:=h0
  have l1:=h1.len
  rw[dP_cells]at l1
  have h1':=h1
  obtain⟨k,v⟩:=m
  simp only[dP,Holds,HoldsA]at h1'
  obtain⟨e1,e2,rfl,⟨rfl,_⟩,e3,e4,rfl,hV,rfl⟩:=h1'
  rw[List.append_nil]at*
  have l6:e3.length=6:=by have:=l1.1;simp at this;omega
  have key: ∀w'',F w''→Holds w'' B (dP (k,v)) (.string k::e3)∧HoldsA w'' B (dO r) c2:=by
   intro w'' hw''
   have h3:=h w'' hw''
   simp only[dO,HoldsA]at h3
   obtain⟨f1,f2,e,g1,g2⟩:=h3
   have l2:=g1.len.1
   rw[dP_cells]at l2
   obtain⟨rfl,rfl⟩:=List.append_inj e (by rw[l2];simpa using l6)
   exact⟨g1,g2⟩
  obtain⟨d,d1,d2,d3⟩:=cells_of r c2 ⟨w,hw⟩ (fun w'' hw''=>(key w'' hw'').2)
  refine⟨⟨k,v,e3,l6,fun u hu=>l1.2 u (by simp[hu])⟩::d,by simp[MC.pair,d1],by simp[MC.enc,d2],fun w'' hw'' x hx=> ?_⟩
  rcases List.mem_cons.1 hx with rfl|hx
  · exact(key w'' hw'').1
  · exact d3 w'' hw'' x hx
theorem holds_of_cells {w:World} {B:Nat}: ∀(d:List MC),(∀x ∈ d,Holds w B (dP x.pair) x.enc)→HoldsA w B (dO (d.map MC.pair)) (d.flatMap MC.enc)
 | [],_=>rfl
 |x::r,h=>by
  simp only[List.map_cons,dO,List.flatMap_cons,HoldsA]
  exact⟨x.enc,_,rfl,h x (by simp),holds_of_cells r (fun y hy=>h y (by simp[hy]))⟩
theorem sorted_pairs {d d':List MC} (hp:d'.Perm d) (hn:((d.map MC.pair).map (·.1)).Nodup) (hs: ∀i j,(hij:i<j)→(h:j<d'.length)→ltB (d'[j]).key (d'[i]'(by omega)).key=false):d'.map MC.pair=sortO (d.map MC.pair):=by
 obtain⟨_,s2,s3⟩:=sortO_some hn
 refine asc_unique ?_ s2 ((hp.map MC.pair).trans s3.symm)
 have hn':((d'.map MC.pair).map (·.1)).Nodup:=(((hp.map MC.pair).map (·.1)).nodup_iff).2 hn
 unfold ascO
 rw[List.pairwise_iff_getElem]
 intro i j hi hj hij
 simp only[List.length_map]at hi hj
 simp only[List.getElem_map,MC.pair]
 rcases ltB_tri (d'[i]).key (d'[j]).key with h|h|h
 · exact h
 · rw[List.map_map,List.nodup_iff_pairwise_ne,List.pairwise_iff_getElem]at hn'
   exact absurd (by rw[List.getElem_map,List.getElem_map];exact h) (hn' i j (by simpa using hi) (by simpa using hj) hij)
 · rw[hs i j hij hj]at h;cases h
theorem put_heap {w:World} {g n:Nat} {os:Array Obj} {cur F:Array Value} {e:TypeId} {fr:Nat×Nat} (hb:w.heap[g]? =some (.cells cur e fr)):
 (Sort.grow (Sort.putRow id (Sort.ahead w n) g 0 F) os).heap[g]? =some (.cells (Sort.putCells id 0 F cur) e fr):=by
 have hg:g<w.heap.size:=(Array.getElem?_eq_some_iff.1 hb).1
 rw[Sort.heap_grow_old _ _ (by simpa using hg)]
 simp[Sort.putRow,Sort.mapBlock,Sort.ahead,Array.getElem?_modify,hb,Sort.onCells]
theorem put_grownBy {w:World} {g n:Nat} {os:Array Obj} (F:Array Value):w.grownBy (Sort.grow (Sort.putRow id (Sort.ahead w n) g 0 F) os) (some g):=by
 refine⟨rfl,rfl,rfl,by simp,fun k hk hne=> ?_⟩
 rw[Sort.heap_grow_old _ _ (by simpa using hk)]
 have:g≠k:=fun e=>hne (by rw[e])
 simp[Sort.putRow,Sort.mapBlock,Sort.ahead,Array.getElem?_modify,this]
set_option maxHeartbeats 1000000 in
theorem sortRow_calls {b:Nat} {w:World} {acc:List (ByteArray×Val)} {V:Value} (hr:RowD b 63 7 w (dO acc) V) (hb:b≤w.heap.size) (hn:(acc.map (·.1)).Nodup) (hlen:acc.length≤1000000000):
 Calls Tryz.prog 204 #[V, .func (.func 205) #[] #[]] w fun e w'=>e= .returned (.tuple #[])∧w.grownBy w' V.ownBlock∧Fresh b w' (.row 7 (dO (sortO acc))) [V]:=by
 have hr0:=hr
 obtain⟨ns,h1,h2,h3⟩:=hr
 rcases h1.2 with⟨rfl,h0⟩|⟨g,cap,cur,rfl,hbg,hg,hnc,_,hsz,htk⟩
 · have hl:acc= []:=by rw[dO_len]at h0;exact List.eq_nil_of_length_eq_zero h0
   subst hl
   refine(AnyF.slices_SortFunc_none Tryz.sortFunc none 0 (.func (.func 205) #[] #[]) w).mono ?_
   rintro e w' ⟨rfl,rfl⟩
   exact⟨rfl,World.grownBy.refl _ _,fun _ _ _=>⟨none,0,rfl,by simp[sortO,objAll,dO], [],rfl,by simp[sortO,objAll,dO]⟩⟩
 · have hgl:=(Array.getElem?_eq_some_iff.1 hg).1
   obtain⟨d,rfl,rfl,d3⟩:=cells_of (F:=fun w''=>w.heap.size≤w''.heap.size∧ ∀p:Addr,b≤p.block→p.block<w.heap.size→(Value.slice (some ⟨g,0,none⟩) (dO acc).length cap).ownBlock≠some p.block→w''.cell? p=w.cell? p) acc ns ⟨w,Nat.le_refl _,fun _ _ _ _=>rfl⟩ (fun w'' hw=>h3 w'' hw.1 hw.2)
   have hdl:(dO (d.map MC.pair)).length=d.toArray.size:=by rw[dO_len];simp
   have hH:Sort.HoldsK MC.enc 7 w g 0 d.toArray:=by
    unfold Sort.HoldsK
    rw[flatK_eq]
    intro j hj
    have hj':j<(d.flatMap MC.enc).length:=by simpa using hj
    have h5:=h1.cells (g:=g) rfl j ((d.flatMap MC.enc)[j]) (List.getElem?_eq_getElem hj')
    rw[add_plain']at h5
    rw[getElem!_pos _ j hj]
    exact⟨h5,(show Blk w g 63 cur from hg).frozen _⟩
   have eg: ∀args w,(callFunc 205 args).run Tryz.prog w= .ok (.enter 205 args) w:=enters_of Tryz.func205 (by kernel_rfl) rfl
   have hC:CmpLays Tryz.prog 205 #[] MC.enc 7 cfM g 0 d.toArray.size w:=fun m os dk _ x y=>closeM x y _
   have hS:=AnyQ.slices_SortFunc Tryz.sortFunc 7 (fun w=>by kernel_rfl) (fun w=>by kernel_rfl) MC.enc encMC_len encMC_one cfM swoMC 205 #[] g 0 cap d.toArray w eg hC hH hgl (by simp at hlen ⊢;omega)
   rw[hdl]
   refine hS.mono ?_
   rintro e w' ⟨rfl,d',n,os,hp,hso,rfl⟩
   obtain⟨p1,_,p3⟩:=hp
   rw[Array.extract_size,←p1,Array.extract_size]at p3
   have hpe:d'.toList.Perm d:=by simpa using p3
   have hsp:=sorted_pairs hpe hn (fun i j hij hj=>by
    have:=hso i j (Nat.zero_le _) hij (by rw[←p1];simpa using hj)
    rw[ltMC,getElem!_pos d' j (by simpa using hj),getElem!_pos d' i (by have:j<d'.size:=(by simpa using hj);omega)]at this
    simpa using this)
   have hF:Sort.flatK MC.enc 7 d'=(d'.toList.flatMap MC.enc).toArray:=by rw[←flatK_eq]
   have hgb:w.grownBy (sortWorldK MC.enc 7 w g 0 n d' os) (some g):=put_grownBy _
   refine⟨rfl,hgb,fun w'' k1 k2=> ?_⟩
   have hsl:(sortO (d.map MC.pair)).length=d.toArray.size:=by rw[←hsp,List.length_map,Array.length_toList,p1]
   refine⟨_,cap,by rw[dO_len,hsl],dO_cells _,d'.toList.flatMap MC.enc, ?_, .inr ⟨g,0,rfl,Nat.lt_of_lt_of_le hgl hgb.size,fun j u hu=> ?_⟩⟩
   · rw[←hsp]
     refine holds_of_cells _ fun x hx=> ?_
     have hxd:x ∈ d:=hpe.mem_iff.1 hx
     refine Holds.more (d3 w'' ⟨Nat.le_trans hgb.size k1,fun p q1 q2 q3=> ?_⟩ x hxd) hgb.size
     exact(k2 p q1 (Nat.lt_of_lt_of_le q2 hgb.size)).trans (World.cell?_of_block (hgb.block p.block q2 (fun e=>q3 e.symm)))
   · rw[Nat.zero_add]
     have hj:j<(d'.toList.flatMap MC.enc).length:=(List.getElem?_eq_some_iff.1 hu).1
     have hjs:j<cur.size:=by
      rw[flatMC_len,Array.length_toList,p1]at hj
      rw[hsz]
      have:d.toArray.size≤cap:=by rw[←hdl];exact hnc
      have:=Nat.mul_le_mul_right 7 this
      omega
     refine(k2 ⟨g,j,none⟩ hbg (Nat.lt_of_lt_of_le hgl hgb.size)).trans ?_
     have hh:=put_heap (n:=n) (os:=os) (F:=Sort.flatK MC.enc 7 d') hg
     have hc:=(show Blk (Sort.grow (Sort.putRow id (Sort.ahead w n) g 0 (Sort.flatK MC.enc 7 d')) os) g 63 _ from hh).cell j
     refine hc.trans ?_
     rw[hF]
     have hjl:j<(d'.toList.map fun a=>a.enc.length).sum:=by rw[←List.length_flatMap];exact hj
     simp[Sort.putCells,hjs,hjl]
     exact(List.getElem?_eq_some_iff.1 hu).2
end Go.Proofs.YtackmnbpfbaemaaGreatDoor
