/- Parts, joined: The reference's keys and its zero value. Condition: a bulk of at most 10^8. What Exact comes to. No condition. What a pull's frame is read as. Plain. No condition. What a map of the pull's answers; a member of an object, cell by cell. No condition. parse.Exact. Condition: a text of at most 10^8 bytes. An op read of its object: as the program asks, and as the reference asks. Plain. No condition. patch.fields, field.members; pull.responseOthers. No condition. Ops read one behind the other: what comes of them, how great they are. Plain. No condition. What an answer's frame is read as. Plain. No condition. -/
import Derived.Test.YtackmnbpfbaemaaGreatDoorProg
import Derived.WalkLawsBesides
import Derived.WideLaws
import Derived.Below
import Derived.Deep.RegionHeld3
import Derived.Test.YtackmnbpfbaemaaGreatDoorKPb4
import Derived.Test.YtackmnbpfbaemaaGreatDoorKPb10
import Derived.Test.YtackmnbpfbaemaaGreatDoorKPb11
import Derived.Test.YtackmnbpfbaemaaGreatDoorKPb12
import Derived.Test.YtackmnbpfbaemaaGreatDoorKPb16
import Derived.Test.YtackmnbpfbaemaaGreatDoorKPb19
import Derived.Test.YtackmnbpfbaemaaGreatDoorKPb20
import Derived.Test.YtackmnbpfbaemaaGreatDoorKPb21
import Derived.Test.YtackmnbpfbaemaaGreatDoorKPb27
import Derived.Test.YtackmnbpfbaemaaGreatDoorKPb32
import Derived.Test.YtackmnbpfbaemaaGreatDoorKPb33
namespace Go.Proofs.YtackmnbpfbaemaaGreatDoor
open Go.RowKit
theorem rkey_calls (s:ByteArray) (w:World) (hs:s.size≤1000000000):Calls Tryz.prog 66 #[.string s] w fun e w'=>e= .returned (.int .i64 (keyE s))∧w=w':=by
 obtain⟨B,hB⟩: ∃B,validB s=B:=⟨_,rfl⟩
 have hC:=fun W=>RValid_calls2 hB W hs
 have e0:s.toList.isEmpty=decide (s.size=0):=by
  rw[Lib.toList_data,Lib.size_eq];cases s.data.toList<;>simp
 have hE:keyE s=if s.size=0 then 8 else if 64<s.size then 6 else if B then 0 else 3:=by
  unfold keyE
  rw[e0,hB];simp
 have HC:=Lib.hid hC
 clear hC
 clear hB e0
 by_cases h0:s.size=0
 · rw[if_pos h0]at hE
   have t0:((s.size:Int)==0)=true:=by rw[beq_iff_eq];omega
   have HE:=Lib.hid hE
   clear hE
   clear h0
   go_enter Tryz.func66,Tryz.ntmps66
   go_wp2
   go_ret
   exact⟨by rw[HE.out];rfl,rfl⟩
 rw[if_neg h0]at hE
 have t0:((s.size:Int)==0)=false:=by rw[beq_eq_false_iff_ne];omega
 by_cases h1:64<s.size
 · rw[if_pos h1]at hE
   have t1:(64:Int)<(s.size:Int):=by omega
   have HE:=Lib.hid hE
   clear hE
   clear h0 h1
   go_enter Tryz.func66,Tryz.ntmps66
   go_wp2
   go_ret
   exact⟨by rw[HE.out];rfl,rfl⟩
 rw[if_neg h1]at hE
 have t1:(s.size:Int)≤64:=by omega
 have HE:=Lib.hid hE
 clear hE
 clear h0 h1
 cases B with
 |true=>
  go_enter Tryz.func66,Tryz.ntmps66
  go_wp2_with (go_at_call 85;(with_reducible refine(HC.out _).mono ?_);rintro e w2 ⟨rfl,rfl⟩)
  go_ret
  exact⟨by rw[HE.out];rfl,rfl⟩
 |false=>
  go_enter Tryz.func66,Tryz.ntmps66
  go_wp2_with (go_at_call 85;(with_reducible refine(HC.out _).mono ?_);rintro e w2 ⟨rfl,rfl⟩)
  go_ret
  exact⟨by rw[HE.out];rfl,rfl⟩
abbrev zeroV:Val:= .mk 0 false 0 ⟨#[]⟩ [] []
theorem zeroB_iff (v:Val):zeroB v=true ↔ v=zeroV:=by
 obtain⟨k,b,n,t,l,o⟩:=v
 simp only[zeroB,zero6B,Bool.and_eq_true,decide_eq_true_eq,Bool.not_eq_true',List.length_eq_zero_iff,List.isEmpty_iff,Val.mk.injEq]
 constructor
 · rintro⟨⟨⟨⟨⟨rfl,rfl⟩,rfl⟩,ht⟩,rfl⟩,rfl⟩
   refine⟨rfl,rfl,rfl, ?_,rfl,rfl⟩
   rw[Lib.toList_data]at ht
   exact ByteArray.ext (Array.ext' ht)
 · rintro⟨rfl,rfl,rfl,rfl,rfl,rfl⟩
   exact⟨⟨⟨⟨⟨rfl,rfl⟩,rfl⟩,by rw[Lib.toList_data]⟩,rfl⟩,rfl⟩
theorem holds_zero (w:World) (B:Nat):HoldsV w B zeroV [.int .i64 0, .bool false, .int .i64 0, .string ⟨#[]⟩, .slice none 0 0, .slice none 0 0]:=by
 simp only[HoldsV]
 exact⟨none,0,none,0,rfl,by simp,by simp⟩
theorem rzero_calls (v:Val) (cs:List Value) (w:World) (hV:HoldsV w w.heap.size v cs) (hb:v.bulk≤100000000) {B:Bool} (hB:zeroB v=B):
 Calls Tryz.prog 65 #[.agg cs.toArray, .agg #[.int .i64 0, .bool false, .int .i64 0, .string ⟨#[]⟩, .slice none 0 0, .slice none 0 0]] w fun e w'=>e= .returned (.bool B)∧Below w.heap.size w w':=by
 refine(req_calls v zeroV cs _ w hV (holds_zero _ _) hb (by simp[Val.bulk,bulkL,bulkO,ByteArray.size])).mono ?_
 rintro e w' ⟨X,rfl,hX,hb'⟩
 refine⟨?_,hb'⟩
 rw[←zeroB_iff,hB]at hX
 cases X<;>cases B<;>simp_all
theorem le_not (x y:List UInt8):(Op.bytesLess x y||x==y)= !Op.bytesLess y x:=by
 rcases bl_tri x y with h|h|h
 · have:Op.bytesLess y x=false:=by
    cases h2:Op.bytesLess y x with
    |false=>rfl
    |true=>have:=bl_trans h h2;rw[bl_irrefl]at this;cases this
   simp[h,this]
 · subst h;simp[bl_irrefl]
 · have h1:Op.bytesLess x y=false:=by
    cases h2:Op.bytesLess x y with
    |false=>rfl
    |true=>have:=bl_trans h h2;rw[bl_irrefl]at this;cases this
   have h3:(x==y)=false:=by
    rw[beq_eq_false_iff_ne]
    rintro rfl
    rw[bl_irrefl]at h;cases h
   simp[h,h1,h3]
end Go.Proofs.YtackmnbpfbaemaaGreatDoor

namespace Go.Proofs.YtackmnbpfbaemaaGreatDoor
open Go Go.RowKit
def exactL (s:List UInt8):Rd Val:=match parseL s with
 | .bad c q=> .bad c q
 | .ok v q=>if textV v=s then .ok v q else .bad 4 q
def ExOut (w:World) (RES:Rd Val) (e:Ending) (w':World):Prop:=Below w.heap.size w w'∧match RES with
 | .ok v _=> ∃cs:List Value,e= .returned (.tuple #[.agg cs.toArray, .int .i64 0])∧Fresh w.heap.size w' (dV v) cs
 | .bad c _=>e= .returned (.tuple #[.agg zero6, .int .i64 c])
theorem parse_bad {s:List UInt8} {c:Int} {q:Nat} (h:parseL s= .bad c q):1≤c:=by
 unfold parseL at h
 have hw:=(within_all (4*s.length+4)).1 s 0 1 (Nat.zero_le _)
 cases hr:valueF (4*s.length+4) s 0 1 with
 |bad e p=>rw[hr]at h hw;simp only[Rd.bad.injEq]at h;have:=hw.2.2.1;omega
 |ok v p=>
  rw[hr]at h
  simp only at h
  split at h
  · simp only[Rd.bad.injEq]at h;omega
  · cases h
theorem ba_eq_of {t:List UInt8} {s:ByteArray}:(t==s.toList)=decide (t=s.data.toList):=by
 rw[ByteArray.toList_eq,Bool.eq_iff_iff]
 simp
end Go.Proofs.YtackmnbpfbaemaaGreatDoor

namespace Go.Proofs.YtackmnbpfbaemaaGreatDoor
theorem exactL_text {v:Val} (h:mayV v 1=0) (hi:inV v):exactL (textV v)= .ok v (textV v).length:=by
 unfold exactL
 rw[parse_text h hi]
 simp
theorem exactL_ok {s:List UInt8} {v:Val} {q:Nat} (h:exactL s= .ok v q):mayV v 1=0∧inV v∧v.bulk≤6*s.length∧textV v=s:=by
 unfold exactL at h
 split at h
 · cases h
 · rename_i v' q' hp
   split at h
   · rename_i ht
     cases h
     obtain⟨h1,_,h2,h3⟩:=parse_may hp
     exact⟨h1,h3,h2,ht⟩
   · cases h
theorem exactL_bad0 {s:List UInt8} {c:Int} {q:Nat} (h:c=0):exactL s≠ .bad c q:=by
 intro e
 unfold exactL at e
 split at e
 · rename_i hp
   cases e
   have:=parse_bad hp
   omega
 · split at e
   · cases e
   · cases e
     omega
def u64I (n:Int):Int:=n % 18446744073709551616
theorem u64I_id {n:Int} (h0:0≤n) (h1:n≤4611686018427387903):u64I n=n:=Int.emod_eq_of_lt h0 (by omega)
theorem u64I_small {n:Int} (h0: -9223372036854775808≤n) (h1:n≤9223372036854775807) (h:u64I n≤4611686018427387903):0≤n:=by
 unfold u64I at h
 omega
def numsE (names:List ByteArray) (m:Nat) (v:Val):Int:=
 if kindV v≠6 then 9 else if(objV' v).map (·.1)≠names then 10 else if((objV' v).take m).all (fun p=>decide (kindV p.2=3))then 0 else 9
def numsL (m:Nat) (v:Val):List Int:=((objV' v).take m).map fun p=>u64I (intV' p.2)
theorem numsE_nine {names:List ByteArray} {m:Nat} {v:Val} (h:kindV v≠6):numsE names m v=9:=by
 unfold numsE
 rw[if_pos h]
theorem numsE_zero {names:List ByteArray} {m:Nat} {v:Val} (h:numsE names m v=0):kindV v=6∧(objV' v).map (·.1)=names∧ ∀p ∈ (objV' v).take m,kindV p.2=3:=by
 unfold numsE at h
 split at h
 · cases h
 · split at h
   · cases h
   · split at h
     · rename_i h1 h2 h3
       exact⟨by omega,by simpa using h2,fun p hp=>by simpa using List.all_eq_true.1 h3 p hp⟩
     · cases h
theorem obj_may {v:Val} {d:Int} (h:mayV v d=0): ∀m ∈ objV' v,mayV m.2 (d+1)=0:=by
 obtain⟨k,b,n,t,l,o⟩:=v
 exact fun m hm=>(mayO_all (mayV_parts h).2.2.2.2 m hm).2
theorem inV_int {v:Val} (h:inV v): -9223372036854775808≤intV' v∧intV' v≤9223372036854775807:=by
 obtain⟨k,b,n,t,l,o⟩:=v
 exact h.1
theorem obj_in {v:Val} (h:inV v):inO (objV' v):=by
 obtain⟨k,b,n,t,l,o⟩:=v
 exact h.2.2
def reqOf (v:Val):Int×Int×Int:=
 if numsE [kClient,kCookie] 2 v≠0 then(numsE [kClient,kCookie] 2 v,0,0)else
 match numsL 2 v with
 | [c,k]=>if mayReq c k=0 then(0,c,k)else(mayReq c k,0,0)
 |_=>(10,0,0)
theorem reqOf_back {v:Val} {c k:Int} (hm:mayV v 1=0) (hi:inV v) (h:reqOf v=(0,c,k)):v=ov (reqO c k)∧mayReq c k=0∧0≤k:=by
 unfold reqOf at h
 split at h
 · rename_i h1
   exact absurd (congrArg Prod.fst h) h1
 rename_i h1
 obtain⟨hk,hn,h3⟩:=numsE_zero (by simpa using h1)
 have hv:=ov_of hm hk
 have hmay:=obj_may hm
 have hin:=obj_in hi
 rw[hv]
 unfold numsL at h
 generalize objV' v=o at*
 match o,hn with
 | [(a,x),(b,y)],hn=>
   simp only[List.map_cons,List.map_nil,List.cons.injEq,and_true]at hn
   obtain⟨rfl,rfl⟩:=hn
   have hx:x=iv (intV' x):=iv_of (hmay (kClient,x) (by simp)) (h3 (kClient,x) (by simp))
   have hy:y=iv (intV' y):=iv_of (hmay (kCookie,y) (by simp)) (h3 (kCookie,y) (by simp))
   simp only[List.take,List.map_cons,List.map_nil]at h
   split at h
   · rename_i hr
     have e1:u64I (intV' x)=c:=congrArg (fun z=>z.2.1) h
     have e2:u64I (intV' y)=k:=congrArg (fun z=>z.2.2) h
     rw[e1,e2]at hr
     have hb:c≤4611686018427387903∧k≤4611686018427387903:=by
      unfold mayReq at hr
      split at hr
      · omega
      · cases hr
     have ix:=inV_int (v:=x) hin.1
     have iy:=inV_int (v:=y) hin.2.1
     have px:=u64I_small ix.1 ix.2 (by omega)
     have py:=u64I_small iy.1 iy.2 (by omega)
     have ex:intV' x=c:=by unfold u64I at e1;omega
     have ey:intV' y=k:=by unfold u64I at e2;omega
     rw[hx,hy,ex,ey]
     exact⟨rfl,hr,by omega⟩
   · rename_i hr
     exact absurd (congrArg Prod.fst h) hr
def decReq (b:List UInt8):Int×Int×Int:=
 if bodyE 2 b≠0 then(bodyE 2 b,0,0)else match exactL (bodyB b)with
 | .bad c _=>(c,0,0)
 | .ok v _=>reqOf v
theorem decReq_back {b:List UInt8} {c k:Int} (h:decReq b=(0,c,k)):b=sealL (2::textV (ov (reqO c k)))∧mayReq c k=0∧0≤k:=by
 unfold decReq at h
 split at h
 · rename_i h1
   exact absurd (congrArg Prod.fst h) h1
 rename_i h1
 have hb:=bodyE_zero (k:=2) (b:=b) (by simpa using h1)
 split at h
 · rename_i c' q he
   have e1:c'=0:=congrArg Prod.fst h
   exact absurd he (exactL_bad0 e1)
 · rename_i v q he
   obtain⟨hm,hi,_,ht⟩:=exactL_ok he
   obtain⟨hv,hr,h2⟩:=reqOf_back hm hi h
   refine⟨?_,hr,h2⟩
   rw[←hv,ht]
   exact hb
end Go.Proofs.YtackmnbpfbaemaaGreatDoor

namespace Go.Proofs.YtackmnbpfbaemaaGreatDoor
open Go Go.RowKit
structure Says (t:TypeId) (m:Value) (n:Nat) (F:ByteArray→Value) (W:World):Prop where
 look: ∀k,(Instr.lookup t m (.string k) false).run Tryz.prog W= .ok (F k) W
 len: ∀ty,(Builtin.len_ #[t] ty #[m]).run Tryz.prog W= .ok (goInt n) W
theorem entsM_len {α:Type} {f:α→Value}: ∀(kv:List (α×Value)) (i:Nat),(entsM f kv i).length=kv.length
 | [],_=>rfl
 |(_,_)::r,i=>by simp[entsM,entsM_len r (i+1)]
theorem zero_ptr (w:World):(zeroValue 104).run Tryz.prog w= .ok (.pointer none) w:=by kernel_rfl
theorem zero_fun (w:World):(zeroValue 114).run Tryz.prog w= .ok .nilFunc w:=by kernel_rfl
theorem LookIs.len {g n:Nat} {F:ByteArray→Option Value} {W:World} (h:LookIs W g n F) (t ty:TypeId) (hu:Tryz.prog.underlying t=some (.map (Program.mapKeyOf Tryz.prog t) (Program.mapElemOf Tryz.prog t))):(Builtin.len_ #[t] ty #[.map (some g)]).run Tryz.prog W= .ok (goInt n) W:=by
 obtain⟨kv,h1,h2,_⟩:=h
 have:=run_len_map (P:=Tryz.prog) W t ty g _ _ hu h1
 rw[this,List.size_toArray,entsM_len,h2]
theorem says_nums {g n:Nat} {F:ByteArray→Option Value} {W:World} (h:LookIs W g n F):Says 101 (.map (some g)) n (fun k=>(F k).getD (.pointer none)) W:=
 ⟨fun k=>run_lookL mkey_str Tryz.underlying101 h k zero_ptr false,fun ty=>h.len 101 ty (by kernel_rfl)⟩
theorem says_others {g n:Nat} {F:ByteArray→Option Value} {W:World} (h:LookIs W g n F):Says 103 (.map (some g)) n (fun k=>(F k).getD .nilFunc) W:=
 ⟨fun k=>run_lookL mkey_str Tryz.underlying103 h k zero_fun false,fun ty=>h.len 103 ty (by kernel_rfl)⟩
theorem says_none (W:World):Says 103 (.map none) 0 (fun _=> .nilFunc) W:=by
 have hu:Tryz.prog.underlying 103=some (.map (Program.mapKeyOf Tryz.prog 103) (Program.mapElemOf Tryz.prog 103)):=by kernel_rfl
 refine⟨fun k=> ?_,fun ty=> ?_⟩
 · have hc:=fun e=>mkey_str.check e W k
   obtain⟨d,hd,_⟩:=mkey_str.under
   have hfk:(Instr.findKey 9 (.string k) []).run Tryz.prog W= .ok none W:=by simp[Instr.findKey,run_underlying hd,Instr.findNow]
   unfold Instr.lookup
   simp[Sem.run_bind,run_underlying (P:=Tryz.prog) Tryz.underlying103,Result.andThen,zero_fun W,hc,hfk]
 · have:=run_len_nilMap (P:=Tryz.prog) (w:=W) 103 ty hu
   simpa using this
theorem memP_at {w:World} {B n c:Nat} {l:List (ByteArray×Val)} {a:Option Addr} (h:Holds w B (.row 7 (dO l)) [.slice a n c]) {q:Nat} {key:ByteArray} {k':Int} {b':Bool} {n':Int} {t':ByteArray} {l':List Val} {o':List (ByteArray×Val)} (hi:l[q]? =some (key, .mk k' b' n' t' l' o')):
 ∃g off,a=some ⟨g,off,none⟩∧g<B∧ ∃la lc oa oc,Holds w B (dV (.mk k' b' n' t' l' o')) [.int .i64 k', .bool b', .int .i64 n', .string t', .slice la l'.length lc, .slice oa o'.length oc]∧
  w.cell? ⟨g,off+q*7,none⟩=some (.string key)∧w.cell? ⟨g,off+q*7+1,none⟩=some (.int .i64 k')∧w.cell? ⟨g,off+q*7+2,none⟩=some (.bool b')∧
  w.cell? ⟨g,off+q*7+3,none⟩=some (.int .i64 n')∧w.cell? ⟨g,off+q*7+4,none⟩=some (.string t')∧w.cell? ⟨g,off+q*7+5,none⟩=some (.slice la l'.length lc)∧w.cell? ⟨g,off+q*7+6,none⟩=some (.slice oa o'.length oc):=by
 obtain⟨g,off,ea,hg,cs,h1,_,h3⟩:=h.at_ (i:=q) (d:=dP (key, .mk k' b' n' t' l' o')) (by rw[dO_map,List.getElem?_map,hi];rfl)
 unfold dP at h1
 simp only[Holds]at h1
 obtain⟨_,_,rfl,⟨rfl,_⟩,cv,_,rfl,h4,rfl⟩:=h1
 have h6:=holdsV_of _ _ h4
 simp only[HoldsV]at h6
 obtain⟨la,lc,oa,oc,rfl,_,_⟩:=h6
 exact⟨g,off,ea,hg,la,lc,oa,oc,h4,h3 0 _ rfl,h3 1 _ rfl,h3 2 _ rfl,h3 3 _ rfl,h3 4 _ rfl,h3 5 _ rfl,h3 6 _ rfl⟩
theorem obj_row {w:World} {B:Nat} {k':Int} {b':Bool} {n':Int} {t':ByteArray} {l':List Val} {o':List (ByteArray×Val)} {x0 x1 x2 x3 x4 oa:Value} (h:Holds w B (dV (.mk k' b' n' t' l' o')) [x0,x1,x2,x3,x4,oa]):Holds w B (.row 7 (dO o')) [oa]:=by
 have h':HoldsA w B [.leaf (.int .i64 k'), .leaf (.bool b'), .leaf (.int .i64 n'), .leaf (.string t'), .row 6 (dL l'), .row 7 (dO o')] [x0,x1,x2,x3,x4,oa]:=by
  unfold dV Holds at h
  exact h
 obtain⟨c4,c5,e,_,_,_,_,h4,h5⟩:=HoldsA.six.1 h'
 have l4:=h4.len.1
 have l5:=h5.len.1
 match c4,l4,c5,l5,e with
 | [u],_, [v],_,e=>
   simp only[List.cons_append,List.nil_append,List.cons.injEq,and_true]at e
   obtain⟨_,_,_,_,_,rfl⟩:=e
   exact h5
theorem list_row {w:World} {B:Nat} {k':Int} {b':Bool} {n':Int} {t':ByteArray} {l':List Val} {o':List (ByteArray×Val)} {x0 x1 x2 x3 la x5:Value} (h:Holds w B (dV (.mk k' b' n' t' l' o')) [x0,x1,x2,x3,la,x5]):Holds w B (.row 6 (dL l')) [la]:=by
 have h':HoldsA w B [.leaf (.int .i64 k'), .leaf (.bool b'), .leaf (.int .i64 n'), .leaf (.string t'), .row 6 (dL l'), .row 7 (dO o')] [x0,x1,x2,x3,la,x5]:=by
  unfold dV Holds at h
  exact h
 obtain⟨c4,c5,e,_,_,_,_,h4,h5⟩:=HoldsA.six.1 h'
 have l4:=h4.len.1
 have l5:=h5.len.1
 match c4,l4,c5,l5,e with
 | [u],_, [v],_,e=>
   simp only[List.cons_append,List.nil_append,List.cons.injEq,and_true]at e
   obtain⟨_,_,_,_,rfl,_⟩:=e
   exact h4
theorem fresh_mem {b s n c g off:Nat} {w:World} {l:List D} {q:Nat} {d:D} {u0 v1:Value} (h:Fresh b w (.row s l) [.slice (some ⟨g,off,none⟩) n c]) (hi:l[q]? =some d) (hu: ∀(w:World) (B:Nat) cs,Holds w B d cs→cs[0]? =some u0) (hv:v1≠u0):
 b≤g∧ ∀cs:List Value,(∀j u,cs[j]? =some u→w.cell? ⟨g,off+q*s+j,none⟩=some u)→cs.length=s→Fresh b w d cs:=by
 obtain⟨g',off',e,hg,cs0,h1,hl0,hc0⟩:=h.now.at_ hi
 cases e
 have hf:=hc0 0 u0 (hu _ _ _ h1)
 have hge:b≤g:=by
  refine Nat.le_of_not_lt fun hlt=>hv ?_
  obtain⟨g2,off2,e,_,cs1,h2,_,hc1⟩:=(h (w.setCell ⟨g,off+q*s+0,none⟩ v1) (by simp[World.setCell]) (fun p p1 p2=>World.cell?_setCell_far _ _ _ _ (by show g≠p.block;omega))).at_ hi
  cases e
  have:=hc1 0 u0 (hu _ _ _ h2)
  rw[World.cell?_setCell_same _ _ _ hf]at this
  exact Option.some.inj this
 refine⟨hge,fun cs hcs hl w'' hs hk=> ?_⟩
 obtain⟨g2,off2,e,_,cs2,h2,hl2,hc2⟩:=(h w'' hs hk).at_ hi
 cases e
 have:cs2=cs:=by
  refine List.ext_getElem? fun j=> ?_
  by_cases hj:j<s
  · obtain⟨u,hu1⟩: ∃u,cs2[j]? =some u:=⟨_,List.getElem?_eq_getElem (by omega)⟩
    obtain⟨u',hu2⟩: ∃u,cs[j]? =some u:=⟨_,List.getElem?_eq_getElem (by omega)⟩
    have e1:=hc2 j u hu1
    rw[hk _ hge hg,hcs j u' hu2]at e1
    rw[hu1,hu2,Option.some.inj e1]
  · rw[List.getElem?_eq_none (by omega),List.getElem?_eq_none (by omega)]
 rw[←this]
 exact h2
theorem freshO_of {b:Nat} {w:World} {k':Int} {b':Bool} {n':Int} {t':ByteArray} {l':List Val} {o':List (ByteArray×Val)} {x0 x1 x2 x3 x4 oa:Value} (h:Fresh b w (dV (.mk k' b' n' t' l' o')) [x0,x1,x2,x3,x4,oa]):Fresh b w (.row 7 (dO o')) [oa]:=fun w'' h1 h2=>obj_row (h w'' h1 h2)
theorem dP_first {key:ByteArray} {v:Val} (w:World) (B:Nat) (cs:List Value) (h:Holds w B (dP (key,v)) cs):cs[0]? =some (.string key):=by
 unfold dP at h
 simp only[Holds]at h
 obtain⟨_,_,rfl,⟨rfl,_⟩,_⟩:=h
 rfl
theorem dP_val {key:ByteArray} {v:Val} {w:World} {B:Nat} {u:Value} {cs:List Value} (h:Holds w B (dP (key,v)) (u::cs)):Holds w B (dV v) cs:=by
 unfold dP at h
 simp only[Holds]at h
 obtain⟨_,_,e,⟨rfl,_⟩,cv,_,rfl,h4,rfl⟩:=h
 simp only[List.cons_append,List.nil_append,List.append_nil,List.cons.injEq]at e
 rw[e.2]
 exact h4
theorem fresh_val {b n c g off:Nat} {w:World} {o:List (ByteArray×Val)} {q:Nat} {key:ByteArray} {v:Val} (h:Fresh b w (.row 7 (dO o)) [.slice (some ⟨g,off,none⟩) n c]) (hi:o[q]? =some (key,v)) {cs:List Value} (h0:w.cell? ⟨g,off+q*7,none⟩=some (.string key)) (hcs: ∀j u,cs[j]? =some u→w.cell? ⟨g,off+q*7+1+j,none⟩=some u) (hl:cs.length=6):Fresh b w (dV v) cs:=by
 have hm:=(fresh_mem (v1:= .bool false) h (d:=dP (key,v)) (by rw[dO_map,List.getElem?_map,hi];rfl) dP_first (by simp)).2 (.string key::cs) (fun j u hj=>by
  match j with
  |0=>cases hj;exact h0
  |j+1=>
   rw[show off+q*7+(j+1)=off+q*7+1+j from by omega]
   exact hcs j u hj) (by simp[hl])
 exact fun w'' h1 h2=>dP_val (hm w'' h1 h2)
theorem wrap_u64 (n:Int):IntKind.u64.wrap n=u64I n:=by
 have h1:IntKind.u64.bits=64:=rfl
 have h2:IntKind.u64.signed=false:=rfl
 simp[IntKind.wrap,h1,h2,u64I]
structure FI (w:World) (X:Nat) (T:TypeId) (xs:Array Value) (V0:Nat) (six:Array Value) (wr:World):Prop where
 grown:w.grownBy wr (some X)
 blk:Blk wr X T xs
 box:Blk wr V0 39 six
 ne:V0≠X
theorem FI.alloc {w wr:World} {X V0:Nat} {T:TypeId} {xs six:Array Value} (h:FI w X T xs V0 six wr) (o:Obj):FI w X T xs V0 six (wr.alloc o):=⟨grownBy_alloc h.grown o,h.blk.alloc o,h.box.alloc o,h.ne⟩
theorem FI.set {w wr:World} {X V0:Nat} {T:TypeId} {xs six:Array Value} (h:FI w X T xs V0 six wr) (i:Nat) (u:Value):FI w X T (xs.setIfInBounds i u) V0 six (wr.setCell ⟨X,i,none⟩ u):=
 ⟨grownBy_set h.grown _ (.inl rfl) u,h.blk.set_ i u,h.box.far h.ne _,h.ne⟩
theorem fresh_since {b X:Nat} {w wr:World} {d:D} {cs:List Value} (h:Fresh b w d cs) (hX:X<b) (hg:w.grownBy wr (some X)):Fresh b wr d cs:=
 h.keep (Nat.le_refl _) hg.size fun p p1 p2=>World.cell?_of_block (hg.block p.block p2 (by intro e;cases e;omega))
end Go.Proofs.YtackmnbpfbaemaaGreatDoor

namespace Go.Proofs.YtackmnbpfbaemaaGreatDoor
open Go Go.RowKit
set_option maxRecDepth 100000 in
set_option maxHeartbeats 8000000 in
theorem exact_calls (s:ByteArray) (w:World) (hT0:Tabs w) (hN0:NumT w) (hs:s.size≤100000000):
 Calls Tryz.prog 50 #[.string s] w (ExOut w (exactL s.data.toList)):=by
 have hV:=parse_calls s (w.alloc (.cells zero6 39)) (hT0.below (alloc_below w _)) (hN0.below (alloc_below w _)) hs
 have hTT: ∀W,Below w.heap.size w W→Tabs W:=fun W h=>hT0.below h
 have hB0:=RBx.start w
 obtain⟨RES,hRES⟩: ∃r,exactL s.data.toList=r:=⟨_,rfl⟩
 rw[hRES]
 unfold exactL at hRES
 cases hr:parseL s.data.toList with
 |bad c q=>
  rw[hr]at hV hRES
  simp only at hRES
  subst hRES
  have hc1:(c != 0)=true:=by have:=parse_bad hr;simp only[bne_iff_ne,ne_eq];omega
  clear hr
  have HV:=Lib.hid hV
  have HB0:=Lib.hid hB0
  clear hV hB0
  go_enter Tryz.func50,Tryz.ntmps50
  go_wp2_with (fail)
  with_reducible refine(HV.out).mono ?_
  rintro e w4 ⟨hb4,rfl⟩
  have hI4:=HB0.out.later hb4
  have hxf:=(hI4.many (.int .i64 0) (.bool false) (.int .i64 0) (.string ⟨#[]⟩) (.slice none 0 0) (.slice none 0 0)).later (alloc_below _ (.cells zero6 39))
  obtain⟨r0,r1,r2,r3,r4,r5⟩:=vcell hI4.blk
  have fz4:=hI4.blk.frozen
  have hlt4:=hI4.blk.lt
  have Hxf:=Lib.hid hxf
  have HI4:=Lib.hid hI4
  clear hxf hI4
  clear hb4
  go_wp2
  exact bodyPost_ret (results_cell6_t rfl rfl Hxf.out.blk) rfl ⟨Hxf.out.below,rfl⟩
 |ok v q=>
  rw[hr]at hV hRES
  simp only at hRES
  obtain⟨hm1,hm2,hm3,hm4⟩:=parse_may hr
  obtain⟨k',b',n',t',l',o'⟩:=v
  have hT:=fun cs W hW h=>Text_calls (.mk k' b' n' t' l' o') cs W (hTT W hW) h (by rw[size_toList]at hm3;omega) hm4
  rw[hm1]at hT
  have htS:textS (.mk k' b' n' t' l' o')=⟨(textV (.mk k' b' n' t' l' o')).toArray⟩:=by unfold textS;rw[if_pos hm1]
  rw[htS]at hT
  clear hr hm1 hm2 hm3 hm4 htS hTT
  have hcmp:=ba_eq_of (t:=textV (.mk k' b' n' t' l' o')) (s:=s)
  generalize textV (.mk k' b' n' t' l' o')=TT at hcmp hRES hT
  have HV:=Lib.hid hV
  have HB0:=Lib.hid hB0
  have HT:=Lib.hid hT
  have HRES:=Lib.hid hRES
  clear hV hB0 hT hRES
  go_enter Tryz.func50,Tryz.ntmps50
  go_wp2_with (fail)
  with_reducible refine(HV.out).mono ?_
  rintro e w4 ⟨hb4,cs,rfl,hf4⟩
  obtain⟨la4,lc4,oa4,oc4,rfl⟩:=six_now hf4
  have hI4:=HB0.out.later hb4
  have hz4:=hb4.size
  have hI5:=hI4.later (alloc_below w4 (.cells #[.int .i64 k', .bool b', .int .i64 n', .string t', .slice la4 l'.length lc4, .slice oa4 o'.length oc4] 39))
  have hf5:=hf4.later (alloc_below w4 (.cells #[.int .i64 k', .bool b', .int .i64 n', .string t', .slice la4 l'.length lc4, .slice oa4 o'.length oc4] 39))
  have hx5:=Blk.new w4 39 #[.int .i64 k', .bool b', .int .i64 n', .string t', .slice la4 l'.length lc4, .slice oa4 o'.length oc4]
  have hT5:=HT.out _ _ (((alloc_below w _).trans (hb4.mono (by simp))).trans ((alloc_below w4 (.cells #[.int .i64 k', .bool b', .int .i64 n', .string t', .slice la4 l'.length lc4, .slice oa4 o'.length oc4] 39)).mono (by have:=hb4.size;simp at this;omega))) (holdsV_of _ _ hf5.now)
  have HI4:=Lib.hid hI4
  have Hf4:=Lib.hid hf4
  have HI5:=Lib.hid hI5
  have Hf5:=Lib.hid hf5
  have Hx5:=Lib.hid hx5
  have HT5:=Lib.hid hT5
  clear hI4 hf4 hI5 hf5 hx5 hT5
  clear hb4
  obtain⟨r0,r1,r2,r3,r4,r5⟩:=vcell HI5.out.blk
  have fz5:=HI5.out.blk.frozen
  have hlt5:=HI5.out.blk.lt
  obtain⟨x0,x1,x2,x3,x4,x5⟩:=vcell Hx5.out
  have hltx:=Hx5.out.lt
  go_wp2_with (fail)
  generalize w4.alloc (.cells #[.int .i64 k', .bool b', .int .i64 n', .string t', .slice la4 l'.length lc4, .slice oa4 o'.length oc4] 39)=w5 at HI5 Hf5 Hx5 HT5 r0 r1 r2 r3 r4 r5 fz5 hlt5 x0 x1 x2 x3 x4 x5 hltx ⊢
  with_reducible refine(HT5.out).mono ?_
  rintro e w6 ⟨rfl,hb6⟩
  have hI6:=HI5.out.later hb6
  have hf6:=Hf5.out.later hb6
  have hx6:=Hx5.out.below hb6 Hx5.out.lt
  obtain⟨z0,z1,z2,z3,z4,z5⟩:=vcell hI6.blk
  have fz6:=hI6.blk.frozen
  have hlt6:=hI6.blk.lt
  obtain⟨y0,y1,y2,y3,y4,y5⟩:=vcell hx6
  have hs6:=hb6.size
  have hRES:=HRES.out
  clear HRES r0 r1 r2 r3 r4 r5 x0 x1 x2 x3 x4 x5 fz5
  by_cases ht:TT=s.data.toList
  · rw[if_pos ht]at hRES
    rw[decide_eq_true ht]at hcmp
    subst hRES
    have hxf:=hI6.many (.int .i64 k') (.bool b') (.int .i64 n') (.string t') (.slice la4 l'.length lc4) (.slice oa4 o'.length oc4)
    have hff:=hf6.keep (b':=w.heap.size) (w':=setMany w6 w.heap.size 0 [.int .i64 k', .bool b', .int .i64 n', .string t', .slice la4 l'.length lc4, .slice oa4 o'.length oc4]) (by simp) (by rw[setMany_size];exact Nat.le_refl _) (fun p p1 p2=>World.cell?_of_block (setMany_far _ _ _ _ _ (by have p1':(w.alloc (.cells zero6 39)).heap.size≤p.block:=p1;simp at p1';omega)))
    have hne:(TT != s.toList)=false:=by rw[bne,hcmp];rfl
    have Hxf:=Lib.hid hxf
    have Hff:=Lib.hid hff
    have HI6:=Lib.hid hI6
    have Hf6:=Lib.hid hf6
    have Hx6:=Lib.hid hx6
    have Ht:=Lib.hid ht
    clear hxf hff hI6 hf6 hx6 ht
    clear hb6
    go_wp2
    exact bodyPost_ret (results_cell6_t rfl rfl Hxf.out.blk) rfl ⟨Hxf.out.below,⟨_,rfl,Hff.out⟩⟩
  · rw[if_neg ht]at hRES
    rw[decide_eq_false ht]at hcmp
    subst hRES
    have hxf:=hI6.many (.int .i64 0) (.bool false) (.int .i64 0) (.string ⟨#[]⟩) (.slice none 0 0) (.slice none 0 0)
    have hne:(TT != s.toList)=true:=by rw[bne,hcmp];rfl
    have Hxf:=Lib.hid hxf
    have HI6:=Lib.hid hI6
    have Hf6:=Lib.hid hf6
    have Hx6:=Lib.hid hx6
    have Ht:=Lib.hid ht
    clear hxf hI6 hf6 hx6 ht
    clear hb6
    go_wp2
    exact bodyPost_ret (results_cell6_t rfl rfl Hxf.out.blk) rfl ⟨Hxf.out.below,rfl⟩
end Go.Proofs.YtackmnbpfbaemaaGreatDoor

namespace Go.Proofs.YtackmnbpfbaemaaGreatDoor
theorem findO_isSome {k:ByteArray} {o:List (ByteArray×Val)}:(findO k o).isSome=true ↔ k ∈ o.map (·.1):=by
 cases h:findO k o with
 |none=>simp only[Option.isSome_none,Bool.false_eq_true,false_iff];exact findO_none.1 h
 |some v=>
  simp only[Option.isSome_some,true_iff]
  exact List.mem_map.2 ⟨_,findO_some h,rfl⟩
theorem asc3:ascK [kKey,kOp,kVal]:=by
 have h1:ltB kKey kOp=true:=by decide+kernel
 have h2:ltB kKey kVal=true:=by decide+kernel
 have h3:ltB kOp kVal=true:=by decide+kernel
 simp only[ascK,List.pairwise_cons,List.mem_cons,List.not_mem_nil,or_false,forall_eq_or_imp,forall_eq,List.Pairwise.nil,and_true,false_imp_iff,implies_true]
 exact⟨⟨h1,h2⟩,h3⟩
theorem asc2:ascK [kKey,kOp]:=by
 have h1:ltB kKey kOp=true:=by decide+kernel
 simp only[ascK,List.pairwise_cons,List.mem_cons,List.not_mem_nil,or_false,forall_eq,List.Pairwise.nil,and_true,false_imp_iff,implies_true]
 exact h1
theorem keys3 {o:List (ByteArray×Val)} (h:o.map (·.1)= [kKey,kOp,kVal]): ∃x z y,o= [(kKey,x),(kOp,z),(kVal,y)]:=by
 match o,h with
 | [(a,x),(b,z),(c,y)],h=>
   simp only[List.map_cons,List.map_nil,List.cons.injEq,and_true]at h
   obtain⟨rfl,rfl,rfl⟩:=h
   exact⟨x,z,y,rfl⟩
theorem keys2 {o:List (ByteArray×Val)} (h:o.map (·.1)= [kKey,kOp]): ∃x z,o= [(kKey,x),(kOp,z)]:=by
 match o,h with
 | [(a,x),(b,z)],h=>
   simp only[List.map_cons,List.map_nil,List.cons.injEq,and_true]at h
   obtain⟨rfl,rfl⟩:=h
   exact⟨x,z,rfl⟩
theorem just3 {o:List (ByteArray×Val)} (ho:ascO o):(3=o.length∧(findO kKey o).isSome=true∧(findO kOp o).isSome=true∧(findO kVal o).isSome=true) ↔ o.map (·.1)= [kKey,kOp,kVal]:=by
 rw[←keys_just ho asc3,findO_isSome,findO_isSome,findO_isSome]
 simp
theorem just2 {o:List (ByteArray×Val)} (ho:ascO o):(2=o.length∧(findO kKey o).isSome=true∧(findO kOp o).isSome=true) ↔ o.map (·.1)= [kKey,kOp]:=by
 rw[←keys_just ho asc2,findO_isSome,findO_isSome]
 simp
def fieldOf (s:ByteArray):Option (Int×Bool×Bool):=if s=sPut then some (1,true,true)else if s=sDel then some (2,true,false)else if s=sClear then some (3,false,false)else none
def progOp (v:Val):Int×POp:=
 if kindV v≠6 then(9,noOp)else
 match findO kOp (objV' v)with
 |none=>(10,noOp)
 |some nm=>if kindV nm≠4 then(9,noOp)else
  match fieldOf (txtV' nm)with
  |none=>(12,noOp)
  |some (k,fk,fv)=>
   if(findO kKey (objV' v)).isSome≠fk∨(findO kVal (objV' v)).isSome≠fv∨(objV' v).length≠1+(if fk then 1 else 0)+(if fv then 1 else 0)then(10,noOp)
   else if fk=true∧kindV ((findO kKey (objV' v)).getD noV)≠4 then(9,noOp)
   else(0,⟨k,txtV' ((findO kKey (objV' v)).getD noV),(findO kVal (objV' v)).getD noV⟩)
theorem put_clear:(sPut=sClear)=False:=eq_false (by decide)
theorem del_clear:(sDel=sClear)=False:=eq_false (by decide)
theorem progOp_eq {v:Val} {d:Int} (hm:mayV v d=0):progOp v=readOp v:=by
 have ha:ascO (objV' v):=by
  obtain⟨k,b,n,t,l,o⟩:=v
  exact(mayO_rise (mayV_parts hm).2.2.2.2).1
 unfold progOp readOp
 by_cases hk:kindV v≠6
 · rw[if_pos hk,if_pos hk]
 rw[if_neg hk,if_neg hk]
 generalize objV' v=o at ha
 cases hnm:findO kOp o with
 |none=>rfl
 |some nm=>
  simp only
  by_cases h4:kindV nm≠4
  · rw[if_pos h4,if_pos h4]
  rw[if_neg h4,if_neg h4]
  have hop:(findO kOp o).isSome=true:=by rw[hnm];rfl
  unfold fieldOf
  by_cases hp:txtV' nm=sPut
  · simp only[hp,if_true,put_clear,if_false]
    by_cases hj:o.map (·.1)= [kKey,kOp,kVal]
    · obtain⟨x,z,y,rfl⟩:=keys3 hj
      have e1:findO kKey [(kKey,x),(kOp,z),(kVal,y)]=some x:=by kernel_rfl
      have e2:findO kVal [(kKey,x),(kOp,z),(kVal,y)]=some y:=by kernel_rfl
      rw[e1,e2]
      simp
    · have hc:(findO kKey o).isSome≠true∨(findO kVal o).isSome≠true∨o.length≠1+1+1:=by
       refine Classical.byContradiction fun hn=>hj ((just3 ha).1 ?_)
       simp only[not_or,Classical.not_not]at hn
       exact⟨by omega,hn.1,hop,hn.2.1⟩
      rw[if_pos hc]
      split
      · rename_i a x b z c y
        rw[if_neg]
        rintro⟨rfl,rfl,rfl⟩
        exact hj rfl
      · rfl
  · simp only[hp,if_false]
    by_cases hd:txtV' nm=sDel
    · simp only[hd,if_true,del_clear,if_false]
      by_cases hj:o.map (·.1)= [kKey,kOp]
      · obtain⟨x,z,rfl⟩:=keys2 hj
        have e1:findO kKey [(kKey,x),(kOp,z)]=some x:=by kernel_rfl
        have e2:findO kVal [(kKey,x),(kOp,z)]=none:=by kernel_rfl
        rw[e1,e2]
        simp
      · have hc:(findO kKey o).isSome≠true∨(findO kVal o).isSome≠false∨o.length≠1+1+0:=by
         refine Classical.byContradiction fun hn=>hj ((just2 ha).1 ?_)
         simp only[not_or,Classical.not_not]at hn
         exact⟨by omega,hn.1,hop⟩
        rw[if_pos (by simpa using hc)]
        split
        · rename_i a x b z
          rw[if_neg]
          rintro⟨rfl,rfl⟩
          exact hj rfl
        · rfl
    · simp only[hd,if_false]
      by_cases hcl:txtV' nm=sClear
      · simp only[hcl,if_true]
        by_cases hl:o.length=1
        · rw[if_pos hl]
          obtain⟨q,rfl⟩:=List.length_eq_one_iff.1 hl
          have hq:=List.mem_singleton.1 (findO_some hnm)
          subst hq
          have e1:findO kKey [(kOp,nm)]=none:=by kernel_rfl
          have e2:findO kVal [(kOp,nm)]=none:=by kernel_rfl
          rw[e1,e2]
          simp[noV,txtV']
        · rw[if_neg hl,if_pos (Or.inr (Or.inr (by simpa using hl)))]
      · simp only[hcl,if_false]
end Go.Proofs.YtackmnbpfbaemaaGreatDoor

namespace Go.Proofs.YtackmnbpfbaemaaGreatDoor
open Go Go.RowKit
theorem findM_off {a k:ByteArray} {v:Value} {r:List (ByteArray×Value)} (h:a≠k) (hr:findM a r=none):findM a ((k,v)::r)=none:=by
 simp only[findM,if_neg h];exact hr
def fieldV (s:ByteArray):Option Value:=(fieldOf s).map fun f=> .agg #[.int .i64 f.1, .bool f.2.1, .bool f.2.2]
set_option maxRecDepth 100000 in
set_option maxHeartbeats 2000000 in
theorem fields_calls (w:World):Calls Tryz.prog 91 #[] w fun e w'=> ∃g,e= .returned (.map (some g))∧w.heap.size≤g∧LookIs w' g 3 fieldV∧Below w.heap.size w w':=by
 have hmm:=fun W=>run_makeMap (P:=Tryz.prog) 159 W
 have hB0:Below w.heap.size w (w.alloc (.map #[] 0)):=(Below.refl _ _).alloc (Nat.le_refl _) _
 have hL0:=MapAt.new (f:=Value.string) w
 have HB0:=Lib.hid hB0
 have HL0:=Lib.hid hL0
 clear hB0 hL0
 go_enter Tryz.func91,Tryz.ntmps91
 go_wp2_with (first
  |((with_reducible refine wpList_insertM rfl (.tmp 1) _ _ 159 rfl mkey_str Tryz.underlying159 rfl HL0.out rfl rfl rfl ?_);intro w2 hM2 hg2 hs2;have HB2:=Lib.hid (HB0.out.grown hg2 HB0.out.size (fun k e=>(by cases e;exact Nat.le_refl _)));have HM2:=Lib.hid hM2;clear hM2 hg2 hs2 HL0 HB0)
  |((with_reducible refine wpList_insertM rfl (.tmp 1) _ _ 159 rfl mkey_str Tryz.underlying159 rfl HM2.out rfl rfl (findM_off (by decide) rfl) ?_);intro w3 hM3 hg3 hs3;have HB3:=Lib.hid (HB2.out.grown hg3 HB2.out.size (fun k e=>(by cases e;exact Nat.le_refl _)));have HM3:=Lib.hid hM3;clear hM3 hg3 hs3 HM2 HB2)
  |((with_reducible refine wpList_insertM rfl (.tmp 1) _ _ 159 rfl mkey_str Tryz.underlying159 rfl HM3.out rfl rfl (findM_off (by decide) (findM_off (by decide) rfl)) ?_);intro w4 hM4 hg4 hs4;have HB4:=Lib.hid (HB3.out.grown hg4 HB3.out.size (fun k e=>(by cases e;exact Nat.le_refl _)));have HM4:=Lib.hid hM4;clear hM4 hg4 hs4 HM3 HB3))
 go_ret
 refine⟨_,rfl,Nat.le_refl _,⟨_,HM4.out,rfl,fun k=> ?_⟩,HB4.out⟩
 simp only[List.nil_append,List.cons_append,findM,fieldV,fieldOf]
 by_cases h0:k=sPut
 · rw[if_pos h0,if_pos h0];rfl
 rw[if_neg h0,if_neg h0]
 by_cases h1:k=sDel
 · rw[if_pos h1,if_pos h1];rfl
 rw[if_neg h1,if_neg h1]
 by_cases h2:k=sClear
 · rw[if_pos h2,if_pos h2];rfl
 · rw[if_neg h2,if_neg h2];rfl
set_option maxHeartbeats 1000000 in
theorem fmembers_calls (k:Int) (fk fv:Bool) (w:World):Calls Tryz.prog 132 #[.agg #[.int .i64 k, .bool fk, .bool fv]] w fun e w'=>e= .returned (.int .i64 ((1+(if fk then 1 else 0)+(if fv then 1 else 0):Nat):Int))∧Below w.heap.size w w':=by
 have hb:=alloc_below w (.cells #[.int .i64 k, .bool fk, .bool fv] 209)
 have Hb:=Lib.hid hb
 clear hb
 cases fk<;>cases fv
 all_goals
  go_enter Tryz.func132,Tryz.ntmps132
  go_wp2
  go_ret
  exact⟨rfl,Hb.out⟩
abbrev patC (Q:Nat):Value:= .func (.func 59) #[] #[.pointer (some ⟨Q,0,none⟩)]
set_option maxHeartbeats 2000000 in
theorem respOth_calls (X:Nat) (w:World):Calls Tryz.prog 37 #[.pointer (some ⟨X,0,none⟩)] w fun e w'=> ∃g Q,e= .returned (.map (some g))∧w.heap.size≤g∧w.heap.size≤Q∧Q≠g∧Blk w' Q 111 #[.pointer (some ⟨X,0,none⟩)]∧LookIs w' g 1 (fun k=>if k=kPatch then some (patC Q)else none)∧Below w.heap.size w w':=by
 have hmm:=fun W=>run_makeMap (P:=Tryz.prog) 103 W
 have hB0:Below w.heap.size w ((w.alloc (.cells #[.pointer (some ⟨X,0,none⟩)] 111)).alloc (.map #[] 0)):=((Below.refl _ _).alloc (Nat.le_refl _) _).alloc (by simp) _
 have hL0:=MapAt.new (f:=Value.string) (w.alloc (.cells #[.pointer (some ⟨X,0,none⟩)] 111))
 have hQ0:Blk ((w.alloc (.cells #[.pointer (some ⟨X,0,none⟩)] 111)).alloc (.map #[] 0)) w.heap.size 111 #[.pointer (some ⟨X,0,none⟩)]:=(Blk.new _ _ _).alloc _
 rw[World.size_alloc]at hL0
 have HB0:=Lib.hid hB0
 have HL0:=Lib.hid hL0
 have HQ0:=Lib.hid hQ0
 clear hB0 hL0 hQ0
 go_enter Tryz.func37,Tryz.ntmps37
 go_wp2_with ((with_reducible refine wpList_insertM rfl (.tmp 3) _ _ 103 rfl mkey_str Tryz.underlying103 rfl HL0.out rfl rfl rfl ?_);intro w2 hM2 hg2 hs2;have HQ2:=Lib.hid (HQ0.out.grown hg2 (by simp));have HB2:=Lib.hid (HB0.out.grown hg2 (by simp;omega) (fun k e=>(by cases e;exact Nat.le_succ _)));have HM2:=Lib.hid hM2;clear hM2 hg2 hs2 HL0 HB0 HQ0)
 go_ret
 refine⟨_,_,rfl,Nat.le_succ _,Nat.le_refl _,by omega,HQ2.out,⟨_,HM2.out,rfl,fun k=> ?_⟩,HB2.out⟩
 simp only[List.nil_append,findM]
 rfl
end Go.Proofs.YtackmnbpfbaemaaGreatDoor

namespace Go.Proofs.YtackmnbpfbaemaaGreatDoor
theorem readOps_pre: ∀{l r:List Val},(readOps l).1≠0→readOps (l++r)=((readOps l).1, [])
 | [],_,h=>absurd rfl h
 |v::l,r,h=>by
  simp only[List.cons_append,readOps]at h ⊢
  by_cases h1:(readOp v).1≠0
  · rw[if_pos h1,if_pos h1]
  · rw[if_neg h1]at h ⊢
    by_cases h2:(readOps l).1≠0
    · rw[readOps_pre h2,if_pos h2]
      simp only[h1,if_false,h2,not_false_eq_true,if_true,ne_eq]
    · rw[if_neg h2]at h
      exact absurd rfl h
theorem readOps_one: ∀{l:List Val} {v:Val},(readOps l).1=0→readOps (l++ [v])=if(readOp v).1≠0 then((readOp v).1, [])else(0,(readOps l).2++ [(readOp v).2])
 | [],v,_=>by
   simp only[List.nil_append,readOps]
   by_cases h1:(readOp v).1≠0
   · rw[if_pos h1,if_pos h1]
   · rw[if_neg h1,if_neg h1];rfl
 |x::l,v,h=>by
  simp only[List.cons_append,readOps]at h ⊢
  by_cases h1:(readOp x).1≠0
  · rw[if_pos h1]at h;exact absurd h h1
  · rw[if_neg h1]at h ⊢
    by_cases h2:(readOps l).1≠0
    · rw[if_pos h2]at h;exact absurd h h2
    · have h0:(readOps l).1=0:=by simpa using h2
      rw[readOps_one h0,if_neg h1,if_neg h2]
      by_cases h3:(readOp v).1≠0
      · simp[h3]
      · simp only[ne_eq,Decidable.not_not]at h3
        simp[h3]
theorem getD_text {key:ByteArray} {o:List (ByteArray×Val)}:(txtV' ((findO key o).getD noV)).size≤bulkO o:=by
 cases h:findO key o with
 |none=>exact Nat.zero_le _
 |some x=>
  have h1:=bulkO_mem (findO_some h)
  obtain⟨k,b,n,t,l,r⟩:=x
  simp only[Val.bulk]at h1
  show t.size≤_
  omega
theorem getD_six {key:ByteArray} {o:List (ByteArray×Val)}:((findO key o).getD noV).bulk≤bulkO o+6:=by
 cases h:findO key o with
 |none=>show noV.bulk≤_;have:noV.bulk=6:=by decide
        omega
 |some x=>
  have h1:=bulkO_mem (findO_some h)
  simp only at h1
  show x.bulk≤_
  omega
theorem getD_in {key:ByteArray}: ∀{o:List (ByteArray×Val)},inO o→inV ((findO key o).getD noV)
 | [],_=>⟨⟨by decide,by decide⟩,trivial,trivial⟩
 |(a,x)::r,h=>by
  unfold findO
  by_cases e:a=key
  · rw[if_pos e];exact h.1
  · rw[if_neg e];exact getD_in h.2
theorem op_bounds {v:Val} (hi:inV v) (h:(progOp v).1=0):2+(progOp v).2.key.size+(progOp v).2.v.bulk≤3*v.bulk∧inV (progOp v).2.v:=by
 obtain⟨k,b,n,t,l,o⟩:=v
 have h1:=getD_text (key:=kKey) (o:=o)
 have h2:=getD_six (key:=kVal) (o:=o)
 have h3:=getD_in (key:=kVal) hi.2.2
 unfold progOp at h ⊢
 by_cases a1:kindV (.mk k b n t l o)≠6
 · rw[if_pos a1]at h;exact absurd h (show ¬(9:Int)=0 by omega)
 rw[if_neg a1]at h ⊢
 cases a2:findO kOp (objV' (.mk k b n t l o))with
 |none=>rw[a2]at h;exact absurd h (show ¬(10:Int)=0 by omega)
 |some nm=>
 rw[a2]at h
 simp only at h ⊢
 by_cases a3:kindV nm≠4
 · rw[if_pos a3]at h;exact absurd h (show ¬(9:Int)=0 by omega)
 rw[if_neg a3]at h ⊢
 cases a4:fieldOf (txtV' nm)with
 |none=>rw[a4]at h;exact absurd h (show ¬(12:Int)=0 by omega)
 |some f=>
 obtain⟨k',fk,fv⟩:=f
 rw[a4]at h
 simp only at h ⊢
 by_cases a5:(findO kKey (objV' (.mk k b n t l o))).isSome≠fk∨(findO kVal (objV' (.mk k b n t l o))).isSome≠fv∨(objV' (.mk k b n t l o)).length≠1+(if fk=true then 1 else 0)+(if fv=true then 1 else 0)
 · rw[if_pos a5]at h;exact absurd h (show ¬(10:Int)=0 by omega)
 rw[if_neg a5]at h ⊢
 by_cases a6:fk=true∧kindV ((findO kKey (objV' (.mk k b n t l o))).getD noV)≠4
 · rw[if_pos a6]at h;exact absurd h (show ¬(9:Int)=0 by omega)
 rw[if_neg a6]
 simp only[objV',Val.bulk]at h1 h2 h3 ⊢
 exact⟨by omega,h3⟩
end Go.Proofs.YtackmnbpfbaemaaGreatDoor

namespace Go.Proofs.YtackmnbpfbaemaaGreatDoor
abbrev respN:List ByteArray:= [kBase,kClient,kCookie,kLast,kPatch]
abbrev RespT:=Int×Int×Int×Int×Int×List POp
abbrev noResp (e:Int):RespT:=(e,0,0,0,0, [])
def respV (c b k s:Int) (x:Int×List POp):RespT:=
 if x.1≠0 then noResp x.1 else if mayResp c b k s x.2=0 then(0,c,b,k,s,x.2)else noResp (mayResp c b k s x.2)
def respOf (v:Val):RespT:=
 if numsE respN 4 v≠0 then noResp (numsE respN 4 v)else
 match objV' v with
 | [(_,b),(_,c),(_,k),(_,s),(_,x)]=>respV (u64I (intV' c)) (u64I (intV' b)) (u64I (intV' k)) (u64I (intV' s)) (opsOf x)
 |_=>noResp 10
theorem resp_small {c b k s:Int} {l:List POp} (h:mayResp c b k s l=0):(0<c∧c≤4611686018427387903∧b≤4611686018427387903∧k≤4611686018427387903∧s≤4611686018427387903)∧mayOps none l=0:=by
 unfold mayResp at h
 split at h
 · rename_i hc
   exact⟨hc,h⟩
 · cases h
theorem respOf_obj {c b k s:Int} {l:List POp} (h0:0≤b) (h1:0≤k) (h2:0≤s) (h:mayResp c b k s l=0) (hv:mayV (listQ l) 1=0):respOf (ov (respO c b k s l))=(0,c,b,k,s,l):=by
 obtain⟨⟨g0,g1,g2,g3,g4⟩,g5⟩:=resp_small h
 have e:numsE respN 4 (ov (respO c b k s l))=0:=by
  unfold numsE
  rw[if_neg (fun h=>h rfl),if_neg (fun h=>h rfl),if_pos (by simp[objV',ov,respO,kindV,iv])]
 unfold respOf
 rw[e,if_neg (by omega)]
 show respV (u64I c) (u64I b) (u64I k) (u64I s) (opsOf (listQ l))=_
 rw[opsOf_list g5 hv,u64I_id (by omega) g1,u64I_id h0 g2,u64I_id h1 g3,u64I_id h2 g4]
 unfold respV
 rw[if_neg (fun h=>h rfl),if_pos h]
theorem respV_back {c b k s:Int} {x:Int×List POp} {c' b' k' s':Int} {l:List POp} (h:respV c b k s x=(0,c',b',k',s',l)):c=c'∧b=b'∧k=k'∧s=s'∧x=(0,l)∧mayResp c' b' k' s' l=0:=by
 unfold respV at h
 split at h
 · rename_i h1
   exact absurd (congrArg Prod.fst h) h1
 · rename_i h1
   split at h
   · rename_i h2
     obtain⟨x1,x2⟩:=x
     simp only[Prod.mk.injEq]at h
     obtain⟨_,rfl,rfl,rfl,rfl,rfl⟩:=h
     exact⟨rfl,rfl,rfl,rfl,Prod.ext (by simpa using h1) rfl,h2⟩
   · rename_i h2
     exact absurd (congrArg Prod.fst h) h2
theorem num_back {x:Val} {d n:Int} (hm:mayV x d=0) (hi:inV x) (hk:kindV x=3) (e:u64I (intV' x)=n) (hn:n≤4611686018427387903):x=iv n∧0≤n:=by
 have ix:=inV_int hi
 have px:=u64I_small ix.1 ix.2 (by omega)
 have ex:intV' x=n:=by unfold u64I at e;omega
 have hx:=iv_of hm hk
 rw[ex]at hx
 exact⟨hx,by omega⟩
theorem respOf_back {v:Val} {c b k s:Int} {l:List POp} (hm:mayV v 1=0) (hi:inV v) (h:respOf v=(0,c,b,k,s,l)):
 v=ov (respO c b k s l)∧mayResp c b k s l=0∧0≤b∧0≤k∧0≤s∧mayV (listQ l) 1=0:=by
 unfold respOf at h
 split at h
 · rename_i h1
   exact absurd (congrArg Prod.fst h) h1
 rename_i h1
 obtain⟨hk,hn,h3⟩:=numsE_zero (by simpa using h1)
 have hv:=ov_of hm hk
 have hmay:=obj_may hm
 have hin:=obj_in hi
 rw[hv]
 generalize objV' v=o at*
 split at h
 · rename_i a0 xb a1 xc a2 xk a3 xs a4 x
   simp only[List.map_cons,List.map_nil,List.cons.injEq,and_true]at hn
   obtain⟨rfl,rfl,rfl,rfl,rfl⟩:=hn
   obtain⟨e1,e2,e3,e4,e5,hr⟩:=respV_back h
   obtain⟨⟨g0,g1,g2,g3,g4⟩,g5⟩:=resp_small hr
   obtain⟨rb,pb⟩:=num_back (x:=xb) (hmay (kBase,xb) (by simp)) hin.1 (h3 (kBase,xb) (by simp)) e2 g2
   obtain⟨rc,_⟩:=num_back (x:=xc) (hmay (kClient,xc) (by simp)) hin.2.1 (h3 (kClient,xc) (by simp)) e1 g1
   obtain⟨rk,pk⟩:=num_back (x:=xk) (hmay (kCookie,xk) (by simp)) hin.2.2.1 (h3 (kCookie,xk) (by simp)) e3 g3
   obtain⟨rs,ps⟩:=num_back (x:=xs) (hmay (kLast,xs) (by simp)) hin.2.2.2.1 (h3 (kLast,xs) (by simp)) e4 g4
   obtain⟨hx1,hx2,_⟩:=opsOf_back e5
   subst rb rc rk rs
   rw[hx2]at hx1 ⊢
   exact⟨rfl,hr,pb,pk,ps,hx1⟩
 · exact absurd (congrArg Prod.fst h) (show ¬(10:Int)=0 by omega)
def decResp (b:List UInt8):RespT:=
 if bodyE 3 b≠0 then noResp (bodyE 3 b)else match exactL (bodyB b)with
 | .bad c _=>noResp c
 | .ok v _=>respOf v
theorem decResp_frame {c b k s:Int} {l:List POp} (h0:0≤b) (h1:0≤k) (h2:0≤s) (h:mayResp c b k s l=0) (hl:mayV (listQ l) 1=0) (hv:mayV (ov (respO c b k s l)) 1=0) (hi:inV (ov (respO c b k s l))):
 decResp (sealL (3::textV (ov (respO c b k s l))))=(0,c,b,k,s,l):=by
 unfold decResp
 rw[bodyE_seal (by decide),if_neg (by omega),bodyB_seal,exactL_text hv hi]
 exact respOf_obj h0 h1 h2 h hl
theorem decReq_answer (t:List UInt8):decReq (sealL (3::t))=(13,0,0):=by
 unfold decReq
 rw[bodyE_other (by decide) (by decide)]
 rfl
theorem decResp_back {B:List UInt8} {c b k s:Int} {l:List POp} (h:decResp B=(0,c,b,k,s,l)):
 B=sealL (3::textV (ov (respO c b k s l)))∧mayResp c b k s l=0∧0≤b∧0≤k∧0≤s∧mayV (listQ l) 1=0:=by
 unfold decResp at h
 split at h
 · rename_i h1
   exact absurd (congrArg Prod.fst h) h1
 rename_i h1
 have hb:=bodyE_zero (k:=3) (b:=B) (by simpa using h1)
 split at h
 · rename_i c' q he
   exact absurd he (exactL_bad0 (congrArg Prod.fst h))
 · rename_i v q he
   obtain⟨hm,hi,_,ht⟩:=exactL_ok he
   obtain⟨hv,hr⟩:=respOf_back hm hi h
   refine⟨?_,hr⟩
   rw[←hv,ht]
   exact hb
theorem dec_one {B:List UInt8} (h:(decReq B).1=0):(decResp B).1≠0:=by
 intro h2
 obtain⟨e1,_⟩:=decReq_back (b:=B) (c:=(decReq B).2.1) (k:=(decReq B).2.2) (Prod.ext h rfl)
 have h3:decResp B=noResp 13:=by
  unfold decResp
  rw[e1,bodyE_other (by decide) (by decide)]
  rfl
 rw[h3]at h2
 exact absurd h2 (by decide)
end Go.Proofs.YtackmnbpfbaemaaGreatDoor
