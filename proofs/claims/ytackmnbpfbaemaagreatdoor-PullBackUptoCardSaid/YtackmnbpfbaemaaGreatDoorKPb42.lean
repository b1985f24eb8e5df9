/- Parts, joined: pull.fill of an answer's object. Condition: at most 10^8 members. -/
import Derived.Test.YtackmnbpfbaemaaGreatDoorProg
import Derived.Test.YtackmnbpfbaemaaGreatDoorKPb23
import Derived.Test.YtackmnbpfbaemaaGreatDoorKPb32
import Derived.Test.YtackmnbpfbaemaaGreatDoorKPb38
namespace Go.Proofs.YtackmnbpfbaemaaGreatDoor
open Go Go.RowKit
def othF (c:Value) (k:ByteArray):Value:=if k=kPatch then c else .nilFunc
def offR (k:ByteArray):Option Nat:=if k=kBase then some 1 else if k=kClient then some 0 else if k=kCookie then some 2 else if k=kLast then some 3 else none
def npR (X:Nat) (k:ByteArray):Option Addr:=(offR k).map fun i=>⟨X,i,none⟩
def fillN:List (ByteArray×Val)→Array Value→Array Value
 | [],xs=>xs
 |p::r,xs=>fillN r (match offR p.1 with|some i=>xs.setIfInBounds i (.int .u64 (u64I (intV' p.2)))|none=>xs)
theorem fillN_app: ∀(a:List (ByteArray×Val)) (p:ByteArray×Val) (xs:Array Value),fillN (a++ [p]) xs=match offR p.1 with|some i=>(fillN a xs).setIfInBounds i (.int .u64 (u64I (intV' p.2)))|none=>fillN a xs
 | [],p,xs=>rfl
 |q::a,p,xs=>by
  show fillN (a++ [p]) _=_
  rw[fillN_app a p]
  rfl
theorem offR_out {k:ByteArray} (h:k ∉ respN):offR k=none:=by
 simp only[List.mem_cons,List.not_mem_nil,or_false,not_or]at h
 unfold offR
 simp only[h,if_false]
theorem offR_in {k:ByteArray} (h:k ∈ respN) (hp:k≠kPatch): ∃i,offR k=some i:=by
 simp only[List.mem_cons,List.not_mem_nil,or_false]at h
 rcases h with rfl|rfl|rfl|rfl|rfl
 · exact⟨1,by decide+kernel⟩
 · exact⟨0,by decide+kernel⟩
 · exact⟨2,by decide+kernel⟩
 · exact⟨3,by decide+kernel⟩
 · exact absurd rfl hp
theorem offR_patch:offR kPatch=none:=by decide+kernel
theorem respN_asc:ascK respN:=by
 unfold ascK respN
 simp only[List.pairwise_cons,List.mem_cons,List.not_mem_nil,or_false,forall_eq_or_imp,forall_eq,List.Pairwise.nil,and_true,false_implies,implies_true]
 decide+kernel
def FillPost (v:Val) (X b:Nat) (w:World) (e:Ending) (w':World):Prop:=w.grownBy w' (some X)∧
 if numsE respN 4 v≠0 then e= .returned (.int .i64 (numsE respN 4 v))else ∃xb xc xk xs x,objV' v= [(kBase,xb),(kClient,xc),(kCookie,xk),(kLast,xs),(kPatch,x)]∧e= .returned (.int .i64 (opsOf x).1)∧
  ((opsOf x).1=0→ ∃la lc,Blk w' X 47 #[.int .u64 (u64I (intV' xc)), .int .u64 (u64I (intV' xb)), .int .u64 (u64I (intV' xk)), .int .u64 (u64I (intV' xs)), .slice la (opsOf x).2.length lc]∧Fresh b w' (.row 8 (dQs (opsOf x).2)) [.slice la (opsOf x).2.length lc])
theorem FillPost.no {v:Val} {X b:Nat} {w w':World} {c:Int} (h:numsE respN 4 v=c) (hc:c≠0) (hg:w.grownBy w' (some X)):FillPost v X b w (.returned (.int .i64 c)) w':=by
 refine⟨hg, ?_⟩
 rw[if_pos (by omega),h]
theorem nums_ten {v:Val} (hk:kindV v=6) (h:(objV' v).map (·.1)≠respN):numsE respN 4 v=10:=by
 unfold numsE
 rw[if_neg (by omega),if_pos h]
theorem fillN_size: ∀(l:List (ByteArray×Val)) (xs:Array Value),(fillN l xs).size=xs.size
 | [],_=>rfl
 |p::r,xs=>by
  unfold fillN
  rw[fillN_size r]
  split<;>simp
theorem resp_five: ∀{o:List (ByteArray×Val)},o.map (·.1)=respN→ ∃xb xc xk xs x,o= [(kBase,xb),(kClient,xc),(kCookie,xk),(kLast,xs),(kPatch,x)]
 | [(a0,xb),(a1,xc),(a2,xk),(a3,xs),(a4,x)],h=>by
   simp only[List.map_cons,List.map_nil,List.cons.injEq,and_true]at h
   obtain⟨rfl,rfl,rfl,rfl,rfl⟩:=h
   exact⟨xb,xc,xk,xs,x,rfl⟩
 | [],h=>by cases h
 | [_],h=>by simp at h
 | [_,_],h=>by simp at h
 | [_,_,_],h=>by simp at h
 | [_,_,_,_],h=>by simp at h
 |_::_::_::_::_::_::_,h=>by simp at h
theorem nums_nine {v:Val} (hk:kindV v=6) (h:(objV' v).map (·.1)=respN) {p:ByteArray×Val} (hp:p ∈ objV' v) (hn:p.1≠kPatch) (h3:kindV p.2≠3):numsE respN 4 v=9:=by
 unfold numsE
 rw[if_neg (by omega),if_neg (by simpa using h),if_neg]
 intro ha
 obtain⟨xb,xc,xk,xs,x,e⟩:=resp_five h
 rw[e]at hp ha
 have ha':=List.all_eq_true.1 ha p
 simp only[decide_eq_true_eq]at ha'
 refine h3 (ha' ?_)
 simp only[List.mem_cons,List.not_mem_nil,or_false]at hp
 rcases hp with rfl|rfl|rfl|rfl|rfl
 · simp
 · simp
 · simp
 · simp
 · exact absurd rfl hn
theorem nums_all {v:Val} (hk:kindV v=6) (h:(objV' v).map (·.1)=respN) (ha: ∀p ∈ objV' v,offR p.1≠none→kindV p.2=3):numsE respN 4 v=0:=by
 unfold numsE
 rw[if_neg (by omega),if_neg (by simpa using h),if_pos]
 obtain⟨xb,xc,xk,xs,x,e⟩:=resp_five h
 rw[e]at ha ⊢
 refine List.all_eq_true.2 fun p hp=> ?_
 have hp':p ∈ [(kBase,xb),(kClient,xc),(kCookie,xk),(kLast,xs)]:=hp
 refine decide_eq_true (ha p (by simp only[List.mem_cons,List.not_mem_nil,or_false]at hp' ⊢;rcases hp' with h|h|h|h<;>simp[h]) ?_)
 simp only[List.mem_cons,List.not_mem_nil,or_false]at hp'
 rcases hp' with rfl|rfl|rfl|rfl
 · exact(by decide+kernel:offR kBase≠none)
 · exact(by decide+kernel:offR kClient≠none)
 · exact(by decide+kernel:offR kCookie≠none)
 · exact(by decide+kernel:offR kLast≠none)
theorem off_of (k:ByteArray) (i:Nat) (h:offR k=some i):i<4:=by
 unfold offR at h
 split at h
 · cases h;omega
 split at h
 · cases h;omega
 split at h
 · cases h;omega
 split at h
 · cases h;omega
 · cases h
theorem key_at {o:List (ByteArray×Val)} (h:o.map (·.1)=respN) {q:Nat} {p:ByteArray×Val} (hp:o[q]? =some p):respN[q]? =some p.1:=by
 rw[←h,List.getElem?_map,hp]
 rfl
theorem key_lt {k:ByteArray}: ∀{q:Nat},respN[q]? =some k→q<4→k≠kPatch
 |0,h,_=>by cases h;decide
 |1,h,_=>by cases h;decide
 |2,h,_=>by cases h;decide
 |3,h,_=>by cases h;decide
 |n+4,_,h=>by omega
theorem fillN_five (xb xc xk xs x:Val) (a0 a1 a2 a3 a4:Value):fillN [(kBase,xb),(kClient,xc),(kCookie,xk),(kLast,xs),(kPatch,x)] #[a0,a1,a2,a3,a4]= #[.int .u64 (u64I (intV' xc)), .int .u64 (u64I (intV' xb)), .int .u64 (u64I (intV' xk)), .int .u64 (u64I (intV' xs)),a4]:=by
 have h0:offR kBase=some 1:=by decide+kernel
 have h1:offR kClient=some 0:=by decide+kernel
 have h2:offR kCookie=some 2:=by decide+kernel
 have h3:offR kLast=some 3:=by decide+kernel
 simp only[fillN,h0,h1,h2,h3,offR_patch]
 rfl
theorem FillPost.code {v:Val} {X b:Nat} {w w':World} {xb xc xk xs x:Val} (h0:numsE respN 4 v=0) (h5:objV' v= [(kBase,xb),(kClient,xc),(kCookie,xk),(kLast,xs),(kPatch,x)]) (hg:w.grownBy w' (some X))
 (hend:(opsOf x).1=0→ ∃la lc,Blk w' X 47 #[.int .u64 (u64I (intV' xc)), .int .u64 (u64I (intV' xb)), .int .u64 (u64I (intV' xk)), .int .u64 (u64I (intV' xs)), .slice la (opsOf x).2.length lc]∧Fresh b w' (.row 8 (dQs (opsOf x).2)) [.slice la (opsOf x).2.length lc]):
 FillPost v X b w (.returned (.int .i64 (opsOf x).1)) w':=by
 refine⟨hg, ?_⟩
 rw[if_neg (by omega)]
 exact⟨xb,xc,xk,xs,x,h5,rfl,hend⟩
set_option maxRecDepth 100000 in
set_option maxHeartbeats 16000000 in
theorem fillR_calls (k':Int) (b':Bool) (n':Int) (t':ByteArray) (l':List Val) (o':List (ByteArray×Val)) (la lc oa oc) (X b:Nat) (nV oV:Value) (Q:Nat) (a0 a1 a2 a3 a4:Value) (w:World)
 (hf:Fresh b w (dV (.mk k' b' n' t' l' o')) [.int .i64 k', .bool b', .int .i64 n', .string t', .slice la l'.length lc, .slice oa o'.length oc]) (hXb:X<b) (ho:ascO o') (_hl:o'.length≤100000000)
 (hN: ∀W,w.grownBy W (some X)→Says 101 nV 4 (fun k=> .pointer (npR X k)) W) (hO: ∀W,w.grownBy W (some X)→Says 103 oV 1 (othF (.func (.func 59) #[] #[.pointer (some ⟨Q,0,none⟩)])) W)
 (hX:Blk w X 47 #[a0,a1,a2,a3,a4])
 (hC: ∀x,(kPatch,x) ∈ o'→ ∀(W:World) (cs:List Value) (c0 c1 c2 c3 c4:Value),w.grownBy W (some X)→Fresh b W (dV x) cs→Blk W X 47 #[c0,c1,c2,c3,c4]→
   Calls Tryz.prog 59 #[.agg cs.toArray, .pointer (some ⟨Q,0,none⟩)] W fun e W'=>e= .returned (.int .i64 (opsOf x).1)∧W.grownBy W' (some X)∧((opsOf x).1=0→ ∃la lc,Blk W' X 47 #[c0,c1,c2,c3, .slice la (opsOf x).2.length lc]∧Fresh b W' (.row 8 (dQs (opsOf x).2)) [.slice la (opsOf x).2.length lc])):
 Calls Tryz.prog 51 #[.agg #[.int .i64 k', .bool b', .int .i64 n', .string t', .slice la l'.length lc, .slice oa o'.length oc],nV,oV] w (FillPost (.mk k' b' n' t' l' o') X b w):=by
 have hI0:FI w X 47 #[a0,a1,a2,a3,a4] w.heap.size #[.int .i64 k', .bool b', .int .i64 n', .string t', .slice la l'.length lc, .slice oa o'.length oc] (w.alloc (.cells #[.int .i64 k', .bool b', .int .i64 n', .string t', .slice la l'.length lc, .slice oa o'.length oc] 39)):=
  ⟨grownBy_alloc (World.grownBy.refl _ _) _,hX.alloc _,Blk.new _ _ _,by have:=hX.lt;omega⟩
 have hP9:k'≠6→ ∀W,w.grownBy W (some X)→FillPost (.mk k' b' n' t' l' o') X b w (.returned (.int .i64 9)) W:=fun hk W hg=>FillPost.no (numsE_nine hk) (by omega) hg
 by_cases hk:k'=6
 rotate_left
 · have e1:(k' != 6)=true:=by simpa using hk
   have hP:=hP9 hk _ hI0.grown
   have HP:=Lib.hid hP
   clear hP
   clear hP9 hk hI0 hN hO hX ho hf
   go_enter Tryz.func51,Tryz.ntmps51
   go_wp2
   go_ret
   exact HP.out
 subst hk
 have hSN0:=hN _ hI0.grown
 have hSO0:=hO _ hI0.grown
 have n0:=hSN0.len
 have n1:=hSO0.len
 have hP10: ∀W,o'.map (·.1)≠respN→w.grownBy W (some X)→FillPost (.mk 6 b' n' t' l' o') X b w (.returned (.int .i64 10)) W:=fun W h hg=>FillPost.no (nums_ten (v:= .mk 6 b' n' t' l' o') rfl h) (by omega) hg
 by_cases hln:o'.length=5
 rotate_left
 · have e1:((o'.length:Int) != 5)=true:=by simp;omega
   have hP:=hP10 _ (fun e=>hln (by have:=congrArg List.length e;simpa using this)) hI0.grown
   have HP:=Lib.hid hP
   clear hP
   clear hP9 hP10 hI0 hN hO hX ho hf hSN0 hSO0
   go_enter Tryz.func51,Tryz.ntmps51
   go_wp2
   go_ret
   exact HP.out
 rw[hln]at hf hI0 n0 n1 ⊢
 have hs0: ∀p ∈ o'.take 0,p.1 ∈ respN:=by simp
 have hgr0:=hX.lt
 have HP9:=Lib.hid hP9
 have HP10:=Lib.hid hP10
 have HI0:=Lib.hid hI0
 have HN:=Lib.hid hN
 have HO:=Lib.hid hO
 have Hf:=Lib.hid hf
 have Hs0:=Lib.hid hs0
 have HSN0:=Lib.hid hSN0
 have HSO0:=Lib.hid hSO0
 clear hP9 hP10 hI0 hN hO hf hs0 hSN0 hSO0
 clear hX
 go_enter Tryz.func51,Tryz.ntmps51
 go_wp2_with (fail)
 go_loopw [31] (fun i wr=> ∃q:Nat,i= .int .i64 q∧q≤5∧Hid (∀p ∈ o'.take q,p.1 ∈ respN)∧Hid (FI w X 47 #[a0,a1,a2,a3,a4] w.heap.size #[.int .i64 6, .bool b', .int .i64 n', .string t', .slice la l'.length lc, .slice oa 5 oc] wr)) (fun i _=>5 - (intOf i).toNat)
 case atStart=>exact⟨0,rfl,Nat.zero_le _,Hs0,HI0⟩
 case round=>
  obtain⟨q,rfl,hq,hin,hI⟩:=hrel
  clear HI0 Hs0 HSN0 HSO0
  have hq0:(0:Int)≤q:=by omega
  by_cases hlt:q<5
  · obtain⟨p,hp⟩: ∃p,o'[q]? =some p:=⟨_,List.getElem?_eq_getElem (by omega)⟩
    obtain⟨key,⟨pk,pb,pn,pt,pl,po⟩⟩:=p
    have hfr:=fresh_since Hf.out hXb hI.out.grown
    obtain⟨g,off,rfl,hg,pla,plc,poa,poc,hv,c0,c1,c2,c3,c4,c5,c6⟩:=memP_at (obj_row hfr.now) hp
    have hq1:(q:Int)<5:=by omega
    have htk:o'.take (q+1)=o'.take q++ [(key, .mk pk pb pn pt pl po)]:=by rw[List.take_add_one,hp];simp
    have hIa:=hI.out.alloc (.cells #[.string key, .int .i64 pk, .bool pb, .int .i64 pn, .string pt, .slice pla pl.length plc, .slice poa po.length poc] 63)
    have hmb:=Blk.new wr 63 #[.string key, .int .i64 pk, .bool pb, .int .i64 pn, .string pt, .slice pla pl.length plc, .slice poa po.length poc]
    have lN:=(HN.out _ hIa.grown).look key
    have lO:=(HO.out _ hIa.grown).look key
    have hbx:=hI.out.box
    have b5:=hbx.cell 5
    have b5l:=hbx.lt
    have HIa:=Lib.hid hIa
    have Hmb:=Lib.hid hmb
    have Hv:=Lib.hid hv
    have Hfr:=Lib.hid hfr
    have Hp:=Lib.hid hp
    have Hbx:=Lib.hid hbx
    have Htk:=Lib.hid htk
    clear hIa hmb hv hfr hp hbx htk
    clear hI
    by_cases hkm:key ∈ respN
    · have hin':Hid (∀p ∈ o'.take (q+1),p.1 ∈ respN):=by
       refine Lib.hid ?_
       rw[Htk.out]
       intro p hp
       rcases List.mem_append.1 hp with h|h
       · exact hin.out p h
       · obtain rfl:=List.mem_singleton.1 h
         exact hkm
      by_cases hkp:key=kPatch
      · have e1:npR X key=none:=by unfold npR;rw[hkp,offR_patch];rfl
        have e2:othF (.func (.func 59) #[] #[.pointer (some ⟨Q,0,none⟩)]) key=(.func (.func 59) #[] #[.pointer (some ⟨Q,0,none⟩)]):=by unfold othF;rw[if_pos hkp]
        simp only[e1]at lN
        rw[e2]at lO
        clear hkm hkp
        go_wp2
        rename_i K' hK'
        refine hK' _ _ ?_
        clear hK' K'
        go_wp2
        go_roundw
        case rel=>exact⟨q+1,by go_num,by omega,hin',HIa⟩
        case measure=>simp only[intOf];omega
      · obtain⟨i,e0⟩:=offR_in hkm hkp
        have e1:npR X key=some ⟨X,i,none⟩:=by unfold npR;rw[e0];rfl
        simp only[e1]at lN
        clear hkm hkp
        go_wp2
        go_roundw
        case rel=>exact⟨q+1,by go_num,by omega,hin',HIa⟩
        case measure=>simp only[intOf];omega
    · have e1:npR X key=none:=by unfold npR;rw[offR_out hkm];rfl
      have e2:othF (.func (.func 59) #[] #[.pointer (some ⟨Q,0,none⟩)]) key= .nilFunc:=by unfold othF;rw[if_neg (fun e=>hkm (by rw[e];simp))]
      simp only[e1]at lN
      rw[e2]at lO
      have hP:=HP10.out _ (fun e=>hkm (by rw[←e];exact List.mem_map.2 ⟨_,List.mem_of_getElem? Hp.out,rfl⟩)) HIa.out.grown
      have HP:=Lib.hid hP
      clear hP
      clear hkm
      go_wp2
      rename_i K' hK'
      refine hK' _ _ ?_
      clear hK' K'
      go_wp2
      go_ret
      exact HP.out
  · obtain rfl:q=5:=by omega
    have hall: ∀p ∈ o',p.1 ∈ respN:=by
     have:=hin.out
     rwa [List.take_of_length_le (by omega)]at this
    have hmap:=(keys_are ho respN_asc).1 ⟨hln,hall⟩
    have hbx:=hI.out.box
    have b5:=hbx.cell 5
    have b5l:=hbx.lt
    have hs0: ∀p ∈ o'.take 0,offR p.1≠none→kindV p.2=3:=by simp
    have hC':=hC
    have Hall:=Lib.hid hall
    have Hmap:=Lib.hid hmap
    have Hs0:=Lib.hid hs0
    have Hbx:=Lib.hid hbx
    have HC':=Lib.hid hC'
    clear hall hmap hs0 hbx hC'
    clear hin hC HP10
    go_upto_region 12 with(fail)
    go_loopw [51] (fun i wr=> ∃q:Nat,i= .int .i64 q∧q≤5∧Hid (∀p ∈ o'.take q,offR p.1≠none→kindV p.2=3)∧Hid (FI w X 47 (fillN (o'.take q) #[a0,a1,a2,a3,a4]) w.heap.size #[.int .i64 6, .bool b', .int .i64 n', .string t', .slice la l'.length lc, .slice oa 5 oc] wr)) (fun i _=>5 - (intOf i).toNat)
    case atStart=>exact⟨0,rfl,Nat.zero_le _,Hs0,hI⟩
    case round=>
     obtain⟨q,rfl,hq,hin,hI⟩:=hrel
     clear Hs0
     have hq0:(0:Int)≤q:=by omega
     by_cases hlt:q<5
     · obtain⟨p,hp⟩: ∃p,o'[q]? =some p:=⟨_,List.getElem?_eq_getElem (by omega)⟩
       obtain⟨key,⟨pk,pb,pn,pt,pl,po⟩⟩:=p
       have hfr:=fresh_since Hf.out hXb hI.out.grown
       obtain⟨g,off,rfl,hg,pla,plc,poa,poc,hv,c0,c1,c2,c3,c4,c5,c6⟩:=memP_at (obj_row hfr.now) hp
       have hq1:(q:Int)<5:=by omega
       have htk:o'.take (q+1)=o'.take q++ [(key, .mk pk pb pn pt pl po)]:=by rw[List.take_add_one,hp];simp
       have hIa:=hI.out.alloc (.cells #[.string key, .int .i64 pk, .bool pb, .int .i64 pn, .string pt, .slice pla pl.length plc, .slice poa po.length poc] 63)
       have hmb:=Blk.new wr 63 #[.string key, .int .i64 pk, .bool pb, .int .i64 pn, .string pt, .slice pla pl.length plc, .slice poa po.length poc]
       have lN:=(HN.out _ hIa.grown).look key
       have hkm:=Hall.out _ (List.mem_of_getElem? hp)
       have hmem:=List.mem_of_getElem? hp
       have HIa:=Lib.hid hIa
       have Hmb:=Lib.hid hmb
       have Hv:=Lib.hid hv
       have Hfr:=Lib.hid hfr
       have Hp:=Lib.hid hp
       have Htk:=Lib.hid htk
       have Hmem:=Lib.hid hmem
       clear hIa hmb hv hfr hp htk hmem
       clear hI
       by_cases hkp:key=kPatch
       · have e0:offR key=none:=by rw[hkp,offR_patch]
         have e1:npR X key=none:=by unfold npR;rw[e0];rfl
         have hin':Hid (∀p ∈ o'.take (q+1),offR p.1≠none→kindV p.2=3):=by
          refine Lib.hid ?_
          rw[Htk.out]
          intro p hp
          rcases List.mem_append.1 hp with h|h
          · exact hin.out p h
          · obtain rfl:=List.mem_singleton.1 h
            exact fun h=>absurd e0 h
         have hI':Hid (FI w X 47 (fillN (o'.take (q+1)) #[a0,a1,a2,a3,a4]) w.heap.size #[.int .i64 6, .bool b', .int .i64 n', .string t', .slice la l'.length lc, .slice (some ⟨g,off,none⟩) 5 oc] (wr.alloc (.cells #[.string key, .int .i64 pk, .bool pb, .int .i64 pn, .string pt, .slice pla pl.length plc, .slice poa po.length poc] 63))):=by
          refine Lib.hid ?_
          rw[Htk.out,fillN_app,e0]
          exact HIa.out
         simp only[e1]at lN
         clear hkm hkp HIa Htk
         go_wp2
         go_roundw
         case rel=>exact⟨q+1,by go_num,by omega,hin',hI'⟩
         case measure=>simp only[intOf];omega
       · obtain⟨i,e0⟩:=offR_in hkm hkp
         have e1:npR X key=some ⟨X,i,none⟩:=by unfold npR;rw[e0];rfl
         have hi4:=off_of key i e0
         simp only[e1]at lN
         by_cases h3:pk=3
         · subst h3
           have hin':Hid (∀p ∈ o'.take (q+1),offR p.1≠none→kindV p.2=3):=by
            refine Lib.hid ?_
            rw[Htk.out]
            intro p hp
            rcases List.mem_append.1 hp with h|h
            · exact hin.out p h
            · obtain rfl:=List.mem_singleton.1 h
              exact fun _=>rfl
           have hw:=wrap_u64 pn
           have hIs:=HIa.out.set i (.int .u64 (u64I pn))
           have hI':Hid (FI w X 47 (fillN (o'.take (q+1)) #[a0,a1,a2,a3,a4]) w.heap.size #[.int .i64 6, .bool b', .int .i64 n', .string t', .slice la l'.length lc, .slice (some ⟨g,off,none⟩) 5 oc] ((wr.alloc (.cells #[.string key, .int .i64 3, .bool pb, .int .i64 pn, .string pt, .slice pla pl.length plc, .slice poa po.length poc] 63)).setCell ⟨X,i,none⟩ (.int .u64 (u64I pn)))):=by
            refine Lib.hid ?_
            rw[Htk.out,fillN_app,e0]
            exact hIs
           have hsz:(fillN (o'.take q) #[a0,a1,a2,a3,a4]).size=5:=by rw[fillN_size];rfl
           obtain⟨u,hu⟩: ∃u,(fillN (o'.take q) #[a0,a1,a2,a3,a4])[i]? =some u:=⟨_,Array.getElem?_eq_getElem (by omega)⟩
           have d0:=HIa.out.blk.cell i
           rw[hu]at d0
           have dz:=HIa.out.blk.frozen i
           have dl:=HIa.out.blk.lt
           clear hkm hkp HIa Htk hIs hsz hu
           go_wp2
           go_roundw
           case rel=>exact⟨q+1,by go_num,by omega,hin',hI'⟩
           case measure=>simp only[intOf];omega
         · have e3:(pk != 3)=true:=by simpa using h3
           have hP:=FillPost.no (b:=b) (nums_nine (v:= .mk 6 b' n' t' l' o') rfl Hmap.out Hmem.out hkp h3) (by omega) HIa.out.grown
           have HP:=Lib.hid hP
           clear hP
           clear hkm hkp h3 HIa Htk
           go_wp2
           go_ret
           exact HP.out
     · obtain rfl:q=5:=by omega
       have hnum:numsE respN 4 (.mk 6 b' n' t' l' o')=0:=nums_all rfl Hmap.out (by
        have:=hin.out
        rwa [List.take_of_length_le (by omega)]at this)
       have hI2:=hI.out
       rw[List.take_of_length_le (by omega)]at hI2
       have hbx:=hI2.box
       have b5:=hbx.cell 5
       have b5l:=hbx.lt
       have hs1:Hid ((0:Nat)≤4→FI w X 47 (fillN o' #[a0,a1,a2,a3,a4]) w.heap.size #[.int .i64 6, .bool b', .int .i64 n', .string t', .slice la l'.length lc, .slice oa 5 oc] wr):=Lib.hid fun _=>hI2
       have hs2:Hid ((0:Nat)=5→FillPost (.mk 6 b' n' t' l' o') X b w (.returned (.int .i64 0)) wr):=Lib.hid fun h=>by omega
       have Hnum:=Lib.hid hnum
       have Hbx:=Lib.hid hbx
       clear hnum hbx
       clear hin hI hI2
       obtain⟨xb,xc,xk,xs,x,hfive⟩:=resp_five Hmap.out
       have Hfive:=Lib.hid hfive
       clear hfive
       go_upto_region 21 with(fail)
       go_loopw [75] (fun i wr=> ∃q:Nat,i= .int .i64 q∧q≤5∧Hid (q≤4→FI w X 47 (fillN o' #[a0,a1,a2,a3,a4]) w.heap.size #[.int .i64 6, .bool b', .int .i64 n', .string t', .slice la l'.length lc, .slice oa 5 oc] wr)∧Hid (q=5→FillPost (.mk 6 b' n' t' l' o') X b w (.returned (.int .i64 0)) wr)) (fun i _=>5 - (intOf i).toNat)
       case atStart=>exact⟨0,rfl,Nat.zero_le _,hs1,hs2⟩
       case round=>
        obtain⟨q,rfl,hq,h1,h2⟩:=hrel
        clear hs1 hs2
        have hq0:(0:Int)≤q:=by omega
        by_cases hlt:q<5
        · have hI:=h1.out (by omega)
          obtain⟨p,hp⟩: ∃p,o'[q]? =some p:=⟨_,List.getElem?_eq_getElem (by omega)⟩
          obtain⟨key,⟨pk,pb,pn,pt,pl,po⟩⟩:=p
          have hfr:=fresh_since Hf.out hXb hI.grown
          have hka:=key_at Hmap.out hp
          obtain⟨g,off,rfl,hg,pla,plc,poa,poc,hv,c0,c1,c2,c3,c4,c5,c6⟩:=memP_at (obj_row hfr.now) hp
          have hq1:(q:Int)<5:=by omega
          have hIa:=hI.alloc (.cells #[.string key, .int .i64 pk, .bool pb, .int .i64 pn, .string pt, .slice pla pl.length plc, .slice poa po.length poc] 63)
          have hmb:=Blk.new wr 63 #[.string key, .int .i64 pk, .bool pb, .int .i64 pn, .string pt, .slice pla pl.length plc, .slice poa po.length poc]
          have lO:=(HO.out _ hIa.grown).look key
          have hmem:=List.mem_of_getElem? hp
          by_cases hq4:q<4
          · have e2:othF (.func (.func 59) #[] #[.pointer (some ⟨Q,0,none⟩)]) key= .nilFunc:=by unfold othF;rw[if_neg (key_lt hka hq4)]
            rw[e2]at lO
            have hs1:Hid (q+1≤4→FI w X 47 (fillN o' #[a0,a1,a2,a3,a4]) w.heap.size #[.int .i64 6, .bool b', .int .i64 n', .string t', .slice la l'.length lc, .slice (some ⟨g,off,none⟩) 5 oc] (wr.alloc (.cells #[.string key, .int .i64 pk, .bool pb, .int .i64 pn, .string pt, .slice pla pl.length plc, .slice poa po.length poc] 63))):=Lib.hid fun _=>hIa
            have hs2:Hid (q+1=5→FillPost (.mk 6 b' n' t' l' o') X b w (.returned (.int .i64 0)) (wr.alloc (.cells #[.string key, .int .i64 pk, .bool pb, .int .i64 pn, .string pt, .slice pla pl.length plc, .slice poa po.length poc] 63))):=Lib.hid fun h=>by omega
            have Hmb:=Lib.hid hmb
            have Hv:=Lib.hid hv
            have Hfr:=Lib.hid hfr
            have Hp:=Lib.hid hp
            have Hmem:=Lib.hid hmem
            have Hka:=Lib.hid hka
            clear hmb hv hfr hp hmem hka
            clear h1 h2 hI hIa e2
            go_wp2
            rename_i K' hK'
            refine hK' _ _ ?_
            clear hK' K'
            go_wp2
            go_roundw
            case rel=>
             refine⟨_,_,_,_,_,_,_,_,_,_,_,_,_,_,_,_,_,_,_,_,_,_, ?_,rfl⟩
             exact⟨q+1,by go_num,by omega,hs1,hs2⟩
            case measure=>
             change 5 - (intOf (.int .i64 ((q:Int)+1))).toNat<5 - (intOf (.int .i64 (q:Int))).toNat
             simp only[intOf];omega
          · obtain rfl:q=4:=by omega
            have hx4:(key,Val.mk pk pb pn pt pl po)=(kPatch,x):=by
             rw[Hfive.out]at hp
             exact(Option.some.inj hp).symm
            obtain⟨rfl,hxv⟩:=Prod.mk.inj hx4
            have e2:othF (.func (.func 59) #[] #[.pointer (some ⟨Q,0,none⟩)]) kPatch=(.func (.func 59) #[] #[.pointer (some ⟨Q,0,none⟩)]):=by unfold othF;rw[if_pos rfl]
            rw[e2]at lO
            have hbk:=hIa.blk
            rw[Hfive.out,fillN_five]at hbk
            have hfx:Fresh b (wr.alloc (.cells #[.string kPatch, .int .i64 pk, .bool pb, .int .i64 pn, .string pt, .slice pla pl.length plc, .slice poa po.length poc] 63)) (dV (.mk pk pb pn pt pl po)) [.int .i64 pk, .bool pb, .int .i64 pn, .string pt, .slice pla pl.length plc, .slice poa po.length poc]:=
             (fresh_val (freshO_of hfr) hp c0 (fun j u hj=>by
               match j,hj with
               |0,hj=>cases hj;exact c1
               |1,hj=>cases hj;exact c2
               |2,hj=>cases hj;exact c3
               |3,hj=>cases hj;exact c4
               |4,hj=>cases hj;exact c5
               |5,hj=>cases hj;exact c6
               |j+6,hj=>simp at hj) rfl).later (alloc_below _ _)
            have hcl:=HC'.out x (by rw[←hxv];exact hmem) _ [.int .i64 pk, .bool pb, .int .i64 pn, .string pt, .slice pla pl.length plc, .slice poa po.length poc] _ _ _ _ _ hIa.grown (by rw[←hxv];exact hfx) hbk
            have hgi:=hIa.grown
            obtain⟨m0,m1,m2,m3,m4,m5,m6⟩:(wr.alloc (.cells #[.string kPatch, .int .i64 pk, .bool pb, .int .i64 pn, .string pt, .slice pla pl.length plc, .slice poa po.length poc] 63)).cell? ⟨wr.heap.size,0,none⟩=some (.string kPatch)∧(wr.alloc (.cells #[.string kPatch, .int .i64 pk, .bool pb, .int .i64 pn, .string pt, .slice pla pl.length plc, .slice poa po.length poc] 63)).cell? ⟨wr.heap.size,1,none⟩=some (.int .i64 pk)∧(wr.alloc (.cells #[.string kPatch, .int .i64 pk, .bool pb, .int .i64 pn, .string pt, .slice pla pl.length plc, .slice poa po.length poc] 63)).cell? ⟨wr.heap.size,2,none⟩=some (.bool pb)∧(wr.alloc (.cells #[.string kPatch, .int .i64 pk, .bool pb, .int .i64 pn, .string pt, .slice pla pl.length plc, .slice poa po.length poc] 63)).cell? ⟨wr.heap.size,3,none⟩=some (.int .i64 pn)∧(wr.alloc (.cells #[.string kPatch, .int .i64 pk, .bool pb, .int .i64 pn, .string pt, .slice pla pl.length plc, .slice poa po.length poc] 63)).cell? ⟨wr.heap.size,4,none⟩=some (.string pt)∧(wr.alloc (.cells #[.string kPatch, .int .i64 pk, .bool pb, .int .i64 pn, .string pt, .slice pla pl.length plc, .slice poa po.length poc] 63)).cell? ⟨wr.heap.size,5,none⟩=some (.slice pla pl.length plc)∧(wr.alloc (.cells #[.string kPatch, .int .i64 pk, .bool pb, .int .i64 pn, .string pt, .slice pla pl.length plc, .slice poa po.length poc] 63)).cell? ⟨wr.heap.size,6,none⟩=some (.slice poa po.length poc):=⟨hmb.cell 0,hmb.cell 1,hmb.cell 2,hmb.cell 3,hmb.cell 4,hmb.cell 5,hmb.cell 6⟩
            have Hmb:=Lib.hid hmb
            have Hv:=Lib.hid hv
            have Hfr:=Lib.hid hfr
            have Hp:=Lib.hid hp
            have Hmem:=Lib.hid hmem
            have Hka:=Lib.hid hka
            have Hcl:=Lib.hid hcl
            have Hgi:=Lib.hid hgi
            have Hbk:=Lib.hid hbk
            have Hxv:=Lib.hid hxv
            clear hmb hv hfr hp hmem hka hcl hgi hbk hxv
            clear h1 h2 hI hIa e2 hx4
            go_wp2
            rename_i K' hK'
            refine hK' _ _ ?_
            clear hK' K'
            go_wp2_with (fail)
            with_reducible refine(Hcl.out).mono ?_
            rintro e w4 ⟨rfl,hg4,hend⟩
            have hgf:=grownBy_trans Hgi.out hg4
            by_cases hc0:(opsOf x).1=0
            · have hP:=FillPost.code (v:= .mk 6 b' n' t' l' o') Hnum.out Hfive.out hgf hend
              rw[hc0]at hP
              have HP:=Lib.hid hP
              clear hP
              rw[hc0]
              clear hend hgf hg4 hc0
              go_wp2
              go_roundw
              case rel=>
               refine⟨_,_,_,_,_,_,_,_,_,_,_,_,_,_,_,_,_,_,_,_,_,_, ?_,rfl⟩
               exact⟨4+1,by go_num,by omega,Lib.hid fun h=>by omega,Lib.hid fun _=>HP.out⟩
              case measure=>
               change 5 - (intOf (.int .i64 (((4:Nat):Int)+1))).toNat<5 - (intOf (.int .i64 ((4:Nat):Int))).toNat
               simp only[intOf];omega
            · have hP:=FillPost.code (v:= .mk 6 b' n' t' l' o') Hnum.out Hfive.out hgf hend
              have e5:((opsOf x).1 != 0)=true:=by simpa using hc0
              generalize (opsOf x).1=V at hP e5
              have HP:=Lib.hid hP
              clear hP
              clear hend hgf hg4 hc0
              go_wp2
              go_ret
              exact HP.out
        · obtain rfl:q=5:=by omega
          have hP:=h2.out rfl
          have HP:=Lib.hid hP
          clear hP
          clear h1 h2
          go_wp2
          go_ret
          exact HP.out
end Go.Proofs.YtackmnbpfbaemaaGreatDoor
