/- Parts, joined: pull.requestNumbers: where a pull's numbers stand. No condition. pull.fill of a pull's object. Condition: at most 10^8 members. -/
import Derived.Test.YtackmnbpfbaemaaGreatDoorProg
import Derived.Deep.RegionHeld3
import Derived.Below
import Derived.Test.YtackmnbpfbaemaaGreatDoorKPb4
import Derived.Test.YtackmnbpfbaemaaGreatDoorKPb23
import Derived.Test.YtackmnbpfbaemaaGreatDoorKPb27
import Derived.Test.YtackmnbpfbaemaaGreatDoorKPb38
namespace Go.Proofs.YtackmnbpfbaemaaGreatDoor
open Go Go.RowKit
def reqNF (X:Nat) (k:ByteArray):Option Value:=
 if k=kClient then some (.pointer (some ⟨X,0,none⟩))else if k=kCookie then some (.pointer (some ⟨X,1,none⟩))else none
theorem reqN_out (X:Nat) {k:ByteArray} (h:k ∉ [kClient,kCookie]):reqNF X k=none:=by
 simp only[List.mem_cons,List.not_mem_nil,or_false,not_or]at h
 unfold reqNF
 simp only[h,if_false]
def reqNK:Nat→ByteArray:=fun i=>if i=4 then kClient else kCookie
def reqNV (X:Nat):Nat→Value:=fun i=>if i=4 then .pointer (some ⟨X,0,none⟩)else .pointer (some ⟨X,1,none⟩)
set_option maxRecDepth 100000 in
set_option maxHeartbeats 4000000 in
theorem reqN_calls (X:Nat) (w:World):Calls Tryz.prog 27 #[.pointer (some ⟨X,0,none⟩)] w fun e w'=> ∃g,e= .returned (.map (some g))∧w.heap.size≤g∧LookIs w' g 2 (reqNF X)∧Below w.heap.size w w':=by
 have hmm:=fun W=>run_makeMap (P:=Tryz.prog) 101 W
 go_enter Tryz.func27,Tryz.ntmps27
 go_wp2_with (fail)
 refine wp_region_held_drew (S:=fun _=>True) (by kernel_rfl) trivial (fun hHeld=> ?_)
 refine wpAnyH_take (i:=1) (v:= ?_) rfl (by kernel_rfl) (by kernel_rfl) (by kernel_rfl) (fun _ _ _ h=>h) (Or.inl ⟨by kernel_rfl, ?_⟩) hHeld ?_
 rotate_left
 · intro X hSw
   first|(go_simp;done)|(go_simp;with_reducible rfl)
 try simp only[Act.put,List.getElem_toArray,List.getElem_cons_succ,List.getElem_cons_zero,List.setIfInBounds_toArray,List.set_cons_zero,List.set_cons_succ]
 refine wpAnyH_take (i:=2) (v:= ?_) rfl (by kernel_rfl) (by kernel_rfl) (by kernel_rfl) (fun _ _ _ h=>h) (Or.inl ⟨by kernel_rfl, ?_⟩) hHeld ?_
 rotate_left
 · intro X hSw
   first|(go_simp;done)|(go_simp;with_reducible rfl)
 try simp only[Act.put,List.getElem_toArray,List.getElem_cons_succ,List.getElem_cons_zero,List.setIfInBounds_toArray,List.set_cons_zero,List.set_cons_succ]
 refine wpAnyH_take (i:=3) (v:= ?_) rfl (by kernel_rfl) (by kernel_rfl) (by kernel_rfl) (fun _ _ _ h=>h) (Or.inl ⟨by kernel_rfl, ?_⟩) hHeld ?_
 rotate_left
 · intro X hSw
   first|(go_simp;done)|(go_simp;with_reducible rfl)
 try simp only[Act.put,List.getElem_toArray,List.getElem_cons_succ,List.getElem_cons_zero,List.setIfInBounds_toArray,List.set_cons_zero,List.set_cons_succ]
 refine wpAnyH_take (i:=5) (v:= ?_) rfl (by kernel_rfl) (by kernel_rfl) (by kernel_rfl) (fun _ _ _ h=>h) (Or.inl ⟨by kernel_rfl, ?_⟩) hHeld ?_
 rotate_left
 · intro X hSw
   first|(go_simp;done)|(go_simp;with_reducible rfl)
 try simp only[Act.put,List.getElem_toArray,List.getElem_cons_succ,List.getElem_cons_zero,List.setIfInBounds_toArray,List.set_cons_zero,List.set_cons_succ]
 refine wpAnyH_take (i:=6) (v:= ?_) rfl (by kernel_rfl) (by kernel_rfl) (by kernel_rfl) (fun _ _ _ h=>h) (Or.inl ⟨by kernel_rfl, ?_⟩) hHeld ?_
 rotate_left
 · intro X hSw
   first|(go_simp;done)|(go_simp;with_reducible rfl)
 try simp only[Act.put,List.getElem_toArray,List.getElem_cons_succ,List.getElem_cons_zero,List.setIfInBounds_toArray,List.set_cons_zero,List.set_cons_succ]
 refine wpAnyH_take (i:=7) (v:= ?_) rfl (by kernel_rfl) (by kernel_rfl) (by kernel_rfl) (fun _ _ _ h=>h) (Or.inl ⟨by kernel_rfl, ?_⟩) hHeld ?_
 rotate_left
 · intro X hSw
   first|(go_simp;done)|(go_simp;with_reducible rfl)
 try simp only[Act.put,List.getElem_toArray,List.getElem_cons_succ,List.getElem_cons_zero,List.setIfInBounds_toArray,List.set_cons_zero,List.set_cons_succ]
 refine wpAnyH_ready (rs:= [0]) (by kernel_rfl) (by simp) ?_
 refine AllReadyH.cons rfl (fun K hK=> ?_) AllReadyH.nil
 go_simp
 refine hK.out _ _ trivial (fun hHeld=> ?_)
 clear hK K hmm
 try simp only[Act.put,List.setIfInBounds_toArray,List.set_cons_zero,List.set_cons_succ]
 have hB0:Below w.heap.size w (w.alloc (.map #[] 0)).drew:=Below.drew ((Below.refl _ _).alloc (Nat.le_refl _) _)
 have hL0:LookIs (w.alloc (.map #[] 0)).drew w.heap.size 0 fun _=>none:=(LookIs.new w).keep rfl
 generalize (w.alloc (.map #[] 0)).drew=W0 at hB0 hL0 ⊢
 change wpAnyH _ _ _ _ _ (2+2) #[true,true,true,true,false,true,true,true,false,false,false] _ _
 refine inserts_any (E:= #[true,true,true,true,true,true,true,true,true,false,false]) (w0:=w) (fuel:=2) mkey_str Tryz.underlying101 reqNK (reqNV X) [4,8] (Nat.le_refl _) ?_ (by decide+kernel) (reqNF X) 2 ?_ 2 [4,8] _ _ 0 W0 (fun _ h=>h) (by decide) ?_ rfl hL0 (fun _ _=>rfl) ?_ ?_ hB0
 · intro i hi
   simp only[List.mem_cons,List.not_mem_nil,or_false]at hi
   rcases hi with rfl|rfl
   all_goals exact⟨_,_,_,_,rfl,fun _=>rfl,rfl,rfl,rfl,rfl,rfl⟩
 · intro W hL hB
   have HL:=Lib.hid hL
   have HB:=Lib.hid hB
   clear hL hB
   refine wpAnyH_take (i:=9) (v:= ?_) rfl (by kernel_rfl) (by kernel_rfl) (by kernel_rfl) (fun _ _ _ h=>h) (Or.inl ⟨by kernel_rfl, ?_⟩) hHeld ?_
   rotate_left
   · intro X hSw
     first|(go_simp;done)|(go_simp;with_reducible rfl)
   try simp only[Act.put,List.getElem_toArray,List.getElem_cons_succ,List.getElem_cons_zero,List.setIfInBounds_toArray,List.set_cons_zero,List.set_cons_succ]
   refine wpAnyH_take (i:=10) (v:= ?_) rfl (by kernel_rfl) (by kernel_rfl) (by kernel_rfl) (fun _ _ _ h=>h) (Or.inl ⟨by kernel_rfl, ?_⟩) hHeld ?_
   rotate_left
   · intro X hSw
     first|(go_simp;done)|(go_simp;with_reducible rfl)
   try simp only[Act.put,List.getElem_toArray,List.getElem_cons_succ,List.getElem_cons_zero,List.setIfInBounds_toArray,List.set_cons_zero,List.set_cons_succ]
   refine wpAnyH_done (by kernel_rfl) ?_ _
   clear hHeld
   go_wp2
   go_ret
   exact⟨_,rfl,Nat.le_refl _,HL.out,HB.out⟩
 · kernel_rfl
 · intro i hi
   simp only[List.mem_cons,List.not_mem_nil,or_false]at hi
   rcases hi with rfl|rfl
   all_goals kernel_rfl
 · intro k hk
   refine(reqN_out X ?_).symm
   simp only[List.mem_cons,List.not_mem_nil,or_false,not_or]
   exact⟨hk 4 (by simp),hk 8 (by simp)⟩
end Go.Proofs.YtackmnbpfbaemaaGreatDoor

namespace Go.Proofs.YtackmnbpfbaemaaGreatDoor
open Go Go.RowKit
abbrev reqNs:List ByteArray:= [kClient,kCookie]
def offQ (k:ByteArray):Option Nat:=if k=kClient then some 0 else if k=kCookie then some 1 else none
def npQ (X:Nat) (k:ByteArray):Option Addr:=(offQ k).map fun i=>⟨X,i,none⟩
def fillM:List (ByteArray×Val)→Array Value→Array Value
 | [],xs=>xs
 |p::r,xs=>fillM r (match offQ p.1 with|some i=>xs.setIfInBounds i (.int .u64 (u64I (intV' p.2)))|none=>xs)
theorem fillM_app: ∀(a:List (ByteArray×Val)) (p:ByteArray×Val) (xs:Array Value),fillM (a++ [p]) xs=match offQ p.1 with|some i=>(fillM a xs).setIfInBounds i (.int .u64 (u64I (intV' p.2)))|none=>fillM a xs
 | [],p,xs=>rfl
 |q::a,p,xs=>by
  show fillM (a++ [p]) _=_
  rw[fillM_app a p]
  rfl
theorem fillM_size: ∀(l:List (ByteArray×Val)) (xs:Array Value),(fillM l xs).size=xs.size
 | [],_=>rfl
 |p::r,xs=>by
  unfold fillM
  rw[fillM_size r]
  split<;>simp
theorem offQ_out {k:ByteArray} (h:k ∉ reqNs):offQ k=none:=by
 simp only[List.mem_cons,List.not_mem_nil,or_false,not_or]at h
 unfold offQ
 simp only[h,if_false]
theorem offQ_in {k:ByteArray} (h:k ∈ reqNs): ∃i,offQ k=some i:=by
 simp only[List.mem_cons,List.not_mem_nil,or_false]at h
 rcases h with rfl|rfl
 · exact⟨0,by decide+kernel⟩
 · exact⟨1,by decide+kernel⟩
theorem reqNs_asc:ascK reqNs:=by
 unfold ascK reqNs
 simp only[List.pairwise_cons,List.mem_cons,List.not_mem_nil,or_false,forall_eq,List.Pairwise.nil,and_true,false_implies,implies_true]
 decide+kernel
def FillPostQ (v:Val) (X:Nat) (w:World) (e:Ending) (w':World):Prop:=w.grownBy w' (some X)∧e= .returned (.int .i64 (numsE reqNs 2 v))∧
 (numsE reqNs 2 v=0→ ∃xc xk,objV' v= [(kClient,xc),(kCookie,xk)]∧Blk w' X 24 #[.int .u64 (u64I (intV' xc)), .int .u64 (u64I (intV' xk))])
theorem FillPostQ.no {v:Val} {X:Nat} {w w':World} {c:Int} (h:numsE reqNs 2 v=c) (hc:c≠0) (hg:w.grownBy w' (some X)):FillPostQ v X w (.returned (.int .i64 c)) w':=
 ⟨hg,by rw[h],fun e=>absurd (h.symm.trans e) hc⟩
theorem numsQ_ten {v:Val} (hk:kindV v=6) (h:(objV' v).map (·.1)≠reqNs):numsE reqNs 2 v=10:=by
 unfold numsE
 rw[if_neg (by omega),if_pos h]
theorem req_two: ∀{o:List (ByteArray×Val)},o.map (·.1)=reqNs→ ∃xc xk,o= [(kClient,xc),(kCookie,xk)]
 | [(a0,xc),(a1,xk)],h=>by
   simp only[List.map_cons,List.map_nil,List.cons.injEq,and_true]at h
   obtain⟨rfl,rfl⟩:=h
   exact⟨xc,xk,rfl⟩
 | [],h=>by cases h
 | [_],h=>by simp at h
 |_::_::_::_,h=>by simp at h
theorem numsQ_nine {v:Val} (hk:kindV v=6) (h:(objV' v).map (·.1)=reqNs) {p:ByteArray×Val} (hp:p ∈ objV' v) (h3:kindV p.2≠3):numsE reqNs 2 v=9:=by
 unfold numsE
 rw[if_neg (by omega),if_neg (by simpa using h),if_neg]
 intro ha
 obtain⟨xc,xk,e⟩:=req_two h
 rw[e]at hp ha
 have ha':=List.all_eq_true.1 ha p
 simp only[decide_eq_true_eq]at ha'
 exact h3 (ha' hp)
theorem numsQ_all {v:Val} (hk:kindV v=6) (h:(objV' v).map (·.1)=reqNs) (ha: ∀p ∈ objV' v,offQ p.1≠none→kindV p.2=3):numsE reqNs 2 v=0:=by
 unfold numsE
 rw[if_neg (by omega),if_neg (by simpa using h),if_pos]
 refine List.all_eq_true.2 fun p hp=>decide_eq_true (ha p (List.mem_of_mem_take hp) ?_)
 have hm:p.1 ∈ reqNs:=by rw[←h];exact List.mem_map.2 ⟨p,List.mem_of_mem_take hp,rfl⟩
 obtain⟨i,e⟩:=offQ_in hm
 rw[e]
 simp
theorem offQ_lt (k:ByteArray) (i:Nat) (h:offQ k=some i):i<2:=by
 unfold offQ at h
 split at h
 · cases h;omega
 split at h
 · cases h;omega
 · cases h
theorem fillM_two (xc xk:Val) (a0 a1:Value):fillM [(kClient,xc),(kCookie,xk)] #[a0,a1]= #[.int .u64 (u64I (intV' xc)), .int .u64 (u64I (intV' xk))]:=by
 have h0:offQ kClient=some 0:=by decide+kernel
 have h1:offQ kCookie=some 1:=by decide+kernel
 simp only[fillM,h0,h1]
 rfl
set_option maxRecDepth 100000 in
set_option maxHeartbeats 16000000 in
theorem fillQ_calls (k':Int) (b':Bool) (n':Int) (t':ByteArray) (l':List Val) (o':List (ByteArray×Val)) (la lc oa oc) (X b:Nat) (nV oV:Value) (a0 a1:Value) (w:World)
 (hf:Fresh b w (dV (.mk k' b' n' t' l' o')) [.int .i64 k', .bool b', .int .i64 n', .string t', .slice la l'.length lc, .slice oa o'.length oc]) (hXb:X<b) (ho:ascO o') (_hl:o'.length≤100000000)
 (hN: ∀W,w.grownBy W (some X)→Says 101 nV 2 (fun k=> .pointer (npQ X k)) W) (hO: ∀W,w.grownBy W (some X)→Says 103 oV 0 (fun _=> .nilFunc) W)
 (hX:Blk w X 24 #[a0,a1]):
 Calls Tryz.prog 51 #[.agg #[.int .i64 k', .bool b', .int .i64 n', .string t', .slice la l'.length lc, .slice oa o'.length oc],nV,oV] w (FillPostQ (.mk k' b' n' t' l' o') X w):=by
 have hI0:FI w X 24 #[a0,a1] w.heap.size #[.int .i64 k', .bool b', .int .i64 n', .string t', .slice la l'.length lc, .slice oa o'.length oc] (w.alloc (.cells #[.int .i64 k', .bool b', .int .i64 n', .string t', .slice la l'.length lc, .slice oa o'.length oc] 39)):=
  ⟨grownBy_alloc (World.grownBy.refl _ _) _,hX.alloc _,Blk.new _ _ _,by have:=hX.lt;omega⟩
 have hP9:k'≠6→ ∀W,w.grownBy W (some X)→FillPostQ (.mk k' b' n' t' l' o') X w (.returned (.int .i64 9)) W:=fun hk W hg=>FillPostQ.no (numsE_nine hk) (by omega) hg
 by_cases hk:k'=6
 rotate_left
 · have e1:(k' != 6)=true:=by simpa using hk
   have hP:=hP9 hk _ hI0.grown
   have HP:=Lib.hid hP
   clear hP
   clear hP9 hk hI0 hN hO hX ho hf
   go_enter Tryz.func51,Tryz.ntmps51
   go_wp2
   go_ret
   exact HP.out
 subst hk
 have hSN0:=hN _ hI0.grown
 have hSO0:=hO _ hI0.grown
 have n0:=hSN0.len
 have n1:=hSO0.len
 have hP10: ∀W,o'.map (·.1)≠reqNs→w.grownBy W (some X)→FillPostQ (.mk 6 b' n' t' l' o') X w (.returned (.int .i64 10)) W:=fun W h hg=>FillPostQ.no (numsQ_ten (v:= .mk 6 b' n' t' l' o') rfl h) (by omega) hg
 by_cases hln:o'.length=2
 rotate_left
 · have e1:((o'.length:Int) != 2)=true:=by simp;omega
   have hP:=hP10 _ (fun e=>hln (by have:=congrArg List.length e;simpa using this)) hI0.grown
   have HP:=Lib.hid hP
   clear hP
   clear hP9 hP10 hI0 hN hO hX ho hf hSN0 hSO0
   go_enter Tryz.func51,Tryz.ntmps51
   go_wp2
   go_ret
   exact HP.out
 rw[hln]at hf hI0 n0 n1 ⊢
 have hs0: ∀p ∈ o'.take 0,p.1 ∈ reqNs:=by simp
 have hgr0:=hX.lt
 have HP9:=Lib.hid hP9
 have HP10:=Lib.hid hP10
 have HI0:=Lib.hid hI0
 have HN:=Lib.hid hN
 have HO:=Lib.hid hO
 have Hf:=Lib.hid hf
 have Hs0:=Lib.hid hs0
 have HSN0:=Lib.hid hSN0
 have HSO0:=Lib.hid hSO0
 clear hP9 hP10 hI0 hN hO hf hs0 hSN0 hSO0
 clear hX
 go_enter Tryz.func51,Tryz.ntmps51
 go_wp2_with (fail)
 go_loopw [31] (fun i wr=> ∃q:Nat,i= .int .i64 q∧q≤2∧Hid (∀p ∈ o'.take q,p.1 ∈ reqNs)∧Hid (FI w X 24 #[a0,a1] w.heap.size #[.int .i64 6, .bool b', .int .i64 n', .string t', .slice la l'.length lc, .slice oa 2 oc] wr)) (fun i _=>2 - (intOf i).toNat)
 case atStart=>exact⟨0,rfl,Nat.zero_le _,Hs0,HI0⟩
 case round=>
  obtain⟨q,rfl,hq,hin,hI⟩:=hrel
  clear HI0 Hs0 HSN0 HSO0
  have hq0:(0:Int)≤q:=by omega
  by_cases hlt:q<2
  · obtain⟨p,hp⟩: ∃p,o'[q]? =some p:=⟨_,List.getElem?_eq_getElem (by omega)⟩
    obtain⟨key,⟨pk,pb,pn,pt,pl,po⟩⟩:=p
    have hfr:=fresh_since Hf.out hXb hI.out.grown
    obtain⟨g,off,rfl,hg,pla,plc,poa,poc,hv,c0,c1,c2,c3,c4,c5,c6⟩:=memP_at (obj_row hfr.now) hp
    have hq1:(q:Int)<2:=by omega
    have htk:o'.take (q+1)=o'.take q++ [(key, .mk pk pb pn pt pl po)]:=by rw[List.take_add_one,hp];simp
    have hIa:=hI.out.alloc (.cells #[.string key, .int .i64 pk, .bool pb, .int .i64 pn, .string pt, .slice pla pl.length plc, .slice poa po.length poc] 63)
    have hmb:=Blk.new wr 63 #[.string key, .int .i64 pk, .bool pb, .int .i64 pn, .string pt, .slice pla pl.length plc, .slice poa po.length poc]
    have lN:=(HN.out _ hIa.grown).look key
    have lO:=(HO.out _ hIa.grown).look key
    have hbx:=hI.out.box
    have b5:=hbx.cell 5
    have b5l:=hbx.lt
    have HIa:=Lib.hid hIa
    have Hmb:=Lib.hid hmb
    have Hv:=Lib.hid hv
    have Hfr:=Lib.hid hfr
    have Hp:=Lib.hid hp
    have Hbx:=Lib.hid hbx
    have Htk:=Lib.hid htk
    clear hIa hmb hv hfr hp hbx htk
    clear hI
    by_cases hkm:key ∈ reqNs
    · have hin':Hid (∀p ∈ o'.take (q+1),p.1 ∈ reqNs):=by
       refine Lib.hid ?_
       rw[Htk.out]
       intro p hp
       rcases List.mem_append.1 hp with h|h
       · exact hin.out p h
       · obtain rfl:=List.mem_singleton.1 h
         exact hkm
      obtain⟨i,e0⟩:=offQ_in hkm
      have e1:npQ X key=some ⟨X,i,none⟩:=by unfold npQ;rw[e0];rfl
      simp only[e1]at lN
      clear hkm
      go_wp2
      go_roundw
      case rel=>exact⟨q+1,by go_num,by omega,hin',HIa⟩
      case measure=>simp only[intOf];omega
    · have e1:npQ X key=none:=by unfold npQ;rw[offQ_out hkm];rfl
      simp only[e1]at lN
      have hP:=HP10.out _ (fun e=>hkm (by rw[←e];exact List.mem_map.2 ⟨_,List.mem_of_getElem? Hp.out,rfl⟩)) HIa.out.grown
      have HP:=Lib.hid hP
      clear hP
      clear hkm
      go_wp2
      rename_i K' hK'
      refine hK' _ _ ?_
      clear hK' K'
      go_wp2
      go_ret
      exact HP.out
  · obtain rfl:q=2:=by omega
    have hall: ∀p ∈ o',p.1 ∈ reqNs:=by
     have:=hin.out
     rwa [List.take_of_length_le (by omega)]at this
    have hmap:=(keys_are ho reqNs_asc).1 ⟨hln,hall⟩
    have hbx:=hI.out.box
    have b5:=hbx.cell 5
    have b5l:=hbx.lt
    have hs0: ∀p ∈ o'.take 0,offQ p.1≠none→kindV p.2=3:=by simp
    have Hall:=Lib.hid hall
    have Hmap:=Lib.hid hmap
    have Hs0:=Lib.hid hs0
    have Hbx:=Lib.hid hbx
    clear hall hmap hs0 hbx
    clear hin HP10
    go_upto_region 12 with(fail)
    go_loopw [51] (fun i wr=> ∃q:Nat,i= .int .i64 q∧q≤2∧Hid (∀p ∈ o'.take q,offQ p.1≠none→kindV p.2=3)∧Hid (FI w X 24 (fillM (o'.take q) #[a0,a1]) w.heap.size #[.int .i64 6, .bool b', .int .i64 n', .string t', .slice la l'.length lc, .slice oa 2 oc] wr)) (fun i _=>2 - (intOf i).toNat)
    case atStart=>exact⟨0,rfl,Nat.zero_le _,Hs0,hI⟩
    case round=>
     obtain⟨q,rfl,hq,hin,hI⟩:=hrel
     clear Hs0
     have hq0:(0:Int)≤q:=by omega
     by_cases hlt:q<2
     · obtain⟨p,hp⟩: ∃p,o'[q]? =some p:=⟨_,List.getElem?_eq_getElem (by omega)⟩
       obtain⟨key,⟨pk,pb,pn,pt,pl,po⟩⟩:=p
       have hfr:=fresh_since Hf.out hXb hI.out.grown
       obtain⟨g,off,rfl,hg,pla,plc,poa,poc,hv,c0,c1,c2,c3,c4,c5,c6⟩:=memP_at (obj_row hfr.now) hp
       have hq1:(q:Int)<2:=by omega
       have htk:o'.take (q+1)=o'.take q++ [(key, .mk pk pb pn pt pl po)]:=by rw[List.take_add_one,hp];simp
       have hIa:=hI.out.alloc (.cells #[.string key, .int .i64 pk, .bool pb, .int .i64 pn, .string pt, .slice pla pl.length plc, .slice poa po.length poc] 63)
       have hmb:=Blk.new wr 63 #[.string key, .int .i64 pk, .bool pb, .int .i64 pn, .string pt, .slice pla pl.length plc, .slice poa po.length poc]
       have lN:=(HN.out _ hIa.grown).look key
       have hkm:=Hall.out _ (List.mem_of_getElem? hp)
       have hmem:=List.mem_of_getElem? hp
       have HIa:=Lib.hid hIa
       have Hmb:=Lib.hid hmb
       have Hv:=Lib.hid hv
       have Hfr:=Lib.hid hfr
       have Hp:=Lib.hid hp
       have Htk:=Lib.hid htk
       have Hmem:=Lib.hid hmem
       clear hIa hmb hv hfr hp htk hmem
       clear hI
       obtain⟨i,e0⟩:=offQ_in hkm
       have e1:npQ X key=some ⟨X,i,none⟩:=by unfold npQ;rw[e0];rfl
       have hi4:=offQ_lt key i e0
       simp only[e1]at lN
       by_cases h3:pk=3
       · subst h3
         have hin':Hid (∀p ∈ o'.take (q+1),offQ p.1≠none→kindV p.2=3):=by
          refine Lib.hid ?_
          rw[Htk.out]
          intro p hp
          rcases List.mem_append.1 hp with h|h
          · exact hin.out p h
          · obtain rfl:=List.mem_singleton.1 h
            exact fun _=>rfl
         have hw:=wrap_u64 pn
         have hIs:=HIa.out.set i (.int .u64 (u64I pn))
         have hI':Hid (FI w X 24 (fillM (o'.take (q+1)) #[a0,a1]) w.heap.size #[.int .i64 6, .bool b', .int .i64 n', .string t', .slice la l'.length lc, .slice (some ⟨g,off,none⟩) 2 oc] ((wr.alloc (.cells #[.string key, .int .i64 3, .bool pb, .int .i64 pn, .string pt, .slice pla pl.length plc, .slice poa po.length poc] 63)).setCell ⟨X,i,none⟩ (.int .u64 (u64I pn)))):=by
          refine Lib.hid ?_
          rw[Htk.out,fillM_app,e0]
          exact hIs
         have hsz:(fillM (o'.take q) #[a0,a1]).size=2:=by rw[fillM_size];rfl
         obtain⟨u,hu⟩: ∃u,(fillM (o'.take q) #[a0,a1])[i]? =some u:=⟨_,Array.getElem?_eq_getElem (by omega)⟩
         have d0:=HIa.out.blk.cell i
         rw[hu]at d0
         have dz:=HIa.out.blk.frozen i
         have dl:=HIa.out.blk.lt
         clear hkm HIa Htk hIs hsz hu
         go_wp2
         go_roundw
         case rel=>exact⟨q+1,by go_num,by omega,hin',hI'⟩
         case measure=>simp only[intOf];omega
       · have e3:(pk != 3)=true:=by simpa using h3
         have hP:=FillPostQ.no (numsQ_nine (v:= .mk 6 b' n' t' l' o') rfl Hmap.out Hmem.out h3) (by omega) HIa.out.grown
         have HP:=Lib.hid hP
         clear hP
         clear hkm h3 HIa Htk
         go_wp2
         go_ret
         exact HP.out
     · obtain rfl:q=2:=by omega
       have hnum:numsE reqNs 2 (.mk 6 b' n' t' l' o')=0:=numsQ_all rfl Hmap.out (by
        have:=hin.out
        rwa [List.take_of_length_le (by omega)]at this)
       have hI2:=hI.out
       rw[List.take_of_length_le (by omega)]at hI2
       have hbx:=hI2.box
       have b5:=hbx.cell 5
       have b5l:=hbx.lt
       have hpost: ∀(W:World) six,FI w X 24 (fillM o' #[a0,a1]) w.heap.size six W→FillPostQ (.mk 6 b' n' t' l' o') X w (.returned (.int .i64 0)) W:=fun W six h=>by
        refine⟨h.grown,by rw[hnum],fun _=> ?_⟩
        obtain⟨xc,xk,e⟩:=req_two Hmap.out
        have:=h.blk
        rw[e,fillM_two]at this
        exact⟨xc,xk,e,this⟩
       have Hnum:=Lib.hid hnum
       have Hbx:=Lib.hid hbx
       have HI2:=Lib.hid hI2
       have Hpost:=Lib.hid hpost
       clear hnum hbx hI2 hpost
       clear hin hI
       go_upto_region 21 with(fail)
       go_loopw [75] (fun i wr=> ∃q:Nat,i= .int .i64 q∧q≤2∧Hid (FI w X 24 (fillM o' #[a0,a1]) w.heap.size #[.int .i64 6, .bool b', .int .i64 n', .string t', .slice la l'.length lc, .slice oa 2 oc] wr)) (fun i _=>2 - (intOf i).toNat)
       case atStart=>exact⟨0,rfl,Nat.zero_le _,HI2⟩
       case round=>
        obtain⟨q,rfl,hq,hI⟩:=hrel
        clear HI2
        have hq0:(0:Int)≤q:=by omega
        by_cases hlt:q<2
        · obtain⟨p,hp⟩: ∃p,o'[q]? =some p:=⟨_,List.getElem?_eq_getElem (by omega)⟩
          obtain⟨key,⟨pk,pb,pn,pt,pl,po⟩⟩:=p
          have hfr:=fresh_since Hf.out hXb hI.out.grown
          obtain⟨g,off,rfl,hg,pla,plc,poa,poc,hv,c0,c1,c2,c3,c4,c5,c6⟩:=memP_at (obj_row hfr.now) hp
          have hq1:(q:Int)<2:=by omega
          have hIa:=hI.out.alloc (.cells #[.string key, .int .i64 pk, .bool pb, .int .i64 pn, .string pt, .slice pla pl.length plc, .slice poa po.length poc] 63)
          have hmb:=Blk.new wr 63 #[.string key, .int .i64 pk, .bool pb, .int .i64 pn, .string pt, .slice pla pl.length plc, .slice poa po.length poc]
          have lO:=(HO.out _ hIa.grown).look key
          have Hmb:=Lib.hid hmb
          have Hv:=Lib.hid hv
          have Hfr:=Lib.hid hfr
          have Hp:=Lib.hid hp
          have HIa:=Lib.hid hIa
          clear hmb hv hfr hp hIa
          clear hI
          go_wp2
          rename_i K' hK'
          refine hK' _ _ ?_
          clear hK' K'
          go_wp2
          go_roundw
          case rel=>
           refine⟨_,_,_,_,_,_,_,_,_,_,_,_,_,_,_,_,_,_,_,_,_,_, ?_,rfl⟩
           exact⟨q+1,by go_num,by omega,HIa⟩
          case measure=>
           change 2 - (intOf (.int .i64 ((q:Int)+1))).toNat<2 - (intOf (.int .i64 (q:Int))).toNat
           simp only[intOf];omega
        · obtain rfl:q=2:=by omega
          have hP:=Hpost.out _ _ hI.out
          have HP:=Lib.hid hP
          clear hP
          clear hI
          go_wp2
          go_ret
          exact HP.out
end Go.Proofs.YtackmnbpfbaemaaGreatDoor
