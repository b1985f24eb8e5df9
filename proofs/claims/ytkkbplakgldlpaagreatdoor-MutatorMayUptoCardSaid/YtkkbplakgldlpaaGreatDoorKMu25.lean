/- Parts, joined: What a list of ops is read of, or why of none. Plain. No condition. What lies in a row of which memory: elements, members. Plain. No condition. What a key has in a list of pairs, in a reader of mutators. Condition: at most 10^8 pairs. Loads and stores of structs of many cells at once. Plain. No condition. A mutator's object, as data: it may be, where the mutator may. Plain. No condition. An op read of its object: as the program asks, and as the reference asks. Plain. No condition. What the program and the reference ask of a mutator's fields is the same. Plain. No condition. The table of the mutators' names. Plain. No condition. -/
import Derived.Test.YtkkbplakgldlpaaGreatDoorProg
import Derived.Deep.RegionHeld
import Derived.Deep.RegionHeld3
import Derived.Deep.Cut
import Derived.LoopTactic
import Derived.Lib.Hide
import Derived.Deep.MidRow
import Derived.Test.YtkkbplakgldlpaaGreatDoorKMu1
import Derived.Test.YtkkbplakgldlpaaGreatDoorKMu7
import Derived.Test.YtkkbplakgldlpaaGreatDoorKMu8
import Derived.Test.YtkkbplakgldlpaaGreatDoorKMu13
import Derived.Test.YtkkbplakgldlpaaGreatDoorKMu17
import Derived.Test.YtkkbplakgldlpaaGreatDoorKMu22
namespace Go.Proofs.YtkkbplakgldlpaaGreatDoor
abbrev noV:Val:=.mk 0 false 0 nil0 [] []
end Go.Proofs.YtkkbplakgldlpaaGreatDoor

namespace Go.Proofs.YtkkbplakgldlpaaGreatDoor
open Go Go.RowKit
theorem in_mem {S:Nat→Prop} {s n c g off:Nat} {w:World} {l:List D} {q:Nat} {d:D} {u0 v1:Value} (h:HoldsIn S w (.row s l) [.slice (some ⟨g,off,none⟩) n c]) (hi:l[q]? =some d) (hu: ∀(w:World) (B:Nat) cs,Holds w B d cs→cs[0]? =some u0) (hv:v1≠u0):
 S g∧ ∀cs:List Value,(∀j u,cs[j]? =some u→w.cell? ⟨g,off+q*s+j,none⟩=some u)→cs.length=s→HoldsIn S w d cs:=by
 obtain⟨g',off',e,hg,cs0,h1,hl0,hc0⟩:=h.now.at_ hi
 cases e
 have hf:=hc0 0 u0 (hu _ _ _ h1)
 have hge:S g:=by
  refine Classical.byContradiction fun hlt=>hv ?_
  obtain⟨g2,off2,e,_,cs1,h2,_,hc1⟩:=(h (w.setCell ⟨g,off+q*s+0,none⟩ v1) (by simp[World.setCell]) (fun p p1 p2=>World.cell?_setCell_far _ _ _ _ (by show g≠p.block;intro e;exact hlt (e▸p1)))).at_ hi
  cases e
  have:=hc1 0 u0 (hu _ _ _ h2)
  rw[World.cell?_setCell_same _ _ _ hf]at this
  exact Option.some.inj this
 refine⟨hge,fun cs hcs hl w'' hs hk=> ?_⟩
 obtain⟨g2,off2,e,_,cs2,h2,hl2,hc2⟩:=(h w'' hs hk).at_ hi
 cases e
 have:cs2=cs:=by
  refine List.ext_getElem? fun j=> ?_
  by_cases hj:j<s
  · obtain⟨u,hu1⟩: ∃u,cs2[j]? =some u:=⟨_,List.getElem?_eq_getElem (by omega)⟩
    obtain⟨u',hu2⟩: ∃u,cs[j]? =some u:=⟨_,List.getElem?_eq_getElem (by omega)⟩
    have e1:=hc2 j u hu1
    rw[hk _ hge hg,hcs j u' hu2]at e1
    rw[hu1,hu2,Option.some.inj e1]
  · rw[List.getElem?_eq_none (by omega),List.getElem?_eq_none (by omega)]
 rw[←this]
 exact h2
theorem inO_row {S:Nat→Prop} {w:World} {k':Int} {b':Bool} {n':Int} {t':ByteArray} {l':List Val} {o':List (ByteArray×Val)} {x0 x1 x2 x3 x4 oa:Value} (h:HoldsIn S w (dV (.mk k' b' n' t' l' o')) [x0,x1,x2,x3,x4,oa]):HoldsIn S w (.row 7 (dO o')) [oa]:=fun w'' h1 h2=>obj_row (h w'' h1 h2)
theorem inL_row {S:Nat→Prop} {w:World} {k':Int} {b':Bool} {n':Int} {t':ByteArray} {l':List Val} {o':List (ByteArray×Val)} {x0 x1 x2 x3 la x5:Value} (h:HoldsIn S w (dV (.mk k' b' n' t' l' o')) [x0,x1,x2,x3,la,x5]):HoldsIn S w (.row 6 (dL l')) [la]:=fun w'' h1 h2=>list_row (h w'' h1 h2)
theorem dV_first {k':Int} {b':Bool} {n':Int} {t':ByteArray} {l':List Val} {o':List (ByteArray×Val)} (w:World) (B:Nat) (cs:List Value) (h:Holds w B (dV (.mk k' b' n' t' l' o')) cs):cs[0]? =some (.int .i64 k'):=by
 have h6:=holdsV_of _ _ h
 simp only[HoldsV]at h6
 obtain⟨la,lc,oa,oc,rfl,_,_⟩:=h6
 rfl
theorem memIn_at {S:Nat→Prop} {w:World} {n c:Nat} {l:List (ByteArray×Val)} {a:Option Addr} (h:HoldsIn S w (.row 7 (dO l)) [.slice a n c]) {q:Nat} {key:ByteArray} {k':Int} {b':Bool} {n':Int} {t':ByteArray} {l':List Val} {o':List (ByteArray×Val)} (hi:l[q]? =some (key,.mk k' b' n' t' l' o')):
 ∃g off,a=some ⟨g,off,none⟩∧g<w.heap.size∧ ∃la lc oa oc,HoldsIn S w (dV (.mk k' b' n' t' l' o')) [.int .i64 k',.bool b',.int .i64 n',.string t',.slice la l'.length lc,.slice oa o'.length oc]∧
  w.cell? ⟨g,off+q*7,none⟩=some (.string key)∧w.cell? ⟨g,off+q*7+1,none⟩=some (.int .i64 k')∧w.cell? ⟨g,off+q*7+2,none⟩=some (.bool b')∧
  w.cell? ⟨g,off+q*7+3,none⟩=some (.int .i64 n')∧w.cell? ⟨g,off+q*7+4,none⟩=some (.string t')∧w.cell? ⟨g,off+q*7+5,none⟩=some (.slice la l'.length lc)∧w.cell? ⟨g,off+q*7+6,none⟩=some (.slice oa o'.length oc):=by
 obtain⟨g,off,rfl,hg,la,lc,oa,oc,_,c0,c1,c2,c3,c4,c5,c6⟩:=memP_at h.now hi
 refine⟨g,off,rfl,hg,la,lc,oa,oc, ?_,c0,c1,c2,c3,c4,c5,c6⟩
 have hm:=(in_mem (v1:=.bool false) h (d:=dP (key,.mk k' b' n' t' l' o')) (by rw[dO_map,List.getElem?_map,hi];rfl) dP_first (by simp)).2 [.string key,.int .i64 k',.bool b',.int .i64 n',.string t',.slice la l'.length lc,.slice oa o'.length oc] (fun j u hj=>by
  match j with
  |0=>cases hj;exact c0
  |1=>cases hj;exact c1
  |2=>cases hj;exact c2
  |3=>cases hj;exact c3
  |4=>cases hj;exact c4
  |5=>cases hj;exact c5
  |6=>cases hj;exact c6
  |j+7=>simp at hj) rfl
 exact fun w'' h1 h2=>dP_val (hm w'' h1 h2)
theorem elIn_at {S:Nat→Prop} {w:World} {n c:Nat} {l:List Val} {a:Option Addr} (h:HoldsIn S w (.row 6 (dL l)) [.slice a n c]) {q:Nat} {k':Int} {b':Bool} {n':Int} {t':ByteArray} {l':List Val} {o':List (ByteArray×Val)} (hi:l[q]? =some (.mk k' b' n' t' l' o')):
 ∃g off,a=some ⟨g,off,none⟩∧g<w.heap.size∧ ∃la lc oa oc,HoldsIn S w (dV (.mk k' b' n' t' l' o')) [.int .i64 k',.bool b',.int .i64 n',.string t',.slice la l'.length lc,.slice oa o'.length oc]∧
  w.cell? ⟨g,off+q*6,none⟩=some (.int .i64 k')∧w.cell? ⟨g,off+q*6+1,none⟩=some (.bool b')∧
  w.cell? ⟨g,off+q*6+2,none⟩=some (.int .i64 n')∧w.cell? ⟨g,off+q*6+3,none⟩=some (.string t')∧w.cell? ⟨g,off+q*6+4,none⟩=some (.slice la l'.length lc)∧w.cell? ⟨g,off+q*6+5,none⟩=some (.slice oa o'.length oc):=by
 obtain⟨g,off,ea,hg,cs,h1,_,h3⟩:=h.now.at_ (i:=q) (d:=dV (.mk k' b' n' t' l' o')) (by rw[dL_map,List.getElem?_map,hi];rfl)
 have h6:=holdsV_of _ _ h1
 simp only[HoldsV]at h6
 obtain⟨la,lc,oa,oc,rfl,_,_⟩:=h6
 subst ea
 have c0:=h3 0 _ rfl
 have c1:=h3 1 _ rfl
 have c2:=h3 2 _ rfl
 have c3:=h3 3 _ rfl
 have c4:=h3 4 _ rfl
 have c5:=h3 5 _ rfl
 refine⟨g,off,rfl,hg,la,lc,oa,oc, ?_,c0,c1,c2,c3,c4,c5⟩
 exact(in_mem (v1:=.bool false) h (d:=dV (.mk k' b' n' t' l' o')) (by rw[dL_map,List.getElem?_map,hi];rfl) dV_first (by simp)).2 _ (fun j u hj=>by
  match j with
  |0=>cases hj;exact c0
  |1=>cases hj;exact c1
  |2=>cases hj;exact c2
  |3=>cases hj;exact c3
  |4=>cases hj;exact c4
  |5=>cases hj;exact c5
  |j+6=>simp at hj) rfl
theorem HoldsIn.base {S:Nat→Prop} {w0 w:World} {d:D} {cs:List Value} (h:HoldsIn S w0 d cs) (hb:Below w0.heap.size w0 w):HoldsIn (fun i=>S i∧i<w0.heap.size) w d cs:=fun w'' h1 h2=>
 (h w'' (Nat.le_trans hb.size h1) fun p p1 p2=>(h2 p ⟨p1,p2⟩ (Nat.lt_of_lt_of_le p2 hb.size)).trans (hb.cell p2)).more hb.size
theorem HoldsIn.old_now {S:Nat→Prop} {w0 w:World} {d:D} {cs:List Value} (h:HoldsIn S w0 d cs) (hb:Below w0.heap.size w0 w):Holds w w.heap.size d cs:=(h.below hb).now
theorem six_in {S:Nat→Prop} {w4:World} {k:Int} {b:Bool} {n:Int} {t:ByteArray} {l:List Val} {o:List (ByteArray×Val)} {cs:List Value} (h:HoldsIn S w4 (dV (.mk k b n t l o)) cs): ∃la lc oa oc,cs= [.int .i64 k,.bool b,.int .i64 n,.string t,.slice la l.length lc,.slice oa o.length oc]:=by
 have h1:=holdsV_of _ _ h.now
 simp only[HoldsV]at h1
 obtain⟨la,lc,oa,oc,e,_,_⟩:=h1
 exact⟨la,lc,oa,oc,e⟩
theorem in_noV (S:Nat→Prop) (w:World):HoldsIn S w (dV noV) [.int .i64 0,.bool false,.int .i64 0,.string ⟨#[]⟩,.slice none 0 0,.slice none 0 0]:=fun w'' _ _=>by
 show Holds w'' w.heap.size (dV (.mk 0 false 0 ⟨#[]⟩ [] [])) _
 simp only[dV,Holds]
 exact HoldsA.six.2 ⟨[.slice none 0 0], [.slice none 0 0],rfl,rfl,rfl,rfl,rfl,⟨none,0,rfl,by simp[dL], [],rfl,by simp[dL]⟩,⟨none,0,rfl,by simp[dO], [],rfl,by simp[dO]⟩⟩
end Go.Proofs.YtkkbplakgldlpaaGreatDoor

namespace Go.Proofs.YtkkbplakgldlpaaGreatDoor
open Go Go.RowKit
theorem bl_no {a b:ByteArray} (h:a≠b):(a.toList==b.toList)=false∧(a==b)=false:=by
 refine⟨?_,by rw[ba_beq];simp[h]⟩
 cases e:(a.toList==b.toList)with
 |false=>rfl
 |true=>exact absurd (toList_inj (by simpa using e)) h
theorem bl_yes (a:ByteArray):(a.toList==a.toList)=true∧(a==a)=true:=⟨by simp,by rw[ba_beq];simp⟩
def FndPost (o:List (ByteArray×Val)) (key:ByteArray) (w:World) (e:Ending) (w':World):Prop:=Below w.heap.size w w'∧match findO key o with
 |none=>e=.returned (.tuple #[.agg zero6,.bool false])
 |some x=> ∃cs:List Value,e=.returned (.tuple #[.agg cs.toArray,.bool true])∧Holds w w.heap.size (dV x) cs
def FndIn (S:Nat→Prop) (w0:World) (o:List (ByteArray×Val)) (key:ByteArray) (w:World) (e:Ending) (w':World):Prop:=Below w.heap.size w w'∧match findO key o with
 |none=>e=.returned (.tuple #[.agg zero6,.bool false])
 |some x=> ∃cs:List Value,e=.returned (.tuple #[.agg cs.toArray,.bool true])∧HoldsIn S w0 (dV x) cs
structure FN (w wr:World):Prop where
 below:Below w.heap.size w wr
 res:Blk wr w.heap.size 27 zero6
theorem FN.alloc {w wr:World} (h:FN w wr) (o:Obj):FN w (wr.alloc o):=⟨h.below.alloc h.below.size o,h.res.alloc o⟩
set_option maxRecDepth 100000 in
set_option maxHeartbeats 8000000 in
theorem findI_calls (S:Nat→Prop) (o:List (ByteArray×Val)) (a:Option Addr) (c:Nat) (key:ByteArray) (w0 w:World) (hw:Below w0.heap.size w0 w) (h:HoldsIn S w0 (.row 7 (dO o)) [.slice a o.length c]) (hl:o.length≤100000000):
 Calls Tryz.prog 74 #[.slice a o.length c,.string key] w (FndIn S w0 o key w):=by
 have hI0:FN w (w.alloc (.cells zero6 27)):=⟨(Below.refl _ _).alloc (Nat.le_refl _) _,Blk.new w _ _⟩
 obtain⟨wi,hwi⟩: ∃wi,w.alloc (.cells zero6 27)=wi:=⟨_,rfl⟩
 rw[hwi]at hI0
 have hs0: ∀p ∈ o.take 0,p.1≠key:=by simp
 have HI0:=Lib.hid hI0
 have H:=Lib.hid h
 have Hs0:=Lib.hid hs0
 have Hw:=Lib.hid hw
 clear hI0 h hs0 hw
 go_enter Tryz.func74,Tryz.ntmps74
 go_upto_region 1 with(fail)
 clear hwi
 go_wp2_with (fail)
 go_loopw [11] (fun i wr=> ∃q:Nat,i=.int .i64 q∧q≤o.length∧Hid (∀p ∈ o.take q,p.1≠key)∧Hid (FN w wr)) (fun i _=>o.length - (intOf i).toNat)
 case atStart=>exact⟨0,rfl,Nat.zero_le _,Hs0,HI0⟩
 case round=>
  obtain⟨q,rfl,hq,hin,hI⟩:=hrel
  clear HI0 Hs0
  have hq0:(0:Int)≤q:=by omega
  by_cases hlt:q<o.length
  · obtain⟨p,hp⟩: ∃p,o[q]? =some p:=⟨_,List.getElem?_eq_getElem (by omega)⟩
    obtain⟨pkey,⟨pk,pb,pn,pt,pl,po⟩⟩:=p
    have hz:=hI.out.below.size
    have hbw:=Hw.out.trans (hI.out.below.mono Hw.out.size)
    obtain⟨g,off,rfl,hg,pla,plc,poa,poc,hv,d0,d1,d2,d3,d4,d5,d6⟩:=memIn_at H.out hp
    have c0:=(hbw.cell (p:=⟨g,off+q*7,none⟩) hg).trans d0
    have c1:=(hbw.cell (p:=⟨g,off+q*7+1,none⟩) hg).trans d1
    have c2:=(hbw.cell (p:=⟨g,off+q*7+2,none⟩) hg).trans d2
    have c3:=(hbw.cell (p:=⟨g,off+q*7+3,none⟩) hg).trans d3
    have c4:=(hbw.cell (p:=⟨g,off+q*7+4,none⟩) hg).trans d4
    have c5:=(hbw.cell (p:=⟨g,off+q*7+5,none⟩) hg).trans d5
    have c6:=(hbw.cell (p:=⟨g,off+q*7+6,none⟩) hg).trans d6
    clear d0 d1 d2 d3 d4 d5 d6
    have hgr:g<wr.heap.size:=Nat.lt_of_lt_of_le hg hbw.size
    have hq1:(q:Int)<(o.length:Int):=by omega
    have hIa:=hI.out.alloc (.cells #[.string pkey,.int .i64 pk,.bool pb,.int .i64 pn,.string pt,.slice pla pl.length plc,.slice poa po.length poc] 99)
    have hmb:=Blk.new wr 99 #[.string pkey,.int .i64 pk,.bool pb,.int .i64 pn,.string pt,.slice pla pl.length plc,.slice poa po.length poc]
    have htk:o.take (q+1)=o.take q++ [(pkey,.mk pk pb pn pt pl po)]:=by rw[List.take_add_one,hp];simp
    by_cases hkk:pkey=key
    · subst hkk
      obtain⟨e1,e2⟩:=bl_yes pkey
      have hfind:=findO_take (o:=o) hin.out hp rfl
      have hlow:=hI.out.res.lt
      have Hv:=Lib.hid hv
      have Hp:=Lib.hid hp
      have Htk:=Lib.hid htk
      have Hfind:=Lib.hid hfind
      clear hv hp htk hfind
      clear hI hin
      go_upto_region 5 with(fail)
      clear c0 c1 c2 c3 c4 c5 c6
      generalize wr.alloc (.cells #[.string pkey,.int .i64 pk,.bool pb,.int .i64 pn,.string pt,.slice pla pl.length plc,.slice poa po.length poc] 99)=wa at hIa hmb ⊢
      obtain⟨r0,r1,r2,r3,r4,r5⟩:=vcell hIa.res
      have fz:=hIa.res.frozen
      have lt1:=hIa.res.lt
      have m1:=hmb.cell 1
      have m2:=hmb.cell 2
      have m3:=hmb.cell 3
      have m4:=hmb.cell 4
      have m5:=hmb.cell 5
      have m6:=hmb.cell 6
      have ml:=hmb.lt
      have HIa:=Lib.hid hIa
      have Hmb:=Lib.hid hmb
      clear hIa hmb
      repeat go_step
      have hxf:=(((((HIa.out.res.set_ 0 (.int .i64 pk)).set_ 1 (.bool pb)).set_ 2 (.int .i64 pn)).set_ 3 (.string pt)).set_ 4 (.slice pla pl.length plc)).set_ 5 (.slice poa po.length poc)
      have hbf:=setMany_below [.int .i64 pk,.bool pb,.int .i64 pn,.string pt,.slice pla pl.length plc,.slice poa po.length poc] HIa.out.below (Nat.le_refl w.heap.size) (o:=0)
      refine bodyPost_ret (results_cell6_t rfl rfl hxf) rfl ⟨hbf, ?_⟩
      rw[Hfind.out]
      exact⟨_,rfl,Hv.out⟩
    · obtain⟨e1,e2⟩:=bl_no hkk
      have hin':Hid (∀p ∈ o.take (q+1),p.1≠key):=by
       refine Lib.hid ?_
       rw[htk]
       intro p hp
       rcases List.mem_append.1 hp with h|h
       · exact hin.out p h
       · obtain rfl:=List.mem_singleton.1 h
         exact hkk
      have HIa:=Lib.hid hIa
      have Hmb:=Lib.hid hmb
      have Hv:=Lib.hid hv
      have Hp:=Lib.hid hp
      have Htk:=Lib.hid htk
      clear hIa hmb hv hp htk
      clear hI hin hkk
      go_wp2
      go_roundw
      case rel=>exact⟨q+1,by go_num,by omega,hin',HIa⟩
      case measure=>simp only[intOf];omega
  · obtain rfl:q=o.length:=by omega
    have hnone:=findO_all (k:=key) (o:=o) (by
     have:=hin.out
     rwa [List.take_length]at this)
    have hI2:=hI.out.alloc (.cells zero6 27)
    have hnb:=Blk.new wr 27 zero6
    obtain⟨r0,r1,r2,r3,r4,r5⟩:=vcell hI2.res
    have fz:=hI2.res.frozen
    have lt1:=hI2.res.lt
    have Hnone:=Lib.hid hnone
    have HI2:=Lib.hid hI2
    have Hnb:=Lib.hid hnb
    clear hnone hI2 hnb
    clear hin
    go_upto_region 8 with(fail)
    repeat go_step
    have hxf:=(((((HI2.out.res.set_ 0 (.int .i64 0)).set_ 1 (.bool false)).set_ 2 (.int .i64 0)).set_ 3 (.string ⟨#[]⟩)).set_ 4 (.slice none 0 0)).set_ 5 (.slice none 0 0)
    have hbf:=setMany_below [.int .i64 0,.bool false,.int .i64 0,.string ⟨#[]⟩,.slice none 0 0,.slice none 0 0] HI2.out.below (Nat.le_refl w.heap.size) (o:=0)
    refine bodyPost_ret (results_cell6_t rfl rfl hxf) rfl ⟨hbf, ?_⟩
    rw[Hnone.out]
    rfl
theorem findV_calls (o:List (ByteArray×Val)) (a:Option Addr) (c:Nat) (key:ByteArray) (w:World) (h:Holds w w.heap.size (.row 7 (dO o)) [.slice a o.length c]) (hl:o.length≤100000000):
 Calls Tryz.prog 74 #[.slice a o.length c,.string key] w (FndPost o key w):=by
 refine(findI_calls (fun i=>i<w.heap.size) o a c key w w (Below.refl _ _) (HoldsIn.of_old h (Nat.le_refl _) (Below.refl _ _)) hl).mono ?_
 rintro e w' ⟨h1,h2⟩
 refine⟨h1, ?_⟩
 split
 · rename_i e0
   rw[e0]at h2
   exact h2
 · rename_i x e0
   rw[e0]at h2
   obtain⟨cs,h3,h4⟩:=h2
   exact⟨cs,h3,h4.now⟩
end Go.Proofs.YtkkbplakgldlpaaGreatDoor

namespace Go.Proofs.YtkkbplakgldlpaaGreatDoor
open Go Go.RowKit
theorem setCells_new (w:World) (t:TypeId): ∀(vs:List Value) (cs:Array Value) (o:Nat),(w.alloc (.cells cs t)).setCells w.heap.size o vs=w.alloc (.cells (over cs o vs) t)
 | [],_,_=>rfl
 |v::r,cs,o=>by
  rw[World.setCells,World.setCell_alloc_at cs t _ o v rfl,setCells_new w t r]
  rfl
theorem over_all (cs0 cs:Array Value) (h:cs0.size=cs.size):over cs0 0 cs.toList=cs:=by
 refine Array.ext_getElem? fun i=> ?_
 rw[over_get _ _ _ _ (by simp[h])]
 by_cases hi:i<cs.size
 · rw[if_pos (by simpa using hi)];simp
 · rw[if_neg (by simpa using hi),Array.getElem?_eq_none (by omega),Array.getElem?_eq_none (by omega)]
theorem blk_range {w:World} {g:Nat} {t:TypeId} {cs:Array Value} (h:Blk w g t cs):w.rangeAt g 0 cs.toList:=fun j v hv=>by
 rw[Nat.zero_add];exact(h.cell j).trans (by rw[←Array.getElem?_toList];exact hv)
section
variable {P:Program}
theorem wp_store_new {op:Oper} {a:Act} {w:World} {K:Act→World→Prop} {Q:Exit→Act→World→Prop} (ty:TypeId) (x y:Operand) (ho:op.op=.store ty x y) {cs0:Array Value} {t:TypeId} (cs:Array Value)
 (hx:a.eval x=.pointer (some ⟨w.heap.size,0,none⟩)) (hy:a.eval y=.agg cs) (hs:cs0.size=cs.size) (hi:(P.info? ty).map (·.size)=some cs.size) (h1:cs.all (·.oneCell')=true)
 (h:K (a.put op.dst undef) (w.alloc (.cells cs t))):op.wp P a (w.alloc (.cells cs0 t)) K Q:=by
 refine wp_store_mid ty x y ho w.heap.size 0 cs hx hy (fun j hj=> ?_) hi h1 ?_
 · have hb:=Blk.new w t cs0
   refine⟨?_,hb.frozen _⟩
   rw[Nat.zero_add,hb.cell j,Array.getElem?_eq_getElem (by omega)]
   rfl
 · rw[setCells_new,over_all _ _ hs]
   exact h
theorem wp_load_blk {op:Oper} {a:Act} {w:World} {K:Act→World→Prop} {Q:Exit→Act→World→Prop} (ty:TypeId) (x:Operand) (ho:op.op=.load ty x) (g:Nat) {t:TypeId} (cs:Array Value) (hb:Blk w g t cs)
 (hx:a.eval x=.pointer (some ⟨g,0,none⟩)) (d:TypeDesc) (hu:P.underlying ty=some d) (hd:d.isRow=true) (hi:(P.info? ty).map (·.size)=some cs.size)
 (h:K (a.put op.dst (.agg cs)) w):op.wp P a w K Q:=by
 refine wp_load_mid ty x ho g 0 hx cs.toList d (blk_range hb) hu hd (by simpa using hi) ?_
 simpa using h
theorem setCells_many (b:Nat): ∀(vs:List Value) (o:Nat) (w:World),w.setCells b o vs=setMany w b o vs
 | [],_,_=>rfl
 |_::r,o,_=>by rw[World.setCells,setMany,setCells_many b r]
theorem run_storeVar_any (w:World) (b o:Nat) (ty:TypeId) (v:Value) (ht:w.there b o v.cells.size) (hi:(P.info? ty).map (·.size)=some v.cells.size) (h1: ∀u ∈ v.cells.toList,u.oneCell'=true):
 (storeVar ty ⟨b,o,none⟩ v).run P w=.ok () (w.setCells b o v.cells.toList):=by
 have:=run_storeCells_cells (P:=P) b o v.cells.toList 0 w (fun j hj=>by simpa using(ht j (by simpa using hj)).1) (fun j hj=>by simpa using(ht j (by simpa using hj)).2) h1
 cases hq:P.info? ty with
 |none=>simp[hq]at hi
 |some i=>
  have hs:v.cells.size=i.size:=by simp[hq]at hi;omega
  simp only[Nat.add_zero]at this
  simp[storeVar,sizeOf,typeInfo,hq,hs,this]
theorem wp_store_blk {op:Oper} {a:Act} {w:World} {K:Act→World→Prop} {Q:Exit→Act→World→Prop} (ty:TypeId) (x y:Operand) (ho:op.op=.store ty x y) (g o:Nat) {t:TypeId} {cs:Array Value} (hb:Blk w g t cs) (v:Value)
 (hx:a.eval x=.pointer (some ⟨g,o,none⟩)) (hy:a.eval y=v) (hl:o+v.cells.size≤cs.size) (hi:(P.info? ty).map (·.size)=some v.cells.size) (h1: ∀u ∈ v.cells.toList,u.oneCell'=true)
 {B:Nat} {w0:World} (hB:Below B w0 w) (hg:B≤g) (h: ∀w',Blk w' g t (over cs o v.cells.toList)→Below B w0 w'→K (a.put op.dst undef) w'):op.wp P a w K Q:=by
 have ht:w.there g o v.cells.size:=fun j hj=>by
  refine⟨?_,hb.frozen _⟩
  rw[hb.cell (o+j),Array.getElem?_eq_getElem (by omega)]
  rfl
 unfold Oper.wp execOp
 simp only[ho,hx,hy,Instr.storeAt,Instr.sureAddr,Sem.run_bind,Sem.run_pure,Result.andThen_ok,run_storeVar_any w g o ty v ht hi h1]
 rw[setCells_many]
 exact h _ (setMany_at _ hb) (setMany_below _ hB hg)
end
end Go.Proofs.YtkkbplakgldlpaaGreatDoor

namespace Go.Proofs.YtkkbplakgldlpaaGreatDoor
open Go.RowKit
abbrev kArgs:ByteArray:=⟨#[97,114,103,115]⟩
abbrev kName:ByteArray:=⟨#[110,97,109,101]⟩
abbrev kBy:ByteArray:=⟨#[98,121]⟩
abbrev kIs:ByteArray:=⟨#[105,115]⟩
abbrev kWas:ByteArray:=⟨#[119,97,115]⟩
abbrev kFrom:ByteArray:=⟨#[102,114,111,109]⟩
abbrev kTo:ByteArray:=⟨#[116,111]⟩
abbrev kDo:ByteArray:=⟨#[100,111]⟩
abbrev kIf:ByteArray:=⟨#[105,102]⟩
abbrev nPut:ByteArray:=⟨#[112,117,116]⟩
abbrev nDel:ByteArray:=⟨#[100,101,108]⟩
abbrev nInc:ByteArray:=⟨#[105,110,99]⟩
abbrev nCas:ByteArray:=⟨#[99,97,115]⟩
abbrev nApp:ByteArray:=⟨#[97,112,112,101,110,100]⟩
abbrev nMove:ByteArray:=⟨#[109,111,118,101]⟩
abbrev nSeq:ByteArray:=⟨#[115,101,113]⟩
def nameM (k:Int):ByteArray:=if k=1 then nPut else if k=2 then nDel else if k=3 then nInc else if k=4 then nCas else if k=5 then nApp else if k=6 then nMove else nSeq
def guardO (key:ByteArray) (had:Bool) (was:Val):List (ByteArray×Val):=(kKey,tv key)::(if had then [(kWas,was)]else [])
mutual
def mutV:Mut→Val
 | .mk k key dst n had was has v l=>ov [(kArgs,ov (if k=1∨k=5 then [(kKey,tv key),(kVal,v)]else if k=2 then [(kKey,tv key)]else if k=3 then [(kBy,iv n),(kKey,tv key)]
    else if k=4 then(if has then [(kIs,v)]else [])++guardO key had was
    else if k=6 then [(kFrom,tv key),(kTo,tv dst)]
    else(kDo,lv (mutVs l))::(if key.toList.isEmpty then []else [(kIf,ov (guardO key had was))]))),(kName,tv (nameM k))]
def mutVs:List Mut→List Val
 | []=> []
 |m::r=>mutV m::mutVs r
end
theorem mutVs_map: ∀l:List Mut,mutVs l=l.map mutV
 | []=>rfl
 |m::r=>by simp only[mutVs,List.map_cons,mutVs_map r]
theorem mutVs_len (l:List Mut):(mutVs l).length=l.length:=by rw[mutVs_map,List.length_map]
theorem name_valid (k:Int):validB (nameM k)=true:=by
 unfold nameM
 split
 · decide
 split
 · decide
 split
 · decide
 split
 · decide
 split
 · decide
 split
 · decide
 · decide
theorem no_last (k:ByteArray): ∀q,(none:Option ByteArray)=some q→leB k q=false:=fun _ e=>by cases e
theorem a_last {k p:ByteArray} (h:leB k p=false): ∀q,some p=some q→leB k q=false:=fun _ e=>by cases e;exact h
theorem may_fits {v:Val} {d:Int} (h:fitsV v=0) (hd:d≤48):mayV v d=0:=by
 obtain⟨f1,f2,_⟩:=fits_parts h
 exact mayV_deeper v _ 1 f1 (by omega)
theorem short_valid {s:ByteArray} (h:shortB s=true):validB s=true:=by
 unfold shortB at h
 simp only[Bool.and_eq_true]at h
 exact h.2
theorem mayM_parts {k:Int} {key dst:ByteArray} {n:Int} {had:Bool} {was:Val} {has:Bool} {v:Val} {l:List Mut} {d:Int} (h:mayM (.mk k key dst n had was has v l) d=0):
 bareF k dst n had (zeroB was) has (zeroB v) l.length=true∧d≤6∧keyedB k key dst had=true∧(had=true→fitsV was=0)∧((has||decide (k=1)||decide (k=5))=true→fitsV v=0)∧mayMs l (d+1)=0:=by
 simp only[mayM]at h
 by_cases h1:bareF k dst n had (zeroB was) has (zeroB v) l.length=false
 · rw[if_pos h1]at h;cases h
 rw[if_neg h1]at h
 by_cases h2:6<d
 · rw[if_pos h2]at h;cases h
 rw[if_neg h2]at h
 by_cases h3:keyedB k key dst had=false
 · rw[if_pos h3]at h;cases h
 rw[if_neg h3]at h
 by_cases h4:had=true∧fitsV was≠0
 · rw[if_pos h4]at h;exact absurd h h4.2
 rw[if_neg h4]at h
 by_cases h5:(has||decide (k=1)||decide (k=5))=true∧fitsV v≠0
 · rw[if_pos h5]at h;exact absurd h h5.2
 rw[if_neg h5]at h
 exact⟨by simpa using h1,by omega,by simpa using h3,fun e=>by by_cases e2:fitsV was=0;exact e2;exact absurd ⟨e,e2⟩ h4,fun e=>by by_cases e2:fitsV v=0;exact e2;exact absurd ⟨e,e2⟩ h5,h⟩
theorem mayMs_mem {l:List Mut} {d:Int} (h:mayMs l d=0): ∀m ∈ l,mayM m d=0:=by
 induction l with
 |nil=>intro m hm;cases hm
 |cons x r ih=>
  simp only[mayMs]at h
  by_cases hx:mayM x d=0
  · rw[if_pos hx]at h
    intro m hm
    rcases List.mem_cons.1 hm with rfl|hm
    · exact hx
    · exact ih h m hm
  · rw[if_neg hx]at h;exact absurd h hx
theorem bare_kind {k:Int} {dst:ByteArray} {n:Int} {had wasZ has valZ:Bool} {ln:Nat} (h:bareF k dst n had wasZ has valZ ln=true):1≤k∧k≤7:=by
 unfold bareF at h
 simp only[Bool.and_eq_true,decide_eq_true_eq]at h
 exact⟨by omega,by omega⟩
theorem may_guard {key:ByteArray} {had:Bool} {was:Val} {d:Int} (hk:validB key=true) (hw:had=true→fitsV was=0) (hd:d≤48) {last:Option ByteArray} (hl: ∀q,last=some q→leB kKey q=false):mayO (guardO key had was) last d=0:=by
 have v1:validB kKey=true:=by decide
 have v2:validB kWas=true:=by decide
 have l1:leB kWas kKey=false:=by decide+kernel
 unfold guardO
 refine mayO_cons v1 (may_tv hk (by omega)) hl ?_
 cases had with
 |false=>simp[mayO]
 |true=>simpa using mayO_cons v2 (may_fits (hw rfl) hd) (a_last l1) (by simp[mayO])
theorem may_mutV: ∀(m:Mut) (e d:Int),mayM m e=0→1≤e→d+3*(6 - e)≤40→mayV (mutV m) d=0:=by
 refine Mut.ind ?_
 intro k key dst n had was has v l IH e d h he hd
 obtain⟨h1,h2,h3,h4,h5,h6⟩:=mayM_parts h
 obtain⟨k1,k7⟩:=bare_kind h1
 have b1:validB kArgs=true:=by decide
 have b2:validB kName=true:=by decide
 have b3:validB kKey=true:=by decide
 have b4:validB kVal=true:=by decide
 have b5:validB kBy=true:=by decide
 have b6:validB kIs=true:=by decide
 have b7:validB kFrom=true:=by decide
 have b8:validB kTo=true:=by decide
 have b9:validB kDo=true:=by decide
 have b10:validB kIf=true:=by decide
 have l1:leB kName kArgs=false:=by decide+kernel
 have l2:leB kVal kKey=false:=by decide+kernel
 have l3:leB kKey kBy=false:=by decide+kernel
 have l4:leB kKey kIs=false:=by decide+kernel
 have l5:leB kTo kFrom=false:=by decide+kernel
 have l6:leB kIf kDo=false:=by decide+kernel
 simp only[mutV]
 refine may_ov (by omega) (mayO_cons b1 (may_ov (by omega) ?_) (no_last _) (mayO_cons b2 (may_tv (name_valid k) (by omega)) (a_last l1) (by simp[mayO])))
 by_cases e1:k=1∨k=5
 · rw[if_pos e1]
   have hkey:validB key=true:=keyB_valid (by unfold keyedB at h3;rwa [if_neg (by omega),if_neg (by rintro⟨rfl,_⟩;omega)]at h3)
   have hf:fitsV v=0:=h5 (by rcases e1 with rfl|rfl<;>simp)
   exact mayO_cons b3 (may_tv hkey (by omega)) (no_last _) (mayO_cons b4 (may_fits hf (by omega)) (a_last l2) (by simp[mayO]))
 rw[if_neg e1]
 by_cases e2:k=2
 · rw[if_pos e2]
   have hkey:validB key=true:=keyB_valid (by unfold keyedB at h3;rwa [if_neg (by omega),if_neg (by rintro⟨rfl,_⟩;omega)]at h3)
   exact mayO_cons b3 (may_tv hkey (by omega)) (no_last _) (by simp[mayO])
 rw[if_neg e2]
 by_cases e3:k=3
 · rw[if_pos e3]
   have hkey:validB key=true:=keyB_valid (by unfold keyedB at h3;rwa [if_neg (by omega),if_neg (by rintro⟨rfl,_⟩;omega)]at h3)
   exact mayO_cons b5 (may_iv (by omega)) (no_last _) (mayO_cons b3 (may_tv hkey (by omega)) (a_last l3) (by simp[mayO]))
 rw[if_neg e3]
 by_cases e4:k=4
 · rw[if_pos e4]
   have hkey:validB key=true:=keyB_valid (by unfold keyedB at h3;rwa [if_neg (by omega),if_neg (by rintro⟨rfl,_⟩;omega)]at h3)
   cases has with
   |false=>simpa using may_guard hkey h4 (by omega) (no_last _)
   |true=>exact mayO_cons b6 (may_fits (h5 (by simp)) (by omega)) (no_last _) (may_guard hkey h4 (by omega) (a_last l4))
 rw[if_neg e4]
 by_cases e6:k=6
 · rw[if_pos e6]
   unfold keyedB at h3
   rw[if_pos e6,Bool.and_eq_true]at h3
   exact mayO_cons b7 (may_tv (short_valid h3.1) (by omega)) (no_last _) (mayO_cons b8 (may_tv (short_valid h3.2) (by omega)) (a_last l5) (by simp[mayO]))
 rw[if_neg e6]
 obtain rfl:k=7:=by omega
 have hdo: ∀f:Int,f=d+1+1→mayV (lv (mutVs l)) f=0:=by
  rintro f rfl
  refine may_lv (by omega) ?_
  rw[mutVs_map]
  refine mayL_ofQ fun x hx=> ?_
  obtain⟨m,hm,rfl⟩:=List.mem_map.1 hx
  exact IH m hm (e+1) _ (mayMs_mem h6 m hm) (by omega) (by omega)
 refine mayO_cons b9 (hdo _ rfl) (no_last _) ?_
 by_cases hke:key.toList.isEmpty=true
 · rw[if_pos hke];simp[mayO]
 · rw[if_neg hke]
   have hkey:validB key=true:=keyB_valid (by unfold keyedB at h3;rwa [if_neg (by omega),if_neg (by rintro⟨_,h⟩;exact hke h)]at h3)
   exact mayO_cons b10 (may_ov (by omega) (may_guard hkey h4 (by omega) (no_last _))) (a_last l6) (by simp[mayO])
theorem in_tv (s:ByteArray):inV (tv s):=by simp only[tv,inV,inL,inO];exact⟨by omega,trivial,trivial⟩
theorem in_ivM {n:Int} (h: -9223372036854775808≤n∧n≤9223372036854775807):inV (iv n):=by simp only[iv,inV,inL,inO];exact⟨h,trivial,trivial⟩
theorem in_ov {o:List (ByteArray×Val)} (h:inO o):inV (ov o):=by simp only[ov,inV,inL];exact⟨by omega,trivial,h⟩
theorem in_lv {l:List Val} (h:inL l):inV (lv l):=by simp only[lv,inV,inO];exact⟨by omega,h,trivial⟩
theorem in_guard (key:ByteArray) (had:Bool) {was:Val} (h:inV was):inO (guardO key had was):=by
 unfold guardO
 cases had with
 |false=>exact⟨in_tv key,trivial⟩
 |true=>exact⟨in_tv key,h,trivial⟩
theorem inL_map: ∀{l:List Mut},(∀m ∈ l,inV (mutV m))→inL (mutVs l)
 | [],_=>trivial
 |m::r,h=>⟨h m (by simp),inL_map fun x hx=>h x (by simp[hx])⟩
theorem in_mutV: ∀m:Mut,inM m→inV (mutV m):=by
 refine Mut.ind ?_
 intro k key dst n had was has v l IH h
 simp only[inM]at h
 obtain⟨h1,h2,h3,h4⟩:=h
 simp only[mutV]
 refine in_ov ⟨in_ov ?_,in_tv (nameM k),trivial⟩
 split
 · exact⟨in_tv key,h3,trivial⟩
 split
 · exact⟨in_tv key,trivial⟩
 split
 · exact⟨in_ivM h1,in_tv key,trivial⟩
 split
 · cases has with
   |false=>exact in_guard key had h2
   |true=>exact⟨h3,in_guard key had h2⟩
 split
 · exact⟨in_tv key,in_tv dst,trivial⟩
 · refine⟨in_lv (inL_map fun m hm=>IH m hm (inMs_mem hm h4)), ?_⟩
   split
   · trivial
   · exact⟨in_ov (in_guard key had h2),trivial⟩
theorem bulk_guard (key:ByteArray) (had:Bool) (was:Val):bulkO (guardO key had was)≤20+key.size+was.bulk:=by
 have e1:(⟨#[]⟩:ByteArray).size=0:=rfl
 have e2:kKey.size=3:=rfl
 have e3:kWas.size=3:=rfl
 unfold guardO
 cases had with
 |false=>simp only[Bool.false_eq_true,if_false,bulkO,bulkP,tv,Val.bulk,bulkL,e2];omega
 |true=>simp only[if_true,bulkO,bulkP,tv,Val.bulk,bulkL,e2,e3];omega
theorem name_size (k:Int):(nameM k).size≤6:=by
 unfold nameM
 split
 · decide
 split
 · decide
 split
 · decide
 split
 · decide
 split
 · decide
 split
 · decide
 · decide
theorem bulk_mutV: ∀m:Mut,(mutV m).bulk≤12*bulkM m:=by
 refine Mut.ind ?_
 intro k key dst n had was has v l IH
 have hl:bulkL (mutVs l)≤12*bulkMs l:=by
  induction l with
  |nil=>simp[mutVs,bulkL]
  |cons m r ih=>
   have h1:=IH m (by simp)
   have h2:=ih fun x hx=>IH x (by simp[hx])
   simp only[mutVs,bulkL,bulkMs];omega
 have hg:=bulk_guard key had was
 have hn:=name_size k
 have e1:(⟨#[]⟩:ByteArray).size=0:=rfl
 have c1:kArgs.size=4:=rfl
 have c2:kName.size=4:=rfl
 have c3:kKey.size=3:=rfl
 have c4:kVal.size=5:=rfl
 have c5:kBy.size=2:=rfl
 have c6:kIs.size=2:=rfl
 have c7:kFrom.size=4:=rfl
 have c8:kTo.size=2:=rfl
 have c9:kDo.size=2:=rfl
 have c10:kIf.size=2:=rfl
 simp only[mutV,bulkM]
 split
 · simp only[ov,tv,Val.bulk,bulkL,bulkO,bulkP,e1,c1,c2,c3,c4];omega
 split
 · simp only[ov,tv,Val.bulk,bulkL,bulkO,bulkP,e1,c1,c2,c3];omega
 split
 · simp only[ov,tv,iv,Val.bulk,bulkL,bulkO,bulkP,e1,c1,c2,c3,c5];omega
 split
 · cases has with
   |false=>simp only[Bool.false_eq_true,if_false,List.nil_append,ov,tv,Val.bulk,bulkL,bulkO,bulkP,e1,c1,c2];omega
   |true=>simp only[if_true,List.singleton_append,ov,tv,Val.bulk,bulkL,bulkO,bulkP,e1,c1,c2,c6];omega
 split
 · simp only[ov,tv,Val.bulk,bulkL,bulkO,bulkP,e1,c1,c2,c7,c8];omega
 · split
   · simp only[ov,lv,tv,Val.bulk,bulkL,bulkO,bulkP,e1,c1,c2,c9];omega
   · simp only[ov,lv,tv,Val.bulk,bulkL,bulkO,bulkP,e1,c1,c2,c9,c10];omega
end Go.Proofs.YtkkbplakgldlpaaGreatDoor

namespace Go.Proofs.YtkkbplakgldlpaaGreatDoor
end Go.Proofs.YtkkbplakgldlpaaGreatDoor

namespace Go.Proofs.YtkkbplakgldlpaaGreatDoor
open Go.RowKit
def strangeF (k:Int) (dst:ByteArray) (n:Int) (had wasZ has valZ:Bool) (ln:Nat):Bool:=
 if(!had&& !wasZ)=true then true
 else if k=1∨k=5 then !(dst.toList.isEmpty&&decide (n=0)&& !had&&wasZ&& !has&&decide (ln=0))
 else if k=2 then !(dst.toList.isEmpty&&decide (n=0)&& !had&&wasZ&& !has&&valZ&&decide (ln=0))
 else if k=3 then !(dst.toList.isEmpty&& !had&&wasZ&& !has&&valZ&&decide (ln=0))
 else if k=4 then(!has&& !valZ)|| !(dst.toList.isEmpty&&decide (n=0)&&decide (ln=0))
 else if k=6 then !(decide (n=0)&& !had&&wasZ&& !has&&valZ&&decide (ln=0))
 else if k=7 then !(dst.toList.isEmpty&&decide (n=0)&& !has&&valZ)
 else true
theorem strange_bare (k:Int) (dst:ByteArray) (n:Int) (had wasZ has valZ:Bool) (ln:Nat):strangeF k dst n had wasZ has valZ ln= !bareF k dst n had wasZ has valZ ln:=by
 unfold strangeF bareF
 generalize dst.toList.isEmpty=e
 generalize hz:decide (n=0)=z
 generalize hy:decide (ln=0)=y
 by_cases h1:k=1
 · subst h1;simp;cases e<;>cases z<;>cases y<;>cases had<;>cases wasZ<;>cases has<;>cases valZ<;>rfl
 by_cases h5:k=5
 · subst h5;simp;cases e<;>cases z<;>cases y<;>cases had<;>cases wasZ<;>cases has<;>cases valZ<;>rfl
 by_cases h2:k=2
 · subst h2;simp;cases e<;>cases z<;>cases y<;>cases had<;>cases wasZ<;>cases has<;>cases valZ<;>rfl
 by_cases h3:k=3
 · subst h3;simp;cases e<;>cases z<;>cases y<;>cases had<;>cases wasZ<;>cases has<;>cases valZ<;>rfl
 by_cases h4:k=4
 · subst h4;simp;cases e<;>cases z<;>cases y<;>cases had<;>cases wasZ<;>cases has<;>cases valZ<;>rfl
 by_cases h6:k=6
 · subst h6;simp;cases e<;>cases z<;>cases y<;>cases had<;>cases wasZ<;>cases has<;>cases valZ<;>rfl
 by_cases h7:k=7
 · subst h7;simp;cases e<;>cases z<;>cases y<;>cases had<;>cases wasZ<;>cases has<;>cases valZ<;>rfl
 have:(decide (1≤k)&&decide (k≤7))=false:=by simp;omega
 simp[h1,h2,h3,h4,h5,h6,h7,this]
end Go.Proofs.YtkkbplakgldlpaaGreatDoor

namespace Go.Proofs.YtkkbplakgldlpaaGreatDoor
open Go.RowKit
def MNames (w:World):Prop:=w.cell? ⟨0,1,none⟩=some (.string nPut)∧w.cell? ⟨0,2,none⟩=some (.string nDel)∧w.cell? ⟨0,3,none⟩=some (.string nInc)∧w.cell? ⟨0,4,none⟩=some (.string nCas)∧w.cell? ⟨0,5,none⟩=some (.string nApp)∧w.cell? ⟨0,6,none⟩=some (.string nMove)∧w.cell? ⟨0,7,none⟩=some (.string nSeq)∧0<w.heap.size
theorem MNames.below {w w':World} (h:MNames w) (hb:Below w.heap.size w w'):MNames w':=by
 obtain⟨h1,h2,h3,h4,h5,h6,h7,h8⟩:=h
 exact⟨(hb.cell h8).trans h1,(hb.cell h8).trans h2,(hb.cell h8).trans h3,(hb.cell h8).trans h4,(hb.cell h8).trans h5,(hb.cell h8).trans h6,(hb.cell h8).trans h7,Nat.lt_of_lt_of_le h8 hb.size⟩
end Go.Proofs.YtkkbplakgldlpaaGreatDoor
