/- Parts, joined: parse.reader.number. Condition: a text of at most 10^8 bytes. parse.reader.value. Condition: a text of at most 10^8 bytes. parse.reader.value, whole. Condition: a text of at most 10^8 bytes. parse.Parse's results' variables, while its panic is caught. No condition. parse.Parse$1: what is done with a panic. No condition. -/
import Derived.Test.YtkkbplakgldlpaaGreatDoorProg
import Derived.Lib.SmallJoins
import Derived.Defers
import Derived.Recover
import Derived.Laws.Pointers
import Derived.Deep.RegionHeld3
import Derived.Test.YtkkbplakgldlpaaGreatDoorKMu17
import Derived.Test.YtkkbplakgldlpaaGreatDoorKMu21
import Derived.Test.YtkkbplakgldlpaaGreatDoorKMu23
import Derived.Test.YtkkbplakgldlpaaGreatDoorKMu24
namespace Go.Proofs.YtkkbplakgldlpaaGreatDoor
open Go Go.RowKit
def NumT (w:World):Prop:= ∃te pe,w.cell? ⟨6,0,none⟩=some (.iface te pe)
structure NRd (w wr:World) (R g:Nat) (s:ByteArray) (j:Nat):Prop where
 went:RdTo R g s j w wr
 res:Blk wr w.heap.size 27 zero6
set_option maxRecDepth 100000 in
set_option maxHeartbeats 8000000 in
theorem rdnum_calls (R g:Nat) (s:ByteArray) (k:Nat) (d:Int) (w:World) (hN: ∀W,w.grownBy W (some R)→NumT W) (hs:s.size≤100000000) (hk:k<s.size) (h:RdB w R g s k):
 Calls Tryz.prog 140 #[.pointer (some ⟨R,0,none⟩),.int .i64 d] w (RVPost R g s w ((numberAt s.data.toList k).map intV)):=by
 have hR:R<w.heap.size:=Blk.lt h
 obtain⟨c,hc⟩: ∃c,s[k]=c:=⟨_,rfl⟩
 have hg:s.data.toList[k]? =some c:=by rw[get_byte s hk,hc]
 have hcl:=byte_lt c
 obtain⟨F,hF⟩: ∃F,(if s.data.toList[k]? =some 45 then k+1 else k)=F:=⟨_,rfl⟩
 obtain⟨RES,hRES⟩: ∃r,(numberAt s.data.toList k).map intV=r:=⟨_,rfl⟩
 rw[hRES]
 unfold numberAt at hRES
 rw[hF]at hRES
 have hFk:k≤F∧F≤k+1:=by rw[←hF];split<;>omega
 have hI0:NRd w (w.alloc (.cells zero6 27)) R g s k:=⟨(RdTo.refl h).alloc _,Blk.new _ _ _⟩
 have hb45:((c.toNat:Int)==45)=decide (c=45):=by rw[show(45:Int)=((45:Nat):Int)from rfl,byte_eq (by decide)];rfl
 obtain⟨c0,c1,_,f1,_⟩:=h.cells
 have i0:(0:Int)≤(k:Int):=by omega
 have i1:(k:Int)<(s.size:Int):=by omega
 have HI0:=Lib.hid hI0
 have HN:=Lib.hid hN
 have H:=Lib.hid h
 have HRES:=Lib.hid hRES
 have Hg:=Lib.hid hg
 have HF:=Lib.hid hF
 clear hI0 hN h hRES hg hF
 go_enter Tryz.func140,Tryz.ntmps140
 go_wp2
 go_quiet (fail)
 go_upto_if 22 with(fail)
 go_cut [] (fun wx=>Hid (NRd w wx R g s F))
 case first=>
  by_cases h45:c=45
  · have e45:decide (c=45)=true:=decide_eq_true h45
    have eF:F=k+1:=by rw[←HF.out,Hg.out,h45,if_pos rfl]
    go_wp2
    go_meet
    rw[eF]
    exact⟨(HI0.out.went.drewN _).set _,HI0.out.res.far (by simp;omega) _⟩
  · have e45:decide (c=45)=false:=decide_eq_false h45
    have eF:F=k:=by rw[←HF.out,Hg.out,if_neg (by simpa using h45)]
    go_wp2
    go_meet
    rw[eF]
    exact⟨HI0.out.went.drewN _,HI0.out.res⟩
 have hd0:=digEnd_ge s.data.toList F
 have hd1:=digEnd_le (s:=s.data.toList) (p:=F) (by rw[size_toList];omega)
 rw[size_toList]at hd1
 have HI1:=hcut
 obtain⟨E,hE⟩: ∃E,digEnd s.data.toList F=E:=⟨_,rfl⟩
 rw[hE]at hd0 hd1
 clear hcut HI0 c0 c1 f1 i0 i1
 obtain⟨a0,a1,_,f1,_⟩:=HI1.out.went.2.cells
 have HE:=Lib.hid hE
 clear hE
 go_upto_block 0 with(fail)
 go_cut [] (fun wx=>Hid (NRd w wx R g s E))
 case first=>
  go_wp2_with (fail)
  go_loopg [] (s.size - F) (fun n wr=> ∃j:Nat,F≤j∧j≤s.size∧n=s.size - j∧Hid (digEnd s.data.toList j=E∧NRd w wr R g s j))
  case atStart=>exact⟨F,Nat.le_refl _,by omega,rfl,HE.out,HI1.out⟩
  case round=>
   obtain⟨j,hjF,hj,rfl,hh⟩:=hrel
   obtain⟨z0,z1,_,z3,_⟩:=hh.out.2.went.2.cells
   clear HI1 a0 a1 f1
   have j0:(0:Int)≤(j:Int):=by omega
   by_cases hlt:j<s.size
   · obtain⟨x,hx⟩: ∃x,s[j]=x:=⟨_,rfl⟩
     have hxg:s.data.toList[j]? =some x:=by rw[get_byte s hlt,hx]
     have hxl:=byte_lt x
     have j1:decide ((j:Int)<(s.size:Int))=true:=decide_eq_true (by omega)
     have j2:(j:Int)<(s.size:Int):=by omega
     by_cases hdg:isDig x=true
     · have HN':Hid (digEnd s.data.toList (j+1)=E∧ ∀nq,NRd w ((wr.drewN nq).setCell ⟨R,1,none⟩ (.int .i64 ((j+1:Nat):Int))) R g s (j+1)):=⟨by rw[←digEnd_step hxg hdg];exact hh.out.1,fun nq=>⟨(hh.out.2.went.drewN nq).set _,hh.out.2.res.far (by simp;omega) _⟩⟩
       unfold isDig at hdg
       rw[decide_eq_true_iff]at hdg
       have l1:decide ((48:Int)≤(x.toNat:Int))=true:=decide_eq_true (by omega)
       have l2:decide ((x.toNat:Int)≤57)=true:=decide_eq_true (by omega)
       clear hxg hh hdg
       go_wp2
       go_quiet (fail)
       go_wp2
       go_roundg (s.size - (j+1))
       case measure=>omega
       case rel=>exact⟨j+1,by omega,by omega,rfl,HN'.out.1,HN'.out.2 _⟩
     · have HN':Hid (j=E∧ ∀nq,NRd w (wr.drewN nq) R g s j):=⟨by rw[←hh.out.1,digEnd_stop hxg (by simpa using hdg)],fun nq=>⟨hh.out.2.went.drewN nq,hh.out.2.res⟩⟩
       unfold isDig at hdg
       rw[decide_eq_true_iff]at hdg
       clear hxg hh
       by_cases h48:48≤x.toNat
       · have l1:decide ((48:Int)≤(x.toNat:Int))=true:=decide_eq_true (by omega)
         have l2:decide ((x.toNat:Int)≤57)=false:=decide_eq_false (by omega)
         go_wp2
         go_quiet (fail)
         go_wp2
         go_meet
         have:=HN'.out.2
         rw[HN'.out.1]at this
         exact this _
       · have l1:decide ((48:Int)≤(x.toNat:Int))=false:=decide_eq_false (by omega)
         go_wp2
         go_quiet (fail)
         go_wp2
         go_meet
         have:=HN'.out.2
         rw[HN'.out.1]at this
         exact this _
   · have HN':Hid (j=E∧ ∀nq,NRd w (wr.drewN nq) R g s j):=⟨by rw[←hh.out.1,digEnd_end (by rw[size_toList];omega)],fun nq=>⟨hh.out.2.went.drewN nq,hh.out.2.res⟩⟩
     have j1:decide ((j:Int)<(s.size:Int))=false:=decide_eq_false (by omega)
     clear hh
     go_wp2
     go_quiet (fail)
     go_wp2
     go_meet
     have:=HN'.out.2
     rw[HN'.out.1]at this
     exact this _
 have HI2:=hcut
 clear hcut HI1 a0 a1 f1
 obtain⟨a0,a1,_,f1,_⟩:=HI2.out.went.2.cells
 go_upto_block 2 with(fail)
 go_cut [] (fun wx=>Hid (NRd w wx R g s E∧F<E∧(F=k+1→digV ((s.data.toList.drop F).take (E - F))≠0)∧(numRes (decide (s.data.toList[k]? =some 45)) (digV ((s.data.toList.drop F).take (E - F))) k E).map intV=RES))
 case first=>
  have hres:=HRES.out
  unfold numFrom at hres
  rw[HE.out]at hres
  have F0:(0:Int)≤(F:Int):=by omega
  by_cases hEF:E=F
  · rw[if_pos hEF]at hres
    subst hres
    subst hEF
    have e1:((E:Int)==(E:Int))=true:=by simp
    have hW:=wrong_calls (.pointer (some ⟨R,0,none⟩)) 4 (E:Nat) wc
    have HW:=Lib.hid hW
    clear hW
    go_wp2_with (fail)
    with_reducible refine(HW.out).mono ?_
    rintro e w10 ⟨rfl,rfl⟩
    exact⟨rfl,rfl,HI2.out.went.1⟩
  · rw[if_neg hEF]at hres
    have e1:((E:Int)==(F:Int))=false:=by rw[beq_eq_false_iff_ne];omega
    have hFs:F<s.size:=by omega
    have F1:(F:Int)<(s.size:Int):=by omega
    obtain⟨x,hx⟩: ∃x,s[F]=x:=⟨_,rfl⟩
    have hxg:s.data.toList[F]? =some x:=by rw[get_byte s hFs,hx]
    have hxl:=byte_lt x
    rw[hxg]at hres
    have hx48:((x.toNat:Int)==48)=decide (x=48):=by rw[show(48:Int)=((48:Nat):Int)from rfl,byte_eq (by decide)];rfl
    by_cases hz:x=48
    · have e48:decide (x=48)=true:=decide_eq_true hz
      rw[e48]at hx48
      by_cases hm:F+1<E
      · rw[if_pos ⟨by rw[hz],hm⟩]at hres
        subst hres
        have e2:decide ((F:Int)+1<(E:Int))=true:=decide_eq_true (by omega)
        have e3:(F:Int)+1<(E:Int):=by omega
        have hW:=wrong_calls (.pointer (some ⟨R,0,none⟩)) 4 ((F:Int)+1) wc
        have HW:=Lib.hid hW
        clear hW
        go_wp2_with (fail)
        with_reducible refine(HW.out).mono ?_
        rintro e w10 ⟨rfl,rfl⟩
        exact⟨rfl,by simp[faultE],HI2.out.went.1⟩
      · rw[if_neg (fun q=>hm q.2)]at hres
        have e2:decide ((F:Int)+1<(E:Int))=false:=decide_eq_false (by omega)
        have e3: ¬((F:Int)+1<(E:Int)):=by omega
        have hEF1:E=F+1:=by omega
        have hds:(s.data.toList.drop F).take (E - F)= [48]:=by rw[hEF1,Nat.add_sub_cancel_left,drop_at hxg,hz];rfl
        by_cases hn:F=k+1
        · have h45:s.data.toList[k]? =some 45:=by
           by_cases q:s.data.toList[k]? =some 45
           · exact q
           · have:=HF.out;rw[if_neg q]at this;omega
          have e4:decide ((k:Int)<(F:Int))=true:=decide_eq_true (by omega)
          have e5:(k:Int)<(F:Int):=by omega
          have hr7:numRes (decide (s.data.toList[k]? =some 45)) (digV ((s.data.toList.drop F).take (E - F))) k E=.bad 7 k:=by
           rw[hds,decide_eq_true h45];rfl
          rw[hr7]at hres
          subst hres
          have hW:=wrong_calls (.pointer (some ⟨R,0,none⟩)) 7 (k:Nat) wc
          have HW:=Lib.hid hW
          have Hds:=Lib.hid hds
          have Hr7:=Lib.hid hr7
          clear hW hds hr7
          clear h45 hn hEF1
          go_wp2_with (fail)
          with_reducible refine(HW.out).mono ?_
          rintro e w10 ⟨rfl,rfl⟩
          exact⟨rfl,rfl,HI2.out.went.1⟩
        · have e4:decide ((k:Int)<(F:Int))=false:=decide_eq_false (by omega)
          have e5: ¬((k:Int)<(F:Int)):=by omega
          have HJ:Hid (NRd w wc R g s E∧F<E∧(F=k+1→digV ((s.data.toList.drop F).take (E - F))≠0)∧(numRes (decide (s.data.toList[k]? =some 45)) (digV ((s.data.toList.drop F).take (E - F))) k E).map intV=RES):=⟨HI2.out,by omega,fun q=>absurd q hn,hres⟩
          clear hres hds
          go_wp2
          go_meet
          exact HJ
    · have e48:decide (x=48)=false:=decide_eq_false hz
      rw[e48]at hx48
      rw[if_neg (fun q=>hz (by simpa using q.1))]at hres
      have HJ:Hid (NRd w wc R g s E∧F<E∧(F=k+1→digV ((s.data.toList.drop F).take (E - F))≠0)∧(numRes (decide (s.data.toList[k]? =some 45)) (digV ((s.data.toList.drop F).take (E - F))) k E).map intV=RES):=⟨HI2.out,by omega,fun _=>digV_first hxg hz (by rw[HE.out];omega) HE.out,hres⟩
      clear hres
      go_wp2
      go_meet
      exact HJ
 obtain⟨hI3,hFE,hnz,hres⟩:=hcut.out
 clear hcut HI2 a0 a1 f1
 obtain⟨a0,a1,_,f1,_⟩:=hI3.went.2.cells
 have k0:(0:Int)≤(k:Int):=by omega
 have k1:(k:Int)≤(E:Int):=by omega
 have k2:(E:Int)≤(s.size:Int):=by omega
 have hT:(s.extract k E).data.toList=(s.data.toList.drop k).take (E - k):=by rw[Lib.extract_data]
 have hTs:(s.extract k E).size≤100000000:=by simp only[ByteArray.size_extract];omega
 have hdig:=digits_of s.data.toList F
 rw[HE.out]at hdig
 have hne:(s.data.toList.drop F).take (E - F)≠ []:=by
  intro e
  have:=congrArg List.length e
  rw[List.length_take,List.length_drop,size_toList]at this
  simp at this;omega
 obtain⟨m,hm⟩: ∃m,digV ((s.data.toList.drop F).take (E - F))=m:=⟨_,rfl⟩
 rw[hm]at hres hnz
 have hPI:Lib.parseIntB 64 (s.extract k E).data.toList=match numRes (decide (s.data.toList[k]? =some 45)) m k E with| .ok v _=> .ok v| .bad _ _=> .range:=by
  rw[hT]
  by_cases h45:s.data.toList[k]? =some 45
  · have eF:F=k+1:=by rw[←HF.out,if_pos h45]
    have e1:(s.data.toList.drop k).take (E - k)=45::(s.data.toList.drop F).take (E - F):=by
     rw[drop_at h45,show E - k=(E - F)+1 by omega,List.take_succ_cons,eF]
    rw[e1,intB_neg hdig hne,hm,decide_eq_true h45]
    unfold numRes
    rw[if_pos rfl]
    have:=hnz eF
    by_cases hb:9223372036854775808<m
    · rw[if_pos hb,if_pos (.inr hb)]
    · rw[if_neg hb,if_neg (by rintro(q|q);exact this q;exact hb q)]
  · have eF:F=k:=by rw[←HF.out,if_neg h45]
    rw[eF]at hdig hne hm
    rw[intB_pos hdig hne,hm,decide_eq_false h45]
    unfold numRes
    rw[if_neg (show ¬((false:Bool)=true)by decide)]
    by_cases hb:9223372036854775807<m
    · rw[if_pos hb,if_pos hb]
    · rw[if_neg hb,if_neg hb]
 have hform:(∃v,numRes (decide (s.data.toList[k]? =some 45)) m k E=.ok v E)∨numRes (decide (s.data.toList[k]? =some 45)) m k E=.bad 7 k:=by
  unfold numRes
  split
  · split
    · exact .inr rfl
    · exact .inl ⟨_,rfl⟩
  · split
    · exact .inr rfl
    · exact .inl ⟨_,rfl⟩
 clear hT hdig hne hm hnz
 rcases hform with⟨v,hv⟩|hv
 · rw[hv]at hPI hres
   simp only at hPI
   subst hres
   have hPc: ∀W:World,Calls Tryz.prog 175 #[.string (s.extract k E),.int .i64 10,.int .i64 64] W fun e w'=>e=.returned (.tuple #[.int .i64 v,.nilIface])∧Below W.heap.size W w':=fun W=>
    (Tryz.strconv_ParseInt_ok (s.extract k E) (by omega) v hPI W).mono fun e w' ⟨he,hw⟩=>⟨he,by
      rcases hw with rfl|⟨t,rfl⟩
      · exact Below.refl _ _
      · exact Go.Joins.below_bytesWorld _ _ _ _ (Nat.le_refl _)⟩
   have hlt3:=hI3.went.2.cells.2.2.2.2
   have HPc:=Lib.hid hPc
   have HI3:=Lib.hid hI3
   have HPI:=Lib.hid hPI
   have Hv:=Lib.hid hv
   clear hPc hI3 hPI hv
   go_wp2
   go_region_held3 (fun W=>W.cell? ⟨R,0,none⟩=some (.string s)∧W.cell? ⟨R,1,none⟩=some (.int .i64 E)) (go_keep) (first|(go_at_call 175;refine(HPc.out _).mono ?_;rintro e w1 ⟨rfl,hb1⟩;have hbr1:Below wc.heap.size wc w1:=(Below.drew (Below.refl _ _)).trans hb1;obtain⟨hc1,hf1⟩:=bcellM hbr1))
   all_goals
    have hI4:NRd w w1 R g s E:=⟨HI3.out.went.below hbr1,HI3.out.res.below hbr1 HI3.out.res.lt⟩
    obtain⟨r0,r1,r2,r3,r4,r5⟩:=vcell hI4.res
    have fz:=hI4.res.frozen
    have hlt4:=hI4.res.lt
    clear hc1 hf1 hb1 hbr1
    have HI4:=Lib.hid hI4
    clear hI4
    go_wp2
    have hxf:=((((((HI4.out.res.set_ 0 (.int .i64 3)).set_ 1 (.bool false)).set_ 2 (.int .i64 v)).set_ 3 (.string ⟨#[]⟩)).set_ 4 (.slice none 0 0)).set_ 5 (.slice none 0 0))
    exact bodyPost_ret (results_cell6 rfl rfl hxf) rfl ⟨⟨_,rfl,fresh_leafs 3 false v _⟩,RdTo.many (Nat.le_refl _) hR [.int .i64 3,.bool false,.int .i64 v,.string ⟨#[]⟩,.slice none 0 0,.slice none 0 0] 0 HI4.out.went⟩
 · rw[hv]at hPI hres
   simp only at hPI
   subst hres
   have hPc: ∀W:World,Below wc.heap.size wc W→Calls Tryz.prog 175 #[.string (s.extract k E),.int .i64 10,.int .i64 64] W fun e w'=>(∃n te pe,e=.returned (.tuple #[.int .i64 n,.iface te pe]))∧Below W.heap.size W w':=fun W hW=>by
    obtain⟨te,pe,hte⟩:=HN.out W (grownBy_below hI3.went.1 hW)
    exact(Tryz.strconv_ParseInt_range (s.extract k E) (by omega) hPI _ W hte (.inr ⟨te,pe,rfl⟩)).mono fun e w' ⟨N,he,_,_,hb⟩=>⟨⟨_,_,_,he⟩,hb⟩
   have hlt3:=hI3.went.2.cells.2.2.2.2
   have HPc:=Lib.hid hPc
   have HI3:=Lib.hid hI3
   have HPI:=Lib.hid hPI
   have Hv:=Lib.hid hv
   clear hPc hI3 hPI hv
   go_wp2
   go_region_held3 (fun W=>W.cell? ⟨R,0,none⟩=some (.string s)∧W.cell? ⟨R,1,none⟩=some (.int .i64 E)) (go_keep) (first|(go_at_call 175;refine(HPc.out _ (Below.drew (Below.refl _ _))).mono ?_;rintro e w1 ⟨⟨n,te,pe,rfl⟩,hb1⟩;have hbr1:Below wc.heap.size wc w1:=(Below.drew (Below.refl _ _)).trans hb1;obtain⟨hc1,hf1⟩:=bcellM hbr1))
   all_goals
    have hW:=wrong_calls (.pointer (some ⟨R,0,none⟩)) 7 (k:Nat) w1
    have hgb:=grownBy_below HI3.out.went.1 hbr1
    clear hc1 hf1 hb1 hbr1
    have HW:=Lib.hid hW
    have Hgb:=Lib.hid hgb
    clear hW hgb
    go_wp2_with (fail)
    with_reducible refine(HW.out).mono ?_
    rintro e w10 ⟨rfl,rfl⟩
    exact⟨rfl,rfl,Hgb.out⟩
end Go.Proofs.YtkkbplakgldlpaaGreatDoor

namespace Go.Proofs.YtkkbplakgldlpaaGreatDoor
open Go Go.RowKit
theorem zero_kind (w:World):(zeroValue 130).run Tryz.prog w=.ok .nilFunc w:=by kernel_rfl
theorem RdI.drewN {w0 w:World} {R g k:Nat} {s:ByteArray} (h:RdI w0 w R g s k) (n:Nat):RdI w0 (w.drewN n) R g s k:=⟨⟨h.below.os,h.below.tape,h.below.output,h.below.size,h.below.block⟩,h.ge,h.rd,h.map⟩
theorem RdTo.undrewN {w w1:World} {R g k:Nat} {s:ByteArray} {n:Nat} (h:RdTo R g s k (w.drewN n) w1):RdTo R g s k w w1:=⟨⟨h.1.os,h.1.tape,h.1.output,h.1.size,h.1.block⟩,h.2⟩
theorem rv_ok {R g q:Nat} {s:ByteArray} {w w1 w2:World} {v:Val} {cs:List Value} {j:Nat} (hR:R<w.heap.size) (h1:RdTo R g s j (w.alloc (.cells zero6 27)) w1) (h2:RdTo R g s q w1 w2) (hf:Fresh w1.heap.size w2 (dV v) cs):
 Blk w2 w.heap.size 27 zero6∧RdTo R g s q w w2∧Fresh w.heap.size w2 (dV v) cs:=
 ⟨(h1.res hR).grown h2.1 (by intro e;have:=Option.some.inj e;omega),h1.unAlloc.trans h2,fun w'' k1 k2=>hf w'' k1 (fun p p1 p2=>k2 p (by have:=h1.unAlloc.1.size;omega) p2)⟩
set_option maxRecDepth 100000 in
set_option maxHeartbeats 8000000 in
theorem value_step (n:Nat) (henter: ∀(args:Array Value) (w:World),(callFunc n args).run Tryz.prog w=.ok (.enter n args) w) (w0:World) (R g:Nat) (s:ByteArray) (w:World) (k:Nat) (d:Int) (c:UInt8) (RES:Rd Val) (h:RdI w0 w R g s k) (hs:s.size≤100000000) (hk:k≤s.size) (hd0:0≤d) (hd:d≤64)
 (hc:s.data.toList[past s.data.toList k]? =some c) (hfind:findM (c.toNat:Int) (KV R)=some (.func (.func n) #[.pointer (some ⟨R,0,none⟩)] #[]))
 (hCall: ∀W,RdI w0 W R g s (past s.data.toList k)→Calls Tryz.prog n #[.pointer (some ⟨R,0,none⟩),.int .i64 d] W (RVPost R g s W RES)):
 Calls Tryz.prog 91 #[.pointer (some ⟨R,0,none⟩),.int .i64 d] w (RVPost R g s w RES):=by
 have hR:R<w.heap.size:=Blk.lt h.rd
 have hI0:=h.later (alloc_below w (.cells zero6 27))
 have hS:=skip_calls R g s k (w.alloc (.cells zero6 27)) (by omega) hk hI0.rd
 generalize past s.data.toList k=p at hS hc hCall
 have hlt:p<s.size:=by have:=get_lt hc;rwa [size_toList]at this
 have hx:s[p]=c:=by rw[get_byte s hlt]at hc;exact Option.some.inj hc
 have hcl:=byte_lt c
 have i0:(0:Int)≤(p:Int):=by omega
 have i1:(p:Int)<(s.size:Int):=by omega
 have e1:((p:Int)==(s.size:Int))=false:=by rw[beq_eq_false_iff_ne];omega
 have l64:decide (d>64)=false:=decide_eq_false (by omega)
 have l65:decide ((64:Int)<d)=false:=decide_eq_false (by omega)
 clear hc
 have HS:=Lib.hid hS
 have HCall:=Lib.hid hCall
 have H:=Lib.hid h
 have HI0:=Lib.hid hI0
 have Hfind:=Lib.hid hfind
 clear hS hCall h hI0 hfind
 go_enter Tryz.func91,Tryz.ntmps91
 go_wp2_with (fail)
 with_reducible refine(HS.out).mono ?_
 rintro e w1 ⟨rfl,h1⟩
 have hI1:=HI0.out.to h1
 obtain⟨c0,c1,c2,f1,_⟩:=h1.2.cells
 have hrun:=fun m=>run_lookM (w:=w1.drewN m) mkey_kinds Tryz.underlying131 hI1.map (c.toNat:Int) zero_kind true
 rw[Hfind.out]at hrun
 simp only[Option.getD_some,Option.isSome_some,if_true]at hrun
 have H1:=Lib.hid h1
 have HI1:=Lib.hid hI1
 clear h1 hI1
 go_wp2
 go_quiet (fail)
 go_wp2
 go_quiet (fail)
 go_wp2_with (fail)
 with_reducible refine(HCall.out _ (HI1.out.drewN _)).mono ?_
 rintro e w2 hp
 cases RES with
 |bad c' q=>
  obtain⟨rfl,hg⟩:=hp
  exact⟨rfl,rfl,grownBy_trans H1.out.unAlloc.1 ⟨hg.os,hg.tape,hg.output,hg.size,hg.block⟩⟩
 |ok v q=>
  obtain⟨⟨cs,rfl,hf4⟩,h4⟩:=hp
  obtain⟨kv,bv,nv,tv,lv,ov⟩:=v
  obtain⟨la,lc,oa,oc,rfl⟩:=six_now hf4
  obtain⟨hxr,hto,hff⟩:=rv_ok hR H1.out h4.undrewN hf4
  obtain⟨r0,r1,r2,r3,r4,r5⟩:=vcell hxr
  have fz:=hxr.frozen
  have hlt4:=hxr.lt
  have hxf:=((((((hxr.set_ 0 (.int .i64 kv)).set_ 1 (.bool bv)).set_ 2 (.int .i64 nv)).set_ 3 (.string tv)).set_ 4 (.slice la lv.length lc)).set_ 5 (.slice oa ov.length oc))
  have hto':=RdTo.many (Nat.le_refl _) hR [.int .i64 kv,.bool bv,.int .i64 nv,.string tv,.slice la lv.length lc,.slice oa ov.length oc] 0 hto
  have hff':Fresh w.heap.size (setMany w2 w.heap.size 0 [.int .i64 kv,.bool bv,.int .i64 nv,.string tv,.slice la lv.length lc,.slice oa ov.length oc]) (dV (.mk kv bv nv tv lv ov)) [.int .i64 kv,.bool bv,.int .i64 nv,.string tv,.slice la lv.length lc,.slice oa ov.length oc]:=by
   have hz:=H1.out.1.size
   simp only[World.size_alloc]at hz
   exact hf4.keep (b':=w.heap.size) (by show w.heap.size≤w1.heap.size;omega) (by rw[setMany_size];exact Nat.le_refl _) (fun p p1 _=>World.cell?_of_block (setMany_far _ _ _ _ _ (by have p1':w1.heap.size≤p.block:=p1;omega)))
  have Hxr:=Lib.hid hxr
  have Hto:=Lib.hid hto
  have Hff:=Lib.hid hff
  have Hxf:=Lib.hid hxf
  have Hto':=Lib.hid hto'
  have Hff':=Lib.hid hff'
  clear hxr hto hff hxf hto' hff'
  clear h4 hf4
  go_wp2
  exact bodyPost_ret (results_cell6 rfl rfl Hxf.out) rfl ⟨⟨_,rfl,Hff'.out⟩,Hto'.out⟩
set_option maxRecDepth 100000 in
set_option maxHeartbeats 4000000 in
theorem value_none (w0:World) (R g:Nat) (s:ByteArray) (w:World) (k:Nat) (d:Int) (h:RdI w0 w R g s k) (hs:s.size≤100000000) (hk:k≤s.size)
 (hc:s.data.toList[past s.data.toList k]? =none∨ ∃c,s.data.toList[past s.data.toList k]? =some c∧findM (c.toNat:Int) (KV R)=none):
 Calls Tryz.prog 91 #[.pointer (some ⟨R,0,none⟩),.int .i64 d] w (RVPost R g s w (.bad 4 (past s.data.toList k))):=by
 have hR:R<w.heap.size:=Blk.lt h.rd
 have hI0:=h.later (alloc_below w (.cells zero6 27))
 have hS:=skip_calls R g s k (w.alloc (.cells zero6 27)) (by omega) hk hI0.rd
 have hps:=past_size hk
 generalize past s.data.toList k=p at hS hc hps ⊢
 have i0:(0:Int)≤(p:Int):=by omega
 rcases hc with hc|⟨c,hc,hfind⟩
 · have hp:p=s.size:=by
    rw[List.getElem?_eq_none_iff,size_toList]at hc;omega
   subst hp
   have e1:((s.size:Int)==(s.size:Int))=true:=by simp
   clear hc
   have HS:=Lib.hid hS
   have H:=Lib.hid h
   have HI0:=Lib.hid hI0
   clear hS h hI0
   go_enter Tryz.func91,Tryz.ntmps91
   go_wp2_with (fail)
   with_reducible refine(HS.out).mono ?_
   rintro e w1 ⟨rfl,h1⟩
   obtain⟨c0,c1,c2,f1,_⟩:=h1.2.cells
   have hW:=fun m=>wrong_calls (.pointer (some ⟨R,0,none⟩)) 4 (s.size:Nat) (w1.drewN m)
   have H1:=Lib.hid h1
   have HW:=Lib.hid hW
   clear h1 hW
   go_wp2
   go_quiet (fail)
   go_wp2_with (fail)
   with_reducible refine(HW.out _).mono ?_
   rintro e w10 ⟨rfl,rfl⟩
   exact⟨rfl,rfl,grownBy_drewN H1.out.unAlloc.1 _⟩
 · have hlt:p<s.size:=by have:=get_lt hc;rwa [size_toList]at this
   have hx:s[p]=c:=by rw[get_byte s hlt]at hc;exact Option.some.inj hc
   have hcl:=byte_lt c
   have i1:(p:Int)<(s.size:Int):=by omega
   have e1:((p:Int)==(s.size:Int))=false:=by rw[beq_eq_false_iff_ne];omega
   clear hc
   have HS:=Lib.hid hS
   have H:=Lib.hid h
   have HI0:=Lib.hid hI0
   have Hfind:=Lib.hid hfind
   clear hS h hI0 hfind
   go_enter Tryz.func91,Tryz.ntmps91
   go_wp2_with (fail)
   with_reducible refine(HS.out).mono ?_
   rintro e w1 ⟨rfl,h1⟩
   have hI1:=HI0.out.to h1
   obtain⟨c0,c1,c2,f1,_⟩:=h1.2.cells
   have hrun:=fun m=>run_lookM (w:=w1.drewN m) mkey_kinds Tryz.underlying131 hI1.map (c.toNat:Int) zero_kind true
   rw[Hfind.out]at hrun
   simp only[Option.getD_none,Option.isSome_none,if_true]at hrun
   have hW:=fun m=>wrong_calls (.pointer (some ⟨R,0,none⟩)) 4 (p:Nat) (w1.drewN m)
   have H1:=Lib.hid h1
   have HI1:=Lib.hid hI1
   have HW:=Lib.hid hW
   clear h1 hI1 hW
   go_wp2
   go_quiet (fail)
   go_wp2
   go_quiet (fail)
   go_wp2_with (fail)
   with_reducible refine(HW.out _).mono ?_
   rintro e w10 ⟨rfl,rfl⟩
   exact⟨rfl,rfl,grownBy_drewN H1.out.unAlloc.1 _⟩
set_option maxRecDepth 100000 in
set_option maxHeartbeats 4000000 in
theorem value_deep (f:Value) (w0:World) (R g:Nat) (s:ByteArray) (w:World) (k:Nat) (d:Int) (c:UInt8) (h:RdI w0 w R g s k) (hs:s.size≤100000000) (hk:k≤s.size) (hd:64<d)
 (hc:s.data.toList[past s.data.toList k]? =some c) (hfind:findM (c.toNat:Int) (KV R)=some f):
 Calls Tryz.prog 91 #[.pointer (some ⟨R,0,none⟩),.int .i64 d] w (RVPost R g s w (.bad 5 (past s.data.toList k))):=by
 have hR:R<w.heap.size:=Blk.lt h.rd
 have hI0:=h.later (alloc_below w (.cells zero6 27))
 have hS:=skip_calls R g s k (w.alloc (.cells zero6 27)) (by omega) hk hI0.rd
 have hps:=past_size hk
 generalize past s.data.toList k=p at hS hc hps ⊢
 have i0:(0:Int)≤(p:Int):=by omega
 have hlt:p<s.size:=by have:=get_lt hc;rwa [size_toList]at this
 have hx:s[p]=c:=by rw[get_byte s hlt]at hc;exact Option.some.inj hc
 have hcl:=byte_lt c
 have i1:(p:Int)<(s.size:Int):=by omega
 have e1:((p:Int)==(s.size:Int))=false:=by rw[beq_eq_false_iff_ne];omega
 have l65:decide ((64:Int)<d)=true:=decide_eq_true (by omega)
 clear hc
 have HS:=Lib.hid hS
 have H:=Lib.hid h
 have HI0:=Lib.hid hI0
 have Hfind:=Lib.hid hfind
 clear hS h hI0 hfind
 go_enter Tryz.func91,Tryz.ntmps91
 go_wp2_with (fail)
 with_reducible refine(HS.out).mono ?_
 rintro e w1 ⟨rfl,h1⟩
 have hI1:=HI0.out.to h1
 obtain⟨c0,c1,c2,f1,_⟩:=h1.2.cells
 have hrun:=fun m=>run_lookM (w:=w1.drewN m) mkey_kinds Tryz.underlying131 hI1.map (c.toNat:Int) zero_kind true
 rw[Hfind.out]at hrun
 simp only[Option.getD_some,Option.isSome_some,if_true]at hrun
 have hW:=fun m=>wrong_calls (.pointer (some ⟨R,0,none⟩)) 5 (p:Nat) (w1.drewN m)
 have H1:=Lib.hid h1
 have HI1:=Lib.hid hI1
 have HW:=Lib.hid hW
 clear h1 hI1 hW
 go_wp2
 go_quiet (fail)
 go_wp2
 go_quiet (fail)
 go_wp2_with (fail)
 with_reducible refine(HW.out _).mono ?_
 rintro e w10 ⟨rfl,rfl⟩
 exact⟨rfl,rfl,grownBy_drewN H1.out.unAlloc.1 _⟩
end Go.Proofs.YtkkbplakgldlpaaGreatDoor

namespace Go.Proofs.YtkkbplakgldlpaaGreatDoor
open Go Go.RowKit
theorem NumT.below {w w':World} (h:NumT w) (hb:Below w.heap.size w w'):NumT w':=by
 obtain⟨te,pe,h⟩:=h
 refine⟨te,pe, ?_⟩
 rw[hb.cell (p:=⟨6,0,none⟩) ?_]
 · exact h
 · rcases Nat.lt_or_ge 6 w.heap.size with q|q
   · exact q
   · simp[World.cell?,Array.getElem?_eq_none q]at h
def kindFn (c:UInt8):Nat:=if c=91 then 138 else if c=123 then 139 else if c=34 then 137 else if c=110 then 134 else if c=116 then 136 else if c=102 then 135 else 140
set_option maxRecDepth 10000 in
theorem kinds_none (R:Nat) {c:UInt8} (h:startsV c=false):findM (c.toNat:Int) (KV R)=none:=by
 have e: ∀n:Nat,n<256→(c=UInt8.ofNat n ↔ c.toNat=n):=fun n hn=>⟨fun q=>by rw[q];simp[UInt8.toNat_ofNat',Nat.mod_eq_of_lt hn],fun q=>by subst q;simp⟩
 unfold startsV isDig at h
 simp only[Bool.or_eq_false_iff,beq_eq_false_iff_ne,ne_eq,decide_eq_false_iff_not]at h
 obtain⟨⟨⟨⟨⟨⟨⟨h1,h2⟩,h3⟩,h4⟩,h5⟩,h6⟩,h7⟩,h8⟩:=h
 have k2: ¬c.toNat=45:=fun q=>h2 ((e 45 (by decide)).2 q)
 have k3: ¬c.toNat=34:=fun q=>h3 ((e 34 (by decide)).2 q)
 have k4: ¬c.toNat=91:=fun q=>h4 ((e 91 (by decide)).2 q)
 have k5: ¬c.toNat=123:=fun q=>h5 ((e 123 (by decide)).2 q)
 have k6: ¬c.toNat=110:=fun q=>h6 ((e 110 (by decide)).2 q)
 have k7: ¬c.toNat=116:=fun q=>h7 ((e 116 (by decide)).2 q)
 have k8: ¬c.toNat=102:=fun q=>h8 ((e 102 (by decide)).2 q)
 simp only[KV]
 repeat (first|exact findM_not (by omega) rfl|refine findM_not (by omega) ?_)
set_option maxRecDepth 10000 in
theorem kinds_some (R:Nat) {c:UInt8} (h:startsV c=true):findM (c.toNat:Int) (KV R)=some (.func (.func (kindFn c)) #[.pointer (some ⟨R,0,none⟩)] #[]):=by
 have hc:c=UInt8.ofNat c.toNat:=by simp
 have hn:c.toNat=45∨c.toNat=34∨c.toNat=91∨c.toNat=123∨c.toNat=110∨c.toNat=116∨c.toNat=102∨c.toNat=48∨c.toNat=49∨c.toNat=50∨c.toNat=51∨c.toNat=52∨c.toNat=53∨c.toNat=54∨c.toNat=55∨c.toNat=56∨c.toNat=57:=by
  unfold startsV isDig at h
  simp only[Bool.or_eq_true,beq_iff_eq,decide_eq_true_eq]at h
  rcases h with((((((h|h)|h)|h)|h)|h)|h)|h
  · omega
  all_goals(subst h;decide)
 rcases hn with q|q|q|q|q|q|q|q|q|q|q|q|q|q|q|q|q
 all_goals
  rw[q]at hc
  subst hc
  simp[KV,findM,kindFn]
theorem enter_list: ∀(args:Array Value) (w:World),(callFunc 138 args).run Tryz.prog w=.ok (.enter 138 args) w:=enters_of Tryz.func138 (by kernel_rfl) rfl
theorem enter_object: ∀(args:Array Value) (w:World),(callFunc 139 args).run Tryz.prog w=.ok (.enter 139 args) w:=enters_of Tryz.func139 (by kernel_rfl) rfl
theorem enter_quoted: ∀(args:Array Value) (w:World),(callFunc 137 args).run Tryz.prog w=.ok (.enter 137 args) w:=enters_of Tryz.func137 (by kernel_rfl) rfl
theorem enter_null: ∀(args:Array Value) (w:World),(callFunc 134 args).run Tryz.prog w=.ok (.enter 134 args) w:=enters_of Tryz.func134 (by kernel_rfl) rfl
theorem enter_yes: ∀(args:Array Value) (w:World),(callFunc 136 args).run Tryz.prog w=.ok (.enter 136 args) w:=enters_of Tryz.func136 (by kernel_rfl) rfl
theorem enter_no: ∀(args:Array Value) (w:World),(callFunc 135 args).run Tryz.prog w=.ok (.enter 135 args) w:=enters_of Tryz.func135 (by kernel_rfl) rfl
theorem enter_number: ∀(args:Array Value) (w:World),(callFunc 140 args).run Tryz.prog w=.ok (.enter 140 args) w:=enters_of Tryz.func140 (by kernel_rfl) rfl
set_option maxHeartbeats 1000000 in
theorem value_all (w0:World) (hT0:Tabs w0) (hN0:NumT w0) (R g:Nat) (s:ByteArray) (hs:s.size≤100000000): ∀f,ValC w0 R g s f:=by
 intro f
 induction f using Nat.strongRecOn with
 |_ f ih=>
  intro w k d h hk hf hd0 hd
  obtain⟨f,rfl⟩: ∃n,f=n+1:=⟨f - 1,by omega⟩
  have hp:=past_size hk
  have hp1:=past_ge s.data.toList k
  unfold valueF
  cases hc:s.data.toList[past s.data.toList k]? with
  |none=>exact value_none w0 R g s w k d h hs hk (.inl hc)
  |some c=>
   simp only
   have hlt:past s.data.toList k<s.size:=by have:=get_lt hc;rwa [size_toList]at this
   by_cases hst:startsV c=false
   · rw[if_pos hst];exact value_none w0 R g s w k d h hs hk (.inr ⟨c,hc,kinds_none R hst⟩)
   rw[if_neg hst]
   have hst':startsV c=true:=by simpa using hst
   have hkf:=kinds_some R hst'
   by_cases hdp:64<d
   · rw[if_pos hdp];exact value_deep _ w0 R g s w k d c h hs hk hdp hc hkf
   rw[if_neg hdp]
   have hd64:d≤64:=by omega
   have ih': ∀f',f'<f→ValC w0 R g s f':=fun f' h'=>ih f' (by omega)
   have hT: ∀{W},RdI w0 W R g s (past s.data.toList k)→Tabs W:=fun hW=>hT0.below hW.below
   by_cases e1:c=91
   · subst e1
     rw[if_pos rfl]
     exact value_step _ enter_list w0 R g s w k d 91 _ h hs hk hd0 hd64 hc hkf fun W hW=>rdlist_calls w0 R g s f ih' W _ d hW hs hlt (by omega) hd0 hd64
   rw[if_neg e1]
   by_cases e2:c=123
   · subst e2
     rw[if_pos rfl]
     exact value_step _ enter_object w0 R g s w k d 123 _ h hs hk hd0 hd64 hc hkf fun W hW=>rdobj_calls w0 hT0 R g s f ih' W _ d hW hs hlt (by omega) hd0 hd64
   rw[if_neg e2]
   by_cases e3:c=34
   · subst e3
     rw[if_pos rfl]
     exact value_step _ enter_quoted w0 R g s w k d 34 _ h hs hk hd0 hd64 hc hkf fun W hW=>quoted_calls R g s _ d W (hT hW) (by omega) hp hW.rd
   rw[if_neg e3]
   by_cases e4:c=110
   · subst e4
     rw[if_pos rfl]
     exact value_step _ enter_null w0 R g s w k d 110 _ h hs hk hd0 hd64 hc hkf fun W hW=>null_calls R g s _ d W (by omega) hp hW.rd
   rw[if_neg e4]
   by_cases e5:c=116
   · subst e5
     rw[if_pos rfl]
     exact value_step _ enter_yes w0 R g s w k d 116 _ h hs hk hd0 hd64 hc hkf fun W hW=>yes_calls R g s _ d W (by omega) hp hW.rd
   rw[if_neg e5]
   by_cases e6:c=102
   · subst e6
     rw[if_pos rfl]
     exact value_step _ enter_no w0 R g s w k d 102 _ h hs hk hd0 hd64 hc hkf fun W hW=>no_calls R g s _ d W (by omega) hp hW.rd
   rw[if_neg e6]
   have ekn:kindFn c=140:=by unfold kindFn;rw[if_neg e1,if_neg e2,if_neg e3,if_neg e4,if_neg e5,if_neg e6]
   rw[ekn]at hkf
   exact value_step _ enter_number w0 R g s w k d c _ h hs hk hd0 hd64 hc hkf fun W hW=>rdnum_calls R g s _ d W (fun W' hW'=>hN0.below (hW.below.grown hW' hW.below.size fun r e=>by have:=Option.some.inj e;have:=hW.ge;omega)) hs hlt hW.rd
end Go.Proofs.YtkkbplakgldlpaaGreatDoor

namespace Go.Proofs.YtkkbplakgldlpaaGreatDoor
open Go Go.RowKit
structure P3 (w W:World) (a:Array Value) (vb vc:Value):Prop where
 below:Below w.heap.size w W
 blkA:Blk W w.heap.size 27 a
 blkB:Blk W (w.heap.size+1) 3 #[vb]
 blkC:Blk W (w.heap.size+2) 31 #[vc]
theorem P3.later {w W W':World} {a:Array Value} {vb vc:Value} (h:P3 w W a vb vc) (t:Below W.heap.size W W'):P3 w W' a vb vc:=
 ⟨h.below.trans (t.mono h.below.size),h.blkA.below t h.blkA.lt,h.blkB.below t h.blkB.lt,h.blkC.below t h.blkC.lt⟩
theorem P3.setB {w W:World} {a:Array Value} {vb vc:Value} (h:P3 w W a vb vc) (v:Value):P3 w (W.setCell ⟨w.heap.size+1,0,none⟩ v) a v vc:=
 ⟨h.below.setCell (by simp) v,h.blkA.far (by simp) v,h.blkB.set_ 0 v,h.blkC.far (by simp) v⟩
theorem P3.setC {w W:World} {a:Array Value} {vb vc:Value} (h:P3 w W a vb vc) (v:Value):P3 w (W.setCell ⟨w.heap.size+2,0,none⟩ v) a vb v:=
 ⟨h.below.setCell (by simp) v,h.blkA.far (by simp) v,h.blkB.far (by simp) v,h.blkC.set_ 0 v⟩
theorem P3.setA {w W:World} {b0 b1 b2 b3 b4 b5:Value} {vb vc:Value} (h:P3 w W #[b0,b1,b2,b3,b4,b5] vb vc) (a0 a1 a2 a3 a4 a5:Value):P3 w (setMany W w.heap.size 0 [a0,a1,a2,a3,a4,a5]) #[a0,a1,a2,a3,a4,a5] vb vc:=
 ⟨setMany_below _ h.below (Nat.le_refl _),((((((h.blkA.set_ 0 a0).set_ 1 a1).set_ 2 a2).set_ 3 a3).set_ 4 a4).set_ 5 a5),(setMany_far _ _ _ _ _ (by omega)).trans h.blkB,(setMany_far _ _ _ _ _ (by omega)).trans h.blkC⟩
def FS (W:World) (e q:Int) (X:World):Prop:=X.cell? ⟨W.heap.size,0,none⟩=some (.int .i64 e)∧X.cell? ⟨W.heap.size,1,none⟩=some (.int .i64 q)
theorem FS.new (W:World) (e q:Int):FS W e q (W.alloc (.cells #[.int .i64 e,.int .i64 q] 127)).drew:=
 ⟨(Blk.new W 127 #[.int .i64 e,.int .i64 q]).cell 0,(Blk.new W 127 #[.int .i64 e,.int .i64 q]).cell 1⟩
theorem FS.many {W X:World} {e q:Int} (h:FS W e q X) {g:Nat} (hg:g<W.heap.size) (vs:List Value) (o:Nat):FS W e q (setMany X g o vs):=
 ⟨(World.cell?_of_block (setMany_far vs X g o W.heap.size (by omega))).trans h.1,(World.cell?_of_block (setMany_far vs X g o W.heap.size (by omega))).trans h.2⟩
theorem FS.set {W X:World} {e q:Int} (h:FS W e q X) {g:Nat} (hg:g<W.heap.size) (v:Value):FS W e q (X.setCell ⟨g,0,none⟩ v):=FS.many h hg [v] 0
theorem P3.start {w W:World} {a:Array Value} {vb vc:Value} (h:P3 w W a vb vc) (o:Obj):P3 w (W.alloc o).drew a vb vc:=(h.later (alloc_below W o)).later (Below.drew (Below.refl _ _))
end Go.Proofs.YtkkbplakgldlpaaGreatDoor

namespace Go.Proofs.YtkkbplakgldlpaaGreatDoor
open Go Go.RowKit
theorem wp_hide {P:Program} {c:Code} {Q:Exit→Act→World→Prop} {a:Act} {w:World} (h: ∀Q':Exit→Act→World→Prop,Hid (∀e a w,NoPanic Q e a w→Q' e a w)→(∀c a d v w,Q' (.panic c) (Act.put a d v) w→Q' (.panic c) a w)→Code.wp P c Q' a w):Code.wp P c Q a w:=
 Code.wp_mono NoPanic.imp (h (NoPanic Q) (Lib.hid fun _ _ _ h=>h) (fun _ _ _ _ _ h=>h))
theorem assert_fault (W:World) (v:Value):(Instr.typeAssert (.iface 127 v) 20 127 true).run Tryz.prog W=.ok (.tuple #[v,.bool true]) W:=by kernel_rfl
set_option maxRecDepth 100000 in
set_option maxHeartbeats 8000000 in
theorem pcatch_idle (p0 p1 p2:Addr) (w:World):
 CallsD Tryz.prog 89 #[.pointer (some p0),.pointer (some p1),.pointer (some p2)] .returning w fun e u' w'=>e=.returned (.tuple #[])∧u'=.returning∧w'=w:=by
 refine callsD_of_wpS Tryz.func89 rfl fun c₀ cs hu=> ?_
 apply wpS_seq
 apply wpS_region
 simp[wpOpsS,go_sem,recoverD,hu,Tryz.ntmps89,Exit.thenS]
 refine wpS_of_wp ?_
 go_wp2
 cases c₀
 simp_all[bodyPostS,results,Tryz.results89]
set_option maxRecDepth 100000 in
set_option maxHeartbeats 8000000 in
theorem pcatch_some (w W:World) (b0 b1 b2 b3 b4 b5 vb vc:Value) (e q:Int) (h:P3 w W #[b0,b1,b2,b3,b4,b5] vb vc):
 CallsD Tryz.prog 89 #[.pointer (some ⟨w.heap.size,0,none⟩),.pointer (some ⟨w.heap.size+1,0,none⟩),.pointer (some ⟨w.heap.size+2,0,none⟩)] (.panicking [{v:=.iface 127 (.agg #[.int .i64 e,.int .i64 q]),recovered:=false}]) W fun e1 u' w'=>
  e1=.returned (.tuple #[])∧u'=.panicking [{v:=.iface 127 (.agg #[.int .i64 e,.int .i64 q]),recovered:=true}]∧P3 w w' zero6 (.int .i64 q) (.int .i64 e):=by
 have hta:=fun w=>assert_fault w (.agg #[.int .i64 e,.int .i64 q])
 have hP:=h.later (alloc_below W (.cells #[.int .i64 e,.int .i64 q] 127))
 have hS:=Blk.new W 127 #[.int .i64 e,.int .i64 q]
 have hg:=h.blkC.lt
 have HP:=Lib.hid hP
 have HS:=Lib.hid hS
 have H:=Lib.hid h
 clear hP hS h
 refine callsD_of_wpS Tryz.func89 rfl fun c₀ cs hu=> ?_
 apply wpS_seq
 apply wpS_region
 simp[wpOpsS,go_sem,recoverD,hu,Tryz.ntmps89,Exit.thenS]
 refine wpS_of_wp ?_
 refine wp_hide fun Q' hn hp=> ?_
 have hlay: ∀(b:Value),(#[.pointer (some ⟨w.heap.size,0,none⟩),.pointer (some ⟨w.heap.size+1,0,none⟩),.pointer (some ⟨w.heap.size+2,0,none⟩)]:Array Value)++((Array.replicate 14 undef).setIfInBounds 3 b)= #[.pointer (some ⟨w.heap.size,0,none⟩),.pointer (some ⟨w.heap.size+1,0,none⟩),.pointer (some ⟨w.heap.size+2,0,none⟩),undef,undef,undef,b,undef,undef,undef,undef,undef,undef,undef,undef,undef,undef]:=fun _=>rfl
 simp only[hlay]
 clear hlay
 go_wp2
 clear hta H
 generalize W.alloc (.cells #[.int .i64 e,.int .i64 q] 127)=wi at HP HS ⊢
 generalize W.heap.size=g3 at HS hg ⊢
 obtain⟨x0,x1,x2,x3,x4,x5⟩:=vcell HP.out.blkA
 have fz:=HP.out.blkA.frozen
 have y0:=HP.out.blkB.cell 0
 have fy:=HP.out.blkB.frozen 0
 have z0:=HP.out.blkC.cell 0
 have fc:=HP.out.blkC.frozen 0
 have s0:=HS.out.cell 0
 have s1:=HS.out.cell 1
 have k0:w.heap.size≠g3:=by omega
 have k1:w.heap.size+1≠g3:=by omega
 have k2:w.heap.size+2≠g3:=by omega
 simp only[List.getElem?_toArray,List.getElem?_cons_zero,List.getElem?_cons_succ]at y0 z0 s0 s1
 go_region_held3 (fun X=>X.cell? ⟨g3,0,none⟩=some (.int .i64 e)∧X.cell? ⟨g3,1,none⟩=some (.int .i64 q)) (go_keep) (fail)
 all_goals
  clear s0 s1 x0 x1 x2 x3 x4 x5 y0 z0 fz fy fc
  have hfin:P3 w (((((((((wi.setCell ⟨w.heap.size,0,none⟩ (.int .i64 0)).setCell ⟨w.heap.size,1,none⟩ (.bool false)).setCell ⟨w.heap.size,2,none⟩ (.int .i64 0)).setCell ⟨w.heap.size,3,none⟩ (.string ⟨#[]⟩)).setCell ⟨w.heap.size,4,none⟩ (.slice none 0 0)).setCell ⟨w.heap.size,5,none⟩ (.slice none 0 0)).setCell ⟨w.heap.size+1,0,none⟩ (.int .i64 q)).setCell ⟨w.heap.size+2,0,none⟩ (.int .i64 e)).drew) zero6 (.int .i64 q) (.int .i64 e):=
   (((HP.out.setA (.int .i64 0) (.bool false) (.int .i64 0) (.string ⟨#[]⟩) (.slice none 0 0) (.slice none 0 0)).setB (.int .i64 q)).setC (.int .i64 e)).later (Below.drew (Below.refl _ _))
  have Hfin:=Lib.hid hfin
  clear hfin
  go_wp2
  refine hn.out _ _ _ ?_
  clear hp hn
  cases c₀
  simp_all[bodyPostS,results,Tryz.results89,NoPanic]
  exact Hfin.out
end Go.Proofs.YtkkbplakgldlpaaGreatDoor
