/- Parts, joined: The reference's word whether ops may be a patch. Condition: a bulk of at most 10^8. Whether an answer may be: the program's word and the reference's. Condition: a bulk of at most 10^8. commonplaceref18.Same: yes of an answer and itself alone. Condition: bulks of at most 10^8. -/
import Derived.Test.YtackmnbpfbaemaaGreatDoorProg
import Derived.WalkLawsBesides
import Derived.BigQuiet
import Derived.Deep.QuietTactic
import Derived.Test.YtackmnbpfbaemaaGreatDoorKPb20
import Derived.Test.YtackmnbpfbaemaaGreatDoorKPb26
import Derived.Test.YtackmnbpfbaemaaGreatDoorKPb27
import Derived.Test.YtackmnbpfbaemaaGreatDoorKPb36
import Derived.Test.YtackmnbpfbaemaaGreatDoorKPb38
namespace Go.Proofs.YtackmnbpfbaemaaGreatDoor
open Go.RowKit
set_option maxRecDepth 100000 in
set_option maxHeartbeats 8000000 in
theorem rpatMay_calls (l:List POp) (a:Option Addr) (n c:Nat) (w:World) (hT:Tabs w) (h:Holds w w.heap.size (.row 8 (dQs l)) [.slice a n c]) (hb:bulkQ l≤100000000) (hin:inQ l):
 Calls Tryz.prog 42 #[.slice a n c] w fun e w'=>e= .returned (.int .i64 (mayOps none l))∧Below w.heap.size w w':=by
 have hlq:=bulkQ_len l
 have hn:=h.row_len
 rw[dQs_len]at hn
 subst hn
 have hm0:mayOps (prevQ l 0) (l.drop 0)=mayOps none l:=by rw[List.drop_zero];rfl
 have hw0:Below w.heap.size w w:=Below.refl _ _
 have H:=Lib.hid h
 have Hm0:=Lib.hid hm0
 have Hw0:=Lib.hid hw0
 have HT:=Lib.hid hT
 have Hin:=Lib.hid hin
 clear h hm0 hw0 hT hin
 go_enter Tryz.func42,Tryz.ntmps42
 go_wp2_with (fail)
 go_loopw [3] (fun i wr=> ∃q:Nat,i= .int .i64 q∧q≤l.length∧Hid (mayOps (prevQ l q) (l.drop q)=mayOps none l)∧Hid (Below w.heap.size w wr)) (fun i _=>l.length - (intOf i).toNat)
 case atStart=>exact⟨0,rfl,Nat.zero_le _,Hm0,Hw0⟩
 case round=>
  obtain⟨q,rfl,hq,hm,hbw⟩:=hrel
  clear Hm0 Hw0
  by_cases hlt:q<l.length
  · obtain⟨p,hp⟩: ∃p,l[q]? =some p:=⟨_,List.getElem?_eq_getElem hlt⟩
    have hdr:=drop_of_get hp
    have hmem:=List.mem_of_getElem? hp
    have hbq:=bulkQ_mem hmem
    have hiq:=Hin.out p hmem
    have hpv:prevQ l (q+1)=some p:=hp
    have hm':=hm.out
    rw[hdr]at hm'
    simp only[mayOps]at hm'
    rw[←hpv]at hm'
    obtain⟨k,key,⟨k',b',n',t',l',o'⟩⟩:=p
    simp only at hbq hiq hm'
    have hz:=hbw.out.size
    obtain⟨g,off,rfl,hg,la',lc',oa',oc',hv,c0,c1,c2,c3,c4,c5,c6,c7⟩:=opQ_at ((H.out.below hbw.out).more hz) hp
    have hgr:g<wr.heap.size:=hg
    have hq1:(q:Int)<(l.length:Int):=by omega
    have hq0:(0:Int)≤q:=by omega
    have hTr:=HT.out.below hbw.out
    by_cases hk13:1≤k∧k≤3
    rotate_left
    · have hs:strangeB ⟨k,key, .mk k' b' n' t' l' o'⟩=true:=by
       unfold strangeB
       rw[if_neg (by simp only;omega),if_neg (by simp only;omega),if_neg (by simp only;omega)]
      rw[hs,Bool.true_or,if_pos rfl]at hm'
      have hkk:k<1∨3<k:=by omega
      have Hm':=Lib.hid hm'
      have Hp:=Lib.hid hp
      have Hiq:=Lib.hid hiq
      have Hv:=Lib.hid hv
      have Hbw:=Lib.hid hbw
      have HTr:=Lib.hid hTr
      clear hm' hp hiq hv hbw hTr
      clear hm hdr hmem hpv hs hk13 c2 c3 c4 c5 c6 c7
      rcases hkk with hk1|hk3
      · go_wp2
        go_ret
        exact⟨by rw[←Hm'.out];rfl,Hbw.out.out⟩
      · have hk1:1≤k:=by omega
        go_wp2
        go_ret
        exact⟨by rw[←Hm'.out];rfl,Hbw.out.out⟩
    obtain⟨hk1,hk3⟩:=hk13
    obtain⟨Z,hZ⟩: ∃Z,zeroB (.mk k' b' n' t' l' o')=Z:=⟨_,rfl⟩
    have hEq:=fun(W:World) hB=>rzero_calls (.mk k' b' n' t' l' o') _ W ((hv.below (w':=W) hB).more hB.size) (by omega) hZ
    obtain⟨S,hS⟩: ∃S,(decide (k≠1)&& !Z)=S:=⟨_,rfl⟩
    have hst:strangeB ⟨k,key, .mk k' b' n' t' l' o'⟩=(S||decide (k=3)&& !key.toList.isEmpty):=by
     unfold strangeB
     simp only[hZ,←hS]
     rcases(by omega:k=1∨k=2∨k=3)with rfl|rfl|rfl
     · simp
     · simp
     · cases Z<;>cases key.toList.isEmpty<;>simp
    have Hm':=Lib.hid hm'
    have Hp:=Lib.hid hp
    have Hiq:=Lib.hid hiq
    have Hv:=Lib.hid hv
    have Hbw:=Lib.hid hbw
    have HTr:=Lib.hid hTr
    have HEq:=Lib.hid hEq
    have Hst:=Lib.hid hst
    have HS:=Lib.hid hS
    have HZ:=Lib.hid hZ
    clear hm' hp hiq hv hbw hTr hEq hst hS hZ
    clear hm hdr hmem hpv
    go_upto_region 5 with(fail)
    go_cut [36] (fun s wx=>s= .bool S∧Hid (Below wr.heap.size wr wx))
    case first=>
     by_cases hk:k=1
     · subst hk
       have eS:S=false:=by rw[←HS.out];simp
       subst eS
       go_wp2
       go_meet
       exact⟨rfl,Below.refl _ _⟩
     · have eS:S= !Z:=by rw[←HS.out];simp[hk]
       subst eS
       have tk:(k != 1)=true:=by simpa using hk
       clear hk
       go_wp2_with (go_at_call 65;(with_reducible refine(HEq.out _ (Below.refl _ _)).mono ?_);rintro e w4 ⟨rfl,hb4⟩)
       go_meet
       exact⟨by rw[decide_eq_false (by omega),decide_eq_false (by omega)];rfl,hb4⟩
    case rest=>
     obtain⟨rfl,hbx⟩:=hcut
     obtain⟨wo,rfl⟩: ∃wo:World,wo=wc:=⟨_,rfl⟩
     obtain⟨hco,hfo⟩:=bcellM hbx.out
     have hBo:Below w.heap.size w wo:=Hbw.out.out.trans (hbx.out.mono hz)
     have hlx:wr.heap.size≤wo.heap.size:=hbx.out.size
     have hm:=Hm'.out
     rw[Hst.out]at hm
     cases S with
     |true=>
      rw[Bool.true_or,Bool.true_or,if_pos rfl]at hm
      have Hm:=Lib.hid hm
      have HBo:=Lib.hid hBo
      clear hm hBo
      go_wp2
      go_ret
      exact⟨by rw[←Hm.out];rfl,HBo.out⟩
     |false=>
      rw[Bool.false_or]at hm
      by_cases e3:k=3
      · subst e3
        by_cases hC:0<q∨key.toList≠ []
        · have hm2:mayOps none l=2:=by
           rw[←hm,if_pos]
           rcases hC with hC|hC
           · obtain⟨j,rfl⟩: ∃j,q=j+1:=⟨q - 1,by omega⟩
             obtain⟨pj,hpj⟩: ∃pj,l[j]? =some pj:=⟨_,List.getElem?_eq_getElem (by omega)⟩
             simp[prevQ,hpj,followsB]
           · simp[hC]
          have Hm2:=Lib.hid hm2
          have HBo:=Lib.hid hBo
          clear hm2 hBo
          clear hm
          by_cases hq3:0<q
          · have tq:(0:Int)<q:=by omega
            clear hC hq3
            go_wp2
            go_ret
            exact⟨by rw[Hm2.out];rfl,HBo.out⟩
          · obtain rfl:q=0:=by omega
            have hke:key.toList≠ []:=by simpa using hC
            have tk:(!key.toList.isEmpty)=true:=by simpa using hke
            have tk2: ¬key.toList= []:=hke
            clear hC hq3 hke
            go_wp2
            go_ret
            exact⟨by rw[Hm2.out];rfl,HBo.out⟩
        · obtain rfl:q=0:=by omega
          have hke:key.toList= []:=by simpa using hC
          have hm2:mayOps (prevQ l (0+1)) (l.drop (0+1))=mayOps none l:=by
           rw[←hm,if_neg (by simp[prevQ,hke]),if_pos rfl]
          have tk:key.toList.isEmpty=true:=by simp[hke]
          have hke2:=Lib.hid hke
          have Hm2:=Lib.hid hm2
          have HBo:=Lib.hid hBo
          clear hm2 hBo
          clear hm hC hke
          go_wp2
          go_roundw
          case rel=>exact⟨0+1,by go_num,by omega,Hm2,HBo⟩
          case measure=>simp[intOf];omega
      have t3:(k==3)=false:=by simpa using e3
      rw[decide_eq_false e3,Bool.false_and,Bool.false_or,if_neg e3]at hm
      obtain⟨C,hC⟩: ∃C,((prevQ l q).any fun x=> !followsB x ⟨k,key, .mk k' b' n' t' l' o'⟩)=C:=⟨_,rfl⟩
      rw[hC]at hm
      have hTo:=HT.out.below hBo
      have hvo:=(Hv.out.below hbx.out).more hlx
      have Hm:=Lib.hid hm
      have HBo:=Lib.hid hBo
      have HTo:=Lib.hid hTo
      have Hvo:=Lib.hid hvo
      have HC:=Lib.hid hC
      clear hm hBo hTo hvo hC
      go_upto_region 10 with(fail)
      go_cut [73] (fun s wx=>s= .bool C∧Hid (Below wo.heap.size wo wx))
      case first=>
       have c0':=(hco g (off+q*8) hgr).trans c0
       have c1':=(hco g (off+q*8+1) hgr).trans c1
       have hC':=HC.out
       clear hco hfo c0 c1 c2 c3 c4 c5 c6 c7
       rcases q with _|j
       · obtain rfl:false=C:=by simpa[prevQ]using hC'
         clear hC'
         go_quiet (fail)
         go_wp2
         go_meet
         exact⟨rfl,below_dr' (Below.refl _ _) _⟩
       · obtain⟨pj,hpj⟩: ∃pj,l[j]? =some pj:=⟨_,List.getElem?_eq_getElem (by omega)⟩
         have hC2:(!followsB pj ⟨k,key, .mk k' b' n' t' l' o'⟩)=C:=by simpa[prevQ,hpj]using hC'
         obtain⟨kp,keyp,⟨kp',bp',np',tp',lp',op'⟩⟩:=pj
         obtain⟨g2,off2,ee2,hg2,lap,lcp,oap,ocp,_,d0,d1,d2,d3,d4,d5,d6,d7⟩:=opQ_at ((H.out.below HBo.out).more HBo.out.size) hpj
         obtain⟨rfl,rfl⟩:g=g2∧off=off2:=by simpa using ee2
         have hC3:(decide (kp≠3)&& !Op.bytesLess keyp.toList key.toList)=C:=by
          rw[←hC2];simp[followsB,e3]
         have q1:(1:Int)≤j+1:=by omega
         have q2:IntKind.i64.wrap ((j:Int)+1 - 1)=j:=by rw[Int.add_sub_cancel];exact IntWalk.i64_in _ (by omega)
         have q3:IntKind.i64.wrap (j:Int)=j:=IntWalk.i64_in _ (by omega)
         have q5:(0:Int)≤j:=by omega
         have q6:(j:Int)<(l.length:Int):=by omega
         have q8:(0:Int)<(j:Int)+1:=by omega
         have q9:decide ((0:Int)<(j:Int)+1)=true:=decide_eq_true q8
         have hjl:j<l.length:=by omega
         clear hC' hC2 d2 d3 d4 d5 d6 d7 hpj e3
         by_cases e3p:kp=3
         · subst e3p
           obtain rfl:false=C:=by simpa using hC3
           clear hC3
           go_quiet (fail)
           go_wp2
           go_meet
           exact⟨rfl,below_dr' (Below.refl _ _) _⟩
         · have t3p:(kp != 3)=true:=by simpa using e3p
           obtain rfl:C= !Op.bytesLess keyp.toList key.toList:=by rw[←hC3];simp[e3p]
           clear hC3 e3p
           go_quiet (fail)
           go_wp2
           go_meet
           exact⟨by rw[le_not],below_dr' (Below.refl _ _) _⟩
      case rest=>
       obtain⟨rfl,hby⟩:=hcut
       have hBw:Below w.heap.size w wc:=HBo.out.trans (hby.out.mono HBo.out.size)
       have hks:key.size≤1000000000:=by omega
       have hm:=Hm.out
       have hq9:q+1≤l.length:=by omega
       have hgo:g<wo.heap.size:=by omega
       obtain⟨hcy,hfy⟩:=bcellM hby.out
       have hTc:=HTo.out.below hby.out
       have hvc:=(Hvo.out.below hby.out).more hby.out.size
       have hfit: ∀wk,Below wc.heap.size wc wk→Calls Tryz.prog 67 #[.agg #[.int .i64 k', .bool b', .int .i64 n', .string t', .slice la' l'.length lc', .slice oa' o'.length oc']] wk fun e w'=>e= .returned (.int .i64 (fitsV (.mk k' b' n' t' l' o')))∧Below wk.heap.size wk w':=
        fun wk hbk=>RFits_calls _ _ wk (hTc.below hbk) ((hvc.below hbk).more hbk.size) (by omega) Hiq.out
       cases C with
       |true=>
        rw[if_pos rfl]at hm
        have Hm:=Lib.hid hm
        have HBw:=Lib.hid hBw
        have HTc:=Lib.hid hTc
        have Hvc:=Lib.hid hvc
        have Hfit:=Lib.hid hfit
        clear hm hBw hTc hvc hfit
        go_wp2
        go_ret
        exact⟨by rw[←Hm.out];rfl,HBw.out⟩
       |false=>
        rw[if_neg (by simp)]at hm
        have hC:=rkey_calls key wc hks
        by_cases hkb:keyB key=false
        · rw[if_pos hkb]at hm
          have tE:(keyE key != 0)=true:=by
           simp only[bne_iff_ne,ne_eq]
           intro e
           rw[(keyE_zero key).1 e]at hkb
           cases hkb
          have HBw:=Lib.hid hBw
          have HTc:=Lib.hid hTc
          have Hvc:=Lib.hid hvc
          have Hm:=Lib.hid hm
          have HC:=Lib.hid hC
          have Hfit:=Lib.hid hfit
          clear hBw hTc hvc hm hC hfit
          clear e3 hkb
          go_wp2_with (go_at_call 66;(with_reducible refine(HC.out).mono ?_);rintro e wk ⟨rfl,rfl⟩)
          go_ret
          exact⟨by rw[←Hm.out];rfl,HBw.out⟩
        rw[if_neg hkb]at hm
        have hk0:keyE key=0:=(keyE_zero key).2 (by simpa using hkb)
        have tE:(keyE key != 0)=false:=by rw[hk0];rfl
        by_cases e2:k=2
        · rw[if_pos e2]at hm
          have t2:(k==1)=false:=by rw[e2];rfl
          have HBw:=Lib.hid hBw
          have HTc:=Lib.hid hTc
          have Hvc:=Lib.hid hvc
          have Hm:=Lib.hid hm
          have HC:=Lib.hid hC
          have Hk0:=Lib.hid hk0
          have Hfit:=Lib.hid hfit
          clear hBw hTc hvc hm hC hk0 hfit
          clear e3 hkb e2
          go_wp2_with (go_at_call 66;(with_reducible refine(HC.out).mono ?_);rintro e wk ⟨rfl,rfl⟩)
          go_roundw
          case rel=>exact⟨q+1,by go_num,hq9,Hm,HBw⟩
          case measure=>simp[intOf];omega
        rw[if_neg e2]at hm
        have t2:(k==1)=true:=by rw[beq_iff_eq];omega
        by_cases hf:fitsV (.mk k' b' n' t' l' o')=0
        · rw[if_pos hf]at hm
          have tF:(fitsV (.mk k' b' n' t' l' o') != 0)=false:=by rw[hf];rfl
          have HBw:=Lib.hid hBw
          have HTc:=Lib.hid hTc
          have Hvc:=Lib.hid hvc
          have Hm:=Lib.hid hm
          have HC:=Lib.hid hC
          have Hk0:=Lib.hid hk0
          have Hfit:=Lib.hid hfit
          have Hf:=Lib.hid hf
          clear hBw hTc hvc hm hC hk0 hfit hf
          clear e3 hkb e2
          go_wp2_with (first
           |(go_at_call 66;(with_reducible refine(HC.out).mono ?_);rintro e wk ⟨rfl,rfl⟩)
           |(go_at_call 67;(with_reducible refine(Hfit.out _ (Below.refl _ _)).mono ?_);rintro e wf ⟨rfl,hbf⟩))
          have HBk:=Lib.hid (HBw.out.trans (hbf.mono HBw.out.size))
          go_roundw
          case rel=>exact⟨q+1,by go_num,hq9,Hm,HBk⟩
          case measure=>simp[intOf];omega
        · rw[if_neg hf]at hm
          have tF:(fitsV (.mk k' b' n' t' l' o') != 0)=true:=by simpa using hf
          have HBw:=Lib.hid hBw
          have HTc:=Lib.hid hTc
          have Hvc:=Lib.hid hvc
          have Hm:=Lib.hid hm
          have HC:=Lib.hid hC
          have Hk0:=Lib.hid hk0
          have Hfit:=Lib.hid hfit
          clear hBw hTc hvc hm hC hk0 hfit
          clear e3 hkb e2 hf
          go_wp2_with (first
           |(go_at_call 66;(with_reducible refine(HC.out).mono ?_);rintro e wk ⟨rfl,rfl⟩)
           |(go_at_call 67;(with_reducible refine(Hfit.out _ (Below.refl _ _)).mono ?_);rintro e wf ⟨rfl,hbf⟩))
          go_ret
          exact⟨by rw[←Hm.out];rfl,HBw.out.trans (hbf.mono HBw.out.size)⟩
  · obtain rfl:q=l.length:=by omega
    have hm':=hm.out
    rw[List.drop_length]at hm'
    have e0:mayOps (prevQ l l.length) []=0:=by simp[mayOps]
    rw[e0]at hm'
    have Hm':=Lib.hid hm'
    clear hm'
    clear hm e0
    go_wp2
    go_ret
    exact⟨by rw[←Hm'.out];rfl,hbw.out⟩
end Go.Proofs.YtackmnbpfbaemaaGreatDoor

namespace Go.Proofs.YtackmnbpfbaemaaGreatDoor
open Go.RowKit
set_option maxRecDepth 100000 in
set_option maxHeartbeats 1000000 in
theorem MayResponse_calls (c b k s:Int) (l:List POp) (a:Option Addr) (n cc:Nat) (w:World) (hT:Tabs w) (h:Holds w w.heap.size (.row 8 (dQs l)) [.slice a n cc]) (hb:bulkQ l≤100000000) (hin:inQ l):
 Calls Tryz.prog 38 #[.agg #[.int .u64 c, .int .u64 b, .int .u64 k, .int .u64 s, .slice a n cc]] w fun e w'=>e= .returned (.int .i64 (mayResp c b k s l))∧Below w.heap.size w w':=by
 have hb0:=fun o=>alloc_below w o
 have hM:=fun(W:World) hB=>patMay_calls l a n cc W (hT.below (w':=W) hB) ((h.below hB).more hB.size) hb hin
 by_cases h1:0<c∧c≤4611686018427387903
 · obtain⟨h1,h2⟩:=h1
   have hC:=fun W=>isClient_calls c true W (by simp[h1,h2])
   by_cases h3:b≤4611686018427387903∧k≤4611686018427387903∧s≤4611686018427387903
   · have hm:mayResp c b k s l=mayOps none l:=by unfold mayResp;rw[if_pos ⟨h1,h2,h3⟩]
     obtain⟨h3,h4,h5⟩:=h3
     have h6:max (max b k) s≤4611686018427387903:=by omega
     have HC:=Lib.hid hC
     have Hm:=Lib.hid hm
     have HM:=Lib.hid hM
     have H:=Lib.hid h
     have HT:=Lib.hid hT
     have Hb0:=Lib.hid hb0
     clear hC hm hM h hT hb0
     go_enter Tryz.func38,Tryz.ntmps38
     go_wp2_with (first
      |(go_at_call 45;(with_reducible refine(HC.out _).mono ?_);rintro e w' ⟨rfl,rfl⟩)
      |(go_at_call 61;(with_reducible refine(HM.out _ (Hb0.out _)).mono ?_);rintro e w2 ⟨rfl,hb2⟩))
     all_goals(go_ret;exact⟨by rw[Hm.out];rfl,(Hb0.out _).trans (hb2.mono (by simp))⟩)
   · have hm:mayResp c b k s l=2:=by unfold mayResp;rw[if_neg (by omega)]
     have h6:4611686018427387903<max (max b k) s:=by omega
     have HC:=Lib.hid hC
     have Hm:=Lib.hid hm
     have HM:=Lib.hid hM
     have H:=Lib.hid h
     have HT:=Lib.hid hT
     have Hb0:=Lib.hid hb0
     clear hC hm hM h hT hb0
     clear h3
     go_enter Tryz.func38,Tryz.ntmps38
     go_wp2_with (first
      |(go_at_call 45;(with_reducible refine(HC.out _).mono ?_);rintro e w' ⟨rfl,rfl⟩))
     all_goals first|(go_ret;exact⟨by rw[Hm.out];rfl,Hb0.out _⟩)|(exfalso;omega)
 · have hC:=fun W=>isClient_calls c false W (by simp;omega)
   have hm:mayResp c b k s l=2:=by unfold mayResp;rw[if_neg (by omega)]
   have HC:=Lib.hid hC
   have Hm:=Lib.hid hm
   have HM:=Lib.hid hM
   have H:=Lib.hid h
   have HT:=Lib.hid hT
   have Hb0:=Lib.hid hb0
   clear hC hm hM h hT hb0
   clear h1
   go_enter Tryz.func38,Tryz.ntmps38
   go_wp2_with (first
    |(go_at_call 45;(with_reducible refine(HC.out _).mono ?_);rintro e w' ⟨rfl,rfl⟩))
   go_ret
   exact⟨by rw[Hm.out];rfl,Hb0.out _⟩
set_option maxRecDepth 100000 in
set_option maxHeartbeats 1000000 in
theorem RMayResponse_calls (c b k s:Int) (h0:0≤c) (l:List POp) (a:Option Addr) (n cc:Nat) (w:World) (hT:Tabs w) (h:Holds w w.heap.size (.row 8 (dQs l)) [.slice a n cc]) (hb:bulkQ l≤100000000) (hin:inQ l):
 Calls Tryz.prog 20 #[.agg #[.int .u64 c, .int .u64 b, .int .u64 k, .int .u64 s, .slice a n cc]] w fun e w'=>e= .returned (.int .i64 (mayResp c b k s l))∧Below w.heap.size w w':=by
 have hb0:=fun o=>alloc_below w o
 have hM:=fun(W:World) hB=>rpatMay_calls l a n cc W (hT.below (w':=W) hB) ((h.below hB).more hB.size) hb hin
 by_cases h1:c=0
 · subst h1
   have hm:mayResp 0 b k s l=2:=by unfold mayResp;rw[if_neg (by omega)]
   have Hm:=Lib.hid hm
   have HM:=Lib.hid hM
   have H:=Lib.hid h
   have HT:=Lib.hid hT
   have Hb0:=Lib.hid hb0
   clear hm hM h hT hb0
   go_enter Tryz.func20,Tryz.ntmps20
   go_wp2
   go_ret
   exact⟨by rw[Hm.out];rfl,Hb0.out _⟩
 have e0:(c==0)=false:=by simpa using h1
 by_cases h2:c≤4611686018427387903∧b≤4611686018427387903∧k≤4611686018427387903∧s≤4611686018427387903
 · have hm:mayResp c b k s l=mayOps none l:=by unfold mayResp;rw[if_pos ⟨by omega,h2⟩]
   obtain⟨h2,h3,h4,h5⟩:=h2
   have Hm:=Lib.hid hm
   have HM:=Lib.hid hM
   have H:=Lib.hid h
   have HT:=Lib.hid hT
   have Hb0:=Lib.hid hb0
   clear hm hM h hT hb0
   clear h1
   go_enter Tryz.func20,Tryz.ntmps20
   go_wp2_with (first
    |(go_at_call 42;(with_reducible refine(HM.out _ (Hb0.out _)).mono ?_);rintro e w2 ⟨rfl,hb2⟩))
   go_ret
   exact⟨by rw[Hm.out];rfl,(Hb0.out _).trans (hb2.mono (by simp))⟩
 · have hm:mayResp c b k s l=2:=by unfold mayResp;rw[if_neg (by omega)]
   have Hm:=Lib.hid hm
   have HM:=Lib.hid hM
   have H:=Lib.hid h
   have HT:=Lib.hid hT
   have Hb0:=Lib.hid hb0
   clear hm hM h hT hb0
   clear h1
   go_enter Tryz.func20,Tryz.ntmps20
   go_wp2
   all_goals first|(go_ret;exact⟨by rw[Hm.out];rfl,Hb0.out _⟩)|(exfalso;omega)
end Go.Proofs.YtackmnbpfbaemaaGreatDoor

namespace Go.Proofs.YtackmnbpfbaemaaGreatDoor
open Go Go.RowKit
set_option maxRecDepth 100000 in
set_option maxHeartbeats 4000000 in
theorem sameR_calls (c b k s c' b' k' s':Int) (l l':List POp) (a a':Option Addr) (n cc n' cc':Nat) (w:World) (h:Holds w w.heap.size (.row 8 (dQs l)) [.slice a n cc]) (h':Holds w w.heap.size (.row 8 (dQs l')) [.slice a' n' cc']) (hb:bulkQ l≤100000000) (hb':bulkQ l'≤100000000):
 Calls Tryz.prog 18 #[.agg #[.int .u64 c, .int .u64 b, .int .u64 k, .int .u64 s, .slice a n cc], .agg #[.int .u64 c', .int .u64 b', .int .u64 k', .int .u64 s', .slice a' n' cc']] w (EqPost (c=c'∧b=b'∧k=k'∧s=s'∧l=l') w):=by
 have hL:=fun(W:World) (hB:Below w.heap.size w W)=>sameQ_calls l l' a a' n cc n' cc' W ((h.below hB).more hB.size) ((h'.below hB).more hB.size) hb hb'
 have H:=Lib.hid h
 have H':=Lib.hid h'
 clear h h'
 by_cases h1:c=c'
 rotate_left
 · have e:(c==c')=false:=by simpa using h1
   have hno: ¬(c=c'∧b=b'∧k=k'∧s=s'∧l=l'):=fun x=>h1 x.1
   have Hno:=Lib.hid hno
   have HL:=Lib.hid hL
   clear hno hL
   clear h1
   go_enter Tryz.func18,Tryz.ntmps18
   go_wp2
   go_ret
   exact EqPost.no (by simpa using Hno.out) (two_boxes _ _ _)
 subst h1
 have e1:(c==c)=true:=by simp
 by_cases h2:b=b'
 rotate_left
 · have e:(b==b')=false:=by simpa using h2
   have hno: ¬(c=c∧b=b'∧k=k'∧s=s'∧l=l'):=fun x=>h2 x.2.1
   have Hno:=Lib.hid hno
   have HL:=Lib.hid hL
   clear hno hL
   clear h2
   go_enter Tryz.func18,Tryz.ntmps18
   go_wp2
   go_ret
   exact EqPost.no (by simpa using Hno.out) (two_boxes _ _ _)
 subst h2
 have e2:(b==b)=true:=by simp
 by_cases h3:k=k'
 rotate_left
 · have e:(k==k')=false:=by simpa using h3
   have hno: ¬(c=c∧b=b∧k=k'∧s=s'∧l=l'):=fun x=>h3 x.2.2.1
   have Hno:=Lib.hid hno
   have HL:=Lib.hid hL
   clear hno hL
   clear h3
   go_enter Tryz.func18,Tryz.ntmps18
   go_wp2
   go_ret
   exact EqPost.no (by simpa using Hno.out) (two_boxes _ _ _)
 subst h3
 have e3:(k==k)=true:=by simp
 by_cases h4:s=s'
 rotate_left
 · have e:(s==s')=false:=by simpa using h4
   have hno: ¬(c=c∧b=b∧k=k∧s=s'∧l=l'):=fun x=>h4 x.2.2.2.1
   have Hno:=Lib.hid hno
   have HL:=Lib.hid hL
   clear hno hL
   clear h4
   go_enter Tryz.func18,Tryz.ntmps18
   go_wp2
   go_ret
   exact EqPost.no (by simpa using Hno.out) (two_boxes _ _ _)
 subst h4
 have e4:(s==s)=true:=by simp
 have HL:=Lib.hid hL
 clear hL
 go_enter Tryz.func18,Tryz.ntmps18
 go_wp2_with (fail)
 have hbw:=two_boxes w (.cells #[.int .u64 c, .int .u64 b, .int .u64 k, .int .u64 s, .slice a n cc] 47) (.cells #[.int .u64 c, .int .u64 b, .int .u64 k, .int .u64 s, .slice a' n' cc'] 47)
 with_reducible refine(HL.out _ hbw).mono ?_
 rintro e w1 ⟨B,rfl,hB,hb1⟩
 have hw1:=hbw.trans (hb1.mono hbw.size)
 have Hb1:=Lib.hid hb1
 have Hbw:=Lib.hid hbw
 have Hw1:=Lib.hid hw1
 have HB:=Lib.hid hB
 clear hb1 hbw hw1 hB
 go_wp2
 go_ret
 exact⟨B,rfl,by simpa using HB.out,Hw1.out⟩
end Go.Proofs.YtackmnbpfbaemaaGreatDoor
