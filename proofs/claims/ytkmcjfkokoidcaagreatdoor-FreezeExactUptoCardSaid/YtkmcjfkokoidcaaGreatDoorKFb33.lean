/- Parts: commonplaceref04.list, where 'value' keeps its promise at a smaller fuel. Condition: a text of at most 1.6*10^7 bytes. -/
import Derived.Test.YtkmcjfkokoidcaaGreatDoorKFb27
set_option maxHeartbeats 20000000
set_option maxRecDepth 100000
namespace Go.Proofs.YtkmcjfkokoidcaaGreatDoor
open Go Go.RowKit
def Mw (w:World):Prop:= ∃te pe,w.cell? ⟨6,0,none⟩=some (.iface te pe)
structure NRd (w wr:World) (R g:Nat) (s:ByteArray) (j:Nat):Prop where
 went:Bd R g s j w wr
 res:Aj wr w.heap.size 37 A5
theorem X6 (R g:Nat) (s:ByteArray) (k:Nat) (d:Int) (w:World) (hN: ∀W,w.grownBy W (some R)->Mw W) (hs:s.size<=100000000) (hk:k<s.size) (h:S5 w R g s k):
 Calls Tryz.prog 150 #[.pointer (some ⟨R,0,none⟩),.int .i64 d] w (Fv R g s w ((Du s.data.toList k).map Qc)):=by
 have hR:R<w.heap.size:=Aj.lt h;obtain⟨c,hc⟩: ∃c,s[k]=c:=⟨_,rfl⟩;have hg:s.data.toList[k]? =some c:=by rw[A9 s hk,hc]
 have hcl:=Be c;obtain⟨F,hF⟩: ∃F,(if s.data.toList[k]? =some 45 then k+1 else k)=F:=⟨_,rfl⟩;obtain⟨RES,hRES⟩: ∃r,(Du s.data.toList k).map Qc=r:=⟨_,rfl⟩;rw[hRES];unfold Du at hRES;rw[hF]at hRES;have hFk:k<=F/\F<=k+1:=by rw[<-hF];split<;>omega
 have HI0:Hid (NRd w (w.alloc (.cells A5 37)) R g s k):=⟨(Bd.refl h).alloc _,Aj.new _ _ _⟩;have hb45:((c.toNat:Int)==45)=decide (c=45):=by rw[show(45:Int)=((45:Nat):Int)from rfl,Gg (by decide)];rfl
 obtain⟨c0,c1,_,f1,_⟩:=h.cells;have i0:(0:Int)<=(k:Int):=by omega
 have i1:(k:Int)<(s.size:Int):=by omega
 obtain⟨HN,H,HRES,Hg,HF⟩:=hid5 hN h hRES hg hF;clear hN h hRES hg hF;go_enter Tryz.func150,Tryz.ntmps150;go_wp2;go_quiet (fail);go_upto_if 22 with(fail);go_cut [] (fun wx=>Hid (NRd w wx R g s F))
 case first=>
  by_cases h45:c=45
  . have e45:decide (c=45)=true:=decide_eq_true h45;have eF:F=k+1:=by rw[<-HF.out,Hg.out,h45,if_pos rfl]
    go_wp2;go_meet;rw[eF];exact⟨(HI0.out.went.drewN _).set _,HI0.out.res.far (by simp;omega) _⟩
  . have e45:decide (c=45)=false:=decide_eq_false h45;have eF:F=k:=by rw[<-HF.out,Hg.out,if_neg (by simpa using h45)]
    go_wp2;go_meet;rw[eF];exact⟨HI0.out.went.drewN _,HI0.out.res⟩
 have hd0:=Od s.data.toList F;have hd1:=Oe (s:=s.data.toList) (p:=F) (by rw[Ab];omega);rw[Ab]at hd1;have HI1:=hcut;obtain⟨E,hE⟩: ∃E,Ch s.data.toList F=E:=⟨_,rfl⟩;rw[hE]at hd0 hd1;clear hcut HI0 c0 c1 f1 i0 i1;obtain⟨a0,a1,_,f1,_⟩:=HI1.out.went.2.cells;have HE:=qz hE;clear hE
 go_upto_block 0 with(fail)
 go_cut [] (fun wx=>Hid (NRd w wx R g s E))
 case first=>
  go_wp2_with (fail)
  go_loopg [] (s.size - F) (fun n wr=> ∃j:Nat,F<=j/\j<=s.size/\n=s.size - j/\Hid (Ch s.data.toList j=E/\NRd w wr R g s j))
  case atStart=>exact⟨F,Nat.le_refl _,by omega,rfl,HE.out,HI1.out⟩
  case round=>
   obtain⟨j,hjF,hj,rfl,hh⟩:=hrel;obtain⟨z0,z1,_,z3,_⟩:=hh.out.2.went.2.cells;clear HI1 a0 a1 f1;have j0:(0:Int)<=(j:Int):=by omega
   by_cases hlt:j<s.size
   . obtain⟨x,hx⟩: ∃x,s[j]=x:=⟨_,rfl⟩;have hxg:s.data.toList[j]? =some x:=by rw[A9 s hlt,hx]
     have hxl:=Be x;have j1:decide ((j:Int)<(s.size:Int))=true:=decide_eq_true (by omega);have j2:(j:Int)<(s.size:Int):=by omega
     by_cases hdg:Cx x=true
     . have HN':Hid (Ch s.data.toList (j+1)=E/\ ∀nq,NRd w ((wr.drewN nq).setCell ⟨R,1,none⟩ (.int .i64 ((j+1:Nat):Int))) R g s (j+1)):=⟨by rw[<-O7 hxg hdg];exact hh.out.1,fun nq=>⟨(hh.out.2.went.drewN nq).set _,hh.out.2.res.far (by simp;omega) _⟩⟩;unfold Cx at hdg;rw[decide_eq_true_iff]at hdg;have l1:decide ((48:Int)<=(x.toNat:Int))=true:=decide_eq_true (by omega);have l2:decide ((x.toNat:Int)<=57)=true:=decide_eq_true (by omega);clear hxg hh hdg;go_wp2;go_quiet (fail);go_wp2
       go_roundg (s.size - (j+1))
       case measure=>omega
       case rel=>exact⟨j+1,by omega,by omega,rfl,HN'.out.1,HN'.out.2 _⟩
     . have HN':Hid (j=E/\ ∀nq,NRd w (wr.drewN nq) R g s j):=⟨by rw[<-hh.out.1,O8 hxg (by simpa using hdg)],fun nq=>⟨hh.out.2.went.drewN nq,hh.out.2.res⟩⟩;unfold Cx at hdg;rw[decide_eq_true_iff]at hdg;clear hxg hh;by_cases h48:48<=x.toNat
       . have l1:decide ((48:Int)<=(x.toNat:Int))=true:=decide_eq_true (by omega);have l2:decide ((x.toNat:Int)<=57)=false:=decide_eq_false (by omega);go_wp2;go_quiet (fail);go_wp2;go_meet;have:=HN'.out.2;rw[HN'.out.1]at this;exact this _
       . have l1:decide ((48:Int)<=(x.toNat:Int))=false:=decide_eq_false (by omega);go_wp2;go_quiet (fail);go_wp2;go_meet;have:=HN'.out.2;rw[HN'.out.1]at this;exact this _
   . have HN':Hid (j=E/\ ∀nq,NRd w (wr.drewN nq) R g s j):=⟨by rw[<-hh.out.1,Q9 (by rw[Ab];omega)],fun nq=>⟨hh.out.2.went.drewN nq,hh.out.2.res⟩⟩;have j1:decide ((j:Int)<(s.size:Int))=false:=decide_eq_false (by omega);clear hh;go_wp2;go_quiet (fail);go_wp2;go_meet;have:=HN'.out.2;rw[HN'.out.1]at this;exact this _
 have HI2:=hcut;clear hcut HI1 a0 a1 f1;obtain⟨a0,a1,_,f1,_⟩:=HI2.out.went.2.cells
 go_upto_block 2 with(fail)
 go_cut [] (fun wx=>Hid (NRd w wx R g s E/\F<E/\(F=k+1->E8 ((s.data.toList.drop F).take (E - F))≠0)/\(Et (decide (s.data.toList[k]? =some 45)) (E8 ((s.data.toList.drop F).take (E - F))) k E).map Qc=RES))
 case first=>
  have hres:=HRES.out;unfold No at hres;rw[HE.out]at hres;have F0:(0:Int)<=(F:Int):=by omega
  by_cases hEF:E=F
  . rw[if_pos hEF]at hres;subst hres;subst hEF;have e1:((E:Int)==(E:Int))=true:=by simp
    have HW:=qz (Ca (.pointer (some ⟨R,0,none⟩)) 4 (E:Nat) wc);go_wp2_with (fail);(with_reducible refine(HW.out).mono ?_);rintro e w10 ⟨rfl,rfl⟩;exact⟨rfl,rfl,HI2.out.went.1⟩
  . rw[if_neg hEF]at hres;have e1:((E:Int)==(F:Int))=false:=by rw[beq_eq_false_iff_ne];omega
    have hFs:F<s.size:=by omega
    have F1:(F:Int)<(s.size:Int):=by omega
    obtain⟨x,hx⟩: ∃x,s[F]=x:=⟨_,rfl⟩;have hxg:s.data.toList[F]? =some x:=by rw[A9 s hFs,hx]
    have hxl:=Be x;rw[hxg]at hres;have hx48:((x.toNat:Int)==48)=decide (x=48):=by rw[show(48:Int)=((48:Nat):Int)from rfl,Gg (by decide)];rfl
    by_cases hz:x=48
    . have e48:decide (x=48)=true:=decide_eq_true hz;rw[e48]at hx48;by_cases hm:F+1<E
      . rw[if_pos ⟨by rw[hz],hm⟩]at hres;subst hres;have e2:decide ((F:Int)+1<(E:Int))=true:=decide_eq_true (by omega);have e3:(F:Int)+1<(E:Int):=by omega
        have HW:=qz (Ca (.pointer (some ⟨R,0,none⟩)) 4 ((F:Int)+1) wc);go_wp2_with (fail);(with_reducible refine(HW.out).mono ?_);rintro e w10 ⟨rfl,rfl⟩;exact⟨rfl,by simp[Ju],HI2.out.went.1⟩
      . rw[if_neg (fun q=>hm q.2)]at hres;have e2:decide ((F:Int)+1<(E:Int))=false:=decide_eq_false (by omega);have e3: ¬((F:Int)+1<(E:Int)):=by omega
        have hEF1:E=F+1:=by omega
        have hds:(s.data.toList.drop F).take (E - F)= [48]:=by rw[hEF1,Nat.add_sub_cancel_left,D0 hxg,hz];rfl
        by_cases hn:F=k+1
        . have h45:s.data.toList[k]? =some 45:=by
           by_cases q:s.data.toList[k]? =some 45
           . exact q
           . have:=HF.out;rw[if_neg q]at this;omega
          have e4:decide ((k:Int)<(F:Int))=true:=decide_eq_true (by omega);have e5:(k:Int)<(F:Int):=by omega
          have hr7:Et (decide (s.data.toList[k]? =some 45)) (E8 ((s.data.toList.drop F).take (E - F))) k E=.bad 7 k:=by
           rw[hds,decide_eq_true h45];rfl
          rw[hr7]at hres;subst hres;have HW:=qz (Ca (.pointer (some ⟨R,0,none⟩)) 7 (k:Nat) wc);obtain⟨Hds,Hr7⟩:=hid2 hds hr7;clear hds hr7;clear h45 hn hEF1;go_wp2_with (fail);(with_reducible refine(HW.out).mono ?_);rintro e w10 ⟨rfl,rfl⟩;exact⟨rfl,rfl,HI2.out.went.1⟩
        . have e4:decide ((k:Int)<(F:Int))=false:=decide_eq_false (by omega);have e5: ¬((k:Int)<(F:Int)):=by omega
          have HJ:Hid (NRd w wc R g s E/\F<E/\(F=k+1->E8 ((s.data.toList.drop F).take (E - F))≠0)/\(Et (decide (s.data.toList[k]? =some 45)) (E8 ((s.data.toList.drop F).take (E - F))) k E).map Qc=RES):=⟨HI2.out,by omega,fun q=>absurd q hn,hres⟩;clear hres hds;go_wp2;go_meet;exact HJ
    . have e48:decide (x=48)=false:=decide_eq_false hz;rw[e48]at hx48;rw[if_neg (fun q=>hz (by simpa using q.1))]at hres;have HJ:Hid (NRd w wc R g s E/\F<E/\(F=k+1->E8 ((s.data.toList.drop F).take (E - F))≠0)/\(Et (decide (s.data.toList[k]? =some 45)) (E8 ((s.data.toList.drop F).take (E - F))) k E).map Qc=RES):=⟨HI2.out,by omega,fun _=>Ze hxg hz (by rw[HE.out];omega) HE.out,hres⟩;clear hres;go_wp2;go_meet;exact HJ
 obtain⟨hI3,hFE,hnz,hres⟩:=hcut.out;clear hcut HI2 a0 a1 f1;obtain⟨a0,a1,_,f1,_⟩:=hI3.went.2.cells;have k0:(0:Int)<=(k:Int):=by omega
 have k1:(k:Int)<=(E:Int):=by omega
 have k2:(E:Int)<=(s.size:Int):=by omega
 have hT:(s.extract k E).data.toList=(s.data.toList.drop k).take (E - k):=by rw[Lib.extract_data]
 have hTs:(s.extract k E).size<=100000000:=by simp only[ByteArray.size_extract];omega
 have hdig:=Ab3 s.data.toList F;rw[HE.out]at hdig;have hne:(s.data.toList.drop F).take (E - F)≠ []:=by
  intro e;have:=congrArg List.length e;rw[List.length_take,List.length_drop,Ab]at this;simp at this;omega
 obtain⟨m,hm⟩: ∃m,E8 ((s.data.toList.drop F).take (E - F))=m:=⟨_,rfl⟩;rw[hm]at hres hnz;have hPI:Lib.parseIntB 64 (s.extract k E).data.toList=match Et (decide (s.data.toList[k]? =some 45)) m k E with| .ok v _=> .ok v| .bad _ _=> .range:=by
  rw[hT];by_cases h45:s.data.toList[k]? =some 45
  . have eF:F=k+1:=by rw[<-HF.out,if_pos h45]
    have e1:(s.data.toList.drop k).take (E - k)=45::(s.data.toList.drop F).take (E - F):=by
     rw[D0 h45,show E - k=(E - F)+1 by omega,List.take_succ_cons,eF]
    rw[e1,Aeo hdig hne,hm,decide_eq_true h45];unfold Et;rw[if_pos rfl];have:=hnz eF;by_cases hb:9223372036854775808<m
    . rw[if_pos hb,if_pos (.inr hb)]
    . rw[if_neg hb,if_neg (by rintro(q|q);exact this q;exact hb q)]
  . have eF:F=k:=by rw[<-HF.out,if_neg h45]
    rw[eF]at hdig hne hm;rw[Aep hdig hne,hm,decide_eq_false h45];unfold Et;rw[if_neg (show ¬((false:Bool)=true)by decide)];by_cases hb:9223372036854775807<m
    . rw[if_pos hb,if_pos hb]
    . rw[if_neg hb,if_neg hb]
 have hform:(∃v,Et (decide (s.data.toList[k]? =some 45)) m k E=.ok v E)\/Et (decide (s.data.toList[k]? =some 45)) m k E=.bad 7 k:=by
  unfold Et
  split
  . split
    . exact .inr rfl
    . exact .inl ⟨_,rfl⟩
  . split
    . exact .inr rfl
    . exact .inl ⟨_,rfl⟩
 clear hT hdig hne hm hnz;rcases hform with⟨v,hv⟩|hv
 . rw[hv]at hPI hres;simp only at hPI;subst hres;have hPc: ∀W:World,Calls Tryz.prog 210 #[.string (s.extract k E),.int .i64 10,.int .i64 64] W fun e w'=>e=.returned (.tuple #[.int .i64 v,.nilIface])/\Below W.heap.size W w':=fun W=>
    (Tryz.strconv_ParseInt_ok (s.extract k E) (by omega) v hPI W).mono fun e w' ⟨he,hw⟩=>⟨he,by
      rcases hw with rfl|⟨t,rfl⟩
      . exact Below.refl _ _
      . exact Go.Joins.below_bytesWorld _ _ _ _ (Nat.le_refl _)⟩
   have hlt3:=hI3.went.2.cells.2.2.2.2;obtain⟨HPc,HI3,HPI,Hv⟩:=hid4 hPc hI3 hPI hv;clear hPc hI3 hPI hv;go_wp2
   go_region_held3 (fun W=>W.cell? ⟨R,0,none⟩=some (.string s)/\W.cell? ⟨R,1,none⟩=some (.int .i64 E)) (go_keep) (first|(go_at_call 210;refine(HPc.out _).mono ?_;rintro e w1 ⟨rfl,hb1⟩;have hbr1:Below wc.heap.size wc w1:=(Below.drew (Below.refl _ _)).trans hb1;obtain⟨hc1,hf1⟩:=Ue hbr1))
   all_goals
    have hI4:NRd w w1 R g s E:=⟨HI3.out.went.below hbr1,HI3.out.res.below hbr1 HI3.out.res.lt⟩;obtain⟨r0,r1,r2,r3,r4,r5⟩:=Az hI4.res;have fz:=hI4.res.frozen;have hlt4:=hI4.res.lt;clear hc1 hf1 hb1 hbr1;have HI4:=qz hI4;clear hI4;go_wp2;have hxf:=((((((HI4.out.res.set_ 0 (.int .i64 3)).set_ 1 (.bool false)).set_ 2 (.int .i64 v)).set_ 3 (.string ⟨#[]⟩)).set_ 4 (.slice none 0 0)).set_ 5 (.slice none 0 0));exact bodyPost_ret (Cj rfl rfl hxf) rfl ⟨⟨_,rfl,Bu 3 false v _⟩,Bd.many (Nat.le_refl _) hR [.int .i64 3,.bool false,.int .i64 v,.string ⟨#[]⟩,.slice none 0 0,.slice none 0 0] 0 HI4.out.went⟩
 . rw[hv]at hPI hres;simp only at hPI;subst hres;have hPc: ∀W:World,Below wc.heap.size wc W->Calls Tryz.prog 210 #[.string (s.extract k E),.int .i64 10,.int .i64 64] W fun e w'=>(∃n te pe,e=.returned (.tuple #[.int .i64 n,.iface te pe]))/\Below W.heap.size W w':=fun W hW=>by
    obtain⟨te,pe,hte⟩:=HN.out W (Iy hI3.went.1 hW);exact(Tryz.strconv_ParseInt_range (s.extract k E) (by omega) hPI _ W hte (.inr ⟨te,pe,rfl⟩)).mono fun e w' ⟨N,he,_,_,hb⟩=>⟨⟨_,_,_,he⟩,hb⟩
   have hlt3:=hI3.went.2.cells.2.2.2.2;obtain⟨HPc,HI3,HPI,Hv⟩:=hid4 hPc hI3 hPI hv;clear hPc hI3 hPI hv;go_wp2
   go_region_held3 (fun W=>W.cell? ⟨R,0,none⟩=some (.string s)/\W.cell? ⟨R,1,none⟩=some (.int .i64 E)) (go_keep) (first|(go_at_call 210;refine(HPc.out _ (Below.drew (Below.refl _ _))).mono ?_;rintro e w1 ⟨⟨n,te,pe,rfl⟩,hb1⟩;have hbr1:Below wc.heap.size wc w1:=(Below.drew (Below.refl _ _)).trans hb1;obtain⟨hc1,hf1⟩:=Ue hbr1))
   all_goals
    have HW:=qz (Ca (.pointer (some ⟨R,0,none⟩)) 7 (k:Nat) w1);have Hgb:=qz (Iy HI3.out.went.1 hbr1);clear hc1 hf1 hb1 hbr1;go_wp2_with (fail);(with_reducible refine(HW.out).mono ?_);rintro e w10 ⟨rfl,rfl⟩;exact⟨rfl,rfl,Hgb.out⟩
theorem St (s:ByteArray) (k:Nat) (w:World) (hs:s.size<=1000000000) (hk:k<s.size):
 Calls Tryz.prog 151 #[.string s,.int .i64 k] w (Fw w ((Du s.data.toList k).map Qc)):=by
 obtain⟨F,hF⟩: ∃F,(if s.data.toList[k]? =some 45 then k+1 else k)=F:=⟨_,rfl⟩;obtain⟨RES,hRES⟩: ∃r,(Du s.data.toList k).map Qc=r:=⟨_,rfl⟩;rw[hRES];unfold Du at hRES;rw[hF]at hRES;have hFk:k<=F/\F<=k+1:=by rw[<-hF];split<;>omega
 have hB0:=RBx.start w;have hIs: ∀W,Calls Tryz.prog 211 #[.string s,.int .i64 k,.int .u8 45] W fun e w'=>e=.returned (.bool (decide (s.data.toList[k]? =some 45)))/\W=w':=fun W=>Fs (s:=s) (k:=k) (c:=45) (B:=decide (s.data.toList[k]? =some 45)) rfl W hs (by omega);obtain⟨M,hM⟩: ∃M,decide (s.data.toList[k]? =some 45)=M:=⟨_,rfl⟩;rw[hM]at hIs;have HMF:=qz (show F=if M=true then k+1 else k from by rw[<-hF,<-hM];simp);obtain⟨HB0,HRES,HF,HIs,HM⟩:=hid5 hB0 hRES hF hIs hM;clear hB0 hRES hF hIs hM;go_enter Tryz.func151,Tryz.ntmps151;go_wp2_with (fail);generalize w.alloc (.cells A5 37)=wb at HB0 ⊢;(with_reducible refine(HIs.out _).mono ?_);rintro e w1 ⟨rfl,rfl⟩;go_upto_if 16 with(fail);go_cut [7] (fun x wx=>x=.int .i64 (F:Nat)/\wx=wb)
 case first=>
  cases M with
  |true=>
   have eF:(k:Int)+1=(F:Int):=by have:=HMF.out;rw[if_pos rfl]at this;omega
   go_wp2;go_meet;exact⟨by rw[<-eF],rfl⟩
  |false=>
   have eF:k=F:=by have:=HMF.out;rw[if_neg (by decide)]at this;omega
   go_wp2;go_meet;exact⟨by rw[eF],rfl⟩
 obtain⟨rfl,rfl⟩:=hcut;clear HIs;have hd0:=Od s.data.toList F;have hd1:=Oe (s:=s.data.toList) (p:=F) (by rw[Ab];omega);rw[Ab]at hd1;obtain⟨E,hE⟩: ∃E,Ch s.data.toList F=E:=⟨_,rfl⟩;rw[hE]at hd0 hd1;have HE:=qz hE;clear hE
 go_upto_block 0 with(fail)
 go_cut [8] (fun x wx=>x=.int .i64 (E:Nat)/\wx=wc)
 case first=>
  go_wp2_with (fail)
  go_loop [8] (fun i=> ∃j:Nat,F<=j/\j<=s.size/\i=.int .i64 (j:Nat)/\Hid (Ch s.data.toList j=E)) (fun i=>s.size - (intOf i).toNat)
  case atStart=>exact⟨F,Nat.le_refl _,by omega,rfl,HE⟩
  case round=>
   obtain⟨j,hjF,hj,rfl,hh⟩:=hrel;have j0:(0:Int)<=(j:Int):=by omega
   by_cases hlt:j<s.size
   . obtain⟨x,hx⟩: ∃x,s[j]=x:=⟨_,rfl⟩;have hxg:s.data.toList[j]? =some x:=by rw[A9 s hlt,hx]
     have hxl:=Be x;have j1:decide ((j:Int)<(s.size:Int))=true:=decide_eq_true (by omega);have j2:(j:Int)<(s.size:Int):=by omega
     by_cases hdg:Cx x=true
     . have HN:Hid (Ch s.data.toList (j+1)=E):=by rw[<-O7 hxg hdg];exact hh
       unfold Cx at hdg;rw[decide_eq_true_iff]at hdg;have l1:decide ((48:Int)<=(x.toNat:Int))=true:=decide_eq_true (by omega);have l2:decide ((x.toNat:Int)<=57)=true:=decide_eq_true (by omega);clear hxg hh hdg;go_wp2
       go_round
       case rel=>exact⟨j+1,by omega,by omega,by go_num,HN⟩
       case measure=>simp[intOf];omega
     . have HN:Hid (j=E):=by rw[<-hh.out,O8 hxg (by simpa using hdg)];exact rfl
       unfold Cx at hdg;rw[decide_eq_true_iff]at hdg;clear hxg hh;by_cases h48:48<=x.toNat
       . have l1:decide ((48:Int)<=(x.toNat:Int))=true:=decide_eq_true (by omega);have l2:decide ((x.toNat:Int)<=57)=false:=decide_eq_false (by omega);go_wp2;go_meet;exact⟨by rw[HN.out],rfl⟩
       . have l1:decide ((48:Int)<=(x.toNat:Int))=false:=decide_eq_false (by omega);go_wp2;go_meet;exact⟨by rw[HN.out],rfl⟩
   . have HN:Hid (j=E):=by rw[<-hh.out,Q9 (by rw[Ab];omega)];exact rfl
     have j1:decide ((j:Int)<(s.size:Int))=false:=decide_eq_false (by omega);clear hh;go_wp2;go_meet;exact⟨by rw[HN.out],rfl⟩
 obtain⟨rfl,rfl⟩:=hcut;obtain⟨r0,r1,r2,r3,r4,r5⟩:=Az HB0.out.blk;have fz:=HB0.out.blk.frozen;have hlb:=HB0.out.blk.lt;have hxz:=HB0.out.many (.int .i64 0) (.bool false) (.int .i64 0) (.string ⟨#[]⟩) (.slice none 0 0) (.slice none 0 0);have hres:=HRES.out;unfold No at hres;rw[HE.out,HM.out]at hres;by_cases hEF:E=F
 . rw[if_pos hEF]at hres;subst hres;subst hEF;have e1:((E:Int)==(E:Int))=true:=by simp
   have Hxz:=qz hxz;clear hxz;go_wp2;exact bodyPost_ret (Af rfl rfl Hxz.out.blk) rfl ⟨Hxz.out.below,rfl⟩
 rw[if_neg hEF]at hres;have e1:((E:Int)==(F:Int))=false:=by rw[beq_eq_false_iff_ne];omega
 have hFs:F<s.size:=by omega
 have F0:(0:Int)<=(F:Int):=by omega
 have F1:(F:Int)<(s.size:Int):=by omega
 obtain⟨x,hx⟩: ∃x,s[F]=x:=⟨_,rfl⟩;have hxg:s.data.toList[F]? =some x:=by rw[A9 s hFs,hx]
 have hxl:=Be x;rw[hxg]at hres;have hx48:((x.toNat:Int)==48)=decide (x=48):=by rw[show(48:Int)=((48:Nat):Int)from rfl,Gg (by decide)];rfl
 obtain⟨Z,hZ⟩: ∃Z,decide (x=48/\F+1<E)=Z:=⟨_,rfl⟩;obtain⟨HZ,Hxz,Hres,Hxg⟩:=hid4 hZ hxz hres hxg;clear hxz hres hxg;go_upto_region 9 with(fail);go_cut [52] (fun b wx=>b=.bool Z/\wx=wc)
 case first=>
  have hZ':=HZ.out;clear hZ;by_cases hz:x=48
  . have e48:decide (x=48)=true:=decide_eq_true hz;rw[e48]at hx48;by_cases hm:F+1<E
    . have e2:decide ((F:Int)+1<(E:Int))=true:=decide_eq_true (by omega);have e3:(F:Int)+1<(E:Int):=by omega
      rw[decide_eq_true ⟨hz,hm⟩]at hZ';subst hZ';clear hz e48;go_wp2;go_meet;exact⟨by simp,rfl⟩
    . have e2:decide ((F:Int)+1<(E:Int))=false:=decide_eq_false (by omega);have e3: ¬((F:Int)+1<(E:Int)):=by omega
      rw[decide_eq_false (fun q=>hm q.2)]at hZ';subst hZ';clear hz e48;go_wp2;go_meet;exact⟨by simp,rfl⟩
  . have e48:decide (x=48)=false:=decide_eq_false hz;rw[e48]at hx48;rw[decide_eq_false (fun q=>hz q.1)]at hZ';subst hZ';clear hz e48;go_wp2;go_meet;exact⟨by simp,rfl⟩
 obtain⟨rfl,rfl⟩:=hcut;clear hx48 hxl hx
 cases Z with
 |true=>
  have hz:=HZ.out;have hres:=Hres.out;rw[decide_eq_true_iff]at hz;rw[if_pos ⟨by rw[hz.1],hz.2⟩]at hres;subst hres;clear hz hZ;go_wp2;exact bodyPost_ret (Af rfl rfl Hxz.out.blk) rfl ⟨Hxz.out.below,rfl⟩
 |false=>
  have hz:=HZ.out;have hres:=Hres.out;rw[decide_eq_false_iff_not]at hz;rw[if_neg (fun q=>hz ⟨by simpa using q.1,q.2⟩)]at hres;clear hz hZ HZ Hres Hxg;have Hres:=qz hres;clear hres;go_wp2
  go_loop [10,11] (fun n i=> ∃j D:Nat,F<=j/\j<=E/\i=.int .i64 (j:Nat)/\n=.int .i64 (-(D:Int))/\D<=9223372036854775808/\Hid (D=P9 s.data.toList F (j - F))) (fun _ i=>E - (intOf i).toNat)
  case atStart=>exact⟨F,0,Nat.le_refl _,by omega,rfl,rfl,by omega,by rw[Nat.sub_self,Ab1];exact rfl⟩
  case round=>
   obtain⟨j,D,hjF,hj,rfl,rfl,hD,hh⟩:=hrel;have j0:(0:Int)<=(j:Int):=by omega
   by_cases hlt:j<E
   . have hls:j<s.size:=by omega
     obtain⟨x,hx⟩: ∃x,s[j]=x:=⟨_,rfl⟩;have hxg:s.data.toList[j]? =some x:=by rw[A9 s hls,hx]
     have hxl:=Be x;have hdig:=Mb s.data.toList F j x hjF (by rw[HE.out];exact hlt) hxg;unfold Cx at hdig;rw[decide_eq_true_iff]at hdig;have j1:decide ((j:Int)<(E:Int))=true:=decide_eq_true (by omega);have j2:(j:Int)<(s.size:Int):=by omega
     obtain⟨d,hd⟩: ∃d,x.toNat - 48=d:=⟨_,rfl⟩;have hd9:d<=9:=by omega
     have c1:IntKind.i64.wrap ((x.toNat:Int) - 48)=(d:Int):=by rw[IntWalk.i64_in _ (by omega)];omega
     have c2:IntKind.i64.wrap (-9223372036854775808+(d:Int))= -9223372036854775808+(d:Int):=IntWalk.i64_in _ (by omega);by_cases hov:9223372036854775808<D*10+d
     . have t:=(Yb (D:=D) hd9).2 hov;have hr:=Hres.out;have hge:=Ab0 (s:=s.data.toList) (f:=F) (k:=j - F+1) (m:=E - F) (by omega);rw[Te (c:=x) (by rw[show F+(j - F)=j by omega];exact hxg),<-hh.out,hd]at hge;have hbad:Et M (E8 ((s.data.toList.drop F).take (E - F))) k E=.bad 7 k:=by
        unfold P9 at hge;unfold Et
        split
        . rw[if_pos (.inr (by omega))]
        . rw[if_pos (by omega)]
       rw[hbad]at hr;subst hr;clear Hres hbad hge hh hxg hdig hd hov HRES;go_wp2;exact bodyPost_ret (Af rfl rfl Hxz.out.blk) rfl ⟨Hxz.out.below,rfl⟩
     . have t:Int.tdiv (-9223372036854775808+(d:Int)) 10<= -(D:Int):=Int.not_lt.1 fun q=>hov ((Yb hd9).1 q);have c4:wrap64 (10* -(D:Int))=10* -(D:Int):=by unfold wrap64;omega
       have c5:wrap64 (10* -(D:Int) - (d:Int))= -((D*10+d:Nat):Int):=by unfold wrap64;omega
       have HN:Hid (D*10+d=P9 s.data.toList F (j+1 - F)):=by
        show _=_;rw[show j+1 - F=j - F+1 by omega,Te (c:=x) (by rw[show F+(j - F)=j by omega];exact hxg),<-hh.out,hd]
       clear hh hxg hdig hd;go_wp2
       go_round
       case rel=>exact⟨j+1,D*10+d,by omega,by omega,by go_num,by rw[show(10* -(D:Int) - (d:Int))= -((D*10+d:Nat):Int)by omega],by omega,HN⟩
       case measure=>simp[intOf];omega
   . obtain rfl:j=E:=by omega
     have j1:decide ((j:Int)<(j:Int))=false:=decide_eq_false (by omega);have hr:=Hres.out;rw[show E8 ((s.data.toList.drop F).take (j - F))=D from by have:=hh.out;unfold P9 at this;exact this.symm]at hr;have hmf:=HMF.out;clear Hres hh
     cases M with
     |true=>
      rw[if_pos rfl]at hmf;have e2:((F:Int)==(k:Int))=false:=by rw[beq_eq_false_iff_ne];omega
      unfold Et at hr;rw[if_pos rfl]at hr;by_cases h0:D=0
      . subst h0;rw[if_pos (.inl rfl)]at hr;subst hr;clear hmf;go_wp2;exact bodyPost_ret (Af rfl rfl Hxz.out.blk) rfl ⟨Hxz.out.below,rfl⟩
      . rw[if_neg (by omega)]at hr;subst hr;have e3:(-(D:Int)==0)=false:=by rw[beq_eq_false_iff_ne];omega
        have Hxf:=qz (HB0.out.many (.int .i64 3) (.bool false) (.int .i64 (-(D:Int))) (.string ⟨#[]⟩) (.slice none 0 0) (.slice none 0 0));clear hmf;go_wp2;exact bodyPost_ret (Af rfl rfl Hxf.out.blk) rfl ⟨Hxf.out.below,⟨_,rfl,Bu 3 false _ _⟩⟩
     |false=>
      rw[if_neg (by decide)]at hmf;have e2:((F:Int)==(k:Int))=true:=by rw[hmf];simp
      unfold Et at hr;rw[if_neg (by decide)]at hr;by_cases h0:D=9223372036854775808
      . subst h0;rw[if_pos (by omega)]at hr;subst hr;clear hmf;go_wp2;exact bodyPost_ret (Af rfl rfl Hxz.out.blk) rfl ⟨Hxz.out.below,rfl⟩
      . rw[if_neg (by omega)]at hr;subst hr;have e3:(-(D:Int)== -9223372036854775808)=false:=by rw[beq_eq_false_iff_ne];omega
        have c6:IntKind.i64.wrap (- -(D:Int))=(D:Int):=by rw[IntWalk.i64_in _ (by omega)];omega
        have c7:wrap64 (- -(D:Int))=(D:Int):=by unfold wrap64;omega
        have c8:wrap64 (D:Int)=(D:Int):=by unfold wrap64;omega
        have Hxf:=qz (HB0.out.many (.int .i64 3) (.bool false) (.int .i64 (D:Int)) (.string ⟨#[]⟩) (.slice none 0 0) (.slice none 0 0));clear hmf;go_wp2;exact bodyPost_ret (Af rfl rfl Hxf.out.blk) rfl ⟨Hxf.out.below,⟨_,rfl,Bu 3 false _ _⟩⟩
def Aay (s:ByteArray) (f:Nat):Prop:= ∀(w:World) (k:Nat) (d:Int),k<=s.size->4*(s.size - k)+1<=f->0<=d->d<=65->
    Calls Tryz.prog 88 #[.string s,.int .i64 k,.int .i64 d] w (Fw w (Bi f s.data.toList k d))
structure RB2 (w W:World) (V:Value):Prop where
 res:RBx w W A5
 var:Aj W (w.heap.size+1) 37 #[.int .i64 5,.bool false,.int .i64 0,.string ⟨#[]⟩,V,.slice none 0 0]
theorem RB2.later {w W W':World} {V:Value} (h:RB2 w W V) (t:Below W.heap.size W W'):RB2 w W' V:=⟨h.res.later t,h.var.below t h.var.lt⟩
theorem RB2.grown {w W W':World} {V V0:Value} (h:RB2 w W V) (t:W.grownBy W' V0.ownBlock) (hV: ∀g,V0.ownBlock=some g->w.heap.size+2<=g):RB2 w W' V:=
 ⟨⟨h.res.below.grown t h.res.below.size (fun k hk=>by have:=hV k hk;omega),h.res.blk.grown t (fun e=>by have:=hV _ e.symm;omega)⟩,h.var.grown t (fun e=>by have:=hV _ e.symm;omega)⟩
theorem RB2.set {w W:World} {V:Value} (h:RB2 w W V) (V':Value):RB2 w (W.setCell ⟨w.heap.size+1,4,none⟩ V') V':=
 ⟨⟨h.res.below.setCell (by simp) _,h.res.blk.far (by simp) _⟩,h.var.set_ 4 V'⟩
structure LRf (w wr:World) (s:ByteArray) (d:Int) (RES:Rd Val) (f n j:Nat) (acc:List Val) (V:Value):Prop where
 all:RB2 w wr V
 row:Dg (w.heap.size+2) 37 6 wr (dL acc) V
 is:Es n s.data.toList j d acc=RES
 fuel:4*(s.size - j)+2<=n
 lt:n<f
 few:acc.length<=j
theorem Ya (s:ByteArray) (f:Nat) (ih: ∀f',f'<f->Aay s f') (w:World) (k:Nat) (d:Int) (hs:s.size<=16000000) (hk:k<s.size) (hf:4*(s.size - k)<=f) (hd0:0<=d) (hd:d<=64):
 Calls Tryz.prog 152 #[.string s,.int .i64 ((k+1:Nat):Int),.int .i64 d] w (Fw w (G4 f s.data.toList k d)):=by
 obtain⟨j0,hj,hy0,hy1,hy2⟩:=info_parts Yj;obtain⟨f,rfl⟩: ∃n,f=n+1:=⟨f - 1,by omega⟩;have hP:=Bp (s:=s) (k:=k+1) (by omega);have hP1:=Bs s.data.toList (k+1);have hpast:=fun W=>Dx s (k+1) W (by omega) (by omega);have hI0:RB2 w ((w.alloc (.cells A5 37)).alloc (.cells #[.int .i64 5,.bool false,.int .i64 0,.string ⟨#[]⟩,.slice none 0 0,.slice none 0 0] 37)) (.slice none 0 0):=
  ⟨(RBx.start w).later (Aa _ _),by simpa using Aj.new (w.alloc (.cells A5 37)) 37 #[.int .i64 5,.bool false,.int .i64 0,.string ⟨#[]⟩,.slice none 0 0,.slice none 0 0]⟩
 obtain⟨RES,hRES⟩: ∃r,G4 (f+1) s.data.toList k d=r:=⟨_,rfl⟩;rw[hRES];unfold G4 at hRES;have hBB: ∀B,decide (s.data.toList[Al s.data.toList (k+1)]? =some 93)=B-> ∀W,Calls Tryz.prog 211 #[.string s,.int .i64 (Al s.data.toList (k+1):Nat),.int .u8 93] W fun e w'=>e=.returned (.bool B)/\W=w':=fun B hB W=>Fs hB W (by omega) hP;obtain⟨k1,hk1⟩: ∃k1,k+1=k1:=⟨_,rfl⟩;rw[hk1]at hRES hP hP1 hpast hBB ⊢;have hk1':k+1<=k1:=by omega
 clear hk1;generalize Al s.data.toList k1=p1 at hRES hP hP1 hpast hBB
 cases hB:decide (s.data.toList[p1]? =some 93)with
 |true=>
  have HIs:=qz (hBB _ hB);have hc:=hB;rw[decide_eq_true_iff]at hc;rw[if_pos hc]at hRES;subst hRES;clear hc hBB hB;obtain⟨Hj,Hy0,Hy1,Hy2,Ih,HI0,Hpast⟩:=hid7 hj hy0 hy1 hy2 ih hI0 hpast;clear hj hy0 hy1 hy2 ih hI0 hpast;go_enter Tryz.func152,Tryz.ntmps152;go_wp2_with (fail);generalize (w.alloc (.cells A5 37)).alloc (.cells #[.int .i64 5,.bool false,.int .i64 0,.string ⟨#[]⟩,.slice none 0 0,.slice none 0 0] 37)=wb at HI0 ⊢;(with_reducible refine(Hpast.out _).mono ?_);rintro e w1 ⟨rfl,rfl⟩;go_wp2_with (fail);(with_reducible refine(HIs.out _).mono ?_);rintro e w1 ⟨rfl,rfl⟩;obtain⟨y0,y1,y2,y3,y4,y5⟩:=Az HI0.out.var;have fz:=HI0.out.res.blk.frozen;obtain⟨r0,r1,r2,r3,r4,r5⟩:=Az HI0.out.res.blk;have Hxf:=qz (HI0.out.res.many (.int .i64 5) (.bool false) (.int .i64 0) (.string ⟨#[]⟩) (.slice none 0 0) (.slice none 0 0));go_wp2;exact bodyPost_ret (Af rfl rfl Hxf.out.blk) rfl ⟨Hxf.out.below,⟨_,rfl,Bu 5 false 0 _⟩⟩
 |false=>
  have hIs:=hBB _ hB;have hc:=hB;rw[decide_eq_false_iff_not]at hc;rw[if_neg hc]at hRES;clear hc hBB hB;have HL0:Hid (∀wb,RB2 w wb (.slice none 0 0)->LRf w wb s d RES (f+1) f p1 [] (.slice none 0 0)):=fun wb hb=>⟨hb,by simpa[dL]using Dg.nil _ _ _ _,hRES,by omega,by omega,by simp⟩;obtain⟨Hj,Hy0,Hy1,Hy2,Ih,HI0,Hpast,HIs⟩:=hid8 hj hy0 hy1 hy2 ih hI0 hpast hIs;clear hj hy0 hy1 hy2 ih hI0 hpast hIs;clear hRES;go_enter Tryz.func152,Tryz.ntmps152;go_wp2_with (fail);generalize (w.alloc (.cells A5 37)).alloc (.cells #[.int .i64 5,.bool false,.int .i64 0,.string ⟨#[]⟩,.slice none 0 0,.slice none 0 0] 37)=wb at HI0 ⊢;(with_reducible refine(Hpast.out _).mono ?_);rintro e w1 ⟨rfl,rfl⟩;go_wp2_with (fail);(with_reducible refine(HIs.out _).mono ?_);rintro e w1 ⟨rfl,rfl⟩;go_wp2
  go_loopg [1] f (fun n a wr=> ∃m j acc V,m=n/\j<=s.size/\a=.int .i64 (j:Nat)/\Hid (LRf w wr s d RES (f+1) n j acc V))
  case atStart=>exact⟨f,p1, [],_,rfl,hP,rfl,HL0.out _ HI0.out⟩
  case round=>
   obtain⟨n,j,acc,V,rfl,hj,rfl,hh⟩:=hrel;clear HL0 hP hP1 HI0 Hpast HIs;have hn2:=hh.out.fuel;have hnf:=hh.out.lt;have hfw:=hh.out.few;obtain⟨n,rfl⟩: ∃m,n=m+1:=⟨n - 1,by omega⟩;have hI:=hh.out.all;have hrow:=hh.out.row;have his:=hh.out.is;obtain⟨aV,cV,rfl⟩:=hrow.slice;have hC:=Ih.out n (by omega) wr j (d+1) hj (by omega) (by omega) (by omega);have hw:=(Dn n).1 s.data.toList j (d+1) (by rw[Ab];exact hj);unfold Es at his;have ewr:IntKind.i64.wrap (d+1)=d+1:=IntWalk.i64_in _ (by omega);have dl:(dL acc).length=acc.length:=L9 _
   cases hr:Bi n s.data.toList j (d+1)with
   |bad c q=>
    rw[hr]at hC his;simp only at his;subst his;have hc0:(c==0)=false:=by
     have:=(Dn n).1 s.data.toList j (d+1) (by rw[Ab];exact hj);rw[hr]at this;have:=this.2.2.1;rw[beq_eq_false_iff_ne];omega
    have hc1:(c != 0)=true:=by simp[bne,hc0]
    obtain⟨HC,HI,Dl,Hrow⟩:=hid4 hC hI dl hrow;clear hC hI dl hrow;clear hw hr hh;go_wp2_with (fail);(with_reducible refine(HC.out).mono ?_);rintro e w4 ⟨hb4,rfl⟩;have hI4:=HI.out.later hb4;have Hxf:=qz ((hI4.res.many (.int .i64 0) (.bool false) (.int .i64 0) (.string ⟨#[]⟩) (.slice none 0 0) (.slice none 0 0)).later (Aa _ (.cells A5 37)));obtain⟨r0,r1,r2,r3,r4,r5⟩:=Az hI4.res.blk;have fz4:=hI4.res.blk.frozen;have hlt4:=hI4.res.blk.lt;have HI4:=qz hI4;clear hI4;clear hb4;go_wp2;exact bodyPost_ret (Af rfl rfl Hxf.out.blk) rfl ⟨Hxf.out.below,rfl⟩
   |ok v q=>
    rw[hr]at hC his hw;simp only at his;obtain⟨hw1,hw2⟩:=hw;rw[Ab]at hw2;obtain⟨k',b',n',t',l',o'⟩:=v;have htk:dL acc++ [dV (.mk k' b' n' t' l' o')]=dL (acc++ [.mk k' b' n' t' l' o']):=by rw[Jt,Jt];simp
    have HLo:Hid ((dL acc).length+1<=maxLen/\((dL acc).length+1)*88<=140737488355328):=by rw[dl];exact⟨by simp only[maxLen];omega,by omega⟩
    have hq':Al s.data.toList q<=s.size:=Bp hw2;have hq1:=Bs s.data.toList q;have hpast:=fun W=>Dx s q W (by omega) hw2;have h93: ∀B,decide (s.data.toList[Al s.data.toList q]? =some 93)=B-> ∀W,Calls Tryz.prog 211 #[.string s,.int .i64 (Al s.data.toList q:Nat),.int .u8 93] W fun e w'=>e=.returned (.bool B)/\W=w':=fun B hB W=>Fs hB W (by omega) hq';have h44: ∀B,decide (s.data.toList[Al s.data.toList q]? =some 44)=B-> ∀W,Calls Tryz.prog 211 #[.string s,.int .i64 (Al s.data.toList q:Nat),.int .u8 44] W fun e w'=>e=.returned (.bool B)/\W=w':=fun B hB W=>Fs hB W (by omega) hq';generalize Al s.data.toList q=pq at hq' hq1 hpast h93 h44 his;have hrs:=hI.var.lt;obtain⟨HC,HI,Dl,Htk,His,Hrow,Hpast,H93,H44⟩:=hid9 hC hI dl htk his hrow hpast h93 h44;clear hC hI dl htk his hrow hpast h93 h44;clear hh hr;go_wp2_with (fail);(with_reducible refine(HC.out).mono ?_);rintro e w4 ⟨hb4,cs,rfl,hf4⟩;obtain⟨la4,lc4,oa4,oc4,rfl⟩:=Dp hf4;have hI4:=HI.out.later hb4;obtain⟨y0,y1,y2,y3,y4,y5⟩:=Az hI4.var;have hlt4:=hI4.var.lt;have hsz4:=hb4.size;have Hbe:=qz ((hb4.alloc hb4.size (.cells #[.int .i64 k',.bool b',.int .i64 n',.string t',.slice la4 l'.length lc4,.slice oa4 o'.length oc4] 37)).alloc (by simp;omega) (.cells #[.int .i64 k',.bool b',.int .i64 n',.string t',.slice la4 l'.length lc4,.slice oa4 o'.length oc4] 37));have Hfe:=qz ((hf4.later (Aa w4 (.cells #[.int .i64 k',.bool b',.int .i64 n',.string t',.slice la4 l'.length lc4,.slice oa4 o'.length oc4] 37))).later (Aa _ (.cells #[.int .i64 k',.bool b',.int .i64 n',.string t',.slice la4 l'.length lc4,.slice oa4 o'.length oc4] 37)));have HI5:=qz ((hI4.later (Aa w4 (.cells #[.int .i64 k',.bool b',.int .i64 n',.string t',.slice la4 l'.length lc4,.slice oa4 o'.length oc4] 37))).later (Aa _ (.cells #[.int .i64 k',.bool b',.int .i64 n',.string t',.slice la4 l'.length lc4,.slice oa4 o'.length oc4] 37)));have Hrd:=qz (show A7 ((w4.alloc (.cells #[.int .i64 k',.bool b',.int .i64 n',.string t',.slice la4 l'.length lc4,.slice oa4 o'.length oc4] 37)).alloc (.cells #[.int .i64 k',.bool b',.int .i64 n',.string t',.slice la4 l'.length lc4,.slice oa4 o'.length oc4] 37)) (w4.heap.size+1+1) 6 (some ⟨w4.heap.size+1,0,none⟩) 1 [.int .i64 k',.bool b',.int .i64 n',.string t',.slice la4 l'.length lc4,.slice oa4 o'.length oc4]from by simpa using Lk (w4.alloc (.cells #[.int .i64 k',.bool b',.int .i64 n',.string t',.slice la4 l'.length lc4,.slice oa4 o'.length oc4] 37)) (.int .i64 k') (.bool b') (.int .i64 n') (.string t') (.slice la4 l'.length lc4) (.slice oa4 o'.length oc4));obtain⟨HI4,Hb4,Hf4⟩:=hid3 hI4 hb4 hf4;clear hI4 hb4 hf4;go_wp2_with (at_builtin;apply Shut.out);unfold Shut;refine Kb (d:=dV (.mk k' b' n' t' l' o')) (V:=.slice aV (dL acc).length cV) rfl (.tmp 38) (.tmp 40) 34 rfl Tryz.underlying34 Hj.out Hy0.out Hy1.out Hy2.out rfl (by omega) rfl Hrow.out (by omega) Hbe.out (Eb _) Hfe.out rfl Hrd.out HLo.out.1 HLo.out.2 ?_;intro V6 w6 hrow6 hg6 hat6;have hI6:=HI5.out.grown hg6 (fun r e=>(Hrow.out.base r e).1);rw[Htk.out]at hrow6;obtain⟨a6,c6,rfl⟩:=hrow6.slice;have e6:=hI6.var.cell 4;have f6:=hI6.var.frozen 4;have hlt6:=hI6.var.lt;have hI7:=hI6.set (.slice a6 (dL (acc++ [Val.mk k' b' n' t' l' o'])).length c6);have Hrow7:=qz (hrow6.keep (w':=w6.setCell ⟨w.heap.size+1,4,none⟩ (.slice a6 (dL (acc++ [Val.mk k' b' n' t' l' o'])).length c6)) (by simp[World.setCell]) (fun i h1 _=>Below.heap_setCell _ _ _ _ (by simp;omega)));obtain⟨HI6,Hrow6,HI7⟩:=hid3 hI6 hrow6 hI7;clear hI6 hrow6 hI7;clear hg6 hat6 Hbe Hfe HI5 Hrd HI4 Hb4 Hf4 y0 y1 y2 y3 y4 y5 hlt4 hsz4;go_wp2_with (fail);generalize w6.setCell ⟨w.heap.size+1,4,none⟩ (.slice a6 (dL (acc++ [Val.mk k' b' n' t' l' o'])).length c6)=w7 at HI7 Hrow7 ⊢;clear e6 f6 hlt6 HI6 Hrow6;(with_reducible refine(Hpast.out _).mono ?_);rintro e w8 ⟨rfl,rfl⟩;obtain⟨r0,r1,r2,r3,r4,r5⟩:=Az HI7.out.res.blk;have fz7:=HI7.out.res.blk.frozen;have hlt7:=HI7.out.res.blk.lt
    cases hB:decide (s.data.toList[pq]? =some 93)with
    |true=>
     have hIs:=H93.out _ hB;have his:=His.out;rw[decide_eq_true_iff]at hB;rw[if_neg (by rw[hB];decide),if_pos hB]at his;subst his;obtain⟨y0,y1,y2,y3,y4,y5⟩:=Az HI7.out.var;obtain⟨a',c',ee,_,hfr,_⟩:=Hrow7.out.close
     cases ee
     have hxf:=HI7.out.res.many (.int .i64 5) (.bool false) (.int .i64 0) (.string ⟨#[]⟩) (.slice a6 (dL (acc++ [Val.mk k' b' n' t' l' o'])).length c6) (.slice none 0 0);have Hff:=qz (Tf (hfr.keep (b':=w.heap.size) (w':=An w7 w.heap.size 0 [.int .i64 5,.bool false,.int .i64 0,.string ⟨#[]⟩,.slice a6 (dL (acc++ [Val.mk k' b' n' t' l' o'])).length c6,.slice none 0 0]) (by omega) (by rw[Bb];exact Nat.le_refl _) (fun p p1 p2=>World.cell?_of_block (Ar _ _ _ _ _ (by omega)))));obtain⟨Hxf,HIs,Hfr⟩:=hid3 hxf hIs hfr;clear hxf hIs hfr;clear hB;go_wp2_with (fail);(with_reducible refine(HIs.out _).mono ?_);rintro e w8 ⟨rfl,rfl⟩;go_wp2;exact bodyPost_ret (Af rfl rfl Hxf.out.blk) rfl ⟨Hxf.out.below,⟨_,rfl,Hff.out⟩⟩
    |false=>
     have hIs:=H93.out _ hB;have his:=His.out;rw[decide_eq_false_iff_not]at hB;clear His
     cases hB4:decide (s.data.toList[pq]? =some 44)with
     |true=>
      have hIs4:=H44.out _ hB4;rw[decide_eq_true_iff]at hB4;rw[if_pos hB4]at his;have hlt:=Ct hB4;rw[Ab]at hlt;have HN:Hid (LRf w w7 s d RES (f+1) n (pq+1) (acc++ [Val.mk k' b' n' t' l' o']) (.slice a6 (dL (acc++ [Val.mk k' b' n' t' l' o'])).length c6)):=⟨HI7.out,Hrow7.out,his,by omega,by omega,by simp;omega⟩;obtain⟨HIs,HIs4⟩:=hid2 hIs hIs4;clear hIs hIs4;clear hB hB4 his;go_wp2_with (fail);(with_reducible refine(HIs.out _).mono ?_);rintro e w8 ⟨rfl,rfl⟩;go_wp2_with (fail);(with_reducible refine(HIs4.out _).mono ?_);rintro e w8 ⟨rfl,rfl⟩;go_wp2
      go_roundg n
      case measure=>omega
      case rel=>exact⟨n,_,_,_,rfl,by omega,by go_num,HN⟩
     |false=>
      have HIs4:=qz (H44.out _ hB4);rw[decide_eq_false_iff_not]at hB4;rw[if_neg hB4,if_neg hB]at his;subst his;have Hxf:=qz (HI7.out.res.many (.int .i64 0) (.bool false) (.int .i64 0) (.string ⟨#[]⟩) (.slice none 0 0) (.slice none 0 0));have HIs:=qz hIs;clear hIs;clear hB hB4;go_wp2_with (fail);(with_reducible refine(HIs.out _).mono ?_);rintro e w8 ⟨rfl,rfl⟩;go_wp2_with (fail);(with_reducible refine(HIs4.out _).mono ?_);rintro e w8 ⟨rfl,rfl⟩;go_wp2;exact bodyPost_ret (Af rfl rfl Hxf.out.blk) rfl ⟨Hxf.out.below,rfl⟩
end Go.Proofs.YtkmcjfkokoidcaaGreatDoor
