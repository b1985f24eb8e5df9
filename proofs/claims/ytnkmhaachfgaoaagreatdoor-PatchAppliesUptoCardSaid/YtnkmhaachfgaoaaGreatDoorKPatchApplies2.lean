/- Parts: The reference's word whether ops may be a patch. Condition: a bulk of at most 10^8. -/
import Derived.Test.YtnkmhaachfgaoaaGreatDoorKPq27
set_option maxHeartbeats 20000000
set_option maxRecDepth 100000
namespace Go.Proofs.YtnkmhaachfgaoaaGreatDoor
open Go.RowKit
theorem Mg (l:List POp) (a:Option Addr) (n c:Nat) (w:World) (hT:Cr w) (h:Ae w w.heap.size (.row 8 (Ex l)) [.slice a n c]) (hb:Bo l<=100000000) (hin:inQ l):
 Calls Tryz.prog 13 #[.slice a n c] w fun e w'=>e=.returned (.int .i64 (Aq none l))/\Below w.heap.size w w':=by
 have hlq:=Em l;have hn:=h.row_len;rw[Ee]at hn;subst hn;have Hm0:=qz (show Aq (Gy l 0) (l.drop 0)=Aq none l from by rw[List.drop_zero];rfl);have Hw0:Hid (Below w.heap.size w w):=Below.refl _ _;obtain⟨H,HT,Hin⟩:=hid3 h hT hin;clear h hT hin;go_enter Tryz.func13,Tryz.ntmps13;go_wp2_with (fail);go_loopw [3] (fun i wr=> ∃q:Nat,i=.int .i64 q/\q<=l.length/\Hid (Aq (Gy l q) (l.drop q)=Aq none l)/\Hid (Below w.heap.size w wr)) (fun i _=>l.length - (intOf i).toNat)
 case atStart=>exact⟨0,rfl,Nat.zero_le _,Hm0,Hw0⟩
 case round=>
  obtain⟨q,rfl,hq,hm,hbw⟩:=hrel;clear Hm0 Hw0;by_cases hlt:q<l.length
  . obtain⟨p,hp⟩: ∃p,l[q]? =some p:=⟨_,List.getElem?_eq_getElem hlt⟩;have hdr:=Ch hp;have hmem:=List.mem_of_getElem? hp;have hbq:=Lv hmem;have hiq:=Hin.out p hmem;have hpv:Gy l (q+1)=some p:=hp;have hm':=hm.out;rw[hdr]at hm';simp only[Aq]at hm';rw[<-hpv]at hm';obtain⟨k,key,⟨k',b',n',t',l',o'⟩⟩:=p;simp only at hbq hiq hm';have hz:=hbw.out.size;obtain⟨g,off,rfl,hg,la',lc',oa',oc',hv,c0,c1,c2,c3,c4,c5,c6,c7⟩:=Kp ((H.out.below hbw.out).more hz) hp;have hgr:g<wr.heap.size:=hg;have hq1:(q:Int)<(l.length:Int):=by omega
    have hq0:(0:Int)<=q:=by omega
    have hTr:=HT.out.below hbw.out;by_cases hk13:1<=k/\k<=3;rotate_left
    . have hs:Cq ⟨k,key,.mk k' b' n' t' l' o'⟩=true:=by
       unfold Cq;rw[if_neg (by simp only;omega),if_neg (by simp only;omega),if_neg (by simp only;omega)]
      rw[hs,Bool.true_or,if_pos rfl]at hm';have hkk:k<1\/3<k:=by omega
      obtain⟨Hm',Hp,Hiq,Hv,Hbw,HTr⟩:=hid6 hm' hp hiq hv hbw hTr;clear hm' hp hiq hv hbw hTr;clear hm hdr hmem hpv hs hk13 c2 c3 c4 c5 c6 c7;rcases hkk with hk1|hk3
      . go_wp2;go_ret;exact⟨by rw[<-Hm'.out];rfl,Hbw.out.out⟩
      . have hk1:1<=k:=by omega
        go_wp2;go_ret;exact⟨by rw[<-Hm'.out];rfl,Hbw.out.out⟩
    obtain⟨hk1,hk3⟩:=hk13;obtain⟨Z,hZ⟩: ∃Z,P3 (.mk k' b' n' t' l' o')=Z:=⟨_,rfl⟩;have HEq:=qz (fun(W:World) hB=>Yu (.mk k' b' n' t' l' o') _ W ((hv.below (w':=W) hB).more hB.size) (by omega) hZ);obtain⟨S,hS⟩: ∃S,(decide (k≠1)&& !Z)=S:=⟨_,rfl⟩;have hst:Cq ⟨k,key,.mk k' b' n' t' l' o'⟩=(S||decide (k=3)&& !key.toList.isEmpty):=by
     unfold Cq;simp only[hZ,<-hS];rcases(by omega:k=1\/k=2\/k=3)with rfl|rfl|rfl
     . simp
     . simp
     . cases Z<;>cases key.toList.isEmpty<;>simp
    obtain⟨Hm',Hp,Hiq,Hv,Hbw,HTr,Hst,HS,HZ⟩:=hid9 hm' hp hiq hv hbw hTr hst hS hZ;clear hm' hp hiq hv hbw hTr hst hS hZ;clear hm hdr hmem hpv;go_upto_region 5 with(fail);go_cut [36] (fun s wx=>s=.bool S/\Hid (Below wr.heap.size wr wx))
    case first=>
     by_cases hk:k=1
     . subst hk;have eS:S=false:=by rw[<-HS.out];simp
       subst eS;go_wp2;go_meet;exact⟨rfl,Below.refl _ _⟩
     . have eS:S= !Z:=by rw[<-HS.out];simp[hk]
       subst eS;have tk:(k != 1)=true:=by simpa using hk
       clear hk;go_wp2_with (go_at_call 28;(with_reducible refine(HEq.out _ (Below.refl _ _)).mono ?_);rintro e w4 ⟨rfl,hb4⟩);go_meet;exact⟨by rw[decide_eq_false (by omega),decide_eq_false (by omega)];rfl,hb4⟩
    case rest=>
     obtain⟨rfl,hbx⟩:=hcut;obtain⟨wo,rfl⟩: ∃wo:World,wo=wc:=⟨_,rfl⟩;obtain⟨hco,hfo⟩:=Gi hbx.out;have hBo:Below w.heap.size w wo:=Hbw.out.out.trans (hbx.out.mono hz);have hlx:wr.heap.size<=wo.heap.size:=hbx.out.size;have hm:=Hm'.out;rw[Hst.out]at hm
     cases S with
     |true=>
      rw[Bool.true_or,Bool.true_or,if_pos rfl]at hm;obtain⟨Hm,HBo⟩:=hid2 hm hBo;clear hm hBo;go_wp2;go_ret;exact⟨by rw[<-Hm.out];rfl,HBo.out⟩
     |false=>
      rw[Bool.false_or]at hm;by_cases e3:k=3
      . subst e3;by_cases hC:0<q\/key.toList≠ []
        . have hm2:Aq none l=2:=by
           rw[<-hm,if_pos];rcases hC with hC|hC
           . obtain⟨j,rfl⟩: ∃j,q=j+1:=⟨q - 1,by omega⟩;obtain⟨pj,hpj⟩: ∃pj,l[j]? =some pj:=⟨_,List.getElem?_eq_getElem (by omega)⟩;simp[Gy,hpj,Di]
           . simp[hC]
          obtain⟨Hm2,HBo⟩:=hid2 hm2 hBo;clear hm2 hBo;clear hm;by_cases hq3:0<q
          . have tq:(0:Int)<q:=by omega
            clear hC hq3;go_wp2;go_ret;exact⟨by rw[Hm2.out];rfl,HBo.out⟩
          . obtain rfl:q=0:=by omega
            have hke:key.toList≠ []:=by simpa using hC
            have tk:(!key.toList.isEmpty)=true:=by simpa using hke
            have tk2: ¬key.toList= []:=hke;clear hC hq3 hke;go_wp2;go_ret;exact⟨by rw[Hm2.out];rfl,HBo.out⟩
        . obtain rfl:q=0:=by omega
          have hke:key.toList= []:=by simpa using hC
          have hm2:Aq (Gy l (0+1)) (l.drop (0+1))=Aq none l:=by
           rw[<-hm,if_neg (by simp[Gy,hke]),if_pos rfl]
          have tk:key.toList.isEmpty=true:=by simp[hke]
          obtain⟨hke2,Hm2,HBo⟩:=hid3 hke hm2 hBo;clear hm2 hBo;clear hm hC hke;go_wp2;go_roundw
          case rel=>exact⟨0+1,by go_num,by omega,Hm2,HBo⟩
          case measure=>simp[intOf];omega
      have t3:(k==3)=false:=by simpa using e3
      rw[decide_eq_false e3,Bool.false_and,Bool.false_or,if_neg e3]at hm;obtain⟨C,hC⟩: ∃C,((Gy l q).any fun x=> !Di x ⟨k,key,.mk k' b' n' t' l' o'⟩)=C:=⟨_,rfl⟩;rw[hC]at hm;have HTo:=qz (HT.out.below hBo);have Hvo:=qz ((Hv.out.below hbx.out).more hlx);obtain⟨Hm,HBo,HC⟩:=hid3 hm hBo hC;clear hm hBo hC;go_upto_region 10 with(fail);go_cut [73] (fun s wx=>s=.bool C/\Hid (Below wo.heap.size wo wx))
      case first=>
       have c0':=(hco g (off+q*8) hgr).trans c0;have c1':=(hco g (off+q*8+1) hgr).trans c1;have hC':=HC.out;clear hco hfo c0 c1 c2 c3 c4 c5 c6 c7;rcases q with _|j
       . obtain rfl:false=C:=by simpa[Gy]using hC'
         clear hC';go_quiet (fail);go_wp2;go_meet;exact⟨rfl,H9 (Below.refl _ _) _⟩
       . obtain⟨pj,hpj⟩: ∃pj,l[j]? =some pj:=⟨_,List.getElem?_eq_getElem (by omega)⟩;have hC2:(!Di pj ⟨k,key,.mk k' b' n' t' l' o'⟩)=C:=by simpa[Gy,hpj]using hC'
         obtain⟨kp,keyp,⟨kp',bp',np',tp',lp',op'⟩⟩:=pj;obtain⟨g2,off2,ee2,hg2,lap,lcp,oap,ocp,_,d0,d1,d2,d3,d4,d5,d6,d7⟩:=Kp ((H.out.below HBo.out).more HBo.out.size) hpj;obtain⟨rfl,rfl⟩:g=g2/\off=off2:=by simpa using ee2
         have hC3:(decide (kp≠3)&& !Op.bytesLess keyp.toList key.toList)=C:=by
          rw[<-hC2];simp[Di,e3]
         have q1:(1:Int)<=j+1:=by omega
         have q2:IntKind.i64.wrap ((j:Int)+1 - 1)=j:=by rw[Int.add_sub_cancel];exact IntWalk.i64_in _ (by omega)
         have q3:IntKind.i64.wrap (j:Int)=j:=IntWalk.i64_in _ (by omega);have q5:(0:Int)<=j:=by omega
         have q6:(j:Int)<(l.length:Int):=by omega
         have q8:(0:Int)<(j:Int)+1:=by omega
         have q9:decide ((0:Int)<(j:Int)+1)=true:=decide_eq_true q8;have hjl:j<l.length:=by omega
         clear hC' hC2 d2 d3 d4 d5 d6 d7 hpj e3;by_cases e3p:kp=3
         . subst e3p;obtain rfl:false=C:=by simpa using hC3
           clear hC3;go_quiet (fail);go_wp2;go_meet;exact⟨rfl,H9 (Below.refl _ _) _⟩
         . have t3p:(kp != 3)=true:=by simpa using e3p
           obtain rfl:C= !Op.bytesLess keyp.toList key.toList:=by rw[<-hC3];simp[e3p]
           clear hC3 e3p;go_quiet (fail);go_wp2;go_meet;exact⟨by rw[Aim],H9 (Below.refl _ _) _⟩
      case rest=>
       obtain⟨rfl,hby⟩:=hcut;have hBw:Below w.heap.size w wc:=HBo.out.trans (hby.out.mono HBo.out.size);have hks:key.size<=1000000000:=by omega
       have hm:=Hm.out;have hq9:q+1<=l.length:=by omega
       have hgo:g<wo.heap.size:=by omega
       obtain⟨hcy,hfy⟩:=Gi hby.out;have hTc:=HTo.out.below hby.out;have hvc:=(Hvo.out.below hby.out).more hby.out.size;have hfit: ∀wk,Below wc.heap.size wc wk->Calls Tryz.prog 37 #[.agg #[.int .i64 k',.bool b',.int .i64 n',.string t',.slice la' l'.length lc',.slice oa' o'.length oc']] wk fun e w'=>e=.returned (.int .i64 (C6 (.mk k' b' n' t' l' o')))/\Below wk.heap.size wk w':=
        fun wk hbk=>O6 _ _ wk (hTc.below hbk) ((hvc.below hbk).more hbk.size) (by omega) Hiq.out
       cases C with
       |true=>
        rw[if_pos rfl]at hm;obtain⟨Hm,HBw,HTc,Hvc,Hfit⟩:=hid5 hm hBw hTc hvc hfit;clear hm hBw hTc hvc hfit;go_wp2;go_ret;exact⟨by rw[<-Hm.out];rfl,HBw.out⟩
       |false=>
        rw[if_neg (by simp)]at hm;have hC:=Ry key wc hks;by_cases hkb:Iv key=false
        . rw[if_pos hkb]at hm;have tE:(Ju key != 0)=true:=by
           simp only[bne_iff_ne,ne_eq];intro e;rw[(Ib key).1 e]at hkb
           cases hkb
          obtain⟨HBw,HTc,Hvc,Hm,HC,Hfit⟩:=hid6 hBw hTc hvc hm hC hfit;clear hBw hTc hvc hm hC hfit;clear e3 hkb;go_wp2_with (go_at_call 36;(with_reducible refine(HC.out).mono ?_);rintro e wk ⟨rfl,rfl⟩);go_ret;exact⟨by rw[<-Hm.out];rfl,HBw.out⟩
        rw[if_neg hkb]at hm;have hk0:Ju key=0:=(Ib key).2 (by simpa using hkb);have tE:(Ju key != 0)=false:=by rw[hk0];rfl
        by_cases e2:k=2
        . rw[if_pos e2]at hm;have t2:(k==1)=false:=by rw[e2];rfl
          obtain⟨HBw,HTc,Hvc,Hm,HC,Hk0,Hfit⟩:=hid7 hBw hTc hvc hm hC hk0 hfit;clear hBw hTc hvc hm hC hk0 hfit;clear e3 hkb e2;go_wp2_with (go_at_call 36;(with_reducible refine(HC.out).mono ?_);rintro e wk ⟨rfl,rfl⟩);go_roundw
          case rel=>exact⟨q+1,by go_num,hq9,Hm,HBw⟩
          case measure=>simp[intOf];omega
        rw[if_neg e2]at hm;have t2:(k==1)=true:=by rw[beq_iff_eq];omega
        by_cases hf:C6 (.mk k' b' n' t' l' o')=0
        . rw[if_pos hf]at hm;have tF:(C6 (.mk k' b' n' t' l' o') != 0)=false:=by rw[hf];rfl
          obtain⟨HBw,HTc,Hvc,Hm,HC,Hk0,Hfit,Hf⟩:=hid8 hBw hTc hvc hm hC hk0 hfit hf;clear hBw hTc hvc hm hC hk0 hfit hf;clear e3 hkb e2;go_wp2_with (first
           |(go_at_call 36;(with_reducible refine(HC.out).mono ?_);rintro e wk ⟨rfl,rfl⟩)
           |(go_at_call 37;(with_reducible refine(Hfit.out _ (Below.refl _ _)).mono ?_);rintro e wf ⟨rfl,hbf⟩))
          have HBk:=qz (HBw.out.trans (hbf.mono HBw.out.size));go_roundw
          case rel=>exact⟨q+1,by go_num,hq9,Hm,HBk⟩
          case measure=>simp[intOf];omega
        . rw[if_neg hf]at hm;have tF:(C6 (.mk k' b' n' t' l' o') != 0)=true:=by simpa using hf
          obtain⟨HBw,HTc,Hvc,Hm,HC,Hk0,Hfit⟩:=hid7 hBw hTc hvc hm hC hk0 hfit;clear hBw hTc hvc hm hC hk0 hfit;clear e3 hkb e2 hf;go_wp2_with (first
           |(go_at_call 36;(with_reducible refine(HC.out).mono ?_);rintro e wk ⟨rfl,rfl⟩)
           |(go_at_call 37;(with_reducible refine(Hfit.out _ (Below.refl _ _)).mono ?_);rintro e wf ⟨rfl,hbf⟩))
          go_ret;exact⟨by rw[<-Hm.out];rfl,HBw.out.trans (hbf.mono HBw.out.size)⟩
  . obtain rfl:q=l.length:=by omega
    have hm':=hm.out;rw[List.drop_length]at hm';have e0:Aq (Gy l l.length) []=0:=by simp[Aq]
    rw[e0]at hm';have Hm':=qz hm';clear hm';clear hm e0;go_wp2;go_ret;exact⟨by rw[<-Hm'.out];rfl,hbw.out⟩
end Go.Proofs.YtnkmhaachfgaoaaGreatDoor
