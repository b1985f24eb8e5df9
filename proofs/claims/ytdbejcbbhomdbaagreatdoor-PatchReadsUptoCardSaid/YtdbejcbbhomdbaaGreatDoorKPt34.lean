/- Parts: commonplaceref14.Same, commonplaceref18.Same: yes of an answer and itself alone. Condition: bulks of at most 10^8. -/
import Derived.Test.YtdbejcbbhomdbaaGreatDoorKPt30
set_option maxHeartbeats 20000000
set_option maxRecDepth 100000
namespace Go.Proofs.YtdbejcbbhomdbaaGreatDoor
open Go.RowKit
theorem Fl (l:List POp) (a:Option Addr) (n c:Nat) (w:World) (hT:Ck w) (h:Ae w w.heap.size (.row 8 (Db l)) [.slice a n c]) (hb:Cd l<=100000000) (hin:Xi l):
 Calls Tryz.prog 13 #[.slice a n c] w fun e w'=>e=.returned (.int .i64 (A4 none l))/\Below w.heap.size w w':=by
 have hlq:=Ep l;have hn:=h.row_len;rw[Ds]at hn;subst hn;have Hm0:=qz (show A4 (Fz l 0) (l.drop 0)=A4 none l from by rw[List.drop_zero];rfl);have Hw0:Hid (Below w.heap.size w w):=Below.refl _ _;obtain⟨H,HT,Hin⟩:=hid3 h hT hin;clear h hT hin;go_enter Tryz.func13,Tryz.ntmps13;go_wp2_with (fail);go_loopw [3] (fun i wr=> ∃q:Nat,i=.int .i64 q/\q<=l.length/\Hid (A4 (Fz l q) (l.drop q)=A4 none l)/\Hid (Below w.heap.size w wr)) (fun i _=>l.length - (intOf i).toNat)
 case atStart=>exact⟨0,rfl,Nat.zero_le _,Hm0,Hw0⟩
 case round=>
  obtain⟨q,rfl,hq,hm,hbw⟩:=hrel;clear Hm0 Hw0;by_cases hlt:q<l.length
  . obtain⟨p,hp⟩: ∃p,l[q]? =some p:=⟨_,List.getElem?_eq_getElem hlt⟩;have hdr:=B5 hp;have hmem:=List.mem_of_getElem? hp;have hbq:=Fa hmem;have hiq:=Hin.out p hmem;have hpv:Fz l (q+1)=some p:=hp;have hm':=hm.out;rw[hdr]at hm';simp only[A4]at hm';rw[<-hpv]at hm';obtain⟨k,key,⟨k',b',n',t',l',o'⟩⟩:=p;simp only at hbq hiq hm';have hz:=hbw.out.size;obtain⟨g,off,rfl,hg,la',lc',oa',oc',hv,c0,c1,c2,c3,c4,c5,c6,c7⟩:=Iz ((H.out.below hbw.out).more hz) hp;have hgr:g<wr.heap.size:=hg;have hq1:(q:Int)<(l.length:Int):=by omega
    have hq0:(0:Int)<=q:=by omega
    have hTr:=HT.out.below hbw.out;by_cases hk13:1<=k/\k<=3;rotate_left
    . have hs:Dj ⟨k,key,.mk k' b' n' t' l' o'⟩=true:=by
       unfold Dj;rw[if_neg (by simp only;omega),if_neg (by simp only;omega),if_neg (by simp only;omega)]
      rw[hs,Bool.true_or,if_pos rfl]at hm';have hkk:k<1\/3<k:=by omega
      obtain⟨Hm',Hp,Hiq,Hv,Hbw,HTr⟩:=hid6 hm' hp hiq hv hbw hTr;clear hm' hp hiq hv hbw hTr;clear hm hdr hmem hpv hs hk13 c2 c3 c4 c5 c6 c7;rcases hkk with hk1|hk3
      . go_wp2;go_ret;exact⟨by rw[<-Hm'.out];rfl,Hbw.out.out⟩
      . have hk1:1<=k:=by omega
        go_wp2;go_ret;exact⟨by rw[<-Hm'.out];rfl,Hbw.out.out⟩
    obtain⟨hk1,hk3⟩:=hk13;obtain⟨Z,hZ⟩: ∃Z,Oa (.mk k' b' n' t' l' o')=Z:=⟨_,rfl⟩;have HEq:=qz (fun(W:World) hB=>Vz (.mk k' b' n' t' l' o') _ W ((hv.below (w':=W) hB).more hB.size) (by omega) hZ);obtain⟨S,hS⟩: ∃S,(decide (k≠1)&& !Z)=S:=⟨_,rfl⟩;have hst:Dj ⟨k,key,.mk k' b' n' t' l' o'⟩=(S||decide (k=3)&& !key.toList.isEmpty):=by
     unfold Dj;simp only[hZ,<-hS];rcases(by omega:k=1\/k=2\/k=3)with rfl|rfl|rfl
     . simp
     . simp
     . cases Z<;>cases key.toList.isEmpty<;>simp
    obtain⟨Hm',Hp,Hiq,Hv,Hbw,HTr,Hst,HS,HZ⟩:=hid9 hm' hp hiq hv hbw hTr hst hS hZ;clear hm' hp hiq hv hbw hTr hst hS hZ;clear hm hdr hmem hpv;go_upto_region 5 with(fail);go_cut [36] (fun s wx=>s=.bool S/\Hid (Below wr.heap.size wr wx))
    case first=>
     by_cases hk:k=1
     . subst hk;have eS:S=false:=by rw[<-HS.out];simp
       subst eS;go_wp2;go_meet;exact⟨rfl,Below.refl _ _⟩
     . have eS:S= !Z:=by rw[<-HS.out];simp[hk]
       subst eS;have tk:(k != 1)=true:=by simpa using hk
       clear hk;go_wp2_with (go_at_call 17;(with_reducible refine(HEq.out _ (Below.refl _ _)).mono ?_);rintro e w4 ⟨rfl,hb4⟩);go_meet;exact⟨by rw[decide_eq_false (by omega),decide_eq_false (by omega)];rfl,hb4⟩
    case rest=>
     obtain⟨rfl,hbx⟩:=hcut;obtain⟨wo,rfl⟩: ∃wo:World,wo=wc:=⟨_,rfl⟩;obtain⟨hco,hfo⟩:=Cn hbx.out;have hBo:Below w.heap.size w wo:=Hbw.out.out.trans (hbx.out.mono hz);have hlx:wr.heap.size<=wo.heap.size:=hbx.out.size;have hm:=Hm'.out;rw[Hst.out]at hm
     cases S with
     |true=>
      rw[Bool.true_or,Bool.true_or,if_pos rfl]at hm;obtain⟨Hm,HBo⟩:=hid2 hm hBo;clear hm hBo;go_wp2;go_ret;exact⟨by rw[<-Hm.out];rfl,HBo.out⟩
     |false=>
      rw[Bool.false_or]at hm;by_cases e3:k=3
      . subst e3;by_cases hC:0<q\/key.toList≠ []
        . have hm2:A4 none l=2:=by
           rw[<-hm,if_pos];rcases hC with hC|hC
           . obtain⟨j,rfl⟩: ∃j,q=j+1:=⟨q - 1,by omega⟩;obtain⟨pj,hpj⟩: ∃pj,l[j]? =some pj:=⟨_,List.getElem?_eq_getElem (by omega)⟩;simp[Fz,hpj,E1]
           . simp[hC]
          obtain⟨Hm2,HBo⟩:=hid2 hm2 hBo;clear hm2 hBo;clear hm;by_cases hq3:0<q
          . have tq:(0:Int)<q:=by omega
            clear hC hq3;go_wp2;go_ret;exact⟨by rw[Hm2.out];rfl,HBo.out⟩
          . obtain rfl:q=0:=by omega
            have hke:key.toList≠ []:=by simpa using hC
            have tk:(!key.toList.isEmpty)=true:=by simpa using hke
            have tk2: ¬key.toList= []:=hke;clear hC hq3 hke;go_wp2;go_ret;exact⟨by rw[Hm2.out];rfl,HBo.out⟩
        . obtain rfl:q=0:=by omega
          have hke:key.toList= []:=by simpa using hC
          have hm2:A4 (Fz l (0+1)) (l.drop (0+1))=A4 none l:=by
           rw[<-hm,if_neg (by simp[Fz,hke]),if_pos rfl]
          have tk:key.toList.isEmpty=true:=by simp[hke]
          obtain⟨hke2,Hm2,HBo⟩:=hid3 hke hm2 hBo;clear hm2 hBo;clear hm hC hke;go_wp2;go_roundw
          case rel=>exact⟨0+1,by go_num,by omega,Hm2,HBo⟩
          case measure=>simp[intOf];omega
      have t3:(k==3)=false:=by simpa using e3
      rw[decide_eq_false e3,Bool.false_and,Bool.false_or,if_neg e3]at hm;obtain⟨C,hC⟩: ∃C,((Fz l q).any fun x=> !E1 x ⟨k,key,.mk k' b' n' t' l' o'⟩)=C:=⟨_,rfl⟩;rw[hC]at hm;have HTo:=qz (HT.out.below hBo);have Hvo:=qz ((Hv.out.below hbx.out).more hlx);obtain⟨Hm,HBo,HC⟩:=hid3 hm hBo hC;clear hm hBo hC;go_upto_region 10 with(fail);go_cut [73] (fun s wx=>s=.bool C/\Hid (Below wo.heap.size wo wx))
      case first=>
       have c0':=(hco g (off+q*8) hgr).trans c0;have c1':=(hco g (off+q*8+1) hgr).trans c1;have hC':=HC.out;clear hco hfo c0 c1 c2 c3 c4 c5 c6 c7;rcases q with _|j
       . obtain rfl:false=C:=by simpa[Fz]using hC'
         clear hC';go_quiet (fail);go_wp2;go_meet;exact⟨rfl,Gi (Below.refl _ _) _⟩
       . obtain⟨pj,hpj⟩: ∃pj,l[j]? =some pj:=⟨_,List.getElem?_eq_getElem (by omega)⟩;have hC2:(!E1 pj ⟨k,key,.mk k' b' n' t' l' o'⟩)=C:=by simpa[Fz,hpj]using hC'
         obtain⟨kp,keyp,⟨kp',bp',np',tp',lp',op'⟩⟩:=pj;obtain⟨g2,off2,ee2,hg2,lap,lcp,oap,ocp,_,d0,d1,d2,d3,d4,d5,d6,d7⟩:=Iz ((H.out.below HBo.out).more HBo.out.size) hpj;obtain⟨rfl,rfl⟩:g=g2/\off=off2:=by simpa using ee2
         have hC3:(decide (kp≠3)&& !Op.bytesLess keyp.toList key.toList)=C:=by
          rw[<-hC2];simp[E1,e3]
         have q1:(1:Int)<=j+1:=by omega
         have q2:IntKind.i64.wrap ((j:Int)+1 - 1)=j:=by rw[Int.add_sub_cancel];exact IntWalk.i64_in _ (by omega)
         have q3:IntKind.i64.wrap (j:Int)=j:=IntWalk.i64_in _ (by omega);have q5:(0:Int)<=j:=by omega
         have q6:(j:Int)<(l.length:Int):=by omega
         have q8:(0:Int)<(j:Int)+1:=by omega
         have q9:decide ((0:Int)<(j:Int)+1)=true:=decide_eq_true q8;have hjl:j<l.length:=by omega
         clear hC' hC2 d2 d3 d4 d5 d6 d7 hpj e3;by_cases e3p:kp=3
         . subst e3p;obtain rfl:false=C:=by simpa using hC3
           clear hC3;go_quiet (fail);go_wp2;go_meet;exact⟨rfl,Gi (Below.refl _ _) _⟩
         . have t3p:(kp != 3)=true:=by simpa using e3p
           obtain rfl:C= !Op.bytesLess keyp.toList key.toList:=by rw[<-hC3];simp[e3p]
           clear hC3 e3p;go_quiet (fail);go_wp2;go_meet;exact⟨by rw[Afi],Gi (Below.refl _ _) _⟩
      case rest=>
       obtain⟨rfl,hby⟩:=hcut;have hBw:Below w.heap.size w wc:=HBo.out.trans (hby.out.mono HBo.out.size);have hks:key.size<=1000000000:=by omega
       have hm:=Hm.out;have hq9:q+1<=l.length:=by omega
       have hgo:g<wo.heap.size:=by omega
       obtain⟨hcy,hfy⟩:=Cn hby.out;have hTc:=HTo.out.below hby.out;have hvc:=(Hvo.out.below hby.out).more hby.out.size;have hfit: ∀wk,Below wc.heap.size wc wk->Calls Tryz.prog 42 #[.agg #[.int .i64 k',.bool b',.int .i64 n',.string t',.slice la' l'.length lc',.slice oa' o'.length oc']] wk fun e w'=>e=.returned (.int .i64 (D8 (.mk k' b' n' t' l' o')))/\Below wk.heap.size wk w':=
        fun wk hbk=>T1 _ _ wk (hTc.below hbk) ((hvc.below hbk).more hbk.size) (by omega) Hiq.out
       cases C with
       |true=>
        rw[if_pos rfl]at hm;obtain⟨Hm,HBw,HTc,Hvc,Hfit⟩:=hid5 hm hBw hTc hvc hfit;clear hm hBw hTc hvc hfit;go_wp2;go_ret;exact⟨by rw[<-Hm.out];rfl,HBw.out⟩
       |false=>
        rw[if_neg (by simp)]at hm;have hC:=X4 key wc hks;by_cases hkb:L1 key=false
        . rw[if_pos hkb]at hm;have tE:(L2 key != 0)=true:=by
           simp only[bne_iff_ne,ne_eq];intro e;rw[(Kc key).1 e]at hkb
           cases hkb
          obtain⟨HBw,HTc,Hvc,Hm,HC,Hfit⟩:=hid6 hBw hTc hvc hm hC hfit;clear hBw hTc hvc hm hC hfit;clear e3 hkb;go_wp2_with (go_at_call 41;(with_reducible refine(HC.out).mono ?_);rintro e wk ⟨rfl,rfl⟩);go_ret;exact⟨by rw[<-Hm.out];rfl,HBw.out⟩
        rw[if_neg hkb]at hm;have hk0:L2 key=0:=(Kc key).2 (by simpa using hkb);have tE:(L2 key != 0)=false:=by rw[hk0];rfl
        by_cases e2:k=2
        . rw[if_pos e2]at hm;have t2:(k==1)=false:=by rw[e2];rfl
          obtain⟨HBw,HTc,Hvc,Hm,HC,Hk0,Hfit⟩:=hid7 hBw hTc hvc hm hC hk0 hfit;clear hBw hTc hvc hm hC hk0 hfit;clear e3 hkb e2;go_wp2_with (go_at_call 41;(with_reducible refine(HC.out).mono ?_);rintro e wk ⟨rfl,rfl⟩);go_roundw
          case rel=>exact⟨q+1,by go_num,hq9,Hm,HBw⟩
          case measure=>simp[intOf];omega
        rw[if_neg e2]at hm;have t2:(k==1)=true:=by rw[beq_iff_eq];omega
        by_cases hf:D8 (.mk k' b' n' t' l' o')=0
        . rw[if_pos hf]at hm;have tF:(D8 (.mk k' b' n' t' l' o') != 0)=false:=by rw[hf];rfl
          obtain⟨HBw,HTc,Hvc,Hm,HC,Hk0,Hfit,Hf⟩:=hid8 hBw hTc hvc hm hC hk0 hfit hf;clear hBw hTc hvc hm hC hk0 hfit hf;clear e3 hkb e2;go_wp2_with (first
           |(go_at_call 41;(with_reducible refine(HC.out).mono ?_);rintro e wk ⟨rfl,rfl⟩)
           |(go_at_call 42;(with_reducible refine(Hfit.out _ (Below.refl _ _)).mono ?_);rintro e wf ⟨rfl,hbf⟩))
          have HBk:=qz (HBw.out.trans (hbf.mono HBw.out.size));go_roundw
          case rel=>exact⟨q+1,by go_num,hq9,Hm,HBk⟩
          case measure=>simp[intOf];omega
        . rw[if_neg hf]at hm;have tF:(D8 (.mk k' b' n' t' l' o') != 0)=true:=by simpa using hf
          obtain⟨HBw,HTc,Hvc,Hm,HC,Hk0,Hfit⟩:=hid7 hBw hTc hvc hm hC hk0 hfit;clear hBw hTc hvc hm hC hk0 hfit;clear e3 hkb e2 hf;go_wp2_with (first
           |(go_at_call 41;(with_reducible refine(HC.out).mono ?_);rintro e wk ⟨rfl,rfl⟩)
           |(go_at_call 42;(with_reducible refine(Hfit.out _ (Below.refl _ _)).mono ?_);rintro e wf ⟨rfl,hbf⟩))
          go_ret;exact⟨by rw[<-Hm.out];rfl,HBw.out.trans (hbf.mono HBw.out.size)⟩
  . obtain rfl:q=l.length:=by omega
    have hm':=hm.out;rw[List.drop_length]at hm';have e0:A4 (Fz l l.length) []=0:=by simp[A4]
    rw[e0]at hm';have Hm':=qz hm';clear hm';clear hm e0;go_wp2;go_ret;exact⟨by rw[<-Hm'.out];rfl,hbw.out⟩
theorem Afg {a b:ByteArray} (h:a≠b):(a==b)=false/\(a != b)=true/\(a.toList==b.toList)=false/\(a.toList != b.toList)=true:=by
 have h1:(a==b)=false:=by
  obtain⟨a⟩:=a;obtain⟨b⟩:=b;have e:((⟨a⟩:ByteArray)==⟨b⟩)=(a==b):=rfl;rw[e];simpa using h
 have h2:(a.toList==b.toList)=false:=by
  rw[ByteArray.toList_eq,ByteArray.toList_eq,beq_eq_false_iff_ne];intro e;exact h (by
   obtain⟨⟨a⟩⟩:=a;obtain⟨⟨b⟩⟩:=b;simpa using e)
 exact⟨h1,by rw[bne,h1];rfl,h2,by rw[bne,h2];rfl⟩
theorem Aff (a:ByteArray):(a==a)=true/\(a != a)=false/\(a.toList==a.toList)=true/\(a.toList != a.toList)=false:=by
 have h1:(a==a)=true:=by
  obtain⟨a⟩:=a;have e:((⟨a⟩:ByteArray)==⟨a⟩)=(a==a):=rfl;rw[e];simp
 exact⟨h1,by rw[bne,h1];rfl,by simp,by simp⟩
theorem N2 (l l':List POp) (a a':Option Addr) (n c n' c':Nat) (w:World) (h:Ae w w.heap.size (.row 8 (Db l)) [.slice a n c]) (h':Ae w w.heap.size (.row 8 (Db l')) [.slice a' n' c']) (hb:Cd l<=100000000) (hb':Cd l'<=100000000):
 Calls Tryz.prog 22 #[.slice a n c,.slice a' n' c'] w (B2 (l=l') w):=by
 have hls:=Ep l;have hn:=h.row_len;have hn':=h'.row_len;rw[Ds]at hn hn';subst hn;subst hn';by_cases hln:l.length=l'.length;rotate_left
 . have e:((l.length:Int) != (l'.length:Int))=true:=by simp;omega
   have Hno:Hid (¬l=l'):=fun e=>hln (congrArg List.length e);obtain⟨H,H'⟩:=hid2 h h';clear h h';clear hln;go_enter Tryz.func22,Tryz.ntmps22;go_wp2;go_ret;exact B2.no Hno.out (Below.refl _ _)
 . have h00:l.take 0=l'.take 0:=by simp
   rw[<-hln];have H0:=qz (Below.refl w.heap.size w);obtain⟨H,H',Hln,H00⟩:=hid4 h h' hln h00;clear h h' hln h00;go_enter Tryz.func22,Tryz.ntmps22;go_wp2_with (fail);go_loopw [5] (fun i wr=> ∃q:Nat,i=.int .i64 q/\q<=l.length/\Hid (l.take q=l'.take q)/\Hid (Below w.heap.size w wr)) (fun i _=>l.length - (intOf i).toNat)
   case atStart=>exact⟨0,rfl,Nat.zero_le _,H00,H0⟩
   case round=>
    obtain⟨q,rfl,hq,htk,hea⟩:=hrel;clear H00 H0;have z6:(0:Int)<=q:=by omega
    by_cases hlt:q<l.length
    . have hlt':q<l'.length:=by have:=Hln.out;omega
      obtain⟨x,hx⟩: ∃v,l[q]? =some v:=⟨_,List.getElem?_eq_getElem hlt⟩;obtain⟨x',hx'⟩: ∃v,l'[q]? =some v:=⟨_,List.getElem?_eq_getElem hlt'⟩;have hbv:=Fa (List.mem_of_getElem? hx);have hbv':=Fa (List.mem_of_getElem? hx');have hbw:=hea.out;have hz:=hbw.size;have HTt:=qz (fun e=>Lk htk.out hx hx' e);have HNe:=qz (fun e=>Pw hx hx' e);obtain⟨k1,key1,⟨ak,ab,an,at1,al,ao⟩⟩:=x;obtain⟨k2,key2,⟨bk,bb,bn,bt,bl,bo⟩⟩:=x';simp only at hbv hbv';obtain⟨g,off,rfl,hg,ala,alc,aoa,aoc,hv,c0,c1,c2,c3,c4,c5,c6,c7⟩:=Iz (H.out.below hbw) hx;obtain⟨g',off',rfl,hg',bla,blc,boa,boc,hv',d0,d1,d2,d3,d4,d5,d6,d7⟩:=Iz (H'.out.below hbw) hx';have hC: ∀W,Below wr.heap.size wr W->Calls Tryz.prog 17 #[.agg #[.int .i64 ak,.bool ab,.int .i64 an,.string at1,.slice ala al.length alc,.slice aoa ao.length aoc],.agg #[.int .i64 bk,.bool bb,.int .i64 bn,.string bt,.slice bla bl.length blc,.slice boa bo.length boc]] W (B2 (Val.mk ak ab an at1 al ao=.mk bk bb bn bt bl bo) W):=fun W hW=>
       Kh _ _ [.int .i64 ak,.bool ab,.int .i64 an,.string at1,.slice ala al.length alc,.slice aoa ao.length aoc] [.int .i64 bk,.bool bb,.int .i64 bn,.string bt,.slice bla bl.length blc,.slice boa bo.length boc] W (Aa.more (Nat.le_trans hz hW.size) _ _ (hv.below (hW.mono hz))) (Aa.more (Nat.le_trans hz hW.size) _ _ (hv'.below (hW.mono hz))) (by omega) (by omega)
      have z1:g<wr.heap.size:=by omega
      have z2:g'<wr.heap.size:=by omega
      have z5:(q:Int)<(l.length:Int):=by omega
      obtain⟨HC,Hx,Hx',Hv,Hv'⟩:=hid5 hC hx hx' hv hv';clear hC hx hx' hv hv';clear hbw htk;go_upto_region 6 with(fail);have hkeep: ∀W,Below wr.heap.size wr W->(W.cell? ⟨g,off+q*8,none⟩=some (.int .i64 k1)/\W.cell? ⟨g,off+q*8+1,none⟩=some (.string key1)/\W.cell? ⟨g,off+q*8+2,none⟩=some (.int .i64 ak)/\W.cell? ⟨g,off+q*8+3,none⟩=some (.bool ab)/\W.cell? ⟨g,off+q*8+4,none⟩=some (.int .i64 an)/\W.cell? ⟨g,off+q*8+5,none⟩=some (.string at1)/\W.cell? ⟨g,off+q*8+6,none⟩=some (.slice ala al.length alc)/\W.cell? ⟨g,off+q*8+7,none⟩=some (.slice aoa ao.length aoc)/\W.cell? ⟨g',off'+q*8,none⟩=some (.int .i64 k2)/\W.cell? ⟨g',off'+q*8+1,none⟩=some (.string key2)/\W.cell? ⟨g',off'+q*8+2,none⟩=some (.int .i64 bk)/\W.cell? ⟨g',off'+q*8+3,none⟩=some (.bool bb)/\W.cell? ⟨g',off'+q*8+4,none⟩=some (.int .i64 bn)/\W.cell? ⟨g',off'+q*8+5,none⟩=some (.string bt)/\W.cell? ⟨g',off'+q*8+6,none⟩=some (.slice bla bl.length blc)/\W.cell? ⟨g',off'+q*8+7,none⟩=some (.slice boa bo.length boc)):=fun W hW=>⟨(hW.cell (p:=⟨g,off+q*8,none⟩) z1).trans c0,(hW.cell (p:=⟨g,off+q*8+1,none⟩) z1).trans c1,(hW.cell (p:=⟨g,off+q*8+2,none⟩) z1).trans c2,(hW.cell (p:=⟨g,off+q*8+3,none⟩) z1).trans c3,(hW.cell (p:=⟨g,off+q*8+4,none⟩) z1).trans c4,(hW.cell (p:=⟨g,off+q*8+5,none⟩) z1).trans c5,(hW.cell (p:=⟨g,off+q*8+6,none⟩) z1).trans c6,(hW.cell (p:=⟨g,off+q*8+7,none⟩) z1).trans c7,(hW.cell (p:=⟨g',off'+q*8,none⟩) z2).trans d0,(hW.cell (p:=⟨g',off'+q*8+1,none⟩) z2).trans d1,(hW.cell (p:=⟨g',off'+q*8+2,none⟩) z2).trans d2,(hW.cell (p:=⟨g',off'+q*8+3,none⟩) z2).trans d3,(hW.cell (p:=⟨g',off'+q*8+4,none⟩) z2).trans d4,(hW.cell (p:=⟨g',off'+q*8+5,none⟩) z2).trans d5,(hW.cell (p:=⟨g',off'+q*8+6,none⟩) z2).trans d6,(hW.cell (p:=⟨g',off'+q*8+7,none⟩) z2).trans d7⟩;by_cases hk:k1=k2;rotate_left
      . have e1:(k1 != k2)=true:=by simpa using hk
        have HP:=qz (fun W hW=>B2.no (w:=w) (w':=W) (HNe.out (fun e=>hk (by cases e;rfl))) hW);have Hkeep:=qz hkeep;clear hkeep;clear hk c0 d0 c1 d1 c2 d2 c3 d3 c4 d4 c5 d5 c6 d6 c7 d7;refine wp_region_held_drew (S:=fun W=>W.cell? ⟨g,off+q*8,none⟩=some (.int .i64 k1)/\W.cell? ⟨g,off+q*8+1,none⟩=some (.string key1)/\W.cell? ⟨g,off+q*8+2,none⟩=some (.int .i64 ak)/\W.cell? ⟨g,off+q*8+3,none⟩=some (.bool ab)/\W.cell? ⟨g,off+q*8+4,none⟩=some (.int .i64 an)/\W.cell? ⟨g,off+q*8+5,none⟩=some (.string at1)/\W.cell? ⟨g,off+q*8+6,none⟩=some (.slice ala al.length alc)/\W.cell? ⟨g,off+q*8+7,none⟩=some (.slice aoa ao.length aoc)/\W.cell? ⟨g',off'+q*8,none⟩=some (.int .i64 k2)/\W.cell? ⟨g',off'+q*8+1,none⟩=some (.string key2)/\W.cell? ⟨g',off'+q*8+2,none⟩=some (.int .i64 bk)/\W.cell? ⟨g',off'+q*8+3,none⟩=some (.bool bb)/\W.cell? ⟨g',off'+q*8+4,none⟩=some (.int .i64 bn)/\W.cell? ⟨g',off'+q*8+5,none⟩=some (.string bt)/\W.cell? ⟨g',off'+q*8+6,none⟩=some (.slice bla bl.length blc)/\W.cell? ⟨g',off'+q*8+7,none⟩=some (.slice boa bo.length boc)) (by kernel_rfl) (Hkeep.out _ (Below.drew (Below.refl _ _))) (fun hHeld=> ?_);refine tkH 0 hHeld ?_;refine tkH 1 hHeld ?_;refine tkH 2 hHeld ?_;refine tkH 3 hHeld ?_;refine tkH 4 hHeld ?_;refine tkH 5 hHeld ?_;refine tkH 6 hHeld ?_;refine tkH 7 hHeld ?_;refine tkH 8 hHeld ?_;refine tkH 9 hHeld ?_;refine tkH 10 hHeld ?_;refine tkH 11 hHeld ?_;refine wpAnyH_take (i:=12) (v:=undef) rfl (by kernel_rfl) (by kernel_rfl) (by kernel_rfl) (fun _ _ _ h=>h) (Or.inr ⟨by kernel_rfl,rfl⟩) hHeld ?_
        try simp only[Act.put,tk1,tk2,tk3,tk4,tk5,tk6]
        refine wpAnyH_take (i:=13) (v:=undef) rfl (by kernel_rfl) (by kernel_rfl) (by kernel_rfl) (fun _ _ _ h=>h) (Or.inr ⟨by kernel_rfl,rfl⟩) hHeld ?_
        try simp only[Act.put,tk1,tk2,tk3,tk4,tk5,tk6]
        refine wpAnyH_take (i:=14) (v:=undef) rfl (by kernel_rfl) (by kernel_rfl) (by kernel_rfl) (fun _ _ _ h=>h) (Or.inr ⟨by kernel_rfl,rfl⟩) hHeld ?_
        try simp only[Act.put,tk1,tk2,tk3,tk4,tk5,tk6]
        refine wpAnyH_take (i:=15) (v:=undef) rfl (by kernel_rfl) (by kernel_rfl) (by kernel_rfl) (fun _ _ _ h=>h) (Or.inr ⟨by kernel_rfl,rfl⟩) hHeld ?_
        try simp only[Act.put,tk1,tk2,tk3,tk4,tk5,tk6]
        refine wpAnyH_take (i:=16) (v:=undef) rfl (by kernel_rfl) (by kernel_rfl) (by kernel_rfl) (fun _ _ _ h=>h) (Or.inr ⟨by kernel_rfl,rfl⟩) hHeld ?_
        try simp only[Act.put,tk1,tk2,tk3,tk4,tk5,tk6]
        refine wpAnyH_take (i:=17) (v:=undef) rfl (by kernel_rfl) (by kernel_rfl) (by kernel_rfl) (fun _ _ _ h=>h) (Or.inr ⟨by kernel_rfl,rfl⟩) hHeld ?_
        try simp only[Act.put,tk1,tk2,tk3,tk4,tk5,tk6]
        refine wpAnyH_take (i:=18) (v:=undef) rfl (by kernel_rfl) (by kernel_rfl) (by kernel_rfl) (fun _ _ _ h=>h) (Or.inr ⟨by kernel_rfl,rfl⟩) hHeld ?_
        try simp only[Act.put,tk1,tk2,tk3,tk4,tk5,tk6]
        refine wpAnyH_take (i:=19) (v:=undef) rfl (by kernel_rfl) (by kernel_rfl) (by kernel_rfl) (fun _ _ _ h=>h) (Or.inr ⟨by kernel_rfl,rfl⟩) hHeld ?_
        try simp only[Act.put,tk1,tk2,tk3,tk4,tk5,tk6]
        refine wpAnyH_take (i:=20) (v:=undef) rfl (by kernel_rfl) (by kernel_rfl) (by kernel_rfl) (fun _ _ _ h=>h) (Or.inr ⟨by kernel_rfl,rfl⟩) hHeld ?_
        try simp only[Act.put,tk1,tk2,tk3,tk4,tk5,tk6]
        refine wpAnyH_take (i:=21) (v:=undef) rfl (by kernel_rfl) (by kernel_rfl) (by kernel_rfl) (fun _ _ _ h=>h) (Or.inr ⟨by kernel_rfl,rfl⟩) hHeld ?_
        try simp only[Act.put,tk1,tk2,tk3,tk4,tk5,tk6]
        refine wpAnyH_take (i:=22) (v:=undef) rfl (by kernel_rfl) (by kernel_rfl) (by kernel_rfl) (fun _ _ _ h=>h) (Or.inr ⟨by kernel_rfl,rfl⟩) hHeld ?_
        try simp only[Act.put,tk1,tk2,tk3,tk4,tk5,tk6]
        refine tkH 23 hHeld ?_;refine tkH 24 hHeld ?_;refine wpAnyH_take (i:=25) (v:=undef) rfl (by kernel_rfl) (by kernel_rfl) (by kernel_rfl) (fun _ _ _ h=>h) (Or.inr ⟨by kernel_rfl,rfl⟩) hHeld ?_
        try simp only[Act.put,tk1,tk2,tk3,tk4,tk5,tk6]
        refine wpAnyH_take (i:=26) (v:=undef) rfl (by kernel_rfl) (by kernel_rfl) (by kernel_rfl) (fun _ _ _ h=>h) (Or.inr ⟨by kernel_rfl,rfl⟩) hHeld ?_
        try simp only[Act.put,tk1,tk2,tk3,tk4,tk5,tk6]
        refine wpAnyH_take (i:=27) (v:=undef) rfl (by kernel_rfl) (by kernel_rfl) (by kernel_rfl) (fun _ _ _ h=>h) (Or.inr ⟨by kernel_rfl,rfl⟩) hHeld ?_
        try simp only[Act.put,tk1,tk2,tk3,tk4,tk5,tk6]
        refine wpAnyH_take (i:=28) (v:=undef) rfl (by kernel_rfl) (by kernel_rfl) (by kernel_rfl) (fun _ _ _ h=>h) (Or.inr ⟨by kernel_rfl,rfl⟩) hHeld ?_
        try simp only[Act.put,tk1,tk2,tk3,tk4,tk5,tk6]
        refine wpAnyH_take (i:=29) (v:=undef) rfl (by kernel_rfl) (by kernel_rfl) (by kernel_rfl) (fun _ _ _ h=>h) (Or.inr ⟨by kernel_rfl,rfl⟩) hHeld ?_
        try simp only[Act.put,tk1,tk2,tk3,tk4,tk5,tk6]
        refine wpAnyH_take (i:=30) (v:=undef) rfl (by kernel_rfl) (by kernel_rfl) (by kernel_rfl) (fun _ _ _ h=>h) (Or.inr ⟨by kernel_rfl,rfl⟩) hHeld ?_
        try simp only[Act.put,tk1,tk2,tk3,tk4,tk5,tk6]
        refine wpAnyH_take (i:=31) (v:=undef) rfl (by kernel_rfl) (by kernel_rfl) (by kernel_rfl) (fun _ _ _ h=>h) (Or.inr ⟨by kernel_rfl,rfl⟩) hHeld ?_
        try simp only[Act.put,tk1,tk2,tk3,tk4,tk5,tk6]
        refine wpAnyH_take (i:=32) (v:=undef) rfl (by kernel_rfl) (by kernel_rfl) (by kernel_rfl) (fun _ _ _ h=>h) (Or.inr ⟨by kernel_rfl,rfl⟩) hHeld ?_
        try simp only[Act.put,tk1,tk2,tk3,tk4,tk5,tk6]
        refine wpAnyH_take (i:=33) (v:=undef) rfl (by kernel_rfl) (by kernel_rfl) (by kernel_rfl) (fun _ _ _ h=>h) (Or.inr ⟨by kernel_rfl,rfl⟩) hHeld ?_
        try simp only[Act.put,tk1,tk2,tk3,tk4,tk5,tk6]
        refine wpAnyH_take (i:=34) (v:=undef) rfl (by kernel_rfl) (by kernel_rfl) (by kernel_rfl) (fun _ _ _ h=>h) (Or.inr ⟨by kernel_rfl,rfl⟩) hHeld ?_
        try simp only[Act.put,tk1,tk2,tk3,tk4,tk5,tk6]
        refine wpAnyH_take (i:=35) (v:=undef) rfl (by kernel_rfl) (by kernel_rfl) (by kernel_rfl) (fun _ _ _ h=>h) (Or.inr ⟨by kernel_rfl,rfl⟩) hHeld ?_
        try simp only[Act.put,tk1,tk2,tk3,tk4,tk5,tk6]
        refine wpAnyH_take (i:=36) (v:=undef) rfl (by kernel_rfl) (by kernel_rfl) (by kernel_rfl) (fun _ _ _ h=>h) (Or.inr ⟨by kernel_rfl,rfl⟩) hHeld ?_
        try simp only[Act.put,tk1,tk2,tk3,tk4,tk5,tk6]
        refine tkH 37 hHeld ?_;refine wpAnyH_done (by kernel_rfl) ?_ _;clear hHeld;go_wp2;go_ret;exact HP.out _ (hea.out.trans (Below.drew (Below.refl _ _)))
      subst hk;have e1:(k1 != k1)=false:=by simp
      by_cases hy:key1=key2;rotate_left
      . obtain⟨y1,y2,y3,y4⟩:=Afg hy;have HP:=qz (fun W hW=>B2.no (w:=w) (w':=W) (HNe.out (fun e=>hy (by cases e;rfl))) hW);have Hkeep:=qz hkeep;clear hkeep;clear hy c0 d0 c1 d1 c2 d2 c3 d3 c4 d4 c5 d5 c6 d6 c7 d7;refine wp_region_held_drew (S:=fun W=>W.cell? ⟨g,off+q*8,none⟩=some (.int .i64 k1)/\W.cell? ⟨g,off+q*8+1,none⟩=some (.string key1)/\W.cell? ⟨g,off+q*8+2,none⟩=some (.int .i64 ak)/\W.cell? ⟨g,off+q*8+3,none⟩=some (.bool ab)/\W.cell? ⟨g,off+q*8+4,none⟩=some (.int .i64 an)/\W.cell? ⟨g,off+q*8+5,none⟩=some (.string at1)/\W.cell? ⟨g,off+q*8+6,none⟩=some (.slice ala al.length alc)/\W.cell? ⟨g,off+q*8+7,none⟩=some (.slice aoa ao.length aoc)/\W.cell? ⟨g',off'+q*8,none⟩=some (.int .i64 k1)/\W.cell? ⟨g',off'+q*8+1,none⟩=some (.string key2)/\W.cell? ⟨g',off'+q*8+2,none⟩=some (.int .i64 bk)/\W.cell? ⟨g',off'+q*8+3,none⟩=some (.bool bb)/\W.cell? ⟨g',off'+q*8+4,none⟩=some (.int .i64 bn)/\W.cell? ⟨g',off'+q*8+5,none⟩=some (.string bt)/\W.cell? ⟨g',off'+q*8+6,none⟩=some (.slice bla bl.length blc)/\W.cell? ⟨g',off'+q*8+7,none⟩=some (.slice boa bo.length boc)) (by kernel_rfl) (Hkeep.out _ (Below.drew (Below.refl _ _))) (fun hHeld=> ?_);refine tkH 0 hHeld ?_;refine tkH 1 hHeld ?_;refine tkH 2 hHeld ?_;refine tkH 3 hHeld ?_;refine tkH 4 hHeld ?_;refine tkH 5 hHeld ?_;refine tkH 6 hHeld ?_;refine tkH 7 hHeld ?_;refine tkH 8 hHeld ?_;refine tkH 9 hHeld ?_;refine tkH 10 hHeld ?_;refine tkH 11 hHeld ?_;refine tkH 12 hHeld ?_;refine tkH 13 hHeld ?_;refine tkH 14 hHeld ?_;refine tkH 15 hHeld ?_;refine tkH 16 hHeld ?_;refine tkH 17 hHeld ?_;refine tkH 18 hHeld ?_;refine tkH 19 hHeld ?_;refine tkH 20 hHeld ?_;refine tkH 21 hHeld ?_;refine tkH 22 hHeld ?_;refine tkH 23 hHeld ?_;refine tkH 24 hHeld ?_;refine wpAnyH_take (i:=25) (v:=undef) rfl (by kernel_rfl) (by kernel_rfl) (by kernel_rfl) (fun _ _ _ h=>h) (Or.inr ⟨by kernel_rfl,rfl⟩) hHeld ?_
        try simp only[Act.put,tk1,tk2,tk3,tk4,tk5,tk6]
        refine wpAnyH_take (i:=26) (v:=undef) rfl (by kernel_rfl) (by kernel_rfl) (by kernel_rfl) (fun _ _ _ h=>h) (Or.inr ⟨by kernel_rfl,rfl⟩) hHeld ?_
        try simp only[Act.put,tk1,tk2,tk3,tk4,tk5,tk6]
        refine wpAnyH_take (i:=27) (v:=undef) rfl (by kernel_rfl) (by kernel_rfl) (by kernel_rfl) (fun _ _ _ h=>h) (Or.inr ⟨by kernel_rfl,rfl⟩) hHeld ?_
        try simp only[Act.put,tk1,tk2,tk3,tk4,tk5,tk6]
        refine wpAnyH_take (i:=28) (v:=undef) rfl (by kernel_rfl) (by kernel_rfl) (by kernel_rfl) (fun _ _ _ h=>h) (Or.inr ⟨by kernel_rfl,rfl⟩) hHeld ?_
        try simp only[Act.put,tk1,tk2,tk3,tk4,tk5,tk6]
        refine wpAnyH_take (i:=29) (v:=undef) rfl (by kernel_rfl) (by kernel_rfl) (by kernel_rfl) (fun _ _ _ h=>h) (Or.inr ⟨by kernel_rfl,rfl⟩) hHeld ?_
        try simp only[Act.put,tk1,tk2,tk3,tk4,tk5,tk6]
        refine wpAnyH_take (i:=30) (v:=undef) rfl (by kernel_rfl) (by kernel_rfl) (by kernel_rfl) (fun _ _ _ h=>h) (Or.inr ⟨by kernel_rfl,rfl⟩) hHeld ?_
        try simp only[Act.put,tk1,tk2,tk3,tk4,tk5,tk6]
        refine wpAnyH_take (i:=31) (v:=undef) rfl (by kernel_rfl) (by kernel_rfl) (by kernel_rfl) (fun _ _ _ h=>h) (Or.inr ⟨by kernel_rfl,rfl⟩) hHeld ?_
        try simp only[Act.put,tk1,tk2,tk3,tk4,tk5,tk6]
        refine wpAnyH_take (i:=32) (v:=undef) rfl (by kernel_rfl) (by kernel_rfl) (by kernel_rfl) (fun _ _ _ h=>h) (Or.inr ⟨by kernel_rfl,rfl⟩) hHeld ?_
        try simp only[Act.put,tk1,tk2,tk3,tk4,tk5,tk6]
        refine wpAnyH_take (i:=33) (v:=undef) rfl (by kernel_rfl) (by kernel_rfl) (by kernel_rfl) (fun _ _ _ h=>h) (Or.inr ⟨by kernel_rfl,rfl⟩) hHeld ?_
        try simp only[Act.put,tk1,tk2,tk3,tk4,tk5,tk6]
        refine wpAnyH_take (i:=34) (v:=undef) rfl (by kernel_rfl) (by kernel_rfl) (by kernel_rfl) (fun _ _ _ h=>h) (Or.inr ⟨by kernel_rfl,rfl⟩) hHeld ?_
        try simp only[Act.put,tk1,tk2,tk3,tk4,tk5,tk6]
        refine wpAnyH_take (i:=35) (v:=undef) rfl (by kernel_rfl) (by kernel_rfl) (by kernel_rfl) (fun _ _ _ h=>h) (Or.inr ⟨by kernel_rfl,rfl⟩) hHeld ?_
        try simp only[Act.put,tk1,tk2,tk3,tk4,tk5,tk6]
        refine wpAnyH_take (i:=36) (v:=undef) rfl (by kernel_rfl) (by kernel_rfl) (by kernel_rfl) (fun _ _ _ h=>h) (Or.inr ⟨by kernel_rfl,rfl⟩) hHeld ?_
        try simp only[Act.put,tk1,tk2,tk3,tk4,tk5,tk6]
        refine tkH 37 hHeld ?_;refine wpAnyH_done (by kernel_rfl) ?_ _;clear hHeld;go_wp2;go_ret;exact HP.out _ (hea.out.trans (Below.drew (Below.refl _ _)))
      subst hy;obtain⟨y1,y2,y3,y4⟩:=Aff key1;have Hkeep:=qz hkeep;clear hkeep;clear c0 d0 c1 d1 c2 d2 c3 d3 c4 d4 c5 d5 c6 d6 c7 d7;refine wp_region_held_drew (S:=fun W=>W.cell? ⟨g,off+q*8,none⟩=some (.int .i64 k1)/\W.cell? ⟨g,off+q*8+1,none⟩=some (.string key1)/\W.cell? ⟨g,off+q*8+2,none⟩=some (.int .i64 ak)/\W.cell? ⟨g,off+q*8+3,none⟩=some (.bool ab)/\W.cell? ⟨g,off+q*8+4,none⟩=some (.int .i64 an)/\W.cell? ⟨g,off+q*8+5,none⟩=some (.string at1)/\W.cell? ⟨g,off+q*8+6,none⟩=some (.slice ala al.length alc)/\W.cell? ⟨g,off+q*8+7,none⟩=some (.slice aoa ao.length aoc)/\W.cell? ⟨g',off'+q*8,none⟩=some (.int .i64 k1)/\W.cell? ⟨g',off'+q*8+1,none⟩=some (.string key1)/\W.cell? ⟨g',off'+q*8+2,none⟩=some (.int .i64 bk)/\W.cell? ⟨g',off'+q*8+3,none⟩=some (.bool bb)/\W.cell? ⟨g',off'+q*8+4,none⟩=some (.int .i64 bn)/\W.cell? ⟨g',off'+q*8+5,none⟩=some (.string bt)/\W.cell? ⟨g',off'+q*8+6,none⟩=some (.slice bla bl.length blc)/\W.cell? ⟨g',off'+q*8+7,none⟩=some (.slice boa bo.length boc)) (by kernel_rfl) (Hkeep.out _ (Below.drew (Below.refl _ _))) (fun hHeld=> ?_);refine tkH 0 hHeld ?_;refine tkH 1 hHeld ?_;refine tkH 2 hHeld ?_;refine tkH 3 hHeld ?_;refine tkH 4 hHeld ?_;refine tkH 5 hHeld ?_;refine tkH 6 hHeld ?_;refine tkH 7 hHeld ?_;refine tkH 8 hHeld ?_;refine tkH 9 hHeld ?_;refine tkH 10 hHeld ?_;refine tkH 11 hHeld ?_;refine tkH 12 hHeld ?_;refine tkH 13 hHeld ?_;refine tkH 14 hHeld ?_;refine tkH 15 hHeld ?_;refine tkH 16 hHeld ?_;refine tkH 17 hHeld ?_;refine tkH 18 hHeld ?_;refine tkH 19 hHeld ?_;refine tkH 20 hHeld ?_;refine tkH 21 hHeld ?_;refine tkH 22 hHeld ?_;refine tkH 23 hHeld ?_;refine tkH 24 hHeld ?_;refine tkH 25 hHeld ?_;refine tkH 26 hHeld ?_;refine tkH 27 hHeld ?_;refine tkH 28 hHeld ?_;refine tkH 29 hHeld ?_;refine tkH 30 hHeld ?_;refine tkH 31 hHeld ?_;refine tkH 32 hHeld ?_;refine tkH 33 hHeld ?_;refine tkH 34 hHeld ?_;refine wpAnyH_ready (rs:= [35]) (by kernel_rfl) (by simp) ?_;refine AllReadyH.cons rfl (fun K hK=> ?_) AllReadyH.nil;go_simp;(with_reducible refine(HC.out _ (Below.drew (Below.refl _ _))).mono ?_);rintro e w7 ⟨B,rfl,hB,hb7⟩;have hw7:Below wr.heap.size wr w7:=(Below.drew (Below.refl _ _)).trans hb7;refine hK.out _ _ (Hkeep.out _ hw7) (fun hHeld=> ?_);clear hK K
      try simp only[Act.put,tk1,tk2,tk3,tk4,tk5,tk6]
      refine tkH 36 hHeld ?_;refine tkH 37 hHeld ?_;refine wpAnyH_done (by kernel_rfl) ?_ _;clear hHeld;have hwf:=hea.out.trans (hw7.mono hea.out.size)
      cases B with
      |true=>
       have he:(⟨k1,key1,.mk ak ab an at1 al ao⟩:POp)=⟨k1,key1,.mk bk bb bn bt bl bo⟩:=by rw[hB.1 rfl]
       have Htk':=qz (HTt.out he);have Hwf:=qz hwf;clear hwf;clear hb7 hw7 hB he;go_wp2;go_roundw
       case rel=>exact⟨q+1,by go_num,by omega,Htk',Hwf⟩
       case measure=>simp only[intOf];omega
      |false=>
       have hP:=B2.no (w:=w) (w':=w7) (HNe.out (fun e=>by
        have:Val.mk ak ab an at1 al ao=.mk bk bb bn bt bl bo:=by injection e
        have:=hB.2 this
        cases this)) hwf
       have HP:=qz hP;clear hP;clear hb7 hw7 hB hwf;go_wp2;go_ret;exact HP.out
    . obtain rfl:q=l.length:=by omega
      have he:l=l':=by
       have:=htk.out
       rwa [List.take_length,Hln.out,List.take_length]at this
      go_wp2;go_ret;exact B2.yes he hea.out
end Go.Proofs.YtdbejcbbhomdbaaGreatDoor
