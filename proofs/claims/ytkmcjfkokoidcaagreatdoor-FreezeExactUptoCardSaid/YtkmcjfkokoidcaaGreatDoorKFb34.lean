/- Parts: commonplaceref02.Copy: all of a value, in new memory. Condition: a bulk of at most 10^8. -/
import Derived.StillTailTactics
import Derived.Test.YtkmcjfkokoidcaaGreatDoorKFb27
set_option maxHeartbeats 20000000
set_option maxRecDepth 100000
namespace Go.Proofs.YtkmcjfkokoidcaaGreatDoor
open Go Go.RowKit
def Ia (c:UInt8):Nat:=Fk.findIdx (fun x=>x==c)
theorem Acl: ∀c:Fin 256,Ia (UInt8.ofNat c.val)<=8/\(Ia (UInt8.ofNat c.val)=8->Fj (UInt8.ofNat c.val)=none)/\(Ia (UInt8.ofNat c.val)<8->(Fj (UInt8.ofNat c.val)).map (fun n:Nat=>(n:Int))=Fz[Ia (UInt8.ofNat c.val)]?)/\
 (∀k:Fin 8,(k.val<Ia (UInt8.ofNat c.val)->((UInt8.ofNat c.val).toNat==(Fk.getD k.val 0).toNat)=false)/\(k.val=Ia (UInt8.ofNat c.val)->((UInt8.ofNat c.val).toNat==(Fk.getD k.val 0).toNat)=true)):=by decide+kernel
theorem Ahh (c:UInt8):Ia c<=8/\(Ia c=8->Fj c=none)/\(Ia c<8->(Fj c).map (fun n:Nat=>(n:Int))=Fz[Ia c]?)/\
 (∀k,k<8->(k<Ia c->(c.toNat==(Fk.getD k 0).toNat)=false)/\(k=Ia c->(c.toNat==(Fk.getD k 0).toNat)=true)):=by
 have h:=Acl ⟨c.toNat,c.toNat_lt⟩;simp only[UInt8.ofNat_toNat]at h;exact⟨h.1,h.2.1,h.2.2.1,fun k hk=>h.2.2.2 ⟨k,hk⟩⟩
theorem V1 (T:ByteArray) (l:List UInt8):(T++(⟨l.toArray⟩:ByteArray)).size=T.size+l.length:=by rw[ByteArray.size_append];rfl
theorem Abo (T:ByteArray) (l:List UInt8):(T++(⟨l.toArray⟩:ByteArray)).data.toList=T.data.toList++l:=by rw[ByteArray.data_append,Array.toList_append]
def RUI (s:ByteArray) (w:World) (RES:Rd (List UInt8)) (j:Nat) (T:ByteArray) (wr:World):Prop:=
 Below w.heap.size w wr/\T.size<=j/\ ∃f,E6 f s.data.toList j T.data.toList=RES/\s.size - j<f
theorem Afr (T:ByteArray):(⟨T.data.toList.toArray⟩:ByteArray)=T:=by
 apply ByteArray.ext;simp
theorem Below.drewN' {B n:Nat} {a w w1:World} (h:Below B a w) (hb:Below (w.drewN n).heap.size (w.drewN n) w1) (hB:B<=w.heap.size):Below B a w1:=(A4 h n).trans (hb.mono hB)
theorem R5 (s:ByteArray) (k:Nat) (w:World) (hs:s.size<=1000000000) (hk:k<=s.size):
 Calls Tryz.prog 154 #[.string s,.int .i64 k] w fun e w'=>e=.returned (Ox (Cv s.data.toList k))/\Below w.heap.size w w':=by
 have hlen:=Ab s;have d0:decide ((k:Int)<0)=false:=decide_eq_false (by omega);have d1:decide (s.size<k)=false:=decide_eq_false (by omega);by_cases hlt:k<s.size;rotate_left
 . obtain rfl:k=s.size:=by omega
   have e:Cv s.data.toList s.size=.bad 4 s.size:=by unfold Cv;rw[if_neg (by rw[List.getElem?_eq_none (by omega)];simp)]
   rw[e];simp only[Ox];clear e hlen hlt;go_enter Tryz.func154,Tryz.ntmps154;go_wp2;exact bodyPost_ret (Am rfl _ _ _) rfl ⟨rfl,Below.refl _ _⟩
 obtain⟨c,hc⟩: ∃c,s[k]=c:=⟨_,rfl⟩;have hg:s.data.toList[k]? =some c:=by rw[A9 s hlt,hc]
 have hcl:=Be c;have ne: ∀(c:UInt8) (n:Nat),n<256->c≠UInt8.ofNat n->((c.toNat:Int)==(n:Int))=false:=fun c n hn h=>by rw[Gg hn];simpa using h
 have e1:((k:Int)==(s.size:Int))=false:=by rw[beq_eq_false_iff_ne];omega
 by_cases h34:c=34;rotate_left
 . have e:Cv s.data.toList k=.bad 4 k:=by unfold Cv;rw[if_neg (by rw[hg];simpa using h34)]
   rw[e];have e2:=ne c 34 (by decide) h34;simp only[Ox];clear e hlen hg ne h34;go_enter Tryz.func154,Tryz.ntmps154;go_wp2;exact bodyPost_ret (Am rfl _ _ _) rfl ⟨rfl,Below.refl _ _⟩
 subst h34;obtain⟨RES,hRES⟩: ∃R,Cv s.data.toList k=R:=⟨_,rfl⟩;rw[hRES];have hF:E6 (s.data.toList.length - k) s.data.toList (k+1) []=RES:=by
  rw[<-hRES];unfold Cv;rw[if_pos hg]
 have H0:Hid (RUI s w RES (k+1) ⟨#[]⟩ w):=⟨Below.refl _ _,Nat.zero_le _,_,hF,by omega⟩;clear hRES hF hg hlen;have Ne:=qz ne;clear ne;go_enter Tryz.func154,Tryz.ntmps154;go_wp2;go_loopw [7,8] (fun o i wr=> ∃(T:ByteArray) (j:Nat),o=.string T/\i=.int .i64 j/\j<=s.size/\Hid (RUI s w RES j T wr)) (fun _ i _=>s.size - (intOf i).toNat)
 case atStart=>exact⟨⟨#[]⟩,k+1,rfl,by go_num,by omega,H0⟩
 case round=>
  obtain⟨T,j,rfl,rfl,hj,hI⟩:=hrel;clear H0 e1 d0 d1 hc;clear hlt hk;obtain⟨wo,rfl⟩: ∃wo:World,wo=wr:=⟨_,rfl⟩;obtain⟨h1,h2,f,h3,h4⟩:=hI.out;obtain⟨f,rfl⟩: ∃g,f=g+1:=⟨f - 1,by omega⟩;clear hI;by_cases hlt:j<s.size;rotate_left
  . obtain rfl:j=s.size:=by omega
    have hR:RES=.bad 4 s.size:=by
     rw[<-h3];unfold E6;rw[List.getElem?_eq_none (by rw[Ab];exact Nat.le_refl _)]
    obtain⟨H1,H3,HR⟩:=hid3 h1 h3 hR;clear h1 h3 hR;go_wp2;exact bodyPost_ret (Am rfl _ _ _) rfl ⟨by rw[HR.out];rfl,H1.out⟩
  obtain⟨c,hc⟩: ∃c,s[j]=c:=⟨_,rfl⟩;have hg:s.data.toList[j]? =some c:=by rw[A9 s hlt,hc]
  have hcl:=Be c;have hge: ¬((s.size:Int)<=(j:Int)):=by omega
  by_cases h34:c=34
  . subst h34;have hR:RES=.ok T.data.toList (j+1):=by
     rw[<-h3];unfold E6;rw[hg];simp
    obtain⟨H1,H3,HR⟩:=hid3 h1 h3 hR;clear h1 h3 hR;clear hg;go_wp2;exact bodyPost_ret (Am rfl _ _ _) rfl ⟨by rw[HR.out];simp only[Ox,Afr];rfl,H1.out⟩
  have e34:=Ne.out c 34 (by decide) h34;by_cases h32:c.toNat<32
  . have hR:RES=.bad 4 j:=by
     rw[<-h3];unfold E6;rw[hg];simp only;rw[if_neg h34,if_pos h32]
    have l32:(c.toNat:Int)<32:=by omega
    obtain⟨H1,H3,HR⟩:=hid3 h1 h3 hR;clear h1 h3 hR;clear hg h32 h34;go_wp2;exact bodyPost_ret (Am rfl _ _ _) rfl ⟨by rw[HR.out];rfl,H1.out⟩
  have l32: ¬((c.toNat:Int)<32):=by omega
  by_cases h92:c=92;rotate_left
  . have e92:=Ne.out c 92 (by decide) h92;have hA:=fun W=>Qt s j W (by omega) (by omega);have hne:s.data.toList.drop j≠ []:=by rw[D0 hg];simp
    have hgood:=Jq _ hne;unfold Gw at hgood;rw[hgood]at hA;have hR:RES=if(Lib.decodeL (s.data.toList.drop j)).1=65533/\(Lib.decodeL (s.data.toList.drop j)).2=1 then .bad 3 j else E6 f s.data.toList (j+(Lib.decodeL (s.data.toList.drop j)).2) (T.data.toList++(s.data.toList.drop j).take (Lib.decodeL (s.data.toList.drop j)).2):=by
     rw[<-h3]
     conv=>lhs;unfold E6
     rw[hg];simp only;rw[if_neg h34,if_neg h32,if_neg h92]
    by_cases hbad:(Lib.decodeL (s.data.toList.drop j)).1=65533/\(Lib.decodeL (s.data.toList.drop j)).2=1
    . rw[if_pos hbad]at hR hA;obtain⟨H1,H3,HR,HA⟩:=hid4 h1 h3 hR hA;clear h1 h3 hR hA;clear hg h32 h34 h92 hne hgood hbad;go_wp2_with (fail);(with_reducible refine(HA.out _).mono ?_);rintro e w2 ⟨rfl,rfl⟩;go_wp2;exact bodyPost_ret (Am rfl _ _ _) rfl ⟨by rw[HR.out];rfl,H1.out⟩
    . rw[if_neg hbad]at hR hA;have hsc:=Ma hne hbad;have hw:=Lib.decodeL_width (s.data.toList.drop j);have hle:=Zc (by rw[Ab];exact hlt:j<s.data.toList.length);rw[Ab]at hle;have henc:=Lib.encode_decode _ hne hbad;obtain⟨sc1,sc2⟩:(Lib.decodeL (s.data.toList.drop j)).1<=1114111/\ ¬(55296<=(Lib.decodeL (s.data.toList.drop j)).1/\(Lib.decodeL (s.data.toList.drop j)).1<57344):=hsc;have hB:=fun W=>Jo ((Lib.decodeL (s.data.toList.drop j)).1:Int) (by omega) (by omega) (by omega) W;rw[henc]at hB;have hlt2:((s.data.toList.drop j).take (Lib.decodeL (s.data.toList.drop j)).2).length<=(Lib.decodeL (s.data.toList.drop j)).2:=by rw[List.length_take];omega
      generalize (s.data.toList.drop j).take (Lib.decodeL (s.data.toList.drop j)).2=X at hB hR hlt2;generalize Lib.decodeL (s.data.toList.drop j)=D at hA hB hR hw hle hlt2;obtain⟨r,n⟩:=D;simp only at hA hB hR hw hle hlt2;have hnext: ∀W',Below wo.heap.size wo W'->RUI s w RES (j+n) (T++⟨X.toArray⟩) W':=fun W' a1=>
       ⟨h1.trans (a1.mono h1.size),by rw[V1];omega,f,by rw[Abo];exact hR.symm,by omega⟩
      have n0:((n:Int)==0)=false:=by rw[beq_eq_false_iff_ne];omega
      obtain⟨H1,H3,HR,HA,HB,Hnext⟩:=hid6 h1 h3 hR hA hB hnext;clear h1 h3 hR hA hB hnext;clear hg h32 h34 h92 hne hgood hbad sc1 sc2 henc;go_wp2_with (fail);(with_reducible refine(HA.out _).mono ?_);rintro e w2 ⟨rfl,rfl⟩;go_wp2_with (fail);(with_reducible refine(HB.out _).mono ?_);rintro e w2 ⟨rfl,hb2⟩;have HU2:=qz (Hnext.out w2 hb2);clear hb2;go_wp2;go_roundw
      case rel=>exact⟨_,j+n,rfl,by go_num,by omega,HU2⟩
      case measure=>simp[intOf];omega
  . subst h92;have hX:=fun W=>Ry s j W hs (by omega);have hR:RES=match Ex (s.data.toList.drop j)with
     | .bad e _=> .bad e j
     | .ok r n=>E6 f s.data.toList (j+n) (T.data.toList++Lib.encodeRune (r:Int)):=by
     rw[<-h3]
     conv=>lhs;unfold E6
     rw[hg];simp only;rw[if_neg (by decide),if_neg (by decide),if_pos trivial];rfl
    have hnext: ∀(r n:Nat) (W':World),Ex (s.data.toList.drop j)=.ok r n->Below wo.heap.size wo W'->RUI s w RES (j+n) (T++⟨(Lib.encodeRune (r:Int)).toArray⟩) W'/\j+n<=s.size/\2<=n:=fun r n W' e a1=>by
     have a2:=Lc e;have a3:=Re e;rw[List.length_drop,Ab]at a2;rw[e]at hR;exact⟨⟨h1.trans (a1.mono h1.size),by rw[V1];omega,f,by rw[Abo];exact hR.symm,by omega⟩,by omega,a2.2.2.1⟩
    have hBy: ∀(r n:Nat) (W:World),Ex (s.data.toList.drop j)=.ok r n->Calls Tryz.prog 143 #[.int .i64 r] W fun e w'=>e=.returned (.string ⟨(Lib.encodeRune r).toArray⟩)/\Below W.heap.size W w':=fun r n W e=>by
     have a2:=Lc e;exact Jo (r:Int) (by omega) (by omega) (by omega) W
    cases hu:C4 (s.data.toList.drop j)with
    |none=>
     have he:Ex (s.data.toList.drop j)=Qd (s.data.toList.drop j):=by unfold Ex;rw[hu]
     rw[hu]at hX;simp only[Acb]at hX;have hg1:(s.data.toList.drop j)[1]? =s.data.toList[j+1]? :=by rw[List.getElem?_drop]
     have hb0:Hid (Below wo.heap.size wo wo):=Below.refl _ _;by_cases hin:j+1<s.size
     . obtain⟨x,hx⟩: ∃x,s[j+1]=x:=⟨_,rfl⟩;have hgx:s.data.toList[j+1]? =some x:=by rw[A9 s hin,hx]
       have hxl:=Be x;obtain⟨t1,t2,t3,t4⟩:=Ahh x;have he':Ex (s.data.toList.drop j)=match Fj x with
        |none=> .bad 4 0
        |some r=> .ok r 2:=by
        rw[he];unfold Qd;rw[hg1,hgx];rfl
       have hcmp: ∀q,q<8->(q<Ia x->((x.toNat:Int)==((Fk.getD q 0).toNat:Int))=false)/\(q=Ia x->((x.toNat:Int)==((Fk.getD q 0).toNat:Int))=true):=by
        intro q hq;have key:((x.toNat:Int)==((Fk.getD q 0).toNat:Int))=(x.toNat==(Fk.getD q 0).toNat):=by
         rw[Bool.eq_iff_iff];simp only[beq_iff_eq];omega
        rw[key];exact t4 q hq
       have i0:(0:Int)<=(j:Int)+1:=by omega
       have i1:(j:Int)+1<(s.size:Int):=by omega
       have i2:decide ((s.size:Int)<=(j:Int)+1)=false:=decide_eq_false (by omega);have hc0:=(hcmp 0 (by omega));have hc1:=(hcmp 1 (by omega));have hc2:=(hcmp 2 (by omega));have hc3:=(hcmp 3 (by omega));have hc4:=(hcmp 4 (by omega));have hc5:=(hcmp 5 (by omega));have hc6:=(hcmp 6 (by omega));have hc7:=(hcmp 7 (by omega));simp only[Fk,List.getD_cons_zero,List.getD_cons_succ]at hc0 hc1 hc2 hc3 hc4 hc5 hc6 hc7;clear hcmp t4;generalize Ia x=L at hc0 hc1 hc2 hc3 hc4 hc5 hc6 hc7 t1 t2 t3;obtain⟨H1,H3,HR,HX,Hnext,HBy,Hc0,Hc1,Hc2,Hc3,Hc4,Hc5,Hc6,Hc7,T2,T3⟩:=hid16 h1 h3 hR hX hnext hBy hc0 hc1 hc2 hc3 hc4 hc5 hc6 hc7 t2 t3;have He':=qz he';clear h1 h3 hR hX hnext hBy hc0 hc1 hc2 hc3 hc4 hc5 hc6 hc7 t2 t3 he';clear hg h32 h34 he hu hg1 hgx;go_wp2_with (fail);(with_reducible refine(HX.out _).mono ?_);rintro e w2 ⟨rfl,rfl⟩;go_wp2;go_loopw [13] (fun kk wr=> ∃q:Nat,kk=.int .i64 q/\q<=L/\Hid (Below wo.heap.size wo wr)) (fun kk _=>8 - (intOf kk).toNat)
       case atStart=>exact⟨0,rfl,Nat.zero_le _,hb0⟩
       case round=>
        obtain⟨q,rfl,hq,hb⟩:=hrel;clear hb0;by_cases hql:q<L
        . have hnx: ∀(n:Nat),Hid (Below wo.heap.size wo (wr.drewN n)):=fun n=>A4 hb.out n;rcases(by omega:q=0\/q=1\/q=2\/q=3\/q=4\/q=5\/q=6\/q=7)with rfl|rfl|rfl|rfl|rfl|rfl|rfl|rfl
          . have g0:(⟨#[34,92,47,98,102,110,114,116]⟩:ByteArray)[0]'(by decide)=34:=rfl;have f0:=Hc0.out.1 hql;have f1:((x.toNat:Int) != 34)=true:=by unfold bne;rw[show((x.toNat:Int)==34)=false from f0];rfl
            go_wp2;go_quiet (fail);go_wp2;go_roundw
            case rel=>exact⟨0+1,by first|rfl|go_num,by omega,hnx _⟩
            case measure=>simp[intOf]
          . have g0:(⟨#[34,92,47,98,102,110,114,116]⟩:ByteArray)[1]'(by decide)=92:=rfl;have f0:=Hc1.out.1 hql;have f1:((x.toNat:Int) != 92)=true:=by unfold bne;rw[show((x.toNat:Int)==92)=false from f0];rfl
            go_wp2;go_quiet (fail);go_wp2;go_roundw
            case rel=>exact⟨1+1,by first|rfl|go_num,by omega,hnx _⟩
            case measure=>simp[intOf]
          . have g0:(⟨#[34,92,47,98,102,110,114,116]⟩:ByteArray)[2]'(by decide)=47:=rfl;have f0:=Hc2.out.1 hql;have f1:((x.toNat:Int) != 47)=true:=by unfold bne;rw[show((x.toNat:Int)==47)=false from f0];rfl
            go_wp2;go_quiet (fail);go_wp2;go_roundw
            case rel=>exact⟨2+1,by first|rfl|go_num,by omega,hnx _⟩
            case measure=>simp[intOf]
          . have g0:(⟨#[34,92,47,98,102,110,114,116]⟩:ByteArray)[3]'(by decide)=98:=rfl;have f0:=Hc3.out.1 hql;have f1:((x.toNat:Int) != 98)=true:=by unfold bne;rw[show((x.toNat:Int)==98)=false from f0];rfl
            go_wp2;go_quiet (fail);go_wp2;go_roundw
            case rel=>exact⟨3+1,by first|rfl|go_num,by omega,hnx _⟩
            case measure=>simp[intOf]
          . have g0:(⟨#[34,92,47,98,102,110,114,116]⟩:ByteArray)[4]'(by decide)=102:=rfl;have f0:=Hc4.out.1 hql;have f1:((x.toNat:Int) != 102)=true:=by unfold bne;rw[show((x.toNat:Int)==102)=false from f0];rfl
            go_wp2;go_quiet (fail);go_wp2;go_roundw
            case rel=>exact⟨4+1,by first|rfl|go_num,by omega,hnx _⟩
            case measure=>simp[intOf]
          . have g0:(⟨#[34,92,47,98,102,110,114,116]⟩:ByteArray)[5]'(by decide)=110:=rfl;have f0:=Hc5.out.1 hql;have f1:((x.toNat:Int) != 110)=true:=by unfold bne;rw[show((x.toNat:Int)==110)=false from f0];rfl
            go_wp2;go_quiet (fail);go_wp2;go_roundw
            case rel=>exact⟨5+1,by first|rfl|go_num,by omega,hnx _⟩
            case measure=>simp[intOf]
          . have g0:(⟨#[34,92,47,98,102,110,114,116]⟩:ByteArray)[6]'(by decide)=114:=rfl;have f0:=Hc6.out.1 hql;have f1:((x.toNat:Int) != 114)=true:=by unfold bne;rw[show((x.toNat:Int)==114)=false from f0];rfl
            go_wp2;go_quiet (fail);go_wp2;go_roundw
            case rel=>exact⟨6+1,by first|rfl|go_num,by omega,hnx _⟩
            case measure=>simp[intOf]
          . have g0:(⟨#[34,92,47,98,102,110,114,116]⟩:ByteArray)[7]'(by decide)=116:=rfl;have f0:=Hc7.out.1 hql;have f1:((x.toNat:Int) != 116)=true:=by unfold bne;rw[show((x.toNat:Int)==116)=false from f0];rfl
            go_wp2;go_quiet (fail);go_wp2;go_roundw
            case rel=>exact⟨7+1,by first|rfl|go_num,by omega,hnx _⟩
            case measure=>simp[intOf]
        . obtain rfl:q=L:=by omega
          clear hql hq;by_cases h8:q=8
          . subst h8;have hR':RES=.bad 4 j:=by
             have:=HR.out;rw[He'.out,T2.out rfl]at this;exact this
            have hnx: ∀(n:Nat),Hid (Below w.heap.size w (wr.drewN n)):=fun n=>H1.out.trans ((A4 hb.out n).mono H1.out.size);have HR':=qz hR';clear hR';go_wp2;go_quiet (fail);go_wp2;exact bodyPost_ret (Am rfl _ _ _) rfl ⟨by rw[HR'.out];rfl,hnx _⟩
          . obtain⟨r,hr,hcd⟩: ∃r:Nat,Fj x=some r/\Fz[q]? =some (r:Int):=by
             have hq8:q<8:=by omega
             have h:=T3.out hq8;have hcs: ∃c,Fz[q]? =some c:=⟨_,List.getElem?_eq_getElem hq8⟩;obtain⟨c,hcs⟩:=hcs;rw[hcs]at h
             cases hE:Fj x with
             |none=>rw[hE]at h;cases h
             |some r=>rw[hE]at h;exact⟨r,rfl,by rw[hcs,<-h];rfl⟩
            have he2:Ex (s.data.toList.drop j)=.ok r 2:=by rw[He'.out,hr]
            have hBy':=fun W=>HBy.out r 2 W he2;have hnext':=fun W'=>Hnext.out r 2 W' he2;have HCd:=qz (fun W=>O1 q (r:Int) hcd W);have hX4:=Qn (r:Int);have hq8:q<8:=by omega
            generalize Lib.encodeRune (r:Int)=X at hBy' hnext' hX4;have hj2:=(hnext' wo (Below.refl _ _)).2.1;obtain⟨HBy',Hnext'⟩:=hid2 hBy' hnext';clear hBy' hnext';clear he2 hr hcd;rcases(by omega:q=0\/q=1\/q=2\/q=3\/q=4\/q=5\/q=6\/q=7)with rfl|rfl|rfl|rfl|rfl|rfl|rfl|rfl
            . have g0:(⟨#[34,92,47,98,102,110,114,116]⟩:ByteArray)[0]'(by decide)=34:=rfl;have HCq:Hid (∀W,Calls Tryz.prog 142 #[.int .i64 0] W (fun e w'=>e=.returned (.int .i64 (r:Int))/\Below W.heap.size W w')):=HCd.out;have f0:=Hc0.out.2 rfl;have f1:((x.toNat:Int) != 34)=false:=by unfold bne;rw[show((x.toNat:Int)==34)=true from f0];rfl
              go_wp2;go_quiet (fail);go_wp2_with (fail);(with_reducible refine(HCq.out _).mono ?_);rintro e w2 ⟨rfl,hb2⟩;have HB2:=qz (Below.drewN' hb.out hb2 hb.out.size);clear hb2;go_wp2_with (fail);(with_reducible refine(HBy'.out _).mono ?_);rintro e w3 ⟨rfl,hb3⟩;have HU2:=qz (Hnext'.out w3 (HB2.out.trans (hb3.mono HB2.out.size))).1;clear hb3;go_wp2;go_roundw
              case rel=>exact⟨_,j+2,rfl,by go_num,by omega,HU2⟩
              case measure=>simp[intOf];omega
            . have g0:(⟨#[34,92,47,98,102,110,114,116]⟩:ByteArray)[1]'(by decide)=92:=rfl;have HCq:Hid (∀W,Calls Tryz.prog 142 #[.int .i64 1] W (fun e w'=>e=.returned (.int .i64 (r:Int))/\Below W.heap.size W w')):=HCd.out;have f0:=Hc1.out.2 rfl;have f1:((x.toNat:Int) != 92)=false:=by unfold bne;rw[show((x.toNat:Int)==92)=true from f0];rfl
              go_wp2;go_quiet (fail);go_wp2_with (fail);(with_reducible refine(HCq.out _).mono ?_);rintro e w2 ⟨rfl,hb2⟩;have HB2:=qz (Below.drewN' hb.out hb2 hb.out.size);clear hb2;go_wp2_with (fail);(with_reducible refine(HBy'.out _).mono ?_);rintro e w3 ⟨rfl,hb3⟩;have HU2:=qz (Hnext'.out w3 (HB2.out.trans (hb3.mono HB2.out.size))).1;clear hb3;go_wp2;go_roundw
              case rel=>exact⟨_,j+2,rfl,by go_num,by omega,HU2⟩
              case measure=>simp[intOf];omega
            . have g0:(⟨#[34,92,47,98,102,110,114,116]⟩:ByteArray)[2]'(by decide)=47:=rfl;have HCq:Hid (∀W,Calls Tryz.prog 142 #[.int .i64 2] W (fun e w'=>e=.returned (.int .i64 (r:Int))/\Below W.heap.size W w')):=HCd.out;have f0:=Hc2.out.2 rfl;have f1:((x.toNat:Int) != 47)=false:=by unfold bne;rw[show((x.toNat:Int)==47)=true from f0];rfl
              go_wp2;go_quiet (fail);go_wp2_with (fail);(with_reducible refine(HCq.out _).mono ?_);rintro e w2 ⟨rfl,hb2⟩;have HB2:=qz (Below.drewN' hb.out hb2 hb.out.size);clear hb2;go_wp2_with (fail);(with_reducible refine(HBy'.out _).mono ?_);rintro e w3 ⟨rfl,hb3⟩;have HU2:=qz (Hnext'.out w3 (HB2.out.trans (hb3.mono HB2.out.size))).1;clear hb3;go_wp2;go_roundw
              case rel=>exact⟨_,j+2,rfl,by go_num,by omega,HU2⟩
              case measure=>simp[intOf];omega
            . have g0:(⟨#[34,92,47,98,102,110,114,116]⟩:ByteArray)[3]'(by decide)=98:=rfl;have HCq:Hid (∀W,Calls Tryz.prog 142 #[.int .i64 3] W (fun e w'=>e=.returned (.int .i64 (r:Int))/\Below W.heap.size W w')):=HCd.out;have f0:=Hc3.out.2 rfl;have f1:((x.toNat:Int) != 98)=false:=by unfold bne;rw[show((x.toNat:Int)==98)=true from f0];rfl
              go_wp2;go_quiet (fail);go_wp2_with (fail);(with_reducible refine(HCq.out _).mono ?_);rintro e w2 ⟨rfl,hb2⟩;have HB2:=qz (Below.drewN' hb.out hb2 hb.out.size);clear hb2;go_wp2_with (fail);(with_reducible refine(HBy'.out _).mono ?_);rintro e w3 ⟨rfl,hb3⟩;have HU2:=qz (Hnext'.out w3 (HB2.out.trans (hb3.mono HB2.out.size))).1;clear hb3;go_wp2;go_roundw
              case rel=>exact⟨_,j+2,rfl,by go_num,by omega,HU2⟩
              case measure=>simp[intOf];omega
            . have g0:(⟨#[34,92,47,98,102,110,114,116]⟩:ByteArray)[4]'(by decide)=102:=rfl;have HCq:Hid (∀W,Calls Tryz.prog 142 #[.int .i64 4] W (fun e w'=>e=.returned (.int .i64 (r:Int))/\Below W.heap.size W w')):=HCd.out;have f0:=Hc4.out.2 rfl;have f1:((x.toNat:Int) != 102)=false:=by unfold bne;rw[show((x.toNat:Int)==102)=true from f0];rfl
              go_wp2;go_quiet (fail);go_wp2_with (fail);(with_reducible refine(HCq.out _).mono ?_);rintro e w2 ⟨rfl,hb2⟩;have HB2:=qz (Below.drewN' hb.out hb2 hb.out.size);clear hb2;go_wp2_with (fail);(with_reducible refine(HBy'.out _).mono ?_);rintro e w3 ⟨rfl,hb3⟩;have HU2:=qz (Hnext'.out w3 (HB2.out.trans (hb3.mono HB2.out.size))).1;clear hb3;go_wp2;go_roundw
              case rel=>exact⟨_,j+2,rfl,by go_num,by omega,HU2⟩
              case measure=>simp[intOf];omega
            . have g0:(⟨#[34,92,47,98,102,110,114,116]⟩:ByteArray)[5]'(by decide)=110:=rfl;have HCq:Hid (∀W,Calls Tryz.prog 142 #[.int .i64 5] W (fun e w'=>e=.returned (.int .i64 (r:Int))/\Below W.heap.size W w')):=HCd.out;have f0:=Hc5.out.2 rfl;have f1:((x.toNat:Int) != 110)=false:=by unfold bne;rw[show((x.toNat:Int)==110)=true from f0];rfl
              go_wp2;go_quiet (fail);go_wp2_with (fail);(with_reducible refine(HCq.out _).mono ?_);rintro e w2 ⟨rfl,hb2⟩;have HB2:=qz (Below.drewN' hb.out hb2 hb.out.size);clear hb2;go_wp2_with (fail);(with_reducible refine(HBy'.out _).mono ?_);rintro e w3 ⟨rfl,hb3⟩;have HU2:=qz (Hnext'.out w3 (HB2.out.trans (hb3.mono HB2.out.size))).1;clear hb3;go_wp2;go_roundw
              case rel=>exact⟨_,j+2,rfl,by go_num,by omega,HU2⟩
              case measure=>simp[intOf];omega
            . have g0:(⟨#[34,92,47,98,102,110,114,116]⟩:ByteArray)[6]'(by decide)=114:=rfl;have HCq:Hid (∀W,Calls Tryz.prog 142 #[.int .i64 6] W (fun e w'=>e=.returned (.int .i64 (r:Int))/\Below W.heap.size W w')):=HCd.out;have f0:=Hc6.out.2 rfl;have f1:((x.toNat:Int) != 114)=false:=by unfold bne;rw[show((x.toNat:Int)==114)=true from f0];rfl
              go_wp2;go_quiet (fail);go_wp2_with (fail);(with_reducible refine(HCq.out _).mono ?_);rintro e w2 ⟨rfl,hb2⟩;have HB2:=qz (Below.drewN' hb.out hb2 hb.out.size);clear hb2;go_wp2_with (fail);(with_reducible refine(HBy'.out _).mono ?_);rintro e w3 ⟨rfl,hb3⟩;have HU2:=qz (Hnext'.out w3 (HB2.out.trans (hb3.mono HB2.out.size))).1;clear hb3;go_wp2;go_roundw
              case rel=>exact⟨_,j+2,rfl,by go_num,by omega,HU2⟩
              case measure=>simp[intOf];omega
            . have g0:(⟨#[34,92,47,98,102,110,114,116]⟩:ByteArray)[7]'(by decide)=116:=rfl;have HCq:Hid (∀W,Calls Tryz.prog 142 #[.int .i64 7] W (fun e w'=>e=.returned (.int .i64 (r:Int))/\Below W.heap.size W w')):=HCd.out;have f0:=Hc7.out.2 rfl;have f1:((x.toNat:Int) != 116)=false:=by unfold bne;rw[show((x.toNat:Int)==116)=true from f0];rfl
              go_wp2;go_quiet (fail);go_wp2_with (fail);(with_reducible refine(HCq.out _).mono ?_);rintro e w2 ⟨rfl,hb2⟩;have HB2:=qz (Below.drewN' hb.out hb2 hb.out.size);clear hb2;go_wp2_with (fail);(with_reducible refine(HBy'.out _).mono ?_);rintro e w3 ⟨rfl,hb3⟩;have HU2:=qz (Hnext'.out w3 (HB2.out.trans (hb3.mono HB2.out.size))).1;clear hb3;go_wp2;go_roundw
              case rel=>exact⟨_,j+2,rfl,by go_num,by omega,HU2⟩
              case measure=>simp[intOf];omega
     . have he':Ex (s.data.toList.drop j)=.bad 4 0:=by
        rw[he];unfold Qd;rw[hg1,List.getElem?_eq_none (by rw[Ab];omega)]
       rw[he']at hR;simp only at hR;have i2:decide ((s.size:Int)<=(j:Int)+1)=true:=decide_eq_true (by omega);obtain⟨H1,H3,HR,HX,Hnext,HBy⟩:=hid6 h1 h3 hR hX hnext hBy;clear h1 h3 hR hX hnext hBy;clear hg h32 h34 he he' hu hg1 hin;go_wp2_with (fail);(with_reducible refine(HX.out _).mono ?_);rintro e w2 ⟨rfl,rfl⟩;go_wp2;go_loopw [13] (fun kk wr=> ∃q:Nat,kk=.int .i64 q/\q<=8/\Hid (Below wo.heap.size wo wr)) (fun kk _=>8 - (intOf kk).toNat)
       case atStart=>exact⟨0,rfl,Nat.zero_le _,hb0⟩
       case round=>
        obtain⟨q,rfl,hq,hb⟩:=hrel;clear hb0;by_cases hql:q<8
        . have hnx: ∀(n:Nat),Hid (Below wo.heap.size wo (wr.drewN n)):=fun n=>A4 hb.out n;have l8:decide ((q:Int)<8)=true:=decide_eq_true (by omega);go_wp2;go_quiet (fail);go_wp2;go_roundw
          case rel=>exact⟨q+1,by go_num,by omega,hnx _⟩
          case measure=>simp[intOf];omega
        . obtain rfl:q=8:=by omega
          have hnx: ∀(n:Nat),Hid (Below w.heap.size w (wr.drewN n)):=fun n=>H1.out.trans ((A4 hb.out n).mono H1.out.size);clear hql;go_wp2;go_quiet (fail);go_wp2;exact bodyPost_ret (Am rfl _ _ _) rfl ⟨by rw[HR.out];rfl,hnx _⟩
    |some u=>
     obtain⟨hu1,hu2⟩:=Jj hu;rw[List.length_drop,Ab]at hu2;have he:Ex (s.data.toList.drop j)=E4 u (s.data.toList.drop (j+6)):=by unfold Ex;rw[hu];simp only[List.drop_drop]
     rw[hu]at hX;simp only[Acb]at hX;by_cases hs1:55296<=u/\u<57344
     . obtain⟨s1,s2⟩:=hs1;have l1:decide ((55296:Int)<=(u:Int))=true:=decide_eq_true (by omega);have l2:decide ((u:Int)<57344)=true:=decide_eq_true (by omega);have hX2:=fun W=>Ry s (j+6) W hs (by omega);have ej:((j+6:Nat):Int)=(j:Int)+6:=by omega
       rw[ej]at hX2;clear ej;by_cases hs2:56320<=u
       . have he2:Ex (s.data.toList.drop j)=.bad 3 0:=by rw[he];unfold E4;rw[if_neg (by omega),if_pos hs2]
         rw[he2]at hR;simp only at hR;have l3:decide ((56320:Int)<=(u:Int))=true:=decide_eq_true (by omega);generalize Acb (C4 (s.data.toList.drop (j+6)))=M at hX2;obtain⟨H1,H3,HR,HX,HX2,Hnext,HBy⟩:=hid7 h1 h3 hR hX hX2 hnext hBy;clear h1 h3 hR hX hX2 hnext hBy;clear hg h32 h34 he he2 hu;go_wp2_with (fail);(with_reducible refine(HX.out _).mono ?_);rintro e w2 ⟨rfl,rfl⟩;go_wp2_with (fail);(with_reducible refine(HX2.out _).mono ?_);rintro e w2 ⟨rfl,rfl⟩;go_wp2;exact bodyPost_ret (Am rfl _ _ _) rfl ⟨by rw[HR.out];rfl,H1.out⟩
       have l3:decide ((56320:Int)<=(u:Int))=false:=decide_eq_false (by omega)
       cases hm:C4 (s.data.toList.drop (j+6))with
       |none=>
        have he2:Ex (s.data.toList.drop j)=.bad 3 0:=by rw[he];unfold E4;rw[if_neg (by omega),if_neg hs2,hm]
        rw[he2]at hR;simp only at hR;rw[hm]at hX2;simp only[Acb]at hX2;obtain⟨H1,H3,HR,HX,HX2,Hnext,HBy⟩:=hid7 h1 h3 hR hX hX2 hnext hBy;clear h1 h3 hR hX hX2 hnext hBy;clear hg h32 h34 he he2 hu hm;go_wp2_with (fail);(with_reducible refine(HX.out _).mono ?_);rintro e w2 ⟨rfl,rfl⟩;go_wp2_with (fail);(with_reducible refine(HX2.out _).mono ?_);rintro e w2 ⟨rfl,rfl⟩;go_wp2;exact bodyPost_ret (Am rfl _ _ _) rfl ⟨by rw[HR.out];rfl,H1.out⟩
       |some m=>
        obtain⟨hm1,hm2⟩:=Jj hm;rw[hm]at hX2;simp only[Acb]at hX2;by_cases hs3:m<56320\/57344<=m
        . have he2:Ex (s.data.toList.drop j)=.bad 3 0:=by rw[he];unfold E4;rw[if_neg (by omega),if_neg hs2,hm];simp only;rw[if_pos hs3]
          rw[he2]at hR;simp only at hR;obtain⟨H1,H3,HR,HX,HX2,Hnext,HBy⟩:=hid7 h1 h3 hR hX hX2 hnext hBy;clear h1 h3 hR hX hX2 hnext hBy;clear hg h32 h34 he he2 hu hm;rcases hs3 with hs3|hs3
          . have l4:decide ((m:Int)<56320)=true:=decide_eq_true (by omega);clear hs3;go_wp2_with (fail);(with_reducible refine(HX.out _).mono ?_);rintro e w2 ⟨rfl,rfl⟩;go_wp2_with (fail);(with_reducible refine(HX2.out _).mono ?_);rintro e w2 ⟨rfl,rfl⟩;go_wp2;exact bodyPost_ret (Am rfl _ _ _) rfl ⟨by rw[HR.out];rfl,H1.out⟩
          . have l4:decide ((m:Int)<56320)=false:=decide_eq_false (by omega);have l5:decide ((57344:Int)<=(m:Int))=true:=decide_eq_true (by omega);clear hs3;go_wp2_with (fail);(with_reducible refine(HX.out _).mono ?_);rintro e w2 ⟨rfl,rfl⟩;go_wp2_with (fail);(with_reducible refine(HX2.out _).mono ?_);rintro e w2 ⟨rfl,rfl⟩;go_wp2;exact bodyPost_ret (Am rfl _ _ _) rfl ⟨by rw[HR.out];rfl,H1.out⟩
        . have he2:Ex (s.data.toList.drop j)=.ok (65536+1024*(u - 55296)+(m - 56320)) 12:=by rw[he];unfold E4;rw[if_neg (by omega),if_neg hs2,hm];simp only;rw[if_neg hs3]
          have l4:decide ((m:Int)<56320)=false:=decide_eq_false (by omega);have l5:decide ((57344:Int)<=(m:Int))=false:=decide_eq_false (by omega);have hBy':=fun W=>hBy _ _ W he2;have hnext':=fun W'=>hnext _ _ W' he2;have eq:(((65536+1024*(u - 55296)+(m - 56320):Nat)):Int)=65536+1024*((u:Int) - 55296)+(m:Int) - 56320:=by omega
          rw[eq]at hBy' hnext';have hX4:=Qn (65536+1024*((u:Int) - 55296)+(m:Int) - 56320);generalize Lib.encodeRune (65536+1024*((u:Int) - 55296)+(m:Int) - 56320)=X at hBy' hnext' hX4;have hj12:=(hnext' wo (Below.refl _ _)).2.1;obtain⟨H1,H3,HR,HX,HX2,Hnext,HBy,HBy',Hnext'⟩:=hid9 h1 h3 hR hX hX2 hnext hBy hBy' hnext';clear h1 h3 hR hX hX2 hnext hBy hBy' hnext';clear hg h32 h34 he he2 hu hm hs3 hs2 eq;go_wp2_with (fail);(with_reducible refine(HX.out _).mono ?_);rintro e w2 ⟨rfl,rfl⟩;go_wp2_with (fail);(with_reducible refine(HX2.out _).mono ?_);rintro e w2 ⟨rfl,rfl⟩;go_wp2_with (fail);(with_reducible refine(HBy'.out _).mono ?_);rintro e w2 ⟨rfl,hb2⟩;have HU2:=qz (Hnext'.out w2 hb2).1;clear hb2;go_wp2;go_roundw
          case rel=>exact⟨_,j+12,rfl,by go_num,by omega,HU2⟩
          case measure=>simp[intOf];omega
     . have he2:Ex (s.data.toList.drop j)=.ok u 6:=by rw[he];unfold E4;rw[if_pos (by omega)]
       have hBy':=fun W=>hBy _ _ W he2;have hnext':=fun W'=>hnext _ _ W' he2;have l0:decide ((0:Int)<=(u:Int))=true:=decide_eq_true (by omega);have hX4:=Qn (u:Int);generalize Lib.encodeRune (u:Int)=X at hBy' hnext' hX4;obtain⟨H1,H3,HR,HX,Hnext,HBy,HBy',Hnext'⟩:=hid8 h1 h3 hR hX hnext hBy hBy' hnext';clear h1 h3 hR hX hnext hBy hBy' hnext';clear hg h32 h34 he he2 hu;rcases(by omega:u<55296\/(55296<=u/\57344<=u))with hs3|⟨hs3,hs4⟩
       . have l1:decide ((55296:Int)<=(u:Int))=false:=decide_eq_false (by omega);clear hs1 hs3;go_wp2_with (fail);(with_reducible refine(HX.out _).mono ?_);rintro e w2 ⟨rfl,rfl⟩;go_wp2_with (fail);(with_reducible refine(HBy'.out _).mono ?_);rintro e w2 ⟨rfl,hb2⟩;have HU2:=qz (Hnext'.out w2 hb2).1;clear hb2;go_wp2;go_roundw
         case rel=>exact⟨_,j+6,rfl,by go_num,by omega,HU2⟩
         case measure=>simp[intOf];omega
       . have l1:decide ((55296:Int)<=(u:Int))=true:=decide_eq_true (by omega);have l2:decide ((u:Int)<57344)=false:=decide_eq_false (by omega);clear hs1 hs3 hs4;go_wp2_with (fail);(with_reducible refine(HX.out _).mono ?_);rintro e w2 ⟨rfl,rfl⟩;go_wp2_with (fail);(with_reducible refine(HBy'.out _).mono ?_);rintro e w2 ⟨rfl,hb2⟩;have HU2:=qz (Hnext'.out w2 hb2).1;clear hb2;go_wp2;go_roundw
         case rel=>exact⟨_,j+6,rfl,by go_num,by omega,HU2⟩
         case measure=>simp[intOf];omega
def E7 (b:Nat) (wr:World) (own:Option Nat) (l:List Val) (ns:List Value):Prop:= ∀w'':World,wr.heap.size<=w''.heap.size->
 (∀p:Addr,b<=p.block->p.block<wr.heap.size->own≠some p.block->w''.cell? p=wr.cell? p)->Ik w'' wr.heap.size l ns
theorem E7.step {b:Nat} {wr w4 w6:World} {own own':Option Nat} {t N:Nat} {l:List Val} {ns cs:List Value} {x:Val} (h:E7 b wr own l ns) (hx:N9 wr w4 x cs) (hw:b<=wr.heap.size)
 (ho: ∀g,own=some g->g<wr.heap.size) (ho':own'=own\/own'=some N) (hN:w4.heap.size<=N) (ht:t<b)
 (h4: ∀p:Addr,p.block<wr.heap.size->w4.cell? p=wr.cell? p) (hs4:wr.heap.size<=w4.heap.size)
 (h6: ∀p:Addr,p.block<w4.heap.size->own≠some p.block->p.block≠t->w6.cell? p=w4.cell? p) (hs6:w4.heap.size<=w6.heap.size):E7 b w6 own' (l++ [x]) (ns++cs):=by
 intro w'' hsz hag;have a1:Ik w'' w6.heap.size l ns:=by
  refine Ik.more (by omega) (h w'' (by omega) (fun p p1 p2 p3=> ?_));have e1:own'≠some p.block:=by
   rcases ho' with e|e
   . rw[e];exact p3
   . rw[e];intro e2;have:=Option.some.inj e2;omega
  rw[hag p p1 (by omega) e1,h6 p (by omega) p3 (by omega),h4 p p2]
 have a2:Ac w'' w6.heap.size x cs:=by
  refine Ac.more hs6 _ _ (hx w'' (by omega) (fun p p1 p2=> ?_));have e0:own≠some p.block:=fun e=>by have:=ho _ e;omega
  have e1:own'≠some p.block:=by
   rcases ho' with e|e
   . rw[e];exact e0
   . rw[e];intro e2;have:=Option.some.inj e2;omega
  rw[hag p (by omega) (by omega) e1,h6 p p2 e0 (by omega)]
 exact Ik.snoc a2 a1
def Agw (b:Nat) (wr:World) (l:List Val) (V:Value):Prop:= ∃la lc,V=.slice la l.length lc/\(l= []\/ ∃g,la=some ⟨g,0,none⟩/\g<wr.heap.size/\ ∀w'':World,wr.heap.size<=w''.heap.size->
 (∀p:Addr,b<=p.block->p.block<wr.heap.size->w''.cell? p=wr.cell? p)->Ao w'' wr.heap.size l g 0)
theorem E7.close {b:Nat} {wr:World} {l:List Val} {V:Value} {ns:List Value} (h:E7 b wr V.ownBlock l ns) (ho:wr.ownsRow b 37 6 V l.length ns):Agw b wr l V:=by
 obtain⟨la,lc,rfl,hs⟩:=Oq ho;refine⟨la,lc,rfl, ?_⟩;rcases hs with h0|⟨g,rfl,hbg,hg,hc⟩
 . exact .inl (List.length_eq_zero_iff.1 h0)
 . refine .inr ⟨g,rfl,hg,fun w'' hsz hag=> ?_⟩;exact(h w'' hsz (fun p p1 p2 _=>hag p p1 p2)).holds (fun v cs hv=>hv) (fun j u hu=>by rw[hag _ hbg hg];exact hc j u hu)
def Ee (b:Nat) (wr:World) (own:Option Nat) (l:List (ByteArray×Val)) (ns:List Value):Prop:= ∀w'':World,wr.heap.size<=w''.heap.size->
 (∀p:Addr,b<=p.block->p.block<wr.heap.size->own≠some p.block->w''.cell? p=wr.cell? p)->Ep w'' wr.heap.size l ns
theorem Ee.step {b:Nat} {wr w4 w6:World} {own own':Option Nat} {t N:Nat} {l:List (ByteArray×Val)} {ns cs:List Value} {key:ByteArray} {x:Val} (h:Ee b wr own l ns) (hx:N9 wr w4 x cs) (hw:b<=wr.heap.size)
 (ho: ∀g,own=some g->g<wr.heap.size) (ho':own'=own\/own'=some N) (hN:w4.heap.size<=N) (ht:t<b)
 (h4: ∀p:Addr,p.block<wr.heap.size->w4.cell? p=wr.cell? p) (hs4:wr.heap.size<=w4.heap.size)
 (h6: ∀p:Addr,p.block<w4.heap.size->own≠some p.block->p.block≠t->w6.cell? p=w4.cell? p) (hs6:w4.heap.size<=w6.heap.size):Ee b w6 own' (l++ [(key,x)]) (ns++(.string key::cs)):=by
 intro w'' hsz hag;have a1:Ep w'' w6.heap.size l ns:=by
  refine Ep.more (by omega) (h w'' (by omega) (fun p p1 p2 p3=> ?_));have e1:own'≠some p.block:=by
   rcases ho' with e|e
   . rw[e];exact p3
   . rw[e];intro e2;have:=Option.some.inj e2;omega
  rw[hag p p1 (by omega) e1,h6 p (by omega) p3 (by omega),h4 p p2]
 have a2:Ac w'' w6.heap.size x cs:=by
  refine Ac.more hs6 _ _ (hx w'' (by omega) (fun p p1 p2=> ?_));have e0:own≠some p.block:=fun e=>by have:=ho _ e;omega
  have e1:own'≠some p.block:=by
   rcases ho' with e|e
   . rw[e];exact e0
   . rw[e];intro e2;have:=Option.some.inj e2;omega
  rw[hag p (by omega) (by omega) e1,h6 p p2 e0 (by omega)]
 exact Ep.snoc a2 a1
def Agx (b:Nat) (wr:World) (l:List (ByteArray×Val)) (V:Value):Prop:= ∃la lc,V=.slice la l.length lc/\(l= []\/ ∃g,la=some ⟨g,0,none⟩/\g<wr.heap.size/\ ∀w'':World,wr.heap.size<=w''.heap.size->
 (∀p:Addr,b<=p.block->p.block<wr.heap.size->w''.cell? p=wr.cell? p)->Ak w'' wr.heap.size l g 0)
theorem Ee.close {b:Nat} {wr:World} {l:List (ByteArray×Val)} {V:Value} {ns:List Value} (h:Ee b wr V.ownBlock l ns) (ho:wr.ownsRow b 94 7 V l.length ns):Agx b wr l V:=by
 have ho':=ho;rcases ho.2 with⟨rfl,hz⟩|⟨g,cap,cur,rfl,hbg,hg,_,_,_,_⟩
 . exact⟨none,0,by rw[hz],.inl (List.length_eq_zero_iff.1 hz)⟩
 . refine⟨_,cap,rfl,.inr ⟨g,rfl,(Array.getElem?_eq_some_iff.1 hg).1,fun w'' hsz hag=> ?_⟩⟩;refine(h w'' hsz (fun p p1 p2 _=>hag p p1 p2)).holds (fun j u hu=> ?_);rw[hag _ hbg (Array.getElem?_eq_some_iff.1 hg).1];have:=ho'.cells (g:=g) rfl j u hu
   rwa [Go.WideShapes.add_plain]at this
theorem Pp {w4 w5:World} {ob:Obj} {own:Option Nat} {t i:Nat} {V:Value} (hg:(w4.alloc ob).grownBy w5 own):
 (∀c,c<w4.heap.size->own≠some c->c≠t->(w5.setCell ⟨t,i,none⟩ V).heap[c]? =w4.heap[c]?)/\(∀p:Addr,p.block<w4.heap.size->own≠some p.block->p.block≠t->(w5.setCell ⟨t,i,none⟩ V).cell? p=w4.cell? p)/\
 w4.heap.size<=(w5.setCell ⟨t,i,none⟩ V).heap.size:=by
 have h1: ∀c,c<w4.heap.size->own≠some c->c≠t->(w5.setCell ⟨t,i,none⟩ V).heap[c]? =w4.heap[c]? :=by
  intro c hc ho ht;rw[Dy _ _ _ _ ht,hg.block c (by simp;omega) (fun e=>ho e.symm),Lib.alloc_old w4 _ _ hc]
 refine⟨h1,fun p hp ho ht=>World.cell?_of_block (h1 p.block hp ho ht), ?_⟩;have:=hg.size;simp only[World.size_alloc]at this;have e:(w5.setCell ⟨t,i,none⟩ V).heap.size=w5.heap.size:=by simp[World.setCell]
 omega
theorem Abw (k:Int) (b:Bool) (n:Int) (t:ByteArray) (l:List Val) (o:List (ByteArray×Val)) (la oa:Option Addr) (oc lc:Nat) (w:World) (IH: ∀v ∈ l,Ms v) (IHo: ∀m ∈ o,Ms m.2)
 (ho:o= []\/ ∃g off,oa=some ⟨g,off,none⟩/\g<w.heap.size/\Ak w w.heap.size o g off) (hbo:Ae o<=100000000)
 (hl:l= []\/ ∃g off,la=some ⟨g,off,none⟩/\g<w.heap.size/\Ao w w.heap.size l g off) (hb:Bg l<=100000000):
 Calls Tryz.prog 67 #[.agg #[.int .i64 k,.bool b,.int .i64 n,.string t,.slice la l.length lc,.slice oa o.length oc]] w fun e w'=>(∃cs',e=.returned (.agg (cs':List Value).toArray)/\cs'.length=6/\N9 w w' (.mk k b n t l o) cs')/\Below w.heap.size w w':=by
 have hln:=Dr l;obtain⟨i0,hi,hz0,hz1,hz2⟩:=info_parts Nh;obtain⟨HI,HZ0,HZ1,HZ2,HIH,HIHo,Ho⟩:=hid7 hi hz0 hz1 hz2 IH IHo ho;have hlo:=Ba o;clear hi hz0 hz1 hz2 IH IHo ho;go_enter Tryz.func67,Tryz.ntmps67;go_wp2_with (fail);obtain⟨w0,hw0⟩: ∃w0,((w.alloc (.cells #[.int .i64 k,.bool b,.int .i64 n,.string t,.slice la l.length lc,.slice oa o.length oc] 37)).alloc (.cells #[.int .i64 0,.bool false,.int .i64 0,.string ⟨#[]⟩,.slice none 0 0,.slice none 0 0] 37)).alloc (.cells #[.int .i64 k,.bool b,.int .i64 n,.string t,.slice none 0 0,.slice none 0 0] 37)=w0:=⟨_,rfl⟩;have Hown0:Hid (w0.ownsRow (w.heap.size+3) 37 6 (.slice none 0 0) 0 []):=World.ownsRow_nil _ _ _ _;have Hfr0:Hid (E7 (w.heap.size+3) w0 (Value.slice none 0 0).ownBlock (l.take 0) []):=fun _ _ _=>rfl;have Hbw0:Hid (Below w.heap.size w w0):=by
  show Below _ _ _;rw[<-hw0];exact(((Below.refl _ _).alloc (Nat.le_refl _) _).alloc (by simp) _).alloc (by simp;omega) _
 have Hx10:Hid (w0.heap[w.heap.size]? =some (.cells #[.int .i64 k,.bool b,.int .i64 n,.string t,.slice la l.length lc,.slice oa o.length oc] 37 (0,0))):=by
  show _=_;rw[<-hw0,Lib.alloc_old _ _ _ (by simp;omega),Lib.alloc_old _ _ _ (by simp)];exact heap_alloc_new _ _
 have Hx20:Hid (w0.heap[w.heap.size+1]? =some (.cells #[.int .i64 0,.bool false,.int .i64 0,.string ⟨#[]⟩,.slice none 0 0,.slice none 0 0] 37 (0,0))):=by
  show _=_;rw[<-hw0,Lib.alloc_old _ _ _ (by simp)];have:=heap_alloc_new (w.alloc (.cells #[.int .i64 k,.bool b,.int .i64 n,.string t,.slice la l.length lc,.slice oa o.length oc] 37)) (.cells #[.int .i64 0,.bool false,.int .i64 0,.string ⟨#[]⟩,.slice none 0 0,.slice none 0 0] 37);simpa using this
 have Hx30:Hid (w0.heap[w.heap.size+2]? =some (.cells #[.int .i64 k,.bool b,.int .i64 n,.string t,.slice none 0 0,.slice none 0 0] 37 (0,0))):=by
  show _=_;rw[<-hw0];have:=heap_alloc_new ((w.alloc (.cells #[.int .i64 k,.bool b,.int .i64 n,.string t,.slice la l.length lc,.slice oa o.length oc] 37)).alloc (.cells #[.int .i64 0,.bool false,.int .i64 0,.string ⟨#[]⟩,.slice none 0 0,.slice none 0 0] 37)) (.cells #[.int .i64 k,.bool b,.int .i64 n,.string t,.slice none 0 0,.slice none 0 0] 37);simpa using this
 rw[hw0];clear hw0;go_loopw [4] (fun i wr=> ∃(q:Nat) (v1:Value) (ns:List Value),i=.int .i64 q/\q<=l.length/\Hid (wr.ownsRow (w.heap.size+3) 37 6 v1 q ns)/\Hid (E7 (w.heap.size+3) wr v1.ownBlock (l.take q) ns)/\Hid (Below w.heap.size w wr)/\
  Hid (wr.heap[w.heap.size+1]? =some (.cells #[.int .i64 0,.bool false,.int .i64 0,.string ⟨#[]⟩,.slice none 0 0,.slice none 0 0] 37 (0,0)))/\
  Hid (wr.heap[w.heap.size]? =some (.cells #[.int .i64 k,.bool b,.int .i64 n,.string t,.slice la l.length lc,.slice oa o.length oc] 37 (0,0)))/\
  Hid (wr.heap[w.heap.size+2]? =some (.cells #[.int .i64 k,.bool b,.int .i64 n,.string t,v1,.slice none 0 0] 37 (0,0)))) (fun i _=>l.length - (intOf i).toNat)
 case atStart=>exact⟨0,.slice none 0 0, [],rfl,Nat.zero_le _,Hown0,Hfr0,Hbw0,Hx20,Hx10,Hx30⟩
 case round=>
  obtain⟨q,v1,ns,rfl,hq,hown,hfrow,hbw,hx2,hx1,hx3⟩:=hrel;clear Hown0 Hfr0 Hbw0 Hx20 Hx10 Hx30;have b1:wr.cell? ⟨w.heap.size,4,none⟩=some (.slice la l.length lc):=by rw[Lib.cell_of_heap hx1.out];rfl
  have b3:wr.cell? ⟨w.heap.size+2,4,none⟩=some v1:=by rw[Lib.cell_of_heap hx3.out];rfl
  have f3:wr.frozen? ⟨w.heap.size+2,4,none⟩=false:=Lib.frozen_of_heap hx3.out _;have z3:w.heap.size+2<wr.heap.size:=(Array.getElem?_eq_some_iff.1 hx3.out).1;by_cases hlt:q<l.length
  . obtain⟨g,off,rfl,hg,hL⟩: ∃g off,la=some ⟨g,off,none⟩/\g<w.heap.size/\Ao w w.heap.size l g off:=by
     rcases hl with rfl|h
     . simp at hlt
     . exact h
    obtain⟨x,hx⟩: ∃v,l[q]? =some v:=⟨_,List.getElem?_eq_getElem hlt⟩;have hmem:=List.mem_of_getElem? hx;have IHx:=HIH.out x hmem;have hbv:=Ew hmem;have htk:l.take (q+1)=l.take q++ [x]:=by rw[List.take_add_one,hx];rfl
    obtain⟨k',b',n',t',l',o'⟩:=x;obtain⟨la',lc',oa',oc',hvs,c0,c1,c2,c3,c4,c5⟩:=(hL.below hg hbw.out).six hx;have hz:=hbw.out.size;have HC:=qz (IHx _ wr.drew (Ac.more hz _ _ (hvs.below (Below.drew (Below.refl _ _)))) (by omega));have hown4: ∀w4:World,Below wr.drew.heap.size wr.drew w4->w4.ownsRow (w.heap.size+3) 37 6 v1 q ns:=by
     intro w4 h4;have h5:Below wr.heap.size wr w4:=(Below.drew (Below.refl _ _)).trans h4;refine hown.out.kept (Iq h5) ?_
     cases v1.ownBlock with
     |none=>exact .inl rfl
     |some g=>exact .inr (by simp)
    have Hown4:=qz hown4;have HZ:=qz (show w.heap.size+3<=wr.heap.size by omega);have HX6:Hid (∀(w4:World),Below wr.drew.heap.size wr.drew w4-> ∀(ob:Obj) (w5:World),(w4.alloc ob).grownBy w5 v1.ownBlock->w5.heap[w.heap.size+2]? =some (.cells #[.int .i64 k,.bool b,.int .i64 n,.string t,v1,.slice none 0 0] 37 (0,0))):=by
     intro w4 h4 ob w5 h5;have e4:w4.heap[w.heap.size+2]? =_:=(h4.block (w.heap.size+2) z3).trans hx3.out;have l4:=(Array.getElem?_eq_some_iff.1 e4).1;rw[h5.block _ (by simp;omega) (fun e=>by have:=(hown.out.lt _ e.symm).1;omega),Lib.alloc_old w4 _ _ l4];exact e4
    have HG6:Hid (∀(w4:World),Below wr.drew.heap.size wr.drew w4-> ∀ob:Obj,(w4.alloc ob).cell? ⟨w.heap.size+2,4,none⟩=some v1):=by
     intro w4 h4 ob;have e4:w4.heap[w.heap.size+2]? =_:=(h4.block (w.heap.size+2) z3).trans hx3.out;have l4:=(Array.getElem?_eq_some_iff.1 e4).1;have e5:(w4.alloc ob).heap[w.heap.size+2]? =_:=(Lib.alloc_old w4 ob _ l4).trans e4;rw[Lib.cell_of_heap e5];rfl
    clear hown4 hvs hx hmem IHx hL hg;go_wp2_with (fail)
    go_region_law (first|(refine step_append_lies _ (by rfl) (.tmp 23) (.tmp 30) 34 (by rfl) (w.heap.size+3) 37 i0 (.agg #[.int .i64 0,.bool false,.int .i64 0,.string ⟨#[]⟩,.slice none 0 0,.slice none 0 0]) 6 88 Tryz.underlying34 HI.out HZ0.out HZ1.out HZ2.out rfl (by omega) v1 q ns (by rfl) ((Hown4.out _ Hb4.out).alloc _) ⟨w4.heap.size,0,none⟩ 1 1 [a0,a1,a2,a3,a4,a5] (by rfl) (by rfl) (World.news_of_block (cs:= #[a0,a1,a2,a3,a4,a5]) (t:=37) (fr:=(0,0)) (heap_alloc_new w4 _)) Hone.out (by omega) (by unfold maxLen;omega) (by omega) Hsz.out (w4.heap.size+1) (by simp) ?_;intro gg cap w5 hown5 hgrow5 hat5 hlt5;have hx5:w5.heap[w.heap.size+2]? =some (.cells #[.int .i64 k,.bool b,.int .i64 n,.string t,v1,.slice none 0 0] 37 (0,0)):=HX5.out w5 hgrow5;have g5:w5.cell? ⟨w.heap.size+2,4,none⟩=some v1:=(by rw[Lib.cell_of_heap hx5];rfl);have f5:w5.frozen? ⟨w.heap.size+2,4,none⟩=false:=Lib.frozen_of_heap hx5 _;have Hown5:=qz hown5;have Hgrow5:=qz hgrow5;have Hat5:=qz hat5;have Hx5:=qz hx5;clear hown5 hgrow5 hat5 hx5)|(go_simp;go_at_call 67;refine(HC.out).mono ?_;rintro e w4 ⟨⟨cs4,rfl,hl4,hfr⟩,hb4⟩;obtain⟨a0,a1,a2,a3,a4,a5,rfl⟩:=R8 hl4;have Hfr:=qz hfr;have Hb4:=qz hb4;have g3:w4.cell? ⟨w.heap.size+2,4,none⟩=some v1:=(hb4.cell (p:=⟨w.heap.size+2,4,none⟩) z3).trans b3;have Hone:Hid (∀u ∈ [a0,a1,a2,a3,a4,a5],u.oneCell'=true):=(hfr w4 (Nat.le_refl _) (fun _ _ _=>rfl)).len.2;have Hsz:Hid (w.heap.size+3<=(w4.alloc (.cells #[a0,a1,a2,a3,a4,a5] 37)).heap.size):=(by show _<=_;have h1:=hb4.size;have h2:=HZ.out;have h3:wr.drew.heap.size=wr.heap.size:=rfl;simp;omega);have g4:(w4.alloc (.cells #[a0,a1,a2,a3,a4,a5] 37)).cell? ⟨w.heap.size+2,4,none⟩=some v1:=HG6.out w4 hb4 _;have HX5:Hid (∀w5:World,(w4.alloc (.cells #[a0,a1,a2,a3,a4,a5] 37)).grownBy w5 v1.ownBlock->w5.heap[w.heap.size+2]? =some (.cells #[.int .i64 k,.bool b,.int .i64 n,.string t,v1,.slice none 0 0] 37 (0,0))):=(fun w5 hg5=>HX6.out w4 hb4 _ w5 hg5);clear hfr hb4 hl4))
    all_goals
     have hb4':Below wr.heap.size wr w4:=(Below.drew (Below.refl _ _)).trans Hb4.out;have hlo:=fun gg hh=>(hown.out.lt gg hh);obtain⟨r1,r2,r3⟩:=Pp (t:=w.heap.size+2) (i:=4) (V:=.slice (some ⟨gg,0,none⟩) (q+1) cap) Hgrow5.out;have n2:v1.ownBlock≠some (w.heap.size+2):=fun e=>by have:=(hlo _ e).1;omega
     have n0:v1.ownBlock≠some w.heap.size:=fun e=>by have:=(hlo _ e).1;omega
     have hs4:=hb4'.size;have Hfr':Hid (E7 (w.heap.size+3) (w5.setCell ⟨w.heap.size+2,4,none⟩ (.slice (some ⟨gg,0,none⟩) (q+1) cap)) (some gg) (l.take (q+1)) (ns++ [a0,a1,a2,a3,a4,a5])):=by
      show E7 _ _ _ _ _;rw[htk];refine E7.step (t:=w.heap.size+2) (N:=w4.heap.size+1) hfrow.out Hfr.out HZ.out (fun g hh=>(hlo g hh).2) ?_ (by omega) (by omega) (fun p hp=>hb4'.cell hp) hs4 r2 r3;rcases Hat5.out with e|e
      . exact .inl e.symm
      . exact .inr (by rw[e])
     have Ho':Hid ((w5.setCell ⟨w.heap.size+2,4,none⟩ (.slice (some ⟨gg,0,none⟩) (q+1) cap)).ownsRow (w.heap.size+3) 37 6 (.slice (some ⟨gg,0,none⟩) (q+1) cap) (q+1) (ns++ [a0,a1,a2,a3,a4,a5])):=ownsRow_setCell_below Hown5.out (by simp) _;have Hb':Hid (Below w.heap.size w (w5.setCell ⟨w.heap.size+2,4,none⟩ (.slice (some ⟨gg,0,none⟩) (q+1) cap))):=(((hbw.out.trans (hb4'.mono hz)).alloc (by omega) _).grown Hgrow5.out (by simp;omega) (fun c hc=>by have:=(hlo c hc).1;omega)).setCell (by simp) _;have n1:v1.ownBlock≠some (w.heap.size+1):=fun e=>by have:=(hlo _ e).1;omega
     have Hx2':Hid ((w5.setCell ⟨w.heap.size+2,4,none⟩ (.slice (some ⟨gg,0,none⟩) (q+1) cap)).heap[w.heap.size+1]? =some (.cells #[.int .i64 0,.bool false,.int .i64 0,.string ⟨#[]⟩,.slice none 0 0,.slice none 0 0] 37 (0,0))):=by
      show _=_;rw[r1 _ (by omega) n1 (by omega),hb4'.block _ (by omega)];exact hx2.out
     have Hx1':Hid ((w5.setCell ⟨w.heap.size+2,4,none⟩ (.slice (some ⟨gg,0,none⟩) (q+1) cap)).heap[w.heap.size]? =some (.cells #[.int .i64 k,.bool b,.int .i64 n,.string t,.slice (some ⟨g,off,none⟩) l.length lc,.slice oa o.length oc] 37 (0,0))):=by
      show _=_;rw[r1 _ (by omega) n0 (by omega),hb4'.block _ (by omega)];exact hx1.out
     have Hx3':Hid ((w5.setCell ⟨w.heap.size+2,4,none⟩ (.slice (some ⟨gg,0,none⟩) (q+1) cap)).heap[w.heap.size+2]? =some (.cells #[.int .i64 k,.bool b,.int .i64 n,.string t,.slice (some ⟨gg,0,none⟩) (q+1) cap,.slice none 0 0] 37 (0,0))):=by
      show _=_;rw[Cc Hx5.out];rfl
     clear hb4' hlo r1 r2 r3 n2 n1 n0 hs4 hx2 Hgrow5 Hown5 Hat5 Hx5 Hfr hown hfrow hbw hx1 hx3 g5 f5 HX5 HX6 HG6 Hown4 g3 g4 b1 b3 f3 c0 c1 c2 c3 c4 c5;go_wp2;go_roundw
     case rel=>exact⟨q+1,_,_,by go_num,by omega,Ho',Hfr',Hb',Hx2',Hx1',Hx3'⟩
     case measure=>simp only[intOf];omega
  . obtain rfl:q=l.length:=by omega
    have hfl:=hfrow.out;rw[List.take_length]at hfl;have HL:=qz (hfl.close hown.out);clear hfl hown hfrow;obtain⟨wa,rfl⟩: ∃wa:World,wa=wr:=⟨_,rfl⟩;obtain⟨j0,hj,hy0,hy1,hy2⟩:=info_parts Rm;obtain⟨HJ,HY0,HY1,HY2⟩:=hid4 hj hy0 hy1 hy2;have Hown0:Hid (wa.ownsRow wa.heap.size 94 7 (.slice none 0 0) 0 []):=World.ownsRow_nil _ _ _ _;have Hfr0:Hid (Ee wa.heap.size wa (Value.slice none 0 0).ownBlock (o.take 0) []):=fun _ _ _=>rfl;have hsA:w.heap.size+3<=wa.heap.size:=by omega
    clear hj hy0 hy1 hy2 b3 f3 hl;go_wp2_with (fail);clear b1;go_loopw [5] (fun i wr=> ∃(q:Nat) (v2:Value) (ns:List Value),i=.int .i64 q/\q<=o.length/\Hid (wr.ownsRow wa.heap.size 94 7 v2 q ns)/\Hid (Ee wa.heap.size wr v2.ownBlock (o.take q) ns)/\Hid (Below w.heap.size w wr)/\
     Hid (∀c,c<wa.heap.size->c≠w.heap.size+2->wr.heap[c]? =wa.heap[c]?)/\wa.heap.size<=wr.heap.size/\
     Hid (wr.heap[w.heap.size+2]? =some (.cells #[.int .i64 k,.bool b,.int .i64 n,.string t,v1,v2] 37 (0,0)))) (fun i _=>o.length - (intOf i).toNat)
    case atStart=>exact⟨0,.slice none 0 0, [],rfl,Nat.zero_le _,Hown0,Hfr0,hbw,qz (fun _ _ _=>rfl),Nat.le_refl _,hx3⟩
    case round=>
     obtain⟨q,v2,ns2,rfl,hq2,hown,hfrow,hbw2,hkp,hsx,hx3'⟩:=hrel;clear Hown0 Hfr0;have hx1':Hid (wr.heap[w.heap.size]? =some (.cells #[.int .i64 k,.bool b,.int .i64 n,.string t,.slice la l.length lc,.slice oa o.length oc] 37 (0,0))):=by
      show _=_;rw[hkp.out _ (by omega) (by omega)];exact hx1.out
     have b1:wr.cell? ⟨w.heap.size,5,none⟩=some (.slice oa o.length oc):=by rw[Lib.cell_of_heap hx1'.out];rfl
     have b3:wr.cell? ⟨w.heap.size+2,5,none⟩=some v2:=by rw[Lib.cell_of_heap hx3'.out];rfl
     have z3:w.heap.size+2<wr.heap.size:=by omega
     by_cases hlt2:q<o.length
     . obtain⟨g,off,rfl,hg,hL⟩: ∃g off,oa=some ⟨g,off,none⟩/\g<w.heap.size/\Ak w w.heap.size o g off:=by
        rcases Ho.out with h0|h
        . rw[h0]at hlt2;simp at hlt2
        . exact h
       obtain⟨⟨key,x⟩,hx⟩: ∃v,o[q]? =some v:=⟨_,List.getElem?_eq_getElem hlt2⟩;have hmem:=List.mem_of_getElem? hx;have IHx:=HIHo.out _ hmem;have hbv:=Ck hmem;simp only at IHx hbv;have htk:o.take (q+1)=o.take q++ [(key,x)]:=by rw[List.take_add_one,hx];rfl
       obtain⟨k',b',n',t',l',o'⟩:=x;obtain⟨la',lc',oa',oc',hvs,c0,c1,c2,c3,c4,c5,c6⟩:=(hL.below hg hbw2.out).seven hx;have hz:=hbw2.out.size;have HC:=qz (IHx _ wr.drew (Ac.more hz _ _ (hvs.below (Below.drew (Below.refl _ _)))) (show(Val.mk k' b' n' t' l' o').bulk<=100000000 from by omega));have Hown4:Hid (∀w4:World,Below wr.drew.heap.size wr.drew w4->w4.ownsRow wa.heap.size 94 7 v2 q ns2):=by
        intro w4 h4;have h5:Below wr.heap.size wr w4:=(Below.drew (Below.refl _ _)).trans h4;refine hown.out.kept (Iq h5) ?_
        cases v2.ownBlock with
        |none=>exact .inl rfl
        |some g=>exact .inr (by simp)
       have HX6:Hid (∀(w4:World),Below wr.drew.heap.size wr.drew w4-> ∀(ob:Obj) (w5:World),(w4.alloc ob).grownBy w5 v2.ownBlock->w5.heap[w.heap.size+2]? =some (.cells #[.int .i64 k,.bool b,.int .i64 n,.string t,v1,v2] 37 (0,0))):=by
        intro w4 h4 ob w5 h5;have e4:w4.heap[w.heap.size+2]? =_:=(h4.block (w.heap.size+2) z3).trans hx3'.out;have l4:=(Array.getElem?_eq_some_iff.1 e4).1;rw[h5.block _ (by simp;omega) (fun e=>by have:=(hown.out.lt _ e.symm).1;omega),Lib.alloc_old w4 _ _ l4];exact e4
       have HG6:Hid (∀(w4:World),Below wr.drew.heap.size wr.drew w4-> ∀ob:Obj,(w4.alloc ob).cell? ⟨w.heap.size+2,5,none⟩=some v2):=by
        intro w4 h4 ob;have e4:w4.heap[w.heap.size+2]? =_:=(h4.block (w.heap.size+2) z3).trans hx3'.out;have l4:=(Array.getElem?_eq_some_iff.1 e4).1;have e5:(w4.alloc ob).heap[w.heap.size+2]? =_:=(Lib.alloc_old w4 ob _ l4).trans e4;rw[Lib.cell_of_heap e5];rfl
       have hgx:g<wr.heap.size:=by omega
       have hwx:w.heap.size<wr.heap.size:=by omega
       clear hvs hx hmem IHx hL;go_wp2_with (fail)
       go_region_law (first|(refine step_append_lies _ (by rfl) (.tmp 41) (.tmp 56) 35 (by rfl) wa.heap.size 94 j0 (.agg #[.string ⟨#[]⟩,.int .i64 0,.bool false,.int .i64 0,.string ⟨#[]⟩,.slice none 0 0,.slice none 0 0]) 7 104 Tryz.underlying35 HJ.out HY0.out HY1.out HY2.out rfl (by omega) v2 q ns2 (by rfl) ((Hown4.out _ Hb4.out).alloc _) ⟨w4.heap.size,0,none⟩ 1 1 [.string key,a0,a1,a2,a3,a4,a5] (by rfl) (by rfl) (World.news_of_block (cs:= #[.string key,a0,a1,a2,a3,a4,a5]) (t:=94) (fr:=(0,0)) (heap_alloc_new w4 _)) Hone.out (by omega) (by unfold maxLen;omega) (by omega) Hsz.out (w4.heap.size+1) (by simp) ?_;intro gg cap w5 hown5 hgrow5 hat5 hlt5;have hx5:w5.heap[w.heap.size+2]? =some (.cells #[.int .i64 k,.bool b,.int .i64 n,.string t,v1,v2] 37 (0,0)):=HX5.out w5 hgrow5;have g5:w5.cell? ⟨w.heap.size+2,5,none⟩=some v2:=(by rw[Lib.cell_of_heap hx5];rfl);have f5:w5.frozen? ⟨w.heap.size+2,5,none⟩=false:=Lib.frozen_of_heap hx5 _;have Hown5:=qz hown5;have Hgrow5:=qz hgrow5;have Hat5:=qz hat5;have Hx5:=qz hx5;clear hown5 hgrow5 hat5 hx5)|(go_simp;go_at_call 67;refine(HC.out).mono ?_;rintro e w4 ⟨⟨cs4,rfl,hl4,hfr⟩,hb4⟩;obtain⟨a0,a1,a2,a3,a4,a5,rfl⟩:=R8 hl4;have Hfr:=qz hfr;have Hb4:=qz hb4;have g3:w4.cell? ⟨w.heap.size+2,5,none⟩=some v2:=(hb4.cell (p:=⟨w.heap.size+2,5,none⟩) z3).trans b3;have g1:w4.cell? ⟨w.heap.size,5,none⟩=some (.slice (some ⟨g,off,none⟩) o.length oc):=(hb4.cell (p:=⟨w.heap.size,5,none⟩) hwx).trans b1;have g0:w4.cell? ⟨g,off+q*7,none⟩=some (.string key):=(hb4.cell (p:=⟨g,off+q*7,none⟩) hgx).trans c0;have Hone:Hid (∀u ∈ [.string key,a0,a1,a2,a3,a4,a5],u.oneCell'=true):=(Abk key (hfr w4 (Nat.le_refl _) (fun _ _ _=>rfl)).len.2);have Hsz:Hid (wa.heap.size<=(w4.alloc (.cells #[.string key,a0,a1,a2,a3,a4,a5] 94)).heap.size):=(by show _<=_;have h1:=hb4.size;have h3:wr.drew.heap.size=wr.heap.size:=rfl;simp;omega);have g4:(w4.alloc (.cells #[.string key,a0,a1,a2,a3,a4,a5] 94)).cell? ⟨w.heap.size+2,5,none⟩=some v2:=HG6.out w4 hb4 _;have HX5:Hid (∀w5:World,(w4.alloc (.cells #[.string key,a0,a1,a2,a3,a4,a5] 94)).grownBy w5 v2.ownBlock->w5.heap[w.heap.size+2]? =some (.cells #[.int .i64 k,.bool b,.int .i64 n,.string t,v1,v2] 37 (0,0))):=(fun w5 hg5=>HX6.out w4 hb4 _ w5 hg5);clear hfr hb4 hl4))
       all_goals
        have hb4':Below wr.heap.size wr w4:=(Below.drew (Below.refl _ _)).trans Hb4.out;have hlw:=fun gg hh=>(hown.out.lt gg hh);obtain⟨r1,r2,r3⟩:=Pp (t:=w.heap.size+2) (i:=5) (V:=.slice (some ⟨gg,0,none⟩) (q+1) cap) Hgrow5.out;have hs4:=hb4'.size;have Hfr':Hid (Ee wa.heap.size (w5.setCell ⟨w.heap.size+2,5,none⟩ (.slice (some ⟨gg,0,none⟩) (q+1) cap)) (some gg) (o.take (q+1)) (ns2++ [.string key,a0,a1,a2,a3,a4,a5])):=by
         show Ee _ _ _ _ _;rw[htk];refine Ee.step (t:=w.heap.size+2) (N:=w4.heap.size+1) hfrow.out Hfr.out hsx (fun g hh=>(hlw g hh).2) ?_ (by omega) (by omega) (fun p hp=>hb4'.cell hp) hs4 r2 r3;rcases Hat5.out with e|e
         . exact .inl e.symm
         . exact .inr (by rw[e])
        have Ho':Hid ((w5.setCell ⟨w.heap.size+2,5,none⟩ (.slice (some ⟨gg,0,none⟩) (q+1) cap)).ownsRow wa.heap.size 94 7 (.slice (some ⟨gg,0,none⟩) (q+1) cap) (q+1) (ns2++ [.string key,a0,a1,a2,a3,a4,a5])):=ownsRow_setCell_below Hown5.out (by simp;omega) _;have Hb':Hid (Below w.heap.size w (w5.setCell ⟨w.heap.size+2,5,none⟩ (.slice (some ⟨gg,0,none⟩) (q+1) cap))):=(((hbw2.out.trans (hb4'.mono hz)).alloc (by omega) _).grown Hgrow5.out (by simp;omega) (fun c hc=>by have:=(hlw c hc).1;omega)).setCell (by simp) _;have Hk':Hid (∀c,c<wa.heap.size->c≠w.heap.size+2->(w5.setCell ⟨w.heap.size+2,5,none⟩ (.slice (some ⟨gg,0,none⟩) (q+1) cap)).heap[c]? =wa.heap[c]?):=by
         intro c hc hc2;rw[r1 c (by omega) (fun e=>by have:=(hlw _ e).1;omega) hc2,hb4'.block c (by omega)];exact hkp.out c hc hc2
        have Hs':wa.heap.size<=(w5.setCell ⟨w.heap.size+2,5,none⟩ (.slice (some ⟨gg,0,none⟩) (q+1) cap)).heap.size:=by omega
        have Hx3':Hid ((w5.setCell ⟨w.heap.size+2,5,none⟩ (.slice (some ⟨gg,0,none⟩) (q+1) cap)).heap[w.heap.size+2]? =some (.cells #[.int .i64 k,.bool b,.int .i64 n,.string t,v1,.slice (some ⟨gg,0,none⟩) (q+1) cap] 37 (0,0))):=by
         show _=_;rw[Cc Hx5.out];rfl
        clear hb4' hlw r1 r2 r3 hs4 Hgrow5 Hown5 Hat5 Hx5 Hfr hown hfrow hbw2 hx1' hx3' g5 f5 HX5 HX6 HG6 Hown4 g3 g4 g1 g0 b1 b3 c0 c1 c2 c3 c4 c5 c6 hkp;go_wp2;go_roundw
        case rel=>exact⟨q+1,_,_,by go_num,by omega,Ho',Hfr',Hb',Hk',Hs',Hx3'⟩
        case measure=>simp only[intOf];omega
     . obtain rfl:q=o.length:=by omega
       have hfl:=hfrow.out;rw[List.take_length]at hfl;have HO:=qz (hfl.close hown.out);have hx2':wr.heap[w.heap.size+1]? =some (.cells #[.int .i64 0,.bool false,.int .i64 0,.string ⟨#[]⟩,.slice none 0 0,.slice none 0 0] 37 (0,0)):=(hkp.out _ (by omega) (by omega)).trans hx2.out;have Hx2:=qz hx2';obtain⟨d0,d1,d2,d3,d4,d5⟩:=Fh hx3'.out;obtain⟨e0,e1,e2,e3,e4,e5⟩:=Fh hx2';have hfz:=Lib.frozen_of_heap hx2';clear hfl hown hfrow hx2';obtain⟨la1,lc1,rfl,hLf⟩:=HL.out;obtain⟨oa1,oc1,rfl,hOf⟩:=HO.out;obtain⟨HLf,HOf⟩:=hid2 hLf hOf;clear HL HO hLf hOf b3;go_wp2;obtain⟨W,hW⟩: ∃W,((((((wr.setCell ⟨w.heap.size+1,0,none⟩ (.int .i64 k)).setCell ⟨w.heap.size+1,1,none⟩ (.bool b)).setCell ⟨w.heap.size+1,2,none⟩ (.int .i64 n)).setCell ⟨w.heap.size+1,3,none⟩ (.string t)).setCell ⟨w.heap.size+1,4,none⟩ (.slice la1 l.length lc1)).setCell ⟨w.heap.size+1,5,none⟩ (.slice oa1 o.length oc1))=W:=⟨_,rfl⟩;have hWh: ∀c,c≠w.heap.size+1->W.heap[c]? =wr.heap[c]? :=by
        intro c hc;rw[<-hW];simp only[Dy _ _ _ _ hc]
       have hWs:W.heap.size=wr.heap.size:=by rw[<-hW];simp[World.setCell]
       have hWb:Below w.heap.size w W:=by
        rw[<-hW];exact(((((hbw2.out.setCell (by simp) _).setCell (by simp) _).setCell (by simp) _).setCell (by simp) _).setCell (by simp) _).setCell (by simp) _
       have hFr:N9 w W (.mk k b n t l o) [.int .i64 k,.bool b,.int .i64 n,.string t,.slice la1 l.length lc1,.slice oa1 o.length oc1]:=by
        intro w'' hsz hag;simp only[Ac];refine⟨la1,lc1,oa1,oc1,rfl, ?_, ?_⟩
        . rcases HLf.out with h0|⟨g,rfl,hg,hf⟩
          . exact .inl h0
          . refine .inr ⟨g,0,rfl,by omega,Ao.of_more l (fun v _ cs h=>Ac.more (by omega) _ _ h) g 0 (hf w'' (by omega) (fun p p1 p2=> ?_))⟩;rw[hag p (by omega) (by omega)];exact World.cell?_of_block ((hWh p.block (by omega)).trans (hkp.out p.block p2 (by omega)))
        . rcases HOf.out with h0|⟨g,rfl,hg,hf⟩
          . exact .inl h0
          . refine .inr ⟨g,0,rfl,by omega,Ak.of_more o (fun m _ cs h=>Ac.more (by omega) _ _ h) g 0 (hf w'' (by omega) (fun p p1 p2=> ?_))⟩;rw[hag p (by omega) (by omega)];exact World.cell?_of_block (hWh p.block (by omega))
       have hWr:W.heap[w.heap.size+1]? =some (.cells #[.int .i64 k,.bool b,.int .i64 n,.string t,.slice la1 l.length lc1,.slice oa1 o.length oc1] 37 (0,0)):=by
        rw[<-hW];exact Cc (Cc (Cc (Cc (Cc (Cc Hx2.out _) _) _) _) _) _
       obtain⟨y0,y1,y2,y3,y4,y5⟩:=Fh hWr;rw[hW];exact bodyPost_ret (v:=.agg #[.int .i64 k,.bool b,.int .i64 n,.string t,.slice la1 l.length lc1,.slice oa1 o.length oc1]) (by simp[results,Tryz.results67,go_sem,y0,y1,y2,y3,y4,y5]) rfl ⟨⟨[.int .i64 k,.bool b,.int .i64 n,.string t,.slice la1 l.length lc1,.slice oa1 o.length oc1],rfl,rfl,hFr⟩,hWb⟩
theorem Q6: ∀v,Ms v:=by
 refine Val.ind ?_;intro k b n t l o hl ho cs w hV hb;simp only[Ac]at hV;obtain⟨la,lc,oa,oc,rfl,hla,hoa⟩:=hV;simp only[Val.bulk]at hb;exact Abw k b n t l o la oa oc lc w hl ho hoa (by omega) hla (by omega)
end Go.Proofs.YtkmcjfkokoidcaaGreatDoor
