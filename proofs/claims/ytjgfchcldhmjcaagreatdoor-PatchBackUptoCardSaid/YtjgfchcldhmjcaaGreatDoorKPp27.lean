/- Parts: commonplaceref01.Unquote: the text that is quoted from a place on. Condition: a text of at most 10^9 bytes. -/
import Derived.Test.YtjgfchcldhmjcaaGreatDoorKPp23
import Derived.Test.YtjgfchcldhmjcaaGreatDoorKPp24
set_option maxHeartbeats 20000000
set_option maxRecDepth 100000
namespace Go.Proofs.YtjgfchcldhmjcaaGreatDoor
open Go Go.RowKit
theorem Vc (s:ByteArray) (k:Nat) (w:World) (hs:s.size<=1000000000) (hk:k<s.size):
 Calls Tryz.prog 141 #[.string s,.int .i64 k] w (Gv w ((Cl s.data.toList k).map Oa)):=by
 obtain⟨F,hF⟩: ∃F,(if s.data.toList[k]? =some 45 then k+1 else k)=F:=⟨_,rfl⟩;obtain⟨aj,o⟩: ∃r,(Cl s.data.toList k).map Oa=r:=⟨_,rfl⟩;rw[o];unfold Cl at o;rw[hF]at o;have al:k<=F/\F<=k+1:=by rw[<-hF];split<;>omega
 have ab:=RBx.start w;have S: ∀W,Calls Tryz.prog 207 #[.string s,.int .i64 k,.int .u8 45] W fun e w'=>e=.returned (.bool (decide (s.data.toList[k]? =some 45)))/\W=w':=fun W=>Gq (s:=s) (k:=k) (c:=45) (B:=decide (s.data.toList[k]? =some 45)) rfl W hs (by omega);obtain⟨M,hM⟩: ∃M,decide (s.data.toList[k]? =some 45)=M:=⟨_,rfl⟩;rw[hM]at S;have Q:=qz (show F=if M=true then k+1 else k from by rw[<-hF,<-hM];simp);obtain⟨y,O,HF,aa,HM⟩:=hid5 ab o hF S hM;clear ab o hF S hM;go_enter Tryz.func141,Tryz.ntmps141;go_wp2_with (fail);generalize w.alloc (.cells Al 42)=wb at y ⊢;(with_reducible refine(aa.out _).mono ?_);rintro e w1 ⟨rfl,rfl⟩;go_upto_if 16 with(fail);go_cut [7] (fun x wx=>x=.int .i64 (F:Nat)/\wx=wb)
 case first=>
  cases M with
  |true=>
   have eF:(k:Int)+1=(F:Int):=by have:=Q.out;rw[if_pos rfl]at this;omega
   go_wp2;go_meet;exact⟨by rw[<-eF],rfl⟩
  |false=>
   have eF:k=F:=by have:=Q.out;rw[if_neg (by decide)]at this;omega
   go_wp2;go_meet;exact⟨by rw[eF],rfl⟩
 obtain⟨rfl,rfl⟩:=hcut;clear aa;have ah:=Pz s.data.toList F;have ac:=P0 (s:=s.data.toList) (p:=F) (by rw[Ac];omega);rw[Ac]at ac;obtain⟨E,hE⟩: ∃E,B6 s.data.toList F=E:=⟨_,rfl⟩;rw[hE]at ah ac;have HE:=qz hE;clear hE
 go_upto_block 0 with(fail)
 go_cut [8] (fun x wx=>x=.int .i64 (E:Nat)/\wx=wc)
 case first=>
  go_wp2_with (fail)
  go_loop [8] (fun i=> ∃j:Nat,F<=j/\j<=s.size/\i=.int .i64 (j:Nat)/\Hid (B6 s.data.toList j=E)) (fun i=>s.size - (intOf i).toNat)
  case atStart=>exact⟨F,Nat.le_refl _,by omega,rfl,HE⟩
  case round=>
   obtain⟨j,ae,hj,rfl,I⟩:=hrel;have j0:(0:Int)<=(j:Int):=by omega
   by_cases U:j<s.size
   . obtain⟨x,Y⟩: ∃x,s[j]=x:=⟨_,rfl⟩;have g:s.data.toList[j]? =some x:=by rw[Bc s U,Y]
     have X:=Bl x;have j1:decide ((j:Int)<(s.size:Int))=true:=decide_eq_true (by omega);have j2:(j:Int)<(s.size:Int):=by omega
     by_cases z:Ck x=true
     . have N:Hid (B6 s.data.toList (j+1)=E):=by rw[<-Qv g z];exact I
       unfold Ck at z;rw[decide_eq_true_iff]at z;have l1:decide ((48:Int)<=(x.toNat:Int))=true:=decide_eq_true (by omega);have l2:decide ((x.toNat:Int)<=57)=true:=decide_eq_true (by omega);clear g I z;go_wp2
       go_round
       case rel=>exact⟨j+1,by omega,by omega,by go_num,N⟩
       case measure=>simp[intOf];omega
     . have N:Hid (j=E):=by rw[<-I.out,Qw g (by simpa using z)];exact rfl
       unfold Ck at z;rw[decide_eq_true_iff]at z;clear g I;by_cases ak:48<=x.toNat
       . have l1:decide ((48:Int)<=(x.toNat:Int))=true:=decide_eq_true (by omega);have l2:decide ((x.toNat:Int)<=57)=false:=decide_eq_false (by omega);go_wp2;go_meet;exact⟨by rw[N.out],rfl⟩
       . have l1:decide ((48:Int)<=(x.toNat:Int))=false:=decide_eq_false (by omega);go_wp2;go_meet;exact⟨by rw[N.out],rfl⟩
   . have N:Hid (j=E):=by rw[<-I.out,S5 (by rw[Ac];omega)];exact rfl
     have j1:decide ((j:Int)<(s.size:Int))=false:=decide_eq_false (by omega);clear I;go_wp2;go_meet;exact⟨by rw[N.out],rfl⟩
 obtain⟨rfl,rfl⟩:=hcut;obtain⟨r0,r1,r2,r3,r4,r5⟩:=At y.out.blk;have fz:=y.out.blk.frozen;have am:=y.out.blk.lt;have L:=y.out.many (.int .i64 0) (.bool false) (.int .i64 0) (.string ⟨#[]⟩) (.slice none 0 0) (.slice none 0 0);have a:=O.out;unfold Lg at a;rw[HE.out,HM.out]at a;by_cases R:E=F
 . rw[if_pos R]at a;subst a;subst R;have e1:((E:Int)==(E:Int))=true:=by simp
   have l:=qz L;clear L;go_wp2;exact bodyPost_ret (Ae rfl rfl l.out.blk) rfl ⟨l.out.below,rfl⟩
 rw[if_neg R]at a;have e1:((E:Int)==(F:Int))=false:=by rw[beq_eq_false_iff_ne];omega
 have ag:F<s.size:=by omega
 have F0:(0:Int)<=(F:Int):=by omega
 have F1:(F:Int)<(s.size:Int):=by omega
 obtain⟨x,Y⟩: ∃x,s[F]=x:=⟨_,rfl⟩;have g:s.data.toList[F]? =some x:=by rw[Bc s ag,Y]
 have X:=Bl x;rw[g]at a;have K:((x.toNat:Int)==48)=decide (x=48):=by rw[show(48:Int)=((48:Nat):Int)from rfl,Ie (by decide)];rfl
 obtain⟨Z,hZ⟩: ∃Z,decide (x=48/\F+1<E)=Z:=⟨_,rfl⟩;obtain⟨HZ,l,h,af⟩:=hid4 hZ L a g;clear L a g;go_upto_region 9 with(fail);go_cut [52] (fun b wx=>b=.bool Z/\wx=wc)
 case first=>
  have H:=HZ.out;clear hZ;by_cases v:x=48
  . have G:decide (x=48)=true:=decide_eq_true v;rw[G]at K;by_cases hm:F+1<E
    . have e2:decide ((F:Int)+1<(E:Int))=true:=decide_eq_true (by omega);have e3:(F:Int)+1<(E:Int):=by omega
      rw[decide_eq_true ⟨v,hm⟩]at H;subst H;clear v G;go_wp2;go_meet;exact⟨by simp,rfl⟩
    . have e2:decide ((F:Int)+1<(E:Int))=false:=decide_eq_false (by omega);have e3: ¬((F:Int)+1<(E:Int)):=by omega
      rw[decide_eq_false (fun q=>hm q.2)]at H;subst H;clear v G;go_wp2;go_meet;exact⟨by simp,rfl⟩
  . have G:decide (x=48)=false:=decide_eq_false v;rw[G]at K;rw[decide_eq_false (fun q=>v q.1)]at H;subst H;clear v G;go_wp2;go_meet;exact⟨by simp,rfl⟩
 obtain⟨rfl,rfl⟩:=hcut;clear K X Y
 cases Z with
 |true=>
  have v:=HZ.out;have a:=h.out;rw[decide_eq_true_iff]at v;rw[if_pos ⟨by rw[v.1],v.2⟩]at a;subst a;clear v hZ;go_wp2;exact bodyPost_ret (Ae rfl rfl l.out.blk) rfl ⟨l.out.below,rfl⟩
 |false=>
  have v:=HZ.out;have a:=h.out;rw[decide_eq_false_iff_not]at v;rw[if_neg (fun q=>v ⟨by simpa using q.1,q.2⟩)]at a;clear v hZ HZ h af;have h:=qz a;clear a;go_wp2
  go_loop [10,11] (fun n i=> ∃j D:Nat,F<=j/\j<=E/\i=.int .i64 (j:Nat)/\n=.int .i64 (-(D:Int))/\D<=9223372036854775808/\Hid (D=Rv s.data.toList F (j - F))) (fun _ i=>E - (intOf i).toNat)
  case atStart=>exact⟨F,0,Nat.le_refl _,by omega,rfl,rfl,by omega,by rw[Nat.sub_self,Afm];exact rfl⟩
  case round=>
   obtain⟨j,D,ae,hj,rfl,rfl,hD,I⟩:=hrel;have j0:(0:Int)<=(j:Int):=by omega
   by_cases U:j<E
   . have ai:j<s.size:=by omega
     obtain⟨x,Y⟩: ∃x,s[j]=x:=⟨_,rfl⟩;have g:s.data.toList[j]? =some x:=by rw[Bc s ai,Y]
     have X:=Bl x;have C:=N1 s.data.toList F j x ae (by rw[HE.out];exact U) g;unfold Ck at C;rw[decide_eq_true_iff]at C;have j1:decide ((j:Int)<(E:Int))=true:=decide_eq_true (by omega);have j2:(j:Int)<(s.size:Int):=by omega
     obtain⟨d,hd⟩: ∃d,x.toNat - 48=d:=⟨_,rfl⟩;have ad:d<=9:=by omega
     have c1:IntKind.i64.wrap ((x.toNat:Int) - 48)=(d:Int):=by rw[IntWalk.i64_in _ (by omega)];omega
     have c2:IntKind.i64.wrap (-9223372036854775808+(d:Int))= -9223372036854775808+(d:Int):=IntWalk.i64_in _ (by omega);by_cases V:9223372036854775808<D*10+d
     . have t:=(Aa8 (D:=D) ad).2 V;have u:=h.out;have T:=Afl (s:=s.data.toList) (f:=F) (k:=j - F+1) (m:=E - F) (by omega);rw[Vv (c:=x) (by rw[show F+(j - F)=j by omega];exact g),<-I.out,hd]at T;have P:Ec M (Ff ((s.data.toList.drop F).take (E - F))) k E=.bad 7 k:=by
        unfold Rv at T;unfold Ec
        split
        . rw[if_pos (.inr (by omega))]
        . rw[if_pos (by omega)]
       rw[P]at u;subst u;clear h P T I g C hd V O;go_wp2;exact bodyPost_ret (Ae rfl rfl l.out.blk) rfl ⟨l.out.below,rfl⟩
     . have t:Int.tdiv (-9223372036854775808+(d:Int)) 10<= -(D:Int):=Int.not_lt.1 fun q=>V ((Aa8 ad).1 q);have c4:wrap64 (10* -(D:Int))=10* -(D:Int):=by unfold wrap64;omega
       have c5:wrap64 (10* -(D:Int) - (d:Int))= -((D*10+d:Nat):Int):=by unfold wrap64;omega
       have N:Hid (D*10+d=Rv s.data.toList F (j+1 - F)):=by
        show _=_;rw[show j+1 - F=j - F+1 by omega,Vv (c:=x) (by rw[show F+(j - F)=j by omega];exact g),<-I.out,hd]
       clear I g C hd;go_wp2
       go_round
       case rel=>exact⟨j+1,D*10+d,by omega,by omega,by go_num,by rw[show(10* -(D:Int) - (d:Int))= -((D*10+d:Nat):Int)by omega],by omega,N⟩
       case measure=>simp[intOf];omega
   . obtain rfl:j=E:=by omega
     have j1:decide ((j:Int)<(j:Int))=false:=decide_eq_false (by omega);have u:=h.out;rw[show Ff ((s.data.toList.drop F).take (j - F))=D from by have:=I.out;unfold Rv at this;exact this.symm]at u;have A:=Q.out;clear h I
     cases M with
     |true=>
      rw[if_pos rfl]at A;have e2:((F:Int)==(k:Int))=false:=by rw[beq_eq_false_iff_ne];omega
      unfold Ec at u;rw[if_pos rfl]at u;by_cases h0:D=0
      . subst h0;rw[if_pos (.inl rfl)]at u;subst u;clear A;go_wp2;exact bodyPost_ret (Ae rfl rfl l.out.blk) rfl ⟨l.out.below,rfl⟩
      . rw[if_neg (by omega)]at u;subst u;have e3:(-(D:Int)==0)=false:=by rw[beq_eq_false_iff_ne];omega
        have J:=qz (y.out.many (.int .i64 3) (.bool false) (.int .i64 (-(D:Int))) (.string ⟨#[]⟩) (.slice none 0 0) (.slice none 0 0));clear A;go_wp2;exact bodyPost_ret (Ae rfl rfl J.out.blk) rfl ⟨J.out.below,⟨_,rfl,Bz 3 false _ _⟩⟩
     |false=>
      rw[if_neg (by decide)]at A;have e2:((F:Int)==(k:Int))=true:=by rw[A];simp
      unfold Ec at u;rw[if_neg (by decide)]at u;by_cases h0:D=9223372036854775808
      . subst h0;rw[if_pos (by omega)]at u;subst u;clear A;go_wp2;exact bodyPost_ret (Ae rfl rfl l.out.blk) rfl ⟨l.out.below,rfl⟩
      . rw[if_neg (by omega)]at u;subst u;have e3:(-(D:Int)== -9223372036854775808)=false:=by rw[beq_eq_false_iff_ne];omega
        have c6:IntKind.i64.wrap (- -(D:Int))=(D:Int):=by rw[IntWalk.i64_in _ (by omega)];omega
        have c7:wrap64 (- -(D:Int))=(D:Int):=by unfold wrap64;omega
        have c8:wrap64 (D:Int)=(D:Int):=by unfold wrap64;omega
        have J:=qz (y.out.many (.int .i64 3) (.bool false) (.int .i64 (D:Int)) (.string ⟨#[]⟩) (.slice none 0 0) (.slice none 0 0));clear A;go_wp2;exact bodyPost_ret (Ae rfl rfl J.out.blk) rfl ⟨J.out.below,⟨_,rfl,Bz 3 false _ _⟩⟩
def Aeh (s:ByteArray) (f:Nat):Prop:= ∀(w:World) (k:Nat) (d:Int),k<=s.size->4*(s.size - k)+1<=f->0<=d->d<=65->
    Calls Tryz.prog 84 #[.string s,.int .i64 k,.int .i64 d] w (Gv w (Bb f s.data.toList k d))
structure RB2 (w W:World) (V:Value):Prop where
 res:RBx w W Al
 var:Ap W (w.heap.size+1) 42 #[.int .i64 5,.bool false,.int .i64 0,.string ⟨#[]⟩,V,.slice none 0 0]
theorem RB2.later {w W a:World} {V:Value} (h:RB2 w W V) (t:Below W.heap.size W a):RB2 w a V:=⟨h.res.later t,h.var.below t h.var.lt⟩
theorem RB2.grown {w W c:World} {V b:Value} (h:RB2 w W V) (t:W.grownBy c b.ownBlock) (a: ∀g,b.ownBlock=some g->w.heap.size+2<=g):RB2 w c V:=
 ⟨⟨h.res.below.grown t h.res.below.size (fun k d=>by have:=a k d;omega),h.res.blk.grown t (fun e=>by have:=a _ e.symm;omega)⟩,h.var.grown t (fun e=>by have:=a _ e.symm;omega)⟩
theorem RB2.set {w W:World} {V:Value} (h:RB2 w W V) (V':Value):RB2 w (W.setCell ⟨w.heap.size+1,4,none⟩ V') V':=
 ⟨⟨h.res.below.setCell (by simp) _,h.res.blk.far (by simp) _⟩,h.var.set_ 4 V'⟩
structure LRf (w wr:World) (s:ByteArray) (d:Int) (RES:Rd Val) (f n j:Nat) (acc:List Val) (V:Value):Prop where
 all:RB2 w wr V
 row:C3 (w.heap.size+2) 42 6 wr (dL acc) V
 is:Dk n s.data.toList j d acc=RES
 fuel:4*(s.size - j)+2<=n
 lt:n<f
 few:acc.length<=j
theorem Aa7 (s:ByteArray) (f:Nat) (ih: ∀f',f'<f->Aeh s f') (w:World) (k:Nat) (d:Int) (hs:s.size<=16000000) (hk:k<s.size) (hf:4*(s.size - k)<=f) (bm:0<=d) (hd:d<=64):
 Calls Tryz.prog 142 #[.string s,.int .i64 ((k+1:Nat):Int),.int .i64 d] w (Gv w (Hd f s.data.toList k d)):=by
 obtain⟨j0,hj,T,U,X⟩:=info_parts Ui;obtain⟨f,rfl⟩: ∃n,f=n+1:=⟨f - 1,by omega⟩;have hP:=Bq (s:=s) (k:=k+1) (by omega);have ag:=Bv s.data.toList (k+1);have b:=fun W=>El s (k+1) W (by omega) (by omega);have R:RB2 w ((w.alloc (.cells Al 42)).alloc (.cells #[.int .i64 5,.bool false,.int .i64 0,.string ⟨#[]⟩,.slice none 0 0,.slice none 0 0] 42)) (.slice none 0 0):=
  ⟨(RBx.start w).later (Aa _ _),by simpa using Ap.new (w.alloc (.cells Al 42)) 42 #[.int .i64 5,.bool false,.int .i64 0,.string ⟨#[]⟩,.slice none 0 0,.slice none 0 0]⟩
 obtain⟨ad,h⟩: ∃r,Hd (f+1) s.data.toList k d=r:=⟨_,rfl⟩;rw[h];unfold Hd at h;have N: ∀B,decide (s.data.toList[Ak s.data.toList (k+1)]? =some 93)=B-> ∀W,Calls Tryz.prog 207 #[.string s,.int .i64 (Ak s.data.toList (k+1):Nat),.int .u8 93] W fun e w'=>e=.returned (.bool B)/\W=w':=fun B u W=>Gq u W (by omega) hP;obtain⟨k1,a1⟩: ∃k1,k+1=k1:=⟨_,rfl⟩;rw[a1]at h hP ag b N ⊢;have bf:k+1<=k1:=by omega
 clear a1;generalize Ak s.data.toList k1=p1 at h hP ag b N
 cases u:decide (s.data.toList[p1]? =some 93)with
 |true=>
  have D:=qz (N _ u);have hc:=u;rw[decide_eq_true_iff]at hc;rw[if_pos hc]at h;subst h;clear hc N u;obtain⟨Hj,av,aw,ax,Ih,I,l⟩:=hid7 hj T U X ih R b;clear hj T U X ih R b;go_enter Tryz.func142,Tryz.ntmps142;go_wp2_with (fail);generalize (w.alloc (.cells Al 42)).alloc (.cells #[.int .i64 5,.bool false,.int .i64 0,.string ⟨#[]⟩,.slice none 0 0,.slice none 0 0] 42)=wb at I ⊢;(with_reducible refine(l.out _).mono ?_);rintro e w1 ⟨rfl,rfl⟩;go_wp2_with (fail);(with_reducible refine(D.out _).mono ?_);rintro e w1 ⟨rfl,rfl⟩;obtain⟨y0,y1,y2,y3,y4,y5⟩:=At I.out.var;have fz:=I.out.res.blk.frozen;obtain⟨r0,r1,r2,r3,r4,r5⟩:=At I.out.res.blk;have t:=qz (I.out.res.many (.int .i64 5) (.bool false) (.int .i64 0) (.string ⟨#[]⟩) (.slice none 0 0) (.slice none 0 0));go_wp2;exact bodyPost_ret (Ae rfl rfl t.out.blk) rfl ⟨t.out.below,⟨_,rfl,Bz 5 false 0 _⟩⟩
 |false=>
  have E:=N _ u;have hc:=u;rw[decide_eq_false_iff_not]at hc;rw[if_neg hc]at h;clear hc N u;have ao:Hid (∀wb,RB2 w wb (.slice none 0 0)->LRf w wb s d ad (f+1) f p1 [] (.slice none 0 0)):=fun wb hb=>⟨hb,by simpa[dL]using C3.nil _ _ _ _,h,by omega,by omega,by simp⟩;obtain⟨Hj,av,aw,ax,Ih,I,l,D⟩:=hid8 hj T U X ih R b E;clear hj T U X ih R b E;clear h;go_enter Tryz.func142,Tryz.ntmps142;go_wp2_with (fail);generalize (w.alloc (.cells Al 42)).alloc (.cells #[.int .i64 5,.bool false,.int .i64 0,.string ⟨#[]⟩,.slice none 0 0,.slice none 0 0] 42)=wb at I ⊢;(with_reducible refine(l.out _).mono ?_);rintro e w1 ⟨rfl,rfl⟩;go_wp2_with (fail);(with_reducible refine(D.out _).mono ?_);rintro e w1 ⟨rfl,rfl⟩;go_wp2
  go_loopg [1] f (fun n a wr=> ∃m j acc V,m=n/\j<=s.size/\a=.int .i64 (j:Nat)/\Hid (LRf w wr s d ad (f+1) n j acc V))
  case atStart=>exact⟨f,p1, [],_,rfl,hP,rfl,ao.out _ I.out⟩
  case round=>
   obtain⟨n,j,acc,V,rfl,hj,rfl,Z⟩:=hrel;clear ao hP ag I l D;have bo:=Z.out.fuel;have bp:=Z.out.lt;have bn:=Z.out.few;obtain⟨n,rfl⟩: ∃m,n=m+1:=⟨n - 1,by omega⟩;have hI:=Z.out.all;have L:=Z.out.row;have g:=Z.out.is;obtain⟨aV,cV,rfl⟩:=L.slice;have hC:=Ih.out n (by omega) wr j (d+1) hj (by omega) (by omega) (by omega);have hw:=(Ee n).1 s.data.toList j (d+1) (by rw[Ac];exact hj);unfold Dk at g;have bi:IntKind.i64.wrap (d+1)=d+1:=IntWalk.i64_in _ (by omega);have dl:(dL acc).length=acc.length:=K8 _
   cases hr:Bb n s.data.toList j (d+1)with
   |bad c q=>
    rw[hr]at hC g;simp only at g;subst g;have bc:(c==0)=false:=by
     have:=(Ee n).1 s.data.toList j (d+1) (by rw[Ac];exact hj);rw[hr]at this;have:=this.2.2.1;rw[beq_eq_false_iff_ne];omega
    have bl:(c != 0)=true:=by simp[bne,bc]
    obtain⟨HC,HI,Dl,Q⟩:=hid4 hC hI dl L;clear hC hI dl L;clear hw hr Z;go_wp2_with (fail);(with_reducible refine(HC.out).mono ?_);rintro e w4 ⟨J,rfl⟩;have o:=HI.out.later J;have t:=qz ((o.res.many (.int .i64 0) (.bool false) (.int .i64 0) (.string ⟨#[]⟩) (.slice none 0 0) (.slice none 0 0)).later (Aa _ (.cells Al 42)));obtain⟨r0,r1,r2,r3,r4,r5⟩:=At o.res.blk;have bj:=o.res.blk.frozen;have aa:=o.res.blk.lt;have am:=qz o;clear o;clear J;go_wp2;exact bodyPost_ret (Ae rfl rfl t.out.blk) rfl ⟨t.out.below,rfl⟩
   |ok v q=>
    rw[hr]at hC g hw;simp only at g;obtain⟨br,aj⟩:=hw;rw[Ac]at aj;obtain⟨F,b',G,H,l',o'⟩:=v;have a4:dL acc++ [dV (.mk F b' G H l' o')]=dL (acc++ [.mk F b' G H l' o']):=by rw[Gz,Gz];simp
    have ap:Hid ((dL acc).length+1<=maxLen/\((dL acc).length+1)*88<=140737488355328):=by rw[dl];exact⟨by simp only[maxLen];omega,by omega⟩
    have ai:Ak s.data.toList q<=s.size:=Bq aj;have be:=Bv s.data.toList q;have b:=fun W=>El s q W (by omega) aj;have af: ∀B,decide (s.data.toList[Ak s.data.toList q]? =some 93)=B-> ∀W,Calls Tryz.prog 207 #[.string s,.int .i64 (Ak s.data.toList q:Nat),.int .u8 93] W fun e w'=>e=.returned (.bool B)/\W=w':=fun B u W=>Gq u W (by omega) ai;have ae: ∀B,decide (s.data.toList[Ak s.data.toList q]? =some 44)=B-> ∀W,Calls Tryz.prog 207 #[.string s,.int .i64 (Ak s.data.toList q:Nat),.int .u8 44] W fun e w'=>e=.returned (.bool B)/\W=w':=fun B u W=>Gq u W (by omega) ai;generalize Ak s.data.toList q=pq at ai be b af ae g;have bq:=hI.var.lt;obtain⟨HC,HI,Dl,bb,ab,Q,l,al,ak⟩:=hid9 hC hI dl a4 g L b af ae;clear hC hI dl a4 g L b af ae;clear Z hr;go_wp2_with (fail);(with_reducible refine(HC.out).mono ?_);rintro e w4 ⟨J,cs,rfl,S⟩;obtain⟨y,z,A,C,rfl⟩:=Dc S;have o:=HI.out.later J;obtain⟨y0,y1,y2,y3,y4,y5⟩:=At o.var;have aa:=o.var.lt;have a3:=J.size;have aq:=qz ((J.alloc J.size (.cells #[.int .i64 F,.bool b',.int .i64 G,.string H,.slice y l'.length z,.slice A o'.length C] 42)).alloc (by simp;omega) (.cells #[.int .i64 F,.bool b',.int .i64 G,.string H,.slice y l'.length z,.slice A o'.length C] 42));have ar:=qz ((S.later (Aa w4 (.cells #[.int .i64 F,.bool b',.int .i64 G,.string H,.slice y l'.length z,.slice A o'.length C] 42))).later (Aa _ (.cells #[.int .i64 F,.bool b',.int .i64 G,.string H,.slice y l'.length z,.slice A o'.length C] 42)));have an:=qz ((o.later (Aa w4 (.cells #[.int .i64 F,.bool b',.int .i64 G,.string H,.slice y l'.length z,.slice A o'.length C] 42))).later (Aa _ (.cells #[.int .i64 F,.bool b',.int .i64 G,.string H,.slice y l'.length z,.slice A o'.length C] 42)));have au:=qz (show Bt ((w4.alloc (.cells #[.int .i64 F,.bool b',.int .i64 G,.string H,.slice y l'.length z,.slice A o'.length C] 42)).alloc (.cells #[.int .i64 F,.bool b',.int .i64 G,.string H,.slice y l'.length z,.slice A o'.length C] 42)) (w4.heap.size+1+1) 6 (some ⟨w4.heap.size+1,0,none⟩) 1 [.int .i64 F,.bool b',.int .i64 G,.string H,.slice y l'.length z,.slice A o'.length C]from by simpa using Kr (w4.alloc (.cells #[.int .i64 F,.bool b',.int .i64 G,.string H,.slice y l'.length z,.slice A o'.length C] 42)) (.int .i64 F) (.bool b') (.int .i64 G) (.string H) (.slice y l'.length z) (.slice A o'.length C));obtain⟨am,a8,a9⟩:=hid3 o J S;clear o J S;go_wp2_with (at_builtin;apply Shut.out);unfold Shut;refine D4 (d:=dV (.mk F b' G H l' o')) (V:=.slice aV (dL acc).length cV) rfl (.tmp 38) (.tmp 40) 39 rfl Tryz.underlying39 Hj.out av.out aw.out ax.out rfl (by omega) rfl Q.out (by omega) aq.out (D7 _) ar.out rfl au.out ap.out.1 ap.out.2 ?_;intro V6 w6 x a0 az;have O:=an.out.grown a0 (fun r e=>(Q.out.base r e).1);rw[bb.out]at x;obtain⟨a6,c6,rfl⟩:=x.slice;have e6:=O.var.cell 4;have f6:=O.var.frozen 4;have a2:=O.var.lt;have ay:=O.set (.slice a6 (dL (acc++ [Val.mk F b' G H l' o'])).length c6);have M:=qz (x.keep (w':=w6.setCell ⟨w.heap.size+1,4,none⟩ (.slice a6 (dL (acc++ [Val.mk F b' G H l' o'])).length c6)) (by simp[World.setCell]) (fun i h1 _=>Below.heap_setCell _ _ _ _ (by simp;omega)));obtain⟨a7,ac,K⟩:=hid3 O x ay;clear O x ay;clear a0 az aq ar an au am a8 a9 y0 y1 y2 y3 y4 y5 aa a3;go_wp2_with (fail);generalize w6.setCell ⟨w.heap.size+1,4,none⟩ (.slice a6 (dL (acc++ [Val.mk F b' G H l' o'])).length c6)=w7 at K M ⊢;clear e6 f6 a2 a7 ac;(with_reducible refine(l.out _).mono ?_);rintro e w8 ⟨rfl,rfl⟩;obtain⟨r0,r1,r2,r3,r4,r5⟩:=At K.out.res.blk;have bk:=K.out.res.blk.frozen;have bg:=K.out.res.blk.lt
    cases u:decide (s.data.toList[pq]? =some 93)with
    |true=>
     have E:=al.out _ u;have g:=ab.out;rw[decide_eq_true_iff]at u;rw[if_neg (by rw[u];decide),if_pos u]at g;subst g;obtain⟨y0,y1,y2,y3,y4,y5⟩:=At K.out.var;obtain⟨a',c',ee,_,ah,_⟩:=M.out.close
     cases ee
     have a5:=K.out.res.many (.int .i64 5) (.bool false) (.int .i64 0) (.string ⟨#[]⟩) (.slice a6 (dL (acc++ [Val.mk F b' G H l' o'])).length c6) (.slice none 0 0);have ba:=qz (V1 (ah.keep (b':=w.heap.size) (w':=A4 w7 w.heap.size 0 [.int .i64 5,.bool false,.int .i64 0,.string ⟨#[]⟩,.slice a6 (dL (acc++ [Val.mk F b' G H l' o'])).length c6,.slice none 0 0]) (by omega) (by rw[Ba];exact Nat.le_refl _) (fun p p1 p2=>World.cell?_of_block (Ay _ _ _ _ _ (by omega)))));obtain⟨t,D,bh⟩:=hid3 a5 E ah;clear a5 E ah;clear u;go_wp2_with (fail);(with_reducible refine(D.out _).mono ?_);rintro e w8 ⟨rfl,rfl⟩;go_wp2;exact bodyPost_ret (Ae rfl rfl t.out.blk) rfl ⟨t.out.below,⟨_,rfl,ba.out⟩⟩
    |false=>
     have E:=al.out _ u;have g:=ab.out;rw[decide_eq_false_iff_not]at u;clear ab
     cases hB4:decide (s.data.toList[pq]? =some 44)with
     |true=>
      have Y:=ak.out _ hB4;rw[decide_eq_true_iff]at hB4;rw[if_pos hB4]at g;have bd:=B7 hB4;rw[Ac]at bd;have HN:Hid (LRf w w7 s d ad (f+1) n (pq+1) (acc++ [Val.mk F b' G H l' o']) (.slice a6 (dL (acc++ [Val.mk F b' G H l' o'])).length c6)):=⟨K.out,M.out,g,by omega,by omega,by simp;omega⟩;obtain⟨D,P⟩:=hid2 E Y;clear E Y;clear u hB4 g;go_wp2_with (fail);(with_reducible refine(D.out _).mono ?_);rintro e w8 ⟨rfl,rfl⟩;go_wp2_with (fail);(with_reducible refine(P.out _).mono ?_);rintro e w8 ⟨rfl,rfl⟩;go_wp2
      go_roundg n
      case measure=>omega
      case rel=>exact⟨n,_,_,_,rfl,by omega,by go_num,HN⟩
     |false=>
      have P:=qz (ak.out _ hB4);rw[decide_eq_false_iff_not]at hB4;rw[if_neg hB4,if_neg u]at g;subst g;have t:=qz (K.out.res.many (.int .i64 0) (.bool false) (.int .i64 0) (.string ⟨#[]⟩) (.slice none 0 0) (.slice none 0 0));have D:=qz E;clear E;clear u hB4;go_wp2_with (fail);(with_reducible refine(D.out _).mono ?_);rintro e w8 ⟨rfl,rfl⟩;go_wp2_with (fail);(with_reducible refine(P.out _).mono ?_);rintro e w8 ⟨rfl,rfl⟩;go_wp2;exact bodyPost_ret (Ae rfl rfl t.out.blk) rfl ⟨t.out.below,rfl⟩
def Ju (c:UInt8):Nat:=Gg.findIdx (fun x=>x==c)
theorem Aga: ∀c:Fin 256,Ju (UInt8.ofNat c.val)<=8/\(Ju (UInt8.ofNat c.val)=8->Fj (UInt8.ofNat c.val)=none)/\(Ju (UInt8.ofNat c.val)<8->(Fj (UInt8.ofNat c.val)).map (fun n:Nat=>(n:Int))=Gy[Ju (UInt8.ofNat c.val)]?)/\
 (∀k:Fin 8,(k.val<Ju (UInt8.ofNat c.val)->((UInt8.ofNat c.val).toNat==(Gg.getD k.val 0).toNat)=false)/\(k.val=Ju (UInt8.ofNat c.val)->((UInt8.ofNat c.val).toNat==(Gg.getD k.val 0).toNat)=true)):=by decide+kernel
theorem Ams (c:UInt8):Ju c<=8/\(Ju c=8->Fj c=none)/\(Ju c<8->(Fj c).map (fun n:Nat=>(n:Int))=Gy[Ju c]?)/\
 (∀k,k<8->(k<Ju c->(c.toNat==(Gg.getD k 0).toNat)=false)/\(k=Ju c->(c.toNat==(Gg.getD k 0).toNat)=true)):=by
 have h:=Aga ⟨c.toNat,c.toNat_lt⟩;simp only[UInt8.ofNat_toNat]at h;exact⟨h.1,h.2.1,h.2.2.1,fun k a=>h.2.2.2 ⟨k,a⟩⟩
theorem Yz (T:ByteArray) (l:List UInt8):(T++(⟨l.toArray⟩:ByteArray)).size=T.size+l.length:=by rw[ByteArray.size_append];rfl
theorem Ae7 (T:ByteArray) (l:List UInt8):(T++(⟨l.toArray⟩:ByteArray)).data.toList=T.data.toList++l:=by rw[ByteArray.data_append,Array.toList_append]
def RUI (s:ByteArray) (w:World) (RES:Rd (List UInt8)) (j:Nat) (T:ByteArray) (wr:World):Prop:=
 Below w.heap.size w wr/\T.size<=j/\ ∃f,Fg f s.data.toList j T.data.toList=RES/\s.size - j<f
theorem Akk (T:ByteArray):(⟨T.data.toList.toArray⟩:ByteArray)=T:=by
 apply ByteArray.ext;simp
theorem Below.drewN' {B n:Nat} {a w w1:World} (h:Below B a w) (c:Below (w.drewN n).heap.size (w.drewN n) w1) (b:B<=w.heap.size):Below B a w1:=(Bf h n).trans (c.mono b)
theorem T9 (s:ByteArray) (k:Nat) (w:World) (hs:s.size<=1000000000) (hk:k<=s.size):
 Calls Tryz.prog 144 #[.string s,.int .i64 k] w fun e w'=>e=.returned (Ql (Cs s.data.toList k))/\Below w.heap.size w w':=by
 have ak:=Ac s;have d0:decide ((k:Int)<0)=false:=decide_eq_false (by omega);have d1:decide (s.size<k)=false:=decide_eq_false (by omega);by_cases af:k<s.size;rotate_left
 . obtain rfl:k=s.size:=by omega
   have e:Cs s.data.toList s.size=.bad 4 s.size:=by unfold Cs;rw[if_neg (by rw[List.getElem?_eq_none (by omega)];simp)]
   rw[e];simp only[Ql];clear e ak af;go_enter Tryz.func144,Tryz.ntmps144;go_wp2;exact bodyPost_ret (Ar rfl _ _ _) rfl ⟨rfl,Below.refl _ _⟩
 obtain⟨c,hc⟩: ∃c,s[k]=c:=⟨_,rfl⟩;have hg:s.data.toList[k]? =some c:=by rw[Bc s af,hc]
 have bm:=Bl c;have ne: ∀(c:UInt8) (n:Nat),n<256->c≠UInt8.ofNat n->((c.toNat:Int)==(n:Int))=false:=fun c n hn h=>by rw[Ie hn];simpa using h
 have e1:((k:Int)==(s.size:Int))=false:=by rw[beq_eq_false_iff_ne];omega
 by_cases C:c=34;rotate_left
 . have e:Cs s.data.toList k=.bad 4 k:=by unfold Cs;rw[if_neg (by rw[hg];simpa using C)]
   rw[e];have e2:=ne c 34 (by decide) C;simp only[Ql];clear e ak hg ne C;go_enter Tryz.func144,Tryz.ntmps144;go_wp2;exact bodyPost_ret (Ar rfl _ _ _) rfl ⟨rfl,Below.refl _ _⟩
 subst C;obtain⟨V,ah⟩: ∃R,Cs s.data.toList k=R:=⟨_,rfl⟩;rw[ah];have hF:Fg (s.data.toList.length - k) s.data.toList (k+1) []=V:=by
  rw[<-ah];unfold Cs;rw[if_pos hg]
 have H0:Hid (RUI s w V (k+1) ⟨#[]⟩ w):=⟨Below.refl _ _,Nat.zero_le _,_,hF,by omega⟩;clear ah hF hg ak;have Ne:=qz ne;clear ne;go_enter Tryz.func144,Tryz.ntmps144;go_wp2;go_loopw [7,8] (fun o i wr=> ∃(T:ByteArray) (j:Nat),o=.string T/\i=.int .i64 j/\j<=s.size/\Hid (RUI s w V j T wr)) (fun _ i _=>s.size - (intOf i).toNat)
 case atStart=>exact⟨⟨#[]⟩,k+1,rfl,by go_num,by omega,H0⟩
 case round=>
  obtain⟨T,j,rfl,rfl,hj,hI⟩:=hrel;clear H0 e1 d0 d1 hc;clear af hk;obtain⟨wo,rfl⟩: ∃wo:World,wo=wr:=⟨_,rfl⟩;obtain⟨P,h2,f,J,h4⟩:=hI.out;obtain⟨f,rfl⟩: ∃g,f=g+1:=⟨f - 1,by omega⟩;clear hI;by_cases af:j<s.size;rotate_left
  . obtain rfl:j=s.size:=by omega
    have y:V=.bad 4 s.size:=by
     rw[<-J];unfold Fg;rw[List.getElem?_eq_none (by rw[Ac];exact Nat.le_refl _)]
    obtain⟨U,H3,Z⟩:=hid3 P J y;clear P J y;go_wp2;exact bodyPost_ret (Ar rfl _ _ _) rfl ⟨by rw[Z.out];rfl,U.out⟩
  obtain⟨c,hc⟩: ∃c,s[j]=c:=⟨_,rfl⟩;have hg:s.data.toList[j]? =some c:=by rw[Bc s af,hc]
  have bm:=Bl c;have bw: ¬((s.size:Int)<=(j:Int)):=by omega
  by_cases C:c=34
  . subst C;have y:V=.ok T.data.toList (j+1):=by
     rw[<-J];unfold Fg;rw[hg];simp
    obtain⟨U,H3,Z⟩:=hid3 P J y;clear P J y;clear hg;go_wp2;exact bodyPost_ret (Ar rfl _ _ _) rfl ⟨by rw[Z.out];simp only[Ql,Akk];rfl,U.out⟩
  have bu:=Ne.out c 34 (by decide) C;by_cases Q:c.toNat<32
  . have y:V=.bad 4 j:=by
     rw[<-J];unfold Fg;rw[hg];simp only;rw[if_neg C,if_pos Q]
    have bq:(c.toNat:Int)<32:=by omega
    obtain⟨U,H3,Z⟩:=hid3 P J y;clear P J y;clear hg Q C;go_wp2;exact bodyPost_ret (Ar rfl _ _ _) rfl ⟨by rw[Z.out];rfl,U.out⟩
  have bq: ¬((c.toNat:Int)<32):=by omega
  by_cases ag:c=92;rotate_left
  . have bv:=Ne.out c 92 (by decide) ag;have hA:=fun W=>Si s j W (by omega) (by omega);have am:s.data.toList.drop j≠ []:=by rw[Ep hg];simp
    have ab:=K4 _ am;unfold I0 at ab;rw[ab]at hA;have y:V=if(Lib.decodeL (s.data.toList.drop j)).1=65533/\(Lib.decodeL (s.data.toList.drop j)).2=1 then .bad 3 j else Fg f s.data.toList (j+(Lib.decodeL (s.data.toList.drop j)).2) (T.data.toList++(s.data.toList.drop j).take (Lib.decodeL (s.data.toList.drop j)).2):=by
     rw[<-J]
     conv=>lhs;unfold Fg
     rw[hg];simp only;rw[if_neg C,if_neg Q,if_neg ag]
    by_cases aa:(Lib.decodeL (s.data.toList.drop j)).1=65533/\(Lib.decodeL (s.data.toList.drop j)).2=1
    . rw[if_pos aa]at y hA;obtain⟨U,H3,Z,HA⟩:=hid4 P J y hA;clear P J y hA;clear hg Q C ag am ab aa;go_wp2_with (fail);(with_reducible refine(HA.out _).mono ?_);rintro e I ⟨rfl,rfl⟩;go_wp2;exact bodyPost_ret (Ar rfl _ _ _) rfl ⟨by rw[Z.out];rfl,U.out⟩
    . rw[if_neg aa]at y hA;have bo:=N0 am aa;have hw:=Lib.decodeL_width (s.data.toList.drop j);have a5:=Acd (by rw[Ac];exact af:j<s.data.toList.length);rw[Ac]at a5;have a4:=Lib.encode_decode _ am aa;obtain⟨br,bs⟩:(Lib.decodeL (s.data.toList.drop j)).1<=1114111/\ ¬(55296<=(Lib.decodeL (s.data.toList.drop j)).1/\(Lib.decodeL (s.data.toList.drop j)).1<57344):=bo;have hB:=fun W=>Ky ((Lib.decodeL (s.data.toList.drop j)).1:Int) (by omega) (by omega) (by omega) W;rw[a4]at hB;have al:((s.data.toList.drop j).take (Lib.decodeL (s.data.toList.drop j)).2).length<=(Lib.decodeL (s.data.toList.drop j)).2:=by rw[List.length_take];omega
      generalize (s.data.toList.drop j).take (Lib.decodeL (s.data.toList.drop j)).2=X at hB y al;generalize Lib.decodeL (s.data.toList.drop j)=D at hA hB y hw a5 al;obtain⟨r,n⟩:=D;simp only at hA hB y hw a5 al;have a: ∀W',Below wo.heap.size wo W'->RUI s w V (j+n) (T++⟨X.toArray⟩) W':=fun W' a1=>
       ⟨P.trans (a1.mono P.size),by rw[Yz];omega,f,by rw[Ae7];exact y.symm,by omega⟩
      have n0:((n:Int)==0)=false:=by rw[beq_eq_false_iff_ne];omega
      obtain⟨U,H3,Z,HA,HB,B⟩:=hid6 P J y hA hB a;clear P J y hA hB a;clear hg Q C ag am ab aa br bs a4;go_wp2_with (fail);(with_reducible refine(HA.out _).mono ?_);rintro e I ⟨rfl,rfl⟩;go_wp2_with (fail);(with_reducible refine(HB.out _).mono ?_);rintro e I ⟨rfl,d⟩;have t:=qz (B.out I d);clear d;go_wp2;go_roundw
      case rel=>exact⟨_,j+n,rfl,by go_num,by omega,t⟩
      case measure=>simp[intOf];omega
  . subst ag;have hX:=fun W=>T5 s j W hs (by omega);have y:V=match E5 (s.data.toList.drop j)with
     | .bad e _=> .bad e j
     | .ok r n=>Fg f s.data.toList (j+n) (T.data.toList++Lib.encodeRune (r:Int)):=by
     rw[<-J]
     conv=>lhs;unfold Fg
     rw[hg];simp only;rw[if_neg (by decide),if_neg (by decide),if_pos trivial];rfl
    have a: ∀(r n:Nat) (W':World),E5 (s.data.toList.drop j)=.ok r n->Below wo.heap.size wo W'->RUI s w V (j+n) (T++⟨(Lib.encodeRune (r:Int)).toArray⟩) W'/\j+n<=s.size/\2<=n:=fun r n W' e a1=>by
     have a2:=Ms e;have a3:=S8 e;rw[List.length_drop,Ac]at a2;rw[e]at y;exact⟨⟨P.trans (a1.mono P.size),by rw[Yz];omega,f,by rw[Ae7];exact y.symm,by omega⟩,by omega,a2.2.2.1⟩
    have F: ∀(r n:Nat) (W:World),E5 (s.data.toList.drop j)=.ok r n->Calls Tryz.prog 194 #[.int .i64 r] W fun e w'=>e=.returned (.string ⟨(Lib.encodeRune r).toArray⟩)/\Below W.heap.size W w':=fun r n W e=>by
     have a2:=Ms e;exact Ky (r:Int) (by omega) (by omega) (by omega) W
    cases hu:Dd (s.data.toList.drop j)with
    |none=>
     have he:E5 (s.data.toList.drop j)=Qb (s.data.toList.drop j):=by unfold E5;rw[hu]
     rw[hu]at hX;simp only[Af4]at hX;have a0:(s.data.toList.drop j)[1]? =s.data.toList[j+1]? :=by rw[List.getElem?_drop]
     have ao:Hid (Below wo.heap.size wo wo):=Below.refl _ _;by_cases bk:j+1<s.size
     . obtain⟨x,hx⟩: ∃x,s[j+1]=x:=⟨_,rfl⟩;have bj:s.data.toList[j+1]? =some x:=by rw[Bc s bk,hx]
       have b2:=Bl x;obtain⟨t1,t2,t3,t4⟩:=Ams x;have aj:E5 (s.data.toList.drop j)=match Fj x with
        |none=> .bad 4 0
        |some r=> .ok r 2:=by
        rw[he];unfold Qb;rw[a0,bj];rfl
       have N: ∀q,q<8->(q<Ju x->((x.toNat:Int)==((Gg.getD q 0).toNat:Int))=false)/\(q=Ju x->((x.toNat:Int)==((Gg.getD q 0).toNat:Int))=true):=by
        intro q hq;have key:((x.toNat:Int)==((Gg.getD q 0).toNat:Int))=(x.toNat==(Gg.getD q 0).toNat):=by
         rw[Bool.eq_iff_iff];simp only[beq_iff_eq];omega
        rw[key];exact t4 q hq
       have i0:(0:Int)<=(j:Int)+1:=by omega
       have i1:(j:Int)+1<(s.size:Int):=by omega
       have i2:decide ((s.size:Int)<=(j:Int)+1)=false:=decide_eq_false (by omega);have ap:=(N 0 (by omega));have aq:=(N 1 (by omega));have ar:=(N 2 (by omega));have au:=(N 3 (by omega));have av:=(N 4 (by omega));have aw:=(N 5 (by omega));have ax:=(N 6 (by omega));have ay:=(N 7 (by omega));simp only[Gg,List.getD_cons_zero,List.getD_cons_succ]at ap aq ar au av aw ax ay;clear N t4;generalize Ju x=L at ap aq ar au av aw ax ay t1 t2 t3;obtain⟨U,H3,Z,HX,B,ae,a8,a9,ba,bb,bc,bd,be,bf,T2,T3⟩:=hid16 P J y hX a F ap aq ar au av aw ax ay t2 t3;have bg:=qz aj;clear P J y hX a F ap aq ar au av aw ax ay t2 t3 aj;clear hg Q C he hu a0 bj;go_wp2_with (fail);(with_reducible refine(HX.out _).mono ?_);rintro e I ⟨rfl,rfl⟩;go_wp2;go_loopw [13] (fun kk wr=> ∃q:Nat,kk=.int .i64 q/\q<=L/\Hid (Below wo.heap.size wo wr)) (fun kk _=>8 - (intOf kk).toNat)
       case atStart=>exact⟨0,rfl,Nat.zero_le _,ao⟩
       case round=>
        obtain⟨q,rfl,hq,hb⟩:=hrel;clear ao;by_cases Y:q<L
        . have O: ∀(n:Nat),Hid (Below wo.heap.size wo (wr.drewN n)):=fun n=>Bf hb.out n;rcases(by omega:q=0\/q=1\/q=2\/q=3\/q=4\/q=5\/q=6\/q=7)with rfl|rfl|rfl|rfl|rfl|rfl|rfl|rfl
          . have g0:(⟨#[34,92,47,98,102,110,114,116]⟩:ByteArray)[0]'(by decide)=34:=rfl;have H:=a8.out.1 Y;have f1:((x.toNat:Int) != 34)=true:=by unfold bne;rw[show((x.toNat:Int)==34)=false from H];rfl
            go_wp2;go_quiet (fail);go_wp2;go_roundw
            case rel=>exact⟨0+1,by first|rfl|go_num,by omega,O _⟩
            case measure=>simp[intOf]
          . have g0:(⟨#[34,92,47,98,102,110,114,116]⟩:ByteArray)[1]'(by decide)=92:=rfl;have H:=a9.out.1 Y;have f1:((x.toNat:Int) != 92)=true:=by unfold bne;rw[show((x.toNat:Int)==92)=false from H];rfl
            go_wp2;go_quiet (fail);go_wp2;go_roundw
            case rel=>exact⟨1+1,by first|rfl|go_num,by omega,O _⟩
            case measure=>simp[intOf]
          . have g0:(⟨#[34,92,47,98,102,110,114,116]⟩:ByteArray)[2]'(by decide)=47:=rfl;have H:=ba.out.1 Y;have f1:((x.toNat:Int) != 47)=true:=by unfold bne;rw[show((x.toNat:Int)==47)=false from H];rfl
            go_wp2;go_quiet (fail);go_wp2;go_roundw
            case rel=>exact⟨2+1,by first|rfl|go_num,by omega,O _⟩
            case measure=>simp[intOf]
          . have g0:(⟨#[34,92,47,98,102,110,114,116]⟩:ByteArray)[3]'(by decide)=98:=rfl;have H:=bb.out.1 Y;have f1:((x.toNat:Int) != 98)=true:=by unfold bne;rw[show((x.toNat:Int)==98)=false from H];rfl
            go_wp2;go_quiet (fail);go_wp2;go_roundw
            case rel=>exact⟨3+1,by first|rfl|go_num,by omega,O _⟩
            case measure=>simp[intOf]
          . have g0:(⟨#[34,92,47,98,102,110,114,116]⟩:ByteArray)[4]'(by decide)=102:=rfl;have H:=bc.out.1 Y;have f1:((x.toNat:Int) != 102)=true:=by unfold bne;rw[show((x.toNat:Int)==102)=false from H];rfl
            go_wp2;go_quiet (fail);go_wp2;go_roundw
            case rel=>exact⟨4+1,by first|rfl|go_num,by omega,O _⟩
            case measure=>simp[intOf]
          . have g0:(⟨#[34,92,47,98,102,110,114,116]⟩:ByteArray)[5]'(by decide)=110:=rfl;have H:=bd.out.1 Y;have f1:((x.toNat:Int) != 110)=true:=by unfold bne;rw[show((x.toNat:Int)==110)=false from H];rfl
            go_wp2;go_quiet (fail);go_wp2;go_roundw
            case rel=>exact⟨5+1,by first|rfl|go_num,by omega,O _⟩
            case measure=>simp[intOf]
          . have g0:(⟨#[34,92,47,98,102,110,114,116]⟩:ByteArray)[6]'(by decide)=114:=rfl;have H:=be.out.1 Y;have f1:((x.toNat:Int) != 114)=true:=by unfold bne;rw[show((x.toNat:Int)==114)=false from H];rfl
            go_wp2;go_quiet (fail);go_wp2;go_roundw
            case rel=>exact⟨6+1,by first|rfl|go_num,by omega,O _⟩
            case measure=>simp[intOf]
          . have g0:(⟨#[34,92,47,98,102,110,114,116]⟩:ByteArray)[7]'(by decide)=116:=rfl;have H:=bf.out.1 Y;have f1:((x.toNat:Int) != 116)=true:=by unfold bne;rw[show((x.toNat:Int)==116)=false from H];rfl
            go_wp2;go_quiet (fail);go_wp2;go_roundw
            case rel=>exact⟨7+1,by first|rfl|go_num,by omega,O _⟩
            case measure=>simp[intOf]
        . obtain rfl:q=L:=by omega
          clear Y hq;by_cases h8:q=8
          . subst h8;have bh:V=.bad 4 j:=by
             have:=Z.out;rw[bg.out,T2.out rfl]at this;exact this
            have O: ∀(n:Nat),Hid (Below w.heap.size w (wr.drewN n)):=fun n=>U.out.trans ((Bf hb.out n).mono U.out.size);have bl:=qz bh;clear bh;go_wp2;go_quiet (fail);go_wp2;exact bodyPost_ret (Ar rfl _ _ _) rfl ⟨by rw[bl.out];rfl,O _⟩
          . obtain⟨r,hr,bi⟩: ∃r:Nat,Fj x=some r/\Gy[q]? =some (r:Int):=by
             have a6:q<8:=by omega
             have h:=T3.out a6;have az: ∃c,Gy[q]? =some c:=⟨_,List.getElem?_eq_getElem a6⟩;obtain⟨c,az⟩:=az;rw[az]at h
             cases hE:Fj x with
             |none=>rw[hE]at h;cases h
             |some r=>rw[hE]at h;exact⟨r,rfl,by rw[az,<-h];rfl⟩
            have A:E5 (s.data.toList.drop j)=.ok r 2:=by rw[bg.out,hr]
            have E:=fun W=>ae.out r 2 W A;have b:=fun W'=>B.out r 2 W' A;have ac:=qz (fun W=>Qr q (r:Int) bi W);have ai:=Se (r:Int);have a6:q<8:=by omega
            generalize Lib.encodeRune (r:Int)=X at E b ai;have bx:=(b wo (Below.refl _ _)).2.1;obtain⟨z,l⟩:=hid2 E b;clear E b;clear A hr bi;rcases(by omega:q=0\/q=1\/q=2\/q=3\/q=4\/q=5\/q=6\/q=7)with rfl|rfl|rfl|rfl|rfl|rfl|rfl|rfl
            . have g0:(⟨#[34,92,47,98,102,110,114,116]⟩:ByteArray)[0]'(by decide)=34:=rfl;have G:Hid (∀W,Calls Tryz.prog 193 #[.int .i64 0] W (fun e w'=>e=.returned (.int .i64 (r:Int))/\Below W.heap.size W w')):=ac.out;have H:=a8.out.2 rfl;have f1:((x.toNat:Int) != 34)=false:=by unfold bne;rw[show((x.toNat:Int)==34)=true from H];rfl
              go_wp2;go_quiet (fail);go_wp2_with (fail);(with_reducible refine(G.out _).mono ?_);rintro e I ⟨rfl,d⟩;have p:=qz (Below.drewN' hb.out d hb.out.size);clear d;go_wp2_with (fail);(with_reducible refine(z.out _).mono ?_);rintro e w3 ⟨rfl,v⟩;have t:=qz (l.out w3 (p.out.trans (v.mono p.out.size))).1;clear v;go_wp2;go_roundw
              case rel=>exact⟨_,j+2,rfl,by go_num,by omega,t⟩
              case measure=>simp[intOf];omega
            . have g0:(⟨#[34,92,47,98,102,110,114,116]⟩:ByteArray)[1]'(by decide)=92:=rfl;have G:Hid (∀W,Calls Tryz.prog 193 #[.int .i64 1] W (fun e w'=>e=.returned (.int .i64 (r:Int))/\Below W.heap.size W w')):=ac.out;have H:=a9.out.2 rfl;have f1:((x.toNat:Int) != 92)=false:=by unfold bne;rw[show((x.toNat:Int)==92)=true from H];rfl
              go_wp2;go_quiet (fail);go_wp2_with (fail);(with_reducible refine(G.out _).mono ?_);rintro e I ⟨rfl,d⟩;have p:=qz (Below.drewN' hb.out d hb.out.size);clear d;go_wp2_with (fail);(with_reducible refine(z.out _).mono ?_);rintro e w3 ⟨rfl,v⟩;have t:=qz (l.out w3 (p.out.trans (v.mono p.out.size))).1;clear v;go_wp2;go_roundw
              case rel=>exact⟨_,j+2,rfl,by go_num,by omega,t⟩
              case measure=>simp[intOf];omega
            . have g0:(⟨#[34,92,47,98,102,110,114,116]⟩:ByteArray)[2]'(by decide)=47:=rfl;have G:Hid (∀W,Calls Tryz.prog 193 #[.int .i64 2] W (fun e w'=>e=.returned (.int .i64 (r:Int))/\Below W.heap.size W w')):=ac.out;have H:=ba.out.2 rfl;have f1:((x.toNat:Int) != 47)=false:=by unfold bne;rw[show((x.toNat:Int)==47)=true from H];rfl
              go_wp2;go_quiet (fail);go_wp2_with (fail);(with_reducible refine(G.out _).mono ?_);rintro e I ⟨rfl,d⟩;have p:=qz (Below.drewN' hb.out d hb.out.size);clear d;go_wp2_with (fail);(with_reducible refine(z.out _).mono ?_);rintro e w3 ⟨rfl,v⟩;have t:=qz (l.out w3 (p.out.trans (v.mono p.out.size))).1;clear v;go_wp2;go_roundw
              case rel=>exact⟨_,j+2,rfl,by go_num,by omega,t⟩
              case measure=>simp[intOf];omega
            . have g0:(⟨#[34,92,47,98,102,110,114,116]⟩:ByteArray)[3]'(by decide)=98:=rfl;have G:Hid (∀W,Calls Tryz.prog 193 #[.int .i64 3] W (fun e w'=>e=.returned (.int .i64 (r:Int))/\Below W.heap.size W w')):=ac.out;have H:=bb.out.2 rfl;have f1:((x.toNat:Int) != 98)=false:=by unfold bne;rw[show((x.toNat:Int)==98)=true from H];rfl
              go_wp2;go_quiet (fail);go_wp2_with (fail);(with_reducible refine(G.out _).mono ?_);rintro e I ⟨rfl,d⟩;have p:=qz (Below.drewN' hb.out d hb.out.size);clear d;go_wp2_with (fail);(with_reducible refine(z.out _).mono ?_);rintro e w3 ⟨rfl,v⟩;have t:=qz (l.out w3 (p.out.trans (v.mono p.out.size))).1;clear v;go_wp2;go_roundw
              case rel=>exact⟨_,j+2,rfl,by go_num,by omega,t⟩
              case measure=>simp[intOf];omega
            . have g0:(⟨#[34,92,47,98,102,110,114,116]⟩:ByteArray)[4]'(by decide)=102:=rfl;have G:Hid (∀W,Calls Tryz.prog 193 #[.int .i64 4] W (fun e w'=>e=.returned (.int .i64 (r:Int))/\Below W.heap.size W w')):=ac.out;have H:=bc.out.2 rfl;have f1:((x.toNat:Int) != 102)=false:=by unfold bne;rw[show((x.toNat:Int)==102)=true from H];rfl
              go_wp2;go_quiet (fail);go_wp2_with (fail);(with_reducible refine(G.out _).mono ?_);rintro e I ⟨rfl,d⟩;have p:=qz (Below.drewN' hb.out d hb.out.size);clear d;go_wp2_with (fail);(with_reducible refine(z.out _).mono ?_);rintro e w3 ⟨rfl,v⟩;have t:=qz (l.out w3 (p.out.trans (v.mono p.out.size))).1;clear v;go_wp2;go_roundw
              case rel=>exact⟨_,j+2,rfl,by go_num,by omega,t⟩
              case measure=>simp[intOf];omega
            . have g0:(⟨#[34,92,47,98,102,110,114,116]⟩:ByteArray)[5]'(by decide)=110:=rfl;have G:Hid (∀W,Calls Tryz.prog 193 #[.int .i64 5] W (fun e w'=>e=.returned (.int .i64 (r:Int))/\Below W.heap.size W w')):=ac.out;have H:=bd.out.2 rfl;have f1:((x.toNat:Int) != 110)=false:=by unfold bne;rw[show((x.toNat:Int)==110)=true from H];rfl
              go_wp2;go_quiet (fail);go_wp2_with (fail);(with_reducible refine(G.out _).mono ?_);rintro e I ⟨rfl,d⟩;have p:=qz (Below.drewN' hb.out d hb.out.size);clear d;go_wp2_with (fail);(with_reducible refine(z.out _).mono ?_);rintro e w3 ⟨rfl,v⟩;have t:=qz (l.out w3 (p.out.trans (v.mono p.out.size))).1;clear v;go_wp2;go_roundw
              case rel=>exact⟨_,j+2,rfl,by go_num,by omega,t⟩
              case measure=>simp[intOf];omega
            . have g0:(⟨#[34,92,47,98,102,110,114,116]⟩:ByteArray)[6]'(by decide)=114:=rfl;have G:Hid (∀W,Calls Tryz.prog 193 #[.int .i64 6] W (fun e w'=>e=.returned (.int .i64 (r:Int))/\Below W.heap.size W w')):=ac.out;have H:=be.out.2 rfl;have f1:((x.toNat:Int) != 114)=false:=by unfold bne;rw[show((x.toNat:Int)==114)=true from H];rfl
              go_wp2;go_quiet (fail);go_wp2_with (fail);(with_reducible refine(G.out _).mono ?_);rintro e I ⟨rfl,d⟩;have p:=qz (Below.drewN' hb.out d hb.out.size);clear d;go_wp2_with (fail);(with_reducible refine(z.out _).mono ?_);rintro e w3 ⟨rfl,v⟩;have t:=qz (l.out w3 (p.out.trans (v.mono p.out.size))).1;clear v;go_wp2;go_roundw
              case rel=>exact⟨_,j+2,rfl,by go_num,by omega,t⟩
              case measure=>simp[intOf];omega
            . have g0:(⟨#[34,92,47,98,102,110,114,116]⟩:ByteArray)[7]'(by decide)=116:=rfl;have G:Hid (∀W,Calls Tryz.prog 193 #[.int .i64 7] W (fun e w'=>e=.returned (.int .i64 (r:Int))/\Below W.heap.size W w')):=ac.out;have H:=bf.out.2 rfl;have f1:((x.toNat:Int) != 116)=false:=by unfold bne;rw[show((x.toNat:Int)==116)=true from H];rfl
              go_wp2;go_quiet (fail);go_wp2_with (fail);(with_reducible refine(G.out _).mono ?_);rintro e I ⟨rfl,d⟩;have p:=qz (Below.drewN' hb.out d hb.out.size);clear d;go_wp2_with (fail);(with_reducible refine(z.out _).mono ?_);rintro e w3 ⟨rfl,v⟩;have t:=qz (l.out w3 (p.out.trans (v.mono p.out.size))).1;clear v;go_wp2;go_roundw
              case rel=>exact⟨_,j+2,rfl,by go_num,by omega,t⟩
              case measure=>simp[intOf];omega
     . have aj:E5 (s.data.toList.drop j)=.bad 4 0:=by
        rw[he];unfold Qb;rw[a0,List.getElem?_eq_none (by rw[Ac];omega)]
       rw[aj]at y;simp only at y;have i2:decide ((s.size:Int)<=(j:Int)+1)=true:=decide_eq_true (by omega);obtain⟨U,H3,Z,HX,B,ae⟩:=hid6 P J y hX a F;clear P J y hX a F;clear hg Q C he aj hu a0 bk;go_wp2_with (fail);(with_reducible refine(HX.out _).mono ?_);rintro e I ⟨rfl,rfl⟩;go_wp2;go_loopw [13] (fun kk wr=> ∃q:Nat,kk=.int .i64 q/\q<=8/\Hid (Below wo.heap.size wo wr)) (fun kk _=>8 - (intOf kk).toNat)
       case atStart=>exact⟨0,rfl,Nat.zero_le _,ao⟩
       case round=>
        obtain⟨q,rfl,hq,hb⟩:=hrel;clear ao;by_cases Y:q<8
        . have O: ∀(n:Nat),Hid (Below wo.heap.size wo (wr.drewN n)):=fun n=>Bf hb.out n;have l8:decide ((q:Int)<8)=true:=decide_eq_true (by omega);go_wp2;go_quiet (fail);go_wp2;go_roundw
          case rel=>exact⟨q+1,by go_num,by omega,O _⟩
          case measure=>simp[intOf];omega
        . obtain rfl:q=8:=by omega
          have O: ∀(n:Nat),Hid (Below w.heap.size w (wr.drewN n)):=fun n=>U.out.trans ((Bf hb.out n).mono U.out.size);clear Y;go_wp2;go_quiet (fail);go_wp2;exact bodyPost_ret (Ar rfl _ _ _) rfl ⟨by rw[Z.out];rfl,O _⟩
    |some u=>
     obtain⟨b1,bp⟩:=Ks hu;rw[List.length_drop,Ac]at bp;have he:E5 (s.data.toList.drop j)=Fp u (s.data.toList.drop (j+6)):=by unfold E5;rw[hu];simp only[List.drop_drop]
     rw[hu]at hX;simp only[Af4]at hX;by_cases a7:55296<=u/\u<57344
     . obtain⟨s1,s2⟩:=a7;have l1:decide ((55296:Int)<=(u:Int))=true:=decide_eq_true (by omega);have l2:decide ((u:Int)<57344)=true:=decide_eq_true (by omega);have K:=fun W=>T5 s (j+6) W hs (by omega);have ej:((j+6:Nat):Int)=(j:Int)+6:=by omega
       rw[ej]at K;clear ej;by_cases an:56320<=u
       . have A:E5 (s.data.toList.drop j)=.bad 3 0:=by rw[he];unfold Fp;rw[if_neg (by omega),if_pos an]
         rw[A]at y;simp only at y;have l3:decide ((56320:Int)<=(u:Int))=true:=decide_eq_true (by omega);generalize Af4 (Dd (s.data.toList.drop (j+6)))=M at K;obtain⟨U,H3,Z,HX,ad,B,ae⟩:=hid7 P J y hX K a F;clear P J y hX K a F;clear hg Q C he A hu;go_wp2_with (fail);(with_reducible refine(HX.out _).mono ?_);rintro e I ⟨rfl,rfl⟩;go_wp2_with (fail);(with_reducible refine(ad.out _).mono ?_);rintro e I ⟨rfl,rfl⟩;go_wp2;exact bodyPost_ret (Ar rfl _ _ _) rfl ⟨by rw[Z.out];rfl,U.out⟩
       have l3:decide ((56320:Int)<=(u:Int))=false:=decide_eq_false (by omega)
       cases hm:Dd (s.data.toList.drop (j+6))with
       |none=>
        have A:E5 (s.data.toList.drop j)=.bad 3 0:=by rw[he];unfold Fp;rw[if_neg (by omega),if_neg an,hm]
        rw[A]at y;simp only at y;rw[hm]at K;simp only[Af4]at K;obtain⟨U,H3,Z,HX,ad,B,ae⟩:=hid7 P J y hX K a F;clear P J y hX K a F;clear hg Q C he A hu hm;go_wp2_with (fail);(with_reducible refine(HX.out _).mono ?_);rintro e I ⟨rfl,rfl⟩;go_wp2_with (fail);(with_reducible refine(ad.out _).mono ?_);rintro e I ⟨rfl,rfl⟩;go_wp2;exact bodyPost_ret (Ar rfl _ _ _) rfl ⟨by rw[Z.out];rfl,U.out⟩
       |some m=>
        obtain⟨bz,b0⟩:=Ks hm;rw[hm]at K;simp only[Af4]at K;by_cases S:m<56320\/57344<=m
        . have A:E5 (s.data.toList.drop j)=.bad 3 0:=by rw[he];unfold Fp;rw[if_neg (by omega),if_neg an,hm];simp only;rw[if_pos S]
          rw[A]at y;simp only at y;obtain⟨U,H3,Z,HX,ad,B,ae⟩:=hid7 P J y hX K a F;clear P J y hX K a F;clear hg Q C he A hu hm;rcases S with S|S
          . have l4:decide ((m:Int)<56320)=true:=decide_eq_true (by omega);clear S;go_wp2_with (fail);(with_reducible refine(HX.out _).mono ?_);rintro e I ⟨rfl,rfl⟩;go_wp2_with (fail);(with_reducible refine(ad.out _).mono ?_);rintro e I ⟨rfl,rfl⟩;go_wp2;exact bodyPost_ret (Ar rfl _ _ _) rfl ⟨by rw[Z.out];rfl,U.out⟩
          . have l4:decide ((m:Int)<56320)=false:=decide_eq_false (by omega);have l5:decide ((57344:Int)<=(m:Int))=true:=decide_eq_true (by omega);clear S;go_wp2_with (fail);(with_reducible refine(HX.out _).mono ?_);rintro e I ⟨rfl,rfl⟩;go_wp2_with (fail);(with_reducible refine(ad.out _).mono ?_);rintro e I ⟨rfl,rfl⟩;go_wp2;exact bodyPost_ret (Ar rfl _ _ _) rfl ⟨by rw[Z.out];rfl,U.out⟩
        . have A:E5 (s.data.toList.drop j)=.ok (65536+1024*(u - 55296)+(m - 56320)) 12:=by rw[he];unfold Fp;rw[if_neg (by omega),if_neg an,hm];simp only;rw[if_neg S]
          have l4:decide ((m:Int)<56320)=false:=decide_eq_false (by omega);have l5:decide ((57344:Int)<=(m:Int))=false:=decide_eq_false (by omega);have E:=fun W=>F _ _ W A;have b:=fun W'=>a _ _ W' A;have eq:(((65536+1024*(u - 55296)+(m - 56320):Nat)):Int)=65536+1024*((u:Int) - 55296)+(m:Int) - 56320:=by omega
          rw[eq]at E b;have ai:=Se (65536+1024*((u:Int) - 55296)+(m:Int) - 56320);generalize Lib.encodeRune (65536+1024*((u:Int) - 55296)+(m:Int) - 56320)=X at E b ai;have bt:=(b wo (Below.refl _ _)).2.1;obtain⟨U,H3,Z,HX,ad,B,ae,z,l⟩:=hid9 P J y hX K a F E b;clear P J y hX K a F E b;clear hg Q C he A hu hm S an eq;go_wp2_with (fail);(with_reducible refine(HX.out _).mono ?_);rintro e I ⟨rfl,rfl⟩;go_wp2_with (fail);(with_reducible refine(ad.out _).mono ?_);rintro e I ⟨rfl,rfl⟩;go_wp2_with (fail);(with_reducible refine(z.out _).mono ?_);rintro e I ⟨rfl,d⟩;have t:=qz (l.out I d).1;clear d;go_wp2;go_roundw
          case rel=>exact⟨_,j+12,rfl,by go_num,by omega,t⟩
          case measure=>simp[intOf];omega
     . have A:E5 (s.data.toList.drop j)=.ok u 6:=by rw[he];unfold Fp;rw[if_pos (by omega)]
       have E:=fun W=>F _ _ W A;have b:=fun W'=>a _ _ W' A;have l0:decide ((0:Int)<=(u:Int))=true:=decide_eq_true (by omega);have ai:=Se (u:Int);generalize Lib.encodeRune (u:Int)=X at E b ai;obtain⟨U,H3,Z,HX,B,ae,z,l⟩:=hid8 P J y hX a F E b;clear P J y hX a F E b;clear hg Q C he A hu;rcases(by omega:u<55296\/(55296<=u/\57344<=u))with S|⟨S,bn⟩
       . have l1:decide ((55296:Int)<=(u:Int))=false:=decide_eq_false (by omega);clear a7 S;go_wp2_with (fail);(with_reducible refine(HX.out _).mono ?_);rintro e I ⟨rfl,rfl⟩;go_wp2_with (fail);(with_reducible refine(z.out _).mono ?_);rintro e I ⟨rfl,d⟩;have t:=qz (l.out I d).1;clear d;go_wp2;go_roundw
         case rel=>exact⟨_,j+6,rfl,by go_num,by omega,t⟩
         case measure=>simp[intOf];omega
       . have l1:decide ((55296:Int)<=(u:Int))=true:=decide_eq_true (by omega);have l2:decide ((u:Int)<57344)=false:=decide_eq_false (by omega);clear a7 S bn;go_wp2_with (fail);(with_reducible refine(HX.out _).mono ?_);rintro e I ⟨rfl,rfl⟩;go_wp2_with (fail);(with_reducible refine(z.out _).mono ?_);rintro e I ⟨rfl,d⟩;have t:=qz (l.out I d).1;clear d;go_wp2;go_roundw
         case rel=>exact⟨_,j+6,rfl,by go_num,by omega,t⟩
         case measure=>simp[intOf];omega
end Go.Proofs.YtjgfchcldhmjcaaGreatDoor
