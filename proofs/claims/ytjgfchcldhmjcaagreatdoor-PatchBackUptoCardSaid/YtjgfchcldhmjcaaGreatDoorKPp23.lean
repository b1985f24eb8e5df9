/- Parts: A number, gathered below 0 digit by digit: the plain part. No condition. -/
import Derived.Test.YtjgfchcldhmjcaaGreatDoorKPp20
set_option maxHeartbeats 20000000
set_option maxRecDepth 100000
namespace Go.Proofs.YtjgfchcldhmjcaaGreatDoor
open Go Go.RowKit
theorem Ab.len6 {w:World} {B:Nat} {v:Val} {cs:List Value} (h:Ab w B v cs):cs.length=6:=by
 obtain⟨k,b,n,t,l,o⟩:=v;simp only[Ab]at h;obtain⟨a,c,d,oc,rfl,_⟩:=h;rfl
theorem Ua {w:World} {g b:Nat} {cs a:List Value} (k:cs.length=a.length) (h: ∀j u,cs[j]? =some u->w.cell? ⟨g,b+j,none⟩=some u) (e: ∀j u,a[j]? =some u->w.cell? ⟨g,b+j,none⟩=some u):cs=a:=by
 refine List.ext_getElem k fun j f i=> ?_;have d:=h j _ (List.getElem?_eq_getElem f);have c:=e j _ (List.getElem?_eq_getElem i);rw[d]at c;exact Option.some.inj c
theorem Aq.inj {w:World} {B B':Nat}: ∀{l l':List Val},(∀v ∈ l,∀cs v',Ab w B v cs->Ab w B' v' cs->v=v')->l.length=l'.length-> ∀{g off},Aq w B l g off->Aq w B' l' g off->l=l'
 | [], [],_,_,_,_,_,_=>rfl
 | [],_::_,_,hl,_,_,_,_=>by simp at hl
 |_::_, [],_,hl,_,_,_,_=>by simp at hl
 |v::r,v'::r',ih,hl,g,off,h,h'=>by
  simp only[Aq]at h h';obtain⟨⟨cs,f,j⟩,i⟩:=h;obtain⟨⟨b,a,d⟩,c⟩:=h';have e:cs=b:=Ua (by rw[f.len6,a.len6]) j d;subst e;rw[ih v (by simp) cs v' f a,Aq.inj (fun x k=>ih x (by simp[k])) (by simpa using hl) i c]
theorem An.inj {w:World} {B B':Nat}: ∀{l l':List (ByteArray×Val)},(∀m ∈ l,∀cs v',Ab w B m.2 cs->Ab w B' v' cs->m.2=v')->l.length=l'.length-> ∀{g off},An w B l g off->An w B' l' g off->l=l'
 | [], [],_,_,_,_,_,_=>rfl
 | [],_::_,_,hl,_,_,_,_=>by simp at hl
 |_::_, [],_,hl,_,_,_,_=>by simp at hl
 |(key,v)::r,(key',v')::r',ih,hl,g,off,h,h'=>by
  simp only[An,Ku]at h h';obtain⟨⟨h0,cs,i,n⟩,k⟩:=h;obtain⟨⟨a,c,b,f⟩,d⟩:=h';have e:cs=c:=Ua (by rw[i.len6,b.len6]) n f;subst e;rw[h0]at a;simp only[Option.some.injEq,Value.string.injEq]at a;have j:v=v':=ih (key,v) (by simp) cs v' i b;rw[j,a,An.inj (fun x o=>ih x (by simp[o])) (by simpa using hl) k d]
theorem Ab.inj {w:World} {B B':Nat}: ∀(v:Val) (cs:List Value) (v':Val),Ab w B v cs->Ab w B' v' cs->v=v':=by
 refine Val.ind ?_;intro k b n t l o z A cs v' h s;obtain⟨G,b',J,L,l',o'⟩:=v';simp only[Ab]at h s;obtain⟨H,I,K,oc,rfl,p,q⟩:=h;obtain⟨C,D,E,F,e,c,d⟩:=s;simp only[Eb,List.cons.injEq,Value.int.injEq,Value.bool.injEq,Value.string.injEq,Value.slice.injEq,true_and,and_true]at e;obtain⟨rfl,rfl,rfl,rfl,⟨rfl,j,rfl⟩,⟨rfl,m,rfl⟩⟩:=e;have u:l=l':=by
  rcases p with rfl|⟨g,r,i,_,p⟩
  . exact(List.eq_nil_of_length_eq_zero (by simpa using j.symm)).symm
  . rcases c with rfl|⟨y,f,a,_,c⟩
    . exact List.eq_nil_of_length_eq_zero (by simpa using j)
    . rw[i]at a
      cases a
      exact Aq.inj z j p c
 have x:o=o':=by
  rcases q with rfl|⟨g,r,i,_,q⟩
  . exact(List.eq_nil_of_length_eq_zero (by simpa using m.symm)).symm
  . rcases d with rfl|⟨y,f,a,_,d⟩
    . exact List.eq_nil_of_length_eq_zero (by simpa using m)
    . rw[i]at a
      cases a
      exact An.inj A m q d
 rw[u,x]
theorem Aj1 {w:World} {B B':Nat} {l l':List Cq} {a:Option Addr} {n c:Nat} (h:Ag w B (.row 7 (dO l)) [.slice a n c]) (t:Ag w B' (.row 7 (dO l')) [.slice a n c]):l=l':=by
 have i:=h.row_len;have j:=t.row_len;rw[Cb]at i j;obtain⟨a1,c1,e,_,ns,y,o⟩:=h;obtain⟨E,c2,s,_,C,k,d⟩:=t;simp only[List.cons.injEq,Value.slice.injEq,and_true]at e s;obtain⟨rfl,_,rfl⟩:=e;obtain⟨rfl,_,rfl⟩:=s;have key:l≠ []->l=l':=fun b=>by
  rcases o with o|⟨g,D,v,_,z⟩
  . cases l with
    |nil=>exact absurd rfl b
    |cons x r=>simp[dO]at o
  rcases d with d|⟨F,u,f,_,p⟩
  . cases l' with
    |nil=>exact List.eq_nil_of_length_eq_zero (by simpa using(i.symm.trans j))
    |cons x r=>simp[dO]at d
  rw[v]at f
  cases f
  exact An.inj (fun m _ cs v' A q=>Ab.inj m.2 cs v' A q) (by omega) (Ah.toO (fun m _ cs=>Be m.2 cs) y z) (Ah.toO (fun m _ cs=>Be m.2 cs) k p)
 by_cases b:l= []
 . subst b;exact(List.eq_nil_of_length_eq_zero (by simpa using(j.symm.trans i))).symm
 . exact key b
theorem Aj0 {w:World} {B B':Nat} {l l':List Nat} {a:Option Addr} {n c:Nat} (h:Ag w B (.row 1 (Im l)) [.slice a n c]) (j:Ag w B' (.row 1 (Im l')) [.slice a n c]):l=l':=by
 have p:=h.row_len;have q:=j.row_len;rw[O1]at p q;refine List.ext_getElem (by omega) fun i s t=> ?_;obtain⟨g,x,r,_,cs,u,_,v⟩:=h.at_ (i:=i) (d:=dPt l[i]) (by simp[Im,s]);obtain⟨z,k,b,_,o,e,_,f⟩:=j.at_ (i:=i) (d:=dPt l'[i]) (by simp[Im,t]);rw[r]at b
 cases b
 obtain⟨rfl,_⟩:=u;obtain⟨rfl,_⟩:=e;have y:=v 0 _ rfl;have m:=f 0 _ rfl;rw[y]at m;simpa using m
theorem Az.inj {w:World} {B B':Nat}: ∀{ks ks':List Nd},(∀k ∈ ks,∀b a,Ct w B k b->Ct w B' a b->k=a)-> ∀{bs},Az w B ks bs->Az w B' ks' bs->ks=ks'
 | [], [],_,_,_,_=>rfl
 | [],k::r,_,bs,h,h'=>by
   simp only[Az]at h h';obtain⟨b,t,e,_⟩:=h';rw[h]at e;cases e
 |k::r, [],_,bs,h,h'=>by
  simp only[Az]at h h';obtain⟨b,t,e,_⟩:=h;rw[h']at e;cases e
 |k::r,a::r',ih,bs,h,h'=>by
  simp only[Az]at h h';obtain⟨b,t,rfl,f,g⟩:=h;obtain⟨b',j,e,c,d⟩:=h'
  cases e
  rw[ih k (by simp) b a f c,Az.inj (fun x i=>ih x (by simp[i])) g d]
theorem Ct.inj {w:World} {B B':Nat}: ∀(n:Nd) (b:Nat) (l:Nd),Ct w B n b->Ct w B' l b->n=l:=by
 refine Nd.ind ?_ ?_
 . intro z b l h g
   cases l with
   |leaf es'=>
    simp only[Ct]at h g;obtain⟨_,a,c,i,j⟩:=h;obtain⟨_,m,o,f,d⟩:=g;have e:=j.symm.trans d;simp only[Option.some.injEq,Obj.cells.injEq,Array.mk.injEq,List.cons.injEq,Value.slice.injEq,true_and,and_true]at e;obtain⟨⟨rfl,p,rfl⟩,_⟩:=e;rw[p]at i;rw[Aj1 i f]
   |inner ks'=>
    simp only[Ct]at h g;obtain⟨_,a,c,i,j⟩:=h;obtain⟨_,s,m,o,f,d,_⟩:=g;have e:=j.symm.trans d;simp only[Option.some.injEq,Obj.cells.injEq,Array.mk.injEq,List.cons.injEq,Value.int.injEq,true_and,Tf]at e;omega
 . intro ks x b l h g
   cases l with
   |leaf es'=>
    simp only[Ct]at h g;obtain⟨_,s,a,c,i,j,_⟩:=h;obtain⟨_,m,o,f,d⟩:=g;have e:=j.symm.trans d;simp only[Option.some.injEq,Obj.cells.injEq,Array.mk.injEq,List.cons.injEq,Value.int.injEq,true_and,Tf]at e;omega
   |inner ks'=>
    simp only[Ct]at h g;obtain⟨_,s,a,c,i,j,t⟩:=h;obtain⟨_,bs',m,o,f,d,q⟩:=g;have e:=j.symm.trans d;simp only[Option.some.injEq,Obj.cells.injEq,Array.mk.injEq,List.cons.injEq,Value.slice.injEq,true_and,and_true]at e;obtain⟨⟨rfl,p,rfl⟩,_⟩:=e;rw[p]at i;have eb:=Aj0 i f;subst eb;rw[Az.inj (fun k v b y u r=>x k v b y u r) t q]
theorem P5 {a k:ByteArray} {v:Value} {r:List (ByteArray×Value)} (h:a≠k) (b:Dw a r=none):Dw a ((k,v)::r)=none:=by
 simp only[Dw,if_neg h];exact b
def L2 (s:ByteArray):Option Value:=(Ka s).map fun f=> .agg #[.int .i64 f.1,.bool f.2.1,.bool f.2.2]
theorem Xm (w:World):Calls Tryz.prog 38 #[] w fun e w'=> ∃g,e=.returned (.map (some g))/\w.heap.size<=g/\Fh w' g 3 L2/\Below w.heap.size w w':=by
 have y:=fun W=>run_makeMap (P:=Tryz.prog) 87 W;have a:Hid (Below w.heap.size w (w.alloc (.map #[] 0))):=(Below.refl _ _).alloc (Nat.le_refl _) _;have d:=qz (Co.new (f:=Value.string) w);go_enter Tryz.func38,Tryz.ntmps38;go_wp2_with (first
  |((with_reducible refine Ce rfl (.tmp 1) _ _ 87 rfl Pe Tryz.underlying87 rfl d.out rfl rfl rfl ?_);intro z j n u;have b:=qz (a.out.grown n a.out.size (fun k e=>(by cases e;exact Nat.le_refl _)));have h:=qz j;clear j n u d a)
  |((with_reducible refine Ce rfl (.tmp 1) _ _ 87 rfl Pe Tryz.underlying87 rfl h.out rfl rfl (P5 (by decide) rfl) ?_);intro A l o v;have c:=qz (b.out.grown o b.out.size (fun k e=>(by cases e;exact Nat.le_refl _)));have i:=qz l;clear l o v h b)
  |((with_reducible refine Ce rfl (.tmp 1) _ _ 87 rfl Pe Tryz.underlying87 rfl i.out rfl rfl (P5 (by decide) (P5 (by decide) rfl)) ?_);intro w4 m p x;have s:=qz (c.out.grown p c.out.size (fun k e=>(by cases e;exact Nat.le_refl _)));have t:=qz m;clear m p x i c))
 go_ret;refine⟨_,rfl,Nat.le_refl _,⟨_,t.out,rfl,fun k=> ?_⟩,s.out⟩;simp only[List.nil_append,List.cons_append,Dw,L2,Ka];by_cases h0:k=G6
 . rw[if_pos h0,if_pos h0];rfl
 rw[if_neg h0,if_neg h0];by_cases q:k=Ic
 . rw[if_pos q,if_pos q];rfl
 rw[if_neg q,if_neg q];by_cases r:k=Du
 . rw[if_pos r,if_pos r];rfl
 . rw[if_neg r,if_neg r];rfl
theorem Tb (k:Int) (a b:Bool) (w:World):Calls Tryz.prog 78 #[.agg #[.int .i64 k,.bool a,.bool b]] w fun e w'=>e=.returned (.int .i64 ((1+(if a then 1 else 0)+(if b then 1 else 0):Nat):Int))/\Below w.heap.size w w':=by
 have c:=qz (Aa w (.cells #[.int .i64 k,.bool a,.bool b] 144))
 cases a<;>cases b
 all_goals
  go_enter Tryz.func78,Tryz.ntmps78;go_wp2;go_ret;exact⟨rfl,c.out⟩
def Um (w:World):Prop:= ∃te pe,w.cell? ⟨7,0,none⟩=some (.iface te pe)
structure NRd (w wr:World) (R g:Nat) (s:ByteArray) (j:Nat):Prop where
 went:Bj R g s j w wr
 res:Ap wr w.heap.size 42 Al
theorem Aa2 (R g:Nat) (s:ByteArray) (k:Nat) (d:Int) (w:World) (hN: ∀W,w.grownBy W (some R)->Um W) (hs:s.size<=100000000) (hk:k<s.size) (h:Vj w R g s k):
 Calls Tryz.prog 140 #[.pointer (some ⟨R,0,none⟩),.int .i64 d] w (Gu R g s w ((Cl s.data.toList k).map Oa)):=by
 have hR:R<w.heap.size:=Ap.lt h;obtain⟨c,hc⟩: ∃c,s[k]=c:=⟨_,rfl⟩;have hg:s.data.toList[k]? =some c:=by rw[Bc s hk,hc]
 have a6:=Bl c;obtain⟨F,hF⟩: ∃F,(if s.data.toList[k]? =some 45 then k+1 else k)=F:=⟨_,rfl⟩;obtain⟨Y,u⟩: ∃r,(Cl s.data.toList k).map Oa=r:=⟨_,rfl⟩;rw[u];unfold Cl at u;rw[hF]at u;have a4:k<=F/\F<=k+1:=by rw[<-hF];split<;>omega
 have D:Hid (NRd w (w.alloc (.cells Al 42)) R g s k):=⟨(Bj.refl h).alloc _,Ap.new _ _ _⟩;have aw:((c.toNat:Int)==45)=decide (c=45):=by rw[show(45:Int)=((45:Nat):Int)from rfl,Ie (by decide)];rfl
 obtain⟨c0,c1,_,f1,_⟩:=h.cells;have i0:(0:Int)<=(k:Int):=by omega
 have i1:(k:Int)<(s.size:Int):=by omega
 obtain⟨HN,H,ai,Hg,HF⟩:=hid5 hN h u hg hF;clear hN h u hg hF;go_enter Tryz.func140,Tryz.ntmps140;go_wp2;go_quiet (fail);go_upto_if 22 with(fail);go_cut [] (fun wx=>Hid (NRd w wx R g s F))
 case first=>
  by_cases b:c=45
  . have an:decide (c=45)=true:=decide_eq_true b;have Q:F=k+1:=by rw[<-HF.out,Hg.out,b,if_pos rfl]
    go_wp2;go_meet;rw[Q];exact⟨(D.out.went.drewN _).set _,D.out.res.far (by simp;omega) _⟩
  . have an:decide (c=45)=false:=decide_eq_false b;have Q:F=k:=by rw[<-HF.out,Hg.out,if_neg (by simpa using b)]
    go_wp2;go_meet;rw[Q];exact⟨D.out.went.drewN _,D.out.res⟩
 have ap:=Pz s.data.toList F;have aj:=P0 (s:=s.data.toList) (p:=F) (by rw[Ac];omega);rw[Ac]at aj;have M:=hcut;obtain⟨E,hE⟩: ∃E,B6 s.data.toList F=E:=⟨_,rfl⟩;rw[hE]at ap aj;clear hcut D c0 c1 f1 i0 i1;obtain⟨a0,a1,_,f1,_⟩:=M.out.went.2.cells;have HE:=qz hE;clear hE
 go_upto_block 0 with(fail)
 go_cut [] (fun wx=>Hid (NRd w wx R g s E))
 case first=>
  go_wp2_with (fail)
  go_loopg [] (s.size - F) (fun n wr=> ∃j:Nat,F<=j/\j<=s.size/\n=s.size - j/\Hid (B6 s.data.toList j=E/\NRd w wr R g s j))
  case atStart=>exact⟨F,Nat.le_refl _,by omega,rfl,HE.out,M.out⟩
  case round=>
   obtain⟨j,a7,hj,rfl,C⟩:=hrel;obtain⟨z0,z1,_,z3,_⟩:=C.out.2.went.2.cells;clear M a0 a1 f1;have j0:(0:Int)<=(j:Int):=by omega
   by_cases aq:j<s.size
   . obtain⟨x,hx⟩: ∃x,s[j]=x:=⟨_,rfl⟩;have z:s.data.toList[j]? =some x:=by rw[Bc s aq,hx]
     have av:=Bl x;have j1:decide ((j:Int)<(s.size:Int))=true:=decide_eq_true (by omega);have j2:(j:Int)<(s.size:Int):=by omega
     by_cases B:Ck x=true
     . have i:Hid (B6 s.data.toList (j+1)=E/\ ∀nq,NRd w ((wr.drewN nq).setCell ⟨R,1,none⟩ (.int .i64 ((j+1:Nat):Int))) R g s (j+1)):=⟨by rw[<-Qv z B];exact C.out.1,fun nq=>⟨(C.out.2.went.drewN nq).set _,C.out.2.res.far (by simp;omega) _⟩⟩;unfold Ck at B;rw[decide_eq_true_iff]at B;have l1:decide ((48:Int)<=(x.toNat:Int))=true:=decide_eq_true (by omega);have l2:decide ((x.toNat:Int)<=57)=true:=decide_eq_true (by omega);clear z C B;go_wp2;go_quiet (fail);go_wp2
       go_roundg (s.size - (j+1))
       case measure=>omega
       case rel=>exact⟨j+1,by omega,by omega,rfl,i.out.1,i.out.2 _⟩
     . have i:Hid (j=E/\ ∀nq,NRd w (wr.drewN nq) R g s j):=⟨by rw[<-C.out.1,Qw z (by simpa using B)],fun nq=>⟨C.out.2.went.drewN nq,C.out.2.res⟩⟩;unfold Ck at B;rw[decide_eq_true_iff]at B;clear z C;by_cases a2:48<=x.toNat
       . have l1:decide ((48:Int)<=(x.toNat:Int))=true:=decide_eq_true (by omega);have l2:decide ((x.toNat:Int)<=57)=false:=decide_eq_false (by omega);go_wp2;go_quiet (fail);go_wp2;go_meet;have:=i.out.2;rw[i.out.1]at this;exact this _
       . have l1:decide ((48:Int)<=(x.toNat:Int))=false:=decide_eq_false (by omega);go_wp2;go_quiet (fail);go_wp2;go_meet;have:=i.out.2;rw[i.out.1]at this;exact this _
   . have i:Hid (j=E/\ ∀nq,NRd w (wr.drewN nq) R g s j):=⟨by rw[<-C.out.1,S5 (by rw[Ac];omega)],fun nq=>⟨C.out.2.went.drewN nq,C.out.2.res⟩⟩;have j1:decide ((j:Int)<(s.size:Int))=false:=decide_eq_false (by omega);clear C;go_wp2;go_quiet (fail);go_wp2;go_meet;have:=i.out.2;rw[i.out.1]at this;exact this _
 have A:=hcut;clear hcut M a0 a1 f1;obtain⟨a0,a1,_,f1,_⟩:=A.out.went.2.cells
 go_upto_block 2 with(fail)
 go_cut [] (fun wx=>Hid (NRd w wx R g s E/\F<E/\(F=k+1->Ff ((s.data.toList.drop F).take (E - F))≠0)/\(Ec (decide (s.data.toList[k]? =some 45)) (Ff ((s.data.toList.drop F).take (E - F))) k E).map Oa=Y))
 case first=>
  have a:=ai.out;unfold Lg at a;rw[HE.out]at a;have F0:(0:Int)<=(F:Int):=by omega
  by_cases aa:E=F
  . rw[if_pos aa]at a;subst a;subst aa;have e1:((E:Int)==(E:Int))=true:=by simp
    have X:=qz (Cc (.pointer (some ⟨R,0,none⟩)) 4 (E:Nat) wc);go_wp2_with (fail);(with_reducible refine(X.out).mono ?_);rintro e ag ⟨rfl,rfl⟩;exact⟨rfl,rfl,A.out.went.1⟩
  . rw[if_neg aa]at a;have e1:((E:Int)==(F:Int))=false:=by rw[beq_eq_false_iff_ne];omega
    have ao:F<s.size:=by omega
    have F1:(F:Int)<(s.size:Int):=by omega
    obtain⟨x,hx⟩: ∃x,s[F]=x:=⟨_,rfl⟩;have z:s.data.toList[F]? =some x:=by rw[Bc s ao,hx]
    have av:=Bl x;rw[z]at a;have U:((x.toNat:Int)==48)=decide (x=48):=by rw[show(48:Int)=((48:Nat):Int)from rfl,Ie (by decide)];rfl
    by_cases hz:x=48
    . have Z:decide (x=48)=true:=decide_eq_true hz;rw[Z]at U;by_cases T:F+1<E
      . rw[if_pos ⟨by rw[hz],T⟩]at a;subst a;have e2:decide ((F:Int)+1<(E:Int))=true:=decide_eq_true (by omega);have e3:(F:Int)+1<(E:Int):=by omega
        have X:=qz (Cc (.pointer (some ⟨R,0,none⟩)) 4 ((F:Int)+1) wc);go_wp2_with (fail);(with_reducible refine(X.out).mono ?_);rintro e ag ⟨rfl,rfl⟩;exact⟨rfl,by simp[La],A.out.went.1⟩
      . rw[if_neg (fun q=>T q.2)]at a;have e2:decide ((F:Int)+1<(E:Int))=false:=decide_eq_false (by omega);have e3: ¬((F:Int)+1<(E:Int)):=by omega
        have S:E=F+1:=by omega
        have O:(s.data.toList.drop F).take (E - F)= [48]:=by rw[S,Nat.add_sub_cancel_left,Ep z,hz];rfl
        by_cases hn:F=k+1
        . have b:s.data.toList[k]? =some 45:=by
           by_cases q:s.data.toList[k]? =some 45
           . exact q
           . have:=HF.out;rw[if_neg q]at this;omega
          have e4:decide ((k:Int)<(F:Int))=true:=decide_eq_true (by omega);have e5:(k:Int)<(F:Int):=by omega
          have af:Ec (decide (s.data.toList[k]? =some 45)) (Ff ((s.data.toList.drop F).take (E - F))) k E=.bad 7 k:=by
           rw[O,decide_eq_true b];rfl
          rw[af]at a;subst a;have X:=qz (Cc (.pointer (some ⟨R,0,none⟩)) 7 (k:Nat) wc);obtain⟨ay,az⟩:=hid2 O af;clear O af;clear b hn S;go_wp2_with (fail);(with_reducible refine(X.out).mono ?_);rintro e ag ⟨rfl,rfl⟩;exact⟨rfl,rfl,A.out.went.1⟩
        . have e4:decide ((k:Int)<(F:Int))=false:=decide_eq_false (by omega);have e5: ¬((k:Int)<(F:Int)):=by omega
          have HJ:Hid (NRd w wc R g s E/\F<E/\(F=k+1->Ff ((s.data.toList.drop F).take (E - F))≠0)/\(Ec (decide (s.data.toList[k]? =some 45)) (Ff ((s.data.toList.drop F).take (E - F))) k E).map Oa=Y):=⟨A.out,by omega,fun q=>absurd q hn,a⟩;clear a O;go_wp2;go_meet;exact HJ
    . have Z:decide (x=48)=false:=decide_eq_false hz;rw[Z]at U;rw[if_neg (fun q=>hz (by simpa using q.1))]at a;have HJ:Hid (NRd w wc R g s E/\F<E/\(F=k+1->Ff ((s.data.toList.drop F).take (E - F))≠0)/\(Ec (decide (s.data.toList[k]? =some 45)) (Ff ((s.data.toList.drop F).take (E - F))) k E).map Oa=Y):=⟨A.out,by omega,fun _=>Acg z hz (by rw[HE.out];omega) HE.out,a⟩;clear a;go_wp2;go_meet;exact HJ
 obtain⟨o,a3,ae,a⟩:=hcut.out;clear hcut A a0 a1 f1;obtain⟨a0,a1,_,f1,_⟩:=o.went.2.cells;have k0:(0:Int)<=(k:Int):=by omega
 have k1:(k:Int)<=(E:Int):=by omega
 have k2:(E:Int)<=(s.size:Int):=by omega
 have hT:(s.extract k E).data.toList=(s.data.toList.drop k).take (E - k):=by rw[Lib.extract_data]
 have a5:(s.extract k E).size<=100000000:=by simp only[ByteArray.size_extract];omega
 have y:=Afp s.data.toList F;rw[HE.out]at y;have P:(s.data.toList.drop F).take (E - F)≠ []:=by
  intro e;have:=congrArg List.length e;rw[List.length_take,List.length_drop,Ac]at this;simp at this;omega
 obtain⟨m,T⟩: ∃m,Ff ((s.data.toList.drop F).take (E - F))=m:=⟨_,rfl⟩;rw[T]at a ae;have l:Lib.parseIntB 64 (s.extract k E).data.toList=match Ec (decide (s.data.toList[k]? =some 45)) m k E with| .ok v _=> .ok v| .bad _ _=> .range:=by
  rw[hT];by_cases b:s.data.toList[k]? =some 45
  . have Q:F=k+1:=by rw[<-HF.out,if_pos b]
    have e1:(s.data.toList.drop k).take (E - k)=45::(s.data.toList.drop F).take (E - F):=by
     rw[Ep b,show E - k=(E - F)+1 by omega,List.take_succ_cons,Q]
    rw[e1,Ait y P,T,decide_eq_true b];unfold Ec;rw[if_pos rfl];have:=ae Q;by_cases K:9223372036854775808<m
    . rw[if_pos K,if_pos (.inr K)]
    . rw[if_neg K,if_neg (by rintro(q|q);exact this q;exact K q)]
  . have Q:F=k:=by rw[<-HF.out,if_neg b]
    rw[Q]at y P T;rw[Aiu y P,T,decide_eq_false b];unfold Ec;rw[if_neg (show ¬((false:Bool)=true)by decide)];by_cases K:9223372036854775807<m
    . rw[if_pos K,if_pos K]
    . rw[if_neg K,if_neg K]
 have ad:(∃v,Ec (decide (s.data.toList[k]? =some 45)) m k E=.ok v E)\/Ec (decide (s.data.toList[k]? =some 45)) m k E=.bad 7 k:=by
  unfold Ec
  split
  . split
    . exact .inr rfl
    . exact .inl ⟨_,rfl⟩
  . split
    . exact .inr rfl
    . exact .inl ⟨_,rfl⟩
 clear hT y P T ae;rcases ad with⟨v,hv⟩|hv
 . rw[hv]at l a;simp only at l;subst a;have J: ∀W:World,Calls Tryz.prog 206 #[.string (s.extract k E),.int .i64 10,.int .i64 64] W fun e w'=>e=.returned (.tuple #[.int .i64 v,.nilIface])/\Below W.heap.size W w':=fun W=>
    (Tryz.strconv_ParseInt_ok (s.extract k E) (by omega) v l W).mono fun e w' ⟨he,hw⟩=>⟨he,by
      rcases hw with rfl|⟨t,rfl⟩
      . exact Below.refl _ _
      . exact Go.Joins.below_bytesWorld _ _ _ _ (Nat.le_refl _)⟩
   have ak:=o.went.2.cells.2.2.2.2;obtain⟨V,G,al,Hv⟩:=hid4 J o l hv;clear J o l hv;go_wp2
   go_region_held3 (fun W=>W.cell? ⟨R,0,none⟩=some (.string s)/\W.cell? ⟨R,1,none⟩=some (.int .i64 E)) (go_keep) (first|(go_at_call 206;refine(V.out _).mono ?_;rintro e w1 ⟨rfl,L⟩;have f:Below wc.heap.size wc w1:=(Below.drew (Below.refl _ _)).trans L;obtain⟨ab,ac⟩:=E4 f))
   all_goals
    have I:NRd w w1 R g s E:=⟨G.out.went.below f,G.out.res.below f G.out.res.lt⟩;obtain⟨r0,r1,r2,r3,r4,r5⟩:=At I.res;have fz:=I.res.frozen;have ax:=I.res.lt;clear ab ac L f;have ah:=qz I;clear I;go_wp2;have au:=((((((ah.out.res.set_ 0 (.int .i64 3)).set_ 1 (.bool false)).set_ 2 (.int .i64 v)).set_ 3 (.string ⟨#[]⟩)).set_ 4 (.slice none 0 0)).set_ 5 (.slice none 0 0));exact bodyPost_ret (Br rfl rfl au) rfl ⟨⟨_,rfl,Bz 3 false v _⟩,Bj.many (Nat.le_refl _) hR [.int .i64 3,.bool false,.int .i64 v,.string ⟨#[]⟩,.slice none 0 0,.slice none 0 0] 0 ah.out.went⟩
 . rw[hv]at l a;simp only at l;subst a;have J: ∀W:World,Below wc.heap.size wc W->Calls Tryz.prog 206 #[.string (s.extract k E),.int .i64 10,.int .i64 64] W fun e w'=>(∃n te pe,e=.returned (.tuple #[.int .i64 n,.iface te pe]))/\Below W.heap.size W w':=fun W hW=>by
    obtain⟨te,pe,ar⟩:=HN.out W (Kh o.went.1 hW);exact(Tryz.strconv_ParseInt_range (s.extract k E) (by omega) l _ W ar (.inr ⟨te,pe,rfl⟩)).mono fun e w' ⟨N,he,_,_,K⟩=>⟨⟨_,_,_,he⟩,K⟩
   have ak:=o.went.2.cells.2.2.2.2;obtain⟨V,G,al,Hv⟩:=hid4 J o l hv;clear J o l hv;go_wp2
   go_region_held3 (fun W=>W.cell? ⟨R,0,none⟩=some (.string s)/\W.cell? ⟨R,1,none⟩=some (.int .i64 E)) (go_keep) (first|(go_at_call 206;refine(V.out _ (Below.drew (Below.refl _ _))).mono ?_;rintro e w1 ⟨⟨n,te,pe,rfl⟩,L⟩;have f:Below wc.heap.size wc w1:=(Below.drew (Below.refl _ _)).trans L;obtain⟨ab,ac⟩:=E4 f))
   all_goals
    have X:=qz (Cc (.pointer (some ⟨R,0,none⟩)) 7 (k:Nat) w1);have am:=qz (Kh G.out.went.1 f);clear ab ac L f;go_wp2_with (fail);(with_reducible refine(X.out).mono ?_);rintro e ag ⟨rfl,rfl⟩;exact⟨rfl,rfl,am.out⟩
structure RBx (w W:World) (cs:Array Value):Prop where
 below:Below w.heap.size w W
 blk:Ap W w.heap.size 42 cs
theorem RBx.start (w:World):RBx w (w.alloc (.cells Al 42)) Al:=⟨Aa w _,Ap.new _ _ _⟩
theorem RBx.later {w W a:World} {cs:Array Value} (h:RBx w W cs) (t:Below W.heap.size W a):RBx w a cs:=⟨h.below.trans (t.mono h.below.size),h.blk.below t h.blk.lt⟩
theorem RBx.many {w W:World} {f g i j k l:Value} (h:RBx w W #[f,g,i,j,k,l]) (a a1 b c d e:Value):RBx w (A4 W w.heap.size 0 [a,a1,b,c,d,e]) #[a,a1,b,c,d,e]:=
 ⟨As _ h.below (Nat.le_refl _),((((((h.blk.set_ 0 a).set_ 1 a1).set_ 2 b).set_ 3 c).set_ 4 d).set_ 5 e)⟩
def Gv (w:World) (RES:Rd Val) (e:Ending) (w':World):Prop:=Below w.heap.size w w'/\match RES with
 | .ok v q=> ∃cs:List Value,e=.returned (.tuple #[.agg cs.toArray,.int .i64 (q:Nat),.int .i64 0])/\A7 w.heap.size w' (dV v) cs
 | .bad c q=>e=.returned (.tuple #[.agg Al,.int .i64 (q:Nat),.int .i64 c])
def Rv (s:List UInt8) (f k:Nat):Nat:=Ff ((s.drop f).take k)
theorem Afm (s:List UInt8) (f:Nat):Rv s f 0=0:=by simp[Rv,Ff]
theorem Vv {s:List UInt8} {f k:Nat} {c:UInt8} (h:s[f+k]? =some c):Rv s f (k+1)=Rv s f k*10+(c.toNat - 48):=by
 unfold Rv;rw[List.take_add_one,List.getElem?_drop,h,Option.toList_some,Afo]
theorem Afl {s:List UInt8} {f k m:Nat} (h:k<=m):Rv s f k<=Rv s f m:=by
 unfold Rv;obtain⟨r,rfl⟩:=Nat.le.dest h;have:=Sc ((List.drop k (List.drop f s)).take r) (Ff ((List.drop f s).take k));unfold Ru at this;rw[List.take_add];unfold Ff at this ⊢;rw[List.foldl_append];exact this
theorem Aa8 {D d:Nat} (a:d<=9):(-(D:Int)<Int.tdiv (-9223372036854775808+(d:Int)) 10) ↔ 9223372036854775808<D*10+d:=by
 have e:Int.tdiv (-9223372036854775808+(d:Int)) 10= -(((9223372036854775808 - d) / 10:Nat):Int):=by
  rw[show(-9223372036854775808+(d:Int))= -((9223372036854775808 - d:Nat):Int)from by omega,Int.neg_tdiv];rfl
 rw[e];omega
end Go.Proofs.YtjgfchcldhmjcaaGreatDoor
