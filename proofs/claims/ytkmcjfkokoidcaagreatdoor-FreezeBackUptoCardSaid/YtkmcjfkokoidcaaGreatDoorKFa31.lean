/- Parts: What a reader of a whole text hands back, and the variable that holds its result. No condition. -/
import Derived.Test.YtkmcjfkokoidcaaGreatDoorKFa29
set_option maxHeartbeats 20000000
set_option maxRecDepth 100000
namespace Go.Proofs.YtkmcjfkokoidcaaGreatDoor
def Di (k:ByteArray):List A5->Option Val
 | []=>none
 |(a,x)::r=>if a=k then some x else Di k r
theorem W9 {k:ByteArray}: ∀{l:List A5},(∀e ∈ l,e.1≠k)->Di k l=none
 | [],_=>rfl
 |(a,x)::r,h=>by
  have h1:a≠k:=h (a,x) (by simp);rw[Di,if_neg h1,W9 fun e he=>h e (List.mem_cons_of_mem _ he)]
theorem T2 {q k:ByteArray} {v:Val}: ∀{l:List A5},Di q (Cf k v l)=if k=q then some v else Di q l
 | []=>by simp[Cf,Di]
 |(a,x)::r=>by
  simp only[Cf];by_cases h1:Dp a k=true
  . rw[if_pos h1,Di,T2,Di];by_cases h2:a=q
    . subst h2;rw[if_pos rfl,if_pos rfl,if_neg (Ab3 h1).symm]
    . rw[if_neg h2,if_neg h2]
  rw[if_neg h1];by_cases h2:a=k
  . subst h2;rw[if_pos rfl,Di,Di];by_cases h3:a=q
    . rw[if_pos h3,if_pos h3]
    . rw[if_neg h3,if_neg h3,if_neg h3]
  . rw[if_neg h2,Di]
theorem Abp {q k:ByteArray}: ∀{l:List A5},Di q (C1 k l)=if k=q then none else Di q l
 | []=>by simp[C1,Di]
 |(a,x)::r=>by
  have ih:=Abp (q:=q) (k:=k) (l:=r);by_cases h1:a=k
  . subst h1;have:C1 a ((a,x)::r)=C1 a r:=by simp[C1]
    rw[this,ih,Di];by_cases h2:a=q
    . rw[if_pos h2,if_pos h2]
    . rw[if_neg h2,if_neg h2,if_neg h2]
  . have:C1 k ((a,x)::r)=(a,x)::C1 k r:=by simp[C1,h1]
    rw[this,Di,ih,Di];by_cases h2:a=q
    . subst h2;rw[if_pos rfl,if_pos rfl,if_neg (fun e=>h1 e.symm)]
    . rw[if_neg h2,if_neg h2]
theorem N3 {k:ByteArray} {l:List A5} (h: ∀e ∈ l,Dp k e.1=true):Di k l=none:=W9 fun e he=>(Ab3 (h e he)).symm
theorem Xb {a q:ByteArray} {x:Val} {l:List A5} (h:a≠q):Di q ((a,x)::l)=Di q l:=by rw[Di,if_neg h]
def K6 (e:A5):Int:=if Zf e.1=false then 8 else Gt e.2
def As:List A5->Int
 | []=>0
 |e::r=>if K6 e=0 then As r else K6 e
theorem Q6 {l:List A5} (h:As l=0): ∀e ∈ l,Zf e.1=true/\Gt e.2=0:=by
 induction l with
 |nil=>intro e he;cases he
 |cons x r ih=>
  simp only[As]at h;by_cases hx:K6 x=0
  . rw[if_pos hx]at h;intro e he;rcases List.mem_cons.1 he with rfl|he
    . unfold K6 at hx;by_cases hk:Zf e.1=false
      . rw[if_pos hk]at hx;cases hx
      . rw[if_neg hk]at hx;exact⟨by simpa using hk,hx⟩
    . exact ih h e he
  . rw[if_neg hx]at h;exact absurd h hx
theorem Ac4: ∀{a b:List A5},(∀e ∈ a,Gt e.2=0)->(∀e ∈ b,Gt e.2=0)->En a b=true->a=b
 | [], [],_,_,_=>rfl
 | [],_::_,_,_,h=>by simp[En]at h
 |_::_, [],_,_,h=>by simp[En]at h
 |(k,x)::r,(k',y)::s,ha,hb,h=>by
  simp only[En,Bool.and_eq_true,decide_eq_true_eq]at h;have hx:Gt x=0:=ha (k,x) (by simp);have hy:Gt y=0:=hb (k',y) (by simp);rw[h.1,(Als (O7 hx).1 (O7 hy).1).1 h.2.1,Ac4 (fun e he=>ha e (by simp[he])) (fun e he=>hb e (by simp[he])) h.2.2]
end Go.Proofs.YtkmcjfkokoidcaaGreatDoor
namespace Go.Proofs.YtkmcjfkokoidcaaGreatDoor
open Go Go.RowKit
theorem Agn (k:ByteArray) (v:Val):K6 (k,v)=if Og k≠0 then 8 else Gt v:=by
 unfold K6;by_cases h:Og k=0
 . rw[if_neg (by rw[(Xd k).1 h];simp),if_neg (by simpa using h)]
 . rw[if_pos (by
    cases hk:Zf k with
    |false=>rfl
    |true=>exact absurd ((Xd k).2 hk) h),if_pos h]
theorem Me {l:List A5} {q:Nat} {e:A5} (h0:As (l.take q)=0) (hx:l[q]? =some e):As (l.take (q+1))=K6 e/\(K6 e≠0->As l=K6 e):=by
 induction l generalizing q with
 |nil=>simp at hx
 |cons x r ih=>
  cases q with
  |zero=>
   simp only[List.getElem?_cons_zero,Option.some.injEq]at hx;subst hx;refine⟨?_,fun h=> ?_⟩
   . simp only[Nat.zero_add,List.take_succ_cons,List.take_zero,As]
     split
     . rename_i h;exact h.symm
     . rfl
   . simp only[As,if_neg h]
  |succ q=>
   simp only[List.take_succ_cons,As]at h0 ⊢;by_cases hx0:K6 x=0
   . rw[if_pos hx0]at h0 ⊢;obtain⟨i1,i2⟩:=ih h0 (by simpa using hx);exact⟨i1,fun h=>by rw[if_pos hx0];exact i2 h⟩
   . rw[if_neg hx0]at h0;exact absurd h0 hx0
theorem Aea (S0:Nat->Prop) (b g n c i M:Nat) (l:List D) (w:World) (h:At S0 b 63 7 w l (.slice (some ⟨g,0,none⟩) n c)) (hl:l.length=M+1) (hi:i<=M) (hM:M<=1000):
 Calls Tryz.prog 109 #[.slice (some ⟨g,0,none⟩) n c,.int .i64 i,.int .i64 ((i:Int)+1)] w fun e w'=>e=.returned (.slice (some ⟨g,0,none⟩) M c)/\At S0 b 63 7 w' (l.take i++l.drop (i+1)) (.slice (some ⟨g,0,none⟩) M c)/\KB (fun k=>k=g) w w':=by
 obtain⟨PO,hPO⟩: ∃P:Ending->World->Prop,(fun e w'=>e=.returned (.slice (some ⟨g,0,none⟩) M c)/\At S0 b 63 7 w' (l.take i++l.drop (i+1)) (.slice (some ⟨g,0,none⟩) M c)/\KB (fun k=>k=g) w w')=P:=⟨_,rfl⟩;rw[hPO];obtain⟨i0,hi0,hz0,hzs,hzb⟩:=info_parts Abw;have hdw:Below w.heap.size w w.drew:=Below.drew (Below.refl _ w);obtain⟨cur,news,rfl,hnc,hcm,hcs,hg,k1,k2,k3,k4,k5,k6⟩:=(h.below hdw).del (i:=i) (j:=i+1) (by omega) (by omega) (z:= [.string ⟨#[]⟩,.int .i64 0,.bool false,.int .i64 0,.string ⟨#[]⟩,.slice none 0 0,.slice none 0 0]) (by rw[show i+1 - i=1 from by omega];rfl);rw[hl]at hnc k1 k4 k5 k6 ⊢;have em:i+(M+1 - (i+1))=M:=by omega
 have em2:M+1 - (i+1)=M - i:=by omega
 rw[em2]at k1;rw[em]at k6;obtain⟨W1,hW1⟩: ∃W,Ak w.drew g (i*7) news=W:=⟨_,rfl⟩;rw[hW1]at k5 k6;have hc63:c<=9223372036854775807:=by simp only[maxLen]at hcm;omega
 have hst:=run_storeCells_cells (P:=Tryz.prog) g (M*7) [.string ⟨#[]⟩,.int .i64 0,.bool false,.int .i64 0,.string ⟨#[]⟩,.slice none 0 0,.slice none 0 0] 0 W1 (fun j hj=>by rw[Nat.add_zero];exact(k5 (M*7+j) (by simp only[List.length_cons,List.length_nil]at hj;omega)).1) (fun j hj=>by rw[Nat.add_zero];exact(k5 (M*7+j) (by simp only[List.length_cons,List.length_nil]at hj;omega)).2) (by simp[Value.oneCell']);simp only[Nat.add_zero]at hst;have hzc:(Builtin.zeroCells (.agg #[.string ⟨#[]⟩,.int .i64 0,.bool false,.int .i64 0,.string ⟨#[]⟩,.slice none 0 0,.slice none 0 0]:Value).cells 1).toList= [.string ⟨#[]⟩,.int .i64 0,.bool false,.int .i64 0,.string ⟨#[]⟩,.slice none 0 0,.slice none 0 0]:=by kernel_rfl
 have hcl: ∀ty cc,(Builtin.clear_ #[22] ty #[.slice (some ⟨g,M*7,none⟩) 1 cc]).run Tryz.prog W1=.ok (.tuple #[]) (W1.setCells g (M*7) [.string ⟨#[]⟩,.int .i64 0,.bool false,.int .i64 0,.string ⟨#[]⟩,.slice none 0 0,.slice none 0 0]):=fun ty cc=>by
  simp[Builtin.clear_,run_underlying Tryz.underlying22,hzc,hst]
 have HP:Hid (PO (.returned (.slice (some ⟨g,0,none⟩) M c)) (W1.setCells g (M*7) [.string ⟨#[]⟩,.int .i64 0,.bool false,.int .i64 0,.string ⟨#[]⟩,.slice none 0 0,.slice none 0 0])):=by
  show PO _ _;rw[<-hPO,Ge];refine⟨rfl,k6, ?_⟩;rw[<-hW1];exact((KB.of_below hdw).trans ((KB.many (S:=fun k=>k=g) w.drew g (i*7) rfl news).trans (KB.many (S:=fun k=>k=g) _ g (M*7) rfl [.string ⟨#[]⟩,.int .i64 0,.bool false,.int .i64 0,.string ⟨#[]⟩,.slice none 0 0,.slice none 0 0]) fun _ _ h=>h) fun _ _ h=>h)
 have hs:Hid (∀j,j<news.length->(w.drew.cell? ⟨g,0+i*7+j,none⟩).isSome=true/\w.drew.frozen? ⟨g,0+i*7+j,none⟩=false):=fun j hj=>by
  rw[Nat.zero_add];exact k4 _ (by omega)
 obtain⟨A,hA,hsrc⟩: ∃A:Addr,(if c=i+1 then some (⟨g,0,none⟩:Addr)else some ⟨g,(i+1)*7,none⟩)=some A/\Hid (∀j u,news[j]? =some u->w.drew.cell? (A.add j)=some u):=by
  by_cases h:c=i+1
  . refine⟨⟨g,0,none⟩,by rw[if_pos h],fun j u hu=> ?_⟩;have:=(List.getElem?_eq_some_iff.1 hu).1;omega
  . exact⟨⟨g,(i+1)*7,none⟩,by rw[if_neg h],fun j u hu=>by rw[Bn];exact k2 j u hu⟩
 have hW1':w.drew.setCells g (0+i*7) news=W1:=by rw[Ge,Nat.zero_add];exact hW1
 have y1:((M+1:Nat):Int)=(M:Int)+1:=by omega
 have y2:(i:Int)<=(M:Int):=by omega
 have y3: ¬c=M:=by omega
 have y4:M+1 - M=1:=by omega
 have y5:i<=c:=by omega
 have y6:i+1<=c:=by omega
 have y7:M+1<=c:=by omega
 have y8:i<=M+1:=by omega
 have y9: ¬((i:Int)=(i:Int)+1):=by omega
 have y10:(0:Int)<=(i:Int)+1:=by omega
 obtain⟨K1,K3,Hi0,Hzs,HW1',HPO⟩:=hid6 k1 k3 hi0 hzs hW1' hPO;clear k1 k3 hi0 hzs hW1' hPO;clear h k2 k4 k5 k6 hcm hcs hg hz0 hzb hst hzc hdw hW1;go_enter Tryz.func109,Tryz.ntmps109;go_upto_region 5 with(fail);refine wp_region_held_drew (S:=fun _=>True) (by kernel_rfl) trivial (fun hHeld=> ?_);refine tkH 0 hHeld ?_;refine tkH 1 hHeld ?_;refine tkH 2 hHeld ?_;refine tkH 3 hHeld ?_;refine tkH 4 hHeld ?_;refine tkH 5 hHeld ?_;refine Ee 6 fun K hK=> ?_;refine step_append_room rfl (.tmp 22) (.tmp 25) 22 rfl 63 i0 7 Tryz.underlying22 Hi0.out Hzs.out g 0 i c (by simp[Act.eval]) A (M - i) (c - (i+1)) news (by simp[Act.eval]) K1.out hsrc.out K3.out (by omega) hs.out ?_;rw[HW1'.out];refine hK.out _ _ trivial (fun hHeld=> ?_);clear hK K
 try simp only[Act.put,tk1,tk2,tk3,tk4,tk5,tk6]
 refine tkH 7 hHeld ?_;refine wpAnyH_done (by kernel_rfl) ?_ _;clear hHeld;go_wp2;exact HP.out
def Mv (w:World):Prop:= ∃te pe,w.cell? ⟨6,0,none⟩=some (.iface te pe)
structure NRd (w wr:World) (R g:Nat) (s:ByteArray) (j:Nat):Prop where
 went:Br R g s j w wr
 res:Aj wr w.heap.size 37 Bk
theorem Acy (R g:Nat) (s:ByteArray) (k:Nat) (d:Int) (w:World) (hN: ∀W,w.grownBy W (some R)->Mv W) (hs:s.size<=100000000) (hk:k<s.size) (h:Wk w R g s k):
 Calls Tryz.prog 150 #[.pointer (some ⟨R,0,none⟩),.int .i64 d] w (Gv R g s w ((Dg s.data.toList k).map Q5)):=by
 have hR:R<w.heap.size:=Aj.lt h;obtain⟨c,hc⟩: ∃c,s[k]=c:=⟨_,rfl⟩;have hg:s.data.toList[k]? =some c:=by rw[Dx s hk,hc]
 have hcl:=Dr c;obtain⟨F,hF⟩: ∃F,(if s.data.toList[k]? =some 45 then k+1 else k)=F:=⟨_,rfl⟩;obtain⟨RES,hRES⟩: ∃r,(Dg s.data.toList k).map Q5=r:=⟨_,rfl⟩;rw[hRES];unfold Dg at hRES;rw[hF]at hRES;have hFk:k<=F/\F<=k+1:=by rw[<-hF];split<;>omega
 have HI0:Hid (NRd w (w.alloc (.cells Bk 37)) R g s k):=⟨(Br.refl h).alloc _,Aj.new _ _ _⟩;have hb45:((c.toNat:Int)==45)=decide (c=45):=by rw[show(45:Int)=((45:Nat):Int)from rfl,Pz (by decide)];rfl
 obtain⟨c0,c1,_,f1,_⟩:=h.cells;have i0:(0:Int)<=(k:Int):=by omega
 have i1:(k:Int)<(s.size:Int):=by omega
 obtain⟨HN,H,HRES,Hg,HF⟩:=hid5 hN h hRES hg hF;clear hN h hRES hg hF;go_enter Tryz.func150,Tryz.ntmps150;go_wp2;go_quiet (fail);go_upto_if 22 with(fail);go_cut [] (fun wx=>Hid (NRd w wx R g s F))
 case first=>
  by_cases h45:c=45
  . have e45:decide (c=45)=true:=decide_eq_true h45;have eF:F=k+1:=by rw[<-HF.out,Hg.out,h45,if_pos rfl]
    go_wp2;go_meet;rw[eF];exact⟨(HI0.out.went.drewN _).set _,HI0.out.res.far (by simp;omega) _⟩
  . have e45:decide (c=45)=false:=decide_eq_false h45;have eF:F=k:=by rw[<-HF.out,Hg.out,if_neg (by simpa using h45)]
    go_wp2;go_meet;rw[eF];exact⟨HI0.out.went.drewN _,HI0.out.res⟩
 have hd0:=Wx s.data.toList F;have hd1:=Wy (s:=s.data.toList) (p:=F) (by rw[Al];omega);rw[Al]at hd1;have HI1:=hcut;obtain⟨E,hE⟩: ∃E,Cq s.data.toList F=E:=⟨_,rfl⟩;rw[hE]at hd0 hd1;clear hcut HI0 c0 c1 f1 i0 i1;obtain⟨a0,a1,_,f1,_⟩:=HI1.out.went.2.cells;have HE:=qz hE;clear hE
 go_upto_block 0 with(fail)
 go_cut [] (fun wx=>Hid (NRd w wx R g s E))
 case first=>
  go_wp2_with (fail)
  go_loopg [] (s.size - F) (fun n wr=> ∃j:Nat,F<=j/\j<=s.size/\n=s.size - j/\Hid (Cq s.data.toList j=E/\NRd w wr R g s j))
  case atStart=>exact⟨F,Nat.le_refl _,by omega,rfl,HE.out,HI1.out⟩
  case round=>
   obtain⟨j,hjF,hj,rfl,hh⟩:=hrel;obtain⟨z0,z1,_,z3,_⟩:=hh.out.2.went.2.cells;clear HI1 a0 a1 f1;have j0:(0:Int)<=(j:Int):=by omega
   by_cases hlt:j<s.size
   . obtain⟨x,hx⟩: ∃x,s[j]=x:=⟨_,rfl⟩;have hxg:s.data.toList[j]? =some x:=by rw[Dx s hlt,hx]
     have hxl:=Dr x;have j1:decide ((j:Int)<(s.size:Int))=true:=decide_eq_true (by omega);have j2:(j:Int)<(s.size:Int):=by omega
     by_cases hdg:Dy x=true
     . have HN':Hid (Cq s.data.toList (j+1)=E/\ ∀nq,NRd w ((wr.drewN nq).setCell ⟨R,1,none⟩ (.int .i64 ((j+1:Nat):Int))) R g s (j+1)):=⟨by rw[<-Abf hxg hdg];exact hh.out.1,fun nq=>⟨(hh.out.2.went.drewN nq).set _,hh.out.2.res.far (by simp;omega) _⟩⟩;unfold Dy at hdg;rw[decide_eq_true_iff]at hdg;have l1:decide ((48:Int)<=(x.toNat:Int))=true:=decide_eq_true (by omega);have l2:decide ((x.toNat:Int)<=57)=true:=decide_eq_true (by omega);clear hxg hh hdg;go_wp2;go_quiet (fail);go_wp2
       go_roundg (s.size - (j+1))
       case measure=>omega
       case rel=>exact⟨j+1,by omega,by omega,rfl,HN'.out.1,HN'.out.2 _⟩
     . have HN':Hid (j=E/\ ∀nq,NRd w (wr.drewN nq) R g s j):=⟨by rw[<-hh.out.1,Abg hxg (by simpa using hdg)],fun nq=>⟨hh.out.2.went.drewN nq,hh.out.2.res⟩⟩;unfold Dy at hdg;rw[decide_eq_true_iff]at hdg;clear hxg hh;by_cases h48:48<=x.toNat
       . have l1:decide ((48:Int)<=(x.toNat:Int))=true:=decide_eq_true (by omega);have l2:decide ((x.toNat:Int)<=57)=false:=decide_eq_false (by omega);go_wp2;go_quiet (fail);go_wp2;go_meet;have:=HN'.out.2;rw[HN'.out.1]at this;exact this _
       . have l1:decide ((48:Int)<=(x.toNat:Int))=false:=decide_eq_false (by omega);go_wp2;go_quiet (fail);go_wp2;go_meet;have:=HN'.out.2;rw[HN'.out.1]at this;exact this _
   . have HN':Hid (j=E/\ ∀nq,NRd w (wr.drewN nq) R g s j):=⟨by rw[<-hh.out.1,Aec (by rw[Al];omega)],fun nq=>⟨hh.out.2.went.drewN nq,hh.out.2.res⟩⟩;have j1:decide ((j:Int)<(s.size:Int))=false:=decide_eq_false (by omega);clear hh;go_wp2;go_quiet (fail);go_wp2;go_meet;have:=HN'.out.2;rw[HN'.out.1]at this;exact this _
 have HI2:=hcut;clear hcut HI1 a0 a1 f1;obtain⟨a0,a1,_,f1,_⟩:=HI2.out.went.2.cells
 go_upto_block 2 with(fail)
 go_cut [] (fun wx=>Hid (NRd w wx R g s E/\F<E/\(F=k+1->Ik ((s.data.toList.drop F).take (E - F))≠0)/\(Fs (decide (s.data.toList[k]? =some 45)) (Ik ((s.data.toList.drop F).take (E - F))) k E).map Q5=RES))
 case first=>
  have hres:=HRES.out;unfold N6 at hres;rw[HE.out]at hres;have F0:(0:Int)<=(F:Int):=by omega
  by_cases hEF:E=F
  . rw[if_pos hEF]at hres;subst hres;subst hEF;have e1:((E:Int)==(E:Int))=true:=by simp
    have HW:=qz (Cp (.pointer (some ⟨R,0,none⟩)) 4 (E:Nat) wc);go_wp2_with (fail);(with_reducible refine(HW.out).mono ?_);rintro e w10 ⟨rfl,rfl⟩;exact⟨rfl,rfl,HI2.out.went.1⟩
  . rw[if_neg hEF]at hres;have e1:((E:Int)==(F:Int))=false:=by rw[beq_eq_false_iff_ne];omega
    have hFs:F<s.size:=by omega
    have F1:(F:Int)<(s.size:Int):=by omega
    obtain⟨x,hx⟩: ∃x,s[F]=x:=⟨_,rfl⟩;have hxg:s.data.toList[F]? =some x:=by rw[Dx s hFs,hx]
    have hxl:=Dr x;rw[hxg]at hres;have hx48:((x.toNat:Int)==48)=decide (x=48):=by rw[show(48:Int)=((48:Nat):Int)from rfl,Pz (by decide)];rfl
    by_cases hz:x=48
    . have e48:decide (x=48)=true:=decide_eq_true hz;rw[e48]at hx48;by_cases hm:F+1<E
      . rw[if_pos ⟨by rw[hz],hm⟩]at hres;subst hres;have e2:decide ((F:Int)+1<(E:Int))=true:=decide_eq_true (by omega);have e3:(F:Int)+1<(E:Int):=by omega
        have HW:=qz (Cp (.pointer (some ⟨R,0,none⟩)) 4 ((F:Int)+1) wc);go_wp2_with (fail);(with_reducible refine(HW.out).mono ?_);rintro e w10 ⟨rfl,rfl⟩;exact⟨rfl,by simp[L9],HI2.out.went.1⟩
      . rw[if_neg (fun q=>hm q.2)]at hres;have e2:decide ((F:Int)+1<(E:Int))=false:=decide_eq_false (by omega);have e3: ¬((F:Int)+1<(E:Int)):=by omega
        have hEF1:E=F+1:=by omega
        have hds:(s.data.toList.drop F).take (E - F)= [48]:=by rw[hEF1,Nat.add_sub_cancel_left,Iv hxg,hz];rfl
        by_cases hn:F=k+1
        . have h45:s.data.toList[k]? =some 45:=by
           by_cases q:s.data.toList[k]? =some 45
           . exact q
           . have:=HF.out;rw[if_neg q]at this;omega
          have e4:decide ((k:Int)<(F:Int))=true:=decide_eq_true (by omega);have e5:(k:Int)<(F:Int):=by omega
          have hr7:Fs (decide (s.data.toList[k]? =some 45)) (Ik ((s.data.toList.drop F).take (E - F))) k E=.bad 7 k:=by
           rw[hds,decide_eq_true h45];rfl
          rw[hr7]at hres;subst hres;have HW:=qz (Cp (.pointer (some ⟨R,0,none⟩)) 7 (k:Nat) wc);obtain⟨Hds,Hr7⟩:=hid2 hds hr7;clear hds hr7;clear h45 hn hEF1;go_wp2_with (fail);(with_reducible refine(HW.out).mono ?_);rintro e w10 ⟨rfl,rfl⟩;exact⟨rfl,rfl,HI2.out.went.1⟩
        . have e4:decide ((k:Int)<(F:Int))=false:=decide_eq_false (by omega);have e5: ¬((k:Int)<(F:Int)):=by omega
          have HJ:Hid (NRd w wc R g s E/\F<E/\(F=k+1->Ik ((s.data.toList.drop F).take (E - F))≠0)/\(Fs (decide (s.data.toList[k]? =some 45)) (Ik ((s.data.toList.drop F).take (E - F))) k E).map Q5=RES):=⟨HI2.out,by omega,fun q=>absurd q hn,hres⟩;clear hres hds;go_wp2;go_meet;exact HJ
    . have e48:decide (x=48)=false:=decide_eq_false hz;rw[e48]at hx48;rw[if_neg (fun q=>hz (by simpa using q.1))]at hres;have HJ:Hid (NRd w wc R g s E/\F<E/\(F=k+1->Ik ((s.data.toList.drop F).take (E - F))≠0)/\(Fs (decide (s.data.toList[k]? =some 45)) (Ik ((s.data.toList.drop F).take (E - F))) k E).map Q5=RES):=⟨HI2.out,by omega,fun _=>Aed hxg hz (by rw[HE.out];omega) HE.out,hres⟩;clear hres;go_wp2;go_meet;exact HJ
 obtain⟨hI3,hFE,hnz,hres⟩:=hcut.out;clear hcut HI2 a0 a1 f1;obtain⟨a0,a1,_,f1,_⟩:=hI3.went.2.cells;have k0:(0:Int)<=(k:Int):=by omega
 have k1:(k:Int)<=(E:Int):=by omega
 have k2:(E:Int)<=(s.size:Int):=by omega
 have hT:(s.extract k E).data.toList=(s.data.toList.drop k).take (E - k):=by rw[Lib.extract_data]
 have hTs:(s.extract k E).size<=100000000:=by simp only[ByteArray.size_extract];omega
 have hdig:=Ahk s.data.toList F;rw[HE.out]at hdig;have hne:(s.data.toList.drop F).take (E - F)≠ []:=by
  intro e;have:=congrArg List.length e;rw[List.length_take,List.length_drop,Al]at this;simp at this;omega
 obtain⟨m,hm⟩: ∃m,Ik ((s.data.toList.drop F).take (E - F))=m:=⟨_,rfl⟩;rw[hm]at hres hnz;have hPI:Lib.parseIntB 64 (s.extract k E).data.toList=match Fs (decide (s.data.toList[k]? =some 45)) m k E with| .ok v _=> .ok v| .bad _ _=> .range:=by
  rw[hT];by_cases h45:s.data.toList[k]? =some 45
  . have eF:F=k+1:=by rw[<-HF.out,if_pos h45]
    have e1:(s.data.toList.drop k).take (E - k)=45::(s.data.toList.drop F).take (E - F):=by
     rw[Iv h45,show E - k=(E - F)+1 by omega,List.take_succ_cons,eF]
    rw[e1,Akl hdig hne,hm,decide_eq_true h45];unfold Fs;rw[if_pos rfl];have:=hnz eF;by_cases hb:9223372036854775808<m
    . rw[if_pos hb,if_pos (.inr hb)]
    . rw[if_neg hb,if_neg (by rintro(q|q);exact this q;exact hb q)]
  . have eF:F=k:=by rw[<-HF.out,if_neg h45]
    rw[eF]at hdig hne hm;rw[Akm hdig hne,hm,decide_eq_false h45];unfold Fs;rw[if_neg (show ¬((false:Bool)=true)by decide)];by_cases hb:9223372036854775807<m
    . rw[if_pos hb,if_pos hb]
    . rw[if_neg hb,if_neg hb]
 have hform:(∃v,Fs (decide (s.data.toList[k]? =some 45)) m k E=.ok v E)\/Fs (decide (s.data.toList[k]? =some 45)) m k E=.bad 7 k:=by
  unfold Fs
  split
  . split
    . exact .inr rfl
    . exact .inl ⟨_,rfl⟩
  . split
    . exact .inr rfl
    . exact .inl ⟨_,rfl⟩
 clear hT hdig hne hm hnz;rcases hform with⟨v,hv⟩|hv
 . rw[hv]at hPI hres;simp only at hPI;subst hres;have hPc: ∀W:World,Calls Tryz.prog 210 #[.string (s.extract k E),.int .i64 10,.int .i64 64] W fun e w'=>e=.returned (.tuple #[.int .i64 v,.nilIface])/\Below W.heap.size W w':=fun W=>
    (Tryz.strconv_ParseInt_ok (s.extract k E) (by omega) v hPI W).mono fun e w' ⟨he,hw⟩=>⟨he,by
      rcases hw with rfl|⟨t,rfl⟩
      . exact Below.refl _ _
      . exact Go.Joins.below_bytesWorld _ _ _ _ (Nat.le_refl _)⟩
   have hlt3:=hI3.went.2.cells.2.2.2.2;obtain⟨HPc,HI3,HPI,Hv⟩:=hid4 hPc hI3 hPI hv;clear hPc hI3 hPI hv;go_wp2
   go_region_held3 (fun W=>W.cell? ⟨R,0,none⟩=some (.string s)/\W.cell? ⟨R,1,none⟩=some (.int .i64 E)) (go_keep) (first|(go_at_call 210;refine(HPc.out _).mono ?_;rintro e w1 ⟨rfl,hb1⟩;have hbr1:Below wc.heap.size wc w1:=(Below.drew (Below.refl _ _)).trans hb1;obtain⟨hc1,hf1⟩:=Yu hbr1))
   all_goals
    have hI4:NRd w w1 R g s E:=⟨HI3.out.went.below hbr1,HI3.out.res.below hbr1 HI3.out.res.lt⟩;obtain⟨r0,r1,r2,r3,r4,r5⟩:=Bp hI4.res;have fz:=hI4.res.frozen;have hlt4:=hI4.res.lt;clear hc1 hf1 hb1 hbr1;have HI4:=qz hI4;clear hI4;go_wp2;have hxf:=((((((HI4.out.res.set_ 0 (.int .i64 3)).set_ 1 (.bool false)).set_ 2 (.int .i64 v)).set_ 3 (.string ⟨#[]⟩)).set_ 4 (.slice none 0 0)).set_ 5 (.slice none 0 0));exact bodyPost_ret (Cy rfl rfl hxf) rfl ⟨⟨_,rfl,Fo 3 false v _⟩,Br.many (Nat.le_refl _) hR [.int .i64 3,.bool false,.int .i64 v,.string ⟨#[]⟩,.slice none 0 0,.slice none 0 0] 0 HI4.out.went⟩
 . rw[hv]at hPI hres;simp only at hPI;subst hres;have hPc: ∀W:World,Below wc.heap.size wc W->Calls Tryz.prog 210 #[.string (s.extract k E),.int .i64 10,.int .i64 64] W fun e w'=>(∃n te pe,e=.returned (.tuple #[.int .i64 n,.iface te pe]))/\Below W.heap.size W w':=fun W hW=>by
    obtain⟨te,pe,hte⟩:=HN.out W (K5 hI3.went.1 hW);exact(Tryz.strconv_ParseInt_range (s.extract k E) (by omega) hPI _ W hte (.inr ⟨te,pe,rfl⟩)).mono fun e w' ⟨N,he,_,_,hb⟩=>⟨⟨_,_,_,he⟩,hb⟩
   have hlt3:=hI3.went.2.cells.2.2.2.2;obtain⟨HPc,HI3,HPI,Hv⟩:=hid4 hPc hI3 hPI hv;clear hPc hI3 hPI hv;go_wp2
   go_region_held3 (fun W=>W.cell? ⟨R,0,none⟩=some (.string s)/\W.cell? ⟨R,1,none⟩=some (.int .i64 E)) (go_keep) (first|(go_at_call 210;refine(HPc.out _ (Below.drew (Below.refl _ _))).mono ?_;rintro e w1 ⟨⟨n,te,pe,rfl⟩,hb1⟩;have hbr1:Below wc.heap.size wc w1:=(Below.drew (Below.refl _ _)).trans hb1;obtain⟨hc1,hf1⟩:=Yu hbr1))
   all_goals
    have HW:=qz (Cp (.pointer (some ⟨R,0,none⟩)) 7 (k:Nat) w1);have Hgb:=qz (K5 HI3.out.went.1 hbr1);clear hc1 hf1 hb1 hbr1;go_wp2_with (fail);(with_reducible refine(HW.out).mono ?_);rintro e w10 ⟨rfl,rfl⟩;exact⟨rfl,rfl,Hgb.out⟩
structure RBx (w W:World) (cs:Array Value):Prop where
 below:Below w.heap.size w W
 blk:Aj W w.heap.size 37 cs
theorem RBx.start (w:World):RBx w (w.alloc (.cells Bk 37)) Bk:=⟨Aa w _,Aj.new _ _ _⟩
theorem RBx.later {w W W':World} {cs:Array Value} (h:RBx w W cs) (t:Below W.heap.size W W'):RBx w W' cs:=⟨h.below.trans (t.mono h.below.size),h.blk.below t h.blk.lt⟩
theorem RBx.many {w W:World} {b0 b1 b2 b3 b4 b5:Value} (h:RBx w W #[b0,b1,b2,b3,b4,b5]) (a0 a1 a2 a3 a4 a5:Value):RBx w (Ak W w.heap.size 0 [a0,a1,a2,a3,a4,a5]) #[a0,a1,a2,a3,a4,a5]:=
 ⟨A4 _ h.below (Nat.le_refl _),((((((h.blk.set_ 0 a0).set_ 1 a1).set_ 2 a2).set_ 3 a3).set_ 4 a4).set_ 5 a5)⟩
def Anr (w:World) (RES:Rd Val) (e:Ending) (w':World):Prop:=Below w.heap.size w w'/\match RES with
 | .ok v q=> ∃cs:List Value,e=.returned (.tuple #[.agg cs.toArray,.int .i64 (q:Nat),.int .i64 0])/\Ch w.heap.size w' (dV v) cs
 | .bad c q=>e=.returned (.tuple #[.agg Bk,.int .i64 (q:Nat),.int .i64 c])
end Go.Proofs.YtkmcjfkokoidcaaGreatDoor
