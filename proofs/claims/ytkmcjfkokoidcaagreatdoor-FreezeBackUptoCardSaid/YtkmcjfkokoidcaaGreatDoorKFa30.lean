/- Parts: commonplaceref02.Compare of values of any Kind. Plain, but for the odd Kinds. No condition. -/
import Derived.Deep.RegionLaw
import Derived.Lib.SliceRun
import Derived.Test.YtkmcjfkokoidcaaGreatDoorKFa27
import Derived.Test.YtkmcjfkokoidcaaGreatDoorKFa28
set_option maxHeartbeats 20000000
set_option maxRecDepth 100000
namespace Go.Proofs.YtkmcjfkokoidcaaGreatDoor
def K8 (e:A5):Int:=if Ze e.1=false then 8 else Gu e.2
def Ar:List A5->Int
 | []=>0
 |e::r=>if K8 e=0 then Ar r else K8 e
theorem Q5 {l:List A5} (h:Ar l=0): ∀e ∈ l,Ze e.1=true/\Gu e.2=0:=by
 induction l with
 |nil=>intro e he;cases he
 |cons x r ih=>
  simp only[Ar]at h;by_cases hx:K8 x=0
  . rw[if_pos hx]at h;intro e he;rcases List.mem_cons.1 he with rfl|he
    . unfold K8 at hx;by_cases hk:Ze e.1=false
      . rw[if_pos hk]at hx;cases hx
      . rw[if_neg hk]at hx;exact⟨by simpa using hk,hx⟩
    . exact ih h e he
  . rw[if_neg hx]at h;exact absurd h hx
theorem Ac3: ∀{a b:List A5},(∀e ∈ a,Gu e.2=0)->(∀e ∈ b,Gu e.2=0)->En a b=true->a=b
 | [], [],_,_,_=>rfl
 | [],_::_,_,_,h=>by simp[En]at h
 |_::_, [],_,_,h=>by simp[En]at h
 |(k,x)::r,(k',y)::s,ha,hb,h=>by
  simp only[En,Bool.and_eq_true,decide_eq_true_eq]at h;have hx:Gu x=0:=ha (k,x) (by simp);have hy:Gu y=0:=hb (k',y) (by simp);rw[h.1,(Alr (O6 hx).1 (O6 hy).1).1 h.2.1,Ac3 (fun e he=>ha e (by simp[he])) (fun e he=>hb e (by simp[he])) h.2.2]
end Go.Proofs.YtkmcjfkokoidcaaGreatDoor
namespace Go.Proofs.YtkmcjfkokoidcaaGreatDoor
open Go Go.RowKit
theorem Agm (k:ByteArray) (v:Val):K8 (k,v)=if Oe k≠0 then 8 else Gu v:=by
 unfold K8;by_cases h:Oe k=0
 . rw[if_neg (by rw[(Xc k).1 h];simp),if_neg (by simpa using h)]
 . rw[if_pos (by
    cases hk:Ze k with
    |false=>rfl
    |true=>exact absurd ((Xc k).2 hk) h),if_pos h]
theorem Me {l:List A5} {q:Nat} {e:A5} (h0:Ar (l.take q)=0) (hx:l[q]? =some e):Ar (l.take (q+1))=K8 e/\(K8 e≠0->Ar l=K8 e):=by
 induction l generalizing q with
 |nil=>simp at hx
 |cons x r ih=>
  cases q with
  |zero=>
   simp only[List.getElem?_cons_zero,Option.some.injEq]at hx;subst hx;refine⟨?_,fun h=> ?_⟩
   . simp only[Nat.zero_add,List.take_succ_cons,List.take_zero,Ar]
     split
     . rename_i h;exact h.symm
     . rfl
   . simp only[Ar,if_neg h]
  |succ q=>
   simp only[List.take_succ_cons,Ar]at h0 ⊢;by_cases hx0:K8 x=0
   . rw[if_pos hx0]at h0 ⊢;obtain⟨i1,i2⟩:=ih h0 (by simpa using hx);exact⟨i1,fun h=>by rw[if_pos hx0];exact i2 h⟩
   . rw[if_neg hx0]at h0;exact absurd h0 hx0
end Go.Proofs.YtkmcjfkokoidcaaGreatDoor
namespace Go.Proofs.YtkmcjfkokoidcaaGreatDoor
theorem Aaq: ∀{a b:List A5},Ay a->Ay b->(∀k,Di k a=Di k b)->a=b
 | [], [],_,_,_=>rfl
 | [],(k,y)::s,_,_,h=>by have:=h k;simp[Di]at this
 |(k,x)::r, [],_,_,h=>by have:=h k;simp[Di]at this
 |(a,x)::r,(b,y)::s,ha,hb,h=>by
  obtain⟨a1,a2⟩:=List.pairwise_cons.1 ha;obtain⟨b1,b2⟩:=List.pairwise_cons.1 hb;have e:a=b:=by
   rcases Ku a b with c|c|c
   . have hB: ∀e ∈ (b,y)::s,Dp a e.1=true:=by
      intro e he;rcases List.mem_cons.1 he with rfl|he
      . exact c
      . exact C0 c (b1 e he)
     have:=h a;rw[Nz hB,Di,if_pos rfl]at this
     cases this
   . exact c
   . have hA: ∀e ∈ (a,x)::r,Dp b e.1=true:=by
      intro e he;rcases List.mem_cons.1 he with rfl|he
      . exact c
      . exact C0 c (a1 e he)
     have:=h b;rw[Nz hA,Di,if_pos rfl]at this
     cases this
  subst e;have hv:x=y:=by
   have:=h a;rw[Di,if_pos rfl,Di,if_pos rfl]at this;exact Option.some.inj this
  rw[hv,Aaq a2 b2 fun k=> ?_];have:=h k;by_cases c:a=k
  . subst c;rw[Nz a1,Nz b1]
  . rwa [Xa c,Xa c]at this
def Anu (l:List A5):List A5:=l.foldl (fun u e=>Cf e.1 e.2 u) []
theorem Uw: ∀{l u:List A5},Ay u->Ay (l.foldr (fun e u=>Cf e.1 e.2 u) u)
 | [],_,h=>h
 |_::r,_,h=>Kd (Uw (l:=r) h)
theorem Aaz {l:List A5} (h:Ay l):Anu l=l:=by
 have: ∀(b P:List A5),Ay (P++b)->b.foldl (fun u e=>Cf e.1 e.2 u) P=P++b:=by
  intro b
  induction b with
  |nil=>intro P _;simp
  |cons e r ih=>
   obtain⟨k,v⟩:=e;intro P hP;have h1: ∀e ∈ P,Dp e.1 k=true:=fun e he=>(List.pairwise_append.1 hP).2.2 e he (k,v) (by simp);have h2:=Acq (v:=v) (A:= []) h1 (by simp);simp only[List.append_nil]at h2;rw[List.foldl_cons,h2,ih (P++ [(k,v)]) (by simpa using hP)];simp
 have:=this l [] (by simpa using h)
 rwa [List.nil_append]at this
theorem Tz {q:ByteArray}: ∀{l u:List A5},Di q (l.foldr (fun e u=>Cf e.1 e.2 u) u)=(Di q l).or (Di q u)
 | [],u=>by simp[Di]
 |(a,x)::r,u=>by
  rw[List.foldr_cons,T1,Tz,Di];by_cases h:a=q
  . rw[if_pos h,if_pos h];rfl
  . rw[if_neg h,if_neg h]
open Classical in
theorem W9 {q:ByteArray} {v:Val}: ∀{g:List ByteArray} {u:List A5},Di q (g.foldl (fun u k=>Cf k v u) u)=if q ∈ g then some v else Di q u
 | [],u=>by simp
 |k::r,u=>by
  rw[List.foldl_cons,W9,T1];by_cases h:q ∈ r
  . rw[if_pos h,if_pos (List.mem_cons_of_mem _ h)]
  . rw[if_neg h];by_cases h1:k=q
    . rw[if_pos h1,if_pos (by simp[h1])]
    . rw[if_neg h1,if_neg];intro c;rcases List.mem_cons.1 c with c|c
      . exact h1 c.symm
      . exact h c
open Classical in
theorem W6 {q:ByteArray} {l:List A5}: ∀{g:List ByteArray} {u:List A5},Di q (g.foldl (fun u k=>if(Di k l).isSome then u else C1 k u) u)=if q ∈ g/\Di q l=none then none else Di q u
 | [],u=>by simp
 |k::r,u=>by
  rw[List.foldl_cons,W6];by_cases h:q ∈ r/\Di q l=none
  . rw[if_pos h,if_pos ⟨List.mem_cons_of_mem _ h.1,h.2⟩]
  . rw[if_neg h];by_cases hs:(Di k l).isSome=true
    . rw[if_pos hs];rw[if_neg];rintro⟨c1,c2⟩;rcases List.mem_cons.1 c1 with rfl|c1
      . rw[c2]at hs;cases hs
      . exact h ⟨c1,c2⟩
    . rw[if_neg hs,Abo];by_cases h1:k=q
      . subst h1;rw[if_pos rfl,if_pos ⟨by simp,by simpa using hs⟩]
      . rw[if_neg h1,if_neg];rintro⟨c1,c2⟩;rcases List.mem_cons.1 c1 with c|c1
        . exact h1 c.symm
        . exact h ⟨c1,c2⟩
theorem Abp {v:Val}: ∀{g:List ByteArray} {u:List A5},Ay u->Ay (g.foldl (fun u k=>Cf k v u) u)
 | [],_,h=>h
 |_::r,_,h=>Abp (g:=r) (Kd h)
theorem Abd {l:List A5}: ∀{g:List ByteArray} {u:List A5},Ay u->Ay (g.foldl (fun u k=>if(Di k l).isSome then u else C1 k u) u)
 | [],_,h=>h
 |k::r,u,h=>by
  rw[List.foldl_cons];refine Abd (g:=r) ?_;by_cases hs:(Di k l).isSome=true
  . rw[if_pos hs];exact h
  . rw[if_neg hs];exact M0 h
theorem Ahu {l:List A5} (h:Ay l) (g:List ByteArray) (v:Val):
 g.foldl (fun u k=>if(Di k l).isSome then u else C1 k u) (l.reverse.foldl (fun u e=>Cf e.1 e.2 u) (g.foldl (fun u k=>Cf k v u) []))=l:=by
 rw[List.foldl_reverse];refine Aaq (Abd (Uw (Abp List.Pairwise.nil))) h fun q=> ?_;rw[W6,Tz,W9]
 cases hq:Di q l with
 |some x=>simp
 |none=>
  by_cases c:q ∈ g
  . rw[if_pos ⟨c,rfl⟩]
  . rw[if_neg (fun d=>c d.1),if_neg c];simp[Di]
theorem O4 {k:ByteArray}: ∀{l:List A5},Ay l->C1 k l=(if Cb k l then l.take (Do k l)++l.drop (Do k l+1)else l)
 | [],_=>by simp[C1,Cb]
 |(a,x)::r,ha=>by
  obtain⟨a1,a2⟩:=List.pairwise_cons.1 ha;by_cases h:Dp a k=true
  . have hh:Cb k ((a,x)::r)=Cb k r:=by
     unfold Cb;simp only[Do,if_pos h,List.getElem?_cons_succ]
    have hd:C1 k ((a,x)::r)=(a,x)::C1 k r:=by
     have:=Ab2 h;simp[C1,this]
    rw[hd,hh,O4 a2];simp only[Do,if_pos h,List.take_succ_cons,List.cons_append,List.drop_succ_cons];by_cases c:Cb k r=true
    . rw[if_pos c,if_pos c]
    . rw[if_neg c,if_neg c]
  . by_cases e:a=k
    . subst e;have hh:Cb a ((a,x)::r)=true:=by
       unfold Cb;simp only[Do,if_neg h,List.getElem?_cons_zero,Option.any_some];simp
      have hd:C1 a ((a,x)::r)=C1 a r:=by simp[C1]
      rw[hd,(J6 a1).1,hh,if_pos rfl];simp only[Do,if_neg h,List.take_zero,List.nil_append,List.drop_succ_cons,List.drop_zero]
    . have hk:Dp k a=true:=by
       rcases Ku a k with c|c|c
       . exact absurd c h
       . exact absurd c e
       . exact c
      have hA: ∀z ∈ (a,x)::r,Dp k z.1=true:=by
       intro z hz;rcases List.mem_cons.1 hz with rfl|hz
       . exact hk
       . exact C0 hk (a1 z hz)
      have hh:Cb k ((a,x)::r)=false:=by
       cases c:Cb k ((a,x)::r)with
       |false=>rfl
       |true=>
        unfold Cb at c;simp only[Do,if_neg h,List.getElem?_cons_zero,Option.any_some]at c;exact absurd (Gr (by simpa using c)) e
      rw[(J6 hA).1,hh,if_neg (by simp)]
end Go.Proofs.YtkmcjfkokoidcaaGreatDoor
namespace Go.Proofs.YtkmcjfkokoidcaaGreatDoor
theorem Ah5 {k:ByteArray} (h:Ze k=true):A9 k=true:=by
 unfold Ze at h;simp only[Bool.and_eq_true]at h;exact h.2.2
theorem Fv {l:List A5} (ha:Ay l) (hm:Ar l=0):Au (ov l) 1=0:=by
 refine An8 (by omega) (Ue ha (fun m h=> ?_) (fun q e=>by cases e));obtain⟨h1,h2⟩:=Q5 hm m h;exact⟨Ah5 h1,Akx h2 (by omega)⟩
theorem Aei {a b:List A5} (ha:Ay a) (hb:Ay b) (ma:Ar a=0) (mb:Ar b=0):Am (ov a)=Am (ov b) ↔ En a b=true:=by
 constructor
 . intro e;have h:=Alx (Fv ha ma) (Fv hb mb) e;have:a=b:=by unfold ov at h;injection h
   rw[this];exact Gp b
 . intro e;rw[Ac3 (fun x hx=>(Q5 ma x hx).2) (fun x hx=>(Q5 mb x hx).2) e]
def Cv (v:Val):Int×List A5:=
 if Au v 1≠0 then(Au v 1, [])else match v with
  | .mk k _ _ _ _ o=>if k≠6 then(9, [])else if Ar o=0 then(0,o)else(Ar o, [])
theorem Aeh {l:List A5} (ha:Ay l) (hm:Ar l=0):Cv (ov l)=(0,l):=by
 unfold Cv;rw[if_neg (by rw[Fv ha hm];decide)];simp only[ov];rw[if_neg (by decide),if_pos hm]
theorem P7 {v:Val} (h:(Cv v).1=0):v=ov (Cv v).2/\Ay (Cv v).2/\Ar (Cv v).2=0:=by
 obtain⟨k,b,n,t,l,o⟩:=v;unfold Cv at h ⊢;by_cases h1:Au (.mk k b n t l o) 1≠0
 . rw[if_pos h1]at h;exact absurd h h1
 rw[if_neg h1]at h ⊢;have hm:Au (.mk k b n t l o) 1=0:=Classical.byContradiction h1;simp only at h ⊢;by_cases h2:k≠6
 . rw[if_pos h2]at h;cases h
 rw[if_neg h2]at h ⊢;have hk:k=6:=Classical.byContradiction h2;subst hk;by_cases h3:Ar o=0
 . rw[if_pos h3];obtain⟨hodd,_,_,_,hO⟩:=Em hm;obtain⟨_,p1,p2,_⟩:=Fa hodd;obtain⟨p4,p5⟩:=Rc hodd;refine⟨?_,(N4 hO).1,h3⟩;rw[p4.resolve_left (by decide),p5.resolve_left (by decide),p1.resolve_left (by decide),List.length_eq_zero_iff.1 (p2.resolve_left (by decide))];rfl
 . rw[if_neg h3]at h;exact absurd h h3
theorem W5 {l:List A5} (ha:Ay l) (hm:Ar l=0) (hi:J9 (ov l)):Fe (Am (ov l))=.ok (ov l) (Am (ov l)).length:=Afb (Fv ha hm) hi
end Go.Proofs.YtkmcjfkokoidcaaGreatDoor
namespace Go.Proofs.YtkmcjfkokoidcaaGreatDoor
open Go Go.RowKit
theorem Aea (S0:Nat->Prop) (b g n c i M:Nat) (l:List D) (w:World) (h:At S0 b 24 1 w l (.slice (some ⟨g,0,none⟩) n c)) (hl:l.length=M+1) (hi:i<=M) (hM:M<=1000):
 Calls Tryz.prog 174 #[.slice (some ⟨g,0,none⟩) n c,.int .i64 i,.int .i64 ((i:Int)+1)] w fun e w'=>e=.returned (.slice (some ⟨g,0,none⟩) M c)/\At S0 b 24 1 w' (l.take i++l.drop (i+1)) (.slice (some ⟨g,0,none⟩) M c)/\KB (fun k=>k=g) w w':=by
 obtain⟨PO,hPO⟩: ∃P:Ending->World->Prop,(fun e w'=>e=.returned (.slice (some ⟨g,0,none⟩) M c)/\At S0 b 24 1 w' (l.take i++l.drop (i+1)) (.slice (some ⟨g,0,none⟩) M c)/\KB (fun k=>k=g) w w')=P:=⟨_,rfl⟩;rw[hPO];obtain⟨i0,hi0,hz0,hzs,hzb⟩:=info_parts Agk;have hdw:Below w.heap.size w w.drew:=Below.drew (Below.refl _ w);obtain⟨cur,news,rfl,hnc,hcm,hcs,hg,k1,k2,k3,k4,k5,k6⟩:=(h.below hdw).del (i:=i) (j:=i+1) (by omega) (by omega) (z:= [.pointer none]) (by rw[show i+1 - i=1 from by omega];rfl);rw[hl]at hnc k1 k4 k5 k6 ⊢;have em:i+(M+1 - (i+1))=M:=by omega
 have em2:M+1 - (i+1)=M - i:=by omega
 rw[em2]at k1;rw[em]at k6;obtain⟨W1,hW1⟩: ∃W,Ak w.drew g (i) news=W:=⟨_,rfl⟩;simp only[Nat.mul_one]at k1 k2 k4 k5 k6;rw[hW1]at k5 k6;have hc63:c<=9223372036854775807:=by simp only[maxLen]at hcm;omega
 have hst:=run_storeCells_cells (P:=Tryz.prog) g (M) [.pointer none] 0 W1 (fun j hj=>by rw[Nat.add_zero];exact(k5 (M+j) (by simp only[List.length_cons,List.length_nil]at hj;omega)).1) (fun j hj=>by rw[Nat.add_zero];exact(k5 (M+j) (by simp only[List.length_cons,List.length_nil]at hj;omega)).2) (by simp[Value.oneCell']);simp only[Nat.add_zero]at hst;have hzc:(Builtin.zeroCells (.pointer none:Value).cells 1).toList= [.pointer none]:=by kernel_rfl
 have hcl: ∀ty cc,(Builtin.clear_ #[108] ty #[.slice (some ⟨g,M,none⟩) 1 cc]).run Tryz.prog W1=.ok (.tuple #[]) (W1.setCells g (M) [.pointer none]):=fun ty cc=>by
  simp[Builtin.clear_,run_underlying Tryz.underlying108,hzc,hst]
 have HP:Hid (PO (.returned (.slice (some ⟨g,0,none⟩) M c)) (W1.setCells g (M) [.pointer none])):=by
  show PO _ _;rw[<-hPO,Gf];refine⟨rfl,k6, ?_⟩;rw[<-hW1];exact((KB.of_below hdw).trans ((KB.many (S:=fun k=>k=g) w.drew g (i) rfl news).trans (KB.many (S:=fun k=>k=g) _ g (M) rfl [.pointer none]) fun _ _ h=>h) fun _ _ h=>h)
 have hs:Hid (∀j,j<news.length->(w.drew.cell? ⟨g,0+i*1+j,none⟩).isSome=true/\w.drew.frozen? ⟨g,0+i*1+j,none⟩=false):=fun j hj=>by
  rw[Nat.zero_add,Nat.mul_one];exact k4 _ (by omega)
 obtain⟨A,hA,hsrc⟩: ∃A:Addr,(if c=i+1 then some (⟨g,0,none⟩:Addr)else some ⟨g,(i+1),none⟩)=some A/\Hid (∀j u,news[j]? =some u->w.drew.cell? (A.add j)=some u):=by
  by_cases h:c=i+1
  . refine⟨⟨g,0,none⟩,by rw[if_pos h],fun j u hu=> ?_⟩;have:=(List.getElem?_eq_some_iff.1 hu).1;omega
  . exact⟨⟨g,(i+1),none⟩,by rw[if_neg h],fun j u hu=>by rw[Bn];exact k2 j u hu⟩
 have hW1':w.drew.setCells g (0+i*1) news=W1:=by rw[Gf,Nat.zero_add,Nat.mul_one];exact hW1
 have y1:((M+1:Nat):Int)=(M:Int)+1:=by omega
 have y2:(i:Int)<=(M:Int):=by omega
 have y3: ¬c=M:=by omega
 have y4:M+1 - M=1:=by omega
 have y5:i<=c:=by omega
 have y6:i+1<=c:=by omega
 have y7:M+1<=c:=by omega
 have y8:i<=M+1:=by omega
 have y9: ¬((i:Int)=(i:Int)+1):=by omega
 have y10:(0:Int)<=(i:Int)+1:=by omega
 obtain⟨K1,K3,Hi0,Hzs,HW1',HPO⟩:=hid6 k1 k3 hi0 hzs hW1' hPO;clear k1 k3 hi0 hzs hW1' hPO;clear h k2 k4 k5 k6 hcm hcs hg hz0 hzb hst hzc hdw hW1;go_enter Tryz.func174,Tryz.ntmps174;go_upto_region 5 with(fail);refine wp_region_held_drew (S:=fun _=>True) (by kernel_rfl) trivial (fun hHeld=> ?_);refine tkH 0 hHeld ?_;refine tkH 1 hHeld ?_;refine tkH 2 hHeld ?_;refine tkH 3 hHeld ?_;refine tkH 4 hHeld ?_;refine tkH 5 hHeld ?_;refine Ee 6 fun K hK=> ?_;refine step_append_room rfl (.tmp 22) (.tmp 25) 108 rfl 24 i0 1 Tryz.underlying108 Hi0.out Hzs.out g 0 i c (by simp[Act.eval]) A (M - i) (c - (i+1)) news (by simp[Act.eval]) (by rw[Nat.mul_one];exact K1.out) hsrc.out K3.out (by omega) hs.out ?_;rw[HW1'.out];refine hK.out _ _ trivial (fun hHeld=> ?_);clear hK K
 try simp only[Act.put,tk1,tk2,tk3,tk4,tk5,tk6]
 refine tkH 7 hHeld ?_;refine wpAnyH_done (by kernel_rfl) ?_ _;clear hHeld;go_wp2;exact HP.out
theorem Ad9 (S0:Nat->Prop) (b g n c i M:Nat) (l:List D) (w:World) (h:At S0 b 63 7 w l (.slice (some ⟨g,0,none⟩) n c)) (hl:l.length=M+1) (hi:i<=M) (hM:M<=1000):
 Calls Tryz.prog 109 #[.slice (some ⟨g,0,none⟩) n c,.int .i64 i,.int .i64 ((i:Int)+1)] w fun e w'=>e=.returned (.slice (some ⟨g,0,none⟩) M c)/\At S0 b 63 7 w' (l.take i++l.drop (i+1)) (.slice (some ⟨g,0,none⟩) M c)/\KB (fun k=>k=g) w w':=by
 obtain⟨PO,hPO⟩: ∃P:Ending->World->Prop,(fun e w'=>e=.returned (.slice (some ⟨g,0,none⟩) M c)/\At S0 b 63 7 w' (l.take i++l.drop (i+1)) (.slice (some ⟨g,0,none⟩) M c)/\KB (fun k=>k=g) w w')=P:=⟨_,rfl⟩;rw[hPO];obtain⟨i0,hi0,hz0,hzs,hzb⟩:=info_parts Abv;have hdw:Below w.heap.size w w.drew:=Below.drew (Below.refl _ w);obtain⟨cur,news,rfl,hnc,hcm,hcs,hg,k1,k2,k3,k4,k5,k6⟩:=(h.below hdw).del (i:=i) (j:=i+1) (by omega) (by omega) (z:= [.string ⟨#[]⟩,.int .i64 0,.bool false,.int .i64 0,.string ⟨#[]⟩,.slice none 0 0,.slice none 0 0]) (by rw[show i+1 - i=1 from by omega];rfl);rw[hl]at hnc k1 k4 k5 k6 ⊢;have em:i+(M+1 - (i+1))=M:=by omega
 have em2:M+1 - (i+1)=M - i:=by omega
 rw[em2]at k1;rw[em]at k6;obtain⟨W1,hW1⟩: ∃W,Ak w.drew g (i*7) news=W:=⟨_,rfl⟩;rw[hW1]at k5 k6;have hc63:c<=9223372036854775807:=by simp only[maxLen]at hcm;omega
 have hst:=run_storeCells_cells (P:=Tryz.prog) g (M*7) [.string ⟨#[]⟩,.int .i64 0,.bool false,.int .i64 0,.string ⟨#[]⟩,.slice none 0 0,.slice none 0 0] 0 W1 (fun j hj=>by rw[Nat.add_zero];exact(k5 (M*7+j) (by simp only[List.length_cons,List.length_nil]at hj;omega)).1) (fun j hj=>by rw[Nat.add_zero];exact(k5 (M*7+j) (by simp only[List.length_cons,List.length_nil]at hj;omega)).2) (by simp[Value.oneCell']);simp only[Nat.add_zero]at hst;have hzc:(Builtin.zeroCells (.agg #[.string ⟨#[]⟩,.int .i64 0,.bool false,.int .i64 0,.string ⟨#[]⟩,.slice none 0 0,.slice none 0 0]:Value).cells 1).toList= [.string ⟨#[]⟩,.int .i64 0,.bool false,.int .i64 0,.string ⟨#[]⟩,.slice none 0 0,.slice none 0 0]:=by kernel_rfl
 have hcl: ∀ty cc,(Builtin.clear_ #[22] ty #[.slice (some ⟨g,M*7,none⟩) 1 cc]).run Tryz.prog W1=.ok (.tuple #[]) (W1.setCells g (M*7) [.string ⟨#[]⟩,.int .i64 0,.bool false,.int .i64 0,.string ⟨#[]⟩,.slice none 0 0,.slice none 0 0]):=fun ty cc=>by
  simp[Builtin.clear_,run_underlying Tryz.underlying22,hzc,hst]
 have HP:Hid (PO (.returned (.slice (some ⟨g,0,none⟩) M c)) (W1.setCells g (M*7) [.string ⟨#[]⟩,.int .i64 0,.bool false,.int .i64 0,.string ⟨#[]⟩,.slice none 0 0,.slice none 0 0])):=by
  show PO _ _;rw[<-hPO,Gf];refine⟨rfl,k6, ?_⟩;rw[<-hW1];exact((KB.of_below hdw).trans ((KB.many (S:=fun k=>k=g) w.drew g (i*7) rfl news).trans (KB.many (S:=fun k=>k=g) _ g (M*7) rfl [.string ⟨#[]⟩,.int .i64 0,.bool false,.int .i64 0,.string ⟨#[]⟩,.slice none 0 0,.slice none 0 0]) fun _ _ h=>h) fun _ _ h=>h)
 have hs:Hid (∀j,j<news.length->(w.drew.cell? ⟨g,0+i*7+j,none⟩).isSome=true/\w.drew.frozen? ⟨g,0+i*7+j,none⟩=false):=fun j hj=>by
  rw[Nat.zero_add];exact k4 _ (by omega)
 obtain⟨A,hA,hsrc⟩: ∃A:Addr,(if c=i+1 then some (⟨g,0,none⟩:Addr)else some ⟨g,(i+1)*7,none⟩)=some A/\Hid (∀j u,news[j]? =some u->w.drew.cell? (A.add j)=some u):=by
  by_cases h:c=i+1
  . refine⟨⟨g,0,none⟩,by rw[if_pos h],fun j u hu=> ?_⟩;have:=(List.getElem?_eq_some_iff.1 hu).1;omega
  . exact⟨⟨g,(i+1)*7,none⟩,by rw[if_neg h],fun j u hu=>by rw[Bn];exact k2 j u hu⟩
 have hW1':w.drew.setCells g (0+i*7) news=W1:=by rw[Gf,Nat.zero_add];exact hW1
 have y1:((M+1:Nat):Int)=(M:Int)+1:=by omega
 have y2:(i:Int)<=(M:Int):=by omega
 have y3: ¬c=M:=by omega
 have y4:M+1 - M=1:=by omega
 have y5:i<=c:=by omega
 have y6:i+1<=c:=by omega
 have y7:M+1<=c:=by omega
 have y8:i<=M+1:=by omega
 have y9: ¬((i:Int)=(i:Int)+1):=by omega
 have y10:(0:Int)<=(i:Int)+1:=by omega
 obtain⟨K1,K3,Hi0,Hzs,HW1',HPO⟩:=hid6 k1 k3 hi0 hzs hW1' hPO;clear k1 k3 hi0 hzs hW1' hPO;clear h k2 k4 k5 k6 hcm hcs hg hz0 hzb hst hzc hdw hW1;go_enter Tryz.func109,Tryz.ntmps109;go_upto_region 5 with(fail);refine wp_region_held_drew (S:=fun _=>True) (by kernel_rfl) trivial (fun hHeld=> ?_);refine tkH 0 hHeld ?_;refine tkH 1 hHeld ?_;refine tkH 2 hHeld ?_;refine tkH 3 hHeld ?_;refine tkH 4 hHeld ?_;refine tkH 5 hHeld ?_;refine Ee 6 fun K hK=> ?_;refine step_append_room rfl (.tmp 22) (.tmp 25) 22 rfl 63 i0 7 Tryz.underlying22 Hi0.out Hzs.out g 0 i c (by simp[Act.eval]) A (M - i) (c - (i+1)) news (by simp[Act.eval]) K1.out hsrc.out K3.out (by omega) hs.out ?_;rw[HW1'.out];refine hK.out _ _ trivial (fun hHeld=> ?_);clear hK K
 try simp only[Act.put,tk1,tk2,tk3,tk4,tk5,tk6]
 refine tkH 7 hHeld ?_;refine wpAnyH_done (by kernel_rfl) ?_ _;clear hHeld;go_wp2;exact HP.out
def Mv (w:World):Prop:= ∃te pe,w.cell? ⟨6,0,none⟩=some (.iface te pe)
structure NRd (w wr:World) (R g:Nat) (s:ByteArray) (j:Nat):Prop where
 went:Br R g s j w wr
 res:Aj wr w.heap.size 37 Bk
theorem Acx (R g:Nat) (s:ByteArray) (k:Nat) (d:Int) (w:World) (hN: ∀W,w.grownBy W (some R)->Mv W) (hs:s.size<=100000000) (hk:k<s.size) (h:Wj w R g s k):
 Calls Tryz.prog 150 #[.pointer (some ⟨R,0,none⟩),.int .i64 d] w (Gw R g s w ((Dg s.data.toList k).map Q4)):=by
 have hR:R<w.heap.size:=Aj.lt h;obtain⟨c,hc⟩: ∃c,s[k]=c:=⟨_,rfl⟩;have hg:s.data.toList[k]? =some c:=by rw[Dx s hk,hc]
 have hcl:=Dr c;obtain⟨F,hF⟩: ∃F,(if s.data.toList[k]? =some 45 then k+1 else k)=F:=⟨_,rfl⟩;obtain⟨RES,hRES⟩: ∃r,(Dg s.data.toList k).map Q4=r:=⟨_,rfl⟩;rw[hRES];unfold Dg at hRES;rw[hF]at hRES;have hFk:k<=F/\F<=k+1:=by rw[<-hF];split<;>omega
 have HI0:Hid (NRd w (w.alloc (.cells Bk 37)) R g s k):=⟨(Br.refl h).alloc _,Aj.new _ _ _⟩;have hb45:((c.toNat:Int)==45)=decide (c=45):=by rw[show(45:Int)=((45:Nat):Int)from rfl,Py (by decide)];rfl
 obtain⟨c0,c1,_,f1,_⟩:=h.cells;have i0:(0:Int)<=(k:Int):=by omega
 have i1:(k:Int)<(s.size:Int):=by omega
 obtain⟨HN,H,HRES,Hg,HF⟩:=hid5 hN h hRES hg hF;clear hN h hRES hg hF;go_enter Tryz.func150,Tryz.ntmps150;go_wp2;go_quiet (fail);go_upto_if 22 with(fail);go_cut [] (fun wx=>Hid (NRd w wx R g s F))
 case first=>
  by_cases h45:c=45
  . have e45:decide (c=45)=true:=decide_eq_true h45;have eF:F=k+1:=by rw[<-HF.out,Hg.out,h45,if_pos rfl]
    go_wp2;go_meet;rw[eF];exact⟨(HI0.out.went.drewN _).set _,HI0.out.res.far (by simp;omega) _⟩
  . have e45:decide (c=45)=false:=decide_eq_false h45;have eF:F=k:=by rw[<-HF.out,Hg.out,if_neg (by simpa using h45)]
    go_wp2;go_meet;rw[eF];exact⟨HI0.out.went.drewN _,HI0.out.res⟩
 have hd0:=Ww s.data.toList F;have hd1:=Wx (s:=s.data.toList) (p:=F) (by rw[Al];omega);rw[Al]at hd1;have HI1:=hcut;obtain⟨E,hE⟩: ∃E,Cq s.data.toList F=E:=⟨_,rfl⟩;rw[hE]at hd0 hd1;clear hcut HI0 c0 c1 f1 i0 i1;obtain⟨a0,a1,_,f1,_⟩:=HI1.out.went.2.cells;have HE:=qz hE;clear hE
 go_upto_block 0 with(fail)
 go_cut [] (fun wx=>Hid (NRd w wx R g s E))
 case first=>
  go_wp2_with (fail)
  go_loopg [] (s.size - F) (fun n wr=> ∃j:Nat,F<=j/\j<=s.size/\n=s.size - j/\Hid (Cq s.data.toList j=E/\NRd w wr R g s j))
  case atStart=>exact⟨F,Nat.le_refl _,by omega,rfl,HE.out,HI1.out⟩
  case round=>
   obtain⟨j,hjF,hj,rfl,hh⟩:=hrel;obtain⟨z0,z1,_,z3,_⟩:=hh.out.2.went.2.cells;clear HI1 a0 a1 f1;have j0:(0:Int)<=(j:Int):=by omega
   by_cases hlt:j<s.size
   . obtain⟨x,hx⟩: ∃x,s[j]=x:=⟨_,rfl⟩;have hxg:s.data.toList[j]? =some x:=by rw[Dx s hlt,hx]
     have hxl:=Dr x;have j1:decide ((j:Int)<(s.size:Int))=true:=decide_eq_true (by omega);have j2:(j:Int)<(s.size:Int):=by omega
     by_cases hdg:Dy x=true
     . have HN':Hid (Cq s.data.toList (j+1)=E/\ ∀nq,NRd w ((wr.drewN nq).setCell ⟨R,1,none⟩ (.int .i64 ((j+1:Nat):Int))) R g s (j+1)):=⟨by rw[<-Abe hxg hdg];exact hh.out.1,fun nq=>⟨(hh.out.2.went.drewN nq).set _,hh.out.2.res.far (by simp;omega) _⟩⟩;unfold Dy at hdg;rw[decide_eq_true_iff]at hdg;have l1:decide ((48:Int)<=(x.toNat:Int))=true:=decide_eq_true (by omega);have l2:decide ((x.toNat:Int)<=57)=true:=decide_eq_true (by omega);clear hxg hh hdg;go_wp2;go_quiet (fail);go_wp2
       go_roundg (s.size - (j+1))
       case measure=>omega
       case rel=>exact⟨j+1,by omega,by omega,rfl,HN'.out.1,HN'.out.2 _⟩
     . have HN':Hid (j=E/\ ∀nq,NRd w (wr.drewN nq) R g s j):=⟨by rw[<-hh.out.1,Abf hxg (by simpa using hdg)],fun nq=>⟨hh.out.2.went.drewN nq,hh.out.2.res⟩⟩;unfold Dy at hdg;rw[decide_eq_true_iff]at hdg;clear hxg hh;by_cases h48:48<=x.toNat
       . have l1:decide ((48:Int)<=(x.toNat:Int))=true:=decide_eq_true (by omega);have l2:decide ((x.toNat:Int)<=57)=false:=decide_eq_false (by omega);go_wp2;go_quiet (fail);go_wp2;go_meet;have:=HN'.out.2;rw[HN'.out.1]at this;exact this _
       . have l1:decide ((48:Int)<=(x.toNat:Int))=false:=decide_eq_false (by omega);go_wp2;go_quiet (fail);go_wp2;go_meet;have:=HN'.out.2;rw[HN'.out.1]at this;exact this _
   . have HN':Hid (j=E/\ ∀nq,NRd w (wr.drewN nq) R g s j):=⟨by rw[<-hh.out.1,Aeb (by rw[Al];omega)],fun nq=>⟨hh.out.2.went.drewN nq,hh.out.2.res⟩⟩;have j1:decide ((j:Int)<(s.size:Int))=false:=decide_eq_false (by omega);clear hh;go_wp2;go_quiet (fail);go_wp2;go_meet;have:=HN'.out.2;rw[HN'.out.1]at this;exact this _
 have HI2:=hcut;clear hcut HI1 a0 a1 f1;obtain⟨a0,a1,_,f1,_⟩:=HI2.out.went.2.cells
 go_upto_block 2 with(fail)
 go_cut [] (fun wx=>Hid (NRd w wx R g s E/\F<E/\(F=k+1->Il ((s.data.toList.drop F).take (E - F))≠0)/\(Fs (decide (s.data.toList[k]? =some 45)) (Il ((s.data.toList.drop F).take (E - F))) k E).map Q4=RES))
 case first=>
  have hres:=HRES.out;unfold N5 at hres;rw[HE.out]at hres;have F0:(0:Int)<=(F:Int):=by omega
  by_cases hEF:E=F
  . rw[if_pos hEF]at hres;subst hres;subst hEF;have e1:((E:Int)==(E:Int))=true:=by simp
    have HW:=qz (Cp (.pointer (some ⟨R,0,none⟩)) 4 (E:Nat) wc);go_wp2_with (fail);(with_reducible refine(HW.out).mono ?_);rintro e w10 ⟨rfl,rfl⟩;exact⟨rfl,rfl,HI2.out.went.1⟩
  . rw[if_neg hEF]at hres;have e1:((E:Int)==(F:Int))=false:=by rw[beq_eq_false_iff_ne];omega
    have hFs:F<s.size:=by omega
    have F1:(F:Int)<(s.size:Int):=by omega
    obtain⟨x,hx⟩: ∃x,s[F]=x:=⟨_,rfl⟩;have hxg:s.data.toList[F]? =some x:=by rw[Dx s hFs,hx]
    have hxl:=Dr x;rw[hxg]at hres;have hx48:((x.toNat:Int)==48)=decide (x=48):=by rw[show(48:Int)=((48:Nat):Int)from rfl,Py (by decide)];rfl
    by_cases hz:x=48
    . have e48:decide (x=48)=true:=decide_eq_true hz;rw[e48]at hx48;by_cases hm:F+1<E
      . rw[if_pos ⟨by rw[hz],hm⟩]at hres;subst hres;have e2:decide ((F:Int)+1<(E:Int))=true:=decide_eq_true (by omega);have e3:(F:Int)+1<(E:Int):=by omega
        have HW:=qz (Cp (.pointer (some ⟨R,0,none⟩)) 4 ((F:Int)+1) wc);go_wp2_with (fail);(with_reducible refine(HW.out).mono ?_);rintro e w10 ⟨rfl,rfl⟩;exact⟨rfl,by simp[L9],HI2.out.went.1⟩
      . rw[if_neg (fun q=>hm q.2)]at hres;have e2:decide ((F:Int)+1<(E:Int))=false:=decide_eq_false (by omega);have e3: ¬((F:Int)+1<(E:Int)):=by omega
        have hEF1:E=F+1:=by omega
        have hds:(s.data.toList.drop F).take (E - F)= [48]:=by rw[hEF1,Nat.add_sub_cancel_left,Iw hxg,hz];rfl
        by_cases hn:F=k+1
        . have h45:s.data.toList[k]? =some 45:=by
           by_cases q:s.data.toList[k]? =some 45
           . exact q
           . have:=HF.out;rw[if_neg q]at this;omega
          have e4:decide ((k:Int)<(F:Int))=true:=decide_eq_true (by omega);have e5:(k:Int)<(F:Int):=by omega
          have hr7:Fs (decide (s.data.toList[k]? =some 45)) (Il ((s.data.toList.drop F).take (E - F))) k E=.bad 7 k:=by
           rw[hds,decide_eq_true h45];rfl
          rw[hr7]at hres;subst hres;have HW:=qz (Cp (.pointer (some ⟨R,0,none⟩)) 7 (k:Nat) wc);obtain⟨Hds,Hr7⟩:=hid2 hds hr7;clear hds hr7;clear h45 hn hEF1;go_wp2_with (fail);(with_reducible refine(HW.out).mono ?_);rintro e w10 ⟨rfl,rfl⟩;exact⟨rfl,rfl,HI2.out.went.1⟩
        . have e4:decide ((k:Int)<(F:Int))=false:=decide_eq_false (by omega);have e5: ¬((k:Int)<(F:Int)):=by omega
          have HJ:Hid (NRd w wc R g s E/\F<E/\(F=k+1->Il ((s.data.toList.drop F).take (E - F))≠0)/\(Fs (decide (s.data.toList[k]? =some 45)) (Il ((s.data.toList.drop F).take (E - F))) k E).map Q4=RES):=⟨HI2.out,by omega,fun q=>absurd q hn,hres⟩;clear hres hds;go_wp2;go_meet;exact HJ
    . have e48:decide (x=48)=false:=decide_eq_false hz;rw[e48]at hx48;rw[if_neg (fun q=>hz (by simpa using q.1))]at hres;have HJ:Hid (NRd w wc R g s E/\F<E/\(F=k+1->Il ((s.data.toList.drop F).take (E - F))≠0)/\(Fs (decide (s.data.toList[k]? =some 45)) (Il ((s.data.toList.drop F).take (E - F))) k E).map Q4=RES):=⟨HI2.out,by omega,fun _=>Aec hxg hz (by rw[HE.out];omega) HE.out,hres⟩;clear hres;go_wp2;go_meet;exact HJ
 obtain⟨hI3,hFE,hnz,hres⟩:=hcut.out;clear hcut HI2 a0 a1 f1;obtain⟨a0,a1,_,f1,_⟩:=hI3.went.2.cells;have k0:(0:Int)<=(k:Int):=by omega
 have k1:(k:Int)<=(E:Int):=by omega
 have k2:(E:Int)<=(s.size:Int):=by omega
 have hT:(s.extract k E).data.toList=(s.data.toList.drop k).take (E - k):=by rw[Lib.extract_data]
 have hTs:(s.extract k E).size<=100000000:=by simp only[ByteArray.size_extract];omega
 have hdig:=Ahj s.data.toList F;rw[HE.out]at hdig;have hne:(s.data.toList.drop F).take (E - F)≠ []:=by
  intro e;have:=congrArg List.length e;rw[List.length_take,List.length_drop,Al]at this;simp at this;omega
 obtain⟨m,hm⟩: ∃m,Il ((s.data.toList.drop F).take (E - F))=m:=⟨_,rfl⟩;rw[hm]at hres hnz;have hPI:Lib.parseIntB 64 (s.extract k E).data.toList=match Fs (decide (s.data.toList[k]? =some 45)) m k E with| .ok v _=> .ok v| .bad _ _=> .range:=by
  rw[hT];by_cases h45:s.data.toList[k]? =some 45
  . have eF:F=k+1:=by rw[<-HF.out,if_pos h45]
    have e1:(s.data.toList.drop k).take (E - k)=45::(s.data.toList.drop F).take (E - F):=by
     rw[Iw h45,show E - k=(E - F)+1 by omega,List.take_succ_cons,eF]
    rw[e1,Akk hdig hne,hm,decide_eq_true h45];unfold Fs;rw[if_pos rfl];have:=hnz eF;by_cases hb:9223372036854775808<m
    . rw[if_pos hb,if_pos (.inr hb)]
    . rw[if_neg hb,if_neg (by rintro(q|q);exact this q;exact hb q)]
  . have eF:F=k:=by rw[<-HF.out,if_neg h45]
    rw[eF]at hdig hne hm;rw[Akl hdig hne,hm,decide_eq_false h45];unfold Fs;rw[if_neg (show ¬((false:Bool)=true)by decide)];by_cases hb:9223372036854775807<m
    . rw[if_pos hb,if_pos hb]
    . rw[if_neg hb,if_neg hb]
 have hform:(∃v,Fs (decide (s.data.toList[k]? =some 45)) m k E=.ok v E)\/Fs (decide (s.data.toList[k]? =some 45)) m k E=.bad 7 k:=by
  unfold Fs
  split
  . split
    . exact .inr rfl
    . exact .inl ⟨_,rfl⟩
  . split
    . exact .inr rfl
    . exact .inl ⟨_,rfl⟩
 clear hT hdig hne hm hnz;rcases hform with⟨v,hv⟩|hv
 . rw[hv]at hPI hres;simp only at hPI;subst hres;have hPc: ∀W:World,Calls Tryz.prog 210 #[.string (s.extract k E),.int .i64 10,.int .i64 64] W fun e w'=>e=.returned (.tuple #[.int .i64 v,.nilIface])/\Below W.heap.size W w':=fun W=>
    (Tryz.strconv_ParseInt_ok (s.extract k E) (by omega) v hPI W).mono fun e w' ⟨he,hw⟩=>⟨he,by
      rcases hw with rfl|⟨t,rfl⟩
      . exact Below.refl _ _
      . exact Go.Joins.below_bytesWorld _ _ _ _ (Nat.le_refl _)⟩
   have hlt3:=hI3.went.2.cells.2.2.2.2;obtain⟨HPc,HI3,HPI,Hv⟩:=hid4 hPc hI3 hPI hv;clear hPc hI3 hPI hv;go_wp2
   go_region_held3 (fun W=>W.cell? ⟨R,0,none⟩=some (.string s)/\W.cell? ⟨R,1,none⟩=some (.int .i64 E)) (go_keep) (first|(go_at_call 210;refine(HPc.out _).mono ?_;rintro e w1 ⟨rfl,hb1⟩;have hbr1:Below wc.heap.size wc w1:=(Below.drew (Below.refl _ _)).trans hb1;obtain⟨hc1,hf1⟩:=Yt hbr1))
   all_goals
    have hI4:NRd w w1 R g s E:=⟨HI3.out.went.below hbr1,HI3.out.res.below hbr1 HI3.out.res.lt⟩;obtain⟨r0,r1,r2,r3,r4,r5⟩:=Bp hI4.res;have fz:=hI4.res.frozen;have hlt4:=hI4.res.lt;clear hc1 hf1 hb1 hbr1;have HI4:=qz hI4;clear hI4;go_wp2;have hxf:=((((((HI4.out.res.set_ 0 (.int .i64 3)).set_ 1 (.bool false)).set_ 2 (.int .i64 v)).set_ 3 (.string ⟨#[]⟩)).set_ 4 (.slice none 0 0)).set_ 5 (.slice none 0 0));exact bodyPost_ret (Cy rfl rfl hxf) rfl ⟨⟨_,rfl,Fo 3 false v _⟩,Br.many (Nat.le_refl _) hR [.int .i64 3,.bool false,.int .i64 v,.string ⟨#[]⟩,.slice none 0 0,.slice none 0 0] 0 HI4.out.went⟩
 . rw[hv]at hPI hres;simp only at hPI;subst hres;have hPc: ∀W:World,Below wc.heap.size wc W->Calls Tryz.prog 210 #[.string (s.extract k E),.int .i64 10,.int .i64 64] W fun e w'=>(∃n te pe,e=.returned (.tuple #[.int .i64 n,.iface te pe]))/\Below W.heap.size W w':=fun W hW=>by
    obtain⟨te,pe,hte⟩:=HN.out W (K6 hI3.went.1 hW);exact(Tryz.strconv_ParseInt_range (s.extract k E) (by omega) hPI _ W hte (.inr ⟨te,pe,rfl⟩)).mono fun e w' ⟨N,he,_,_,hb⟩=>⟨⟨_,_,_,he⟩,hb⟩
   have hlt3:=hI3.went.2.cells.2.2.2.2;obtain⟨HPc,HI3,HPI,Hv⟩:=hid4 hPc hI3 hPI hv;clear hPc hI3 hPI hv;go_wp2
   go_region_held3 (fun W=>W.cell? ⟨R,0,none⟩=some (.string s)/\W.cell? ⟨R,1,none⟩=some (.int .i64 E)) (go_keep) (first|(go_at_call 210;refine(HPc.out _ (Below.drew (Below.refl _ _))).mono ?_;rintro e w1 ⟨⟨n,te,pe,rfl⟩,hb1⟩;have hbr1:Below wc.heap.size wc w1:=(Below.drew (Below.refl _ _)).trans hb1;obtain⟨hc1,hf1⟩:=Yt hbr1))
   all_goals
    have HW:=qz (Cp (.pointer (some ⟨R,0,none⟩)) 7 (k:Nat) w1);have Hgb:=qz (K6 HI3.out.went.1 hbr1);clear hc1 hf1 hb1 hbr1;go_wp2_with (fail);(with_reducible refine(HW.out).mono ?_);rintro e w10 ⟨rfl,rfl⟩;exact⟨rfl,rfl,Hgb.out⟩
structure RBx (w W:World) (cs:Array Value):Prop where
 below:Below w.heap.size w W
 blk:Aj W w.heap.size 37 cs
theorem RBx.start (w:World):RBx w (w.alloc (.cells Bk 37)) Bk:=⟨Aa w _,Aj.new _ _ _⟩
theorem RBx.later {w W W':World} {cs:Array Value} (h:RBx w W cs) (t:Below W.heap.size W W'):RBx w W' cs:=⟨h.below.trans (t.mono h.below.size),h.blk.below t h.blk.lt⟩
theorem RBx.many {w W:World} {b0 b1 b2 b3 b4 b5:Value} (h:RBx w W #[b0,b1,b2,b3,b4,b5]) (a0 a1 a2 a3 a4 a5:Value):RBx w (Ak W w.heap.size 0 [a0,a1,a2,a3,a4,a5]) #[a0,a1,a2,a3,a4,a5]:=
 ⟨A4 _ h.below (Nat.le_refl _),((((((h.blk.set_ 0 a0).set_ 1 a1).set_ 2 a2).set_ 3 a3).set_ 4 a4).set_ 5 a5)⟩
def Anq (w:World) (RES:Rd Val) (e:Ending) (w':World):Prop:=Below w.heap.size w w'/\match RES with
 | .ok v q=> ∃cs:List Value,e=.returned (.tuple #[.agg cs.toArray,.int .i64 (q:Nat),.int .i64 0])/\Ch w.heap.size w' (dV v) cs
 | .bad c q=>e=.returned (.tuple #[.agg Bk,.int .i64 (q:Nat),.int .i64 c])
def Lo (x y:A5):Bool:=decide (x.1=y.1)&&Dj x.2 y.2
theorem Afn (x y:A5) (r s:List A5):En (x::r) (y::s)=(Lo x y&&En r s):=by
 obtain⟨a,x⟩:=x;obtain⟨b,y⟩:=y;simp only[En,Lo,Bool.and_assoc]
theorem Gv: ∀{a b:List A5},En a b=true ↔ a.length=b.length/\ ∀(j:Nat) x y,a[j]? =some x->b[j]? =some y->Lo x y=true
 | [], []=>by simp[En]
 | [],_::_=>by simp[En]
 |_::_, []=>by simp[En]
 |x::r,y::s=>by
  rw[Afn,Bool.and_eq_true,Gv (a:=r) (b:=s)];constructor
  . rintro⟨h1,h2,h3⟩;refine⟨by simp[h2],fun j u v hu hv=> ?_⟩
    cases j with
    |zero=>simp at hu hv;subst hu;subst hv;exact h1
    |succ j=>exact h3 j u v (by simpa using hu) (by simpa using hv)
  . rintro⟨h1,h2⟩;exact⟨h2 0 x y rfl rfl,by simpa using h1,fun j u v hu hv=>h2 (j+1) u v (by simpa using hu) (by simpa using hv)⟩
theorem Ji: ∀{l l':List Val},Lc l l'=true ↔ l.length=l'.length/\ ∀(j:Nat) x y,l[j]? =some x->l'[j]? =some y->Dj x y=true
 | [], []=>by simp[Lc]
 | [],_::_=>by simp[Lc]
 |_::_, []=>by simp[Lc]
 |a::r,b::s=>by
  simp only[Lc,Bool.and_eq_true,Ji (l:=r) (l':=s),List.length_cons,Nat.add_right_cancel_iff];constructor
  . rintro⟨h1,h2,h3⟩;refine⟨h2,fun j x y e1 e2=> ?_⟩
    cases j with
    |zero=>simp only[List.getElem?_cons_zero,Option.some.injEq]at e1 e2;rw[<-e1,<-e2];exact h1
    |succ j=>simp only[List.getElem?_cons_succ]at e1 e2;exact h3 j x y e1 e2
  . rintro⟨h2,h3⟩;exact⟨h3 0 a b rfl rfl,h2,fun j x y e1 e2=>h3 (j+1) x y (by simpa using e1) (by simpa using e2)⟩
theorem G7: ∀{l l':List (ByteArray×Val)},Kn l l'=true ↔ l.length=l'.length/\ ∀(j:Nat) x y,l[j]? =some x->l'[j]? =some y->Nk x y=true
 | [], []=>by simp[Kn]
 | [],_::_=>by simp[Kn]
 |_::_, []=>by simp[Kn]
 |a::r,b::s=>by
  simp only[Kn,Bool.and_eq_true,G7 (l:=r) (l':=s),List.length_cons,Nat.add_right_cancel_iff];constructor
  . rintro⟨h1,h2,h3⟩;refine⟨h2,fun j x y e1 e2=> ?_⟩
    cases j with
    |zero=>simp only[List.getElem?_cons_zero,Option.some.injEq]at e1 e2;rw[<-e1,<-e2];exact h1
    |succ j=>simp only[List.getElem?_cons_succ]at e1 e2;exact h3 j x y e1 e2
  . rintro⟨h2,h3⟩;exact⟨h3 0 a b rfl rfl,h2,fun j x y e1 e2=>h3 (j+1) x y (by simpa using e1) (by simpa using e2)⟩
def Ajj (a:Val):Prop:= ∀(b:Val) (cs cs':List Value) (w:World),Ac w w.heap.size a cs->Ac w w.heap.size b cs'->a.bulk<=100000000->b.bulk<=100000000->
    Calls Tryz.prog 50 #[.agg cs.toArray,.agg cs'.toArray] w (Az (Dj a b=true) w)
theorem Amc (k:Int) (h2:k≠2) (h3:k≠3) (h4:k≠4) (h5:k≠5) (h6:k≠6) (b b':Bool) (n n':Int) (t t':ByteArray) (x y x' y':Value) (w:World) (p:Prop) (hp:p):
 Calls Tryz.prog 50 #[.agg #[.int .i64 k,.bool b,.int .i64 n,.string t,x,y],.agg #[.int .i64 k,.bool b',.int .i64 n',.string t',x',y']] w (Az p w):=by
 have Hp:=qz hp;have e2:(k==2)=false:=by simpa using h2
 have e3:(k==3)=false:=by simpa using h3
 have e4:(k==4)=false:=by simpa using h4
 have e5:(k==5)=false:=by simpa using h5
 have e6:(k==6)=false:=by simpa using h6
 clear hp;go_enter Tryz.func50,Tryz.ntmps50;go_wp2;go_ret;exact Az.of ⟨fun _=>Hp.out,fun _=>rfl⟩ (B6 _ _ _)
end Go.Proofs.YtkmcjfkokoidcaaGreatDoor
