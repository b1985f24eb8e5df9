/- Parts: slices.Delete of one element, an entry, in a slice of the call's own. Condition: at most 1000 elements. Printed by mkdel.py. -/
import Derived.Test.YtnkmhaachfgaoaaGreatDoorKPq21
set_option maxHeartbeats 20000000
set_option maxRecDepth 100000
namespace Go.Proofs.YtnkmhaachfgaoaaGreatDoor
def Cj:Wc->POp
 |(k,_,some v)=>⟨1,k,v⟩
 |(k,_,none)=>⟨2,k,Fy⟩
def Do (l:List Ax) (p:POp):List Ax:=if p.k=3 then []else if p.k=2 then B3 p.key l else Bz p.key p.v l
theorem Ahg (l:List Ax) (c:Wc):Do l (Cj c)=doC l c:=by
 obtain⟨k,was,is⟩:=c
 cases is<;>simp[Cj,Do,doC]
theorem Tx: ∀(l:List Wc) (a:List Ax),(l.map Cj).foldl Do a=l.foldl doC a
 | [],_=>rfl
 |c::r,a=>by rw[List.map_cons,List.foldl_cons,List.foldl_cons,Ahg,Tx r]
def B5 (b:List Ax):List POp:=⟨3,⟨#[]⟩,Fy⟩::b.map fun e=>⟨1,e.1,e.2⟩
theorem Ab8: ∀(b P:List Ax),Az (P++b)->(b.map fun e=>(⟨1,e.1,e.2⟩:POp)).foldl Do P=P++b
 | [],P,_=>by simp
 |(k,v)::r,P,h=>by
  have hP: ∀e ∈ P,Bn e.1 k=true:=fun e he=>(List.pairwise_append.1 h).2.2 e he (k,v) (by simp);have e:Do P ⟨1,k,v⟩=P++ [(k,v)]:=by
   have:=Rx (v:=v) (A:= []) hP (by simp);simp only[List.append_nil]at this;simp[Do,this]
  rw[List.map_cons,List.foldl_cons,e,Ab8 r (P++ [(k,v)]) (by simpa using h)];simp
theorem Yp {a b:List Ax} (hb:Az b):(B5 b).foldl Do a=b:=by
 rw[B5,List.foldl_cons];have:Do a ⟨3,⟨#[]⟩,Fy⟩= []:=by simp[Do]
 rw[this,Ab8 b [] (by simpa using hb),List.nil_append]
def Dw (k:ByteArray):List Ax->Option Val
 | []=>none
 |(a,x)::r=>if a=k then some x else Dw k r
theorem Tn {k:ByteArray}: ∀{l:List Ax},(∀e ∈ l,e.1≠k)->Dw k l=none
 | [],_=>rfl
 |(a,x)::r,h=>by
  have h1:a≠k:=h (a,x) (by simp);rw[Dw,if_neg h1,Tn fun e he=>h e (List.mem_cons_of_mem _ he)]
theorem Xk {q k:ByteArray} {v:Val}: ∀{l:List Ax},Dw q (Bz k v l)=if k=q then some v else Dw q l
 | []=>by simp[Bz,Dw]
 |(a,x)::r=>by
  simp only[Bz];by_cases h1:Bn a k=true
  . rw[if_pos h1,Dw,Xk,Dw];by_cases h2:a=q
    . subst h2;rw[if_pos rfl,if_pos rfl,if_neg (Jb h1).symm]
    . rw[if_neg h2,if_neg h2]
  rw[if_neg h1];by_cases h2:a=k
  . subst h2;rw[if_pos rfl,Dw,Dw];by_cases h3:a=q
    . rw[if_pos h3,if_pos h3]
    . rw[if_neg h3,if_neg h3,if_neg h3]
  . rw[if_neg h2,Dw]
theorem Xi {q k:ByteArray}: ∀{l:List Ax},Dw q (B3 k l)=if k=q then none else Dw q l
 | []=>by simp[B3,Dw]
 |(a,x)::r=>by
  have ih:=Xi (q:=q) (k:=k) (l:=r);by_cases h1:a=k
  . subst h1;have:B3 a ((a,x)::r)=B3 a r:=by simp[B3]
    rw[this,ih,Dw];by_cases h2:a=q
    . rw[if_pos h2,if_pos h2]
    . rw[if_neg h2,if_neg h2,if_neg h2]
  . have:B3 k ((a,x)::r)=(a,x)::B3 k r:=by simp[B3,h1]
    rw[this,Dw,ih,Dw];by_cases h2:a=q
    . subst h2;rw[if_pos rfl,if_pos rfl,if_neg (fun e=>h1 e.symm)]
    . rw[if_neg h2,if_neg h2]
theorem Xj {q:ByteArray}: ∀{l:List POp} {a:List Ax},(∀p ∈ l,p.k≠3)->(∀p ∈ l,p.key≠q)->Dw q (l.foldl Do a)=Dw q a
 | [],_,_,_=>rfl
 |p::r,a,h3,h=>by
  rw[List.foldl_cons,Xj (fun x hx=>h3 x (List.mem_cons_of_mem _ hx)) (fun x hx=>h x (List.mem_cons_of_mem _ hx))];have h1:=h p (by simp);unfold Do;rw[if_neg (h3 p (by simp))];by_cases h2:p.k=2
  . rw[if_pos h2,Xi,if_neg h1]
  . rw[if_neg h2,Xk,if_neg h1]
theorem Afv {a:List Ax} (p:POp) (h:Az a):Az (Do a p):=by
 unfold Do;by_cases h3:p.k=3
 . rw[if_pos h3];exact List.Pairwise.nil
 rw[if_neg h3];by_cases h2:p.k=2
 . rw[if_pos h2];exact La h
 . rw[if_neg h2];exact Jx h
theorem Oz: ∀{l:List POp} {a:List Ax},Az a->Az (l.foldl Do a)
 | [],_,h=>h
 |p::r,_,h=>Oz (l:=r) (Afv p h)
def Sy:Option Val->Option Val->Bool
 |none,none=>true
 |some x,some y=>Bu x y
 |_,_=>false
theorem C3: ∀(n:Nat) (a b:List Ax),a.length+b.length<=n-> ∀c ∈ Bq a b,(∃e ∈ a,e.1=c.1)\/ ∃e ∈ b,e.1=c.1
 |_, [], [],_,c,hc=>by rw[Bq]at hc;cases hc
 |0, [],_::_,h,_,_=>by simp at h
 |0,_::_,_,h,_,_=>by simp at h
 |n+1, [],(k,v)::s,h,c,hc=>by
  rw[Bq]at hc;rcases List.mem_cons.1 hc with rfl|hc
  . exact .inr ⟨(k,v),by simp,rfl⟩
  . rcases C3 n [] s (by simp at h ⊢;omega) c hc with⟨e,he,_⟩|⟨e,he,h1⟩
    . cases he
    . exact .inr ⟨e,by simp[he],h1⟩
 |n+1,(k,v)::r, [],h,c,hc=>by
  rw[Bq]at hc;rcases List.mem_cons.1 hc with rfl|hc
  . exact .inl ⟨(k,v),by simp,rfl⟩
  . rcases C3 n r [] (by simp at h ⊢;omega) c hc with⟨e,he,h1⟩|⟨e,he,_⟩
    . exact .inl ⟨e,by simp[he],h1⟩
    . cases he
 |n+1,(a,x)::r,(b,y)::s,h,c,hc=>by
  rw[Bq]at hc;by_cases h1:Bn a b=true
  . rw[if_pos h1]at hc;rcases List.mem_cons.1 hc with rfl|hc
    . exact .inl ⟨(a,x),by simp,rfl⟩
    . rcases C3 n r ((b,y)::s) (by simp at h ⊢;omega) c hc with⟨e,he,h1⟩|⟨e,he,h1⟩
      . exact .inl ⟨e,by simp[he],h1⟩
      . exact .inr ⟨e,he,h1⟩
  rw[if_neg h1]at hc;by_cases h2:Bn b a=true
  . rw[if_pos h2]at hc;rcases List.mem_cons.1 hc with rfl|hc
    . exact .inr ⟨(b,y),by simp,rfl⟩
    . rcases C3 n ((a,x)::r) s (by simp at h ⊢;omega) c hc with⟨e,he,h1⟩|⟨e,he,h1⟩
      . exact .inl ⟨e,he,h1⟩
      . exact .inr ⟨e,by simp[he],h1⟩
  rw[if_neg h2]at hc;have step:c ∈ Bq r s->(∃e ∈ (a,x)::r,e.1=c.1)\/ ∃e ∈ (b,y)::s,e.1=c.1:=by
   intro hc;rcases C3 n r s (by simp at h ⊢;omega) c hc with⟨e,he,h1⟩|⟨e,he,h1⟩
   . exact .inl ⟨e,by simp[he],h1⟩
   . exact .inr ⟨e,by simp[he],h1⟩
  by_cases h3:Bu x y=true
  . rw[if_pos h3]at hc;exact step hc
  . rw[if_neg h3]at hc;rcases List.mem_cons.1 hc with rfl|hc
    . exact .inl ⟨(a,x),by simp,rfl⟩
    . exact step hc
theorem Ih: ∀(n:Nat) (a b:List Ax),a.length+b.length<=n->Az a->Az b->(Bq a b).Pairwise fun c d=>Bn c.1 d.1=true
 |_, [], [],_,_,_=>by rw[Bq];exact List.Pairwise.nil
 |0, [],_::_,h,_,_=>by simp at h
 |0,_::_,_,h,_,_=>by simp at h
 |n+1, [],(k,v)::s,h,ha,hb=>by
  obtain⟨b1,b2⟩:=List.pairwise_cons.1 hb;rw[Bq];refine List.pairwise_cons.2 ⟨fun c hc=> ?_,Ih n [] s (by simp at h ⊢;omega) ha b2⟩;rcases C3 _ [] s (Nat.le_refl _) c hc with⟨e,he,_⟩|⟨e,he,h1⟩
  . cases he
  . rw[<-h1];exact b1 e he
 |n+1,(k,v)::r, [],h,ha,hb=>by
  obtain⟨a1,a2⟩:=List.pairwise_cons.1 ha;rw[Bq];refine List.pairwise_cons.2 ⟨fun c hc=> ?_,Ih n r [] (by simp at h ⊢;omega) a2 hb⟩;rcases C3 _ r [] (Nat.le_refl _) c hc with⟨e,he,h1⟩|⟨e,he,_⟩
  . rw[<-h1];exact a1 e he
  . cases he
 |n+1,(a,x)::r,(b,y)::s,h,ha,hb=>by
  obtain⟨a1,a2⟩:=List.pairwise_cons.1 ha;obtain⟨b1,b2⟩:=List.pairwise_cons.1 hb;rw[Bq];by_cases h1:Bn a b=true
  . rw[if_pos h1];refine List.pairwise_cons.2 ⟨fun c hc=> ?_,Ih n r _ (by simp at h ⊢;omega) a2 hb⟩;rcases C3 _ r _ (Nat.le_refl _) c hc with⟨e,he,h2⟩|⟨e,he,h2⟩
    . rw[<-h2];exact a1 e he
    . rw[<-h2];rcases List.mem_cons.1 he with rfl|he
      . exact h1
      . exact Bw h1 (b1 e he)
  rw[if_neg h1];by_cases h2:Bn b a=true
  . rw[if_pos h2];refine List.pairwise_cons.2 ⟨fun c hc=> ?_,Ih n _ s (by simp at h ⊢;omega) ha b2⟩;rcases C3 _ _ s (Nat.le_refl _) c hc with⟨e,he,h3⟩|⟨e,he,h3⟩
    . rw[<-h3];rcases List.mem_cons.1 he with rfl|he
      . exact h2
      . exact Bw h2 (a1 e he)
    . rw[<-h3];exact b1 e he
  rw[if_neg h2];have e:a=b:=by
   rcases Fb a b with c|c|c
   . exact absurd c h1
   . exact c
   . exact absurd c h2
  subst e;have ih:=Ih n r s (by simp at h ⊢;omega) a2 b2;by_cases h3:Bu x y=true
  . rw[if_pos h3];exact ih
  . rw[if_neg h3];refine List.pairwise_cons.2 ⟨fun c hc=> ?_,ih⟩;rcases C3 _ r s (Nat.le_refl _) c hc with⟨e,he,h2⟩|⟨e,he,h2⟩
    . rw[<-h2];exact a1 e he
    . rw[<-h2];exact b1 e he
theorem Tm {k:ByteArray} {l:List Ax} (h: ∀e ∈ l,Bn k e.1=true):Dw k l=none:=Tn fun e he=>(Jb (h e he)).symm
theorem Ia {a q:ByteArray} {x:Val} {l:List Ax} (h:a≠q):Dw q ((a,x)::l)=Dw q l:=by rw[Dw,if_neg h]
theorem Jp: ∀(n:Nat) (a b:List Ax),a.length+b.length<=n->Az a->Az b-> ∀c ∈ Bq a b,Sy (Dw c.1 a) (Dw c.1 b)=false
 |_, [], [],_,_,_,c,hc=>by rw[Bq]at hc;cases hc
 |0, [],_::_,h,_,_,_,_=>by simp at h
 |0,_::_,_,h,_,_,_,_=>by simp at h
 |n+1, [],(k,v)::s,h,ha,hb,c,hc=>by
  obtain⟨b1,b2⟩:=List.pairwise_cons.1 hb;rw[Bq]at hc;rcases List.mem_cons.1 hc with rfl|hc
  . simp[Dw,Sy]
  . have ih:=Jp n [] s (by simp at h ⊢;omega) ha b2 c hc;rcases C3 _ [] s (Nat.le_refl _) c hc with⟨e,he,_⟩|⟨e,he,h1⟩
    . cases he
    . rw[Ia (by rw[<-h1];exact Jb (b1 e he))];exact ih
 |n+1,(k,v)::r, [],h,ha,hb,c,hc=>by
  obtain⟨a1,a2⟩:=List.pairwise_cons.1 ha;rw[Bq]at hc;rcases List.mem_cons.1 hc with rfl|hc
  . simp[Dw,Sy]
  . have ih:=Jp n r [] (by simp at h ⊢;omega) a2 hb c hc;rcases C3 _ r [] (Nat.le_refl _) c hc with⟨e,he,h1⟩|⟨e,he,_⟩
    . rw[Ia (by rw[<-h1];exact Jb (a1 e he))];exact ih
    . cases he
 |n+1,(a,x)::r,(b,y)::s,h,ha,hb,c,hc=>by
  obtain⟨a1,a2⟩:=List.pairwise_cons.1 ha;obtain⟨b1,b2⟩:=List.pairwise_cons.1 hb;rw[Bq]at hc;by_cases h1:Bn a b=true
  . have hB: ∀e ∈ (b,y)::s,Bn a e.1=true:=by
     intro e he;rcases List.mem_cons.1 he with rfl|he
     . exact h1
     . exact Bw h1 (b1 e he)
    rw[if_pos h1]at hc;rcases List.mem_cons.1 hc with rfl|hc
    . show Sy (Dw a ((a,x)::r)) (Dw a ((b,y)::s))=false;rw[Tm hB,Dw,if_pos rfl];rfl
    . have ih:=Jp n r _ (by simp at h ⊢;omega) a2 hb c hc;have hne:a≠c.1:=by
       rcases C3 _ r _ (Nat.le_refl _) c hc with⟨e,he,h2⟩|⟨e,he,h2⟩
       . rw[<-h2];exact Jb (a1 e he)
       . rw[<-h2];exact Jb (hB e he)
      rw[Ia hne];exact ih
  rw[if_neg h1]at hc;by_cases h2:Bn b a=true
  . have hA: ∀e ∈ (a,x)::r,Bn b e.1=true:=by
     intro e he;rcases List.mem_cons.1 he with rfl|he
     . exact h2
     . exact Bw h2 (a1 e he)
    rw[if_pos h2]at hc;rcases List.mem_cons.1 hc with rfl|hc
    . show Sy (Dw b ((a,x)::r)) (Dw b ((b,y)::s))=false;rw[Tm hA,Dw,if_pos rfl];rfl
    . have ih:=Jp n _ s (by simp at h ⊢;omega) ha b2 c hc;have hne:b≠c.1:=by
       rcases C3 _ _ s (Nat.le_refl _) c hc with⟨e,he,h3⟩|⟨e,he,h3⟩
       . rw[<-h3];exact Jb (hA e he)
       . rw[<-h3];exact Jb (b1 e he)
      rw[Ia (x:=y) hne];exact ih
  rw[if_neg h2]at hc;have e:a=b:=by
   rcases Fb a b with c|c|c
   . exact absurd c h1
   . exact c
   . exact absurd c h2
  subst e;have step:c ∈ Bq r s->Sy (Dw c.1 ((a,x)::r)) (Dw c.1 ((a,y)::s))=false:=by
   intro hc;have ih:=Jp n r s (by simp at h ⊢;omega) a2 b2 c hc;have hne:a≠c.1:=by
    rcases C3 _ r s (Nat.le_refl _) c hc with⟨e,he,h3⟩|⟨e,he,h3⟩
    . rw[<-h3];exact Jb (a1 e he)
    . rw[<-h3];exact Jb (b1 e he)
   rw[Ia hne,Ia hne];exact ih
  by_cases h3:Bu x y=true
  . rw[if_pos h3]at hc;exact step hc
  . rw[if_neg h3]at hc;rcases List.mem_cons.1 hc with rfl|hc
    . show Sy (Dw a ((a,x)::r)) (Dw a ((a,y)::s))=false;rw[Dw,if_pos rfl,Dw,if_pos rfl];simpa[Sy]using h3
    . exact step hc
theorem Aex: ∀{xs ys:List ByteArray},xs.Nodup->(∀x ∈ xs,x ∈ ys)->xs.length<=ys.length
 | [],_,_,_=>by simp
 |x::r,ys,hn,h=>by
  obtain⟨h1,h2⟩:=List.nodup_cons.1 hn;have ih:=Aex (xs:=r) (ys:=ys.filter fun y=> !decide (y=x)) h2 (fun z hz=>List.mem_filter.2 ⟨h z (by simp[hz]),by
   have:z≠x:=fun e=>h1 (e▸hz);rw[decide_eq_false this];rfl⟩)
  have hl:(ys.filter fun y=> !decide (y=x)).length<ys.length:=by
   rw[List.length_filter_lt_length_iff_exists];exact⟨x,h x (by simp),by simp⟩
  simp only[List.length_cons];omega
theorem Acm {a:List Ax} {l:List POp} (ha:Az a) (h3: ∀p ∈ l,p.k≠3):(Bq a (l.foldl Do a)).length<=l.length:=by
 have hb:=Oz (l:=l) ha;have hr:=Ih _ a _ (Nat.le_refl _) ha hb;have hn:((Bq a (l.foldl Do a)).map (·.1)).Nodup:=by
  refine List.pairwise_map.2 (hr.imp ?_);intro c d hcd;exact Jb hcd
 have:=Aex (ys:=l.map (·.key)) hn (fun x hx=>by
  obtain⟨c,hc,rfl⟩:=List.mem_map.1 hx;have hs:=Jp _ a _ (Nat.le_refl _) ha hb c hc;by_cases hm:c.1 ∈ l.map (·.key)
  . exact hm
  . rw[Xj h3 fun p hp e=>hm (List.mem_map.2 ⟨p,hp,e⟩)]at hs
    exfalso
    cases hg:Dw c.1 a with
    |none=>rw[hg]at hs;simp[Sy]at hs
    |some v=>rw[hg]at hs;simp[Sy,Ig]at hs)
 simpa using this
end Go.Proofs.YtnkmhaachfgaoaaGreatDoor
namespace Go.Proofs.YtnkmhaachfgaoaaGreatDoor
open Go.RowKit
def Ace (w:World) (o:List (ByteArray×Val)) (e:Ending) (w':World):Prop:= ∃V ns,e=.returned V/\w'.ownsRow w.heap.size 94 7 V o.length ns/\Af w w.heap.size (dO o) ns/\Below w.heap.size w w'
theorem Wz (o:List (ByteArray×Val)) (a:Option Addr) (n c:Nat) (w:World) (h:Ae w w.heap.size (.row 7 (dO o)) [.slice a n c]) (hn:o.length<=100000000):
 Calls Tryz.prog 200 #[.slice a n c] w (Ace w o):=by
 have hl:=h.row_len;rw[At]at hl;subst hl;obtain⟨ns,hr,hA,ho⟩:=h.reads;have hnil:=fun W=>Lib.run_eql_slice_nil (P:=Tryz.prog) W 38 94 a o.length c 0 0 Tryz.underlying38
 cases a with
 |none=>
  have h0:o.length=0:=by
   rcases Nat.eq_zero_or_pos o.length with h0|h0
   . exact h0
   . obtain⟨ad,e,_⟩:=hr.2 h0
     cases e
  have hns:ns= []:=List.eq_nil_of_length_eq_zero (by rw[hr.1,h0]);subst hns;obtain⟨H0,HA⟩:=hid2 h0 hA;clear h0 hA;clear h hr ho;go_enter Tryz.func200,Tryz.ntmps200;go_wp2;go_ret;exact⟨.slice none 0 0, [],rfl,by rw[H0.out];exact World.ownsRow_nil _ _ _ _,HA.out,Below.refl _ _⟩
 |some ad=>
  obtain⟨j0,hj,hy0,hy1,hy2⟩:=info_parts Q9;obtain⟨Hj,Hy0,Hy1,Hy2,Hr,HA,Ho⟩:=hid7 hj hy0 hy1 hy2 hr hA ho;clear hj hy0 hy1 hy2 hr hA ho;clear h;go_enter Tryz.func200,Tryz.ntmps200;have HOwn:Hid ((w.alloc (.cells #[] 94)).ownsRow w.heap.size 94 7 (.slice (some ⟨w.heap.size,0,none⟩) 0 0) 0 []):=
   ⟨by simp,.inr ⟨w.heap.size,0, #[],rfl,Nat.le_refl _,heap_alloc_new _ _,Nat.le_refl _,by unfold maxLen;omega,by simp,by simp⟩⟩
  go_wp2_with (at_builtin;refine Oi _ rfl (.tmp 5) (.tmp 6) 38 rfl w.heap.size 94 j0 (.agg #[.string ⟨#[]⟩,.int .i64 0,.bool false,.int .i64 0,.string ⟨#[]⟩,.slice none 0 0,.slice none 0 0]) 7 104 Tryz.underlying38 Hj.out Hy0.out Hy1.out Hy2.out rfl (by omega) (.slice (some ⟨w.heap.size,0,none⟩) 0 0) 0 [] rfl HOwn.out w.heap.size _ o.length _ ns rfl ?c0 ?c1 ?c2 ?c3 ?c4 ?_)
  case c0=>exact Hr.out.alloc (Nat.le_refl _) _
  case c1=>exact Ho.out
  case c2=>unfold maxLen;omega
  case c3=>omega
  case c4=>simp
  intro v1 w1 hown1 hgrow1 _;have Hb:Hid (Below w.heap.size w w1):=((Below.refl _ _).alloc (Nat.le_refl _) _).grown hgrow1 (by simp) (fun g hg=>by simp[Value.ownBlock]at hg;omega);have Hown1:=qz hown1;clear hown1;clear hgrow1;go_wp2;go_ret;exact⟨v1,ns,rfl,by simpa using Hown1.out,HA.out,Hb.out⟩
end Go.Proofs.YtnkmhaachfgaoaaGreatDoor
namespace Go.Proofs.YtnkmhaachfgaoaaGreatDoor
def Ox (e:Ax):Int:=if Iv e.1=false then 8 else C6 e.2
def Dz:List Ax->Int
 | []=>0
 |e::r=>if Ox e=0 then Dz r else Ox e
theorem Fs {l:List Ax} (h:Dz l=0): ∀e ∈ l,Iv e.1=true/\C6 e.2=0:=by
 induction l with
 |nil=>intro e he;cases he
 |cons x r ih=>
  simp only[Dz]at h;by_cases hx:Ox x=0
  . rw[if_pos hx]at h;intro e he;rcases List.mem_cons.1 he with rfl|he
    . unfold Ox at hx;by_cases hk:Iv e.1=false
      . rw[if_pos hk]at hx;cases hx
      . rw[if_neg hk]at hx;exact⟨by simpa using hk,hx⟩
    . exact ih h e he
  . rw[if_neg hx]at h;exact absurd h hx
def Age (p:POp):Prop:=(p.k=1/\Iv p.key=true/\C6 p.v=0)\/(p.k=2/\Iv p.key=true/\p.v=Fy)
theorem Lf: ∀{l:List POp} {prev:Option POp},(∀p ∈ l,Age p)->(l.Pairwise fun p q=>Bn p.key q.key=true)->(∀q,prev=some q->q.k=3\/ ∀p ∈ l,Bn q.key p.key=true)->Aq prev l=0
 | [],_,_,_,_=>by simp[Aq]
 |p::r,prev,hs,hr,hp=>by
  obtain⟨r1,r2⟩:=List.pairwise_cons.1 hr;have ih:=Lf (l:=r) (prev:=some p) (fun x hx=>hs x (List.mem_cons_of_mem _ hx)) r2 (fun q e=>by cases e;exact .inr r1);have hf:(prev.any fun q=> !Di q p)=false:=by
   cases prev with
   |none=>rfl
   |some q=>
    have h3:p.k≠3:=by rcases hs p (by simp)with h|h<;>omega
    have:Di q p=true:=by
     unfold Di;rw[decide_eq_true h3];rcases hp q rfl with h|h
     . rw[decide_eq_true h];rfl
     . have h1:Op.bytesLess q.key.toList p.key.toList=true:=h p (by simp);rw[h1];simp
    simp[this]
  have hst:Cq p=false:=by
   unfold Cq;rcases hs p (by simp)with⟨h1,_,_⟩|⟨h1,_,h2⟩
   . rw[if_pos h1]
   . rw[if_neg (by omega),if_pos h1,h2];decide+kernel
  have hk:Iv p.key=true:=by rcases hs p (by simp)with h|h<;>exact h.2.1
  simp only[Aq];rw[if_neg (by rw[hst,hf];simp),if_neg (by rcases hs p (by simp)with h|h<;>omega),if_neg (by rw[hk];simp)];rcases hs p (by simp)with⟨h1,_,h2⟩|⟨h1,_,_⟩
  . rw[if_neg (by omega),if_pos h2];exact ih
  . rw[if_pos h1];exact ih
theorem Mr: ∀(n:Nat) (a b:List Ax),a.length+b.length<=n-> ∀c ∈ Bq a b,∀v,c.2.2=some v->(c.1,v) ∈ b\/ ∃x,((c.1,x) ∈ a/\ ∃e ∈ b,e.2=v/\ ¬(Bn e.1 c.1=true)/\ ¬(Bn c.1 e.1=true))
 |_, [], [],_,c,hc,_,_=>by rw[Bq]at hc;cases hc
 |0, [],_::_,h,_,_,_,_=>by simp at h
 |0,_::_,_,h,_,_,_,_=>by simp at h
 |n+1, [],(k,v)::s,h,c,hc,z,hz=>by
  rw[Bq]at hc;rcases List.mem_cons.1 hc with rfl|hc
  . cases hz;exact .inl (by simp)
  . rcases Mr n [] s (by simp at h ⊢;omega) c hc z hz with h1|⟨x,h1,_⟩
    . exact .inl (List.mem_cons_of_mem _ h1)
    . cases h1
 |n+1,(k,v)::r, [],h,c,hc,z,hz=>by
  rw[Bq]at hc;rcases List.mem_cons.1 hc with rfl|hc
  . cases hz
  . rcases Mr n r [] (by simp at h ⊢;omega) c hc z hz with h1|⟨x,_,e,he,_⟩
    . cases h1
    . cases he
 |n+1,(a,x)::r,(b,y)::s,h,c,hc,z,hz=>by
  rw[Bq]at hc;by_cases h1:Bn a b=true
  . rw[if_pos h1]at hc;rcases List.mem_cons.1 hc with rfl|hc
    . cases hz
    . rcases Mr n r _ (by simp at h ⊢;omega) c hc z hz with h1|⟨x,h1,h2⟩
      . exact .inl h1
      . exact .inr ⟨x,List.mem_cons_of_mem _ h1,h2⟩
  rw[if_neg h1]at hc;by_cases h2:Bn b a=true
  . rw[if_pos h2]at hc;rcases List.mem_cons.1 hc with rfl|hc
    . cases hz;exact .inl (by simp)
    . rcases Mr n _ s (by simp at h ⊢;omega) c hc z hz with h1|⟨x,h1,e,he,h2⟩
      . exact .inl (List.mem_cons_of_mem _ h1)
      . exact .inr ⟨x,h1,e,List.mem_cons_of_mem _ he,h2⟩
  rw[if_neg h2]at hc;have step:c ∈ Bq r s->(c.1,z) ∈ (b,y)::s\/ ∃w,((c.1,w) ∈ (a,x)::r/\ ∃e ∈ (b,y)::s,e.2=z/\ ¬(Bn e.1 c.1=true)/\ ¬(Bn c.1 e.1=true)):=by
   intro hc;rcases Mr n r s (by simp at h ⊢;omega) c hc z hz with h1|⟨w,h1,e,he,h2⟩
   . exact .inl (List.mem_cons_of_mem _ h1)
   . exact .inr ⟨w,List.mem_cons_of_mem _ h1,e,List.mem_cons_of_mem _ he,h2⟩
  by_cases h3:Bu x y=true
  . rw[if_pos h3]at hc;exact step hc
  . rw[if_neg h3]at hc;rcases List.mem_cons.1 hc with rfl|hc
    . cases hz;exact .inr ⟨x,by simp,(b,y),by simp,rfl,h2,h1⟩
    . exact step hc
theorem Z9 {a b:List Ax} (ha:Dz a=0) (hb:Dz b=0): ∀p ∈ (Bq a b).map Cj,Age p:=by
 intro p hp;obtain⟨c,hc,rfl⟩:=List.mem_map.1 hp;have hk:Iv c.1=true:=by
  rcases C3 _ a b (Nat.le_refl _) c hc with⟨e,he,h1⟩|⟨e,he,h1⟩
  . rw[<-h1];exact(Fs ha e he).1
  . rw[<-h1];exact(Fs hb e he).1
 obtain⟨k,was,is⟩:=c
 cases is with
 |none=>exact .inr ⟨rfl,hk,rfl⟩
 |some v=>
  refine .inl ⟨rfl,hk, ?_⟩;rcases Mr _ a b (Nat.le_refl _) _ hc v rfl with h1|⟨x,_,e,he,h2,_⟩
  . exact(Fs hb _ h1).2
  . show C6 v=0;rw[<-h2];exact(Fs hb e he).2
theorem Yd (c:Wc):(Cj c).key=c.1:=by
 obtain⟨k,was,is⟩:=c
 cases is<;>rfl
theorem Q6 {a b:List Ax} (ha:Az a) (hb:Az b) (ma:Dz a=0) (mb:Dz b=0):Aq none ((Bq a b).map Cj)=0:=by
 refine Lf (Z9 ma mb) (List.pairwise_map.2 ((Ih _ a b (Nat.le_refl _) ha hb).imp ?_)) (fun q e=>by cases e);intro c d h;rw[Yd,Yd];exact h
theorem Adg {b:List Ax} (hb:Az b) (mb:Dz b=0):Aq none (B5 b)=0:=by
 have hst:Cq ⟨3,⟨#[]⟩,Fy⟩=false:=by decide+kernel
 unfold B5;simp only[Aq,hst,Option.any_none,Bool.or_false,Bool.false_eq_true,if_false,if_true];refine Lf (fun p hp=> ?_) (List.pairwise_map.2 (hb.imp ?_)) (fun q e=>by cases e;exact .inl rfl)
 . obtain⟨e,he,rfl⟩:=List.mem_map.1 hp;exact .inl ⟨rfl,Fs mb e he⟩
 . intro c d h;exact h
theorem Yv: ∀{a b:List Ax},(∀e ∈ a,C6 e.2=0)->(∀e ∈ b,C6 e.2=0)->D0 a b=true->a=b
 | [], [],_,_,_=>rfl
 | [],_::_,_,_,h=>by simp[D0]at h
 |_::_, [],_,_,h=>by simp[D0]at h
 |(k,x)::r,(k',y)::s,ha,hb,h=>by
  simp only[D0,Bool.and_eq_true,decide_eq_true_eq]at h;have hx:C6 x=0:=ha (k,x) (by simp);have hy:C6 y=0:=hb (k',y) (by simp);rw[h.1,(Af9 (My hx).1 (My hy).1).1 h.2.1,Yv (fun e he=>ha e (by simp[he])) (fun e he=>hb e (by simp[he])) h.2.2]
theorem Jo: ∀(n:Nat) (a b:List Ax),a.length+b.length<=n-> ∀e ∈ Eu a b,(∃x ∈ a,x.2=e.2)\/ ∃x ∈ b,x.2=e.2
 |_, [],s,_,e,he=>by rw[Eu]at he;exact .inr ⟨e,he,rfl⟩
 |_,_::_, [],_,e,he=>by rw[Eu]at he;cases he
 |0,_::_,_::_,h,_,_=>by simp at h
 |n+1,(a,x)::r,(b,y)::s,h,e,he=>by
  have lift:(∃z ∈ r,z.2=e.2)\/(∃z ∈ s,z.2=e.2)->(∃z ∈ (a,x)::r,z.2=e.2)\/ ∃z ∈ (b,y)::s,z.2=e.2:=by
   rintro(⟨z,hz,h1⟩|⟨z,hz,h1⟩)
   . exact .inl ⟨z,by simp[hz],h1⟩
   . exact .inr ⟨z,by simp[hz],h1⟩
  rw[Eu]at he;by_cases h1:Bn a b=true
  . rw[if_pos h1]at he;rcases Jo n r _ (by simp at h ⊢;omega) e he with⟨z,hz,h1⟩|h2
    . exact .inl ⟨z,by simp[hz],h1⟩
    . exact .inr h2
  rw[if_neg h1]at he;by_cases h2:Bn b a=true
  . rw[if_pos h2]at he;rcases List.mem_cons.1 he with rfl|he
    . exact .inr ⟨(b,y),by simp,rfl⟩
    rcases Jo n _ s (by simp at h ⊢;omega) e he with h2|⟨z,hz,h1⟩
    . exact .inl h2
    . exact .inr ⟨z,by simp[hz],h1⟩
  rw[if_neg h2]at he;by_cases h3:Bu x y=true
  . rw[if_pos h3]at he;rcases List.mem_cons.1 he with rfl|he
    . exact .inl ⟨(a,x),by simp,rfl⟩
    . exact lift (Jo n r s (by simp at h ⊢;omega) e he)
  . rw[if_neg h3]at he;rcases List.mem_cons.1 he with rfl|he
    . exact .inr ⟨(b,y),by simp,rfl⟩
    . exact lift (Jo n r s (by simp at h ⊢;omega) e he)
theorem Jg {a b:List Ax} (ha:Az a) (hb:Az b) (ma:Dz a=0) (mb:Dz b=0):((Bq a b).map Cj).foldl Do a=b:=by
 rw[Tx];have:=Ou _ [] a b (Nat.le_refl _) ha hb (fun _ h=>by cases h) (fun _ h=>by cases h);rw[List.nil_append,List.nil_append]at this;rw[this];refine Yv (fun e he=> ?_) (fun e he=>(Fs mb e he).2) (Kd _ a b (Nat.le_refl _));rcases Jo _ a b (Nat.le_refl _) e he with⟨x,hx,h1⟩|⟨x,hx,h1⟩
 . rw[<-h1];exact(Fs ma x hx).2
 . rw[<-h1];exact(Fs mb x hx).2
theorem Mw {k:ByteArray}: ∀{l:List Ax},Az l->B3 k l=(if Bm k l then l.take (Cy k l)++l.drop (Cy k l+1)else l)
 | [],_=>by simp[B3,Bm]
 |(a,x)::r,ha=>by
  obtain⟨a1,a2⟩:=List.pairwise_cons.1 ha;by_cases h:Bn a k=true
  . have hh:Bm k ((a,x)::r)=Bm k r:=by
     unfold Bm;simp only[Cy,if_pos h,List.getElem?_cons_succ]
    have hd:B3 k ((a,x)::r)=(a,x)::B3 k r:=by
     have:=Jb h;simp[B3,this]
    rw[hd,hh,Mw a2];simp only[Cy,if_pos h,List.take_succ_cons,List.cons_append,List.drop_succ_cons];by_cases c:Bm k r=true
    . rw[if_pos c,if_pos c]
    . rw[if_neg c,if_neg c]
  . by_cases e:a=k
    . subst e;have hh:Bm a ((a,x)::r)=true:=by
       unfold Bm;simp only[Cy,if_neg h,List.getElem?_cons_zero,Option.any_some];simp
      have hd:B3 a ((a,x)::r)=B3 a r:=by simp[B3]
      rw[hd,(Ii a1).1,hh,if_pos rfl];simp only[Cy,if_neg h,List.take_zero,List.nil_append,List.drop_succ_cons,List.drop_zero]
    . have hk:Bn k a=true:=by
       rcases Fb a k with c|c|c
       . exact absurd c h
       . exact absurd c e
       . exact c
      have hA: ∀z ∈ (a,x)::r,Bn k z.1=true:=by
       intro z hz;rcases List.mem_cons.1 hz with rfl|hz
       . exact hk
       . exact Bw hk (a1 z hz)
      have hh:Bm k ((a,x)::r)=false:=by
       cases c:Bm k ((a,x)::r)with
       |false=>rfl
       |true=>
        unfold Bm at c;simp only[Cy,if_neg h,List.getElem?_cons_zero,Option.any_some]at c;exact absurd (Fk (by simpa using c)) e
      rw[(Ii hA).1,hh,if_neg (by simp)]
end Go.Proofs.YtnkmhaachfgaoaaGreatDoor
namespace Go.Proofs.YtnkmhaachfgaoaaGreatDoor
open Go Go.RowKit
theorem Z3 (S0:Nat->Prop) (b g n c i M:Nat) (l:List D) (w:World) (h:Al S0 b 71 7 w l (.slice (some ⟨g,0,none⟩) n c)) (hl:l.length=M+1) (hi:i<=M) (hM:M<=1000):
 Calls Tryz.prog 101 #[.slice (some ⟨g,0,none⟩) n c,.int .i64 i,.int .i64 ((i:Int)+1)] w fun e w'=>e=.returned (.slice (some ⟨g,0,none⟩) M c)/\Al S0 b 71 7 w' (l.take i++l.drop (i+1)) (.slice (some ⟨g,0,none⟩) M c)/\KB (fun k=>k=g) w w':=by
 obtain⟨PO,hPO⟩: ∃P:Ending->World->Prop,(fun e w'=>e=.returned (.slice (some ⟨g,0,none⟩) M c)/\Al S0 b 71 7 w' (l.take i++l.drop (i+1)) (.slice (some ⟨g,0,none⟩) M c)/\KB (fun k=>k=g) w w')=P:=⟨_,rfl⟩;rw[hPO];obtain⟨i0,hi0,hz0,hzs,hzb⟩:=info_parts Xt;have hdw:Below w.heap.size w w.drew:=Below.drew (Below.refl _ w);obtain⟨cur,news,rfl,hnc,hcm,hcs,hg,k1,k2,k3,k4,k5,k6⟩:=(h.below hdw).del (i:=i) (j:=i+1) (by omega) (by omega) (z:= [.string ⟨#[]⟩,.int .i64 0,.bool false,.int .i64 0,.string ⟨#[]⟩,.slice none 0 0,.slice none 0 0]) (by rw[show i+1 - i=1 from by omega];rfl);rw[hl]at hnc k1 k4 k5 k6 ⊢;have em:i+(M+1 - (i+1))=M:=by omega
 have em2:M+1 - (i+1)=M - i:=by omega
 rw[em2]at k1;rw[em]at k6;obtain⟨W1,hW1⟩: ∃W,A8 w.drew g (i*7) news=W:=⟨_,rfl⟩;rw[hW1]at k5 k6;have hc63:c<=9223372036854775807:=by simp only[maxLen]at hcm;omega
 have hst:=run_storeCells_cells (P:=Tryz.prog) g (M*7) [.string ⟨#[]⟩,.int .i64 0,.bool false,.int .i64 0,.string ⟨#[]⟩,.slice none 0 0,.slice none 0 0] 0 W1 (fun j hj=>by rw[Nat.add_zero];exact(k5 (M*7+j) (by simp only[List.length_cons,List.length_nil]at hj;omega)).1) (fun j hj=>by rw[Nat.add_zero];exact(k5 (M*7+j) (by simp only[List.length_cons,List.length_nil]at hj;omega)).2) (by simp[Value.oneCell']);simp only[Nat.add_zero]at hst;have hzc:(Builtin.zeroCells (.agg #[.string ⟨#[]⟩,.int .i64 0,.bool false,.int .i64 0,.string ⟨#[]⟩,.slice none 0 0,.slice none 0 0]:Value).cells 1).toList= [.string ⟨#[]⟩,.int .i64 0,.bool false,.int .i64 0,.string ⟨#[]⟩,.slice none 0 0,.slice none 0 0]:=by kernel_rfl
 have hcl: ∀ty cc,(Builtin.clear_ #[22] ty #[.slice (some ⟨g,M*7,none⟩) 1 cc]).run Tryz.prog W1=.ok (.tuple #[]) (W1.setCells g (M*7) [.string ⟨#[]⟩,.int .i64 0,.bool false,.int .i64 0,.string ⟨#[]⟩,.slice none 0 0,.slice none 0 0]):=fun ty cc=>by
  simp[Builtin.clear_,run_underlying Tryz.underlying22,hzc,hst]
 have HP:Hid (PO (.returned (.slice (some ⟨g,0,none⟩) M c)) (W1.setCells g (M*7) [.string ⟨#[]⟩,.int .i64 0,.bool false,.int .i64 0,.string ⟨#[]⟩,.slice none 0 0,.slice none 0 0])):=by
  show PO _ _;rw[<-hPO,E6];refine⟨rfl,k6, ?_⟩;rw[<-hW1];exact((KB.of_below hdw).trans ((KB.many (S:=fun k=>k=g) w.drew g (i*7) rfl news).trans (KB.many (S:=fun k=>k=g) _ g (M*7) rfl [.string ⟨#[]⟩,.int .i64 0,.bool false,.int .i64 0,.string ⟨#[]⟩,.slice none 0 0,.slice none 0 0]) fun _ _ h=>h) fun _ _ h=>h)
 have hs:Hid (∀j,j<news.length->(w.drew.cell? ⟨g,0+i*7+j,none⟩).isSome=true/\w.drew.frozen? ⟨g,0+i*7+j,none⟩=false):=fun j hj=>by
  rw[Nat.zero_add];exact k4 _ (by omega)
 obtain⟨A,hA,hsrc⟩: ∃A:Addr,(if c=i+1 then some (⟨g,0,none⟩:Addr)else some ⟨g,(i+1)*7,none⟩)=some A/\Hid (∀j u,news[j]? =some u->w.drew.cell? (A.add j)=some u):=by
  by_cases h:c=i+1
  . refine⟨⟨g,0,none⟩,by rw[if_pos h],fun j u hu=> ?_⟩;have:=(List.getElem?_eq_some_iff.1 hu).1;omega
  . exact⟨⟨g,(i+1)*7,none⟩,by rw[if_neg h],fun j u hu=>by rw[A9];exact k2 j u hu⟩
 have hW1':w.drew.setCells g (0+i*7) news=W1:=by rw[E6,Nat.zero_add];exact hW1
 have y1:((M+1:Nat):Int)=(M:Int)+1:=by omega
 have y2:(i:Int)<=(M:Int):=by omega
 have y3: ¬c=M:=by omega
 have y4:M+1 - M=1:=by omega
 have y5:i<=c:=by omega
 have y6:i+1<=c:=by omega
 have y7:M+1<=c:=by omega
 have y8:i<=M+1:=by omega
 have y9: ¬((i:Int)=(i:Int)+1):=by omega
 have y10:(0:Int)<=(i:Int)+1:=by omega
 obtain⟨K1,K3,Hi0,Hzs,HW1',HPO⟩:=hid6 k1 k3 hi0 hzs hW1' hPO;clear k1 k3 hi0 hzs hW1' hPO;clear h k2 k4 k5 k6 hcm hcs hg hz0 hzb hst hzc hdw hW1;go_enter Tryz.func101,Tryz.ntmps101;go_upto_region 5 with(fail);refine wp_region_held_drew (S:=fun _=>True) (by kernel_rfl) trivial (fun hHeld=> ?_);refine tkH 0 hHeld ?_;refine tkH 1 hHeld ?_;refine tkH 2 hHeld ?_;refine tkH 3 hHeld ?_;refine tkH 4 hHeld ?_;refine tkH 5 hHeld ?_;refine C4 6 fun K hK=> ?_;refine step_append_room rfl (.tmp 22) (.tmp 25) 22 rfl 71 i0 7 Tryz.underlying22 Hi0.out Hzs.out g 0 i c (by simp[Act.eval]) A (M - i) (c - (i+1)) news (by simp[Act.eval]) K1.out hsrc.out K3.out (by omega) hs.out ?_;rw[HW1'.out];refine hK.out _ _ trivial (fun hHeld=> ?_);clear hK K
 try simp only[Act.put,tk1,tk2,tk3,tk4,tk5,tk6]
 refine tkH 7 hHeld ?_;refine wpAnyH_done (by kernel_rfl) ?_ _;clear hHeld;go_wp2;exact HP.out
end Go.Proofs.YtnkmhaachfgaoaaGreatDoor
