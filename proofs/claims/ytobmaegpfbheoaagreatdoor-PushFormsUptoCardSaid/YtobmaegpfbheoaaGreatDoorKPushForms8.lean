/- Parts: commonplaceref11.Value: the object of any mutator that may be. Condition: a bulk of at most 8 * 10^6. -/
import Derived.Test.YtobmaegpfbheoaaGreatDoorKPushForms6
import Derived.Test.YtobmaegpfbheoaaGreatDoorKPushForms7
namespace Go.Proofs.YtobmaegpfbheoaaGreatDoor
open Go Go.RowKit
theorem Tf {S:Nat->Prop} {w:World} {k:Int} {key dst:ByteArray} {n:Int} {had:Bool} {k1:Int} {b1:Bool} {n1:Int} {t1:ByteArray} {l1:List Val} {o1:List (ByteArray×Val)} {has:Bool} {k2:Int} {b2:Bool} {n2:Int} {t2:ByteArray} {l2:List Val} {o2:List (ByteArray×Val)} {l:List Mut} {cs:List Value} (h:Ac S w (dM (Mut.mk k key dst n had (.mk k1 b1 n1 t1 l1 o1) has (.mk k2 b2 n2 t2 l2 o2) l)) cs):
 ∃la1 lc1 oa1 oc1 la2 lc2 oa2 oc2 a c,cs= [.int .i64 k,.string key,.string dst,.int .i64 n,.bool had,.int .i64 k1,.bool b1,.int .i64 n1,.string t1,.slice la1 l1.length lc1,.slice oa1 o1.length oc1,.bool has,.int .i64 k2,.bool b2,.int .i64 n2,.string t2,.slice la2 l2.length lc2,.slice oa2 o2.length oc2,.slice a l.length c]/\Ac S w (dV (.mk k1 b1 n1 t1 l1 o1)) [.int .i64 k1,.bool b1,.int .i64 n1,.string t1,.slice la1 l1.length lc1,.slice oa1 o1.length oc1]/\Ac S w (dV (.mk k2 b2 n2 t2 l2 o2)) [.int .i64 k2,.bool b2,.int .i64 n2,.string t2,.slice la2 l2.length lc2,.slice oa2 o2.length oc2]/\Ac S w (.row 19 (Vc l)) [.slice a l.length c]:=by
 obtain⟨la1,lc1,oa1,oc1,la2,lc2,oa2,oc2,a,c,rfl,_,_,_⟩:=Bf h.now;refine⟨la1,lc1,oa1,oc1,la2,lc2,oa2,oc2,a,c,rfl,fun w'' h1 h2=> ?_,fun w'' h1 h2=> ?_,fun w'' h1 h2=> ?_⟩
 . obtain⟨la1',lc1',oa1',oc1',la2',lc2',oa2',oc2',a',c',e,g1,g2,g3⟩:=Bf (h w'' h1 h2);simp only[List.cons.injEq,Value.slice.injEq,true_and,and_true]at e;obtain⟨⟨rfl,rfl⟩,⟨rfl,rfl⟩,_⟩:=e;exact Cv _ _ g1
 . obtain⟨la1',lc1',oa1',oc1',la2',lc2',oa2',oc2',a',c',e,g1,g2,g3⟩:=Bf (h w'' h1 h2);simp only[List.cons.injEq,Value.slice.injEq,true_and,and_true]at e;obtain⟨_,_,⟨rfl,rfl⟩,⟨rfl,rfl⟩,_⟩:=e;exact Cv _ _ g2
 . obtain⟨la1',lc1',oa1',oc1',la2',lc2',oa2',oc2',a',c',e,g1,g2,g3⟩:=Bf (h w'' h1 h2);simp only[List.cons.injEq,Value.slice.injEq,true_and,and_true]at e;obtain⟨_,_,_,_,⟨rfl,rfl⟩⟩:=e;exact g3
theorem Fm.post {S:Nat->Prop} {O:List (ByteArray×Val)} {k:Int} {m:Mut} {w:World} {e:Ending} {w':World} (h:Fm S O k w e w') (hm:C5 m=ov [(Am,ov O),(An,tv (Dt k))]):Gg S m w e w':=by
 unfold Gg;rw[hm];exact h
theorem Tv: ∀(m:Mut) (d:Int) (S:Nat->Prop) (w:World) (cs:List Value),D1 m d=0->Cg m<=8000000->(∀i,S i->i<w.heap.size)->Ac S w (dM m) cs->
 Calls Tryz.prog 21 #[.agg cs.toArray] w (Gg S m w):=by
 refine Mut.ind ?_;intro k key dst n had was has v l IH d S w cs hm hb hS h;obtain⟨hbare,_,_,_,_,hml⟩:=Ju hm;obtain⟨hk1,hk7⟩:=K8 hbare;obtain⟨k1,b1,n1,t1,l1,o1⟩:=was;obtain⟨k2,b2,n2,t2,l2,o2⟩:=v;obtain⟨la1,lc1,oa1,oc1,la2,lc2,oa2,oc2,a,c,rfl,g1,g2,g3⟩:=Tf h;simp only[Cg]at hb;have hln:=E3 l;have hI: ∀x ∈ l,∀(S':Nat->Prop) (W:World) (cs:List Value),(∀i,S' i->i<W.heap.size)->Ac S' W (dM x) cs->Calls Tryz.prog 21 #[.agg cs.toArray] W (Gg S' x W):=fun x hx S' W cs h1 h2=>
  IH x hx (d+1) S' W cs (Lm hml x hx) (by have:=E4 hx;omega) h1 h2
 have hc:k=1\/k=2\/k=3\/k=4\/k=5\/k=6\/k=7:=by omega
 rcases hc with rfl|rfl|rfl|rfl|rfl|rfl|rfl
 . exact(Aca S w hS key _ _ _ _ _ _ _ _ _ _ k2 b2 n2 t2 l2 o2 la2 lc2 oa2 oc2 _ g2).mono fun e w' h=>h.post (by simp[C5])
 . exact(Acb S w hS key _ _ _ _ _ _ _ _ _ _ _ _ _ _ _ _ _).mono fun e w' h=>h.post (by simp[C5])
 . exact(Acc S w hS key n _ _ _ _ _ _ _ _ _ _ _ _ _ _ _ _).mono fun e w' h=>h.post (by simp[C5])
 . exact(Acd S w hS key _ _ had k1 b1 n1 t1 l1 o1 la1 lc1 oa1 oc1 has k2 b2 n2 t2 l2 o2 la2 lc2 oa2 oc2 _ g1 g2).mono fun e w' h=>h.post (by simp[C5])
 . exact(Ace S w hS key _ _ _ _ _ _ _ _ _ _ k2 b2 n2 t2 l2 o2 la2 lc2 oa2 oc2 _ g2).mono fun e w' h=>h.post (by simp[C5])
 . exact(Acf S w hS key dst _ _ _ _ _ _ _ _ _ _ _ _ _ _ _ _).mono fun e w' h=>h.post (by simp[C5])
 . exact(Acg S w hS key _ _ had k1 b1 n1 t1 l1 o1 la1 lc1 oa1 oc1 _ _ _ _ _ _ _ l a c g1 g3 (by omega) hI).mono fun e w' h=>h.post (by simp[C5])
end Go.Proofs.YtobmaegpfbheoaaGreatDoor
