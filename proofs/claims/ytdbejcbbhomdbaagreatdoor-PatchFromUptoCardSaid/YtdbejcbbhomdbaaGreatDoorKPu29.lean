/- Parts: The document's way to the changes: key by key of both. Plain. No condition. -/
import Derived.Deep.RegionHeld
import Derived.Test.YtdbejcbbhomdbaaGreatDoorKPu25
set_option maxRecDepth 100000
namespace Go.Proofs.YtdbejcbbhomdbaaGreatDoor
open Go Go.RowKit
theorem Ya {S:Nat->Prop} {s n c g off:Nat} {w:World} {l:List D} {q:Nat} {d:D} {u0 v1:Value} (h:Ag S w (.row s l) [.slice (some ⟨g,off,none⟩) n c]) (hi:l[q]? =some d) (hu: ∀(w:World) (B:Nat) cs,Ai w B d cs->cs[0]? =some u0) (hv:v1≠u0):
 S g/\ ∀cs:List Value,(∀j u,cs[j]? =some u->w.cell? ⟨g,off+q*s+j,none⟩=some u)->cs.length=s->Ag S w d cs:=by
 obtain⟨g',off',e,hg,cs0,h1,hl0,hc0⟩:=h.now.at_ hi
 cases e
 have hf:=hc0 0 u0 (hu _ _ _ h1);have hge:S g:=by
  refine Classical.byContradiction fun hlt=>hv ?_;obtain⟨g2,off2,e,_,cs1,h2,_,hc1⟩:=(h (w.setCell ⟨g,off+q*s+0,none⟩ v1) (by simp[World.setCell]) (fun p p1 p2=>World.cell?_setCell_far _ _ _ _ (by show g≠p.block;intro e;exact hlt (e▸p1)))).at_ hi
  cases e
  have:=hc1 0 u0 (hu _ _ _ h2);rw[World.cell?_setCell_same _ _ _ hf]at this;exact Option.some.inj this
 refine⟨hge,fun cs hcs hl w'' hs hk=> ?_⟩;obtain⟨g2,off2,e,_,cs2,h2,hl2,hc2⟩:=(h w'' hs hk).at_ hi
 cases e
 have:cs2=cs:=by
  refine List.ext_getElem? fun j=> ?_;by_cases hj:j<s
  . obtain⟨u,hu1⟩: ∃u,cs2[j]? =some u:=⟨_,List.getElem?_eq_getElem (by omega)⟩;obtain⟨u',hu2⟩: ∃u,cs[j]? =some u:=⟨_,List.getElem?_eq_getElem (by omega)⟩;have e1:=hc2 j u hu1;rw[hk _ hge hg,hcs j u' hu2]at e1;rw[hu1,hu2,Option.some.inj e1]
  . rw[List.getElem?_eq_none (by omega),List.getElem?_eq_none (by omega)]
 rw[<-this];exact h2
theorem Hu {S:Nat->Prop} {w:World} {n c:Nat} {l:List (ByteArray×Val)} {a:Option Addr} (h:Ag S w (.row 7 (dO l)) [.slice a n c]) {q:Nat} {key:ByteArray} {k':Int} {b':Bool} {n':Int} {t':ByteArray} {l':List Val} {o':List (ByteArray×Val)} (hi:l[q]? =some (key,.mk k' b' n' t' l' o')):
 ∃g off,a=some ⟨g,off,none⟩/\g<w.heap.size/\ ∃la lc oa oc,Ag S w (dV (.mk k' b' n' t' l' o')) [.int .i64 k',.bool b',.int .i64 n',.string t',.slice la l'.length lc,.slice oa o'.length oc]/\
  w.cell? ⟨g,off+q*7,none⟩=some (.string key)/\w.cell? ⟨g,off+q*7+1,none⟩=some (.int .i64 k')/\w.cell? ⟨g,off+q*7+2,none⟩=some (.bool b')/\
  w.cell? ⟨g,off+q*7+3,none⟩=some (.int .i64 n')/\w.cell? ⟨g,off+q*7+4,none⟩=some (.string t')/\w.cell? ⟨g,off+q*7+5,none⟩=some (.slice la l'.length lc)/\w.cell? ⟨g,off+q*7+6,none⟩=some (.slice oa o'.length oc):=by
 obtain⟨g,off,rfl,hg,la,lc,oa,oc,_,c0,c1,c2,c3,c4,c5,c6⟩:=U3 h.now hi;refine⟨g,off,rfl,hg,la,lc,oa,oc, ?_,c0,c1,c2,c3,c4,c5,c6⟩;have hm:=(Ya (v1:=.bool false) h (d:=dP (key,.mk k' b' n' t' l' o')) (by rw[Bv,List.getElem?_map,hi];rfl) Xw (by simp)).2 [.string key,.int .i64 k',.bool b',.int .i64 n',.string t',.slice la l'.length lc,.slice oa o'.length oc] (fun j u hj=>by
  match j with
  |0=>cases hj;exact c0
  |1=>cases hj;exact c1
  |2=>cases hj;exact c2
  |3=>cases hj;exact c3
  |4=>cases hj;exact c4
  |5=>cases hj;exact c5
  |6=>cases hj;exact c6
  |j+7=>simp at hj) rfl
 exact fun w'' h1 h2=>Aa6 (hm w'' h1 h2)
theorem Ag.base {S:Nat->Prop} {w0 w:World} {d:D} {cs:List Value} (h:Ag S w0 d cs) (hb:Below w0.heap.size w0 w):Ag (fun i=>S i/\i<w0.heap.size) w d cs:=fun w'' h1 h2=>
 (h w'' (Nat.le_trans hb.size h1) fun p p1 p2=>(h2 p ⟨p1,p2⟩ (Nat.lt_of_lt_of_le p2 hb.size)).trans (hb.cell p2)).more hb.size
theorem Abl {S:Nat->Prop} {w4:World} {k:Int} {b:Bool} {n:Int} {t:ByteArray} {l:List Val} {o:List (ByteArray×Val)} {cs:List Value} (h:Ag S w4 (dV (.mk k b n t l o)) cs): ∃la lc oa oc,cs= [.int .i64 k,.bool b,.int .i64 n,.string t,.slice la l.length lc,.slice oa o.length oc]:=by
 have h1:=Bj _ _ h.now;simp only[Ae]at h1;obtain⟨la,lc,oa,oc,e,_,_⟩:=h1;exact⟨la,lc,oa,oc,e⟩
def Vf (w:World) (o:List (ByteArray×Val)) (e:Ending) (w':World):Prop:= ∃V ns,e=.returned V/\w'.ownsRow w.heap.size 88 7 V o.length ns/\Ah w w.heap.size (dO o) ns/\Below w.heap.size w w'
theorem Q7 (o:List (ByteArray×Val)) (a:Option Addr) (n c:Nat) (w:World) (h:Ai w w.heap.size (.row 7 (dO o)) [.slice a n c]) (hn:o.length<=100000000):
 Calls Tryz.prog 111 #[.slice a n c] w (Vf w o):=by
 have hl:=h.row_len;rw[Az]at hl;subst hl;obtain⟨ns,hr,hA,ho⟩:=h.reads;have hnil:=fun W=>Lib.run_eql_slice_nil (P:=Tryz.prog) W 31 88 a o.length c 0 0 Tryz.underlying31
 cases a with
 |none=>
  have h0:o.length=0:=by
   rcases Nat.eq_zero_or_pos o.length with h0|h0
   . exact h0
   . obtain⟨ad,e,_⟩:=hr.2 h0
     cases e
  have hns:ns= []:=List.eq_nil_of_length_eq_zero (by rw[hr.1,h0]);subst hns;obtain⟨H0,HA⟩:=hid2 h0 hA;clear h0 hA;clear h hr ho;go_enter Tryz.func111,Tryz.ntmps111;go_wp2;go_ret;exact⟨.slice none 0 0, [],rfl,by rw[H0.out];exact World.ownsRow_nil _ _ _ _,HA.out,Below.refl _ _⟩
 |some ad=>
  obtain⟨j0,hj,hy0,hy1,hy2⟩:=info_parts Rs;obtain⟨Hj,Hy0,Hy1,Hy2,Hr,HA,Ho⟩:=hid7 hj hy0 hy1 hy2 hr hA ho;clear hj hy0 hy1 hy2 hr hA ho;clear h;go_enter Tryz.func111,Tryz.ntmps111;have HOwn:Hid ((w.alloc (.cells #[] 88)).ownsRow w.heap.size 88 7 (.slice (some ⟨w.heap.size,0,none⟩) 0 0) 0 []):=
   ⟨by simp,.inr ⟨w.heap.size,0, #[],rfl,Nat.le_refl _,heap_alloc_new _ _,Nat.le_refl _,by unfold maxLen;omega,by simp,by simp⟩⟩
  go_wp2_with (at_builtin;refine Kn _ rfl (.tmp 5) (.tmp 6) 31 rfl w.heap.size 88 j0 (.agg #[.string ⟨#[]⟩,.int .i64 0,.bool false,.int .i64 0,.string ⟨#[]⟩,.slice none 0 0,.slice none 0 0]) 7 104 Tryz.underlying31 Hj.out Hy0.out Hy1.out Hy2.out rfl (by omega) (.slice (some ⟨w.heap.size,0,none⟩) 0 0) 0 [] rfl HOwn.out w.heap.size _ o.length _ ns rfl ?c0 ?c1 ?c2 ?c3 ?c4 ?_)
  case c0=>exact Hr.out.alloc (Nat.le_refl _) _
  case c1=>exact Ho.out
  case c2=>unfold maxLen;omega
  case c3=>omega
  case c4=>simp
  intro v1 w1 hown1 hgrow1 _;have Hb:Hid (Below w.heap.size w w1):=((Below.refl _ _).alloc (Nat.le_refl _) _).grown hgrow1 (by simp) (fun g hg=>by simp[Value.ownBlock]at hg;omega);have Hown1:=qz hown1;clear hown1;clear hgrow1;go_wp2;go_ret;exact⟨v1,ns,rfl,by simpa using Hown1.out,HA.out,Hb.out⟩
end Go.Proofs.YtdbejcbbhomdbaaGreatDoor
namespace Go.Proofs.YtdbejcbbhomdbaaGreatDoor
theorem Qv: ∀{a b:List A0},Bb a->Bb b->(∀k,Bh k a=Bh k b)->a=b
 | [], [],_,_,_=>rfl
 | [],(k,y)::s,_,_,h=>by have:=h k;simp[Bh]at this
 |(k,x)::r, [],_,_,h=>by have:=h k;simp[Bh]at this
 |(a,x)::r,(b,y)::s,ha,hb,h=>by
  obtain⟨a1,a2⟩:=List.pairwise_cons.1 ha;obtain⟨b1,b2⟩:=List.pairwise_cons.1 hb;have e:a=b:=by
   rcases D9 a b with c|c|c
   . have hB: ∀e ∈ (b,y)::s,Bq a e.1=true:=by
      intro e he;rcases List.mem_cons.1 he with rfl|he
      . exact c
      . exact A9 c (b1 e he)
     have:=h a;rw[Fc hB,Bh,if_pos rfl]at this
     cases this
   . exact c
   . have hA: ∀e ∈ (a,x)::r,Bq b e.1=true:=by
      intro e he;rcases List.mem_cons.1 he with rfl|he
      . exact c
      . exact A9 c (a1 e he)
     have:=h b;rw[Fc hA,Bh,if_pos rfl]at this
     cases this
  subst e;have hv:x=y:=by
   have:=h a;rw[Bh,if_pos rfl,Bh,if_pos rfl]at this;exact Option.some.inj this
  rw[hv,Qv a2 b2 fun k=> ?_];have:=h k;by_cases c:a=k
  . subst c;rw[Fc a1,Fc b1]
  . rwa [Oy c,Oy c]at this
open Classical in
theorem Kw {q:ByteArray} {v:Val}: ∀{g:List ByteArray} {u:List A0},Bh q (g.foldl (fun u k=>A7 k v u) u)=if q ∈ g then some v else Bh q u
 | [],u=>by simp
 |k::r,u=>by
  rw[List.foldl_cons,Kw,Rn];by_cases h:q ∈ r
  . rw[if_pos h,if_pos (List.mem_cons_of_mem _ h)]
  . rw[if_neg h];by_cases h1:k=q
    . rw[if_pos h1,if_pos (by simp[h1])]
    . rw[if_neg h1,if_neg];intro c;rcases List.mem_cons.1 c with c|c
      . exact h1 c.symm
      . exact h c
theorem Mo {v:Val}: ∀{g:List ByteArray} {u:List A0},Bb u->Bb (g.foldl (fun u k=>A7 k v u) u)
 | [],_,h=>h
 |_::r,_,h=>Mo (g:=r) (Ge h)
end Go.Proofs.YtdbejcbbhomdbaaGreatDoor
namespace Go.Proofs.YtdbejcbbhomdbaaGreatDoor
def F3:List A0->List A0->List ByteArray
 | [], []=> []
 | [],(k,_)::s=>k::F3 [] s
 |(k,_)::r, []=>k::F3 r []
 |(a,x)::r,(b,y)::s=>if Bq a b then a::F3 r ((b,y)::s)else if Bq b a then b::F3 ((a,x)::r) s else a::F3 r s
termination_by a b=>a.length+b.length
theorem Ck: ∀(n:Nat) (a b:List A0),a.length+b.length<=n-> ∀k,k ∈ F3 a b ↔ (∃e ∈ a,e.1=k)\/ ∃e ∈ b,e.1=k
 |_, [], [],_,k=>by rw[F3];simp
 |0, [],_::_,h,_=>by simp at h
 |0,_::_,_,h,_=>by simp at h
 |n+1, [],(q,y)::s,h,k=>by
  rw[F3,List.mem_cons,Ck n [] s (by simp at h ⊢;omega)];simp[eq_comm]
 |n+1,(q,x)::r, [],h,k=>by
  rw[F3,List.mem_cons,Ck n r [] (by simp at h ⊢;omega)];simp[eq_comm]
 |n+1,(a,x)::r,(b,y)::s,h,k=>by
  rw[F3];by_cases h1:Bq a b=true
  . rw[if_pos h1,List.mem_cons,Ck n r _ (by simp at h ⊢;omega)];simp only[List.mem_cons,exists_eq_or_imp,eq_comm (a:=k),or_assoc]
  rw[if_neg h1];by_cases h2:Bq b a=true
  . rw[if_pos h2,List.mem_cons,Ck n _ s (by simp at h ⊢;omega)];simp only[List.mem_cons,exists_eq_or_imp,eq_comm (a:=k)];constructor
    . rintro(h|(h|h)|h)
      . exact .inr (.inl h)
      . exact .inl (.inl h)
      . exact .inl (.inr h)
      . exact .inr (.inr h)
    . rintro((h|h)|h|h)
      . exact .inr (.inl (.inl h))
      . exact .inr (.inl (.inr h))
      . exact .inl h
      . exact .inr (.inr h)
  rw[if_neg h2];have e:a=b:=by
   rcases D9 a b with c|c|c
   . exact absurd c h1
   . exact c
   . exact absurd c h2
  subst e;rw[List.mem_cons,Ck n r s (by simp at h ⊢;omega)];simp only[List.mem_cons,exists_eq_or_imp,eq_comm (a:=k)];constructor
  . rintro(h|h|h)
    . exact .inl (.inl h)
    . exact .inl (.inr h)
    . exact .inr (.inr h)
  . rintro((h|h)|h|h)
    . exact .inl h
    . exact .inr (.inl h)
    . exact .inl h
    . exact .inr (.inr h)
theorem Bm {a:ByteArray} {x:Val} {r:List A0} (h:Bb ((a,x)::r)) {k:ByteArray} (hk: ∃e ∈ r,e.1=k):Bq a k=true:=by
 obtain⟨e,he,rfl⟩:=hk;exact(List.pairwise_cons.1 h).1 e he
theorem Iq: ∀(n:Nat) (a b:List A0),a.length+b.length<=n->Bb a->Bb b->(F3 a b).Pairwise fun x y=>Bq x y=true
 |_, [], [],_,_,_=>by rw[F3];exact List.Pairwise.nil
 |0, [],_::_,h,_,_=>by simp at h
 |0,_::_,_,h,_,_=>by simp at h
 |n+1, [],(q,y)::s,h,ha,hb=>by
  rw[F3];refine List.pairwise_cons.2 ⟨fun k hk=> ?_,Iq n [] s (by simp at h ⊢;omega) ha (List.pairwise_cons.1 hb).2⟩;rcases(Ck _ [] s (Nat.le_refl _) k).1 hk with⟨e,he,_⟩|hk
  . cases he
  . exact Bm hb hk
 |n+1,(q,x)::r, [],h,ha,hb=>by
  rw[F3];refine List.pairwise_cons.2 ⟨fun k hk=> ?_,Iq n r [] (by simp at h ⊢;omega) (List.pairwise_cons.1 ha).2 hb⟩;rcases(Ck _ r [] (Nat.le_refl _) k).1 hk with hk|⟨e,he,_⟩
  . exact Bm ha hk
  . cases he
 |n+1,(a,x)::r,(b,y)::s,h,ha,hb=>by
  rw[F3];have hr:=(List.pairwise_cons.1 ha).2;have hs:=(List.pairwise_cons.1 hb).2;by_cases h1:Bq a b=true
  . rw[if_pos h1];refine List.pairwise_cons.2 ⟨fun k hk=> ?_,Iq n r _ (by simp at h ⊢;omega) hr hb⟩;rcases(Ck _ r _ (Nat.le_refl _) k).1 hk with hk|⟨e,he,rfl⟩
    . exact Bm ha hk
    . rcases List.mem_cons.1 he with rfl|he
      . exact h1
      . exact A9 h1 (Bm hb ⟨e,he,rfl⟩)
  rw[if_neg h1];by_cases h2:Bq b a=true
  . rw[if_pos h2];refine List.pairwise_cons.2 ⟨fun k hk=> ?_,Iq n _ s (by simp at h ⊢;omega) ha hs⟩;rcases(Ck _ _ s (Nat.le_refl _) k).1 hk with⟨e,he,rfl⟩|hk
    . rcases List.mem_cons.1 he with rfl|he
      . exact h2
      . exact A9 h2 (Bm ha ⟨e,he,rfl⟩)
    . exact Bm hb hk
  rw[if_neg h2];have e:a=b:=by
   rcases D9 a b with c|c|c
   . exact absurd c h1
   . exact c
   . exact absurd c h2
  subst e;refine List.pairwise_cons.2 ⟨fun k hk=> ?_,Iq n r s (by simp at h ⊢;omega) hr hs⟩;rcases(Ck _ r s (Nat.le_refl _) k).1 hk with hk|hk
  . exact Bm ha hk
  . exact Bm hb hk
def E4 (a b:List A0) (k:ByteArray):Option Lv:=if Oc (Bh k a) (Bh k b)then none else some (k,Bh k a,Bh k b)
theorem Gc {k:ByteArray} {x:Val} {r:List A0}:Bh k ((k,x)::r)=some x:=by rw[Bh,if_pos rfl]
theorem Ci {a k:ByteArray} {x:Val} {r:List A0} (h:Bq a k=true):Bh k ((a,x)::r)=Bh k r:=by
 rw[Bh,if_neg (Yq h)]
theorem Hg {α β:Type} {f g:α->Option β}: ∀{l:List α},(∀x ∈ l,f x=g x)->l.filterMap f=l.filterMap g
 | [],_=>rfl
 |x::r,h=>by rw[List.filterMap_cons,List.filterMap_cons,h x (by simp),Hg fun y hy=>h y (by simp[hy])]
theorem F9 {a a' b b':List A0} {l:List ByteArray} (h1: ∀k ∈ l,Bh k a=Bh k a') (h2: ∀k ∈ l,Bh k b=Bh k b'):l.filterMap (E4 a b)=l.filterMap (E4 a' b'):=by
 refine Hg fun k hk=> ?_;unfold E4;rw[h1 k hk,h2 k hk]
theorem Ga: ∀(n:Nat) (a b:List A0),a.length+b.length<=n->Bb a->Bb b->Bx a b=(F3 a b).filterMap (E4 a b)
 |_, [], [],_,_,_=>by rw[Bx,F3];rfl
 |0, [],_::_,h,_,_=>by simp at h
 |0,_::_,_,h,_,_=>by simp at h
 |n+1, [],(q,y)::s,h,ha,hb=>by
  have hs:=(List.pairwise_cons.1 hb).2;rw[Bx,F3,List.filterMap_cons];have e:E4 [] ((q,y)::s) q=some (q,none,some y):=by
   unfold E4;rw[Gc];rfl
  rw[e,Ga n [] s (by simp at h ⊢;omega) ha hs];simp only
  congr 1
  refine F9 (fun _ _=>rfl) fun k hk=> ?_;rcases(Ck _ [] s (Nat.le_refl _) k).1 hk with⟨e,he,_⟩|hk
  . cases he
  . exact(Ci (Bm hb hk)).symm
 |n+1,(q,x)::r, [],h,ha,hb=>by
  have hr:=(List.pairwise_cons.1 ha).2;rw[Bx,F3,List.filterMap_cons];have e:E4 ((q,x)::r) [] q=some (q,some x,none):=by
   unfold E4;rw[Gc];rfl
  rw[e,Ga n r [] (by simp at h ⊢;omega) hr hb];simp only
  congr 1
  refine F9 (fun k hk=> ?_) fun _ _=>rfl;rcases(Ck _ r [] (Nat.le_refl _) k).1 hk with hk|⟨e,he,_⟩
  . exact(Ci (Bm ha hk)).symm
  . cases he
 |n+1,(a,x)::r,(b,y)::s,h,ha,hb=>by
  have hr:=(List.pairwise_cons.1 ha).2;have hs:=(List.pairwise_cons.1 hb).2;rw[Bx,F3];by_cases h1:Bq a b=true
  . rw[if_pos h1,if_pos h1,List.filterMap_cons];have e:E4 ((a,x)::r) ((b,y)::s) a=some (a,some x,none):=by
     unfold E4;rw[Gc,Fc (k:=a) (l:=(b,y)::s) fun e he=>by
      rcases List.mem_cons.1 he with rfl|he
      . exact h1
      . exact A9 h1 (Bm hb ⟨e,he,rfl⟩)]
     rfl
    rw[e,Ga n r _ (by simp at h ⊢;omega) hr hb];simp only
    congr 1
    refine F9 (fun k hk=> ?_) fun _ _=>rfl;rcases(Ck _ r _ (Nat.le_refl _) k).1 hk with hk|⟨e,he,rfl⟩
    . exact(Ci (Bm ha hk)).symm
    . rcases List.mem_cons.1 he with rfl|he
      . exact(Ci h1).symm
      . exact(Ci (A9 h1 (Bm hb ⟨e,he,rfl⟩))).symm
  rw[if_neg h1,if_neg h1];by_cases h2:Bq b a=true
  . rw[if_pos h2,if_pos h2,List.filterMap_cons];have e:E4 ((a,x)::r) ((b,y)::s) b=some (b,none,some y):=by
     unfold E4;rw[Gc,Fc (k:=b) (l:=(a,x)::r) fun e he=>by
      rcases List.mem_cons.1 he with rfl|he
      . exact h2
      . exact A9 h2 (Bm ha ⟨e,he,rfl⟩)]
     rfl
    rw[e,Ga n _ s (by simp at h ⊢;omega) ha hs];simp only
    congr 1
    refine F9 (fun _ _=>rfl) fun k hk=> ?_;rcases(Ck _ _ s (Nat.le_refl _) k).1 hk with⟨e,he,rfl⟩|hk
    . rcases List.mem_cons.1 he with rfl|he
      . exact(Ci h2).symm
      . exact(Ci (A9 h2 (Bm ha ⟨e,he,rfl⟩))).symm
    . exact(Ci (Bm hb hk)).symm
  rw[if_neg h2,if_neg h2];have e:a=b:=by
   rcases D9 a b with c|c|c
   . exact absurd c h1
   . exact c
   . exact absurd c h2
  subst e;rw[List.filterMap_cons];have e:E4 ((a,x)::r) ((a,y)::s) a=if Bt x y then none else some (a,some x,some y):=by
   unfold E4;rw[Gc,Gc];rfl
  rw[e,Ga n r s (by simp at h ⊢;omega) hr hs];have e2:(F3 r s).filterMap (E4 r s)=(F3 r s).filterMap (E4 ((a,x)::r) ((a,y)::s)):=by
   refine F9 (fun k hk=> ?_) fun k hk=> ?_
   . rcases(Ck _ r s (Nat.le_refl _) k).1 hk with hk|hk
     . exact(Ci (Bm ha hk)).symm
     . exact(Ci (Bm hb hk)).symm
   . rcases(Ck _ r s (Nat.le_refl _) k).1 hk with hk|hk
     . exact(Ci (Bm ha hk)).symm
     . exact(Ci (Bm hb hk)).symm
  rw[e2];by_cases h3:Bt x y=true
  . rw[if_pos h3,if_pos h3]
  . rw[if_neg h3,if_neg h3]
theorem Ku {q:ByteArray} {v:Val}: ∀{l:List ByteArray},q ∈ l->Bh q (l.map fun k=>(k,v))=some v
 | [],h=>by cases h
 |k::r,h=>by
  rw[List.map_cons,Bh];by_cases e:k=q
  . rw[if_pos e]
  . rw[if_neg e];rcases List.mem_cons.1 h with h|h
    . exact absurd h.symm e
    . exact Ku h
theorem Rm {q:ByteArray} {v:Val} {l:List ByteArray} (h:q ∉ l):Bh q (l.map fun k=>(k,v))=none:=
 Kv fun e he=>by
  obtain⟨k,hk,rfl⟩:=List.mem_map.1 he;exact fun c=>h (c▸hk)
theorem Vu {a b:List A0} (ha:Bb a) (hb:Bb b) (v:Val):(b.map (·.1)).foldl (fun u k=>A7 k v u) ((a.map (·.1)).foldl (fun u k=>A7 k v u) [])=(F3 a b).map fun k=>(k,v):=by
 refine Qv (Mo (Mo List.Pairwise.nil)) ?_ fun q=> ?_
 . have:=Iq _ a b (Nat.le_refl _) ha hb;exact List.pairwise_map.2 this
 rw[Kw,Kw];have hm:=Ck _ a b (Nat.le_refl _) q;have e1:(q ∈ a.map (·.1)) ↔ ∃e ∈ a,e.1=q:=by simp
 have e2:(q ∈ b.map (·.1)) ↔ ∃e ∈ b,e.1=q:=by simp
 by_cases h2:q ∈ b.map (·.1)
 . rw[if_pos h2,Ku (hm.2 (.inr (e2.1 h2)))]
 rw[if_neg h2];by_cases h1:q ∈ a.map (·.1)
 . rw[if_pos h1,Ku (hm.2 (.inl (e1.1 h1)))]
 . rw[if_neg h1,Rm fun c=>by
    rcases hm.1 c with c|c
    . exact h1 (e1.2 c)
    . exact h2 (e2.2 c)]
   rfl
end Go.Proofs.YtdbejcbbhomdbaaGreatDoor
