/- Parts: Nodes that hang on certain blocks alone. Plain. No condition. -/
import Derived.Lib.ItoaLen
import Derived.Test.YtkmcjfkokoidcaaGreatDoorKFb8
set_option maxHeartbeats 20000000
namespace Go.Proofs.YtkmcjfkokoidcaaGreatDoor
open Go Go.RowKit
abbrev Y4:TypeId:=176
def dPt (b:Nat):D:=.leaf (.pointer (some ⟨b,0,none⟩))
def Ce (l:List Nat):List D:=l.map dPt
theorem Q7 (l:List Nat): ∀d ∈ Ce l,d.cells=1:=by
 intro d hd;obtain⟨b,_,rfl⟩:=List.mem_map.1 hd;rfl
theorem Bm (l:List Nat):(Ce l).length=l.length:=List.length_map ..
def Dw (n:Nd):ByteArray:=((Cw n).getLast?.map (·.1)).getD ByteArray.empty
mutual
def Bz (w:World) (B:Nat):Nd->Nat->Prop
 | .leaf es,b=>b<B/\ ∃a c,Ah w B (.row 7 (dO es)) [.slice a es.length c]/\
    Aj w b Y4 #[.slice a es.length c,.slice none 0 0,.int .i64 0,.int .i64 es.length,.string (Av (.leaf es)),.string (Dw (.leaf es)),.bool false]
 | .inner ks,b=>b<B/\ ∃bs a c,Ah w B (.row 1 (Ce bs)) [.slice a ks.length c]/\
    Aj w b Y4 #[.slice none 0 0,.slice a ks.length c,.int .i64 (Rk (.inner ks)),.int .i64 (Cg ks).length,.string (Av (.inner ks)),.string (Dw (.inner ks)),.bool false]/\Au w B ks bs
def Au (w:World) (B:Nat):List Nd->List Nat->Prop
 | [],bs=>bs= []
 |k::r,bs=> ∃b t,bs=b::t/\Bz w B k b/\Au w B r t
end
theorem Au.imp {w w':World} {B B':Nat}: ∀{ks:List Nd},(∀k ∈ ks,∀b,Bz w B k b->Bz w' B' k b)-> ∀{bs},Au w B ks bs->Au w' B' ks bs
 | [],_,_,h=>h
 |k::r,ih,bs,h=>by
  simp only[Au]at h ⊢;obtain⟨b,t,e,h1,h2⟩:=h;exact⟨b,t,e,ih k (by simp) b h1,Au.imp (fun x hx=>ih x (by simp[hx])) h2⟩
theorem Bz.imp {w w':World} {B B':Nat} (hB:B<=B') (hk: ∀i,i<B->w'.heap[i]? =w.heap[i]?): ∀{n:Nd} {b:Nat},Bz w B n b->Bz w' B' n b:=by
 intro n;refine Nd.ind (p:=fun n=> ∀{b:Nat},Bz w B n b->Bz w' B' n b) ?_ ?_ n
 . intro es b h;simp only[Bz]at h ⊢;obtain⟨h0,a,c,h1,h2⟩:=h;exact⟨by omega,a,c,h1.imp hB fun p hp=>World.cell?_of_block (hk p.block hp),(hk b h0).trans h2⟩
 . intro ks ih b h;simp only[Bz]at h ⊢;obtain⟨h0,bs,a,c,h1,h2,h3⟩:=h;exact⟨by omega,bs,a,c,h1.imp hB fun p hp=>World.cell?_of_block (hk p.block hp),(hk b h0).trans h2,Au.imp (fun k hk' _ hb=>ih k hk' hb) h3⟩
theorem Bz.below {w w':World} {B:Nat} {n:Nd} {b:Nat} (h:Bz w B n b) (hb:Below B w w'):Bz w' B n b:=h.imp (Nat.le_refl _) fun i hi=>hb.block i hi
theorem Bz.more {w:World} {B B':Nat} {n:Nd} {b:Nat} (h:Bz w B n b) (hB:B<=B'):Bz w B' n b:=h.imp hB fun _ _=>rfl
theorem Bz.later {w w':World} {n:Nd} {b:Nat} (h:Bz w w.heap.size n b) (hb:Below w.heap.size w w'):Bz w' w'.heap.size n b:=(h.below hb).more hb.size
theorem Au.below {w w':World} {B:Nat} {ks:List Nd} {bs:List Nat} (h:Au w B ks bs) (hb:Below B w w'):Au w' B ks bs:=Au.imp (fun _ _ _ h=>h.below hb) h
theorem Au.more {w:World} {B B':Nat} {ks:List Nd} {bs:List Nat} (h:Au w B ks bs) (hB:B<=B'):Au w B' ks bs:=Au.imp (fun _ _ _ h=>h.more hB) h
theorem Au.later {w w':World} {ks:List Nd} {bs:List Nat} (h:Au w w.heap.size ks bs) (hb:Below w.heap.size w w'):Au w' w'.heap.size ks bs:=(h.below hb).more hb.size
theorem Bz.lt {w:World} {B:Nat} {n:Nd} {b:Nat} (h:Bz w B n b):b<B:=by
 cases n<;>(simp only[Bz]at h;exact h.1)
theorem Au.len {w:World} {B:Nat}: ∀{ks:List Nd} {bs:List Nat},Au w B ks bs->bs.length=ks.length
 | [],bs,h=>by
   simp only[Au]at h;rw[h];rfl
 |k::r,bs,h=>by
  simp only[Au]at h;obtain⟨b,t,rfl,_,h2⟩:=h;simp[Au.len h2]
theorem Au.at_ {w:World} {B:Nat}: ∀{ks:List Nd} {bs:List Nat},Au w B ks bs-> ∀{i:Nat} {k:Nd},ks[i]? =some k-> ∃b,bs[i]? =some b/\Bz w B k b
 | [],bs,h,i,k,hi=>by simp at hi
 |x::r,bs,h,i,k,hi=>by
  simp only[Au]at h;obtain⟨b,t,rfl,h1,h2⟩:=h
  cases i with
  |zero=>
   simp only[List.getElem?_cons_zero,Option.some.injEq]at hi;subst hi;exact⟨b,rfl,h1⟩
  |succ i=>
   simp only[List.getElem?_cons_succ]at hi ⊢;exact Au.at_ h2 hi
theorem Au.app {w:World} {B:Nat}: ∀{ks ks':List Nd} {bs bs':List Nat},Au w B ks bs->Au w B ks' bs'->Au w B (ks++ks') (bs++bs')
 | [],ks',bs,bs',h,h'=>by
   simp only[Au]at h;subst h;exact h'
 |k::r,ks',bs,bs',h,h'=>by
  simp only[Au]at h;obtain⟨b,t,rfl,h1,h2⟩:=h;simp only[List.cons_append,Au];exact⟨b,t++bs',rfl,h1,Au.app h2 h'⟩
theorem Au.one {w:World} {B:Nat} {k:Nd} {b:Nat} (h:Bz w B k b):Au w B [k] [b]:=by
 simp only[Au];exact⟨b, [],rfl,h,rfl⟩
theorem Au.split {w:World} {B:Nat}: ∀{ks:List Nd} {bs:List Nat} (i:Nat),Au w B ks bs->Au w B (ks.take i) (bs.take i)/\Au w B (ks.drop i) (bs.drop i)
 | [],bs,i,h=>by
   simp only[Au]at h;subst h;simp[Au]
 |k::r,bs,0,h=>by
  simp only[List.take_zero,List.drop_zero];exact⟨by simp only[Au],h⟩
 |k::r,bs,i+1,h=>by
  simp only[Au]at h;obtain⟨b,t,rfl,h1,h2⟩:=h;obtain⟨a1,a2⟩:=Au.split i h2;simp only[List.take_succ_cons,List.drop_succ_cons,Au];exact⟨⟨b,t.take i,rfl,h1,a1⟩,a2⟩
theorem Au.set {w:World} {B:Nat}: ∀{ks:List Nd} {bs:List Nat} (i:Nat) {k:Nd} {b:Nat},Au w B ks bs->Bz w B k b->Au w B (ks.set i k) (bs.set i b)
 | [],bs,i,k,b,h,_=>by
   simp only[Au]at h;subst h;simp[Au]
 |x::r,bs,0,k,b,h,hk=>by
  simp only[Au]at h;obtain⟨b',t,rfl,h1,h2⟩:=h;simp only[tk5,Au];exact⟨b,t,rfl,hk,h2⟩
 |x::r,bs,i+1,k,b,h,hk=>by
  simp only[Au]at h;obtain⟨b',t,rfl,h1,h2⟩:=h;simp only[tk6,Au];exact⟨b',t.set i b,rfl,h1,Au.set i h2 hk⟩
def Ua (w:World) (B:Nat):Option (Nat×Nd)->Option Addr->Prop
 |none,p=>p=none
 |some (_,n),p=> ∃b,p=some ⟨b,0,none⟩/\Bz w B n b
theorem Ua.below {w w':World} {B:Nat} {t:Option (Nat×Nd)} {p:Option Addr} (h:Ua w B t p) (hb:Below B w w'):Ua w' B t p:=by
 cases t with
 |none=>exact h
 |some t=>
  obtain⟨b,e,h1⟩:=h;exact⟨b,e,h1.below hb⟩
theorem Ua.more {w:World} {B B':Nat} {t:Option (Nat×Nd)} {p:Option Addr} (h:Ua w B t p) (hB:B<=B'):Ua w B' t p:=by
 cases t with
 |none=>exact h
 |some t=>
  obtain⟨b,e,h1⟩:=h;exact⟨b,e,h1.more hB⟩
theorem Ua.later {w w':World} {t:Option (Nat×Nd)} {p:Option Addr} (h:Ua w w.heap.size t p) (hb:Below w.heap.size w w'):Ua w' w'.heap.size t p:=(h.below hb).more hb.size
theorem Ac.len6 {w:World} {B:Nat} {v:Val} {cs:List Value} (h:Ac w B v cs):cs.length=6:=by
 obtain⟨k,b,n,t,l,o⟩:=v;simp only[Ac]at h;obtain⟨la,lc,oa,oc,rfl,_⟩:=h;rfl
theorem R6 {w:World} {g off:Nat} {cs cs':List Value} (hl:cs.length=cs'.length) (h: ∀j u,cs[j]? =some u->w.cell? ⟨g,off+j,none⟩=some u) (h': ∀j u,cs'[j]? =some u->w.cell? ⟨g,off+j,none⟩=some u):cs=cs':=by
 refine List.ext_getElem hl fun j h1 h2=> ?_;have e1:=h j _ (List.getElem?_eq_getElem h1);have e2:=h' j _ (List.getElem?_eq_getElem h2);rw[e1]at e2;exact Option.some.inj e2
theorem Ao.inj {w:World} {B B':Nat}: ∀{l l':List Val},(∀v ∈ l,∀cs v',Ac w B v cs->Ac w B' v' cs->v=v')->l.length=l'.length-> ∀{g off},Ao w B l g off->Ao w B' l' g off->l=l'
 | [], [],_,_,_,_,_,_=>rfl
 | [],_::_,_,hl,_,_,_,_=>by simp at hl
 |_::_, [],_,hl,_,_,_,_=>by simp at hl
 |v::r,v'::r',ih,hl,g,off,h,h'=>by
  simp only[Ao]at h h';obtain⟨⟨cs,h1,hc⟩,h2⟩:=h;obtain⟨⟨cs',h1',hc'⟩,h2'⟩:=h';have e:cs=cs':=R6 (by rw[h1.len6,h1'.len6]) hc hc';subst e;rw[ih v (by simp) cs v' h1 h1',Ao.inj (fun x hx=>ih x (by simp[hx])) (by simpa using hl) h2 h2']
theorem Ak.inj {w:World} {B B':Nat}: ∀{l l':List (ByteArray×Val)},(∀m ∈ l,∀cs v',Ac w B m.2 cs->Ac w B' v' cs->m.2=v')->l.length=l'.length-> ∀{g off},Ak w B l g off->Ak w B' l' g off->l=l'
 | [], [],_,_,_,_,_,_=>rfl
 | [],_::_,_,hl,_,_,_,_=>by simp at hl
 |_::_, [],_,hl,_,_,_,_=>by simp at hl
 |(key,v)::r,(key',v')::r',ih,hl,g,off,h,h'=>by
  simp only[Ak,Kf]at h h';obtain⟨⟨h0,cs,h1,hc⟩,h2⟩:=h;obtain⟨⟨h0',cs',h1',hc'⟩,h2'⟩:=h';have e:cs=cs':=R6 (by rw[h1.len6,h1'.len6]) hc hc';subst e;rw[h0]at h0';simp only[Option.some.injEq,Value.string.injEq]at h0';have e1:v=v':=ih (key,v) (by simp) cs v' h1 h1';rw[e1,h0',Ak.inj (fun x hx=>ih x (by simp[hx])) (by simpa using hl) h2 h2']
theorem Ac.inj {w:World} {B B':Nat}: ∀(v:Val) (cs:List Value) (v':Val),Ac w B v cs->Ac w B' v' cs->v=v':=by
 refine Val.ind ?_;intro k b n t l o hl ho cs v' h h';obtain⟨k',b',n',t',l',o'⟩:=v';simp only[Ac]at h h';obtain⟨la,lc,oa,oc,rfl,h1,h2⟩:=h;obtain⟨la',lc',oa',oc',e,h1',h2'⟩:=h';simp only[Ds,List.cons.injEq,Value.int.injEq,Value.bool.injEq,Value.string.injEq,Value.slice.injEq,true_and,and_true]at e;obtain⟨rfl,rfl,rfl,rfl,⟨rfl,el,rfl⟩,⟨rfl,eo,rfl⟩⟩:=e;have e1:l=l':=by
  rcases h1 with rfl|⟨g,off,ea,_,h1⟩
  . exact(List.eq_nil_of_length_eq_zero (by simpa using el.symm)).symm
  . rcases h1' with rfl|⟨g',off',ea',_,h1'⟩
    . exact List.eq_nil_of_length_eq_zero (by simpa using el)
    . rw[ea]at ea'
      cases ea'
      exact Ao.inj hl el h1 h1'
 have e2:o=o':=by
  rcases h2 with rfl|⟨g,off,ea,_,h2⟩
  . exact(List.eq_nil_of_length_eq_zero (by simpa using eo.symm)).symm
  . rcases h2' with rfl|⟨g',off',ea',_,h2'⟩
    . exact List.eq_nil_of_length_eq_zero (by simpa using eo)
    . rw[ea]at ea'
      cases ea'
      exact Ak.inj ho eo h2 h2'
 rw[e1,e2]
theorem Afc {w:World} {B B':Nat} {l l':List Bj} {a:Option Addr} {n c:Nat} (h:Ah w B (.row 7 (dO l)) [.slice a n c]) (h':Ah w B' (.row 7 (dO l')) [.slice a n c]):l=l':=by
 have e1:=h.row_len;have e2:=h'.row_len;rw[Ax]at e1 e2;obtain⟨a1,c1,e,_,ns,h1,h2⟩:=h;obtain⟨a2,c2,e',_,ns',h1',h2'⟩:=h';simp only[List.cons.injEq,Value.slice.injEq,and_true]at e e';obtain⟨rfl,_,rfl⟩:=e;obtain⟨rfl,_,rfl⟩:=e';have key:l≠ []->l=l':=fun hne=>by
  rcases h2 with h2|⟨g,off,ea,_,hc⟩
  . cases l with
    |nil=>exact absurd rfl hne
    |cons x r=>simp[dO]at h2
  rcases h2' with h2'|⟨g',off',ea',_,hc'⟩
  . cases l' with
    |nil=>exact List.eq_nil_of_length_eq_zero (by simpa using(e1.symm.trans e2))
    |cons x r=>simp[dO]at h2'
  rw[ea]at ea'
  cases ea'
  exact Ak.inj (fun m _ cs v' hv hv'=>Ac.inj m.2 cs v' hv hv') (by omega) (Ag.toO (fun m _ cs=>Cb m.2 cs) h1 hc) (Ag.toO (fun m _ cs=>Cb m.2 cs) h1' hc')
 by_cases hne:l= []
 . subst hne;exact(List.eq_nil_of_length_eq_zero (by simpa using(e2.symm.trans e1))).symm
 . exact key hne
theorem Afb {w:World} {B B':Nat} {l l':List Nat} {a:Option Addr} {n c:Nat} (h:Ah w B (.row 1 (Ce l)) [.slice a n c]) (h':Ah w B' (.row 1 (Ce l')) [.slice a n c]):l=l':=by
 have e1:=h.row_len;have e2:=h'.row_len;rw[Bm]at e1 e2;refine List.ext_getElem (by omega) fun i h1 h2=> ?_;obtain⟨g,off,ea,_,cs,k1,_,k3⟩:=h.at_ (i:=i) (d:=dPt l[i]) (by simp[Ce,h1]);obtain⟨g',off',ea',_,cs',k1',_,k3'⟩:=h'.at_ (i:=i) (d:=dPt l'[i]) (by simp[Ce,h2]);rw[ea]at ea'
 cases ea'
 obtain⟨rfl,_⟩:=k1;obtain⟨rfl,_⟩:=k1';have q1:=k3 0 _ rfl;have q2:=k3' 0 _ rfl;rw[q1]at q2;simpa using q2
theorem Au.inj {w:World} {B B':Nat}: ∀{ks ks':List Nd},(∀k ∈ ks,∀b k',Bz w B k b->Bz w B' k' b->k=k')-> ∀{bs},Au w B ks bs->Au w B' ks' bs->ks=ks'
 | [], [],_,_,_,_=>rfl
 | [],k::r,_,bs,h,h'=>by
   simp only[Au]at h h';obtain⟨b,t,e,_⟩:=h';rw[h]at e;cases e
 |k::r, [],_,bs,h,h'=>by
  simp only[Au]at h h';obtain⟨b,t,e,_⟩:=h;rw[h']at e;cases e
 |k::r,k'::r',ih,bs,h,h'=>by
  simp only[Au]at h h';obtain⟨b,t,rfl,h1,h2⟩:=h;obtain⟨b',t',e,h1',h2'⟩:=h'
  cases e
  rw[ih k (by simp) b k' h1 h1',Au.inj (fun x hx=>ih x (by simp[hx])) h2 h2']
theorem Bz.inj {w:World} {B B':Nat}: ∀(n:Nd) (b:Nat) (n':Nd),Bz w B n b->Bz w B' n' b->n=n':=by
 refine Nd.ind ?_ ?_
 . intro es b n' h h'
   cases n' with
   |leaf es'=>
    simp only[Bz]at h h';obtain⟨_,a,c,h1,h2⟩:=h;obtain⟨_,a',c',h1',h2'⟩:=h';have e:=h2.symm.trans h2';simp only[Option.some.injEq,Obj.cells.injEq,Array.mk.injEq,List.cons.injEq,Value.slice.injEq,true_and,and_true]at e;obtain⟨⟨rfl,e1,rfl⟩,_⟩:=e;rw[e1]at h1;rw[Afc h1 h1']
   |inner ks'=>
    simp only[Bz]at h h';obtain⟨_,a,c,h1,h2⟩:=h;obtain⟨_,bs,a',c',h1',h2',_⟩:=h';have e:=h2.symm.trans h2';simp only[Option.some.injEq,Obj.cells.injEq,Array.mk.injEq,List.cons.injEq,Value.int.injEq,true_and,Rk]at e;omega
 . intro ks ih b n' h h'
   cases n' with
   |leaf es'=>
    simp only[Bz]at h h';obtain⟨_,bs,a,c,h1,h2,_⟩:=h;obtain⟨_,a',c',h1',h2'⟩:=h';have e:=h2.symm.trans h2';simp only[Option.some.injEq,Obj.cells.injEq,Array.mk.injEq,List.cons.injEq,Value.int.injEq,true_and,Rk]at e;omega
   |inner ks'=>
    simp only[Bz]at h h';obtain⟨_,bs,a,c,h1,h2,h3⟩:=h;obtain⟨_,bs',a',c',h1',h2',h3'⟩:=h';have e:=h2.symm.trans h2';simp only[Option.some.injEq,Obj.cells.injEq,Array.mk.injEq,List.cons.injEq,Value.slice.injEq,true_and,and_true]at e;obtain⟨⟨rfl,e1,rfl⟩,_⟩:=e;rw[e1]at h1;have eb:=Afb h1 h1';subst eb;rw[Au.inj (fun k hk b k' hb hb'=>ih k hk b k' hb hb') h3 h3']
def dgt (d:Nat):UInt8:=UInt8.ofNat (48+d)
def G7 (u:Nat):List UInt8:=if _h:u=0 then []else G7 (u / 10)++ [dgt (u % 10)]
termination_by u
decreasing_by omega
theorem K9:G7 0= []:=by rw[G7,dif_pos rfl]
theorem Rb {u:Nat} (h:u≠0):G7 u=G7 (u / 10)++ [dgt (u % 10)]:=by rw[G7,dif_neg h]
theorem Ra (u:Nat):u≠0->G7 u=Lib.decDigits u:=by
 induction u using Nat.strongRecOn with
 |_ u ih=>
  intro h;rw[Rb h,Lib.decDigits];unfold dgt;by_cases h10:u<10
  . rw[dif_pos h10,show u / 10=0 from by omega,K9,show u % 10=u from by omega,List.nil_append]
  . rw[dif_neg h10,ih (u / 10) (by omega) (by omega)]
theorem Ww {u:Nat} (h:(u:Int)<=9223372036854775808):(G7 u).length<=30:=by
 by_cases h0:u=0
 . subst h0;rw[K9];simp
 . rw[Ra u h0,Lib.decDigits_length];exact Nat.le_trans (Lib.nDigits_le20 u (by omega)) (by omega)
theorem Vg (S:ByteArray) (d e:Nat) (hd:d<=e) (he:e<=S.size) (w:World):(Instr.slice 9 (.string S) (some (.int .i64 d)) (some (.int .i64 e)) none).run Tryz.prog w=.ok (.string (S.extract d e)) w:=by
 simp[Instr.slice,run_underlying Tryz.underlying9,Instr.sliceBounds,go_sem,hd,he]
theorem Ad5: ∀d:Fin 10,(⟨#[48,49,50,51,52,53,54,55,56,57]⟩:ByteArray).extract d.val (d.val+1)=⟨#[dgt d.val]⟩:=by decide
theorem Tt (d:Nat) (hd:d<10) (w:World):(Instr.slice 9 (.string ⟨#[48,49,50,51,52,53,54,55,56,57]⟩) (some (.int .i64 d)) (some (.int .i64 ((d:Int)+1))) none).run Tryz.prog w=.ok (.string ⟨#[dgt d]⟩) w:=by
 have:=Vg ⟨#[48,49,50,51,52,53,54,55,56,57]⟩ d (d+1) (by omega) (by show d+1<=10;omega) w;rw[Ad5 ⟨d,hd⟩]at this;exact this
set_option maxRecDepth 20000 in
theorem Zg (a:Nat) (ha:a≠0) (hm:(a:Int)<=9223372036854775807) (w:World):
 Calls Tryz.prog 81 #[.int .i64 a] w fun e w'=>e=.returned (.string ⟨(Lib.itoa a).toArray⟩)/\w=w':=by
 have hi:Lib.itoa a=G7 a:=by
  rw[Ra a ha,Lib.itoa,if_neg (by omega)];simp
 rw[hi];have hl:=Ww (u:=a) (by omega);have H0:Hid (G7 a++(⟨#[]⟩:ByteArray).data.toList=G7 a):=by show _=_;simp
 clear hi;go_enter Tryz.func81,Tryz.ntmps81;have ha1:((a:Int)==0)=false:=by simp;omega
 go_wp2
 go_loop [3,4] (fun s m=> ∃(T:ByteArray) (u:Nat),s=.string T/\m=.int .i64 u/\u<=a/\Hid (G7 u++T.data.toList=G7 a)) (fun _ m=>(intOf m).toNat)
 case atStart=>exact⟨_,a,rfl,rfl,Nat.le_refl _,H0⟩
 case round=>
  obtain⟨T,u,rfl,rfl,hu,hT⟩:=hrel;clear H0;have hTs:T.size<=30:=by
   have h1:=congrArg List.length hT.out;rw[List.length_append]at h1;have h2:T.data.toList.length=T.size:=by rw[Array.length_toList];rfl
   omega
  by_cases hu0:u=0
  . subst hu0;have hT':=hT.out;rw[K9,List.nil_append]at hT';have HE:=qz (show(⟨(G7 a).toArray⟩:ByteArray)=T from by rw[<-hT']);clear hT hT' ha1 hl;have h0:((a:Int)<0)=False:=by simp
    go_wp2;go_ret;exact⟨by rw[HE.out];rfl,rfl⟩
  . have hu1:((u:Int)==0)=false:=by simp;omega
    have hT':Hid (G7 (u / 10)++((⟨#[dgt (u % 10)]⟩:ByteArray)++T).data.toList=G7 a):=by
     have:=hT.out;rw[Rb hu0]at this;show _=_;rw[<-this,ByteArray.data_append,Array.toList_append];simp
    have hd:=Tt (u % 10) (by omega) w;have hm10:(u:Int) % 10=((u % 10:Nat):Int):=by omega
    have hq10:(u:Int) / 10=((u / 10:Nat):Int):=by omega
    have hlt:u % 10<10:=by omega
    have hqu:u / 10<u:=by omega
    generalize u % 10=d at*
    generalize u / 10=q at*
    have hdn:decide ((d:Int)<0)=false:=by simp
    clear hT ha1 hl;go_wp2
    go_round
    case rel=>exact⟨_,q,rfl,rfl,by omega,hT'⟩
    case measure=>simp[intOf];omega
set_option maxRecDepth 20000 in
theorem Zf (a:Nat) (ha:a≠0) (hm:(a:Int)<=9223372036854775808) (n:Int) (hn:n= -(a:Int)) (w:World):
 Calls Tryz.prog 81 #[.int .i64 n] w fun e w'=>e=.returned (.string ⟨(Lib.itoa n).toArray⟩)/\w=w':=by
 have hi:Lib.itoa n=45::G7 a:=by
  rw[Ra a ha,Lib.itoa,if_pos (by omega),hn];simp
 rw[hi];have hl:=Ww (u:=a) (by omega);have H0:Hid (G7 a++(⟨#[]⟩:ByteArray).data.toList=G7 a):=by show _=_;simp
 have Hn:=qz hn;have hn1:(n==0)=false:=by simp;omega
 have hn2:n<0:=by omega
 clear hi hn;go_enter Tryz.func81,Tryz.ntmps81;go_wp2
 go_loop [3,4] (fun s m=> ∃(T:ByteArray) (M:Int) (u:Nat),s=.string T/\m=.int .i64 M/\Hid (M= -(u:Int))/\u<=a/\Hid (G7 u++T.data.toList=G7 a)) (fun _ m=>(-(intOf m)).toNat)
 case atStart=>exact⟨_,n,a,rfl,rfl,Hn,Nat.le_refl _,H0⟩
 case round=>
  obtain⟨T,M,u,rfl,rfl,hM,hu,hT⟩:=hrel;clear H0;have hTs:T.size<=30:=by
   have h1:=congrArg List.length hT.out;rw[List.length_append]at h1;have h2:T.data.toList.length=T.size:=by rw[Array.length_toList];rfl
   omega
  have hMu:=hM.out;by_cases hu0:u=0
  . subst hu0;obtain rfl:M=0:=by simpa using hMu
    have hT':=hT.out;rw[K9,List.nil_append]at hT';have hE:(⟨(45::G7 a).toArray⟩:ByteArray)=⟨#[45]⟩++T:=by
     apply ByteArray.ext;rw[ByteArray.data_append];apply Array.ext';rw[Array.toList_append,hT'];simp
    have HE:=qz hE;clear hT hT' hE hn1 hl hM hMu;go_wp2;go_ret;exact⟨by rw[HE.out];rfl,rfl⟩
  . have hT':Hid (G7 (u / 10)++((⟨#[dgt (u % 10)]⟩:ByteArray)++T).data.toList=G7 a):=by
     have:=hT.out;rw[Rb hu0]at this;show _=_;rw[<-this,ByteArray.data_append,Array.toList_append];simp
    have hM1:(M==0)=false:=by simp;omega
    have hM2: -9223372036854775808<=M:=by omega
    have hM3:M<0:=by omega
    have hd:=Tt (u % 10) (by omega) w;obtain⟨D,hD⟩: ∃D,M.tmod 10=D:=⟨_,rfl⟩;obtain⟨Q,hQ⟩: ∃Q,M.tdiv 10=Q:=⟨_,rfl⟩;have hD':D= -((u % 10:Nat):Int):=by
     rw[<-hD,hMu,Int.neg_tmod,Int.tmod_eq_emod_of_nonneg (by omega)];omega
    have hQ':Q= -((u / 10:Nat):Int):=by
     rw[<-hQ,hMu,Int.neg_tdiv,Int.tdiv_eq_ediv_of_nonneg (by omega)];omega
    have hlt:u % 10<10:=by omega
    have hqu:u / 10<u:=by omega
    generalize u % 10=d at*
    generalize u / 10=q at*
    have HQ:=qz hQ';have hMQ:M<Q:=by omega
    have hQ1: -9223372036854775808<=Q:=by omega
    have hQ2:Q<=0:=by omega
    have hQ3:Q<=9223372036854775807:=by omega
    by_cases hd0:d=0
    . subst hd0;obtain rfl:D=0:=by simpa using hD'
      have hd1:(Instr.slice 9 (.string ⟨#[48,49,50,51,52,53,54,55,56,57]⟩) (some (.int .i64 0)) (some (.int .i64 1)) none).run Tryz.prog w=.ok (.string ⟨#[dgt 0]⟩) w:=hd;clear hT hn1 hl hM hD' hQ' hMu hd;go_wp2
      go_round
      case rel=>exact⟨_,Q,q,rfl,rfl,HQ,by omega,hT'⟩
      case measure=>simp only[intOf];omega
    . have hDn:D<0:=by omega
      have hDb: -10<D:=by omega
      have hDd: -D=(d:Int):=by omega
      clear hT hn1 hl hM hD' hQ';clear hMu;go_wp2
      go_round
      case rel=>exact⟨_,Q,q,rfl,rfl,HQ,by omega,hT'⟩
      case measure=>simp only[intOf];omega
theorem Ui (n:Int) (h1: -9223372036854775808<=n) (h2:n<=9223372036854775807) (w:World):
 Calls Tryz.prog 81 #[.int .i64 n] w fun e w'=>e=.returned (.string ⟨(Lib.itoa n).toArray⟩)/\w=w':=by
 by_cases h0:n=0
 . subst h0;have e:(⟨(Lib.itoa 0).toArray⟩:ByteArray)=⟨#[48]⟩:=by
    have:Lib.itoa 0= [48]:=by
     rw[Lib.itoa,if_neg (by omega)];exact Lib.decDigits_one (i:=0) (by omega)
    rw[this]
   rw[e];go_enter Tryz.func81,Tryz.ntmps81;go_wp2;go_ret;exact⟨rfl,rfl⟩
 . rcases Int.lt_or_le n 0 with h|h
   . exact Zf n.natAbs (by omega) (by omega) n (by omega) w
   . have:=Zg n.toNat (by omega) (by omega) w
     rwa [show((n.toNat:Nat):Int)=n from by omega]at this
mutual
def Bx (S:Nat->Prop) (w:World):Nd->Nat->Prop
 | .leaf es,b=>S b/\b<w.heap.size/\ ∃a c,Ai S w (.row 7 (dO es)) [.slice a es.length c]/\
    Aj w b Y4 #[.slice a es.length c,.slice none 0 0,.int .i64 0,.int .i64 es.length,.string (Av (.leaf es)),.string (Dw (.leaf es)),.bool false]
 | .inner ks,b=>S b/\b<w.heap.size/\ ∃bs a c,Ai S w (.row 1 (Ce bs)) [.slice a ks.length c]/\
    Aj w b Y4 #[.slice none 0 0,.slice a ks.length c,.int .i64 (Rk (.inner ks)),.int .i64 (Cg ks).length,.string (Av (.inner ks)),.string (Dw (.inner ks)),.bool false]/\Aq S w ks bs
def Aq (S:Nat->Prop) (w:World):List Nd->List Nat->Prop
 | [],bs=>bs= []
 |k::r,bs=> ∃b t,bs=b::t/\Bx S w k b/\Aq S w r t
end
theorem Aq.imp' {S T:Nat->Prop} {w w':World}: ∀{ks:List Nd},(∀k ∈ ks,∀b,Bx S w k b->Bx T w' k b)-> ∀{bs},Aq S w ks bs->Aq T w' ks bs
 | [],_,_,h=>by
   simp only[Aq]at h ⊢;exact h
 |k::r,ih,bs,h=>by
  simp only[Aq]at h ⊢;obtain⟨b,t,e,h1,h2⟩:=h;exact⟨b,t,e,ih k (by simp) b h1,Aq.imp' (fun x hx=>ih x (by simp[hx])) h2⟩
theorem Bx.imp {S T:Nat->Prop} {w w':World} (hS: ∀i,i<w'.heap.size->S i->T i) (hs:w.heap.size<=w'.heap.size) (hk: ∀i,S i->i<w.heap.size->w'.heap[i]? =w.heap[i]?): ∀{n:Nd} {b:Nat},Bx S w n b->Bx T w' n b:=by
 have hc: ∀p:Addr,S p.block->p.block<w.heap.size->w'.cell? p=w.cell? p:=fun p p1 p2=>World.cell?_of_block (hk p.block p1 p2);intro n;refine Nd.ind (p:=fun n=> ∀{b:Nat},Bx S w n b->Bx T w' n b) ?_ ?_ n
 . intro es b h;simp only[Bx]at h ⊢;obtain⟨h0,hl,a,c,h1,h2⟩:=h;exact⟨hS b (by omega) h0,by omega,a,c,(h1.later hs hc).mono hS,(hk b h0 hl).trans h2⟩
 . intro ks ih b h;simp only[Bx]at h ⊢;obtain⟨h0,hl,bs,a,c,h1,h2,h3⟩:=h;exact⟨hS b (by omega) h0,by omega,bs,a,c,(h1.later hs hc).mono hS,(hk b h0 hl).trans h2,Aq.imp' (fun k hk' _ hb=>ih k hk' hb) h3⟩
theorem Au.of_in {S:Nat->Prop} {w:World}: ∀{ks:List Nd},(∀k ∈ ks,∀b,Bx S w k b->Bz w w.heap.size k b)-> ∀{bs},Aq S w ks bs->Au w w.heap.size ks bs
 | [],_,_,h=>by
   simp only[Aq,Au]at h ⊢;exact h
 |k::r,ih,bs,h=>by
  simp only[Aq,Au]at h ⊢;obtain⟨b,t,e,h1,h2⟩:=h;exact⟨b,t,e,ih k (by simp) b h1,Au.of_in (fun x hx=>ih x (by simp[hx])) h2⟩
theorem Bx.now {S:Nat->Prop} {w:World}: ∀{n:Nd} {b:Nat},Bx S w n b->Bz w w.heap.size n b:=by
 intro n;refine Nd.ind (p:=fun n=> ∀{b:Nat},Bx S w n b->Bz w w.heap.size n b) ?_ ?_ n
 . intro es b h;simp only[Bx]at h;simp only[Bz];obtain⟨_,hl,a,c,h1,h2⟩:=h;exact⟨hl,a,c,h1.now,h2⟩
 . intro ks ih b h;simp only[Bx]at h;simp only[Bz];obtain⟨_,hl,bs,a,c,h1,h2,h3⟩:=h;exact⟨hl,bs,a,c,h1.now,h2,Au.of_in (fun k hk _ hb=>ih k hk hb) h3⟩
theorem Aq.now {S:Nat->Prop} {w:World} {ks:List Nd} {bs:List Nat} (h:Aq S w ks bs):Au w w.heap.size ks bs:=Au.of_in (fun _ _ _ hk=>hk.now) h
theorem Aq.of_at {B:Nat} {w:World}: ∀{ks:List Nd},(∀k ∈ ks,∀b,Bz w B k b->Bx (fun i=>i<B) w k b)-> ∀{bs},Au w B ks bs->Aq (fun i=>i<B) w ks bs
 | [],_,_,h=>by
   simp only[Aq,Au]at h ⊢;exact h
 |k::r,ih,bs,h=>by
  simp only[Aq,Au]at h ⊢;obtain⟨b,t,e,h1,h2⟩:=h;exact⟨b,t,e,ih k (by simp) b h1,Aq.of_at (fun x hx=>ih x (by simp[hx])) h2⟩
theorem Bx.of_old {B:Nat} {w:World} {n:Nd} {b:Nat} (h:Bz w B n b) (hB:B<=w.heap.size):Bx (fun i=>i<B) w n b:=by
 revert b
 refine Nd.ind (p:=fun n=> ∀{b:Nat},Bz w B n b->Bx (fun i=>i<B) w n b) ?_ ?_ n
 . intro es b h;simp only[Bz]at h;simp only[Bx];obtain⟨hl,a,c,h1,h2⟩:=h;exact⟨hl,by omega,a,c,Ai.of_old h1 hB (Below.refl _ _),h2⟩
 . intro ks ih b h;simp only[Bz]at h;simp only[Bx];obtain⟨hl,bs,a,c,h1,h2,h3⟩:=h;exact⟨hl,by omega,bs,a,c,Ai.of_old h1 hB (Below.refl _ _),h2,Aq.of_at (fun k hk _ hb=>ih k hk hb) h3⟩
section
variable {S T:Nat->Prop} {w w':World} {n:Nd} {b:Nat}
theorem Aq.imp {ks:List Nd} {bs:List Nat} (hS: ∀i,i<w'.heap.size->S i->T i) (hs:w.heap.size<=w'.heap.size) (hk: ∀i,S i->i<w.heap.size->w'.heap[i]? =w.heap[i]?) (h:Aq S w ks bs):Aq T w' ks bs:=Aq.imp' (fun _ _ _ h=>h.imp hS hs hk) h
theorem Aq.of_old {B:Nat} {ks:List Nd} {bs:List Nat} (h:Au w B ks bs) (hB:B<=w.heap.size):Aq (fun i=>i<B) w ks bs:=Aq.of_at (fun _ _ _ hk=>Bx.of_old hk hB) h
theorem Bx.mono (h:Bx S w n b) (hST: ∀i,i<w.heap.size->S i->T i):Bx T w n b:=h.imp hST (Nat.le_refl _) fun _ _ _=>rfl
theorem Aq.mono {ks:List Nd} {bs:List Nat} (h:Aq S w ks bs) (hST: ∀i,i<w.heap.size->S i->T i):Aq T w ks bs:=h.imp hST (Nat.le_refl _) fun _ _ _=>rfl
theorem Bx.later (h:Bx S w n b) (hs:w.heap.size<=w'.heap.size) (hk: ∀i,S i->i<w.heap.size->w'.heap[i]? =w.heap[i]?):Bx S w' n b:=h.imp (fun _ _ h=>h) hs hk
theorem Aq.later {ks:List Nd} {bs:List Nat} (h:Aq S w ks bs) (hs:w.heap.size<=w'.heap.size) (hk: ∀i,S i->i<w.heap.size->w'.heap[i]? =w.heap[i]?):Aq S w' ks bs:=h.imp (fun _ _ h=>h) hs hk
theorem Bx.below (h:Bx S w n b) (hb:Below w.heap.size w w'):Bx S w' n b:=h.later hb.size fun i _ hi=>hb.block i hi
theorem Aq.below {ks:List Nd} {bs:List Nat} (h:Aq S w ks bs) (hb:Below w.heap.size w w'):Aq S w' ks bs:=h.later hb.size fun i _ hi=>hb.block i hi
theorem Aq.at_: ∀{ks:List Nd} {bs:List Nat},Aq S w ks bs-> ∀{i:Nat} {k:Nd},ks[i]? =some k-> ∃b,bs[i]? =some b/\Bx S w k b
 | [],bs,h,i,k,hi=>by simp at hi
 |x::r,bs,h,i,k,hi=>by
  simp only[Aq]at h;obtain⟨b,t,rfl,h1,h2⟩:=h
  cases i with
  |zero=>
   simp only[List.getElem?_cons_zero,Option.some.injEq]at hi;subst hi;exact⟨b,rfl,h1⟩
  |succ i=>
   simp only[List.getElem?_cons_succ]at hi ⊢;exact Aq.at_ h2 hi
theorem Aq.app: ∀{ks ks':List Nd} {bs bs':List Nat},Aq S w ks bs->Aq S w ks' bs'->Aq S w (ks++ks') (bs++bs')
 | [],ks',bs,bs',h,h'=>by
   simp only[Aq]at h;subst h;exact h'
 |k::r,ks',bs,bs',h,h'=>by
  simp only[Aq]at h;obtain⟨b,t,rfl,h1,h2⟩:=h;simp only[List.cons_append,Aq];exact⟨b,t++bs',rfl,h1,Aq.app h2 h'⟩
theorem Aq.one (h:Bx S w n b):Aq S w [n] [b]:=by
 simp only[Aq];exact⟨b, [],rfl,h,rfl⟩
theorem Aq.split: ∀{ks:List Nd} {bs:List Nat},Aq S w ks bs-> ∀(i:Nat),Aq S w (ks.take i) (bs.take i)/\Aq S w (ks.drop i) (bs.drop i)
 | [],bs,h,i=>by
   simp only[Aq]at h;subst h;simp[Aq]
 |k::r,bs,h,0=>by
  simp only[List.take_zero,List.drop_zero];exact⟨by simp only[Aq],h⟩
 |k::r,bs,h,i+1=>by
  simp only[Aq]at h;obtain⟨b,t,rfl,h1,h2⟩:=h;obtain⟨a1,a2⟩:=Aq.split h2 i;simp only[List.take_succ_cons,List.drop_succ_cons,Aq];exact⟨⟨b,t.take i,rfl,h1,a1⟩,a2⟩
theorem Aq.set: ∀{ks:List Nd} {bs:List Nat},Aq S w ks bs-> ∀(i:Nat) {n:Nd} {b:Nat},Bx S w n b->Aq S w (ks.set i n) (bs.set i b)
 | [],bs,h,i,n,b,_=>by
   simp only[Aq]at h;subst h;simp[Aq]
 |x::r,bs,h,0,n,b,hk=>by
  simp only[Aq]at h;obtain⟨b',t,rfl,h1,h2⟩:=h;simp only[tk5,Aq];exact⟨b,t,rfl,hk,h2⟩
 |x::r,bs,h,i+1,n,b,hk=>by
  simp only[Aq]at h;obtain⟨b',t,rfl,h1,h2⟩:=h;simp only[tk6,Aq];exact⟨b',t.set i b,rfl,h1,Aq.set h2 i hk⟩
end
end Go.Proofs.YtkmcjfkokoidcaaGreatDoor
