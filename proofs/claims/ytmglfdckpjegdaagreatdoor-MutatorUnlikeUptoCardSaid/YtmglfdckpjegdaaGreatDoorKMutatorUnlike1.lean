/- Parts: commonplaceref02.Compare of lists: 0 just where they have the same order. Printed by mksam.py. Condition: a bulk of at most 10^8. -/
import Derived.Test.YtmglfdckpjegdaaGreatDoorKMu24
set_option maxHeartbeats 20000000
namespace Go.Proofs.YtmglfdckpjegdaaGreatDoor
open Go.RowKit
def Kj (a b:Int):Int:=if a<b then -1 else if b<a then 1 else 0
theorem Ej {a b:Int}:Kj a b=0 ↔ a=b:=by
 unfold Kj
 split
 . constructor<;>intro h<;>omega
 split
 . constructor<;>intro h<;>omega
 . constructor<;>intro h<;>omega
theorem Ig (a b:Int) (w:World):Calls Tryz.prog 96 #[.int .i64 a,.int .i64 b] w fun e w'=>e=.returned (.int .i64 (Kj a b))/\w'=w:=by
 unfold Kj;by_cases h1:a<b
 . rw[if_pos h1];go_enter Tryz.func96,Tryz.ntmps96;go_wp2;go_ret;exact⟨rfl,rfl⟩
 rw[if_neg h1];by_cases h2:b<a
 . rw[if_pos h2];go_enter Tryz.func96,Tryz.ntmps96;go_wp2;go_ret;exact⟨rfl,rfl⟩
 . rw[if_neg h2];go_enter Tryz.func96,Tryz.ntmps96;go_wp2;go_ret;exact⟨rfl,rfl⟩
def Lu (a b:ByteArray) (w:World) (e:Ending) (w':World):Prop:= ∃c:Int,e=.returned (.int .i64 c)/\(c=0 ↔ a=b)/\Below w.heap.size w w'
theorem Lu.of {a b:ByteArray} {w w':World} {c:Int} (h:c=0 ↔ a=b) (hb:Below w.heap.size w w'):Lu a b w (.returned (.int .i64 c)) w':=⟨c,rfl,h,hb⟩
set_option maxRecDepth 100000 in
theorem T0 (a b:ByteArray) (w:World) (ha:a.size<=1000000000) (hb:b.size<=1000000000):
 Calls Tryz.prog 97 #[.string a,.string b] w (Lu a b w):=by
 have H0:Hid (a.data.toList.take 0=b.data.toList.take 0):=by show _=_;simp
 have HB:Hid (Below w.heap.size w w):=Below.refl _ _;go_enter Tryz.func97,Tryz.ntmps97;go_wp2_with (fail);go_loopw [5] (fun i wr=> ∃k:Nat,i=.int .i64 k/\k<=a.size/\k<=b.size/\Hid (a.data.toList.take k=b.data.toList.take k)/\Hid (Below w.heap.size w wr)) (fun i _=>a.size - (intOf i).toNat)
 case atStart=>exact⟨0,rfl,Nat.zero_le _,Nat.zero_le _,H0,HB⟩
 case round=>
  obtain⟨k,rfl,hka,hkb,ht,hbw⟩:=hrel;clear H0 HB;by_cases hlt:k<a.size
  . by_cases hlt2:k<b.size
    . obtain⟨x,hx⟩: ∃x,a[k]=x:=⟨_,rfl⟩;obtain⟨y,hy⟩: ∃y,b[k]=y:=⟨_,rfl⟩;have hax:a.data.toList[k]? =some x:=by
       rw[Array.getElem?_toList,<-hx];exact Array.getElem?_eq_getElem (by exact hlt)
      have hby:b.data.toList[k]? =some y:=by
       rw[Array.getElem?_toList,<-hy];exact Array.getElem?_eq_getElem (by exact hlt2)
      have hxb:(x.toNat:Int)<256:=by have:=x.toNat_lt;omega
      have hyb:(y.toNat:Int)<256:=by have:=y.toNat_lt;omega
      by_cases hxy:x=y
      . subst hxy;have Hn:Hid (a.data.toList.take (k+1)=b.data.toList.take (k+1)):=by
         show _=_;rw[List.take_add_one,List.take_add_one,ht.out,hax,hby]
        clear ht hax hby;go_wp2_with (fail);go_quiet (fail);have hbw2:=Lib.hid (Cb hbw.out nq);clear hbw;go_wp2;go_roundw
        case rel=>exact⟨k+1,by go_num,by omega,by omega,Hn,hbw2⟩
        case measure=>simp only[intOf];omega
      . have hxn:x.toNat≠y.toNat:=fun e=>hxy (UInt8.toNat_inj.1 e);have h1:((x.toNat:Int)==(y.toNat:Int))=false:=by simp;omega
        have h2:((x.toNat:Int) != (y.toNat:Int))=true:=by simp[bne];omega
        have hab:a≠b:=by
         rintro rfl;rw[hax]at hby;exact hxy (Option.some.inj hby)
        have hc:Kj (x.toNat:Int) (y.toNat:Int)≠0:=by rw[Ne,Ej];omega
        obtain⟨C,hC⟩: ∃C,Kj (x.toNat:Int) (y.toNat:Int)=C:=⟨_,rfl⟩;have cN:=fun w=>Ig (x.toNat:Int) (y.toNat:Int) w;rw[hC]at cN hc;have HN:=Lib.hid cN;have Hc:Hid (C=0 ↔ a=b):=⟨fun e=>absurd e hc,fun e=>absurd e hab⟩;clear ht hax hby hxy hxn hab hc hC cN;go_wp2_with (fail);go_quiet (fail);have hbw2:=Cb hbw.out nq;clear hbw;generalize wr.drewN nq=w9 at hbw2 ⊢;have Hbw2:=Lib.hid hbw2;clear hbw2;go_wp2_with (fail);go_quiet ((go_at_call 96;exact Calls.quiet_of_same (HN.out _)));have hbw3:=Lib.hid (Cb Hbw2.out nq);clear Hbw2;go_wp2;go_ret;exact Lu.of Hc.out hbw3.out
    . have hkb':k=b.size:=by omega
      subst hkb';have hc:Kj (a.size:Int) (b.size:Int)≠0:=by rw[Ne,Ej];omega
      have hab:a≠b:=by rintro rfl;omega
      obtain⟨C,hC⟩: ∃C,Kj (a.size:Int) (b.size:Int)=C:=⟨_,rfl⟩;have cN:=fun w=>Ig (a.size:Int) (b.size:Int) w;rw[hC]at cN hc;have HN:=Lib.hid cN;have Hc:Hid (C=0 ↔ a=b):=⟨fun e=>absurd e hc,fun e=>absurd e hab⟩;clear ht hab hc hC cN;go_wp2_with (fail);(with_reducible refine(HN.out _).mono ?_);rintro e w' ⟨rfl,rfl⟩;go_wp2;go_ret;exact Lu.of Hc.out hbw.out
  . have hka':k=a.size:=by omega
    subst hka';obtain⟨C,hC⟩: ∃C,Kj (a.size:Int) (b.size:Int)=C:=⟨_,rfl⟩;have cN:=fun w=>Ig (a.size:Int) (b.size:Int) w;rw[hC]at cN;have HN:=Lib.hid cN;have Hc:Hid (C=0 ↔ a=b):=by
     show _ ↔ _;rw[<-hC,Ej];constructor
     . intro h;have hs:a.size=b.size:=by omega
       have:=ht.out;rw[hs,List.take_of_length_le (by rw[Array.length_toList];exact Nat.le_of_eq hs),List.take_of_length_le (by rw[Array.length_toList];exact Nat.le_refl _)]at this;exact ByteArray.ext (Array.ext' this)
     . rintro rfl;rfl
    clear ht hC cN;go_wp2_with (fail);(with_reducible refine(HN.out _).mono ?_);rintro e w' ⟨rfl,rfl⟩;go_wp2;go_ret;exact Lu.of Hc.out hbw.out
def Bh (p:Prop) (w:World) (e:Ending) (w':World):Prop:= ∃c:Int,e=.returned (.int .i64 c)/\(c=0 ↔ p)/\Below w.heap.size w w'
theorem Bh.of {p:Prop} {w w':World} {c:Int} (h:c=0 ↔ p) (hb:Below w.heap.size w w'):Bh p w (.returned (.int .i64 c)) w':=⟨c,rfl,h,hb⟩
abbrev Aie (k:Int) (b:Bool) (n:Int) (t:ByteArray) (x y:Value):Obj:=.cells #[.int .i64 k,.bool b,.int .i64 n,.string t,x,y] 27
theorem Cj (w:World) (o o':Obj):Below w.heap.size w ((w.alloc o).alloc o'):=((Below.refl _ _).alloc (Nat.le_refl _) _).alloc (by simp) _
set_option maxRecDepth 100000 in
theorem Ak3 (k k':Int) (b b':Bool) (n n':Int) (t t':ByteArray) (x y x' y':Value) (w:World) (h:k≠k') (p:Prop) (hp: ¬p):
 Calls Tryz.prog 54 #[.agg #[.int .i64 k,.bool b,.int .i64 n,.string t,x,y],.agg #[.int .i64 k',.bool b',.int .i64 n',.string t',x',y']] w (Bh p w):=by
 have h1:(k==k')=false:=by simpa using h
 have h2:(k != k')=true:=by simpa using h
 obtain⟨C,hC⟩: ∃C,Kj k k'=C:=⟨_,rfl⟩;have cN:=fun w=>Ig k k' w;rw[hC]at cN;have HN:=Lib.hid cN;have Hc:Hid (C=0 ↔ p):=by
  show _ ↔ _;rw[<-hC,Ej];exact⟨fun e=>absurd e h,fun e=>absurd e hp⟩
 clear cN hC h hp;go_enter Tryz.func54,Tryz.ntmps54;go_wp2_with (fail);(with_reducible refine(HN.out _).mono ?_);rintro e w' ⟨rfl,rfl⟩;go_wp2;go_ret;exact Bh.of Hc.out (Cj _ _ _)
set_option maxRecDepth 100000 in
theorem Ak2 (b b':Bool) (n n':Int) (t t':ByteArray) (x y x' y':Value) (w:World) (p:Prop) (hp:b=b' ↔ p):
 Calls Tryz.prog 54 #[.agg #[.int .i64 2,.bool b,.int .i64 n,.string t,x,y],.agg #[.int .i64 2,.bool b',.int .i64 n',.string t',x',y']] w (Bh p w):=by
 cases b<;>cases b'
 . have Hp:Hid p:=hp.1 rfl;clear hp;go_enter Tryz.func54,Tryz.ntmps54;go_wp2;go_ret;exact Bh.of ⟨fun _=>Hp.out,fun _=>rfl⟩ (Cj _ _ _)
 . have Hp:Hid (¬p):=fun h=>by cases hp.2 h
   clear hp;go_enter Tryz.func54,Tryz.ntmps54;go_wp2;go_ret;exact Bh.of (c:= -1) ⟨fun h=>absurd h (by decide),fun h=>absurd h Hp.out⟩ (Cj _ _ _)
 . have Hp:Hid (¬p):=fun h=>by cases hp.2 h
   clear hp;go_enter Tryz.func54,Tryz.ntmps54;go_wp2;go_ret;exact Bh.of (c:=1) ⟨fun h=>absurd h (by decide),fun h=>absurd h Hp.out⟩ (Cj _ _ _)
 . have Hp:Hid p:=hp.1 rfl;clear hp;go_enter Tryz.func54,Tryz.ntmps54;go_wp2;go_ret;exact Bh.of ⟨fun _=>Hp.out,fun _=>rfl⟩ (Cj _ _ _)
set_option maxRecDepth 100000 in
theorem Ann (b b':Bool) (n n':Int) (t t':ByteArray) (x y x' y':Value) (w:World) (p:Prop) (hp:n=n' ↔ p):
 Calls Tryz.prog 54 #[.agg #[.int .i64 3,.bool b,.int .i64 n,.string t,x,y],.agg #[.int .i64 3,.bool b',.int .i64 n',.string t',x',y']] w (Bh p w):=by
 obtain⟨C,hC⟩: ∃C,Kj n n'=C:=⟨_,rfl⟩;have cN:=fun w=>Ig n n' w;rw[hC]at cN;have HN:=Lib.hid cN;have Hc:Hid (C=0 ↔ p):=by
  show _ ↔ _;rw[<-hC,Ej];exact hp
 clear cN hC hp;go_enter Tryz.func54,Tryz.ntmps54;go_wp2_with (fail);(with_reducible refine(HN.out _).mono ?_);rintro e w' ⟨rfl,rfl⟩;go_wp2;go_ret;exact Bh.of Hc.out (Cj _ _ _)
set_option maxRecDepth 100000 in
theorem Ak4 (b b':Bool) (n n':Int) (t t':ByteArray) (x y x' y':Value) (w:World) (p:Prop) (h1:t.size<=1000000000) (h2:t'.size<=1000000000) (hp:t=t' ↔ p):
 Calls Tryz.prog 54 #[.agg #[.int .i64 4,.bool b,.int .i64 n,.string t,x,y],.agg #[.int .i64 4,.bool b',.int .i64 n',.string t',x',y']] w (Bh p w):=by
 have HN:=Lib.hid (fun w=>T0 t t' w h1 h2);have Hp:=Lib.hid hp;clear hp;go_enter Tryz.func54,Tryz.ntmps54;go_wp2_with (fail);(with_reducible refine(HN.out _).mono ?_);rintro e w' ⟨c,rfl,hc,hb⟩;have Hc:=Lib.hid hc;clear hc;go_wp2;go_ret;exact Bh.of (Hc.out.trans Hp.out) ((Cj _ _ _).trans (hb.mono (by simp;omega)))
theorem Amb {k k':Int} (h1:1<=k/\k<=7) (h2:1<=k'/\k'<=7) (h:B9 k=B9 k'):k=k':=by
 have e1:k=1\/k=2\/k=3\/k=4\/k=5\/k=6\/k=7:=by omega
 have e2:k'=1\/k'=2\/k'=3\/k'=4\/k'=5\/k'=6\/k'=7:=by omega
 rcases e1 with rfl|rfl|rfl|rfl|rfl|rfl|rfl<;>rcases e2 with rfl|rfl|rfl|rfl|rfl|rfl|rfl<;>first|rfl|exact absurd h (by decide)
theorem Va {s:ByteArray} (h:s.toList.isEmpty=true):s=⟨#[]⟩:=by
 rw[List.isEmpty_iff,Lib.toList_data]at h;exact ByteArray.ext (Array.ext' h)
theorem Uw {k:Int} {dst:ByteArray} {n:Int} {had has:Bool} {was v:Val} {l:List Mut} (h:Ao k dst n had (D0 was) has (D0 v) l.length=true):
 (k≠6->dst=⟨#[]⟩)/\(k≠3->n=0)/\(k≠4->k≠7->had=false)/\(k≠4->has=false)/\(had=false->was=Mc)/\(k≠1->k≠5->has=false->v=Mc)/\(k≠7->l= []):=by
 unfold Ao at h;simp only[Bool.and_eq_true,Bool.or_eq_true,decide_eq_true_eq,Bool.not_eq_true']at h;obtain⟨⟨⟨⟨⟨⟨⟨⟨_,_⟩,h1⟩,h2⟩,h3⟩,h4⟩,h5⟩,h6⟩,h7⟩:=h;refine⟨fun e=> ?_,fun e=> ?_,fun e e'=> ?_,fun e=> ?_,fun e=> ?_,fun e e' e2=> ?_,fun e=> ?_⟩
 . rcases h1 with h|h
   . exact absurd h e
   . exact Va h
 . rcases h2 with h|h
   . exact absurd h e
   . exact h
 . rcases h3 with(h|h)|h
   . exact absurd h e
   . exact absurd h e'
   . exact h
 . rcases h4 with h|h
   . exact absurd h e
   . exact h
 . rcases h5 with h|h
   . rw[e]at h;cases h
   . exact(Ni was).1 h
 . rcases h6 with((h|h)|h)|h
   . exact absurd h e
   . exact absurd h e'
   . rw[e2]at h;cases h.2
   . exact(Ni v).1 h
 . rcases h7 with h|h
   . exact absurd h e
   . exact List.eq_nil_of_length_eq_zero h
theorem Pe {a b:ByteArray} (h:tv a=tv b):a=b:=by unfold tv at h;injection h
theorem Apx {a b:Int} (h:iv a=iv b):a=b:=by unfold iv at h;injection h
theorem Agd {a b:List (ByteArray×Val)} (h:ov a=ov b):a=b:=by unfold ov at h;injection h
theorem Ap2 {a b:List Val} (h:lv a=lv b):a=b:=by unfold lv at h;injection h
theorem Sl {key key':ByteArray} {had had':Bool} {was was':Val} (hw:had=false->was=Mc) (hw':had'=false->was'=Mc) (h:Bf key had was=Bf key' had' was'):key=key'/\had=had'/\was=was':=by
 unfold Bf at h;simp only[List.cons.injEq,Prod.mk.injEq,true_and]at h;obtain⟨h1,h2⟩:=h;refine⟨Pe h1, ?_⟩
 cases had<;>cases had'<;>simp at h2 ⊢
 . rw[hw rfl,hw' rfl]
 . exact h2
theorem Ajd {l l':List Mut} (ih: ∀m ∈ l,∀m' d d',Dv m d=0->Dv m' d'=0->Bb m=Bb m'->m=m') {d d':Int} (h:Gk l d=0) (h':Gk l' d'=0) (e:Be l=Be l'):l=l':=by
 induction l generalizing l' with
 |nil=>
  cases l' with
  |nil=>rfl
  |cons y r=>simp[Be]at e
 |cons x r ihr=>
  cases l' with
  |nil=>simp[Be]at e
  |cons y r'=>
   simp only[Be,List.cons.injEq]at e;have hx:=Ic h x (by simp);have hy:=Ic h' y (by simp);simp only[Gk,hx,hy,if_true]at h h';rw[ih x (by simp) y d d' hx hy e.1,ihr (fun m hm=>ih m (by simp[hm])) h h' e.2]
theorem Al9: ∀(m m':Mut) (d d':Int),Dv m d=0->Dv m' d'=0->Bb m=Bb m'->m=m':=by
 refine Mut.ind ?_;intro k key dst n had was has v l IH m' d d' h h' e;obtain⟨k',key',dst',n',had',was',has',v',l'⟩:=m';obtain⟨h1,_,h3,_,_,h6⟩:=E4 h;obtain⟨h1',_,h3',_,_,h6'⟩:=E4 h';have hk:=M4 h1;have hk':=M4 h1';obtain⟨p1,p2,p3,p4,p5,p6,p7⟩:=Uw h1;obtain⟨q1,q2,q3,q4,q5,q6,q7⟩:=Uw h1';simp only[Bb]at e;have e0:=Agd e;simp only[List.cons.injEq,Prod.mk.injEq,true_and,and_true]at e0;obtain⟨ea,en⟩:=e0;obtain rfl:=Amb hk hk' (Pe en);have eX:=Agd ea;clear e ea en h h' h1 h1' hk';have hkk:k=1\/k=2\/k=3\/k=4\/k=5\/k=6\/k=7:=by omega
 rcases hkk with rfl|rfl|rfl|rfl|rfl|rfl|rfl
 . have a1:=p3 (by omega) (by omega);have a2:=q3 (by omega) (by omega);simp at eX;rw[p1 (by omega),q1 (by omega),p2 (by omega),q2 (by omega),a1,a2,p4 (by omega),q4 (by omega),p5 a1,q5 a2,p7 (by omega),q7 (by omega),Pe eX.1,eX.2]
 . have a1:=p3 (by omega) (by omega);have a2:=q3 (by omega) (by omega);have b1:=p4 (by omega);have b2:=q4 (by omega);simp at eX;rw[p1 (by omega),q1 (by omega),p2 (by omega),q2 (by omega),a1,a2,b1,b2,p5 a1,q5 a2,p6 (by omega) (by omega) b1,q6 (by omega) (by omega) b2,p7 (by omega),q7 (by omega),Pe eX]
 . have a1:=p3 (by omega) (by omega);have a2:=q3 (by omega) (by omega);have b1:=p4 (by omega);have b2:=q4 (by omega);simp at eX;rw[p1 (by omega),q1 (by omega),a1,a2,b1,b2,p5 a1,q5 a2,p6 (by omega) (by omega) b1,q6 (by omega) (by omega) b2,p7 (by omega),q7 (by omega),Apx eX.1,Pe eX.2]
 . cases has<;>cases has'
   . simp at eX;obtain⟨g1,g2,g3⟩:=Sl p5 q5 eX;rw[p1 (by omega),q1 (by omega),p2 (by omega),q2 (by omega),p6 (by omega) (by omega) rfl,q6 (by omega) (by omega) rfl,p7 (by omega),q7 (by omega),g1,g2,g3]
   . exfalso;cases had<;>cases had'<;>simp[Bf]at eX
   . exfalso;cases had<;>cases had'<;>simp[Bf]at eX
   . simp at eX;obtain⟨e1,e2⟩:=eX;obtain⟨g1,g2,g3⟩:=Sl p5 q5 e2;rw[p1 (by omega),q1 (by omega),p2 (by omega),q2 (by omega),p7 (by omega),q7 (by omega),g1,g2,g3,e1]
 . have a1:=p3 (by omega) (by omega);have a2:=q3 (by omega) (by omega);simp at eX;rw[p1 (by omega),q1 (by omega),p2 (by omega),q2 (by omega),a1,a2,p4 (by omega),q4 (by omega),p5 a1,q5 a2,p7 (by omega),q7 (by omega),Pe eX.1,eX.2]
 . have a1:=p3 (by omega) (by omega);have a2:=q3 (by omega) (by omega);have b1:=p4 (by omega);have b2:=q4 (by omega);simp at eX;rw[p2 (by omega),q2 (by omega),a1,a2,b1,b2,p5 a1,q5 a2,p6 (by omega) (by omega) b1,q6 (by omega) (by omega) b2,p7 (by omega),q7 (by omega),Pe eX.1,Pe eX.2]
 . have b1:=p4 (by omega);have b2:=q4 (by omega);have z1: ¬((7:Int)=1\/(7:Int)=5):=by omega
   have z2: ¬(7:Int)=2:=by omega
   have z3: ¬(7:Int)=3:=by omega
   have z4: ¬(7:Int)=4:=by omega
   have z6: ¬(7:Int)=6:=by omega
   rw[if_neg z1,if_neg z2,if_neg z3,if_neg z4,if_neg z6,if_neg z1,if_neg z2,if_neg z3,if_neg z4,if_neg z6]at eX;simp only[List.cons.injEq,Prod.mk.injEq,true_and]at eX;obtain⟨eD,eI⟩:=eX;have el:=Ajd IH h6 h6' (Ap2 eD);have hg:key=key'/\had=had'/\was=was':=by
    by_cases c1:key.toList.isEmpty=true<;>by_cases c2:key'.toList.isEmpty=true
    . have d1:had=false:=by unfold Dr at h3;rw[if_neg (by omega),if_pos ⟨rfl,c1⟩]at h3;simpa using h3
      have d2:had'=false:=by unfold Dr at h3';rw[if_neg (by omega),if_pos ⟨rfl,c2⟩]at h3';simpa using h3'
      exact⟨(Va c1).trans (Va c2).symm,d1.trans d2.symm,(p5 d1).trans (q5 d2).symm⟩
    . rw[if_pos c1,if_neg c2]at eI;cases eI
    . rw[if_neg c1,if_pos c2]at eI;cases eI
    . rw[if_neg c1,if_neg c2]at eI;simp only[List.cons.injEq,Prod.mk.injEq,true_and,and_true]at eI;exact Sl p5 q5 (Agd eI)
   obtain⟨g1,g2,g3⟩:=hg;rw[p1 (by omega),q1 (by omega),p2 (by omega),q2 (by omega),b1,b2,p6 (by omega) (by omega) b1,q6 (by omega) (by omega) b2,g1,g2,g3,el]
mutual
def Do:Val->Val->Bool
 | .mk k b n t l o,.mk k' b' n' t' l' o'=>decide (k=k')&&(if k=2 then b==b' else if k=3 then decide (n=n')else if k=4 then decide (t=t')else if k=5 then Mw l l' else if k=6 then Mf o o' else true)
def Mw:List Val->List Val->Bool
 | [], []=>true
 | [],_::_=>false
 |_::_, []=>false
 |x::r,y::s=>Do x y&&Mw r s
def Mf:List (ByteArray×Val)->List (ByteArray×Val)->Bool
 | [], []=>true
 | [],_::_=>false
 |_::_, []=>false
 |p::r,q::s=>Pa p q&&Mf r s
def Pa:ByteArray×Val->ByteArray×Val->Bool
 |(k,x),(k',y)=>decide (k=k')&&Do x y
end
theorem Zq: ∀{l:List Val},(∀v ∈ l,Do v v=true)->Mw l l=true
 | [],_=>by simp[Mw]
 |v::r,h=>by simp only[Mw,h v (by simp),Zq (l:=r) fun x hx=>h x (by simp[hx]),Bool.and_self]
theorem Zr: ∀{o:List (ByteArray×Val)},(∀m ∈ o,Do m.2 m.2=true)->Mf o o=true
 | [],_=>by simp[Mf]
 |(k,v)::r,h=>by
  have h1:Do v v=true:=h (k,v) (by simp);simp only[Mf,Pa,h1,Zr (o:=r) fun x hx=>h x (by simp[hx]),Bool.and_self,decide_true]
theorem Zs: ∀v,Do v v=true:=by
 refine Val.ind ?_;intro k b n t l o hl ho;simp only[Do,Zq hl,Zr ho,decide_true,Bool.true_and,beq_self_eq_true]
 split
 . rfl
 split
 . rfl
 split
 . rfl
 split
 . rfl
 split<;>rfl
def Ang (a:Val):Prop:= ∀(b:Val) (d d':Int),Az a d=0->Az b d'=0->Do a b=true->a=b
theorem Ahz: ∀{l l':List Val},(∀v ∈ l,Ang v)-> ∀{d d':Int},Df l d=0->Df l' d'=0->Mw l l'=true->l=l'
 | [], [],_,_,_,_,_,_=>rfl
 | [],_::_,_,_,_,_,_,h=>by simp[Mw]at h
 |_::_, [],_,_,_,_,_,h=>by simp[Mw]at h
 |x::r,y::s,hc,d,d',h1,h2,h=>by
  simp only[Mw,Bool.and_eq_true]at h;have hx:Az x d=0/\Df r d=0:=by
   simp only[Df]at h1;by_cases e:Az x d=0
   . rw[if_pos e]at h1;exact⟨e,h1⟩
   . rw[if_neg e]at h1;exact absurd h1 e
  have hy:Az y d'=0/\Df s d'=0:=by
   simp only[Df]at h2;by_cases e:Az y d'=0
   . rw[if_pos e]at h2;exact⟨e,h2⟩
   . rw[if_neg e]at h2;exact absurd h2 e
  rw[hc x (by simp) y d d' hx.1 hy.1 h.1,Ahz (fun v hv=>hc v (by simp[hv])) hx.2 hy.2 h.2]
theorem Ah0: ∀{l l':List (ByteArray×Val)},(∀m ∈ l,Ang m.2)-> ∀{d d':Int},(∀m ∈ l,Aw m.1=true/\Az m.2 d=0)->(∀m ∈ l',Aw m.1=true/\Az m.2 d'=0)->Mf l l'=true->l=l'
 | [], [],_,_,_,_,_,_=>rfl
 | [],_::_,_,_,_,_,_,h=>by simp[Mf]at h
 |_::_, [],_,_,_,_,_,h=>by simp[Mf]at h
 |(k,x)::r,(k',y)::s,hc,d,d',h1,h2,h=>by
  simp only[Mf,Pa,Bool.and_eq_true,decide_eq_true_eq]at h;have hx:=(h1 (k,x) (by simp)).2;have hy:=(h2 (k',y) (by simp)).2;have hcx:Ang x:=hc (k,x) (by simp);rw[h.1.1,hcx y d d' hx hy h.1.2,Ah0 (fun m hm=>hc m (by simp[hm])) (fun m hm=>h1 m (by simp[hm])) (fun m hm=>h2 m (by simp[hm])) h.2]
theorem Aq0: ∀a,Ang a:=by
 refine Val.ind ?_;intro k b n t l o hl ho v d d' hm hm' e;obtain⟨k',b',n',t',l',o'⟩:=v;obtain⟨hodd,_,hvt,hmL,hmO⟩:=Bv hm;obtain⟨hodd',_,hvt',hmL',hmO'⟩:=Bv hm';simp only[Do,Bool.and_eq_true,decide_eq_true_eq]at e;obtain⟨hkk,e⟩:=e;subst hkk;obtain⟨hk,p1,p2,p3⟩:=Ii hodd;obtain⟨_,q1,q2,q3⟩:=Ii hodd';obtain⟨p4,p5⟩:=V2 hodd;obtain⟨q4,q5⟩:=V2 hodd';have nl: ∀{α:Type} {l:List α},l.length=0->l= []:=fun h=>List.length_eq_zero_iff.1 h;have hb:b=b':=by
  by_cases c:k=2
  . rw[if_pos c]at e;simpa using e
  . rw[p4.resolve_left c,q4.resolve_left c]
 have hn:n=n':=by
  by_cases c:k=3
  . rw[if_neg (by omega),if_pos c]at e;simpa using e
  . rw[p5.resolve_left c,q5.resolve_left c]
 have ht:t=t':=by
  by_cases c:k=4
  . rw[if_neg (by omega),if_neg (by omega),if_pos c]at e;simpa using e
  . rw[p1.resolve_left c,q1.resolve_left c]
 have hll:l=l':=by
  by_cases c:k=5
  . rw[if_neg (by omega),if_neg (by omega),if_neg (by omega),if_pos c]at e;exact Ahz hl hmL hmL' e
  . rw[nl (p2.resolve_left c),nl (q2.resolve_left c)]
 have hoo:o=o':=by
  by_cases c:k=6
  . rw[if_neg (by omega),if_neg (by omega),if_neg (by omega),if_neg (by omega),if_pos c]at e;exact Ah0 ho (Jr hmO) (Jr hmO') e
  . rw[nl (p3.resolve_left c),nl (q3.resolve_left c)]
 rw[hb,hn,ht,hll,hoo]
theorem Amz {a b:Val} {d d':Int} (ha:Az a d=0) (hb:Az b d'=0):Do a b=true ↔ a=b:=⟨Aq0 a b d d' ha hb,fun e=>e▸Zs a⟩
mutual
def Jy:Mut->Mut->Bool
 | .mk k key dst n had was has v l,.mk k' key' dst' n' had' was' has' v' l'=>decide (k=k')&&decide (key=key')&&decide (dst=dst')&&decide (n=n')&&(had==had')&&(has==has')&&Do was was'&&Do v v'&&Fz l l'
def Fz:List Mut->List Mut->Bool
 | [], []=>true
 | [],_::_=>false
 |_::_, []=>false
 |x::r,y::s=>Jy x y&&Fz r s
end
theorem Wh: ∀{l:List Mut},(∀m ∈ l,Jy m m=true)->Fz l l=true
 | [],_=>by simp[Fz]
 |m::r,h=>by simp only[Fz,h m (by simp),Wh (l:=r) fun x hx=>h x (by simp[hx]),Bool.and_self]
theorem Ajv: ∀m,Jy m m=true:=by
 refine Mut.ind ?_;intro k key dst n had was has v l hl;simp only[Jy,Wh hl,Zs,decide_true,Bool.and_self,beq_self_eq_true]
theorem Aek {a b:Val} (ha:Eg a=0\/a=Mc) (hb:Eg b=0\/b=Mc) (h:Do a b=true):a=b:=by
 have hk: ∀{x:Val},Eg x=0->Do x Mc=false/\Do Mc x=false:=by
  intro x hx;obtain⟨f1,_,_⟩:=Nz hx;obtain⟨k,bo,n,t,l,o⟩:=x;have hkk:=Ro f1;constructor
  . simp only[Do,Mc];rw[decide_eq_false (by omega),Bool.false_and]
  . simp only[Do,Mc];rw[decide_eq_false (by omega),Bool.false_and]
 rcases ha with ha|rfl<;>rcases hb with hb|rfl
 . exact(Amz (Nz ha).1 (Nz hb).1).1 h
 . rw[(hk ha).1]at h;cases h
 . rw[(hk hb).2]at h;cases h
 . rfl
theorem Aec: ∀{l l':List Mut},(∀m ∈ l,∀(m':Mut) (d d':Int),Dv m d=0->Dv m' d'=0->Jy m m'=true->m=m')-> ∀{d d':Int},Gk l d=0->Gk l' d'=0->Fz l l'=true->l=l'
 | [], [],_,_,_,_,_,_=>rfl
 | [],_::_,_,_,_,_,_,h=>by simp[Fz]at h
 |_::_, [],_,_,_,_,_,h=>by simp[Fz]at h
 |x::r,y::s,hc,d,d',h1,h2,h=>by
  simp only[Fz,Bool.and_eq_true]at h;have t1:Gk r d=0:=by
   simp only[Gk]at h1;by_cases e:Dv x d=0
   . rw[if_pos e]at h1;exact h1
   . rw[if_neg e]at h1;exact absurd h1 e
  have t2:Gk s d'=0:=by
   simp only[Gk]at h2;by_cases e:Dv y d'=0
   . rw[if_pos e]at h2;exact h2
   . rw[if_neg e]at h2;exact absurd h2 e
  rw[hc x (by simp) y d d' (Ic h1 x (by simp)) (Ic h2 y (by simp)) h.1,Aec (fun v hv=>hc v (by simp[hv])) t1 t2 h.2]
theorem Aox: ∀(m m':Mut) (d d':Int),Dv m d=0->Dv m' d'=0->Jy m m'=true->m=m':=by
 refine Mut.ind ?_;intro k key dst n had was has v l IH m' d d' h h' e;obtain⟨k',key',dst',n',had',was',has',v',l'⟩:=m';obtain⟨b1,_,_,b4,b5,b6⟩:=E4 h;obtain⟨c1,_,_,c4,c5,c6⟩:=E4 h';simp only[Jy,Bool.and_eq_true,decide_eq_true_eq,beq_iff_eq]at e;obtain⟨⟨⟨⟨⟨⟨⟨⟨rfl,rfl⟩,rfl⟩,rfl⟩,rfl⟩,rfl⟩,e1⟩,e2⟩,e3⟩:=e;have w1: ∀{x:Val} {n:Int} {v:Val} {ln:Nat},Ao k dst n had (D0 x) has (D0 v) ln=true->(had=true->Eg x=0)->Eg x=0\/x=Mc:=by
  intro x n v ln hb hf;unfold Ao at hb;simp only[Bool.and_eq_true,Bool.or_eq_true]at hb;rcases hb.1.1.2 with h|h
  . exact .inl (hf h)
  . exact .inr ((Ni x).1 h)
 have w2: ∀{x v:Val} {n:Int} {ln:Nat},Ao k dst n had (D0 x) has (D0 v) ln=true->((has||decide (k=1)||decide (k=5))=true->Eg v=0)->Eg v=0\/v=Mc:=by
  intro x v n ln hb hf;unfold Ao at hb;simp only[Bool.and_eq_true,Bool.or_eq_true,decide_eq_true_eq]at hb hf;rcases hb.1.2 with((h|h)|h)|h
  . exact .inl (hf (.inl (.inr h)))
  . exact .inl (hf (.inr h))
  . exact .inl (hf (.inl (.inl h.2)))
  . exact .inr ((Ni v).1 h)
 rw[Aek (w1 b1 b4) (w1 c1 c4) e1,Aek (w2 b1 b5) (w2 c1 c5) e2,Aec IH b6 c6 e3]
theorem Xm {m m':Mut} (h:Bk m=0) (h':Bk m'=0):Ak (Bb m)=Ak (Bb m') ↔ Jy m m'=true:=by
 have may: ∀{x:Mut},Bk x=0->Dv x 1=0:=by
  intro x hx;unfold Bk at hx;by_cases c:64<Cd x
  . rw[if_pos c]at hx;cases hx
  . rw[if_neg c]at hx;exact hx
 constructor
 . intro e;have:=Am6 (Rp m 1 1 (may h) (by omega) (by omega)) (Rp m' 1 1 (may h') (by omega) (by omega)) e;rw[Al9 m m' 1 1 (may h) (may h') this];exact Ajv m'
 . intro e;rw[Aox m m' 1 1 (may h) (may h') e]
theorem Ld: ∀{l l':List Val},Mw l l'=true ↔ l.length=l'.length/\ ∀(j:Nat) x y,l[j]? =some x->l'[j]? =some y->Do x y=true
 | [], []=>by simp[Mw]
 | [],_::_=>by simp[Mw]
 |_::_, []=>by simp[Mw]
 |a::r,b::s=>by
  simp only[Mw,Bool.and_eq_true,Ld (l:=r) (l':=s),List.length_cons,Nat.add_right_cancel_iff];constructor
  . rintro⟨h1,h2,h3⟩;refine⟨h2,fun j x y e1 e2=> ?_⟩
    cases j with
    |zero=>simp only[List.getElem?_cons_zero,Option.some.injEq]at e1 e2;rw[<-e1,<-e2];exact h1
    |succ j=>simp only[List.getElem?_cons_succ]at e1 e2;exact h3 j x y e1 e2
  . rintro⟨h2,h3⟩;exact⟨h3 0 a b rfl rfl,h2,fun j x y e1 e2=>h3 (j+1) x y (by simpa using e1) (by simpa using e2)⟩
theorem Jz: ∀{l l':List (ByteArray×Val)},Mf l l'=true ↔ l.length=l'.length/\ ∀(j:Nat) x y,l[j]? =some x->l'[j]? =some y->Pa x y=true
 | [], []=>by simp[Mf]
 | [],_::_=>by simp[Mf]
 |_::_, []=>by simp[Mf]
 |a::r,b::s=>by
  simp only[Mf,Bool.and_eq_true,Jz (l:=r) (l':=s),List.length_cons,Nat.add_right_cancel_iff];constructor
  . rintro⟨h1,h2,h3⟩;refine⟨h2,fun j x y e1 e2=> ?_⟩
    cases j with
    |zero=>simp only[List.getElem?_cons_zero,Option.some.injEq]at e1 e2;rw[<-e1,<-e2];exact h1
    |succ j=>simp only[List.getElem?_cons_succ]at e1 e2;exact h3 j x y e1 e2
  . rintro⟨h2,h3⟩;exact⟨h3 0 a b rfl rfl,h2,fun j x y e1 e2=>h3 (j+1) x y (by simpa using e1) (by simpa using e2)⟩
def Akl (a:Val):Prop:= ∀(b:Val) (cs cs':List Value) (w:World),Ab w w.heap.size a cs->Ab w w.heap.size b cs'->a.bulk<=100000000->b.bulk<=100000000->
    Calls Tryz.prog 54 #[.agg cs.toArray,.agg cs'.toArray] w (Bh (Do a b=true) w)
set_option maxRecDepth 100000 in
theorem Anp (k:Int) (h2:k≠2) (h3:k≠3) (h4:k≠4) (h5:k≠5) (h6:k≠6) (b b':Bool) (n n':Int) (t t':ByteArray) (x y x' y':Value) (w:World) (p:Prop) (hp:p):
 Calls Tryz.prog 54 #[.agg #[.int .i64 k,.bool b,.int .i64 n,.string t,x,y],.agg #[.int .i64 k,.bool b',.int .i64 n',.string t',x',y']] w (Bh p w):=by
 have Hp:=Lib.hid hp;have e2:(k==2)=false:=by simpa using h2
 have e3:(k==3)=false:=by simpa using h3
 have e4:(k==4)=false:=by simpa using h4
 have e5:(k==5)=false:=by simpa using h5
 have e6:(k==6)=false:=by simpa using h6
 clear hp;go_enter Tryz.func54,Tryz.ntmps54;go_wp2;go_ret;exact Bh.of ⟨fun _=>Hp.out,fun _=>rfl⟩ (Cj _ _ _)
set_option maxRecDepth 100000 in
theorem Am0 (b b':Bool) (n n':Int) (t t':ByteArray) (l l':List Val) (on on':Nat) (la oa la' oa':Option Addr) (lc oc lc' oc':Nat) (w:World) (IH: ∀v ∈ l,Akl v) (p:Prop) (hp:Mw l l'=true ↔ p)
 (hl:l= []\/ ∃g off,la=some ⟨g,off,none⟩/\g<w.heap.size/\A1 w w.heap.size l g off) (hl':l'= []\/ ∃g off,la'=some ⟨g,off,none⟩/\g<w.heap.size/\A1 w w.heap.size l' g off)
 (hb:Bd l<=100000000) (hb':Bd l'<=100000000):
 Calls Tryz.prog 54 #[.agg #[.int .i64 5,.bool b,.int .i64 n,.string t,.slice la l.length lc,.slice oa on oc],.agg #[.int .i64 5,.bool b',.int .i64 n',.string t',.slice la' l'.length lc',.slice oa' on' oc']] w (Bh p w):=by
 have hln:=Ee l;have hln':=Ee l';obtain⟨HI,Hp⟩:=hid2 IH hp;have H0:Hid (∀j x y,j<0->l[j]? =some x->l'[j]? =some y->Do x y=true):=fun _ _ _ e=>absurd e (Nat.not_lt_zero _);clear IH hp;obtain⟨w2,hw2⟩: ∃w2,(w.alloc (Aie 5 b n t (.slice la l.length lc) (.slice oa on oc))).alloc (Aie 5 b' n' t' (.slice la' l'.length lc') (.slice oa' on' oc'))=w2:=⟨_,rfl⟩;have hbw:Below w.heap.size w w2:=by rw[<-hw2];exact Cj _ _ _
 have hx1:w2.heap[w.heap.size]? =some (.cells #[.int .i64 5,.bool b,.int .i64 n,.string t,.slice la l.length lc,.slice oa on oc] 27 (0,0)):=by
  rw[<-hw2,Lib.alloc_old _ _ _ (by simp)];exact heap_alloc_new _ _
 have hx2:w2.heap[w.heap.size+1]? =some (.cells #[.int .i64 5,.bool b',.int .i64 n',.string t',.slice la' l'.length lc',.slice oa' on' oc'] 27 (0,0)):=by
  rw[<-hw2];have:=heap_alloc_new (w.alloc (Aie 5 b n t (.slice la l.length lc) (.slice oa on oc))) (.cells #[.int .i64 5,.bool b',.int .i64 n',.string t',.slice la' l'.length lc',.slice oa' on' oc'] 27);simpa using this
 obtain⟨HBW,HX1,HX2⟩:=hid3 hbw hx1 hx2;clear hbw hx1 hx2;subst hw2;go_enter Tryz.func54,Tryz.ntmps54;go_wp2_with (fail);go_loopw [5] (fun i wr=> ∃k:Nat,i=.int .i64 k/\k<=l.length/\k<=l'.length/\Hid (∀j x y,j<k->l[j]? =some x->l'[j]? =some y->Do x y=true)/\Hid (Below w.heap.size w wr)/\
  Hid (wr.heap[w.heap.size]? =some (.cells #[.int .i64 5,.bool b,.int .i64 n,.string t,.slice la l.length lc,.slice oa on oc] 27 (0,0)))/\
  Hid (wr.heap[w.heap.size+1]? =some (.cells #[.int .i64 5,.bool b',.int .i64 n',.string t',.slice la' l'.length lc',.slice oa' on' oc'] 27 (0,0)))) (fun i _=>l.length - (intOf i).toNat)
 case atStart=>exact⟨0,rfl,Nat.zero_le _,Nat.zero_le _,H0,HBW,HX1,HX2⟩
 case round=>
  obtain⟨k,rfl,hk,hk',ht,hbw,hx1,hx2⟩:=hrel;clear H0 HBW HX1 HX2;have b1:wr.cell? ⟨w.heap.size,4,none⟩=some (.slice la l.length lc):=by rw[Lib.cell_of_heap hx1.out];rfl
  have b2:wr.cell? ⟨w.heap.size+1,4,none⟩=some (.slice la' l'.length lc'):=by rw[Lib.cell_of_heap hx2.out];rfl
  have z2:w.heap.size+1<wr.heap.size:=(Array.getElem?_eq_some_iff.1 hx2.out).1;by_cases hlt:k<l.length
  . by_cases hlt2:k<l'.length
    . obtain⟨g,off,rfl,hg,hL⟩: ∃g off,la=some ⟨g,off,none⟩/\g<w.heap.size/\A1 w w.heap.size l g off:=by
       rcases hl with rfl|h
       . simp at hlt
       . exact h
      obtain⟨g',off',rfl,hg',hL'⟩: ∃g off,la'=some ⟨g,off,none⟩/\g<w.heap.size/\A1 w w.heap.size l' g off:=by
       rcases hl' with rfl|h
       . simp at hlt2
       . exact h
      obtain⟨x,hx⟩: ∃v,l[k]? =some v:=⟨_,List.getElem?_eq_getElem hlt⟩;obtain⟨y,hy⟩: ∃v,l'[k]? =some v:=⟨_,List.getElem?_eq_getElem hlt2⟩;have hxm:=List.mem_of_getElem? hx;have hym:=List.mem_of_getElem? hy;have hxb:=Er hxm;have hyb:=Er hym;have IHx:=HI.out x hxm;have hxy:Do x y=true->(∀j x y,j<k+1->l[j]? =some x->l'[j]? =some y->Do x y=true):=by
       intro e j x' y' hj h1 h2;rcases Nat.lt_succ_iff_lt_or_eq.1 hj with hj|rfl
       . exact ht.out j x' y' hj h1 h2
       . rw[hx]at h1;rw[hy]at h2;rw[<-Option.some.inj h1,<-Option.some.inj h2];exact e
      have hxn: ¬Do x y=true-> ¬Mw l l'=true:=fun e h=>e ((Ld.1 h).2 k x y hx hy);obtain⟨Hxy,Hxn⟩:=hid2 hxy hxn;have hz:=hbw.out.size;obtain⟨k1,b1',n1,t1,l1,o1⟩:=x;obtain⟨k2,b2',n2,t2,l2,o2⟩:=y;obtain⟨la1,lc1,oa1,oc1,hv1,c0,c1,c2,c3,c4,c5⟩:=(hL.below hg hbw.out).six hx;obtain⟨la2,lc2,oa2,oc2,hv2,e0,e1,e2,e3,e4,e5⟩:=(hL'.below hg' hbw.out).six hy;have hbd:=Below.drew hbw.out;have CC:=IHx _ _ _ wr.drew (Ab.more hz _ _ (hv1.below (Below.drew (Below.refl _ _)))) (Ab.more hz _ _ (hv2.below (Below.drew (Below.refl _ _)))) (by omega) (by omega);obtain⟨Q,hQ⟩: ∃Q:Prop,(Do (Val.mk k1 b1' n1 t1 l1 o1) (Val.mk k2 b2' n2 t2 l2 o2)=true)=Q:=⟨_,rfl⟩;rw[hQ]at CC Hxy;have Hxn':Hid (¬Q-> ¬Mw l l'=true):=by rw[<-hQ];exact Hxn
      have HC:=Lib.hid CC;clear CC hQ Hxn hxy hxn IHx hxb hyb hxm hym hv1 hv2 hx hy hL hL' hbd hg hg' ht;go_wp2_with (fail)
      go_region_with (go_at_call 54;refine(HC.out).mono ?_;rintro e w4 ⟨c,rfl,hc,hb4⟩)
      all_goals
       have Hc:=Lib.hid hc;have hb4':Below wr.heap.size wr w4:=(Below.drew (Below.refl _ _)).trans hb4;have hbw4:=Lib.hid (hbw.out.trans (hb4'.mono hz));have hx1':=Lib.hid ((hb4'.block _ (by omega)).trans hx1.out);have hx2':=Lib.hid ((hb4'.block _ z2).trans hx2.out);clear hc hb4 hb4' hbw hx1 hx2 HC c0 c1 c2 c3 c4 c5 e0 e1 e2 e3 e4 e5 b1 b2;by_cases hc0:c=0
       . have Hn:=Lib.hid (Hxy.out (Hc.out.1 hc0));subst hc0;clear Hc;go_wp2;go_roundw
         case rel=>exact⟨k+1,by go_num,by omega,by omega,Hn,hbw4,hx1',hx2'⟩
         case measure=>simp only[intOf];omega
       . have hne:=Hxn'.out (fun e=>hc0 (Hc.out.2 e));have f1:(c==0)=false:=by simpa using hc0
         have f2:(c != 0)=true:=by simpa using hc0
         have Hf:Hid (c=0 ↔ p):=⟨fun e=>absurd e hc0,fun e=>absurd (Hp.out.2 e) hne⟩;clear Hc hne hc0;go_wp2;go_ret;exact Bh.of Hf.out hbw4.out
    . have hk2:k=l'.length:=by omega
      subst hk2;have hne: ¬Mw l l'=true:=fun h=>by have:=(Ld.1 h).1;omega
      obtain⟨C,hC⟩: ∃C,Kj (l.length:Int) (l'.length:Int)=C:=⟨_,rfl⟩;have cN:=fun w=>Ig (l.length:Int) (l'.length:Int) w;rw[hC]at cN;have HN:=Lib.hid cN;have hcz:C≠0:=by rw[<-hC,Ne,Ej];omega
      have Hf:Hid (C=0 ↔ p):=⟨fun e=>absurd e hcz,fun e=>absurd (Hp.out.2 e) hne⟩;clear cN hC hcz hne ht hl hl';go_wp2_with (fail);(with_reducible refine(HN.out _).mono ?_);rintro e w' ⟨rfl,rfl⟩;go_wp2;go_ret;exact Bh.of Hf.out hbw.out
  . have hk2:k=l.length:=by omega
    subst hk2;obtain⟨C,hC⟩: ∃C,Kj (l.length:Int) (l'.length:Int)=C:=⟨_,rfl⟩;have cN:=fun w=>Ig (l.length:Int) (l'.length:Int) w;rw[hC]at cN;have HN:=Lib.hid cN;have Hf:Hid (C=0 ↔ p):=by
     show _ ↔ _;rw[<-hC,Ej,<-Hp.out];constructor
     . intro h;exact Ld.2 ⟨by omega,fun j x y h1 h2=>ht.out j x y (List.getElem?_eq_some_iff.1 h1).1 h1 h2⟩
     . intro h;have:=(Ld.1 h).1;omega
    clear cN hC ht hl hl';go_wp2_with (fail);(with_reducible refine(HN.out _).mono ?_);rintro e w' ⟨rfl,rfl⟩;go_wp2;go_ret;exact Bh.of Hf.out hbw.out
end Go.Proofs.YtmglfdckpjegdaaGreatDoor
