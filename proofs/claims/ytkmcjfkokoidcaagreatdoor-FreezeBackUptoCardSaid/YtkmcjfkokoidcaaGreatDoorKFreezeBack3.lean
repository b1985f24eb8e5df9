/- Parts: value.Compare's helpers: cmp.Compare at three types, strings.Compare, rank. No condition. -/
import Derived.Test.YtkmcjfkokoidcaaGreatDoorKFa27
set_option maxHeartbeats 20000000
set_option maxRecDepth 100000
namespace Go.Proofs.YtkmcjfkokoidcaaGreatDoor
open Go.RowKit
def Iq (a b:Int):Int:=if a<b then -1 else if b<a then 1 else 0
theorem Dn {a b:Int}:Iq a b=0 ↔ a=b:=by
 unfold Iq
 split
 . constructor<;>intro h<;>omega
 split
 . constructor<;>intro h<;>omega
 . constructor<;>intro h<;>omega
theorem Fz (a b:Int) (w:World):Calls Tryz.prog 90 #[.int .i64 a,.int .i64 b] w fun e w'=>e=.returned (.int .i64 (Iq a b))/\w'=w:=by
 unfold Iq;by_cases h1:a<b
 . rw[if_pos h1];go_enter Tryz.func90,Tryz.ntmps90;go_wp2;go_ret;exact⟨rfl,rfl⟩
 rw[if_neg h1];by_cases h2:b<a
 . rw[if_pos h2];go_enter Tryz.func90,Tryz.ntmps90;go_wp2;go_ret;exact⟨rfl,rfl⟩
 . rw[if_neg h2];go_enter Tryz.func90,Tryz.ntmps90;go_wp2;go_ret;exact⟨rfl,rfl⟩
def Jz (a b:ByteArray) (w:World) (e:Ending) (w':World):Prop:= ∃c:Int,e=.returned (.int .i64 c)/\(c=0 ↔ a=b)/\Below w.heap.size w w'
theorem Jz.of {a b:ByteArray} {w w':World} {c:Int} (h:c=0 ↔ a=b) (hb:Below w.heap.size w w'):Jz a b w (.returned (.int .i64 c)) w':=⟨c,rfl,h,hb⟩
theorem Si (a b:ByteArray) (w:World) (ha:a.size<=1000000000) (hb:b.size<=1000000000):
 Calls Tryz.prog 91 #[.string a,.string b] w (Jz a b w):=by
 have H0:Hid (a.data.toList.take 0=b.data.toList.take 0):=by show _=_;simp
 have HB:Hid (Below w.heap.size w w):=Below.refl _ _;go_enter Tryz.func91,Tryz.ntmps91;go_wp2_with (fail);go_loopw [5] (fun i wr=> ∃k:Nat,i=.int .i64 k/\k<=a.size/\k<=b.size/\Hid (a.data.toList.take k=b.data.toList.take k)/\Hid (Below w.heap.size w wr)) (fun i _=>a.size - (intOf i).toNat)
 case atStart=>exact⟨0,rfl,Nat.zero_le _,Nat.zero_le _,H0,HB⟩
 case round=>
  obtain⟨k,rfl,hka,hkb,ht,hbw⟩:=hrel;clear H0 HB;by_cases hlt:k<a.size
  . by_cases hlt2:k<b.size
    . obtain⟨x,hx⟩: ∃x,a[k]=x:=⟨_,rfl⟩;obtain⟨y,hy⟩: ∃y,b[k]=y:=⟨_,rfl⟩;have hax:a.data.toList[k]? =some x:=by
       rw[Array.getElem?_toList,<-hx];exact Array.getElem?_eq_getElem (by exact hlt)
      have hby:b.data.toList[k]? =some y:=by
       rw[Array.getElem?_toList,<-hy];exact Array.getElem?_eq_getElem (by exact hlt2)
      have hxb:(x.toNat:Int)<256:=by have:=x.toNat_lt;omega
      have hyb:(y.toNat:Int)<256:=by have:=y.toNat_lt;omega
      by_cases hxy:x=y
      . subst hxy;have Hn:Hid (a.data.toList.take (k+1)=b.data.toList.take (k+1)):=by
         show _=_;rw[List.take_add_one,List.take_add_one,ht.out,hax,hby]
        clear ht hax hby;go_wp2_with (fail);go_quiet (fail);have hbw2:=qz (Bx hbw.out nq);clear hbw;go_wp2;go_roundw
        case rel=>exact⟨k+1,by go_num,by omega,by omega,Hn,hbw2⟩
        case measure=>simp only[intOf];omega
      . have hxn:x.toNat≠y.toNat:=fun e=>hxy (UInt8.toNat_inj.1 e);have h1:((x.toNat:Int)==(y.toNat:Int))=false:=by simp;omega
        have h2:((x.toNat:Int) != (y.toNat:Int))=true:=by simp[bne];omega
        have hab:a≠b:=by
         rintro rfl;rw[hax]at hby;exact hxy (Option.some.inj hby)
        have hc:Iq (x.toNat:Int) (y.toNat:Int)≠0:=by rw[Ne,Dn];omega
        obtain⟨C,hC⟩: ∃C,Iq (x.toNat:Int) (y.toNat:Int)=C:=⟨_,rfl⟩;have cN:=fun w=>Fz (x.toNat:Int) (y.toNat:Int) w;rw[hC]at cN hc;have HN:=qz cN;have Hc:Hid (C=0 ↔ a=b):=⟨fun e=>absurd e hc,fun e=>absurd e hab⟩;clear ht hax hby hxy hxn hab hc hC cN;go_wp2_with (fail);go_quiet (fail);have hbw2:=Bx hbw.out nq;clear hbw;generalize wr.drewN nq=w9 at hbw2 ⊢;have Hbw2:=qz hbw2;clear hbw2;go_wp2_with (fail);go_quiet ((go_at_call 90;exact Calls.quiet_of_same (HN.out _)));have hbw3:=qz (Bx Hbw2.out nq);clear Hbw2;go_wp2;go_ret;exact Jz.of Hc.out hbw3.out
    . have hkb':k=b.size:=by omega
      subst hkb';have hc:Iq (a.size:Int) (b.size:Int)≠0:=by rw[Ne,Dn];omega
      have hab:a≠b:=by rintro rfl;omega
      obtain⟨C,hC⟩: ∃C,Iq (a.size:Int) (b.size:Int)=C:=⟨_,rfl⟩;have cN:=fun w=>Fz (a.size:Int) (b.size:Int) w;rw[hC]at cN hc;have HN:=qz cN;have Hc:Hid (C=0 ↔ a=b):=⟨fun e=>absurd e hc,fun e=>absurd e hab⟩;clear ht hab hc hC cN;go_wp2_with (fail);(with_reducible refine(HN.out _).mono ?_);rintro e w' ⟨rfl,rfl⟩;go_wp2;go_ret;exact Jz.of Hc.out hbw.out
  . have hka':k=a.size:=by omega
    subst hka';obtain⟨C,hC⟩: ∃C,Iq (a.size:Int) (b.size:Int)=C:=⟨_,rfl⟩;have cN:=fun w=>Fz (a.size:Int) (b.size:Int) w;rw[hC]at cN;have HN:=qz cN;have Hc:Hid (C=0 ↔ a=b):=by
     show _ ↔ _;rw[<-hC,Dn];constructor
     . intro h;have hs:a.size=b.size:=by omega
       have:=ht.out;rw[hs,List.take_of_length_le (by rw[Array.length_toList];exact Nat.le_of_eq hs),List.take_of_length_le (by rw[Array.length_toList];exact Nat.le_refl _)]at this;exact ByteArray.ext (Array.ext' this)
     . rintro rfl;rfl
    clear ht hC cN;go_wp2_with (fail);(with_reducible refine(HN.out _).mono ?_);rintro e w' ⟨rfl,rfl⟩;go_wp2;go_ret;exact Jz.of Hc.out hbw.out
def Az (p:Prop) (w:World) (e:Ending) (w':World):Prop:= ∃c:Int,e=.returned (.int .i64 c)/\(c=0 ↔ p)/\Below w.heap.size w w'
theorem Az.of {p:Prop} {w w':World} {c:Int} (h:c=0 ↔ p) (hb:Below w.heap.size w w'):Az p w (.returned (.int .i64 c)) w':=⟨c,rfl,h,hb⟩
abbrev Ag9 (k:Int) (b:Bool) (n:Int) (t:ByteArray) (x y:Value):Obj:=.cells #[.int .i64 k,.bool b,.int .i64 n,.string t,x,y] 37
theorem B6 (w:World) (o o':Obj):Below w.heap.size w ((w.alloc o).alloc o'):=((Below.refl _ _).alloc (Nat.le_refl _) _).alloc (by simp) _
theorem Ajw (k k':Int) (b b':Bool) (n n':Int) (t t':ByteArray) (x y x' y':Value) (w:World) (h:k≠k') (p:Prop) (hp: ¬p):
 Calls Tryz.prog 50 #[.agg #[.int .i64 k,.bool b,.int .i64 n,.string t,x,y],.agg #[.int .i64 k',.bool b',.int .i64 n',.string t',x',y']] w (Az p w):=by
 have h1:(k==k')=false:=by simpa using h
 have h2:(k != k')=true:=by simpa using h
 obtain⟨C,hC⟩: ∃C,Iq k k'=C:=⟨_,rfl⟩;have cN:=fun w=>Fz k k' w;rw[hC]at cN;have HN:=qz cN;have Hc:Hid (C=0 ↔ p):=by
  show _ ↔ _;rw[<-hC,Dn];exact⟨fun e=>absurd e h,fun e=>absurd e hp⟩
 clear cN hC h hp;go_enter Tryz.func50,Tryz.ntmps50;go_wp2_with (fail);(with_reducible refine(HN.out _).mono ?_);rintro e w' ⟨rfl,rfl⟩;go_wp2;go_ret;exact Az.of Hc.out (B6 _ _ _)
theorem Ajv (b b':Bool) (n n':Int) (t t':ByteArray) (x y x' y':Value) (w:World) (p:Prop) (hp:b=b' ↔ p):
 Calls Tryz.prog 50 #[.agg #[.int .i64 2,.bool b,.int .i64 n,.string t,x,y],.agg #[.int .i64 2,.bool b',.int .i64 n',.string t',x',y']] w (Az p w):=by
 cases b<;>cases b'
 . have Hp:Hid p:=hp.1 rfl;clear hp;go_enter Tryz.func50,Tryz.ntmps50;go_wp2;go_ret;exact Az.of ⟨fun _=>Hp.out,fun _=>rfl⟩ (B6 _ _ _)
 . have Hp:Hid (¬p):=fun h=>by cases hp.2 h
   clear hp;go_enter Tryz.func50,Tryz.ntmps50;go_wp2;go_ret;exact Az.of (c:= -1) ⟨fun h=>absurd h (by decide),fun h=>absurd h Hp.out⟩ (B6 _ _ _)
 . have Hp:Hid (¬p):=fun h=>by cases hp.2 h
   clear hp;go_enter Tryz.func50,Tryz.ntmps50;go_wp2;go_ret;exact Az.of (c:=1) ⟨fun h=>absurd h (by decide),fun h=>absurd h Hp.out⟩ (B6 _ _ _)
 . have Hp:Hid p:=hp.1 rfl;clear hp;go_enter Tryz.func50,Tryz.ntmps50;go_wp2;go_ret;exact Az.of ⟨fun _=>Hp.out,fun _=>rfl⟩ (B6 _ _ _)
theorem Amb (b b':Bool) (n n':Int) (t t':ByteArray) (x y x' y':Value) (w:World) (p:Prop) (hp:n=n' ↔ p):
 Calls Tryz.prog 50 #[.agg #[.int .i64 3,.bool b,.int .i64 n,.string t,x,y],.agg #[.int .i64 3,.bool b',.int .i64 n',.string t',x',y']] w (Az p w):=by
 obtain⟨C,hC⟩: ∃C,Iq n n'=C:=⟨_,rfl⟩;have cN:=fun w=>Fz n n' w;rw[hC]at cN;have HN:=qz cN;have Hc:Hid (C=0 ↔ p):=by
  show _ ↔ _;rw[<-hC,Dn];exact hp
 clear cN hC hp;go_enter Tryz.func50,Tryz.ntmps50;go_wp2_with (fail);(with_reducible refine(HN.out _).mono ?_);rintro e w' ⟨rfl,rfl⟩;go_wp2;go_ret;exact Az.of Hc.out (B6 _ _ _)
theorem Ajx (b b':Bool) (n n':Int) (t t':ByteArray) (x y x' y':Value) (w:World) (p:Prop) (h1:t.size<=1000000000) (h2:t'.size<=1000000000) (hp:t=t' ↔ p):
 Calls Tryz.prog 50 #[.agg #[.int .i64 4,.bool b,.int .i64 n,.string t,x,y],.agg #[.int .i64 4,.bool b',.int .i64 n',.string t',x',y']] w (Az p w):=by
 have HN:=qz (fun w=>Si t t' w h1 h2);have Hp:=qz hp;clear hp;go_enter Tryz.func50,Tryz.ntmps50;go_wp2_with (fail);(with_reducible refine(HN.out _).mono ?_);rintro e w' ⟨c,rfl,hc,hb⟩;have Hc:=qz hc;clear hc;go_wp2;go_ret;exact Az.of (Hc.out.trans Hp.out) ((B6 _ _ _).trans (hb.mono (by simp;omega)))
theorem Jh: ∀{l l':List Val},Lc l l'=true ↔ l.length=l'.length/\ ∀(j:Nat) x y,l[j]? =some x->l'[j]? =some y->Dj x y=true
 | [], []=>by simp[Lc]
 | [],_::_=>by simp[Lc]
 |_::_, []=>by simp[Lc]
 |a::r,b::s=>by
  simp only[Lc,Bool.and_eq_true,Jh (l:=r) (l':=s),List.length_cons,Nat.add_right_cancel_iff];constructor
  . rintro⟨h1,h2,h3⟩;refine⟨h2,fun j x y e1 e2=> ?_⟩
    cases j with
    |zero=>simp only[List.getElem?_cons_zero,Option.some.injEq]at e1 e2;rw[<-e1,<-e2];exact h1
    |succ j=>simp only[List.getElem?_cons_succ]at e1 e2;exact h3 j x y e1 e2
  . rintro⟨h2,h3⟩;exact⟨h3 0 a b rfl rfl,h2,fun j x y e1 e2=>h3 (j+1) x y (by simpa using e1) (by simpa using e2)⟩
theorem G6: ∀{l l':List (ByteArray×Val)},Km l l'=true ↔ l.length=l'.length/\ ∀(j:Nat) x y,l[j]? =some x->l'[j]? =some y->Nm x y=true
 | [], []=>by simp[Km]
 | [],_::_=>by simp[Km]
 |_::_, []=>by simp[Km]
 |a::r,b::s=>by
  simp only[Km,Bool.and_eq_true,G6 (l:=r) (l':=s),List.length_cons,Nat.add_right_cancel_iff];constructor
  . rintro⟨h1,h2,h3⟩;refine⟨h2,fun j x y e1 e2=> ?_⟩
    cases j with
    |zero=>simp only[List.getElem?_cons_zero,Option.some.injEq]at e1 e2;rw[<-e1,<-e2];exact h1
    |succ j=>simp only[List.getElem?_cons_succ]at e1 e2;exact h3 j x y e1 e2
  . rintro⟨h2,h3⟩;exact⟨h3 0 a b rfl rfl,h2,fun j x y e1 e2=>h3 (j+1) x y (by simpa using e1) (by simpa using e2)⟩
def Ajk (a:Val):Prop:= ∀(b:Val) (cs cs':List Value) (w:World),Ac w w.heap.size a cs->Ac w w.heap.size b cs'->a.bulk<=100000000->b.bulk<=100000000->
    Calls Tryz.prog 50 #[.agg cs.toArray,.agg cs'.toArray] w (Az (Dj a b=true) w)
theorem Amd (k:Int) (h2:k≠2) (h3:k≠3) (h4:k≠4) (h5:k≠5) (h6:k≠6) (b b':Bool) (n n':Int) (t t':ByteArray) (x y x' y':Value) (w:World) (p:Prop) (hp:p):
 Calls Tryz.prog 50 #[.agg #[.int .i64 k,.bool b,.int .i64 n,.string t,x,y],.agg #[.int .i64 k,.bool b',.int .i64 n',.string t',x',y']] w (Az p w):=by
 have Hp:=qz hp;have e2:(k==2)=false:=by simpa using h2
 have e3:(k==3)=false:=by simpa using h3
 have e4:(k==4)=false:=by simpa using h4
 have e5:(k==5)=false:=by simpa using h5
 have e6:(k==6)=false:=by simpa using h6
 clear hp;go_enter Tryz.func50,Tryz.ntmps50;go_wp2;go_ret;exact Az.of ⟨fun _=>Hp.out,fun _=>rfl⟩ (B6 _ _ _)
theorem Vj (a b:Int):Lib.compareInt a b=Iq a b:=by
 unfold Lib.compareInt Iq;rfl
theorem Kp: ∀a b:List UInt8,Lib.compareBytes a b=0 ↔ a=b
 | [], []=>by simp[Lib.compareBytes]
 | [],_::_=>by simp[Lib.compareBytes]
 |_::_, []=>by simp[Lib.compareBytes]
 |a::x,b::y=>by
  have e1:Lib.compareBytes (a::x) (b::y)=if a<b then -1 else if b<a then 1 else Lib.compareBytes x y:=rfl;rw[e1]
  split
  . rename_i h;simp only[List.cons.injEq];exact⟨fun e=>absurd e (by decide),fun e=>by rw[e.1]at h;exact absurd h (UInt8.lt_irrefl _)⟩
  . split
    . rename_i h;simp only[List.cons.injEq];exact⟨fun e=>absurd e (by decide),fun e=>by rw[e.1]at h;exact absurd h (UInt8.lt_irrefl _)⟩
    . rename_i h1 h2;rw[Kp x y,List.cons.injEq];have:a=b:=UInt8.le_antisymm (UInt8.not_lt.1 h2) (UInt8.not_lt.1 h1);simp[this]
theorem U4 (a b:ByteArray) (w:World):Calls Tryz.prog 178 #[.string a,.string b] w fun e w'=> ∃c:Int,e=.returned (.int .i64 c)/\(c=0 ↔ a=b)/\w'=w:=by
 refine(Tryz.strings_Compare a b w).mono ?_;rintro e w' ⟨rfl,rfl⟩;refine⟨_,rfl, ?_,rfl⟩;rw[Kp];exact⟨fun h=>ByteArray.ext (Array.ext' h),fun h=>by rw[h]⟩
theorem T7 (a b:Int) (w:World):Calls Tryz.prog 222 #[.int .i64 a,.int .i64 b] w fun e w'=>e=.returned (.int .i64 (Iq a b))/\w'=w:=by
 refine(Tryz.cmp_Compare_int a b w).mono ?_;rintro e w' ⟨rfl,rfl⟩;rw[Vj];exact⟨rfl,rfl⟩
theorem Um (a:Int) (w:World):Calls Tryz.prog 219 #[.int .i64 a] w fun e w'=>e=.returned (.bool false)/\w'=w:=by
 go_enter Tryz.func219,Tryz.ntmps219;go_wp2;go_ret;exact⟨rfl,rfl⟩
theorem Ul (a:Int) (w:World):Calls Tryz.prog 220 #[.int .i64 a] w fun e w'=>e=.returned (.bool false)/\w'=w:=by
 go_enter Tryz.func220,Tryz.ntmps220;go_wp2;go_ret;exact⟨rfl,rfl⟩
theorem Aer (a b:Int) (w:World):Calls Tryz.prog 175 #[.int .i64 a,.int .i64 b] w fun e w'=>e=.returned (.int .i64 (Iq a b))/\w'=w:=by
 have HA:=qz (Um a w);have HB:=qz (Um b w);unfold Iq;by_cases h1:a<b
 . rw[if_pos h1];go_enter Tryz.func175,Tryz.ntmps175;go_wp2_with (go_at_call 219;first|(with_reducible refine(HA.out).mono ?_;rintro e w' ⟨rfl,rfl⟩)|(with_reducible refine(HB.out).mono ?_;rintro e w' ⟨rfl,rfl⟩));go_ret;exact⟨rfl,rfl⟩
 rw[if_neg h1];by_cases h2:b<a
 . rw[if_pos h2];go_enter Tryz.func175,Tryz.ntmps175;go_wp2_with (go_at_call 219;first|(with_reducible refine(HA.out).mono ?_;rintro e w' ⟨rfl,rfl⟩)|(with_reducible refine(HB.out).mono ?_;rintro e w' ⟨rfl,rfl⟩));go_ret;exact⟨rfl,rfl⟩
 . rw[if_neg h2];go_enter Tryz.func175,Tryz.ntmps175;go_wp2_with (go_at_call 219;first|(with_reducible refine(HA.out).mono ?_;rintro e w' ⟨rfl,rfl⟩)|(with_reducible refine(HB.out).mono ?_;rintro e w' ⟨rfl,rfl⟩));go_ret;exact⟨rfl,rfl⟩
theorem Uc (a b:Int) (w:World):Calls Tryz.prog 177 #[.int .i64 a,.int .i64 b] w fun e w'=>e=.returned (.int .i64 (Iq a b))/\w'=w:=by
 have HA:=qz (Ul a w);have HB:=qz (Ul b w);unfold Iq;by_cases h1:a<b
 . rw[if_pos h1];go_enter Tryz.func177,Tryz.ntmps177;go_wp2_with (go_at_call 220;first|(with_reducible refine(HA.out).mono ?_;rintro e w' ⟨rfl,rfl⟩)|(with_reducible refine(HB.out).mono ?_;rintro e w' ⟨rfl,rfl⟩));go_ret;exact⟨rfl,rfl⟩
 rw[if_neg h1];by_cases h2:b<a
 . rw[if_pos h2];go_enter Tryz.func177,Tryz.ntmps177;go_wp2_with (go_at_call 220;first|(with_reducible refine(HA.out).mono ?_;rintro e w' ⟨rfl,rfl⟩)|(with_reducible refine(HB.out).mono ?_;rintro e w' ⟨rfl,rfl⟩));go_ret;exact⟨rfl,rfl⟩
 . rw[if_neg h2];go_enter Tryz.func177,Tryz.ntmps177;go_wp2_with (go_at_call 220;first|(with_reducible refine(HA.out).mono ?_;rintro e w' ⟨rfl,rfl⟩)|(with_reducible refine(HB.out).mono ?_;rintro e w' ⟨rfl,rfl⟩));go_ret;exact⟨rfl,rfl⟩
theorem Afh (b:Bool) (w:World):Calls Tryz.prog 176 #[.bool b] w fun e w'=>e=.returned (.int .i64 (if b then 1 else 0))/\w'=w:=by
 cases b
 all_goals
  go_enter Tryz.func176,Tryz.ntmps176;go_wp2;go_ret;exact⟨rfl,rfl⟩
end Go.Proofs.YtkmcjfkokoidcaaGreatDoor
