/- Parts: parse.reader: its world, and its small functions: wrong, skip, comes. Condition: a text of at most 10^9 bytes. -/
import Derived.Deep.LoopGhost
import Derived.Test.YtmglfdckpjegdaaGreatDoorKMu4
import Derived.Test.YtmglfdckpjegdaaGreatDoorKMu5
set_option maxHeartbeats 20000000
namespace Go.Proofs.YtmglfdckpjegdaaGreatDoor
open Go.RowKit
inductive Rd (α:Type) where
 |ok (a:α) (q:Nat)
 |bad (e:Int) (q:Nat)
def H9 (c:UInt8):Bool:=c==9||c==10||c==13||c==32
def blanks:List UInt8->Nat
 | []=>0
 |c::r=>if H9 c=true then blanks r+1 else 0
def Ay (s:List UInt8) (p:Nat):Nat:=p+blanks (s.drop p)
theorem Ya: ∀l:List UInt8,blanks l<=l.length
 | []=>Nat.le_refl _
 |c::r=>by
  unfold blanks
  split
  . have:=Ya r;simp only[List.length_cons];omega
  . exact Nat.zero_le _
theorem Dx (s:List UInt8) (p:Nat):p<=Ay s p:=Nat.le_add_right _ _
theorem Gr {s:List UInt8} {p:Nat} (h:p<=s.length):Ay s p<=s.length:=by
 have:=Ya (s.drop p);rw[List.length_drop]at this;unfold Ay;omega
theorem Ks {s:List UInt8} {p:Nat} {c:UInt8} (h:s[p]? =some c):s.drop p=c::s.drop (p+1):=by
 obtain⟨hlt,rfl⟩:=List.getElem?_eq_some_iff.1 h;exact List.drop_eq_getElem_cons hlt
theorem Zi {s:List UInt8} {p:Nat} {c:UInt8} (h:s[p]? =some c) (hb:H9 c=true):Ay s p=Ay s (p+1):=by
 unfold Ay;rw[Ks h,blanks,if_pos hb];omega
theorem Fg {s:List UInt8} {p:Nat} {c:UInt8} (h:s[p]? =some c) (hb:H9 c=false):Ay s p=p:=by
 unfold Ay;rw[Ks h,blanks,if_neg (by rw[hb];decide)];rfl
theorem Wa {s:List UInt8} {p:Nat} (h:s.length<=p):Ay s p=p:=by
 unfold Ay;rw[List.drop_eq_nil_of_le h];rfl
theorem Aor (s:List UInt8) (p:Nat): ∀c,s[Ay s p]? =some c->H9 c=false:=by
 unfold Ay;have key: ∀(l:List UInt8) c,l[blanks l]? =some c->H9 c=false:=by
  intro l
  induction l with
  |nil=>intro c h;simp at h
  |cons x r ih=>
   intro c h;unfold blanks at h
   split at h
   . rename_i hb;rw[List.getElem?_cons_succ]at h;exact ih c h
   . rename_i hb;simp only[List.getElem?_cons_zero,Option.some.injEq]at h;subst h;simpa using hb
 intro c h;exact key (s.drop p) c (by rw[List.getElem?_drop];exact h)
theorem Ff (s:List UInt8) (p:Nat):Ay s (Ay s p)=Ay s p:=by
 cases e:s[Ay s p]? with
 |none=>exact Wa (by simpa using e)
 |some c=>exact Fg e (Aor s p c e)
def E3 (c:UInt8):Bool:=decide (48<=c.toNat/\c.toNat<=57)
def Sh:List UInt8->Nat
 | []=>0
 |c::r=>if E3 c=true then Sh r+1 else 0
theorem Ahg: ∀l:List UInt8,Sh l<=l.length
 | []=>Nat.le_refl _
 |c::r=>by
  unfold Sh
  split
  . have:=Ahg r;simp only[List.length_cons];omega
  . exact Nat.zero_le _
def Dg (s:List UInt8) (p:Nat):Nat:=p+Sh (s.drop p)
theorem Yk (s:List UInt8) (p:Nat):p<=Dg s p:=Nat.le_add_right _ _
theorem Yl {s:List UInt8} {p:Nat} (h:p<=s.length):Dg s p<=s.length:=by
 have:=Ahg (s.drop p);rw[List.length_drop]at this;unfold Dg;omega
theorem Acg {s:List UInt8} {p:Nat} {c:UInt8} (h:s[p]? =some c) (hb:E3 c=true):Dg s p=Dg s (p+1):=by
 unfold Dg;rw[Ks h,Sh,if_pos hb];omega
theorem Ach {s:List UInt8} {p:Nat} {c:UInt8} (h:s[p]? =some c) (hb:E3 c=false):Dg s p=p:=by
 unfold Dg;rw[Ks h,Sh,if_neg (by rw[hb];decide)];rfl
theorem Afh {s:List UInt8} {p:Nat} (h:s.length<=p):Dg s p=p:=by
 unfold Dg;rw[List.drop_eq_nil_of_le h];rfl
theorem U5 (s:List UInt8) (p:Nat): ∀i c,p<=i->i<Dg s p->s[i]? =some c->E3 c=true:=by
 have key: ∀(l:List UInt8) i c,i<Sh l->l[i]? =some c->E3 c=true:=by
  intro l
  induction l with
  |nil=>intro i c h;simp[Sh]at h
  |cons x r ih=>
   intro i c h hc;unfold Sh at h
   split at h
   . rename_i hb
     cases i with
     |zero=>simp only[List.getElem?_cons_zero,Option.some.injEq]at hc;subst hc;exact hb
     |succ i=>rw[List.getElem?_cons_succ]at hc;exact ih i c (by omega) hc
   . omega
 intro i c h1 h2 hc;unfold Dg at h2;exact key (s.drop p) (i - p) c (by omega) (by rw[List.getElem?_drop,show p+(i - p)=i from by omega];exact hc)
def Kd (l:List UInt8):Nat:=l.foldl (fun a c=>a*10+(c.toNat - 48)) 0
def Ah3 (neg:Bool) (m p q:Nat):Rd Int:=
 if neg=true then(if m=0\/9223372036854775808<m then .bad 7 p else .ok (-(m:Int)) q)else if 9223372036854775807<m then .bad 7 p else .ok (m:Int) q
def Ps (s:List UInt8) (p f:Nat):Rd Int:=
 if Dg s f=f then .bad 4 f
 else if s[f]? =some 48/\f+1<Dg s f then .bad 4 (f+1)
 else Ah3 (decide (s[p]? =some 45)) (Kd ((s.drop f).take (Dg s f - f))) p (Dg s f)
def Eb (s:List UInt8) (p:Nat):Rd Int:=Ps s p (if s[p]? =some 45 then p+1 else p)
def Xh (c:UInt8):Option Nat:=
 if 48<=c.toNat/\c.toNat<=57 then some (c.toNat - 48)else if 97<=c.toNat/\c.toNat<=102 then some (c.toNat - 87)else if 65<=c.toNat/\c.toNat<=70 then some (c.toNat - 55)else none
def Oi:List UInt8->Nat->Nat->Option Nat
 |_,0,n=>some n
 | [],_+1,_=>none
 |c::l,k+1,n=>match Xh c with
  |none=>none
  |some d=>Oi l k (16*n+d)
def Iq (l:List UInt8):Option Nat:=if l.length<6\/l[0]? ≠some 92\/l[1]? ≠some 117 then none else Oi (l.drop 2) 4 0
def Ms (c:UInt8):Option Nat:=
 if c=34 then some 34 else if c=92 then some 92 else if c=47 then some 47 else if c=98 then some 8 else if c=102 then some 12 else if c=110 then some 10 else if c=114 then some 13 else if c=116 then some 9 else none
def Lb (r:Nat) (l:List UInt8):Rd Nat:=
 if r<55296\/57344<=r then .ok r 6
 else if 56320<=r then .bad 3 0
 else match Iq l with
  |none=> .bad 3 0
  |some m=>if m<56320\/57344<=m then .bad 3 0 else .ok (65536+1024*(r - 55296)+(m - 56320)) 12
def Xj (l:List UInt8):Rd Nat:=match l[1]? with
 |none=> .bad 4 0
 |some c=>match Ms c with
  |none=> .bad 4 0
  |some r=> .ok r 2
def Md (l:List UInt8):Rd Nat:=match Iq l with
 |some r=>Lb r (l.drop 6)
 |none=>Xj l
theorem Ahj {c:UInt8} {d:Nat} (h:Xh c=some d):d<16:=by
 unfold Xh at h
 split at h
 . simp at h;omega
 split at h
 . simp at h;omega
 split at h
 . simp at h;omega
 . cases h
theorem Ahk: ∀(k:Nat) (l:List UInt8) (n r:Nat),Oi l k n=some r->r<(n+1)*16 ^ k
 |0,l,n,r,h=>by
  have:n=r:=by cases l<;>simpa[Oi]using h
  subst this;simp
 |k+1, [],n,r,h=>by simp[Oi]at h
 |k+1,c::l,n,r,h=>by
  simp only[Oi]at h
  cases hd:Xh c with
  |none=>rw[hd]at h;cases h
  |some d=>
   rw[hd]at h;have h1:=Ahk k l _ r h;have h2:=Ahj hd;have h3:(16*n+d+1)*16 ^ k<=((n+1)*16)*16 ^ k:=Nat.mul_le_mul_right _ (by omega);rw[Nat.pow_succ,Nat.mul_comm (16 ^ k) 16,<-Nat.mul_assoc];omega
theorem R6 {l:List UInt8} {r:Nat} (h:Iq l=some r):r<65536/\6<=l.length:=by
 unfold Iq at h
 split at h
 . cases h
 . rename_i hn;have:=Ahk 4 _ _ _ h;omega
theorem Ul {l:List UInt8} {r n:Nat} (h:Md l=.ok r n):r<=1114111/\ ¬(55296<=r/\r<57344)/\2<=n/\n<=l.length:=by
 unfold Md at h
 cases hu:Iq l with
 |some u=>
  rw[hu]at h;obtain⟨h1,h2⟩:=R6 hu;simp only[Lb]at h
  split at h
  . simp only[Rd.ok.injEq]at h;omega
  split at h
  . cases h
  cases hm:Iq (l.drop 6)with
  |none=>rw[hm]at h;cases h
  |some m=>
   rw[hm]at h;obtain⟨h3,h4⟩:=R6 hm;rw[List.length_drop]at h4;simp only at h
   split at h
   . cases h
   . simp only[Rd.ok.injEq]at h;omega
 |none=>
  rw[hu]at h;simp only[Xj]at h
  cases hc:l[1]? with
  |none=>rw[hc]at h;cases h
  |some c=>
   rw[hc]at h;have hl:=(List.getElem?_eq_some_iff.1 hc).1;simp only at h
   cases he:Ms c with
   |none=>rw[he]at h;cases h
   |some x=>
    rw[he]at h;simp only[Rd.ok.injEq]at h;have:x<=92:=by
     unfold Ms at he
     repeat' split at he
     all_goals first|(simp at he;omega)|cases he
    omega
def Ko:Nat->List UInt8->Nat->List UInt8->Rd (List UInt8)
 |0,_,i,_=> .bad 4 i
 |f+1,s,i,out=>match s[i]? with
  |none=> .bad 4 i
  |some c=>
   if c=34 then .ok out (i+1)
   else if c.toNat<32 then .bad 4 i
   else if c=92 then(match Md (s.drop i)with
    | .bad e _=> .bad e i
    | .ok r n=>Ko f s (i+n) (out++Lib.encodeRune (r:Int)))
   else if(Lib.decodeL (s.drop i)).1=65533/\(Lib.decodeL (s.drop i)).2=1 then .bad 3 i
   else Ko f s (i+(Lib.decodeL (s.drop i)).2) (out++(s.drop i).take (Lib.decodeL (s.drop i)).2)
def Fk (s:List UInt8) (p:Nat):Rd (List UInt8):=if s[p]? =some 34 then Ko (s.length - p) s (p+1) []else .bad 4 p
theorem Ak9 {s:List UInt8} {i:Nat} (h:i<s.length):i+(Lib.decodeL (s.drop i)).2<=s.length:=by
 have:=Lib.decodeL_le (s.drop i) (by intro e;have:=congrArg List.length e;rw[List.length_drop]at this;simp at this;omega);rw[List.length_drop]at this;omega
def Rd.within {α:Type} (p n:Nat):Rd α->Prop
 | .ok _ q=>p<q/\q<=n
 | .bad e q=>p<=q/\q<=n/\1<=e/\e<=18
theorem T1: ∀(f:Nat) (s:List UInt8) (i:Nat) (out:List UInt8),i<=s.length->(Ko f s i out).within i s.length
 |0,s,i,out,h=>⟨Nat.le_refl _,h,by decide,by decide⟩
 |f+1,s,i,out,h=>by
  unfold Ko
  cases hc:s[i]? with
  |none=>exact⟨Nat.le_refl _,h,by decide,by decide⟩
  |some c=>
   have hi:=(List.getElem?_eq_some_iff.1 hc).1;simp only;have step: ∀j o,i<j->j<=s.length->(Ko f s j o).within i s.length:=by
    intro j o h1 h2;have:=T1 f s j o h2
    cases hr:Ko f s j o with
    |ok a q=>rw[hr]at this;exact⟨by have:=this.1;omega,this.2⟩
    |bad e q=>rw[hr]at this;exact⟨by have:=this.1;omega,this.2⟩
   split
   . exact⟨by omega,by omega⟩
   split
   . exact⟨Nat.le_refl _,h,by decide,by decide⟩
   split
   . cases he:Md (s.drop i)with
     |bad e q=>
      refine⟨Nat.le_refl _,h, ?_⟩;unfold Md Lb Xj at he
      repeat' split at he
      all_goals first|(simp only[Rd.bad.injEq]at he;omega)|cases he
     |ok r n=>
      have:=Ul he;rw[List.length_drop]at this;exact step _ _ (by omega) (by omega)
   split
   . exact⟨Nat.le_refl _,h,by decide,by decide⟩
   . exact step _ _ (by have:=Lib.decodeL_width (s.drop i);omega) (Ak9 hi)
theorem J2 {s:List UInt8} {p:Nat} (h:p<=s.length):(Fk s p).within p s.length:=by
 unfold Fk
 split
 . rename_i hc;have hi:=(List.getElem?_eq_some_iff.1 hc).1;have:=T1 (s.length - p) s (p+1) [] (by omega)
   cases hr:Ko (s.length - p) s (p+1) []with
   |ok a q=>rw[hr]at this;exact⟨by have:=this.1;omega,this.2⟩
   |bad e q=>rw[hr]at this;exact⟨by have:=this.1;omega,this.2⟩
 . exact⟨Nat.le_refl _,h,by decide,by decide⟩
theorem Oe {s:List UInt8} {p:Nat} (h:p<s.length):(Eb s p).within p s.length:=by
 have hf:p<=(if s[p]? =some 45 then p+1 else p)/\(if s[p]? =some 45 then p+1 else p)<=s.length:=by split<;>omega
 have h1:=Yk s (if s[p]? =some 45 then p+1 else p);have h2:=Yl hf.2;unfold Eb;generalize (if s[p]? =some 45 then p+1 else p)=F at hf h1 h2 ⊢;unfold Ps Ah3;generalize Dg s F=Q at h1 h2 ⊢
 repeat' split
 all_goals(unfold Rd.within;simp only;omega)
theorem Dp {s:List UInt8} {p:Nat} {c:UInt8} (h:s[p]? =some c):p<s.length:=(List.getElem?_eq_some_iff.1 h).1
def Nx (e q:Int):Ending:=.panicked [{v:=.iface 128 (.agg #[.int .i64 e,.int .i64 q]),recovered:=false}]
def KV (R:Nat):List (Int×Value):=
 let f:=fun n:Nat=>Value.func (.func n) #[.pointer (some ⟨R,0,none⟩)] #[]
 [(110,f 133),(102,f 134),(116,f 135),(34,f 136),(91,f 137),(123,f 138),(45,f 139),
  (48,f 139),(49,f 139),(50,f 139),(51,f 139),(52,f 139),(53,f 139),(54,f 139),(55,f 139),(56,f 139),(57,f 139)]
def X7 (w:World) (R g:Nat) (s:ByteArray) (k:Nat):Prop:=Al w R 134 #[.string s,.int .i64 k,.map (some g)]
def B6 (R g:Nat) (s:ByteArray) (k':Nat) (w w':World):Prop:=w.grownBy w' (some R)/\X7 w' R g s k'
theorem B4 {w w1 w2:World} {r:Option Nat} (h:w.grownBy w1 r) (k:w1.grownBy w2 r):w.grownBy w2 r:=
 ⟨k.os.trans h.os,k.tape.trans h.tape,k.output.trans h.output,Nat.le_trans h.size k.size,fun i hi hn=>(k.block i (Nat.lt_of_lt_of_le hi h.size) hn).trans (h.block i hi hn)⟩
theorem Iu {w w1:World} {r:Option Nat} (h:w.grownBy w1 r) (n:Nat):w.grownBy (w1.drewN n) r:=⟨h.os,h.tape,h.output,h.size,h.block⟩
theorem Fo {w w1:World} {r:Option Nat} (h:w.grownBy w1 r) (o:Obj):w.grownBy (w1.alloc o) r:=
 ⟨h.os,h.tape,h.output,Nat.le_trans h.size (by simp),fun i hi hne=>(Below.heap_alloc w1 o i (Nat.lt_of_lt_of_le hi h.size)).trans (h.block i hi hne)⟩
theorem Mt {w w1 w2:World} {r:Option Nat} (h:w.grownBy w1 r) (k:Below w1.heap.size w1 w2):w.grownBy w2 r:=
 ⟨k.os.trans h.os,k.tape.trans h.tape,k.output.trans h.output,Nat.le_trans h.size k.size,fun i hi hn=>(k.block i (Nat.lt_of_lt_of_le hi h.size)).trans (h.block i hi hn)⟩
theorem G8 {w w1:World} {r:Nat} (h:w.grownBy w1 (some r)) (p:Addr) (hp:p.block=r\/w.heap.size<=p.block) (u:Value):w.grownBy (w1.setCell p u) (some r):=
 ⟨h.os,h.tape,h.output,by simpa[World.setCell]using h.size,fun i hi hne=>(Below.heap_setCell w1 p u i (by
   rintro rfl;rcases hp with hp|hp
   . exact hne (by rw[hp])
   . omega)).trans (h.block i hi hne)⟩
theorem Kg {w w1:World} (r:Option Nat) (k:Below w.heap.size w w1):w.grownBy w1 r:=⟨k.os,k.tape,k.output,k.size,fun i hi _=>k.block i hi⟩
theorem B6.refl {w:World} {R g k:Nat} {s:ByteArray} (h:X7 w R g s k):B6 R g s k w w:=⟨World.grownBy.refl _ _,h⟩
theorem B6.trans {w w1 w2:World} {R g k k':Nat} {s:ByteArray} (h:B6 R g s k w w1) (h':B6 R g s k' w1 w2):B6 R g s k' w w2:=⟨B4 h.1 h'.1,h'.2⟩
theorem B6.drewN {w w1:World} {R g k:Nat} {s:ByteArray} (h:B6 R g s k w w1) (n:Nat):B6 R g s k w (w1.drewN n):=⟨Iu h.1 n,h.2⟩
theorem B6.drew {w w1:World} {R g k:Nat} {s:ByteArray} (h:B6 R g s k w w1):B6 R g s k w w1.drew:=⟨⟨h.1.os,h.1.tape,h.1.output,h.1.size,h.1.block⟩,h.2⟩
theorem B6.alloc {w w1:World} {R g k:Nat} {s:ByteArray} (h:B6 R g s k w w1) (o:Obj):B6 R g s k w (w1.alloc o):=⟨Fo h.1 o,Al.alloc h.2 o⟩
theorem B6.below {w w1 w2:World} {R g k:Nat} {s:ByteArray} (h:B6 R g s k w w1) (hb:Below w1.heap.size w1 w2):B6 R g s k w w2:=⟨Mt h.1 hb,Al.below h.2 hb (Al.lt h.2)⟩
theorem B6.set {w w1:World} {R g k:Nat} {s:ByteArray} (h:B6 R g s k w w1) (k':Nat):B6 R g s k' w (w1.setCell ⟨R,1,none⟩ (.int .i64 k')):=
 ⟨G8 h.1 _ (.inl rfl) _,by have:=Al.set_ h.2 1 (.int .i64 k');exact this⟩
theorem X7.cells {w:World} {R g k:Nat} {s:ByteArray} (h:X7 w R g s k):w.cell? ⟨R,0,none⟩=some (.string s)/\w.cell? ⟨R,1,none⟩=some (.int .i64 k)/\w.cell? ⟨R,2,none⟩=some (.map (some g))/\w.frozen? ⟨R,1,none⟩=false/\R<w.heap.size:=
 ⟨Al.cell h 0,Al.cell h 1,Al.cell h 2,Al.frozen h 1,Al.lt h⟩
theorem E2 (s:ByteArray) {a:Nat} (h:a<s.size):s.data.toList[a]? =some s[a]:=by
 rw[List.getElem?_eq_getElem (by rw[<-Lib.size_eq];exact h)];rfl
theorem Em (c:UInt8):(c.toNat:Int)<256:=by have:=c.toNat_lt;omega
theorem Rg {c:UInt8} {n:Nat} (hn:n<256):((c.toNat:Int)==(n:Int))=(c==UInt8.ofNat n):=by
 rw[Bool.eq_iff_iff];simp only[beq_iff_eq];constructor
 . intro h;have:c.toNat=n:=by omega
   subst this;simp
 . rintro rfl;simp[UInt8.toNat_ofNat',Nat.mod_eq_of_lt hn]
theorem C8 (p:Value) (e q:Int) (w:World):Calls Tryz.prog 93 #[p,.int .i64 e,.int .i64 q] w fun r w'=>r=Nx e q/\w'=w:=by
 go_enter Tryz.func93,Tryz.ntmps93;go_wp2;exact⟨rfl,rfl,rfl⟩
set_option maxRecDepth 100000 in
theorem Ja (R g:Nat) (s:ByteArray) (k:Nat) (w:World) (hs:s.size<=1000000000) (hk:k<=s.size) (h:X7 w R g s k):
 Calls Tryz.prog 92 #[.pointer (some ⟨R,0,none⟩)] w fun e w'=>e=.returned (.tuple #[])/\B6 R g s (Ay s.data.toList k) w w':=by
 obtain⟨P,hP⟩: ∃P,Ay s.data.toList k=P:=⟨_,rfl⟩;have H0:=Lib.hid (And.intro hP (B6.refl h));rw[hP];clear h hP;go_enter Tryz.func92,Tryz.ntmps92;go_wp2
 go_loopg [] (s.size - k) (fun n wr=> ∃j:Nat,j<=s.size/\n=s.size - j/\Hid (Ay s.data.toList j=P/\B6 R g s j w wr))
 case atStart=>exact⟨k,hk,rfl,H0⟩
 case round=>
  obtain⟨j,hj,rfl,hh⟩:=hrel;clear H0;obtain⟨c0,c1,_,f1,hR⟩:=hh.out.2.2.cells;by_cases hlt:j<s.size
  . obtain⟨c,hc⟩: ∃c,s[j]=c:=⟨_,rfl⟩;have hg:s.data.toList[j]? =some c:=by rw[E2 s hlt,hc]
    have hcl:=Em c;have i1:(j:Int)<(s.size:Int):=by omega
    have i0:(0:Int)<=(j:Int):=by omega
    by_cases hbl:H9 c=true
    . have HN:Hid (Ay s.data.toList (j+1)=P/\ ∀nq,B6 R g s (j+1) w ((wr.drewN nq).setCell ⟨R,1,none⟩ (.int .i64 ((j+1:Nat):Int)))):=
       ⟨by rw[<-Zi hg hbl];exact hh.out.1,fun nq=>(hh.out.2.drewN nq).set _⟩
      unfold H9 at hbl;simp only[Bool.or_eq_true,beq_iff_eq]at hbl;clear hg hh;rcases hbl with((hbl|hbl)|hbl)|hbl
      all_goals
       subst hbl;go_wp2;go_quiet (fail);go_wp2;go_quiet (fail);go_wp2
       go_roundg (s.size - (j+1))
       case measure=>omega
       case rel=>exact⟨j+1,by omega,rfl,HN.out.1,HN.out.2 _⟩
    . have HN:Hid (j=P/\ ∀nq,B6 R g s j w (wr.drewN nq)):=⟨by rw[<-hh.out.1,Fg hg (by simpa using hbl)],fun nq=>hh.out.2.drewN nq⟩;unfold H9 at hbl;simp only[Bool.or_eq_true,beq_iff_eq,not_or]at hbl;obtain⟨⟨⟨h9,h10⟩,h13⟩,h32⟩:=hbl;have ne: ∀n:Nat,n<256->c≠UInt8.ofNat n->((c.toNat:Int)==(n:Int))=false:=fun n hn h=>by rw[Rg hn];simpa using h
      have e9:((c.toNat:Int)==9)=false:=ne 9 (by decide) h9;have e10:((c.toNat:Int)==10)=false:=ne 10 (by decide) h10;have e13:((c.toNat:Int)==13)=false:=ne 13 (by decide) h13;have e32:((c.toNat:Int)==32)=false:=ne 32 (by decide) h32;clear ne h9 h10 h13 h32 hg hh;go_wp2;go_quiet (fail);go_wp2;go_quiet (fail);go_wp2;refine bodyPost_ret (results_none rfl _ _ _) rfl ?_;refine⟨rfl, ?_⟩;rw[<-HN.out.1];exact HN.out.2 _
  . have HN:Hid (j=P/\ ∀nq,B6 R g s j w (wr.drewN nq)):=⟨by rw[<-hh.out.1,Wa (by rw[<-Lib.size_eq];omega)],fun nq=>hh.out.2.drewN nq⟩;have i1: ¬((j:Int)<(s.size:Int)):=by omega
    clear hh;go_wp2;go_quiet (fail);go_wp2
    go_end0
    refine⟨rfl, ?_⟩;rw[<-HN.out.1];exact HN.out.2 _
theorem Aq (s:ByteArray):s.data.toList.length=s.size:=by rw[Array.length_toList];rfl
theorem Ev {s:ByteArray} {k:Nat} (hk:k<=s.size):Ay s.data.toList k<=s.size:=by
 have:=Gr (s:=s.data.toList) (p:=k) (by rw[Aq];exact hk)
 rwa [Aq]at this
set_option maxRecDepth 100000 in
theorem Aii (R g:Nat) (s:ByteArray) (k:Nat) (c:UInt8) (w:World) (hs:s.size<=1000000000) (hk:k<=s.size) (h:X7 w R g s k) (hc:s.data.toList[Ay s.data.toList k]? =some c):
 Calls Tryz.prog 174 #[.pointer (some ⟨R,0,none⟩),.int .u8 c.toNat] w fun e w'=>e=.returned (.bool true)/\B6 R g s (Ay s.data.toList k+1) w w':=by
 have hS:=Ja R g s k w hs hk h;have hP:=Ev hk;generalize Ay s.data.toList k=P at hS hP hc ⊢;have hlt:P<s.size:=by have:=Dp hc;rwa [Aq]at this
 have hx:s[P]=c:=by rw[E2 s hlt]at hc;exact Option.some.inj hc
 have hcl:=Em c;have i0:(0:Int)<=(P:Int):=by omega
 have i1:(P:Int)<(s.size:Int):=by omega
 have e1:((P:Int)==(s.size:Int))=false:=by rw[beq_eq_false_iff_ne];omega
 clear hc h;have HS:=Lib.hid hS;clear hS;go_enter Tryz.func174,Tryz.ntmps174;go_wp2_with (fail);(with_reducible refine(HS.out).mono ?_);rintro e w1 ⟨rfl,h1⟩;obtain⟨c0,c1,_,f1,hR⟩:=h1.2.cells;have H1:=Lib.hid h1;clear h1;go_wp2;go_quiet (fail);go_wp2;go_ret;exact⟨rfl,(H1.out.drewN _).set _⟩
set_option maxRecDepth 100000 in
theorem Ak5 (R g:Nat) (s:ByteArray) (k:Nat) (c:UInt8) (w:World) (hs:s.size<=1000000000) (hk:k<=s.size) (h:X7 w R g s k) (hc: ¬(s.data.toList[Ay s.data.toList k]? =some c)):
 Calls Tryz.prog 174 #[.pointer (some ⟨R,0,none⟩),.int .u8 c.toNat] w fun e w'=>e=.returned (.bool false)/\B6 R g s (Ay s.data.toList k) w w':=by
 have hS:=Ja R g s k w hs hk h;have hP:=Ev hk;generalize Ay s.data.toList k=P at hS hP hc ⊢;have i0:(0:Int)<=(P:Int):=by omega
 by_cases hlt:P<s.size
 . obtain⟨x,hx⟩: ∃x,s[P]=x:=⟨_,rfl⟩;have hne:((x.toNat:Int)==(c.toNat:Int))=false:=by
    rw[E2 s hlt,hx]at hc;rw[beq_eq_false_iff_ne];intro e;exact hc (by rw[UInt8.toNat_inj.1 (by omega:x.toNat=c.toNat)])
   have hne2:((x.toNat:Int) != (c.toNat:Int))=true:=by unfold bne;rw[hne];rfl
   have hcl:=Em c;have hxl:=Em x;have i1:(P:Int)<(s.size:Int):=by omega
   have e1:((P:Int)==(s.size:Int))=false:=by rw[beq_eq_false_iff_ne];omega
   clear hc h;have HS:=Lib.hid hS;clear hS;go_enter Tryz.func174,Tryz.ntmps174;go_wp2_with (fail);(with_reducible refine(HS.out).mono ?_);rintro e w1 ⟨rfl,h1⟩;obtain⟨c0,c1,_,f1,hR⟩:=h1.2.cells;have H1:=Lib.hid h1;clear h1;go_wp2;go_quiet (fail);go_wp2;go_ret;exact⟨rfl,H1.out.drewN _⟩
 . obtain rfl:P=s.size:=by omega
   have e1:((s.size:Int)==(s.size:Int))=true:=by simp
   clear hc h;have HS:=Lib.hid hS;clear hS;go_enter Tryz.func174,Tryz.ntmps174;go_wp2_with (fail);(with_reducible refine(HS.out).mono ?_);rintro e w1 ⟨rfl,h1⟩;obtain⟨c0,c1,_,f1,hR⟩:=h1.2.cells;have H1:=Lib.hid h1;clear h1;go_wp2;go_quiet (fail);go_wp2;go_ret;exact⟨rfl,H1.out.drewN _⟩
theorem Ab9 (R g:Nat) (s:ByteArray) (k:Nat) (c:UInt8) {B:Bool} (w:World) (hs:s.size<=1000000000) (hk:k<=s.size) (h:X7 w R g s k) (hB:decide (s.data.toList[Ay s.data.toList k]? =some c)=B):
 Calls Tryz.prog 174 #[.pointer (some ⟨R,0,none⟩),.int .u8 c.toNat] w fun e w'=>e=.returned (.bool B)/\B6 R g s (if B=true then Ay s.data.toList k+1 else Ay s.data.toList k) w w':=by
 subst hB;by_cases hc:s.data.toList[Ay s.data.toList k]? =some c
 . rw[decide_eq_true hc,if_pos rfl];exact Aii R g s k c w hs hk h hc
 . rw[decide_eq_false hc,if_neg (by decide)];exact Ak5 R g s k c w hs hk h hc
end Go.Proofs.YtmglfdckpjegdaaGreatDoor
