/- Parts: Loads and stores of structs of many cells at once. Plain. No condition. -/
import Derived.Deep.MidRow
import Derived.Test.YtmglfdckpjegdaaGreatDoorKMu9
import Derived.Test.YtmglfdckpjegdaaGreatDoorKMu10
set_option maxHeartbeats 20000000
namespace Go.Proofs.YtmglfdckpjegdaaGreatDoor
open Go.RowKit
def Vo:List UInt8:= [34,92,47,98,102,110,114,116]
theorem Xt: ∀j:Fin 8,j.val≠2->Am ((Nt.getD j.val 0).toNat)= [92,Vo.getD j.val 0]:=by decide
def S2 (r:Nat) (j:Nat):Prop:= ∀i:Nat,i<j->i≠2->Nt.getD i 0≠(r:Int)
theorem S2.all {r:Nat} (h:S2 r 8):r≠34/\r≠92/\r≠8/\r≠12/\r≠10/\r≠13/\r≠9:=by
 have h0:=h 0 (by omega) (by omega);have h1:=h 1 (by omega) (by omega);have h3:=h 3 (by omega) (by omega);have h4:=h 4 (by omega) (by omega);have h5:=h 5 (by omega) (by omega);have h6:=h 6 (by omega) (by omega);have h7:=h 7 (by omega) (by omega);simp[Nt]at h0 h1 h3 h4 h5 h6 h7;omega
theorem Aa7 {r:Nat} (h:S2 r 8):Am r=if r<32 then [92,117,48,48,N1 (r / 16),N1 (r % 16)]else Lib.encodeRune r:=by
 obtain⟨a1,a2,a3,a4,a5,a6,a7⟩:=h.all;unfold Am;by_cases h32:r<32
 . rw[if_neg (by omega),if_pos h32];have:E9 (r:Int) Ce=none:=by
    simp only[Ce,E9]
    repeat rw[if_neg (by omega)]
   rw[this]
 . rw[if_pos (by omega),if_neg h32]
theorem S2.step {r j:Nat} (h:S2 r j) (hj:j=2\/Nt.getD j 0≠(r:Int)):S2 r (j+1):=by
 intro i hi h2;by_cases he:i=j
 . subst he;rcases hj with hj|hj
   . exact absurd hj h2
   . exact hj
 . exact h i (by omega) h2
def D3 (r:Nat):Prop:=r<=1114111/\ ¬(55296<=r/\r<57344)
theorem Abx (F:Option Int) (n:Nat) (least:Int):(El F n least).2=0\/((El F n least).1<=1114111/\ ¬(55296<=(El F n least).1/\(El F n least).1<57344)):=by
 unfold El
 split
 . simp
 . split
   . simp
   . rename_i h
     right
     simp only;omega
theorem No (rest:List UInt8) (n:Nat) (r0 least:Int):(Cs rest n r0 least).2=0\/((Cs rest n r0 least).1<=1114111/\ ¬(55296<=(Cs rest n r0 least).1/\(Cs rest n r0 least).1<57344)):=by
 unfold Cs
 split
 . exact .inl rfl
 . exact Abx _ _ _
theorem Rc (l:List UInt8):(I6 l).2=0\/((I6 l).1<=1114111/\ ¬(55296<=(I6 l).1/\(I6 l).1<57344)):=by
 cases l with
 |nil=>exact .inl rfl
 |cons c rest=>
  rw[Jd];by_cases h1:(c.toNat:Int)<128
  . rw[if_pos h1]
    right
    simp only;omega
  rw[if_neg h1]
  split
  . exact No _ _ _ _
  split
  . exact No _ _ _ _
  split
  . exact No _ _ _ _
  . exact .inl rfl
theorem Ew: ∀(n:Nat) (l:List UInt8) (p:Nat),∀x ∈ A8 n l p,D3 x.2
 |0,_,_,x,hx=>by simp[A8]at hx
 |n+1,l,p,x,hx=>by
  by_cases h:l= []
  . subst h;simp[A8]at hx
  . rcases O9 h n p with⟨_,e⟩|⟨m,r,hn,h1,_,e⟩
    . rw[e]at hx
      cases hx
    . rw[e]at hx;rcases List.mem_cons.1 hx with rfl|hx
      . have:=Rc l;rw[hn]at this;unfold D3;simp only at this ⊢;omega
      . exact Ew n _ _ x hx
theorem Ahy (d:Nat) (hd:d<16) (w:World):(Instr.slice 9 (.string ⟨#[48,49,50,51,52,53,54,55,56,57,97,98,99,100,101,102]⟩) (some (.int .i64 d)) (some (.int .i64 ((d:Int)+1))) none).run Tryz.prog w=.ok (.string ⟨#[N1 d]⟩) w:=by
 have:=Abf ⟨#[48,49,50,51,52,53,54,55,56,57,97,98,99,100,101,102]⟩ d (d+1) (by omega) (by show d+1<=16;omega) w;have e: ∀d:Fin 16,(⟨#[48,49,50,51,52,53,54,55,56,57,97,98,99,100,101,102]⟩:ByteArray).extract d.val (d.val+1)=⟨#[N1 d.val]⟩:=by decide
 rw[e ⟨d,hd⟩]at this;exact this
theorem Aow (d:Nat) (hd:d<8) (w:World):(Instr.slice 9 (.string ⟨#[34,92,47,98,102,110,114,116]⟩) (some (.int .i64 d)) (some (.int .i64 ((d:Int)+1))) none).run Tryz.prog w=.ok (.string ⟨#[Vo.getD d 0]⟩) w:=by
 have:=Abf ⟨#[34,92,47,98,102,110,114,116]⟩ d (d+1) (by omega) (by show d+1<=8;omega) w;have e: ∀d:Fin 8,(⟨#[34,92,47,98,102,110,114,116]⟩:ByteArray).extract d.val (d.val+1)=⟨#[Vo.getD d.val 0]⟩:=by decide
 rw[e ⟨d,hd⟩]at this;exact this
theorem Ha: ∀{l:List Val} {d:Int},Df l d=0-> ∀v ∈ l,Az v d=0
 |v::r,d,h,x,hx=>by
  simp only[Df]at h
  split at h
  . rename_i h0;rcases List.mem_cons.1 hx with rfl|hx
    . exact h0
    . exact Ha h x hx
  . rename_i h0;exact absurd h h0
theorem Jr: ∀{l:List (ByteArray×Val)} {last:Option ByteArray} {d:Int},Ds l last d=0-> ∀m ∈ l,Aw m.1=true/\Az m.2 d=0
 |(key,v)::r,last,d,h,x,hx=>by
  simp only[Ds]at h
  split at h
  . rename_i h0;rcases List.mem_cons.1 hx with rfl|hx
    . simp only[Qr]at h0
      split at h0
      . rename_i hv;refine⟨hv, ?_⟩
        cases last with
        |none=>exact h0
        |some q=>
         simp only at h0
         split at h0
         . cases h0
         . exact h0
      . cases h0
    . exact Jr h x hx
  . rename_i h0;exact absurd h h0
theorem Bv {k:Int} {b:Bool} {n:Int} {t:ByteArray} {l:List Val} {o:List (ByteArray×Val)} {d:Int} (h:Az (.mk k b n t l o) d=0):
 Fy k b n t l.length o.length=false/\d<=64/\Aw t=true/\Df l (d+1)=0/\Ds o none (d+1)=0:=by
 simp only[Az]at h
 split at h
 . cases h
 rename_i h1
 split at h
 . cases h
 split at h
 . rename_i hv
   split at h
   . rename_i h0;exact⟨by simpa using h1,by omega,hv,h0,h⟩
   . rename_i h0;exact absurd h h0
 . cases h
theorem Ahn {l:List Val} (h:Mz l) {x:Val} (hx:x ∈ l):Jg x:=by
 induction l with
 |nil=>cases hx
 |cons y r ih=>
  simp only[Mz]at h;rcases List.mem_cons.1 hx with rfl|hx
  . exact h.1
  . exact ih h.2 hx
theorem Uo {l:List (ByteArray×Val)} (h:Jf l) {x:ByteArray×Val} (hx:x ∈ l):Jg x.2:=by
 induction l with
 |nil=>cases hx
 |cons y r ih=>
  obtain⟨key,v⟩:=y;simp only[Jf,inP]at h;rcases List.mem_cons.1 hx with rfl|hx
  . exact h.1
  . exact ih h.2 hx
theorem Zy: ∀(a b:List Val) (f:Bool),Br (a++b) f=Br a f++Br b (f&&a.isEmpty)
 | [],b,f=>by simp[Br]
 |x::r,b,f=>by simp only[List.cons_append,Br,Zy r b false];simp
theorem Pc (l:List Val) (k:Nat) (f:Bool):(Br (l.take k) f).length<=(Br l f).length:=by
 have:=Zy (l.take k) (l.drop k) f;rw[List.take_append_drop]at this;rw[this];simp
theorem Zz: ∀(a b:List (ByteArray×Val)) (f:Bool),By (a++b) f=By a f++By b (f&&a.isEmpty)
 | [],b,f=>by simp[By]
 |x::r,b,f=>by simp only[List.cons_append,By,Zz r b false];simp
theorem Pd (l:List (ByteArray×Val)) (k:Nat) (f:Bool):(By (l.take k) f).length<=(By l f).length:=by
 have:=Zz (l.take k) (l.drop k) f;rw[List.take_append_drop]at this;rw[this];simp
theorem Nh (s:ByteArray):s.data.toList.length=s.size:=by rw[Array.length_toList];rfl
theorem Py (l:List UInt8):(⟨l.toArray⟩:ByteArray).size=l.length:=rfl
theorem Jo {r:Nat} (h:D3 r): ∀c ∈ Lib.encodeRune (r:Int),(r<128/\c.toNat=r)\/(128<=r/\128<=c.toNat):=by
 intro c hc;unfold D3 at h;unfold Lib.encodeRune at hc;obtain⟨z,hz,rfl⟩:=List.mem_map.1 hc;have key:(r<128/\z=r)\/(128<=r/\128<=z/\z<256):=by
  unfold Lib.encodeRuneZ at hz
  split at hz
  . simp at hz;omega
  split at hz
  . simp at hz;omega
  split at hz
  . simp at hz;omega
  split at hz
  . simp at hz;omega
  . omega
 have e:z.toNat.toUInt8.toNat=z.toNat:=by
  have:z.toNat<256:=by omega
  simp[Nat.toUInt8,UInt8.toNat_ofNat',Nat.mod_eq_of_lt this]
 rw[e];omega
theorem Ael {c:UInt8} (h:c.toNat<128) (rest:List UInt8):Lib.validD (c::rest)=Lib.validD rest:=by
 rw[Mo (by simp),D2];have e:Lib.decodeN (c::rest).length ((c::rest).getD 0 0).toNat ((c::rest).getD 1 0).toNat ((c::rest).getD 2 0).toNat ((c::rest).getD 3 0).toNat=(c.toNat,1):=by
  unfold Lib.decodeN;rw[if_pos (by simpa using h)];simp
 rw[e,if_neg (by simp only;omega)];rfl
theorem R8: ∀(a:List UInt8),(∀c ∈ a,c.toNat<128)-> ∀rest,Lib.validD (a++rest)=Lib.validD rest
 | [],_,rest=>rfl
 |c::a,h,rest=>by
  rw[List.cons_append,Ael (h c (by simp))];exact R8 a (fun x hx=>h x (by simp[hx])) rest
theorem J7 {z:Int} (h0:0<=z) (h1:z<256):(z.toNat.toUInt8).toNat=z.toNat:=by
 have:z.toNat<256:=by omega
 simp[Nat.toUInt8,UInt8.toNat_ofNat',Nat.mod_eq_of_lt this]
theorem Oa {l:List UInt8} {r n:Nat} (hne:l≠ []) (h:Lib.decodeL l=(r,n)) (hn:n≠1):Lib.validD l=Lib.validD (l.drop n):=by
 rw[Mo hne,h,if_neg (by simp only;omega)]
theorem Ag2 {r:Nat} (h:D3 r) (rest:List UInt8):Lib.validD (Lib.encodeRune (r:Int)++rest)=Lib.validD rest:=by
 unfold D3 at h;by_cases c1:r<128
 . refine R8 _ (fun c hc=> ?_) rest;have:=Jo (r:=r) (by unfold D3;exact h) c hc;omega
 unfold Lib.encodeRune;by_cases c2:r<2048
 . rw[Lib.encodeRuneZ_two (by omega) (by omega)];simp only[List.map_cons,List.map_nil,List.cons_append,List.nil_append];have a1:((192+(r:Int) / 64).toNat.toUInt8).toNat=192+r / 64:=by rw[J7 (by omega) (by omega)];omega
   have a2:((128+(r:Int) % 64).toNat.toUInt8).toNat=128+r % 64:=by rw[J7 (by omega) (by omega)];omega
   generalize (192+(r:Int) / 64).toNat.toUInt8=x1 at*
   generalize (128+(r:Int) % 64).toNat.toUInt8=x2 at*
   refine Oa (l:=x1::x2::rest) (r:=r) (n:=2) (by simp) ?_ (by decide);rw[D2];simp only[List.getD_cons_zero,List.getD_cons_succ,a1,a2,List.length_cons];unfold Lib.decodeN;rw[if_neg (by omega),if_pos (by omega),if_pos (by omega)];exact Prod.ext (by simp only;omega) rfl
 by_cases c3:r<65536
 . rw[Lib.encodeRuneZ_three (by omega)];simp only[List.map_cons,List.map_nil,List.cons_append,List.nil_append];have a1:((224+(r:Int) / 4096).toNat.toUInt8).toNat=224+r / 4096:=by rw[J7 (by omega) (by omega)];omega
   have a2:((128+(r:Int) / 64 % 64).toNat.toUInt8).toNat=128+r / 64 % 64:=by rw[J7 (by omega) (by omega)];omega
   have a3:((128+(r:Int) % 64).toNat.toUInt8).toNat=128+r % 64:=by rw[J7 (by omega) (by omega)];omega
   generalize (224+(r:Int) / 4096).toNat.toUInt8=x1 at*
   generalize (128+(r:Int) / 64 % 64).toNat.toUInt8=x2 at*
   generalize (128+(r:Int) % 64).toNat.toUInt8=x3 at*
   refine Oa (l:=x1::x2::x3::rest) (r:=r) (n:=3) (by simp) ?_ (by decide);rw[D2];simp only[List.getD_cons_zero,List.getD_cons_succ,a1,a2,a3,List.length_cons];unfold Lib.decodeN;have d1:r / 64 / 64=r / 4096:=by omega
   rw[if_neg (by omega),if_neg (by omega),if_pos (by omega),if_pos (by omega)];exact Prod.ext (by simp only;omega) rfl
 . rw[Lib.encodeRuneZ_four (by omega) (by omega)];simp only[List.map_cons,List.map_nil,List.cons_append,List.nil_append];have a1:((240+(r:Int) / 262144).toNat.toUInt8).toNat=240+r / 262144:=by rw[J7 (by omega) (by omega)];omega
   have a2:((128+(r:Int) / 4096 % 64).toNat.toUInt8).toNat=128+r / 4096 % 64:=by rw[J7 (by omega) (by omega)];omega
   have a3:((128+(r:Int) / 64 % 64).toNat.toUInt8).toNat=128+r / 64 % 64:=by rw[J7 (by omega) (by omega)];omega
   have a4:((128+(r:Int) % 64).toNat.toUInt8).toNat=128+r % 64:=by rw[J7 (by omega) (by omega)];omega
   generalize (240+(r:Int) / 262144).toNat.toUInt8=x0 at*
   generalize (128+(r:Int) / 4096 % 64).toNat.toUInt8=x1 at*
   generalize (128+(r:Int) / 64 % 64).toNat.toUInt8=x2 at*
   generalize (128+(r:Int) % 64).toNat.toUInt8=x3 at*
   refine Oa (l:=x0::x1::x2::x3::rest) (r:=r) (n:=4) (by simp) ?_ (by decide);rw[D2];simp only[List.getD_cons_zero,List.getD_cons_succ,a1,a2,a3,a4,List.length_cons];unfold Lib.decodeN;rw[if_neg (by omega),if_neg (by omega),if_neg (by omega),if_pos (by omega),if_pos (by omega)];exact Prod.ext (by simp only;omega) rfl
theorem Acd {r:Nat} (h:D3 r) (rest:List UInt8):Lib.decodeL (Lib.encodeRune (r:Int)++rest)=(r,(Lib.encodeRune (r:Int)).length):=by
 unfold D3 at h;by_cases c1:r<128
 . have e:Lib.encodeRune (r:Int)= [UInt8.ofNat r]:=by
    rw[Nw (by omega) (by omega)];simp
   have hn:(UInt8.ofNat r).toNat=r:=by simp[UInt8.toNat_ofNat'];omega
   rw[e,D2];show Lib.decodeN _ _ _ _ _=(r,1);unfold Lib.decodeN;simp only[List.cons_append,List.nil_append,List.getD_cons_zero,hn];rw[if_pos c1]
 unfold Lib.encodeRune;by_cases c2:r<2048
 . rw[Lib.encodeRuneZ_two (by omega) (by omega)];simp only[List.map_cons,List.map_nil,List.cons_append,List.nil_append,List.length_cons,List.length_nil];have a1:((192+(r:Int) / 64).toNat.toUInt8).toNat=192+r / 64:=by rw[J7 (by omega) (by omega)];omega
   have a2:((128+(r:Int) % 64).toNat.toUInt8).toNat=128+r % 64:=by rw[J7 (by omega) (by omega)];omega
   generalize (192+(r:Int) / 64).toNat.toUInt8=x1 at*
   generalize (128+(r:Int) % 64).toNat.toUInt8=x2 at*
   rw[D2];simp only[List.getD_cons_zero,List.getD_cons_succ,a1,a2,List.length_cons];unfold Lib.decodeN;rw[if_neg (by omega),if_pos (by omega),if_pos (by omega)];exact Prod.ext (by simp only;omega) rfl
 by_cases c3:r<65536
 . rw[Lib.encodeRuneZ_three (by omega)];simp only[List.map_cons,List.map_nil,List.cons_append,List.nil_append,List.length_cons,List.length_nil];have a1:((224+(r:Int) / 4096).toNat.toUInt8).toNat=224+r / 4096:=by rw[J7 (by omega) (by omega)];omega
   have a2:((128+(r:Int) / 64 % 64).toNat.toUInt8).toNat=128+r / 64 % 64:=by rw[J7 (by omega) (by omega)];omega
   have a3:((128+(r:Int) % 64).toNat.toUInt8).toNat=128+r % 64:=by rw[J7 (by omega) (by omega)];omega
   generalize (224+(r:Int) / 4096).toNat.toUInt8=x1 at*
   generalize (128+(r:Int) / 64 % 64).toNat.toUInt8=x2 at*
   generalize (128+(r:Int) % 64).toNat.toUInt8=x3 at*
   rw[D2];simp only[List.getD_cons_zero,List.getD_cons_succ,a1,a2,a3,List.length_cons];unfold Lib.decodeN;have d1:r / 64 / 64=r / 4096:=by omega
   rw[if_neg (by omega),if_neg (by omega),if_pos (by omega),if_pos (by omega)];exact Prod.ext (by simp only;omega) rfl
 . rw[Lib.encodeRuneZ_four (by omega) (by omega)];simp only[List.map_cons,List.map_nil,List.cons_append,List.nil_append,List.length_cons,List.length_nil];have a1:((240+(r:Int) / 262144).toNat.toUInt8).toNat=240+r / 262144:=by rw[J7 (by omega) (by omega)];omega
   have a2:((128+(r:Int) / 4096 % 64).toNat.toUInt8).toNat=128+r / 4096 % 64:=by rw[J7 (by omega) (by omega)];omega
   have a3:((128+(r:Int) / 64 % 64).toNat.toUInt8).toNat=128+r / 64 % 64:=by rw[J7 (by omega) (by omega)];omega
   have a4:((128+(r:Int) % 64).toNat.toUInt8).toNat=128+r % 64:=by rw[J7 (by omega) (by omega)];omega
   generalize (240+(r:Int) / 262144).toNat.toUInt8=x0 at*
   generalize (128+(r:Int) / 4096 % 64).toNat.toUInt8=x1 at*
   generalize (128+(r:Int) / 64 % 64).toNat.toUInt8=x2 at*
   generalize (128+(r:Int) % 64).toNat.toUInt8=x3 at*
   rw[D2];simp only[List.getD_cons_zero,List.getD_cons_succ,a1,a2,a3,a4,List.length_cons];unfold Lib.decodeN;rw[if_neg (by omega),if_neg (by omega),if_neg (by omega),if_pos (by omega),if_pos (by omega)];exact Prod.ext (by simp only;omega) rfl
theorem Yp (r:Int):Lib.encodeRune r≠ []:=by
 unfold Lib.encodeRune Lib.encodeRuneZ
 repeat' split
 all_goals simp
def Ah8 (c:UInt8):Nat:=if c.toNat<58 then c.toNat - 48 else c.toNat - 87
def Apd (c:UInt8):Nat:=if c.toNat=98 then 8 else if c.toNat=116 then 9 else if c.toNat=110 then 10 else if c.toNat=102 then 12 else if c.toNat=114 then 13 else c.toNat
def We (l:List UInt8):Nat×Nat:=
 if l.getD 0 0=92 then(if l.getD 1 0=117 then(Ah8 (l.getD 4 0)*16+Ah8 (l.getD 5 0),6)else(Apd (l.getD 1 0),2))else Lib.decodeL l
theorem Zv: ∀r:Fin 128,(r.val<32\/r.val=34\/r.val=92)->((Am r.val).getD 0 0=92/\(((Am r.val).length=2/\(Am r.val).getD 1 0≠117/\Apd ((Am r.val).getD 1 0)=r.val)\/
 ((Am r.val).length=6/\(Am r.val).getD 1 0=117/\Ah8 ((Am r.val).getD 4 0)*16+Ah8 ((Am r.val).getD 5 0)=r.val))):=by decide+kernel
theorem M8 {l x:List UInt8} {i:Nat} (h:i<l.length):(l++x).getD i 0=l.getD i 0:=by
 simp[List.getD,List.getElem?_append_left h]
theorem Zo {r:Nat} (h:D3 r) (x:List UInt8):We (Am r++x)=(r,(Am r).length):=by
 by_cases hp:32<=r/\r≠34/\r≠92
 . have e:Am r=Lib.encodeRune r:=by unfold Am;rw[if_pos hp]
   rw[e];unfold We;have h0:(Lib.encodeRune (r:Int)++x).getD 0 0≠92:=by
    have hb:=Jo h
    cases he:Lib.encodeRune (r:Int)with
    |nil=>exact absurd he (Yp r)
    |cons c y=>
     rw[he]at hb;have:=hb c (by simp);show c≠92;intro e';subst e';have e2:(92:UInt8).toNat=92:=rfl;omega
   rw[if_neg h0];exact Acd h x
 . have hr:r<128:=by omega
   obtain⟨h0,h1⟩:=Zv ⟨r,hr⟩ (by simp only;omega);simp only at h0 h1;unfold We;rcases h1 with⟨hl,h1,h2⟩|⟨hl,h1,h2⟩
   . rw[M8 (by omega),M8 (by omega),if_pos h0,if_neg h1,h2,hl]
   . rw[M8 (by omega),M8 (by omega),M8 (by omega),M8 (by omega),if_pos h0,if_pos h1,h2,hl]
theorem Xr {r r':Nat} (h:D3 r) (h':D3 r') {x x':List UInt8} (e:Am r++x=Am r'++x'):r=r'/\x=x':=by
 have a:=Zo h x;rw[e,Zo h' x']at a;have:r'=r:=congrArg Prod.fst a;subst this;exact⟨rfl,List.append_cancel_left e⟩
theorem Li {r:Nat} (h:D3 r): ∃c y,Am r=c::y/\c≠34:=by
 by_cases hp:32<=r/\r≠34/\r≠92
 . have e:Am r=Lib.encodeRune r:=by unfold Am;rw[if_pos hp]
   rw[e];have hb:=Jo h
   cases he:Lib.encodeRune (r:Int)with
   |nil=>exact absurd he (Yp r)
   |cons c y=>
    rw[he]at hb;have:=hb c (by simp);refine⟨c,y,rfl,fun e'=> ?_⟩;subst e';have e2:(34:UInt8).toNat=34:=rfl;omega
 . obtain⟨h0,h1⟩:=Zv ⟨r,by omega⟩ (by simp only;omega);simp only at h0 h1
   cases he:Am r with
   |nil=>rw[he]at h1;simp at h1
   |cons c y=>
    rw[he]at h0;have h0':c=92:=h0;exact⟨c,y,rfl,by rw[h0'];decide⟩
theorem O6: ∀(L L':List (Nat×Nat)),(∀x ∈ L,D3 x.2)->(∀x ∈ L',D3 x.2)-> ∀{x x':List UInt8},Af L++34::x=Af L'++34::x'->L.map (·.2)=L'.map (·.2)/\x=x'
 | [], [],_,_,x,x',e=>by
   have e':(34::x:List UInt8)=34::x':=e;exact⟨rfl,(List.cons.inj e').2⟩
 | [],b::L',_,h',x,x',e=>by
   obtain⟨c,y,hc,hn⟩:=Li (h' b (by simp));have e':(34::x:List UInt8)=(Am b.2++Af L')++34::x':=by
    have:Af (b::L')=Am b.2++Af L':=by simp[Af]
    rw[<-this];exact e
   rw[hc]at e';exact absurd (List.cons.inj e').1.symm hn
 |a::L, [],h,_,x,x',e=>by
  obtain⟨c,y,hc,hn⟩:=Li (h a (by simp));have e':(Am a.2++Af L)++34::x=(34::x':List UInt8):=by
   have:Af (a::L)=Am a.2++Af L:=by simp[Af]
   rw[<-this];exact e
  rw[hc]at e';exact absurd (List.cons.inj e').1 hn
 |a::L,b::L',h,h',x,x',e=>by
  have e1:Af (a::L)=Am a.2++Af L:=by simp[Af]
  have e2:Af (b::L')=Am b.2++Af L':=by simp[Af]
  rw[e1,e2,List.append_assoc,List.append_assoc]at e;obtain⟨h1,h2⟩:=Xr (h a (by simp)) (h' b (by simp)) e;obtain⟨h3,h4⟩:=O6 L L' (fun y hy=>h y (by simp[hy])) (fun y hy=>h' y (by simp[hy])) h2;exact⟨by rw[List.map_cons,List.map_cons,h1,h3],h4⟩
theorem N8: ∀(n:Nat) (l:List UInt8) (p:Nat),l.length<=n->Lib.validD l=true->(A8 n l p).flatMap (fun x=>Lib.encodeRune (x.2:Int))=l
 |0,l,p,h,_=>by
  have:l= []:=List.length_eq_zero_iff.1 (by omega);subst this;rfl
 |n+1,l,p,h,hv=>by
  by_cases hl:l= []
  . subst hl;simp[A8]
  . rw[Mo hl]at hv
    split at hv
    . cases hv
    rename_i hg;have hw:=Lib.decodeL_width l;have hle:=Lib.decodeL_le l hl;simp only[A8];rw[if_neg hl,if_neg hg,List.flatMap_cons,Lib.encode_decode l hl hg,N8 n _ _ (by rw[List.length_drop];omega) hv];exact List.take_append_drop _ _
theorem Aju {s s':ByteArray} (h:Aw s=true) (h':Aw s'=true) (e:(Ca s).map (·.2)=(Ca s').map (·.2)):s=s':=by
 have a:=N8 s.size s.data.toList 0 (by rw[Nh];exact Nat.le_refl _) h;have b:=N8 s'.size s'.data.toList 0 (by rw[Nh];exact Nat.le_refl _) h';have key: ∀L:List (Nat×Nat),L.flatMap (fun x=>Lib.encodeRune (x.2:Int))=(L.map (·.2)).flatMap (fun r=>Lib.encodeRune ((r:Nat):Int)):=by
  intro L
  induction L with
  |nil=>rfl
  |cons x L ih=>simp[List.flatMap_cons,ih]
 rw[key]at a b;have e':s.data.toList=s'.data.toList:=by
  rw[<-a,<-b];unfold Ca at e;rw[e]
 exact ByteArray.ext (Array.ext' e')
theorem Zm {s s':ByteArray} (h:Aw s=true) (h':Aw s'=true) {x x':List UInt8} (e:Bp s++x=Bp s'++x'):s=s'/\x=x':=by
 unfold Bp at e;rw[List.append_assoc,List.append_assoc]at e;have e':Af (Ca s)++34::x=Af (Ca s')++34::x':=(List.cons.inj e).2;obtain⟨h1,h2⟩:=O6 _ _ (Ew _ _ _) (Ew _ _ _) e';exact⟨Aju h h' h1,h2⟩
theorem T8 (r:Int):(Lib.encodeRune r).length<=4:=by
 unfold Lib.encodeRune Lib.encodeRuneZ
 repeat' split
 all_goals simp
set_option maxRecDepth 100000 in
theorem Q6 (s:ByteArray) (w:World) (hs:s.size<=1000000000) (hv:Aw s=true):
 Calls Tryz.prog 45 #[.string s] w fun e w'=>e=.returned (.tuple #[.string ⟨(Bp s).toArray⟩,.int .i64 0])/\Below w.heap.size w w':=by
 have cV:=Q7 s w hs;rw[hv]at cV;have cR:=Aaa s w hs;have hlr:(Ca s).length<=s.size:=Iy _ _ _;have hsc: ∀x ∈ Ca s,D3 x.2:=Ew _ _ _;unfold Bp;generalize Ca s=L at*
 obtain⟨HV,HR,HS⟩:=hid3 cV cR hsc;clear cV cR hsc hv;go_enter Tryz.func45,Tryz.ntmps45;go_wp2_with (fail);(with_reducible refine HV.out.mono ?_);rintro e w' ⟨rfl,rfl⟩;clear HV;go_wp2_with (fail);(with_reducible refine HR.out.mono ?_);rintro e w1 ⟨⟨v1,v2,rfl,hown⟩,hb1⟩;clear HR;obtain⟨la,lc,rfl,hcells⟩: ∃la lc,v1=.slice la L.length lc/\Hid (∀(k:Nat) (x:Nat×Nat),L[k]? =some x-> ∃g off,la=some ⟨g,off,none⟩/\g<w1.heap.size/\w1.cell? ⟨g,off+k,none⟩=some (.int .i64 x.2)):=by
  rcases hown.2 with⟨hv,hz⟩|⟨g,cap,cur,rfl,hbg,hg,hnc,hcm,hcs,htake⟩
  . have hL:L= []:=List.length_eq_zero_iff.1 hz;subst hL;exact⟨none,0,hv,fun k x hx=>by simp at hx⟩
  . refine⟨some ⟨g,0,none⟩,cap,rfl,fun k x hx=>⟨g,0,rfl,(Array.getElem?_eq_some_iff.1 hg).1, ?_⟩⟩;have:=hown.cells (g:=g) rfl k (.int .i64 x.2) (by simp[hx]);rw[Go.WideShapes.add_plain,Nat.zero_add]at this;rw[Nat.zero_add];exact this
 have hb1':=Lib.hid hb1;have H0:Hid ((⟨#[34]⟩:ByteArray).data.toList=34::Af (L.take 0)):=by show _=_;simp[Af]
 clear hown hb1;go_wp2_with (fail);go_loopw [4,8] (fun o i wr=> ∃(T:ByteArray) (k:Nat),o=.string T/\i=.int .i64 k/\k<=L.length/\Hid (T.data.toList=34::Af (L.take k))/\Hid (Below w1.heap.size w1 wr)) (fun _ i _=>L.length - (intOf i).toNat)
 case atStart=>exact⟨_,0,rfl,rfl,Nat.zero_le _,H0,Below.refl _ _⟩
 case round=>
  obtain⟨T,k,rfl,rfl,hk,hT,hbw⟩:=hrel;clear H0;obtain⟨wo,rfl⟩: ∃wo:World,wo=wr:=⟨_,rfl⟩;have hTs:T.size<=6*L.length+1:=by
   have h1:=congrArg List.length hT.out;have h2:=Jw (L.take k);have h3:(L.take k).length<=L.length:=by rw[List.length_take];omega
   have h4:T.data.toList.length=T.size:=by rw[Array.length_toList];rfl
   simp only[List.length_cons]at h1;omega
  by_cases hlt:k<L.length
  . obtain⟨⟨p,r⟩,hx⟩: ∃v,L[k]? =some v:=⟨_,List.getElem?_eq_getElem hlt⟩;obtain⟨g,off,rfl,hg,hc0⟩:=hcells.out k _ hx;have hc:wo.cell? ⟨g,off+k,none⟩=some (.int .i64 r):=(hbw.out.cell (p:=⟨g,off+k,none⟩) hg).trans hc0;have hsc:=HS.out _ (List.mem_of_getElem? hx);unfold D3 at hsc;simp only at hsc;obtain⟨hsc1,hsc2⟩:=hsc;have htk:L.take (k+1)=L.take k++ [(p,r)]:=by rw[List.take_add_one,hx];rfl
    have hsn:Hid (34::Af (L.take (k+1))=T.data.toList++Am r):=by
     show _=_;rw[htk,hT.out];simp[Af]
    have Hsc:=Lib.hid hsc2;have hB0:Hid (Below w1.heap.size w1 wo):=hbw;have hN0:Hid (S2 r 0):=fun i hi=>by omega
    clear hT htk hx hc0 hsc2 hbw;go_wp2_with (fail);go_loopw [10] (fun j wr=> ∃n:Nat,j=.int .i64 n/\n<=8/\Hid (S2 r n)/\Hid (Below w1.heap.size w1 wr)) (fun j _=>8 - (intOf j).toNat)
    case atStart=>exact⟨0,rfl,by omega,hN0,hB0⟩
    case round=>
     obtain⟨n,rfl,hn,hno,hbw⟩:=hrel;clear hN0 hB0;rcases(by omega:n=2\/(n≠2/\n<8)\/n=8)with rfl|⟨hn2,hn8⟩|rfl
     . have hno':=Lib.hid (hno.out.step (.inl rfl));clear hno hsn hc;go_wp2_with (fail);go_roundw
       case rel=>exact⟨2+1,rfl,by omega,hno',hbw⟩
       case measure=>simp[intOf]
     . obtain⟨c,hcc⟩: ∃c,Nt[n]? =some c:=⟨_,List.getElem?_eq_getElem hn8⟩;have hcd:Nt.getD n 0=c:=by simp[List.getD,hcc]
       have cC:=Lib.hid (Abu n c hcc wr);have hn2':((n:Int)==2)=false:=by simp;omega
       by_cases hcr:c=(r:Int)
       . have hq:Am r= [92,Vo.getD n 0]:=by
          have:=Xt ⟨n,hn8⟩ hn2;simp only[hcd,hcr,Int.toNat_natCast]at this;exact this
         rw[hq]at hsn;subst hcr;have hlet:=fun w=>Aow n hn8 w;generalize Vo.getD n 0=c8 at hsn hlet;have hT':Hid ((T++⟨#[92]⟩++⟨#[c8]⟩).data.toList=34::Af (L.take (k+1))):=by
          show _=_;rw[hsn.out,ByteArray.data_append,Array.toList_append,ByteArray.data_append,Array.toList_append];simp
         clear hno hsn hcc hcd hc hq;go_wp2_with (fail);(with_reducible refine cC.out.mono ?_);rintro e w2 ⟨rfl,hb2⟩;have hbw2:=Lib.hid (hbw.out.trans (hb2.mono hbw.out.size));clear hb2 hbw cC;have hl2:=hlet w2;clear hlet;go_wp2;go_roundw
         case rel=>exact⟨_,k+1,rfl,by go_num,by omega,hT',hbw2⟩
         case measure=>simp only[intOf];omega
       . have hno':=Lib.hid (hno.out.step (.inr (by rw[hcd];exact hcr)));have hcr1:(c==(r:Int))=false:=by simpa using hcr
         have hcr2:(c != (r:Int))=true:=by simpa using hcr
         clear hno hsn hcc hcd hc hcr;go_wp2_with (fail);(with_reducible refine cC.out.mono ?_);rintro e w2 ⟨rfl,hb2⟩;have hbw2:=Lib.hid (hbw.out.trans (hb2.mono hbw.out.size));clear hb2 hbw cC;go_wp2;go_roundw
         case rel=>exact⟨n+1,by go_num,by omega,hno',hbw2⟩
         case measure=>simp only[intOf];omega
     . have hq:=Aa7 hno.out;rw[hq]at hsn;clear hno hc hq;by_cases h32:r<32
       . rw[if_pos h32]at hsn;have hT':Hid ((T++⟨#[92,117,48,48]⟩++⟨#[N1 (r / 16)]⟩++⟨#[N1 (r % 16)]⟩).data.toList=34::Af (L.take (k+1))):=by
          show _=_;rw[hsn.out,ByteArray.data_append,Array.toList_append,ByteArray.data_append,Array.toList_append,ByteArray.data_append,Array.toList_append];simp
         have hx1:=fun w=>Ahy (r / 16) (by omega) w;have hx2:=fun w=>Ahy (r % 16) (by omega) w;have hq16:(r:Int) / 16=((r / 16:Nat):Int):=by omega
         have hm16:(r:Int) % 16=((r % 16:Nat):Int):=by omega
         have hq16':(r:Int).tdiv 16=((r / 16:Nat):Int):=by rw[Int.tdiv_eq_ediv_of_nonneg (by omega)];omega
         have hm16':(r:Int).tmod 16=((r % 16:Nat):Int):=by rw[Int.tmod_eq_emod_of_nonneg (by omega)];omega
         have hql:r / 16<2:=by omega
         have hml:r % 16<16:=by omega
         generalize N1 (r / 16)=e1 at*
         generalize N1 (r % 16)=e2 at*
         generalize r / 16=q at*
         generalize r % 16=m at*
         have hw1:IntKind.i64.wrap ((q:Int)+1)=(q:Int)+1:=IntWalk.i64_in _ (by omega);have hw2:IntKind.i64.wrap ((m:Int)+1)=(m:Int)+1:=IntWalk.i64_in _ (by omega);clear hsn;go_wp2_with (fail);go_quiet (fail);have hbw2:=Lib.hid (Cb hbw.out nq);clear hx1 hx2 hq16 hm16 hq16' hm16' hw1 hw2 hbw;go_wp2;go_roundw
         case rel=>exact⟨_,k+1,rfl,by go_num,by omega,hT',hbw2⟩
         case measure=>simp only[intOf];omega
       . rw[if_neg h32]at hsn;have cB:=Lib.hid (Z8 r (by omega) (by omega) (by have:=Hsc.out;omega) wr);have hel:(Lib.encodeRune (r:Int)).length<=4:=T8 r;obtain⟨X,hX⟩: ∃X:ByteArray,(⟨(Lib.encodeRune (r:Int)).toArray⟩:ByteArray)=X:=⟨_,rfl⟩;have hXs:X.size<=4:=by rw[<-hX];exact hel
         have hT':Hid ((T++X).data.toList=34::Af (L.take (k+1))):=by
          show _=_;rw[hsn.out,ByteArray.data_append,Array.toList_append,<-hX]
         rw[hX]at cB;clear hsn hel hX;go_wp2_with (fail);(with_reducible refine cB.out.mono ?_);rintro e w2 ⟨rfl,hb2⟩;have hbw2:=Lib.hid (hbw.out.trans (hb2.mono hbw.out.size));clear hb2 hbw cB;go_wp2;go_roundw
         case rel=>exact⟨_,k+1,rfl,by go_num,by omega,hT',hbw2⟩
         case measure=>simp only[intOf];omega
  . obtain rfl:k=L.length:=by omega
    have hT':=hT.out;rw[List.take_length]at hT';have hE:(⟨(34::(Af L++ [34])).toArray⟩:ByteArray)=T++⟨#[34]⟩:=by
     apply ByteArray.ext;rw[ByteArray.data_append];apply Array.ext';rw[Array.toList_append,hT'];simp
    have HE:=Lib.hid hE;clear hT hT' hE;go_wp2;go_ret2;exact⟨by rw[HE.out];rfl,hb1'.out.trans (hbw.out.mono hb1'.out.size)⟩
theorem R2 (w:World) (t:TypeId): ∀(vs:List Value) (cs:Array Value) (o:Nat),(w.alloc (.cells cs t)).setCells w.heap.size o vs=w.alloc (.cells (Iw cs o vs) t)
 | [],_,_=>rfl
 |v::r,cs,o=>by
  rw[World.setCells,World.setCell_alloc_at cs t _ o v rfl,R2 w t r];rfl
theorem Dd (cs0 cs:Array Value) (h:cs0.size=cs.size):Iw cs0 0 cs.toList=cs:=by
 refine Array.ext_getElem? fun i=> ?_;rw[Arf _ _ _ _ (by simp[h])];by_cases hi:i<cs.size
 . rw[if_pos (by simpa using hi)];simp
 . rw[if_neg (by simpa using hi),Array.getElem?_eq_none (by omega),Array.getElem?_eq_none (by omega)]
theorem Cz {w:World} {g:Nat} {t:TypeId} {cs:Array Value} (h:Al w g t cs):w.rangeAt g 0 cs.toList:=fun j v hv=>by
 rw[Nat.zero_add];exact(h.cell j).trans (by rw[<-Array.getElem?_toList];exact hv)
section
variable {P:Program}
theorem Co {op:Oper} {a:Act} {w:World} {K:Act->World->Prop} {Q:Exit->Act->World->Prop} (ty:TypeId) (x y:Operand) (ho:op.op=.store ty x y) {cs0:Array Value} {t:TypeId} (cs:Array Value)
 (hx:a.eval x=.pointer (some ⟨w.heap.size,0,none⟩)) (hy:a.eval y=.agg cs) (hs:cs0.size=cs.size) (hi:(P.info? ty).map (·.size)=some cs.size) (h1:cs.all (·.oneCell')=true)
 (h:K (a.put op.dst undef) (w.alloc (.cells cs t))):op.wp P a (w.alloc (.cells cs0 t)) K Q:=by
 refine wp_store_mid ty x y ho w.heap.size 0 cs hx hy (fun j hj=> ?_) hi h1 ?_
 . have hb:=Al.new w t cs0;refine⟨?_,hb.frozen _⟩;rw[Nat.zero_add,hb.cell j,Array.getElem?_eq_getElem (by omega)];rfl
 . rw[R2,Dd _ _ hs];exact h
theorem Ac {op:Oper} {a:Act} {w:World} {K:Act->World->Prop} {Q:Exit->Act->World->Prop} (ty:TypeId) (x:Operand) (ho:op.op=.load ty x) (g:Nat) {t:TypeId} (cs:Array Value) (hb:Al w g t cs)
 (hx:a.eval x=.pointer (some ⟨g,0,none⟩)) (d:TypeDesc) (hu:P.underlying ty=some d) (hd:d.isRow=true) (hi:(P.info? ty).map (·.size)=some cs.size)
 (h:K (a.put op.dst (.agg cs)) w):op.wp P a w K Q:=by
 refine wp_load_mid ty x ho g 0 hx cs.toList d (Cz hb) hu hd (by simpa using hi) ?_;simpa using h
theorem Mx (b:Nat): ∀(vs:List Value) (o:Nat) (w:World),w.setCells b o vs=Bi w b o vs
 | [],_,_=>rfl
 |_::r,o,_=>by rw[World.setCells,Bi,Mx b r]
theorem Nf (w:World) (b o:Nat) (ty:TypeId) (v:Value) (ht:w.there b o v.cells.size) (hi:(P.info? ty).map (·.size)=some v.cells.size) (h1: ∀u ∈ v.cells.toList,u.oneCell'=true):
 (storeVar ty ⟨b,o,none⟩ v).run P w=.ok () (w.setCells b o v.cells.toList):=by
 have:=run_storeCells_cells (P:=P) b o v.cells.toList 0 w (fun j hj=>by simpa using(ht j (by simpa using hj)).1) (fun j hj=>by simpa using(ht j (by simpa using hj)).2) h1
 cases hq:P.info? ty with
 |none=>simp[hq]at hi
 |some i=>
  have hs:v.cells.size=i.size:=by simp[hq]at hi;omega
  simp only[Nat.add_zero]at this;simp[storeVar,sizeOf,typeInfo,hq,hs,this]
theorem Gf {op:Oper} {a:Act} {w:World} {K:Act->World->Prop} {Q:Exit->Act->World->Prop} (ty:TypeId) (x y:Operand) (ho:op.op=.store ty x y) (g o:Nat) {t:TypeId} {cs:Array Value} (hb:Al w g t cs) (v:Value)
 (hx:a.eval x=.pointer (some ⟨g,o,none⟩)) (hy:a.eval y=v) (hl:o+v.cells.size<=cs.size) (hi:(P.info? ty).map (·.size)=some v.cells.size) (h1: ∀u ∈ v.cells.toList,u.oneCell'=true)
 {B:Nat} {w0:World} (hB:Below B w0 w) (hg:B<=g) (h: ∀w',Al w' g t (Iw cs o v.cells.toList)->Below B w0 w'->K (a.put op.dst undef) w'):op.wp P a w K Q:=by
 have ht:w.there g o v.cells.size:=fun j hj=>by
  refine⟨?_,hb.frozen _⟩;rw[hb.cell (o+j),Array.getElem?_eq_getElem (by omega)];rfl
 unfold Oper.wp execOp;simp only[ho,hx,hy,Instr.storeAt,Instr.sureAddr,Sem.run_bind,Sem.run_pure,Result.andThen_ok,Nf w g o ty v ht hi h1];rw[Mx];exact h _ (N9 _ hb) (A7 _ hB hg)
end
end Go.Proofs.YtmglfdckpjegdaaGreatDoor
