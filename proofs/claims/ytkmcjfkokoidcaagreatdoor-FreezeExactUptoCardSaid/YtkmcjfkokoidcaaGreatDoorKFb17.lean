/- Parts: Values that may be and have the same text are the same. Plain. No condition. -/
import Derived.Test.YtkmcjfkokoidcaaGreatDoorKFb14
import Derived.Test.YtkmcjfkokoidcaaGreatDoorKFb16
set_option maxHeartbeats 20000000
namespace Go.Proofs.YtkmcjfkokoidcaaGreatDoor
open Go.RowKit
theorem Aau: ∀v,Uc v:=by
 refine Val.ind ?_;intro k b n t l o IHl IHo W B g p keeps acc cs k' b' n' t' l' o' hv h5 hT hH hp hpg hW hok hbk hlen
 injection hv with e1 e2 e3 e4 e5 e6
 subst e1 e2 e3 e4 e5 e6;simp only[Ac]at hH;obtain⟨la,lc,oa,oc,rfl,hla,hoa⟩:=hH;simp only[Yt]at hok;simp only[Val.bulk]at hbk hlen;by_cases h2:k=2
 . subst h2;exact Yp W B g p keeps acc b _ _ _ _ _ hp hW (by omega)
 by_cases h3:k=3
 . subst h3;exact Aav W B g p keeps acc n _ _ _ _ _ hp hT hok.2.1.1 hok.2.1.2 hpg hW (by omega)
 by_cases h4:k=4
 . subst h4;exact Yr W B g p keeps acc t _ _ _ _ _ hp hT hok.1 (by omega) hpg hW (by omega)
 by_cases h5':k=5
 . subst h5';rcases hla with rfl|⟨gl,off,rfl,hg,hL⟩
   . exact P2 [] IHl W B g p h5 keeps acc la lc _ _ _ _ _ hp 0 0 (.inl rfl) hT hpg hW hok.2.2.1 (by omega) (by omega)
   . exact P2 l IHl W B g p h5 keeps acc _ lc _ _ _ _ _ hp gl off (.inr ⟨rfl,hg,hL⟩) hT hpg hW hok.2.2.1 (by omega) (by omega)
 by_cases h6:k=6
 . subst h6;rcases hoa with rfl|⟨gl,off,rfl,hg,hL⟩
   . exact L5 [] IHo W B g p h5 keeps acc oa oc _ _ _ _ _ hp 0 0 (.inl rfl) hT hpg hW hok.2.2.2 (by omega) (by omega)
   . exact L5 o IHo W B g p h5 keeps acc _ oc _ _ _ _ _ hp gl off (.inr ⟨rfl,hg,hL⟩) hT hpg hW hok.2.2.2 (by omega) (by omega)
 . have ef:Lt k=134:=by simp[Lt,h2,h3,h4,h5',h6]
   have ec:G9 k p= #[]:=by simp[G9,h2,h3,h4,h5',h6]
   have et:Bn (.mk k b n t l o)= [110,117,108,108]:=by simp[Bn,h2,h3,h4,h5',h6]
   rw[ef,ec,et];exact Yq W B g keeps acc hW (by omega)
theorem Ae4: ∀(l:List Val),(∀v ∈ l,∀d,Aw v d=0->Kd v->Yt v)-> ∀d,Dj l d=0->Qq l->Ys l
 | [],_,_,_,_=>by simp[Ys]
 |v::r,ih,d,h,hi=>by
  simp only[Dj]at h;simp only[Qq]at hi;simp only[Ys]
  split at h
  . rename_i h0;exact⟨ih v (by simp) d h0 hi.1,Ae4 r (fun x hx=>ih x (by simp[hx])) d h hi.2⟩
  . rename_i h0;exact absurd h h0
theorem Ae6: ∀(l:List (ByteArray×Val)),(∀m ∈ l,∀d,Aw m.2 d=0->Kd m.2->Yt m.2)-> ∀last d,Do l last d=0->G3 l->Z5 l
 | [],_,_,_,_,_=>by simp[Z5]
 |(key,v)::r,ih,last,d,h,hi=>by
  simp only[Do]at h;simp only[G3,inP]at hi;simp only[Z5,okP]
  split at h
  . rename_i h0;refine⟨?_,Ae6 r (fun x hx=>ih x (by simp[hx])) _ d h hi.2⟩;simp only[Ol]at h0
    split at h0
    . rename_i hv;refine⟨hv, ?_⟩
      cases last with
      |none=>exact ih (key,v) (by simp) d h0 hi.1
      |some q=>
       simp only at h0
       split at h0
       . cases h0
       . exact ih (key,v) (by simp) d h0 hi.1
    . cases h0
  . rename_i h0;exact absurd h h0
theorem Z6: ∀v d,Aw v d=0->Kd v->Yt v:=by
 refine Val.ind ?_;intro k b n t l o hl ho d h hi;simp only[Aw]at h;simp only[Kd]at hi;simp only[Yt]
 split at h
 . cases h
 split at h
 . cases h
 split at h
 . rename_i hv
   split at h
   . rename_i h0;exact⟨hv,hi.1,Ae4 l hl _ h0 hi.2.1,Ae6 o ho _ _ h hi.2.2⟩
   . rename_i h0;exact absurd h h0
 . cases h
theorem Af2 (n:Int):Lib.itoa n≠ []:=by
 unfold Lib.itoa
 split
 . simp
 . intro h;have:=congrArg List.length h;rw[Lib.decDigits_length]at this;have h1:=Lib.nDigits_pos n.toNat;simp at this;omega
theorem Afh (v:Val):Bn v≠ []:=by
 obtain⟨k,b,n,t,l,o⟩:=v;simp only[Bn]
 split
 . cases b<;>decide
 split
 . intro h;exact Af2 n h
 split
 . simp[Dd]
 split
 . simp
 split
 . simp
 . simp
theorem Ag0 (W:World) (B:Nat) (keeps:Bool) (h:B<=W.heap.size):Wr (W.alloc (.cells #[.bool keeps,.pointer none,.slice none 0 0,.int .i64 0] 135)) B W.heap.size keeps []:=
 ⟨.pointer none,.slice none 0 0,h,heap_alloc_new _ _,by decide,by simp,.inl rfl,.slice none 0 0,rfl,by cases keeps<;>exact World.ownsRow_nil _ _ _ _⟩
theorem N8 (k:Int) (b:Bool) (n:Int) (t:ByteArray) (l:List Val) (o:List (ByteArray×Val)) (la oa:Option Addr) (lc oc:Nat) (keeps:Bool) (w:World) (hT:B3 w)
 (hV:Ac w w.heap.size (.mk k b n t l o) (Ds k b n t la l.length lc oa o.length oc)) (hb:(Val.mk k b n t l o).bulk<=1000000000) (hok:Yt (.mk k b n t l o)):
 Calls Tryz.prog (Lt k) (#[.pointer (some ⟨w.heap.size,0,none⟩)]++G9 k (w.heap.size+1))
  ((w.alloc (.cells #[.bool keeps,.pointer none,.slice none 0 0,.int .i64 0] 135)).alloc (.cells #[.int .i64 k,.bool b,.int .i64 n,.string t,.slice la l.length lc,.slice oa o.length oc] 37))
  fun e w'=>e=.returned (.tuple #[])/\Wr w' w.heap.size w.heap.size keeps (Bn (.mk k b n t l o))/\Below w.heap.size w w':=by
 have hw:=Aau (.mk k b n t l o);have h5:=hT.1;have hWA:Wr (w.alloc (.cells #[.bool keeps,.pointer none,.slice none 0 0,.int .i64 0] 135)) w.heap.size w.heap.size keeps []:=Ag0 w _ keeps (Nat.le_refl _);obtain⟨wA,hA⟩: ∃wA,w.alloc (.cells #[.bool keeps,.pointer none,.slice none 0 0,.int .i64 0] 135)=wA:=⟨_,rfl⟩;have hAb:Below w.heap.size w wA:=hA▸(Below.refl _ _).alloc (Nat.le_refl _) _;have hAz:wA.heap.size=w.heap.size+1:=by rw[<-hA];simp
 rw[hA]at hWA ⊢;have hBb:Below wA.heap.size wA (wA.alloc (.cells #[.int .i64 k,.bool b,.int .i64 n,.string t,.slice la l.length lc,.slice oa o.length oc] 37)):=(Below.refl _ _).alloc (Nat.le_refl _) _;have hAB:Below w.heap.size w (wA.alloc (.cells #[.int .i64 k,.bool b,.int .i64 n,.string t,.slice la l.length lc,.slice oa o.length oc] 37)):=hAb.trans (hBb.mono (by omega));have hc:=hw _ w.heap.size w.heap.size wA.heap.size keeps [] _ k b n t l o rfl h5 (hT.below hAB) (hV.below hAB) (heap_alloc_new wA (.cells #[.int .i64 k,.bool b,.int .i64 n,.string t,.slice la l.length lc,.slice oa o.length oc] 37)) (by omega) (hWA.below hBb) hok hb (by simp;omega);rw[hAz,List.nil_append]at hc;refine hc.mono ?_;rintro e w' ⟨he,h1,h2,h3⟩;exact⟨he,h1,hAB.trans h2⟩
theorem S8 {w:World} {g:Nat} {k:Int} {b:Bool} {n:Int} {t:ByteArray} {x y:Value} (h:w.heap[g]? =some (.cells #[.int .i64 k,.bool b,.int .i64 n,.string t,x,y] 37 (0,0))):
 w.cell? ⟨g,0,none⟩=some (.int .i64 k)/\w.cell? ⟨g,1,none⟩=some (.bool b)/\w.cell? ⟨g,2,none⟩=some (.int .i64 n)/\w.cell? ⟨g,3,none⟩=some (.string t)/\w.cell? ⟨g,4,none⟩=some x/\w.cell? ⟨g,5,none⟩=some y:=by
 refine⟨?_, ?_, ?_, ?_, ?_, ?_⟩<;>(rw[Lib.cell_of_heap h];rfl)
def L2 (v:Val):ByteArray:=if Aw v 1=0 then⟨(Bn v).toArray⟩else⟨#[]⟩
theorem Y0 (v:Val) (cs:List Value) (w:World) (hT:B3 w) (hV:Ac w w.heap.size v cs) (hb:v.bulk<=1000000000) (hi:Kd v):
 Calls Tryz.prog 43 #[.agg cs.toArray] w fun e w'=>e=.returned (.tuple #[.string (L2 v),.int .i64 (Aw v 1)])/\Below w.heap.size w w':=by
 have hV':=hV;obtain⟨k,b,n,t,l,o⟩:=v;simp only[Ac]at hV';obtain⟨la,lc,oa,oc,rfl,_,_⟩:=hV';obtain⟨w1,hw1⟩: ∃w1,w.alloc (.cells (Ds k b n t la l.length lc oa o.length oc).toArray 37)=w1:=⟨_,rfl⟩;have hb1:Below w.heap.size w w1:=hw1▸(Below.refl _ _).alloc (Nat.le_refl _) _;have hz1:w1.heap.size=w.heap.size+1:=by rw[<-hw1];simp
 have hbx:w1.heap[w.heap.size]? =some (.cells #[.int .i64 k,.bool b,.int .i64 n,.string t,.slice la l.length lc,.slice oa o.length oc] 37 (0,0)):=by rw[<-hw1];exact heap_alloc_new _ _
 have hT1:=hT.below hb1;have hV1:=Ac.more (hb1.size) _ _ (hV.below hb1);have hM:=Oa _ _ w1 hT1 hV1 hb;obtain⟨HX,HW⟩:=hid2 hbx hb1;by_cases hm:Aw (.mk k b n t l o) 1=0
 . have hok:=Z6 _ 1 hm hi;have hB:=fun w' (h:Below w1.heap.size w1 w')=>N8 k b n t l o la oa lc oc true w' (hT1.below h) (Ac.more h.size _ _ (hV1.below h)) hb hok;have hne:=Afh (.mk k b n t l o);have HO:=qz (fun w=>Li k b n t la oa l.length lc o.length oc w);unfold L2;rw[hm]at hM ⊢;rw[if_pos rfl];generalize Bn (.mk k b n t l o)=L at hB hne ⊢;have ent:=It;obtain⟨HB,HM,HZ⟩:=hid3 hB hM hz1;clear hB hM hm hok hi hb hT hV hT1 hV1 hbx hb1 hz1;subst hw1;go_enter Tryz.func43,Tryz.ntmps43;go_wp2_with (first|(go_at_call 52;refine(HM.out).mono ?_;rintro e w2 ⟨rfl,hb2⟩;have hz2:=hb2.size;rw[HZ.out]at hz2;have hlt2:w.heap.size<w2.heap.size:=(by omega);have hbox:w2.heap[w.heap.size]? =some (.cells #[.int .i64 k,.bool b,.int .i64 n,.string t,.slice la l.length lc,.slice oa o.length oc] 37 (0,0)):=(hb2.block _ (by simp)).trans HX.out;obtain⟨d0,d1,d2,d3,d4,d5⟩:=S8 hbox)|(go_at_call 74;refine(HO.out _).mono ?_;rintro e w3 ⟨rfl,rfl⟩)|(go_at_fn (Lt k);refine(HB.out _ hb2).mono ?_;rintro e w4 ⟨rfl,h6,h7⟩;obtain⟨pp,vv,hbld⟩:=h6)|(go_at_call 75;refine(Mz _ _ _ _ _ _ _ hbld hne).mono ?_;rintro e w5 ⟨rfl,hb5,hk5⟩));go_ret2;exact⟨rfl,HW.out.trans ((hb2.trans ((h7.trans hb5).mono hb2.size)).mono (by simp))⟩
 . unfold L2;rw[if_neg hm];have hmb:(Aw (.mk k b n t l o) 1==0)=false:=by simpa using hm
   generalize Aw (.mk k b n t l o) 1=m at*
   have HM:=qz hM;clear hM hm hi hb hT hV hT1 hV1 hbx hb1 hz1;subst hw1;go_enter Tryz.func43,Tryz.ntmps43;go_wp2_with (go_at_call 52;refine(HM.out).mono ?_;rintro e w2 ⟨rfl,hb2⟩);go_ret2;exact⟨rfl,HW.out.trans (hb2.mono (by simp))⟩
theorem Xg: ∀{l:List Val} {d:Int},Dj l d=0-> ∀v ∈ l,Aw v d=0
 |v::r,d,h,x,hx=>by
  simp only[Dj]at h
  split at h
  . rename_i h0;rcases List.mem_cons.1 hx with rfl|hx
    . exact h0
    . exact Xg h x hx
  . rename_i h0;exact absurd h h0
theorem Xh: ∀{l:List (ByteArray×Val)} {last:Option ByteArray} {d:Int},Do l last d=0-> ∀m ∈ l,A8 m.1=true/\Aw m.2 d=0
 |(key,v)::r,last,d,h,x,hx=>by
  simp only[Do]at h
  split at h
  . rename_i h0;rcases List.mem_cons.1 hx with rfl|hx
    . simp only[Ol]at h0
      split at h0
      . rename_i hv;refine⟨hv, ?_⟩
        cases last with
        |none=>exact h0
        |some q=>
         simp only at h0
         split at h0
         . cases h0
         . exact h0
      . cases h0
    . exact Xh h x hx
  . rename_i h0;exact absurd h h0
theorem J1 {k:Int} {b:Bool} {n:Int} {t:ByteArray} {l:List Val} {o:List (ByteArray×Val)} {d:Int} (h:Aw (.mk k b n t l o) d=0):
 Fl k b n t l.length o.length=false/\d<=64/\A8 t=true/\Dj l (d+1)=0/\Do o none (d+1)=0:=by
 simp only[Aw]at h
 split at h
 . cases h
 rename_i h1
 split at h
 . cases h
 split at h
 . rename_i hv
   split at h
   . rename_i h0;exact⟨by simpa using h1,by omega,hv,h0,h⟩
   . rename_i h0;exact absurd h h0
 . cases h
theorem Af0 {l:List Val} (h:Qq l) {x:Val} (hx:x ∈ l):Kd x:=by
 induction l with
 |nil=>cases hx
 |cons y r ih=>
  simp only[Qq]at h;rcases List.mem_cons.1 hx with rfl|hx
  . exact h.1
  . exact ih h.2 hx
theorem Ng {l:List (ByteArray×Val)} (h:G3 l) {x:ByteArray×Val} (hx:x ∈ l):Kd x.2:=by
 induction l with
 |nil=>cases hx
 |cons y r ih=>
  obtain⟨key,v⟩:=y;simp only[G3,inP]at h;rcases List.mem_cons.1 hx with rfl|hx
  . exact h.1
  . exact ih h.2 hx
theorem Ty: ∀(a b:List Val) (f:Bool),Cy (a++b) f=Cy a f++Cy b (f&&a.isEmpty)
 | [],b,f=>by simp[Cy]
 |x::r,b,f=>by simp only[List.cons_append,Cy,Ty r b false];simp
theorem Kw (l:List Val) (k:Nat) (f:Bool):(Cy (l.take k) f).length<=(Cy l f).length:=by
 have:=Ty (l.take k) (l.drop k) f;rw[List.take_append_drop]at this;rw[this];simp
theorem Tz: ∀(a b:List (ByteArray×Val)) (f:Bool),Cz (a++b) f=Cz a f++Cz b (f&&a.isEmpty)
 | [],b,f=>by simp[Cz]
 |x::r,b,f=>by simp only[List.cons_append,Cz,Tz r b false];simp
theorem Kx (l:List (ByteArray×Val)) (k:Nat) (f:Bool):(Cz (l.take k) f).length<=(Cz l f).length:=by
 have:=Tz (l.take k) (l.drop k) f;rw[List.take_append_drop]at this;rw[this];simp
theorem Tw (s:ByteArray):s.data.toList.length=s.size:=by rw[Array.length_toList];rfl
theorem Ln (l:List UInt8):(⟨l.toArray⟩:ByteArray).size=l.length:=rfl
theorem M9 {r:Nat} (h:El r): ∀c ∈ Lib.encodeRune (r:Int),(r<128/\c.toNat=r)\/(128<=r/\128<=c.toNat):=by
 intro c hc;unfold El at h;unfold Lib.encodeRune at hc;obtain⟨z,hz,rfl⟩:=List.mem_map.1 hc;have key:(r<128/\z=r)\/(128<=r/\128<=z/\z<256):=by
  unfold Lib.encodeRuneZ at hz
  split at hz
  . simp at hz;omega
  split at hz
  . simp at hz;omega
  split at hz
  . simp at hz;omega
  split at hz
  . simp at hz;omega
  . omega
 have e:z.toNat.toUInt8.toNat=z.toNat:=by
  have:z.toNat<256:=by omega
  simp[Nat.toUInt8,UInt8.toNat_ofNat',Nat.mod_eq_of_lt this]
 rw[e];omega
theorem Yk {c:UInt8} (h:c.toNat<128) (rest:List UInt8):Lib.validD (c::rest)=Lib.validD rest:=by
 rw[K3 (by simp),Dz];have e:Lib.decodeN (c::rest).length ((c::rest).getD 0 0).toNat ((c::rest).getD 1 0).toNat ((c::rest).getD 2 0).toNat ((c::rest).getD 3 0).toNat=(c.toNat,1):=by
  unfold Lib.decodeN;rw[if_pos (by simpa using h)];simp
 rw[e,if_neg (by simp only;omega)];rfl
theorem N3: ∀(a:List UInt8),(∀c ∈ a,c.toNat<128)-> ∀rest,Lib.validD (a++rest)=Lib.validD rest
 | [],_,rest=>rfl
 |c::a,h,rest=>by
  rw[List.cons_append,Yk (h c (by simp))];exact N3 a (fun x hx=>h x (by simp[hx])) rest
theorem Ny {z:Int} (h0:0<=z) (h1:z<256):(z.toNat.toUInt8).toNat=z.toNat:=by
 have:z.toNat<256:=by omega
 simp[Nat.toUInt8,UInt8.toNat_ofNat',Nat.mod_eq_of_lt this]
theorem J5 {l:List UInt8} {r n:Nat} (hne:l≠ []) (h:Lib.decodeL l=(r,n)) (hn:n≠1):Lib.validD l=Lib.validD (l.drop n):=by
 rw[K3 hne,h,if_neg (by simp only;omega)]
theorem Aan {r:Nat} (h:El r) (rest:List UInt8):Lib.validD (Lib.encodeRune (r:Int)++rest)=Lib.validD rest:=by
 unfold El at h;by_cases c1:r<128
 . refine N3 _ (fun c hc=> ?_) rest;have:=M9 (r:=r) (by unfold El;exact h) c hc;omega
 unfold Lib.encodeRune;by_cases c2:r<2048
 . rw[Lib.encodeRuneZ_two (by omega) (by omega)];simp only[List.map_cons,List.map_nil,List.cons_append,List.nil_append];have a1:((192+(r:Int) / 64).toNat.toUInt8).toNat=192+r / 64:=by rw[Ny (by omega) (by omega)];omega
   have a2:((128+(r:Int) % 64).toNat.toUInt8).toNat=128+r % 64:=by rw[Ny (by omega) (by omega)];omega
   generalize (192+(r:Int) / 64).toNat.toUInt8=x1 at*
   generalize (128+(r:Int) % 64).toNat.toUInt8=x2 at*
   refine J5 (l:=x1::x2::rest) (r:=r) (n:=2) (by simp) ?_ (by decide);rw[Dz];simp only[List.getD_cons_zero,List.getD_cons_succ,a1,a2,List.length_cons];unfold Lib.decodeN;rw[if_neg (by omega),if_pos (by omega),if_pos (by omega)];exact Prod.ext (by simp only;omega) rfl
 by_cases c3:r<65536
 . rw[Lib.encodeRuneZ_three (by omega)];simp only[List.map_cons,List.map_nil,List.cons_append,List.nil_append];have a1:((224+(r:Int) / 4096).toNat.toUInt8).toNat=224+r / 4096:=by rw[Ny (by omega) (by omega)];omega
   have a2:((128+(r:Int) / 64 % 64).toNat.toUInt8).toNat=128+r / 64 % 64:=by rw[Ny (by omega) (by omega)];omega
   have a3:((128+(r:Int) % 64).toNat.toUInt8).toNat=128+r % 64:=by rw[Ny (by omega) (by omega)];omega
   generalize (224+(r:Int) / 4096).toNat.toUInt8=x1 at*
   generalize (128+(r:Int) / 64 % 64).toNat.toUInt8=x2 at*
   generalize (128+(r:Int) % 64).toNat.toUInt8=x3 at*
   refine J5 (l:=x1::x2::x3::rest) (r:=r) (n:=3) (by simp) ?_ (by decide);rw[Dz];simp only[List.getD_cons_zero,List.getD_cons_succ,a1,a2,a3,List.length_cons];unfold Lib.decodeN;have d1:r / 64 / 64=r / 4096:=by omega
   rw[if_neg (by omega),if_neg (by omega),if_pos (by omega),if_pos (by omega)];exact Prod.ext (by simp only;omega) rfl
 . rw[Lib.encodeRuneZ_four (by omega) (by omega)];simp only[List.map_cons,List.map_nil,List.cons_append,List.nil_append];have a1:((240+(r:Int) / 262144).toNat.toUInt8).toNat=240+r / 262144:=by rw[Ny (by omega) (by omega)];omega
   have a2:((128+(r:Int) / 4096 % 64).toNat.toUInt8).toNat=128+r / 4096 % 64:=by rw[Ny (by omega) (by omega)];omega
   have a3:((128+(r:Int) / 64 % 64).toNat.toUInt8).toNat=128+r / 64 % 64:=by rw[Ny (by omega) (by omega)];omega
   have a4:((128+(r:Int) % 64).toNat.toUInt8).toNat=128+r % 64:=by rw[Ny (by omega) (by omega)];omega
   generalize (240+(r:Int) / 262144).toNat.toUInt8=x0 at*
   generalize (128+(r:Int) / 4096 % 64).toNat.toUInt8=x1 at*
   generalize (128+(r:Int) / 64 % 64).toNat.toUInt8=x2 at*
   generalize (128+(r:Int) % 64).toNat.toUInt8=x3 at*
   refine J5 (l:=x0::x1::x2::x3::rest) (r:=r) (n:=4) (by simp) ?_ (by decide);rw[Dz];simp only[List.getD_cons_zero,List.getD_cons_succ,a1,a2,a3,a4,List.length_cons];unfold Lib.decodeN;rw[if_neg (by omega),if_neg (by omega),if_neg (by omega),if_pos (by omega),if_pos (by omega)];exact Prod.ext (by simp only;omega) rfl
end Go.Proofs.YtkmcjfkokoidcaaGreatDoor
