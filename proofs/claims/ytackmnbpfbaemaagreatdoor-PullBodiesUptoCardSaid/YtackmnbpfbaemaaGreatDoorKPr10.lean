/- Parts: What the reader reads may be. Plain. No condition. -/
import Derived.Deep.RegionWith
import Derived.Deep.RegionHeld3
import Derived.Test.YtackmnbpfbaemaaGreatDoorKPr7
set_option maxHeartbeats 20000000
namespace Go.Proofs.YtackmnbpfbaemaaGreatDoor
open Go.RowKit
theorem Ae4: ∀v,Xs v:=by
 refine Val.ind ?_;intro k b n t l o IHl IHo W B g p keeps acc cs k' b' n' t' l' o' hv h5 hT hH hp hpg hW hok hbk hlen
 injection hv with e1 e2 e3 e4 e5 e6
 subst e1 e2 e3 e4 e5 e6;simp only[Ac]at hH;obtain⟨la,lc,oa,oc,rfl,hla,hoa⟩:=hH;simp only[okV]at hok;simp only[Val.bulk]at hbk hlen;by_cases h2:k=2
 . subst h2;exact Ab9 W B g p keeps acc b _ _ _ _ _ hp hW (by omega)
 by_cases h3:k=3
 . subst h3;exact Ae5 W B g p keeps acc n _ _ _ _ _ hp hT hok.2.1.1 hok.2.1.2 hpg hW (by omega)
 by_cases h4:k=4
 . subst h4;exact Acb W B g p keeps acc t _ _ _ _ _ hp hT hok.1 (by omega) hpg hW (by omega)
 by_cases h5':k=5
 . subst h5';rcases hla with rfl|⟨gl,off,rfl,hg,hL⟩
   . exact Sm [] IHl W B g p h5 keeps acc la lc _ _ _ _ _ hp 0 0 (.inl rfl) hT hpg hW hok.2.2.1 (by omega) (by omega)
   . exact Sm l IHl W B g p h5 keeps acc _ lc _ _ _ _ _ hp gl off (.inr ⟨rfl,hg,hL⟩) hT hpg hW hok.2.2.1 (by omega) (by omega)
 by_cases h6:k=6
 . subst h6;rcases hoa with rfl|⟨gl,off,rfl,hg,hL⟩
   . exact N6 [] IHo W B g p h5 keeps acc oa oc _ _ _ _ _ hp 0 0 (.inl rfl) hT hpg hW hok.2.2.2 (by omega) (by omega)
   . exact N6 o IHo W B g p h5 keeps acc _ oc _ _ _ _ _ hp gl off (.inr ⟨rfl,hg,hL⟩) hT hpg hW hok.2.2.2 (by omega) (by omega)
 . have ef:Nv k=117:=by simp[Nv,h2,h3,h4,h5',h6]
   have ec:Ju k p= #[]:=by simp[Ju,h2,h3,h4,h5',h6]
   have et:Bk (.mk k b n t l o)= [110,117,108,108]:=by simp[Bk,h2,h3,h4,h5',h6]
   rw[ef,ec,et];exact Aca W B g keeps acc hW (by omega)
theorem Akb: ∀(l:List Val),(∀v ∈ l,∀d,Ay v d=0->Ga v->okV v)-> ∀d,Dq l d=0->Oq l->okL l
 | [],_,_,_,_=>by simp[okL]
 |v::r,ih,d,h,hi=>by
  simp only[Dq]at h;simp only[Oq]at hi;simp only[okL]
  split at h
  . rename_i h0;exact⟨ih v (by simp) d h0 hi.1,Akb r (fun x hx=>ih x (by simp[hx])) d h hi.2⟩
  . rename_i h0;exact absurd h h0
theorem Akd: ∀(l:List (ByteArray×Val)),(∀m ∈ l,∀d,Ay m.2 d=0->Ga m.2->okV m.2)-> ∀last d,Df l last d=0->Jj l->okO l
 | [],_,_,_,_,_=>by simp[okO]
 |(key,v)::r,ih,last,d,h,hi=>by
  simp only[Df]at h;simp only[Jj,inP]at hi;simp only[okO,okP]
  split at h
  . rename_i h0;refine⟨?_,Akd r (fun x hx=>ih x (by simp[hx])) _ d h hi.2⟩;simp only[Ot]at h0
    split at h0
    . rename_i hv;refine⟨hv, ?_⟩
      cases last with
      |none=>exact ih (key,v) (by simp) d h0 hi.1
      |some q=>
       simp only at h0
       split at h0
       . cases h0
       . exact ih (key,v) (by simp) d h0 hi.1
    . cases h0
  . rename_i h0;exact absurd h h0
theorem Yq: ∀v d,Ay v d=0->Ga v->okV v:=by
 refine Val.ind ?_;intro k b n t l o hl ho d h hi;simp only[Ay]at h;simp only[Ga]at hi;simp only[okV]
 split at h
 . cases h
 split at h
 . cases h
 split at h
 . rename_i hv
   split at h
   . rename_i h0;exact⟨hv,hi.1,Akb l hl _ h0 hi.2.1,Akd o ho _ _ h hi.2.2⟩
   . rename_i h0;exact absurd h h0
 . cases h
theorem Als (n:Int):Lib.itoa n≠ []:=by
 unfold Lib.itoa
 split
 . simp
 . intro h;have:=congrArg List.length h;rw[Lib.decDigits_length]at this;have h1:=Lib.nDigits_pos n.toNat;simp at this;omega
theorem Aku (v:Val):Bk v≠ []:=by
 obtain⟨k,b,n,t,l,o⟩:=v;simp only[Bk]
 split
 . cases b<;>decide
 split
 . intro h;exact Als n h
 split
 . simp[D2]
 split
 . simp
 split
 . simp
 . simp
theorem Am1 (W:World) (B:Nat) (keeps:Bool) (h:B<=W.heap.size):Wr (W.alloc (.cells #[.bool keeps,.pointer none,.slice none 0 0,.int .i64 0] 130)) B W.heap.size keeps []:=
 ⟨.pointer none,.slice none 0 0,h,heap_alloc_new _ _,by decide,by simp,.inl rfl,.slice none 0 0,rfl,by cases keeps<;>exact World.ownsRow_nil _ _ _ _⟩
theorem Qk (k:Int) (b:Bool) (n:Int) (t:ByteArray) (l:List Val) (o:List (ByteArray×Val)) (la oa:Option Addr) (lc oc:Nat) (keeps:Bool) (w:World) (hT:Cf w)
 (hV:Ac w w.heap.size (.mk k b n t l o) (Eo k b n t la l.length lc oa o.length oc)) (hb:(Val.mk k b n t l o).bulk<=1000000000) (hok:okV (.mk k b n t l o)):
 Calls Tryz.prog (Nv k) (#[.pointer (some ⟨w.heap.size,0,none⟩)]++Ju k (w.heap.size+1))
  ((w.alloc (.cells #[.bool keeps,.pointer none,.slice none 0 0,.int .i64 0] 130)).alloc (.cells #[.int .i64 k,.bool b,.int .i64 n,.string t,.slice la l.length lc,.slice oa o.length oc] 39))
  fun e w'=>e=.returned (.tuple #[])/\Wr w' w.heap.size w.heap.size keeps (Bk (.mk k b n t l o))/\Below w.heap.size w w':=by
 have hw:=Ae4 (.mk k b n t l o);have h5:=hT.1;have hWA:Wr (w.alloc (.cells #[.bool keeps,.pointer none,.slice none 0 0,.int .i64 0] 130)) w.heap.size w.heap.size keeps []:=Am1 w _ keeps (Nat.le_refl _);obtain⟨wA,hA⟩: ∃wA,w.alloc (.cells #[.bool keeps,.pointer none,.slice none 0 0,.int .i64 0] 130)=wA:=⟨_,rfl⟩;have hAb:Below w.heap.size w wA:=hA▸(Below.refl _ _).alloc (Nat.le_refl _) _;have hAz:wA.heap.size=w.heap.size+1:=by rw[<-hA];simp
 rw[hA]at hWA ⊢;have hBb:Below wA.heap.size wA (wA.alloc (.cells #[.int .i64 k,.bool b,.int .i64 n,.string t,.slice la l.length lc,.slice oa o.length oc] 39)):=(Below.refl _ _).alloc (Nat.le_refl _) _;have hAB:Below w.heap.size w (wA.alloc (.cells #[.int .i64 k,.bool b,.int .i64 n,.string t,.slice la l.length lc,.slice oa o.length oc] 39)):=hAb.trans (hBb.mono (by omega));have hc:=hw _ w.heap.size w.heap.size wA.heap.size keeps [] _ k b n t l o rfl h5 (hT.below hAB) (hV.below hAB) (heap_alloc_new wA (.cells #[.int .i64 k,.bool b,.int .i64 n,.string t,.slice la l.length lc,.slice oa o.length oc] 39)) (by omega) (hWA.below hBb) hok hb (by simp;omega);rw[hAz,List.nil_append]at hc;refine hc.mono ?_;rintro e w' ⟨he,h1,h2,h3⟩;exact⟨he,h1,hAB.trans h2⟩
theorem V8 {w:World} {g:Nat} {k:Int} {b:Bool} {n:Int} {t:ByteArray} {x y:Value} (h:w.heap[g]? =some (.cells #[.int .i64 k,.bool b,.int .i64 n,.string t,x,y] 39 (0,0))):
 w.cell? ⟨g,0,none⟩=some (.int .i64 k)/\w.cell? ⟨g,1,none⟩=some (.bool b)/\w.cell? ⟨g,2,none⟩=some (.int .i64 n)/\w.cell? ⟨g,3,none⟩=some (.string t)/\w.cell? ⟨g,4,none⟩=some x/\w.cell? ⟨g,5,none⟩=some y:=by
 refine⟨?_, ?_, ?_, ?_, ?_, ?_⟩<;>(rw[Lib.cell_of_heap h];rfl)
def Uv (v:Val):ByteArray:=if Ay v 1=0 then⟨(Bk v).toArray⟩else⟨#[]⟩
theorem Tn (v:Val) (cs:List Value) (w:World) (hT:Cf w) (hV:Ac w w.heap.size v cs) (hb:v.bulk<=1000000000) (hi:Ga v):
 Calls Tryz.prog 47 #[.agg cs.toArray] w fun e w'=>e=.returned (.tuple #[.string (Uv v),.int .i64 (Ay v 1)])/\Below w.heap.size w w':=by
 have hV':=hV;obtain⟨k,b,n,t,l,o⟩:=v;simp only[Ac]at hV';obtain⟨la,lc,oa,oc,rfl,_,_⟩:=hV';obtain⟨w1,hw1⟩: ∃w1,w.alloc (.cells (Eo k b n t la l.length lc oa o.length oc).toArray 39)=w1:=⟨_,rfl⟩;have hb1:Below w.heap.size w w1:=hw1▸(Below.refl _ _).alloc (Nat.le_refl _) _;have hz1:w1.heap.size=w.heap.size+1:=by rw[<-hw1];simp
 have hbx:w1.heap[w.heap.size]? =some (.cells #[.int .i64 k,.bool b,.int .i64 n,.string t,.slice la l.length lc,.slice oa o.length oc] 39 (0,0)):=by rw[<-hw1];exact heap_alloc_new _ _
 have hT1:=hT.below hb1;have hV1:=Ac.more (hb1.size) _ _ (hV.below hb1);have hM:=Qm _ _ w1 hT1 hV1 hb;obtain⟨HX,HW⟩:=hid2 hbx hb1;by_cases hm:Ay (.mk k b n t l o) 1=0
 . have hok:=Yq _ 1 hm hi;have hB:=fun w' (h:Below w1.heap.size w1 w')=>Qk k b n t l o la oa lc oc true w' (hT1.below h) (Ac.more h.size _ _ (hV1.below h)) hb hok;have hne:=Aku (.mk k b n t l o);have hown:=fun w=>Nk k b n t la oa l.length lc o.length oc w;unfold Uv;rw[hm]at hM ⊢;rw[if_pos rfl];generalize Bk (.mk k b n t l o)=L at hB hne ⊢;have ent:=Kr;obtain⟨HO,HB,HM,HZ⟩:=hid4 hown hB hM hz1;clear hown hB hM hm hok hi hb hT hV hT1 hV1 hbx hb1 hz1;subst hw1;go_enter Tryz.func47,Tryz.ntmps47;go_wp2_with (first|(go_at_call 73;refine(HM.out).mono ?_;rintro e w2 ⟨rfl,hb2⟩;have hz2:=hb2.size;rw[HZ.out]at hz2;have hlt2:w.heap.size<w2.heap.size:=(by omega);have hbox:w2.heap[w.heap.size]? =some (.cells #[.int .i64 k,.bool b,.int .i64 n,.string t,.slice la l.length lc,.slice oa o.length oc] 39 (0,0)):=(hb2.block _ (by simp)).trans HX.out;obtain⟨d0,d1,d2,d3,d4,d5⟩:=V8 hbox)|(go_at_call 74;refine(HO.out _).mono ?_;rintro e w3 ⟨rfl,rfl⟩)|(go_at_fn (Nv k);refine(HB.out _ hb2).mono ?_;rintro e w4 ⟨rfl,h6,h7⟩;obtain⟨pp,vv,hbld⟩:=h6)|(go_at_call 75;refine(Pe _ _ _ _ _ _ _ hbld hne).mono ?_;rintro e w5 ⟨rfl,hb5,hk5⟩));go_ret2;exact⟨rfl,HW.out.trans ((hb2.trans ((h7.trans hb5).mono hb2.size)).mono (by simp))⟩
 . unfold Uv;rw[if_neg hm];have hmb:(Ay (.mk k b n t l o) 1==0)=false:=by simpa using hm
   generalize Ay (.mk k b n t l o) 1=m at*
   have HM:=Lib.hid hM;clear hM hm hi hb hT hV hT1 hV1 hbx hb1 hz1;subst hw1;go_enter Tryz.func47,Tryz.ntmps47;go_wp2_with (go_at_call 73;refine(HM.out).mono ?_;rintro e w2 ⟨rfl,hb2⟩);go_ret2;exact⟨rfl,HW.out.trans (hb2.mono (by simp))⟩
theorem Lj: ∀{l:List Val} {d:Int},Dq l d=0-> ∀v ∈ l,Ay v d=0
 |v::r,d,h,x,hx=>by
  simp only[Dq]at h
  split at h
  . rename_i h0;rcases List.mem_cons.1 hx with rfl|hx
    . exact h0
    . exact Lj h x hx
  . rename_i h0;exact absurd h h0
theorem P4: ∀{l:List (ByteArray×Val)} {last:Option ByteArray} {d:Int},Df l last d=0-> ∀m ∈ l,A8 m.1=true/\Ay m.2 d=0
 |(key,v)::r,last,d,h,x,hx=>by
  simp only[Df]at h
  split at h
  . rename_i h0;rcases List.mem_cons.1 hx with rfl|hx
    . simp only[Ot]at h0
      split at h0
      . rename_i hv;refine⟨hv, ?_⟩
        cases last with
        |none=>exact h0
        |some q=>
         simp only at h0
         split at h0
         . cases h0
         . exact h0
      . cases h0
    . exact P4 h x hx
  . rename_i h0;exact absurd h h0
theorem Ck {k:Int} {b:Bool} {n:Int} {t:ByteArray} {l:List Val} {o:List (ByteArray×Val)} {d:Int} (h:Ay (.mk k b n t l o) d=0):
 Et k b n t l.length o.length=false/\d<=64/\A8 t=true/\Dq l (d+1)=0/\Df o none (d+1)=0:=by
 simp only[Ay]at h
 split at h
 . cases h
 rename_i h1
 split at h
 . cases h
 split at h
 . rename_i hv
   split at h
   . rename_i h0;exact⟨by simpa using h1,by omega,hv,h0,h⟩
   . rename_i h0;exact absurd h h0
 . cases h
theorem Te {l:List Val} (h:Oq l) {x:Val} (hx:x ∈ l):Ga x:=by
 induction l with
 |nil=>cases hx
 |cons y r ih=>
  simp only[Oq]at h;rcases List.mem_cons.1 hx with rfl|hx
  . exact h.1
  . exact ih h.2 hx
theorem Yh {l:List (ByteArray×Val)} (h:Jj l) {x:ByteArray×Val} (hx:x ∈ l):Ga x.2:=by
 induction l with
 |nil=>cases hx
 |cons y r ih=>
  obtain⟨key,v⟩:=y;simp only[Jj,inP]at h;rcases List.mem_cons.1 hx with rfl|hx
  . exact h.1
  . exact ih h.2 hx
theorem Xm: ∀(a b:List Val) (f:Bool),Dk (a++b) f=Dk a f++Dk b (f&&a.isEmpty)
 | [],b,f=>by simp[Dk]
 |x::r,b,f=>by simp only[List.cons_append,Dk,Xm r b false];simp
theorem M5 (l:List Val) (k:Nat) (f:Bool):(Dk (l.take k) f).length<=(Dk l f).length:=by
 have:=Xm (l.take k) (l.drop k) f;rw[List.take_append_drop]at this;rw[this];simp
theorem Xn: ∀(a b:List (ByteArray×Val)) (f:Bool),Dn (a++b) f=Dn a f++Dn b (f&&a.isEmpty)
 | [],b,f=>by simp[Dn]
 |x::r,b,f=>by simp only[List.cons_append,Dn,Xn r b false];simp
theorem M6 (l:List (ByteArray×Val)) (k:Nat) (f:Bool):(Dn (l.take k) f).length<=(Dn l f).length:=by
 have:=Xn (l.take k) (l.drop k) f;rw[List.take_append_drop]at this;rw[this];simp
theorem Rc (s:ByteArray):s.data.toList.length=s.size:=by rw[Array.length_toList];rfl
theorem No (l:List UInt8):(⟨l.toArray⟩:ByteArray).size=l.length:=rfl
def Cq (p:Prop) (w:World) (e:Ending) (w':World):Prop:= ∃B:Bool,e=.returned (.bool B)/\(B=true ↔ p)/\Below w.heap.size w w'
theorem Cq.no {p:Prop} {w w':World} (h: ¬p) (hb:Below w.heap.size w w'):Cq p w (.returned (.bool false)) w':=⟨false,rfl,by simp[h],hb⟩
theorem Cq.yes {p:Prop} {w w':World} (h:p) (hb:Below w.heap.size w w'):Cq p w (.returned (.bool true)) w':=⟨true,rfl,by simp[h],hb⟩
def EqC (a:Val):Prop:= ∀(b:Val) (cs cs':List Value) (w:World),Ac w w.heap.size a cs->Ac w w.heap.size b cs'->a.bulk<=100000000->b.bulk<=100000000->
    Calls Tryz.prog 65 #[.agg cs.toArray,.agg cs'.toArray] w (Cq (a=b) w)
theorem Jz {B:Nat} {a w:World} (h:Below B a w) (n:Nat):Below B a (w.drewN n):=⟨h.os,h.tape,h.output,h.size,h.block⟩
theorem D4 (w:World) (o o':Obj):Below w.heap.size w ((w.alloc o).alloc o'):=(Aa w o).alloc (by simp) _
theorem Aaf {W w1:World} (hb:Below W.heap.size W w1):(∀b o,b<W.heap.size->w1.cell? ⟨b,o,none⟩=W.cell? ⟨b,o,none⟩)/\(∀b o,b<W.heap.size->w1.frozen? ⟨b,o,none⟩=W.frozen? ⟨b,o,none⟩):=
 ⟨fun b o h=>hb.cell (p:=⟨b,o,none⟩) h,fun b o h=>hb.frozen (p:=⟨b,o,none⟩) h⟩
set_option maxRecDepth 100000 in
theorem Alh (k k':Int) (b b':Bool) (n n':Int) (t t':ByteArray) (la oa la' oa':Option Addr) (ln lc on oc ln' lc' on' oc':Nat) (w:World) (p:Prop) (hp: ¬p) (h:k≠k'\/b≠b'\/n≠n'\/t≠t'\/ln≠ln'\/on≠on'):
 Calls Tryz.prog 65 #[.agg #[.int .i64 k,.bool b,.int .i64 n,.string t,.slice la ln lc,.slice oa on oc],.agg #[.int .i64 k',.bool b',.int .i64 n',.string t',.slice la' ln' lc',.slice oa' on' oc']] w (Cq p w):=by
 by_cases hk:k=k';rotate_left
 . have e:(k != k')=true:=by simpa using hk
   clear h hk;go_enter Tryz.func65,Tryz.ntmps65;go_wp2;go_ret;exact Cq.no hp (D4 _ _ _)
 subst hk;by_cases hb:b=b';rotate_left
 . clear h
   cases b<;>cases b'<;>first|exact absurd rfl hb|(clear hb;go_enter Tryz.func65,Tryz.ntmps65;go_wp2;go_ret;exact Cq.no hp (D4 _ _ _))
 subst hb;by_cases hn:n=n';rotate_left
 . have e:(n != n')=true:=by simpa using hn
   clear h hn;go_enter Tryz.func65,Tryz.ntmps65;go_wp2;go_ret;exact Cq.no hp (D4 _ _ _)
 subst hn;by_cases ht:t=t';rotate_left
 . have e:(t.toList != t'.toList)=true:=by simp only[bne_iff_ne];exact fun e=>ht (by rw[Lib.toList_data,Lib.toList_data]at e;exact ByteArray.ext (Array.ext' e))
   have e2:(t.toList==t'.toList)=false:=by simpa using e
   have e3: ¬t.toList=t'.toList:=by simpa using e
   clear h ht;go_enter Tryz.func65,Tryz.ntmps65;go_wp2;go_ret;exact Cq.no hp (D4 _ _ _)
 subst ht;by_cases hln:ln=ln';rotate_left
 . have e:((ln:Int) != (ln':Int))=true:=by simp;omega
   clear h hln;go_enter Tryz.func65,Tryz.ntmps65;go_wp2;go_ret;exact Cq.no hp (D4 _ _ _)
 subst hln;by_cases hon:on=on';rotate_left
 . have e:((on:Int) != (on':Int))=true:=by simp;omega
   clear h hon;go_enter Tryz.func65,Tryz.ntmps65;go_wp2;go_ret;exact Cq.no hp (D4 _ _ _)
 subst hon;simp at h
def EA (w:World) (b1 b2:Array Value) (wr:World):Prop:=Below w.heap.size w wr/\An wr w.heap.size 39 b1/\An wr (w.heap.size+1) 39 b2
theorem EA.step {w:World} {b1 b2:Array Value} {wr w4:World} (h:EA w b1 b2 wr) (hb:Below wr.heap.size wr w4):EA w b1 b2 w4:=⟨h.1.trans (hb.mono h.1.size),h.2.1.below hb h.2.1.lt,h.2.2.below hb h.2.2.lt⟩
theorem O4 {α:Type} {l l':List α} {q:Nat} {x x':α} (h:l.take q=l'.take q) (hx:l[q]? =some x) (hx':l'[q]? =some x') (e:x=x'):l.take (q+1)=l'.take (q+1):=by
 rw[List.take_add_one,List.take_add_one,hx,hx',h,e]
theorem Ug {α:Type} {l l':List α} {q:Nat} {x x':α} (hx:l[q]? =some x) (hx':l'[q]? =some x') (e:x≠x'):l≠l':=by
 rintro rfl;rw[hx]at hx';exact e (Option.some.inj hx')
set_option maxRecDepth 100000 in
theorem Ali (k:Int) (b:Bool) (n:Int) (t:ByteArray) (l l':List Val) (o o':List (ByteArray×Val)) (la oa la' oa':Option Addr) (lc oc lc' oc':Nat) (w:World) (IH: ∀v ∈ l,EqC v) (IHo: ∀m ∈ o,EqC m.2)
 (hln:l.length=l'.length) (hon:o.length=o'.length)
 (hl:l= []\/ ∃g off,la=some ⟨g,off,none⟩/\g<w.heap.size/\Az w w.heap.size l g off) (hl':l'= []\/ ∃g off,la'=some ⟨g,off,none⟩/\g<w.heap.size/\Az w w.heap.size l' g off)
 (ho:o= []\/ ∃g off,oa=some ⟨g,off,none⟩/\g<w.heap.size/\Au w w.heap.size o g off) (ho':o'= []\/ ∃g off,oa'=some ⟨g,off,none⟩/\g<w.heap.size/\Au w w.heap.size o' g off)
 (hbl:Bc l<=100000000) (hbl':Bc l'<=100000000) (hbo:Al o<=100000000) (hbo':Al o'<=100000000):
 Calls Tryz.prog 65 #[.agg #[.int .i64 k,.bool b,.int .i64 n,.string t,.slice la l.length lc,.slice oa o.length oc],.agg #[.int .i64 k,.bool b,.int .i64 n,.string t,.slice la' l.length lc',.slice oa' o.length oc']] w (Cq (l=l'/\o=o') w):=by
 have hlb:=D3 l;have hob:=Cg o;have hA0:EA w #[.int .i64 k,.bool b,.int .i64 n,.string t,.slice la l.length lc,.slice oa o.length oc] #[.int .i64 k,.bool b,.int .i64 n,.string t,.slice la' l.length lc',.slice oa' o.length oc'] ((w.alloc (.cells #[.int .i64 k,.bool b,.int .i64 n,.string t,.slice la l.length lc,.slice oa o.length oc] 39)).alloc (.cells #[.int .i64 k,.bool b,.int .i64 n,.string t,.slice la' l.length lc',.slice oa' o.length oc'] 39)):=by
  refine⟨D4 _ _ _,(An.new w 39 #[.int .i64 k,.bool b,.int .i64 n,.string t,.slice la l.length lc,.slice oa o.length oc]).alloc _, ?_⟩;have:=An.new (w.alloc (.cells #[.int .i64 k,.bool b,.int .i64 n,.string t,.slice la l.length lc,.slice oa o.length oc] 39)) 39 #[.int .i64 k,.bool b,.int .i64 n,.string t,.slice la' l.length lc',.slice oa' o.length oc'];simpa using this
 have h00:l.take 0=l'.take 0:=by simp
 obtain⟨HIH,HIHo,HA0,H00,Hln,Hon,Hl,Hl',Ho,Ho'⟩:=hid10 IH IHo hA0 h00 hln hon hl hl' ho ho';clear hA0 h00 hln hon hl hl' ho ho';clear IH IHo;go_enter Tryz.func65,Tryz.ntmps65;go_wp2_with (fail);obtain⟨w0,hw0⟩: ∃w0,(w.alloc (.cells #[.int .i64 k,.bool b,.int .i64 n,.string t,.slice la l.length lc,.slice oa o.length oc] 39)).alloc (.cells #[.int .i64 k,.bool b,.int .i64 n,.string t,.slice la' l.length lc',.slice oa' o.length oc'] 39)=w0:=⟨_,rfl⟩;rw[hw0]at HA0 ⊢;clear hw0;go_loopw [5] (fun i wr=> ∃q:Nat,i=.int .i64 q/\q<=l.length/\Hid (l.take q=l'.take q)/\Hid (EA w #[.int .i64 k,.bool b,.int .i64 n,.string t,.slice la l.length lc,.slice oa o.length oc] #[.int .i64 k,.bool b,.int .i64 n,.string t,.slice la' l.length lc',.slice oa' o.length oc'] wr)) (fun i _=>l.length - (intOf i).toNat)
 case atStart=>exact⟨0,rfl,Nat.zero_le _,H00,HA0⟩
 case round=>
  obtain⟨q,rfl,hq,htk,hea⟩:=hrel;clear H00 HA0;have m1:=hea.out.2.1.cell 4;have m2:=hea.out.2.2.cell 4;by_cases hlt:q<l.length
  . have hlt':q<l'.length:=by have:=Hln.out;omega
    obtain⟨g,off,rfl,hg,hLL⟩: ∃g off,la=some ⟨g,off,none⟩/\g<w.heap.size/\Az w w.heap.size l g off:=Hl.out.resolve_left (by intro e;rw[e]at hlt;simp at hlt);obtain⟨g',off',rfl,hg',hLL'⟩: ∃g off,la'=some ⟨g,off,none⟩/\g<w.heap.size/\Az w w.heap.size l' g off:=Hl'.out.resolve_left (by intro e;rw[e]at hlt';simp at hlt');obtain⟨x,hx⟩: ∃v,l[q]? =some v:=⟨_,List.getElem?_eq_getElem hlt⟩;obtain⟨x',hx'⟩: ∃v,l'[q]? =some v:=⟨_,List.getElem?_eq_getElem hlt'⟩;have IHx:=HIH.out _ (List.mem_of_getElem? hx);have hbv:=Eg (List.mem_of_getElem? hx);have hbv':=Eg (List.mem_of_getElem? hx');have:=trivial;have hbw:=hea.out.1;have hz:=hbw.size;have hT:=fun e=>O4 htk.out hx hx' e;have hN:=fun e=>Ug hx hx' e;obtain⟨xv,hxv⟩: ∃xv,x=xv:=⟨_,rfl⟩;obtain⟨xv',hxv'⟩: ∃xv,x'=xv:=⟨_,rfl⟩;obtain⟨k1,b1,n1,t1,l1,o1⟩:=x;obtain⟨k2,b2,n2,t2,l2,o2⟩:=x';obtain⟨la1,lc1,oa1,oc1,hv1,c0,c1,c2,c3,c4,c5⟩:=(hLL.below hg hbw).six hx;obtain⟨la2,lc2,oa2,oc2,hv2,d0,d1,d2,d3,d4,d5⟩:=(hLL'.below hg' hbw).six hx';have hC: ∀W,Below wr.heap.size wr W->Calls Tryz.prog 65 #[.agg #[.int .i64 k1,.bool b1,.int .i64 n1,.string t1,.slice la1 l1.length lc1,.slice oa1 o1.length oc1],.agg #[.int .i64 k2,.bool b2,.int .i64 n2,.string t2,.slice la2 l2.length lc2,.slice oa2 o2.length oc2]] W (Cq (xv=xv') W):=fun W hW=>by
     rw[<-hxv,<-hxv'];exact IHx _ _ _ W (Ac.more (Nat.le_trans hz hW.size) _ _ (hv1.below (hW.mono hz))) (Ac.more (Nat.le_trans hz hW.size) _ _ (hv2.below (hW.mono hz))) (by omega) (by omega)
    rw[hxv,hxv']at hT hN;have z1:g<wr.heap.size:=by omega
    have z2:g'<wr.heap.size:=by omega
    have z3:w.heap.size<wr.heap.size:=hea.out.2.1.lt;have z4:w.heap.size+1<wr.heap.size:=hea.out.2.2.lt;have z5:(q:Int)<(l.length:Int):=by omega
    obtain⟨HC,HT,HN⟩:=hid3 hC hT hN;clear hC hT hN;clear hbw hv1 hv2 hx hx' IHx hLL hLL' hxv hxv' htk;go_wp2_with (fail)
    go_region_held3 (fun W=>W.cell? ⟨w.heap.size,4,none⟩=some (.slice (some ⟨g,off,none⟩) l.length lc)/\W.cell? ⟨w.heap.size+1,4,none⟩=some (.slice (some ⟨g',off',none⟩) l.length lc')/\W.cell? ⟨g,off+q*6,none⟩=some (.int .i64 k1)/\W.cell? ⟨g,off+q*6+1,none⟩=some (.bool b1)/\W.cell? ⟨g,off+q*6+2,none⟩=some (.int .i64 n1)/\W.cell? ⟨g,off+q*6+3,none⟩=some (.string t1)/\W.cell? ⟨g,off+q*6+4,none⟩=some (.slice la1 l1.length lc1)/\W.cell? ⟨g,off+q*6+5,none⟩=some (.slice oa1 o1.length oc1)/\W.cell? ⟨g',off'+q*6,none⟩=some (.int .i64 k2)/\W.cell? ⟨g',off'+q*6+1,none⟩=some (.bool b2)/\W.cell? ⟨g',off'+q*6+2,none⟩=some (.int .i64 n2)/\W.cell? ⟨g',off'+q*6+3,none⟩=some (.string t2)/\W.cell? ⟨g',off'+q*6+4,none⟩=some (.slice la2 l2.length lc2)/\W.cell? ⟨g',off'+q*6+5,none⟩=some (.slice oa2 o2.length oc2)) (go_keep) (first|(go_at_call 65;refine(HC.out _ ?_).mono ?_;(exact(Below.drew (Below.refl _ _)));rintro e w4 ⟨B,rfl,hB,hb4⟩;have hbr:Below wr.heap.size wr w4:=((Below.drew (Below.refl _ _)).trans hb4);obtain⟨hc4,hf4⟩:=Aaf hbr))
    all_goals
     have HE4:Hid (EA w #[.int .i64 k,.bool b,.int .i64 n,.string t,.slice (some ⟨g,off,none⟩) l.length lc,.slice oa o.length oc] #[.int .i64 k,.bool b,.int .i64 n,.string t,.slice (some ⟨g',off',none⟩) l.length lc',.slice oa' o.length oc'] w4):=hea.out.step hbr;clear hb4 hbr hc4 hf4 hea
     cases B with
     |true=>
      have HT':=Lib.hid (HT.out ((hB.1 rfl)));clear hB HT HN;go_wp2;go_roundw
      case rel=>exact⟨q+1,by go_num,by omega,HT',HE4⟩
      case measure=>simp only[intOf];omega
     |false=>
      have hno: ¬(l=l'/\o=o'):=fun h=>HN.out ((fun e=>by have:=hB.2 e;cases this)) h.1;have Hno:=Lib.hid hno;clear hB HT HN hno;go_wp2;go_ret;exact Cq.no Hno.out HE4.out.1
  . obtain rfl:q=l.length:=by omega
    have hE:=htk.out;rw[List.take_length,Hln.out,List.take_length]at hE;have HE:=Lib.hid hE;clear hE;clear htk;have HE0:=HE;clear HE m1 m2;obtain⟨wo,hwo⟩: ∃wo:World,wo=wr:=⟨_,rfl⟩;subst hwo;have hb5:=hea.out.2.1.cell 5;have h01:o.take 0=o'.take 0:=by simp
    have H01:=Lib.hid h01;clear h01;have m4:=hea.out.2.1.cell 4;go_wp2_with (fail);clear m4;go_loopw [6] (fun i wr=> ∃q:Nat,i=.int .i64 q/\q<=o.length/\Hid (o.take q=o'.take q)/\Hid (EA w #[.int .i64 k,.bool b,.int .i64 n,.string t,.slice la l.length lc,.slice oa o.length oc] #[.int .i64 k,.bool b,.int .i64 n,.string t,.slice la' l.length lc',.slice oa' o.length oc'] wr)) (fun i _=>o.length - (intOf i).toNat)
    case atStart=>exact⟨0,rfl,Nat.zero_le _,H01,hea⟩
    case round=>
     obtain⟨q,rfl,hq,htk,hea⟩:=hrel;clear H01;have m1:=hea.out.2.1.cell 5;have m2:=hea.out.2.2.cell 5;by_cases hlt:q<o.length
     . have hlt':q<o'.length:=by have:=Hon.out;omega
       obtain⟨g,off,rfl,hg,hLL⟩: ∃g off,oa=some ⟨g,off,none⟩/\g<w.heap.size/\Au w w.heap.size o g off:=Ho.out.resolve_left (by intro e;rw[e]at hlt;simp at hlt);obtain⟨g',off',rfl,hg',hLL'⟩: ∃g off,oa'=some ⟨g,off,none⟩/\g<w.heap.size/\Au w w.heap.size o' g off:=Ho'.out.resolve_left (by intro e;rw[e]at hlt';simp at hlt');obtain⟨⟨key,x⟩,hx⟩: ∃v,o[q]? =some v:=⟨_,List.getElem?_eq_getElem hlt⟩;obtain⟨⟨key',x'⟩,hx'⟩: ∃v,o'[q]? =some v:=⟨_,List.getElem?_eq_getElem hlt'⟩;have IHx:=HIHo.out _ (List.mem_of_getElem? hx);have hbv:=C9 (List.mem_of_getElem? hx);have hbv':=C9 (List.mem_of_getElem? hx');simp only at IHx hbv hbv';have hbw:=hea.out.1;have hz:=hbw.size;have hT:=fun e=>O4 htk.out hx hx' e;have hN:=fun e=>Ug hx hx' e;obtain⟨xv,hxv⟩: ∃xv,x=xv:=⟨_,rfl⟩;obtain⟨xv',hxv'⟩: ∃xv,x'=xv:=⟨_,rfl⟩;obtain⟨k1,b1,n1,t1,l1,o1⟩:=x;obtain⟨k2,b2,n2,t2,l2,o2⟩:=x';obtain⟨la1,lc1,oa1,oc1,hv1,c0,c1,c2,c3,c4,c5,c6⟩:=(hLL.below hg hbw).seven hx;obtain⟨la2,lc2,oa2,oc2,hv2,d0,d1,d2,d3,d4,d5,d6⟩:=(hLL'.below hg' hbw).seven hx';have hC: ∀W,Below wr.heap.size wr W->Calls Tryz.prog 65 #[.agg #[.int .i64 k1,.bool b1,.int .i64 n1,.string t1,.slice la1 l1.length lc1,.slice oa1 o1.length oc1],.agg #[.int .i64 k2,.bool b2,.int .i64 n2,.string t2,.slice la2 l2.length lc2,.slice oa2 o2.length oc2]] W (Cq (xv=xv') W):=fun W hW=>by
        rw[<-hxv,<-hxv'];exact IHx _ _ _ W (Ac.more (Nat.le_trans hz hW.size) _ _ (hv1.below (hW.mono hz))) (Ac.more (Nat.le_trans hz hW.size) _ _ (hv2.below (hW.mono hz))) (by omega) (by omega)
       rw[hxv,hxv']at hT hN;have z1:g<wr.heap.size:=by omega
       have z2:g'<wr.heap.size:=by omega
       have z3:w.heap.size<wr.heap.size:=hea.out.2.1.lt;have z4:w.heap.size+1<wr.heap.size:=hea.out.2.2.lt;have z5:(q:Int)<(o.length:Int):=by omega
       obtain⟨HC,HT,HN⟩:=hid3 hC hT hN;clear hC hT hN;clear hbw hv1 hv2 hx hx' IHx hLL hLL' hxv hxv' htk;by_cases hk:key.toList=key'.toList
       . have hkk:=toList_inj hk;subst hkk;have e1:(key.toList != key.toList)=false:=by simp
         clear hk;go_wp2_with (fail)
         go_region_held3 (fun W=>W.cell? ⟨w.heap.size,5,none⟩=some (.slice (some ⟨g,off,none⟩) o.length oc)/\W.cell? ⟨w.heap.size+1,5,none⟩=some (.slice (some ⟨g',off',none⟩) o.length oc')/\W.cell? ⟨g,off+q*7,none⟩=some (.string key)/\W.cell? ⟨g,off+q*7+1,none⟩=some (.int .i64 k1)/\W.cell? ⟨g,off+q*7+2,none⟩=some (.bool b1)/\W.cell? ⟨g,off+q*7+3,none⟩=some (.int .i64 n1)/\W.cell? ⟨g,off+q*7+4,none⟩=some (.string t1)/\W.cell? ⟨g,off+q*7+5,none⟩=some (.slice la1 l1.length lc1)/\W.cell? ⟨g,off+q*7+6,none⟩=some (.slice oa1 o1.length oc1)/\W.cell? ⟨g',off'+q*7,none⟩=some (.string key)/\W.cell? ⟨g',off'+q*7+1,none⟩=some (.int .i64 k2)/\W.cell? ⟨g',off'+q*7+2,none⟩=some (.bool b2)/\W.cell? ⟨g',off'+q*7+3,none⟩=some (.int .i64 n2)/\W.cell? ⟨g',off'+q*7+4,none⟩=some (.string t2)/\W.cell? ⟨g',off'+q*7+5,none⟩=some (.slice la2 l2.length lc2)/\W.cell? ⟨g',off'+q*7+6,none⟩=some (.slice oa2 o2.length oc2)) (go_keep) (first|(go_at_call 65;refine(HC.out _ ?_).mono ?_;(exact(Below.drew (Below.refl _ _)));rintro e w4 ⟨B,rfl,hB,hb4⟩;have hbr:Below wr.heap.size wr w4:=((Below.drew (Below.refl _ _)).trans hb4);obtain⟨hc4,hf4⟩:=Aaf hbr))
         all_goals
          have HE4:Hid (EA w #[.int .i64 k,.bool b,.int .i64 n,.string t,.slice la l.length lc,.slice (some ⟨g,off,none⟩) o.length oc] #[.int .i64 k,.bool b,.int .i64 n,.string t,.slice la' l.length lc',.slice (some ⟨g',off',none⟩) o.length oc'] w4):=hea.out.step hbr;clear hb4 hbr hc4 hf4 hea
          cases B with
          |true=>
           have HT':=Lib.hid (HT.out (by rw[hB.1 rfl]));clear hB HT HN;go_wp2;go_roundw
           case rel=>exact⟨q+1,by go_num,by omega,HT',HE4⟩
           case measure=>simp only[intOf];omega
          |false=>
           have hno: ¬(l=l'/\o=o'):=fun h=>HN.out (fun e=>by have:=hB.2 (congrArg Prod.snd e);cases this) h.2;have Hno:=Lib.hid hno;clear hB HT HN hno;go_wp2;go_ret;exact Cq.no Hno.out HE4.out.1
       . have e1:(key.toList != key'.toList)=true:=by simpa using hk
         have e2:(key.toList==key'.toList)=false:=by simpa using hk
         have hno: ¬(l=l'/\o=o'):=fun h=>HN.out (fun e=>hk (by have e5:=congrArg Prod.fst e;simp only at e5;rw[e5])) h.2;obtain⟨Hno,Hk⟩:=hid2 hno hk;clear hno hk;clear HC HT HN;go_wp2_with (fail);go_quiet (fail);go_wp2;go_ret;exact Cq.no Hno.out (by first|exact Jz hea.out.1 _|exact Jz (Jz hea.out.1 _) _)
     . obtain rfl:q=o.length:=by omega
       have hE:=htk.out;rw[List.take_length,Hon.out,List.take_length]at hE;have HE:=Lib.hid hE;clear hE;clear htk;go_wp2;go_ret;exact Cq.yes ⟨HE0.out,HE.out⟩ hea.out.1
theorem Xc: ∀a,EqC a:=by
 refine Val.ind ?_;intro k b n t l o hl ho b' cs cs' w hV hV' hb hb';obtain⟨k',b',n',t',l',o'⟩:=b';simp only[Ac]at hV hV';obtain⟨la,lc,oa,oc,rfl,hla,hoa⟩:=hV;obtain⟨la',lc',oa',oc',rfl,hla',hoa'⟩:=hV';simp only[Val.bulk]at hb hb';by_cases hd:k≠k'\/b≠b'\/n≠n'\/t≠t'\/l.length≠l'.length\/o.length≠o'.length
 . exact Alh k k' b b' n n' t t' la oa la' oa' l.length lc o.length oc l'.length lc' o'.length oc' w _ (by rintro⟨⟩;simp at hd) hd
 . simp only[not_or,Decidable.not_not]at hd;obtain⟨rfl,rfl,rfl,rfl,e1,e2⟩:=hd;have:=Ali k b n t l l' o o' la oa la' oa' lc oc lc' oc' w hl ho e1 e2 hla hla' hoa hoa' (by omega) (by omega) (by omega) (by omega);rw[e1,e2]at this;refine(show Eo k b n t la l.length lc oa o.length oc=_ by rw[e1,e2])▸this.mono ?_;rintro e w' ⟨B,rfl,hB,hb⟩;exact⟨B,rfl,by rw[hB];simp,hb⟩
theorem Ps {r:Nat} (h:E4 r): ∀c ∈ Lib.encodeRune (r:Int),(r<128/\c.toNat=r)\/(128<=r/\128<=c.toNat):=by
 intro c hc;unfold E4 at h;unfold Lib.encodeRune at hc;obtain⟨z,hz,rfl⟩:=List.mem_map.1 hc;have key:(r<128/\z=r)\/(128<=r/\128<=z/\z<256):=by
  unfold Lib.encodeRuneZ at hz
  split at hz
  . simp at hz;omega
  split at hz
  . simp at hz;omega
  split at hz
  . simp at hz;omega
  split at hz
  . simp at hz;omega
  . omega
 have e:z.toNat.toUInt8.toNat=z.toNat:=by
  have:z.toNat<256:=by omega
  simp[Nat.toUInt8,UInt8.toNat_ofNat',Nat.mod_eq_of_lt this]
 rw[e];omega
theorem Ab5 {c:UInt8} (h:c.toNat<128) (rest:List UInt8):Lib.validD (c::rest)=Lib.validD rest:=by
 rw[M8 (by simp),Ep];have e:Lib.decodeN (c::rest).length ((c::rest).getD 0 0).toNat ((c::rest).getD 1 0).toNat ((c::rest).getD 2 0).toNat ((c::rest).getD 3 0).toNat=(c.toNat,1):=by
  unfold Lib.decodeN;rw[if_pos (by simpa using h)];simp
 rw[e,if_neg (by simp only;omega)];rfl
theorem Qi: ∀(a:List UInt8),(∀c ∈ a,c.toNat<128)-> ∀rest,Lib.validD (a++rest)=Lib.validD rest
 | [],_,rest=>rfl
 |c::a,h,rest=>by
  rw[List.cons_append,Ab5 (h c (by simp))];exact Qi a (fun x hx=>h x (by simp[hx])) rest
theorem Qf {z:Int} (h0:0<=z) (h1:z<256):(z.toNat.toUInt8).toNat=z.toNat:=by
 have:z.toNat<256:=by omega
 simp[Nat.toUInt8,UInt8.toNat_ofNat',Nat.mod_eq_of_lt this]
theorem L9 {l:List UInt8} {r n:Nat} (hne:l≠ []) (h:Lib.decodeL l=(r,n)) (hn:n≠1):Lib.validD l=Lib.validD (l.drop n):=by
 rw[M8 hne,h,if_neg (by simp only;omega)]
theorem Aez {r:Nat} (h:E4 r) (rest:List UInt8):Lib.validD (Lib.encodeRune (r:Int)++rest)=Lib.validD rest:=by
 unfold E4 at h;by_cases c1:r<128
 . refine Qi _ (fun c hc=> ?_) rest;have:=Ps (r:=r) (by unfold E4;exact h) c hc;omega
 unfold Lib.encodeRune;by_cases c2:r<2048
 . rw[Lib.encodeRuneZ_two (by omega) (by omega)];simp only[List.map_cons,List.map_nil,List.cons_append,List.nil_append];have a1:((192+(r:Int) / 64).toNat.toUInt8).toNat=192+r / 64:=by rw[Qf (by omega) (by omega)];omega
   have a2:((128+(r:Int) % 64).toNat.toUInt8).toNat=128+r % 64:=by rw[Qf (by omega) (by omega)];omega
   generalize (192+(r:Int) / 64).toNat.toUInt8=x1 at*
   generalize (128+(r:Int) % 64).toNat.toUInt8=x2 at*
   refine L9 (l:=x1::x2::rest) (r:=r) (n:=2) (by simp) ?_ (by decide);rw[Ep];simp only[List.getD_cons_zero,List.getD_cons_succ,a1,a2,List.length_cons];unfold Lib.decodeN;rw[if_neg (by omega),if_pos (by omega),if_pos (by omega)];exact Prod.ext (by simp only;omega) rfl
 by_cases c3:r<65536
 . rw[Lib.encodeRuneZ_three (by omega)];simp only[List.map_cons,List.map_nil,List.cons_append,List.nil_append];have a1:((224+(r:Int) / 4096).toNat.toUInt8).toNat=224+r / 4096:=by rw[Qf (by omega) (by omega)];omega
   have a2:((128+(r:Int) / 64 % 64).toNat.toUInt8).toNat=128+r / 64 % 64:=by rw[Qf (by omega) (by omega)];omega
   have a3:((128+(r:Int) % 64).toNat.toUInt8).toNat=128+r % 64:=by rw[Qf (by omega) (by omega)];omega
   generalize (224+(r:Int) / 4096).toNat.toUInt8=x1 at*
   generalize (128+(r:Int) / 64 % 64).toNat.toUInt8=x2 at*
   generalize (128+(r:Int) % 64).toNat.toUInt8=x3 at*
   refine L9 (l:=x1::x2::x3::rest) (r:=r) (n:=3) (by simp) ?_ (by decide);rw[Ep];simp only[List.getD_cons_zero,List.getD_cons_succ,a1,a2,a3,List.length_cons];unfold Lib.decodeN;have d1:r / 64 / 64=r / 4096:=by omega
   rw[if_neg (by omega),if_neg (by omega),if_pos (by omega),if_pos (by omega)];exact Prod.ext (by simp only;omega) rfl
 . rw[Lib.encodeRuneZ_four (by omega) (by omega)];simp only[List.map_cons,List.map_nil,List.cons_append,List.nil_append];have a1:((240+(r:Int) / 262144).toNat.toUInt8).toNat=240+r / 262144:=by rw[Qf (by omega) (by omega)];omega
   have a2:((128+(r:Int) / 4096 % 64).toNat.toUInt8).toNat=128+r / 4096 % 64:=by rw[Qf (by omega) (by omega)];omega
   have a3:((128+(r:Int) / 64 % 64).toNat.toUInt8).toNat=128+r / 64 % 64:=by rw[Qf (by omega) (by omega)];omega
   have a4:((128+(r:Int) % 64).toNat.toUInt8).toNat=128+r % 64:=by rw[Qf (by omega) (by omega)];omega
   generalize (240+(r:Int) / 262144).toNat.toUInt8=x0 at*
   generalize (128+(r:Int) / 4096 % 64).toNat.toUInt8=x1 at*
   generalize (128+(r:Int) / 64 % 64).toNat.toUInt8=x2 at*
   generalize (128+(r:Int) % 64).toNat.toUInt8=x3 at*
   refine L9 (l:=x0::x1::x2::x3::rest) (r:=r) (n:=4) (by simp) ?_ (by decide);rw[Ep];simp only[List.getD_cons_zero,List.getD_cons_succ,a1,a2,a3,a4,List.length_cons];unfold Lib.decodeN;rw[if_neg (by omega),if_neg (by omega),if_neg (by omega),if_pos (by omega),if_pos (by omega)];exact Prod.ext (by simp only;omega) rfl
theorem Tc (r:Int):(Lib.encodeRune r).length<=4:=by
 have:=(Lib.encodeRuneZ_length r).2;unfold Lib.encodeRune
 rwa [List.length_map]
theorem Ai9 {r:Int} (h0:0<=r) (h:r<128):(Lib.encodeRune r).length=1:=by
 unfold Lib.encodeRune;rw[List.length_map,Lib.encodeRuneZ_one h0 (by omega)];rfl
theorem T0 {l:List UInt8} {r n:Nat} (h:Fl l=.ok r n):(Lib.encodeRune (r:Int)).length<=n:=by
 have h2:=(Nh h).2.2.1;have h4:=Tc (r:Int);by_cases hn:4<=n
 . omega
 have hr:r<128\/6<=n:=by
  unfold Fl at h
  cases hu:Dw l with
  |some u=>
   rw[hu]at h;simp only[Fu]at h
   split at h
   . simp only[Rd.ok.injEq]at h;omega
   split at h
   . cases h
   cases hm:Dw (l.drop 6)with
   |none=>rw[hm]at h;cases h
   |some m=>
    rw[hm]at h;simp only at h
    split at h
    . cases h
    . simp only[Rd.ok.injEq]at h;omega
  |none=>
   rw[hu]at h;simp only[Sx]at h
   cases hc:l[1]? with
   |none=>rw[hc]at h;cases h
   |some c=>
    rw[hc]at h;simp only at h
    cases he:Ge c with
    |none=>rw[he]at h;cases h
    |some x=>
     rw[he]at h;simp only[Rd.ok.injEq]at h;have:x<=92:=by
      unfold Ge at he
      repeat' split at he
      all_goals first|(simp at he;omega)|cases he
     omega
 rcases hr with hr|hr
 . have:=Ai9 (r:=(r:Int)) (by omega) (by omega);omega
 . omega
def Oi (rs:List Nat):List UInt8:=rs.flatMap fun(r:Nat)=>Lib.encodeRune (r:Int)
theorem Xo: ∀{rs:List Nat},(∀r ∈ rs,E4 r)->Lib.validD (Oi rs)=true
 | [],_=>rfl
 |r::rs,h=>by
  have e:Oi (r::rs)=Lib.encodeRune (r:Int)++Oi rs:=rfl;rw[e,Aez (h r (by simp))];exact Xo fun x hx=>h x (by simp[hx])
theorem Og {l:List UInt8} (hl:l≠ []) (h: ¬((Lib.decodeL l).1=65533/\(Lib.decodeL l).2=1)):E4 (Lib.decodeL l).1:=by
 have h1:=Ph l;rw[Lv l hl,if_neg h]at h1;have:=Lib.decodeL_width l;unfold E4;simp only at h1;omega
theorem Zk: ∀(f:Nat) (s:List UInt8) (i:Nat) (out a:List UInt8) (q:Nat),Fw f s i out=.ok a q->(∃rs,(∀r ∈ rs,E4 r)/\out=Oi rs)->(∃rs,(∀r ∈ rs,E4 r)/\a=Oi rs)/\a.length+i+1<=out.length+q
 |0,s,i,out,a,q,h,_=>by unfold Fw at h;cases h
 |f+1,s,i,out,a,q,h,ho=>by
  unfold Fw at h
  cases hc:s[i]? with
  |none=>rw[hc]at h;cases h
  |some c=>
   rw[hc]at h;have hi:=De hc;have hne:s.drop i≠ []:=by rw[Er hc];simp
   simp only at h
   split at h
   . simp only[Rd.ok.injEq]at h;obtain⟨rfl,rfl⟩:=h;exact⟨ho,by omega⟩
   split at h
   . cases h
   obtain⟨rs,h1,h2⟩:=ho
   split at h
   . cases he:Fl (s.drop i)with
     |bad e x=>rw[he]at h;cases h
     |ok r n=>
      rw[he]at h;have hok:=Nh he;have hlen:=T0 he;have hn:E4 r:=⟨hok.1,hok.2.1⟩;obtain⟨k1,k2⟩:=Zk f s _ _ _ _ h ⟨rs++ [r],fun x hx=>by
       rcases List.mem_append.1 hx with hx|hx
       . exact h1 x hx
       . simp only[List.mem_singleton]at hx;rw[hx];exact hn,by simp[Oi,h2]⟩
      rw[List.length_append]at k2;exact⟨k1,by omega⟩
   split at h
   . cases h
   . rename_i hd;have hn:=Og hne hd;obtain⟨k1,k2⟩:=Zk f s _ _ _ _ h ⟨rs++ [(Lib.decodeL (s.drop i)).1],fun x hx=>by
      rcases List.mem_append.1 hx with hx|hx
      . exact h1 x hx
      . simp only[List.mem_singleton]at hx;rw[hx];exact hn,by simp[Oi,h2,Lib.encode_decode _ hne hd]⟩
     rw[List.length_append,List.length_take]at k2;exact⟨k1,by omega⟩
theorem M7 {s:List UInt8} {p q:Nat} {a:List UInt8} (h:Di s p=.ok a q):Lib.validD a=true/\a.length+p+2<=q:=by
 unfold Di at h
 split at h
 . obtain⟨⟨rs,h1,h2⟩,h3⟩:=Zk _ _ _ _ _ _ h ⟨[],fun r hr=>(by cases hr),rfl⟩;rw[h2];refine⟨Xo h1, ?_⟩;rw[<-h2];simp only[List.length_nil]at h3;omega
 . cases h
theorem Aa4 {s:List UInt8} {p q:Nat} {n:Int} (h:Ei s p=.ok n q): -9223372036854775808<=n/\n<=9223372036854775807:=by
 unfold Ei P8 Fh at h
 repeat' split at h
 all_goals first|(simp only[Rd.ok.injEq]at h;omega)|cases h
theorem Wa: ∀(a b:List Val),Bc (a++b)=Bc a+Bc b
 | [],b=>by simp[Bc]
 |x::r,b=>by simp only[List.cons_append,Bc,Wa r b];omega
theorem Afn: ∀{a b:List Val},Oq a->Oq b->Oq (a++b)
 | [],_,_,h=>h
 |x::r,b,h,h'=>by
  simp only[List.cons_append,Oq]at h ⊢;exact⟨h.1,Afn h.2 h'⟩
theorem Aes (l:List (ByteArray×Val)):Al (Kf l)<=Al l:=by
 unfold Kf
 cases h:Bg l []with
 |none=>simp[Al]
 |some o=>have:=Ku h;simp only[Al]at this;simp only[Option.getD_some];omega
theorem Akq {l:List (ByteArray×Val)} (hi:Jj l):Jj (Kf l):=by
 unfold Kf
 cases h:Bg l []with
 |none=>simp[Jj]
 |some o=>exact W4 h (by simp[Jj]) hi
theorem eb:Jf.size=0:=rfl
def Rd.sized (base p:Nat) (C:Nat):Rd Val->Prop
 | .ok v q=>v.bulk+base<=C+6*(q - p)/\p<q/\Ga v
 | .bad _ _=>True
theorem Xg: ∀(f:Nat),(∀s p d,p<=s.length->(Bq f s p d).sized 0 p 0)/\(∀s p d,p<s.length->(Jm f s p d).sized 0 p 0)/\(∀s p d,p<s.length->(Nu f s p d).sized 0 p 0)/\
 (∀s p d acc,p<=s.length->Oq acc->(Fe f s p d acc).sized 0 p (6+Bc acc))/\(∀s p d acc,p<=s.length->Jj acc->(Dg f s p d acc).sized 0 p (6+Al acc))/\
 (∀s p d acc k,p<=s.length->Jj acc->(Fq f s p d acc k).sized 0 p (7+Al acc+k.size)):=by
 intro f
 induction f with
 |zero=>
  refine⟨fun s p d h=> ?_,fun s p d h=> ?_,fun s p d h=> ?_,fun s p d acc h _=> ?_,fun s p d acc h _=> ?_,fun s p d acc k h _=> ?_⟩
  . unfold Bq;trivial
  . unfold Jm;trivial
  . unfold Nu;trivial
  . unfold Fe;trivial
  . unfold Dg;trivial
  . unfold Fq;trivial
 |succ f ih=>
  obtain⟨iv,il,io,ii,im,ik⟩:=ih;have win:=Eb f;have lift: ∀{p p' q:Nat} {r:Rd Val},p<=p'->r.sized 0 p' 0->r.sized 0 p 0:=by
   intro p p' q r hp hr
   cases r with
   |ok v q=>exact⟨by have:=hr.1;omega,by have:=hr.2.1;omega,hr.2.2⟩
   |bad e q=>trivial
  refine⟨fun s p d h=> ?_,fun s p d h=> ?_,fun s p d h=> ?_,fun s p d acc h hi=> ?_,fun s p d acc h hi=> ?_,fun s p d acc k h hi=> ?_⟩
  . unfold Bq;have hp:=E6 h;have hg:=B6 s p
    cases hc:s[Ar s p]? with
    |none=>trivial
    |some c=>
     have hl:=De hc;simp only
     split
     . trivial
     split
     . trivial
     split
     . exact lift (q:=0) hg (il s _ d hl)
     split
     . exact lift (q:=0) hg (io s _ d hl)
     split
     . cases hu:Di s (Ar s p)with
       |bad e q=>trivial
       |ok a q=>
        obtain⟨_,h2⟩:=M7 hu;refine⟨?_,by omega,by simp[Ah5,Ga,Oq,Jj]⟩;simp only[Ah5,Val.bulk,Bc,Al,No];omega
     split
     . unfold Du
       split
       . refine⟨?_,by simp only[List.length_cons,List.length_nil];omega,by simp[P7,Ga,Oq,Jj]⟩;simp only[P7,Val.bulk,Bc,Al,eb,List.length_cons,List.length_nil];omega
       . trivial
     split
     . unfold Du
       split
       . refine⟨?_,by simp only[List.length_cons,List.length_nil];omega,by simp[Kp,Ga,Oq,Jj]⟩;simp only[Kp,Val.bulk,Bc,Al,eb,List.length_cons,List.length_nil];omega
       . trivial
     split
     . unfold Du
       split
       . refine⟨?_,by simp only[List.length_cons,List.length_nil];omega,by simp[Kp,Ga,Oq,Jj]⟩;simp only[Kp,Val.bulk,Bc,Al,eb,List.length_cons,List.length_nil];omega
       . trivial
     . have hw:=Me hl
       cases hu:Ei s (Ar s p)with
       |bad e q=>trivial
       |ok n q=>
        have hn:=Aa4 hu;rw[hu]at hw;have:=hw.1;refine⟨?_,by omega,by simp only[Sw,Ga,Oq,Jj];exact⟨hn,trivial,trivial⟩⟩;simp only[Sw,Val.bulk,Bc,Al,eb];omega
  . unfold Jm;have hp:=E6 (s:=s) (p:=p+1) h;have hg:=B6 s (p+1)
    split
    . refine⟨?_,by omega,by simp[Vd,Ga,Oq,Jj]⟩;simp only[Vd,Val.bulk,Bc,Al,eb];omega
    . have:=ii s _ d [] hp (by simp[Oq])
      cases hr:Fe f s (Ar s (p+1)) d []with
      |bad e q=>trivial
      |ok v q=>
       rw[hr]at this;obtain⟨h1,h2,h3⟩:=this;simp only[Bc]at h1;exact⟨by omega,by omega,h3⟩
  . unfold Nu;have hp:=E6 (s:=s) (p:=p+1) h;have hg:=B6 s (p+1)
    split
    . refine⟨?_,by omega,by simp[Sz,Ga,Oq,Jj]⟩;simp only[Sz,Val.bulk,Bc,Al,eb];omega
    . have:=im s _ d [] hp (by simp[Jj])
      cases hr:Dg f s (Ar s (p+1)) d []with
      |bad e q=>trivial
      |ok v q=>
       rw[hr]at this;obtain⟨h1,h2,h3⟩:=this;simp only[Al]at h1;exact⟨by omega,by omega,h3⟩
  . unfold Fe;have hv:=iv s p (d+1) h;have hw:=win.1 s p (d+1) h
    cases hr:Bq f s p (d+1)with
    |bad e q=>trivial
    |ok v q=>
     rw[hr]at hv hw;obtain⟨h1,h2⟩:=hw;obtain⟨k1,_,k3⟩:=hv;have hg:=B6 s q;have e1:Bc (acc++ [v])=Bc acc+v.bulk:=by rw[Wa];simp[Bc]
     have e2:Oq (acc++ [v]):=Afn hi ⟨k3,trivial⟩;simp only
     split
     . rename_i hc;have:=ii s _ d _ (De hc) e2
       cases hr2:Fe f s (Ar s q+1) d (acc++ [v])with
       |bad e q=>trivial
       |ok v' q'=>
        rw[hr2]at this;obtain⟨a1,a2,a3⟩:=this;exact⟨by omega,by omega,a3⟩
     split
     . refine⟨?_,by omega, ?_⟩
       . simp only[Vd,Val.bulk,Al,eb];omega
       . simp only[Vd,Ga,Jj];exact⟨by omega,e2,trivial⟩
     . trivial
  . unfold Dg;have hp0:=E6 h;have hg0:=B6 s p;have hw:=Ex hp0
    cases hr:Di s (Ar s p)with
    |bad e q=>trivial
    |ok k q=>
     rw[hr]at hw;have hu:=(M7 hr).2;have hg:=B6 s q;simp only
     split
     . trivial
     split
     . rename_i hc;have:=ik s _ d acc ⟨k.toArray⟩ (De hc) hi
       cases hr2:Fq f s (Ar s q+1) d acc ⟨k.toArray⟩with
       |bad e q=>trivial
       |ok v' q'=>
        rw[hr2]at this;obtain⟨a1,a2,a3⟩:=this;rw[No]at a1;exact⟨by omega,by omega,a3⟩
     . trivial
  . unfold Fq;have hv:=iv s p (d+1) h;have hw:=win.1 s p (d+1) h
    cases hr:Bq f s p (d+1)with
    |bad e q=>trivial
    |ok v q=>
     rw[hr]at hv hw;obtain⟨h1,h2⟩:=hw;obtain⟨k1,_,k3⟩:=hv;have hg:=B6 s q;have e1:Al (acc++ [(k,v)])=Al acc+(1+k.size+v.bulk):=by rw[Nc];simp[Al,Ec]
     have e2:Jj (acc++ [(k,v)]):=Tf hi ⟨k3,trivial⟩;simp only
     split
     . rename_i hc;have:=im s _ d _ (De hc) e2
       cases hr2:Dg f s (Ar s q+1) d (acc++ [(k,v)])with
       |bad e q=>trivial
       |ok v' q'=>
        rw[hr2]at this;obtain⟨a1,a2,a3⟩:=this;exact⟨by omega,by omega,a3⟩
     split
     . have e3:=Aes (acc++ [(k,v)]);refine⟨?_,by omega, ?_⟩
       . simp only[Sz,Val.bulk,Bc,eb];omega
       . simp only[Sz,Ga,Oq];exact⟨by omega,trivial,Akq e2⟩
     . trivial
theorem le_of_lt {a b:ByteArray} (h:Md b a=true):U3 a b=false:=by
 unfold U3;have h1:=Aav h;unfold Md at h1;rw[h1,Bool.false_or]
 cases e:(a.toList==b.toList)with
 |false=>rfl
 |true=>
  have:a=b:=toList_inj (by simpa using e);subst this;rw[Ff]at h;cases h
theorem Aaw: ∀{l:List (ByteArray×Val)} {last:Option ByteArray} {d:Int},Ej l->(∀m ∈ l,A8 m.1=true/\Ay m.2 d=0)->(∀q,last=some q-> ∀m ∈ l,Md q m.1=true)->Df l last d=0
 | [],_,_,_,_,_=>by simp[Df]
 |(k,v)::r,last,d,ha,hm,hq=>by
  obtain⟨h1,h2⟩:=List.pairwise_cons.1 ha;obtain⟨m1,m2⟩:=hm (k,v) (by simp);have hP:Ot (k,v) last d=0:=by
   simp only[Ot];rw[if_pos m1]
   cases last with
   |none=>exact m2
   |some q=>
    have:=le_of_lt (hq q rfl (k,v) (by simp));simp only at this ⊢;rw[this,if_neg (by decide)];exact m2
  simp only[Df];rw[if_pos hP];refine Aaw h2 (fun m hm'=>hm m (by simp[hm'])) (fun q hq' m hm'=> ?_);obtain rfl:=Option.some.inj hq';exact h1 m hm'
theorem Afo: ∀{l:List Val} {d:Int},(∀v ∈ l,Ay v d=0)->Dq l d=0
 | [],_,_=>by simp[Dq]
 |v::r,d,h=>by
  simp only[Dq];rw[if_pos (h v (by simp))];exact Afo fun x hx=>h x (by simp[hx])
theorem Ajg {k:ByteArray} {l:List (ByteArray×Val)}:Ji k l=true ↔ k ∈ l.map (·.1):=by
 unfold Ji;simp[List.any_eq_true]
theorem O3 {l:List (ByteArray×Val)} (h:(l.map (·.1)).Nodup):Bg l []=some (Kf l)/\Ej (Kf l)/\(Kf l).Perm l:=by
 unfold Kf
 cases e:Bg l []with
 |none=>exact absurd (by rw[List.append_nil];exact h) (Mw e)
 |some o=>
  obtain⟨h1,h2⟩:=Kv e List.Pairwise.nil;rw[List.append_nil]at h2;exact⟨rfl,h1,h2⟩
theorem Adz {l:List (ByteArray×Val)} {k:ByteArray} {v:Val} (h:(l.map (·.1)).Nodup) (hk:Ji k l=false):((l++ [(k,v)]).map (·.1)).Nodup:=by
 rw[List.map_append,List.nodup_append];refine⟨h,by simp,fun a ha b hb=> ?_⟩;simp only[List.map_cons,List.map_nil,List.mem_singleton]at hb;subst hb;intro e;subst e;rw[Ajg.2 ha]at hk;cases hk
theorem Ajv {d:Int} (h:d<=64):Ay P7 d=0:=by
 simp only[P7,Ay,List.length_nil];rw[if_neg (by decide+kernel),if_neg (by omega),if_pos (by decide+kernel)];simp[Dq,Df]
theorem Aaz (b:Bool) {d:Int} (h:d<=64):Ay (Kp b) d=0:=by
 simp only[Kp,Ay,List.length_nil];rw[if_neg (by cases b<;>decide+kernel),if_neg (by omega),if_pos (by decide+kernel)];simp[Dq,Df]
theorem Alv (n:Int) {d:Int} (h:d<=64):Ay (Sw n) d=0:=by
 simp only[Sw,Ay,List.length_nil];rw[if_neg (by simp[Et,Jf]),if_neg (by omega),if_pos (by decide+kernel)];simp[Dq,Df]
theorem Alx {a:List UInt8} (ha:Lib.validD a=true) {d:Int} (h:d<=64):Ay (Ah5 a) d=0:=by
 simp only[Ah5,Ay,List.length_nil];rw[if_neg (by simp[Et]),if_neg (by omega),if_pos (by exact ha)];simp[Dq,Df]
theorem Afp {l:List Val} {d:Int} (h:d<=64) (hl: ∀v ∈ l,Ay v (d+1)=0):Ay (Vd l) d=0:=by
 simp only[Vd,Ay,List.length_nil];rw[if_neg (by simp[Et,Jf]),if_neg (by omega),if_pos (by decide+kernel),if_pos (Afo hl)];simp[Df]
theorem Aa1 {o:List (ByteArray×Val)} {d:Int} (h:d<=64) (ha:Ej o) (ho: ∀m ∈ o,A8 m.1=true/\Ay m.2 (d+1)=0):Ay (Sz o) d=0:=by
 simp only[Sz,Ay,List.length_nil];rw[if_neg (by simp[Et,Jf]),if_neg (by omega),if_pos (by decide+kernel),if_pos (by simp[Dq])];exact Aaw ha ho (fun q hq=>by cases hq)
def Rd.mayIt (d:Int):Rd Val->Prop
 | .ok v _=>Ay v d=0
 | .bad _ _=>True
theorem Alu: ∀(f:Nat),(∀s p d,(Bq f s p d).mayIt d)/\(∀s p d,d<=64->(Jm f s p d).mayIt d)/\(∀s p d,d<=64->(Nu f s p d).mayIt d)/\
 (∀s p d acc,d<=64->(∀v ∈ acc,Ay v (d+1)=0)->(Fe f s p d acc).mayIt d)/\
 (∀s p d acc,d<=64->(∀m ∈ acc,A8 m.1=true/\Ay m.2 (d+1)=0)->(acc.map (·.1)).Nodup->(Dg f s p d acc).mayIt d)/\
 (∀s p d acc k,d<=64->(∀m ∈ acc,A8 m.1=true/\Ay m.2 (d+1)=0)->(acc.map (·.1)).Nodup->Ji k acc=false->A8 k=true->(Fq f s p d acc k).mayIt d):=by
 intro f
 induction f with
 |zero=>
  refine⟨fun s p d=> ?_,fun s p d _=> ?_,fun s p d _=> ?_,fun s p d acc _ _=> ?_,fun s p d acc _ _ _=> ?_,fun s p d acc k _ _ _ _ _=> ?_⟩
  . unfold Bq;trivial
  . unfold Jm;trivial
  . unfold Nu;trivial
  . unfold Fe;trivial
  . unfold Dg;trivial
  . unfold Fq;trivial
 |succ f ih=>
  obtain⟨iv,il,io,ii,im,ik⟩:=ih;refine⟨fun s p d=> ?_,fun s p d h=> ?_,fun s p d h=> ?_,fun s p d acc h hi=> ?_,fun s p d acc h hi hn=> ?_,fun s p d acc k h hi hn hk hv=> ?_⟩
  . unfold Bq
    cases hc:s[Ar s p]? with
    |none=>trivial
    |some c=>
     simp only
     split
     . trivial
     split
     . trivial
     rename_i hd;have hd':d<=64:=by omega
     split
     . exact il s _ d hd'
     split
     . exact io s _ d hd'
     split
     . cases hu:Di s (Ar s p)with
       |bad e q=>trivial
       |ok a q=>exact Alx (M7 hu).1 hd'
     split
     . unfold Du
       split
       . exact Ajv hd'
       . trivial
     split
     . unfold Du
       split
       . exact Aaz true hd'
       . trivial
     split
     . unfold Du
       split
       . exact Aaz false hd'
       . trivial
     . cases hu:Ei s (Ar s p)with
       |bad e q=>trivial
       |ok n q=>exact Alv n hd'
  . unfold Jm
    split
    . exact Afp h (fun v hv=>by cases hv)
    . exact ii s _ d [] h (fun v hv=>by cases hv)
  . unfold Nu
    split
    . exact Aa1 h List.Pairwise.nil (fun v hv=>by cases hv)
    . exact im s _ d [] h (fun v hv=>by cases hv) (by simp)
  . unfold Fe;have hv:=iv s p (d+1)
    cases hr:Bq f s p (d+1)with
    |bad e q=>trivial
    |ok v q=>
     rw[hr]at hv;have e2: ∀x ∈ acc++ [v],Ay x (d+1)=0:=by
      intro x hx;rcases List.mem_append.1 hx with hx|hx
      . exact hi x hx
      . simp only[List.mem_singleton]at hx;rw[hx];exact hv
     simp only
     split
     . exact ii s _ d _ h e2
     split
     . exact Afp h e2
     . trivial
  . unfold Dg
    cases hr:Di s (Ar s p)with
    |bad e q=>trivial
    |ok k q=>
     simp only
     split
     . trivial
     rename_i hk
     split
     . exact ik s _ d acc ⟨k.toArray⟩ h hi hn (by simpa using hk) (M7 hr).1
     . trivial
  . unfold Fq;have hm:=iv s p (d+1)
    cases hr:Bq f s p (d+1)with
    |bad e q=>trivial
    |ok v q=>
     rw[hr]at hm;have e2: ∀x ∈ acc++ [(k,v)],A8 x.1=true/\Ay x.2 (d+1)=0:=by
      intro x hx;rcases List.mem_append.1 hx with hx|hx
      . exact hi x hx
      . simp only[List.mem_singleton]at hx;rw[hx];exact⟨hv,hm⟩
     have e3:=Adz (v:=v) hn hk;simp only
     split
     . exact im s _ d _ h e2 e3
     split
     . obtain⟨_,s2,s3⟩:=O3 e3;exact Aa1 h s2 (fun m hm=>e2 m (s3.mem_iff.1 hm))
     . trivial
theorem Aic {f:Nat} {s:List UInt8} {p q:Nat} {d:Int} {v:Val} (h:Bq f s p d=.ok v q):Ay v d=0:=by
 have:=(Alu f).1 s p d;rw[h]at this;exact this
theorem Q1 {s:List UInt8} {v:Val} {q:Nat} (h:Il s=.ok v q):Ay v 1=0/\q=s.length/\v.bulk<=6*s.length/\Ga v:=by
 unfold Il at h
 cases hr:Bq (4*s.length+4) s 0 1 with
 |bad e q=>rw[hr]at h;cases h
 |ok v' q'=>
  rw[hr]at h;simp only at h;have hw:=(Eb (4*s.length+4)).1 s 0 1 (Nat.zero_le _);have hs:=(Xg (4*s.length+4)).1 s 0 1 (Nat.zero_le _);rw[hr]at hw hs;have h2:=E6 hw.2
  split at h
  . cases h
  . simp only[Rd.ok.injEq]at h;obtain⟨rfl,rfl⟩:=h;have h3:=hs.1;have h4:=hw.2;exact⟨Aic hr,by omega,by omega,hs.2.2⟩
end Go.Proofs.YtackmnbpfbaemaaGreatDoor
