/- Parts: Cells of values: how a result's variable holds one, how one lies in a new block. Plain over the program's types. No condition. -/
import Derived.Deep.RegionWith
import Derived.Test.YtobmaegpfbheoaaGreatDoorKMo8
import Derived.Test.YtobmaegpfbheoaaGreatDoorKMo9
import Derived.Test.YtobmaegpfbheoaaGreatDoorKMo10
set_option maxHeartbeats 20000000
set_option maxRecDepth 100000
namespace Go.Proofs.YtobmaegpfbheoaaGreatDoor
open Go.RowKit
def Sl:List UInt8:= [34,92,47,98,102,110,114,116]
theorem Tz: ∀j:Fin 8,j.val≠2->Cc ((Ll.getD j.val 0).toNat)= [92,Sl.getD j.val 0]:=by decide
def Qh (r:Nat) (j:Nat):Prop:= ∀i:Nat,i<j->i≠2->Ll.getD i 0≠(r:Int)
theorem Qh.all {r:Nat} (h:Qh r 8):r≠34/\r≠92/\r≠8/\r≠12/\r≠10/\r≠13/\r≠9:=by
 have h0:=h 0 (by omega) (by omega);have h1:=h 1 (by omega) (by omega);have h3:=h 3 (by omega) (by omega);have h4:=h 4 (by omega) (by omega);have h5:=h 5 (by omega) (by omega);have h6:=h 6 (by omega) (by omega);have h7:=h 7 (by omega) (by omega);simp[Ll]at h0 h1 h3 h4 h5 h6 h7;omega
theorem Wu {r:Nat} (h:Qh r 8):Cc r=if r<32 then [92,117,48,48,Lr (r / 16),Lr (r % 16)]else Lib.encodeRune r:=by
 obtain⟨a1,a2,a3,a4,a5,a6,a7⟩:=h.all;unfold Cc;by_cases h32:r<32
 . rw[if_neg (by omega),if_pos h32];have:Eb (r:Int) Bt=none:=by
    simp only[Bt,Eb]
    repeat rw[if_neg (by omega)]
   rw[this]
 . rw[if_pos (by omega),if_neg h32]
theorem Qh.step {r j:Nat} (h:Qh r j) (hj:j=2\/Ll.getD j 0≠(r:Int)):Qh r (j+1):=by
 intro i hi h2;by_cases he:i=j
 . subst he;rcases hj with hj|hj
   . exact absurd hj h2
   . exact hj
 . exact h i (by omega) h2
def Fq (r:Nat):Prop:=r<=1114111/\ ¬(55296<=r/\r<57344)
theorem Xp (F:Option Int) (n:Nat) (least:Int):(Dr F n least).2=0\/((Dr F n least).1<=1114111/\ ¬(55296<=(Dr F n least).1/\(Dr F n least).1<57344)):=by
 unfold Dr
 split
 . simp
 . split
   . simp
   . rename_i h
     right
     simp only;omega
theorem Li (rest:List UInt8) (n:Nat) (r0 least:Int):(B7 rest n r0 least).2=0\/((B7 rest n r0 least).1<=1114111/\ ¬(55296<=(B7 rest n r0 least).1/\(B7 rest n r0 least).1<57344)):=by
 unfold B7
 split
 . exact .inl rfl
 . exact Xp _ _ _
theorem Ow (l:List UInt8):(Gv l).2=0\/((Gv l).1<=1114111/\ ¬(55296<=(Gv l).1/\(Gv l).1<57344)):=by
 cases l with
 |nil=>exact .inl rfl
 |cons c rest=>
  rw[G5];by_cases h1:(c.toNat:Int)<128
  . rw[if_pos h1]
    right
    simp only;omega
  rw[if_neg h1]
  split
  . exact Li _ _ _ _
  split
  . exact Li _ _ _ _
  split
  . exact Li _ _ _ _
  . exact .inl rfl
theorem Iw: ∀(n:Nat) (l:List UInt8) (p:Nat),∀x ∈ A9 n l p,Fq x.2
 |0,_,_,x,hx=>by simp[A9]at hx
 |n+1,l,p,x,hx=>by
  by_cases h:l= []
  . subst h;simp[A9]at hx
  . rcases Mq h n p with⟨_,e⟩|⟨m,r,hn,h1,_,e⟩
    . rw[e]at hx
      cases hx
    . rw[e]at hx;rcases List.mem_cons.1 hx with rfl|hx
      . have:=Ow l;rw[hn]at this;unfold Fq;simp only at this ⊢;omega
      . exact Iw n _ _ x hx
theorem Adg (d:Nat) (hd:d<16) (w:World):(Instr.slice 9 (.string ⟨#[48,49,50,51,52,53,54,55,56,57,97,98,99,100,101,102]⟩) (some (.int .i64 d)) (some (.int .i64 ((d:Int)+1))) none).run Tryz.prog w=.ok (.string ⟨#[Lr d]⟩) w:=by
 have:=W9 ⟨#[48,49,50,51,52,53,54,55,56,57,97,98,99,100,101,102]⟩ d (d+1) (by omega) (by show d+1<=16;omega) w;have e: ∀d:Fin 16,(⟨#[48,49,50,51,52,53,54,55,56,57,97,98,99,100,101,102]⟩:ByteArray).extract d.val (d.val+1)=⟨#[Lr d.val]⟩:=by decide
 rw[e ⟨d,hd⟩]at this;exact this
theorem Aiv (d:Nat) (hd:d<8) (w:World):(Instr.slice 9 (.string ⟨#[34,92,47,98,102,110,114,116]⟩) (some (.int .i64 d)) (some (.int .i64 ((d:Int)+1))) none).run Tryz.prog w=.ok (.string ⟨#[Sl.getD d 0]⟩) w:=by
 have:=W9 ⟨#[34,92,47,98,102,110,114,116]⟩ d (d+1) (by omega) (by show d+1<=8;omega) w;have e: ∀d:Fin 8,(⟨#[34,92,47,98,102,110,114,116]⟩:ByteArray).extract d.val (d.val+1)=⟨#[Sl.getD d.val 0]⟩:=by decide
 rw[e ⟨d,hd⟩]at this;exact this
theorem Aco: ∀v,Vs v:=by
 refine Val.ind ?_;intro k b n t l o IHl IHo W B g p keeps acc cs k' b' n' t' l' o' hv h5 hT hH hp hpg hW hok hbk hlen
 injection hv with e1 e2 e3 e4 e5 e6
 subst e1 e2 e3 e4 e5 e6;simp only[Ac]at hH;obtain⟨la,lc,oa,oc,rfl,hla,hoa⟩:=hH;simp only[okV]at hok;simp only[Val.bulk]at hbk hlen;by_cases h2:k=2
 . subst h2;exact Aab W B g p keeps acc b _ _ _ _ _ hp hW (by omega)
 by_cases h3:k=3
 . subst h3;exact Acp W B g p keeps acc n _ _ _ _ _ hp hT hok.2.1.1 hok.2.1.2 hpg hW (by omega)
 by_cases h4:k=4
 . subst h4;exact Aad W B g p keeps acc t _ _ _ _ _ hp hT hok.1 (by omega) hpg hW (by omega)
 by_cases h5':k=5
 . subst h5';rcases hla with rfl|⟨gl,off,rfl,hg,hL⟩
   . exact Q8 [] IHl W B g p h5 keeps acc la lc _ _ _ _ _ hp 0 0 (.inl rfl) hT hpg hW hok.2.2.1 (by omega) (by omega)
   . exact Q8 l IHl W B g p h5 keeps acc _ lc _ _ _ _ _ hp gl off (.inr ⟨rfl,hg,hL⟩) hT hpg hW hok.2.2.1 (by omega) (by omega)
 by_cases h6:k=6
 . subst h6;rcases hoa with rfl|⟨gl,off,rfl,hg,hL⟩
   . exact N2 [] IHo W B g p h5 keeps acc oa oc _ _ _ _ _ hp 0 0 (.inl rfl) hT hpg hW hok.2.2.2 (by omega) (by omega)
   . exact N2 o IHo W B g p h5 keeps acc _ oc _ _ _ _ _ hp gl off (.inr ⟨rfl,hg,hL⟩) hT hpg hW hok.2.2.2 (by omega) (by omega)
 . have ef:Nt k=107:=by simp[Nt,h2,h3,h4,h5',h6]
   have ec:J0 k p= #[]:=by simp[J0,h2,h3,h4,h5',h6]
   have et:Cs (.mk k b n t l o)= [110,117,108,108]:=by simp[Cs,h2,h3,h4,h5',h6]
   rw[ef,ec,et];exact Aac W B g keeps acc hW (by omega)
theorem Agx: ∀(l:List Val),(∀v ∈ l,∀d,Bb v d=0->It v->okV v)-> ∀d,Ds l d=0->Lc l->okL l
 | [],_,_,_,_=>by simp[okL]
 |v::r,ih,d,h,hi=>by
  simp only[Ds]at h;simp only[Lc]at hi;simp only[okL]
  split at h
  . rename_i h0;exact⟨ih v (by simp) d h0 hi.1,Agx r (fun x hx=>ih x (by simp[hx])) d h hi.2⟩
  . rename_i h0;exact absurd h h0
theorem Agz: ∀(l:List (ByteArray×Val)),(∀m ∈ l,∀d,Bb m.2 d=0->It m.2->okV m.2)-> ∀last d,C5 l last d=0->Hh l->okO l
 | [],_,_,_,_,_=>by simp[okO]
 |(key,v)::r,ih,last,d,h,hi=>by
  simp only[C5]at h;simp only[Hh,inP]at hi;simp only[okO,okP]
  split at h
  . rename_i h0;refine⟨?_,Agz r (fun x hx=>ih x (by simp[hx])) _ d h hi.2⟩;simp only[P8]at h0
    split at h0
    . rename_i hv;refine⟨hv, ?_⟩
      cases last with
      |none=>exact ih (key,v) (by simp) d h0 hi.1
      |some q=>
       simp only at h0
       split at h0
       . cases h0
       . exact ih (key,v) (by simp) d h0 hi.1
    . cases h0
  . rename_i h0;exact absurd h h0
theorem Abw: ∀v d,Bb v d=0->It v->okV v:=by
 refine Val.ind ?_;intro k b n t l o hl ho d h hi;simp only[Bb]at h;simp only[It]at hi;simp only[okV]
 split at h
 . cases h
 split at h
 . cases h
 split at h
 . rename_i hv
   split at h
   . rename_i h0;exact⟨hv,hi.1,Agx l hl _ h0 hi.2.1,Agz o ho _ _ h hi.2.2⟩
   . rename_i h0;exact absurd h h0
 . cases h
theorem Ah8 (n:Int):Lib.itoa n≠ []:=by
 unfold Lib.itoa
 split
 . simp
 . intro h;have:=congrArg List.length h;rw[Lib.decDigits_length]at this;have h1:=Lib.nDigits_pos n.toNat;simp at this;omega
theorem Ahe (v:Val):Cs v≠ []:=by
 obtain⟨k,b,n,t,l,o⟩:=v;simp only[Cs]
 split
 . cases b<;>decide
 split
 . intro h;exact Ah8 n h
 split
 . simp[Ed]
 split
 . simp
 split
 . simp
 . simp
theorem Aji (W:World) (B:Nat) (keeps:Bool) (h:B<=W.heap.size):Wr (W.alloc (.cells #[.bool keeps,.pointer none,.slice none 0 0,.int .i64 0] 100)) B W.heap.size keeps []:=
 ⟨.pointer none,.slice none 0 0,h,heap_alloc_new _ _,by decide,by simp,.inl rfl,.slice none 0 0,rfl,by cases keeps<;>exact World.ownsRow_nil _ _ _ _⟩
theorem Pr (k:Int) (b:Bool) (n:Int) (t:ByteArray) (l:List Val) (o:List (ByteArray×Val)) (la oa:Option Addr) (lc oc:Nat) (keeps:Bool) (w:World) (hT:Cl w)
 (hV:Ac w w.heap.size (.mk k b n t l o) (Fb k b n t la l.length lc oa o.length oc)) (hb:(Val.mk k b n t l o).bulk<=1000000000) (hok:okV (.mk k b n t l o)):
 Calls Tryz.prog (Nt k) (#[.pointer (some ⟨w.heap.size,0,none⟩)]++J0 k (w.heap.size+1))
  ((w.alloc (.cells #[.bool keeps,.pointer none,.slice none 0 0,.int .i64 0] 100)).alloc (.cells #[.int .i64 k,.bool b,.int .i64 n,.string t,.slice la l.length lc,.slice oa o.length oc] 42))
  fun e w'=>e=.returned (.tuple #[])/\Wr w' w.heap.size w.heap.size keeps (Cs (.mk k b n t l o))/\Below w.heap.size w w':=by
 have hw:=Aco (.mk k b n t l o);have h5:=hT.1;have hWA:Wr (w.alloc (.cells #[.bool keeps,.pointer none,.slice none 0 0,.int .i64 0] 100)) w.heap.size w.heap.size keeps []:=Aji w _ keeps (Nat.le_refl _);obtain⟨wA,hA⟩: ∃wA,w.alloc (.cells #[.bool keeps,.pointer none,.slice none 0 0,.int .i64 0] 100)=wA:=⟨_,rfl⟩;have hAb:Below w.heap.size w wA:=hA▸(Below.refl _ _).alloc (Nat.le_refl _) _;have hAz:wA.heap.size=w.heap.size+1:=by rw[<-hA];simp
 rw[hA]at hWA ⊢;have hBb:Below wA.heap.size wA (wA.alloc (.cells #[.int .i64 k,.bool b,.int .i64 n,.string t,.slice la l.length lc,.slice oa o.length oc] 42)):=(Below.refl _ _).alloc (Nat.le_refl _) _;have hAB:Below w.heap.size w (wA.alloc (.cells #[.int .i64 k,.bool b,.int .i64 n,.string t,.slice la l.length lc,.slice oa o.length oc] 42)):=hAb.trans (hBb.mono (by omega));have hc:=hw _ w.heap.size w.heap.size wA.heap.size keeps [] _ k b n t l o rfl h5 (hT.below hAB) (hV.below hAB) (heap_alloc_new wA (.cells #[.int .i64 k,.bool b,.int .i64 n,.string t,.slice la l.length lc,.slice oa o.length oc] 42)) (by omega) (hWA.below hBb) hok hb (by simp;omega);rw[hAz,List.nil_append]at hc;refine hc.mono ?_;rintro e w' ⟨he,h1,h2,h3⟩;exact⟨he,h1,hAB.trans h2⟩
theorem Uj {w:World} {g:Nat} {k:Int} {b:Bool} {n:Int} {t:ByteArray} {x y:Value} (h:w.heap[g]? =some (.cells #[.int .i64 k,.bool b,.int .i64 n,.string t,x,y] 42 (0,0))):
 w.cell? ⟨g,0,none⟩=some (.int .i64 k)/\w.cell? ⟨g,1,none⟩=some (.bool b)/\w.cell? ⟨g,2,none⟩=some (.int .i64 n)/\w.cell? ⟨g,3,none⟩=some (.string t)/\w.cell? ⟨g,4,none⟩=some x/\w.cell? ⟨g,5,none⟩=some y:=by
 refine⟨?_, ?_, ?_, ?_, ?_, ?_⟩<;>(rw[Lib.cell_of_heap h];rfl)
def N0 (v:Val):ByteArray:=if Bb v 1=0 then⟨(Cs v).toArray⟩else⟨#[]⟩
theorem Aap (v:Val) (cs:List Value) (w:World) (hT:Cl w) (hV:Ac w w.heap.size v cs) (hb:v.bulk<=1000000000) (hi:It v):
 Calls Tryz.prog 26 #[.agg cs.toArray] w fun e w'=>e=.returned (.tuple #[.string (N0 v),.int .i64 (Bb v 1)])/\Below w.heap.size w w':=by
 have hV':=hV;obtain⟨k,b,n,t,l,o⟩:=v;simp only[Ac]at hV';obtain⟨la,lc,oa,oc,rfl,_,_⟩:=hV';obtain⟨w1,hw1⟩: ∃w1,w.alloc (.cells (Fb k b n t la l.length lc oa o.length oc).toArray 42)=w1:=⟨_,rfl⟩;have hb1:Below w.heap.size w w1:=hw1▸(Below.refl _ _).alloc (Nat.le_refl _) _;have hz1:w1.heap.size=w.heap.size+1:=by rw[<-hw1];simp
 have hbx:w1.heap[w.heap.size]? =some (.cells #[.int .i64 k,.bool b,.int .i64 n,.string t,.slice la l.length lc,.slice oa o.length oc] 42 (0,0)):=by rw[<-hw1];exact heap_alloc_new _ _
 have hT1:=hT.below hb1;have hV1:=Ac.more (hb1.size) _ _ (hV.below hb1);have hM:=Ps _ _ w1 hT1 hV1 hb;obtain⟨HX,HW⟩:=hid2 hbx hb1;by_cases hm:Bb (.mk k b n t l o) 1=0
 . have hok:=Abw _ 1 hm hi;have hB:=fun w' (h:Below w1.heap.size w1 w')=>Pr k b n t l o la oa lc oc true w' (hT1.below h) (Ac.more h.size _ _ (hV1.below h)) hb hok;have hne:=Ahe (.mk k b n t l o);have HO:=qz (fun w=>Nd k b n t la oa l.length lc o.length oc w);unfold N0;rw[hm]at hM ⊢;rw[if_pos rfl];generalize Cs (.mk k b n t l o)=L at hB hne ⊢;have ent:=Kj;obtain⟨HB,HM,HZ⟩:=hid3 hB hM hz1;clear hB hM hm hok hi hb hT hV hT1 hV1 hbx hb1 hz1;subst hw1;go_enter Tryz.func26,Tryz.ntmps26;go_wp2_with (first|(go_at_call 52;refine(HM.out).mono ?_;rintro e w2 ⟨rfl,hb2⟩;have hz2:=hb2.size;rw[HZ.out]at hz2;have hlt2:w.heap.size<w2.heap.size:=(by omega);have hbox:w2.heap[w.heap.size]? =some (.cells #[.int .i64 k,.bool b,.int .i64 n,.string t,.slice la l.length lc,.slice oa o.length oc] 42 (0,0)):=(hb2.block _ (by simp)).trans HX.out;obtain⟨d0,d1,d2,d3,d4,d5⟩:=Uj hbox)|(go_at_call 53;refine(HO.out _).mono ?_;rintro e w3 ⟨rfl,rfl⟩)|(go_at_fn (Nt k);refine(HB.out _ hb2).mono ?_;rintro e w4 ⟨rfl,h6,h7⟩;obtain⟨pp,vv,hbld⟩:=h6)|(go_at_call 54;refine(Ot _ _ _ _ _ _ _ hbld hne).mono ?_;rintro e w5 ⟨rfl,hb5,hk5⟩));go_ret2;exact⟨rfl,HW.out.trans ((hb2.trans ((h7.trans hb5).mono hb2.size)).mono (by simp))⟩
 . unfold N0;rw[if_neg hm];have hmb:(Bb (.mk k b n t l o) 1==0)=false:=by simpa using hm
   generalize Bb (.mk k b n t l o) 1=m at*
   have HM:=qz hM;clear hM hm hi hb hT hV hT1 hV1 hbx hb1 hz1;subst hw1;go_enter Tryz.func26,Tryz.ntmps26;go_wp2_with (go_at_call 52;refine(HM.out).mono ?_;rintro e w2 ⟨rfl,hb2⟩);go_ret2;exact⟨rfl,HW.out.trans (hb2.mono (by simp))⟩
theorem Sm: ∀{l:List Val} {d:Int},Ds l d=0-> ∀v ∈ l,Bb v d=0
 |v::r,d,h,x,hx=>by
  simp only[Ds]at h
  split at h
  . rename_i h0;rcases List.mem_cons.1 hx with rfl|hx
    . exact h0
    . exact Sm h x hx
  . rename_i h0;exact absurd h h0
theorem So: ∀{l:List (ByteArray×Val)} {last:Option ByteArray} {d:Int},C5 l last d=0-> ∀m ∈ l,Az m.1=true/\Bb m.2 d=0
 |(key,v)::r,last,d,h,x,hx=>by
  simp only[C5]at h
  split at h
  . rename_i h0;rcases List.mem_cons.1 hx with rfl|hx
    . simp only[P8]at h0
      split at h0
      . rename_i hv;refine⟨hv, ?_⟩
        cases last with
        |none=>exact h0
        |some q=>
         simp only at h0
         split at h0
         . cases h0
         . exact h0
      . cases h0
    . exact So h x hx
  . rename_i h0;exact absurd h h0
theorem Gx {k:Int} {b:Bool} {n:Int} {t:ByteArray} {l:List Val} {o:List (ByteArray×Val)} {d:Int} (h:Bb (.mk k b n t l o) d=0):
 F8 k b n t l.length o.length=false/\d<=64/\Az t=true/\Ds l (d+1)=0/\C5 o none (d+1)=0:=by
 simp only[Bb]at h
 split at h
 . cases h
 rename_i h1
 split at h
 . cases h
 split at h
 . rename_i hv
   split at h
   . rename_i h0;exact⟨by simpa using h1,by omega,hv,h0,h⟩
   . rename_i h0;exact absurd h h0
 . cases h
theorem Ah4 {l:List Val} (h:Lc l) {x:Val} (hx:x ∈ l):It x:=by
 induction l with
 |nil=>cases hx
 |cons y r ih=>
  simp only[Lc]at h;rcases List.mem_cons.1 hx with rfl|hx
  . exact h.1
  . exact ih h.2 hx
theorem Wg {l:List (ByteArray×Val)} (h:Hh l) {x:ByteArray×Val} (hx:x ∈ l):It x.2:=by
 induction l with
 |nil=>cases hx
 |cons y r ih=>
  obtain⟨key,v⟩:=y;simp only[Hh,inP]at h;rcases List.mem_cons.1 hx with rfl|hx
  . exact h.1
  . exact ih h.2 hx
theorem Vj: ∀(a b:List Val) (f:Bool),Do (a++b) f=Do a f++Do b (f&&a.isEmpty)
 | [],b,f=>by simp[Do]
 |x::r,b,f=>by simp only[List.cons_append,Do,Vj r b false];simp
theorem Mr (l:List Val) (k:Nat) (f:Bool):(Do (l.take k) f).length<=(Do l f).length:=by
 have:=Vj (l.take k) (l.drop k) f;rw[List.take_append_drop]at this;rw[this];simp
theorem Vk: ∀(a b:List (ByteArray×Val)) (f:Bool),Dp (a++b) f=Dp a f++Dp b (f&&a.isEmpty)
 | [],b,f=>by simp[Dp]
 |x::r,b,f=>by simp only[List.cons_append,Dp,Vk r b false];simp
theorem Ms (l:List (ByteArray×Val)) (k:Nat) (f:Bool):(Dp (l.take k) f).length<=(Dp l f).length:=by
 have:=Vk (l.take k) (l.drop k) f;rw[List.take_append_drop]at this;rw[this];simp
theorem Vh (s:ByteArray):s.data.toList.length=s.size:=by rw[Array.length_toList];rfl
theorem Nk (l:List UInt8):(⟨l.toArray⟩:ByteArray).size=l.length:=rfl
theorem O1 {r:Nat} (h:Fq r): ∀c ∈ Lib.encodeRune (r:Int),(r<128/\c.toNat=r)\/(128<=r/\128<=c.toNat):=by
 intro c hc;unfold Fq at h;unfold Lib.encodeRune at hc;obtain⟨z,hz,rfl⟩:=List.mem_map.1 hc;have key:(r<128/\z=r)\/(128<=r/\128<=z/\z<256):=by
  unfold Lib.encodeRuneZ at hz
  split at hz
  . simp at hz;omega
  split at hz
  . simp at hz;omega
  split at hz
  . simp at hz;omega
  split at hz
  . simp at hz;omega
  . omega
 have e:z.toNat.toUInt8.toNat=z.toNat:=by
  have:z.toNat<256:=by omega
  simp[Nat.toUInt8,UInt8.toNat_ofNat',Nat.mod_eq_of_lt this]
 rw[e];omega
theorem Z3 {c:UInt8} (h:c.toNat<128) (rest:List UInt8):Lib.validD (c::rest)=Lib.validD rest:=by
 rw[Mt (by simp),Fc];have e:Lib.decodeN (c::rest).length ((c::rest).getD 0 0).toNat ((c::rest).getD 1 0).toNat ((c::rest).getD 2 0).toNat ((c::rest).getD 3 0).toNat=(c.toNat,1):=by
  unfold Lib.decodeN;rw[if_pos (by simpa using h)];simp
 rw[e,if_neg (by simp only;omega)];rfl
theorem Po: ∀(a:List UInt8),(∀c ∈ a,c.toNat<128)-> ∀rest,Lib.validD (a++rest)=Lib.validD rest
 | [],_,rest=>rfl
 |c::a,h,rest=>by
  rw[List.cons_append,Z3 (h c (by simp))];exact Po a (fun x hx=>h x (by simp[hx])) rest
theorem Pi {z:Int} (h0:0<=z) (h1:z<256):(z.toNat.toUInt8).toNat=z.toNat:=by
 have:z.toNat<256:=by omega
 simp[Nat.toUInt8,UInt8.toNat_ofNat',Nat.mod_eq_of_lt this]
theorem Ly {l:List UInt8} {r n:Nat} (hne:l≠ []) (h:Lib.decodeL l=(r,n)) (hn:n≠1):Lib.validD l=Lib.validD (l.drop n):=by
 rw[Mt hne,h,if_neg (by simp only;omega)]
theorem Ach {r:Nat} (h:Fq r) (rest:List UInt8):Lib.validD (Lib.encodeRune (r:Int)++rest)=Lib.validD rest:=by
 unfold Fq at h;by_cases c1:r<128
 . refine Po _ (fun c hc=> ?_) rest;have:=O1 (r:=r) (by unfold Fq;exact h) c hc;omega
 unfold Lib.encodeRune;by_cases c2:r<2048
 . rw[Lib.encodeRuneZ_two (by omega) (by omega)];simp only[List.map_cons,List.map_nil,List.cons_append,List.nil_append];have a1:((192+(r:Int) / 64).toNat.toUInt8).toNat=192+r / 64:=by rw[Pi (by omega) (by omega)];omega
   have a2:((128+(r:Int) % 64).toNat.toUInt8).toNat=128+r % 64:=by rw[Pi (by omega) (by omega)];omega
   generalize (192+(r:Int) / 64).toNat.toUInt8=x1 at*
   generalize (128+(r:Int) % 64).toNat.toUInt8=x2 at*
   refine Ly (l:=x1::x2::rest) (r:=r) (n:=2) (by simp) ?_ (by decide);rw[Fc];simp only[List.getD_cons_zero,List.getD_cons_succ,a1,a2,List.length_cons];unfold Lib.decodeN;rw[if_neg (by omega),if_pos (by omega),if_pos (by omega)];exact Prod.ext (by simp only;omega) rfl
 by_cases c3:r<65536
 . rw[Lib.encodeRuneZ_three (by omega)];simp only[List.map_cons,List.map_nil,List.cons_append,List.nil_append];have a1:((224+(r:Int) / 4096).toNat.toUInt8).toNat=224+r / 4096:=by rw[Pi (by omega) (by omega)];omega
   have a2:((128+(r:Int) / 64 % 64).toNat.toUInt8).toNat=128+r / 64 % 64:=by rw[Pi (by omega) (by omega)];omega
   have a3:((128+(r:Int) % 64).toNat.toUInt8).toNat=128+r % 64:=by rw[Pi (by omega) (by omega)];omega
   generalize (224+(r:Int) / 4096).toNat.toUInt8=x1 at*
   generalize (128+(r:Int) / 64 % 64).toNat.toUInt8=x2 at*
   generalize (128+(r:Int) % 64).toNat.toUInt8=x3 at*
   refine Ly (l:=x1::x2::x3::rest) (r:=r) (n:=3) (by simp) ?_ (by decide);rw[Fc];simp only[List.getD_cons_zero,List.getD_cons_succ,a1,a2,a3,List.length_cons];unfold Lib.decodeN;have d1:r / 64 / 64=r / 4096:=by omega
   rw[if_neg (by omega),if_neg (by omega),if_pos (by omega),if_pos (by omega)];exact Prod.ext (by simp only;omega) rfl
 . rw[Lib.encodeRuneZ_four (by omega) (by omega)];simp only[List.map_cons,List.map_nil,List.cons_append,List.nil_append];have a1:((240+(r:Int) / 262144).toNat.toUInt8).toNat=240+r / 262144:=by rw[Pi (by omega) (by omega)];omega
   have a2:((128+(r:Int) / 4096 % 64).toNat.toUInt8).toNat=128+r / 4096 % 64:=by rw[Pi (by omega) (by omega)];omega
   have a3:((128+(r:Int) / 64 % 64).toNat.toUInt8).toNat=128+r / 64 % 64:=by rw[Pi (by omega) (by omega)];omega
   have a4:((128+(r:Int) % 64).toNat.toUInt8).toNat=128+r % 64:=by rw[Pi (by omega) (by omega)];omega
   generalize (240+(r:Int) / 262144).toNat.toUInt8=x0 at*
   generalize (128+(r:Int) / 4096 % 64).toNat.toUInt8=x1 at*
   generalize (128+(r:Int) / 64 % 64).toNat.toUInt8=x2 at*
   generalize (128+(r:Int) % 64).toNat.toUInt8=x3 at*
   refine Ly (l:=x0::x1::x2::x3::rest) (r:=r) (n:=4) (by simp) ?_ (by decide);rw[Fc];simp only[List.getD_cons_zero,List.getD_cons_succ,a1,a2,a3,a4,List.length_cons];unfold Lib.decodeN;rw[if_neg (by omega),if_neg (by omega),if_neg (by omega),if_pos (by omega),if_pos (by omega)];exact Prod.ext (by simp only;omega) rfl
theorem Re (r:Int):(Lib.encodeRune r).length<=4:=by
 unfold Lib.encodeRune Lib.encodeRuneZ
 repeat' split
 all_goals simp
theorem Oo (s:ByteArray) (w:World) (hs:s.size<=1000000000) (hv:Az s=true):
 Calls Tryz.prog 61 #[.string s] w fun e w'=>e=.returned (.tuple #[.string ⟨(Ed s).toArray⟩,.int .i64 0])/\Below w.heap.size w w':=by
 have cV:=Oq s w hs;rw[hv]at cV;have HR:=qz (Vr s w hs);have hlr:(Cr s).length<=s.size:=Gn _ _ _;have HS:Hid (∀x ∈ Cr s,Fq x.2):=Iw _ _ _;unfold Ed;generalize Cr s=L at*
 have HV:=qz cV;clear cV hv;go_enter Tryz.func61,Tryz.ntmps61;go_wp2_with (fail);(with_reducible refine HV.out.mono ?_);rintro e w' ⟨rfl,rfl⟩;clear HV;go_wp2_with (fail);(with_reducible refine HR.out.mono ?_);rintro e w1 ⟨⟨v1,v2,rfl,hown⟩,hb1⟩;clear HR;obtain⟨la,lc,rfl,hcells⟩: ∃la lc,v1=.slice la L.length lc/\Hid (∀(k:Nat) (x:Nat×Nat),L[k]? =some x-> ∃g off,la=some ⟨g,off,none⟩/\g<w1.heap.size/\w1.cell? ⟨g,off+k,none⟩=some (.int .i64 x.2)):=by
  rcases hown.2 with⟨hv,hz⟩|⟨g,cap,cur,rfl,hbg,hg,hnc,hcm,hcs,htake⟩
  . have hL:L= []:=List.length_eq_zero_iff.1 hz;subst hL;exact⟨none,0,hv,fun k x hx=>by simp at hx⟩
  . refine⟨some ⟨g,0,none⟩,cap,rfl,fun k x hx=>⟨g,0,rfl,(Array.getElem?_eq_some_iff.1 hg).1, ?_⟩⟩;have:=hown.cells (g:=g) rfl k (.int .i64 x.2) (by simp[hx]);rw[Go.WideShapes.add_plain,Nat.zero_add]at this;rw[Nat.zero_add];exact this
 have hb1':=qz hb1;have H0:Hid ((⟨#[34]⟩:ByteArray).data.toList=34::A5 (L.take 0)):=by show _=_;simp[A5]
 clear hown hb1;go_wp2_with (fail);go_loopw [4,8] (fun o i wr=> ∃(T:ByteArray) (k:Nat),o=.string T/\i=.int .i64 k/\k<=L.length/\Hid (T.data.toList=34::A5 (L.take k))/\Hid (Below w1.heap.size w1 wr)) (fun _ i _=>L.length - (intOf i).toNat)
 case atStart=>exact⟨_,0,rfl,rfl,Nat.zero_le _,H0,Below.refl _ _⟩
 case round=>
  obtain⟨T,k,rfl,rfl,hk,hT,hbw⟩:=hrel;clear H0;obtain⟨wo,rfl⟩: ∃wo:World,wo=wr:=⟨_,rfl⟩;have hTs:T.size<=6*L.length+1:=by
   have h1:=congrArg List.length hT.out;have h2:=Ic (L.take k);have h3:(L.take k).length<=L.length:=by rw[List.length_take];omega
   have h4:T.data.toList.length=T.size:=by rw[Array.length_toList];rfl
   simp only[List.length_cons]at h1;omega
  by_cases hlt:k<L.length
  . obtain⟨⟨p,r⟩,hx⟩: ∃v,L[k]? =some v:=⟨_,List.getElem?_eq_getElem hlt⟩;obtain⟨g,off,rfl,hg,hc0⟩:=hcells.out k _ hx;have hc:wo.cell? ⟨g,off+k,none⟩=some (.int .i64 r):=(hbw.out.cell (p:=⟨g,off+k,none⟩) hg).trans hc0;have hsc:=HS.out _ (List.mem_of_getElem? hx);unfold Fq at hsc;simp only at hsc;obtain⟨hsc1,hsc2⟩:=hsc;have htk:L.take (k+1)=L.take k++ [(p,r)]:=by rw[List.take_add_one,hx];rfl
    have hsn:Hid (34::A5 (L.take (k+1))=T.data.toList++Cc r):=by
     show _=_;rw[htk,hT.out];simp[A5]
    have Hsc:=qz hsc2;have hB0:Hid (Below w1.heap.size w1 wo):=hbw;have hN0:Hid (Qh r 0):=fun i hi=>by omega
    clear hT htk hx hc0 hsc2 hbw;go_wp2_with (fail);go_loopw [10] (fun j wr=> ∃n:Nat,j=.int .i64 n/\n<=8/\Hid (Qh r n)/\Hid (Below w1.heap.size w1 wr)) (fun j _=>8 - (intOf j).toNat)
    case atStart=>exact⟨0,rfl,by omega,hN0,hB0⟩
    case round=>
     obtain⟨n,rfl,hn,hno,hbw⟩:=hrel;clear hN0 hB0;rcases(by omega:n=2\/(n≠2/\n<8)\/n=8)with rfl|⟨hn2,hn8⟩|rfl
     . have hno':=qz (hno.out.step (.inl rfl));clear hno hsn hc;go_wp2_with (fail);go_roundw
       case rel=>exact⟨2+1,rfl,by omega,hno',hbw⟩
       case measure=>simp[intOf]
     . obtain⟨c,hcc⟩: ∃c,Ll[n]? =some c:=⟨_,List.getElem?_eq_getElem hn8⟩;have hcd:Ll.getD n 0=c:=by simp[List.getD,hcc]
       have cC:=qz (Xn n c hcc wr);have hn2':((n:Int)==2)=false:=by simp;omega
       by_cases hcr:c=(r:Int)
       . have hq:Cc r= [92,Sl.getD n 0]:=by
          have:=Tz ⟨n,hn8⟩ hn2;simp only[hcd,hcr,Int.toNat_natCast]at this;exact this
         rw[hq]at hsn;subst hcr;have hlet:=fun w=>Aiv n hn8 w;generalize Sl.getD n 0=c8 at hsn hlet;have hT':Hid ((T++⟨#[92]⟩++⟨#[c8]⟩).data.toList=34::A5 (L.take (k+1))):=by
          show _=_;rw[hsn.out,ByteArray.data_append,Array.toList_append,ByteArray.data_append,Array.toList_append];simp
         clear hno hsn hcc hcd hc hq;go_wp2_with (fail);(with_reducible refine cC.out.mono ?_);rintro e w2 ⟨rfl,hb2⟩;have hbw2:=qz (hbw.out.trans (hb2.mono hbw.out.size));clear hb2 hbw cC;have hl2:=hlet w2;clear hlet;go_wp2;go_roundw
         case rel=>exact⟨_,k+1,rfl,by go_num,by omega,hT',hbw2⟩
         case measure=>simp only[intOf];omega
       . have hno':=qz (hno.out.step (.inr (by rw[hcd];exact hcr)));have hcr1:(c==(r:Int))=false:=by simpa using hcr
         have hcr2:(c != (r:Int))=true:=by simpa using hcr
         clear hno hsn hcc hcd hc hcr;go_wp2_with (fail);(with_reducible refine cC.out.mono ?_);rintro e w2 ⟨rfl,hb2⟩;have hbw2:=qz (hbw.out.trans (hb2.mono hbw.out.size));clear hb2 hbw cC;go_wp2;go_roundw
         case rel=>exact⟨n+1,by go_num,by omega,hno',hbw2⟩
         case measure=>simp only[intOf];omega
     . have hq:=Wu hno.out;rw[hq]at hsn;clear hno hc hq;by_cases h32:r<32
       . rw[if_pos h32]at hsn;have hT':Hid ((T++⟨#[92,117,48,48]⟩++⟨#[Lr (r / 16)]⟩++⟨#[Lr (r % 16)]⟩).data.toList=34::A5 (L.take (k+1))):=by
          show _=_;rw[hsn.out,ByteArray.data_append,Array.toList_append,ByteArray.data_append,Array.toList_append,ByteArray.data_append,Array.toList_append];simp
         have hx1:=fun w=>Adg (r / 16) (by omega) w;have hx2:=fun w=>Adg (r % 16) (by omega) w;have hq16:(r:Int) / 16=((r / 16:Nat):Int):=by omega
         have hm16:(r:Int) % 16=((r % 16:Nat):Int):=by omega
         have hq16':(r:Int).tdiv 16=((r / 16:Nat):Int):=by rw[Int.tdiv_eq_ediv_of_nonneg (by omega)];omega
         have hm16':(r:Int).tmod 16=((r % 16:Nat):Int):=by rw[Int.tmod_eq_emod_of_nonneg (by omega)];omega
         have hql:r / 16<2:=by omega
         have hml:r % 16<16:=by omega
         generalize Lr (r / 16)=e1 at*
         generalize Lr (r % 16)=e2 at*
         generalize r / 16=q at*
         generalize r % 16=m at*
         have hw1:IntKind.i64.wrap ((q:Int)+1)=(q:Int)+1:=IntWalk.i64_in _ (by omega);have hw2:IntKind.i64.wrap ((m:Int)+1)=(m:Int)+1:=IntWalk.i64_in _ (by omega);clear hsn;go_wp2_with (fail);go_quiet (fail);have hbw2:=qz (Cg hbw.out nq);clear hx1 hx2 hq16 hm16 hq16' hm16' hw1 hw2 hbw;go_wp2;go_roundw
         case rel=>exact⟨_,k+1,rfl,by go_num,by omega,hT',hbw2⟩
         case measure=>simp only[intOf];omega
       . rw[if_neg h32]at hsn;have cB:=qz (Vq r (by omega) (by omega) (by have:=Hsc.out;omega) wr);have hel:(Lib.encodeRune (r:Int)).length<=4:=Re r;obtain⟨X,hX⟩: ∃X:ByteArray,(⟨(Lib.encodeRune (r:Int)).toArray⟩:ByteArray)=X:=⟨_,rfl⟩;have hXs:X.size<=4:=by rw[<-hX];exact hel
         have hT':Hid ((T++X).data.toList=34::A5 (L.take (k+1))):=by
          show _=_;rw[hsn.out,ByteArray.data_append,Array.toList_append,<-hX]
         rw[hX]at cB;clear hsn hel hX;go_wp2_with (fail);(with_reducible refine cB.out.mono ?_);rintro e w2 ⟨rfl,hb2⟩;have hbw2:=qz (hbw.out.trans (hb2.mono hbw.out.size));clear hb2 hbw cB;go_wp2;go_roundw
         case rel=>exact⟨_,k+1,rfl,by go_num,by omega,hT',hbw2⟩
         case measure=>simp only[intOf];omega
  . obtain rfl:k=L.length:=by omega
    have hT':=hT.out;rw[List.take_length]at hT';have hE:(⟨(34::(A5 L++ [34])).toArray⟩:ByteArray)=T++⟨#[34]⟩:=by
     apply ByteArray.ext;rw[ByteArray.data_append];apply Array.ext';rw[Array.toList_append,hT'];simp
    have HE:=qz hE;clear hT hT' hE;go_wp2;go_ret2;exact⟨by rw[HE.out];rfl,hb1'.out.trans (hbw.out.mono hb1'.out.size)⟩
abbrev Ak:Array Value:= #[.int .i64 0,.bool false,.int .i64 0,.string ⟨#[]⟩,.slice none 0 0,.slice none 0 0]
theorem Eu {B:Nat} {w4:World} {k:Int} {b:Bool} {n:Int} {t:ByteArray} {l:List Val} {o:List (ByteArray×Val)} {cs:List Value} (h:An B w4 (dV (.mk k b n t l o)) cs): ∃la lc oa oc,cs= [.int .i64 k,.bool b,.int .i64 n,.string t,.slice la l.length lc,.slice oa o.length oc]:=by
 have h1:=Co _ _ h.now;simp only[Ac]at h1;obtain⟨la,lc,oa,oc,e,_,_⟩:=h1;exact⟨la,lc,oa,oc,e⟩
theorem Bd {w:World} {g:Nat} {t:TypeId} {a0 a1 a2 a3 a4 a5:Value} (h:Aj w g t #[a0,a1,a2,a3,a4,a5]):
 w.cell? ⟨g,0,none⟩=some a0/\w.cell? ⟨g,1,none⟩=some a1/\w.cell? ⟨g,2,none⟩=some a2/\w.cell? ⟨g,3,none⟩=some a3/\w.cell? ⟨g,4,none⟩=some a4/\w.cell? ⟨g,5,none⟩=some a5:=
 ⟨h.cell 0,h.cell 1,h.cell 2,h.cell 3,h.cell 4,h.cell 5⟩
theorem Da {B:Nat} {w:World} {key:ByteArray} {v:Val} {cs:List Value} (h:An B w (dV v) cs):An B w (dP (key,v)) (.string key::cs):=fun w'' h1 h2=>⟨[.string key],cs,rfl,⟨rfl,rfl⟩,cs, [],by simp,h w'' h1 h2,rfl⟩
theorem O7:(Tryz.prog.info? 74).map (fun i=>(i.zero,i.size,i.bytes))=some (some (.agg #[.string ⟨#[]⟩,.int .i64 0,.bool false,.int .i64 0,.string ⟨#[]⟩,.slice none 0 0,.slice none 0 0]),7,104):=by kernel_rfl
theorem Aq {fn:Func} {t:Tmp} {tmps:Array Value} {W:World} {R:Nat} {a0 a1 a2 a3 a4 a5:Value} (h:fn.results= #[.cell t 42]) (hp:tmps.getD t undef=.pointer (some ⟨R,0,none⟩)) (hx:Aj W R 42 #[a0,a1,a2,a3,a4,a5]):
 (results fn tmps).run Tryz.prog W=.ok (.agg #[a0,a1,a2,a3,a4,a5]) W:=by
 obtain⟨c0,c1,c2,c3,c4,c5⟩:=Bd hx;clear hx;have hp':tmps[t]?.getD undef=.pointer (some ⟨R,0,none⟩):=by simpa using hp
 simp[results,h,hp',go_sem,c0,c1,c2,c3,c4,c5]
theorem Ej.slice_n {b:Nat} {t:TypeId} {s n:Nat} {wr:World} {l:List D} {V:Value} (h:Ej b t s wr l V) (hn:l.length=n): ∃a c,V=.slice a n c:=by
 subst hn;exact h.slice
theorem Dj {w w6:World} {R b:Nat} {t e:TypeId} {sz:Nat} {l:List D} {V:Value} {cs:Array Value} {wr:World} (h:Aj w R t cs) (hg:w.grownBy w6 V.ownBlock) (hr:Ej b e sz wr l V) (hR:R<b):Aj w6 R t cs:=
 h.grown hg fun e=>by have:=(hr.base R e.symm).1;omega
theorem J4 {w w6:World} {B b:Nat} {e:TypeId} {sz:Nat} {l:List D} {V:Value} {w0 wr:World} (h:Below B w0 w) (hg:w.grownBy w6 V.ownBlock) (hr:Ej b e sz wr l V) (hB:B<=b) (hBw:B<=w.heap.size):Below B w0 w6:=
 h.grown hg hBw fun k hk=>Nat.le_trans hB (hr.base k hk).1
theorem E7 (w:World) (a0 a1 a2 a3 a4 a5 a6:Value):B5 (w.alloc (.cells #[a0,a1,a2,a3,a4,a5,a6] 74)) (w.heap.size+1) 7 (some ⟨w.heap.size,0,none⟩) 1 [a0,a1,a2,a3,a4,a5,a6]:=Ge (Aj.new w 74 #[a0,a1,a2,a3,a4,a5,a6])
theorem Pn:(Tryz.prog.info? 42).map (fun i=>(i.zero,i.size,i.bytes))=some (some (.agg #[.int .i64 0,.bool false,.int .i64 0,.string ⟨#[]⟩,.slice none 0 0,.slice none 0 0]),6,88):=by kernel_rfl
theorem Fo (w:World) (a0 a1 a2 a3 a4 a5:Value):B5 (w.alloc (.cells #[a0,a1,a2,a3,a4,a5] 42)) (w.heap.size+1) 6 (some ⟨w.heap.size,0,none⟩) 1 [a0,a1,a2,a3,a4,a5]:=Ge (Aj.new w 42 #[a0,a1,a2,a3,a4,a5])
theorem Fl {fn:Func} {t u:Tmp} {tmps:Array Value} {W:World} {R:Nat} {a0 a1 a2 a3 a4 a5:Value} (h:fn.results= #[.cell t 42,.tmp u]) (hp:tmps.getD t undef=.pointer (some ⟨R,0,none⟩)) (hx:Aj W R 42 #[a0,a1,a2,a3,a4,a5]):
 (results fn tmps).run Tryz.prog W=.ok (.tuple #[.agg #[a0,a1,a2,a3,a4,a5],tmps.getD u undef]) W:=by
 obtain⟨c0,c1,c2,c3,c4,c5⟩:=Bd hx;clear hx;have hp':tmps[t]?.getD undef=.pointer (some ⟨R,0,none⟩):=by simpa using hp
 simp[results,h,hp',go_sem,c0,c1,c2,c3,c4,c5]
end Go.Proofs.YtobmaegpfbheoaaGreatDoor
