/- Parts: parse.newReader: a reader at the beginning of a text. No condition. Printed by mknewr.py. -/
import Derived.Deep.RegionWith
import Derived.LoopTactic
import Derived.Deep.Cut
import Derived.Test.YtmglfdckpjegdaaGreatDoorKMu6
import Derived.Test.YtmglfdckpjegdaaGreatDoorKMu7
import Derived.Test.YtmglfdckpjegdaaGreatDoorKMu8
set_option maxHeartbeats 20000000
namespace Go.Proofs.YtmglfdckpjegdaaGreatDoor
open Go.RowKit
def N4 (a b:ByteArray):Bool:=Op.bytesLess a.toList b.toList
def atO (k:ByteArray):List (ByteArray×Val)->Nat
 | []=>0
 |p::r=>if N4 p.1 k then atO k r+1 else 0
def Ua (k:ByteArray) (acc:List (ByteArray×Val)):Bool:=(acc[atO k acc]?).any fun p=>p.1.toList==k.toList
def Agi (m:ByteArray×Val) (acc:List (ByteArray×Val)):List (ByteArray×Val):=acc.take (atO m.1 acc)++([m]++acc.drop (atO m.1 acc))
def Fc:List (ByteArray×Val)->List (ByteArray×Val)->Option (List (ByteArray×Val))
 | [],acc=>some acc
 |m::r,acc=>if Ua m.1 acc then none else Fc r (Agi m acc)
theorem Aif (m:ByteArray×Val) (acc:List (ByteArray×Val)):Av (Agi m acc)=Av acc+Gi m:=by
 have h:=congrArg Av (List.take_append_drop (atO m.1 acc) acc);rw[Pm]at h;simp only[Agi,Pm,Av];omega
theorem Acz: ∀{l:List (ByteArray×Val)} (k:Nat),Jf l->Jf (l.take k)
 | [],k,_=>by simp[Jf]
 |_::_,0,_=>by simp[Jf]
 |x::r,k+1,h=>by
  simp only[List.take_succ_cons,Jf]at h ⊢;exact⟨h.1,Acz k h.2⟩
theorem Acy: ∀{l:List (ByteArray×Val)} (k:Nat),Jf l->Jf (l.drop k)
 | [],k,_=>by simp[Jf]
 |_::_,0,h=>h
 |x::r,k+1,h=>by
  simp only[List.drop_succ_cons,Jf]at h ⊢;exact Acy k h.2
theorem An1 {m:ByteArray×Val} {acc:List (ByteArray×Val)} (h:Jf acc) (hm:Jg m.2):Jf (Agi m acc):=by
 obtain⟨k,v⟩:=m;exact Un (Acz _ h) (Un ⟨hm,trivial⟩ (Acy _ h))
theorem Tk: ∀{l acc o:List (ByteArray×Val)},Fc l acc=some o->Av o=Av acc+Av l
 | [],acc,o,h=>by
   simp only[Fc,Option.some.injEq]at h;subst h;simp[Av]
 |m::r,acc,o,h=>by
  simp only[Fc]at h;by_cases hh:Ua m.1 acc=true
  . rw[if_pos hh]at h;cases h
  . rw[if_neg hh]at h;rw[Tk h,Aif];simp only[Av];omega
theorem Zb: ∀{l acc o:List (ByteArray×Val)},Fc l acc=some o->Jf acc->Jf l->Jf o
 | [],acc,o,h,ha,_=>by
   simp only[Fc,Option.some.injEq]at h;exact h▸ha
 |(k,v)::r,acc,o,h,ha,hl=>by
  simp only[Fc]at h;by_cases hh:Ua k acc=true
  . rw[if_pos hh]at h;cases h
  . rw[if_neg hh]at h;exact Zb h (An1 ha hl.1) hl.2
def Nt:List Int:= [34,92,47,8,12,10,13,9]
theorem Abu (k:Nat) (c:Int) (h:Nt[k]? =some c) (w:World):
 Calls Tryz.prog 86 #[.int .i64 k] w fun e w'=>e=.returned (.int .i64 c)/\Below w.heap.size w w':=by
 have hk:k<8:=(List.getElem?_eq_some_iff.1 h).1;rcases(by omega:k=0\/k=1\/k=2\/k=3\/k=4\/k=5\/k=6\/k=7)with rfl|rfl|rfl|rfl|rfl|rfl|rfl|rfl
 all_goals
  (obtain rfl:=Option.some.inj h
   clear h hk;go_enter Tryz.func86,Tryz.ntmps86;go_wp2;go_ret;exact⟨rfl,(Below.refl _ _).alloc (Nat.le_refl _) _⟩)
theorem Ag8: ∀v,Aab v:=by
 refine Val.ind ?_;intro k b n t l o IHl IHo W B g p keeps acc cs k' b' n' t' l' o' hv h5 hT hH hp hpg hW hok hbk hlen
 injection hv with e1 e2 e3 e4 e5 e6
 subst e1 e2 e3 e4 e5 e6;simp only[Ab]at hH;obtain⟨la,lc,oa,oc,rfl,hla,hoa⟩:=hH;simp only[okV]at hok;simp only[Val.bulk]at hbk hlen;by_cases h2:k=2
 . subst h2;exact Aes W B g p keeps acc b _ _ _ _ _ hp hW (by omega)
 by_cases h3:k=3
 . subst h3;exact Ag9 W B g p keeps acc n _ _ _ _ _ hp hT hok.2.1.1 hok.2.1.2 hpg hW (by omega)
 by_cases h4:k=4
 . subst h4;exact Aeu W B g p keeps acc t _ _ _ _ _ hp hT hok.1 (by omega) hpg hW (by omega)
 by_cases h5':k=5
 . subst h5';rcases hla with rfl|⟨gl,off,rfl,hg,hL⟩
   . exact T4 [] IHl W B g p h5 keeps acc la lc _ _ _ _ _ hp 0 0 (.inl rfl) hT hpg hW hok.2.2.1 (by omega) (by omega)
   . exact T4 l IHl W B g p h5 keeps acc _ lc _ _ _ _ _ hp gl off (.inr ⟨rfl,hg,hL⟩) hT hpg hW hok.2.2.1 (by omega) (by omega)
 by_cases h6:k=6
 . subst h6;rcases hoa with rfl|⟨gl,off,rfl,hg,hL⟩
   . exact Qg [] IHo W B g p h5 keeps acc oa oc _ _ _ _ _ hp 0 0 (.inl rfl) hT hpg hW hok.2.2.2 (by omega) (by omega)
   . exact Qg o IHo W B g p h5 keeps acc _ oc _ _ _ _ _ hp gl off (.inr ⟨rfl,hg,hL⟩) hT hpg hW hok.2.2.2 (by omega) (by omega)
 . have ef:Qa k=124:=by simp[Qa,h2,h3,h4,h5',h6]
   have ec:Lr k p= #[]:=by simp[Lr,h2,h3,h4,h5',h6]
   have et:Ak (.mk k b n t l o)= [110,117,108,108]:=by simp[Ak,h2,h3,h4,h5',h6]
   rw[ef,ec,et];exact Aet W B g keeps acc hW (by omega)
theorem Amg: ∀(l:List Val),(∀v ∈ l,∀d,Az v d=0->Jg v->okV v)-> ∀d,Df l d=0->Mz l->okL l
 | [],_,_,_,_=>by simp[okL]
 |v::r,ih,d,h,hi=>by
  simp only[Df]at h;simp only[Mz]at hi;simp only[okL]
  split at h
  . rename_i h0;exact⟨ih v (by simp) d h0 hi.1,Amg r (fun x hx=>ih x (by simp[hx])) d h hi.2⟩
  . rename_i h0;exact absurd h h0
theorem Ami: ∀(l:List (ByteArray×Val)),(∀m ∈ l,∀d,Az m.2 d=0->Jg m.2->okV m.2)-> ∀last d,Ds l last d=0->Jf l->okO l
 | [],_,_,_,_,_=>by simp[okO]
 |(key,v)::r,ih,last,d,h,hi=>by
  simp only[Ds]at h;simp only[Jf,inP]at hi;simp only[okO,okP]
  split at h
  . rename_i h0;refine⟨?_,Ami r (fun x hx=>ih x (by simp[hx])) _ d h hi.2⟩;simp only[Qr]at h0
    split at h0
    . rename_i hv;refine⟨hv, ?_⟩
      cases last with
      |none=>exact ih (key,v) (by simp) d h0 hi.1
      |some q=>
       simp only at h0
       split at h0
       . cases h0
       . exact ih (key,v) (by simp) d h0 hi.1
    . cases h0
  . rename_i h0;exact absurd h h0
theorem V3: ∀v d,Az v d=0->Jg v->okV v:=by
 refine Val.ind ?_;intro k b n t l o hl ho d h hi;simp only[Az]at h;simp only[Jg]at hi;simp only[okV]
 split at h
 . cases h
 split at h
 . cases h
 split at h
 . rename_i hv
   split at h
   . rename_i h0;exact⟨hv,hi.1,Amg l hl _ h0 hi.2.1,Ami o ho _ _ h hi.2.2⟩
   . rename_i h0;exact absurd h h0
 . cases h
theorem Aaw (n:Int):Lib.itoa n≠ []:=by
 unfold Lib.itoa
 split
 . simp
 . intro h;have:=congrArg List.length h;rw[Lib.decDigits_length]at this;have h1:=Lib.nDigits_pos n.toNat;simp at this;omega
theorem Am5 (v:Val):Ak v≠ []:=by
 obtain⟨k,b,n,t,l,o⟩:=v;simp only[Ak]
 split
 . cases b<;>decide
 split
 . intro h;exact Aaw n h
 split
 . simp[Bp]
 split
 . simp
 split
 . simp
 . simp
theorem Apm (W:World) (B:Nat) (keeps:Bool) (h:B<=W.heap.size):Wr (W.alloc (.cells #[.bool keeps,.pointer none,.slice none 0 0,.int .i64 0] 116)) B W.heap.size keeps []:=
 ⟨.pointer none,.slice none 0 0,h,heap_alloc_new _ _,by decide,by simp,.inl rfl,.slice none 0 0,rfl,by cases keeps<;>exact World.ownsRow_nil _ _ _ _⟩
theorem Sa (k:Int) (b:Bool) (n:Int) (t:ByteArray) (l:List Val) (o:List (ByteArray×Val)) (la oa:Option Addr) (lc oc:Nat) (keeps:Bool) (w:World) (hT:Cq w)
 (hV:Ab w w.heap.size (.mk k b n t l o) (Fu k b n t la l.length lc oa o.length oc)) (hb:(Val.mk k b n t l o).bulk<=1000000000) (hok:okV (.mk k b n t l o)):
 Calls Tryz.prog (Qa k) (#[.pointer (some ⟨w.heap.size,0,none⟩)]++Lr k (w.heap.size+1))
  ((w.alloc (.cells #[.bool keeps,.pointer none,.slice none 0 0,.int .i64 0] 116)).alloc (.cells #[.int .i64 k,.bool b,.int .i64 n,.string t,.slice la l.length lc,.slice oa o.length oc] 27))
  fun e w'=>e=.returned (.tuple #[])/\Wr w' w.heap.size w.heap.size keeps (Ak (.mk k b n t l o))/\Below w.heap.size w w':=by
 have hw:=Ag8 (.mk k b n t l o);have h5:=hT.1;have hWA:Wr (w.alloc (.cells #[.bool keeps,.pointer none,.slice none 0 0,.int .i64 0] 116)) w.heap.size w.heap.size keeps []:=Apm w _ keeps (Nat.le_refl _);obtain⟨wA,hA⟩: ∃wA,w.alloc (.cells #[.bool keeps,.pointer none,.slice none 0 0,.int .i64 0] 116)=wA:=⟨_,rfl⟩;have hAb:Below w.heap.size w wA:=hA▸(Below.refl _ _).alloc (Nat.le_refl _) _;have hAz:wA.heap.size=w.heap.size+1:=by rw[<-hA];simp
 rw[hA]at hWA ⊢;have hBb:Below wA.heap.size wA (wA.alloc (.cells #[.int .i64 k,.bool b,.int .i64 n,.string t,.slice la l.length lc,.slice oa o.length oc] 27)):=(Below.refl _ _).alloc (Nat.le_refl _) _;have hAB:Below w.heap.size w (wA.alloc (.cells #[.int .i64 k,.bool b,.int .i64 n,.string t,.slice la l.length lc,.slice oa o.length oc] 27)):=hAb.trans (hBb.mono (by omega));have hc:=hw _ w.heap.size w.heap.size wA.heap.size keeps [] _ k b n t l o rfl h5 (hT.below hAB) (hV.below hAB) (heap_alloc_new wA (.cells #[.int .i64 k,.bool b,.int .i64 n,.string t,.slice la l.length lc,.slice oa o.length oc] 27)) (by omega) (hWA.below hBb) hok hb (by simp;omega);rw[hAz,List.nil_append]at hc;refine hc.mono ?_;rintro e w' ⟨he,h1,h2,h3⟩;exact⟨he,h1,hAB.trans h2⟩
theorem Sf {w:World} {g:Nat} {k:Int} {b:Bool} {n:Int} {t:ByteArray} {x y:Value} (h:w.heap[g]? =some (.cells #[.int .i64 k,.bool b,.int .i64 n,.string t,x,y] 27 (0,0))):
 w.cell? ⟨g,0,none⟩=some (.int .i64 k)/\w.cell? ⟨g,1,none⟩=some (.bool b)/\w.cell? ⟨g,2,none⟩=some (.int .i64 n)/\w.cell? ⟨g,3,none⟩=some (.string t)/\w.cell? ⟨g,4,none⟩=some x/\w.cell? ⟨g,5,none⟩=some y:=by
 refine⟨?_, ?_, ?_, ?_, ?_, ?_⟩<;>(rw[Lib.cell_of_heap h];rfl)
def Eo (v:Val):ByteArray:=if Az v 1=0 then⟨(Ak v).toArray⟩else⟨#[]⟩
theorem Uv (v:Val) (cs:List Value) (w:World) (hT:Cq w) (hV:Ab w w.heap.size v cs) (hb:v.bulk<=1000000000) (hi:Jg v):
 Calls Tryz.prog 35 #[.agg cs.toArray] w fun e w'=>e=.returned (.tuple #[.string (Eo v),.int .i64 (Az v 1)])/\Below w.heap.size w w':=by
 have hV':=hV;obtain⟨k,b,n,t,l,o⟩:=v;simp only[Ab]at hV';obtain⟨la,lc,oa,oc,rfl,_,_⟩:=hV';obtain⟨w1,hw1⟩: ∃w1,w.alloc (.cells (Fu k b n t la l.length lc oa o.length oc).toArray 27)=w1:=⟨_,rfl⟩;have hb1:Below w.heap.size w w1:=hw1▸(Below.refl _ _).alloc (Nat.le_refl _) _;have hz1:w1.heap.size=w.heap.size+1:=by rw[<-hw1];simp
 have hbx:w1.heap[w.heap.size]? =some (.cells #[.int .i64 k,.bool b,.int .i64 n,.string t,.slice la l.length lc,.slice oa o.length oc] 27 (0,0)):=by rw[<-hw1];exact heap_alloc_new _ _
 have hT1:=hT.below hb1;have hV1:=Ab.more (hb1.size) _ _ (hV.below hb1);have hM:=Pf _ _ w1 hT1 hV1 hb;obtain⟨HX,HW⟩:=hid2 hbx hb1;by_cases hm:Az (.mk k b n t l o) 1=0
 . have hok:=V3 _ 1 hm hi;have hB:=fun w' (h:Below w1.heap.size w1 w')=>Sa k b n t l o la oa lc oc true w' (hT1.below h) (Ab.more h.size _ _ (hV1.below h)) hb hok;have hne:=Am5 (.mk k b n t l o);have hown:=fun w=>Pt k b n t la oa l.length lc o.length oc w;unfold Eo;rw[hm]at hM ⊢;rw[if_pos rfl];generalize Ak (.mk k b n t l o)=L at hB hne ⊢;have ent:=Mi;obtain⟨HO,HB,HM,HZ⟩:=hid4 hown hB hM hz1;clear hown hB hM hm hok hi hb hT hV hT1 hV1 hbx hb1 hz1;subst hw1;go_enter Tryz.func35,Tryz.ntmps35;go_wp2_with (first|(go_at_call 46;refine(HM.out).mono ?_;rintro e w2 ⟨rfl,hb2⟩;have hz2:=hb2.size;rw[HZ.out]at hz2;have hlt2:w.heap.size<w2.heap.size:=(by omega);have hbox:w2.heap[w.heap.size]? =some (.cells #[.int .i64 k,.bool b,.int .i64 n,.string t,.slice la l.length lc,.slice oa o.length oc] 27 (0,0)):=(hb2.block _ (by simp)).trans HX.out;obtain⟨d0,d1,d2,d3,d4,d5⟩:=Sf hbox)|(go_at_call 79;refine(HO.out _).mono ?_;rintro e w3 ⟨rfl,rfl⟩)|(go_at_fn (Qa k);refine(HB.out _ hb2).mono ?_;rintro e w4 ⟨rfl,h6,h7⟩;obtain⟨pp,vv,hbld⟩:=h6)|(go_at_call 80;refine(Q8 _ _ _ _ _ _ _ hbld hne).mono ?_;rintro e w5 ⟨rfl,hb5,hk5⟩));go_ret2;exact⟨rfl,HW.out.trans ((hb2.trans ((h7.trans hb5).mono hb2.size)).mono (by simp))⟩
 . unfold Eo;rw[if_neg hm];have hmb:(Az (.mk k b n t l o) 1==0)=false:=by simpa using hm
   generalize Az (.mk k b n t l o) 1=m at*
   have HM:=Lib.hid hM;clear hM hm hi hb hT hV hT1 hV1 hbx hb1 hz1;subst hw1;go_enter Tryz.func35,Tryz.ntmps35;go_wp2_with (go_at_call 46;refine(HM.out).mono ?_;rintro e w2 ⟨rfl,hb2⟩);go_ret2;exact⟨rfl,HW.out.trans (hb2.mono (by simp))⟩
theorem Zg {w:World} {B m:Nat} {v:Value} {ns:List Value} (h:w.ownsRow B 27 6 v m ns):
 ∃la lc,v=.slice la m lc/\(m=0\/ ∃g,la=some ⟨g,0,none⟩/\B<=g/\g<w.heap.size/\ ∀j u,ns[j]? =some u->w.cell? ⟨g,0+j,none⟩=some u):=by
 rcases h.2 with⟨rfl,hz⟩|⟨g,cap,cur,rfl,hbg,hg,_,_,_,_⟩
 . subst hz;exact⟨none,0,rfl,.inl rfl⟩
 . refine⟨_,cap,rfl,.inr ⟨g,rfl,hbg,(Array.getElem?_eq_some_iff.1 hg).1,fun j u hu=> ?_⟩⟩;have:=h.cells (g:=g) rfl j u hu;rw[Go.WideShapes.add_plain]at this;exact this
def Nm (w:World) (v:Val) (e:Ending) (w':World):Prop:=
 (∃la lc,e=.returned (.slice la (within v).length lc)/\(within v= []\/ ∃g off,la=some ⟨g,off,none⟩/\g<w'.heap.size/\A1 w' w'.heap.size (within v) g off))/\Below w.heap.size w w'
set_option maxRecDepth 100000 in
theorem Aen (b:Bool) (n:Int) (t:ByteArray) (l:List Val) (o:List (ByteArray×Val)) (la oa:Option Addr) (oc lc:Nat) (w:World) (hl:l= []\/ ∃g off,la=some ⟨g,off,none⟩/\g<w.heap.size/\A1 w w.heap.size l g off)
 (hb:Bd l<=100000000):
 Calls Tryz.prog 170 #[.agg #[.int .i64 5,.bool b,.int .i64 n,.string t,.slice la l.length lc,.slice oa o.length oc]] w (Nm w (.mk 5 b n t l o)):=by
 have hln:=Ee l;have hw:within (.mk 5 b n t l o)=l:=by simp[within]
 by_cases h0:l= []
 . subst h0;clear hl;go_enter Tryz.func170,Tryz.ntmps170;have Hw:=Lib.hid hw;clear hw
   cases la
   . go_wp2;go_ret;exact⟨⟨none,0,by rw[Hw.out];rfl,.inl Hw.out⟩,(Below.refl _ _).alloc (Nat.le_refl _) _⟩
   . go_wp2;go_ret;exact⟨⟨none,0,by rw[Hw.out];rfl,.inl Hw.out⟩,(Below.refl _ _).alloc (Nat.le_refl _) _⟩
 . obtain⟨g,off,rfl,hg,hL⟩:=hl.resolve_left h0;obtain⟨i0,hi,hz0,hz1,hz2⟩:=info_parts Vj;obtain⟨ns,hrow,hcells⟩:=A1.row hL;obtain⟨hnl,hno⟩:=hrow.len;obtain⟨HI,HZ0,HZ1,HZ2,Hrow,Hcells,Hw,HN,HO⟩:=hid9 hi hz0 hz1 hz2 hrow hcells hw hnl hno;clear hi hz0 hz1 hz2 hrow hcells hw hnl hno hl hL;obtain⟨w1,hw1⟩: ∃w1,w.alloc (.cells #[.int .i64 5,.bool b,.int .i64 n,.string t,.slice (some ⟨g,off,none⟩) l.length lc,.slice oa o.length oc] 27)=w1:=⟨_,rfl⟩;have hb1:Below w.heap.size w w1:=hw1▸(Below.refl _ _).alloc (Nat.le_refl _) _;have hbx1:w1.heap[w.heap.size]? =some (.cells #[.int .i64 5,.bool b,.int .i64 n,.string t,.slice (some ⟨g,off,none⟩) l.length lc,.slice oa o.length oc] 27 (0,0)):=by rw[<-hw1];exact heap_alloc_new _ _
   have hz1:w1.heap.size=w.heap.size+1:=by rw[<-hw1];simp
   obtain⟨HB1,HX1,HS1⟩:=hid3 hb1 hbx1 hz1;have Hown:Hid (w1.ownsRow (w.heap.size+1) 27 6 (.slice none 0 0) 0 []):=World.ownsRow_nil _ _ _ _;clear hb1 hbx1 hz1;subst hw1;go_enter Tryz.func170,Tryz.ntmps170;go_wp2_with (at_builtin;refine wpList_append_own _ rfl (.tmp 8) (.tmp 10) 24 rfl (w.heap.size+1) 27 i0 (.agg #[.int .i64 0,.bool false,.int .i64 0,.string ⟨#[]⟩,.slice none 0 0,.slice none 0 0]) 6 88 Tryz.underlying24 HI.out HZ0.out HZ1.out HZ2.out rfl (by decide) (.slice none 0 0) 0 [] rfl Hown.out ⟨g,off,none⟩ l.length lc ns rfl HN.out ?c1 ?c2 ?c3 ?c4 ?c5 ?_)
   case c1=>
    intro j u hj;rw[Go.WideShapes.add_plain];exact(HB1.out.cell (p:=⟨g,off+j,none⟩) hg).trans (Hcells.out j u hj)
   case c2=>exact HO.out
   case c3=>unfold maxLen;omega
   case c4=>omega
   case c5=>simp
   intro v' w2 hown' hgrow _;obtain⟨la',lc',rfl,hsl⟩:=Zg hown';have hbA:=((HB1.out).grown hgrow (by rw[HS1.out];omega) (fun k hk=>by simp[Value.ownBlock]at hk));have hbox2:w2.heap[w.heap.size]? =some (.cells #[.int .i64 5,.bool b,.int .i64 n,.string t,.slice (some ⟨g,off,none⟩) l.length lc,.slice oa o.length oc] 27 (0,0)):=(hgrow.block _ (by rw[HS1.out];omega) (by simp[Value.ownBlock])).trans HX1.out;have d0:w2.cell? ⟨w.heap.size,0,none⟩=some (.int .i64 5):=by rw[Lib.cell_of_heap hbox2];rfl
   obtain⟨Hsl,HbA⟩:=hid2 hsl hbA;clear hown' hgrow hsl hbA hbox2;go_wp2;go_ret;refine⟨⟨la',lc',by rw[Hw.out];rfl, ?_⟩,HbA.out⟩;rw[Hw.out];refine .inr ?_;rcases Hsl.out with h|⟨g',rfl,_,hg',hc'⟩
   . exact absurd (List.length_eq_zero_iff.1 h) h0
   . exact⟨g',0,rfl,hg',Hrow.out.holds (fun v cs h=>Ab.more HbA.out.size _ _ (h.below HbA.out)) hc'⟩
set_option maxRecDepth 100000 in
theorem Ag7 (b:Bool) (n:Int) (t:ByteArray) (l:List Val) (o:List (ByteArray×Val)) (la oa:Option Addr) (oc lc:Nat) (w:World) (hl:o= []\/ ∃g off,oa=some ⟨g,off,none⟩/\g<w.heap.size/\A5 w w.heap.size o g off)
 (hb:Av o<=100000000):
 Calls Tryz.prog 170 #[.agg #[.int .i64 6,.bool b,.int .i64 n,.string t,.slice la l.length lc,.slice oa o.length oc]] w (Nm w (.mk 6 b n t l o)):=by
 have hln:=Dj o;have hw:within (.mk 6 b n t l o)=o.map (·.2):=by simp[within]
 obtain⟨i0,hi,hz0,hz1,hz2⟩:=info_parts Vj;obtain⟨HI,HZ0,HZ1,HZ2,Hw⟩:=hid5 hi hz0 hz1 hz2 hw;clear hi hz0 hz1 hz2 hw;obtain⟨w1,hw1⟩: ∃w1,w.alloc (.cells #[.int .i64 6,.bool b,.int .i64 n,.string t,.slice la l.length lc,.slice oa o.length oc] 27)=w1:=⟨_,rfl⟩;have hb1:Below w.heap.size w w1:=hw1▸(Below.refl _ _).alloc (Nat.le_refl _) _;have hbx1:w1.heap[w.heap.size]? =some (.cells #[.int .i64 6,.bool b,.int .i64 n,.string t,.slice la l.length lc,.slice oa o.length oc] 27 (0,0)):=by rw[<-hw1];exact heap_alloc_new _ _
 obtain⟨HB1,HX1⟩:=hid2 hb1 hbx1;have Hown:Hid (w1.ownsRow (w.heap.size+1) 27 6 (.slice none 0 0) 0 []):=World.ownsRow_nil _ _ _ _;have HR0:Hid (Oh w w.heap.size ((o.take 0).map (·.2)) []):=rfl;clear hb1 hbx1;subst hw1;go_enter Tryz.func170,Tryz.ntmps170;go_wp2_with (fail);go_loopw [3,4] (fun v1 i wr=> ∃(k:Nat) (ns:List Value),i=.int .i64 k/\k<=o.length/\Hid (wr.ownsRow (w.heap.size+1) 27 6 v1 k ns)/\Hid (Oh w w.heap.size ((o.take k).map (·.2)) ns)/\Hid (Below w.heap.size w wr)/\
  Hid (wr.heap[w.heap.size]? =some (.cells #[.int .i64 6,.bool b,.int .i64 n,.string t,.slice la l.length lc,.slice oa o.length oc] 27 (0,0)))) (fun _ i _=>o.length - (intOf i).toNat)
 case atStart=>exact⟨0, [],rfl,Nat.zero_le _,Hown,HR0,HB1,HX1⟩
 case round=>
  obtain⟨k,ns,rfl,hk,hown,hrow,hbw,hbx⟩:=hrel;clear Hown HR0 HB1 HX1;have b5:wr.cell? ⟨w.heap.size,5,none⟩=some (.slice oa o.length oc):=by rw[Lib.cell_of_heap hbx.out];rfl
  have hz:w.heap.size<wr.heap.size:=(Array.getElem?_eq_some_iff.1 hbx.out).1;by_cases hlt:k<o.length
  . obtain⟨g,off,rfl,hg,hL⟩: ∃g off,oa=some ⟨g,off,none⟩/\g<w.heap.size/\A5 w w.heap.size o g off:=by
     rcases hl with rfl|h
     . simp at hlt
     . exact h
    obtain⟨⟨key,x⟩,hx⟩: ∃v,o[k]? =some v:=⟨_,List.getElem?_eq_getElem hlt⟩;have htk:(o.take (k+1)).map (·.2)=(o.take k).map (·.2)++ [x]:=by rw[List.take_add_one,hx];simp
    obtain⟨k',b',n',t',l',o'⟩:=x;obtain⟨la',lc',oa',oc',hvs,_,e1,e2,e3,e4,e5,e6⟩:=hL.seven hx;have cc:=fun j (u:Value) (h:w.cell? ⟨g,j,none⟩=some u)=>(hbw.out.cell (p:=⟨g,j,none⟩) hg).trans h;have c1:=cc _ _ e1;have c2:=cc _ _ e2;have c3:=cc _ _ e3;have c4:=cc _ _ e4;have c5:=cc _ _ e5;have c6:=cc _ _ e6;have hrow':=hrow.out.snoc hvs;rw[<-htk]at hrow';have Hrow:=Lib.hid hrow';have hno:=Lib.hid hvs.len.2;clear hrow' hrow htk hx hL hg e1 e2 e3 e4 e5 e6 cc hvs;go_wp2_with (at_builtin;refine wpList_append_own _ rfl (.tmp 22) (.tmp 29) 24 rfl (w.heap.size+1) 27 i0 (.agg #[.int .i64 0,.bool false,.int .i64 0,.string ⟨#[]⟩,.slice none 0 0,.slice none 0 0]) 6 88 Tryz.underlying24 HI.out HZ0.out HZ1.out HZ2.out rfl (by decide) u3 k ns rfl (hown.out.alloc _) ⟨wr.heap.size,0,none⟩ 1 1 (Fu k' b' n' t' la' l'.length lc' oa' o'.length oc') rfl rfl ?c1 ?c2 ?c3 ?c4 ?c5 ?_)
    case c1=>
     intro j u hj;rw[Go.WideShapes.add_plain];rw[Lib.cell_of_heap (heap_alloc_new wr (.cells #[.int .i64 k',.bool b',.int .i64 n',.string t',.slice la' l'.length lc',.slice oa' o'.length oc'] 27)),Nat.zero_add];simpa using hj
    case c2=>exact hno.out
    case c3=>unfold maxLen;omega
    case c4=>omega
    case c5=>simp;omega
    intro v' w2 hown' hgrow _;have ho':=Lib.hid hown';have hbA:=Lib.hid ((hbw.out.alloc (by omega) (.cells #[.int .i64 k',.bool b',.int .i64 n',.string t',.slice la' l'.length lc',.slice oa' o'.length oc'] 27)).grown hgrow (by simp;omega) (fun q hq=>by have:=(hown.out.lt q hq).1;omega));have hbx2:Hid (w2.heap[w.heap.size]? =some (.cells #[.int .i64 6,.bool b,.int .i64 n,.string t,.slice la l.length lc,.slice (some ⟨g,off,none⟩) o.length oc] 27 (0,0))):=by
     show _=_;rw[hgrow.block _ (by simp;omega) (fun e=>by have:=(hown.out.lt _ e.symm).1;omega),Lib.alloc_old wr _ _ hz];exact hbx.out
    clear hown' hgrow hown hbw hbx b5 c1 c2 c3 c4 c5 c6 hno;go_wp2;go_roundw
    case rel=>exact⟨k+1,_,by go_num,by omega,ho',Hrow,hbA,hbx2⟩
    case measure=>simp only[intOf];omega
  . obtain rfl:k=o.length:=by omega
    have hr':=hrow.out;rw[List.take_length]at hr';obtain⟨la',lc',rfl,hsl⟩:=Zg hown.out;obtain⟨Hsl,HR⟩:=hid2 hsl hr';have Hlm:Hid (o.length=(o.map (·.2)).length):=by show _=_;simp
    clear hr' hrow hsl hown hl;go_wp2;go_ret;refine⟨⟨la',lc',by rw[Hw.out,<-Hlm.out];rfl, ?_⟩,hbw.out⟩;rw[Hw.out];rcases Hsl.out with h|⟨g',rfl,_,hg',hc'⟩
    . exact .inl (by rw[List.length_eq_zero_iff.1 h];rfl)
    . exact .inr ⟨g',0,rfl,hg',HR.out.holds (fun v cs h=>Ab.more hbw.out.size _ _ (h.below hbw.out)) hc'⟩
def H8 (k:Int) (b:Bool) (n:Int) (t:ByteArray) (ln on:Nat):Bool:=decide (k=0)&& !b&&decide (n=0)&&t.toList.isEmpty&&decide (ln=0)&&decide (on=0)
def Bi (w:World) (g o:Nat):List Value->World
 | []=>w
 |v::r=>Bi (w.setCell ⟨g,o,none⟩ v) g (o+1) r
def Iw (cs:Array Value) (o:Nat):List Value->Array Value
 | []=>cs
 |v::r=>Iw (cs.setIfInBounds o v) (o+1) r
theorem A9: ∀(vs:List Value) (w:World) (g o:Nat),(Bi w g o vs).heap.size=w.heap.size
 | [],_,_,_=>rfl
 |v::r,w,g,o=>by simp only[Bi];rw[A9 r];simp[World.setCell]
theorem A0: ∀(vs:List Value) (w:World) (g o c:Nat),c≠g->(Bi w g o vs).heap[c]? =w.heap[c]?
 | [],_,_,_,_,_=>rfl
 |v::r,w,g,o,c,h=>by
  simp only[Bi];rw[A0 r _ _ _ _ h];simp only[World.setCell,Array.getElem?_modify];rw[if_neg (fun e=>h e.symm)]
theorem N9: ∀(vs:List Value) {w:World} {g o:Nat} {cs:Array Value} {t:TypeId},w.heap[g]? =some (.cells cs t (0,0))->(Bi w g o vs).heap[g]? =some (.cells (Iw cs o vs) t (0,0))
 | [],_,_,_,_,_,h=>h
 |v::r,w,g,o,cs,t,h=>by
  simp only[Bi,Iw];exact N9 r (by simp[World.setCell,Array.getElem?_modify,h])
theorem A7 {B:Nat} {a:World}: ∀(vs:List Value) {w:World} {g o:Nat},Below B a w->B<=g->Below B a (Bi w g o vs)
 | [],_,_,_,h,_=>h
 |v::r,w,g,o,h,hg=>by
  simp only[Bi];exact A7 r (h.setCell hg _) hg
theorem Zf: ∀(vs:List Value) (cs:Array Value) (o:Nat),(Iw cs o vs).size=cs.size
 | [],_,_=>rfl
 |v::r,cs,o=>by simp only[Iw];rw[Zf r];simp
theorem Arf: ∀(vs:List Value) (cs:Array Value) (o i:Nat),o+vs.length<=cs.size->(Iw cs o vs)[i]? =if o<=i/\i<o+vs.length then vs[i - o]? else cs[i]?
 | [],cs,o,i,_=>by
   simp only[Iw,List.length_nil];rw[if_neg (by omega)]
 |v::r,cs,o,i,h=>by
  simp only[List.length_cons]at h;simp only[Iw];rw[Arf r _ _ _ (by simp;omega)];by_cases h1:o+1<=i/\i<o+1+r.length
  . rw[if_pos h1,if_pos ⟨by omega,by simp only[List.length_cons];omega⟩,show i - o=(i - (o+1))+1 from by omega,List.getElem?_cons_succ]
  . rw[if_neg h1];by_cases h2:i=o
    . subst h2;rw[if_pos ⟨Nat.le_refl _,by simp⟩];simp only[Nat.sub_self,List.getElem?_cons_zero];rw[Array.getElem?_setIfInBounds_self_of_lt (by omega)]
    . rw[if_neg (by simp only[List.length_cons];omega),Array.getElem?_setIfInBounds_ne (by omega)]
def Jc (b g:Nat) (t:TypeId) (s N:Nat) (wr:World) (l:List D):Prop:=
 b<=g/\l.length<=N/\(∀d ∈ l,d.cells=s)/\ ∃(cs:Array Value) (ns:List Value),wr.heap[g]? =some (.cells cs t (0,0))/\cs.size=N*s/\(∀(j:Nat) (u:Value),ns[j]? =some u->cs[j]? =some u)/\
  ∀w'':World,wr.heap.size<=w''.heap.size->(∀p:Addr,b<=p.block->p.block<wr.heap.size->p.block≠g->w''.cell? p=wr.cell? p)->Aj w'' wr.heap.size l ns
theorem Jc.start {b g:Nat} {t:TypeId} {s N:Nat} {wr:World} {cs:Array Value} (hb:b<=g) (hg:wr.heap[g]? =some (.cells cs t (0,0))) (hs:cs.size=N*s):Jc b g t s N wr []:=
 ⟨hb,Nat.zero_le _,fun d hd=>(by cases hd),cs, [],hg,hs,fun j u h=>(by simp at h),fun _ _ _=>rfl⟩
theorem Jc.lt {b g:Nat} {t:TypeId} {s N:Nat} {wr:World} {l:List D} (h:Jc b g t s N wr l):g<wr.heap.size:=by
 obtain⟨_,_,_,cs,ns,h4,_⟩:=h;exact(Array.getElem?_eq_some_iff.1 h4).1
theorem Jc.cell {b g:Nat} {t:TypeId} {s N:Nat} {wr:World} {l:List D} (h:Jc b g t s N wr l):(∀j,j<N*s-> ∃u,wr.cell? ⟨g,j,none⟩=some u)/\ ∀j,wr.frozen? ⟨g,j,none⟩=false:=by
 obtain⟨_,_,_,cs,ns,h4,h5,_⟩:=h;refine⟨fun j hj=> ?_,fun j=> ?_⟩
 . exact⟨cs[j],by rw[cell_of_row wr g j cs t (0,0) h4];exact Array.getElem?_eq_getElem (by omega)⟩
 . simp[World.frozen?,h4]
theorem Jc.keep {b g:Nat} {t:TypeId} {s N:Nat} {wr w':World} {l:List D} (h:Jc b g t s N wr l) (hs:wr.heap.size<=w'.heap.size) (hk: ∀i,b<=i->i<wr.heap.size->w'.heap[i]? =wr.heap[i]?):Jc b g t s N w' l:=by
 have hlt:=h.lt;obtain⟨h1,h2,h3,cs,ns,h4,h5,h6,h7⟩:=h;exact⟨h1,h2,h3,cs,ns,(hk g h1 hlt).trans h4,h5,h6,fun w'' k1 k2=>Aj.more (h7 w'' (by omega) (fun p p1 p2 p3=>(k2 p p1 (by omega) p3).trans (World.cell?_of_block (hk p.block p1 p2)))) hs⟩
theorem Jc.below {b g:Nat} {t:TypeId} {s N:Nat} {wr w':World} {l:List D} (h:Jc b g t s N wr l) (hb:Below wr.heap.size wr w'):Jc b g t s N w' l:=h.keep hb.size fun i _ hi=>hb.block i hi
theorem Jc.step {b g:Nat} {t:TypeId} {s N:Nat} {wr w4:World} {l:List D} {d:D} {cs':List Value} (h:Jc b g t s N wr l) (hl:l.length<N) (hd:d.cells=s) (hx:Au wr.heap.size w4 d cs') (h4:Below wr.heap.size wr w4):
 Jc b g t s N (Bi w4 g (l.length*s) cs') (l++ [d]):=by
 have hlt:=h.lt;have h':=h.below h4;obtain⟨h1,h2,h3,cs,ns,k4,h5,h6,h7⟩:=h';have hcl:cs'.length=s:=hx.now.len.1.trans hd;have hnl:ns.length=l.length*s:=by
  have hA:=h7 w4 (Nat.le_refl _) (fun _ _ _ _=>rfl);rw[hA.len.1,Nr h3]
 have hN:l.length*s+s<=N*s:=by
  have:=Nat.mul_le_mul_right s (show l.length+1<=N by omega);rw[Nat.add_mul,Nat.one_mul]at this;exact this
 have hsz:=h4.size;refine⟨h1,by rw[List.length_append,List.length_cons,List.length_nil];omega, ?_,Iw cs (l.length*s) cs',ns++cs',N9 cs' k4,by rw[Zf];exact h5, ?_, ?_⟩
 . intro x hx';rcases List.mem_append.1 hx' with hx'|hx'
   . exact h3 x hx'
   . simp only[List.mem_cons,List.not_mem_nil,or_false]at hx';rw[hx'];exact hd
 . intro j u hj;rw[Arf cs' cs (l.length*s) j (by omega)];by_cases hjn:j<ns.length
   . rw[List.getElem?_append_left hjn]at hj;rw[if_neg (by omega)];exact h6 j u hj
   . rw[List.getElem?_append_right (by omega)]at hj;have:=(List.getElem?_eq_some_iff.1 hj).1;rw[if_pos ⟨by omega,by omega⟩,<-hnl];exact hj
 . intro w'' k1 k2;rw[A9]at k1 k2 ⊢;have hfar: ∀p:Addr,b<=p.block->p.block<w4.heap.size->p.block≠g->w''.cell? p=w4.cell? p:=fun p p1 p2 p3=>(k2 p p1 p2 p3).trans (World.cell?_of_block (A0 cs' w4 g _ _ p3));exact(h7 w'' k1 hfar).snoc (hx w'' k1 (fun p p1 p2=>hfar p (by omega) p2 (by omega)))
theorem Jc.close {b g:Nat} {t:TypeId} {s:Nat} {wr:World} {l:List D} (h:Jc b g t s l.length wr l) (c:Nat):Au b wr (.row s l) [.slice (some ⟨g,0,none⟩) l.length c]:=by
 have hlt:=h.lt;obtain⟨h1,h2,h3,cs,ns,h4,h5,h6,h7⟩:=h;intro w'' k1 k2;refine⟨_,c,rfl,h3,ns,h7 w'' k1 (fun p p1 p2 _=>k2 p p1 p2),.inr ⟨g,0,rfl,hlt,fun j u hu=> ?_⟩⟩;rw[k2 _ h1 hlt,Nat.zero_add,cell_of_row wr g j cs t (0,0) h4];exact h6 j u hu
theorem Aa (w:World) (o:Obj):Below w.heap.size w (w.alloc o):=(Below.refl _ _).alloc (Nat.le_refl _) _
theorem Akr (n:Nat):((n:Int)==0)=decide (n=0):=by rw[Bool.eq_iff_iff];simp
theorem Re (a b:Int):(a==b)=decide (a=b):=by rw[Bool.eq_iff_iff];simp
theorem Bc {W w1:World} (hb:Below W.heap.size W w1):(∀b o,b<W.heap.size->w1.cell? ⟨b,o,none⟩=W.cell? ⟨b,o,none⟩)/\(∀b o,b<W.heap.size->w1.frozen? ⟨b,o,none⟩=W.frozen? ⟨b,o,none⟩):=
 ⟨fun b o h=>hb.cell (p:=⟨b,o,none⟩) h,fun b o h=>hb.frozen (p:=⟨b,o,none⟩) h⟩
attribute [local go_sem] Oper.semAt_some
set_option maxRecDepth 100000 in
theorem Aea (s:ByteArray) (b:Nat) (hs:s.size<=1000000000):
 Ahe Tryz.prog 218 #[.pointer (some ⟨b,0,none⟩)] (fun x:Nat×Nat=> #[.int .i64 x.1,.int .i32 x.2]) (Ca s) (fun A=>A.cell? ⟨b,0,none⟩=some (.string s)/\Cq A):=by
 intro n l J Jx W hJn hJx hJb hY h0;refine callsIn_of_wp Tryz.func218 rfl trivial ?_ rfl;simp only[Tryz.ntmps218,List.size_toArray,List.length_cons,List.length_nil,Nat.reduceAdd,Nat.reduceSub,Array.replicate_succ,Array.replicate_zero,List.push_toArray,List.append_toArray,List.nil_append,List.cons_append]
 gi_wp2
 gi_loopw [3] (fun i wr=> ∃(pre:List (Nat×Nat)) (f k:Nat),i=.int .i64 k/\k<=s.size/\s.size - k<=f/\Hid (Ca s=pre++A8 f (s.data.toList.drop k) k)/\J pre wr) (fun i _=>s.size - (intOf i).toNat)
 case atStart=>exact⟨[],s.size,0,rfl,Nat.zero_le _,by omega,rfl,h0⟩
 case round=>
  obtain⟨pre,f,k,rfl,hk,hf,hr,hJ⟩:=hrel;have hcr:wr.cell? ⟨b,0,none⟩=some (.string s):=(hJb _ _ hJ).1;have hTr:Cq wr:=(hJb _ _ hJ).2;by_cases hlt:k<s.size
  . have hne:s.data.toList.drop k≠ []:=by
     intro e;have:=congrArg List.length e;rw[List.length_drop,<-Lib.size_eq]at this;simp at this;omega
    obtain⟨f,rfl⟩: ∃f',f=f'+1:=⟨f - 1,by omega⟩;have cD:=Tryz.utf8_DecodeRuneInString (s.extract k s.size) wr hTr.2.1;have hdc:Lib.decodeGo (s.extract k s.size)=Lib.decodeL (s.data.toList.drop k):=S8 s k hlt;have hw1:=Lib.decodeL_width (s.data.toList.drop k);have hw2:=Lib.decodeL_le _ hne;have hw3:=Lib.decodeL_rune (s.data.toList.drop k);rw[List.length_drop,<-Lib.size_eq]at hw2;have hr':=hr.out;simp only[A8]at hr';rw[if_neg hne,List.drop_drop]at hr';rw[hdc]at cD;generalize Lib.decodeL (s.data.toList.drop k)=D at cD hw1 hw2 hw3 hr';obtain⟨r,z⟩:=D;simp only at cD hw1 hw2 hw3 hr';have CD:=Lib.hid cD;clear cD hdc hne hr;by_cases hbad:r=65533/\z=1
    . rw[if_pos hbad,List.append_nil]at hr';have Hr:=Lib.hid hr';obtain⟨hr1,hz1⟩:=hbad;have e1:((r:Int)==65533)=true:=by simp;omega
      have e2:((z:Int)==1)=true:=by simp;omega
      clear hr' hr1 hz1
      gi_wp2_with (refine⟨trivial, ?_⟩;gi_at_call 219;refine(callsIn_wide.2 CD.out).mono ?_;rintro e w2 ⟨rfl,hb2⟩;have hJ2:=hJn _ _ _ hJ hb2)
      refine bodyPost_ret (results_none rfl _ _ _) rfl ?_;exact⟨⟨_,rfl⟩,.inl (by rw[Hr.out];exact hJ2)⟩
    . rw[if_neg hbad]at hr';have Hr:=Lib.hid hr';have Hr2:Hid (Ca s=(pre++ [(k,r)])++A8 f (s.data.toList.drop (k+z)) (k+z)):=by
       show Ca s=_;rw[hr'];simp
      clear hr';rcases(by omega:r≠65533\/(r=65533/\z≠1))with h1|⟨h1,h2⟩
      . have e1:((r:Int)==65533)=false:=by simp;omega
        clear h1 hbad
        gi_wp2_with (refine⟨trivial, ?_⟩;gi_at_call 219;refine(callsIn_wide.2 CD.out).mono ?_;rintro e w2 ⟨rfl,hb2⟩;obtain⟨fn,tmps,assign,body,hy,hR⟩:=hY pre (k,r) _ w2 Hr.out (hJn _ _ _ hJ hb2);dsimp only at hy)
        refine hR.mono ?_;rintro e W3 (⟨rfl,hJ3⟩|⟨rfl,hJ3⟩);rotate_left
        . clear hy hR
          gi_wp2
          refine bodyPost_ret (results_none rfl _ _ _) rfl ?_;exact⟨⟨_,rfl⟩,.inr hJ3⟩
        clear hy hR
        gi_wp2
        go_roundw
        case rel=>exact⟨pre++ [(k,r)],f,k+z,by go_num,by omega,by omega,Hr2,hJ3⟩
        case measure=>simp[intOf];omega
      . have e1:((r:Int)==65533)=true:=by simp;omega
        have e2:((z:Int)==1)=false:=by simp;omega
        clear h1 h2 hbad
        gi_wp2_with (refine⟨trivial, ?_⟩;gi_at_call 219;refine(callsIn_wide.2 CD.out).mono ?_;rintro e w2 ⟨rfl,hb2⟩;obtain⟨fn,tmps,assign,body,hy,hR⟩:=hY pre (k,r) _ w2 Hr.out (hJn _ _ _ hJ hb2);dsimp only at hy)
        refine hR.mono ?_;rintro e W3 (⟨rfl,hJ3⟩|⟨rfl,hJ3⟩);rotate_left
        . clear hy hR
          gi_wp2
          refine bodyPost_ret (results_none rfl _ _ _) rfl ?_;exact⟨⟨_,rfl⟩,.inr hJ3⟩
        clear hy hR
        gi_wp2
        go_roundw
        case rel=>exact⟨pre++ [(k,r)],f,k+z,by go_num,by omega,by omega,Hr2,hJ3⟩
        case measure=>simp[intOf];omega
  . obtain rfl:k=s.size:=by omega
    have hr':=hr.out;rw[List.drop_eq_nil_of_le (by rw[<-Lib.size_eq];omega)]at hr';have hz:A8 f [] s.size= []:=by cases f<;>simp[A8]
    rw[hz,List.append_nil]at hr';have Hr:=Lib.hid hr';clear hr hr'
    gi_wp2
    go_end0
    exact⟨⟨_,rfl⟩,.inl (by rw[Hr.out];exact hJ)⟩
abbrev Oo:TypeId:=132
theorem E5:MKey Tryz.prog 5 (Value.int .u8):=Al5 Tryz.underlying5
section
variable {α:Type} [DecidableEq α] {f:α->Value} {P:Program} {kt et t:TypeId} {w w':World} {g:Nat} {kv:List (α×Value)}
theorem B7 {a k:α} {v:Value} {r:List (α×Value)} (h:a≠k) (hr:Dt a r=none):Dt a ((k,v)::r)=none:=by
 simp only[Dt,if_neg h];exact hr
end
structure NR (s:ByteArray) (w wr:World) (m:Option Nat) (kv:List (Int×Value)):Prop where
 below:Below w.heap.size w wr
 map:Da (Value.int .u8) wr (w.heap.size+1) kv
 blk:Al wr w.heap.size 134 #[.string s,.int .i64 0,.map m]
theorem NR.ins {s:ByteArray} {w wr w':World} {m:Option Nat} {kv kv':List (Int×Value)} (h:NR s w wr m kv) (hM:Da (Value.int .u8) w' (w.heap.size+1) kv') (hg:wr.grownBy w' (some (w.heap.size+1))):NR s w w' m kv':=
 ⟨h.below.grown hg h.below.size fun k e=>by have:=Option.some.inj e;omega,hM,h.blk.grown hg (by intro e;have:=Option.some.inj e;omega)⟩
theorem NR.set {s:ByteArray} {w wr:World} {m:Option Nat} {kv:List (Int×Value)} (h:NR s w wr m kv):NR s w (wr.setCell ⟨w.heap.size,2,none⟩ (.map (some (w.heap.size+1)))) (some (w.heap.size+1)) kv:=
 ⟨h.below.setCell (Nat.le_refl _) _,h.map.setCell (by show w.heap.size+1≠w.heap.size;omega) _,by have:=h.blk.set_ 2 (.map (some (w.heap.size+1)));exact this⟩
theorem Anf (R:Nat): ∀j:Nat,j<10->Dt (48+(j:Int)) ((KV R).take (7+j))=none/\(KV R).take (7+j)++ [(48+(j:Int),Value.func (.func 139) #[.pointer (some ⟨R,0,none⟩)] #[])]=(KV R).take (7+(j+1)):=by
 intro j hj
 match j,hj with
 |0,_|1,_|2,_|3,_|4,_|5,_|6,_|7,_|8,_|9,_=>exact⟨by simp[KV,Dt],rfl⟩
set_option maxRecDepth 100000 in
theorem Ue (s:ByteArray) (w:World):Calls Tryz.prog 90 #[.string s] w fun e w'=>e=.returned (.pointer (some ⟨w.heap.size,0,none⟩))/\NR s w w' (some (w.heap.size+1)) (KV w.heap.size):=by
 have hmm:=fun W=>run_makeMap (P:=Tryz.prog) Oo W;have hS0:NR s w ((w.alloc (.cells #[.string s,.int .i64 0,.map none] 134)).alloc (.map #[] 0)) none []:=by
  have:=Da.new (f:=Value.int .u8) (w.alloc (.cells #[.string s,.int .i64 0,.map none] 134));rw[World.size_alloc]at this;exact⟨((Below.refl _ _).alloc (Nat.le_refl _) _).alloc (by simp) _,this,(Al.new _ _ _).alloc _⟩
 have HS0:=Lib.hid hS0;clear hS0;go_enter Tryz.func90,Tryz.ntmps90;go_upto_region 2 with(fail);go_upto_region 3 with(first
  |(((with_reducible refine Bx rfl (.tmp 9) _ _ Oo rfl E5 Tryz.underlying132 rfl HS0.out.map (k:=110) rfl rfl rfl ?_));intro w1 hM hg hs;have HS1:=Lib.hid (HS0.out.ins hM hg);(have r2:=HS1.out.blk.cell 2);(have f2:=HS1.out.blk.frozen 2);(have hlt:=HS1.out.blk.lt);clear hM hg hs HS0)
  |(((with_reducible refine Bx rfl (.tmp 9) _ _ Oo rfl E5 Tryz.underlying132 rfl HS1.out.map (k:=102) rfl rfl (B7 (by decide) rfl) ?_));intro w2 hM hg hs;have HS2:=Lib.hid (HS1.out.ins hM hg);(have r2:=HS2.out.blk.cell 2);(have f2:=HS2.out.blk.frozen 2);(have hlt:=HS2.out.blk.lt);clear hM hg hs HS1)
  |(((with_reducible refine Bx rfl (.tmp 9) _ _ Oo rfl E5 Tryz.underlying132 rfl HS2.out.map (k:=116) rfl rfl (B7 (by decide) (B7 (by decide) rfl)) ?_));intro w3 hM hg hs;have HS3:=Lib.hid (HS2.out.ins hM hg);(have r2:=HS3.out.blk.cell 2);(have f2:=HS3.out.blk.frozen 2);(have hlt:=HS3.out.blk.lt);clear hM hg hs HS2)
  |(((with_reducible refine Bx rfl (.tmp 9) _ _ Oo rfl E5 Tryz.underlying132 rfl HS3.out.map (k:=34) rfl rfl (B7 (by decide) (B7 (by decide) (B7 (by decide) rfl))) ?_));intro w4 hM hg hs;have HS4:=Lib.hid (HS3.out.ins hM hg);(have r2:=HS4.out.blk.cell 2);(have f2:=HS4.out.blk.frozen 2);(have hlt:=HS4.out.blk.lt);clear hM hg hs HS3)
  |(((with_reducible refine Bx rfl (.tmp 9) _ _ Oo rfl E5 Tryz.underlying132 rfl HS4.out.map (k:=91) rfl rfl (B7 (by decide) (B7 (by decide) (B7 (by decide) (B7 (by decide) rfl)))) ?_));intro w5 hM hg hs;have HS5:=Lib.hid (HS4.out.ins hM hg);(have r2:=HS5.out.blk.cell 2);(have f2:=HS5.out.blk.frozen 2);(have hlt:=HS5.out.blk.lt);clear hM hg hs HS4)
  |(((with_reducible refine Bx rfl (.tmp 9) _ _ Oo rfl E5 Tryz.underlying132 rfl HS5.out.map (k:=123) rfl rfl (B7 (by decide) (B7 (by decide) (B7 (by decide) (B7 (by decide) (B7 (by decide) rfl))))) ?_));intro w6 hM hg hs;have HS6:=Lib.hid (HS5.out.ins hM hg);(have r2:=HS6.out.blk.cell 2);(have f2:=HS6.out.blk.frozen 2);(have hlt:=HS6.out.blk.lt);clear hM hg hs HS5)
  |(((with_reducible refine Bx rfl (.tmp 9) _ _ Oo rfl E5 Tryz.underlying132 rfl HS6.out.map (k:=45) rfl rfl (B7 (by decide) (B7 (by decide) (B7 (by decide) (B7 (by decide) (B7 (by decide) (B7 (by decide) rfl)))))) ?_));intro w7 hM hg hs;have HS7:=Lib.hid (HS6.out.ins hM hg);(have r2:=HS7.out.blk.cell 2);(have f2:=HS7.out.blk.frozen 2);(have hlt:=HS7.out.blk.lt);clear hM hg hs HS6))
 have h0:NR s w (w7.setCell ⟨w.heap.size,2,none⟩ (.map (some (w.heap.size+1)))) (some (w.heap.size+1)) ((KV w.heap.size).take (7+0)):=HS7.out.set;generalize w7.setCell ⟨w.heap.size,2,none⟩ (.map (some (w.heap.size+1)))=w8 at h0 ⊢;clear r2 f2 hlt HS7;have H0:=Lib.hid h0;clear h0;go_wp2;go_loopw [4] (fun i wr=> ∃j:Nat,i=.int .u8 (48+(j:Int))/\j<=10/\Hid (NR s w wr (some (w.heap.size+1)) ((KV w.heap.size).take (7+j)))) (fun i _=>58 - (intOf i).toNat)
 case atStart=>exact⟨0,rfl,by omega,H0⟩
 case round=>
  obtain⟨j,rfl,hj,hh⟩:=hrel;clear H0;have c2:=hh.out.blk.cell 2;have hlt:=hh.out.blk.lt;by_cases hlt':j<10
  . obtain⟨hn,hk⟩:=Anf w.heap.size j hlt';have l1:decide ((48:Int)+(j:Int)<=57)=true:=decide_eq_true (by omega);obtain⟨w9,hrun,hM,hg,_⟩:=O8 E5 Tryz.underlying132 hh.out.map hn (Value.func (.func 139) #[.pointer (some ⟨w.heap.size,0,none⟩)] #[]);rw[hk]at hM;have HN:=Lib.hid (hh.out.ins hM hg);clear hM hg hh hn hk;go_wp2;go_roundw
    case rel=>exact⟨j+1,by go_num,by omega,HN⟩
    case measure=>simp[intOf];omega
  . obtain rfl:j=10:=by omega
    go_wp2;go_ret;exact⟨rfl,hh.out⟩
end Go.Proofs.YtmglfdckpjegdaaGreatDoor
