/- Parts: The tables and the two errors that the rows list: a world for the witnesses. No condition. -/
import Derived.Test.YtmglfdckpjegdaaGreatDoorChecked
import Derived.Test.YtmglfdckpjegdaaGreatDoorRows
import Derived.Lay
import Derived.Lib.LaidIn
import Derived.Lib.LaidU8T
import Derived.LaidSub
import Derived.Lib.ItoaNum
import Derived.Deep.DeepHandedRow
import Derived.ProofKit
import Derived.Test.YtmglfdckpjegdaaGreatDoorKMu15
set_option maxHeartbeats 20000000
namespace Go.Proofs.YtmglfdckpjegdaaGreatDoor
abbrev Xb (l:List ByteArray):Prop:=l.Pairwise fun a b=>N4 a b=true
theorem Aac {o:List (ByteArray×Val)} (h:J5 o):Xb (o.map (·.1)):=List.pairwise_map.2 h
theorem Ra: ∀(b:List ByteArray) {a:List ByteArray},Xb a->Xb b->(∀x ∈ a,x ∈ b)->a.Sublist b
 | [],a,_,_,h=>by
   cases a with
   |nil=>exact .slnil
   |cons x r=>exact absurd (h x (by simp)) (by simp)
 |y::b, [],_,_,_=>List.nil_sublist _
 |y::b,x::a,ha,hb,h=>by
  obtain⟨ha1,ha2⟩:=List.pairwise_cons.1 ha;obtain⟨hb1,hb2⟩:=List.pairwise_cons.1 hb;by_cases e:x=y
  . subst e;refine(Ra b ha2 hb2 fun z hz=> ?_).cons_cons x;rcases List.mem_cons.1 (h z (List.mem_cons_of_mem _ hz))with rfl|hm
    . have:=ha1 z hz;rw[I7]at this
      cases this
    . exact hm
  . have hx:x ∈ b:=by
     rcases List.mem_cons.1 (h x (by simp))with e2|hm
     . exact absurd e2 e
     . exact hm
    have hyx:=hb1 x hx;refine(Ra b ha hb2 fun z hz=> ?_).cons y;rcases List.mem_cons.1 (h z hz)with e2|hm
    . subst e2;rcases List.mem_cons.1 hz with e3|hz2
      . exact absurd e3.symm e
      . have h3:=Kh hyx (ha1 z hz2);rw[I7]at h3
        cases h3
    . exact hm
def As (k:ByteArray):List (ByteArray×Val)->Option Val
 | []=>none
 |p::r=>if p.1=k then some p.2 else As k r
theorem E0 {k:ByteArray}: ∀{o:List (ByteArray×Val)} {v:Val},As k o=some v->(k,v) ∈ o
 | [],_,h=>by cases h
 |p::r,v,h=>by
  unfold As at h
  split at h
  . rename_i e
    cases h
    subst e;exact List.mem_cons_self ..
  . exact List.mem_cons_of_mem _ (E0 h)
theorem Qn {k:ByteArray}: ∀{o:List (ByteArray×Val)},As k o=none ↔ k ∉ o.map (·.1)
 | []=>by simp[As]
 |p::r=>by
  unfold As;by_cases e:p.1=k
  . rw[if_pos e];simp[e]
  . rw[if_neg e,Qn (o:=r)];simp[Ne.symm e]
theorem Ys {k:ByteArray} {v:Val}: ∀{o:List (ByteArray×Val)},J5 o->(k,v) ∈ o->As k o=some v
 | [],_,h=>by cases h
 |p::r,ha,h=>by
  obtain⟨h1,h2⟩:=List.pairwise_cons.1 ha;unfold As;rcases List.mem_cons.1 h with e|hm
  . subst e;rw[if_pos rfl]
  . have:=h1 _ hm;rw[if_neg fun e=> ?_]
    . exact Ys h2 hm
    . rw[e,I7]at this;cases this
end Go.Proofs.YtmglfdckpjegdaaGreatDoor
namespace Go.Proofs.YtmglfdckpjegdaaGreatDoor
open Go Go.RowKit
theorem Aoi {w:World} {B n c:Nat} {l:List (ByteArray×Val)} {a:Option Addr} (h:Holds w B (.row 7 (dO l)) [.slice a n c]) {q:Nat} {key:ByteArray} {k':Int} {b':Bool} {n':Int} {t':ByteArray} {l':List Val} {o':List (ByteArray×Val)} (hi:l[q]? =some (key,.mk k' b' n' t' l' o')):
 ∃g off,a=some ⟨g,off,none⟩/\g<B/\ ∃la lc oa oc,Holds w B (dV (.mk k' b' n' t' l' o')) [.int .i64 k',.bool b',.int .i64 n',.string t',.slice la l'.length lc,.slice oa o'.length oc]/\
  w.cell? ⟨g,off+q*7,none⟩=some (.string key)/\w.cell? ⟨g,off+q*7+1,none⟩=some (.int .i64 k')/\w.cell? ⟨g,off+q*7+2,none⟩=some (.bool b')/\
  w.cell? ⟨g,off+q*7+3,none⟩=some (.int .i64 n')/\w.cell? ⟨g,off+q*7+4,none⟩=some (.string t')/\w.cell? ⟨g,off+q*7+5,none⟩=some (.slice la l'.length lc)/\w.cell? ⟨g,off+q*7+6,none⟩=some (.slice oa o'.length oc):=by
 obtain⟨g,off,ea,hg,cs,h1,_,h3⟩:=h.at_ (i:=q) (d:=dP (key,.mk k' b' n' t' l' o')) (by rw[Gb,List.getElem?_map,hi];rfl);unfold dP at h1;simp only[Holds]at h1;obtain⟨_,_,rfl,⟨rfl,_⟩,cv,_,rfl,h4,rfl⟩:=h1;have h6:=B8 _ _ h4;simp only[Ab]at h6;obtain⟨la,lc,oa,oc,rfl,_,_⟩:=h6;exact⟨g,off,ea,hg,la,lc,oa,oc,h4,h3 0 _ rfl,h3 1 _ rfl,h3 2 _ rfl,h3 3 _ rfl,h3 4 _ rfl,h3 5 _ rfl,h3 6 _ rfl⟩
theorem Aop {w:World} {B:Nat} {k':Int} {b':Bool} {n':Int} {t':ByteArray} {l':List Val} {o':List (ByteArray×Val)} {x0 x1 x2 x3 x4 oa:Value} (h:Holds w B (dV (.mk k' b' n' t' l' o')) [x0,x1,x2,x3,x4,oa]):Holds w B (.row 7 (dO o')) [oa]:=by
 have h':Aj w B [.leaf (.int .i64 k'),.leaf (.bool b'),.leaf (.int .i64 n'),.leaf (.string t'),.row 6 (dL l'),.row 7 (dO o')] [x0,x1,x2,x3,x4,oa]:=by
  unfold dV Holds at h;exact h
 obtain⟨c4,c5,e,_,_,_,_,h4,h5⟩:=Aj.six.1 h';have l4:=h4.len.1;have l5:=h5.len.1
 match c4,l4,c5,l5,e with
 | [u],_, [v],_,e=>
   simp only[List.cons_append,List.nil_append,List.cons.injEq,and_true]at e;obtain⟨_,_,_,_,_,rfl⟩:=e;exact h5
theorem Alw {w:World} {B:Nat} {k':Int} {b':Bool} {n':Int} {t':ByteArray} {l':List Val} {o':List (ByteArray×Val)} {x0 x1 x2 x3 la x5:Value} (h:Holds w B (dV (.mk k' b' n' t' l' o')) [x0,x1,x2,x3,la,x5]):Holds w B (.row 6 (dL l')) [la]:=by
 have h':Aj w B [.leaf (.int .i64 k'),.leaf (.bool b'),.leaf (.int .i64 n'),.leaf (.string t'),.row 6 (dL l'),.row 7 (dO o')] [x0,x1,x2,x3,la,x5]:=by
  unfold dV Holds at h;exact h
 obtain⟨c4,c5,e,_,_,_,_,h4,h5⟩:=Aj.six.1 h';have l4:=h4.len.1;have l5:=h5.len.1
 match c4,l4,c5,l5,e with
 | [u],_, [v],_,e=>
   simp only[List.cons_append,List.nil_append,List.cons.injEq,and_true]at e;obtain⟨_,_,_,_,rfl,_⟩:=e;exact h4
theorem Ak7 {key:ByteArray} {v:Val} (w:World) (B:Nat) (cs:List Value) (h:Holds w B (dP (key,v)) cs):cs[0]? =some (.string key):=by
 unfold dP at h;simp only[Holds]at h;obtain⟨_,_,rfl,⟨rfl,_⟩,_⟩:=h;rfl
theorem Apr {key:ByteArray} {v:Val} {w:World} {B:Nat} {u:Value} {cs:List Value} (h:Holds w B (dP (key,v)) (u::cs)):Holds w B (dV v) cs:=by
 unfold dP at h;simp only[Holds]at h;obtain⟨_,_,e,⟨rfl,_⟩,cv,_,rfl,h4,rfl⟩:=h;simp only[List.cons_append,List.nil_append,List.append_nil,List.cons.injEq]at e;rw[e.2];exact h4
theorem Vd {k:ByteArray}: ∀{o:List (ByteArray×Val)} {q:Nat} {p:ByteArray×Val},(∀x ∈ o.take q,x.1≠k)->o[q]? =some p->p.1=k->As k o=some p.2
 | [],q,p,_,h,_=>by simp at h
 |x::r,0,p,_,h,e=>by
  simp only[List.getElem?_cons_zero,Option.some.injEq]at h;subst h;unfold As;rw[if_pos e]
 |x::r,q+1,p,ht,h,e=>by
  unfold As;rw[if_neg (ht x (by simp))];exact Vd (fun y hy=>ht y (by rw[List.take_succ_cons];exact List.mem_cons_of_mem _ hy)) (by simpa using h) e
theorem Ait {k:ByteArray} {o:List (ByteArray×Val)} (h: ∀x ∈ o,x.1≠k):As k o=none:=by
 rw[Qn];intro hm;obtain⟨p,hp,e⟩:=List.mem_map.1 hm;exact h p hp e
theorem Xa (v:Val) (cs:List Value) (w:World) (hV:Ab w w.heap.size v cs) (hb:v.bulk<=100000000):
 Calls Tryz.prog 170 #[.agg cs.toArray] w (Nm w v):=by
 obtain⟨k,b,n,t,l,o⟩:=v;simp only[Ab]at hV;obtain⟨la,lc,oa,oc,rfl,hla,hoa⟩:=hV;simp only[Val.bulk]at hb;by_cases h5:k=5
 . subst h5;exact Aen b n t l o la oa oc lc w hla (by omega)
 by_cases h6:k=6
 . subst h6;exact Ag7 b n t l o la oa oc lc w hoa (by omega)
 have hw:within (.mk k b n t l o)= []:=by simp[within,h5,h6]
 have Hw:=Lib.hid hw;have e5:(k==5)=false:=by simpa using h5
 have e6:(k==6)=false:=by simpa using h6
 clear hw hla hoa hb h5 h6;go_enter Tryz.func170,Tryz.ntmps170;go_wp2;go_ret;exact⟨⟨none,0,by rw[Hw.out];rfl,.inl Hw.out⟩,(Below.refl _ _).alloc (Nat.le_refl _) _⟩
theorem Yi: ∀o:List (ByteArray×Val),K5 o=Gj (o.map (·.2))
 | []=>rfl
 |(k,v)::r=>by simp only[K5,Acf,List.map_cons,Gj,Yi r]
theorem Aal (v:Val):F7 v=1+Gj (within v):=by
 obtain⟨k,b,n,t,l,o⟩:=v;simp only[F7,within];by_cases h5:k=5
 . simp[h5]
 by_cases h6:k=6
 . simp[h6,Yi]
 . simp[h5,h6,Gj]
theorem Yc: ∀o:List (ByteArray×Val),Bd (o.map (·.2))<=Av o
 | []=>by simp[Bd]
 |(k,v)::r=>by
  have:=Yc r;simp only[List.map_cons,Bd,Av,Gi];omega
theorem Aem (v:Val):Bd (within v)<=v.bulk:=by
 obtain⟨k,b,n,t,l,o⟩:=v;have:=Yc o;simp only[within,Val.bulk]
 split
 . omega
 split
 . omega
 . simp[Bd]
def Aey (v:Val):Prop:= ∀(cs:List Value) (w:World),Ab w w.heap.size v cs->v.bulk<=100000000->
    Calls Tryz.prog 129 #[.agg cs.toArray] w fun e w'=>e=.returned (.int .i64 (F7 v))/\Below w.heap.size w w'
set_option maxRecDepth 100000 in
theorem Agl (v:Val) (IH: ∀x ∈ within v,Aey x):Aey v:=by
 intro cs w hV hb;have hV':=hV;have hbw:=Aem v;have hlw:=Ee (within v);have hdw:=Rh (within v) (fun x _=>M5 x);have hW0:=fun w' (h:Below w.heap.size w w')=>Xa v cs w' (Ab.more h.size _ _ (hV.below h)) hb;rw[Aal];unfold Nm at hW0;generalize within v=L at*
 obtain⟨k,b,n,t,l,o⟩:=v;simp only[Ab]at hV';obtain⟨la,lc,oa,oc,rfl,_,_⟩:=hV';obtain⟨HI,HW⟩:=hid2 IH hW0;obtain⟨M,hM⟩: ∃M,Gj L=M:=⟨_,rfl⟩;rw[hM]at hdw ⊢;have H0:Hid (max 0 (Gj (L.drop 0))=M):=by show _=_;rw[List.drop_zero,hM];simp
 have HB1:Hid (Below w.heap.size w (w.alloc (.cells (Fu k b n t la l.length lc oa o.length oc).toArray 27))):=(Below.refl _ _).alloc (Nat.le_refl _) _;clear IH hW0 hM hV;go_enter Tryz.func129,Tryz.ntmps129;go_wp2_with (fail);(with_reducible refine(HW.out _ HB1.out).mono ?_);rintro e w2 ⟨⟨la',lc',rfl,hsl⟩,hb2⟩;have Hsl:=Lib.hid hsl;have HB2:=Lib.hid (HB1.out.trans (hb2.mono HB1.out.size));clear hsl hb2 HB1 HW;go_wp2_with (fail);have HBr:Hid (Below w2.heap.size w2 w2):=Below.refl _ _;go_loopw [3,5] (fun m i wr=> ∃D k:Nat,m=.int .i64 D/\i=.int .i64 k/\k<=L.length/\Hid (max D (Gj (L.drop k))=M)/\D<=M/\Hid (Below w2.heap.size w2 wr)) (fun _ i _=>L.length - (intOf i).toNat)
 case atStart=>exact⟨0,0,rfl,rfl,Nat.zero_le _,H0,Nat.zero_le _,HBr⟩
 case round=>
  obtain⟨D,k,rfl,rfl,hk,hD,hDM,hbw⟩:=hrel;clear H0 HBr;by_cases hlt:k<L.length
  . obtain⟨g,off,rfl,hg,hL⟩: ∃g off,la'=some ⟨g,off,none⟩/\g<w2.heap.size/\A1 w2 w2.heap.size L g off:=by
     rcases Hsl.out with h|h
     . rw[h]at hlt;simp at hlt
     . exact h
    obtain⟨x,hx⟩: ∃v,L[k]? =some v:=⟨_,List.getElem?_eq_getElem hlt⟩;have hmem:x ∈ L:=List.mem_of_getElem? hx;have hbv:=Er hmem;have hdv:=M5 x;have hdrop:L.drop k=x::L.drop (k+1):=En hx;have hD':=hD.out;rw[hdrop]at hD';simp only[Gj]at hD';have IHx:=HI.out x hmem;have hz:=hbw.out.size;obtain⟨m,hm⟩: ∃m,F7 x=m:=⟨_,rfl⟩;obtain⟨k',b',n',t',l',o'⟩:=x;obtain⟨la',lc',oa',oc',hvs,c0,c1,c2,c3,c4,c5⟩:=(hL.below hg hbw.out).six hx;have CT:=IHx _ wr (Ab.more hz _ _ hvs) (by omega);rw[hm]at CT hD' hdv;have hCT:=Lib.hid CT;have Hn:Hid (max (max D m) (Gj (L.drop (k+1)))=M):=by show _=_;omega
    have hmM:max D m<=M:=by omega
    clear CT hD hD' hdrop IHx hm hvs hx hmem hL hg hdv hbv;by_cases hgt:D<m
    . have e1:max D m=m:=by omega
      rw[e1]at Hn hmM;clear e1;go_wp2_with (fail);(with_reducible refine hCT.out.mono ?_);rintro e w4 ⟨rfl,hb4⟩;have hbw4:=Lib.hid (hbw.out.trans (hb4.mono hz));clear hb4 hbw hCT;go_wp2;go_roundw
      case rel=>exact⟨m,k+1,rfl,by go_num,by omega,Hn,hmM,hbw4⟩
      case measure=>simp only[intOf];omega
    . have e1:max D m=D:=by omega
      rw[e1]at Hn hmM;clear e1;go_wp2_with (fail);(with_reducible refine hCT.out.mono ?_);rintro e w4 ⟨rfl,hb4⟩;have hbw4:=Lib.hid (hbw.out.trans (hb4.mono hz));clear hb4 hbw hCT;go_wp2;go_roundw
      case rel=>exact⟨D,k+1,rfl,by go_num,by omega,Hn,hmM,hbw4⟩
      case measure=>simp only[intOf];omega
  . obtain rfl:k=L.length:=by omega
    have hD':=hD.out;rw[List.drop_length]at hD';simp only[Gj]at hD';obtain rfl:D=M:=by omega
    have hc:(D:Int)+1=((1+D:Nat):Int):=by omega
    have Hc:=Lib.hid hc;clear hD hD' hc;go_wp2;go_ret;exact⟨by rw[<-Hc.out];rfl,HB2.out.trans (hbw.out.mono HB2.out.size)⟩
theorem Ad1: ∀v,Aey v:=by
 refine Val.ind ?_;intro k b n t l o IHl IHo;refine Agl _ (fun x hx=> ?_);simp only[within]at hx
 split at hx
 . exact IHl x hx
 split at hx
 . obtain⟨m,hm,rfl⟩:=List.mem_map.1 hx;exact IHo m hm
 . cases hx
def Eg (v:Val):Int:=if Az v 1=0 then(if 16<F7 v then 5 else if 1024<(Ak v).length then 6 else 0)else Az v 1
set_option maxRecDepth 100000 in
theorem Ut (v:Val) (cs:List Value) (w:World) (hT:Cq w) (hV:Ab w w.heap.size v cs) (hb:v.bulk<=100000000) (hi:Jg v):
 Calls Tryz.prog 104 #[.agg cs.toArray] w fun e w'=>e=.returned (.int .i64 (Eg v))/\Below w.heap.size w w':=by
 have hV':=hV;obtain⟨k,b,n,t,l,o⟩:=v;simp only[Ab]at hV';obtain⟨la,lc,oa,oc,rfl,_,_⟩:=hV';have H1:=Lib.hid (Nk.start hT hV);obtain⟨v,hv⟩: ∃v,Val.mk k b n t l o=v:=⟨_,rfl⟩;rw[hv]at hi hb H1 ⊢;have CM:=fun w' (h:Nk w w.heap.size v (Fu k b n t la l.length lc oa o.length oc) w')=>Pf v _ w' h.tabs h.2.2.2 (by omega);unfold Eg;by_cases hm:Az v 1=0
 . have hok:=V3 v 1 hm hi;have CB:=fun w' (h:Nk w w.heap.size v (Fu k b n t la l.length lc oa o.length oc) w')=>S6 v _ w' h.tabs h.2.2.2 (by omega) hok;have CD:=fun w' (h:Nk w w.heap.size v (Fu k b n t la l.length lc oa o.length oc) w')=>Afg v _ w' h.2.2.2 (by omega);rw[if_pos hm];rw[hm]at CM;generalize (Ak v).length=L at CB ⊢;generalize F7 v=D at CD ⊢;obtain⟨HB,HD,HM⟩:=hid3 CB CD CM;clear CB CM CD hm hi hb hT hV hv hok;by_cases hd:16<D
   . rw[if_pos hd];go_enter Tryz.func104,Tryz.ntmps104;go_wp2_with (fail);(with_reducible refine(HM.out _ H1.out).mono ?_);rintro e w2 ⟨rfl,hb2⟩;have H2:=Lib.hid (H1.out.step hb2);obtain⟨d0,d1,d2,d3,d4,d5⟩:=H2.out.cells;clear hb2 H1;go_wp2_with (fail);(with_reducible refine(HD.out _ H2.out).mono ?_);rintro e w3 ⟨rfl,hb3⟩;have H3:=Lib.hid (H2.out.step hb3);clear d0 d1 d2 d3 d4 d5 hb3 H2;go_wp2;go_ret;exact⟨rfl,H3.out.below⟩
   . rw[if_neg hd];by_cases hl:1024<L
     all_goals
      (first|rw[if_pos hl]|rw[if_neg hl])
      go_enter Tryz.func104,Tryz.ntmps104;go_wp2_with (fail);(with_reducible refine(HM.out _ H1.out).mono ?_);rintro e w2 ⟨rfl,hb2⟩;have H2:=Lib.hid (H1.out.step hb2);obtain⟨d0,d1,d2,d3,d4,d5⟩:=H2.out.cells;clear hb2 H1;go_wp2_with (fail);(with_reducible refine(HD.out _ H2.out).mono ?_);rintro e w3 ⟨rfl,hb3⟩;have H3:=Lib.hid (H2.out.step hb3);clear d0 d1 d2 d3 d4 d5 hb3 H2;obtain⟨d0,d1,d2,d3,d4,d5⟩:=H3.out.cells;go_wp2_with (fail);(with_reducible refine(HB.out _ H3.out).mono ?_);rintro e w4 ⟨rfl,hb4⟩;have H4:=Lib.hid (H3.out.step hb4);clear d0 d1 d2 d3 d4 d5 hb4 H3;go_wp2;go_ret;exact⟨rfl,H4.out.below⟩
 . rw[if_neg hm];have hmb:(Az v 1==0)=false:=by simpa using hm
   have hmn:(Az v 1 != 0)=true:=by simpa using hm
   generalize Az v 1=m at*
   have HM:=Lib.hid CM;clear CM hm hi hb hT hV hv;go_enter Tryz.func104,Tryz.ntmps104;go_wp2_with (fail);(with_reducible refine(HM.out _ H1.out).mono ?_);rintro e w2 ⟨rfl,hb2⟩;have H2:=Lib.hid (H1.out.step hb2);clear hb2 H1;go_wp2;go_ret;exact⟨rfl,H2.out.below⟩
set_option maxRecDepth 100000 in
theorem S3 (v:Val) (cs:List Value) (w:World) (hT:Cq w) (hV:Ab w w.heap.size v cs) (hb:v.bulk<=100000000) (hi:Jg v):
 Calls Tryz.prog 83 #[.agg cs.toArray] w fun e w'=>e=.returned (.int .i64 (Eg v))/\Below w.heap.size w w':=by
 have hV':=hV;obtain⟨k,b,n,t,l,o⟩:=v;simp only[Ab]at hV';obtain⟨la,lc,oa,oc,rfl,_,_⟩:=hV';have H1:=Lib.hid (Nk.start hT hV);obtain⟨v,hv⟩: ∃v,Val.mk k b n t l o=v:=⟨_,rfl⟩;rw[hv]at hi hb H1 ⊢;have CM:=fun w' (h:Nk w w.heap.size v (Fu k b n t la l.length lc oa o.length oc) w')=>Aez v _ w' h.2.2.2 (by omega);unfold Eg;by_cases hm:Az v 1=0
 . have CB:=fun w' (h:Nk w w.heap.size v (Fu k b n t la l.length lc oa o.length oc) w')=>Ts v _ w' 1 h.2.2.2 (by omega) hm hi;have CD:=fun w' (h:Nk w w.heap.size v (Fu k b n t la l.length lc oa o.length oc) w')=>Ad1 v _ w' h.2.2.2 (by omega);obtain⟨S,hS⟩: ∃S:ByteArray,(⟨(Ak v).toArray⟩:ByteArray)=S:=⟨_,rfl⟩;have hL:(Ak v).length=S.size:=by rw[<-hS,Py]
   rw[if_pos hm,hL];rw[hm]at CM;rw[hS]at CB;generalize F7 v=D at CD ⊢;obtain⟨HB,HD,HM⟩:=hid3 CB CD CM;clear CB CM CD hm hi hb hT hV hv hS hL;by_cases hd:16<D
   . rw[if_pos hd];go_enter Tryz.func83,Tryz.ntmps83;go_wp2_with (fail);(with_reducible refine(HM.out _ H1.out).mono ?_);rintro e w2 ⟨rfl,hb2⟩;have H2:=Lib.hid (H1.out.step hb2);obtain⟨d0,d1,d2,d3,d4,d5⟩:=H2.out.cells;clear hb2 H1;go_wp2_with (fail);(with_reducible refine(HD.out _ H2.out).mono ?_);rintro e w3 ⟨rfl,hb3⟩;have H3:=Lib.hid (H2.out.step hb3);clear d0 d1 d2 d3 d4 d5 hb3 H2;go_wp2;go_ret;exact⟨rfl,H3.out.below⟩
   . rw[if_neg hd];by_cases hl:1024<S.size
     all_goals
      (first|rw[if_pos hl]|rw[if_neg hl])
      go_enter Tryz.func83,Tryz.ntmps83;go_wp2_with (fail);(with_reducible refine(HM.out _ H1.out).mono ?_);rintro e w2 ⟨rfl,hb2⟩;have H2:=Lib.hid (H1.out.step hb2);obtain⟨d0,d1,d2,d3,d4,d5⟩:=H2.out.cells;clear hb2 H1;go_wp2_with (fail);(with_reducible refine(HD.out _ H2.out).mono ?_);rintro e w3 ⟨rfl,hb3⟩;have H3:=Lib.hid (H2.out.step hb3);clear d0 d1 d2 d3 d4 d5 hb3 H2;obtain⟨d0,d1,d2,d3,d4,d5⟩:=H3.out.cells;go_wp2_with (fail);(with_reducible refine(HB.out _ H3.out).mono ?_);rintro e w4 ⟨rfl,hb4⟩;have H4:=Lib.hid (H3.out.step hb4);clear d0 d1 d2 d3 d4 d5 hb4 H3;go_wp2;go_ret;exact⟨rfl,H4.out.below⟩
 . rw[if_neg hm];have hmb:(Az v 1==0)=false:=by simpa using hm
   have hmn:(Az v 1 != 0)=true:=by simpa using hm
   generalize Az v 1=m at*
   have HM:=Lib.hid CM;clear CM hm hi hb hT hV hv;go_enter Tryz.func83,Tryz.ntmps83;go_wp2_with (fail);(with_reducible refine(HM.out _ H1.out).mono ?_);rintro e w2 ⟨rfl,hb2⟩;have H2:=Lib.hid (H1.out.step hb2);clear hb2 H1;go_wp2;go_ret;exact⟨rfl,H2.out.below⟩
structure POp where
 k:Int
 key:ByteArray
 v:Val
def Alt (k:ByteArray):Bool:= !k.toList.isEmpty&&(decide (k.size<=64)&&Aw k)
def Ub (k:ByteArray):Int:=if k.toList.isEmpty then 8 else if 64<k.size then 6 else if Aw k then 0 else 3
theorem Yv (k:ByteArray):Ub k=0 ↔ Alt k=true:=by
 unfold Ub Alt
 cases k.toList.isEmpty<;>by_cases h:64<k.size<;>cases Aw k<;>simp[h]<;>omega
def D0:Val->Bool
 | .mk k b n t l o=>H8 k b n t l.length o.length
theorem Tf: ∀{l:List Val},(∀v ∈ l,∀d d':Int,Az v d'=0->d+F7 v<=65->Az v d=0)-> ∀{d d':Int},Df l d'=0->(l= []\/d+Gj l<=65)->Df l d=0
 | [],_,_,_,_,_=>by simp[Df]
 |v::r,ih,d,d',h,hd=>by
  have hd:=hd.resolve_left (by simp);simp only[Gj]at hd;simp only[Df]at h ⊢;by_cases h0:Az v d'=0
  . rw[if_pos h0]at h;rw[if_pos (ih v (by simp) d d' h0 (by omega))];exact Tf (fun x hx=>ih x (by simp[hx])) h (.inr (by omega))
  . rw[if_neg h0]at h;exact absurd h h0
theorem Tg: ∀{l:List (ByteArray×Val)},(∀m ∈ l,∀d d':Int,Az m.2 d'=0->d+F7 m.2<=65->Az m.2 d=0)-> ∀{last:Option ByteArray} {d d':Int},Ds l last d'=0->(l= []\/d+K5 l<=65)->Ds l last d=0
 | [],_,_,_,_,_,_=>by simp[Ds]
 |(key,v)::r,ih,last,d,d',h,hd=>by
  have hd:=hd.resolve_left (by simp);simp only[K5,Acf]at hd;simp only[Ds]at h ⊢;by_cases h0:Qr (key,v) last d'=0
  . rw[if_pos h0]at h;have h1:Qr (key,v) last d=0:=by
     simp only[Qr]at h0 ⊢;by_cases hv:Aw key=true
     . rw[if_pos hv]at h0 ⊢
       cases last with
       |none=>exact ih (key,v) (by simp) d d' h0 (by simp only;omega)
       |some q=>
        simp only at h0 ⊢;by_cases hl:Vn key q=true
        . rw[if_pos hl]at h0;cases h0
        . rw[if_neg hl]at h0 ⊢;exact ih (key,v) (by simp) d d' h0 (by simp only;omega)
     . rw[if_neg hv]at h0;cases h0
    rw[if_pos h1];exact Tg (fun x hx=>ih x (by simp[hx])) h (.inr (by omega))
  . rw[if_neg h0]at h;exact absurd h h0
theorem Ada: ∀(v:Val) (d d':Int),Az v d'=0->d+F7 v<=65->Az v d=0:=by
 refine Val.ind ?_;intro k b n t l o hl ho d d' h hd;obtain⟨h1,_,h3,h4,h5⟩:=Bv h;obtain⟨_,_,k5,k6⟩:=Ii h1;simp only[F7]at hd;have hL:Df l (d+1)=0:=by
  refine Tf hl h4 ?_;rcases k5 with e|e
  . rw[if_pos e]at hd;exact .inr (by omega)
  . exact .inl (List.length_eq_zero_iff.1 e)
 have hO:Ds o none (d+1)=0:=by
  refine Tg ho h5 ?_;rcases k6 with e|e
  . rw[if_neg (by omega),if_pos e]at hd;exact .inr (by omega)
  . exact .inl (List.length_eq_zero_iff.1 e)
 have h64: ¬64<d:=by
  have:0<=(if k=5 then Gj l else if k=6 then K5 o else 0):=Nat.zero_le _;omega
 simp only[Az];rw[if_neg (by rw[h1];simp),if_neg h64,if_pos h3,if_pos hL,hO]
def Ae (S:Nat->Prop) (w:World) (d:D) (cs:List Value):Prop:=
 ∀w'':World,w.heap.size<=w''.heap.size->(∀p:Addr,S p.block->p.block<w.heap.size->w''.cell? p=w.cell? p)->Holds w'' w.heap.size d cs
def Bg (S:Nat->Prop) (w:World) (l:List D) (cs:List Value):Prop:=
 ∀w'':World,w.heap.size<=w''.heap.size->(∀p:Addr,S p.block->p.block<w.heap.size->w''.cell? p=w.cell? p)->Aj w'' w.heap.size l cs
theorem Ae.now {S:Nat->Prop} {w:World} {d:D} {cs:List Value} (h:Ae S w d cs):Holds w w.heap.size d cs:=h w (Nat.le_refl _) fun _ _ _=>rfl
theorem Bg.now {S:Nat->Prop} {w:World} {l:List D} {cs:List Value} (h:Bg S w l cs):Aj w w.heap.size l cs:=h w (Nat.le_refl _) fun _ _ _=>rfl
theorem Ae.mono {S T:Nat->Prop} {w:World} {d:D} {cs:List Value} (h:Ae S w d cs) (hST: ∀i,i<w.heap.size->S i->T i):Ae T w d cs:=
 fun w'' h1 h2=>h w'' h1 fun p p1 p2=>h2 p (hST _ p2 p1) p2
theorem Ae.of_fresh {b:Nat} {w:World} {d:D} {cs:List Value} (h:Au b w d cs):Ae (fun i=>b<=i) w d cs:=h
theorem Ae.of_old {B:Nat} {w w':World} {d:D} {cs:List Value} (h:Holds w B d cs) (hB:B<=w.heap.size) (hb:Below B w w'):Ae (fun i=>i<B) w' d cs:=fun _ _ h2=>
 (h.keep (fun p hp=>(h2 p hp (Nat.lt_of_lt_of_le hp (Nat.le_trans hB hb.size))).trans (hb.cell hp))).more (Nat.le_trans hB hb.size)
theorem Ae.later {S:Nat->Prop} {w w':World} {d:D} {cs:List Value} (h:Ae S w d cs) (hs:w.heap.size<=w'.heap.size) (hk: ∀p:Addr,S p.block->p.block<w.heap.size->w'.cell? p=w.cell? p):Ae S w' d cs:=fun w'' h1 h2=>
 (h w'' (Nat.le_trans hs h1) fun p p1 p2=>(h2 p p1 (Nat.lt_of_lt_of_le p2 hs)).trans (hk p p1 p2)).more hs
theorem Ae.below {S:Nat->Prop} {w w':World} {d:D} {cs:List Value} (h:Ae S w d cs) (hb:Below w.heap.size w w'):Ae S w' d cs:=h.later hb.size fun _ _ p2=>hb.cell p2
theorem Bg.one {S:Nat->Prop} {w:World} {d:D} {cs:List Value} (h:Ae S w d cs):Bg S w [d] cs:=fun w'' h1 h2=>Aj.one (h w'' h1 h2)
theorem Bg.app {S:Nat->Prop} {w:World} {l r:List D} {cs es:List Value} (h:Bg S w l cs) (k:Bg S w r es):Bg S w (l++r) (cs++es):=fun w'' h1 h2=>(h w'' h1 h2).app (k w'' h1 h2)
theorem Ae.blk {S:Nat->Prop} {w:World} {g:Nat} {t:TypeId} {cs:Array Value} {l:List D} {s n c:Nat} (h:Al w g t cs) (hS:S g) (hs: ∀d ∈ l,d.cells=s) (hA:Bg S w l cs.toList) (hn:n=l.length):Ae S w (.row s l) [.slice (some ⟨g,0,none⟩) n c]:=by
 subst hn;intro w'' h1 h2;exact⟨_,c,rfl,hs,cs.toList,hA w'' h1 h2,.inr ⟨g,0,rfl,h.lt,fun j u hu=>by
  rw[Nat.zero_add,h2 ⟨g,j,none⟩ hS h.lt];exact(h.cell j).trans (by rw[<-Array.getElem?_toList];exact hu)⟩⟩
def C9 (S0:Nat->Prop) (b:Nat) (t:TypeId) (s:Nat) (wr:World) (l:List D) (V:Value):Prop:=
 ∃ns,wr.ownsRow b t s V l.length ns/\(∀d ∈ l,d.cells=s)/\Bg (fun i=>S0 i/\V.ownBlock≠some i) wr l ns
theorem C9.nil (S0:Nat->Prop) (b:Nat) (t:TypeId) (s:Nat) (wr:World):C9 S0 b t s wr [] (.slice none 0 0):=⟨[],World.ownsRow_nil _ _ _ _,fun d hd=>(by cases hd),fun _ _ _=>rfl⟩
theorem C9.base {S0:Nat->Prop} {b:Nat} {t:TypeId} {s:Nat} {wr:World} {l:List D} {V:Value} (h:C9 S0 b t s wr l V): ∀g,V.ownBlock=some g->b<=g/\g<wr.heap.size:=by
 obtain⟨ns,h1,_⟩:=h;exact h1.lt
theorem C9.keep {S0:Nat->Prop} {b:Nat} {t:TypeId} {s:Nat} {wr w':World} {l:List D} {V:Value} (h:C9 S0 b t s wr l V) (hs:wr.heap.size<=w'.heap.size) (hk: ∀i,i<wr.heap.size->w'.heap[i]? =wr.heap[i]?):C9 S0 b t s w' l V:=by
 obtain⟨ns,h1,h2,h3⟩:=h;refine⟨ns,⟨h1.1, ?_⟩,h2,fun w'' k1 k2=>Aj.more (h3 w'' (by omega) (fun p p1 p2=>(k2 p p1 (by omega)).trans (World.cell?_of_block (hk p.block p2)))) hs⟩;rcases h1.2 with⟨rfl,h0⟩|⟨g,cap,cur,rfl,hbg,hg,h5⟩
 . exact .inl ⟨rfl,h0⟩
 . exact .inr ⟨g,cap,cur,rfl,hbg,(hk g (Array.getElem?_eq_some_iff.1 hg).1).trans hg,h5⟩
theorem C9.below {S0:Nat->Prop} {b:Nat} {t:TypeId} {s:Nat} {wr w':World} {l:List D} {V:Value} (h:C9 S0 b t s wr l V) (hb:Below wr.heap.size wr w'):C9 S0 b t s w' l V:=h.keep hb.size fun i hi=>hb.block i hi
theorem C9.slice {S0:Nat->Prop} {b:Nat} {t:TypeId} {s:Nat} {wr:World} {l:List D} {V:Value} (h:C9 S0 b t s wr l V): ∃a c,V=.slice a l.length c:=by
 obtain⟨ns,h1,_⟩:=h;rcases h1.2 with⟨rfl,h0⟩|⟨g,cap,cur,rfl,_⟩
 . exact⟨_,_,by rw[h0]⟩
 . exact⟨_,_,rfl⟩
theorem C9.slice_n {S0:Nat->Prop} {b:Nat} {t:TypeId} {s n:Nat} {wr:World} {l:List D} {V:Value} (h:C9 S0 b t s wr l V) (hn:l.length=n): ∃a c,V=.slice a n c:=by
 subst hn;exact h.slice
theorem C9.close {S0:Nat->Prop} {b:Nat} {t:TypeId} {s:Nat} {wr:World} {l:List D} {a:Option Addr} {n c:Nat} (h:C9 S0 b t s wr l (.slice a n c)):Holds wr wr.heap.size (.row s l) [.slice a n c]:=by
 obtain⟨ns,h1,h2,h3⟩:=h;have h1':=h1;rcases h1.2 with⟨e,h0⟩|⟨g,cap,cur,e,hbg,hg,hnc,_⟩
 . cases e
   have hl:l= []:=List.eq_nil_of_length_eq_zero h0;subst hl;exact⟨none,0,rfl,h2, [],rfl,.inl rfl⟩
 . cases e
   have hgl:=(Array.getElem?_eq_some_iff.1 hg).1;refine⟨_,_,rfl,h2,ns,h3.now,.inr ⟨g,0,rfl,hgl,fun j u hu=> ?_⟩⟩;have h5:=h1'.cells (g:=g) rfl j u hu
   rwa [Gv]at h5
theorem C9.closeIn {S0:Nat->Prop} {b:Nat} {t:TypeId} {s:Nat} {wr:World} {l:List D} {a:Option Addr} {n c:Nat} (h:C9 S0 b t s wr l (.slice a n c)):Ae (fun i=>S0 i\/(Value.slice a n c).ownBlock=some i) wr (.row s l) [.slice a n c]:=by
 obtain⟨ns,h1,h2,h3⟩:=h;have h1':=h1;intro w'' k1 k2;have hA:=h3 w'' k1 fun p p1 p2=>k2 p (.inl p1.1) p2;rcases h1.2 with⟨e,h0⟩|⟨g,cap,cur,e,hbg,hg,hnc,_⟩
 . cases e
   have hl:l= []:=List.eq_nil_of_length_eq_zero h0;subst hl;exact⟨none,0,rfl,h2, [],rfl,.inl rfl⟩
 . cases e
   have hgl:=(Array.getElem?_eq_some_iff.1 hg).1;refine⟨_,_,rfl,h2,ns,hA,.inr ⟨g,0,rfl,hgl,fun j u hu=> ?_⟩⟩;have h5:=h1'.cells (g:=g) rfl j u hu;rw[Gv]at h5;exact(k2 ⟨g,0+j,none⟩ (.inr rfl) hgl).trans h5
section
variable {P:Program}
theorem Abe {t ty e:TypeId} {i:TypeInfo} {z:Value} {sz bytes:Nat} (ht:P.underlying t=some (.slice e)) (hi:P.info? e=some i) (hz:i.zero=some z) (hsize:i.size=sz) (hby:i.bytes=bytes) (hzs:z.cells.size=sz) (hsz:0<sz)
 {S0:Nat->Prop} {b:Nat} {w:World} {l:List D} {V:Value} (hrow:C9 S0 b e sz w l V) (hbw:b<=w.heap.size) {d:D} {cs:List Value} (hd:d.cells=sz) (hx:Ae (fun i=>S0 i/\V.ownBlock≠some i) w d cs)
 {B:Nat} {A:Option Addr} {c:Nat} (hr:Cy w B sz A 1 cs) (h63:l.length+1<=maxLen) (hbytes:(l.length+1)*bytes<=140737488355328):
 ∃V' w6,(Builtin.append_ #[t,t] ty #[V,.slice A 1 c]).run P w=.ok V' w6/\C9 S0 b e sz w6 (l++ [d]) V'/\w.grownBy w6 V.ownBlock/\(V'.ownBlock=V.ownBlock\/V'.ownBlock=some w.heap.size):=by
 obtain⟨ns,h1,h2,h3⟩:=hrow;obtain⟨V',w6,hrun,g1,g2,g3⟩:=L8 (P:=P) w b t ty e i z sz bytes ht hi hz hsize hby hzs hsz V l.length ns h1 B A 1 c cs hr hx.now.len.2 h63 hbytes hbw;refine⟨V',w6,hrun,⟨ns++cs,by rw[List.length_append];exact g1, ?_, ?_⟩,g2,g3⟩
 . intro x hx';rcases List.mem_append.1 hx' with hx'|hx'
   . exact h2 x hx'
   . simp only[List.mem_cons,List.not_mem_nil,or_false]at hx';rw[hx'];exact hd
 . have key: ∀p:Addr,V.ownBlock≠some p.block->p.block<w.heap.size->V'.ownBlock≠some p.block:=by
    intro p p1 p2;rcases g3 with e3|e3
    . rw[e3];exact p1
    . rw[e3];intro e4;have:=Option.some.inj e4;omega
   have hag: ∀w'':World,w6.heap.size<=w''.heap.size->(∀p:Addr,S0 p.block/\V'.ownBlock≠some p.block->p.block<w6.heap.size->w''.cell? p=w6.cell? p)-> ∀p:Addr,S0 p.block/\V.ownBlock≠some p.block->p.block<w.heap.size->w''.cell? p=w.cell? p:=by
    intro w'' k1 k2 p p1 p2;rw[k2 p ⟨p1.1,key p p1.2 p2⟩ (Nat.lt_of_lt_of_le p2 g2.size)];exact World.cell?_of_block (g2.block p.block p2 (fun e=>p1.2 e.symm))
   intro w'' k1 k2;have a1:=Aj.more (h3 w'' (Nat.le_trans g2.size k1) (hag w'' k1 k2)) g2.size;have a2:=Holds.more (hx w'' (Nat.le_trans g2.size k1) (hag w'' k1 k2)) g2.size;exact a1.snoc a2
theorem T3 {o:Oper} {a:Act} {w:World} {K:Act->World->Prop} {Q:Exit->Act->World->Prop} (s x:Operand) (t:TypeId) {e:TypeId}
 (ho:o.op=.call {callee:=.builtin .append,args:= #[s,x],argTypes:= #[t,t]}) {i:TypeInfo} {z:Value} {sz bytes:Nat} (ht:P.underlying t=some (.slice e)) (hi:P.info? e=some i) (hz:i.zero=some z) (hsize:i.size=sz) (hby:i.bytes=bytes) (hzs:z.cells.size=sz) (hsz:0<sz)
 {S0:Nat->Prop} {b:Nat} {l:List D} {V:Value} (hs:a.eval s=V) (hrow:C9 S0 b e sz w l V) (hbw:b<=w.heap.size) {d:D} {cs:List Value} (hd:d.cells=sz) (hf:Ae (fun i=>S0 i/\V.ownBlock≠some i) w d cs)
 {B:Nat} {A:Option Addr} {c:Nat} (hx:a.eval x=.slice A 1 c) (hr:Cy w B sz A 1 cs) (h63:l.length+1<=maxLen) (hbytes:(l.length+1)*bytes<=140737488355328)
 (h: ∀V' w6,C9 S0 b e sz w6 (l++ [d]) V'->w.grownBy w6 V.ownBlock->(V'.ownBlock=V.ownBlock\/V'.ownBlock=some w.heap.size)->K (a.put o.dst V') w6):o.wp P a w K Q:=by
 obtain⟨V',w6,hrun,g1,g2,g3⟩:=Abe (ty:=o.type) (c:=c) ht hi hz hsize hby hzs hsz hrow hbw hd hf hr h63 hbytes;unfold Oper.wp execOp;simp only[ho,resolve,invoke,builtin,Sem.run_bind,Sem.run_pure,Result.andThen_ok,List.map_toArray,List.map_cons,List.map_nil,hs,hx,hrun];exact h V' w6 g1 g2 g3
theorem Fh {ops:Array Oper} {rest:List Oper} {o:Oper} {a:Act} {w:World} {Q:Exit->Act->World->Prop} (hgd:o.guard=none) (s x:Operand) (t:TypeId) {e:TypeId}
 (ho:o.op=.call {callee:=.builtin .append,args:= #[s,x],argTypes:= #[t,t]}) {i:TypeInfo} {z:Value} {sz bytes:Nat} (ht:P.underlying t=some (.slice e)) (hi:P.info? e=some i) (hz:i.zero=some z) (hsize:i.size=sz) (hby:i.bytes=bytes) (hzs:z.cells.size=sz) (hsz:0<sz)
 {S0:Nat->Prop} {b:Nat} {l:List D} {V:Value} (hs:a.eval s=V) (hrow:C9 S0 b e sz w l V) (hbw:b<=w.heap.size) {d:D} {cs:List Value} (hd:d.cells=sz) (hf:Ae (fun i=>S0 i/\V.ownBlock≠some i) w d cs)
 {B:Nat} {A:Option Addr} {c:Nat} (hx:a.eval x=.slice A 1 c) (hr:Cy w B sz A 1 cs) (h63:l.length+1<=maxLen) (hbytes:(l.length+1)*bytes<=140737488355328)
 (h: ∀V' w6,C9 S0 b e sz w6 (l++ [d]) V'->w.grownBy w6 V.ownBlock->(V'.ownBlock=V.ownBlock\/V'.ownBlock=some w.heap.size)->wpList P ops Q rest (a.put o.dst V') w6):wpList P ops Q (o::rest) a w:=
 wpList_plain hgd fun _ hK=>T3 s x t ho ht hi hz hsize hby hzs hsz hs hrow hbw hd hf hx hr h63 hbytes fun V' w6 h2 h3 h4=>hK _ _ (h V' w6 h2 h3 h4)
end
inductive Mut where
 |mk (k:Int) (key dst:ByteArray) (n:Int) (had:Bool) (was:Val) (has:Bool) (v:Val) (l:List Mut)
theorem Mut.ind {p:Mut->Prop} (h: ∀k key dst n had was has v l,(∀m ∈ l,p m)->p (.mk k key dst n had was has v l)): ∀m,p m:=by
 intro m;refine Mut.rec (motive_1:=p) (motive_2:=fun l=> ∀m ∈ l,p m) ?_ ?_ ?_ m
 . intro k key dst n had was has v l hl;exact h _ _ _ _ _ _ _ _ _ hl
 . intro m hm
   cases hm
 . intro m r hm hr x hx;rcases List.mem_cons.1 hx with rfl|hx
   . exact hm
   . exact hr x hx
mutual
def dM:Mut->D
 | .mk k key dst n had was has v l=> .agg [.leaf (.int .i64 k),.leaf (.string key),.leaf (.string dst),.leaf (.int .i64 n),.leaf (.bool had),dV was,.leaf (.bool has),dV v,.row 19 (Gw l)]
def Gw:List Mut->List D
 | []=> []
 |m::r=>dM m::Gw r
end
theorem Ct (m:Mut):(dM m).cells=19:=by
 cases m
 simp only[dM,D.cells,Mq,Ez]
theorem Nu: ∀l:List Mut,Gw l=l.map dM
 | []=>rfl
 |m::r=>by simp only[Gw,List.map_cons,Nu r]
theorem Sg (l:List Mut): ∀d ∈ Gw l,d.cells=19:=by
 intro d hd;rw[Nu]at hd;obtain⟨m,_,rfl⟩:=List.mem_map.1 hd;exact Ct m
theorem Po (l:List Mut):(Gw l).length=l.length:=by rw[Nu,List.length_map]
mutual
def Bm:Mut->Nat
 | .mk _ key dst _ _ was _ v l=>8+key.size+dst.size+was.bulk+v.bulk+C3 l
def C3:List Mut->Nat
 | []=>0
 |m::r=>Bm m+C3 r
end
theorem D1 {l:List Mut} {m:Mut} (h:m ∈ l):Bm m<=C3 l:=by
 induction l with
 |nil=>cases h
 |cons x r ih=>
  simp only[C3];rcases List.mem_cons.1 h with rfl|h
  . omega
  . have:=ih h;omega
theorem Fm (l:List Mut):8*l.length<=C3 l:=by
 induction l with
 |nil=>simp[C3]
 |cons x r ih=>
  simp only[C3,List.length_cons];have:8<=Bm x:=by cases x;simp only[Bm];omega
  omega
mutual
def Mu:Mut->Prop
 | .mk _ _ _ n _ was _ v l=>(-9223372036854775808<=n/\n<=9223372036854775807)/\Jg was/\Jg v/\Sm l
def Sm:List Mut->Prop
 | []=>True
 |m::r=>Mu m/\Sm r
end
theorem Vg {l:List Mut} {m:Mut} (h:m ∈ l) (hi:Sm l):Mu m:=by
 induction l with
 |nil=>cases h
 |cons x r ih=>
  simp only[Sm]at hi;rcases List.mem_cons.1 h with rfl|h
  . exact hi.1
  . exact ih h hi.2
mutual
def Cd:Mut->Nat
 | .mk _ _ _ _ _ _ _ _ l=>1+Bn l
def Bn:List Mut->Nat
 | []=>0
 |m::r=>Cd m+Bn r
end
theorem Wm: ∀(a b:List Mut),Bn (a++b)=Bn a+Bn b
 | [],b=>by simp[Bn]
 |x::r,b=>by simp only[List.cons_append,Bn,Wm r b];omega
theorem Hu: ∀m,8*Cd m<=Bm m:=by
 refine Mut.ind ?_;intro k key dst n had was has v l hl;have:8*Bn l<=C3 l:=by
  induction l with
  |nil=>simp[Bn,C3]
  |cons x r ih=>
   have h1:=hl x (by simp);have h2:=ih (fun m hm=>hl m (by simp[hm]));simp only[Bn,C3];omega
 simp only[Cd,Bm];omega
def Ao (k:Int) (dst:ByteArray) (n:Int) (had wasZ has valZ:Bool) (ln:Nat):Bool:=
 decide (1<=k)&&decide (k<=7)&&(decide (k=6)||dst.toList.isEmpty)&&(decide (k=3)||decide (n=0))&&(decide (k=4)||decide (k=7)|| !had)&&(decide (k=4)|| !has)&&(had||wasZ)&&(decide (k=1)||decide (k=5)||(decide (k=4)&&has)||valZ)&&(decide (k=7)||decide (ln=0))
def Fe (s:ByteArray):Bool:=decide (s.size<=64)&&Aw s
def Dr (k:Int) (key dst:ByteArray) (had:Bool):Bool:=if k=6 then Fe key&&Fe dst else if k=7/\key.toList.isEmpty=true then !had else Alt key
mutual
def Dv:Mut->Int->Int
 | .mk k key dst n had was has v l,d=>
   if Ao k dst n had (D0 was) has (D0 v) l.length=false then 9 else if 6<d then 5 else if Dr k key dst had=false then 8
   else if had=true/\Eg was≠0 then Eg was else if(has||decide (k=1)||decide (k=5))=true/\Eg v≠0 then Eg v else Gk l (d+1)
def Gk:List Mut->Int->Int
 | [],_=>0
 |m::r,d=>if Dv m d=0 then Gk r d else Dv m d
end
def Bk (m:Mut):Int:=if 64<Cd m then 6 else Dv m 1
theorem Vp {l:List Mut} {q:Nat} {m:Mut} (h:l[q]? =some m) (d:Int):Gk (l.drop q) d=if Dv m d=0 then Gk (l.drop (q+1)) d else Dv m d:=by
 obtain⟨hlt,rfl⟩:=List.getElem?_eq_some_iff.1 h;rw[List.drop_eq_getElem_cons hlt];rfl
structure Num where
 id:Int
 m:Mut
def Aqm (R g:Nat) (s:ByteArray) (w:World) (r:Rd Val) (e:Ending) (w':World):Prop:=match r with
 | .ok _ q=>e=.returned (.tuple #[])/\B6 R g s q w w'
 | .bad c q=>e=Nx c q/\w.grownBy w' (some R)
set_option maxRecDepth 100000 in
theorem Q1 (R g:Nat) (s t:ByteArray) (k:Nat) (v:Val) (w:World) (hs:s.size<=1000000000) (hk:k<=s.size) (ht:t.size<=100) (h:X7 w R g s k):
 Calls Tryz.prog 172 #[.pointer (some ⟨R,0,none⟩),.string t] w (Aqm R g s w (Ec s.data.toList k t.data.toList v)):=by
 have hext:(s.extract k s.size).data.toList=s.data.toList.drop k:=by
  rw[Lib.extract_data];exact List.take_of_length_le (by rw[List.length_drop,Aq];omega)
 have hH:=fun W=>Tryz.strings_HasPrefix (s.extract k s.size) t W;rw[hext]at hH;have hB:Lib.hasPrefix (s.data.toList.drop k) t.data.toList=t.data.toList.isPrefixOf (s.data.toList.drop k):=rfl;rw[hB]at hH;clear hB hext;have i0:(0:Int)<=(k:Int):=by omega
 have i1:(k:Int)<=(s.size:Int):=by omega
 obtain⟨c0,c1,_,f1,hR⟩:=h.cells;have H:=Lib.hid h;clear h;unfold Ec
 cases hp:t.data.toList.isPrefixOf (s.data.toList.drop k)with
 |true=>
  rw[hp]at hH;rw[if_pos rfl,Aq];have hle:k+t.size<=s.size:=by
   have:=(List.isPrefixOf_iff_prefix.1 hp).length_le;rw[List.length_drop,Aq,Aq]at this;omega
  clear hp;have HH:=Lib.hid hH;clear hH;go_enter Tryz.func172,Tryz.ntmps172;go_wp2;go_quiet ((go_at_call 202;exact Calls.quiet_of_same (HH.out _)));go_wp2
  go_end0
  exact⟨rfl,((B6.refl H.out).drewN _).set _⟩
 |false=>
  rw[hp]at hH;rw[if_neg (by decide)];clear hp;have hW:=fun W=>C8 (.pointer (some ⟨R,0,none⟩)) 4 k W;obtain⟨HH,HW⟩:=hid2 hH hW;clear hH hW;go_enter Tryz.func172,Tryz.ntmps172;go_wp2;go_quiet ((go_at_call 202;exact Calls.quiet_of_same (HH.out _)));go_wp2_with (fail);(with_reducible refine(HW.out _).mono ?_);rintro e w1 ⟨rfl,rfl⟩;exact⟨rfl,rfl,Iu (World.grownBy.refl _ _) _⟩
end Go.Proofs.YtmglfdckpjegdaaGreatDoor
namespace Go.Proofs.YtmglfdckpjegdaaGreatDoor
open Go.RowKit Go.ChangeShapes Go.WideShapes Go.ChangeAt
theorem Rx:ownKnob Tryz.prog.godebug=none:=by kernel_rfl
noncomputable def Ia (os:Os):World:=World.laidAll Tryz.prog os Rows.mutatorBackRow.laid
theorem Afz:Rows.laid_unicode_utf8_first=Lib.firstData:=by kernel_rfl
theorem Ac4:Rows.laid_unicode_utf8_acceptRanges (H:=Unit)=Lib.acceptData:=by kernel_rfl
theorem Af0:Rows.laid_internal_strconv_uint64pow10 (H:=Unit)=Lib.tabData .u64 Lib.pow10Tab:=by kernel_rfl
theorem Rm (os:Os) (args:Array Value):laidMet Tryz.prog Rows.mutatorBackRow.laid ((Ia os).forCall (fun _ _=>0) ⟨#[],args, []⟩).memory:=
 laidMet_laidAll _ (by kernel_rfl) (by kernel_rfl)
end Go.Proofs.YtmglfdckpjegdaaGreatDoor
