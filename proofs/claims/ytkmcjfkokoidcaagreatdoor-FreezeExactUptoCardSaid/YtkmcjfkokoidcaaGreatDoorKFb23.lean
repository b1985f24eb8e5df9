/- Parts: commonplaceref02.Compare: 0 just for the same value. Condition: values that may be, a bulk of at most 10^8. -/
import Derived.Deep.RegionHeld
import Derived.Deep.RegionLaw
import Derived.Lib.SliceRun
import Derived.Test.YtkmcjfkokoidcaaGreatDoorKFb19
import Derived.Test.YtkmcjfkokoidcaaGreatDoorKFb20
import Derived.Test.YtkmcjfkokoidcaaGreatDoorKFb21
set_option maxHeartbeats 20000000
set_option maxRecDepth 100000
namespace Go.Proofs.YtkmcjfkokoidcaaGreatDoor
open Go.RowKit
def O3 (x:List UInt8):Prop:= ∀c y,x=c::y->Cx c=false
def Yu (g:List UInt8):Prop:= ∀c ∈ g,D5 c=true
theorem Wx {s a x:List UInt8} {p:Nat} (h:s.drop p=a++x):s.drop (p+a.length)=x:=by
 rw[<-List.drop_drop,h,List.drop_left]
theorem Ad6 {s a x:List UInt8} {p:Nat} (h:s.drop p=a++x) (hp:p<=s.length):p+a.length<=s.length:=by
 have:=congrArg List.length h;rw[List.length_drop,List.length_append]at this;omega
theorem Aec {s x:List UInt8} {p:Nat} {c:UInt8} (h:s.drop p=c::x):s[p]? =some c:=by
 have:=List.getElem?_drop (xs:=s) (i:=p) (j:=0);rw[h]at this;simpa using this.symm
theorem Pk: ∀{g:List UInt8},Yu g-> ∀{s x:List UInt8} {p:Nat},s.drop p=g++x->Al s p=Al s (p+g.length)
 | [],_,_,_,_,_=>rfl
 |c::g,hg,s,x,p,h=>by
  rw[Ou (Aec h) (hg c (by simp))];have h2:s.drop (p+1)=g++x:=Wx (a:= [c]) (x:=g++x) (by simpa using h);rw[Pk (fun c hc=>hg c (by simp[hc])) h2,List.length_cons]
  congr 1;omega
theorem Aap {f:Nat} {s:List UInt8} {p p':Nat} {d:Int} (h:Al s p=Al s p'):Bi f s p d=Bi f s p' d:=by
 cases f with
 |zero=>unfold Bi;rw[h]
 |succ f=>unfold Bi;rw[h]
def Yz (t:List UInt8) (v:Val) (d:Int):Prop:= ∀f s p x,p<=s.length->s.drop p=t++x->O3 x->4*(s.length - p)+1<=f-> ∃q,Bi f s p d=.ok v q/\Al s q=Al s (p+t.length)
theorem O3.blanks {g x:List UInt8} (hg:Yu g) (hx:O3 x):O3 (g++x):=by
 intro c y h
 cases g with
 |nil=>exact hx c y h
 |cons a g=>
  have:a=c:=(List.cons.inj h).1;subst this;have:=hg a (by simp);unfold D5 at this;simp only[Bool.or_eq_true,beq_iff_eq]at this;rcases this with((rfl|rfl)|rfl)|rfl<;>decide
theorem O3.of {c:UInt8} {y:List UInt8} (h:Cx c=false):O3 (c::y):=by
 intro c' y' e;rw[<-(List.cons.inj e).1];exact h
theorem O3.nil:O3 []:=by intro c y e;cases e
theorem Yz.ahead {t:List UInt8} {v:Val} {d:Int} (h:Yz t v d) {g:List UInt8} (hg:Yu g):Yz (g++t) v d:=by
 intro f s p x hp hs hx hf;rw[List.append_assoc]at hs;have h1:=Pk hg hs;have h2:=Wx hs;have h3:=Ad6 hs hp;obtain⟨q,h4,h5⟩:=h f s (p+g.length) x h3 h2 hx (by omega);refine⟨q,by rw[Aap h1];exact h4, ?_⟩;rw[h5,List.length_append]
 congr 1;omega
theorem Afx {c:UInt8}:Cx c=true ↔ 48<=c.toNat/\c.toNat<=57:=by unfold Cx;simp
theorem Aaj {c:UInt8} (h:Cx c=true\/c=45):E3 c=true/\D5 c=false/\c≠91/\c≠123/\c≠34/\c≠110/\c≠116/\c≠102:=by
 rcases h with h|rfl
 . have hd:=Afx.1 h;have ne: ∀k:UInt8,(k.toNat<48\/57<k.toNat)->c≠k:=by
    rintro k hk rfl;omega
   refine⟨by unfold E3;rw[h];rfl, ?_,ne _ (by decide),ne _ (by decide),ne _ (by decide),ne _ (by decide),ne _ (by decide),ne _ (by decide)⟩;unfold D5;simp only[Bool.or_eq_false_iff,beq_eq_false_iff_ne];exact⟨⟨⟨ne _ (by decide),ne _ (by decide)⟩,ne _ (by decide)⟩,ne _ (by decide)⟩
 . decide
structure Mem where
 pre:List UInt8
 mid:List UInt8
 txt:List UInt8
 key:ByteArray
 val:Val
def Mem.pair (m:Mem):ByteArray×Val:=(m.key,m.val)
theorem Oj: ∀{l:List (ByteArray×Val)} {last:Option ByteArray} {d:Int},Do l last d=0->B8 l/\ ∀q,last=some q-> ∀m ∈ l,C8 q m.1=true
 | [],_,_,_=>⟨List.Pairwise.nil,fun q _ m hm=>by cases hm⟩
 |(k,v)::r,last,d,h=>by
  simp only[Do]at h;by_cases hP:Ol (k,v) last d=0
  . rw[if_pos hP]at h;obtain⟨h1,h2⟩:=Oj h;refine⟨List.pairwise_cons.2 ⟨fun m hm=>h2 k rfl m hm,h1⟩,fun q hq m hm=> ?_⟩;subst hq;have hqk:C8 q k=true:=by
     simp only[Ol]at hP
     split at hP
     . split at hP
       . cases hP
       . rename_i hle;unfold leB at hle;simp only[Bool.or_eq_true,not_or]at hle;rcases Lf q k with t|t|t
         . exact t
         . subst t;exact absurd (by simp) hle.2
         . exact absurd t hle.1
     . cases hP
    rcases List.mem_cons.1 hm with rfl|hm
    . exact hqk
    . exact De hqk (h2 k rfl m hm)
  . rw[if_neg hP]at h;exact absurd h hP
def Jk (w:World) (g:Nat) (v:Val) (c:List Value) (w':World):Prop:=
 Below w.heap.size w w'/\w'.heap[g]? =some (.cells c.toArray 37 (0,0))/\B3 w'/\Ac w' w'.heap.size v c
theorem Jk.step {w w' w'':World} {g:Nat} {v:Val} {c:List Value} (h:Jk w g v c w') (hb:Below w'.heap.size w' w''):Jk w g v c w'':=by
 obtain⟨h1,h2,h3,h4⟩:=h;exact⟨h1.trans (hb.mono h1.size),(hb.block _ (Array.getElem?_eq_some_iff.1 h2).1).trans h2,h3.below hb,Ac.more hb.size _ _ (h4.below hb)⟩
theorem Jk.start {w:World} {v:Val} {c:List Value} (hT:B3 w) (hV:Ac w w.heap.size v c):Jk w w.heap.size v c (w.alloc (.cells c.toArray 37)):=by
 have hb:Below w.heap.size w (w.alloc (.cells c.toArray 37)):=(Below.refl _ _).alloc (Nat.le_refl _) _;exact⟨hb,heap_alloc_new _ _,hT.below hb,Ac.more hb.size _ _ (hV.below hb)⟩
theorem Jk.cells {w w':World} {g:Nat} {v:Val} {k:Int} {b:Bool} {n:Int} {t:ByteArray} {x y:Value} (h:Jk w g v [.int .i64 k,.bool b,.int .i64 n,.string t,x,y] w'):
 w'.cell? ⟨g,0,none⟩=some (.int .i64 k)/\w'.cell? ⟨g,1,none⟩=some (.bool b)/\w'.cell? ⟨g,2,none⟩=some (.int .i64 n)/\w'.cell? ⟨g,3,none⟩=some (.string t)/\w'.cell? ⟨g,4,none⟩=some x/\w'.cell? ⟨g,5,none⟩=some y:=
 S8 h.2.1
theorem Jk.tabs {w w':World} {g:Nat} {v:Val} {c:List Value} (h:Jk w g v c w'):B3 w':=h.2.2.1
theorem Jk.below {w w':World} {g:Nat} {v:Val} {c:List Value} (h:Jk w g v c w'):Below w.heap.size w w':=h.1
def G0 (v:Val):Int:=if Aw v 1=0 then(if 16<Dv v then 5 else if 1024<(Bn v).length then 6 else 0)else Aw v 1
theorem Yv (v:Val) (cs:List Value) (w:World) (hT:B3 w) (hV:Ac w w.heap.size v cs) (hb:v.bulk<=100000000) (hi:Kd v):
 Calls Tryz.prog 77 #[.agg cs.toArray] w fun e w'=>e=.returned (.int .i64 (G0 v))/\Below w.heap.size w w':=by
 have hV':=hV;obtain⟨k,b,n,t,l,o⟩:=v;simp only[Ac]at hV';obtain⟨la,lc,oa,oc,rfl,_,_⟩:=hV';have H1:=qz (Jk.start hT hV);obtain⟨v,hv⟩: ∃v,Val.mk k b n t l o=v:=⟨_,rfl⟩;rw[hv]at hi hb H1 ⊢;have CM:=fun w' (h:Jk w w.heap.size v (Ds k b n t la l.length lc oa o.length oc) w')=>Oa v _ w' h.tabs h.2.2.2 (by omega);unfold G0;by_cases hm:Aw v 1=0
 . have hok:=Z6 v 1 hm hi;have CB:=fun w' (h:Jk w w.heap.size v (Ds k b n t la l.length lc oa o.length oc) w')=>Wl v _ w' h.tabs h.2.2.2 (by omega) hok;have CD:=fun w' (h:Jk w w.heap.size v (Ds k b n t la l.length lc oa o.length oc) w')=>Zd v _ w' h.2.2.2 (by omega);rw[if_pos hm];rw[hm]at CM;generalize (Bn v).length=L at CB ⊢;generalize Dv v=D at CD ⊢;obtain⟨HB,HD,HM⟩:=hid3 CB CD CM;clear CB CM CD hm hi hb hT hV hv hok;by_cases hd:16<D
   . rw[if_pos hd];go_enter Tryz.func77,Tryz.ntmps77;go_wp2_with (fail);(with_reducible refine(HM.out _ H1.out).mono ?_);rintro e w2 ⟨rfl,hb2⟩;have H2:=qz (H1.out.step hb2);obtain⟨d0,d1,d2,d3,d4,d5⟩:=H2.out.cells;clear hb2 H1;go_wp2_with (fail);(with_reducible refine(HD.out _ H2.out).mono ?_);rintro e w3 ⟨rfl,hb3⟩;have H3:=qz (H2.out.step hb3);clear d0 d1 d2 d3 d4 d5 hb3 H2;go_wp2;go_ret;exact⟨rfl,H3.out.below⟩
   . rw[if_neg hd];by_cases hl:1024<L
     all_goals
      (first|rw[if_pos hl]|rw[if_neg hl])
      go_enter Tryz.func77,Tryz.ntmps77;go_wp2_with (fail);(with_reducible refine(HM.out _ H1.out).mono ?_);rintro e w2 ⟨rfl,hb2⟩;have H2:=qz (H1.out.step hb2);obtain⟨d0,d1,d2,d3,d4,d5⟩:=H2.out.cells;clear hb2 H1;go_wp2_with (fail);(with_reducible refine(HD.out _ H2.out).mono ?_);rintro e w3 ⟨rfl,hb3⟩;have H3:=qz (H2.out.step hb3);clear d0 d1 d2 d3 d4 d5 hb3 H2;obtain⟨d0,d1,d2,d3,d4,d5⟩:=H3.out.cells;go_wp2_with (fail);(with_reducible refine(HB.out _ H3.out).mono ?_);rintro e w4 ⟨rfl,hb4⟩;have H4:=qz (H3.out.step hb4);clear d0 d1 d2 d3 d4 d5 hb4 H3;go_wp2;go_ret;exact⟨rfl,H4.out.below⟩
 . rw[if_neg hm];have hmb:(Aw v 1==0)=false:=by simpa using hm
   have hmn:(Aw v 1 != 0)=true:=by simpa using hm
   generalize Aw v 1=m at*
   have HM:=qz CM;clear CM hm hi hb hT hV hv;go_enter Tryz.func77,Tryz.ntmps77;go_wp2_with (fail);(with_reducible refine(HM.out _ H1.out).mono ?_);rintro e w2 ⟨rfl,hb2⟩;have H2:=qz (H1.out.step hb2);clear hb2 H1;go_wp2;go_ret;exact⟨rfl,H2.out.below⟩
theorem Vy (v:Val) (cs:List Value) (w:World) (hT:B3 w) (hV:Ac w w.heap.size v cs) (hb:v.bulk<=100000000) (hi:Kd v):
 Calls Tryz.prog 64 #[.agg cs.toArray] w fun e w'=>e=.returned (.int .i64 (G0 v))/\Below w.heap.size w w':=by
 have hV':=hV;obtain⟨k,b,n,t,l,o⟩:=v;simp only[Ac]at hV';obtain⟨la,lc,oa,oc,rfl,_,_⟩:=hV';have H1:=qz (Jk.start hT hV);obtain⟨v,hv⟩: ∃v,Val.mk k b n t l o=v:=⟨_,rfl⟩;rw[hv]at hi hb H1 ⊢;have CM:=fun w' (h:Jk w w.heap.size v (Ds k b n t la l.length lc oa o.length oc) w')=>Qy v _ w' h.2.2.2 (by omega);unfold G0;by_cases hm:Aw v 1=0
 . have CB:=fun w' (h:Jk w w.heap.size v (Ds k b n t la l.length lc oa o.length oc) w')=>Pq v _ w' 1 h.2.2.2 (by omega) hm hi;have CD:=fun w' (h:Jk w w.heap.size v (Ds k b n t la l.length lc oa o.length oc) w')=>X4 v _ w' h.2.2.2 (by omega);obtain⟨S,hS⟩: ∃S:ByteArray,(⟨(Bn v).toArray⟩:ByteArray)=S:=⟨_,rfl⟩;have hL:(Bn v).length=S.size:=by rw[<-hS,Ln]
   rw[if_pos hm,hL];rw[hm]at CM;rw[hS]at CB;generalize Dv v=D at CD ⊢;obtain⟨HB,HD,HM⟩:=hid3 CB CD CM;clear CB CM CD hm hi hb hT hV hv hS hL;by_cases hd:16<D
   . rw[if_pos hd];go_enter Tryz.func64,Tryz.ntmps64;go_wp2_with (fail);(with_reducible refine(HM.out _ H1.out).mono ?_);rintro e w2 ⟨rfl,hb2⟩;have H2:=qz (H1.out.step hb2);obtain⟨d0,d1,d2,d3,d4,d5⟩:=H2.out.cells;clear hb2 H1;go_wp2_with (fail);(with_reducible refine(HD.out _ H2.out).mono ?_);rintro e w3 ⟨rfl,hb3⟩;have H3:=qz (H2.out.step hb3);clear d0 d1 d2 d3 d4 d5 hb3 H2;go_wp2;go_ret;exact⟨rfl,H3.out.below⟩
   . rw[if_neg hd];by_cases hl:1024<S.size
     all_goals
      (first|rw[if_pos hl]|rw[if_neg hl])
      go_enter Tryz.func64,Tryz.ntmps64;go_wp2_with (fail);(with_reducible refine(HM.out _ H1.out).mono ?_);rintro e w2 ⟨rfl,hb2⟩;have H2:=qz (H1.out.step hb2);obtain⟨d0,d1,d2,d3,d4,d5⟩:=H2.out.cells;clear hb2 H1;go_wp2_with (fail);(with_reducible refine(HD.out _ H2.out).mono ?_);rintro e w3 ⟨rfl,hb3⟩;have H3:=qz (H2.out.step hb3);clear d0 d1 d2 d3 d4 d5 hb3 H2;obtain⟨d0,d1,d2,d3,d4,d5⟩:=H3.out.cells;go_wp2_with (fail);(with_reducible refine(HB.out _ H3.out).mono ?_);rintro e w4 ⟨rfl,hb4⟩;have H4:=qz (H3.out.step hb4);clear d0 d1 d2 d3 d4 d5 hb4 H3;go_wp2;go_ret;exact⟨rfl,H4.out.below⟩
 . rw[if_neg hm];have hmb:(Aw v 1==0)=false:=by simpa using hm
   have hmn:(Aw v 1 != 0)=true:=by simpa using hm
   generalize Aw v 1=m at*
   have HM:=qz CM;clear CM hm hi hb hT hV hv;go_enter Tryz.func64,Tryz.ntmps64;go_wp2_with (fail);(with_reducible refine(HM.out _ H1.out).mono ?_);rintro e w2 ⟨rfl,hb2⟩;have H2:=qz (H1.out.step hb2);clear hb2 H1;go_wp2;go_ret;exact⟨rfl,H2.out.below⟩
structure POp where
 k:Int
 key:ByteArray
 v:Val
def Uy (k:ByteArray):Bool:= !k.toList.isEmpty&&(decide (k.size<=64)&&A8 k)
def Lr (k:ByteArray):Int:=if k.toList.isEmpty then 8 else if 64<k.size then 6 else if A8 k then 0 else 3
theorem Th (k:ByteArray):Lr k=0 ↔ Uy k=true:=by
 unfold Lr Uy
 cases k.toList.isEmpty<;>by_cases h:64<k.size<;>cases A8 k<;>simp[h]<;>omega
def Agt:Val->Bool
 | .mk k b n t l o=>Ahn k b n t l.length o.length
abbrev Z0:ByteArray:=⟨#[]⟩
abbrev Af5:ByteArray:=⟨#[107,101,121]⟩
abbrev Aio:ByteArray:=⟨#[118,97,108,117,101]⟩
def tv (s:ByteArray):Val:=.mk 4 false 0 s [] []
def iv (n:Int):Val:=.mk 3 false n Z0 [] []
def lv (l:List Val):Val:=.mk 5 false 0 Z0 l []
def ov (o:List (ByteArray×Val)):Val:=.mk 6 false 0 Z0 [] o
theorem Z1:A8 Z0=true:=by decide
theorem Ahl (n:Nat):Fl 6 false 0 Z0 0 n=false:=by simp[Fl,Lib.toList_data]
theorem Ahi {k:Int} {b:Bool} {n:Int} {t:ByteArray} {l:List Val} {o:List (ByteArray×Val)} {d:Int} (h1:Fl k b n t l.length o.length=false) (h2:d<=64) (h3:A8 t=true) (h4:Dj l (d+1)=0) (h5:Do o none (d+1)=0):Aw (.mk k b n t l o) d=0:=by
 simp only[Aw];rw[if_neg (by rw[h1];simp),if_neg (by omega),if_pos h3,if_pos h4];exact h5
theorem Ahj {o:List (ByteArray×Val)} {d:Int} (hd:d<=64) (h:Do o none (d+1)=0):Aw (ov o) d=0:=Ahi (Ahl _) hd Z1 (by simp[Dj]) h
theorem Zj {v:Val} (h:G0 v=0):Aw v 1=0/\Dv v<=16/\(Bn v).length<=1024:=by
 unfold G0 at h;by_cases h1:Aw v 1=0
 . rw[if_pos h1]at h;by_cases h2:16<Dv v
   . rw[if_pos h2]at h;cases h
   rw[if_neg h2]at h;by_cases h3:1024<(Bn v).length
   . rw[if_pos h3]at h;cases h
   exact⟨h1,by omega,by omega⟩
 . rw[if_neg h1]at h;exact absurd h h1
end Go.Proofs.YtkmcjfkokoidcaaGreatDoor
namespace Go.Proofs.YtkmcjfkokoidcaaGreatDoor
end Go.Proofs.YtkmcjfkokoidcaaGreatDoor
namespace Go.Proofs.YtkmcjfkokoidcaaGreatDoor
open Go Go.RowKit
theorem Ahd {S:Nat->Prop} {s n c g off:Nat} {w:World} {l:List D} {q:Nat} {d:D} {u0 v1:Value} (h:Ai S w (.row s l) [.slice (some ⟨g,off,none⟩) n c]) (hi:l[q]? =some d) (hu: ∀(w:World) (B:Nat) cs,Ah w B d cs->cs[0]? =some u0) (hv:v1≠u0):
 S g/\ ∀cs:List Value,(∀j u,cs[j]? =some u->w.cell? ⟨g,off+q*s+j,none⟩=some u)->cs.length=s->Ai S w d cs:=by
 obtain⟨g',off',e,hg,cs0,h1,hl0,hc0⟩:=h.now.at_ hi
 cases e
 have hf:=hc0 0 u0 (hu _ _ _ h1);have hge:S g:=by
  refine Classical.byContradiction fun hlt=>hv ?_;obtain⟨g2,off2,e,_,cs1,h2,_,hc1⟩:=(h (w.setCell ⟨g,off+q*s+0,none⟩ v1) (by simp[World.setCell]) (fun p p1 p2=>World.cell?_setCell_far _ _ _ _ (by show g≠p.block;intro e;exact hlt (e▸p1)))).at_ hi
  cases e
  have:=hc1 0 u0 (hu _ _ _ h2);rw[World.cell?_setCell_same _ _ _ hf]at this;exact Option.some.inj this
 refine⟨hge,fun cs hcs hl w'' hs hk=> ?_⟩;obtain⟨g2,off2,e,_,cs2,h2,hl2,hc2⟩:=(h w'' hs hk).at_ hi
 cases e
 have:cs2=cs:=by
  refine List.ext_getElem? fun j=> ?_;by_cases hj:j<s
  . obtain⟨u,hu1⟩: ∃u,cs2[j]? =some u:=⟨_,List.getElem?_eq_getElem (by omega)⟩;obtain⟨u',hu2⟩: ∃u,cs[j]? =some u:=⟨_,List.getElem?_eq_getElem (by omega)⟩;have e1:=hc2 j u hu1;rw[hk _ hge hg,hcs j u' hu2]at e1;rw[hu1,hu2,Option.some.inj e1]
  . rw[List.getElem?_eq_none (by omega),List.getElem?_eq_none (by omega)]
 rw[<-this];exact h2
theorem Jc {S:Nat->Prop} {w:World} {n c:Nat} {l:List (ByteArray×Val)} {a:Option Addr} (h:Ai S w (.row 7 (dO l)) [.slice a n c]) {q:Nat} {key:ByteArray} {k':Int} {b':Bool} {n':Int} {t':ByteArray} {l':List Val} {o':List (ByteArray×Val)} (hi:l[q]? =some (key,.mk k' b' n' t' l' o')):
 ∃g off,a=some ⟨g,off,none⟩/\g<w.heap.size/\ ∃la lc oa oc,Ai S w (dV (.mk k' b' n' t' l' o')) [.int .i64 k',.bool b',.int .i64 n',.string t',.slice la l'.length lc,.slice oa o'.length oc]/\
  w.cell? ⟨g,off+q*7,none⟩=some (.string key)/\w.cell? ⟨g,off+q*7+1,none⟩=some (.int .i64 k')/\w.cell? ⟨g,off+q*7+2,none⟩=some (.bool b')/\
  w.cell? ⟨g,off+q*7+3,none⟩=some (.int .i64 n')/\w.cell? ⟨g,off+q*7+4,none⟩=some (.string t')/\w.cell? ⟨g,off+q*7+5,none⟩=some (.slice la l'.length lc)/\w.cell? ⟨g,off+q*7+6,none⟩=some (.slice oa o'.length oc):=by
 obtain⟨g,off,rfl,hg,la,lc,oa,oc,_,c0,c1,c2,c3,c4,c5,c6⟩:=Abg h.now hi;refine⟨g,off,rfl,hg,la,lc,oa,oc, ?_,c0,c1,c2,c3,c4,c5,c6⟩;have hm:=(Ahd (v1:=.bool false) h (d:=dP (key,.mk k' b' n' t' l' o')) (by rw[Bl,List.getElem?_map,hi];rfl) Ad3 (by simp)).2 [.string key,.int .i64 k',.bool b',.int .i64 n',.string t',.slice la l'.length lc,.slice oa o'.length oc] (fun j u hj=>by
  match j with
  |0=>cases hj;exact c0
  |1=>cases hj;exact c1
  |2=>cases hj;exact c2
  |3=>cases hj;exact c3
  |4=>cases hj;exact c4
  |5=>cases hj;exact c5
  |6=>cases hj;exact c6
  |j+7=>simp at hj) rfl
 exact fun w'' h1 h2=>Ag8 (hm w'' h1 h2)
theorem Ai.base {S:Nat->Prop} {w0 w:World} {d:D} {cs:List Value} (h:Ai S w0 d cs) (hb:Below w0.heap.size w0 w):Ai (fun i=>S i/\i<w0.heap.size) w d cs:=fun w'' h1 h2=>
 (h w'' (Nat.le_trans hb.size h1) fun p p1 p2=>(h2 p ⟨p1,p2⟩ (Nat.lt_of_lt_of_le p2 hb.size)).trans (hb.cell p2)).more hb.size
inductive Mut where
 |mk (k:Int) (key dst:ByteArray) (n:Int) (had:Bool) (was:Val) (has:Bool) (v:Val) (l:List Mut)
theorem Mut.ind {p:Mut->Prop} (h: ∀k key dst n had was has v l,(∀m ∈ l,p m)->p (.mk k key dst n had was has v l)): ∀m,p m:=by
 intro m;refine Mut.rec (motive_1:=p) (motive_2:=fun l=> ∀m ∈ l,p m) ?_ ?_ ?_ m
 . intro k key dst n had was has v l hl;exact h _ _ _ _ _ _ _ _ _ hl
 . intro m hm
   cases hm
 . intro m r hm hr x hx;rcases List.mem_cons.1 hx with rfl|hx
   . exact hm
   . exact hr x hx
mutual
def dM:Mut->D
 | .mk k key dst n had was has v l=> .agg [.leaf (.int .i64 k),.leaf (.string key),.leaf (.string dst),.leaf (.int .i64 n),.leaf (.bool had),dV was,.leaf (.bool has),dV v,.row 19 (dMs l)]
def dMs:List Mut->List D
 | []=> []
 |m::r=>dM m::dMs r
end
mutual
def Ahx:Mut->Nat
 | .mk _ key dst _ _ was _ v l=>8+key.size+dst.size+was.bulk+v.bulk+Adv l
def Adv:List Mut->Nat
 | []=>0
 |m::r=>Ahx m+Adv r
end
mutual
def inM:Mut->Prop
 | .mk _ _ _ n _ was _ v l=>(-9223372036854775808<=n/\n<=9223372036854775807)/\Kd was/\Kd v/\Ahy l
def Ahy:List Mut->Prop
 | []=>True
 |m::r=>inM m/\Ahy r
end
mutual
def Aid:Mut->Nat
 | .mk _ _ _ _ _ _ _ _ l=>1+Aff l
def Aff:List Mut->Nat
 | []=>0
 |m::r=>Aid m+Aff r
end
def Ahv (k:Int) (dst:ByteArray) (n:Int) (had wasZ has valZ:Bool) (ln:Nat):Bool:=
 decide (1<=k)&&decide (k<=7)&&(decide (k=6)||dst.toList.isEmpty)&&(decide (k=3)||decide (n=0))&&(decide (k=4)||decide (k=7)|| !had)&&(decide (k=4)|| !has)&&(had||wasZ)&&(decide (k=1)||decide (k=5)||(decide (k=4)&&has)||valZ)&&(decide (k=7)||decide (ln=0))
def Afe (s:ByteArray):Bool:=decide (s.size<=64)&&A8 s
def Ahg (k:Int) (key dst:ByteArray) (had:Bool):Bool:=if k=6 then Afe key&&Afe dst else if k=7/\key.toList.isEmpty=true then !had else Uy key
mutual
def Ah8:Mut->Int->Int
 | .mk k key dst n had was has v l,d=>
   if Ahv k dst n had (Agt was) has (Agt v) l.length=false then 9 else if 6<d then 5 else if Ahg k key dst had=false then 8
   else if had=true/\G0 was≠0 then G0 was else if(has||decide (k=1)||decide (k=5))=true/\G0 v≠0 then G0 v else Agp l (d+1)
def Agp:List Mut->Int->Int
 | [],_=>0
 |m::r,d=>if Ah8 m d=0 then Agp r d else Ah8 m d
end
structure Num where
 id:Int
 m:Mut
abbrev Ah3:ByteArray:=⟨#[97,114,103,115]⟩
abbrev Ah5:ByteArray:=⟨#[110,97,109,101]⟩
abbrev kBy:ByteArray:=⟨#[98,121]⟩
abbrev kIs:ByteArray:=⟨#[105,115]⟩
abbrev Aip:ByteArray:=⟨#[119,97,115]⟩
abbrev Ah4:ByteArray:=⟨#[102,114,111,109]⟩
abbrev kTo:ByteArray:=⟨#[116,111]⟩
abbrev kDo:ByteArray:=⟨#[100,111]⟩
abbrev kIf:ByteArray:=⟨#[105,102]⟩
abbrev Aiv:ByteArray:=⟨#[112,117,116]⟩
abbrev Ait:ByteArray:=⟨#[100,101,108]⟩
abbrev Aiu:ByteArray:=⟨#[105,110,99]⟩
abbrev Ais:ByteArray:=⟨#[99,97,115]⟩
abbrev Air:ByteArray:=⟨#[97,112,112,101,110,100]⟩
abbrev Ah9:ByteArray:=⟨#[109,111,118,101]⟩
abbrev Aiw:ByteArray:=⟨#[115,101,113]⟩
def Aia (k:Int):ByteArray:=if k=1 then Aiv else if k=2 then Ait else if k=3 then Aiu else if k=4 then Ais else if k=5 then Air else if k=6 then Ah9 else Aiw
def Aed (key:ByteArray) (had:Bool) (was:Val):List (ByteArray×Val):=(Af5,tv key)::(if had then [(Aip,was)]else [])
mutual
def Aiq:Mut->Val
 | .mk k key dst n had was has v l=>ov [(Ah3,ov (if k=1\/k=5 then [(Af5,tv key),(Aio,v)]else if k=2 then [(Af5,tv key)]else if k=3 then [(kBy,iv n),(Af5,tv key)]
    else if k=4 then(if has then [(kIs,v)]else [])++Aed key had was
    else if k=6 then [(Ah4,tv key),(kTo,tv dst)]
    else(kDo,lv (Agq l))::(if key.toList.isEmpty then []else [(kIf,ov (Aed key had was))]))),(Ah5,tv (Aia k))]
def Agq:List Mut->List Val
 | []=> []
 |m::r=>Aiq m::Agq r
end
theorem Aex {v:Val} {d:Int} (h:G0 v=0) (hd:d<=48):Aw v d=0:=by
 obtain⟨f1,f2,_⟩:=Zj h;exact Xj v _ 1 f1 (by omega)
theorem Aab (s:ByteArray) (w:World) (hs:s.size<=1000000000):Calls Tryz.prog 63 #[.string s] w fun e w'=>e=.returned (.int .i64 (Lr s))/\w=w':=by
 obtain⟨B,hB⟩: ∃B,A8 s=B:=⟨_,rfl⟩;have HC:=qz (fun W=>Ci hB W hs);have e0:s.toList.isEmpty=decide (s.size=0):=by
  rw[Lib.toList_data,Lib.size_eq];cases s.data.toList<;>simp
 have hE:Lr s=if s.size=0 then 8 else if 64<s.size then 6 else if B then 0 else 3:=by
  unfold Lr;rw[e0,hB];simp
 clear hB e0;by_cases h0:s.size=0
 . rw[if_pos h0]at hE;have t0:((s.size:Int)==0)=true:=by rw[beq_iff_eq];omega
   have HE:=qz hE;clear hE;clear h0;go_enter Tryz.func63,Tryz.ntmps63;go_wp2;go_ret;exact⟨by rw[HE.out];rfl,rfl⟩
 rw[if_neg h0]at hE;have t0:((s.size:Int)==0)=false:=by rw[beq_eq_false_iff_ne];omega
 by_cases h1:64<s.size
 . rw[if_pos h1]at hE;have t1:(64:Int)<(s.size:Int):=by omega
   have HE:=qz hE;clear hE;clear h0 h1;go_enter Tryz.func63,Tryz.ntmps63;go_wp2;go_ret;exact⟨by rw[HE.out];rfl,rfl⟩
 rw[if_neg h1]at hE;have t1:(s.size:Int)<=64:=by omega
 have HE:=qz hE;clear hE;clear h0 h1
 cases B with
 |true=>
  go_enter Tryz.func63,Tryz.ntmps63;go_wp2_with (go_at_call 112;(with_reducible refine(HC.out _).mono ?_);rintro e w2 ⟨rfl,rfl⟩);go_ret;exact⟨by rw[HE.out];rfl,rfl⟩
 |false=>
  go_enter Tryz.func63,Tryz.ntmps63;go_wp2_with (go_at_call 112;(with_reducible refine(HC.out _).mono ?_);rintro e w2 ⟨rfl,rfl⟩);go_ret;exact⟨by rw[HE.out];rfl,rfl⟩
abbrev Kc:Val:=.mk 0 false 0 ⟨#[]⟩ [] []
theorem Mf (w:World) (B:Nat):Ac w B Kc [.int .i64 0,.bool false,.int .i64 0,.string ⟨#[]⟩,.slice none 0 0,.slice none 0 0]:=by
 simp only[Ac];exact⟨none,0,none,0,rfl,by simp,by simp⟩
mutual
def Ft:Val->Val->Bool
 | .mk k b n t l o,.mk k' b' n' t' l' o'=>decide (k=k')&&(if k=2 then b==b' else if k=3 then decide (n=n')else if k=4 then decide (t=t')else if k=5 then Nu l l' else if k=6 then Ml o o' else true)
def Nu:List Val->List Val->Bool
 | [], []=>true
 | [],_::_=>false
 |_::_, []=>false
 |x::r,y::s=>Ft x y&&Nu r s
def Ml:List (ByteArray×Val)->List (ByteArray×Val)->Bool
 | [], []=>true
 | [],_::_=>false
 |_::_, []=>false
 |p::r,q::s=>Vk p q&&Ml r s
def Vk:ByteArray×Val->ByteArray×Val->Bool
 |(k,x),(k',y)=>decide (k=k')&&Ft x y
end
theorem Tu: ∀{l:List Val},(∀v ∈ l,Ft v v=true)->Nu l l=true
 | [],_=>by simp[Nu]
 |v::r,h=>by simp only[Nu,h v (by simp),Tu (l:=r) fun x hx=>h x (by simp[hx]),Bool.and_self]
theorem Tv: ∀{o:List (ByteArray×Val)},(∀m ∈ o,Ft m.2 m.2=true)->Ml o o=true
 | [],_=>by simp[Ml]
 |(k,v)::r,h=>by
  have h1:Ft v v=true:=h (k,v) (by simp);simp only[Ml,Vk,h1,Tv (o:=r) fun x hx=>h x (by simp[hx]),Bool.and_self,decide_true]
theorem Ac1: ∀v,Ft v v=true:=by
 refine Val.ind ?_;intro k b n t l o hl ho;simp only[Ft,Tu hl,Tv ho,decide_true,Bool.true_and,beq_self_eq_true]
 split
 . rfl
 split
 . rfl
 split
 . rfl
 split
 . rfl
 split<;>rfl
mutual
def Ai1:Mut->Mut->Bool
 | .mk k key dst n had was has v l,.mk k' key' dst' n' had' was' has' v' l'=>decide (k=k')&&decide (key=key')&&decide (dst=dst')&&decide (n=n')&&(had==had')&&(has==has')&&Ft was was'&&Ft v v'&&Agr l l'
def Agr:List Mut->List Mut->Bool
 | [], []=>true
 | [],_::_=>false
 |_::_, []=>false
 |x::r,y::s=>Ai1 x y&&Agr r s
end
end Go.Proofs.YtkmcjfkokoidcaaGreatDoor
namespace Go.Proofs.YtkmcjfkokoidcaaGreatDoor
theorem X0 {k:ByteArray} {v:Val} {P A:List Bj} (hP: ∀e ∈ P,C8 e.1 k=true) (hA: ∀e ∈ A,C8 k e.1=true):Cm k v (P++A)=P++(k,v)::A:=by
 rw[Np hP,Tr hA]
def Jg:List Bj->List Bj->Bool
 | [], []=>true
 | [],_::_=>false
 |_::_, []=>false
 |(a,x)::r,(b,y)::s=>decide (a=b)&&(Ft x y&&Jg r s)
theorem Mk: ∀l:List Bj,Jg l l=true
 | []=>rfl
 |(a,x)::r=>by simp only[Jg,Ac1,Mk r,decide_true,Bool.and_self]
def I0 (e:Bj):Int:=if Uy e.1=false then 8 else G0 e.2
def A6:List Bj->Int
 | []=>0
 |e::r=>if I0 e=0 then A6 r else I0 e
theorem Acn {l:List Bj} (h:A6 l=0): ∀e ∈ l,Uy e.1=true/\G0 e.2=0:=by
 induction l with
 |nil=>intro e he;cases he
 |cons x r ih=>
  simp only[A6]at h;by_cases hx:I0 x=0
  . rw[if_pos hx]at h;intro e he;rcases List.mem_cons.1 he with rfl|he
    . unfold I0 at hx;by_cases hk:Uy e.1=false
      . rw[if_pos hk]at hx;cases hx
      . rw[if_neg hk]at hx;exact⟨by simpa using hk,hx⟩
    . exact ih h e he
  . rw[if_neg hx]at h;exact absurd h hx
end Go.Proofs.YtkmcjfkokoidcaaGreatDoor
namespace Go.Proofs.YtkmcjfkokoidcaaGreatDoor
open Go Go.RowKit
theorem Dx (s:ByteArray) (k:Nat) (w:World) (hs:s.size<=1000000000) (hk:k<=s.size):
 Calls Tryz.prog 89 #[.string s,.int .i64 k] w fun e w'=>e=.returned (.int .i64 (Al s.data.toList k:Nat))/\w=w':=by
 obtain⟨P,hP⟩: ∃P,Al s.data.toList k=P:=⟨_,rfl⟩;have H0:=qz hP;rw[hP];clear hP;go_enter Tryz.func89,Tryz.ntmps89;go_wp2
 go_loop [1] (fun i=> ∃j:Nat,j<=s.size/\i=.int .i64 j/\Hid (Al s.data.toList j=P)) (fun i=>s.size - (intOf i).toNat)
 case atStart=>exact⟨k,hk,rfl,H0⟩
 case round=>
  obtain⟨j,hj,rfl,hh⟩:=hrel;clear H0;by_cases hlt:j<s.size
  . obtain⟨c,hc⟩: ∃c,s[j]=c:=⟨_,rfl⟩;have hg:s.data.toList[j]? =some c:=by rw[A9 s hlt,hc]
    have hcl:=Be c;by_cases hbl:D5 c=true
    . have HN:Hid (Al s.data.toList (j+1)=P):=by rw[<-Ou hg hbl];exact hh.out
      unfold D5 at hbl;simp only[Bool.or_eq_true,beq_iff_eq]at hbl;clear hg hh;rcases hbl with((hbl|hbl)|hbl)|hbl
      all_goals
       subst hbl;go_wp2
       go_round
       case rel=>exact⟨j+1,by omega,by go_num,HN⟩
       case measure=>simp[intOf];omega
    . have HN:Hid (j=P):=by rw[<-hh.out,Ov hg (by simpa using hbl)];exact rfl
      unfold D5 at hbl;simp only[Bool.or_eq_true,beq_iff_eq,not_or]at hbl;obtain⟨⟨⟨h9,h10⟩,h13⟩,h32⟩:=hbl;have ne: ∀n:Nat,n<256->c≠UInt8.ofNat n->((c.toNat:Int)==(n:Int))=false:=fun n hn h=>by rw[Gg hn];simpa using h
      have e9:((c.toNat:Int)==9)=false:=ne 9 (by decide) h9;have e10:((c.toNat:Int)==10)=false:=ne 10 (by decide) h10;have e13:((c.toNat:Int)==13)=false:=ne 13 (by decide) h13;have e32:((c.toNat:Int)==32)=false:=ne 32 (by decide) h32;clear ne h9 h10 h13 h32 hg hh;go_wp2;go_ret;exact⟨by rw[<-HN.out];rfl,rfl⟩
  . have HN:Hid (j=P):=by rw[<-hh.out,Rv (by rw[<-Lib.size_eq];omega)];exact rfl
    clear hh;go_wp2;go_ret;exact⟨by rw[<-HN.out];rfl,rfl⟩
theorem Agg {s:ByteArray} {k:Nat} {c:UInt8} (h:s.data.toList[k]? =some c) (w:World) (_hs:s.size<=1000000000):
 Calls Tryz.prog 211 #[.string s,.int .i64 k,.int .u8 c.toNat] w fun e w'=>e=.returned (.bool true)/\w=w':=by
 have hlt:k<s.size:=by have:=Ct h;rwa [<-Lib.size_eq]at this
 have hc:s[k]=c:=by rw[A9 s hlt]at h;exact Option.some.inj h
 have hcl:=Be c;clear h;go_enter Tryz.func211,Tryz.ntmps211;go_wp2;go_ret;exact⟨rfl,rfl⟩
theorem Ahm {s:ByteArray} {k:Nat} {c:UInt8} (h: ¬(s.data.toList[k]? =some c)) (w:World) (_hs:s.size<=1000000000) (_hk:k<=s.size):
 Calls Tryz.prog 211 #[.string s,.int .i64 k,.int .u8 c.toNat] w fun e w'=>e=.returned (.bool false)/\w=w':=by
 have hcl:=Be c;by_cases hlt:k<s.size
 . obtain⟨x,hx⟩: ∃x,s[k]=x:=⟨_,rfl⟩;have hne:((x.toNat:Int)==(c.toNat:Int))=false:=by
    rw[A9 s hlt,hx]at h;rw[beq_eq_false_iff_ne];intro e;exact h (by rw[UInt8.toNat_inj.1 (by omega:x.toNat=c.toNat)])
   have hxl:=Be x;clear h;go_enter Tryz.func211,Tryz.ntmps211;go_wp2;go_ret;exact⟨rfl,rfl⟩
 . clear h;go_enter Tryz.func211,Tryz.ntmps211;go_wp2;go_ret;exact⟨rfl,rfl⟩
theorem Fs {s:ByteArray} {k:Nat} {c:UInt8} {B:Bool} (h:decide (s.data.toList[k]? =some c)=B) (w:World) (hs:s.size<=1000000000) (hk:k<=s.size):
 Calls Tryz.prog 211 #[.string s,.int .i64 k,.int .u8 c.toNat] w fun e w'=>e=.returned (.bool B)/\w=w':=by
 subst h;by_cases hy:s.data.toList[k]? =some c
 . rw[decide_eq_true hy];exact Agg hy w hs
 . rw[decide_eq_false hy];exact Ahm hy w hs hk
def Ms (v:Val):Prop:= ∀(cs:List Value) (w:World),Ac w w.heap.size v cs->v.bulk<=100000000->
    Calls Tryz.prog 67 #[.agg cs.toArray] w fun e w'=>(∃cs',e=.returned (.agg (cs':List Value).toArray)/\cs'.length=6/\N9 w w' v cs')/\Below w.heap.size w w'
def Sv (x y:Bj):Bool:=decide (x.1=y.1)&&Ft x.2 y.2
theorem Aah (x y:Bj) (r s:List Bj):Jg (x::r) (y::s)=(Sv x y&&Jg r s):=by
 obtain⟨a,x⟩:=x;obtain⟨b,y⟩:=y;simp only[Jg,Sv,Bool.and_assoc]
theorem Lm: ∀{a b:List Bj},Jg a b=true ↔ a.length=b.length/\ ∀(j:Nat) x y,a[j]? =some x->b[j]? =some y->Sv x y=true
 | [], []=>by simp[Jg]
 | [],_::_=>by simp[Jg]
 |_::_, []=>by simp[Jg]
 |x::r,y::s=>by
  rw[Aah,Bool.and_eq_true,Lm (a:=r) (b:=s)];constructor
  . rintro⟨h1,h2,h3⟩;refine⟨by simp[h2],fun j u v hu hv=> ?_⟩
    cases j with
    |zero=>simp at hu hv;subst hu;subst hv;exact h1
    |succ j=>exact h3 j u v (by simpa using hu) (by simpa using hv)
  . rintro⟨h1,h2⟩;exact⟨h2 0 x y rfl rfl,by simpa using h1,fun j u v hu hv=>h2 (j+1) u v (by simpa using hu) (by simpa using hv)⟩
def By (p:Prop) (w:World) (e:Ending) (w':World):Prop:= ∃c:Int,e=.returned (.int .i64 c)/\(c=0 ↔ p)/\Below w.heap.size w w'
theorem By.of {p:Prop} {w w':World} {c:Int} (h:c=0 ↔ p) (hb:Below w.heap.size w w'):By p w (.returned (.int .i64 c)) w':=⟨c,rfl,h,hb⟩
abbrev Abu (k:Int) (b:Bool) (n:Int) (t:ByteArray) (x y:Value):Obj:=.cells #[.int .i64 k,.bool b,.int .i64 n,.string t,x,y] 37
theorem Ei (w:World) (o o':Obj):Below w.heap.size w ((w.alloc o).alloc o'):=((Below.refl _ _).alloc (Nat.le_refl _) _).alloc (by simp) _
theorem Ady (k k':Int) (b b':Bool) (n n':Int) (t t':ByteArray) (x y x' y':Value) (w:World) (h:k≠k') (p:Prop) (hp: ¬p):
 Calls Tryz.prog 50 #[.agg #[.int .i64 k,.bool b,.int .i64 n,.string t,x,y],.agg #[.int .i64 k',.bool b',.int .i64 n',.string t',x',y']] w (By p w):=by
 have h1:(k==k')=false:=by simpa using h
 have h2:(k != k')=true:=by simpa using h
 obtain⟨C,hC⟩: ∃C,Mh k k'=C:=⟨_,rfl⟩;have cN:=fun w=>E0 k k' w;rw[hC]at cN;have HN:=qz cN;have Hc:Hid (C=0 ↔ p):=by
  show _ ↔ _;rw[<-hC,E2];exact⟨fun e=>absurd e h,fun e=>absurd e hp⟩
 clear cN hC h hp;go_enter Tryz.func50,Tryz.ntmps50;go_wp2_with (fail);(with_reducible refine(HN.out _).mono ?_);rintro e w' ⟨rfl,rfl⟩;go_wp2;go_ret;exact By.of Hc.out (Ei _ _ _)
theorem Adx (b b':Bool) (n n':Int) (t t':ByteArray) (x y x' y':Value) (w:World) (p:Prop) (hp:b=b' ↔ p):
 Calls Tryz.prog 50 #[.agg #[.int .i64 2,.bool b,.int .i64 n,.string t,x,y],.agg #[.int .i64 2,.bool b',.int .i64 n',.string t',x',y']] w (By p w):=by
 cases b<;>cases b'
 . have Hp:Hid p:=hp.1 rfl;clear hp;go_enter Tryz.func50,Tryz.ntmps50;go_wp2;go_ret;exact By.of ⟨fun _=>Hp.out,fun _=>rfl⟩ (Ei _ _ _)
 . have Hp:Hid (¬p):=fun h=>by cases hp.2 h
   clear hp;go_enter Tryz.func50,Tryz.ntmps50;go_wp2;go_ret;exact By.of (c:= -1) ⟨fun h=>absurd h (by decide),fun h=>absurd h Hp.out⟩ (Ei _ _ _)
 . have Hp:Hid (¬p):=fun h=>by cases hp.2 h
   clear hp;go_enter Tryz.func50,Tryz.ntmps50;go_wp2;go_ret;exact By.of (c:=1) ⟨fun h=>absurd h (by decide),fun h=>absurd h Hp.out⟩ (Ei _ _ _)
 . have Hp:Hid p:=hp.1 rfl;clear hp;go_enter Tryz.func50,Tryz.ntmps50;go_wp2;go_ret;exact By.of ⟨fun _=>Hp.out,fun _=>rfl⟩ (Ei _ _ _)
theorem Afs (b b':Bool) (n n':Int) (t t':ByteArray) (x y x' y':Value) (w:World) (p:Prop) (hp:n=n' ↔ p):
 Calls Tryz.prog 50 #[.agg #[.int .i64 3,.bool b,.int .i64 n,.string t,x,y],.agg #[.int .i64 3,.bool b',.int .i64 n',.string t',x',y']] w (By p w):=by
 obtain⟨C,hC⟩: ∃C,Mh n n'=C:=⟨_,rfl⟩;have cN:=fun w=>E0 n n' w;rw[hC]at cN;have HN:=qz cN;have Hc:Hid (C=0 ↔ p):=by
  show _ ↔ _;rw[<-hC,E2];exact hp
 clear cN hC hp;go_enter Tryz.func50,Tryz.ntmps50;go_wp2_with (fail);(with_reducible refine(HN.out _).mono ?_);rintro e w' ⟨rfl,rfl⟩;go_wp2;go_ret;exact By.of Hc.out (Ei _ _ _)
theorem Adz (b b':Bool) (n n':Int) (t t':ByteArray) (x y x' y':Value) (w:World) (p:Prop) (h1:t.size<=1000000000) (h2:t'.size<=1000000000) (hp:t=t' ↔ p):
 Calls Tryz.prog 50 #[.agg #[.int .i64 4,.bool b,.int .i64 n,.string t,x,y],.agg #[.int .i64 4,.bool b',.int .i64 n',.string t',x',y']] w (By p w):=by
 have HN:=qz (fun w=>Pw t t' w h1 h2);have Hp:=qz hp;clear hp;go_enter Tryz.func50,Tryz.ntmps50;go_wp2_with (fail);(with_reducible refine(HN.out _).mono ?_);rintro e w' ⟨c,rfl,hc,hb⟩;have Hc:=qz hc;clear hc;go_wp2;go_ret;exact By.of (Hc.out.trans Hp.out) ((Ei _ _ _).trans (hb.mono (by simp;omega)))
end Go.Proofs.YtkmcjfkokoidcaaGreatDoor
