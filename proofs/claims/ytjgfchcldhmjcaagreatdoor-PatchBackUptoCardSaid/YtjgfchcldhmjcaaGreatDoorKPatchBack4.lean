/- Parts: The law PatchBack returns true. Condition: a bulk of at most 11 * 10^5, a text of at most 1048576 bytes. -/
import Derived.Test.YtjgfchcldhmjcaaGreatDoorKPp33
import Derived.Test.YtjgfchcldhmjcaaGreatDoorKPatchBack3
set_option maxHeartbeats 20000000
set_option maxRecDepth 100000
namespace Go.Proofs.YtjgfchcldhmjcaaGreatDoor
open Go Go.RowKit
theorem Ala {l:List POp} (f:A8 none l=0) (k:inQ l) (p:Da l<=1100000):(Jv l).size<=100000000/\Ul (Jv l).data.toList=(0,l)/\ ∀v q,Eh (Jv l).data.toList=.ok v q->v.bulk<=30000000:=by
 have a:=Qc (d:=1) (Gh f) (by omega);have j:=Ny l;have m:=Gp l;have b:=Th k;have c:Jv l=⟨(Bd (E0 l)).toArray⟩:=by
  have i:Jv l=Nr (E0 l):=if_pos f;rw[i];unfold Nr;rw[if_pos a]
 have n:=Jq (E0 l) (X6 _ 1 a b);have e:=Adc a b;have g:(Jv l).data.toList=Bd (E0 l):=by rw[c]
 have o:(Jv l).size=(Bd (E0 l)).length:=by rw[c];rfl
 refine⟨by omega, ?_,fun v q h=> ?_⟩
 . rw[g];unfold Ul;rw[e];exact Tx f a
 . rw[g,e]at h
   cases h
   omega
theorem Uo (l:List POp) (s:ByteArray) (a:Option Addr) (n c:Nat) (w:World) (z:Cj w) (hN:Km w) (hM:Um w) (h:Ag w w.heap.size (.row 8 (Eo l)) [.slice a n c]) (hb:Da l<=1100000) (p:inQ l) (hs:s.size<=1048576):
 Calls Tryz.prog 5 #[.slice a n c,.string s] w fun e w'=>e=.returned (.bool true)/\Below w.heap.size w w':=by
 obtain⟨PO,Q⟩: ∃P:Ending->World->Prop,(fun e w'=>e=.returned (.bool true)/\Below w.heap.size w w')=P:=⟨_,rfl⟩;rw[Q];have ai:Hid (∀W,Below w.heap.size w W->PO (.returned (.bool true)) W):=fun W hW=>by rw[<-Q];exact⟨rfl,hW⟩
 have hn:=h.row_len;rw[E8]at hn;subst hn;have ay:=fun m:A8 none l=0=>Qc (d:=1) (Gh m) (by omega);have a7:=Ny l;have ba:=Gp l;have ax:=Th p;have H1:=qz (No l a l.length c w z h (by omega) p);have H2:=qz (fun(W:World) (b:Below w.heap.size w W)=>Aap l a l.length c W ((h.below b).more b.size) (by omega));have H3:=qz (fun(m:A8 none l=0) (W:World) (b:Below w.heap.size w W) a' c' hh=>Nk l a' l.length c' W (z.below b) (hN.below b) hh (by omega) p m);have h4:=fun(m:A8 none l=0) (W:World) (b:Below w.heap.size w W) la lc hh=>by
  have h:=Aak 5 false 0 ⟨#[]⟩ (l.map I7) [] la lc none 0 W (z.below b) hh (by have:(Val.mk 5 false 0 ⟨#[]⟩ (l.map I7) []).bulk=(E0 l).bulk:=rfl;omega) ax;unfold Kw at h;rw[show Val.mk 5 false 0 ⟨#[]⟩ (l.map I7) []=E0 l from rfl,Tx m (ay m)]at h;exact h
 have h5:=fun(W:World) (b:Below w.heap.size w W) a' c' hh=>Nl l a' l.length c' W (z.below b) (hN.below b) hh (by omega) p;have h6:=fun(m:A8 none l=0) (W:World) (b:Below w.heap.size w W)=>by
  obtain⟨b1,b2,b3⟩:=Ala m p hb;have h:=Pi (Jv l) W (z.below b) (hM.below b) b1 b3;rw[b2]at h;exact h
 have h7:=fun(W:World) (b:Below w.heap.size w W)=>Pi s W (z.below b) (hM.below b) (by omega) fun v q hr=>by
  obtain⟨_,_,Z,_⟩:=M3 hr;rw[Ac]at Z;omega
 have h8:=fun(W:World) (b:Below w.heap.size w W)=>T6 Sw s W (z.below b) (by omega);have H9:=qz (fun(W:World) (b:Below w.heap.size w W)=>(Ux W (z.below b) (hN.below b)).mono fun e w' h=>show e=.returned (.bool true)/\Below W.heap.size W w' from h);have D:Da (Ul s.data.toList).2<=100000000:=by
  unfold Ul
  cases hr:Eh s.data.toList with
  |bad c q=>simp[Da]
  |ok v q=>
   obtain⟨_,_,Z,a9⟩:=M3 hr;rw[Ac]at Z;show Da (Cx v).2<=_;by_cases h0:(Cx v).1=0
   . have:=(Ada a9 h0).1;omega
   . rw[Aao h0];simp[Da]
 unfold Lw at h6 h7 h8;generalize Jv l=T at h5 h6;generalize Ul s.data.toList=R at h7 h8 D;obtain⟨ER,LR⟩:=R;simp only at h7 h8 D;obtain⟨H0,H4,H5,H6,H7,H8⟩:=hid6 h h4 h5 h6 h7 h8;clear h4 h5 h6 h7 h8;clear Q z hN hM h p ay a7 ax;go_enter Tryz.func5,Tryz.ntmps5;go_wp2_with (fail);(with_reducible refine(H1.out).mono ?_);rintro e w1 ⟨rfl,am⟩;have t:=qz am;clear am H1;go_upto_if 19 with(fail);go_cut [] (fun wx=>Hid (Below w.heap.size w wx))
 case first=>
  by_cases m:A8 none l=0
  . rw[m]at H5 ⊢;have H3:=qz (H3.out m);have H4:=qz (H4.out m);have H6:=qz (H6.out m);have HC:=qz (H2.out w1 t.out);unfold Sa at HC;go_wp2_with (fail);(with_reducible refine(HC.out).mono ?_);rintro e w2 ⟨x,a2,c2,rfl,an⟩;have j:=t.out.trans (x.mono t.out.size);have L:=H3.out w2 j a2 c2 an.now;unfold Yw at L;obtain⟨r,i⟩:=hid2 L j;clear L j;clear x an HC;go_wp2_with (fail);(with_reducible refine(r.out).mono ?_);rintro e w3 ⟨g,la,lc,rfl,ao⟩;go_upto_region 3 with(fail);obtain⟨w4,E⟩: ∃w4,w3.alloc (.cells #[.int .i64 5,.bool false,.int .i64 0,.string ⟨#[]⟩,.slice la l.length lc,.slice none 0 0] 42)=w4:=⟨_,rfl⟩;have o:Below w3.heap.size w3 w4:=E▸Aa _ _;have x4:Ap w4 w3.heap.size 42 #[.int .i64 5,.bool false,.int .i64 0,.string ⟨#[]⟩,.slice la l.length lc,.slice none 0 0]:=E▸Ap.new _ _ _;rw[E];have k:=(i.out.trans (g.mono i.out.size)).trans (o.mono (Nat.le_trans i.out.size g.size));have av:=(ao.later o).now;obtain⟨e0,e1,e2,e3,e4,e5⟩:=At x4;have lx:=x4.lt;have N:=H4.out w4 k la lc (by rw[show Val.mk 5 false 0 ⟨#[]⟩ (l.map I7) []=E0 l from rfl,List.length_map];exact av);simp only[List.length_map,List.length_nil]at N;obtain⟨aa,u⟩:=hid2 N k;clear N k;clear g o ao x4 E av r;go_wp2_with (fail);(with_reducible refine(aa.out).mono ?_);rintro e w5 ⟨y,he⟩;rw[if_neg (by simp)]at he;obtain⟨a5,c5,rfl,ap⟩:=he;have S:=u.out.trans (y.mono u.out.size);have O:=H2.out w5 S;unfold Sa at O;obtain⟨ab,af,a4⟩:=hid3 O S ap;clear O S ap;clear y aa e0 e1 e2 e3 e4 e5 lx;go_wp2_with (fail);(with_reducible refine(ab.out).mono ?_);rintro e w6 ⟨X,a6,c6,rfl,aq⟩;have U:=af.out.trans (X.mono af.out.size);have ac:=qz (H5.out w6 U a6 c6 aq.now);have ak:=qz ((a4.out.later X).now);have I:=qz U;clear U;clear X aq ab;go_wp2_with (fail);(with_reducible refine(ac.out).mono ?_);rintro e w7 ⟨rfl,A⟩;have V:=I.out.trans (A.mono I.out.size);have al:=qz ((ak.out.below A).more A.size);have ad:=qz (H6.out w7 V);have J:=qz V;clear V;clear A ac ak I;go_wp2_with (fail);(with_reducible refine(ad.out).mono ?_);rintro e w8 ⟨C,a8,c8,rfl,aw⟩;have f:=J.out.trans (C.mono J.out.size);have ae:=qz (Mi l l a5 a _ c5 _ c w8 ((al.out.below C).more C.size) ((H0.out.below f).more f.size) (by omega) (by omega));have a0:=qz (fun(W:World) (hW:Below w8.heap.size w8 W)=>Mi l l a8 a _ c8 _ c W ((aw.below hW).more hW.size) ((H0.out.below (f.trans (hW.mono f.size))).more (f.trans (hW.mono f.size)).size) (by omega) (by omega));have ag:=qz f;clear f;clear C aw ad al J;go_wp2_with (fail);(with_reducible refine(ae.out).mono ?_);rintro e w9 ⟨B,rfl,b,Y⟩;obtain rfl:B=true:=by simpa using b
    have a1:=qz (a0.out w9 Y);have ah:=qz (ag.out.trans (Y.mono ag.out.size));clear Y b ae;go_wp2_with (fail);(with_reducible refine(a1.out).mono ?_);rintro e bb ⟨B,rfl,b,F⟩;obtain rfl:B=true:=by simpa using b
    have HB:=qz (ah.out.trans (F.mono ah.out.size));clear F b;go_wp2;go_meet;exact HB
  . have em:(A8 none l==0)=false:=by simpa using m
    generalize A8 none l=M at em ⊢;clear m;go_wp2;go_meet;exact t
 case rest=>
 have K:=hcut.out;have HC:=qz (H7.out wc K);have G:=qz K;clear K;clear hcut H2 H3 H4 H5 H6 t;go_wp2_with (fail);(with_reducible refine(HC.out).mono ?_);rintro e w2 ⟨x,a2,c2,rfl,ar⟩;have j:=G.out.trans (x.mono G.out.size);have r:=qz (H8.out w2 j);obtain⟨i,aj⟩:=hid2 j ar;clear j ar;clear x HC G;go_wp2_with (fail);(with_reducible refine(r.out).mono ?_);rintro e w3 ⟨g,a3,c3,rfl,au⟩;have H:=qz (i.out.trans (g.mono i.out.size));have HS:=qz (Mi LR LR a2 a3 _ c2 _ c3 w3 ((aj.out.below g).more g.size) au D D);clear g au r i aj;go_wp2_with (fail);(with_reducible refine(HS.out).mono ?_);rintro e w4 ⟨B,rfl,b,o⟩;obtain rfl:B=true:=by simpa using b
 have k:=H.out.trans (o.mono H.out.size);have az:=qz (H9.out w4 k);have u:=qz k;clear k;clear o b HS H;go_wp2_with (fail);(with_reducible refine(az.out).mono ?_);rintro e w5 ⟨rfl,y⟩;have HP:=qz (ai.out w5 (u.out.trans (y.mono u.out.size)));clear y;go_wp2;exact HP.out
end Go.Proofs.YtjgfchcldhmjcaaGreatDoor
