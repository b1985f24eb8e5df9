/- Parts: The closure that reads an answer's patch. Condition: a bulk of at most 3 * 10^7. -/
import Derived.ChangeSame
import Derived.WideKeyArgs
import Derived.OpenShut
import Derived.Test.YtackmnbpfbaemaaGreatDoorKPr27
import Derived.Test.YtackmnbpfbaemaaGreatDoorKPr28
set_option maxHeartbeats 20000000
namespace Go.Proofs.YtackmnbpfbaemaaGreatDoor
open Go Go.RowKit
theorem Al9 (c k:Int):Bg (S7 c k) []=some (S7 c k):=by kernel_rfl
theorem Akn (c b k s:Int) (l:List POp):Bg (Jo c b k s l) []=some (Jo c b k s l):=by kernel_rfl
theorem Alw (c k:Int):Ay (ov (S7 c k)) 1=0:=by
 have v1:A8 Ah=true:=by decide
 have v2:A8 Ai=true:=by decide
 have l1:U3 Ai Ah=false:=by decide+kernel
 exact Adv (by omega) (Dx v1 (Qv (by omega)) (Ww _) (Dx v2 (Qv (by omega)) (Li l1) (by simp[Df])))
theorem Ajx (c b k s:Int) {l:List POp} (h:Bm none l=0):Ay (ov (Jo c b k s l)) 1=0:=by
 have v0:A8 Cc=true:=by decide
 have v1:A8 Ah=true:=by decide
 have v2:A8 Ai=true:=by decide
 have v3:A8 B8=true:=by decide
 have v4:A8 A4=true:=by decide
 have l0:U3 Ah Cc=false:=by decide+kernel
 have l1:U3 Ai Ah=false:=by decide+kernel
 have l2:U3 B8 Ai=false:=by decide+kernel
 have l3:U3 A4 B8=false:=by decide+kernel
 exact Adv (by omega) (Dx v0 (Qv (by omega)) (Ww _) (Dx v1 (Qv (by omega)) (Li l0) (Dx v2 (Qv (by omega)) (Li l1) (Dx v3 (Qv (by omega)) (Li l2) (Dx v4 (Aha (Ka h) (by omega)) (Li l3) (by simp[Df]))))))
theorem Anf {c k:Int} (h0:0<=c) (h1:c<=4611686018427387903) (h2:0<=k) (h3:k<=4611686018427387903):Ga (ov (S7 c k)):=by
 simp only[ov,S7,Ga,Oq,Jj,inP];exact⟨by omega,trivial,Wt h0 h1,Wt h2 h3,trivial⟩
theorem Alr {c b k s:Int} {l:List POp} (h0:0<=c) (h1:c<=4611686018427387903) (h2:0<=k) (h3:k<=4611686018427387903) (h4:0<=b) (h5:b<=4611686018427387903) (h6:0<=s) (h7:s<=4611686018427387903) (hl:inQ l):Ga (ov (Jo c b k s l)):=by
 simp only[ov,Jo,Ga,Oq,Jj,inP];exact⟨by omega,trivial,Wt h4 h5,Wt h0 h1,Wt h2 h3,Wt h6 h7,Ajl hl,trivial⟩
theorem Aiu (c k:Int):Al (S7 c k)<=100:=by
 have e1:Ah.size=6:=rfl;have e2:Ai.size=6:=rfl;simp only[S7,Al,Ec,Aff,e1,e2];omega
theorem Aga (c b k s:Int) {l:List POp} (h:D5 l<=7000000):Al (Jo c b k s l)<=60000000:=by
 have e0:Cc.size=4:=rfl;have e1:Ah.size=6:=rfl;have e2:Ai.size=6:=rfl;have e3:B8.size=4:=rfl;have e4:A4.size=5:=rfl;have h1:=Ac0 l;have h2:=Lb l;simp only[Jo,Al,Ec,Aff,e0,e1,e2,e3,e4];omega
theorem Ag3 (w:World) (c k:Int):Ae (w.alloc (.cells #[.string Ah,.int .i64 3,.bool false,.int .i64 c,.string ⟨#[]⟩,.slice none 0 0,.slice none 0 0,.string Ai,.int .i64 3,.bool false,.int .i64 k,.string ⟨#[]⟩,.slice none 0 0,.slice none 0 0] 63)) (w.alloc (.cells #[.string Ah,.int .i64 3,.bool false,.int .i64 c,.string ⟨#[]⟩,.slice none 0 0,.slice none 0 0,.string Ai,.int .i64 3,.bool false,.int .i64 k,.string ⟨#[]⟩,.slice none 0 0,.slice none 0 0] 63)).heap.size (.row 7 (dO (S7 c k))) [.slice (some ⟨w.heap.size,0,none⟩) 2 2]:=
 Qs (An.new _ _ _) (Mo _) ((Ag.one (J1 _ _ Ah c)).app (Ag.one (J1 _ _ Ai k))) rfl
set_option maxRecDepth 100000 in
theorem X6 (c k:Int) (h1:0<c) (h2:c<=4611686018427387903) (h3:0<=k) (h4:k<=4611686018427387903) (w:World) (hT:Cf w):
 Calls Tryz.prog 7 #[.agg #[.int .u64 c,.int .u64 k]] w (J6 (C1 (2::Bk (ov (S7 c k)))) w):=by
 have hm:Cv c k=0:=by unfold Cv;rw[if_pos ⟨h1,h2,h4⟩]
 have hM:=fun W=>K6 c k W;rw[hm]at hM;have hn1:=fun W=>Fr Ah c (by omega) h2 W;have hn2:=fun W=>Fr Ai k h3 h4 W;have hF:=fun(W:World) a n cc hB h=>Nz 2 (by decide) (S7 c k) _ a n cc W (hT.below hB) h (by have:=Aiu c k;omega) (Al9 c k) (Alw c k) (Anf (by omega) h2 h3 h4);have hH:=fun W=>Ag3 W c k;generalize C1 (2::Bk (ov (S7 c k)))=L at hF ⊢;obtain⟨HM,Hn1,Hn2,HF,HH,Hm⟩:=hid6 hM hn1 hn2 hF hH hm;clear hM hn1 hn2 hF hH hm;go_enter Tryz.func7,Tryz.ntmps7;go_upto_region 4 with(go_at_call 23;(with_reducible refine(HM.out _).mono ?_);rintro e w1 ⟨rfl,hb1⟩);have hb0:Below w.heap.size w (w.alloc (.cells #[.int .u64 c,.int .u64 k] 24)):=(Below.refl _ _).alloc (Nat.le_refl _) _;have hx1:=(An.new w 24 #[.int .u64 c,.int .u64 k]).below hb1 (An.lt (An.new _ _ _));have d0:=hx1.cell 0;have d1:=hx1.cell 1;have hb01:=hb0.trans (hb1.mono hb0.size);have hgx:=hx1.lt;obtain⟨Hx1,Hb0,Hb01⟩:=hid3 hx1 hb0 hb01;clear hx1 hb0 hb01;clear hb1
 go_region_held3 (fun W=>W.cell? ⟨w.heap.size,0,none⟩=some (.int .u64 c)/\W.cell? ⟨w.heap.size,1,none⟩=some (.int .u64 k)) (go_keep) (first
  |(go_at_call 25;refine(Hn1.out _).mono ?_;rintro e w2 ⟨rfl,hb2⟩;have hbr2:Below w1.heap.size w1 w2:=((Below.drew (Below.refl _ _)).trans hb2);obtain⟨hc2,hf2⟩:=Dy hbr2)
  |(go_at_call 25;refine(Hn2.out _).mono ?_;rintro e w3 ⟨rfl,hb3⟩;have hbr3:=hbr2.trans (hb3.mono hbr2.size);obtain⟨hc3,hf3⟩:=Dy hbr3)
  |(go_at_call 24;refine(HF.out _ _ _ _ ((Hb01.out.trans (hbr3.mono Hb01.out.size)).alloc (Nat.le_trans Hb01.out.size hbr3.size) _) (HH.out _)).mono ?_;rintro e w4 ⟨a2,c2,rfl,hf4,hb4⟩;have hbr4:=(hbr3.alloc hbr3.size _).trans (hb4.mono (by have:=hbr3.size;simp;omega));obtain⟨hc4,hf4'⟩:=Dy hbr4))
 all_goals
  have HP:=Lib.hid (And.intro hf4 (And.intro hbr4 hbr3.size));clear hc2 hf2 hc3 hf3 hc4 hf4' hb2 hb3 hb4 hbr2 hbr3 hbr4 hf4;go_wp2;go_ret2;obtain⟨p1,p2,p3⟩:=HP.out;have hzz:=Hb01.out.size;exact⟨a2,c2,rfl,p1.keep (by simp;omega) (Nat.le_refl _) (fun _ _ _=>rfl),Hb01.out.trans (p2.mono hzz)⟩
theorem Adk (w:World) (c b k s:Int) (l:List POp) (la:Option Addr) (lc:Nat) (h:Ap w.heap.size w (dV (Ib l)) [.int .i64 5,.bool false,.int .i64 0,.string ⟨#[]⟩,.slice la l.length lc,.slice none 0 0]\/ ∃B,∃w0,Ap B w0 (dV (Ib l)) [.int .i64 5,.bool false,.int .i64 0,.string ⟨#[]⟩,.slice la l.length lc,.slice none 0 0]/\Below w0.heap.size w0 w):
 Ae (w.alloc (.cells #[.string Cc,.int .i64 3,.bool false,.int .i64 b,.string ⟨#[]⟩,.slice none 0 0,.slice none 0 0,.string Ah,.int .i64 3,.bool false,.int .i64 c,.string ⟨#[]⟩,.slice none 0 0,.slice none 0 0,.string Ai,.int .i64 3,.bool false,.int .i64 k,.string ⟨#[]⟩,.slice none 0 0,.slice none 0 0,.string B8,.int .i64 3,.bool false,.int .i64 s,.string ⟨#[]⟩,.slice none 0 0,.slice none 0 0,.string A4,.int .i64 5,.bool false,.int .i64 0,.string ⟨#[]⟩,.slice la l.length lc,.slice none 0 0] 63)) (w.alloc (.cells #[.string Cc,.int .i64 3,.bool false,.int .i64 b,.string ⟨#[]⟩,.slice none 0 0,.slice none 0 0,.string Ah,.int .i64 3,.bool false,.int .i64 c,.string ⟨#[]⟩,.slice none 0 0,.slice none 0 0,.string Ai,.int .i64 3,.bool false,.int .i64 k,.string ⟨#[]⟩,.slice none 0 0,.slice none 0 0,.string B8,.int .i64 3,.bool false,.int .i64 s,.string ⟨#[]⟩,.slice none 0 0,.slice none 0 0,.string A4,.int .i64 5,.bool false,.int .i64 0,.string ⟨#[]⟩,.slice la l.length lc,.slice none 0 0] 63)).heap.size (.row 7 (dO (Jo c b k s l))) [.slice (some ⟨w.heap.size,0,none⟩) 5 5]:=by
 have hv:Ae (w.alloc (.cells #[.string Cc,.int .i64 3,.bool false,.int .i64 b,.string ⟨#[]⟩,.slice none 0 0,.slice none 0 0,.string Ah,.int .i64 3,.bool false,.int .i64 c,.string ⟨#[]⟩,.slice none 0 0,.slice none 0 0,.string Ai,.int .i64 3,.bool false,.int .i64 k,.string ⟨#[]⟩,.slice none 0 0,.slice none 0 0,.string B8,.int .i64 3,.bool false,.int .i64 s,.string ⟨#[]⟩,.slice none 0 0,.slice none 0 0,.string A4,.int .i64 5,.bool false,.int .i64 0,.string ⟨#[]⟩,.slice la l.length lc,.slice none 0 0] 63)) (w.alloc (.cells #[.string Cc,.int .i64 3,.bool false,.int .i64 b,.string ⟨#[]⟩,.slice none 0 0,.slice none 0 0,.string Ah,.int .i64 3,.bool false,.int .i64 c,.string ⟨#[]⟩,.slice none 0 0,.slice none 0 0,.string Ai,.int .i64 3,.bool false,.int .i64 k,.string ⟨#[]⟩,.slice none 0 0,.slice none 0 0,.string B8,.int .i64 3,.bool false,.int .i64 s,.string ⟨#[]⟩,.slice none 0 0,.slice none 0 0,.string A4,.int .i64 5,.bool false,.int .i64 0,.string ⟨#[]⟩,.slice la l.length lc,.slice none 0 0] 63)).heap.size (dV (Ib l)) [.int .i64 5,.bool false,.int .i64 0,.string ⟨#[]⟩,.slice la l.length lc,.slice none 0 0]:=by
  rcases h with h|⟨B,w0,h,hb⟩
  . exact(h.later (Aa _ _)).now
  . have hb':=hb.alloc hb.size (.cells #[.string Cc,.int .i64 3,.bool false,.int .i64 b,.string ⟨#[]⟩,.slice none 0 0,.slice none 0 0,.string Ah,.int .i64 3,.bool false,.int .i64 c,.string ⟨#[]⟩,.slice none 0 0,.slice none 0 0,.string Ai,.int .i64 3,.bool false,.int .i64 k,.string ⟨#[]⟩,.slice none 0 0,.slice none 0 0,.string B8,.int .i64 3,.bool false,.int .i64 s,.string ⟨#[]⟩,.slice none 0 0,.slice none 0 0,.string A4,.int .i64 5,.bool false,.int .i64 0,.string ⟨#[]⟩,.slice la l.length lc,.slice none 0 0] 63);exact(h.later hb').now
 have hp:Ae (w.alloc (.cells #[.string Cc,.int .i64 3,.bool false,.int .i64 b,.string ⟨#[]⟩,.slice none 0 0,.slice none 0 0,.string Ah,.int .i64 3,.bool false,.int .i64 c,.string ⟨#[]⟩,.slice none 0 0,.slice none 0 0,.string Ai,.int .i64 3,.bool false,.int .i64 k,.string ⟨#[]⟩,.slice none 0 0,.slice none 0 0,.string B8,.int .i64 3,.bool false,.int .i64 s,.string ⟨#[]⟩,.slice none 0 0,.slice none 0 0,.string A4,.int .i64 5,.bool false,.int .i64 0,.string ⟨#[]⟩,.slice la l.length lc,.slice none 0 0] 63)) (w.alloc (.cells #[.string Cc,.int .i64 3,.bool false,.int .i64 b,.string ⟨#[]⟩,.slice none 0 0,.slice none 0 0,.string Ah,.int .i64 3,.bool false,.int .i64 c,.string ⟨#[]⟩,.slice none 0 0,.slice none 0 0,.string Ai,.int .i64 3,.bool false,.int .i64 k,.string ⟨#[]⟩,.slice none 0 0,.slice none 0 0,.string B8,.int .i64 3,.bool false,.int .i64 s,.string ⟨#[]⟩,.slice none 0 0,.slice none 0 0,.string A4,.int .i64 5,.bool false,.int .i64 0,.string ⟨#[]⟩,.slice la l.length lc,.slice none 0 0] 63)).heap.size (dP (A4,Ib l)) [.string A4,.int .i64 5,.bool false,.int .i64 0,.string ⟨#[]⟩,.slice la l.length lc,.slice none 0 0]:=⟨[.string A4],_,rfl,⟨rfl,rfl⟩,_, [],by simp,hv,rfl⟩;exact Qs (An.new _ _ _) (Mo _) ((Ag.one (J1 _ _ Cc b)).app ((Ag.one (J1 _ _ Ah c)).app ((Ag.one (J1 _ _ Ai k)).app ((Ag.one (J1 _ _ B8 s)).app (Ag.one hp))))) rfl
set_option maxRecDepth 100000 in
theorem U9 (c b k s:Int) (l:List POp) (h0:0<=b/\0<=k/\0<=s) (hm:Bu c b k s l=0) (a:Option Addr) (n cc:Nat) (w:World) (hT:Cf w) (hN:Kl w) (h:Ae w w.heap.size (.row 8 (Je l)) [.slice a n cc]) (hb:D5 l<=7000000) (hin:inQ l):
 Calls Tryz.prog 21 #[.agg #[.int .u64 c,.int .u64 b,.int .u64 k,.int .u64 s,.slice a n cc]] w (J6 (C1 (3::Bk (ov (Jo c b k s l)))) w):=by
 obtain⟨h1,h2,h3,h4,h5,hml⟩:0<c/\c<=4611686018427387903/\b<=4611686018427387903/\k<=4611686018427387903/\s<=4611686018427387903/\Bm none l=0:=by
  unfold Bu at hm
  split at hm
  . rename_i hc;exact⟨hc.1,hc.2.1,hc.2.2.1,hc.2.2.2.1,hc.2.2.2.2,hm⟩
  . cases hm
 obtain⟨h6,h7,h8⟩:=h0;have hb0:Below w.heap.size w (w.alloc (.cells #[.int .u64 c,.int .u64 b,.int .u64 k,.int .u64 s,.slice a n cc] 47)):=(Below.refl _ _).alloc (Nat.le_refl _) _;have hM:=Kj c b k s l a n cc (w.alloc (.cells #[.int .u64 c,.int .u64 b,.int .u64 k,.int .u64 s,.slice a n cc] 47)) (hT.below hb0) ((h.below hb0).more hb0.size) (by omega) hin;rw[hm]at hM;have hL:=fun(W:World) hB=>Vh l a n cc W (hT.below (w':=W) hB) (hN.below hB) ((h.below hB).more hB.size) (by omega) hin hml;have hn1:=fun W=>Fr Cc b h6 h3 W;have hn2:=fun W=>Fr Ah c (by omega) h2 W;have hn3:=fun W=>Fr Ai k h7 h4 W;have hn4:=fun W=>Fr B8 s h8 h5 W;have hF:=fun(W:World) a n cc hB h=>Nz 3 (by decide) (Jo c b k s l) _ a n cc W (hT.below hB) h (by have:=Aga c b k s hb;omega) (Akn c b k s l) (Ajx c b k s hml) (Alr (by omega) h2 h7 h4 h6 h3 h8 h5 hin);generalize C1 (3::Bk (ov (Jo c b k s l)))=L at hF ⊢;obtain⟨HM,Hn1,Hn2,Hn3,Hn4,HF,Hm,HL,Hb0,HT,HN,H⟩:=hid12 hM hn1 hn2 hn3 hn4 hF hm hL hb0 hT hN h;clear hM hn1 hn2 hn3 hn4 hF hm hL hb0 hT hN h;go_enter Tryz.func21,Tryz.ntmps21;go_upto_region 4 with(go_at_call 38;(with_reducible refine(HM.out).mono ?_);rintro e w1 ⟨rfl,hb1⟩);have hx1:=(An.new w 47 #[.int .u64 c,.int .u64 b,.int .u64 k,.int .u64 s,.slice a n cc]).below hb1 (An.lt (An.new _ _ _));have d4:=hx1.cell 4;have hb01:=Hb0.out.trans (hb1.mono Hb0.out.size);obtain⟨Hx1,Hb01⟩:=hid2 hx1 hb01;clear hx1 hb01;clear hb1;go_upto_region 7 with(go_at_call 43;(with_reducible refine(HL.out _ Hb01.out).mono ?_);rintro e w2 ⟨hb2,la,lc,rfl,hf2⟩);obtain⟨wi,hwi⟩: ∃wi,w2.alloc (.cells #[.int .i64 5,.bool false,.int .i64 0,.string ⟨#[]⟩,.slice la l.length lc,.slice none 0 0] 39)=wi:=⟨_,rfl⟩;have hxi:An wi w2.heap.size 39 #[.int .i64 5,.bool false,.int .i64 0,.string ⟨#[]⟩,.slice la l.length lc,.slice none 0 0]:=by rw[<-hwi];exact An.new _ _ _
 have hb2i:Below w2.heap.size w2 wi:=hwi▸Aa _ _;have hx2:=(Hx1.out.below hb2 Hx1.out.lt).below hb2i (Nat.lt_of_lt_of_le Hx1.out.lt hb2.size);have hbi:=(Hb01.out.trans (hb2.mono Hb01.out.size)).trans (hb2i.mono (Nat.le_trans Hb01.out.size hb2.size));have hfi:=hf2.later hb2i;have d0:=hx2.cell 0;have d1:=hx2.cell 1;have d2:=hx2.cell 2;have d3:=hx2.cell 3;obtain⟨r0,r1,r2,r3,r4,r5⟩:=Ao hxi;have hgx:=hx2.lt;have hgi:=hxi.lt;rw[hwi];obtain⟨Hx2,Hxi,Hbi,Hfi⟩:=hid4 hx2 hxi hbi hfi;clear hx2 hxi hbi hfi;clear hb2 hf2 hb2i hwi d4
 go_region_held3 (fun W=>W.cell? ⟨w.heap.size,0,none⟩=some (.int .u64 c)/\W.cell? ⟨w.heap.size,1,none⟩=some (.int .u64 b)/\W.cell? ⟨w.heap.size,2,none⟩=some (.int .u64 k)/\W.cell? ⟨w.heap.size,3,none⟩=some (.int .u64 s)/\W.cell? ⟨w2.heap.size,0,none⟩=some (.int .i64 5)/\W.cell? ⟨w2.heap.size,1,none⟩=some (.bool false)/\W.cell? ⟨w2.heap.size,2,none⟩=some (.int .i64 0)/\W.cell? ⟨w2.heap.size,3,none⟩=some (.string ⟨#[]⟩)/\W.cell? ⟨w2.heap.size,4,none⟩=some (.slice la l.length lc)/\W.cell? ⟨w2.heap.size,5,none⟩=some (.slice none 0 0)) (go_keep) (first
  |(go_at_call 25;refine(Hn1.out _).mono ?_;rintro e w3 ⟨rfl,hb3⟩;have hbr3:Below wi.heap.size wi w3:=((Below.drew (Below.refl _ _)).trans hb3);obtain⟨hc3,hg3⟩:=Dy hbr3)
  |(go_at_call 25;refine(Hn2.out _).mono ?_;rintro e w4 ⟨rfl,hb4⟩;have hbr4:=hbr3.trans (hb4.mono hbr3.size);obtain⟨hc4,hg4⟩:=Dy hbr4)
  |(go_at_call 25;refine(Hn3.out _).mono ?_;rintro e w5 ⟨rfl,hb5⟩;have hbr5:=hbr4.trans (hb5.mono hbr4.size);obtain⟨hc5,hg5⟩:=Dy hbr5)
  |(go_at_call 25;refine(Hn4.out _).mono ?_;rintro e w6 ⟨rfl,hb6⟩;have hbr6:=hbr5.trans (hb6.mono hbr5.size);obtain⟨hc6,hg6⟩:=Dy hbr6)
  |(go_at_call 24;refine(HF.out _ _ _ _ ((Hbi.out.trans (hbr6.mono Hbi.out.size)).alloc (Nat.le_trans Hbi.out.size hbr6.size) _) (Adk w6 c b k s l la lc (.inr ⟨_,_,Hfi.out,hbr6⟩))).mono ?_;rintro e w7 ⟨a2,c2,rfl,hf7,hb7⟩;have hbr7:=(hbr6.alloc hbr6.size _).trans (hb7.mono (by have:=hbr6.size;simp;omega));obtain⟨hc7,hg7⟩:=Dy hbr7))
 all_goals
  have HP:=Lib.hid (And.intro hf7 (And.intro hbr7 hbr6.size));clear hc3 hg3 hc4 hg4 hc5 hg5 hc6 hg6 hc7 hg7 hb3 hb4 hb5 hb6 hb7 hbr3 hbr4 hbr5 hbr6 hbr7 hf7;go_wp2;go_ret2;obtain⟨p1,p2,p3⟩:=HP.out;have hzz:=Hbi.out.size;exact⟨a2,c2,rfl,p1.keep (by simp;omega) (Nat.le_refl _) (fun _ _ _=>rfl),Hbi.out.trans (p2.mono hzz)⟩
abbrev Anx:ByteArray:=⟨#[123,34,99,108,105,101,110,116,34,58,55,44,34,99,111,111,107,105,101,34,58,51,125]⟩
abbrev Ako:ByteArray:=⟨([123,34,98,97,115,101,34,58,51,44,34,99,108,105,101,110,116,34,58,55,44,34,99,111,111,107,105,101,34,58,53,44,34,108,97,115,116].append [34,58,50,44,34,112,97,116,99,104,34,58,91,123,34,107,101,121,34,58,34,97,34,44,34,111,112,34,58,34,100,101,108,34,125,93,125]).toArray⟩
def Mu:List POp:= [⟨2,⟨#[97]⟩,Af5⟩]
theorem Ag6:Bk (ov (S7 7 3))=Anx.data.toList:=by kernel_rfl
theorem Ado:Bk (ov (Jo 7 3 5 2 Mu))=Ako.data.toList:=by kernel_rfl
theorem Ag5:Bu 7 3 5 2 Mu=0:=by decide+kernel
theorem Aar (w:World):Ae (w.alloc (.cells #[.int .i64 2,.string ⟨#[97]⟩,.int .i64 0,.bool false,.int .i64 0,.string ⟨#[]⟩,.slice none 0 0,.slice none 0 0] 67)) (w.alloc (.cells #[.int .i64 2,.string ⟨#[97]⟩,.int .i64 0,.bool false,.int .i64 0,.string ⟨#[]⟩,.slice none 0 0,.slice none 0 0] 67)).heap.size (.row 8 (Je Mu)) [.slice (some ⟨w.heap.size,0,none⟩) 1 1]:=
 Qs (An.new _ _ _) (Age _) (Ag.one ⟨[.int .i64 2],_,rfl,⟨rfl,rfl⟩, [.string ⟨#[97]⟩],_,rfl,⟨rfl,rfl⟩,_, [],by simp,Ik _ _ (Oo _ _),rfl⟩) rfl
set_option maxRecDepth 100000 in
theorem Nx (w:World) (hT:Cf w) (hN:Kl w):Calls Tryz.prog 9 #[] w fun e w'=>e=.returned (.bool true)/\Below w.heap.size w w':=by
 have hQ:=X6 7 3 (by omega) (by omega) (by omega) (by omega) w hT;have hR:=fun(W:World) hB=>U9 7 3 5 2 Mu (by omega) Ag5 _ 1 1 _ (hT.below (w':=W.alloc _) hB) (hN.below hB) (Aar W) (by decide) (by intro p hp;simp[Mu]at hp;subst hp;simp[Ga,Oq,Jj]);have hF:=fun W=>It 2 (by decide) Anx (by decide) W;have hG:=fun W=>It 3 (by decide) Ako (by decide) W;rw[Ag6]at hQ;rw[Ado]at hR;obtain⟨L,hL⟩: ∃L,C1 (2::Anx.data.toList)=L:=⟨_,rfl⟩;obtain⟨M,hM⟩: ∃M,C1 (3::Ako.data.toList)=M:=⟨_,rfl⟩;rw[hL]at hQ hF;rw[hM]at hR hG;have hl:L.length<=2000000000:=by rw[<-hL];unfold C1;simp[F7]
 have hm:M.length<=2000000000:=by rw[<-hM];unfold C1;simp[F7]
 have hS:=fun(W:World) a n c a' n' c' h h'=>O2 L L a a' n c n' c' true W h h' hl hl (by simp);have hS':=fun(W:World) a n c a' n' c' h h'=>O2 M M a a' n c n' c' true W h h' hm hm (by simp);obtain⟨HQ,HR,HF,HG,HL,HM,HS,HS'⟩:=hid8 hQ hR hF hG hL hM hS hS';clear hQ hR hF hG hL hM hS hS';clear hl hm;go_enter Tryz.func9,Tryz.ntmps9;go_wp2_with (fail);refine(HQ.out).mono ?_;rintro e w1 ⟨a1,c1,rfl,hf1,hb1⟩;go_wp2_with (fail);refine(HR.out w1 (hb1.alloc hb1.size _)).mono ?_;rintro e w2 ⟨a2,c2,rfl,hf2,hb2⟩;have hb2':=(hb1.alloc hb1.size _).trans (hb2.mono (Nat.le_trans hb1.size (by simp)));have hb12:=(Aa w1 _).trans (hb2.mono (by simp));go_wp2_with (fail);refine(HF.out _).mono ?_;rintro e w3 ⟨a3,c3,rfl,hf3,hb3⟩;go_wp2_with (fail);refine(HS.out _ _ _ _ _ _ _ ((hf1.later hb12).later hb3).now hf3.now).mono ?_;rintro e w4 ⟨rfl,hb4⟩;go_wp2_with (fail);refine(HG.out _).mono ?_;rintro e w5 ⟨a5,c5,rfl,hf5,hb5⟩;go_wp2_with (fail);refine(HS'.out _ _ _ _ _ _ _ (((hf2.later hb3).later hb4).later hb5).now hf5.now).mono ?_;rintro e w6 ⟨rfl,hb6⟩;go_wp2;go_ret;have z2:=hb2'.size;have z3:=hb3.size;have z4:=hb4.size;have z5:=hb5.size;exact⟨rfl,(((hb2'.trans (hb3.mono z2)).trans (hb4.mono (by omega))).trans (hb5.mono (by omega))).trans (hb6.mono (by omega))⟩
end Go.Proofs.YtackmnbpfbaemaaGreatDoor
namespace Go.Proofs.YtackmnbpfbaemaaGreatDoor
open Go.RowKit Go.ChangeShapes Go.WideShapes Go.ChangeAt
theorem Ah3 {W:World} (h:Lib.VarReads Tryz.prog W "internal/strconv.uint64pow10" (Lib.tabData .u64 Lib.pow10Tab)):Lib.TabIs Tryz.prog W "internal/strconv.uint64pow10" .u64 Lib.pow10Tab:=by
 obtain⟨g',t',cs,fuel,p,hg',ht',hvar,hd⟩:=h;have hg:Tryz.prog.globalNamed "internal/strconv.uint64pow10" =some 3:=by kernel_rfl
 have hty:(Tryz.prog.globals[3]?).map (·.type)=some 287:=by kernel_rfl
 obtain rfl:=Option.some.inj (hg.symm.trans hg');obtain rfl:=Option.some.inj (hty.symm.trans ht');unfold Lib.TabIs;rw[hvar,<-Lib.cells_of_tab Tryz.underlying287 Tryz.underlying22 (by kernel_rfl) (by kernel_rfl) hd]
theorem Aj2 {W:World} (h:Lib.VarReads Tryz.prog W "commonplace/patch.names" Rows.laid_commonplace_patch_names):Kl W:=by
 obtain⟨g',t',cs,fuel,p,hg',ht',hvar,hd⟩:=h;have hg:Tryz.prog.globalNamed "commonplace/patch.names" =some 0:=by kernel_rfl
 have hty:(Tryz.prog.globals[0]?).map (·.type)=some 168:=by kernel_rfl
 obtain rfl:=Option.some.inj (hg.symm.trans hg');obtain rfl:=Option.some.inj (hty.symm.trans ht');obtain⟨xs,m,_,hx,hl,hxl,hf⟩:=DataW.trod_array Tryz.underlying168 hd;have hc1:Tryz.prog.cellsOf 9=1:=by kernel_rfl
 have hc4:Tryz.prog.cellsOf 168=4:=by kernel_rfl
 rw[hc4]at hl;have hxs:=congrArg Prod.fst hx;simp only[Rows.laid_commonplace_patch_names,DataW.agg.injEq]at hxs;have key: ∀i,i<4-> ∀l:List UInt8,([[], [112,117,116], [100,101,108], [99,108,101,97,114]]:List (List UInt8))[i]? =some l->cs[i]? =some (.string ⟨l.toArray⟩):=by
  intro i hi l hl';have h1:=hf i hi;rw[hc1,Nat.mul_one]at h1;have h2:((cs.toList.drop i).take 1)= [cs[i]'(by simpa[Array.length_toList]using(by omega:i<cs.toList.length))]:=by
   rw[List.drop_eq_getElem_cons (by omega)];simp
  rw[h2,List.getElem?_eq_getElem (by omega)]at h1;obtain⟨s,hs,hx1,_⟩:=DataW.trod_string Tryz.underlying9 h1;simp only[List.cons.injEq,and_true]at hs;have h3:(xs.map (·.1))[i]? =some (DataW.lit (.string s.data.toList):DataW Unit):=by
   rw[List.getElem?_map,List.getElem?_eq_getElem (by omega),Option.map_some,hx1]
  rw[<-hxs]at h3;have h4:s.data.toList=l:=by
   rcases(by omega:i=0\/i=1\/i=2\/i=3)with rfl|rfl|rfl|rfl<;>exact(Lit.string.inj (DataW.lit.inj (Option.some.inj h3))).symm.trans (Option.some.inj hl')
  have h5:i<cs.size:=by rw[<-Array.length_toList];omega
  rw[Array.getElem?_eq_getElem h5,hs];have h6:s=⟨l.toArray⟩:=by
   apply ByteArray.ext;apply Array.ext';rw[h4]
  rw[h6]
 unfold World.var? at hvar;rw[hg]at hvar;simp only[Option.bind_some]at hvar
 split at hvar
 . rename_i cs' t' fz hh;simp only[Option.some.injEq]at hvar;subst hvar;have hcell: ∀i,W.cell? ⟨0,i,none⟩=cs'[i]? :=fun i=>by unfold World.cell?;rw[hh];rfl
   exact⟨(hcell 1).trans (key 1 (by omega) _ rfl),(hcell 2).trans (key 2 (by omega) _ rfl),(hcell 3).trans (key 3 (by omega) _ rfl),(Array.getElem?_eq_some_iff.1 hh).1⟩
 . cases hvar
theorem Af2 {W:World} (h:laidMetH Tryz.prog Rows.pullReadsRow.laid W):Cf W:=by
 have hL:laidMet Tryz.prog Rows.pullReadsRow.laid W:=by
  have:=(laidMetH_iff.1 h).1;have e:(Rows.pullReadsRow.laid.filter fun x=>x.2.handleName?.isNone)=Rows.pullReadsRow.laid:=by kernel_rfl
  rwa [e]at this
 have hu:Lib.Utf8Tabs 1 2 W:=
  utf8Tabs_of_readsT (U8Types.of196 Tryz.lays196) ⟨by kernel_rfl,by kernel_rfl,by kernel_rfl,by kernel_rfl,by kernel_rfl,by kernel_rfl,by kernel_rfl⟩
   (Lib.laidMet.reads hL (n:= "unicode/utf8.first") (d:=Lib.firstData) (by rw[<-Adp];simp[Rows.pullReadsRow])) (Lib.laidMet.reads hL (n:= "unicode/utf8.acceptRanges") (d:=Lib.acceptData) (by rw[<-Aas];simp[Rows.pullReadsRow]))
 have hp:=Ah3 (Lib.laidMet.reads hL (n:= "internal/strconv.uint64pow10") (d:=Lib.tabData .u64 Lib.pow10Tab) (by rw[<-Adq];simp[Rows.pullReadsRow]));have h64:Lib.VarReads Tryz.prog W "math/bits.deBruijn64tab" Rows.laid_math_bits_deBruijn64tab:=Lib.laidMet.reads hL (by simp[Rows.pullReadsRow]);refine⟨?_,hu,hp⟩;obtain⟨g',t',cs,fuel,p,hg',ht',hvar,hd⟩:=h64;have hg:Tryz.prog.globalNamed "math/bits.deBruijn64tab" =some 6:=by kernel_rfl
 obtain rfl:=Option.some.inj (hg.symm.trans hg');unfold World.var? at hvar;rw[hg]at hvar;simp only[Option.bind_some]at hvar;rcases Nat.lt_or_ge 6 W.heap.size with h'|h'
 . omega
 . rw[Array.getElem?_eq_none h']at hvar
   cases hvar
theorem Uf {W:World} (h:laidMetH Tryz.prog Rows.pullReadsRow.laid W):Kl W:=by
 have hL:laidMet Tryz.prog Rows.pullReadsRow.laid W:=by
  have:=(laidMetH_iff.1 h).1;have e:(Rows.pullReadsRow.laid.filter fun x=>x.2.handleName?.isNone)=Rows.pullReadsRow.laid:=by kernel_rfl
  rwa [e]at this
 exact Aj2 (Lib.laidMet.reads hL (by simp[Rows.pullReadsRow]))
theorem i64_in {n:Int} (hwf:(Lit.int .i64 n).wf=true): -9223372036854775808<=n/\n<=9223372036854775807:=by
 have h1:IntKind.i64.min= -9223372036854775808:=by decide
 have h2:IntKind.i64.max=9223372036854775807:=by decide
 simp only[Lit.wf,h1,h2,Bool.and_eq_true,decide_eq_true_eq]at hwf;exact hwf
section
variable {H:Type} {enc:TypeId×Value->H} {P:Program}
theorem N0 {f:Func} {s:ChangeSpec} {apart fresh handsOn again:Bool} {W W':World} {args:Array Value} {v:Value} {ds gs:List (DataW H)} {before pa pv:List MemPlace}
 (hW:DataW.Whole enc P f.params.toList s.vars apart W args.toList ds gs before)
 (hres: ∀(b:Nat) (sp:Nat->Bool) (hd:Bool),DataW.TrodAll enc P W' b sp hd f.resultTypes.toList (v.resultList f.resultTypes.size) (s.fn H (ds++gs)).results [])
 (hargs: ∀sp:Nat->Bool,(∀p ∈ before,sp p.block=true)->DataW.TrodAll enc P W' 0 sp true f.params.toList args.toList (s.fn H (ds++gs)).args pa)
 (hvars: ∀sp:Nat->Bool,(∀p ∈ before,sp p.block=true)->DataW.TrodVars enc P W' sp s.vars (s.fn H (ds++gs)).vars pv)
 (hps:before=pa++pv) (hb:Below W.heap.size W W')
 (hok: ∀(j:Nat) (t:TypeId) (r:Value),f.resultTypes[j]? =some t->(v.resultList f.resultTypes.size)[j]? =some r->Value.okWide P W' .any 0 t r):
 s.post enc P f apart fresh handsOn again W args v W':=by
 have hlt: ∀p ∈ before,p.block<W.heap.size:=fun p hp=>hW.lt p hp;have hold: ∀p ∈ before,(fun b=>decide (b<W.heap.size)) p.block=true:=fun p hp=>by simpa using hlt p hp
 refine⟨ds,gs,before, [],pa,pv,hW,hres _ _ _,hargs _ hold,hvars _ hold,World.keptBut_mono (fun p hp=>⟨hp, ?_⟩) (hb.frame (· ∈ before)),fun _=> ?_⟩
 . rw[hps,List.mem_append]at hp;exact Or.inr hp
 . obtain⟨_,_,_,_,_,hz,hn⟩:=hW;refine⟨hok,_,_,([]++pa)++pv,⟨[]++pa,pv,trodAll_append (hargs _ (fun _ _=>rfl)) (hres _ _ _),hvars _ (fun _ _=>rfl),rfl, ?_, ?_⟩, ?_⟩
   . intro b off hp;have hin:MemPlace.cell b off ∈ before:=by rw[hps];simpa using hp
     rw[hb.frozen (hlt _ hin)];exact hz b off hin
   . intro ha;have:=hn ha;rw[hps]at this;simpa using this
   . intro p hp _;rw[hps];simpa using hp
end
theorem Aex {H:Type} {enc:TypeId×Value->H} {P:Program} {w:World} {base fuel:Nat} {sp:Nat->Bool} {t:TypeId} {ms:Array (String×TypeId)} {cs:List Value} {name:String} {d:DataW H} {p:List MemPlace} (ht:P.underlying t=some (.interface ms))
 (h:DataW.trod enc P w base sp false fuel t cs=some (.iface name d,p)): ∃u v,cs= [.iface u v]:=by
 cases fuel with
 |zero=>simp[DataW.trod]at h
 |succ n=>
  unfold DataW.trod at h;rw[ht]at h
  split at h<;>first|exact⟨_,_,rfl⟩|simp_all
theorem Alz {W:World} (h:Lib.VarReads Tryz.prog W "strconv.ErrRange" Rows.laid_strconv_ErrRange):N8 W:=by
 obtain⟨g',t',cs,fuel,p,hg',ht',hvar,hd⟩:=h;have hg:Tryz.prog.globalNamed "strconv.ErrRange" =some 8:=by kernel_rfl
 have hty:(Tryz.prog.globals[8]?).map (·.type)=some 232:=by kernel_rfl
 obtain rfl:=Option.some.inj (hg.symm.trans hg');obtain rfl:=Option.some.inj (hty.symm.trans ht');unfold World.var? at hvar;rw[hg]at hvar;simp only[Option.bind_some]at hvar
 split at hvar
 . rename_i cs' t' fz hh;simp only[Option.some.injEq]at hvar;subst hvar;obtain⟨u,v,e⟩:=Aex Tryz.underlying232 hd;obtain⟨l⟩:=cs';simp only at e;subst e;refine⟨u,v, ?_⟩;unfold World.cell?
   rw[hh];rfl
 . cases hvar
theorem Aa3 {W:World} (h:laidMetH Tryz.prog Rows.pullReadsRow.laid W):N8 W:=by
 have hL:laidMet Tryz.prog Rows.pullReadsRow.laid W:=by
  have:=(laidMetH_iff.1 h).1;have e:(Rows.pullReadsRow.laid.filter fun x=>x.2.handleName?.isNone)=Rows.pullReadsRow.laid:=by kernel_rfl
  rwa [e]at this
 exact Alz (Lib.laidMet.reads hL (n:= "strconv.ErrRange") (by simp[Rows.pullReadsRow]))
end Go.Proofs.YtackmnbpfbaemaaGreatDoor
namespace Go.Proofs.YtackmnbpfbaemaaGreatDoor
open Go Go.RowKit
theorem Afx:(Tryz.prog.info? 67).map (fun i=>(i.zero,i.size,i.bytes))=some (some (.agg #[.int .i64 0,.string ⟨#[]⟩,.int .i64 0,.bool false,.int .i64 0,.string ⟨#[]⟩,.slice none 0 0,.slice none 0 0]),8,112):=by kernel_rfl
theorem R8 (w:World) (a0 a1 a2 a3 a4 a5 a6 a7:Value):Bt (w.alloc (.cells #[a0,a1,a2,a3,a4,a5,a6,a7] 67)) (w.heap.size+1) 8 (some ⟨w.heap.size,0,none⟩) 1 [a0,a1,a2,a3,a4,a5,a6,a7]:=Ln (An.new w 67 #[a0,a1,a2,a3,a4,a5,a6,a7])
theorem Ai1 {B:Nat} {w:World} {k:Int} {key:ByteArray} {v:Val} {cs:List Value} (h:Ap B w (dV v) cs):Ap B w (dQ ⟨k,key,v⟩) (.int .i64 k:: .string key::cs):=fun w'' h1 h2=>⟨[.int .i64 k],.string key::cs,rfl,⟨rfl,rfl⟩, [.string key],cs,rfl,⟨rfl,rfl⟩,cs, [],by simp,h w'' h1 h2,rfl⟩
abbrev Acd:Array Value:= #[.int .u64 0,.int .u64 0,.int .u64 0,.int .u64 0,.slice none 0 0]
structure LA (w:World) (cs:Array Value) (l:List POp) (q:Nat) (wr:World) (V:Value):Prop where
 below:Below w.heap.size w wr
 box:An wr w.heap.size 47 cs
 res:An wr (w.heap.size+1) 47 Acd
 row:C7 (w.heap.size+2) 67 8 wr (Je (l.take q)) V
theorem Bf {fn:Func} {t u:Tmp} {tmps:Array Value} {W:World} {R:Nat} {a0 a1 a2 a3 a4 a5 a6 a7:Value} (h:fn.results= #[.cell t 67,.tmp u]) (hp:tmps.getD t undef=.pointer (some ⟨R,0,none⟩)) (hx:An W R 67 #[a0,a1,a2,a3,a4,a5,a6,a7]):
 (results fn tmps).run Tryz.prog W=.ok (.tuple #[.agg #[a0,a1,a2,a3,a4,a5,a6,a7],tmps.getD u undef]) W:=by
 obtain⟨c0,c1,c2,c3,c4,c5,c6,c7⟩:=E5 hx;clear hx;have hp':tmps[t]?.getD undef=.pointer (some ⟨R,0,none⟩):=by simpa using hp
 simp[results,h,hp',go_sem,c0,c1,c2,c3,c4,c5,c6,c7]
abbrev Jp:Array Value:= #[.int .i64 0,.string ⟨#[]⟩,.int .i64 0,.bool false,.int .i64 0,.string ⟨#[]⟩,.slice none 0 0,.slice none 0 0]
def Ls (v:Val) (w:World) (e:Ending) (w':World):Prop:=Below w.heap.size w w'/\ ∃cs:List Value,e=.returned (.tuple #[.agg cs.toArray,.int .i64 (D9 v).1])/\((D9 v).1≠0->cs=Jp.toList)/\((D9 v).1=0->Ap w.heap.size w' (dQ (D9 v).2) cs)
theorem Ls.no {v:Val} {w w':World} {c:Int} (h:D9 v=(c,Dr)) (hc:c≠0) (hb:Below w.heap.size w w'):Ls v w (.returned (.tuple #[.agg Jp,.int .i64 c])) w':=
 ⟨hb,Jp.toList,by rw[h],fun _=>rfl,fun e=>by rw[h]at e;exact absurd e hc⟩
structure RI (w:World) (six:Array Value) (wr:World):Prop where
 below:Below w.heap.size w wr
 box:An wr w.heap.size 39 six
 res:An wr (w.heap.size+1) 67 Jp
theorem RI.alloc {w wr:World} {six:Array Value} (h:RI w six wr) (o:Obj):RI w six (wr.alloc o):=⟨h.below.alloc h.below.size o,h.box.alloc o,h.res.alloc o⟩
theorem RI.call {w wr w':World} {six:Array Value} (h:RI w six wr) (hb:Below wr.heap.size wr w'):RI w six w':=⟨h.below.trans (hb.mono h.below.size),h.box.below hb h.box.lt,h.res.below hb h.res.lt⟩
theorem RI.zero {w wr:World} {six:Array Value} (h:RI w six wr):An (A1 wr (w.heap.size+1) 0 Jp.toList) (w.heap.size+1) 67 Jp/\Below w.heap.size w (A1 wr (w.heap.size+1) 0 Jp.toList):=
 ⟨(((((((h.res.set_ 0 (.int .i64 0)).set_ 1 (.string ⟨#[]⟩)).set_ 2 (.int .i64 0)).set_ 3 (.bool false)).set_ 4 (.int .i64 0)).set_ 5 (.string ⟨#[]⟩)).set_ 6 (.slice none 0 0)).set_ 7 (.slice none 0 0),Ak _ h.below (Nat.le_succ _)⟩
theorem Lr.any {v:Val} {key:ByteArray} {w w':World} {e:Ending} (hk:Av v=6) (h:Lr v key w e w'):Below w.heap.size w w'/\ ∃xla xlc xoa xoc,∃k b n t l o,(Ax key (At v)).getD Ll=.mk k b n t l o/\
 e=.returned (.tuple #[.agg #[.int .i64 k,.bool b,.int .i64 n,.string t,.slice xla (l:List Val).length xlc,.slice xoa (o:List (ByteArray×Val)).length xoc],.int .i64 (if(Ax key (At v)).isSome then 0 else 12)])/\
 Ap w.heap.size w' (dV (.mk k b n t l o)) [.int .i64 k,.bool b,.int .i64 n,.string t,.slice xla l.length xlc,.slice xoa o.length xoc]:=by
 obtain⟨hb,h⟩:=h;rw[if_neg (by omega)]at h;refine⟨hb, ?_⟩
 cases hf:Ax key (At v)with
 |none=>
  rw[hf]at h;refine⟨none,0,none,0,0,false,0,K4, [], [],rfl,h,fun w'' _ _=> ?_⟩;exact Ik _ _ (Oo w'' _)
 |some x=>
  rw[hf]at h;obtain⟨cs,rfl,hfr⟩:=h;obtain⟨k,b,n,t,l,o⟩:=x;obtain⟨la,lc,oa,oc,rfl⟩:=Ct hfr;exact⟨la,lc,oa,oc,k,b,n,t,l,o,rfl,rfl,hfr⟩
theorem Agx {key:ByteArray} {k':Int} {b':Bool} {n':Int} {t':ByteArray} {l':List Val} {o':List (ByteArray×Val)} (hb:(Val.mk k' b' n' t' l' o').bulk<=100000000):((Ax key o').getD Ll).bulk<=100000000:=by
 cases h:Ax key o' with
 |none=>decide
 |some x=>
  have h1:=C9 (Gf h);have h2:Al o'<=(Val.mk k' b' n' t' l' o').bulk:=by simp only[Val.bulk];omega
  simp only at h1;show x.bulk<=_;omega
theorem Ae7 (w:World):(zeroValue 209).run Tryz.prog w=.ok (.agg #[.int .i64 0,.bool false,.bool false]) w:=by kernel_rfl
set_option maxRecDepth 100000 in
theorem Aec (k':Int) (b':Bool) (n':Int) (t':ByteArray) (l':List Val) (o':List (ByteArray×Val)) (la lc oa oc) (g:Nat) (w:World)
 (h:Ae w w.heap.size (dV (.mk k' b' n' t' l' o')) [.int .i64 k',.bool b',.int .i64 n',.string t',.slice la l'.length lc,.slice oa o'.length oc]) (hb:(Val.mk k' b' n' t' l' o').bulk<=100000000) (hM:B9 w g 3 Mp):
 Calls Tryz.prog 92 #[.map (some g),.agg #[.int .i64 k',.bool b',.int .i64 n',.string t',.slice la l'.length lc,.slice oa o'.length oc]] w (Ls (.mk k' b' n' t' l' o') w):=by
 have hI0:RI w #[.int .i64 k',.bool b',.int .i64 n',.string t',.slice la l'.length lc,.slice oa o'.length oc] ((w.alloc (.cells #[.int .i64 k',.bool b',.int .i64 n',.string t',.slice la l'.length lc,.slice oa o'.length oc] 39)).alloc (.cells Jp 67)):=
  ⟨((Below.refl _ _).alloc (Nat.le_refl _) _).alloc (by simp) _,(An.new w _ _).alloc _,by simpa using An.new (w.alloc (.cells #[.int .i64 k',.bool b',.int .i64 n',.string t',.slice la l'.length lc,.slice oa o'.length oc] 39)) 67 Jp⟩
 obtain⟨wi,hwi⟩: ∃wi,(w.alloc (.cells #[.int .i64 k',.bool b',.int .i64 n',.string t',.slice la l'.length lc,.slice oa o'.length oc] 39)).alloc (.cells Jp 67)=wi:=⟨_,rfl⟩;rw[hwi]at hI0;have hgl:=hM.lt;obtain⟨x0,x1,x2,x3,x4,x5⟩:=Ao hI0.box;have xl:=hI0.box.lt;by_cases hk:k'=6;rotate_left
 . have e1:(k' != 6)=true:=by simpa using hk
   have hP:=fun W hW=>Ls.no (w:=w) (w':=W) (show D9 (.mk k' b' n' t' l' o')=(9,Dr)from if_pos hk) (by omega) hW;obtain⟨HI,HP,H,HM⟩:=hid4 hI0 hP h hM;clear hP h hM;obtain⟨r0,r1,r2,r3,r4,r5,r6,r7⟩:=E5 hI0.res;have fz:=hI0.res.frozen;have lt1:=hI0.res.lt;clear hk hI0;go_enter Tryz.func92,Tryz.ntmps92;go_upto_region 2 with(fail);clear hwi
   repeat go_step
   have hz:=HI.out.zero;exact bodyPost_ret (Bf rfl rfl hz.1) rfl (HP.out _ hz.2)
 subst hk;have hMem:=fun key (W:World) hB=>Ym 6 b' n' t' l' o' la lc oa oc key W ((h.below (w':=W) hB).more hB.size) hb;have hp0: ∀nm,Ax Cn o'=some nm->Av nm=4-> ∀k fk fv,Ks (Ds nm)=some (k,fk,fv)->D9 (.mk 6 b' n' t' l' o')=if(Ax A6 o').isSome≠fk\/(Ax B5 o').isSome≠fv\/o'.length≠1+(if fk then 1 else 0)+(if fv then 1 else 0)then(10,Dr)
  else if fk=true/\Av ((Ax A6 o').getD Ll)≠4 then(9,Dr)
  else(0,⟨k,Ds ((Ax A6 o').getD Ll),(Ax B5 o').getD Ll⟩):=fun nm h1 h2 k fk fv h3=>by
  unfold D9;rw[if_neg (show ¬Av (.mk 6 b' n' t' l' o')≠6 from fun h=>h rfl)];show(match Ax Cn o' with|none=>_|some nm=>_)=_;rw[h1];simp only;rw[if_neg (by omega),h3];rfl
 obtain⟨HMem,HI0,H,HM,Hp0⟩:=hid5 hMem hI0 h hM hp0;clear hMem hI0 h hM hp0;go_enter Tryz.func92,Tryz.ntmps92;go_upto_region 1 with(fail);clear hwi;go_wp2_with (fail);(with_reducible refine(HMem.out Cn _ HI0.out.below).mono ?_);rintro e w2 hr2;obtain⟨hb2,nla,nlc,noa,noc,nk,nb,nn,nt,nl,no,hgd,rfl,hfn⟩:=Lr.any rfl hr2;have hI2:=(HI0.out.call hb2).alloc (.cells #[.int .i64 nk,.bool nb,.int .i64 nn,.string nt,.slice nla nl.length nlc,.slice noa no.length noc] 39);have hnm2:=An.new w2 39 #[.int .i64 nk,.bool nb,.int .i64 nn,.string nt,.slice nla nl.length nlc,.slice noa no.length noc];have hz2:=(HI0.out.call hb2).below.size;have hord0:w.heap.size+1<w2.heap.size:=(HI0.out.call hb2).res.lt;have Hord0:=Lib.hid hord0;clear hord0;clear hr2 x0 x1 x2 x3 x4 x5 xl;by_cases hs:(Ax Cn o').isSome=true;rotate_left
 . rw[show(if(Ax Cn (At (Val.mk 6 b' n' t' l' o'))).isSome=true then(0:Int)else 12)=12 from if_neg hs];have hP:=fun W hW=>Ls.no (w:=w) (w':=W) (v:=.mk 6 b' n' t' l' o') (c:=10) (by
    have:Ax Cn o'=none:=by simpa using hs
    unfold D9;rw[if_neg (show ¬Av (.mk 6 b' n' t' l' o')≠6 from fun h=>h rfl)];show(match Ax Cn o' with|none=>_|some nm=>_)=_;rw[this]) (by omega) hW
   obtain⟨HP,Hnm2,Hfn⟩:=hid3 hP hnm2 hfn;clear hP hnm2 hfn;clear hs hgd hb2;obtain⟨r0,r1,r2,r3,r4,r5,r6,r7⟩:=E5 hI2.res;have fz:=hI2.res.frozen;have lt1:=hI2.res.lt;have HI:=Lib.hid hI2;go_upto_region 5 with(fail)
   repeat go_step
   have hz:=HI.out.zero;exact bodyPost_ret (Bf rfl rfl hz.1) rfl (HP.out _ hz.2)
 rw[show(if(Ax Cn (At (Val.mk 6 b' n' t' l' o'))).isSome=true then(0:Int)else 12)=0 from if_pos hs];obtain⟨nm,hnm⟩:=Option.isSome_iff_exists.1 hs;obtain rfl:nm=.mk nk nb nn nt nl no:=by
  have h:=hgd;rw[show Ax Cn (At (Val.mk 6 b' n' t' l' o'))=some nm from hnm]at h;exact h
 obtain⟨m0,m1,m2,m3,m4,m5⟩:=Ao hnm2;have ml:=hnm2.lt;by_cases h4:nk=4;rotate_left
 . have e4:(nk != 4)=true:=by simpa using h4
   have hP:=fun W hW=>Ls.no (w:=w) (w':=W) (v:=.mk 6 b' n' t' l' o') (c:=9) (by
    unfold D9;rw[if_neg (show ¬Av (.mk 6 b' n' t' l' o')≠6 from fun h=>h rfl)];show(match Ax Cn o' with|none=>_|some nm=>_)=_;rw[hnm];exact if_pos h4) (by omega) hW
   obtain⟨HP,Hnm2,Hfn⟩:=hid3 hP hnm2 hfn;clear hP hnm2 hfn;clear hs hgd hb2 h4 hnm;obtain⟨r0,r1,r2,r3,r4,r5,r6,r7⟩:=E5 hI2.res;have fz:=hI2.res.frozen;have lt1:=hI2.res.lt;have HI:=Lib.hid hI2;go_upto_region 7 with(fail)
   repeat go_step
   have hz:=HI.out.zero;exact bodyPost_ret (Bf rfl rfl hz.1) rfl (HP.out _ hz.2)
 subst h4;have hMA:=HM.out.below hI2.below hgl;have hlk:=Ra Fg Tryz.underlying159 hMA nt Ae7 true
 cases hfo:Ks nt with
 |none=>
  have hfv:Mp nt=none:=by unfold Mp;rw[hfo];rfl
  rw[hfv]at hlk;simp only[Option.getD_none,Option.isSome_none,if_true]at hlk;have hP:=fun W hW=>Ls.no (w:=w) (w':=W) (v:=.mk 6 b' n' t' l' o') (c:=12) (by
   unfold D9;rw[if_neg (show ¬Av (.mk 6 b' n' t' l' o')≠6 from fun h=>h rfl)];show(match Ax Cn o' with|none=>_|some nm=>_)=_;rw[hnm];simp only;rw[if_neg (show ¬Av (.mk 4 nb nn nt nl no)≠4 from fun h=>h rfl),show Ks (Ds (.mk 4 nb nn nt nl no))=none from hfo]) (by omega) hW
  have hI3:=hI2.alloc (.cells #[.int .i64 0,.bool false,.bool false] 209);obtain⟨HP,Hnm2,Hfn,HMA⟩:=hid4 hP hnm2 hfn hMA;clear hP hnm2 hfn hMA;clear hs hgd hb2 hnm hfv;obtain⟨r0,r1,r2,r3,r4,r5,r6,r7⟩:=E5 hI3.res;have fz:=hI3.res.frozen;have lt1:=hI3.res.lt;have HI:=Lib.hid hI3;go_upto_region 10 with(fail)
  repeat go_step
  have hz:=HI.out.zero;exact bodyPost_ret (Bf rfl rfl hz.1) rfl (HP.out _ hz.2)
 |some f=>
  obtain⟨k,fk,fv⟩:=f;have hfv:Mp nt=some (.agg #[.int .i64 k,.bool fk,.bool fv]):=by unfold Mp;rw[hfo];rfl
  rw[hfv]at hlk;simp only[Option.getD_some,Option.isSome_some,if_true]at hlk;have hp1:=Hp0.out _ hnm rfl _ _ _ hfo;have hI3:=hI2.alloc (.cells #[.int .i64 k,.bool fk,.bool fv] 209);have hfb3:=An.new (w2.alloc (.cells #[.int .i64 4,.bool nb,.int .i64 nn,.string nt,.slice nla nl.length nlc,.slice noa no.length noc] 39)) 209 #[.int .i64 k,.bool fk,.bool fv];obtain⟨x0,x1,x2,x3,x4,x5⟩:=Ao hI3.box;have xl:=hI3.box.lt;obtain⟨Hnm2,Hfn,HMA,Hp1⟩:=hid4 hnm2 hfn hMA hp1;clear hnm2 hfn hMA hp1;clear hs hgd hb2 hnm hfv;go_upto_region 11 with(fail);clear hlk m0 m1 m2 m3 m4 m5 ml hfo;rw[World.size_alloc]at hfb3;generalize (w2.alloc (.cells #[.int .i64 4,.bool nb,.int .i64 nn,.string nt,.slice nla nl.length nlc,.slice noa no.length noc] 39)).alloc (.cells #[.int .i64 k,.bool fk,.bool fv] 209)=w3 at hI3 hfb3 x0 x1 x2 x3 x4 x5 xl ⊢;obtain⟨HI3,Hfb3⟩:=hid2 hI3 hfb3;clear hI3 hfb3;clear hI2;go_wp2_with (fail);(with_reducible refine(HMem.out A6 _ HI3.out.below).mono ?_);rintro e w4 hr4;obtain⟨hb4,ala,alc,aoa,aoc,ak,ab,an,at',al,ao,hgk,rfl,hfk⟩:=Lr.any rfl hr4;have hord4:w2.heap.size+1<w4.heap.size:=Nat.lt_of_lt_of_le Hfb3.out.lt hb4.size;have hord2:w.heap.size+1<w2.heap.size:=Hord0.out;obtain⟨Hord4,Hord2⟩:=hid2 hord4 hord2;clear hord4 hord2;have hI4:=(HI3.out.call hb4).alloc (.cells #[.int .i64 ak,.bool ab,.int .i64 an,.string at',.slice ala al.length alc,.slice aoa ao.length aoc] 39);have hkb:=An.new w4 39 #[.int .i64 ak,.bool ab,.int .i64 an,.string at',.slice ala al.length alc,.slice aoa ao.length aoc];have hfb4:=(Hfb3.out.below hb4 Hfb3.out.lt).alloc (.cells #[.int .i64 ak,.bool ab,.int .i64 an,.string at',.slice ala al.length alc,.slice aoa ao.length aoc] 39);obtain⟨hk,hhk⟩: ∃B,(Ax A6 o').isSome=B:=⟨_,rfl⟩;obtain⟨cA,hcA⟩: ∃c:Int,(if(Ax A6 (At (Val.mk 6 b' n' t' l' o'))).isSome=true then(0:Int)else 12)=c:=⟨_,rfl⟩;rw[hcA];have ecA:(cA==0)=hk:=by
   rw[<-hcA,<-hhk];show((if(Ax A6 o').isSome=true then(0:Int)else 12)==0)=_
   cases (Ax A6 o').isSome<;>rfl
  clear hcA;obtain⟨y0,y1,y2,y3,y4,y5⟩:=Ao hI4.box;have yl:=hI4.box.lt;obtain⟨HI4,Hkb,Hfb4,Hgk,Hfk,Hhk⟩:=hid6 hI4 hkb hfb4 hgk hfk hhk;clear hI4 hkb hfb4 hgk hfk hhk;clear hr4 hb4 x0 x1 x2 x3 x4 x5 xl;go_wp2_with (fail);(with_reducible refine(HMem.out B5 _ HI4.out.below).mono ?_);rintro e w5 hr5;obtain⟨hb5,vla,vlc,voa,voc,vk,vb,vn,vt,vl,vo,hgv,rfl,hfv⟩:=Lr.any rfl hr5;have hI5:=(HI4.out.call hb5).alloc (.cells #[.int .i64 vk,.bool vb,.int .i64 vn,.string vt,.slice vla vl.length vlc,.slice voa vo.length voc] 39);have hvb:=An.new w5 39 #[.int .i64 vk,.bool vb,.int .i64 vn,.string vt,.slice vla vl.length vlc,.slice voa vo.length voc];have hkb5:=(Hkb.out.below hb5 Hkb.out.lt).alloc (.cells #[.int .i64 vk,.bool vb,.int .i64 vn,.string vt,.slice vla vl.length vlc,.slice voa vo.length voc] 39);have hfb5:=(Hfb4.out.below hb5 Hfb4.out.lt).alloc (.cells #[.int .i64 vk,.bool vb,.int .i64 vn,.string vt,.slice vla vl.length vlc,.slice voa vo.length voc] 39);have hfk5:=(Hfk.out.later ((Aa w4 (.cells #[.int .i64 ak,.bool ab,.int .i64 an,.string at',.slice ala al.length alc,.slice aoa ao.length aoc] 39)).trans (hb5.mono (by simp)))).later (Aa w5 (.cells #[.int .i64 vk,.bool vb,.int .i64 vn,.string vt,.slice vla vl.length vlc,.slice voa vo.length voc] 39));have hfv5:=hfv.later (Aa w5 (.cells #[.int .i64 vk,.bool vb,.int .i64 vn,.string vt,.slice vla vl.length vlc,.slice voa vo.length voc] 39));obtain⟨hv,hhv⟩: ∃B,(Ax B5 o').isSome=B:=⟨_,rfl⟩;obtain⟨cV,hcV⟩: ∃c:Int,(if(Ax B5 (At (Val.mk 6 b' n' t' l' o'))).isSome=true then(0:Int)else 12)=c:=⟨_,rfl⟩;rw[hcV];have ecV:(cV==0)=hv:=by
   rw[<-hcV,<-hhv];show((if(Ax B5 o').isSome=true then(0:Int)else 12)==0)=_
   cases (Ax B5 o').isSome<;>rfl
  clear hcV;obtain⟨f0,f1,f2⟩:(w5.alloc (.cells #[.int .i64 vk,.bool vb,.int .i64 vn,.string vt,.slice vla vl.length vlc,.slice voa vo.length voc] 39)).cell? ⟨w2.heap.size+1,0,none⟩=some (.int .i64 k)/\(w5.alloc (.cells #[.int .i64 vk,.bool vb,.int .i64 vn,.string vt,.slice vla vl.length vlc,.slice voa vo.length voc] 39)).cell? ⟨w2.heap.size+1,1,none⟩=some (.bool fk)/\(w5.alloc (.cells #[.int .i64 vk,.bool vb,.int .i64 vn,.string vt,.slice vla vl.length vlc,.slice voa vo.length voc] 39)).cell? ⟨w2.heap.size+1,2,none⟩=some (.bool fv):=⟨hfb5.cell 0,hfb5.cell 1,hfb5.cell 2⟩;have fl:=hfb5.lt;have hs5:w4.heap.size<w5.heap.size:=Nat.lt_of_lt_of_le (by simp) hb5.size;obtain⟨HI5,Hvb,Hkb5,Hfb5,Hgv,Hfv,Hhv,Hfk5,Hfv5,Hs5⟩:=hid10 hI5 hvb hkb5 hfb5 hgv hfv hhv hfk5 hfv5 hs5;clear hI5 hvb hkb5 hfb5 hgv hfv hhv hfk5 hfv5 hs5;clear hr5 hb5 y0 y1 y2 y3 y4 y5 yl;go_upto_region 14 with(fail);have hI6:=HI5.out.alloc (.cells #[.int .i64 k,.bool hk,.bool hv] 209);have hhb:=An.new (w5.alloc (.cells #[.int .i64 vk,.bool vb,.int .i64 vn,.string vt,.slice vla vl.length vlc,.slice voa vo.length voc] 39)) 209 #[.int .i64 k,.bool hk,.bool hv];rw[World.size_alloc]at hhb;have hvb6:=Hvb.out.alloc (.cells #[.int .i64 k,.bool hk,.bool hv] 209);have hkb6:=Hkb5.out.alloc (.cells #[.int .i64 k,.bool hk,.bool hv] 209);have hfb6:=Hfb5.out.alloc (.cells #[.int .i64 k,.bool hk,.bool hv] 209);have hfk6:=Hfk5.out.later (Aa _ (.cells #[.int .i64 k,.bool hk,.bool hv] 209));have hfv6:=Hfv5.out.later (Aa _ (.cells #[.int .i64 k,.bool hk,.bool hv] 209));clear f0 f1 f2 fl;generalize (w5.alloc (.cells #[.int .i64 vk,.bool vb,.int .i64 vn,.string vt,.slice vla vl.length vlc,.slice voa vo.length voc] 39)).alloc (.cells #[.int .i64 k,.bool hk,.bool hv] 209)=w6 at hI6 hhb hvb6 hkb6 hfb6 hfk6 hfv6 ⊢;obtain⟨P,hP⟩: ∃P:Bool,decide (hk≠fk\/hv≠fv\/o'.length≠1+(if fk then 1 else 0)+(if fv then 1 else 0))=P:=⟨_,rfl⟩;have hw6:=Below.refl w6.heap.size w6;obtain⟨HI6,Hhb,Hvb6,Hkb6,Hfb6,Hfk6,Hfv6,Hw6⟩:=hid8 hI6 hhb hvb6 hkb6 hfb6 hfk6 hfv6 hw6;clear hI6 hhb hvb6 hkb6 hfb6 hfk6 hfv6 hw6;clear HI5 Hvb Hkb5 Hfb5 Hfk5 Hfv5;go_cut [68] (fun s wx=>s=.bool P/\Hid (Below w6.heap.size w6 wx))
  case first=>
   have hMm:=fun W=>T7 k fk fv W;have v5:=HI6.out.box.cell 5;have v5l:=HI6.out.box.lt;obtain⟨f0,f1,f2⟩:w6.cell? ⟨w2.heap.size+1,0,none⟩=some (.int .i64 k)/\w6.cell? ⟨w2.heap.size+1,1,none⟩=some (.bool fk)/\w6.cell? ⟨w2.heap.size+1,2,none⟩=some (.bool fv):=⟨Hfb6.out.cell 0,Hfb6.out.cell 1,Hfb6.out.cell 2⟩;obtain⟨h0,h1,h2⟩:w6.cell? ⟨w5.heap.size+1,0,none⟩=some (.int .i64 k)/\w6.cell? ⟨w5.heap.size+1,1,none⟩=some (.bool hk)/\w6.cell? ⟨w5.heap.size+1,2,none⟩=some (.bool hv):=⟨Hhb.out.cell 0,Hhb.out.cell 1,Hhb.out.cell 2⟩;have fl:=Hfb6.out.lt;have hl:=Hhb.out.lt;have ekk:(k==k)=true:=by simp
   have HMm:=Lib.hid hMm;clear hMm;clear HMem Hfn HMA Hp1 Hgk Hfk Hgv Hfv;by_cases hne:hk=fk/\hv=fv
   . obtain⟨rfl,rfl⟩:=hne;obtain⟨mI,hmI⟩: ∃m:Int,((1+(if hk then 1 else 0)+(if hv then 1 else 0):Nat):Int)=m:=⟨_,rfl⟩;have hMm:=HMm.out;rw[hmI]at hMm;have em:((o'.length:Int) != mI)=P:=by
      rw[<-hP,<-hmI,Bool.eq_iff_iff];simp only[bne_iff_ne,ne_eq,decide_eq_true_eq,not_true_eq_false,false_or];omega
     have eb1:(hk==hk)=true:=by simp
     have eb2:(hv==hv)=true:=by simp
     clear hP HMm;have HMm:=Lib.hid hMm;clear hMm
     go_region_with (go_at_call 132;(with_reducible refine(HMm.out _).mono ?_);rintro e w7 ⟨rfl,hb7⟩;have hw7:Below w6.heap.size w6 w7:=(Below.drew (Below.refl _ _)).trans hb7;obtain⟨hc7,hg7⟩:=Dy hw7)
     all_goals
      have HW7:=Lib.hid hw7;clear hc7 hg7 hb7 hw7;go_wp2;go_meet;exact⟨rfl,HW7⟩
   . obtain rfl:true=P:=by
      rw[<-hP];refine(decide_eq_true ?_).symm;by_cases h:hk=fk
      . exact .inr (.inl fun h2=>hne ⟨h,h2⟩)
      . exact .inl h
     clear hP
     cases hk<;>cases hv<;>cases fk<;>cases fv
     all_goals first
      |exact absurd ⟨rfl,rfl⟩ hne
      |skip
     all_goals
      clear hne;go_quiet (fail);go_wp2;go_meet;exact⟨rfl,Lib.hid ⟨rfl,rfl,rfl,Nat.le_refl _,fun _ _=>rfl⟩⟩
  case rest=>
   obtain⟨rfl,hbc⟩:=hcut;have hIc:=HI6.out.call hbc.out;have hfbc:=Hfb6.out.below hbc.out Hfb6.out.lt;have hkbc:=Hkb6.out.below hbc.out Hkb6.out.lt;have hvbc:=Hvb6.out.below hbc.out Hvb6.out.lt;have hfvc:=Hfv6.out.later hbc.out;have hp2:=Hp1.out;rw[Hhk.out,Hhv.out]at hp2
   cases P with
   |true=>
    have hpo:D9 (.mk 6 b' n' t' l' o')=(10,Dr):=by
     rw[hp2,if_pos];exact of_decide_eq_true hP
    have HP:=Lib.hid (fun W hW=>Ls.no (w:=w) (w':=W) hpo (by omega) hW);clear hp2 hpo hP;obtain⟨r0,r1,r2,r3,r4,r5,r6,r7⟩:=E5 hIc.res;have fz:=hIc.res.frozen;have lt1:=hIc.res.lt;have HI:=Lib.hid hIc;go_upto_region 15 with(fail)
    repeat go_step
    have hz:=HI.out.zero;exact bodyPost_ret (Bf rfl rfl hz.1) rfl (HP.out _ hz.2)
   |false=>
    have hno:=of_decide_eq_false hP;rw[if_neg hno]at hp2;have hgk':(Ax A6 o').getD Ll=.mk ak ab an at' al ao:=Hgk.out;have hgv':(Ax B5 o').getD Ll=.mk vk vb vn vt vl vo:=Hgv.out;rw[hgk',hgv']at hp2;have hbv:(Val.mk vk vb vn vt vl vo).bulk<=100000000:=by rw[<-hgv'];exact Agx hb
    obtain⟨f0,f1⟩:wc.cell? ⟨w2.heap.size+1,0,none⟩=some (.int .i64 k)/\wc.cell? ⟨w2.heap.size+1,1,none⟩=some (.bool fk):=⟨hfbc.cell 0,hfbc.cell 1⟩;have fl:=hfbc.lt;obtain⟨a0,a3⟩:wc.cell? ⟨w4.heap.size,0,none⟩=some (.int .i64 ak)/\wc.cell? ⟨w4.heap.size,3,none⟩=some (.string at'):=⟨hkbc.cell 0,hkbc.cell 3⟩;have kl:=hkbc.lt;by_cases h9:fk=true/\ak≠4
    . obtain⟨rfl,h9⟩:=h9;have e9:(ak != 4)=true:=by simpa using h9
      have hpo:D9 (.mk 6 b' n' t' l' o')=(9,Dr):=by
       rw[hp2,if_pos ⟨rfl,h9⟩]
      have HP:=Lib.hid (fun W hW=>Ls.no (w:=w) (w':=W) hpo (by omega) hW);clear hp2 hpo hno h9 hP;obtain⟨r0,r1,r2,r3,r4,r5,r6,r7⟩:=E5 hIc.res;have fz:=hIc.res.frozen;have lt1:=hIc.res.lt;have HI:=Lib.hid hIc;go_upto_region 17 with(fail)
      repeat go_step
      have hz:=HI.out.zero;exact bodyPost_ret (Bf rfl rfl hz.1) rfl (HP.out _ hz.2)
    . rw[if_neg (show ¬(fk=true/\Av (.mk ak ab an at' al ao)≠4)from h9)]at hp2;have hC: ∀W,Below wc.heap.size wc W->Calls Tryz.prog 72 #[.agg #[.int .i64 vk,.bool vb,.int .i64 vn,.string vt,.slice vla vl.length vlc,.slice voa vo.length voc]] W (La W (.mk vk vb vn vt vl vo)):=fun W hB=>Ky _ [.int .i64 vk,.bool vb,.int .i64 vn,.string vt,.slice vla vl.length vlc,.slice voa vo.length voc] W (Bv _ _ (hfvc.later hB).now) hbv;obtain⟨v0,v1,v2,v3,v4,v5⟩:=Ao hvbc;have vl5:=hvbc.lt;have hlow:=hIc.res.lt;have hcase:fk=false\/(fk=true/\ak=4):=by
       cases fk with
       |false=>exact .inl rfl
       |true=>
        refine .inr ⟨rfl, ?_⟩;by_cases h:ak=4
        . exact h
        . exact absurd ⟨rfl,h⟩ h9
      have hS: ∀W:World,An W (w2.heap.size+1) 209 #[.int .i64 k,.bool fk,.bool fv]->An W w4.heap.size 39 #[.int .i64 ak,.bool ab,.int .i64 an,.string at',.slice ala al.length alc,.slice aoa ao.length aoc]->An W w5.heap.size 39 #[.int .i64 vk,.bool vb,.int .i64 vn,.string vt,.slice vla vl.length vlc,.slice voa vo.length voc]->W.cell? ⟨w2.heap.size+1,0,none⟩=some (.int .i64 k)/\W.cell? ⟨w4.heap.size,3,none⟩=some (.string at')/\W.cell? ⟨w5.heap.size,0,none⟩=some (.int .i64 vk)/\W.cell? ⟨w5.heap.size,1,none⟩=some (.bool vb)/\W.cell? ⟨w5.heap.size,2,none⟩=some (.int .i64 vn)/\W.cell? ⟨w5.heap.size,3,none⟩=some (.string vt)/\W.cell? ⟨w5.heap.size,4,none⟩=some (.slice vla vl.length vlc)/\W.cell? ⟨w5.heap.size,5,none⟩=some (.slice voa vo.length voc):=fun W a b c=>⟨a.cell 0,b.cell 3,c.cell 0,c.cell 1,c.cell 2,c.cell 3,c.cell 4,c.cell 5⟩;have hord:w.heap.size+1<w2.heap.size/\w2.heap.size+1<w4.heap.size/\w4.heap.size<w5.heap.size:=⟨Hord2.out,Hord4.out,Hs5.out⟩;obtain⟨HC,HIc,Hfvc,Hvbc,Hkbc,Hfbc,Hp2,HS,Hord⟩:=hid9 hC hIc hfvc hvbc hkbc hfbc hp2 hS hord;clear hC hIc hfvc hvbc hkbc hfbc hp2 hS hord;clear h9 hP hno hbc hgk' hgv' hbv HI6 Hfb6 Hkb6 Hvb6 Hfv6 Hhb Hfk6 HMem HMA Hp1;rcases hcase with rfl|⟨rfl,rfl⟩
      all_goals
       go_upto_region 18 with(fail);refine wp_region_held_drew (S:=fun W=>W.cell? ⟨w2.heap.size+1,0,none⟩=some (.int .i64 k)/\W.cell? ⟨w4.heap.size,3,none⟩=some (.string at')/\W.cell? ⟨w5.heap.size,0,none⟩=some (.int .i64 vk)/\W.cell? ⟨w5.heap.size,1,none⟩=some (.bool vb)/\W.cell? ⟨w5.heap.size,2,none⟩=some (.int .i64 vn)/\W.cell? ⟨w5.heap.size,3,none⟩=some (.string vt)/\W.cell? ⟨w5.heap.size,4,none⟩=some (.slice vla vl.length vlc)/\W.cell? ⟨w5.heap.size,5,none⟩=some (.slice voa vo.length voc)) (by kernel_rfl) (HS.out _ Hfbc.out Hkbc.out Hvbc.out) (fun hHeld=> ?_);refine tkH 0 hHeld ?_;refine tkH 1 hHeld ?_;refine tkH 2 hHeld ?_;refine tkH 3 hHeld ?_;refine tkH 4 hHeld ?_;refine wpAnyH_ready (rs:= [5]) (by kernel_rfl) (by simp) ?_;refine AllReadyH.cons rfl (fun K hK=> ?_) AllReadyH.nil;go_simp;(with_reducible refine(HC.out _ (Below.drew (Below.refl _ _))).mono ?_);rintro e w8 ⟨⟨cs8,rfl,hl8,hf8⟩,hb8⟩;obtain⟨xla,xlc,xoa,xoc,rfl⟩:=Ct hf8;have hbr8:Below wc.heap.size wc w8:=(Below.drew (Below.refl _ _)).trans hb8;have hI8:=HIc.out.call hbr8;have hge8:=hbr8.size;have hfb8:=Hfbc.out.below hbr8 Hfbc.out.lt;have hkb8:=Hkbc.out.below hbr8 Hkbc.out.lt;have hvb8:=Hvbc.out.below hbr8 Hvbc.out.lt;refine hK.out _ _ (HS.out _ hfb8 hkb8 hvb8) (fun hHeld=> ?_);clear hK K
       try simp only[Act.put,tk4,tk5,tk6]
       refine tkH 6 hHeld ?_;refine wpAnyH_ready (rs:= [7]) (by kernel_rfl) (by simp) ?_;refine AllReadyH.cons rfl (fun K hK=> ?_) AllReadyH.nil;obtain⟨r0,r1,r2,r3,r4,r5,r6,r7⟩:=E5 hI8.res;have fz:=hI8.res.frozen;have lt1:=hI8.res.lt;have hs1:An (A1 w8 (w.heap.size+1) 0 [.int .i64 k,.string at',.int .i64 vk,.bool vb,.int .i64 vn,.string vt,.slice xla vl.length xlc,.slice xoa vo.length xoc]) (w2.heap.size+1) 209 _:=(Aw _ _ _ _ _ (by have:=Hord.out;omega)).trans hfb8;have hs2:An (A1 w8 (w.heap.size+1) 0 [.int .i64 k,.string at',.int .i64 vk,.bool vb,.int .i64 vn,.string vt,.slice xla vl.length xlc,.slice xoa vo.length xoc]) w4.heap.size 39 _:=(Aw _ _ _ _ _ (by have:=Hord.out;omega)).trans hkb8;have hs3:An (A1 w8 (w.heap.size+1) 0 [.int .i64 k,.string at',.int .i64 vk,.bool vb,.int .i64 vn,.string vt,.slice xla vl.length xlc,.slice xoa vo.length xoc]) w5.heap.size 39 _:=(Aw _ _ _ _ _ (by have:=Hord.out;omega)).trans hvb8;obtain⟨HI8,Hf8,Hbr8,Hs1,Hs2,Hs3,Hb8,Hfb8,Hkb8,Hvb8⟩:=hid10 hI8 hf8 hbr8 hs1 hs2 hs3 hb8 hfb8 hkb8 hvb8;clear hI8 hf8 hbr8 hs1 hs2 hs3 hb8 hfb8 hkb8 hvb8;go_simp;refine hK.out _ _ (HS.out _ Hs1.out Hs2.out Hs3.out) (fun hHeld=> ?_);clear hK K
       try simp only[Act.put,tk4,tk5,tk6]
       refine tkH 8 hHeld ?_;refine wpAnyH_done (by kernel_rfl) ?_ _;clear hHeld r0 r1 r2 r3 r4 r5 r6 r7 fz
       repeat go_step
       have hxf:=(((((((HI8.out.res.set_ 0 (.int .i64 k)).set_ 1 (.string at')).set_ 2 (.int .i64 vk)).set_ 3 (.bool vb)).set_ 4 (.int .i64 vn)).set_ 5 (.string vt)).set_ 6 (.slice xla vl.length xlc)).set_ 7 (.slice xoa vo.length xoc);have hbf:=Ak [.int .i64 k,.string at',.int .i64 vk,.bool vb,.int .i64 vn,.string vt,.slice xla vl.length xlc,.slice xoa vo.length xoc] HI8.out.below (Nat.le_succ w.heap.size) (o:=0);have hff:=(Ai1 (k:=k) (key:=at') Hf8.out).keep (b':=w.heap.size) (w':=(A1 w8 (w.heap.size+1) 0 [.int .i64 k,.string at',.int .i64 vk,.bool vb,.int .i64 vn,.string vt,.slice xla vl.length xlc,.slice xoa vo.length xoc])) (by simp;omega) (by rw[Ba];exact Nat.le_refl _) (fun p p1 _=>World.cell?_of_block (Aw _ _ _ _ _ (by simp at p1;omega)));exact bodyPost_ret (Bf rfl rfl hxf) rfl ⟨hbf,_,by rw[Hp2.out];rfl,fun h=>absurd (show(D9 (.mk 6 b' n' t' l' o')).1=0 by rw[Hp2.out]) h,fun _=>by rw[Hp2.out];exact hff⟩
theorem Am9 {w:World} {B n c:Nat} {l:List Val} {a:Option Addr} (h:Ae w B (.row 6 (dL l)) [.slice a n c]) {q:Nat} {k':Int} {b':Bool} {n':Int} {t':ByteArray} {l':List Val} {o':List (ByteArray×Val)} (hi:l[q]? =some (.mk k' b' n' t' l' o')):
 ∃g off,a=some ⟨g,off,none⟩/\g<B/\ ∃la lc oa oc,Ae w B (dV (.mk k' b' n' t' l' o')) [.int .i64 k',.bool b',.int .i64 n',.string t',.slice la l'.length lc,.slice oa o'.length oc]/\
  w.cell? ⟨g,off+q*6,none⟩=some (.int .i64 k')/\w.cell? ⟨g,off+q*6+1,none⟩=some (.bool b')/\
  w.cell? ⟨g,off+q*6+2,none⟩=some (.int .i64 n')/\w.cell? ⟨g,off+q*6+3,none⟩=some (.string t')/\w.cell? ⟨g,off+q*6+4,none⟩=some (.slice la l'.length lc)/\w.cell? ⟨g,off+q*6+5,none⟩=some (.slice oa o'.length oc):=by
 obtain⟨g,off,ea,hg,cs,h1,_,h3⟩:=h.at_ (i:=q) (d:=dV (.mk k' b' n' t' l' o')) (by rw[Gz,List.getElem?_map,hi];rfl);have h6:=Bv _ _ h1;simp only[Ac]at h6;obtain⟨la,lc,oa,oc,rfl,_,_⟩:=h6;exact⟨g,off,ea,hg,la,lc,oa,oc,h1,h3 0 _ rfl,h3 1 _ rfl,h3 2 _ rfl,h3 3 _ rfl,h3 4 _ rfl,h3 5 _ rfl⟩
theorem Agm {B:Nat} {w:World} {p:POp} {cs:List Value} (h:Ap B w (dQ p) cs): ∃z2 z3 z4 z5 la lc oa oc ll ol,cs= [.int .i64 p.k,.string p.key,.int .i64 z2,.bool z3,.int .i64 z4,.string z5,.slice la ll lc,.slice oa ol oc]:=by
 obtain⟨k,key,⟨a,b,n,t,l,o⟩⟩:=p;have h1:=h.now;unfold dQ at h1;simp only[Ae]at h1;obtain⟨_,_,rfl,⟨rfl,_⟩,_,_,rfl,⟨rfl,_⟩,cv,_,rfl,h4,rfl⟩:=h1;have h6:=Bv _ _ h4;simp only[Ac]at h6;obtain⟨la,lc,oa,oc,rfl,_,_⟩:=h6;exact⟨_,_,_,_,_,_,_,_,_,_,rfl⟩
structure PatI (w:World) (b0 gF:Nat) (l:List Val) (q:Nat) (wr:World) (V:Value):Prop where
 below:Below w.heap.size w wr
 fld:B9 wr gF 3 Mp
 ge:w.heap.size<=b0/\gF<b0/\b0<=wr.heap.size
 row:C7 b0 67 8 wr (Je (Am (l.take q)).2) V
theorem PatI.call {w:World} {b0 gF:Nat} {l:List Val} {q:Nat} {wr w':World} {V:Value} (h:PatI w b0 gF l q wr V) (hb:Below wr.heap.size wr w'):PatI w b0 gF l q w' V:=
 ⟨h.below.trans (hb.mono h.below.size),h.fld.below hb h.fld.lt,⟨h.ge.1,h.ge.2.1,Nat.le_trans h.ge.2.2 hb.size⟩,h.row.below hb⟩
def N9 (v:Val) (w:World) (e:Ending) (w':World):Prop:=Below w.heap.size w w'/\
 if(Be v).1≠0 then e=.returned (.tuple #[.slice none 0 0,.int .i64 (Be v).1])else
  ∃a c,e=.returned (.tuple #[.slice a (Be v).2.length c,.int .i64 0])/\Ap w.heap.size w' (.row 8 (Je (Be v).2)) [.slice a (Be v).2.length c]
theorem N9.no {v:Val} {w w':World} {c:Int} (h:(Be v).1=c) (hc:c≠0) (hb:Below w.heap.size w w'):N9 v w (.returned (.tuple #[.slice none 0 0,.int .i64 c])) w':=
 ⟨hb,by rw[if_pos (by omega),h]⟩
theorem R0 {k':Int} {b':Bool} {n':Int} {t':ByteArray} {l':List Val} {o':List (ByteArray×Val)} (hm:Ay (.mk k' b' n' t' l' o') 1=0) (hk:k'=5):Be (.mk k' b' n' t' l' o')=if(Am l').1≠0 then((Am l').1, [])else if Bm none (Am l').2=0 then(0,(Am l').2)else(Bm none (Am l').2, []):=by
 unfold Be;rw[if_neg (by omega),if_neg (show ¬Av (.mk k' b' n' t' l' o')≠5 from fun h=>h hk)];rfl
theorem My: ∀(l:List Val),(Am l).2.length<=l.length
 | []=>Nat.le_refl _
 |v::l=>by
  unfold Am;have:=My l
  split
  . exact Nat.zero_le _
  split
  . exact Nat.zero_le _
  . simp only[List.length_cons];omega
theorem Jw: ∀{l:List Val},(∀v ∈ l,Ga v/\Ay v 2=0)->(Am l).1=0->D5 (Am l).2<=3*Bc l/\inQ (Am l).2
 | [],_,_=>⟨Nat.zero_le _,fun p h=>by cases h⟩
 |v::l,hm,h=>by
  unfold Am at h ⊢;by_cases h1:(C4 v).1≠0
  . rw[if_pos h1]at h;exact absurd h h1
  rw[if_neg h1]at h ⊢;by_cases h2:(Am l).1≠0
  . rw[if_pos h2]at h;exact absurd h h2
  rw[if_neg h2];obtain⟨i1,i2⟩:=Jw (fun x hx=>hm x (List.mem_cons_of_mem _ hx)) (by simpa using h2);obtain⟨m1,m2⟩:=hm v (List.mem_cons_self ..);have e:=Xa m2;obtain⟨b1,b2⟩:=Ahk m1 (by rw[e];simpa using h1);rw[e]at b1 b2;refine⟨by simp only[D5,Bc];omega,fun p hp=> ?_⟩;rcases List.mem_cons.1 hp with rfl|hp
  . exact b2
  . exact i2 p hp
set_option maxRecDepth 100000 in
theorem Aj8 (k':Int) (b':Bool) (n':Int) (t':ByteArray) (l':List Val) (o':List (ByteArray×Val)) (la lc oa oc) (w:World) (hT:Cf w)
 (h:Ae w w.heap.size (dV (.mk k' b' n' t' l' o')) [.int .i64 k',.bool b',.int .i64 n',.string t',.slice la l'.length lc,.slice oa o'.length oc]) (hb:(Val.mk k' b' n' t' l' o').bulk<=30000000) (hi:Ga (.mk k' b' n' t' l' o')):
 Calls Tryz.prog 60 #[.agg #[.int .i64 k',.bool b',.int .i64 n',.string t',.slice la l'.length lc,.slice oa o'.length oc]] w (N9 (.mk k' b' n' t' l' o') w):=by
 obtain⟨wi,hwi⟩: ∃wi,w.alloc (.cells #[.int .i64 k',.bool b',.int .i64 n',.string t',.slice la l'.length lc,.slice oa o'.length oc] 39)=wi:=⟨_,rfl⟩;have hbi:Below w.heap.size w wi:=hwi▸Aa _ _;have hxi:An wi w.heap.size 39 #[.int .i64 k',.bool b',.int .i64 n',.string t',.slice la l'.length lc,.slice oa o'.length oc]:=hwi▸An.new _ _ _;have hMay:=Qm (.mk k' b' n' t' l' o') [.int .i64 k',.bool b',.int .i64 n',.string t',.slice la l'.length lc,.slice oa o'.length oc] wi (hT.below hbi) (Bv _ _ ((h.below hbi).more hbi.size)) (by omega);obtain⟨x0,x1,x2,x3,x4,x5⟩:=Ao hxi;have xl:=hxi.lt;obtain⟨M,hM⟩: ∃M,Ay (.mk k' b' n' t' l' o') 1=M:=⟨_,rfl⟩;rw[hM]at hMay;obtain⟨HMay,Hbi,Hxi,H,HT,Hi⟩:=hid6 hMay hbi hxi h hT hi;clear hMay hbi hxi h hT hi;go_enter Tryz.func60,Tryz.ntmps60;go_upto_region 1 with(fail);clear hwi;go_wp2_with (fail);(with_reducible refine(HMay.out).mono ?_);rintro e w1 ⟨rfl,hb1⟩;have hw1:=Hbi.out.trans (hb1.mono Hbi.out.size);have hx1:=Hxi.out.below hb1 Hxi.out.lt;by_cases hm:M=0;rotate_left
 . have tM:(M != 0)=true:=by simpa using hm
   have hP:=N9.no (v:=.mk k' b' n' t' l' o') (show(Be (.mk k' b' n' t' l' o')).1=M by unfold Be;rw[if_pos (by omega)];exact hM) hm hw1;have HP:=Lib.hid hP;clear hP;clear hm hM;go_wp2;go_ret2;exact HP.out
 subst hm;have y0:=hx1.cell 0;have y4:=hx1.cell 4;have yl:=hx1.lt;by_cases hk:k'=5;rotate_left
 . have e5:(k' != 5)=true:=by simpa using hk
   have hP:=N9.no (v:=.mk k' b' n' t' l' o') (show(Be (.mk k' b' n' t' l' o')).1=9 by unfold Be;rw[if_neg (by omega),if_pos (show Av (.mk k' b' n' t' l' o')≠5 from hk)]) (by omega) hw1;obtain⟨HP,Hb1,Hw1,Hx1⟩:=hid4 hP hb1 hw1 hx1;clear hP hb1 hw1 hx1;clear hk hM x0 x1 x2 x3 x4 x5 xl;go_wp2;go_ret2;exact HP.out
 subst hk;have hop:=R0 hM rfl;have hel: ∀v ∈ l',Ga v/\Ay v 2=0:=fun v hv=>⟨Te Hi.out.2.1 hv,Lj (Ck hM).2.2.2.1 v hv⟩;have hF:=fun W=>Yb W;obtain⟨j0,hj,hy0,hy1,hy2⟩:=info_parts Afx;have hbl:3*Bc l'<=90000000:=by simp only[Val.bulk]at hb;omega
 have hll:l'.length<=30000000:=by have:=D3 l';omega
 obtain⟨Hb1,Hw1,Hx1,Hop,Hel,HF,HM,Hj,Hy0,Hy1,Hy2,Hbl⟩:=hid12 hb1 hw1 hx1 hop hel hF hM hj hy0 hy1 hy2 hbl;clear hb1 hw1 hx1 hop hel hF hM hj hy0 hy1 hy2 hbl;clear x0 x1 x2 x3 x4 x5 xl;go_wp2_with (fail);(with_reducible refine(HF.out _).mono ?_);rintro e w2 ⟨gF,rfl,hge,hLk,hb2⟩;have hx2:=Hx1.out.below hb2 Hx1.out.lt;have hw2:=Hw1.out.trans (hb2.mono Hw1.out.size);have hI0:PatI w w2.heap.size gF l' 0 w2 (.slice none 0 0):=⟨hw2,hLk,⟨hw2.size,hLk.lt,Nat.le_refl _⟩,C7.nil _ _ _ _⟩;have hr0:(Am (l'.take 0)).1=0:=rfl;have u4:=hx2.cell 4;have ul:=hx2.lt;have hhi:w.heap.size<=w2.heap.size:=hw2.size;obtain⟨HI0,Hr0,Hx2,HLk,Hb2,Hw2,Hhi⟩:=hid7 hI0 hr0 hx2 hLk hb2 hw2 hhi;clear hI0 hr0 hx2 hLk hb2 hw2 hhi;clear y0 y4 yl hge;go_wp2_with (fail);go_loopw [6,24] (fun V i wr=> ∃q:Nat,i=.int .i64 q/\q<=l'.length/\Hid ((Am (l'.take q)).1=0)/\Hid (PatI w w2.heap.size gF l' q wr V)) (fun _ i _=>l'.length - (intOf i).toNat)
 case atStart=>exact⟨0,rfl,Nat.zero_le _,Hr0,HI0⟩
 case round=>
  obtain⟨q,rfl,hq,hr,hI⟩:=hrel;clear HI0 Hr0;have hq0:(0:Int)<=q:=by omega
  by_cases hlt:q<l'.length
  . obtain⟨x,hx⟩: ∃v,l'[q]? =some v:=⟨_,List.getElem?_eq_getElem hlt⟩;have hmem:=List.mem_of_getElem? hx;have hbe:=Eg hmem;obtain⟨i1,i2⟩:=Hel.out x hmem;have hpo:=Xa i2;have htk:l'.take (q+1)=l'.take q++ [x]:=by rw[List.take_add_one,hx];simp
    have hone:=Mz (v:=x) hr.out;obtain⟨ek,eb,en,et,el,eo⟩:=x;have hz:=hI.out.below.size;obtain⟨g,off,rfl,hg,ela,elc,eoa,eoc,hv,c0,c1,c2,c3,c4,c5⟩:=Am9 (Aau ((H.out.below hI.out.below).more hz)) hx;have hq1:(q:Int)<(l'.length:Int):=by omega
    have hIa:=hI.out.call (Aa wr (.cells #[.int .i64 ek,.bool eb,.int .i64 en,.string et,.slice ela el.length elc,.slice eoa eo.length eoc] 39));have hC:=Aec ek eb en et el eo ela elc eoa eoc gF (wr.alloc (.cells #[.int .i64 ek,.bool eb,.int .i64 en,.string et,.slice ela el.length elc,.slice eoa eo.length eoc] 39)) (hv.later (Aa _ _)) (by have:=Hbl.out;omega) hIa.fld;have hsz:wr.heap.size<=(wr.alloc (.cells #[.int .i64 ek,.bool eb,.int .i64 en,.string et,.slice ela el.length elc,.slice eoa eo.length eoc] 39)).heap.size:=by simp
    obtain⟨HIa,HC,Hv,Hx,Htk,Hone,Hsz,Hpo⟩:=hid8 hIa hC hv hx htk hone hsz hpo;clear hIa hC hv hx htk hone hsz hpo;clear hmem hbe i1 i2 hz;go_wp2_with (fail);(with_reducible refine(HC.out).mono ?_);rintro e w4 ⟨hb4,cs8,rfl,hn8,hf8⟩;rw[Hpo.out]at hf8 hn8 ⊢;have hI4:=HIa.out.call hb4;by_cases hc:(C4 (.mk ek eb en et el eo)).1=0;rotate_left
    . have tC:((C4 (.mk ek eb en et el eo)).1 != 0)=true:=by simpa using hc
      have hP:=N9.no (v:=.mk 5 b' n' t' l' o') (w:=w) (w':=w4.alloc (.cells Jp 67)) (c:=(C4 (.mk ek eb en et el eo)).1) (by
       have h1:=Hone.out;rw[if_pos hc,<-Htk.out]at h1;have h2:=M0 (l:=l'.take (q+1)) (r:=l'.drop (q+1)) (by rw[h1];exact hc);rw[List.take_append_drop,h1]at h2;rw[Hop.out,if_pos (by rw[h2];exact hc),h2]) hc (hI4.call (Aa _ _)).below
      obtain rfl:=hn8 hc;generalize (C4 (.mk ek eb en et el eo)).1=C at tC hP;obtain⟨HP,HI4⟩:=hid2 hP hI4;clear hP hI4;clear hc hf8 hb4;go_wp2;go_ret2;exact HP.out
    have hf9:=hf8 hc;obtain⟨z2,z3,z4,z5,xla,xlc,xoa,xoc,xll,xol,rfl⟩:=Agm hf9;rw[hc];have htk2:Je (Am (l'.take q)).2++ [dQ (C4 (.mk ek eb en et el eo)).2]=Je (Am (l'.take (q+1))).2:=by
     rw[Htk.out,Hone.out,if_neg (by omega)];simp[Je]
    have hr1:(Am (l'.take (q+1))).1=0:=by rw[Htk.out,Hone.out,if_neg (by omega)]
    generalize (C4 (.mk ek eb en et el eo)).2=OP at hf9 htk2 ⊢;obtain⟨aV,cV,rfl⟩:=hI.out.row.slice;have hrow:=hI.out.row;have hdl:(Je (Am (l'.take q)).2).length<=q:=by
     have:=My (l'.take q);rw[Kq];rw[List.length_take]at this;omega
    have hLo:(Je (Am (l'.take q)).2).length+1<=maxLen/\((Je (Am (l'.take q)).2).length+1)*112<=140737488355328:=⟨by simp only[maxLen];omega,by omega⟩;have hfe:Ap wr.heap.size ((w4.alloc (.cells #[.int .i64 OP.k,.string OP.key,.int .i64 z2,.bool z3,.int .i64 z4,.string z5,.slice xla xll xlc,.slice xoa xol xoc] 67)).alloc (.cells #[.int .i64 OP.k,.string OP.key,.int .i64 z2,.bool z3,.int .i64 z4,.string z5,.slice xla xll xlc,.slice xoa xol xoc] 67)) (dQ OP) [.int .i64 OP.k,.string OP.key,.int .i64 z2,.bool z3,.int .i64 z4,.string z5,.slice xla xll xlc,.slice xoa xol xoc]:=
     ((hf9.keep (b':=wr.heap.size) Hsz.out (Nat.le_refl _) (fun _ _ _=>rfl)).later (Aa _ _)).later (Aa _ _)
    have hb4':Below wr.heap.size wr w4:=(Aa wr (.cells #[.int .i64 ek,.bool eb,.int .i64 en,.string et,.slice ela el.length elc,.slice eoa eo.length eoc] 39)).trans (hb4.mono Hsz.out);have hbe:Below wr.heap.size wr ((w4.alloc (.cells #[.int .i64 OP.k,.string OP.key,.int .i64 z2,.bool z3,.int .i64 z4,.string z5,.slice xla xll xlc,.slice xoa xol xoc] 67)).alloc (.cells #[.int .i64 OP.k,.string OP.key,.int .i64 z2,.bool z3,.int .i64 z4,.string z5,.slice xla xll xlc,.slice xoa xol xoc] 67)):=(hb4'.alloc hb4'.size _).alloc (by have:=hb4'.size;simp;omega) _;have hI5:=(hI4.call (Aa w4 (.cells #[.int .i64 OP.k,.string OP.key,.int .i64 z2,.bool z3,.int .i64 z4,.string z5,.slice xla xll xlc,.slice xoa xol xoc] 67))).call (Aa (w4.alloc (.cells #[.int .i64 OP.k,.string OP.key,.int .i64 z2,.bool z3,.int .i64 z4,.string z5,.slice xla xll xlc,.slice xoa xol xoc] 67)) (.cells #[.int .i64 OP.k,.string OP.key,.int .i64 z2,.bool z3,.int .i64 z4,.string z5,.slice xla xll xlc,.slice xoa xol xoc] 67));have hgeb:=hI.out.ge.2.2;have hRd:=R8 (w4.alloc (.cells #[.int .i64 OP.k,.string OP.key,.int .i64 z2,.bool z3,.int .i64 z4,.string z5,.slice xla xll xlc,.slice xoa xol xoc] 67)) (.int .i64 OP.k) (.string OP.key) (.int .i64 z2) (.bool z3) (.int .i64 z4) (.string z5) (.slice xla xll xlc) (.slice xoa xol xoc);rw[World.size_alloc]at hRd;have HRd:=Lib.hid hRd;clear hRd;obtain⟨Hrow,HLo,Hfe,Hbe,HI5,Htk2,Hr1,HI4⟩:=hid8 hrow hLo hfe hbe hI5 htk2 hr1 hI4;clear hrow hLo hfe hbe hI5 htk2 hr1 hI4;clear hf8 hf9 hn8 hb4 hb4' hc;go_wp2_with (at_builtin;apply Shut.out);unfold Shut;refine Do (d:=dQ OP) (V:=.slice aV (Je (Am (l'.take q)).2).length cV) rfl (.tmp 37) (.tmp 39) 45 rfl Tryz.underlying45 Hj.out Hy0.out Hy1.out Hy2.out rfl (by omega) rfl Hrow.out hgeb Hbe.out (Tt _) Hfe.out rfl HRd.out HLo.out.1 HLo.out.2 ?_;intro V6 w6 hrow6 hg6 hat6;have HN:=Lib.hid (And.intro hrow6 hg6);clear hrow6 hg6 hat6;go_wp2;have hN:Hid (PatI w w2.heap.size gF l' (q+1) w6 V6):=by
     refine Lib.hid ?_;obtain⟨hrow6,hg6⟩:=HN.out;rw[Htk2.out]at hrow6;have hne:some gF≠(Value.slice aV (Je (Am (l'.take q)).2).length cV).ownBlock:=by
      intro e;have:=Hrow.out.base gF e.symm;have:=HI5.out.ge.2.1;omega
     exact⟨Jy HI5.out.below hg6 Hrow.out HI5.out.ge.1 HI5.out.below.size,HI5.out.fld.keep (hg6.block gF HI5.out.fld.lt hne),⟨HI5.out.ge.1,HI5.out.ge.2.1,Nat.le_trans HI5.out.ge.2.2 hg6.size⟩,hrow6⟩
    clear HN;go_roundw
    case rel=>exact⟨q+1,by go_num,by omega,Hr1,hN⟩
    case measure=>simp only[intOf];omega
  . obtain rfl:q=l'.length:=by omega
    rw[List.take_length]at hr;have hln:(Je (Am (l'.take l'.length)).2).length=(Am l').2.length:=by rw[List.take_length,Kq]
    obtain⟨aV,cV,rfl⟩:=hI.out.row.slice_n hln;obtain⟨a',c',e',_,hfr,_⟩:=hI.out.row.close;rw[hln]at e' hfr;rw[List.take_length]at hfr;obtain⟨rfl,rfl⟩:aV=a'/\cV=c':=by simpa using e'
    obtain⟨hbq,hiq⟩:=Jw Hel.out hr.out;have hMy:=L6 (Am l').2 aV (Am l').2.length cV wr (HT.out.below hI.out.below) hfr.now (by have:=Hbl.out;omega) hiq;have hbw:=hI.out.below;have hop:=Hop.out;rw[if_neg (show ¬(Am l').1≠0 from fun h=>h hr.out)]at hop;obtain⟨X,hX⟩: ∃X,Bm none (Am l').2=X:=⟨_,rfl⟩;rw[hX]at hMy hop;generalize (Am l').2=OPS at hMy hfr hop;obtain⟨HMy,Hfr,Hbw,Hop⟩:=hid4 hMy hfr hbw hop;clear hMy hfr hbw hop;clear hI hr hln hbq hiq hX e';go_wp2_with (fail);(with_reducible refine(HMy.out).mono ?_);rintro e w9 ⟨rfl,hb9⟩;have hwf:=Hbw.out.trans (hb9.mono Hbw.out.size);have hff:=Hfr.out.later hb9;by_cases hX0:X=0
    . subst hX0;have hop2:=Hop.out;rw[if_pos rfl]at hop2;obtain⟨Hop2,Hff,Hwf⟩:=hid3 hop2 hff hwf;clear hop2 hff hwf;clear hb9;go_wp2;go_ret2;refine⟨Hwf.out, ?_⟩;rw[Hop2.out,if_neg (fun h=>h rfl)];exact⟨aV,cV,rfl,Hff.out.keep (by have:=Hhi.out;omega) (Nat.le_refl _) (fun _ _ _=>rfl)⟩
    . have tX:(X != 0)=true:=by simpa using hX0
      have hop2:=Hop.out;rw[if_neg hX0]at hop2;have hP:=N9.no (v:=.mk 5 b' n' t' l' o') (c:=X) (by rw[hop2]) hX0 hwf;have HP:=Lib.hid hP;clear hP;clear hb9 hX0 hff hwf hop2;go_wp2;go_ret2;exact HP.out
set_option maxRecDepth 100000 in
theorem Yw (x:Val) (cs:List Value) (b X Q:Nat) (c0 c1 c2 c3 c4:Value) (W:World) (hT:Cf W) (hf:Ap b W (dV x) cs) (hbW:b<=W.heap.size) (hXb:X<b) (hX:An W X 47 #[c0,c1,c2,c3,c4]) (hQ:An W Q 111 #[.pointer (some ⟨X,0,none⟩)]) (hi:Ga x) (hb:x.bulk<=30000000):
 Calls Tryz.prog 59 #[.agg cs.toArray,.pointer (some ⟨Q,0,none⟩)] W fun e W'=>e=.returned (.int .i64 (Be x).1)/\W.grownBy W' (some X)/\((Be x).1=0-> ∃la lc,An W' X 47 #[c0,c1,c2,c3,.slice la (Be x).2.length lc]/\Ap b W' (.row 8 (Je (Be x).2)) [.slice la (Be x).2.length lc]):=by
 obtain⟨k,bb,n,t,l,o⟩:=x;obtain⟨la,lc,oa,oc,rfl⟩:=Ct hf;obtain⟨wi,hwi⟩: ∃wi,W.alloc (.cells #[.int .i64 k,.bool bb,.int .i64 n,.string t,.slice la l.length lc,.slice oa o.length oc] 39)=wi:=⟨_,rfl⟩;have hbi:Below W.heap.size W wi:=hwi▸Aa _ _;have hxi:An wi W.heap.size 39 #[.int .i64 k,.bool bb,.int .i64 n,.string t,.slice la l.length lc,.slice oa o.length oc]:=hwi▸An.new _ _ _;have hC:=Aj8 k bb n t l o la lc oa oc wi (hT.below hbi) ((hf.later hbi).now) hb hi;have hX1:=hX.below hbi hX.lt;have hQ1:=hQ.below hbi hQ.lt;obtain⟨x0,x1,x2,x3,x4,x5⟩:=Ao hxi;have xl:=hxi.lt;obtain⟨⟨C,OPS⟩,hRES⟩: ∃r,Be (.mk k bb n t l o)=r:=⟨_,rfl⟩;rw[hRES];obtain⟨HC,Hbi,Hxi,HX1,HQ1,Hf,HT,HRES⟩:=hid8 hC hbi hxi hX1 hQ1 hf hT hRES;clear hC hbi hxi hX1 hQ1 hf hT hRES;clear hX hQ;go_enter Tryz.func59,Tryz.ntmps59;go_upto_region 1 with(fail);clear hwi;go_wp2_with (fail);(with_reducible refine(HC.out).mono ?_);rintro e w2 ⟨hb2,hr⟩;have hX2:=HX1.out.below hb2 HX1.out.lt;have hQ2:=HQ1.out.below hb2 HQ1.out.lt;have q0:=hQ2.cell 0;have ql:=hQ2.lt;have y4:=hX2.cell 4;have fz:=hX2.frozen;have yl:=hX2.lt;have hw2:=Hbi.out.trans (hb2.mono Hbi.out.size);have hzi:=Hbi.out.size;rw[HRES.out]at hr;simp only at hr;by_cases hc:C=0
 . rw[if_neg (fun h=>h hc)]at hr;obtain⟨sa,sc,rfl,hfr⟩:=hr;subst hc;have hset:=hX2.set_ 4 (.slice sa OPS.length sc);have hgr:W.grownBy (w2.setCell ⟨X,4,none⟩ (.slice sa OPS.length sc)) (some X):=Gq (Ij _ hw2) _ (.inl rfl) _;have hff:Ap b (w2.setCell ⟨X,4,none⟩ (.slice sa OPS.length sc)) (.row 8 (Je OPS)) [.slice sa OPS.length sc]:=hfr.keep (by omega) (by simp[World.setCell]) fun p p1 _=>World.cell?_of_block (Below.heap_setCell _ _ _ _ (by intro e;simp at e;omega));obtain⟨Hset,Hgr,Hff,HX2,HQ2,Hw2,Hfr⟩:=hid7 hset hgr hff hX2 hQ2 hw2 hfr;clear hset hgr hff hX2 hQ2 hw2 hfr;clear hb2;go_wp2;go_ret;exact⟨rfl,Hgr.out,sa,sc,Hset.out,Hff.out⟩
 . rw[if_pos hc]at hr;obtain rfl:=hr;have hgr:W.grownBy (w2.setCell ⟨X,4,none⟩ (.slice none 0 0)) (some X):=Gq (Ij _ hw2) _ (.inl rfl) _;have hno: ∀P:Prop,C=0->P:=fun P h=>absurd h hc;obtain⟨Hgr,HX2,HQ2,Hw2,Hno⟩:=hid5 hgr hX2 hQ2 hw2 hno;clear hgr hX2 hQ2 hw2 hno;clear hb2 hc;go_wp2;go_ret;exact⟨rfl,Hgr.out,fun h=>Hno.out _ h⟩
end Go.Proofs.YtackmnbpfbaemaaGreatDoor
