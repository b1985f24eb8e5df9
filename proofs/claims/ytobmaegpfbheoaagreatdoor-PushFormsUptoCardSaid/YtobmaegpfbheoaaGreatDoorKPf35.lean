/- Parts: mutator.write for every mutator that may be. Condition: a bulk of at most 8 * 10^6. -/
import Derived.Test.YtobmaegpfbheoaaGreatDoorKPf32
set_option maxHeartbeats 20000000
set_option maxRecDepth 100000
namespace Go.Proofs.YtobmaegpfbheoaaGreatDoor
open Go Go.RowKit
theorem Pl (m:Mut) (y0 y1 y2 y3 y4 y5 y6 y7 y8 y9 y10 y11 y12 y13 y14 y15 y16 y17 y18:Value) (A g:Nat) (w:World) (hA:w.cell? ⟨A,0,none⟩=some (.map (some g))) (hlt:A<w.heap.size)
 (hC: ∀W',Below w.heap.size w W'->Calls Tryz.prog 36 #[.map (some g),.agg #[y0,y1,y2,y3,y4,y5,y6,y7,y8,y9,y10,y11,y12,y13,y14,y15,y16,y17,y18]] W' (E1 m W')):
 Calls Tryz.prog 82 #[.agg #[y0,y1,y2,y3,y4,y5,y6,y7,y8,y9,y10,y11,y12,y13,y14,y15,y16,y17,y18],.pointer (some ⟨A,0,none⟩)] w (E1 m w):=by
 have h0:Below w.heap.size w ((w.alloc (.cells #[y0,y1,y2,y3,y4,y5,y6,y7,y8,y9,y10,y11,y12,y13,y14,y15,y16,y17,y18] 45)).alloc (.cells Af 42)):=((Below.refl _ _).alloc (Nat.le_refl _) _).alloc (by simp) _;have Hx0:Hid (Aj ((w.alloc (.cells #[y0,y1,y2,y3,y4,y5,y6,y7,y8,y9,y10,y11,y12,y13,y14,y15,y16,y17,y18] 45)).alloc (.cells Af 42)) w.heap.size 45 #[y0,y1,y2,y3,y4,y5,y6,y7,y8,y9,y10,y11,y12,y13,y14,y15,y16,y17,y18]):=(Aj.new _ _ _).alloc _;have hr0:Aj ((w.alloc (.cells #[y0,y1,y2,y3,y4,y5,y6,y7,y8,y9,y10,y11,y12,y13,y14,y15,y16,y17,y18] 45)).alloc (.cells Af 42)) (w.heap.size+1) 42 Af:=by
  have:=Aj.new (w.alloc (.cells #[y0,y1,y2,y3,y4,y5,y6,y7,y8,y9,y10,y11,y12,y13,y14,y15,y16,y17,y18] 45)) 42 Af
  rwa [World.size_alloc]at this
 have Hz2:=qz (show w.heap.size+2<=((w.alloc (.cells #[y0,y1,y2,y3,y4,y5,y6,y7,y8,y9,y10,y11,y12,y13,y14,y15,y16,y17,y18] 45)).alloc (.cells Af 42)).heap.size from by simp);have hA0:=(h0.cell (p:=⟨A,0,none⟩) hlt).trans hA;obtain⟨H0,Hr0,HC⟩:=hid3 h0 hr0 hC;clear h0 hr0 hC;go_enter Tryz.func82,Tryz.ntmps82;go_upto_region 1 with(fail)
 iterate 5 go_step
 refine Ah 45 (.tmp 2) rfl w.heap.size _ Hx0.out rfl _ Tryz.underlying45 rfl (by kernel_rfl) ?_;go_wp2_with (fail);(with_reducible refine(HC.out _ H0.out).mono ?_);rintro e w6 ⟨hb6,oa5,oc5,rfl,hf6⟩;have Hw6:=qz (H0.out.trans (hb6.mono H0.out.size));have hr6:=Hr0.out.below hb6 Hr0.out.lt;obtain⟨c0,c1,c2,c3,c4,c5⟩:=B0 hr6;have fz:=hr6.frozen;have hlt6:=hr6.lt;obtain⟨Hb6,Hr6,Hf6⟩:=hid3 hb6 hr6 hf6;clear hb6 hr6 hf6;clear hA0 hA;dsimp only
 repeat go_step
 have hxf:=((((((Hr6.out.set_ 0 (.int .i64 6)).set_ 1 (.bool false)).set_ 2 (.int .i64 0)).set_ 3 (.string ⟨#[]⟩)).set_ 4 (.slice none 0 0)).set_ 5 (.slice oa5 2 oc5));have hbf:=Ap [.int .i64 6,.bool false,.int .i64 0,.string ⟨#[]⟩,.slice none 0 0,.slice oa5 2 oc5] Hw6.out (Nat.le_succ w.heap.size) (o:=0);have hff:Ax w.heap.size (Ay w6 (w.heap.size+1) 0 [.int .i64 6,.bool false,.int .i64 0,.string ⟨#[]⟩,.slice none 0 0,.slice oa5 2 oc5]) (dV (C5 m)) [.int .i64 6,.bool false,.int .i64 0,.string ⟨#[]⟩,.slice none 0 0,.slice oa5 2 oc5]:=
  Hf6.out.keep (b':=w.heap.size) (Nat.le_trans (by omega) Hz2.out) (by rw[Aw];exact Nat.le_refl _) (fun p p1 _=>World.cell?_of_block (Ak _ _ _ _ _ (by have:=Hz2.out;omega)))
 exact bodyPost_ret (Au rfl rfl hxf) rfl ⟨hbf,oa5,oc5,rfl,hff⟩
theorem Dc {m:Mut} {O:List (ByteArray×Val)} {nm:ByteArray} (e:C5 m=ov [(Am,ov O),(An,tv nm)]):J6 O nm=E1 m:=by
 unfold J6 E1;rw[e]
def Abv (m:Mut):Prop:= ∀(cs:List Value) (d:Int) (g A R W:Nat) (F:Nat->Nat) (w:World),Shp w g A R W F->C0 w->Ag w w.heap.size (dM m) cs->Cg m<=8000000->D1 m d=0->
 Calls Tryz.prog 36 #[.map (some g),.agg cs.toArray] w (E1 m w)
theorem Ua: ∀m,Abv m:=by
 refine Mut.ind ?_;intro k key dst n had was has v l IH cs d g A R W F w hS hN hM hb hm;obtain⟨k1,b1,n1,t1,l1,o1⟩:=was;obtain⟨k2,b2,n2,t2,l2,o2⟩:=v;obtain⟨la1,lc1,oa1,oc1,la2,lc2,oa2,oc2,a,c,rfl,hv1,hv2,hl⟩:=Bf hM;have hls:=E3 l;simp only[Cg]at hb;obtain⟨h1,_,_,_,_,h6⟩:=Ju hm;obtain⟨k1',k7'⟩:=K8 h1;have hkk:k=1\/k=2\/k=3\/k=4\/k=5\/k=6\/k=7:=by omega
 have hv1': ∀W',Below w.heap.size w W'->Ab W' W'.heap.size (.mk k1 b1 n1 t1 l1 o1) [.int .i64 k1,.bool b1,.int .i64 n1,.string t1,.slice la1 l1.length lc1,.slice oa1 o1.length oc1]:=fun W' hW=>Ab.more hW.size _ _ (hv1.below hW);have hv2': ∀W',Below w.heap.size w W'->Ab W' W'.heap.size (.mk k2 b2 n2 t2 l2 o2) [.int .i64 k2,.bool b2,.int .i64 n2,.string t2,.slice la2 l2.length lc2,.slice oa2 o2.length oc2]:=fun W' hW=>Ab.more hW.size _ _ (hv2.below hW);rcases hkk with rfl|rfl|rfl|rfl|rfl|rfl|rfl
 . rw[<-Dc (O:= [(A1,tv key),(Fj,.mk k2 b2 n2 t2 l2 o2)]) (nm:=Ls) (by simp[C5,Dt])];exact Aa5 _ _ _ _ _ _ _ _ _ _ _ _ _ _ _ _ _ _ _ g A R W F w hS hN (by simp) fun W' hW=>Oo _ key _ _ _ _ _ _ _ _ _ _ k2 b2 n2 t2 l2 o2 la2 oa2 lc2 oc2 _ W' (hv2' W' hW) (by omega)
 . rw[<-Dc (O:= [(A1,tv key)]) (nm:=Lq) (by simp[C5,Dt])];exact Aa6 _ _ _ _ _ _ _ _ _ _ _ _ _ _ _ _ _ _ _ g A R W F w hS hN (by simp) fun W' _=>Wn _ key _ _ _ _ _ _ _ _ _ _ _ _ _ _ _ _ _ W'
 . rw[<-Dc (O:= [(O0,iv n),(A1,tv key)]) (nm:=Lr) (by simp[C5,Dt])];exact Aa7 _ _ _ _ _ _ _ _ _ _ _ _ _ _ _ _ _ _ _ g A R W F w hS hN (by simp) fun W' _=>Wo _ key _ n _ _ _ _ _ _ _ _ _ _ _ _ _ _ _ W'
 . cases has with
   |false=>
    rw[<-Dc (O:=Ba key had (.mk k1 b1 n1 t1 l1 o1)) (nm:=Ko) (by simp[C5,Dt])];exact Xg _ _ _ _ _ _ _ _ _ _ _ _ _ _ _ _ _ _ _ g A R W F w hS hN (by have:=Gi key had (.mk k1 b1 n1 t1 l1 o1);omega) fun W' hW=>Aa4 _ key _ _ had k1 b1 n1 t1 l1 o1 la1 oa1 lc1 oc1 _ _ _ _ _ _ _ W' (hv1' W' hW) (by omega)
   |true=>
    rw[<-Dc (O:=(Ma,.mk k2 b2 n2 t2 l2 o2)::Ba key had (.mk k1 b1 n1 t1 l1 o1)) (nm:=Ko) (by simp[C5,Dt])];exact Xg _ _ _ _ _ _ _ _ _ _ _ _ _ _ _ _ _ _ _ g A R W F w hS hN (by have:=Gi key had (.mk k1 b1 n1 t1 l1 o1);simp;omega) fun W' hW=>Z9 _ key _ _ had k1 b1 n1 t1 l1 o1 la1 oa1 lc1 oc1 k2 b2 n2 t2 l2 o2 la2 oa2 lc2 oc2 _ W' (hv1' W' hW) (by omega) (hv2' W' hW) (by omega)
 . rw[<-Dc (O:= [(A1,tv key),(Fj,.mk k2 b2 n2 t2 l2 o2)]) (nm:=Lp) (by simp[C5,Dt])];exact Aa8 _ _ _ _ _ _ _ _ _ _ _ _ _ _ _ _ _ _ _ g A R W F w hS hN (by simp) fun W' hW=>Oo _ key _ _ _ _ _ _ _ _ _ _ k2 b2 n2 t2 l2 o2 la2 oa2 lc2 oc2 _ W' (hv2' W' hW) (by omega)
 . rw[<-Dc (O:= [(D0,tv key),(Ot,tv dst)]) (nm:=Gn) (by simp[C5,Dt])];exact Aa9 _ _ _ _ _ _ _ _ _ _ _ _ _ _ _ _ _ _ _ g A R W F w hS hN (by simp) fun W' _=>T8 _ key dst _ _ _ _ _ _ _ _ _ _ _ _ _ _ _ _ W'
 . rw[<-Dc (O:=(Lk,lv (A8 l))::(if key.toList.isEmpty then []else [(Oq,ov (Ba key had (.mk k1 b1 n1 t1 l1 o1)))])) (nm:=Lt) (by simp[C5,Dt])];refine Aba _ _ _ _ _ _ _ _ _ _ _ _ _ _ _ _ _ _ _ g A R W F w hS hN (by split<;>simp) fun W' hW=>Yk _ key _ _ had k1 b1 n1 t1 l1 o1 la1 oa1 lc1 oc1 _ _ _ _ _ _ _ l a c A W W' (hv1' W' hW) (by omega) ((hl.below hW).more hW.size) (by omega)
    (((hS.below hW).wr).cell 0) ((hS.below hW).wr.lt) fun x hx W2 cs2 hW2 hH2=> ?_
   have hbx:=E4 hx;have hS2:=(hS.below hW).below hW2;have hN2:=(hN.below hW).below hW2;have hmx:=Lm h6 x hx;have hIH:=IH x hx;obtain⟨k',key',dst',n',had',⟨k1',b1',n1',t1',l1',o1'⟩,has',⟨k2',b2',n2',t2',l2',o2'⟩,l'⟩:=x;obtain⟨la1',lc1',oa1',oc1',la2',lc2',oa2',oc2',a',c',rfl,_,_,_⟩:=Bf hH2;exact Pl _ _ _ _ _ _ _ _ _ _ _ _ _ _ _ _ _ _ _ _ A g W2 (hS2.all_.cell 0) hS2.all_.lt fun W3 hW3=>hIH _ (d+1) g A R W F W3 (hS2.below hW3) (hN2.below hW3) ((hH2.below hW3).more hW3.size) (by omega) hmx
end Go.Proofs.YtobmaegpfbheoaaGreatDoor
