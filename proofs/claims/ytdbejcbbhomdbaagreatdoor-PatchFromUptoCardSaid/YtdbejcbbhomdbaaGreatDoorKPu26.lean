/- Parts: slices.Backward over pointers: an iterator. Condition: at most 10^6. -/
import Derived.Test.YtdbejcbbhomdbaaGreatDoorKPu21
set_option maxHeartbeats 20000000
set_option maxRecDepth 100000
namespace Go.Proofs.YtdbejcbbhomdbaaGreatDoor
open Go Go.RowKit
abbrev Zq:TypeId:=193
theorem Gs {fn:Func} {t u:Tmp} {tmps:Array Value} {W:World} {R:Nat} {a0 a1 a2 a3:Value} (h:fn.results= #[.cell t Zq,.tmp u]) (hp:tmps.getD t undef=.pointer (some ⟨R,0,none⟩)) (hx:Ao W R Zq #[a0,a1,a2,a3]):
 (results fn tmps).run Tryz.prog W=.ok (.tuple #[.agg #[a0,a1,a2,a3],tmps.getD u undef]) W:=by
 have c0:=hx.cell 0;have c1:=hx.cell 1;have c2:=hx.cell 2;have c3:=hx.cell 3;clear hx;have hp':tmps[t]?.getD undef=.pointer (some ⟨R,0,none⟩):=by simpa using hp
 simp[results,h,hp',go_sem,c0,c1,c2,c3]
theorem Ro (C g off n c:Nat) (X:Value) (o:Int) (key:ByteArray) (w:World) (hx:Ao w C Fy #[.slice (some ⟨g,off,none⟩) (n+1) c,X,.int .i64 o]) (s0:w.cell? ⟨g,off,none⟩=some (.string key)):
 Calls Tryz.prog 135 #[.pointer (some ⟨C,0,none⟩)] w fun e w'=>e=.returned (.tuple #[.agg #[.pointer none,.int .i64 (-1),.string key,.string key],.bool true])/\Below w.heap.size w w':=by
 have c0:=hx.cell 0;have lx:=hx.lt;have lg:g<w.heap.size:=World.block_lt_of_cell? w _ s0;have y1:(0:Int)<((n+1:Nat):Int):=by omega
 clear hx;go_enter Tryz.func135,Tryz.ntmps135;go_wp2;exact bodyPost_ret (Gs rfl rfl (Ao.new _ _ _)) rfl ⟨rfl,Ac _ _⟩
theorem Rq (C c c':Nat) (a a':Option Addr) (o:Int) (w:World) (hx:Ao w C Fy #[.slice a 0 c,.slice a' 0 c',.int .i64 o]):
 Calls Tryz.prog 135 #[.pointer (some ⟨C,0,none⟩)] w fun e w'=>e=.returned (.tuple #[.agg #[.pointer none,.int .i64 0,.string ⟨#[]⟩,.string ⟨#[]⟩],.bool false])/\Below w.heap.size w w':=by
 have c0:=hx.cell 0;have c1:=hx.cell 1;have lx:=hx.lt;clear hx;go_enter Tryz.func135,Tryz.ntmps135;go_wp2;exact bodyPost_ret (Gs rfl rfl (Ao.new _ _ _)) rfl ⟨rfl,Ac _ _⟩
theorem Rp (C c c' g m:Nat) (a:Option Addr) (o:Int) (n:Nd) (b:Nat) (w:World) (hx:Ao w C Fy #[.slice a 0 c,.slice (some ⟨g,0,none⟩) (m+1) c',.int .i64 o]) (hm:m<=1000000) (s0:w.cell? ⟨g,m,none⟩=some (.pointer (some ⟨b,0,none⟩))) (hn:Bi w w.heap.size n b):
 Calls Tryz.prog 135 #[.pointer (some ⟨C,0,none⟩)] w fun e w'=>e=.returned (.tuple #[.agg #[.pointer (some ⟨b,0,none⟩),.int .i64 (Iy n),.string (Al n),.string (Bn n)],.bool true])/\Below w.heap.size w w':=by
 have c0:=hx.cell 0;have c1:=hx.cell 1;have lx:=hx.lt;have lg:g<w.heap.size:=World.block_lt_of_cell? w _ s0;have hb1:=Ac w (.cells #[.pointer none,.int .i64 0,.string ⟨#[]⟩,.string ⟨#[]⟩] Zq);obtain⟨w1,hw1⟩: ∃w1,w.alloc (.cells #[.pointer none,.int .i64 0,.string ⟨#[]⟩,.string ⟨#[]⟩] Zq)=w1:=⟨_,rfl⟩;have hR1:Ao w1 w.heap.size Zq #[.pointer none,.int .i64 0,.string ⟨#[]⟩,.string ⟨#[]⟩]:=hw1▸Ao.new _ _ _;rw[hw1]at hb1;obtain⟨M,hM⟩: ∃M,m+1=M:=⟨_,rfl⟩;have y1:IntKind.i64.wrap ((M:Int) - 1)=(m:Int):=by
  rw[show(M:Int) - 1=(m:Int)from by omega];exact IntWalk.i64_in _ (by omega)
 have y2:(m:Int)<(M:Int):=by omega
 have y3:(0:Int)<=(m:Int):=by omega
 have y4:(0:Int)<(M:Int):=by omega
 have y5:m<M:=by omega
 have y6:0<M:=by omega
 rw[hM]at c1;have d0:=(hb1.cell (p:=⟨C,0,none⟩) lx).trans c0;have d1:=(hb1.cell (p:=⟨C,1,none⟩) lx).trans c1;have e0:=(hb1.cell (p:=⟨g,m,none⟩) lg).trans s0;have l1:C<w1.heap.size:=by have:=hb1.size;omega
 have hD:=hb1.trans ((Below.drew (Below.refl _ w1)).mono hb1.size);have hnD:=hn.below hD;have HH:=qz (C4 hnD);have HF:=qz (J9 hnD);have HL:=qz (R9 hnD);have HRD:=qz hR1.drew;have HD:=qz hD;clear hD;clear hx s0 c0 c1 hn hnD hR1 hM;go_enter Tryz.func135,Tryz.ntmps135;go_upto_region 5 with(fail);refine wp_region_held_drew (S:=fun Y:World=>Y.cell? ⟨C,1,none⟩=some (.slice (some ⟨g,0,none⟩) M c')/\Y.cell? ⟨g,m,none⟩=some (.pointer (some ⟨b,0,none⟩))) (by kernel_rfl) ⟨d1,e0⟩ (fun hHeld=> ?_);refine tkH 0 hHeld ?_;refine tkH 1 hHeld ?_;refine tkH 2 hHeld ?_;refine tkH 3 hHeld ?_;refine tkH 4 hHeld ?_;refine tkH 5 hHeld ?_;refine tkH 6 hHeld ?_;refine tkH 7 hHeld ?_;refine tkH 8 hHeld ?_;refine tkH 9 hHeld ?_;refine tkH 10 hHeld ?_;refine tkH 11 hHeld ?_;refine tkH 12 hHeld ?_;refine wpAnyH_done (by kernel_rfl) ?_ _;clear hHeld d0 d1 e0;generalize w1.drew=wd at HH HF HL HRD HD ⊢;clear hw1 hb1 l1;have fz:=HRD.out.frozen;have lr:=HRD.out.lt;have r0:=HRD.out.cell 0;have r1:=HRD.out.cell 1;have r2:=HRD.out.cell 2;have r3:=HRD.out.cell 3;go_wp2_with (fail);(with_reducible refine(HH.out).mono ?_);rintro e w2 ⟨rfl,rfl⟩;go_wp2_with (fail);(with_reducible refine(HF.out).mono ?_);rintro e w2 ⟨rfl,rfl⟩;go_wp2_with (fail);(with_reducible refine(HL.out).mono ?_);rintro e w2 ⟨rfl,rfl⟩;have Hxf:=qz ((((HRD.out.set_ 0 (.pointer (some ⟨b,0,none⟩))).set_ 1 (.int .i64 (Iy n))).set_ 2 (.string (Al n))).set_ 3 (.string (Bn n)));have HBf:=qz (Bf [.pointer (some ⟨b,0,none⟩),.int .i64 (Iy n),.string (Al n),.string (Bn n)] HD.out (Nat.le_refl _) (o:=0));go_wp2;exact bodyPost_ret (Gs rfl rfl Hxf.out) rfl ⟨rfl,HBf.out⟩
def Om (bs:List Nat) (w:World) (e:Ending) (w':World):Prop:=
 Below w.heap.size w w'/\ ∃C V,e=.returned (.pointer (some ⟨C,0,none⟩))/\w.heap.size<=C/\Ao w' C Fy #[.slice none 0 0,V,.int .i64 0]/\An (fun _=>False) (C+1) 43 1 w' (Av bs) V
theorem Lo (p:Option Nat) (w:World):Calls Tryz.prog 91 #[.agg #[.pointer (p.map fun b=>⟨b,0,none⟩)]] w (Om p.toList w):=by
 obtain⟨PO,hPO⟩: ∃P:Ending->World->Prop,Om p.toList w=P:=⟨_,rfl⟩;rw[hPO];obtain⟨Q,hQ⟩: ∃Q:Option Addr,(p.map fun b=>(⟨b,0,none⟩:Addr))=Q:=⟨_,rfl⟩;rw[hQ];obtain⟨w2,hw2⟩: ∃w2,(w.alloc (.cells #[.pointer Q] 45)).alloc (.cells #[.slice none 0 0,.slice none 0 0,.int .i64 0] Fy)=w2:=⟨_,rfl⟩;have Hb2:Hid (Below w.heap.size w w2):=hw2▸(Ac w (.cells #[.pointer Q] 45)).alloc (by simp) _;have Hx2:Hid (Ao w2 (w.heap.size+1) Fy #[.slice none 0 0,.slice none 0 0,.int .i64 0]):=hw2▸Ao.new1 _ _ _ _;have ht2:Ao w2 w.heap.size 45 #[.pointer Q]:=hw2▸(Ao.new _ _ _).alloc _;have HRt:=qz (Ub Q w2);have c0:=ht2.cell 0;have l0:=ht2.lt;obtain⟨j0,hj,hy0,hy1,hy2⟩:=info_parts Kd;obtain⟨HPO,Hj,Hy0,Hy1,Hy2⟩:=hid5 hPO hj hy0 hy1 hy2;clear hPO hj hy0 hy1 hy2;clear ht2;go_enter Tryz.func91,Tryz.ntmps91;go_wp2_with (fail);(with_reducible refine(HRt.out).mono ?_);rintro e w3 ⟨rfl,hb3⟩;have hw3:=Hb2.out.trans (hb3.mono Hb2.out.size);have hx3:=Hx2.out.below hb3 Hx2.out.lt;clear c0 l0 hw2 hb3
 cases p with
 |none=>
  cases hQ
  have HP:Hid (PO (.returned (.pointer (some ⟨w.heap.size+1,0,none⟩))) w3):=by
   show PO _ _;rw[<-HPO.out];exact⟨hw3,_,_,rfl,by omega,hx3,by simpa[Av]using An.nil _ _ _ _ _⟩
  clear hw3 hx3;go_wp2;exact HP.out
 |some b=>
  cases hQ
  have d1:=hx3.cell 1;have fz:=hx3.frozen;have lx:=hx3.lt;have Hx4:=qz (hx3.alloc (.cells #[.pointer (some ⟨b,0,none⟩)] 43));have Hw4:=qz (hw3.alloc hw3.size (.cells #[.pointer (some ⟨b,0,none⟩)] 43));have Hrd:=qz (B5 (Ao.new w3 43 #[.pointer (some ⟨b,0,none⟩)]));have Hlz:=qz (show w.heap.size+1+1<=(w3.alloc (.cells #[.pointer (some ⟨b,0,none⟩)] 43)).heap.size from by simp;omega);clear hx3 hw3;go_wp2_with (at_builtin;apply Shut.out);unfold Shut;refine B7 rfl (.tmp 15) (.tmp 17) 144 rfl Tryz.underlying144 Hj.out Hy0.out Hy1.out Hy2.out rfl (by omega) rfl (An.nil (fun _=>False) (w.heap.size+1+1) 43 1 _) Hlz.out rfl (Ep _ _ b) rfl Hrd.out (by simp[maxLen]) (by simp) ?_;intro V6 w6 hr6 hg6 hat6;have hr6':An (fun _=>False) (w.heap.size+1+1) 43 1 w6 (Av [b]) V6:=hr6;obtain⟨a6,c6,rfl⟩:=hr6'.slice;have hx6:=Hx4.out.grown hg6 (by intro e;cases e);have hw6:=Hw4.out.grown hg6 Hw4.out.size (fun k hk=>by cases hk);have e1:=hx6.cell 1;have fz:=hx6.frozen;have lx:=hx6.lt;have hxf:=hx6.set_ 1 (.slice a6 (Av [b]).length c6);have HP:Hid (PO (.returned (.pointer (some ⟨w.heap.size+1,0,none⟩))) (w6.setCell ⟨w.heap.size+1,1,none⟩ (.slice a6 (Av [b]).length c6))):=by
   show PO _ _;rw[<-HPO.out];exact⟨hw6.setCell (p:=⟨w.heap.size+1,1,none⟩) (by simp) _,_,_,rfl,by omega,hxf,hr6'.keepP (by simp[World.setCell]) fun i e _=>Below.heap_setCell _ _ _ _ (by have:=(hr6'.base i e).1;simp;omega)⟩
  clear hr6 hg6 hat6 hr6' hx6 hw6 hxf Hx4 Hw4 Hrd Hlz d1;go_wp2;exact HP.out
theorem An.keepN {S0 T0:Nat->Prop} {b b':Nat} {t:TypeId} {s:Nat} {wr w':World} {l:List D} {V:Value} (h:An S0 b t s wr l V) (hb:b'<=b) (hST: ∀i,S0 i->T0 i) (hs:wr.heap.size<=w'.heap.size) (hk: ∀i,(S0 i\/V.ownBlock=some i)->i<wr.heap.size->w'.heap[i]? =wr.heap[i]?):An T0 b' t s w' l V:=by
 obtain⟨ns,h1,h2,h3⟩:=h;refine⟨ns,⟨h1.1, ?_⟩,h2,fun w'' k1 k2=>Ah.more (h3 w'' (by omega) (fun p p1 p2=>(k2 p ⟨hST _ p1.1,p1.2⟩ (by omega)).trans (World.cell?_of_block (hk p.block (.inl p1.1) p2)))) hs⟩;rcases h1.2 with⟨rfl,h0⟩|⟨g,cap,cur,rfl,hbg,hg,h5⟩
 . exact .inl ⟨rfl,h0⟩
 . exact .inr ⟨g,cap,cur,rfl,by omega,(hk g (.inr rfl) (Array.getElem?_eq_some_iff.1 hg).1).trans hg,h5⟩
theorem Sd (S:Nat->Prop) (C g m c ec:Nat) (ea:Option Addr) (o:Int) (es:List A0) (b:Nat) (w:World) (hx:Ao w C Fy #[.slice ea 0 ec,.slice (some ⟨g,0,none⟩) (m+1) c,.int .i64 o]) (hc:m+1<=c) (hm:m<=1000000) (ho:0<=o/\o<=1000000000)
 (s0:w.cell? ⟨g,m,none⟩=some (.pointer (some ⟨b,0,none⟩))) (hn:Bl S w (.leaf es) b) (hS: ¬S C) (h0:0<es.length) (hb:Af es<=100000000):
 Calls Tryz.prog 137 #[.pointer (some ⟨C,0,none⟩)] w fun e w'=>e=.returned (.tuple #[])/\KB (fun i=>i=C) w w'/\ ∃g2,w.heap.size<=g2/\Ao w' C Fy #[.slice (some ⟨g2,0,none⟩) es.length es.length,.slice (some ⟨g,0,none⟩) m c,.int .i64 (o+1)]/\An (fun i=>w.heap.size<=i) w.heap.size 84 7 w' (dO es) (.slice (some ⟨g2,0,none⟩) es.length es.length):=by
 obtain⟨PO,hPO⟩: ∃P:Ending->World->Prop,(fun e w'=>e=.returned (.tuple #[])/\KB (fun i=>i=C) w w'/\ ∃g2,w.heap.size<=g2/\Ao w' C Fy #[.slice (some ⟨g2,0,none⟩) es.length es.length,.slice (some ⟨g,0,none⟩) m c,.int .i64 (o+1)]/\An (fun i=>w.heap.size<=i) w.heap.size 84 7 w' (dO es) (.slice (some ⟨g2,0,none⟩) es.length es.length))=P:=⟨_,rfl⟩;rw[hPO];have lx:=hx.lt;have lg:g<w.heap.size:=World.block_lt_of_cell? w _ s0;have hb1:=Ac w (.cells #[.pointer (some ⟨C,0,none⟩)] 149);obtain⟨w1,hw1⟩: ∃w1,w.alloc (.cells #[.pointer (some ⟨C,0,none⟩)] 149)=w1:=⟨_,rfl⟩;have hR1:Ao w1 w.heap.size 149 #[.pointer (some ⟨C,0,none⟩)]:=hw1▸Ao.new _ _ _;rw[hw1]at hb1;have hx1:=hx.below hb1 lx;have hn1:=(hn.below hb1);obtain⟨M,hM⟩: ∃M,m+1=M:=⟨_,rfl⟩;have y1:IntKind.i64.wrap ((M:Int) - 1)=(m:Int):=by
  rw[show(M:Int) - 1=(m:Int)from by omega];exact IntWalk.i64_in _ (by omega)
 have y2:(m:Int)<(M:Int):=by omega
 have y3:(0:Int)<=(m:Int):=by omega
 have y5:m<M:=by omega
 have d1:w1.cell? ⟨C,1,none⟩=some (.slice (some ⟨g,0,none⟩) M c):=hM▸hx1.cell 1;have e0:=(hb1.cell (p:=⟨g,m,none⟩) lg).trans s0;have b0:=hR1.cell 0;have y6:IntKind.i64.wrap (o+1)=o+1:=IntWalk.i64_in _ (by omega);have Hsk:=qz (Js C g m c (.slice ea 0 ec) o w1.drew hx1.drew hc hm);have HDx:=qz hx1.drew;have HDn:=qz (hn1.below (Below.drew (Below.refl w1.heap.size w1)));have HDb:=qz hR1.drew;have HD:=qz (hb1.trans ((Below.drew (Below.refl _ w1)).mono hb1.size));have HPO:=qz hPO;clear hPO;clear hx s0 hn hx1 hn1 hR1 hM;go_enter Tryz.func137,Tryz.ntmps137;go_upto_region 1 with(fail);refine wp_region_held_drew (S:=fun Y:World=>Y.cell? ⟨w.heap.size,0,none⟩=some (.pointer (some ⟨C,0,none⟩))/\Y.cell? ⟨C,1,none⟩=some (.slice (some ⟨g,0,none⟩) M c)/\Y.cell? ⟨g,m,none⟩=some (.pointer (some ⟨b,0,none⟩))) (by kernel_rfl) ⟨b0,d1,e0⟩ (fun hHeld=> ?_);refine tkH 0 hHeld ?_;refine tkH 1 hHeld ?_;refine tkH 2 hHeld ?_;refine tkH 3 hHeld ?_;refine tkH 4 hHeld ?_;refine tkH 5 hHeld ?_;refine tkH 6 hHeld ?_;refine tkH 7 hHeld ?_;refine tkH 8 hHeld ?_;refine tkH 9 hHeld ?_;refine tkH 10 hHeld ?_;refine tkH 11 hHeld ?_;refine tkH 12 hHeld ?_;refine wpAnyH_done (by kernel_rfl) ?_ _;clear hHeld d1 e0 b0;generalize w1.drew=wd at Hsk HDx HDn HDb HD ⊢;clear hw1 hb1;have b0:=HDb.out.cell 0;go_wp2_with (fail);(with_reducible refine(Hsk.out).mono ?_);rintro e w2 ⟨rfl,rfl⟩;have hx2:=(HDx.out.set_ 1 (.slice (some ⟨g,0,none⟩) m c)).drew;have hn2:=(HDn.out.later (w':=wd.setCell ⟨C,1,none⟩ (.slice (some ⟨g,0,none⟩) m c)) (by simp[World.setCell]) fun i i1 _=>Below.heap_setCell _ _ _ _ (fun e=>hS (by have e2:i=C:=e;rw[<-e2];exact i1))).below (Below.drew (Below.refl _ _));have hb2:=(HDb.out.far (p:=⟨C,1,none⟩) (by simp;omega) (.slice (some ⟨g,0,none⟩) m c)).drew;have hk2:KB (fun i=>i=C) w (wd.setCell ⟨C,1,none⟩ (.slice (some ⟨g,0,none⟩) m c)).drew:=((KB.of_below (S:=fun i=>i=C) HD.out).trans (KB.set (S:=fun i=>i=C) wd ⟨C,1,none⟩ rfl _) fun _ _ h=>h).trans (KB.of_below (S:=fun i=>i=C) (Below.drew (Below.refl _ _))) fun _ _ h=>h;generalize (wd.setCell ⟨C,1,none⟩ (.slice (some ⟨g,0,none⟩) m c)).drew=w2 at hx2 hn2 hb2 hk2 ⊢;clear Hsk HDx HDn HDb HD b0;have b0:=hb2.cell 0;have c2:=hx2.cell 2;have fz:=hx2.frozen;have lx2:=hx2.lt;have lb2:=hb2.lt;have hx3:=hx2.set_ 2 (.int .i64 (o+1));have Hn3:=qz (hn2.later (w':=w2.setCell ⟨C,2,none⟩ (.int .i64 (o+1))) (by simp[World.setCell]) fun i i1 _=>Below.heap_setCell _ _ _ _ (fun e=>hS (by have e2:i=C:=e;rw[<-e2];exact i1)));have Hb3:=qz (hb2.far (p:=⟨C,2,none⟩) (by simp;omega) (.int .i64 (o+1)));have Hk3:=qz (hk2.trans (KB.set (S:=fun i=>i=C) w2 ⟨C,2,none⟩ rfl (.int .i64 (o+1))) fun _ _ h=>h);have Hx3:=qz hx3;clear hx3;clear hx2 hn2 hb2 hk2;go_upto_region 4 with(fail);generalize w2.setCell ⟨C,2,none⟩ (.int .i64 (o+1))=w3 at Hx3 Hn3 Hb3 Hk3 ⊢;clear b0 c2 fz lx2 lb2;have hHt:=C4 Hn3.out.now;rw[show Iy (.leaf es)=0 from by simp[Iy]]at hHt;have HEn:=qz (H6 (Hn3.out.below (Below.drew (Below.refl _ w3))).now h0 hb);have HHt:=qz hHt;clear hHt;go_wp2_with (fail);(with_reducible refine(HHt.out).mono ?_);rintro e w4 ⟨rfl,rfl⟩;go_upto_region 5 with(fail);have b0:=Hb3.out.cell 0;refine wp_region_held_drew (S:=fun Y:World=>Y.cell? ⟨w.heap.size,0,none⟩=some (.pointer (some ⟨C,0,none⟩))) (by kernel_rfl) b0 (fun hHeld=> ?_);refine tkH 0 hHeld ?_;refine tkH 1 hHeld ?_;refine Iu 2 fun K hK=> ?_;go_simp;(with_reducible refine(HEn.out).mono ?_);rintro e w5 ⟨hb5,g2,rfl,hR5⟩;have hzd:w.heap.size<=w3.heap.size:=Hk3.out.size;have hx5:=Hx3.out.drew.below hb5 Hx3.out.drew.lt;have hbx5:=Hb3.out.drew.below hb5 Hb3.out.drew.lt;have hk5:=(Hk3.out.trans (KB.of_below (S:=fun i=>i=C) (Below.drew (Below.refl w3.heap.size w3))) fun _ _ h=>h).trans (KB.of_below (S:=fun i=>i=C) hb5) fun _ _ h=>h;have hg5:=(hR5.base g2 rfl).1;refine hK.out _ _ (hbx5.cell 0) (fun hHeld=> ?_);clear hK K;have x0:=hx5.cell 0;have fz:=hx5.frozen;have lx5:=hx5.lt;have hgz:w3.drew.heap.size=w3.heap.size:=rfl;have hx6:=hx5.set_ 0 (.slice (some ⟨g2,0,none⟩) es.length es.length);have hk6:=hk5.trans (KB.set (S:=fun i=>i=C) w5 ⟨C,0,none⟩ rfl (.slice (some ⟨g2,0,none⟩) es.length es.length)) fun _ _ h=>h;have hb6:=hbx5.far (p:=⟨C,0,none⟩) (by simp;omega) (.slice (some ⟨g2,0,none⟩) es.length es.length);have hR6:An (fun i=>w.heap.size<=i) w.heap.size 84 7 (w5.setCell ⟨C,0,none⟩ (.slice (some ⟨g2,0,none⟩) es.length es.length)) (dO es) (.slice (some ⟨g2,0,none⟩) es.length es.length):=
  An.keepN (hR5) (by omega) (fun i hi=>by omega) (by simp[World.setCell]) fun i i1 _=>Below.heap_setCell _ _ _ _ (by
   have h7:w3.heap.size<=i:=i1.elim id fun e=>(hR5.base i e).1;simp;omega)
 have HP:Hid (PO (.returned (.tuple #[])) (w5.setCell ⟨C,0,none⟩ (.slice (some ⟨g2,0,none⟩) es.length es.length))):=by
  show PO _ _;rw[<-HPO.out];exact⟨rfl,hk6,g2,by omega,hx6,hR6⟩
 have hq:=hb6.cell 0;clear hx5 hbx5 hk5 hx6 hk6 hb6 hR6 hR5 hb5
 try simp only[Act.put,tk1,tk2,tk3,tk4,tk5,tk6]
 refine tkH 3 hHeld ?_;refine tkH 4 hHeld ?_;refine Iu 5 fun K hK=> ?_;go_simp;refine hK.out _ _ hq (fun hHeld=> ?_);clear hK K
 try simp only[Act.put,tk1,tk2,tk3,tk4,tk5,tk6]
 refine wpAnyH_done (by kernel_rfl) ?_ _;clear hHeld;go_wp2;exact bodyPost_end (Ds rfl) rfl HP.out
def El (bs:List Nat):Nat->List (Nat×Nat)
 |0=> []
 |k+1=>(k,bs.getD k 0)::El bs k
theorem Kp (bs:List Nat): ∀k,k<=bs.length->(El bs k).map (·.2)=(bs.take k).reverse
 |0,_=>by simp[El]
 |k+1,h=>by
  have:k<bs.length:=by omega
  rw[El,List.map_cons,Kp bs k (by omega),List.take_add_one,List.getElem?_eq_getElem this,Option.toList_some,List.reverse_append];simp[List.getD_eq_getElem?_getD,List.getElem?_eq_getElem this]
def Pq (x:Nat×Nat) (_:Unit):Array Value:= #[.int .i64 x.1,.pointer (some ⟨x.2,0,none⟩)]
theorem S8 (a:Option Addr) (n c:Nat) (w:World):Calls Tryz.prog 182 #[.slice a n c] w fun e w'=>e=.returned (.func (.func 224) #[] #[.pointer (some ⟨w.heap.size,0,none⟩)])/\w.alloc (.cells #[.slice a n c] 144)=w':=by
 go_enter Tryz.func182,Tryz.ntmps182;go_wp2;go_ret;exact⟨rfl,rfl⟩
attribute [local go_sem] Oper.semAt_some
theorem Qx (bs:List Nat) (p g off c:Nat) (h6:bs.length<=1000000):
 Po Tryz.prog 224 #[.pointer (some ⟨p,0,none⟩)] Pq (fun _ _ _=>True) (El bs bs.length)
  (fun A=>A.cell? ⟨p,0,none⟩=some (.slice (some ⟨g,off,none⟩) bs.length c)/\p<A.heap.size/\g<A.heap.size/\ ∀i b,bs[i]? =some b->A.cell? ⟨g,off+i,none⟩=some (.pointer (some ⟨b,0,none⟩))):=by
 intro n l J W hJn hJb hY h0;obtain⟨hc0,hp0,hg0,_⟩:=hJb _ _ h0;have y0:IntKind.i64.wrap ((bs.length:Int) - 1)=(bs.length:Int) - 1:=IntWalk.i64_in _ (by omega);refine callsIn_of_wp Tryz.func224 rfl trivial ?_ rfl;simp only[Tryz.ntmps224,List.size_toArray,List.length_cons,List.length_nil,Nat.reduceAdd,Nat.reduceSub,Array.replicate_succ,Array.replicate_zero,List.push_toArray,List.append_toArray,List.nil_append,List.cons_append];have H0:=qz h0;clear h0
 gi_wp2
 gi_loopw [3] (fun i wr=> ∃(pre:List (Nat×Nat)) (k:Nat),i=.int .i64 ((k:Int) - 1)/\k<=bs.length/\Hid (El bs bs.length=pre++El bs k)/\J pre wr) (fun i _=>(intOf i+1).toNat)
 case atStart=>exact⟨[],bs.length,rfl,Nat.le_refl _,rfl,H0.out⟩
 case round=>
  obtain⟨pre,k,rfl,hk,hr,hJ⟩:=hrel;obtain⟨q0,qp,qg,qc⟩:=hJb _ _ hJ
  cases k with
  |zero=>
   have hr':=hr.out;simp only[El,List.append_nil]at hr';have HJ:Hid (J (El bs bs.length) wr):=by
    show J _ _;rw[hr'];exact hJ
   have y1: ¬(0:Int)<=((0:Nat):Int) - 1:=by omega
   clear hJ hr hr' q0 qp qg qc hJn hJb hY
   gi_wp2
   exact bodyPost_end (Ds rfl) rfl ⟨⟨_,rfl⟩,HJ.out⟩
  |succ k=>
   have hlt:k<bs.length:=by omega
   obtain⟨b,hb⟩: ∃b,bs[k]? =some b:=⟨_,List.getElem?_eq_getElem hlt⟩;have hgd:bs.getD k 0=b:=by rw[List.getD_eq_getElem?_getD,hb];rfl
   have hr':El bs bs.length=pre++(k,b)::El bs k:=by
    have:=hr.out;rw[El,hgd]at this;exact this
   have e1:(((k+1:Nat):Int) - 1)=(k:Int):=by omega
   have hYk:=hY pre (k,b) (El bs k) () wr hr' hJ trivial;have e0:=qc k b hb;have y1:(0:Int)<=(k:Int):=by omega
   have y2:(k:Int)<(bs.length:Int):=by omega
   have y3:IntKind.i64.wrap ((k:Int) - 1)=(k:Int) - 1:=IntWalk.i64_in _ (by omega);have HR:Hid (El bs bs.length=(pre++ [(k,b)])++El bs k):=by
    show _=_;rw[hr'];simp
   rw[e1];clear hr hr' hY qc hb hgd e1;obtain⟨fn,tmps,assign,body,hy,hR⟩:=hYk;simp only[Pq]at hy
   gi_wp2_with (refine hR.mono ?_;rintro e W3 ⟨rfl,hJ3⟩;clear hy hR)
   go_roundw
   case rel=>exact⟨_,k,rfl,by omega,HR,hJ3⟩
   case measure=>simp only[intOf];omega
end Go.Proofs.YtdbejcbbhomdbaaGreatDoor
