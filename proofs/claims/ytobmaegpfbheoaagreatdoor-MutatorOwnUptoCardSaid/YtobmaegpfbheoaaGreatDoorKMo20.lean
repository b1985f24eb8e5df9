/- Parts: parse.reader.number. Condition: a text of at most 10^8 bytes. -/
import Derived.Deep.RegionLaw
import Derived.Test.YtobmaegpfbheoaaGreatDoorKMo17
import Derived.Test.YtobmaegpfbheoaaGreatDoorKMo18
set_option maxHeartbeats 20000000
set_option maxRecDepth 100000
namespace Go.Proofs.YtobmaegpfbheoaaGreatDoor
open Go Go.RowKit
structure LRd (w wr:World) (R g:Nat) (s:ByteArray) (d:Int) (RES:Rd Val) (f n j:Nat) (acc:List Val) (V:Value):Prop where
 all:RdL w wr R g s j #[.int .i64 5,.bool false,.int .i64 0,.string ⟨#[]⟩,V,.slice none 0 0]
 row:Ej (w.heap.size+2) 42 6 wr (dL acc) V
 is:Gw n s.data.toList j d acc=RES
 fuel:4*(s.size - j)+2<=n
 lt:n<f
 few:acc.length<=j
theorem Wx (w0:World) (R g:Nat) (s:ByteArray) (f:Nat) (ih: ∀f',f'<f->Ahr w0 R g s f') (w:World) (k:Nat) (d:Int) (h:RdI w0 w R g s k) (hs:s.size<=100000000) (hk:k<s.size) (hf:4*(s.size - k)<=f) (hd0:0<=d) (hd:d<=64):
 Calls Tryz.prog 214 #[.pointer (some ⟨R,0,none⟩),.int .i64 d] w (Hs R g s w (K6 f s.data.toList k d)):=by
 obtain⟨j0,hj,hy0,hy1,hy2⟩:=info_parts Pn;have hR:R<w.heap.size:=Aj.lt h.rd;obtain⟨f,rfl⟩: ∃n,f=n+1:=⟨f - 1,by omega⟩;have hP:=D1 (s:=s) (k:=k+1) (by omega);have hP1:=C7 s.data.toList (k+1);have hI0:RdL w (((w.setCell ⟨R,1,none⟩ (.int .i64 ((k+1:Nat):Int))).alloc (.cells Ak 42)).alloc (.cells #[.int .i64 5,.bool false,.int .i64 0,.string ⟨#[]⟩,.slice none 0 0,.slice none 0 0] 42)) R g s (k+1) #[.int .i64 5,.bool false,.int .i64 0,.string ⟨#[]⟩,.slice none 0 0,.slice none 0 0]:=by
  refine⟨(((Bn.refl h.rd).set _).alloc _).alloc _, ?_, ?_⟩
  . have:=(Aj.new (w.setCell ⟨R,1,none⟩ (.int .i64 ((k+1:Nat):Int))) 42 Ak).alloc (.cells #[.int .i64 5,.bool false,.int .i64 0,.string ⟨#[]⟩,.slice none 0 0,.slice none 0 0] 42);simpa[World.setCell]using this
  . have:=Aj.new ((w.setCell ⟨R,1,none⟩ (.int .i64 ((k+1:Nat):Int))).alloc (.cells Ak 42)) 42 #[.int .i64 5,.bool false,.int .i64 0,.string ⟨#[]⟩,.slice none 0 0,.slice none 0 0];simpa[World.setCell]using this
 obtain⟨c0,c1,_,f1,_⟩:=h.rd.cells;have ek:((k:Int)+1)=((k+1:Nat):Int):=by omega
 obtain⟨RES,hRES⟩: ∃r,K6 (f+1) s.data.toList k d=r:=⟨_,rfl⟩;rw[hRES];unfold K6 at hRES
 cases hB:decide (s.data.toList[Ay s.data.toList (k+1)]? =some 93)with
 |true=>
  have hc:=hB;rw[decide_eq_true_iff]at hc;rw[if_pos hc]at hRES;subst hRES;clear hc;obtain⟨Hj,Hy0,Hy1,Hy2,Ih,H,HI0,Ek,HB⟩:=hid9 hj hy0 hy1 hy2 ih h hI0 ek hB;clear hj hy0 hy1 hy2 ih h hI0 ek hB;go_enter Tryz.func214,Tryz.ntmps214;go_wp2
  go_step3
  go_wp2_with (fail);rw[Ek.out];generalize ((w.setCell ⟨R,1,none⟩ (.int .i64 ((k+1:Nat):Int))).alloc (.cells Ak 42)).alloc (.cells #[.int .i64 5,.bool false,.int .i64 0,.string ⟨#[]⟩,.slice none 0 0,.slice none 0 0] 42)=w1 at HI0 ⊢;have hC:=Eh R g s (k+1) 93 93 (by decide) w1 (by omega) (by omega) HI0.out.went.2 HB.out;rw[if_pos rfl]at hC;(with_reducible refine hC.mono ?_);rintro e w2 ⟨rfl,h2⟩;have hI2:=HI0.out.to_ hR h2;obtain⟨y0,y1,y2,y3,y4,y5⟩:=Bd hI2.var;obtain⟨r0,r1,r2,r3,r4,r5⟩:=Bd hI2.res;have fz:=hI2.res.frozen;have HI2:=qz hI2;clear hI2;clear hC c0 c1 f1 h2 HI0;dsimp only
  repeat go_step
  obtain⟨hxf,hto⟩:=HI2.out.leave hR (.int .i64 5) (.bool false) (.int .i64 0) (.string ⟨#[]⟩) (.slice none 0 0) (.slice none 0 0);rw[Exit.noGoto_ret];exact bodyPost_ret (Aq rfl rfl hxf) rfl ⟨⟨_,rfl,F4 5 false 0 _⟩,hto⟩
 |false=>
  have hc:=hB;rw[decide_eq_false_iff_not]at hc;rw[if_neg hc]at hRES;clear hc;obtain⟨Hj,Hy0,Hy1,Hy2,Ih,H,HI0,Ek,HB,HRES⟩:=hid10 hj hy0 hy1 hy2 ih h hI0 ek hB hRES;clear hj hy0 hy1 hy2 ih h hI0 ek hB hRES;go_enter Tryz.func214,Tryz.ntmps214;go_wp2
  go_step3
  go_wp2_with (fail);rw[Ek.out];generalize ((w.setCell ⟨R,1,none⟩ (.int .i64 ((k+1:Nat):Int))).alloc (.cells Ak 42)).alloc (.cells #[.int .i64 5,.bool false,.int .i64 0,.string ⟨#[]⟩,.slice none 0 0,.slice none 0 0] 42)=w1 at HI0 ⊢;have hC:=Eh R g s (k+1) 93 93 (by decide) w1 (by omega) (by omega) HI0.out.went.2 HB.out;rw[if_neg (by decide)]at hC;(with_reducible refine hC.mono ?_);rintro e w2 ⟨rfl,h2⟩;have hI2:=HI0.out.to_ hR h2;have HL0:Hid (LRd w w2 R g s d RES (f+1) f (Ay s.data.toList (k+1)) [] (.slice none 0 0)):=⟨hI2,by simpa[dL]using Ej.nil _ _ _ _,HRES.out,by omega,by omega,by simp⟩;clear hC c0 c1 f1 h2 HI0 HRES hI2 HB;generalize Ay s.data.toList (k+1)=p1 at HL0 hP hP1;go_wp2
  go_step3
  go_wp2
  go_loopg [] f (fun n wr=> ∃m j acc V,m=n/\j<=s.size/\Hid (LRd w wr R g s d RES (f+1) n j acc V))
  case atStart=>exact⟨f,p1, [],_,rfl,hP,HL0⟩
  case round=>
   obtain⟨n,j,acc,V,rfl,hj,hh⟩:=hrel;clear HL0 hP hP1 p1;have hn2:=hh.out.fuel;have hnf:=hh.out.lt;have hfw:=hh.out.few;obtain⟨n,rfl⟩: ∃m,n=m+1:=⟨n - 1,by omega⟩;have hI:=hh.out.all;have hrow:=hh.out.row;have his:=hh.out.is;obtain⟨aV,cV,rfl⟩:=hrow.slice;have rdi:=H.out.to hI.went;have hC: ∀W,Below wr.heap.size wr W->Calls Tryz.prog 170 #[.pointer (some ⟨R,0,none⟩),.int .i64 (d+1)] W (Hs R g s W (Cf n s.data.toList j (d+1))):=fun W hW=>Ih.out n (by omega) W j (d+1) (rdi.later hW) hj (by omega) (by omega) (by omega);have hw:=(I5 n).1 s.data.toList j (d+1) (by rw[Am];exact hj);unfold Gw at his;have ewr:IntKind.i64.wrap (d+1)=d+1:=IntWalk.i64_in _ (by omega);have y4:=hI.var.cell 4;have hgv:=hI.var.lt;have dl:(dL acc).length=acc.length:=Gh _
   cases hr:Cf n s.data.toList j (d+1)with
   |bad c q=>
    rw[hr]at hC his;simp only at his;subst his;have Hv0:=qz hI.var.drew;have HRow:=qz hrow;have HRw:=qz (show R<wr.heap.size by have:=hI.went.1.size;omega);obtain⟨HC,HI,Dl⟩:=hid3 hC hI dl;clear hC hI dl;clear hw hr hh rdi y4 hrow;go_upto_region 5 with(fail);refine wp_region_held_drew (S:=fun _=>True) (by kernel_rfl) trivial (fun hHeld=> ?_);refine tkH 0 hHeld ?_;refine tkH 2 hHeld ?_;refine tkH 3 hHeld ?_;refine tkH 4 hHeld ?_;refine wpAnyH_ready (rs:= [1,5]) (by kernel_rfl) (by simp) ?_;refine AllReadyH.cons rfl (fun K hK=> ?_) (AllReadyH.cons rfl (fun K hK=> ?_) AllReadyH.nil)
    . skip;have e4:=Hv0.out.cell 4;go_simp;refine hK.out _ _ trivial (fun hHeld=> ?_);clear hK K e4
      try simp only[Act.put,tk4,tk5,tk6]
      refine wpAnyH_ready (rs:= [5]) (by kernel_rfl) (by simp) ?_;refine AllReadyH.cons rfl (fun K hK=> ?_) AllReadyH.nil;go_simp;(with_reducible refine(HC.out _ (Below.drew (Below.refl _ _))).mono ?_);rintro e w4 ⟨rfl,hg⟩;exact⟨rfl,rfl,Bj HI.out.went.1 ⟨hg.os,hg.tape,hg.output,hg.size,hg.block⟩⟩
    . skip;go_simp;(with_reducible refine(HC.out _ (Below.drew (Below.refl _ _))).mono ?_);rintro e w4 ⟨rfl,hg⟩;exact⟨rfl,rfl,Bj HI.out.went.1 ⟨hg.os,hg.tape,hg.output,hg.size,hg.block⟩⟩
   |ok v q=>
    rw[hr]at hC his hw;simp only at his;obtain⟨hw1,hw2⟩:=hw;rw[Am]at hw2;obtain⟨k',b',n',t',l',o'⟩:=v;have htk:dL acc++ [dV (.mk k' b' n' t' l' o')]=dL (acc++ [.mk k' b' n' t' l' o']):=by rw[Fx,Fx];simp
    have HLo:Hid ((dL acc).length+1<=maxLen/\((dL acc).length+1)*88<=140737488355328):=by rw[dl];exact⟨by simp only[maxLen];omega,by omega⟩
    have Hv0:=qz hI.var.drew;have HRow:=qz hrow;have HRw:=qz (show R<wr.heap.size by have:=hI.went.1.size;omega);obtain⟨HC,HI,Dl,Htk,His⟩:=hid5 hC hI dl htk his;clear hC hI dl htk his;clear hr hh rdi y4 hrow;go_upto_region 5 with(fail);go_cut [] (fun wx=>Hid (∃V,RdL w wx R g s q #[.int .i64 5,.bool false,.int .i64 0,.string ⟨#[]⟩,V,.slice none 0 0]/\Ej (w.heap.size+2) 42 6 wx (dL (acc++ [.mk k' b' n' t' l' o'])) V))
    case first=>
     refine wp_region_held_drew (S:=fun _=>True) (by kernel_rfl) trivial (fun hHeld=> ?_);refine tkH 0 hHeld ?_;refine tkH 2 hHeld ?_;refine tkH 3 hHeld ?_;refine tkH 4 hHeld ?_;refine wpAnyH_ready (rs:= [1,5]) (by kernel_rfl) (by simp) ?_;refine AllReadyH.cons rfl (fun K hK=> ?_) (AllReadyH.cons rfl (fun K hK=> ?_) AllReadyH.nil)
     . skip;have e4:=Hv0.out.cell 4;go_simp;refine hK.out _ _ trivial (fun hHeld=> ?_);clear hK K e4
       try simp only[Act.put,tk4,tk5,tk6]
       refine wpAnyH_ready (rs:= [5]) (by kernel_rfl) (by simp) ?_;refine AllReadyH.cons rfl (fun K hK=> ?_) AllReadyH.nil;go_simp;(with_reducible refine(HC.out _ (Below.drew (Below.refl _ _))).mono ?_);rintro e w4 ⟨⟨cs,rfl,hf4⟩,h4⟩;obtain⟨la4,lc4,oa4,oc4,rfl⟩:=Eu hf4;obtain⟨wm,hs1,hs2,hs3⟩:=I8 HRw.out h4.undrew.1;have hI4:=HI.out.to_ hR h4.undrew;have Hrow4:=qz (HRow.out.keep (by rw[hs1];exact Nat.le_refl _) (fun i h1 _=>hs2 i (by omega)));have Hf4:Hid (An wm.heap.size w4 (dV (.mk k' b' n' t' l' o')) [.int .i64 k',.bool b',.int .i64 n',.string t',.slice la4 l'.length lc4,.slice oa4 o'.length oc4]):=by rw[hs1];exact hf4
       have Hv4:=qz hI4.var;obtain⟨Hs3,HI4⟩:=hid2 hs3 hI4;clear hs3 hI4;clear hf4 h4 hs2;refine hK.out _ _ trivial (fun hHeld=> ?_);clear hK K
       try simp only[Act.put,tk4,tk5,tk6]
       refine wpAnyH_ready (rs:= [6]) (by kernel_rfl) (by simp) ?_;refine AllReadyH.cons rfl (fun K hK=> ?_) AllReadyH.nil;go_simp;have Hv5:=qz (Hv4.out.alloc (.cells #[.int .i64 k',.bool b',.int .i64 n',.string t',.slice la4 l'.length lc4,.slice oa4 o'.length oc4] 42));refine hK.out _ _ trivial (fun hHeld=> ?_);clear hK K
       try simp only[Act.put,tk4,tk5,tk6]
       refine wpAnyH_ready (rs:= [7]) (by kernel_rfl) (by simp) ?_;refine AllReadyH.cons rfl (fun K hK=> ?_) AllReadyH.nil;have hbe:=Hs3.out.alloc Hs3.out.size (.cells #[.int .i64 k',.bool b',.int .i64 n',.string t',.slice la4 l'.length lc4,.slice oa4 o'.length oc4] 42);have hfe:=Hf4.out.later (Aa w4 (.cells #[.int .i64 k',.bool b',.int .i64 n',.string t',.slice la4 l'.length lc4,.slice oa4 o'.length oc4] 42));refine Ca (d:=dV (.mk k' b' n' t' l' o')) (V:=.slice aV (dL acc).length cV) (by rfl) (.tmp 18) (.tmp 23) 39 (by rfl) Tryz.underlying39 Hj.out Hy0.out Hy1.out Hy2.out rfl (by omega) (by rfl) Hrow4.out (by omega) hbe (Cw _) hfe (by rfl) (Fo w4 _ _ _ _ _ _) HLo.out.1 HLo.out.2 ?_;intro V6 w6 hrow6 hg6 hat6;have hto6:=Bn.app (HI4.out.went.alloc (.cells #[.int .i64 k',.bool b',.int .i64 n',.string t',.slice la4 l'.length lc4,.slice oa4 o'.length oc4] 42)) hg6 Hrow4.out (by omega) hR;have hres6:=Dj (HI4.out.res.alloc (.cells #[.int .i64 k',.bool b',.int .i64 n',.string t',.slice la4 l'.length lc4,.slice oa4 o'.length oc4] 42)) hg6 Hrow4.out (by omega);have hv6:=Dj Hv5.out hg6 Hrow4.out (by omega);rw[Htk.out]at hrow6;refine hK.out _ _ trivial (fun hHeld=> ?_);clear hK K hg6 hat6 hfe hbe
       try simp only[Act.put,tk4]
       refine tkH 8 hHeld ?_;refine wpAnyH_ready (rs:= [9]) (by kernel_rfl) (by simp) ?_;refine AllReadyH.cons rfl (fun K hK=> ?_) AllReadyH.nil;have e6:=hv6.cell 4;have f6:=hv6.frozen 4;have hg6v:=hv6.lt;obtain⟨a6,c6,rfl⟩:=hrow6.slice;go_simp;refine hK.out _ _ trivial (fun hHeld=> ?_);clear hK K
       try simp only[Act.put,tk4,tk5,tk6]
       refine wpAnyH_done (by kernel_rfl) ?_ _;go_wp2;go_meet;exact⟨_,⟨hto6.setN _ (by simp) hR _,hres6.far (by simp) _,hv6.set_ 4 _⟩,hrow6.keep (by simp[World.setCell]) (fun i h1 _=>Below.heap_setCell _ _ _ _ (by simp;omega))⟩
     . skip;go_simp;(with_reducible refine(HC.out _ (Below.drew (Below.refl _ _))).mono ?_);rintro e w4 ⟨⟨cs,rfl,hf4⟩,h4⟩;obtain⟨la4,lc4,oa4,oc4,rfl⟩:=Eu hf4;obtain⟨wm,hs1,hs2,hs3⟩:=I8 HRw.out h4.undrew.1;have hI4:=HI.out.to_ hR h4.undrew;have Hrow4:=qz (HRow.out.keep (by rw[hs1];exact Nat.le_refl _) (fun i h1 _=>hs2 i (by omega)));have Hf4:Hid (An wm.heap.size w4 (dV (.mk k' b' n' t' l' o')) [.int .i64 k',.bool b',.int .i64 n',.string t',.slice la4 l'.length lc4,.slice oa4 o'.length oc4]):=by rw[hs1];exact hf4
       have Hv4:=qz hI4.var;obtain⟨Hs3,HI4⟩:=hid2 hs3 hI4;clear hs3 hI4;clear hf4 h4 hs2;refine hK.out _ _ trivial (fun hHeld=> ?_);clear hK K
       try simp only[Act.put,tk4,tk5,tk6]
       refine wpAnyH_ready (rs:= [1,6]) (by kernel_rfl) (by simp) ?_;refine AllReadyH.cons rfl (fun K hK=> ?_) (AllReadyH.cons rfl (fun K hK=> ?_) AllReadyH.nil)
       . skip;have e4:=Hv4.out.cell 4;go_simp;refine hK.out _ _ trivial (fun hHeld=> ?_);clear hK K e4
         try simp only[Act.put,tk4,tk5,tk6]
         refine wpAnyH_ready (rs:= [6]) (by kernel_rfl) (by simp) ?_;refine AllReadyH.cons rfl (fun K hK=> ?_) AllReadyH.nil;go_simp;have Hv5:=qz (Hv4.out.alloc (.cells #[.int .i64 k',.bool b',.int .i64 n',.string t',.slice la4 l'.length lc4,.slice oa4 o'.length oc4] 42));refine hK.out _ _ trivial (fun hHeld=> ?_);clear hK K
         try simp only[Act.put,tk4,tk5,tk6]
         refine wpAnyH_ready (rs:= [7]) (by kernel_rfl) (by simp) ?_;refine AllReadyH.cons rfl (fun K hK=> ?_) AllReadyH.nil;have hbe:=Hs3.out.alloc Hs3.out.size (.cells #[.int .i64 k',.bool b',.int .i64 n',.string t',.slice la4 l'.length lc4,.slice oa4 o'.length oc4] 42);have hfe:=Hf4.out.later (Aa w4 (.cells #[.int .i64 k',.bool b',.int .i64 n',.string t',.slice la4 l'.length lc4,.slice oa4 o'.length oc4] 42));refine Ca (d:=dV (.mk k' b' n' t' l' o')) (V:=.slice aV (dL acc).length cV) (by rfl) (.tmp 18) (.tmp 23) 39 (by rfl) Tryz.underlying39 Hj.out Hy0.out Hy1.out Hy2.out rfl (by omega) (by rfl) Hrow4.out (by omega) hbe (Cw _) hfe (by rfl) (Fo w4 _ _ _ _ _ _) HLo.out.1 HLo.out.2 ?_;intro V6 w6 hrow6 hg6 hat6;have hto6:=Bn.app (HI4.out.went.alloc (.cells #[.int .i64 k',.bool b',.int .i64 n',.string t',.slice la4 l'.length lc4,.slice oa4 o'.length oc4] 42)) hg6 Hrow4.out (by omega) hR;have hres6:=Dj (HI4.out.res.alloc (.cells #[.int .i64 k',.bool b',.int .i64 n',.string t',.slice la4 l'.length lc4,.slice oa4 o'.length oc4] 42)) hg6 Hrow4.out (by omega);have hv6:=Dj Hv5.out hg6 Hrow4.out (by omega);rw[Htk.out]at hrow6;refine hK.out _ _ trivial (fun hHeld=> ?_);clear hK K hg6 hat6 hfe hbe
         try simp only[Act.put,tk4]
         refine tkH 8 hHeld ?_;refine wpAnyH_ready (rs:= [9]) (by kernel_rfl) (by simp) ?_;refine AllReadyH.cons rfl (fun K hK=> ?_) AllReadyH.nil;have e6:=hv6.cell 4;have f6:=hv6.frozen 4;have hg6v:=hv6.lt;obtain⟨a6,c6,rfl⟩:=hrow6.slice;go_simp;refine hK.out _ _ trivial (fun hHeld=> ?_);clear hK K
         try simp only[Act.put,tk4,tk5,tk6]
         refine wpAnyH_done (by kernel_rfl) ?_ _;go_wp2;go_meet;exact⟨_,⟨hto6.setN _ (by simp) hR _,hres6.far (by simp) _,hv6.set_ 4 _⟩,hrow6.keep (by simp[World.setCell]) (fun i h1 _=>Below.heap_setCell _ _ _ _ (by simp;omega))⟩
       . skip;go_simp;have Hv5:=qz (Hv4.out.alloc (.cells #[.int .i64 k',.bool b',.int .i64 n',.string t',.slice la4 l'.length lc4,.slice oa4 o'.length oc4] 42));refine hK.out _ _ trivial (fun hHeld=> ?_);clear hK K
         try simp only[Act.put,tk4,tk5,tk6]
         refine wpAnyH_ready (rs:= [1]) (by kernel_rfl) (by simp) ?_;refine AllReadyH.cons rfl (fun K hK=> ?_) AllReadyH.nil;have e4:=Hv5.out.cell 4;go_simp;refine hK.out _ _ trivial (fun hHeld=> ?_);clear hK K e4
         try simp only[Act.put,tk4,tk5,tk6]
         refine wpAnyH_ready (rs:= [7]) (by kernel_rfl) (by simp) ?_;refine AllReadyH.cons rfl (fun K hK=> ?_) AllReadyH.nil;have hbe:=Hs3.out.alloc Hs3.out.size (.cells #[.int .i64 k',.bool b',.int .i64 n',.string t',.slice la4 l'.length lc4,.slice oa4 o'.length oc4] 42);have hfe:=Hf4.out.later (Aa w4 (.cells #[.int .i64 k',.bool b',.int .i64 n',.string t',.slice la4 l'.length lc4,.slice oa4 o'.length oc4] 42));refine Ca (d:=dV (.mk k' b' n' t' l' o')) (V:=.slice aV (dL acc).length cV) (by rfl) (.tmp 18) (.tmp 23) 39 (by rfl) Tryz.underlying39 Hj.out Hy0.out Hy1.out Hy2.out rfl (by omega) (by rfl) Hrow4.out (by omega) hbe (Cw _) hfe (by rfl) (Fo w4 _ _ _ _ _ _) HLo.out.1 HLo.out.2 ?_;intro V6 w6 hrow6 hg6 hat6;have hto6:=Bn.app (HI4.out.went.alloc (.cells #[.int .i64 k',.bool b',.int .i64 n',.string t',.slice la4 l'.length lc4,.slice oa4 o'.length oc4] 42)) hg6 Hrow4.out (by omega) hR;have hres6:=Dj (HI4.out.res.alloc (.cells #[.int .i64 k',.bool b',.int .i64 n',.string t',.slice la4 l'.length lc4,.slice oa4 o'.length oc4] 42)) hg6 Hrow4.out (by omega);have hv6:=Dj Hv5.out hg6 Hrow4.out (by omega);rw[Htk.out]at hrow6;refine hK.out _ _ trivial (fun hHeld=> ?_);clear hK K hg6 hat6 hfe hbe
         try simp only[Act.put,tk4]
         refine tkH 8 hHeld ?_;refine wpAnyH_ready (rs:= [9]) (by kernel_rfl) (by simp) ?_;refine AllReadyH.cons rfl (fun K hK=> ?_) AllReadyH.nil;have e6:=hv6.cell 4;have f6:=hv6.frozen 4;have hg6v:=hv6.lt;obtain⟨a6,c6,rfl⟩:=hrow6.slice;go_simp;refine hK.out _ _ trivial (fun hHeld=> ?_);clear hK K
         try simp only[Act.put,tk4,tk5,tk6]
         refine wpAnyH_done (by kernel_rfl) ?_ _;go_wp2;go_meet;exact⟨_,⟨hto6.setN _ (by simp) hR _,hres6.far (by simp) _,hv6.set_ 4 _⟩,hrow6.keep (by simp[World.setCell]) (fun i h1 _=>Below.heap_setCell _ _ _ _ (by simp;omega))⟩
    obtain⟨V',hI5,hrow5⟩:=hcut.out;have hq':Ay s.data.toList q<=s.size:=D1 hw2;have hq1:=C7 s.data.toList q;clear hcut HC HI Dl Htk Hv0 HRow HRw HLo ewr
    cases h44:decide (s.data.toList[Ay s.data.toList q]? =some 44)with
    |true=>
     have hC44:=Eh R g s q 44 44 (by decide) wc (by omega) hw2 hI5.went.2 h44;rw[if_pos rfl]at hC44;have hc:=h44;rw[decide_eq_true_iff]at hc;have hr':=His.out;rw[if_pos hc]at hr';have hlt8:=Em hc;rw[Am]at hlt8;clear hc h44;obtain⟨HI5,Hrow5,HC44,Hr'⟩:=hid4 hI5 hrow5 hC44 hr';clear hI5 hrow5 hC44 hr';go_wp2_with (fail);(with_reducible refine(HC44.out).mono ?_);rintro e w8 ⟨rfl,h8⟩;have HN:Hid (LRd w w8 R g s d RES (f+1) n (Ay s.data.toList q+1) (acc++ [.mk k' b' n' t' l' o']) V'):=⟨HI5.out.to_ hR h8,Hrow5.out.keep h8.1.size (fun i h1 h2=>h8.1.block i h2 (by intro e;have:=Option.some.inj e;omega)),Hr'.out,by omega,by omega,by simp;omega⟩;clear h8;go_wp2
     go_roundg n
     case measure=>omega
     case rel=>exact⟨n,_,_,_,rfl,by omega,HN⟩
    |false=>
     have hC44:=Eh R g s q 44 44 (by decide) wc (by omega) hw2 hI5.went.2 h44;rw[if_neg (by decide)]at hC44;have hc:=h44;rw[decide_eq_false_iff_not]at hc;have hr':=His.out;rw[if_neg hc]at hr';clear hc h44
     cases h93:decide (s.data.toList[Ay s.data.toList q]? =some 93)with
     |true=>
      have hc:=h93;rw[decide_eq_true_iff]at hc;rw[if_pos hc]at hr';clear hc;subst hr';obtain⟨HI5,Hrow5,HC44,H93⟩:=hid4 hI5 hrow5 hC44 h93;clear hI5 hrow5 hC44 h93;go_wp2_with (fail);(with_reducible refine(HC44.out).mono ?_);rintro e w8 ⟨rfl,h8⟩;have h93':=H93.out;rw[<-G8]at h93';have hC93:=Eh R g s (Ay s.data.toList q) 93 93 (by decide) w8 (by omega) hq' h8.2 h93';rw[if_pos rfl,G8]at hC93;have hI8:=HI5.out.to_ hR h8;have Hrow8:=qz (Hrow5.out.keep h8.1.size (fun i h1 h2=>h8.1.block i h2 (by intro e;have:=Option.some.inj e;omega)));clear h8 h93';obtain⟨HI8,HC93⟩:=hid2 hI8 hC93;clear hI8 hC93;go_wp2_with (fail);(with_reducible refine(HC93.out).mono ?_);rintro e w9 ⟨rfl,h9⟩;have hI9:=HI8.out.to_ hR h9;have hrow9:=Hrow8.out.keep h9.1.size (fun i h1 h2=>h9.1.block i h2 (by intro e;have:=Option.some.inj e;omega));clear h9;obtain⟨y0,y1,y2,y3,y4,y5⟩:=Bd hI9.var;obtain⟨r0,r1,r2,r3,r4,r5⟩:=Bd hI9.res;have fz:=hI9.res.frozen;obtain⟨a',c',rfl,_,hfr,_⟩:=hrow9.close;have el:(dL (acc++ [Val.mk k' b' n' t' l' o'])).length=acc.length+1:=by rw[Gh];simp
      rw[el]at hfr y4;obtain⟨hxf,hto⟩:=hI9.leave hR (.int .i64 5) (.bool false) (.int .i64 0) (.string ⟨#[]⟩) (.slice a' (acc.length+1) c') (.slice none 0 0);have Hff:=qz (Ad3 (hfr.keep (b':=w.heap.size) (w':=A7 w9 w.heap.size 0 [.int .i64 5,.bool false,.int .i64 0,.string ⟨#[]⟩,.slice a' (acc.length+1) c',.slice none 0 0]) (by omega) (by rw[Aw];exact Nat.le_refl _) (fun p p1 p2=>World.cell?_of_block (Ar _ _ _ _ _ (by omega)))));obtain⟨HI9,Hrow9,Hxf,Hto,Hfr⟩:=hid5 hI9 hrow9 hxf hto hfr;clear hI9 hrow9 hxf hto hfr;go_upto_region 9 with(fail);go_wp2;rw[Exit.noGoto_ret];exact bodyPost_ret (Aq rfl rfl Hxf.out) rfl ⟨⟨_,rfl,Hff.out⟩,Hto.out⟩
     |false=>
      have hc:=h93;rw[decide_eq_false_iff_not]at hc;rw[if_neg hc]at hr';clear hc;subst hr';obtain⟨HI5,Hrow5,HC44,H93⟩:=hid4 hI5 hrow5 hC44 h93;clear hI5 hrow5 hC44 h93;go_wp2_with (fail);(with_reducible refine(HC44.out).mono ?_);rintro e w8 ⟨rfl,h8⟩;have h93':=H93.out;rw[<-G8]at h93';have hC93:=Eh R g s (Ay s.data.toList q) 93 93 (by decide) w8 (by omega) hq' h8.2 h93';rw[if_neg (by decide),G8]at hC93;have HI8:=qz (HI5.out.to_ hR h8);clear h8 h93';have HC93:=qz hC93;clear hC93;go_wp2_with (fail);(with_reducible refine(HC93.out).mono ?_);rintro e w9 ⟨rfl,h9⟩;have HI9:=qz (HI8.out.to_ hR h9);obtain⟨z0,z1,_,_,_⟩:=h9.2.cells;clear h9;have HW:=qz (Ch (.pointer (some ⟨R,0,none⟩)) 4 (Ay s.data.toList q:Nat) w9);go_wp2_with (fail);(with_reducible refine(HW.out).mono ?_);rintro e w10 ⟨rfl,rfl⟩;exact⟨rfl,rfl,HI9.out.went.1⟩
structure ORd (w wr:World) (R g:Nat) (s:ByteArray) (d:Int) (RES:Rd Val) (G f n j:Nat) (acc:List (ByteArray×Val)) (V:Value):Prop where
 all:RdL w wr R g s j #[.int .i64 6,.bool false,.int .i64 0,.string ⟨#[]⟩,.slice none 0 0,V]
 row:Ej (G+1) 74 7 wr (dO acc) V
 map:Ci Value.string wr G (Sk acc)
 nod:(acc.map (·.1)).Nodup
 is:D7 n s.data.toList j d acc=RES
 fuel:4*(s.size - j)+2<=n
 lt:n<f
 few:acc.length<=j
theorem RdL.seen {w wr w1 w2:World} {R g j q G:Nat} {s:ByteArray} {cs:Array Value} (h:RdL w wr R g s j cs) (hR:R<w.heap.size) (hG:w.heap.size+2<=G) (t:Bn R g s q wr w1) (t2:w1.grownBy w2 (some G)):RdL w w2 R g s q cs:=by
 have h1:=h.to_ hR t;have hne: ∀i,i<w.heap.size+2->some i≠some G:=fun i hi e=>by have:=Option.some.inj e;omega
 exact⟨⟨⟨t2.os.trans h1.went.1.os,t2.tape.trans h1.went.1.tape,t2.output.trans h1.went.1.output,Nat.le_trans h1.went.1.size t2.size,fun i hi hn=>(t2.block i (by have:=h1.went.1.size;omega) (hne i (by omega))).trans (h1.went.1.block i hi hn)⟩,Aj.grown h1.went.2 t2 (hne R (by omega))⟩,h1.res.grown t2 (hne _ (by omega)),h1.var.grown t2 (hne _ (by omega))⟩
theorem Aga {k:ByteArray} {acc:List (ByteArray×Val)} (h:O4 k acc=false) (hn:(acc.map (·.1)).Nodup) (v:Val):((acc++ [(k,v)]).map (·.1)).Nodup:=by
 rw[List.map_append,List.nodup_append];refine⟨hn,by simp,fun a ha b hb=> ?_⟩;simp only[List.map_cons,List.map_nil,List.mem_cons,List.not_mem_nil,or_false]at hb;subst hb;rintro rfl;obtain⟨m,hm,rfl⟩:=List.mem_map.1 ha;have:O4 m.1 acc=true:=by
  unfold O4;rw[List.any_eq_true];exact⟨m,hm,by simp⟩
 rw[this]at h;cases h
theorem Zl (w0:World) (hT0:Cl w0) (R g:Nat) (s:ByteArray) (f:Nat) (ih: ∀f',f'<f->Ahr w0 R g s f') (w:World) (k:Nat) (d:Int) (h:RdI w0 w R g s k) (hs:s.size<=100000000) (hk:k<s.size) (hf:4*(s.size - k)<=f) (hd0:0<=d) (hd:d<=64):
 Calls Tryz.prog 215 #[.pointer (some ⟨R,0,none⟩),.int .i64 d] w (Hs R g s w (Qb f s.data.toList k d)):=by
 obtain⟨j0,hj,hy0,hy1,hy2⟩:=info_parts O7;have hR:R<w.heap.size:=Aj.lt h.rd;obtain⟨f,rfl⟩: ∃n,f=n+1:=⟨f - 1,by omega⟩;have hP:=D1 (s:=s) (k:=k+1) (by omega);have hP1:=C7 s.data.toList (k+1);have hI0:RdL w (((w.setCell ⟨R,1,none⟩ (.int .i64 ((k+1:Nat):Int))).alloc (.cells Ak 42)).alloc (.cells #[.int .i64 6,.bool false,.int .i64 0,.string ⟨#[]⟩,.slice none 0 0,.slice none 0 0] 42)) R g s (k+1) #[.int .i64 6,.bool false,.int .i64 0,.string ⟨#[]⟩,.slice none 0 0,.slice none 0 0]:=by
  refine⟨(((Bn.refl h.rd).set _).alloc _).alloc _, ?_, ?_⟩
  . have:=(Aj.new (w.setCell ⟨R,1,none⟩ (.int .i64 ((k+1:Nat):Int))) 42 Ak).alloc (.cells #[.int .i64 6,.bool false,.int .i64 0,.string ⟨#[]⟩,.slice none 0 0,.slice none 0 0] 42);simpa[World.setCell]using this
  . have:=Aj.new ((w.setCell ⟨R,1,none⟩ (.int .i64 ((k+1:Nat):Int))).alloc (.cells Ak 42)) 42 #[.int .i64 6,.bool false,.int .i64 0,.string ⟨#[]⟩,.slice none 0 0,.slice none 0 0];simpa[World.setCell]using this
 have hz1:(((w.setCell ⟨R,1,none⟩ (.int .i64 ((k+1:Nat):Int))).alloc (.cells Ak 42)).alloc (.cells #[.int .i64 6,.bool false,.int .i64 0,.string ⟨#[]⟩,.slice none 0 0,.slice none 0 0] 42)).heap.size=w.heap.size+2:=by simp[World.setCell]
 obtain⟨c0,c1,_,f1,_⟩:=h.rd.cells;have ek:((k:Int)+1)=((k+1:Nat):Int):=by omega
 obtain⟨RES,hRES⟩: ∃r,Qb (f+1) s.data.toList k d=r:=⟨_,rfl⟩;rw[hRES];unfold Qb at hRES
 cases hB:decide (s.data.toList[Ay s.data.toList (k+1)]? =some 125)with
 |true=>
  have hc:=hB;rw[decide_eq_true_iff]at hc;rw[if_pos hc]at hRES;subst hRES;clear hc;obtain⟨Hj,Hy0,Hy1,Hy2,Ih,H,HI0,Ek,HB⟩:=hid9 hj hy0 hy1 hy2 ih h hI0 ek hB;clear hj hy0 hy1 hy2 ih h hI0 ek hB;go_enter Tryz.func215,Tryz.ntmps215;go_wp2
  go_step3
  go_wp2_with (fail);rw[Ek.out];generalize ((w.setCell ⟨R,1,none⟩ (.int .i64 ((k+1:Nat):Int))).alloc (.cells Ak 42)).alloc (.cells #[.int .i64 6,.bool false,.int .i64 0,.string ⟨#[]⟩,.slice none 0 0,.slice none 0 0] 42)=w1 at HI0 hz1 ⊢;have hC:=Eh R g s (k+1) 125 125 (by decide) w1 (by omega) (by omega) HI0.out.went.2 HB.out;rw[if_pos rfl]at hC;(with_reducible refine hC.mono ?_);rintro e w2 ⟨rfl,h2⟩;have hI2:=HI0.out.to_ hR h2;obtain⟨y0,y1,y2,y3,y4,y5⟩:=Bd hI2.var;obtain⟨r0,r1,r2,r3,r4,r5⟩:=Bd hI2.res;have fz:=hI2.res.frozen;have HI2:=qz hI2;clear hI2;clear hC c0 c1 f1 h2 HI0;dsimp only
  repeat go_step
  obtain⟨hxf,hto⟩:=HI2.out.leave hR (.int .i64 6) (.bool false) (.int .i64 0) (.string ⟨#[]⟩) (.slice none 0 0) (.slice none 0 0);rw[Exit.noGoto_ret];exact bodyPost_ret (Aq rfl rfl hxf) rfl ⟨⟨_,rfl,F4 6 false 0 _⟩,hto⟩
 |false=>
  have hc:=hB;rw[decide_eq_false_iff_not]at hc;rw[if_neg hc]at hRES;clear hc;have hmm:=fun W=>run_makeMap (P:=Tryz.prog) Akh W;obtain⟨Hj,Hy0,Hy1,Hy2,Ih,H,HI0,Ek,HB,HRES,HT0⟩:=hid11 hj hy0 hy1 hy2 ih h hI0 ek hB hRES hT0;clear hj hy0 hy1 hy2 ih h hI0 ek hB hRES hT0;go_enter Tryz.func215,Tryz.ntmps215;go_wp2
  go_step3
  go_wp2_with (fail);rw[Ek.out];generalize ((w.setCell ⟨R,1,none⟩ (.int .i64 ((k+1:Nat):Int))).alloc (.cells Ak 42)).alloc (.cells #[.int .i64 6,.bool false,.int .i64 0,.string ⟨#[]⟩,.slice none 0 0,.slice none 0 0] 42)=w1 at HI0 hz1 ⊢;have hC:=Eh R g s (k+1) 125 125 (by decide) w1 (by omega) (by omega) HI0.out.went.2 HB.out;rw[if_neg (by decide)]at hC;(with_reducible refine hC.mono ?_);rintro e w2 ⟨rfl,h2⟩;have hI2:=HI0.out.to_ hR h2;have hG:w.heap.size+2<=w2.heap.size:=by have:=h2.1.size;omega
  have HL0:Hid (ORd w (w2.alloc (.map #[] 0)) R g s d RES w2.heap.size (f+1) f (Ay s.data.toList (k+1)) [] (.slice none 0 0)):=
   ⟨⟨hI2.went.alloc _,hI2.res.alloc _,hI2.var.alloc _⟩,by simpa[dO]using Ej.nil _ _ _ _,Ci.new w2,by simp,HRES.out,by omega,by omega,by simp⟩
  clear hC c0 c1 f1 h2 HI0 HRES hI2 HB hz1;generalize Ay s.data.toList (k+1)=p1 at HL0 hP hP1;go_wp2
  go_step3
  go_wp2;generalize w2.alloc (.map #[] 0)=w3 at HL0 ⊢;generalize w2.heap.size=G at HL0 hG ⊢
  go_loopg [] f (fun n wr=> ∃m j acc V,m=n/\j<=s.size/\Hid (ORd w wr R g s d RES G (f+1) m j acc V))
  case atStart=>exact⟨f,p1, [],_,rfl,hP,HL0⟩
  case round=>
   obtain⟨n,j,acc,V,rfl,hj,hh⟩:=hrel;clear HL0 hP hP1 p1;have hn2:=hh.out.fuel;have hnf:=hh.out.lt;have hfw:=hh.out.few;obtain⟨n,rfl⟩: ∃m,n=m+2:=⟨n - 2,by omega⟩;have hI:=hh.out.all;have hrow:=hh.out.row;have his:=hh.out.is;have hmp:=hh.out.map;have hGlt:=hmp.lt;have hGR:G≠R:=by omega
   have rdi:=H.out.to hI.went;have hpj:Ay s.data.toList j<=s.size:=D1 hj;have hpj1:=C7 s.data.toList j;have hK:=Zj R g G s acc j wr (fun W hW=>HT0.out.below (rdi.below.grown hW rdi.below.size fun r e=>by have:=Option.some.inj e;have:=rdi.ge;omega)) (by omega) hj hI.went.2 hmp hGR;have hw:=Ii (s:=s.data.toList) (p:=Ay s.data.toList j) (by rw[Am];exact hpj);rw[show n+2=(n+1)+1 from rfl]at his;unfold D7 at his;have Hnod:=qz hh.out.nod;clear hh rdi
   cases hr:E8 s.data.toList (Ay s.data.toList j)with
   |bad c q=>
    rw[hr]at hK his;simp only at his;subst his;obtain⟨HK,HI⟩:=hid2 hK hI;clear hK hI;clear hw hr hrow hmp;go_wp2_with (fail);(with_reducible refine(HK.out).mono ?_);rintro e w4 ⟨rfl,hg⟩;exact⟨rfl,rfl,Bj HI.out.went.1 hg⟩
   |ok kk q=>
    rw[hr]at hK his hw;simp only at his;obtain⟨hw1,hw2⟩:=hw;rw[Am]at hw2;unfold Ae8 at hK;dsimp only at hK;obtain⟨KK,hKK⟩: ∃K:ByteArray,(⟨kk.toArray⟩:ByteArray)=K:=⟨_,rfl⟩;rw[hKK]at his;simp only[hKK]at hK;clear hKK hr
    cases hkk:O4 KK acc with
    |true=>
     rw[if_pos hkk]at his;simp only[hkk,if_true]at hK;subst his;obtain⟨HK,HI⟩:=hid2 hK hI;clear hK hI;clear hrow hmp;go_wp2_with (fail);(with_reducible refine(HK.out).mono ?_);rintro e w4 ⟨rfl,hg⟩;exact⟨rfl,rfl,Bj HI.out.went.1 hg⟩
    |false=>
     rw[if_neg (by rw[hkk];decide)]at his;simp only[hkk,Bool.false_eq_true,if_false]at hK;have Hkk:=qz hkk;clear hkk
     cases h58:decide (s.data.toList[Ay s.data.toList q]? =some 58)with
     |false=>
      have hc:=h58;rw[decide_eq_false_iff_not]at hc;rw[if_neg hc]at his;clear hc;subst his;have hpq:Ay s.data.toList q<=s.size:=D1 hw2;obtain⟨HK,HI,H58⟩:=hid3 hK hI h58;clear hK hI h58;clear hrow hmp;go_wp2_with (fail);(with_reducible refine(HK.out).mono ?_);rintro e w4 ⟨rfl,w4',t1,t2,hm4⟩;have hI4:=HI.out.seen hR hG t1 t2;clear t1 t2 hm4;have hC58:=Eh R g s q 58 58 (by decide) w4 (by omega) hw2 hI4.went.2 H58.out;rw[if_neg (by decide)]at hC58;obtain⟨HC58,HI4⟩:=hid2 hC58 hI4;clear hC58 hI4;go_wp2_with (fail);(with_reducible refine(HC58.out).mono ?_);rintro e w5 ⟨rfl,h5⟩;have HI5:=qz (HI4.out.to_ hR h5);obtain⟨z0,z1,_,_,_⟩:=h5.2.cells;clear h5;have HW:=qz (Ch (.pointer (some ⟨R,0,none⟩)) 4 (Ay s.data.toList q:Nat) w5);go_wp2_with (fail);(with_reducible refine(HW.out).mono ?_);rintro e w10 ⟨rfl,rfl⟩;exact⟨rfl,rfl,HI5.out.went.1⟩
     |true=>
      have hc:=h58;rw[decide_eq_true_iff]at hc;rw[if_pos hc]at his;have hlt58:=Em hc;rw[Am]at hlt58;clear hc;have hpq1:=C7 s.data.toList q;obtain⟨HK,HI,H58,Hrow,His⟩:=hid5 hK hI h58 hrow his;clear hK hI h58 hrow his;clear hmp;go_wp2_with (fail);(with_reducible refine(HK.out).mono ?_);rintro e w4 ⟨rfl,w4',t1,t2,hm4⟩;have hI4:=HI.out.seen hR hG t1 t2;have Hrow4:=qz (Hrow.out.keep (Nat.le_trans t1.1.size t2.size) (fun i h1 h2=>(t2.block i (Nat.lt_of_lt_of_le h2 t1.1.size) (by intro e;have:=Option.some.inj e;omega)).trans (t1.1.block i h2 (by intro e;have:=Option.some.inj e;omega))));clear t1 t2;have hC58:=Eh R g s q 58 58 (by decide) w4 (by omega) hw2 hI4.went.2 H58.out;rw[if_pos rfl]at hC58;obtain⟨HC58,HI4,Hm4⟩:=hid3 hC58 hI4 hm4;clear hC58 hI4 hm4;go_wp2_with (fail);(with_reducible refine(HC58.out).mono ?_);rintro e wq ⟨rfl,h5⟩;have hI:=HI4.out.to_ hR h5;have hrow:=Hrow4.out.keep h5.1.size (fun i h1 h2=>h5.1.block i h2 (by intro e;have:=Option.some.inj e;omega));have hmp:=Hm4.out.grown h5.1 (by intro e;have:=Option.some.inj e;omega);clear h5 HC58 HI4 Hrow4 Hm4 HK HI Hrow hGlt;have his:=His.out;have hPn:Ay s.data.toList q+1<=s.size:=by omega
      generalize hpn:Ay s.data.toList q+1=p2 at*
      unfold Gt at his;obtain⟨aV,cV,rfl⟩:=hrow.slice;have rdi:=H.out.to hI.went;have hC: ∀W,Below wq.heap.size wq W->Calls Tryz.prog 170 #[.pointer (some ⟨R,0,none⟩),.int .i64 (d+1)] W (Hs R g s W (Cf n s.data.toList p2 (d+1))):=fun W hW=>Ih.out n (by omega) W p2 (d+1) (rdi.later hW) hPn (by omega) (by omega) (by omega);have hw:=(I5 n).1 s.data.toList p2 (d+1) (by rw[Am];exact hPn);have ewr:IntKind.i64.wrap (d+1)=d+1:=IntWalk.i64_in _ (by omega);have hgv:=hI.var.lt;have dl:(dO acc).length=acc.length:=Dg _;have hGlt:=hmp.lt
      cases hr:Cf n s.data.toList p2 (d+1)with
      |bad c q'=>
       rw[hr]at hC his;simp only at his;subst his;have Hv0:=qz hI.var.drew;have HRow:=qz hrow;have HRw:=qz (show R<wq.heap.size by have:=hI.went.1.size;omega);obtain⟨HC,HI,Dl⟩:=hid3 hC hI dl;clear hC hI dl;clear hw hr rdi hrow hmp His;go_upto_region 9 with(fail);refine wp_region_held_drew (S:=fun _=>True) (by kernel_rfl) trivial (fun hHeld=> ?_);refine tkH 0 hHeld ?_;refine tkH 2 hHeld ?_;refine tkH 3 hHeld ?_;refine tkH 4 hHeld ?_;refine tkH 5 hHeld ?_;refine wpAnyH_ready (rs:= [1,6]) (by kernel_rfl) (by simp) ?_;refine AllReadyH.cons rfl (fun K hK=> ?_) (AllReadyH.cons rfl (fun K hK=> ?_) AllReadyH.nil)
       . skip;have e4:=Hv0.out.cell 5;go_simp;refine hK.out _ _ trivial (fun hHeld=> ?_);clear hK K e4
         try simp only[Act.put,tk4,tk5,tk6]
         refine wpAnyH_ready (rs:= [6]) (by kernel_rfl) (by simp) ?_;refine AllReadyH.cons rfl (fun K hK=> ?_) AllReadyH.nil;go_simp;(with_reducible refine(HC.out _ (Below.drew (Below.refl _ _))).mono ?_);rintro e w4 ⟨rfl,hg⟩;exact⟨rfl,rfl,Bj HI.out.went.1 ⟨hg.os,hg.tape,hg.output,hg.size,hg.block⟩⟩
       . skip;go_simp;(with_reducible refine(HC.out _ (Below.drew (Below.refl _ _))).mono ?_);rintro e w4 ⟨rfl,hg⟩;exact⟨rfl,rfl,Bj HI.out.went.1 ⟨hg.os,hg.tape,hg.output,hg.size,hg.block⟩⟩
      |ok v q'=>
       rw[hr]at hC his hw;simp only at his;obtain⟨hw3,hw4⟩:=hw;rw[Am]at hw4;obtain⟨k',b',n',t',l',o'⟩:=v;have htk:dO acc++ [dP (KK,.mk k' b' n' t' l' o')]=dO (acc++ [(KK,.mk k' b' n' t' l' o')]):=by rw[D4,D4];simp
       have HLo:Hid ((dO acc).length+1<=maxLen/\((dO acc).length+1)*104<=140737488355328):=by rw[dl];exact⟨by simp only[maxLen];omega,by omega⟩
       have Hv0:=qz hI.var.drew;have HRow:=qz hrow;have HRw:=qz (show R<wq.heap.size by have:=hI.went.1.size;omega);obtain⟨HMp,His',HC,HI,Dl,Htk⟩:=hid6 hmp his hC hI dl htk;clear hC hI dl htk;clear hr rdi hrow hmp His his;go_upto_region 9 with(fail);go_cut [] (fun wx=>Hid (∃V,RdL w wx R g s q' #[.int .i64 6,.bool false,.int .i64 0,.string ⟨#[]⟩,.slice none 0 0,V]/\Ej (G+1) 74 7 wx (dO (acc++ [(KK,.mk k' b' n' t' l' o')])) V/\Ci Value.string wx G (Sk acc++ [(KK,.agg #[])])))
       case first=>
        refine wp_region_held_drew (S:=fun _=>True) (by kernel_rfl) trivial (fun hHeld=> ?_);refine tkH 0 hHeld ?_;refine tkH 2 hHeld ?_;refine tkH 3 hHeld ?_;refine tkH 4 hHeld ?_;refine tkH 5 hHeld ?_;refine wpAnyH_ready (rs:= [1,6]) (by kernel_rfl) (by simp) ?_;refine AllReadyH.cons rfl (fun K hK=> ?_) (AllReadyH.cons rfl (fun K hK=> ?_) AllReadyH.nil)
        . skip;have e4:=Hv0.out.cell 5;go_simp;refine hK.out _ _ trivial (fun hHeld=> ?_);clear hK K e4
          try simp only[Act.put,tk4,tk5,tk6]
          refine wpAnyH_ready (rs:= [6]) (by kernel_rfl) (by simp) ?_;refine AllReadyH.cons rfl (fun K hK=> ?_) AllReadyH.nil;go_simp;(with_reducible refine(HC.out _ (Below.drew (Below.refl _ _))).mono ?_);rintro e w4 ⟨⟨cs,rfl,hf4⟩,h4⟩;obtain⟨la4,lc4,oa4,oc4,rfl⟩:=Eu hf4;obtain⟨wm,hs1,hs2,hs3⟩:=I8 HRw.out h4.undrew.1;have hI4:=HI.out.to_ hR h4.undrew;have Hrow4:=qz (HRow.out.keep (by rw[hs1];exact Nat.le_refl _) (fun i h1 _=>hs2 i (by omega)));have Hf4:Hid (An wm.heap.size w4 (dV (.mk k' b' n' t' l' o')) [.int .i64 k',.bool b',.int .i64 n',.string t',.slice la4 l'.length lc4,.slice oa4 o'.length oc4]):=by rw[hs1];exact hf4
          have Hv4:=qz hI4.var;obtain⟨Hs3,HI4⟩:=hid2 hs3 hI4;clear hs3 hI4;have HMp4:=qz (HMp.out.grown h4.undrew.1 (by intro e;have:=Option.some.inj e;omega));clear hf4 h4 hs2;refine hK.out _ _ trivial (fun hHeld=> ?_);clear hK K
          try simp only[Act.put,tk4,tk5,tk6]
          refine tkH 7 hHeld ?_;refine wpAnyH_ready (rs:= [8]) (by kernel_rfl) (by simp) ?_;refine AllReadyH.cons rfl (fun K hK=> ?_) AllReadyH.nil;go_simp;have Hv5:=qz (Hv4.out.alloc (.cells #[.string KK,.int .i64 k',.bool b',.int .i64 n',.string t',.slice la4 l'.length lc4,.slice oa4 o'.length oc4] 74));refine hK.out _ _ trivial (fun hHeld=> ?_);clear hK K
          try simp only[Act.put,tk4,tk5,tk6]
          refine wpAnyH_ready (rs:= [9]) (by kernel_rfl) (by simp) ?_;refine AllReadyH.cons rfl (fun K hK=> ?_) AllReadyH.nil;have hbe:=Hs3.out.alloc Hs3.out.size (.cells #[.string KK,.int .i64 k',.bool b',.int .i64 n',.string t',.slice la4 l'.length lc4,.slice oa4 o'.length oc4] 74);have hfe:=(Da (key:=KK) Hf4.out).later (Aa w4 (.cells #[.string KK,.int .i64 k',.bool b',.int .i64 n',.string t',.slice la4 l'.length lc4,.slice oa4 o'.length oc4] 74));refine Ca (d:=dP (KK,.mk k' b' n' t' l' o')) (V:=.slice aV (dO acc).length cV) (by rfl) (.tmp 33) (.tmp 40) 40 (by rfl) Tryz.underlying40 Hj.out Hy0.out Hy1.out Hy2.out rfl (by omega) (by rfl) Hrow4.out (by omega) hbe (Cv _) hfe (by rfl) (E7 w4 _ _ _ _ _ _ _) HLo.out.1 HLo.out.2 ?_;intro V6 w6 hrow6 hg6 hat6;have hto6:=Bn.app (HI4.out.went.alloc (.cells #[.string KK,.int .i64 k',.bool b',.int .i64 n',.string t',.slice la4 l'.length lc4,.slice oa4 o'.length oc4] 74)) hg6 Hrow4.out (by omega) hR;have hres6:=Dj (HI4.out.res.alloc (.cells #[.string KK,.int .i64 k',.bool b',.int .i64 n',.string t',.slice la4 l'.length lc4,.slice oa4 o'.length oc4] 74)) hg6 Hrow4.out (by omega);have hv6:=Dj Hv5.out hg6 Hrow4.out (by omega);have hm6:=(HMp4.out.alloc (.cells #[.string KK,.int .i64 k',.bool b',.int .i64 n',.string t',.slice la4 l'.length lc4,.slice oa4 o'.length oc4] 74)).grown hg6 (by intro e;have:=(Hrow4.out.base _ e.symm).1;omega);rw[Htk.out]at hrow6;refine hK.out _ _ trivial (fun hHeld=> ?_);clear hK K hg6 hat6 hfe hbe
          try simp only[Act.put,tk4]
          refine tkH 10 hHeld ?_;refine wpAnyH_ready (rs:= [11]) (by kernel_rfl) (by simp) ?_;refine AllReadyH.cons rfl (fun K hK=> ?_) AllReadyH.nil;have e6:=hv6.cell 5;have f6:=hv6.frozen 5;have hg6v:=hv6.lt;obtain⟨a6,c6,rfl⟩:=hrow6.slice;go_simp;refine hK.out _ _ trivial (fun hHeld=> ?_);clear hK K
          try simp only[Act.put,tk4,tk5,tk6]
          refine wpAnyH_done (by kernel_rfl) ?_ _;go_wp2;go_meet;exact⟨_,⟨hto6.setN _ (by simp) hR _,hres6.far (by simp) _,hv6.set_ 5 _⟩,hrow6.keep (by simp[World.setCell]) (fun i h1 _=>Below.heap_setCell _ _ _ _ (by simp;omega)),hm6.setCell (by simp;omega) _⟩
        . skip;go_simp;(with_reducible refine(HC.out _ (Below.drew (Below.refl _ _))).mono ?_);rintro e w4 ⟨⟨cs,rfl,hf4⟩,h4⟩;obtain⟨la4,lc4,oa4,oc4,rfl⟩:=Eu hf4;obtain⟨wm,hs1,hs2,hs3⟩:=I8 HRw.out h4.undrew.1;have hI4:=HI.out.to_ hR h4.undrew;have Hrow4:=qz (HRow.out.keep (by rw[hs1];exact Nat.le_refl _) (fun i h1 _=>hs2 i (by omega)));have Hf4:Hid (An wm.heap.size w4 (dV (.mk k' b' n' t' l' o')) [.int .i64 k',.bool b',.int .i64 n',.string t',.slice la4 l'.length lc4,.slice oa4 o'.length oc4]):=by rw[hs1];exact hf4
          have Hv4:=qz hI4.var;obtain⟨Hs3,HI4⟩:=hid2 hs3 hI4;clear hs3 hI4;have HMp4:=qz (HMp.out.grown h4.undrew.1 (by intro e;have:=Option.some.inj e;omega));clear hf4 h4 hs2;refine hK.out _ _ trivial (fun hHeld=> ?_);clear hK K
          try simp only[Act.put,tk4,tk5,tk6]
          refine tkH 7 hHeld ?_;refine wpAnyH_ready (rs:= [1,8]) (by kernel_rfl) (by simp) ?_;refine AllReadyH.cons rfl (fun K hK=> ?_) (AllReadyH.cons rfl (fun K hK=> ?_) AllReadyH.nil)
          . skip;have e4:=Hv4.out.cell 5;go_simp;refine hK.out _ _ trivial (fun hHeld=> ?_);clear hK K e4
            try simp only[Act.put,tk4,tk5,tk6]
            refine wpAnyH_ready (rs:= [8]) (by kernel_rfl) (by simp) ?_;refine AllReadyH.cons rfl (fun K hK=> ?_) AllReadyH.nil;go_simp;have Hv5:=qz (Hv4.out.alloc (.cells #[.string KK,.int .i64 k',.bool b',.int .i64 n',.string t',.slice la4 l'.length lc4,.slice oa4 o'.length oc4] 74));refine hK.out _ _ trivial (fun hHeld=> ?_);clear hK K
            try simp only[Act.put,tk4,tk5,tk6]
            refine wpAnyH_ready (rs:= [9]) (by kernel_rfl) (by simp) ?_;refine AllReadyH.cons rfl (fun K hK=> ?_) AllReadyH.nil;have hbe:=Hs3.out.alloc Hs3.out.size (.cells #[.string KK,.int .i64 k',.bool b',.int .i64 n',.string t',.slice la4 l'.length lc4,.slice oa4 o'.length oc4] 74);have hfe:=(Da (key:=KK) Hf4.out).later (Aa w4 (.cells #[.string KK,.int .i64 k',.bool b',.int .i64 n',.string t',.slice la4 l'.length lc4,.slice oa4 o'.length oc4] 74));refine Ca (d:=dP (KK,.mk k' b' n' t' l' o')) (V:=.slice aV (dO acc).length cV) (by rfl) (.tmp 33) (.tmp 40) 40 (by rfl) Tryz.underlying40 Hj.out Hy0.out Hy1.out Hy2.out rfl (by omega) (by rfl) Hrow4.out (by omega) hbe (Cv _) hfe (by rfl) (E7 w4 _ _ _ _ _ _ _) HLo.out.1 HLo.out.2 ?_;intro V6 w6 hrow6 hg6 hat6;have hto6:=Bn.app (HI4.out.went.alloc (.cells #[.string KK,.int .i64 k',.bool b',.int .i64 n',.string t',.slice la4 l'.length lc4,.slice oa4 o'.length oc4] 74)) hg6 Hrow4.out (by omega) hR;have hres6:=Dj (HI4.out.res.alloc (.cells #[.string KK,.int .i64 k',.bool b',.int .i64 n',.string t',.slice la4 l'.length lc4,.slice oa4 o'.length oc4] 74)) hg6 Hrow4.out (by omega);have hv6:=Dj Hv5.out hg6 Hrow4.out (by omega);have hm6:=(HMp4.out.alloc (.cells #[.string KK,.int .i64 k',.bool b',.int .i64 n',.string t',.slice la4 l'.length lc4,.slice oa4 o'.length oc4] 74)).grown hg6 (by intro e;have:=(Hrow4.out.base _ e.symm).1;omega);rw[Htk.out]at hrow6;refine hK.out _ _ trivial (fun hHeld=> ?_);clear hK K hg6 hat6 hfe hbe
            try simp only[Act.put,tk4]
            refine tkH 10 hHeld ?_;refine wpAnyH_ready (rs:= [11]) (by kernel_rfl) (by simp) ?_;refine AllReadyH.cons rfl (fun K hK=> ?_) AllReadyH.nil;have e6:=hv6.cell 5;have f6:=hv6.frozen 5;have hg6v:=hv6.lt;obtain⟨a6,c6,rfl⟩:=hrow6.slice;go_simp;refine hK.out _ _ trivial (fun hHeld=> ?_);clear hK K
            try simp only[Act.put,tk4,tk5,tk6]
            refine wpAnyH_done (by kernel_rfl) ?_ _;go_wp2;go_meet;exact⟨_,⟨hto6.setN _ (by simp) hR _,hres6.far (by simp) _,hv6.set_ 5 _⟩,hrow6.keep (by simp[World.setCell]) (fun i h1 _=>Below.heap_setCell _ _ _ _ (by simp;omega)),hm6.setCell (by simp;omega) _⟩
          . skip;go_simp;have Hv5:=qz (Hv4.out.alloc (.cells #[.string KK,.int .i64 k',.bool b',.int .i64 n',.string t',.slice la4 l'.length lc4,.slice oa4 o'.length oc4] 74));refine hK.out _ _ trivial (fun hHeld=> ?_);clear hK K
            try simp only[Act.put,tk4,tk5,tk6]
            refine wpAnyH_ready (rs:= [1]) (by kernel_rfl) (by simp) ?_;refine AllReadyH.cons rfl (fun K hK=> ?_) AllReadyH.nil;have e4:=Hv5.out.cell 5;go_simp;refine hK.out _ _ trivial (fun hHeld=> ?_);clear hK K e4
            try simp only[Act.put,tk4,tk5,tk6]
            refine wpAnyH_ready (rs:= [9]) (by kernel_rfl) (by simp) ?_;refine AllReadyH.cons rfl (fun K hK=> ?_) AllReadyH.nil;have hbe:=Hs3.out.alloc Hs3.out.size (.cells #[.string KK,.int .i64 k',.bool b',.int .i64 n',.string t',.slice la4 l'.length lc4,.slice oa4 o'.length oc4] 74);have hfe:=(Da (key:=KK) Hf4.out).later (Aa w4 (.cells #[.string KK,.int .i64 k',.bool b',.int .i64 n',.string t',.slice la4 l'.length lc4,.slice oa4 o'.length oc4] 74));refine Ca (d:=dP (KK,.mk k' b' n' t' l' o')) (V:=.slice aV (dO acc).length cV) (by rfl) (.tmp 33) (.tmp 40) 40 (by rfl) Tryz.underlying40 Hj.out Hy0.out Hy1.out Hy2.out rfl (by omega) (by rfl) Hrow4.out (by omega) hbe (Cv _) hfe (by rfl) (E7 w4 _ _ _ _ _ _ _) HLo.out.1 HLo.out.2 ?_;intro V6 w6 hrow6 hg6 hat6;have hto6:=Bn.app (HI4.out.went.alloc (.cells #[.string KK,.int .i64 k',.bool b',.int .i64 n',.string t',.slice la4 l'.length lc4,.slice oa4 o'.length oc4] 74)) hg6 Hrow4.out (by omega) hR;have hres6:=Dj (HI4.out.res.alloc (.cells #[.string KK,.int .i64 k',.bool b',.int .i64 n',.string t',.slice la4 l'.length lc4,.slice oa4 o'.length oc4] 74)) hg6 Hrow4.out (by omega);have hv6:=Dj Hv5.out hg6 Hrow4.out (by omega);have hm6:=(HMp4.out.alloc (.cells #[.string KK,.int .i64 k',.bool b',.int .i64 n',.string t',.slice la4 l'.length lc4,.slice oa4 o'.length oc4] 74)).grown hg6 (by intro e;have:=(Hrow4.out.base _ e.symm).1;omega);rw[Htk.out]at hrow6;refine hK.out _ _ trivial (fun hHeld=> ?_);clear hK K hg6 hat6 hfe hbe
            try simp only[Act.put,tk4]
            refine tkH 10 hHeld ?_;refine wpAnyH_ready (rs:= [11]) (by kernel_rfl) (by simp) ?_;refine AllReadyH.cons rfl (fun K hK=> ?_) AllReadyH.nil;have e6:=hv6.cell 5;have f6:=hv6.frozen 5;have hg6v:=hv6.lt;obtain⟨a6,c6,rfl⟩:=hrow6.slice;go_simp;refine hK.out _ _ trivial (fun hHeld=> ?_);clear hK K
            try simp only[Act.put,tk4,tk5,tk6]
            refine wpAnyH_done (by kernel_rfl) ?_ _;go_wp2;go_meet;exact⟨_,⟨hto6.setN _ (by simp) hR _,hres6.far (by simp) _,hv6.set_ 5 _⟩,hrow6.keep (by simp[World.setCell]) (fun i h1 _=>Below.heap_setCell _ _ _ _ (by simp;omega)),hm6.setCell (by simp;omega) _⟩
       obtain⟨V',hI5,hrow5,hmp5⟩:=hcut.out;have hG5:=hmp5.lt;have hq':Ay s.data.toList q'<=s.size:=D1 hw4;have hq1:=C7 s.data.toList q';have hnd:=Aga Hkk.out Hnod.out (.mk k' b' n' t' l' o');clear hcut HC HI Dl Htk Hv0 HRow HRw HLo ewr HMp Hkk Hnod
       cases h44:decide (s.data.toList[Ay s.data.toList q']? =some 44)with
       |true=>
        have hC44:=Eh R g s q' 44 44 (by decide) wc (by omega) hw4 hI5.went.2 h44;rw[if_pos rfl]at hC44;have hc:=h44;rw[decide_eq_true_iff]at hc;have hr':=His'.out;rw[if_pos hc]at hr';have hlt8:=Em hc;rw[Am]at hlt8;clear hc h44;obtain⟨HI5,Hrow5,HC44,Hr',Hmp5,Hnd⟩:=hid6 hI5 hrow5 hC44 hr' hmp5 hnd;clear hI5 hrow5 hC44 hr' hmp5 hnd;go_wp2_with (fail);(with_reducible refine(HC44.out).mono ?_);rintro e w8 ⟨rfl,h8⟩;have HN:Hid (ORd w w8 R g s d RES G (f+1) n (Ay s.data.toList q'+1) (acc++ [(KK,.mk k' b' n' t' l' o')]) V'):=⟨HI5.out.to_ hR h8,Hrow5.out.keep h8.1.size (fun i h1 h2=>h8.1.block i h2 (by intro e;have:=Option.some.inj e;omega)),by simpa[Sk]using Hmp5.out.grown h8.1 (by intro e;have:=Option.some.inj e;omega),Hnd.out,Hr'.out,by omega,by omega,by simp;omega⟩;clear h8;go_wp2
        go_roundg n
        case measure=>omega
        case rel=>exact⟨n,_,_,_,rfl,by omega,HN⟩
       |false=>
        have hC44:=Eh R g s q' 44 44 (by decide) wc (by omega) hw4 hI5.went.2 h44;rw[if_neg (by decide)]at hC44;have hc:=h44;rw[decide_eq_false_iff_not]at hc;have hr':=His'.out;rw[if_neg hc]at hr';clear hc h44
        cases h93:decide (s.data.toList[Ay s.data.toList q']? =some 125)with
        |true=>
         have hc:=h93;rw[decide_eq_true_iff]at hc;rw[if_pos hc]at hr';clear hc;subst hr';obtain⟨HI5,Hrow5,HC44,H93,Hnd⟩:=hid5 hI5 hrow5 hC44 h93 hnd;clear hI5 hrow5 hC44 h93 hnd;go_wp2_with (fail);(with_reducible refine(HC44.out).mono ?_);rintro e w8 ⟨rfl,h8⟩;have h93':=H93.out;rw[<-G8]at h93';have hC93:=Eh R g s (Ay s.data.toList q') 125 125 (by decide) w8 (by omega) hq' h8.2 h93';rw[if_pos rfl,G8]at hC93;have hI8:=HI5.out.to_ hR h8;have hz8:=h8.1.size;have Hrow8:=qz (Hrow5.out.keep h8.1.size (fun i h1 h2=>h8.1.block i h2 (by intro e;have:=Option.some.inj e;omega)));clear h8 h93';obtain⟨HI8,HC93⟩:=hid2 hI8 hC93;clear hI8 hC93;go_wp2_with (fail);(with_reducible refine(HC93.out).mono ?_);rintro e w9 ⟨rfl,h9⟩;have hI9:=HI8.out.to_ hR h9;have hz9:=h9.1.size;have hrow9:=Hrow8.out.keep h9.1.size (fun i h1 h2=>h9.1.block i h2 (by intro e;have:=Option.some.inj e;omega));clear h9;obtain⟨a',c',rfl⟩:=hrow9.slice;have hGw:G+1<=w9.heap.size:=by omega
         have HS:=qz (T9 hrow9 (by omega) Hnd.out (by simp;omega));have y5:=hI9.var.cell 5;have hgv9:=hI9.var.lt;obtain⟨HI9,Hrow9⟩:=hid2 hI9 hrow9;clear hI9 hrow9;go_wp2_with (fail);(with_reducible refine(HS.out).mono ?_);rintro e w10 ⟨rfl,hg10,hf10⟩;have hto:=Bn.app HI9.out.went hg10 Hrow9.out (by omega) hR;have hI10:RdL w w10 R g s (Ay s.data.toList q'+1) #[.int .i64 6,.bool false,.int .i64 0,.string ⟨#[]⟩,.slice none 0 0,.slice a' (dO (acc++ [(KK,.mk k' b' n' t' l' o')])).length c']:=⟨hto,Dj HI9.out.res hg10 Hrow9.out (by omega),Dj HI9.out.var hg10 Hrow9.out (by omega)⟩;clear hto hg10 y5 hgv9;obtain⟨y0,y1,y2,y3,y4,y5⟩:=Bd hI10.var;obtain⟨r0,r1,r2,r3,r4,r5⟩:=Bd hI10.res;have fz:=hI10.res.frozen;have el:(dO (acc++ [(KK,.mk k' b' n' t' l' o')])).length=acc.length+1:=by rw[Dg];simp
         rw[el]at y5 hf10;obtain⟨hxf,hto⟩:=hI10.leave hR (.int .i64 6) (.bool false) (.int .i64 0) (.string ⟨#[]⟩) (.slice none 0 0) (.slice a' (acc.length+1) c');have Hff:=qz (Ad4 (hf10.keep (b':=w.heap.size) (w':=A7 w10 w.heap.size 0 [.int .i64 6,.bool false,.int .i64 0,.string ⟨#[]⟩,.slice none 0 0,.slice a' (acc.length+1) c']) (by omega) (by rw[Aw];exact Nat.le_refl _) (fun p p1 p2=>World.cell?_of_block (Ar _ _ _ _ _ (by omega)))));obtain⟨HI10,Hxf,Hto,Hf10⟩:=hid4 hI10 hxf hto hf10;clear hI10 hxf hto hf10;go_upto_region 14 with(fail);go_wp2;rw[Exit.noGoto_ret];exact bodyPost_ret (Aq rfl rfl Hxf.out) rfl ⟨⟨_,rfl,Hff.out⟩,Hto.out⟩
        |false=>
         have hc:=h93;rw[decide_eq_false_iff_not]at hc;rw[if_neg hc]at hr';clear hc;subst hr';obtain⟨HI5,Hrow5,HC44,H93⟩:=hid4 hI5 hrow5 hC44 h93;clear hI5 hrow5 hC44 h93;go_wp2_with (fail);(with_reducible refine(HC44.out).mono ?_);rintro e w8 ⟨rfl,h8⟩;have h93':=H93.out;rw[<-G8]at h93';have hC93:=Eh R g s (Ay s.data.toList q') 125 125 (by decide) w8 (by omega) hq' h8.2 h93';rw[if_neg (by decide),G8]at hC93;have HI8:=qz (HI5.out.to_ hR h8);clear h8 h93';have HC93:=qz hC93;clear hC93;go_wp2_with (fail);(with_reducible refine(HC93.out).mono ?_);rintro e w9 ⟨rfl,h9⟩;have HI9:=qz (HI8.out.to_ hR h9);obtain⟨z0,z1,_,_,_⟩:=h9.2.cells;clear h9;have HW:=qz (Ch (.pointer (some ⟨R,0,none⟩)) 4 (Ay s.data.toList q':Nat) w9);go_wp2_with (fail);(with_reducible refine(HW.out).mono ?_);rintro e w10 ⟨rfl,rfl⟩;exact⟨rfl,rfl,HI9.out.went.1⟩
def Q9 (w:World):Prop:= ∃te pe,w.cell? ⟨8,0,none⟩=some (.iface te pe)
structure NRd (w wr:World) (R g:Nat) (s:ByteArray) (j:Nat):Prop where
 went:Bn R g s j w wr
 res:Aj wr w.heap.size 42 Ak
theorem Zk (R g:Nat) (s:ByteArray) (k:Nat) (d:Int) (w:World) (hN: ∀W,w.grownBy W (some R)->Q9 W) (hs:s.size<=100000000) (hk:k<s.size) (h:Ue w R g s k):
 Calls Tryz.prog 216 #[.pointer (some ⟨R,0,none⟩),.int .i64 d] w (Hs R g s w ((Gm s.data.toList k).map Tn)):=by
 have hR:R<w.heap.size:=Aj.lt h;obtain⟨c,hc⟩: ∃c,s[k]=c:=⟨_,rfl⟩;have hg:s.data.toList[k]? =some c:=by rw[D6 s hk,hc]
 have hcl:=Du c;obtain⟨F,hF⟩: ∃F,(if s.data.toList[k]? =some 45 then k+1 else k)=F:=⟨_,rfl⟩;obtain⟨RES,hRES⟩: ∃r,(Gm s.data.toList k).map Tn=r:=⟨_,rfl⟩;rw[hRES];unfold Gm at hRES;rw[hF]at hRES;have hFk:k<=F/\F<=k+1:=by rw[<-hF];split<;>omega
 have HI0:Hid (NRd w (w.alloc (.cells Ak 42)) R g s k):=⟨(Bn.refl h).alloc _,Aj.new _ _ _⟩;have hb45:((c.toNat:Int)==45)=decide (c=45):=by rw[show(45:Int)=((45:Nat):Int)from rfl,Oz (by decide)];rfl
 obtain⟨c0,c1,_,f1,_⟩:=h.cells;have i0:(0:Int)<=(k:Int):=by omega
 have i1:(k:Int)<(s.size:Int):=by omega
 obtain⟨HN,H,HRES,Hg,HF⟩:=hid5 hN h hRES hg hF;clear hN h hRES hg hF;go_enter Tryz.func216,Tryz.ntmps216;go_wp2;go_quiet (fail);go_upto_if 22 with(fail);go_cut [] (fun wx=>Hid (NRd w wx R g s F))
 case first=>
  by_cases h45:c=45
  . have e45:decide (c=45)=true:=decide_eq_true h45;have eF:F=k+1:=by rw[<-HF.out,Hg.out,h45,if_pos rfl]
    go_wp2;go_meet;rw[eF];exact⟨(HI0.out.went.drewN _).set _,HI0.out.res.far (by simp;omega) _⟩
  . have e45:decide (c=45)=false:=decide_eq_false h45;have eF:F=k:=by rw[<-HF.out,Hg.out,if_neg (by simpa using h45)]
    go_wp2;go_meet;rw[eF];exact⟨HI0.out.went.drewN _,HI0.out.res⟩
 have hd0:=Us s.data.toList F;have hd1:=Ut (s:=s.data.toList) (p:=F) (by rw[Am];omega);rw[Am]at hd1;have HI1:=hcut;obtain⟨E,hE⟩: ∃E,Dc s.data.toList F=E:=⟨_,rfl⟩;rw[hE]at hd0 hd1;clear hcut HI0 c0 c1 f1 i0 i1;obtain⟨a0,a1,_,f1,_⟩:=HI1.out.went.2.cells;have HE:=qz hE;clear hE
 go_upto_block 0 with(fail)
 go_cut [] (fun wx=>Hid (NRd w wx R g s E))
 case first=>
  go_wp2_with (fail)
  go_loopg [] (s.size - F) (fun n wr=> ∃j:Nat,F<=j/\j<=s.size/\n=s.size - j/\Hid (Dc s.data.toList j=E/\NRd w wr R g s j))
  case atStart=>exact⟨F,Nat.le_refl _,by omega,rfl,HE.out,HI1.out⟩
  case round=>
   obtain⟨j,hjF,hj,rfl,hh⟩:=hrel;obtain⟨z0,z1,_,z3,_⟩:=hh.out.2.went.2.cells;clear HI1 a0 a1 f1;have j0:(0:Int)<=(j:Int):=by omega
   by_cases hlt:j<s.size
   . obtain⟨x,hx⟩: ∃x,s[j]=x:=⟨_,rfl⟩;have hxg:s.data.toList[j]? =some x:=by rw[D6 s hlt,hx]
     have hxl:=Du x;have j1:decide ((j:Int)<(s.size:Int))=true:=decide_eq_true (by omega);have j2:(j:Int)<(s.size:Int):=by omega
     by_cases hdg:G6 x=true
     . have HN':Hid (Dc s.data.toList (j+1)=E/\ ∀nq,NRd w ((wr.drewN nq).setCell ⟨R,1,none⟩ (.int .i64 ((j+1:Nat):Int))) R g s (j+1)):=⟨by rw[<-X6 hxg hdg];exact hh.out.1,fun nq=>⟨(hh.out.2.went.drewN nq).set _,hh.out.2.res.far (by simp;omega) _⟩⟩;unfold G6 at hdg;rw[decide_eq_true_iff]at hdg;have l1:decide ((48:Int)<=(x.toNat:Int))=true:=decide_eq_true (by omega);have l2:decide ((x.toNat:Int)<=57)=true:=decide_eq_true (by omega);clear hxg hh hdg;go_wp2;go_quiet (fail);go_wp2
       go_roundg (s.size - (j+1))
       case measure=>omega
       case rel=>exact⟨j+1,by omega,by omega,rfl,HN'.out.1,HN'.out.2 _⟩
     . have HN':Hid (j=E/\ ∀nq,NRd w (wr.drewN nq) R g s j):=⟨by rw[<-hh.out.1,X7 hxg (by simpa using hdg)],fun nq=>⟨hh.out.2.went.drewN nq,hh.out.2.res⟩⟩;unfold G6 at hdg;rw[decide_eq_true_iff]at hdg;clear hxg hh;by_cases h48:48<=x.toNat
       . have l1:decide ((48:Int)<=(x.toNat:Int))=true:=decide_eq_true (by omega);have l2:decide ((x.toNat:Int)<=57)=false:=decide_eq_false (by omega);go_wp2;go_quiet (fail);go_wp2;go_meet;have:=HN'.out.2;rw[HN'.out.1]at this;exact this _
       . have l1:decide ((48:Int)<=(x.toNat:Int))=false:=decide_eq_false (by omega);go_wp2;go_quiet (fail);go_wp2;go_meet;have:=HN'.out.2;rw[HN'.out.1]at this;exact this _
   . have HN':Hid (j=E/\ ∀nq,NRd w (wr.drewN nq) R g s j):=⟨by rw[<-hh.out.1,Aa1 (by rw[Am];omega)],fun nq=>⟨hh.out.2.went.drewN nq,hh.out.2.res⟩⟩;have j1:decide ((j:Int)<(s.size:Int))=false:=decide_eq_false (by omega);clear hh;go_wp2;go_quiet (fail);go_wp2;go_meet;have:=HN'.out.2;rw[HN'.out.1]at this;exact this _
 have HI2:=hcut;clear hcut HI1 a0 a1 f1;obtain⟨a0,a1,_,f1,_⟩:=HI2.out.went.2.cells
 go_upto_block 2 with(fail)
 go_cut [] (fun wx=>Hid (NRd w wx R g s E/\F<E/\(F=k+1->J6 ((s.data.toList.drop F).take (E - F))≠0)/\(Iu (decide (s.data.toList[k]? =some 45)) (J6 ((s.data.toList.drop F).take (E - F))) k E).map Tn=RES))
 case first=>
  have hres:=HRES.out;unfold Rq at hres;rw[HE.out]at hres;have F0:(0:Int)<=(F:Int):=by omega
  by_cases hEF:E=F
  . rw[if_pos hEF]at hres;subst hres;subst hEF;have e1:((E:Int)==(E:Int))=true:=by simp
    have HW:=qz (Ch (.pointer (some ⟨R,0,none⟩)) 4 (E:Nat) wc);go_wp2_with (fail);(with_reducible refine(HW.out).mono ?_);rintro e w10 ⟨rfl,rfl⟩;exact⟨rfl,rfl,HI2.out.went.1⟩
  . rw[if_neg hEF]at hres;have e1:((E:Int)==(F:Int))=false:=by rw[beq_eq_false_iff_ne];omega
    have hFs:F<s.size:=by omega
    have F1:(F:Int)<(s.size:Int):=by omega
    obtain⟨x,hx⟩: ∃x,s[F]=x:=⟨_,rfl⟩;have hxg:s.data.toList[F]? =some x:=by rw[D6 s hFs,hx]
    have hxl:=Du x;rw[hxg]at hres;have hx48:((x.toNat:Int)==48)=decide (x=48):=by rw[show(48:Int)=((48:Nat):Int)from rfl,Oz (by decide)];rfl
    by_cases hz:x=48
    . have e48:decide (x=48)=true:=decide_eq_true hz;rw[e48]at hx48;by_cases hm:F+1<E
      . rw[if_pos ⟨by rw[hz],hm⟩]at hres;subst hres;have e2:decide ((F:Int)+1<(E:Int))=true:=decide_eq_true (by omega);have e3:(F:Int)+1<(E:Int):=by omega
        have HW:=qz (Ch (.pointer (some ⟨R,0,none⟩)) 4 ((F:Int)+1) wc);go_wp2_with (fail);(with_reducible refine(HW.out).mono ?_);rintro e w10 ⟨rfl,rfl⟩;exact⟨rfl,by simp[Ln],HI2.out.went.1⟩
      . rw[if_neg (fun q=>hm q.2)]at hres;have e2:decide ((F:Int)+1<(E:Int))=false:=decide_eq_false (by omega);have e3: ¬((F:Int)+1<(E:Int)):=by omega
        have hEF1:E=F+1:=by omega
        have hds:(s.data.toList.drop F).take (E - F)= [48]:=by rw[hEF1,Nat.add_sub_cancel_left,I7 hxg,hz];rfl
        by_cases hn:F=k+1
        . have h45:s.data.toList[k]? =some 45:=by
           by_cases q:s.data.toList[k]? =some 45
           . exact q
           . have:=HF.out;rw[if_neg q]at this;omega
          have e4:decide ((k:Int)<(F:Int))=true:=decide_eq_true (by omega);have e5:(k:Int)<(F:Int):=by omega
          have hr7:Iu (decide (s.data.toList[k]? =some 45)) (J6 ((s.data.toList.drop F).take (E - F))) k E=.bad 7 k:=by
           rw[hds,decide_eq_true h45];rfl
          rw[hr7]at hres;subst hres;have HW:=qz (Ch (.pointer (some ⟨R,0,none⟩)) 7 (k:Nat) wc);obtain⟨Hds,Hr7⟩:=hid2 hds hr7;clear hds hr7;clear h45 hn hEF1;go_wp2_with (fail);(with_reducible refine(HW.out).mono ?_);rintro e w10 ⟨rfl,rfl⟩;exact⟨rfl,rfl,HI2.out.went.1⟩
        . have e4:decide ((k:Int)<(F:Int))=false:=decide_eq_false (by omega);have e5: ¬((k:Int)<(F:Int)):=by omega
          have HJ:Hid (NRd w wc R g s E/\F<E/\(F=k+1->J6 ((s.data.toList.drop F).take (E - F))≠0)/\(Iu (decide (s.data.toList[k]? =some 45)) (J6 ((s.data.toList.drop F).take (E - F))) k E).map Tn=RES):=⟨HI2.out,by omega,fun q=>absurd q hn,hres⟩;clear hres hds;go_wp2;go_meet;exact HJ
    . have e48:decide (x=48)=false:=decide_eq_false hz;rw[e48]at hx48;rw[if_neg (fun q=>hz (by simpa using q.1))]at hres;have HJ:Hid (NRd w wc R g s E/\F<E/\(F=k+1->J6 ((s.data.toList.drop F).take (E - F))≠0)/\(Iu (decide (s.data.toList[k]? =some 45)) (J6 ((s.data.toList.drop F).take (E - F))) k E).map Tn=RES):=⟨HI2.out,by omega,fun _=>Aa2 hxg hz (by rw[HE.out];omega) HE.out,hres⟩;clear hres;go_wp2;go_meet;exact HJ
 obtain⟨hI3,hFE,hnz,hres⟩:=hcut.out;clear hcut HI2 a0 a1 f1;obtain⟨a0,a1,_,f1,_⟩:=hI3.went.2.cells;have k0:(0:Int)<=(k:Int):=by omega
 have k1:(k:Int)<=(E:Int):=by omega
 have k2:(E:Int)<=(s.size:Int):=by omega
 have hT:(s.extract k E).data.toList=(s.data.toList.drop k).take (E - k):=by rw[Lib.extract_data]
 have hTs:(s.extract k E).size<=100000000:=by simp only[ByteArray.size_extract];omega
 have hdig:=Adu s.data.toList F;rw[HE.out]at hdig;have hne:(s.data.toList.drop F).take (E - F)≠ []:=by
  intro e;have:=congrArg List.length e;rw[List.length_take,List.length_drop,Am]at this;simp at this;omega
 obtain⟨m,hm⟩: ∃m,J6 ((s.data.toList.drop F).take (E - F))=m:=⟨_,rfl⟩;rw[hm]at hres hnz;have hPI:Lib.parseIntB 64 (s.extract k E).data.toList=match Iu (decide (s.data.toList[k]? =some 45)) m k E with| .ok v _=> .ok v| .bad _ _=> .range:=by
  rw[hT];by_cases h45:s.data.toList[k]? =some 45
  . have eF:F=k+1:=by rw[<-HF.out,if_pos h45]
    have e1:(s.data.toList.drop k).take (E - k)=45::(s.data.toList.drop F).take (E - F):=by
     rw[I7 h45,show E - k=(E - F)+1 by omega,List.take_succ_cons,eF]
    rw[e1,Age hdig hne,hm,decide_eq_true h45];unfold Iu;rw[if_pos rfl];have:=hnz eF;by_cases hb:9223372036854775808<m
    . rw[if_pos hb,if_pos (.inr hb)]
    . rw[if_neg hb,if_neg (by rintro(q|q);exact this q;exact hb q)]
  . have eF:F=k:=by rw[<-HF.out,if_neg h45]
    rw[eF]at hdig hne hm;rw[Agf hdig hne,hm,decide_eq_false h45];unfold Iu;rw[if_neg (show ¬((false:Bool)=true)by decide)];by_cases hb:9223372036854775807<m
    . rw[if_pos hb,if_pos hb]
    . rw[if_neg hb,if_neg hb]
 have hform:(∃v,Iu (decide (s.data.toList[k]? =some 45)) m k E=.ok v E)\/Iu (decide (s.data.toList[k]? =some 45)) m k E=.bad 7 k:=by
  unfold Iu
  split
  . split
    . exact .inr rfl
    . exact .inl ⟨_,rfl⟩
  . split
    . exact .inr rfl
    . exact .inl ⟨_,rfl⟩
 clear hT hdig hne hm hnz;rcases hform with⟨v,hv⟩|hv
 . rw[hv]at hPI hres;simp only at hPI;subst hres;have hPc: ∀W:World,Calls Tryz.prog 243 #[.string (s.extract k E),.int .i64 10,.int .i64 64] W fun e w'=>e=.returned (.tuple #[.int .i64 v,.nilIface])/\Below W.heap.size W w':=fun W=>
    (Tryz.strconv_ParseInt_ok (s.extract k E) (by omega) v hPI W).mono fun e w' ⟨he,hw⟩=>⟨he,by
      rcases hw with rfl|⟨t,rfl⟩
      . exact Below.refl _ _
      . exact Go.Joins.below_bytesWorld _ _ _ _ (Nat.le_refl _)⟩
   have hlt3:=hI3.went.2.cells.2.2.2.2;obtain⟨HPc,HI3,HPI,Hv⟩:=hid4 hPc hI3 hPI hv;clear hPc hI3 hPI hv;go_wp2
   go_region_held3 (fun W=>W.cell? ⟨R,0,none⟩=some (.string s)/\W.cell? ⟨R,1,none⟩=some (.int .i64 E)) (go_keep) (first|(go_at_call 243;refine(HPc.out _).mono ?_;rintro e w1 ⟨rfl,hb1⟩;have hbr1:Below wc.heap.size wc w1:=(Below.drew (Below.refl _ _)).trans hb1;obtain⟨hc1,hf1⟩:=A8 hbr1))
   all_goals
    have hI4:NRd w w1 R g s E:=⟨HI3.out.went.below hbr1,HI3.out.res.below hbr1 HI3.out.res.lt⟩;obtain⟨r0,r1,r2,r3,r4,r5⟩:=Bd hI4.res;have fz:=hI4.res.frozen;have hlt4:=hI4.res.lt;clear hc1 hf1 hb1 hbr1;have HI4:=qz hI4;clear hI4;go_wp2;have hxf:=((((((HI4.out.res.set_ 0 (.int .i64 3)).set_ 1 (.bool false)).set_ 2 (.int .i64 v)).set_ 3 (.string ⟨#[]⟩)).set_ 4 (.slice none 0 0)).set_ 5 (.slice none 0 0));exact bodyPost_ret (Aq rfl rfl hxf) rfl ⟨⟨_,rfl,F4 3 false v _⟩,Bn.many (Nat.le_refl _) hR [.int .i64 3,.bool false,.int .i64 v,.string ⟨#[]⟩,.slice none 0 0,.slice none 0 0] 0 HI4.out.went⟩
 . rw[hv]at hPI hres;simp only at hPI;subst hres;have hPc: ∀W:World,Below wc.heap.size wc W->Calls Tryz.prog 243 #[.string (s.extract k E),.int .i64 10,.int .i64 64] W fun e w'=>(∃n te pe,e=.returned (.tuple #[.int .i64 n,.iface te pe]))/\Below W.heap.size W w':=fun W hW=>by
    obtain⟨te,pe,hte⟩:=HN.out W (Kq hI3.went.1 hW);exact(Tryz.strconv_ParseInt_range (s.extract k E) (by omega) hPI _ W hte (.inr ⟨te,pe,rfl⟩)).mono fun e w' ⟨N,he,_,_,hb⟩=>⟨⟨_,_,_,he⟩,hb⟩
   have hlt3:=hI3.went.2.cells.2.2.2.2;obtain⟨HPc,HI3,HPI,Hv⟩:=hid4 hPc hI3 hPI hv;clear hPc hI3 hPI hv;go_wp2
   go_region_held3 (fun W=>W.cell? ⟨R,0,none⟩=some (.string s)/\W.cell? ⟨R,1,none⟩=some (.int .i64 E)) (go_keep) (first|(go_at_call 243;refine(HPc.out _ (Below.drew (Below.refl _ _))).mono ?_;rintro e w1 ⟨⟨n,te,pe,rfl⟩,hb1⟩;have hbr1:Below wc.heap.size wc w1:=(Below.drew (Below.refl _ _)).trans hb1;obtain⟨hc1,hf1⟩:=A8 hbr1))
   all_goals
    have HW:=qz (Ch (.pointer (some ⟨R,0,none⟩)) 7 (k:Nat) w1);have Hgb:=qz (Kq HI3.out.went.1 hbr1);clear hc1 hf1 hb1 hbr1;go_wp2_with (fail);(with_reducible refine(HW.out).mono ?_);rintro e w10 ⟨rfl,rfl⟩;exact⟨rfl,rfl,Hgb.out⟩
end Go.Proofs.YtobmaegpfbheoaaGreatDoor
