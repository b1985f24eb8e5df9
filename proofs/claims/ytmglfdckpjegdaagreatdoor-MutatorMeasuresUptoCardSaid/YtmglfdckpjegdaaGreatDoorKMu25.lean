/- Parts: parse.reader.number. Condition: a text of at most 10^8 bytes. -/
import Derived.Deep.RegionLaw
import Derived.Test.YtmglfdckpjegdaaGreatDoorKMu22
set_option maxHeartbeats 20000000
namespace Go.Proofs.YtmglfdckpjegdaaGreatDoor
open Go Go.RowKit
structure LRd (w wr:World) (R g:Nat) (s:ByteArray) (d:Int) (RES:Rd Val) (f n j:Nat) (acc:List Val) (V:Value):Prop where
 all:RdL w wr R g s j #[.int .i64 5,.bool false,.int .i64 0,.string ⟨#[]⟩,V,.slice none 0 0]
 row:Fl (w.heap.size+2) 27 6 wr (dL acc) V
 is:Fa n s.data.toList j d acc=RES
 fuel:4*(s.size - j)+2<=n
 lt:n<f
 few:acc.length<=j
set_option maxRecDepth 100000 in
theorem Aba (w0:World) (R g:Nat) (s:ByteArray) (f:Nat) (ih: ∀f',f'<f->Anj w0 R g s f') (w:World) (k:Nat) (d:Int) (h:RdI w0 w R g s k) (hs:s.size<=100000000) (hk:k<s.size) (hf:4*(s.size - k)<=f) (hd0:0<=d) (hd:d<=64):
 Calls Tryz.prog 137 #[.pointer (some ⟨R,0,none⟩),.int .i64 d] w (Jk R g s w (L2 f s.data.toList k d)):=by
 obtain⟨j0,hj,hy0,hy1,hy2⟩:=info_parts Wx;have hR:R<w.heap.size:=Al.lt h.rd;obtain⟨f,rfl⟩: ∃n,f=n+1:=⟨f - 1,by omega⟩;have hP:=Ev (s:=s) (k:=k+1) (by omega);have hP1:=Dx s.data.toList (k+1);have hI0:RdL w (((w.setCell ⟨R,1,none⟩ (.int .i64 ((k+1:Nat):Int))).alloc (.cells Ap 27)).alloc (.cells #[.int .i64 5,.bool false,.int .i64 0,.string ⟨#[]⟩,.slice none 0 0,.slice none 0 0] 27)) R g s (k+1) #[.int .i64 5,.bool false,.int .i64 0,.string ⟨#[]⟩,.slice none 0 0,.slice none 0 0]:=by
  refine⟨(((B6.refl h.rd).set _).alloc _).alloc _, ?_, ?_⟩
  . have:=(Al.new (w.setCell ⟨R,1,none⟩ (.int .i64 ((k+1:Nat):Int))) 27 Ap).alloc (.cells #[.int .i64 5,.bool false,.int .i64 0,.string ⟨#[]⟩,.slice none 0 0,.slice none 0 0] 27);simpa[World.setCell]using this
  . have:=Al.new ((w.setCell ⟨R,1,none⟩ (.int .i64 ((k+1:Nat):Int))).alloc (.cells Ap 27)) 27 #[.int .i64 5,.bool false,.int .i64 0,.string ⟨#[]⟩,.slice none 0 0,.slice none 0 0];simpa[World.setCell]using this
 obtain⟨c0,c1,_,f1,_⟩:=h.rd.cells;have ek:((k:Int)+1)=((k+1:Nat):Int):=by omega
 obtain⟨RES,hRES⟩: ∃r,L2 (f+1) s.data.toList k d=r:=⟨_,rfl⟩;rw[hRES];unfold L2 at hRES
 cases hB:decide (s.data.toList[Ay s.data.toList (k+1)]? =some 93)with
 |true=>
  have hc:=hB;rw[decide_eq_true_iff]at hc;rw[if_pos hc]at hRES;subst hRES;clear hc;obtain⟨Hj,Hy0,Hy1,Hy2,Ih,H,HI0,Ek,HB⟩:=hid9 hj hy0 hy1 hy2 ih h hI0 ek hB;clear hj hy0 hy1 hy2 ih h hI0 ek hB;go_enter Tryz.func137,Tryz.ntmps137;go_wp2
  go_step3
  go_wp2_with (fail);rw[Ek.out];generalize ((w.setCell ⟨R,1,none⟩ (.int .i64 ((k+1:Nat):Int))).alloc (.cells Ap 27)).alloc (.cells #[.int .i64 5,.bool false,.int .i64 0,.string ⟨#[]⟩,.slice none 0 0,.slice none 0 0] 27)=w1 at HI0 ⊢;have hC:=Fi R g s (k+1) 93 93 (by decide) w1 (by omega) (by omega) HI0.out.went.2 HB.out;rw[if_pos rfl]at hC;(with_reducible refine hC.mono ?_);rintro e w2 ⟨rfl,h2⟩;have hI2:=HI0.out.to_ hR h2;obtain⟨y0,y1,y2,y3,y4,y5⟩:=Bo hI2.var;obtain⟨r0,r1,r2,r3,r4,r5⟩:=Bo hI2.res;have fz:=hI2.res.frozen;have HI2:=Lib.hid hI2;clear hI2;clear hC c0 c1 f1 h2 HI0;dsimp only
  repeat go_step
  obtain⟨hxf,hto⟩:=HI2.out.leave hR (.int .i64 5) (.bool false) (.int .i64 0) (.string ⟨#[]⟩) (.slice none 0 0) (.slice none 0 0);rw[Exit.noGoto_ret];exact bodyPost_ret (Ax rfl rfl hxf) rfl ⟨⟨_,rfl,G0 5 false 0 _⟩,hto⟩
 |false=>
  have hc:=hB;rw[decide_eq_false_iff_not]at hc;rw[if_neg hc]at hRES;clear hc;obtain⟨Hj,Hy0,Hy1,Hy2,Ih,H,HI0,Ek,HB,HRES⟩:=hid10 hj hy0 hy1 hy2 ih h hI0 ek hB hRES;clear hj hy0 hy1 hy2 ih h hI0 ek hB hRES;go_enter Tryz.func137,Tryz.ntmps137;go_wp2
  go_step3
  go_wp2_with (fail);rw[Ek.out];generalize ((w.setCell ⟨R,1,none⟩ (.int .i64 ((k+1:Nat):Int))).alloc (.cells Ap 27)).alloc (.cells #[.int .i64 5,.bool false,.int .i64 0,.string ⟨#[]⟩,.slice none 0 0,.slice none 0 0] 27)=w1 at HI0 ⊢;have hC:=Fi R g s (k+1) 93 93 (by decide) w1 (by omega) (by omega) HI0.out.went.2 HB.out;rw[if_neg (by decide)]at hC;(with_reducible refine hC.mono ?_);rintro e w2 ⟨rfl,h2⟩;have hI2:=HI0.out.to_ hR h2;have HL0:Hid (LRd w w2 R g s d RES (f+1) f (Ay s.data.toList (k+1)) [] (.slice none 0 0)):=⟨hI2,by simpa[dL]using Fl.nil _ _ _ _,HRES.out,by omega,by omega,by simp⟩;clear hC c0 c1 f1 h2 HI0 HRES hI2 HB;generalize Ay s.data.toList (k+1)=p1 at HL0 hP hP1;go_wp2
  go_step3
  go_wp2
  go_loopg [] f (fun n wr=> ∃m j acc V,m=n/\j<=s.size/\Hid (LRd w wr R g s d RES (f+1) n j acc V))
  case atStart=>exact⟨f,p1, [],_,rfl,hP,HL0⟩
  case round=>
   obtain⟨n,j,acc,V,rfl,hj,hh⟩:=hrel;clear HL0 hP hP1 p1;have hn2:=hh.out.fuel;have hnf:=hh.out.lt;have hfw:=hh.out.few;obtain⟨n,rfl⟩: ∃m,n=m+1:=⟨n - 1,by omega⟩;have hI:=hh.out.all;have hrow:=hh.out.row;have his:=hh.out.is;obtain⟨aV,cV,rfl⟩:=hrow.slice;have rdi:=H.out.to hI.went;have hC: ∀W,Below wr.heap.size wr W->Calls Tryz.prog 91 #[.pointer (some ⟨R,0,none⟩),.int .i64 (d+1)] W (Jk R g s W (Ch n s.data.toList j (d+1))):=fun W hW=>Ih.out n (by omega) W j (d+1) (rdi.later hW) hj (by omega) (by omega) (by omega);have hw:=(Kp n).1 s.data.toList j (d+1) (by rw[Aq];exact hj);unfold Fa at his;have ewr:IntKind.i64.wrap (d+1)=d+1:=IntWalk.i64_in _ (by omega);have y4:=hI.var.cell 4;have hgv:=hI.var.lt;have dl:(dL acc).length=acc.length:=Mr _
   cases hr:Ch n s.data.toList j (d+1)with
   |bad c q=>
    rw[hr]at hC his;simp only at his;subst his;have Hv0:=Lib.hid hI.var.drew;have HRow:=Lib.hid hrow;have HRw:=Lib.hid (show R<wr.heap.size by have:=hI.went.1.size;omega);obtain⟨HC,HI,Dl⟩:=hid3 hC hI dl;clear hC hI dl;clear hw hr hh rdi y4 hrow;go_upto_region 5 with(fail);refine wp_region_held_drew (S:=fun _=>True) (by kernel_rfl) trivial (fun hHeld=> ?_);refine tkH 0 hHeld ?_;refine tkH 2 hHeld ?_;refine tkH 3 hHeld ?_;refine tkH 4 hHeld ?_;refine wpAnyH_ready (rs:= [1,5]) (by kernel_rfl) (by simp) ?_;refine AllReadyH.cons rfl (fun K hK=> ?_) (AllReadyH.cons rfl (fun K hK=> ?_) AllReadyH.nil)
    . skip;have e4:=Hv0.out.cell 4;go_simp;refine hK.out _ _ trivial (fun hHeld=> ?_);clear hK K e4
      try simp only[Act.put,tk4,tk5,tk6]
      refine wpAnyH_ready (rs:= [5]) (by kernel_rfl) (by simp) ?_;refine AllReadyH.cons rfl (fun K hK=> ?_) AllReadyH.nil;go_simp;(with_reducible refine(HC.out _ (Below.drew (Below.refl _ _))).mono ?_);rintro e w4 ⟨rfl,hg⟩;exact⟨rfl,rfl,B4 HI.out.went.1 ⟨hg.os,hg.tape,hg.output,hg.size,hg.block⟩⟩
    . skip;go_simp;(with_reducible refine(HC.out _ (Below.drew (Below.refl _ _))).mono ?_);rintro e w4 ⟨rfl,hg⟩;exact⟨rfl,rfl,B4 HI.out.went.1 ⟨hg.os,hg.tape,hg.output,hg.size,hg.block⟩⟩
   |ok v q=>
    rw[hr]at hC his hw;simp only at his;obtain⟨hw1,hw2⟩:=hw;rw[Aq]at hw2;obtain⟨k',b',n',t',l',o'⟩:=v;have htk:dL acc++ [dV (.mk k' b' n' t' l' o')]=dL (acc++ [.mk k' b' n' t' l' o']):=by rw[Kc,Kc];simp
    have HLo:Hid ((dL acc).length+1<=maxLen/\((dL acc).length+1)*88<=140737488355328):=by rw[dl];exact⟨by simp only[maxLen];omega,by omega⟩
    have Hv0:=Lib.hid hI.var.drew;have HRow:=Lib.hid hrow;have HRw:=Lib.hid (show R<wr.heap.size by have:=hI.went.1.size;omega);obtain⟨HC,HI,Dl,Htk,His⟩:=hid5 hC hI dl htk his;clear hC hI dl htk his;clear hr hh rdi y4 hrow;go_upto_region 5 with(fail);go_cut [] (fun wx=>Hid (∃V,RdL w wx R g s q #[.int .i64 5,.bool false,.int .i64 0,.string ⟨#[]⟩,V,.slice none 0 0]/\Fl (w.heap.size+2) 27 6 wx (dL (acc++ [.mk k' b' n' t' l' o'])) V))
    case first=>
     refine wp_region_held_drew (S:=fun _=>True) (by kernel_rfl) trivial (fun hHeld=> ?_);refine tkH 0 hHeld ?_;refine tkH 2 hHeld ?_;refine tkH 3 hHeld ?_;refine tkH 4 hHeld ?_;refine wpAnyH_ready (rs:= [1,5]) (by kernel_rfl) (by simp) ?_;refine AllReadyH.cons rfl (fun K hK=> ?_) (AllReadyH.cons rfl (fun K hK=> ?_) AllReadyH.nil)
     . skip;have e4:=Hv0.out.cell 4;go_simp;refine hK.out _ _ trivial (fun hHeld=> ?_);clear hK K e4
       try simp only[Act.put,tk4,tk5,tk6]
       refine wpAnyH_ready (rs:= [5]) (by kernel_rfl) (by simp) ?_;refine AllReadyH.cons rfl (fun K hK=> ?_) AllReadyH.nil;go_simp;(with_reducible refine(HC.out _ (Below.drew (Below.refl _ _))).mono ?_);rintro e w4 ⟨⟨cs,rfl,hf4⟩,h4⟩;obtain⟨la4,lc4,oa4,oc4,rfl⟩:=Ge hf4;obtain⟨wm,hs1,hs2,hs3⟩:=Kt HRw.out h4.undrew.1;have hI4:=HI.out.to_ hR h4.undrew;have hrow4:=HRow.out.keep (by rw[hs1];exact Nat.le_refl _) (fun i h1 _=>hs2 i (by omega));have Hf4:Hid (Au wm.heap.size w4 (dV (.mk k' b' n' t' l' o')) [.int .i64 k',.bool b',.int .i64 n',.string t',.slice la4 l'.length lc4,.slice oa4 o'.length oc4]):=by rw[hs1];exact hf4
       have Hv4:=Lib.hid hI4.var;obtain⟨Hs3,HI4,Hrow4⟩:=hid3 hs3 hI4 hrow4;clear hs3 hI4 hrow4;clear hf4 h4 hs2;refine hK.out _ _ trivial (fun hHeld=> ?_);clear hK K
       try simp only[Act.put,tk4,tk5,tk6]
       refine wpAnyH_ready (rs:= [6]) (by kernel_rfl) (by simp) ?_;refine AllReadyH.cons rfl (fun K hK=> ?_) AllReadyH.nil;go_simp;have Hv5:=Lib.hid (Hv4.out.alloc (.cells #[.int .i64 k',.bool b',.int .i64 n',.string t',.slice la4 l'.length lc4,.slice oa4 o'.length oc4] 27));refine hK.out _ _ trivial (fun hHeld=> ?_);clear hK K
       try simp only[Act.put,tk4,tk5,tk6]
       refine wpAnyH_ready (rs:= [7]) (by kernel_rfl) (by simp) ?_;refine AllReadyH.cons rfl (fun K hK=> ?_) AllReadyH.nil;have hbe:=Hs3.out.alloc Hs3.out.size (.cells #[.int .i64 k',.bool b',.int .i64 n',.string t',.slice la4 l'.length lc4,.slice oa4 o'.length oc4] 27);have hfe:=Hf4.out.later (Aa w4 (.cells #[.int .i64 k',.bool b',.int .i64 n',.string t',.slice la4 l'.length lc4,.slice oa4 o'.length oc4] 27));refine Cw (d:=dV (.mk k' b' n' t' l' o')) (V:=.slice aV (dL acc).length cV) (by rfl) (.tmp 18) (.tmp 23) 24 (by rfl) Tryz.underlying24 Hj.out Hy0.out Hy1.out Hy2.out rfl (by omega) (by rfl) Hrow4.out (by omega) hbe (Ez _) hfe (by rfl) (Kl w4 _ _ _ _ _ _) HLo.out.1 HLo.out.2 ?_;intro V6 w6 hrow6 hg6 hat6;have hto6:=B6.app (HI4.out.went.alloc (.cells #[.int .i64 k',.bool b',.int .i64 n',.string t',.slice la4 l'.length lc4,.slice oa4 o'.length oc4] 27)) hg6 Hrow4.out (by omega) hR;have hres6:=Ed (HI4.out.res.alloc (.cells #[.int .i64 k',.bool b',.int .i64 n',.string t',.slice la4 l'.length lc4,.slice oa4 o'.length oc4] 27)) hg6 Hrow4.out (by omega);have hv6:=Ed Hv5.out hg6 Hrow4.out (by omega);rw[Htk.out]at hrow6;refine hK.out _ _ trivial (fun hHeld=> ?_);clear hK K hg6 hat6 hfe hbe
       try simp only[Act.put,tk4]
       refine tkH 8 hHeld ?_;refine wpAnyH_ready (rs:= [9]) (by kernel_rfl) (by simp) ?_;refine AllReadyH.cons rfl (fun K hK=> ?_) AllReadyH.nil;have e6:=hv6.cell 4;have f6:=hv6.frozen 4;have hg6v:=hv6.lt;obtain⟨a6,c6,rfl⟩:=hrow6.slice;go_simp;refine hK.out _ _ trivial (fun hHeld=> ?_);clear hK K
       try simp only[Act.put,tk4,tk5,tk6]
       refine wpAnyH_done (by kernel_rfl) ?_ _;go_wp2;go_meet;exact⟨_,⟨hto6.setN _ (by simp) hR _,hres6.far (by simp) _,hv6.set_ 4 _⟩,hrow6.keep (by simp[World.setCell]) (fun i h1 _=>Below.heap_setCell _ _ _ _ (by simp;omega))⟩
     . skip;go_simp;(with_reducible refine(HC.out _ (Below.drew (Below.refl _ _))).mono ?_);rintro e w4 ⟨⟨cs,rfl,hf4⟩,h4⟩;obtain⟨la4,lc4,oa4,oc4,rfl⟩:=Ge hf4;obtain⟨wm,hs1,hs2,hs3⟩:=Kt HRw.out h4.undrew.1;have hI4:=HI.out.to_ hR h4.undrew;have hrow4:=HRow.out.keep (by rw[hs1];exact Nat.le_refl _) (fun i h1 _=>hs2 i (by omega));have Hf4:Hid (Au wm.heap.size w4 (dV (.mk k' b' n' t' l' o')) [.int .i64 k',.bool b',.int .i64 n',.string t',.slice la4 l'.length lc4,.slice oa4 o'.length oc4]):=by rw[hs1];exact hf4
       have Hv4:=Lib.hid hI4.var;obtain⟨Hs3,HI4,Hrow4⟩:=hid3 hs3 hI4 hrow4;clear hs3 hI4 hrow4;clear hf4 h4 hs2;refine hK.out _ _ trivial (fun hHeld=> ?_);clear hK K
       try simp only[Act.put,tk4,tk5,tk6]
       refine wpAnyH_ready (rs:= [1,6]) (by kernel_rfl) (by simp) ?_;refine AllReadyH.cons rfl (fun K hK=> ?_) (AllReadyH.cons rfl (fun K hK=> ?_) AllReadyH.nil)
       . skip;have e4:=Hv4.out.cell 4;go_simp;refine hK.out _ _ trivial (fun hHeld=> ?_);clear hK K e4
         try simp only[Act.put,tk4,tk5,tk6]
         refine wpAnyH_ready (rs:= [6]) (by kernel_rfl) (by simp) ?_;refine AllReadyH.cons rfl (fun K hK=> ?_) AllReadyH.nil;go_simp;have Hv5:=Lib.hid (Hv4.out.alloc (.cells #[.int .i64 k',.bool b',.int .i64 n',.string t',.slice la4 l'.length lc4,.slice oa4 o'.length oc4] 27));refine hK.out _ _ trivial (fun hHeld=> ?_);clear hK K
         try simp only[Act.put,tk4,tk5,tk6]
         refine wpAnyH_ready (rs:= [7]) (by kernel_rfl) (by simp) ?_;refine AllReadyH.cons rfl (fun K hK=> ?_) AllReadyH.nil;have hbe:=Hs3.out.alloc Hs3.out.size (.cells #[.int .i64 k',.bool b',.int .i64 n',.string t',.slice la4 l'.length lc4,.slice oa4 o'.length oc4] 27);have hfe:=Hf4.out.later (Aa w4 (.cells #[.int .i64 k',.bool b',.int .i64 n',.string t',.slice la4 l'.length lc4,.slice oa4 o'.length oc4] 27));refine Cw (d:=dV (.mk k' b' n' t' l' o')) (V:=.slice aV (dL acc).length cV) (by rfl) (.tmp 18) (.tmp 23) 24 (by rfl) Tryz.underlying24 Hj.out Hy0.out Hy1.out Hy2.out rfl (by omega) (by rfl) Hrow4.out (by omega) hbe (Ez _) hfe (by rfl) (Kl w4 _ _ _ _ _ _) HLo.out.1 HLo.out.2 ?_;intro V6 w6 hrow6 hg6 hat6;have hto6:=B6.app (HI4.out.went.alloc (.cells #[.int .i64 k',.bool b',.int .i64 n',.string t',.slice la4 l'.length lc4,.slice oa4 o'.length oc4] 27)) hg6 Hrow4.out (by omega) hR;have hres6:=Ed (HI4.out.res.alloc (.cells #[.int .i64 k',.bool b',.int .i64 n',.string t',.slice la4 l'.length lc4,.slice oa4 o'.length oc4] 27)) hg6 Hrow4.out (by omega);have hv6:=Ed Hv5.out hg6 Hrow4.out (by omega);rw[Htk.out]at hrow6;refine hK.out _ _ trivial (fun hHeld=> ?_);clear hK K hg6 hat6 hfe hbe
         try simp only[Act.put,tk4]
         refine tkH 8 hHeld ?_;refine wpAnyH_ready (rs:= [9]) (by kernel_rfl) (by simp) ?_;refine AllReadyH.cons rfl (fun K hK=> ?_) AllReadyH.nil;have e6:=hv6.cell 4;have f6:=hv6.frozen 4;have hg6v:=hv6.lt;obtain⟨a6,c6,rfl⟩:=hrow6.slice;go_simp;refine hK.out _ _ trivial (fun hHeld=> ?_);clear hK K
         try simp only[Act.put,tk4,tk5,tk6]
         refine wpAnyH_done (by kernel_rfl) ?_ _;go_wp2;go_meet;exact⟨_,⟨hto6.setN _ (by simp) hR _,hres6.far (by simp) _,hv6.set_ 4 _⟩,hrow6.keep (by simp[World.setCell]) (fun i h1 _=>Below.heap_setCell _ _ _ _ (by simp;omega))⟩
       . skip;go_simp;have Hv5:=Lib.hid (Hv4.out.alloc (.cells #[.int .i64 k',.bool b',.int .i64 n',.string t',.slice la4 l'.length lc4,.slice oa4 o'.length oc4] 27));refine hK.out _ _ trivial (fun hHeld=> ?_);clear hK K
         try simp only[Act.put,tk4,tk5,tk6]
         refine wpAnyH_ready (rs:= [1]) (by kernel_rfl) (by simp) ?_;refine AllReadyH.cons rfl (fun K hK=> ?_) AllReadyH.nil;have e4:=Hv5.out.cell 4;go_simp;refine hK.out _ _ trivial (fun hHeld=> ?_);clear hK K e4
         try simp only[Act.put,tk4,tk5,tk6]
         refine wpAnyH_ready (rs:= [7]) (by kernel_rfl) (by simp) ?_;refine AllReadyH.cons rfl (fun K hK=> ?_) AllReadyH.nil;have hbe:=Hs3.out.alloc Hs3.out.size (.cells #[.int .i64 k',.bool b',.int .i64 n',.string t',.slice la4 l'.length lc4,.slice oa4 o'.length oc4] 27);have hfe:=Hf4.out.later (Aa w4 (.cells #[.int .i64 k',.bool b',.int .i64 n',.string t',.slice la4 l'.length lc4,.slice oa4 o'.length oc4] 27));refine Cw (d:=dV (.mk k' b' n' t' l' o')) (V:=.slice aV (dL acc).length cV) (by rfl) (.tmp 18) (.tmp 23) 24 (by rfl) Tryz.underlying24 Hj.out Hy0.out Hy1.out Hy2.out rfl (by omega) (by rfl) Hrow4.out (by omega) hbe (Ez _) hfe (by rfl) (Kl w4 _ _ _ _ _ _) HLo.out.1 HLo.out.2 ?_;intro V6 w6 hrow6 hg6 hat6;have hto6:=B6.app (HI4.out.went.alloc (.cells #[.int .i64 k',.bool b',.int .i64 n',.string t',.slice la4 l'.length lc4,.slice oa4 o'.length oc4] 27)) hg6 Hrow4.out (by omega) hR;have hres6:=Ed (HI4.out.res.alloc (.cells #[.int .i64 k',.bool b',.int .i64 n',.string t',.slice la4 l'.length lc4,.slice oa4 o'.length oc4] 27)) hg6 Hrow4.out (by omega);have hv6:=Ed Hv5.out hg6 Hrow4.out (by omega);rw[Htk.out]at hrow6;refine hK.out _ _ trivial (fun hHeld=> ?_);clear hK K hg6 hat6 hfe hbe
         try simp only[Act.put,tk4]
         refine tkH 8 hHeld ?_;refine wpAnyH_ready (rs:= [9]) (by kernel_rfl) (by simp) ?_;refine AllReadyH.cons rfl (fun K hK=> ?_) AllReadyH.nil;have e6:=hv6.cell 4;have f6:=hv6.frozen 4;have hg6v:=hv6.lt;obtain⟨a6,c6,rfl⟩:=hrow6.slice;go_simp;refine hK.out _ _ trivial (fun hHeld=> ?_);clear hK K
         try simp only[Act.put,tk4,tk5,tk6]
         refine wpAnyH_done (by kernel_rfl) ?_ _;go_wp2;go_meet;exact⟨_,⟨hto6.setN _ (by simp) hR _,hres6.far (by simp) _,hv6.set_ 4 _⟩,hrow6.keep (by simp[World.setCell]) (fun i h1 _=>Below.heap_setCell _ _ _ _ (by simp;omega))⟩
    obtain⟨V',hI5,hrow5⟩:=hcut.out;have hq':Ay s.data.toList q<=s.size:=Ev hw2;have hq1:=Dx s.data.toList q;clear hcut HC HI Dl Htk Hv0 HRow HRw HLo ewr
    cases h44:decide (s.data.toList[Ay s.data.toList q]? =some 44)with
    |true=>
     have hC44:=Fi R g s q 44 44 (by decide) wc (by omega) hw2 hI5.went.2 h44;rw[if_pos rfl]at hC44;have hc:=h44;rw[decide_eq_true_iff]at hc;have hr':=His.out;rw[if_pos hc]at hr';have hlt8:=Dp hc;rw[Aq]at hlt8;clear hc h44;obtain⟨HI5,Hrow5,HC44,Hr'⟩:=hid4 hI5 hrow5 hC44 hr';clear hI5 hrow5 hC44 hr';go_wp2_with (fail);(with_reducible refine(HC44.out).mono ?_);rintro e w8 ⟨rfl,h8⟩;have HN:Hid (LRd w w8 R g s d RES (f+1) n (Ay s.data.toList q+1) (acc++ [.mk k' b' n' t' l' o']) V'):=⟨HI5.out.to_ hR h8,Hrow5.out.keep h8.1.size (fun i h1 h2=>h8.1.block i h2 (by intro e;have:=Option.some.inj e;omega)),Hr'.out,by omega,by omega,by simp;omega⟩;clear h8;go_wp2
     go_roundg n
     case measure=>omega
     case rel=>exact⟨n,_,_,_,rfl,by omega,HN⟩
    |false=>
     have hC44:=Fi R g s q 44 44 (by decide) wc (by omega) hw2 hI5.went.2 h44;rw[if_neg (by decide)]at hC44;have hc:=h44;rw[decide_eq_false_iff_not]at hc;have hr':=His.out;rw[if_neg hc]at hr';clear hc h44
     cases h93:decide (s.data.toList[Ay s.data.toList q]? =some 93)with
     |true=>
      have hc:=h93;rw[decide_eq_true_iff]at hc;rw[if_pos hc]at hr';clear hc;subst hr';obtain⟨HI5,Hrow5,HC44,H93⟩:=hid4 hI5 hrow5 hC44 h93;clear hI5 hrow5 hC44 h93;go_wp2_with (fail);(with_reducible refine(HC44.out).mono ?_);rintro e w8 ⟨rfl,h8⟩;have h93':=H93.out;rw[<-Ff]at h93';have hC93:=Fi R g s (Ay s.data.toList q) 93 93 (by decide) w8 (by omega) hq' h8.2 h93';rw[if_pos rfl,Ff]at hC93;have hI8:=HI5.out.to_ hR h8;have hrow8:=Hrow5.out.keep h8.1.size (fun i h1 h2=>h8.1.block i h2 (by intro e;have:=Option.some.inj e;omega));clear h8 h93';obtain⟨HI8,Hrow8,HC93⟩:=hid3 hI8 hrow8 hC93;clear hI8 hrow8 hC93;go_wp2_with (fail);(with_reducible refine(HC93.out).mono ?_);rintro e w9 ⟨rfl,h9⟩;have hI9:=HI8.out.to_ hR h9;have hrow9:=Hrow8.out.keep h9.1.size (fun i h1 h2=>h9.1.block i h2 (by intro e;have:=Option.some.inj e;omega));clear h9;obtain⟨y0,y1,y2,y3,y4,y5⟩:=Bo hI9.var;obtain⟨r0,r1,r2,r3,r4,r5⟩:=Bo hI9.res;have fz:=hI9.res.frozen;obtain⟨a',c',rfl,_,hfr,_⟩:=hrow9.close;have el:(dL (acc++ [Val.mk k' b' n' t' l' o'])).length=acc.length+1:=by rw[Mr];simp
      rw[el]at hfr y4;obtain⟨hxf,hto⟩:=hI9.leave hR (.int .i64 5) (.bool false) (.int .i64 0) (.string ⟨#[]⟩) (.slice a' (acc.length+1) c') (.slice none 0 0);have hff:=Aiz (hfr.keep (b':=w.heap.size) (w':=Bi w9 w.heap.size 0 [.int .i64 5,.bool false,.int .i64 0,.string ⟨#[]⟩,.slice a' (acc.length+1) c',.slice none 0 0]) (by omega) (by rw[A9];exact Nat.le_refl _) (fun p p1 p2=>World.cell?_of_block (A0 _ _ _ _ _ (by omega))));obtain⟨HI9,Hrow9,Hxf,Hto,Hff,Hfr⟩:=hid6 hI9 hrow9 hxf hto hff hfr;clear hI9 hrow9 hxf hto hff hfr;go_upto_region 9 with(fail);go_wp2;rw[Exit.noGoto_ret];exact bodyPost_ret (Ax rfl rfl Hxf.out) rfl ⟨⟨_,rfl,Hff.out⟩,Hto.out⟩
     |false=>
      have hc:=h93;rw[decide_eq_false_iff_not]at hc;rw[if_neg hc]at hr';clear hc;subst hr';obtain⟨HI5,Hrow5,HC44,H93⟩:=hid4 hI5 hrow5 hC44 h93;clear hI5 hrow5 hC44 h93;go_wp2_with (fail);(with_reducible refine(HC44.out).mono ?_);rintro e w8 ⟨rfl,h8⟩;have h93':=H93.out;rw[<-Ff]at h93';have hC93:=Fi R g s (Ay s.data.toList q) 93 93 (by decide) w8 (by omega) hq' h8.2 h93';rw[if_neg (by decide),Ff]at hC93;have hI8:=HI5.out.to_ hR h8;clear h8 h93';obtain⟨HI8,HC93⟩:=hid2 hI8 hC93;clear hI8 hC93;go_wp2_with (fail);(with_reducible refine(HC93.out).mono ?_);rintro e w9 ⟨rfl,h9⟩;have hI9:=HI8.out.to_ hR h9;obtain⟨z0,z1,_,_,_⟩:=h9.2.cells;clear h9;have hW:=C8 (.pointer (some ⟨R,0,none⟩)) 4 (Ay s.data.toList q:Nat) w9;obtain⟨HI9,HW⟩:=hid2 hI9 hW;clear hI9 hW;go_wp2_with (fail);(with_reducible refine(HW.out).mono ?_);rintro e w10 ⟨rfl,rfl⟩;exact⟨rfl,rfl,HI9.out.went.1⟩
def P4 (w:World):Prop:= ∃te pe,w.cell? ⟨6,0,none⟩=some (.iface te pe)
structure NRd (w wr:World) (R g:Nat) (s:ByteArray) (j:Nat):Prop where
 went:B6 R g s j w wr
 res:Al wr w.heap.size 27 Ap
set_option maxRecDepth 100000 in
theorem Ad3 (R g:Nat) (s:ByteArray) (k:Nat) (d:Int) (w:World) (hN: ∀W,w.grownBy W (some R)->P4 W) (hs:s.size<=100000000) (hk:k<s.size) (h:X7 w R g s k):
 Calls Tryz.prog 139 #[.pointer (some ⟨R,0,none⟩),.int .i64 d] w (Jk R g s w ((Eb s.data.toList k).map Sn)):=by
 have hR:R<w.heap.size:=Al.lt h;obtain⟨c,hc⟩: ∃c,s[k]=c:=⟨_,rfl⟩;have hg:s.data.toList[k]? =some c:=by rw[E2 s hk,hc]
 have hcl:=Em c;obtain⟨F,hF⟩: ∃F,(if s.data.toList[k]? =some 45 then k+1 else k)=F:=⟨_,rfl⟩;obtain⟨RES,hRES⟩: ∃r,(Eb s.data.toList k).map Sn=r:=⟨_,rfl⟩;rw[hRES];unfold Eb at hRES;rw[hF]at hRES;have hFk:k<=F/\F<=k+1:=by rw[<-hF];split<;>omega
 have hI0:NRd w (w.alloc (.cells Ap 27)) R g s k:=⟨(B6.refl h).alloc _,Al.new _ _ _⟩;have hb45:((c.toNat:Int)==45)=decide (c=45):=by rw[show(45:Int)=((45:Nat):Int)from rfl,Rg (by decide)];rfl
 obtain⟨c0,c1,_,f1,_⟩:=h.cells;have i0:(0:Int)<=(k:Int):=by omega
 have i1:(k:Int)<(s.size:Int):=by omega
 obtain⟨HI0,HN,H,HRES,Hg,HF⟩:=hid6 hI0 hN h hRES hg hF;clear hI0 hN h hRES hg hF;go_enter Tryz.func139,Tryz.ntmps139;go_wp2;go_quiet (fail);go_upto_if 22 with(fail);go_cut [] (fun wx=>Hid (NRd w wx R g s F))
 case first=>
  by_cases h45:c=45
  . have e45:decide (c=45)=true:=decide_eq_true h45;have eF:F=k+1:=by rw[<-HF.out,Hg.out,h45,if_pos rfl]
    go_wp2;go_meet;rw[eF];exact⟨(HI0.out.went.drewN _).set _,HI0.out.res.far (by simp;omega) _⟩
  . have e45:decide (c=45)=false:=decide_eq_false h45;have eF:F=k:=by rw[<-HF.out,Hg.out,if_neg (by simpa using h45)]
    go_wp2;go_meet;rw[eF];exact⟨HI0.out.went.drewN _,HI0.out.res⟩
 have hd0:=Yk s.data.toList F;have hd1:=Yl (s:=s.data.toList) (p:=F) (by rw[Aq];omega);rw[Aq]at hd1;have HI1:=hcut;obtain⟨E,hE⟩: ∃E,Dg s.data.toList F=E:=⟨_,rfl⟩;rw[hE]at hd0 hd1;clear hcut HI0 c0 c1 f1 i0 i1;obtain⟨a0,a1,_,f1,_⟩:=HI1.out.went.2.cells;have HE:=Lib.hid hE;clear hE
 go_upto_block 0 with(fail)
 go_cut [] (fun wx=>Hid (NRd w wx R g s E))
 case first=>
  go_wp2_with (fail)
  go_loopg [] (s.size - F) (fun n wr=> ∃j:Nat,F<=j/\j<=s.size/\n=s.size - j/\Hid (Dg s.data.toList j=E/\NRd w wr R g s j))
  case atStart=>exact⟨F,Nat.le_refl _,by omega,rfl,HE.out,HI1.out⟩
  case round=>
   obtain⟨j,hjF,hj,rfl,hh⟩:=hrel;obtain⟨z0,z1,_,z3,_⟩:=hh.out.2.went.2.cells;clear HI1 a0 a1 f1;have j0:(0:Int)<=(j:Int):=by omega
   by_cases hlt:j<s.size
   . obtain⟨x,hx⟩: ∃x,s[j]=x:=⟨_,rfl⟩;have hxg:s.data.toList[j]? =some x:=by rw[E2 s hlt,hx]
     have hxl:=Em x;have j1:decide ((j:Int)<(s.size:Int))=true:=decide_eq_true (by omega);have j2:(j:Int)<(s.size:Int):=by omega
     by_cases hdg:E3 x=true
     . have HN':Hid (Dg s.data.toList (j+1)=E/\ ∀nq,NRd w ((wr.drewN nq).setCell ⟨R,1,none⟩ (.int .i64 ((j+1:Nat):Int))) R g s (j+1)):=⟨by rw[<-Acg hxg hdg];exact hh.out.1,fun nq=>⟨(hh.out.2.went.drewN nq).set _,hh.out.2.res.far (by simp;omega) _⟩⟩;unfold E3 at hdg;rw[decide_eq_true_iff]at hdg;have l1:decide ((48:Int)<=(x.toNat:Int))=true:=decide_eq_true (by omega);have l2:decide ((x.toNat:Int)<=57)=true:=decide_eq_true (by omega);clear hxg hh hdg;go_wp2;go_quiet (fail);go_wp2
       go_roundg (s.size - (j+1))
       case measure=>omega
       case rel=>exact⟨j+1,by omega,by omega,rfl,HN'.out.1,HN'.out.2 _⟩
     . have HN':Hid (j=E/\ ∀nq,NRd w (wr.drewN nq) R g s j):=⟨by rw[<-hh.out.1,Ach hxg (by simpa using hdg)],fun nq=>⟨hh.out.2.went.drewN nq,hh.out.2.res⟩⟩;unfold E3 at hdg;rw[decide_eq_true_iff]at hdg;clear hxg hh;by_cases h48:48<=x.toNat
       . have l1:decide ((48:Int)<=(x.toNat:Int))=true:=decide_eq_true (by omega);have l2:decide ((x.toNat:Int)<=57)=false:=decide_eq_false (by omega);go_wp2;go_quiet (fail);go_wp2;go_meet;have:=HN'.out.2;rw[HN'.out.1]at this;exact this _
       . have l1:decide ((48:Int)<=(x.toNat:Int))=false:=decide_eq_false (by omega);go_wp2;go_quiet (fail);go_wp2;go_meet;have:=HN'.out.2;rw[HN'.out.1]at this;exact this _
   . have HN':Hid (j=E/\ ∀nq,NRd w (wr.drewN nq) R g s j):=⟨by rw[<-hh.out.1,Afh (by rw[Aq];omega)],fun nq=>⟨hh.out.2.went.drewN nq,hh.out.2.res⟩⟩;have j1:decide ((j:Int)<(s.size:Int))=false:=decide_eq_false (by omega);clear hh;go_wp2;go_quiet (fail);go_wp2;go_meet;have:=HN'.out.2;rw[HN'.out.1]at this;exact this _
 have HI2:=hcut;clear hcut HI1 a0 a1 f1;obtain⟨a0,a1,_,f1,_⟩:=HI2.out.went.2.cells
 go_upto_block 2 with(fail)
 go_cut [] (fun wx=>Hid (NRd w wx R g s E/\F<E/\(F=k+1->Kd ((s.data.toList.drop F).take (E - F))≠0)/\(Ah3 (decide (s.data.toList[k]? =some 45)) (Kd ((s.data.toList.drop F).take (E - F))) k E).map Sn=RES))
 case first=>
  have hres:=HRES.out;unfold Ps at hres;rw[HE.out]at hres;have F0:(0:Int)<=(F:Int):=by omega
  by_cases hEF:E=F
  . rw[if_pos hEF]at hres;subst hres;subst hEF;have e1:((E:Int)==(E:Int))=true:=by simp
    have hW:=C8 (.pointer (some ⟨R,0,none⟩)) 4 (E:Nat) wc;have HW:=Lib.hid hW;clear hW;go_wp2_with (fail);(with_reducible refine(HW.out).mono ?_);rintro e w10 ⟨rfl,rfl⟩;exact⟨rfl,rfl,HI2.out.went.1⟩
  . rw[if_neg hEF]at hres;have e1:((E:Int)==(F:Int))=false:=by rw[beq_eq_false_iff_ne];omega
    have hFs:F<s.size:=by omega
    have F1:(F:Int)<(s.size:Int):=by omega
    obtain⟨x,hx⟩: ∃x,s[F]=x:=⟨_,rfl⟩;have hxg:s.data.toList[F]? =some x:=by rw[E2 s hFs,hx]
    have hxl:=Em x;rw[hxg]at hres;have hx48:((x.toNat:Int)==48)=decide (x=48):=by rw[show(48:Int)=((48:Nat):Int)from rfl,Rg (by decide)];rfl
    by_cases hz:x=48
    . have e48:decide (x=48)=true:=decide_eq_true hz;rw[e48]at hx48;by_cases hm:F+1<E
      . rw[if_pos ⟨by rw[hz],hm⟩]at hres;subst hres;have e2:decide ((F:Int)+1<(E:Int))=true:=decide_eq_true (by omega);have e3:(F:Int)+1<(E:Int):=by omega
        have hW:=C8 (.pointer (some ⟨R,0,none⟩)) 4 ((F:Int)+1) wc;have HW:=Lib.hid hW;clear hW;go_wp2_with (fail);(with_reducible refine(HW.out).mono ?_);rintro e w10 ⟨rfl,rfl⟩;exact⟨rfl,by simp[Nx],HI2.out.went.1⟩
      . rw[if_neg (fun q=>hm q.2)]at hres;have e2:decide ((F:Int)+1<(E:Int))=false:=decide_eq_false (by omega);have e3: ¬((F:Int)+1<(E:Int)):=by omega
        have hEF1:E=F+1:=by omega
        have hds:(s.data.toList.drop F).take (E - F)= [48]:=by rw[hEF1,Nat.add_sub_cancel_left,Ks hxg,hz];rfl
        by_cases hn:F=k+1
        . have h45:s.data.toList[k]? =some 45:=by
           by_cases q:s.data.toList[k]? =some 45
           . exact q
           . have:=HF.out;rw[if_neg q]at this;omega
          have e4:decide ((k:Int)<(F:Int))=true:=decide_eq_true (by omega);have e5:(k:Int)<(F:Int):=by omega
          have hr7:Ah3 (decide (s.data.toList[k]? =some 45)) (Kd ((s.data.toList.drop F).take (E - F))) k E=.bad 7 k:=by
           rw[hds,decide_eq_true h45];rfl
          rw[hr7]at hres;subst hres;have hW:=C8 (.pointer (some ⟨R,0,none⟩)) 7 (k:Nat) wc;obtain⟨HW,Hds,Hr7⟩:=hid3 hW hds hr7;clear hW hds hr7;clear h45 hn hEF1;go_wp2_with (fail);(with_reducible refine(HW.out).mono ?_);rintro e w10 ⟨rfl,rfl⟩;exact⟨rfl,rfl,HI2.out.went.1⟩
        . have e4:decide ((k:Int)<(F:Int))=false:=decide_eq_false (by omega);have e5: ¬((k:Int)<(F:Int)):=by omega
          have HJ:Hid (NRd w wc R g s E/\F<E/\(F=k+1->Kd ((s.data.toList.drop F).take (E - F))≠0)/\(Ah3 (decide (s.data.toList[k]? =some 45)) (Kd ((s.data.toList.drop F).take (E - F))) k E).map Sn=RES):=⟨HI2.out,by omega,fun q=>absurd q hn,hres⟩;clear hres hds;go_wp2;go_meet;exact HJ
    . have e48:decide (x=48)=false:=decide_eq_false hz;rw[e48]at hx48;rw[if_neg (fun q=>hz (by simpa using q.1))]at hres;have HJ:Hid (NRd w wc R g s E/\F<E/\(F=k+1->Kd ((s.data.toList.drop F).take (E - F))≠0)/\(Ah3 (decide (s.data.toList[k]? =some 45)) (Kd ((s.data.toList.drop F).take (E - F))) k E).map Sn=RES):=⟨HI2.out,by omega,fun _=>Afi hxg hz (by rw[HE.out];omega) HE.out,hres⟩;clear hres;go_wp2;go_meet;exact HJ
 obtain⟨hI3,hFE,hnz,hres⟩:=hcut.out;clear hcut HI2 a0 a1 f1;obtain⟨a0,a1,_,f1,_⟩:=hI3.went.2.cells;have k0:(0:Int)<=(k:Int):=by omega
 have k1:(k:Int)<=(E:Int):=by omega
 have k2:(E:Int)<=(s.size:Int):=by omega
 have hT:(s.extract k E).data.toList=(s.data.toList.drop k).take (E - k):=by rw[Lib.extract_data]
 have hTs:(s.extract k E).size<=100000000:=by simp only[ByteArray.size_extract];omega
 have hdig:=Ain s.data.toList F;rw[HE.out]at hdig;have hne:(s.data.toList.drop F).take (E - F)≠ []:=by
  intro e;have:=congrArg List.length e;rw[List.length_take,List.length_drop,Aq]at this;simp at this;omega
 obtain⟨m,hm⟩: ∃m,Kd ((s.data.toList.drop F).take (E - F))=m:=⟨_,rfl⟩;rw[hm]at hres hnz;have hPI:Lib.parseIntB 64 (s.extract k E).data.toList=match Ah3 (decide (s.data.toList[k]? =some 45)) m k E with| .ok v _=> .ok v| .bad _ _=> .range:=by
  rw[hT];by_cases h45:s.data.toList[k]? =some 45
  . have eF:F=k+1:=by rw[<-HF.out,if_pos h45]
    have e1:(s.data.toList.drop k).take (E - k)=45::(s.data.toList.drop F).take (E - F):=by
     rw[Ks h45,show E - k=(E - F)+1 by omega,List.take_succ_cons,eF]
    rw[e1,Alp hdig hne,hm,decide_eq_true h45];unfold Ah3;rw[if_pos rfl];have:=hnz eF;by_cases hb:9223372036854775808<m
    . rw[if_pos hb,if_pos (.inr hb)]
    . rw[if_neg hb,if_neg (by rintro(q|q);exact this q;exact hb q)]
  . have eF:F=k:=by rw[<-HF.out,if_neg h45]
    rw[eF]at hdig hne hm;rw[Alq hdig hne,hm,decide_eq_false h45];unfold Ah3;rw[if_neg (show ¬((false:Bool)=true)by decide)];by_cases hb:9223372036854775807<m
    . rw[if_pos hb,if_pos hb]
    . rw[if_neg hb,if_neg hb]
 have hform:(∃v,Ah3 (decide (s.data.toList[k]? =some 45)) m k E=.ok v E)\/Ah3 (decide (s.data.toList[k]? =some 45)) m k E=.bad 7 k:=by
  unfold Ah3
  split
  . split
    . exact .inr rfl
    . exact .inl ⟨_,rfl⟩
  . split
    . exact .inr rfl
    . exact .inl ⟨_,rfl⟩
 clear hT hdig hne hm hnz;rcases hform with⟨v,hv⟩|hv
 . rw[hv]at hPI hres;simp only at hPI;subst hres;have hPc: ∀W:World,Calls Tryz.prog 178 #[.string (s.extract k E),.int .i64 10,.int .i64 64] W fun e w'=>e=.returned (.tuple #[.int .i64 v,.nilIface])/\Below W.heap.size W w':=fun W=>
    (Tryz.strconv_ParseInt_ok (s.extract k E) (by omega) v hPI W).mono fun e w' ⟨he,hw⟩=>⟨he,by
      rcases hw with rfl|⟨t,rfl⟩
      . exact Below.refl _ _
      . exact Go.Joins.below_bytesWorld _ _ _ _ (Nat.le_refl _)⟩
   have hlt3:=hI3.went.2.cells.2.2.2.2;obtain⟨HPc,HI3,HPI,Hv⟩:=hid4 hPc hI3 hPI hv;clear hPc hI3 hPI hv;go_wp2
   go_region_held3 (fun W=>W.cell? ⟨R,0,none⟩=some (.string s)/\W.cell? ⟨R,1,none⟩=some (.int .i64 E)) (go_keep) (first|(go_at_call 178;refine(HPc.out _).mono ?_;rintro e w1 ⟨rfl,hb1⟩;have hbr1:Below wc.heap.size wc w1:=(Below.drew (Below.refl _ _)).trans hb1;obtain⟨hc1,hf1⟩:=Bc hbr1))
   all_goals
    have hI4:NRd w w1 R g s E:=⟨HI3.out.went.below hbr1,HI3.out.res.below hbr1 HI3.out.res.lt⟩;obtain⟨r0,r1,r2,r3,r4,r5⟩:=Bo hI4.res;have fz:=hI4.res.frozen;have hlt4:=hI4.res.lt;clear hc1 hf1 hb1 hbr1;have HI4:=Lib.hid hI4;clear hI4;go_wp2;have hxf:=((((((HI4.out.res.set_ 0 (.int .i64 3)).set_ 1 (.bool false)).set_ 2 (.int .i64 v)).set_ 3 (.string ⟨#[]⟩)).set_ 4 (.slice none 0 0)).set_ 5 (.slice none 0 0));exact bodyPost_ret (Ax rfl rfl hxf) rfl ⟨⟨_,rfl,G0 3 false v _⟩,B6.many (Nat.le_refl _) hR [.int .i64 3,.bool false,.int .i64 v,.string ⟨#[]⟩,.slice none 0 0,.slice none 0 0] 0 HI4.out.went⟩
 . rw[hv]at hPI hres;simp only at hPI;subst hres;have hPc: ∀W:World,Below wc.heap.size wc W->Calls Tryz.prog 178 #[.string (s.extract k E),.int .i64 10,.int .i64 64] W fun e w'=>(∃n te pe,e=.returned (.tuple #[.int .i64 n,.iface te pe]))/\Below W.heap.size W w':=fun W hW=>by
    obtain⟨te,pe,hte⟩:=HN.out W (Mt hI3.went.1 hW);exact(Tryz.strconv_ParseInt_range (s.extract k E) (by omega) hPI _ W hte (.inr ⟨te,pe,rfl⟩)).mono fun e w' ⟨N,he,_,_,hb⟩=>⟨⟨_,_,_,he⟩,hb⟩
   have hlt3:=hI3.went.2.cells.2.2.2.2;obtain⟨HPc,HI3,HPI,Hv⟩:=hid4 hPc hI3 hPI hv;clear hPc hI3 hPI hv;go_wp2
   go_region_held3 (fun W=>W.cell? ⟨R,0,none⟩=some (.string s)/\W.cell? ⟨R,1,none⟩=some (.int .i64 E)) (go_keep) (first|(go_at_call 178;refine(HPc.out _ (Below.drew (Below.refl _ _))).mono ?_;rintro e w1 ⟨⟨n,te,pe,rfl⟩,hb1⟩;have hbr1:Below wc.heap.size wc w1:=(Below.drew (Below.refl _ _)).trans hb1;obtain⟨hc1,hf1⟩:=Bc hbr1))
   all_goals
    have hW:=C8 (.pointer (some ⟨R,0,none⟩)) 7 (k:Nat) w1;have hgb:=Mt HI3.out.went.1 hbr1;clear hc1 hf1 hb1 hbr1;obtain⟨HW,Hgb⟩:=hid2 hW hgb;clear hW hgb;go_wp2_with (fail);(with_reducible refine(HW.out).mono ?_);rintro e w10 ⟨rfl,rfl⟩;exact⟨rfl,rfl,Hgb.out⟩
end Go.Proofs.YtmglfdckpjegdaaGreatDoor
