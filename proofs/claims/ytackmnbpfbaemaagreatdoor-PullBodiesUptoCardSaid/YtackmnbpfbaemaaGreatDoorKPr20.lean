/- Parts: commonplaceref02.Copy: all of a value, in new memory. Condition: a bulk of at most 10^8. -/
import Derived.Deep.RegionLaw
import Derived.StillTailTactics
import Derived.Test.YtackmnbpfbaemaaGreatDoorKPr14
set_option maxHeartbeats 20000000
namespace Go.Proofs.YtackmnbpfbaemaaGreatDoor
open Go Go.RowKit
structure ORd (w wr:World) (R g:Nat) (s:ByteArray) (d:Int) (RES:Rd Val) (G f n j:Nat) (acc:List (ByteArray×Val)) (V:Value):Prop where
 all:RdL w wr R g s j #[.int .i64 6,.bool false,.int .i64 0,.string ⟨#[]⟩,.slice none 0 0,V]
 row:C7 (G+1) 63 7 wr (dO acc) V
 map:Cw Value.string wr G (Ub acc)
 nod:(acc.map (·.1)).Nodup
 is:Dg n s.data.toList j d acc=RES
 fuel:4*(s.size - j)+2<=n
 lt:n<f
 few:acc.length<=j
theorem RdL.seen {w wr w1 w2:World} {R g j q G:Nat} {s:ByteArray} {cs:Array Value} (h:RdL w wr R g s j cs) (hR:R<w.heap.size) (hG:w.heap.size+2<=G) (t:Bl R g s q wr w1) (t2:w1.grownBy w2 (some G)):RdL w w2 R g s q cs:=by
 have h1:=h.to_ hR t;have hne: ∀i,i<w.heap.size+2->some i≠some G:=fun i hi e=>by have:=Option.some.inj e;omega
 exact⟨⟨⟨t2.os.trans h1.went.1.os,t2.tape.trans h1.went.1.tape,t2.output.trans h1.went.1.output,Nat.le_trans h1.went.1.size t2.size,fun i hi hn=>(t2.block i (by have:=h1.went.1.size;omega) (hne i (by omega))).trans (h1.went.1.block i hi hn)⟩,An.grown h1.went.2 t2 (hne R (by omega))⟩,h1.res.grown t2 (hne _ (by omega)),h1.var.grown t2 (hne _ (by omega))⟩
theorem Ajh {k:ByteArray} {acc:List (ByteArray×Val)} (h:Ji k acc=false) (hn:(acc.map (·.1)).Nodup) (v:Val):((acc++ [(k,v)]).map (·.1)).Nodup:=by
 rw[List.map_append,List.nodup_append];refine⟨hn,by simp,fun a ha b hb=> ?_⟩;simp only[List.map_cons,List.map_nil,List.mem_cons,List.not_mem_nil,or_false]at hb;subst hb;rintro rfl;obtain⟨m,hm,rfl⟩:=List.mem_map.1 ha;have:Ji m.1 acc=true:=by
  unfold Ji;rw[List.any_eq_true];exact⟨m,hm,by simp⟩
 rw[this]at h;cases h
set_option maxRecDepth 100000 in
theorem Abh (w0:World) (hT0:Cf w0) (R g:Nat) (s:ByteArray) (f:Nat) (ih: ∀f',f'<f->Ak6 w0 R g s f') (w:World) (k:Nat) (d:Int) (h:RdI w0 w R g s k) (hs:s.size<=100000000) (hk:k<s.size) (hf:4*(s.size - k)<=f) (hd0:0<=d) (hd:d<=64):
 Calls Tryz.prog 171 #[.pointer (some ⟨R,0,none⟩),.int .i64 d] w (Gu R g s w (Nu f s.data.toList k d)):=by
 obtain⟨j0,hj,hy0,hy1,hy2⟩:=info_parts P6;have hR:R<w.heap.size:=An.lt h.rd;obtain⟨f,rfl⟩: ∃n,f=n+1:=⟨f - 1,by omega⟩;have hP:=B3 (s:=s) (k:=k+1) (by omega);have hP1:=B6 s.data.toList (k+1);have hI0:RdL w (((w.setCell ⟨R,1,none⟩ (.int .i64 ((k+1:Nat):Int))).alloc (.cells Aj 39)).alloc (.cells #[.int .i64 6,.bool false,.int .i64 0,.string ⟨#[]⟩,.slice none 0 0,.slice none 0 0] 39)) R g s (k+1) #[.int .i64 6,.bool false,.int .i64 0,.string ⟨#[]⟩,.slice none 0 0,.slice none 0 0]:=by
  refine⟨(((Bl.refl h.rd).set _).alloc _).alloc _, ?_, ?_⟩
  . have:=(An.new (w.setCell ⟨R,1,none⟩ (.int .i64 ((k+1:Nat):Int))) 39 Aj).alloc (.cells #[.int .i64 6,.bool false,.int .i64 0,.string ⟨#[]⟩,.slice none 0 0,.slice none 0 0] 39);simpa[World.setCell]using this
  . have:=An.new ((w.setCell ⟨R,1,none⟩ (.int .i64 ((k+1:Nat):Int))).alloc (.cells Aj 39)) 39 #[.int .i64 6,.bool false,.int .i64 0,.string ⟨#[]⟩,.slice none 0 0,.slice none 0 0];simpa[World.setCell]using this
 have hz1:(((w.setCell ⟨R,1,none⟩ (.int .i64 ((k+1:Nat):Int))).alloc (.cells Aj 39)).alloc (.cells #[.int .i64 6,.bool false,.int .i64 0,.string ⟨#[]⟩,.slice none 0 0,.slice none 0 0] 39)).heap.size=w.heap.size+2:=by simp[World.setCell]
 obtain⟨c0,c1,_,f1,_⟩:=h.rd.cells;have ek:((k:Int)+1)=((k+1:Nat):Int):=by omega
 obtain⟨RES,hRES⟩: ∃r,Nu (f+1) s.data.toList k d=r:=⟨_,rfl⟩;rw[hRES];unfold Nu at hRES
 cases hB:decide (s.data.toList[Ar s.data.toList (k+1)]? =some 125)with
 |true=>
  have hc:=hB;rw[decide_eq_true_iff]at hc;rw[if_pos hc]at hRES;subst hRES;clear hc;obtain⟨Hj,Hy0,Hy1,Hy2,Ih,H,HI0,Ek,HB⟩:=hid9 hj hy0 hy1 hy2 ih h hI0 ek hB;clear hj hy0 hy1 hy2 ih h hI0 ek hB;go_enter Tryz.func171,Tryz.ntmps171;go_wp2
  go_step3
  go_wp2_with (fail);rw[Ek.out];generalize ((w.setCell ⟨R,1,none⟩ (.int .i64 ((k+1:Nat):Int))).alloc (.cells Aj 39)).alloc (.cells #[.int .i64 6,.bool false,.int .i64 0,.string ⟨#[]⟩,.slice none 0 0,.slice none 0 0] 39)=w1 at HI0 hz1 ⊢;have hC:=D6 R g s (k+1) 125 125 (by decide) w1 (by omega) (by omega) HI0.out.went.2 HB.out;rw[if_pos rfl]at hC;(with_reducible refine hC.mono ?_);rintro e w2 ⟨rfl,h2⟩;have hI2:=HI0.out.to_ hR h2;obtain⟨y0,y1,y2,y3,y4,y5⟩:=Ao hI2.var;obtain⟨r0,r1,r2,r3,r4,r5⟩:=Ao hI2.res;have fz:=hI2.res.frozen;have HI2:=Lib.hid hI2;clear hI2;clear hC c0 c1 f1 h2 HI0;dsimp only
  repeat go_step
  obtain⟨hxf,hto⟩:=HI2.out.leave hR (.int .i64 6) (.bool false) (.int .i64 0) (.string ⟨#[]⟩) (.slice none 0 0) (.slice none 0 0);rw[Exit.noGoto_ret];exact bodyPost_ret (B4 rfl rfl hxf) rfl ⟨⟨_,rfl,Cb 6 false 0 _⟩,hto⟩
 |false=>
  have hc:=hB;rw[decide_eq_false_iff_not]at hc;rw[if_neg hc]at hRES;clear hc;have hmm:=fun W=>run_makeMap (P:=Tryz.prog) An3 W;obtain⟨Hj,Hy0,Hy1,Hy2,Ih,H,HI0,Ek,HB,HRES,HT0⟩:=hid11 hj hy0 hy1 hy2 ih h hI0 ek hB hRES hT0;clear hj hy0 hy1 hy2 ih h hI0 ek hB hRES hT0;go_enter Tryz.func171,Tryz.ntmps171;go_wp2
  go_step3
  go_wp2_with (fail);rw[Ek.out];generalize ((w.setCell ⟨R,1,none⟩ (.int .i64 ((k+1:Nat):Int))).alloc (.cells Aj 39)).alloc (.cells #[.int .i64 6,.bool false,.int .i64 0,.string ⟨#[]⟩,.slice none 0 0,.slice none 0 0] 39)=w1 at HI0 hz1 ⊢;have hC:=D6 R g s (k+1) 125 125 (by decide) w1 (by omega) (by omega) HI0.out.went.2 HB.out;rw[if_neg (by decide)]at hC;(with_reducible refine hC.mono ?_);rintro e w2 ⟨rfl,h2⟩;have hI2:=HI0.out.to_ hR h2;have hG:w.heap.size+2<=w2.heap.size:=by have:=h2.1.size;omega
  have HL0:Hid (ORd w (w2.alloc (.map #[] 0)) R g s d RES w2.heap.size (f+1) f (Ar s.data.toList (k+1)) [] (.slice none 0 0)):=
   ⟨⟨hI2.went.alloc _,hI2.res.alloc _,hI2.var.alloc _⟩,by simpa[dO]using C7.nil _ _ _ _,Cw.new w2,by simp,HRES.out,by omega,by omega,by simp⟩
  clear hC c0 c1 f1 h2 HI0 HRES hI2 HB hz1;generalize Ar s.data.toList (k+1)=p1 at HL0 hP hP1;go_wp2
  go_step3
  go_wp2;generalize w2.alloc (.map #[] 0)=w3 at HL0 ⊢;generalize w2.heap.size=G at HL0 hG ⊢
  go_loopg [] f (fun n wr=> ∃m j acc V,m=n/\j<=s.size/\Hid (ORd w wr R g s d RES G (f+1) m j acc V))
  case atStart=>exact⟨f,p1, [],_,rfl,hP,HL0⟩
  case round=>
   obtain⟨n,j,acc,V,rfl,hj,hh⟩:=hrel;clear HL0 hP hP1 p1;have hn2:=hh.out.fuel;have hnf:=hh.out.lt;have hfw:=hh.out.few;obtain⟨n,rfl⟩: ∃m,n=m+2:=⟨n - 2,by omega⟩;have hI:=hh.out.all;have hrow:=hh.out.row;have his:=hh.out.is;have hmp:=hh.out.map;have hGlt:=hmp.lt;have hGR:G≠R:=by omega
   have rdi:=H.out.to hI.went;have hpj:Ar s.data.toList j<=s.size:=B3 hj;have hpj1:=B6 s.data.toList j;have hK:=Abf R g G s acc j wr (fun W hW=>HT0.out.below (rdi.below.grown hW rdi.below.size fun r e=>by have:=Option.some.inj e;have:=rdi.ge;omega)) (by omega) hj hI.went.2 hmp hGR;have hw:=Ex (s:=s.data.toList) (p:=Ar s.data.toList j) (by rw[Ab];exact hpj);rw[show n+2=(n+1)+1 from rfl]at his;unfold Dg at his;have Hnod:=Lib.hid hh.out.nod;clear hh rdi
   cases hr:Di s.data.toList (Ar s.data.toList j)with
   |bad c q=>
    rw[hr]at hK his;simp only at his;subst his;obtain⟨HK,HI⟩:=hid2 hK hI;clear hK hI;clear hw hr hrow hmp;go_wp2_with (fail);(with_reducible refine(HK.out).mono ?_);rintro e w4 ⟨rfl,hg⟩;exact⟨rfl,rfl,B2 HI.out.went.1 hg⟩
   |ok kk q=>
    rw[hr]at hK his hw;simp only at his;obtain⟨hw1,hw2⟩:=hw;rw[Ab]at hw2;unfold Aih at hK;dsimp only at hK;obtain⟨KK,hKK⟩: ∃K:ByteArray,(⟨kk.toArray⟩:ByteArray)=K:=⟨_,rfl⟩;rw[hKK]at his;simp only[hKK]at hK;clear hKK hr
    cases hkk:Ji KK acc with
    |true=>
     rw[if_pos hkk]at his;simp only[hkk,if_true]at hK;subst his;obtain⟨HK,HI⟩:=hid2 hK hI;clear hK hI;clear hrow hmp;go_wp2_with (fail);(with_reducible refine(HK.out).mono ?_);rintro e w4 ⟨rfl,hg⟩;exact⟨rfl,rfl,B2 HI.out.went.1 hg⟩
    |false=>
     rw[if_neg (by rw[hkk];decide)]at his;simp only[hkk,Bool.false_eq_true,if_false]at hK;have Hkk:=Lib.hid hkk;clear hkk
     cases h58:decide (s.data.toList[Ar s.data.toList q]? =some 58)with
     |false=>
      have hc:=h58;rw[decide_eq_false_iff_not]at hc;rw[if_neg hc]at his;clear hc;subst his;have hpq:Ar s.data.toList q<=s.size:=B3 hw2;obtain⟨HK,HI,H58⟩:=hid3 hK hI h58;clear hK hI h58;clear hrow hmp;go_wp2_with (fail);(with_reducible refine(HK.out).mono ?_);rintro e w4 ⟨rfl,w4',t1,t2,hm4⟩;have hI4:=HI.out.seen hR hG t1 t2;clear t1 t2 hm4;have hC58:=D6 R g s q 58 58 (by decide) w4 (by omega) hw2 hI4.went.2 H58.out;rw[if_neg (by decide)]at hC58;obtain⟨HC58,HI4⟩:=hid2 hC58 hI4;clear hC58 hI4;go_wp2_with (fail);(with_reducible refine(HC58.out).mono ?_);rintro e w5 ⟨rfl,h5⟩;have hI5:=HI4.out.to_ hR h5;obtain⟨z0,z1,_,_,_⟩:=h5.2.cells;clear h5;have hW:=Cl (.pointer (some ⟨R,0,none⟩)) 4 (Ar s.data.toList q:Nat) w5;obtain⟨HI5,HW⟩:=hid2 hI5 hW;clear hI5 hW;go_wp2_with (fail);(with_reducible refine(HW.out).mono ?_);rintro e w10 ⟨rfl,rfl⟩;exact⟨rfl,rfl,HI5.out.went.1⟩
     |true=>
      have hc:=h58;rw[decide_eq_true_iff]at hc;rw[if_pos hc]at his;have hlt58:=De hc;rw[Ab]at hlt58;clear hc;have hpq1:=B6 s.data.toList q;obtain⟨HK,HI,H58,Hrow,His⟩:=hid5 hK hI h58 hrow his;clear hK hI h58 hrow his;clear hmp;go_wp2_with (fail);(with_reducible refine(HK.out).mono ?_);rintro e w4 ⟨rfl,w4',t1,t2,hm4⟩;have hI4:=HI.out.seen hR hG t1 t2;have hrow4:=Hrow.out.keep (Nat.le_trans t1.1.size t2.size) (fun i h1 h2=>(t2.block i (Nat.lt_of_lt_of_le h2 t1.1.size) (by intro e;have:=Option.some.inj e;omega)).trans (t1.1.block i h2 (by intro e;have:=Option.some.inj e;omega)));clear t1 t2;have hC58:=D6 R g s q 58 58 (by decide) w4 (by omega) hw2 hI4.went.2 H58.out;rw[if_pos rfl]at hC58;obtain⟨HC58,HI4,Hrow4,Hm4⟩:=hid4 hC58 hI4 hrow4 hm4;clear hC58 hI4 hrow4 hm4;go_wp2_with (fail);(with_reducible refine(HC58.out).mono ?_);rintro e wq ⟨rfl,h5⟩;have hI:=HI4.out.to_ hR h5;have hrow:=Hrow4.out.keep h5.1.size (fun i h1 h2=>h5.1.block i h2 (by intro e;have:=Option.some.inj e;omega));have hmp:=Hm4.out.grown h5.1 (by intro e;have:=Option.some.inj e;omega);clear h5 HC58 HI4 Hrow4 Hm4 HK HI Hrow hGlt;have his:=His.out;have hPn:Ar s.data.toList q+1<=s.size:=by omega
      generalize hpn:Ar s.data.toList q+1=p2 at*
      unfold Fq at his;obtain⟨aV,cV,rfl⟩:=hrow.slice;have rdi:=H.out.to hI.went;have hC: ∀W,Below wq.heap.size wq W->Calls Tryz.prog 123 #[.pointer (some ⟨R,0,none⟩),.int .i64 (d+1)] W (Gu R g s W (Bq n s.data.toList p2 (d+1))):=fun W hW=>Ih.out n (by omega) W p2 (d+1) (rdi.later hW) hPn (by omega) (by omega) (by omega);have hw:=(Eb n).1 s.data.toList p2 (d+1) (by rw[Ab];exact hPn);have ewr:IntKind.i64.wrap (d+1)=d+1:=IntWalk.i64_in _ (by omega);have hgv:=hI.var.lt;have dl:(dO acc).length=acc.length:=Ig _;have hGlt:=hmp.lt
      cases hr:Bq n s.data.toList p2 (d+1)with
      |bad c q'=>
       rw[hr]at hC his;simp only at his;subst his;have Hv0:=Lib.hid hI.var.drew;have HRow:=Lib.hid hrow;have HRw:=Lib.hid (show R<wq.heap.size by have:=hI.went.1.size;omega);obtain⟨HC,HI,Dl⟩:=hid3 hC hI dl;clear hC hI dl;clear hw hr rdi hrow hmp His;go_upto_region 9 with(fail);refine wp_region_held_drew (S:=fun _=>True) (by kernel_rfl) trivial (fun hHeld=> ?_);refine tkH 0 hHeld ?_;refine tkH 2 hHeld ?_;refine tkH 3 hHeld ?_;refine tkH 4 hHeld ?_;refine tkH 5 hHeld ?_;refine wpAnyH_ready (rs:= [1,6]) (by kernel_rfl) (by simp) ?_;refine AllReadyH.cons rfl (fun K hK=> ?_) (AllReadyH.cons rfl (fun K hK=> ?_) AllReadyH.nil)
       . skip;have e4:=Hv0.out.cell 5;go_simp;refine hK.out _ _ trivial (fun hHeld=> ?_);clear hK K e4
         try simp only[Act.put,tk4,tk5,tk6]
         refine wpAnyH_ready (rs:= [6]) (by kernel_rfl) (by simp) ?_;refine AllReadyH.cons rfl (fun K hK=> ?_) AllReadyH.nil;go_simp;(with_reducible refine(HC.out _ (Below.drew (Below.refl _ _))).mono ?_);rintro e w4 ⟨rfl,hg⟩;exact⟨rfl,rfl,B2 HI.out.went.1 ⟨hg.os,hg.tape,hg.output,hg.size,hg.block⟩⟩
       . skip;go_simp;(with_reducible refine(HC.out _ (Below.drew (Below.refl _ _))).mono ?_);rintro e w4 ⟨rfl,hg⟩;exact⟨rfl,rfl,B2 HI.out.went.1 ⟨hg.os,hg.tape,hg.output,hg.size,hg.block⟩⟩
      |ok v q'=>
       rw[hr]at hC his hw;simp only at his;obtain⟨hw3,hw4⟩:=hw;rw[Ab]at hw4;obtain⟨k',b',n',t',l',o'⟩:=v;have htk:dO acc++ [dP (KK,.mk k' b' n' t' l' o')]=dO (acc++ [(KK,.mk k' b' n' t' l' o')]):=by rw[Jd,Jd];simp
       have HLo:Hid ((dO acc).length+1<=maxLen/\((dO acc).length+1)*104<=140737488355328):=by rw[dl];exact⟨by simp only[maxLen];omega,by omega⟩
       have Hv0:=Lib.hid hI.var.drew;have HRow:=Lib.hid hrow;have HRw:=Lib.hid (show R<wq.heap.size by have:=hI.went.1.size;omega);obtain⟨HMp,His',HC,HI,Dl,Htk⟩:=hid6 hmp his hC hI dl htk;clear hC hI dl htk;clear hr rdi hrow hmp His his;go_upto_region 9 with(fail);go_cut [] (fun wx=>Hid (∃V,RdL w wx R g s q' #[.int .i64 6,.bool false,.int .i64 0,.string ⟨#[]⟩,.slice none 0 0,V]/\C7 (G+1) 63 7 wx (dO (acc++ [(KK,.mk k' b' n' t' l' o')])) V/\Cw Value.string wx G (Ub acc++ [(KK,.agg #[])])))
       case first=>
        refine wp_region_held_drew (S:=fun _=>True) (by kernel_rfl) trivial (fun hHeld=> ?_);refine tkH 0 hHeld ?_;refine tkH 2 hHeld ?_;refine tkH 3 hHeld ?_;refine tkH 4 hHeld ?_;refine tkH 5 hHeld ?_;refine wpAnyH_ready (rs:= [1,6]) (by kernel_rfl) (by simp) ?_;refine AllReadyH.cons rfl (fun K hK=> ?_) (AllReadyH.cons rfl (fun K hK=> ?_) AllReadyH.nil)
        . skip;have e4:=Hv0.out.cell 5;go_simp;refine hK.out _ _ trivial (fun hHeld=> ?_);clear hK K e4
          try simp only[Act.put,tk4,tk5,tk6]
          refine wpAnyH_ready (rs:= [6]) (by kernel_rfl) (by simp) ?_;refine AllReadyH.cons rfl (fun K hK=> ?_) AllReadyH.nil;go_simp;(with_reducible refine(HC.out _ (Below.drew (Below.refl _ _))).mono ?_);rintro e w4 ⟨⟨cs,rfl,hf4⟩,h4⟩;obtain⟨la4,lc4,oa4,oc4,rfl⟩:=Ct hf4;obtain⟨wm,hs1,hs2,hs3⟩:=Ir HRw.out h4.undrew.1;have hI4:=HI.out.to_ hR h4.undrew;have hrow4:=HRow.out.keep (by rw[hs1];exact Nat.le_refl _) (fun i h1 _=>hs2 i (by omega));have Hf4:Hid (Ap wm.heap.size w4 (dV (.mk k' b' n' t' l' o')) [.int .i64 k',.bool b',.int .i64 n',.string t',.slice la4 l'.length lc4,.slice oa4 o'.length oc4]):=by rw[hs1];exact hf4
          have Hv4:=Lib.hid hI4.var;obtain⟨Hs3,HI4,Hrow4⟩:=hid3 hs3 hI4 hrow4;clear hs3 hI4 hrow4;have HMp4:=Lib.hid (HMp.out.grown h4.undrew.1 (by intro e;have:=Option.some.inj e;omega));clear hf4 h4 hs2;refine hK.out _ _ trivial (fun hHeld=> ?_);clear hK K
          try simp only[Act.put,tk4,tk5,tk6]
          refine tkH 7 hHeld ?_;refine wpAnyH_ready (rs:= [8]) (by kernel_rfl) (by simp) ?_;refine AllReadyH.cons rfl (fun K hK=> ?_) AllReadyH.nil;go_simp;have Hv5:=Lib.hid (Hv4.out.alloc (.cells #[.string KK,.int .i64 k',.bool b',.int .i64 n',.string t',.slice la4 l'.length lc4,.slice oa4 o'.length oc4] 63));refine hK.out _ _ trivial (fun hHeld=> ?_);clear hK K
          try simp only[Act.put,tk4,tk5,tk6]
          refine wpAnyH_ready (rs:= [9]) (by kernel_rfl) (by simp) ?_;refine AllReadyH.cons rfl (fun K hK=> ?_) AllReadyH.nil;have hbe:=Hs3.out.alloc Hs3.out.size (.cells #[.string KK,.int .i64 k',.bool b',.int .i64 n',.string t',.slice la4 l'.length lc4,.slice oa4 o'.length oc4] 63);have hfe:=(Le (key:=KK) Hf4.out).later (Aa w4 (.cells #[.string KK,.int .i64 k',.bool b',.int .i64 n',.string t',.slice la4 l'.length lc4,.slice oa4 o'.length oc4] 63));refine Ea (d:=dP (KK,.mk k' b' n' t' l' o')) (V:=.slice aV (dO acc).length cV) (by rfl) (.tmp 33) (.tmp 40) 37 (by rfl) Tryz.underlying37 Hj.out Hy0.out Hy1.out Hy2.out rfl (by omega) (by rfl) Hrow4.out (by omega) hbe (Fc _) hfe (by rfl) (Fi w4 _ _ _ _ _ _ _) HLo.out.1 HLo.out.2 ?_;intro V6 w6 hrow6 hg6 hat6;have hto6:=Bl.app (HI4.out.went.alloc (.cells #[.string KK,.int .i64 k',.bool b',.int .i64 n',.string t',.slice la4 l'.length lc4,.slice oa4 o'.length oc4] 63)) hg6 Hrow4.out (by omega) hR;have hres6:=Dc (HI4.out.res.alloc (.cells #[.string KK,.int .i64 k',.bool b',.int .i64 n',.string t',.slice la4 l'.length lc4,.slice oa4 o'.length oc4] 63)) hg6 Hrow4.out (by omega);have hv6:=Dc Hv5.out hg6 Hrow4.out (by omega);have hm6:=(HMp4.out.alloc (.cells #[.string KK,.int .i64 k',.bool b',.int .i64 n',.string t',.slice la4 l'.length lc4,.slice oa4 o'.length oc4] 63)).grown hg6 (by intro e;have:=(Hrow4.out.base _ e.symm).1;omega);rw[Htk.out]at hrow6;refine hK.out _ _ trivial (fun hHeld=> ?_);clear hK K hg6 hat6 hfe hbe
          try simp only[Act.put,tk4]
          refine tkH 10 hHeld ?_;refine wpAnyH_ready (rs:= [11]) (by kernel_rfl) (by simp) ?_;refine AllReadyH.cons rfl (fun K hK=> ?_) AllReadyH.nil;have e6:=hv6.cell 5;have f6:=hv6.frozen 5;have hg6v:=hv6.lt;obtain⟨a6,c6,rfl⟩:=hrow6.slice;go_simp;refine hK.out _ _ trivial (fun hHeld=> ?_);clear hK K
          try simp only[Act.put,tk4,tk5,tk6]
          refine wpAnyH_done (by kernel_rfl) ?_ _;go_wp2;go_meet;exact⟨_,⟨hto6.setN _ (by simp) hR _,hres6.far (by simp) _,hv6.set_ 5 _⟩,hrow6.keep (by simp[World.setCell]) (fun i h1 _=>Below.heap_setCell _ _ _ _ (by simp;omega)),hm6.setCell (by simp;omega) _⟩
        . skip;go_simp;(with_reducible refine(HC.out _ (Below.drew (Below.refl _ _))).mono ?_);rintro e w4 ⟨⟨cs,rfl,hf4⟩,h4⟩;obtain⟨la4,lc4,oa4,oc4,rfl⟩:=Ct hf4;obtain⟨wm,hs1,hs2,hs3⟩:=Ir HRw.out h4.undrew.1;have hI4:=HI.out.to_ hR h4.undrew;have hrow4:=HRow.out.keep (by rw[hs1];exact Nat.le_refl _) (fun i h1 _=>hs2 i (by omega));have Hf4:Hid (Ap wm.heap.size w4 (dV (.mk k' b' n' t' l' o')) [.int .i64 k',.bool b',.int .i64 n',.string t',.slice la4 l'.length lc4,.slice oa4 o'.length oc4]):=by rw[hs1];exact hf4
          have Hv4:=Lib.hid hI4.var;obtain⟨Hs3,HI4,Hrow4⟩:=hid3 hs3 hI4 hrow4;clear hs3 hI4 hrow4;have HMp4:=Lib.hid (HMp.out.grown h4.undrew.1 (by intro e;have:=Option.some.inj e;omega));clear hf4 h4 hs2;refine hK.out _ _ trivial (fun hHeld=> ?_);clear hK K
          try simp only[Act.put,tk4,tk5,tk6]
          refine tkH 7 hHeld ?_;refine wpAnyH_ready (rs:= [1,8]) (by kernel_rfl) (by simp) ?_;refine AllReadyH.cons rfl (fun K hK=> ?_) (AllReadyH.cons rfl (fun K hK=> ?_) AllReadyH.nil)
          . skip;have e4:=Hv4.out.cell 5;go_simp;refine hK.out _ _ trivial (fun hHeld=> ?_);clear hK K e4
            try simp only[Act.put,tk4,tk5,tk6]
            refine wpAnyH_ready (rs:= [8]) (by kernel_rfl) (by simp) ?_;refine AllReadyH.cons rfl (fun K hK=> ?_) AllReadyH.nil;go_simp;have Hv5:=Lib.hid (Hv4.out.alloc (.cells #[.string KK,.int .i64 k',.bool b',.int .i64 n',.string t',.slice la4 l'.length lc4,.slice oa4 o'.length oc4] 63));refine hK.out _ _ trivial (fun hHeld=> ?_);clear hK K
            try simp only[Act.put,tk4,tk5,tk6]
            refine wpAnyH_ready (rs:= [9]) (by kernel_rfl) (by simp) ?_;refine AllReadyH.cons rfl (fun K hK=> ?_) AllReadyH.nil;have hbe:=Hs3.out.alloc Hs3.out.size (.cells #[.string KK,.int .i64 k',.bool b',.int .i64 n',.string t',.slice la4 l'.length lc4,.slice oa4 o'.length oc4] 63);have hfe:=(Le (key:=KK) Hf4.out).later (Aa w4 (.cells #[.string KK,.int .i64 k',.bool b',.int .i64 n',.string t',.slice la4 l'.length lc4,.slice oa4 o'.length oc4] 63));refine Ea (d:=dP (KK,.mk k' b' n' t' l' o')) (V:=.slice aV (dO acc).length cV) (by rfl) (.tmp 33) (.tmp 40) 37 (by rfl) Tryz.underlying37 Hj.out Hy0.out Hy1.out Hy2.out rfl (by omega) (by rfl) Hrow4.out (by omega) hbe (Fc _) hfe (by rfl) (Fi w4 _ _ _ _ _ _ _) HLo.out.1 HLo.out.2 ?_;intro V6 w6 hrow6 hg6 hat6;have hto6:=Bl.app (HI4.out.went.alloc (.cells #[.string KK,.int .i64 k',.bool b',.int .i64 n',.string t',.slice la4 l'.length lc4,.slice oa4 o'.length oc4] 63)) hg6 Hrow4.out (by omega) hR;have hres6:=Dc (HI4.out.res.alloc (.cells #[.string KK,.int .i64 k',.bool b',.int .i64 n',.string t',.slice la4 l'.length lc4,.slice oa4 o'.length oc4] 63)) hg6 Hrow4.out (by omega);have hv6:=Dc Hv5.out hg6 Hrow4.out (by omega);have hm6:=(HMp4.out.alloc (.cells #[.string KK,.int .i64 k',.bool b',.int .i64 n',.string t',.slice la4 l'.length lc4,.slice oa4 o'.length oc4] 63)).grown hg6 (by intro e;have:=(Hrow4.out.base _ e.symm).1;omega);rw[Htk.out]at hrow6;refine hK.out _ _ trivial (fun hHeld=> ?_);clear hK K hg6 hat6 hfe hbe
            try simp only[Act.put,tk4]
            refine tkH 10 hHeld ?_;refine wpAnyH_ready (rs:= [11]) (by kernel_rfl) (by simp) ?_;refine AllReadyH.cons rfl (fun K hK=> ?_) AllReadyH.nil;have e6:=hv6.cell 5;have f6:=hv6.frozen 5;have hg6v:=hv6.lt;obtain⟨a6,c6,rfl⟩:=hrow6.slice;go_simp;refine hK.out _ _ trivial (fun hHeld=> ?_);clear hK K
            try simp only[Act.put,tk4,tk5,tk6]
            refine wpAnyH_done (by kernel_rfl) ?_ _;go_wp2;go_meet;exact⟨_,⟨hto6.setN _ (by simp) hR _,hres6.far (by simp) _,hv6.set_ 5 _⟩,hrow6.keep (by simp[World.setCell]) (fun i h1 _=>Below.heap_setCell _ _ _ _ (by simp;omega)),hm6.setCell (by simp;omega) _⟩
          . skip;go_simp;have Hv5:=Lib.hid (Hv4.out.alloc (.cells #[.string KK,.int .i64 k',.bool b',.int .i64 n',.string t',.slice la4 l'.length lc4,.slice oa4 o'.length oc4] 63));refine hK.out _ _ trivial (fun hHeld=> ?_);clear hK K
            try simp only[Act.put,tk4,tk5,tk6]
            refine wpAnyH_ready (rs:= [1]) (by kernel_rfl) (by simp) ?_;refine AllReadyH.cons rfl (fun K hK=> ?_) AllReadyH.nil;have e4:=Hv5.out.cell 5;go_simp;refine hK.out _ _ trivial (fun hHeld=> ?_);clear hK K e4
            try simp only[Act.put,tk4,tk5,tk6]
            refine wpAnyH_ready (rs:= [9]) (by kernel_rfl) (by simp) ?_;refine AllReadyH.cons rfl (fun K hK=> ?_) AllReadyH.nil;have hbe:=Hs3.out.alloc Hs3.out.size (.cells #[.string KK,.int .i64 k',.bool b',.int .i64 n',.string t',.slice la4 l'.length lc4,.slice oa4 o'.length oc4] 63);have hfe:=(Le (key:=KK) Hf4.out).later (Aa w4 (.cells #[.string KK,.int .i64 k',.bool b',.int .i64 n',.string t',.slice la4 l'.length lc4,.slice oa4 o'.length oc4] 63));refine Ea (d:=dP (KK,.mk k' b' n' t' l' o')) (V:=.slice aV (dO acc).length cV) (by rfl) (.tmp 33) (.tmp 40) 37 (by rfl) Tryz.underlying37 Hj.out Hy0.out Hy1.out Hy2.out rfl (by omega) (by rfl) Hrow4.out (by omega) hbe (Fc _) hfe (by rfl) (Fi w4 _ _ _ _ _ _ _) HLo.out.1 HLo.out.2 ?_;intro V6 w6 hrow6 hg6 hat6;have hto6:=Bl.app (HI4.out.went.alloc (.cells #[.string KK,.int .i64 k',.bool b',.int .i64 n',.string t',.slice la4 l'.length lc4,.slice oa4 o'.length oc4] 63)) hg6 Hrow4.out (by omega) hR;have hres6:=Dc (HI4.out.res.alloc (.cells #[.string KK,.int .i64 k',.bool b',.int .i64 n',.string t',.slice la4 l'.length lc4,.slice oa4 o'.length oc4] 63)) hg6 Hrow4.out (by omega);have hv6:=Dc Hv5.out hg6 Hrow4.out (by omega);have hm6:=(HMp4.out.alloc (.cells #[.string KK,.int .i64 k',.bool b',.int .i64 n',.string t',.slice la4 l'.length lc4,.slice oa4 o'.length oc4] 63)).grown hg6 (by intro e;have:=(Hrow4.out.base _ e.symm).1;omega);rw[Htk.out]at hrow6;refine hK.out _ _ trivial (fun hHeld=> ?_);clear hK K hg6 hat6 hfe hbe
            try simp only[Act.put,tk4]
            refine tkH 10 hHeld ?_;refine wpAnyH_ready (rs:= [11]) (by kernel_rfl) (by simp) ?_;refine AllReadyH.cons rfl (fun K hK=> ?_) AllReadyH.nil;have e6:=hv6.cell 5;have f6:=hv6.frozen 5;have hg6v:=hv6.lt;obtain⟨a6,c6,rfl⟩:=hrow6.slice;go_simp;refine hK.out _ _ trivial (fun hHeld=> ?_);clear hK K
            try simp only[Act.put,tk4,tk5,tk6]
            refine wpAnyH_done (by kernel_rfl) ?_ _;go_wp2;go_meet;exact⟨_,⟨hto6.setN _ (by simp) hR _,hres6.far (by simp) _,hv6.set_ 5 _⟩,hrow6.keep (by simp[World.setCell]) (fun i h1 _=>Below.heap_setCell _ _ _ _ (by simp;omega)),hm6.setCell (by simp;omega) _⟩
       obtain⟨V',hI5,hrow5,hmp5⟩:=hcut.out;have hG5:=hmp5.lt;have hq':Ar s.data.toList q'<=s.size:=B3 hw4;have hq1:=B6 s.data.toList q';have hnd:=Ajh Hkk.out Hnod.out (.mk k' b' n' t' l' o');clear hcut HC HI Dl Htk Hv0 HRow HRw HLo ewr HMp Hkk Hnod
       cases h44:decide (s.data.toList[Ar s.data.toList q']? =some 44)with
       |true=>
        have hC44:=D6 R g s q' 44 44 (by decide) wc (by omega) hw4 hI5.went.2 h44;rw[if_pos rfl]at hC44;have hc:=h44;rw[decide_eq_true_iff]at hc;have hr':=His'.out;rw[if_pos hc]at hr';have hlt8:=De hc;rw[Ab]at hlt8;clear hc h44;obtain⟨HI5,Hrow5,HC44,Hr',Hmp5,Hnd⟩:=hid6 hI5 hrow5 hC44 hr' hmp5 hnd;clear hI5 hrow5 hC44 hr' hmp5 hnd;go_wp2_with (fail);(with_reducible refine(HC44.out).mono ?_);rintro e w8 ⟨rfl,h8⟩;have HN:Hid (ORd w w8 R g s d RES G (f+1) n (Ar s.data.toList q'+1) (acc++ [(KK,.mk k' b' n' t' l' o')]) V'):=⟨HI5.out.to_ hR h8,Hrow5.out.keep h8.1.size (fun i h1 h2=>h8.1.block i h2 (by intro e;have:=Option.some.inj e;omega)),by simpa[Ub]using Hmp5.out.grown h8.1 (by intro e;have:=Option.some.inj e;omega),Hnd.out,Hr'.out,by omega,by omega,by simp;omega⟩;clear h8;go_wp2
        go_roundg n
        case measure=>omega
        case rel=>exact⟨n,_,_,_,rfl,by omega,HN⟩
       |false=>
        have hC44:=D6 R g s q' 44 44 (by decide) wc (by omega) hw4 hI5.went.2 h44;rw[if_neg (by decide)]at hC44;have hc:=h44;rw[decide_eq_false_iff_not]at hc;have hr':=His'.out;rw[if_neg hc]at hr';clear hc h44
        cases h93:decide (s.data.toList[Ar s.data.toList q']? =some 125)with
        |true=>
         have hc:=h93;rw[decide_eq_true_iff]at hc;rw[if_pos hc]at hr';clear hc;subst hr';obtain⟨HI5,Hrow5,HC44,H93,Hnd⟩:=hid5 hI5 hrow5 hC44 h93 hnd;clear hI5 hrow5 hC44 h93 hnd;go_wp2_with (fail);(with_reducible refine(HC44.out).mono ?_);rintro e w8 ⟨rfl,h8⟩;have h93':=H93.out;rw[<-Gr]at h93';have hC93:=D6 R g s (Ar s.data.toList q') 125 125 (by decide) w8 (by omega) hq' h8.2 h93';rw[if_pos rfl,Gr]at hC93;have hI8:=HI5.out.to_ hR h8;have hz8:=h8.1.size;have hrow8:=Hrow5.out.keep h8.1.size (fun i h1 h2=>h8.1.block i h2 (by intro e;have:=Option.some.inj e;omega));clear h8 h93';obtain⟨HI8,Hrow8,HC93⟩:=hid3 hI8 hrow8 hC93;clear hI8 hrow8 hC93;go_wp2_with (fail);(with_reducible refine(HC93.out).mono ?_);rintro e w9 ⟨rfl,h9⟩;have hI9:=HI8.out.to_ hR h9;have hz9:=h9.1.size;have hrow9:=Hrow8.out.keep h9.1.size (fun i h1 h2=>h9.1.block i h2 (by intro e;have:=Option.some.inj e;omega));clear h9;obtain⟨a',c',rfl⟩:=hrow9.slice;have hGw:G+1<=w9.heap.size:=by omega
         have hS:=Vx hrow9 (by omega) Hnd.out (by simp;omega);have y5:=hI9.var.cell 5;have hgv9:=hI9.var.lt;obtain⟨HI9,Hrow9,HS⟩:=hid3 hI9 hrow9 hS;clear hI9 hrow9 hS;go_wp2_with (fail);(with_reducible refine(HS.out).mono ?_);rintro e w10 ⟨rfl,hg10,hf10⟩;have hto:=Bl.app HI9.out.went hg10 Hrow9.out (by omega) hR;have hI10:RdL w w10 R g s (Ar s.data.toList q'+1) #[.int .i64 6,.bool false,.int .i64 0,.string ⟨#[]⟩,.slice none 0 0,.slice a' (dO (acc++ [(KK,.mk k' b' n' t' l' o')])).length c']:=⟨hto,Dc HI9.out.res hg10 Hrow9.out (by omega),Dc HI9.out.var hg10 Hrow9.out (by omega)⟩;clear hto hg10 y5 hgv9;obtain⟨y0,y1,y2,y3,y4,y5⟩:=Ao hI10.var;obtain⟨r0,r1,r2,r3,r4,r5⟩:=Ao hI10.res;have fz:=hI10.res.frozen;have el:(dO (acc++ [(KK,.mk k' b' n' t' l' o')])).length=acc.length+1:=by rw[Ig];simp
         rw[el]at y5 hf10;obtain⟨hxf,hto⟩:=hI10.leave hR (.int .i64 6) (.bool false) (.int .i64 0) (.string ⟨#[]⟩) (.slice none 0 0) (.slice a' (acc.length+1) c');have hff:=Agv (hf10.keep (b':=w.heap.size) (w':=A1 w10 w.heap.size 0 [.int .i64 6,.bool false,.int .i64 0,.string ⟨#[]⟩,.slice none 0 0,.slice a' (acc.length+1) c']) (by omega) (by rw[Ba];exact Nat.le_refl _) (fun p p1 p2=>World.cell?_of_block (Aw _ _ _ _ _ (by omega))));obtain⟨HI10,Hxf,Hto,Hff,Hf10⟩:=hid5 hI10 hxf hto hff hf10;clear hI10 hxf hto hff hf10;go_upto_region 14 with(fail);go_wp2;rw[Exit.noGoto_ret];exact bodyPost_ret (B4 rfl rfl Hxf.out) rfl ⟨⟨_,rfl,Hff.out⟩,Hto.out⟩
        |false=>
         have hc:=h93;rw[decide_eq_false_iff_not]at hc;rw[if_neg hc]at hr';clear hc;subst hr';obtain⟨HI5,Hrow5,HC44,H93⟩:=hid4 hI5 hrow5 hC44 h93;clear hI5 hrow5 hC44 h93;go_wp2_with (fail);(with_reducible refine(HC44.out).mono ?_);rintro e w8 ⟨rfl,h8⟩;have h93':=H93.out;rw[<-Gr]at h93';have hC93:=D6 R g s (Ar s.data.toList q') 125 125 (by decide) w8 (by omega) hq' h8.2 h93';rw[if_neg (by decide),Gr]at hC93;have hI8:=HI5.out.to_ hR h8;clear h8 h93';obtain⟨HI8,HC93⟩:=hid2 hI8 hC93;clear hI8 hC93;go_wp2_with (fail);(with_reducible refine(HC93.out).mono ?_);rintro e w9 ⟨rfl,h9⟩;have hI9:=HI8.out.to_ hR h9;obtain⟨z0,z1,_,_,_⟩:=h9.2.cells;clear h9;have hW:=Cl (.pointer (some ⟨R,0,none⟩)) 4 (Ar s.data.toList q':Nat) w9;obtain⟨HI9,HW⟩:=hid2 hI9 hW;clear hI9 hW;go_wp2_with (fail);(with_reducible refine(HW.out).mono ?_);rintro e w10 ⟨rfl,rfl⟩;exact⟨rfl,rfl,HI9.out.went.1⟩
def Fy (b:Nat) (wr:World) (own:Option Nat) (l:List Val) (ns:List Value):Prop:= ∀w'':World,wr.heap.size<=w''.heap.size->
 (∀p:Addr,b<=p.block->p.block<wr.heap.size->own≠some p.block->w''.cell? p=wr.cell? p)->Kh w'' wr.heap.size l ns
theorem Fy.step {b:Nat} {wr w4 w6:World} {own own':Option Nat} {t N:Nat} {l:List Val} {ns cs:List Value} {x:Val} (h:Fy b wr own l ns) (hx:Ql wr w4 x cs) (hw:b<=wr.heap.size)
 (ho: ∀g,own=some g->g<wr.heap.size) (ho':own'=own\/own'=some N) (hN:w4.heap.size<=N) (ht:t<b)
 (h4: ∀p:Addr,p.block<wr.heap.size->w4.cell? p=wr.cell? p) (hs4:wr.heap.size<=w4.heap.size)
 (h6: ∀p:Addr,p.block<w4.heap.size->own≠some p.block->p.block≠t->w6.cell? p=w4.cell? p) (hs6:w4.heap.size<=w6.heap.size):Fy b w6 own' (l++ [x]) (ns++cs):=by
 intro w'' hsz hag;have a1:Kh w'' w6.heap.size l ns:=by
  refine Kh.more (by omega) (h w'' (by omega) (fun p p1 p2 p3=> ?_));have e1:own'≠some p.block:=by
   rcases ho' with e|e
   . rw[e];exact p3
   . rw[e];intro e2;have:=Option.some.inj e2;omega
  rw[hag p p1 (by omega) e1,h6 p (by omega) p3 (by omega),h4 p p2]
 have a2:Ac w'' w6.heap.size x cs:=by
  refine Ac.more hs6 _ _ (hx w'' (by omega) (fun p p1 p2=> ?_));have e0:own≠some p.block:=fun e=>by have:=ho _ e;omega
  have e1:own'≠some p.block:=by
   rcases ho' with e|e
   . rw[e];exact e0
   . rw[e];intro e2;have:=Option.some.inj e2;omega
  rw[hag p (by omega) (by omega) e1,h6 p p2 e0 (by omega)]
 exact Kh.snoc a2 a1
def Amx (b:Nat) (wr:World) (l:List Val) (V:Value):Prop:= ∃la lc,V=.slice la l.length lc/\(l= []\/ ∃g,la=some ⟨g,0,none⟩/\g<wr.heap.size/\ ∀w'':World,wr.heap.size<=w''.heap.size->
 (∀p:Addr,b<=p.block->p.block<wr.heap.size->w''.cell? p=wr.cell? p)->Az w'' wr.heap.size l g 0)
theorem Fy.close {b:Nat} {wr:World} {l:List Val} {V:Value} {ns:List Value} (h:Fy b wr V.ownBlock l ns) (ho:wr.ownsRow b 39 6 V l.length ns):Amx b wr l V:=by
 obtain⟨la,lc,rfl,hs⟩:=Qz ho;refine⟨la,lc,rfl, ?_⟩;rcases hs with h0|⟨g,rfl,hbg,hg,hc⟩
 . exact .inl (List.length_eq_zero_iff.1 h0)
 . refine .inr ⟨g,rfl,hg,fun w'' hsz hag=> ?_⟩;exact(h w'' hsz (fun p p1 p2 _=>hag p p1 p2)).holds (fun v cs hv=>hv) (fun j u hu=>by rw[hag _ hbg hg];exact hc j u hu)
def E2 (b:Nat) (wr:World) (own:Option Nat) (l:List (ByteArray×Val)) (ns:List Value):Prop:= ∀w'':World,wr.heap.size<=w''.heap.size->
 (∀p:Addr,b<=p.block->p.block<wr.heap.size->own≠some p.block->w''.cell? p=wr.cell? p)->Fa w'' wr.heap.size l ns
theorem E2.step {b:Nat} {wr w4 w6:World} {own own':Option Nat} {t N:Nat} {l:List (ByteArray×Val)} {ns cs:List Value} {key:ByteArray} {x:Val} (h:E2 b wr own l ns) (hx:Ql wr w4 x cs) (hw:b<=wr.heap.size)
 (ho: ∀g,own=some g->g<wr.heap.size) (ho':own'=own\/own'=some N) (hN:w4.heap.size<=N) (ht:t<b)
 (h4: ∀p:Addr,p.block<wr.heap.size->w4.cell? p=wr.cell? p) (hs4:wr.heap.size<=w4.heap.size)
 (h6: ∀p:Addr,p.block<w4.heap.size->own≠some p.block->p.block≠t->w6.cell? p=w4.cell? p) (hs6:w4.heap.size<=w6.heap.size):E2 b w6 own' (l++ [(key,x)]) (ns++(.string key::cs)):=by
 intro w'' hsz hag;have a1:Fa w'' w6.heap.size l ns:=by
  refine Fa.more (by omega) (h w'' (by omega) (fun p p1 p2 p3=> ?_));have e1:own'≠some p.block:=by
   rcases ho' with e|e
   . rw[e];exact p3
   . rw[e];intro e2;have:=Option.some.inj e2;omega
  rw[hag p p1 (by omega) e1,h6 p (by omega) p3 (by omega),h4 p p2]
 have a2:Ac w'' w6.heap.size x cs:=by
  refine Ac.more hs6 _ _ (hx w'' (by omega) (fun p p1 p2=> ?_));have e0:own≠some p.block:=fun e=>by have:=ho _ e;omega
  have e1:own'≠some p.block:=by
   rcases ho' with e|e
   . rw[e];exact e0
   . rw[e];intro e2;have:=Option.some.inj e2;omega
  rw[hag p (by omega) (by omega) e1,h6 p p2 e0 (by omega)]
 exact Fa.snoc a2 a1
def Amy (b:Nat) (wr:World) (l:List (ByteArray×Val)) (V:Value):Prop:= ∃la lc,V=.slice la l.length lc/\(l= []\/ ∃g,la=some ⟨g,0,none⟩/\g<wr.heap.size/\ ∀w'':World,wr.heap.size<=w''.heap.size->
 (∀p:Addr,b<=p.block->p.block<wr.heap.size->w''.cell? p=wr.cell? p)->Au w'' wr.heap.size l g 0)
theorem E2.close {b:Nat} {wr:World} {l:List (ByteArray×Val)} {V:Value} {ns:List Value} (h:E2 b wr V.ownBlock l ns) (ho:wr.ownsRow b 63 7 V l.length ns):Amy b wr l V:=by
 have ho':=ho;rcases ho.2 with⟨rfl,hz⟩|⟨g,cap,cur,rfl,hbg,hg,_,_,_,_⟩
 . exact⟨none,0,by rw[hz],.inl (List.length_eq_zero_iff.1 hz)⟩
 . refine⟨_,cap,rfl,.inr ⟨g,rfl,(Array.getElem?_eq_some_iff.1 hg).1,fun w'' hsz hag=> ?_⟩⟩;refine(h w'' hsz (fun p p1 p2 _=>hag p p1 p2)).holds (fun j u hu=> ?_);rw[hag _ hbg (Array.getElem?_eq_some_iff.1 hg).1];have:=ho'.cells (g:=g) rfl j u hu
   rwa [Go.WideShapes.add_plain]at this
theorem Se {w4 w5:World} {ob:Obj} {own:Option Nat} {t i:Nat} {V:Value} (hg:(w4.alloc ob).grownBy w5 own):
 (∀c,c<w4.heap.size->own≠some c->c≠t->(w5.setCell ⟨t,i,none⟩ V).heap[c]? =w4.heap[c]?)/\(∀p:Addr,p.block<w4.heap.size->own≠some p.block->p.block≠t->(w5.setCell ⟨t,i,none⟩ V).cell? p=w4.cell? p)/\
 w4.heap.size<=(w5.setCell ⟨t,i,none⟩ V).heap.size:=by
 have h1: ∀c,c<w4.heap.size->own≠some c->c≠t->(w5.setCell ⟨t,i,none⟩ V).heap[c]? =w4.heap[c]? :=by
  intro c hc ho ht;rw[D7 _ _ _ _ ht,hg.block c (by simp;omega) (fun e=>ho e.symm),Lib.alloc_old w4 _ _ hc]
 refine⟨h1,fun p hp ho ht=>World.cell?_of_block (h1 p.block hp ho ht), ?_⟩;have:=hg.size;simp only[World.size_alloc]at this;have e:(w5.setCell ⟨t,i,none⟩ V).heap.size=w5.heap.size:=by simp[World.setCell]
 omega
set_option maxRecDepth 100000 in
theorem Agd (k:Int) (b:Bool) (n:Int) (t:ByteArray) (l:List Val) (o:List (ByteArray×Val)) (la oa:Option Addr) (oc lc:Nat) (w:World) (IH: ∀v ∈ l,Mb v) (IHo: ∀m ∈ o,Mb m.2)
 (ho:o= []\/ ∃g off,oa=some ⟨g,off,none⟩/\g<w.heap.size/\Au w w.heap.size o g off) (hbo:Al o<=100000000)
 (hl:l= []\/ ∃g off,la=some ⟨g,off,none⟩/\g<w.heap.size/\Az w w.heap.size l g off) (hb:Bc l<=100000000):
 Calls Tryz.prog 44 #[.agg #[.int .i64 k,.bool b,.int .i64 n,.string t,.slice la l.length lc,.slice oa o.length oc]] w fun e w'=>(∃cs',e=.returned (.agg (cs':List Value).toArray)/\cs'.length=6/\Ql w w' (.mk k b n t l o) cs')/\Below w.heap.size w w':=by
 have hln:=D3 l;obtain⟨i0,hi,hz0,hz1,hz2⟩:=info_parts Pw;obtain⟨HI,HZ0,HZ1,HZ2,HIH,HIHo,Ho⟩:=hid7 hi hz0 hz1 hz2 IH IHo ho;have hlo:=Cg o;clear hi hz0 hz1 hz2 IH IHo ho;go_enter Tryz.func44,Tryz.ntmps44;go_wp2_with (fail);obtain⟨w0,hw0⟩: ∃w0,((w.alloc (.cells #[.int .i64 k,.bool b,.int .i64 n,.string t,.slice la l.length lc,.slice oa o.length oc] 39)).alloc (.cells #[.int .i64 0,.bool false,.int .i64 0,.string ⟨#[]⟩,.slice none 0 0,.slice none 0 0] 39)).alloc (.cells #[.int .i64 k,.bool b,.int .i64 n,.string t,.slice none 0 0,.slice none 0 0] 39)=w0:=⟨_,rfl⟩;have Hown0:Hid (w0.ownsRow (w.heap.size+3) 39 6 (.slice none 0 0) 0 []):=World.ownsRow_nil _ _ _ _;have Hfr0:Hid (Fy (w.heap.size+3) w0 (Value.slice none 0 0).ownBlock (l.take 0) []):=fun _ _ _=>rfl;have Hbw0:Hid (Below w.heap.size w w0):=by
  show Below _ _ _;rw[<-hw0];exact(((Below.refl _ _).alloc (Nat.le_refl _) _).alloc (by simp) _).alloc (by simp;omega) _
 have Hx10:Hid (w0.heap[w.heap.size]? =some (.cells #[.int .i64 k,.bool b,.int .i64 n,.string t,.slice la l.length lc,.slice oa o.length oc] 39 (0,0))):=by
  show _=_;rw[<-hw0,Lib.alloc_old _ _ _ (by simp;omega),Lib.alloc_old _ _ _ (by simp)];exact heap_alloc_new _ _
 have Hx20:Hid (w0.heap[w.heap.size+1]? =some (.cells #[.int .i64 0,.bool false,.int .i64 0,.string ⟨#[]⟩,.slice none 0 0,.slice none 0 0] 39 (0,0))):=by
  show _=_;rw[<-hw0,Lib.alloc_old _ _ _ (by simp)];have:=heap_alloc_new (w.alloc (.cells #[.int .i64 k,.bool b,.int .i64 n,.string t,.slice la l.length lc,.slice oa o.length oc] 39)) (.cells #[.int .i64 0,.bool false,.int .i64 0,.string ⟨#[]⟩,.slice none 0 0,.slice none 0 0] 39);simpa using this
 have Hx30:Hid (w0.heap[w.heap.size+2]? =some (.cells #[.int .i64 k,.bool b,.int .i64 n,.string t,.slice none 0 0,.slice none 0 0] 39 (0,0))):=by
  show _=_;rw[<-hw0];have:=heap_alloc_new ((w.alloc (.cells #[.int .i64 k,.bool b,.int .i64 n,.string t,.slice la l.length lc,.slice oa o.length oc] 39)).alloc (.cells #[.int .i64 0,.bool false,.int .i64 0,.string ⟨#[]⟩,.slice none 0 0,.slice none 0 0] 39)) (.cells #[.int .i64 k,.bool b,.int .i64 n,.string t,.slice none 0 0,.slice none 0 0] 39);simpa using this
 rw[hw0];clear hw0;go_loopw [4] (fun i wr=> ∃(q:Nat) (v1:Value) (ns:List Value),i=.int .i64 q/\q<=l.length/\Hid (wr.ownsRow (w.heap.size+3) 39 6 v1 q ns)/\Hid (Fy (w.heap.size+3) wr v1.ownBlock (l.take q) ns)/\Hid (Below w.heap.size w wr)/\
  Hid (wr.heap[w.heap.size+1]? =some (.cells #[.int .i64 0,.bool false,.int .i64 0,.string ⟨#[]⟩,.slice none 0 0,.slice none 0 0] 39 (0,0)))/\
  Hid (wr.heap[w.heap.size]? =some (.cells #[.int .i64 k,.bool b,.int .i64 n,.string t,.slice la l.length lc,.slice oa o.length oc] 39 (0,0)))/\
  Hid (wr.heap[w.heap.size+2]? =some (.cells #[.int .i64 k,.bool b,.int .i64 n,.string t,v1,.slice none 0 0] 39 (0,0)))) (fun i _=>l.length - (intOf i).toNat)
 case atStart=>exact⟨0,.slice none 0 0, [],rfl,Nat.zero_le _,Hown0,Hfr0,Hbw0,Hx20,Hx10,Hx30⟩
 case round=>
  obtain⟨q,v1,ns,rfl,hq,hown,hfrow,hbw,hx2,hx1,hx3⟩:=hrel;clear Hown0 Hfr0 Hbw0 Hx20 Hx10 Hx30;have b1:wr.cell? ⟨w.heap.size,4,none⟩=some (.slice la l.length lc):=by rw[Lib.cell_of_heap hx1.out];rfl
  have b3:wr.cell? ⟨w.heap.size+2,4,none⟩=some v1:=by rw[Lib.cell_of_heap hx3.out];rfl
  have f3:wr.frozen? ⟨w.heap.size+2,4,none⟩=false:=Lib.frozen_of_heap hx3.out _;have z3:w.heap.size+2<wr.heap.size:=(Array.getElem?_eq_some_iff.1 hx3.out).1;by_cases hlt:q<l.length
  . obtain⟨g,off,rfl,hg,hL⟩: ∃g off,la=some ⟨g,off,none⟩/\g<w.heap.size/\Az w w.heap.size l g off:=by
     rcases hl with rfl|h
     . simp at hlt
     . exact h
    obtain⟨x,hx⟩: ∃v,l[q]? =some v:=⟨_,List.getElem?_eq_getElem hlt⟩;have hmem:=List.mem_of_getElem? hx;have IHx:=HIH.out x hmem;have hbv:=Eg hmem;have htk:l.take (q+1)=l.take q++ [x]:=by rw[List.take_add_one,hx];rfl
    obtain⟨k',b',n',t',l',o'⟩:=x;obtain⟨la',lc',oa',oc',hvs,c0,c1,c2,c3,c4,c5⟩:=(hL.below hg hbw.out).six hx;have hz:=hbw.out.size;have CC:=IHx _ wr.drew (Ac.more hz _ _ (hvs.below (Below.drew (Below.refl _ _)))) (by omega);have HC:=Lib.hid CC;have hown4: ∀w4:World,Below wr.drew.heap.size wr.drew w4->w4.ownsRow (w.heap.size+3) 39 6 v1 q ns:=by
     intro w4 h4;have h5:Below wr.heap.size wr w4:=(Below.drew (Below.refl _ _)).trans h4;refine hown.out.kept (Ko h5) ?_
     cases v1.ownBlock with
     |none=>exact .inl rfl
     |some g=>exact .inr (by simp)
    have Hown4:=Lib.hid hown4;have HZ:=Lib.hid (show w.heap.size+3<=wr.heap.size by omega);have HX6:Hid (∀(w4:World),Below wr.drew.heap.size wr.drew w4-> ∀(ob:Obj) (w5:World),(w4.alloc ob).grownBy w5 v1.ownBlock->w5.heap[w.heap.size+2]? =some (.cells #[.int .i64 k,.bool b,.int .i64 n,.string t,v1,.slice none 0 0] 39 (0,0))):=by
     intro w4 h4 ob w5 h5;have e4:w4.heap[w.heap.size+2]? =_:=(h4.block (w.heap.size+2) z3).trans hx3.out;have l4:=(Array.getElem?_eq_some_iff.1 e4).1;rw[h5.block _ (by simp;omega) (fun e=>by have:=(hown.out.lt _ e.symm).1;omega),Lib.alloc_old w4 _ _ l4];exact e4
    have HG6:Hid (∀(w4:World),Below wr.drew.heap.size wr.drew w4-> ∀ob:Obj,(w4.alloc ob).cell? ⟨w.heap.size+2,4,none⟩=some v1):=by
     intro w4 h4 ob;have e4:w4.heap[w.heap.size+2]? =_:=(h4.block (w.heap.size+2) z3).trans hx3.out;have l4:=(Array.getElem?_eq_some_iff.1 e4).1;have e5:(w4.alloc ob).heap[w.heap.size+2]? =_:=(Lib.alloc_old w4 ob _ l4).trans e4;rw[Lib.cell_of_heap e5];rfl
    clear CC hown4 hvs hx hmem IHx hL hg;go_wp2_with (fail)
    go_region_law (first|(refine step_append_lies _ (by rfl) (.tmp 23) (.tmp 30) 36 (by rfl) (w.heap.size+3) 39 i0 (.agg #[.int .i64 0,.bool false,.int .i64 0,.string ⟨#[]⟩,.slice none 0 0,.slice none 0 0]) 6 88 Tryz.underlying36 HI.out HZ0.out HZ1.out HZ2.out rfl (by omega) v1 q ns (by rfl) ((Hown4.out _ Hb4.out).alloc _) ⟨w4.heap.size,0,none⟩ 1 1 [a0,a1,a2,a3,a4,a5] (by rfl) (by rfl) (World.news_of_block (cs:= #[a0,a1,a2,a3,a4,a5]) (t:=39) (fr:=(0,0)) (heap_alloc_new w4 _)) Hone.out (by omega) (by unfold maxLen;omega) (by omega) Hsz.out (w4.heap.size+1) (by simp) ?_;intro gg cap w5 hown5 hgrow5 hat5 hlt5;have hx5:w5.heap[w.heap.size+2]? =some (.cells #[.int .i64 k,.bool b,.int .i64 n,.string t,v1,.slice none 0 0] 39 (0,0)):=HX5.out w5 hgrow5;have g5:w5.cell? ⟨w.heap.size+2,4,none⟩=some v1:=(by rw[Lib.cell_of_heap hx5];rfl);have f5:w5.frozen? ⟨w.heap.size+2,4,none⟩=false:=Lib.frozen_of_heap hx5 _;have Hown5:=Lib.hid hown5;have Hgrow5:=Lib.hid hgrow5;have Hat5:=Lib.hid hat5;have Hx5:=Lib.hid hx5;clear hown5 hgrow5 hat5 hx5)|(go_simp;go_at_call 44;refine(HC.out).mono ?_;rintro e w4 ⟨⟨cs4,rfl,hl4,hfr⟩,hb4⟩;obtain⟨a0,a1,a2,a3,a4,a5,rfl⟩:=Ut hl4;have Hfr:=Lib.hid hfr;have Hb4:=Lib.hid hb4;have g3:w4.cell? ⟨w.heap.size+2,4,none⟩=some v1:=(hb4.cell (p:=⟨w.heap.size+2,4,none⟩) z3).trans b3;have Hone:Hid (∀u ∈ [a0,a1,a2,a3,a4,a5],u.oneCell'=true):=(hfr w4 (Nat.le_refl _) (fun _ _ _=>rfl)).len.2;have Hsz:Hid (w.heap.size+3<=(w4.alloc (.cells #[a0,a1,a2,a3,a4,a5] 39)).heap.size):=(by show _<=_;have h1:=hb4.size;have h2:=HZ.out;have h3:wr.drew.heap.size=wr.heap.size:=rfl;simp;omega);have g4:(w4.alloc (.cells #[a0,a1,a2,a3,a4,a5] 39)).cell? ⟨w.heap.size+2,4,none⟩=some v1:=HG6.out w4 hb4 _;have HX5:Hid (∀w5:World,(w4.alloc (.cells #[a0,a1,a2,a3,a4,a5] 39)).grownBy w5 v1.ownBlock->w5.heap[w.heap.size+2]? =some (.cells #[.int .i64 k,.bool b,.int .i64 n,.string t,v1,.slice none 0 0] 39 (0,0))):=(fun w5 hg5=>HX6.out w4 hb4 _ w5 hg5);clear hfr hb4 hl4))
    all_goals
     have hb4':Below wr.heap.size wr w4:=(Below.drew (Below.refl _ _)).trans Hb4.out;have hlo:=fun gg hh=>(hown.out.lt gg hh);obtain⟨r1,r2,r3⟩:=Se (t:=w.heap.size+2) (i:=4) (V:=.slice (some ⟨gg,0,none⟩) (q+1) cap) Hgrow5.out;have n2:v1.ownBlock≠some (w.heap.size+2):=fun e=>by have:=(hlo _ e).1;omega
     have n0:v1.ownBlock≠some w.heap.size:=fun e=>by have:=(hlo _ e).1;omega
     have hs4:=hb4'.size;have Hfr':Hid (Fy (w.heap.size+3) (w5.setCell ⟨w.heap.size+2,4,none⟩ (.slice (some ⟨gg,0,none⟩) (q+1) cap)) (some gg) (l.take (q+1)) (ns++ [a0,a1,a2,a3,a4,a5])):=by
      show Fy _ _ _ _ _;rw[htk];refine Fy.step (t:=w.heap.size+2) (N:=w4.heap.size+1) hfrow.out Hfr.out HZ.out (fun g hh=>(hlo g hh).2) ?_ (by omega) (by omega) (fun p hp=>hb4'.cell hp) hs4 r2 r3;rcases Hat5.out with e|e
      . exact .inl e.symm
      . exact .inr (by rw[e])
     have Ho':Hid ((w5.setCell ⟨w.heap.size+2,4,none⟩ (.slice (some ⟨gg,0,none⟩) (q+1) cap)).ownsRow (w.heap.size+3) 39 6 (.slice (some ⟨gg,0,none⟩) (q+1) cap) (q+1) (ns++ [a0,a1,a2,a3,a4,a5])):=ownsRow_setCell_below Hown5.out (by simp) _;have Hb':Hid (Below w.heap.size w (w5.setCell ⟨w.heap.size+2,4,none⟩ (.slice (some ⟨gg,0,none⟩) (q+1) cap))):=(((hbw.out.trans (hb4'.mono hz)).alloc (by omega) _).grown Hgrow5.out (by simp;omega) (fun c hc=>by have:=(hlo c hc).1;omega)).setCell (by simp) _;have n1:v1.ownBlock≠some (w.heap.size+1):=fun e=>by have:=(hlo _ e).1;omega
     have Hx2':Hid ((w5.setCell ⟨w.heap.size+2,4,none⟩ (.slice (some ⟨gg,0,none⟩) (q+1) cap)).heap[w.heap.size+1]? =some (.cells #[.int .i64 0,.bool false,.int .i64 0,.string ⟨#[]⟩,.slice none 0 0,.slice none 0 0] 39 (0,0))):=by
      show _=_;rw[r1 _ (by omega) n1 (by omega),hb4'.block _ (by omega)];exact hx2.out
     have Hx1':Hid ((w5.setCell ⟨w.heap.size+2,4,none⟩ (.slice (some ⟨gg,0,none⟩) (q+1) cap)).heap[w.heap.size]? =some (.cells #[.int .i64 k,.bool b,.int .i64 n,.string t,.slice (some ⟨g,off,none⟩) l.length lc,.slice oa o.length oc] 39 (0,0))):=by
      show _=_;rw[r1 _ (by omega) n0 (by omega),hb4'.block _ (by omega)];exact hx1.out
     have Hx3':Hid ((w5.setCell ⟨w.heap.size+2,4,none⟩ (.slice (some ⟨gg,0,none⟩) (q+1) cap)).heap[w.heap.size+2]? =some (.cells #[.int .i64 k,.bool b,.int .i64 n,.string t,.slice (some ⟨gg,0,none⟩) (q+1) cap,.slice none 0 0] 39 (0,0))):=by
      show _=_;rw[Cp Hx5.out];rfl
     clear hb4' hlo r1 r2 r3 n2 n1 n0 hs4 hx2 Hgrow5 Hown5 Hat5 Hx5 Hfr hown hfrow hbw hx1 hx3 g5 f5 HX5 HX6 HG6 Hown4 g3 g4 b1 b3 f3 c0 c1 c2 c3 c4 c5;go_wp2;go_roundw
     case rel=>exact⟨q+1,_,_,by go_num,by omega,Ho',Hfr',Hb',Hx2',Hx1',Hx3'⟩
     case measure=>simp only[intOf];omega
  . obtain rfl:q=l.length:=by omega
    have hfl:=hfrow.out;rw[List.take_length]at hfl;have HL:=Lib.hid (hfl.close hown.out);clear hfl hown hfrow;obtain⟨wa,rfl⟩: ∃wa:World,wa=wr:=⟨_,rfl⟩;obtain⟨j0,hj,hy0,hy1,hy2⟩:=info_parts Pv;obtain⟨HJ,HY0,HY1,HY2⟩:=hid4 hj hy0 hy1 hy2;have Hown0:Hid (wa.ownsRow wa.heap.size 63 7 (.slice none 0 0) 0 []):=World.ownsRow_nil _ _ _ _;have Hfr0:Hid (E2 wa.heap.size wa (Value.slice none 0 0).ownBlock (o.take 0) []):=fun _ _ _=>rfl;have hsA:w.heap.size+3<=wa.heap.size:=by omega
    clear hj hy0 hy1 hy2 b3 f3 hl;go_wp2_with (fail);clear b1;go_loopw [5] (fun i wr=> ∃(q:Nat) (v2:Value) (ns:List Value),i=.int .i64 q/\q<=o.length/\Hid (wr.ownsRow wa.heap.size 63 7 v2 q ns)/\Hid (E2 wa.heap.size wr v2.ownBlock (o.take q) ns)/\Hid (Below w.heap.size w wr)/\
     Hid (∀c,c<wa.heap.size->c≠w.heap.size+2->wr.heap[c]? =wa.heap[c]?)/\wa.heap.size<=wr.heap.size/\
     Hid (wr.heap[w.heap.size+2]? =some (.cells #[.int .i64 k,.bool b,.int .i64 n,.string t,v1,v2] 39 (0,0)))) (fun i _=>o.length - (intOf i).toNat)
    case atStart=>exact⟨0,.slice none 0 0, [],rfl,Nat.zero_le _,Hown0,Hfr0,hbw,Lib.hid (fun _ _ _=>rfl),Nat.le_refl _,hx3⟩
    case round=>
     obtain⟨q,v2,ns2,rfl,hq2,hown,hfrow,hbw2,hkp,hsx,hx3'⟩:=hrel;clear Hown0 Hfr0;have hx1':Hid (wr.heap[w.heap.size]? =some (.cells #[.int .i64 k,.bool b,.int .i64 n,.string t,.slice la l.length lc,.slice oa o.length oc] 39 (0,0))):=by
      show _=_;rw[hkp.out _ (by omega) (by omega)];exact hx1.out
     have b1:wr.cell? ⟨w.heap.size,5,none⟩=some (.slice oa o.length oc):=by rw[Lib.cell_of_heap hx1'.out];rfl
     have b3:wr.cell? ⟨w.heap.size+2,5,none⟩=some v2:=by rw[Lib.cell_of_heap hx3'.out];rfl
     have z3:w.heap.size+2<wr.heap.size:=by omega
     by_cases hlt2:q<o.length
     . obtain⟨g,off,rfl,hg,hL⟩: ∃g off,oa=some ⟨g,off,none⟩/\g<w.heap.size/\Au w w.heap.size o g off:=by
        rcases Ho.out with h0|h
        . rw[h0]at hlt2;simp at hlt2
        . exact h
       obtain⟨⟨key,x⟩,hx⟩: ∃v,o[q]? =some v:=⟨_,List.getElem?_eq_getElem hlt2⟩;have hmem:=List.mem_of_getElem? hx;have IHx:=HIHo.out _ hmem;have hbv:=C9 hmem;simp only at IHx hbv;have htk:o.take (q+1)=o.take q++ [(key,x)]:=by rw[List.take_add_one,hx];rfl
       obtain⟨k',b',n',t',l',o'⟩:=x;obtain⟨la',lc',oa',oc',hvs,c0,c1,c2,c3,c4,c5,c6⟩:=(hL.below hg hbw2.out).seven hx;have hz:=hbw2.out.size;have CC:=IHx _ wr.drew (Ac.more hz _ _ (hvs.below (Below.drew (Below.refl _ _)))) (show(Val.mk k' b' n' t' l' o').bulk<=100000000 from by omega);have HC:=Lib.hid CC;have Hown4:Hid (∀w4:World,Below wr.drew.heap.size wr.drew w4->w4.ownsRow wa.heap.size 63 7 v2 q ns2):=by
        intro w4 h4;have h5:Below wr.heap.size wr w4:=(Below.drew (Below.refl _ _)).trans h4;refine hown.out.kept (Ko h5) ?_
        cases v2.ownBlock with
        |none=>exact .inl rfl
        |some g=>exact .inr (by simp)
       have HX6:Hid (∀(w4:World),Below wr.drew.heap.size wr.drew w4-> ∀(ob:Obj) (w5:World),(w4.alloc ob).grownBy w5 v2.ownBlock->w5.heap[w.heap.size+2]? =some (.cells #[.int .i64 k,.bool b,.int .i64 n,.string t,v1,v2] 39 (0,0))):=by
        intro w4 h4 ob w5 h5;have e4:w4.heap[w.heap.size+2]? =_:=(h4.block (w.heap.size+2) z3).trans hx3'.out;have l4:=(Array.getElem?_eq_some_iff.1 e4).1;rw[h5.block _ (by simp;omega) (fun e=>by have:=(hown.out.lt _ e.symm).1;omega),Lib.alloc_old w4 _ _ l4];exact e4
       have HG6:Hid (∀(w4:World),Below wr.drew.heap.size wr.drew w4-> ∀ob:Obj,(w4.alloc ob).cell? ⟨w.heap.size+2,5,none⟩=some v2):=by
        intro w4 h4 ob;have e4:w4.heap[w.heap.size+2]? =_:=(h4.block (w.heap.size+2) z3).trans hx3'.out;have l4:=(Array.getElem?_eq_some_iff.1 e4).1;have e5:(w4.alloc ob).heap[w.heap.size+2]? =_:=(Lib.alloc_old w4 ob _ l4).trans e4;rw[Lib.cell_of_heap e5];rfl
       have hgx:g<wr.heap.size:=by omega
       have hwx:w.heap.size<wr.heap.size:=by omega
       clear CC hvs hx hmem IHx hL;go_wp2_with (fail)
       go_region_law (first|(refine step_append_lies _ (by rfl) (.tmp 41) (.tmp 56) 37 (by rfl) wa.heap.size 63 j0 (.agg #[.string ⟨#[]⟩,.int .i64 0,.bool false,.int .i64 0,.string ⟨#[]⟩,.slice none 0 0,.slice none 0 0]) 7 104 Tryz.underlying37 HJ.out HY0.out HY1.out HY2.out rfl (by omega) v2 q ns2 (by rfl) ((Hown4.out _ Hb4.out).alloc _) ⟨w4.heap.size,0,none⟩ 1 1 [.string key,a0,a1,a2,a3,a4,a5] (by rfl) (by rfl) (World.news_of_block (cs:= #[.string key,a0,a1,a2,a3,a4,a5]) (t:=63) (fr:=(0,0)) (heap_alloc_new w4 _)) Hone.out (by omega) (by unfold maxLen;omega) (by omega) Hsz.out (w4.heap.size+1) (by simp) ?_;intro gg cap w5 hown5 hgrow5 hat5 hlt5;have hx5:w5.heap[w.heap.size+2]? =some (.cells #[.int .i64 k,.bool b,.int .i64 n,.string t,v1,v2] 39 (0,0)):=HX5.out w5 hgrow5;have g5:w5.cell? ⟨w.heap.size+2,5,none⟩=some v2:=(by rw[Lib.cell_of_heap hx5];rfl);have f5:w5.frozen? ⟨w.heap.size+2,5,none⟩=false:=Lib.frozen_of_heap hx5 _;have Hown5:=Lib.hid hown5;have Hgrow5:=Lib.hid hgrow5;have Hat5:=Lib.hid hat5;have Hx5:=Lib.hid hx5;clear hown5 hgrow5 hat5 hx5)|(go_simp;go_at_call 44;refine(HC.out).mono ?_;rintro e w4 ⟨⟨cs4,rfl,hl4,hfr⟩,hb4⟩;obtain⟨a0,a1,a2,a3,a4,a5,rfl⟩:=Ut hl4;have Hfr:=Lib.hid hfr;have Hb4:=Lib.hid hb4;have g3:w4.cell? ⟨w.heap.size+2,5,none⟩=some v2:=(hb4.cell (p:=⟨w.heap.size+2,5,none⟩) z3).trans b3;have g1:w4.cell? ⟨w.heap.size,5,none⟩=some (.slice (some ⟨g,off,none⟩) o.length oc):=(hb4.cell (p:=⟨w.heap.size,5,none⟩) hwx).trans b1;have g0:w4.cell? ⟨g,off+q*7,none⟩=some (.string key):=(hb4.cell (p:=⟨g,off+q*7,none⟩) hgx).trans c0;have Hone:Hid (∀u ∈ [.string key,a0,a1,a2,a3,a4,a5],u.oneCell'=true):=(Afw key (hfr w4 (Nat.le_refl _) (fun _ _ _=>rfl)).len.2);have Hsz:Hid (wa.heap.size<=(w4.alloc (.cells #[.string key,a0,a1,a2,a3,a4,a5] 63)).heap.size):=(by show _<=_;have h1:=hb4.size;have h3:wr.drew.heap.size=wr.heap.size:=rfl;simp;omega);have g4:(w4.alloc (.cells #[.string key,a0,a1,a2,a3,a4,a5] 63)).cell? ⟨w.heap.size+2,5,none⟩=some v2:=HG6.out w4 hb4 _;have HX5:Hid (∀w5:World,(w4.alloc (.cells #[.string key,a0,a1,a2,a3,a4,a5] 63)).grownBy w5 v2.ownBlock->w5.heap[w.heap.size+2]? =some (.cells #[.int .i64 k,.bool b,.int .i64 n,.string t,v1,v2] 39 (0,0))):=(fun w5 hg5=>HX6.out w4 hb4 _ w5 hg5);clear hfr hb4 hl4))
       all_goals
        have hb4':Below wr.heap.size wr w4:=(Below.drew (Below.refl _ _)).trans Hb4.out;have hlw:=fun gg hh=>(hown.out.lt gg hh);obtain⟨r1,r2,r3⟩:=Se (t:=w.heap.size+2) (i:=5) (V:=.slice (some ⟨gg,0,none⟩) (q+1) cap) Hgrow5.out;have hs4:=hb4'.size;have Hfr':Hid (E2 wa.heap.size (w5.setCell ⟨w.heap.size+2,5,none⟩ (.slice (some ⟨gg,0,none⟩) (q+1) cap)) (some gg) (o.take (q+1)) (ns2++ [.string key,a0,a1,a2,a3,a4,a5])):=by
         show E2 _ _ _ _ _;rw[htk];refine E2.step (t:=w.heap.size+2) (N:=w4.heap.size+1) hfrow.out Hfr.out hsx (fun g hh=>(hlw g hh).2) ?_ (by omega) (by omega) (fun p hp=>hb4'.cell hp) hs4 r2 r3;rcases Hat5.out with e|e
         . exact .inl e.symm
         . exact .inr (by rw[e])
        have Ho':Hid ((w5.setCell ⟨w.heap.size+2,5,none⟩ (.slice (some ⟨gg,0,none⟩) (q+1) cap)).ownsRow wa.heap.size 63 7 (.slice (some ⟨gg,0,none⟩) (q+1) cap) (q+1) (ns2++ [.string key,a0,a1,a2,a3,a4,a5])):=ownsRow_setCell_below Hown5.out (by simp;omega) _;have Hb':Hid (Below w.heap.size w (w5.setCell ⟨w.heap.size+2,5,none⟩ (.slice (some ⟨gg,0,none⟩) (q+1) cap))):=(((hbw2.out.trans (hb4'.mono hz)).alloc (by omega) _).grown Hgrow5.out (by simp;omega) (fun c hc=>by have:=(hlw c hc).1;omega)).setCell (by simp) _;have Hk':Hid (∀c,c<wa.heap.size->c≠w.heap.size+2->(w5.setCell ⟨w.heap.size+2,5,none⟩ (.slice (some ⟨gg,0,none⟩) (q+1) cap)).heap[c]? =wa.heap[c]?):=by
         intro c hc hc2;rw[r1 c (by omega) (fun e=>by have:=(hlw _ e).1;omega) hc2,hb4'.block c (by omega)];exact hkp.out c hc hc2
        have Hs':wa.heap.size<=(w5.setCell ⟨w.heap.size+2,5,none⟩ (.slice (some ⟨gg,0,none⟩) (q+1) cap)).heap.size:=by omega
        have Hx3':Hid ((w5.setCell ⟨w.heap.size+2,5,none⟩ (.slice (some ⟨gg,0,none⟩) (q+1) cap)).heap[w.heap.size+2]? =some (.cells #[.int .i64 k,.bool b,.int .i64 n,.string t,v1,.slice (some ⟨gg,0,none⟩) (q+1) cap] 39 (0,0))):=by
         show _=_;rw[Cp Hx5.out];rfl
        clear hb4' hlw r1 r2 r3 hs4 Hgrow5 Hown5 Hat5 Hx5 Hfr hown hfrow hbw2 hx1' hx3' g5 f5 HX5 HX6 HG6 Hown4 g3 g4 g1 g0 b1 b3 c0 c1 c2 c3 c4 c5 c6 hkp;go_wp2;go_roundw
        case rel=>exact⟨q+1,_,_,by go_num,by omega,Ho',Hfr',Hb',Hk',Hs',Hx3'⟩
        case measure=>simp only[intOf];omega
     . obtain rfl:q=o.length:=by omega
       have hfl:=hfrow.out;rw[List.take_length]at hfl;have HO:=Lib.hid (hfl.close hown.out);have hx2':wr.heap[w.heap.size+1]? =some (.cells #[.int .i64 0,.bool false,.int .i64 0,.string ⟨#[]⟩,.slice none 0 0,.slice none 0 0] 39 (0,0)):=(hkp.out _ (by omega) (by omega)).trans hx2.out;have Hx2:=Lib.hid hx2';obtain⟨d0,d1,d2,d3,d4,d5⟩:=Gd hx3'.out;obtain⟨e0,e1,e2,e3,e4,e5⟩:=Gd hx2';have hfz:=Lib.frozen_of_heap hx2';clear hfl hown hfrow hx2';obtain⟨la1,lc1,rfl,hLf⟩:=HL.out;obtain⟨oa1,oc1,rfl,hOf⟩:=HO.out;obtain⟨HLf,HOf⟩:=hid2 hLf hOf;clear HL HO hLf hOf b3;go_wp2;obtain⟨W,hW⟩: ∃W,((((((wr.setCell ⟨w.heap.size+1,0,none⟩ (.int .i64 k)).setCell ⟨w.heap.size+1,1,none⟩ (.bool b)).setCell ⟨w.heap.size+1,2,none⟩ (.int .i64 n)).setCell ⟨w.heap.size+1,3,none⟩ (.string t)).setCell ⟨w.heap.size+1,4,none⟩ (.slice la1 l.length lc1)).setCell ⟨w.heap.size+1,5,none⟩ (.slice oa1 o.length oc1))=W:=⟨_,rfl⟩;have hWh: ∀c,c≠w.heap.size+1->W.heap[c]? =wr.heap[c]? :=by
        intro c hc;rw[<-hW];simp only[D7 _ _ _ _ hc]
       have hWs:W.heap.size=wr.heap.size:=by rw[<-hW];simp[World.setCell]
       have hWb:Below w.heap.size w W:=by
        rw[<-hW];exact(((((hbw2.out.setCell (by simp) _).setCell (by simp) _).setCell (by simp) _).setCell (by simp) _).setCell (by simp) _).setCell (by simp) _
       have hFr:Ql w W (.mk k b n t l o) [.int .i64 k,.bool b,.int .i64 n,.string t,.slice la1 l.length lc1,.slice oa1 o.length oc1]:=by
        intro w'' hsz hag;simp only[Ac];refine⟨la1,lc1,oa1,oc1,rfl, ?_, ?_⟩
        . rcases HLf.out with h0|⟨g,rfl,hg,hf⟩
          . exact .inl h0
          . refine .inr ⟨g,0,rfl,by omega,Az.of_more l (fun v _ cs h=>Ac.more (by omega) _ _ h) g 0 (hf w'' (by omega) (fun p p1 p2=> ?_))⟩;rw[hag p (by omega) (by omega)];exact World.cell?_of_block ((hWh p.block (by omega)).trans (hkp.out p.block p2 (by omega)))
        . rcases HOf.out with h0|⟨g,rfl,hg,hf⟩
          . exact .inl h0
          . refine .inr ⟨g,0,rfl,by omega,Au.of_more o (fun m _ cs h=>Ac.more (by omega) _ _ h) g 0 (hf w'' (by omega) (fun p p1 p2=> ?_))⟩;rw[hag p (by omega) (by omega)];exact World.cell?_of_block (hWh p.block (by omega))
       have hWr:W.heap[w.heap.size+1]? =some (.cells #[.int .i64 k,.bool b,.int .i64 n,.string t,.slice la1 l.length lc1,.slice oa1 o.length oc1] 39 (0,0)):=by
        rw[<-hW];exact Cp (Cp (Cp (Cp (Cp (Cp Hx2.out _) _) _) _) _) _
       obtain⟨y0,y1,y2,y3,y4,y5⟩:=Gd hWr;rw[hW];exact bodyPost_ret (v:=.agg #[.int .i64 k,.bool b,.int .i64 n,.string t,.slice la1 l.length lc1,.slice oa1 o.length oc1]) (by simp[results,Tryz.results44,go_sem,y0,y1,y2,y3,y4,y5]) rfl ⟨⟨[.int .i64 k,.bool b,.int .i64 n,.string t,.slice la1 l.length lc1,.slice oa1 o.length oc1],rfl,rfl,hFr⟩,hWb⟩
theorem Lx: ∀v,Mb v:=by
 refine Val.ind ?_;intro k b n t l o hl ho cs w hV hb;simp only[Ac]at hV;obtain⟨la,lc,oa,oc,rfl,hla,hoa⟩:=hV;simp only[Val.bulk]at hb;exact Agd k b n t l o la oa oc lc w hl ho hoa (by omega) hla (by omega)
end Go.Proofs.YtackmnbpfbaemaaGreatDoor
