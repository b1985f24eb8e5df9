/- Parts: Two cursors of a diff that stand side by side. No condition. -/
import Derived.Sort.CutIn
import Derived.Test.YtdbejcbbhomdbaaGreatDoorKPt29
set_option maxHeartbeats 20000000
set_option maxRecDepth 100000
namespace Go.Proofs.YtdbejcbbhomdbaaGreatDoor
open Go Go.RowKit
attribute [local go_sem] Oper.semAt_some
theorem As.ownBlk {S0:Nat->Prop} {b s i:Nat} {t:TypeId} {wr:World} {l:List D} {V:Value} (h:As S0 b t s wr l V) (hi:V.ownBlock=some i): ∃cur,Aj wr i t cur:=by
 obtain⟨ns,h1,_⟩:=h;rcases h1.2 with⟨rfl,_⟩|⟨g,cap,cur,rfl,_,hg,_⟩
 . cases hi
 . cases hi
   exact⟨cur,hg⟩
theorem Tf {w:World} {b s:Nat} {t:TypeId} {l:List Nat} {q:Nat} {V:Value} (h:As (fun _=>False) b t 1 w (Ay (l++ [q])) V) (_:s=0): ∃g c,V=.slice (some ⟨g,0,none⟩) (l.length+1) c/\l.length+1<=c/\b<=g/\w.cell? ⟨g,l.length,none⟩=some (.pointer (some ⟨q,0,none⟩)):=by
 obtain⟨g,c,rfl,hc,hg,_⟩:=h.ptr (by simp[Ay]);have hh:=h.close;obtain⟨g',off,e,_,cs,h1,_,h3⟩:=hh.at_ (i:=l.length) (d:=Ul q) (by simp[Ay])
 cases e
 obtain⟨rfl,_⟩:=h1;have h4:=h3 0 _ rfl;simp only[A9,List.length_append,List.length_singleton,Nat.zero_add,Nat.mul_one,Nat.add_zero]at hc h4 ⊢;exact⟨g,c,rfl,hc,hg,h4⟩
def OpI (w6:World) (C g:Nat) (X O:Value) (bs:List Nat) (pre:List (Nat×Nat)) (A:World):Prop:=
 ∃V,Aj A C G2 #[X,V,O]/\As (fun _=>False) (C+1) 43 1 A (Ay (bs++pre.map (·.2))) V/\KB (fun i=>i=C\/i=g) w6 A/\(V.ownBlock=some g\/ ∃g',V.ownBlock=some g'/\w6.heap.size<=g')
theorem OpI.later {w6:World} {C g:Nat} {X O:Value} {bs:List Nat} {pre:List (Nat×Nat)} {A B:World} (h:OpI w6 C g X O bs pre A) (hb:Below A.heap.size A B):OpI w6 C g X O bs pre B:=by
 obtain⟨V,h1,h2,h3,h4⟩:=h;exact⟨V,h1.below hb h1.lt,h2.below hb,h3.trans (KB.of_below (S:=fun i=>i=C\/i=g) hb) fun _ _ h=>h,h4⟩
theorem OpI.put {w6:World} {C g:Nat} {X O:Value} {bs:List Nat} {pre:List (Nat×Nat)} {A:World} (h:OpI w6 C g X O bs pre A) (hC:C<w6.heap.size) (_:g<w6.heap.size) {k:Nat} {o:Obj} (o':Obj) (ho:A.heap[k]? =some o) (hc:o.isCells=false) (hk:w6.heap.size<=k):OpI w6 C g X O bs pre (A.putObj k o'):=by
 obtain⟨V,h1,h2,h3,h4⟩:=h;refine⟨V,(World.putObj_heap_other (by omega)).trans h1,h2.keepP (by simp[World.putObj]) fun i hi _=>World.putObj_heap_other ?_,⟨h3.os,h3.tape,h3.output,by have:=h3.size;simp[World.putObj];omega,fun j j1 j2=>(World.putObj_heap_other (by omega)).trans (h3.block j j1 j2)⟩,h4⟩;rintro rfl;obtain⟨cur,hcur⟩:=h2.ownBlk hi;rw[show A.heap[i]? =some (Obj.cells cur _ _)from hcur]at ho
 cases ho
 cases hc
theorem Vl (S:Nat->Prop) (C g m c ec:Nat) (ea:Option Addr) (o:Int) (ks:List Nd) (bs:List Nat) (b:Nat) (w:World) (hx:Aj w C G2 #[.slice ea 0 ec,.slice (some ⟨g,0,none⟩) (m+1) c,.int .i64 o]) (hc:m+1<=c) (hm:m<=1000000) (ho:0<=o/\o<=1000000000)
 (hr:As (fun _=>False) (C+1) 43 1 w (Ay (bs++ [b])) (.slice (some ⟨g,0,none⟩) (m+1) c)) (hbs:bs.length=m) (hn:By S w (.inner ks) b) (hS: ¬S C) (hSg: ¬S g) (h0:0<ks.length) (h8:ks.length<=8):
 Calls Tryz.prog 137 #[.pointer (some ⟨C,0,none⟩)] w fun e w'=>e=.returned (.tuple #[])/\KB (fun i=>i=C\/i=g) w w'/\ ∃kb V',An S w' ks kb/\Aj w' C G2 #[.slice ea 0 ec,V',.int .i64 (o+1)]/\As (fun _=>False) (C+1) 43 1 w' (Ay (bs++kb.reverse)) V'/\(V'.ownBlock=some g\/ ∃g',V'.ownBlock=some g'/\w.heap.size<=g'):=by
 obtain⟨PO,hPO⟩: ∃P:Ending->World->Prop,(fun e w'=>e=.returned (.tuple #[])/\KB (fun i=>i=C\/i=g) w w'/\ ∃kb V',An S w' ks kb/\Aj w' C G2 #[.slice ea 0 ec,V',.int .i64 (o+1)]/\As (fun _=>False) (C+1) 43 1 w' (Ay (bs++kb.reverse)) V'/\(V'.ownBlock=some g\/ ∃g',V'.ownBlock=some g'/\w.heap.size<=g'))=P:=⟨_,rfl⟩;rw[hPO];have lx:=hx.lt;have s0:w.cell? ⟨g,m,none⟩=some (.pointer (some ⟨b,0,none⟩)):=by
  obtain⟨g',c',e,_,_,h⟩:=Tf hr rfl
  cases e
  rwa [hbs]at h
 have hgb:=hr.base g rfl;have lg:g<w.heap.size:=hgb.2;have hgC:g≠C:=by omega
 have hr2:As (fun _=>False) (C+1) 43 1 w (Ay bs) (.slice (some ⟨g,0,none⟩) m c):=by
  have e1:Ay (bs++ [b])=Ay bs++ [Ul b]:=by simp[Ay]
  rw[e1]at hr;have:=hr.pop
  rwa [A9,hbs]at this
 have hb1:=Ab w (.cells #[.pointer (some ⟨C,0,none⟩)] 149);obtain⟨w1,hw1⟩: ∃w1,w.alloc (.cells #[.pointer (some ⟨C,0,none⟩)] 149)=w1:=⟨_,rfl⟩;have hR1:Aj w1 w.heap.size 149 #[.pointer (some ⟨C,0,none⟩)]:=hw1▸Aj.new _ _ _;rw[hw1]at hb1;have hx1:=hx.below hb1 lx;have hn1:=(hn.below hb1);have hr1:=hr2.below hb1;obtain⟨M,hM⟩: ∃M,m+1=M:=⟨_,rfl⟩;have y1:IntKind.i64.wrap ((M:Int) - 1)=(m:Int):=by
  rw[show(M:Int) - 1=(m:Int)from by omega];exact IntWalk.i64_in _ (by omega)
 have y2:(m:Int)<(M:Int):=by omega
 have y3:(0:Int)<=(m:Int):=by omega
 have y5:m<M:=by omega
 have d1:w1.cell? ⟨C,1,none⟩=some (.slice (some ⟨g,0,none⟩) M c):=hM▸hx1.cell 1;have e0:=(hb1.cell (p:=⟨g,m,none⟩) lg).trans s0;have b0:=hR1.cell 0;have y6:IntKind.i64.wrap (o+1)=o+1:=IntWalk.i64_in _ (by omega);have Hsk:=qz (Lj C g m c (.slice ea 0 ec) o w1.drew hx1.drew hc hm);have HDx:=qz hx1.drew;have HDn:=qz (hn1.below (Below.drew (Below.refl w1.heap.size w1)));have HDr:=qz (hr1.below (Below.drew (Below.refl w1.heap.size w1)));have HDb:=qz hR1.drew;have HD:=qz (hb1.trans ((Below.drew (Below.refl _ w1)).mono hb1.size));have HPO:=qz hPO;clear hPO;clear hx s0 hn hx1 hn1 hR1 hM hr hr1 hr2;refine(callsIn_wide (n:=12)).1 ?_;refine callsIn_of_wp_marks Tryz.func137 rfl trivial ?_ rfl;simp only[Tryz.ntmps137,List.size_toArray,List.length_cons,List.length_nil,Nat.reduceAdd,Nat.reduceSub,Array.replicate_succ,Array.replicate_zero,List.push_toArray,List.append_toArray,List.nil_append,List.cons_append]
 gi_upto_region 1 with(fail)
 refine Tt (S:=fun Y:World=>Y.cell? ⟨w.heap.size,0,none⟩=some (.pointer (some ⟨C,0,none⟩))/\Y.cell? ⟨C,1,none⟩=some (.slice (some ⟨g,0,none⟩) M c)/\Y.cell? ⟨g,m,none⟩=some (.pointer (some ⟨b,0,none⟩))) (by kernel_rfl) ⟨b0,d1,e0⟩ (fun hHeld=> ?_);refine tkH 0 hHeld ?_;refine tkH 1 hHeld ?_;refine tkH 2 hHeld ?_;refine tkH 3 hHeld ?_;refine tkH 4 hHeld ?_;refine tkH 5 hHeld ?_;refine tkH 6 hHeld ?_;refine tkH 7 hHeld ?_;refine tkH 8 hHeld ?_;refine tkH 9 hHeld ?_;refine tkH 10 hHeld ?_;refine tkH 11 hHeld ?_;refine tkH 12 hHeld ?_;refine wpAnyH_done (by kernel_rfl) ?_ _;dsimp only[noP];clear hHeld d1 e0 b0;generalize w1.drew=wd at Hsk HDx HDn HDr HDb HD ⊢;clear hw1 hb1;have b0:=HDb.out.cell 0
 gi_wp2_with (fail)
 refine⟨trivial, ?_⟩
 gi_at_call 136
 refine(callsIn_wide.2 Hsk.out).mono ?_;rintro e w2 ⟨rfl,rfl⟩;have hx2:=(HDx.out.set_ 1 (.slice (some ⟨g,0,none⟩) m c)).drew;have hn2:=(HDn.out.later (w':=wd.setCell ⟨C,1,none⟩ (.slice (some ⟨g,0,none⟩) m c)) (by simp[World.setCell]) fun i i1 _=>Below.heap_setCell _ _ _ _ (fun e=>hS (by have e2:i=C:=e;rw[<-e2];exact i1))).below (Below.drew (Below.refl _ _));have hr2:=(HDr.out.keepP (w':=wd.setCell ⟨C,1,none⟩ (.slice (some ⟨g,0,none⟩) m c)) (by simp[World.setCell]) fun i i1 _=>Below.heap_setCell _ _ _ _ (by cases i1;exact hgC)).below (Below.drew (Below.refl _ _));have hb2:=(HDb.out.far (p:=⟨C,1,none⟩) (by simp;omega) (.slice (some ⟨g,0,none⟩) m c)).drew;have hk2:KB (fun i=>i=C\/i=g) w (wd.setCell ⟨C,1,none⟩ (.slice (some ⟨g,0,none⟩) m c)).drew:=((KB.of_below (S:=fun i=>i=C\/i=g) HD.out).trans (KB.set (S:=fun i=>i=C\/i=g) wd ⟨C,1,none⟩ (.inl rfl) _) fun _ _ h=>h).trans (KB.of_below (S:=fun i=>i=C\/i=g) (Below.drew (Below.refl _ _))) fun _ _ h=>h;generalize (wd.setCell ⟨C,1,none⟩ (.slice (some ⟨g,0,none⟩) m c)).drew=w2 at hx2 hn2 hr2 hb2 hk2 ⊢;clear Hsk HDx HDn HDr HDb HD b0;have b0:=hb2.cell 0;have c2:=hx2.cell 2;have fz:=hx2.frozen;have lx2:=hx2.lt;have lb2:=hb2.lt;have hx3:=hx2.set_ 2 (.int .i64 (o+1));have Hn3:=qz (hn2.later (w':=w2.setCell ⟨C,2,none⟩ (.int .i64 (o+1))) (by simp[World.setCell]) fun i i1 _=>Below.heap_setCell _ _ _ _ (fun e=>hS (by have e2:i=C:=e;rw[<-e2];exact i1)));have hr3:=hr2.keepP (w':=w2.setCell ⟨C,2,none⟩ (.int .i64 (o+1))) (by simp[World.setCell]) fun i i1 _=>Below.heap_setCell _ _ _ _ (by cases i1;exact hgC);have Hb3:=qz (hb2.far (p:=⟨C,2,none⟩) (by simp;omega) (.int .i64 (o+1)));have Hk3:=qz (hk2.trans (KB.set (S:=fun i=>i=C\/i=g) w2 ⟨C,2,none⟩ (.inl rfl) (.int .i64 (o+1))) fun _ _ h=>h);obtain⟨Hx3,Hr3⟩:=hid2 hx3 hr3;clear hx3 hr3;clear hx2 hn2 hr2 hb2 hk2
 gi_upto_region 4 with(fail)
 generalize w2.setCell ⟨C,2,none⟩ (.int .i64 (o+1))=w3 at Hx3 Hn3 Hr3 Hb3 Hk3 ⊢;clear b0 c2 fz lx2 lb2;have hHt:=Dp Hn3.out.now;obtain⟨H,hH,hHe⟩: ∃H,Kl (.inner ks)=H/\0<H:=⟨_,rfl,by simp[Kl]⟩;rw[hH]at hHt;have q0:((H:Int)==0)=false:=by simp;omega
 have HKd:=qz (Np Hn3.out h0 (by omega));have HHt:=qz hHt;clear hHt
 gi_wp2_with (fail)
 refine⟨trivial, ?_⟩
 gi_at_call 126
 refine(callsIn_wide.2 HHt.out).mono ?_;rintro e w4 ⟨rfl,rfl⟩
 gi_wp2_with (fail)
 refine⟨trivial, ?_⟩
 gi_at_call 103
 refine(callsIn_wide.2 HKd.out).mono ?_;rintro e w5 ⟨kb,hkb,hb5,V5,rfl,hR5⟩;have hkl:=hkb.now.len;obtain⟨gk,ck,rfl,_,hgk,hgk2⟩:=hR5.ptr (by intro e;have:=congrArg List.length e;rw[A9,List.length_nil]at this;omega);rw[A9];have Hkl:=qz hkl;clear hkl;have hcell5: ∀i b,kb[i]? =some b->w5.cell? ⟨gk,0+i,none⟩=some (.pointer (some ⟨b,0,none⟩)):=by
  intro i b hi;obtain⟨g',off,e,_,cs,h1,_,h3⟩:=hR5.close.at_ (i:=i) (d:=Ul b) (by simp[Ay,hi])
  cases e
  obtain⟨rfl,_⟩:=h1;have:=h3 0 _ rfl;simpa using this
 have HBk:=qz (Ww (some ⟨gk,0,none⟩) kb.length ck w5);have hx5:=Hx3.out.below hb5 Hx3.out.lt;have hr5:=Hr3.out.below hb5;have hbx5:=Hb3.out.below hb5 Hb3.out.lt;have hk5:=Hk3.out.trans (KB.of_below (S:=fun i=>i=C\/i=g) hb5) fun _ _ h=>h;have hkb5:=hkb.below hb5;clear hkb Hx3 Hn3 Hr3 Hb3 HKd HHt
 gi_wp2_with (fail)
 refine⟨trivial, ?_⟩
 gi_at_call 182
 refine(callsIn_wide.2 HBk.out).mono ?_;rintro e w6 ⟨rfl,hw6⟩;have hb6:Below w5.heap.size w5 w6:=hw6▸Ab _ _;have hp6:Aj w6 w5.heap.size 144 #[.slice (some ⟨gk,0,none⟩) kb.length ck]:=hw6▸Aj.new _ _ _;have hx6:=hx5.below hb6 hx5.lt;have hr6:=hr5.below hb6;have hbx6:=hbx5.below hb6 hbx5.lt;have Hk6:=qz (hk5.trans (KB.of_below (S:=fun i=>i=C\/i=g) hb6) fun _ _ h=>h);have Hkb6:=qz (hkb5.below hb6);have Hcell6:Hid (∀i b,kb[i]? =some b->w6.cell? ⟨gk,0+i,none⟩=some (.pointer (some ⟨b,0,none⟩))):=fun i b hi=>(hb6.cell (p:=⟨gk,0+i,none⟩) hgk2).trans (hcell5 i b hi);have lp6:=hp6.lt;have lC6:=hx6.lt;have lg6:g<w6.heap.size:=(hr6.base g rfl).2;have lb6:=hbx6.lt;have z3:=Hk3.out.size;have z5:=hb5.size;have hwC:w.heap.size≠C/\w.heap.size≠g:=by omega
 obtain⟨j0,hj,hy0,hy1,hy2⟩:=info_parts Mc;obtain⟨Hj,Hy0,Hy1,Hy2⟩:=hid4 hj hy0 hy1 hy2;clear hj hy0 hy1 hy2;clear hw6 hx5 hr5 hbx5 hk5 hkb5 hcell5 HBk Hk3
 gi_wp2_with (fail)
 refine K1 (n:=10) (gf:=224) (lb:= #[.pointer (some ⟨w5.heap.size,0,none⟩)]) rfl (enters_of Tryz.func224 (by kernel_rfl) rfl) (Ua kb w5.heap.size gk 0 ck (by have:=Hkl.out;omega)) (fun _ _=>rfl)
  ?hEp (OpI w6 C g (.slice ea 0 ec) (.int .i64 (o+1)) bs) ?hIn ?hIp ?hIb ?h0 ?a1 ?assign ?body ?done
 case assign=>
  intro l x q W K hK;dsimp only[Sj]
  gi_wp2
  exact hK
 case h0=>exact⟨_,hx6,by simpa using hr6,KB.of_below (Below.refl _ _),.inl rfl⟩
 case hIb=>
  rintro pre A ⟨V,h1,h2,h3,h4⟩;have hpg:w5.heap.size≠C/\w5.heap.size≠g:=by omega
  have hkg:gk≠C/\gk≠g:=by omega
  refine⟨(World.cell?_of_block (h3.block w5.heap.size lp6 (by omega))).trans (hp6.cell 0),Nat.lt_of_lt_of_le lp6 h3.size,by have:=h3.size;omega,fun i b hi=>(World.cell?_of_block (h3.block gk (by omega) (by omega)):A.cell? ⟨gk,0+i,none⟩=w6.cell? ⟨gk,0+i,none⟩).trans (Hcell6.out i b hi)⟩
 case hIn=>exact fun pre A B h hb=>h.later hb
 case hEp=>exact fun _ _ _ _ _ _ _ _ _=>trivial
 case hIp=>exact fun pre A k o1 o2 h ho hc hk=>h.put lC6 lg6 o2 ho hc (by omega)
 case body=>
  rintro l pre ⟨i,b'⟩ rest q A hx ⟨V,h1,h2,h3,h4⟩ _ ⟨ds,hds⟩ ⟨rc,hrc⟩;obtain⟨aV,cV,rfl⟩:=h2.slice;have hB0:Aj A w.heap.size 149 #[.pointer (some ⟨C,0,none⟩)]:=(h3.block w.heap.size lb6 (by omega)).trans hbx6;have b0:=hB0.cell 0;have c1:=h1.cell 1;have fz:=h1.frozen;have lC:=h1.lt;have hlen:(Ay (bs++pre.map (·.2))).length<=2000000:=by
   have hl2:pre.length<=(Fo kb kb.length).length:=by rw[hx];simp
   have hl3:(Fo kb kb.length).length=kb.length:=by
    have:=congrArg List.length (Mp kb kb.length (Nat.le_refl _));simpa using this
   rw[A9,List.length_append,List.length_map];have:=Hkl.out;omega
  have hds2:=(Array.getElem?_eq_some_iff.1 hds).1;have hrc2:=(Array.getElem?_eq_some_iff.1 hrc).1;have hnd: ∀k o,A.heap[k]? =some o->o.isCells=false->(Value.slice aV (Ay (bs++pre.map (·.2))).length cV).ownBlock≠some k:=by
   intro k o hk ho e;obtain⟨cur,hcur⟩:=h2.ownBlk e;rw[show A.heap[k]? =some (Obj.cells cur _ _)from hcur]at hk
   cases hk
   cases ho
  have Hd1:=qz (hnd _ _ hds rfl);have Hd2:=qz (hnd _ _ hrc rfl);obtain⟨H1,H2,H3,H4,Hds,Hrc,Hlen,HB0⟩:=hid8 h1 h2 h3 h4 hds hrc hlen hB0;clear h1 h2 h3 h4 hds hrc hlen hB0;clear hnd hx
  gi_upto_region 8 with(fail)
  have hbb:Below A.drew.heap.size A.drew (A.drew.alloc (.cells #[.pointer (some ⟨b',0,none⟩)] 43)):=Ab _ _;have hA1:Aj (A.drew.alloc (.cells #[.pointer (some ⟨b',0,none⟩)] 43)) C G2 #[.slice ea 0 ec,.slice aV (Ay (bs++pre.map (·.2))).length cV,.int .i64 (o+1)]:=H1.out.drew.alloc _;have HA2:=qz ((H2.out.below (Below.drew (Below.refl _ A))).below hbb);have Hrd:=qz (D4 (Aj.new A.drew 43 #[.pointer (some ⟨b',0,none⟩)]));have hB01:=HB0.out.drew.alloc (.cells #[.pointer (some ⟨b',0,none⟩)] 43);have b01:=hB01.cell 0;have c11:=hA1.cell 1;have LA:=qz (show A.heap.size<=(A.drew.alloc (.cells #[.pointer (some ⟨b',0,none⟩)] 43)).heap.size from by simp);have h36:=H3.out.size;obtain⟨Hbb,HA1,HB01⟩:=hid3 hbb hA1 hB01;clear hbb hA1 hB01;have hq0:C+1<=(A.drew.alloc (.cells #[.pointer (some ⟨b',0,none⟩)] 43)).heap.size:=by have:=LA.out;omega
  refine Oj (S:=fun Y:World=>Y.cell? ⟨w.heap.size,0,none⟩=some (.pointer (some ⟨C,0,none⟩))) (by kernel_rfl) (by kernel_rfl) (by rintro⟨_,_,h⟩;exact h) b0 (fun hHeld=> ?_);refine tkH 0 hHeld ?_;refine tkH 1 hHeld ?_;refine tkH 2 hHeld ?_;refine tkH 3 hHeld ?_;refine tkH 5 hHeld ?_;refine rd2 4 6 (fun K hK=> ?gA) (fun K hK=> ?gB)
  case' gA=>
   go_simp;refine hK.out _ _ b0 (fun hHeld=> ?_);clear hK K
   try simp only[Act.put,tk1,tk2,tk3,tk4,tk5,tk6]
   refine Og 6 fun K hK=> ?_;go_simp;refine hK.out _ _ b01 (fun hHeld=> ?_);clear hK K
   try simp only[Act.put,tk1,tk2,tk3,tk4,tk5,tk6]
  case' gB=>
   go_simp;refine hK.out _ _ b01 (fun hHeld=> ?_);clear hK K
   try simp only[Act.put,tk1,tk2,tk3,tk4,tk5,tk6]
   refine Og 4 fun K hK=> ?_;go_simp;refine hK.out _ _ b01 (fun hHeld=> ?_);clear hK K
   try simp only[Act.put,tk1,tk2,tk3,tk4,tk5,tk6]
  all_goals
   refine Og 7 fun K hK=> ?_;refine Hd (d:=Ul b') (V:=.slice aV (Ay (bs++pre.map (·.2))).length cV) (by rfl) (.tmp 43) (.tmp 45) 144 (by rfl) Tryz.underlying144 Hj.out Hy0.out Hy1.out Hy2.out rfl (by omega) (by rfl) HA2.out (by exact hq0) rfl (Fv _ _ b') (by rfl) Hrd.out (Nat.le_trans (Nat.add_le_add_right Hlen.out 1) (by simp[maxLen])) (Nat.le_trans (Nat.mul_le_mul_right 8 (Nat.add_le_add_right Hlen.out 1)) (by decide)) ?_;intro V7 w7 hr7 hg7 hat7;have hoC:(Value.slice aV (Ay (bs++pre.map (·.2))).length cV).ownBlock≠some C:=fun e=>by have:=(H2.out.base C e).1;omega
   have how:(Value.slice aV (Ay (bs++pre.map (·.2))).length cV).ownBlock≠some w.heap.size:=fun e=>by
    rcases H4.out with e4|⟨g4,e4,h5⟩<;>(rw[e]at e4;cases e4;omega)
   have hA7:=HA1.out.grown hg7 hoC.symm;have hB7:=HB01.out.grown hg7 how.symm;have b07:=hB7.cell 0;have z7:=hg7.size;have lA:=LA.out;refine hK.out _ _ b07 (fun hHeld=> ?_);clear hK K
   try simp only[Act.put,tk1,tk2,tk3,tk4,tk5,tk6]
   refine tkH 8 hHeld ?_;refine tkH 9 hHeld ?_;have c17:=hA7.cell 1;have fz7:=hA7.frozen;have lC7:=hA7.lt;have e7:Ay (bs++pre.map (·.2))++ [Ul b']=Ay (bs++(pre++ [(i,b')]).map (·.2)):=by simp[Ay]
   rw[e7]at hr7;have hI7:OpI w6 C g (.slice ea 0 ec) (.int .i64 (o+1)) bs (pre++ [(i,b')]) (w7.setCell ⟨C,1,none⟩ V7):=by
    have hb8:=hr7.base;have hk7:KB (fun i=>i=C\/i=g) w6 w7:=(H3.out.trans (KB.of_below (S:=fun i=>i=C\/i=g) ((Below.drew (Below.refl _ A)).trans Hbb.out)) fun _ _ h=>h).trans (KB.of_grown (S:=fun i=>i=C\/i=g\/w6.heap.size<=i) hg7 fun k e=>by
     rcases H4.out with e4|⟨g4,e4,h5⟩
     . rw[e4]at e;cases e;exact .inr (.inl rfl)
     . rw[e4]at e;cases e;exact .inr (.inr h5)) fun k k1 k2=>by omega
    refine⟨V7,hA7.set_ 1 V7,hr7.keepP (by simp[World.setCell]) fun j e _=>Below.heap_setCell _ _ _ _ (by have:=(hb8 j e).1;show j≠C;omega),hk7.trans (KB.set (S:=fun i=>i=C\/i=g) w7 ⟨C,1,none⟩ (.inl rfl) V7) fun _ _ h=>h, ?_⟩;rcases hat7 with e|e
    . rw[e];exact H4.out
    . exact .inr ⟨_,e,Nat.le_trans H3.out.size LA.out⟩
   have hD7:(w7.setCell ⟨C,1,none⟩ V7).heap[w6.heap.size]? =A.heap[w6.heap.size]? /\(w7.setCell ⟨C,1,none⟩ V7).heap[w6.heap.size+1]? =A.heap[w6.heap.size+1]? :=by
    have hq: ∀k,k<A.heap.size->k≠C->(Value.slice aV (Ay (bs++pre.map (·.2))).length cV).ownBlock≠some k->(w7.setCell ⟨C,1,none⟩ V7).heap[k]? =A.heap[k]? :=fun k k1 k2 k3=>
     (Below.heap_setCell _ _ _ _ (by exact k2)).trans ((hg7.block k (Nat.lt_of_lt_of_le k1 LA.out) fun e=>k3 e.symm).trans ((Hbb.out.block k k1).trans rfl))
    exact⟨hq _ hds2 (by omega) Hd1.out,hq _ hrc2 (by omega) Hd2.out⟩
   obtain⟨N7,hN7⟩: ∃N7,(Ay (bs++(pre++ [(i,b')]).map (·.2))).length=N7:=⟨_,rfl⟩;obtain⟨a7,c7,rfl⟩:=hr7.slice_n hN7;clear hN7;obtain⟨HI7,HD7,HB7⟩:=hid3 hI7 hD7 hB7;clear hI7 hD7 hB7;clear hr7 hg7 hat7 hA7;refine Og 10 fun K hK=> ?_;go_simp;refine hK.out _ _ ?_ (fun hHeld=> ?_)
   case refine_1=>exact(HB7.out.far (p:=⟨C,1,none⟩) (by simp;omega) _).cell 0
   clear hK K
   try simp only[Act.put,tk1,tk2,tk3,tk4,tk5,tk6]
   refine wpAnyH_done (by kernel_rfl) ?_ _;clear hHeld;exact⟨HD7.out.1,HD7.out.2,HI7.out⟩
 case done=>
  rintro A hI hds;have hP:PO (.returned (.tuple #[])) (A.putObj w6.heap.size (.deferred none)):=by
   obtain⟨V,h1,h2,h3,h4⟩:=hI.put lC6 lg6 (.deferred none) hds rfl (Nat.le_refl _);rw[<-HPO.out];rw[Mp kb kb.length (Nat.le_refl _),List.take_length]at h2;refine⟨rfl,Hk6.out.trans h3 fun _ _ h=>h,kb,V,Hkb6.out.later h3.size fun i i1 i2=>h3.block i i2 ?_,h1,h2, ?_⟩
   . rintro(e|e)<;>subst e
     . exact hS i1
     . exact hSg i1
   . have:=Hk6.out.size;exact h4.imp id fun⟨g',e,h⟩=>⟨g',e,by omega⟩
  have HP:=qz hP;clear hP;clear hI
  gi_wp2
  refine⟨by simp,.inl ⟨_,_,rfl,run_takeDeferred hds, ?_⟩⟩;exact⟨_,Ff rfl,HP.out⟩
def Ew (D:Nat->Prop) (w:World) (C:Nat) (V:Value) (es:List Bz) (ns:List Nd):Prop:=
 ∃(ea:Option Addr) (c:Nat) (o:Int) (bs:List Nat),Aj w C G2 #[.slice ea es.length c,V,.int .i64 o]/\(0<=o/\o+((es.length+D9 ns:Nat):Int)<=100000000/\es.length<=c)/\Ac D w (.row 7 (dO es)) [.slice ea es.length c]/\
  As (fun _=>False) (C+1) 43 1 w (Ay bs.reverse) V/\An D w ns bs
theorem Ew.keep {D D':Nat->Prop} {w w':World} {C:Nat} {V:Value} {es:List Bz} {ns:List Nd} (h:Ew D w C V es ns) (hD: ∀i,i<w'.heap.size->D i->D' i) (hs:w.heap.size<=w'.heap.size) (hk: ∀i,(D i\/i=C\/V.ownBlock=some i)->i<w.heap.size->w'.heap[i]? =w.heap[i]?):Ew D' w' C V es ns:=by
 obtain⟨ea,c,o,bs,h1,h2,h3,h4,h5⟩:=h;exact⟨ea,c,o,bs,(hk C (.inr (.inl rfl)) h1.lt).trans h1,h2,(h3.later hs fun p p1 p2=>World.cell?_of_block (hk p.block (.inl p1) p2)).mono hD,h4.keepP hs fun i e hi=>hk i (.inr (.inr e)) hi,h5.imp hD hs fun i i1 i2=>hk i (.inl i1) i2⟩
theorem Ew.below {D:Nat->Prop} {w w':World} {C:Nat} {V:Value} {es:List Bz} {ns:List Nd} (h:Ew D w C V es ns) (hb:Below w.heap.size w w'):Ew D w' C V es ns:=h.keep (fun _ _ h=>h) hb.size fun i _ hi=>hb.block i hi
theorem Ew.lt {D:Nat->Prop} {w:World} {C:Nat} {V:Value} {es:List Bz} {ns:List Nd} (h:Ew D w C V es ns):C<w.heap.size/\ ∀g,V.ownBlock=some g->C<g/\g<w.heap.size:=by
 obtain⟨ea,c,o,bs,h1,h2,h3,h4,h5⟩:=h;exact⟨h1.lt,fun g e=>by have:=h4.base g e;omega⟩
def Sa (D:Nat->Prop) (w:World) (es:List Bz) (ns:List Nd) (p:Option Addr) (h:Int) (f l:ByteArray) (b:Bool):Prop:=
 (∃k v r,es=(k,v)::r/\p=none/\h= -1/\k=f/\k=l/\b=true)\/
 (∃n r q,es= []/\ns=n::r/\p=some ⟨q,0,none⟩/\By D w n q/\h=Kl n/\f=Al n/\l=Bv n/\b=true)\/
 (es= []/\ns= []/\p=none/\h=0/\f=⟨#[]⟩/\l=⟨#[]⟩/\b=false)
theorem Sa.later {D:Nat->Prop} {w w':World} {es:List Bz} {ns:List Nd} {p:Option Addr} {h:Int} {f l:ByteArray} {b:Bool} (hh:Sa D w es ns p h f l b) (hb:Below w.heap.size w w'):Sa D w' es ns p h f l b:=by
 rcases hh with hh|⟨n,r,q,h1,h2,h3,h4,h5⟩|hh
 . exact .inl hh
 . exact .inr (.inl ⟨n,r,q,h1,h2,h3,h4.below hb,h5⟩)
 . exact .inr (.inr hh)
theorem Pk (D:Nat->Prop) (C:Nat) (V:Value) (es:List Bz) (ns:List Nd) (w:World) (hc:Ew D w C V es ns) (ho:CurOk es ns):
 Calls Tryz.prog 135 #[.pointer (some ⟨C,0,none⟩)] w fun e w'=> ∃p h f l b,e=.returned (.tuple #[.agg #[.pointer p,.int .i64 h,.string f,.string l],.bool b])/\Below w.heap.size w w'/\Sa D w es ns p h f l b:=by
 obtain⟨ea,c,o,bs,h1,h2,h3,h4,h5⟩:=hc;have hlen:=ho.len;have hgl:=Sv ho.gds;rw[List.length_append]at hlen
 cases es with
 |cons x r=>
  obtain⟨k,v⟩:=x;obtain⟨g,off,rfl,_,u1,u2,u3,u4,u5,u6,_,r1⟩:=Do h3.now (q:=0) rfl;have s0:=r1 0 _ rfl;simp only[Nat.zero_mul,Nat.add_zero]at s0;refine(Ux C g off r.length c V o k w h1 s0).mono ?_;rintro e w' ⟨rfl,hb⟩;exact⟨_,_,_,_,_,rfl,hb,.inl ⟨k,v,r,rfl,rfl,rfl,rfl,rfl,rfl⟩⟩
 |nil=>
  cases ns with
  |nil=>
   simp only[An]at h5;subst h5;obtain⟨a',c',rfl⟩:=h4.slice;refine(Uz C c c' ea a' o w h1).mono ?_;rintro e w' ⟨rfl,hb⟩;exact⟨_,_,_,_,_,rfl,hb,.inr (.inr ⟨rfl,rfl,rfl,rfl,rfl,rfl,rfl⟩)⟩
  |cons n r=>
   simp only[An]at h5;obtain⟨q,t,rfl,h6,h7⟩:=h5;rw[List.reverse_cons]at h4;have hl7:=h7.now.len;rw[List.length_cons]at hgl;obtain⟨g,c',rfl,_,_,s0⟩:=Tf h4 rfl;refine(Uy C c c' g t.reverse.length ea o n q w h1 (by rw[List.length_reverse];omega) s0 h6.now).mono ?_;rintro e w' ⟨rfl,hb⟩;exact⟨_,_,_,_,_,rfl,hb,.inr (.inl ⟨n,r,q,rfl,rfl,rfl,h6,rfl,rfl,rfl,rfl⟩)⟩
theorem N3 (D:Nat->Prop) (C:Nat) (V:Value) (n:Nd) (ns:List Nd) (w:World) (hc:Ew D w C V [] (n::ns)) (ho:CurOk [] (n::ns)) (hD: ¬D C):
 Calls Tryz.prog 136 #[.pointer (some ⟨C,0,none⟩)] w fun e w'=>e=.returned (.tuple #[])/\KB (fun i=>i=C) w w'/\ ∃V',V'.ownBlock=V.ownBlock/\Ew D w' C V' [] ns:=by
 obtain⟨ea,c,o,bs,h1,h2,h3,h4,h5⟩:=hc;have hlen:=ho.len;have hgl:=Sv ho.gds;rw[List.length_append]at hlen;simp only[An]at h5;obtain⟨q,t,rfl,h6,h7⟩:=h5;rw[List.reverse_cons]at h4;have hl7:=h7.now.len;rw[List.length_cons]at hgl;obtain⟨g,c',rfl,hcap,hgC,s0⟩:=Tf h4 rfl;refine(Lj C g t.reverse.length c' (.slice ea 0 c) o w h1 hcap (by rw[List.length_reverse];omega)).mono ?_;rintro e w' ⟨rfl,rfl⟩;have hp:As (fun _=>False) (C+1) 43 1 w (Ay t.reverse) (.slice (some ⟨g,0,none⟩) t.reverse.length c'):=by
  have e1:Ay (t.reverse++ [q])=Ay t.reverse++ [Ul q]:=by simp[Ay]
  rw[e1]at h4;have:=h4.pop
  rwa [A9]at this
 have hk: ∀i,i≠C->i<w.heap.size->(w.setCell ⟨C,1,none⟩ (.slice (some ⟨g,0,none⟩) t.reverse.length c')).drew.heap[i]? =w.heap[i]? :=fun i i1 _=>Below.heap_setCell _ _ _ _ (fun e=>i1 e);have hs:w.heap.size<=(w.setCell ⟨C,1,none⟩ (.slice (some ⟨g,0,none⟩) t.reverse.length c')).drew.heap.size:=by simp[World.setCell]
 have hnC: ∀i,D i->i≠C:=fun i hi e=>hD (e▸hi);refine⟨rfl,(KB.set (S:=fun i=>i=C) w ⟨C,1,none⟩ rfl _).trans (KB.of_below (S:=fun i=>i=C) (Below.drew (Below.refl _ _))) fun _ _ h=>h,.slice (some ⟨g,0,none⟩) t.reverse.length c',rfl,ea,c,o,t,(h1.set_ 1 _).drew, ?_,h3.later hs fun p p1 p2=>World.cell?_of_block (hk p.block (hnC _ p1) p2),hp.keepP hs fun i e hi=>hk i (by have e2:g=i:=Option.some.inj e;omega) hi,h7.later hs fun i i1 i2=>hk i (hnC i i1) i2⟩;have:D9 ns<=D9 (n::ns):=by simp only[D9];omega
 simp only[List.length_nil]at h2 ⊢;exact⟨h2.1,by omega,h2.2.2⟩
theorem De (D:Nat->Prop) (C:Nat) (V:Value) (k:ByteArray) (v:Val) (es:List Bz) (ns:List Nd) (w:World) (hc:Ew D w C V ((k,v)::es) ns) (hD: ¬D C) (hV:V.ownBlock≠some C):
 Calls Tryz.prog 139 #[.pointer (some ⟨C,0,none⟩)] w fun e w'=>KB (fun i=>i=C) w w'/\Ew D w' C V es ns/\ ∃k' b' n' t' la ln lc oa on oc,e=.returned (.agg #[.string k,.int .i64 k',.bool b',.int .i64 n',.string t',.slice la ln lc,.slice oa on oc])/\Ac D w' (dV v) [.int .i64 k',.bool b',.int .i64 n',.string t',.slice la ln lc,.slice oa on oc]:=by
 obtain⟨ea,c,o,bs,h1,h2,h3,h4,h5⟩:=hc;obtain⟨k',b',n',t',l',o'⟩:=v;obtain⟨g,off,rfl,_,la,lc,oa,oc,hv,c0,c1,c2,c3,c4,c5,c6⟩:=Vd h3 (q:=0) rfl;simp only[Nat.zero_mul,Nat.add_zero]at c0 c1 c2 c3 c4 c5 c6;have hcap:es.length+1<=c:=h2.2.2;refine(Ya C g off es.length c V o k k' b' n' t' la l'.length lc oa o'.length oc w h1 hcap ?_).mono ?_
 . intro j u hj
   match j with
   |0=>cases hj;exact c0
   |1=>cases hj;exact c1
   |2=>cases hj;exact c2
   |3=>cases hj;exact c3
   |4=>cases hj;exact c4
   |5=>cases hj;exact c5
   |6=>cases hj;exact c6
   |j+7=>simp at hj
 rintro e w' ⟨rfl,hkb,a2,ha2,hx⟩;have hs:=hkb.size;have hnC: ∀i,D i->i≠C:=fun i hi e=>hD (e▸hi);have hk: ∀i,i≠C->i<w.heap.size->w'.heap[i]? =w.heap[i]? :=fun i i1 i2=>hkb.block i i2 i1;refine⟨hkb,⟨a2,c - 1,o,bs,hx, ?_, ?_,h4.keepP hs fun i e hi=>hk i (by rintro rfl;exact hV e) hi,h5.later hs fun i i1 i2=>hk i (hnC i i1) i2⟩,_,_,_,_,_,_,_,_,_,_,rfl,hv.later hs fun p p1 p2=>World.cell?_of_block (hk p.block (hnC _ p1) p2)⟩
 . simp only[List.length_cons]at h2;exact⟨h2.1,by omega,by omega⟩
 . have h6:Ac D w' (.row 7 (dO ((k,.mk k' b' n' t' l' o')::es))) [.slice (some ⟨g,off,none⟩) (es.length+1) c]:=h3.later hs fun p p1 p2=>World.cell?_of_block (hk p.block (hnC _ p1) p2);intro w'' q1 q2;have h7:=(h6 w'' q1 q2).cutR (i:=1) (m:=es.length) (by simp[Cb];omega) (c - 1);have e1:(dO ((k,.mk k' b' n' t' l' o')::es)).drop 1=dO es:=by simp[dO]
   rw[e1]at h7;by_cases h0:es.length=0
   . have:es= []:=List.eq_nil_of_length_eq_zero h0;subst this;exact⟨a2,c - 1,rfl,by simp[dO], [],rfl,.inl rfl⟩
   . rw[ha2 h0];rw[Nat.one_mul]at h7;exact h7
structure TC (W:World) (T K:Nat->Prop) (X Y:Nat) (Vx Vy:Value) (ex:List Bz) (nx:List Nd) (ey:List Bz) (ny:List Nd):Prop where
 x:Ew (fun i=>K i/\ ¬T i) W X Vx ex nx
 y:Ew (fun i=>K i/\ ¬T i) W Y Vy ey ny
 okx:CurOk ex nx
 oky:CurOk ey ny
 kb: ∀i,K i->i<W.heap.size
 tk: ∀i,T i->K i
 tx:T X/\ ∀g,Vx.ownBlock=some g->T g/\g≠Y
 ty:T Y/\ ∀g,Vy.ownBlock=some g->T g/\g≠X
 ne:X≠Y/\ ∀g,Vx.ownBlock=some g->Vy.ownBlock≠some g
section
variable {W W':World} {T K:Nat->Prop} {X Y:Nat} {Vx Vy:Value} {ex:List Bz} {nx:List Nd} {ey:List Bz} {ny:List Nd}
theorem TC.swap (h:TC W T K X Y Vx Vy ex nx ey ny):TC W T K Y X Vy Vx ey ny ex nx:=
 ⟨h.y,h.x,h.oky,h.okx,h.kb,h.tk,h.ty,h.tx,h.ne.1.symm,fun g e e'=>h.ne.2 g e' e⟩
theorem TC.keep (h:TC W T K X Y Vx Vy ex nx ey ny) (hb:KB (fun i=> ¬K i) W W'):TC W' T K X Y Vx Vy ex nx ey ny:=by
 have hk: ∀i,i<W.heap.size->K i->W'.heap[i]? =W.heap[i]? :=fun i i1 i2=>hb.block i i1 fun h=>h i2;exact⟨h.x.keep (fun _ _ h=>h) hb.size fun i i1 i2=>hk i i2 (by
  rcases i1 with i1|i1|i1
  . exact i1.1
  . exact i1▸h.tk X h.tx.1
  . exact h.tk i (h.tx.2 i i1).1),h.y.keep (fun _ _ h=>h) hb.size fun i i1 i2=>hk i i2 (by
  rcases i1 with i1|i1|i1
  . exact i1.1
  . exact i1▸h.tk Y h.ty.1
  . exact h.tk i (h.ty.2 i i1).1),h.okx,h.oky,fun i hi=>Nat.lt_of_lt_of_le (h.kb i hi) hb.size,h.tk,h.tx,h.ty,h.ne⟩
theorem TC.below (h:TC W T K X Y Vx Vy ex nx ey ny) (hb:Below W.heap.size W W'):TC W' T K X Y Vx Vy ex nx ey ny:=h.keep (KB.of_below hb)
def Aa9 (W W':World) (T K T' K':Nat->Prop):Prop:=KB T W W'/\(∀i,i<W.heap.size->(T' i ↔ T i)/\(K' i ↔ K i))/\ ∀i,K' i->i<W'.heap.size
theorem TC.step {V':Value} {ex':List Bz} {nx':List Nd} (h:TC W T K X Y Vx Vy ex nx ey ny) (hb:KB (fun i=>i=X\/Vx.ownBlock=some i) W W')
 (hc:Ew (fun i=>(K i/\ ¬T i)\/(W.heap.size<=i/\V'.ownBlock≠some i)) W' X V' ex' nx') (ho:CurOk ex' nx') (hV:V'.ownBlock=Vx.ownBlock\/ ∃g,V'.ownBlock=some g/\W.heap.size<=g):
 TC W' (fun i=>T i\/V'.ownBlock=some i) (fun i=>K i\/(W.heap.size<=i/\i<W'.heap.size)) X Y V' Vy ex' nx' ey ny/\Aa9 W W' T K (fun i=>T i\/V'.ownBlock=some i) (fun i=>K i\/(W.heap.size<=i/\i<W'.heap.size)):=by
 have hz:=hb.size;have hT: ∀i,i<W.heap.size->V'.ownBlock=some i->T i:=fun i i1 i2=>by
  rcases hV with e|⟨g,e,hg⟩
  . exact(h.tx.2 i (e▸i2)).1
  . rw[e]at i2;cases i2;omega
 have hTb: ∀i,T i->i<W.heap.size:=fun i hi=>h.kb i (h.tk i hi);have hXb:=h.kb X (h.tk X h.tx.1);have hYb:=h.kb Y (h.tk Y h.ty.1);have hV': ∀g,V'.ownBlock=some g->(T g/\Vx.ownBlock=some g)\/W.heap.size<=g:=fun g e=>by
  rcases hV with e'|⟨g',e',hg⟩
  . exact .inl ⟨(h.tx.2 g (e'▸e)).1,e'▸e⟩
  . rw[e']at e;cases e;exact .inr hg
 have hlt:=hc.lt;have hKB:KB T W W':=⟨hb.os,hb.tape,hb.output,hb.size,fun k k1 k2=>hb.block k k1 (by
  rintro(e|e)
  . exact k2 (e▸h.tx.1)
  . exact k2 (h.tx.2 k e).1)⟩
 refine⟨⟨hc.keep (fun i i1 i2=> ?_) (Nat.le_refl _) fun _ _ _=>rfl,h.y.keep (fun i i1 i2=> ?_) hz fun i i1 i2=>hb.block i i2 ?_,ho,h.oky, ?_, ?_, ?_, ?_,h.ne.1, ?_⟩,⟨hKB,fun i hi=>⟨⟨fun h1=>h1.elim id (hT i hi),.inl⟩,⟨fun h1=>h1.elim id fun h2=>by omega,.inl⟩⟩, ?_⟩⟩
 . rcases i2 with i2|i2
   . refine⟨.inl i2.1,fun h1=>h1.elim i2.2 fun e=>i2.2 (hT i (h.kb i i2.1) e)⟩
   . exact⟨.inr ⟨i2.1,i1⟩,fun h1=>h1.elim (fun h2=>by have:=hTb i h2;omega) i2.2⟩
 . exact⟨.inl i2.1,fun h1=>h1.elim i2.2 fun e=>i2.2 (hT i (h.kb i i2.1) e)⟩
 . rintro(e|e)
   . subst e;rcases i1 with i1|i1|i1
     . exact i1.2 h.tx.1
     . exact h.ne.1 i1
     . exact(h.ty.2 _ i1).2 rfl
   . rcases i1 with i1|i1|i1
     . exact i1.2 (h.tx.2 i e).1
     . exact(h.tx.2 i e).2 i1
     . exact h.ne.2 i e i1
 . rintro i (hi|hi)
   . exact Nat.lt_of_lt_of_le (h.kb i hi) hz
   . exact hi.2
 . rintro i (hi|hi)
   . exact .inl (h.tk i hi)
   . rcases hV' i hi with h1|h1
     . exact .inl (h.tk i h1.1)
     . exact .inr ⟨h1,(hlt.2 i hi).2⟩
 . refine⟨.inl h.tx.1,fun g e=>⟨.inr e, ?_⟩⟩;rcases hV' g e with h1|h1
   . exact(h.tx.2 g h1.2).2
   . omega
 . exact⟨.inl h.ty.1,fun g e=>⟨.inl (h.ty.2 g e).1,(h.ty.2 g e).2⟩⟩
 . intro g e e';rcases hV' g e with h1|h1
   . exact h.ne.2 g h1.2 e'
   . have:=hTb g (h.ty.2 g e').1;omega
 . rintro i (hi|hi)
   . exact Nat.lt_of_lt_of_le (h.kb i hi) hz
   . exact hi.2
end
theorem Ce (D:Nat->Prop) (C:Nat) (V:Value) (n:Nd) (ns:List Nd) (w:World) (hc:Ew D w C V [] (n::ns)) (ho:CurOk [] (n::ns)) (hD: ¬D C) (hV: ∀g,V.ownBlock=some g-> ¬D g) (_: ∀i,D i->i<w.heap.size):
 Calls Tryz.prog 137 #[.pointer (some ⟨C,0,none⟩)] w fun e w'=>e=.returned (.tuple #[])/\KB (fun i=>i=C\/V.ownBlock=some i) w w'/\ ∃V' es' ns',Ew (fun i=>D i\/(w.heap.size<=i/\V'.ownBlock≠some i)) w' C V' es' ns'/\CurOk es' ns'/\es'++Au ns'=Au (n::ns)/\es'.length+D9 ns'+1=D9 (n::ns)/\(V'.ownBlock=V.ownBlock\/ ∃g,V'.ownBlock=some g/\w.heap.size<=g):=by
 obtain⟨ea,c,o,bs,h1,h2,h3,h4,h5⟩:=hc;have hlen:=ho.len;have hgl:=Sv ho.gds;rw[List.length_append]at hlen;simp only[An]at h5;obtain⟨q,t,rfl,h6,h7⟩:=h5;rw[List.reverse_cons]at h4;have hl7:=h7.now.len;rw[List.length_cons]at hgl;obtain⟨g,c',rfl,hcap,hgC,s0⟩:=Tf h4 rfl;have hg:=hV g rfl;have hlt:=h4.base g rfl;have hnC: ∀i,D i-> ¬(i=C\/i=g):=fun i hi h=>by
  rcases h with e|e
  . exact hD (e▸hi)
  . exact hg (e▸hi)
 have hgd:=ho.gds n (by simp);have hp:As (fun _=>False) (C+1) 43 1 w (Ay t.reverse) (.slice (some ⟨g,0,none⟩) t.reverse.length c'):=by
  have e1:Ay (t.reverse++ [q])=Ay t.reverse++ [Ul q]:=by simp[Ay]
  rw[e1]at h4;have:=h4.pop
  rwa [A9]at this
 have hwt:0<Zc n:=by cases n<;>(simp only[Zc];omega)
 have hbk:=ho.bulk;simp only[List.length_nil,List.nil_append,D9]at h2 hbk
 cases n with
 |leaf es=>
  have hb2:Ag es<=100000000:=by
   simp only[Au,Co]at hbk;rw[Dl]at hbk;omega
  refine(Vm D C g t.reverse.length c' c ea o es q w h1 hcap (by rw[List.length_reverse];omega) (by omega) s0 h6 hD hgd.leaf hb2).mono ?_;rintro e w' ⟨rfl,hkb,g2,hg2,hx,hR⟩;have hs:=hkb.size;have hk: ∀i,i≠C->i<w.heap.size->w'.heap[i]? =w.heap[i]? :=fun i i1 i2=>hkb.block i i2 i1;refine⟨rfl,⟨hkb.os,hkb.tape,hkb.output,hs,fun k k1 k2=>hkb.block k k1 fun h=>k2 (.inl h)⟩,.slice (some ⟨g,0,none⟩) t.reverse.length c',es,ns,⟨_,_,_,t,hx, ?_, ?_,hp.keepP hs fun i e hi=>hk i (by have e2:g=i:=Option.some.inj e;omega) hi,h7.imp (fun i _ hi=> .inl hi) hs fun i i1 i2=>hk i (fun e=>hnC i i1 (.inl e)) i2⟩,ho.openL,by simp only[Au,Co],by simp only[D9,Zc];omega,.inl rfl⟩
  . simp only[Zc]at h2;exact⟨by omega,by omega,Nat.le_refl _⟩
  . refine(hR.closeIn).mono fun i _ hi=> .inr ?_;rcases hi with hi|hi
    . exact⟨hi,fun e=>by have e2:g=i:=Option.some.inj e;omega⟩
    . have e3:g2=i:=Option.some.inj hi;exact⟨by omega,fun e=>by have e2:g=i:=Option.some.inj e;omega⟩
 |inner ks=>
  obtain⟨k2,k8,kg⟩:=hgd.inner;refine(Vl D C g t.reverse.length c' c ea o ks t.reverse q w h1 hcap (by rw[List.length_reverse];omega) (by omega) h4 rfl h6 hD hg (by omega) k8).mono ?_;rintro e w' ⟨rfl,hkb,kb,V',hkn,hx,hR,hV'⟩;have hs:=hkb.size;have hk: ∀i, ¬(i=C\/i=g)->i<w.heap.size->w'.heap[i]? =w.heap[i]? :=fun i i1 i2=>hkb.block i i2 i1;refine⟨rfl,⟨hkb.os,hkb.tape,hkb.output,hs,fun k k1 k2=>hkb.block k k1 fun h=>k2 (h.imp id fun e=>by rw[e];rfl)⟩,V', [],ks++ns,⟨_,_,_,kb++t,hx, ?_, ?_, ?_, ?_⟩,ho.openI,by simp only[Au,Co,B6,List.nil_append],by simp only[D9,Zc,Tv,List.length_nil];omega, ?_⟩
  . simp only[Zc]at h2;simp only[Tv,List.length_nil];exact⟨by omega,by omega,by omega⟩
  . exact(h3.later hs fun p p1 p2=>World.cell?_of_block (hk p.block (hnC _ p1) p2)).mono fun i _ hi=> .inl hi
  . rw[List.reverse_append];exact hR
  . exact(hkn.mono fun i _ hi=> .inl hi).app (h7.imp (fun i _ hi=> .inl hi) hs fun i i1 i2=>hk i (hnC i i1) i2)
  . exact hV'
end Go.Proofs.YtdbejcbbhomdbaaGreatDoor
