/- Parts: A cursor of a diff: open, at an inner node. Condition: a stack at most 10^6 high. -/
import Derived.Sort.CutIn
import Derived.Test.YtnkmhaachfgaoaaGreatDoorKPq24
set_option maxHeartbeats 20000000
set_option maxRecDepth 100000
namespace Go.Proofs.YtnkmhaachfgaoaaGreatDoor
open Go Go.RowKit
attribute [local go_sem] Oper.semAt_some
theorem Al.ownBlk {S0:Nat->Prop} {b s i:Nat} {t:TypeId} {wr:World} {l:List D} {V:Value} (h:Al S0 b t s wr l V) (hi:V.ownBlock=some i): ∃cur,Ah wr i t cur:=by
 obtain⟨ns,h1,_⟩:=h;rcases h1.2 with⟨rfl,_⟩|⟨g,cap,cur,rfl,_,hg,_⟩
 . cases hi
 . cases hi
   exact⟨cur,hg⟩
theorem Vk {w:World} {b s:Nat} {t:TypeId} {l:List Nat} {q:Nat} {V:Value} (h:Al (fun _=>False) b t 1 w (Ar (l++ [q])) V) (_:s=0): ∃g c,V=.slice (some ⟨g,0,none⟩) (l.length+1) c/\l.length+1<=c/\b<=g/\w.cell? ⟨g,l.length,none⟩=some (.pointer (some ⟨q,0,none⟩)):=by
 obtain⟨g,c,rfl,hc,hg,_⟩:=h.ptr (by simp[Ar]);have hh:=h.close;obtain⟨g',off,e,_,cs,h1,_,h3⟩:=hh.at_ (i:=l.length) (d:=Se q) (by simp[Ar])
 cases e
 obtain⟨rfl,_⟩:=h1;have h4:=h3 0 _ rfl;simp only[Av,List.length_append,List.length_singleton,Nat.zero_add,Nat.mul_one,Nat.add_zero]at hc h4 ⊢;exact⟨g,c,rfl,hc,hg,h4⟩
def OpI (w6:World) (C g:Nat) (X O:Value) (bs:List Nat) (pre:List (Nat×Nat)) (A:World):Prop:=
 ∃V,Ah A C Je #[X,V,O]/\Al (fun _=>False) (C+1) 25 1 A (Ar (bs++pre.map (·.2))) V/\KB (fun i=>i=C\/i=g) w6 A/\(V.ownBlock=some g\/ ∃g',V.ownBlock=some g'/\w6.heap.size<=g')
theorem OpI.later {w6:World} {C g:Nat} {X O:Value} {bs:List Nat} {pre:List (Nat×Nat)} {A B:World} (h:OpI w6 C g X O bs pre A) (hb:Below A.heap.size A B):OpI w6 C g X O bs pre B:=by
 obtain⟨V,h1,h2,h3,h4⟩:=h;exact⟨V,h1.below hb h1.lt,h2.below hb,h3.trans (KB.of_below (S:=fun i=>i=C\/i=g) hb) fun _ _ h=>h,h4⟩
theorem OpI.put {w6:World} {C g:Nat} {X O:Value} {bs:List Nat} {pre:List (Nat×Nat)} {A:World} (h:OpI w6 C g X O bs pre A) (hC:C<w6.heap.size) (_:g<w6.heap.size) {k:Nat} {o:Obj} (o':Obj) (ho:A.heap[k]? =some o) (hc:o.isCells=false) (hk:w6.heap.size<=k):OpI w6 C g X O bs pre (A.putObj k o'):=by
 obtain⟨V,h1,h2,h3,h4⟩:=h;refine⟨V,(World.putObj_heap_other (by omega)).trans h1,h2.keepP (by simp[World.putObj]) fun i hi _=>World.putObj_heap_other ?_,⟨h3.os,h3.tape,h3.output,by have:=h3.size;simp[World.putObj];omega,fun j j1 j2=>(World.putObj_heap_other (by omega)).trans (h3.block j j1 j2)⟩,h4⟩;rintro rfl;obtain⟨cur,hcur⟩:=h2.ownBlk hi;rw[show A.heap[i]? =some (Obj.cells cur _ _)from hcur]at ho
 cases ho
 cases hc
theorem Ye (S:Nat->Prop) (C g m c ec:Nat) (ea:Option Addr) (o:Int) (ks:List Nd) (bs:List Nat) (b:Nat) (w:World) (hx:Ah w C Je #[.slice ea 0 ec,.slice (some ⟨g,0,none⟩) (m+1) c,.int .i64 o]) (hc:m+1<=c) (hm:m<=1000000) (ho:0<=o/\o<=1000000000)
 (hr:Al (fun _=>False) (C+1) 25 1 w (Ar (bs++ [b])) (.slice (some ⟨g,0,none⟩) (m+1) c)) (hbs:bs.length=m) (hn:Bj S w (.inner ks) b) (hS: ¬S C) (hSg: ¬S g) (h0:0<ks.length) (h8:ks.length<=8):
 Calls Tryz.prog 112 #[.pointer (some ⟨C,0,none⟩)] w fun e w'=>e=.returned (.tuple #[])/\KB (fun i=>i=C\/i=g) w w'/\ ∃kb V',Am S w' ks kb/\Ah w' C Je #[.slice ea 0 ec,V',.int .i64 (o+1)]/\Al (fun _=>False) (C+1) 25 1 w' (Ar (bs++kb.reverse)) V'/\(V'.ownBlock=some g\/ ∃g',V'.ownBlock=some g'/\w.heap.size<=g'):=by
 obtain⟨PO,hPO⟩: ∃P:Ending->World->Prop,(fun e w'=>e=.returned (.tuple #[])/\KB (fun i=>i=C\/i=g) w w'/\ ∃kb V',Am S w' ks kb/\Ah w' C Je #[.slice ea 0 ec,V',.int .i64 (o+1)]/\Al (fun _=>False) (C+1) 25 1 w' (Ar (bs++kb.reverse)) V'/\(V'.ownBlock=some g\/ ∃g',V'.ownBlock=some g'/\w.heap.size<=g'))=P:=⟨_,rfl⟩;rw[hPO];have lx:=hx.lt;have s0:w.cell? ⟨g,m,none⟩=some (.pointer (some ⟨b,0,none⟩)):=by
  obtain⟨g',c',e,_,_,h⟩:=Vk hr rfl
  cases e
  rwa [hbs]at h
 have hgb:=hr.base g rfl;have lg:g<w.heap.size:=hgb.2;have hgC:g≠C:=by omega
 have hr2:Al (fun _=>False) (C+1) 25 1 w (Ar bs) (.slice (some ⟨g,0,none⟩) m c):=by
  have e1:Ar (bs++ [b])=Ar bs++ [Se b]:=by simp[Ar]
  rw[e1]at hr;have:=hr.pop
  rwa [Av,hbs]at this
 have hb1:=Aa w (.cells #[.pointer (some ⟨C,0,none⟩)] 121);obtain⟨w1,hw1⟩: ∃w1,w.alloc (.cells #[.pointer (some ⟨C,0,none⟩)] 121)=w1:=⟨_,rfl⟩;have hR1:Ah w1 w.heap.size 121 #[.pointer (some ⟨C,0,none⟩)]:=hw1▸Ah.new _ _ _;rw[hw1]at hb1;have hx1:=hx.below hb1 lx;have hn1:=(hn.below hb1);have hr1:=hr2.below hb1;obtain⟨M,hM⟩: ∃M,m+1=M:=⟨_,rfl⟩;have y1:IntKind.i64.wrap ((M:Int) - 1)=(m:Int):=by
  rw[show(M:Int) - 1=(m:Int)from by omega];exact IntWalk.i64_in _ (by omega)
 have y2:(m:Int)<(M:Int):=by omega
 have y3:(0:Int)<=(m:Int):=by omega
 have y5:m<M:=by omega
 have d1:w1.cell? ⟨C,1,none⟩=some (.slice (some ⟨g,0,none⟩) M c):=hM▸hx1.cell 1;have e0:=(hb1.cell (p:=⟨g,m,none⟩) lg).trans s0;have b0:=hR1.cell 0;have y6:IntKind.i64.wrap (o+1)=o+1:=IntWalk.i64_in _ (by omega);have Hsk:=qz (M9 C g m c (.slice ea 0 ec) o w1.drew hx1.drew hc hm);have HDx:=qz hx1.drew;have HDn:=qz (hn1.below (Below.drew (Below.refl w1.heap.size w1)));have HDr:=qz (hr1.below (Below.drew (Below.refl w1.heap.size w1)));have HDb:=qz hR1.drew;have HD:=qz (hb1.trans ((Below.drew (Below.refl _ w1)).mono hb1.size));have HPO:=qz hPO;clear hPO;clear hx s0 hn hx1 hn1 hR1 hM hr hr1 hr2;refine(callsIn_wide (n:=12)).1 ?_;refine callsIn_of_wp_marks Tryz.func112 rfl trivial ?_ rfl;simp only[Tryz.ntmps112,List.size_toArray,List.length_cons,List.length_nil,Nat.reduceAdd,Nat.reduceSub,Array.replicate_succ,Array.replicate_zero,List.push_toArray,List.append_toArray,List.nil_append,List.cons_append]
 gi_upto_region 1 with(fail)
 refine Vz (S:=fun Y:World=>Y.cell? ⟨w.heap.size,0,none⟩=some (.pointer (some ⟨C,0,none⟩))/\Y.cell? ⟨C,1,none⟩=some (.slice (some ⟨g,0,none⟩) M c)/\Y.cell? ⟨g,m,none⟩=some (.pointer (some ⟨b,0,none⟩))) (by kernel_rfl) ⟨b0,d1,e0⟩ (fun hHeld=> ?_);refine tkH 0 hHeld ?_;refine tkH 1 hHeld ?_;refine tkH 2 hHeld ?_;refine tkH 3 hHeld ?_;refine tkH 4 hHeld ?_;refine tkH 5 hHeld ?_;refine tkH 6 hHeld ?_;refine tkH 7 hHeld ?_;refine tkH 8 hHeld ?_;refine tkH 9 hHeld ?_;refine tkH 10 hHeld ?_;refine tkH 11 hHeld ?_;refine tkH 12 hHeld ?_;refine wpAnyH_done (by kernel_rfl) ?_ _;dsimp only[noP];clear hHeld d1 e0 b0;generalize w1.drew=wd at Hsk HDx HDn HDr HDb HD ⊢;clear hw1 hb1;have b0:=HDb.out.cell 0
 gi_wp2_with (fail)
 refine⟨trivial, ?_⟩
 gi_at_call 111
 refine(callsIn_wide.2 Hsk.out).mono ?_;rintro e w2 ⟨rfl,rfl⟩;have hx2:=(HDx.out.set_ 1 (.slice (some ⟨g,0,none⟩) m c)).drew;have hn2:=(HDn.out.later (w':=wd.setCell ⟨C,1,none⟩ (.slice (some ⟨g,0,none⟩) m c)) (by simp[World.setCell]) fun i i1 _=>Below.heap_setCell _ _ _ _ (fun e=>hS (by have e2:i=C:=e;rw[<-e2];exact i1))).below (Below.drew (Below.refl _ _));have hr2:=(HDr.out.keepP (w':=wd.setCell ⟨C,1,none⟩ (.slice (some ⟨g,0,none⟩) m c)) (by simp[World.setCell]) fun i i1 _=>Below.heap_setCell _ _ _ _ (by cases i1;exact hgC)).below (Below.drew (Below.refl _ _));have hb2:=(HDb.out.far (p:=⟨C,1,none⟩) (by simp;omega) (.slice (some ⟨g,0,none⟩) m c)).drew;have hk2:KB (fun i=>i=C\/i=g) w (wd.setCell ⟨C,1,none⟩ (.slice (some ⟨g,0,none⟩) m c)).drew:=((KB.of_below (S:=fun i=>i=C\/i=g) HD.out).trans (KB.set (S:=fun i=>i=C\/i=g) wd ⟨C,1,none⟩ (.inl rfl) _) fun _ _ h=>h).trans (KB.of_below (S:=fun i=>i=C\/i=g) (Below.drew (Below.refl _ _))) fun _ _ h=>h;generalize (wd.setCell ⟨C,1,none⟩ (.slice (some ⟨g,0,none⟩) m c)).drew=w2 at hx2 hn2 hr2 hb2 hk2 ⊢;clear Hsk HDx HDn HDr HDb HD b0;have b0:=hb2.cell 0;have c2:=hx2.cell 2;have fz:=hx2.frozen;have lx2:=hx2.lt;have lb2:=hb2.lt;have hx3:=hx2.set_ 2 (.int .i64 (o+1));have Hn3:=qz (hn2.later (w':=w2.setCell ⟨C,2,none⟩ (.int .i64 (o+1))) (by simp[World.setCell]) fun i i1 _=>Below.heap_setCell _ _ _ _ (fun e=>hS (by have e2:i=C:=e;rw[<-e2];exact i1)));have hr3:=hr2.keepP (w':=w2.setCell ⟨C,2,none⟩ (.int .i64 (o+1))) (by simp[World.setCell]) fun i i1 _=>Below.heap_setCell _ _ _ _ (by cases i1;exact hgC);have Hb3:=qz (hb2.far (p:=⟨C,2,none⟩) (by simp;omega) (.int .i64 (o+1)));have Hk3:=qz (hk2.trans (KB.set (S:=fun i=>i=C\/i=g) w2 ⟨C,2,none⟩ (.inl rfl) (.int .i64 (o+1))) fun _ _ h=>h);obtain⟨Hx3,Hr3⟩:=hid2 hx3 hr3;clear hx3 hr3;clear hx2 hn2 hr2 hb2 hk2
 gi_upto_region 4 with(fail)
 generalize w2.setCell ⟨C,2,none⟩ (.int .i64 (o+1))=w3 at Hx3 Hn3 Hr3 Hb3 Hk3 ⊢;clear b0 c2 fz lx2 lb2;have hHt:=Cl Hn3.out.now;obtain⟨H,hH,hHe⟩: ∃H,I8 (.inner ks)=H/\0<H:=⟨_,rfl,by simp[I8]⟩;rw[hH]at hHt;have q0:((H:Int)==0)=false:=by simp;omega
 have HKd:=qz (Fu Hn3.out h0 (by omega));have HHt:=qz hHt;clear hHt
 gi_wp2_with (fail)
 refine⟨trivial, ?_⟩
 gi_at_call 88
 refine(callsIn_wide.2 HHt.out).mono ?_;rintro e w4 ⟨rfl,rfl⟩
 gi_wp2_with (fail)
 refine⟨trivial, ?_⟩
 gi_at_call 76
 refine(callsIn_wide.2 HKd.out).mono ?_;rintro e w5 ⟨kb,hkb,hb5,V5,rfl,hR5⟩;have hkl:=hkb.now.len;obtain⟨gk,ck,rfl,_,hgk,hgk2⟩:=hR5.ptr (by intro e;have:=congrArg List.length e;rw[Av,List.length_nil]at this;omega);rw[Av];have Hkl:=qz hkl;clear hkl;have hcell5: ∀i b,kb[i]? =some b->w5.cell? ⟨gk,0+i,none⟩=some (.pointer (some ⟨b,0,none⟩)):=by
  intro i b hi;obtain⟨g',off,e,_,cs,h1,_,h3⟩:=hR5.close.at_ (i:=i) (d:=Se b) (by simp[Ar,hi])
  cases e
  obtain⟨rfl,_⟩:=h1;have:=h3 0 _ rfl;simpa using this
 have HBk:=qz (Zq (some ⟨gk,0,none⟩) kb.length ck w5);have hx5:=Hx3.out.below hb5 Hx3.out.lt;have hr5:=Hr3.out.below hb5;have hbx5:=Hb3.out.below hb5 Hb3.out.lt;have hk5:=Hk3.out.trans (KB.of_below (S:=fun i=>i=C\/i=g) hb5) fun _ _ h=>h;have hkb5:=hkb.below hb5;clear hkb Hx3 Hn3 Hr3 Hb3 HKd HHt
 gi_wp2_with (fail)
 refine⟨trivial, ?_⟩
 gi_at_call 172
 refine(callsIn_wide.2 HBk.out).mono ?_;rintro e w6 ⟨rfl,hw6⟩;have hb6:Below w5.heap.size w5 w6:=hw6▸Aa _ _;have hp6:Ah w6 w5.heap.size 111 #[.slice (some ⟨gk,0,none⟩) kb.length ck]:=hw6▸Ah.new _ _ _;have hx6:=hx5.below hb6 hx5.lt;have hr6:=hr5.below hb6;have hbx6:=hbx5.below hb6 hbx5.lt;have Hk6:=qz (hk5.trans (KB.of_below (S:=fun i=>i=C\/i=g) hb6) fun _ _ h=>h);have Hkb6:=qz (hkb5.below hb6);have Hcell6:Hid (∀i b,kb[i]? =some b->w6.cell? ⟨gk,0+i,none⟩=some (.pointer (some ⟨b,0,none⟩))):=fun i b hi=>(hb6.cell (p:=⟨gk,0+i,none⟩) hgk2).trans (hcell5 i b hi);have lp6:=hp6.lt;have lC6:=hx6.lt;have lg6:g<w6.heap.size:=(hr6.base g rfl).2;have lb6:=hbx6.lt;have z3:=Hk3.out.size;have z5:=hb5.size;have hwC:w.heap.size≠C/\w.heap.size≠g:=by omega
 obtain⟨j0,hj,hy0,hy1,hy2⟩:=info_parts Jw;obtain⟨Hj,Hy0,Hy1,Hy2⟩:=hid4 hj hy0 hy1 hy2;clear hj hy0 hy1 hy2;clear hw6 hx5 hr5 hbx5 hk5 hkb5 hcell5 HBk Hk3
 gi_wp2_with (fail)
 refine Mm (n:=10) (gf:=199) (lb:= #[.pointer (some ⟨w5.heap.size,0,none⟩)]) rfl (enters_of Tryz.func199 (by kernel_rfl) rfl) (Ws kb w5.heap.size gk 0 ck (by have:=Hkl.out;omega)) (fun _ _=>rfl)
  ?hEp (OpI w6 C g (.slice ea 0 ec) (.int .i64 (o+1)) bs) ?hIn ?hIp ?hIb ?h0 ?a1 ?assign ?body ?done
 case assign=>
  intro l x q W K hK;dsimp only[Um]
  gi_wp2
  exact hK
 case h0=>exact⟨_,hx6,by simpa using hr6,KB.of_below (Below.refl _ _),.inl rfl⟩
 case hIb=>
  rintro pre A ⟨V,h1,h2,h3,h4⟩;have hpg:w5.heap.size≠C/\w5.heap.size≠g:=by omega
  have hkg:gk≠C/\gk≠g:=by omega
  refine⟨(World.cell?_of_block (h3.block w5.heap.size lp6 (by omega))).trans (hp6.cell 0),Nat.lt_of_lt_of_le lp6 h3.size,by have:=h3.size;omega,fun i b hi=>(World.cell?_of_block (h3.block gk (by omega) (by omega)):A.cell? ⟨gk,0+i,none⟩=w6.cell? ⟨gk,0+i,none⟩).trans (Hcell6.out i b hi)⟩
 case hIn=>exact fun pre A B h hb=>h.later hb
 case hEp=>exact fun _ _ _ _ _ _ _ _ _=>trivial
 case hIp=>exact fun pre A k o1 o2 h ho hc hk=>h.put lC6 lg6 o2 ho hc (by omega)
 case body=>
  rintro l pre ⟨i,b'⟩ rest q A hx ⟨V,h1,h2,h3,h4⟩ _ ⟨ds,hds⟩ ⟨rc,hrc⟩;obtain⟨aV,cV,rfl⟩:=h2.slice;have hB0:Ah A w.heap.size 121 #[.pointer (some ⟨C,0,none⟩)]:=(h3.block w.heap.size lb6 (by omega)).trans hbx6;have b0:=hB0.cell 0;have c1:=h1.cell 1;have fz:=h1.frozen;have lC:=h1.lt;have hlen:(Ar (bs++pre.map (·.2))).length<=2000000:=by
   have hl2:pre.length<=(Gq kb kb.length).length:=by rw[hx];simp
   have hl3:(Gq kb kb.length).length=kb.length:=by
    have:=congrArg List.length (Oo kb kb.length (Nat.le_refl _));simpa using this
   rw[Av,List.length_append,List.length_map];have:=Hkl.out;omega
  have hds2:=(Array.getElem?_eq_some_iff.1 hds).1;have hrc2:=(Array.getElem?_eq_some_iff.1 hrc).1;have hnd: ∀k o,A.heap[k]? =some o->o.isCells=false->(Value.slice aV (Ar (bs++pre.map (·.2))).length cV).ownBlock≠some k:=by
   intro k o hk ho e;obtain⟨cur,hcur⟩:=h2.ownBlk e;rw[show A.heap[k]? =some (Obj.cells cur _ _)from hcur]at hk
   cases hk
   cases ho
  have Hd1:=qz (hnd _ _ hds rfl);have Hd2:=qz (hnd _ _ hrc rfl);obtain⟨H1,H2,H3,H4,Hds,Hrc,Hlen,HB0⟩:=hid8 h1 h2 h3 h4 hds hrc hlen hB0;clear h1 h2 h3 h4 hds hrc hlen hB0;clear hnd hx
  gi_upto_region 8 with(fail)
  have hbb:Below A.drew.heap.size A.drew (A.drew.alloc (.cells #[.pointer (some ⟨b',0,none⟩)] 25)):=Aa _ _;have hA1:Ah (A.drew.alloc (.cells #[.pointer (some ⟨b',0,none⟩)] 25)) C Je #[.slice ea 0 ec,.slice aV (Ar (bs++pre.map (·.2))).length cV,.int .i64 (o+1)]:=H1.out.drew.alloc _;have HA2:=qz ((H2.out.below (Below.drew (Below.refl _ A))).below hbb);have Hrd:=qz (Db (Ah.new A.drew 25 #[.pointer (some ⟨b',0,none⟩)]));have hB01:=HB0.out.drew.alloc (.cells #[.pointer (some ⟨b',0,none⟩)] 25);have b01:=hB01.cell 0;have c11:=hA1.cell 1;have LA:=qz (show A.heap.size<=(A.drew.alloc (.cells #[.pointer (some ⟨b',0,none⟩)] 25)).heap.size from by simp);have h36:=H3.out.size;obtain⟨Hbb,HA1,HB01⟩:=hid3 hbb hA1 hB01;clear hbb hA1 hB01;have hq0:C+1<=(A.drew.alloc (.cells #[.pointer (some ⟨b',0,none⟩)] 25)).heap.size:=by have:=LA.out;omega
  refine Qb (S:=fun Y:World=>Y.cell? ⟨w.heap.size,0,none⟩=some (.pointer (some ⟨C,0,none⟩))) (by kernel_rfl) (by kernel_rfl) (by rintro⟨_,_,h⟩;exact h) b0 (fun hHeld=> ?_);refine tkH 0 hHeld ?_;refine tkH 1 hHeld ?_;refine tkH 2 hHeld ?_;refine tkH 3 hHeld ?_;refine tkH 5 hHeld ?_;refine rd2 4 6 (fun K hK=> ?gA) (fun K hK=> ?gB)
  case' gA=>
   go_simp;refine hK.out _ _ b0 (fun hHeld=> ?_);clear hK K
   try simp only[Act.put,tk1,tk2,tk3,tk4,tk5,tk6]
   refine C4 6 fun K hK=> ?_;go_simp;refine hK.out _ _ b01 (fun hHeld=> ?_);clear hK K
   try simp only[Act.put,tk1,tk2,tk3,tk4,tk5,tk6]
  case' gB=>
   go_simp;refine hK.out _ _ b01 (fun hHeld=> ?_);clear hK K
   try simp only[Act.put,tk1,tk2,tk3,tk4,tk5,tk6]
   refine C4 4 fun K hK=> ?_;go_simp;refine hK.out _ _ b01 (fun hHeld=> ?_);clear hK K
   try simp only[Act.put,tk1,tk2,tk3,tk4,tk5,tk6]
  all_goals
   refine C4 7 fun K hK=> ?_;refine E8 (d:=Se b') (V:=.slice aV (Ar (bs++pre.map (·.2))).length cV) (by rfl) (.tmp 43) (.tmp 45) 111 (by rfl) Tryz.underlying111 Hj.out Hy0.out Hy1.out Hy2.out rfl (by omega) (by rfl) HA2.out (by exact hq0) rfl (Fq _ _ b') (by rfl) Hrd.out (Nat.le_trans (Nat.add_le_add_right Hlen.out 1) (by simp[maxLen])) (Nat.le_trans (Nat.mul_le_mul_right 8 (Nat.add_le_add_right Hlen.out 1)) (by decide)) ?_;intro V7 w7 hr7 hg7 hat7;have hoC:(Value.slice aV (Ar (bs++pre.map (·.2))).length cV).ownBlock≠some C:=fun e=>by have:=(H2.out.base C e).1;omega
   have how:(Value.slice aV (Ar (bs++pre.map (·.2))).length cV).ownBlock≠some w.heap.size:=fun e=>by
    rcases H4.out with e4|⟨g4,e4,h5⟩<;>(rw[e]at e4;cases e4;omega)
   have hA7:=HA1.out.grown hg7 hoC.symm;have hB7:=HB01.out.grown hg7 how.symm;have b07:=hB7.cell 0;have z7:=hg7.size;have lA:=LA.out;refine hK.out _ _ b07 (fun hHeld=> ?_);clear hK K
   try simp only[Act.put,tk1,tk2,tk3,tk4,tk5,tk6]
   refine tkH 8 hHeld ?_;refine tkH 9 hHeld ?_;have c17:=hA7.cell 1;have fz7:=hA7.frozen;have lC7:=hA7.lt;have e7:Ar (bs++pre.map (·.2))++ [Se b']=Ar (bs++(pre++ [(i,b')]).map (·.2)):=by simp[Ar]
   rw[e7]at hr7;have hI7:OpI w6 C g (.slice ea 0 ec) (.int .i64 (o+1)) bs (pre++ [(i,b')]) (w7.setCell ⟨C,1,none⟩ V7):=by
    have hb8:=hr7.base;have hk7:KB (fun i=>i=C\/i=g) w6 w7:=(H3.out.trans (KB.of_below (S:=fun i=>i=C\/i=g) ((Below.drew (Below.refl _ A)).trans Hbb.out)) fun _ _ h=>h).trans (KB.of_grown (S:=fun i=>i=C\/i=g\/w6.heap.size<=i) hg7 fun k e=>by
     rcases H4.out with e4|⟨g4,e4,h5⟩
     . rw[e4]at e;cases e;exact .inr (.inl rfl)
     . rw[e4]at e;cases e;exact .inr (.inr h5)) fun k k1 k2=>by omega
    refine⟨V7,hA7.set_ 1 V7,hr7.keepP (by simp[World.setCell]) fun j e _=>Below.heap_setCell _ _ _ _ (by have:=(hb8 j e).1;show j≠C;omega),hk7.trans (KB.set (S:=fun i=>i=C\/i=g) w7 ⟨C,1,none⟩ (.inl rfl) V7) fun _ _ h=>h, ?_⟩;rcases hat7 with e|e
    . rw[e];exact H4.out
    . exact .inr ⟨_,e,Nat.le_trans H3.out.size LA.out⟩
   have hD7:(w7.setCell ⟨C,1,none⟩ V7).heap[w6.heap.size]? =A.heap[w6.heap.size]? /\(w7.setCell ⟨C,1,none⟩ V7).heap[w6.heap.size+1]? =A.heap[w6.heap.size+1]? :=by
    have hq: ∀k,k<A.heap.size->k≠C->(Value.slice aV (Ar (bs++pre.map (·.2))).length cV).ownBlock≠some k->(w7.setCell ⟨C,1,none⟩ V7).heap[k]? =A.heap[k]? :=fun k k1 k2 k3=>
     (Below.heap_setCell _ _ _ _ (by exact k2)).trans ((hg7.block k (Nat.lt_of_lt_of_le k1 LA.out) fun e=>k3 e.symm).trans ((Hbb.out.block k k1).trans rfl))
    exact⟨hq _ hds2 (by omega) Hd1.out,hq _ hrc2 (by omega) Hd2.out⟩
   obtain⟨N7,hN7⟩: ∃N7,(Ar (bs++(pre++ [(i,b')]).map (·.2))).length=N7:=⟨_,rfl⟩;obtain⟨a7,c7,rfl⟩:=hr7.slice_n hN7;clear hN7;obtain⟨HI7,HD7,HB7⟩:=hid3 hI7 hD7 hB7;clear hI7 hD7 hB7;clear hr7 hg7 hat7 hA7;refine C4 10 fun K hK=> ?_;go_simp;refine hK.out _ _ ?_ (fun hHeld=> ?_)
   case refine_1=>exact(HB7.out.far (p:=⟨C,1,none⟩) (by simp;omega) _).cell 0
   clear hK K
   try simp only[Act.put,tk1,tk2,tk3,tk4,tk5,tk6]
   refine wpAnyH_done (by kernel_rfl) ?_ _;clear hHeld;exact⟨HD7.out.1,HD7.out.2,HI7.out⟩
 case done=>
  rintro A hI hds;have hP:PO (.returned (.tuple #[])) (A.putObj w6.heap.size (.deferred none)):=by
   obtain⟨V,h1,h2,h3,h4⟩:=hI.put lC6 lg6 (.deferred none) hds rfl (Nat.le_refl _);rw[<-HPO.out];rw[Oo kb kb.length (Nat.le_refl _),List.take_length]at h2;refine⟨rfl,Hk6.out.trans h3 fun _ _ h=>h,kb,V,Hkb6.out.later h3.size fun i i1 i2=>h3.block i i2 ?_,h1,h2, ?_⟩
   . rintro(e|e)<;>subst e
     . exact hS i1
     . exact hSg i1
   . have:=Hk6.out.size;exact h4.imp id fun⟨g',e,h⟩=>⟨g',e,by omega⟩
  have HP:=qz hP;clear hP;clear hI
  gi_wp2
  refine⟨by simp,.inl ⟨_,_,rfl,run_takeDeferred hds, ?_⟩⟩;exact⟨_,Fh rfl,HP.out⟩
end Go.Proofs.YtnkmhaachfgaoaaGreatDoor
