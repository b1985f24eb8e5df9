/- Parts: tree.whichKid: the kid in which a key is, or belongs. Condition: at most 1000 kids, rising. -/
import Derived.Test.YtkmcjfkokoidcaaGreatDoorZFaShelfO
import Derived.Shelf.SlSorted.Search
import Derived.Test.YtkmcjfkokoidcaaGreatDoorKFa17
set_option maxHeartbeats 20000000
set_option maxRecDepth 100000
namespace Go.Proofs.YtkmcjfkokoidcaaGreatDoor
open Go Go.RowKit
theorem Abm {k:Nd} {r:List Nd} (h:Bi k≠ []):A7 (.inner (k::r))=A7 k:=by
 obtain⟨x,t,e⟩:=Im h;unfold A7;simp only[Bi,Bg];rw[e];rfl
theorem Aex {ks:List Nd} {k:Nd} (h:Bi k≠ []):Ex (.inner (ks++ [k]))=Ex k:=by
 unfold Ex;simp only[Bi,Be,Jp];rw[List.getLast?_append,List.getLast?_eq_some_getLast h];rfl
theorem Ks (S:Nat->Prop) (w:World) (b:Nat):Ah S w (dPt b) [.pointer (some ⟨b,0,none⟩)]:=fun _ _ _=>⟨rfl,rfl⟩
theorem At.keepP {b:Nat} {t:TypeId} {s:Nat} {wr w':World} {l:List D} {V:Value} (h:At (fun _=>False) b t s wr l V) (hs:wr.heap.size<=w'.heap.size) (hk: ∀i,V.ownBlock=some i->i<wr.heap.size->w'.heap[i]? =wr.heap[i]?):At (fun _=>False) b t s w' l V:=by
 obtain⟨ns,h1,h2,h3⟩:=h;refine⟨ns,⟨h1.1, ?_⟩,h2,fun w'' k1 _=>Af.more (h3 w'' (by omega) (fun p p1 _=>p1.1.elim)) hs⟩;rcases h1.2 with⟨rfl,h0⟩|⟨g,cap,cur,rfl,hbg,hg,h5⟩
 . exact .inl ⟨rfl,h0⟩
 . exact .inr ⟨g,cap,cur,rfl,hbg,(hk g rfl (Array.getElem?_eq_some_iff.1 hg).1).trans hg,h5⟩
structure IL (w:World) (T:Nat) (ks:List Nd) (bs:List Nat) (q:Nat) (wr:World) (V:Value):Prop where
 below:Below w.heap.size w wr
 blk:Aj wr w.heap.size Vh #[.slice none 0 0,V,.int .i64 ((T:Int)+1),.int .i64 (Bg (ks.take q)).length,.string ⟨#[]⟩,.string ⟨#[]⟩,.bool false]
 row:At (fun _=>False) (w.heap.size+1) 24 1 wr (Bb (bs.take q)) V
theorem IL.drew {w:World} {T:Nat} {ks:List Nd} {bs:List Nat} {q:Nat} {wr:World} {V:Value} (h:IL w T ks bs q wr V):IL w T ks bs q wr.drew V:=
 ⟨h.below.trans ((Below.drew (Below.refl _ wr)).mono h.below.size),h.blk.drew,h.row.below (Below.drew (Below.refl _ _))⟩
def Ajh (S:Nat->Prop) (nd:Nd) (w:World) (e:Ending) (w':World):Prop:=Below w.heap.size w w'/\ ∃b,e=.returned (.tuple #[.pointer (some ⟨b,0,none⟩),.int .i64 0])/\Bm (fun i=>S i\/w.heap.size<=i) w' nd b
theorem Zj (S:Nat->Prop) (T:Nat) (ks:List Nd) (bs:List Nat) (a:Option Addr) (n c:Nat) (w:World) (h:Ag w w.heap.size (.row 1 (Bb bs)) [.slice a n c]) (hkS:Ar S w ks bs) (ha:Ay (Bg ks)) (hok: ∀k ∈ ks,Co 4 T k)
 (h2:2<=ks.length) (h8:ks.length<=8) (hH:T<=1000000) (hN:(Bg ks).length<=1000000000):Calls Tryz.prog 104 #[.slice a n c] w (Ajh S (.inner ks) w):=by
 have hk:=hkS.now;have hn:=h.row_len;rw[A8,hk.len]at hn;subst hn;have hbl:=hk.len;have hne: ∀k ∈ ks,Bi k≠ []:=fun k hkk=>K9 (by omega) (hok k hkk);obtain⟨j0,hj,hy0,hy1,hy2⟩:=info_parts Qh;obtain⟨PO,hPO⟩: ∃P:Ending->World->Prop,Ajh S (.inner ks) w=P:=⟨_,rfl⟩;rw[hPO];have y2:(2:Int)<=ks.length:=by omega
 have y8:(ks.length:Int)<=8:=by omega
 have yp:(0:Int)<ks.length:=by omega
 obtain⟨k0,r0,e0⟩: ∃k r,ks=k::r:=by
  match ks,h2 with
  |x::r,_=>exact⟨x,r,rfl⟩
 have hk0:ks[0]? =some k0:=by rw[e0];rfl
 have hm0:k0 ∈ ks:=by rw[e0];simp
 have hF1:A7 (.inner ks)=A7 k0:=by rw[e0];exact Abm (hne k0 hm0)
 have hH0:Ms k0=T:=Mc (.inl (by omega)) (hok k0 hm0);have hHI:(Ms (.inner ks):Int)=(T:Int)+1:=by rw[e0];simp[Ms,htL,hH0]
 obtain⟨b0,hb0,n0⟩:=hk.at_ hk0;obtain⟨kl,hkl⟩: ∃p,ks[ks.length - 1]? =some p:=⟨_,List.getElem?_eq_getElem (by omega)⟩;have hml:=List.mem_of_getElem? hkl;have hF2:Ex (.inner ks)=Ex kl:=by
  have e:ks=ks.dropLast++ [kl]:=by
   have h3:=List.getLast?_eq_some_iff.1 ((List.getLast?_eq_getElem?).trans hkl);obtain⟨ys,e3⟩:=h3;rw[e3];simp
  rw[e];exact Aex (hne kl hml)
 obtain⟨bl,hbl',nl⟩:=hk.at_ hkl;obtain⟨g,off,rfl,hg,r0'⟩:=J9 h hb0;obtain⟨g',off',e',_,rl⟩:=J9 h hbl'
 cases e'
 rw[Nat.add_zero]at r0';have hHt:=Cx n0;rw[hH0]at hHt;have hw1:IntKind.i64.wrap ((T:Int)+1)=(T:Int)+1:=IntWalk.i64_in _ (by omega);have HR:=qz (fun(W:World) (hB:Below w.heap.size w W)=>Up ks bs (some ⟨g,off,none⟩) ks.length c W ((h.below hB).more hB.size) ((hk.below hB).more hB.size) ha hne (by omega));have hI0:IL w T ks bs 0 (w.alloc (.cells #[.slice none 0 0,.slice none 0 0,.int .i64 ((T:Int)+1),.int .i64 0,.string ⟨#[]⟩,.string ⟨#[]⟩,.bool false] Vh)) (.slice none 0 0):=
  ⟨Aa _ _,by simpa[Bg]using Aj.new w Vh #[.slice none 0 0,.slice none 0 0,.int .i64 ((T:Int)+1),.int .i64 0,.string ⟨#[]⟩,.string ⟨#[]⟩,.bool false],by simpa[Bb]using At.nil _ _ _ _ _⟩
 obtain⟨H,Hk,HkS,HHt,HI0,Hj,Hy0,Hy1,Hy2,HPO,N0,Nl,Rl,HF1,HF2,HHI⟩:=hid16 h hk hkS hHt hI0 hj hy0 hy1 hy2 hPO n0 nl rl hF1 hF2 hHI;have Hbl:=qz hbl;clear h hk hkS hHt hI0 hj hy0 hy1 hy2 hPO n0 nl rl hF1 hF2 hHI hbl;have Rh:=qz r0';clear hk0 hkl hbl' hb0 e0 hH0;go_enter Tryz.func104,Tryz.ntmps104;go_wp2_with (fail);(with_reducible refine(HHt.out).mono ?_);rintro e w1 ⟨rfl,rfl⟩;go_wp2_with (fail);go_loopw [24] (fun i wr=> ∃q:Nat,i=.int .i64 q/\q<=ks.length/\ ∃V,Hid (IL w T ks bs q wr V)) (fun i _=>ks.length - (intOf i).toNat)
 case atStart=>exact⟨0,rfl,Nat.zero_le _,_,HI0⟩
 case round=>
  obtain⟨q,rfl,hq,V,hI⟩:=hrel;clear HI0;by_cases hlt:q<ks.length
  . obtain⟨k,hk1⟩: ∃p,ks[q]? =some p:=⟨_,List.getElem?_eq_getElem hlt⟩;have hmk:=List.mem_of_getElem? hk1;obtain⟨b1,hb1,n1⟩:=Hk.out.at_ hk1;obtain⟨g',off',e,_,r1⟩:=J9 H.out hb1
    cases e
    have hz:=hI.out.below.size;have hbw:=hI.out.below;have n1w:=n1.below hbw;have HCn:=qz (G3 n1w);have hSo:=fun(W:World) (hB:Below w.heap.size w W)=>Zl (n1.below hB) (by have:=(Gf (hok k hmk)).2;omega);rw[show decide (4<=Bh k)=true from decide_eq_true (Gf (hok k hmk)).1]at hSo;have hHk:Ms k=T:=Mc (.inl (by omega)) (hok k hmk);have hnz:((Bi k).length:Int)≠0:=by
     have:=List.length_pos_iff.2 (hne k hmk);omega
    have hnz2:(((Bi k).length:Int)==0)=false:=beq_eq_false_iff_ne.2 hnz;have htk:Bg (ks.take (q+1))=Bg (ks.take q)++Bi k:=by rw[List.take_add_one,hk1,Option.toList_some,Be,Jp]
    have htb:Bb (bs.take (q+1))=Bb (bs.take q)++ [dPt b1]:=by unfold Bb;rw[List.take_add_one,hb1];simp
    have hle:(Bg (ks.take q)).length+(Bi k).length<=1000000000:=by
     have e5:Bg ks=Bg (ks.take (q+1))++Bg (ks.drop (q+1)):=by rw[<-Be,List.take_append_drop]
     rw[e5,htk]at hN;simp only[List.length_append]at hN;omega
    have c0:=(hbw.cell (p:=⟨g,off+q,none⟩) hg).trans r1;obtain⟨ea,en,ec,ka,kn,kc,hx1,_⟩:=n1.blk;rw[hHk]at hx1;have hlx:=hI.out.blk.lt;have hS: ∀W,Below w.heap.size w W->W.cell? ⟨b1,2,none⟩=some (.int .i64 T)/\W.cell? ⟨b1,3,none⟩=some (.int .i64 (Bi k).length):=fun W hB=>
     have:=hx1.below hB n1.lt
     ⟨this.cell 2,this.cell 3⟩
    have hq1:(q:Int)<(ks.length:Int):=by omega
    have hq0:(0:Int)<=q:=by omega
    have d2:=hI.out.blk.cell 2;obtain⟨HSo,Htk,Htb,HS,Hbw,N1,Hx1⟩:=hid7 hSo htk htb hS hbw n1 hx1;clear hSo htk htb hS hbw n1 hx1;clear hmk hk1 hb1 r1 n1w hHk;go_upto_region 7 with(fail);refine wp_region_held_drew (S:=fun Y:World=>Y.cell? ⟨b1,2,none⟩=some (.int .i64 T)/\Y.cell? ⟨w.heap.size,2,none⟩=some (.int .i64 ((T:Int)+1))) (by kernel_rfl) ⟨(HS.out _ (Hbw.out.trans ((Below.drew (Below.refl _ wr)).mono hz))).1,d2⟩ (fun hHeld=> ?_);have hId:=qz hI.out.drew;have hCd:=qz (fun(_:Unit)=>G3 (N1.out.below hId.out.below));clear hI HCn d2;generalize wr.drew=wd at hId hCd hHeld ⊢;refine tkH 0 hHeld ?_;refine Ee 1 fun K hK=> ?_;go_simp;(with_reducible refine(hCd.out ()).mono ?_);rintro e w1 ⟨rfl,rfl⟩;refine hK.out _ _ hHeld (fun hHeld=> ?_);clear hK K hCd
    try simp only[Act.put,tk1,tk2,tk3,tk4,tk5,tk6]
    refine tkH 2 hHeld ?_;refine tkH 3 hHeld ?_;refine tkH 4 hHeld ?_;refine tkH 5 hHeld ?_;refine tkH 6 hHeld ?_;refine tkH 7 hHeld ?_;refine tkH 8 hHeld ?_;refine tkH 9 hHeld ?_;refine tkH 10 hHeld ?_;refine tkH 11 hHeld ?_;refine tkH 12 hHeld ?_;refine tkH 13 hHeld ?_;refine tkH 14 hHeld ?_;refine wpAnyH_done (by kernel_rfl) ?_ _;clear hHeld;go_upto_region 9 with(fail);obtain⟨aV,cV,rfl⟩:=hId.out.row.slice;have hdl:(Bb (bs.take q)).length=q:=by rw[A8,List.length_take,Hbl.out];omega
    have Hrow6:=qz (hId.out.row.below (Aa wd (.cells #[.pointer (some ⟨b1,0,none⟩)] 24)));have Hrd6:=qz (F2 (Aj.new wd 24 #[.pointer (some ⟨b1,0,none⟩)]));have hLo6:(Bb (bs.take q)).length+1<=maxLen/\((Bb (bs.take q)).length+1)*8<=140737488355328/\w.heap.size+1<=(wd.alloc (.cells #[.pointer (some ⟨b1,0,none⟩)] 24)).heap.size:=by
     rw[hdl];have:=hId.out.blk.lt;exact⟨by simp only[maxLen];omega,by omega,by simp;omega⟩
    have Hx0:=qz (hId.out.blk.alloc (.cells #[.pointer (some ⟨b1,0,none⟩)] 24));have Hb0:=qz (hId.out.below.alloc hId.out.below.size (.cells #[.pointer (some ⟨b1,0,none⟩)] 24));have d1:=hId.out.blk.cell 1;obtain⟨HLo6,Hdl⟩:=hid2 hLo6 hdl;clear hLo6 hdl;clear hId;go_wp2_with (at_builtin;apply Shut.out);unfold Shut;refine Jm rfl (.tmp 47) (.tmp 49) 108 rfl Tryz.underlying108 Hj.out Hy0.out Hy1.out Hy2.out rfl (by omega) rfl Hrow6.out HLo6.out.2.2 rfl (Ks _ _ b1) rfl Hrd6.out HLo6.out.1 HLo6.out.2.1 ?_;intro V6 w6 hr6 hg6 hat6;rw[<-Htb.out]at hr6;obtain⟨a6,c6,rfl⟩:=hr6.slice;have hx6:=Hx0.out.grown hg6 (fun e=>by have:=(Hrow6.out.base w.heap.size e.symm).1;omega);have hb6:=Hb0.out.grown hg6 Hb0.out.size (fun k hk=>by have:=(Hrow6.out.base k hk).1;omega);have d1:=hx6.cell 1;have fz:=hx6.frozen;have lx:=hx6.lt;have Hr7:=qz (hr6.keepP (w':=w6.setCell ⟨w.heap.size,1,none⟩ (.slice a6 (Bb (bs.take (q+1))).length c6)) (by simp[World.setCell]) (fun i e _=>Below.heap_setCell _ _ _ _ (by have:=(hr6.base i e).1;simp;omega)));have Hx7:=qz (hx6.set_ 1 (.slice a6 (Bb (bs.take (q+1))).length c6));have Hb7:=qz (hb6.setCell (p:=⟨w.heap.size,1,none⟩) (Nat.le_refl _) (.slice a6 (Bb (bs.take (q+1))).length c6));clear hr6 hx6 hb6 hg6 hat6 Hrow6 Hrd6 HLo6 Hx0 Hb0;go_upto_region 10 with(fail);have e9:World.setCell w6 ⟨w.heap.size,1,none⟩ (.slice a6 (Bb (bs.take (q+1))).length c6)=World.setCell w6 ⟨w.heap.size,1,none⟩ (.slice a6 (Bb (bs.take (q+1))).length c6):=rfl;generalize World.setCell w6 ⟨w.heap.size,1,none⟩ (.slice a6 (Bb (bs.take (q+1))).length c6)=w7 at Hx7 Hb7 Hr7 ⊢;clear e9 d1 fz lx;have hsb:=HS.out _ Hb7.out;have p3:=hsb.2;have d3:=Hx7.out.cell 3;have fz:=Hx7.out.frozen;have lx:=Hx7.out.lt;have lb:b1<w7.heap.size:=by have:=N1.out.lt;have:=Hb7.out.size;omega
    have hwr:IntKind.i64.wrap (((Bg (ks.take q)).length:Int)+((Bi k).length:Int))=((Bg (ks.take q)).length:Int)+((Bi k).length:Int):=IntWalk.i64_in _ (by omega);clear hsb
    go_region_law (fail)
    all_goals
     have hx8:=(Hx7.out.set_ 3 (.int .i64 (((Bg (ks.take q)).length:Int)+((Bi k).length:Int)))).drew;have hb8:=Hb7.out.setCell (p:=⟨w.heap.size,3,none⟩) (Nat.le_refl _) (.int .i64 (((Bg (ks.take q)).length:Int)+((Bi k).length:Int)));have hb8d:=hb8.trans ((Below.drew (Below.refl _ _)).mono hb8.size);have hr8:=(Hr7.out.keepP (w':=w7.setCell ⟨w.heap.size,3,none⟩ (.int .i64 (((Bg (ks.take q)).length:Int)+((Bi k).length:Int)))) (by simp[World.setCell]) (fun i e _=>Below.heap_setCell _ _ _ _ (by have:=(Hr7.out.base i e).1;simp;omega))).below (Below.drew (Below.refl _ _));generalize (w7.setCell ⟨w.heap.size,3,none⟩ (.int .i64 (((Bg (ks.take q)).length:Int)+((Bi k).length:Int)))).drew=w8 at hx8 hb8d hr8 ⊢;clear hb8 d3 p3 fz lx lb Hx7 Hb7 Hr7;have d6:=hx8.cell 6;have fz:=hx8.frozen;have lx:=hx8.lt;have HSw:=qz (HSo.out w8 hb8d);obtain⟨Hx8,Hb8d,Hr8⟩:=hid3 hx8 hb8d hr8;clear hx8 hb8d hr8;go_wp2_with (fail);(with_reducible refine(HSw.out).mono ?_);rintro e w9 ⟨rfl,hb9⟩;have hx9:=Hx8.out.below hb9 lx;have hbw9:=Hb8d.out.trans (hb9.mono Hb8d.out.size);have hr9:=Hr8.out.below hb9;clear d6 fz lx hb9 HSw Hx8 Hb8d Hr8;have d6:=hx9.cell 6;have fz:=hx9.frozen;have lx:=hx9.lt;have HN:Hid (IL w T ks bs (q+1) (w9.setCell ⟨w.heap.size,6,none⟩ (.bool false)) (.slice a6 (Bb (bs.take (q+1))).length c6)):=
      ⟨hbw9.setCell (p:=⟨w.heap.size,6,none⟩) (Nat.le_refl _) _,by
        rw[show((Bg (ks.take (q+1))).length:Int)=((Bg (ks.take q)).length:Int)+((Bi k).length:Int)from by rw[Htk.out,List.length_append];omega];exact hx9.set_ 6 (.bool false),hr9.keepP (by simp[World.setCell]) (fun i e _=>Below.heap_setCell _ _ _ _ (by have:=(hr9.base i e).1;simp;omega))⟩
     clear hx9 hbw9 hr9;go_wp2;go_roundw
     case rel=>exact⟨q+1,by go_num,by omega,_,HN⟩
     case measure=>simp only[intOf];omega
  . obtain rfl:q=ks.length:=by omega
    obtain⟨i1,i2,i3⟩:=hI.out;rw[List.take_length]at i2;rw[show bs.take ks.length=bs from by rw[<-Hbl.out,List.take_length]]at i3;obtain⟨aV,cV,rfl⟩:=i3.slice_n (n:=ks.length) (by rw[A8,Hbl.out]);have hRw:=HR.out wr i1;obtain⟨_,_,_,_,_,_,hq0,_⟩:=N0.out.blk;obtain⟨_,_,_,_,_,_,hql,_⟩:=Nl.out.blk;have r0c:=hI.out.below;have hfin: ∀W,Below w.heap.size w W->At (fun _=>False) (w.heap.size+1) 24 1 W (Bb bs) (.slice aV ks.length cV)->Aj W w.heap.size Vh #[.slice none 0 0,.slice aV ks.length cV,.int .i64 ((T:Int)+1),.int .i64 (Bg ks).length,.string (A7 k0),.string (Ex kl),.bool false]->PO (.returned (.tuple #[.pointer (some ⟨w.heap.size,0,none⟩),.int .i64 0])) W:=fun W hB hr hx=>by
     rw[<-HPO.out];have hrb:=hr.base;refine⟨hB,_,rfl, ?_⟩;simp only[Bm,HF1.out,HF2.out,HHI.out];refine⟨.inr (Nat.le_refl _),hx.lt,bs,aV,cV,hr.closeIn.mono fun i _ p1=> .inr ?_,hx,(HkS.out.below hB).mono fun i _ hi=> .inl hi⟩;rcases p1 with p1|p1
     . exact p1.elim
     . have:=(hrb _ p1).1;omega
    have hS: ∀W,Below w.heap.size w W->W.cell? ⟨g,off,none⟩=some (.pointer (some ⟨b0,0,none⟩))/\W.cell? ⟨g,off+(ks.length - 1),none⟩=some (.pointer (some ⟨bl,0,none⟩))/\W.cell? ⟨b0,4,none⟩=some (.string (A7 k0))/\W.cell? ⟨bl,5,none⟩=some (.string (Ex kl)):=fun W hB=>
     ⟨(hB.cell (p:=⟨g,off,none⟩) hg).trans Rh.out,(hB.cell (p:=⟨g,off+(ks.length - 1),none⟩) hg).trans Rl.out,(hq0.below hB N0.out.lt).cell 4,(hql.below hB Nl.out.lt).cell 5⟩
    have z1:IntKind.i64.wrap ((ks.length:Int) - 1)=(ks.length:Int) - 1:=IntWalk.i64_in _ (by omega);have z2:((ks.length:Int) - 1).toNat=ks.length - 1:=by omega
    have z3:(0:Int)<=(ks.length:Int) - 1:=by omega
    have z5:(ks.length:Int) - 1<(ks.length:Int):=by omega
    have z6:(1:Int)<=(ks.length:Int):=by omega
    have z7:0<ks.length:=by omega
    have z8:ks.length - 1<ks.length:=by omega
    obtain⟨I1,I2,I3,HRw,Hfin,HS⟩:=hid6 i1 i2 i3 hRw hfin hS;clear i1 i2 i3 hRw hfin hS;clear hI hq0 hql r0c;go_wp2_with (fail);(with_reducible refine(HRw.out).mono ?_);rintro e w1 ⟨rfl,hb1⟩;have Hx1:=qz ((I2.out.below hb1 I2.out.lt).drew);have Hw1':=qz ((I1.out.trans (hb1.mono I1.out.size)).trans ((Below.drew (Below.refl _ w1)).mono (I1.out.trans (hb1.mono I1.out.size)).size));have Hr1:=qz ((I3.out.below hb1).below (Below.drew (Below.refl _ _)));clear hb1 I1 I2 I3 HRw HR Hk H HHt;go_upto_region 15 with(fail);generalize A7 k0=s1 at Hfin HS;generalize Ex kl=s2 at Hfin HS;refine wp_region_held_drew (S:=fun Y:World=>Y.cell? ⟨g,off,none⟩=some (.pointer (some ⟨b0,0,none⟩))/\Y.cell? ⟨g,off+(ks.length - 1),none⟩=some (.pointer (some ⟨bl,0,none⟩))/\Y.cell? ⟨b0,4,none⟩=some (.string s1)/\Y.cell? ⟨bl,5,none⟩=some (.string s2)) (by kernel_rfl) (HS.out _ Hw1'.out) (fun hHeld=> ?_);generalize w1.drew=wd at Hx1 Hw1' Hr1 hHeld ⊢;refine tkH 0 hHeld ?_;refine tkH 1 hHeld ?_;refine tkH 2 hHeld ?_;refine tkH 3 hHeld ?_;refine tkH 4 hHeld ?_;refine tkH 5 hHeld ?_;refine tkH 6 hHeld ?_;refine tkH 7 hHeld ?_;refine tkH 8 hHeld ?_;refine tkH 9 hHeld ?_;refine tkH 10 hHeld ?_;refine tkH 11 hHeld ?_;refine tkH 12 hHeld ?_;refine tkH 13 hHeld ?_;refine tkH 14 hHeld ?_;refine tkH 15 hHeld ?_;refine tkH 16 hHeld ?_;refine tkH 17 hHeld ?_;refine tkH 18 hHeld ?_;have x4:=Hx1.out.cell 4;have x5:=Hx1.out.cell 5;have fz:=Hx1.out.frozen;have lx:=Hx1.out.lt;refine Ee 19 fun K hK=> ?_;go_simp;have hx2:=Hx1.out.set_ 4 (.string s1);have hb2:=Hw1'.out.setCell (p:=⟨w.heap.size,4,none⟩) (Nat.le_refl _) (.string s1);have Hr2:=qz (Hr1.out.keepP (w':=wd.setCell ⟨w.heap.size,4,none⟩ (.string s1)) (by simp[World.setCell]) (fun i e _=>Below.heap_setCell _ _ _ _ (by have:=(Hr1.out.base i e).1;simp;omega)));refine hK.out _ _ (HS.out _ hb2) (fun hHeld=> ?_);clear hK K x4 x5 fz lx;have x5:=hx2.cell 5;have fz:=hx2.frozen;have lx:=hx2.lt;have Hx2:=qz hx2;clear hx2
    try simp only[Act.put,tk1,tk2,tk3,tk4,tk5,tk6]
    refine tkH 20 hHeld ?_;refine tkH 21 hHeld ?_;refine Ee 22 fun K hK=> ?_;go_simp;have hb3:=hb2.setCell (p:=⟨w.heap.size,5,none⟩) (Nat.le_refl _) (.string s2);have HP:=qz (Hfin.out _ hb3 (Hr2.out.keepP (w':=(wd.setCell ⟨w.heap.size,4,none⟩ (.string s1)).setCell ⟨w.heap.size,5,none⟩ (.string s2)) (by simp[World.setCell]) (fun i e _=>Below.heap_setCell _ _ _ _ (by have:=(Hr2.out.base i e).1;simp;omega))) (Hx2.out.set_ 5 (.string s2)));refine hK.out _ _ (HS.out _ hb3) (fun hHeld=> ?_);clear hK K x5 fz lx hb2 hb3
    try simp only[Act.put,tk1,tk2,tk3,tk4,tk5,tk6]
    refine wpAnyH_done (by kernel_rfl) ?_ _;clear hHeld HS;go_wp2;exact HP.out
end Go.Proofs.YtkmcjfkokoidcaaGreatDoor
namespace Go.Proofs.YtkmcjfkokoidcaaGreatDoor
open Go Go.RowKit Go.Sort
theorem Wf (es:List A5) (k:ByteArray) (a:Option Addr) (n c b1 b2 i B:Nat) (hi:i<es.length) (_:es.length<=1000) (w:World) (h:Ag w B (.row 7 (dO es)) [.slice a n c]) (h1:w.cell? ⟨b1,0,none⟩=some (.slice a n c)) (h2:w.cell? ⟨b2,0,none⟩=some (.string k)):
 Calls Tryz.prog 161 #[.int .i64 i,.pointer (some ⟨b1,0,none⟩),.pointer (some ⟨b2,0,none⟩)] w fun e w'=>e=.returned (.bool (!((es[i]?.map fun e=>Dp e.1 k).getD false)))/\w'=w.drew:=by
 have hl:=h.row_len;rw[Av]at hl;subst hl;obtain⟨e1,he1⟩: ∃p,es[i]? =some p:=⟨_,List.getElem?_eq_getElem hi⟩;obtain⟨g,off,rfl,hg,u1,u2,u3,u4,u5,u6,_,r1⟩:=Et h he1;have s1:=r1 0 _ rfl;simp only[Nat.add_zero]at s1;have y1:(i:Int)<(es.length:Int):=by omega
 have y2:(0:Int)<=i:=by omega
 have hR:(!((es[i]?.map fun e=>Dp e.1 k).getD false))= !(Op.bytesLess e1.1.toList k.toList):=by rw[he1];rfl
 rw[hR];have hSS:(fun Y:World=>Y.cell? ⟨b1,0,none⟩=some (.slice (some ⟨g,off,none⟩) es.length c)/\Y.cell? ⟨b2,0,none⟩=some (.string k)/\Y.cell? ⟨g,off+i*7,none⟩=some (.string e1.1)) w.drew:=⟨h1,h2,s1⟩;clear r1 he1 hR h h1 h2 s1;go_enter Tryz.func161,Tryz.ntmps161;go_upto_region 1 with(fail);refine wp_region_held_drew (S:=fun Y=>Y.cell? ⟨b1,0,none⟩=some (.slice (some ⟨g,off,none⟩) es.length c)/\Y.cell? ⟨b2,0,none⟩=some (.string k)/\Y.cell? ⟨g,off+i*7,none⟩=some (.string e1.1)) (by kernel_rfl) hSS (fun hHeld=> ?_);refine tkH 0 hHeld ?_;refine tkH 1 hHeld ?_;refine tkH 2 hHeld ?_;refine tkH 3 hHeld ?_;refine tkH 4 hHeld ?_;refine tkH 5 hHeld ?_;refine tkH 6 hHeld ?_;refine tkH 7 hHeld ?_;refine wpAnyH_done (by kernel_rfl) ?_ _;clear hHeld hSS;go_wp2;go_ret;exact⟨rfl,rfl⟩
theorem Pv (w:World) (q:Nat) (os:Array Obj):Below w.heap.size w (grow (w.drewN q) os):=below_grown_sl w.heap.size w q os (Nat.le_refl _)
theorem Ama {k:ByteArray} {es:List A5} (ha:Ay es) (x y:Nat) (hxy:x<=y) (hy:y<es.length) (h:(!((es[x]?.map fun e=>Dp e.1 k).getD false))=true):(!((es[y]?.map fun e=>Dp e.1 k).getD false))=true:=by
 have ex:es[x]? =some es[x]:=List.getElem?_eq_getElem (by omega);have ey:es[y]? =some es[y]:=List.getElem?_eq_getElem hy;rw[ex]at h;rw[ey];simp only[Option.map_some,Option.getD_some]at h ⊢;rcases Nat.lt_or_ge x y with hlt|hge
 . have:=List.pairwise_iff_getElem.1 ha x y (by omega) hy hlt
   cases hb:Dp es[y].1 k with
   |false=>rfl
   |true=>
    rw[C0 this hb]at h;exact h
 . obtain rfl:x=y:=by omega
   exact h
theorem Jy (es:List A5) (k:ByteArray) (a:Option Addr) (n c:Nat) (w:World) (h:Ag w w.heap.size (.row 7 (dO es)) [.slice a n c]) (ha:Ay es) (hn:es.length<=1000):
 Calls Tryz.prog 97 #[.slice a n c,.string k] w fun e w'=>e=.returned (.tuple #[.int .i64 (Do k es),.bool (Cb k es)])/\Below w.heap.size w w':=by
 obtain⟨PO,hPO⟩: ∃P:Ending->World->Prop,(fun e w'=>e=.returned (.tuple #[.int .i64 (Do k es),.bool (Cb k es)])/\Below w.heap.size w w')=P:=⟨_,rfl⟩;rw[hPO];have hF: ∀W,Below w.heap.size w W->PO (.returned (.tuple #[.int .i64 (Do k es),.bool (Cb k es)])) W:=fun W hB=>by
  rw[<-hPO];exact⟨rfl,hB⟩
 clear hPO;have hl:=h.row_len;rw[Av]at hl;subst hl;obtain⟨wi,hwi⟩: ∃wi,(w.alloc (.cells #[.slice a es.length c] 22)).alloc (.cells #[.string k] 9)=wi:=⟨_,rfl⟩;have hbi:Below w.heap.size w wi:=hwi▸((Aa w (.cells #[.slice a es.length c] 22)).alloc (by simp) _);have hx1:Aj wi w.heap.size 22 #[.slice a es.length c]:=hwi▸(Aj.new _ _ _).alloc _;have hx2:Aj wi (w.heap.size+1) 9 #[.string k]:=by
  have:=Aj.new (w.alloc (.cells #[.slice a es.length c] 22)) 9 #[.string k]
  rwa [World.size_alloc,hwi]at this
 have hS:=Tryz.sort_Search 161 #[.pointer (some ⟨w.heap.size,0,none⟩),.pointer (some ⟨w.heap.size+1,0,none⟩)] es.length (fun i=> !((es[i]?.map fun e=>Dp e.1 k).getD false)) wi (fun _ _=>by kernel_rfl) (by omega)
  (fun m os i hi=>by
    have hB:=Pv wi m os;refine(Wf es k a es.length c w.heap.size (w.heap.size+1) i w.heap.size hi hn (grow (wi.drewN m) os) (h.below (hbi.trans (hB.mono hbi.size))) ((hB.cell (p:=⟨w.heap.size,0,none⟩) hx1.lt).trans (hx1.cell 0)) ((hB.cell (p:=⟨w.heap.size+1,0,none⟩) hx2.lt).trans (hx2.cell 0))).mono ?_;rintro e w' ⟨rfl,rfl⟩;exact⟨rfl,1, #[],by rw[grow_empty];rfl⟩)
  (fun x y h1 h2 h3=>Ama ha x y h1 h2 h3)
 simp only[Bool.not_not]at hS;rw[Ajz ha]at hS;have hle:=Ys k es;have d1:=hx1.cell 0;have d2:=hx2.cell 0;have l1:=hx1.lt;have l2:=hx2.lt;obtain⟨HS,Hbi,Hx1,Hx2,H⟩:=hid5 hS hbi hx1 hx2 h;clear hS hbi hx1 hx2 h;go_enter Tryz.func97,Tryz.ntmps97;go_upto_region 1 with(fail);clear hwi;go_wp2_with (fail);(with_reducible refine(HS.out).mono ?_);rintro e w1 ⟨rfl,q,os,rfl⟩;have hb1:=Pv wi q os;generalize grow (wi.drewN q) os=w1 at hb1 ⊢;have hw1:=Hbi.out.trans (hb1.mono Hbi.out.size);have hx1':=Hx1.out.below hb1 l1;have hx2':=Hx2.out.below hb1 l2;clear d1 d2;have d1:=hx1'.cell 0;have d2:=hx2'.cell 0;have l3:=hx1'.lt;have l4:=hx2'.lt;have HD:=qz (hw1.trans ((Below.drew (Below.refl _ w1)).mono hw1.size));clear hx1' hx2' hb1 Hx1 Hx2 l1 l2;by_cases hlt:Do k es<es.length
 . obtain⟨e1,he1⟩: ∃p,es[Do k es]? =some p:=⟨_,List.getElem?_eq_getElem hlt⟩;have hh:Cb k es=(e1.1.toList==k.toList):=by unfold Cb;rw[he1];rfl
   rw[hh]at hF;have HF:=qz hF;clear hF;obtain⟨g,off,rfl,hg,u1,u2,u3,u4,u5,u6,_,r1⟩:=Et (H.out.below hw1) he1;have s1:=r1 0 _ rfl;simp only[Nat.add_zero]at s1;have y1:(Do k es:Int)<(es.length:Int):=by omega
   have y2:(0:Int)<=(Do k es:Int):=by omega
   generalize Do k es=P at HF hlt s1 y1 y2 ⊢;clear r1 he1 hh H hw1;go_upto_region 2 with(fail);refine wp_region_held_drew (S:=fun Y:World=>Y.cell? ⟨w.heap.size,0,none⟩=some (.slice (some ⟨g,off,none⟩) es.length c)/\Y.cell? ⟨w.heap.size+1,0,none⟩=some (.string k)/\Y.cell? ⟨g,off+P*7,none⟩=some (.string e1.1)) (by kernel_rfl) ⟨d1,d2,s1⟩ (fun hHeld=> ?_);refine tkH 0 hHeld ?_;refine tkH 1 hHeld ?_;refine tkH 2 hHeld ?_;refine tkH 3 hHeld ?_;refine tkH 4 hHeld ?_;refine tkH 5 hHeld ?_;refine tkH 6 hHeld ?_;refine tkH 7 hHeld ?_;refine tkH 8 hHeld ?_;refine tkH 9 hHeld ?_;refine tkH 10 hHeld ?_;refine tkH 11 hHeld ?_;refine tkH 12 hHeld ?_;refine tkH 13 hHeld ?_;refine tkH 14 hHeld ?_;refine tkH 15 hHeld ?_;refine wpAnyH_done (by kernel_rfl) ?_ _;clear hHeld;go_wp2;exact HF.out _ HD.out
 . have hh:Cb k es=false:=by unfold Cb;rw[List.getElem?_eq_none (by omega)];rfl
   rw[hh]at hF;have HF:=qz hF;clear hF;have y1: ¬((Do k es:Int)<(es.length:Int)):=by omega
   have y2:decide (Do k es<es.length)=false:=decide_eq_false hlt;generalize Do k es=P at HF y1 y2 ⊢;clear hh H hw1;go_upto_region 2 with(fail);refine wp_region_held_drew (S:=fun Y:World=>Y.cell? ⟨w.heap.size,0,none⟩=some (.slice a es.length c)/\Y.cell? ⟨w.heap.size+1,0,none⟩=some (.string k)) (by kernel_rfl) ⟨d1,d2⟩ (fun hHeld=> ?_);refine tkH 0 hHeld ?_;refine tkH 1 hHeld ?_;refine tkH 2 hHeld ?_;refine tkH 3 hHeld ?_;refine tkH 4 hHeld ?_;refine tkH 5 hHeld ?_;refine tkN 6 hHeld ?_;refine tkN 7 hHeld ?_;refine tkN 8 hHeld ?_;refine tkN 9 hHeld ?_;refine tkN 10 hHeld ?_;refine tkN 11 hHeld ?_;refine tkN 12 hHeld ?_;refine tkH 13 hHeld ?_;refine tkH 14 hHeld ?_;refine tkH 15 hHeld ?_;refine wpAnyH_done (by kernel_rfl) ?_ _;clear hHeld;go_wp2;exact HF.out _ HD.out
theorem Aon (x y:List UInt8):(!Op.bytesLess x y&& !x==y)=Op.bytesLess y x:=by
 have key: ∀{x y:List UInt8},Op.bytesLess x y=true->Op.bytesLess y x=false:=fun {x y} h=>by
  cases e:Op.bytesLess y x with
  |false=>rfl
  |true=>have:=Tm h e;rw[Lf]at this;cases this
 rcases Ad2 x y with h|rfl|h
 . rw[h,key h];rfl
 . rw[Lf];simp
 . have hne:(x==y)=false:=beq_eq_false_iff_ne.2 fun e=>by
    subst e;rw[Lf]at h
    cases h
   rw[h,key h,hne];rfl
theorem Ab1: ∀{ks:List Nd},Ay (Bg ks)->(∀k ∈ ks,Bi k≠ [])->ks.Pairwise fun a b=>Dp (A7 a) (A7 b)=true
 | [],_,_=>List.Pairwise.nil
 |k::r,ha,hne=>by
  simp only[Bg]at ha;obtain⟨_,a2,a3⟩:=List.pairwise_append.1 ha;refine List.pairwise_cons.2 ⟨fun x hx=> ?_,Ab1 a2 fun y hy=>hne y (by simp[hy])⟩;obtain⟨v,t,e⟩:=Im (hne k (by simp));obtain⟨v',t',e'⟩:=Im (hne x (by simp[hx]));exact a3 (A7 k,v) (by rw[e];simp) (A7 x,v') (Amm hx _ (by rw[e'];simp))
theorem Xe {k:ByteArray} {ks:List Nd} (ha:Ay (Bg ks)) (hne: ∀k ∈ ks,Bi k≠ []):ks.Pairwise fun a b=>Dp k (A7 a)=true->Dp k (A7 b)=true:=
 (Ab1 ha hne).imp fun h h'=>C0 h' h
theorem Ahe {k:ByteArray} {ks:List Nd} (ha:Ay (Bg ks)) (hne: ∀k ∈ ks,Bi k≠ []):(List.range ks.length).countP (fun i=> !((ks[i]?.map fun n=>Dp k (A7 n)).getD false))=ks.findIdx fun n=>Dp k (A7 n):=by
 refine Eq.trans ?_ (O2 _ (Xe ha hne));refine Eq.trans ?_ (Ol _ _);refine List.countP_congr fun i hi=> ?_;have:i<ks.length:=List.mem_range.1 hi;rw[List.getElem?_eq_getElem this];simp
theorem Aks {k:ByteArray} {ks:List Nd} (ha:Ay (Bg ks)) (hne: ∀k ∈ ks,Bi k≠ []) (x y:Nat) (hxy:x<=y) (hy:y<ks.length) (h:((ks[x]?.map fun n=>Dp k (A7 n)).getD false)=true):((ks[y]?.map fun n=>Dp k (A7 n)).getD false)=true:=by
 rcases Nat.lt_or_ge x y with hlt|hge
 . have:=List.pairwise_iff_getElem.1 (Xe (k:=k) ha hne) x y (by omega) hy hlt;rw[List.getElem?_eq_getElem (by omega)]at h;rw[List.getElem?_eq_getElem hy];exact this h
 . obtain rfl:x=y:=by omega
   exact h
theorem Wh (ks:List Nd) (bs:List Nat) (k:ByteArray) (a:Option Addr) (n c b1 b2 i B:Nat) (hi:i<ks.length) (_:ks.length<=1000) (w:World) (h:Ag w B (.row 1 (Bb bs)) [.slice a n c]) (hk:A6 w B ks bs) (h1:w.cell? ⟨b1,0,none⟩=some (.slice a n c)) (h2:w.cell? ⟨b2,0,none⟩=some (.string k)):
 Calls Tryz.prog 165 #[.int .i64 i,.pointer (some ⟨b1,0,none⟩),.pointer (some ⟨b2,0,none⟩)] w fun e w'=>e=.returned (.bool ((ks[i]?.map fun n=>Dp k (A7 n)).getD false))/\w'=w.drew:=by
 have hl:=h.row_len;rw[A8,hk.len]at hl;subst hl;obtain⟨n1,hn1⟩: ∃p,ks[i]? =some p:=⟨_,List.getElem?_eq_getElem hi⟩;obtain⟨p1,hp1,hN⟩:=hk.at_ hn1;obtain⟨g,off,rfl,hg,s1⟩:=J9 h hp1;have hD:=Below.drew (Below.refl B w);have hF:=Qe (hN.below hD);have y1:(i:Int)<(ks.length:Int):=by omega
 have y2:(0:Int)<=i:=by omega
 have hR:((ks[i]?.map fun n=>Dp k (A7 n)).getD false)=Op.bytesLess k.toList (A7 n1).toList:=by rw[hn1];rfl
 rw[hR,<-Aon];generalize A7 n1=f1 at hF ⊢;have hSS:(fun Y:World=>Y.cell? ⟨b1,0,none⟩=some (.slice (some ⟨g,off,none⟩) ks.length c)/\Y.cell? ⟨b2,0,none⟩=some (.string k)/\Y.cell? ⟨g,off+i,none⟩=some (.pointer (some ⟨p1,0,none⟩))) w.drew:=⟨h1,h2,s1⟩;have HF:=qz hF;clear hF;clear hn1 hp1 hR h h1 h2 s1 hk hN hD;go_enter Tryz.func165,Tryz.ntmps165;go_upto_region 1 with(fail);refine wp_region_held_drew (S:=fun Y=>Y.cell? ⟨b1,0,none⟩=some (.slice (some ⟨g,off,none⟩) ks.length c)/\Y.cell? ⟨b2,0,none⟩=some (.string k)/\Y.cell? ⟨g,off+i,none⟩=some (.pointer (some ⟨p1,0,none⟩))) (by kernel_rfl) hSS (fun hHeld=> ?_);refine tkH 0 hHeld ?_;refine tkH 1 hHeld ?_;refine tkH 2 hHeld ?_;refine tkH 3 hHeld ?_;refine tkH 5 hHeld ?_;refine Ee 4 fun K hK=> ?_;go_simp;(with_reducible refine(HF.out).mono ?_);rintro e w1 ⟨rfl,rfl⟩;refine hK.out _ _ hHeld (fun hHeld=> ?_);clear hK K
 try simp only[Act.put,tk1,tk2,tk3,tk4,tk5,tk6]
 refine tkH 6 hHeld ?_;refine tkH 7 hHeld ?_;refine wpAnyH_done (by kernel_rfl) ?_ _;clear hHeld hSS;go_wp2;go_ret;exact⟨rfl,rfl⟩
theorem Mk (ks:List Nd) (bs:List Nat) (k:ByteArray) (a:Option Addr) (n c:Nat) (w:World) (h:Ag w w.heap.size (.row 1 (Bb bs)) [.slice a n c]) (hk:A6 w w.heap.size ks bs) (ha:Ay (Bg ks)) (hne: ∀k ∈ ks,Bi k≠ []) (hn:ks.length<=1000):
 Calls Tryz.prog 101 #[.slice a n c,.string k] w fun e w'=>e=.returned (.int .i64 (An ks k))/\Below w.heap.size w w':=by
 obtain⟨PO,hPO⟩: ∃P:Ending->World->Prop,(fun e w'=>e=.returned (.int .i64 (An ks k))/\Below w.heap.size w w')=P:=⟨_,rfl⟩;rw[hPO];have hF: ∀W,Below w.heap.size w W->PO (.returned (.int .i64 (An ks k))) W:=fun W hB=>by
  rw[<-hPO];exact⟨rfl,hB⟩
 clear hPO;have hl:=h.row_len;rw[A8,hk.len]at hl;subst hl;obtain⟨wi,hwi⟩: ∃wi,(w.alloc (.cells #[.slice a ks.length c] 108)).alloc (.cells #[.string k] 9)=wi:=⟨_,rfl⟩;have hbi:Below w.heap.size w wi:=hwi▸((Aa w (.cells #[.slice a ks.length c] 108)).alloc (by simp) _);have hx1:Aj wi w.heap.size 108 #[.slice a ks.length c]:=hwi▸(Aj.new _ _ _).alloc _;have hx2:Aj wi (w.heap.size+1) 9 #[.string k]:=by
  have:=Aj.new (w.alloc (.cells #[.slice a ks.length c] 108)) 9 #[.string k]
  rwa [World.size_alloc,hwi]at this
 have hS:=Tryz.sort_Search 165 #[.pointer (some ⟨w.heap.size,0,none⟩),.pointer (some ⟨w.heap.size+1,0,none⟩)] ks.length (fun i=>(ks[i]?.map fun n=>Dp k (A7 n)).getD false) wi (fun _ _=>by kernel_rfl) (by omega)
  (fun m os i hi=>by
    have hB:=Pv wi m os;refine(Wh ks bs k a ks.length c w.heap.size (w.heap.size+1) i w.heap.size hi hn (grow (wi.drewN m) os) (h.below (hbi.trans (hB.mono hbi.size))) (hk.below (hbi.trans (hB.mono hbi.size))) ((hB.cell (p:=⟨w.heap.size,0,none⟩) hx1.lt).trans (hx1.cell 0)) ((hB.cell (p:=⟨w.heap.size+1,0,none⟩) hx2.lt).trans (hx2.cell 0))).mono ?_;rintro e w' ⟨rfl,rfl⟩;exact⟨rfl,1, #[],by rw[grow_empty];rfl⟩)
  (fun x y h1 h2 h3=>Aks ha hne x y h1 h2 h3)
 rw[Ahe ha hne]at hS;have hle:ks.findIdx (fun n=>Dp k (A7 n))<=ks.length:=List.findIdx_le_length;have hW:An ks k=ks.findIdx (fun n=>Dp k (A7 n)) - 1:=rfl;rw[hW]at hF;generalize ks.findIdx (fun n=>Dp k (A7 n))=P at hS hF hle;have d1:=hx1.cell 0;have d2:=hx2.cell 0;have l1:=hx1.lt;have l2:=hx2.lt;have hwr:IntKind.i64.wrap ((P:Int) - 1)=(P:Int) - 1:=IntWalk.i64_in _ (by omega);have hmx:((P - 1:Nat):Int)=max ((P:Int) - 1) 0:=by omega
 rw[hmx]at hF;obtain⟨HS,Hbi,H,HF⟩:=hid4 hS hbi h hF;clear hS hbi h hF;clear hx1 hx2 hW hmx;go_enter Tryz.func101,Tryz.ntmps101;go_upto_region 1 with(fail);clear hwi;go_wp2_with (fail);(with_reducible refine(HS.out).mono ?_);rintro e w1 ⟨rfl,q,os,rfl⟩;have HB:=qz (Hbi.out.trans ((Pv wi q os).mono Hbi.out.size));go_wp2;exact HF.out _ HB.out
end Go.Proofs.YtkmcjfkokoidcaaGreatDoor
