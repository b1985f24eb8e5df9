/- Parts: slices.Insert of one entry, of one node, in a row of the call's own. Condition: at most 1000 in it. -/
import Derived.Test.YtkmcjfkokoidcaaGreatDoorKFa14
import Derived.Test.YtkmcjfkokoidcaaGreatDoorKFa16
import Derived.Test.YtkmcjfkokoidcaaGreatDoorKFa18
set_option maxHeartbeats 20000000
set_option maxRecDepth 100000
namespace Go.Proofs.YtkmcjfkokoidcaaGreatDoor
open Go Go.RowKit
theorem Abl {k:Nd} {r:List Nd} (h:Bi k≠ []):A7 (.inner (k::r))=A7 k:=by
 obtain⟨x,t,e⟩:=Ip h;unfold A7;simp only[Bi,Bg];rw[e];rfl
theorem Aew {ks:List Nd} {k:Nd} (h:Bi k≠ []):Ex (.inner (ks++ [k]))=Ex k:=by
 unfold Ex;simp only[Bi,Be,Jq];rw[List.getLast?_append,List.getLast?_eq_some_getLast h];rfl
theorem Kt (S:Nat->Prop) (w:World) (b:Nat):Ah S w (dPt b) [.pointer (some ⟨b,0,none⟩)]:=fun _ _ _=>⟨rfl,rfl⟩
theorem At.keepP {b:Nat} {t:TypeId} {s:Nat} {wr w':World} {l:List D} {V:Value} (h:At (fun _=>False) b t s wr l V) (hs:wr.heap.size<=w'.heap.size) (hk: ∀i,V.ownBlock=some i->i<wr.heap.size->w'.heap[i]? =wr.heap[i]?):At (fun _=>False) b t s w' l V:=by
 obtain⟨ns,h1,h2,h3⟩:=h;refine⟨ns,⟨h1.1, ?_⟩,h2,fun w'' k1 _=>Af.more (h3 w'' (by omega) (fun p p1 _=>p1.1.elim)) hs⟩;rcases h1.2 with⟨rfl,h0⟩|⟨g,cap,cur,rfl,hbg,hg,h5⟩
 . exact .inl ⟨rfl,h0⟩
 . exact .inr ⟨g,cap,cur,rfl,hbg,(hk g rfl (Array.getElem?_eq_some_iff.1 hg).1).trans hg,h5⟩
structure IL (w:World) (T:Nat) (ks:List Nd) (bs:List Nat) (q:Nat) (wr:World) (V:Value):Prop where
 below:Below w.heap.size w wr
 blk:Aj wr w.heap.size Vg #[.slice none 0 0,V,.int .i64 ((T:Int)+1),.int .i64 (Bg (ks.take q)).length,.string ⟨#[]⟩,.string ⟨#[]⟩,.bool false]
 row:At (fun _=>False) (w.heap.size+1) 24 1 wr (Bb (bs.take q)) V
theorem IL.drew {w:World} {T:Nat} {ks:List Nd} {bs:List Nat} {q:Nat} {wr:World} {V:Value} (h:IL w T ks bs q wr V):IL w T ks bs q wr.drew V:=
 ⟨h.below.trans ((Below.drew (Below.refl _ wr)).mono h.below.size),h.blk.drew,h.row.below (Below.drew (Below.refl _ _))⟩
def Ajg (S:Nat->Prop) (nd:Nd) (w:World) (e:Ending) (w':World):Prop:=Below w.heap.size w w'/\ ∃b,e=.returned (.tuple #[.pointer (some ⟨b,0,none⟩),.int .i64 0])/\Bm (fun i=>S i\/w.heap.size<=i) w' nd b
theorem Zi (S:Nat->Prop) (T:Nat) (ks:List Nd) (bs:List Nat) (a:Option Addr) (n c:Nat) (w:World) (h:Ag w w.heap.size (.row 1 (Bb bs)) [.slice a n c]) (hkS:As S w ks bs) (ha:Ay (Bg ks)) (hok: ∀k ∈ ks,Co 4 T k)
 (h2:2<=ks.length) (h8:ks.length<=8) (hH:T<=1000000) (hN:(Bg ks).length<=1000000000):Calls Tryz.prog 104 #[.slice a n c] w (Ajg S (.inner ks) w):=by
 have hk:=hkS.now;have hn:=h.row_len;rw[A8,hk.len]at hn;subst hn;have hbl:=hk.len;have hne: ∀k ∈ ks,Bi k≠ []:=fun k hkk=>K9 (by omega) (hok k hkk);obtain⟨j0,hj,hy0,hy1,hy2⟩:=info_parts Qg;obtain⟨PO,hPO⟩: ∃P:Ending->World->Prop,Ajg S (.inner ks) w=P:=⟨_,rfl⟩;rw[hPO];have y2:(2:Int)<=ks.length:=by omega
 have y8:(ks.length:Int)<=8:=by omega
 have yp:(0:Int)<ks.length:=by omega
 obtain⟨k0,r0,e0⟩: ∃k r,ks=k::r:=by
  match ks,h2 with
  |x::r,_=>exact⟨x,r,rfl⟩
 have hk0:ks[0]? =some k0:=by rw[e0];rfl
 have hm0:k0 ∈ ks:=by rw[e0];simp
 have hF1:A7 (.inner ks)=A7 k0:=by rw[e0];exact Abl (hne k0 hm0)
 have hH0:Ms k0=T:=Mc (.inl (by omega)) (hok k0 hm0);have hHI:(Ms (.inner ks):Int)=(T:Int)+1:=by rw[e0];simp[Ms,htL,hH0]
 obtain⟨b0,hb0,n0⟩:=hk.at_ hk0;obtain⟨kl,hkl⟩: ∃p,ks[ks.length - 1]? =some p:=⟨_,List.getElem?_eq_getElem (by omega)⟩;have hml:=List.mem_of_getElem? hkl;have hF2:Ex (.inner ks)=Ex kl:=by
  have e:ks=ks.dropLast++ [kl]:=by
   have h3:=List.getLast?_eq_some_iff.1 ((List.getLast?_eq_getElem?).trans hkl);obtain⟨ys,e3⟩:=h3;rw[e3];simp
  rw[e];exact Aew (hne kl hml)
 obtain⟨bl,hbl',nl⟩:=hk.at_ hkl;obtain⟨g,off,rfl,hg,r0'⟩:=Ka h hb0;obtain⟨g',off',e',_,rl⟩:=Ka h hbl'
 cases e'
 rw[Nat.add_zero]at r0';have hHt:=Cx n0;rw[hH0]at hHt;have hw1:IntKind.i64.wrap ((T:Int)+1)=(T:Int)+1:=IntWalk.i64_in _ (by omega);have HR:=qz (fun(W:World) (hB:Below w.heap.size w W)=>Uo ks bs (some ⟨g,off,none⟩) ks.length c W ((h.below hB).more hB.size) ((hk.below hB).more hB.size) ha hne (by omega));have hI0:IL w T ks bs 0 (w.alloc (.cells #[.slice none 0 0,.slice none 0 0,.int .i64 ((T:Int)+1),.int .i64 0,.string ⟨#[]⟩,.string ⟨#[]⟩,.bool false] Vg)) (.slice none 0 0):=
  ⟨Aa _ _,by simpa[Bg]using Aj.new w Vg #[.slice none 0 0,.slice none 0 0,.int .i64 ((T:Int)+1),.int .i64 0,.string ⟨#[]⟩,.string ⟨#[]⟩,.bool false],by simpa[Bb]using At.nil _ _ _ _ _⟩
 obtain⟨H,Hk,HkS,HHt,HI0,Hj,Hy0,Hy1,Hy2,HPO,N0,Nl,Rl,HF1,HF2,HHI⟩:=hid16 h hk hkS hHt hI0 hj hy0 hy1 hy2 hPO n0 nl rl hF1 hF2 hHI;have Hbl:=qz hbl;clear h hk hkS hHt hI0 hj hy0 hy1 hy2 hPO n0 nl rl hF1 hF2 hHI hbl;have Rh:=qz r0';clear hk0 hkl hbl' hb0 e0 hH0;go_enter Tryz.func104,Tryz.ntmps104;go_wp2_with (fail);(with_reducible refine(HHt.out).mono ?_);rintro e w1 ⟨rfl,rfl⟩;go_wp2_with (fail);go_loopw [24] (fun i wr=> ∃q:Nat,i=.int .i64 q/\q<=ks.length/\ ∃V,Hid (IL w T ks bs q wr V)) (fun i _=>ks.length - (intOf i).toNat)
 case atStart=>exact⟨0,rfl,Nat.zero_le _,_,HI0⟩
 case round=>
  obtain⟨q,rfl,hq,V,hI⟩:=hrel;clear HI0;by_cases hlt:q<ks.length
  . obtain⟨k,hk1⟩: ∃p,ks[q]? =some p:=⟨_,List.getElem?_eq_getElem hlt⟩;have hmk:=List.mem_of_getElem? hk1;obtain⟨b1,hb1,n1⟩:=Hk.out.at_ hk1;obtain⟨g',off',e,_,r1⟩:=Ka H.out hb1
    cases e
    have hz:=hI.out.below.size;have hbw:=hI.out.below;have n1w:=n1.below hbw;have HCn:=qz (G4 n1w);have hSo:=fun(W:World) (hB:Below w.heap.size w W)=>Zk (n1.below hB) (by have:=(Gg (hok k hmk)).2;omega);rw[show decide (4<=Bh k)=true from decide_eq_true (Gg (hok k hmk)).1]at hSo;have hHk:Ms k=T:=Mc (.inl (by omega)) (hok k hmk);have hnz:((Bi k).length:Int)≠0:=by
     have:=List.length_pos_iff.2 (hne k hmk);omega
    have hnz2:(((Bi k).length:Int)==0)=false:=beq_eq_false_iff_ne.2 hnz;have htk:Bg (ks.take (q+1))=Bg (ks.take q)++Bi k:=by rw[List.take_add_one,hk1,Option.toList_some,Be,Jq]
    have htb:Bb (bs.take (q+1))=Bb (bs.take q)++ [dPt b1]:=by unfold Bb;rw[List.take_add_one,hb1];simp
    have hle:(Bg (ks.take q)).length+(Bi k).length<=1000000000:=by
     have e5:Bg ks=Bg (ks.take (q+1))++Bg (ks.drop (q+1)):=by rw[<-Be,List.take_append_drop]
     rw[e5,htk]at hN;simp only[List.length_append]at hN;omega
    have c0:=(hbw.cell (p:=⟨g,off+q,none⟩) hg).trans r1;obtain⟨ea,en,ec,ka,kn,kc,hx1,_⟩:=n1.blk;rw[hHk]at hx1;have hlx:=hI.out.blk.lt;have hS: ∀W,Below w.heap.size w W->W.cell? ⟨b1,2,none⟩=some (.int .i64 T)/\W.cell? ⟨b1,3,none⟩=some (.int .i64 (Bi k).length):=fun W hB=>
     have:=hx1.below hB n1.lt
     ⟨this.cell 2,this.cell 3⟩
    have hq1:(q:Int)<(ks.length:Int):=by omega
    have hq0:(0:Int)<=q:=by omega
    have d2:=hI.out.blk.cell 2;obtain⟨HSo,Htk,Htb,HS,Hbw,N1,Hx1⟩:=hid7 hSo htk htb hS hbw n1 hx1;clear hSo htk htb hS hbw n1 hx1;clear hmk hk1 hb1 r1 n1w hHk;go_upto_region 7 with(fail);refine wp_region_held_drew (S:=fun Y:World=>Y.cell? ⟨b1,2,none⟩=some (.int .i64 T)/\Y.cell? ⟨w.heap.size,2,none⟩=some (.int .i64 ((T:Int)+1))) (by kernel_rfl) ⟨(HS.out _ (Hbw.out.trans ((Below.drew (Below.refl _ wr)).mono hz))).1,d2⟩ (fun hHeld=> ?_);have hId:=qz hI.out.drew;have hCd:=qz (fun(_:Unit)=>G4 (N1.out.below hId.out.below));clear hI HCn d2;generalize wr.drew=wd at hId hCd hHeld ⊢;refine tkH 0 hHeld ?_;refine Ee 1 fun K hK=> ?_;go_simp;(with_reducible refine(hCd.out ()).mono ?_);rintro e w1 ⟨rfl,rfl⟩;refine hK.out _ _ hHeld (fun hHeld=> ?_);clear hK K hCd
    try simp only[Act.put,tk1,tk2,tk3,tk4,tk5,tk6]
    refine tkH 2 hHeld ?_;refine tkH 3 hHeld ?_;refine tkH 4 hHeld ?_;refine tkH 5 hHeld ?_;refine tkH 6 hHeld ?_;refine tkH 7 hHeld ?_;refine tkH 8 hHeld ?_;refine tkH 9 hHeld ?_;refine tkH 10 hHeld ?_;refine tkH 11 hHeld ?_;refine tkH 12 hHeld ?_;refine tkH 13 hHeld ?_;refine tkH 14 hHeld ?_;refine wpAnyH_done (by kernel_rfl) ?_ _;clear hHeld;go_upto_region 9 with(fail);obtain⟨aV,cV,rfl⟩:=hId.out.row.slice;have hdl:(Bb (bs.take q)).length=q:=by rw[A8,List.length_take,Hbl.out];omega
    have Hrow6:=qz (hId.out.row.below (Aa wd (.cells #[.pointer (some ⟨b1,0,none⟩)] 24)));have Hrd6:=qz (F2 (Aj.new wd 24 #[.pointer (some ⟨b1,0,none⟩)]));have hLo6:(Bb (bs.take q)).length+1<=maxLen/\((Bb (bs.take q)).length+1)*8<=140737488355328/\w.heap.size+1<=(wd.alloc (.cells #[.pointer (some ⟨b1,0,none⟩)] 24)).heap.size:=by
     rw[hdl];have:=hId.out.blk.lt;exact⟨by simp only[maxLen];omega,by omega,by simp;omega⟩
    have Hx0:=qz (hId.out.blk.alloc (.cells #[.pointer (some ⟨b1,0,none⟩)] 24));have Hb0:=qz (hId.out.below.alloc hId.out.below.size (.cells #[.pointer (some ⟨b1,0,none⟩)] 24));have d1:=hId.out.blk.cell 1;obtain⟨HLo6,Hdl⟩:=hid2 hLo6 hdl;clear hLo6 hdl;clear hId;go_wp2_with (at_builtin;apply Shut.out);unfold Shut;refine Jn rfl (.tmp 47) (.tmp 49) 108 rfl Tryz.underlying108 Hj.out Hy0.out Hy1.out Hy2.out rfl (by omega) rfl Hrow6.out HLo6.out.2.2 rfl (Kt _ _ b1) rfl Hrd6.out HLo6.out.1 HLo6.out.2.1 ?_;intro V6 w6 hr6 hg6 hat6;rw[<-Htb.out]at hr6;obtain⟨a6,c6,rfl⟩:=hr6.slice;have hx6:=Hx0.out.grown hg6 (fun e=>by have:=(Hrow6.out.base w.heap.size e.symm).1;omega);have hb6:=Hb0.out.grown hg6 Hb0.out.size (fun k hk=>by have:=(Hrow6.out.base k hk).1;omega);have d1:=hx6.cell 1;have fz:=hx6.frozen;have lx:=hx6.lt;have Hr7:=qz (hr6.keepP (w':=w6.setCell ⟨w.heap.size,1,none⟩ (.slice a6 (Bb (bs.take (q+1))).length c6)) (by simp[World.setCell]) (fun i e _=>Below.heap_setCell _ _ _ _ (by have:=(hr6.base i e).1;simp;omega)));have Hx7:=qz (hx6.set_ 1 (.slice a6 (Bb (bs.take (q+1))).length c6));have Hb7:=qz (hb6.setCell (p:=⟨w.heap.size,1,none⟩) (Nat.le_refl _) (.slice a6 (Bb (bs.take (q+1))).length c6));clear hr6 hx6 hb6 hg6 hat6 Hrow6 Hrd6 HLo6 Hx0 Hb0;go_upto_region 10 with(fail);have e9:World.setCell w6 ⟨w.heap.size,1,none⟩ (.slice a6 (Bb (bs.take (q+1))).length c6)=World.setCell w6 ⟨w.heap.size,1,none⟩ (.slice a6 (Bb (bs.take (q+1))).length c6):=rfl;generalize World.setCell w6 ⟨w.heap.size,1,none⟩ (.slice a6 (Bb (bs.take (q+1))).length c6)=w7 at Hx7 Hb7 Hr7 ⊢;clear e9 d1 fz lx;have hsb:=HS.out _ Hb7.out;have p3:=hsb.2;have d3:=Hx7.out.cell 3;have fz:=Hx7.out.frozen;have lx:=Hx7.out.lt;have lb:b1<w7.heap.size:=by have:=N1.out.lt;have:=Hb7.out.size;omega
    have hwr:IntKind.i64.wrap (((Bg (ks.take q)).length:Int)+((Bi k).length:Int))=((Bg (ks.take q)).length:Int)+((Bi k).length:Int):=IntWalk.i64_in _ (by omega);clear hsb
    go_region_law (fail)
    all_goals
     have hx8:=(Hx7.out.set_ 3 (.int .i64 (((Bg (ks.take q)).length:Int)+((Bi k).length:Int)))).drew;have hb8:=Hb7.out.setCell (p:=⟨w.heap.size,3,none⟩) (Nat.le_refl _) (.int .i64 (((Bg (ks.take q)).length:Int)+((Bi k).length:Int)));have hb8d:=hb8.trans ((Below.drew (Below.refl _ _)).mono hb8.size);have hr8:=(Hr7.out.keepP (w':=w7.setCell ⟨w.heap.size,3,none⟩ (.int .i64 (((Bg (ks.take q)).length:Int)+((Bi k).length:Int)))) (by simp[World.setCell]) (fun i e _=>Below.heap_setCell _ _ _ _ (by have:=(Hr7.out.base i e).1;simp;omega))).below (Below.drew (Below.refl _ _));generalize (w7.setCell ⟨w.heap.size,3,none⟩ (.int .i64 (((Bg (ks.take q)).length:Int)+((Bi k).length:Int)))).drew=w8 at hx8 hb8d hr8 ⊢;clear hb8 d3 p3 fz lx lb Hx7 Hb7 Hr7;have d6:=hx8.cell 6;have fz:=hx8.frozen;have lx:=hx8.lt;have HSw:=qz (HSo.out w8 hb8d);obtain⟨Hx8,Hb8d,Hr8⟩:=hid3 hx8 hb8d hr8;clear hx8 hb8d hr8;go_wp2_with (fail);(with_reducible refine(HSw.out).mono ?_);rintro e w9 ⟨rfl,hb9⟩;have hx9:=Hx8.out.below hb9 lx;have hbw9:=Hb8d.out.trans (hb9.mono Hb8d.out.size);have hr9:=Hr8.out.below hb9;clear d6 fz lx hb9 HSw Hx8 Hb8d Hr8;have d6:=hx9.cell 6;have fz:=hx9.frozen;have lx:=hx9.lt;have HN:Hid (IL w T ks bs (q+1) (w9.setCell ⟨w.heap.size,6,none⟩ (.bool false)) (.slice a6 (Bb (bs.take (q+1))).length c6)):=
      ⟨hbw9.setCell (p:=⟨w.heap.size,6,none⟩) (Nat.le_refl _) _,by
        rw[show((Bg (ks.take (q+1))).length:Int)=((Bg (ks.take q)).length:Int)+((Bi k).length:Int)from by rw[Htk.out,List.length_append];omega];exact hx9.set_ 6 (.bool false),hr9.keepP (by simp[World.setCell]) (fun i e _=>Below.heap_setCell _ _ _ _ (by have:=(hr9.base i e).1;simp;omega))⟩
     clear hx9 hbw9 hr9;go_wp2;go_roundw
     case rel=>exact⟨q+1,by go_num,by omega,_,HN⟩
     case measure=>simp only[intOf];omega
  . obtain rfl:q=ks.length:=by omega
    obtain⟨i1,i2,i3⟩:=hI.out;rw[List.take_length]at i2;rw[show bs.take ks.length=bs from by rw[<-Hbl.out,List.take_length]]at i3;obtain⟨aV,cV,rfl⟩:=i3.slice_n (n:=ks.length) (by rw[A8,Hbl.out]);have hRw:=HR.out wr i1;obtain⟨_,_,_,_,_,_,hq0,_⟩:=N0.out.blk;obtain⟨_,_,_,_,_,_,hql,_⟩:=Nl.out.blk;have r0c:=hI.out.below;have hfin: ∀W,Below w.heap.size w W->At (fun _=>False) (w.heap.size+1) 24 1 W (Bb bs) (.slice aV ks.length cV)->Aj W w.heap.size Vg #[.slice none 0 0,.slice aV ks.length cV,.int .i64 ((T:Int)+1),.int .i64 (Bg ks).length,.string (A7 k0),.string (Ex kl),.bool false]->PO (.returned (.tuple #[.pointer (some ⟨w.heap.size,0,none⟩),.int .i64 0])) W:=fun W hB hr hx=>by
     rw[<-HPO.out];have hrb:=hr.base;refine⟨hB,_,rfl, ?_⟩;simp only[Bm,HF1.out,HF2.out,HHI.out];refine⟨.inr (Nat.le_refl _),hx.lt,bs,aV,cV,hr.closeIn.mono fun i _ p1=> .inr ?_,hx,(HkS.out.below hB).mono fun i _ hi=> .inl hi⟩;rcases p1 with p1|p1
     . exact p1.elim
     . have:=(hrb _ p1).1;omega
    have hS: ∀W,Below w.heap.size w W->W.cell? ⟨g,off,none⟩=some (.pointer (some ⟨b0,0,none⟩))/\W.cell? ⟨g,off+(ks.length - 1),none⟩=some (.pointer (some ⟨bl,0,none⟩))/\W.cell? ⟨b0,4,none⟩=some (.string (A7 k0))/\W.cell? ⟨bl,5,none⟩=some (.string (Ex kl)):=fun W hB=>
     ⟨(hB.cell (p:=⟨g,off,none⟩) hg).trans Rh.out,(hB.cell (p:=⟨g,off+(ks.length - 1),none⟩) hg).trans Rl.out,(hq0.below hB N0.out.lt).cell 4,(hql.below hB Nl.out.lt).cell 5⟩
    have z1:IntKind.i64.wrap ((ks.length:Int) - 1)=(ks.length:Int) - 1:=IntWalk.i64_in _ (by omega);have z2:((ks.length:Int) - 1).toNat=ks.length - 1:=by omega
    have z3:(0:Int)<=(ks.length:Int) - 1:=by omega
    have z5:(ks.length:Int) - 1<(ks.length:Int):=by omega
    have z6:(1:Int)<=(ks.length:Int):=by omega
    have z7:0<ks.length:=by omega
    have z8:ks.length - 1<ks.length:=by omega
    obtain⟨I1,I2,I3,HRw,Hfin,HS⟩:=hid6 i1 i2 i3 hRw hfin hS;clear i1 i2 i3 hRw hfin hS;clear hI hq0 hql r0c;go_wp2_with (fail);(with_reducible refine(HRw.out).mono ?_);rintro e w1 ⟨rfl,hb1⟩;have Hx1:=qz ((I2.out.below hb1 I2.out.lt).drew);have Hw1':=qz ((I1.out.trans (hb1.mono I1.out.size)).trans ((Below.drew (Below.refl _ w1)).mono (I1.out.trans (hb1.mono I1.out.size)).size));have Hr1:=qz ((I3.out.below hb1).below (Below.drew (Below.refl _ _)));clear hb1 I1 I2 I3 HRw HR Hk H HHt;go_upto_region 15 with(fail);generalize A7 k0=s1 at Hfin HS;generalize Ex kl=s2 at Hfin HS;refine wp_region_held_drew (S:=fun Y:World=>Y.cell? ⟨g,off,none⟩=some (.pointer (some ⟨b0,0,none⟩))/\Y.cell? ⟨g,off+(ks.length - 1),none⟩=some (.pointer (some ⟨bl,0,none⟩))/\Y.cell? ⟨b0,4,none⟩=some (.string s1)/\Y.cell? ⟨bl,5,none⟩=some (.string s2)) (by kernel_rfl) (HS.out _ Hw1'.out) (fun hHeld=> ?_);generalize w1.drew=wd at Hx1 Hw1' Hr1 hHeld ⊢;refine tkH 0 hHeld ?_;refine tkH 1 hHeld ?_;refine tkH 2 hHeld ?_;refine tkH 3 hHeld ?_;refine tkH 4 hHeld ?_;refine tkH 5 hHeld ?_;refine tkH 6 hHeld ?_;refine tkH 7 hHeld ?_;refine tkH 8 hHeld ?_;refine tkH 9 hHeld ?_;refine tkH 10 hHeld ?_;refine tkH 11 hHeld ?_;refine tkH 12 hHeld ?_;refine tkH 13 hHeld ?_;refine tkH 14 hHeld ?_;refine tkH 15 hHeld ?_;refine tkH 16 hHeld ?_;refine tkH 17 hHeld ?_;refine tkH 18 hHeld ?_;have x4:=Hx1.out.cell 4;have x5:=Hx1.out.cell 5;have fz:=Hx1.out.frozen;have lx:=Hx1.out.lt;refine Ee 19 fun K hK=> ?_;go_simp;have hx2:=Hx1.out.set_ 4 (.string s1);have hb2:=Hw1'.out.setCell (p:=⟨w.heap.size,4,none⟩) (Nat.le_refl _) (.string s1);have Hr2:=qz (Hr1.out.keepP (w':=wd.setCell ⟨w.heap.size,4,none⟩ (.string s1)) (by simp[World.setCell]) (fun i e _=>Below.heap_setCell _ _ _ _ (by have:=(Hr1.out.base i e).1;simp;omega)));refine hK.out _ _ (HS.out _ hb2) (fun hHeld=> ?_);clear hK K x4 x5 fz lx;have x5:=hx2.cell 5;have fz:=hx2.frozen;have lx:=hx2.lt;have Hx2:=qz hx2;clear hx2
    try simp only[Act.put,tk1,tk2,tk3,tk4,tk5,tk6]
    refine tkH 20 hHeld ?_;refine tkH 21 hHeld ?_;refine Ee 22 fun K hK=> ?_;go_simp;have hb3:=hb2.setCell (p:=⟨w.heap.size,5,none⟩) (Nat.le_refl _) (.string s2);have HP:=qz (Hfin.out _ hb3 (Hr2.out.keepP (w':=(wd.setCell ⟨w.heap.size,4,none⟩ (.string s1)).setCell ⟨w.heap.size,5,none⟩ (.string s2)) (by simp[World.setCell]) (fun i e _=>Below.heap_setCell _ _ _ _ (by have:=(Hr2.out.base i e).1;simp;omega))) (Hx2.out.set_ 5 (.string s2)));refine hK.out _ _ (HS.out _ hb3) (fun hHeld=> ?_);clear hK K x5 fz lx hb2 hb3
    try simp only[Act.put,tk1,tk2,tk3,tk4,tk5,tk6]
    refine wpAnyH_done (by kernel_rfl) ?_ _;clear hHeld HS;go_wp2;exact HP.out
theorem Tn {w w':World} {B B':Nat}: ∀{bs:List Nat} {ns:List Value},Af w B (Bb bs) ns->Af w' B' (Bb bs) ns
 | [],_,h=>h
 |b::r,_,h=>by
  obtain⟨c1,c2,rfl,h1,h2⟩:=h;exact⟨c1,c2,rfl,h1,Tn h2⟩
theorem At.empty {S0:Nat->Prop} {b s:Nat} {t:TypeId} {w:World} (hb:b<=w.heap.size):At S0 b t s (w.alloc (.cells #[] t)) [] (.slice (some ⟨w.heap.size,0,none⟩) 0 0):=
 ⟨[],⟨by simp,.inr ⟨w.heap.size,0, #[],rfl,hb,heap_alloc_new w _,Nat.le_refl _,by unfold maxLen;omega,by simp,by simp⟩⟩,fun x hx=>(by cases hx),fun _ _ _=>rfl⟩
def Pm (bs:List Nat) (w:World) (e:Ending) (w':World):Prop:=Below w.heap.size w w'/\ ∃V,e=.returned V/\At (fun _=>False) w.heap.size 24 1 w' (Bb bs) V
theorem Zh (bs:List Nat) (a:Option Addr) (n c:Nat) (w:World) (h:Ag w w.heap.size (.row 1 (Bb bs)) [.slice a n c]) (h0:0<bs.length) (h8:bs.length<=1000):
 Calls Tryz.prog 157 #[.slice a n c] w (Pm bs w):=by
 have hn:=h.row_len;rw[A8]at hn;subst hn;obtain⟨j0,hj,hy0,hy1,hy2⟩:=info_parts Qg;obtain⟨g,off,rfl,hg,_⟩:=Ka h (q:=0) (b:=bs[0]) (List.getElem?_eq_getElem h0);obtain⟨ns,hr,hA,_⟩:=h.reads;have hb1:=Aa w (.cells #[] 24);have HR:=qz (hr.below hb1);have HX:Hid (Aw (fun i=>False/\(Value.slice (some ⟨w.heap.size,0,none⟩) 0 0).ownBlock≠some i) (w.alloc (.cells #[] 24)) (Bb bs) ns):=fun w'' _ _=>Tn hA;have hrow:=At.empty (S0:=fun _=>False) (b:=w.heap.size) (s:=1) (t:=24) (w:=w) (Nat.le_refl _);have hLo:([]:List D).length+bs.length<=maxLen/\(([]:List D).length+bs.length)*8<=140737488355328:=by
  simp only[List.length_nil,maxLen];omega
 have Hdl:=qz ((A8 bs).symm);have hnil:=fun(W:World)=>Lib.run_eql_slice_nil (P:=Tryz.prog) W 108 24 (some ⟨g,off,none⟩) bs.length c 0 0 Tryz.underlying108;obtain⟨Hj,Hy0,Hy1,Hy2,Hrow,HLo,Hb1⟩:=hid7 hj hy0 hy1 hy2 hrow hLo hb1;clear hj hy0 hy1 hy2 hrow hLo hb1;clear h hr hA;go_enter Tryz.func157,Tryz.ntmps157;go_wp2_with (at_builtin;apply Shut.out);unfold Shut;refine C4 rfl (.tmp 5) (.tmp 6) 108 rfl Tryz.underlying108 Hj.out Hy0.out Hy1.out Hy2.out rfl (by omega) rfl Hrow.out (by simp) (O3 _) HX.out rfl HR.out Hdl.out HLo.out.1 HLo.out.2 ?_;intro V6 w6 hrow6 hg6 hat6;have HP:Hid (Pm bs w (.returned V6) w6):=⟨Hb1.out.grown hg6 (by simp) (fun k hk=>by cases hk;exact Nat.le_refl _),V6,rfl,by simpa using hrow6⟩;clear hrow6 hg6 hat6;go_wp2;go_ret;exact HP.out
theorem Fr {S:Nat->Prop} {ks:List Nd} {b:Nat} {w:World} (h:Bm S w (.inner ks) b) (h0:0<ks.length) (h8:ks.length<=1000):
 Calls Tryz.prog 93 #[.pointer (some ⟨b,0,none⟩)] w fun e w'=> ∃bs,As S w ks bs/\Pm bs w e w':=by
 simp only[Bm]at h;obtain⟨_,hb,bs,a,c,hh,hx,hk⟩:=h;have hbl:=hk.now.len;have HC:=qz (Zh bs a ks.length c w hh.now (by omega) (by omega));have c1:=hx.cell 1;have lx:=hx.lt;obtain⟨PO,hPO⟩: ∃P:Ending->World->Prop,(fun e w'=> ∃bs,As S w ks bs/\Pm bs w e w')=P:=⟨_,rfl⟩;rw[hPO];obtain⟨Hk,HPO⟩:=hid2 hk hPO;clear hk hPO;clear hh hx;go_enter Tryz.func93,Tryz.ntmps93;go_wp2_with (fail);(with_reducible refine(HC.out).mono ?_);intro e w1 hP;obtain⟨_,V,rfl,_⟩:=id hP;have HP:Hid (PO (.returned V) w1):=by
  show PO _ _;rw[<-HPO.out];exact⟨bs,Hk.out,hP⟩
 clear hP;go_wp2;exact HP.out
theorem Je {es:List A5} {b:Nat} {w:World} (h:Cd w w.heap.size (.leaf es) b) (h0:0<es.length) (hb:Ab es<=100000000):
 Calls Tryz.prog 92 #[.pointer (some ⟨b,0,none⟩)] w (Pl es w):=by
 simp only[Cd]at h;obtain⟨_,a,c,hh,hx⟩:=h;have hC:=Oo es a es.length c w hh hb;have c1:=hx.cell 0;have lx:=hx.lt;have hz:((es.length:Int)==0)=false:=beq_eq_false_iff_ne.2 (by omega);obtain⟨PO,hPO⟩: ∃P:Ending->World->Prop,Pl es w=P:=⟨_,rfl⟩;rw[hPO]at hC ⊢;obtain⟨HC,HPO⟩:=hid2 hC hPO;clear hC hPO;clear hh hx;go_enter Tryz.func92,Tryz.ntmps92;go_wp2_with (fail);(with_reducible refine(HC.out).mono ?_);intro e w1 hP;rw[<-HPO.out]at hP;obtain⟨_,g,rfl,_⟩:=id hP;rw[HPO.out]at hP;have HP:=qz hP;clear hP;go_wp2;exact HP.out
def NP (S:Nat->Prop) (nd:Nd) (w:World) (e:Ending) (w':World):Prop:=Below w.heap.size w w'/\ ∃b,e=.returned (.pointer (some ⟨b,0,none⟩))/\Bm (fun i=>S i\/w.heap.size<=i) w' nd b
def Pp (S:Nat->Prop) (w:World):Option Nd->Option Addr->Prop
 |none,p=>p=none
 |some n,p=> ∃b,p=some ⟨b,0,none⟩/\Bm S w n b
theorem Pp.below {S:Nat->Prop} {w w':World} {t:Option Nd} {p:Option Addr} (h:Pp S w t p) (hb:Below w.heap.size w w'):Pp S w' t p:=by
 cases t with
 |none=>exact h
 |some t=>
  obtain⟨b,e,h1⟩:=h;exact⟨b,e,h1.below hb⟩
theorem Pp.mono {S T:Nat->Prop} {w:World} {t:Option Nd} {p:Option Addr} (h:Pp S w t p) (hST: ∀i,i<w.heap.size->S i->T i):Pp T w t p:=by
 cases t with
 |none=>exact h
 |some t=>
  obtain⟨b,e,h1⟩:=h;exact⟨b,e,h1.mono hST⟩
theorem Fq {S:Nat->Prop} {w w1:World} {N:Nat} (h:w.heap.size<=w1.heap.size): ∀(i:Nat),i<N->(S i\/w1.heap.size<=i)->(S i\/w.heap.size<=i):=fun _ _ hi=>hi.imp id fun h1=>Nat.le_trans h h1
def SP (S:Nat->Prop) (r:Nd×Option Nd) (w:World) (e:Ending) (w':World):Prop:=Below w.heap.size w w'/\ ∃b q,e=.returned (.tuple #[.pointer (some ⟨b,0,none⟩),.pointer q])/\Bm (fun i=>S i\/w.heap.size<=i) w' r.1 b/\Pp (fun i=>S i\/w.heap.size<=i) w' r.2 q
theorem Ef (S:Nat->Prop) (es:List A5) (a:Option Addr) (n c:Nat) (w:World) (h:Ag w w.heap.size (.row 7 (dO es)) [.slice a n c]) (ha:Ay es) (h8:es.length<=8) (hb:Ab es<=100000000):Calls Tryz.prog 100 #[.slice a n c] w (NP S (.leaf es) w):=by
 have HC:=qz (Ace es a n c w h ha h8 hb);obtain⟨PO,hPO⟩: ∃P:Ending->World->Prop,NP S (.leaf es) w=P:=⟨_,rfl⟩;rw[hPO];have HPO:=qz hPO;clear hPO;clear h;go_enter Tryz.func100,Tryz.ntmps100;go_wp2_with (fail);(with_reducible refine(HC.out).mono ?_);rintro e w1 ⟨hb1,b,rfl,hN⟩;have HP:Hid (PO (.returned (.pointer (some ⟨b,0,none⟩))) w1):=by
  show PO _ _;rw[<-HPO.out];exact⟨hb1,b,rfl,hN.mono fun i _ hi=> .inr hi⟩
 clear hb1 hN;go_wp2;exact HP.out
theorem Df (S:Nat->Prop) (T:Nat) (ks:List Nd) (bs:List Nat) (a:Option Addr) (n c:Nat) (w:World) (h:Ag w w.heap.size (.row 1 (Bb bs)) [.slice a n c]) (hkS:As S w ks bs) (ha:Ay (Bg ks)) (hok: ∀k ∈ ks,Co 4 T k)
 (h1:1<=ks.length) (h8:ks.length<=8) (hH:T<=1000000) (hN:(Bg ks).length<=1000000000):Calls Tryz.prog 55 #[.slice a n c] w (NP S (Cu ks) w):=by
 have hk:=hkS.now;have hn:=h.row_len;rw[A8,hk.len]at hn;subst hn;obtain⟨PO,hPO⟩: ∃P:Ending->World->Prop,NP S (Cu ks) w=P:=⟨_,rfl⟩;rw[hPO];by_cases h2:2<=ks.length
 . have hC:=Zi S T ks bs a ks.length c w h hkS ha hok h2 h8 hH hN;have hz:((ks.length:Int)==1)=false:=beq_eq_false_iff_ne.2 (by omega);have hz2:(ks.length==1)=false:=beq_eq_false_iff_ne.2 (by omega);have hz3: ¬ks.length=1:=by omega
   have He:=qz (El h2);obtain⟨HC,HPO⟩:=hid2 hC hPO;clear hC hPO;clear h hk hkS;go_enter Tryz.func55,Tryz.ntmps55;go_wp2_with (fail);(with_reducible refine(HC.out).mono ?_);rintro e w1 ⟨hb1,b,rfl,hN⟩;have HP:Hid (PO (.returned (.pointer (some ⟨b,0,none⟩))) w1):=by
    show PO _ _;rw[<-HPO.out,He.out];exact⟨hb1,b,rfl,hN⟩
   clear hb1 hN;go_wp2;exact HP.out
 . obtain⟨k,rfl⟩: ∃k,ks= [k]:=by
    match ks,h1,h2 with
    | [k],_,_=>exact⟨k,rfl⟩
    |x::y::r,_,h2=>exact absurd (by simp) h2
   obtain⟨b,hb,hN⟩:=hkS.at_ (i:=0) (k:=k) rfl;obtain⟨g,off,rfl,hg,hc⟩:=Ka h hb;rw[Nat.add_zero]at hc;have HP:Hid (PO (.returned (.pointer (some ⟨b,0,none⟩))) w):=by
    show PO _ _;rw[<-hPO];exact⟨Below.refl _ _,b,rfl,hN.mono fun i _ hi=> .inl hi⟩
   clear h hk hkS hb hN hPO;go_enter Tryz.func55,Tryz.ntmps55;go_wp2;exact HP.out
theorem Eh: ∀(a b:List A5),Ab (a++b)=Ab a+Ab b
 | [],b=>by simp[Ab]
 |x::r,b=>by simp[Ab,Eh r b];omega
theorem Ij (l:List A5) (i:Nat):Ab (l.take i)<=Ab l/\Ab (l.drop i)<=Ab l:=by
 have:=Eh (l.take i) (l.drop i);rw[List.take_append_drop]at this;omega
theorem Ou (S:Nat->Prop) (es:List A5) (a:Option Addr) (n c:Nat) (w:World) (h:Ag w w.heap.size (.row 7 (dO es)) [.slice a n c]) (ha:Ay es) (h9:es.length<=9) (hcn:n<=c) (hb:Ab es<=100000000):
 Calls Tryz.prog 99 #[.slice a n c,.func (.func 100) #[] #[]] w (SP S (Hh es) w):=by
 have hn:=h.row_len;rw[Av]at hn;subst hn;obtain⟨PO,hPO⟩: ∃P:Ending->World->Prop,SP S (Hh es) w=P:=⟨_,rfl⟩;rw[hPO];by_cases h8:es.length<=8
 . have hC:=Ef S es a es.length c w h ha h8 hb;have y8:(es.length:Int)<=8:=by omega
   have He:=qz (show Hh es=(.leaf es,none)from by unfold Hh;rw[if_pos h8]);obtain⟨HC,HPO⟩:=hid2 hC hPO;clear hC hPO;clear h;go_enter Tryz.func99,Tryz.ntmps99;go_wp2_with (fail);(with_reducible refine(HC.out).mono ?_);rintro e w1 ⟨hb1,b,rfl,hN⟩;have HP:Hid (PO (.returned (.tuple #[.pointer (some ⟨b,0,none⟩),.pointer none])) w1):=by
    show PO _ _;rw[<-HPO.out,He.out];exact⟨hb1,b,none,rfl,hN,rfl⟩
   clear hb1 hN;go_wp2;exact HP.out
 . have h9':es.length=9:=by omega
   obtain⟨e0,he0⟩: ∃p,es[0]? =some p:=⟨_,List.getElem?_eq_getElem (by omega)⟩;obtain⟨g,off,rfl,hg,_⟩:=Et h he0;have hpw:=List.pairwise_append.1 (show Ay (es.take 4++es.drop 4)from by rw[List.take_append_drop];exact ha);have hd1:dO (es.take 4)=(dO es).take 4:=by rw[Bo,Bo,List.map_take]
   have hd2:dO (es.drop 4)=(dO es).drop 4:=by rw[Bo,Bo,List.map_drop]
   have hl1:Ag w w.heap.size (.row 7 (dO (es.take 4))) [.slice (some ⟨g,off,none⟩) 4 c]:=hd1▸h.cutL (i:=4) (by rw[Av];omega) c;have hl2:Ag w w.heap.size (.row 7 (dO (es.drop 4))) [.slice (some ⟨g,off+28,none⟩) 5 (c - 4)]:=hd2▸h.cutR (i:=4) (m:=5) (by rw[Av];omega) (c - 4);have HC1:=qz (fun(W:World) (hB:Below w.heap.size w W)=>Ef S (es.take 4) (some ⟨g,off,none⟩) 4 c W ((hl1.below hB).more hB.size) hpw.1 (by rw[List.length_take];omega) (Nat.le_trans (Ij es 4).1 hb));have HC2:=qz (fun(W:World) (hB:Below w.heap.size w W)=>Ef S (es.drop 4) (some ⟨g,off+28,none⟩) 5 (c - 4) W ((hl2.below hB).more hB.size) hpw.2.1 (by rw[List.length_drop];omega) (Nat.le_trans (Ij es 4).2 hb));have he:Hh es=(.leaf (es.take 4),some (.leaf (es.drop 4))):=by unfold Hh;rw[if_neg h8]
   rw[h9']at hcn ⊢;have z1:4<=c:=by omega
   have z2:(4:Int)<=(c:Int):=by omega
   have z3:(9:Int)<=(c:Int):=by omega
   have z4: ¬c=4:=by omega
   have hbd:=Below.drew (Below.refl w.heap.size w);obtain⟨HPO,He⟩:=hid2 hPO he;clear hPO he;clear h hl1 hl2 hd1 hd2 he0 hpw h9' h9 h8 ha;go_enter Tryz.func99,Tryz.ntmps99;go_upto_region 3 with(fail);refine wp_region_held_drew (S:=fun _=>True) (by kernel_rfl) trivial (fun hHeld=> ?_);generalize w.drew=wd at hbd ⊢;refine tkH 0 hHeld ?_;refine tkH 1 hHeld ?_;refine tkH 2 hHeld ?_;refine tkH 4 hHeld ?_;refine tkH 5 hHeld ?_;refine tkH 6 hHeld ?_;refine Ee 3 fun K hK=> ?_;go_simp;(with_reducible refine(HC1.out _ hbd).mono ?_);rintro e w1 ⟨hb1,b1,rfl,hN1⟩;have hw1:=hbd.trans (hb1.mono hbd.size);refine hK.out _ _ trivial (fun hHeld=> ?_);clear hK K hb1;have HN1:=qz hN1;clear hN1
   try simp only[Act.put,tk1,tk2,tk3,tk4,tk5,tk6]
   refine Ee 7 fun K hK=> ?_;go_simp;(with_reducible refine(HC2.out _ hw1).mono ?_);rintro e w2 ⟨hb2,b2,rfl,hN2⟩;have HP:Hid (PO (.returned (.tuple #[.pointer (some ⟨b1,0,none⟩),.pointer (some ⟨b2,0,none⟩)])) w2):=by
    show PO _ _;rw[<-HPO.out,He.out];exact⟨hw1.trans (hb2.mono hw1.size),b1,_,rfl,(HN1.out.below hb2).mono (Fq hbd.size),b2,rfl,hN2.mono (Fq hw1.size)⟩
   refine hK.out _ _ trivial (fun hHeld=> ?_);clear hK K hb2 hN2 HN1 hw1 hbd
   try simp only[Act.put,tk1,tk2,tk3,tk4,tk5,tk6]
   refine tkH 8 hHeld ?_;refine tkH 9 hHeld ?_;refine wpAnyH_done (by kernel_rfl) ?_ _;clear hHeld;go_wp2;exact HP.out
theorem Wf (S:Nat->Prop) (T:Nat) (ks:List Nd) (bs:List Nat) (a:Option Addr) (n c:Nat) (w:World) (h:Ag w w.heap.size (.row 1 (Bb bs)) [.slice a n c]) (hkS:As S w ks bs) (ha:Ay (Bg ks)) (hok: ∀k ∈ ks,Co 4 T k)
 (h1:1<=ks.length) (h9:ks.length<=9) (hcn:n<=c) (hH:T<=1000000) (hN:(Bg ks).length<=1000000000):
 Calls Tryz.prog 103 #[.slice a n c,.func (.func 55) #[] #[]] w (SP S (Hs ks) w):=by
 have hk:=hkS.now;have hn:=h.row_len;rw[A8,hk.len]at hn;subst hn;obtain⟨PO,hPO⟩: ∃P:Ending->World->Prop,SP S (Hs ks) w=P:=⟨_,rfl⟩;rw[hPO];by_cases h8:ks.length<=8
 . have hC:=Df S T ks bs a ks.length c w h hkS ha hok h1 h8 hH hN;have y8:(ks.length:Int)<=8:=by omega
   have He:=qz (show Hs ks=(Cu ks,none)from by unfold Hs;rw[if_pos h8]);obtain⟨HC,HPO⟩:=hid2 hC hPO;clear hC hPO;clear h hk hkS;go_enter Tryz.func103,Tryz.ntmps103;go_wp2_with (fail);(with_reducible refine(HC.out).mono ?_);rintro e w1 ⟨hb1,b,rfl,hN⟩;have HP:Hid (PO (.returned (.tuple #[.pointer (some ⟨b,0,none⟩),.pointer none])) w1):=by
    show PO _ _;rw[<-HPO.out,He.out];exact⟨hb1,b,none,rfl,hN,rfl⟩
   clear hb1 hN;go_wp2;exact HP.out
 . have h9':ks.length=9:=by omega
   have hbl:=hk.len;obtain⟨g,off,rfl,hg,_⟩:=Ka h (q:=0) (b:=bs[0]) (List.getElem?_eq_getElem (by omega));have hpw:=List.pairwise_append.1 (show Ay (Bg (ks.take 4)++Bg (ks.drop 4))from by rw[<-Be,List.take_append_drop];exact ha);have hlen:(Bg (ks.take 4)).length+(Bg (ks.drop 4)).length=(Bg ks).length:=by rw[<-List.length_append,<-Be,List.take_append_drop]
   have hd1:Bb (bs.take 4)=(Bb bs).take 4:=by unfold Bb;rw[List.map_take]
   have hd2:Bb (bs.drop 4)=(Bb bs).drop 4:=by unfold Bb;rw[List.map_drop]
   have hl1:Ag w w.heap.size (.row 1 (Bb (bs.take 4))) [.slice (some ⟨g,off,none⟩) 4 c]:=hd1▸h.cutL (i:=4) (by rw[A8];omega) c;have hl2:Ag w w.heap.size (.row 1 (Bb (bs.drop 4))) [.slice (some ⟨g,off+4,none⟩) 5 (c - 4)]:=hd2▸h.cutR (i:=4) (m:=5) (by rw[A8];omega) (c - 4);obtain⟨hk1,hk2⟩:=hkS.split 4;have HC1:=qz (fun(W:World) (hB:Below w.heap.size w W)=>Df S T (ks.take 4) (bs.take 4) (some ⟨g,off,none⟩) 4 c W ((hl1.below hB).more hB.size) (hk1.below hB) hpw.1 (fun k hk=>hok k (List.mem_of_mem_take hk)) (by rw[List.length_take];omega) (by rw[List.length_take];omega) hH (by omega));have HC2:=qz (fun(W:World) (hB:Below w.heap.size w W)=>Df S T (ks.drop 4) (bs.drop 4) (some ⟨g,off+4,none⟩) 5 (c - 4) W ((hl2.below hB).more hB.size) (hk2.below hB) hpw.2.1 (fun k hk=>hok k (List.mem_of_mem_drop hk)) (by rw[List.length_drop];omega) (by rw[List.length_drop];omega) hH (by omega));have he:Hs ks=(Cu (ks.take 4),some (Cu (ks.drop 4))):=by unfold Hs;rw[if_neg h8]
   rw[h9']at hcn ⊢;have z1:4<=c:=by omega
   have z2:(4:Int)<=(c:Int):=by omega
   have z3:(9:Int)<=(c:Int):=by omega
   have z4: ¬c=4:=by omega
   have hbd:=Below.drew (Below.refl w.heap.size w);obtain⟨HPO,He⟩:=hid2 hPO he;clear hPO he;clear h hl1 hl2 hd1 hd2 hpw ha hk hkS hk1 hk2 hlen;go_enter Tryz.func103,Tryz.ntmps103;go_upto_region 3 with(fail);refine wp_region_held_drew (S:=fun _=>True) (by kernel_rfl) trivial (fun hHeld=> ?_);generalize w.drew=wd at hbd ⊢;refine tkH 0 hHeld ?_;refine tkH 1 hHeld ?_;refine tkH 2 hHeld ?_;refine tkH 4 hHeld ?_;refine tkH 5 hHeld ?_;refine tkH 6 hHeld ?_;refine Ee 3 fun K hK=> ?_;go_simp;(with_reducible refine(HC1.out _ hbd).mono ?_);rintro e w1 ⟨hb1,b1,rfl,hN1⟩;have hw1:=hbd.trans (hb1.mono hbd.size);refine hK.out _ _ trivial (fun hHeld=> ?_);clear hK K hb1;have HN1:=qz hN1;clear hN1
   try simp only[Act.put,tk1,tk2,tk3,tk4,tk5,tk6]
   refine Ee 7 fun K hK=> ?_;go_simp;(with_reducible refine(HC2.out _ hw1).mono ?_);rintro e w2 ⟨hb2,b2,rfl,hN2⟩;have HP:Hid (PO (.returned (.tuple #[.pointer (some ⟨b1,0,none⟩),.pointer (some ⟨b2,0,none⟩)])) w2):=by
    show PO _ _;rw[<-HPO.out,He.out];exact⟨hw1.trans (hb2.mono hw1.size),b1,_,rfl,(HN1.out.below hb2).mono (Fq hbd.size),b2,rfl,hN2.mono (Fq hw1.size)⟩
   refine hK.out _ _ trivial (fun hHeld=> ?_);clear hK K hb2 hN2 HN1 hw1 hbd
   try simp only[Act.put,tk1,tk2,tk3,tk4,tk5,tk6]
   refine tkH 8 hHeld ?_;refine tkH 9 hHeld ?_;refine wpAnyH_done (by kernel_rfl) ?_ _;clear hHeld;go_wp2;exact HP.out
theorem Abx {S0:Nat->Prop} (b:Nat) (w:World) (g i vb:Nat) (es:List A5) (d:D) (ys:List Value) (hV:At S0 b 63 7 w (dO es) (.slice (some ⟨g,0,none⟩) es.length es.length)) (hb:b<=w.heap.size) (hi:i<=es.length) (hn:es.length<=1000)
 (hd:d.cells=7) (hx:Ah (fun i=>S0 i/\(Value.slice (some ⟨g,0,none⟩) es.length es.length).ownBlock≠some i) w d ys) (hvs: ∀j v,ys[j]? =some v->w.cell? ⟨vb,j,none⟩=some v):
 Calls Tryz.prog 98 #[.slice (some ⟨g,0,none⟩) es.length es.length,.int .i64 i,.slice (some ⟨vb,0,none⟩) 1 1] w fun e w'=> ∃V',e=.returned V'/\At S0 b 63 7 w' ((dO es).take i++ [d]++(dO es).drop i) V'/\w.grownBy w' (some g):=by
 obtain⟨ns,h1,h2,h3⟩:=hV;rw[Av]at h1;obtain⟨hyl,hy1⟩:=hx.now.len;rw[hd]at hyl;have hnl:ns.length=es.length*7:=by rw[h3.now.len.1,Fj h2,Av]
 have h1x:=h3.now.len.2;rcases Nat.lt_or_ge i es.length with hlt|hge
 . rcases h1.2 with⟨e,_⟩|⟨g',cap,cur,e,hbg,hg,hnc,hcm,hcs,hcx⟩
   . cases e
   . cases e
     refine(Ahz b w g es.length i cur ns hb hg hcs hcx hlt hn h1x vb ys hyl hvs hy1).mono ?_;rintro e w' ⟨V',rfl,k1,k2,k3⟩;exact⟨V',rfl,At.of_ins k1 h2 hd h3 hx (Jc k2) (.inr k3) (by rw[Av]),Jc k2⟩
 . obtain rfl:i=es.length:=by omega
   refine(Abw b w _ es.length ns h1 hb hn vb ys hyl hvs hy1).mono ?_;rintro e w' ⟨V',rfl,k1,k2,k3⟩;refine⟨V',rfl,At.of_ins (ns:=ns) (V:=.slice (some ⟨g,0,none⟩) es.length es.length) ?_ h2 hd h3 hx k2 k3 (by rw[Av]),k2⟩;rw[List.take_of_length_le (by omega),List.drop_eq_nil_of_le (by omega),List.append_nil];exact k1
theorem Aby (b:Nat) (w:World) (g cap i vb p:Nat) (bs:List Nat) (hV:At (fun _=>False) b 24 1 w (Bb bs) (.slice (some ⟨g,0,none⟩) bs.length cap)) (hb:b<=w.heap.size) (hi:i<=bs.length) (hn:bs.length<=1000)
 (hvb:Aj w vb 24 #[.pointer (some ⟨p,0,none⟩)]) (hne:vb≠g):
 Calls Tryz.prog 102 #[.slice (some ⟨g,0,none⟩) bs.length cap,.int .i64 i,.slice (some ⟨vb,0,none⟩) 1 1] w fun e w'=> ∃V',e=.returned V'/\At (fun _=>False) b 24 1 w' (Bb (bs.take i++ [p]++bs.drop i)) V'/\w.grownBy w' (some g):=by
 have hx:Ah (fun i=>False/\(Value.slice (some ⟨g,0,none⟩) bs.length cap).ownBlock≠some i) w (dPt p) [.pointer (some ⟨p,0,none⟩)]:=Kt _ _ _;obtain⟨hyl,hy1⟩:=hx.now.len;have hvs: ∀j v, [Value.pointer (some ⟨p,0,none⟩)][j]? =some v->w.cell? ⟨vb,j,none⟩=some v:=fun j v hj=>by
  have:=hvb.cell j;rw[this];simpa using hj
 obtain⟨ns,h1,h2,h3⟩:=hV;rw[A8]at h1;have hnl:ns.length=bs.length:=by rw[h3.now.len.1,Fj h2,A8,Nat.mul_one]
 have h1x:=h3.now.len.2;have hdp:Bb (bs.take i++ [p]++bs.drop i)=(Bb bs).take i++ [dPt p]++(Bb bs).drop i:=by
  unfold Bb;rw[List.map_append,List.map_append,List.map_take,List.map_drop];rfl
 rw[hdp];rcases Nat.lt_or_ge i bs.length with hlt|hge
 . rcases h1.2 with⟨e,_⟩|⟨g',cap',cur,e,hbg,hg,hnc,hcm,hcs,hcx⟩
   . cases e
   . cases e
     rcases Nat.lt_or_ge bs.length cap with hc|hc
     . refine(Ah1 b w g bs.length cap i cur ns hbg hg hcs hcx hlt (by omega) hcm hn h1x vb _ hvb hne (hy1 _ (by simp))).mono ?_;rintro e w' ⟨V',rfl,k1,k2,k3⟩;exact⟨V',rfl,At.of_ins (ns:=ns) (V:=.slice (some ⟨g,0,none⟩) bs.length cap) (by simpa using k1) h2 rfl h3 hx k2 (.inl k3) (by rw[A8]),k2⟩
     . obtain rfl:cap=bs.length:=by omega
       refine(Ah0 b w g bs.length i cur ns hb hg hcs hcx hlt hn h1x vb _ hyl hvs hy1).mono ?_;rintro e w' ⟨V',rfl,k1,k2,k3⟩;exact⟨V',rfl,At.of_ins k1 h2 rfl h3 hx (Jc k2) (.inr k3) (by rw[A8]),Jc k2⟩
 . obtain rfl:i=bs.length:=by omega
   refine(Akj b w _ bs.length ns h1 hb hn vb _ hyl hvs hy1).mono ?_;rintro e w' ⟨V',rfl,k1,k2,k3⟩;refine⟨V',rfl,At.of_ins (ns:=ns) (V:=.slice (some ⟨g,0,none⟩) bs.length cap) ?_ h2 rfl h3 hx k2 k3 (by rw[A8]),k2⟩;rw[List.take_of_length_le (by omega),List.drop_eq_nil_of_le (by omega),List.append_nil];exact k1
end Go.Proofs.YtkmcjfkokoidcaaGreatDoor
