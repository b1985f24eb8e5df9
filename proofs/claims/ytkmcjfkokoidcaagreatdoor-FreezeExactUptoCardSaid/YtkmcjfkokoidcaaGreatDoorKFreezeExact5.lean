/- Parts: commonplaceref10.From: a value's map, or why there is none. Condition: a bulk of at most 4 * 10^7. -/
import Derived.Test.YtkmcjfkokoidcaaGreatDoorKFreezeExact3
set_option maxHeartbeats 20000000
set_option maxRecDepth 100000
namespace Go.Proofs.YtkmcjfkokoidcaaGreatDoor
open Go Go.RowKit
def Fu (w:World) (M:Nat) (l:List Bj):Prop:= ∃a c,w.cell? ⟨M,0,none⟩=some (.slice a l.length c)/\Ah w w.heap.size (.row 7 (dO l)) [.slice a l.length c]
theorem Fu.below {w w':World} {M:Nat} {l:List Bj} (h:Fu w M l) (hb:Below w.heap.size w w'):Fu w' M l:=by
 obtain⟨a,c,h1,h2⟩:=h;exact⟨a,c,(hb.cell (p:=⟨M,0,none⟩) (World.block_lt_of_cell? w _ h1)).trans h1,(h2.below hb).more hb.size⟩
theorem Fu.emp (w:World):Fu (w.alloc (.cells #[.slice none 0 0] Vz)) w.heap.size []:=
 ⟨_,_,(Aj.new w Vz #[.slice none 0 0]).cell 0,⟨_,0,rfl,F2 _, [],rfl,.inl rfl⟩⟩
theorem Fu.of {S:Nat->Prop} {b M:Nat} {w:World} {V:Value} {l:List Bj} (h:Abp S b w M V l):Fu w M l:=by
 obtain⟨a,c,rfl⟩:=h.2.1.slice_n (Ax l);exact⟨a,c,h.1.cell 0,h.2.1.close⟩
def Im (v:Val) (w:World) (e:Ending) (w':World):Prop:=Below w.heap.size w w'/\ ∃M,e=.returned (.tuple #[.pointer (some ⟨M,0,none⟩),.int .i64 (Di v).1])/\Fu w' M (Di v).2
structure RFI (w:World) (M:Nat) (six:Array Value) (o:List Bj) (q:Nat) (wr:World) (V:Value):Prop where
 below:Below w.heap.size w wr
 box:Aj wr w.heap.size 37 six
 map:Abp (fun i=>i<w.heap.size) M wr M V (o.take q)
 may:A6 (o.take q)=0
 pos:w.heap.size<M
theorem Acw {o:List Bj} {q:Nat} {key:ByteArray} {v:Val} (ha:B8 o) (hx:o[q]? =some (key,v)):Cm key v (o.take q)=o.take (q+1):=by
 obtain⟨hl,he⟩:=List.getElem?_eq_some_iff.1 hx;have h1: ∀e ∈ o.take q,C8 e.1 key=true:=fun e hm=>by
  obtain⟨j,hj,rfl⟩:=List.getElem_of_mem hm;rw[List.length_take]at hj;rw[List.getElem_take];have:=List.pairwise_iff_getElem.1 ha j q (by omega) hl (by omega);rw[he]at this;exact this
 have h2:=X0 (v:=v) (A:= []) h1 (by simp);simp only[List.append_nil]at h2;rw[h2,List.take_add_one,hx];rfl
theorem Ss (k:Int) (b:Bool) (n:Int) (t:ByteArray) (l:List Val) (o:List Bj) (la oa:Option Addr) (lc oc:Nat) (w:World) (hT:B3 w) (hV:Ac w w.heap.size (.mk k b n t l o) [.int .i64 k,.bool b,.int .i64 n,.string t,.slice la l.length lc,.slice oa o.length oc]) (hb:(Val.mk k b n t l o).bulk<=40000000) (hin:Kd (.mk k b n t l o)):
 Calls Tryz.prog 25 #[.agg #[.int .i64 k,.bool b,.int .i64 n,.string t,.slice la l.length lc,.slice oa o.length oc]] w (Im (.mk k b n t l o) w):=by
 obtain⟨PO,hPO⟩: ∃P:Ending->World->Prop,Im (.mk k b n t l o) w=P:=⟨_,rfl⟩;rw[hPO];have hbo:Ae o<=40000000:=by simp only[Val.bulk]at hb;omega
 have hio:G3 o:=by simp only[Kd]at hin;exact hin.2.2
 have hln:=Ba o;obtain⟨w1,hw1⟩: ∃w1,w.alloc (.cells #[.int .i64 k,.bool b,.int .i64 n,.string t,.slice la l.length lc,.slice oa o.length oc] 37)=w1:=⟨_,rfl⟩;have hb1:Below w.heap.size w w1:=hw1▸Aa _ _;have hX1:Aj w1 w.heap.size 37 #[.int .i64 k,.bool b,.int .i64 n,.string t,.slice la l.length lc,.slice oa o.length oc]:=hw1▸Aj.new _ _ _;have HM:=qz (Qy (.mk k b n t l o) _ w1 (Ac.more hb1.size _ _ (hV.below hb1)) (by omega));have hrow:Ah w w.heap.size (.row 7 (dO o)) [.slice oa o.length oc]:=by
  have h:=D3 _ _ hV;simp only[dV,Ah]at h;obtain⟨c4,c5,e,_,_,_,_,⟨a4,n4,rfl,_⟩,h5⟩:=Ag.six.1 h;have e5:c5= [.slice oa o.length oc]:=by
   obtain⟨a5,n5,rfl,_⟩:=h5;simp at e;simp[e]
  rw[<-e5];exact h5
 have HTI:=qz (Ai.of_old hrow (Nat.le_refl _) (Below.refl _ _));obtain⟨x0,x1,x2,x3,x4,x5⟩:=Az hX1;have lx:=hX1.lt;have Hf1:Hid (Aw (.mk k b n t l o) 1≠0->Im (.mk k b n t l o) w=PO->Di (.mk k b n t l o)=(Aw (.mk k b n t l o) 1, [])):=fun h _=>by unfold Di;rw[if_pos h]
 have Hf2:Hid (Aw (.mk k b n t l o) 1=0->Di (.mk k b n t l o)=if k≠6 then(9, [])else if A6 o=0 then(0,o)else(A6 o, [])):=fun h=>by unfold Di;rw[if_neg (by rw[h];decide)]
 have Hasc:Hid (Aw (.mk k b n t l o) 1=0->B8 o):=fun h=>(Oj (J1 h).2.2.2.2).1;obtain⟨Hb1,HPO,HX1,HT,Hio⟩:=hid5 hb1 hPO hX1 hT hio;clear hb1 hPO hX1 hT hio;clear hV hb hin hrow;go_enter Tryz.func25,Tryz.ntmps25;go_upto_region 1 with(fail);clear hw1;go_wp2_with (fail);(with_reducible refine(HM.out).mono ?_);rintro e w2 ⟨rfl,hb2⟩;have hX2:=HX1.out.below hb2 HX1.out.lt;have HB2:=qz (Hb1.out.trans (hb2.mono Hb1.out.size));clear x0 x1 x2 x3 x4 x5 lx;obtain⟨x0,x1,x2,x3,x4,x5⟩:=Az hX2;have lx:=hX2.lt;have herr: ∀(E:Int),Di (.mk k b n t l o)=(E, [])-> ∀W,Below w.heap.size w W->PO (.returned (.tuple #[.pointer (some ⟨W.heap.size,0,none⟩),.int .i64 E])) (W.alloc (.cells #[.slice none 0 0] Vz)):=fun E h1 W hW=>by
  rw[<-HPO.out];exact⟨hW.alloc hW.size _,W.heap.size,by rw[h1],by rw[h1];exact Fu.emp W⟩
 obtain⟨HX2,Herr⟩:=hid2 hX2 herr;clear hX2 herr;clear hb2;by_cases hm:Aw (.mk k b n t l o) 1=0
 . rw[hm];by_cases hk:k=6
   . subst hk;have Hfr:=qz (show Di (.mk 6 b n t l o)=if A6 o=0 then(0,o)else(A6 o, [])from by rw[Hf2.out hm,if_neg (by simp)]);have Hasc:=qz (Hasc.out hm);clear hm;go_upto_region 7 with(fail);obtain⟨w4,hw4⟩: ∃w4,w2.alloc (.cells #[.slice none 0 0] Vz)=w4:=⟨_,rfl⟩;have hb4:Below w2.heap.size w2 w4:=hw4▸Aa _ _;have hg4:Aj w4 w2.heap.size Vz #[.slice none 0 0]:=hw4▸Aj.new _ _ _;rw[hw4];have hI0:RFI w w2.heap.size #[.int .i64 6,.bool b,.int .i64 n,.string t,.slice la l.length lc,.slice oa o.length oc] o 0 w4 (.slice none 0 0):=
      ⟨HB2.out.trans (hb4.mono HB2.out.size),HX2.out.below hb4 HX2.out.lt,⟨hg4,by simpa[dO]using A0.nil _ _ _ _ _,fun e=>by cases e⟩,rfl,HX2.out.lt⟩
     have HI0:=qz hI0;clear hI0;clear hb4 hg4 hw4 x0 x1 x2 x3 x4 x5 lx;go_wp2_with (fail);go_loopw [6] (fun i wr=> ∃q:Nat,i=.int .i64 q/\q<=o.length/\ ∃V,Hid (RFI w w2.heap.size #[.int .i64 6,.bool b,.int .i64 n,.string t,.slice la l.length lc,.slice oa o.length oc] o q wr V)) (fun i _=>o.length - (intOf i).toNat)
     case atStart=>exact⟨0,rfl,Nat.zero_le _,_,HI0⟩
     case round=>
      obtain⟨q,rfl,hq,V,hI⟩:=hrel;clear HI0;have hbw:=hI.out.below;have hz:=hbw.size;have p1:=hI.out.pos;have hbx:=hI.out.box;have b5:=hbx.cell 5;have lb:=hbx.lt;by_cases hlt:q<o.length
      . obtain⟨⟨key,⟨k',b',n',t',l',o'⟩⟩,hx⟩: ∃v,o[q]? =some v:=⟨_,List.getElem?_eq_getElem hlt⟩;have hmem:=List.mem_of_getElem? hx;have hbm:=Ck hmem;simp only at hbm;have hiv:=Ng Hio.out hmem;obtain⟨g,off,rfl,hg,la2,lc2,oa2,oc2,hv0,d0,d1,d2,d3,d4,d5,d6⟩:=Jc HTI.out hx;have hgr:g<wr.heap.size:=by omega
        have q1:(q:Int)<(o.length:Int):=by omega
        have q0:(0:Int)<=q:=by omega
        obtain⟨hmt,hme⟩:=J0 hI.out.may hx;have hv:=hv0.below hbw;have hkeep: ∀W,KB (fun i=>i=w2.heap.size) wr W->(W.cell? ⟨w.heap.size,5,none⟩=some (.slice (some ⟨g,off,none⟩) o.length oc)/\W.cell? ⟨g,off+q*7,none⟩=some (.string key)/\W.cell? ⟨g,off+q*7+1,none⟩=some (.int .i64 k')/\W.cell? ⟨g,off+q*7+2,none⟩=some (.bool b')/\W.cell? ⟨g,off+q*7+3,none⟩=some (.int .i64 n')/\W.cell? ⟨g,off+q*7+4,none⟩=some (.string t')/\W.cell? ⟨g,off+q*7+5,none⟩=some (.slice la2 l'.length lc2)/\W.cell? ⟨g,off+q*7+6,none⟩=some (.slice oa2 o'.length oc2)):=fun W hW=>by
         have hc: ∀j,W.cell? ⟨g,j,none⟩=wr.cell? ⟨g,j,none⟩:=fun j=>World.cell?_of_block (hW.block g hgr (by omega));have hc2: ∀j,wr.cell? ⟨g,j,none⟩=w.cell? ⟨g,j,none⟩:=fun j=>hbw.cell hg;exact⟨(World.cell?_of_block (hW.block w.heap.size lb (by omega))).trans b5,(hc _).trans ((hc2 _).trans d0),(hc _).trans ((hc2 _).trans d1),(hc _).trans ((hc2 _).trans d2),(hc _).trans ((hc2 _).trans d3),(hc _).trans ((hc2 _).trans d4),(hc _).trans ((hc2 _).trans d5),(hc _).trans ((hc2 _).trans d6)⟩
        have HC:=qz (Lw key (.mk k' b' n' t' l' o') _ _ _ _ _ _ wr.drew (HT.out.below (hbw.trans ((Below.drew (Below.refl _ _)).mono hz))) (Cb _ _ (hv.below (Below.drew (Below.refl _ _))).now) (by omega) (by omega) hiv);have hP:=fun(W:World) (hW:Below wr.heap.size wr W)=>Zx (fun i=>i<w.heap.size) w2.heap.size (o.take q) w2.heap.size V key (.mk k' b' n' t' l' o') k' b' n' t' la2 l'.length lc2 oa2 o'.length oc2 W ⟨hI.out.map.1.below hW hI.out.map.1.lt,hI.out.map.2.1.below hW,hI.out.map.2.2⟩ (by have:=hI.out.map.1.lt;have:=hW.size;omega) (hv.below hW) (by rw[List.length_take];omega) (by omega);rw[Acw Hasc.out hx]at hP;unfold Qu at hP;generalize hME:I0 (key,.mk k' b' n' t' l' o')=E at*
        obtain⟨HP,Hkeep,Hmt,Hme,Hbw,Hbx⟩:=hid6 hP hkeep hmt hme hbw hbx;clear hP hkeep hmt hme hbw hbx;clear hv hv0 d0 d1 d2 d3 d4 d5 d6 hmem hiv hx;have hHx:=Hkeep.out wr (KB.of_below (Below.refl _ _));go_wp2_with (fail);go_upto_region 10 with(fail);clear hHx;refine wp_region_held_drew (S:=fun W:World=>W.cell? ⟨w.heap.size,5,none⟩=some (.slice (some ⟨g,off,none⟩) o.length oc)/\W.cell? ⟨g,off+q*7,none⟩=some (.string key)/\W.cell? ⟨g,off+q*7+1,none⟩=some (.int .i64 k')/\W.cell? ⟨g,off+q*7+2,none⟩=some (.bool b')/\W.cell? ⟨g,off+q*7+3,none⟩=some (.int .i64 n')/\W.cell? ⟨g,off+q*7+4,none⟩=some (.string t')/\W.cell? ⟨g,off+q*7+5,none⟩=some (.slice la2 l'.length lc2)/\W.cell? ⟨g,off+q*7+6,none⟩=some (.slice oa2 o'.length oc2)) (by kernel_rfl) (Hkeep.out _ (KB.of_below (Below.drew (Below.refl _ _)))) (fun hHeld=> ?_);refine tkH 0 hHeld ?_;refine tkH 1 hHeld ?_;refine tkH 2 hHeld ?_;refine tkH 3 hHeld ?_;refine tkH 4 hHeld ?_;refine tkH 5 hHeld ?_;refine tkH 6 hHeld ?_;refine tkH 7 hHeld ?_;refine tkH 8 hHeld ?_;refine tkH 9 hHeld ?_;refine tkH 10 hHeld ?_;refine tkH 11 hHeld ?_;refine Ie 12 fun K hK=> ?_;go_simp;(with_reducible refine(HC.out).mono ?_);rintro e w5 ⟨rfl,hb5⟩;have hw5:Below wr.heap.size wr w5:=(Below.drew (Below.refl _ _)).trans hb5;refine hK.out _ _ (Hkeep.out _ (KB.of_below hw5)) (fun hHeld=> ?_);clear hK K hb5 HC
        try simp only[Act.put,tk1,tk2,tk3,tk4,tk5,tk6]
        refine tkH 13 hHeld ?_;refine wpAnyH_done (by kernel_rfl) ?_ _;clear hHeld;by_cases hE:E=0
        . subst hE;have hwd:Below wr.heap.size wr w5.drew:=hw5.trans ((Below.drew (Below.refl _ _)).mono hw5.size);have HC2:=qz (HP.out _ hwd);have Hkd:=qz (Hkeep.out _ (KB.of_below hwd));go_wp2_with (fail);go_upto_region 13 with(fail);refine wp_region_held_drew (S:=fun W:World=>W.cell? ⟨w.heap.size,5,none⟩=some (.slice (some ⟨g,off,none⟩) o.length oc)/\W.cell? ⟨g,off+q*7,none⟩=some (.string key)/\W.cell? ⟨g,off+q*7+1,none⟩=some (.int .i64 k')/\W.cell? ⟨g,off+q*7+2,none⟩=some (.bool b')/\W.cell? ⟨g,off+q*7+3,none⟩=some (.int .i64 n')/\W.cell? ⟨g,off+q*7+4,none⟩=some (.string t')/\W.cell? ⟨g,off+q*7+5,none⟩=some (.slice la2 l'.length lc2)/\W.cell? ⟨g,off+q*7+6,none⟩=some (.slice oa2 o'.length oc2)) (by kernel_rfl) Hkd.out (fun hHeld=> ?_);refine tkH 0 hHeld ?_;refine tkH 1 hHeld ?_;refine tkH 2 hHeld ?_;refine tkH 3 hHeld ?_;refine tkH 4 hHeld ?_;refine tkH 5 hHeld ?_;refine tkH 6 hHeld ?_;refine tkH 7 hHeld ?_;refine tkH 8 hHeld ?_;refine tkH 9 hHeld ?_;refine tkH 10 hHeld ?_;refine tkH 11 hHeld ?_;refine tkH 12 hHeld ?_;refine Ie 13 fun K hK=> ?_;go_simp;(with_reducible refine(HC2.out).mono ?_);rintro e w6 ⟨rfl,hk6,V6,hM6⟩;have hk6':KB (fun i=>i=w2.heap.size) wr w6:=(KB.of_below (S:=fun i=>i=w2.heap.size) hwd).trans hk6 fun _ _ h=>h;have HN:Hid (RFI w w2.heap.size #[.int .i64 6,.bool b,.int .i64 n,.string t,.slice la l.length lc,.slice (some ⟨g,off,none⟩) o.length oc] o (q+1) w6 V6):=
           ⟨Hbw.out.trans (hk6'.below (fun k hk=>by subst hk;omega) hz),Hbx.out.kb hk6' (by omega),hM6,Hmt.out,p1⟩
          refine hK.out _ _ (Hkeep.out _ hk6') (fun hHeld=> ?_);clear hK K hk6 hk6' hM6 hwd hw5
          try simp only[Act.put,tk1,tk2,tk3,tk4,tk5,tk6]
          refine wpAnyH_done (by kernel_rfl) ?_ _;clear hHeld;go_wp2;go_roundw
          case rel=>exact⟨q+1,by go_num,by omega,_,HN⟩
          case measure=>simp only[intOf];omega
        . have hne:(E != 0)=true:=by simpa using hE
          have hmo:=Hme.out hE;have HP:=qz (Herr.out E (by rw[Hfr.out,if_neg (by rw[hmo];exact hE),hmo]) w5 (Hbw.out.trans (hw5.mono hz)));clear hw5 hmo hE;go_wp2;exact HP.out
      . obtain rfl:q=o.length:=by omega
        have hm0:=hI.out.may;have hMp:=hI.out.map;rw[List.take_length]at hm0 hMp;have q1: ¬(o.length:Int)<(o.length:Int):=by omega
        have HP:Hid (PO (.returned (.tuple #[.pointer (some ⟨w2.heap.size,0,none⟩),.int .i64 0])) wr):=by
         show PO _ _;rw[<-HPO.out];refine⟨hbw,w2.heap.size,by rw[Hfr.out,if_pos hm0], ?_⟩;rw[Hfr.out,if_pos hm0];exact Fu.of hMp
        clear hI hbw hm0 hMp hbx;go_wp2;exact HP.out
   . have hkk:(k != 6)=true:=by simpa using hk
     have HP:=qz (Herr.out 9 (by rw[Hf2.out hm,if_pos hk]) w2 HB2.out);clear hm;go_wp2;exact HP.out
 . have hne:(Aw (.mk k b n t l o) 1 != 0)=true:=by simpa using hm
   have HP:=qz (Herr.out _ (Hf1.out hm HPO.out) w2 HB2.out);generalize Aw (.mk k b n t l o) 1=E at hne HP ⊢;clear hm;go_wp2;exact HP.out
end Go.Proofs.YtkmcjfkokoidcaaGreatDoor
