/- Parts: ref10.Text: a map's text, or why there is none. Condition: a bulk of at most 5 * 10^7. -/
import Derived.Test.YtkmcjfkokoidcaaGreatDoorKFb35
import Derived.Test.YtkmcjfkokoidcaaGreatDoorKFb38
set_option maxHeartbeats 20000000
set_option maxRecDepth 100000
namespace Go.Proofs.YtkmcjfkokoidcaaGreatDoor
open Go Go.RowKit
theorem Wk (l:List Bj):(ov l).bulk<=Ae l+10:=by
 have h0:(⟨#[]⟩:ByteArray).size=0:=rfl;simp only[ov,Val.bulk,Bg,Z0,h0];omega
theorem Aei {l:List Bj} (h:G3 l):Kd (ov l):=by
 simp[ov,Kd,Qq,Z0,h]
def W8 (l:List Bj):ByteArray:=if A6 l=0 then L2 (ov l)else⟨#[]⟩
theorem Pa (t:Option (Nat×Nd)) (r:Option Addr) (w:World) (hT:B3 w) (ht:Il (fun i=>i<w.heap.size) w t r) (ok:Sc t) (hb:Ae (Db t)<=40000000) (hin:G3 (Db t)) (hmv:A6 (Db t)=0->Aw (ov (Db t)) 1=0):
 Calls Tryz.prog 13 #[.agg #[.pointer r]] w fun e w'=>e=.returned (.tuple #[.string (W8 (Db t)),.int .i64 (A6 (Db t))])/\Below w.heap.size w w':=by
 obtain⟨PO,hPO⟩: ∃P:Ending->World->Prop,(fun e w'=>e=.returned (.tuple #[.string (W8 (Db t)),.int .i64 (A6 (Db t))])/\Below w.heap.size w w')=P:=⟨_,rfl⟩;rw[hPO];obtain⟨w0,hw0⟩: ∃w0,w.alloc (.cells #[.pointer r] 26)=w0:=⟨_,rfl⟩;have hb0:Below w.heap.size w w0:=hw0▸Aa _ _;have hx0:Aj w0 w.heap.size 26 #[.pointer r]:=hw0▸Aj.new _ _ _;have hC:=Ur t r w0 (hT.below hb0) ((ht.below hb0).mono fun i _ h=>Nat.lt_of_lt_of_le h hb0.size) ok hb hin;have d0:=hx0.cell 0;have HTx:=qz (fun(W:World) (hW:Below w.heap.size w W) cs hv=>Y0 (ov (Db t)) cs W (hT.below hW) hv (by have:=Wk (Db t);omega) (Aei hin));have Hfz:Hid (A6 (Db t)=0->W8 (Db t)=L2 (ov (Db t))):=fun h=>if_pos h;have Hfz2:Hid (A6 (Db t)≠0->W8 (Db t)=⟨#[]⟩):=fun h=>if_neg h;unfold Yw at hC;obtain⟨HC,HPO,Hb0,Hmv⟩:=hid4 hC hPO hb0 hmv;clear hC hPO hb0 hmv;clear hT ht hb hin hx0;go_enter Tryz.func13,Tryz.ntmps13;go_upto_region 1 with(fail);clear hw0;go_wp2_with (fail);(with_reducible refine(HC.out).mono ?_);rintro e w1 ⟨hb1,a,n,c,rfl,hh⟩;have hbw:=Hb0.out.trans (hb1.mono Hb0.out.size);by_cases hm:A6 (Db t)=0
 . rw[if_pos hm]at hh ⊢;rw[if_pos hm]at hh;have hv:=Cb _ _ ((hh.below (Aa w1 (.cells #[.int .i64 6,.bool false,.int .i64 0,.string ⟨#[]⟩,.slice none 0 0,.slice a n c] 37))).more (Aa w1 (.cells #[.int .i64 6,.bool false,.int .i64 0,.string ⟨#[]⟩,.slice none 0 0,.slice a n c] 37)).size);have hbw2:=hbw.alloc hbw.size (.cells #[.int .i64 6,.bool false,.int .i64 0,.string ⟨#[]⟩,.slice none 0 0,.slice a n c] 37);have hC2:=HTx.out _ hbw2 _ hv;rw[Hmv.out hm]at hC2;have hfin: ∀W,Below w.heap.size w W->PO (.returned (.tuple #[.string (L2 (ov (Db t))),.int .i64 0])) W:=fun W hW=>by
    rw[<-HPO.out];exact⟨by rw[Hfz.out hm,hm],hW⟩
   rw[hm];generalize L2 (ov (Db t))=S at hC2 hfin;obtain⟨HC2,Hbw2,Hfin⟩:=hid3 hC2 hbw2 hfin;clear hC2 hbw2 hfin;clear hh hv hbw hb1;go_wp2_with (fail);(with_reducible refine(HC2.out).mono ?_);rintro e w2 ⟨rfl,hb2⟩;have HP:=qz (Hfin.out w2 (Hbw2.out.trans (hb2.mono Hbw2.out.size)));clear hb2;go_wp2;exact HP.out
 . rw[if_neg hm]at hh ⊢;have q0:(A6 (Db t) != 0)=true:=by simpa using hm
   have HP:Hid (PO (.returned (.tuple #[.string ⟨#[]⟩,.int .i64 (A6 (Db t))])) (w1.alloc (.cells #[.int .i64 0,.bool false,.int .i64 0,.string ⟨#[]⟩,.slice none 0 0,.slice a n c] 37))):=by
    show PO _ _;rw[<-HPO.out];exact⟨by rw[Hfz2.out hm],hbw.alloc hbw.size _⟩
   generalize A6 (Db t)=M at q0 HP ⊢;clear hh hbw hb1;go_wp2;exact HP.out
def Mu (v:Val) (w:World) (e:Ending) (w':World):Prop:=Below w.heap.size w w'/\ ∃p,e=.returned (.tuple #[.agg #[.pointer p],.int .i64 (Di v).1])/\Il (fun i=>w.heap.size<=i) w' (if(Di v).1=0 then C0 (Di v).2 else none) p
structure FrL (w:World) (c bG:Nat) (six:Array Value) (o:List Bj) (q:Nat) (wr:World) (V:Value):Prop where
 below:Below w.heap.size w wr
 box:Aj wr w.heap.size 37 six
 res:Aj wr (w.heap.size+1) 26 #[.pointer none]
 gate:Aj wr bG Tgt (Ri c)
 code:Aj wr c O4 #[.int .i64 0]
 row:A0 (fun i=>i<w.heap.size) (bG+1) 63 7 wr (dO (o.take q)) V
 may:A6 (o.take q)=0
 pos:w.heap.size+2<=c/\c<bG
theorem Wz (k:Int) (b:Bool) (n:Int) (t:ByteArray) (l:List Val) (o:List Bj) (la oa:Option Addr) (lc oc:Nat) (w:World) (hT:B3 w) (hV:Ac w w.heap.size (.mk k b n t l o) [.int .i64 k,.bool b,.int .i64 n,.string t,.slice la l.length lc,.slice oa o.length oc]) (hb:(Val.mk k b n t l o).bulk<=40000000) (hin:Kd (.mk k b n t l o)):
 Calls Tryz.prog 24 #[.agg #[.int .i64 k,.bool b,.int .i64 n,.string t,.slice la l.length lc,.slice oa o.length oc]] w (Mu (.mk k b n t l o) w):=by
 obtain⟨PO,hPO⟩: ∃P:Ending->World->Prop,Mu (.mk k b n t l o) w=P:=⟨_,rfl⟩;rw[hPO];have hbo:Ae o<=40000000:=by simp only[Val.bulk]at hb;omega
 have hio:G3 o:=by simp only[Kd]at hin;exact hin.2.2
 have hln:=Ba o;obtain⟨w1,hw1⟩: ∃w1,(w.alloc (.cells #[.int .i64 k,.bool b,.int .i64 n,.string t,.slice la l.length lc,.slice oa o.length oc] 37)).alloc (.cells #[.pointer none] 26)=w1:=⟨_,rfl⟩;have hb1:Below w.heap.size w w1:=hw1▸Lq _ _ _;have hX1:Aj w1 w.heap.size 37 #[.int .i64 k,.bool b,.int .i64 n,.string t,.slice la l.length lc,.slice oa o.length oc]:=hw1▸(Aj.new _ _ _).alloc _;have HR1:Hid (Aj w1 (w.heap.size+1) 26 #[.pointer none]):=hw1▸Aj.nxt _ _ _ _;have HM:=qz (Oa (.mk k b n t l o) _ w1 (hT.below hb1) (Ac.more hb1.size _ _ (hV.below hb1)) (by omega));have hrow:Ah w w.heap.size (.row 7 (dO o)) [.slice oa o.length oc]:=by
  have h:=D3 _ _ hV;simp only[dV,Ah]at h;obtain⟨c4,c5,e,_,_,_,_,⟨a4,n4,rfl,_⟩,h5⟩:=Ag.six.1 h;have e5:c5= [.slice oa o.length oc]:=by
   obtain⟨a5,n5,rfl,_⟩:=h5;simp at e;simp[e]
  rw[<-e5];exact h5
 have HTI:=qz (Ai.of_old hrow (Nat.le_refl _) (Below.refl _ _));have hGt':=Rj;obtain⟨x0,x1,x2,x3,x4,x5⟩:=Az hX1;have lx:=hX1.lt;obtain⟨j0,hj,hy0,hy1,hy2⟩:=info_parts H9;have Hf1:Hid (Aw (.mk k b n t l o) 1≠0->Mu (.mk k b n t l o) w=PO->(Di (.mk k b n t l o)).1=Aw (.mk k b n t l o) 1):=fun h _=>by unfold Di;rw[if_pos h]
 have Hf2:Hid (Aw (.mk k b n t l o) 1=0->Di (.mk k b n t l o)=if k≠6 then(9, [])else if A6 o=0 then(0,o)else(A6 o, [])):=fun h=>by unfold Di;rw[if_neg (by rw[h];decide)]
 obtain⟨Hb1,HPO,HX1,Hj,Hy0,Hy1,Hy2,HT,Hio⟩:=hid9 hb1 hPO hX1 hj hy0 hy1 hy2 hT hio;clear hb1 hPO hX1 hj hy0 hy1 hy2 hT hio;clear hV hb hin hrow;go_enter Tryz.func24,Tryz.ntmps24;go_upto_region 1 with(fail);clear hw1;go_wp2_with (fail);(with_reducible refine(HM.out).mono ?_);rintro e w2 ⟨rfl,hb2⟩;have hX2:=HX1.out.below hb2 HX1.out.lt;have hR2:=HR1.out.below hb2 HR1.out.lt;have HB2:=qz (Hb1.out.trans (hb2.mono Hb1.out.size));obtain⟨x0,x1,x2,x3,x4,x5⟩:=Az hX2;have lx:=hX2.lt;have r0:=hR2.cell 0;have fr:=hR2.frozen;have lr:=hR2.lt;have herr: ∀(E:Int),(Di (.mk k b n t l o)).1=E->E≠0-> ∀W,Below w.heap.size w W->PO (.returned (.tuple #[.agg #[.pointer none],.int .i64 E])) W:=fun E h1 h2 W hW=>by
  rw[<-HPO.out];exact⟨hW,none,by rw[h1],by rw[h1,if_neg h2];rfl⟩
 obtain⟨HX2,HR2,Herr⟩:=hid3 hX2 hR2 herr;clear hX2 hR2 herr;clear hb2;by_cases hm:Aw (.mk k b n t l o) 1=0
 . rw[hm];by_cases hk:k=6
   . subst hk;have Hfr:=qz (show Di (.mk 6 b n t l o)=if A6 o=0 then(0,o)else(A6 o, [])from by rw[Hf2.out hm,if_neg (by simp)]);have HG:=qz (hGt' w2);clear hm;go_wp2_with (fail);(with_reducible refine(HG.out).mono ?_);rintro e w3 ⟨hb3,c,rfl,hc0,hx3⟩;dsimp only[Ri];go_upto_region 7 with(fail);obtain⟨w4,hw4⟩: ∃w4,w3.alloc (.cells #[.func (.func 76) #[] #[.pointer (some ⟨c,0,none⟩)],.func (.func 79) #[] #[.pointer (some ⟨c,0,none⟩)]] Tgt)=w4:=⟨_,rfl⟩;have hb4:Below w3.heap.size w3 w4:=hw4▸Aa _ _;have hz4:w4.heap.size=w3.heap.size+1:=by rw[<-hw4];simp
     have hg4:Aj w4 w3.heap.size Tgt (Ri c):=hw4▸Aj.new _ _ _;rw[hw4];have hz3:=hb3.size;have hb24:=hb3.trans (hb4.mono hz3);have hX4:=HX2.out.below hb24 HX2.out.lt;have hR4:=HR2.out.below hb24 HR2.out.lt;have hc4:=hx3.below hb4 hx3.lt;have lc3:=hx3.lt;have HI0:Hid (FrL w c w3.heap.size #[.int .i64 6,.bool b,.int .i64 n,.string t,.slice la l.length lc,.slice oa o.length oc] o 0 w4 (.slice none 0 0)):=⟨HB2.out.trans (hb24.mono HB2.out.size),hX4,hR4,hg4,hc4,by simpa[dO]using A0.nil _ _ _ _ _,rfl,by have:=HB2.out.size;omega,lc3⟩;clear x0 x1 x2 x3 x4 x5 lx r0 fr lr hw4;obtain⟨x0,x1,x2,x3,x4,x5⟩:=Az hX4;have lx:=hX4.lt;clear hb3 hb4 hb24 hX4 hR4 hc4 hx3 hg4;go_wp2_with (fail);go_loopw [6,23] (fun s i wr=> ∃q:Nat,i=.int .i64 q/\q<=o.length/\Hid (FrL w c w3.heap.size #[.int .i64 6,.bool b,.int .i64 n,.string t,.slice la l.length lc,.slice oa o.length oc] o q wr s)) (fun _ i _=>o.length - (intOf i).toNat)
     case atStart=>exact⟨0,rfl,Nat.zero_le _,HI0⟩
     case round=>
      obtain⟨q,rfl,hq,hI⟩:=hrel;clear HI0;have hbw:=hI.out.below;have hz:=hbw.size;obtain⟨p1,p2⟩:=hI.out.pos;by_cases hlt:q<o.length
      . obtain⟨⟨key,⟨k',b',n',t',l',o'⟩⟩,hx⟩: ∃v,o[q]? =some v:=⟨_,List.getElem?_eq_getElem hlt⟩;have hmem:=List.mem_of_getElem? hx;have hbm:=Ck hmem;simp only at hbm;have hiv:=Ng Hio.out hmem;obtain⟨gl,off,rfl,hg,la2,lc2,oa2,oc2,hv0,d0,d1,d2,d3,d4,d5,d6⟩:=Jc HTI.out hx;have hgr:gl<wr.heap.size:=by omega
        obtain⟨c0,c1,c2,c3,c4,c5,c6⟩:wr.cell? ⟨gl,off+q*7,none⟩=some (.string key)/\wr.cell? ⟨gl,off+q*7+1,none⟩=some (.int .i64 k')/\wr.cell? ⟨gl,off+q*7+2,none⟩=some (.bool b')/\wr.cell? ⟨gl,off+q*7+3,none⟩=some (.int .i64 n')/\wr.cell? ⟨gl,off+q*7+4,none⟩=some (.string t')/\wr.cell? ⟨gl,off+q*7+5,none⟩=some (.slice la2 l'.length lc2)/\wr.cell? ⟨gl,off+q*7+6,none⟩=some (.slice oa2 o'.length oc2):=
         ⟨(hbw.cell hg).trans d0,(hbw.cell hg).trans d1,(hbw.cell hg).trans d2,(hbw.cell hg).trans d3,(hbw.cell hg).trans d4,(hbw.cell hg).trans d5,(hbw.cell hg).trans d6⟩
        have q1:(q:Int)<(o.length:Int):=by omega
        have q0:(0:Int)<=q:=by omega
        obtain⟨hmt,hme⟩:=J0 hI.out.may hx;obtain⟨wi,hwi⟩: ∃wi,wr.alloc (.cells #[.string key,.int .i64 k',.bool b',.int .i64 n',.string t',.slice la2 l'.length lc2,.slice oa2 o'.length oc2] 94)=wi:=⟨_,rfl⟩;have hbi:Below wr.heap.size wr wi:=hwi▸Aa _ _;have hxi:Aj wi wr.heap.size 94 #[.string key,.int .i64 k',.bool b',.int .i64 n',.string t',.slice la2 l'.length lc2,.slice oa2 o'.length oc2]:=hwi▸Aj.new _ _ _;have hbwi:=hbw.trans (hbi.mono hz);have hvi:=(hv0.below hbw).below hbi;have hR:=L1 key (.mk k' b' n' t' l' o') k' b' n' t' la2 l'.length lc2 oa2 o'.length oc2 c 0 w wi HT.out hbwi (by omega) (Cb _ _ hvi.now) (hI.out.code.below hbi hI.out.code.lt) (by omega) (by omega) hiv;unfold Ql at hR;have hgi:=hI.out.gate.below hbi hI.out.gate.lt;have g0:wi.cell? ⟨w3.heap.size,0,none⟩=some (.func (.func 76) #[] #[.pointer (some ⟨c,0,none⟩)]):=hgi.cell 0;have lg:=hgi.lt;have y0:=hxi.cell 0;have y1:=hxi.cell 1;have y2:=hxi.cell 2;have y3:=hxi.cell 3;have y4:=hxi.cell 4;have y5:=hxi.cell 5;have y6:=hxi.cell 6;have ly:=hxi.lt;generalize hEE:I0 (key,.mk k' b' n' t' l' o')=E at*
        obtain⟨HR,HI,Hbw,Hbi,Hxi,Hbwi,Hvi,Hgi,Hmt,Hme,Hx⟩:=hid11 hR hI hbw hbi hxi hbwi hvi hgi hmt hme hx;clear hR hI hbw hbi hxi hbwi hvi hgi hmt hme hx;clear hv0 d0 d1 d2 d3 d4 d5 d6 hmem hbm hiv hEE;go_upto_region 11 with(fail);clear hwi c0 c1 c2 c3 c4 c5 c6;go_wp2_with (fail);(with_reducible refine(HR.out).mono ?_);rintro e w6 ⟨rfl,hk6,hc6⟩;have lg3:=HI.out.gate.lt;have hgl6:=Hgi.out.kb hk6 (show ¬w3.heap.size=c by omega);have hx6:=Hxi.out.kb hk6 (show ¬wr.heap.size=c by omega);have hR6:=(HI.out.res.below Hbi.out HI.out.res.lt).kb hk6 (show ¬w.heap.size+1=c by omega);have hb6x:=(HI.out.box.below Hbi.out HI.out.box.lt).kb hk6 (show ¬w.heap.size=c by omega);have hb6:Below w.heap.size w w6:=Hbwi.out.trans (hk6.below (B:=w.heap.size) (fun k h=>by subst h;omega) Hbwi.out.size);clear g0 lg y0 y1 y2 y3 y4 y5 y6 ly;by_cases hE0:E=0
        . subst hE0;have hmt2:A6 (o.take (q+1))=0:=Hmt.out;have hba:=HI.out.row.base;have hrow6:=(HI.out.row.below Hbi.out).keepN (Nat.le_refl _) (fun i hi=>hi) hk6.size fun i i1 i2=>hk6.block i i2 (by
           rcases i1 with i1|i1
           . show ¬i=c;omega
           . have:=(hba i i1).1;show ¬i=c;omega)
          obtain⟨y0,y1,y2,y3,y4,y5,y6⟩:w6.cell? ⟨wr.heap.size,0,none⟩=some (.string key)/\w6.cell? ⟨wr.heap.size,1,none⟩=some (.int .i64 k')/\w6.cell? ⟨wr.heap.size,2,none⟩=some (.bool b')/\w6.cell? ⟨wr.heap.size,3,none⟩=some (.int .i64 n')/\w6.cell? ⟨wr.heap.size,4,none⟩=some (.string t')/\w6.cell? ⟨wr.heap.size,5,none⟩=some (.slice la2 l'.length lc2)/\w6.cell? ⟨wr.heap.size,6,none⟩=some (.slice oa2 o'.length oc2):=⟨hx6.cell 0,hx6.cell 1,hx6.cell 2,hx6.cell 3,hx6.cell 4,hx6.cell 5,hx6.cell 6⟩;have ly:=hx6.lt;have hb7:=Aa w6 (.cells #[.string key,.int .i64 k',.bool b',.int .i64 n',.string t',.slice la2 l'.length lc2,.slice oa2 o'.length oc2] 63);have hln2:(dO (o.take q)).length=q:=by rw[Ax,List.length_take];omega
          obtain⟨aV,cV,rfl⟩:=hrow6.slice_n hln2;have hd7:Ai (fun i=>i<w.heap.size/\(Value.slice aV q cV).ownBlock≠some i) (w6.alloc (.cells #[.string key,.int .i64 k',.bool b',.int .i64 n',.string t',.slice la2 l'.length lc2,.slice oa2 o'.length oc2] 63)) (dP (key,.mk k' b' n' t' l' o')) [.string key,.int .i64 k',.bool b',.int .i64 n',.string t',.slice la2 l'.length lc2,.slice oa2 o'.length oc2]:=
           Ai.mono (Oi ((Hvi.out.later hk6.size fun p d1 d2=>World.cell?_of_block (hk6.block p.block d2 (by show ¬p.block=c;omega))).below hb7)) fun i _ hi=>⟨hi,fun e=>by have:=(hba i e).1;omega⟩
          have Hrd:=qz (Ge (Aj.new w6 63 #[.string key,.int .i64 k',.bool b',.int .i64 n',.string t',.slice la2 l'.length lc2,.slice oa2 o'.length oc2]));have Hrow7:=qz (hrow6.below hb7);have hcat:dO (o.take q)++ [dP (key,.mk k' b' n' t' l' o')]=dO (o.take (q+1)):=by rw[Bl,Bl,List.take_add_one,Hx.out];simp
          have hLo:Hid ((dO (o.take q)).length+1<=maxLen/\((dO (o.take q)).length+1)*104<=140737488355328/\w3.heap.size+1<=(w6.alloc (.cells #[.string key,.int .i64 k',.bool b',.int .i64 n',.string t',.slice la2 l'.length lc2,.slice oa2 o'.length oc2] 63)).heap.size):=by rw[hln2];exact⟨by simp only[maxLen];omega,by omega,by simp;omega⟩
          have hba':=hba;obtain⟨Hd7,Hcat,Hb7,Hmt2,Hba,Hx6,Hgl6,HR6,Hb6x,Hb6,Hc6,Hk6,Hrow6⟩:=hid13 hd7 hcat hb7 hmt2 hba hx6 hgl6 hR6 hb6x hb6 hc6 hk6 hrow6;clear hd7 hcat hb7 hmt2 hba hx6 hgl6 hR6 hb6x hb6 hc6 hk6 hrow6;go_wp2_with (at_builtin;refine Gz rfl (.tmp 38) (.tmp 44) 22 rfl Tryz.underlying22 Hj.out Hy0.out Hy1.out Hy2.out rfl (by omega) rfl Hrow7.out hLo.out.2.2 (Cs _) Hd7.out rfl Hrd.out hLo.out.1 hLo.out.2.1 ?_;intro V8 w8 hr8 hg8 hat8);go_roundw
          case rel=>
           rw[Hcat.out]at hr8;have hz6:=Hb6.out.size;have hz7:=Hb7.out.size;have hza:=Hk6.out.size;have hzi:=Hbi.out.size;have hb67:=Hb6.out.trans (Hb7.out.mono hz6);have hn: ∀d,d<w3.heap.size+1->d≠w6.heap.size->(Value.slice aV q cV).ownBlock≠some d:=fun d h1 _ e=>by have:=(hba' d e).1;omega
           exact⟨q+1,by go_num,by omega,hb67.grown hg8 (by omega) (fun d e=>by have:=(hba' d e).1;omega),(Hb6x.out.below Hb7.out Hb6x.out.lt).grown hg8 fun e=>hn _ (by omega) (by omega) e.symm,(HR6.out.below Hb7.out HR6.out.lt).grown hg8 fun e=>hn _ (by omega) (by omega) e.symm,(Hgl6.out.below Hb7.out Hgl6.out.lt).grown hg8 fun e=>hn _ (by omega) (by omega) e.symm,(Hc6.out.below Hb7.out Hc6.out.lt).grown hg8 fun e=>hn _ (by omega) (by omega) e.symm,hr8,Hmt2.out,p1,p2⟩
          case measure=>simp only[intOf];omega
        . have hne:(E != 0)=true:=by simpa using hE0
          have Hwy:=qz (T4 c E w6 (hc6.cell 0));have g1:w6.cell? ⟨w3.heap.size,1,none⟩=some (.func (.func 79) #[] #[.pointer (some ⟨c,0,none⟩)]):=hgl6.cell 1;have lg6:=hgl6.lt;have r0:=hR6.cell 0;have fr:=hR6.frozen;have lr:=hR6.lt;have hfe:(Di (.mk 6 b n t l o)).1=E:=by rw[Hfr.out,if_neg (by rw[Hme.out hE0];exact hE0)];exact Hme.out hE0
          have HP:Hid (PO (.returned (.tuple #[.agg #[.pointer none],.int .i64 E])) (w6.setCell ⟨w.heap.size+1,0,none⟩ (.pointer none))):=Herr.out E hfe hE0 _ (hb6.setCell (p:=⟨w.heap.size+1,0,none⟩) (by show w.heap.size<=w.heap.size+1;omega) _);have Hc:=qz ((hR6.set_ 0 (.pointer none)).cell 0);clear hk6 hc6 hgl6 hx6 hR6 hb6x hb6;go_wp2_with (fail);(with_reducible refine(Hwy.out).mono ?_);rintro e w7 ⟨rfl,rfl⟩;go_wp2;exact bodyPost_ret (Dk rfl rfl Hc.out) rfl HP.out
      . obtain rfl:q=o.length:=by omega
        have hln2:(dO (o.take o.length)).length=o.length:=by rw[List.take_length,Ax]
        obtain⟨aV,cV,rfl⟩:=hI.out.row.slice_n hln2;have hrw:=hI.out.row;have hm0:=hI.out.may;rw[List.take_length]at hrw hm0;have HC:=qz (Nw o aV o.length cV wr hrw.close (by omega));have q1: ¬(o.length:Int)<(o.length:Int):=by omega
        have HR:=qz hI.out.res;have hfe:=Hfr.out;rw[if_pos hm0]at hfe;obtain⟨Hbw,Hfe⟩:=hid2 hbw hfe;clear hbw hfe;clear hI hrw hm0;go_wp2_with (fail);(with_reducible refine(HC.out).mono ?_);rintro e w6 ⟨hb6,p,rfl,ht6⟩;have hR6:=HR.out.below hb6 HR.out.lt;have lR:=HR.out.lt;have r0:=hR6.cell 0;have fr:=hR6.frozen;have lr:=hR6.lt;have HP:Hid (PO (.returned (.tuple #[.agg #[.pointer p],.int .i64 0])) (w6.setCell ⟨w.heap.size+1,0,none⟩ (.pointer p))):=by
         show PO _ _;rw[<-HPO.out];refine⟨(Hbw.out.trans (hb6.mono hz)).setCell (p:=⟨w.heap.size+1,0,none⟩) (by show w.heap.size<=w.heap.size+1;omega) _,p,by rw[Hfe.out], ?_⟩;rw[Hfe.out,if_pos rfl];exact(ht6.mono (T:=fun i=>wr.heap.size<=i) fun i _ h=>h.elim False.elim id).later (by simp[World.setCell]) (fun i i1 _=>Below.heap_setCell _ _ _ _ (by show i≠w.heap.size+1;omega)) |>.mono fun i _ h=>Nat.le_trans hz h
        have Hc:=qz ((hR6.set_ 0 (.pointer p)).cell 0);clear hb6 ht6 hR6;go_wp2;exact bodyPost_ret (Dk rfl rfl Hc.out) rfl HP.out
   . have hne:(k != 6)=true:=by simpa using hk
     have HP:Hid (PO (.returned (.tuple #[.agg #[.pointer none],.int .i64 9])) (w2.setCell ⟨w.heap.size+1,0,none⟩ (.pointer none))):=Herr.out 9 (by rw[Hf2.out hm,if_pos hk]) (by decide) _ (HB2.out.setCell (p:=⟨w.heap.size+1,0,none⟩) (by show w.heap.size<=w.heap.size+1;omega) _);have Hc:=qz ((HR2.out.set_ 0 (.pointer none)).cell 0);go_wp2;exact bodyPost_ret (Dk rfl rfl Hc.out) rfl HP.out
 . have he:=Hf1.out hm HPO.out;have HP:Hid (PO (.returned (.tuple #[.agg #[.pointer none],.int .i64 (Aw (.mk k b n t l o) 1)])) (w2.setCell ⟨w.heap.size+1,0,none⟩ (.pointer none))):=Herr.out _ he hm _ (HB2.out.setCell (p:=⟨w.heap.size+1,0,none⟩) (by show w.heap.size<=w.heap.size+1;omega) _);have Hc:=qz ((HR2.out.set_ 0 (.pointer none)).cell 0);generalize Aw (.mk k b n t l o) 1=E at hm HP ⊢;have hne:(E != 0)=true:=by simpa using hm
   go_wp2;exact bodyPost_ret (Dk rfl rfl Hc.out) rfl HP.out
def E1 (s:List UInt8):Int×List Bj:=match Ej s with
 | .bad c _=>(c, [])
 | .ok v _=>Di v
def Aci:List Bj:= [(⟨#[98]⟩,iv 1),(⟨#[97]⟩,lv [])]
def Acj:List Bj:= [(⟨#[97]⟩,lv []),(⟨#[98]⟩,iv 1)]
abbrev Ah6:ByteArray:=⟨#[123,34,97,34,58,91,93,44,34,98,34,58,49,125]⟩
theorem Ux:Db (C0 Aci)=Acj:=by rw[(Hu Aci).2.1];kernel_rfl
theorem Abb:A6 Acj=0:=by decide+kernel
theorem Aeq:Aw (ov Acj) 1=0:=by decide+kernel
theorem Af4:Bn (ov Acj)=Ah6.data.toList:=by kernel_rfl
theorem Ahz:W8 Acj=Ah6:=by
 unfold W8 L2;rw[if_pos Abb,if_pos Aeq,Af4]
theorem Ah0:E1 [91,93]=(9, []):=by kernel_rfl
theorem Ah1:E1 [123,34,34,58,49,125]=(8, []):=by kernel_rfl
theorem Ah2:E1 [123,34,97,34,58,49]=(4, []):=by kernel_rfl
theorem Su (l:List Bj) (M:Nat) (a:Option Addr) (n c:Nat) (w:World) (hT:B3 w) (hM:w.cell? ⟨M,0,none⟩=some (.slice a n c)) (h:Ah w w.heap.size (.row 7 (dO l)) [.slice a n c]) (hb:Ae l<=50000000) (hin:G3 l) (hmv:A6 l=0->Aw (ov l) 1=0):
 Calls Tryz.prog 15 #[.pointer (some ⟨M,0,none⟩)] w fun e w'=>e=.returned (.tuple #[.string (W8 l),.int .i64 (A6 l)])/\Below w.heap.size w w':=by
 obtain⟨PO,hPO⟩: ∃P:Ending->World->Prop,(fun e w'=>e=.returned (.tuple #[.string (W8 l),.int .i64 (A6 l)])/\Below w.heap.size w w')=P:=⟨_,rfl⟩;rw[hPO];have hC:=S1 l M a n c w hT hM h hb hin;have HTx:=qz (fun(h0:A6 l=0) (W:World) cs hv=>Pq (ov l) cs W 1 hv (by have:=Wk l;omega) (hmv h0) (Aei hin));have Hfz:Hid (A6 l=0->W8 l=⟨(Bn (ov l)).toArray⟩):=fun h=>by unfold W8 L2;rw[if_pos h,if_pos (hmv h)]
 have Hfz2:Hid (A6 l≠0->W8 l=⟨#[]⟩):=fun h=>if_neg h;unfold Ub at hC;obtain⟨HC,HPO⟩:=hid2 hC hPO;clear hC hPO;clear hT hb hin hmv h hM;go_enter Tryz.func15,Tryz.ntmps15;go_wp2_with (fail);(with_reducible refine(HC.out).mono ?_);rintro e w1 ⟨hb1,a,n,c,rfl,hh⟩;by_cases hm:A6 l=0
 . rw[if_pos hm]at hh ⊢;rw[if_pos hm]at hh;have hv:=Cb _ _ ((hh.below (Aa w1 (.cells #[.int .i64 6,.bool false,.int .i64 0,.string ⟨#[]⟩,.slice none 0 0,.slice a n c] 37))).more (Aa w1 (.cells #[.int .i64 6,.bool false,.int .i64 0,.string ⟨#[]⟩,.slice none 0 0,.slice a n c] 37)).size);have Hbw2:=qz (hb1.alloc hb1.size (.cells #[.int .i64 6,.bool false,.int .i64 0,.string ⟨#[]⟩,.slice none 0 0,.slice a n c] 37));have hC2:=HTx.out hm _ _ hv;have hfin: ∀W,Below w.heap.size w W->PO (.returned (.tuple #[.string ⟨(Bn (ov l)).toArray⟩,.int .i64 0])) W:=fun W hW=>by
    rw[<-HPO.out];exact⟨by rw[Hfz.out hm,hm],hW⟩
   rw[hm];generalize (⟨(Bn (ov l)).toArray⟩:ByteArray)=S at hC2 hfin;obtain⟨HC2,Hfin⟩:=hid2 hC2 hfin;clear hC2 hfin;clear hh hv hb1;go_wp2_with (fail);(with_reducible refine(HC2.out).mono ?_);rintro e w2 ⟨rfl,hb2⟩;have HP:=qz (Hfin.out w2 (Hbw2.out.trans (hb2.mono Hbw2.out.size)));clear hb2;go_wp2;exact HP.out
 . rw[if_neg hm]at hh ⊢;have q0:(A6 l != 0)=true:=by simpa using hm
   have HP:Hid (PO (.returned (.tuple #[.string ⟨#[]⟩,.int .i64 (A6 l)])) (w1.alloc (.cells #[.int .i64 0,.bool false,.int .i64 0,.string ⟨#[]⟩,.slice none 0 0,.slice a n c] 37))):=by
    show PO _ _;rw[<-HPO.out];exact⟨by rw[Hfz2.out hm],hb1.alloc hb1.size _⟩
   generalize A6 l=M at q0 HP ⊢;clear hh hb1;go_wp2;exact HP.out
end Go.Proofs.YtkmcjfkokoidcaaGreatDoor
