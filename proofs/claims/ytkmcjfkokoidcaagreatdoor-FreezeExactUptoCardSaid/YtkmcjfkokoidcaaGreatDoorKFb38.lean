/- Parts: What is of a tree, and of a map, later; values that may be, in lists. Plain. No condition. -/
import Derived.Test.YtkmcjfkokoidcaaGreatDoorKFb31
import Derived.Test.YtkmcjfkokoidcaaGreatDoorKFb36
set_option maxHeartbeats 20000000
set_option maxRecDepth 100000
namespace Go.Proofs.YtkmcjfkokoidcaaGreatDoor
open Go Go.RowKit
theorem A0.old {S0:Nat->Prop} {b s:Nat} {t:TypeId} {w:World} {l:List D} {V:Value} (h:A0 S0 b t s w l V):A0 (fun i=>S0 i/\i<w.heap.size) b t s w l V:=by
 obtain⟨ns,h1,h2,h3⟩:=h;exact⟨ns,h1,h2,(h3.base (Below.refl _ _)).mono fun i _ hi=>⟨⟨hi.1.1,hi.2⟩,hi.1.2⟩⟩
theorem Dk {fn:Func} {t u:Tmp} {tmps:Array Value} {W:World} {R:Nat} {a:Value} (h:fn.results= #[.cell t 26,.tmp u]) (hp:tmps.getD t undef=.pointer (some ⟨R,0,none⟩)) (hx:W.cell? ⟨R,0,none⟩=some a):
 (results fn tmps).run Tryz.prog W=.ok (.tuple #[.agg #[a],tmps.getD u undef]) W:=by
 have hp':tmps[t]?.getD undef=.pointer (some ⟨R,0,none⟩):=by simpa using hp
 simp[results,h,hp',go_sem,hx]
theorem Lw (k:ByteArray) (v:Val) (c0 c1 c2 c3 c4 c5:Value) (w:World) (hT:B3 w) (hV:Ac w w.heap.size v [c0,c1,c2,c3,c4,c5]) (hk:k.size<=1000000000) (hb:v.bulk<=100000000) (hi:Kd v):
 Calls Tryz.prog 47 #[.string k,.agg #[c0,c1,c2,c3,c4,c5]] w fun e w'=>e=.returned (.int .i64 (I0 (k,v)))/\Below w.heap.size w w':=by
 obtain⟨PO,hPO⟩: ∃P:Ending->World->Prop,(fun e w'=>e=.returned (.int .i64 (I0 (k,v)))/\Below w.heap.size w w')=P:=⟨_,rfl⟩;rw[hPO];have hV':=hV;obtain⟨kk,b,n,t,l,o⟩:=v;simp only[Ac]at hV';obtain⟨la,lc,oa,oc,hcs,_,_⟩:=hV';simp only[List.cons.injEq,and_true]at hcs;obtain⟨rfl,rfl,rfl,rfl,rfl,rfl⟩:=hcs;rw[Abc]at hPO;have hb1:=Aa w (.cells #[.int .i64 kk,.bool b,.int .i64 n,.string t,.slice la l.length lc,.slice oa o.length oc] 37);have hx1:=Aj.new w 37 #[.int .i64 kk,.bool b,.int .i64 n,.string t,.slice la l.length lc,.slice oa o.length oc];have HK:=qz (fun W=>Aab k W hk);have HF:=qz (Vy _ _ _ (hT.below hb1) ((hV.below hb1).more hb1.size) hb hi);obtain⟨x0,x1,x2,x3,x4,x5⟩:=Az hx1;have lx:=hx1.lt;obtain⟨HPO,Hb1⟩:=hid2 hPO hb1;clear hPO hb1;clear hV hT hx1;go_enter Tryz.func47,Tryz.ntmps47;go_wp2_with (fail);(with_reducible refine(HK.out _).mono ?_);rintro e w2 ⟨rfl,rfl⟩;by_cases h0:Lr k=0
 . have e0:(Lr k != 0)=false:=by simpa using h0
   go_wp2_with (fail);(with_reducible refine(HF.out).mono ?_);rintro e w3 ⟨rfl,hb3⟩;have HP:Hid (PO (.returned (.int .i64 (G0 (.mk kk b n t l o)))) w3):=by
    show PO _ _;rw[<-HPO.out];exact⟨by rw[if_neg (fun e=>e h0)],Hb1.out.trans (hb3.mono Hb1.out.size)⟩
   clear hb3;go_wp2;exact HP.out
 . have e0:(Lr k != 0)=true:=by simpa using h0
   have HP:Hid (PO (.returned (.int .i64 8)) (w.alloc (.cells #[.int .i64 kk,.bool b,.int .i64 n,.string t,.slice la l.length lc,.slice oa o.length oc] 37))):=by
    show PO _ _;rw[<-HPO.out];exact⟨by rw[if_pos h0],Hb1.out⟩
   generalize Lr k=E at*
   clear h0 HPO;go_wp2;exact HP.out
theorem Ag7 {S:Nat->Prop} {w:World} {key:ByteArray} {v:Val} {cs:List Value} (h:Ai S w (dV v) cs):Ai S w (dP (key,v)) (.string key::cs):=fun w'' h1 h2=>⟨[.string key],cs,rfl,⟨rfl,rfl⟩,cs, [],(List.append_nil _).symm,h w'' h1 h2,rfl⟩
theorem Vv (w:World) (B:Nat):Ah w B (dV Kc) [.int .i64 0,.bool false,.int .i64 0,.string ⟨#[]⟩,.slice none 0 0,.slice none 0 0]:=D3 _ _ (Mf w B)
theorem Acu {w:World} {B:Nat} {o:List Bj} {a:Option Addr} {c:Nat} (h:Ah w B (.row 7 (dO o)) [.slice a o.length c]):Ah w B (dV (ov o)) [.int .i64 6,.bool false,.int .i64 0,.string ⟨#[]⟩,.slice none 0 0,.slice a o.length c]:=by
 unfold ov dV;exact⟨[.int .i64 6],_,rfl,⟨rfl,rfl⟩, [.bool false],_,rfl,⟨rfl,rfl⟩, [.int .i64 0],_,rfl,⟨rfl,rfl⟩, [.string ⟨#[]⟩],_,rfl,⟨rfl,rfl⟩, [.slice none 0 0],_,rfl,⟨none,0,rfl,fun d hd=>by simp[dL]at hd, [],rfl,.inl rfl⟩, [.slice a o.length c], [],rfl,h,rfl⟩
def Ub (l:List Bj) (w:World) (e:Ending) (w':World):Prop:=Below w.heap.size w w'/\ ∃a n c,e=.returned (.tuple #[.agg #[.int .i64 (if A6 l=0 then 6 else 0),.bool false,.int .i64 0,.string ⟨#[]⟩,.slice none 0 0,.slice a n c],.int .i64 (A6 l)])/\Ah w' w'.heap.size (dV (if A6 l=0 then ov l else Kc)) [.int .i64 (if A6 l=0 then 6 else 0),.bool false,.int .i64 0,.string ⟨#[]⟩,.slice none 0 0,.slice a n c]
def Afo (w:World) (l:List Bj) (q:Nat) (wr:World) (V:Value):Prop:=Below w.heap.size w wr/\Aj wr w.heap.size 37 A5/\Aj wr (w.heap.size+1) 37 #[.int .i64 6,.bool false,.int .i64 0,.string ⟨#[]⟩,.slice none 0 0,V]/\A0 (fun i=>i<w.heap.size) (w.heap.size+2) 94 7 wr (dO (l.take q)) V/\A6 (l.take q)=0
theorem S1 (l:List Bj) (M:Nat) (a:Option Addr) (n c:Nat) (w:World) (hT:B3 w) (hM:w.cell? ⟨M,0,none⟩=some (.slice a n c)) (h:Ah w w.heap.size (.row 7 (dO l)) [.slice a n c]) (hb:Ae l<=50000000) (hin:G3 l):
 Calls Tryz.prog 16 #[.pointer (some ⟨M,0,none⟩)] w (Ub l w):=by
 obtain⟨PO,hPO⟩: ∃P:Ending->World->Prop,Ub l w=P:=⟨_,rfl⟩;rw[hPO];have hln:=Ba l;have hn:=h.row_len;rw[Ax]at hn;subst hn;have lM:M<w.heap.size:=World.block_lt_of_cell? w _ hM;obtain⟨j0,hj,hy0,hy1,hy2⟩:=info_parts Nj;have hI0:Afo w l 0 ((w.alloc (.cells A5 37)).alloc (.cells #[.int .i64 6,.bool false,.int .i64 0,.string ⟨#[]⟩,.slice none 0 0,.slice none 0 0] 37)) (.slice none 0 0):=
  ⟨(Aa w _).alloc (by simp) _,(Aj.new _ _ _).alloc _,Aj.nxt _ _ _ _,by simpa[dO]using A0.nil _ _ _ _ _,rfl⟩
 have HTI:=qz (Ai.of_old h (Nat.le_refl _) (Below.refl _ _));obtain⟨HPO,HI0,Hj,Hy0,Hy1,Hy2,HT⟩:=hid7 hPO hI0 hj hy0 hy1 hy2 hT;clear hPO hI0 hj hy0 hy1 hy2 hT;clear h;go_enter Tryz.func16,Tryz.ntmps16;go_wp2_with (fail);go_loopw [5] (fun i wr=> ∃q:Nat,i=.int .i64 q/\q<=l.length/\ ∃V,Hid (Afo w l q wr V)) (fun i _=>l.length - (intOf i).toNat)
 case atStart=>exact⟨0,rfl,Nat.zero_le _,_,HI0⟩
 case round=>
  obtain⟨q,rfl,hq,V,hI⟩:=hrel;clear HI0;obtain⟨hbw,hx0,hx1,hrow,hm0⟩:=hI.out;have hz:=hbw.size;have lx0:=hx0.lt;have lx1:=hx1.lt;have hMr:wr.cell? ⟨M,0,none⟩=some (.slice a l.length c):=(hbw.cell (p:=⟨M,0,none⟩) lM).trans hM;by_cases hlt:q<l.length
  . obtain⟨⟨key,⟨k',b',n',t',l',o'⟩⟩,hx⟩: ∃v,l[q]? =some v:=⟨_,List.getElem?_eq_getElem hlt⟩;have hmem:=List.mem_of_getElem? hx;have hbm:=Ck hmem;simp only at hbm;have hine:=Ng hin hmem;obtain⟨g,off,rfl,hg,la,lc,oa,oc,hv0,d0,d1,d2,d3,d4,d5,d6⟩:=Jc HTI.out hx;have hv:=hv0.below hbw;have hgr:g<wr.heap.size:=by omega
    have lMr:M<wr.heap.size:=by omega
    have q1:(q:Int)<(l.length:Int):=by omega
    have q0:(0:Int)<=q:=by omega
    obtain⟨hmt,hme⟩:=J0 hm0 hx;have hkeep: ∀W,Below w.heap.size wr W->(W.cell? ⟨M,0,none⟩=some (.slice (some ⟨g,off,none⟩) l.length c)/\W.cell? ⟨g,off+q*7,none⟩=some (.string key)/\W.cell? ⟨g,off+q*7+1,none⟩=some (.int .i64 k')/\W.cell? ⟨g,off+q*7+2,none⟩=some (.bool b')/\W.cell? ⟨g,off+q*7+3,none⟩=some (.int .i64 n')/\W.cell? ⟨g,off+q*7+4,none⟩=some (.string t')/\W.cell? ⟨g,off+q*7+5,none⟩=some (.slice la l'.length lc)/\W.cell? ⟨g,off+q*7+6,none⟩=some (.slice oa o'.length oc)):=fun W hW=>
     ⟨(hW.cell (p:=⟨M,0,none⟩) lM).trans hMr,(hW.cell hg).trans ((hbw.cell hg).trans d0),(hW.cell hg).trans ((hbw.cell hg).trans d1),(hW.cell hg).trans ((hbw.cell hg).trans d2),(hW.cell hg).trans ((hbw.cell hg).trans d3),(hW.cell hg).trans ((hbw.cell hg).trans d4),(hW.cell hg).trans ((hbw.cell hg).trans d5),(hW.cell hg).trans ((hbw.cell hg).trans d6)⟩
    have HC:=qz (Lw key (.mk k' b' n' t' l' o') _ _ _ _ _ _ wr.drew (HT.out.below (hbw.trans ((Below.drew (Below.refl _ _)).mono hz))) (Cb _ _ (hv.below (Below.drew (Below.refl _ _))).now) (by omega) (by omega) hine);generalize hME:I0 (key,.mk k' b' n' t' l' o')=E at*
    obtain⟨Hbw,Hkeep,Hx0,Hx1,Hrow,Hv,Hmt,Hme,Hx⟩:=hid9 hbw hkeep hx0 hx1 hrow hv hmt hme hx;clear hbw hkeep hx0 hx1 hrow hv hmt hme hx;clear hI hv0 d0 d1 d2 d3 d4 d5 d6 hmem hine hm0;have hHx:=Hkeep.out wr (Below.refl _ _);go_wp2_with (fail);go_upto_region 5 with(fail);clear hHx;refine wp_region_held_drew (S:=fun W:World=>W.cell? ⟨M,0,none⟩=some (.slice (some ⟨g,off,none⟩) l.length c)/\W.cell? ⟨g,off+q*7,none⟩=some (.string key)/\W.cell? ⟨g,off+q*7+1,none⟩=some (.int .i64 k')/\W.cell? ⟨g,off+q*7+2,none⟩=some (.bool b')/\W.cell? ⟨g,off+q*7+3,none⟩=some (.int .i64 n')/\W.cell? ⟨g,off+q*7+4,none⟩=some (.string t')/\W.cell? ⟨g,off+q*7+5,none⟩=some (.slice la l'.length lc)/\W.cell? ⟨g,off+q*7+6,none⟩=some (.slice oa o'.length oc)) (by kernel_rfl) (Hkeep.out _ (Below.drew (Below.refl _ _))) (fun hHeld=> ?_);refine tkH 0 hHeld ?_;refine tkH 1 hHeld ?_;refine tkH 2 hHeld ?_;refine tkH 3 hHeld ?_;refine tkH 4 hHeld ?_;refine tkH 5 hHeld ?_;refine tkH 6 hHeld ?_;refine tkH 7 hHeld ?_;refine tkH 8 hHeld ?_;refine tkH 9 hHeld ?_;refine tkH 10 hHeld ?_;refine tkH 11 hHeld ?_;refine tkH 12 hHeld ?_;refine tkH 13 hHeld ?_;refine tkH 14 hHeld ?_;refine tkH 15 hHeld ?_;refine Ie 16 fun K hK=> ?_;go_simp;(with_reducible refine(HC.out).mono ?_);rintro e w2 ⟨rfl,hb2⟩;have hw2:Below wr.heap.size wr w2:=(Below.drew (Below.refl _ _)).trans hb2;refine hK.out _ _ (Hkeep.out _ (hw2.mono hz)) (fun hHeld=> ?_);clear hK K hb2 HC
    try simp only[Act.put,tk1,tk2,tk3,tk4,tk5,tk6]
    refine tkH 17 hHeld ?_;refine wpAnyH_done (by kernel_rfl) ?_ _;clear hHeld;by_cases hE:E=0
    . subst hE;have hwd:Below w.heap.size wr w2.drew:=(hw2.mono hz).trans ((Below.drew (Below.refl _ _)).mono (Nat.le_trans hz hw2.size));have hb4:=Aa w2.drew (.cells #[.string key,.int .i64 k',.bool b',.int .i64 n',.string t',.slice la l'.length lc,.slice oa o'.length oc] 94);have hwd4:Below w.heap.size wr (w2.drew.alloc (.cells #[.string key,.int .i64 k',.bool b',.int .i64 n',.string t',.slice la l'.length lc,.slice oa o'.length oc] 94)):=hwd.trans (hb4.mono (Nat.le_trans hz hwd.size));have hb24:Below w2.heap.size w2 (w2.drew.alloc (.cells #[.string key,.int .i64 k',.bool b',.int .i64 n',.string t',.slice la l'.length lc,.slice oa o'.length oc] 94)):=(Below.drew (Below.refl _ _)).trans hb4;have hr4:=((Hrow.out.below hw2).below hb24);have hln2:(dO (l.take q)).length=q:=by rw[Ax,List.length_take];omega
      obtain⟨aV,cV,rfl⟩:=hr4.slice_n hln2;have hba:=hr4.base;have Hd4:Hid (Ai (fun i=>i<w.heap.size/\(Value.slice aV q cV).ownBlock≠some i) (w2.drew.alloc (.cells #[.string key,.int .i64 k',.bool b',.int .i64 n',.string t',.slice la l'.length lc,.slice oa o'.length oc] 94)) (dP (key,.mk k' b' n' t' l' o')) [.string key,.int .i64 k',.bool b',.int .i64 n',.string t',.slice la l'.length lc,.slice oa o'.length oc]):=(Ag7 ((Hv.out.below hw2).below hb24)).mono fun i _ hi=>⟨hi,fun e=>by have:=(hba i e).1;omega⟩;have Hrd:=qz (Ge (Aj.new w2.drew 94 #[.string key,.int .i64 k',.bool b',.int .i64 n',.string t',.slice la l'.length lc,.slice oa o'.length oc]));have hx12:=Hx1.out.below hw2 lx1;have hx02:=Hx0.out.below hw2 lx0;have Hx14:=qz (hx12.below hb24 hx12.lt);have x5:=hx12.cell 5;have lx2:=hx12.lt;have Hx04:=qz (hx02.below hb24 hx02.lt);have hbs:w.heap.size+2<=(w2.drew.alloc (.cells #[.string key,.int .i64 k',.bool b',.int .i64 n',.string t',.slice la l'.length lc,.slice oa o'.length oc] 94)).heap.size:=by have h1:=hb24.size;have h2:=hx12.lt;omega
      have hcat:dO (l.take q)++ [dP (key,.mk k' b' n' t' l' o')]=dO (l.take (q+1)):=by rw[Bl,Bl,List.take_add_one,Hx.out];simp
      have hkd:=Hkeep.out _ hwd;have hk4:=Hkeep.out _ hwd4;have hLo:Hid ((dO (l.take q)).length+1<=maxLen/\((dO (l.take q)).length+1)*104<=140737488355328):=by rw[hln2];exact⟨by simp only[maxLen];omega,by omega⟩
      obtain⟨Hr4,Hwd4,Hbs,Hcat,Hba,Hkd,Hk4⟩:=hid7 hr4 hwd4 hbs hcat hba hkd hk4;clear hr4 hwd4 hbs hcat hba hkd hk4;clear hwd hb4 hb24 hx12 hx02;go_wp2_with (fail);go_upto_region 8 with(fail);refine wp_region_held_drew (S:=fun W:World=>W.cell? ⟨M,0,none⟩=some (.slice (some ⟨g,off,none⟩) l.length c)/\W.cell? ⟨g,off+q*7,none⟩=some (.string key)/\W.cell? ⟨g,off+q*7+1,none⟩=some (.int .i64 k')/\W.cell? ⟨g,off+q*7+2,none⟩=some (.bool b')/\W.cell? ⟨g,off+q*7+3,none⟩=some (.int .i64 n')/\W.cell? ⟨g,off+q*7+4,none⟩=some (.string t')/\W.cell? ⟨g,off+q*7+5,none⟩=some (.slice la l'.length lc)/\W.cell? ⟨g,off+q*7+6,none⟩=some (.slice oa o'.length oc)) (by kernel_rfl) Hkd.out (fun hHeld=> ?_);refine tkH 0 hHeld ?_;refine tkH 2 hHeld ?_;refine tkH 3 hHeld ?_;refine tkH 4 hHeld ?_;refine tkH 5 hHeld ?_;refine tkH 6 hHeld ?_;refine tkH 7 hHeld ?_;refine tkH 8 hHeld ?_;refine tkH 9 hHeld ?_;refine tkH 10 hHeld ?_;refine tkH 11 hHeld ?_;refine tkH 12 hHeld ?_;refine tkH 13 hHeld ?_;refine tkH 14 hHeld ?_;refine tkH 15 hHeld ?_;refine tkH 16 hHeld ?_;refine tkH 17 hHeld ?_;refine tkH 18 hHeld ?_;refine rd2 1 19 (fun K hK=> ?_) (fun K hK=> ?_)
      . go_simp;refine hK.out _ _ Hkd.out (fun hHeld=> ?_);clear hK K
        try simp only[Act.put,tk1,tk2,tk3,tk4,tk5,tk6]
        refine Ie 19 fun K hK=> ?_;go_simp;refine hK.out _ _ Hk4.out (fun hHeld=> ?_);clear hK K
        try simp only[Act.put,tk1,tk2,tk3,tk4,tk5,tk6]
        refine Ie 20 fun K hK=> ?_;refine I6 (d:=dP (key,.mk k' b' n' t' l' o')) rfl (.tmp 39) (.tmp 57) 35 rfl Tryz.underlying35 Hj.out Hy0.out Hy1.out Hy2.out rfl (by omega) rfl Hr4.out Hbs.out (Cs _) Hd4.out rfl Hrd.out hLo.out.1 hLo.out.2 ?_;intro V5 w5 hr5 hg5 hat5;rw[Hcat.out]at hr5;have hg5:(w2.drew.alloc (.cells #[.string key,.int .i64 k',.bool b',.int .i64 n',.string t',.slice la l'.length lc,.slice oa o'.length oc] 94)).grownBy w5 (Value.slice aV q cV).ownBlock:=hg5;have hl5:(dO (l.take (q+1))).length=q+1:=by rw[Ax,List.length_take];omega
        obtain⟨a5,c5,rfl⟩:=hr5.slice_n hl5;have hw5:Below w.heap.size wr w5:=Hwd4.out.grown hg5 (Nat.le_trans (by omega) Hbs.out) (fun k hk=>by have:=(Hba.out k hk).1;omega);have hx15:=Hx14.out.grown hg5 (fun e=>by have:=(Hba.out _ e.symm).1;omega);have hx05:=Hx04.out.grown hg5 (fun e=>by have:=(Hba.out _ e.symm).1;omega);have hba5:=hr5.base;refine hK.out _ _ (Hkeep.out _ hw5) (fun hHeld=> ?_);clear hK K
        try simp only[Act.put,tk1,tk2,tk3,tk4,tk5,tk6]
        have z5:=hx15.cell 5;have lz5:=hx15.lt;have fz5:=hx15.frozen;have hw6:Below w.heap.size wr (w5.setCell ⟨w.heap.size+1,5,none⟩ (.slice a5 (q+1) c5)):=hw5.setCell (by show w.heap.size<=w.heap.size+1;omega) _;have HN:Hid (Afo w l (q+1) (w5.setCell ⟨w.heap.size+1,5,none⟩ (.slice a5 (q+1) c5)) (.slice a5 (q+1) c5)):=⟨Hbw.out.trans hw6,hx05.far (by show w.heap.size≠w.heap.size+1;omega) _,hx15.set_ 5 _,hr5.keepN (Nat.le_refl _) (fun i hi=>hi) (by simp[World.setCell]) (fun i i1 _=>Below.heap_setCell _ _ _ _ (by
         show i≠w.heap.size+1;rcases i1 with i1|i1
         . omega
         . have:=(hba5 i i1).1;omega)),Hmt.out⟩
        refine tkH 21 hHeld ?_;refine Ie 22 fun K hK=> ?_;go_simp;refine hK.out _ _ (Hkeep.out _ hw6) (fun hHeld=> ?_);clear hK K
        try simp only[Act.put,tk1,tk2,tk3,tk4,tk5,tk6]
        refine wpAnyH_done (by kernel_rfl) ?_ _;clear hHeld hr5 hg5 hat5 hl5 hx15 hx05 hba5 z5 lz5 fz5 hw5 hw6;go_wp2;go_roundw
        case rel=>exact⟨q+1,by go_num,by omega,_,HN⟩
        case measure=>simp only[intOf];omega
      . go_simp;refine hK.out _ _ Hk4.out (fun hHeld=> ?_);clear hK K
        try simp only[Act.put,tk1,tk2,tk3,tk4,tk5,tk6]
        have x5':=Hx14.out.cell 5;refine Ie 1 fun K hK=> ?_;go_simp;refine hK.out _ _ Hk4.out (fun hHeld=> ?_);clear hK K
        try simp only[Act.put,tk1,tk2,tk3,tk4,tk5,tk6]
        refine Ie 20 fun K hK=> ?_;refine I6 (d:=dP (key,.mk k' b' n' t' l' o')) rfl (.tmp 39) (.tmp 57) 35 rfl Tryz.underlying35 Hj.out Hy0.out Hy1.out Hy2.out rfl (by omega) rfl Hr4.out Hbs.out (Cs _) Hd4.out rfl Hrd.out hLo.out.1 hLo.out.2 ?_;intro V5 w5 hr5 hg5 hat5;rw[Hcat.out]at hr5;have hg5:(w2.drew.alloc (.cells #[.string key,.int .i64 k',.bool b',.int .i64 n',.string t',.slice la l'.length lc,.slice oa o'.length oc] 94)).grownBy w5 (Value.slice aV q cV).ownBlock:=hg5;have hl5:(dO (l.take (q+1))).length=q+1:=by rw[Ax,List.length_take];omega
        obtain⟨a5,c5,rfl⟩:=hr5.slice_n hl5;have hw5:Below w.heap.size wr w5:=Hwd4.out.grown hg5 (Nat.le_trans (by omega) Hbs.out) (fun k hk=>by have:=(Hba.out k hk).1;omega);have hx15:=Hx14.out.grown hg5 (fun e=>by have:=(Hba.out _ e.symm).1;omega);have hx05:=Hx04.out.grown hg5 (fun e=>by have:=(Hba.out _ e.symm).1;omega);have hba5:=hr5.base;refine hK.out _ _ (Hkeep.out _ hw5) (fun hHeld=> ?_);clear hK K
        try simp only[Act.put,tk1,tk2,tk3,tk4,tk5,tk6]
        have z5:=hx15.cell 5;have lz5:=hx15.lt;have fz5:=hx15.frozen;have hw6:Below w.heap.size wr (w5.setCell ⟨w.heap.size+1,5,none⟩ (.slice a5 (q+1) c5)):=hw5.setCell (by show w.heap.size<=w.heap.size+1;omega) _;have HN:Hid (Afo w l (q+1) (w5.setCell ⟨w.heap.size+1,5,none⟩ (.slice a5 (q+1) c5)) (.slice a5 (q+1) c5)):=⟨Hbw.out.trans hw6,hx05.far (by show w.heap.size≠w.heap.size+1;omega) _,hx15.set_ 5 _,hr5.keepN (Nat.le_refl _) (fun i hi=>hi) (by simp[World.setCell]) (fun i i1 _=>Below.heap_setCell _ _ _ _ (by
         show i≠w.heap.size+1;rcases i1 with i1|i1
         . omega
         . have:=(hba5 i i1).1;omega)),Hmt.out⟩
        refine tkH 21 hHeld ?_;refine Ie 22 fun K hK=> ?_;go_simp;refine hK.out _ _ (Hkeep.out _ hw6) (fun hHeld=> ?_);clear hK K
        try simp only[Act.put,tk1,tk2,tk3,tk4,tk5,tk6]
        refine wpAnyH_done (by kernel_rfl) ?_ _;clear hHeld hr5 hg5 hat5 hl5 hx15 hx05 hba5 z5 lz5 fz5 hw5 hw6;go_wp2;go_roundw
        case rel=>exact⟨q+1,by go_num,by omega,_,HN⟩
        case measure=>simp only[intOf];omega
    . have hne:(E != 0)=true:=by simpa using hE
      have hx02:=Hx0.out.below hw2 lx0;obtain⟨x0,x1,x2,x3,x4,x5⟩:=Az hx02;have fz:=hx02.frozen;have lx:=hx02.lt;have HX:=qz hx02;have HP:Hid (PO (.returned (.tuple #[.agg #[.int .i64 0,.bool false,.int .i64 0,.string ⟨#[]⟩,.slice none 0 0,.slice none 0 0],.int .i64 E])) (An w2 w.heap.size 0 [.int .i64 0,.bool false,.int .i64 0,.string ⟨#[]⟩,.slice none 0 0,.slice none 0 0])):=by
       show PO _ _;rw[<-HPO.out];have e1:=Hme.out hE;refine⟨Bq [.int .i64 0,.bool false,.int .i64 0,.string ⟨#[]⟩,.slice none 0 0,.slice none 0 0] (Hbw.out.trans (hw2.mono hz)) (Nat.le_refl _) (o:=0),_,_,_,by rw[e1,if_neg hE], ?_⟩;rw[e1,if_neg hE,if_neg hE];exact Vv _ _
      clear hx02 hw2 hE;go_wp2;exact bodyPost_ret (Ka rfl rfl ((((((HX.out.set_ 0 (.int .i64 0)).set_ 1 (.bool false)).set_ 2 (.int .i64 0)).set_ 3 (.string ⟨#[]⟩)).set_ 4 (.slice none 0 0)).set_ 5 (.slice none 0 0))) rfl HP.out
  . obtain rfl:q=l.length:=by omega
    rw[List.take_length]at hrow hm0;have hln2:(dO l).length=l.length:=Ax l;obtain⟨aV,cV,rfl⟩:=hrow.slice_n hln2;obtain⟨x0,x1,x2,x3,x4,x5⟩:=Az hx0;obtain⟨z0,z1,z2,z3,z4,z5⟩:=Az hx1;have fz:=hx0.frozen;have hba:=hrow.base;have q1: ¬(l.length:Int)<(l.length:Int):=by omega
    have HP:Hid (PO (.returned (.tuple #[.agg #[.int .i64 6,.bool false,.int .i64 0,.string ⟨#[]⟩,.slice none 0 0,.slice aV l.length cV],.int .i64 0])) (An wr w.heap.size 0 [.int .i64 6,.bool false,.int .i64 0,.string ⟨#[]⟩,.slice none 0 0,.slice aV l.length cV])):=by
     show PO _ _;rw[<-HPO.out];refine⟨Bq [.int .i64 6,.bool false,.int .i64 0,.string ⟨#[]⟩,.slice none 0 0,.slice aV l.length cV] hbw (Nat.le_refl _) (o:=0),_,_,_,by rw[if_pos hm0,hm0], ?_⟩;rw[if_pos hm0,if_pos hm0];have hh:=hrow.closeIn;refine Acu (hh.later (Nat.le_of_eq (Bb _ _ _ _).symm) fun p p1 _=>World.cell?_of_block (Ar _ _ _ _ _ ?_)).now;rcases p1 with p1|p1
     . omega
     . have:=(hba _ p1).1;omega
    have HX:=qz hx0;clear hI hbw hx0 hx1 hrow hm0 hba;go_wp2;exact bodyPost_ret (Ka rfl rfl ((((((HX.out.set_ 0 (.int .i64 6)).set_ 1 (.bool false)).set_ 2 (.int .i64 0)).set_ 3 (.string ⟨#[]⟩)).set_ 4 (.slice none 0 0)).set_ 5 (.slice aV l.length cV))) rfl HP.out
theorem Abp.later {b:Nat} {w w':World} {M:Nat} {V:Value} {l:List Bj} {S0:Nat->Prop} (h:Abp S0 b w M V l) (hb:Below w.heap.size w w'): ∃a c,w'.cell? ⟨M,0,none⟩=some (.slice a l.length c)/\Ai (fun i=>i<w.heap.size) w' (.row 7 (dO l)) [.slice a l.length c]/\M<w.heap.size:=by
 obtain⟨h1,h2,_⟩:=h;obtain⟨a,c,rfl⟩:=h2.slice_n (Ax l);refine⟨a,c,(hb.cell (p:=⟨M,0,none⟩) h1.lt).trans (h1.cell 0), ?_,h1.lt⟩;have h3:Ai (fun i=>i<w.heap.size) w (.row 7 (dO l)) [.slice a l.length c]:=Ai.of_old h2.close (Nat.le_refl _) (Below.refl _ _);exact h3.below hb
end Go.Proofs.YtkmcjfkokoidcaaGreatDoor
