/- Parts: commonplaceref10.Entry, Value: a map's object, or why there is none. Condition: a bulk of at most 5 * 10^7. -/
import Derived.Test.YtnkmhaachfgaoaaGreatDoorKPatchLeads1
import Derived.Test.YtnkmhaachfgaoaaGreatDoorKPatchLeads2
set_option maxHeartbeats 20000000
set_option maxRecDepth 100000
namespace Go.Proofs.YtnkmhaachfgaoaaGreatDoor
open Go Go.RowKit
theorem Ag8 (k:ByteArray) (v:Val):Ox (k,v)=if Ju k≠0 then 8 else C6 v:=by
 unfold Ox;by_cases h:Ju k=0
 . rw[if_neg (by rw[(Ib k).1 h];simp),if_neg (by simpa using h)]
 . rw[if_pos (by
    cases hk:Iv k with
    |false=>rfl
    |true=>exact absurd ((Ib k).2 hk) h),if_pos h]
theorem Sf (k:ByteArray) (v:Val) (c0 c1 c2 c3 c4 c5:Value) (w:World) (hT:Cr w) (hV:Ab w w.heap.size v [c0,c1,c2,c3,c4,c5]) (hk:k.size<=1000000000) (hb:v.bulk<=100000000) (hi:M4 v):
 Calls Tryz.prog 46 #[.string k,.agg #[c0,c1,c2,c3,c4,c5]] w fun e w'=>e=.returned (.int .i64 (Ox (k,v)))/\Below w.heap.size w w':=by
 obtain⟨PO,hPO⟩: ∃P:Ending->World->Prop,(fun e w'=>e=.returned (.int .i64 (Ox (k,v)))/\Below w.heap.size w w')=P:=⟨_,rfl⟩;rw[hPO];have hV':=hV;obtain⟨kk,b,n,t,l,o⟩:=v;simp only[Ab]at hV';obtain⟨la,lc,oa,oc,hcs,_,_⟩:=hV';simp only[List.cons.injEq,and_true]at hcs;obtain⟨rfl,rfl,rfl,rfl,rfl,rfl⟩:=hcs;rw[Ag8]at hPO;have hb1:=Aa w (.cells #[.int .i64 kk,.bool b,.int .i64 n,.string t,.slice la l.length lc,.slice oa o.length oc] 40);have hx1:=Ah.new w 40 #[.int .i64 kk,.bool b,.int .i64 n,.string t,.slice la l.length lc,.slice oa o.length oc];have HK:=qz (fun W=>Ry k W hk);have HF:=qz (O6 _ _ _ (hT.below hb1) ((hV.below hb1).more hb1.size) hb hi);obtain⟨x0,x1,x2,x3,x4,x5⟩:=Dv hx1;have lx:=hx1.lt;obtain⟨HPO,Hb1⟩:=hid2 hPO hb1;clear hPO hb1;clear hV hT hx1;go_enter Tryz.func46,Tryz.ntmps46;go_wp2_with (fail);(with_reducible refine(HK.out _).mono ?_);rintro e w2 ⟨rfl,rfl⟩;by_cases h0:Ju k=0
 . have e0:(Ju k != 0)=false:=by simpa using h0
   go_wp2_with (fail);(with_reducible refine(HF.out).mono ?_);rintro e w3 ⟨rfl,hb3⟩;have HP:Hid (PO (.returned (.int .i64 (C6 (.mk kk b n t l o)))) w3):=by
    show PO _ _;rw[<-HPO.out];exact⟨by rw[if_neg (fun e=>e h0)],Hb1.out.trans (hb3.mono Hb1.out.size)⟩
   clear hb3;go_wp2;exact HP.out
 . have e0:(Ju k != 0)=true:=by simpa using h0
   have HP:Hid (PO (.returned (.int .i64 8)) (w.alloc (.cells #[.int .i64 kk,.bool b,.int .i64 n,.string t,.slice la l.length lc,.slice oa o.length oc] 40))):=by
    show PO _ _;rw[<-HPO.out];exact⟨by rw[if_pos h0],Hb1.out⟩
   generalize Ju k=E at*
   clear h0 HPO;go_wp2;exact HP.out
theorem Aak {l:List Ax} {q:Nat} {e:Ax} (h0:Dz (l.take q)=0) (hx:l[q]? =some e):Dz (l.take (q+1))=Ox e/\(Ox e≠0->Dz l=Ox e):=by
 induction l generalizing q with
 |nil=>simp at hx
 |cons x r ih=>
  cases q with
  |zero=>
   simp only[List.getElem?_cons_zero,Option.some.injEq]at hx;subst hx;refine⟨?_,fun h=> ?_⟩
   . simp only[Nat.zero_add,List.take_succ_cons,List.take_zero,Dz]
     split
     . rename_i h;exact h.symm
     . rfl
   . simp only[Dz,if_neg h]
  |succ q=>
   simp only[List.take_succ_cons,Dz]at h0 ⊢;by_cases hx0:Ox x=0
   . rw[if_pos hx0]at h0 ⊢;obtain⟨i1,i2⟩:=ih h0 (by simpa using hx);exact⟨i1,fun h=>by rw[if_pos hx0];exact i2 h⟩
   . rw[if_neg hx0]at h0;exact absurd h0 hx0
theorem Aie {S:Nat->Prop} {w:World} {key:ByteArray} {v:Val} {cs:List Value} (h:Ag S w (dV v) cs):Ag S w (dP (key,v)) (.string key::cs):=fun w'' h1 h2=>⟨[.string key],cs,rfl,⟨rfl,rfl⟩,cs, [],(List.append_nil _).symm,h w'' h1 h2,rfl⟩
theorem Wb (w:World) (B:Nat):Ae w B (dV Fy) [.int .i64 0,.bool false,.int .i64 0,.string ⟨#[]⟩,.slice none 0 0,.slice none 0 0]:=D6 _ _ (M0 w B)
theorem Ac9 {w:World} {B:Nat} {o:List Ax} {a:Option Addr} {c:Nat} (h:Ae w B (.row 7 (dO o)) [.slice a o.length c]):Ae w B (dV (ov o)) [.int .i64 6,.bool false,.int .i64 0,.string ⟨#[]⟩,.slice none 0 0,.slice a o.length c]:=by
 unfold ov dV;exact⟨[.int .i64 6],_,rfl,⟨rfl,rfl⟩, [.bool false],_,rfl,⟨rfl,rfl⟩, [.int .i64 0],_,rfl,⟨rfl,rfl⟩, [.string ⟨#[]⟩],_,rfl,⟨rfl,rfl⟩, [.slice none 0 0],_,rfl,⟨none,0,rfl,fun d hd=>by simp[dL]at hd, [],rfl,.inl rfl⟩, [.slice a o.length c], [],rfl,h,rfl⟩
def Abn (l:List Ax) (w:World) (e:Ending) (w':World):Prop:=Below w.heap.size w w'/\ ∃a n c,e=.returned (.tuple #[.agg #[.int .i64 (if Dz l=0 then 6 else 0),.bool false,.int .i64 0,.string ⟨#[]⟩,.slice none 0 0,.slice a n c],.int .i64 (Dz l)])/\Ae w' w'.heap.size (dV (if Dz l=0 then ov l else Fy)) [.int .i64 (if Dz l=0 then 6 else 0),.bool false,.int .i64 0,.string ⟨#[]⟩,.slice none 0 0,.slice a n c]
def Agq (w:World) (l:List Ax) (q:Nat) (wr:World) (V:Value):Prop:=Below w.heap.size w wr/\Ah wr w.heap.size 40 C9/\Ah wr (w.heap.size+1) 40 #[.int .i64 6,.bool false,.int .i64 0,.string ⟨#[]⟩,.slice none 0 0,V]/\Al (fun i=>i<w.heap.size) (w.heap.size+2) 94 7 wr (dO (l.take q)) V/\Dz (l.take q)=0
theorem Fa (l:List Ax) (M:Nat) (a:Option Addr) (n c:Nat) (w:World) (hT:Cr w) (hM:w.cell? ⟨M,0,none⟩=some (.slice a n c)) (h:Ae w w.heap.size (.row 7 (dO l)) [.slice a n c]) (hb:Ac l<=50000000) (hin:J2 l):
 Calls Tryz.prog 20 #[.pointer (some ⟨M,0,none⟩)] w (Abn l w):=by
 obtain⟨PO,hPO⟩: ∃P:Ending->World->Prop,Abn l w=P:=⟨_,rfl⟩;rw[hPO];have hln:=Aw l;have hn:=h.row_len;rw[At]at hn;subst hn;have lM:M<w.heap.size:=World.block_lt_of_cell? w _ hM;obtain⟨j0,hj,hy0,hy1,hy2⟩:=info_parts Ri;have hI0:Agq w l 0 ((w.alloc (.cells C9 40)).alloc (.cells #[.int .i64 6,.bool false,.int .i64 0,.string ⟨#[]⟩,.slice none 0 0,.slice none 0 0] 40)) (.slice none 0 0):=
  ⟨(Aa w _).alloc (by simp) _,(Ah.new _ _ _).alloc _,Ah.nxt _ _ _ _,by simpa[dO]using Al.nil _ _ _ _ _,rfl⟩
 have HTI:=qz (Ag.of_old h (Nat.le_refl _) (Below.refl _ _));obtain⟨HPO,HI0,Hj,Hy0,Hy1,Hy2,HT⟩:=hid7 hPO hI0 hj hy0 hy1 hy2 hT;clear hPO hI0 hj hy0 hy1 hy2 hT;clear h;go_enter Tryz.func20,Tryz.ntmps20;go_wp2_with (fail);go_loopw [5] (fun i wr=> ∃q:Nat,i=.int .i64 q/\q<=l.length/\ ∃V,Hid (Agq w l q wr V)) (fun i _=>l.length - (intOf i).toNat)
 case atStart=>exact⟨0,rfl,Nat.zero_le _,_,HI0⟩
 case round=>
  obtain⟨q,rfl,hq,V,hI⟩:=hrel;clear HI0;obtain⟨hbw,hx0,hx1,hrow,hm0⟩:=hI.out;have hz:=hbw.size;have lx0:=hx0.lt;have lx1:=hx1.lt;have hMr:wr.cell? ⟨M,0,none⟩=some (.slice a l.length c):=(hbw.cell (p:=⟨M,0,none⟩) lM).trans hM;by_cases hlt:q<l.length
  . obtain⟨⟨key,⟨k',b',n',t',l',o'⟩⟩,hx⟩: ∃v,l[q]? =some v:=⟨_,List.getElem?_eq_getElem hlt⟩;have hmem:=List.mem_of_getElem? hx;have hbm:=B4 hmem;simp only at hbm;have hine:=I9 hin hmem;obtain⟨g,off,rfl,hg,la,lc,oa,oc,hv0,d0,d1,d2,d3,d4,d5,d6⟩:=F5 HTI.out hx;have hv:=hv0.below hbw;have hgr:g<wr.heap.size:=by omega
    have lMr:M<wr.heap.size:=by omega
    have q1:(q:Int)<(l.length:Int):=by omega
    have q0:(0:Int)<=q:=by omega
    obtain⟨hmt,hme⟩:=Aak hm0 hx;have hkeep: ∀W,Below w.heap.size wr W->(W.cell? ⟨M,0,none⟩=some (.slice (some ⟨g,off,none⟩) l.length c)/\W.cell? ⟨g,off+q*7,none⟩=some (.string key)/\W.cell? ⟨g,off+q*7+1,none⟩=some (.int .i64 k')/\W.cell? ⟨g,off+q*7+2,none⟩=some (.bool b')/\W.cell? ⟨g,off+q*7+3,none⟩=some (.int .i64 n')/\W.cell? ⟨g,off+q*7+4,none⟩=some (.string t')/\W.cell? ⟨g,off+q*7+5,none⟩=some (.slice la l'.length lc)/\W.cell? ⟨g,off+q*7+6,none⟩=some (.slice oa o'.length oc)):=fun W hW=>
     ⟨(hW.cell (p:=⟨M,0,none⟩) lM).trans hMr,(hW.cell hg).trans ((hbw.cell hg).trans d0),(hW.cell hg).trans ((hbw.cell hg).trans d1),(hW.cell hg).trans ((hbw.cell hg).trans d2),(hW.cell hg).trans ((hbw.cell hg).trans d3),(hW.cell hg).trans ((hbw.cell hg).trans d4),(hW.cell hg).trans ((hbw.cell hg).trans d5),(hW.cell hg).trans ((hbw.cell hg).trans d6)⟩
    have HC:=qz (Sf key (.mk k' b' n' t' l' o') _ _ _ _ _ _ wr.drew (HT.out.below (hbw.trans ((Below.drew (Below.refl _ _)).mono hz))) (Bp _ _ (hv.below (Below.drew (Below.refl _ _))).now) (by omega) (by omega) hine);generalize hME:Ox (key,.mk k' b' n' t' l' o')=E at*
    obtain⟨Hbw,Hkeep,Hx0,Hx1,Hrow,Hv,Hmt,Hme,Hx⟩:=hid9 hbw hkeep hx0 hx1 hrow hv hmt hme hx;clear hbw hkeep hx0 hx1 hrow hv hmt hme hx;clear hI hv0 d0 d1 d2 d3 d4 d5 d6 hmem hine hm0;have hHx:=Hkeep.out wr (Below.refl _ _);go_wp2_with (fail);go_upto_region 5 with(fail);clear hHx;refine wp_region_held_drew (S:=fun W:World=>W.cell? ⟨M,0,none⟩=some (.slice (some ⟨g,off,none⟩) l.length c)/\W.cell? ⟨g,off+q*7,none⟩=some (.string key)/\W.cell? ⟨g,off+q*7+1,none⟩=some (.int .i64 k')/\W.cell? ⟨g,off+q*7+2,none⟩=some (.bool b')/\W.cell? ⟨g,off+q*7+3,none⟩=some (.int .i64 n')/\W.cell? ⟨g,off+q*7+4,none⟩=some (.string t')/\W.cell? ⟨g,off+q*7+5,none⟩=some (.slice la l'.length lc)/\W.cell? ⟨g,off+q*7+6,none⟩=some (.slice oa o'.length oc)) (by kernel_rfl) (Hkeep.out _ (Below.drew (Below.refl _ _))) (fun hHeld=> ?_);refine tkH 0 hHeld ?_;refine tkH 1 hHeld ?_;refine tkH 2 hHeld ?_;refine tkH 3 hHeld ?_;refine tkH 4 hHeld ?_;refine tkH 5 hHeld ?_;refine tkH 6 hHeld ?_;refine tkH 7 hHeld ?_;refine tkH 8 hHeld ?_;refine tkH 9 hHeld ?_;refine tkH 10 hHeld ?_;refine tkH 11 hHeld ?_;refine tkH 12 hHeld ?_;refine tkH 13 hHeld ?_;refine tkH 14 hHeld ?_;refine tkH 15 hHeld ?_;refine C4 16 fun K hK=> ?_;go_simp;(with_reducible refine(HC.out).mono ?_);rintro e w2 ⟨rfl,hb2⟩;have hw2:Below wr.heap.size wr w2:=(Below.drew (Below.refl _ _)).trans hb2;refine hK.out _ _ (Hkeep.out _ (hw2.mono hz)) (fun hHeld=> ?_);clear hK K hb2 HC
    try simp only[Act.put,tk1,tk2,tk3,tk4,tk5,tk6]
    refine tkH 17 hHeld ?_;refine wpAnyH_done (by kernel_rfl) ?_ _;clear hHeld;by_cases hE:E=0
    . subst hE;have hwd:Below w.heap.size wr w2.drew:=(hw2.mono hz).trans ((Below.drew (Below.refl _ _)).mono (Nat.le_trans hz hw2.size));have hb4:=Aa w2.drew (.cells #[.string key,.int .i64 k',.bool b',.int .i64 n',.string t',.slice la l'.length lc,.slice oa o'.length oc] 94);have hwd4:Below w.heap.size wr (w2.drew.alloc (.cells #[.string key,.int .i64 k',.bool b',.int .i64 n',.string t',.slice la l'.length lc,.slice oa o'.length oc] 94)):=hwd.trans (hb4.mono (Nat.le_trans hz hwd.size));have hb24:Below w2.heap.size w2 (w2.drew.alloc (.cells #[.string key,.int .i64 k',.bool b',.int .i64 n',.string t',.slice la l'.length lc,.slice oa o'.length oc] 94)):=(Below.drew (Below.refl _ _)).trans hb4;have hr4:=((Hrow.out.below hw2).below hb24);have hln2:(dO (l.take q)).length=q:=by rw[At,List.length_take];omega
      obtain⟨aV,cV,rfl⟩:=hr4.slice_n hln2;have hba:=hr4.base;have Hd4:Hid (Ag (fun i=>i<w.heap.size/\(Value.slice aV q cV).ownBlock≠some i) (w2.drew.alloc (.cells #[.string key,.int .i64 k',.bool b',.int .i64 n',.string t',.slice la l'.length lc,.slice oa o'.length oc] 94)) (dP (key,.mk k' b' n' t' l' o')) [.string key,.int .i64 k',.bool b',.int .i64 n',.string t',.slice la l'.length lc,.slice oa o'.length oc]):=(Aie ((Hv.out.below hw2).below hb24)).mono fun i _ hi=>⟨hi,fun e=>by have:=(hba i e).1;omega⟩;have Hrd:=qz (Db (Ah.new w2.drew 94 #[.string key,.int .i64 k',.bool b',.int .i64 n',.string t',.slice la l'.length lc,.slice oa o'.length oc]));have hx12:=Hx1.out.below hw2 lx1;have hx02:=Hx0.out.below hw2 lx0;have Hx14:=qz (hx12.below hb24 hx12.lt);have x5:=hx12.cell 5;have lx2:=hx12.lt;have Hx04:=qz (hx02.below hb24 hx02.lt);have hbs:w.heap.size+2<=(w2.drew.alloc (.cells #[.string key,.int .i64 k',.bool b',.int .i64 n',.string t',.slice la l'.length lc,.slice oa o'.length oc] 94)).heap.size:=by have h1:=hb24.size;have h2:=hx12.lt;omega
      have hcat:dO (l.take q)++ [dP (key,.mk k' b' n' t' l' o')]=dO (l.take (q+1)):=by rw[Bi,Bi,List.take_add_one,Hx.out];simp
      have hkd:=Hkeep.out _ hwd;have hk4:=Hkeep.out _ hwd4;have hLo:Hid ((dO (l.take q)).length+1<=maxLen/\((dO (l.take q)).length+1)*104<=140737488355328):=by rw[hln2];exact⟨by simp only[maxLen];omega,by omega⟩
      obtain⟨Hr4,Hwd4,Hbs,Hcat,Hba,Hkd,Hk4⟩:=hid7 hr4 hwd4 hbs hcat hba hkd hk4;clear hr4 hwd4 hbs hcat hba hkd hk4;clear hwd hb4 hb24 hx12 hx02;go_wp2_with (fail);go_upto_region 8 with(fail);refine wp_region_held_drew (S:=fun W:World=>W.cell? ⟨M,0,none⟩=some (.slice (some ⟨g,off,none⟩) l.length c)/\W.cell? ⟨g,off+q*7,none⟩=some (.string key)/\W.cell? ⟨g,off+q*7+1,none⟩=some (.int .i64 k')/\W.cell? ⟨g,off+q*7+2,none⟩=some (.bool b')/\W.cell? ⟨g,off+q*7+3,none⟩=some (.int .i64 n')/\W.cell? ⟨g,off+q*7+4,none⟩=some (.string t')/\W.cell? ⟨g,off+q*7+5,none⟩=some (.slice la l'.length lc)/\W.cell? ⟨g,off+q*7+6,none⟩=some (.slice oa o'.length oc)) (by kernel_rfl) Hkd.out (fun hHeld=> ?_);refine tkH 0 hHeld ?_;refine tkH 2 hHeld ?_;refine tkH 3 hHeld ?_;refine tkH 4 hHeld ?_;refine tkH 5 hHeld ?_;refine tkH 6 hHeld ?_;refine tkH 7 hHeld ?_;refine tkH 8 hHeld ?_;refine tkH 9 hHeld ?_;refine tkH 10 hHeld ?_;refine tkH 11 hHeld ?_;refine tkH 12 hHeld ?_;refine tkH 13 hHeld ?_;refine tkH 14 hHeld ?_;refine tkH 15 hHeld ?_;refine tkH 16 hHeld ?_;refine tkH 17 hHeld ?_;refine tkH 18 hHeld ?_;refine rd2 1 19 (fun K hK=> ?_) (fun K hK=> ?_)
      . go_simp;refine hK.out _ _ Hkd.out (fun hHeld=> ?_);clear hK K
        try simp only[Act.put,tk1,tk2,tk3,tk4,tk5,tk6]
        refine C4 19 fun K hK=> ?_;go_simp;refine hK.out _ _ Hk4.out (fun hHeld=> ?_);clear hK K
        try simp only[Act.put,tk1,tk2,tk3,tk4,tk5,tk6]
        refine C4 20 fun K hK=> ?_;refine E8 (d:=dP (key,.mk k' b' n' t' l' o')) rfl (.tmp 39) (.tmp 57) 38 rfl Tryz.underlying38 Hj.out Hy0.out Hy1.out Hy2.out rfl (by omega) rfl Hr4.out Hbs.out (Dr _) Hd4.out rfl Hrd.out hLo.out.1 hLo.out.2 ?_;intro V5 w5 hr5 hg5 hat5;rw[Hcat.out]at hr5;have hg5:(w2.drew.alloc (.cells #[.string key,.int .i64 k',.bool b',.int .i64 n',.string t',.slice la l'.length lc,.slice oa o'.length oc] 94)).grownBy w5 (Value.slice aV q cV).ownBlock:=hg5;have hl5:(dO (l.take (q+1))).length=q+1:=by rw[At,List.length_take];omega
        obtain⟨a5,c5,rfl⟩:=hr5.slice_n hl5;have hw5:Below w.heap.size wr w5:=Hwd4.out.grown hg5 (Nat.le_trans (by omega) Hbs.out) (fun k hk=>by have:=(Hba.out k hk).1;omega);have hx15:=Hx14.out.grown hg5 (fun e=>by have:=(Hba.out _ e.symm).1;omega);have hx05:=Hx04.out.grown hg5 (fun e=>by have:=(Hba.out _ e.symm).1;omega);have hba5:=hr5.base;refine hK.out _ _ (Hkeep.out _ hw5) (fun hHeld=> ?_);clear hK K
        try simp only[Act.put,tk1,tk2,tk3,tk4,tk5,tk6]
        have z5:=hx15.cell 5;have lz5:=hx15.lt;have fz5:=hx15.frozen;have hw6:Below w.heap.size wr (w5.setCell ⟨w.heap.size+1,5,none⟩ (.slice a5 (q+1) c5)):=hw5.setCell (by show w.heap.size<=w.heap.size+1;omega) _;have HN:Hid (Agq w l (q+1) (w5.setCell ⟨w.heap.size+1,5,none⟩ (.slice a5 (q+1) c5)) (.slice a5 (q+1) c5)):=⟨Hbw.out.trans hw6,hx05.far (by show w.heap.size≠w.heap.size+1;omega) _,hx15.set_ 5 _,hr5.keepN (Nat.le_refl _) (fun i hi=>hi) (by simp[World.setCell]) (fun i i1 _=>Below.heap_setCell _ _ _ _ (by
         show i≠w.heap.size+1;rcases i1 with i1|i1
         . omega
         . have:=(hba5 i i1).1;omega)),Hmt.out⟩
        refine tkH 21 hHeld ?_;refine C4 22 fun K hK=> ?_;go_simp;refine hK.out _ _ (Hkeep.out _ hw6) (fun hHeld=> ?_);clear hK K
        try simp only[Act.put,tk1,tk2,tk3,tk4,tk5,tk6]
        refine wpAnyH_done (by kernel_rfl) ?_ _;clear hHeld hr5 hg5 hat5 hl5 hx15 hx05 hba5 z5 lz5 fz5 hw5 hw6;go_wp2;go_roundw
        case rel=>exact⟨q+1,by go_num,by omega,_,HN⟩
        case measure=>simp only[intOf];omega
      . go_simp;refine hK.out _ _ Hk4.out (fun hHeld=> ?_);clear hK K
        try simp only[Act.put,tk1,tk2,tk3,tk4,tk5,tk6]
        have x5':=Hx14.out.cell 5;refine C4 1 fun K hK=> ?_;go_simp;refine hK.out _ _ Hk4.out (fun hHeld=> ?_);clear hK K
        try simp only[Act.put,tk1,tk2,tk3,tk4,tk5,tk6]
        refine C4 20 fun K hK=> ?_;refine E8 (d:=dP (key,.mk k' b' n' t' l' o')) rfl (.tmp 39) (.tmp 57) 38 rfl Tryz.underlying38 Hj.out Hy0.out Hy1.out Hy2.out rfl (by omega) rfl Hr4.out Hbs.out (Dr _) Hd4.out rfl Hrd.out hLo.out.1 hLo.out.2 ?_;intro V5 w5 hr5 hg5 hat5;rw[Hcat.out]at hr5;have hg5:(w2.drew.alloc (.cells #[.string key,.int .i64 k',.bool b',.int .i64 n',.string t',.slice la l'.length lc,.slice oa o'.length oc] 94)).grownBy w5 (Value.slice aV q cV).ownBlock:=hg5;have hl5:(dO (l.take (q+1))).length=q+1:=by rw[At,List.length_take];omega
        obtain⟨a5,c5,rfl⟩:=hr5.slice_n hl5;have hw5:Below w.heap.size wr w5:=Hwd4.out.grown hg5 (Nat.le_trans (by omega) Hbs.out) (fun k hk=>by have:=(Hba.out k hk).1;omega);have hx15:=Hx14.out.grown hg5 (fun e=>by have:=(Hba.out _ e.symm).1;omega);have hx05:=Hx04.out.grown hg5 (fun e=>by have:=(Hba.out _ e.symm).1;omega);have hba5:=hr5.base;refine hK.out _ _ (Hkeep.out _ hw5) (fun hHeld=> ?_);clear hK K
        try simp only[Act.put,tk1,tk2,tk3,tk4,tk5,tk6]
        have z5:=hx15.cell 5;have lz5:=hx15.lt;have fz5:=hx15.frozen;have hw6:Below w.heap.size wr (w5.setCell ⟨w.heap.size+1,5,none⟩ (.slice a5 (q+1) c5)):=hw5.setCell (by show w.heap.size<=w.heap.size+1;omega) _;have HN:Hid (Agq w l (q+1) (w5.setCell ⟨w.heap.size+1,5,none⟩ (.slice a5 (q+1) c5)) (.slice a5 (q+1) c5)):=⟨Hbw.out.trans hw6,hx05.far (by show w.heap.size≠w.heap.size+1;omega) _,hx15.set_ 5 _,hr5.keepN (Nat.le_refl _) (fun i hi=>hi) (by simp[World.setCell]) (fun i i1 _=>Below.heap_setCell _ _ _ _ (by
         show i≠w.heap.size+1;rcases i1 with i1|i1
         . omega
         . have:=(hba5 i i1).1;omega)),Hmt.out⟩
        refine tkH 21 hHeld ?_;refine C4 22 fun K hK=> ?_;go_simp;refine hK.out _ _ (Hkeep.out _ hw6) (fun hHeld=> ?_);clear hK K
        try simp only[Act.put,tk1,tk2,tk3,tk4,tk5,tk6]
        refine wpAnyH_done (by kernel_rfl) ?_ _;clear hHeld hr5 hg5 hat5 hl5 hx15 hx05 hba5 z5 lz5 fz5 hw5 hw6;go_wp2;go_roundw
        case rel=>exact⟨q+1,by go_num,by omega,_,HN⟩
        case measure=>simp only[intOf];omega
    . have hne:(E != 0)=true:=by simpa using hE
      have hx02:=Hx0.out.below hw2 lx0;obtain⟨x0,x1,x2,x3,x4,x5⟩:=Dv hx02;have fz:=hx02.frozen;have lx:=hx02.lt;have HX:=qz hx02;have HP:Hid (PO (.returned (.tuple #[.agg #[.int .i64 0,.bool false,.int .i64 0,.string ⟨#[]⟩,.slice none 0 0,.slice none 0 0],.int .i64 E])) (A8 w2 w.heap.size 0 [.int .i64 0,.bool false,.int .i64 0,.string ⟨#[]⟩,.slice none 0 0,.slice none 0 0])):=by
       show PO _ _;rw[<-HPO.out];have e1:=Hme.out hE;refine⟨Bl [.int .i64 0,.bool false,.int .i64 0,.string ⟨#[]⟩,.slice none 0 0,.slice none 0 0] (Hbw.out.trans (hw2.mono hz)) (Nat.le_refl _) (o:=0),_,_,_,by rw[e1,if_neg hE], ?_⟩;rw[e1,if_neg hE,if_neg hE];exact Wb _ _
      clear hx02 hw2 hE;go_wp2;exact bodyPost_ret (Fd rfl rfl ((((((HX.out.set_ 0 (.int .i64 0)).set_ 1 (.bool false)).set_ 2 (.int .i64 0)).set_ 3 (.string ⟨#[]⟩)).set_ 4 (.slice none 0 0)).set_ 5 (.slice none 0 0))) rfl HP.out
  . obtain rfl:q=l.length:=by omega
    rw[List.take_length]at hrow hm0;have hln2:(dO l).length=l.length:=At l;obtain⟨aV,cV,rfl⟩:=hrow.slice_n hln2;obtain⟨x0,x1,x2,x3,x4,x5⟩:=Dv hx0;obtain⟨z0,z1,z2,z3,z4,z5⟩:=Dv hx1;have fz:=hx0.frozen;have hba:=hrow.base;have q1: ¬(l.length:Int)<(l.length:Int):=by omega
    have HP:Hid (PO (.returned (.tuple #[.agg #[.int .i64 6,.bool false,.int .i64 0,.string ⟨#[]⟩,.slice none 0 0,.slice aV l.length cV],.int .i64 0])) (A8 wr w.heap.size 0 [.int .i64 6,.bool false,.int .i64 0,.string ⟨#[]⟩,.slice none 0 0,.slice aV l.length cV])):=by
     show PO _ _;rw[<-HPO.out];refine⟨Bl [.int .i64 6,.bool false,.int .i64 0,.string ⟨#[]⟩,.slice none 0 0,.slice aV l.length cV] hbw (Nat.le_refl _) (o:=0),_,_,_,by rw[if_pos hm0,hm0], ?_⟩;rw[if_pos hm0,if_pos hm0];have hh:=hrow.closeIn;refine Ac9 (hh.later (Nat.le_of_eq (Cm _ _ _ _).symm) fun p p1 _=>World.cell?_of_block (C8 _ _ _ _ _ ?_)).now;rcases p1 with p1|p1
     . omega
     . have:=(hba _ p1).1;omega
    have HX:=qz hx0;clear hI hbw hx0 hx1 hrow hm0 hba;go_wp2;exact bodyPost_ret (Fd rfl rfl ((((((HX.out.set_ 0 (.int .i64 6)).set_ 1 (.bool false)).set_ 2 (.int .i64 0)).set_ 3 (.string ⟨#[]⟩)).set_ 4 (.slice none 0 0)).set_ 5 (.slice aV l.length cV))) rfl HP.out
end Go.Proofs.YtnkmhaachfgaoaaGreatDoor
