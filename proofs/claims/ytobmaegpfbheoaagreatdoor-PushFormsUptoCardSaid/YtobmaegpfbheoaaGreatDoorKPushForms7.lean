/- Parts: commonplaceref11.Value of a sequence. Condition: at most 10^6 mutators; those within keep their word. Printed by mkrval.py. -/
import Derived.Test.YtobmaegpfbheoaaGreatDoorKPushForms5
set_option maxHeartbeats 20000000
set_option maxRecDepth 100000
namespace Go.Proofs.YtobmaegpfbheoaaGreatDoor
open Go Go.RowKit
theorem Y8 {m:Mut} (w:World) (B:Nat) (cs:List Value) (h:Ag w B (dM m) cs): ∃k,cs[0]? =some (.int .i64 k)/\ ∀(w':World) (B':Nat) cs',Ag w' B' (dM m) cs'->cs'[0]? =some (.int .i64 k):=by
 obtain⟨k,key,dst,n,had,⟨k1,b1,n1,t1,l1,o1⟩,has,⟨k2,b2,n2,t2,l2,o2⟩,l⟩:=m;have hk: ∀(w':World) (B':Nat) cs',Ag w' B' (dM (Mut.mk k key dst n had (.mk k1 b1 n1 t1 l1 o1) has (.mk k2 b2 n2 t2 l2 o2) l)) cs'->cs'[0]? =some (.int .i64 k):=fun w' B' cs' h'=>by
  obtain⟨la1,lc1,oa1,oc1,la2,lc2,oa2,oc2,a,c,rfl,_⟩:=Bf h';rfl
 exact⟨k,hk _ _ _ h,hk⟩
theorem Zr {S:Nat->Prop} {w:World} {n c:Nat} {l:List Mut} {a:Option Addr} (h:Ac S w (.row 19 (Vc l)) [.slice a n c]) {q:Nat} {m:Mut} (hi:l[q]? =some m):
 ∃g off,a=some ⟨g,off,none⟩/\g<w.heap.size/\ ∃cs,Ac S w (dM m) cs/\cs.length=19/\ ∀j u,cs[j]? =some u->w.cell? ⟨g,off+q*19+j,none⟩=some u:=by
 obtain⟨g,off,rfl,hg,cs,h1,h2,h3⟩:=Lo h.now hi;obtain⟨k,_,hk⟩:=Y8 _ _ _ h1;exact⟨g,off,rfl,hg,cs,(Ab3 (v1:=.bool false) h (d:=dM m) (by rw[Ke,List.getElem?_map,hi];rfl) hk (by simp)).2 cs h3 h2,h2,h3⟩
theorem Nt {S:Nat->Prop} {w:World} {l:List Val} {a:Option Addr} {n c:Nat} (h:Ac S w (.row 6 (dL l)) [.slice a n c]):Ac S w (dV (lv l)) [.int .i64 5,.bool false,.int .i64 0,.string ⟨#[]⟩,.slice a n c,.slice none 0 0]:=fun w'' h1 h2=>by
 simp only[lv,dV,Ag];exact Ae.six.2 ⟨[.slice a n c], [.slice none 0 0],rfl,rfl,rfl,rfl,rfl,h w'' h1 h2,⟨none,0,rfl,by simp[dO], [],rfl,by simp[dO]⟩⟩
structure RVL (S:Nat->Prop) (w:World) (box:Array Value) (l:List Mut) (q:Nat) (wr:World) (V:Value):Prop where
 i:RVI w box wr
 row:Bw (fun i=>S i\/w.heap.size+2<=i) (w.heap.size+2) 42 6 wr (dL ((A8 l).take q)) V
theorem RVL.grown {S:Nat->Prop} {w wr w':World} {box:Array Value} {l:List Mut} {q:Nat} {V V':Value} (hi:RVI w box wr) (hb: ∀k,V.ownBlock=some k->w.heap.size+2<=k) (h2:wr.grownBy w' V.ownBlock) (h1:Bw (fun i=>S i\/w.heap.size+2<=i) (w.heap.size+2) 42 6 w' (dL ((A8 l).take q)) V'):RVL S w box l q w' V':=
 ⟨⟨hi.below.grown h2 hi.below.size fun k e=>by have:=hb k e;omega,hi.box.grown h2 fun e=>by have:=hb _ e.symm;omega,hi.res.grown h2 fun e=>by have:=hb _ e.symm;omega⟩,h1⟩
theorem Z5 (S:Nat->Prop) (w wk w3:World) (key:ByteArray) (had:Bool) (g:Nat) (k1:Int) (b1:Bool) (n1:Int) (t1:ByteArray) (l1:List Val) (o1:List (ByteArray×Val)) (la1 lc1 oa1 oc1) (hw:Below w.heap.size w wk) (hk:Below wk.heap.size wk w3)
 (hrow:Bw S wk.heap.size 74 7 w3 (dO [(A1,tv key)]) (.slice (some ⟨g,0,none⟩) 1 1)) (hv1:Ac S w (dV (.mk k1 b1 n1 t1 l1 o1)) [.int .i64 k1,.bool b1,.int .i64 n1,.string t1,.slice la1 l1.length lc1,.slice oa1 o1.length oc1]):
 Calls Tryz.prog 43 #[.slice (some ⟨g,0,none⟩) 1 1,.bool had,.string G2,.agg #[.int .i64 k1,.bool b1,.int .i64 n1,.string t1,.slice la1 l1.length lc1,.slice oa1 o1.length oc1]] w3 fun e w'=> ∃a' c',e=.returned (.slice a' (Ba key had (.mk k1 b1 n1 t1 l1 o1)).length c')/\Below wk.heap.size wk w'/\Ac (fun i=>S i\/wk.heap.size<=i) w' (.row 7 (dO (Ba key had (.mk k1 b1 n1 t1 l1 o1)))) [.slice a' (Ba key had (.mk k1 b1 n1 t1 l1 o1)).length c']:=by
 cases had with
 |false=>
  refine(Oa (.slice (some ⟨g,0,none⟩) 1 1) G2 _ _ _ _ _ _ w3).mono ?_;rintro e w' ⟨rfl,hb'⟩;have h1:=(hrow.below hb').closeIn;exact⟨_,_,rfl,hk.trans (hb'.mono hk.size),h1.mono fun i _ h=>h.imp id fun e=>(hrow.base i e).1⟩
 |true=>
  refine(Me S wk.heap.size [(A1,tv key)] (some ⟨g,0,none⟩) 1 1 G2 k1 b1 n1 t1 l1 o1 la1 lc1 oa1 oc1 w3 rfl (by omega) hrow hk.size ?_).mono ?_
  . exact(hv1.base (hw.trans (hk.mono hw.size))).mono fun i _ h=>⟨h.1,fun e=>by have:=(hrow.base i e).1;have:=hw.size;omega⟩
  . rintro e w' ⟨V',rfl,h1,h2,h3⟩;obtain⟨a',c',rfl⟩:=h1.slice_n (show(dO ([(A1,tv key)]++ [(G2,Val.mk k1 b1 n1 t1 l1 o1)])).length=2 by rw[Eb];rfl);exact⟨a',c',rfl,hk.grown h2 hk.size fun k e=>(hrow.base k e).1,h1.closeIn.mono fun i _ h=>h.imp id fun e=>(h1.base i e).1⟩
theorem Acg (S:Nat->Prop) (w:World) (hS: ∀i,S i->i<w.heap.size) (key:ByteArray) (y2 y3:Value) (had:Bool) (k1:Int) (b1:Bool) (n1:Int) (t1:ByteArray) (l1:List Val) (o1:List (ByteArray×Val)) (la1 lc1 oa1 oc1) (y11 y12 y13 y14 y15 y16 y17:Value) (l:List Mut) (a:Option Addr) (c:Nat)
 (hv1:Ac S w (dV (.mk k1 b1 n1 t1 l1 o1)) [.int .i64 k1,.bool b1,.int .i64 n1,.string t1,.slice la1 l1.length lc1,.slice oa1 o1.length oc1]) (hl:Ac S w (.row 19 (Vc l)) [.slice a l.length c]) (hlen:l.length<=1000000)
 (ih: ∀x ∈ l,∀(S':Nat->Prop) (W:World) (cs:List Value),(∀i,S' i->i<W.heap.size)->Ac S' W (dM x) cs->Calls Tryz.prog 21 #[.agg cs.toArray] W (Gg S' x W)):
 Calls Tryz.prog 21 #[.agg #[.int .i64 7,.string key,y2,y3,.bool had,.int .i64 k1,.bool b1,.int .i64 n1,.string t1,.slice la1 l1.length lc1,.slice oa1 o1.length oc1,y11,y12,y13,y14,y15,y16,y17,.slice a l.length c]] w (Fm S ((Lk,lv (A8 l))::(if key.toList.isEmpty then []else [(Oq,ov (Ba key had (.mk k1 b1 n1 t1 l1 o1)))])) 7 w):=by
 obtain⟨j0,hj,hy0,hy1,hy2⟩:=info_parts Kz;obtain⟨BX,hBX⟩: ∃b:Array Value, #[.int .i64 7,.string key,y2,y3,.bool had,.int .i64 k1,.bool b1,.int .i64 n1,.string t1,.slice la1 l1.length lc1,.slice oa1 o1.length oc1,y11,y12,y13,y14,y15,y16,y17,.slice a l.length c]=b:=⟨_,rfl⟩;have hI0:=RVI.new w BX;have hcell: ∀W,Aj W w.heap.size Ey BX->W.cell? ⟨w.heap.size,0,none⟩=some (.int .i64 7)/\W.cell? ⟨w.heap.size,1,none⟩=some (.string key)/\W.cell? ⟨w.heap.size,4,none⟩=some (.bool had)/\W.cell? ⟨w.heap.size,5,none⟩=some (.int .i64 k1)/\W.cell? ⟨w.heap.size,6,none⟩=some (.bool b1)/\W.cell? ⟨w.heap.size,7,none⟩=some (.int .i64 n1)/\W.cell? ⟨w.heap.size,8,none⟩=some (.string t1)/\W.cell? ⟨w.heap.size,9,none⟩=some (.slice la1 l1.length lc1)/\W.cell? ⟨w.heap.size,10,none⟩=some (.slice oa1 o1.length oc1)/\W.cell? ⟨w.heap.size,18,none⟩=some (.slice a l.length c):=fun W hx=>by
  subst hBX;exact⟨hx.cell 0,hx.cell 1,hx.cell 4,hx.cell 5,hx.cell 6,hx.cell 7,hx.cell 8,hx.cell 9,hx.cell 10,hx.cell 18⟩
 rw[hBX];obtain⟨OO,hOO⟩: ∃O,((Lk,lv (A8 l))::(if key.toList.isEmpty then []else [(Oq,ov (Ba key had (.mk k1 b1 n1 t1 l1 o1)))]))=O:=⟨_,rfl⟩;rw[hOO];obtain⟨PO,hPO⟩: ∃P,Fm S OO 7 w=P:=⟨_,rfl⟩;rw[hPO];obtain⟨x0,_,_,_,_,_,_,_,_,_⟩:=hcell _ hI0.box;have xl:=hI0.box.lt;have hL0:RVL S w BX l 0 ((w.alloc (.cells BX Ey)).alloc (.cells Af 42)) (.slice none 0 0):=⟨hI0,by simpa[dL]using Bw.nil _ _ _ _ _⟩;obtain⟨wi,hwi⟩: ∃wi,(w.alloc (.cells BX Ey)).alloc (.cells Af 42)=wi:=⟨_,rfl⟩;rw[hwi]at x0 xl hL0;obtain⟨HPO,HOO,Hv1,Hcell,HL0,Hj,Hy0,Hy1,Hy2,Hl,Ih⟩:=hid11 hPO hOO hv1 hcell hL0 hj hy0 hy1 hy2 hl ih;clear hPO hOO hv1 hcell hL0 hj hy0 hy1 hy2 hl ih;clear hI0 hBX;go_enter Tryz.func21,Tryz.ntmps21;go_upto_region 1 with(fail);clear hwi;go_upto_region 20 with(fail);clear x0;go_loopw [5,6] (fun V i wr=> ∃q:Nat,i=.int .i64 q/\q<=l.length/\Hid (RVL S w BX l q wr V)) (fun _ i _=>l.length - (intOf i).toNat)
 case atStart=>exact⟨0,rfl,Nat.zero_le _,HL0⟩
 case round=>
  obtain⟨q,rfl,hq,hI⟩:=hrel;clear HL0 xl;obtain⟨_,_,_,_,_,_,_,_,_,x18⟩:=Hcell.out _ hI.out.i.box;have xlr:=hI.out.i.box.lt;have hz:=hI.out.i.below.size;by_cases hlt:q<l.length
  . obtain⟨m,hm⟩: ∃p,l[q]? =some p:=⟨_,List.getElem?_eq_getElem hlt⟩;have hmem:=List.mem_of_getElem? hm;have htk:dL ((A8 l).take q)++ [dV (C5 m)]=dL ((A8 l).take (q+1)):=by
     rw[List.take_add_one,Gm,List.getElem?_map,hm,E7,E7];simp
    have hdl:(dL ((A8 l).take q)).length=q:=by rw[Fl,List.length_take,Ek];omega
    obtain⟨g,off,rfl,hg,cs',hcs,hn1,hcl⟩:=Zr Hl.out hm;have hbw:=hI.out.i.below;have hrange:wr.rangeAt g (off+q*19) cs':=fun j u hu=>(hbw.cell (p:=⟨g,off+q*19+j,none⟩) hg).trans (hcl j u hu);have HC:Hid (Calls Tryz.prog 21 #[.agg cs'.toArray] wr (Gg S m wr)):=Ih.out m hmem S wr cs' (fun i h=>by have:=hS i h;omega) ((hcs.base hbw).mono fun i _ h=>h.1);have hgr:g<wr.heap.size:=by omega
    have hq1:(q:Int)<(l.length:Int):=by omega
    have hq0:(0:Int)<=q:=by omega
    have hinfo:(Tryz.prog.info? Ey).map (·.size)=some cs'.length:=by rw[hn1];kernel_rfl
    obtain⟨aV,cV,hV⟩:=hI.out.row.slice_n hdl;subst hV;obtain⟨Htk,Hdl⟩:=hid2 htk hdl;clear htk hdl;clear hm hmem hcs hcl hbw;go_upto_region 22 with(fail)
    iterate 17 go_step
    refine wp_load_mid Ey (.tmp 83) rfl g (off+q*19) rfl cs' _ hrange Tryz.underlying45 rfl hinfo ?_;go_wp2_with (fail);(with_reducible refine(HC.out).mono ?_);rintro e w4 ⟨hb4,oa4,oc4,rfl,hf4⟩;have Hrow4:=qz ((hI.out.row.below hb4).below (Aa w4 (.cells #[.int .i64 6,.bool false,.int .i64 0,.string ⟨#[]⟩,.slice none 0 0,.slice oa4 2 oc4] 42)));have hi4:=(hI.out.i.call hb4).call (Aa w4 (.cells #[.int .i64 6,.bool false,.int .i64 0,.string ⟨#[]⟩,.slice none 0 0,.slice oa4 2 oc4] 42));have hba:=hI.out.row.base;have Hb6:Hid (∀k,(Value.slice aV q cV).ownBlock=some k->w.heap.size+2<=k):=fun k e=>(hba k e).1;have hf5:=(hf4.below (Aa w4 (.cells #[.int .i64 6,.bool false,.int .i64 0,.string ⟨#[]⟩,.slice none 0 0,.slice oa4 2 oc4] 42))).mono (T:=fun i=>(S i\/w.heap.size+2<=i)/\(Value.slice aV q cV).ownBlock≠some i) fun i _ h=>by
     rcases h with h|h
     . exact⟨.inl h,fun e=>by have:=(hba i e).1;have:=hS i h;omega⟩
     . exact⟨.inr (by have:=hI.out.i.res.lt;omega),fun e=>by have:=(hba i e).2;omega⟩
    have hrd:=Fx w4 (.int .i64 6) (.bool false) (.int .i64 0) (.string ⟨#[]⟩) (.slice none 0 0) (.slice oa4 2 oc4);have HLo:=qz (show(dL ((A8 l).take q)).length+1<=maxLen/\((dL ((A8 l).take q)).length+1)*88<=140737488355328/\w.heap.size+2<=(w4.alloc (.cells #[.int .i64 6,.bool false,.int .i64 0,.string ⟨#[]⟩,.slice none 0 0,.slice oa4 2 oc4] 42)).heap.size from by rw[Hdl.out];exact⟨by simp only[maxLen];omega,by omega,hi4.res.lt⟩);obtain⟨Hi4,Hf5,Hrd⟩:=hid3 hi4 hf5 hrd;clear hi4 hf5 hrd;clear hb4 hf4 hrange x18;dsimp only;go_wp2_with (at_builtin;refine Dn rfl (.tmp 79) (.tmp 86) 39 rfl Tryz.underlying39 Hj.out Hy0.out Hy1.out Hy2.out rfl (by omega) rfl Hrow4.out HLo.out.2.2 (Cu _) Hf5.out rfl Hrd.out HLo.out.1 HLo.out.2.1 ?_;intro V6 w6 hrow6 hg6 hat6);rw[Htk.out]at hrow6;have HN:Hid (RVL S w BX l (q+1) w6 V6):=RVL.grown Hi4.out Hb6.out hg6 hrow6;clear hrow6 hg6 hat6 Hrow4 Hi4 Hb6 Hf5 Hrd HLo;go_roundw
    case rel=>exact⟨q+1,by go_num,by omega,HN⟩
    case measure=>simp only[intOf];omega
  . obtain rfl:q=l.length:=by omega
    have hi0:=hI.out.i;have hrow:=hI.out.row;rw[show(A8 l).take l.length=A8 l by rw[<-Ek l,List.take_length]]at hrow;obtain⟨aV,cV,rfl⟩:=hrow.slice_n (show(dL (A8 l)).length=l.length by rw[Fl,Ek]);have hM2:=fun(W:World) (hB:Below wr.heap.size wr W)=>(RVR.start (S:=S) (hi0.call hB)).maybe (by omega) true Lk 5 false 0 ⟨#[]⟩ (A8 l) [] aV cV none 0 (by
     rw[Ek];exact(Nt ((hrow.below hB).closeIn)).mono fun i _ h=>⟨by
      rcases h with h|h
      . exact h
      . exact .inr (hrow.base i h).1,by simp[Value.ownBlock]⟩)
    rw[Ek]at hM2;simp only[List.length_nil,if_true,List.nil_append]at hM2;have HM2:=qz hM2;clear hM2;clear hrow hi0 hI hlt;go_wp2_with (fail);(with_reducible refine(Kl aV l.length cV _).mono ?_);rintro e w2 ⟨rfl,hb2⟩;have HM3:=qz (HM2.out w2 hb2);clear hb2 x18;go_wp2_with (fail);(with_reducible refine(HM3.out).mono ?_);rintro e w4 ⟨a4,m4,c4,rfl,hm4,hR4⟩;have hSS: ∀X,Aj X w.heap.size Ey BX->(fun X=>X.cell? ⟨w.heap.size,1,none⟩=some (.string key)/\X.cell? ⟨w.heap.size,4,none⟩=some (.bool had)/\X.cell? ⟨w.heap.size,5,none⟩=some (.int .i64 k1)/\X.cell? ⟨w.heap.size,6,none⟩=some (.bool b1)/\X.cell? ⟨w.heap.size,7,none⟩=some (.int .i64 n1)/\X.cell? ⟨w.heap.size,8,none⟩=some (.string t1)/\X.cell? ⟨w.heap.size,9,none⟩=some (.slice la1 l1.length lc1)/\X.cell? ⟨w.heap.size,10,none⟩=some (.slice oa1 o1.length oc1)) X:=fun X hx=>by
     obtain⟨_,s1,s4,s5,s6,s7,s8,s9,s10,_⟩:=Hcell.out _ hx;exact⟨s1,s4,s5,s6,s7,s8,s9,s10⟩
    have hS0:=hSS _ hR4.i.box;have xl4:=hR4.i.box.lt;obtain⟨HSS,HR4⟩:=hid2 hSS hR4;clear hSS hR4;clear HM2 xlr;dsimp only;go_upto_region 24 with(fail);refine wp_region_held_drew (S:=fun X=>X.cell? ⟨w.heap.size,1,none⟩=some (.string key)/\X.cell? ⟨w.heap.size,4,none⟩=some (.bool had)/\X.cell? ⟨w.heap.size,5,none⟩=some (.int .i64 k1)/\X.cell? ⟨w.heap.size,6,none⟩=some (.bool b1)/\X.cell? ⟨w.heap.size,7,none⟩=some (.int .i64 n1)/\X.cell? ⟨w.heap.size,8,none⟩=some (.string t1)/\X.cell? ⟨w.heap.size,9,none⟩=some (.slice la1 l1.length lc1)/\X.cell? ⟨w.heap.size,10,none⟩=some (.slice oa1 o1.length oc1)) (by kernel_rfl) hS0 (fun hHeld=> ?_);clear hS0;refine tkH 0 hHeld ?_;refine tkH 1 hHeld ?_;refine tkH 5 hHeld ?_;refine tkH 6 hHeld ?_;refine tkH 7 hHeld ?_;refine tkH 8 hHeld ?_;refine wpAnyH_ready (rs:= [2]) (by kernel_rfl) (by simp) ?_;refine AllReadyH.cons rfl (fun K hK=> ?_) AllReadyH.nil;go_simp;(with_reducible refine(Bg key _).mono ?_);rintro e w5 ⟨rfl,hb5'⟩;have hb5:Below w4.heap.size w4 w5:=(Below.drew (Below.refl _ _)).trans hb5';refine hK.out _ _ (HSS.out _ (HR4.out.i.call hb5).box) (fun hHeld=> ?_);clear hK K hb5'
    try simp only[Act.put,tk1,tk2,tk3,tk4,tk5,tk6]
    refine tkH 3 hHeld ?_;refine wpAnyH_ready (rs:= [4]) (by kernel_rfl) (by simp) ?_;refine AllReadyH.cons rfl (fun K hK=> ?_) AllReadyH.nil;go_simp;have hb6:Below w4.heap.size w4 (w5.alloc (.cells #[.string A1,.int .i64 4,.bool false,.int .i64 0,.string key,.slice none 0 0,.slice none 0 0] 74)):=hb5.alloc hb5.size _;have hrow6:Bw S w4.heap.size 74 7 (w5.alloc (.cells #[.string A1,.int .i64 4,.bool false,.int .i64 0,.string key,.slice none 0 0,.slice none 0 0] 74)) (dO [(A1,tv key)]) (.slice (some ⟨w5.heap.size,0,none⟩) 1 1):=by
     have:=Bw.lit (S0:=S) (b:=w4.heap.size) (t:=74) (w:=w5) (d:=dP (A1,tv key)) (cs:= #[.string A1,.int .i64 4,.bool false,.int .i64 0,.string key,.slice none 0 0,.slice none 0 0]) hb5.size rfl (Bp _ _ A1 key);simpa[dO]using this
    have HG:=qz (Z5 S w w4 (w5.alloc (.cells #[.string A1,.int .i64 4,.bool false,.int .i64 0,.string key,.slice none 0 0,.slice none 0 0] 74)) key had w5.heap.size k1 b1 n1 t1 l1 o1 la1 lc1 oa1 oc1 HR4.out.i.below hb6 hrow6 Hv1.out);refine hK.out _ _ (HSS.out _ (HR4.out.i.call hb6).box) (fun hHeld=> ?_);clear hK K hb5 hb6 hrow6
    try simp only[Act.put,tk1,tk2,tk3,tk4,tk5,tk6]
    refine wpAnyH_ready (rs:= [9]) (by kernel_rfl) (by simp) ?_;refine AllReadyH.cons rfl (fun K hK=> ?_) AllReadyH.nil;go_simp;(with_reducible refine(HG.out).mono ?_);rintro e w7 ⟨a7,c7,rfl,hb7,hg7⟩;refine hK.out _ _ (HSS.out _ (HR4.out.i.call hb7).box) (fun hHeld=> ?_);clear hK K HG
    try simp only[Act.put,tk1,tk2,tk3,tk4,tk5,tk6]
    refine tkH 10 hHeld ?_;refine wpAnyH_done (by kernel_rfl) ?_ _;clear hHeld;obtain⟨G,hGG⟩: ∃g,Ba key had (.mk k1 b1 n1 t1 l1 o1)=g:=⟨_,rfl⟩;rw[hGG]at hg7 ⊢;have hba:=HR4.out.row.base;have hM8:=fun(is:Bool) (W:World) (hB:Below w7.heap.size w7 W)=>(HR4.out.call (hb7.trans (hB.mono hb7.size))).maybe (by omega) is Oq 6 false 0 ⟨#[]⟩ [] G none 0 a7 c7 ((Bo (hg7.below hB)).mono fun i _ h=>by
     rcases h with h|h
     . exact⟨.inl h,fun e=>by have:=(hba i e).1;have:=hS i h;omega⟩
     . exact⟨.inr (by have:=HR4.out.i.res.lt;omega),fun e=>by have:=(hba i e).2;omega⟩)
    have x1:=(HSS.out _ (HR4.out.i.call hb7).box).1;have xl7:=(HR4.out.i.call hb7).box.lt;have Hx7:=qz ((HR4.out.i.call hb7).box);obtain⟨HM8,HGG⟩:=hid2 hM8 hGG;clear hM8 hGG;clear hb7 hg7 hba HM3 HSS HR4;go_upto_region 25 with(fail);refine wp_region_held_drew (S:=fun X=>X.cell? ⟨w.heap.size,1,none⟩=some (.string key)) (by kernel_rfl) x1 (fun hHeld=> ?_);clear x1;refine wpAnyH_take (i:=0) (v:= ?_) rfl (by kernel_rfl) (by kernel_rfl) (by kernel_rfl) (fun _ _ _ h=>h) (Or.inl ⟨by kernel_rfl, ?_⟩) hHeld ?_;rotate_left
    . intro X hSw;have s:=hSw
      first|(go_simp;done)|(go_simp;with_reducible rfl)
    try simp only[Act.put,tk1,tk3,tk4,tk5,tk6]
    refine wpAnyH_take (i:=1) (v:= ?_) rfl (by kernel_rfl) (by kernel_rfl) (by kernel_rfl) (fun _ _ _ h=>h) (Or.inl ⟨by kernel_rfl, ?_⟩) hHeld ?_;rotate_left
    . intro X hSw;have s:=hSw
      first|(go_simp;done)|(go_simp;with_reducible rfl)
    try simp only[Act.put,tk1,tk2,tk3,tk4,tk5,tk6]
    refine wpAnyH_take (i:=2) (v:= ?_) rfl (by kernel_rfl) (by kernel_rfl) (by kernel_rfl) (fun _ _ _ h=>h) (Or.inl ⟨by kernel_rfl, ?_⟩) hHeld ?_;rotate_left
    . intro X hSw;have s:=hSw
      first|(go_simp;done)|(go_simp;with_reducible rfl)
    try simp only[Act.put,tk1,tk2,tk3,tk4,tk5,tk6]
    refine wpAnyH_take (i:=3) (v:= ?_) rfl (by kernel_rfl) (by kernel_rfl) (by kernel_rfl) (fun _ _ _ h=>h) (Or.inl ⟨by kernel_rfl, ?_⟩) hHeld ?_;rotate_left
    . intro X hSw;have s:=hSw
      first|(go_simp;done)|(go_simp;with_reducible rfl)
    try simp only[Act.put,tk1,tk2,tk3,tk4,tk5,tk6]
    refine wpAnyH_take (i:=4) (v:= ?_) rfl (by kernel_rfl) (by kernel_rfl) (by kernel_rfl) (fun _ _ _ h=>h) (Or.inl ⟨by kernel_rfl, ?_⟩) hHeld ?_;rotate_left
    . intro X hSw;have s:=hSw
      first|(go_simp;done)|(go_simp;with_reducible rfl)
    try simp only[Act.put,tk1,tk2,tk3,tk4,tk5,tk6]
    refine wpAnyH_ready (rs:= [5]) (by kernel_rfl) (by simp) ?_;refine AllReadyH.cons rfl (fun K hK=> ?_) AllReadyH.nil;go_simp;(with_reducible refine(Bj a7 G.length c7 _).mono ?_);rintro e w8 ⟨rfl,hb8'⟩;have hb8:Below w7.heap.size w7 w8:=(Below.drew (Below.refl _ _)).trans hb8';have hM9:=fun is=>HM8.out is w8 hb8;simp only[List.length_nil]at hM9;refine hK.out _ _ ((hb8.cell (p:=⟨w.heap.size,1,none⟩) xl7).trans ((Hcell.out _ Hx7.out).2.1)) (fun hHeld=> ?_);have HM9:=qz hM9;clear hM9;clear hK K hb8' hb8
    try simp only[Act.put,tk1,tk2,tk3,tk4,tk5,tk6]
    refine wpAnyH_ready (rs:= [6]) (by kernel_rfl) (by simp) ?_;refine AllReadyH.cons rfl (fun K hK=> ?_) AllReadyH.nil;go_simp;(with_reducible refine(HM9.out _).mono ?_);rintro e w9 ⟨a9,m9,c9,rfl,hm9,hR9⟩;refine hK.out _ _ ((Hcell.out _ hR9.i.box).2.1) (fun hHeld=> ?_);clear hK K HM9 HM8
    try simp only[Act.put,tk1,tk2,tk3,tk4,tk5,tk6]
    refine wpAnyH_take (i:=7) (v:= ?_) rfl (by kernel_rfl) (by kernel_rfl) (by kernel_rfl) (fun _ _ _ h=>h) (Or.inl ⟨by kernel_rfl, ?_⟩) hHeld ?_;rotate_left
    . intro X hSw;have s:=hSw
      first|(go_simp;done)|(go_simp;with_reducible rfl)
    try simp only[Act.put,tk1,tk2,tk3,tk4,tk5,tk6]
    refine wpAnyH_done (by kernel_rfl) ?_ _;clear hHeld;obtain⟨acc,hR10,hacc⟩: ∃acc,RVR S w BX acc w9 a9 m9 c9/\acc=OO:=⟨_,hR9,by
     rw[<-HOO.out,HGG.out]
     cases key.toList.isEmpty<;>simp[lv,ov]⟩
    subst hacc;clear hR9;have HIx:=qz hR10.i;have hHR:=hR10.row.closeIn.mono (T:=fun i=>S i\/w.heap.size+2<=i) fun i _ h=>by
     rcases h with h|h
     . exact h
     . exact .inr (hR10.row.base i h).1
    have hln:=hR10.len;have HR:=qz hHR;clear hR10 hHR;subst hln;go_wp2_with (fail);(with_reducible refine(Bj _ _ _ _).mono ?_);rintro e wA ⟨rfl,hbA⟩;have HIA:=qz (HIx.out.call hbA);have HRA:=qz (HR.out.below hbA);clear hbA;go_wp2_with (fail);(with_reducible refine(Cw (k:=7) (by omega) (by omega) _).mono ?_);rintro e wB ⟨rfl,hbB⟩;have HIB:=qz (HIA.out.call hbB);have HRB:=qz (HRA.out.below hbB);clear hbB;obtain⟨NM,hNM⟩: ∃t,Dt 7=t:=⟨_,rfl⟩;rw[hNM];go_wp2_with (fail);(with_reducible refine(Bg NM _).mono ?_);rintro e wC ⟨rfl,hbC⟩;have hxC:=Aj.new wC 74 #[.string Am,.int .i64 6,.bool false,.int .i64 0,.string ⟨#[]⟩,.slice none 0 0,.slice (a9) acc.length c9,.string An,.int .i64 4,.bool false,.int .i64 0,.string NM,.slice none 0 0,.slice none 0 0];have haC:=Aa wC (.cells #[.string Am,.int .i64 6,.bool false,.int .i64 0,.string ⟨#[]⟩,.slice none 0 0,.slice (a9) acc.length c9,.string An,.int .i64 4,.bool false,.int .i64 0,.string NM,.slice none 0 0,.slice none 0 0] 74);have HIC:=qz ((HIB.out.call hbC).call haC);have hRC:=(HRB.out.below hbC).below haC;have hsC:w.heap.size+2<=wC.heap.size:=by have:=HIB.out.res.lt;have:=hbC.size;omega
    have hrow:Ac (fun i=>S i\/w.heap.size+2<=i) (wC.alloc (.cells #[.string Am,.int .i64 6,.bool false,.int .i64 0,.string ⟨#[]⟩,.slice none 0 0,.slice (a9) acc.length c9,.string An,.int .i64 4,.bool false,.int .i64 0,.string NM,.slice none 0 0,.slice none 0 0] 74)) (.row 7 (dO [(Am,ov acc),(An,tv NM)])) [.slice (some ⟨wC.heap.size,0,none⟩) 2 2]:=Ac.blk hxC (.inr hsC) (B3 _) (((Ao.one (C4 (key:=Am) (Bo hRC)))).app (Ao.one (Bp _ _ An NM))) rfl;have Hfin:=qz (Bo hrow);clear hbC hxC haC hRC hrow;go_wp2_with (fail);(with_reducible refine(Bj _ _ _ _).mono ?_);rintro e wD ⟨rfl,hbD⟩;have hID:=HIC.out.call hbD;have HfD:=qz (Hfin.out.below hbD);obtain⟨r0,r1,r2,r3,r4,r5⟩:=B0 hID.res;have fz:=hID.res.frozen;have lt1:=hID.res.lt;have HID:=qz hID;clear hID;clear hbD;dsimp only
    repeat go_step
    have hxf:=(((((HID.out.res.set_ 0 (.int .i64 6)).set_ 1 (.bool false)).set_ 2 (.int .i64 0)).set_ 3 (.string ⟨#[]⟩)).set_ 4 (.slice none 0 0)).set_ 5 (.slice (some ⟨wC.heap.size,0,none⟩) 2 2);have hbf:=Ap [.int .i64 6,.bool false,.int .i64 0,.string ⟨#[]⟩,.slice none 0 0,.slice (some ⟨wC.heap.size,0,none⟩) 2 2] HID.out.below (Nat.le_succ w.heap.size) (o:=0);have hff:=(HfD.out.later (w':=Ay wD (w.heap.size+1) 0 [.int .i64 6,.bool false,.int .i64 0,.string ⟨#[]⟩,.slice none 0 0,.slice (some ⟨wC.heap.size,0,none⟩) 2 2]) (by rw[Aw];exact Nat.le_refl _) fun p p1 _=>World.cell?_of_block (Ak _ _ _ _ _ (by rcases p1 with p1|p1<;>first|(have:=hS _ p1;omega)|omega))).mono (T:=fun i=>S i\/w.heap.size<=i) fun i _ h=>h.imp id fun h=>by omega
    rw[<-HPO.out];exact bodyPost_ret (Au rfl rfl hxf) rfl ⟨hbf,_,_,rfl,by rw[hNM];exact hff⟩
end Go.Proofs.YtobmaegpfbheoaaGreatDoor
