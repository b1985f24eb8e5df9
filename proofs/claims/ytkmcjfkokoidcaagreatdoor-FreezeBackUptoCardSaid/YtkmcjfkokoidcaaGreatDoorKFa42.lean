/- Parts: What is of a tree, and of a map, later; values that may be, in lists. Plain. No condition. -/
import Derived.Test.YtkmcjfkokoidcaaGreatDoorKFa37
import Derived.Test.YtkmcjfkokoidcaaGreatDoorKFa40
set_option maxHeartbeats 20000000
set_option maxRecDepth 100000
namespace Go.Proofs.YtkmcjfkokoidcaaGreatDoor
open Go Go.RowKit
theorem Aca (l l':List A5) (M M':Nat) (a a':Option Addr) (n c n' c':Nat) (w:World) (hM:w.cell? ⟨M,0,none⟩=some (.slice a n c)) (hM':w.cell? ⟨M',0,none⟩=some (.slice a' n' c')) (lM:M<w.heap.size) (lM':M'<w.heap.size)
 (h:Ag w w.heap.size (.row 7 (dO l)) [.slice a n c]) (h':Ag w w.heap.size (.row 7 (dO l')) [.slice a' n' c']) (hb:Ab l<=100000000) (hb':Ab l'<=100000000):
 Calls Tryz.prog 19 #[.pointer (some ⟨M,0,none⟩),.pointer (some ⟨M',0,none⟩)] w (Bt (En l l'=true) w):=by
 obtain⟨PO,hPO⟩: ∃P:Ending->World->Prop,Bt (En l l'=true) w=P:=⟨_,rfl⟩;rw[hPO];have hbd:=Below.drew (Below.refl w.heap.size w);have HC:=qz (Sb l l' a a' n c n' c' w.drew ((h.below hbd).more hbd.size) ((h'.below hbd).more hbd.size) hb hb');have HPO:=qz hPO;clear hPO;clear h h' hb hb' hbd;go_enter Tryz.func19,Tryz.ntmps19;go_upto_region 1 with(fail);refine wp_region_held_drew (S:=fun Y:World=>Y.cell? ⟨M,0,none⟩=some (.slice a n c)/\Y.cell? ⟨M',0,none⟩=some (.slice a' n' c')) (by kernel_rfl) ⟨hM,hM'⟩ (fun hHeld=> ?_);refine tkH 0 hHeld ?_;refine tkH 1 hHeld ?_;refine tkH 2 hHeld ?_;refine tkH 3 hHeld ?_;refine tkH 4 hHeld ?_;refine tkH 5 hHeld ?_;refine tkH 6 hHeld ?_;refine tkH 7 hHeld ?_;refine Ee 8 fun K hK=> ?_;go_simp;(with_reducible refine(HC.out).mono ?_);rintro e w2 ⟨B,rfl,hB,hb2⟩;have hbw:Below w.heap.size w w2:=(Below.drew (Below.refl _ w)).trans hb2;refine hK.out _ _ ⟨(hbw.cell (p:=⟨M,0,none⟩) lM).trans hM,(hbw.cell (p:=⟨M',0,none⟩) lM').trans hM'⟩ (fun hHeld=> ?_);clear hK K hb2 HC
 try simp only[Act.put,tk1,tk2,tk3,tk4,tk5,tk6]
 have HP:Hid (PO (.returned (.bool B)) w2):=by
  show PO _ _;rw[<-HPO.out];exact⟨B,rfl,hB,hbw⟩
 clear hbw;refine tkH 9 hHeld ?_;refine wpAnyH_done (by kernel_rfl) ?_ _;clear hHeld;go_wp2;exact HP.out
theorem Aff (es:List A5) (e:A5):Ke (es++ [e])=Cf e.1 e.2 (Ke es):=by unfold Ke;rw[List.foldl_append];rfl
theorem Aih (es:List A5):(Ke es).length<=es.length/\Ab (Ke es)<=Ab es:=by
 obtain⟨_,h2,h3,h4⟩:=C9 es;rw[h2]at h3 h4;exact⟨h3,h4⟩
def MOI (w:World) (es:List A5) (q:Nat) (wr:World):Prop:=Below w.heap.size w wr/\ ∃V,Lw (fun i=>i<w.heap.size) w.heap.size wr w.heap.size V (Ke (es.take q))
def Pn (l:List A5) (w:World) (e:Ending) (w':World):Prop:=Below w.heap.size w w'/\e=.returned (.pointer (some ⟨w.heap.size,0,none⟩))/\ ∃V,Lw (fun i=>i<w.heap.size) w.heap.size w' w.heap.size V l
theorem I0 (es:List A5) (a:Option Addr) (n c:Nat) (w:World) (h:Ag w w.heap.size (.row 7 (dO es)) [.slice a n c]) (hb:Ab es<=50000000):Calls Tryz.prog 12 #[.slice a n c] w (Pn (Ke es) w):=by
 obtain⟨PO,hPO⟩: ∃P:Ending->World->Prop,Pn (Ke es) w=P:=⟨_,rfl⟩;rw[hPO];have hn:=h.row_len;rw[Av]at hn;subst hn;have hln:=Bc es;have HI0:Hid (MOI w es 0 (w.alloc (.cells #[.slice none 0 0] Aap))):=⟨Aa _ _,_,Aj.new _ _ _,by simpa[Ke,dO]using At.nil (fun i=>i<w.heap.size) w.heap.size 63 7 (w.alloc (.cells #[.slice none 0 0] Aap)),fun e=>by cases e⟩;have HT:=qz (Ah.of_old h (Nat.le_refl _) (Below.refl _ _));obtain⟨H,HPO⟩:=hid2 h hPO;clear h hPO;go_enter Tryz.func12,Tryz.ntmps12;go_wp2_with (fail);go_loopw [4] (fun i wr=> ∃q:Nat,i=.int .i64 q/\q<=es.length/\Hid (MOI w es q wr)) (fun i _=>es.length - (intOf i).toNat)
 case atStart=>exact⟨0,rfl,Nat.zero_le _,HI0⟩
 case round=>
  obtain⟨q,rfl,hq,hI⟩:=hrel;clear HI0;obtain⟨hbw,V,hM⟩:=hI.out;by_cases hlt:q<es.length
  . obtain⟨⟨key,⟨k',b',n',t',l',o'⟩⟩,hx⟩: ∃v,es[q]? =some v:=⟨_,List.getElem?_eq_getElem hlt⟩;have hz:=hbw.size;obtain⟨g,off,rfl,hg,la,lc,oa,oc,hv0,d0,d1,d2,d3,d4,d5,d6⟩:=Fp HT.out hx;have hv:=hv0.below hbw;have hgr:g<wr.heap.size:=by omega
    obtain⟨c0,c1,c2,c3,c4,c5,c6⟩:wr.cell? ⟨g,off+q*7,none⟩=some (.string key)/\wr.cell? ⟨g,off+q*7+1,none⟩=some (.int .i64 k')/\wr.cell? ⟨g,off+q*7+2,none⟩=some (.bool b')/\wr.cell? ⟨g,off+q*7+3,none⟩=some (.int .i64 n')/\wr.cell? ⟨g,off+q*7+4,none⟩=some (.string t')/\wr.cell? ⟨g,off+q*7+5,none⟩=some (.slice la l'.length lc)/\wr.cell? ⟨g,off+q*7+6,none⟩=some (.slice oa o'.length oc):=⟨(hbw.cell hg).trans d0,(hbw.cell hg).trans d1,(hbw.cell hg).trans d2,(hbw.cell hg).trans d3,(hbw.cell hg).trans d4,(hbw.cell hg).trans d5,(hbw.cell hg).trans d6⟩;have htk:Ke (es.take (q+1))=Cf key (.mk k' b' n' t' l' o') (Ke (es.take q)):=by
     rw[List.take_add_one,hx,Option.toList_some,Aff]
    have hpl:=(Aih (es.take q)).1;rw[List.length_take]at hpl;have hC:=Uj (fun i=>i<w.heap.size) w.heap.size (Ke (es.take q)) w.heap.size V key (.mk k' b' n' t' l' o') k' b' n' t' la l'.length lc oa o'.length oc wr.drew ⟨hM.1.drew,hM.2.1.below (Below.drew (Below.refl _ _)),hM.2.2⟩ hz (hv.below (Below.drew (Below.refl _ _))) (by omega) (by omega);rw[<-htk]at hC;have q1:(q:Int)<(es.length:Int):=by omega
    have q0:(0:Int)<=q:=by omega
    obtain⟨HC,Hbw⟩:=hid2 hC hbw;clear hC hbw;clear hI hM hv hv0 htk hx d0 d1 d2 d3 d4 d5 d6;go_upto_region 5 with(fail);refine wp_region_held_drew (S:=fun Y:World=>Y.cell? ⟨g,off+q*7,none⟩=some (.string key)/\Y.cell? ⟨g,off+q*7+1,none⟩=some (.int .i64 k')/\Y.cell? ⟨g,off+q*7+2,none⟩=some (.bool b')/\Y.cell? ⟨g,off+q*7+3,none⟩=some (.int .i64 n')/\Y.cell? ⟨g,off+q*7+4,none⟩=some (.string t')/\Y.cell? ⟨g,off+q*7+5,none⟩=some (.slice la l'.length lc)/\Y.cell? ⟨g,off+q*7+6,none⟩=some (.slice oa o'.length oc)) (by kernel_rfl) ⟨c0,c1,c2,c3,c4,c5,c6⟩ (fun hHeld=> ?_);refine tkH 0 hHeld ?_;refine tkH 1 hHeld ?_;refine tkH 2 hHeld ?_;refine tkH 3 hHeld ?_;refine tkH 4 hHeld ?_;refine tkH 5 hHeld ?_;refine tkH 6 hHeld ?_;refine tkH 7 hHeld ?_;refine tkH 8 hHeld ?_;refine tkH 9 hHeld ?_;refine tkH 10 hHeld ?_;refine Ee 11 fun K hK=> ?_;go_simp;(with_reducible refine(HC.out).mono ?_);rintro e w2 ⟨rfl,hk2,V2,hM2⟩;have hk2':KB (fun i=>i=w.heap.size) wr w2:=(KB.of_below (S:=fun i=>i=w.heap.size) (Below.drew (Below.refl _ wr))).trans hk2 fun _ _ h=>h;have hcell: ∀o,w2.cell? ⟨g,o,none⟩=wr.cell? ⟨g,o,none⟩:=fun o=>World.cell?_of_block (hk2'.block g hgr (fun e=>by have e2:g=w.heap.size:=e;omega));have HI2:Hid (MOI w es (q+1) w2):=⟨Hbw.out.trans (hk2'.below (fun k h=>by subst h;exact Nat.le_refl _) hz),V2,hM2⟩;refine hK.out _ _ ⟨(hcell _).trans c0,(hcell _).trans c1,(hcell _).trans c2,(hcell _).trans c3,(hcell _).trans c4,(hcell _).trans c5,(hcell _).trans c6⟩ (fun hHeld=> ?_);clear hK K hk2 hk2' hM2 hcell
    try simp only[Act.put,tk1,tk2,tk3,tk4,tk5,tk6]
    refine wpAnyH_done (by kernel_rfl) ?_ _;clear hHeld;go_wp2;go_roundw
    case rel=>exact⟨q+1,by go_num,by omega,HI2⟩
    case measure=>simp only[intOf];omega
  . obtain rfl:q=es.length:=by omega
    rw[List.take_length]at hM;have HP:Hid (PO (.returned (.pointer (some ⟨w.heap.size,0,none⟩))) wr):=by
     show PO _ _;rw[<-HPO.out];exact⟨hbw,rfl,V,hM⟩
    have q1: ¬(es.length:Int)<(es.length:Int):=by omega
    clear hI hbw hM;go_wp2;exact HP.out
theorem Aej (B:Nat) (acc:List A5) (V:Value) (w:World) (hB:B<=w.heap.size) (hr:At (fun i=>B<=i) B 63 7 w (dO acc) V) (hb:Ab acc<=100000000):Calls Tryz.prog 51 #[V,.pointer none] w (Lu B acc V w):=by
 obtain⟨PO,hPO⟩: ∃P:Ending->World->Prop,Lu B acc V w=P:=⟨_,rfl⟩;rw[hPO];have hE:=Q8 w;have hla:=Bc acc;obtain⟨j0,hj,hy0,hy1,hy2⟩:=info_parts J7;have hLo:Hid ((dO acc).length+0<=maxLen/\((dO acc).length+0)*104<=140737488355328):=by rw[Av];exact⟨by simp only[maxLen];omega,by omega⟩
 obtain⟨aV,cV,rfl⟩:=hr.slice;have HX:Hid (Aw (fun i=>B<=i/\(Value.slice aV (dO acc).length cV).ownBlock≠some i) w [] []):=fun _ _ _=>rfl;have Hrd:Hid (Bu w 0 7 none 0 []):=⟨rfl,fun h=>absurd h (by omega)⟩;obtain⟨HE,HPO,Hr,Hj,Hy0,Hy1,Hy2⟩:=hid7 hE hPO hr hj hy0 hy1 hy2;clear hE hPO hr hj hy0 hy1 hy2;go_enter Tryz.func51,Tryz.ntmps51;go_wp2_with (fail);(with_reducible refine(HE.out).mono ?_);rintro e w1 ⟨rfl,rfl⟩;go_wp2_with (at_builtin;apply Shut.out);unfold Shut;refine C4 rfl (.tmp 7) (.tmp 9) 22 rfl Tryz.underlying22 Hj.out Hy0.out Hy1.out Hy2.out rfl (by omega) rfl Hr.out (by omega) (fun d hd=>by cases hd) HX.out rfl Hrd.out rfl hLo.out.1 hLo.out.2 ?_;intro V6 w6 hrow6 hg6 hat6;rw[List.append_nil]at hrow6;obtain⟨a6,c6,rfl⟩:=hrow6.slice;have HK:=qz (Ah9 w6);have hP:Lu B acc (.slice aV (dO acc).length cV) w (.returned (.slice a6 (dO acc).length c6)) w6:=by
  refine⟨KB.of_grown (S:=fun i=>(Value.slice aV (dO acc).length cV).ownBlock=some i) hg6 fun k e=>e,_,rfl,hrow6, ?_⟩;rcases hat6 with e|e
  . exact .inl e
  . exact .inr ⟨_,e,Nat.le_refl _⟩
 rw[HPO.out]at hP;have HP:=qz hP;clear hP hrow6 hg6 hat6;go_wp2_with (fail);(with_reducible refine(HK.out).mono ?_);rintro e w7 ⟨rfl,rfl⟩;go_wp2_with (fail);go_loopw [0,14] (fun V i wr=>V=.slice a6 (dO acc).length c6/\i=.int .i64 0/\wr=w6) (fun _ _ _=>0)
 case atStart=>exact⟨rfl,rfl,rfl⟩
 case round=>
  obtain⟨rfl,rfl,rfl⟩:=hrel;go_wp2;exact HP.out
def Nr (es:List A5) (w:World) (e:Ending) (w':World):Prop:=Below w.heap.size w w'/\ ∃V,e=.returned V/\At (fun i=>w.heap.size<=i) w.heap.size 63 7 w' (dO es) V
theorem Kx (t:Option (Nat×Nd)) (p:Option Addr) (w:World) (ht:Eo (fun i=>i<w.heap.size) w t p) (ok:Pa t) (hb:Ab (Ba t)<=100000000):Calls Tryz.prog 23 #[.agg #[.pointer p]] w (Nr (Ba t) w):=by
 obtain⟨PO,hPO⟩: ∃P:Ending->World->Prop,Nr (Ba t) w=P:=⟨_,rfl⟩;rw[hPO];have hln:=Bc (Ba t);obtain⟨w1,hw1⟩: ∃w1,w.alloc (.cells #[.pointer p] 26)=w1:=⟨_,rfl⟩;have hb1:Below w.heap.size w w1:=hw1▸Aa _ _;have hx1:Aj w1 w.heap.size 26 #[.pointer p]:=hw1▸Aj.new _ _ _;have HL:=qz (Kj _ t p w1.drew ((ht.below hb1).below (Below.drew (Below.refl _ _))));obtain⟨j0,hj,hy0,hy1,hy2⟩:=info_parts J7;have c0:=hx1.cell 0;have lx:=hx1.lt;obtain⟨HPO,Hb1,Hx1,Hj,Hy0,Hy1,Hy2,Ht⟩:=hid8 hPO hb1 hx1 hj hy0 hy1 hy2 ht;clear hPO hb1 hx1 hj hy0 hy1 hy2 ht;go_enter Tryz.func23,Tryz.ntmps23;go_upto_region 1 with(fail);clear hw1;refine wp_region_held_drew (S:=fun Y:World=>Y.cell? ⟨w.heap.size,0,none⟩=some (.pointer p)) (by kernel_rfl) c0 (fun hHeld=> ?_);refine tkH 0 hHeld ?_;refine tkH 3 hHeld ?_;refine tkH 4 hHeld ?_;refine Ee 1 fun K hK=> ?_;go_simp;(with_reducible refine(HL.out).mono ?_);rintro e w2 ⟨rfl,hb2⟩;have hx2:=Hx1.out.drew.below hb2 Hx1.out.drew.lt;refine hK.out _ _ (hx2.cell 0) (fun hHeld=> ?_);clear hK K
 try simp only[Act.put,tk1,tk2,tk3,tk4,tk5,tk6]
 have hW2:Below w.heap.size w w2:=(Hb1.out.trans ((Below.drew (Below.refl _ w1)).mono Hb1.out.size)).trans (hb2.mono Hb1.out.size);obtain⟨N,hN⟩: ∃N,(Ba t).length=N:=⟨_,rfl⟩;rw[hN]at hln ⊢;obtain⟨w3,hrun,hown,hgr⟩:=run_make_own (P:=Tryz.prog) w2 w.heap.size 22 63 j0 _ 7 Tryz.underlying22 Hj.out Hy0.out Hy1.out .i64 .i64 N (by rw[Hy2.out];omega) (by simp only[maxLen];omega) hW2.size;have hx3:=hx2.grown hgr (by simp);have hW3:=hW2.grown hgr hW2.size (fun k hk=>by cases hk);have hz2:=hW2.size;have hz3:=hgr.size;have hrow:At (fun i=>w.heap.size<=i) w.heap.size 63 7 w3 (dO []) (.slice (some ⟨w2.heap.size,0,none⟩) 0 N):=⟨[],by simpa[dO]using hown,by simp[dO],fun _ _ _=>by simp[dO,Af]⟩;have hG:Calls Tryz.prog 51 #[.slice (some ⟨w2.heap.size,0,none⟩) 0 N,.pointer p] w3 (Lu w.heap.size (Ba t) (.slice (some ⟨w2.heap.size,0,none⟩) 0 N) w3):=by
  cases t with
  |none=>
   have hp:p=none:=Ht.out;subst hp;exact Aej w.heap.size [] _ w3 hW3.size hrow (by simp[Ab])
  |some t=>
   obtain⟨h',n⟩:=t;obtain⟨l1,l2,l3⟩:=Fb h';obtain⟨b,rfl,hn⟩:=(Ht.out.below hW3);have:=Y7 w.heap.size n [] _ b w3 hn hW3.size hrow ⟨_,h',l2,l3,ok.1⟩ (by simpa[Ab,Ba]using hb);simpa[Ba]using this
 refine Ee 2 fun K hK=> ?_;go_simp;refine hK.out _ _ (hx3.cell 0) (fun hHeld=> ?_);clear hK K
 try simp only[Act.put,tk1,tk2,tk3,tk4,tk5,tk6]
 refine Ee 5 fun K hK=> ?_;go_simp;(with_reducible refine(hG).mono ?_);rintro e w4 ⟨hk4,V4,rfl,hr4,hat4⟩;have hx4:Aj w4 w.heap.size 26 #[.pointer p]:=hx3.kb hk4 (fun e=>by have e2:w2.heap.size=w.heap.size:=Option.some.inj e;have:=hx2.lt;omega);have hW4:Below w.heap.size w w4:=hW3.trans (hk4.below (fun k e=>by have e2:w2.heap.size=k:=Option.some.inj e;omega) hW3.size);refine hK.out _ _ (hx4.cell 0) (fun hHeld=> ?_);clear hK K;have HP:Hid (PO (.returned V4) w4):=by
  show PO _ _;rw[<-HPO.out];exact⟨hW4,V4,rfl,hr4⟩
 obtain⟨a4,c4,rfl⟩:=hr4.slice;clear hG hk4 hr4 hat4 hW4 hrow
 try simp only[Act.put,tk1,tk2,tk3,tk4,tk5,tk6]
 refine tkH 6 hHeld ?_;refine wpAnyH_done (by kernel_rfl) ?_ _;clear hHeld;go_wp2;exact HP.out
theorem Eo.inj {S T:Nat->Prop} {w:World} {t u:Option (Nat×Nd)} {p:Option Addr} (h:Eo S w t p) (h':Eo T w u p):Ba t=Ba u:=by
 rcases t with _|⟨a,n⟩
 . rcases u with _|⟨b,m⟩
   . rfl
   . cases h
     obtain⟨_,e,_⟩:=h'
     cases e
 . obtain⟨x,rfl,h1⟩:=h;rcases u with _|⟨b,m⟩
   . cases h'
   . obtain⟨y,e,h2⟩:=h'
     cases e
     show Bi n=Bi m;rw[Cd.inj _ _ _ h1.now h2.now]
theorem Am7 {S T:Nat->Prop} {w:World} {t u:Option (Nat×Nd)} {p q:Option Addr} (ht:Eo S w t p) (hu:Eo T w u q): ∃B:Bool,(B=true->p=q)/\ ∀W,Below w.heap.size w W->(binOp .eql 24 (.pointer p) (.pointer q)).run Tryz.prog W=.ok (.bool B) W:=by
 have hu0:Tryz.prog.underlying 24=some (.pointer (Tryz.prog.pointee 24)):=by kernel_rfl
 have hnil: ∀(W:World) (r:Option Addr),(binOp .eql 24 (.pointer r) (.pointer none)).run Tryz.prog W=.ok (.bool r.isNone) W:=fun W r=>run_eql_pointer_nil W _ r hu0;have hnil': ∀(W:World) (r:Addr),(binOp .eql 24 (.pointer none) (.pointer (some r))).run Tryz.prog W=.ok (.bool false) W:=fun W r=>by
  have h1: ∀d:Nat,(Op.equalIn (d+1) 24 (.pointer none) (.pointer (some r))).run Tryz.prog W=.ok false W:=fun d=>by
   simp[Op.equalIn,run_underlying hu0]
  simp only[binOp];simp[Op.equal,Op.maxDepth,h1 9999]
 rcases t with _|⟨a,n⟩
 . cases ht
   rcases u with _|⟨b,m⟩
   . cases hu
     exact⟨true,fun _=>rfl,fun W _=>hnil W none⟩
   . obtain⟨y,rfl,h2⟩:=hu;exact⟨false,(fun h=>by cases h),fun W _=>hnil' W _⟩
 . obtain⟨x,rfl,h1⟩:=ht;rcases u with _|⟨b,m⟩
   . cases hu
     exact⟨false,(fun h=>by cases h),fun W _=>hnil W (some _)⟩
   . obtain⟨y,rfl,h2⟩:=hu;by_cases hxy:x=y
     . subst hxy;exact⟨true,fun _=>rfl,fun W _=>Ali W x⟩
     . obtain⟨cs,hq⟩:=h1.blk;obtain⟨ds,hr⟩:=h2.blk;exact⟨false,(fun h=>by cases h),fun W hW=>Aie (hq.below hW hq.lt) (hr.below hW hr.lt) hxy⟩
theorem Aiy {S T:Nat->Prop} {t u:Option (Nat×Nd)} {p q:Option Addr} (w:World) (ht:Eo S w t p) (hu:Eo T w u q):Calls Tryz.prog 59 #[.agg #[.pointer p],.agg #[.pointer q]] w fun e w'=> ∃B:Bool,e=.returned (.bool B)/\(B=true->p=q)/\Below w.heap.size w w':=by
 obtain⟨w2,hw2⟩: ∃w2,(w.alloc (.cells #[.pointer p] 26)).alloc (.cells #[.pointer q] 26)=w2:=⟨_,rfl⟩;have hb2:Below w.heap.size w w2:=hw2▸Ct _ _ _;have hx2:Aj w2 w.heap.size 26 #[.pointer p]:=hw2▸(Aj.new _ _ _).alloc _;have hy2:Aj w2 (w.heap.size+1) 26 #[.pointer q]:=hw2▸Aj.new1 _ _ _ _;have d0:=hx2.cell 0;have d1:=hy2.cell 0;have l0:=hx2.lt;have l1:=hy2.lt;obtain⟨B,hB,hE⟩:=Am7 ht hu;have hE2:=hE w2 hb2;obtain⟨PO,hPO⟩: ∃P:Ending->World->Prop,(fun e w'=> ∃B:Bool,e=.returned (.bool B)/\(B=true->p=q)/\Below w.heap.size w w')=P:=⟨_,rfl⟩;rw[hPO];have HP:Hid (PO (.returned (.bool B)) w2):=by
  show PO _ _;rw[<-hPO];exact⟨B,rfl,hB,hb2⟩
 clear hx2 hy2 hb2 ht hu hPO hB hE;go_enter Tryz.func59,Tryz.ntmps59;go_wp2;exact HP.out
theorem Np (t u:Option (Nat×Nd)) (p q:Option Addr) (w:World) (ht:Eo (fun i=>i<w.heap.size) w t p) (hu:Eo (fun i=>i<w.heap.size) w u q) (ok:Pa t) (ok':Pa u) (hb:Ab (Ba t)<=100000000) (hb':Ab (Ba u)<=100000000):
 Calls Tryz.prog 31 #[.agg #[.pointer p],.agg #[.pointer q]] w (Bt (En (Ba t) (Ba u)=true) w):=by
 obtain⟨PO,hPO⟩: ∃P:Ending->World->Prop,Bt (En (Ba t) (Ba u)=true) w=P:=⟨_,rfl⟩;rw[hPO];obtain⟨w2,hw2⟩: ∃w2,(w.alloc (.cells #[.pointer p] 26)).alloc (.cells #[.pointer q] 26)=w2:=⟨_,rfl⟩;have hb2:Below w.heap.size w w2:=hw2▸Ct _ _ _;have hx2:Aj w2 w.heap.size 26 #[.pointer p]:=hw2▸(Aj.new _ _ _).alloc _;have hy2:Aj w2 (w.heap.size+1) 26 #[.pointer q]:=hw2▸Aj.new1 _ _ _ _;have HI:=qz (Aiy w2 (ht.below hb2) (hu.below hb2));have d0:=hx2.cell 0;have d1:=hy2.cell 0;have l0:=hx2.lt;have l1:=hy2.lt;obtain⟨HPO,Hb2,Hx2,Hy2⟩:=hid4 hPO hb2 hx2 hy2;clear hPO hb2 hx2 hy2;go_enter Tryz.func31,Tryz.ntmps31;go_wp2_with (fail);(with_reducible refine(HI.out).mono ?_);rintro e w3 ⟨BE,rfl,hBE,hb3⟩;have hw3:=Hb2.out.trans (hb3.mono Hb2.out.size)
 cases BE with
 |true=>
  obtain rfl:=hBE rfl;have HP:Hid (PO (.returned (.bool true)) w3):=by
   show PO _ _;rw[<-HPO.out];refine Bt.yes ?_ hw3;rw[ht.inj hu];exact Gp _
  clear hb3 hBE ht hu d0 d1 l0 l1 hw2;go_wp2;exact HP.out
 |false=>
  have hz2:=Hb2.out.size;have hz3:=hw3.size;have hx3:=Hx2.out.below hb3 l0;have hy3:=Hy2.out.below hb3 l1;have LenA:=qz (fun(W:World) (hW:Below w3.heap.size w3 W)=>Kj _ t p W ((ht.below hw3).below hW));have LenB:=qz (fun(W:World) (hW:Below w3.heap.size w3 W)=>Kj _ u q W ((hu.below hw3).below hW));have EntA:=qz (fun(W:World) (hW:Below w3.heap.size w3 W)=>Kx t p W (((ht.below hw3).below hW).mono fun i hi _=>hi) ok hb);have EntB:=qz (fun(W:World) (hW:Below w3.heap.size w3 W)=>Kx u q W (((hu.below hw3).below hW).mono fun i hi _=>hi) ok' hb');have Hkeep:Hid (∀W,Below w3.heap.size w3 W->(W.cell? ⟨w.heap.size,0,none⟩=some (.pointer p)/\W.cell? ⟨w.heap.size+1,0,none⟩=some (.pointer q))):=fun W hW=>⟨(hx3.below hW hx3.lt).cell 0,(hy3.below hW hy3.lt).cell 0⟩;generalize hN1:(Ba t).length=N1 at*
  generalize hN2:(Ba u).length=N2 at*
  obtain⟨Hw3,HN1,HN2⟩:=hid3 hw3 hN1 hN2;clear hw3 hN1 hN2;clear ht hu ok ok' hBE d0 d1 l0 l1 hb3 hx3 hy3 hw2 HI;go_wp2_with (fail);go_upto_region 3 with(fail);refine wp_region_held_drew (S:=fun Y:World=>Y.cell? ⟨w.heap.size,0,none⟩=some (.pointer p)/\Y.cell? ⟨w.heap.size+1,0,none⟩=some (.pointer q)) (by kernel_rfl) (Hkeep.out _ (Below.drew (Below.refl _ _))) (fun hHeld=> ?_);refine tkH 0 hHeld ?_;refine tkH 2 hHeld ?_;refine Ee 1 fun K hK=> ?_;go_simp;(with_reducible refine(LenA.out _ (Below.drew (Below.refl _ _))).mono ?_);rintro e w4 ⟨rfl,hb4⟩;have hw4:Below w3.heap.size w3 w4:=(Below.drew (Below.refl _ _)).trans hb4;refine hK.out _ _ (Hkeep.out _ hw4) (fun hHeld=> ?_);clear hK K hb4
  try simp only[Act.put,tk1,tk2,tk3,tk4,tk5,tk6]
  refine Ee 3 fun K hK=> ?_;go_simp;(with_reducible refine(LenB.out _ hw4).mono ?_);rintro e w5 ⟨rfl,hb5⟩;have hw5:Below w3.heap.size w3 w5:=hw4.trans (hb5.mono hw4.size);refine hK.out _ _ (Hkeep.out _ hw5) (fun hHeld=> ?_);clear hK K hb5 hw4
  try simp only[Act.put,tk1,tk2,tk3,tk4,tk5,tk6]
  by_cases hN:N1=N2
  . subst hN;refine tkH 4 hHeld ?_;refine tkH 5 hHeld ?_;refine tkH 6 hHeld ?_;refine tkH 8 hHeld ?_;refine Ee 7 fun K hK=> ?_;go_simp;(with_reducible refine(EntA.out _ hw5).mono ?_);rintro e w6 ⟨hb6,V6,rfl,hr6⟩;have hw6:Below w3.heap.size w3 w6:=hw5.trans (hb6.mono hw5.size);obtain⟨a6,c6,rfl⟩:=hr6.slice;have hh6:=hr6.close;refine hK.out _ _ (Hkeep.out _ hw6) (fun hHeld=> ?_);clear hK K hb6 hr6 hw5
    try simp only[Act.put,tk1,tk2,tk3,tk4,tk5,tk6]
    refine Ee 9 fun K hK=> ?_;go_simp;(with_reducible refine(EntB.out _ hw6).mono ?_);rintro e w7 ⟨hb7,V7,rfl,hr7⟩;have hw7:Below w3.heap.size w3 w7:=hw6.trans (hb7.mono hw6.size);obtain⟨a7,c7,rfl⟩:=hr7.slice;have HQ:=qz (Ahm _ _ _ _ _ _ _ _ w7 ((hh6.below hb7).more hb7.size) hr7.close hb hb');refine hK.out _ _ (Hkeep.out _ hw7) (fun hHeld=> ?_);clear hK K hb7 hr7 hw6 hh6
    try simp only[Act.put,tk1,tk2,tk3,tk4,tk5,tk6]
    refine Ee 10 fun K hK=> ?_;go_simp;(with_reducible refine(HQ.out).mono ?_);rintro e w8 ⟨B,rfl,hB,hb8⟩;have hw8:Below w3.heap.size w3 w8:=hw7.trans (hb8.mono hw7.size);have HP:Hid (PO (.returned (.bool B)) w8):=by
     show PO _ _;rw[<-HPO.out];exact⟨B,rfl,hB,Hw3.out.trans (hw8.mono hz3)⟩
    refine hK.out _ _ (Hkeep.out _ hw8) (fun hHeld=> ?_);clear hK K hb8 hw7 hB hw8 HQ
    try simp only[Act.put,tk1,tk2,tk3,tk4,tk5,tk6]
    refine tkH 11 hHeld ?_;refine tkH 12 hHeld ?_;refine wpAnyH_done (by kernel_rfl) ?_ _;clear hHeld;go_wp2;exact HP.out
  . have e2:((N1:Int)==(N2:Int))=false:=beq_eq_false_iff_ne.2 (by omega);have HP:Hid (PO (.returned (.bool false)) w5):=by
     show PO _ _;rw[<-HPO.out];exact Bt.no (fun e=>hN (by rw[<-HN1.out,<-HN2.out];exact(Gv.1 e).1)) (Hw3.out.trans (hw5.mono hz3))
    clear hw5 hN;refine tkH 4 hHeld ?_;refine tkH 5 hHeld ?_;refine tkN 6 hHeld ?_;refine tkN 7 hHeld ?_;refine tkN 8 hHeld ?_;refine tkN 9 hHeld ?_;refine tkN 10 hHeld ?_;refine tkH 11 hHeld ?_;refine tkH 12 hHeld ?_;refine wpAnyH_done (by kernel_rfl) ?_ _;clear hHeld;go_wp2;exact HP.out
theorem Qe {t:Option (Nat×Nd)} (h:Pa t):Ay (Ba t):=by
 match t,h with
 |none,_=>exact List.Pairwise.nil
 |some (_,_),h=>exact h.2
theorem Lw.later {b:Nat} {w w':World} {M:Nat} {V:Value} {l:List A5} {S0:Nat->Prop} (h:Lw S0 b w M V l) (hb:Below w.heap.size w w'): ∃a c,w'.cell? ⟨M,0,none⟩=some (.slice a l.length c)/\Ah (fun i=>i<w.heap.size) w' (.row 7 (dO l)) [.slice a l.length c]/\M<w.heap.size:=by
 obtain⟨h1,h2,_⟩:=h;obtain⟨a,c,rfl⟩:=h2.slice_n (Av l);refine⟨a,c,(hb.cell (p:=⟨M,0,none⟩) h1.lt).trans (h1.cell 0), ?_,h1.lt⟩;have h3:Ah (fun i=>i<w.heap.size) w (.row 7 (dO l)) [.slice a l.length c]:=Ah.of_old h2.close (Nat.le_refl _) (Below.refl _ _);exact h3.below hb
theorem Akf {l:List A5} (h: ∀e ∈ l,J9 e.2):Ew l:=by
 induction l with
 |nil=>trivial
 |cons x r ih=>
  obtain⟨k,v⟩:=x;exact⟨h (k,v) (by simp),ih fun e he=>h e (by simp[he])⟩
theorem Akg {k:ByteArray} {v:Val} {l:List A5} (hv:J9 v) (hl:Ew l):Ew (Cf k v l):=Akf fun e he=>by
 rcases Uv he with rfl|h
 . exact hv
 . exact Jr hl h
theorem Abt: ∀(es l:List A5),Ew es->Ew l->Ew (es.foldl (fun l e=>Cf e.1 e.2 l) l)
 | [],_,_,h=>h
 |e::r,l,h,hl=>Abt r (Cf e.1 e.2 l) (Akf fun x hx=>Jr h (by simp[hx])) (Akg (Jr h (by simp)) hl)
theorem Lk {es:List A5} (h:Ew es):Ew (Ke es):=Abt es [] h trivial
end Go.Proofs.YtkmcjfkokoidcaaGreatDoor
