/- Parts: commonplacelaw14.mapOf. Condition: a bulk of at most 5 * 10^7. -/
import Derived.Test.YtnkmhaachfgaoaaGreatDoorKPatchLeads2
import Derived.Test.YtnkmhaachfgaoaaGreatDoorKPatchLeads3
set_option maxHeartbeats 20000000
set_option maxRecDepth 100000
namespace Go.Proofs.YtnkmhaachfgaoaaGreatDoor
open Go Go.RowKit
theorem Aaa (B:Nat) (acc:List Ax) (V:Value) (w:World) (hB:B<=w.heap.size) (hr:Al (fun i=>B<=i) B 71 7 w (dO acc) V) (hb:Ac acc<=100000000):Calls Tryz.prog 45 #[V,.pointer none] w (J4 B acc V w):=by
 obtain⟨PO,hPO⟩: ∃P:Ending->World->Prop,J4 B acc V w=P:=⟨_,rfl⟩;rw[hPO];have hE:=Oy w;have hla:=Aw acc;obtain⟨j0,hj,hy0,hy1,hy2⟩:=info_parts Gt;have hLo:Hid ((dO acc).length+0<=maxLen/\((dO acc).length+0)*104<=140737488355328):=by rw[At];exact⟨by simp only[maxLen];omega,by omega⟩
 obtain⟨aV,cV,rfl⟩:=hr.slice;have HX:Hid (An (fun i=>B<=i/\(Value.slice aV (dO acc).length cV).ownBlock≠some i) w [] []):=fun _ _ _=>rfl;have Hrd:Hid (A5 w 0 7 none 0 []):=⟨rfl,fun h=>absurd h (by omega)⟩;obtain⟨HE,HPO,Hr,Hj,Hy0,Hy1,Hy2⟩:=hid7 hE hPO hr hj hy0 hy1 hy2;clear hE hPO hr hj hy0 hy1 hy2;go_enter Tryz.func45,Tryz.ntmps45;go_wp2_with (fail);(with_reducible refine(HE.out).mono ?_);rintro e w1 ⟨rfl,rfl⟩;go_wp2_with (at_builtin;apply Shut.out);unfold Shut;refine B8 rfl (.tmp 7) (.tmp 9) 22 rfl Tryz.underlying22 Hj.out Hy0.out Hy1.out Hy2.out rfl (by omega) rfl Hr.out (by omega) (fun d hd=>by cases hd) HX.out rfl Hrd.out rfl hLo.out.1 hLo.out.2 ?_;intro V6 w6 hrow6 hg6 hat6;rw[List.append_nil]at hrow6;obtain⟨a6,c6,rfl⟩:=hrow6.slice;have HK:=qz (Ac4 w6);have hP:J4 B acc (.slice aV (dO acc).length cV) w (.returned (.slice a6 (dO acc).length c6)) w6:=by
  refine⟨KB.of_grown (S:=fun i=>(Value.slice aV (dO acc).length cV).ownBlock=some i) hg6 fun k e=>e,_,rfl,hrow6, ?_⟩;rcases hat6 with e|e
  . exact .inl e
  . exact .inr ⟨_,e,Nat.le_refl _⟩
 rw[HPO.out]at hP;have HP:=qz hP;clear hP hrow6 hg6 hat6;go_wp2_with (fail);(with_reducible refine(HK.out).mono ?_);rintro e w7 ⟨rfl,rfl⟩;go_wp2_with (fail);go_loopw [0,14] (fun V i wr=>V=.slice a6 (dO acc).length c6/\i=.int .i64 0/\wr=w6) (fun _ _ _=>0)
 case atStart=>exact⟨rfl,rfl,rfl⟩
 case round=>
  obtain⟨rfl,rfl,rfl⟩:=hrel;go_wp2;exact HP.out
def On (es:List Ax) (w:World) (e:Ending) (w':World):Prop:=Below w.heap.size w w'/\ ∃V,e=.returned V/\Al (fun i=>w.heap.size<=i) w.heap.size 71 7 w' (dO es) V
theorem G0 (t:Option (Nat×Nd)) (p:Option Addr) (w:World) (ht:C5 (fun i=>i<w.heap.size) w t p) (ok:M5 t) (hb:Ac (Ba t)<=100000000):Calls Tryz.prog 19 #[.agg #[.pointer p]] w (On (Ba t) w):=by
 obtain⟨PO,hPO⟩: ∃P:Ending->World->Prop,On (Ba t) w=P:=⟨_,rfl⟩;rw[hPO];have hln:=Aw (Ba t);obtain⟨w1,hw1⟩: ∃w1,w.alloc (.cells #[.pointer p] 27)=w1:=⟨_,rfl⟩;have hb1:Below w.heap.size w w1:=hw1▸Aa _ _;have hx1:Ah w1 w.heap.size 27 #[.pointer p]:=hw1▸Ah.new _ _ _;have HL:=qz (Iq _ t p w1.drew ((ht.below hb1).below (Below.drew (Below.refl _ _))));obtain⟨j0,hj,hy0,hy1,hy2⟩:=info_parts Gt;have c0:=hx1.cell 0;have lx:=hx1.lt;obtain⟨HPO,Hb1,Hx1,Hj,Hy0,Hy1,Hy2,Ht⟩:=hid8 hPO hb1 hx1 hj hy0 hy1 hy2 ht;clear hPO hb1 hx1 hj hy0 hy1 hy2 ht;go_enter Tryz.func19,Tryz.ntmps19;go_upto_region 1 with(fail);clear hw1;refine wp_region_held_drew (S:=fun Y:World=>Y.cell? ⟨w.heap.size,0,none⟩=some (.pointer p)) (by kernel_rfl) c0 (fun hHeld=> ?_);refine tkH 0 hHeld ?_;refine tkH 3 hHeld ?_;refine tkH 4 hHeld ?_;refine C4 1 fun K hK=> ?_;go_simp;(with_reducible refine(HL.out).mono ?_);rintro e w2 ⟨rfl,hb2⟩;have hx2:=Hx1.out.drew.below hb2 Hx1.out.drew.lt;refine hK.out _ _ (hx2.cell 0) (fun hHeld=> ?_);clear hK K
 try simp only[Act.put,tk1,tk2,tk3,tk4,tk5,tk6]
 have hW2:Below w.heap.size w w2:=(Hb1.out.trans ((Below.drew (Below.refl _ w1)).mono Hb1.out.size)).trans (hb2.mono Hb1.out.size);obtain⟨N,hN⟩: ∃N,(Ba t).length=N:=⟨_,rfl⟩;rw[hN]at hln ⊢;obtain⟨w3,hrun,hown,hgr⟩:=run_make_own (P:=Tryz.prog) w2 w.heap.size 22 71 j0 _ 7 Tryz.underlying22 Hj.out Hy0.out Hy1.out .i64 .i64 N (by rw[Hy2.out];omega) (by simp only[maxLen];omega) hW2.size;have hx3:=hx2.grown hgr (by simp);have hW3:=hW2.grown hgr hW2.size (fun k hk=>by cases hk);have hz2:=hW2.size;have hz3:=hgr.size;have hrow:Al (fun i=>w.heap.size<=i) w.heap.size 71 7 w3 (dO []) (.slice (some ⟨w2.heap.size,0,none⟩) 0 N):=⟨[],by simpa[dO]using hown,by simp[dO],fun _ _ _=>by simp[dO,Af]⟩;have hG:Calls Tryz.prog 45 #[.slice (some ⟨w2.heap.size,0,none⟩) 0 N,.pointer p] w3 (J4 w.heap.size (Ba t) (.slice (some ⟨w2.heap.size,0,none⟩) 0 N) w3):=by
  cases t with
  |none=>
   have hp:p=none:=Ht.out;subst hp;exact Aaa w.heap.size [] _ w3 hW3.size hrow (by simp[Ac])
  |some t=>
   obtain⟨h',n⟩:=t;obtain⟨l1,l2,l3⟩:=Es h';obtain⟨b,rfl,hn⟩:=(Ht.out.below hW3);have:=Uv w.heap.size n [] _ b w3 hn hW3.size hrow ⟨_,h',l2,l3,ok.1⟩ (by simpa[Ac,Ba]using hb);simpa[Ba]using this
 refine C4 2 fun K hK=> ?_;go_simp;refine hK.out _ _ (hx3.cell 0) (fun hHeld=> ?_);clear hK K
 try simp only[Act.put,tk1,tk2,tk3,tk4,tk5,tk6]
 refine C4 5 fun K hK=> ?_;go_simp;(with_reducible refine(hG).mono ?_);rintro e w4 ⟨hk4,V4,rfl,hr4,hat4⟩;have hx4:Ah w4 w.heap.size 27 #[.pointer p]:=hx3.kb hk4 (fun e=>by have e2:w2.heap.size=w.heap.size:=Option.some.inj e;have:=hx2.lt;omega);have hW4:Below w.heap.size w w4:=hW3.trans (hk4.below (fun k e=>by have e2:w2.heap.size=k:=Option.some.inj e;omega) hW3.size);refine hK.out _ _ (hx4.cell 0) (fun hHeld=> ?_);clear hK K;have HP:Hid (PO (.returned V4) w4):=by
  show PO _ _;rw[<-HPO.out];exact⟨hW4,V4,rfl,hr4⟩
 obtain⟨a4,c4,rfl⟩:=hr4.slice;clear hG hk4 hr4 hat4 hW4 hrow
 try simp only[Act.put,tk1,tk2,tk3,tk4,tk5,tk6]
 refine tkH 6 hHeld ?_;refine wpAnyH_done (by kernel_rfl) ?_ _;clear hHeld;go_wp2;exact HP.out
theorem Aay (es:List Ax) (e:Ax):Jd (es++ [e])=Bz e.1 e.2 (Jd es):=by unfold Jd;rw[List.foldl_append];rfl
theorem Add (es:List Ax):(Jd es).length<=es.length/\Ac (Jd es)<=Ac es:=by
 obtain⟨_,h2,h3,h4⟩:=Cs es;rw[h2]at h3 h4;exact⟨h3,h4⟩
def MOI (w:World) (es:List Ax) (q:Nat) (wr:World):Prop:=Below w.heap.size w wr/\ ∃V,J6 (fun i=>i<w.heap.size) w.heap.size wr w.heap.size V (Jd (es.take q))
def Ni (l:List Ax) (w:World) (e:Ending) (w':World):Prop:=Below w.heap.size w w'/\e=.returned (.pointer (some ⟨w.heap.size,0,none⟩))/\ ∃V,J6 (fun i=>i<w.heap.size) w.heap.size w' w.heap.size V l
theorem Fr (es:List Ax) (a:Option Addr) (n c:Nat) (w:World) (h:Ae w w.heap.size (.row 7 (dO es)) [.slice a n c]) (hb:Ac es<=50000000):Calls Tryz.prog 16 #[.slice a n c] w (Ni (Jd es) w):=by
 obtain⟨PO,hPO⟩: ∃P:Ending->World->Prop,Ni (Jd es) w=P:=⟨_,rfl⟩;rw[hPO];have hn:=h.row_len;rw[At]at hn;subst hn;have hln:=Aw es;have HI0:Hid (MOI w es 0 (w.alloc (.cells #[.slice none 0 0] Wk))):=⟨Aa _ _,_,Ah.new _ _ _,by simpa[Jd,dO]using Al.nil (fun i=>i<w.heap.size) w.heap.size 71 7 (w.alloc (.cells #[.slice none 0 0] Wk)),fun e=>by cases e⟩;have HT:=qz (Ag.of_old h (Nat.le_refl _) (Below.refl _ _));obtain⟨H,HPO⟩:=hid2 h hPO;clear h hPO;go_enter Tryz.func16,Tryz.ntmps16;go_wp2_with (fail);go_loopw [4] (fun i wr=> ∃q:Nat,i=.int .i64 q/\q<=es.length/\Hid (MOI w es q wr)) (fun i _=>es.length - (intOf i).toNat)
 case atStart=>exact⟨0,rfl,Nat.zero_le _,HI0⟩
 case round=>
  obtain⟨q,rfl,hq,hI⟩:=hrel;clear HI0;obtain⟨hbw,V,hM⟩:=hI.out;by_cases hlt:q<es.length
  . obtain⟨⟨key,⟨k',b',n',t',l',o'⟩⟩,hx⟩: ∃v,es[q]? =some v:=⟨_,List.getElem?_eq_getElem hlt⟩;have hz:=hbw.size;obtain⟨g,off,rfl,hg,la,lc,oa,oc,hv0,d0,d1,d2,d3,d4,d5,d6⟩:=F5 HT.out hx;have hv:=hv0.below hbw;have hgr:g<wr.heap.size:=by omega
    obtain⟨c0,c1,c2,c3,c4,c5,c6⟩:wr.cell? ⟨g,off+q*7,none⟩=some (.string key)/\wr.cell? ⟨g,off+q*7+1,none⟩=some (.int .i64 k')/\wr.cell? ⟨g,off+q*7+2,none⟩=some (.bool b')/\wr.cell? ⟨g,off+q*7+3,none⟩=some (.int .i64 n')/\wr.cell? ⟨g,off+q*7+4,none⟩=some (.string t')/\wr.cell? ⟨g,off+q*7+5,none⟩=some (.slice la l'.length lc)/\wr.cell? ⟨g,off+q*7+6,none⟩=some (.slice oa o'.length oc):=⟨(hbw.cell hg).trans d0,(hbw.cell hg).trans d1,(hbw.cell hg).trans d2,(hbw.cell hg).trans d3,(hbw.cell hg).trans d4,(hbw.cell hg).trans d5,(hbw.cell hg).trans d6⟩;have htk:Jd (es.take (q+1))=Bz key (.mk k' b' n' t' l' o') (Jd (es.take q)):=by
     rw[List.take_add_one,hx,Option.toList_some,Aay]
    have hpl:=(Add (es.take q)).1;rw[List.length_take]at hpl;have hC:=Rk (fun i=>i<w.heap.size) w.heap.size (Jd (es.take q)) w.heap.size V key (.mk k' b' n' t' l' o') k' b' n' t' la l'.length lc oa o'.length oc wr.drew ⟨hM.1.drew,hM.2.1.below (Below.drew (Below.refl _ _)),hM.2.2⟩ hz (hv.below (Below.drew (Below.refl _ _))) (by omega) (by omega);rw[<-htk]at hC;have q1:(q:Int)<(es.length:Int):=by omega
    have q0:(0:Int)<=q:=by omega
    obtain⟨HC,Hbw⟩:=hid2 hC hbw;clear hC hbw;clear hI hM hv hv0 htk hx d0 d1 d2 d3 d4 d5 d6;go_upto_region 5 with(fail);refine wp_region_held_drew (S:=fun Y:World=>Y.cell? ⟨g,off+q*7,none⟩=some (.string key)/\Y.cell? ⟨g,off+q*7+1,none⟩=some (.int .i64 k')/\Y.cell? ⟨g,off+q*7+2,none⟩=some (.bool b')/\Y.cell? ⟨g,off+q*7+3,none⟩=some (.int .i64 n')/\Y.cell? ⟨g,off+q*7+4,none⟩=some (.string t')/\Y.cell? ⟨g,off+q*7+5,none⟩=some (.slice la l'.length lc)/\Y.cell? ⟨g,off+q*7+6,none⟩=some (.slice oa o'.length oc)) (by kernel_rfl) ⟨c0,c1,c2,c3,c4,c5,c6⟩ (fun hHeld=> ?_);refine tkH 0 hHeld ?_;refine tkH 1 hHeld ?_;refine tkH 2 hHeld ?_;refine tkH 3 hHeld ?_;refine tkH 4 hHeld ?_;refine tkH 5 hHeld ?_;refine tkH 6 hHeld ?_;refine tkH 7 hHeld ?_;refine tkH 8 hHeld ?_;refine tkH 9 hHeld ?_;refine tkH 10 hHeld ?_;refine C4 11 fun K hK=> ?_;go_simp;(with_reducible refine(HC.out).mono ?_);rintro e w2 ⟨rfl,hk2,V2,hM2⟩;have hk2':KB (fun i=>i=w.heap.size) wr w2:=(KB.of_below (S:=fun i=>i=w.heap.size) (Below.drew (Below.refl _ wr))).trans hk2 fun _ _ h=>h;have hcell: ∀o,w2.cell? ⟨g,o,none⟩=wr.cell? ⟨g,o,none⟩:=fun o=>World.cell?_of_block (hk2'.block g hgr (fun e=>by have e2:g=w.heap.size:=e;omega));have HI2:Hid (MOI w es (q+1) w2):=⟨Hbw.out.trans (hk2'.below (fun k h=>by subst h;exact Nat.le_refl _) hz),V2,hM2⟩;refine hK.out _ _ ⟨(hcell _).trans c0,(hcell _).trans c1,(hcell _).trans c2,(hcell _).trans c3,(hcell _).trans c4,(hcell _).trans c5,(hcell _).trans c6⟩ (fun hHeld=> ?_);clear hK K hk2 hk2' hM2 hcell
    try simp only[Act.put,tk1,tk2,tk3,tk4,tk5,tk6]
    refine wpAnyH_done (by kernel_rfl) ?_ _;clear hHeld;go_wp2;go_roundw
    case rel=>exact⟨q+1,by go_num,by omega,HI2⟩
    case measure=>simp only[intOf];omega
  . obtain rfl:q=es.length:=by omega
    rw[List.take_length]at hM;have HP:Hid (PO (.returned (.pointer (some ⟨w.heap.size,0,none⟩))) wr):=by
     show PO _ _;rw[<-HPO.out];exact⟨hbw,rfl,V,hM⟩
    have q1: ¬(es.length:Int)<(es.length:Int):=by omega
    clear hI hbw hM;go_wp2;exact HP.out
end Go.Proofs.YtnkmhaachfgaoaaGreatDoor
