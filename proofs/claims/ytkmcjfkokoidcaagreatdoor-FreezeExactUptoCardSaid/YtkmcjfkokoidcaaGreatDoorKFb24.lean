/- Parts: tree.with: a key put into a node. Condition: at most 10^8 entries, a bulk of at most 10^8, a height of at most 10^5. -/
import Derived.Test.YtkmcjfkokoidcaaGreatDoorKFb21
import Derived.Test.YtkmcjfkokoidcaaGreatDoorKFb22
set_option maxHeartbeats 20000000
set_option maxRecDepth 100000
namespace Go.Proofs.YtkmcjfkokoidcaaGreatDoor
open Go Go.RowKit
theorem Wu {w w':World} {B B':Nat}: ∀{bs:List Nat} {ns:List Value},Ag w B (Ce bs) ns->Ag w' B' (Ce bs) ns
 | [],_,h=>h
 |b::r,_,h=>by
  obtain⟨c1,c2,rfl,h1,h2⟩:=h;exact⟨c1,c2,rfl,h1,Wu h2⟩
theorem A0.empty {S0:Nat->Prop} {b s:Nat} {t:TypeId} {w:World} (hb:b<=w.heap.size):A0 S0 b t s (w.alloc (.cells #[] t)) [] (.slice (some ⟨w.heap.size,0,none⟩) 0 0):=
 ⟨[],⟨by simp,.inr ⟨w.heap.size,0, #[],rfl,hb,heap_alloc_new w _,Nat.le_refl _,by unfold maxLen;omega,by simp,by simp⟩⟩,fun x hx=>(by cases hx),fun _ _ _=>rfl⟩
def Mv (bs:List Nat) (w:World) (e:Ending) (w':World):Prop:=Below w.heap.size w w'/\ ∃V,e=.returned V/\A0 (fun _=>False) w.heap.size 24 1 w' (Ce bs) V
theorem U0 (bs:List Nat) (a:Option Addr) (n c:Nat) (w:World) (h:Ah w w.heap.size (.row 1 (Ce bs)) [.slice a n c]) (h0:0<bs.length) (h8:bs.length<=1000):
 Calls Tryz.prog 157 #[.slice a n c] w (Mv bs w):=by
 have hn:=h.row_len;rw[Bm]at hn;subst hn;obtain⟨j0,hj,hy0,hy1,hy2⟩:=info_parts Xy;obtain⟨g,off,rfl,hg,_⟩:=Iz h (q:=0) (b:=bs[0]) (List.getElem?_eq_getElem h0);obtain⟨ns,hr,hA,_⟩:=h.reads;have hb1:=Aa w (.cells #[] 24);have HR:=qz (hr.below hb1);have HX:Hid (At (fun i=>False/\(Value.slice (some ⟨w.heap.size,0,none⟩) 0 0).ownBlock≠some i) (w.alloc (.cells #[] 24)) (Ce bs) ns):=fun w'' _ _=>Wu hA;have hrow:=A0.empty (S0:=fun _=>False) (b:=w.heap.size) (s:=1) (t:=24) (w:=w) (Nat.le_refl _);have hLo:([]:List D).length+bs.length<=maxLen/\(([]:List D).length+bs.length)*8<=140737488355328:=by
  simp only[List.length_nil,maxLen];omega
 have Hdl:=qz ((Bm bs).symm);have hnil:=fun(W:World)=>Lib.run_eql_slice_nil (P:=Tryz.prog) W 108 24 (some ⟨g,off,none⟩) bs.length c 0 0 Tryz.underlying108;obtain⟨Hj,Hy0,Hy1,Hy2,Hrow,HLo,Hb1⟩:=hid7 hj hy0 hy1 hy2 hrow hLo hb1;clear hj hy0 hy1 hy2 hrow hLo hb1;clear h hr hA;go_enter Tryz.func157,Tryz.ntmps157;go_wp2_with (at_builtin;apply Shut.out);unfold Shut;refine Df rfl (.tmp 5) (.tmp 6) 108 rfl Tryz.underlying108 Hj.out Hy0.out Hy1.out Hy2.out rfl (by omega) rfl Hrow.out (by simp) (Q7 _) HX.out rfl HR.out Hdl.out HLo.out.1 HLo.out.2 ?_;intro V6 w6 hrow6 hg6 hat6;have HP:Hid (Mv bs w (.returned V6) w6):=⟨Hb1.out.grown hg6 (by simp) (fun k hk=>by cases hk;exact Nat.le_refl _),V6,rfl,by simpa using hrow6⟩;clear hrow6 hg6 hat6;go_wp2;go_ret;exact HP.out
theorem Kq {S:Nat->Prop} {ks:List Nd} {b:Nat} {w:World} (h:Bx S w (.inner ks) b) (h0:0<ks.length) (h8:ks.length<=1000):
 Calls Tryz.prog 93 #[.pointer (some ⟨b,0,none⟩)] w fun e w'=> ∃bs,Aq S w ks bs/\Mv bs w e w':=by
 simp only[Bx]at h;obtain⟨_,hb,bs,a,c,hh,hx,hk⟩:=h;have hbl:=hk.now.len;have HC:=qz (U0 bs a ks.length c w hh.now (by omega) (by omega));have c1:=hx.cell 1;have lx:=hx.lt;obtain⟨PO,hPO⟩: ∃P:Ending->World->Prop,(fun e w'=> ∃bs,Aq S w ks bs/\Mv bs w e w')=P:=⟨_,rfl⟩;rw[hPO];obtain⟨Hk,HPO⟩:=hid2 hk hPO;clear hk hPO;clear hh hx;go_enter Tryz.func93,Tryz.ntmps93;go_wp2_with (fail);(with_reducible refine(HC.out).mono ?_);intro e w1 hP;obtain⟨_,V,rfl,_⟩:=id hP;have HP:Hid (PO (.returned V) w1):=by
  show PO _ _;rw[<-HPO.out];exact⟨bs,Hk.out,hP⟩
 clear hP;go_wp2;exact HP.out
theorem Pf {es:List Bj} {b:Nat} {w:World} (h:Bz w w.heap.size (.leaf es) b) (h0:0<es.length) (hb:Ae es<=100000000):
 Calls Tryz.prog 92 #[.pointer (some ⟨b,0,none⟩)] w (Mt es w):=by
 simp only[Bz]at h;obtain⟨_,a,c,hh,hx⟩:=h;have hC:=Lz es a es.length c w hh hb;have c1:=hx.cell 0;have lx:=hx.lt;have hz:((es.length:Int)==0)=false:=beq_eq_false_iff_ne.2 (by omega);obtain⟨PO,hPO⟩: ∃P:Ending->World->Prop,Mt es w=P:=⟨_,rfl⟩;rw[hPO]at hC ⊢;obtain⟨HC,HPO⟩:=hid2 hC hPO;clear hC hPO;clear hh hx;go_enter Tryz.func92,Tryz.ntmps92;go_wp2_with (fail);(with_reducible refine(HC.out).mono ?_);intro e w1 hP;rw[<-HPO.out]at hP;obtain⟨_,g,rfl,_⟩:=id hP;rw[HPO.out]at hP;have HP:=qz hP;clear hP;go_wp2;exact HP.out
def NP (S:Nat->Prop) (nd:Nd) (w:World) (e:Ending) (w':World):Prop:=Below w.heap.size w w'/\ ∃b,e=.returned (.pointer (some ⟨b,0,none⟩))/\Bx (fun i=>S i\/w.heap.size<=i) w' nd b
def Qx (S:Nat->Prop) (w:World):Option Nd->Option Addr->Prop
 |none,p=>p=none
 |some n,p=> ∃b,p=some ⟨b,0,none⟩/\Bx S w n b
theorem Qx.below {S:Nat->Prop} {w w':World} {t:Option Nd} {p:Option Addr} (h:Qx S w t p) (hb:Below w.heap.size w w'):Qx S w' t p:=by
 cases t with
 |none=>exact h
 |some t=>
  obtain⟨b,e,h1⟩:=h;exact⟨b,e,h1.below hb⟩
theorem Qx.mono {S T:Nat->Prop} {w:World} {t:Option Nd} {p:Option Addr} (h:Qx S w t p) (hST: ∀i,i<w.heap.size->S i->T i):Qx T w t p:=by
 cases t with
 |none=>exact h
 |some t=>
  obtain⟨b,e,h1⟩:=h;exact⟨b,e,h1.mono hST⟩
theorem Fb {S:Nat->Prop} {w w1:World} {N:Nat} (h:w.heap.size<=w1.heap.size): ∀(i:Nat),i<N->(S i\/w1.heap.size<=i)->(S i\/w.heap.size<=i):=fun _ _ hi=>hi.imp id fun h1=>Nat.le_trans h h1
def SP (S:Nat->Prop) (r:Nd×Option Nd) (w:World) (e:Ending) (w':World):Prop:=Below w.heap.size w w'/\ ∃b q,e=.returned (.tuple #[.pointer (some ⟨b,0,none⟩),.pointer q])/\Bx (fun i=>S i\/w.heap.size<=i) w' r.1 b/\Qx (fun i=>S i\/w.heap.size<=i) w' r.2 q
theorem Ky (S:Nat->Prop) (es:List Bj) (a:Option Addr) (n c:Nat) (w:World) (h:Ah w w.heap.size (.row 7 (dO es)) [.slice a n c]) (ha:B8 es) (h8:es.length<=8) (hb:Ae es<=100000000):Calls Tryz.prog 100 #[.slice a n c] w (NP S (.leaf es) w):=by
 have HC:=qz (Xq es a n c w h ha h8 hb);obtain⟨PO,hPO⟩: ∃P:Ending->World->Prop,NP S (.leaf es) w=P:=⟨_,rfl⟩;rw[hPO];have HPO:=qz hPO;clear hPO;clear h;go_enter Tryz.func100,Tryz.ntmps100;go_wp2_with (fail);(with_reducible refine(HC.out).mono ?_);rintro e w1 ⟨hb1,b,rfl,hN⟩;have HP:Hid (PO (.returned (.pointer (some ⟨b,0,none⟩))) w1):=by
  show PO _ _;rw[<-HPO.out];exact⟨hb1,b,rfl,hN.mono fun i _ hi=> .inr hi⟩
 clear hb1 hN;go_wp2;exact HP.out
theorem Hh (S:Nat->Prop) (T:Nat) (ks:List Nd) (bs:List Nat) (a:Option Addr) (n c:Nat) (w:World) (h:Ah w w.heap.size (.row 1 (Ce bs)) [.slice a n c]) (hkS:Aq S w ks bs) (ha:B8 (Cg ks)) (hok: ∀k ∈ ks,Ga 4 T k)
 (h1:1<=ks.length) (h8:ks.length<=8) (hH:T<=1000000) (hN:(Cg ks).length<=1000000000):Calls Tryz.prog 55 #[.slice a n c] w (NP S (Gy ks) w):=by
 have hk:=hkS.now;have hn:=h.row_len;rw[Bm,hk.len]at hn;subst hn;obtain⟨PO,hPO⟩: ∃P:Ending->World->Prop,NP S (Gy ks) w=P:=⟨_,rfl⟩;rw[hPO];by_cases h2:2<=ks.length
 . have hC:=U1 S T ks bs a ks.length c w h hkS ha hok h2 h8 hH hN;have hz:((ks.length:Int)==1)=false:=beq_eq_false_iff_ne.2 (by omega);have hz2:(ks.length==1)=false:=beq_eq_false_iff_ne.2 (by omega);have hz3: ¬ks.length=1:=by omega
   have He:=qz (Jy h2);obtain⟨HC,HPO⟩:=hid2 hC hPO;clear hC hPO;clear h hk hkS;go_enter Tryz.func55,Tryz.ntmps55;go_wp2_with (fail);(with_reducible refine(HC.out).mono ?_);rintro e w1 ⟨hb1,b,rfl,hN⟩;have HP:Hid (PO (.returned (.pointer (some ⟨b,0,none⟩))) w1):=by
    show PO _ _;rw[<-HPO.out,He.out];exact⟨hb1,b,rfl,hN⟩
   clear hb1 hN;go_wp2;exact HP.out
 . obtain⟨k,rfl⟩: ∃k,ks= [k]:=by
    match ks,h1,h2 with
    | [k],_,_=>exact⟨k,rfl⟩
    |x::y::r,_,h2=>exact absurd (by simp) h2
   obtain⟨b,hb,hN⟩:=hkS.at_ (i:=0) (k:=k) rfl;obtain⟨g,off,rfl,hg,hc⟩:=Iz h hb;rw[Nat.add_zero]at hc;have HP:Hid (PO (.returned (.pointer (some ⟨b,0,none⟩))) w):=by
    show PO _ _;rw[<-hPO];exact⟨Below.refl _ _,b,rfl,hN.mono fun i _ hi=> .inl hi⟩
   clear h hk hkS hb hN hPO;go_enter Tryz.func55,Tryz.ntmps55;go_wp2;exact HP.out
theorem Q4: ∀(a b:List Bj),Ae (a++b)=Ae a+Ae b
 | [],b=>by simp[Ae]
 |x::r,b=>by simp[Ae,Q4 r b];omega
theorem Oc (l:List Bj) (i:Nat):Ae (l.take i)<=Ae l/\Ae (l.drop i)<=Ae l:=by
 have:=Q4 (l.take i) (l.drop i);rw[List.take_append_drop]at this;omega
theorem L3 (S:Nat->Prop) (es:List Bj) (a:Option Addr) (n c:Nat) (w:World) (h:Ah w w.heap.size (.row 7 (dO es)) [.slice a n c]) (ha:B8 es) (h9:es.length<=9) (hcn:n<=c) (hb:Ae es<=100000000):
 Calls Tryz.prog 99 #[.slice a n c,.func (.func 100) #[] #[]] w (SP S (F6 es) w):=by
 have hn:=h.row_len;rw[Ax]at hn;subst hn;obtain⟨PO,hPO⟩: ∃P:Ending->World->Prop,SP S (F6 es) w=P:=⟨_,rfl⟩;rw[hPO];by_cases h8:es.length<=8
 . have hC:=Ky S es a es.length c w h ha h8 hb;have y8:(es.length:Int)<=8:=by omega
   have He:=qz (show F6 es=(.leaf es,none)from by unfold F6;rw[if_pos h8]);obtain⟨HC,HPO⟩:=hid2 hC hPO;clear hC hPO;clear h;go_enter Tryz.func99,Tryz.ntmps99;go_wp2_with (fail);(with_reducible refine(HC.out).mono ?_);rintro e w1 ⟨hb1,b,rfl,hN⟩;have HP:Hid (PO (.returned (.tuple #[.pointer (some ⟨b,0,none⟩),.pointer none])) w1):=by
    show PO _ _;rw[<-HPO.out,He.out];exact⟨hb1,b,none,rfl,hN,rfl⟩
   clear hb1 hN;go_wp2;exact HP.out
 . have h9':es.length=9:=by omega
   obtain⟨e0,he0⟩: ∃p,es[0]? =some p:=⟨_,List.getElem?_eq_getElem (by omega)⟩;obtain⟨g,off,rfl,hg,_⟩:=Dt h he0;have hpw:=List.pairwise_append.1 (show B8 (es.take 4++es.drop 4)from by rw[List.take_append_drop];exact ha);have hd1:dO (es.take 4)=(dO es).take 4:=by rw[Bl,Bl,List.map_take]
   have hd2:dO (es.drop 4)=(dO es).drop 4:=by rw[Bl,Bl,List.map_drop]
   have hl1:Ah w w.heap.size (.row 7 (dO (es.take 4))) [.slice (some ⟨g,off,none⟩) 4 c]:=hd1▸h.cutL (i:=4) (by rw[Ax];omega) c;have hl2:Ah w w.heap.size (.row 7 (dO (es.drop 4))) [.slice (some ⟨g,off+28,none⟩) 5 (c - 4)]:=hd2▸h.cutR (i:=4) (m:=5) (by rw[Ax];omega) (c - 4);have HC1:=qz (fun(W:World) (hB:Below w.heap.size w W)=>Ky S (es.take 4) (some ⟨g,off,none⟩) 4 c W ((hl1.below hB).more hB.size) hpw.1 (by rw[List.length_take];omega) (Nat.le_trans (Oc es 4).1 hb));have HC2:=qz (fun(W:World) (hB:Below w.heap.size w W)=>Ky S (es.drop 4) (some ⟨g,off+28,none⟩) 5 (c - 4) W ((hl2.below hB).more hB.size) hpw.2.1 (by rw[List.length_drop];omega) (Nat.le_trans (Oc es 4).2 hb));have he:F6 es=(.leaf (es.take 4),some (.leaf (es.drop 4))):=by unfold F6;rw[if_neg h8]
   rw[h9']at hcn ⊢;have z1:4<=c:=by omega
   have z2:(4:Int)<=(c:Int):=by omega
   have z3:(9:Int)<=(c:Int):=by omega
   have z4: ¬c=4:=by omega
   have hbd:=Below.drew (Below.refl w.heap.size w);obtain⟨HPO,He⟩:=hid2 hPO he;clear hPO he;clear h hl1 hl2 hd1 hd2 he0 hpw h9' h9 h8 ha;go_enter Tryz.func99,Tryz.ntmps99;go_upto_region 3 with(fail);refine wp_region_held_drew (S:=fun _=>True) (by kernel_rfl) trivial (fun hHeld=> ?_);generalize w.drew=wd at hbd ⊢;refine tkH 0 hHeld ?_;refine tkH 1 hHeld ?_;refine tkH 2 hHeld ?_;refine tkH 4 hHeld ?_;refine tkH 5 hHeld ?_;refine tkH 6 hHeld ?_;refine Ie 3 fun K hK=> ?_;go_simp;(with_reducible refine(HC1.out _ hbd).mono ?_);rintro e w1 ⟨hb1,b1,rfl,hN1⟩;have hw1:=hbd.trans (hb1.mono hbd.size);refine hK.out _ _ trivial (fun hHeld=> ?_);clear hK K hb1;have HN1:=qz hN1;clear hN1
   try simp only[Act.put,tk1,tk2,tk3,tk4,tk5,tk6]
   refine Ie 7 fun K hK=> ?_;go_simp;(with_reducible refine(HC2.out _ hw1).mono ?_);rintro e w2 ⟨hb2,b2,rfl,hN2⟩;have HP:Hid (PO (.returned (.tuple #[.pointer (some ⟨b1,0,none⟩),.pointer (some ⟨b2,0,none⟩)])) w2):=by
    show PO _ _;rw[<-HPO.out,He.out];exact⟨hw1.trans (hb2.mono hw1.size),b1,_,rfl,(HN1.out.below hb2).mono (Fb hbd.size),b2,rfl,hN2.mono (Fb hw1.size)⟩
   refine hK.out _ _ trivial (fun hHeld=> ?_);clear hK K hb2 hN2 HN1 hw1 hbd
   try simp only[Act.put,tk1,tk2,tk3,tk4,tk5,tk6]
   refine tkH 8 hHeld ?_;refine tkH 9 hHeld ?_;refine wpAnyH_done (by kernel_rfl) ?_ _;clear hHeld;go_wp2;exact HP.out
theorem Sy (S:Nat->Prop) (T:Nat) (ks:List Nd) (bs:List Nat) (a:Option Addr) (n c:Nat) (w:World) (h:Ah w w.heap.size (.row 1 (Ce bs)) [.slice a n c]) (hkS:Aq S w ks bs) (ha:B8 (Cg ks)) (hok: ∀k ∈ ks,Ga 4 T k)
 (h1:1<=ks.length) (h9:ks.length<=9) (hcn:n<=c) (hH:T<=1000000) (hN:(Cg ks).length<=1000000000):
 Calls Tryz.prog 103 #[.slice a n c,.func (.func 55) #[] #[]] w (SP S (F7 ks) w):=by
 have hk:=hkS.now;have hn:=h.row_len;rw[Bm,hk.len]at hn;subst hn;obtain⟨PO,hPO⟩: ∃P:Ending->World->Prop,SP S (F7 ks) w=P:=⟨_,rfl⟩;rw[hPO];by_cases h8:ks.length<=8
 . have hC:=Hh S T ks bs a ks.length c w h hkS ha hok h1 h8 hH hN;have y8:(ks.length:Int)<=8:=by omega
   have He:=qz (show F7 ks=(Gy ks,none)from by unfold F7;rw[if_pos h8]);obtain⟨HC,HPO⟩:=hid2 hC hPO;clear hC hPO;clear h hk hkS;go_enter Tryz.func103,Tryz.ntmps103;go_wp2_with (fail);(with_reducible refine(HC.out).mono ?_);rintro e w1 ⟨hb1,b,rfl,hN⟩;have HP:Hid (PO (.returned (.tuple #[.pointer (some ⟨b,0,none⟩),.pointer none])) w1):=by
    show PO _ _;rw[<-HPO.out,He.out];exact⟨hb1,b,none,rfl,hN,rfl⟩
   clear hb1 hN;go_wp2;exact HP.out
 . have h9':ks.length=9:=by omega
   have hbl:=hk.len;obtain⟨g,off,rfl,hg,_⟩:=Iz h (q:=0) (b:=bs[0]) (List.getElem?_eq_getElem (by omega));have hpw:=List.pairwise_append.1 (show B8 (Cg (ks.take 4)++Cg (ks.drop 4))from by rw[<-Cn,List.take_append_drop];exact ha);have hlen:(Cg (ks.take 4)).length+(Cg (ks.drop 4)).length=(Cg ks).length:=by rw[<-List.length_append,<-Cn,List.take_append_drop]
   have hd1:Ce (bs.take 4)=(Ce bs).take 4:=by unfold Ce;rw[List.map_take]
   have hd2:Ce (bs.drop 4)=(Ce bs).drop 4:=by unfold Ce;rw[List.map_drop]
   have hl1:Ah w w.heap.size (.row 1 (Ce (bs.take 4))) [.slice (some ⟨g,off,none⟩) 4 c]:=hd1▸h.cutL (i:=4) (by rw[Bm];omega) c;have hl2:Ah w w.heap.size (.row 1 (Ce (bs.drop 4))) [.slice (some ⟨g,off+4,none⟩) 5 (c - 4)]:=hd2▸h.cutR (i:=4) (m:=5) (by rw[Bm];omega) (c - 4);obtain⟨hk1,hk2⟩:=hkS.split 4;have HC1:=qz (fun(W:World) (hB:Below w.heap.size w W)=>Hh S T (ks.take 4) (bs.take 4) (some ⟨g,off,none⟩) 4 c W ((hl1.below hB).more hB.size) (hk1.below hB) hpw.1 (fun k hk=>hok k (List.mem_of_mem_take hk)) (by rw[List.length_take];omega) (by rw[List.length_take];omega) hH (by omega));have HC2:=qz (fun(W:World) (hB:Below w.heap.size w W)=>Hh S T (ks.drop 4) (bs.drop 4) (some ⟨g,off+4,none⟩) 5 (c - 4) W ((hl2.below hB).more hB.size) (hk2.below hB) hpw.2.1 (fun k hk=>hok k (List.mem_of_mem_drop hk)) (by rw[List.length_drop];omega) (by rw[List.length_drop];omega) hH (by omega));have he:F7 ks=(Gy (ks.take 4),some (Gy (ks.drop 4))):=by unfold F7;rw[if_neg h8]
   rw[h9']at hcn ⊢;have z1:4<=c:=by omega
   have z2:(4:Int)<=(c:Int):=by omega
   have z3:(9:Int)<=(c:Int):=by omega
   have z4: ¬c=4:=by omega
   have hbd:=Below.drew (Below.refl w.heap.size w);obtain⟨HPO,He⟩:=hid2 hPO he;clear hPO he;clear h hl1 hl2 hd1 hd2 hpw ha hk hkS hk1 hk2 hlen;go_enter Tryz.func103,Tryz.ntmps103;go_upto_region 3 with(fail);refine wp_region_held_drew (S:=fun _=>True) (by kernel_rfl) trivial (fun hHeld=> ?_);generalize w.drew=wd at hbd ⊢;refine tkH 0 hHeld ?_;refine tkH 1 hHeld ?_;refine tkH 2 hHeld ?_;refine tkH 4 hHeld ?_;refine tkH 5 hHeld ?_;refine tkH 6 hHeld ?_;refine Ie 3 fun K hK=> ?_;go_simp;(with_reducible refine(HC1.out _ hbd).mono ?_);rintro e w1 ⟨hb1,b1,rfl,hN1⟩;have hw1:=hbd.trans (hb1.mono hbd.size);refine hK.out _ _ trivial (fun hHeld=> ?_);clear hK K hb1;have HN1:=qz hN1;clear hN1
   try simp only[Act.put,tk1,tk2,tk3,tk4,tk5,tk6]
   refine Ie 7 fun K hK=> ?_;go_simp;(with_reducible refine(HC2.out _ hw1).mono ?_);rintro e w2 ⟨hb2,b2,rfl,hN2⟩;have HP:Hid (PO (.returned (.tuple #[.pointer (some ⟨b1,0,none⟩),.pointer (some ⟨b2,0,none⟩)])) w2):=by
    show PO _ _;rw[<-HPO.out,He.out];exact⟨hw1.trans (hb2.mono hw1.size),b1,_,rfl,(HN1.out.below hb2).mono (Fb hbd.size),b2,rfl,hN2.mono (Fb hw1.size)⟩
   refine hK.out _ _ trivial (fun hHeld=> ?_);clear hK K hb2 hN2 HN1 hw1 hbd
   try simp only[Act.put,tk1,tk2,tk3,tk4,tk5,tk6]
   refine tkH 8 hHeld ?_;refine tkH 9 hHeld ?_;refine wpAnyH_done (by kernel_rfl) ?_ _;clear hHeld;go_wp2;exact HP.out
theorem Ael {S0:Nat->Prop} (b:Nat) (w:World) (g i vb:Nat) (es:List Bj) (d:D) (ys:List Value) (hV:A0 S0 b 63 7 w (dO es) (.slice (some ⟨g,0,none⟩) es.length es.length)) (hb:b<=w.heap.size) (hi:i<=es.length) (hn:es.length<=1000)
 (hd:d.cells=7) (hx:Ai (fun i=>S0 i/\(Value.slice (some ⟨g,0,none⟩) es.length es.length).ownBlock≠some i) w d ys) (hvs: ∀j v,ys[j]? =some v->w.cell? ⟨vb,j,none⟩=some v):
 Calls Tryz.prog 98 #[.slice (some ⟨g,0,none⟩) es.length es.length,.int .i64 i,.slice (some ⟨vb,0,none⟩) 1 1] w fun e w'=> ∃V',e=.returned V'/\A0 S0 b 63 7 w' ((dO es).take i++ [d]++(dO es).drop i) V'/\w.grownBy w' (some g):=by
 obtain⟨ns,h1,h2,h3⟩:=hV;rw[Ax]at h1;obtain⟨hyl,hy1⟩:=hx.now.len;rw[hd]at hyl;have hnl:ns.length=es.length*7:=by rw[h3.now.len.1,Fi h2,Ax]
 have h1x:=h3.now.len.2;rcases Nat.lt_or_ge i es.length with hlt|hge
 . rcases h1.2 with⟨e,_⟩|⟨g',cap,cur,e,hbg,hg,hnc,hcm,hcs,hcx⟩
   . cases e
   . cases e
     refine(Acf b w g es.length i cur ns hb hg hcs hcx hlt hn h1x vb ys hyl hvs hy1).mono ?_;rintro e w' ⟨V',rfl,k1,k2,k3⟩;exact⟨V',rfl,A0.of_ins k1 h2 hd h3 hx (Gq k2) (.inr k3) (by rw[Ax]),Gq k2⟩
 . obtain rfl:i=es.length:=by omega
   refine(Xc b w _ es.length ns h1 hb hn vb ys hyl hvs hy1).mono ?_;rintro e w' ⟨V',rfl,k1,k2,k3⟩;refine⟨V',rfl,A0.of_ins (ns:=ns) (V:=.slice (some ⟨g,0,none⟩) es.length es.length) ?_ h2 hd h3 hx k2 k3 (by rw[Ax]),k2⟩;rw[List.take_of_length_le (by omega),List.drop_eq_nil_of_le (by omega),List.append_nil];exact k1
theorem Aen (b:Nat) (w:World) (g cap i vb p:Nat) (bs:List Nat) (hV:A0 (fun _=>False) b 24 1 w (Ce bs) (.slice (some ⟨g,0,none⟩) bs.length cap)) (hb:b<=w.heap.size) (hi:i<=bs.length) (hn:bs.length<=1000)
 (hvb:Aj w vb 24 #[.pointer (some ⟨p,0,none⟩)]) (hne:vb≠g):
 Calls Tryz.prog 102 #[.slice (some ⟨g,0,none⟩) bs.length cap,.int .i64 i,.slice (some ⟨vb,0,none⟩) 1 1] w fun e w'=> ∃V',e=.returned V'/\A0 (fun _=>False) b 24 1 w' (Ce (bs.take i++ [p]++bs.drop i)) V'/\w.grownBy w' (some g):=by
 have hx:Ai (fun i=>False/\(Value.slice (some ⟨g,0,none⟩) bs.length cap).ownBlock≠some i) w (dPt p) [.pointer (some ⟨p,0,none⟩)]:=Kn _ _ _;obtain⟨hyl,hy1⟩:=hx.now.len;have hvs: ∀j v, [Value.pointer (some ⟨p,0,none⟩)][j]? =some v->w.cell? ⟨vb,j,none⟩=some v:=fun j v hj=>by
  have:=hvb.cell j;rw[this];simpa using hj
 obtain⟨ns,h1,h2,h3⟩:=hV;rw[Bm]at h1;have hnl:ns.length=bs.length:=by rw[h3.now.len.1,Fi h2,Bm,Nat.mul_one]
 have h1x:=h3.now.len.2;have hdp:Ce (bs.take i++ [p]++bs.drop i)=(Ce bs).take i++ [dPt p]++(Ce bs).drop i:=by
  unfold Ce;rw[List.map_append,List.map_append,List.map_take,List.map_drop];rfl
 rw[hdp];rcases Nat.lt_or_ge i bs.length with hlt|hge
 . rcases h1.2 with⟨e,_⟩|⟨g',cap',cur,e,hbg,hg,hnc,hcm,hcs,hcx⟩
   . cases e
   . cases e
     rcases Nat.lt_or_ge bs.length cap with hc|hc
     . refine(Ach b w g bs.length cap i cur ns hbg hg hcs hcx hlt (by omega) hcm hn h1x vb _ hvb hne (hy1 _ (by simp))).mono ?_;rintro e w' ⟨V',rfl,k1,k2,k3⟩;exact⟨V',rfl,A0.of_ins (ns:=ns) (V:=.slice (some ⟨g,0,none⟩) bs.length cap) (by simpa using k1) h2 rfl h3 hx k2 (.inl k3) (by rw[Bm]),k2⟩
     . obtain rfl:cap=bs.length:=by omega
       refine(Acg b w g bs.length i cur ns hb hg hcs hcx hlt hn h1x vb _ hyl hvs hy1).mono ?_;rintro e w' ⟨V',rfl,k1,k2,k3⟩;exact⟨V',rfl,A0.of_ins k1 h2 rfl h3 hx (Gq k2) (.inr k3) (by rw[Bm]),Gq k2⟩
 . obtain rfl:i=bs.length:=by omega
   refine(Aem b w _ bs.length ns h1 hb hn vb _ hyl hvs hy1).mono ?_;rintro e w' ⟨V',rfl,k1,k2,k3⟩;refine⟨V',rfl,A0.of_ins (ns:=ns) (V:=.slice (some ⟨g,0,none⟩) bs.length cap) ?_ h2 rfl h3 hx k2 k3 (by rw[Bm]),k2⟩;rw[List.take_of_length_le (by omega),List.drop_eq_nil_of_le (by omega),List.append_nil];exact k1
theorem A0.slice_cap {S0:Nat->Prop} {b s:Nat} {t:TypeId} {wr:World} {l:List D} {V:Value} (h:A0 S0 b t s wr l V): ∃a c,V=.slice a l.length c/\l.length<=c:=by
 obtain⟨ns,h1,_⟩:=h;rcases h1.2 with⟨rfl,h0⟩|⟨g,cap,cur,rfl,_,_,hc,_⟩
 . exact⟨_,_,by rw[h0],by rw[h0];exact Nat.le_refl _⟩
 . exact⟨_,_,rfl,hc⟩
theorem A0.mono {S0 T0:Nat->Prop} {b s:Nat} {t:TypeId} {wr:World} {l:List D} {V:Value} (h:A0 S0 b t s wr l V) (hST: ∀i,S0 i->T0 i):A0 T0 b t s wr l V:=by
 obtain⟨ns,h1,h2,h3⟩:=h;exact⟨ns,h1,h2,fun w'' k1 k2=>h3 w'' k1 fun p p1 p2=>k2 p ⟨hST _ p1.1,p1.2⟩ p2⟩
theorem A0.blk {S0:Nat->Prop} {b s g n c:Nat} {t:TypeId} {wr:World} {l:List D} (h:A0 S0 b t s wr l (.slice (some ⟨g,0,none⟩) n c)): ∃cur,Aj wr g t cur:=by
 obtain⟨ns,h1,_⟩:=h;rcases h1.2 with⟨e,h0⟩|⟨g',cap,cur,e,_,hg,_⟩
 . cases e
 . cases e
   exact⟨cur,hg⟩
theorem Ag6 (es:List Bj) (i:Nat) (e:Bj):dO (es.set i e)=(dO es).set i (dP e):=by rw[Bl,Bl,List.map_set]
theorem Ag5 (es:List Bj) (i:Nat) (e:Bj):dO (es.take i++ [e]++es.drop i)=(dO es).take i++ [dP e]++(dO es).drop i:=by
 rw[Bl,Bl,List.map_append,List.map_append,List.map_take,List.map_drop];rfl
theorem Wt {w:World} {B:Nat} {k:ByteArray} {v:Val} {cs:List Value} (h:Ah w B (dV v) cs):Ah w B (dP (k,v)) (.string k::cs):=⟨[.string k],cs,rfl,⟨rfl,rfl⟩,cs, [],by simp,h,rfl⟩
theorem R7 {w:World} {B:Nat} {v:Val} {c0 c1 c2 c3 c4 c5:Value} (h:Ah w B (dV v) [c0,c1,c2,c3,c4,c5]): ∃k' b' n' t' la ln lc oa on oc,c0=.int .i64 k'/\c1=.bool b'/\c2=.int .i64 n'/\c3=.string t'/\c4=.slice la ln lc/\c5=.slice oa on oc:=by
 obtain⟨k,b,n,t,l,o⟩:=v;have h1:=Cb _ _ h;simp only[Ac]at h1;obtain⟨la,lc,oa,oc,e,_,_⟩:=h1;simp only[Ds,List.cons.injEq,and_true]at e;obtain⟨rfl,rfl,rfl,rfl,rfl,rfl⟩:=e;exact⟨_,_,_,_,_,_,_,_,_,_,rfl,rfl,rfl,rfl,rfl,rfl⟩
theorem Vo (S:Nat->Prop) (es:List Bj) (b:Nat) (k:ByteArray) (v:Val) (c0 c1 c2 c3 c4 c5:Value) (w:World) (h:Bz w w.heap.size (.leaf es) b) (h1:1<=es.length) (h8:es.length<=8) (ha:B8 es) (hv:Ah w w.heap.size (dV v) [c0,c1,c2,c3,c4,c5]) (hb:Ae es+Ae [(k,v)]<=100000000):
 Calls Tryz.prog 54 #[.pointer (some ⟨b,0,none⟩),.agg #[.string k,c0,c1,c2,c3,c4,c5]] w (SP S (F6 (Cm k v es)) w):=by
 obtain⟨k',b',n',t',la,ln,lc,oa,on,oc,rfl,rfl,rfl,rfl,rfl,rfl⟩:=R7 hv;obtain⟨PO,hPO⟩: ∃P:Ending->World->Prop,SP S (F6 (Cm k v es)) w=P:=⟨_,rfl⟩;rw[hPO];obtain⟨wi,hwi⟩: ∃wi,w.alloc (.cells #[.string k,.int .i64 k',(.bool b'),(.int .i64 n'),(.string t'),(.slice la ln lc),(.slice oa on oc)] 63)=wi:=⟨_,rfl⟩;have hbi:Below w.heap.size w wi:=hwi▸Aa _ _;have Hxi:Hid (Aj wi w.heap.size 63 #[.string k,.int .i64 k',(.bool b'),(.int .i64 n'),(.string t'),(.slice la ln lc),(.slice oa on oc)]):=hwi▸Aj.new _ _ _;have hsz:wi.heap.size=w.heap.size+1:=by rw[<-hwi];simp
 have hHt:=Fc (h.below hbi);rw[show Rk (.leaf es)=0 from by simp[Rk]]at hHt;have HEn:=qz (Pf (h.later hbi) (by omega) (by omega:Ae es<=100000000));have hlen:=Je (k:=k) (v:=v) es;have hasc:=Ks (k:=k) (v:=v) ha;have hbk:=L7 k v es;have hSp: ∀(W:World) (V':Value),Below w.heap.size w W->A0 (fun _=>True) wi.heap.size 63 7 W (dO (Cm k v es)) V'->Calls Tryz.prog 99 #[V',.func (.func 100) #[] #[]] W (SP S (F6 (Cm k v es)) W):=fun W V' hB hR=>by
  obtain⟨a,c,rfl,hc⟩:=hR.slice_cap;exact L3 S (Cm k v es) a _ c W hR.close hasc (by omega) hc (by omega)
 have hle:=Ob k es;have Hvi:=qz (Wt (k:=k) hv);obtain⟨HHt,Hbi,HPO,HSp,H⟩:=hid5 hHt hbi hPO hSp h;clear hHt hbi hPO hSp h;go_enter Tryz.func54,Tryz.ntmps54;go_upto_region 1 with(fail);go_wp2_with (fail);(with_reducible refine(HHt.out).mono ?_);rintro e w1 ⟨rfl,rfl⟩;go_wp2_with (fail);(with_reducible refine(HEn.out).mono ?_);rintro e w1 ⟨hb1,g,rfl,hR⟩;have Hbw1:=qz (Hbi.out.trans (hb1.mono Hbi.out.size));have hx1:=Hxi.out.below hb1 Hxi.out.lt;have HPl:=qz (Nx es k (some ⟨g,0,none⟩) es.length es.length w1 hR.close ha (by omega));have hg1:=hR.base g rfl;have d0:=hx1.cell 0;have lx:=hx1.lt;obtain⟨Hx1,HR⟩:=hid2 hx1 hR;clear hx1 hR;clear hb1;go_wp2_with (fail);(with_reducible refine(HPl.out).mono ?_);rintro e w2 ⟨rfl,hb2⟩;have hbw2:=Hbw1.out.trans (hb2.mono Hbw1.out.size);have hx2:=Hx1.out.below hb2 lx;have hR2:=(HR.out.below hb2).mono (T0:=fun _=>True) (fun _ _=>trivial);obtain⟨cur,hbg⟩:=hR2.blk;clear d0 lx hb2;have d0:=hx2.cell 0;have d1:=hx2.cell 1;have d2:=hx2.cell 2;have d3:=hx2.cell 3;have d4:=hx2.cell 4;have d5:=hx2.cell 5;have d6:=hx2.cell 6;have lx:=hx2.lt;have lg:=hbg.lt;have hxP:=Ai.of_old Hvi.out (Nat.le_refl _) hbw2;by_cases hh:Cl k es=true
 . have hlt:Da k es<es.length:=by
    rcases Nat.lt_or_ge (Da k es) es.length with h|h
    . exact h
    . unfold Cl at hh;rw[List.getElem?_eq_none h]at hh;simp at hh
   have ep:Cm k v es=es.set (Da k es) (k,v):=by rw[Nq,if_pos hh]
   rw[hh];generalize Da k es=P at hlt ep hle ⊢;obtain⟨ev,he⟩: ∃p,es[P]? =some p:=⟨_,List.getElem?_eq_getElem hlt⟩;obtain⟨g',off,e',_,u1,u2,u3,u4,u5,u6,_,r1⟩:=Dt hR2.close he
   cases e'
   have s0:=r1 0 _ rfl;have s1:=r1 1 _ rfl;have s2:=r1 2 _ rfl;have s3:=r1 3 _ rfl;have s4:=r1 4 _ rfl;have s5:=r1 5 _ rfl;have s6:=r1 6 _ rfl;simp only[Nat.zero_add,Nat.add_zero]at s0 s1 s2 s3 s4 s5 s6;have fz:=hbg.frozen;have y1:(P:Int)<(es.length:Int):=by omega
   have y2:(0:Int)<=(P:Int):=by omega
   have hB5:Below w.heap.size w ((((((((w2).setCell ⟨g,P*7,none⟩ (.string k)).setCell ⟨g,P*7+1,none⟩ (.int .i64 k')).setCell ⟨g,P*7+2,none⟩ (.bool b')).setCell ⟨g,P*7+3,none⟩ (.int .i64 n')).setCell ⟨g,P*7+4,none⟩ (.string t')).setCell ⟨g,P*7+5,none⟩ (.slice la ln lc)).setCell ⟨g,P*7+6,none⟩ (.slice oa on oc)):=Bq [.string k,.int .i64 k',(.bool b'),(.int .i64 n'),(.string t'),(.slice la ln lc),(.slice oa on oc)] hbw2 (by omega) (o:=P*7);have hx7:Ai (fun i=>True/\g≠i) w2 (dP (k,v)) [.string k,.int .i64 k',(.bool b'),(.int .i64 n'),(.string t'),(.slice la ln lc),(.slice oa on oc)]:=hxP.mono fun i _ hi=>⟨trivial,by omega⟩;have h7:=hR2.put (i:=P) (d:=dP (k,v)) (ys:= [.string k,.int .i64 k',(.bool b'),(.int .i64 n'),(.string t'),(.slice la ln lc),(.slice oa on oc)]) (by rw[Ax];exact hlt) (Cs _) hx7;clear hx7;have hR5:A0 (fun _=>True) wi.heap.size 63 7 ((((((((w2).setCell ⟨g,P*7,none⟩ (.string k)).setCell ⟨g,P*7+1,none⟩ (.int .i64 k')).setCell ⟨g,P*7+2,none⟩ (.bool b')).setCell ⟨g,P*7+3,none⟩ (.int .i64 n')).setCell ⟨g,P*7+4,none⟩ (.string t')).setCell ⟨g,P*7+5,none⟩ (.slice la ln lc)).setCell ⟨g,P*7+6,none⟩ (.slice oa on oc)) (dO (Cm k v es)) (.slice (some ⟨g,0,none⟩) es.length es.length):=by
    rw[ep,Ag6];exact h7
   obtain⟨HB5,HR5⟩:=hid2 hB5 hR5;clear hB5 hR5;clear h7;clear r1 he hbg hR2 hx2 hbw2 hxP HR HPl Hx1 Hbw1 Hxi Hbi;go_upto_region 7 with(fail);generalize (((((((w2).setCell ⟨g,P*7,none⟩ (.string k)).setCell ⟨g,P*7+1,none⟩ (.int .i64 k')).setCell ⟨g,P*7+2,none⟩ (.bool b')).setCell ⟨g,P*7+3,none⟩ (.int .i64 n')).setCell ⟨g,P*7+4,none⟩ (.string t')).setCell ⟨g,P*7+5,none⟩ (.slice la ln lc)).setCell ⟨g,P*7+6,none⟩ (.slice oa on oc)=w5 at HB5 HR5 ⊢;clear s0 s1 s2 s3 s4 s5 s6 d0 d1 d2 d3 d4 d5 d6 fz lx lg;go_wp2_with (fail);(with_reducible refine(HSp.out _ _ HB5.out HR5.out).mono ?_);rintro e w6 ⟨hb6,b6,q6,rfl,hN,hO⟩;have HP:Hid (PO (.returned (.tuple #[.pointer (some ⟨b6,0,none⟩),.pointer q6])) w6):=by
    show PO _ _;rw[<-HPO.out];exact⟨HB5.out.trans (hb6.mono HB5.out.size),b6,q6,rfl,hN.mono (Fb HB5.out.size),hO.mono (Fb HB5.out.size)⟩
   clear hb6 hN hO;go_wp2;exact HP.out
 . have hf:Cl k es=false:=by simpa using hh
   have ep:Cm k v es=es.take (Da k es)++ [(k,v)]++es.drop (Da k es):=by rw[Nq,if_neg hh]
   rw[hf];generalize Da k es=P at ep hle ⊢;have hb3:=Aa w2 (.cells #[.string k,.int .i64 k',(.bool b'),(.int .i64 n'),(.string t'),(.slice la ln lc),(.slice oa on oc)] 63);have hb23:=hbw2.alloc hbw2.size (.cells #[.string k,.int .i64 k',(.bool b'),(.int .i64 n'),(.string t'),(.slice la ln lc),(.slice oa on oc)] 63);have hx3:=Aj.new w2 63 #[.string k,.int .i64 k',(.bool b'),(.int .i64 n'),(.string t'),(.slice la ln lc),(.slice oa on oc)];have hR3:=hR2.below hb3;have hxP3:=Ai.of_old Hvi.out (Nat.le_refl _) hb23;have hI:=Ael wi.heap.size (w2.alloc (.cells #[.string k,.int .i64 k',(.bool b'),(.int .i64 n'),(.string t'),(.slice la ln lc),(.slice oa on oc)] 63)) g (P) w2.heap.size es (dP (k,v)) (.string k:: [(.int .i64 k'),(.bool b'),(.int .i64 n'),(.string t'),(.slice la ln lc),(.slice oa on oc)]) hR3 (by have:=hb23.size;simp at this ⊢;omega) hle (by omega) (Cs _) (hxP3.mono fun i _ hi=>⟨trivial,fun e=>by have:=Option.some.inj e;simp only at this;omega⟩) (fun j u hj=>(hx3.cell j).trans (by rw[<-Array.getElem?_toList];exact hj));rw[<-Ag5,<-ep]at hI;obtain⟨HI,Hb23⟩:=hid2 hI hb23;clear hI hb23;clear hb3 hx3 hR3 hxP3 hbg hR2 hx2 hbw2 hxP HR HPl Hx1 Hbw1 Hxi Hbi;go_wp2_with (fail);(with_reducible refine(HI.out).mono ?_);rintro e w5 ⟨V',rfl,hR5,hg5⟩;have HB5:=qz (Hb23.out.grown hg5 Hb23.out.size (fun k hk=>by have:=Option.some.inj hk;omega));have HR5:=qz hR5;clear hR5 hg5 d0 d1 d2 d3 d4 d5 d6 lx lg HI;go_wp2_with (fail);(with_reducible refine(HSp.out _ _ HB5.out HR5.out).mono ?_);rintro e w6 ⟨hb6,b6,q6,rfl,hN,hO⟩;have HP:Hid (PO (.returned (.tuple #[.pointer (some ⟨b6,0,none⟩),.pointer q6])) w6):=by
    show PO _ _;rw[<-HPO.out];exact⟨HB5.out.trans (hb6.mono HB5.out.size),b6,q6,rfl,hN.mono (Fb HB5.out.size),hO.mono (Fb HB5.out.size)⟩
   clear hb6 hN hO;go_wp2;exact HP.out
theorem A0.ptr {S0:Nat->Prop} {b s:Nat} {t:TypeId} {wr:World} {l:List D} {V:Value} (h:A0 S0 b t s wr l V) (hl:l≠ []): ∃g c,V=.slice (some ⟨g,0,none⟩) l.length c/\l.length<=c/\b<=g/\g<wr.heap.size:=by
 have hba:=h.base;obtain⟨ns,h1,_⟩:=h;rcases h1.2 with⟨rfl,h0⟩|⟨g,cap,cur,rfl,_,hg,hc,_⟩
 . exact absurd (List.eq_nil_of_length_eq_zero h0) hl
 . exact⟨g,cap,rfl,hc,hba g rfl⟩
theorem A0.put1 {b:Nat} {t:TypeId} {w:World} {bs:List Nat} {g i n c p:Nat} (h:A0 (fun _=>False) b t 1 w (Ce bs) (.slice (some ⟨g,0,none⟩) n c)) (hi:i<bs.length):
 A0 (fun _=>False) b t 1 (w.setCell ⟨g,i,none⟩ (.pointer (some ⟨p,0,none⟩))) (Ce (bs.set i p)) (.slice (some ⟨g,0,none⟩) n c):=by
 have h1:=h.put (i:=i) (d:=dPt p) (ys:= [.pointer (some ⟨p,0,none⟩)]) (by rw[Bm];exact hi) rfl (Kn _ _ p);rw[Nat.mul_one]at h1;have e:(Ce bs).set i (dPt p)=Ce (bs.set i p):=by unfold Ce;rw[List.map_set]
 rw[e]at h1;exact h1
theorem Aes {T:Nat} {ks:List Nd} {k:ByteArray} {v:Val} {x:Nd} (hx:ks[Ay ks k]? =some x):Gr T ks k v=(ks.set (Ay ks k) (Cp T x k v).1).take (Ay ks k+1)++(Cp T x k v).2.toList++(ks.set (Ay ks k) (Cp T x k v).1).drop (Ay ks k+1):=by
 have hlt:Ay ks k<ks.length:=(List.getElem?_eq_some_iff.1 hx).1;have eg:ks.getD (Ay ks k) (.leaf [])=x:=by rw[List.getD_eq_getElem?_getD,hx];rfl
 unfold Gr;rw[eg];generalize Ay ks k=p at hlt ⊢;have e1:(ks.set p (Cp T x k v).1).take (p+1)=ks.take p++ [(Cp T x k v).1]:=by
  rw[List.set_eq_take_append_cons_drop,if_pos hlt,List.take_append,List.length_take,Nat.min_eq_left (by omega),List.take_of_length_le (by rw[List.length_take];omega),show p+1 - p=1 from by omega];rfl
 have e2:(ks.set p (Cp T x k v).1).drop (p+1)=ks.drop (p+1):=by
  rw[List.drop_set_of_lt (by omega)]
 rw[e1,e2];simp
theorem Qx.later {S:Nat->Prop} {w w':World} {t:Option Nd} {p:Option Addr} (h:Qx S w t p) (hs:w.heap.size<=w'.heap.size) (hk: ∀i,S i->i<w.heap.size->w'.heap[i]? =w.heap[i]?):Qx S w' t p:=by
 cases t with
 |none=>exact h
 |some t=>
  obtain⟨b,e,h1⟩:=h;exact⟨b,e,h1.later hs hk⟩
theorem Vq (S:Nat->Prop) (T:Nat) (ks:List Nd) (lo b:Nat) (k:ByteArray) (v:Val) (c0 c1 c2 c3 c4 c5:Value) (w:World) (hS:Bx S w (.inner ks) b) (hn:Ga lo (T+1) (.inner ks)) (hlo:2<=lo) (ha:B8 (Cg ks)) (hv:Ah w w.heap.size (dV v) [c0,c1,c2,c3,c4,c5]) (hT:T<=100000) (hN:(Cg ks).length+1<=100000000)
 (hb:Ae (Cg ks)+Ae [(k,v)]<=100000000) (hI0: ∀(S':Nat->Prop) (x:Nd) (b':Nat) (W:World),Bx S' W x b'->Ga 4 T x->B8 (Cw x)->(Cw x).length+1<=100000000->Ae (Cw x)+Ae [(k,v)]<=100000000->Ah W W.heap.size (dV v) [c0,c1,c2,c3,c4,c5]->Calls Tryz.prog 54 #[.pointer (some ⟨b',0,none⟩),.agg #[.string k,c0,c1,c2,c3,c4,c5]] W (SP S' (Cp T x k v) W)):
 Calls Tryz.prog 54 #[.pointer (some ⟨b,0,none⟩),.agg #[.string k,c0,c1,c2,c3,c4,c5]] w (SP S (F7 (Gr T ks k v)) w):=by
 have h:Bx (fun i=>S i/\i<w.heap.size) w (.inner ks) b:=hS.mono fun i hi h=>⟨h,hi⟩;clear hS;obtain⟨k',b',n',t',la,ln,lc,oa,on,oc,rfl,rfl,rfl,rfl,rfl,rfl⟩:=R7 hv;obtain⟨x,hx,_,hxo,hxa,hxl,hxb,hflW,hokW,h2W,h9W⟩:=Aet k v hlo hn ha;have heW:=Aes (T:=T) (v:=v) hx;have hht:(Rk (.inner ks):Int)=(T:Int)+1:=by rw[Uw (.inl (by omega)) hn];rfl
 simp only[Ga]at hn;obtain⟨hn2,hn8,hnk⟩:=hn;have hne: ∀k ∈ ks,Cw k≠ []:=fun y hy=>Mg (by omega) (hnk y hy);obtain⟨PO,hPO⟩: ∃P:Ending->World->Prop,SP S (F7 (Gr T ks k v)) w=P:=⟨_,rfl⟩;rw[hPO];obtain⟨wi,hwi⟩: ∃wi,w.alloc (.cells #[.string k,(.int .i64 k'),(.bool b'),(.int .i64 n'),(.string t'),(.slice la ln lc),(.slice oa on oc)] 63)=wi:=⟨_,rfl⟩;have hbi:Below w.heap.size w wi:=hwi▸Aa _ _;have Hxi:Hid (Aj wi w.heap.size 63 #[.string k,(.int .i64 k'),(.bool b'),(.int .i64 n'),(.string t'),(.slice la ln lc),(.slice oa on oc)]):=hwi▸Aj.new _ _ _;have hsz:wi.heap.size=w.heap.size+1:=by rw[<-hwi];simp
 have hHt:=Fc (h.now.below hbi);rw[hht]at hHt;have hz:(((T:Int)+1)==0)=false:=beq_eq_false_iff_ne.2 (by omega);have HKi:=qz (Kq (h.below hbi) (by omega) (by omega));have hlW:(Cg (Gr T ks k v)).length<=1000000000:=by
  rw[hflW];have:=Je (k:=k) (v:=v) (Cg ks);omega
 have hSp: ∀(S0:Nat->Prop) (W:World) (V':Value) (bs':List Nat),Below w.heap.size w W->A0 (fun _=>False) wi.heap.size 24 1 W (Ce bs') V'->Aq S0 W (Gr T ks k v) bs'->Calls Tryz.prog 103 #[V',.func (.func 55) #[] #[]] W (SP S0 (F7 (Gr T ks k v)) W):=fun S0 W V' bs' hB hR hK=>by
  obtain⟨a,c,rfl,hc⟩:=hR.slice_cap;exact Sy S0 T (Gr T ks k v) bs' a _ c W hR.close hK (by rw[hflW];exact Ks ha) hokW (by omega) h9W hc (by omega) hlW
 have hlt:Ay ks k<ks.length:=(List.getElem?_eq_some_iff.1 hx).1;obtain⟨HHt,Hbi,HPO,HSp,H,Hv,HI0,HeW⟩:=hid8 hHt hbi hPO hSp h hv hI0 heW;clear hHt hbi hPO hSp h hv hI0 heW;clear hflW hokW h2W h9W hlW;go_enter Tryz.func54,Tryz.ntmps54;go_upto_region 1 with(fail);go_wp2_with (fail);(with_reducible refine(HHt.out).mono ?_);rintro e w1 ⟨rfl,rfl⟩;go_wp2_with (fail);(with_reducible refine(HKi.out).mono ?_);rintro e w1 ⟨bs,hks,hb1,V,rfl,hR⟩;have hbl:=hks.now.len;obtain⟨g,c,rfl,hcn,hg1,hg2⟩:=hR.ptr (by intro e;have:=congrArg List.length e;rw[Bm,hbl,List.length_nil]at this;omega);rw[Bm,hbl]at hR hcn ⊢;have Hbw1:=qz (Hbi.out.trans (hb1.mono Hbi.out.size));have hx1:=Hxi.out.below hb1 Hxi.out.lt;have hks1:=hks.below hb1;have HWh:=qz (Vn ks bs k (some ⟨g,0,none⟩) ks.length c w1 hR.close hks1.now ha hne (by omega));have d0:=hx1.cell 0;have lx:=hx1.lt;obtain⟨Hx1,HR,Hks1⟩:=hid3 hx1 hR hks1;clear hx1 hR hks1;clear hb1 hks;go_wp2_with (fail);(with_reducible refine(HWh.out).mono ?_);rintro e w2 ⟨rfl,hb2⟩;have hbw2:=Hbw1.out.trans (hb2.mono Hbw1.out.size);have hx2:=Hx1.out.below hb2 lx;have hR2:=HR.out.below hb2;have hks2:=Hks1.out.below hb2;clear d0 lx hb2;generalize Ay ks k=P at hx hlt HeW ⊢;obtain⟨bx,hbx,hnx⟩:=hks2.at_ hx;obtain⟨g',off,e',_,s1⟩:=Iz hR2.close hbx
 cases e'
 rw[Nat.zero_add]at s1;have hD2:=Below.drew (Below.refl w2.heap.size w2);have hbd:=hbw2.trans (hD2.mono hbw2.size);have HCx:=qz (HI0.out _ x bx w2.drew (hnx.below hD2) hxo hxa (by omega) (by omega) ((Hv.out.below hbd).more hbd.size));have hSS:(fun Y:World=>Y.cell? ⟨g,P,none⟩=some (.pointer (some ⟨bx,0,none⟩))/\Y.cell? ⟨w.heap.size,0,none⟩=some (.string k)/\Y.cell? ⟨w.heap.size,1,none⟩=some (.int .i64 k')/\Y.cell? ⟨w.heap.size,2,none⟩=some (.bool b')/\Y.cell? ⟨w.heap.size,3,none⟩=some (.int .i64 n')/\Y.cell? ⟨w.heap.size,4,none⟩=some (.string t')/\Y.cell? ⟨w.heap.size,5,none⟩=some (.slice la ln lc)/\Y.cell? ⟨w.heap.size,6,none⟩=some (.slice oa on oc)) w2.drew:=⟨s1,hx2.cell 0,hx2.cell 1,hx2.cell 2,hx2.cell 3,hx2.cell 4,hx2.cell 5,hx2.cell 6⟩;have hRd:=hR2.below hD2;have Hksd:=qz (hks2.below hD2);have hg3:g<w2.drew.heap.size:=(hRd.base g rfl).2;have hg4:wi.heap.size<=g:=(hRd.base g rfl).1;have y1:(P:Int)<(ks.length:Int):=by omega
 have y2:(0:Int)<=(P:Int):=by omega
 obtain⟨HRd,Hbd⟩:=hid2 hRd hbd;clear hRd hbd;clear hbw2 hR2 hks2 hnx hbx s1 hD2 HR Hks1 HWh Hbw1 Hx1 Hxi HKi HI0 HHt H Hv;go_upto_region 10 with(fail);refine wp_region_held_drew (S:=fun Y:World=>Y.cell? ⟨g,P,none⟩=some (.pointer (some ⟨bx,0,none⟩))/\Y.cell? ⟨w.heap.size,0,none⟩=some (.string k)/\Y.cell? ⟨w.heap.size,1,none⟩=some (.int .i64 k')/\Y.cell? ⟨w.heap.size,2,none⟩=some (.bool b')/\Y.cell? ⟨w.heap.size,3,none⟩=some (.int .i64 n')/\Y.cell? ⟨w.heap.size,4,none⟩=some (.string t')/\Y.cell? ⟨w.heap.size,5,none⟩=some (.slice la ln lc)/\Y.cell? ⟨w.heap.size,6,none⟩=some (.slice oa on oc)) (by kernel_rfl) hSS (fun hHeld=> ?_);have hlx:w.heap.size<w2.drew.heap.size:=hx2.drew.lt;generalize w2.drew=wd at HCx HRd Hksd Hbd hg3 hlx hHeld ⊢;clear hSS hx2;refine tkH 0 hHeld ?_;refine tkH 1 hHeld ?_;refine tkH 2 hHeld ?_;refine tkH 3 hHeld ?_;refine tkH 4 hHeld ?_;refine Ie 5 fun K hK=> ?_;go_simp;(with_reducible refine(HCx.out).mono ?_);rintro e w4 ⟨hb4,bA,q4,rfl,hnA,hoA⟩;have hHeld4:(fun Y:World=>Y.cell? ⟨g,P,none⟩=some (.pointer (some ⟨bx,0,none⟩))/\Y.cell? ⟨w.heap.size,0,none⟩=some (.string k)/\Y.cell? ⟨w.heap.size,1,none⟩=some (.int .i64 k')/\Y.cell? ⟨w.heap.size,2,none⟩=some (.bool b')/\Y.cell? ⟨w.heap.size,3,none⟩=some (.int .i64 n')/\Y.cell? ⟨w.heap.size,4,none⟩=some (.string t')/\Y.cell? ⟨w.heap.size,5,none⟩=some (.slice la ln lc)/\Y.cell? ⟨w.heap.size,6,none⟩=some (.slice oa on oc)) w4:=by
  have hc: ∀(j:Nat),w4.cell? ⟨w.heap.size,j,none⟩=wd.cell? ⟨w.heap.size,j,none⟩:=fun j=>hb4.cell (p:=⟨w.heap.size,j,none⟩) hlx;obtain⟨a0,a1,a2,a3,a4,a5,a6,a7⟩:=hHeld;exact⟨(hb4.cell (p:=⟨g,P,none⟩) hg3).trans a0,(hc _).trans a1,(hc _).trans a2,(hc _).trans a3,(hc _).trans a4,(hc _).trans a5,(hc _).trans a6,(hc _).trans a7⟩
 refine hK.out _ _ hHeld4 (fun hHeld=> ?_);clear hK K hHeld4;have Hbw4:=qz (Hbd.out.trans (hb4.mono Hbd.out.size));have HR4:=qz (HRd.out.below hb4);have Hks4:=qz (Hksd.out.below hb4);obtain⟨HnA,HoA⟩:=hid2 hnA hoA;clear hnA hoA;have Hbd0:=qz Hbd.out;clear hb4 HCx HRd Hksd Hbd
 try simp only[Act.put,tk1,tk2,tk3,tk4,tk5,tk6]
 refine tkH 6 hHeld ?_;refine tkH 7 hHeld ?_;refine tkH 8 hHeld ?_;refine tkH 9 hHeld ?_;refine tkH 10 hHeld ?_;refine wpAnyH_done (by kernel_rfl) ?_ _;obtain⟨s1,d0,d1,d2,d3,d4,d5,d6⟩:=hHeld;clear d0 d1 d2 d3 d4 d5 d6;obtain⟨cur,hbg⟩:=HR4.out.blk;have fz:=hbg.frozen;have lg:=hbg.lt;have hgi: ∀i,((S i/\i<w.heap.size)\/wd.heap.size<=i)->i≠g:=fun i i1=>by
  rcases i1 with⟨_,i1⟩|i1<;>omega
 have hnA5:Bx (fun i=>(S i/\i<w.heap.size)\/wd.heap.size<=i) (w4.setCell ⟨g,P,none⟩ (.pointer (some ⟨bA,0,none⟩))) (Cp T x k v).1 bA:=HnA.out.later (by simp[World.setCell]) fun i i1 _=>Below.heap_setCell _ _ _ _ (hgi i i1);have HoA5:Hid (Qx (fun i=>(S i/\i<w.heap.size)\/wd.heap.size<=i) (w4.setCell ⟨g,P,none⟩ (.pointer (some ⟨bA,0,none⟩))) (Cp T x k v).2 q4):=HoA.out.later (by simp[World.setCell]) fun i i1 _=>Below.heap_setCell _ _ _ _ (hgi i i1);have hks5:Aq (fun i=>(S i/\i<w.heap.size)) (w4.setCell ⟨g,P,none⟩ (.pointer (some ⟨bA,0,none⟩))) ks bs:=Hks4.out.later (by simp[World.setCell]) fun i i1 _=>Below.heap_setCell _ _ _ _ (hgi i (.inl i1));have HkA5:=qz ((hks5.mono (T:=fun i=>(S i/\i<w.heap.size)\/wd.heap.size<=i) fun i _ hi=> .inl hi).set P hnA5);have hR5:=HR4.out.put1 (i:=P) (p:=bA) (by omega);have HB5:=qz (Hbw4.out.setCell (p:=⟨g,P,none⟩) (by simp;omega) (.pointer (some ⟨bA,0,none⟩)));have hwd:w.heap.size<=wd.heap.size:=Hbd0.out.size;have hlen5:(bs.set P bA).length=ks.length:=by rw[List.length_set,hbl]
 have lg5:g<(w4.setCell ⟨g,P,none⟩ (.pointer (some ⟨bA,0,none⟩))).heap.size:=by simp only[World.setCell,Array.size_modify];exact lg
 have HR5:=qz hR5;clear hR5;clear hnA5 hks5 HR4 Hks4 HnA HoA Hbw4 hbg;go_upto_region 12 with(fail);generalize World.setCell w4 ⟨g,P,none⟩ (.pointer (some ⟨bA,0,none⟩))=w5 at HkA5 HoA5 HR5 HB5 lg5 ⊢;clear s1 fz lg;have hfin: ∀(w7:World) (e:Ending) (w6:World),Below w.heap.size w w7->SP (fun i=>(S i/\i<w.heap.size)\/wd.heap.size<=i) (F7 (Gr T ks k v)) w7 e w6->PO e w6:=fun w7 e w6 hB7 hP=>by
  obtain⟨hb6,b6,q6,rfl,hN,hO⟩:=hP;rw[<-HPO.out];have hz7:=hB7.size;have hmo: ∀i,i<w6.heap.size->(((S i/\i<w.heap.size)\/wd.heap.size<=i)\/w7.heap.size<=i)->(S i\/w.heap.size<=i):=fun i _ hi=>by
   rcases hi with(⟨hi,_⟩|hi)|hi
   . exact .inl hi
   . exact .inr (by omega)
   . exact .inr (by omega)
  exact⟨hB7.trans (hb6.mono hz7),b6,q6,rfl,hN.mono hmo,hO.mono hmo⟩
 have Hfin:=qz hfin;clear hfin;rcases hw2:(Cp T x k v).2 with _|m
 . rw[hw2]at HoA5 HeW;have hq:q4=none:=HoA5.out;subst hq;have hkW:Aq (fun i=>(S i/\i<w.heap.size)\/wd.heap.size<=i) w5 (Gr T ks k v) (bs.set P bA):=by
    rw[HeW.out];simpa using HkA5.out
   have HC:=qz (HSp.out _ w5 _ _ HB5.out HR5.out hkW);have HB:=qz HB5.out;clear hkW HkA5 HoA5 HR5 HB5 HSp HeW;go_wp2_with (fail);(with_reducible refine(HC.out).mono ?_);intro e w6 hP;have HP:=qz (Hfin.out _ _ _ HB.out hP);obtain⟨_,b6,q6,rfl,_,_⟩:=hP;clear HC;go_wp2;exact HP.out
 . rw[hw2]at HoA5 HeW;obtain⟨b2,rfl,hm⟩: ∃b2,q4=some ⟨b2,0,none⟩/\Bx (fun i=>(S i/\i<w.heap.size)\/wd.heap.size<=i) w5 m b2:=HoA5.out;have hRR:A0 (fun _=>False) wi.heap.size 24 1 (w5.alloc (.cells #[.pointer (some ⟨b2,0,none⟩)] 24)) (Ce (bs.set P bA)) (.slice (some ⟨g,0,none⟩) (bs.set P bA).length c):=by
    rw[hlen5];exact HR5.out.below (Aa _ _)
   have HB6:=qz (HB5.out.alloc HB5.out.size (.cells #[.pointer (some ⟨b2,0,none⟩)] 24));have hI:=Aen wi.heap.size (w5.alloc (.cells #[.pointer (some ⟨b2,0,none⟩)] 24)) g c (P+1) w5.heap.size b2 (bs.set P bA) hRR (by simp;omega) (by omega) (by omega) (Aj.new _ _ _) (by omega);rw[hlen5,show((P+1:Nat):Int)=(P:Int)+1 from by omega]at hI;have hwr:IntKind.i64.wrap ((P:Int)+1)=(P:Int)+1:=IntWalk.i64_in _ (by omega);obtain⟨HI,Hm⟩:=hid2 hI hm;clear hI hm;clear hRR;go_wp2_with (fail);(with_reducible refine(HI.out).mono ?_);rintro e w7 ⟨V',rfl,hR7,hg7⟩;have hB7:=HB6.out.grown hg7 HB6.out.size (fun j hj=>by have:=Option.some.inj hj;omega);have hk57: ∀i,((S i/\i<w.heap.size)\/wd.heap.size<=i)->i<w5.heap.size->w7.heap[i]? =w5.heap[i]? :=fun i i1 i2=>by
    rw[hg7.block i (by simp;omega) (fun e=>hgi i i1 (Option.some.inj e))];exact(Aa w5 (.cells #[.pointer (some ⟨b2,0,none⟩)] 24)).block i i2
   have hz57:w5.heap.size<=w7.heap.size:=by have:=hg7.size;simp at this;omega
   have hkA7:=HkA5.out.later hz57 hk57;have hm7:=Hm.out.later hz57 hk57;have hkW:Aq (fun i=>(S i/\i<w.heap.size)\/wd.heap.size<=i) w7 (Gr T ks k v) ((bs.set P bA).take (P+1)++ [b2]++(bs.set P bA).drop (P+1)):=by
    rw[HeW.out];exact((hkA7.split (P+1)).1.app (Aq.one hm7)).app (hkA7.split (P+1)).2
   have HC:=qz (HSp.out _ w7 _ _ hB7 hR7 hkW);have HB:=qz hB7;clear hkW hkA7 hm7 hk57 hB7 hR7 hg7 HkA5 HoA5 HR5 HB5 HSp HeW HI HB6 Hm;go_wp2_with (fail);(with_reducible refine(HC.out).mono ?_);intro e w6 hP;have HP:=qz (Hfin.out _ _ _ HB.out hP);obtain⟨_,b6,q6,rfl,_,_⟩:=hP;clear HC;go_wp2;exact HP.out
theorem Px (k:ByteArray) (v:Val) (c0 c1 c2 c3 c4 c5:Value): ∀(T:Nat) (S:Nat->Prop) (n:Nd) (lo b:Nat) (w:World),Bx S w n b->Ga lo T n->0<lo->(0<T->2<=lo)->B8 (Cw n)->T<=100000->(Cw n).length+1<=100000000->Ae (Cw n)+Ae [(k,v)]<=100000000->Ah w w.heap.size (dV v) [c0,c1,c2,c3,c4,c5]->
 Calls Tryz.prog 54 #[.pointer (some ⟨b,0,none⟩),.agg #[.string k,c0,c1,c2,c3,c4,c5]] w (SP S (Cp T n k v) w)
 |0,S,.leaf es,lo,b,w,h,hn,hlo,_,ha,_,_,hb,hv=>by
  simp only[Ga]at hn;exact Vo S es b k v c0 c1 c2 c3 c4 c5 w h.now (by omega) hn.2 ha hv hb
 |0,_,.inner ks,_,_,_,_,hn,_,_,_,_,_,_,_=>absurd hn (by simp[Ga])
 |T+1,_,.leaf es,_,_,_,_,hn,_,_,_,_,_,_,_=>absurd hn (by simp[Ga])
 |T+1,S,.inner ks,lo,b,w,h,hn,_,h2,ha,hT,hN,hb,hv=>
  Vq S T ks lo b k v c0 c1 c2 c3 c4 c5 w h hn (h2 (by omega)) ha hv (by omega) hN hb fun S' x b' W hx hxo hxa hxl hxb hvW=>Px k v c0 c1 c2 c3 c4 c5 T S' x 4 b' W hx hxo (by omega) (fun _=>by omega) hxa (by omega) hxl hxb hvW
end Go.Proofs.YtkmcjfkokoidcaaGreatDoor
