/- Parts: commonplaceref07's Map: at. Condition: at most 10^8 entries. -/
import Derived.Test.YtnkmhaachfgaoaaGreatDoorZPqShelfO
import Derived.Shelf.SlSorted.Search
import Derived.Test.YtnkmhaachfgaoaaGreatDoorKPq12
import Derived.Test.YtnkmhaachfgaoaaGreatDoorKPq13
import Derived.Test.YtnkmhaachfgaoaaGreatDoorKPq14
import Derived.Test.YtnkmhaachfgaoaaGreatDoorKPq16
set_option maxHeartbeats 20000000
set_option maxRecDepth 100000
namespace Go.Proofs.YtnkmhaachfgaoaaGreatDoor
open Go Go.RowKit
theorem Qw {w w':World} {B B':Nat}: ∀{bs:List Nat} {ns:List Value},Af w B (Ar bs) ns->Af w' B' (Ar bs) ns
 | [],_,h=>h
 |b::r,_,h=>by
  obtain⟨c1,c2,rfl,h1,h2⟩:=h;exact⟨c1,c2,rfl,h1,Qw h2⟩
theorem Al.empty {S0:Nat->Prop} {b s:Nat} {t:TypeId} {w:World} (hb:b<=w.heap.size):Al S0 b t s (w.alloc (.cells #[] t)) [] (.slice (some ⟨w.heap.size,0,none⟩) 0 0):=
 ⟨[],⟨by simp,.inr ⟨w.heap.size,0, #[],rfl,hb,heap_alloc_new w _,Nat.le_refl _,by unfold maxLen;omega,by simp,by simp⟩⟩,fun x hx=>(by cases hx),fun _ _ _=>rfl⟩
def Nh (bs:List Nat) (w:World) (e:Ending) (w':World):Prop:=Below w.heap.size w w'/\ ∃V,e=.returned V/\Al (fun _=>False) w.heap.size 25 1 w' (Ar bs) V
theorem U5 (bs:List Nat) (a:Option Addr) (n c:Nat) (w:World) (h:Ae w w.heap.size (.row 1 (Ar bs)) [.slice a n c]) (h0:0<bs.length) (h8:bs.length<=1000):
 Calls Tryz.prog 120 #[.slice a n c] w (Nh bs w):=by
 have hn:=h.row_len;rw[Av]at hn;subst hn;obtain⟨j0,hj,hy0,hy1,hy2⟩:=info_parts Jw;obtain⟨g,off,rfl,hg,_⟩:=Ik h (q:=0) (b:=bs[0]) (List.getElem?_eq_getElem h0);obtain⟨ns,hr,hA,_⟩:=h.reads;have hb1:=Aa w (.cells #[] 25);have HR:=qz (hr.below hb1);have HX:Hid (An (fun i=>False/\(Value.slice (some ⟨w.heap.size,0,none⟩) 0 0).ownBlock≠some i) (w.alloc (.cells #[] 25)) (Ar bs) ns):=fun w'' _ _=>Qw hA;have hrow:=Al.empty (S0:=fun _=>False) (b:=w.heap.size) (s:=1) (t:=25) (w:=w) (Nat.le_refl _);have hLo:([]:List D).length+bs.length<=maxLen/\(([]:List D).length+bs.length)*8<=140737488355328:=by
  simp only[List.length_nil,maxLen];omega
 have Hdl:=qz ((Av bs).symm);have hnil:=fun(W:World)=>Lib.run_eql_slice_nil (P:=Tryz.prog) W 111 25 (some ⟨g,off,none⟩) bs.length c 0 0 Tryz.underlying111;obtain⟨Hj,Hy0,Hy1,Hy2,Hrow,HLo,Hb1⟩:=hid7 hj hy0 hy1 hy2 hrow hLo hb1;clear hj hy0 hy1 hy2 hrow hLo hb1;clear h hr hA;go_enter Tryz.func120,Tryz.ntmps120;go_wp2_with (at_builtin;apply Shut.out);unfold Shut;refine B8 rfl (.tmp 5) (.tmp 6) 111 rfl Tryz.underlying111 Hj.out Hy0.out Hy1.out Hy2.out rfl (by omega) rfl Hrow.out (by simp) (Mv _) HX.out rfl HR.out Hdl.out HLo.out.1 HLo.out.2 ?_;intro V6 w6 hrow6 hg6 hat6;have HP:Hid (Nh bs w (.returned V6) w6):=⟨Hb1.out.grown hg6 (by simp) (fun k hk=>by cases hk;exact Nat.le_refl _),V6,rfl,by simpa using hrow6⟩;clear hrow6 hg6 hat6;go_wp2;go_ret;exact HP.out
theorem Fu {S:Nat->Prop} {ks:List Nd} {b:Nat} {w:World} (h:Bj S w (.inner ks) b) (h0:0<ks.length) (h8:ks.length<=1000):
 Calls Tryz.prog 76 #[.pointer (some ⟨b,0,none⟩)] w fun e w'=> ∃bs,Am S w ks bs/\Nh bs w e w':=by
 simp only[Bj]at h;obtain⟨_,hb,bs,a,c,hh,hx,hk⟩:=h;have hbl:=hk.now.len;have HC:=qz (U5 bs a ks.length c w hh.now (by omega) (by omega));have c1:=hx.cell 1;have lx:=hx.lt;obtain⟨PO,hPO⟩: ∃P:Ending->World->Prop,(fun e w'=> ∃bs,Am S w ks bs/\Nh bs w e w')=P:=⟨_,rfl⟩;rw[hPO];obtain⟨Hk,HPO⟩:=hid2 hk hPO;clear hk hPO;clear hh hx;go_enter Tryz.func76,Tryz.ntmps76;go_wp2_with (fail);(with_reducible refine(HC.out).mono ?_);intro e w1 hP;obtain⟨_,V,rfl,_⟩:=id hP;have HP:Hid (PO (.returned V) w1):=by
  show PO _ _;rw[<-HPO.out];exact⟨bs,Hk.out,hP⟩
 clear hP;go_wp2;exact HP.out
theorem Ft {es:List Ax} {b:Nat} {w:World} (h:By w w.heap.size (.leaf es) b) (h0:0<es.length) (hb:Ac es<=100000000):
 Calls Tryz.prog 75 #[.pointer (some ⟨b,0,none⟩)] w (Ng es w):=by
 simp only[By]at h;obtain⟨_,a,c,hh,hx⟩:=h;have hC:=Me es a es.length c w hh hb;have c1:=hx.cell 0;have lx:=hx.lt;have hz:((es.length:Int)==0)=false:=beq_eq_false_iff_ne.2 (by omega);obtain⟨PO,hPO⟩: ∃P:Ending->World->Prop,Ng es w=P:=⟨_,rfl⟩;rw[hPO]at hC ⊢;obtain⟨HC,HPO⟩:=hid2 hC hPO;clear hC hPO;clear hh hx;go_enter Tryz.func75,Tryz.ntmps75;go_wp2_with (fail);(with_reducible refine(HC.out).mono ?_);intro e w1 hP;rw[<-HPO.out]at hP;obtain⟨_,g,rfl,_⟩:=id hP;rw[HPO.out]at hP;have HP:=qz hP;clear hP;go_wp2;exact HP.out
def NP (S:Nat->Prop) (nd:Nd) (w:World) (e:Ending) (w':World):Prop:=Below w.heap.size w w'/\ ∃b,e=.returned (.pointer (some ⟨b,0,none⟩))/\Bj (fun i=>S i\/w.heap.size<=i) w' nd b
def Nj (S:Nat->Prop) (w:World):Option Nd->Option Addr->Prop
 |none,p=>p=none
 |some n,p=> ∃b,p=some ⟨b,0,none⟩/\Bj S w n b
theorem Nj.below {S:Nat->Prop} {w w':World} {t:Option Nd} {p:Option Addr} (h:Nj S w t p) (hb:Below w.heap.size w w'):Nj S w' t p:=by
 cases t with
 |none=>exact h
 |some t=>
  obtain⟨b,e,h1⟩:=h;exact⟨b,e,h1.below hb⟩
theorem Nj.mono {S T:Nat->Prop} {w:World} {t:Option Nd} {p:Option Addr} (h:Nj S w t p) (hST: ∀i,i<w.heap.size->S i->T i):Nj T w t p:=by
 cases t with
 |none=>exact h
 |some t=>
  obtain⟨b,e,h1⟩:=h;exact⟨b,e,h1.mono hST⟩
theorem Ej {S:Nat->Prop} {w w1:World} {N:Nat} (h:w.heap.size<=w1.heap.size): ∀(i:Nat),i<N->(S i\/w1.heap.size<=i)->(S i\/w.heap.size<=i):=fun _ _ hi=>hi.imp id fun h1=>Nat.le_trans h h1
def SP (S:Nat->Prop) (r:Nd×Option Nd) (w:World) (e:Ending) (w':World):Prop:=Below w.heap.size w w'/\ ∃b q,e=.returned (.tuple #[.pointer (some ⟨b,0,none⟩),.pointer q])/\Bj (fun i=>S i\/w.heap.size<=i) w' r.1 b/\Nj (fun i=>S i\/w.heap.size<=i) w' r.2 q
theorem Dj (S:Nat->Prop) (es:List Ax) (a:Option Addr) (n c:Nat) (w:World) (h:Ae w w.heap.size (.row 7 (dO es)) [.slice a n c]) (ha:Az es) (h8:es.length<=8) (hb:Ac es<=100000000):Calls Tryz.prog 92 #[.slice a n c] w (NP S (.leaf es) w):=by
 have HC:=qz (Yc es a n c w h ha h8 hb);obtain⟨PO,hPO⟩: ∃P:Ending->World->Prop,NP S (.leaf es) w=P:=⟨_,rfl⟩;rw[hPO];have HPO:=qz hPO;clear hPO;clear h;go_enter Tryz.func92,Tryz.ntmps92;go_wp2_with (fail);(with_reducible refine(HC.out).mono ?_);rintro e w1 ⟨hb1,b,rfl,hN⟩;have HP:Hid (PO (.returned (.pointer (some ⟨b,0,none⟩))) w1):=by
  show PO _ _;rw[<-HPO.out];exact⟨hb1,b,rfl,hN.mono fun i _ hi=> .inr hi⟩
 clear hb1 hN;go_wp2;exact HP.out
theorem Co (S:Nat->Prop) (T:Nat) (ks:List Nd) (bs:List Nat) (a:Option Addr) (n c:Nat) (w:World) (h:Ae w w.heap.size (.row 1 (Ar bs)) [.slice a n c]) (hkS:Am S w ks bs) (ha:Az (Ap ks)) (hok: ∀k ∈ ks,Cb 4 T k)
 (h1:1<=ks.length) (h8:ks.length<=8) (hH:T<=1000000) (hN:(Ap ks).length<=1000000000):Calls Tryz.prog 58 #[.slice a n c] w (NP S (Ce ks) w):=by
 have hk:=hkS.now;have hn:=h.row_len;rw[Av,hk.len]at hn;subst hn;obtain⟨PO,hPO⟩: ∃P:Ending->World->Prop,NP S (Ce ks) w=P:=⟨_,rfl⟩;rw[hPO];by_cases h2:2<=ks.length
 . have hC:=U6 S T ks bs a ks.length c w h hkS ha hok h2 h8 hH hN;have hz:((ks.length:Int)==1)=false:=beq_eq_false_iff_ne.2 (by omega);have hz2:(ks.length==1)=false:=beq_eq_false_iff_ne.2 (by omega);have hz3: ¬ks.length=1:=by omega
   have He:=qz (Dl h2);obtain⟨HC,HPO⟩:=hid2 hC hPO;clear hC hPO;clear h hk hkS;go_enter Tryz.func58,Tryz.ntmps58;go_wp2_with (fail);(with_reducible refine(HC.out).mono ?_);rintro e w1 ⟨hb1,b,rfl,hN⟩;have HP:Hid (PO (.returned (.pointer (some ⟨b,0,none⟩))) w1):=by
    show PO _ _;rw[<-HPO.out,He.out];exact⟨hb1,b,rfl,hN⟩
   clear hb1 hN;go_wp2;exact HP.out
 . obtain⟨k,rfl⟩: ∃k,ks= [k]:=by
    match ks,h1,h2 with
    | [k],_,_=>exact⟨k,rfl⟩
    |x::y::r,_,h2=>exact absurd (by simp) h2
   obtain⟨b,hb,hN⟩:=hkS.at_ (i:=0) (k:=k) rfl;obtain⟨g,off,rfl,hg,hc⟩:=Ik h hb;rw[Nat.add_zero]at hc;have HP:Hid (PO (.returned (.pointer (some ⟨b,0,none⟩))) w):=by
    show PO _ _;rw[<-hPO];exact⟨Below.refl _ _,b,rfl,hN.mono fun i _ hi=> .inl hi⟩
   clear h hk hkS hb hN hPO;go_enter Tryz.func58,Tryz.ntmps58;go_wp2;exact HP.out
theorem Eg: ∀(a b:List Ax),Ac (a++b)=Ac a+Ac b
 | [],b=>by simp[Ac]
 |x::r,b=>by simp[Ac,Eg r b];omega
theorem Jn (l:List Ax) (i:Nat):Ac (l.take i)<=Ac l/\Ac (l.drop i)<=Ac l:=by
 have:=Eg (l.take i) (l.drop i);rw[List.take_append_drop]at this;omega
theorem Mk (S:Nat->Prop) (es:List Ax) (a:Option Addr) (n c:Nat) (w:World) (h:Ae w w.heap.size (.row 7 (dO es)) [.slice a n c]) (ha:Az es) (h9:es.length<=9) (hcn:n<=c) (hb:Ac es<=100000000):
 Calls Tryz.prog 91 #[.slice a n c,.func (.func 92) #[] #[]] w (SP S (Gc es) w):=by
 have hn:=h.row_len;rw[At]at hn;subst hn;obtain⟨PO,hPO⟩: ∃P:Ending->World->Prop,SP S (Gc es) w=P:=⟨_,rfl⟩;rw[hPO];by_cases h8:es.length<=8
 . have hC:=Dj S es a es.length c w h ha h8 hb;have y8:(es.length:Int)<=8:=by omega
   have He:=qz (show Gc es=(.leaf es,none)from by unfold Gc;rw[if_pos h8]);obtain⟨HC,HPO⟩:=hid2 hC hPO;clear hC hPO;clear h;go_enter Tryz.func91,Tryz.ntmps91;go_wp2_with (fail);(with_reducible refine(HC.out).mono ?_);rintro e w1 ⟨hb1,b,rfl,hN⟩;have HP:Hid (PO (.returned (.tuple #[.pointer (some ⟨b,0,none⟩),.pointer none])) w1):=by
    show PO _ _;rw[<-HPO.out,He.out];exact⟨hb1,b,none,rfl,hN,rfl⟩
   clear hb1 hN;go_wp2;exact HP.out
 . have h9':es.length=9:=by omega
   obtain⟨e0,he0⟩: ∃p,es[0]? =some p:=⟨_,List.getElem?_eq_getElem (by omega)⟩;obtain⟨g,off,rfl,hg,_⟩:=Ds h he0;have hpw:=List.pairwise_append.1 (show Az (es.take 4++es.drop 4)from by rw[List.take_append_drop];exact ha);have hd1:dO (es.take 4)=(dO es).take 4:=by rw[Bi,Bi,List.map_take]
   have hd2:dO (es.drop 4)=(dO es).drop 4:=by rw[Bi,Bi,List.map_drop]
   have hl1:Ae w w.heap.size (.row 7 (dO (es.take 4))) [.slice (some ⟨g,off,none⟩) 4 c]:=hd1▸h.cutL (i:=4) (by rw[At];omega) c;have hl2:Ae w w.heap.size (.row 7 (dO (es.drop 4))) [.slice (some ⟨g,off+28,none⟩) 5 (c - 4)]:=hd2▸h.cutR (i:=4) (m:=5) (by rw[At];omega) (c - 4);have HC1:=qz (fun(W:World) (hB:Below w.heap.size w W)=>Dj S (es.take 4) (some ⟨g,off,none⟩) 4 c W ((hl1.below hB).more hB.size) hpw.1 (by rw[List.length_take];omega) (Nat.le_trans (Jn es 4).1 hb));have HC2:=qz (fun(W:World) (hB:Below w.heap.size w W)=>Dj S (es.drop 4) (some ⟨g,off+28,none⟩) 5 (c - 4) W ((hl2.below hB).more hB.size) hpw.2.1 (by rw[List.length_drop];omega) (Nat.le_trans (Jn es 4).2 hb));have he:Gc es=(.leaf (es.take 4),some (.leaf (es.drop 4))):=by unfold Gc;rw[if_neg h8]
   rw[h9']at hcn ⊢;have z1:4<=c:=by omega
   have z2:(4:Int)<=(c:Int):=by omega
   have z3:(9:Int)<=(c:Int):=by omega
   have z4: ¬c=4:=by omega
   have hbd:=Below.drew (Below.refl w.heap.size w);obtain⟨HPO,He⟩:=hid2 hPO he;clear hPO he;clear h hl1 hl2 hd1 hd2 he0 hpw h9' h9 h8 ha;go_enter Tryz.func91,Tryz.ntmps91;go_upto_region 3 with(fail);refine wp_region_held_drew (S:=fun _=>True) (by kernel_rfl) trivial (fun hHeld=> ?_);generalize w.drew=wd at hbd ⊢;refine tkH 0 hHeld ?_;refine tkH 1 hHeld ?_;refine tkH 2 hHeld ?_;refine tkH 4 hHeld ?_;refine tkH 5 hHeld ?_;refine tkH 6 hHeld ?_;refine C4 3 fun K hK=> ?_;go_simp;(with_reducible refine(HC1.out _ hbd).mono ?_);rintro e w1 ⟨hb1,b1,rfl,hN1⟩;have hw1:=hbd.trans (hb1.mono hbd.size);refine hK.out _ _ trivial (fun hHeld=> ?_);clear hK K hb1;have HN1:=qz hN1;clear hN1
   try simp only[Act.put,tk1,tk2,tk3,tk4,tk5,tk6]
   refine C4 7 fun K hK=> ?_;go_simp;(with_reducible refine(HC2.out _ hw1).mono ?_);rintro e w2 ⟨hb2,b2,rfl,hN2⟩;have HP:Hid (PO (.returned (.tuple #[.pointer (some ⟨b1,0,none⟩),.pointer (some ⟨b2,0,none⟩)])) w2):=by
    show PO _ _;rw[<-HPO.out,He.out];exact⟨hw1.trans (hb2.mono hw1.size),b1,_,rfl,(HN1.out.below hb2).mono (Ej hbd.size),b2,rfl,hN2.mono (Ej hw1.size)⟩
   refine hK.out _ _ trivial (fun hHeld=> ?_);clear hK K hb2 hN2 HN1 hw1 hbd
   try simp only[Act.put,tk1,tk2,tk3,tk4,tk5,tk6]
   refine tkH 8 hHeld ?_;refine tkH 9 hHeld ?_;refine wpAnyH_done (by kernel_rfl) ?_ _;clear hHeld;go_wp2;exact HP.out
theorem S7 (S:Nat->Prop) (T:Nat) (ks:List Nd) (bs:List Nat) (a:Option Addr) (n c:Nat) (w:World) (h:Ae w w.heap.size (.row 1 (Ar bs)) [.slice a n c]) (hkS:Am S w ks bs) (ha:Az (Ap ks)) (hok: ∀k ∈ ks,Cb 4 T k)
 (h1:1<=ks.length) (h9:ks.length<=9) (hcn:n<=c) (hH:T<=1000000) (hN:(Ap ks).length<=1000000000):
 Calls Tryz.prog 95 #[.slice a n c,.func (.func 58) #[] #[]] w (SP S (Gd ks) w):=by
 have hk:=hkS.now;have hn:=h.row_len;rw[Av,hk.len]at hn;subst hn;obtain⟨PO,hPO⟩: ∃P:Ending->World->Prop,SP S (Gd ks) w=P:=⟨_,rfl⟩;rw[hPO];by_cases h8:ks.length<=8
 . have hC:=Co S T ks bs a ks.length c w h hkS ha hok h1 h8 hH hN;have y8:(ks.length:Int)<=8:=by omega
   have He:=qz (show Gd ks=(Ce ks,none)from by unfold Gd;rw[if_pos h8]);obtain⟨HC,HPO⟩:=hid2 hC hPO;clear hC hPO;clear h hk hkS;go_enter Tryz.func95,Tryz.ntmps95;go_wp2_with (fail);(with_reducible refine(HC.out).mono ?_);rintro e w1 ⟨hb1,b,rfl,hN⟩;have HP:Hid (PO (.returned (.tuple #[.pointer (some ⟨b,0,none⟩),.pointer none])) w1):=by
    show PO _ _;rw[<-HPO.out,He.out];exact⟨hb1,b,none,rfl,hN,rfl⟩
   clear hb1 hN;go_wp2;exact HP.out
 . have h9':ks.length=9:=by omega
   have hbl:=hk.len;obtain⟨g,off,rfl,hg,_⟩:=Ik h (q:=0) (b:=bs[0]) (List.getElem?_eq_getElem (by omega));have hpw:=List.pairwise_append.1 (show Az (Ap (ks.take 4)++Ap (ks.drop 4))from by rw[<-A0,List.take_append_drop];exact ha);have hlen:(Ap (ks.take 4)).length+(Ap (ks.drop 4)).length=(Ap ks).length:=by rw[<-List.length_append,<-A0,List.take_append_drop]
   have hd1:Ar (bs.take 4)=(Ar bs).take 4:=by unfold Ar;rw[List.map_take]
   have hd2:Ar (bs.drop 4)=(Ar bs).drop 4:=by unfold Ar;rw[List.map_drop]
   have hl1:Ae w w.heap.size (.row 1 (Ar (bs.take 4))) [.slice (some ⟨g,off,none⟩) 4 c]:=hd1▸h.cutL (i:=4) (by rw[Av];omega) c;have hl2:Ae w w.heap.size (.row 1 (Ar (bs.drop 4))) [.slice (some ⟨g,off+4,none⟩) 5 (c - 4)]:=hd2▸h.cutR (i:=4) (m:=5) (by rw[Av];omega) (c - 4);obtain⟨hk1,hk2⟩:=hkS.split 4;have HC1:=qz (fun(W:World) (hB:Below w.heap.size w W)=>Co S T (ks.take 4) (bs.take 4) (some ⟨g,off,none⟩) 4 c W ((hl1.below hB).more hB.size) (hk1.below hB) hpw.1 (fun k hk=>hok k (List.mem_of_mem_take hk)) (by rw[List.length_take];omega) (by rw[List.length_take];omega) hH (by omega));have HC2:=qz (fun(W:World) (hB:Below w.heap.size w W)=>Co S T (ks.drop 4) (bs.drop 4) (some ⟨g,off+4,none⟩) 5 (c - 4) W ((hl2.below hB).more hB.size) (hk2.below hB) hpw.2.1 (fun k hk=>hok k (List.mem_of_mem_drop hk)) (by rw[List.length_drop];omega) (by rw[List.length_drop];omega) hH (by omega));have he:Gd ks=(Ce (ks.take 4),some (Ce (ks.drop 4))):=by unfold Gd;rw[if_neg h8]
   rw[h9']at hcn ⊢;have z1:4<=c:=by omega
   have z2:(4:Int)<=(c:Int):=by omega
   have z3:(9:Int)<=(c:Int):=by omega
   have z4: ¬c=4:=by omega
   have hbd:=Below.drew (Below.refl w.heap.size w);obtain⟨HPO,He⟩:=hid2 hPO he;clear hPO he;clear h hl1 hl2 hd1 hd2 hpw ha hk hkS hk1 hk2 hlen;go_enter Tryz.func95,Tryz.ntmps95;go_upto_region 3 with(fail);refine wp_region_held_drew (S:=fun _=>True) (by kernel_rfl) trivial (fun hHeld=> ?_);generalize w.drew=wd at hbd ⊢;refine tkH 0 hHeld ?_;refine tkH 1 hHeld ?_;refine tkH 2 hHeld ?_;refine tkH 4 hHeld ?_;refine tkH 5 hHeld ?_;refine tkH 6 hHeld ?_;refine C4 3 fun K hK=> ?_;go_simp;(with_reducible refine(HC1.out _ hbd).mono ?_);rintro e w1 ⟨hb1,b1,rfl,hN1⟩;have hw1:=hbd.trans (hb1.mono hbd.size);refine hK.out _ _ trivial (fun hHeld=> ?_);clear hK K hb1;have HN1:=qz hN1;clear hN1
   try simp only[Act.put,tk1,tk2,tk3,tk4,tk5,tk6]
   refine C4 7 fun K hK=> ?_;go_simp;(with_reducible refine(HC2.out _ hw1).mono ?_);rintro e w2 ⟨hb2,b2,rfl,hN2⟩;have HP:Hid (PO (.returned (.tuple #[.pointer (some ⟨b1,0,none⟩),.pointer (some ⟨b2,0,none⟩)])) w2):=by
    show PO _ _;rw[<-HPO.out,He.out];exact⟨hw1.trans (hb2.mono hw1.size),b1,_,rfl,(HN1.out.below hb2).mono (Ej hbd.size),b2,rfl,hN2.mono (Ej hw1.size)⟩
   refine hK.out _ _ trivial (fun hHeld=> ?_);clear hK K hb2 hN2 HN1 hw1 hbd
   try simp only[Act.put,tk1,tk2,tk3,tk4,tk5,tk6]
   refine tkH 8 hHeld ?_;refine tkH 9 hHeld ?_;refine wpAnyH_done (by kernel_rfl) ?_ _;clear hHeld;go_wp2;exact HP.out
theorem Xv {S0:Nat->Prop} (b:Nat) (w:World) (g i vb:Nat) (es:List Ax) (d:D) (ys:List Value) (hV:Al S0 b 71 7 w (dO es) (.slice (some ⟨g,0,none⟩) es.length es.length)) (hb:b<=w.heap.size) (hi:i<=es.length) (hn:es.length<=1000)
 (hd:d.cells=7) (hx:Ag (fun i=>S0 i/\(Value.slice (some ⟨g,0,none⟩) es.length es.length).ownBlock≠some i) w d ys) (hvs: ∀j v,ys[j]? =some v->w.cell? ⟨vb,j,none⟩=some v):
 Calls Tryz.prog 90 #[.slice (some ⟨g,0,none⟩) es.length es.length,.int .i64 i,.slice (some ⟨vb,0,none⟩) 1 1] w fun e w'=> ∃V',e=.returned V'/\Al S0 b 71 7 w' ((dO es).take i++ [d]++(dO es).drop i) V'/\w.grownBy w' (some g):=by
 obtain⟨ns,h1,h2,h3⟩:=hV;rw[At]at h1;obtain⟨hyl,hy1⟩:=hx.now.len;rw[hd]at hyl;have hnl:ns.length=es.length*7:=by rw[h3.now.len.1,D5 h2,At]
 have h1x:=h3.now.len.2;rcases Nat.lt_or_ge i es.length with hlt|hge
 . rcases h1.2 with⟨e,_⟩|⟨g',cap,cur,e,hbg,hg,hnc,hcm,hcs,hcx⟩
   . cases e
   . cases e
     refine(Acx b w g es.length i cur ns hb hg hcs hcx hlt hn h1x vb ys hyl hvs hy1).mono ?_;rintro e w' ⟨V',rfl,k1,k2,k3⟩;exact⟨V',rfl,Al.of_ins k1 h2 hd h3 hx (Gv k2) (.inr k3) (by rw[At]),Gv k2⟩
 . obtain rfl:i=es.length:=by omega
   refine(Xu b w _ es.length ns h1 hb hn vb ys hyl hvs hy1).mono ?_;rintro e w' ⟨V',rfl,k1,k2,k3⟩;refine⟨V',rfl,Al.of_ins (ns:=ns) (V:=.slice (some ⟨g,0,none⟩) es.length es.length) ?_ h2 hd h3 hx k2 k3 (by rw[At]),k2⟩;rw[List.take_of_length_le (by omega),List.drop_eq_nil_of_le (by omega),List.append_nil];exact k1
theorem Xw (b:Nat) (w:World) (g cap i vb p:Nat) (bs:List Nat) (hV:Al (fun _=>False) b 25 1 w (Ar bs) (.slice (some ⟨g,0,none⟩) bs.length cap)) (hb:b<=w.heap.size) (hi:i<=bs.length) (hn:bs.length<=1000)
 (hvb:Ah w vb 25 #[.pointer (some ⟨p,0,none⟩)]) (hne:vb≠g):
 Calls Tryz.prog 94 #[.slice (some ⟨g,0,none⟩) bs.length cap,.int .i64 i,.slice (some ⟨vb,0,none⟩) 1 1] w fun e w'=> ∃V',e=.returned V'/\Al (fun _=>False) b 25 1 w' (Ar (bs.take i++ [p]++bs.drop i)) V'/\w.grownBy w' (some g):=by
 have hx:Ag (fun i=>False/\(Value.slice (some ⟨g,0,none⟩) bs.length cap).ownBlock≠some i) w (Se p) [.pointer (some ⟨p,0,none⟩)]:=Fq _ _ _;obtain⟨hyl,hy1⟩:=hx.now.len;have hvs: ∀j v, [Value.pointer (some ⟨p,0,none⟩)][j]? =some v->w.cell? ⟨vb,j,none⟩=some v:=fun j v hj=>by
  have:=hvb.cell j;rw[this];simpa using hj
 obtain⟨ns,h1,h2,h3⟩:=hV;rw[Av]at h1;have hnl:ns.length=bs.length:=by rw[h3.now.len.1,D5 h2,Av,Nat.mul_one]
 have h1x:=h3.now.len.2;have hdp:Ar (bs.take i++ [p]++bs.drop i)=(Ar bs).take i++ [Se p]++(Ar bs).drop i:=by
  unfold Ar;rw[List.map_append,List.map_append,List.map_take,List.map_drop];rfl
 rw[hdp];rcases Nat.lt_or_ge i bs.length with hlt|hge
 . rcases h1.2 with⟨e,_⟩|⟨g',cap',cur,e,hbg,hg,hnc,hcm,hcs,hcx⟩
   . cases e
   . cases e
     rcases Nat.lt_or_ge bs.length cap with hc|hc
     . refine(Acz b w g bs.length cap i cur ns hbg hg hcs hcx hlt (by omega) hcm hn h1x vb _ hvb hne (hy1 _ (by simp))).mono ?_;rintro e w' ⟨V',rfl,k1,k2,k3⟩;exact⟨V',rfl,Al.of_ins (ns:=ns) (V:=.slice (some ⟨g,0,none⟩) bs.length cap) (by simpa using k1) h2 rfl h3 hx k2 (.inl k3) (by rw[Av]),k2⟩
     . obtain rfl:cap=bs.length:=by omega
       refine(Acy b w g bs.length i cur ns hb hg hcs hcx hlt hn h1x vb _ hyl hvs hy1).mono ?_;rintro e w' ⟨V',rfl,k1,k2,k3⟩;exact⟨V',rfl,Al.of_ins k1 h2 rfl h3 hx (Gv k2) (.inr k3) (by rw[Av]),Gv k2⟩
 . obtain rfl:i=bs.length:=by omega
   refine(Afa b w _ bs.length ns h1 hb hn vb _ hyl hvs hy1).mono ?_;rintro e w' ⟨V',rfl,k1,k2,k3⟩;refine⟨V',rfl,Al.of_ins (ns:=ns) (V:=.slice (some ⟨g,0,none⟩) bs.length cap) ?_ h2 rfl h3 hx k2 k3 (by rw[Av]),k2⟩;rw[List.take_of_length_le (by omega),List.drop_eq_nil_of_le (by omega),List.append_nil];exact k1
end Go.Proofs.YtnkmhaachfgaoaaGreatDoor
namespace Go.Proofs.YtnkmhaachfgaoaaGreatDoor
open Go Go.RowKit Go.Sort
theorem S6 (es:List Ax) (k:ByteArray) (a:Option Addr) (n c b1 b2 i B:Nat) (hi:i<es.length) (_:es.length<=1000) (w:World) (h:Ae w B (.row 7 (dO es)) [.slice a n c]) (h1:w.cell? ⟨b1,0,none⟩=some (.slice a n c)) (h2:w.cell? ⟨b2,0,none⟩=some (.string k)):
 Calls Tryz.prog 151 #[.int .i64 i,.pointer (some ⟨b1,0,none⟩),.pointer (some ⟨b2,0,none⟩)] w fun e w'=>e=.returned (.bool (!((es[i]?.map fun e=>Bn e.1 k).getD false)))/\w'=w.drew:=by
 have hl:=h.row_len;rw[At]at hl;subst hl;obtain⟨e1,he1⟩: ∃p,es[i]? =some p:=⟨_,List.getElem?_eq_getElem hi⟩;obtain⟨g,off,rfl,hg,u1,u2,u3,u4,u5,u6,_,r1⟩:=Ds h he1;have s1:=r1 0 _ rfl;simp only[Nat.add_zero]at s1;have y1:(i:Int)<(es.length:Int):=by omega
 have y2:(0:Int)<=i:=by omega
 have hR:(!((es[i]?.map fun e=>Bn e.1 k).getD false))= !(Op.bytesLess e1.1.toList k.toList):=by rw[he1];rfl
 rw[hR];have hSS:(fun Y:World=>Y.cell? ⟨b1,0,none⟩=some (.slice (some ⟨g,off,none⟩) es.length c)/\Y.cell? ⟨b2,0,none⟩=some (.string k)/\Y.cell? ⟨g,off+i*7,none⟩=some (.string e1.1)) w.drew:=⟨h1,h2,s1⟩;clear r1 he1 hR h h1 h2 s1;go_enter Tryz.func151,Tryz.ntmps151;go_upto_region 1 with(fail);refine wp_region_held_drew (S:=fun Y=>Y.cell? ⟨b1,0,none⟩=some (.slice (some ⟨g,off,none⟩) es.length c)/\Y.cell? ⟨b2,0,none⟩=some (.string k)/\Y.cell? ⟨g,off+i*7,none⟩=some (.string e1.1)) (by kernel_rfl) hSS (fun hHeld=> ?_);refine tkH 0 hHeld ?_;refine tkH 1 hHeld ?_;refine tkH 2 hHeld ?_;refine tkH 3 hHeld ?_;refine tkH 4 hHeld ?_;refine tkH 5 hHeld ?_;refine tkH 6 hHeld ?_;refine tkH 7 hHeld ?_;refine wpAnyH_done (by kernel_rfl) ?_ _;clear hHeld hSS;go_wp2;go_ret;exact⟨rfl,rfl⟩
theorem No (w:World) (q:Nat) (os:Array Obj):Below w.heap.size w (grow (w.drewN q) os):=below_grown_sl w.heap.size w q os (Nat.le_refl _)
theorem Agr {k:ByteArray} {es:List Ax} (ha:Az es) (x y:Nat) (hxy:x<=y) (hy:y<es.length) (h:(!((es[x]?.map fun e=>Bn e.1 k).getD false))=true):(!((es[y]?.map fun e=>Bn e.1 k).getD false))=true:=by
 have ex:es[x]? =some es[x]:=List.getElem?_eq_getElem (by omega);have ey:es[y]? =some es[y]:=List.getElem?_eq_getElem hy;rw[ex]at h;rw[ey];simp only[Option.map_some,Option.getD_some]at h ⊢;rcases Nat.lt_or_ge x y with hlt|hge
 . have:=List.pairwise_iff_getElem.1 ha x y (by omega) hy hlt
   cases hb:Bn es[y].1 k with
   |false=>rfl
   |true=>
    rw[Bw this hb]at h;exact h
 . obtain rfl:x=y:=by omega
   exact h
theorem Hu (es:List Ax) (k:ByteArray) (a:Option Addr) (n c:Nat) (w:World) (h:Ae w w.heap.size (.row 7 (dO es)) [.slice a n c]) (ha:Az es) (hn:es.length<=1000):
 Calls Tryz.prog 89 #[.slice a n c,.string k] w fun e w'=>e=.returned (.tuple #[.int .i64 (Cy k es),.bool (Bm k es)])/\Below w.heap.size w w':=by
 obtain⟨PO,hPO⟩: ∃P:Ending->World->Prop,(fun e w'=>e=.returned (.tuple #[.int .i64 (Cy k es),.bool (Bm k es)])/\Below w.heap.size w w')=P:=⟨_,rfl⟩;rw[hPO];have hF: ∀W,Below w.heap.size w W->PO (.returned (.tuple #[.int .i64 (Cy k es),.bool (Bm k es)])) W:=fun W hB=>by
  rw[<-hPO];exact⟨rfl,hB⟩
 clear hPO;have hl:=h.row_len;rw[At]at hl;subst hl;obtain⟨wi,hwi⟩: ∃wi,(w.alloc (.cells #[.slice a es.length c] 22)).alloc (.cells #[.string k] 9)=wi:=⟨_,rfl⟩;have hbi:Below w.heap.size w wi:=hwi▸((Aa w (.cells #[.slice a es.length c] 22)).alloc (by simp) _);have hx1:Ah wi w.heap.size 22 #[.slice a es.length c]:=hwi▸(Ah.new _ _ _).alloc _;have hx2:Ah wi (w.heap.size+1) 9 #[.string k]:=by
  have:=Ah.new (w.alloc (.cells #[.slice a es.length c] 22)) 9 #[.string k]
  rwa [World.size_alloc,hwi]at this
 have hS:=Tryz.sort_Search 151 #[.pointer (some ⟨w.heap.size,0,none⟩),.pointer (some ⟨w.heap.size+1,0,none⟩)] es.length (fun i=> !((es[i]?.map fun e=>Bn e.1 k).getD false)) wi (fun _ _=>by kernel_rfl) (by omega)
  (fun m os i hi=>by
    have hB:=No wi m os;refine(S6 es k a es.length c w.heap.size (w.heap.size+1) i w.heap.size hi hn (grow (wi.drewN m) os) (h.below (hbi.trans (hB.mono hbi.size))) ((hB.cell (p:=⟨w.heap.size,0,none⟩) hx1.lt).trans (hx1.cell 0)) ((hB.cell (p:=⟨w.heap.size+1,0,none⟩) hx2.lt).trans (hx2.cell 0))).mono ?_;rintro e w' ⟨rfl,rfl⟩;exact⟨rfl,1, #[],by rw[grow_empty];rfl⟩)
  (fun x y h1 h2 h3=>Agr ha x y h1 h2 h3)
 simp only[Bool.not_not]at hS;rw[Aeq ha]at hS;have hle:=Qo k es;have d1:=hx1.cell 0;have d2:=hx2.cell 0;have l1:=hx1.lt;have l2:=hx2.lt;obtain⟨HS,Hbi,Hx1,Hx2,H⟩:=hid5 hS hbi hx1 hx2 h;clear hS hbi hx1 hx2 h;go_enter Tryz.func89,Tryz.ntmps89;go_upto_region 1 with(fail);clear hwi;go_wp2_with (fail);(with_reducible refine(HS.out).mono ?_);rintro e w1 ⟨rfl,q,os,rfl⟩;have hb1:=No wi q os;generalize grow (wi.drewN q) os=w1 at hb1 ⊢;have hw1:=Hbi.out.trans (hb1.mono Hbi.out.size);have hx1':=Hx1.out.below hb1 l1;have hx2':=Hx2.out.below hb1 l2;clear d1 d2;have d1:=hx1'.cell 0;have d2:=hx2'.cell 0;have l3:=hx1'.lt;have l4:=hx2'.lt;have HD:=qz (hw1.trans ((Below.drew (Below.refl _ w1)).mono hw1.size));clear hx1' hx2' hb1 Hx1 Hx2 l1 l2;by_cases hlt:Cy k es<es.length
 . obtain⟨e1,he1⟩: ∃p,es[Cy k es]? =some p:=⟨_,List.getElem?_eq_getElem hlt⟩;have hh:Bm k es=(e1.1.toList==k.toList):=by unfold Bm;rw[he1];rfl
   rw[hh]at hF;have HF:=qz hF;clear hF;obtain⟨g,off,rfl,hg,u1,u2,u3,u4,u5,u6,_,r1⟩:=Ds (H.out.below hw1) he1;have s1:=r1 0 _ rfl;simp only[Nat.add_zero]at s1;have y1:(Cy k es:Int)<(es.length:Int):=by omega
   have y2:(0:Int)<=(Cy k es:Int):=by omega
   generalize Cy k es=P at HF hlt s1 y1 y2 ⊢;clear r1 he1 hh H hw1;go_upto_region 2 with(fail);refine wp_region_held_drew (S:=fun Y:World=>Y.cell? ⟨w.heap.size,0,none⟩=some (.slice (some ⟨g,off,none⟩) es.length c)/\Y.cell? ⟨w.heap.size+1,0,none⟩=some (.string k)/\Y.cell? ⟨g,off+P*7,none⟩=some (.string e1.1)) (by kernel_rfl) ⟨d1,d2,s1⟩ (fun hHeld=> ?_);refine tkH 0 hHeld ?_;refine tkH 1 hHeld ?_;refine tkH 2 hHeld ?_;refine tkH 3 hHeld ?_;refine tkH 4 hHeld ?_;refine tkH 5 hHeld ?_;refine tkH 6 hHeld ?_;refine tkH 7 hHeld ?_;refine tkH 8 hHeld ?_;refine tkH 9 hHeld ?_;refine tkH 10 hHeld ?_;refine tkH 11 hHeld ?_;refine tkH 12 hHeld ?_;refine tkH 13 hHeld ?_;refine tkH 14 hHeld ?_;refine tkH 15 hHeld ?_;refine wpAnyH_done (by kernel_rfl) ?_ _;clear hHeld;go_wp2;exact HF.out _ HD.out
 . have hh:Bm k es=false:=by unfold Bm;rw[List.getElem?_eq_none (by omega)];rfl
   rw[hh]at hF;have HF:=qz hF;clear hF;have y1: ¬((Cy k es:Int)<(es.length:Int)):=by omega
   have y2:decide (Cy k es<es.length)=false:=decide_eq_false hlt;generalize Cy k es=P at HF y1 y2 ⊢;clear hh H hw1;go_upto_region 2 with(fail);refine wp_region_held_drew (S:=fun Y:World=>Y.cell? ⟨w.heap.size,0,none⟩=some (.slice a es.length c)/\Y.cell? ⟨w.heap.size+1,0,none⟩=some (.string k)) (by kernel_rfl) ⟨d1,d2⟩ (fun hHeld=> ?_);refine tkH 0 hHeld ?_;refine tkH 1 hHeld ?_;refine tkH 2 hHeld ?_;refine tkH 3 hHeld ?_;refine tkH 4 hHeld ?_;refine tkH 5 hHeld ?_;refine tkN 6 hHeld ?_;refine tkN 7 hHeld ?_;refine tkN 8 hHeld ?_;refine tkN 9 hHeld ?_;refine tkN 10 hHeld ?_;refine tkN 11 hHeld ?_;refine tkN 12 hHeld ?_;refine tkH 13 hHeld ?_;refine tkH 14 hHeld ?_;refine tkH 15 hHeld ?_;refine wpAnyH_done (by kernel_rfl) ?_ _;clear hHeld;go_wp2;exact HF.out _ HD.out
theorem Ai1 (x y:List UInt8):(!Op.bytesLess x y&& !x==y)=Op.bytesLess y x:=by
 have key: ∀{x y:List UInt8},Op.bytesLess x y=true->Op.bytesLess y x=false:=fun {x y} h=>by
  cases e:Op.bytesLess y x with
  |false=>rfl
  |true=>have:=K8 h e;rw[El]at this;cases this
 rcases Up x y with h|rfl|h
 . rw[h,key h];rfl
 . rw[El];simp
 . have hne:(x==y)=false:=beq_eq_false_iff_ne.2 fun e=>by
    subst e;rw[El]at h
    cases h
   rw[h,key h,hne];rfl
theorem Xz: ∀{ks:List Nd},Az (Ap ks)->(∀k ∈ ks,A6 k≠ [])->ks.Pairwise fun a b=>Bn (Ao a) (Ao b)=true
 | [],_,_=>List.Pairwise.nil
 |k::r,ha,hne=>by
  simp only[Ap]at ha;obtain⟨_,a2,a3⟩:=List.pairwise_append.1 ha;refine List.pairwise_cons.2 ⟨fun x hx=> ?_,Xz a2 fun y hy=>hne y (by simp[hy])⟩;obtain⟨v,t,e⟩:=Fp (hne k (by simp));obtain⟨v',t',e'⟩:=Fp (hne x (by simp[hx]));exact a3 (Ao k,v) (by rw[e];simp) (Ao x,v') (Ag1 hx _ (by rw[e'];simp))
theorem Ts {k:ByteArray} {ks:List Nd} (ha:Az (Ap ks)) (hne: ∀k ∈ ks,A6 k≠ []):ks.Pairwise fun a b=>Bn k (Ao a)=true->Bn k (Ao b)=true:=
 (Xz ha hne).imp fun h h'=>Bw h' h
theorem Acp {k:ByteArray} {ks:List Nd} (ha:Az (Ap ks)) (hne: ∀k ∈ ks,A6 k≠ []):(List.range ks.length).countP (fun i=> !((ks[i]?.map fun n=>Bn k (Ao n)).getD false))=ks.findIdx fun n=>Bn k (Ao n):=by
 refine Eq.trans ?_ (Mt _ (Ts ha hne));refine Eq.trans ?_ (Mc _ _);refine List.countP_congr fun i hi=> ?_;have:i<ks.length:=List.mem_range.1 hi;rw[List.getElem?_eq_getElem this];simp
theorem Afg {k:ByteArray} {ks:List Nd} (ha:Az (Ap ks)) (hne: ∀k ∈ ks,A6 k≠ []) (x y:Nat) (hxy:x<=y) (hy:y<ks.length) (h:((ks[x]?.map fun n=>Bn k (Ao n)).getD false)=true):((ks[y]?.map fun n=>Bn k (Ao n)).getD false)=true:=by
 rcases Nat.lt_or_ge x y with hlt|hge
 . have:=List.pairwise_iff_getElem.1 (Ts (k:=k) ha hne) x y (by omega) hy hlt;rw[List.getElem?_eq_getElem (by omega)]at h;rw[List.getElem?_eq_getElem hy];exact this h
 . obtain rfl:x=y:=by omega
   exact h
theorem S8 (ks:List Nd) (bs:List Nat) (k:ByteArray) (a:Option Addr) (n c b1 b2 i B:Nat) (hi:i<ks.length) (_:ks.length<=1000) (w:World) (h:Ae w B (.row 1 (Ar bs)) [.slice a n c]) (hk:Ay w B ks bs) (h1:w.cell? ⟨b1,0,none⟩=some (.slice a n c)) (h2:w.cell? ⟨b2,0,none⟩=some (.string k)):
 Calls Tryz.prog 155 #[.int .i64 i,.pointer (some ⟨b1,0,none⟩),.pointer (some ⟨b2,0,none⟩)] w fun e w'=>e=.returned (.bool ((ks[i]?.map fun n=>Bn k (Ao n)).getD false))/\w'=w.drew:=by
 have hl:=h.row_len;rw[Av,hk.len]at hl;subst hl;obtain⟨n1,hn1⟩: ∃p,ks[i]? =some p:=⟨_,List.getElem?_eq_getElem hi⟩;obtain⟨p1,hp1,hN⟩:=hk.at_ hn1;obtain⟨g,off,rfl,hg,s1⟩:=Ik h hp1;have hD:=Below.drew (Below.refl B w);have hF:=N4 (hN.below hD);have y1:(i:Int)<(ks.length:Int):=by omega
 have y2:(0:Int)<=i:=by omega
 have hR:((ks[i]?.map fun n=>Bn k (Ao n)).getD false)=Op.bytesLess k.toList (Ao n1).toList:=by rw[hn1];rfl
 rw[hR,<-Ai1];generalize Ao n1=f1 at hF ⊢;have hSS:(fun Y:World=>Y.cell? ⟨b1,0,none⟩=some (.slice (some ⟨g,off,none⟩) ks.length c)/\Y.cell? ⟨b2,0,none⟩=some (.string k)/\Y.cell? ⟨g,off+i,none⟩=some (.pointer (some ⟨p1,0,none⟩))) w.drew:=⟨h1,h2,s1⟩;have HF:=qz hF;clear hF;clear hn1 hp1 hR h h1 h2 s1 hk hN hD;go_enter Tryz.func155,Tryz.ntmps155;go_upto_region 1 with(fail);refine wp_region_held_drew (S:=fun Y=>Y.cell? ⟨b1,0,none⟩=some (.slice (some ⟨g,off,none⟩) ks.length c)/\Y.cell? ⟨b2,0,none⟩=some (.string k)/\Y.cell? ⟨g,off+i,none⟩=some (.pointer (some ⟨p1,0,none⟩))) (by kernel_rfl) hSS (fun hHeld=> ?_);refine tkH 0 hHeld ?_;refine tkH 1 hHeld ?_;refine tkH 2 hHeld ?_;refine tkH 3 hHeld ?_;refine tkH 5 hHeld ?_;refine C4 4 fun K hK=> ?_;go_simp;(with_reducible refine(HF.out).mono ?_);rintro e w1 ⟨rfl,rfl⟩;refine hK.out _ _ hHeld (fun hHeld=> ?_);clear hK K
 try simp only[Act.put,tk1,tk2,tk3,tk4,tk5,tk6]
 refine tkH 6 hHeld ?_;refine tkH 7 hHeld ?_;refine wpAnyH_done (by kernel_rfl) ?_ _;clear hHeld hSS;go_wp2;go_ret;exact⟨rfl,rfl⟩
theorem Og (ks:List Nd) (bs:List Nat) (k:ByteArray) (a:Option Addr) (n c:Nat) (w:World) (h:Ae w w.heap.size (.row 1 (Ar bs)) [.slice a n c]) (hk:Ay w w.heap.size ks bs) (ha:Az (Ap ks)) (hne: ∀k ∈ ks,A6 k≠ []) (hn:ks.length<=1000):
 Calls Tryz.prog 93 #[.slice a n c,.string k] w fun e w'=>e=.returned (.int .i64 (Ai ks k))/\Below w.heap.size w w':=by
 obtain⟨PO,hPO⟩: ∃P:Ending->World->Prop,(fun e w'=>e=.returned (.int .i64 (Ai ks k))/\Below w.heap.size w w')=P:=⟨_,rfl⟩;rw[hPO];have hF: ∀W,Below w.heap.size w W->PO (.returned (.int .i64 (Ai ks k))) W:=fun W hB=>by
  rw[<-hPO];exact⟨rfl,hB⟩
 clear hPO;have hl:=h.row_len;rw[Av,hk.len]at hl;subst hl;obtain⟨wi,hwi⟩: ∃wi,(w.alloc (.cells #[.slice a ks.length c] 111)).alloc (.cells #[.string k] 9)=wi:=⟨_,rfl⟩;have hbi:Below w.heap.size w wi:=hwi▸((Aa w (.cells #[.slice a ks.length c] 111)).alloc (by simp) _);have hx1:Ah wi w.heap.size 111 #[.slice a ks.length c]:=hwi▸(Ah.new _ _ _).alloc _;have hx2:Ah wi (w.heap.size+1) 9 #[.string k]:=by
  have:=Ah.new (w.alloc (.cells #[.slice a ks.length c] 111)) 9 #[.string k]
  rwa [World.size_alloc,hwi]at this
 have hS:=Tryz.sort_Search 155 #[.pointer (some ⟨w.heap.size,0,none⟩),.pointer (some ⟨w.heap.size+1,0,none⟩)] ks.length (fun i=>(ks[i]?.map fun n=>Bn k (Ao n)).getD false) wi (fun _ _=>by kernel_rfl) (by omega)
  (fun m os i hi=>by
    have hB:=No wi m os;refine(S8 ks bs k a ks.length c w.heap.size (w.heap.size+1) i w.heap.size hi hn (grow (wi.drewN m) os) (h.below (hbi.trans (hB.mono hbi.size))) (hk.below (hbi.trans (hB.mono hbi.size))) ((hB.cell (p:=⟨w.heap.size,0,none⟩) hx1.lt).trans (hx1.cell 0)) ((hB.cell (p:=⟨w.heap.size+1,0,none⟩) hx2.lt).trans (hx2.cell 0))).mono ?_;rintro e w' ⟨rfl,rfl⟩;exact⟨rfl,1, #[],by rw[grow_empty];rfl⟩)
  (fun x y h1 h2 h3=>Afg ha hne x y h1 h2 h3)
 rw[Acp ha hne]at hS;have hle:ks.findIdx (fun n=>Bn k (Ao n))<=ks.length:=List.findIdx_le_length;have hW:Ai ks k=ks.findIdx (fun n=>Bn k (Ao n)) - 1:=rfl;rw[hW]at hF;generalize ks.findIdx (fun n=>Bn k (Ao n))=P at hS hF hle;have d1:=hx1.cell 0;have d2:=hx2.cell 0;have l1:=hx1.lt;have l2:=hx2.lt;have hwr:IntKind.i64.wrap ((P:Int) - 1)=(P:Int) - 1:=IntWalk.i64_in _ (by omega);have hmx:((P - 1:Nat):Int)=max ((P:Int) - 1) 0:=by omega
 rw[hmx]at hF;obtain⟨HS,Hbi,H,HF⟩:=hid4 hS hbi h hF;clear hS hbi h hF;clear hx1 hx2 hW hmx;go_enter Tryz.func93,Tryz.ntmps93;go_upto_region 1 with(fail);clear hwi;go_wp2_with (fail);(with_reducible refine(HS.out).mono ?_);rintro e w1 ⟨rfl,q,os,rfl⟩;have HB:=qz (Hbi.out.trans ((No wi q os).mono Hbi.out.size));go_wp2;exact HF.out _ HB.out
end Go.Proofs.YtnkmhaachfgaoaaGreatDoor
namespace Go.Proofs.YtnkmhaachfgaoaaGreatDoor
open Go Go.RowKit
theorem Al.slice_cap {S0:Nat->Prop} {b s:Nat} {t:TypeId} {wr:World} {l:List D} {V:Value} (h:Al S0 b t s wr l V): ∃a c,V=.slice a l.length c/\l.length<=c:=by
 obtain⟨ns,h1,_⟩:=h;rcases h1.2 with⟨rfl,h0⟩|⟨g,cap,cur,rfl,_,_,hc,_⟩
 . exact⟨_,_,by rw[h0],by rw[h0];exact Nat.le_refl _⟩
 . exact⟨_,_,rfl,hc⟩
theorem Al.mono {S0 T0:Nat->Prop} {b s:Nat} {t:TypeId} {wr:World} {l:List D} {V:Value} (h:Al S0 b t s wr l V) (hST: ∀i,S0 i->T0 i):Al T0 b t s wr l V:=by
 obtain⟨ns,h1,h2,h3⟩:=h;exact⟨ns,h1,h2,fun w'' k1 k2=>h3 w'' k1 fun p p1 p2=>k2 p ⟨hST _ p1.1,p1.2⟩ p2⟩
theorem Al.blk {S0:Nat->Prop} {b s g n c:Nat} {t:TypeId} {wr:World} {l:List D} (h:Al S0 b t s wr l (.slice (some ⟨g,0,none⟩) n c)): ∃cur,Ah wr g t cur:=by
 obtain⟨ns,h1,_⟩:=h;rcases h1.2 with⟨e,h0⟩|⟨g',cap,cur,e,_,hg,_⟩
 . cases e
 . cases e
   exact⟨cur,hg⟩
theorem Aid (es:List Ax) (i:Nat) (e:Ax):dO (es.set i e)=(dO es).set i (dP e):=by rw[Bi,Bi,List.map_set]
theorem Aic (es:List Ax) (i:Nat) (e:Ax):dO (es.take i++ [e]++es.drop i)=(dO es).take i++ [dP e]++(dO es).drop i:=by
 rw[Bi,Bi,List.map_append,List.map_append,List.map_take,List.map_drop];rfl
theorem Nr {w:World} {B:Nat} {k:ByteArray} {v:Val} {cs:List Value} (h:Ae w B (dV v) cs):Ae w B (dP (k,v)) (.string k::cs):=⟨[.string k],cs,rfl,⟨rfl,rfl⟩,cs, [],by simp,h,rfl⟩
theorem M8 {w:World} {B:Nat} {v:Val} {c0 c1 c2 c3 c4 c5:Value} (h:Ae w B (dV v) [c0,c1,c2,c3,c4,c5]): ∃k' b' n' t' la ln lc oa on oc,c0=.int .i64 k'/\c1=.bool b'/\c2=.int .i64 n'/\c3=.string t'/\c4=.slice la ln lc/\c5=.slice oa on oc:=by
 obtain⟨k,b,n,t,l,o⟩:=v;have h1:=Bp _ _ h;simp only[Ab]at h1;obtain⟨la,lc,oa,oc,e,_,_⟩:=h1;simp only[Dk,List.cons.injEq,and_true]at e;obtain⟨rfl,rfl,rfl,rfl,rfl,rfl⟩:=e;exact⟨_,_,_,_,_,_,_,_,_,_,rfl,rfl,rfl,rfl,rfl,rfl⟩
theorem Vt (S:Nat->Prop) (es:List Ax) (b:Nat) (k:ByteArray) (v:Val) (c0 c1 c2 c3 c4 c5:Value) (w:World) (h:By w w.heap.size (.leaf es) b) (h1:1<=es.length) (h8:es.length<=8) (ha:Az es) (hv:Ae w w.heap.size (dV v) [c0,c1,c2,c3,c4,c5]) (hb:Ac es+Ac [(k,v)]<=100000000):
 Calls Tryz.prog 57 #[.pointer (some ⟨b,0,none⟩),.agg #[.string k,c0,c1,c2,c3,c4,c5]] w (SP S (Gc (Bz k v es)) w):=by
 obtain⟨k',b',n',t',la,ln,lc,oa,on,oc,rfl,rfl,rfl,rfl,rfl,rfl⟩:=M8 hv;obtain⟨PO,hPO⟩: ∃P:Ending->World->Prop,SP S (Gc (Bz k v es)) w=P:=⟨_,rfl⟩;rw[hPO];obtain⟨wi,hwi⟩: ∃wi,w.alloc (.cells #[.string k,.int .i64 k',(.bool b'),(.int .i64 n'),(.string t'),(.slice la ln lc),(.slice oa on oc)] 71)=wi:=⟨_,rfl⟩;have hbi:Below w.heap.size w wi:=hwi▸Aa _ _;have Hxi:Hid (Ah wi w.heap.size 71 #[.string k,.int .i64 k',(.bool b'),(.int .i64 n'),(.string t'),(.slice la ln lc),(.slice oa on oc)]):=hwi▸Ah.new _ _ _;have hsz:wi.heap.size=w.heap.size+1:=by rw[<-hwi];simp
 have hHt:=Cl (h.below hbi);rw[show I8 (.leaf es)=0 from by simp[I8]]at hHt;have HEn:=qz (Ft (h.later hbi) (by omega) (by omega:Ac es<=100000000));have hlen:=Im (k:=k) (v:=v) es;have hasc:=Jx (k:=k) (v:=v) ha;have hbk:=Kc k v es;have hSp: ∀(W:World) (V':Value),Below w.heap.size w W->Al (fun _=>True) wi.heap.size 71 7 W (dO (Bz k v es)) V'->Calls Tryz.prog 91 #[V',.func (.func 92) #[] #[]] W (SP S (Gc (Bz k v es)) W):=fun W V' hB hR=>by
  obtain⟨a,c,rfl,hc⟩:=hR.slice_cap;exact Mk S (Bz k v es) a _ c W hR.close hasc (by omega) hc (by omega)
 have hle:=Qo k es;have Hvi:=qz (Nr (k:=k) hv);obtain⟨HHt,Hbi,HPO,HSp,H⟩:=hid5 hHt hbi hPO hSp h;clear hHt hbi hPO hSp h;go_enter Tryz.func57,Tryz.ntmps57;go_upto_region 1 with(fail);go_wp2_with (fail);(with_reducible refine(HHt.out).mono ?_);rintro e w1 ⟨rfl,rfl⟩;go_wp2_with (fail);(with_reducible refine(HEn.out).mono ?_);rintro e w1 ⟨hb1,g,rfl,hR⟩;have Hbw1:=qz (Hbi.out.trans (hb1.mono Hbi.out.size));have hx1:=Hxi.out.below hb1 Hxi.out.lt;have HPl:=qz (Hu es k (some ⟨g,0,none⟩) es.length es.length w1 hR.close ha (by omega));have hg1:=hR.base g rfl;have d0:=hx1.cell 0;have lx:=hx1.lt;obtain⟨Hx1,HR⟩:=hid2 hx1 hR;clear hx1 hR;clear hb1;go_wp2_with (fail);(with_reducible refine(HPl.out).mono ?_);rintro e w2 ⟨rfl,hb2⟩;have hbw2:=Hbw1.out.trans (hb2.mono Hbw1.out.size);have hx2:=Hx1.out.below hb2 lx;have hR2:=(HR.out.below hb2).mono (T0:=fun _=>True) (fun _ _=>trivial);obtain⟨cur,hbg⟩:=hR2.blk;clear d0 lx hb2;have d0:=hx2.cell 0;have d1:=hx2.cell 1;have d2:=hx2.cell 2;have d3:=hx2.cell 3;have d4:=hx2.cell 4;have d5:=hx2.cell 5;have d6:=hx2.cell 6;have lx:=hx2.lt;have lg:=hbg.lt;have hxP:=Ag.of_old Hvi.out (Nat.le_refl _) hbw2;by_cases hh:Bm k es=true
 . have hlt:Cy k es<es.length:=by
    rcases Nat.lt_or_ge (Cy k es) es.length with h|h
    . exact h
    . unfold Bm at hh;rw[List.getElem?_eq_none h]at hh;simp at hh
   have ep:Bz k v es=es.set (Cy k es) (k,v):=by rw[Ob,if_pos hh]
   rw[hh];generalize Cy k es=P at hlt ep hle ⊢;obtain⟨ev,he⟩: ∃p,es[P]? =some p:=⟨_,List.getElem?_eq_getElem hlt⟩;obtain⟨g',off,e',_,u1,u2,u3,u4,u5,u6,_,r1⟩:=Ds hR2.close he
   cases e'
   have s0:=r1 0 _ rfl;have s1:=r1 1 _ rfl;have s2:=r1 2 _ rfl;have s3:=r1 3 _ rfl;have s4:=r1 4 _ rfl;have s5:=r1 5 _ rfl;have s6:=r1 6 _ rfl;simp only[Nat.zero_add,Nat.add_zero]at s0 s1 s2 s3 s4 s5 s6;have fz:=hbg.frozen;have y1:(P:Int)<(es.length:Int):=by omega
   have y2:(0:Int)<=(P:Int):=by omega
   have hB5:Below w.heap.size w ((((((((w2).setCell ⟨g,P*7,none⟩ (.string k)).setCell ⟨g,P*7+1,none⟩ (.int .i64 k')).setCell ⟨g,P*7+2,none⟩ (.bool b')).setCell ⟨g,P*7+3,none⟩ (.int .i64 n')).setCell ⟨g,P*7+4,none⟩ (.string t')).setCell ⟨g,P*7+5,none⟩ (.slice la ln lc)).setCell ⟨g,P*7+6,none⟩ (.slice oa on oc)):=Bl [.string k,.int .i64 k',(.bool b'),(.int .i64 n'),(.string t'),(.slice la ln lc),(.slice oa on oc)] hbw2 (by omega) (o:=P*7);have hx7:Ag (fun i=>True/\g≠i) w2 (dP (k,v)) [.string k,.int .i64 k',(.bool b'),(.int .i64 n'),(.string t'),(.slice la ln lc),(.slice oa on oc)]:=hxP.mono fun i _ hi=>⟨trivial,by omega⟩;have h7:=hR2.put (i:=P) (d:=dP (k,v)) (ys:= [.string k,.int .i64 k',(.bool b'),(.int .i64 n'),(.string t'),(.slice la ln lc),(.slice oa on oc)]) (by rw[At];exact hlt) (Dr _) hx7;clear hx7;have hR5:Al (fun _=>True) wi.heap.size 71 7 ((((((((w2).setCell ⟨g,P*7,none⟩ (.string k)).setCell ⟨g,P*7+1,none⟩ (.int .i64 k')).setCell ⟨g,P*7+2,none⟩ (.bool b')).setCell ⟨g,P*7+3,none⟩ (.int .i64 n')).setCell ⟨g,P*7+4,none⟩ (.string t')).setCell ⟨g,P*7+5,none⟩ (.slice la ln lc)).setCell ⟨g,P*7+6,none⟩ (.slice oa on oc)) (dO (Bz k v es)) (.slice (some ⟨g,0,none⟩) es.length es.length):=by
    rw[ep,Aid];exact h7
   obtain⟨HB5,HR5⟩:=hid2 hB5 hR5;clear hB5 hR5;clear h7;clear r1 he hbg hR2 hx2 hbw2 hxP HR HPl Hx1 Hbw1 Hxi Hbi;go_upto_region 7 with(fail);generalize (((((((w2).setCell ⟨g,P*7,none⟩ (.string k)).setCell ⟨g,P*7+1,none⟩ (.int .i64 k')).setCell ⟨g,P*7+2,none⟩ (.bool b')).setCell ⟨g,P*7+3,none⟩ (.int .i64 n')).setCell ⟨g,P*7+4,none⟩ (.string t')).setCell ⟨g,P*7+5,none⟩ (.slice la ln lc)).setCell ⟨g,P*7+6,none⟩ (.slice oa on oc)=w5 at HB5 HR5 ⊢;clear s0 s1 s2 s3 s4 s5 s6 d0 d1 d2 d3 d4 d5 d6 fz lx lg;go_wp2_with (fail);(with_reducible refine(HSp.out _ _ HB5.out HR5.out).mono ?_);rintro e w6 ⟨hb6,b6,q6,rfl,hN,hO⟩;have HP:Hid (PO (.returned (.tuple #[.pointer (some ⟨b6,0,none⟩),.pointer q6])) w6):=by
    show PO _ _;rw[<-HPO.out];exact⟨HB5.out.trans (hb6.mono HB5.out.size),b6,q6,rfl,hN.mono (Ej HB5.out.size),hO.mono (Ej HB5.out.size)⟩
   clear hb6 hN hO;go_wp2;exact HP.out
 . have hf:Bm k es=false:=by simpa using hh
   have ep:Bz k v es=es.take (Cy k es)++ [(k,v)]++es.drop (Cy k es):=by rw[Ob,if_neg hh]
   rw[hf];generalize Cy k es=P at ep hle ⊢;have hb3:=Aa w2 (.cells #[.string k,.int .i64 k',(.bool b'),(.int .i64 n'),(.string t'),(.slice la ln lc),(.slice oa on oc)] 71);have hb23:=hbw2.alloc hbw2.size (.cells #[.string k,.int .i64 k',(.bool b'),(.int .i64 n'),(.string t'),(.slice la ln lc),(.slice oa on oc)] 71);have hx3:=Ah.new w2 71 #[.string k,.int .i64 k',(.bool b'),(.int .i64 n'),(.string t'),(.slice la ln lc),(.slice oa on oc)];have hR3:=hR2.below hb3;have hxP3:=Ag.of_old Hvi.out (Nat.le_refl _) hb23;have hI:=Xv wi.heap.size (w2.alloc (.cells #[.string k,.int .i64 k',(.bool b'),(.int .i64 n'),(.string t'),(.slice la ln lc),(.slice oa on oc)] 71)) g (P) w2.heap.size es (dP (k,v)) (.string k:: [(.int .i64 k'),(.bool b'),(.int .i64 n'),(.string t'),(.slice la ln lc),(.slice oa on oc)]) hR3 (by have:=hb23.size;simp at this ⊢;omega) hle (by omega) (Dr _) (hxP3.mono fun i _ hi=>⟨trivial,fun e=>by have:=Option.some.inj e;simp only at this;omega⟩) (fun j u hj=>(hx3.cell j).trans (by rw[<-Array.getElem?_toList];exact hj));rw[<-Aic,<-ep]at hI;obtain⟨HI,Hb23⟩:=hid2 hI hb23;clear hI hb23;clear hb3 hx3 hR3 hxP3 hbg hR2 hx2 hbw2 hxP HR HPl Hx1 Hbw1 Hxi Hbi;go_wp2_with (fail);(with_reducible refine(HI.out).mono ?_);rintro e w5 ⟨V',rfl,hR5,hg5⟩;have HB5:=qz (Hb23.out.grown hg5 Hb23.out.size (fun k hk=>by have:=Option.some.inj hk;omega));have HR5:=qz hR5;clear hR5 hg5 d0 d1 d2 d3 d4 d5 d6 lx lg HI;go_wp2_with (fail);(with_reducible refine(HSp.out _ _ HB5.out HR5.out).mono ?_);rintro e w6 ⟨hb6,b6,q6,rfl,hN,hO⟩;have HP:Hid (PO (.returned (.tuple #[.pointer (some ⟨b6,0,none⟩),.pointer q6])) w6):=by
    show PO _ _;rw[<-HPO.out];exact⟨HB5.out.trans (hb6.mono HB5.out.size),b6,q6,rfl,hN.mono (Ej HB5.out.size),hO.mono (Ej HB5.out.size)⟩
   clear hb6 hN hO;go_wp2;exact HP.out
theorem Uy {k a:ByteArray} {x:Val} {r:List Ax} (h: ¬Bn a k=true):Bm k ((a,x)::r)=(a.toList==k.toList)/\Cy k ((a,x)::r)=0:=by
 have e:Cy k ((a,x)::r)=0:=by simp only[Cy,if_neg h]
 refine⟨?_,e⟩;unfold Bm;rw[e];rfl
theorem Tu (k:ByteArray) (l:List Ax) (M:Nat) (a:Option Addr) (n c:Nat) (w:World) (hM:w.cell? ⟨M,0,none⟩=some (.slice a n c)) (h:Ae w w.heap.size (.row 7 (dO l)) [.slice a n c]) (hl:l.length<=100000000):
 Calls Tryz.prog 72 #[.pointer (some ⟨M,0,none⟩),.string k] w fun e w'=>e=.returned (.tuple #[.int .i64 (Cy k l),.bool (Bm k l)])/\Below w.heap.size w w':=by
 obtain⟨PO,hPO⟩: ∃P:Ending->World->Prop,(fun e w'=>e=.returned (.tuple #[.int .i64 (Cy k l),.bool (Bm k l)])/\Below w.heap.size w w')=P:=⟨_,rfl⟩;rw[hPO];have hn:=h.row_len;rw[At]at hn;subst hn;have lM:M<w.heap.size:=World.block_lt_of_cell? w _ hM;have H0:Hid (Cy k l=0+Cy k (l.drop 0)/\Bm k l=Bm k (l.drop 0)):=⟨by simp,by simp⟩;obtain⟨H,HPO⟩:=hid2 h hPO;clear h hPO;go_enter Tryz.func72,Tryz.ntmps72;go_wp2_with (fail);go_loopw [6] (fun i wr=> ∃q:Nat,i=.int .i64 q/\q<=l.length/\wr=w/\Hid (Cy k l=q+Cy k (l.drop q)/\Bm k l=Bm k (l.drop q))) (fun i _=>l.length - (intOf i).toNat)
 case atStart=>exact⟨0,rfl,Nat.zero_le _,rfl,H0⟩
 case round=>
  obtain⟨q,rfl,hq,hwr,hI⟩:=hrel;obtain rfl:=hwr.symm;clear H0;by_cases hlt:q<l.length
  . obtain⟨⟨key,v⟩,hx⟩: ∃v,l[q]? =some v:=⟨_,List.getElem?_eq_getElem hlt⟩;obtain⟨g,off,rfl,hg,u1,u2,u3,u4,u5,u6,_,r1⟩:=Ds H.out hx;have s0:=r1 0 _ rfl;simp only[Nat.add_zero]at s0;have hdr:l.drop q=(key,v)::l.drop (q+1):=by
     rw[List.drop_eq_getElem_cons hlt];have h:=List.getElem?_eq_getElem hlt;rw[hx]at h;rw[<-Option.some.inj h]
    have q1:(q:Int)<(l.length:Int):=by omega
    have q0:(0:Int)<=q:=by omega
    by_cases hk:Bn key k=true
    . have hk':Op.bytesLess key.toList k.toList=true:=hk;obtain⟨e1,e2⟩:=Nv (x:=v) (r:=l.drop (q+1)) hk;have HN:Hid (Cy k l=(q+1:Nat)+Cy k (l.drop (q+1))/\Bm k l=Bm k (l.drop (q+1))):=by
       obtain⟨i1,i2⟩:=hI.out;rw[hdr,e2]at i1;rw[hdr,e1]at i2;exact⟨by omega,i2⟩
      clear hI hdr e1 e2 r1;go_wp2;go_roundw
      case rel=>exact⟨q+1,by go_num,by omega,trivial,HN⟩
      case measure=>simp only[intOf];omega
    . have hk':Op.bytesLess key.toList k.toList=false:=Bool.eq_false_iff.2 hk;obtain⟨e1,e2⟩:=Uy (x:=v) (r:=l.drop (q+1)) hk;have HP:Hid (PO (.returned (.tuple #[.int .i64 q,.bool (key.toList==k.toList)])) w.drew):=by
       show PO _ _;rw[<-HPO.out];obtain⟨i1,i2⟩:=hI.out;rw[hdr,e2]at i1;rw[hdr,e1]at i2;rw[i1,i2];exact⟨rfl,Below.drew (Below.refl _ _)⟩
      clear hI hdr e1 e2 r1;go_upto_region 5 with(fail);refine wp_region_held_drew (S:=fun Y:World=>Y.cell? ⟨M,0,none⟩=some (.slice (some ⟨g,off,none⟩) l.length c)/\Y.cell? ⟨g,off+q*7,none⟩=some (.string key)) (by kernel_rfl) ⟨hM,s0⟩ (fun hHeld=> ?_);refine tkH 0 hHeld ?_;refine tkH 1 hHeld ?_;refine tkH 2 hHeld ?_;refine tkH 3 hHeld ?_;refine tkH 4 hHeld ?_;refine tkH 5 hHeld ?_;refine tkH 6 hHeld ?_;refine tkH 7 hHeld ?_;refine tkH 8 hHeld ?_;refine tkH 9 hHeld ?_;refine tkH 10 hHeld ?_;refine tkH 11 hHeld ?_;refine tkH 12 hHeld ?_;refine wpAnyH_done (by kernel_rfl) ?_ _;clear hHeld;go_wp2;exact HP.out
  . obtain rfl:q=l.length:=by omega
    have HP:Hid (PO (.returned (.tuple #[.int .i64 l.length,.bool false])) w):=by
     show PO _ _;rw[<-HPO.out];obtain⟨i1,i2⟩:=hI.out;rw[List.drop_length]at i1 i2;rw[i1,i2];exact⟨by simp[Cy,Bm],Below.refl _ _⟩
    have q1: ¬(l.length:Int)<(l.length:Int):=by omega
    clear hI;go_wp2;exact HP.out
end Go.Proofs.YtnkmhaachfgaoaaGreatDoor
