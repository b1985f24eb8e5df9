/- Parts: tree.leaf, tree.inner, tree.split. Condition: 1 to 9 entries or kids, rising. -/
import Derived.Test.YtdbejcbbhomdbaaGreatDoorKPu13
set_option maxHeartbeats 20000000
set_option maxRecDepth 100000
namespace Go.Proofs.YtdbejcbbhomdbaaGreatDoor
open Go Go.RowKit
def NP (S:Nat->Prop) (nd:Nd) (w:World) (e:Ending) (w':World):Prop:=Below w.heap.size w w'/\ ∃b,e=.returned (.pointer (some ⟨b,0,none⟩))/\Bl (fun i=>S i\/w.heap.size<=i) w' nd b
def L9 (S:Nat->Prop) (w:World):Option Nd->Option Addr->Prop
 |none,p=>p=none
 |some n,p=> ∃b,p=some ⟨b,0,none⟩/\Bl S w n b
theorem L9.below {S:Nat->Prop} {w w':World} {t:Option Nd} {p:Option Addr} (h:L9 S w t p) (hb:Below w.heap.size w w'):L9 S w' t p:=by
 cases t with
 |none=>exact h
 |some t=>
  obtain⟨b,e,h1⟩:=h;exact⟨b,e,h1.below hb⟩
theorem L9.mono {S T:Nat->Prop} {w:World} {t:Option Nd} {p:Option Addr} (h:L9 S w t p) (hST: ∀i,i<w.heap.size->S i->T i):L9 T w t p:=by
 cases t with
 |none=>exact h
 |some t=>
  obtain⟨b,e,h1⟩:=h;exact⟨b,e,h1.mono hST⟩
theorem Dn {S:Nat->Prop} {w w1:World} {N:Nat} (h:w.heap.size<=w1.heap.size): ∀(i:Nat),i<N->(S i\/w1.heap.size<=i)->(S i\/w.heap.size<=i):=fun _ _ hi=>hi.imp id fun h1=>Nat.le_trans h h1
def SP (S:Nat->Prop) (r:Nd×Option Nd) (w:World) (e:Ending) (w':World):Prop:=Below w.heap.size w w'/\ ∃b q,e=.returned (.tuple #[.pointer (some ⟨b,0,none⟩),.pointer q])/\Bl (fun i=>S i\/w.heap.size<=i) w' r.1 b/\L9 (fun i=>S i\/w.heap.size<=i) w' r.2 q
theorem Ic (S:Nat->Prop) (es:List A0) (a:Option Addr) (n c:Nat) (w:World) (h:Ai w w.heap.size (.row 7 (dO es)) [.slice a n c]) (ha:Bb es) (h8:es.length<=8) (hb:Af es<=100000000):Calls Tryz.prog 130 #[.slice a n c] w (NP S (.leaf es) w):=by
 have HC:=qz (Sa es a n c w h ha h8 hb);obtain⟨PO,hPO⟩: ∃P:Ending->World->Prop,NP S (.leaf es) w=P:=⟨_,rfl⟩;rw[hPO];have HPO:=qz hPO;clear hPO;clear h;go_enter Tryz.func130,Tryz.ntmps130;go_wp2_with (fail);(with_reducible refine(HC.out).mono ?_);rintro e w1 ⟨hb1,b,rfl,hN⟩;have HP:Hid (PO (.returned (.pointer (some ⟨b,0,none⟩))) w1):=by
  show PO _ _;rw[<-HPO.out];exact⟨hb1,b,rfl,hN.mono fun i _ hi=> .inr hi⟩
 clear hb1 hN;go_wp2;exact HP.out
theorem E9 (S:Nat->Prop) (T:Nat) (ks:List Nd) (bs:List Nat) (a:Option Addr) (n c:Nat) (w:World) (h:Ai w w.heap.size (.row 1 (Av bs)) [.slice a n c]) (hkS:Am S w ks bs) (ha:Bb (As ks)) (hok: ∀k ∈ ks,Ej 4 T k)
 (h1:1<=ks.length) (h8:ks.length<=8) (hH:T<=1000000) (hN:(As ks).length<=1000000000):Calls Tryz.prog 87 #[.slice a n c] w (NP S (Ey ks) w):=by
 have hk:=hkS.now;have hn:=h.row_len;rw[Ax,hk.len]at hn;subst hn;obtain⟨PO,hPO⟩: ∃P:Ending->World->Prop,NP S (Ey ks) w=P:=⟨_,rfl⟩;rw[hPO];by_cases h2:2<=ks.length
 . have hC:=P6 S T ks bs a ks.length c w h hkS ha hok h2 h8 hH hN;have hz:((ks.length:Int)==1)=false:=beq_eq_false_iff_ne.2 (by omega);have hz2:(ks.length==1)=false:=beq_eq_false_iff_ne.2 (by omega);have hz3: ¬ks.length=1:=by omega
   have He:=qz (Gm h2);obtain⟨HC,HPO⟩:=hid2 hC hPO;clear hC hPO;clear h hk hkS;go_enter Tryz.func87,Tryz.ntmps87;go_wp2_with (fail);(with_reducible refine(HC.out).mono ?_);rintro e w1 ⟨hb1,b,rfl,hN⟩;have HP:Hid (PO (.returned (.pointer (some ⟨b,0,none⟩))) w1):=by
    show PO _ _;rw[<-HPO.out,He.out];exact⟨hb1,b,rfl,hN⟩
   clear hb1 hN;go_wp2;exact HP.out
 . obtain⟨k,rfl⟩: ∃k,ks= [k]:=by
    match ks,h1,h2 with
    | [k],_,_=>exact⟨k,rfl⟩
    |x::y::r,_,h2=>exact absurd (by simp) h2
   obtain⟨b,hb,hN⟩:=hkS.at_ (i:=0) (k:=k) rfl;obtain⟨g,off,rfl,hg,hc⟩:=Fz h hb;rw[Nat.add_zero]at hc;have HP:Hid (PO (.returned (.pointer (some ⟨b,0,none⟩))) w):=by
    show PO _ _;rw[<-hPO];exact⟨Below.refl _ _,b,rfl,hN.mono fun i _ hi=> .inl hi⟩
   clear h hk hkS hb hN hPO;go_enter Tryz.func87,Tryz.ntmps87;go_wp2;exact HP.out
theorem Mc: ∀(a b:List A0),Af (a++b)=Af a+Af b
 | [],b=>by simp[Af]
 |x::r,b=>by simp[Af,Mc r b];omega
theorem Kr (l:List A0) (i:Nat):Af (l.take i)<=Af l/\Af (l.drop i)<=Af l:=by
 have:=Mc (l.take i) (l.drop i);rw[List.take_append_drop]at this;omega
theorem Jd (S:Nat->Prop) (es:List A0) (a:Option Addr) (n c:Nat) (w:World) (h:Ai w w.heap.size (.row 7 (dO es)) [.slice a n c]) (ha:Bb es) (h9:es.length<=9) (hcn:n<=c) (hb:Af es<=100000000):
 Calls Tryz.prog 129 #[.slice a n c,.func (.func 130) #[] #[]] w (SP S (Ee es) w):=by
 have hn:=h.row_len;rw[Az]at hn;subst hn;obtain⟨PO,hPO⟩: ∃P:Ending->World->Prop,SP S (Ee es) w=P:=⟨_,rfl⟩;rw[hPO];by_cases h8:es.length<=8
 . have hC:=Ic S es a es.length c w h ha h8 hb;have y8:(es.length:Int)<=8:=by omega
   have He:=qz (show Ee es=(.leaf es,none)from by unfold Ee;rw[if_pos h8]);obtain⟨HC,HPO⟩:=hid2 hC hPO;clear hC hPO;clear h;go_enter Tryz.func129,Tryz.ntmps129;go_wp2_with (fail);(with_reducible refine(HC.out).mono ?_);rintro e w1 ⟨hb1,b,rfl,hN⟩;have HP:Hid (PO (.returned (.tuple #[.pointer (some ⟨b,0,none⟩),.pointer none])) w1):=by
    show PO _ _;rw[<-HPO.out,He.out];exact⟨hb1,b,none,rfl,hN,rfl⟩
   clear hb1 hN;go_wp2;exact HP.out
 . have h9':es.length=9:=by omega
   obtain⟨e0,he0⟩: ∃p,es[0]? =some p:=⟨_,List.getElem?_eq_getElem (by omega)⟩;obtain⟨g,off,rfl,hg,_⟩:=Bz h he0;have hpw:=List.pairwise_append.1 (show Bb (es.take 4++es.drop 4)from by rw[List.take_append_drop];exact ha);have hd1:dO (es.take 4)=(dO es).take 4:=by rw[Bv,Bv,List.map_take]
   have hd2:dO (es.drop 4)=(dO es).drop 4:=by rw[Bv,Bv,List.map_drop]
   have hl1:Ai w w.heap.size (.row 7 (dO (es.take 4))) [.slice (some ⟨g,off,none⟩) 4 c]:=hd1▸h.cutL (i:=4) (by rw[Az];omega) c;have hl2:Ai w w.heap.size (.row 7 (dO (es.drop 4))) [.slice (some ⟨g,off+28,none⟩) 5 (c - 4)]:=hd2▸h.cutR (i:=4) (m:=5) (by rw[Az];omega) (c - 4);have HC1:=qz (fun(W:World) (hB:Below w.heap.size w W)=>Ic S (es.take 4) (some ⟨g,off,none⟩) 4 c W ((hl1.below hB).more hB.size) hpw.1 (by rw[List.length_take];omega) (Nat.le_trans (Kr es 4).1 hb));have HC2:=qz (fun(W:World) (hB:Below w.heap.size w W)=>Ic S (es.drop 4) (some ⟨g,off+28,none⟩) 5 (c - 4) W ((hl2.below hB).more hB.size) hpw.2.1 (by rw[List.length_drop];omega) (Nat.le_trans (Kr es 4).2 hb));have he:Ee es=(.leaf (es.take 4),some (.leaf (es.drop 4))):=by unfold Ee;rw[if_neg h8]
   rw[h9']at hcn ⊢;have z1:4<=c:=by omega
   have z2:(4:Int)<=(c:Int):=by omega
   have z3:(9:Int)<=(c:Int):=by omega
   have z4: ¬c=4:=by omega
   have hbd:=Below.drew (Below.refl w.heap.size w);obtain⟨HPO,He⟩:=hid2 hPO he;clear hPO he;clear h hl1 hl2 hd1 hd2 he0 hpw h9' h9 h8 ha;go_enter Tryz.func129,Tryz.ntmps129;go_upto_region 3 with(fail);refine wp_region_held_drew (S:=fun _=>True) (by kernel_rfl) trivial (fun hHeld=> ?_);generalize w.drew=wd at hbd ⊢;refine tkH 0 hHeld ?_;refine tkH 1 hHeld ?_;refine tkH 2 hHeld ?_;refine tkH 4 hHeld ?_;refine tkH 5 hHeld ?_;refine tkH 6 hHeld ?_;refine Iu 3 fun K hK=> ?_;go_simp;(with_reducible refine(HC1.out _ hbd).mono ?_);rintro e w1 ⟨hb1,b1,rfl,hN1⟩;have hw1:=hbd.trans (hb1.mono hbd.size);refine hK.out _ _ trivial (fun hHeld=> ?_);clear hK K hb1;have HN1:=qz hN1;clear hN1
   try simp only[Act.put,tk1,tk2,tk3,tk4,tk5,tk6]
   refine Iu 7 fun K hK=> ?_;go_simp;(with_reducible refine(HC2.out _ hw1).mono ?_);rintro e w2 ⟨hb2,b2,rfl,hN2⟩;have HP:Hid (PO (.returned (.tuple #[.pointer (some ⟨b1,0,none⟩),.pointer (some ⟨b2,0,none⟩)])) w2):=by
    show PO _ _;rw[<-HPO.out,He.out];exact⟨hw1.trans (hb2.mono hw1.size),b1,_,rfl,(HN1.out.below hb2).mono (Dn hbd.size),b2,rfl,hN2.mono (Dn hw1.size)⟩
   refine hK.out _ _ trivial (fun hHeld=> ?_);clear hK K hb2 hN2 HN1 hw1 hbd
   try simp only[Act.put,tk1,tk2,tk3,tk4,tk5,tk6]
   refine tkH 8 hHeld ?_;refine tkH 9 hHeld ?_;refine wpAnyH_done (by kernel_rfl) ?_ _;clear hHeld;go_wp2;exact HP.out
theorem Oh (S:Nat->Prop) (T:Nat) (ks:List Nd) (bs:List Nat) (a:Option Addr) (n c:Nat) (w:World) (h:Ai w w.heap.size (.row 1 (Av bs)) [.slice a n c]) (hkS:Am S w ks bs) (ha:Bb (As ks)) (hok: ∀k ∈ ks,Ej 4 T k)
 (h1:1<=ks.length) (h9:ks.length<=9) (hcn:n<=c) (hH:T<=1000000) (hN:(As ks).length<=1000000000):
 Calls Tryz.prog 133 #[.slice a n c,.func (.func 87) #[] #[]] w (SP S (Ef ks) w):=by
 have hk:=hkS.now;have hn:=h.row_len;rw[Ax,hk.len]at hn;subst hn;obtain⟨PO,hPO⟩: ∃P:Ending->World->Prop,SP S (Ef ks) w=P:=⟨_,rfl⟩;rw[hPO];by_cases h8:ks.length<=8
 . have hC:=E9 S T ks bs a ks.length c w h hkS ha hok h1 h8 hH hN;have y8:(ks.length:Int)<=8:=by omega
   have He:=qz (show Ef ks=(Ey ks,none)from by unfold Ef;rw[if_pos h8]);obtain⟨HC,HPO⟩:=hid2 hC hPO;clear hC hPO;clear h hk hkS;go_enter Tryz.func133,Tryz.ntmps133;go_wp2_with (fail);(with_reducible refine(HC.out).mono ?_);rintro e w1 ⟨hb1,b,rfl,hN⟩;have HP:Hid (PO (.returned (.tuple #[.pointer (some ⟨b,0,none⟩),.pointer none])) w1):=by
    show PO _ _;rw[<-HPO.out,He.out];exact⟨hb1,b,none,rfl,hN,rfl⟩
   clear hb1 hN;go_wp2;exact HP.out
 . have h9':ks.length=9:=by omega
   have hbl:=hk.len;obtain⟨g,off,rfl,hg,_⟩:=Fz h (q:=0) (b:=bs[0]) (List.getElem?_eq_getElem (by omega));have hpw:=List.pairwise_append.1 (show Bb (As (ks.take 4)++As (ks.drop 4))from by rw[<-Bo,List.take_append_drop];exact ha);have hlen:(As (ks.take 4)).length+(As (ks.drop 4)).length=(As ks).length:=by rw[<-List.length_append,<-Bo,List.take_append_drop]
   have hd1:Av (bs.take 4)=(Av bs).take 4:=by unfold Av;rw[List.map_take]
   have hd2:Av (bs.drop 4)=(Av bs).drop 4:=by unfold Av;rw[List.map_drop]
   have hl1:Ai w w.heap.size (.row 1 (Av (bs.take 4))) [.slice (some ⟨g,off,none⟩) 4 c]:=hd1▸h.cutL (i:=4) (by rw[Ax];omega) c;have hl2:Ai w w.heap.size (.row 1 (Av (bs.drop 4))) [.slice (some ⟨g,off+4,none⟩) 5 (c - 4)]:=hd2▸h.cutR (i:=4) (m:=5) (by rw[Ax];omega) (c - 4);obtain⟨hk1,hk2⟩:=hkS.split 4;have HC1:=qz (fun(W:World) (hB:Below w.heap.size w W)=>E9 S T (ks.take 4) (bs.take 4) (some ⟨g,off,none⟩) 4 c W ((hl1.below hB).more hB.size) (hk1.below hB) hpw.1 (fun k hk=>hok k (List.mem_of_mem_take hk)) (by rw[List.length_take];omega) (by rw[List.length_take];omega) hH (by omega));have HC2:=qz (fun(W:World) (hB:Below w.heap.size w W)=>E9 S T (ks.drop 4) (bs.drop 4) (some ⟨g,off+4,none⟩) 5 (c - 4) W ((hl2.below hB).more hB.size) (hk2.below hB) hpw.2.1 (fun k hk=>hok k (List.mem_of_mem_drop hk)) (by rw[List.length_drop];omega) (by rw[List.length_drop];omega) hH (by omega));have he:Ef ks=(Ey (ks.take 4),some (Ey (ks.drop 4))):=by unfold Ef;rw[if_neg h8]
   rw[h9']at hcn ⊢;have z1:4<=c:=by omega
   have z2:(4:Int)<=(c:Int):=by omega
   have z3:(9:Int)<=(c:Int):=by omega
   have z4: ¬c=4:=by omega
   have hbd:=Below.drew (Below.refl w.heap.size w);obtain⟨HPO,He⟩:=hid2 hPO he;clear hPO he;clear h hl1 hl2 hd1 hd2 hpw ha hk hkS hk1 hk2 hlen;go_enter Tryz.func133,Tryz.ntmps133;go_upto_region 3 with(fail);refine wp_region_held_drew (S:=fun _=>True) (by kernel_rfl) trivial (fun hHeld=> ?_);generalize w.drew=wd at hbd ⊢;refine tkH 0 hHeld ?_;refine tkH 1 hHeld ?_;refine tkH 2 hHeld ?_;refine tkH 4 hHeld ?_;refine tkH 5 hHeld ?_;refine tkH 6 hHeld ?_;refine Iu 3 fun K hK=> ?_;go_simp;(with_reducible refine(HC1.out _ hbd).mono ?_);rintro e w1 ⟨hb1,b1,rfl,hN1⟩;have hw1:=hbd.trans (hb1.mono hbd.size);refine hK.out _ _ trivial (fun hHeld=> ?_);clear hK K hb1;have HN1:=qz hN1;clear hN1
   try simp only[Act.put,tk1,tk2,tk3,tk4,tk5,tk6]
   refine Iu 7 fun K hK=> ?_;go_simp;(with_reducible refine(HC2.out _ hw1).mono ?_);rintro e w2 ⟨hb2,b2,rfl,hN2⟩;have HP:Hid (PO (.returned (.tuple #[.pointer (some ⟨b1,0,none⟩),.pointer (some ⟨b2,0,none⟩)])) w2):=by
    show PO _ _;rw[<-HPO.out,He.out];exact⟨hw1.trans (hb2.mono hw1.size),b1,_,rfl,(HN1.out.below hb2).mono (Dn hbd.size),b2,rfl,hN2.mono (Dn hw1.size)⟩
   refine hK.out _ _ trivial (fun hHeld=> ?_);clear hK K hb2 hN2 HN1 hw1 hbd
   try simp only[Act.put,tk1,tk2,tk3,tk4,tk5,tk6]
   refine tkH 8 hHeld ?_;refine tkH 9 hHeld ?_;refine wpAnyH_done (by kernel_rfl) ?_ _;clear hHeld;go_wp2;exact HP.out
end Go.Proofs.YtdbejcbbhomdbaaGreatDoor
