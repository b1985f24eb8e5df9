/- Parts: tree.whichKid: the kid in which a key is, or belongs. Condition: at most 1000 kids, rising. -/
import Derived.Test.YtkmcjfkokoidcaaGreatDoorZFbShelfO
import Derived.Shelf.SlSorted.Search
import Derived.Test.YtkmcjfkokoidcaaGreatDoorKFb18
set_option maxHeartbeats 20000000
set_option maxRecDepth 100000
namespace Go.Proofs.YtkmcjfkokoidcaaGreatDoor
open Go Go.RowKit Go.Sort
theorem Sx (es:List Bj) (k:ByteArray) (a:Option Addr) (n c b1 b2 i B:Nat) (hi:i<es.length) (_:es.length<=1000) (w:World) (h:Ah w B (.row 7 (dO es)) [.slice a n c]) (h1:w.cell? ⟨b1,0,none⟩=some (.slice a n c)) (h2:w.cell? ⟨b2,0,none⟩=some (.string k)):
 Calls Tryz.prog 161 #[.int .i64 i,.pointer (some ⟨b1,0,none⟩),.pointer (some ⟨b2,0,none⟩)] w fun e w'=>e=.returned (.bool (!((es[i]?.map fun e=>C8 e.1 k).getD false)))/\w'=w.drew:=by
 have hl:=h.row_len;rw[Ax]at hl;subst hl;obtain⟨e1,he1⟩: ∃p,es[i]? =some p:=⟨_,List.getElem?_eq_getElem hi⟩;obtain⟨g,off,rfl,hg,u1,u2,u3,u4,u5,u6,_,r1⟩:=Dt h he1;have s1:=r1 0 _ rfl;simp only[Nat.add_zero]at s1;have y1:(i:Int)<(es.length:Int):=by omega
 have y2:(0:Int)<=i:=by omega
 have hR:(!((es[i]?.map fun e=>C8 e.1 k).getD false))= !(Op.bytesLess e1.1.toList k.toList):=by rw[he1];rfl
 rw[hR];have hSS:(fun Y:World=>Y.cell? ⟨b1,0,none⟩=some (.slice (some ⟨g,off,none⟩) es.length c)/\Y.cell? ⟨b2,0,none⟩=some (.string k)/\Y.cell? ⟨g,off+i*7,none⟩=some (.string e1.1)) w.drew:=⟨h1,h2,s1⟩;clear r1 he1 hR h h1 h2 s1;go_enter Tryz.func161,Tryz.ntmps161;go_upto_region 1 with(fail);refine wp_region_held_drew (S:=fun Y=>Y.cell? ⟨b1,0,none⟩=some (.slice (some ⟨g,off,none⟩) es.length c)/\Y.cell? ⟨b2,0,none⟩=some (.string k)/\Y.cell? ⟨g,off+i*7,none⟩=some (.string e1.1)) (by kernel_rfl) hSS (fun hHeld=> ?_);refine tkH 0 hHeld ?_;refine tkH 1 hHeld ?_;refine tkH 2 hHeld ?_;refine tkH 3 hHeld ?_;refine tkH 4 hHeld ?_;refine tkH 5 hHeld ?_;refine tkH 6 hHeld ?_;refine tkH 7 hHeld ?_;refine wpAnyH_done (by kernel_rfl) ?_ _;clear hHeld hSS;go_wp2;go_ret;exact⟨rfl,rfl⟩
theorem M5 (w:World) (q:Nat) (os:Array Obj):Below w.heap.size w (grow (w.drewN q) os):=below_grown_sl w.heap.size w q os (Nat.le_refl _)
theorem Afq {k:ByteArray} {es:List Bj} (ha:B8 es) (x y:Nat) (hxy:x<=y) (hy:y<es.length) (h:(!((es[x]?.map fun e=>C8 e.1 k).getD false))=true):(!((es[y]?.map fun e=>C8 e.1 k).getD false))=true:=by
 have ex:es[x]? =some es[x]:=List.getElem?_eq_getElem (by omega);have ey:es[y]? =some es[y]:=List.getElem?_eq_getElem hy;rw[ex]at h;rw[ey];simp only[Option.map_some,Option.getD_some]at h ⊢;rcases Nat.lt_or_ge x y with hlt|hge
 . have:=List.pairwise_iff_getElem.1 ha x y (by omega) hy hlt
   cases hb:C8 es[y].1 k with
   |false=>rfl
   |true=>
    rw[De this hb]at h;exact h
 . obtain rfl:x=y:=by omega
   exact h
theorem Nx (es:List Bj) (k:ByteArray) (a:Option Addr) (n c:Nat) (w:World) (h:Ah w w.heap.size (.row 7 (dO es)) [.slice a n c]) (ha:B8 es) (hn:es.length<=1000):
 Calls Tryz.prog 97 #[.slice a n c,.string k] w fun e w'=>e=.returned (.tuple #[.int .i64 (Da k es),.bool (Cl k es)])/\Below w.heap.size w w':=by
 obtain⟨PO,hPO⟩: ∃P:Ending->World->Prop,(fun e w'=>e=.returned (.tuple #[.int .i64 (Da k es),.bool (Cl k es)])/\Below w.heap.size w w')=P:=⟨_,rfl⟩;rw[hPO];have hF: ∀W,Below w.heap.size w W->PO (.returned (.tuple #[.int .i64 (Da k es),.bool (Cl k es)])) W:=fun W hB=>by
  rw[<-hPO];exact⟨rfl,hB⟩
 clear hPO;have hl:=h.row_len;rw[Ax]at hl;subst hl;obtain⟨wi,hwi⟩: ∃wi,(w.alloc (.cells #[.slice a es.length c] 22)).alloc (.cells #[.string k] 9)=wi:=⟨_,rfl⟩;have hbi:Below w.heap.size w wi:=hwi▸((Aa w (.cells #[.slice a es.length c] 22)).alloc (by simp) _);have hx1:Aj wi w.heap.size 22 #[.slice a es.length c]:=hwi▸(Aj.new _ _ _).alloc _;have hx2:Aj wi (w.heap.size+1) 9 #[.string k]:=by
  have:=Aj.new (w.alloc (.cells #[.slice a es.length c] 22)) 9 #[.string k]
  rwa [World.size_alloc,hwi]at this
 have hS:=Tryz.sort_Search 161 #[.pointer (some ⟨w.heap.size,0,none⟩),.pointer (some ⟨w.heap.size+1,0,none⟩)] es.length (fun i=> !((es[i]?.map fun e=>C8 e.1 k).getD false)) wi (fun _ _=>by kernel_rfl) (by omega)
  (fun m os i hi=>by
    have hB:=M5 wi m os;refine(Sx es k a es.length c w.heap.size (w.heap.size+1) i w.heap.size hi hn (grow (wi.drewN m) os) (h.below (hbi.trans (hB.mono hbi.size))) ((hB.cell (p:=⟨w.heap.size,0,none⟩) hx1.lt).trans (hx1.cell 0)) ((hB.cell (p:=⟨w.heap.size+1,0,none⟩) hx2.lt).trans (hx2.cell 0))).mono ?_;rintro e w' ⟨rfl,rfl⟩;exact⟨rfl,1, #[],by rw[grow_empty];rfl⟩)
  (fun x y h1 h2 h3=>Afq ha x y h1 h2 h3)
 simp only[Bool.not_not]at hS;rw[Ad1 ha]at hS;have hle:=Ob k es;have d1:=hx1.cell 0;have d2:=hx2.cell 0;have l1:=hx1.lt;have l2:=hx2.lt;obtain⟨HS,Hbi,Hx1,Hx2,H⟩:=hid5 hS hbi hx1 hx2 h;clear hS hbi hx1 hx2 h;go_enter Tryz.func97,Tryz.ntmps97;go_upto_region 1 with(fail);clear hwi;go_wp2_with (fail);(with_reducible refine(HS.out).mono ?_);rintro e w1 ⟨rfl,q,os,rfl⟩;have hb1:=M5 wi q os;generalize grow (wi.drewN q) os=w1 at hb1 ⊢;have hw1:=Hbi.out.trans (hb1.mono Hbi.out.size);have hx1':=Hx1.out.below hb1 l1;have hx2':=Hx2.out.below hb1 l2;clear d1 d2;have d1:=hx1'.cell 0;have d2:=hx2'.cell 0;have l3:=hx1'.lt;have l4:=hx2'.lt;have HD:=qz (hw1.trans ((Below.drew (Below.refl _ w1)).mono hw1.size));clear hx1' hx2' hb1 Hx1 Hx2 l1 l2;by_cases hlt:Da k es<es.length
 . obtain⟨e1,he1⟩: ∃p,es[Da k es]? =some p:=⟨_,List.getElem?_eq_getElem hlt⟩;have hh:Cl k es=(e1.1.toList==k.toList):=by unfold Cl;rw[he1];rfl
   rw[hh]at hF;have HF:=qz hF;clear hF;obtain⟨g,off,rfl,hg,u1,u2,u3,u4,u5,u6,_,r1⟩:=Dt (H.out.below hw1) he1;have s1:=r1 0 _ rfl;simp only[Nat.add_zero]at s1;have y1:(Da k es:Int)<(es.length:Int):=by omega
   have y2:(0:Int)<=(Da k es:Int):=by omega
   generalize Da k es=P at HF hlt s1 y1 y2 ⊢;clear r1 he1 hh H hw1;go_upto_region 2 with(fail);refine wp_region_held_drew (S:=fun Y:World=>Y.cell? ⟨w.heap.size,0,none⟩=some (.slice (some ⟨g,off,none⟩) es.length c)/\Y.cell? ⟨w.heap.size+1,0,none⟩=some (.string k)/\Y.cell? ⟨g,off+P*7,none⟩=some (.string e1.1)) (by kernel_rfl) ⟨d1,d2,s1⟩ (fun hHeld=> ?_);refine tkH 0 hHeld ?_;refine tkH 1 hHeld ?_;refine tkH 2 hHeld ?_;refine tkH 3 hHeld ?_;refine tkH 4 hHeld ?_;refine tkH 5 hHeld ?_;refine tkH 6 hHeld ?_;refine tkH 7 hHeld ?_;refine tkH 8 hHeld ?_;refine tkH 9 hHeld ?_;refine tkH 10 hHeld ?_;refine tkH 11 hHeld ?_;refine tkH 12 hHeld ?_;refine tkH 13 hHeld ?_;refine tkH 14 hHeld ?_;refine tkH 15 hHeld ?_;refine wpAnyH_done (by kernel_rfl) ?_ _;clear hHeld;go_wp2;exact HF.out _ HD.out
 . have hh:Cl k es=false:=by unfold Cl;rw[List.getElem?_eq_none (by omega)];rfl
   rw[hh]at hF;have HF:=qz hF;clear hF;have y1: ¬((Da k es:Int)<(es.length:Int)):=by omega
   have y2:decide (Da k es<es.length)=false:=decide_eq_false hlt;generalize Da k es=P at HF y1 y2 ⊢;clear hh H hw1;go_upto_region 2 with(fail);refine wp_region_held_drew (S:=fun Y:World=>Y.cell? ⟨w.heap.size,0,none⟩=some (.slice a es.length c)/\Y.cell? ⟨w.heap.size+1,0,none⟩=some (.string k)) (by kernel_rfl) ⟨d1,d2⟩ (fun hHeld=> ?_);refine tkH 0 hHeld ?_;refine tkH 1 hHeld ?_;refine tkH 2 hHeld ?_;refine tkH 3 hHeld ?_;refine tkH 4 hHeld ?_;refine tkH 5 hHeld ?_;refine tkN 6 hHeld ?_;refine tkN 7 hHeld ?_;refine tkN 8 hHeld ?_;refine tkN 9 hHeld ?_;refine tkN 10 hHeld ?_;refine tkN 11 hHeld ?_;refine tkN 12 hHeld ?_;refine tkH 13 hHeld ?_;refine tkH 14 hHeld ?_;refine tkH 15 hHeld ?_;refine wpAnyH_done (by kernel_rfl) ?_ _;clear hHeld;go_wp2;exact HF.out _ HD.out
theorem Ahw (x y:List UInt8):(!Op.bytesLess x y&& !x==y)=Op.bytesLess y x:=by
 have key: ∀{x y:List UInt8},Op.bytesLess x y=true->Op.bytesLess y x=false:=fun {x y} h=>by
  cases e:Op.bytesLess y x with
  |false=>rfl
  |true=>have:=Q1 h e;rw[I8]at this;cases this
 rcases Y9 x y with h|rfl|h
 . rw[h,key h];rfl
 . rw[I8];simp
 . have hne:(x==y)=false:=beq_eq_false_iff_ne.2 fun e=>by
    subst e;rw[I8]at h
    cases h
   rw[h,key h,hne];rfl
theorem Xd: ∀{ks:List Nd},B8 (Cg ks)->(∀k ∈ ks,Cw k≠ [])->ks.Pairwise fun a b=>C8 (Av a) (Av b)=true
 | [],_,_=>List.Pairwise.nil
 |k::r,ha,hne=>by
  simp only[Cg]at ha;obtain⟨_,a2,a3⟩:=List.pairwise_append.1 ha;refine List.pairwise_cons.2 ⟨fun x hx=> ?_,Xd a2 fun y hy=>hne y (by simp[hy])⟩;obtain⟨v,t,e⟩:=Gd (hne k (by simp));obtain⟨v',t',e'⟩:=Gd (hne x (by simp[hx]));exact a3 (Av k,v) (by rw[e];simp) (Av x,v') (Afz hx _ (by rw[e'];simp))
theorem Ti {k:ByteArray} {ks:List Nd} (ha:B8 (Cg ks)) (hne: ∀k ∈ ks,Cw k≠ []):ks.Pairwise fun a b=>C8 k (Av a)=true->C8 k (Av b)=true:=
 (Xd ha hne).imp fun h h'=>De h' h
theorem Abx {k:ByteArray} {ks:List Nd} (ha:B8 (Cg ks)) (hne: ∀k ∈ ks,Cw k≠ []):(List.range ks.length).countP (fun i=> !((ks[i]?.map fun n=>C8 k (Av n)).getD false))=ks.findIdx fun n=>C8 k (Av n):=by
 refine Eq.trans ?_ (L8 _ (Ti ha hne));refine Eq.trans ?_ (Lv _ _);refine List.countP_congr fun i hi=> ?_;have:i<ks.length:=List.mem_range.1 hi;rw[List.getElem?_eq_getElem this];simp
theorem Aer {k:ByteArray} {ks:List Nd} (ha:B8 (Cg ks)) (hne: ∀k ∈ ks,Cw k≠ []) (x y:Nat) (hxy:x<=y) (hy:y<ks.length) (h:((ks[x]?.map fun n=>C8 k (Av n)).getD false)=true):((ks[y]?.map fun n=>C8 k (Av n)).getD false)=true:=by
 rcases Nat.lt_or_ge x y with hlt|hge
 . have:=List.pairwise_iff_getElem.1 (Ti (k:=k) ha hne) x y (by omega) hy hlt;rw[List.getElem?_eq_getElem (by omega)]at h;rw[List.getElem?_eq_getElem hy];exact this h
 . obtain rfl:x=y:=by omega
   exact h
theorem Sz (ks:List Nd) (bs:List Nat) (k:ByteArray) (a:Option Addr) (n c b1 b2 i B:Nat) (hi:i<ks.length) (_:ks.length<=1000) (w:World) (h:Ah w B (.row 1 (Ce bs)) [.slice a n c]) (hk:Au w B ks bs) (h1:w.cell? ⟨b1,0,none⟩=some (.slice a n c)) (h2:w.cell? ⟨b2,0,none⟩=some (.string k)):
 Calls Tryz.prog 165 #[.int .i64 i,.pointer (some ⟨b1,0,none⟩),.pointer (some ⟨b2,0,none⟩)] w fun e w'=>e=.returned (.bool ((ks[i]?.map fun n=>C8 k (Av n)).getD false))/\w'=w.drew:=by
 have hl:=h.row_len;rw[Bm,hk.len]at hl;subst hl;obtain⟨n1,hn1⟩: ∃p,ks[i]? =some p:=⟨_,List.getElem?_eq_getElem hi⟩;obtain⟨p1,hp1,hN⟩:=hk.at_ hn1;obtain⟨g,off,rfl,hg,s1⟩:=Iz h hp1;have hD:=Below.drew (Below.refl B w);have hF:=Nm (hN.below hD);have y1:(i:Int)<(ks.length:Int):=by omega
 have y2:(0:Int)<=i:=by omega
 have hR:((ks[i]?.map fun n=>C8 k (Av n)).getD false)=Op.bytesLess k.toList (Av n1).toList:=by rw[hn1];rfl
 rw[hR,<-Ahw];generalize Av n1=f1 at hF ⊢;have hSS:(fun Y:World=>Y.cell? ⟨b1,0,none⟩=some (.slice (some ⟨g,off,none⟩) ks.length c)/\Y.cell? ⟨b2,0,none⟩=some (.string k)/\Y.cell? ⟨g,off+i,none⟩=some (.pointer (some ⟨p1,0,none⟩))) w.drew:=⟨h1,h2,s1⟩;have HF:=qz hF;clear hF;clear hn1 hp1 hR h h1 h2 s1 hk hN hD;go_enter Tryz.func165,Tryz.ntmps165;go_upto_region 1 with(fail);refine wp_region_held_drew (S:=fun Y=>Y.cell? ⟨b1,0,none⟩=some (.slice (some ⟨g,off,none⟩) ks.length c)/\Y.cell? ⟨b2,0,none⟩=some (.string k)/\Y.cell? ⟨g,off+i,none⟩=some (.pointer (some ⟨p1,0,none⟩))) (by kernel_rfl) hSS (fun hHeld=> ?_);refine tkH 0 hHeld ?_;refine tkH 1 hHeld ?_;refine tkH 2 hHeld ?_;refine tkH 3 hHeld ?_;refine tkH 5 hHeld ?_;refine Ie 4 fun K hK=> ?_;go_simp;(with_reducible refine(HF.out).mono ?_);rintro e w1 ⟨rfl,rfl⟩;refine hK.out _ _ hHeld (fun hHeld=> ?_);clear hK K
 try simp only[Act.put,tk1,tk2,tk3,tk4,tk5,tk6]
 refine tkH 6 hHeld ?_;refine tkH 7 hHeld ?_;refine wpAnyH_done (by kernel_rfl) ?_ _;clear hHeld hSS;go_wp2;go_ret;exact⟨rfl,rfl⟩
theorem Vn (ks:List Nd) (bs:List Nat) (k:ByteArray) (a:Option Addr) (n c:Nat) (w:World) (h:Ah w w.heap.size (.row 1 (Ce bs)) [.slice a n c]) (hk:Au w w.heap.size ks bs) (ha:B8 (Cg ks)) (hne: ∀k ∈ ks,Cw k≠ []) (hn:ks.length<=1000):
 Calls Tryz.prog 101 #[.slice a n c,.string k] w fun e w'=>e=.returned (.int .i64 (Ay ks k))/\Below w.heap.size w w':=by
 obtain⟨PO,hPO⟩: ∃P:Ending->World->Prop,(fun e w'=>e=.returned (.int .i64 (Ay ks k))/\Below w.heap.size w w')=P:=⟨_,rfl⟩;rw[hPO];have hF: ∀W,Below w.heap.size w W->PO (.returned (.int .i64 (Ay ks k))) W:=fun W hB=>by
  rw[<-hPO];exact⟨rfl,hB⟩
 clear hPO;have hl:=h.row_len;rw[Bm,hk.len]at hl;subst hl;obtain⟨wi,hwi⟩: ∃wi,(w.alloc (.cells #[.slice a ks.length c] 108)).alloc (.cells #[.string k] 9)=wi:=⟨_,rfl⟩;have hbi:Below w.heap.size w wi:=hwi▸((Aa w (.cells #[.slice a ks.length c] 108)).alloc (by simp) _);have hx1:Aj wi w.heap.size 108 #[.slice a ks.length c]:=hwi▸(Aj.new _ _ _).alloc _;have hx2:Aj wi (w.heap.size+1) 9 #[.string k]:=by
  have:=Aj.new (w.alloc (.cells #[.slice a ks.length c] 108)) 9 #[.string k]
  rwa [World.size_alloc,hwi]at this
 have hS:=Tryz.sort_Search 165 #[.pointer (some ⟨w.heap.size,0,none⟩),.pointer (some ⟨w.heap.size+1,0,none⟩)] ks.length (fun i=>(ks[i]?.map fun n=>C8 k (Av n)).getD false) wi (fun _ _=>by kernel_rfl) (by omega)
  (fun m os i hi=>by
    have hB:=M5 wi m os;refine(Sz ks bs k a ks.length c w.heap.size (w.heap.size+1) i w.heap.size hi hn (grow (wi.drewN m) os) (h.below (hbi.trans (hB.mono hbi.size))) (hk.below (hbi.trans (hB.mono hbi.size))) ((hB.cell (p:=⟨w.heap.size,0,none⟩) hx1.lt).trans (hx1.cell 0)) ((hB.cell (p:=⟨w.heap.size+1,0,none⟩) hx2.lt).trans (hx2.cell 0))).mono ?_;rintro e w' ⟨rfl,rfl⟩;exact⟨rfl,1, #[],by rw[grow_empty];rfl⟩)
  (fun x y h1 h2 h3=>Aer ha hne x y h1 h2 h3)
 rw[Abx ha hne]at hS;have hle:ks.findIdx (fun n=>C8 k (Av n))<=ks.length:=List.findIdx_le_length;have hW:Ay ks k=ks.findIdx (fun n=>C8 k (Av n)) - 1:=rfl;rw[hW]at hF;generalize ks.findIdx (fun n=>C8 k (Av n))=P at hS hF hle;have d1:=hx1.cell 0;have d2:=hx2.cell 0;have l1:=hx1.lt;have l2:=hx2.lt;have hwr:IntKind.i64.wrap ((P:Int) - 1)=(P:Int) - 1:=IntWalk.i64_in _ (by omega);have hmx:((P - 1:Nat):Int)=max ((P:Int) - 1) 0:=by omega
 rw[hmx]at hF;obtain⟨HS,Hbi,H,HF⟩:=hid4 hS hbi h hF;clear hS hbi h hF;clear hx1 hx2 hW hmx;go_enter Tryz.func101,Tryz.ntmps101;go_upto_region 1 with(fail);clear hwi;go_wp2_with (fail);(with_reducible refine(HS.out).mono ?_);rintro e w1 ⟨rfl,q,os,rfl⟩;have HB:=qz (Hbi.out.trans ((M5 wi q os).mono Hbi.out.size));go_wp2;exact HF.out _ HB.out
end Go.Proofs.YtkmcjfkokoidcaaGreatDoor
