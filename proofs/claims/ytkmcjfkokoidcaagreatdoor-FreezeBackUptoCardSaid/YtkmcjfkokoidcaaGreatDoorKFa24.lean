/- Parts: tree.with at no node; tree.Put. Condition: at most 10^8 entries, a bulk of at most 10^8, a height of at most 10^5. -/
import Derived.Test.YtkmcjfkokoidcaaGreatDoorZFaShelfO
import Derived.Shelf.SlSorted.Search
import Derived.Test.YtkmcjfkokoidcaaGreatDoorKFa21
set_option maxHeartbeats 20000000
set_option maxRecDepth 100000
namespace Go.Proofs.YtkmcjfkokoidcaaGreatDoor
open Go Go.RowKit Go.Sort
theorem We (es:List A5) (k:ByteArray) (a:Option Addr) (n c b1 b2 i B:Nat) (hi:i<es.length) (_:es.length<=1000) (w:World) (h:Ag w B (.row 7 (dO es)) [.slice a n c]) (h1:w.cell? ⟨b1,0,none⟩=some (.slice a n c)) (h2:w.cell? ⟨b2,0,none⟩=some (.string k)):
 Calls Tryz.prog 161 #[.int .i64 i,.pointer (some ⟨b1,0,none⟩),.pointer (some ⟨b2,0,none⟩)] w fun e w'=>e=.returned (.bool (!((es[i]?.map fun e=>Dp e.1 k).getD false)))/\w'=w.drew:=by
 have hl:=h.row_len;rw[Av]at hl;subst hl;obtain⟨e1,he1⟩: ∃p,es[i]? =some p:=⟨_,List.getElem?_eq_getElem hi⟩;obtain⟨g,off,rfl,hg,u1,u2,u3,u4,u5,u6,_,r1⟩:=Et h he1;have s1:=r1 0 _ rfl;simp only[Nat.add_zero]at s1;have y1:(i:Int)<(es.length:Int):=by omega
 have y2:(0:Int)<=i:=by omega
 have hR:(!((es[i]?.map fun e=>Dp e.1 k).getD false))= !(Op.bytesLess e1.1.toList k.toList):=by rw[he1];rfl
 rw[hR];have hSS:(fun Y:World=>Y.cell? ⟨b1,0,none⟩=some (.slice (some ⟨g,off,none⟩) es.length c)/\Y.cell? ⟨b2,0,none⟩=some (.string k)/\Y.cell? ⟨g,off+i*7,none⟩=some (.string e1.1)) w.drew:=⟨h1,h2,s1⟩;clear r1 he1 hR h h1 h2 s1;go_enter Tryz.func161,Tryz.ntmps161;go_upto_region 1 with(fail);refine wp_region_held_drew (S:=fun Y=>Y.cell? ⟨b1,0,none⟩=some (.slice (some ⟨g,off,none⟩) es.length c)/\Y.cell? ⟨b2,0,none⟩=some (.string k)/\Y.cell? ⟨g,off+i*7,none⟩=some (.string e1.1)) (by kernel_rfl) hSS (fun hHeld=> ?_);refine tkH 0 hHeld ?_;refine tkH 1 hHeld ?_;refine tkH 2 hHeld ?_;refine tkH 3 hHeld ?_;refine tkH 4 hHeld ?_;refine tkH 5 hHeld ?_;refine tkH 6 hHeld ?_;refine tkH 7 hHeld ?_;refine wpAnyH_done (by kernel_rfl) ?_ _;clear hHeld hSS;go_wp2;go_ret;exact⟨rfl,rfl⟩
theorem Pu (w:World) (q:Nat) (os:Array Obj):Below w.heap.size w (grow (w.drewN q) os):=below_grown_sl w.heap.size w q os (Nat.le_refl _)
theorem Al9 {k:ByteArray} {es:List A5} (ha:Ay es) (x y:Nat) (hxy:x<=y) (hy:y<es.length) (h:(!((es[x]?.map fun e=>Dp e.1 k).getD false))=true):(!((es[y]?.map fun e=>Dp e.1 k).getD false))=true:=by
 have ex:es[x]? =some es[x]:=List.getElem?_eq_getElem (by omega);have ey:es[y]? =some es[y]:=List.getElem?_eq_getElem hy;rw[ex]at h;rw[ey];simp only[Option.map_some,Option.getD_some]at h ⊢;rcases Nat.lt_or_ge x y with hlt|hge
 . have:=List.pairwise_iff_getElem.1 ha x y (by omega) hy hlt
   cases hb:Dp es[y].1 k with
   |false=>rfl
   |true=>
    rw[C0 this hb]at h;exact h
 . obtain rfl:x=y:=by omega
   exact h
theorem Jz (es:List A5) (k:ByteArray) (a:Option Addr) (n c:Nat) (w:World) (h:Ag w w.heap.size (.row 7 (dO es)) [.slice a n c]) (ha:Ay es) (hn:es.length<=1000):
 Calls Tryz.prog 97 #[.slice a n c,.string k] w fun e w'=>e=.returned (.tuple #[.int .i64 (Do k es),.bool (Cb k es)])/\Below w.heap.size w w':=by
 obtain⟨PO,hPO⟩: ∃P:Ending->World->Prop,(fun e w'=>e=.returned (.tuple #[.int .i64 (Do k es),.bool (Cb k es)])/\Below w.heap.size w w')=P:=⟨_,rfl⟩;rw[hPO];have hF: ∀W,Below w.heap.size w W->PO (.returned (.tuple #[.int .i64 (Do k es),.bool (Cb k es)])) W:=fun W hB=>by
  rw[<-hPO];exact⟨rfl,hB⟩
 clear hPO;have hl:=h.row_len;rw[Av]at hl;subst hl;obtain⟨wi,hwi⟩: ∃wi,(w.alloc (.cells #[.slice a es.length c] 22)).alloc (.cells #[.string k] 9)=wi:=⟨_,rfl⟩;have hbi:Below w.heap.size w wi:=hwi▸((Aa w (.cells #[.slice a es.length c] 22)).alloc (by simp) _);have hx1:Aj wi w.heap.size 22 #[.slice a es.length c]:=hwi▸(Aj.new _ _ _).alloc _;have hx2:Aj wi (w.heap.size+1) 9 #[.string k]:=by
  have:=Aj.new (w.alloc (.cells #[.slice a es.length c] 22)) 9 #[.string k]
  rwa [World.size_alloc,hwi]at this
 have hS:=Tryz.sort_Search 161 #[.pointer (some ⟨w.heap.size,0,none⟩),.pointer (some ⟨w.heap.size+1,0,none⟩)] es.length (fun i=> !((es[i]?.map fun e=>Dp e.1 k).getD false)) wi (fun _ _=>by kernel_rfl) (by omega)
  (fun m os i hi=>by
    have hB:=Pu wi m os;refine(We es k a es.length c w.heap.size (w.heap.size+1) i w.heap.size hi hn (grow (wi.drewN m) os) (h.below (hbi.trans (hB.mono hbi.size))) ((hB.cell (p:=⟨w.heap.size,0,none⟩) hx1.lt).trans (hx1.cell 0)) ((hB.cell (p:=⟨w.heap.size+1,0,none⟩) hx2.lt).trans (hx2.cell 0))).mono ?_;rintro e w' ⟨rfl,rfl⟩;exact⟨rfl,1, #[],by rw[grow_empty];rfl⟩)
  (fun x y h1 h2 h3=>Al9 ha x y h1 h2 h3)
 simp only[Bool.not_not]at hS;rw[Ajy ha]at hS;have hle:=Yr k es;have d1:=hx1.cell 0;have d2:=hx2.cell 0;have l1:=hx1.lt;have l2:=hx2.lt;obtain⟨HS,Hbi,Hx1,Hx2,H⟩:=hid5 hS hbi hx1 hx2 h;clear hS hbi hx1 hx2 h;go_enter Tryz.func97,Tryz.ntmps97;go_upto_region 1 with(fail);clear hwi;go_wp2_with (fail);(with_reducible refine(HS.out).mono ?_);rintro e w1 ⟨rfl,q,os,rfl⟩;have hb1:=Pu wi q os;generalize grow (wi.drewN q) os=w1 at hb1 ⊢;have hw1:=Hbi.out.trans (hb1.mono Hbi.out.size);have hx1':=Hx1.out.below hb1 l1;have hx2':=Hx2.out.below hb1 l2;clear d1 d2;have d1:=hx1'.cell 0;have d2:=hx2'.cell 0;have l3:=hx1'.lt;have l4:=hx2'.lt;have HD:=qz (hw1.trans ((Below.drew (Below.refl _ w1)).mono hw1.size));clear hx1' hx2' hb1 Hx1 Hx2 l1 l2;by_cases hlt:Do k es<es.length
 . obtain⟨e1,he1⟩: ∃p,es[Do k es]? =some p:=⟨_,List.getElem?_eq_getElem hlt⟩;have hh:Cb k es=(e1.1.toList==k.toList):=by unfold Cb;rw[he1];rfl
   rw[hh]at hF;have HF:=qz hF;clear hF;obtain⟨g,off,rfl,hg,u1,u2,u3,u4,u5,u6,_,r1⟩:=Et (H.out.below hw1) he1;have s1:=r1 0 _ rfl;simp only[Nat.add_zero]at s1;have y1:(Do k es:Int)<(es.length:Int):=by omega
   have y2:(0:Int)<=(Do k es:Int):=by omega
   generalize Do k es=P at HF hlt s1 y1 y2 ⊢;clear r1 he1 hh H hw1;go_upto_region 2 with(fail);refine wp_region_held_drew (S:=fun Y:World=>Y.cell? ⟨w.heap.size,0,none⟩=some (.slice (some ⟨g,off,none⟩) es.length c)/\Y.cell? ⟨w.heap.size+1,0,none⟩=some (.string k)/\Y.cell? ⟨g,off+P*7,none⟩=some (.string e1.1)) (by kernel_rfl) ⟨d1,d2,s1⟩ (fun hHeld=> ?_);refine tkH 0 hHeld ?_;refine tkH 1 hHeld ?_;refine tkH 2 hHeld ?_;refine tkH 3 hHeld ?_;refine tkH 4 hHeld ?_;refine tkH 5 hHeld ?_;refine tkH 6 hHeld ?_;refine tkH 7 hHeld ?_;refine tkH 8 hHeld ?_;refine tkH 9 hHeld ?_;refine tkH 10 hHeld ?_;refine tkH 11 hHeld ?_;refine tkH 12 hHeld ?_;refine tkH 13 hHeld ?_;refine tkH 14 hHeld ?_;refine tkH 15 hHeld ?_;refine wpAnyH_done (by kernel_rfl) ?_ _;clear hHeld;go_wp2;exact HF.out _ HD.out
 . have hh:Cb k es=false:=by unfold Cb;rw[List.getElem?_eq_none (by omega)];rfl
   rw[hh]at hF;have HF:=qz hF;clear hF;have y1: ¬((Do k es:Int)<(es.length:Int)):=by omega
   have y2:decide (Do k es<es.length)=false:=decide_eq_false hlt;generalize Do k es=P at HF y1 y2 ⊢;clear hh H hw1;go_upto_region 2 with(fail);refine wp_region_held_drew (S:=fun Y:World=>Y.cell? ⟨w.heap.size,0,none⟩=some (.slice a es.length c)/\Y.cell? ⟨w.heap.size+1,0,none⟩=some (.string k)) (by kernel_rfl) ⟨d1,d2⟩ (fun hHeld=> ?_);refine tkH 0 hHeld ?_;refine tkH 1 hHeld ?_;refine tkH 2 hHeld ?_;refine tkH 3 hHeld ?_;refine tkH 4 hHeld ?_;refine tkH 5 hHeld ?_;refine tkN 6 hHeld ?_;refine tkN 7 hHeld ?_;refine tkN 8 hHeld ?_;refine tkN 9 hHeld ?_;refine tkN 10 hHeld ?_;refine tkN 11 hHeld ?_;refine tkN 12 hHeld ?_;refine tkH 13 hHeld ?_;refine tkH 14 hHeld ?_;refine tkH 15 hHeld ?_;refine wpAnyH_done (by kernel_rfl) ?_ _;clear hHeld;go_wp2;exact HF.out _ HD.out
theorem Aom (x y:List UInt8):(!Op.bytesLess x y&& !x==y)=Op.bytesLess y x:=by
 have key: ∀{x y:List UInt8},Op.bytesLess x y=true->Op.bytesLess y x=false:=fun {x y} h=>by
  cases e:Op.bytesLess y x with
  |false=>rfl
  |true=>have:=Tl h e;rw[Lf]at this;cases this
 rcases Ad1 x y with h|rfl|h
 . rw[h,key h];rfl
 . rw[Lf];simp
 . have hne:(x==y)=false:=beq_eq_false_iff_ne.2 fun e=>by
    subst e;rw[Lf]at h
    cases h
   rw[h,key h,hne];rfl
theorem Ab0: ∀{ks:List Nd},Ay (Bg ks)->(∀k ∈ ks,Bi k≠ [])->ks.Pairwise fun a b=>Dp (A7 a) (A7 b)=true
 | [],_,_=>List.Pairwise.nil
 |k::r,ha,hne=>by
  simp only[Bg]at ha;obtain⟨_,a2,a3⟩:=List.pairwise_append.1 ha;refine List.pairwise_cons.2 ⟨fun x hx=> ?_,Ab0 a2 fun y hy=>hne y (by simp[hy])⟩;obtain⟨v,t,e⟩:=Ip (hne k (by simp));obtain⟨v',t',e'⟩:=Ip (hne x (by simp[hx]));exact a3 (A7 k,v) (by rw[e];simp) (A7 x,v') (Aml hx _ (by rw[e'];simp))
theorem Xd {k:ByteArray} {ks:List Nd} (ha:Ay (Bg ks)) (hne: ∀k ∈ ks,Bi k≠ []):ks.Pairwise fun a b=>Dp k (A7 a)=true->Dp k (A7 b)=true:=
 (Ab0 ha hne).imp fun h h'=>C0 h' h
theorem Ahd {k:ByteArray} {ks:List Nd} (ha:Ay (Bg ks)) (hne: ∀k ∈ ks,Bi k≠ []):(List.range ks.length).countP (fun i=> !((ks[i]?.map fun n=>Dp k (A7 n)).getD false))=ks.findIdx fun n=>Dp k (A7 n):=by
 refine Eq.trans ?_ (O1 _ (Xd ha hne));refine Eq.trans ?_ (Oj _ _);refine List.countP_congr fun i hi=> ?_;have:i<ks.length:=List.mem_range.1 hi;rw[List.getElem?_eq_getElem this];simp
theorem Akr {k:ByteArray} {ks:List Nd} (ha:Ay (Bg ks)) (hne: ∀k ∈ ks,Bi k≠ []) (x y:Nat) (hxy:x<=y) (hy:y<ks.length) (h:((ks[x]?.map fun n=>Dp k (A7 n)).getD false)=true):((ks[y]?.map fun n=>Dp k (A7 n)).getD false)=true:=by
 rcases Nat.lt_or_ge x y with hlt|hge
 . have:=List.pairwise_iff_getElem.1 (Xd (k:=k) ha hne) x y (by omega) hy hlt;rw[List.getElem?_eq_getElem (by omega)]at h;rw[List.getElem?_eq_getElem hy];exact this h
 . obtain rfl:x=y:=by omega
   exact h
theorem Wg (ks:List Nd) (bs:List Nat) (k:ByteArray) (a:Option Addr) (n c b1 b2 i B:Nat) (hi:i<ks.length) (_:ks.length<=1000) (w:World) (h:Ag w B (.row 1 (Bb bs)) [.slice a n c]) (hk:A6 w B ks bs) (h1:w.cell? ⟨b1,0,none⟩=some (.slice a n c)) (h2:w.cell? ⟨b2,0,none⟩=some (.string k)):
 Calls Tryz.prog 165 #[.int .i64 i,.pointer (some ⟨b1,0,none⟩),.pointer (some ⟨b2,0,none⟩)] w fun e w'=>e=.returned (.bool ((ks[i]?.map fun n=>Dp k (A7 n)).getD false))/\w'=w.drew:=by
 have hl:=h.row_len;rw[A8,hk.len]at hl;subst hl;obtain⟨n1,hn1⟩: ∃p,ks[i]? =some p:=⟨_,List.getElem?_eq_getElem hi⟩;obtain⟨p1,hp1,hN⟩:=hk.at_ hn1;obtain⟨g,off,rfl,hg,s1⟩:=Ka h hp1;have hD:=Below.drew (Below.refl B w);have hF:=Qd (hN.below hD);have y1:(i:Int)<(ks.length:Int):=by omega
 have y2:(0:Int)<=i:=by omega
 have hR:((ks[i]?.map fun n=>Dp k (A7 n)).getD false)=Op.bytesLess k.toList (A7 n1).toList:=by rw[hn1];rfl
 rw[hR,<-Aom];generalize A7 n1=f1 at hF ⊢;have hSS:(fun Y:World=>Y.cell? ⟨b1,0,none⟩=some (.slice (some ⟨g,off,none⟩) ks.length c)/\Y.cell? ⟨b2,0,none⟩=some (.string k)/\Y.cell? ⟨g,off+i,none⟩=some (.pointer (some ⟨p1,0,none⟩))) w.drew:=⟨h1,h2,s1⟩;have HF:=qz hF;clear hF;clear hn1 hp1 hR h h1 h2 s1 hk hN hD;go_enter Tryz.func165,Tryz.ntmps165;go_upto_region 1 with(fail);refine wp_region_held_drew (S:=fun Y=>Y.cell? ⟨b1,0,none⟩=some (.slice (some ⟨g,off,none⟩) ks.length c)/\Y.cell? ⟨b2,0,none⟩=some (.string k)/\Y.cell? ⟨g,off+i,none⟩=some (.pointer (some ⟨p1,0,none⟩))) (by kernel_rfl) hSS (fun hHeld=> ?_);refine tkH 0 hHeld ?_;refine tkH 1 hHeld ?_;refine tkH 2 hHeld ?_;refine tkH 3 hHeld ?_;refine tkH 5 hHeld ?_;refine Ee 4 fun K hK=> ?_;go_simp;(with_reducible refine(HF.out).mono ?_);rintro e w1 ⟨rfl,rfl⟩;refine hK.out _ _ hHeld (fun hHeld=> ?_);clear hK K
 try simp only[Act.put,tk1,tk2,tk3,tk4,tk5,tk6]
 refine tkH 6 hHeld ?_;refine tkH 7 hHeld ?_;refine wpAnyH_done (by kernel_rfl) ?_ _;clear hHeld hSS;go_wp2;go_ret;exact⟨rfl,rfl⟩
theorem Mk (ks:List Nd) (bs:List Nat) (k:ByteArray) (a:Option Addr) (n c:Nat) (w:World) (h:Ag w w.heap.size (.row 1 (Bb bs)) [.slice a n c]) (hk:A6 w w.heap.size ks bs) (ha:Ay (Bg ks)) (hne: ∀k ∈ ks,Bi k≠ []) (hn:ks.length<=1000):
 Calls Tryz.prog 101 #[.slice a n c,.string k] w fun e w'=>e=.returned (.int .i64 (An ks k))/\Below w.heap.size w w':=by
 obtain⟨PO,hPO⟩: ∃P:Ending->World->Prop,(fun e w'=>e=.returned (.int .i64 (An ks k))/\Below w.heap.size w w')=P:=⟨_,rfl⟩;rw[hPO];have hF: ∀W,Below w.heap.size w W->PO (.returned (.int .i64 (An ks k))) W:=fun W hB=>by
  rw[<-hPO];exact⟨rfl,hB⟩
 clear hPO;have hl:=h.row_len;rw[A8,hk.len]at hl;subst hl;obtain⟨wi,hwi⟩: ∃wi,(w.alloc (.cells #[.slice a ks.length c] 108)).alloc (.cells #[.string k] 9)=wi:=⟨_,rfl⟩;have hbi:Below w.heap.size w wi:=hwi▸((Aa w (.cells #[.slice a ks.length c] 108)).alloc (by simp) _);have hx1:Aj wi w.heap.size 108 #[.slice a ks.length c]:=hwi▸(Aj.new _ _ _).alloc _;have hx2:Aj wi (w.heap.size+1) 9 #[.string k]:=by
  have:=Aj.new (w.alloc (.cells #[.slice a ks.length c] 108)) 9 #[.string k]
  rwa [World.size_alloc,hwi]at this
 have hS:=Tryz.sort_Search 165 #[.pointer (some ⟨w.heap.size,0,none⟩),.pointer (some ⟨w.heap.size+1,0,none⟩)] ks.length (fun i=>(ks[i]?.map fun n=>Dp k (A7 n)).getD false) wi (fun _ _=>by kernel_rfl) (by omega)
  (fun m os i hi=>by
    have hB:=Pu wi m os;refine(Wg ks bs k a ks.length c w.heap.size (w.heap.size+1) i w.heap.size hi hn (grow (wi.drewN m) os) (h.below (hbi.trans (hB.mono hbi.size))) (hk.below (hbi.trans (hB.mono hbi.size))) ((hB.cell (p:=⟨w.heap.size,0,none⟩) hx1.lt).trans (hx1.cell 0)) ((hB.cell (p:=⟨w.heap.size+1,0,none⟩) hx2.lt).trans (hx2.cell 0))).mono ?_;rintro e w' ⟨rfl,rfl⟩;exact⟨rfl,1, #[],by rw[grow_empty];rfl⟩)
  (fun x y h1 h2 h3=>Akr ha hne x y h1 h2 h3)
 rw[Ahd ha hne]at hS;have hle:ks.findIdx (fun n=>Dp k (A7 n))<=ks.length:=List.findIdx_le_length;have hW:An ks k=ks.findIdx (fun n=>Dp k (A7 n)) - 1:=rfl;rw[hW]at hF;generalize ks.findIdx (fun n=>Dp k (A7 n))=P at hS hF hle;have d1:=hx1.cell 0;have d2:=hx2.cell 0;have l1:=hx1.lt;have l2:=hx2.lt;have hwr:IntKind.i64.wrap ((P:Int) - 1)=(P:Int) - 1:=IntWalk.i64_in _ (by omega);have hmx:((P - 1:Nat):Int)=max ((P:Int) - 1) 0:=by omega
 rw[hmx]at hF;obtain⟨HS,Hbi,H,HF⟩:=hid4 hS hbi h hF;clear hS hbi h hF;clear hx1 hx2 hW hmx;go_enter Tryz.func101,Tryz.ntmps101;go_upto_region 1 with(fail);clear hwi;go_wp2_with (fail);(with_reducible refine(HS.out).mono ?_);rintro e w1 ⟨rfl,q,os,rfl⟩;have HB:=qz (Hbi.out.trans ((Pu wi q os).mono Hbi.out.size));go_wp2;exact HF.out _ HB.out
end Go.Proofs.YtkmcjfkokoidcaaGreatDoor
namespace Go.Proofs.YtkmcjfkokoidcaaGreatDoor
open Go Go.RowKit
theorem At.slice_cap {S0:Nat->Prop} {b s:Nat} {t:TypeId} {wr:World} {l:List D} {V:Value} (h:At S0 b t s wr l V): ∃a c,V=.slice a l.length c/\l.length<=c:=by
 obtain⟨ns,h1,_⟩:=h;rcases h1.2 with⟨rfl,h0⟩|⟨g,cap,cur,rfl,_,_,hc,_⟩
 . exact⟨_,_,by rw[h0],by rw[h0];exact Nat.le_refl _⟩
 . exact⟨_,_,rfl,hc⟩
theorem At.mono {S0 T0:Nat->Prop} {b s:Nat} {t:TypeId} {wr:World} {l:List D} {V:Value} (h:At S0 b t s wr l V) (hST: ∀i,S0 i->T0 i):At T0 b t s wr l V:=by
 obtain⟨ns,h1,h2,h3⟩:=h;exact⟨ns,h1,h2,fun w'' k1 k2=>h3 w'' k1 fun p p1 p2=>k2 p ⟨hST _ p1.1,p1.2⟩ p2⟩
theorem At.blk {S0:Nat->Prop} {b s g n c:Nat} {t:TypeId} {wr:World} {l:List D} (h:At S0 b t s wr l (.slice (some ⟨g,0,none⟩) n c)): ∃cur,Aj wr g t cur:=by
 obtain⟨ns,h1,_⟩:=h;rcases h1.2 with⟨e,h0⟩|⟨g',cap,cur,e,_,hg,_⟩
 . cases e
 . cases e
   exact⟨cur,hg⟩
theorem An0 (es:List A5) (i:Nat) (e:A5):dO (es.set i e)=(dO es).set i (dP e):=by rw[Bo,Bo,List.map_set]
theorem Anz (es:List A5) (i:Nat) (e:A5):dO (es.take i++ [e]++es.drop i)=(dO es).take i++ [dP e]++(dO es).drop i:=by
 rw[Bo,Bo,List.map_append,List.map_append,List.map_take,List.map_drop];rfl
theorem P0 {w:World} {B:Nat} {k:ByteArray} {v:Val} {cs:List Value} (h:Ag w B (dV v) cs):Ag w B (dP (k,v)) (.string k::cs):=⟨[.string k],cs,rfl,⟨rfl,rfl⟩,cs, [],by simp,h,rfl⟩
theorem U4 {w:World} {B:Nat} {v:Val} {c0 c1 c2 c3 c4 c5:Value} (h:Ag w B (dV v) [c0,c1,c2,c3,c4,c5]): ∃k' b' n' t' la ln lc oa on oc,c0=.int .i64 k'/\c1=.bool b'/\c2=.int .i64 n'/\c3=.string t'/\c4=.slice la ln lc/\c5=.slice oa on oc:=by
 obtain⟨k,b,n,t,l,o⟩:=v;have h1:=Cg _ _ h;simp only[Ac]at h1;obtain⟨la,lc,oa,oc,e,_,_⟩:=h1;simp only[Ei,List.cons.injEq,and_true]at e;obtain⟨rfl,rfl,rfl,rfl,rfl,rfl⟩:=e;exact⟨_,_,_,_,_,_,_,_,_,_,rfl,rfl,rfl,rfl,rfl,rfl⟩
theorem Aaa (S:Nat->Prop) (es:List A5) (b:Nat) (k:ByteArray) (v:Val) (c0 c1 c2 c3 c4 c5:Value) (w:World) (h:Cd w w.heap.size (.leaf es) b) (h1:1<=es.length) (h8:es.length<=8) (ha:Ay es) (hv:Ag w w.heap.size (dV v) [c0,c1,c2,c3,c4,c5]) (hb:Ab es+Ab [(k,v)]<=100000000):
 Calls Tryz.prog 54 #[.pointer (some ⟨b,0,none⟩),.agg #[.string k,c0,c1,c2,c3,c4,c5]] w (SP S (Hh (Cf k v es)) w):=by
 obtain⟨k',b',n',t',la,ln,lc,oa,on,oc,rfl,rfl,rfl,rfl,rfl,rfl⟩:=U4 hv;obtain⟨PO,hPO⟩: ∃P:Ending->World->Prop,SP S (Hh (Cf k v es)) w=P:=⟨_,rfl⟩;rw[hPO];obtain⟨wi,hwi⟩: ∃wi,w.alloc (.cells #[.string k,.int .i64 k',(.bool b'),(.int .i64 n'),(.string t'),(.slice la ln lc),(.slice oa on oc)] 63)=wi:=⟨_,rfl⟩;have hbi:Below w.heap.size w wi:=hwi▸Aa _ _;have Hxi:Hid (Aj wi w.heap.size 63 #[.string k,.int .i64 k',(.bool b'),(.int .i64 n'),(.string t'),(.slice la ln lc),(.slice oa on oc)]):=hwi▸Aj.new _ _ _;have hsz:wi.heap.size=w.heap.size+1:=by rw[<-hwi];simp
 have hHt:=Cx (h.below hbi);rw[show Ms (.leaf es)=0 from by simp[Ms]]at hHt;have HEn:=qz (Je (h.later hbi) (by omega) (by omega:Ab es<=100000000));have hlen:=Ll (k:=k) (v:=v) es;have hasc:=Kd (k:=k) (v:=v) ha;have hbk:=O0 k v es;have hSp: ∀(W:World) (V':Value),Below w.heap.size w W->At (fun _=>True) wi.heap.size 63 7 W (dO (Cf k v es)) V'->Calls Tryz.prog 99 #[V',.func (.func 100) #[] #[]] W (SP S (Hh (Cf k v es)) W):=fun W V' hB hR=>by
  obtain⟨a,c,rfl,hc⟩:=hR.slice_cap;exact Ou S (Cf k v es) a _ c W hR.close hasc (by omega) hc (by omega)
 have hle:=Yr k es;have Hvi:=qz (P0 (k:=k) hv);obtain⟨HHt,Hbi,HPO,HSp,H⟩:=hid5 hHt hbi hPO hSp h;clear hHt hbi hPO hSp h;go_enter Tryz.func54,Tryz.ntmps54;go_upto_region 1 with(fail);go_wp2_with (fail);(with_reducible refine(HHt.out).mono ?_);rintro e w1 ⟨rfl,rfl⟩;go_wp2_with (fail);(with_reducible refine(HEn.out).mono ?_);rintro e w1 ⟨hb1,g,rfl,hR⟩;have Hbw1:=qz (Hbi.out.trans (hb1.mono Hbi.out.size));have hx1:=Hxi.out.below hb1 Hxi.out.lt;have HPl:=qz (Jz es k (some ⟨g,0,none⟩) es.length es.length w1 hR.close ha (by omega));have hg1:=hR.base g rfl;have d0:=hx1.cell 0;have lx:=hx1.lt;obtain⟨Hx1,HR⟩:=hid2 hx1 hR;clear hx1 hR;clear hb1;go_wp2_with (fail);(with_reducible refine(HPl.out).mono ?_);rintro e w2 ⟨rfl,hb2⟩;have hbw2:=Hbw1.out.trans (hb2.mono Hbw1.out.size);have hx2:=Hx1.out.below hb2 lx;have hR2:=(HR.out.below hb2).mono (T0:=fun _=>True) (fun _ _=>trivial);obtain⟨cur,hbg⟩:=hR2.blk;clear d0 lx hb2;have d0:=hx2.cell 0;have d1:=hx2.cell 1;have d2:=hx2.cell 2;have d3:=hx2.cell 3;have d4:=hx2.cell 4;have d5:=hx2.cell 5;have d6:=hx2.cell 6;have lx:=hx2.lt;have lg:=hbg.lt;have hxP:=Ah.of_old Hvi.out (Nat.le_refl _) hbw2;by_cases hh:Cb k es=true
 . have hlt:Do k es<es.length:=by
    rcases Nat.lt_or_ge (Do k es) es.length with h|h
    . exact h
    . unfold Cb at hh;rw[List.getElem?_eq_none h]at hh;simp at hh
   have ep:Cf k v es=es.set (Do k es) (k,v):=by rw[Qi,if_pos hh]
   rw[hh];generalize Do k es=P at hlt ep hle ⊢;obtain⟨ev,he⟩: ∃p,es[P]? =some p:=⟨_,List.getElem?_eq_getElem hlt⟩;obtain⟨g',off,e',_,u1,u2,u3,u4,u5,u6,_,r1⟩:=Et hR2.close he
   cases e'
   have s0:=r1 0 _ rfl;have s1:=r1 1 _ rfl;have s2:=r1 2 _ rfl;have s3:=r1 3 _ rfl;have s4:=r1 4 _ rfl;have s5:=r1 5 _ rfl;have s6:=r1 6 _ rfl;simp only[Nat.zero_add,Nat.add_zero]at s0 s1 s2 s3 s4 s5 s6;have fz:=hbg.frozen;have y1:(P:Int)<(es.length:Int):=by omega
   have y2:(0:Int)<=(P:Int):=by omega
   have hB5:Below w.heap.size w ((((((((w2).setCell ⟨g,P*7,none⟩ (.string k)).setCell ⟨g,P*7+1,none⟩ (.int .i64 k')).setCell ⟨g,P*7+2,none⟩ (.bool b')).setCell ⟨g,P*7+3,none⟩ (.int .i64 n')).setCell ⟨g,P*7+4,none⟩ (.string t')).setCell ⟨g,P*7+5,none⟩ (.slice la ln lc)).setCell ⟨g,P*7+6,none⟩ (.slice oa on oc)):=A4 [.string k,.int .i64 k',(.bool b'),(.int .i64 n'),(.string t'),(.slice la ln lc),(.slice oa on oc)] hbw2 (by omega) (o:=P*7);have hx7:Ah (fun i=>True/\g≠i) w2 (dP (k,v)) [.string k,.int .i64 k',(.bool b'),(.int .i64 n'),(.string t'),(.slice la ln lc),(.slice oa on oc)]:=hxP.mono fun i _ hi=>⟨trivial,by omega⟩;have h7:=hR2.put (i:=P) (d:=dP (k,v)) (ys:= [.string k,.int .i64 k',(.bool b'),(.int .i64 n'),(.string t'),(.slice la ln lc),(.slice oa on oc)]) (by rw[Av];exact hlt) (C7 _) hx7;clear hx7;have hR5:At (fun _=>True) wi.heap.size 63 7 ((((((((w2).setCell ⟨g,P*7,none⟩ (.string k)).setCell ⟨g,P*7+1,none⟩ (.int .i64 k')).setCell ⟨g,P*7+2,none⟩ (.bool b')).setCell ⟨g,P*7+3,none⟩ (.int .i64 n')).setCell ⟨g,P*7+4,none⟩ (.string t')).setCell ⟨g,P*7+5,none⟩ (.slice la ln lc)).setCell ⟨g,P*7+6,none⟩ (.slice oa on oc)) (dO (Cf k v es)) (.slice (some ⟨g,0,none⟩) es.length es.length):=by
    rw[ep,An0];exact h7
   obtain⟨HB5,HR5⟩:=hid2 hB5 hR5;clear hB5 hR5;clear h7;clear r1 he hbg hR2 hx2 hbw2 hxP HR HPl Hx1 Hbw1 Hxi Hbi;go_upto_region 7 with(fail);generalize (((((((w2).setCell ⟨g,P*7,none⟩ (.string k)).setCell ⟨g,P*7+1,none⟩ (.int .i64 k')).setCell ⟨g,P*7+2,none⟩ (.bool b')).setCell ⟨g,P*7+3,none⟩ (.int .i64 n')).setCell ⟨g,P*7+4,none⟩ (.string t')).setCell ⟨g,P*7+5,none⟩ (.slice la ln lc)).setCell ⟨g,P*7+6,none⟩ (.slice oa on oc)=w5 at HB5 HR5 ⊢;clear s0 s1 s2 s3 s4 s5 s6 d0 d1 d2 d3 d4 d5 d6 fz lx lg;go_wp2_with (fail);(with_reducible refine(HSp.out _ _ HB5.out HR5.out).mono ?_);rintro e w6 ⟨hb6,b6,q6,rfl,hN,hO⟩;have HP:Hid (PO (.returned (.tuple #[.pointer (some ⟨b6,0,none⟩),.pointer q6])) w6):=by
    show PO _ _;rw[<-HPO.out];exact⟨HB5.out.trans (hb6.mono HB5.out.size),b6,q6,rfl,hN.mono (Fq HB5.out.size),hO.mono (Fq HB5.out.size)⟩
   clear hb6 hN hO;go_wp2;exact HP.out
 . have hf:Cb k es=false:=by simpa using hh
   have ep:Cf k v es=es.take (Do k es)++ [(k,v)]++es.drop (Do k es):=by rw[Qi,if_neg hh]
   rw[hf];generalize Do k es=P at ep hle ⊢;have hb3:=Aa w2 (.cells #[.string k,.int .i64 k',(.bool b'),(.int .i64 n'),(.string t'),(.slice la ln lc),(.slice oa on oc)] 63);have hb23:=hbw2.alloc hbw2.size (.cells #[.string k,.int .i64 k',(.bool b'),(.int .i64 n'),(.string t'),(.slice la ln lc),(.slice oa on oc)] 63);have hx3:=Aj.new w2 63 #[.string k,.int .i64 k',(.bool b'),(.int .i64 n'),(.string t'),(.slice la ln lc),(.slice oa on oc)];have hR3:=hR2.below hb3;have hxP3:=Ah.of_old Hvi.out (Nat.le_refl _) hb23;have hI:=Abx wi.heap.size (w2.alloc (.cells #[.string k,.int .i64 k',(.bool b'),(.int .i64 n'),(.string t'),(.slice la ln lc),(.slice oa on oc)] 63)) g (P) w2.heap.size es (dP (k,v)) (.string k:: [(.int .i64 k'),(.bool b'),(.int .i64 n'),(.string t'),(.slice la ln lc),(.slice oa on oc)]) hR3 (by have:=hb23.size;simp at this ⊢;omega) hle (by omega) (C7 _) (hxP3.mono fun i _ hi=>⟨trivial,fun e=>by have:=Option.some.inj e;simp only at this;omega⟩) (fun j u hj=>(hx3.cell j).trans (by rw[<-Array.getElem?_toList];exact hj));rw[<-Anz,<-ep]at hI;obtain⟨HI,Hb23⟩:=hid2 hI hb23;clear hI hb23;clear hb3 hx3 hR3 hxP3 hbg hR2 hx2 hbw2 hxP HR HPl Hx1 Hbw1 Hxi Hbi;go_wp2_with (fail);(with_reducible refine(HI.out).mono ?_);rintro e w5 ⟨V',rfl,hR5,hg5⟩;have HB5:=qz (Hb23.out.grown hg5 Hb23.out.size (fun k hk=>by have:=Option.some.inj hk;omega));have HR5:=qz hR5;clear hR5 hg5 d0 d1 d2 d3 d4 d5 d6 lx lg HI;go_wp2_with (fail);(with_reducible refine(HSp.out _ _ HB5.out HR5.out).mono ?_);rintro e w6 ⟨hb6,b6,q6,rfl,hN,hO⟩;have HP:Hid (PO (.returned (.tuple #[.pointer (some ⟨b6,0,none⟩),.pointer q6])) w6):=by
    show PO _ _;rw[<-HPO.out];exact⟨HB5.out.trans (hb6.mono HB5.out.size),b6,q6,rfl,hN.mono (Fq HB5.out.size),hO.mono (Fq HB5.out.size)⟩
   clear hb6 hN hO;go_wp2;exact HP.out
theorem At.ptr {S0:Nat->Prop} {b s:Nat} {t:TypeId} {wr:World} {l:List D} {V:Value} (h:At S0 b t s wr l V) (hl:l≠ []): ∃g c,V=.slice (some ⟨g,0,none⟩) l.length c/\l.length<=c/\b<=g/\g<wr.heap.size:=by
 have hba:=h.base;obtain⟨ns,h1,_⟩:=h;rcases h1.2 with⟨rfl,h0⟩|⟨g,cap,cur,rfl,_,hg,hc,_⟩
 . exact absurd (List.eq_nil_of_length_eq_zero h0) hl
 . exact⟨g,cap,rfl,hc,hba g rfl⟩
theorem At.put1 {b:Nat} {t:TypeId} {w:World} {bs:List Nat} {g i n c p:Nat} (h:At (fun _=>False) b t 1 w (Bb bs) (.slice (some ⟨g,0,none⟩) n c)) (hi:i<bs.length):
 At (fun _=>False) b t 1 (w.setCell ⟨g,i,none⟩ (.pointer (some ⟨p,0,none⟩))) (Bb (bs.set i p)) (.slice (some ⟨g,0,none⟩) n c):=by
 have h1:=h.put (i:=i) (d:=dPt p) (ys:= [.pointer (some ⟨p,0,none⟩)]) (by rw[A8];exact hi) rfl (Kt _ _ p);rw[Nat.mul_one]at h1;have e:(Bb bs).set i (dPt p)=Bb (bs.set i p):=by unfold Bb;rw[List.map_set]
 rw[e]at h1;exact h1
theorem Aks {T:Nat} {ks:List Nd} {k:ByteArray} {v:Val} {x:Nd} (hx:ks[An ks k]? =some x):Jd T ks k v=(ks.set (An ks k) (C8 T x k v).1).take (An ks k+1)++(C8 T x k v).2.toList++(ks.set (An ks k) (C8 T x k v).1).drop (An ks k+1):=by
 have hlt:An ks k<ks.length:=(List.getElem?_eq_some_iff.1 hx).1;have eg:ks.getD (An ks k) (.leaf [])=x:=by rw[List.getD_eq_getElem?_getD,hx];rfl
 unfold Jd;rw[eg];generalize An ks k=p at hlt ⊢;have e1:(ks.set p (C8 T x k v).1).take (p+1)=ks.take p++ [(C8 T x k v).1]:=by
  rw[List.set_eq_take_append_cons_drop,if_pos hlt,List.take_append,List.length_take,Nat.min_eq_left (by omega),List.take_of_length_le (by rw[List.length_take];omega),show p+1 - p=1 from by omega];rfl
 have e2:(ks.set p (C8 T x k v).1).drop (p+1)=ks.drop (p+1):=by
  rw[List.drop_set_of_lt (by omega)]
 rw[e1,e2];simp
theorem Pp.later {S:Nat->Prop} {w w':World} {t:Option Nd} {p:Option Addr} (h:Pp S w t p) (hs:w.heap.size<=w'.heap.size) (hk: ∀i,S i->i<w.heap.size->w'.heap[i]? =w.heap[i]?):Pp S w' t p:=by
 cases t with
 |none=>exact h
 |some t=>
  obtain⟨b,e,h1⟩:=h;exact⟨b,e,h1.later hs hk⟩
theorem Aac (S:Nat->Prop) (T:Nat) (ks:List Nd) (lo b:Nat) (k:ByteArray) (v:Val) (c0 c1 c2 c3 c4 c5:Value) (w:World) (hS:Bm S w (.inner ks) b) (hn:Co lo (T+1) (.inner ks)) (hlo:2<=lo) (ha:Ay (Bg ks)) (hv:Ag w w.heap.size (dV v) [c0,c1,c2,c3,c4,c5]) (hT:T<=100000) (hN:(Bg ks).length+1<=100000000)
 (hb:Ab (Bg ks)+Ab [(k,v)]<=100000000) (hI0: ∀(S':Nat->Prop) (x:Nd) (b':Nat) (W:World),Bm S' W x b'->Co 4 T x->Ay (Bi x)->(Bi x).length+1<=100000000->Ab (Bi x)+Ab [(k,v)]<=100000000->Ag W W.heap.size (dV v) [c0,c1,c2,c3,c4,c5]->Calls Tryz.prog 54 #[.pointer (some ⟨b',0,none⟩),.agg #[.string k,c0,c1,c2,c3,c4,c5]] W (SP S' (C8 T x k v) W)):
 Calls Tryz.prog 54 #[.pointer (some ⟨b,0,none⟩),.agg #[.string k,c0,c1,c2,c3,c4,c5]] w (SP S (Hs (Jd T ks k v)) w):=by
 have h:Bm (fun i=>S i/\i<w.heap.size) w (.inner ks) b:=hS.mono fun i hi h=>⟨h,hi⟩;clear hS;obtain⟨k',b',n',t',la,ln,lc,oa,on,oc,rfl,rfl,rfl,rfl,rfl,rfl⟩:=U4 hv;obtain⟨x,hx,_,hxo,hxa,hxl,hxb,hflW,hokW,h2W,h9W⟩:=Akt k v hlo hn ha;have heW:=Aks (T:=T) (v:=v) hx;have hht:(Ms (.inner ks):Int)=(T:Int)+1:=by rw[Mc (.inl (by omega)) hn];rfl
 simp only[Co]at hn;obtain⟨hn2,hn8,hnk⟩:=hn;have hne: ∀k ∈ ks,Bi k≠ []:=fun y hy=>K9 (by omega) (hnk y hy);obtain⟨PO,hPO⟩: ∃P:Ending->World->Prop,SP S (Hs (Jd T ks k v)) w=P:=⟨_,rfl⟩;rw[hPO];obtain⟨wi,hwi⟩: ∃wi,w.alloc (.cells #[.string k,(.int .i64 k'),(.bool b'),(.int .i64 n'),(.string t'),(.slice la ln lc),(.slice oa on oc)] 63)=wi:=⟨_,rfl⟩;have hbi:Below w.heap.size w wi:=hwi▸Aa _ _;have Hxi:Hid (Aj wi w.heap.size 63 #[.string k,(.int .i64 k'),(.bool b'),(.int .i64 n'),(.string t'),(.slice la ln lc),(.slice oa on oc)]):=hwi▸Aj.new _ _ _;have hsz:wi.heap.size=w.heap.size+1:=by rw[<-hwi];simp
 have hHt:=Cx (h.now.below hbi);rw[hht]at hHt;have hz:(((T:Int)+1)==0)=false:=beq_eq_false_iff_ne.2 (by omega);have HKi:=qz (Fr (h.below hbi) (by omega) (by omega));have hlW:(Bg (Jd T ks k v)).length<=1000000000:=by
  rw[hflW];have:=Ll (k:=k) (v:=v) (Bg ks);omega
 have hSp: ∀(S0:Nat->Prop) (W:World) (V':Value) (bs':List Nat),Below w.heap.size w W->At (fun _=>False) wi.heap.size 24 1 W (Bb bs') V'->As S0 W (Jd T ks k v) bs'->Calls Tryz.prog 103 #[V',.func (.func 55) #[] #[]] W (SP S0 (Hs (Jd T ks k v)) W):=fun S0 W V' bs' hB hR hK=>by
  obtain⟨a,c,rfl,hc⟩:=hR.slice_cap;exact Wf S0 T (Jd T ks k v) bs' a _ c W hR.close hK (by rw[hflW];exact Kd ha) hokW (by omega) h9W hc (by omega) hlW
 have hlt:An ks k<ks.length:=(List.getElem?_eq_some_iff.1 hx).1;obtain⟨HHt,Hbi,HPO,HSp,H,Hv,HI0,HeW⟩:=hid8 hHt hbi hPO hSp h hv hI0 heW;clear hHt hbi hPO hSp h hv hI0 heW;clear hflW hokW h2W h9W hlW;go_enter Tryz.func54,Tryz.ntmps54;go_upto_region 1 with(fail);go_wp2_with (fail);(with_reducible refine(HHt.out).mono ?_);rintro e w1 ⟨rfl,rfl⟩;go_wp2_with (fail);(with_reducible refine(HKi.out).mono ?_);rintro e w1 ⟨bs,hks,hb1,V,rfl,hR⟩;have hbl:=hks.now.len;obtain⟨g,c,rfl,hcn,hg1,hg2⟩:=hR.ptr (by intro e;have:=congrArg List.length e;rw[A8,hbl,List.length_nil]at this;omega);rw[A8,hbl]at hR hcn ⊢;have Hbw1:=qz (Hbi.out.trans (hb1.mono Hbi.out.size));have hx1:=Hxi.out.below hb1 Hxi.out.lt;have hks1:=hks.below hb1;have HWh:=qz (Mk ks bs k (some ⟨g,0,none⟩) ks.length c w1 hR.close hks1.now ha hne (by omega));have d0:=hx1.cell 0;have lx:=hx1.lt;obtain⟨Hx1,HR,Hks1⟩:=hid3 hx1 hR hks1;clear hx1 hR hks1;clear hb1 hks;go_wp2_with (fail);(with_reducible refine(HWh.out).mono ?_);rintro e w2 ⟨rfl,hb2⟩;have hbw2:=Hbw1.out.trans (hb2.mono Hbw1.out.size);have hx2:=Hx1.out.below hb2 lx;have hR2:=HR.out.below hb2;have hks2:=Hks1.out.below hb2;clear d0 lx hb2;generalize An ks k=P at hx hlt HeW ⊢;obtain⟨bx,hbx,hnx⟩:=hks2.at_ hx;obtain⟨g',off,e',_,s1⟩:=Ka hR2.close hbx
 cases e'
 rw[Nat.zero_add]at s1;have hD2:=Below.drew (Below.refl w2.heap.size w2);have hbd:=hbw2.trans (hD2.mono hbw2.size);have HCx:=qz (HI0.out _ x bx w2.drew (hnx.below hD2) hxo hxa (by omega) (by omega) ((Hv.out.below hbd).more hbd.size));have hSS:(fun Y:World=>Y.cell? ⟨g,P,none⟩=some (.pointer (some ⟨bx,0,none⟩))/\Y.cell? ⟨w.heap.size,0,none⟩=some (.string k)/\Y.cell? ⟨w.heap.size,1,none⟩=some (.int .i64 k')/\Y.cell? ⟨w.heap.size,2,none⟩=some (.bool b')/\Y.cell? ⟨w.heap.size,3,none⟩=some (.int .i64 n')/\Y.cell? ⟨w.heap.size,4,none⟩=some (.string t')/\Y.cell? ⟨w.heap.size,5,none⟩=some (.slice la ln lc)/\Y.cell? ⟨w.heap.size,6,none⟩=some (.slice oa on oc)) w2.drew:=⟨s1,hx2.cell 0,hx2.cell 1,hx2.cell 2,hx2.cell 3,hx2.cell 4,hx2.cell 5,hx2.cell 6⟩;have hRd:=hR2.below hD2;have Hksd:=qz (hks2.below hD2);have hg3:g<w2.drew.heap.size:=(hRd.base g rfl).2;have hg4:wi.heap.size<=g:=(hRd.base g rfl).1;have y1:(P:Int)<(ks.length:Int):=by omega
 have y2:(0:Int)<=(P:Int):=by omega
 obtain⟨HRd,Hbd⟩:=hid2 hRd hbd;clear hRd hbd;clear hbw2 hR2 hks2 hnx hbx s1 hD2 HR Hks1 HWh Hbw1 Hx1 Hxi HKi HI0 HHt H Hv;go_upto_region 10 with(fail);refine wp_region_held_drew (S:=fun Y:World=>Y.cell? ⟨g,P,none⟩=some (.pointer (some ⟨bx,0,none⟩))/\Y.cell? ⟨w.heap.size,0,none⟩=some (.string k)/\Y.cell? ⟨w.heap.size,1,none⟩=some (.int .i64 k')/\Y.cell? ⟨w.heap.size,2,none⟩=some (.bool b')/\Y.cell? ⟨w.heap.size,3,none⟩=some (.int .i64 n')/\Y.cell? ⟨w.heap.size,4,none⟩=some (.string t')/\Y.cell? ⟨w.heap.size,5,none⟩=some (.slice la ln lc)/\Y.cell? ⟨w.heap.size,6,none⟩=some (.slice oa on oc)) (by kernel_rfl) hSS (fun hHeld=> ?_);have hlx:w.heap.size<w2.drew.heap.size:=hx2.drew.lt;generalize w2.drew=wd at HCx HRd Hksd Hbd hg3 hlx hHeld ⊢;clear hSS hx2;refine tkH 0 hHeld ?_;refine tkH 1 hHeld ?_;refine tkH 2 hHeld ?_;refine tkH 3 hHeld ?_;refine tkH 4 hHeld ?_;refine Ee 5 fun K hK=> ?_;go_simp;(with_reducible refine(HCx.out).mono ?_);rintro e w4 ⟨hb4,bA,q4,rfl,hnA,hoA⟩;have hHeld4:(fun Y:World=>Y.cell? ⟨g,P,none⟩=some (.pointer (some ⟨bx,0,none⟩))/\Y.cell? ⟨w.heap.size,0,none⟩=some (.string k)/\Y.cell? ⟨w.heap.size,1,none⟩=some (.int .i64 k')/\Y.cell? ⟨w.heap.size,2,none⟩=some (.bool b')/\Y.cell? ⟨w.heap.size,3,none⟩=some (.int .i64 n')/\Y.cell? ⟨w.heap.size,4,none⟩=some (.string t')/\Y.cell? ⟨w.heap.size,5,none⟩=some (.slice la ln lc)/\Y.cell? ⟨w.heap.size,6,none⟩=some (.slice oa on oc)) w4:=by
  have hc: ∀(j:Nat),w4.cell? ⟨w.heap.size,j,none⟩=wd.cell? ⟨w.heap.size,j,none⟩:=fun j=>hb4.cell (p:=⟨w.heap.size,j,none⟩) hlx;obtain⟨a0,a1,a2,a3,a4,a5,a6,a7⟩:=hHeld;exact⟨(hb4.cell (p:=⟨g,P,none⟩) hg3).trans a0,(hc _).trans a1,(hc _).trans a2,(hc _).trans a3,(hc _).trans a4,(hc _).trans a5,(hc _).trans a6,(hc _).trans a7⟩
 refine hK.out _ _ hHeld4 (fun hHeld=> ?_);clear hK K hHeld4;have Hbw4:=qz (Hbd.out.trans (hb4.mono Hbd.out.size));have HR4:=qz (HRd.out.below hb4);have Hks4:=qz (Hksd.out.below hb4);obtain⟨HnA,HoA⟩:=hid2 hnA hoA;clear hnA hoA;have Hbd0:=qz Hbd.out;clear hb4 HCx HRd Hksd Hbd
 try simp only[Act.put,tk1,tk2,tk3,tk4,tk5,tk6]
 refine tkH 6 hHeld ?_;refine tkH 7 hHeld ?_;refine tkH 8 hHeld ?_;refine tkH 9 hHeld ?_;refine tkH 10 hHeld ?_;refine wpAnyH_done (by kernel_rfl) ?_ _;obtain⟨s1,d0,d1,d2,d3,d4,d5,d6⟩:=hHeld;clear d0 d1 d2 d3 d4 d5 d6;obtain⟨cur,hbg⟩:=HR4.out.blk;have fz:=hbg.frozen;have lg:=hbg.lt;have hgi: ∀i,((S i/\i<w.heap.size)\/wd.heap.size<=i)->i≠g:=fun i i1=>by
  rcases i1 with⟨_,i1⟩|i1<;>omega
 have hnA5:Bm (fun i=>(S i/\i<w.heap.size)\/wd.heap.size<=i) (w4.setCell ⟨g,P,none⟩ (.pointer (some ⟨bA,0,none⟩))) (C8 T x k v).1 bA:=HnA.out.later (by simp[World.setCell]) fun i i1 _=>Below.heap_setCell _ _ _ _ (hgi i i1);have HoA5:Hid (Pp (fun i=>(S i/\i<w.heap.size)\/wd.heap.size<=i) (w4.setCell ⟨g,P,none⟩ (.pointer (some ⟨bA,0,none⟩))) (C8 T x k v).2 q4):=HoA.out.later (by simp[World.setCell]) fun i i1 _=>Below.heap_setCell _ _ _ _ (hgi i i1);have hks5:As (fun i=>(S i/\i<w.heap.size)) (w4.setCell ⟨g,P,none⟩ (.pointer (some ⟨bA,0,none⟩))) ks bs:=Hks4.out.later (by simp[World.setCell]) fun i i1 _=>Below.heap_setCell _ _ _ _ (hgi i (.inl i1));have HkA5:=qz ((hks5.mono (T:=fun i=>(S i/\i<w.heap.size)\/wd.heap.size<=i) fun i _ hi=> .inl hi).set P hnA5);have hR5:=HR4.out.put1 (i:=P) (p:=bA) (by omega);have HB5:=qz (Hbw4.out.setCell (p:=⟨g,P,none⟩) (by simp;omega) (.pointer (some ⟨bA,0,none⟩)));have hwd:w.heap.size<=wd.heap.size:=Hbd0.out.size;have hlen5:(bs.set P bA).length=ks.length:=by rw[List.length_set,hbl]
 have lg5:g<(w4.setCell ⟨g,P,none⟩ (.pointer (some ⟨bA,0,none⟩))).heap.size:=by simp only[World.setCell,Array.size_modify];exact lg
 have HR5:=qz hR5;clear hR5;clear hnA5 hks5 HR4 Hks4 HnA HoA Hbw4 hbg;go_upto_region 12 with(fail);generalize World.setCell w4 ⟨g,P,none⟩ (.pointer (some ⟨bA,0,none⟩))=w5 at HkA5 HoA5 HR5 HB5 lg5 ⊢;clear s1 fz lg;have hfin: ∀(w7:World) (e:Ending) (w6:World),Below w.heap.size w w7->SP (fun i=>(S i/\i<w.heap.size)\/wd.heap.size<=i) (Hs (Jd T ks k v)) w7 e w6->PO e w6:=fun w7 e w6 hB7 hP=>by
  obtain⟨hb6,b6,q6,rfl,hN,hO⟩:=hP;rw[<-HPO.out];have hz7:=hB7.size;have hmo: ∀i,i<w6.heap.size->(((S i/\i<w.heap.size)\/wd.heap.size<=i)\/w7.heap.size<=i)->(S i\/w.heap.size<=i):=fun i _ hi=>by
   rcases hi with(⟨hi,_⟩|hi)|hi
   . exact .inl hi
   . exact .inr (by omega)
   . exact .inr (by omega)
  exact⟨hB7.trans (hb6.mono hz7),b6,q6,rfl,hN.mono hmo,hO.mono hmo⟩
 have Hfin:=qz hfin;clear hfin;rcases hw2:(C8 T x k v).2 with _|m
 . rw[hw2]at HoA5 HeW;have hq:q4=none:=HoA5.out;subst hq;have hkW:As (fun i=>(S i/\i<w.heap.size)\/wd.heap.size<=i) w5 (Jd T ks k v) (bs.set P bA):=by
    rw[HeW.out];simpa using HkA5.out
   have HC:=qz (HSp.out _ w5 _ _ HB5.out HR5.out hkW);have HB:=qz HB5.out;clear hkW HkA5 HoA5 HR5 HB5 HSp HeW;go_wp2_with (fail);(with_reducible refine(HC.out).mono ?_);intro e w6 hP;have HP:=qz (Hfin.out _ _ _ HB.out hP);obtain⟨_,b6,q6,rfl,_,_⟩:=hP;clear HC;go_wp2;exact HP.out
 . rw[hw2]at HoA5 HeW;obtain⟨b2,rfl,hm⟩: ∃b2,q4=some ⟨b2,0,none⟩/\Bm (fun i=>(S i/\i<w.heap.size)\/wd.heap.size<=i) w5 m b2:=HoA5.out;have hRR:At (fun _=>False) wi.heap.size 24 1 (w5.alloc (.cells #[.pointer (some ⟨b2,0,none⟩)] 24)) (Bb (bs.set P bA)) (.slice (some ⟨g,0,none⟩) (bs.set P bA).length c):=by
    rw[hlen5];exact HR5.out.below (Aa _ _)
   have HB6:=qz (HB5.out.alloc HB5.out.size (.cells #[.pointer (some ⟨b2,0,none⟩)] 24));have hI:=Aby wi.heap.size (w5.alloc (.cells #[.pointer (some ⟨b2,0,none⟩)] 24)) g c (P+1) w5.heap.size b2 (bs.set P bA) hRR (by simp;omega) (by omega) (by omega) (Aj.new _ _ _) (by omega);rw[hlen5,show((P+1:Nat):Int)=(P:Int)+1 from by omega]at hI;have hwr:IntKind.i64.wrap ((P:Int)+1)=(P:Int)+1:=IntWalk.i64_in _ (by omega);obtain⟨HI,Hm⟩:=hid2 hI hm;clear hI hm;clear hRR;go_wp2_with (fail);(with_reducible refine(HI.out).mono ?_);rintro e w7 ⟨V',rfl,hR7,hg7⟩;have hB7:=HB6.out.grown hg7 HB6.out.size (fun j hj=>by have:=Option.some.inj hj;omega);have hk57: ∀i,((S i/\i<w.heap.size)\/wd.heap.size<=i)->i<w5.heap.size->w7.heap[i]? =w5.heap[i]? :=fun i i1 i2=>by
    rw[hg7.block i (by simp;omega) (fun e=>hgi i i1 (Option.some.inj e))];exact(Aa w5 (.cells #[.pointer (some ⟨b2,0,none⟩)] 24)).block i i2
   have hz57:w5.heap.size<=w7.heap.size:=by have:=hg7.size;simp at this;omega
   have hkA7:=HkA5.out.later hz57 hk57;have hm7:=Hm.out.later hz57 hk57;have hkW:As (fun i=>(S i/\i<w.heap.size)\/wd.heap.size<=i) w7 (Jd T ks k v) ((bs.set P bA).take (P+1)++ [b2]++(bs.set P bA).drop (P+1)):=by
    rw[HeW.out];exact((hkA7.split (P+1)).1.app (As.one hm7)).app (hkA7.split (P+1)).2
   have HC:=qz (HSp.out _ w7 _ _ hB7 hR7 hkW);have HB:=qz hB7;clear hkW hkA7 hm7 hk57 hB7 hR7 hg7 HkA5 HoA5 HR5 HB5 HSp HeW HI HB6 Hm;go_wp2_with (fail);(with_reducible refine(HC.out).mono ?_);intro e w6 hP;have HP:=qz (Hfin.out _ _ _ HB.out hP);obtain⟨_,b6,q6,rfl,_,_⟩:=hP;clear HC;go_wp2;exact HP.out
theorem Sj (k:ByteArray) (v:Val) (c0 c1 c2 c3 c4 c5:Value): ∀(T:Nat) (S:Nat->Prop) (n:Nd) (lo b:Nat) (w:World),Bm S w n b->Co lo T n->0<lo->(0<T->2<=lo)->Ay (Bi n)->T<=100000->(Bi n).length+1<=100000000->Ab (Bi n)+Ab [(k,v)]<=100000000->Ag w w.heap.size (dV v) [c0,c1,c2,c3,c4,c5]->
 Calls Tryz.prog 54 #[.pointer (some ⟨b,0,none⟩),.agg #[.string k,c0,c1,c2,c3,c4,c5]] w (SP S (C8 T n k v) w)
 |0,S,.leaf es,lo,b,w,h,hn,hlo,_,ha,_,_,hb,hv=>by
  simp only[Co]at hn;exact Aaa S es b k v c0 c1 c2 c3 c4 c5 w h.now (by omega) hn.2 ha hv hb
 |0,_,.inner ks,_,_,_,_,hn,_,_,_,_,_,_,_=>absurd hn (by simp[Co])
 |T+1,_,.leaf es,_,_,_,_,hn,_,_,_,_,_,_,_=>absurd hn (by simp[Co])
 |T+1,S,.inner ks,lo,b,w,h,hn,_,h2,ha,hT,hN,hb,hv=>
  Aac S T ks lo b k v c0 c1 c2 c3 c4 c5 w h hn (h2 (by omega)) ha hv (by omega) hN hb fun S' x b' W hx hxo hxa hxl hxb hvW=>Sj k v c0 c1 c2 c3 c4 c5 T S' x 4 b' W hx hxo (by omega) (fun _=>by omega) hxa (by omega) hxl hxb hvW
theorem Q8 (w:World):Calls Tryz.prog 92 #[.pointer none] w fun e w'=>e=.returned (.slice none 0 0)/\w=w':=by
 go_enter Tryz.func92,Tryz.ntmps92;go_wp2;go_ret;exact⟨rfl,rfl⟩
theorem Aab (S:Nat->Prop) (k:ByteArray) (v:Val) (c0 c1 c2 c3 c4 c5:Value) (w:World) (hv:Ag w w.heap.size (dV v) [c0,c1,c2,c3,c4,c5]) (hb:Ab [(k,v)]<=100000000):
 Calls Tryz.prog 54 #[.pointer none,.agg #[.string k,c0,c1,c2,c3,c4,c5]] w (SP S (.leaf [(k,v)],none) w):=by
 obtain⟨k',b',n',t',la,ln,lc,oa,on,oc,rfl,rfl,rfl,rfl,rfl,rfl⟩:=U4 hv;obtain⟨PO,hPO⟩: ∃P:Ending->World->Prop,SP S (.leaf [(k,v)],none) w=P:=⟨_,rfl⟩;rw[hPO];obtain⟨wi,hwi⟩: ∃wi,w.alloc (.cells #[.string k,(.int .i64 k'),(.bool b'),(.int .i64 n'),(.string t'),(.slice la ln lc),(.slice oa on oc)] 63)=wi:=⟨_,rfl⟩;have Hbi:Hid (Below w.heap.size w wi):=hwi▸Aa _ _;have hxi:Aj wi w.heap.size 63 #[.string k,(.int .i64 k'),(.bool b'),(.int .i64 n'),(.string t'),(.slice la ln lc),(.slice oa on oc)]:=hwi▸Aj.new _ _ _;have HHt:=qz (Kv wi);have HEn:=qz (Q8 wi);have HPl:=qz (Jz [] k none 0 0 wi ⟨none,0,rfl,fun d hd=>(by cases hd), [],rfl,.inl rfl⟩ (by simp[Ay]) (by simp));have Hvi:=qz (P0 (k:=k) hv);have hSp: ∀(W:World) (V':Value),Below w.heap.size w W->At (fun _=>True) w.heap.size 63 7 W (dO [(k,v)]) V'->Calls Tryz.prog 99 #[V',.func (.func 100) #[] #[]] W (SP S (.leaf [(k,v)],none) W):=fun W V' hB hR=>by
  obtain⟨a,c,rfl,hc⟩:=hR.slice_cap;exact Ou S [(k,v)] a _ c W hR.close (by simp[Ay]) (by simp) hc hb
 have d0:=hxi.cell 0;have lx:=hxi.lt;obtain⟨Hxi,HPO,HSp⟩:=hid3 hxi hPO hSp;clear hxi hPO hSp;go_enter Tryz.func54,Tryz.ntmps54;go_upto_region 1 with(fail);go_wp2_with (fail);(with_reducible refine(HHt.out).mono ?_);rintro e w1 ⟨rfl,rfl⟩;go_wp2_with (fail);(with_reducible refine(HEn.out).mono ?_);rintro e w1 ⟨rfl,rfl⟩;go_wp2_with (fail);(with_reducible refine(HPl.out).mono ?_);rintro e w2 ⟨rfl,hb2⟩;have hbw2:=Hbi.out.trans (hb2.mono Hbi.out.size);have hx2:=Hxi.out.below hb2 lx;clear d0 lx hb2;have d0:=hx2.cell 0;have d1:=hx2.cell 1;have d2:=hx2.cell 2;have d3:=hx2.cell 3;have d4:=hx2.cell 4;have d5:=hx2.cell 5;have d6:=hx2.cell 6;have lx:=hx2.lt;have hb23:=hbw2.alloc hbw2.size (.cells #[.string k,(.int .i64 k'),(.bool b'),(.int .i64 n'),(.string t'),(.slice la ln lc),(.slice oa on oc)] 63);have hx3:=Aj.new w2 63 #[.string k,(.int .i64 k'),(.bool b'),(.int .i64 n'),(.string t'),(.slice la ln lc),(.slice oa on oc)];have hxP3:=Ah.of_old Hvi.out (Nat.le_refl _) hb23;have hI:=Abw w.heap.size (w2.alloc (.cells #[.string k,(.int .i64 k'),(.bool b'),(.int .i64 n'),(.string t'),(.slice la ln lc),(.slice oa on oc)] 63)) (.slice none 0 0) 0 [] (World.ownsRow_nil _ _ _ _) (by have:=hb23.size;simp at this ⊢;omega) (by omega) w2.heap.size [.string k,(.int .i64 k'),(.bool b'),(.int .i64 n'),(.string t'),(.slice la ln lc),(.slice oa on oc)] rfl (fun j u hj=>(hx3.cell j).trans (by rw[<-Array.getElem?_toList];exact hj)) (hxP3.now.len.2);rw[show((0:Nat):Int)=0 from rfl]at hI;obtain⟨HI,Hb23,HxP3⟩:=hid3 hI hb23 hxP3;clear hI hb23 hxP3;clear hx3 hx2 hbw2 HPl Hxi Hbi;have hat:Do k ([]:List A5)=0:=rfl;have hht:Cb k ([]:List A5)=false:=rfl;rw[hat,hht];go_wp2_with (fail);(with_reducible refine(HI.out).mono ?_);rintro e w5 ⟨V',rfl,hR5,hg5,ha5⟩;have HB5:=qz (Hb23.out.grown hg5 Hb23.out.size (fun k hk=>by cases hk));have HR5:Hid (At (fun _=>True) w.heap.size 63 7 w5 (dO [(k,v)]) V'):=by
  refine⟨_,hR5,Es _,Aw.one ?_⟩;exact Ah.grow (V:=.slice none 0 0) (S0:=fun _=>True) (HxP3.out.mono fun i _ _=>⟨trivial,by simp[Value.ownBlock]⟩) hg5 ha5
 clear hR5 hg5 ha5 d0 d1 d2 d3 d4 d5 d6 lx HI;go_wp2_with (fail);(with_reducible refine(HSp.out _ _ HB5.out HR5.out).mono ?_);rintro e w6 ⟨hb6,b6,q6,rfl,hN,hO⟩;have HP:Hid (PO (.returned (.tuple #[.pointer (some ⟨b6,0,none⟩),.pointer q6])) w6):=by
  show PO _ _;rw[<-HPO.out];exact⟨HB5.out.trans (hb6.mono HB5.out.size),b6,q6,rfl,hN.mono (Fq HB5.out.size),hO.mono (Fq HB5.out.size)⟩
 clear hb6 hN hO;go_wp2;exact HP.out
def Eo (S:Nat->Prop) (w:World):Option (Nat×Nd)->Option Addr->Prop
 |none,p=>p=none
 |some (_,n),p=> ∃b,p=some ⟨b,0,none⟩/\Bm S w n b
def htT:Option (Nat×Nd)->Nat
 |none=>0
 |some (h,_)=>h
theorem Eo.mono {S T:Nat->Prop} {w:World} {t:Option (Nat×Nd)} {p:Option Addr} (h:Eo S w t p) (hST: ∀i,i<w.heap.size->S i->T i):Eo T w t p:=by
 cases t with
 |none=>exact h
 |some t=>
  obtain⟨b,e,h1⟩:=h;exact⟨b,e,h1.mono hST⟩
theorem Eo.later {S:Nat->Prop} {w w':World} {t:Option (Nat×Nd)} {p:Option Addr} (h:Eo S w t p) (hs:w.heap.size<=w'.heap.size) (hk: ∀i,S i->i<w.heap.size->w'.heap[i]? =w.heap[i]?):Eo S w' t p:=by
 cases t with
 |none=>exact h
 |some t=>
  obtain⟨b,e,h1⟩:=h;exact⟨b,e,h1.later hs hk⟩
theorem Eo.below {S:Nat->Prop} {w w':World} {t:Option (Nat×Nd)} {p:Option Addr} (h:Eo S w t p) (hb:Below w.heap.size w w'):Eo S w' t p:=h.later hb.size fun i _ hi=>hb.block i hi
def Iv (S:Nat->Prop) (t:Option (Nat×Nd)) (w:World) (e:Ending) (w':World):Prop:=Below w.heap.size w w'/\ ∃p,e=.returned (.agg #[.pointer p])/\Eo (fun i=>S i\/w.heap.size<=i) w' t p
def Uz (r:Nd×Option Nd):Nd:=match r.2 with
 |none=>r.1
 |some m=>Cu [r.1,m]
def Kl (t:Option (Nat×Nd)) (k:ByteArray) (v:Val):Nd×Option Nd:=match t with
 |none=>(.leaf [(k,v)],none)
 |some (h,n)=>C8 h n k v
theorem Aig (t:Option (Nat×Nd)) (k:ByteArray) (v:Val): ∃h,Lm t k v=some (h,Uz (Kl t k v)):=by
 cases t with
 |none=>exact⟨0,rfl⟩
 |some t=>
  obtain⟨h,n⟩:=t;simp only[Lm,Kl,Uz];rcases C8 h n k v with⟨a,_|m⟩
  . exact⟨h,rfl⟩
  . exact⟨h+1,rfl⟩
theorem Mi {fn:Func} {t:Tmp} {tmps:Array Value} {W:World} {R:Nat} {a:Value} (h:fn.results= #[.cell t 26]) (hp:tmps.getD t undef=.pointer (some ⟨R,0,none⟩)) (hx:W.cell? ⟨R,0,none⟩=some a):
 (results fn tmps).run Tryz.prog W=.ok (.agg #[a]) W:=by
 have hp':tmps[t]?.getD undef=.pointer (some ⟨R,0,none⟩):=by simpa using hp
 simp[results,h,hp',go_sem,hx]
theorem Pg (S:Nat->Prop) (t:Option (Nat×Nd)) (p:Option Addr) (k:ByteArray) (v:Val) (c0 c1 c2 c3 c4 c5:Value) (w:World) (hS:Eo S w t p) (hok:Pa t) (hT:htT t<=90000) (hN:(Ba t).length+1<=100000000) (hb:Ab (Ba t)+Ab [(k,v)]<=100000000) (hv:Ag w w.heap.size (dV v) [c0,c1,c2,c3,c4,c5]):
 Calls Tryz.prog 28 #[.agg #[.pointer p],.string k,.agg #[c0,c1,c2,c3,c4,c5]] w (Iv S (Lm t k v) w):=by
 have ht:=hS.mono (T:=fun i=>S i/\i<w.heap.size) fun i hi h=>⟨h,hi⟩;clear hS;obtain⟨PO,hPO⟩: ∃P:Ending->World->Prop,Iv S (Lm t k v) w=P:=⟨_,rfl⟩;rw[hPO];have hrr:Wz (Kl t k v)=Cf k v (Ba t)/\ ∀m,(Kl t k v).2=some m->Co 4 (htT t) (Kl t k v).1/\Co 4 (htT t) m:=by
  cases t with
  |none=>exact⟨rfl,fun m e=>by cases e⟩
  |some t=>
   obtain⟨h,n⟩:=t;obtain⟨hn,ha⟩:=hok;obtain⟨l1,l2,l3⟩:=Fb h;obtain⟨i1,i2,i3⟩:=Qs h (k:=k) (v:=v) (by omega:F8 h<=4) (.inl l2) l3 hn ha;exact⟨i1,i3⟩
 have hasc:Ay (Ba t):=by
  cases t with
  |none=>exact List.Pairwise.nil
  |some t=>exact hok.2
 have hWi: ∀W,Below w.heap.size w W->Calls Tryz.prog 54 #[.pointer p,.agg #[.string k,c0,c1,c2,c3,c4,c5]] W (SP (fun i=>S i/\i<w.heap.size) (Kl t k v) W):=fun W hW=>by
  cases t with
  |none=>
   cases ht
   exact Aab _ k v c0 c1 c2 c3 c4 c5 W ((hv.below hW).more hW.size) (by omega)
  |some t=>
   obtain⟨h,n⟩:=t;obtain⟨hn,ha⟩:=hok;obtain⟨b,rfl,hb'⟩:=ht;obtain⟨l1,l2,l3⟩:=Fb h;exact Sj k v c0 c1 c2 c3 c4 c5 h _ n (F8 h) b W (hb'.below hW) hn l2 l3 ha (by have:h<=90000:=hT;omega) hN hb ((hv.below hW).more hW.size)
 obtain⟨hgt,hpt⟩:=Aig t k v;obtain⟨k',b',n',t',la,ln,lc,oa,on,oc,rfl,rfl,rfl,rfl,rfl,rfl⟩:=U4 hv;have hfin: ∀(W:World) (b:Nat),Below w.heap.size w W->Bm (fun i=>S i\/w.heap.size<=i) W (Uz (Kl t k v)) b->PO (.returned (.agg #[.pointer (some ⟨b,0,none⟩)])) W:=fun W b hW hN=>by
  rw[<-hPO,hpt];exact⟨hW,_,rfl,b,rfl,hN⟩
 obtain⟨w3,hw3⟩: ∃w3,((w.alloc (.cells #[.pointer p] 26)).alloc (.cells #[.int .i64 k',.bool b',.int .i64 n',.string t',.slice la ln lc,.slice oa on oc] 37)).alloc (.cells #[.pointer none] 26)=w3:=⟨_,rfl⟩;have hb3:Below w.heap.size w w3:=hw3▸((Aa w (.cells #[.pointer p] 26)).alloc (by simp) _).alloc (by simp;omega) _;have hx3:Aj w3 (w.heap.size+1+1) 26 #[.pointer none]:=by
  have:=Aj.new ((w.alloc (.cells #[.pointer p] 26)).alloc (.cells #[.int .i64 k',.bool b',.int .i64 n',.string t',.slice la ln lc,.slice oa on oc] 37)) 26 #[.pointer none]
  rwa [World.size_alloc,World.size_alloc,hw3]at this
 have hx1:Aj w3 w.heap.size 26 #[.pointer p]:=hw3▸((Aj.new w 26 #[.pointer p]).alloc _).alloc _;have hx2:Aj w3 (w.heap.size+1) 37 #[.int .i64 k',.bool b',.int .i64 n',.string t',.slice la ln lc,.slice oa on oc]:=by
  have:=(Aj.new (w.alloc (.cells #[.pointer p] 26)) 37 #[.int .i64 k',.bool b',.int .i64 n',.string t',.slice la ln lc,.slice oa on oc]).alloc (.cells #[.pointer none] 26)
  rwa [World.size_alloc,hw3]at this
 have e0:=hx1.cell 0;obtain⟨v0,v1,v2,v3,v4,v5⟩:=Bp hx2;have m1:=hx1.lt;have m2:=hx2.lt;clear hx1 hx2;have HC:=qz (hWi w3 hb3);obtain⟨Hfin,Hb3,Hx3,Hrr⟩:=hid4 hfin hb3 hx3 hrr;clear hfin hb3 hx3 hrr;clear hWi hPO ht hv hpt;go_enter Tryz.func28,Tryz.ntmps28;go_wp2_with (fail);clear e0 v0 v1 v2 v3 v4 v5 m1 m2;(with_reducible refine(HC.out).mono ?_);rintro e w4 ⟨hb4,b1,q,rfl,hN1,hO1⟩;have hw4:=Hb3.out.trans (hb4.mono Hb3.out.size);have hx4:=Hx3.out.below hb4 Hx3.out.lt;have d0:=hx4.cell 0;have fz:=hx4.frozen;have lx:=hx4.lt;have hz3:=Hb3.out.size;have hz4:=hb4.size;have hl3:=Hx3.out.lt;clear hw3;rcases hr2:(Kl t k v).2 with _|m
 . rw[hr2]at hO1
   cases hO1
   have hrt:Uz (Kl t k v)=(Kl t k v).1:=by unfold Uz;rw[hr2]
   have hxf:=(hx4.set_ 0 (.pointer (some ⟨b1,0,none⟩))).cell 0;have hBf:=hw4.setCell (p:=⟨w.heap.size+1+1,0,none⟩) (by simp;omega) (.pointer (some ⟨b1,0,none⟩));have hNf:Bm (fun i=>(S i/\i<w.heap.size)\/w3.heap.size<=i) (w4.setCell ⟨w.heap.size+1+1,0,none⟩ (.pointer (some ⟨b1,0,none⟩))) (Kl t k v).1 b1:=hN1.later (by simp[World.setCell]) fun i i1 _=>Below.heap_setCell _ _ _ _ (by rcases i1 with⟨_,i1⟩|i1<;>(simp;omega));have HP:=qz (Hfin.out _ b1 hBf (hrt▸hNf.mono fun i _ hi=>hi.imp (fun h=>h.1) (fun h=>by omega)));have Hxf:=qz hxf;clear hxf;clear hBf hNf hw4 hb4 hN1 hx4 hr2 hrt;go_wp2_with (fail);exact bodyPost_ret (Mi rfl rfl Hxf.out) rfl HP.out
 . rw[hr2]at hO1;obtain⟨b2,rfl,hN2⟩:=hO1;obtain⟨o1,o2⟩:=Hrr.out.2 m hr2;have hrt:Uz (Kl t k v)=Cu [(Kl t k v).1,m]:=by unfold Uz;rw[hr2]
   have hfl:Bg [(Kl t k v).1,m]=Cf k v (Ba t):=by
    rw[<-Hrr.out.1];unfold Wz;rw[hr2];simp[Bg]
   have hb5:=Aa w4 (.cells #[.pointer (some ⟨b1,0,none⟩),.pointer (some ⟨b2,0,none⟩)] 24);have Hw5:=qz (hw4.alloc hw4.size (.cells #[.pointer (some ⟨b1,0,none⟩),.pointer (some ⟨b2,0,none⟩)] 24));have Hx5:=qz (hx4.alloc (.cells #[.pointer (some ⟨b1,0,none⟩),.pointer (some ⟨b2,0,none⟩)] 24));have hv5:=Aj.new w4 24 #[.pointer (some ⟨b1,0,none⟩),.pointer (some ⟨b2,0,none⟩)];have hK:=(As.one (hN1.below hb5)).app (As.one (hN2.below hb5));have hRow:Ag (w4.alloc (.cells #[.pointer (some ⟨b1,0,none⟩),.pointer (some ⟨b2,0,none⟩)] 24)) (w4.alloc (.cells #[.pointer (some ⟨b1,0,none⟩),.pointer (some ⟨b2,0,none⟩)] 24)).heap.size (.row 1 (Bb [b1,b2])) [.slice (some ⟨w4.heap.size,0,none⟩) 2 2]:=
    ⟨_,2,rfl,O3 _, [.pointer (some ⟨b1,0,none⟩),.pointer (some ⟨b2,0,none⟩)],⟨[_], [_],rfl,⟨rfl,rfl⟩, [_], [],rfl,⟨rfl,rfl⟩,rfl⟩,.inr ⟨w4.heap.size,0,rfl,hv5.lt,fun j u hj=>by
      rw[Nat.zero_add];exact(hv5.cell j).trans (by rw[<-Array.getElem?_toList];exact hj)⟩⟩
   have hI:=Df (fun i=>(S i/\i<w.heap.size)\/w3.heap.size<=i) (htT t) [(Kl t k v).1,m] [b1,b2] _ 2 2 _ hRow hK (by rw[hfl];exact Kd hasc) (fun y hy=>by
    simp only[List.mem_cons,List.not_mem_nil,or_false]at hy;rcases hy with rfl|rfl
    . exact o1
    . exact o2) (by simp) (by simp) (by omega) (by
    rw[hfl];have:=Ll (k:=k) (v:=v) (Ba t);omega)
   rw[<-hrt]at hI;have hz5:w4.heap.size<(w4.alloc (.cells #[.pointer (some ⟨b1,0,none⟩),.pointer (some ⟨b2,0,none⟩)] 24)).heap.size:=hv5.lt;have HI:=qz hI;clear hI;clear hK hRow hv5 hb5 hN1 hN2 hr2 hrt hfl o1 o2 hx4 hw4 hb4 d0 fz lx;go_wp2_with (fail);(with_reducible refine(HI.out).mono ?_);rintro e w6 ⟨hb6,b6,rfl,hN6⟩;have hw6:=Hw5.out.trans (hb6.mono Hw5.out.size);have hx6:=Hx5.out.below hb6 Hx5.out.lt;have d0:=hx6.cell 0;have fz:=hx6.frozen;have lx:=hx6.lt;have hxf:=(hx6.set_ 0 (.pointer (some ⟨b6,0,none⟩))).cell 0;have hBf:=hw6.setCell (p:=⟨w.heap.size+1+1,0,none⟩) (by simp;omega) (.pointer (some ⟨b6,0,none⟩));have hNf:=hN6.later (w':=w6.setCell ⟨w.heap.size+1+1,0,none⟩ (.pointer (some ⟨b6,0,none⟩))) (by simp[World.setCell]) fun i i1 _=>Below.heap_setCell _ _ _ _ (by rcases i1 with(⟨_,i1⟩|i1)|i1<;>(simp;omega));have HP:=qz (Hfin.out _ b6 hBf (hNf.mono fun i _ hi=>hi.elim (fun h=>h.imp (fun h=>h.1) (fun h=>by omega)) (fun h=> .inr (by omega))));have Hxf:=qz hxf;clear hxf;clear hBf hNf hw6 hb6 hN6 hx6 HI Hw5 Hx5;go_wp2_with (fail);exact bodyPost_ret (Mi rfl rfl Hxf.out) rfl HP.out
end Go.Proofs.YtkmcjfkokoidcaaGreatDoor
