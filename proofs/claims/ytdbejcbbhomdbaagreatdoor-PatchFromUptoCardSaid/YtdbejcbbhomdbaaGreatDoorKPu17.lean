/- Parts: tree.whichKid: the kid in which a key is, or belongs. Condition: at most 1000 kids, rising. -/
import Derived.Test.YtdbejcbbhomdbaaGreatDoorZPuShelfO
import Derived.Shelf.SlSorted.Search
import Derived.Test.YtdbejcbbhomdbaaGreatDoorKPu13
set_option maxHeartbeats 20000000
set_option maxRecDepth 100000
namespace Go.Proofs.YtdbejcbbhomdbaaGreatDoor
open Go Go.RowKit
theorem Yd {S0:Nat->Prop} (b:Nat) (w:World) (g i vb:Nat) (es:List A0) (d:D) (ys:List Value) (hV:An S0 b 84 7 w (dO es) (.slice (some ⟨g,0,none⟩) es.length es.length)) (hb:b<=w.heap.size) (hi:i<=es.length) (hn:es.length<=1000)
 (hd:d.cells=7) (hx:Ag (fun i=>S0 i/\(Value.slice (some ⟨g,0,none⟩) es.length es.length).ownBlock≠some i) w d ys) (hvs: ∀j v,ys[j]? =some v->w.cell? ⟨vb,j,none⟩=some v):
 Calls Tryz.prog 128 #[.slice (some ⟨g,0,none⟩) es.length es.length,.int .i64 i,.slice (some ⟨vb,0,none⟩) 1 1] w fun e w'=> ∃V',e=.returned V'/\An S0 b 84 7 w' ((dO es).take i++ [d]++(dO es).drop i) V'/\w.grownBy w' (some g):=by
 obtain⟨ns,h1,h2,h3⟩:=hV;rw[Az]at h1;obtain⟨hyl,hy1⟩:=hx.now.len;rw[hd]at hyl;have hnl:ns.length=es.length*7:=by rw[h3.now.len.1,Da h2,Az]
 have h1x:=h3.now.len.2;rcases Nat.lt_or_ge i es.length with hlt|hge
 . rcases h1.2 with⟨e,_⟩|⟨g',cap,cur,e,hbg,hg,hnc,hcm,hcs,hcx⟩
   . cases e
   . cases e
     refine(Vr b w g es.length i cur ns hb hg hcs hcx hlt hn h1x vb ys hyl hvs hy1).mono ?_;rintro e w' ⟨V',rfl,k1,k2,k3⟩;exact⟨V',rfl,An.of_ins k1 h2 hd h3 hx (Eo k2) (.inr k3) (by rw[Az]),Eo k2⟩
 . obtain rfl:i=es.length:=by omega
   refine(Rt b w _ es.length ns h1 hb hn vb ys hyl hvs hy1).mono ?_;rintro e w' ⟨V',rfl,k1,k2,k3⟩;refine⟨V',rfl,An.of_ins (ns:=ns) (V:=.slice (some ⟨g,0,none⟩) es.length es.length) ?_ h2 hd h3 hx k2 k3 (by rw[Az]),k2⟩;rw[List.take_of_length_le (by omega),List.drop_eq_nil_of_le (by omega),List.append_nil];exact k1
theorem Yf (b:Nat) (w:World) (g cap i vb p:Nat) (bs:List Nat) (hV:An (fun _=>False) b 43 1 w (Av bs) (.slice (some ⟨g,0,none⟩) bs.length cap)) (hb:b<=w.heap.size) (hi:i<=bs.length) (hn:bs.length<=1000)
 (hvb:Ao w vb 43 #[.pointer (some ⟨p,0,none⟩)]) (hne:vb≠g):
 Calls Tryz.prog 132 #[.slice (some ⟨g,0,none⟩) bs.length cap,.int .i64 i,.slice (some ⟨vb,0,none⟩) 1 1] w fun e w'=> ∃V',e=.returned V'/\An (fun _=>False) b 43 1 w' (Av (bs.take i++ [p]++bs.drop i)) V'/\w.grownBy w' (some g):=by
 have hx:Ag (fun i=>False/\(Value.slice (some ⟨g,0,none⟩) bs.length cap).ownBlock≠some i) w (Qp p) [.pointer (some ⟨p,0,none⟩)]:=Ep _ _ _;obtain⟨hyl,hy1⟩:=hx.now.len;have hvs: ∀j v, [Value.pointer (some ⟨p,0,none⟩)][j]? =some v->w.cell? ⟨vb,j,none⟩=some v:=fun j v hj=>by
  have:=hvb.cell j;rw[this];simpa using hj
 obtain⟨ns,h1,h2,h3⟩:=hV;rw[Ax]at h1;have hnl:ns.length=bs.length:=by rw[h3.now.len.1,Da h2,Ax,Nat.mul_one]
 have h1x:=h3.now.len.2;have hdp:Av (bs.take i++ [p]++bs.drop i)=(Av bs).take i++ [Qp p]++(Av bs).drop i:=by
  unfold Av;rw[List.map_append,List.map_append,List.map_take,List.map_drop];rfl
 rw[hdp];rcases Nat.lt_or_ge i bs.length with hlt|hge
 . rcases h1.2 with⟨e,_⟩|⟨g',cap',cur,e,hbg,hg,hnc,hcm,hcs,hcx⟩
   . cases e
   . cases e
     rcases Nat.lt_or_ge bs.length cap with hc|hc
     . refine(Vt b w g bs.length cap i cur ns hbg hg hcs hcx hlt (by omega) hcm hn h1x vb _ hvb hne (hy1 _ (by simp))).mono ?_;rintro e w' ⟨V',rfl,k1,k2,k3⟩;exact⟨V',rfl,An.of_ins (ns:=ns) (V:=.slice (some ⟨g,0,none⟩) bs.length cap) (by simpa using k1) h2 rfl h3 hx k2 (.inl k3) (by rw[Ax]),k2⟩
     . obtain rfl:cap=bs.length:=by omega
       refine(Vs b w g bs.length i cur ns hb hg hcs hcx hlt hn h1x vb _ hyl hvs hy1).mono ?_;rintro e w' ⟨V',rfl,k1,k2,k3⟩;exact⟨V',rfl,An.of_ins k1 h2 rfl h3 hx (Eo k2) (.inr k3) (by rw[Ax]),Eo k2⟩
 . obtain rfl:i=bs.length:=by omega
   refine(Ye b w _ bs.length ns h1 hb hn vb _ hyl hvs hy1).mono ?_;rintro e w' ⟨V',rfl,k1,k2,k3⟩;refine⟨V',rfl,An.of_ins (ns:=ns) (V:=.slice (some ⟨g,0,none⟩) bs.length cap) ?_ h2 rfl h3 hx k2 k3 (by rw[Ax]),k2⟩;rw[List.take_of_length_le (by omega),List.drop_eq_nil_of_le (by omega),List.append_nil];exact k1
end Go.Proofs.YtdbejcbbhomdbaaGreatDoor
namespace Go.Proofs.YtdbejcbbhomdbaaGreatDoor
open Go Go.RowKit Go.Sort
theorem Og (es:List A0) (k:ByteArray) (a:Option Addr) (n c b1 b2 i B:Nat) (hi:i<es.length) (_:es.length<=1000) (w:World) (h:Ai w B (.row 7 (dO es)) [.slice a n c]) (h1:w.cell? ⟨b1,0,none⟩=some (.slice a n c)) (h2:w.cell? ⟨b2,0,none⟩=some (.string k)):
 Calls Tryz.prog 170 #[.int .i64 i,.pointer (some ⟨b1,0,none⟩),.pointer (some ⟨b2,0,none⟩)] w fun e w'=>e=.returned (.bool (!((es[i]?.map fun e=>Bq e.1 k).getD false)))/\w'=w.drew:=by
 have hl:=h.row_len;rw[Az]at hl;subst hl;obtain⟨e1,he1⟩: ∃p,es[i]? =some p:=⟨_,List.getElem?_eq_getElem hi⟩;obtain⟨g,off,rfl,hg,u1,u2,u3,u4,u5,u6,_,r1⟩:=Bz h he1;have s1:=r1 0 _ rfl;simp only[Nat.add_zero]at s1;have y1:(i:Int)<(es.length:Int):=by omega
 have y2:(0:Int)<=i:=by omega
 have hR:(!((es[i]?.map fun e=>Bq e.1 k).getD false))= !(Op.bytesLess e1.1.toList k.toList):=by rw[he1];rfl
 rw[hR];have hSS:(fun Y:World=>Y.cell? ⟨b1,0,none⟩=some (.slice (some ⟨g,off,none⟩) es.length c)/\Y.cell? ⟨b2,0,none⟩=some (.string k)/\Y.cell? ⟨g,off+i*7,none⟩=some (.string e1.1)) w.drew:=⟨h1,h2,s1⟩;clear r1 he1 hR h h1 h2 s1;go_enter Tryz.func170,Tryz.ntmps170;go_upto_region 1 with(fail);refine wp_region_held_drew (S:=fun Y=>Y.cell? ⟨b1,0,none⟩=some (.slice (some ⟨g,off,none⟩) es.length c)/\Y.cell? ⟨b2,0,none⟩=some (.string k)/\Y.cell? ⟨g,off+i*7,none⟩=some (.string e1.1)) (by kernel_rfl) hSS (fun hHeld=> ?_);refine tkH 0 hHeld ?_;refine tkH 1 hHeld ?_;refine tkH 2 hHeld ?_;refine tkH 3 hHeld ?_;refine tkH 4 hHeld ?_;refine tkH 5 hHeld ?_;refine tkH 6 hHeld ?_;refine tkH 7 hHeld ?_;refine wpAnyH_done (by kernel_rfl) ?_ _;clear hHeld hSS;go_wp2;go_ret;exact⟨rfl,rfl⟩
theorem J1 (w:World) (q:Nat) (os:Array Obj):Below w.heap.size w (grow (w.drewN q) os):=below_grown_sl w.heap.size w q os (Nat.le_refl _)
theorem Zr {k:ByteArray} {es:List A0} (ha:Bb es) (x y:Nat) (hxy:x<=y) (hy:y<es.length) (h:(!((es[x]?.map fun e=>Bq e.1 k).getD false))=true):(!((es[y]?.map fun e=>Bq e.1 k).getD false))=true:=by
 have ex:es[x]? =some es[x]:=List.getElem?_eq_getElem (by omega);have ey:es[y]? =some es[y]:=List.getElem?_eq_getElem hy;rw[ex]at h;rw[ey];simp only[Option.map_some,Option.getD_some]at h ⊢;rcases Nat.lt_or_ge x y with hlt|hge
 . have:=List.pairwise_iff_getElem.1 ha x y (by omega) hy hlt
   cases hb:Bq es[y].1 k with
   |false=>rfl
   |true=>
    rw[A9 this hb]at h;exact h
 . obtain rfl:x=y:=by omega
   exact h
theorem Kk (es:List A0) (k:ByteArray) (a:Option Addr) (n c:Nat) (w:World) (h:Ai w w.heap.size (.row 7 (dO es)) [.slice a n c]) (ha:Bb es) (hn:es.length<=1000):
 Calls Tryz.prog 127 #[.slice a n c,.string k] w fun e w'=>e=.returned (.tuple #[.int .i64 (Ct k es),.bool (B6 k es)])/\Below w.heap.size w w':=by
 obtain⟨PO,hPO⟩: ∃P:Ending->World->Prop,(fun e w'=>e=.returned (.tuple #[.int .i64 (Ct k es),.bool (B6 k es)])/\Below w.heap.size w w')=P:=⟨_,rfl⟩;rw[hPO];have hF: ∀W,Below w.heap.size w W->PO (.returned (.tuple #[.int .i64 (Ct k es),.bool (B6 k es)])) W:=fun W hB=>by
  rw[<-hPO];exact⟨rfl,hB⟩
 clear hPO;have hl:=h.row_len;rw[Az]at hl;subst hl;obtain⟨wi,hwi⟩: ∃wi,(w.alloc (.cells #[.slice a es.length c] 41)).alloc (.cells #[.string k] 9)=wi:=⟨_,rfl⟩;have hbi:Below w.heap.size w wi:=hwi▸((Ac w (.cells #[.slice a es.length c] 41)).alloc (by simp) _);have hx1:Ao wi w.heap.size 41 #[.slice a es.length c]:=hwi▸(Ao.new _ _ _).alloc _;have hx2:Ao wi (w.heap.size+1) 9 #[.string k]:=by
  have:=Ao.new (w.alloc (.cells #[.slice a es.length c] 41)) 9 #[.string k]
  rwa [World.size_alloc,hwi]at this
 have hS:=Tryz.sort_Search 170 #[.pointer (some ⟨w.heap.size,0,none⟩),.pointer (some ⟨w.heap.size+1,0,none⟩)] es.length (fun i=> !((es[i]?.map fun e=>Bq e.1 k).getD false)) wi (fun _ _=>by kernel_rfl) (by omega)
  (fun m os i hi=>by
    have hB:=J1 wi m os;refine(Og es k a es.length c w.heap.size (w.heap.size+1) i w.heap.size hi hn (grow (wi.drewN m) os) (h.below (hbi.trans (hB.mono hbi.size))) ((hB.cell (p:=⟨w.heap.size,0,none⟩) hx1.lt).trans (hx1.cell 0)) ((hB.cell (p:=⟨w.heap.size+1,0,none⟩) hx2.lt).trans (hx2.cell 0))).mono ?_;rintro e w' ⟨rfl,rfl⟩;exact⟨rfl,1, #[],by rw[grow_empty];rfl⟩)
  (fun x y h1 h2 h3=>Zr ha x y h1 h2 h3)
 simp only[Bool.not_not]at hS;rw[Xt ha]at hS;have hle:=Pp k es;have d1:=hx1.cell 0;have d2:=hx2.cell 0;have l1:=hx1.lt;have l2:=hx2.lt;obtain⟨HS,Hbi,Hx1,Hx2,H⟩:=hid5 hS hbi hx1 hx2 h;clear hS hbi hx1 hx2 h;go_enter Tryz.func127,Tryz.ntmps127;go_upto_region 1 with(fail);clear hwi;go_wp2_with (fail);(with_reducible refine(HS.out).mono ?_);rintro e w1 ⟨rfl,q,os,rfl⟩;have hb1:=J1 wi q os;generalize grow (wi.drewN q) os=w1 at hb1 ⊢;have hw1:=Hbi.out.trans (hb1.mono Hbi.out.size);have hx1':=Hx1.out.below hb1 l1;have hx2':=Hx2.out.below hb1 l2;clear d1 d2;have d1:=hx1'.cell 0;have d2:=hx2'.cell 0;have l3:=hx1'.lt;have l4:=hx2'.lt;have HD:=qz (hw1.trans ((Below.drew (Below.refl _ w1)).mono hw1.size));clear hx1' hx2' hb1 Hx1 Hx2 l1 l2;by_cases hlt:Ct k es<es.length
 . obtain⟨e1,he1⟩: ∃p,es[Ct k es]? =some p:=⟨_,List.getElem?_eq_getElem hlt⟩;have hh:B6 k es=(e1.1.toList==k.toList):=by unfold B6;rw[he1];rfl
   rw[hh]at hF;have HF:=qz hF;clear hF;obtain⟨g,off,rfl,hg,u1,u2,u3,u4,u5,u6,_,r1⟩:=Bz (H.out.below hw1) he1;have s1:=r1 0 _ rfl;simp only[Nat.add_zero]at s1;have y1:(Ct k es:Int)<(es.length:Int):=by omega
   have y2:(0:Int)<=(Ct k es:Int):=by omega
   generalize Ct k es=P at HF hlt s1 y1 y2 ⊢;clear r1 he1 hh H hw1;go_upto_region 2 with(fail);refine wp_region_held_drew (S:=fun Y:World=>Y.cell? ⟨w.heap.size,0,none⟩=some (.slice (some ⟨g,off,none⟩) es.length c)/\Y.cell? ⟨w.heap.size+1,0,none⟩=some (.string k)/\Y.cell? ⟨g,off+P*7,none⟩=some (.string e1.1)) (by kernel_rfl) ⟨d1,d2,s1⟩ (fun hHeld=> ?_);refine tkH 0 hHeld ?_;refine tkH 1 hHeld ?_;refine tkH 2 hHeld ?_;refine tkH 3 hHeld ?_;refine tkH 4 hHeld ?_;refine tkH 5 hHeld ?_;refine tkH 6 hHeld ?_;refine tkH 7 hHeld ?_;refine tkH 8 hHeld ?_;refine tkH 9 hHeld ?_;refine tkH 10 hHeld ?_;refine tkH 11 hHeld ?_;refine tkH 12 hHeld ?_;refine tkH 13 hHeld ?_;refine tkH 14 hHeld ?_;refine tkH 15 hHeld ?_;refine wpAnyH_done (by kernel_rfl) ?_ _;clear hHeld;go_wp2;exact HF.out _ HD.out
 . have hh:B6 k es=false:=by unfold B6;rw[List.getElem?_eq_none (by omega)];rfl
   rw[hh]at hF;have HF:=qz hF;clear hF;have y1: ¬((Ct k es:Int)<(es.length:Int)):=by omega
   have y2:decide (Ct k es<es.length)=false:=decide_eq_false hlt;generalize Ct k es=P at HF y1 y2 ⊢;clear hh H hw1;go_upto_region 2 with(fail);refine wp_region_held_drew (S:=fun Y:World=>Y.cell? ⟨w.heap.size,0,none⟩=some (.slice a es.length c)/\Y.cell? ⟨w.heap.size+1,0,none⟩=some (.string k)) (by kernel_rfl) ⟨d1,d2⟩ (fun hHeld=> ?_);refine tkH 0 hHeld ?_;refine tkH 1 hHeld ?_;refine tkH 2 hHeld ?_;refine tkH 3 hHeld ?_;refine tkH 4 hHeld ?_;refine tkH 5 hHeld ?_;refine tkN 6 hHeld ?_;refine tkN 7 hHeld ?_;refine tkN 8 hHeld ?_;refine tkN 9 hHeld ?_;refine tkN 10 hHeld ?_;refine tkN 11 hHeld ?_;refine tkN 12 hHeld ?_;refine tkH 13 hHeld ?_;refine tkH 14 hHeld ?_;refine tkH 15 hHeld ?_;refine wpAnyH_done (by kernel_rfl) ?_ _;clear hHeld;go_wp2;exact HF.out _ HD.out
theorem Abr (x y:List UInt8):(!Op.bytesLess x y&& !x==y)=Op.bytesLess y x:=by
 have key: ∀{x y:List UInt8},Op.bytesLess x y=true->Op.bytesLess y x=false:=fun {x y} h=>by
  cases e:Op.bytesLess y x with
  |false=>rfl
  |true=>have:=Mb h e;rw[F8]at this;cases this
 rcases S9 x y with h|rfl|h
 . rw[h,key h];rfl
 . rw[F8];simp
 . have hne:(x==y)=false:=beq_eq_false_iff_ne.2 fun e=>by
    subst e;rw[F8]at h
    cases h
   rw[h,key h,hne];rfl
theorem Rx: ∀{ks:List Nd},Bb (As ks)->(∀k ∈ ks,By k≠ [])->ks.Pairwise fun a b=>Bq (Al a) (Al b)=true
 | [],_,_=>List.Pairwise.nil
 |k::r,ha,hne=>by
  simp only[As]at ha;obtain⟨_,a2,a3⟩:=List.pairwise_append.1 ha;refine List.pairwise_cons.2 ⟨fun x hx=> ?_,Rx a2 fun y hy=>hne y (by simp[hy])⟩;obtain⟨v,t,e⟩:=Dx (hne k (by simp));obtain⟨v',t',e'⟩:=Dx (hne x (by simp[hx]));exact a3 (Al k,v) (by rw[e];simp) (Al x,v') (Z0 hx _ (by rw[e'];simp))
theorem O5 {k:ByteArray} {ks:List Nd} (ha:Bb (As ks)) (hne: ∀k ∈ ks,By k≠ []):ks.Pairwise fun a b=>Bq k (Al a)=true->Bq k (Al b)=true:=
 (Rx ha hne).imp fun h h'=>A9 h' h
theorem Vn {k:ByteArray} {ks:List Nd} (ha:Bb (As ks)) (hne: ∀k ∈ ks,By k≠ []):(List.range ks.length).countP (fun i=> !((ks[i]?.map fun n=>Bq k (Al n)).getD false))=ks.findIdx fun n=>Bq k (Al n):=by
 refine Eq.trans ?_ (Jk _ (O5 ha hne));refine Eq.trans ?_ (I8 _ _);refine List.countP_congr fun i hi=> ?_;have:i<ks.length:=List.mem_range.1 hi;rw[List.getElem?_eq_getElem this];simp
theorem Yj {k:ByteArray} {ks:List Nd} (ha:Bb (As ks)) (hne: ∀k ∈ ks,By k≠ []) (x y:Nat) (hxy:x<=y) (hy:y<ks.length) (h:((ks[x]?.map fun n=>Bq k (Al n)).getD false)=true):((ks[y]?.map fun n=>Bq k (Al n)).getD false)=true:=by
 rcases Nat.lt_or_ge x y with hlt|hge
 . have:=List.pairwise_iff_getElem.1 (O5 (k:=k) ha hne) x y (by omega) hy hlt;rw[List.getElem?_eq_getElem (by omega)]at h;rw[List.getElem?_eq_getElem hy];exact this h
 . obtain rfl:x=y:=by omega
   exact h
theorem Oi (ks:List Nd) (bs:List Nat) (k:ByteArray) (a:Option Addr) (n c b1 b2 i B:Nat) (hi:i<ks.length) (_:ks.length<=1000) (w:World) (h:Ai w B (.row 1 (Av bs)) [.slice a n c]) (hk:Ar w B ks bs) (h1:w.cell? ⟨b1,0,none⟩=some (.slice a n c)) (h2:w.cell? ⟨b2,0,none⟩=some (.string k)):
 Calls Tryz.prog 174 #[.int .i64 i,.pointer (some ⟨b1,0,none⟩),.pointer (some ⟨b2,0,none⟩)] w fun e w'=>e=.returned (.bool ((ks[i]?.map fun n=>Bq k (Al n)).getD false))/\w'=w.drew:=by
 have hl:=h.row_len;rw[Ax,hk.len]at hl;subst hl;obtain⟨n1,hn1⟩: ∃p,ks[i]? =some p:=⟨_,List.getElem?_eq_getElem hi⟩;obtain⟨p1,hp1,hN⟩:=hk.at_ hn1;obtain⟨g,off,rfl,hg,s1⟩:=Fz h hp1;have hD:=Below.drew (Below.refl B w);have hF:=J9 (hN.below hD);have y1:(i:Int)<(ks.length:Int):=by omega
 have y2:(0:Int)<=i:=by omega
 have hR:((ks[i]?.map fun n=>Bq k (Al n)).getD false)=Op.bytesLess k.toList (Al n1).toList:=by rw[hn1];rfl
 rw[hR,<-Abr];generalize Al n1=f1 at hF ⊢;have hSS:(fun Y:World=>Y.cell? ⟨b1,0,none⟩=some (.slice (some ⟨g,off,none⟩) ks.length c)/\Y.cell? ⟨b2,0,none⟩=some (.string k)/\Y.cell? ⟨g,off+i,none⟩=some (.pointer (some ⟨p1,0,none⟩))) w.drew:=⟨h1,h2,s1⟩;have HF:=qz hF;clear hF;clear hn1 hp1 hR h h1 h2 s1 hk hN hD;go_enter Tryz.func174,Tryz.ntmps174;go_upto_region 1 with(fail);refine wp_region_held_drew (S:=fun Y=>Y.cell? ⟨b1,0,none⟩=some (.slice (some ⟨g,off,none⟩) ks.length c)/\Y.cell? ⟨b2,0,none⟩=some (.string k)/\Y.cell? ⟨g,off+i,none⟩=some (.pointer (some ⟨p1,0,none⟩))) (by kernel_rfl) hSS (fun hHeld=> ?_);refine tkH 0 hHeld ?_;refine tkH 1 hHeld ?_;refine tkH 2 hHeld ?_;refine tkH 3 hHeld ?_;refine tkH 5 hHeld ?_;refine Iu 4 fun K hK=> ?_;go_simp;(with_reducible refine(HF.out).mono ?_);rintro e w1 ⟨rfl,rfl⟩;refine hK.out _ _ hHeld (fun hHeld=> ?_);clear hK K
 try simp only[Act.put,tk1,tk2,tk3,tk4,tk5,tk6]
 refine tkH 6 hHeld ?_;refine tkH 7 hHeld ?_;refine wpAnyH_done (by kernel_rfl) ?_ _;clear hHeld hSS;go_wp2;go_ret;exact⟨rfl,rfl⟩
theorem Qh (ks:List Nd) (bs:List Nat) (k:ByteArray) (a:Option Addr) (n c:Nat) (w:World) (h:Ai w w.heap.size (.row 1 (Av bs)) [.slice a n c]) (hk:Ar w w.heap.size ks bs) (ha:Bb (As ks)) (hne: ∀k ∈ ks,By k≠ []) (hn:ks.length<=1000):
 Calls Tryz.prog 131 #[.slice a n c,.string k] w fun e w'=>e=.returned (.int .i64 (At ks k))/\Below w.heap.size w w':=by
 obtain⟨PO,hPO⟩: ∃P:Ending->World->Prop,(fun e w'=>e=.returned (.int .i64 (At ks k))/\Below w.heap.size w w')=P:=⟨_,rfl⟩;rw[hPO];have hF: ∀W,Below w.heap.size w W->PO (.returned (.int .i64 (At ks k))) W:=fun W hB=>by
  rw[<-hPO];exact⟨rfl,hB⟩
 clear hPO;have hl:=h.row_len;rw[Ax,hk.len]at hl;subst hl;obtain⟨wi,hwi⟩: ∃wi,(w.alloc (.cells #[.slice a ks.length c] 144)).alloc (.cells #[.string k] 9)=wi:=⟨_,rfl⟩;have hbi:Below w.heap.size w wi:=hwi▸((Ac w (.cells #[.slice a ks.length c] 144)).alloc (by simp) _);have hx1:Ao wi w.heap.size 144 #[.slice a ks.length c]:=hwi▸(Ao.new _ _ _).alloc _;have hx2:Ao wi (w.heap.size+1) 9 #[.string k]:=by
  have:=Ao.new (w.alloc (.cells #[.slice a ks.length c] 144)) 9 #[.string k]
  rwa [World.size_alloc,hwi]at this
 have hS:=Tryz.sort_Search 174 #[.pointer (some ⟨w.heap.size,0,none⟩),.pointer (some ⟨w.heap.size+1,0,none⟩)] ks.length (fun i=>(ks[i]?.map fun n=>Bq k (Al n)).getD false) wi (fun _ _=>by kernel_rfl) (by omega)
  (fun m os i hi=>by
    have hB:=J1 wi m os;refine(Oi ks bs k a ks.length c w.heap.size (w.heap.size+1) i w.heap.size hi hn (grow (wi.drewN m) os) (h.below (hbi.trans (hB.mono hbi.size))) (hk.below (hbi.trans (hB.mono hbi.size))) ((hB.cell (p:=⟨w.heap.size,0,none⟩) hx1.lt).trans (hx1.cell 0)) ((hB.cell (p:=⟨w.heap.size+1,0,none⟩) hx2.lt).trans (hx2.cell 0))).mono ?_;rintro e w' ⟨rfl,rfl⟩;exact⟨rfl,1, #[],by rw[grow_empty];rfl⟩)
  (fun x y h1 h2 h3=>Yj ha hne x y h1 h2 h3)
 rw[Vn ha hne]at hS;have hle:ks.findIdx (fun n=>Bq k (Al n))<=ks.length:=List.findIdx_le_length;have hW:At ks k=ks.findIdx (fun n=>Bq k (Al n)) - 1:=rfl;rw[hW]at hF;generalize ks.findIdx (fun n=>Bq k (Al n))=P at hS hF hle;have d1:=hx1.cell 0;have d2:=hx2.cell 0;have l1:=hx1.lt;have l2:=hx2.lt;have hwr:IntKind.i64.wrap ((P:Int) - 1)=(P:Int) - 1:=IntWalk.i64_in _ (by omega);have hmx:((P - 1:Nat):Int)=max ((P:Int) - 1) 0:=by omega
 rw[hmx]at hF;obtain⟨HS,Hbi,H,HF⟩:=hid4 hS hbi h hF;clear hS hbi h hF;clear hx1 hx2 hW hmx;go_enter Tryz.func131,Tryz.ntmps131;go_upto_region 1 with(fail);clear hwi;go_wp2_with (fail);(with_reducible refine(HS.out).mono ?_);rintro e w1 ⟨rfl,q,os,rfl⟩;have HB:=qz (Hbi.out.trans ((J1 wi q os).mono Hbi.out.size));go_wp2;exact HF.out _ HB.out
end Go.Proofs.YtdbejcbbhomdbaaGreatDoor
