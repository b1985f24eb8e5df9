/- Parts: node.Inner: the inner node of kids. Condition: 2 to 8 kids that are full enough, of one height, rising; at most 10^9 entries. -/
import Derived.Test.YtkmcjfkokoidcaaGreatDoorKFb14
import Derived.Test.YtkmcjfkokoidcaaGreatDoorKFb15
set_option maxHeartbeats 20000000
set_option maxRecDepth 100000
namespace Go.Proofs.YtkmcjfkokoidcaaGreatDoor
open Go Go.RowKit
theorem Dt {w:World} {B n c:Nat} {l:List Bj} {a:Option Addr} (h:Ah w B (.row 7 (dO l)) [.slice a n c]) {q:Nat} {e:Bj} (hi:l[q]? =some e):
 ∃g off,a=some ⟨g,off,none⟩/\g<B/\ ∃u1 u2 u3 u4 u5 u6,Ah w B (dV e.2) [u1,u2,u3,u4,u5,u6]/\w.rangeAt g (off+q*7) [.string e.1,u1,u2,u3,u4,u5,u6]:=by
 obtain⟨g,off,ea,hg,cs,h1,h2,h3⟩:=h.at_ (i:=q) (d:=dP e) (by rw[Bl,List.getElem?_map,hi];rfl);obtain⟨key,v⟩:=e;obtain⟨_,c3,rfl,⟨rfl,_⟩,cv,c4,rfl,h4,rfl⟩:=h1;have h5:=h4.len.1;rw[Eb]at h5;obtain⟨u1,u2,u3,u4,u5,u6,rfl⟩: ∃u1 u2 u3 u4 u5 u6,cv= [u1,u2,u3,u4,u5,u6]:=by
  match cv,h5 with
  | [u1,u2,u3,u4,u5,u6],_=>exact⟨u1,u2,u3,u4,u5,u6,rfl⟩
 exact⟨g,off,ea,hg,u1,u2,u3,u4,u5,u6,h4,fun j u hj=>h3 j u (by simpa using hj)⟩
theorem U2 (k1 k2:ByteArray) (u1 u2 u3 u4 u5 u6 v1 v2 v3 v4 v5 v6:Value) (w:World):Calls Tryz.prog 217 #[.agg #[.string k1,u1,u2,u3,u4,u5,u6],.agg #[.string k2,v1,v2,v3,v4,v5,v6]] w fun e w'=>e=.returned (.bool (C8 k1 k2))/\Below w.heap.size w w':=by
 go_enter Tryz.func217,Tryz.ntmps217;go_wp2;go_ret;exact⟨rfl,((Below.refl _ _).alloc (Nat.le_refl _) _).alloc (by simp) _⟩
theorem Rr (es:List Bj) (a:Option Addr) (n c:Nat) (w:World) (h:Ah w w.heap.size (.row 7 (dO es)) [.slice a n c]) (ha:B8 es) (h8:es.length<=1000):
 Calls Tryz.prog 216 #[.slice a n c,.func (.func 217) #[] #[]] w fun e w'=>e=.returned (.bool true)/\Below w.heap.size w w':=by
 have hn:=h.row_len;rw[Ax]at hn;subst hn;have H:=qz h;clear h;go_enter Tryz.func216,Tryz.ntmps216;go_wp2_with (fail);go_loopw [5] (fun i wr=> ∃q:Nat,i=.int .i64 ((q:Int)+1)/\(q=0\/q+1<=es.length)/\Hid (Below w.heap.size w wr)) (fun i _=>es.length - (intOf i).toNat)
 case atStart=>exact⟨0,rfl,.inl rfl,Below.refl _ _⟩
 case round=>
  obtain⟨q,rfl,hq,hI⟩:=hrel;by_cases hlt:q+1<es.length
  . obtain⟨e1,he1⟩: ∃p,es[q]? =some p:=⟨_,List.getElem?_eq_getElem (by omega)⟩;obtain⟨e2,he2⟩: ∃p,es[q+1]? =some p:=⟨_,List.getElem?_eq_getElem hlt⟩;have hlt2:C8 e1.1 e2.1=true:=by
     obtain⟨i1,rfl⟩:=List.getElem?_eq_some_iff.1 he1;obtain⟨i2,rfl⟩:=List.getElem?_eq_some_iff.1 he2;exact List.pairwise_iff_getElem.1 ha q (q+1) i1 i2 (by omega)
    obtain⟨g,off,rfl,hg,u1,u2,u3,u4,u5,u6,_,r1⟩:=Dt H.out he1;obtain⟨g',off',e,_,v1,v2,v3,v4,v5,v6,_,r2⟩:=Dt H.out he2
    cases e
    have hz:=hI.out.size;have hS: ∀W,Below w.heap.size w W->W.rangeAt g (off+q*7) [.string e1.1,u1,u2,u3,u4,u5,u6]/\W.rangeAt g (off+(q+1)*7) [.string e2.1,v1,v2,v3,v4,v5,v6]:=fun W hB=>
     ⟨fun j u hj=>(hB.cell (p:=⟨g,off+q*7+j,none⟩) hg).trans (r1 j u hj),fun j u hj=>(hB.cell (p:=⟨g,off+(q+1)*7+j,none⟩) hg).trans (r2 j u hj)⟩
    have HD:=qz (hI.out.trans ((Below.drew (Below.refl _ wr)).mono hz));have hL:=U2 e1.1 e2.1 u1 u2 u3 u4 u5 u6 v1 v2 v3 v4 v5 v6;rw[hlt2]at hL;have hw1:IntKind.i64.wrap ((q:Int)+1)=(q:Int)+1:=IntWalk.i64_in _ (by omega);have hw2:IntKind.i64.wrap ((q:Int)+1 - 1)=(q:Int):=by rw[Int.add_sub_cancel];exact IntWalk.i64_in _ (by omega)
    have hw3:IntKind.i64.wrap (q:Int)=(q:Int):=IntWalk.i64_in _ (by omega);have y1:(q:Int)+1<(es.length:Int):=by omega
    have y2:(q:Int)<(es.length:Int):=by omega
    have y3:(0:Int)<=q:=by omega
    have y4:((q:Int)+1).toNat=q+1:=by omega
    have y5:(0:Int)<=(q:Int)+1:=by omega
    obtain⟨HS,HL⟩:=hid2 hS hL;clear hS hL;clear r1 r2 he1 he2 hlt2;go_upto_region 4 with(fail);refine wp_region_held_drew (S:=fun X=>X.rangeAt g (off+q*7) [.string e1.1,u1,u2,u3,u4,u5,u6]/\X.rangeAt g (off+(q+1)*7) [.string e2.1,v1,v2,v3,v4,v5,v6]) (by kernel_rfl) (HS.out _ HD.out) (fun hHeld=> ?_);generalize wr.drew=wd at HD hHeld ⊢;refine tkH 0 hHeld ?_;refine tkH 1 hHeld ?_;refine tkH 2 hHeld ?_;refine tkH 3 hHeld ?_;refine tkH 4 hHeld ?_;refine wpAnyH_take (i:=5) rfl (by kernel_rfl) (by kernel_rfl) (by kernel_rfl) (fun _ _ _ h=>h) (yieldsIf_load_mid (by kernel_rfl) 63 (.tmp 16) rfl g (off+q*7) rfl _ _ (fun X hX=>hX.1) Tryz.underlying63 rfl (by kernel_rfl)) hHeld ?_
    try simp only[Act.put,tk1,tk2,tk3,tk4,tk5,tk6]
    refine tkH 6 hHeld ?_;refine tkH 7 hHeld ?_;refine tkH 8 hHeld ?_;refine wpAnyH_take (i:=9) rfl (by kernel_rfl) (by kernel_rfl) (by kernel_rfl) (fun _ _ _ h=>h) (yieldsIf_load_mid (by kernel_rfl) 63 (.tmp 20) rfl g (off+(q+1)*7) rfl _ _ (fun X hX=>hX.2) Tryz.underlying63 rfl (by kernel_rfl)) hHeld ?_
    try simp only[Act.put,tk1,tk2,tk3,tk4,tk5,tk6]
    refine Ie 10 fun K hK=> ?_;go_simp;(with_reducible refine(HL.out _).mono ?_);rintro e w1 ⟨rfl,hb1⟩;have hw5:=HD.out.trans (hb1.mono HD.out.size);refine hK.out _ _ (HS.out _ hw5) (fun hHeld=> ?_);clear hK K hb1;have HN:=qz hw5;clear hw5
    try simp only[Act.put,tk1,tk2,tk3,tk4,tk5,tk6]
    refine tkH 11 hHeld ?_;refine wpAnyH_done (by kernel_rfl) ?_ _;clear hHeld HS HD HL hI;go_wp2;go_roundw
    case rel=>exact⟨q+1,by go_num,.inr (by omega),HN⟩
    case measure=>simp only[intOf];omega
  . have y1:(es.length:Int)<=(q:Int)+1:=by omega
    have HI:=qz hI.out;clear hI;go_wp2;go_ret;exact⟨rfl,HI.out⟩
theorem Xq (es:List Bj) (a:Option Addr) (n c:Nat) (w:World) (h:Ah w w.heap.size (.row 7 (dO es)) [.slice a n c]) (ha:B8 es) (h8:es.length<=8) (hb:Ae es<=100000000):
 Calls Tryz.prog 164 #[.slice a n c] w fun e w'=>Below w.heap.size w w'/\ ∃b,e=.returned (.tuple #[.pointer (some ⟨b,0,none⟩),.int .i64 0])/\Bx (fun i=>w.heap.size<=i) w' (.leaf es) b:=by
 have hn:=h.row_len;rw[Ax]at hn;subst hn;have HR:=qz (Rr es a es.length c w h ha (by omega));have HC:=qz (fun(W:World) (hB:Below w.heap.size w W)=>Lz es a es.length c W ((h.below hB).more hB.size) hb);have y8:(es.length:Int)<=8:=by omega
 obtain⟨PO,hPO⟩: ∃P:Ending->World->Prop,(fun e w'=>Below w.heap.size w w'/\ ∃b,e=.returned (.tuple #[.pointer (some ⟨b,0,none⟩),.int .i64 0])/\Bx (fun i=>w.heap.size<=i) w' (.leaf es) b)=P:=⟨_,rfl⟩;rw[hPO];obtain⟨H,HPO⟩:=hid2 h hPO;clear h hPO;go_enter Tryz.func164,Tryz.ntmps164;go_wp2_with (fail);(with_reducible refine(HR.out).mono ?_);rintro e w1 ⟨rfl,hb1⟩;have Hb1:=qz hb1;clear hb1;go_wp2_with (fail);(with_reducible refine(HC.out _ Hb1.out).mono ?_);rintro e w2 ⟨hb2,g2,rfl,hV⟩;have hw2:=Hb1.out.trans (hb2.mono Hb1.out.size);obtain⟨a2,ha2⟩: ∃a2,some (⟨g2,0,none⟩:Addr)=a2:=⟨_,rfl⟩;obtain⟨c2,hc2⟩: ∃c2,es.length=c2:=⟨_,rfl⟩;rw[ha2,show(Value.slice a2 es.length es.length)=.slice a2 es.length c2 from by rw[<-hc2]]at hV ⊢;clear ha2 hc2;have hVb:=hV.base;have hH:=hV.closeIn;have hFn: ∀(W:World) (f l:ByteArray),Below w2.heap.size w2 W->Aj W w2.heap.size Y4 #[.slice a2 es.length c2,.slice none 0 0,.int .i64 0,.int .i64 es.length,.string f,.string l,.bool false]->Av (.leaf es)=f->Dw (.leaf es)=l->Bx (fun i=>w.heap.size<=i) W (.leaf es) w2.heap.size:=fun W f l hB hx e1 e2=>by
  have hz1:=Hb1.out.size;have hz2:=hb2.size;simp only[Bx,e1,e2];refine⟨by omega,hx.lt,a2,c2,(hH.below hB).mono fun i _ p1=> ?_,hx⟩;rcases p1 with p1|p1
  . omega
  . have:=(hVb _ p1).1;omega
 have Hw3:=qz (hw2.alloc hw2.size (.cells #[.slice a2 es.length c2,.slice none 0 0,.int .i64 0,.int .i64 es.length,.string ⟨#[]⟩,.string ⟨#[]⟩,.bool false] Y4));have Hb23:=qz (Aa w2 (.cells #[.slice a2 es.length c2,.slice none 0 0,.int .i64 0,.int .i64 es.length,.string ⟨#[]⟩,.string ⟨#[]⟩,.bool false] Y4));have Hx3:=qz (Aj.new w2 Y4 #[.slice a2 es.length c2,.slice none 0 0,.int .i64 0,.int .i64 es.length,.string ⟨#[]⟩,.string ⟨#[]⟩,.bool false]);have hzw:=hw2.size;have HFn:=qz hFn;clear hFn;clear hb2 hV hVb hH hw2;go_upto_region 4 with(fail);generalize w2.alloc (.cells #[.slice a2 es.length c2,.slice none 0 0,.int .i64 0,.int .i64 es.length,.string ⟨#[]⟩,.string ⟨#[]⟩,.bool false] Y4)=w3 at Hw3 Hb23 Hx3 ⊢;generalize w2.heap.size=X at HFn Hb23 Hx3 hzw ⊢;by_cases h0:es= []
 . subst h0;have HP:Hid (PO (.returned (.tuple #[.pointer (some ⟨X,0,none⟩),.int .i64 0])) w3):=by
    show PO _ _;rw[<-HPO.out];exact⟨Hw3.out,X,rfl,HFn.out w3 _ _ Hb23.out Hx3.out rfl rfl⟩
   go_wp2;exact HP.out
 . have hpos:0<es.length:=List.length_pos_iff.2 h0;obtain⟨e1,he1⟩: ∃p,es[0]? =some p:=⟨_,List.getElem?_eq_getElem (by omega)⟩;obtain⟨e2,he2⟩: ∃p,es[es.length - 1]? =some p:=⟨_,List.getElem?_eq_getElem (by omega)⟩;obtain⟨g,off,rfl,hg,u1,u2,u3,u4,u5,u6,_,r1⟩:=Dt H.out he1;obtain⟨g',off',e,_,v1,v2,v3,v4,v5,v6,_,r2⟩:=Dt H.out he2
   cases e
   have s1:=r1 0 _ rfl;have s2:=r2 0 _ rfl;simp only[Nat.add_zero,Nat.zero_mul]at s1 s2;have hF1:Av (.leaf es)=e1.1:=by
    unfold Av Cw;rw[List.head?_eq_getElem?,he1];rfl
   have hF2:Dw (.leaf es)=e2.1:=by
    unfold Dw Cw;rw[List.getLast?_eq_getElem?,he2];rfl
   have hfin: ∀W,Below X w3 W->Aj W X Y4 #[.slice a2 es.length c2,.slice none 0 0,.int .i64 0,.int .i64 es.length,.string e1.1,.string e2.1,.bool false]->PO (.returned (.tuple #[.pointer (some ⟨X,0,none⟩),.int .i64 0])) W:=fun W hB hx=>by
    rw[<-HPO.out];exact⟨Hw3.out.trans (hB.mono hzw),X,rfl,HFn.out W _ _ (Hb23.out.trans hB) hx hF1 hF2⟩
   have hS: ∀W,Below X w3 W->W.cell? ⟨g,off,none⟩=some (.string e1.1)/\W.cell? ⟨g,off+(es.length - 1)*7,none⟩=some (.string e2.1):=fun W hB=>
    have h2:=Hw3.out.trans (hB.mono hzw)
    ⟨(h2.cell (p:=⟨g,off,none⟩) hg).trans s1,(h2.cell (p:=⟨g,off+(es.length - 1)*7,none⟩) hg).trans s2⟩
   have y1:IntKind.i64.wrap ((es.length:Int) - 1)=(es.length:Int) - 1:=IntWalk.i64_in _ (by omega);have y2:((es.length:Int) - 1).toNat=es.length - 1:=by omega
   have y3:(0:Int)<=(es.length:Int) - 1:=by omega
   have y4:(0:Int)<(es.length:Int):=by omega
   have y5:(es.length:Int) - 1<(es.length:Int):=by omega
   have y6:(1:Int)<=(es.length:Int):=by omega
   have hBd:Below X w3 w3.drew:=Below.drew (Below.refl _ _);have Hxd:=qz Hx3.out.drew;obtain⟨HS,Hfin⟩:=hid2 hS hfin;clear hS hfin;clear r1 r2 s1 s2 he1 he2 hF1 hF2;go_upto_region 5 with(fail);refine wp_region_held_drew (S:=fun Y=>Y.cell? ⟨g,off,none⟩=some (.string e1.1)/\Y.cell? ⟨g,off+(es.length - 1)*7,none⟩=some (.string e2.1)) (by kernel_rfl) (HS.out _ hBd) (fun hHeld=> ?_);generalize w3.drew=wd at hBd Hxd hHeld ⊢;refine tkH 0 hHeld ?_;refine tkH 1 hHeld ?_;refine tkH 2 hHeld ?_;refine tkH 3 hHeld ?_;refine tkH 4 hHeld ?_;refine tkH 5 hHeld ?_;refine tkH 6 hHeld ?_;refine tkH 7 hHeld ?_;refine tkH 8 hHeld ?_;refine tkH 9 hHeld ?_;refine tkH 10 hHeld ?_;refine tkH 11 hHeld ?_;refine tkH 12 hHeld ?_;refine tkH 13 hHeld ?_;refine tkH 14 hHeld ?_;have x4:=Hxd.out.cell 4;have x5:=Hxd.out.cell 5;have fz:=Hxd.out.frozen;have lx:=Hxd.out.lt;refine Ie 15 fun K hK=> ?_;go_simp;have hx1:=Hxd.out.set_ 4 (.string e1.1);have hb1:=hBd.setCell (p:=⟨X,4,none⟩) (Nat.le_refl _) (.string e1.1);refine hK.out _ _ (HS.out _ hb1) (fun hHeld=> ?_);clear hK K x4 x5 fz lx;have x5:=hx1.cell 5;have fz:=hx1.frozen;have lx:=hx1.lt;have Hx1:=qz hx1;clear hx1
   try simp only[Act.put,tk1,tk2,tk3,tk4,tk5,tk6]
   refine tkH 16 hHeld ?_;refine tkH 17 hHeld ?_;refine Ie 18 fun K hK=> ?_;go_simp;have HP:=qz (Hfin.out _ (hb1.setCell (p:=⟨X,5,none⟩) (Nat.le_refl _) (.string e2.1)) (Hx1.out.set_ 5 (.string e2.1)));refine hK.out _ _ (HS.out _ (hb1.setCell (p:=⟨X,5,none⟩) (Nat.le_refl _) (.string e2.1))) (fun hHeld=> ?_);clear hK K x5 fz lx hb1 hBd
   try simp only[Act.put,tk1,tk2,tk3,tk4,tk5,tk6]
   refine wpAnyH_done (by kernel_rfl) ?_ _;clear hHeld HS;go_wp2;exact HP.out
theorem Xy:(Tryz.prog.info? 24).map (fun i=>(i.zero,i.size,i.bytes))=some (some (.pointer none),1,8):=by kernel_rfl
theorem Iz {w:World} {B n c:Nat} {bs:List Nat} {a:Option Addr} (h:Ah w B (.row 1 (Ce bs)) [.slice a n c]) {q b:Nat} (hi:bs[q]? =some b): ∃g off,a=some ⟨g,off,none⟩/\g<B/\w.cell? ⟨g,off+q,none⟩=some (.pointer (some ⟨b,0,none⟩)):=by
 obtain⟨g,off,ea,hg,cs,h1,h2,h3⟩:=h.at_ (i:=q) (d:=dPt b) (by simp[Ce,hi]);obtain⟨rfl,_⟩:=h1;have:=h3 0 _ rfl;exact⟨g,off,ea,hg,by simpa using this⟩
theorem Af6 {n:Nd} (h:Cw n≠ []): ∃e,(Cw n).getLast? =some e/\e ∈ Cw n/\Dw n=e.1:=by
 obtain⟨e,he⟩: ∃e,(Cw n).getLast? =some e:=⟨_,List.getLast?_eq_some_getLast h⟩;exact⟨e,he,List.mem_of_getLast? he,by unfold Dw;rw[he];rfl⟩
theorem Zp {ks:List Nd} (ha:B8 (Cg ks)) (hne: ∀k ∈ ks,Cw k≠ []) {q:Nat} {k1 k2:Nd} (h1:ks[q]? =some k1) (h2:ks[q+1]? =some k2):C8 (Dw k1) (Av k2)=true:=by
 obtain⟨i1,rfl⟩:=List.getElem?_eq_some_iff.1 h1;obtain⟨i2,rfl⟩:=List.getElem?_eq_some_iff.1 h2;have e:ks=ks.take q++ks[q]::ks[q+1]::ks.drop (q+2):=by
  rw[List.getElem_cons_drop,List.getElem_cons_drop,List.take_append_drop]
 have ha':=ha;rw[e,Cn]at ha';have ha2:=(List.pairwise_append.1 ha').2.1;simp only[Cg]at ha2;obtain⟨x,hx,hm,hl⟩:=Af6 (hne ks[q] (List.getElem_mem i1));obtain⟨v,r,hf⟩:=Gd (hne ks[q+1] (List.getElem_mem i2));rw[hl];exact(List.pairwise_append.1 ha2).2.2 x hm (Av ks[q+1],v) (by rw[hf];simp)
theorem Sj {w:World} {B:Nat} {n1 n2:Nd} {b1 b2:Nat} (h1:Bz w B n1 b1) (h2:Bz w B n2 b2):Calls Tryz.prog 171 #[.pointer (some ⟨b1,0,none⟩),.pointer (some ⟨b2,0,none⟩)] w fun e w'=>e=.returned (.bool (C8 (Dw n1) (Av n2)))/\Below w.heap.size w w':=by
 obtain⟨_,_,_,_,_,_,hx1,_⟩:=h1.blk;obtain⟨_,_,_,_,_,_,hx2,_⟩:=h2.blk;have hR:C8 (Dw n1) (Av n2)=Op.bytesLess (Dw n1).toList (Av n2).toList:=rfl;rw[hR];have hSS:(fun Y:World=>Y.cell? ⟨b1,5,none⟩=some (.string (Dw n1))/\Y.cell? ⟨b2,4,none⟩=some (.string (Av n2))) w.drew:=⟨hx1.cell 5,hx2.cell 4⟩;have hb:=Below.drew (Below.refl w.heap.size w);clear h1 h2 hx1 hx2 hR;generalize Dw n1=s1 at hSS ⊢;generalize Av n2=s2 at hSS ⊢;go_enter Tryz.func171,Tryz.ntmps171;go_upto_region 1 with(fail);refine wp_region_held_drew (S:=fun Y:World=>Y.cell? ⟨b1,5,none⟩=some (.string s1)/\Y.cell? ⟨b2,4,none⟩=some (.string s2)) (by kernel_rfl) hSS (fun hHeld=> ?_);refine tkH 0 hHeld ?_;refine tkH 1 hHeld ?_;refine tkH 2 hHeld ?_;refine tkH 3 hHeld ?_;refine tkH 4 hHeld ?_;refine tkH 5 hHeld ?_;refine tkH 6 hHeld ?_;refine tkH 7 hHeld ?_;refine tkH 8 hHeld ?_;refine tkH 9 hHeld ?_;refine wpAnyH_done (by kernel_rfl) ?_ _;clear hHeld hSS;go_wp2;go_ret;exact⟨rfl,hb⟩
theorem Rs (ks:List Nd) (bs:List Nat) (a:Option Addr) (n c:Nat) (w:World) (h:Ah w w.heap.size (.row 1 (Ce bs)) [.slice a n c]) (hk:Au w w.heap.size ks bs) (ha:B8 (Cg ks)) (hne: ∀k ∈ ks,Cw k≠ []) (h8:ks.length<=1000):
 Calls Tryz.prog 170 #[.slice a n c,.func (.func 171) #[] #[]] w fun e w'=>e=.returned (.bool true)/\Below w.heap.size w w':=by
 have hn:=h.row_len;rw[Bm,hk.len]at hn;subst hn;obtain⟨H,Hk⟩:=hid2 h hk;clear h hk;go_enter Tryz.func170,Tryz.ntmps170;go_wp2_with (fail);go_loopw [5] (fun i wr=> ∃q:Nat,i=.int .i64 ((q:Int)+1)/\(q=0\/q+1<=ks.length)/\Hid (Below w.heap.size w wr)) (fun i _=>ks.length - (intOf i).toNat)
 case atStart=>exact⟨0,rfl,.inl rfl,Below.refl _ _⟩
 case round=>
  obtain⟨q,rfl,hq,hI⟩:=hrel;by_cases hlt:q+1<ks.length
  . obtain⟨k1,hk1⟩: ∃p,ks[q]? =some p:=⟨_,List.getElem?_eq_getElem (by omega)⟩;obtain⟨k2,hk2⟩: ∃p,ks[q+1]? =some p:=⟨_,List.getElem?_eq_getElem (by omega)⟩;have hlt2:=Zp ha hne hk1 hk2;obtain⟨b1,hb1,n1⟩:=Hk.out.at_ hk1;obtain⟨b2,hb2,n2⟩:=Hk.out.at_ hk2;obtain⟨g,off,rfl,hg,r1⟩:=Iz H.out hb1;obtain⟨g',off',e,_,r2⟩:=Iz H.out hb2
    cases e
    have hz:=hI.out.size;have hS: ∀W,Below w.heap.size w W->W.cell? ⟨g,off+q,none⟩=some (.pointer (some ⟨b1,0,none⟩))/\W.cell? ⟨g,off+(q+1),none⟩=some (.pointer (some ⟨b2,0,none⟩)):=fun W hB=>
     ⟨(hB.cell (p:=⟨g,off+q,none⟩) hg).trans r1,(hB.cell (p:=⟨g,off+(q+1),none⟩) hg).trans r2⟩
    have HD:=qz (hI.out.trans ((Below.drew (Below.refl _ wr)).mono hz));have hL:=fun(W:World) (hB:Below w.heap.size w W)=>Sj (n1.below hB) (n2.below hB);rw[hlt2]at hL;have hw1:IntKind.i64.wrap ((q:Int)+1)=(q:Int)+1:=IntWalk.i64_in _ (by omega);have hw2:IntKind.i64.wrap ((q:Int)+1 - 1)=(q:Int):=by rw[Int.add_sub_cancel];exact IntWalk.i64_in _ (by omega)
    have hw3:IntKind.i64.wrap (q:Int)=(q:Int):=IntWalk.i64_in _ (by omega);have y1:(q:Int)+1<(ks.length:Int):=by omega
    have y2:(q:Int)<(ks.length:Int):=by omega
    have y3:(0:Int)<=q:=by omega
    have y4:((q:Int)+1).toNat=q+1:=by omega
    have y5:(0:Int)<=(q:Int)+1:=by omega
    obtain⟨HS,HL⟩:=hid2 hS hL;clear hS hL;clear r1 r2 hk1 hk2 hlt2 hb1 hb2 n1 n2;go_upto_region 4 with(fail);refine wp_region_held_drew (S:=fun Y=>Y.cell? ⟨g,off+q,none⟩=some (.pointer (some ⟨b1,0,none⟩))/\Y.cell? ⟨g,off+(q+1),none⟩=some (.pointer (some ⟨b2,0,none⟩))) (by kernel_rfl) (HS.out _ HD.out) (fun hHeld=> ?_);generalize wr.drew=wd at HD hHeld ⊢;refine tkH 0 hHeld ?_;refine tkH 1 hHeld ?_;refine tkH 2 hHeld ?_;refine tkH 3 hHeld ?_;refine tkH 4 hHeld ?_;refine tkH 5 hHeld ?_;refine tkH 6 hHeld ?_;refine tkH 7 hHeld ?_;refine tkH 8 hHeld ?_;refine tkH 9 hHeld ?_;refine Ie 10 fun K hK=> ?_;go_simp;(with_reducible refine(HL.out _ HD.out).mono ?_);rintro e w1 ⟨rfl,hb1⟩;have hw5:=HD.out.trans (hb1.mono HD.out.size);refine hK.out _ _ (HS.out _ hw5) (fun hHeld=> ?_);clear hK K hb1;have HN:=qz hw5;clear hw5
    try simp only[Act.put,tk1,tk2,tk3,tk4,tk5,tk6]
    refine tkH 11 hHeld ?_;refine wpAnyH_done (by kernel_rfl) ?_ _;clear hHeld HS HD HL hI;go_wp2;go_roundw
    case rel=>exact⟨q+1,by go_num,.inr (by omega),HN⟩
    case measure=>simp only[intOf];omega
  . have y1:(ks.length:Int)<=(q:Int)+1:=by omega
    have HI:=qz hI.out;clear hI;go_wp2;go_ret;exact⟨rfl,HI.out⟩
theorem W4 {k:Nd} {r:List Nd} (h:Cw k≠ []):Av (.inner (k::r))=Av k:=by
 obtain⟨x,t,e⟩:=Gd h;unfold Av;simp only[Cw,Cg];rw[e];rfl
theorem Zu {ks:List Nd} {k:Nd} (h:Cw k≠ []):Dw (.inner (ks++ [k]))=Dw k:=by
 unfold Dw;simp only[Cw,Cn,Nc];rw[List.getLast?_append,List.getLast?_eq_some_getLast h];rfl
theorem Kn (S:Nat->Prop) (w:World) (b:Nat):Ai S w (dPt b) [.pointer (some ⟨b,0,none⟩)]:=fun _ _ _=>⟨rfl,rfl⟩
theorem A0.keepP {b:Nat} {t:TypeId} {s:Nat} {wr w':World} {l:List D} {V:Value} (h:A0 (fun _=>False) b t s wr l V) (hs:wr.heap.size<=w'.heap.size) (hk: ∀i,V.ownBlock=some i->i<wr.heap.size->w'.heap[i]? =wr.heap[i]?):A0 (fun _=>False) b t s w' l V:=by
 obtain⟨ns,h1,h2,h3⟩:=h;refine⟨ns,⟨h1.1, ?_⟩,h2,fun w'' k1 _=>Ag.more (h3 w'' (by omega) (fun p p1 _=>p1.1.elim)) hs⟩;rcases h1.2 with⟨rfl,h0⟩|⟨g,cap,cur,rfl,hbg,hg,h5⟩
 . exact .inl ⟨rfl,h0⟩
 . exact .inr ⟨g,cap,cur,rfl,hbg,(hk g rfl (Array.getElem?_eq_some_iff.1 hg).1).trans hg,h5⟩
structure IL (w:World) (T:Nat) (ks:List Nd) (bs:List Nat) (q:Nat) (wr:World) (V:Value):Prop where
 below:Below w.heap.size w wr
 blk:Aj wr w.heap.size Y4 #[.slice none 0 0,V,.int .i64 ((T:Int)+1),.int .i64 (Cg (ks.take q)).length,.string ⟨#[]⟩,.string ⟨#[]⟩,.bool false]
 row:A0 (fun _=>False) (w.heap.size+1) 24 1 wr (Ce (bs.take q)) V
theorem IL.drew {w:World} {T:Nat} {ks:List Nd} {bs:List Nat} {q:Nat} {wr:World} {V:Value} (h:IL w T ks bs q wr V):IL w T ks bs q wr.drew V:=
 ⟨h.below.trans ((Below.drew (Below.refl _ wr)).mono h.below.size),h.blk.drew,h.row.below (Below.drew (Below.refl _ _))⟩
def Ado (S:Nat->Prop) (nd:Nd) (w:World) (e:Ending) (w':World):Prop:=Below w.heap.size w w'/\ ∃b,e=.returned (.tuple #[.pointer (some ⟨b,0,none⟩),.int .i64 0])/\Bx (fun i=>S i\/w.heap.size<=i) w' nd b
theorem U1 (S:Nat->Prop) (T:Nat) (ks:List Nd) (bs:List Nat) (a:Option Addr) (n c:Nat) (w:World) (h:Ah w w.heap.size (.row 1 (Ce bs)) [.slice a n c]) (hkS:Aq S w ks bs) (ha:B8 (Cg ks)) (hok: ∀k ∈ ks,Ga 4 T k)
 (h2:2<=ks.length) (h8:ks.length<=8) (hH:T<=1000000) (hN:(Cg ks).length<=1000000000):Calls Tryz.prog 104 #[.slice a n c] w (Ado S (.inner ks) w):=by
 have hk:=hkS.now;have hn:=h.row_len;rw[Bm,hk.len]at hn;subst hn;have hbl:=hk.len;have hne: ∀k ∈ ks,Cw k≠ []:=fun k hkk=>Mg (by omega) (hok k hkk);obtain⟨j0,hj,hy0,hy1,hy2⟩:=info_parts Xy;obtain⟨PO,hPO⟩: ∃P:Ending->World->Prop,Ado S (.inner ks) w=P:=⟨_,rfl⟩;rw[hPO];have y2:(2:Int)<=ks.length:=by omega
 have y8:(ks.length:Int)<=8:=by omega
 have yp:(0:Int)<ks.length:=by omega
 obtain⟨k0,r0,e0⟩: ∃k r,ks=k::r:=by
  match ks,h2 with
  |x::r,_=>exact⟨x,r,rfl⟩
 have hk0:ks[0]? =some k0:=by rw[e0];rfl
 have hm0:k0 ∈ ks:=by rw[e0];simp
 have hF1:Av (.inner ks)=Av k0:=by rw[e0];exact W4 (hne k0 hm0)
 have hH0:Rk k0=T:=Uw (.inl (by omega)) (hok k0 hm0);have hHI:(Rk (.inner ks):Int)=(T:Int)+1:=by rw[e0];simp[Rk,htL,hH0]
 obtain⟨b0,hb0,n0⟩:=hk.at_ hk0;obtain⟨kl,hkl⟩: ∃p,ks[ks.length - 1]? =some p:=⟨_,List.getElem?_eq_getElem (by omega)⟩;have hml:=List.mem_of_getElem? hkl;have hF2:Dw (.inner ks)=Dw kl:=by
  have e:ks=ks.dropLast++ [kl]:=by
   have h3:=List.getLast?_eq_some_iff.1 ((List.getLast?_eq_getElem?).trans hkl);obtain⟨ys,e3⟩:=h3;rw[e3];simp
  rw[e];exact Zu (hne kl hml)
 obtain⟨bl,hbl',nl⟩:=hk.at_ hkl;obtain⟨g,off,rfl,hg,r0'⟩:=Iz h hb0;obtain⟨g',off',e',_,rl⟩:=Iz h hbl'
 cases e'
 rw[Nat.add_zero]at r0';have hHt:=Fc n0;rw[hH0]at hHt;have hw1:IntKind.i64.wrap ((T:Int)+1)=(T:Int)+1:=IntWalk.i64_in _ (by omega);have HR:=qz (fun(W:World) (hB:Below w.heap.size w W)=>Rs ks bs (some ⟨g,off,none⟩) ks.length c W ((h.below hB).more hB.size) ((hk.below hB).more hB.size) ha hne (by omega));have hI0:IL w T ks bs 0 (w.alloc (.cells #[.slice none 0 0,.slice none 0 0,.int .i64 ((T:Int)+1),.int .i64 0,.string ⟨#[]⟩,.string ⟨#[]⟩,.bool false] Y4)) (.slice none 0 0):=
  ⟨Aa _ _,by simpa[Cg]using Aj.new w Y4 #[.slice none 0 0,.slice none 0 0,.int .i64 ((T:Int)+1),.int .i64 0,.string ⟨#[]⟩,.string ⟨#[]⟩,.bool false],by simpa[Ce]using A0.nil _ _ _ _ _⟩
 obtain⟨H,Hk,HkS,HHt,HI0,Hj,Hy0,Hy1,Hy2,HPO,N0,Nl,Rl,HF1,HF2,HHI⟩:=hid16 h hk hkS hHt hI0 hj hy0 hy1 hy2 hPO n0 nl rl hF1 hF2 hHI;have Hbl:=qz hbl;clear h hk hkS hHt hI0 hj hy0 hy1 hy2 hPO n0 nl rl hF1 hF2 hHI hbl;have Rh:=qz r0';clear hk0 hkl hbl' hb0 e0 hH0;go_enter Tryz.func104,Tryz.ntmps104;go_wp2_with (fail);(with_reducible refine(HHt.out).mono ?_);rintro e w1 ⟨rfl,rfl⟩;go_wp2_with (fail);go_loopw [24] (fun i wr=> ∃q:Nat,i=.int .i64 q/\q<=ks.length/\ ∃V,Hid (IL w T ks bs q wr V)) (fun i _=>ks.length - (intOf i).toNat)
 case atStart=>exact⟨0,rfl,Nat.zero_le _,_,HI0⟩
 case round=>
  obtain⟨q,rfl,hq,V,hI⟩:=hrel;clear HI0;by_cases hlt:q<ks.length
  . obtain⟨k,hk1⟩: ∃p,ks[q]? =some p:=⟨_,List.getElem?_eq_getElem hlt⟩;have hmk:=List.mem_of_getElem? hk1;obtain⟨b1,hb1,n1⟩:=Hk.out.at_ hk1;obtain⟨g',off',e,_,r1⟩:=Iz H.out hb1
    cases e
    have hz:=hI.out.below.size;have hbw:=hI.out.below;have n1w:=n1.below hbw;have HCn:=qz (J3 n1w);have hSo:=fun(W:World) (hB:Below w.heap.size w W)=>U3 (n1.below hB) (by have:=(Yg (hok k hmk)).2;omega);rw[show decide (4<=E5 k)=true from decide_eq_true (Yg (hok k hmk)).1]at hSo;have hHk:Rk k=T:=Uw (.inl (by omega)) (hok k hmk);have hnz:((Cw k).length:Int)≠0:=by
     have:=List.length_pos_iff.2 (hne k hmk);omega
    have hnz2:(((Cw k).length:Int)==0)=false:=beq_eq_false_iff_ne.2 hnz;have htk:Cg (ks.take (q+1))=Cg (ks.take q)++Cw k:=by rw[List.take_add_one,hk1,Option.toList_some,Cn,Nc]
    have htb:Ce (bs.take (q+1))=Ce (bs.take q)++ [dPt b1]:=by unfold Ce;rw[List.take_add_one,hb1];simp
    have hle:(Cg (ks.take q)).length+(Cw k).length<=1000000000:=by
     have e5:Cg ks=Cg (ks.take (q+1))++Cg (ks.drop (q+1)):=by rw[<-Cn,List.take_append_drop]
     rw[e5,htk]at hN;simp only[List.length_append]at hN;omega
    have c0:=(hbw.cell (p:=⟨g,off+q,none⟩) hg).trans r1;obtain⟨ea,en,ec,ka,kn,kc,hx1,_⟩:=n1.blk;rw[hHk]at hx1;have hlx:=hI.out.blk.lt;have hS: ∀W,Below w.heap.size w W->W.cell? ⟨b1,2,none⟩=some (.int .i64 T)/\W.cell? ⟨b1,3,none⟩=some (.int .i64 (Cw k).length):=fun W hB=>
     have:=hx1.below hB n1.lt
     ⟨this.cell 2,this.cell 3⟩
    have hq1:(q:Int)<(ks.length:Int):=by omega
    have hq0:(0:Int)<=q:=by omega
    have d2:=hI.out.blk.cell 2;obtain⟨HSo,Htk,Htb,HS,Hbw,N1,Hx1⟩:=hid7 hSo htk htb hS hbw n1 hx1;clear hSo htk htb hS hbw n1 hx1;clear hmk hk1 hb1 r1 n1w hHk;go_upto_region 7 with(fail);refine wp_region_held_drew (S:=fun Y:World=>Y.cell? ⟨b1,2,none⟩=some (.int .i64 T)/\Y.cell? ⟨w.heap.size,2,none⟩=some (.int .i64 ((T:Int)+1))) (by kernel_rfl) ⟨(HS.out _ (Hbw.out.trans ((Below.drew (Below.refl _ wr)).mono hz))).1,d2⟩ (fun hHeld=> ?_);have hId:=qz hI.out.drew;have hCd:=qz (fun(_:Unit)=>J3 (N1.out.below hId.out.below));clear hI HCn d2;generalize wr.drew=wd at hId hCd hHeld ⊢;refine tkH 0 hHeld ?_;refine Ie 1 fun K hK=> ?_;go_simp;(with_reducible refine(hCd.out ()).mono ?_);rintro e w1 ⟨rfl,rfl⟩;refine hK.out _ _ hHeld (fun hHeld=> ?_);clear hK K hCd
    try simp only[Act.put,tk1,tk2,tk3,tk4,tk5,tk6]
    refine tkH 2 hHeld ?_;refine tkH 3 hHeld ?_;refine tkH 4 hHeld ?_;refine tkH 5 hHeld ?_;refine tkH 6 hHeld ?_;refine tkH 7 hHeld ?_;refine tkH 8 hHeld ?_;refine tkH 9 hHeld ?_;refine tkH 10 hHeld ?_;refine tkH 11 hHeld ?_;refine tkH 12 hHeld ?_;refine tkH 13 hHeld ?_;refine tkH 14 hHeld ?_;refine wpAnyH_done (by kernel_rfl) ?_ _;clear hHeld;go_upto_region 9 with(fail);obtain⟨aV,cV,rfl⟩:=hId.out.row.slice;have hdl:(Ce (bs.take q)).length=q:=by rw[Bm,List.length_take,Hbl.out];omega
    have Hrow6:=qz (hId.out.row.below (Aa wd (.cells #[.pointer (some ⟨b1,0,none⟩)] 24)));have Hrd6:=qz (Ge (Aj.new wd 24 #[.pointer (some ⟨b1,0,none⟩)]));have hLo6:(Ce (bs.take q)).length+1<=maxLen/\((Ce (bs.take q)).length+1)*8<=140737488355328/\w.heap.size+1<=(wd.alloc (.cells #[.pointer (some ⟨b1,0,none⟩)] 24)).heap.size:=by
     rw[hdl];have:=hId.out.blk.lt;exact⟨by simp only[maxLen];omega,by omega,by simp;omega⟩
    have Hx0:=qz (hId.out.blk.alloc (.cells #[.pointer (some ⟨b1,0,none⟩)] 24));have Hb0:=qz (hId.out.below.alloc hId.out.below.size (.cells #[.pointer (some ⟨b1,0,none⟩)] 24));have d1:=hId.out.blk.cell 1;obtain⟨HLo6,Hdl⟩:=hid2 hLo6 hdl;clear hLo6 hdl;clear hId;go_wp2_with (at_builtin;apply Shut.out);unfold Shut;refine Gz rfl (.tmp 47) (.tmp 49) 108 rfl Tryz.underlying108 Hj.out Hy0.out Hy1.out Hy2.out rfl (by omega) rfl Hrow6.out HLo6.out.2.2 rfl (Kn _ _ b1) rfl Hrd6.out HLo6.out.1 HLo6.out.2.1 ?_;intro V6 w6 hr6 hg6 hat6;rw[<-Htb.out]at hr6;obtain⟨a6,c6,rfl⟩:=hr6.slice;have hx6:=Hx0.out.grown hg6 (fun e=>by have:=(Hrow6.out.base w.heap.size e.symm).1;omega);have hb6:=Hb0.out.grown hg6 Hb0.out.size (fun k hk=>by have:=(Hrow6.out.base k hk).1;omega);have d1:=hx6.cell 1;have fz:=hx6.frozen;have lx:=hx6.lt;have Hr7:=qz (hr6.keepP (w':=w6.setCell ⟨w.heap.size,1,none⟩ (.slice a6 (Ce (bs.take (q+1))).length c6)) (by simp[World.setCell]) (fun i e _=>Below.heap_setCell _ _ _ _ (by have:=(hr6.base i e).1;simp;omega)));have Hx7:=qz (hx6.set_ 1 (.slice a6 (Ce (bs.take (q+1))).length c6));have Hb7:=qz (hb6.setCell (p:=⟨w.heap.size,1,none⟩) (Nat.le_refl _) (.slice a6 (Ce (bs.take (q+1))).length c6));clear hr6 hx6 hb6 hg6 hat6 Hrow6 Hrd6 HLo6 Hx0 Hb0;go_upto_region 10 with(fail);have e9:World.setCell w6 ⟨w.heap.size,1,none⟩ (.slice a6 (Ce (bs.take (q+1))).length c6)=World.setCell w6 ⟨w.heap.size,1,none⟩ (.slice a6 (Ce (bs.take (q+1))).length c6):=rfl;generalize World.setCell w6 ⟨w.heap.size,1,none⟩ (.slice a6 (Ce (bs.take (q+1))).length c6)=w7 at Hx7 Hb7 Hr7 ⊢;clear e9 d1 fz lx;have hsb:=HS.out _ Hb7.out;have p3:=hsb.2;have d3:=Hx7.out.cell 3;have fz:=Hx7.out.frozen;have lx:=Hx7.out.lt;have lb:b1<w7.heap.size:=by have:=N1.out.lt;have:=Hb7.out.size;omega
    have hwr:IntKind.i64.wrap (((Cg (ks.take q)).length:Int)+((Cw k).length:Int))=((Cg (ks.take q)).length:Int)+((Cw k).length:Int):=IntWalk.i64_in _ (by omega);clear hsb
    go_region_law (fail)
    all_goals
     have hx8:=(Hx7.out.set_ 3 (.int .i64 (((Cg (ks.take q)).length:Int)+((Cw k).length:Int)))).drew;have hb8:=Hb7.out.setCell (p:=⟨w.heap.size,3,none⟩) (Nat.le_refl _) (.int .i64 (((Cg (ks.take q)).length:Int)+((Cw k).length:Int)));have hb8d:=hb8.trans ((Below.drew (Below.refl _ _)).mono hb8.size);have hr8:=(Hr7.out.keepP (w':=w7.setCell ⟨w.heap.size,3,none⟩ (.int .i64 (((Cg (ks.take q)).length:Int)+((Cw k).length:Int)))) (by simp[World.setCell]) (fun i e _=>Below.heap_setCell _ _ _ _ (by have:=(Hr7.out.base i e).1;simp;omega))).below (Below.drew (Below.refl _ _));generalize (w7.setCell ⟨w.heap.size,3,none⟩ (.int .i64 (((Cg (ks.take q)).length:Int)+((Cw k).length:Int)))).drew=w8 at hx8 hb8d hr8 ⊢;clear hb8 d3 p3 fz lx lb Hx7 Hb7 Hr7;have d6:=hx8.cell 6;have fz:=hx8.frozen;have lx:=hx8.lt;have HSw:=qz (HSo.out w8 hb8d);obtain⟨Hx8,Hb8d,Hr8⟩:=hid3 hx8 hb8d hr8;clear hx8 hb8d hr8;go_wp2_with (fail);(with_reducible refine(HSw.out).mono ?_);rintro e w9 ⟨rfl,hb9⟩;have hx9:=Hx8.out.below hb9 lx;have hbw9:=Hb8d.out.trans (hb9.mono Hb8d.out.size);have hr9:=Hr8.out.below hb9;clear d6 fz lx hb9 HSw Hx8 Hb8d Hr8;have d6:=hx9.cell 6;have fz:=hx9.frozen;have lx:=hx9.lt;have HN:Hid (IL w T ks bs (q+1) (w9.setCell ⟨w.heap.size,6,none⟩ (.bool false)) (.slice a6 (Ce (bs.take (q+1))).length c6)):=
      ⟨hbw9.setCell (p:=⟨w.heap.size,6,none⟩) (Nat.le_refl _) _,by
        rw[show((Cg (ks.take (q+1))).length:Int)=((Cg (ks.take q)).length:Int)+((Cw k).length:Int)from by rw[Htk.out,List.length_append];omega];exact hx9.set_ 6 (.bool false),hr9.keepP (by simp[World.setCell]) (fun i e _=>Below.heap_setCell _ _ _ _ (by have:=(hr9.base i e).1;simp;omega))⟩
     clear hx9 hbw9 hr9;go_wp2;go_roundw
     case rel=>exact⟨q+1,by go_num,by omega,_,HN⟩
     case measure=>simp only[intOf];omega
  . obtain rfl:q=ks.length:=by omega
    obtain⟨i1,i2,i3⟩:=hI.out;rw[List.take_length]at i2;rw[show bs.take ks.length=bs from by rw[<-Hbl.out,List.take_length]]at i3;obtain⟨aV,cV,rfl⟩:=i3.slice_n (n:=ks.length) (by rw[Bm,Hbl.out]);have hRw:=HR.out wr i1;obtain⟨_,_,_,_,_,_,hq0,_⟩:=N0.out.blk;obtain⟨_,_,_,_,_,_,hql,_⟩:=Nl.out.blk;have r0c:=hI.out.below;have hfin: ∀W,Below w.heap.size w W->A0 (fun _=>False) (w.heap.size+1) 24 1 W (Ce bs) (.slice aV ks.length cV)->Aj W w.heap.size Y4 #[.slice none 0 0,.slice aV ks.length cV,.int .i64 ((T:Int)+1),.int .i64 (Cg ks).length,.string (Av k0),.string (Dw kl),.bool false]->PO (.returned (.tuple #[.pointer (some ⟨w.heap.size,0,none⟩),.int .i64 0])) W:=fun W hB hr hx=>by
     rw[<-HPO.out];have hrb:=hr.base;refine⟨hB,_,rfl, ?_⟩;simp only[Bx,HF1.out,HF2.out,HHI.out];refine⟨.inr (Nat.le_refl _),hx.lt,bs,aV,cV,hr.closeIn.mono fun i _ p1=> .inr ?_,hx,(HkS.out.below hB).mono fun i _ hi=> .inl hi⟩;rcases p1 with p1|p1
     . exact p1.elim
     . have:=(hrb _ p1).1;omega
    have hS: ∀W,Below w.heap.size w W->W.cell? ⟨g,off,none⟩=some (.pointer (some ⟨b0,0,none⟩))/\W.cell? ⟨g,off+(ks.length - 1),none⟩=some (.pointer (some ⟨bl,0,none⟩))/\W.cell? ⟨b0,4,none⟩=some (.string (Av k0))/\W.cell? ⟨bl,5,none⟩=some (.string (Dw kl)):=fun W hB=>
     ⟨(hB.cell (p:=⟨g,off,none⟩) hg).trans Rh.out,(hB.cell (p:=⟨g,off+(ks.length - 1),none⟩) hg).trans Rl.out,(hq0.below hB N0.out.lt).cell 4,(hql.below hB Nl.out.lt).cell 5⟩
    have z1:IntKind.i64.wrap ((ks.length:Int) - 1)=(ks.length:Int) - 1:=IntWalk.i64_in _ (by omega);have z2:((ks.length:Int) - 1).toNat=ks.length - 1:=by omega
    have z3:(0:Int)<=(ks.length:Int) - 1:=by omega
    have z5:(ks.length:Int) - 1<(ks.length:Int):=by omega
    have z6:(1:Int)<=(ks.length:Int):=by omega
    have z7:0<ks.length:=by omega
    have z8:ks.length - 1<ks.length:=by omega
    obtain⟨I1,I2,I3,HRw,Hfin,HS⟩:=hid6 i1 i2 i3 hRw hfin hS;clear i1 i2 i3 hRw hfin hS;clear hI hq0 hql r0c;go_wp2_with (fail);(with_reducible refine(HRw.out).mono ?_);rintro e w1 ⟨rfl,hb1⟩;have Hx1:=qz ((I2.out.below hb1 I2.out.lt).drew);have Hw1':=qz ((I1.out.trans (hb1.mono I1.out.size)).trans ((Below.drew (Below.refl _ w1)).mono (I1.out.trans (hb1.mono I1.out.size)).size));have Hr1:=qz ((I3.out.below hb1).below (Below.drew (Below.refl _ _)));clear hb1 I1 I2 I3 HRw HR Hk H HHt;go_upto_region 15 with(fail);generalize Av k0=s1 at Hfin HS;generalize Dw kl=s2 at Hfin HS;refine wp_region_held_drew (S:=fun Y:World=>Y.cell? ⟨g,off,none⟩=some (.pointer (some ⟨b0,0,none⟩))/\Y.cell? ⟨g,off+(ks.length - 1),none⟩=some (.pointer (some ⟨bl,0,none⟩))/\Y.cell? ⟨b0,4,none⟩=some (.string s1)/\Y.cell? ⟨bl,5,none⟩=some (.string s2)) (by kernel_rfl) (HS.out _ Hw1'.out) (fun hHeld=> ?_);generalize w1.drew=wd at Hx1 Hw1' Hr1 hHeld ⊢;refine tkH 0 hHeld ?_;refine tkH 1 hHeld ?_;refine tkH 2 hHeld ?_;refine tkH 3 hHeld ?_;refine tkH 4 hHeld ?_;refine tkH 5 hHeld ?_;refine tkH 6 hHeld ?_;refine tkH 7 hHeld ?_;refine tkH 8 hHeld ?_;refine tkH 9 hHeld ?_;refine tkH 10 hHeld ?_;refine tkH 11 hHeld ?_;refine tkH 12 hHeld ?_;refine tkH 13 hHeld ?_;refine tkH 14 hHeld ?_;refine tkH 15 hHeld ?_;refine tkH 16 hHeld ?_;refine tkH 17 hHeld ?_;refine tkH 18 hHeld ?_;have x4:=Hx1.out.cell 4;have x5:=Hx1.out.cell 5;have fz:=Hx1.out.frozen;have lx:=Hx1.out.lt;refine Ie 19 fun K hK=> ?_;go_simp;have hx2:=Hx1.out.set_ 4 (.string s1);have hb2:=Hw1'.out.setCell (p:=⟨w.heap.size,4,none⟩) (Nat.le_refl _) (.string s1);have Hr2:=qz (Hr1.out.keepP (w':=wd.setCell ⟨w.heap.size,4,none⟩ (.string s1)) (by simp[World.setCell]) (fun i e _=>Below.heap_setCell _ _ _ _ (by have:=(Hr1.out.base i e).1;simp;omega)));refine hK.out _ _ (HS.out _ hb2) (fun hHeld=> ?_);clear hK K x4 x5 fz lx;have x5:=hx2.cell 5;have fz:=hx2.frozen;have lx:=hx2.lt;have Hx2:=qz hx2;clear hx2
    try simp only[Act.put,tk1,tk2,tk3,tk4,tk5,tk6]
    refine tkH 20 hHeld ?_;refine tkH 21 hHeld ?_;refine Ie 22 fun K hK=> ?_;go_simp;have hb3:=hb2.setCell (p:=⟨w.heap.size,5,none⟩) (Nat.le_refl _) (.string s2);have HP:=qz (Hfin.out _ hb3 (Hr2.out.keepP (w':=(wd.setCell ⟨w.heap.size,4,none⟩ (.string s1)).setCell ⟨w.heap.size,5,none⟩ (.string s2)) (by simp[World.setCell]) (fun i e _=>Below.heap_setCell _ _ _ _ (by have:=(Hr2.out.base i e).1;simp;omega))) (Hx2.out.set_ 5 (.string s2)));refine hK.out _ _ (HS.out _ hb3) (fun hHeld=> ?_);clear hK K x5 fz lx hb2 hb3
    try simp only[Act.put,tk1,tk2,tk3,tk4,tk5,tk6]
    refine wpAnyH_done (by kernel_rfl) ?_ _;clear hHeld HS;go_wp2;exact HP.out
end Go.Proofs.YtkmcjfkokoidcaaGreatDoor
