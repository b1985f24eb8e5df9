/- Parts: node.Inner: the inner node of kids. Condition: 2 to 8 kids that are full enough, of one height, rising; at most 10^9 entries. -/
import Derived.Test.YtdbejcbbhomdbaaGreatDoorKPt7
import Derived.Test.YtdbejcbbhomdbaaGreatDoorKPt9
import Derived.Test.YtdbejcbbhomdbaaGreatDoorKPt10
set_option maxHeartbeats 20000000
set_option maxRecDepth 100000
namespace Go.Proofs.YtdbejcbbhomdbaaGreatDoor
open Go Go.RowKit
theorem Abv:(Tryz.prog.info? 84).map (fun i=>(i.zero,i.size,i.bytes))=some (some (.agg #[.string ⟨#[]⟩,.int .i64 0,.bool false,.int .i64 0,.string ⟨#[]⟩,.slice none 0 0,.slice none 0 0]),7,104):=by kernel_rfl
theorem Dg.rowX {b g:Nat} {t:TypeId} {s:Nat} {wr:World} {l:List D} (h:Dg b g t s l.length wr l) (hm:l.length<=maxLen):As (fun i=>b<=i) b t s wr l (.slice (some ⟨g,0,none⟩) l.length l.length):=by
 obtain⟨h1,h2,h3,cs,ns,h4,h5,h6,h7⟩:=h;have hA:=h7 wr (Nat.le_refl _) (fun _ _ _ _=>rfl);have hnl:ns.length=l.length*s:=by rw[hA.len.1,Dy h3]
 have e:cs.toList=ns:=by
  refine List.ext_getElem (by rw[Array.length_toList,h5,hnl]) fun j j1 j2=> ?_;have:=h6 j _ (List.getElem?_eq_getElem j2);rw[<-Array.getElem?_toList,List.getElem?_eq_getElem j1]at this;exact Option.some.inj this
 refine⟨ns,⟨hnl,.inr ⟨g,l.length,cs,rfl,h1,h4,Nat.le_refl _,hm,h5, ?_⟩⟩,h3,fun w'' k1 k2=>h7 w'' k1 fun p p1 p2 p3=>k2 p ⟨p1,fun e=>p3 (by simp only[Value.ownBlock,Option.some.injEq]at e;exact e.symm)⟩ p2⟩;rw[e,<-hnl,List.take_length]
def CL (w:World) (es:List Bz) (q:Nat) (wr:World):Prop:=Below w.heap.size w wr/\Dg w.heap.size w.heap.size 84 7 es.length wr (dO (es.take q))
def Lp (es:List Bz) (w:World) (e:Ending) (w':World):Prop:=Below w.heap.size w w'/\ ∃g,e=.returned (.slice (some ⟨g,0,none⟩) es.length es.length)/\As (fun i=>w.heap.size<=i) w.heap.size 84 7 w' (dO es) (.slice (some ⟨g,0,none⟩) es.length es.length)
theorem Ks (es:List Bz) (a:Option Addr) (n c:Nat) (w:World) (h:Ae w w.heap.size (.row 7 (dO es)) [.slice a n c]) (hb:Ag es<=100000000):Calls Tryz.prog 149 #[.slice a n c] w (Lp es w):=by
 have hn:=h.row_len;rw[Cb]at hn;subst hn;have hln:=Bu es;obtain⟨j0,hj,hy0,hy1,hy2⟩:=info_parts Abv;have hmo:=fun W=>G8 (P:=Tryz.prog) 41 84 j0 _ Tryz.underlying41 hj hy0 es.length (by rw[hy2];omega) (by omega) W;rw[hy1]at hmo;obtain⟨M2,hM2⟩: ∃M,madeCells (Value.cells (.agg #[.string ⟨#[]⟩,.int .i64 0,.bool false,.int .i64 0,.string ⟨#[]⟩,.slice none 0 0,.slice none 0 0])) (es.length*7)=M:=⟨_,rfl⟩;simp only[hM2]at hmo;have hS2:M2.size=es.length*7:=by rw[<-hM2,size_madeCells]
 have HI0:Hid (CL w es 0 (w.alloc (.cells M2 84))):=⟨Ab _ _,Dg.start (Nat.le_refl _) (heap_alloc_new _ _) hS2⟩;have H:=qz h;clear h;clear hM2 hS2 hj hy0 hy1 hy2;go_enter Tryz.func149,Tryz.ntmps149;go_wp2_with (fail);clear hmo;go_loopw [11] (fun i wr=> ∃q:Nat,i=.int .i64 q/\q<=es.length/\Hid (CL w es q wr)) (fun i _=>es.length - (intOf i).toNat)
 case atStart=>exact⟨0,rfl,Nat.zero_le _,HI0⟩
 case round=>
  obtain⟨q,rfl,hq,hv⟩:=hrel;clear HI0;by_cases hlt:q<es.length
  . obtain⟨⟨key,x⟩,hx⟩: ∃v,es[q]? =some v:=⟨_,List.getElem?_eq_getElem hlt⟩;have hmem:=List.mem_of_getElem? hx;have hbv:=Ca hmem;simp only at hbv;have htk:dO (es.take (q+1))=dO (es.take q)++ [dP (key,x)]:=by rw[List.take_add_one,hx,Dr,Dr];simp
    have hqlen:(dO (es.take q)).length=q:=by rw[Cb,List.length_take];omega
    obtain⟨hbw,hF⟩:=hv.out;have hz:=hbw.size;obtain⟨k',b',n',t',l',o'⟩:=x;obtain⟨g,off,rfl,hg,la',lc',oa',oc',hvs,c0,c1,c2,c3,c4,c5,c6⟩:=S6 ((H.out.below hbw).more hz) hx;have hC: ∀W,Below wr.heap.size wr W->Calls Tryz.prog 79 #[.agg #[.int .i64 k',.bool b',.int .i64 n',.string t',.slice la' l'.length lc',.slice oa' o'.length oc']] W (Gg W (.mk k' b' n' t' l' o')):=fun W hW=>
     F0 _ _ W (Az _ _ ((hvs.below hW).more hW.size)) (by omega)
    have hgr:g<wr.heap.size:=hg;have hgl:=hF.lt;have hcell: ∀W,Below wr.heap.size wr W->(∀j,j<7-> ∃u,W.cell? ⟨w.heap.size,q*7+j,none⟩=some u)/\(∀j,W.frozen? ⟨w.heap.size,j,none⟩=false):=fun W hW=>by
     have h1:=(hF.below hW).cell;exact⟨fun j hj=>h1.1 _ (by omega),h1.2⟩
    have y1:(q:Int)<(es.length:Int):=by omega
    have n2:wr.heap.size≠w.heap.size:=by omega
    have n4:=n2.symm;obtain⟨HC,Hcell,Htk,Hqlen⟩:=hid4 hC hcell htk hqlen;clear hC hcell htk hqlen;clear hbw hF hvs hx hmem;go_wp2_with (fail)
    go_region_held3 (fun W=>W.cell? ⟨wr.heap.size,0,none⟩=some (.string key)/\W.cell? ⟨wr.heap.size,1,none⟩=some (.int .i64 k')/\W.cell? ⟨wr.heap.size,2,none⟩=some (.bool b')/\W.cell? ⟨wr.heap.size,3,none⟩=some (.int .i64 n')/\W.cell? ⟨wr.heap.size,4,none⟩=some (.string t')/\W.cell? ⟨wr.heap.size,5,none⟩=some (.slice la' l'.length lc')/\W.cell? ⟨wr.heap.size,6,none⟩=some (.slice oa' o'.length oc')) (go_keep) (first|(go_at_call 79;refine(HC.out _ ?_).mono ?_;(exact(Below.drew ((Below.refl _ _).alloc (Nat.le_refl _) _)));rintro e w4 ⟨⟨cs4,rfl,hl4,hf4⟩,hb4⟩;obtain⟨la2,lc2,oa2,oc2,rfl⟩:=G0 hf4;have hbr:Below wr.heap.size wr w4:=((Below.drew ((Below.refl _ _).alloc (Nat.le_refl _) _)).trans (hb4.mono (by simp)));obtain⟨hd,hfz⟩:=Hcell.out w4 hbr;obtain⟨v0,d0⟩:=hd 0 (by omega);obtain⟨v1,d1⟩:=hd 1 (by omega);obtain⟨v2,d2⟩:=hd 2 (by omega);obtain⟨v3,d3⟩:=hd 3 (by omega);obtain⟨v4,d4⟩:=hd 4 (by omega);obtain⟨v5,d5⟩:=hd 5 (by omega);obtain⟨v6,d6⟩:=hd 6 (by omega);rw[Nat.add_zero]at d0;obtain⟨hc4,hf4'⟩:=Sk hb4;clear hd))
    all_goals
     have hf5:Bb wr.heap.size w4 (dV (.mk k' b' n' t' l' o')) [.int .i64 k',.bool b',.int .i64 n',.string t',.slice la2 l'.length lc2,.slice oa2 o'.length oc2]:=hf4.keep (by simp) (Nat.le_refl _) (fun _ _ _=>rfl);have hN:=hv.out.2.step (by rw[Hqlen.out];exact hlt) (Fq _) (Pa (key:=key) hf5) hbr;rw[Hqlen.out,<-Htk.out]at hN;have HN:Hid (CL w es (q+1) (((((((w4.setCell ⟨w.heap.size,q*7,none⟩ (.string key)).setCell ⟨w.heap.size,q*7+1,none⟩ (.int .i64 k')).setCell ⟨w.heap.size,q*7+2,none⟩ (.bool b')).setCell ⟨w.heap.size,q*7+3,none⟩ (.int .i64 n')).setCell ⟨w.heap.size,q*7+4,none⟩ (.string t')).setCell ⟨w.heap.size,q*7+5,none⟩ (.slice la2 l'.length lc2)).setCell ⟨w.heap.size,q*7+6,none⟩ (.slice oa2 o'.length oc2))):=⟨Am [.string key,.int .i64 k',.bool b',.int .i64 n',.string t',.slice la2 l'.length lc2,.slice oa2 o'.length oc2] (hv.out.1.trans (hbr.mono hz)) (Nat.le_refl _) (o:=q*7),hN⟩;clear hN hf5 hf4 hb4 hbr hfz hc4 hf4' hv HC Hcell Htk Hqlen c0 c1 c2 c3 c4 c5 c6 d0 d1 d2 d3 d4 d5 d6 n2 n4;go_wp2;go_roundw
     case rel=>exact⟨q+1,by go_num,by omega,HN⟩
     case measure=>simp only[intOf];omega
  . obtain rfl:q=es.length:=by omega
    obtain⟨hb',hF⟩:=hv.out;rw[List.take_length]at hF;have hF':Dg w.heap.size w.heap.size 84 7 (dO es).length wr (dO es):=by rw[Cb];exact hF
    have hR:=hF'.rowX (by rw[Cb];unfold maxLen;omega);rw[Cb]at hR;have HR:Hid (Lp es w (.returned (.slice (some ⟨w.heap.size,0,none⟩) es.length es.length)) wr):=⟨hb',_,rfl,hR⟩;clear hv hb' hF hF' hR;go_wp2;go_ret;exact HR.out
theorem Do {w:World} {B n c:Nat} {l:List Bz} {a:Option Addr} (h:Ae w B (.row 7 (dO l)) [.slice a n c]) {q:Nat} {e:Bz} (hi:l[q]? =some e):
 ∃g off,a=some ⟨g,off,none⟩/\g<B/\ ∃u1 u2 u3 u4 u5 u6,Ae w B (dV e.2) [u1,u2,u3,u4,u5,u6]/\w.rangeAt g (off+q*7) [.string e.1,u1,u2,u3,u4,u5,u6]:=by
 obtain⟨g,off,ea,hg,cs,h1,h2,h3⟩:=h.at_ (i:=q) (d:=dP e) (by rw[Dr,List.getElem?_map,hi];rfl);obtain⟨key,v⟩:=e;obtain⟨_,c3,rfl,⟨rfl,_⟩,cv,c4,rfl,h4,rfl⟩:=h1;have h5:=h4.len.1;rw[C6]at h5;obtain⟨u1,u2,u3,u4,u5,u6,rfl⟩: ∃u1 u2 u3 u4 u5 u6,cv= [u1,u2,u3,u4,u5,u6]:=by
  match cv,h5 with
  | [u1,u2,u3,u4,u5,u6],_=>exact⟨u1,u2,u3,u4,u5,u6,rfl⟩
 exact⟨g,off,ea,hg,u1,u2,u3,u4,u5,u6,h4,fun j u hj=>h3 j u (by simpa using hj)⟩
theorem Ta (k1 k2:ByteArray) (u1 u2 u3 u4 u5 u6 v1 v2 v3 v4 v5 v6:Value) (w:World):Calls Tryz.prog 222 #[.agg #[.string k1,u1,u2,u3,u4,u5,u6],.agg #[.string k2,v1,v2,v3,v4,v5,v6]] w fun e w'=>e=.returned (.bool (Cg k1 k2))/\Below w.heap.size w w':=by
 go_enter Tryz.func222,Tryz.ntmps222;go_wp2;go_ret;exact⟨rfl,((Below.refl _ _).alloc (Nat.le_refl _) _).alloc (by simp) _⟩
theorem Py (es:List Bz) (a:Option Addr) (n c:Nat) (w:World) (h:Ae w w.heap.size (.row 7 (dO es)) [.slice a n c]) (ha:Bq es) (h8:es.length<=1000):
 Calls Tryz.prog 221 #[.slice a n c,.func (.func 222) #[] #[]] w fun e w'=>e=.returned (.bool true)/\Below w.heap.size w w':=by
 have hn:=h.row_len;rw[Cb]at hn;subst hn;have H:=qz h;clear h;go_enter Tryz.func221,Tryz.ntmps221;go_wp2_with (fail);go_loopw [5] (fun i wr=> ∃q:Nat,i=.int .i64 ((q:Int)+1)/\(q=0\/q+1<=es.length)/\Hid (Below w.heap.size w wr)) (fun i _=>es.length - (intOf i).toNat)
 case atStart=>exact⟨0,rfl,.inl rfl,Below.refl _ _⟩
 case round=>
  obtain⟨q,rfl,hq,hI⟩:=hrel;by_cases hlt:q+1<es.length
  . obtain⟨e1,he1⟩: ∃p,es[q]? =some p:=⟨_,List.getElem?_eq_getElem (by omega)⟩;obtain⟨e2,he2⟩: ∃p,es[q+1]? =some p:=⟨_,List.getElem?_eq_getElem hlt⟩;have hlt2:Cg e1.1 e2.1=true:=by
     obtain⟨i1,rfl⟩:=List.getElem?_eq_some_iff.1 he1;obtain⟨i2,rfl⟩:=List.getElem?_eq_some_iff.1 he2;exact List.pairwise_iff_getElem.1 ha q (q+1) i1 i2 (by omega)
    obtain⟨g,off,rfl,hg,u1,u2,u3,u4,u5,u6,_,r1⟩:=Do H.out he1;obtain⟨g',off',e,_,v1,v2,v3,v4,v5,v6,_,r2⟩:=Do H.out he2
    cases e
    have hz:=hI.out.size;have hS: ∀W,Below w.heap.size w W->W.rangeAt g (off+q*7) [.string e1.1,u1,u2,u3,u4,u5,u6]/\W.rangeAt g (off+(q+1)*7) [.string e2.1,v1,v2,v3,v4,v5,v6]:=fun W hB=>
     ⟨fun j u hj=>(hB.cell (p:=⟨g,off+q*7+j,none⟩) hg).trans (r1 j u hj),fun j u hj=>(hB.cell (p:=⟨g,off+(q+1)*7+j,none⟩) hg).trans (r2 j u hj)⟩
    have HD:=qz (hI.out.trans ((Below.drew (Below.refl _ wr)).mono hz));have hL:=Ta e1.1 e2.1 u1 u2 u3 u4 u5 u6 v1 v2 v3 v4 v5 v6;rw[hlt2]at hL;have hw1:IntKind.i64.wrap ((q:Int)+1)=(q:Int)+1:=IntWalk.i64_in _ (by omega);have hw2:IntKind.i64.wrap ((q:Int)+1 - 1)=(q:Int):=by rw[Int.add_sub_cancel];exact IntWalk.i64_in _ (by omega)
    have hw3:IntKind.i64.wrap (q:Int)=(q:Int):=IntWalk.i64_in _ (by omega);have y1:(q:Int)+1<(es.length:Int):=by omega
    have y2:(q:Int)<(es.length:Int):=by omega
    have y3:(0:Int)<=q:=by omega
    have y4:((q:Int)+1).toNat=q+1:=by omega
    have y5:(0:Int)<=(q:Int)+1:=by omega
    obtain⟨HS,HL⟩:=hid2 hS hL;clear hS hL;clear r1 r2 he1 he2 hlt2;go_upto_region 4 with(fail);refine wp_region_held_drew (S:=fun X=>X.rangeAt g (off+q*7) [.string e1.1,u1,u2,u3,u4,u5,u6]/\X.rangeAt g (off+(q+1)*7) [.string e2.1,v1,v2,v3,v4,v5,v6]) (by kernel_rfl) (HS.out _ HD.out) (fun hHeld=> ?_);generalize wr.drew=wd at HD hHeld ⊢;refine tkH 0 hHeld ?_;refine tkH 1 hHeld ?_;refine tkH 2 hHeld ?_;refine tkH 3 hHeld ?_;refine tkH 4 hHeld ?_;refine wpAnyH_take (i:=5) rfl (by kernel_rfl) (by kernel_rfl) (by kernel_rfl) (fun _ _ _ h=>h) (yieldsIf_load_mid (by kernel_rfl) 84 (.tmp 16) rfl g (off+q*7) rfl _ _ (fun X hX=>hX.1) Tryz.underlying84 rfl (by kernel_rfl)) hHeld ?_
    try simp only[Act.put,tk1,tk2,tk3,tk4,tk5,tk6]
    refine tkH 6 hHeld ?_;refine tkH 7 hHeld ?_;refine tkH 8 hHeld ?_;refine wpAnyH_take (i:=9) rfl (by kernel_rfl) (by kernel_rfl) (by kernel_rfl) (fun _ _ _ h=>h) (yieldsIf_load_mid (by kernel_rfl) 84 (.tmp 20) rfl g (off+(q+1)*7) rfl _ _ (fun X hX=>hX.2) Tryz.underlying84 rfl (by kernel_rfl)) hHeld ?_
    try simp only[Act.put,tk1,tk2,tk3,tk4,tk5,tk6]
    refine Og 10 fun K hK=> ?_;go_simp;(with_reducible refine(HL.out _).mono ?_);rintro e w1 ⟨rfl,hb1⟩;have hw5:=HD.out.trans (hb1.mono HD.out.size);refine hK.out _ _ (HS.out _ hw5) (fun hHeld=> ?_);clear hK K hb1;have HN:=qz hw5;clear hw5
    try simp only[Act.put,tk1,tk2,tk3,tk4,tk5,tk6]
    refine tkH 11 hHeld ?_;refine wpAnyH_done (by kernel_rfl) ?_ _;clear hHeld HS HD HL hI;go_wp2;go_roundw
    case rel=>exact⟨q+1,by go_num,.inr (by omega),HN⟩
    case measure=>simp only[intOf];omega
  . have y1:(es.length:Int)<=(q:Int)+1:=by omega
    have HI:=qz hI.out;clear hI;go_wp2;go_ret;exact⟨rfl,HI.out⟩
theorem Vj (es:List Bz) (a:Option Addr) (n c:Nat) (w:World) (h:Ae w w.heap.size (.row 7 (dO es)) [.slice a n c]) (ha:Bq es) (h8:es.length<=8) (hb:Ag es<=100000000):
 Calls Tryz.prog 173 #[.slice a n c] w fun e w'=>Below w.heap.size w w'/\ ∃b,e=.returned (.tuple #[.pointer (some ⟨b,0,none⟩),.int .i64 0])/\By (fun i=>w.heap.size<=i) w' (.leaf es) b:=by
 have hn:=h.row_len;rw[Cb]at hn;subst hn;have HR:=qz (Py es a es.length c w h ha (by omega));have HC:=qz (fun(W:World) (hB:Below w.heap.size w W)=>Ks es a es.length c W ((h.below hB).more hB.size) hb);have y8:(es.length:Int)<=8:=by omega
 obtain⟨PO,hPO⟩: ∃P:Ending->World->Prop,(fun e w'=>Below w.heap.size w w'/\ ∃b,e=.returned (.tuple #[.pointer (some ⟨b,0,none⟩),.int .i64 0])/\By (fun i=>w.heap.size<=i) w' (.leaf es) b)=P:=⟨_,rfl⟩;rw[hPO];obtain⟨H,HPO⟩:=hid2 h hPO;clear h hPO;go_enter Tryz.func173,Tryz.ntmps173;go_wp2_with (fail);(with_reducible refine(HR.out).mono ?_);rintro e w1 ⟨rfl,hb1⟩;have Hb1:=qz hb1;clear hb1;go_wp2_with (fail);(with_reducible refine(HC.out _ Hb1.out).mono ?_);rintro e w2 ⟨hb2,g2,rfl,hV⟩;have hw2:=Hb1.out.trans (hb2.mono Hb1.out.size);obtain⟨a2,ha2⟩: ∃a2,some (⟨g2,0,none⟩:Addr)=a2:=⟨_,rfl⟩;obtain⟨c2,hc2⟩: ∃c2,es.length=c2:=⟨_,rfl⟩;rw[ha2,show(Value.slice a2 es.length es.length)=.slice a2 es.length c2 from by rw[<-hc2]]at hV ⊢;clear ha2 hc2;have hVb:=hV.base;have hH:=hV.closeIn;have hFn: ∀(W:World) (f l:ByteArray),Below w2.heap.size w2 W->Aj W w2.heap.size Qg #[.slice a2 es.length c2,.slice none 0 0,.int .i64 0,.int .i64 es.length,.string f,.string l,.bool false]->Al (.leaf es)=f->Bv (.leaf es)=l->By (fun i=>w.heap.size<=i) W (.leaf es) w2.heap.size:=fun W f l hB hx e1 e2=>by
  have hz1:=Hb1.out.size;have hz2:=hb2.size;simp only[By,e1,e2];refine⟨by omega,hx.lt,a2,c2,(hH.below hB).mono fun i _ p1=> ?_,hx⟩;rcases p1 with p1|p1
  . omega
  . have:=(hVb _ p1).1;omega
 have Hw3:=qz (hw2.alloc hw2.size (.cells #[.slice a2 es.length c2,.slice none 0 0,.int .i64 0,.int .i64 es.length,.string ⟨#[]⟩,.string ⟨#[]⟩,.bool false] Qg));have Hb23:=qz (Ab w2 (.cells #[.slice a2 es.length c2,.slice none 0 0,.int .i64 0,.int .i64 es.length,.string ⟨#[]⟩,.string ⟨#[]⟩,.bool false] Qg));have Hx3:=qz (Aj.new w2 Qg #[.slice a2 es.length c2,.slice none 0 0,.int .i64 0,.int .i64 es.length,.string ⟨#[]⟩,.string ⟨#[]⟩,.bool false]);have hzw:=hw2.size;have HFn:=qz hFn;clear hFn;clear hb2 hV hVb hH hw2;go_upto_region 4 with(fail);generalize w2.alloc (.cells #[.slice a2 es.length c2,.slice none 0 0,.int .i64 0,.int .i64 es.length,.string ⟨#[]⟩,.string ⟨#[]⟩,.bool false] Qg)=w3 at Hw3 Hb23 Hx3 ⊢;generalize w2.heap.size=X at HFn Hb23 Hx3 hzw ⊢;by_cases h0:es= []
 . subst h0;have HP:Hid (PO (.returned (.tuple #[.pointer (some ⟨X,0,none⟩),.int .i64 0])) w3):=by
    show PO _ _;rw[<-HPO.out];exact⟨Hw3.out,X,rfl,HFn.out w3 _ _ Hb23.out Hx3.out rfl rfl⟩
   go_wp2;exact HP.out
 . have hpos:0<es.length:=List.length_pos_iff.2 h0;obtain⟨e1,he1⟩: ∃p,es[0]? =some p:=⟨_,List.getElem?_eq_getElem (by omega)⟩;obtain⟨e2,he2⟩: ∃p,es[es.length - 1]? =some p:=⟨_,List.getElem?_eq_getElem (by omega)⟩;obtain⟨g,off,rfl,hg,u1,u2,u3,u4,u5,u6,_,r1⟩:=Do H.out he1;obtain⟨g',off',e,_,v1,v2,v3,v4,v5,v6,_,r2⟩:=Do H.out he2
   cases e
   have s1:=r1 0 _ rfl;have s2:=r2 0 _ rfl;simp only[Nat.add_zero,Nat.zero_mul]at s1 s2;have hF1:Al (.leaf es)=e1.1:=by
    unfold Al Co;rw[List.head?_eq_getElem?,he1];rfl
   have hF2:Bv (.leaf es)=e2.1:=by
    unfold Bv Co;rw[List.getLast?_eq_getElem?,he2];rfl
   have hfin: ∀W,Below X w3 W->Aj W X Qg #[.slice a2 es.length c2,.slice none 0 0,.int .i64 0,.int .i64 es.length,.string e1.1,.string e2.1,.bool false]->PO (.returned (.tuple #[.pointer (some ⟨X,0,none⟩),.int .i64 0])) W:=fun W hB hx=>by
    rw[<-HPO.out];exact⟨Hw3.out.trans (hB.mono hzw),X,rfl,HFn.out W _ _ (Hb23.out.trans hB) hx hF1 hF2⟩
   have hS: ∀W,Below X w3 W->W.cell? ⟨g,off,none⟩=some (.string e1.1)/\W.cell? ⟨g,off+(es.length - 1)*7,none⟩=some (.string e2.1):=fun W hB=>
    have h2:=Hw3.out.trans (hB.mono hzw)
    ⟨(h2.cell (p:=⟨g,off,none⟩) hg).trans s1,(h2.cell (p:=⟨g,off+(es.length - 1)*7,none⟩) hg).trans s2⟩
   have y1:IntKind.i64.wrap ((es.length:Int) - 1)=(es.length:Int) - 1:=IntWalk.i64_in _ (by omega);have y2:((es.length:Int) - 1).toNat=es.length - 1:=by omega
   have y3:(0:Int)<=(es.length:Int) - 1:=by omega
   have y4:(0:Int)<(es.length:Int):=by omega
   have y5:(es.length:Int) - 1<(es.length:Int):=by omega
   have y6:(1:Int)<=(es.length:Int):=by omega
   have hBd:Below X w3 w3.drew:=Below.drew (Below.refl _ _);have Hxd:=qz Hx3.out.drew;obtain⟨HS,Hfin⟩:=hid2 hS hfin;clear hS hfin;clear r1 r2 s1 s2 he1 he2 hF1 hF2;go_upto_region 5 with(fail);refine wp_region_held_drew (S:=fun Y=>Y.cell? ⟨g,off,none⟩=some (.string e1.1)/\Y.cell? ⟨g,off+(es.length - 1)*7,none⟩=some (.string e2.1)) (by kernel_rfl) (HS.out _ hBd) (fun hHeld=> ?_);generalize w3.drew=wd at hBd Hxd hHeld ⊢;refine tkH 0 hHeld ?_;refine tkH 1 hHeld ?_;refine tkH 2 hHeld ?_;refine tkH 3 hHeld ?_;refine tkH 4 hHeld ?_;refine tkH 5 hHeld ?_;refine tkH 6 hHeld ?_;refine tkH 7 hHeld ?_;refine tkH 8 hHeld ?_;refine tkH 9 hHeld ?_;refine tkH 10 hHeld ?_;refine tkH 11 hHeld ?_;refine tkH 12 hHeld ?_;refine tkH 13 hHeld ?_;refine tkH 14 hHeld ?_;have x4:=Hxd.out.cell 4;have x5:=Hxd.out.cell 5;have fz:=Hxd.out.frozen;have lx:=Hxd.out.lt;refine Og 15 fun K hK=> ?_;go_simp;have hx1:=Hxd.out.set_ 4 (.string e1.1);have hb1:=hBd.setCell (p:=⟨X,4,none⟩) (Nat.le_refl _) (.string e1.1);refine hK.out _ _ (HS.out _ hb1) (fun hHeld=> ?_);clear hK K x4 x5 fz lx;have x5:=hx1.cell 5;have fz:=hx1.frozen;have lx:=hx1.lt;have Hx1:=qz hx1;clear hx1
   try simp only[Act.put,tk1,tk2,tk3,tk4,tk5,tk6]
   refine tkH 16 hHeld ?_;refine tkH 17 hHeld ?_;refine Og 18 fun K hK=> ?_;go_simp;have HP:=qz (Hfin.out _ (hb1.setCell (p:=⟨X,5,none⟩) (Nat.le_refl _) (.string e2.1)) (Hx1.out.set_ 5 (.string e2.1)));refine hK.out _ _ (HS.out _ (hb1.setCell (p:=⟨X,5,none⟩) (Nat.le_refl _) (.string e2.1))) (fun hHeld=> ?_);clear hK K x5 fz lx hb1 hBd
   try simp only[Act.put,tk1,tk2,tk3,tk4,tk5,tk6]
   refine wpAnyH_done (by kernel_rfl) ?_ _;clear hHeld HS;go_wp2;exact HP.out
theorem Mc:(Tryz.prog.info? 43).map (fun i=>(i.zero,i.size,i.bytes))=some (some (.pointer none),1,8):=by kernel_rfl
theorem G4 {w:World} {B n c:Nat} {bs:List Nat} {a:Option Addr} (h:Ae w B (.row 1 (Ay bs)) [.slice a n c]) {q b:Nat} (hi:bs[q]? =some b): ∃g off,a=some ⟨g,off,none⟩/\g<B/\w.cell? ⟨g,off+q,none⟩=some (.pointer (some ⟨b,0,none⟩)):=by
 obtain⟨g,off,ea,hg,cs,h1,h2,h3⟩:=h.at_ (i:=q) (d:=Ul b) (by simp[Ay,hi]);obtain⟨rfl,_⟩:=h1;have:=h3 0 _ rfl;exact⟨g,off,ea,hg,by simpa using this⟩
theorem Ad1 {n:Nd} (h:Co n≠ []): ∃e,(Co n).getLast? =some e/\e ∈ Co n/\Bv n=e.1:=by
 obtain⟨e,he⟩: ∃e,(Co n).getLast? =some e:=⟨_,List.getLast?_eq_some_getLast h⟩;exact⟨e,he,List.mem_of_getLast? he,by unfold Bv;rw[he];rfl⟩
theorem Xm {ks:List Nd} (ha:Bq (Au ks)) (hne: ∀k ∈ ks,Co k≠ []) {q:Nat} {k1 k2:Nd} (h1:ks[q]? =some k1) (h2:ks[q+1]? =some k2):Cg (Bv k1) (Al k2)=true:=by
 obtain⟨i1,rfl⟩:=List.getElem?_eq_some_iff.1 h1;obtain⟨i2,rfl⟩:=List.getElem?_eq_some_iff.1 h2;have e:ks=ks.take q++ks[q]::ks[q+1]::ks.drop (q+2):=by
  rw[List.getElem_cons_drop,List.getElem_cons_drop,List.take_append_drop]
 have ha':=ha;rw[e,B6]at ha';have ha2:=(List.pairwise_append.1 ha').2.1;simp only[Au]at ha2;obtain⟨x,hx,hm,hl⟩:=Ad1 (hne ks[q] (List.getElem_mem i1));obtain⟨v,r,hf⟩:=Er (hne ks[q+1] (List.getElem_mem i2));rw[hl];exact(List.pairwise_append.1 ha2).2.2 x hm (Al ks[q+1],v) (by rw[hf];simp)
theorem Qn {w:World} {B:Nat} {n1 n2:Nd} {b1 b2:Nat} (h1:Bt w B n1 b1) (h2:Bt w B n2 b2):Calls Tryz.prog 180 #[.pointer (some ⟨b1,0,none⟩),.pointer (some ⟨b2,0,none⟩)] w fun e w'=>e=.returned (.bool (Cg (Bv n1) (Al n2)))/\Below w.heap.size w w':=by
 obtain⟨_,_,_,_,_,_,hx1,_⟩:=h1.blk;obtain⟨_,_,_,_,_,_,hx2,_⟩:=h2.blk;have hR:Cg (Bv n1) (Al n2)=Op.bytesLess (Bv n1).toList (Al n2).toList:=rfl;rw[hR];have hSS:(fun Y:World=>Y.cell? ⟨b1,5,none⟩=some (.string (Bv n1))/\Y.cell? ⟨b2,4,none⟩=some (.string (Al n2))) w.drew:=⟨hx1.cell 5,hx2.cell 4⟩;have hb:=Below.drew (Below.refl w.heap.size w);clear h1 h2 hx1 hx2 hR;generalize Bv n1=s1 at hSS ⊢;generalize Al n2=s2 at hSS ⊢;go_enter Tryz.func180,Tryz.ntmps180;go_upto_region 1 with(fail);refine wp_region_held_drew (S:=fun Y:World=>Y.cell? ⟨b1,5,none⟩=some (.string s1)/\Y.cell? ⟨b2,4,none⟩=some (.string s2)) (by kernel_rfl) hSS (fun hHeld=> ?_);refine tkH 0 hHeld ?_;refine tkH 1 hHeld ?_;refine tkH 2 hHeld ?_;refine tkH 3 hHeld ?_;refine tkH 4 hHeld ?_;refine tkH 5 hHeld ?_;refine tkH 6 hHeld ?_;refine tkH 7 hHeld ?_;refine tkH 8 hHeld ?_;refine tkH 9 hHeld ?_;refine wpAnyH_done (by kernel_rfl) ?_ _;clear hHeld hSS;go_wp2;go_ret;exact⟨rfl,hb⟩
theorem Pz (ks:List Nd) (bs:List Nat) (a:Option Addr) (n c:Nat) (w:World) (h:Ae w w.heap.size (.row 1 (Ay bs)) [.slice a n c]) (hk:Ar w w.heap.size ks bs) (ha:Bq (Au ks)) (hne: ∀k ∈ ks,Co k≠ []) (h8:ks.length<=1000):
 Calls Tryz.prog 179 #[.slice a n c,.func (.func 180) #[] #[]] w fun e w'=>e=.returned (.bool true)/\Below w.heap.size w w':=by
 have hn:=h.row_len;rw[A9,hk.len]at hn;subst hn;obtain⟨H,Hk⟩:=hid2 h hk;clear h hk;go_enter Tryz.func179,Tryz.ntmps179;go_wp2_with (fail);go_loopw [5] (fun i wr=> ∃q:Nat,i=.int .i64 ((q:Int)+1)/\(q=0\/q+1<=ks.length)/\Hid (Below w.heap.size w wr)) (fun i _=>ks.length - (intOf i).toNat)
 case atStart=>exact⟨0,rfl,.inl rfl,Below.refl _ _⟩
 case round=>
  obtain⟨q,rfl,hq,hI⟩:=hrel;by_cases hlt:q+1<ks.length
  . obtain⟨k1,hk1⟩: ∃p,ks[q]? =some p:=⟨_,List.getElem?_eq_getElem (by omega)⟩;obtain⟨k2,hk2⟩: ∃p,ks[q+1]? =some p:=⟨_,List.getElem?_eq_getElem (by omega)⟩;have hlt2:=Xm ha hne hk1 hk2;obtain⟨b1,hb1,n1⟩:=Hk.out.at_ hk1;obtain⟨b2,hb2,n2⟩:=Hk.out.at_ hk2;obtain⟨g,off,rfl,hg,r1⟩:=G4 H.out hb1;obtain⟨g',off',e,_,r2⟩:=G4 H.out hb2
    cases e
    have hz:=hI.out.size;have hS: ∀W,Below w.heap.size w W->W.cell? ⟨g,off+q,none⟩=some (.pointer (some ⟨b1,0,none⟩))/\W.cell? ⟨g,off+(q+1),none⟩=some (.pointer (some ⟨b2,0,none⟩)):=fun W hB=>
     ⟨(hB.cell (p:=⟨g,off+q,none⟩) hg).trans r1,(hB.cell (p:=⟨g,off+(q+1),none⟩) hg).trans r2⟩
    have HD:=qz (hI.out.trans ((Below.drew (Below.refl _ wr)).mono hz));have hL:=fun(W:World) (hB:Below w.heap.size w W)=>Qn (n1.below hB) (n2.below hB);rw[hlt2]at hL;have hw1:IntKind.i64.wrap ((q:Int)+1)=(q:Int)+1:=IntWalk.i64_in _ (by omega);have hw2:IntKind.i64.wrap ((q:Int)+1 - 1)=(q:Int):=by rw[Int.add_sub_cancel];exact IntWalk.i64_in _ (by omega)
    have hw3:IntKind.i64.wrap (q:Int)=(q:Int):=IntWalk.i64_in _ (by omega);have y1:(q:Int)+1<(ks.length:Int):=by omega
    have y2:(q:Int)<(ks.length:Int):=by omega
    have y3:(0:Int)<=q:=by omega
    have y4:((q:Int)+1).toNat=q+1:=by omega
    have y5:(0:Int)<=(q:Int)+1:=by omega
    obtain⟨HS,HL⟩:=hid2 hS hL;clear hS hL;clear r1 r2 hk1 hk2 hlt2 hb1 hb2 n1 n2;go_upto_region 4 with(fail);refine wp_region_held_drew (S:=fun Y=>Y.cell? ⟨g,off+q,none⟩=some (.pointer (some ⟨b1,0,none⟩))/\Y.cell? ⟨g,off+(q+1),none⟩=some (.pointer (some ⟨b2,0,none⟩))) (by kernel_rfl) (HS.out _ HD.out) (fun hHeld=> ?_);generalize wr.drew=wd at HD hHeld ⊢;refine tkH 0 hHeld ?_;refine tkH 1 hHeld ?_;refine tkH 2 hHeld ?_;refine tkH 3 hHeld ?_;refine tkH 4 hHeld ?_;refine tkH 5 hHeld ?_;refine tkH 6 hHeld ?_;refine tkH 7 hHeld ?_;refine tkH 8 hHeld ?_;refine tkH 9 hHeld ?_;refine Og 10 fun K hK=> ?_;go_simp;(with_reducible refine(HL.out _ HD.out).mono ?_);rintro e w1 ⟨rfl,hb1⟩;have hw5:=HD.out.trans (hb1.mono HD.out.size);refine hK.out _ _ (HS.out _ hw5) (fun hHeld=> ?_);clear hK K hb1;have HN:=qz hw5;clear hw5
    try simp only[Act.put,tk1,tk2,tk3,tk4,tk5,tk6]
    refine tkH 11 hHeld ?_;refine wpAnyH_done (by kernel_rfl) ?_ _;clear hHeld HS HD HL hI;go_wp2;go_roundw
    case rel=>exact⟨q+1,by go_num,.inr (by omega),HN⟩
    case measure=>simp only[intOf];omega
  . have y1:(ks.length:Int)<=(q:Int)+1:=by omega
    have HI:=qz hI.out;clear hI;go_wp2;go_ret;exact⟨rfl,HI.out⟩
theorem Uw {k:Nd} {r:List Nd} (h:Co k≠ []):Al (.inner (k::r))=Al k:=by
 obtain⟨x,t,e⟩:=Er h;unfold Al;simp only[Co,Au];rw[e];rfl
theorem Xp {ks:List Nd} {k:Nd} (h:Co k≠ []):Bv (.inner (ks++ [k]))=Bv k:=by
 unfold Bv;simp only[Co,B6,Su];rw[List.getLast?_append,List.getLast?_eq_some_getLast h];rfl
theorem Fv (S:Nat->Prop) (w:World) (b:Nat):Ac S w (Ul b) [.pointer (some ⟨b,0,none⟩)]:=fun _ _ _=>⟨rfl,rfl⟩
theorem As.keepP {b:Nat} {t:TypeId} {s:Nat} {wr w':World} {l:List D} {V:Value} (h:As (fun _=>False) b t s wr l V) (hs:wr.heap.size<=w'.heap.size) (hk: ∀i,V.ownBlock=some i->i<wr.heap.size->w'.heap[i]? =wr.heap[i]?):As (fun _=>False) b t s w' l V:=by
 obtain⟨ns,h1,h2,h3⟩:=h;refine⟨ns,⟨h1.1, ?_⟩,h2,fun w'' k1 _=>Af.more (h3 w'' (by omega) (fun p p1 _=>p1.1.elim)) hs⟩;rcases h1.2 with⟨rfl,h0⟩|⟨g,cap,cur,rfl,hbg,hg,h5⟩
 . exact .inl ⟨rfl,h0⟩
 . exact .inr ⟨g,cap,cur,rfl,hbg,(hk g rfl (Array.getElem?_eq_some_iff.1 hg).1).trans hg,h5⟩
structure IL (w:World) (T:Nat) (ks:List Nd) (bs:List Nat) (q:Nat) (wr:World) (V:Value):Prop where
 below:Below w.heap.size w wr
 blk:Aj wr w.heap.size Qg #[.slice none 0 0,V,.int .i64 ((T:Int)+1),.int .i64 (Au (ks.take q)).length,.string ⟨#[]⟩,.string ⟨#[]⟩,.bool false]
 row:As (fun _=>False) (w.heap.size+1) 43 1 wr (Ay (bs.take q)) V
theorem IL.drew {w:World} {T:Nat} {ks:List Nd} {bs:List Nat} {q:Nat} {wr:World} {V:Value} (h:IL w T ks bs q wr V):IL w T ks bs q wr.drew V:=
 ⟨h.below.trans ((Below.drew (Below.refl _ wr)).mono h.below.size),h.blk.drew,h.row.below (Below.drew (Below.refl _ _))⟩
def Aa5 (S:Nat->Prop) (nd:Nd) (w:World) (e:Ending) (w':World):Prop:=Below w.heap.size w w'/\ ∃b,e=.returned (.tuple #[.pointer (some ⟨b,0,none⟩),.int .i64 0])/\By (fun i=>S i\/w.heap.size<=i) w' nd b
theorem S9 (S:Nat->Prop) (T:Nat) (ks:List Nd) (bs:List Nat) (a:Option Addr) (n c:Nat) (w:World) (h:Ae w w.heap.size (.row 1 (Ay bs)) [.slice a n c]) (hkS:An S w ks bs) (ha:Bq (Au ks)) (hok: ∀k ∈ ks,Fj 4 T k)
 (h2:2<=ks.length) (h8:ks.length<=8) (hH:T<=1000000) (hN:(Au ks).length<=1000000000):Calls Tryz.prog 134 #[.slice a n c] w (Aa5 S (.inner ks) w):=by
 have hk:=hkS.now;have hn:=h.row_len;rw[A9,hk.len]at hn;subst hn;have hbl:=hk.len;have hne: ∀k ∈ ks,Co k≠ []:=fun k hkk=>Lg (by omega) (hok k hkk);obtain⟨j0,hj,hy0,hy1,hy2⟩:=info_parts Mc;obtain⟨PO,hPO⟩: ∃P:Ending->World->Prop,Aa5 S (.inner ks) w=P:=⟨_,rfl⟩;rw[hPO];have y2:(2:Int)<=ks.length:=by omega
 have y8:(ks.length:Int)<=8:=by omega
 have yp:(0:Int)<ks.length:=by omega
 obtain⟨k0,r0,e0⟩: ∃k r,ks=k::r:=by
  match ks,h2 with
  |x::r,_=>exact⟨x,r,rfl⟩
 have hk0:ks[0]? =some k0:=by rw[e0];rfl
 have hm0:k0 ∈ ks:=by rw[e0];simp
 have hF1:Al (.inner ks)=Al k0:=by rw[e0];exact Uw (hne k0 hm0)
 have hH0:Kl k0=T:=Sx (.inl (by omega)) (hok k0 hm0);have hHI:(Kl (.inner ks):Int)=(T:Int)+1:=by rw[e0];simp[Kl,htL,hH0]
 obtain⟨b0,hb0,n0⟩:=hk.at_ hk0;obtain⟨kl,hkl⟩: ∃p,ks[ks.length - 1]? =some p:=⟨_,List.getElem?_eq_getElem (by omega)⟩;have hml:=List.mem_of_getElem? hkl;have hF2:Bv (.inner ks)=Bv kl:=by
  have e:ks=ks.dropLast++ [kl]:=by
   have h3:=List.getLast?_eq_some_iff.1 ((List.getLast?_eq_getElem?).trans hkl);obtain⟨ys,e3⟩:=h3;rw[e3];simp
  rw[e];exact Xp (hne kl hml)
 obtain⟨bl,hbl',nl⟩:=hk.at_ hkl;obtain⟨g,off,rfl,hg,r0'⟩:=G4 h hb0;obtain⟨g',off',e',_,rl⟩:=G4 h hbl'
 cases e'
 rw[Nat.add_zero]at r0';have hHt:=Dp n0;rw[hH0]at hHt;have hw1:IntKind.i64.wrap ((T:Int)+1)=(T:Int)+1:=IntWalk.i64_in _ (by omega);have HR:=qz (fun(W:World) (hB:Below w.heap.size w W)=>Pz ks bs (some ⟨g,off,none⟩) ks.length c W ((h.below hB).more hB.size) ((hk.below hB).more hB.size) ha hne (by omega));have hI0:IL w T ks bs 0 (w.alloc (.cells #[.slice none 0 0,.slice none 0 0,.int .i64 ((T:Int)+1),.int .i64 0,.string ⟨#[]⟩,.string ⟨#[]⟩,.bool false] Qg)) (.slice none 0 0):=
  ⟨Ab _ _,by simpa[Au]using Aj.new w Qg #[.slice none 0 0,.slice none 0 0,.int .i64 ((T:Int)+1),.int .i64 0,.string ⟨#[]⟩,.string ⟨#[]⟩,.bool false],by simpa[Ay]using As.nil _ _ _ _ _⟩
 obtain⟨H,Hk,HkS,HHt,HI0,Hj,Hy0,Hy1,Hy2,HPO,N0,Nl,Rl,HF1,HF2,HHI⟩:=hid16 h hk hkS hHt hI0 hj hy0 hy1 hy2 hPO n0 nl rl hF1 hF2 hHI;have Hbl:=qz hbl;clear h hk hkS hHt hI0 hj hy0 hy1 hy2 hPO n0 nl rl hF1 hF2 hHI hbl;have Rh:=qz r0';clear hk0 hkl hbl' hb0 e0 hH0;go_enter Tryz.func134,Tryz.ntmps134;go_wp2_with (fail);(with_reducible refine(HHt.out).mono ?_);rintro e w1 ⟨rfl,rfl⟩;go_wp2_with (fail);go_loopw [24] (fun i wr=> ∃q:Nat,i=.int .i64 q/\q<=ks.length/\ ∃V,Hid (IL w T ks bs q wr V)) (fun i _=>ks.length - (intOf i).toNat)
 case atStart=>exact⟨0,rfl,Nat.zero_le _,_,HI0⟩
 case round=>
  obtain⟨q,rfl,hq,V,hI⟩:=hrel;clear HI0;by_cases hlt:q<ks.length
  . obtain⟨k,hk1⟩: ∃p,ks[q]? =some p:=⟨_,List.getElem?_eq_getElem hlt⟩;have hmk:=List.mem_of_getElem? hk1;obtain⟨b1,hb1,n1⟩:=Hk.out.at_ hk1;obtain⟨g',off',e,_,r1⟩:=G4 H.out hb1
    cases e
    have hz:=hI.out.below.size;have hbw:=hI.out.below;have n1w:=n1.below hbw;have HCn:=qz (L6 n1w);have hSo:=fun(W:World) (hB:Below w.heap.size w W)=>Tb (n1.below hB) (by have:=(V3 (hok k hmk)).2;omega);rw[show decide (4<=E6 k)=true from decide_eq_true (V3 (hok k hmk)).1]at hSo;have hHk:Kl k=T:=Sx (.inl (by omega)) (hok k hmk);have hnz:((Co k).length:Int)≠0:=by
     have:=List.length_pos_iff.2 (hne k hmk);omega
    have hnz2:(((Co k).length:Int)==0)=false:=beq_eq_false_iff_ne.2 hnz;have htk:Au (ks.take (q+1))=Au (ks.take q)++Co k:=by rw[List.take_add_one,hk1,Option.toList_some,B6,Su]
    have htb:Ay (bs.take (q+1))=Ay (bs.take q)++ [Ul b1]:=by unfold Ay;rw[List.take_add_one,hb1];simp
    have hle:(Au (ks.take q)).length+(Co k).length<=1000000000:=by
     have e5:Au ks=Au (ks.take (q+1))++Au (ks.drop (q+1)):=by rw[<-B6,List.take_append_drop]
     rw[e5,htk]at hN;simp only[List.length_append]at hN;omega
    have c0:=(hbw.cell (p:=⟨g,off+q,none⟩) hg).trans r1;obtain⟨ea,en,ec,ka,kn,kc,hx1,_⟩:=n1.blk;rw[hHk]at hx1;have hlx:=hI.out.blk.lt;have hS: ∀W,Below w.heap.size w W->W.cell? ⟨b1,2,none⟩=some (.int .i64 T)/\W.cell? ⟨b1,3,none⟩=some (.int .i64 (Co k).length):=fun W hB=>
     have:=hx1.below hB n1.lt
     ⟨this.cell 2,this.cell 3⟩
    have hq1:(q:Int)<(ks.length:Int):=by omega
    have hq0:(0:Int)<=q:=by omega
    have d2:=hI.out.blk.cell 2;obtain⟨HSo,Htk,Htb,HS,Hbw,N1,Hx1⟩:=hid7 hSo htk htb hS hbw n1 hx1;clear hSo htk htb hS hbw n1 hx1;clear hmk hk1 hb1 r1 n1w hHk;go_upto_region 7 with(fail);refine wp_region_held_drew (S:=fun Y:World=>Y.cell? ⟨b1,2,none⟩=some (.int .i64 T)/\Y.cell? ⟨w.heap.size,2,none⟩=some (.int .i64 ((T:Int)+1))) (by kernel_rfl) ⟨(HS.out _ (Hbw.out.trans ((Below.drew (Below.refl _ wr)).mono hz))).1,d2⟩ (fun hHeld=> ?_);have hId:=qz hI.out.drew;have hCd:=qz (fun(_:Unit)=>L6 (N1.out.below hId.out.below));clear hI HCn d2;generalize wr.drew=wd at hId hCd hHeld ⊢;refine tkH 0 hHeld ?_;refine Og 1 fun K hK=> ?_;go_simp;(with_reducible refine(hCd.out ()).mono ?_);rintro e w1 ⟨rfl,rfl⟩;refine hK.out _ _ hHeld (fun hHeld=> ?_);clear hK K hCd
    try simp only[Act.put,tk1,tk2,tk3,tk4,tk5,tk6]
    refine tkH 2 hHeld ?_;refine tkH 3 hHeld ?_;refine tkH 4 hHeld ?_;refine tkH 5 hHeld ?_;refine tkH 6 hHeld ?_;refine tkH 7 hHeld ?_;refine tkH 8 hHeld ?_;refine tkH 9 hHeld ?_;refine tkH 10 hHeld ?_;refine tkH 11 hHeld ?_;refine tkH 12 hHeld ?_;refine tkH 13 hHeld ?_;refine tkH 14 hHeld ?_;refine wpAnyH_done (by kernel_rfl) ?_ _;clear hHeld;go_upto_region 9 with(fail);obtain⟨aV,cV,rfl⟩:=hId.out.row.slice;have hdl:(Ay (bs.take q)).length=q:=by rw[A9,List.length_take,Hbl.out];omega
    have Hrow6:=qz (hId.out.row.below (Ab wd (.cells #[.pointer (some ⟨b1,0,none⟩)] 43)));have Hrd6:=qz (D4 (Aj.new wd 43 #[.pointer (some ⟨b1,0,none⟩)]));have hLo6:(Ay (bs.take q)).length+1<=maxLen/\((Ay (bs.take q)).length+1)*8<=140737488355328/\w.heap.size+1<=(wd.alloc (.cells #[.pointer (some ⟨b1,0,none⟩)] 43)).heap.size:=by
     rw[hdl];have:=hId.out.blk.lt;exact⟨by simp only[maxLen];omega,by omega,by simp;omega⟩
    have Hx0:=qz (hId.out.blk.alloc (.cells #[.pointer (some ⟨b1,0,none⟩)] 43));have Hb0:=qz (hId.out.below.alloc hId.out.below.size (.cells #[.pointer (some ⟨b1,0,none⟩)] 43));have d1:=hId.out.blk.cell 1;obtain⟨HLo6,Hdl⟩:=hid2 hLo6 hdl;clear hLo6 hdl;clear hId;go_wp2_with (at_builtin;apply Shut.out);unfold Shut;refine Ej rfl (.tmp 47) (.tmp 49) 144 rfl Tryz.underlying144 Hj.out Hy0.out Hy1.out Hy2.out rfl (by omega) rfl Hrow6.out HLo6.out.2.2 rfl (Fv _ _ b1) rfl Hrd6.out HLo6.out.1 HLo6.out.2.1 ?_;intro V6 w6 hr6 hg6 hat6;rw[<-Htb.out]at hr6;obtain⟨a6,c6,rfl⟩:=hr6.slice;have hx6:=Hx0.out.grown hg6 (fun e=>by have:=(Hrow6.out.base w.heap.size e.symm).1;omega);have hb6:=Hb0.out.grown hg6 Hb0.out.size (fun k hk=>by have:=(Hrow6.out.base k hk).1;omega);have d1:=hx6.cell 1;have fz:=hx6.frozen;have lx:=hx6.lt;have Hr7:=qz (hr6.keepP (w':=w6.setCell ⟨w.heap.size,1,none⟩ (.slice a6 (Ay (bs.take (q+1))).length c6)) (by simp[World.setCell]) (fun i e _=>Below.heap_setCell _ _ _ _ (by have:=(hr6.base i e).1;simp;omega)));have Hx7:=qz (hx6.set_ 1 (.slice a6 (Ay (bs.take (q+1))).length c6));have Hb7:=qz (hb6.setCell (p:=⟨w.heap.size,1,none⟩) (Nat.le_refl _) (.slice a6 (Ay (bs.take (q+1))).length c6));clear hr6 hx6 hb6 hg6 hat6 Hrow6 Hrd6 HLo6 Hx0 Hb0;go_upto_region 10 with(fail);have e9:World.setCell w6 ⟨w.heap.size,1,none⟩ (.slice a6 (Ay (bs.take (q+1))).length c6)=World.setCell w6 ⟨w.heap.size,1,none⟩ (.slice a6 (Ay (bs.take (q+1))).length c6):=rfl;generalize World.setCell w6 ⟨w.heap.size,1,none⟩ (.slice a6 (Ay (bs.take (q+1))).length c6)=w7 at Hx7 Hb7 Hr7 ⊢;clear e9 d1 fz lx;have hsb:=HS.out _ Hb7.out;have p3:=hsb.2;have d3:=Hx7.out.cell 3;have fz:=Hx7.out.frozen;have lx:=Hx7.out.lt;have lb:b1<w7.heap.size:=by have:=N1.out.lt;have:=Hb7.out.size;omega
    have hwr:IntKind.i64.wrap (((Au (ks.take q)).length:Int)+((Co k).length:Int))=((Au (ks.take q)).length:Int)+((Co k).length:Int):=IntWalk.i64_in _ (by omega);clear hsb
    go_region_law (fail)
    all_goals
     have hx8:=(Hx7.out.set_ 3 (.int .i64 (((Au (ks.take q)).length:Int)+((Co k).length:Int)))).drew;have hb8:=Hb7.out.setCell (p:=⟨w.heap.size,3,none⟩) (Nat.le_refl _) (.int .i64 (((Au (ks.take q)).length:Int)+((Co k).length:Int)));have hb8d:=hb8.trans ((Below.drew (Below.refl _ _)).mono hb8.size);have hr8:=(Hr7.out.keepP (w':=w7.setCell ⟨w.heap.size,3,none⟩ (.int .i64 (((Au (ks.take q)).length:Int)+((Co k).length:Int)))) (by simp[World.setCell]) (fun i e _=>Below.heap_setCell _ _ _ _ (by have:=(Hr7.out.base i e).1;simp;omega))).below (Below.drew (Below.refl _ _));generalize (w7.setCell ⟨w.heap.size,3,none⟩ (.int .i64 (((Au (ks.take q)).length:Int)+((Co k).length:Int)))).drew=w8 at hx8 hb8d hr8 ⊢;clear hb8 d3 p3 fz lx lb Hx7 Hb7 Hr7;have d6:=hx8.cell 6;have fz:=hx8.frozen;have lx:=hx8.lt;have HSw:=qz (HSo.out w8 hb8d);obtain⟨Hx8,Hb8d,Hr8⟩:=hid3 hx8 hb8d hr8;clear hx8 hb8d hr8;go_wp2_with (fail);(with_reducible refine(HSw.out).mono ?_);rintro e w9 ⟨rfl,hb9⟩;have hx9:=Hx8.out.below hb9 lx;have hbw9:=Hb8d.out.trans (hb9.mono Hb8d.out.size);have hr9:=Hr8.out.below hb9;clear d6 fz lx hb9 HSw Hx8 Hb8d Hr8;have d6:=hx9.cell 6;have fz:=hx9.frozen;have lx:=hx9.lt;have HN:Hid (IL w T ks bs (q+1) (w9.setCell ⟨w.heap.size,6,none⟩ (.bool false)) (.slice a6 (Ay (bs.take (q+1))).length c6)):=
      ⟨hbw9.setCell (p:=⟨w.heap.size,6,none⟩) (Nat.le_refl _) _,by
        rw[show((Au (ks.take (q+1))).length:Int)=((Au (ks.take q)).length:Int)+((Co k).length:Int)from by rw[Htk.out,List.length_append];omega];exact hx9.set_ 6 (.bool false),hr9.keepP (by simp[World.setCell]) (fun i e _=>Below.heap_setCell _ _ _ _ (by have:=(hr9.base i e).1;simp;omega))⟩
     clear hx9 hbw9 hr9;go_wp2;go_roundw
     case rel=>exact⟨q+1,by go_num,by omega,_,HN⟩
     case measure=>simp only[intOf];omega
  . obtain rfl:q=ks.length:=by omega
    obtain⟨i1,i2,i3⟩:=hI.out;rw[List.take_length]at i2;rw[show bs.take ks.length=bs from by rw[<-Hbl.out,List.take_length]]at i3;obtain⟨aV,cV,rfl⟩:=i3.slice_n (n:=ks.length) (by rw[A9,Hbl.out]);have hRw:=HR.out wr i1;obtain⟨_,_,_,_,_,_,hq0,_⟩:=N0.out.blk;obtain⟨_,_,_,_,_,_,hql,_⟩:=Nl.out.blk;have r0c:=hI.out.below;have hfin: ∀W,Below w.heap.size w W->As (fun _=>False) (w.heap.size+1) 43 1 W (Ay bs) (.slice aV ks.length cV)->Aj W w.heap.size Qg #[.slice none 0 0,.slice aV ks.length cV,.int .i64 ((T:Int)+1),.int .i64 (Au ks).length,.string (Al k0),.string (Bv kl),.bool false]->PO (.returned (.tuple #[.pointer (some ⟨w.heap.size,0,none⟩),.int .i64 0])) W:=fun W hB hr hx=>by
     rw[<-HPO.out];have hrb:=hr.base;refine⟨hB,_,rfl, ?_⟩;simp only[By,HF1.out,HF2.out,HHI.out];refine⟨.inr (Nat.le_refl _),hx.lt,bs,aV,cV,hr.closeIn.mono fun i _ p1=> .inr ?_,hx,(HkS.out.below hB).mono fun i _ hi=> .inl hi⟩;rcases p1 with p1|p1
     . exact p1.elim
     . have:=(hrb _ p1).1;omega
    have hS: ∀W,Below w.heap.size w W->W.cell? ⟨g,off,none⟩=some (.pointer (some ⟨b0,0,none⟩))/\W.cell? ⟨g,off+(ks.length - 1),none⟩=some (.pointer (some ⟨bl,0,none⟩))/\W.cell? ⟨b0,4,none⟩=some (.string (Al k0))/\W.cell? ⟨bl,5,none⟩=some (.string (Bv kl)):=fun W hB=>
     ⟨(hB.cell (p:=⟨g,off,none⟩) hg).trans Rh.out,(hB.cell (p:=⟨g,off+(ks.length - 1),none⟩) hg).trans Rl.out,(hq0.below hB N0.out.lt).cell 4,(hql.below hB Nl.out.lt).cell 5⟩
    have z1:IntKind.i64.wrap ((ks.length:Int) - 1)=(ks.length:Int) - 1:=IntWalk.i64_in _ (by omega);have z2:((ks.length:Int) - 1).toNat=ks.length - 1:=by omega
    have z3:(0:Int)<=(ks.length:Int) - 1:=by omega
    have z5:(ks.length:Int) - 1<(ks.length:Int):=by omega
    have z6:(1:Int)<=(ks.length:Int):=by omega
    have z7:0<ks.length:=by omega
    have z8:ks.length - 1<ks.length:=by omega
    obtain⟨I1,I2,I3,HRw,Hfin,HS⟩:=hid6 i1 i2 i3 hRw hfin hS;clear i1 i2 i3 hRw hfin hS;clear hI hq0 hql r0c;go_wp2_with (fail);(with_reducible refine(HRw.out).mono ?_);rintro e w1 ⟨rfl,hb1⟩;have Hx1:=qz ((I2.out.below hb1 I2.out.lt).drew);have Hw1':=qz ((I1.out.trans (hb1.mono I1.out.size)).trans ((Below.drew (Below.refl _ w1)).mono (I1.out.trans (hb1.mono I1.out.size)).size));have Hr1:=qz ((I3.out.below hb1).below (Below.drew (Below.refl _ _)));clear hb1 I1 I2 I3 HRw HR Hk H HHt;go_upto_region 15 with(fail);generalize Al k0=s1 at Hfin HS;generalize Bv kl=s2 at Hfin HS;refine wp_region_held_drew (S:=fun Y:World=>Y.cell? ⟨g,off,none⟩=some (.pointer (some ⟨b0,0,none⟩))/\Y.cell? ⟨g,off+(ks.length - 1),none⟩=some (.pointer (some ⟨bl,0,none⟩))/\Y.cell? ⟨b0,4,none⟩=some (.string s1)/\Y.cell? ⟨bl,5,none⟩=some (.string s2)) (by kernel_rfl) (HS.out _ Hw1'.out) (fun hHeld=> ?_);generalize w1.drew=wd at Hx1 Hw1' Hr1 hHeld ⊢;refine tkH 0 hHeld ?_;refine tkH 1 hHeld ?_;refine tkH 2 hHeld ?_;refine tkH 3 hHeld ?_;refine tkH 4 hHeld ?_;refine tkH 5 hHeld ?_;refine tkH 6 hHeld ?_;refine tkH 7 hHeld ?_;refine tkH 8 hHeld ?_;refine tkH 9 hHeld ?_;refine tkH 10 hHeld ?_;refine tkH 11 hHeld ?_;refine tkH 12 hHeld ?_;refine tkH 13 hHeld ?_;refine tkH 14 hHeld ?_;refine tkH 15 hHeld ?_;refine tkH 16 hHeld ?_;refine tkH 17 hHeld ?_;refine tkH 18 hHeld ?_;have x4:=Hx1.out.cell 4;have x5:=Hx1.out.cell 5;have fz:=Hx1.out.frozen;have lx:=Hx1.out.lt;refine Og 19 fun K hK=> ?_;go_simp;have hx2:=Hx1.out.set_ 4 (.string s1);have hb2:=Hw1'.out.setCell (p:=⟨w.heap.size,4,none⟩) (Nat.le_refl _) (.string s1);have Hr2:=qz (Hr1.out.keepP (w':=wd.setCell ⟨w.heap.size,4,none⟩ (.string s1)) (by simp[World.setCell]) (fun i e _=>Below.heap_setCell _ _ _ _ (by have:=(Hr1.out.base i e).1;simp;omega)));refine hK.out _ _ (HS.out _ hb2) (fun hHeld=> ?_);clear hK K x4 x5 fz lx;have x5:=hx2.cell 5;have fz:=hx2.frozen;have lx:=hx2.lt;have Hx2:=qz hx2;clear hx2
    try simp only[Act.put,tk1,tk2,tk3,tk4,tk5,tk6]
    refine tkH 20 hHeld ?_;refine tkH 21 hHeld ?_;refine Og 22 fun K hK=> ?_;go_simp;have hb3:=hb2.setCell (p:=⟨w.heap.size,5,none⟩) (Nat.le_refl _) (.string s2);have HP:=qz (Hfin.out _ hb3 (Hr2.out.keepP (w':=(wd.setCell ⟨w.heap.size,4,none⟩ (.string s1)).setCell ⟨w.heap.size,5,none⟩ (.string s2)) (by simp[World.setCell]) (fun i e _=>Below.heap_setCell _ _ _ _ (by have:=(Hr2.out.base i e).1;simp;omega))) (Hx2.out.set_ 5 (.string s2)));refine hK.out _ _ (HS.out _ hb3) (fun hHeld=> ?_);clear hK K x5 fz lx hb2 hb3
    try simp only[Act.put,tk1,tk2,tk3,tk4,tk5,tk6]
    refine wpAnyH_done (by kernel_rfl) ?_ _;clear hHeld HS;go_wp2;exact HP.out
end Go.Proofs.YtdbejcbbhomdbaaGreatDoor
