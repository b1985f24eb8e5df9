/- Parts: The law PatchFrom returns true. Condition: a bulk of at most 5 * 10^6 each. -/
import Derived.Test.YtdbejcbbhomdbaaGreatDoorKPu34
import Derived.Test.YtdbejcbbhomdbaaGreatDoorKPu40
import Derived.Test.YtdbejcbbhomdbaaGreatDoorKPu41
set_option maxHeartbeats 20000000
set_option maxRecDepth 100000
namespace Go.Proofs.YtdbejcbbhomdbaaGreatDoor
open Go Go.RowKit
theorem Xu {x:Lv} (w:World) (B:Nat) (cs:List Value) (h:Ai w B (dC x) cs):cs[0]? =some (.string x.1):=by
 obtain⟨_,c3,rfl,⟨rfl,_⟩,_⟩:=h;rfl
theorem Zg {w:World} {B:Nat} {v:Val} {cs:List Value} (h:Ai w B (dV v) cs): ∃k' b' n' t' la ln lc oa on oc,cs= [.int .i64 k',.bool b',.int .i64 n',.string t',.slice la ln lc,.slice oa on oc]:=by
 obtain⟨k,b,n,t,l,o⟩:=v;have h6:=Bj _ _ h;simp only[Ae]at h6;obtain⟨la,lc,oa,oc,rfl,_,_⟩:=h6;exact⟨_,_,_,_,_,_,_,_,_,_,rfl⟩
theorem Uu {w:World} {B:Nat} {key:ByteArray} {oa ob:Option Val} {cs:List Value} (h:Ai w B (dC (key,oa,ob)) cs): ∃c1 c2:List Value,c1.length=6/\c2.length=6/\cs= [.string key,.bool oa.isSome]++c1++ [.bool ob.isSome]++c2/\Ai w B (dV (oa.getD A6)) c1/\Ai w B (dV (ob.getD A6)) c2:=by
 obtain⟨_,r1,rfl,⟨rfl,_⟩,_,r2,rfl,⟨rfl,_⟩,c1,r3,rfl,h1,_,r4,rfl,⟨rfl,_⟩,c2,r5,rfl,h2,rfl⟩:=h;refine⟨c1,c2,by rw[h1.len.1,Cr],by rw[h2.len.1,Cr],by simp,h1,h2⟩
theorem Aa3 {S:Nat->Prop} {w:World} {key:ByteArray} {oa ob:Option Val} {c1 c2:List Value} (l1:c1.length=6) (_l2:c2.length=6) (h:Ag S w (dC (key,oa,ob)) ([.string key,.bool oa.isSome]++c1++ [.bool ob.isSome]++c2)):Ag S w (dV (oa.getD A6)) c1/\Ag S w (dV (ob.getD A6)) c2:=by
 have hk: ∀w'',w.heap.size<=w''.heap.size->(∀p:Addr,S p.block->p.block<w.heap.size->w''.cell? p=w.cell? p)->Ai w'' w.heap.size (dV (oa.getD A6)) c1/\Ai w'' w.heap.size (dV (ob.getD A6)) c2:=by
  intro w'' q1 q2;obtain⟨d1,d2,m1,m2,e,h1,h2⟩:=Uu (h w'' q1 q2);have e1:c1=d1:=by
   have:=congrArg (fun l=>(l.drop 2).take 6) e;simpa[l1,m1,List.take_append]using this
  subst e1;have e2:c2=d2:=by simpa using e
  subst e2;exact⟨h1,h2⟩
 exact⟨fun w'' q1 q2=>(hk w'' q1 q2).1,fun w'' q1 q2=>(hk w'' q1 q2).2⟩
theorem Xn {S:Nat->Prop} {w:World} {n c:Nat} {l:List Lv} {a:Option Addr} (h:Ag S w (.row 15 (Ss l)) [.slice a n c]) {q:Nat} {key:ByteArray} {oa ob:Option Val} (hi:l[q]? =some (key,oa,ob)):
 ∃g off,a=some ⟨g,off,none⟩/\g<w.heap.size/\ ∃k1' b1' n1' t1' la1 ln1 lc1 oa1 on1 oc1 k2' b2' n2' t2' la2 ln2 lc2 oa2 on2 oc2,Ag S w (dV (oa.getD A6)) [.int .i64 k1',.bool b1',.int .i64 n1',.string t1',.slice la1 ln1 lc1,.slice oa1 on1 oc1]/\Ag S w (dV (ob.getD A6)) [.int .i64 k2',.bool b2',.int .i64 n2',.string t2',.slice la2 ln2 lc2,.slice oa2 on2 oc2]/\w.rangeAt g (off+q*15) [.string key,.bool oa.isSome,.int .i64 k1',.bool b1',.int .i64 n1',.string t1',.slice la1 ln1 lc1,.slice oa1 on1 oc1,.bool ob.isSome,.int .i64 k2',.bool b2',.int .i64 n2',.string t2',.slice la2 ln2 lc2,.slice oa2 on2 oc2]:=by
 have hx:(Ss l)[q]? =some (dC (key,oa,ob)):=by rw[Ss,List.getElem?_map,hi];rfl
 obtain⟨g,off,rfl,hg,cs,h1,h2,h3⟩:=h.now.at_ hx;obtain⟨d1,d2,m1,m2,e,p1,p2⟩:=Uu h1;have hin:=(Ya (v1:=.bool false) h hx Xu (by simp)).2 cs h3 h2;rw[e]at hin;obtain⟨i1,i2⟩:=Aa3 m1 m2 hin;obtain⟨k1',b1',n1',t1',la1,ln1,lc1,oa1,on1,oc1,rfl⟩:=Zg p1;obtain⟨k2',b2',n2',t2',la2,ln2,lc2,oa2,on2,oc2,rfl⟩:=Zg p2;exact⟨g,off,rfl,hg,k1',b1',n1',t1',la1,ln1,lc1,oa1,on1,oc1,k2',b2',n2',t2',la2,ln2,lc2,oa2,on2,oc2,i1,i2,fun j u hj=>h3 j u (by rw[e];simpa using hj)⟩
def RfI (w2:World) (l:List Lv) (q:Nat) (wr:World) (V:Value):Prop:=
 Below w2.heap.size w2 wr/\An (fun i=>i<w2.heap.size) w2.heap.size 64 8 wr (D0 ((l.take q).map B8)) V
theorem Sh (a b:List A0) (M1 M2:Nat) (D:Nat->Prop) (sa sb:Option Addr) (na ca nb cb:Nat) (w:World) (hM1:w.cell? ⟨M1,0,none⟩=some (.slice sa na ca)) (hM2:w.cell? ⟨M2,0,none⟩=some (.slice sb nb cb)) (ha:Ag D w (.row 7 (dO a)) [.slice sa na ca]) (hb:Ag D w (.row 7 (dO b)) [.slice sb nb cb]) (hD: ∀i,D i->i<w.heap.size) (aa:Bb a) (ab:Bb b) (ba:Af a<=50000000) (bb:Af b<=50000000):
 Calls Tryz.prog 24 #[.pointer (some ⟨M1,0,none⟩),.pointer (some ⟨M2,0,none⟩)] w (Fr ((Bx a b).map B8) w):=by
 obtain⟨PO,hPO⟩: ∃P:Ending->World->Prop,Fr ((Bx a b).map B8) w=P:=⟨_,rfl⟩;rw[hPO];have la:=Aw a;have lb:=Aw b;have hll:=Ut a b;have lM1:M1<w.heap.size:=World.block_lt_of_cell? w _ hM1;have lM2:M2<w.heap.size:=World.block_lt_of_cell? w _ hM2;have hbd:Below w.heap.size w w.drew:=Below.drew (Below.refl _ w);have hC:=Nb a b D sa sb na ca nb cb w.drew (ha.below hbd) (hb.below hbd) hD aa ab ba bb;obtain⟨j0,hj,hy0,hy1,hy2⟩:=info_parts L7;generalize hL:Bx a b=L at hC hll hPO;obtain⟨HPO,HC,Hj,Hy0,Hy1,Hy2⟩:=hid6 hPO hC hj hy0 hy1 hy2;clear hPO hC hj hy0 hy1 hy2;clear ha hb hL aa ab;go_enter Tryz.func24,Tryz.ntmps24;go_upto_region 2 with(fail);refine wp_region_held_drew (S:=fun Y:World=>Y.cell? ⟨M1,0,none⟩=some (.slice sa na ca)/\Y.cell? ⟨M2,0,none⟩=some (.slice sb nb cb)) (by kernel_rfl) ⟨hM1,hM2⟩ (fun hHeld=> ?_);refine tkH 0 hHeld ?_;refine tkH 1 hHeld ?_;refine tkH 2 hHeld ?_;refine tkH 3 hHeld ?_;refine tkH 4 hHeld ?_;refine tkH 5 hHeld ?_;refine tkH 6 hHeld ?_;refine tkH 7 hHeld ?_;refine Iu 8 fun K hK=> ?_;go_simp;(with_reducible refine(HC.out).mono ?_);rintro e w2 ⟨hb2,V2,rfl,hr2⟩;have hb2:Below w.heap.size w w2:=hbd.trans hb2;have hr2:An D w.heap.size L3 15 w2 (Ss L) V2:=hr2;have hsz2:(Ss L).length=L.length:=Uv L;obtain⟨a2,c2',rfl⟩:=hr2.slice_n hsz2;refine hK.out _ _ ⟨(hb2.cell (p:=⟨M1,0,none⟩) lM1).trans hM1,(hb2.cell (p:=⟨M2,0,none⟩) lM2).trans hM2⟩ (fun hHeld=> ?_);clear hK K
 try simp only[Act.put,tk1,tk2,tk3,tk4,tk5,tk6]
 refine tkH 9 hHeld ?_;refine wpAnyH_done (by kernel_rfl) ?_ _;clear hHeld;have hzw:=hb2.size;have Hrow:Hid (Ag (fun i=>i<w2.heap.size) w2 (.row 15 (Ss L)) [.slice a2 L.length c2']):=(hr2.closeIn).mono fun i _ hi=>hi.elim (fun h=>by have:=hD i h;omega) fun h=>(hr2.base i h).2;have HI0:Hid (RfI w2 L 0 w2 (.slice none 0 0)):=⟨Below.refl _ _,by simpa[D0]using An.nil (fun i=>i<w2.heap.size) w2.heap.size 64 8 w2⟩;have Hb2:=qz hb2;clear hb2;clear hr2 hsz2 hM1 hM2;go_wp2_with (fail);go_loopw [5,7] (fun V i wr=> ∃q:Nat,i=.int .i64 q/\q<=L.length/\Hid (RfI w2 L q wr V)) (fun _ i _=>L.length - (intOf i).toNat)
 case atStart=>exact⟨0,rfl,Nat.zero_le _,HI0⟩
 case round=>
  obtain⟨q,rfl,hq,hI⟩:=hrel;clear HI0;obtain⟨i1,i2⟩:=hI.out;have hsz:(D0 ((L.take q).map B8)).length=q:=by
   rw[C7,List.length_map,List.length_take];omega
  obtain⟨aV,cV,rfl⟩:=i2.slice_n hsz;have hz:=i1.size;by_cases hlt:q<L.length
  . obtain⟨⟨key,oa,ob⟩,hx⟩: ∃v,L[q]? =some v:=⟨_,List.getElem?_eq_getElem hlt⟩;have hb0:=i2.base;obtain⟨g,off,rfl,hg,k1',b1',n1',t1',la1,ln1,lc1,oa1,on1,oc1,k2',b2',n2',t2',la2,ln2,lc2,oa2,on2,oc2,_,hv2,r1⟩:=Xn Hrow.out hx;have d0:w2.cell? ⟨g,off+q*15,none⟩=some (.string key):=by simpa using r1 0 _ rfl
    have d8:w2.cell? ⟨g,off+q*15+8,none⟩=some (.bool ob.isSome):=r1 8 _ rfl;have d9:w2.cell? ⟨g,off+q*15+9,none⟩=some (.int .i64 k2'):=r1 9 _ rfl;have d10:w2.cell? ⟨g,off+q*15+10,none⟩=some (.bool b2'):=r1 10 _ rfl;have d11:w2.cell? ⟨g,off+q*15+11,none⟩=some (.int .i64 n2'):=r1 11 _ rfl;have d12:w2.cell? ⟨g,off+q*15+12,none⟩=some (.string t2'):=r1 12 _ rfl;have d13:w2.cell? ⟨g,off+q*15+13,none⟩=some (.slice la2 ln2 lc2):=r1 13 _ rfl;have d14:w2.cell? ⟨g,off+q*15+14,none⟩=some (.slice oa2 on2 oc2):=r1 14 _ rfl;obtain⟨c0,c8,c9,c10,c11,c12,c13,c14⟩:wr.cell? ⟨g,off+q*15,none⟩=some (.string key)/\wr.cell? ⟨g,off+q*15+8,none⟩=some (.bool ob.isSome)/\wr.cell? ⟨g,off+q*15+9,none⟩=some (.int .i64 k2')/\wr.cell? ⟨g,off+q*15+10,none⟩=some (.bool b2')/\wr.cell? ⟨g,off+q*15+11,none⟩=some (.int .i64 n2')/\wr.cell? ⟨g,off+q*15+12,none⟩=some (.string t2')/\wr.cell? ⟨g,off+q*15+13,none⟩=some (.slice la2 ln2 lc2)/\wr.cell? ⟨g,off+q*15+14,none⟩=some (.slice oa2 on2 oc2):=⟨(i1.cell hg).trans d0,(i1.cell hg).trans d8,(i1.cell hg).trans d9,(i1.cell hg).trans d10,(i1.cell hg).trans d11,(i1.cell hg).trans d12,(i1.cell hg).trans d13,(i1.cell hg).trans d14⟩;have hgr:g<wr.heap.size:=by omega
    have q1:(q:Int)<(L.length:Int):=by omega
    have q0:(0:Int)<=q:=by omega
    have htk:D0 ((L.take q).map B8)++ [dQ (B8 (key,oa,ob))]=D0 ((L.take (q+1)).map B8):=by
     unfold D0;rw[List.take_add_one,hx];simp
    clear r1 d0 d8 d9 d10 d11 d12 d13 d14 hI hx
    cases ob with
    |none=>
     have hbn:=Ac wr (.cells #[.int .i64 2,.string key,.int .i64 0,.bool false,.int .i64 0,.string ⟨#[]⟩,.slice none 0 0,.slice none 0 0] 64);have hd:Ag (fun i=>i<w2.heap.size/\(Value.slice aV q cV).ownBlock≠some i) (wr.alloc (.cells #[.int .i64 2,.string key,.int .i64 0,.bool false,.int .i64 0,.string ⟨#[]⟩,.slice none 0 0,.slice none 0 0] 64)) (dQ (B8 (key,oa,none))) [.int .i64 2,.string key,.int .i64 0,.bool false,.int .i64 0,.string ⟨#[]⟩,.slice none 0 0,.slice none 0 0]:=
      (G9 (fun _ _ _=>Dv _ _)).mono fun i _ hi=>⟨hi,fun e=>by have:=(hb0 i e).1;omega⟩
     have Hr2:=qz (i2.below hbn);have Hrd:=qz (B5 (Ao.new wr 64 #[.int .i64 2,.string key,.int .i64 0,.bool false,.int .i64 0,.string ⟨#[]⟩,.slice none 0 0,.slice none 0 0]));have HWn:=qz (i1.trans (hbn.mono hz));have hzn:=hbn.size;obtain⟨Hd,Htk,Hb0,Hsz⟩:=hid4 hd htk hb0 hsz;clear hd htk hb0 hsz;clear i1 i2 hbn hv2;go_wp2_with (at_builtin;apply Shut.out);unfold Shut;refine B7 (d:=dQ (B8 (key,oa,none))) rfl (.tmp 42) (.tmp 49) 22 rfl Tryz.underlying22 Hj.out Hy0.out Hy1.out Hy2.out rfl (by omega) rfl Hr2.out HWn.out.size (Em _) Hd.out rfl Hrd.out (by rw[Hsz.out];simp only[maxLen];omega) (by rw[Hsz.out];omega) ?_;intro V8 w8 hr8 hg8 hat8;rw[Htk.out]at hr8;have HN:Hid (RfI w2 L (q+1) w8 V8):=⟨HWn.out.grown hg8 HWn.out.size (fun k hk=>(Hb0.out k hk).1),hr8⟩;have hs8:(D0 ((L.take (q+1)).map B8)).length=q+1:=by rw[C7,List.length_map,List.length_take];omega
     obtain⟨a8,c8,rfl⟩:=hr8.slice_n hs8;clear hr8 hg8 hat8 hs8 Hr2 Hd Hrd;go_wp2;go_roundw
     case rel=>exact⟨q+1,by go_num,by omega,HN⟩
     case measure=>simp only[intOf];omega
    |some v=>
     have hbd2:Below wr.heap.size wr wr.drew:=Below.drew (Below.refl _ wr);have hbn:=Ac wr.drew (.cells #[.int .i64 1,.string key,.int .i64 k2',.bool b2',.int .i64 n2',.string t2',.slice la2 ln2 lc2,.slice oa2 on2 oc2] 64);have hbb:=hbd2.trans (hbn.mono hbd2.size);have hd:Ag (fun i=>i<w2.heap.size/\(Value.slice aV q cV).ownBlock≠some i) (wr.drew.alloc (.cells #[.int .i64 1,.string key,.int .i64 k2',.bool b2',.int .i64 n2',.string t2',.slice la2 ln2 lc2,.slice oa2 on2 oc2] 64)) (dQ (B8 (key,oa,some v))) [.int .i64 1,.string key,.int .i64 k2',.bool b2',.int .i64 n2',.string t2',.slice la2 ln2 lc2,.slice oa2 on2 oc2]:=
      (G9 ((hv2.below i1).below hbb)).mono fun i _ hi=>⟨hi,fun e=>by have:=(hb0 i e).1;omega⟩
     have Hr2:=qz (i2.below hbb);have Hrd:=qz (B5 (Ao.new wr.drew 64 #[.int .i64 1,.string key,.int .i64 k2',.bool b2',.int .i64 n2',.string t2',.slice la2 ln2 lc2,.slice oa2 on2 oc2]));have HWn:=qz (i1.trans (hbb.mono hz));have hzn:=hbb.size;have Hcm:Hid (∀(W:World),Below w2.heap.size (wr.drew.alloc (.cells #[.int .i64 1,.string key,.int .i64 k2',.bool b2',.int .i64 n2',.string t2',.slice la2 ln2 lc2,.slice oa2 on2 oc2] 64)) W-> ∀o,W.cell? ⟨g,o,none⟩=wr.cell? ⟨g,o,none⟩):=fun W hW o=>(hW.cell (p:=⟨g,o,none⟩) hg).trans (hbb.cell (p:=⟨g,o,none⟩) hgr);obtain⟨Hd,Htk,Hb0,Hsz⟩:=hid4 hd htk hb0 hsz;clear hd htk hb0 hsz;clear i1 i2 hbn hv2 hbd2 hbb;go_upto_region 7 with(fail);refine wp_region_held_drew (S:=fun Y:World=>Y.cell? ⟨g,off+q*15,none⟩=some (.string key)/\Y.cell? ⟨g,off+q*15+9,none⟩=some (.int .i64 k2')/\Y.cell? ⟨g,off+q*15+10,none⟩=some (.bool b2')/\Y.cell? ⟨g,off+q*15+11,none⟩=some (.int .i64 n2')/\Y.cell? ⟨g,off+q*15+12,none⟩=some (.string t2')/\Y.cell? ⟨g,off+q*15+13,none⟩=some (.slice la2 ln2 lc2)/\Y.cell? ⟨g,off+q*15+14,none⟩=some (.slice oa2 on2 oc2)) (by kernel_rfl) ⟨c0,c9,c10,c11,c12,c13,c14⟩ (fun hHeld=> ?_);refine tkH 0 hHeld ?_;refine tkH 1 hHeld ?_;refine tkH 2 hHeld ?_;refine tkH 3 hHeld ?_;refine tkH 4 hHeld ?_;refine tkH 5 hHeld ?_;refine tkH 6 hHeld ?_;refine tkH 7 hHeld ?_;refine tkH 8 hHeld ?_;refine tkH 9 hHeld ?_;refine tkH 10 hHeld ?_;refine tkH 11 hHeld ?_;refine Iu 12 fun K hK=> ?_;go_simp;refine hK.out _ _ ?_ (fun hHeld=> ?_)
     case refine_1=>
      have h1:=Hcm.out _ (Below.refl _ _);exact⟨(h1 _).trans c0,(h1 _).trans c9,(h1 _).trans c10,(h1 _).trans c11,(h1 _).trans c12,(h1 _).trans c13,(h1 _).trans c14⟩
     clear hK K
     try simp only[Act.put,tk1,tk2,tk3,tk4,tk5,tk6]
     refine Iu 13 fun K hK=> ?_;refine F2 (d:=dQ (B8 (key,oa,some v))) (V:=.slice aV q cV) (by rfl) (.tmp 28) (.tmp 40) 22 (by rfl) Tryz.underlying22 Hj.out Hy0.out Hy1.out Hy2.out rfl (by omega) (by rfl) Hr2.out HWn.out.size (Em _) Hd.out (by rfl) Hrd.out (by rw[Hsz.out];simp only[maxLen];omega) (by rw[Hsz.out];omega) ?_;intro V6 w6 hr6 hg6 hat6;rw[Htk.out]at hr6;have hW6:Below w2.heap.size (wr.drew.alloc (.cells #[.int .i64 1,.string key,.int .i64 k2',.bool b2',.int .i64 n2',.string t2',.slice la2 ln2 lc2,.slice oa2 on2 oc2] 64)) w6:=(Below.refl _ _).grown hg6 HWn.out.size (fun k hk=>(Hb0.out k hk).1);have HN:Hid (RfI w2 L (q+1) w6 V6):=⟨HWn.out.trans hW6,hr6⟩;have hs6:(D0 ((L.take (q+1)).map B8)).length=q+1:=by rw[C7,List.length_map,List.length_take];omega
     obtain⟨a6,c6',rfl⟩:=hr6.slice_n hs6;have h1:=Hcm.out _ hW6;refine hK.out _ _ ⟨(h1 _).trans c0,(h1 _).trans c9,(h1 _).trans c10,(h1 _).trans c11,(h1 _).trans c12,(h1 _).trans c13,(h1 _).trans c14⟩ (fun hHeld=> ?_);clear hK K hr6 hg6 hat6 Hd Hr2 Hrd Hcm h1 hW6 hs6
     try simp only[Act.put,tk1,tk2,tk3,tk4,tk5,tk6]
     refine tkH 14 hHeld ?_;refine wpAnyH_done (by kernel_rfl) ?_ _;clear hHeld;go_wp2;go_roundw
     case rel=>exact⟨q+1,by go_num,by omega,HN⟩
     case measure=>simp only[intOf];omega
  . obtain rfl:q=L.length:=by omega
    rw[List.take_length]at i2;have HP:Hid (PO (.returned (.slice aV L.length cV)) wr):=by
     show PO _ _;rw[<-HPO.out];exact⟨Hb2.out.trans (i1.mono hzw),_,rfl,i2.keepN hzw (fun _ _=>trivial) (Nat.le_refl _) fun _ _ _=>rfl⟩
    have q1: ¬(L.length:Int)<(L.length:Int):=by omega
    clear hI i1 i2 hsz;go_wp2;exact HP.out
theorem Pj (v:Val):A6.bulk<=v.bulk:=by
 have h1:A6.bulk=6:=by decide
 have:=v.bulk_pos;omega
theorem Xo (a b:List A0):Cq ((Bx a b).map B8)<=2*(Af a+Af b):=by
 fun_induction Bx a b with
 |case1=>simp[Cq]
 |case2 k v s ih=>simp only[List.map_cons,B8,Cq,Af,Cp]at ih ⊢;have:=v.bulk_pos;omega
 |case3 k v r ih=>simp only[List.map_cons,B8,Cq,Af,Cp]at ih ⊢;have:=Pj v;omega
 |case4 a x r b y s h ih=>simp only[List.map_cons,B8,Cq,Af,Cp]at ih ⊢;have:=Pj x;omega
 |case5 a x r b y s h h2 ih=>simp only[List.map_cons,B8,Cq,Af,Cp]at ih ⊢;have:=y.bulk_pos;omega
 |case6 a x r b y s h h2 h3 ih=>simp only[Af,Cp]at ih ⊢;omega
 |case7 a x r b y s h h2 h3 ih=>
  obtain rfl:a=b:=by
   rcases D9 a b with c|c|c
   . exact absurd c h
   . exact c
   . exact absurd c h2
  simp only[List.map_cons,B8,Cq,Af,Cp]at ih ⊢;have:=y.bulk_pos;omega
theorem Ua (b:List A0):Cq (Ay b)<=10+2*Af b:=by
 have h:Cq (b.map fun e=>(⟨1,e.1,e.2⟩:POp))<=2*Af b:=by
  induction b with
  |nil=>simp[Cq]
  |cons e r ih=>
   obtain⟨k,v⟩:=e;simp only[List.map_cons,Cq,Af,Cp]at ih ⊢;have:=v.bulk_pos;omega
 have h1:A6.bulk=6:=by decide
 unfold Ay;simp only[Cq];have:ByteArray.size ⟨#[]⟩=0:=rfl;omega
theorem U8 {t:Option (Nat×Nd)} (h:T3 t):Bb (Cb t):=by
 match t,h with
 |none,_=>exact List.Pairwise.nil
 |some (_,_),h=>exact h.2
theorem Sy.later {b:Nat} {w w':World} {M:Nat} {V:Value} {l:List A0} {S0:Nat->Prop} (h:Sy S0 b w M V l) (hb:Below w.heap.size w w'): ∃a c,w'.cell? ⟨M,0,none⟩=some (.slice a l.length c)/\Ag (fun i=>i<w.heap.size) w' (.row 7 (dO l)) [.slice a l.length c]/\M<w.heap.size:=by
 obtain⟨h1,h2,_⟩:=h;obtain⟨a,c,rfl⟩:=h2.slice_n (Az l);refine⟨a,c,(hb.cell (p:=⟨M,0,none⟩) h1.lt).trans (h1.cell 0), ?_,h1.lt⟩;have h3:Ag (fun i=>i<w.heap.size) w (.row 7 (dO l)) [.slice a l.length c]:=Ag.of_old h2.close (Nat.le_refl _) (Below.refl _ _);exact h3.below hb
theorem Nm (x y:List A0) (a b:Option Addr) (n c m d:Nat) (w:World) (hT:Cl w) (hN:F5 w) (hx:Ai w w.heap.size (.row 7 (dO x)) [.slice a n c]) (hy:Ai w w.heap.size (.row 7 (dO y)) [.slice b m d]) (hbx:Af x<=5000000) (hby:Af y<=5000000):
 Calls Tryz.prog 5 #[.slice a n c,.slice b m d] w fun e w'=>e=.returned (.bool true)/\Below w.heap.size w w':=by
 obtain⟨PO,hPO⟩: ∃P:Ending->World->Prop,(fun e w'=>e=.returned (.bool true)/\Below w.heap.size w w')=P:=⟨_,rfl⟩;rw[hPO];have h1:=E8 x a n c w hx (by omega);have h2:=fun(W:World) (hB:Below w.heap.size w W)=>E8 y b m d W ((hy.below hB).more hB.size) (by omega);have h3:=fun(W:World) (hB:Below w.heap.size w W)=>La x a n c W ((hx.below hB).more hB.size) (by omega);have h4:=fun(W:World) (hB:Below w.heap.size w W)=>La y b m d W ((hy.below hB).more hB.size) (by omega);have H5:=qz (fun(W:World) (hB:Below w.heap.size w W)=>Nt W (hT.below hB) (hN.below hB));obtain⟨ok1,f1,l1,b1⟩:=Dw x;obtain⟨ok2,f2,l2,b2⟩:=Dw y;have as1:=U8 ok1;have as2:=U8 ok2;have lx:=Aw x;have ly:=Aw y;generalize B9 x=t1 at h1 ok1 f1 l1 b1 as1;generalize B9 y=t2 at h2 ok2 f2 l2 b2 as2;rw[<-f1]at h3;rw[<-f2]at h4;unfold Jz at h1 h2;unfold Pl at h3 h4;obtain⟨H1,H2,H3,H4,HPO,Ok1,Ok2,As1,As2⟩:=hid9 h1 h2 h3 h4 hPO ok1 ok2 as1 as2;clear h1 h2 h3 h4 hPO ok1 ok2 as1 as2;clear hT hN hx hy f1 f2;go_enter Tryz.func5,Tryz.ntmps5;go_wp2_with (fail);(with_reducible refine(H1.out).mono ?_);rintro e w1 ⟨hb1,p1,rfl,ht1⟩;have HC:=qz (H2.out w1 hb1);have Ht1:=qz ht1;clear ht1;go_wp2_with (fail);(with_reducible refine(HC.out).mono ?_);rintro e w2 ⟨hb2,p2,rfl,ht2⟩;go_upto_region 2 with(fail);obtain⟨w3,hw3⟩: ∃w3,((w2.alloc (.cells #[.pointer p1] 45)).alloc (.cells #[.pointer p2] 45))=w3:=⟨_,rfl⟩;have hb3:Below w2.heap.size w2 w3:=hw3▸Ce _ _ _;have X3:Hid (Ao w3 w2.heap.size 45 #[.pointer p1]):=hw3▸(Ao.new _ _ _).alloc _;have Y3:Hid (Ao w3 (w2.heap.size+1) 45 #[.pointer p2]):=hw3▸Ao.new1 _ _ _ _;rw[hw3];have hW3:Below w.heap.size w w3:=(hb1.trans (hb2.mono hb1.size)).trans (hb3.mono (Nat.le_trans hb1.size hb2.size));have HT1:Hid (Ff (fun i=>i<w1.heap.size) w3 t1 p1):=((Ht1.out.mono (T:=fun i=>i<w1.heap.size) fun i h _=>h).below hb2).below hb3;have Ht2:Hid (Ff (fun i=>i<w2.heap.size) w3 t2 p2):=(ht2.mono (T:=fun i=>i<w2.heap.size) fun i h _=>h).below hb3;have HC3:=qz (H3.out w3 hW3);have hz2:=hb2.size;have hz3:=hb3.size;have HW3:=qz hW3;clear hW3;clear hw3 hb1 hb2 hb3 Ht1;go_wp2_with (fail);(with_reducible refine(HC3.out).mono ?_);rintro e w4 ⟨hb4,rfl,V4,hm4⟩;have hW4:=HW3.out.trans (hb4.mono HW3.out.size);have HC4:=qz (H4.out w4 hW4);obtain⟨Hb4,HW4⟩:=hid2 hb4 hW4;clear hb4 hW4;go_wp2_with (fail);(with_reducible refine(HC4.out).mono ?_);rintro e w5 ⟨hb5,rfl,V5,hm5⟩;have hb35:Below w3.heap.size w3 w5:=Hb4.out.trans (hb5.mono Hb4.out.size);have HW5:=qz (HW3.out.trans (hb35.mono HW3.out.size));obtain⟨sa,ca,c1,r1,l1M⟩:=hm4.later hb5;obtain⟨sb,cb,c2,r2,l2M⟩:=hm5.later (Below.refl _ _);have lx3:=X3.out.lt;have ly3:=Y3.out.lt;have hz35:=hb35.size;have g1:=(X3.out.below hb35 lx3).cell 0;have g2:=(Y3.out.below hb35 ly3).cell 0;have gf1:=(X3.out.below hb35 lx3).frozen;have gf2:=(Y3.out.below hb35 ly3).frozen;have HF:=qz (Mm t1 t2 p1 p2 w5 ((HT1.out.below hb35).mono fun i h _=>h) ((Ht2.out.below hb35).mono fun i h _=>h) Ok1.out Ok2.out (by omega) (by omega) (by omega) (by omega));obtain⟨R1,R2⟩:=hid2 r1 r2;clear r1 r2;clear hb35 hm4 hm5 HC3 HC4;go_wp2_with (fail);(with_reducible refine(HF.out).mono ?_);rintro e w6 ⟨hb6,V6,rfl,hr6⟩;have hk6:=Xo (Cb t1) (Cb t2);have hn6:(D0 ((Bx (Cb t1) (Cb t2)).map B8)).length=(Bx (Cb t1) (Cb t2)).length:=by rw[C7,List.length_map]
 obtain⟨a6,c6,rfl⟩:=hr6.slice_n hn6;have hh6:=hr6.close;have HR:=qz (Sh (Cb t1) (Cb t2) w3.heap.size w4.heap.size (fun i=>i<w5.heap.size) sa sb (Cb t1).length ca (Cb t2).length cb w6 ((hb6.cell (p:=⟨w3.heap.size,0,none⟩) (by show w3.heap.size<_;omega)).trans c1) ((hb6.cell (p:=⟨w4.heap.size,0,none⟩) l2M).trans c2) ((R1.out.below hb6).mono fun i _ h=>by have:=hb5.size;omega) ((R2.out.below hb6).mono fun i _ h=>h) (fun i h=>Nat.lt_of_lt_of_le h hb6.size) As1.out As2.out (by omega) (by omega));obtain⟨Hb6,Hh6⟩:=hid2 hb6 hh6;clear hb6 hh6;clear hr6 hn6;go_wp2_with (fail);(with_reducible refine(HR.out).mono ?_);rintro e w7 ⟨hb7,V7,rfl,hr7⟩;have hn7:(D0 ((Bx (Cb t1) (Cb t2)).map B8)).length=(Bx (Cb t1) (Cb t2)).length:=by rw[C7,List.length_map]
 obtain⟨a7,c7,rfl⟩:=hr7.slice_n hn7;have HS:=qz (Ll _ _ a6 a7 _ c6 _ c7 w7 ((Hh6.out.below hb7).more hb7.size) hr7.close (by omega) (by omega));have hb57:Below w5.heap.size w5 w7:=Hb6.out.trans (hb7.mono Hb6.out.size);have hz57:=hb57.size;have Hb57:=qz hb57;clear hb57;clear hr7 hn7 hb7 g1 g2 gf1 gf2 Hh6;have g2:=(Y3.out.below (Hb4.out.trans (hb5.mono Hb4.out.size)) ly3).below Hb57.out (by omega);have gf2:=g2.frozen;have g2:=g2.cell 0;go_wp2_with (fail);(with_reducible refine(HS.out).mono ?_);rintro e w8 ⟨B,rfl,hB,hb8⟩;obtain rfl:B=true:=by simpa using hB
 have hb58:Below w5.heap.size w5 w8:=Hb57.out.trans (hb8.mono Hb57.out.size);have hz58:=hb58.size;have HE:=qz (Sg t2 p2 w8 (((Ht2.out.below (Hb4.out.trans (hb5.mono Hb4.out.size))).below hb58).mono fun i h _=>h) Ok2.out (by omega));clear g2 gf2 hB;have g2:=(Y3.out.below (Hb4.out.trans (hb5.mono Hb4.out.size)) ly3).below hb58 (by omega);have gf2:=g2.frozen;have g2:=g2.cell 0;have Hb58:=qz hb58;clear hb58;clear hb8 HS hk6;go_wp2_with (fail);(with_reducible refine(HE.out).mono ?_);rintro e w9 ⟨hb9,V9,rfl,hr9⟩;have hk9:=Ua (Cb t2);have hn9:(D0 (Ay (Cb t2))).length=(Cb t2).length+1:=by rw[C7];simp[Ay]
 obtain⟨a9,c9,rfl⟩:=hr9.slice_n hn9;have hh9:=hr9.close;have hb59:Below w5.heap.size w5 w9:=Hb58.out.trans (hb9.mono Hb58.out.size);have HR:=qz (Qd (Cb t2) w4.heap.size (fun i=>i<w5.heap.size) sb (Cb t2).length cb w9 ((hb59.cell (p:=⟨w4.heap.size,0,none⟩) l2M).trans c2) ((R2.out.below hb59).mono fun i _ h=>h) (fun i h=>Nat.lt_of_lt_of_le h hb59.size) (by omega));obtain⟨Hb59,Hh9⟩:=hid2 hb59 hh9;clear hb59 hh9;clear hr9 hn9 hb9 g2 gf2;go_wp2_with (fail);(with_reducible refine(HR.out).mono ?_);rintro e w10 ⟨hb10,V10,rfl,hr10⟩;have hn10:(D0 (Ay (Cb t2))).length=(Cb t2).length+1:=by rw[C7];simp[Ay]
 obtain⟨a10,c10,rfl⟩:=hr10.slice_n hn10;have HS:=qz (Ll _ _ a9 a10 _ c9 _ c10 w10 ((Hh9.out.below hb10).more hb10.size) hr10.close (by omega) (by omega));have Hb510:Hid (Below w5.heap.size w5 w10):=Hb59.out.trans (hb10.mono Hb59.out.size);clear hr10 hn10 hb10 hk9;go_wp2_with (fail);(with_reducible refine(HS.out).mono ?_);rintro e w11 ⟨B,rfl,hB,hb11⟩;obtain rfl:B=true:=by simpa using hB
 have hW11:Below w.heap.size w w11:=(HW5.out.trans (Hb510.out.mono HW5.out.size)).trans (hb11.mono (Nat.le_trans HW5.out.size Hb510.out.size));have HC:=qz (H5.out w11 hW11);have HW11:=qz hW11;clear hW11;clear hb11 hB;go_wp2_with (fail);(with_reducible refine(HC.out).mono ?_);rintro e w12 ⟨rfl,hb12⟩;have HP:Hid (PO (.returned (.bool true)) w12):=by
  show PO _ _;rw[<-HPO.out];exact⟨rfl,HW11.out.trans (hb12.mono HW11.out.size)⟩
 clear hb12;go_wp2;exact HP.out
end Go.Proofs.YtdbejcbbhomdbaaGreatDoor
