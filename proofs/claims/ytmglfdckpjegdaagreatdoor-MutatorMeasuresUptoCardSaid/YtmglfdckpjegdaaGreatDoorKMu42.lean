/- Parts: A mutator that may be, and its text; what is read of a text. Plain. No condition. -/
import Derived.Test.YtmglfdckpjegdaaGreatDoorKMu40
import Derived.Test.YtmglfdckpjegdaaGreatDoorKMu41
set_option maxHeartbeats 20000000
namespace Go.Proofs.YtmglfdckpjegdaaGreatDoor
open Go Go.RowKit
def Q4 (m:Mut) (w:World) (e:Ending) (w':World):Prop:=Below w.heap.size w w'/\
 ∃oa oc,e=.returned (.tuple #[.agg #[.int .i64 6,.bool false,.int .i64 0,.string ⟨#[]⟩,.slice none 0 0,.slice oa 2 oc],.int .i64 0])/\Au w.heap.size w' (dV (Bb m)) [.int .i64 6,.bool false,.int .i64 0,.string ⟨#[]⟩,.slice none 0 0,.slice oa 2 oc]
theorem La {m:Mut} (h:Bk m=0):Dv m 1=0:=by
 unfold Bk at h
 split at h
 . cases h
 . exact h
set_option maxRecDepth 100000 in
theorem Lh (k:Int) (key dst:ByteArray) (n:Int) (had:Bool) (k1:Int) (b1:Bool) (n1:Int) (t1:ByteArray) (l1:List Val) (o1:List (ByteArray×Val)) (has:Bool) (k2:Int) (b2:Bool) (n2:Int) (t2:ByteArray) (l2:List Val) (o2:List (ByteArray×Val)) (l:List Mut) (cs:List Value) (w:World) (hT:Cq w) (hN:Fs w) (hM:Holds w w.heap.size (dM (Mut.mk k key dst n had (.mk k1 b1 n1 t1 l1 o1) has (.mk k2 b2 n2 t2 l2 o2) l)) cs) (hb:Bm (Mut.mk k key dst n had (.mk k1 b1 n1 t1 l1 o1) has (.mk k2 b2 n2 t2 l2 o2) l)<=8000000) (hi:Mu (Mut.mk k key dst n had (.mk k1 b1 n1 t1 l1 o1) has (.mk k2 b2 n2 t2 l2 o2) l)) (hm:Bk (Mut.mk k key dst n had (.mk k1 b1 n1 t1 l1 o1) has (.mk k2 b2 n2 t2 l2 o2) l)=0):
 Calls Tryz.prog 9 #[.agg cs.toArray] w (Q4 (Mut.mk k key dst n had (.mk k1 b1 n1 t1 l1 o1) has (.mk k2 b2 n2 t2 l2 o2) l) w):=by
 have hMay:=fun W (hW:Below w.heap.size w W)=>N6 _ cs W (hT.below hW) ((hM.below hW).more hW.size) (by omega) hi;have hWr:=fun W (hW:Below w.heap.size w W) g A R X F hS=>Aer (Mut.mk k key dst n had (.mk k1 b1 n1 t1 l1 o1) has (.mk k2 b2 n2 t2 l2 o2) l) cs 1 g A R X F W hS (hN.below hW) ((hM.below hW).more hW.size) hb (La hm);rw[hm]at hMay;obtain⟨la1,lc1,oa1,oc1,la2,lc2,oa2,oc2,a,c,rfl,_,_,_⟩:=Bq hM;have h0:Below w.heap.size w ((w.alloc (.cells #[.int .i64 k,.string key,.string dst,.int .i64 n,.bool had,.int .i64 k1,.bool b1,.int .i64 n1,.string t1,.slice la1 l1.length lc1,.slice oa1 o1.length oc1,.bool has,.int .i64 k2,.bool b2,.int .i64 n2,.string t2,.slice la2 l2.length lc2,.slice oa2 o2.length oc2,.slice a l.length c] 30)).alloc (.cells Ap 27)):=((Below.refl _ _).alloc (Nat.le_refl _) _).alloc (by simp) _;have hx0:Al ((w.alloc (.cells #[.int .i64 k,.string key,.string dst,.int .i64 n,.bool had,.int .i64 k1,.bool b1,.int .i64 n1,.string t1,.slice la1 l1.length lc1,.slice oa1 o1.length oc1,.bool has,.int .i64 k2,.bool b2,.int .i64 n2,.string t2,.slice la2 l2.length lc2,.slice oa2 o2.length oc2,.slice a l.length c] 30)).alloc (.cells Ap 27)) w.heap.size 30 #[.int .i64 k,.string key,.string dst,.int .i64 n,.bool had,.int .i64 k1,.bool b1,.int .i64 n1,.string t1,.slice la1 l1.length lc1,.slice oa1 o1.length oc1,.bool has,.int .i64 k2,.bool b2,.int .i64 n2,.string t2,.slice la2 l2.length lc2,.slice oa2 o2.length oc2,.slice a l.length c]:=(Al.new _ _ _).alloc _;have hr0:Al ((w.alloc (.cells #[.int .i64 k,.string key,.string dst,.int .i64 n,.bool had,.int .i64 k1,.bool b1,.int .i64 n1,.string t1,.slice la1 l1.length lc1,.slice oa1 o1.length oc1,.bool has,.int .i64 k2,.bool b2,.int .i64 n2,.string t2,.slice la2 l2.length lc2,.slice oa2 o2.length oc2,.slice a l.length c] 30)).alloc (.cells Ap 27)) (w.heap.size+1) 27 Ap:=by
  have:=Al.new (w.alloc (.cells #[.int .i64 k,.string key,.string dst,.int .i64 n,.bool had,.int .i64 k1,.bool b1,.int .i64 n1,.string t1,.slice la1 l1.length lc1,.slice oa1 o1.length oc1,.bool has,.int .i64 k2,.bool b2,.int .i64 n2,.string t2,.slice la2 l2.length lc2,.slice oa2 o2.length oc2,.slice a l.length c] 30)) 27 Ap
  rwa [World.size_alloc]at this
 have hz2:w.heap.size+2<=((w.alloc (.cells #[.int .i64 k,.string key,.string dst,.int .i64 n,.bool had,.int .i64 k1,.bool b1,.int .i64 n1,.string t1,.slice la1 l1.length lc1,.slice oa1 o1.length oc1,.bool has,.int .i64 k2,.bool b2,.int .i64 n2,.string t2,.slice la2 l2.length lc2,.slice oa2 o2.length oc2,.slice a l.length c] 30)).alloc (.cells Ap 27)).heap.size:=by simp
 obtain⟨H0,Hx0,Hr0,Hz2,HMay,HWr⟩:=hid6 h0 hx0 hr0 hz2 hMay hWr;clear h0 hx0 hr0 hz2 hMay hWr;clear hM hT hN hb hi hm;go_enter Tryz.func9,Tryz.ntmps9;go_upto_region 1 with(fail)
 iterate 2 go_step
 refine Ac 30 (.tmp 1) rfl w.heap.size _ Hx0.out rfl _ Tryz.underlying30 rfl (by kernel_rfl) ?_;go_wp2_with (fail);(with_reducible refine(HMay.out _ H0.out).mono ?_);rintro e w1 ⟨rfl,hb1⟩;have hw1:=H0.out.trans (hb1.mono H0.out.size);have hx1:=Hx0.out.below hb1 Hx0.out.lt;have hr1:=Hr0.out.below hb1 Hr0.out.lt;have hz1:w.heap.size+2<=w1.heap.size:=Nat.le_trans Hz2.out hb1.size;obtain⟨Hb1,Hw1,Hx1,Hr1⟩:=hid4 hb1 hw1 hx1 hr1;clear hb1 hw1 hx1 hr1;go_upto_region 4 with(fail);refine wp_region_held_drew (S:=fun X=>X.rangeAt w.heap.size 0 [.int .i64 k,.string key,.string dst,.int .i64 n,.bool had,.int .i64 k1,.bool b1,.int .i64 n1,.string t1,.slice la1 l1.length lc1,.slice oa1 o1.length oc1,.bool has,.int .i64 k2,.bool b2,.int .i64 n2,.string t2,.slice la2 l2.length lc2,.slice oa2 o2.length oc2,.slice a l.length c]) (by kernel_rfl) (Cz Hx1.out) (fun hHeld=> ?_);refine wpAnyH_take (i:=1) rfl (by kernel_rfl) (by kernel_rfl) (by kernel_rfl) (fun _ _ _ h=>h) (yieldsIf_load_mid (by kernel_rfl) 30 (.tmp 1) rfl w.heap.size 0 rfl [.int .i64 k,.string key,.string dst,.int .i64 n,.bool had,.int .i64 k1,.bool b1,.int .i64 n1,.string t1,.slice la1 l1.length lc1,.slice oa1 o1.length oc1,.bool has,.int .i64 k2,.bool b2,.int .i64 n2,.string t2,.slice la2 l2.length lc2,.slice oa2 o2.length oc2,.slice a l.length c] _ (fun X hX=>hX) Tryz.underlying30 rfl (by kernel_rfl)) hHeld ?_
 try simp only[Act.put,tk4]
 refine wpAnyH_ready (rs:= [0]) (by kernel_rfl) (by simp) ?_;refine AllReadyH.cons rfl (fun K hK=> ?_) AllReadyH.nil;go_simp
 (with_reducible refine(R3 _).mono ?_)
 rintro e w2 ⟨hb2,g,A,R,X,F,rfl,hS⟩;have hb2':Below w1.heap.size w1 w2:=(Below.drew (Below.refl _ _)).trans hb2;have hw2:=Hw1.out.trans (hb2'.mono Hw1.out.size);have hx2:=Hx1.out.below hb2' Hx1.out.lt;have hr2:=Hr1.out.below hb2' Hr1.out.lt;refine hK.out _ _ (Cz hx2) (fun hHeld=> ?_);clear hK K
 try simp only[Act.put,tk4,tk5,tk6]
 refine wpAnyH_ready (rs:= [2]) (by kernel_rfl) (by simp) ?_;refine AllReadyH.cons rfl (fun K hK=> ?_) AllReadyH.nil;have hz22:w.heap.size+2<=w2.heap.size:=Nat.le_trans hz1 hb2'.size;obtain⟨HS,Hw2,Hx2,Hr2,Hb2,Hb2'⟩:=hid6 hS hw2 hx2 hr2 hb2 hb2';clear hS hw2 hx2 hr2 hb2 hb2';go_simp
 (with_reducible refine(HWr.out _ Hw2.out g A R X F HS.out).mono ?_)
 rintro e w6 ⟨hb6,oa5,oc5,rfl,hf6⟩;have hw6:=Hw2.out.trans (hb6.mono Hw2.out.size);have hx6:=Hx2.out.below hb6 Hx2.out.lt;have hr6:=Hr2.out.below hb6 Hr2.out.lt;refine hK.out _ _ (Cz hx6) (fun hHeld=> ?_);clear hK K
 try simp only[Act.put,tk4,tk5,tk6]
 refine wpAnyH_ready (rs:= [3]) (by kernel_rfl) (by simp) ?_;refine AllReadyH.cons rfl (fun K hK=> ?_) AllReadyH.nil;obtain⟨c0,c1,c2,c3,c4,c5⟩:=Bo hr6;have fz:=hr6.frozen;have hlt6:=hr6.lt;obtain⟨Hw6,Hx6,Hr6,Hf6,Hb6⟩:=hid5 hw6 hx6 hr6 hf6 hb6;clear hw6 hx6 hr6 hf6 hb6;go_simp;have hxs:Al (Bi w6 (w.heap.size+1) 0 [.int .i64 6,.bool false,.int .i64 0,.string ⟨#[]⟩,.slice none 0 0,.slice oa5 2 oc5]) w.heap.size 30 #[.int .i64 k,.string key,.string dst,.int .i64 n,.bool had,.int .i64 k1,.bool b1,.int .i64 n1,.string t1,.slice la1 l1.length lc1,.slice oa1 o1.length oc1,.bool has,.int .i64 k2,.bool b2,.int .i64 n2,.string t2,.slice la2 l2.length lc2,.slice oa2 o2.length oc2,.slice a l.length c]:=(A0 _ _ _ _ _ (by omega)).trans Hx6.out;refine hK.out _ _ (Cz hxs) (fun hHeld=> ?_);clear hK K
 try simp only[Act.put,tk4,tk5,tk6]
 refine tkH 4 hHeld ?_;refine wpAnyH_done (by kernel_rfl) ?_ _;clear hHeld hxs c0 c1 c2 c3 c4 c5 fz
 repeat go_step
 have hxf:=((((((Hr6.out.set_ 0 (.int .i64 6)).set_ 1 (.bool false)).set_ 2 (.int .i64 0)).set_ 3 (.string ⟨#[]⟩)).set_ 4 (.slice none 0 0)).set_ 5 (.slice oa5 2 oc5));have hbf:=A7 [.int .i64 6,.bool false,.int .i64 0,.string ⟨#[]⟩,.slice none 0 0,.slice oa5 2 oc5] Hw6.out (Nat.le_succ w.heap.size) (o:=0);have hff:Au w.heap.size (Bi w6 (w.heap.size+1) 0 [.int .i64 6,.bool false,.int .i64 0,.string ⟨#[]⟩,.slice none 0 0,.slice oa5 2 oc5]) (dV (Bb (Mut.mk k key dst n had (.mk k1 b1 n1 t1 l1 o1) has (.mk k2 b2 n2 t2 l2 o2) l))) [.int .i64 6,.bool false,.int .i64 0,.string ⟨#[]⟩,.slice none 0 0,.slice oa5 2 oc5]:=
  Hf6.out.keep (b':=w.heap.size) (by omega) (by rw[A9];exact Nat.le_refl _) (fun p p1 _=>World.cell?_of_block (A0 _ _ _ _ _ (by omega)))
 exact bodyPost_ret (Du rfl rfl hxf) rfl ⟨hbf,oa5,oc5,rfl,hff⟩
set_option maxRecDepth 100000 in
theorem Rs (m:Mut) (cs:List Value) (w:World) (hT:Cq w) (hM:Holds w w.heap.size (dM m) cs) (hb:Bm m<=100000000) (hi:Mu m) (hm:Bk m≠0):
 Calls Tryz.prog 9 #[.agg cs.toArray] w fun e w'=>e=.returned (.tuple #[.agg Ap,.int .i64 (Bk m)])/\Below w.heap.size w w':=by
 have hMay:=fun W (hW:Below w.heap.size w W)=>N6 m cs W (hT.below hW) ((hM.below hW).more hW.size) hb hi;generalize Bk m=c at hm hMay ⊢;generalize hPO:(fun(e:Ending) (w':World)=>e=.returned (.tuple #[.agg Ap,.int .i64 c])/\Below w.heap.size w w')=PO;have t0:(c != 0)=true:=by simpa using hm
 obtain⟨k,key,dst,n,had,⟨k1,b1,n1,t1,l1,o1⟩,has,⟨k2,b2,n2,t2,l2,o2⟩,l⟩:=m;obtain⟨la1,lc1,oa1,oc1,la2,lc2,oa2,oc2,a,c,rfl,_,_,_⟩:=Bq hM;have h0:Below w.heap.size w ((w.alloc (.cells #[.int .i64 k,.string key,.string dst,.int .i64 n,.bool had,.int .i64 k1,.bool b1,.int .i64 n1,.string t1,.slice la1 l1.length lc1,.slice oa1 o1.length oc1,.bool has,.int .i64 k2,.bool b2,.int .i64 n2,.string t2,.slice la2 l2.length lc2,.slice oa2 o2.length oc2,.slice a l.length c] 30)).alloc (.cells Ap 27)):=((Below.refl _ _).alloc (Nat.le_refl _) _).alloc (by simp) _;have hx0:Al ((w.alloc (.cells #[.int .i64 k,.string key,.string dst,.int .i64 n,.bool had,.int .i64 k1,.bool b1,.int .i64 n1,.string t1,.slice la1 l1.length lc1,.slice oa1 o1.length oc1,.bool has,.int .i64 k2,.bool b2,.int .i64 n2,.string t2,.slice la2 l2.length lc2,.slice oa2 o2.length oc2,.slice a l.length c] 30)).alloc (.cells Ap 27)) w.heap.size 30 #[.int .i64 k,.string key,.string dst,.int .i64 n,.bool had,.int .i64 k1,.bool b1,.int .i64 n1,.string t1,.slice la1 l1.length lc1,.slice oa1 o1.length oc1,.bool has,.int .i64 k2,.bool b2,.int .i64 n2,.string t2,.slice la2 l2.length lc2,.slice oa2 o2.length oc2,.slice a l.length c]:=(Al.new _ _ _).alloc _;have hr0:Al ((w.alloc (.cells #[.int .i64 k,.string key,.string dst,.int .i64 n,.bool had,.int .i64 k1,.bool b1,.int .i64 n1,.string t1,.slice la1 l1.length lc1,.slice oa1 o1.length oc1,.bool has,.int .i64 k2,.bool b2,.int .i64 n2,.string t2,.slice la2 l2.length lc2,.slice oa2 o2.length oc2,.slice a l.length c] 30)).alloc (.cells Ap 27)) (w.heap.size+1) 27 Ap:=by
  have:=Al.new (w.alloc (.cells #[.int .i64 k,.string key,.string dst,.int .i64 n,.bool had,.int .i64 k1,.bool b1,.int .i64 n1,.string t1,.slice la1 l1.length lc1,.slice oa1 o1.length oc1,.bool has,.int .i64 k2,.bool b2,.int .i64 n2,.string t2,.slice la2 l2.length lc2,.slice oa2 o2.length oc2,.slice a l.length c] 30)) 27 Ap
  rwa [World.size_alloc]at this
 obtain⟨H0,Hx0,Hr0,HMay,HPO⟩:=hid5 h0 hx0 hr0 hMay hPO;clear h0 hx0 hr0 hMay hPO;clear hM hT hb hi hm;go_enter Tryz.func9,Tryz.ntmps9;go_upto_region 1 with(fail)
 iterate 2 go_step
 refine Ac 30 (.tmp 1) rfl w.heap.size _ Hx0.out rfl _ Tryz.underlying30 rfl (by kernel_rfl) ?_;go_wp2_with (fail);(with_reducible refine(HMay.out _ H0.out).mono ?_);rintro e w1 ⟨rfl,hb1⟩;have hw1:=H0.out.trans (hb1.mono H0.out.size);have hr1:=Hr0.out.below hb1 Hr0.out.lt;obtain⟨r0,r1,r2,r3,r4,r5⟩:=Bo hr1;have fz:=hr1.frozen;have lt1:=hr1.lt;obtain⟨Hw1,Hr1⟩:=hid2 hw1 hr1;clear hw1 hr1;clear hb1;go_upto_region 3 with(fail)
 repeat go_step
 have hxf:=(((((Hr1.out.set_ 0 (.int .i64 0)).set_ 1 (.bool false)).set_ 2 (.int .i64 0)).set_ 3 (.string ⟨#[]⟩)).set_ 4 (.slice none 0 0)).set_ 5 (.slice none 0 0);have hbf:=A7 [.int .i64 0,.bool false,.int .i64 0,.string ⟨#[]⟩,.slice none 0 0,.slice none 0 0] Hw1.out (Nat.le_succ w.heap.size) (o:=0);rw[<-HPO.out];exact bodyPost_ret (Du rfl rfl hxf) rfl ⟨rfl,hbf⟩
def Gl (m:Mut) (w:World) (e:Ending) (w':World):Prop:=Below w.heap.size w w'/\e=.returned (.tuple #[.string (if Bk m=0 then Eo (Bb m)else⟨#[]⟩),.int .i64 (Bk m)])
set_option maxRecDepth 100000 in
theorem D6 (m:Mut) (cs:List Value) (w:World) (hT:Cq w) (hN:Fs w) (hM:Holds w w.heap.size (dM m) cs) (hb:Bm m<=8000000) (hi:Mu m):
 Calls Tryz.prog 10 #[.agg cs.toArray] w (Gl m w):=by
 have hNo:=fun W (hW:Below w.heap.size w W)=>Rs m cs W (hT.below hW) ((hM.below hW).more hW.size) (by omega) hi;have hOk: ∀W,Below w.heap.size w W->Bk m=0->Calls Tryz.prog 9 #[.agg cs.toArray] W (Q4 m W):=fun W hW h0=>by
  obtain⟨k,key,dst,n,had,⟨k1,b1,n1,t1,l1,o1⟩,has,⟨k2,b2,n2,t2,l2,o2⟩,l⟩:=m;exact Lh _ _ _ _ _ _ _ _ _ _ _ _ _ _ _ _ _ _ _ cs W (hT.below hW) (hN.below hW) ((hM.below hW).more hW.size) hb hi h0
 have hTx: ∀W oa oc,Below w.heap.size w W->Bk m=0->Holds W W.heap.size (dV (Bb m)) [.int .i64 6,.bool false,.int .i64 0,.string ⟨#[]⟩,.slice none 0 0,.slice oa 2 oc]->Calls Tryz.prog 35 #[.agg #[.int .i64 6,.bool false,.int .i64 0,.string ⟨#[]⟩,.slice none 0 0,.slice oa 2 oc]] W fun e w'=>e=.returned (.tuple #[.string (Eo (Bb m)),.int .i64 0])/\Below W.heap.size W w':=fun W oa oc hW h0 hh=>by
  have hbm:=Pn m;have:=Uv (Bb m) _ W (hT.below hW) (B8 _ _ hh) (by omega) (Rl m hi);rw[Rp m 1 1 (La h0) (by omega) (by omega)]at this;exact this
 obtain⟨TX,hTX⟩: ∃t,Eo (Bb m)=t:=⟨_,rfl⟩;rw[hTX]at hTx;have hl:cs.length=19:=by have:=hM.len.1;rwa [Ct]at this
 obtain⟨ca,hca⟩: ∃ca,cs.toArray=ca:=⟨_,rfl⟩;have hs:ca.size=19:=by rw[<-hca];simpa using hl
 have hone: ∀u ∈ ca.toList,u.oneCell'=true:=by rw[<-hca];exact hM.len.2
 rw[hca]at hNo hOk ⊢;obtain⟨wi,hwi⟩: ∃wi,w.alloc (.cells ca 30)=wi:=⟨_,rfl⟩;have hbi:Below w.heap.size w wi:=hwi▸Aa _ _;have hxi:Al wi w.heap.size 30 ca:=hwi▸Al.new _ _ _;obtain⟨c,hc⟩: ∃c,Bk m=c:=⟨_,rfl⟩;rw[hc]at hNo hOk hTx;obtain⟨PO,hPO⟩: ∃P,Gl m w=P:=⟨_,rfl⟩;rw[hPO];have hfin: ∀W,Below w.heap.size w W->Gl m w (.returned (.tuple #[.string (if c=0 then TX else⟨#[]⟩),.int .i64 c])) W:=fun W hW=>⟨hW,by rw[hTX,hc]⟩;obtain⟨HNo,HOk,HTx,Hbi,Hxi,HPO,Hfin⟩:=hid7 hNo hOk hTx hbi hxi hPO hfin;clear hNo hOk hTx hbi hxi hPO hfin;clear hM hN hT hi hb hc hca hTX;go_enter Tryz.func10,Tryz.ntmps10;go_upto_region 1 with(fail);clear hwi
 iterate 2 go_step
 refine Ac 30 (.tmp 1) rfl w.heap.size _ Hxi.out rfl _ Tryz.underlying30 rfl (by rw[hs];kernel_rfl) ?_;by_cases h0:c=0;rotate_left
 . have t0:(c != 0)=true:=by simpa using h0
   have hO:=HNo.out wi Hbi.out h0;have hf:=Hfin.out;simp only[if_neg h0]at hf;obtain⟨HO,Hf⟩:=hid2 hO hf;clear hO hf;clear HNo HOk HTx h0 Hfin;go_wp2_with (fail);(with_reducible refine(HO.out).mono ?_);rintro e w2 ⟨rfl,hb2⟩;have hw2:=(Hbi.out.trans (hb2.mono Hbi.out.size)).alloc (Nat.le_trans Hbi.out.size hb2.size) (.cells Ap 27);have Hw2:=Lib.hid hw2;clear hw2;clear hb2;go_wp2;rw[<-HPO.out];exact Hf.out _ Hw2.out
 subst h0;have hO:=HOk.out wi Hbi.out rfl;have hf:=Hfin.out;simp only[if_true]at hf;obtain⟨HO,Hf⟩:=hid2 hO hf;clear hO hf;clear HNo HOk Hfin;go_wp2_with (fail);(with_reducible refine(HO.out).mono ?_);rintro e w2 ⟨hb2,oa,oc,rfl,hf2⟩;have hw2:=(Hbi.out.trans (hb2.mono Hbi.out.size)).alloc (Nat.le_trans Hbi.out.size hb2.size) (.cells #[.int .i64 6,.bool false,.int .i64 0,.string ⟨#[]⟩,.slice none 0 0,.slice oa 2 oc] 27);have hX:=HTx.out _ oa oc hw2 trivial (hf2.later (Aa w2 _)).now;obtain⟨Hw2,HX⟩:=hid2 hw2 hX;clear hw2 hX;clear hb2 hf2;go_wp2_with (fail);(with_reducible refine(HX.out).mono ?_);rintro e w4 ⟨rfl,hb4⟩;have hw4:=Hw2.out.trans (hb4.mono Hw2.out.size);have Hw4:=Lib.hid hw4;clear hw4;clear hb4;go_wp2;rw[<-HPO.out];exact Hf.out _ Hw4.out
theorem An6 (w:World):Holds w w.heap.size (dM So) [.int .i64 3,.string ⟨#[110]⟩,.string ⟨#[]⟩,.int .i64 2,.bool false,.int .i64 0,.bool false,.int .i64 0,.string ⟨#[]⟩,.slice none 0 0,.slice none 0 0,.bool false,.int .i64 0,.bool false,.int .i64 0,.string ⟨#[]⟩,.slice none 0 0,.slice none 0 0,.slice none 0 0]:=
 (Gn (b:=0) (w:=w) 3 ⟨#[110]⟩ Cp 2 false false (E1 _ _) (E1 _ _) (G7 _ _ _)).now
theorem An8 (w:World):Au 0 w (dV (iv 1)) [.int .i64 3,.bool false,.int .i64 1,.string ⟨#[]⟩,.slice none 0 0,.slice none 0 0]:=fun w'' _ _=>by
 refine Fp _ _ ?_;simp only[iv,Ab];exact⟨none,0,none,0,rfl,by simp,by simp⟩
theorem An7 (w:World):Holds w w.heap.size (dM Sp) [.int .i64 4,.string ⟨#[107]⟩,.string ⟨#[]⟩,.int .i64 0,.bool false,.int .i64 0,.bool false,.int .i64 0,.string ⟨#[]⟩,.slice none 0 0,.slice none 0 0,.bool true,.int .i64 3,.bool false,.int .i64 1,.string ⟨#[]⟩,.slice none 0 0,.slice none 0 0,.slice none 0 0]:=
 (Gn (b:=0) (w:=w) 4 ⟨#[107]⟩ Cp 0 false true (E1 _ _) (An8 w) (G7 _ _ _)).now
theorem An9:Eo (Bb So)=⟨#[123,34,97,114,103,115,34,58,123,34,98,121,34,58,50,44,34,107,101,121,34,58,34,110,34,125,44,34,110,97,109,101,34,58,34,105,110,99,34,125]⟩:=by
 unfold Eo;rw[if_pos (by decide+kernel),Aob]
theorem Aoa:Eo (Bb Sp)=⟨#[123,34,97,114,103,115,34,58,123,34,105,115,34,58,49,44,34,107,101,121,34,58,34,107,34,125,44,34,110,97,109,101,34,58,34,99,97,115,34,125]⟩:=by
 unfold Eo;rw[if_pos (by decide+kernel),Aoc]
theorem L7 {s:List UInt8} (h:s.length<=10000000) (v:Val) (q:Nat) (e:Fd s=.ok v q):v.bulk<=100000000/\((Cn 65 v).1=0->Bm (Cn 65 v).2<=100000000/\Mu (Cn 65 v).2):=by
 obtain⟨_,_,h3,h2⟩:=Sw e;exact⟨by omega,fun h0=>⟨by have:=Qv 65 v h0;omega,Wd 65 v h2⟩⟩
abbrev Apy:ByteArray:=⟨#[123,34,97,114,103,115,34,58,123,125,44,34,110,97,109,101,34,58,34,100,101,108,34,125]⟩
abbrev Apz:ByteArray:=⟨#[123,34,97,114,103,115,34,58,123,34,107,101,121,34,58,49,125,44,34,110,97,109,101,34,58,34,100,101,108,34,125]⟩
abbrev Ap0:ByteArray:=⟨#[123,34,97,114,103,115,34,58,123,34,107,101,121,34,58,34,34,125,44,34,110,97,109,101,34,58,34,100,101,108,34,125]⟩
abbrev Ap1:ByteArray:=⟨#[123,34,97,114,103,115,34,58,49,44,34,110,97,109,101,34,58,34,120,34,125]⟩
set_option maxRecDepth 100000 in
theorem Ku (w:World) (hT:Cq w) (hNT:P4 w) (hN:Fs w):Calls Tryz.prog 13 #[] w fun e w'=>e=.returned (.bool true)/\Below w.heap.size w w':=by
 have h0:=D6 So _ w hT hN (An6 w) (by decide) (by simp[So,Mu,Sm,Jg,Mz,Jf]);have h1:=fun(W:World) (hB:Below w.heap.size w W)=>D6 Sp _ W (hT.below hB) (hN.below hB) (An7 W) (by decide) (by simp[Sp,iv,Mu,Sm,Jg,Mz,Jf]);unfold Gl at h0 h1;rw[if_pos Yw,Yw,An9]at h0;rw[if_pos Yx,Yx,Aoa]at h1;have f0:=fun(W:World) (hB:Below w.heap.size w W)=>Mk Apy 10 W (hT.below hB) (hNT.below hB) (by decide) An2 (L7 (by decide));have f1:=fun(W:World) (hB:Below w.heap.size w W)=>Mk Apz 9 W (hT.below hB) (hNT.below hB) (by decide) An3 (L7 (by decide));have f2:=fun(W:World) (hB:Below w.heap.size w W)=>Mk Ap0 8 W (hT.below hB) (hNT.below hB) (by decide) An4 (L7 (by decide));have f3:=fun(W:World) (hB:Below w.heap.size w W)=>Mk Ap1 12 W (hT.below hB) (hNT.below hB) (by decide) An5 (L7 (by decide));obtain⟨H0,H1,F0,F1,F2,F3⟩:=hid6 h0 h1 f0 f1 f2 f3;clear h0 h1 f0 f1 f2 f3;clear hT hNT hN;go_enter Tryz.func13,Tryz.ntmps13;go_wp2_with (fail);(with_reducible refine(H0.out).mono ?_);rintro e w1 ⟨hb1,rfl⟩;have Hb1:=Lib.hid hb1;clear hb1;go_wp2_with (fail);(with_reducible refine(H1.out _ Hb1.out).mono ?_);rintro e w2 ⟨hb2,rfl⟩;have hw2:=Hb1.out.trans (hb2.mono Hb1.out.size);have Hw2:=Lib.hid hw2;clear hw2;clear hb2;go_wp2_with (fail);(with_reducible refine(F0.out _ Hw2.out).mono ?_);rintro e w3 ⟨rfl,hb3⟩;have hw3:=Hw2.out.trans (hb3.mono Hw2.out.size);have Hw3:=Lib.hid hw3;clear hw3;clear hb3;go_wp2_with (fail);(with_reducible refine(F1.out _ Hw3.out).mono ?_);rintro e w4 ⟨rfl,hb4⟩;have hw4:=Hw3.out.trans (hb4.mono Hw3.out.size);have Hw4:=Lib.hid hw4;clear hw4;clear hb4;go_wp2_with (fail);(with_reducible refine(F2.out _ Hw4.out).mono ?_);rintro e w5 ⟨rfl,hb5⟩;have hw5:=Hw4.out.trans (hb5.mono Hw4.out.size);have Hw5:=Lib.hid hw5;clear hw5;clear hb5;go_wp2_with (fail);(with_reducible refine(F3.out _ Hw5.out).mono ?_);rintro e w6 ⟨rfl,hb6⟩;have hw6:=Hw5.out.trans (hb6.mono Hw5.out.size);have Hw6:=Lib.hid hw6;clear hw6;clear hb6;go_wp2;go_ret;exact⟨rfl,Hw6.out⟩
theorem Js {m:Mut} (hm:Bk m=0):Az (Bb m) 1=0:=Rp m 1 1 (La hm) (by omega) (by omega)
theorem L5 {m:Mut} (hm:Bk m=0) (hi:Mu m):(Eo (Bb m)).size<=6*(Bb m).bulk/\Ea (Eo (Bb m)).data.toList=(0,m)/\(∃q,Ov (Eo (Bb m)).data.toList=.ok (Bb m) q)/\ ∀v q,Fd (Eo (Bb m)).data.toList=.ok v q->v=Bb m:=by
 have hv:=Js hm;have hin:=Rl m hi;have e:Eo (Bb m)=⟨(Ak (Bb m)).toArray⟩:=by unfold Eo;rw[if_pos hv]
 have hl:=Lw (Bb m) (V3 (Bb m) 1 hv hin);have hp:=Agf hv hin;have hsz:(⟨(Ak (Bb m)).toArray⟩:ByteArray).size=(Ak (Bb m)).length:=rfl;rw[e,hsz];refine⟨by omega, ?_,⟨(Ak (Bb m)).length, ?_⟩,fun v q h=> ?_⟩
 . show Ea (Ak (Bb m))=_;unfold Ea;rw[hp];exact Y6 hm hv
 . unfold Ov;show(match Fd (Ak (Bb m))with| .bad c q=>Rd.bad c q| .ok u q=>if Ak u=Ak (Bb m)then .ok u q else .bad 4 q)=_;rw[hp];simp only[if_true]
 . change Fd (Ak (Bb m))=.ok v q at h;rw[hp]at h
   cases h
   rfl
theorem Vw {s:List UInt8} {m:Mut} (h:Ea s=(0,m)):Bk m=0/\Mu m/\Bm m<=6*s.length/\(Bb m).bulk<=6*s.length:=by
 unfold Ea at h
 cases hp:Fd s with
 |bad c q=>
  rw[hp]at h;simp only[Prod.mk.injEq]at h;exact absurd hp (Tl h.1)
 |ok v q=>
  rw[hp]at h;simp only at h;obtain⟨h1,h2,_⟩:=Af8 h;obtain⟨_,_,h4,h5⟩:=Sw hp;have hr:Cn 65 v=(0,m):=by
   unfold L4 at h
   split at h
   . rename_i g;simp only[Prod.mk.injEq]at h;exact absurd h.1 g
   split at h
   . rename_i g;simp only[Prod.mk.injEq]at h;exact absurd h.1 g
   split at h
   . rename_i g;simp only[Prod.mk.injEq]at h;exact absurd h.1 g
   . rename_i g _;simp only[Prod.mk.injEq,true_and]at h;exact Prod.ext (by simpa using g) h
  have b1:=Qv 65 v (by rw[hr]);have i1:=Wd 65 v h5;rw[hr]at b1 i1;subst h1;exact⟨h2,i1,by simpa using Nat.le_trans b1 h4,h4⟩
theorem Aoj (v:Val) (cs:List Value) (w:World) (hT:Cq w) (h:Holds w w.heap.size (dV v) cs) (hb:v.bulk<=100000000) (hi:Jg v):Calls Tryz.prog 24 #[.agg cs.toArray] w (W9 v w):=by
 have hrb:(Cn 65 v).1=0->Bm (Cn 65 v).2<=100000000/\Mu (Cn 65 v).2:=fun h0=>⟨Nat.le_trans (Qv 65 v h0) hb,Wd 65 v hi⟩;obtain⟨k,b,n,t,l,o⟩:=v;have h6:=B8 _ _ h;simp only[Ab]at h6;obtain⟨la,lc,oa,oc,rfl,_,_⟩:=h6;exact Y5 k b n t l o la lc oa oc w hT h hb hrb
end Go.Proofs.YtmglfdckpjegdaaGreatDoor
