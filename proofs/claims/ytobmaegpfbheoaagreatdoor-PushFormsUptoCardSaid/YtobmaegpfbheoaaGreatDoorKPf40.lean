/- Parts: commonplacelaw17.known: the chapter's row is so. No condition. -/
import Derived.Lib.SlBytesConst
import Derived.Test.YtobmaegpfbheoaaGreatDoorKPf34
import Derived.Test.YtobmaegpfbheoaaGreatDoorKPf39
set_option maxHeartbeats 20000000
set_option maxRecDepth 100000
namespace Go.Proofs.YtobmaegpfbheoaaGreatDoor
open Go Go.RowKit
theorem N7 {c:Int} {l:List Num} (h:Fq l=0):A9 (ov (Db c l)) 1=0:=by
 have v1:Al O1=true:=by decide
 have v2:Al Jh=true:=by decide
 have v3:Al F7=true:=by decide
 have v4:Al Co=true:=by decide
 have l1:M5 Jh O1=false:=by decide+kernel
 have l2:M5 Co F7=false:=by decide+kernel
 refine N6 (by omega) (Bx v1 (Vx (by omega)) (Es _) (Bx v2 (Zp (by omega) (S6 fun x hx=> ?_)) (Gt l1) (by simp[Cf])));obtain⟨p,hp,rfl⟩:=List.mem_map.1 hx;obtain⟨_,hm⟩:=Iy h p hp;exact N6 (by omega) (Bx v3 (Vx (by omega)) (Es _) (Bx v4 (Zq p.m 1 _ (Ib hm) (by omega) (by omega)) (Gt l2) (by simp[Cf])))
theorem Qy {c:Int} {l:List Num} (h0:0<=c) (h1:c<=4611686018427387903) (h:Fq l=0) (hin:Xq l):Jg (ov (Db c l)):=by
 have key: ∀r:List Num,(∀p ∈ r,p ∈ l)->Oz (r.map Dl):=by
  intro r
  induction r with
  |nil=>intro _;trivial
  |cons p r ih=>
   intro hr;obtain⟨⟨a,b⟩,_⟩:=Iy h p (hr p (by simp));exact⟨St ⟨Abi (by omega) b,Aaq p.m (hin p (hr p (by simp))).2,trivial⟩,ih fun q hq=>hr q (by simp[hq])⟩
 exact St ⟨Abi h0 h1,Abj (key l fun _ hp=>hp),trivial⟩
theorem Lc (c:Int) (l:List Num) (h:Dj l<=2000000):(ov (Db c l)).bulk<=90000010:=by
 have h1:=J9 O1 Jh c (lv (l.map Dl)) (by decide) (by decide);have h2:=Lb l;have e:(⟨#[]⟩:ByteArray).size=0:=rfl;simp only[ov,lv,Db,Val.bulk,A0,Av,e]at h1 ⊢;omega
theorem Jk (c:Int) (l:List Num) (a:Option Addr) (n cc:Nat) (w:World) (hc0:0<=c) (hT:B7 w) (hN:C0 w) (h:Ag w w.heap.size (.row 20 (Si l)) [.slice a n cc]) (hb:Dj l<=2000000) (hin:Xq l) (hm:B9 c l=0):
 Calls Tryz.prog 7 #[.agg #[.int .u64 c,.slice a n cc]] w (Ex (Ew (1::Bd (ov (Db c l)))) w):=by
 have hn:=h.row_len;rw[Iv]at hn;subst hn;have hM:=fun(W:World) (hB:Below w.heap.size w W)=>Jm c l a l.length cc W hc0 (hT.below hB) ((h.below hB).more hB.size) (by omega) hin;rw[hm]at hM;obtain⟨hc1,hmn⟩:c<=4611686018427387903/\Fq l=0:=by
  unfold B9 at hm
  split at hm
  . cases hm
  . split at hm
    . cases hm
    . exact⟨by omega,hm⟩
 have HO:=qz (fun(W:World) (hB:Below w.heap.size w W)=>Pb c l a l.length cc W hc0 hc1 (hT.below hB) (hN.below hB) ((h.below hB).more hB.size) hb hin hmn);have hmv:=N7 (c:=c) hmn;have hiv:=Qy hc0 hc1 hmn hin;have hbv:=Lc c l hb;have hok:=Oc _ 1 hmv hiv;have hlen:=Fd (ov (Db c l)) hok;have hT2:=fun(W:World) (hB:Below w.heap.size w W) cs hv=>Us (ov (Db c l)) cs W (hT.below hB) hv (by omega) hiv;have hts:T4 (ov (Db c l))=⟨(Bd (ov (Db c l))).toArray⟩:=by unfold T4;rw[if_pos hmv]
 simp only[hts,hmv]at hT2;clear hts;have hFr: ∀(W:World) (a:Option Addr) (n c':Nat),Ag W W.heap.size (.row 1 (dB (Bd (ov (Db c l))))) [.slice a n c']->Calls Tryz.prog 27 #[.int .u8 1,.slice a n c'] W (Ex (Ew (1::Bd (ov (Db c l)))) W):=fun W a n c' hh=>Sq 1 (by decide) (Bd (ov (Db c l))) a n c' W hh (by omega);obtain⟨S,hS⟩: ∃S:ByteArray,⟨(Bd (ov (Db c l))).toArray⟩=S:=⟨_,rfl⟩;have hSe:Bd (ov (Db c l))=S.data.toList:=by rw[<-hS]
 rw[hS]at hT2;rw[hSe]at hFr hlen ⊢;generalize Ew (1::S.data.toList)=L at hFr ⊢;obtain⟨wi,hwi⟩: ∃wi,w.alloc (.cells #[.int .u64 c,.slice a l.length cc] 25)=wi:=⟨_,rfl⟩;have Hbi:Hid (Below w.heap.size w wi):=hwi▸Aa _ _;have hxi:Aj wi w.heap.size 25 #[.int .u64 c,.slice a l.length cc]:=hwi▸Aj.new _ _ _;have d0:=hxi.cell 0;have d1:=hxi.cell 1;have hgi:=hxi.lt;obtain⟨HT2,HFr,HT,HN,H,HS,HSe,HM,Hxi⟩:=hid9 hT2 hFr hT hN h hS hSe hM hxi;clear hT2 hFr hT hN h hS hSe hM hxi;clear hm hmn hmv hiv hok hin;go_enter Tryz.func7,Tryz.ntmps7;go_upto_region 1 with(fail);clear hwi;go_wp2_with (fail);(with_reducible refine(HM.out _ Hbi.out).mono ?_);rintro e w1 ⟨rfl,hb1⟩;have Hw1:=qz (Hbi.out.trans (hb1.mono Hbi.out.size));have hx1:=Hxi.out.below hb1 hgi;have d2:=hx1.cell 0;have d3:=hx1.cell 1;obtain⟨Hb1,Hx1⟩:=hid2 hb1 hx1;clear hb1 hx1;clear d0 d1;go_wp2_with (fail);(with_reducible refine(HO.out _ Hw1.out).mono ?_);rintro e w2 ⟨hb2,la,lc,oa,oc,rfl,hf2⟩;have hw2:=Hw1.out.trans (hb2.mono Hw1.out.size);have Hw2':=qz (hw2.alloc hw2.size (.cells #[.int .i64 6,.bool false,.int .i64 0,.string ⟨#[]⟩,.slice la 0 lc,.slice oa 2 oc] 42));have Hf2':=qz ((hf2.later (Aa w2 (.cells #[.int .i64 6,.bool false,.int .i64 0,.string ⟨#[]⟩,.slice la 0 lc,.slice oa 2 oc] 42))).now);obtain⟨Hb2,Hw2,Hf2⟩:=hid3 hb2 hw2 hf2;clear hb2 hw2 hf2;clear d2 d3;go_wp2_with (fail);(with_reducible refine(HT2.out _ Hw2'.out _ (Cr _ _ Hf2'.out)).mono ?_);rintro e w3 ⟨rfl,hb3⟩;have Hw3:=qz (Hw2'.out.trans (hb3.mono Hw2'.out.size));have Hb3:=qz hb3;clear hb3;go_wp2_with (first
  |(refine G9 rfl 9 26 5 (.tmp 29) rfl Tryz.underlying9 Tryz.underlying26 Tryz.underlying5 S rfl ?_;intro cap w4 hb4 hf4)
  |(go_at_call 27;(with_reducible refine(HFr.out _ _ _ _ hf4.now).mono ?_);rintro e w5 ⟨a2,c2,rfl,hf5,hb5⟩))
 go_ret2;have hw4:=Hw3.out.trans (hb4.mono Hw3.out.size);have hw5:=hw4.trans (hb5.mono hw4.size);exact⟨a2,c2,rfl,hf5.keep hw4.size (Nat.le_refl _) (fun _ _ _=>rfl),hw5⟩
def Gk:List Num:= [⟨1,.mk 2 ⟨#[97]⟩ ⟨#[]⟩ 0 false Uf false Uf []⟩]
abbrev Fb:List UInt8:= [123,34,99,108,105,101,110,116,34,58,55,44,34,108,105,115,116,34,58,91,123,34,105,100,34,58,49,44,34,109,117,116,97,116,111,114,34,58,123,34,97,114,103,115,34,58,123,34,107,101,121,34,58,34,97,34,125,44,34,110,97,109,101,34,58,34,100,101,108,34,125,125,93,125]
theorem Vr:Bd (ov (Db 7 Gk))=Fb:=by kernel_rfl
theorem Vq:B9 7 Gk=0:=by decide+kernel
abbrev Q0:Array Value:= #[.int .u64 1,.int .i64 2,.string ⟨#[97]⟩,.string ⟨#[]⟩,.int .i64 0,.bool false,.int .i64 0,.bool false,.int .i64 0,.string ⟨#[]⟩,.slice none 0 0,.slice none 0 0,.bool false,.int .i64 0,.bool false,.int .i64 0,.string ⟨#[]⟩,.slice none 0 0,.slice none 0 0,.slice none 0 0]
theorem Q1 (w:World):Ag (w.alloc (.cells Q0 61)) (w.alloc (.cells Q0 61)).heap.size (.row 20 (Si Gk)) [.slice (some ⟨w.heap.size,0,none⟩) 1 1]:=by
 have hz:=fun(W:World)=>Cv _ _ (Nu W W.heap.size);exact P0 (Aj.new _ _ _) (Iu _) (Ae.one ⟨[.int .u64 1],_,rfl,⟨rfl,rfl⟩,_, [],(List.append_nil _).symm,⟨[.int .i64 2],_,rfl,⟨rfl,rfl⟩, [.string ⟨#[97]⟩],_,rfl,⟨rfl,rfl⟩, [.string ⟨#[]⟩],_,rfl,⟨rfl,rfl⟩, [.int .i64 0],_,rfl,⟨rfl,rfl⟩, [.bool false],_,rfl,⟨rfl,rfl⟩,_,_,rfl,hz _, [.bool false],_,rfl,⟨rfl,rfl⟩,_,_,rfl,hz _, [.slice none 0 0], [],rfl,⟨none,0,rfl,(fun d hd=>by cases hd), [],rfl,.inl rfl⟩,rfl⟩,rfl⟩) rfl
theorem Sx (w:World):Ag (w.alloc (.cells (Bl Fb).toArray 5 (74,75))) (w.alloc (.cells (Bl Fb).toArray 5 (74,75))).heap.size (.row 1 (dB Fb)) [.slice (some ⟨w.heap.size,0,none⟩) 74 74]:=by
 have hn:=heap_alloc_new w (.cells (Bl Fb).toArray 5 (74,75));have hl:74=Fb.length:=by rfl
 generalize Fb=B at hn hl ⊢;refine(Sg (b:=0) (l:=B) (n:=74) (cap:=74) (g:=w.heap.size) hl (Nat.zero_le _) (by simp) fun j x hx=> ?_).now;refine(cell_of_row _ _ _ _ _ _ hn).trans ?_;rw[<-Array.getElem?_toList];show(Bl B)[j]? =_;unfold Bl;rw[List.getElem?_map,hx];rfl
theorem Ji (w:World) (hT:B7 w) (hN:C0 w):Calls Tryz.prog 9 #[] w fun e w'=>e=.returned (.bool true)/\Below w.heap.size w w':=by
 have hQ:=fun(W:World) (hB:Below w.heap.size w W)=>Jk 7 Gk _ 1 1 (W.alloc (.cells Q0 61)) (by omega) (hT.below (hB.alloc hB.size _)) (hN.below (hB.alloc hB.size _)) (Q1 W) (by decide) (by intro p hp;simp[Gk]at hp;subst hp;exact⟨by decide,by simp[Ug,Vn,Jg,Oz,P2]⟩) Vq;have hG: ∀(W:World) (a:Option Addr) (n c:Nat),Ag W W.heap.size (.row 1 (dB Fb)) [.slice a n c]->Calls Tryz.prog 10 #[.int .u8 1,.slice a n c] W (Ex (Ew (1::Fb)) W):=fun W a n c h=>Kq 1 (by decide) Fb a n c W h (by decide);rw[Vr]at hQ;obtain⟨L,hL⟩: ∃L,Ew (1::Fb)=L:=⟨_,rfl⟩;rw[hL]at hQ hG;have hl:L.length<=2000000000:=by rw[<-hL];unfold Ew;simp[Ij]
 have HS:=qz (fun(W:World) a n c a' n' c' h h'=>Oh L L a a' n c n' c' true W h h' hl hl (by simp));have HK:=qz (fun(W:World)=>Sx W);have hcv:=fun(w:World) (cs:Array Value)=>Lib.run_convert_bytes_const w 26 5 cs 74 74 Tryz.underlying26 Tryz.underlying5;obtain⟨HQ,HG,HL⟩:=hid3 hQ hG hL;clear hQ hG hL;clear hl;go_enter Tryz.func9,Tryz.ntmps9;go_wp2_with (fail);refine(HQ.out w (Below.refl _ _)).mono ?_;rintro e w1 ⟨a1,c1,rfl,hf1,hb1⟩;go_wp2_with (fail);have hb2:=hb1.alloc hb1.size (.cells (Bl Fb).toArray 5 (74,75));have hf2:=hf1.later (Aa w1 (.cells (Bl Fb).toArray 5 (74,75)));refine(HG.out _ _ _ _ (HK.out w1)).mono ?_;rintro e w3 ⟨a3,c3,rfl,hf3,hb3⟩;have Hb3':=qz (hb2.trans (hb3.mono hb2.size));have Hf23:=qz (hf2.later hb3);obtain⟨Hb1,Hb2,Hf2,Hf1,Hb3,Hf3⟩:=hid6 hb1 hb2 hf2 hf1 hb3 hf3;clear hb1 hb2 hf2 hf1 hb3 hf3;go_wp2_with (fail);refine(HS.out _ _ _ _ _ _ _ Hf23.out.now Hf3.out.now).mono ?_;rintro e w4 ⟨rfl,hb4⟩;go_wp2;go_ret;have hz:=Aa w (.cells Q0 61);have hb4':=Hb3'.out.trans (hb4.mono Hb3'.out.size);exact⟨rfl,hz.trans (hb4'.mono hz.size)⟩
end Go.Proofs.YtobmaegpfbheoaaGreatDoor
