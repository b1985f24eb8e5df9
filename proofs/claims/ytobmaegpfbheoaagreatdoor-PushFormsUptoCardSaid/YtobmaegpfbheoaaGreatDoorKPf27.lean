/- Parts: mutator.strange: has a mutator something that its Kind does not name? Condition: none. -/
import Derived.Handy
import Derived.Laws.EntriesVeiled
import Derived.Test.YtobmaegpfbheoaaGreatDoorKPf23
set_option maxHeartbeats 20000000
set_option maxRecDepth 100000
namespace Go.Proofs.YtobmaegpfbheoaaGreatDoor
open Go.RowKit
theorem Pf (a:Addr) (s:ByteArray) (B:Bool) (w:World) (hc:w.cell? a=some (.string s)) (h:s.toList.isEmpty=B):Calls Tryz.prog 233 #[.pointer (some a)] w fun e w'=>e=.returned (.bool B)/\w=w':=by
 subst h;go_enter Tryz.func233,Tryz.ntmps233;go_wp2;go_ret;exact⟨rfl,rfl⟩
theorem Pg (a:Addr) (s:ByteArray) (B:Bool) (w:World) (hc:w.cell? a=some (.string s)) (h:decide (64<(s.size:Int))=B):Calls Tryz.prog 234 #[.pointer (some a)] w fun e w'=>e=.returned (.bool B)/\w=w':=by
 subst h;go_enter Tryz.func234,Tryz.ntmps234;go_wp2;go_ret;exact⟨rfl,rfl⟩
theorem Ph (a:Addr) (s:ByteArray) (B:Bool) (w:World) (hc:w.cell? a=some (.string s)) (h:Al s=B) (hs:s.size<=9223372036854775807) (hT:B7 w):Calls Tryz.prog 235 #[.pointer (some a)] w fun e w'=>e=.returned (.bool (!B))/\Below w.heap.size w w':=by
 have HU:=qz (Bh h w hs hT);clear h hT;go_enter Tryz.func235,Tryz.ntmps235;go_wp2_with (go_at_call 150;refine HU.out.mono ?_;rintro e w1 ⟨rfl,hb1⟩);go_ret;exact⟨rfl,hb1⟩
abbrev Tn (g:Nat):Array Value:= #[.int .i64 8,.func (.func 233) #[] #[.pointer (some ⟨g,0,none⟩)],.int .i64 6,.func (.func 234) #[] #[.pointer (some ⟨g,0,none⟩)],.int .i64 3,.func (.func 235) #[] #[.pointer (some ⟨g,0,none⟩)]]
theorem Pi (s:ByteArray) (w:World):Calls Tryz.prog 208 #[.string s] w fun e w'=>e=.returned (.slice (some ⟨w.heap.size+1,0,none⟩) 3 3)/\w'=(w.alloc (.cells #[.string s] 9)).alloc (.cells (Tn w.heap.size) 263):=by
 go_enter Tryz.func208,Tryz.ntmps208;go_wp2;go_ret;exact⟨rfl,rfl⟩
theorem O2 (s:ByteArray) (w:World) (hT:B7 w) (hs:s.size<=9223372036854775807):Calls Tryz.prog 162 #[.string s] w fun e w'=>e=.returned (.int .i64 (Mu s))/\Below w.heap.size w w':=by
 obtain⟨b1,hb1⟩: ∃b,s.toList.isEmpty=b:=⟨_,rfl⟩;obtain⟨b2,hb2⟩: ∃b,decide (64<(s.size:Int))=b:=⟨_,rfl⟩;obtain⟨b3,hb3⟩: ∃b,Al s=b:=⟨_,rfl⟩;have hE:Mu s=if b1 then 8 else if b2 then 6 else if b3 then 0 else 3:=by
  unfold Mu;rw[hb1,hb3,<-hb2];by_cases h:64<s.size
  . have h':64<(s.size:Int):=by omega
    simp[h,h']
  . have h': ¬64<(s.size:Int):=by omega
    simp[h,h']
 have H1:=qz (fun W (hc:Aj W w.heap.size 9 #[.string s])=>Pf ⟨w.heap.size,0,none⟩ s b1 W (hc.cell 0) hb1);have H2:=qz (fun W (hc:Aj W w.heap.size 9 #[.string s])=>Pg ⟨w.heap.size,0,none⟩ s b2 W (hc.cell 0) hb2);have H3:=qz (fun W (hc:Aj W w.heap.size 9 #[.string s]) hB=>Ph ⟨w.heap.size,0,none⟩ s b3 W (hc.cell 0) hb3 hs (hT.below hB));have HE:=qz hE;clear hE;clear hb1 hb2 hb3 hT;go_enter Tryz.func162,Tryz.ntmps162;go_wp2_with (fail);(with_reducible refine(Pi s _).mono ?_);rintro e w1 ⟨rfl,rfl⟩;go_wp2_with (fail);refine wp_loop_rounds 4 ?_
 cases b1 with
 |true=>
  rw[rounds_succ];go_wp2_with (go_at_call 233;refine(H1.out _ ?_).mono ?_;(repeat (first|exact Aj.new _ _ _|refine Aj.alloc ?_ _));rintro e w2 ⟨rfl,rfl⟩);go_ret;exact⟨by rw[HE.out];rfl,by go_grown⟩
 |false=>
  rw[rounds_succ];go_wp2_with (go_at_call 233;refine(H1.out _ ?_).mono ?_;(repeat (first|exact Aj.new _ _ _|refine Aj.alloc ?_ _));rintro e w2 ⟨rfl,rfl⟩);rw[rounds_succ]
  cases b2 with
  |true=>
   go_wp2_with (go_at_call 234;refine(H2.out _ ?_).mono ?_;(repeat (first|exact Aj.new _ _ _|refine Aj.alloc ?_ _));rintro e w2 ⟨rfl,rfl⟩);go_ret;exact⟨by rw[HE.out];rfl,by go_grown⟩
  |false=>
   go_wp2_with (go_at_call 234;refine(H2.out _ ?_).mono ?_;(repeat (first|exact Aj.new _ _ _|refine Aj.alloc ?_ _));rintro e w2 ⟨rfl,rfl⟩);rw[rounds_succ]
   cases b3 with
   |false=>
    go_wp2_with (go_at_call 235;refine(H3.out _ ?_ ?_).mono ?_;(repeat (first|exact Aj.new _ _ _|refine Aj.alloc ?_ _));(go_grown);rintro e w2 ⟨rfl,hb2⟩;obtain⟨hc2,hf2⟩:=Em hb2);go_ret;exact⟨by rw[HE.out];rfl,((((Aa _ _).alloc (by simp) _).alloc (by simp;omega) _).alloc (by simp;omega) _).alloc (by simp;omega) _ |>.trans (hb2.mono (by simp;omega))⟩
   |true=>
    go_wp2_with (go_at_call 235;refine(H3.out _ ?_ ?_).mono ?_;(repeat (first|exact Aj.new _ _ _|refine Aj.alloc ?_ _));(go_grown);rintro e w2 ⟨rfl,hb2⟩;obtain⟨hc2,hf2⟩:=Em hb2);rw[rounds_succ];go_wp2;go_ret;exact⟨by rw[HE.out];rfl,((((Aa _ _).alloc (by simp) _).alloc (by simp;omega) _).alloc (by simp;omega) _).alloc (by simp;omega) _ |>.trans (hb2.mono (by simp;omega))⟩
theorem G6 (s:ByteArray) (w:World) (hT:B7 w) (hs:s.size<=1000000000):Calls Tryz.prog 161 #[.string s] w fun e w'=>e=.returned (.bool (Cq s))/\Below w.heap.size w w':=by
 obtain⟨B,hB⟩: ∃B,Al s=B:=⟨_,rfl⟩;have hC:=fun(W:World) hT=>Bh hB W (by omega) hT;by_cases h1:s.size<=64
 . have hE:Cq s=B:=by unfold Cq;rw[hB];simp[h1]
   have t1:(s.size:Int)<=64:=by omega
   obtain⟨HC,HE,HT⟩:=hid3 hC hE hT;clear hC hE hT;clear h1;go_enter Tryz.func161,Tryz.ntmps161;go_wp2_with (go_at_call 150;(with_reducible refine(HC.out _ HT.out).mono ?_);rintro e w2 ⟨rfl,hb2⟩);go_ret;exact⟨by rw[HE.out];rfl,hb2⟩
 . have hE:Cq s=false:=by unfold Cq;simp[h1]
   have t1:(64:Int)<(s.size:Int):=by omega
   have HE:=qz hE;clear hE;clear h1 hC;go_enter Tryz.func161,Tryz.ntmps161;go_wp2;go_ret;exact⟨by rw[HE.out];rfl,Below.refl _ _⟩
theorem Ny (s:ByteArray):s.toList.isEmpty=decide (s=⟨#[]⟩):=by
 rw[Bool.eq_iff_iff,List.isEmpty_iff,decide_eq_true_eq,Lib.toList_data];constructor
 . intro h;exact ByteArray.ext (Array.ext' h)
 . rintro rfl;rfl
theorem Sw (k:Int) (key dst:ByteArray) (had:Bool) (y3 y5 y6 y7 y8 y9 y10 y11 y12 y13 y14 y15 y16 y17 y18:Value) (w:World) (hT:B7 w) (h1:key.size<=1000000000) (h2:dst.size<=1000000000):
 Calls Tryz.prog 117 #[.agg #[.int .i64 k,.string key,.string dst,y3,.bool had,y5,y6,y7,y8,y9,y10,y11,y12,y13,y14,y15,y16,y17,y18]] w fun e w'=>e=.returned (.bool (Cd k key dst had))/\Below w.heap.size w w':=by
 have hb0:=Aa w (.cells #[.int .i64 k,.string key,.string dst,y3,.bool had,y5,y6,y7,y8,y9,y10,y11,y12,y13,y14,y15,y16,y17,y18] 45);have hT1:=hT.below hb0;by_cases e6:k=6
 . subst e6;have hE:Cd 6 key dst had=(Cq key&&Cq dst):=by unfold Cd;rw[if_pos rfl]
   have hC:=fun(W:World) hT=>G6 key W hT h1;have hD:=fun(W:World) hT=>G6 dst W hT h2;have Hxb:=qz (Aj.new w 45 #[.int .i64 6,.string key,.string dst,y3,.bool had,y5,y6,y7,y8,y9,y10,y11,y12,y13,y14,y15,y16,y17,y18]);rw[hE];generalize Cq key=B at hC ⊢;generalize Cq dst=B' at hD ⊢;obtain⟨HC,HD,HT1,Hb0⟩:=hid4 hC hD hT1 hb0;clear hC hD hT1 hb0;clear hE hT
   cases B with
   |false=>
    go_enter Tryz.func117,Tryz.ntmps117;go_wp2_with (go_at_call 161;(with_reducible refine(HC.out _ HT1.out).mono ?_);rintro e w2 ⟨rfl,hb2⟩);go_ret;exact⟨rfl,Hb0.out.trans (hb2.mono Hb0.out.size)⟩
   |true=>
    go_enter Tryz.func117,Tryz.ntmps117;go_wp2_with (fail);(with_reducible refine(HC.out _ HT1.out).mono ?_);rintro e w2 ⟨rfl,hb2⟩;obtain⟨hc2,hg2⟩:=At hb2;have hlt:=Hxb.out.lt;have hT2:=HT1.out.below hb2;go_wp2_with (fail);(with_reducible refine(HD.out _ hT2).mono ?_);rintro e w3 ⟨rfl,hb3⟩;go_wp2;go_ret;exact⟨by simp,(Hb0.out.trans (hb2.mono Hb0.out.size)).trans (hb3.mono (Nat.le_trans Hb0.out.size hb2.size))⟩
 by_cases e7:k=7/\key.toList.isEmpty=true
 . obtain⟨rfl,hk⟩:=e7;have hE:Cd 7 key dst had= !had:=by unfold Cd;rw[if_neg (by omega),if_pos ⟨rfl,hk⟩]
   rw[Ny,decide_eq_true_eq]at hk;subst hk;rw[hE];have Hb0:=qz hb0;clear hb0;clear hE hT hT1;go_enter Tryz.func117,Tryz.ntmps117;go_wp2;go_ret;exact⟨rfl,Hb0.out⟩
 have hE:Cd k key dst had=decide (Mu key=0):=by
  unfold Cd;rw[if_neg e6,if_neg e7,Bool.eq_iff_iff,decide_eq_true_eq,P4]
 have hC:=fun(W:World) hT=>O2 key W hT (by omega);have t6:(k==6)=false:=by simpa using e6
 have hxb:=Aj.new w 45 #[.int .i64 k,.string key,.string dst,y3,.bool had,y5,y6,y7,y8,y9,y10,y11,y12,y13,y14,y15,y16,y17,y18];rw[hE];generalize Mu key=X at hC ⊢;by_cases k7:k=7
 . subst k7;have t8:key.toList.isEmpty=false:=by cases e:key.toList.isEmpty;rfl;exact absurd ⟨rfl,e⟩ e7
   obtain⟨HC,HT1,Hb0,Hxb⟩:=hid4 hC hT1 hb0 hxb;clear hC hT1 hb0 hxb;clear hE hT e6 e7;go_enter Tryz.func117,Tryz.ntmps117;go_wp2_with (go_at_call 162;(with_reducible refine(HC.out _ HT1.out).mono ?_);rintro e w2 ⟨rfl,hb2⟩);go_ret;exact⟨by simp[J7],Hb0.out.trans (hb2.mono Hb0.out.size)⟩
 . have t7:(k==7)=false:=by simpa using k7
   obtain⟨HC,HT1,Hb0,Hxb⟩:=hid4 hC hT1 hb0 hxb;clear hC hT1 hb0 hxb;clear hE hT e6 e7 k7;go_enter Tryz.func117,Tryz.ntmps117;go_wp2_with (go_at_call 162;(with_reducible refine(HC.out _ HT1.out).mono ?_);rintro e w2 ⟨rfl,hb2⟩);go_ret;exact⟨by simp[J7],Hb0.out.trans (hb2.mono Hb0.out.size)⟩
def Bt (key dst:ByteArray) (n:Int) (had z1 has z2:Bool) (ln:Nat):Bool:=key.toList.isEmpty&&dst.toList.isEmpty&&decide (n=0)&& !had&&z1&& !has&&z2&&decide (ln=0)
theorem C9 (k:Int) (key dst:ByteArray) (n:Int) (had:Bool) (k1:Int) (b1:Bool) (n1:Int) (t1:ByteArray) (la1 oa1:Option Addr) (p1 lc1 q1 oc1:Nat) (has:Bool) (k2:Int) (b2:Bool) (n2:Int) (t2:ByteArray) (la2 oa2:Option Addr) (p2 lc2 q2 oc2:Nat) (a:Option Addr) (ln c:Nat) (w:World):
 Calls Tryz.prog 160 #[.agg #[.int .i64 k,.string key,.string dst,.int .i64 n,.bool had,.int .i64 k1,.bool b1,.int .i64 n1,.string t1,.slice la1 p1 lc1,.slice oa1 q1 oc1,.bool has,.int .i64 k2,.bool b2,.int .i64 n2,.string t2,.slice la2 p2 lc2,.slice oa2 q2 oc2,.slice a ln c]] w fun e w'=>
  e=.returned (.bool (Bt key dst n had (Ef k1 b1 n1 t1 p1 q1) has (Ef k2 b2 n2 t2 p2 q2) ln))/\Below w.heap.size w w':=by
 have h1:=fun W=>Gc k1 b1 n1 t1 la1 oa1 p1 lc1 q1 oc1 _ W rfl;have h2:=fun W=>Gc k2 b2 n2 t2 la2 oa2 p2 lc2 q2 oc2 _ W rfl;generalize Ef k1 b1 n1 t1 p1 q1=Z1 at h1 ⊢;generalize Ef k2 b2 n2 t2 p2 q2=Z2 at h2 ⊢;by_cases c0:key.toList.isEmpty=true;rotate_left
 . have u0:key.toList.isEmpty=false:=by simpa using c0
   have hE:Bt key dst n had Z1 has Z2 ln=false:=by simp[Bt,c0]
   rw[hE];obtain⟨H1,H2⟩:=hid2 h1 h2;clear h1 h2;clear hE;go_enter Tryz.func160,Tryz.ntmps160;go_wp2;go_ret;exact⟨rfl,Aa _ _⟩
 by_cases c1:dst.toList.isEmpty=true;rotate_left
 . have u1:dst.toList.isEmpty=false:=by simpa using c1
   have hE:Bt key dst n had Z1 has Z2 ln=false:=by simp[Bt,c0,c1]
   rw[hE];obtain⟨H1,H2⟩:=hid2 h1 h2;clear h1 h2;clear hE;go_enter Tryz.func160,Tryz.ntmps160;go_wp2;go_ret;exact⟨rfl,Aa _ _⟩
 by_cases c2:n=0;rotate_left
 . have u2:(n==0)=false:=by simpa using c2
   have hE:Bt key dst n had Z1 has Z2 ln=false:=by simp[Bt,c0,c1,c2]
   rw[hE];obtain⟨H1,H2⟩:=hid2 h1 h2;clear h1 h2;clear hE;go_enter Tryz.func160,Tryz.ntmps160;go_wp2;go_ret;exact⟨rfl,Aa _ _⟩
 subst c2;by_cases c3:had=false;rotate_left
 . have u3:had=true:=by simpa using c3
   subst u3;have hE:Bt key dst 0 true Z1 has Z2 ln=false:=by simp[Bt]
   rw[hE];obtain⟨H1,H2⟩:=hid2 h1 h2;clear h1 h2;clear hE;go_enter Tryz.func160,Tryz.ntmps160;go_wp2;go_ret;exact⟨rfl,Aa _ _⟩
 subst c3;by_cases c4:Z1=true;rotate_left
 . have u4:Z1=false:=by simpa using c4
   subst u4;have hE:Bt key dst 0 false false has Z2 ln=false:=by simp[Bt]
   rw[hE];obtain⟨H1,H2⟩:=hid2 h1 h2;clear h1 h2;clear hE;go_enter Tryz.func160,Tryz.ntmps160;go_wp2_with (fail);(with_reducible refine(H1.out _).mono ?_);rintro e w2 ⟨rfl,hb2⟩;have hlt2:w.heap.size<w2.heap.size:=by(have:=hb2.size;simp at this;omega)
   obtain⟨hc2,hg2⟩:=At hb2;go_wp2;go_ret;exact⟨rfl,(Aa _ _).trans (hb2.mono (by simp))⟩
 subst c4;by_cases c5:has=false;rotate_left
 . have u5:has=true:=by simpa using c5
   subst u5;have hE:Bt key dst 0 false true true Z2 ln=false:=by simp[Bt]
   rw[hE];obtain⟨H1,H2⟩:=hid2 h1 h2;clear h1 h2;clear hE;go_enter Tryz.func160,Tryz.ntmps160;go_wp2_with (fail);(with_reducible refine(H1.out _).mono ?_);rintro e w2 ⟨rfl,hb2⟩;have hlt2:w.heap.size<w2.heap.size:=by(have:=hb2.size;simp at this;omega)
   obtain⟨hc2,hg2⟩:=At hb2;go_wp2;go_ret;exact⟨rfl,(Aa _ _).trans (hb2.mono (by simp))⟩
 subst c5;by_cases c6:Z2=true;rotate_left
 . have u6:Z2=false:=by simpa using c6
   subst u6;have hE:Bt key dst 0 false true false false ln=false:=by simp[Bt]
   rw[hE];obtain⟨H1,H2⟩:=hid2 h1 h2;clear h1 h2;clear hE;go_enter Tryz.func160,Tryz.ntmps160;go_wp2_with (fail);(with_reducible refine(H1.out _).mono ?_);rintro e w2 ⟨rfl,hb2⟩;have hlt2:w.heap.size<w2.heap.size:=by(have:=hb2.size;simp at this;omega)
   obtain⟨hc2,hg2⟩:=At hb2;go_wp2_with (fail);(with_reducible refine(H2.out _).mono ?_);rintro e w3 ⟨rfl,hb3⟩;obtain⟨hc3,hg3⟩:=At hb3;go_wp2;go_ret;exact⟨rfl,((Aa _ _).trans (hb2.mono (by simp))).trans (hb3.mono (by omega))⟩
 subst c6;by_cases c7:ln=0;rotate_left
 . have u7:((ln:Int)==0)=false:=by simpa using c7
   have hE:Bt key dst 0 false true false true ln=false:=by simp[Bt,c7]
   rw[hE];obtain⟨H1,H2⟩:=hid2 h1 h2;clear h1 h2;clear hE;go_enter Tryz.func160,Tryz.ntmps160;go_wp2_with (fail);(with_reducible refine(H1.out _).mono ?_);rintro e w2 ⟨rfl,hb2⟩;have hlt2:w.heap.size<w2.heap.size:=by(have:=hb2.size;simp at this;omega)
   obtain⟨hc2,hg2⟩:=At hb2;go_wp2_with (fail);(with_reducible refine(H2.out _).mono ?_);rintro e w3 ⟨rfl,hb3⟩;obtain⟨hc3,hg3⟩:=At hb3;go_wp2;go_ret;exact⟨rfl,((Aa _ _).trans (hb2.mono (by simp))).trans (hb3.mono (by omega))⟩
 subst c7;have hE:Bt key dst 0 false true false true 0=true:=by simp[Bt,c0,c1]
 rw[hE];obtain⟨H1,H2⟩:=hid2 h1 h2;clear h1 h2;clear hE;go_enter Tryz.func160,Tryz.ntmps160;go_wp2_with (fail);(with_reducible refine(H1.out _).mono ?_);rintro e w2 ⟨rfl,hb2⟩;have hlt2:w.heap.size<w2.heap.size:=by(have:=hb2.size;simp at this;omega)
 obtain⟨hc2,hg2⟩:=At hb2;go_wp2_with (fail);(with_reducible refine(H2.out _).mono ?_);rintro e w3 ⟨rfl,hb3⟩;obtain⟨hc3,hg3⟩:=At hb3;go_wp2;go_ret;exact⟨rfl,((Aa _ _).trans (hb2.mono (by simp))).trans (hb3.mono (by omega))⟩
theorem F6:Ef 0 false 0 ⟨#[]⟩ 0 0=true:=by simp[Ef,Lib.toList_data]
theorem Ob (k:Int) (key dst:ByteArray) (n:Int) (had:Bool) (k1:Int) (b1:Bool) (n1:Int) (t1:ByteArray) (l1:List Val) (o1:List (ByteArray×Val)) (has:Bool) (k2:Int) (b2:Bool) (n2:Int) (t2:ByteArray) (l2:List Val) (o2:List (ByteArray×Val)) (l:List Mut) (la1:Option Addr) (lc1:Nat) (oa1:Option Addr) (oc1:Nat) (la2:Option Addr) (lc2:Nat) (oa2:Option Addr) (oc2:Nat) (a:Option Addr) (c:Nat) (w:World):
 Calls Tryz.prog 116 #[.agg #[.int .i64 k,.string key,.string dst,.int .i64 n,.bool had,.int .i64 k1,.bool b1,.int .i64 n1,.string t1,.slice la1 l1.length lc1,.slice oa1 o1.length oc1,.bool has,.int .i64 k2,.bool b2,.int .i64 n2,.string t2,.slice la2 l2.length lc2,.slice oa2 o2.length oc2,.slice a l.length c]] w fun e w'=>e=.returned (.bool (Cm k dst n had (Cx (.mk k1 b1 n1 t1 l1 o1)) has (Cx (.mk k2 b2 n2 t2 l2 o2)) l.length))/\Below w.heap.size w w':=by
 have q1:Cx (.mk k1 b1 n1 t1 l1 o1)=Ef k1 b1 n1 t1 l1.length o1.length:=rfl;have q2:Cx (.mk k2 b2 n2 t2 l2 o2)=Ef k2 b2 n2 t2 l2.length o2.length:=rfl;rw[q1,q2];clear q1 q2;obtain⟨Z1,hZ1⟩: ∃Z,Ef k1 b1 n1 t1 l1.length o1.length=Z:=⟨_,rfl⟩;obtain⟨Z2,hZ2⟩: ∃Z,Ef k2 b2 n2 t2 l2.length o2.length=Z:=⟨_,rfl⟩;have H1:=qz (fun W=>Gc k1 b1 n1 t1 la1 oa1 l1.length lc1 o1.length oc1 Z1 W hZ1);have H2:=qz (fun W=>Gc k2 b2 n2 t2 la2 oa2 l2.length lc2 o2.length oc2 Z2 W hZ2);rw[hZ1,hZ2];obtain⟨S,hS⟩: ∃S,Cm k dst n had Z1 has Z2 l.length=S:=⟨_,rfl⟩;rw[hS];obtain⟨wi,hwi⟩: ∃wi,w.alloc (.cells #[.int .i64 k,.string key,.string dst,.int .i64 n,.bool had,.int .i64 k1,.bool b1,.int .i64 n1,.string t1,.slice la1 l1.length lc1,.slice oa1 o1.length oc1,.bool has,.int .i64 k2,.bool b2,.int .i64 n2,.string t2,.slice la2 l2.length lc2,.slice oa2 o2.length oc2,.slice a l.length c] 45)=wi:=⟨_,rfl⟩;have Hbi:Hid (Below w.heap.size w wi):=hwi▸Aa _ _;have hxb:Aj wi w.heap.size 45 #[.int .i64 k,.string key,.string dst,.int .i64 n,.bool had,.int .i64 k1,.bool b1,.int .i64 n1,.string t1,.slice la1 l1.length lc1,.slice oa1 o1.length oc1,.bool has,.int .i64 k2,.bool b2,.int .i64 n2,.string t2,.slice la2 l2.length lc2,.slice oa2 o2.length oc2,.slice a l.length c]:=hwi▸Aj.new _ _ _;have hgb:=hxb.lt;obtain⟨y0,y1,y2,y3,y4,y5,y6,y7,y8,y9,y10,y11,y12,y13,y14,y15,y16,y17,y18⟩:=Kk hxb;obtain⟨Hxb,HZ1,HZ2,HS⟩:=hid4 hxb hZ1 hZ2 hS;clear hxb hZ1 hZ2 hS;go_enter Tryz.func116,Tryz.ntmps116;go_upto_region 1 with(fail);clear hwi;go_cut [12] (fun s wx=>s=.bool (!had&& !Z1)/\Hid (Below wi.heap.size wi wx))
 case first=>
  cases had with
  |true=>
   go_wp2;go_meet;exact⟨rfl,Below.refl _ _⟩
  |false=>
   go_wp2_with (fail);(with_reducible refine(H1.out _).mono ?_);rintro e w2 ⟨rfl,hb2⟩;go_wp2;go_meet;exact⟨by simp,hb2⟩
 case rest=>
  obtain⟨rfl,hbx⟩:=hcut;clear y0 y1 y2 y3 y4 y5 y6 y7 y8 y9 y10 y11 y12 y13 y14 y15 y16 y17 y18;have hxc:=Hxb.out.below hbx.out Hxb.out.lt;have Hbw:=qz (Hbi.out.trans (hbx.out.mono Hbi.out.size));have hgc:=hxc.lt;obtain⟨y0,y1,y2,y3,y4,y5,y6,y7,y8,y9,y10,y11,y12,y13,y14,y15,y16,y17,y18⟩:=Kk hxc;have Hxc:=qz hxc;clear hxc;by_cases h0:(!had&& !Z1)=true
  . have hE:S=true:=by rw[<-HS.out];unfold Cm;rw[if_pos h0]
    rw[h0];go_wp2;go_ret;exact⟨by rw[hE];rfl,Hbw.out⟩
  have h00:(!had&& !Z1)=false:=by simpa using h0
  rw[h00];go_upto_region 3 with(fail)
  iterate 2 go_step
  refine Ah 45 (.tmp 1) rfl w.heap.size #[.int .i64 k,.string key,.string dst,.int .i64 n,.bool had,.int .i64 k1,.bool b1,.int .i64 n1,.string t1,.slice la1 l1.length lc1,.slice oa1 o1.length oc1,.bool has,.int .i64 k2,.bool b2,.int .i64 n2,.string t2,.slice la2 l2.length lc2,.slice oa2 o2.length oc2,.slice a l.length c] Hxc.out rfl _ Tryz.underlying45 rfl (by kernel_rfl) ?_
  iterate 5 go_step
  refine Dh 45 (.tmp 3) (.tmp 13) rfl #[.int .i64 k,.string key,.string dst,.int .i64 n,.bool had,.int .i64 k1,.bool b1,.int .i64 n1,.string t1,.slice la1 l1.length lc1,.slice oa1 o1.length oc1,.bool has,.int .i64 k2,.bool b2,.int .i64 n2,.string t2,.slice la2 l2.length lc2,.slice oa2 o2.length oc2,.slice a l.length c] rfl rfl rfl (by kernel_rfl) (by simp[Value.oneCell']) ?_;by_cases e1:k=1
  . subst e1;have HE:=qz (show S=(!Bt ⟨#[]⟩ dst n had Z1 has true l.length)from by rw[<-HS.out];simp[Cm,Bt,h00]);go_upto_region 21 with(fail)
    iterate 2 go_step
    refine Ah 45 (.tmp 3) rfl _ _ (Aj.new _ _ _) rfl _ Tryz.underlying45 rfl (by kernel_rfl) ?_;go_wp2_with (go_at_call 160;(with_reducible refine(C9 _ _ _ _ _ _ _ _ _ _ _ _ _ _ _ _ _ _ _ _ _ _ _ _ _ _ _ _ _ _).mono ?_);rintro e w5 ⟨rfl,hb5⟩);go_ret;refine⟨?_,Hbw.out.trans (((Aa _ _).trans (hb5.mono (by simp))).mono Hbw.out.size)⟩;rw[HE.out];simp only[HZ1.out,F6];rfl
  have tk1:(k==1)=false:=by simpa using e1
  by_cases e5:k=5
  . subst e5;have HE:=qz (show S=(!Bt ⟨#[]⟩ dst n had Z1 has true l.length)from by rw[<-HS.out];simp[Cm,Bt,h00]);go_upto_region 21 with(fail)
    iterate 2 go_step
    refine Ah 45 (.tmp 3) rfl _ _ (Aj.new _ _ _) rfl _ Tryz.underlying45 rfl (by kernel_rfl) ?_;go_wp2_with (go_at_call 160;(with_reducible refine(C9 _ _ _ _ _ _ _ _ _ _ _ _ _ _ _ _ _ _ _ _ _ _ _ _ _ _ _ _ _ _).mono ?_);rintro e w5 ⟨rfl,hb5⟩);go_ret;refine⟨?_,Hbw.out.trans (((Aa _ _).trans (hb5.mono (by simp))).mono Hbw.out.size)⟩;rw[HE.out];simp only[HZ1.out,F6];rfl
  have tk5:(k==5)=false:=by simpa using e5
  by_cases e2:k=2
  . subst e2;have HE:=qz (show S=(!Bt ⟨#[]⟩ dst n had Z1 has Z2 l.length)from by rw[<-HS.out];simp[Cm,Bt,h00]);go_upto_region 21 with(fail)
    iterate 2 go_step
    refine Ah 45 (.tmp 3) rfl _ _ (Aj.new _ _ _) rfl _ Tryz.underlying45 rfl (by kernel_rfl) ?_;go_wp2_with (go_at_call 160;(with_reducible refine(C9 _ _ _ _ _ _ _ _ _ _ _ _ _ _ _ _ _ _ _ _ _ _ _ _ _ _ _ _ _ _).mono ?_);rintro e w5 ⟨rfl,hb5⟩);go_ret;refine⟨?_,Hbw.out.trans (((Aa _ _).trans (hb5.mono (by simp))).mono Hbw.out.size)⟩;rw[HE.out];simp only[HZ1.out,HZ2.out];rfl
  have tk2:(k==2)=false:=by simpa using e2
  by_cases e3:k=3
  . subst e3;have HE:=qz (show S=(!Bt ⟨#[]⟩ dst 0 had Z1 has Z2 l.length)from by rw[<-HS.out];simp[Cm,Bt,h00]);go_upto_region 21 with(fail)
    iterate 2 go_step
    refine Ah 45 (.tmp 3) rfl _ _ (Aj.new _ _ _) rfl _ Tryz.underlying45 rfl (by kernel_rfl) ?_;go_wp2_with (go_at_call 160;(with_reducible refine(C9 _ _ _ _ _ _ _ _ _ _ _ _ _ _ _ _ _ _ _ _ _ _ _ _ _ _ _ _ _ _).mono ?_);rintro e w5 ⟨rfl,hb5⟩);go_ret;refine⟨?_,Hbw.out.trans (((Aa _ _).trans (hb5.mono (by simp))).mono Hbw.out.size)⟩;rw[HE.out];simp only[HZ1.out,HZ2.out];rfl
  have tk3:(k==3)=false:=by simpa using e3
  by_cases e4:k=4
  . subst e4;by_cases e9:(!has&& !Z2)=true
    . have hE:S=true:=by rw[<-HS.out];simp[Cm,h00,e9]
      have HE:=qz hE;clear hE;obtain⟨rfl,rfl⟩:has=false/\Z2=false:=by simpa using e9
      go_wp2_with (fail);(with_reducible refine(H2.out _).mono ?_);rintro e w2 ⟨rfl,hb2⟩;go_wp2;go_ret;exact⟨by rw[HE.out];rfl,Hbw.out.trans (((Aa _ _).trans (hb2.mono (by simp))).mono Hbw.out.size)⟩
    have HE:=qz (show S=(!Bt ⟨#[]⟩ dst n false true false true l.length)from by rw[<-HS.out];simp[Cm,Bt,h00,e9])
    cases has with
    |true=>
     go_upto_region 21 with(fail)
     iterate 2 go_step
     refine Ah 45 (.tmp 3) rfl _ _ (Aj.new _ _ _) rfl _ Tryz.underlying45 rfl (by kernel_rfl) ?_;go_wp2_with (go_at_call 160;(with_reducible refine(C9 _ _ _ _ _ _ _ _ _ _ _ _ _ _ _ _ _ _ _ _ _ _ _ _ _ _ _ _ _ _).mono ?_);rintro e w5 ⟨rfl,hb5⟩);go_ret;refine⟨?_,Hbw.out.trans (((Aa _ _).trans (hb5.mono (by simp))).mono Hbw.out.size)⟩;rw[HE.out];simp only[F6];rfl
    |false=>
     obtain rfl:Z2=true:=by simpa using e9
     go_wp2_with (fail);(with_reducible refine(H2.out _).mono ?_);rintro e w2 ⟨rfl,hb2⟩;have hlt2:wc.heap.size<w2.heap.size:=by(have:=hb2.size;simp at this;omega)
     have Hx2:=qz ((Aj.new wc 45 #[.int .i64 4,.string key,.string dst,.int .i64 n,.bool had,.int .i64 k1,.bool b1,.int .i64 n1,.string t1,.slice la1 l1.length lc1,.slice oa1 o1.length oc1,.bool false,.int .i64 k2,.bool b2,.int .i64 n2,.string t2,.slice la2 l2.length lc2,.slice oa2 o2.length oc2,.slice a l.length c]).below hb2 (Aj.lt (Aj.new _ _ _)));have Hbw2:=qz (Hbw.out.trans (((Aa _ _).trans (hb2.mono (by simp))).mono Hbw.out.size));have hle:=Hbw.out.size;clear y0 y1 y2 y3 y4 y5 y6 y7 y8 y9 y10 y11 y12 y13 y14 y15 y16 y17 y18;go_upto_region 16 with(fail)
     iterate 11 go_step
     refine Ev 9 (.tmp 42) _ rfl wc.heap.size 1 Hx2.out (.string ⟨#[]⟩) rfl rfl (Nat.le_of_ble_eq_true rfl) (by kernel_rfl) (by simp[Value.cells,Value.oneCell']) Hbw2.out hle ?_;intro v0 hxv0 hbv0;simp only[Ie,Value.cells,tk4,tk6]at hxv0
     iterate 5 go_step
     refine Ev 4 (.tmp 43) _ rfl wc.heap.size 4 hxv0 (.bool false) rfl rfl (Nat.le_of_ble_eq_true rfl) (by kernel_rfl) (by simp[Value.cells,Value.oneCell']) hbv0 hle ?_;intro v1 hxv1 hbv1;simp only[Ie,Value.cells,tk4,tk6]at hxv1
     iterate 5 go_step
     refine Ev 42 (.tmp 44) _ rfl wc.heap.size 5 hxv1 (.agg #[.int .i64 0,.bool false,.int .i64 0,.string ⟨#[]⟩,.slice none 0 0,.slice none 0 0]) rfl rfl (Nat.le_of_ble_eq_true rfl) (by kernel_rfl) (by simp[Value.cells,Value.oneCell']) hbv1 hle ?_;intro v2 hxv2 hbv2;simp only[Ie,Value.cells,tk4,tk6]at hxv2
     iterate 5 go_step
     refine Ev 4 (.tmp 45) _ rfl wc.heap.size 11 hxv2 (.bool false) rfl rfl (Nat.le_of_ble_eq_true rfl) (by kernel_rfl) (by simp[Value.cells,Value.oneCell']) hbv2 hle ?_;intro v3 hxv3 hbv3;simp only[Ie,Value.cells,tk4,tk6]at hxv3
     iterate 5 go_step
     refine Ev 42 (.tmp 46) _ rfl wc.heap.size 12 hxv3 (.agg #[.int .i64 0,.bool false,.int .i64 0,.string ⟨#[]⟩,.slice none 0 0,.slice none 0 0]) rfl rfl (Nat.le_of_ble_eq_true rfl) (by kernel_rfl) (by simp[Value.cells,Value.oneCell']) hbv3 hle ?_;intro v4 hxv4 hbv4;simp only[Ie,Value.cells,tk4,tk6]at hxv4;have Hx9:Hid (Aj v4 wc.heap.size 45 #[.int .i64 4,.string ⟨#[]⟩,.string dst,.int .i64 n,.bool false,.int .i64 0,.bool false,.int .i64 0,.string ⟨#[]⟩,.slice none 0 0,.slice none 0 0,.bool false,.int .i64 0,.bool false,.int .i64 0,.string ⟨#[]⟩,.slice none 0 0,.slice none 0 0,.slice a l.length c]):=hxv4;have Hbv4:=qz hbv4;clear hbv4;clear hxv0 hxv1 hxv2 hxv3 hxv4 hbv0 hbv1 hbv2 hbv3;go_upto_region 21 with(fail)
     iterate 2 go_step
     refine Ah 45 (.tmp 3) rfl wc.heap.size _ Hx9.out rfl _ Tryz.underlying45 rfl (by kernel_rfl) ?_;go_wp2_with (go_at_call 160;(with_reducible refine(C9 _ _ _ _ _ _ _ _ _ _ _ _ _ _ _ _ _ _ _ _ _ _ _ _ _ _ _ _ _ _).mono ?_);rintro e w5 ⟨rfl,hb5⟩);go_ret;refine⟨?_,Hbv4.out.trans (hb5.mono Hbv4.out.size)⟩;rw[HE.out];simp only[F6];rfl
  have tk4:(k==4)=false:=by simpa using e4
  by_cases e6:k=6
  . subst e6;have HE:=qz (show S=(!Bt ⟨#[]⟩ ⟨#[]⟩ n had Z1 has Z2 l.length)from by rw[<-HS.out];simp[Cm,Bt,h00]);go_upto_region 21 with(fail)
    iterate 2 go_step
    refine Ah 45 (.tmp 3) rfl _ _ (Aj.new _ _ _) rfl _ Tryz.underlying45 rfl (by kernel_rfl) ?_;go_wp2_with (go_at_call 160;(with_reducible refine(C9 _ _ _ _ _ _ _ _ _ _ _ _ _ _ _ _ _ _ _ _ _ _ _ _ _ _ _ _ _ _).mono ?_);rintro e w5 ⟨rfl,hb5⟩);go_ret;refine⟨?_,Hbw.out.trans (((Aa _ _).trans (hb5.mono (by simp))).mono Hbw.out.size)⟩;rw[HE.out];simp only[HZ1.out,HZ2.out];rfl
  have tk6:(k==6)=false:=by simpa using e6
  by_cases e7:k=7
  . subst e7;have HE:=qz (show S=(!Bt ⟨#[]⟩ dst n false true has Z2 0)from by rw[<-HS.out];simp[Cm,Bt,h00]);go_upto_region 21 with(fail)
    iterate 2 go_step
    refine Ah 45 (.tmp 3) rfl _ _ (Aj.new _ _ _) rfl _ Tryz.underlying45 rfl (by kernel_rfl) ?_;go_wp2_with (go_at_call 160;(with_reducible refine(C9 _ _ _ _ _ _ _ _ _ _ _ _ _ _ _ _ _ _ _ _ _ _ _ _ _ _ _ _ _ _).mono ?_);rintro e w5 ⟨rfl,hb5⟩);go_ret;refine⟨?_,Hbw.out.trans (((Aa _ _).trans (hb5.mono (by simp))).mono Hbw.out.size)⟩;rw[HE.out];simp only[HZ2.out,F6];rfl
  have tk7:(k==7)=false:=by simpa using e7
  have HE:=qz (show S=true from by rw[<-HS.out];simp[Cm,h00,e1,e2,e3,e4,e5,e6,e7]);go_wp2;go_ret;exact⟨by rw[HE.out];rfl,Hbw.out.trans ((Aa _ _).mono Hbw.out.size)⟩
end Go.Proofs.YtobmaegpfbheoaaGreatDoor
