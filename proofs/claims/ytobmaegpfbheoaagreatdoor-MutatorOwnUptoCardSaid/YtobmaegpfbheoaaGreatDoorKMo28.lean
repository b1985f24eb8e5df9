/- Parts: The reference's word on a mutator's fields: zero, short, key, bare. Condition: values of a bulk of at most 10^8. -/
import Derived.Handy
import Derived.Test.YtobmaegpfbheoaaGreatDoorKMo23
import Derived.Test.YtobmaegpfbheoaaGreatDoorKMo26
set_option maxHeartbeats 20000000
set_option maxRecDepth 100000
namespace Go.Proofs.YtobmaegpfbheoaaGreatDoor
open Go.RowKit
theorem T0 (a:Addr) (s:ByteArray) (B:Bool) (w:World) (hc:w.cell? a=some (.string s)) (h:s.toList.isEmpty=B):Calls Tryz.prog 233 #[.pointer (some a)] w fun e w'=>e=.returned (.bool B)/\w=w':=by
 subst h;go_enter Tryz.func233,Tryz.ntmps233;go_wp2;go_ret;exact⟨rfl,rfl⟩
theorem T1 (a:Addr) (s:ByteArray) (B:Bool) (w:World) (hc:w.cell? a=some (.string s)) (h:decide (64<(s.size:Int))=B):Calls Tryz.prog 234 #[.pointer (some a)] w fun e w'=>e=.returned (.bool B)/\w=w':=by
 subst h;go_enter Tryz.func234,Tryz.ntmps234;go_wp2;go_ret;exact⟨rfl,rfl⟩
theorem T2 (a:Addr) (s:ByteArray) (B:Bool) (w:World) (hc:w.cell? a=some (.string s)) (h:Az s=B) (hs:s.size<=9223372036854775807) (hT:Cl w):Calls Tryz.prog 235 #[.pointer (some a)] w fun e w'=>e=.returned (.bool (!B))/\Below w.heap.size w w':=by
 have HU:=qz (Bw h w hs hT);clear h hT;go_enter Tryz.func235,Tryz.ntmps235;go_wp2_with (go_at_call 150;refine HU.out.mono ?_;rintro e w1 ⟨rfl,hb1⟩);go_ret;exact⟨rfl,hb1⟩
abbrev Zm (g:Nat):Array Value:= #[.int .i64 8,.func (.func 233) #[] #[.pointer (some ⟨g,0,none⟩)],.int .i64 6,.func (.func 234) #[] #[.pointer (some ⟨g,0,none⟩)],.int .i64 3,.func (.func 235) #[] #[.pointer (some ⟨g,0,none⟩)]]
theorem T3 (s:ByteArray) (w:World):Calls Tryz.prog 208 #[.string s] w fun e w'=>e=.returned (.slice (some ⟨w.heap.size+1,0,none⟩) 3 3)/\w'=(w.alloc (.cells #[.string s] 9)).alloc (.cells (Zm w.heap.size) 263):=by
 go_enter Tryz.func208,Tryz.ntmps208;go_wp2;go_ret;exact⟨rfl,rfl⟩
theorem To (s:ByteArray) (w:World) (hT:Cl w) (hs:s.size<=9223372036854775807):Calls Tryz.prog 162 #[.string s] w fun e w'=>e=.returned (.int .i64 (Rh s))/\Below w.heap.size w w':=by
 obtain⟨b1,hb1⟩: ∃b,s.toList.isEmpty=b:=⟨_,rfl⟩;obtain⟨b2,hb2⟩: ∃b,decide (64<(s.size:Int))=b:=⟨_,rfl⟩;obtain⟨b3,hb3⟩: ∃b,Az s=b:=⟨_,rfl⟩;have hE:Rh s=if b1 then 8 else if b2 then 6 else if b3 then 0 else 3:=by
  unfold Rh;rw[hb1,hb3,<-hb2];by_cases h:64<s.size
  . have h':64<(s.size:Int):=by omega
    simp[h,h']
  . have h': ¬64<(s.size:Int):=by omega
    simp[h,h']
 have H1:=qz (fun W (hc:Aj W w.heap.size 9 #[.string s])=>T0 ⟨w.heap.size,0,none⟩ s b1 W (hc.cell 0) hb1);have H2:=qz (fun W (hc:Aj W w.heap.size 9 #[.string s])=>T1 ⟨w.heap.size,0,none⟩ s b2 W (hc.cell 0) hb2);have H3:=qz (fun W (hc:Aj W w.heap.size 9 #[.string s]) hB=>T2 ⟨w.heap.size,0,none⟩ s b3 W (hc.cell 0) hb3 hs (hT.below hB));have HE:=qz hE;clear hE;clear hb1 hb2 hb3 hT;go_enter Tryz.func162,Tryz.ntmps162;go_wp2_with (fail);(with_reducible refine(T3 s _).mono ?_);rintro e w1 ⟨rfl,rfl⟩;go_wp2_with (fail);refine wp_loop_rounds 4 ?_
 cases b1 with
 |true=>
  rw[rounds_succ];go_wp2_with (go_at_call 233;refine(H1.out _ ?_).mono ?_;(repeat (first|exact Aj.new _ _ _|refine Aj.alloc ?_ _));rintro e w2 ⟨rfl,rfl⟩);go_ret;exact⟨by rw[HE.out];rfl,by go_grown⟩
 |false=>
  rw[rounds_succ];go_wp2_with (go_at_call 233;refine(H1.out _ ?_).mono ?_;(repeat (first|exact Aj.new _ _ _|refine Aj.alloc ?_ _));rintro e w2 ⟨rfl,rfl⟩);rw[rounds_succ]
  cases b2 with
  |true=>
   go_wp2_with (go_at_call 234;refine(H2.out _ ?_).mono ?_;(repeat (first|exact Aj.new _ _ _|refine Aj.alloc ?_ _));rintro e w2 ⟨rfl,rfl⟩);go_ret;exact⟨by rw[HE.out];rfl,by go_grown⟩
  |false=>
   go_wp2_with (go_at_call 234;refine(H2.out _ ?_).mono ?_;(repeat (first|exact Aj.new _ _ _|refine Aj.alloc ?_ _));rintro e w2 ⟨rfl,rfl⟩);rw[rounds_succ]
   cases b3 with
   |false=>
    go_wp2_with (go_at_call 235;refine(H3.out _ ?_ ?_).mono ?_;(repeat (first|exact Aj.new _ _ _|refine Aj.alloc ?_ _));(go_grown);rintro e w2 ⟨rfl,hb2⟩;obtain⟨hc2,hf2⟩:=Hz hb2);go_ret;exact⟨by rw[HE.out];rfl,((((Aa _ _).alloc (by simp) _).alloc (by simp;omega) _).alloc (by simp;omega) _).alloc (by simp;omega) _ |>.trans (hb2.mono (by simp;omega))⟩
   |true=>
    go_wp2_with (go_at_call 235;refine(H3.out _ ?_ ?_).mono ?_;(repeat (first|exact Aj.new _ _ _|refine Aj.alloc ?_ _));(go_grown);rintro e w2 ⟨rfl,hb2⟩;obtain⟨hc2,hf2⟩:=Hz hb2);rw[rounds_succ];go_wp2;go_ret;exact⟨by rw[HE.out];rfl,((((Aa _ _).alloc (by simp) _).alloc (by simp;omega) _).alloc (by simp;omega) _).alloc (by simp;omega) _ |>.trans (hb2.mono (by simp;omega))⟩
theorem L0 (s:ByteArray) (w:World) (hT:Cl w) (hs:s.size<=1000000000):Calls Tryz.prog 161 #[.string s] w fun e w'=>e=.returned (.bool (Ee s))/\Below w.heap.size w w':=by
 obtain⟨B,hB⟩: ∃B,Az s=B:=⟨_,rfl⟩;have hC:=fun(W:World) hT=>Bw hB W (by omega) hT;by_cases h1:s.size<=64
 . have hE:Ee s=B:=by unfold Ee;rw[hB];simp[h1]
   have t1:(s.size:Int)<=64:=by omega
   obtain⟨HC,HE,HT⟩:=hid3 hC hE hT;clear hC hE hT;clear h1;go_enter Tryz.func161,Tryz.ntmps161;go_wp2_with (go_at_call 150;(with_reducible refine(HC.out _ HT.out).mono ?_);rintro e w2 ⟨rfl,hb2⟩);go_ret;exact⟨by rw[HE.out];rfl,hb2⟩
 . have hE:Ee s=false:=by unfold Ee;simp[h1]
   have t1:(64:Int)<(s.size:Int):=by omega
   have HE:=qz hE;clear hE;clear h1 hC;go_enter Tryz.func161,Tryz.ntmps161;go_wp2;go_ret;exact⟨by rw[HE.out];rfl,Below.refl _ _⟩
theorem Sj (s:ByteArray):s.toList.isEmpty=decide (s=⟨#[]⟩):=by
 rw[Bool.eq_iff_iff,List.isEmpty_iff,decide_eq_true_eq,Lib.toList_data];constructor
 . intro h;exact ByteArray.ext (Array.ext' h)
 . rintro rfl;rfl
theorem Yo (k:Int) (key dst:ByteArray) (had:Bool) (y3 y5 y6 y7 y8 y9 y10 y11 y12 y13 y14 y15 y16 y17 y18:Value) (w:World) (hT:Cl w) (h1:key.size<=1000000000) (h2:dst.size<=1000000000):
 Calls Tryz.prog 117 #[.agg #[.int .i64 k,.string key,.string dst,y3,.bool had,y5,y6,y7,y8,y9,y10,y11,y12,y13,y14,y15,y16,y17,y18]] w fun e w'=>e=.returned (.bool (Dq k key dst had))/\Below w.heap.size w w':=by
 have hb0:=Aa w (.cells #[.int .i64 k,.string key,.string dst,y3,.bool had,y5,y6,y7,y8,y9,y10,y11,y12,y13,y14,y15,y16,y17,y18] 45);have hT1:=hT.below hb0;by_cases e6:k=6
 . subst e6;have hE:Dq 6 key dst had=(Ee key&&Ee dst):=by unfold Dq;rw[if_pos rfl]
   have hC:=fun(W:World) hT=>L0 key W hT h1;have hD:=fun(W:World) hT=>L0 dst W hT h2;have Hxb:=qz (Aj.new w 45 #[.int .i64 6,.string key,.string dst,y3,.bool had,y5,y6,y7,y8,y9,y10,y11,y12,y13,y14,y15,y16,y17,y18]);rw[hE];generalize Ee key=B at hC ⊢;generalize Ee dst=B' at hD ⊢;obtain⟨HC,HD,HT1,Hb0⟩:=hid4 hC hD hT1 hb0;clear hC hD hT1 hb0;clear hE hT
   cases B with
   |false=>
    go_enter Tryz.func117,Tryz.ntmps117;go_wp2_with (go_at_call 161;(with_reducible refine(HC.out _ HT1.out).mono ?_);rintro e w2 ⟨rfl,hb2⟩);go_ret;exact⟨rfl,Hb0.out.trans (hb2.mono Hb0.out.size)⟩
   |true=>
    go_enter Tryz.func117,Tryz.ntmps117;go_wp2_with (fail);(with_reducible refine(HC.out _ HT1.out).mono ?_);rintro e w2 ⟨rfl,hb2⟩;obtain⟨hc2,hg2⟩:=A8 hb2;have hlt:=Hxb.out.lt;have hT2:=HT1.out.below hb2;go_wp2_with (fail);(with_reducible refine(HD.out _ hT2).mono ?_);rintro e w3 ⟨rfl,hb3⟩;go_wp2;go_ret;exact⟨by simp,(Hb0.out.trans (hb2.mono Hb0.out.size)).trans (hb3.mono (Nat.le_trans Hb0.out.size hb2.size))⟩
 by_cases e7:k=7/\key.toList.isEmpty=true
 . obtain⟨rfl,hk⟩:=e7;have hE:Dq 7 key dst had= !had:=by unfold Dq;rw[if_neg (by omega),if_pos ⟨rfl,hk⟩]
   rw[Sj,decide_eq_true_eq]at hk;subst hk;rw[hE];have Hb0:=qz hb0;clear hb0;clear hE hT hT1;go_enter Tryz.func117,Tryz.ntmps117;go_wp2;go_ret;exact⟨rfl,Hb0.out⟩
 have hE:Dq k key dst had=decide (Rh key=0):=by
  unfold Dq;rw[if_neg e6,if_neg e7,Bool.eq_iff_iff,decide_eq_true_eq,U0]
 have hC:=fun(W:World) hT=>To key W hT (by omega);have t6:(k==6)=false:=by simpa using e6
 have hxb:=Aj.new w 45 #[.int .i64 k,.string key,.string dst,y3,.bool had,y5,y6,y7,y8,y9,y10,y11,y12,y13,y14,y15,y16,y17,y18];rw[hE];generalize Rh key=X at hC ⊢;by_cases k7:k=7
 . subst k7;have t8:key.toList.isEmpty=false:=by cases e:key.toList.isEmpty;rfl;exact absurd ⟨rfl,e⟩ e7
   obtain⟨HC,HT1,Hb0,Hxb⟩:=hid4 hC hT1 hb0 hxb;clear hC hT1 hb0 hxb;clear hE hT e6 e7;go_enter Tryz.func117,Tryz.ntmps117;go_wp2_with (go_at_call 162;(with_reducible refine(HC.out _ HT1.out).mono ?_);rintro e w2 ⟨rfl,hb2⟩);go_ret;exact⟨by simp[Ox],Hb0.out.trans (hb2.mono Hb0.out.size)⟩
 . have t7:(k==7)=false:=by simpa using k7
   obtain⟨HC,HT1,Hb0,Hxb⟩:=hid4 hC hT1 hb0 hxb;clear hC hT1 hb0 hxb;clear hE hT e6 e7 k7;go_enter Tryz.func117,Tryz.ntmps117;go_wp2_with (go_at_call 162;(with_reducible refine(HC.out _ HT1.out).mono ?_);rintro e w2 ⟨rfl,hb2⟩);go_ret;exact⟨by simp[Ox],Hb0.out.trans (hb2.mono Hb0.out.size)⟩
def Cd (key dst:ByteArray) (n:Int) (had z1 has z2:Bool) (ln:Nat):Bool:=key.toList.isEmpty&&dst.toList.isEmpty&&decide (n=0)&& !had&&z1&& !has&&z2&&decide (ln=0)
theorem E4 (k:Int) (key dst:ByteArray) (n:Int) (had:Bool) (k1:Int) (b1:Bool) (n1:Int) (t1:ByteArray) (la1 oa1:Option Addr) (p1 lc1 q1 oc1:Nat) (has:Bool) (k2:Int) (b2:Bool) (n2:Int) (t2:ByteArray) (la2 oa2:Option Addr) (p2 lc2 q2 oc2:Nat) (a:Option Addr) (ln c:Nat) (w:World):
 Calls Tryz.prog 160 #[.agg #[.int .i64 k,.string key,.string dst,.int .i64 n,.bool had,.int .i64 k1,.bool b1,.int .i64 n1,.string t1,.slice la1 p1 lc1,.slice oa1 q1 oc1,.bool has,.int .i64 k2,.bool b2,.int .i64 n2,.string t2,.slice la2 p2 lc2,.slice oa2 q2 oc2,.slice a ln c]] w fun e w'=>
  e=.returned (.bool (Cd key dst n had (G4 k1 b1 n1 t1 p1 q1) has (G4 k2 b2 n2 t2 p2 q2) ln))/\Below w.heap.size w w':=by
 have h1:=fun W=>Km k1 b1 n1 t1 la1 oa1 p1 lc1 q1 oc1 _ W rfl;have h2:=fun W=>Km k2 b2 n2 t2 la2 oa2 p2 lc2 q2 oc2 _ W rfl;generalize G4 k1 b1 n1 t1 p1 q1=Z1 at h1 ⊢;generalize G4 k2 b2 n2 t2 p2 q2=Z2 at h2 ⊢;by_cases c0:key.toList.isEmpty=true;rotate_left
 . have u0:key.toList.isEmpty=false:=by simpa using c0
   have hE:Cd key dst n had Z1 has Z2 ln=false:=by simp[Cd,c0]
   rw[hE];obtain⟨H1,H2⟩:=hid2 h1 h2;clear h1 h2;clear hE;go_enter Tryz.func160,Tryz.ntmps160;go_wp2;go_ret;exact⟨rfl,Aa _ _⟩
 by_cases c1:dst.toList.isEmpty=true;rotate_left
 . have u1:dst.toList.isEmpty=false:=by simpa using c1
   have hE:Cd key dst n had Z1 has Z2 ln=false:=by simp[Cd,c0,c1]
   rw[hE];obtain⟨H1,H2⟩:=hid2 h1 h2;clear h1 h2;clear hE;go_enter Tryz.func160,Tryz.ntmps160;go_wp2;go_ret;exact⟨rfl,Aa _ _⟩
 by_cases c2:n=0;rotate_left
 . have u2:(n==0)=false:=by simpa using c2
   have hE:Cd key dst n had Z1 has Z2 ln=false:=by simp[Cd,c0,c1,c2]
   rw[hE];obtain⟨H1,H2⟩:=hid2 h1 h2;clear h1 h2;clear hE;go_enter Tryz.func160,Tryz.ntmps160;go_wp2;go_ret;exact⟨rfl,Aa _ _⟩
 subst c2;by_cases c3:had=false;rotate_left
 . have u3:had=true:=by simpa using c3
   subst u3;have hE:Cd key dst 0 true Z1 has Z2 ln=false:=by simp[Cd]
   rw[hE];obtain⟨H1,H2⟩:=hid2 h1 h2;clear h1 h2;clear hE;go_enter Tryz.func160,Tryz.ntmps160;go_wp2;go_ret;exact⟨rfl,Aa _ _⟩
 subst c3;by_cases c4:Z1=true;rotate_left
 . have u4:Z1=false:=by simpa using c4
   subst u4;have hE:Cd key dst 0 false false has Z2 ln=false:=by simp[Cd]
   rw[hE];obtain⟨H1,H2⟩:=hid2 h1 h2;clear h1 h2;clear hE;go_enter Tryz.func160,Tryz.ntmps160;go_wp2_with (fail);(with_reducible refine(H1.out _).mono ?_);rintro e w2 ⟨rfl,hb2⟩;have hlt2:w.heap.size<w2.heap.size:=by(have:=hb2.size;simp at this;omega)
   obtain⟨hc2,hg2⟩:=A8 hb2;go_wp2;go_ret;exact⟨rfl,(Aa _ _).trans (hb2.mono (by simp))⟩
 subst c4;by_cases c5:has=false;rotate_left
 . have u5:has=true:=by simpa using c5
   subst u5;have hE:Cd key dst 0 false true true Z2 ln=false:=by simp[Cd]
   rw[hE];obtain⟨H1,H2⟩:=hid2 h1 h2;clear h1 h2;clear hE;go_enter Tryz.func160,Tryz.ntmps160;go_wp2_with (fail);(with_reducible refine(H1.out _).mono ?_);rintro e w2 ⟨rfl,hb2⟩;have hlt2:w.heap.size<w2.heap.size:=by(have:=hb2.size;simp at this;omega)
   obtain⟨hc2,hg2⟩:=A8 hb2;go_wp2;go_ret;exact⟨rfl,(Aa _ _).trans (hb2.mono (by simp))⟩
 subst c5;by_cases c6:Z2=true;rotate_left
 . have u6:Z2=false:=by simpa using c6
   subst u6;have hE:Cd key dst 0 false true false false ln=false:=by simp[Cd]
   rw[hE];obtain⟨H1,H2⟩:=hid2 h1 h2;clear h1 h2;clear hE;go_enter Tryz.func160,Tryz.ntmps160;go_wp2_with (fail);(with_reducible refine(H1.out _).mono ?_);rintro e w2 ⟨rfl,hb2⟩;have hlt2:w.heap.size<w2.heap.size:=by(have:=hb2.size;simp at this;omega)
   obtain⟨hc2,hg2⟩:=A8 hb2;go_wp2_with (fail);(with_reducible refine(H2.out _).mono ?_);rintro e w3 ⟨rfl,hb3⟩;obtain⟨hc3,hg3⟩:=A8 hb3;go_wp2;go_ret;exact⟨rfl,((Aa _ _).trans (hb2.mono (by simp))).trans (hb3.mono (by omega))⟩
 subst c6;by_cases c7:ln=0;rotate_left
 . have u7:((ln:Int)==0)=false:=by simpa using c7
   have hE:Cd key dst 0 false true false true ln=false:=by simp[Cd,c7]
   rw[hE];obtain⟨H1,H2⟩:=hid2 h1 h2;clear h1 h2;clear hE;go_enter Tryz.func160,Tryz.ntmps160;go_wp2_with (fail);(with_reducible refine(H1.out _).mono ?_);rintro e w2 ⟨rfl,hb2⟩;have hlt2:w.heap.size<w2.heap.size:=by(have:=hb2.size;simp at this;omega)
   obtain⟨hc2,hg2⟩:=A8 hb2;go_wp2_with (fail);(with_reducible refine(H2.out _).mono ?_);rintro e w3 ⟨rfl,hb3⟩;obtain⟨hc3,hg3⟩:=A8 hb3;go_wp2;go_ret;exact⟨rfl,((Aa _ _).trans (hb2.mono (by simp))).trans (hb3.mono (by omega))⟩
 subst c7;have hE:Cd key dst 0 false true false true 0=true:=by simp[Cd,c0,c1]
 rw[hE];obtain⟨H1,H2⟩:=hid2 h1 h2;clear h1 h2;clear hE;go_enter Tryz.func160,Tryz.ntmps160;go_wp2_with (fail);(with_reducible refine(H1.out _).mono ?_);rintro e w2 ⟨rfl,hb2⟩;have hlt2:w.heap.size<w2.heap.size:=by(have:=hb2.size;simp at this;omega)
 obtain⟨hc2,hg2⟩:=A8 hb2;go_wp2_with (fail);(with_reducible refine(H2.out _).mono ?_);rintro e w3 ⟨rfl,hb3⟩;obtain⟨hc3,hg3⟩:=A8 hb3;go_wp2;go_ret;exact⟨rfl,((Aa _ _).trans (hb2.mono (by simp))).trans (hb3.mono (by omega))⟩
theorem Kf:G4 0 false 0 ⟨#[]⟩ 0 0=true:=by simp[G4,Lib.toList_data]
theorem Ss (k:Int) (key dst:ByteArray) (n:Int) (had:Bool) (k1:Int) (b1:Bool) (n1:Int) (t1:ByteArray) (l1:List Val) (o1:List (ByteArray×Val)) (has:Bool) (k2:Int) (b2:Bool) (n2:Int) (t2:ByteArray) (l2:List Val) (o2:List (ByteArray×Val)) (l:List Mut) (la1:Option Addr) (lc1:Nat) (oa1:Option Addr) (oc1:Nat) (la2:Option Addr) (lc2:Nat) (oa2:Option Addr) (oc2:Nat) (a:Option Addr) (c:Nat) (w:World):
 Calls Tryz.prog 116 #[.agg #[.int .i64 k,.string key,.string dst,.int .i64 n,.bool had,.int .i64 k1,.bool b1,.int .i64 n1,.string t1,.slice la1 l1.length lc1,.slice oa1 o1.length oc1,.bool has,.int .i64 k2,.bool b2,.int .i64 n2,.string t2,.slice la2 l2.length lc2,.slice oa2 o2.length oc2,.slice a l.length c]] w fun e w'=>e=.returned (.bool (D9 k dst n had (Es (.mk k1 b1 n1 t1 l1 o1)) has (Es (.mk k2 b2 n2 t2 l2 o2)) l.length))/\Below w.heap.size w w':=by
 have q1:Es (.mk k1 b1 n1 t1 l1 o1)=G4 k1 b1 n1 t1 l1.length o1.length:=rfl;have q2:Es (.mk k2 b2 n2 t2 l2 o2)=G4 k2 b2 n2 t2 l2.length o2.length:=rfl;rw[q1,q2];clear q1 q2;obtain⟨Z1,hZ1⟩: ∃Z,G4 k1 b1 n1 t1 l1.length o1.length=Z:=⟨_,rfl⟩;obtain⟨Z2,hZ2⟩: ∃Z,G4 k2 b2 n2 t2 l2.length o2.length=Z:=⟨_,rfl⟩;have H1:=qz (fun W=>Km k1 b1 n1 t1 la1 oa1 l1.length lc1 o1.length oc1 Z1 W hZ1);have H2:=qz (fun W=>Km k2 b2 n2 t2 la2 oa2 l2.length lc2 o2.length oc2 Z2 W hZ2);rw[hZ1,hZ2];obtain⟨S,hS⟩: ∃S,D9 k dst n had Z1 has Z2 l.length=S:=⟨_,rfl⟩;rw[hS];obtain⟨wi,hwi⟩: ∃wi,w.alloc (.cells #[.int .i64 k,.string key,.string dst,.int .i64 n,.bool had,.int .i64 k1,.bool b1,.int .i64 n1,.string t1,.slice la1 l1.length lc1,.slice oa1 o1.length oc1,.bool has,.int .i64 k2,.bool b2,.int .i64 n2,.string t2,.slice la2 l2.length lc2,.slice oa2 o2.length oc2,.slice a l.length c] 45)=wi:=⟨_,rfl⟩;have Hbi:Hid (Below w.heap.size w wi):=hwi▸Aa _ _;have hxb:Aj wi w.heap.size 45 #[.int .i64 k,.string key,.string dst,.int .i64 n,.bool had,.int .i64 k1,.bool b1,.int .i64 n1,.string t1,.slice la1 l1.length lc1,.slice oa1 o1.length oc1,.bool has,.int .i64 k2,.bool b2,.int .i64 n2,.string t2,.slice la2 l2.length lc2,.slice oa2 o2.length oc2,.slice a l.length c]:=hwi▸Aj.new _ _ _;have hgb:=hxb.lt;obtain⟨y0,y1,y2,y3,y4,y5,y6,y7,y8,y9,y10,y11,y12,y13,y14,y15,y16,y17,y18⟩:=Gr hxb;obtain⟨Hxb,HZ1,HZ2,HS⟩:=hid4 hxb hZ1 hZ2 hS;clear hxb hZ1 hZ2 hS;go_enter Tryz.func116,Tryz.ntmps116;go_upto_region 1 with(fail);clear hwi;go_cut [12] (fun s wx=>s=.bool (!had&& !Z1)/\Hid (Below wi.heap.size wi wx))
 case first=>
  cases had with
  |true=>
   go_wp2;go_meet;exact⟨rfl,Below.refl _ _⟩
  |false=>
   go_wp2_with (fail);(with_reducible refine(H1.out _).mono ?_);rintro e w2 ⟨rfl,hb2⟩;go_wp2;go_meet;exact⟨by simp,hb2⟩
 case rest=>
  obtain⟨rfl,hbx⟩:=hcut;clear y0 y1 y2 y3 y4 y5 y6 y7 y8 y9 y10 y11 y12 y13 y14 y15 y16 y17 y18;have hxc:=Hxb.out.below hbx.out Hxb.out.lt;have Hbw:=qz (Hbi.out.trans (hbx.out.mono Hbi.out.size));have hgc:=hxc.lt;obtain⟨y0,y1,y2,y3,y4,y5,y6,y7,y8,y9,y10,y11,y12,y13,y14,y15,y16,y17,y18⟩:=Gr hxc;have Hxc:=qz hxc;clear hxc;by_cases h0:(!had&& !Z1)=true
  . have hE:S=true:=by rw[<-HS.out];unfold D9;rw[if_pos h0]
    rw[h0];go_wp2;go_ret;exact⟨by rw[hE];rfl,Hbw.out⟩
  have h00:(!had&& !Z1)=false:=by simpa using h0
  rw[h00];go_upto_region 3 with(fail)
  iterate 2 go_step
  refine Ae 45 (.tmp 1) rfl w.heap.size #[.int .i64 k,.string key,.string dst,.int .i64 n,.bool had,.int .i64 k1,.bool b1,.int .i64 n1,.string t1,.slice la1 l1.length lc1,.slice oa1 o1.length oc1,.bool has,.int .i64 k2,.bool b2,.int .i64 n2,.string t2,.slice la2 l2.length lc2,.slice oa2 o2.length oc2,.slice a l.length c] Hxc.out rfl _ Tryz.underlying45 rfl (by kernel_rfl) ?_
  iterate 5 go_step
  refine Cz 45 (.tmp 3) (.tmp 13) rfl #[.int .i64 k,.string key,.string dst,.int .i64 n,.bool had,.int .i64 k1,.bool b1,.int .i64 n1,.string t1,.slice la1 l1.length lc1,.slice oa1 o1.length oc1,.bool has,.int .i64 k2,.bool b2,.int .i64 n2,.string t2,.slice la2 l2.length lc2,.slice oa2 o2.length oc2,.slice a l.length c] rfl rfl rfl (by kernel_rfl) (by simp[Value.oneCell']) ?_;by_cases e1:k=1
  . subst e1;have HE:=qz (show S=(!Cd ⟨#[]⟩ dst n had Z1 has true l.length)from by rw[<-HS.out];simp[D9,Cd,h00]);go_upto_region 21 with(fail)
    iterate 2 go_step
    refine Ae 45 (.tmp 3) rfl _ _ (Aj.new _ _ _) rfl _ Tryz.underlying45 rfl (by kernel_rfl) ?_;go_wp2_with (go_at_call 160;(with_reducible refine(E4 _ _ _ _ _ _ _ _ _ _ _ _ _ _ _ _ _ _ _ _ _ _ _ _ _ _ _ _ _ _).mono ?_);rintro e w5 ⟨rfl,hb5⟩);go_ret;refine⟨?_,Hbw.out.trans (((Aa _ _).trans (hb5.mono (by simp))).mono Hbw.out.size)⟩;rw[HE.out];simp only[HZ1.out,Kf];rfl
  have tk1:(k==1)=false:=by simpa using e1
  by_cases e5:k=5
  . subst e5;have HE:=qz (show S=(!Cd ⟨#[]⟩ dst n had Z1 has true l.length)from by rw[<-HS.out];simp[D9,Cd,h00]);go_upto_region 21 with(fail)
    iterate 2 go_step
    refine Ae 45 (.tmp 3) rfl _ _ (Aj.new _ _ _) rfl _ Tryz.underlying45 rfl (by kernel_rfl) ?_;go_wp2_with (go_at_call 160;(with_reducible refine(E4 _ _ _ _ _ _ _ _ _ _ _ _ _ _ _ _ _ _ _ _ _ _ _ _ _ _ _ _ _ _).mono ?_);rintro e w5 ⟨rfl,hb5⟩);go_ret;refine⟨?_,Hbw.out.trans (((Aa _ _).trans (hb5.mono (by simp))).mono Hbw.out.size)⟩;rw[HE.out];simp only[HZ1.out,Kf];rfl
  have tk5:(k==5)=false:=by simpa using e5
  by_cases e2:k=2
  . subst e2;have HE:=qz (show S=(!Cd ⟨#[]⟩ dst n had Z1 has Z2 l.length)from by rw[<-HS.out];simp[D9,Cd,h00]);go_upto_region 21 with(fail)
    iterate 2 go_step
    refine Ae 45 (.tmp 3) rfl _ _ (Aj.new _ _ _) rfl _ Tryz.underlying45 rfl (by kernel_rfl) ?_;go_wp2_with (go_at_call 160;(with_reducible refine(E4 _ _ _ _ _ _ _ _ _ _ _ _ _ _ _ _ _ _ _ _ _ _ _ _ _ _ _ _ _ _).mono ?_);rintro e w5 ⟨rfl,hb5⟩);go_ret;refine⟨?_,Hbw.out.trans (((Aa _ _).trans (hb5.mono (by simp))).mono Hbw.out.size)⟩;rw[HE.out];simp only[HZ1.out,HZ2.out];rfl
  have tk2:(k==2)=false:=by simpa using e2
  by_cases e3:k=3
  . subst e3;have HE:=qz (show S=(!Cd ⟨#[]⟩ dst 0 had Z1 has Z2 l.length)from by rw[<-HS.out];simp[D9,Cd,h00]);go_upto_region 21 with(fail)
    iterate 2 go_step
    refine Ae 45 (.tmp 3) rfl _ _ (Aj.new _ _ _) rfl _ Tryz.underlying45 rfl (by kernel_rfl) ?_;go_wp2_with (go_at_call 160;(with_reducible refine(E4 _ _ _ _ _ _ _ _ _ _ _ _ _ _ _ _ _ _ _ _ _ _ _ _ _ _ _ _ _ _).mono ?_);rintro e w5 ⟨rfl,hb5⟩);go_ret;refine⟨?_,Hbw.out.trans (((Aa _ _).trans (hb5.mono (by simp))).mono Hbw.out.size)⟩;rw[HE.out];simp only[HZ1.out,HZ2.out];rfl
  have tk3:(k==3)=false:=by simpa using e3
  by_cases e4:k=4
  . subst e4;by_cases e9:(!has&& !Z2)=true
    . have hE:S=true:=by rw[<-HS.out];simp[D9,h00,e9]
      have HE:=qz hE;clear hE;obtain⟨rfl,rfl⟩:has=false/\Z2=false:=by simpa using e9
      go_wp2_with (fail);(with_reducible refine(H2.out _).mono ?_);rintro e w2 ⟨rfl,hb2⟩;go_wp2;go_ret;exact⟨by rw[HE.out];rfl,Hbw.out.trans (((Aa _ _).trans (hb2.mono (by simp))).mono Hbw.out.size)⟩
    have HE:=qz (show S=(!Cd ⟨#[]⟩ dst n false true false true l.length)from by rw[<-HS.out];simp[D9,Cd,h00,e9])
    cases has with
    |true=>
     go_upto_region 21 with(fail)
     iterate 2 go_step
     refine Ae 45 (.tmp 3) rfl _ _ (Aj.new _ _ _) rfl _ Tryz.underlying45 rfl (by kernel_rfl) ?_;go_wp2_with (go_at_call 160;(with_reducible refine(E4 _ _ _ _ _ _ _ _ _ _ _ _ _ _ _ _ _ _ _ _ _ _ _ _ _ _ _ _ _ _).mono ?_);rintro e w5 ⟨rfl,hb5⟩);go_ret;refine⟨?_,Hbw.out.trans (((Aa _ _).trans (hb5.mono (by simp))).mono Hbw.out.size)⟩;rw[HE.out];simp only[Kf];rfl
    |false=>
     obtain rfl:Z2=true:=by simpa using e9
     go_wp2_with (fail);(with_reducible refine(H2.out _).mono ?_);rintro e w2 ⟨rfl,hb2⟩;have hlt2:wc.heap.size<w2.heap.size:=by(have:=hb2.size;simp at this;omega)
     have Hx2:=qz ((Aj.new wc 45 #[.int .i64 4,.string key,.string dst,.int .i64 n,.bool had,.int .i64 k1,.bool b1,.int .i64 n1,.string t1,.slice la1 l1.length lc1,.slice oa1 o1.length oc1,.bool false,.int .i64 k2,.bool b2,.int .i64 n2,.string t2,.slice la2 l2.length lc2,.slice oa2 o2.length oc2,.slice a l.length c]).below hb2 (Aj.lt (Aj.new _ _ _)));have Hbw2:=qz (Hbw.out.trans (((Aa _ _).trans (hb2.mono (by simp))).mono Hbw.out.size));have hle:=Hbw.out.size;clear y0 y1 y2 y3 y4 y5 y6 y7 y8 y9 y10 y11 y12 y13 y14 y15 y16 y17 y18;go_upto_region 16 with(fail)
     iterate 11 go_step
     refine Ff 9 (.tmp 42) _ rfl wc.heap.size 1 Hx2.out (.string ⟨#[]⟩) rfl rfl (Nat.le_of_ble_eq_true rfl) (by kernel_rfl) (by simp[Value.cells,Value.oneCell']) Hbw2.out hle ?_;intro v0 hxv0 hbv0;simp only[Ei,Value.cells,tk4,tk6]at hxv0
     iterate 5 go_step
     refine Ff 4 (.tmp 43) _ rfl wc.heap.size 4 hxv0 (.bool false) rfl rfl (Nat.le_of_ble_eq_true rfl) (by kernel_rfl) (by simp[Value.cells,Value.oneCell']) hbv0 hle ?_;intro v1 hxv1 hbv1;simp only[Ei,Value.cells,tk4,tk6]at hxv1
     iterate 5 go_step
     refine Ff 42 (.tmp 44) _ rfl wc.heap.size 5 hxv1 (.agg #[.int .i64 0,.bool false,.int .i64 0,.string ⟨#[]⟩,.slice none 0 0,.slice none 0 0]) rfl rfl (Nat.le_of_ble_eq_true rfl) (by kernel_rfl) (by simp[Value.cells,Value.oneCell']) hbv1 hle ?_;intro v2 hxv2 hbv2;simp only[Ei,Value.cells,tk4,tk6]at hxv2
     iterate 5 go_step
     refine Ff 4 (.tmp 45) _ rfl wc.heap.size 11 hxv2 (.bool false) rfl rfl (Nat.le_of_ble_eq_true rfl) (by kernel_rfl) (by simp[Value.cells,Value.oneCell']) hbv2 hle ?_;intro v3 hxv3 hbv3;simp only[Ei,Value.cells,tk4,tk6]at hxv3
     iterate 5 go_step
     refine Ff 42 (.tmp 46) _ rfl wc.heap.size 12 hxv3 (.agg #[.int .i64 0,.bool false,.int .i64 0,.string ⟨#[]⟩,.slice none 0 0,.slice none 0 0]) rfl rfl (Nat.le_of_ble_eq_true rfl) (by kernel_rfl) (by simp[Value.cells,Value.oneCell']) hbv3 hle ?_;intro v4 hxv4 hbv4;simp only[Ei,Value.cells,tk4,tk6]at hxv4;have Hx9:Hid (Aj v4 wc.heap.size 45 #[.int .i64 4,.string ⟨#[]⟩,.string dst,.int .i64 n,.bool false,.int .i64 0,.bool false,.int .i64 0,.string ⟨#[]⟩,.slice none 0 0,.slice none 0 0,.bool false,.int .i64 0,.bool false,.int .i64 0,.string ⟨#[]⟩,.slice none 0 0,.slice none 0 0,.slice a l.length c]):=hxv4;have Hbv4:=qz hbv4;clear hbv4;clear hxv0 hxv1 hxv2 hxv3 hxv4 hbv0 hbv1 hbv2 hbv3;go_upto_region 21 with(fail)
     iterate 2 go_step
     refine Ae 45 (.tmp 3) rfl wc.heap.size _ Hx9.out rfl _ Tryz.underlying45 rfl (by kernel_rfl) ?_;go_wp2_with (go_at_call 160;(with_reducible refine(E4 _ _ _ _ _ _ _ _ _ _ _ _ _ _ _ _ _ _ _ _ _ _ _ _ _ _ _ _ _ _).mono ?_);rintro e w5 ⟨rfl,hb5⟩);go_ret;refine⟨?_,Hbv4.out.trans (hb5.mono Hbv4.out.size)⟩;rw[HE.out];simp only[Kf];rfl
  have tk4:(k==4)=false:=by simpa using e4
  by_cases e6:k=6
  . subst e6;have HE:=qz (show S=(!Cd ⟨#[]⟩ ⟨#[]⟩ n had Z1 has Z2 l.length)from by rw[<-HS.out];simp[D9,Cd,h00]);go_upto_region 21 with(fail)
    iterate 2 go_step
    refine Ae 45 (.tmp 3) rfl _ _ (Aj.new _ _ _) rfl _ Tryz.underlying45 rfl (by kernel_rfl) ?_;go_wp2_with (go_at_call 160;(with_reducible refine(E4 _ _ _ _ _ _ _ _ _ _ _ _ _ _ _ _ _ _ _ _ _ _ _ _ _ _ _ _ _ _).mono ?_);rintro e w5 ⟨rfl,hb5⟩);go_ret;refine⟨?_,Hbw.out.trans (((Aa _ _).trans (hb5.mono (by simp))).mono Hbw.out.size)⟩;rw[HE.out];simp only[HZ1.out,HZ2.out];rfl
  have tk6:(k==6)=false:=by simpa using e6
  by_cases e7:k=7
  . subst e7;have HE:=qz (show S=(!Cd ⟨#[]⟩ dst n false true has Z2 0)from by rw[<-HS.out];simp[D9,Cd,h00]);go_upto_region 21 with(fail)
    iterate 2 go_step
    refine Ae 45 (.tmp 3) rfl _ _ (Aj.new _ _ _) rfl _ Tryz.underlying45 rfl (by kernel_rfl) ?_;go_wp2_with (go_at_call 160;(with_reducible refine(E4 _ _ _ _ _ _ _ _ _ _ _ _ _ _ _ _ _ _ _ _ _ _ _ _ _ _ _ _ _ _).mono ?_);rintro e w5 ⟨rfl,hb5⟩);go_ret;refine⟨?_,Hbw.out.trans (((Aa _ _).trans (hb5.mono (by simp))).mono Hbw.out.size)⟩;rw[HE.out];simp only[HZ2.out,Kf];rfl
  have tk7:(k==7)=false:=by simpa using e7
  have HE:=qz (show S=true from by rw[<-HS.out];simp[D9,h00,e1,e2,e3,e4,e5,e6,e7]);go_wp2;go_ret;exact⟨by rw[HE.out];rfl,Hbw.out.trans ((Aa _ _).mono Hbw.out.size)⟩
def Ae9 (m:Mut):Prop:= ∀(cs:List Value) (d:Int) (w:World),Cl w->Ai w w.heap.size (dM m) cs->Bm m<=100000000->Nv m->1<=d->d<=7->
 Calls Tryz.prog 65 #[.agg cs.toArray,.int .i64 d] w fun e w'=>e=Tm (Gi m d)/\Below w.heap.size w w'
theorem Zy {k:Int} {dst:ByteArray} {n:Int} {had:Bool} {w1:Val} {has:Bool} {v:Val} {ln:Nat} {B:Bool} (h:Al k dst n had (Es w1) has (Es v) ln=B):D9 k dst n had (Es w1) has (Es v) ln= !B:=by rw[Xf,h]
theorem Ad7 (k:Int) (key dst:ByteArray) (n:Int) (had:Bool) (k1:Int) (b1:Bool) (n1:Int) (t1:ByteArray) (l1:List Val) (o1:List (ByteArray×Val)) (has:Bool) (k2:Int) (b2:Bool) (n2:Int) (t2:ByteArray) (l2:List Val) (o2:List (ByteArray×Val)) (l:List Mut) (ih: ∀x ∈ l,Ae9 x):Ae9 (Mut.mk k key dst n had (.mk k1 b1 n1 t1 l1 o1) has (.mk k2 b2 n2 t2 l2 o2) l):=by
 intro cs d w hT hM hb hi hd1 hd7;obtain⟨la1,lc1,oa1,oc1,la2,lc2,oa2,oc2,a,c,rfl,hv1,hv2,hl⟩:=Bl hM;have hls:=El l;simp only[Bm]at hb;simp only[Nv]at hi;obtain⟨_,hi1,hi2,hi3⟩:=hi;obtain⟨wi,hwi⟩: ∃wi,w.alloc (.cells #[.int .i64 k,.string key,.string dst,.int .i64 n,.bool had,.int .i64 k1,.bool b1,.int .i64 n1,.string t1,.slice la1 l1.length lc1,.slice oa1 o1.length oc1,.bool has,.int .i64 k2,.bool b2,.int .i64 n2,.string t2,.slice la2 l2.length lc2,.slice oa2 o2.length oc2,.slice a l.length c] 45)=wi:=⟨_,rfl⟩;have Hbi:Hid (Below w.heap.size w wi):=hwi▸Aa _ _;have Hxb:Hid (Aj wi w.heap.size 45 #[.int .i64 k,.string key,.string dst,.int .i64 n,.bool had,.int .i64 k1,.bool b1,.int .i64 n1,.string t1,.slice la1 l1.length lc1,.slice oa1 o1.length oc1,.bool has,.int .i64 k2,.bool b2,.int .i64 n2,.string t2,.slice la2 l2.length lc2,.slice oa2 o2.length oc2,.slice a l.length c]):=hwi▸Aj.new _ _ _;have hST:=fun W=>Ss k key dst n had k1 b1 n1 t1 l1 o1 has k2 b2 n2 t2 l2 o2 l la1 lc1 oa1 oc1 la2 lc2 oa2 oc2 a c W;have hKE:=fun(W:World) (hB:Below w.heap.size w W)=>Yo k key dst had (.int .i64 n) (.int .i64 k1) (.bool b1) (.int .i64 n1) (.string t1) (.slice la1 l1.length lc1) (.slice oa1 o1.length oc1) (.bool has) (.int .i64 k2) (.bool b2) (.int .i64 n2) (.string t2) (.slice la2 l2.length lc2) (.slice oa2 o2.length oc2) (.slice a l.length c) W (hT.below hB) (by omega) (by omega);have hF1: ∀(W:World) (_:Below w.heap.size w W),Calls Tryz.prog 119 #[.agg #[.int .i64 k1,.bool b1,.int .i64 n1,.string t1,.slice la1 l1.length lc1,.slice oa1 o1.length oc1]] W fun e w'=>e=.returned (.int .i64 (Ex (.mk k1 b1 n1 t1 l1 o1)))/\Below W.heap.size W w':=fun W hB=>Rr _ _ W (hT.below hB) (Ac.more hB.size _ _ (hv1.below hB)) (by omega) hi1;have hF2: ∀(W:World) (_:Below w.heap.size w W),Calls Tryz.prog 119 #[.agg #[.int .i64 k2,.bool b2,.int .i64 n2,.string t2,.slice la2 l2.length lc2,.slice oa2 o2.length oc2]] W fun e w'=>e=.returned (.int .i64 (Ex (.mk k2 b2 n2 t2 l2 o2)))/\Below W.heap.size W w':=fun W hB=>Rr _ _ W (hT.below hB) (Ac.more hB.size _ _ (hv2.below hB)) (by omega) hi2;have hMX:Gi (Mut.mk k key dst n had (.mk k1 b1 n1 t1 l1 o1) has (.mk k2 b2 n2 t2 l2 o2) l) d=Gi (Mut.mk k key dst n had (.mk k1 b1 n1 t1 l1 o1) has (.mk k2 b2 n2 t2 l2 o2) l) d:=rfl
 conv at hMX=>rhs;simp only[Gi]
 generalize Gi (Mut.mk k key dst n had (.mk k1 b1 n1 t1 l1 o1) has (.mk k2 b2 n2 t2 l2 o2) l) d=X at hMX ⊢;generalize Ex (.mk k1 b1 n1 t1 l1 o1)=X1 at hF1 hMX;generalize Ex (.mk k2 b2 n2 t2 l2 o2)=X2 at hF2 hMX;generalize hKB:Dq k key dst had=KB at hKE hMX;have hk4:Al k dst n had (Es (.mk k1 b1 n1 t1 l1 o1)) has (Es (.mk k2 b2 n2 t2 l2 o2)) l.length=true->has=true->k=4:=by
  intro h1 h2;unfold Al at h1;simp only[Bool.and_eq_true,Bool.or_eq_true,decide_eq_true_eq,h2]at h1;have h3:=h1.1.1.1.2;simpa using h3
 generalize hBB:Al k dst n had (Es (.mk k1 b1 n1 t1 l1 o1)) has (Es (.mk k2 b2 n2 t2 l2 o2)) l.length=BB at hMX hk4;rw[Zy hBB]at hST;clear hBB hKB hM;obtain⟨HST,HKE,HF1,HF2,HT,Hl,Ih,Hi3⟩:=hid8 hST hKE hF1 hF2 hT hl ih hi3;clear hST hKE hF1 hF2 hT hl ih hi3
 cases BB with
 |false=>
  rw[if_pos rfl]at hMX;have HE:=qz hMX;clear hMX;go_enter Tryz.func65,Tryz.ntmps65;go_upto_region 1 with(fail);clear hwi
  iterate 2 go_step
  refine Ae 45 (.tmp 2) rfl w.heap.size _ Hxb.out rfl _ Tryz.underlying45 rfl (by kernel_rfl) ?_;go_wp2_with (fail);(with_reducible refine(HST.out _).mono ?_);rintro e w1 ⟨rfl,hb1⟩;have Hbw1:=qz (Hbi.out.trans (hb1.mono Hbi.out.size));have Hx1:=qz (Hxb.out.below hb1 Hxb.out.lt);clear hb1;go_wp2_with (fail);(with_reducible refine(Ia 9 _).mono ?_);rintro e _ ⟨rfl,rfl⟩;exact⟨rfl,by rw[HE.out];exact(Dy (by decide)).symm,Hbw1.out⟩
 |true=>
 rw[if_neg (by simp)]at hMX;by_cases h6:6<d
 . rw[if_pos h6]at hMX;have t66:decide (d<=6)=false:=by simpa using h6
   have HE:=qz hMX;clear hMX;go_enter Tryz.func65,Tryz.ntmps65;go_upto_region 1 with(fail);clear hwi
   iterate 2 go_step
   refine Ae 45 (.tmp 2) rfl w.heap.size _ Hxb.out rfl _ Tryz.underlying45 rfl (by kernel_rfl) ?_;go_wp2_with (fail);(with_reducible refine(HST.out _).mono ?_);rintro e w1 ⟨rfl,hb1⟩;have Hbw1:=qz (Hbi.out.trans (hb1.mono Hbi.out.size));have Hx1:=qz (Hxb.out.below hb1 Hxb.out.lt);clear hb1;go_wp2_with (fail);(with_reducible refine(Dh 9 _).mono ?_);rintro e _ ⟨rfl,rfl⟩;go_wp2_with (fail);(with_reducible refine(Ia 5 _).mono ?_);rintro e _ ⟨rfl,rfl⟩;exact⟨rfl,by rw[HE.out];exact(Dy (by decide)).symm,Hbw1.out⟩
 rw[if_neg h6]at hMX;have h66:d<=6:=by omega
 clear h6
 cases KB with
 |false=>
  rw[if_pos rfl]at hMX;have HE:=qz hMX;clear hMX;go_enter Tryz.func65,Tryz.ntmps65;go_upto_region 1 with(fail);clear hwi
  iterate 2 go_step
  refine Ae 45 (.tmp 2) rfl w.heap.size _ Hxb.out rfl _ Tryz.underlying45 rfl (by kernel_rfl) ?_;go_wp2_with (fail);(with_reducible refine(HST.out _).mono ?_);rintro e w1 ⟨rfl,hb1⟩;have Hbw1:=qz (Hbi.out.trans (hb1.mono Hbi.out.size));have Hx1:=qz (Hxb.out.below hb1 Hxb.out.lt);clear hb1;go_wp2_with (fail);(with_reducible refine(Dh 9 _).mono ?_);rintro e _ ⟨rfl,rfl⟩;go_wp2_with (fail);(with_reducible refine(Dh 5 _).mono ?_);rintro e _ ⟨rfl,rfl⟩;go_upto_region 3 with(fail)
  iterate 2 go_step
  refine Ae 45 (.tmp 2) rfl w.heap.size _ Hx1.out rfl _ Tryz.underlying45 rfl (by kernel_rfl) ?_;go_wp2_with (fail);(with_reducible refine(HKE.out _ Hbw1.out).mono ?_);rintro e w2 ⟨rfl,hb2⟩;have Hbw2:=qz (Hbw1.out.trans (hb2.mono Hbw1.out.size));have hx2:=Hx1.out.below hb2 Hx1.out.lt;have y4:=hx2.cell 4;have Hx2:=qz hx2;clear hx2;clear hb2;go_wp2_with (fail);(with_reducible refine(Ia 8 _).mono ?_);rintro e _ ⟨rfl,rfl⟩;exact⟨rfl,by rw[HE.out];exact(Dy (by decide)).symm,Hbw2.out⟩
 |true=>
 rw[if_neg (by simp)]at hMX;have hk4':=hk4 rfl;clear hk4;by_cases h4:had=true/\X1≠0
 . rw[if_pos h4]at hMX;have HE:=qz hMX;clear hMX;obtain⟨rfl,h40⟩:=h4;go_enter Tryz.func65,Tryz.ntmps65;go_upto_region 1 with(fail);clear hwi
   iterate 2 go_step
   refine Ae 45 (.tmp 2) rfl w.heap.size _ Hxb.out rfl _ Tryz.underlying45 rfl (by kernel_rfl) ?_;go_wp2_with (fail);(with_reducible refine(HST.out _).mono ?_);rintro e w1 ⟨rfl,hb1⟩;have Hbr1:=qz hb1;have Hbw1:=qz (Hbi.out.trans (hb1.mono Hbi.out.size));have Hx1:=qz (Hxb.out.below hb1 Hxb.out.lt);clear hb1;go_wp2_with (fail);(with_reducible refine(Dh 9 _).mono ?_);rintro e _ ⟨rfl,rfl⟩;go_wp2_with (fail);(with_reducible refine(Dh 5 _).mono ?_);rintro e _ ⟨rfl,rfl⟩;go_upto_region 3 with(fail)
   iterate 2 go_step
   refine Ae 45 (.tmp 2) rfl w.heap.size _ Hx1.out rfl _ Tryz.underlying45 rfl (by kernel_rfl) ?_;go_wp2_with (fail);(with_reducible refine(HKE.out _ Hbw1.out).mono ?_);rintro e w2 ⟨rfl,hb2⟩;have Hbr2:=qz (Hbr1.out.trans (hb2.mono Hbr1.out.size));have Hbw2:=qz (Hbw1.out.trans (hb2.mono Hbw1.out.size));have hx2:=Hx1.out.below hb2 Hx1.out.lt;have y4:=hx2.cell 4;have y5:=hx2.cell 5;have y6:=hx2.cell 6;have y7:=hx2.cell 7;have y8:=hx2.cell 8;have y9:=hx2.cell 9;have y10:=hx2.cell 10;have Hx2:=qz hx2;clear hx2;clear hb2;go_wp2_with (fail);(with_reducible refine(Dh 8 _).mono ?_);rintro e _ ⟨rfl,rfl⟩;go_wp2_with (fail);(with_reducible refine(HF1.out _ Hbw2.out).mono ?_);rintro e w3 ⟨rfl,hb3⟩;have hbw3:=Hbw2.out.trans (hb3.mono Hbw2.out.size);go_wp2_with (fail);(with_reducible refine(Ade _ h40 _).mono ?_);rintro e _ ⟨rfl,rfl⟩;exact⟨rfl,by rw[HE.out];exact(Dy h40).symm,hbw3⟩
 rw[if_neg h4]at hMX;go_enter Tryz.func65,Tryz.ntmps65;go_upto_region 1 with(fail);clear hwi
 iterate 2 go_step
 refine Ae 45 (.tmp 2) rfl w.heap.size _ Hxb.out rfl _ Tryz.underlying45 rfl (by kernel_rfl) ?_;go_wp2_with (fail);(with_reducible refine(HST.out _).mono ?_);rintro e w1 ⟨rfl,hb1⟩;have Hbr1:=qz hb1;have Hbw1:=qz (Hbi.out.trans (hb1.mono Hbi.out.size));have Hx1:=qz (Hxb.out.below hb1 Hxb.out.lt);clear hb1;go_wp2_with (fail);(with_reducible refine(Dh 9 _).mono ?_);rintro e _ ⟨rfl,rfl⟩;go_wp2_with (fail);(with_reducible refine(Dh 5 _).mono ?_);rintro e _ ⟨rfl,rfl⟩;go_upto_region 3 with(fail)
 iterate 2 go_step
 refine Ae 45 (.tmp 2) rfl w.heap.size _ Hx1.out rfl _ Tryz.underlying45 rfl (by kernel_rfl) ?_;go_wp2_with (fail);(with_reducible refine(HKE.out _ Hbw1.out).mono ?_);rintro e w2 ⟨rfl,hb2⟩;have Hbr2:=qz (Hbr1.out.trans (hb2.mono Hbr1.out.size));have Hbw2:=qz (Hbw1.out.trans (hb2.mono Hbw1.out.size));have hx2:=Hx1.out.below hb2 Hx1.out.lt;have y4:=hx2.cell 4;have y5:=hx2.cell 5;have y6:=hx2.cell 6;have y7:=hx2.cell 7;have y8:=hx2.cell 8;have y9:=hx2.cell 9;have y10:=hx2.cell 10;have Hx2:=qz hx2;clear hx2;clear hb2;go_wp2_with (fail);(with_reducible refine(Dh 8 _).mono ?_);rintro e _ ⟨rfl,rfl⟩;go_upto_if 17 with(fail);go_cut [] (fun wx=>Hid (Below wi.heap.size wi wx))
 case first=>
  cases had with
  |false=>
   go_wp2;go_meet;exact Hbr2
  |true=>
   obtain rfl:X1=0:=by simpa using h4
   go_wp2_with (fail);(with_reducible refine(HF1.out _ Hbw2.out).mono ?_);rintro e w3 ⟨rfl,hb3⟩;go_wp2_with (fail);(with_reducible refine(Zc _).mono ?_);rintro e _ ⟨rfl,rfl⟩;have HB:=qz (Hbr2.out.trans (hb3.mono Hbr2.out.size));clear hb3;go_wp2;go_meet;exact HB
 case rest=>
  obtain⟨wm,hwm⟩: ∃wm:World,wm=wc:=⟨_,rfl⟩;subst hwm;clear Hbr1 Hbr2 Hbw1 Hbw2 Hx1 Hx2 y4 y5 y6 y7 y8 y9 y10 HF1 HST HKE;have hbr3:=hcut.out;have hbw3:=Hbi.out.trans (hbr3.mono Hbi.out.size);have hx3:=Hxb.out.below hbr3 Hxb.out.lt;have y0:=hx3.cell 0;have y11:=hx3.cell 11;have y12:=hx3.cell 12;have y13:=hx3.cell 13;have y14:=hx3.cell 14;have y15:=hx3.cell 15;have y16:=hx3.cell 16;have y17:=hx3.cell 17;have y18:=hx3.cell 18;clear hcut;go_upto_region 6 with(fail);go_cut [38] (fun s wx=>s=.bool (has||decide (k=1)||decide (k=5))/\wx=wm)
  case first=>
   by_cases e1:k=1
   . subst e1;go_wp2;go_meet;exact⟨by simp,rfl⟩
   by_cases e5:k=5
   . subst e5;go_wp2;go_meet;exact⟨by simp,rfl⟩
   by_cases e4:k=4
   . subst e4;go_wp2;go_meet;exact⟨by simp,rfl⟩
   . have t1:(k==1)=false:=by simpa using e1
     have t5:(k==5)=false:=by simpa using e5
     have t4:(k==4)=false:=by simpa using e4
     obtain rfl:has=false:=by
      cases has with
      |false=>rfl
      |true=>exact absurd (hk4' rfl) e4
     go_wp2;go_meet;exact⟨by simp[e1,e5],rfl⟩
  case rest=>
  obtain⟨rfl,hwc⟩:=hcut;subst hwc;obtain⟨Hbr3,Hbw3,Hx3⟩:=hid3 hbr3 hbw3 hx3;clear hbr3 hbw3 hx3;generalize (has||decide (k=1)||decide (k=5))=P at hMX;by_cases h5:P=true/\X2≠0
  . rw[if_pos h5]at hMX;have HE:=qz hMX;clear hMX;obtain⟨rfl,h50⟩:=h5;go_wp2_with (fail);(with_reducible refine(HF2.out _ Hbw3.out).mono ?_);rintro e w4 ⟨rfl,hb4⟩;go_wp2_with (fail);(with_reducible refine(Ade _ h50 _).mono ?_);rintro e _ ⟨rfl,rfl⟩;exact⟨rfl,by rw[HE.out];exact(Dy h50).symm,Hbw3.out.trans (hb4.mono Hbw3.out.size)⟩
  rw[if_neg h5]at hMX;go_upto_if 38 with(fail);go_cut [] (fun wx=>Hid (Below wi.heap.size wi wx))
  case first=>
   cases P with
   |true=>
    obtain rfl:X2=0:=by
     by_cases h:X2=0
     . exact h
     . exact absurd ⟨rfl,h⟩ h5
    go_wp2_with (fail);(with_reducible refine(HF2.out _ Hbw3.out).mono ?_);rintro e w4 ⟨rfl,hb4⟩;go_wp2_with (fail);(with_reducible refine(Zc _).mono ?_);rintro e _ ⟨rfl,rfl⟩;have HB:=qz (Hbr3.out.trans (hb4.mono Hbr3.out.size));clear hb4;go_wp2;go_meet;exact HB
   |false=>
    go_wp2;go_meet;exact Hbr3
  case rest=>
   have hbr5:=hcut.out;have Hbw5:=qz (Hbi.out.trans (hbr5.mono Hbi.out.size));have hx5:=Hxb.out.below hbr5 Hxb.out.lt;clear y0 y11 y12 y13 y14 y15 y16 y17 y18 Hbr3 Hbw3 Hx3 h5 HF2 h4;have y18:=hx5.cell 18;have HX0:=qz (show Ml (l.drop 0) (d+1)=X from by rw[List.drop_zero];exact hMX.symm);clear hMX;obtain⟨Hbr5,Hx5⟩:=hid2 hbr5 hx5;clear hbr5 hx5;clear hcut;go_wp2_with (fail);go_loopw [46] (fun i wr=> ∃q:Nat,i=.int .i64 q/\q<=l.length/\Hid (Ml (l.drop q) (d+1)=X)/\Hid (Below wi.heap.size wi wr)) (fun i _=>l.length - (intOf i).toNat)
   case atStart=>exact⟨0,rfl,Nat.zero_le _,HX0,Hbr5⟩
   case round=>
    obtain⟨q,rfl,hq,hX,hbr⟩:=hrel;clear HX0 Hbr5 Hbw5 Hx5 y18;have hbw:=Hbi.out.trans (hbr.out.mono Hbi.out.size);by_cases hlt:q<l.length
    . obtain⟨m,hm⟩: ∃p,l[q]? =some p:=⟨_,List.getElem?_eq_getElem hlt⟩;have hmem:=List.mem_of_getElem? hm;have hbm:=D3 hmem;have hC:=Ih.out m hmem;have hin:=Sg hmem Hi3.out;have hXd:=hX.out;rw[Sn hm]at hXd;obtain⟨k',key',dst',n',had',⟨k1',b1',n1',t1',l1',o1'⟩,has',⟨k2',b2',n2',t2',l2',o2'⟩,l'⟩:=m;have hz:=hbw.size;obtain⟨g,off,rfl,hg,cs',hcs,_,hcell⟩:=Kt (Hl.out.below hbw) hm;obtain⟨la1',lc1',oa1',oc1',la2',lc2',oa2',oc2',a',c',rfl,_,_,_⟩:=Bl hcs;have hrange:wr.rangeAt g (off+q*19) [.int .i64 k',.string key',.string dst',.int .i64 n',.bool had',.int .i64 k1',.bool b1',.int .i64 n1',.string t1',.slice la1' l1'.length lc1',.slice oa1' o1'.length oc1',.bool has',.int .i64 k2',.bool b2',.int .i64 n2',.string t2',.slice la2' l2'.length lc2',.slice oa2' o2'.length oc2',.slice a' l'.length c']:=hcell;have hgr:g<wr.heap.size:=by omega
      have hq1:(q:Int)<(l.length:Int):=by omega
      have hq0:(0:Int)<=q:=by omega
      have hC': ∀W,Below wr.heap.size wr W->Calls Tryz.prog 65 #[.agg #[.int .i64 k',.string key',.string dst',.int .i64 n',.bool had',.int .i64 k1',.bool b1',.int .i64 n1',.string t1',.slice la1' l1'.length lc1',.slice oa1' o1'.length oc1',.bool has',.int .i64 k2',.bool b2',.int .i64 n2',.string t2',.slice la2' l2'.length lc2',.slice oa2' o2'.length oc2',.slice a' l'.length c'],.int .i64 (d+1)] W fun e w'=>e=Tm (Gi (Mut.mk k' key' dst' n' had' (.mk k1' b1' n1' t1' l1' o1') has' (.mk k2' b2' n2' t2' l2' o2') l') (d+1))/\Below W.heap.size W w':=fun W hW=>hC _ _ W (HT.out.below (hbw.trans (hW.mono hz))) ((hcs.below (hW.mono hz)).more (Nat.le_trans hz hW.size)) (by omega) hin (by omega) (by omega);generalize Gi (Mut.mk k' key' dst' n' had' (.mk k1' b1' n1' t1' l1' o1') has' (.mk k2' b2' n2' t2' l2' o2') l') (d+1)=Y at hC' hXd;obtain⟨HC',Hbw⟩:=hid2 hC' hbw;clear hC' hbw;clear hC hcs hcell hmem hbm hm hX hin;go_upto_region 10 with(fail)
      iterate 5 go_step
      refine wp_load_mid 45 (.tmp 48) rfl g (off+q*19) rfl [.int .i64 k',.string key',.string dst',.int .i64 n',.bool had',.int .i64 k1',.bool b1',.int .i64 n1',.string t1',.slice la1' l1'.length lc1',.slice oa1' o1'.length oc1',.bool has',.int .i64 k2',.bool b2',.int .i64 n2',.string t2',.slice la2' l2'.length lc2',.slice oa2' o2'.length oc2',.slice a' l'.length c'] _ hrange Tryz.underlying45 rfl (by kernel_rfl) ?_
      iterate 5 go_step
      refine Cz 45 (.tmp 5) (.tmp 49) rfl #[.int .i64 k',.string key',.string dst',.int .i64 n',.bool had',.int .i64 k1',.bool b1',.int .i64 n1',.string t1',.slice la1' l1'.length lc1',.slice oa1' o1'.length oc1',.bool has',.int .i64 k2',.bool b2',.int .i64 n2',.string t2',.slice la2' l2'.length lc2',.slice oa2' o2'.length oc2',.slice a' l'.length c'] rfl rfl rfl (by kernel_rfl) (by simp[Value.oneCell']) ?_;go_upto_region 11 with(fail)
      iterate 2 go_step
      refine Ae 45 (.tmp 5) rfl wr.heap.size _ (Aj.new _ _ _) rfl _ Tryz.underlying45 rfl (by kernel_rfl) ?_;go_wp2_with (fail);(with_reducible refine(HC'.out _ (Aa _ _)).mono ?_);rintro e w6 ⟨rfl,hb6⟩;have hz2:=hbr.out.size;have hbf:=hbr.out.trans (((Aa wr (.cells #[.int .i64 k',.string key',.string dst',.int .i64 n',.bool had',.int .i64 k1',.bool b1',.int .i64 n1',.string t1',.slice la1' l1'.length lc1',.slice oa1' o1'.length oc1',.bool has',.int .i64 k2',.bool b2',.int .i64 n2',.string t2',.slice la2' l2'.length lc2',.slice oa2' o2'.length oc2',.slice a' l'.length c'] 45)).trans (hb6.mono (by simp))).mono hz2);by_cases hY:Y=0
      . subst hY;rw[if_pos rfl]at hXd;rw[K4];obtain⟨HXd,Hbf⟩:=hid2 hXd hbf;clear hXd hbf;clear hb6;go_wp2;go_roundw
        case rel=>exact⟨q+1,by go_num,by omega,HXd,Hbf⟩
        case measure=>simp only[intOf];omega
      . rw[if_neg hY]at hXd;rw[Dy hY];exact⟨rfl,by rw[<-hXd,Dy hY],Hbi.out.trans (hbf.mono Hbi.out.size)⟩
    . obtain rfl:q=l.length:=by omega
      have hE:=hX.out;rw[List.drop_length]at hE;have hE':X=0:=hE.symm;subst hE';have Hbw:=qz hbw;clear hbw;clear hX hE;go_wp2
      go_end0
      exact⟨rfl,Hbw.out⟩
theorem Abm: ∀m,Ae9 m:=by
 refine Mut.ind ?_;intro k key dst n had was has v l IH;obtain⟨k1,b1,n1,t1,l1,o1⟩:=was;obtain⟨k2,b2,n2,t2,l2,o2⟩:=v;exact Ad7 k key dst n had k1 b1 n1 t1 l1 o1 has k2 b2 n2 t2 l2 o2 l IH
theorem Abn (m:Mut) (cs:List Value) (g:Nat) (W:World) (hT:Cl W) (hM:Ai W W.heap.size (dM m) cs) (hx:Aj W g 45 cs.toArray) (hb:Bm m<=100000000) (hi:Nv m):
 Calls Tryz.prog 64 #[.pointer (some ⟨g,0,none⟩)] W fun e w'=>e=Tm (Gi m 1)/\Below W.heap.size W w':=by
 have hC:=Abm m cs 1 W hT hM hb hi (by omega) (by omega);have hs:cs.toArray.size=19:=by simpa using Aip hM
 generalize Gi m 1=Y at hC ⊢;obtain⟨HC,Hx⟩:=hid2 hC hx;clear hC hx;go_enter Tryz.func64,Tryz.ntmps64
 iterate 3 go_step
 refine Ae 45 (.tmp 0) rfl g _ Hx.out rfl _ Tryz.underlying45 rfl (by rw[hs];kernel_rfl) ?_;go_wp2_with (fail);(with_reducible refine(HC.out).mono ?_);rintro e w1 ⟨rfl,hb1⟩;by_cases hY:Y=0
 . subst hY;rw[K4];go_wp2
   go_end0
   exact⟨rfl,hb1⟩
 . rw[Dy hY];exact⟨rfl,(Dy hY).symm,hb1⟩
theorem Lu (m:Mut) (cs:List Value) (w:World) (hT:Cl w) (hM:Ai w w.heap.size (dM m) cs) (hb:Bm m<=100000000) (hi:Nv m):
 Calls Tryz.prog 35 #[.agg cs.toArray] w fun e w'=>e=.returned (.int .i64 (Di m))/\Below w.heap.size w w':=by
 obtain⟨k,key,dst,n,had,⟨k1,b1,n1,t1,l1,o1⟩,has,⟨k2,b2,n2,t2,l2,o2⟩,l⟩:=m;have hM':=hM;obtain⟨la1,lc1,oa1,oc1,la2,lc2,oa2,oc2,a,c,rfl,_,_,_⟩:=Bl hM;obtain⟨wi,hwi⟩: ∃wi,w.alloc (.cells #[.int .i64 k,.string key,.string dst,.int .i64 n,.bool had,.int .i64 k1,.bool b1,.int .i64 n1,.string t1,.slice la1 l1.length lc1,.slice oa1 o1.length oc1,.bool has,.int .i64 k2,.bool b2,.int .i64 n2,.string t2,.slice la2 l2.length lc2,.slice oa2 o2.length oc2,.slice a l.length c] 45)=wi:=⟨_,rfl⟩;have hbi:Below w.heap.size w wi:=hwi▸Aa _ _;have hxb:Aj wi w.heap.size 45 #[.int .i64 k,.string key,.string dst,.int .i64 n,.bool had,.int .i64 k1,.bool b1,.int .i64 n1,.string t1,.slice la1 l1.length lc1,.slice oa1 o1.length oc1,.bool has,.int .i64 k2,.bool b2,.int .i64 n2,.string t2,.slice la2 l2.length lc2,.slice oa2 o2.length oc2,.slice a l.length c]:=hwi▸Aj.new _ _ _;have hmf: ∀(fn:Fn) (first cap:Array Value) (w:World),(Instr.makeFunc fn first cap).run Tryz.prog w=.ok (.func fn first cap) w:=fun _ _ _ _=>rfl;have hS:=Y5 _ _ wi ((hM'.below hbi).more hbi.size) hb;have hsz:=Iz (Mut.mk k key dst n had (.mk k1 b1 n1 t1 l1 o1) has (.mk k2 b2 n2 t2 l2 o2) l);have hC: ∀w1,Below wi.heap.size wi w1->Calls Tryz.prog 63 #[.func (.func 64) #[] #[.pointer (some ⟨w.heap.size,0,none⟩)]] w1 fun e w'=>e=.returned (.int .i64 (Gi (Mut.mk k key dst n had (.mk k1 b1 n1 t1 l1 o1) has (.mk k2 b2 n2 t2 l2 o2) l) 1))/\Below w1.heap.size w1 w':=fun w1 h1=>
  Vz _ _ w1 fun W hW=>by
   have hB:=hbi.trans ((h1.trans (hW.mono h1.size)).mono hbi.size);exact Abn (Mut.mk k key dst n had (.mk k1 b1 n1 t1 l1 o1) has (.mk k2 b2 n2 t2 l2 o2) l) _ w.heap.size W (hT.below hB) ((hM'.below hB).more hB.size) (hxb.below (h1.trans (hW.mono h1.size)) hxb.lt) hb hi
 have hE:Di (Mut.mk k key dst n had (.mk k1 b1 n1 t1 l1 o1) has (.mk k2 b2 n2 t2 l2 o2) l)=if 64<Cy (Mut.mk k key dst n had (.mk k1 b1 n1 t1 l1 o1) has (.mk k2 b2 n2 t2 l2 o2) l)then 6 else Gi (Mut.mk k key dst n had (.mk k1 b1 n1 t1 l1 o1) has (.mk k2 b2 n2 t2 l2 o2) l) 1:=rfl;have hSi:((Cy (Mut.mk k key dst n had (.mk k1 b1 n1 t1 l1 o1) has (.mk k2 b2 n2 t2 l2 o2) l):Nat):Int)<=100000000:=by omega
 have hS0:(0:Int)<=((Cy (Mut.mk k key dst n had (.mk k1 b1 n1 t1 l1 o1) has (.mk k2 b2 n2 t2 l2 o2) l):Nat):Int):=by omega
 by_cases h64:64<Cy (Mut.mk k key dst n had (.mk k1 b1 n1 t1 l1 o1) has (.mk k2 b2 n2 t2 l2 o2) l)
 . rw[if_pos h64]at hE;have t64:(64:Int)<((Cy (Mut.mk k key dst n had (.mk k1 b1 n1 t1 l1 o1) has (.mk k2 b2 n2 t2 l2 o2) l):Nat):Int):=by omega
   generalize ((Cy (Mut.mk k key dst n had (.mk k1 b1 n1 t1 l1 o1) has (.mk k2 b2 n2 t2 l2 o2) l):Nat):Int)=Z at hS hSi hS0 t64;obtain⟨HS,Hxb,Hbi,HE⟩:=hid4 hS hxb hbi hE;clear hS hxb hbi hE;clear hC hM' hM hb hi hsz h64;go_enter Tryz.func35,Tryz.ntmps35;go_upto_region 1 with(fail);clear hwi
   iterate 2 go_step
   refine Ae 45 (.tmp 1) rfl w.heap.size _ Hxb.out rfl _ Tryz.underlying45 rfl (by kernel_rfl) ?_;go_wp2_with (fail);(with_reducible refine(HS.out).mono ?_);rintro e w1 ⟨rfl,hb1⟩;go_wp2;go_ret;exact⟨by rw[HE.out];rfl,Hbi.out.trans (hb1.mono Hbi.out.size)⟩
 . rw[if_neg h64]at hE;have t64:((Cy (Mut.mk k key dst n had (.mk k1 b1 n1 t1 l1 o1) has (.mk k2 b2 n2 t2 l2 o2) l):Nat):Int)<=64:=by omega
   generalize ((Cy (Mut.mk k key dst n had (.mk k1 b1 n1 t1 l1 o1) has (.mk k2 b2 n2 t2 l2 o2) l):Nat):Int)=Z at hS hSi hS0 t64;obtain⟨HS,Hxb,Hbi,HE,HC⟩:=hid5 hS hxb hbi hE hC;clear hS hxb hbi hE hC;clear hM' hM hb hi hsz h64;go_enter Tryz.func35,Tryz.ntmps35;go_upto_region 1 with(fail);clear hwi
   iterate 2 go_step
   refine Ae 45 (.tmp 1) rfl w.heap.size _ Hxb.out rfl _ Tryz.underlying45 rfl (by kernel_rfl) ?_;go_wp2_with (fail);(with_reducible refine(HS.out).mono ?_);rintro e w1 ⟨rfl,hb1⟩;go_wp2_with (fail);(with_reducible refine(HC.out _ hb1).mono ?_);rintro e w2 ⟨rfl,hb2⟩;go_wp2;go_ret;exact⟨by rw[HE.out];rfl,(Hbi.out.trans (hb1.mono Hbi.out.size)).trans (hb2.mono (Nat.le_trans Hbi.out.size hb1.size))⟩
theorem Nz (v:Val) (cs:List Value) (w:World) (hV:Ac w w.heap.size v cs) (hb:v.bulk<=100000000) {B:Bool} (hB:Es v=B):
 Calls Tryz.prog 129 #[.agg cs.toArray] w fun e w'=>e=.returned (.bool B)/\Below w.heap.size w w':=by
 obtain⟨k,b,n,t,l,o⟩:=v;have hV':=hV;simp only[Ac]at hV';obtain⟨la,lc,oa,oc,rfl,_,_⟩:=hV';have hb0:=Aa w (.cells #[.int .i64 k,.bool b,.int .i64 n,.string t,.slice la l.length lc,.slice oa o.length oc] 42);have HC:=qz (Zu _ _ _ (Ac.more hb0.size _ _ (hV.below hb0)) hb hB);have Hb0:=qz hb0;clear hb0;clear hV hB;go_enter Tryz.func129,Tryz.ntmps129;go_wp2_with (fail);(with_reducible refine(HC.out).mono ?_);rintro e w1 ⟨rfl,hb1⟩;go_wp2;go_ret;exact⟨rfl,Hb0.out.trans (hb1.mono Hb0.out.size)⟩
theorem Pc (s:ByteArray) (w:World) (hs:s.size<=1000000000):Calls Tryz.prog 130 #[.string s] w fun e w'=>e=.returned (.bool (Ee s))/\Below w.heap.size w w':=by
 obtain⟨B,hB⟩: ∃B,Az s=B:=⟨_,rfl⟩;have hC:=fun(W:World)=>Cj hB W (by omega);by_cases h1:s.size<=64
 . have hE:Ee s=B:=by unfold Ee;rw[hB];simp[h1]
   have t1:(s.size:Int)<=64:=by omega
   obtain⟨HC,HE⟩:=hid2 hC hE;clear hC hE;clear h1;go_enter Tryz.func130,Tryz.ntmps130;go_wp2_with (fail);(with_reducible refine(HC.out _).mono ?_);rintro e w2 ⟨rfl,rfl⟩;go_wp2;go_ret;exact⟨by rw[HE.out];rfl,Below.refl _ _⟩
 . have hE:Ee s=false:=by unfold Ee;simp[h1]
   have t1:(64:Int)<(s.size:Int):=by omega
   have HE:=qz hE;clear hE;clear h1 hC;go_enter Tryz.func130,Tryz.ntmps130;go_wp2;go_ret;exact⟨by rw[HE.out];rfl,Below.refl _ _⟩
theorem Ww (k:Int) (key dst:ByteArray) (had:Bool) (y3 y5 y6 y7 y8 y9 y10 y11 y12 y13 y14 y15 y16 y17 y18:Value) (w:World) (h1:key.size<=1000000000) (h2:dst.size<=1000000000):
 Calls Tryz.prog 84 #[.agg #[.int .i64 k,.string key,.string dst,y3,.bool had,y5,y6,y7,y8,y9,y10,y11,y12,y13,y14,y15,y16,y17,y18]] w fun e w'=>e=.returned (.bool (Dq k key dst had))/\Below w.heap.size w w':=by
 by_cases e6:k=6
 . subst e6;have hE:Dq 6 key dst had=(Ee key&&Ee dst):=by unfold Dq;rw[if_pos rfl]
   have hC:=fun(W:World)=>Pc key W h1;have hD:=fun(W:World)=>Pc dst W h2;rw[hE];generalize Ee key=B at hC ⊢;generalize Ee dst=B' at hD ⊢;obtain⟨HC,HD⟩:=hid2 hC hD;clear hC hD;clear hE
   cases B with
   |false=>
    go_enter Tryz.func84,Tryz.ntmps84;go_wp2_with (fail);(with_reducible refine(HC.out _).mono ?_);rintro e w2 ⟨rfl,hb2⟩;go_wp2;go_ret;exact⟨rfl,(Aa _ _).trans (hb2.mono (by simp))⟩
   |true=>
    go_enter Tryz.func84,Tryz.ntmps84;go_wp2_with (fail);(with_reducible refine(HC.out _).mono ?_);rintro e w2 ⟨rfl,hb2⟩;have hlt2:w.heap.size<w2.heap.size:=by(have:=hb2.size;simp at this;omega)
    obtain⟨hc2,hg2⟩:=A8 hb2;go_wp2_with (fail);(with_reducible refine(HD.out _).mono ?_);rintro e w3 ⟨rfl,hb3⟩;go_wp2;go_ret;exact⟨by simp,((Aa _ _).trans (hb2.mono (by simp))).trans (hb3.mono (by omega))⟩
 have t6:(k==6)=false:=by simpa using e6
 by_cases e7:k=7/\key.toList.isEmpty=true
 . obtain⟨rfl,hk⟩:=e7;have hE:Dq 7 key dst had= !had:=by unfold Dq;rw[if_neg (by omega),if_pos ⟨rfl,hk⟩]
   rw[Sj,decide_eq_true_eq]at hk;subst hk;rw[hE];clear hE;go_enter Tryz.func84,Tryz.ntmps84;go_wp2;go_ret;exact⟨rfl,Aa _ _⟩
 have hE:Dq k key dst had=decide (Rh key=0):=by
  unfold Dq;rw[if_neg e6,if_neg e7,Bool.eq_iff_iff,decide_eq_true_eq,U0]
 have hC:=fun(W:World)=>Ab7 key W h1;rw[hE];generalize Rh key=X at hC ⊢;by_cases k7:k=7
 . subst k7;have t8:key.toList.isEmpty=false:=by cases e:key.toList.isEmpty;rfl;exact absurd ⟨rfl,e⟩ e7
   have HC:=qz hC;clear hC;clear hE e6 e7;go_enter Tryz.func84,Tryz.ntmps84;go_wp2_with (fail);(with_reducible refine(HC.out _).mono ?_);rintro e w2 ⟨rfl,rfl⟩;go_wp2;go_ret;exact⟨by simp[Ox],Aa _ _⟩
 . have t7:(k==7)=false:=by simpa using k7
   have HC:=qz hC;clear hC;clear hE e6 e7 k7;go_enter Tryz.func84,Tryz.ntmps84;go_wp2_with (fail);(with_reducible refine(HC.out _).mono ?_);rintro e w2 ⟨rfl,rfl⟩;go_wp2;go_ret;exact⟨by simp[Ox],Aa _ _⟩
end Go.Proofs.YtobmaegpfbheoaaGreatDoor
