/- Parts: The reference's May of a mutator. Condition: a bulk of at most 10^8. -/
import Derived.Test.YtobmaegpfbheoaaGreatDoorKMo28
set_option maxHeartbeats 20000000
set_option maxRecDepth 100000
namespace Go.Proofs.YtobmaegpfbheoaaGreatDoor
open Go.RowKit
theorem Zh (k:Int) (key dst:ByteArray) (n:Int) (had:Bool) (k1:Int) (b1:Bool) (n1:Int) (t1:ByteArray) (l1:List Val) (o1:List (ByteArray×Val)) (has:Bool) (k2:Int) (b2:Bool) (n2:Int) (t2:ByteArray) (l2:List Val) (o2:List (ByteArray×Val)) (_:List Mut) (la1:Option Addr) (lc1:Nat) (oa1:Option Addr) (oc1:Nat) (la2:Option Addr) (lc2:Nat) (oa2:Option Addr) (oc2:Nat) (a:Option Addr) (ln c:Nat) (w:World)
 (hv1:Ac w w.heap.size (.mk k1 b1 n1 t1 l1 o1) [.int .i64 k1,.bool b1,.int .i64 n1,.string t1,.slice la1 l1.length lc1,.slice oa1 o1.length oc1]) (hv2:Ac w w.heap.size (.mk k2 b2 n2 t2 l2 o2) [.int .i64 k2,.bool b2,.int .i64 n2,.string t2,.slice la2 l2.length lc2,.slice oa2 o2.length oc2]) (hb1:(Val.mk k1 b1 n1 t1 l1 o1).bulk<=100000000) (hb2:(Val.mk k2 b2 n2 t2 l2 o2).bulk<=100000000):
 Calls Tryz.prog 83 #[.agg #[.int .i64 k,.string key,.string dst,.int .i64 n,.bool had,.int .i64 k1,.bool b1,.int .i64 n1,.string t1,.slice la1 l1.length lc1,.slice oa1 o1.length oc1,.bool has,.int .i64 k2,.bool b2,.int .i64 n2,.string t2,.slice la2 l2.length lc2,.slice oa2 o2.length oc2,.slice a ln c]] w fun e w'=>e=.returned (.bool (Al k dst n had (Es (.mk k1 b1 n1 t1 l1 o1)) has (Es (.mk k2 b2 n2 t2 l2 o2)) ln))/\Below w.heap.size w w':=by
 obtain⟨Z1,hZ1⟩: ∃Z,Es (.mk k1 b1 n1 t1 l1 o1)=Z:=⟨_,rfl⟩;obtain⟨Z2,hZ2⟩: ∃Z,Es (.mk k2 b2 n2 t2 l2 o2)=Z:=⟨_,rfl⟩;have H1:Hid (∀W,Below w.heap.size w W->Calls Tryz.prog 129 #[.agg #[.int .i64 k1,.bool b1,.int .i64 n1,.string t1,.slice la1 l1.length lc1,.slice oa1 o1.length oc1]] W fun e w'=>e=.returned (.bool Z1)/\Below W.heap.size W w'):=fun W hB=>Nz _ _ W (Ac.more hB.size _ _ (hv1.below hB)) hb1 hZ1;have H2:Hid (∀W,Below w.heap.size w W->Calls Tryz.prog 129 #[.agg #[.int .i64 k2,.bool b2,.int .i64 n2,.string t2,.slice la2 l2.length lc2,.slice oa2 o2.length oc2]] W fun e w'=>e=.returned (.bool Z2)/\Below W.heap.size W w'):=fun W hB=>Nz _ _ W (Ac.more hB.size _ _ (hv2.below hB)) hb2 hZ2;rw[hZ1,hZ2];clear hZ1 hZ2 hv1 hv2 hb1 hb2;by_cases e1:k=1
 . subst e1;by_cases c0:dst.toList.isEmpty=true;rotate_left
   . have u:dst.toList.isEmpty=false:=by simpa using c0
     have hE:Al 1 dst n had Z1 has Z2 ln=false:=by simp[Al,u]
     rw[hE];clear hE;go_enter Tryz.func83,Tryz.ntmps83;go_wp2;go_ret;exact⟨rfl,Aa _ _⟩
   by_cases c1:n=0;rotate_left
   . have u:(n==0)=false:=by simpa using c1
     have hE:Al 1 dst n had Z1 has Z2 ln=false:=by simp[Al,c0,c1]
     rw[hE];clear hE;go_enter Tryz.func83,Tryz.ntmps83;go_wp2;go_ret;exact⟨rfl,Aa _ _⟩
   subst c1;by_cases c2:had=false;rotate_left
   . obtain rfl:had=true:=by simpa using c2
     have hE:Al 1 dst 0 true Z1 has Z2 ln=false:=by simp[Al,c0]
     rw[hE];clear hE;go_enter Tryz.func83,Tryz.ntmps83;go_wp2;go_ret;exact⟨rfl,Aa _ _⟩
   subst c2;by_cases c3:has=false;rotate_left
   . obtain rfl:has=true:=by simpa using c3
     have hE:Al 1 dst 0 false Z1 true Z2 ln=false:=by simp[Al,c0]
     rw[hE];clear hE;go_enter Tryz.func83,Tryz.ntmps83;go_wp2;go_ret;exact⟨rfl,Aa _ _⟩
   subst c3
   cases Z1 with
   |false=>
    have hE:Al 1 dst 0 false false false Z2 ln=false:=by simp[Al,c0]
    rw[hE];clear hE;go_enter Tryz.func83,Tryz.ntmps83;go_wp2_with (fail);(with_reducible refine(H1.out _ (Aa _ _)).mono ?_);rintro e w2 ⟨rfl,hb2⟩;have hbw2:=(Aa w _).trans (hb2.mono (by simp));have hlt2:w.heap.size<w2.heap.size:=by(have:=hb2.size;simp at this;omega)
    obtain⟨hc2,hg2⟩:=A8 hb2;go_wp2;go_ret;exact⟨rfl,hbw2⟩
   |true=>
    by_cases c7:ln=0;rotate_left
    . have u:((ln:Int)==0)=false:=by simpa using c7
      have hE:Al 1 dst 0 false true false Z2 ln=false:=by simp[Al,c0,c7]
      rw[hE];clear hE;go_enter Tryz.func83,Tryz.ntmps83;go_wp2_with (fail);(with_reducible refine(H1.out _ (Aa _ _)).mono ?_);rintro e w2 ⟨rfl,hb2⟩;have hbw2:=(Aa w _).trans (hb2.mono (by simp));have hlt2:w.heap.size<w2.heap.size:=by(have:=hb2.size;simp at this;omega)
      obtain⟨hc2,hg2⟩:=A8 hb2;go_wp2;go_ret;exact⟨rfl,hbw2⟩
    subst c7;have hE:Al 1 dst 0 false true false Z2 0=true:=by simp[Al,c0]
    rw[hE];clear hE;go_enter Tryz.func83,Tryz.ntmps83;go_wp2_with (fail);(with_reducible refine(H1.out _ (Aa _ _)).mono ?_);rintro e w2 ⟨rfl,hb2⟩;have hbw2:=(Aa w _).trans (hb2.mono (by simp));have hlt2:w.heap.size<w2.heap.size:=by(have:=hb2.size;simp at this;omega)
    obtain⟨hc2,hg2⟩:=A8 hb2;go_wp2;go_ret;exact⟨rfl,hbw2⟩
 by_cases e2:k=2
 . subst e2;by_cases c0:dst.toList.isEmpty=true;rotate_left
   . have u:dst.toList.isEmpty=false:=by simpa using c0
     have hE:Al 2 dst n had Z1 has Z2 ln=false:=by simp[Al,u]
     rw[hE];clear hE;go_enter Tryz.func83,Tryz.ntmps83;go_wp2;go_ret;exact⟨rfl,Aa _ _⟩
   by_cases c1:n=0;rotate_left
   . have u:(n==0)=false:=by simpa using c1
     have hE:Al 2 dst n had Z1 has Z2 ln=false:=by simp[Al,c0,c1]
     rw[hE];clear hE;go_enter Tryz.func83,Tryz.ntmps83;go_wp2;go_ret;exact⟨rfl,Aa _ _⟩
   subst c1;by_cases c2:had=false;rotate_left
   . obtain rfl:had=true:=by simpa using c2
     have hE:Al 2 dst 0 true Z1 has Z2 ln=false:=by simp[Al,c0]
     rw[hE];clear hE;go_enter Tryz.func83,Tryz.ntmps83;go_wp2;go_ret;exact⟨rfl,Aa _ _⟩
   subst c2;by_cases c3:has=false;rotate_left
   . obtain rfl:has=true:=by simpa using c3
     have hE:Al 2 dst 0 false Z1 true Z2 ln=false:=by simp[Al,c0]
     rw[hE];clear hE;go_enter Tryz.func83,Tryz.ntmps83;go_wp2;go_ret;exact⟨rfl,Aa _ _⟩
   subst c3
   cases Z1 with
   |false=>
    have hE:Al 2 dst 0 false false false Z2 ln=false:=by simp[Al,c0]
    rw[hE];clear hE;go_enter Tryz.func83,Tryz.ntmps83;go_wp2_with (fail);(with_reducible refine(H1.out _ (Aa _ _)).mono ?_);rintro e w2 ⟨rfl,hb2⟩;have hbw2:=(Aa w _).trans (hb2.mono (by simp));have hlt2:w.heap.size<w2.heap.size:=by(have:=hb2.size;simp at this;omega)
    obtain⟨hc2,hg2⟩:=A8 hb2;go_wp2;go_ret;exact⟨rfl,hbw2⟩
   |true=>
    cases Z2 with
    |false=>
     have hE:Al 2 dst 0 false true false false ln=false:=by simp[Al,c0]
     rw[hE];clear hE;go_enter Tryz.func83,Tryz.ntmps83;go_wp2_with (fail);(with_reducible refine(H1.out _ (Aa _ _)).mono ?_);rintro e w2 ⟨rfl,hb2⟩;have hbw2:=(Aa w _).trans (hb2.mono (by simp));have hlt2:w.heap.size<w2.heap.size:=by(have:=hb2.size;simp at this;omega)
     obtain⟨hc2,hg2⟩:=A8 hb2;go_wp2_with (fail);(with_reducible refine(H2.out _ hbw2).mono ?_);rintro e w3 ⟨rfl,hb3⟩;obtain⟨hc3,hg3⟩:=A8 hb3;go_wp2;go_ret;exact⟨rfl,hbw2.trans (hb3.mono hbw2.size)⟩
    |true=>
     by_cases c7:ln=0;rotate_left
     . have u:((ln:Int)==0)=false:=by simpa using c7
       have hE:Al 2 dst 0 false true false true ln=false:=by simp[Al,c0,c7]
       rw[hE];clear hE;go_enter Tryz.func83,Tryz.ntmps83;go_wp2_with (fail);(with_reducible refine(H1.out _ (Aa _ _)).mono ?_);rintro e w2 ⟨rfl,hb2⟩;have hbw2:=(Aa w _).trans (hb2.mono (by simp));have hlt2:w.heap.size<w2.heap.size:=by(have:=hb2.size;simp at this;omega)
       obtain⟨hc2,hg2⟩:=A8 hb2;go_wp2_with (fail);(with_reducible refine(H2.out _ hbw2).mono ?_);rintro e w3 ⟨rfl,hb3⟩;obtain⟨hc3,hg3⟩:=A8 hb3;go_wp2;go_ret;exact⟨rfl,hbw2.trans (hb3.mono hbw2.size)⟩
     subst c7;have hE:Al 2 dst 0 false true false true 0=true:=by simp[Al,c0]
     rw[hE];clear hE;go_enter Tryz.func83,Tryz.ntmps83;go_wp2_with (fail);(with_reducible refine(H1.out _ (Aa _ _)).mono ?_);rintro e w2 ⟨rfl,hb2⟩;have hbw2:=(Aa w _).trans (hb2.mono (by simp));have hlt2:w.heap.size<w2.heap.size:=by(have:=hb2.size;simp at this;omega)
     obtain⟨hc2,hg2⟩:=A8 hb2;go_wp2_with (fail);(with_reducible refine(H2.out _ hbw2).mono ?_);rintro e w3 ⟨rfl,hb3⟩;obtain⟨hc3,hg3⟩:=A8 hb3;go_wp2;go_ret;exact⟨rfl,hbw2.trans (hb3.mono hbw2.size)⟩
 by_cases e3:k=3
 . subst e3;by_cases c0:dst.toList.isEmpty=true;rotate_left
   . have u:dst.toList.isEmpty=false:=by simpa using c0
     have hE:Al 3 dst n had Z1 has Z2 ln=false:=by simp[Al,u]
     rw[hE];clear hE;go_enter Tryz.func83,Tryz.ntmps83;go_wp2;go_ret;exact⟨rfl,Aa _ _⟩
   by_cases c1:had=false;rotate_left
   . obtain rfl:had=true:=by simpa using c1
     have hE:Al 3 dst n true Z1 has Z2 ln=false:=by simp[Al,c0]
     rw[hE];clear hE;go_enter Tryz.func83,Tryz.ntmps83;go_wp2;go_ret;exact⟨rfl,Aa _ _⟩
   subst c1;by_cases c2:has=false;rotate_left
   . obtain rfl:has=true:=by simpa using c2
     have hE:Al 3 dst n false Z1 true Z2 ln=false:=by simp[Al,c0]
     rw[hE];clear hE;go_enter Tryz.func83,Tryz.ntmps83;go_wp2;go_ret;exact⟨rfl,Aa _ _⟩
   subst c2
   cases Z1 with
   |false=>
    have hE:Al 3 dst n false false false Z2 ln=false:=by simp[Al,c0]
    rw[hE];clear hE;go_enter Tryz.func83,Tryz.ntmps83;go_wp2_with (fail);(with_reducible refine(H1.out _ (Aa _ _)).mono ?_);rintro e w2 ⟨rfl,hb2⟩;have hbw2:=(Aa w _).trans (hb2.mono (by simp));have hlt2:w.heap.size<w2.heap.size:=by(have:=hb2.size;simp at this;omega)
    obtain⟨hc2,hg2⟩:=A8 hb2;go_wp2;go_ret;exact⟨rfl,hbw2⟩
   |true=>
    cases Z2 with
    |false=>
     have hE:Al 3 dst n false true false false ln=false:=by simp[Al,c0]
     rw[hE];clear hE;go_enter Tryz.func83,Tryz.ntmps83;go_wp2_with (fail);(with_reducible refine(H1.out _ (Aa _ _)).mono ?_);rintro e w2 ⟨rfl,hb2⟩;have hbw2:=(Aa w _).trans (hb2.mono (by simp));have hlt2:w.heap.size<w2.heap.size:=by(have:=hb2.size;simp at this;omega)
     obtain⟨hc2,hg2⟩:=A8 hb2;go_wp2_with (fail);(with_reducible refine(H2.out _ hbw2).mono ?_);rintro e w3 ⟨rfl,hb3⟩;obtain⟨hc3,hg3⟩:=A8 hb3;go_wp2;go_ret;exact⟨rfl,hbw2.trans (hb3.mono hbw2.size)⟩
    |true=>
     by_cases c7:ln=0;rotate_left
     . have u:((ln:Int)==0)=false:=by simpa using c7
       have hE:Al 3 dst n false true false true ln=false:=by simp[Al,c0,c7]
       rw[hE];clear hE;go_enter Tryz.func83,Tryz.ntmps83;go_wp2_with (fail);(with_reducible refine(H1.out _ (Aa _ _)).mono ?_);rintro e w2 ⟨rfl,hb2⟩;have hbw2:=(Aa w _).trans (hb2.mono (by simp));have hlt2:w.heap.size<w2.heap.size:=by(have:=hb2.size;simp at this;omega)
       obtain⟨hc2,hg2⟩:=A8 hb2;go_wp2_with (fail);(with_reducible refine(H2.out _ hbw2).mono ?_);rintro e w3 ⟨rfl,hb3⟩;obtain⟨hc3,hg3⟩:=A8 hb3;go_wp2;go_ret;exact⟨rfl,hbw2.trans (hb3.mono hbw2.size)⟩
     subst c7;have hE:Al 3 dst n false true false true 0=true:=by simp[Al,c0]
     rw[hE];clear hE;go_enter Tryz.func83,Tryz.ntmps83;go_wp2_with (fail);(with_reducible refine(H1.out _ (Aa _ _)).mono ?_);rintro e w2 ⟨rfl,hb2⟩;have hbw2:=(Aa w _).trans (hb2.mono (by simp));have hlt2:w.heap.size<w2.heap.size:=by(have:=hb2.size;simp at this;omega)
     obtain⟨hc2,hg2⟩:=A8 hb2;go_wp2_with (fail);(with_reducible refine(H2.out _ hbw2).mono ?_);rintro e w3 ⟨rfl,hb3⟩;obtain⟨hc3,hg3⟩:=A8 hb3;go_wp2;go_ret;exact⟨rfl,hbw2.trans (hb3.mono hbw2.size)⟩
 by_cases e4:k=4
 . subst e4;by_cases c0:dst.toList.isEmpty=true;rotate_left
   . have u:dst.toList.isEmpty=false:=by simpa using c0
     have hE:Al 4 dst n had Z1 has Z2 ln=false:=by simp[Al,u]
     rw[hE];clear hE;go_enter Tryz.func83,Tryz.ntmps83;go_wp2;go_ret;exact⟨rfl,Aa _ _⟩
   by_cases c1:n=0;rotate_left
   . have u:(n==0)=false:=by simpa using c1
     have hE:Al 4 dst n had Z1 has Z2 ln=false:=by simp[Al,c0,c1]
     rw[hE];clear hE;go_enter Tryz.func83,Tryz.ntmps83;go_wp2;go_ret;exact⟨rfl,Aa _ _⟩
   subst c1
   cases had with
   |true=>
    cases has with
    |true=>
     by_cases c7:ln=0;rotate_left
     . have u:((ln:Int)==0)=false:=by simpa using c7
       have hE:Al 4 dst 0 true Z1 true Z2 ln=false:=by simp[Al,c0,c7]
       rw[hE];clear hE;go_enter Tryz.func83,Tryz.ntmps83;go_wp2;go_ret;exact⟨rfl,Aa _ _⟩
     subst c7;have hE:Al 4 dst 0 true Z1 true Z2 0=true:=by simp[Al,c0]
     rw[hE];clear hE;go_enter Tryz.func83,Tryz.ntmps83;go_wp2;go_ret;exact⟨rfl,Aa _ _⟩
    |false=>
     cases Z2 with
     |false=>
      have hE:Al 4 dst 0 true Z1 false false ln=false:=by simp[Al,c0]
      rw[hE];clear hE;go_enter Tryz.func83,Tryz.ntmps83;go_wp2_with (fail);(with_reducible refine(H2.out _ (Aa _ _)).mono ?_);rintro e w3 ⟨rfl,hb3⟩;obtain⟨hc3,hg3⟩:=A8 hb3;have hlt3:w.heap.size<w3.heap.size:=by(have:=hb3.size;simp at this;omega)
      go_wp2;go_ret;exact⟨rfl,(Aa w _).trans (hb3.mono (by simp))⟩
     |true=>
      by_cases c7:ln=0;rotate_left
      . have u:((ln:Int)==0)=false:=by simpa using c7
        have hE:Al 4 dst 0 true Z1 false true ln=false:=by simp[Al,c0,c7]
        rw[hE];clear hE;go_enter Tryz.func83,Tryz.ntmps83;go_wp2_with (fail);(with_reducible refine(H2.out _ (Aa _ _)).mono ?_);rintro e w3 ⟨rfl,hb3⟩;obtain⟨hc3,hg3⟩:=A8 hb3;have hlt3:w.heap.size<w3.heap.size:=by(have:=hb3.size;simp at this;omega)
        go_wp2;go_ret;exact⟨rfl,(Aa w _).trans (hb3.mono (by simp))⟩
      subst c7;have hE:Al 4 dst 0 true Z1 false true 0=true:=by simp[Al,c0]
      rw[hE];clear hE;go_enter Tryz.func83,Tryz.ntmps83;go_wp2_with (fail);(with_reducible refine(H2.out _ (Aa _ _)).mono ?_);rintro e w3 ⟨rfl,hb3⟩;obtain⟨hc3,hg3⟩:=A8 hb3;have hlt3:w.heap.size<w3.heap.size:=by(have:=hb3.size;simp at this;omega)
      go_wp2;go_ret;exact⟨rfl,(Aa w _).trans (hb3.mono (by simp))⟩
   |false=>
    cases Z1 with
    |false=>
     have hE:Al 4 dst 0 false false has Z2 ln=false:=by simp[Al,c0]
     rw[hE];clear hE;go_enter Tryz.func83,Tryz.ntmps83;go_wp2_with (fail);(with_reducible refine(H1.out _ (Aa _ _)).mono ?_);rintro e w2 ⟨rfl,hb2⟩;have hbw2:=(Aa w _).trans (hb2.mono (by simp));have hlt2:w.heap.size<w2.heap.size:=by(have:=hb2.size;simp at this;omega)
     obtain⟨hc2,hg2⟩:=A8 hb2;go_wp2;go_ret;exact⟨rfl,hbw2⟩
    |true=>
     cases has with
     |true=>
      by_cases c7:ln=0;rotate_left
      . have u:((ln:Int)==0)=false:=by simpa using c7
        have hE:Al 4 dst 0 false true true Z2 ln=false:=by simp[Al,c0,c7]
        rw[hE];clear hE;go_enter Tryz.func83,Tryz.ntmps83;go_wp2_with (fail);(with_reducible refine(H1.out _ (Aa _ _)).mono ?_);rintro e w2 ⟨rfl,hb2⟩;have hbw2:=(Aa w _).trans (hb2.mono (by simp));have hlt2:w.heap.size<w2.heap.size:=by(have:=hb2.size;simp at this;omega)
        obtain⟨hc2,hg2⟩:=A8 hb2;go_wp2;go_ret;exact⟨rfl,hbw2⟩
      subst c7;have hE:Al 4 dst 0 false true true Z2 0=true:=by simp[Al,c0]
      rw[hE];clear hE;go_enter Tryz.func83,Tryz.ntmps83;go_wp2_with (fail);(with_reducible refine(H1.out _ (Aa _ _)).mono ?_);rintro e w2 ⟨rfl,hb2⟩;have hbw2:=(Aa w _).trans (hb2.mono (by simp));have hlt2:w.heap.size<w2.heap.size:=by(have:=hb2.size;simp at this;omega)
      obtain⟨hc2,hg2⟩:=A8 hb2;go_wp2;go_ret;exact⟨rfl,hbw2⟩
     |false=>
      cases Z2 with
      |false=>
       have hE:Al 4 dst 0 false true false false ln=false:=by simp[Al,c0]
       rw[hE];clear hE;go_enter Tryz.func83,Tryz.ntmps83;go_wp2_with (fail);(with_reducible refine(H1.out _ (Aa _ _)).mono ?_);rintro e w2 ⟨rfl,hb2⟩;have hbw2:=(Aa w _).trans (hb2.mono (by simp));have hlt2:w.heap.size<w2.heap.size:=by(have:=hb2.size;simp at this;omega)
       obtain⟨hc2,hg2⟩:=A8 hb2;go_wp2_with (fail);(with_reducible refine(H2.out _ hbw2).mono ?_);rintro e w3 ⟨rfl,hb3⟩;obtain⟨hc3,hg3⟩:=A8 hb3;go_wp2;go_ret;exact⟨rfl,hbw2.trans (hb3.mono hbw2.size)⟩
      |true=>
       by_cases c7:ln=0;rotate_left
       . have u:((ln:Int)==0)=false:=by simpa using c7
         have hE:Al 4 dst 0 false true false true ln=false:=by simp[Al,c0,c7]
         rw[hE];clear hE;go_enter Tryz.func83,Tryz.ntmps83;go_wp2_with (fail);(with_reducible refine(H1.out _ (Aa _ _)).mono ?_);rintro e w2 ⟨rfl,hb2⟩;have hbw2:=(Aa w _).trans (hb2.mono (by simp));have hlt2:w.heap.size<w2.heap.size:=by(have:=hb2.size;simp at this;omega)
         obtain⟨hc2,hg2⟩:=A8 hb2;go_wp2_with (fail);(with_reducible refine(H2.out _ hbw2).mono ?_);rintro e w3 ⟨rfl,hb3⟩;obtain⟨hc3,hg3⟩:=A8 hb3;go_wp2;go_ret;exact⟨rfl,hbw2.trans (hb3.mono hbw2.size)⟩
       subst c7;have hE:Al 4 dst 0 false true false true 0=true:=by simp[Al,c0]
       rw[hE];clear hE;go_enter Tryz.func83,Tryz.ntmps83;go_wp2_with (fail);(with_reducible refine(H1.out _ (Aa _ _)).mono ?_);rintro e w2 ⟨rfl,hb2⟩;have hbw2:=(Aa w _).trans (hb2.mono (by simp));have hlt2:w.heap.size<w2.heap.size:=by(have:=hb2.size;simp at this;omega)
       obtain⟨hc2,hg2⟩:=A8 hb2;go_wp2_with (fail);(with_reducible refine(H2.out _ hbw2).mono ?_);rintro e w3 ⟨rfl,hb3⟩;obtain⟨hc3,hg3⟩:=A8 hb3;go_wp2;go_ret;exact⟨rfl,hbw2.trans (hb3.mono hbw2.size)⟩
 by_cases e5:k=5
 . subst e5;by_cases c0:dst.toList.isEmpty=true;rotate_left
   . have u:dst.toList.isEmpty=false:=by simpa using c0
     have hE:Al 5 dst n had Z1 has Z2 ln=false:=by simp[Al,u]
     rw[hE];clear hE;go_enter Tryz.func83,Tryz.ntmps83;go_wp2;go_ret;exact⟨rfl,Aa _ _⟩
   by_cases c1:n=0;rotate_left
   . have u:(n==0)=false:=by simpa using c1
     have hE:Al 5 dst n had Z1 has Z2 ln=false:=by simp[Al,c0,c1]
     rw[hE];clear hE;go_enter Tryz.func83,Tryz.ntmps83;go_wp2;go_ret;exact⟨rfl,Aa _ _⟩
   subst c1;by_cases c2:had=false;rotate_left
   . obtain rfl:had=true:=by simpa using c2
     have hE:Al 5 dst 0 true Z1 has Z2 ln=false:=by simp[Al,c0]
     rw[hE];clear hE;go_enter Tryz.func83,Tryz.ntmps83;go_wp2;go_ret;exact⟨rfl,Aa _ _⟩
   subst c2;by_cases c3:has=false;rotate_left
   . obtain rfl:has=true:=by simpa using c3
     have hE:Al 5 dst 0 false Z1 true Z2 ln=false:=by simp[Al,c0]
     rw[hE];clear hE;go_enter Tryz.func83,Tryz.ntmps83;go_wp2;go_ret;exact⟨rfl,Aa _ _⟩
   subst c3
   cases Z1 with
   |false=>
    have hE:Al 5 dst 0 false false false Z2 ln=false:=by simp[Al,c0]
    rw[hE];clear hE;go_enter Tryz.func83,Tryz.ntmps83;go_wp2_with (fail);(with_reducible refine(H1.out _ (Aa _ _)).mono ?_);rintro e w2 ⟨rfl,hb2⟩;have hbw2:=(Aa w _).trans (hb2.mono (by simp));have hlt2:w.heap.size<w2.heap.size:=by(have:=hb2.size;simp at this;omega)
    obtain⟨hc2,hg2⟩:=A8 hb2;go_wp2;go_ret;exact⟨rfl,hbw2⟩
   |true=>
    by_cases c7:ln=0;rotate_left
    . have u:((ln:Int)==0)=false:=by simpa using c7
      have hE:Al 5 dst 0 false true false Z2 ln=false:=by simp[Al,c0,c7]
      rw[hE];clear hE;go_enter Tryz.func83,Tryz.ntmps83;go_wp2_with (fail);(with_reducible refine(H1.out _ (Aa _ _)).mono ?_);rintro e w2 ⟨rfl,hb2⟩;have hbw2:=(Aa w _).trans (hb2.mono (by simp));have hlt2:w.heap.size<w2.heap.size:=by(have:=hb2.size;simp at this;omega)
      obtain⟨hc2,hg2⟩:=A8 hb2;go_wp2;go_ret;exact⟨rfl,hbw2⟩
    subst c7;have hE:Al 5 dst 0 false true false Z2 0=true:=by simp[Al,c0]
    rw[hE];clear hE;go_enter Tryz.func83,Tryz.ntmps83;go_wp2_with (fail);(with_reducible refine(H1.out _ (Aa _ _)).mono ?_);rintro e w2 ⟨rfl,hb2⟩;have hbw2:=(Aa w _).trans (hb2.mono (by simp));have hlt2:w.heap.size<w2.heap.size:=by(have:=hb2.size;simp at this;omega)
    obtain⟨hc2,hg2⟩:=A8 hb2;go_wp2;go_ret;exact⟨rfl,hbw2⟩
 by_cases e6:k=6
 . subst e6;by_cases c0:n=0;rotate_left
   . have u:(n==0)=false:=by simpa using c0
     have hE:Al 6 dst n had Z1 has Z2 ln=false:=by simp[Al,c0]
     rw[hE];clear hE;go_enter Tryz.func83,Tryz.ntmps83;go_wp2;go_ret;exact⟨rfl,Aa _ _⟩
   subst c0;by_cases c1:had=false;rotate_left
   . obtain rfl:had=true:=by simpa using c1
     have hE:Al 6 dst 0 true Z1 has Z2 ln=false:=by simp[Al]
     rw[hE];clear hE;go_enter Tryz.func83,Tryz.ntmps83;go_wp2;go_ret;exact⟨rfl,Aa _ _⟩
   subst c1;by_cases c2:has=false;rotate_left
   . obtain rfl:has=true:=by simpa using c2
     have hE:Al 6 dst 0 false Z1 true Z2 ln=false:=by simp[Al]
     rw[hE];clear hE;go_enter Tryz.func83,Tryz.ntmps83;go_wp2;go_ret;exact⟨rfl,Aa _ _⟩
   subst c2
   cases Z1 with
   |false=>
    have hE:Al 6 dst 0 false false false Z2 ln=false:=by simp[Al]
    rw[hE];clear hE;go_enter Tryz.func83,Tryz.ntmps83;go_wp2_with (fail);(with_reducible refine(H1.out _ (Aa _ _)).mono ?_);rintro e w2 ⟨rfl,hb2⟩;have hbw2:=(Aa w _).trans (hb2.mono (by simp));have hlt2:w.heap.size<w2.heap.size:=by(have:=hb2.size;simp at this;omega)
    obtain⟨hc2,hg2⟩:=A8 hb2;go_wp2;go_ret;exact⟨rfl,hbw2⟩
   |true=>
    cases Z2 with
    |false=>
     have hE:Al 6 dst 0 false true false false ln=false:=by simp[Al]
     rw[hE];clear hE;go_enter Tryz.func83,Tryz.ntmps83;go_wp2_with (fail);(with_reducible refine(H1.out _ (Aa _ _)).mono ?_);rintro e w2 ⟨rfl,hb2⟩;have hbw2:=(Aa w _).trans (hb2.mono (by simp));have hlt2:w.heap.size<w2.heap.size:=by(have:=hb2.size;simp at this;omega)
     obtain⟨hc2,hg2⟩:=A8 hb2;go_wp2_with (fail);(with_reducible refine(H2.out _ hbw2).mono ?_);rintro e w3 ⟨rfl,hb3⟩;obtain⟨hc3,hg3⟩:=A8 hb3;go_wp2;go_ret;exact⟨rfl,hbw2.trans (hb3.mono hbw2.size)⟩
    |true=>
     by_cases c7:ln=0;rotate_left
     . have u:((ln:Int)==0)=false:=by simpa using c7
       have hE:Al 6 dst 0 false true false true ln=false:=by simp[Al,c7]
       rw[hE];clear hE;go_enter Tryz.func83,Tryz.ntmps83;go_wp2_with (fail);(with_reducible refine(H1.out _ (Aa _ _)).mono ?_);rintro e w2 ⟨rfl,hb2⟩;have hbw2:=(Aa w _).trans (hb2.mono (by simp));have hlt2:w.heap.size<w2.heap.size:=by(have:=hb2.size;simp at this;omega)
       obtain⟨hc2,hg2⟩:=A8 hb2;go_wp2_with (fail);(with_reducible refine(H2.out _ hbw2).mono ?_);rintro e w3 ⟨rfl,hb3⟩;obtain⟨hc3,hg3⟩:=A8 hb3;go_wp2;go_ret;exact⟨rfl,hbw2.trans (hb3.mono hbw2.size)⟩
     subst c7;have hE:Al 6 dst 0 false true false true 0=true:=by simp[Al]
     rw[hE];clear hE;go_enter Tryz.func83,Tryz.ntmps83;go_wp2_with (fail);(with_reducible refine(H1.out _ (Aa _ _)).mono ?_);rintro e w2 ⟨rfl,hb2⟩;have hbw2:=(Aa w _).trans (hb2.mono (by simp));have hlt2:w.heap.size<w2.heap.size:=by(have:=hb2.size;simp at this;omega)
     obtain⟨hc2,hg2⟩:=A8 hb2;go_wp2_with (fail);(with_reducible refine(H2.out _ hbw2).mono ?_);rintro e w3 ⟨rfl,hb3⟩;obtain⟨hc3,hg3⟩:=A8 hb3;go_wp2;go_ret;exact⟨rfl,hbw2.trans (hb3.mono hbw2.size)⟩
 by_cases e7:k=7
 . subst e7;by_cases c0:dst.toList.isEmpty=true;rotate_left
   . have u:dst.toList.isEmpty=false:=by simpa using c0
     have hE:Al 7 dst n had Z1 has Z2 ln=false:=by simp[Al,u]
     rw[hE];clear hE;go_enter Tryz.func83,Tryz.ntmps83;go_wp2;go_ret;exact⟨rfl,Aa _ _⟩
   by_cases c1:n=0;rotate_left
   . have u:(n==0)=false:=by simpa using c1
     have hE:Al 7 dst n had Z1 has Z2 ln=false:=by simp[Al,c0,c1]
     rw[hE];clear hE;go_enter Tryz.func83,Tryz.ntmps83;go_wp2;go_ret;exact⟨rfl,Aa _ _⟩
   subst c1;by_cases c2:has=false;rotate_left
   . obtain rfl:has=true:=by simpa using c2
     have hE:Al 7 dst 0 had Z1 true Z2 ln=false:=by simp[Al,c0]
     rw[hE];clear hE;go_enter Tryz.func83,Tryz.ntmps83;go_wp2;go_ret;exact⟨rfl,Aa _ _⟩
   subst c2
   cases had with
   |true=>
    cases Z2 with
    |false=>
     have hE:Al 7 dst 0 true Z1 false false ln=false:=by simp[Al,c0]
     rw[hE];clear hE;go_enter Tryz.func83,Tryz.ntmps83;go_wp2_with (fail);(with_reducible refine(H2.out _ (Aa _ _)).mono ?_);rintro e w3 ⟨rfl,hb3⟩;obtain⟨hc3,hg3⟩:=A8 hb3;have hlt3:w.heap.size<w3.heap.size:=by(have:=hb3.size;simp at this;omega)
     go_wp2;go_ret;exact⟨rfl,(Aa w _).trans (hb3.mono (by simp))⟩
    |true=>
     have hE:Al 7 dst 0 true Z1 false true ln=true:=by simp[Al,c0]
     rw[hE];clear hE;go_enter Tryz.func83,Tryz.ntmps83;go_wp2_with (fail);(with_reducible refine(H2.out _ (Aa _ _)).mono ?_);rintro e w3 ⟨rfl,hb3⟩;obtain⟨hc3,hg3⟩:=A8 hb3;have hlt3:w.heap.size<w3.heap.size:=by(have:=hb3.size;simp at this;omega)
     go_wp2;go_ret;exact⟨rfl,(Aa w _).trans (hb3.mono (by simp))⟩
   |false=>
    cases Z1 with
    |false=>
     have hE:Al 7 dst 0 false false false Z2 ln=false:=by simp[Al,c0]
     rw[hE];clear hE;go_enter Tryz.func83,Tryz.ntmps83;go_wp2_with (fail);(with_reducible refine(H1.out _ (Aa _ _)).mono ?_);rintro e w2 ⟨rfl,hb2⟩;have hbw2:=(Aa w _).trans (hb2.mono (by simp));have hlt2:w.heap.size<w2.heap.size:=by(have:=hb2.size;simp at this;omega)
     obtain⟨hc2,hg2⟩:=A8 hb2;go_wp2;go_ret;exact⟨rfl,hbw2⟩
    |true=>
     cases Z2 with
     |false=>
      have hE:Al 7 dst 0 false true false false ln=false:=by simp[Al,c0]
      rw[hE];clear hE;go_enter Tryz.func83,Tryz.ntmps83;go_wp2_with (fail);(with_reducible refine(H1.out _ (Aa _ _)).mono ?_);rintro e w2 ⟨rfl,hb2⟩;have hbw2:=(Aa w _).trans (hb2.mono (by simp));have hlt2:w.heap.size<w2.heap.size:=by(have:=hb2.size;simp at this;omega)
      obtain⟨hc2,hg2⟩:=A8 hb2;go_wp2_with (fail);(with_reducible refine(H2.out _ hbw2).mono ?_);rintro e w3 ⟨rfl,hb3⟩;obtain⟨hc3,hg3⟩:=A8 hb3;go_wp2;go_ret;exact⟨rfl,hbw2.trans (hb3.mono hbw2.size)⟩
     |true=>
      have hE:Al 7 dst 0 false true false true ln=true:=by simp[Al,c0]
      rw[hE];clear hE;go_enter Tryz.func83,Tryz.ntmps83;go_wp2_with (fail);(with_reducible refine(H1.out _ (Aa _ _)).mono ?_);rintro e w2 ⟨rfl,hb2⟩;have hbw2:=(Aa w _).trans (hb2.mono (by simp));have hlt2:w.heap.size<w2.heap.size:=by(have:=hb2.size;simp at this;omega)
      obtain⟨hc2,hg2⟩:=A8 hb2;go_wp2_with (fail);(with_reducible refine(H2.out _ hbw2).mono ?_);rintro e w3 ⟨rfl,hb3⟩;obtain⟨hc3,hg3⟩:=A8 hb3;go_wp2;go_ret;exact⟨rfl,hbw2.trans (hb3.mono hbw2.size)⟩
 by_cases e0:k<1
 . have hE:Al k dst n had Z1 has Z2 ln=false:=by unfold Al;rw[show decide (1<=k)=false from by simp;omega];simp
   rw[hE];clear hE e1 e2 e3 e4 e5 e6 e7;go_enter Tryz.func83,Tryz.ntmps83;go_wp2;go_ret;exact⟨rfl,Aa _ _⟩
 . have e8:7<k:=by omega
   have hE:Al k dst n had Z1 has Z2 ln=false:=by unfold Al;rw[show decide (k<=7)=false from by simp;omega];simp
   rw[hE];clear hE e1 e2 e3 e4 e5 e6 e7;go_enter Tryz.func83,Tryz.ntmps83;go_wp2;go_ret;exact⟨rfl,Aa _ _⟩
def Afd (m:Mut):Prop:= ∀(cs:List Value) (d:Int) (w:World),Cl w->Ai w w.heap.size (dM m) cs->Bm m<=100000000->Nv m->1<=d->d<=7->
 Calls Tryz.prog 39 #[.agg cs.toArray,.int .i64 d] w fun e w'=>e=.returned (.int .i64 (Gi m d))/\Below w.heap.size w w'
theorem Ael (k:Int) (key dst:ByteArray) (n:Int) (had:Bool) (k1:Int) (b1:Bool) (n1:Int) (t1:ByteArray) (l1:List Val) (o1:List (ByteArray×Val)) (has:Bool) (k2:Int) (b2:Bool) (n2:Int) (t2:ByteArray) (l2:List Val) (o2:List (ByteArray×Val)) (l:List Mut) (ih: ∀x ∈ l,Afd x):Afd (Mut.mk k key dst n had (.mk k1 b1 n1 t1 l1 o1) has (.mk k2 b2 n2 t2 l2 o2) l):=by
 intro cs d w hT hM hb hi hd1 hd7;obtain⟨la1,lc1,oa1,oc1,la2,lc2,oa2,oc2,a,c,rfl,hv1,hv2,hl⟩:=Bl hM;have hls:=El l;simp only[Bm]at hb;simp only[Nv]at hi;obtain⟨_,hi1,hi2,hi3⟩:=hi;obtain⟨wi,hwi⟩: ∃wi,w.alloc (.cells #[.int .i64 k,.string key,.string dst,.int .i64 n,.bool had,.int .i64 k1,.bool b1,.int .i64 n1,.string t1,.slice la1 l1.length lc1,.slice oa1 o1.length oc1,.bool has,.int .i64 k2,.bool b2,.int .i64 n2,.string t2,.slice la2 l2.length lc2,.slice oa2 o2.length oc2,.slice a l.length c] 45)=wi:=⟨_,rfl⟩;have Hbi:Hid (Below w.heap.size w wi):=hwi▸Aa _ _;have Hxb:Hid (Aj wi w.heap.size 45 #[.int .i64 k,.string key,.string dst,.int .i64 n,.bool had,.int .i64 k1,.bool b1,.int .i64 n1,.string t1,.slice la1 l1.length lc1,.slice oa1 o1.length oc1,.bool has,.int .i64 k2,.bool b2,.int .i64 n2,.string t2,.slice la2 l2.length lc2,.slice oa2 o2.length oc2,.slice a l.length c]):=hwi▸Aj.new _ _ _;have hST:=fun(W:World) (hB:Below w.heap.size w W)=>Zh k key dst n had k1 b1 n1 t1 l1 o1 has k2 b2 n2 t2 l2 o2 l la1 lc1 oa1 oc1 la2 lc2 oa2 oc2 a l.length c W (Ac.more hB.size _ _ (hv1.below hB)) (Ac.more hB.size _ _ (hv2.below hB)) (by omega) (by omega);have hKE:=fun(W:World)=>Ww k key dst had (.int .i64 n) (.int .i64 k1) (.bool b1) (.int .i64 n1) (.string t1) (.slice la1 l1.length lc1) (.slice oa1 o1.length oc1) (.bool has) (.int .i64 k2) (.bool b2) (.int .i64 n2) (.string t2) (.slice la2 l2.length lc2) (.slice oa2 o2.length oc2) (.slice a l.length c) W (by omega) (by omega);have hF1: ∀(W:World) (_:Below w.heap.size w W),Calls Tryz.prog 85 #[.agg #[.int .i64 k1,.bool b1,.int .i64 n1,.string t1,.slice la1 l1.length lc1,.slice oa1 o1.length oc1]] W fun e w'=>e=.returned (.int .i64 (Ex (.mk k1 b1 n1 t1 l1 o1)))/\Below W.heap.size W w':=fun W hB=>Qi _ _ W (hT.below hB) (Ac.more hB.size _ _ (hv1.below hB)) (by omega) hi1;have hF2: ∀(W:World) (_:Below w.heap.size w W),Calls Tryz.prog 85 #[.agg #[.int .i64 k2,.bool b2,.int .i64 n2,.string t2,.slice la2 l2.length lc2,.slice oa2 o2.length oc2]] W fun e w'=>e=.returned (.int .i64 (Ex (.mk k2 b2 n2 t2 l2 o2)))/\Below W.heap.size W w':=fun W hB=>Qi _ _ W (hT.below hB) (Ac.more hB.size _ _ (hv2.below hB)) (by omega) hi2;have hMX:Gi (Mut.mk k key dst n had (.mk k1 b1 n1 t1 l1 o1) has (.mk k2 b2 n2 t2 l2 o2) l) d=Gi (Mut.mk k key dst n had (.mk k1 b1 n1 t1 l1 o1) has (.mk k2 b2 n2 t2 l2 o2) l) d:=rfl
 conv at hMX=>rhs;simp only[Gi]
 generalize Gi (Mut.mk k key dst n had (.mk k1 b1 n1 t1 l1 o1) has (.mk k2 b2 n2 t2 l2 o2) l) d=X at hMX ⊢;generalize Ex (.mk k1 b1 n1 t1 l1 o1)=X1 at hF1 hMX;generalize Ex (.mk k2 b2 n2 t2 l2 o2)=X2 at hF2 hMX;generalize Dq k key dst had=KB at hKE hMX;generalize Al k dst n had (Es (.mk k1 b1 n1 t1 l1 o1)) has (Es (.mk k2 b2 n2 t2 l2 o2)) l.length=BB at hMX hST;clear hM;obtain⟨HST,HKE,HF1,HF2,Hl,Ih,Hi3,HT⟩:=hid8 hST hKE hF1 hF2 hl ih hi3 hT;clear hST hKE hF1 hF2 hl ih hi3 hT
 cases BB with
 |false=>
  rw[if_pos rfl]at hMX;have HE:=qz hMX;clear hMX;go_enter Tryz.func39,Tryz.ntmps39;go_upto_region 1 with(fail);clear hwi
  iterate 2 go_step
  refine Ae 45 (.tmp 2) rfl w.heap.size _ Hxb.out rfl _ Tryz.underlying45 rfl (by kernel_rfl) ?_;go_wp2_with (fail);(with_reducible refine(HST.out _ Hbi.out).mono ?_);rintro e w1 ⟨rfl,hb1⟩;have Hbr1:=qz hb1;have Hbw1:=qz (Hbi.out.trans (hb1.mono Hbi.out.size));have Hx1:=qz (Hxb.out.below hb1 Hxb.out.lt);clear hb1;go_wp2;go_ret;exact⟨by rw[HE.out];rfl,Hbw1.out⟩
 |true=>
 rw[if_neg (by simp)]at hMX;by_cases h6:6<d
 . rw[if_pos h6]at hMX;have HE:=qz hMX;clear hMX;go_enter Tryz.func39,Tryz.ntmps39;go_upto_region 1 with(fail);clear hwi
   iterate 2 go_step
   refine Ae 45 (.tmp 2) rfl w.heap.size _ Hxb.out rfl _ Tryz.underlying45 rfl (by kernel_rfl) ?_;go_wp2_with (fail);(with_reducible refine(HST.out _ Hbi.out).mono ?_);rintro e w1 ⟨rfl,hb1⟩;have Hbr1:=qz hb1;have Hbw1:=qz (Hbi.out.trans (hb1.mono Hbi.out.size));have Hx1:=qz (Hxb.out.below hb1 Hxb.out.lt);clear hb1;go_wp2;go_ret;exact⟨by rw[HE.out];rfl,Hbw1.out⟩
 rw[if_neg h6]at hMX;have h66:d<=6:=by omega
 clear h6
 cases KB with
 |false=>
  rw[if_pos rfl]at hMX;have HE:=qz hMX;clear hMX;go_enter Tryz.func39,Tryz.ntmps39;go_upto_region 1 with(fail);clear hwi
  iterate 2 go_step
  refine Ae 45 (.tmp 2) rfl w.heap.size _ Hxb.out rfl _ Tryz.underlying45 rfl (by kernel_rfl) ?_;go_wp2_with (fail);(with_reducible refine(HST.out _ Hbi.out).mono ?_);rintro e w1 ⟨rfl,hb1⟩;have Hbr1:=qz hb1;have Hbw1:=qz (Hbi.out.trans (hb1.mono Hbi.out.size));have Hx1:=qz (Hxb.out.below hb1 Hxb.out.lt);clear hb1;go_upto_region 5 with(fail)
  iterate 2 go_step
  refine Ae 45 (.tmp 2) rfl w.heap.size _ Hx1.out rfl _ Tryz.underlying45 rfl (by kernel_rfl) ?_;go_wp2_with (fail);(with_reducible refine(HKE.out _).mono ?_);rintro e w2 ⟨rfl,hb2⟩;have Hbr2:=qz (Hbr1.out.trans (hb2.mono Hbr1.out.size));have Hbw2:=qz (Hbw1.out.trans (hb2.mono Hbw1.out.size));have hx2:=Hx1.out.below hb2 Hx1.out.lt;have y4:=hx2.cell 4;have y5:=hx2.cell 5;have y6:=hx2.cell 6;have y7:=hx2.cell 7;have y8:=hx2.cell 8;have y9:=hx2.cell 9;have y10:=hx2.cell 10;have Hx2:=qz hx2;clear hx2;clear hb2;go_wp2;go_ret;exact⟨by rw[HE.out];rfl,Hbw2.out⟩
 |true=>
 rw[if_neg (by simp)]at hMX;by_cases h4:had=true/\X1≠0
 . rw[if_pos h4]at hMX;have HE:=qz hMX;clear hMX;obtain⟨rfl,h40⟩:=h4;have t40:(X1 != 0)=true:=by simpa using h40
   go_enter Tryz.func39,Tryz.ntmps39;go_upto_region 1 with(fail);clear hwi
   iterate 2 go_step
   refine Ae 45 (.tmp 2) rfl w.heap.size _ Hxb.out rfl _ Tryz.underlying45 rfl (by kernel_rfl) ?_;go_wp2_with (fail);(with_reducible refine(HST.out _ Hbi.out).mono ?_);rintro e w1 ⟨rfl,hb1⟩;have Hbr1:=qz hb1;have Hbw1:=qz (Hbi.out.trans (hb1.mono Hbi.out.size));have Hx1:=qz (Hxb.out.below hb1 Hxb.out.lt);clear hb1;go_upto_region 5 with(fail)
   iterate 2 go_step
   refine Ae 45 (.tmp 2) rfl w.heap.size _ Hx1.out rfl _ Tryz.underlying45 rfl (by kernel_rfl) ?_;go_wp2_with (fail);(with_reducible refine(HKE.out _).mono ?_);rintro e w2 ⟨rfl,hb2⟩;have Hbr2:=qz (Hbr1.out.trans (hb2.mono Hbr1.out.size));have Hbw2:=qz (Hbw1.out.trans (hb2.mono Hbw1.out.size));have hx2:=Hx1.out.below hb2 Hx1.out.lt;have y4:=hx2.cell 4;have y5:=hx2.cell 5;have y6:=hx2.cell 6;have y7:=hx2.cell 7;have y8:=hx2.cell 8;have y9:=hx2.cell 9;have y10:=hx2.cell 10;have Hx2:=qz hx2;clear hx2;clear hb2;go_wp2_with (fail);(with_reducible refine(HF1.out _ Hbw2.out).mono ?_);rintro e w3 ⟨rfl,hb3⟩;have hbw3:=Hbw2.out.trans (hb3.mono Hbw2.out.size);go_wp2;go_ret;exact⟨by rw[HE.out];rfl,hbw3⟩
 rw[if_neg h4]at hMX;go_enter Tryz.func39,Tryz.ntmps39;go_upto_region 1 with(fail);clear hwi
 iterate 2 go_step
 refine Ae 45 (.tmp 2) rfl w.heap.size _ Hxb.out rfl _ Tryz.underlying45 rfl (by kernel_rfl) ?_;go_wp2_with (fail);(with_reducible refine(HST.out _ Hbi.out).mono ?_);rintro e w1 ⟨rfl,hb1⟩;have Hbr1:=qz hb1;have Hbw1:=qz (Hbi.out.trans (hb1.mono Hbi.out.size));have Hx1:=qz (Hxb.out.below hb1 Hxb.out.lt);clear hb1;go_upto_region 5 with(fail)
 iterate 2 go_step
 refine Ae 45 (.tmp 2) rfl w.heap.size _ Hx1.out rfl _ Tryz.underlying45 rfl (by kernel_rfl) ?_;go_wp2_with (fail);(with_reducible refine(HKE.out _).mono ?_);rintro e w2 ⟨rfl,hb2⟩;have Hbr2:=qz (Hbr1.out.trans (hb2.mono Hbr1.out.size));have Hbw2:=qz (Hbw1.out.trans (hb2.mono Hbw1.out.size));have hx2:=Hx1.out.below hb2 Hx1.out.lt;have y4:=hx2.cell 4;have y5:=hx2.cell 5;have y6:=hx2.cell 6;have y7:=hx2.cell 7;have y8:=hx2.cell 8;have y9:=hx2.cell 9;have y10:=hx2.cell 10;have Hx2:=qz hx2;clear hx2;clear hb2;go_upto_region 7 with(fail);go_upto_if 18 with(fail);go_cut [] (fun wx=>Hid (Below wi.heap.size wi wx))
 case first=>
  cases had with
  |false=>
   go_wp2;go_meet;exact Hbr2
  |true=>
   obtain rfl:X1=0:=by simpa using h4
   go_wp2_with (fail);(with_reducible refine(HF1.out _ Hbw2.out).mono ?_);rintro e w3 ⟨rfl,hb3⟩;have HB:=qz (Hbr2.out.trans (hb3.mono Hbr2.out.size));clear hb3;go_wp2;go_meet;exact HB
 case rest=>
  obtain⟨wm,hwm⟩: ∃wm:World,wm=wc:=⟨_,rfl⟩;subst hwm;clear Hbr1 Hbr2 Hbw1 Hbw2 Hx1 Hx2 y4 y5 y6 y7 y8 y9 y10 HF1 HST HKE;have hbr3:=hcut.out;have hbw3:=Hbi.out.trans (hbr3.mono Hbi.out.size);have hx3:=Hxb.out.below hbr3 Hxb.out.lt;have y0:=hx3.cell 0;have y11:=hx3.cell 11;have y12:=hx3.cell 12;have y13:=hx3.cell 13;have y14:=hx3.cell 14;have y15:=hx3.cell 15;have y16:=hx3.cell 16;have y17:=hx3.cell 17;have y18:=hx3.cell 18;clear hcut;go_upto_region 11 with(fail);go_cut [36] (fun s wx=>s=.bool (has||decide (k=1)||decide (k=5))/\wx=wm)
  case first=>
   cases has with
   |true=>
    go_wp2;go_meet;exact⟨by simp,rfl⟩
   |false=>
    by_cases e1:k=1
    . subst e1;go_wp2;go_meet;exact⟨by simp,rfl⟩
    have t1:(k==1)=false:=by simpa using e1
    go_wp2;go_meet;exact⟨by simp[e1,Ox],rfl⟩
  case rest=>
  obtain⟨rfl,hwc⟩:=hcut;subst hwc;obtain⟨Hbr3,Hbw3,Hx3⟩:=hid3 hbr3 hbw3 hx3;clear hbr3 hbw3 hx3;generalize (has||decide (k=1)||decide (k=5))=P at hMX;by_cases h5:P=true/\X2≠0
  . rw[if_pos h5]at hMX;have HE:=qz hMX;clear hMX;obtain⟨rfl,h50⟩:=h5;have t50:(X2 != 0)=true:=by simpa using h50
    go_wp2_with (fail);(with_reducible refine(HF2.out _ Hbw3.out).mono ?_);rintro e w4 ⟨rfl,hb4⟩;have hbw4:=Hbw3.out.trans (hb4.mono Hbw3.out.size);go_wp2;go_ret;exact⟨by rw[HE.out];rfl,hbw4⟩
  rw[if_neg h5]at hMX;go_upto_if 36 with(fail);go_cut [] (fun wx=>Hid (Below wi.heap.size wi wx))
  case first=>
   cases P with
   |true=>
    obtain rfl:X2=0:=by
     by_cases h:X2=0
     . exact h
     . exact absurd ⟨rfl,h⟩ h5
    go_wp2_with (fail);(with_reducible refine(HF2.out _ Hbw3.out).mono ?_);rintro e w4 ⟨rfl,hb4⟩;have HB:=qz (Hbr3.out.trans (hb4.mono Hbr3.out.size));clear hb4;go_wp2;go_meet;exact HB
   |false=>
    go_wp2;go_meet;exact Hbr3
  case rest=>
   have Hbr5:=qz hcut.out;clear y0 y11 y12 y13 y14 y15 y16 y17 y18 Hbr3 Hbw3 Hx3 h5 HF2 h4;have HX0:=qz (show Ml (l.drop 0) (d+1)=X from by rw[List.drop_zero];exact hMX.symm);clear hMX;clear hcut;go_wp2_with (fail);go_loopw [7] (fun i wr=> ∃q:Nat,i=.int .i64 q/\q<=l.length/\Hid (Ml (l.drop q) (d+1)=X)/\Hid (Below wi.heap.size wi wr)) (fun i _=>l.length - (intOf i).toNat)
   case atStart=>exact⟨0,rfl,Nat.zero_le _,HX0,Hbr5⟩
   case round=>
    obtain⟨q,rfl,hq,hX,hbr⟩:=hrel;clear HX0 Hbr5;have hbw:=Hbi.out.trans (hbr.out.mono Hbi.out.size);have y18:=(Hxb.out.below hbr.out Hxb.out.lt).cell 18;have hgb:=Nat.lt_of_lt_of_le Hxb.out.lt hbr.out.size;by_cases hlt:q<l.length
    . obtain⟨m,hm⟩: ∃p,l[q]? =some p:=⟨_,List.getElem?_eq_getElem hlt⟩;have hmem:=List.mem_of_getElem? hm;have hbm:=D3 hmem;have hC:=Ih.out m hmem;have hin:=Sg hmem Hi3.out;have hXd:=hX.out;rw[Sn hm]at hXd;obtain⟨k',key',dst',n',had',⟨k1',b1',n1',t1',l1',o1'⟩,has',⟨k2',b2',n2',t2',l2',o2'⟩,l'⟩:=m;have hz:=hbw.size;obtain⟨g,off,rfl,hg,cs',hcs,_,hcell⟩:=Kt (Hl.out.below hbw) hm;obtain⟨la1',lc1',oa1',oc1',la2',lc2',oa2',oc2',a',c',rfl,_,_,_⟩:=Bl hcs;have hrange:wr.rangeAt g (off+q*19) [.int .i64 k',.string key',.string dst',.int .i64 n',.bool had',.int .i64 k1',.bool b1',.int .i64 n1',.string t1',.slice la1' l1'.length lc1',.slice oa1' o1'.length oc1',.bool has',.int .i64 k2',.bool b2',.int .i64 n2',.string t2',.slice la2' l2'.length lc2',.slice oa2' o2'.length oc2',.slice a' l'.length c']:=hcell;have hgr:g<wr.heap.size:=by omega
      have hq1:(q:Int)<(l.length:Int):=by omega
      have hq0:(0:Int)<=q:=by omega
      have hC':Calls Tryz.prog 39 #[.agg #[.int .i64 k',.string key',.string dst',.int .i64 n',.bool had',.int .i64 k1',.bool b1',.int .i64 n1',.string t1',.slice la1' l1'.length lc1',.slice oa1' o1'.length oc1',.bool has',.int .i64 k2',.bool b2',.int .i64 n2',.string t2',.slice la2' l2'.length lc2',.slice oa2' o2'.length oc2',.slice a' l'.length c'],.int .i64 (d+1)] wr fun e w'=>e=.returned (.int .i64 (Gi (Mut.mk k' key' dst' n' had' (.mk k1' b1' n1' t1' l1' o1') has' (.mk k2' b2' n2' t2' l2' o2') l') (d+1)))/\Below wr.heap.size wr w':=hC _ _ wr (HT.out.below hbw) (hcs.more hz) (by omega) hin (by omega) (by omega);generalize Gi (Mut.mk k' key' dst' n' had' (.mk k1' b1' n1' t1' l1' o1') has' (.mk k2' b2' n2' t2' l2' o2') l') (d+1)=Y at hC' hXd;obtain⟨HC',Hbw⟩:=hid2 hC' hbw;clear hC' hbw;clear hC hcs hcell hmem hbm hm hX hin;go_upto_region 18 with(fail)
      iterate 14 go_step
      refine wp_load_mid 45 (.tmp 53) rfl g (off+q*19) rfl [.int .i64 k',.string key',.string dst',.int .i64 n',.bool had',.int .i64 k1',.bool b1',.int .i64 n1',.string t1',.slice la1' l1'.length lc1',.slice oa1' o1'.length oc1',.bool has',.int .i64 k2',.bool b2',.int .i64 n2',.string t2',.slice la2' l2'.length lc2',.slice oa2' o2'.length oc2',.slice a' l'.length c'] _ hrange Tryz.underlying45 rfl (by kernel_rfl) ?_;go_wp2_with (fail);(with_reducible refine(HC'.out).mono ?_);rintro e w6 ⟨rfl,hb6⟩;have hbf:=hbr.out.trans (hb6.mono hbr.out.size);by_cases hY:Y=0
      . subst hY;rw[if_pos rfl]at hXd;obtain⟨HXd,Hbf⟩:=hid2 hXd hbf;clear hXd hbf;clear hb6;go_wp2;go_roundw
        case rel=>exact⟨q+1,by go_num,by omega,HXd,Hbf⟩
        case measure=>simp only[intOf];omega
      . rw[if_neg hY]at hXd;have tY:(Y != 0)=true:=by simpa using hY
        obtain⟨HXd,Hbf⟩:=hid2 hXd hbf;clear hXd hbf;clear hb6;go_wp2;go_ret;exact⟨by rw[<-HXd.out];rfl,Hbi.out.trans (Hbf.out.mono Hbi.out.size)⟩
    . obtain rfl:q=l.length:=by omega
      have hE:=hX.out;rw[List.drop_length]at hE;have hE':X=0:=hE.symm;subst hE';have Hbw:=qz hbw;clear hbw;clear hX hE;go_wp2;go_ret;exact⟨rfl,Hbw.out⟩
theorem Ab8: ∀m,Afd m:=by
 refine Mut.ind ?_;intro k key dst n had was has v l IH;obtain⟨k1,b1,n1,t1,l1,o1⟩:=was;obtain⟨k2,b2,n2,t2,l2,o2⟩:=v;exact Ael k key dst n had k1 b1 n1 t1 l1 o1 has k2 b2 n2 t2 l2 o2 l IH
theorem T6 (m:Mut) (cs:List Value) (w:World) (hT:Cl w) (hM:Ai w w.heap.size (dM m) cs) (hb:Bm m<=100000000) (hi:Nv m):
 Calls Tryz.prog 18 #[.agg cs.toArray] w fun e w'=>e=.returned (.int .i64 (Di m))/\Below w.heap.size w w':=by
 obtain⟨k,key,dst,n,had,⟨k1,b1,n1,t1,l1,o1⟩,has,⟨k2,b2,n2,t2,l2,o2⟩,l⟩:=m;have hM':=hM;obtain⟨la1,lc1,oa1,oc1,la2,lc2,oa2,oc2,a,c,rfl,_,_,_⟩:=Bl hM;obtain⟨wi,hwi⟩: ∃wi,w.alloc (.cells #[.int .i64 k,.string key,.string dst,.int .i64 n,.bool had,.int .i64 k1,.bool b1,.int .i64 n1,.string t1,.slice la1 l1.length lc1,.slice oa1 o1.length oc1,.bool has,.int .i64 k2,.bool b2,.int .i64 n2,.string t2,.slice la2 l2.length lc2,.slice oa2 o2.length oc2,.slice a l.length c] 45)=wi:=⟨_,rfl⟩;have hbi:Below w.heap.size w wi:=hwi▸Aa _ _;have hxb:Aj wi w.heap.size 45 #[.int .i64 k,.string key,.string dst,.int .i64 n,.bool had,.int .i64 k1,.bool b1,.int .i64 n1,.string t1,.slice la1 l1.length lc1,.slice oa1 o1.length oc1,.bool has,.int .i64 k2,.bool b2,.int .i64 n2,.string t2,.slice la2 l2.length lc2,.slice oa2 o2.length oc2,.slice a l.length c]:=hwi▸Aj.new _ _ _;have hS:=Zp _ _ wi ((hM'.below hbi).more hbi.size) hb;have hsz:=Iz (Mut.mk k key dst n had (.mk k1 b1 n1 t1 l1 o1) has (.mk k2 b2 n2 t2 l2 o2) l);have hC: ∀w1,Below wi.heap.size wi w1->Calls Tryz.prog 39 #[.agg #[.int .i64 k,.string key,.string dst,.int .i64 n,.bool had,.int .i64 k1,.bool b1,.int .i64 n1,.string t1,.slice la1 l1.length lc1,.slice oa1 o1.length oc1,.bool has,.int .i64 k2,.bool b2,.int .i64 n2,.string t2,.slice la2 l2.length lc2,.slice oa2 o2.length oc2,.slice a l.length c],.int .i64 1] w1 fun e w'=>e=.returned (.int .i64 (Gi (Mut.mk k key dst n had (.mk k1 b1 n1 t1 l1 o1) has (.mk k2 b2 n2 t2 l2 o2) l) 1))/\Below w1.heap.size w1 w':=fun w1 h1=>by
  have hB:=hbi.trans (h1.mono hbi.size);exact Ab8 _ _ 1 w1 (hT.below hB) ((hM'.below hB).more hB.size) hb hi (by omega) (by omega)
 have hE:Di (Mut.mk k key dst n had (.mk k1 b1 n1 t1 l1 o1) has (.mk k2 b2 n2 t2 l2 o2) l)=if 64<Cy (Mut.mk k key dst n had (.mk k1 b1 n1 t1 l1 o1) has (.mk k2 b2 n2 t2 l2 o2) l)then 6 else Gi (Mut.mk k key dst n had (.mk k1 b1 n1 t1 l1 o1) has (.mk k2 b2 n2 t2 l2 o2) l) 1:=rfl;have hSi:((Cy (Mut.mk k key dst n had (.mk k1 b1 n1 t1 l1 o1) has (.mk k2 b2 n2 t2 l2 o2) l):Nat):Int)<=100000000:=by omega
 have hS0:(0:Int)<=((Cy (Mut.mk k key dst n had (.mk k1 b1 n1 t1 l1 o1) has (.mk k2 b2 n2 t2 l2 o2) l):Nat):Int):=by omega
 by_cases h64:64<Cy (Mut.mk k key dst n had (.mk k1 b1 n1 t1 l1 o1) has (.mk k2 b2 n2 t2 l2 o2) l)
 . rw[if_pos h64]at hE;have t64:(64:Int)<((Cy (Mut.mk k key dst n had (.mk k1 b1 n1 t1 l1 o1) has (.mk k2 b2 n2 t2 l2 o2) l):Nat):Int):=by omega
   generalize ((Cy (Mut.mk k key dst n had (.mk k1 b1 n1 t1 l1 o1) has (.mk k2 b2 n2 t2 l2 o2) l):Nat):Int)=Z at hS hSi hS0 t64;obtain⟨HS,Hxb,Hbi,HE⟩:=hid4 hS hxb hbi hE;clear hS hxb hbi hE;clear hC hM' hM hb hi hsz h64;go_enter Tryz.func18,Tryz.ntmps18;go_upto_region 1 with(fail);clear hwi
   iterate 2 go_step
   refine Ae 45 (.tmp 1) rfl w.heap.size _ Hxb.out rfl _ Tryz.underlying45 rfl (by kernel_rfl) ?_;go_wp2_with (fail);(with_reducible refine(HS.out).mono ?_);rintro e w1 ⟨rfl,hb1⟩;go_wp2;go_ret;exact⟨by rw[HE.out];rfl,Hbi.out.trans (hb1.mono Hbi.out.size)⟩
 . rw[if_neg h64]at hE;have t64:((Cy (Mut.mk k key dst n had (.mk k1 b1 n1 t1 l1 o1) has (.mk k2 b2 n2 t2 l2 o2) l):Nat):Int)<=64:=by omega
   generalize ((Cy (Mut.mk k key dst n had (.mk k1 b1 n1 t1 l1 o1) has (.mk k2 b2 n2 t2 l2 o2) l):Nat):Int)=Z at hS hSi hS0 t64;obtain⟨HS,Hxb,Hbi,HE,HC⟩:=hid5 hS hxb hbi hE hC;clear hS hxb hbi hE hC;clear hM' hM hb hi hsz h64;go_enter Tryz.func18,Tryz.ntmps18;go_upto_region 1 with(fail);clear hwi
   iterate 2 go_step
   refine Ae 45 (.tmp 1) rfl w.heap.size _ Hxb.out rfl _ Tryz.underlying45 rfl (by kernel_rfl) ?_;go_wp2_with (fail);(with_reducible refine(HS.out).mono ?_);rintro e w1 ⟨rfl,hb1⟩;go_upto_region 3 with(fail)
   iterate 2 go_step
   refine Ae 45 (.tmp 1) rfl w.heap.size _ (Hxb.out.below hb1 Hxb.out.lt) rfl _ Tryz.underlying45 rfl (by kernel_rfl) ?_;go_wp2_with (fail);(with_reducible refine(HC.out _ hb1).mono ?_);rintro e w2 ⟨rfl,hb2⟩;go_wp2;go_ret;exact⟨by rw[HE.out];rfl,(Hbi.out.trans (hb1.mono Hbi.out.size)).trans (hb2.mono (Nat.le_trans Hbi.out.size hb1.size))⟩
end Go.Proofs.YtobmaegpfbheoaaGreatDoor
