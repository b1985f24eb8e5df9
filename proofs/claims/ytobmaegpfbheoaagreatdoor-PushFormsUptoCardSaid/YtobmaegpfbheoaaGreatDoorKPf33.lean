/- Parts: The reference's bare: has a mutator just what its Kind names? Condition: values of a bulk of at most 10^8. -/
import Derived.Test.YtobmaegpfbheoaaGreatDoorKPf30
set_option maxHeartbeats 20000000
set_option maxRecDepth 100000
namespace Go.Proofs.YtobmaegpfbheoaaGreatDoor
open Go.RowKit
theorem Tk (k:Int) (key dst:ByteArray) (n:Int) (had:Bool) (k1:Int) (b1:Bool) (n1:Int) (t1:ByteArray) (l1:List Val) (o1:List (ByteArray×Val)) (has:Bool) (k2:Int) (b2:Bool) (n2:Int) (t2:ByteArray) (l2:List Val) (o2:List (ByteArray×Val)) (_:List Mut) (la1:Option Addr) (lc1:Nat) (oa1:Option Addr) (oc1:Nat) (la2:Option Addr) (lc2:Nat) (oa2:Option Addr) (oc2:Nat) (a:Option Addr) (ln c:Nat) (w:World)
 (hv1:Ab w w.heap.size (.mk k1 b1 n1 t1 l1 o1) [.int .i64 k1,.bool b1,.int .i64 n1,.string t1,.slice la1 l1.length lc1,.slice oa1 o1.length oc1]) (hv2:Ab w w.heap.size (.mk k2 b2 n2 t2 l2 o2) [.int .i64 k2,.bool b2,.int .i64 n2,.string t2,.slice la2 l2.length lc2,.slice oa2 o2.length oc2]) (hb1:(Val.mk k1 b1 n1 t1 l1 o1).bulk<=100000000) (hb2:(Val.mk k2 b2 n2 t2 l2 o2).bulk<=100000000):
 Calls Tryz.prog 83 #[.agg #[.int .i64 k,.string key,.string dst,.int .i64 n,.bool had,.int .i64 k1,.bool b1,.int .i64 n1,.string t1,.slice la1 l1.length lc1,.slice oa1 o1.length oc1,.bool has,.int .i64 k2,.bool b2,.int .i64 n2,.string t2,.slice la2 l2.length lc2,.slice oa2 o2.length oc2,.slice a ln c]] w fun e w'=>e=.returned (.bool (Ai k dst n had (Cx (.mk k1 b1 n1 t1 l1 o1)) has (Cx (.mk k2 b2 n2 t2 l2 o2)) ln))/\Below w.heap.size w w':=by
 obtain⟨Z1,hZ1⟩: ∃Z,Cx (.mk k1 b1 n1 t1 l1 o1)=Z:=⟨_,rfl⟩;obtain⟨Z2,hZ2⟩: ∃Z,Cx (.mk k2 b2 n2 t2 l2 o2)=Z:=⟨_,rfl⟩;have H1:Hid (∀W,Below w.heap.size w W->Calls Tryz.prog 129 #[.agg #[.int .i64 k1,.bool b1,.int .i64 n1,.string t1,.slice la1 l1.length lc1,.slice oa1 o1.length oc1]] W fun e w'=>e=.returned (.bool Z1)/\Below W.heap.size W w'):=fun W hB=>Jn _ _ W (Ab.more hB.size _ _ (hv1.below hB)) hb1 hZ1;have H2:Hid (∀W,Below w.heap.size w W->Calls Tryz.prog 129 #[.agg #[.int .i64 k2,.bool b2,.int .i64 n2,.string t2,.slice la2 l2.length lc2,.slice oa2 o2.length oc2]] W fun e w'=>e=.returned (.bool Z2)/\Below W.heap.size W w'):=fun W hB=>Jn _ _ W (Ab.more hB.size _ _ (hv2.below hB)) hb2 hZ2;rw[hZ1,hZ2];clear hZ1 hZ2 hv1 hv2 hb1 hb2;by_cases e1:k=1
 . subst e1;by_cases c0:dst.toList.isEmpty=true;rotate_left
   . have u:dst.toList.isEmpty=false:=by simpa using c0
     have hE:Ai 1 dst n had Z1 has Z2 ln=false:=by simp[Ai,u]
     rw[hE];clear hE;go_enter Tryz.func83,Tryz.ntmps83;go_wp2;go_ret;exact⟨rfl,Aa _ _⟩
   by_cases c1:n=0;rotate_left
   . have u:(n==0)=false:=by simpa using c1
     have hE:Ai 1 dst n had Z1 has Z2 ln=false:=by simp[Ai,c0,c1]
     rw[hE];clear hE;go_enter Tryz.func83,Tryz.ntmps83;go_wp2;go_ret;exact⟨rfl,Aa _ _⟩
   subst c1;by_cases c2:had=false;rotate_left
   . obtain rfl:had=true:=by simpa using c2
     have hE:Ai 1 dst 0 true Z1 has Z2 ln=false:=by simp[Ai,c0]
     rw[hE];clear hE;go_enter Tryz.func83,Tryz.ntmps83;go_wp2;go_ret;exact⟨rfl,Aa _ _⟩
   subst c2;by_cases c3:has=false;rotate_left
   . obtain rfl:has=true:=by simpa using c3
     have hE:Ai 1 dst 0 false Z1 true Z2 ln=false:=by simp[Ai,c0]
     rw[hE];clear hE;go_enter Tryz.func83,Tryz.ntmps83;go_wp2;go_ret;exact⟨rfl,Aa _ _⟩
   subst c3
   cases Z1 with
   |false=>
    have hE:Ai 1 dst 0 false false false Z2 ln=false:=by simp[Ai,c0]
    rw[hE];clear hE;go_enter Tryz.func83,Tryz.ntmps83;go_wp2_with (fail);(with_reducible refine(H1.out _ (Aa _ _)).mono ?_);rintro e w2 ⟨rfl,hb2⟩;have hbw2:=(Aa w _).trans (hb2.mono (by simp));have hlt2:w.heap.size<w2.heap.size:=by(have:=hb2.size;simp at this;omega)
    obtain⟨hc2,hg2⟩:=At hb2;go_wp2;go_ret;exact⟨rfl,hbw2⟩
   |true=>
    by_cases c7:ln=0;rotate_left
    . have u:((ln:Int)==0)=false:=by simpa using c7
      have hE:Ai 1 dst 0 false true false Z2 ln=false:=by simp[Ai,c0,c7]
      rw[hE];clear hE;go_enter Tryz.func83,Tryz.ntmps83;go_wp2_with (fail);(with_reducible refine(H1.out _ (Aa _ _)).mono ?_);rintro e w2 ⟨rfl,hb2⟩;have hbw2:=(Aa w _).trans (hb2.mono (by simp));have hlt2:w.heap.size<w2.heap.size:=by(have:=hb2.size;simp at this;omega)
      obtain⟨hc2,hg2⟩:=At hb2;go_wp2;go_ret;exact⟨rfl,hbw2⟩
    subst c7;have hE:Ai 1 dst 0 false true false Z2 0=true:=by simp[Ai,c0]
    rw[hE];clear hE;go_enter Tryz.func83,Tryz.ntmps83;go_wp2_with (fail);(with_reducible refine(H1.out _ (Aa _ _)).mono ?_);rintro e w2 ⟨rfl,hb2⟩;have hbw2:=(Aa w _).trans (hb2.mono (by simp));have hlt2:w.heap.size<w2.heap.size:=by(have:=hb2.size;simp at this;omega)
    obtain⟨hc2,hg2⟩:=At hb2;go_wp2;go_ret;exact⟨rfl,hbw2⟩
 by_cases e2:k=2
 . subst e2;by_cases c0:dst.toList.isEmpty=true;rotate_left
   . have u:dst.toList.isEmpty=false:=by simpa using c0
     have hE:Ai 2 dst n had Z1 has Z2 ln=false:=by simp[Ai,u]
     rw[hE];clear hE;go_enter Tryz.func83,Tryz.ntmps83;go_wp2;go_ret;exact⟨rfl,Aa _ _⟩
   by_cases c1:n=0;rotate_left
   . have u:(n==0)=false:=by simpa using c1
     have hE:Ai 2 dst n had Z1 has Z2 ln=false:=by simp[Ai,c0,c1]
     rw[hE];clear hE;go_enter Tryz.func83,Tryz.ntmps83;go_wp2;go_ret;exact⟨rfl,Aa _ _⟩
   subst c1;by_cases c2:had=false;rotate_left
   . obtain rfl:had=true:=by simpa using c2
     have hE:Ai 2 dst 0 true Z1 has Z2 ln=false:=by simp[Ai,c0]
     rw[hE];clear hE;go_enter Tryz.func83,Tryz.ntmps83;go_wp2;go_ret;exact⟨rfl,Aa _ _⟩
   subst c2;by_cases c3:has=false;rotate_left
   . obtain rfl:has=true:=by simpa using c3
     have hE:Ai 2 dst 0 false Z1 true Z2 ln=false:=by simp[Ai,c0]
     rw[hE];clear hE;go_enter Tryz.func83,Tryz.ntmps83;go_wp2;go_ret;exact⟨rfl,Aa _ _⟩
   subst c3
   cases Z1 with
   |false=>
    have hE:Ai 2 dst 0 false false false Z2 ln=false:=by simp[Ai,c0]
    rw[hE];clear hE;go_enter Tryz.func83,Tryz.ntmps83;go_wp2_with (fail);(with_reducible refine(H1.out _ (Aa _ _)).mono ?_);rintro e w2 ⟨rfl,hb2⟩;have hbw2:=(Aa w _).trans (hb2.mono (by simp));have hlt2:w.heap.size<w2.heap.size:=by(have:=hb2.size;simp at this;omega)
    obtain⟨hc2,hg2⟩:=At hb2;go_wp2;go_ret;exact⟨rfl,hbw2⟩
   |true=>
    cases Z2 with
    |false=>
     have hE:Ai 2 dst 0 false true false false ln=false:=by simp[Ai,c0]
     rw[hE];clear hE;go_enter Tryz.func83,Tryz.ntmps83;go_wp2_with (fail);(with_reducible refine(H1.out _ (Aa _ _)).mono ?_);rintro e w2 ⟨rfl,hb2⟩;have hbw2:=(Aa w _).trans (hb2.mono (by simp));have hlt2:w.heap.size<w2.heap.size:=by(have:=hb2.size;simp at this;omega)
     obtain⟨hc2,hg2⟩:=At hb2;go_wp2_with (fail);(with_reducible refine(H2.out _ hbw2).mono ?_);rintro e w3 ⟨rfl,hb3⟩;obtain⟨hc3,hg3⟩:=At hb3;go_wp2;go_ret;exact⟨rfl,hbw2.trans (hb3.mono hbw2.size)⟩
    |true=>
     by_cases c7:ln=0;rotate_left
     . have u:((ln:Int)==0)=false:=by simpa using c7
       have hE:Ai 2 dst 0 false true false true ln=false:=by simp[Ai,c0,c7]
       rw[hE];clear hE;go_enter Tryz.func83,Tryz.ntmps83;go_wp2_with (fail);(with_reducible refine(H1.out _ (Aa _ _)).mono ?_);rintro e w2 ⟨rfl,hb2⟩;have hbw2:=(Aa w _).trans (hb2.mono (by simp));have hlt2:w.heap.size<w2.heap.size:=by(have:=hb2.size;simp at this;omega)
       obtain⟨hc2,hg2⟩:=At hb2;go_wp2_with (fail);(with_reducible refine(H2.out _ hbw2).mono ?_);rintro e w3 ⟨rfl,hb3⟩;obtain⟨hc3,hg3⟩:=At hb3;go_wp2;go_ret;exact⟨rfl,hbw2.trans (hb3.mono hbw2.size)⟩
     subst c7;have hE:Ai 2 dst 0 false true false true 0=true:=by simp[Ai,c0]
     rw[hE];clear hE;go_enter Tryz.func83,Tryz.ntmps83;go_wp2_with (fail);(with_reducible refine(H1.out _ (Aa _ _)).mono ?_);rintro e w2 ⟨rfl,hb2⟩;have hbw2:=(Aa w _).trans (hb2.mono (by simp));have hlt2:w.heap.size<w2.heap.size:=by(have:=hb2.size;simp at this;omega)
     obtain⟨hc2,hg2⟩:=At hb2;go_wp2_with (fail);(with_reducible refine(H2.out _ hbw2).mono ?_);rintro e w3 ⟨rfl,hb3⟩;obtain⟨hc3,hg3⟩:=At hb3;go_wp2;go_ret;exact⟨rfl,hbw2.trans (hb3.mono hbw2.size)⟩
 by_cases e3:k=3
 . subst e3;by_cases c0:dst.toList.isEmpty=true;rotate_left
   . have u:dst.toList.isEmpty=false:=by simpa using c0
     have hE:Ai 3 dst n had Z1 has Z2 ln=false:=by simp[Ai,u]
     rw[hE];clear hE;go_enter Tryz.func83,Tryz.ntmps83;go_wp2;go_ret;exact⟨rfl,Aa _ _⟩
   by_cases c1:had=false;rotate_left
   . obtain rfl:had=true:=by simpa using c1
     have hE:Ai 3 dst n true Z1 has Z2 ln=false:=by simp[Ai,c0]
     rw[hE];clear hE;go_enter Tryz.func83,Tryz.ntmps83;go_wp2;go_ret;exact⟨rfl,Aa _ _⟩
   subst c1;by_cases c2:has=false;rotate_left
   . obtain rfl:has=true:=by simpa using c2
     have hE:Ai 3 dst n false Z1 true Z2 ln=false:=by simp[Ai,c0]
     rw[hE];clear hE;go_enter Tryz.func83,Tryz.ntmps83;go_wp2;go_ret;exact⟨rfl,Aa _ _⟩
   subst c2
   cases Z1 with
   |false=>
    have hE:Ai 3 dst n false false false Z2 ln=false:=by simp[Ai,c0]
    rw[hE];clear hE;go_enter Tryz.func83,Tryz.ntmps83;go_wp2_with (fail);(with_reducible refine(H1.out _ (Aa _ _)).mono ?_);rintro e w2 ⟨rfl,hb2⟩;have hbw2:=(Aa w _).trans (hb2.mono (by simp));have hlt2:w.heap.size<w2.heap.size:=by(have:=hb2.size;simp at this;omega)
    obtain⟨hc2,hg2⟩:=At hb2;go_wp2;go_ret;exact⟨rfl,hbw2⟩
   |true=>
    cases Z2 with
    |false=>
     have hE:Ai 3 dst n false true false false ln=false:=by simp[Ai,c0]
     rw[hE];clear hE;go_enter Tryz.func83,Tryz.ntmps83;go_wp2_with (fail);(with_reducible refine(H1.out _ (Aa _ _)).mono ?_);rintro e w2 ⟨rfl,hb2⟩;have hbw2:=(Aa w _).trans (hb2.mono (by simp));have hlt2:w.heap.size<w2.heap.size:=by(have:=hb2.size;simp at this;omega)
     obtain⟨hc2,hg2⟩:=At hb2;go_wp2_with (fail);(with_reducible refine(H2.out _ hbw2).mono ?_);rintro e w3 ⟨rfl,hb3⟩;obtain⟨hc3,hg3⟩:=At hb3;go_wp2;go_ret;exact⟨rfl,hbw2.trans (hb3.mono hbw2.size)⟩
    |true=>
     by_cases c7:ln=0;rotate_left
     . have u:((ln:Int)==0)=false:=by simpa using c7
       have hE:Ai 3 dst n false true false true ln=false:=by simp[Ai,c0,c7]
       rw[hE];clear hE;go_enter Tryz.func83,Tryz.ntmps83;go_wp2_with (fail);(with_reducible refine(H1.out _ (Aa _ _)).mono ?_);rintro e w2 ⟨rfl,hb2⟩;have hbw2:=(Aa w _).trans (hb2.mono (by simp));have hlt2:w.heap.size<w2.heap.size:=by(have:=hb2.size;simp at this;omega)
       obtain⟨hc2,hg2⟩:=At hb2;go_wp2_with (fail);(with_reducible refine(H2.out _ hbw2).mono ?_);rintro e w3 ⟨rfl,hb3⟩;obtain⟨hc3,hg3⟩:=At hb3;go_wp2;go_ret;exact⟨rfl,hbw2.trans (hb3.mono hbw2.size)⟩
     subst c7;have hE:Ai 3 dst n false true false true 0=true:=by simp[Ai,c0]
     rw[hE];clear hE;go_enter Tryz.func83,Tryz.ntmps83;go_wp2_with (fail);(with_reducible refine(H1.out _ (Aa _ _)).mono ?_);rintro e w2 ⟨rfl,hb2⟩;have hbw2:=(Aa w _).trans (hb2.mono (by simp));have hlt2:w.heap.size<w2.heap.size:=by(have:=hb2.size;simp at this;omega)
     obtain⟨hc2,hg2⟩:=At hb2;go_wp2_with (fail);(with_reducible refine(H2.out _ hbw2).mono ?_);rintro e w3 ⟨rfl,hb3⟩;obtain⟨hc3,hg3⟩:=At hb3;go_wp2;go_ret;exact⟨rfl,hbw2.trans (hb3.mono hbw2.size)⟩
 by_cases e4:k=4
 . subst e4;by_cases c0:dst.toList.isEmpty=true;rotate_left
   . have u:dst.toList.isEmpty=false:=by simpa using c0
     have hE:Ai 4 dst n had Z1 has Z2 ln=false:=by simp[Ai,u]
     rw[hE];clear hE;go_enter Tryz.func83,Tryz.ntmps83;go_wp2;go_ret;exact⟨rfl,Aa _ _⟩
   by_cases c1:n=0;rotate_left
   . have u:(n==0)=false:=by simpa using c1
     have hE:Ai 4 dst n had Z1 has Z2 ln=false:=by simp[Ai,c0,c1]
     rw[hE];clear hE;go_enter Tryz.func83,Tryz.ntmps83;go_wp2;go_ret;exact⟨rfl,Aa _ _⟩
   subst c1
   cases had with
   |true=>
    cases has with
    |true=>
     by_cases c7:ln=0;rotate_left
     . have u:((ln:Int)==0)=false:=by simpa using c7
       have hE:Ai 4 dst 0 true Z1 true Z2 ln=false:=by simp[Ai,c0,c7]
       rw[hE];clear hE;go_enter Tryz.func83,Tryz.ntmps83;go_wp2;go_ret;exact⟨rfl,Aa _ _⟩
     subst c7;have hE:Ai 4 dst 0 true Z1 true Z2 0=true:=by simp[Ai,c0]
     rw[hE];clear hE;go_enter Tryz.func83,Tryz.ntmps83;go_wp2;go_ret;exact⟨rfl,Aa _ _⟩
    |false=>
     cases Z2 with
     |false=>
      have hE:Ai 4 dst 0 true Z1 false false ln=false:=by simp[Ai,c0]
      rw[hE];clear hE;go_enter Tryz.func83,Tryz.ntmps83;go_wp2_with (fail);(with_reducible refine(H2.out _ (Aa _ _)).mono ?_);rintro e w3 ⟨rfl,hb3⟩;obtain⟨hc3,hg3⟩:=At hb3;have hlt3:w.heap.size<w3.heap.size:=by(have:=hb3.size;simp at this;omega)
      go_wp2;go_ret;exact⟨rfl,(Aa w _).trans (hb3.mono (by simp))⟩
     |true=>
      by_cases c7:ln=0;rotate_left
      . have u:((ln:Int)==0)=false:=by simpa using c7
        have hE:Ai 4 dst 0 true Z1 false true ln=false:=by simp[Ai,c0,c7]
        rw[hE];clear hE;go_enter Tryz.func83,Tryz.ntmps83;go_wp2_with (fail);(with_reducible refine(H2.out _ (Aa _ _)).mono ?_);rintro e w3 ⟨rfl,hb3⟩;obtain⟨hc3,hg3⟩:=At hb3;have hlt3:w.heap.size<w3.heap.size:=by(have:=hb3.size;simp at this;omega)
        go_wp2;go_ret;exact⟨rfl,(Aa w _).trans (hb3.mono (by simp))⟩
      subst c7;have hE:Ai 4 dst 0 true Z1 false true 0=true:=by simp[Ai,c0]
      rw[hE];clear hE;go_enter Tryz.func83,Tryz.ntmps83;go_wp2_with (fail);(with_reducible refine(H2.out _ (Aa _ _)).mono ?_);rintro e w3 ⟨rfl,hb3⟩;obtain⟨hc3,hg3⟩:=At hb3;have hlt3:w.heap.size<w3.heap.size:=by(have:=hb3.size;simp at this;omega)
      go_wp2;go_ret;exact⟨rfl,(Aa w _).trans (hb3.mono (by simp))⟩
   |false=>
    cases Z1 with
    |false=>
     have hE:Ai 4 dst 0 false false has Z2 ln=false:=by simp[Ai,c0]
     rw[hE];clear hE;go_enter Tryz.func83,Tryz.ntmps83;go_wp2_with (fail);(with_reducible refine(H1.out _ (Aa _ _)).mono ?_);rintro e w2 ⟨rfl,hb2⟩;have hbw2:=(Aa w _).trans (hb2.mono (by simp));have hlt2:w.heap.size<w2.heap.size:=by(have:=hb2.size;simp at this;omega)
     obtain⟨hc2,hg2⟩:=At hb2;go_wp2;go_ret;exact⟨rfl,hbw2⟩
    |true=>
     cases has with
     |true=>
      by_cases c7:ln=0;rotate_left
      . have u:((ln:Int)==0)=false:=by simpa using c7
        have hE:Ai 4 dst 0 false true true Z2 ln=false:=by simp[Ai,c0,c7]
        rw[hE];clear hE;go_enter Tryz.func83,Tryz.ntmps83;go_wp2_with (fail);(with_reducible refine(H1.out _ (Aa _ _)).mono ?_);rintro e w2 ⟨rfl,hb2⟩;have hbw2:=(Aa w _).trans (hb2.mono (by simp));have hlt2:w.heap.size<w2.heap.size:=by(have:=hb2.size;simp at this;omega)
        obtain⟨hc2,hg2⟩:=At hb2;go_wp2;go_ret;exact⟨rfl,hbw2⟩
      subst c7;have hE:Ai 4 dst 0 false true true Z2 0=true:=by simp[Ai,c0]
      rw[hE];clear hE;go_enter Tryz.func83,Tryz.ntmps83;go_wp2_with (fail);(with_reducible refine(H1.out _ (Aa _ _)).mono ?_);rintro e w2 ⟨rfl,hb2⟩;have hbw2:=(Aa w _).trans (hb2.mono (by simp));have hlt2:w.heap.size<w2.heap.size:=by(have:=hb2.size;simp at this;omega)
      obtain⟨hc2,hg2⟩:=At hb2;go_wp2;go_ret;exact⟨rfl,hbw2⟩
     |false=>
      cases Z2 with
      |false=>
       have hE:Ai 4 dst 0 false true false false ln=false:=by simp[Ai,c0]
       rw[hE];clear hE;go_enter Tryz.func83,Tryz.ntmps83;go_wp2_with (fail);(with_reducible refine(H1.out _ (Aa _ _)).mono ?_);rintro e w2 ⟨rfl,hb2⟩;have hbw2:=(Aa w _).trans (hb2.mono (by simp));have hlt2:w.heap.size<w2.heap.size:=by(have:=hb2.size;simp at this;omega)
       obtain⟨hc2,hg2⟩:=At hb2;go_wp2_with (fail);(with_reducible refine(H2.out _ hbw2).mono ?_);rintro e w3 ⟨rfl,hb3⟩;obtain⟨hc3,hg3⟩:=At hb3;go_wp2;go_ret;exact⟨rfl,hbw2.trans (hb3.mono hbw2.size)⟩
      |true=>
       by_cases c7:ln=0;rotate_left
       . have u:((ln:Int)==0)=false:=by simpa using c7
         have hE:Ai 4 dst 0 false true false true ln=false:=by simp[Ai,c0,c7]
         rw[hE];clear hE;go_enter Tryz.func83,Tryz.ntmps83;go_wp2_with (fail);(with_reducible refine(H1.out _ (Aa _ _)).mono ?_);rintro e w2 ⟨rfl,hb2⟩;have hbw2:=(Aa w _).trans (hb2.mono (by simp));have hlt2:w.heap.size<w2.heap.size:=by(have:=hb2.size;simp at this;omega)
         obtain⟨hc2,hg2⟩:=At hb2;go_wp2_with (fail);(with_reducible refine(H2.out _ hbw2).mono ?_);rintro e w3 ⟨rfl,hb3⟩;obtain⟨hc3,hg3⟩:=At hb3;go_wp2;go_ret;exact⟨rfl,hbw2.trans (hb3.mono hbw2.size)⟩
       subst c7;have hE:Ai 4 dst 0 false true false true 0=true:=by simp[Ai,c0]
       rw[hE];clear hE;go_enter Tryz.func83,Tryz.ntmps83;go_wp2_with (fail);(with_reducible refine(H1.out _ (Aa _ _)).mono ?_);rintro e w2 ⟨rfl,hb2⟩;have hbw2:=(Aa w _).trans (hb2.mono (by simp));have hlt2:w.heap.size<w2.heap.size:=by(have:=hb2.size;simp at this;omega)
       obtain⟨hc2,hg2⟩:=At hb2;go_wp2_with (fail);(with_reducible refine(H2.out _ hbw2).mono ?_);rintro e w3 ⟨rfl,hb3⟩;obtain⟨hc3,hg3⟩:=At hb3;go_wp2;go_ret;exact⟨rfl,hbw2.trans (hb3.mono hbw2.size)⟩
 by_cases e5:k=5
 . subst e5;by_cases c0:dst.toList.isEmpty=true;rotate_left
   . have u:dst.toList.isEmpty=false:=by simpa using c0
     have hE:Ai 5 dst n had Z1 has Z2 ln=false:=by simp[Ai,u]
     rw[hE];clear hE;go_enter Tryz.func83,Tryz.ntmps83;go_wp2;go_ret;exact⟨rfl,Aa _ _⟩
   by_cases c1:n=0;rotate_left
   . have u:(n==0)=false:=by simpa using c1
     have hE:Ai 5 dst n had Z1 has Z2 ln=false:=by simp[Ai,c0,c1]
     rw[hE];clear hE;go_enter Tryz.func83,Tryz.ntmps83;go_wp2;go_ret;exact⟨rfl,Aa _ _⟩
   subst c1;by_cases c2:had=false;rotate_left
   . obtain rfl:had=true:=by simpa using c2
     have hE:Ai 5 dst 0 true Z1 has Z2 ln=false:=by simp[Ai,c0]
     rw[hE];clear hE;go_enter Tryz.func83,Tryz.ntmps83;go_wp2;go_ret;exact⟨rfl,Aa _ _⟩
   subst c2;by_cases c3:has=false;rotate_left
   . obtain rfl:has=true:=by simpa using c3
     have hE:Ai 5 dst 0 false Z1 true Z2 ln=false:=by simp[Ai,c0]
     rw[hE];clear hE;go_enter Tryz.func83,Tryz.ntmps83;go_wp2;go_ret;exact⟨rfl,Aa _ _⟩
   subst c3
   cases Z1 with
   |false=>
    have hE:Ai 5 dst 0 false false false Z2 ln=false:=by simp[Ai,c0]
    rw[hE];clear hE;go_enter Tryz.func83,Tryz.ntmps83;go_wp2_with (fail);(with_reducible refine(H1.out _ (Aa _ _)).mono ?_);rintro e w2 ⟨rfl,hb2⟩;have hbw2:=(Aa w _).trans (hb2.mono (by simp));have hlt2:w.heap.size<w2.heap.size:=by(have:=hb2.size;simp at this;omega)
    obtain⟨hc2,hg2⟩:=At hb2;go_wp2;go_ret;exact⟨rfl,hbw2⟩
   |true=>
    by_cases c7:ln=0;rotate_left
    . have u:((ln:Int)==0)=false:=by simpa using c7
      have hE:Ai 5 dst 0 false true false Z2 ln=false:=by simp[Ai,c0,c7]
      rw[hE];clear hE;go_enter Tryz.func83,Tryz.ntmps83;go_wp2_with (fail);(with_reducible refine(H1.out _ (Aa _ _)).mono ?_);rintro e w2 ⟨rfl,hb2⟩;have hbw2:=(Aa w _).trans (hb2.mono (by simp));have hlt2:w.heap.size<w2.heap.size:=by(have:=hb2.size;simp at this;omega)
      obtain⟨hc2,hg2⟩:=At hb2;go_wp2;go_ret;exact⟨rfl,hbw2⟩
    subst c7;have hE:Ai 5 dst 0 false true false Z2 0=true:=by simp[Ai,c0]
    rw[hE];clear hE;go_enter Tryz.func83,Tryz.ntmps83;go_wp2_with (fail);(with_reducible refine(H1.out _ (Aa _ _)).mono ?_);rintro e w2 ⟨rfl,hb2⟩;have hbw2:=(Aa w _).trans (hb2.mono (by simp));have hlt2:w.heap.size<w2.heap.size:=by(have:=hb2.size;simp at this;omega)
    obtain⟨hc2,hg2⟩:=At hb2;go_wp2;go_ret;exact⟨rfl,hbw2⟩
 by_cases e6:k=6
 . subst e6;by_cases c0:n=0;rotate_left
   . have u:(n==0)=false:=by simpa using c0
     have hE:Ai 6 dst n had Z1 has Z2 ln=false:=by simp[Ai,c0]
     rw[hE];clear hE;go_enter Tryz.func83,Tryz.ntmps83;go_wp2;go_ret;exact⟨rfl,Aa _ _⟩
   subst c0;by_cases c1:had=false;rotate_left
   . obtain rfl:had=true:=by simpa using c1
     have hE:Ai 6 dst 0 true Z1 has Z2 ln=false:=by simp[Ai]
     rw[hE];clear hE;go_enter Tryz.func83,Tryz.ntmps83;go_wp2;go_ret;exact⟨rfl,Aa _ _⟩
   subst c1;by_cases c2:has=false;rotate_left
   . obtain rfl:has=true:=by simpa using c2
     have hE:Ai 6 dst 0 false Z1 true Z2 ln=false:=by simp[Ai]
     rw[hE];clear hE;go_enter Tryz.func83,Tryz.ntmps83;go_wp2;go_ret;exact⟨rfl,Aa _ _⟩
   subst c2
   cases Z1 with
   |false=>
    have hE:Ai 6 dst 0 false false false Z2 ln=false:=by simp[Ai]
    rw[hE];clear hE;go_enter Tryz.func83,Tryz.ntmps83;go_wp2_with (fail);(with_reducible refine(H1.out _ (Aa _ _)).mono ?_);rintro e w2 ⟨rfl,hb2⟩;have hbw2:=(Aa w _).trans (hb2.mono (by simp));have hlt2:w.heap.size<w2.heap.size:=by(have:=hb2.size;simp at this;omega)
    obtain⟨hc2,hg2⟩:=At hb2;go_wp2;go_ret;exact⟨rfl,hbw2⟩
   |true=>
    cases Z2 with
    |false=>
     have hE:Ai 6 dst 0 false true false false ln=false:=by simp[Ai]
     rw[hE];clear hE;go_enter Tryz.func83,Tryz.ntmps83;go_wp2_with (fail);(with_reducible refine(H1.out _ (Aa _ _)).mono ?_);rintro e w2 ⟨rfl,hb2⟩;have hbw2:=(Aa w _).trans (hb2.mono (by simp));have hlt2:w.heap.size<w2.heap.size:=by(have:=hb2.size;simp at this;omega)
     obtain⟨hc2,hg2⟩:=At hb2;go_wp2_with (fail);(with_reducible refine(H2.out _ hbw2).mono ?_);rintro e w3 ⟨rfl,hb3⟩;obtain⟨hc3,hg3⟩:=At hb3;go_wp2;go_ret;exact⟨rfl,hbw2.trans (hb3.mono hbw2.size)⟩
    |true=>
     by_cases c7:ln=0;rotate_left
     . have u:((ln:Int)==0)=false:=by simpa using c7
       have hE:Ai 6 dst 0 false true false true ln=false:=by simp[Ai,c7]
       rw[hE];clear hE;go_enter Tryz.func83,Tryz.ntmps83;go_wp2_with (fail);(with_reducible refine(H1.out _ (Aa _ _)).mono ?_);rintro e w2 ⟨rfl,hb2⟩;have hbw2:=(Aa w _).trans (hb2.mono (by simp));have hlt2:w.heap.size<w2.heap.size:=by(have:=hb2.size;simp at this;omega)
       obtain⟨hc2,hg2⟩:=At hb2;go_wp2_with (fail);(with_reducible refine(H2.out _ hbw2).mono ?_);rintro e w3 ⟨rfl,hb3⟩;obtain⟨hc3,hg3⟩:=At hb3;go_wp2;go_ret;exact⟨rfl,hbw2.trans (hb3.mono hbw2.size)⟩
     subst c7;have hE:Ai 6 dst 0 false true false true 0=true:=by simp[Ai]
     rw[hE];clear hE;go_enter Tryz.func83,Tryz.ntmps83;go_wp2_with (fail);(with_reducible refine(H1.out _ (Aa _ _)).mono ?_);rintro e w2 ⟨rfl,hb2⟩;have hbw2:=(Aa w _).trans (hb2.mono (by simp));have hlt2:w.heap.size<w2.heap.size:=by(have:=hb2.size;simp at this;omega)
     obtain⟨hc2,hg2⟩:=At hb2;go_wp2_with (fail);(with_reducible refine(H2.out _ hbw2).mono ?_);rintro e w3 ⟨rfl,hb3⟩;obtain⟨hc3,hg3⟩:=At hb3;go_wp2;go_ret;exact⟨rfl,hbw2.trans (hb3.mono hbw2.size)⟩
 by_cases e7:k=7
 . subst e7;by_cases c0:dst.toList.isEmpty=true;rotate_left
   . have u:dst.toList.isEmpty=false:=by simpa using c0
     have hE:Ai 7 dst n had Z1 has Z2 ln=false:=by simp[Ai,u]
     rw[hE];clear hE;go_enter Tryz.func83,Tryz.ntmps83;go_wp2;go_ret;exact⟨rfl,Aa _ _⟩
   by_cases c1:n=0;rotate_left
   . have u:(n==0)=false:=by simpa using c1
     have hE:Ai 7 dst n had Z1 has Z2 ln=false:=by simp[Ai,c0,c1]
     rw[hE];clear hE;go_enter Tryz.func83,Tryz.ntmps83;go_wp2;go_ret;exact⟨rfl,Aa _ _⟩
   subst c1;by_cases c2:has=false;rotate_left
   . obtain rfl:has=true:=by simpa using c2
     have hE:Ai 7 dst 0 had Z1 true Z2 ln=false:=by simp[Ai,c0]
     rw[hE];clear hE;go_enter Tryz.func83,Tryz.ntmps83;go_wp2;go_ret;exact⟨rfl,Aa _ _⟩
   subst c2
   cases had with
   |true=>
    cases Z2 with
    |false=>
     have hE:Ai 7 dst 0 true Z1 false false ln=false:=by simp[Ai,c0]
     rw[hE];clear hE;go_enter Tryz.func83,Tryz.ntmps83;go_wp2_with (fail);(with_reducible refine(H2.out _ (Aa _ _)).mono ?_);rintro e w3 ⟨rfl,hb3⟩;obtain⟨hc3,hg3⟩:=At hb3;have hlt3:w.heap.size<w3.heap.size:=by(have:=hb3.size;simp at this;omega)
     go_wp2;go_ret;exact⟨rfl,(Aa w _).trans (hb3.mono (by simp))⟩
    |true=>
     have hE:Ai 7 dst 0 true Z1 false true ln=true:=by simp[Ai,c0]
     rw[hE];clear hE;go_enter Tryz.func83,Tryz.ntmps83;go_wp2_with (fail);(with_reducible refine(H2.out _ (Aa _ _)).mono ?_);rintro e w3 ⟨rfl,hb3⟩;obtain⟨hc3,hg3⟩:=At hb3;have hlt3:w.heap.size<w3.heap.size:=by(have:=hb3.size;simp at this;omega)
     go_wp2;go_ret;exact⟨rfl,(Aa w _).trans (hb3.mono (by simp))⟩
   |false=>
    cases Z1 with
    |false=>
     have hE:Ai 7 dst 0 false false false Z2 ln=false:=by simp[Ai,c0]
     rw[hE];clear hE;go_enter Tryz.func83,Tryz.ntmps83;go_wp2_with (fail);(with_reducible refine(H1.out _ (Aa _ _)).mono ?_);rintro e w2 ⟨rfl,hb2⟩;have hbw2:=(Aa w _).trans (hb2.mono (by simp));have hlt2:w.heap.size<w2.heap.size:=by(have:=hb2.size;simp at this;omega)
     obtain⟨hc2,hg2⟩:=At hb2;go_wp2;go_ret;exact⟨rfl,hbw2⟩
    |true=>
     cases Z2 with
     |false=>
      have hE:Ai 7 dst 0 false true false false ln=false:=by simp[Ai,c0]
      rw[hE];clear hE;go_enter Tryz.func83,Tryz.ntmps83;go_wp2_with (fail);(with_reducible refine(H1.out _ (Aa _ _)).mono ?_);rintro e w2 ⟨rfl,hb2⟩;have hbw2:=(Aa w _).trans (hb2.mono (by simp));have hlt2:w.heap.size<w2.heap.size:=by(have:=hb2.size;simp at this;omega)
      obtain⟨hc2,hg2⟩:=At hb2;go_wp2_with (fail);(with_reducible refine(H2.out _ hbw2).mono ?_);rintro e w3 ⟨rfl,hb3⟩;obtain⟨hc3,hg3⟩:=At hb3;go_wp2;go_ret;exact⟨rfl,hbw2.trans (hb3.mono hbw2.size)⟩
     |true=>
      have hE:Ai 7 dst 0 false true false true ln=true:=by simp[Ai,c0]
      rw[hE];clear hE;go_enter Tryz.func83,Tryz.ntmps83;go_wp2_with (fail);(with_reducible refine(H1.out _ (Aa _ _)).mono ?_);rintro e w2 ⟨rfl,hb2⟩;have hbw2:=(Aa w _).trans (hb2.mono (by simp));have hlt2:w.heap.size<w2.heap.size:=by(have:=hb2.size;simp at this;omega)
      obtain⟨hc2,hg2⟩:=At hb2;go_wp2_with (fail);(with_reducible refine(H2.out _ hbw2).mono ?_);rintro e w3 ⟨rfl,hb3⟩;obtain⟨hc3,hg3⟩:=At hb3;go_wp2;go_ret;exact⟨rfl,hbw2.trans (hb3.mono hbw2.size)⟩
 by_cases e0:k<1
 . have hE:Ai k dst n had Z1 has Z2 ln=false:=by unfold Ai;rw[show decide (1<=k)=false from by simp;omega];simp
   rw[hE];clear hE e1 e2 e3 e4 e5 e6 e7;go_enter Tryz.func83,Tryz.ntmps83;go_wp2;go_ret;exact⟨rfl,Aa _ _⟩
 . have e8:7<k:=by omega
   have hE:Ai k dst n had Z1 has Z2 ln=false:=by unfold Ai;rw[show decide (k<=7)=false from by simp;omega];simp
   rw[hE];clear hE e1 e2 e3 e4 e5 e6 e7;go_enter Tryz.func83,Tryz.ntmps83;go_wp2;go_ret;exact⟨rfl,Aa _ _⟩
end Go.Proofs.YtobmaegpfbheoaaGreatDoor
