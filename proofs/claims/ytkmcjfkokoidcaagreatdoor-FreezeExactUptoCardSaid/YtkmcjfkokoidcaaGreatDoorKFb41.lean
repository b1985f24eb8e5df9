/- Parts: commonplaceref04: Parse. Condition: a text of at most 1.6*10^7 bytes. -/
import Derived.Test.YtkmcjfkokoidcaaGreatDoorKFb37
import Derived.Test.YtkmcjfkokoidcaaGreatDoorKFb39
set_option maxHeartbeats 20000000
set_option maxRecDepth 100000
namespace Go.Proofs.YtkmcjfkokoidcaaGreatDoor
open Go Go.RowKit
theorem Vc (HC: ∀v,Ms v) (s:ByteArray) (w:World) (hs:s.size<=16000000):
 Calls Tryz.prog 49 #[.string s] w (Fw w (Ej s.data.toList)):=by
 obtain⟨RES,hRES⟩: ∃r,Ej s.data.toList=r:=⟨_,rfl⟩;rw[hRES];unfold Ej at hRES;have hV:Calls Tryz.prog 88 #[.string s,.int .i64 0,.int .i64 1] (w.alloc (.cells A5 37)) (Fw (w.alloc (.cells A5 37)) (Bi (4*s.data.toList.length+4) s.data.toList 0 1)):=by
  have:=Aag HC s hs (4*s.data.toList.length+4) (w.alloc (.cells A5 37)) 0 1 (Nat.zero_le _) (by rw[Ab];omega) (by omega) (by omega);simpa using this
 have hB0:=RBx.start w;have hwi:=(Dn (4*s.data.toList.length+4)).1 s.data.toList 0 1 (Nat.zero_le _)
 cases hr:Bi (4*s.data.toList.length+4) s.data.toList 0 1 with
 |bad c q=>
  rw[hr]at hRES hV hwi;simp only at hRES;subst hRES;have hc1:(c != 0)=true:=by have:=hwi.2.2.1;simp only[bne_iff_ne,ne_eq];omega
  clear hwi hr;obtain⟨HV,HB0⟩:=hid2 hV hB0;clear hV hB0;go_enter Tryz.func49,Tryz.ntmps49;go_wp2_with (fail);(with_reducible refine(HV.out).mono ?_);rintro e w4 ⟨hb4,rfl⟩;have hI4:=HB0.out.later hb4;have Hxf:=qz ((hI4.many (.int .i64 0) (.bool false) (.int .i64 0) (.string ⟨#[]⟩) (.slice none 0 0) (.slice none 0 0)).later (Aa _ (.cells A5 37)));obtain⟨r0,r1,r2,r3,r4,r5⟩:=Az hI4.blk;have fz4:=hI4.blk.frozen;have hlt4:=hI4.blk.lt;have HI4:=qz hI4;clear hI4;clear hb4;go_wp2;exact bodyPost_ret (Af rfl rfl Hxf.out.blk) rfl ⟨Hxf.out.below,rfl⟩
 |ok v q=>
  rw[hr]at hRES hV hwi;simp only at hRES;obtain⟨hw1,hw2⟩:=hwi;rw[Ab]at hw2;have hp:=Bp hw2;have hpast:=fun W=>Dx s q W (by omega) hw2;generalize Al s.data.toList q=p at hRES hp hpast;obtain⟨k',b',n',t',l',o'⟩:=v;rw[Ab]at hRES;clear hr;obtain⟨HV,HB0,HRES,Hpast⟩:=hid4 hV hB0 hRES hpast;clear hV hB0 hRES hpast;go_enter Tryz.func49,Tryz.ntmps49;go_wp2_with (fail);(with_reducible refine(HV.out).mono ?_);rintro e w4 ⟨hb4,cs,rfl,hf4⟩;obtain⟨la4,lc4,oa4,oc4,rfl⟩:=Dp hf4;have hI4:=HB0.out.later hb4;obtain⟨r0,r1,r2,r3,r4,r5⟩:=Az hI4.blk;have fz4:=hI4.blk.frozen;have hlt4:=hI4.blk.lt;have hz4:=hb4.size;have hRES:=HRES.out;obtain⟨HI4,Hf4⟩:=hid2 hI4 hf4;clear hI4 hf4;clear hb4 HRES;go_wp2_with (fail);(with_reducible refine(Hpast.out _).mono ?_);rintro e w5 ⟨rfl,rfl⟩;by_cases hlt:p<s.size
  . rw[if_pos hlt]at hRES;subst hRES;have e1:decide ((p:Int)<(s.size:Int))=true:=decide_eq_true (by omega);have e2:(p:Int)<(s.size:Int):=by omega
    have Hxf:=qz ((HI4.out.many (.int .i64 0) (.bool false) (.int .i64 0) (.string ⟨#[]⟩) (.slice none 0 0) (.slice none 0 0)).later (Aa _ (.cells #[.int .i64 k',.bool b',.int .i64 n',.string t',.slice la4 l'.length lc4,.slice oa4 o'.length oc4] 37)));go_wp2;exact bodyPost_ret (Af rfl rfl Hxf.out.blk) rfl ⟨Hxf.out.below,rfl⟩
  . rw[if_neg hlt]at hRES;subst hRES;have e1:decide ((p:Int)<(s.size:Int))=false:=decide_eq_false (by omega);have e2: ¬((p:Int)<(s.size:Int)):=by omega
    have Hxf:=qz ((HI4.out.many (.int .i64 k') (.bool b') (.int .i64 n') (.string t') (.slice la4 l'.length lc4) (.slice oa4 o'.length oc4)).later (Aa _ (.cells #[.int .i64 k',.bool b',.int .i64 n',.string t',.slice la4 l'.length lc4,.slice oa4 o'.length oc4] 37)));have Hff:=qz ((Hf4.out.keep (b':=w.heap.size) (w':=An w4 w.heap.size 0 [.int .i64 k',.bool b',.int .i64 n',.string t',.slice la4 l'.length lc4,.slice oa4 o'.length oc4]) (by simp) (by rw[Bb];exact Nat.le_refl _) (fun p p1 p2=>World.cell?_of_block (Ar _ _ _ _ _ (by have p1':(w.alloc (.cells A5 37)).heap.size<=p.block:=p1;simp at p1';omega)))).later (Aa _ (.cells #[.int .i64 k',.bool b',.int .i64 n',.string t',.slice la4 l'.length lc4,.slice oa4 o'.length oc4] 37)));go_wp2;exact bodyPost_ret (Af rfl rfl Hxf.out.blk) rfl ⟨Hxf.out.below,⟨_,rfl,Hff.out⟩⟩
end Go.Proofs.YtkmcjfkokoidcaaGreatDoor
