/- Parts: A tree that a call hands back, stored in a variable of its own. Plain. No condition. -/
import Derived.Test.YtnkmhaachfgaoaaGreatDoorKPq24
set_option maxRecDepth 100000
namespace Go.Proofs.YtnkmhaachfgaoaaGreatDoor
open Go Go.RowKit
theorem Iq (S:Nat->Prop) (t:Option (Nat×Nd)) (p:Option Addr) (w:World) (ht:C5 S w t p):Calls Tryz.prog 23 #[.agg #[.pointer p]] w fun e w'=>e=.returned (.int .i64 (Ba t).length)/\Below w.heap.size w w':=by
 have hb:=Aa w (.cells #[.pointer p] 27);have hC:Calls Tryz.prog 51 #[.pointer p] (w.alloc (.cells #[.pointer p] 27)) fun e w'=>e=.returned (.int .i64 (Ba t).length)/\w.alloc (.cells #[.pointer p] 27)=w':=by
  cases t with
  |none=>
   cases ht
   exact Ro _
  |some t=>
   obtain⟨h,n⟩:=t;obtain⟨b,rfl,hb'⟩:=ht;exact F7 (hb'.below hb).now
 obtain⟨HC,Hb⟩:=hid2 hC hb;clear hC hb;clear ht;go_enter Tryz.func23,Tryz.ntmps23;go_wp2_with (fail);(with_reducible refine(HC.out).mono ?_);rintro e w1 ⟨rfl,rfl⟩;go_wp2;go_ret;exact⟨rfl,Hb.out⟩
def Tb (wb:World) (t:Option (Nat×Nd)) (c0:Value) (pv c:Value) (wx:World):Prop:= ∃Z q,pv=.pointer (some ⟨Z,0,none⟩)/\c=c0/\Below wb.heap.size wb wx/\wb.heap.size<=Z/\Ah wx Z 27 #[.pointer q]/\C5 (fun i=>i≠Z) wx t q
theorem Tb.old {wb w:World} {t:Option (Nat×Nd)} {c0:Value} {Z:Nat} {q:Option Addr} {T:Nat->Prop} (hb:Below wb.heap.size wb w) (hZ:wb.heap.size<=Z) (hx:Ah w Z 27 #[.pointer none]) (ht:C5 T w t q) (hT: ∀i,T i->i≠Z):Tb wb t c0 (.pointer (some ⟨Z,0,none⟩)) c0 (w.setCell ⟨Z,0,none⟩ (.pointer q)):=
 ⟨Z,q,rfl,rfl,hb.setCell (p:=⟨Z,0,none⟩) hZ _,hZ,hx.set_ 0 _,(ht.mono fun i _ h=>hT i h).later (by simp[World.setCell]) fun _ i1 _=>Below.heap_setCell _ _ _ _ i1⟩
theorem Tb.new {wb w:World} {t:Option (Nat×Nd)} {c0:Value} {q:Option Addr} {T:Nat->Prop} (hb:Below wb.heap.size wb w) (ht:C5 T w t q):Tb wb t c0 (.pointer (some ⟨w.heap.size,0,none⟩)) c0 (w.alloc (.cells #[.pointer q] 27)):=
 ⟨_,q,rfl,rfl,hb.alloc hb.size _,hb.size,Ah.new _ _ _,(ht.mono fun _ hi _=>Nat.ne_of_lt hi).below (Aa _ _)⟩
end Go.Proofs.YtnkmhaachfgaoaaGreatDoor
