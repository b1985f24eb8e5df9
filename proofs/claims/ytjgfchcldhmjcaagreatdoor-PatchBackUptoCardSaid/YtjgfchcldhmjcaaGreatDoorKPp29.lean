/- Parts: An object has just these keys: both ways of asking. Plain. No condition. -/
import Derived.Test.YtjgfchcldhmjcaaGreatDoorKPp22
import Derived.Test.YtjgfchcldhmjcaaGreatDoorKPp26
set_option maxRecDepth 100000
namespace Go.Proofs.YtjgfchcldhmjcaaGreatDoor
open Go Go.RowKit
theorem Acf (p q:Option Addr) (w:World):Calls Tryz.prog 87 #[.agg #[.pointer p],.agg #[.pointer q]] w fun e w'=>e=.returned (.func (.func 148) #[] #[.pointer (some ⟨w.heap.size,0,none⟩),.pointer (some ⟨w.heap.size+1,0,none⟩)])/\(w.alloc (.cells #[.pointer p] 100)).alloc (.cells #[.pointer q] 100)=w':=by
 go_enter Tryz.func87,Tryz.ntmps87;go_wp2;go_ret;exact⟨rfl,rfl⟩
theorem Ys (o o':List (ByteArray×Val)) (a:Option Addr) (n c:Nat) (w:World) (h:Ag w w.heap.size (.row 7 (dO o)) [.slice a n c]) (p:Af o<=90000000) (l:Bg o []=some o'):
 Calls Tryz.prog 51 #[.slice a n c] w fun e w'=>Below w.heap.size w w'/\ ∃b d f oc,e=.returned (.tuple #[.agg #[.int .i64 6,.bool false,.int .i64 0,.string ⟨#[]⟩,.slice b 0 d,.slice f o'.length oc],.int .i64 0])/\A7 w.heap.size w' (dV (ov o')) [.int .i64 6,.bool false,.int .i64 0,.string ⟨#[]⟩,.slice b 0 d,.slice f o'.length oc]:=by
 refine(Ad6 o a n c w h p).mono ?_;rintro e w' ⟨g,⟨k,_⟩|⟨r,cs,i,rfl,q,j⟩⟩
 . rw[l]at k;cases k
 . rw[l]at i
   cases i
   have m:=Be (.mk 6 false 0 ⟨#[]⟩ [] o') _ j.now;simp only[Ab]at m;obtain⟨b,d,f,oc,rfl,_,_⟩:=m;exact⟨g,b,d,f,oc,rfl,j⟩
theorem Acs {names:List ByteArray} {v:Val} (h:Bo v=6):Q1 names [] v=Ir names (Bx v):=by
 unfold Q1 Ir;rw[Bool.and_comm]
 congr 1
 refine List.all_congr rfl fun x=> ?_;unfold I5;rw[if_pos h]
end Go.Proofs.YtjgfchcldhmjcaaGreatDoor
