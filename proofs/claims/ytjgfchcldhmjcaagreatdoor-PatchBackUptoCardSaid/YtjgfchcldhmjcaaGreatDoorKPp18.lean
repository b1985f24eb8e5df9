/- Parts: keys.May, and the reference's. Condition: texts shorter than 2^63. -/
import Derived.Handy
import Derived.Laws.EntriesVeiled
import Derived.Test.YtjgfchcldhmjcaaGreatDoorKPp15
set_option maxHeartbeats 20000000
set_option maxRecDepth 100000
namespace Go.Proofs.YtjgfchcldhmjcaaGreatDoor
open Go.RowKit
theorem U6 (a:Addr) (s:ByteArray) (B:Bool) (w:World) (b:w.cell? a=some (.string s)) (h:s.toList.isEmpty=B):Calls Tryz.prog 195 #[.pointer (some a)] w fun e w'=>e=.returned (.bool B)/\w=w':=by
 subst h;go_enter Tryz.func195,Tryz.ntmps195;go_wp2;go_ret;exact⟨rfl,rfl⟩
theorem U7 (a:Addr) (s:ByteArray) (B:Bool) (w:World) (b:w.cell? a=some (.string s)) (h:decide (64<(s.size:Int))=B):Calls Tryz.prog 196 #[.pointer (some a)] w fun e w'=>e=.returned (.bool B)/\w=w':=by
 subst h;go_enter Tryz.func196,Tryz.ntmps196;go_wp2;go_ret;exact⟨rfl,rfl⟩
theorem U8 (a:Addr) (s:ByteArray) (B:Bool) (w:World) (g:w.cell? a=some (.string s)) (h:A6 s=B) (f:s.size<=9223372036854775807) (c:Cj w):Calls Tryz.prog 197 #[.pointer (some a)] w fun e w'=>e=.returned (.bool (!B))/\Below w.heap.size w w':=by
 have d:=qz (B4 h w f c);clear h c;go_enter Tryz.func197,Tryz.ntmps197;go_wp2_with (go_at_call 133;refine d.out.mono ?_;rintro e w1 ⟨rfl,b⟩);go_ret;exact⟨rfl,b⟩
abbrev Aa4 (g:Nat):Array Value:= #[.int .i64 8,.func (.func 195) #[] #[.pointer (some ⟨g,0,none⟩)],.int .i64 6,.func (.func 196) #[] #[.pointer (some ⟨g,0,none⟩)],.int .i64 3,.func (.func 197) #[] #[.pointer (some ⟨g,0,none⟩)]]
theorem U9 (s:ByteArray) (w:World):Calls Tryz.prog 129 #[.string s] w fun e w'=>e=.returned (.slice (some ⟨w.heap.size+1,0,none⟩) 3 3)/\w'=(w.alloc (.cells #[.string s] 9)).alloc (.cells (Aa4 w.heap.size) 209):=by
 go_enter Tryz.func129,Tryz.ntmps129;go_wp2;go_ret;exact⟨rfl,rfl⟩
theorem Uw (s:ByteArray) (w:World) (u:Cj w) (x:s.size<=9223372036854775807):Calls Tryz.prog 72 #[.string s] w fun e w'=>e=.returned (.int .i64 (O9 s))/\Below w.heap.size w w':=by
 obtain⟨j,c⟩: ∃b,s.toList.isEmpty=b:=⟨_,rfl⟩;obtain⟨k,a⟩: ∃b,decide (64<(s.size:Int))=b:=⟨_,rfl⟩;obtain⟨l,d⟩: ∃b,A6 s=b:=⟨_,rfl⟩;have t:O9 s=if j then 8 else if k then 6 else if l then 0 else 3:=by
  unfold O9;rw[c,d,<-a];by_cases h:64<s.size
  . have m:64<(s.size:Int):=by omega
    simp[h,m]
  . have m: ¬64<(s.size:Int):=by omega
    simp[h,m]
 have p:=qz (fun W (f:Ap W w.heap.size 9 #[.string s])=>U6 ⟨w.heap.size,0,none⟩ s j W (f.cell 0) c);have q:=qz (fun W (f:Ap W w.heap.size 9 #[.string s])=>U7 ⟨w.heap.size,0,none⟩ s k W (f.cell 0) a);have r:=qz (fun W (f:Ap W w.heap.size 9 #[.string s]) v=>U8 ⟨w.heap.size,0,none⟩ s l W (f.cell 0) d x (u.below v));have i:=qz t;clear t;clear c a d u;go_enter Tryz.func72,Tryz.ntmps72;go_wp2_with (fail);(with_reducible refine(U9 s _).mono ?_);rintro e w1 ⟨rfl,rfl⟩;go_wp2_with (fail);refine wp_loop_rounds 4 ?_
 cases j with
 |true=>
  rw[rounds_succ];go_wp2_with (go_at_call 195;refine(p.out _ ?_).mono ?_;(repeat (first|exact Ap.new _ _ _|refine Ap.alloc ?_ _));rintro e g ⟨rfl,rfl⟩);go_ret;exact⟨by rw[i.out];rfl,by go_grown⟩
 |false=>
  rw[rounds_succ];go_wp2_with (go_at_call 195;refine(p.out _ ?_).mono ?_;(repeat (first|exact Ap.new _ _ _|refine Ap.alloc ?_ _));rintro e g ⟨rfl,rfl⟩);rw[rounds_succ]
  cases k with
  |true=>
   go_wp2_with (go_at_call 196;refine(q.out _ ?_).mono ?_;(repeat (first|exact Ap.new _ _ _|refine Ap.alloc ?_ _));rintro e g ⟨rfl,rfl⟩);go_ret;exact⟨by rw[i.out];rfl,by go_grown⟩
  |false=>
   go_wp2_with (go_at_call 196;refine(q.out _ ?_).mono ?_;(repeat (first|exact Ap.new _ _ _|refine Ap.alloc ?_ _));rintro e g ⟨rfl,rfl⟩);rw[rounds_succ]
   cases l with
   |false=>
    go_wp2_with (go_at_call 197;refine(r.out _ ?_ ?_).mono ?_;(repeat (first|exact Ap.new _ _ _|refine Ap.alloc ?_ _));(go_grown);rintro e g ⟨rfl,a⟩;obtain⟨n,o⟩:=Fy a);go_ret;exact⟨by rw[i.out];rfl,((((Aa _ _).alloc (by simp) _).alloc (by simp;omega) _).alloc (by simp;omega) _).alloc (by simp;omega) _ |>.trans (a.mono (by simp;omega))⟩
   |true=>
    go_wp2_with (go_at_call 197;refine(r.out _ ?_ ?_).mono ?_;(repeat (first|exact Ap.new _ _ _|refine Ap.alloc ?_ _));(go_grown);rintro e g ⟨rfl,a⟩;obtain⟨n,o⟩:=Fy a);rw[rounds_succ];go_wp2;go_ret;exact⟨by rw[i.out];rfl,((((Aa _ _).alloc (by simp) _).alloc (by simp;omega) _).alloc (by simp;omega) _).alloc (by simp;omega) _ |>.trans (a.mono (by simp;omega))⟩
end Go.Proofs.YtjgfchcldhmjcaaGreatDoor
