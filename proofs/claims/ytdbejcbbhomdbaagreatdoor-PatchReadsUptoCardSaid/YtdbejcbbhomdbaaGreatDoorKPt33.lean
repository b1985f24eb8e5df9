/- Parts: An object has just these keys: both ways of asking. Plain. No condition. -/
import Derived.Test.YtdbejcbbhomdbaaGreatDoorKPt29
import Derived.Test.YtdbejcbbhomdbaaGreatDoorKPt31
set_option maxRecDepth 100000
namespace Go.Proofs.YtdbejcbbhomdbaaGreatDoor
open Go Go.RowKit
theorem W9 (p q:Option Addr) (w:World):Calls Tryz.prog 54 #[.agg #[.pointer p],.agg #[.pointer q]] w fun e w'=>e=.returned (.func (.func 89) #[] #[.pointer (some ⟨w.heap.size,0,none⟩),.pointer (some ⟨w.heap.size+1,0,none⟩)])/\(w.alloc (.cells #[.pointer p] 45)).alloc (.cells #[.pointer q] 45)=w':=by
 go_enter Tryz.func54,Tryz.ntmps54;go_wp2;go_ret;exact⟨rfl,rfl⟩
theorem Ot:(Tryz.prog.info? 64).map (fun i=>(i.zero,i.size,i.bytes))=some (some (.agg #[.int .i64 0,.string ⟨#[]⟩,.int .i64 0,.bool false,.int .i64 0,.string ⟨#[]⟩,.slice none 0 0,.slice none 0 0]),8,112):=by kernel_rfl
theorem Jx (w:World) (a0 a1 a2 a3 a4 a5 a6 a7:Value):Bo (w.alloc (.cells #[a0,a1,a2,a3,a4,a5,a6,a7] 64)) (w.heap.size+1) 8 (some ⟨w.heap.size,0,none⟩) 1 [a0,a1,a2,a3,a4,a5,a6,a7]:=D4 (Aj.new w 64 #[a0,a1,a2,a3,a4,a5,a6,a7])
theorem Nh {w w':World} {v:Val} {cs:List Value} (h:K4 w w' v cs):Bb w.heap.size w' (dV v) cs:=fun w'' h1 h2=>D0 _ _ (h w'' h1 h2)
theorem Un {B:Nat} {w:World} {k:Int} {key:ByteArray} {v:Val} {cs:List Value} (h:Bb B w (dV v) cs):Bb B w (dQ ⟨k,key,v⟩) (.int .i64 k:: .string key::cs):=fun w'' h1 h2=>⟨[.int .i64 k],.string key::cs,rfl,⟨rfl,rfl⟩, [.string key],cs,rfl,⟨rfl,rfl⟩,cs, [],by simp,h w'' h1 h2,rfl⟩
theorem Ts (o o':List (ByteArray×Val)) (a:Option Addr) (n c:Nat) (w:World) (h:Ae w w.heap.size (.row 7 (dO o)) [.slice a n c]) (hb:Ag o<=90000000) (ho:C3 o []=some o'):
 Calls Tryz.prog 80 #[.slice a n c] w fun e w'=>Below w.heap.size w w'/\ ∃la lc oa oc,e=.returned (.tuple #[.agg #[.int .i64 6,.bool false,.int .i64 0,.string ⟨#[]⟩,.slice la 0 lc,.slice oa o'.length oc],.int .i64 0])/\Bb w.heap.size w' (dV (ov o')) [.int .i64 6,.bool false,.int .i64 0,.string ⟨#[]⟩,.slice la 0 lc,.slice oa o'.length oc]:=by
 refine(Ye o a n c w h hb).mono ?_;rintro e w' ⟨hb',⟨hn,_⟩|⟨o2,cs,h2,rfl,hl,hf⟩⟩
 . rw[ho]at hn;cases hn
 . rw[ho]at h2
   cases h2
   have hv:=Az (.mk 6 false 0 ⟨#[]⟩ [] o') _ hf.now;simp only[Aa]at hv;obtain⟨la,lc,oa,oc,rfl,_,_⟩:=hv;exact⟨hb',la,lc,oa,oc,rfl,hf⟩
theorem Q0 {fn:Func} {t:Tmp} {tmps:Array Value} {W:World} {R:Nat} {a0 a1 a2 a3 a4 a5 a6:Value} (h:fn.results= #[.cell t 88]) (hp:tmps.getD t undef=.pointer (some ⟨R,0,none⟩)) (hx:Aj W R 88 #[a0,a1,a2,a3,a4,a5,a6]):
 (results fn tmps).run Tryz.prog W=.ok (.agg #[a0,a1,a2,a3,a4,a5,a6]) W:=by
 have c0:=hx.cell 0;have c1:=hx.cell 1;have c2:=hx.cell 2;have c3:=hx.cell 3;have c4:=hx.cell 4;have c5:=hx.cell 5;have c6:=hx.cell 6;clear hx;have hp':tmps[t]?.getD undef=.pointer (some ⟨R,0,none⟩):=by simpa using hp
 simp[results,h,hp',go_sem]at c0 c1 c2 c3 c4 c5 c6 ⊢;simp[c0,c1,c2,c3,c4,c5,c6]
abbrev Aew:Array Value:= #[.string ⟨#[]⟩,.int .i64 0,.bool false,.int .i64 0,.string ⟨#[]⟩,.slice none 0 0,.slice none 0 0]
theorem Y4 {w:World} {g:Nat} {t:TypeId} {a0 a1 a2 a3 a4 a5 a6:Value} (h:Aj w g t #[a0,a1,a2,a3,a4,a5,a6]):
 w.cell? ⟨g,0,none⟩=some a0/\w.cell? ⟨g,1,none⟩=some a1/\w.cell? ⟨g,2,none⟩=some a2/\w.cell? ⟨g,3,none⟩=some a3/\w.cell? ⟨g,4,none⟩=some a4/\w.cell? ⟨g,5,none⟩=some a5/\w.cell? ⟨g,6,none⟩=some a6:=
 ⟨h.cell 0,h.cell 1,h.cell 2,h.cell 3,h.cell 4,h.cell 5,h.cell 6⟩
theorem Xh {S:Nat->Prop} {w:World} {o:List (ByteArray×Val)} {a:Option Addr} {n c:Nat} (h:Ac S w (.row 7 (dO o)) [.slice a n c]):Ac S w (dV (ov o)) [.int .i64 6,.bool false,.int .i64 0,.string ⟨#[]⟩,.slice none 0 0,.slice a n c]:=fun w'' h1 h2=>by
 simp only[ov,dV,Ae];exact Af.six.2 ⟨[.slice none 0 0], [.slice a n c],rfl,rfl,rfl,rfl,rfl,⟨none,0,rfl,by simp[dL], [],rfl,by simp[dL]⟩,h w'' h1 h2⟩
theorem Fw (S:Nat->Prop) (w:World) (key s:ByteArray):Ac S w (dP (key,tv s)) [.string key,.int .i64 4,.bool false,.int .i64 0,.string s,.slice none 0 0,.slice none 0 0]:=fun _ _ _=>Mw _ _ _ _
theorem Zu {S:Nat->Prop} {w:World} {key:ByteArray} {v:Val} {cs:List Value} (h:Ac S w (dV v) cs):Ac S w (dP (key,v)) (.string key::cs):=fun w'' h1 h2=>⟨[.string key],cs,rfl,⟨rfl,rfl⟩,cs, [],by simp,h w'' h1 h2,rfl⟩
theorem Ht {S0:Nat->Prop} {w w6:World} {R b:Nat} {t e:TypeId} {sz:Nat} {l:List D} {V:Value} {cs:Array Value} {wr:World} (h:Aj w R t cs) (hg:w.grownBy w6 V.ownBlock) (hr:As S0 b e sz wr l V) (hR:R<b\/wr.heap.size<=R):Aj w6 R t cs:=
 h.grown hg fun e=>by have:=hr.base R e.symm;omega
theorem Ip {S0:Nat->Prop} {w w6:World} {B b:Nat} {e:TypeId} {sz:Nat} {l:List D} {V:Value} {w0 wr:World} (h:Below B w0 w) (hg:w.grownBy w6 V.ownBlock) (hr:As S0 b e sz wr l V) (hB:B<=b) (hBw:B<=w.heap.size):Below B w0 w6:=
 h.grown hg hBw fun k hk=>Nat.le_trans hB (hr.base k hk).1
theorem Me (s:ByteArray) (w:World):Calls Tryz.prog 46 #[.string s] w fun e w'=>e=.returned (.agg #[.int .i64 4,.bool false,.int .i64 0,.string s,.slice none 0 0,.slice none 0 0])/\Below w.heap.size w w':=by
 go_enter Tryz.func46,Tryz.ntmps46;go_wp2;exact bodyPost_ret (v:=.agg #[.int .i64 4,.bool false,.int .i64 0,.string s,.slice none 0 0,.slice none 0 0]) (by simp[results,Tryz.results46,go_sem]) rfl ⟨rfl,(Below.refl _ _).alloc (Nat.le_refl _) _⟩
theorem Vp (a:Option Addr) (n c:Nat) (w:World):Calls Tryz.prog 49 #[.slice a n c] w fun e w'=>e=.returned (.agg #[.int .i64 5,.bool false,.int .i64 0,.string ⟨#[]⟩,.slice a n c,.slice none 0 0])/\Below w.heap.size w w':=by
 go_enter Tryz.func49,Tryz.ntmps49;go_wp2;exact bodyPost_ret (v:=.agg #[.int .i64 5,.bool false,.int .i64 0,.string ⟨#[]⟩,.slice a n c,.slice none 0 0]) (by simp[results,Tryz.results49,go_sem]) rfl ⟨rfl,(Below.refl _ _).alloc (Nat.le_refl _) _⟩
theorem Qu (a:Option Addr) (n c:Nat) (w:World):Calls Tryz.prog 47 #[.slice a n c] w fun e w'=>e=.returned (.agg #[.int .i64 6,.bool false,.int .i64 0,.string ⟨#[]⟩,.slice none 0 0,.slice a n c])/\Below w.heap.size w w':=by
 go_enter Tryz.func47,Tryz.ntmps47;go_wp2;exact bodyPost_ret (v:=.agg #[.int .i64 6,.bool false,.int .i64 0,.string ⟨#[]⟩,.slice none 0 0,.slice a n c]) (by simp[results,Tryz.results47,go_sem]) rfl ⟨rfl,(Below.refl _ _).alloc (Nat.le_refl _) _⟩
theorem Xk {names:List ByteArray} {v:Val} (h:Bf v=6):Nj names [] v=Fx names (Bg v):=by
 unfold Nj Fx;rw[Bool.and_comm]
 congr 1
 refine List.all_congr rfl fun x=> ?_;unfold F4;rw[if_pos h]
end Go.Proofs.YtdbejcbbhomdbaaGreatDoor
