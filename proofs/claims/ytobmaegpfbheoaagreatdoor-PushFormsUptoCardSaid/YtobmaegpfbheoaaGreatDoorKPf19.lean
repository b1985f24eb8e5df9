/- Parts: The reference's own values: Int, Text, Object, List; rows that share old memory. No condition. -/
import Derived.Test.YtobmaegpfbheoaaGreatDoorKPf17
import Derived.Test.YtobmaegpfbheoaaGreatDoorKPf18
namespace Go.Proofs.YtobmaegpfbheoaaGreatDoor
open Go Go.RowKit
theorem P1 (w:World) (B:Nat) (key s:ByteArray):Ag w B (dP (key,tv s)) [.string key,.int .i64 4,.bool false,.int .i64 0,.string s,.slice none 0 0,.slice none 0 0]:=by
 have h1:Ab w B (tv s) [.int .i64 4,.bool false,.int .i64 0,.string s,.slice none 0 0,.slice none 0 0]:=by
  simp only[tv,Ab];exact⟨none,0,none,0,rfl,by simp,by simp⟩
 exact⟨[.string key],_,rfl,⟨rfl,rfl⟩,_, [],by simp,Cv _ _ h1,rfl⟩
theorem Lj (w:World) (B:Nat) (key:ByteArray) (n:Int):Ag w B (dP (key,iv n)) [.string key,.int .i64 3,.bool false,.int .i64 n,.string ⟨#[]⟩,.slice none 0 0,.slice none 0 0]:=by
 have h1:Ab w B (iv n) [.int .i64 3,.bool false,.int .i64 n,.string ⟨#[]⟩,.slice none 0 0,.slice none 0 0]:=by
  simp only[iv,Ab];exact⟨none,0,none,0,rfl,by simp,by simp⟩
 exact⟨[.string key],_,rfl,⟨rfl,rfl⟩,_, [],by simp,Cv _ _ h1,rfl⟩
theorem Ci (b:Nat) (w:World) (key s:ByteArray):Ax b w (dP (key,tv s)) [.string key,.int .i64 4,.bool false,.int .i64 0,.string s,.slice none 0 0,.slice none 0 0]:=fun _ _ _=>P1 _ _ _ _
theorem Sr {b:Nat} {w:World} {vs:List Val} {a:Option Addr} {n c:Nat} (h:Ax b w (.row 6 (dL vs)) [.slice a n c]):Ax b w (dV (lv vs)) [.int .i64 5,.bool false,.int .i64 0,.string ⟨#[]⟩,.slice a n c,.slice none 0 0]:=fun w'' h1 h2=>by
 simp only[lv,dV,Ag];exact Ae.six.2 ⟨[.slice a n c], [.slice none 0 0],rfl,rfl,rfl,rfl,rfl,h w'' h1 h2,⟨none,0,rfl,by simp[dO], [],rfl,by simp[dO]⟩⟩
theorem Abi {n:Int} (h0:0<=n) (h1:n<=4611686018427387903):Jg (iv n):=by
 simp only[iv,Jg,Oz,P2];exact⟨by omega,trivial,trivial⟩
theorem Aaf (n:Int):(iv n).bulk=6:=rfl
theorem P0 {w:World} {g:Nat} {t:TypeId} {cs:Array Value} {l:List D} {s n c:Nat} (h:Aj w g t cs) (hs: ∀d ∈ l,d.cells=s) (hA:Ae w w.heap.size l cs.toList) (hn:n=l.length):Ag w w.heap.size (.row s l) [.slice (some ⟨g,0,none⟩) n c]:=by
 subst hn;exact⟨_,c,rfl,hs,cs.toList,hA,.inr ⟨g,0,rfl,h.lt,fun j u hu=>by rw[Nat.zero_add];exact(h.cell j).trans (by rw[<-Array.getElem?_toList];exact hu)⟩⟩
theorem Xf (o o':List (ByteArray×Val)) (a:Option Addr) (n c:Nat) (w:World) (h:Ag w w.heap.size (.row 7 (dO o)) [.slice a n c]) (hb:Av o<=90000000) (ho:C6 o []=some o'):
 Calls Tryz.prog 50 #[.slice a n c] w fun e w'=>Below w.heap.size w w'/\ ∃la lc oa oc,e=.returned (.tuple #[.agg #[.int .i64 6,.bool false,.int .i64 0,.string ⟨#[]⟩,.slice la 0 lc,.slice oa o'.length oc],.int .i64 0])/\Ax w.heap.size w' (dV (ov o')) [.int .i64 6,.bool false,.int .i64 0,.string ⟨#[]⟩,.slice la 0 lc,.slice oa o'.length oc]:=by
 refine(Wm o a n c w h hb).mono ?_;rintro e w' ⟨hb',⟨hn,_⟩|⟨o2,cs,h2,rfl,hl,hf⟩⟩
 . rw[ho]at hn;cases hn
 . rw[ho]at h2
   cases h2
   have hv:=Cr (.mk 6 false 0 ⟨#[]⟩ [] o') _ hf.now;simp only[Ab]at hv;obtain⟨la,lc,oa,oc,rfl,_,_⟩:=hv;exact⟨hb',la,lc,oa,oc,rfl,hf⟩
theorem Bo {S:Nat->Prop} {w:World} {o:List (ByteArray×Val)} {a:Option Addr} {n c:Nat} (h:Ac S w (.row 7 (dO o)) [.slice a n c]):Ac S w (dV (ov o)) [.int .i64 6,.bool false,.int .i64 0,.string ⟨#[]⟩,.slice none 0 0,.slice a n c]:=fun w'' h1 h2=>by
 simp only[ov,dV,Ag];exact Ae.six.2 ⟨[.slice none 0 0], [.slice a n c],rfl,rfl,rfl,rfl,rfl,⟨none,0,rfl,by simp[dL], [],rfl,by simp[dL]⟩,h w'' h1 h2⟩
theorem Bp (S:Nat->Prop) (w:World) (key s:ByteArray):Ac S w (dP (key,tv s)) [.string key,.int .i64 4,.bool false,.int .i64 0,.string s,.slice none 0 0,.slice none 0 0]:=fun _ _ _=>P1 _ _ _ _
theorem C4 {S:Nat->Prop} {w:World} {key:ByteArray} {v:Val} {cs:List Value} (h:Ac S w (dV v) cs):Ac S w (dP (key,v)) (.string key::cs):=fun w'' h1 h2=>⟨[.string key],cs,rfl,⟨rfl,rfl⟩,cs, [],by simp,h w'' h1 h2,rfl⟩
theorem R7 {S0:Nat->Prop} {w w6:World} {R b:Nat} {t e:TypeId} {sz:Nat} {l:List D} {V:Value} {cs:Array Value} {wr:World} (h:Aj w R t cs) (hg:w.grownBy w6 V.ownBlock) (hr:Bw S0 b e sz wr l V) (hR:R<b\/wr.heap.size<=R):Aj w6 R t cs:=
 h.grown hg fun e=>by have:=hr.base R e.symm;omega
theorem E2 {S0:Nat->Prop} {w w6:World} {B b:Nat} {e:TypeId} {sz:Nat} {l:List D} {V:Value} {w0 wr:World} (h:Below B w0 w) (hg:w.grownBy w6 V.ownBlock) (hr:Bw S0 b e sz wr l V) (hB:B<=b) (hBw:B<=w.heap.size):Below B w0 w6:=
 h.grown hg hBw fun k hk=>Nat.le_trans hB (hr.base k hk).1
theorem Ss (S:Nat->Prop) (w:World) (key:ByteArray) (n:Int):Ac S w (dP (key,iv n)) [.string key,.int .i64 3,.bool false,.int .i64 n,.string ⟨#[]⟩,.slice none 0 0,.slice none 0 0]:=fun _ _ _=>Lj _ _ _ _
end Go.Proofs.YtobmaegpfbheoaaGreatDoor
