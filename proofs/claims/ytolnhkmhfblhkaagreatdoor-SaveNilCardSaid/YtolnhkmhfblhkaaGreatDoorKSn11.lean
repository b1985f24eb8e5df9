/- Parts: Parts of a row of bytes, as slices. Plain. No condition. -/
import Derived.Laws.Slices
import Derived.Test.YtolnhkmhfblhkaaGreatDoorKSn8
namespace Go.Proofs.YtolnhkmhfblhkaaGreatDoor
open Go Go.RowKit
theorem Ev {w:World} {B n c:Nat} {l:List UInt8} {a:Option Addr} (h:Ac w B (.row 1 (dB l)) [.slice a n c]):
 l= []\/ ∃g off,a=some ⟨g,off,none⟩/\g<B/\ ∀j x,l[j]? =some x->w.cell? ⟨g,off+j,none⟩=some (.int .u8 x.toNat):=by
 cases l with
 |nil=>exact .inl rfl
 |cons y r=>
  obtain⟨g,off,rfl,hg,_⟩:=Eu h (i:=0) (x:=y) rfl;refine .inr ⟨g,off,rfl,hg,fun j x hx=> ?_⟩;obtain⟨g',off',e,_,hc⟩:=Eu h hx;simp only[Option.some.injEq,Addr.mk.injEq,and_true]at e;obtain⟨rfl,rfl⟩:=e;exact hc
theorem H8 {w:World} {B n c:Nat} {l:List UInt8} {a:Option Addr} (hn:n=l.length) (h:l= []\/ ∃g off,a=some ⟨g,off,none⟩/\g<B/\ ∀j x,l[j]? =some x->w.cell? ⟨g,off+j,none⟩=some (.int .u8 x.toNat)):
 Ac w B (.row 1 (dB l)) [.slice a n c]:=by
 subst hn;refine⟨a,c,by rw[Fx],Dn _,Ah l,Do _ _ _, ?_⟩;rcases h with rfl|⟨g,off,rfl,hg,hc⟩
 . exact .inl rfl
 . refine .inr ⟨g,off,rfl,hg,fun j u hu=> ?_⟩;unfold Ah at hu;rw[List.getElem?_map]at hu;obtain⟨x,hx,rfl⟩:=Option.map_eq_some_iff.1 hu;exact hc j x hx
theorem Kd {w:World} {B n c:Nat} {l:List UInt8} {a:Option Addr} (h:Ac w B (.row 1 (dB l)) [.slice a n c]) (q:Nat) (hq:q<=l.length) (c':Nat):Ac w B (.row 1 (dB (l.take q))) [.slice a q c']:=by
 refine H8 (by rw[List.length_take,Nat.min_eq_left hq]) ?_;rcases Ev h with rfl|⟨g,off,rfl,hg,hc⟩
 . exact .inl (by simp)
 . refine .inr ⟨g,off,rfl,hg,fun j x hx=>hc j x ?_⟩;rw[List.getElem?_take]at hx
   split at hx
   . exact hx
   . cases hx
end Go.Proofs.YtolnhkmhfblhkaaGreatDoor
