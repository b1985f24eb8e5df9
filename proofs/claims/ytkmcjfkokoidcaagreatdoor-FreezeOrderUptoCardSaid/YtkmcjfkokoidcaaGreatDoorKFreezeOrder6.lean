/- Parts: An argument that reads as a list of texts. No condition. -/
import Derived.Test.YtkmcjfkokoidcaaGreatDoorKFa25
import Derived.Test.YtkmcjfkokoidcaaGreatDoorKFreezeOrder1
set_option maxRecDepth 100000
namespace Go.Proofs.YtkmcjfkokoidcaaGreatDoor
open Go.RowKit Go.ChangeShapes Go.WideShapes
theorem Anw:Tryz.prog.cellsOf 9=1:=by kernel_rfl
section
variable {H:Type} {enc:TypeId×Value->H} {w:World} {sp:Nat->Bool} {held:Bool}
theorem Xo {n:Nat}: ∀(elems:List (DataW H×List MemPlace)) (g off:Nat),
 (∀i,i<elems.length->(w.cells? 0 ⟨g,off+i,none⟩ 1).bind (DataW.trod enc Tryz.prog w 0 sp held n 9)=elems[i]?)->
 ∃l:List ByteArray,l.length=elems.length/\(∀i k,l[i]? =some k->w.cell? ⟨g,off+i,none⟩=some (.string k))/\I8 l<=Rows.uptoBulkAll (elems.map (·.1))
 | [],_,_,_=>⟨[],rfl,fun i k h=>by simp at h,by simp[I8]⟩
 |y::r,g,off,h=>by
  obtain⟨l,h1,h2,h4⟩:=Xo r g (off+1) (fun i hi=>by
   have:=h (i+1) (by simpa using hi);rw[show off+(i+1)=off+1+i from by omega]at this;simpa using this)
  have h0:=h 0 (by simp);simp only[Nat.add_zero,List.getElem?_cons_zero]at h0;obtain⟨cs,hcs,hx⟩:=Option.bind_eq_some_iff.1 h0;obtain⟨_,hc⟩:=P0 (by omega) hcs;obtain⟨key,hk,rfl,_⟩:=DataW.trod_string Tryz.underlying9 hx;subst hk;refine⟨key::l,by simp[h1],fun i k hi=> ?_, ?_⟩
  . cases i with
    |zero=>
     simp only[List.getElem?_cons_zero,Option.some.injEq]at hi;subst hi;exact hc 0 _ rfl
    |succ i=>
     have:=h2 i k (by simpa using hi)
     rwa [show off+1+i=off+(i+1)from by omega]at this
  . have hks:key.data.toList.length=key.size:=(by rw[Array.length_toList];rfl);simp only[I8,List.map_cons,Rows.uptoBulkAll,Rows.uptoBulk];omega
theorem Vs {base:Nat} {v0:Value} {d:DataW H} {ps:List MemPlace} (hv:Value.okWide Tryz.prog w .any base 60 v0) (h:DataW.Trod enc Tryz.prog w 0 sp held 60 v0 d ps):
 ∃(l:List ByteArray) (la:Option Addr) (ln lc:Nat),v0=.slice la ln lc/\Tl w l la ln/\1+I8 l<=Rows.uptoBulk d:=by
 obtain⟨a,len,cap,rfl⟩:=okWide_slice Tryz.underlying60 hv;obtain⟨fuel,f4⟩:=h;rcases DataW.trod_slice Tryz.underlying60 f4 with⟨e,e2⟩|⟨a',len',cap',elems,rest,q,hn,e,e2,_,_,_,hlen',hel,_,_⟩
 . simp only[Value.cells,List.cons.injEq,Value.slice.injEq,and_true]at e;obtain⟨rfl,rfl,rfl⟩:=e;refine⟨[],none,0,0,rfl,⟨rfl,fun i k h=>by simp at h⟩, ?_⟩
   cases e2
   simp[I8,Rows.uptoBulk]
 . simp only[Value.cells,List.cons.injEq,Value.slice.injEq,and_true]at e;obtain⟨rfl,rfl,rfl⟩:=e
   cases e2
   by_cases h0:len=0
   . subst h0;exact⟨[],_,0,cap,rfl,⟨rfl,fun i k h=>by simp at h⟩,by simp[I8,Rows.uptoBulk]⟩
   . obtain⟨g,off,spot⟩:=a';rw[Anw]at hel;have hz:=hel 0 (by omega);rw[List.getElem?_eq_getElem (by omega)]at hz;obtain⟨cs',hcs',_⟩:=Option.bind_eq_some_iff.1 hz;obtain⟨_,hcl,hcc⟩:=World.cells?_some hcs';have hz0:=hcc 0 (by omega);rw[List.getElem?_eq_getElem (by omega)]at hz0;have hspot:spot=none:=by simpa[Addr.add]using World.cell?_spot hz0
     subst hspot;simp only[add_plain,Nat.mul_one]at hel hz0;obtain⟨l,h1,h2,h4⟩:=Xo elems g off (fun i hi=>hel i (by omega));refine⟨l,_,len,cap,rfl,⟨by omega,fun i k hi=>⟨g,off,rfl,World.block_lt_of_cell? _ _ hz0,h2 i k hi⟩⟩, ?_⟩;simp only[Rows.uptoBulk];omega
end
end Go.Proofs.YtkmcjfkokoidcaaGreatDoor
