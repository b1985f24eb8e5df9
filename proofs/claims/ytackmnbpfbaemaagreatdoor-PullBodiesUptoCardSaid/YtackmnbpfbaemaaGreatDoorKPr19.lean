/- Parts: string(b): bytes as a text. No condition. -/
import Derived.Laws.Slices
import Derived.Laws.BytesArg
import Derived.Test.YtackmnbpfbaemaaGreatDoorKPr8
import Derived.Test.YtackmnbpfbaemaaGreatDoorKPr16
namespace Go.Proofs.YtackmnbpfbaemaaGreatDoor
open Go Go.RowKit
theorem Mn {w:World} {B n c:Nat} {l:List UInt8} {a:Option Addr} (h:Ae w B (.row 1 (dB l)) [.slice a n c]):
 l= []\/ ∃g off,a=some ⟨g,off,none⟩/\g<B/\ ∀j x,l[j]? =some x->w.cell? ⟨g,off+j,none⟩=some (.int .u8 x.toNat):=by
 cases l with
 |nil=>exact .inl rfl
 |cons y r=>
  obtain⟨g,off,rfl,hg,_⟩:=Rn h (i:=0) (x:=y) rfl;refine .inr ⟨g,off,rfl,hg,fun j x hx=> ?_⟩;obtain⟨g',off',e,_,hc⟩:=Rn h hx;simp only[Option.some.injEq,Addr.mk.injEq,and_true]at e;obtain⟨rfl,rfl⟩:=e;exact hc
theorem Oe {w:World} {B n c:Nat} {l:List UInt8} {a:Option Addr} (hn:n=l.length) (h:l= []\/ ∃g off,a=some ⟨g,off,none⟩/\g<B/\ ∀j x,l[j]? =some x->w.cell? ⟨g,off+j,none⟩=some (.int .u8 x.toNat)):
 Ae w B (.row 1 (dB l)) [.slice a n c]:=by
 subst hn;refine⟨a,c,by rw[Xx],Po _,Cj l,Pp _ _ _, ?_⟩;rcases h with rfl|⟨g,off,rfl,hg,hc⟩
 . exact .inl rfl
 . refine .inr ⟨g,off,rfl,hg,fun j u hu=> ?_⟩;unfold Cj at hu;rw[List.getElem?_map]at hu;obtain⟨x,hx,rfl⟩:=Option.map_eq_some_iff.1 hu;exact hc j x hx
theorem Ts {w:World} {B n c:Nat} {l:List UInt8} {a:Option Addr} (h:Ae w B (.row 1 (dB l)) [.slice a n c]) (q:Nat) (hq:q<=l.length) (c':Nat):Ae w B (.row 1 (dB (l.take q))) [.slice a q c']:=by
 refine Oe (by rw[List.length_take,Nat.min_eq_left hq]) ?_;rcases Mn h with rfl|⟨g,off,rfl,hg,hc⟩
 . exact .inl (by simp)
 . refine .inr ⟨g,off,rfl,hg,fun j x hx=>hc j x ?_⟩;rw[List.getElem?_take]at hx
   split at hx
   . exact hx
   . cases hx
theorem Alb {w:World} {B n c:Nat} {l:List UInt8} {a:Option Addr} (h:Ae w B (.row 1 (dB l)) [.slice a n c]) (p:Nat) (hp:p<=l.length) (hc:n<=c) (n' c':Nat) (hn':n'=l.length - p):Ae w B (.row 1 (dB (l.drop p))) [.slice (if c=p then a else a.map (·.add (p*1))) n' c']:=by
 have hn:=Sp h;refine Oe (by rw[List.length_drop,hn']) ?_;by_cases e:p=l.length
 . exact .inl (by rw[e,List.drop_length])
 . rw[if_neg (by omega)];rcases Mn h with rfl|⟨g,off,rfl,hg,hc⟩
   . exact .inl (by simp)
   . refine .inr ⟨g,off+p,by simp[Addr.add],hg,fun j x hx=> ?_⟩;rw[List.getElem?_drop]at hx;rw[show off+p+j=off+(p+j)from by omega];exact hc _ x hx
end Go.Proofs.YtackmnbpfbaemaaGreatDoor
namespace Go.Proofs.YtackmnbpfbaemaaGreatDoor
open Go.RowKit Go.ChangeShapes Go.WideShapes Go.ChangeAt
theorem Aix:Tryz.prog.cellsOf 5=1:=by kernel_rfl
section
variable {H:Type} {enc:TypeId×Value->H} {w:World} {sp:Nat->Bool} {held:Bool}
set_option maxRecDepth 10000 in
theorem Rz {n:Nat}: ∀(elems:List (DataW H×List MemPlace)) (g off:Nat),
 (∀i,i<elems.length->(w.cells? 0 ⟨g,off+i,none⟩ 1).bind (DataW.trod enc Tryz.prog w 0 sp held n 5)=elems[i]?)->
 ∃L:List UInt8,L.length=elems.length/\(∀j u,L[j]? =some u->w.cell? ⟨g,off+j,none⟩=some (.int .u8 (u.toNat:Int)))/\L.length<=Rows.uptoBulkAll (elems.map (·.1))
 | [],_,_,_=>⟨[],rfl,fun j u h=>by simp at h,by simp⟩
 |y::r,g,off,h=>by
  obtain⟨L,h1,h2,h3⟩:=Rz r g (off+1) (fun i hi=>by
   have:=h (i+1) (by simpa using hi);rw[show off+(i+1)=off+1+i from by omega]at this;simpa using this)
  have h0:=h 0 (by simp);simp only[Nat.add_zero,List.getElem?_cons_zero]at h0;obtain⟨cs,hcs,hx⟩:=Option.bind_eq_some_iff.1 h0;obtain⟨_,hc⟩:=Aiw (by omega) hcs;obtain⟨x,rfl,rfl,hwf⟩:=DataW.trod_int Tryz.underlying5 hx;have hm1:IntKind.u8.min=0:=by decide
  have hm2:IntKind.u8.max=255:=by decide
  simp only[Lit.wf,hm1,hm2,Bool.and_eq_true,decide_eq_true_eq]at hwf;refine⟨UInt8.ofNat x.toNat::L,by simp[h1],fun j u hj=> ?_, ?_⟩
  . cases j with
    |zero=>
     simp only[List.getElem?_cons_zero,Option.some.injEq]at hj;subst hj;have:=hc 0 _ rfl;rw[this];have e:((UInt8.ofNat x.toNat).toNat:Int)=x:=by
      rw[UInt8.toNat_ofNat',Nat.mod_eq_of_lt (by omega)];omega
     rw[e]
    |succ j=>
     have:=h2 j u (by simpa using hj)
     rwa [show off+(j+1)=off+1+j by omega]
  . simp only[List.length_cons,List.map_cons,Rows.uptoBulkAll,Rows.uptoBulk];omega
set_option maxRecDepth 10000 in
theorem Ui {base:Nat} {v0:Value} {d:DataW H} {ps:List MemPlace} (hv:Value.okWide Tryz.prog w .any base 25 v0) (h:DataW.Trod enc Tryz.prog w 0 sp held 25 v0 d ps):
 ∃(L:List UInt8) (ga:Option Addr) (gc:Nat),v0=.slice ga L.length gc/\Ae w w.heap.size (.row 1 (dB L)) [.slice ga L.length gc]/\L.length<=gc/\L.length<=Rows.uptoBulk d:=by
 obtain⟨a,len,cap,rfl⟩:=okWide_slice Tryz.underlying25 hv;obtain⟨fuel,hf⟩:=h;rcases DataW.trod_slice Tryz.underlying25 hf with⟨e,_⟩|⟨a',len',cap',elems,rest,q,hn,e,hd,_,hcap,_,hlen',hel,_,_⟩
 . simp only[Value.cells,List.cons.injEq,Value.slice.injEq,and_true]at e;obtain⟨rfl,rfl,rfl⟩:=e;exact⟨[],none,0,rfl,Oe rfl (.inl rfl),Nat.le_refl _,Nat.zero_le _⟩
 . simp only[Value.cells,List.cons.injEq,Value.slice.injEq,and_true]at e;obtain⟨rfl,rfl,rfl⟩:=e;simp only[Prod.mk.injEq]at hd;obtain⟨rfl,_⟩:=hd;by_cases h0:len=0
   . subst h0;exact⟨[],some a',cap,rfl,Oe rfl (.inl rfl),Nat.zero_le _,Nat.zero_le _⟩
   . obtain⟨g,off,spot⟩:=a';rw[Aix]at hel;have hz:=hel 0 (by omega);rw[List.getElem?_eq_getElem (by omega)]at hz;obtain⟨cs',hcs',_⟩:=Option.bind_eq_some_iff.1 hz;obtain⟨_,hcl,hcc⟩:=World.cells?_some hcs';have hz0:=hcc 0 (by omega);rw[List.getElem?_eq_getElem (by omega)]at hz0;have hspot:spot=none:=by simpa[Addr.add]using World.cell?_spot hz0
     subst hspot;simp only[add_plain,Nat.mul_one]at hel hz0;obtain⟨L,h1,h2,h3⟩:=Rz elems g off (fun i hi=>hel i (by omega));refine⟨L,_,cap,by rw[h1,hlen'],Oe rfl (.inr ⟨g,off,rfl,World.block_lt_of_cell? _ _ hz0,h2⟩),by omega, ?_⟩;simp only[Rows.uptoBulk];omega
end
end Go.Proofs.YtackmnbpfbaemaaGreatDoor
namespace Go.Proofs.YtackmnbpfbaemaaGreatDoor
open Go Go.RowKit
theorem Aj5 (l:List UInt8):strOfNums (l.map fun x=>((x.toNat:Nat):Int))=⟨l.toArray⟩:=by
 unfold strOfNums
 congr 1
 rw[List.map_map];have:((fun n:Int=>UInt8.ofNat n.toNat) ∘ fun x:UInt8=>((x.toNat:Nat):Int))=id:=by
  funext x
  simp
 rw[this,List.map_id]
theorem Uo {w:World} {B n c:Nat} {l:List UInt8} {a:Option Addr} (h:Ae w B (.row 1 (dB l)) [.slice a n c]):(convert 25 9 (.slice a n c)).run Tryz.prog w=.ok (.string ⟨l.toArray⟩) w:=by
 have hn:=Sp h;subst hn;rw[<-Aj5];rcases Mn h with rfl|⟨g,off,rfl,hg,hc⟩
 . cases a with
   |none=>exact run_convert_bytes_nil w 25 5 Tryz.underlying25 Tryz.underlying5 _ _ _ Tryz.underlying9
   |some p=>
    have hl:(loadCells p 0).run Tryz.prog w=.ok (([]:List Int).map (Value.int .u8)).toArray w:=by
     have:=run_loadCells_list (P:=Tryz.prog) w p [] (fun j v hj=>by simp at hj);simpa using this
    show(convert _ _ (.slice (some p) 0 c)).run _ w=_;rw[run_convert_bytes_string w 25 9 5 _ 0 c Tryz.underlying25 Tryz.underlying5 Tryz.underlying9,run_bytesToString w _ 0 c [] hl];rfl
 . refine run_convert_bytes_arg w 25 5 Tryz.underlying25 Tryz.underlying5 g off l.length c _ (by rw[List.length_map]) (fun i hi=> ?_) _ Tryz.underlying9;rw[hc i _ (List.getElem?_eq_getElem hi)];simp[List.getD,hi]
end Go.Proofs.YtackmnbpfbaemaaGreatDoor
