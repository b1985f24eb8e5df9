/- Parts: Arguments that read as a list of entries. No condition. -/
import Derived.Test.YtkmcjfkokoidcaaGreatDoorRows
import Derived.Deep.Slices
import Derived.WideKeyArgs
import Derived.Test.YtkmcjfkokoidcaaGreatDoorKFa21
set_option maxRecDepth 100000
namespace Go.Proofs.YtkmcjfkokoidcaaGreatDoor
open Go.RowKit Go.ChangeShapes Go.WideShapes
theorem Yw:Tryz.prog.cellsOf 37=6:=by kernel_rfl
theorem Ajs:Tryz.prog.cellsOf 94=7:=by kernel_rfl
theorem L5:Tryz.prog.cellsOf 9=1:=by kernel_rfl
theorem Ad5:Tryz.prog.cellsOf 33=1:=by kernel_rfl
theorem Ad4:Tryz.prog.cellsOf 4=1:=by kernel_rfl
theorem Ahc:Tryz.prog.cellsOf 2=1:=by kernel_rfl
theorem Aju:Tryz.prog.cellsOf 34=1:=by kernel_rfl
theorem Ajt:Tryz.prog.cellsOf 35=1:=by kernel_rfl
section
variable {H:Type} {enc:TypeId×Value->H} {w:World} {sp:Nat->Bool} {held:Bool}
def Aji (enc:TypeId×Value->H) (w:World) (sp:Nat->Bool) (held:Bool) (n:Nat):Prop:= ∀(cs:List Value) (x:DataW H×List MemPlace),DataW.trod enc Tryz.prog w 0 sp held n 37 cs=some x->
    ∃v,Ac w w.heap.size v cs/\J8 v/\v.bulk<=Rows.uptoBulk x.1
theorem Ait {cs:List Value} (h:cs.length=6): ∃c0 c1 c2 c3 c4 c5,cs= [c0,c1,c2,c3,c4,c5]:=by
 match cs,h with
 | [c0,c1,c2,c3,c4,c5],_=>exact⟨_,_,_,_,_,_,rfl⟩
theorem Se {α:Type} {cs:List α} (h:cs.length=7): ∃c0 c1 c2 c3 c4 c5 c6,cs= [c0,c1,c2,c3,c4,c5,c6]:=by
 match cs,h with
 | [c0,c1,c2,c3,c4,c5,c6],_=>exact⟨_,_,_,_,_,_,_,rfl⟩
theorem P0 {g off n:Nat} {cs:List Value} (hn:0<n) (h:w.cells? 0 ⟨g,off,none⟩ n=some cs):g<w.heap.size/\ ∀j u,cs[j]? =some u->w.cell? ⟨g,off+j,none⟩=some u:=by
 obtain⟨_,hlen,hc⟩:=World.cells?_some h;have hj: ∀j u,cs[j]? =some u->w.cell? ⟨g,off+j,none⟩=some u:=by
  intro j u hu;have hjn:j<n:=by
   have:=(List.getElem?_eq_some_iff.1 hu).1;omega
  have:=hc j hjn;rw[add_plain]at this;rw[<-hu];exact this
 refine⟨?_,hj⟩;have h0: ∃u,cs[0]? =some u:=⟨cs[0]'(by omega),List.getElem?_eq_getElem (by omega)⟩;obtain⟨u,hu⟩:=h0;exact World.block_lt_of_cell? _ _ (hj 0 u hu)
theorem Ur {n:Nat} (IH:Aji enc w sp held n): ∀(elems:List (DataW H×List MemPlace)) (g off:Nat),
 (∀i,i<elems.length->(w.cells? 0 ⟨g,off+i*6,none⟩ 6).bind (DataW.trod enc Tryz.prog w 0 sp held n 37)=elems[i]?)->
 ∃l,l.length=elems.length/\Ao w w.heap.size l g off/\Pl l/\Bf l<=Rows.uptoBulkAll (elems.map (·.1))
 | [],_,_,_=>⟨[],rfl,by simp[Ao],by simp[Pl],by simp[Bf]⟩
 |y::r,g,off,h=>by
  obtain⟨l,h1,h2,h3,h4⟩:=Ur IH r g (off+6) (fun i hi=>by
   have:=h (i+1) (by simpa using hi);rw[show off+(i+1)*6=off+6+i*6 from by omega]at this;simpa using this)
  have h0:=h 0 (by simp);simp only[Nat.zero_mul,Nat.add_zero,List.getElem?_cons_zero]at h0;obtain⟨cs,hcs,hx⟩:=Option.bind_eq_some_iff.1 h0;obtain⟨v,v1,v2,v3⟩:=IH cs y hx;obtain⟨_,hc⟩:=P0 (by omega) hcs;refine⟨v::l,by simp[h1], ?_, ?_, ?_⟩
  . simp only[Ao];exact⟨⟨cs,v1,hc⟩,h2⟩
  . simp only[Pl];exact⟨v2,h3⟩
  . simp only[Bf,List.map_cons,Rows.uptoBulkAll];omega
theorem Qg {n:Nat} (IH: ∀m,m<n->Aji enc w sp held m): ∀(elems:List (DataW H×List MemPlace)) (g off:Nat),
 (∀i,i<elems.length->(w.cells? 0 ⟨g,off+i*7,none⟩ 7).bind (DataW.trod enc Tryz.prog w 0 sp held n 94)=elems[i]?)->
 ∃l,l.length=elems.length/\Ap w w.heap.size l g off/\Ew l/\Ab l<=Rows.uptoBulkAll (elems.map (·.1))
 | [],_,_,_=>⟨[],rfl,by simp[Ap],by simp[Ew],by simp[Ab]⟩
 |y::r,g,off,h=>by
  obtain⟨l,h1,h2,h3,h4⟩:=Qg IH r g (off+7) (fun i hi=>by
   have:=h (i+1) (by simpa using hi);rw[show off+(i+1)*7=off+7+i*7 from by omega]at this;simpa using this)
  have h0:=h 0 (by simp);simp only[Nat.zero_mul,Nat.add_zero,List.getElem?_cons_zero]at h0;obtain⟨cs,hcs,hx⟩:=Option.bind_eq_some_iff.1 h0;obtain⟨_,hc⟩:=P0 (by omega) hcs;obtain⟨xs,m,rfl,rfl,hl,hlen,hf⟩:=DataW.trod_struct Tryz.underlying94 hx;have hl7:cs.length=7:=hl.trans Ajs;obtain⟨c0,c1,c2,c3,c4,c5,c6,rfl⟩:=Se hl7;have f0:DataW.trod enc Tryz.prog w 0 sp held m 9 (([c0,c1,c2,c3,c4,c5,c6].drop 0).take (Tryz.prog.cellsOf 9))=xs[0]? :=hf 0 _ rfl;have f1:DataW.trod enc Tryz.prog w 0 sp held m 37 (([c0,c1,c2,c3,c4,c5,c6].drop 1).take (Tryz.prog.cellsOf 37))=xs[1]? :=hf 1 _ rfl;simp only[L5,Yw,List.drop_zero,List.drop_succ_cons,List.take_succ_cons,List.take_zero]at f0 f1
  match xs,hlen with
  | [y0,y1],_=>
    simp only[List.getElem?_cons_zero,List.getElem?_cons_succ]at f0 f1;obtain⟨key,hk,rfl,_⟩:=DataW.trod_string Tryz.underlying9 f0;obtain⟨v,v1,v2,v3⟩:=IH m (by omega) _ _ f1;simp only[List.cons.injEq,and_true]at hk;subst hk;refine⟨(key,v)::l,by simp[h1], ?_, ?_, ?_⟩
    . simp only[Ap,Lv];refine⟨⟨hc 0 _ rfl,_,v1,fun j u hu=> ?_⟩,h2⟩;rw[Nat.add_assoc,Nat.add_comm 1 j];exact hc (j+1) u hu
    . simp only[Ew,inP];exact⟨v2,h3⟩
    . have hks:key.data.toList.length=key.size:=(by rw[Array.length_toList];rfl);simp only[Ab,Ib,List.map_cons,List.map_nil,Rows.uptoBulkAll,Rows.uptoBulk];omega
theorem Vt {n:Nat} {c4:Value} {y4:DataW H×List MemPlace} (IH: ∀m,m<n->Aji enc w sp held m) (f4:DataW.trod enc Tryz.prog w 0 sp held n 34 [c4]=some y4):
 ∃l la lc,c4=.slice la (l:List Val).length lc/\(l= []\/ ∃g off,la=some ⟨g,off,none⟩/\g<w.heap.size/\Ao w w.heap.size l g off)/\Pl l/\1+Bf l<=Rows.uptoBulk y4.1:=by
 rcases DataW.trod_slice Tryz.underlying34 f4 with⟨e,rfl⟩|⟨a,len,cap,elems,rest,q,hn,e,rfl,_,_,_,hlen',hel,_,_⟩
 . simp only[List.cons.injEq,and_true]at e;exact⟨[],none,0,e,.inl rfl,by simp[Pl],by simp[Bf,Rows.uptoBulk]⟩
 . simp only[List.cons.injEq,and_true]at e;subst e;by_cases h0:len=0
   . subst h0;exact⟨[],some a,cap,rfl,.inl rfl,by simp[Pl],by simp[Bf,Rows.uptoBulk]⟩
   . obtain⟨g,off,spot⟩:=a;rw[Yw]at hel;have hz:=hel 0 (by omega);rw[List.getElem?_eq_getElem (by omega)]at hz;obtain⟨cs',hcs',_⟩:=Option.bind_eq_some_iff.1 hz;obtain⟨_,hcl,hcc⟩:=World.cells?_some hcs';have hz0:=hcc 0 (by omega);rw[List.getElem?_eq_getElem (by omega)]at hz0;have hspot:spot=none:=by simpa[Addr.add]using World.cell?_spot hz0
     subst hspot;simp only[add_plain]at hel hz0;obtain⟨l,h1,h2,h3,h4⟩:=Ur (IH q (by omega)) elems g off (fun i hi=>hel i (by omega));refine⟨l,_,cap,by rw[h1,hlen'],.inr ⟨g,off,rfl,World.block_lt_of_cell? _ _ hz0,h2⟩,h3, ?_⟩;simp only[Rows.uptoBulk];omega
theorem Vu {n:Nat} {c5:Value} {y5:DataW H×List MemPlace} (IH: ∀m,m<n->Aji enc w sp held m) (f5:DataW.trod enc Tryz.prog w 0 sp held n 35 [c5]=some y5):
 ∃l la lc,c5=.slice la (l:List (ByteArray×Val)).length lc/\(l= []\/ ∃g off,la=some ⟨g,off,none⟩/\g<w.heap.size/\Ap w w.heap.size l g off)/\Ew l/\1+Ab l<=Rows.uptoBulk y5.1:=by
 rcases DataW.trod_slice Tryz.underlying35 f5 with⟨e,rfl⟩|⟨a,len,cap,elems,rest,q,hn,e,rfl,_,_,_,hlen',hel,_,_⟩
 . simp only[List.cons.injEq,and_true]at e;exact⟨[],none,0,e,.inl rfl,by simp[Ew],by simp[Ab,Rows.uptoBulk]⟩
 . simp only[List.cons.injEq,and_true]at e;subst e;by_cases h0:len=0
   . subst h0;exact⟨[],some a,cap,rfl,.inl rfl,by simp[Ew],by simp[Ab,Rows.uptoBulk]⟩
   . obtain⟨g,off,spot⟩:=a;rw[Ajs]at hel;have hz:=hel 0 (by omega);rw[List.getElem?_eq_getElem (by omega)]at hz;obtain⟨cs',hcs',_⟩:=Option.bind_eq_some_iff.1 hz;obtain⟨_,hcl,hcc⟩:=World.cells?_some hcs';have hz0:=hcc 0 (by omega);rw[List.getElem?_eq_getElem (by omega)]at hz0;have hspot:spot=none:=by simpa[Addr.add]using World.cell?_spot hz0
     subst hspot;simp only[add_plain]at hel hz0;obtain⟨l,h1,h2,h3,h4⟩:=Qg (n:=q) (fun m hm=>IH m (by omega)) elems g off (fun i hi=>hel i (by omega));refine⟨l,_,cap,by rw[h1,hlen'],.inr ⟨g,off,rfl,World.block_lt_of_cell? _ _ hz0,h2⟩,h3, ?_⟩;simp only[Rows.uptoBulk];omega
theorem Us: ∀n,Aji enc w sp held n:=by
 intro n
 induction n using Nat.strongRecOn with
 |_ n IH=>
  intro cs x hx;obtain⟨xs,m,rfl,rfl,hl,hlen,hf⟩:=DataW.trod_struct Tryz.underlying37 hx;have hl6:cs.length=6:=hl.trans Yw;obtain⟨c0,c1,c2,c3,c4,c5,rfl⟩:=Ait hl6;have f0:DataW.trod enc Tryz.prog w 0 sp held m 33 (([c0,c1,c2,c3,c4,c5].drop 0).take (Tryz.prog.cellsOf 33))=xs[0]? :=hf 0 _ rfl;have f1:DataW.trod enc Tryz.prog w 0 sp held m 4 (([c0,c1,c2,c3,c4,c5].drop 1).take (Tryz.prog.cellsOf 4))=xs[1]? :=hf 1 _ rfl;have f2:DataW.trod enc Tryz.prog w 0 sp held m 2 (([c0,c1,c2,c3,c4,c5].drop 2).take (Tryz.prog.cellsOf 2))=xs[2]? :=hf 2 _ rfl;have f3:DataW.trod enc Tryz.prog w 0 sp held m 9 (([c0,c1,c2,c3,c4,c5].drop 3).take (Tryz.prog.cellsOf 9))=xs[3]? :=hf 3 _ rfl;have f4:DataW.trod enc Tryz.prog w 0 sp held m 34 (([c0,c1,c2,c3,c4,c5].drop 4).take (Tryz.prog.cellsOf 34))=xs[4]? :=hf 4 _ rfl;have f5:DataW.trod enc Tryz.prog w 0 sp held m 35 (([c0,c1,c2,c3,c4,c5].drop 5).take (Tryz.prog.cellsOf 35))=xs[5]? :=hf 5 _ rfl;simp only[Ad5,Ad4,Ahc,L5,Aju,Ajt,List.drop_zero,List.drop_succ_cons,List.take_succ_cons,List.take_zero]at f0 f1 f2 f3 f4 f5
  match xs,hlen with
  | [y0,y1,y2,y3,y4,y5],_=>
    simp only[List.getElem?_cons_zero,List.getElem?_cons_succ]at f0 f1 f2 f3 f4 f5;obtain⟨k,e0,rfl,_⟩:=DataW.trod_int Tryz.underlying33 f0;obtain⟨b,e1,rfl⟩:=DataW.trod_bool Tryz.underlying4 f1;obtain⟨i,e2,rfl,hwf⟩:=DataW.trod_int Tryz.underlying2 f2;obtain⟨t,e3,rfl,_⟩:=DataW.trod_string Tryz.underlying9 f3;simp only[List.cons.injEq,and_true]at e0 e1 e2 e3;subst e0 e1 e2 e3;have hin: -9223372036854775808<=i/\i<=9223372036854775807:=by
     have h1:IntKind.i64.min= -9223372036854775808:=by decide
     have h2:IntKind.i64.max=9223372036854775807:=by decide
     simp only[Lit.wf,h1,h2,Bool.and_eq_true,decide_eq_true_eq]at hwf;exact hwf
    have hts:t.data.toList.length=t.size:=(by rw[Array.length_toList];rfl);have hL:=Vt (fun q hq=>IH q (by omega)) f4;have hO:=Vu (fun q hq=>IH q (by omega)) f5;obtain⟨l,la,lc,rfl,l1,l2,l3⟩:=hL;obtain⟨o,oa,oc,rfl,o1,o2,o3⟩:=hO;refine⟨.mk k b i t l o, ?_, ?_, ?_⟩
    . simp only[Ac];exact⟨la,lc,oa,oc,rfl,l1,o1⟩
    . simp only[J8];exact⟨hin,l2,o2⟩
    . simp only[Val.bulk,List.map_cons,List.map_nil,Rows.uptoBulkAll,Rows.uptoBulk];omega
theorem Uq {base:Nat} {v0:Value} {d:DataW H} {ps:List MemPlace} (hv:Value.okWide Tryz.prog w .any base 37 v0) (h:DataW.Trod enc Tryz.prog w 0 sp held 37 v0 d ps):
 ∃v cs,v0=.agg (cs:List Value).toArray/\Ac w w.heap.size v cs/\J8 v/\v.bulk<=Rows.uptoBulk d:=by
 obtain⟨cs,rfl,_⟩:=okWide_struct Tryz.underlying37 hv;obtain⟨fuel,hf⟩:=h;obtain⟨v,h1,h2,h3⟩:=Us fuel _ _ hf;exact⟨v,cs.toList,by simp,h1,h2,h3⟩
end
theorem Akv:laidOutB Tryz.prog=true:=by kernel_rfl
theorem Sg {H:Type} {enc:TypeId×Value->H} {W W':World} {t:TypeId} {v:Value} {d:DataW H} {ps:List MemPlace} {sp':Nat->Bool} (hr:Tryz.prog.readableRec t=true) (ht:t<Tryz.prog.types.size)
 (h:DataW.Trod enc Tryz.prog W 0 (fun _=>true) true t v d ps) (hlt: ∀p ∈ ps,p.block<W.heap.size) (hb:Below W.heap.size W W') (hs: ∀p ∈ ps,sp' p.block=true):DataW.Trod enc Tryz.prog W' 0 sp' true t v d ps:=by
 refine Go.WideElems.Trod_stays Akv hr ht h (fun p hp=> ?_) hs;have hl:=hlt p hp
 cases p with
 |cell b off=>exact World.cell?_of_block (w:=W) (w':=W') (a:=⟨b,off,none⟩) (hb.block b hl)
 |map b=>exact hb.block b hl
section
variable {H:Type} {enc:TypeId×Value->H} {w:World} {sp:Nat->Bool} {held:Bool}
end
theorem Ajr:Tryz.prog.cellsOf 63=7:=by kernel_rfl
section
variable {H:Type} {enc:TypeId×Value->H} {w:World} {sp:Nat->Bool} {held:Bool}
theorem Xn {n:Nat}: ∀(elems:List (DataW H×List MemPlace)) (g off:Nat),
 (∀i,i<elems.length->(w.cells? 0 ⟨g,off+i*7,none⟩ 7).bind (DataW.trod enc Tryz.prog w 0 sp held n 63)=elems[i]?)->
 ∃l:List (ByteArray×Val),l.length=elems.length/\(∃ns,Af w w.heap.size (dO l) ns/\ ∀j u,ns[j]? =some u->w.cell? ⟨g,off+j,none⟩=some u)/\Ew l/\Ab l<=Rows.uptoBulkAll (elems.map (·.1))
 | [],_,_,_=>⟨[],rfl,⟨[],rfl,fun j u h=>by simp at h⟩,by simp[Ew],by simp[Ab]⟩
 |y::r,g,off,h=>by
  obtain⟨l,h1,⟨ns,h2,h2'⟩,h3,h4⟩:=Xn r g (off+7) (fun i hi=>by
   have:=h (i+1) (by simpa using hi);rw[show off+(i+1)*7=off+7+i*7 from by omega]at this;simpa using this)
  have h0:=h 0 (by simp);simp only[Nat.zero_mul,Nat.add_zero,List.getElem?_cons_zero]at h0;obtain⟨cs,hcs,hx⟩:=Option.bind_eq_some_iff.1 h0;obtain⟨_,hc⟩:=P0 (by omega) hcs;obtain⟨xs,m,rfl,rfl,hl,hlen,hf⟩:=DataW.trod_struct Tryz.underlying63 hx;have hl7:cs.length=7:=hl.trans Ajr;obtain⟨c0,c1,c2,c3,c4,c5,c6,rfl⟩:=Se hl7;have f0:DataW.trod enc Tryz.prog w 0 sp held m 9 (([c0,c1,c2,c3,c4,c5,c6].drop 0).take (Tryz.prog.cellsOf 9))=xs[0]? :=hf 0 _ rfl;have f1:DataW.trod enc Tryz.prog w 0 sp held m 37 (([c0,c1,c2,c3,c4,c5,c6].drop 1).take (Tryz.prog.cellsOf 37))=xs[1]? :=hf 1 _ rfl;simp only[L5,Yw,List.drop_zero,List.drop_succ_cons,List.take_succ_cons,List.take_zero]at f0 f1
  match xs,hlen with
  | [y0,y1],_=>
    simp only[List.getElem?_cons_zero,List.getElem?_cons_succ]at f0 f1;obtain⟨key,hk,rfl,_⟩:=DataW.trod_string Tryz.underlying9 f0;obtain⟨v,v1,v2,v3⟩:=Us m _ _ f1;simp only[List.cons.injEq,and_true]at hk;subst hk;refine⟨(key,v)::l,by simp[h1],⟨.string key::([c1,c2,c3,c4,c5,c6]++ns),⟨.string key:: [c1,c2,c3,c4,c5,c6],ns,rfl,⟨[.string key], [c1,c2,c3,c4,c5,c6],rfl,⟨rfl,rfl⟩, [c1,c2,c3,c4,c5,c6], [],by simp,Ej _ _ v1,rfl⟩,h2⟩,fun j u hu=> ?_⟩, ?_, ?_⟩
    . by_cases hj:j<7
      . refine hc j u ?_;rw[show Value.string key::([c1,c2,c3,c4,c5,c6]++ns)= [Value.string key,c1,c2,c3,c4,c5,c6]++ns from rfl,List.getElem?_append_left (by simpa using hj)]at hu;exact hu
      . rw[show Value.string key::([c1,c2,c3,c4,c5,c6]++ns)= [Value.string key,c1,c2,c3,c4,c5,c6]++ns from rfl,List.getElem?_append_right (by simpa using hj)]at hu;have:=h2' (j - 7) u hu
        rwa [show off+7+(j - 7)=off+j from by omega]at this
    . simp only[Ew,inP];exact⟨v2,h3⟩
    . have hks:key.data.toList.length=key.size:=(by rw[Array.length_toList];rfl);simp only[Ab,Ib,List.map_cons,List.map_nil,Rows.uptoBulkAll,Rows.uptoBulk];omega
theorem Zq {n:Nat} {c4:Value} {y4:DataW H×List MemPlace} (f4:DataW.trod enc Tryz.prog w 0 sp held n 22 [c4]=some y4):
 ∃(l:List (ByteArray×Val)) (la:Option Addr) (ln lc:Nat),c4=.slice la ln lc/\Ag w w.heap.size (.row 7 (dO l)) [.slice la ln lc]/\Ew l/\1+Ab l<=Rows.uptoBulk y4.1:=by
 rcases DataW.trod_slice Tryz.underlying22 f4 with⟨e,rfl⟩|⟨a,len,cap,elems,rest,q,hn,e,rfl,_,_,_,hlen',hel,_,_⟩
 . simp only[List.cons.injEq,and_true]at e;exact⟨[],none,0,0,e,⟨none,0,rfl,Es _, [],rfl,.inl rfl⟩,by simp[Ew],by simp[Ab,Rows.uptoBulk]⟩
 . simp only[List.cons.injEq,and_true]at e;subst e;by_cases h0:len=0
   . subst h0;exact⟨[],some a,0,cap,rfl,⟨some a,cap,rfl,Es _, [],rfl,.inl rfl⟩,by simp[Ew],by simp[Ab,Rows.uptoBulk]⟩
   . obtain⟨g,off,spot⟩:=a;rw[Ajr]at hel;have hz:=hel 0 (by omega);rw[List.getElem?_eq_getElem (by omega)]at hz;obtain⟨cs',hcs',_⟩:=Option.bind_eq_some_iff.1 hz;obtain⟨_,hcl,hcc⟩:=World.cells?_some hcs';have hz0:=hcc 0 (by omega);rw[List.getElem?_eq_getElem (by omega)]at hz0;have hspot:spot=none:=by simpa[Addr.add]using World.cell?_spot hz0
     subst hspot;simp only[add_plain]at hel hz0;obtain⟨l,h1,⟨ns,h2,h2'⟩,h3,h4⟩:=Xn elems g off (fun i hi=>hel i (by omega));refine⟨l,_,len,cap,rfl,⟨_,cap,by rw[Av,h1,hlen'],Es _,ns,h2,.inr ⟨g,off,rfl,World.block_lt_of_cell? _ _ hz0,h2'⟩⟩,h3, ?_⟩;simp only[Rows.uptoBulk];omega
theorem Gb {base:Nat} {v0:Value} {d:DataW H} {ps:List MemPlace} (hv:Value.okWide Tryz.prog w .any base 22 v0) (h:DataW.Trod enc Tryz.prog w 0 sp held 22 v0 d ps):
 ∃(l:List (ByteArray×Val)) (la:Option Addr) (ln lc:Nat),v0=.slice la ln lc/\Ag w w.heap.size (.row 7 (dO l)) [.slice la ln lc]/\Ew l/\1+Ab l<=Rows.uptoBulk d:=by
 obtain⟨a,len,cap,rfl⟩:=okWide_slice Tryz.underlying22 hv;obtain⟨fuel,hf⟩:=h;exact Zq hf
end
end Go.Proofs.YtkmcjfkokoidcaaGreatDoor
