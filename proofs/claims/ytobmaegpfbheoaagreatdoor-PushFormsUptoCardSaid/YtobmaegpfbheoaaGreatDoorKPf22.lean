/- Parts: Arguments that read as a push. No condition. -/
import Derived.Test.YtobmaegpfbheoaaGreatDoorRows
import Derived.Deep.Slices
import Derived.WideKeyArgs
import Derived.Test.YtobmaegpfbheoaaGreatDoorKPf17
set_option maxRecDepth 100000
namespace Go.Proofs.YtobmaegpfbheoaaGreatDoor
open Go.RowKit Go.ChangeShapes Go.WideShapes
theorem Qs:Tryz.prog.cellsOf 42=6:=by kernel_rfl
theorem Y0:Tryz.prog.cellsOf 74=7:=by kernel_rfl
theorem Gx:Tryz.prog.cellsOf 9=1:=by kernel_rfl
theorem U5:Tryz.prog.cellsOf 38=1:=by kernel_rfl
theorem Nf:Tryz.prog.cellsOf 4=1:=by kernel_rfl
theorem Px:Tryz.prog.cellsOf 2=1:=by kernel_rfl
theorem Y5:Tryz.prog.cellsOf 39=1:=by kernel_rfl
theorem Y4:Tryz.prog.cellsOf 40=1:=by kernel_rfl
section
variable {H:Type} {enc:TypeId×Value->H} {w:World} {sp:Nat->Bool} {held:Bool}
def Yr (enc:TypeId×Value->H) (w:World) (sp:Nat->Bool) (held:Bool) (n:Nat):Prop:= ∀(cs:List Value) (x:DataW H×List MemPlace),DataW.trod enc Tryz.prog w 0 sp held n 42 cs=some x->
    ∃v,Ab w w.heap.size v cs/\Jg v/\v.bulk<=Rows.uptoBulk x.1
theorem Yb {cs:List Value} (h:cs.length=6): ∃c0 c1 c2 c3 c4 c5,cs= [c0,c1,c2,c3,c4,c5]:=by
 match cs,h with
 | [c0,c1,c2,c3,c4,c5],_=>exact⟨_,_,_,_,_,_,rfl⟩
theorem Tx {α:Type} {cs:List α} (h:cs.length=7): ∃c0 c1 c2 c3 c4 c5 c6,cs= [c0,c1,c2,c3,c4,c5,c6]:=by
 match cs,h with
 | [c0,c1,c2,c3,c4,c5,c6],_=>exact⟨_,_,_,_,_,_,_,rfl⟩
theorem Ka {g off n:Nat} {cs:List Value} (hn:0<n) (h:w.cells? 0 ⟨g,off,none⟩ n=some cs):g<w.heap.size/\ ∀j u,cs[j]? =some u->w.cell? ⟨g,off+j,none⟩=some u:=by
 obtain⟨_,hlen,hc⟩:=World.cells?_some h;have hj: ∀j u,cs[j]? =some u->w.cell? ⟨g,off+j,none⟩=some u:=by
  intro j u hu;have hjn:j<n:=by
   have:=(List.getElem?_eq_some_iff.1 hu).1;omega
  have:=hc j hjn;rw[add_plain]at this;rw[<-hu];exact this
 refine⟨?_,hj⟩;have h0: ∃u,cs[0]? =some u:=⟨cs[0]'(by omega),List.getElem?_eq_getElem (by omega)⟩;obtain⟨u,hu⟩:=h0;exact World.block_lt_of_cell? _ _ (hj 0 u hu)
theorem Od {n:Nat} (IH:Yr enc w sp held n): ∀(elems:List (DataW H×List MemPlace)) (g off:Nat),
 (∀i,i<elems.length->(w.cells? 0 ⟨g,off+i*6,none⟩ 6).bind (DataW.trod enc Tryz.prog w 0 sp held n 42)=elems[i]?)->
 ∃l,l.length=elems.length/\Aq w w.heap.size l g off/\Oz l/\A0 l<=Rows.uptoBulkAll (elems.map (·.1))
 | [],_,_,_=>⟨[],rfl,by simp[Aq],by simp[Oz],by simp[A0]⟩
 |y::r,g,off,h=>by
  obtain⟨l,h1,h2,h3,h4⟩:=Od IH r g (off+6) (fun i hi=>by
   have:=h (i+1) (by simpa using hi);rw[show off+(i+1)*6=off+6+i*6 from by omega]at this;simpa using this)
  have h0:=h 0 (by simp);simp only[Nat.zero_mul,Nat.add_zero,List.getElem?_cons_zero]at h0;obtain⟨cs,hcs,hx⟩:=Option.bind_eq_some_iff.1 h0;obtain⟨v,v1,v2,v3⟩:=IH cs y hx;obtain⟨_,hc⟩:=Ka (by omega) hcs;refine⟨v::l,by simp[h1], ?_, ?_, ?_⟩
  . simp only[Aq];exact⟨⟨cs,v1,hc⟩,h2⟩
  . simp only[Oz];exact⟨v2,h3⟩
  . simp only[A0,List.map_cons,Rows.uptoBulkAll];omega
theorem Kp {n:Nat} (IH: ∀m,m<n->Yr enc w sp held m): ∀(elems:List (DataW H×List MemPlace)) (g off:Nat),
 (∀i,i<elems.length->(w.cells? 0 ⟨g,off+i*7,none⟩ 7).bind (DataW.trod enc Tryz.prog w 0 sp held n 74)=elems[i]?)->
 ∃l,l.length=elems.length/\As w w.heap.size l g off/\P2 l/\Av l<=Rows.uptoBulkAll (elems.map (·.1))
 | [],_,_,_=>⟨[],rfl,by simp[As],by simp[P2],by simp[Av]⟩
 |y::r,g,off,h=>by
  obtain⟨l,h1,h2,h3,h4⟩:=Kp IH r g (off+7) (fun i hi=>by
   have:=h (i+1) (by simpa using hi);rw[show off+(i+1)*7=off+7+i*7 from by omega]at this;simpa using this)
  have h0:=h 0 (by simp);simp only[Nat.zero_mul,Nat.add_zero,List.getElem?_cons_zero]at h0;obtain⟨cs,hcs,hx⟩:=Option.bind_eq_some_iff.1 h0;obtain⟨_,hc⟩:=Ka (by omega) hcs;obtain⟨xs,m,rfl,rfl,hl,hlen,hf⟩:=DataW.trod_struct Tryz.underlying74 hx;have hl7:cs.length=7:=hl.trans Y0;obtain⟨c0,c1,c2,c3,c4,c5,c6,rfl⟩:=Tx hl7;have f0:DataW.trod enc Tryz.prog w 0 sp held m 9 (([c0,c1,c2,c3,c4,c5,c6].drop 0).take (Tryz.prog.cellsOf 9))=xs[0]? :=hf 0 _ rfl;have f1:DataW.trod enc Tryz.prog w 0 sp held m 42 (([c0,c1,c2,c3,c4,c5,c6].drop 1).take (Tryz.prog.cellsOf 42))=xs[1]? :=hf 1 _ rfl;simp only[Gx,Qs,List.drop_zero,List.drop_succ_cons,List.take_succ_cons,List.take_zero]at f0 f1
  match xs,hlen with
  | [y0,y1],_=>
    simp only[List.getElem?_cons_zero,List.getElem?_cons_succ]at f0 f1;obtain⟨key,hk,rfl,_⟩:=DataW.trod_string Tryz.underlying9 f0;obtain⟨v,v1,v2,v3⟩:=IH m (by omega) _ _ f1;simp only[List.cons.injEq,and_true]at hk;subst hk;refine⟨(key,v)::l,by simp[h1], ?_, ?_, ?_⟩
    . simp only[As,Hg];refine⟨⟨hc 0 _ rfl,_,v1,fun j u hu=> ?_⟩,h2⟩;rw[Nat.add_assoc,Nat.add_comm 1 j];exact hc (j+1) u hu
    . simp only[P2,inP];exact⟨v2,h3⟩
    . have hks:key.data.toList.length=key.size:=(by rw[Array.length_toList];rfl);simp only[Av,Ds,List.map_cons,List.map_nil,Rows.uptoBulkAll,Rows.uptoBulk];omega
theorem O7 {n:Nat} {c4:Value} {y4:DataW H×List MemPlace} (IH: ∀m,m<n->Yr enc w sp held m) (f4:DataW.trod enc Tryz.prog w 0 sp held n 39 [c4]=some y4):
 ∃l la lc,c4=.slice la (l:List Val).length lc/\(l= []\/ ∃g off,la=some ⟨g,off,none⟩/\g<w.heap.size/\Aq w w.heap.size l g off)/\Oz l/\1+A0 l<=Rows.uptoBulk y4.1:=by
 rcases DataW.trod_slice Tryz.underlying39 f4 with⟨e,rfl⟩|⟨a,len,cap,elems,rest,q,hn,e,rfl,_,_,_,hlen',hel,_,_⟩
 . simp only[List.cons.injEq,and_true]at e;exact⟨[],none,0,e,.inl rfl,by simp[Oz],by simp[A0,Rows.uptoBulk]⟩
 . simp only[List.cons.injEq,and_true]at e;subst e;by_cases h0:len=0
   . subst h0;exact⟨[],some a,cap,rfl,.inl rfl,by simp[Oz],by simp[A0,Rows.uptoBulk]⟩
   . obtain⟨g,off,spot⟩:=a;rw[Qs]at hel;have hz:=hel 0 (by omega);rw[List.getElem?_eq_getElem (by omega)]at hz;obtain⟨cs',hcs',_⟩:=Option.bind_eq_some_iff.1 hz;obtain⟨_,hcl,hcc⟩:=World.cells?_some hcs';have hz0:=hcc 0 (by omega);rw[List.getElem?_eq_getElem (by omega)]at hz0;have hspot:spot=none:=by simpa[Addr.add]using World.cell?_spot hz0
     subst hspot;simp only[add_plain]at hel hz0;obtain⟨l,h1,h2,h3,h4⟩:=Od (IH q (by omega)) elems g off (fun i hi=>hel i (by omega));refine⟨l,_,cap,by rw[h1,hlen'],.inr ⟨g,off,rfl,World.block_lt_of_cell? _ _ hz0,h2⟩,h3, ?_⟩;simp only[Rows.uptoBulk];omega
theorem O8 {n:Nat} {c5:Value} {y5:DataW H×List MemPlace} (IH: ∀m,m<n->Yr enc w sp held m) (f5:DataW.trod enc Tryz.prog w 0 sp held n 40 [c5]=some y5):
 ∃l la lc,c5=.slice la (l:List (ByteArray×Val)).length lc/\(l= []\/ ∃g off,la=some ⟨g,off,none⟩/\g<w.heap.size/\As w w.heap.size l g off)/\P2 l/\1+Av l<=Rows.uptoBulk y5.1:=by
 rcases DataW.trod_slice Tryz.underlying40 f5 with⟨e,rfl⟩|⟨a,len,cap,elems,rest,q,hn,e,rfl,_,_,_,hlen',hel,_,_⟩
 . simp only[List.cons.injEq,and_true]at e;exact⟨[],none,0,e,.inl rfl,by simp[P2],by simp[Av,Rows.uptoBulk]⟩
 . simp only[List.cons.injEq,and_true]at e;subst e;by_cases h0:len=0
   . subst h0;exact⟨[],some a,cap,rfl,.inl rfl,by simp[P2],by simp[Av,Rows.uptoBulk]⟩
   . obtain⟨g,off,spot⟩:=a;rw[Y0]at hel;have hz:=hel 0 (by omega);rw[List.getElem?_eq_getElem (by omega)]at hz;obtain⟨cs',hcs',_⟩:=Option.bind_eq_some_iff.1 hz;obtain⟨_,hcl,hcc⟩:=World.cells?_some hcs';have hz0:=hcc 0 (by omega);rw[List.getElem?_eq_getElem (by omega)]at hz0;have hspot:spot=none:=by simpa[Addr.add]using World.cell?_spot hz0
     subst hspot;simp only[add_plain]at hel hz0;obtain⟨l,h1,h2,h3,h4⟩:=Kp (n:=q) (fun m hm=>IH m (by omega)) elems g off (fun i hi=>hel i (by omega));refine⟨l,_,cap,by rw[h1,hlen'],.inr ⟨g,off,rfl,World.block_lt_of_cell? _ _ hz0,h2⟩,h3, ?_⟩;simp only[Rows.uptoBulk];omega
theorem Oe: ∀n,Yr enc w sp held n:=by
 intro n
 induction n using Nat.strongRecOn with
 |_ n IH=>
  intro cs x hx;obtain⟨xs,m,rfl,rfl,hl,hlen,hf⟩:=DataW.trod_struct Tryz.underlying42 hx;have hl6:cs.length=6:=hl.trans Qs;obtain⟨c0,c1,c2,c3,c4,c5,rfl⟩:=Yb hl6;have f0:DataW.trod enc Tryz.prog w 0 sp held m 38 (([c0,c1,c2,c3,c4,c5].drop 0).take (Tryz.prog.cellsOf 38))=xs[0]? :=hf 0 _ rfl;have f1:DataW.trod enc Tryz.prog w 0 sp held m 4 (([c0,c1,c2,c3,c4,c5].drop 1).take (Tryz.prog.cellsOf 4))=xs[1]? :=hf 1 _ rfl;have f2:DataW.trod enc Tryz.prog w 0 sp held m 2 (([c0,c1,c2,c3,c4,c5].drop 2).take (Tryz.prog.cellsOf 2))=xs[2]? :=hf 2 _ rfl;have f3:DataW.trod enc Tryz.prog w 0 sp held m 9 (([c0,c1,c2,c3,c4,c5].drop 3).take (Tryz.prog.cellsOf 9))=xs[3]? :=hf 3 _ rfl;have f4:DataW.trod enc Tryz.prog w 0 sp held m 39 (([c0,c1,c2,c3,c4,c5].drop 4).take (Tryz.prog.cellsOf 39))=xs[4]? :=hf 4 _ rfl;have f5:DataW.trod enc Tryz.prog w 0 sp held m 40 (([c0,c1,c2,c3,c4,c5].drop 5).take (Tryz.prog.cellsOf 40))=xs[5]? :=hf 5 _ rfl;simp only[U5,Nf,Px,Gx,Y5,Y4,List.drop_zero,List.drop_succ_cons,List.take_succ_cons,List.take_zero]at f0 f1 f2 f3 f4 f5
  match xs,hlen with
  | [y0,y1,y2,y3,y4,y5],_=>
    simp only[List.getElem?_cons_zero,List.getElem?_cons_succ]at f0 f1 f2 f3 f4 f5;obtain⟨k,e0,rfl,_⟩:=DataW.trod_int Tryz.underlying38 f0;obtain⟨b,e1,rfl⟩:=DataW.trod_bool Tryz.underlying4 f1;obtain⟨i,e2,rfl,hwf⟩:=DataW.trod_int Tryz.underlying2 f2;obtain⟨t,e3,rfl,_⟩:=DataW.trod_string Tryz.underlying9 f3;simp only[List.cons.injEq,and_true]at e0 e1 e2 e3;subst e0 e1 e2 e3;have hin: -9223372036854775808<=i/\i<=9223372036854775807:=by
     have h1:IntKind.i64.min= -9223372036854775808:=by decide
     have h2:IntKind.i64.max=9223372036854775807:=by decide
     simp only[Lit.wf,h1,h2,Bool.and_eq_true,decide_eq_true_eq]at hwf;exact hwf
    have hts:t.data.toList.length=t.size:=(by rw[Array.length_toList];rfl);have hL:=O7 (fun q hq=>IH q (by omega)) f4;have hO:=O8 (fun q hq=>IH q (by omega)) f5;obtain⟨l,la,lc,rfl,l1,l2,l3⟩:=hL;obtain⟨o,oa,oc,rfl,o1,o2,o3⟩:=hO;refine⟨.mk k b i t l o, ?_, ?_, ?_⟩
    . simp only[Ab];exact⟨la,lc,oa,oc,rfl,l1,o1⟩
    . simp only[Jg];exact⟨hin,l2,o2⟩
    . simp only[Val.bulk,List.map_cons,List.map_nil,Rows.uptoBulkAll,Rows.uptoBulk];omega
end
theorem Zm:laidOutB Tryz.prog=true:=by kernel_rfl
theorem Acz {H:Type} {enc:TypeId×Value->H} {W W':World} {t:TypeId} {v:Value} {d:DataW H} {ps:List MemPlace} {sp':Nat->Bool} (hr:Tryz.prog.readableRec t=true) (ht:t<Tryz.prog.types.size)
 (h:DataW.Trod enc Tryz.prog W 0 (fun _=>true) true t v d ps) (hlt: ∀p ∈ ps,p.block<W.heap.size) (hb:Below W.heap.size W W') (hs: ∀p ∈ ps,sp' p.block=true):DataW.Trod enc Tryz.prog W' 0 sp' true t v d ps:=by
 refine Go.WideElems.Trod_stays Zm hr ht h (fun p hp=> ?_) hs;have hl:=hlt p hp
 cases p with
 |cell b off=>exact World.cell?_of_block (w:=W) (w':=W') (a:=⟨b,off,none⟩) (hb.block b hl)
 |map b=>exact hb.block b hl
theorem Ld:Tryz.prog.cellsOf 45=19:=by kernel_rfl
theorem Y6:Tryz.prog.cellsOf 37=1:=by kernel_rfl
theorem U6:Tryz.prog.cellsOf 43=1:=by kernel_rfl
theorem Aah {α:Type} {cs:List α} (h:cs.length=19): ∃c0 c1 c2 c3 c4 c5 c6 c7 c8 c9 c10 c11 c12 c13 c14 c15 c16 c17 c18,cs= [c0,c1,c2,c3,c4,c5,c6,c7,c8,c9,c10,c11,c12,c13,c14,c15,c16,c17,c18]:=by
 match cs,h with
 | [c0,c1,c2,c3,c4,c5,c6,c7,c8,c9,c10,c11,c12,c13,c14,c15,c16,c17,c18],_=>exact⟨_,_,_,_,_,_,_,_,_,_,_,_,_,_,_,_,_,_,_,rfl⟩
theorem Aan {i:Int} (hwf:(Lit.int .i64 i).wf=true): -9223372036854775808<=i/\i<=9223372036854775807:=by
 have h1:IntKind.i64.min= -9223372036854775808:=by decide
 have h2:IntKind.i64.max=9223372036854775807:=by decide
 simp only[Lit.wf,h1,h2,Bool.and_eq_true,decide_eq_true_eq]at hwf;exact hwf
section
variable {H:Type} {enc:TypeId×Value->H} {w:World} {sp:Nat->Bool} {held:Bool}
def Uq (enc:TypeId×Value->H) (w:World) (sp:Nat->Bool) (held:Bool) (n:Nat):Prop:= ∀(cs:List Value) (x:DataW H×List MemPlace),DataW.trod enc Tryz.prog w 0 sp held n 45 cs=some x->
    ∃m,Ag w w.heap.size (dM m) cs/\Ug m/\Cg m<=Rows.uptoBulk x.1
theorem L8 {s:Nat} {d:D} {ds:List D} {cs ns:List Value} {g off:Nat} (hd:Ag w w.heap.size d cs) (hs:cs.length=s) (hc: ∀j u,cs[j]? =some u->w.cell? ⟨g,off+j,none⟩=some u)
 (hr:Ae w w.heap.size ds ns) (hn: ∀j u,ns[j]? =some u->w.cell? ⟨g,off+s+j,none⟩=some u):
 ∃ms,Ae w w.heap.size (d::ds) ms/\ ∀j u,ms[j]? =some u->w.cell? ⟨g,off+j,none⟩=some u:=by
 refine⟨cs++ns,⟨cs,ns,rfl,hd,hr⟩,fun j u hu=> ?_⟩;by_cases hj:j<s
 . rw[List.getElem?_append_left (by omega)]at hu;exact hc j u hu
 . rw[List.getElem?_append_right (by omega)]at hu;have:=hn (j - cs.length) u hu
   rwa [show off+s+(j - cs.length)=off+j from by omega]at this
theorem P7 {n:Nat} (IH:Uq enc w sp held n): ∀(elems:List (DataW H×List MemPlace)) (g off:Nat),
 (∀i,i<elems.length->(w.cells? 0 ⟨g,off+i*19,none⟩ 19).bind (DataW.trod enc Tryz.prog w 0 sp held n 45)=elems[i]?)->
 ∃l:List Mut,l.length=elems.length/\(∃ns,Ae w w.heap.size (Vc l) ns/\ ∀j u,ns[j]? =some u->w.cell? ⟨g,off+j,none⟩=some u)/\Vn l/\Dr l<=Rows.uptoBulkAll (elems.map (·.1))
 | [],_,_,_=>⟨[],rfl,⟨[],rfl,fun j u h=>by simp at h⟩,trivial,by simp[Dr]⟩
 |y::r,g,off,h=>by
  obtain⟨l,h1,⟨ns,h2,h2'⟩,h3,h4⟩:=P7 IH r g (off+19) (fun i hi=>by
   have:=h (i+1) (by simpa using hi);rw[show off+(i+1)*19=off+19+i*19 from by omega]at this;simpa using this)
  have h0:=h 0 (by simp);simp only[Nat.zero_mul,Nat.add_zero,List.getElem?_cons_zero]at h0;obtain⟨cs,hcs,hx⟩:=Option.bind_eq_some_iff.1 h0;obtain⟨m,v1,v2,v3⟩:=IH cs y hx;obtain⟨_,hc⟩:=Ka (by omega) hcs;refine⟨m::l,by simp[h1],L8 v1 (v1.len.1.trans (Kd m)) hc h2 h2',⟨v2,h3⟩, ?_⟩;simp only[Dr,List.map_cons,Rows.uptoBulkAll];omega
theorem O9 {n:Nat} {c4:Value} {y4:DataW H×List MemPlace} (IH: ∀m,m<n->Uq enc w sp held m) (f4:DataW.trod enc Tryz.prog w 0 sp held n 43 [c4]=some y4):
 ∃l:List Mut,Ag w w.heap.size (.row 19 (Vc l)) [c4]/\Vn l/\1+Dr l<=Rows.uptoBulk y4.1:=by
 rcases DataW.trod_slice Tryz.underlying43 f4 with⟨e,rfl⟩|⟨a,len,cap,elems,rest,q,hn,e,rfl,_,_,_,hlen',hel,_,_⟩
 . simp only[List.cons.injEq,and_true]at e;exact⟨[],⟨none,0,by rw[e];rfl,Le _, [],rfl,.inl rfl⟩,trivial,by simp[Dr,Rows.uptoBulk]⟩
 . simp only[List.cons.injEq,and_true]at e;subst e;by_cases h0:len=0
   . subst h0;exact⟨[],⟨some a,cap,rfl,Le _, [],rfl,.inl rfl⟩,trivial,by simp[Dr,Rows.uptoBulk]⟩
   . obtain⟨g,off,spot⟩:=a;rw[Ld]at hel;have hz:=hel 0 (by omega);rw[List.getElem?_eq_getElem (by omega)]at hz;obtain⟨cs',hcs',_⟩:=Option.bind_eq_some_iff.1 hz;obtain⟨_,hcl,hcc⟩:=World.cells?_some hcs';have hz0:=hcc 0 (by omega);rw[List.getElem?_eq_getElem (by omega)]at hz0;have hspot:spot=none:=by simpa[Addr.add]using World.cell?_spot hz0
     subst hspot;simp only[add_plain]at hel hz0;obtain⟨l,h1,⟨ns,h2,h2'⟩,h3,h4⟩:=P7 (IH q (by omega)) elems g off (fun i hi=>hel i (by omega));refine⟨l,⟨_,cap,by rw[Qt,h1,hlen'],Le _,ns,h2,.inr ⟨g,off,rfl,World.block_lt_of_cell? _ _ hz0,h2'⟩⟩,h3, ?_⟩;simp only[Rows.uptoBulk];omega
theorem Zw: ∀n,Uq enc w sp held n:=by
 intro n
 induction n using Nat.strongRecOn with
 |_ n IH=>
  intro cs x hx;obtain⟨xs,m,rfl,rfl,hl,hlen,hf⟩:=DataW.trod_struct Tryz.underlying45 hx;have hl6:cs.length=19:=hl.trans Ld;obtain⟨c0,c1,c2,c3,c4,c5,c6,c7,c8,c9,c10,c11,c12,c13,c14,c15,c16,c17,c18,rfl⟩:=Aah hl6;have f0:DataW.trod enc Tryz.prog w 0 sp held m 37 (([c0,c1,c2,c3,c4,c5,c6,c7,c8,c9,c10,c11,c12,c13,c14,c15,c16,c17,c18].drop 0).take (Tryz.prog.cellsOf 37))=xs[0]? :=hf 0 _ rfl;have f1:DataW.trod enc Tryz.prog w 0 sp held m 9 (([c0,c1,c2,c3,c4,c5,c6,c7,c8,c9,c10,c11,c12,c13,c14,c15,c16,c17,c18].drop 1).take (Tryz.prog.cellsOf 9))=xs[1]? :=hf 1 _ rfl;have f2:DataW.trod enc Tryz.prog w 0 sp held m 9 (([c0,c1,c2,c3,c4,c5,c6,c7,c8,c9,c10,c11,c12,c13,c14,c15,c16,c17,c18].drop 2).take (Tryz.prog.cellsOf 9))=xs[2]? :=hf 2 _ rfl;have f3:DataW.trod enc Tryz.prog w 0 sp held m 2 (([c0,c1,c2,c3,c4,c5,c6,c7,c8,c9,c10,c11,c12,c13,c14,c15,c16,c17,c18].drop 3).take (Tryz.prog.cellsOf 2))=xs[3]? :=hf 3 _ rfl;have f4:DataW.trod enc Tryz.prog w 0 sp held m 4 (([c0,c1,c2,c3,c4,c5,c6,c7,c8,c9,c10,c11,c12,c13,c14,c15,c16,c17,c18].drop 4).take (Tryz.prog.cellsOf 4))=xs[4]? :=hf 4 _ rfl;have f5:DataW.trod enc Tryz.prog w 0 sp held m 42 (([c0,c1,c2,c3,c4,c5,c6,c7,c8,c9,c10,c11,c12,c13,c14,c15,c16,c17,c18].drop 5).take (Tryz.prog.cellsOf 42))=xs[5]? :=hf 5 _ rfl;have f6:DataW.trod enc Tryz.prog w 0 sp held m 4 (([c0,c1,c2,c3,c4,c5,c6,c7,c8,c9,c10,c11,c12,c13,c14,c15,c16,c17,c18].drop 11).take (Tryz.prog.cellsOf 4))=xs[6]? :=hf 6 _ rfl;have f7:DataW.trod enc Tryz.prog w 0 sp held m 42 (([c0,c1,c2,c3,c4,c5,c6,c7,c8,c9,c10,c11,c12,c13,c14,c15,c16,c17,c18].drop 12).take (Tryz.prog.cellsOf 42))=xs[7]? :=hf 7 _ rfl;have f8:DataW.trod enc Tryz.prog w 0 sp held m 43 (([c0,c1,c2,c3,c4,c5,c6,c7,c8,c9,c10,c11,c12,c13,c14,c15,c16,c17,c18].drop 18).take (Tryz.prog.cellsOf 43))=xs[8]? :=hf 8 _ rfl;simp only[Y6,Nf,Px,Gx,Qs,U6,List.drop_zero,List.drop_succ_cons,List.take_succ_cons,List.take_zero]at f0 f1 f2 f3 f4 f5 f6 f7 f8
  match xs,hlen with
  | [y0,y1,y2,y3,y4,y5,y6,y7,y8],_=>
    simp only[List.getElem?_cons_zero,List.getElem?_cons_succ]at f0 f1 f2 f3 f4 f5 f6 f7 f8;obtain⟨k,e0,rfl,_⟩:=DataW.trod_int Tryz.underlying37 f0;obtain⟨key,e1,rfl,_⟩:=DataW.trod_string Tryz.underlying9 f1;obtain⟨dst,e2,rfl,_⟩:=DataW.trod_string Tryz.underlying9 f2;obtain⟨i,e3,rfl,hwf⟩:=DataW.trod_int Tryz.underlying2 f3;obtain⟨had,e4,rfl⟩:=DataW.trod_bool Tryz.underlying4 f4;obtain⟨was,a1,a2,a3⟩:=Oe m _ _ f5;obtain⟨has,e6,rfl⟩:=DataW.trod_bool Tryz.underlying4 f6;obtain⟨v,b1,b2,b3⟩:=Oe m _ _ f7;obtain⟨l,l1,l2,l3⟩:=O9 (fun q hq=>IH q (by omega)) f8;simp only[List.cons.injEq,and_true]at e0 e1 e2 e3 e4 e6;subst e0 e1 e2 e3 e4 e6;have hks:key.data.toList.length=key.size:=(by rw[Array.length_toList];rfl);have hds:dst.data.toList.length=dst.size:=(by rw[Array.length_toList];rfl);refine⟨.mk k key dst i had was has v l, ?_, ?_, ?_⟩
    . simp only[dM,Ag];exact⟨[.int .i64 k],_,rfl,⟨rfl,rfl⟩, [.string key],_,rfl,⟨rfl,rfl⟩, [.string dst],_,rfl,⟨rfl,rfl⟩, [.int .i64 i],_,rfl,⟨rfl,rfl⟩, [.bool had],_,rfl,⟨rfl,rfl⟩, [c5,c6,c7,c8,c9,c10],_,rfl,Cv _ _ a1, [.bool has],_,rfl,⟨rfl,rfl⟩, [c12,c13,c14,c15,c16,c17],_,rfl,Cv _ _ b1, [c18], [],rfl,l1,rfl⟩
    . simp only[Ug];exact⟨Aan hwf,a2,b2,l2⟩
    . simp only[Cg,List.map_cons,List.map_nil,Rows.uptoBulkAll,Rows.uptoBulk];omega
end
theorem Py:Tryz.prog.cellsOf 61=20:=by kernel_rfl
theorem U7:Tryz.prog.cellsOf 23=1:=by kernel_rfl
theorem U8:Tryz.prog.cellsOf 25=2:=by kernel_rfl
theorem Ng:Tryz.prog.cellsOf 22=1:=by kernel_rfl
theorem Aai {α:Type} {cs:List α} (h:cs.length=20): ∃c0 c1 c2 c3 c4 c5 c6 c7 c8 c9 c10 c11 c12 c13 c14 c15 c16 c17 c18 c19,cs= [c0,c1,c2,c3,c4,c5,c6,c7,c8,c9,c10,c11,c12,c13,c14,c15,c16,c17,c18,c19]:=by
 match cs,h with
 | [c0,c1,c2,c3,c4,c5,c6,c7,c8,c9,c10,c11,c12,c13,c14,c15,c16,c17,c18,c19],_=>exact⟨_,_,_,_,_,_,_,_,_,_,_,_,_,_,_,_,_,_,_,_,rfl⟩
theorem Xd {n:Int} (hwf:(Lit.int .u64 n).wf=true):0<=n:=by
 have h1:IntKind.u64.min=0:=by decide
 simp only[Lit.wf,h1,Bool.and_eq_true,decide_eq_true_eq]at hwf;exact hwf.1
section
variable {H:Type} {enc:TypeId×Value->H} {w:World} {sp:Nat->Bool} {held:Bool}
theorem P8 {n:Nat}: ∀(elems:List (DataW H×List MemPlace)) (g off:Nat),
 (∀i,i<elems.length->(w.cells? 0 ⟨g,off+i*20,none⟩ 20).bind (DataW.trod enc Tryz.prog w 0 sp held n 61)=elems[i]?)->
 ∃l:List Num,l.length=elems.length/\(∃ns,Ae w w.heap.size (Si l) ns/\ ∀j u,ns[j]? =some u->w.cell? ⟨g,off+j,none⟩=some u)/\Xq l/\Dj l<=Rows.uptoBulkAll (elems.map (·.1))
 | [],_,_,_=>⟨[],rfl,⟨[],rfl,fun j u h=>by simp at h⟩,fun p hp=>(by cases hp),by simp[Dj]⟩
 |y::r,g,off,h=>by
  obtain⟨l,h1,⟨ns,h2,h2'⟩,h3,h4⟩:=P8 r g (off+20) (fun i hi=>by
   have:=h (i+1) (by simpa using hi);rw[show off+(i+1)*20=off+20+i*20 from by omega]at this;simpa using this)
  have h0:=h 0 (by simp);simp only[Nat.zero_mul,Nat.add_zero,List.getElem?_cons_zero]at h0;obtain⟨cs,hcs,hx⟩:=Option.bind_eq_some_iff.1 h0;obtain⟨_,hc⟩:=Ka (by omega) hcs;obtain⟨xs,m,rfl,rfl,hl,hlen,hf⟩:=DataW.trod_struct Tryz.underlying61 hx;have hl20:cs.length=20:=hl.trans Py;obtain⟨c0,c1,c2,c3,c4,c5,c6,c7,c8,c9,c10,c11,c12,c13,c14,c15,c16,c17,c18,c19,rfl⟩:=Aai hl20;have f0:DataW.trod enc Tryz.prog w 0 sp held m 22 (([c0,c1,c2,c3,c4,c5,c6,c7,c8,c9,c10,c11,c12,c13,c14,c15,c16,c17,c18,c19].drop 0).take (Tryz.prog.cellsOf 22))=xs[0]? :=hf 0 _ rfl;have f1:DataW.trod enc Tryz.prog w 0 sp held m 45 (([c0,c1,c2,c3,c4,c5,c6,c7,c8,c9,c10,c11,c12,c13,c14,c15,c16,c17,c18,c19].drop 1).take (Tryz.prog.cellsOf 45))=xs[1]? :=hf 1 _ rfl;simp only[Ng,Ld,List.drop_zero,List.drop_succ_cons,List.take_succ_cons,List.take_zero]at f0 f1
  match xs,hlen with
  | [y0,y1],_=>
    simp only[List.getElem?_cons_zero,List.getElem?_cons_succ]at f0 f1;obtain⟨id,e0,rfl,hwf⟩:=DataW.trod_int Tryz.underlying22 f0;obtain⟨mu,v1,v2,v3⟩:=Zw m _ _ f1;simp only[List.cons.injEq,and_true]at e0;subst e0;have hd:Ag w w.heap.size (dN ⟨id,mu⟩) [.int .u64 id,c1,c2,c3,c4,c5,c6,c7,c8,c9,c10,c11,c12,c13,c14,c15,c16,c17,c18,c19]:=
     ⟨[.int .u64 id],_,rfl,⟨rfl,rfl⟩, [c1,c2,c3,c4,c5,c6,c7,c8,c9,c10,c11,c12,c13,c14,c15,c16,c17,c18,c19], [],rfl,v1,rfl⟩
    refine⟨⟨id,mu⟩::l,by simp[h1],L8 hd rfl hc h2 h2', ?_, ?_⟩
    . intro p hp;rcases List.mem_cons.1 hp with rfl|hp
      . exact⟨Xd hwf,v2⟩
      . exact h3 p hp
    . simp only[Dj,List.map_cons,List.map_nil,Rows.uptoBulkAll,Rows.uptoBulk];omega
theorem Pa {n:Nat} {c4:Value} {y4:DataW H×List MemPlace} (f4:DataW.trod enc Tryz.prog w 0 sp held n 23 [c4]=some y4):
 ∃(l:List Num) (la:Option Addr) (ln lc:Nat),c4=.slice la ln lc/\Ag w w.heap.size (.row 20 (Si l)) [.slice la ln lc]/\Xq l/\1+Dj l<=Rows.uptoBulk y4.1:=by
 rcases DataW.trod_slice Tryz.underlying23 f4 with⟨e,rfl⟩|⟨a,len,cap,elems,rest,q,hn,e,rfl,_,_,_,hlen',hel,_,_⟩
 . simp only[List.cons.injEq,and_true]at e;exact⟨[],none,0,0,e,⟨none,0,rfl,Iu _, [],rfl,.inl rfl⟩,fun p hp=>(by cases hp),by simp[Dj,Rows.uptoBulk]⟩
 . simp only[List.cons.injEq,and_true]at e;subst e;by_cases h0:len=0
   . subst h0;exact⟨[],some a,0,cap,rfl,⟨some a,cap,rfl,Iu _, [],rfl,.inl rfl⟩,fun p hp=>(by cases hp),by simp[Dj,Rows.uptoBulk]⟩
   . obtain⟨g,off,spot⟩:=a;rw[Py]at hel;have hz:=hel 0 (by omega);rw[List.getElem?_eq_getElem (by omega)]at hz;obtain⟨cs',hcs',_⟩:=Option.bind_eq_some_iff.1 hz;obtain⟨_,hcl,hcc⟩:=World.cells?_some hcs';have hz0:=hcc 0 (by omega);rw[List.getElem?_eq_getElem (by omega)]at hz0;have hspot:spot=none:=by simpa[Addr.add]using World.cell?_spot hz0
     subst hspot;simp only[add_plain]at hel hz0;obtain⟨l,h1,⟨ns,h2,h2'⟩,h3,h4⟩:=P8 elems g off (fun i hi=>hel i (by omega));refine⟨l,_,len,cap,rfl,⟨_,cap,by rw[Iv,h1,hlen'],Iu _,ns,h2,.inr ⟨g,off,rfl,World.block_lt_of_cell? _ _ hz0,h2'⟩⟩,h3, ?_⟩;simp only[Rows.uptoBulk];omega
theorem O6 {base:Nat} {v0:Value} {d:DataW H} {ps:List MemPlace} (hv:Value.okWide Tryz.prog w .any base 25 v0) (h:DataW.Trod enc Tryz.prog w 0 sp held 25 v0 d ps):
 ∃(c:Int) (l:List Num) (la:Option Addr) (ln lc:Nat),v0=.agg #[.int .u64 c,.slice la ln lc]/\0<=c/\Ag w w.heap.size (.row 20 (Si l)) [.slice la ln lc]/\Xq l/\Dj l<=Rows.uptoBulk d:=by
 obtain⟨cs,rfl,_⟩:=okWide_struct Tryz.underlying25 hv;obtain⟨fuel,hf⟩:=h;obtain⟨xs,m,rfl,hd,hl,hlen,hx⟩:=DataW.trod_struct Tryz.underlying25 hf;have hl2:cs.toList.length=2:=hl.trans U8;obtain⟨l⟩:=cs
 match l,hl2 with
 | [c0,c1],_=>
   have f0:DataW.trod enc Tryz.prog w 0 sp held m 22 (([c0,c1].drop 0).take (Tryz.prog.cellsOf 22))=xs[0]? :=hx 0 _ rfl;have f1:DataW.trod enc Tryz.prog w 0 sp held m 23 (([c0,c1].drop 1).take (Tryz.prog.cellsOf 23))=xs[1]? :=hx 1 _ rfl;simp only[Ng,U7,List.drop_zero,List.drop_succ_cons,List.take_succ_cons,List.take_zero]at f0 f1
   match xs,hlen with
   | [y0,y1],_=>
     simp only[List.getElem?_cons_zero,List.getElem?_cons_succ]at f0 f1;obtain⟨n0,e0,_,w0⟩:=DataW.trod_int Tryz.underlying22 f0;obtain⟨l,la,ln,lc,rfl,g1,g2,g3⟩:=Pa f1;simp only[List.cons.injEq,and_true]at e0;subst e0;refine⟨n0,l,la,ln,lc,rfl,Xd w0,g1,g2, ?_⟩;have hd':=congrArg Prod.fst hd;simp only at hd';rw[hd'];simp only[Rows.uptoBulk,List.map_cons,List.map_nil,Rows.uptoBulkAll];omega
end
end Go.Proofs.YtobmaegpfbheoaaGreatDoor
