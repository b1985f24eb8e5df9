/- Parts: Arguments that read as a mutator. No condition. -/
import Derived.Deep.Slices
import Derived.WideKeyArgs
import Derived.Test.YtmglfdckpjegdaaGreatDoorKMu17
namespace Go.Proofs.YtmglfdckpjegdaaGreatDoor
open Go.RowKit Go.ChangeShapes Go.WideShapes
theorem Aak:Tryz.prog.cellsOf 27=6:=by kernel_rfl
theorem Aky:Tryz.prog.cellsOf 63=7:=by kernel_rfl
theorem Ns:Tryz.prog.cellsOf 9=1:=by kernel_rfl
theorem Afc:Tryz.prog.cellsOf 23=1:=by kernel_rfl
theorem U0:Tryz.prog.cellsOf 4=1:=by kernel_rfl
theorem Yg:Tryz.prog.cellsOf 2=1:=by kernel_rfl
theorem Ak0:Tryz.prog.cellsOf 24=1:=by kernel_rfl
theorem Akz:Tryz.prog.cellsOf 25=1:=by kernel_rfl
section
variable {H:Type} {enc:TypeId×Value->H} {w:World} {sp:Nat->Bool} {held:Bool}
def Aki (enc:TypeId×Value->H) (w:World) (sp:Nat->Bool) (held:Bool) (n:Nat):Prop:= ∀(cs:List Value) (x:DataW H×List MemPlace),DataW.trod enc Tryz.prog w 0 sp held n 27 cs=some x->
    ∃v,Ab w w.heap.size v cs/\Jg v/\v.bulk<=Rows.uptoBulk x.1
theorem Ajx {cs:List Value} (h:cs.length=6): ∃c0 c1 c2 c3 c4 c5,cs= [c0,c1,c2,c3,c4,c5]:=by
 match cs,h with
 | [c0,c1,c2,c3,c4,c5],_=>exact⟨_,_,_,_,_,_,rfl⟩
theorem Aee {α:Type} {cs:List α} (h:cs.length=7): ∃c0 c1 c2 c3 c4 c5 c6,cs= [c0,c1,c2,c3,c4,c5,c6]:=by
 match cs,h with
 | [c0,c1,c2,c3,c4,c5,c6],_=>exact⟨_,_,_,_,_,_,_,rfl⟩
theorem Uz {g off n:Nat} {cs:List Value} (hn:0<n) (h:w.cells? 0 ⟨g,off,none⟩ n=some cs):g<w.heap.size/\ ∀j u,cs[j]? =some u->w.cell? ⟨g,off+j,none⟩=some u:=by
 obtain⟨_,hlen,hc⟩:=World.cells?_some h;have hj: ∀j u,cs[j]? =some u->w.cell? ⟨g,off+j,none⟩=some u:=by
  intro j u hu;have hjn:j<n:=by
   have:=(List.getElem?_eq_some_iff.1 hu).1;omega
  have:=hc j hjn;rw[add_plain]at this;rw[<-hu];exact this
 refine⟨?_,hj⟩;have h0: ∃u,cs[0]? =some u:=⟨cs[0]'(by omega),List.getElem?_eq_getElem (by omega)⟩;obtain⟨u,hu⟩:=h0;exact World.block_lt_of_cell? _ _ (hj 0 u hu)
theorem Are {n:Nat} (IH:Aki enc w sp held n): ∀(elems:List (DataW H×List MemPlace)) (g off:Nat),
 (∀i,i<elems.length->(w.cells? 0 ⟨g,off+i*6,none⟩ 6).bind (DataW.trod enc Tryz.prog w 0 sp held n 27)=elems[i]?)->
 ∃l,l.length=elems.length/\A1 w w.heap.size l g off/\Mz l/\Bd l<=Rows.uptoBulkAll (elems.map (·.1))
 | [],_,_,_=>⟨[],rfl,by simp[A1],by simp[Mz],by simp[Bd]⟩
 |y::r,g,off,h=>by
  obtain⟨l,h1,h2,h3,h4⟩:=Are IH r g (off+6) (fun i hi=>by
   have:=h (i+1) (by simpa using hi);rw[show off+(i+1)*6=off+6+i*6 from by omega]at this;simpa using this)
  have h0:=h 0 (by simp);simp only[Nat.zero_mul,Nat.add_zero,List.getElem?_cons_zero]at h0;obtain⟨cs,hcs,hx⟩:=Option.bind_eq_some_iff.1 h0;obtain⟨v,v1,v2,v3⟩:=IH cs y hx;obtain⟨_,hc⟩:=Uz (by omega) hcs;refine⟨v::l,by simp[h1], ?_, ?_, ?_⟩
  . simp only[A1];exact⟨⟨cs,v1,hc⟩,h2⟩
  . simp only[Mz];exact⟨v2,h3⟩
  . simp only[Bd,List.map_cons,Rows.uptoBulkAll];omega
theorem Rw {n:Nat} (IH: ∀m,m<n->Aki enc w sp held m): ∀(elems:List (DataW H×List MemPlace)) (g off:Nat),
 (∀i,i<elems.length->(w.cells? 0 ⟨g,off+i*7,none⟩ 7).bind (DataW.trod enc Tryz.prog w 0 sp held n 63)=elems[i]?)->
 ∃l,l.length=elems.length/\A5 w w.heap.size l g off/\Jf l/\Av l<=Rows.uptoBulkAll (elems.map (·.1))
 | [],_,_,_=>⟨[],rfl,by simp[A5],by simp[Jf],by simp[Av]⟩
 |y::r,g,off,h=>by
  obtain⟨l,h1,h2,h3,h4⟩:=Rw IH r g (off+7) (fun i hi=>by
   have:=h (i+1) (by simpa using hi);rw[show off+(i+1)*7=off+7+i*7 from by omega]at this;simpa using this)
  have h0:=h 0 (by simp);simp only[Nat.zero_mul,Nat.add_zero,List.getElem?_cons_zero]at h0;obtain⟨cs,hcs,hx⟩:=Option.bind_eq_some_iff.1 h0;obtain⟨_,hc⟩:=Uz (by omega) hcs;obtain⟨xs,m,rfl,rfl,hl,hlen,hf⟩:=DataW.trod_struct Tryz.underlying63 hx;have hl7:cs.length=7:=hl.trans Aky;obtain⟨c0,c1,c2,c3,c4,c5,c6,rfl⟩:=Aee hl7;have f0:DataW.trod enc Tryz.prog w 0 sp held m 9 (([c0,c1,c2,c3,c4,c5,c6].drop 0).take (Tryz.prog.cellsOf 9))=xs[0]? :=hf 0 _ rfl;have f1:DataW.trod enc Tryz.prog w 0 sp held m 27 (([c0,c1,c2,c3,c4,c5,c6].drop 1).take (Tryz.prog.cellsOf 27))=xs[1]? :=hf 1 _ rfl;simp only[Ns,Aak,List.drop_zero,List.drop_succ_cons,List.take_succ_cons,List.take_zero]at f0 f1
  match xs,hlen with
  | [y0,y1],_=>
    simp only[List.getElem?_cons_zero,List.getElem?_cons_succ]at f0 f1;obtain⟨key,hk,rfl,_⟩:=DataW.trod_string Tryz.underlying9 f0;obtain⟨v,v1,v2,v3⟩:=IH m (by omega) _ _ f1;simp only[List.cons.injEq,and_true]at hk;subst hk;refine⟨(key,v)::l,by simp[h1], ?_, ?_, ?_⟩
    . simp only[A5,Om];refine⟨⟨hc 0 _ rfl,_,v1,fun j u hu=> ?_⟩,h2⟩;rw[Nat.add_assoc,Nat.add_comm 1 j];exact hc (j+1) u hu
    . simp only[Jf,inP];exact⟨v2,h3⟩
    . have hks:key.data.toList.length=key.size:=(by rw[Array.length_toList];rfl);simp only[Av,Gi,List.map_cons,List.map_nil,Rows.uptoBulkAll,Rows.uptoBulk];omega
theorem Xo {n:Nat} {c4:Value} {y4:DataW H×List MemPlace} (IH: ∀m,m<n->Aki enc w sp held m) (f4:DataW.trod enc Tryz.prog w 0 sp held n 24 [c4]=some y4):
 ∃l la lc,c4=.slice la (l:List Val).length lc/\(l= []\/ ∃g off,la=some ⟨g,off,none⟩/\g<w.heap.size/\A1 w w.heap.size l g off)/\Mz l/\1+Bd l<=Rows.uptoBulk y4.1:=by
 rcases DataW.trod_slice Tryz.underlying24 f4 with⟨e,rfl⟩|⟨a,len,cap,elems,rest,q,hn,e,rfl,_,_,_,hlen',hel,_,_⟩
 . simp only[List.cons.injEq,and_true]at e;exact⟨[],none,0,e,.inl rfl,by simp[Mz],by simp[Bd,Rows.uptoBulk]⟩
 . simp only[List.cons.injEq,and_true]at e;subst e;by_cases h0:len=0
   . subst h0;exact⟨[],some a,cap,rfl,.inl rfl,by simp[Mz],by simp[Bd,Rows.uptoBulk]⟩
   . obtain⟨g,off,spot⟩:=a;rw[Aak]at hel;have hz:=hel 0 (by omega);rw[List.getElem?_eq_getElem (by omega)]at hz;obtain⟨cs',hcs',_⟩:=Option.bind_eq_some_iff.1 hz;obtain⟨_,hcl,hcc⟩:=World.cells?_some hcs';have hz0:=hcc 0 (by omega);rw[List.getElem?_eq_getElem (by omega)]at hz0;have hspot:spot=none:=by simpa[Addr.add]using World.cell?_spot hz0
     subst hspot;simp only[add_plain]at hel hz0;obtain⟨l,h1,h2,h3,h4⟩:=Are (IH q (by omega)) elems g off (fun i hi=>hel i (by omega));refine⟨l,_,cap,by rw[h1,hlen'],.inr ⟨g,off,rfl,World.block_lt_of_cell? _ _ hz0,h2⟩,h3, ?_⟩;simp only[Rows.uptoBulk];omega
theorem Xp {n:Nat} {c5:Value} {y5:DataW H×List MemPlace} (IH: ∀m,m<n->Aki enc w sp held m) (f5:DataW.trod enc Tryz.prog w 0 sp held n 25 [c5]=some y5):
 ∃l la lc,c5=.slice la (l:List (ByteArray×Val)).length lc/\(l= []\/ ∃g off,la=some ⟨g,off,none⟩/\g<w.heap.size/\A5 w w.heap.size l g off)/\Jf l/\1+Av l<=Rows.uptoBulk y5.1:=by
 rcases DataW.trod_slice Tryz.underlying25 f5 with⟨e,rfl⟩|⟨a,len,cap,elems,rest,q,hn,e,rfl,_,_,_,hlen',hel,_,_⟩
 . simp only[List.cons.injEq,and_true]at e;exact⟨[],none,0,e,.inl rfl,by simp[Jf],by simp[Av,Rows.uptoBulk]⟩
 . simp only[List.cons.injEq,and_true]at e;subst e;by_cases h0:len=0
   . subst h0;exact⟨[],some a,cap,rfl,.inl rfl,by simp[Jf],by simp[Av,Rows.uptoBulk]⟩
   . obtain⟨g,off,spot⟩:=a;rw[Aky]at hel;have hz:=hel 0 (by omega);rw[List.getElem?_eq_getElem (by omega)]at hz;obtain⟨cs',hcs',_⟩:=Option.bind_eq_some_iff.1 hz;obtain⟨_,hcl,hcc⟩:=World.cells?_some hcs';have hz0:=hcc 0 (by omega);rw[List.getElem?_eq_getElem (by omega)]at hz0;have hspot:spot=none:=by simpa[Addr.add]using World.cell?_spot hz0
     subst hspot;simp only[add_plain]at hel hz0;obtain⟨l,h1,h2,h3,h4⟩:=Rw (n:=q) (fun m hm=>IH m (by omega)) elems g off (fun i hi=>hel i (by omega));refine⟨l,_,cap,by rw[h1,hlen'],.inr ⟨g,off,rfl,World.block_lt_of_cell? _ _ hz0,h2⟩,h3, ?_⟩;simp only[Rows.uptoBulk];omega
theorem V5: ∀n,Aki enc w sp held n:=by
 intro n
 induction n using Nat.strongRecOn with
 |_ n IH=>
  intro cs x hx;obtain⟨xs,m,rfl,rfl,hl,hlen,hf⟩:=DataW.trod_struct Tryz.underlying27 hx;have hl6:cs.length=6:=hl.trans Aak;obtain⟨c0,c1,c2,c3,c4,c5,rfl⟩:=Ajx hl6;have f0:DataW.trod enc Tryz.prog w 0 sp held m 23 (([c0,c1,c2,c3,c4,c5].drop 0).take (Tryz.prog.cellsOf 23))=xs[0]? :=hf 0 _ rfl;have f1:DataW.trod enc Tryz.prog w 0 sp held m 4 (([c0,c1,c2,c3,c4,c5].drop 1).take (Tryz.prog.cellsOf 4))=xs[1]? :=hf 1 _ rfl;have f2:DataW.trod enc Tryz.prog w 0 sp held m 2 (([c0,c1,c2,c3,c4,c5].drop 2).take (Tryz.prog.cellsOf 2))=xs[2]? :=hf 2 _ rfl;have f3:DataW.trod enc Tryz.prog w 0 sp held m 9 (([c0,c1,c2,c3,c4,c5].drop 3).take (Tryz.prog.cellsOf 9))=xs[3]? :=hf 3 _ rfl;have f4:DataW.trod enc Tryz.prog w 0 sp held m 24 (([c0,c1,c2,c3,c4,c5].drop 4).take (Tryz.prog.cellsOf 24))=xs[4]? :=hf 4 _ rfl;have f5:DataW.trod enc Tryz.prog w 0 sp held m 25 (([c0,c1,c2,c3,c4,c5].drop 5).take (Tryz.prog.cellsOf 25))=xs[5]? :=hf 5 _ rfl;simp only[Afc,U0,Yg,Ns,Ak0,Akz,List.drop_zero,List.drop_succ_cons,List.take_succ_cons,List.take_zero]at f0 f1 f2 f3 f4 f5
  match xs,hlen with
  | [y0,y1,y2,y3,y4,y5],_=>
    simp only[List.getElem?_cons_zero,List.getElem?_cons_succ]at f0 f1 f2 f3 f4 f5;obtain⟨k,e0,rfl,_⟩:=DataW.trod_int Tryz.underlying23 f0;obtain⟨b,e1,rfl⟩:=DataW.trod_bool Tryz.underlying4 f1;obtain⟨i,e2,rfl,hwf⟩:=DataW.trod_int Tryz.underlying2 f2;obtain⟨t,e3,rfl,_⟩:=DataW.trod_string Tryz.underlying9 f3;simp only[List.cons.injEq,and_true]at e0 e1 e2 e3;subst e0 e1 e2 e3;have hin: -9223372036854775808<=i/\i<=9223372036854775807:=by
     have h1:IntKind.i64.min= -9223372036854775808:=by decide
     have h2:IntKind.i64.max=9223372036854775807:=by decide
     simp only[Lit.wf,h1,h2,Bool.and_eq_true,decide_eq_true_eq]at hwf;exact hwf
    have hts:t.data.toList.length=t.size:=(by rw[Array.length_toList];rfl);have hL:=Xo (fun q hq=>IH q (by omega)) f4;have hO:=Xp (fun q hq=>IH q (by omega)) f5;obtain⟨l,la,lc,rfl,l1,l2,l3⟩:=hL;obtain⟨o,oa,oc,rfl,o1,o2,o3⟩:=hO;refine⟨.mk k b i t l o, ?_, ?_, ?_⟩
    . simp only[Ab];exact⟨la,lc,oa,oc,rfl,l1,o1⟩
    . simp only[Jg];exact⟨hin,l2,o2⟩
    . simp only[Val.bulk,List.map_cons,List.map_nil,Rows.uptoBulkAll,Rows.uptoBulk];omega
end
theorem Alu:laidOutB Tryz.prog=true:=by kernel_rfl
theorem Wp {H:Type} {enc:TypeId×Value->H} {W W':World} {t:TypeId} {v:Value} {d:DataW H} {ps:List MemPlace} {sp':Nat->Bool} (hr:Tryz.prog.readableRec t=true) (ht:t<Tryz.prog.types.size)
 (h:DataW.Trod enc Tryz.prog W 0 (fun _=>true) true t v d ps) (hlt: ∀p ∈ ps,p.block<W.heap.size) (hb:Below W.heap.size W W') (hs: ∀p ∈ ps,sp' p.block=true):DataW.Trod enc Tryz.prog W' 0 sp' true t v d ps:=by
 refine Go.WideElems.Trod_stays Alu hr ht h (fun p hp=> ?_) hs;have hl:=hlt p hp
 cases p with
 |cell b off=>exact World.cell?_of_block (w:=W) (w':=W') (a:=⟨b,off,none⟩) (hb.block b hl)
 |map b=>exact hb.block b hl
theorem Yh:Tryz.prog.cellsOf 30=19:=by kernel_rfl
theorem Ak1:Tryz.prog.cellsOf 22=1:=by kernel_rfl
theorem Afd:Tryz.prog.cellsOf 28=1:=by kernel_rfl
theorem Anm {α:Type} {cs:List α} (h:cs.length=19): ∃c0 c1 c2 c3 c4 c5 c6 c7 c8 c9 c10 c11 c12 c13 c14 c15 c16 c17 c18,cs= [c0,c1,c2,c3,c4,c5,c6,c7,c8,c9,c10,c11,c12,c13,c14,c15,c16,c17,c18]:=by
 match cs,h with
 | [c0,c1,c2,c3,c4,c5,c6,c7,c8,c9,c10,c11,c12,c13,c14,c15,c16,c17,c18],_=>exact⟨_,_,_,_,_,_,_,_,_,_,_,_,_,_,_,_,_,_,_,rfl⟩
theorem Anz {i:Int} (hwf:(Lit.int .i64 i).wf=true): -9223372036854775808<=i/\i<=9223372036854775807:=by
 have h1:IntKind.i64.min= -9223372036854775808:=by decide
 have h2:IntKind.i64.max=9223372036854775807:=by decide
 simp only[Lit.wf,h1,h2,Bool.and_eq_true,decide_eq_true_eq]at hwf;exact hwf
section
variable {H:Type} {enc:TypeId×Value->H} {w:World} {sp:Nat->Bool} {held:Bool}
def Ae2 (enc:TypeId×Value->H) (w:World) (sp:Nat->Bool) (held:Bool) (n:Nat):Prop:= ∀(cs:List Value) (x:DataW H×List MemPlace),DataW.trod enc Tryz.prog w 0 sp held n 30 cs=some x->
    ∃m,Holds w w.heap.size (dM m) cs/\Mu m/\Bm m<=Rows.uptoBulk x.1
theorem Acw {s:Nat} {d:D} {ds:List D} {cs ns:List Value} {g off:Nat} (hd:Holds w w.heap.size d cs) (hs:cs.length=s) (hc: ∀j u,cs[j]? =some u->w.cell? ⟨g,off+j,none⟩=some u)
 (hr:Aj w w.heap.size ds ns) (hn: ∀j u,ns[j]? =some u->w.cell? ⟨g,off+s+j,none⟩=some u):
 ∃ms,Aj w w.heap.size (d::ds) ms/\ ∀j u,ms[j]? =some u->w.cell? ⟨g,off+j,none⟩=some u:=by
 refine⟨cs++ns,⟨cs,ns,rfl,hd,hr⟩,fun j u hu=> ?_⟩;by_cases hj:j<s
 . rw[List.getElem?_append_left (by omega)]at hu;exact hc j u hu
 . rw[List.getElem?_append_right (by omega)]at hu;have:=hn (j - cs.length) u hu
   rwa [show off+s+(j - cs.length)=off+j from by omega]at this
theorem Zd {n:Nat} (IH:Ae2 enc w sp held n): ∀(elems:List (DataW H×List MemPlace)) (g off:Nat),
 (∀i,i<elems.length->(w.cells? 0 ⟨g,off+i*19,none⟩ 19).bind (DataW.trod enc Tryz.prog w 0 sp held n 30)=elems[i]?)->
 ∃l:List Mut,l.length=elems.length/\(∃ns,Aj w w.heap.size (Gw l) ns/\ ∀j u,ns[j]? =some u->w.cell? ⟨g,off+j,none⟩=some u)/\Sm l/\C3 l<=Rows.uptoBulkAll (elems.map (·.1))
 | [],_,_,_=>⟨[],rfl,⟨[],rfl,fun j u h=>by simp at h⟩,trivial,by simp[C3]⟩
 |y::r,g,off,h=>by
  obtain⟨l,h1,⟨ns,h2,h2'⟩,h3,h4⟩:=Zd IH r g (off+19) (fun i hi=>by
   have:=h (i+1) (by simpa using hi);rw[show off+(i+1)*19=off+19+i*19 from by omega]at this;simpa using this)
  have h0:=h 0 (by simp);simp only[Nat.zero_mul,Nat.add_zero,List.getElem?_cons_zero]at h0;obtain⟨cs,hcs,hx⟩:=Option.bind_eq_some_iff.1 h0;obtain⟨m,v1,v2,v3⟩:=IH cs y hx;obtain⟨_,hc⟩:=Uz (by omega) hcs;refine⟨m::l,by simp[h1],Acw v1 (v1.len.1.trans (Ct m)) hc h2 h2',⟨v2,h3⟩, ?_⟩;simp only[C3,List.map_cons,Rows.uptoBulkAll];omega
theorem Xq {n:Nat} {c4:Value} {y4:DataW H×List MemPlace} (IH: ∀m,m<n->Ae2 enc w sp held m) (f4:DataW.trod enc Tryz.prog w 0 sp held n 28 [c4]=some y4):
 ∃l:List Mut,Holds w w.heap.size (.row 19 (Gw l)) [c4]/\Sm l/\1+C3 l<=Rows.uptoBulk y4.1:=by
 rcases DataW.trod_slice Tryz.underlying28 f4 with⟨e,rfl⟩|⟨a,len,cap,elems,rest,q,hn,e,rfl,_,_,_,hlen',hel,_,_⟩
 . simp only[List.cons.injEq,and_true]at e;exact⟨[],⟨none,0,by rw[e];rfl,Sg _, [],rfl,.inl rfl⟩,trivial,by simp[C3,Rows.uptoBulk]⟩
 . simp only[List.cons.injEq,and_true]at e;subst e;by_cases h0:len=0
   . subst h0;exact⟨[],⟨some a,cap,rfl,Sg _, [],rfl,.inl rfl⟩,trivial,by simp[C3,Rows.uptoBulk]⟩
   . obtain⟨g,off,spot⟩:=a;rw[Yh]at hel;have hz:=hel 0 (by omega);rw[List.getElem?_eq_getElem (by omega)]at hz;obtain⟨cs',hcs',_⟩:=Option.bind_eq_some_iff.1 hz;obtain⟨_,hcl,hcc⟩:=World.cells?_some hcs';have hz0:=hcc 0 (by omega);rw[List.getElem?_eq_getElem (by omega)]at hz0;have hspot:spot=none:=by simpa[Addr.add]using World.cell?_spot hz0
     subst hspot;simp only[add_plain]at hel hz0;obtain⟨l,h1,⟨ns,h2,h2'⟩,h3,h4⟩:=Zd (IH q (by omega)) elems g off (fun i hi=>hel i (by omega));refine⟨l,⟨_,cap,by rw[Po,h1,hlen'],Sg _,ns,h2,.inr ⟨g,off,rfl,World.block_lt_of_cell? _ _ hz0,h2'⟩⟩,h3, ?_⟩;simp only[Rows.uptoBulk];omega
set_option maxRecDepth 100000 in
theorem Amj: ∀n,Ae2 enc w sp held n:=by
 intro n
 induction n using Nat.strongRecOn with
 |_ n IH=>
  intro cs x hx;obtain⟨xs,m,rfl,rfl,hl,hlen,hf⟩:=DataW.trod_struct Tryz.underlying30 hx;have hl6:cs.length=19:=hl.trans Yh;obtain⟨c0,c1,c2,c3,c4,c5,c6,c7,c8,c9,c10,c11,c12,c13,c14,c15,c16,c17,c18,rfl⟩:=Anm hl6;have f0:DataW.trod enc Tryz.prog w 0 sp held m 22 (([c0,c1,c2,c3,c4,c5,c6,c7,c8,c9,c10,c11,c12,c13,c14,c15,c16,c17,c18].drop 0).take (Tryz.prog.cellsOf 22))=xs[0]? :=hf 0 _ rfl;have f1:DataW.trod enc Tryz.prog w 0 sp held m 9 (([c0,c1,c2,c3,c4,c5,c6,c7,c8,c9,c10,c11,c12,c13,c14,c15,c16,c17,c18].drop 1).take (Tryz.prog.cellsOf 9))=xs[1]? :=hf 1 _ rfl;have f2:DataW.trod enc Tryz.prog w 0 sp held m 9 (([c0,c1,c2,c3,c4,c5,c6,c7,c8,c9,c10,c11,c12,c13,c14,c15,c16,c17,c18].drop 2).take (Tryz.prog.cellsOf 9))=xs[2]? :=hf 2 _ rfl;have f3:DataW.trod enc Tryz.prog w 0 sp held m 2 (([c0,c1,c2,c3,c4,c5,c6,c7,c8,c9,c10,c11,c12,c13,c14,c15,c16,c17,c18].drop 3).take (Tryz.prog.cellsOf 2))=xs[3]? :=hf 3 _ rfl;have f4:DataW.trod enc Tryz.prog w 0 sp held m 4 (([c0,c1,c2,c3,c4,c5,c6,c7,c8,c9,c10,c11,c12,c13,c14,c15,c16,c17,c18].drop 4).take (Tryz.prog.cellsOf 4))=xs[4]? :=hf 4 _ rfl;have f5:DataW.trod enc Tryz.prog w 0 sp held m 27 (([c0,c1,c2,c3,c4,c5,c6,c7,c8,c9,c10,c11,c12,c13,c14,c15,c16,c17,c18].drop 5).take (Tryz.prog.cellsOf 27))=xs[5]? :=hf 5 _ rfl;have f6:DataW.trod enc Tryz.prog w 0 sp held m 4 (([c0,c1,c2,c3,c4,c5,c6,c7,c8,c9,c10,c11,c12,c13,c14,c15,c16,c17,c18].drop 11).take (Tryz.prog.cellsOf 4))=xs[6]? :=hf 6 _ rfl;have f7:DataW.trod enc Tryz.prog w 0 sp held m 27 (([c0,c1,c2,c3,c4,c5,c6,c7,c8,c9,c10,c11,c12,c13,c14,c15,c16,c17,c18].drop 12).take (Tryz.prog.cellsOf 27))=xs[7]? :=hf 7 _ rfl;have f8:DataW.trod enc Tryz.prog w 0 sp held m 28 (([c0,c1,c2,c3,c4,c5,c6,c7,c8,c9,c10,c11,c12,c13,c14,c15,c16,c17,c18].drop 18).take (Tryz.prog.cellsOf 28))=xs[8]? :=hf 8 _ rfl;simp only[Ak1,U0,Yg,Ns,Aak,Afd,List.drop_zero,List.drop_succ_cons,List.take_succ_cons,List.take_zero]at f0 f1 f2 f3 f4 f5 f6 f7 f8
  match xs,hlen with
  | [y0,y1,y2,y3,y4,y5,y6,y7,y8],_=>
    simp only[List.getElem?_cons_zero,List.getElem?_cons_succ]at f0 f1 f2 f3 f4 f5 f6 f7 f8;obtain⟨k,e0,rfl,_⟩:=DataW.trod_int Tryz.underlying22 f0;obtain⟨key,e1,rfl,_⟩:=DataW.trod_string Tryz.underlying9 f1;obtain⟨dst,e2,rfl,_⟩:=DataW.trod_string Tryz.underlying9 f2;obtain⟨i,e3,rfl,hwf⟩:=DataW.trod_int Tryz.underlying2 f3;obtain⟨had,e4,rfl⟩:=DataW.trod_bool Tryz.underlying4 f4;obtain⟨was,a1,a2,a3⟩:=V5 m _ _ f5;obtain⟨has,e6,rfl⟩:=DataW.trod_bool Tryz.underlying4 f6;obtain⟨v,b1,b2,b3⟩:=V5 m _ _ f7;obtain⟨l,l1,l2,l3⟩:=Xq (fun q hq=>IH q (by omega)) f8;simp only[List.cons.injEq,and_true]at e0 e1 e2 e3 e4 e6;subst e0 e1 e2 e3 e4 e6;have hks:key.data.toList.length=key.size:=(by rw[Array.length_toList];rfl);have hds:dst.data.toList.length=dst.size:=(by rw[Array.length_toList];rfl);refine⟨.mk k key dst i had was has v l, ?_, ?_, ?_⟩
    . simp only[dM,Holds];exact⟨[.int .i64 k],_,rfl,⟨rfl,rfl⟩, [.string key],_,rfl,⟨rfl,rfl⟩, [.string dst],_,rfl,⟨rfl,rfl⟩, [.int .i64 i],_,rfl,⟨rfl,rfl⟩, [.bool had],_,rfl,⟨rfl,rfl⟩, [c5,c6,c7,c8,c9,c10],_,rfl,Fp _ _ a1, [.bool has],_,rfl,⟨rfl,rfl⟩, [c12,c13,c14,c15,c16,c17],_,rfl,Fp _ _ b1, [c18], [],rfl,l1,rfl⟩
    . simp only[Mu];exact⟨Anz hwf,a2,b2,l2⟩
    . simp only[Bm,List.map_cons,List.map_nil,Rows.uptoBulkAll,Rows.uptoBulk];omega
set_option maxRecDepth 100000 in
theorem Jv {base:Nat} {v0:Value} {d:DataW H} {ps:List MemPlace} (hv:Value.okWide Tryz.prog w .any base 30 v0) (h:DataW.Trod enc Tryz.prog w 0 sp held 30 v0 d ps):
 ∃(m:Mut) (cs:List Value),v0=.agg cs.toArray/\Holds w w.heap.size (dM m) cs/\Mu m/\Bm m<=Rows.uptoBulk d:=by
 obtain⟨cs,rfl,_⟩:=okWide_struct Tryz.underlying30 hv;obtain⟨fuel,hf⟩:=h;obtain⟨m,h1,h2,h3⟩:=Amj fuel _ _ hf;exact⟨m,cs.toList,by simp,by simpa[Value.cells]using h1,h2,h3⟩
end
end Go.Proofs.YtmglfdckpjegdaaGreatDoor
