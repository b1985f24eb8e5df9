/- Parts: Arguments that read as a mutator. No condition. -/
import Derived.Test.YtobmaegpfbheoaaGreatDoorRows
import Derived.Deep.Slices
import Derived.WideKeyArgs
import Derived.Test.YtobmaegpfbheoaaGreatDoorKMo17
set_option maxRecDepth 100000
namespace Go.Proofs.YtobmaegpfbheoaaGreatDoor
open Go.RowKit Go.ChangeShapes Go.WideShapes
theorem V1:Tryz.prog.cellsOf 42=6:=by kernel_rfl
theorem Afo:Tryz.prog.cellsOf 74=7:=by kernel_rfl
theorem Lk:Tryz.prog.cellsOf 9=1:=by kernel_rfl
theorem Aax:Tryz.prog.cellsOf 38=1:=by kernel_rfl
theorem R1:Tryz.prog.cellsOf 4=1:=by kernel_rfl
theorem Up:Tryz.prog.cellsOf 2=1:=by kernel_rfl
theorem Afq:Tryz.prog.cellsOf 39=1:=by kernel_rfl
theorem Afp:Tryz.prog.cellsOf 40=1:=by kernel_rfl
section
variable {H:Type} {enc:TypeId×Value->H} {w:World} {sp:Nat->Bool} {held:Bool}
def Afc (enc:TypeId×Value->H) (w:World) (sp:Nat->Bool) (held:Bool) (n:Nat):Prop:= ∀(cs:List Value) (x:DataW H×List MemPlace),DataW.trod enc Tryz.prog w 0 sp held n 42 cs=some x->
    ∃v,Ac w w.heap.size v cs/\It v/\v.bulk<=Rows.uptoBulk x.1
theorem Aeq {cs:List Value} (h:cs.length=6): ∃c0 c1 c2 c3 c4 c5,cs= [c0,c1,c2,c3,c4,c5]:=by
 match cs,h with
 | [c0,c1,c2,c3,c4,c5],_=>exact⟨_,_,_,_,_,_,rfl⟩
theorem Zv {α:Type} {cs:List α} (h:cs.length=7): ∃c0 c1 c2 c3 c4 c5 c6,cs= [c0,c1,c2,c3,c4,c5,c6]:=by
 match cs,h with
 | [c0,c1,c2,c3,c4,c5,c6],_=>exact⟨_,_,_,_,_,_,_,rfl⟩
theorem R0 {g off n:Nat} {cs:List Value} (hn:0<n) (h:w.cells? 0 ⟨g,off,none⟩ n=some cs):g<w.heap.size/\ ∀j u,cs[j]? =some u->w.cell? ⟨g,off+j,none⟩=some u:=by
 obtain⟨_,hlen,hc⟩:=World.cells?_some h;have hj: ∀j u,cs[j]? =some u->w.cell? ⟨g,off+j,none⟩=some u:=by
  intro j u hu;have hjn:j<n:=by
   have:=(List.getElem?_eq_some_iff.1 hu).1;omega
  have:=hc j hjn;rw[add_plain]at this;rw[<-hu];exact this
 refine⟨?_,hj⟩;have h0: ∃u,cs[0]? =some u:=⟨cs[0]'(by omega),List.getElem?_eq_getElem (by omega)⟩;obtain⟨u,hu⟩:=h0;exact World.block_lt_of_cell? _ _ (hj 0 u hu)
theorem Sw {n:Nat} (IH:Afc enc w sp held n): ∀(elems:List (DataW H×List MemPlace)) (g off:Nat),
 (∀i,i<elems.length->(w.cells? 0 ⟨g,off+i*6,none⟩ 6).bind (DataW.trod enc Tryz.prog w 0 sp held n 42)=elems[i]?)->
 ∃l,l.length=elems.length/\Ax w w.heap.size l g off/\Lc l/\Ba l<=Rows.uptoBulkAll (elems.map (·.1))
 | [],_,_,_=>⟨[],rfl,by simp[Ax],by simp[Lc],by simp[Ba]⟩
 |y::r,g,off,h=>by
  obtain⟨l,h1,h2,h3,h4⟩:=Sw IH r g (off+6) (fun i hi=>by
   have:=h (i+1) (by simpa using hi);rw[show off+(i+1)*6=off+6+i*6 from by omega]at this;simpa using this)
  have h0:=h 0 (by simp);simp only[Nat.zero_mul,Nat.add_zero,List.getElem?_cons_zero]at h0;obtain⟨cs,hcs,hx⟩:=Option.bind_eq_some_iff.1 h0;obtain⟨v,v1,v2,v3⟩:=IH cs y hx;obtain⟨_,hc⟩:=R0 (by omega) hcs;refine⟨v::l,by simp[h1], ?_, ?_, ?_⟩
  . simp only[Ax];exact⟨⟨cs,v1,hc⟩,h2⟩
  . simp only[Lc];exact⟨v2,h3⟩
  . simp only[Ba,List.map_cons,Rows.uptoBulkAll];omega
theorem Pb {n:Nat} (IH: ∀m,m<n->Afc enc w sp held m): ∀(elems:List (DataW H×List MemPlace)) (g off:Nat),
 (∀i,i<elems.length->(w.cells? 0 ⟨g,off+i*7,none⟩ 7).bind (DataW.trod enc Tryz.prog w 0 sp held n 74)=elems[i]?)->
 ∃l,l.length=elems.length/\A4 w w.heap.size l g off/\Hh l/\Au l<=Rows.uptoBulkAll (elems.map (·.1))
 | [],_,_,_=>⟨[],rfl,by simp[A4],by simp[Hh],by simp[Au]⟩
 |y::r,g,off,h=>by
  obtain⟨l,h1,h2,h3,h4⟩:=Pb IH r g (off+7) (fun i hi=>by
   have:=h (i+1) (by simpa using hi);rw[show off+(i+1)*7=off+7+i*7 from by omega]at this;simpa using this)
  have h0:=h 0 (by simp);simp only[Nat.zero_mul,Nat.add_zero,List.getElem?_cons_zero]at h0;obtain⟨cs,hcs,hx⟩:=Option.bind_eq_some_iff.1 h0;obtain⟨_,hc⟩:=R0 (by omega) hcs;obtain⟨xs,m,rfl,rfl,hl,hlen,hf⟩:=DataW.trod_struct Tryz.underlying74 hx;have hl7:cs.length=7:=hl.trans Afo;obtain⟨c0,c1,c2,c3,c4,c5,c6,rfl⟩:=Zv hl7;have f0:DataW.trod enc Tryz.prog w 0 sp held m 9 (([c0,c1,c2,c3,c4,c5,c6].drop 0).take (Tryz.prog.cellsOf 9))=xs[0]? :=hf 0 _ rfl;have f1:DataW.trod enc Tryz.prog w 0 sp held m 42 (([c0,c1,c2,c3,c4,c5,c6].drop 1).take (Tryz.prog.cellsOf 42))=xs[1]? :=hf 1 _ rfl;simp only[Lk,V1,List.drop_zero,List.drop_succ_cons,List.take_succ_cons,List.take_zero]at f0 f1
  match xs,hlen with
  | [y0,y1],_=>
    simp only[List.getElem?_cons_zero,List.getElem?_cons_succ]at f0 f1;obtain⟨key,hk,rfl,_⟩:=DataW.trod_string Tryz.underlying9 f0;obtain⟨v,v1,v2,v3⟩:=IH m (by omega) _ _ f1;simp only[List.cons.injEq,and_true]at hk;subst hk;refine⟨(key,v)::l,by simp[h1], ?_, ?_, ?_⟩
    . simp only[A4,Ma];refine⟨⟨hc 0 _ rfl,_,v1,fun j u hu=> ?_⟩,h2⟩;rw[Nat.add_assoc,Nat.add_comm 1 j];exact hc (j+1) u hu
    . simp only[Hh,inP];exact⟨v2,h3⟩
    . have hks:key.data.toList.length=key.size:=(by rw[Array.length_toList];rfl);simp only[Au,Fi,List.map_cons,List.map_nil,Rows.uptoBulkAll,Rows.uptoBulk];omega
theorem Tu {n:Nat} {c4:Value} {y4:DataW H×List MemPlace} (IH: ∀m,m<n->Afc enc w sp held m) (f4:DataW.trod enc Tryz.prog w 0 sp held n 39 [c4]=some y4):
 ∃l la lc,c4=.slice la (l:List Val).length lc/\(l= []\/ ∃g off,la=some ⟨g,off,none⟩/\g<w.heap.size/\Ax w w.heap.size l g off)/\Lc l/\1+Ba l<=Rows.uptoBulk y4.1:=by
 rcases DataW.trod_slice Tryz.underlying39 f4 with⟨e,rfl⟩|⟨a,len,cap,elems,rest,q,hn,e,rfl,_,_,_,hlen',hel,_,_⟩
 . simp only[List.cons.injEq,and_true]at e;exact⟨[],none,0,e,.inl rfl,by simp[Lc],by simp[Ba,Rows.uptoBulk]⟩
 . simp only[List.cons.injEq,and_true]at e;subst e;by_cases h0:len=0
   . subst h0;exact⟨[],some a,cap,rfl,.inl rfl,by simp[Lc],by simp[Ba,Rows.uptoBulk]⟩
   . obtain⟨g,off,spot⟩:=a;rw[V1]at hel;have hz:=hel 0 (by omega);rw[List.getElem?_eq_getElem (by omega)]at hz;obtain⟨cs',hcs',_⟩:=Option.bind_eq_some_iff.1 hz;obtain⟨_,hcl,hcc⟩:=World.cells?_some hcs';have hz0:=hcc 0 (by omega);rw[List.getElem?_eq_getElem (by omega)]at hz0;have hspot:spot=none:=by simpa[Addr.add]using World.cell?_spot hz0
     subst hspot;simp only[add_plain]at hel hz0;obtain⟨l,h1,h2,h3,h4⟩:=Sw (IH q (by omega)) elems g off (fun i hi=>hel i (by omega));refine⟨l,_,cap,by rw[h1,hlen'],.inr ⟨g,off,rfl,World.block_lt_of_cell? _ _ hz0,h2⟩,h3, ?_⟩;simp only[Rows.uptoBulk];omega
theorem Tv {n:Nat} {c5:Value} {y5:DataW H×List MemPlace} (IH: ∀m,m<n->Afc enc w sp held m) (f5:DataW.trod enc Tryz.prog w 0 sp held n 40 [c5]=some y5):
 ∃l la lc,c5=.slice la (l:List (ByteArray×Val)).length lc/\(l= []\/ ∃g off,la=some ⟨g,off,none⟩/\g<w.heap.size/\A4 w w.heap.size l g off)/\Hh l/\1+Au l<=Rows.uptoBulk y5.1:=by
 rcases DataW.trod_slice Tryz.underlying40 f5 with⟨e,rfl⟩|⟨a,len,cap,elems,rest,q,hn,e,rfl,_,_,_,hlen',hel,_,_⟩
 . simp only[List.cons.injEq,and_true]at e;exact⟨[],none,0,e,.inl rfl,by simp[Hh],by simp[Au,Rows.uptoBulk]⟩
 . simp only[List.cons.injEq,and_true]at e;subst e;by_cases h0:len=0
   . subst h0;exact⟨[],some a,cap,rfl,.inl rfl,by simp[Hh],by simp[Au,Rows.uptoBulk]⟩
   . obtain⟨g,off,spot⟩:=a;rw[Afo]at hel;have hz:=hel 0 (by omega);rw[List.getElem?_eq_getElem (by omega)]at hz;obtain⟨cs',hcs',_⟩:=Option.bind_eq_some_iff.1 hz;obtain⟨_,hcl,hcc⟩:=World.cells?_some hcs';have hz0:=hcc 0 (by omega);rw[List.getElem?_eq_getElem (by omega)]at hz0;have hspot:spot=none:=by simpa[Addr.add]using World.cell?_spot hz0
     subst hspot;simp only[add_plain]at hel hz0;obtain⟨l,h1,h2,h3,h4⟩:=Pb (n:=q) (fun m hm=>IH m (by omega)) elems g off (fun i hi=>hel i (by omega));refine⟨l,_,cap,by rw[h1,hlen'],.inr ⟨g,off,rfl,World.block_lt_of_cell? _ _ hz0,h2⟩,h3, ?_⟩;simp only[Rows.uptoBulk];omega
theorem Sx: ∀n,Afc enc w sp held n:=by
 intro n
 induction n using Nat.strongRecOn with
 |_ n IH=>
  intro cs x hx;obtain⟨xs,m,rfl,rfl,hl,hlen,hf⟩:=DataW.trod_struct Tryz.underlying42 hx;have hl6:cs.length=6:=hl.trans V1;obtain⟨c0,c1,c2,c3,c4,c5,rfl⟩:=Aeq hl6;have f0:DataW.trod enc Tryz.prog w 0 sp held m 38 (([c0,c1,c2,c3,c4,c5].drop 0).take (Tryz.prog.cellsOf 38))=xs[0]? :=hf 0 _ rfl;have f1:DataW.trod enc Tryz.prog w 0 sp held m 4 (([c0,c1,c2,c3,c4,c5].drop 1).take (Tryz.prog.cellsOf 4))=xs[1]? :=hf 1 _ rfl;have f2:DataW.trod enc Tryz.prog w 0 sp held m 2 (([c0,c1,c2,c3,c4,c5].drop 2).take (Tryz.prog.cellsOf 2))=xs[2]? :=hf 2 _ rfl;have f3:DataW.trod enc Tryz.prog w 0 sp held m 9 (([c0,c1,c2,c3,c4,c5].drop 3).take (Tryz.prog.cellsOf 9))=xs[3]? :=hf 3 _ rfl;have f4:DataW.trod enc Tryz.prog w 0 sp held m 39 (([c0,c1,c2,c3,c4,c5].drop 4).take (Tryz.prog.cellsOf 39))=xs[4]? :=hf 4 _ rfl;have f5:DataW.trod enc Tryz.prog w 0 sp held m 40 (([c0,c1,c2,c3,c4,c5].drop 5).take (Tryz.prog.cellsOf 40))=xs[5]? :=hf 5 _ rfl;simp only[Aax,R1,Up,Lk,Afq,Afp,List.drop_zero,List.drop_succ_cons,List.take_succ_cons,List.take_zero]at f0 f1 f2 f3 f4 f5
  match xs,hlen with
  | [y0,y1,y2,y3,y4,y5],_=>
    simp only[List.getElem?_cons_zero,List.getElem?_cons_succ]at f0 f1 f2 f3 f4 f5;obtain⟨k,e0,rfl,_⟩:=DataW.trod_int Tryz.underlying38 f0;obtain⟨b,e1,rfl⟩:=DataW.trod_bool Tryz.underlying4 f1;obtain⟨i,e2,rfl,hwf⟩:=DataW.trod_int Tryz.underlying2 f2;obtain⟨t,e3,rfl,_⟩:=DataW.trod_string Tryz.underlying9 f3;simp only[List.cons.injEq,and_true]at e0 e1 e2 e3;subst e0 e1 e2 e3;have hin: -9223372036854775808<=i/\i<=9223372036854775807:=by
     have h1:IntKind.i64.min= -9223372036854775808:=by decide
     have h2:IntKind.i64.max=9223372036854775807:=by decide
     simp only[Lit.wf,h1,h2,Bool.and_eq_true,decide_eq_true_eq]at hwf;exact hwf
    have hts:t.data.toList.length=t.size:=(by rw[Array.length_toList];rfl);have hL:=Tu (fun q hq=>IH q (by omega)) f4;have hO:=Tv (fun q hq=>IH q (by omega)) f5;obtain⟨l,la,lc,rfl,l1,l2,l3⟩:=hL;obtain⟨o,oa,oc,rfl,o1,o2,o3⟩:=hO;refine⟨.mk k b i t l o, ?_, ?_, ?_⟩
    . simp only[Ac];exact⟨la,lc,oa,oc,rfl,l1,o1⟩
    . simp only[It];exact⟨hin,l2,o2⟩
    . simp only[Val.bulk,List.map_cons,List.map_nil,Rows.uptoBulkAll,Rows.uptoBulk];omega
end
theorem Agi:laidOutB Tryz.prog=true:=by kernel_rfl
theorem Akm {H:Type} {enc:TypeId×Value->H} {W W':World} {t:TypeId} {v:Value} {d:DataW H} {ps:List MemPlace} {sp':Nat->Bool} (hr:Tryz.prog.readableRec t=true) (ht:t<Tryz.prog.types.size)
 (h:DataW.Trod enc Tryz.prog W 0 (fun _=>true) true t v d ps) (hlt: ∀p ∈ ps,p.block<W.heap.size) (hb:Below W.heap.size W W') (hs: ∀p ∈ ps,sp' p.block=true):DataW.Trod enc Tryz.prog W' 0 sp' true t v d ps:=by
 refine Go.WideElems.Trod_stays Agi hr ht h (fun p hp=> ?_) hs;have hl:=hlt p hp
 cases p with
 |cell b off=>exact World.cell?_of_block (w:=W) (w':=W') (a:=⟨b,off,none⟩) (hb.block b hl)
 |map b=>exact hb.block b hl
theorem Uq:Tryz.prog.cellsOf 45=19:=by kernel_rfl
theorem Afr:Tryz.prog.cellsOf 37=1:=by kernel_rfl
theorem Aay:Tryz.prog.cellsOf 43=1:=by kernel_rfl
theorem Ahu {α:Type} {cs:List α} (h:cs.length=19): ∃c0 c1 c2 c3 c4 c5 c6 c7 c8 c9 c10 c11 c12 c13 c14 c15 c16 c17 c18,cs= [c0,c1,c2,c3,c4,c5,c6,c7,c8,c9,c10,c11,c12,c13,c14,c15,c16,c17,c18]:=by
 match cs,h with
 | [c0,c1,c2,c3,c4,c5,c6,c7,c8,c9,c10,c11,c12,c13,c14,c15,c16,c17,c18],_=>exact⟨_,_,_,_,_,_,_,_,_,_,_,_,_,_,_,_,_,_,_,rfl⟩
theorem Ah3 {i:Int} (hwf:(Lit.int .i64 i).wf=true): -9223372036854775808<=i/\i<=9223372036854775807:=by
 have h1:IntKind.i64.min= -9223372036854775808:=by decide
 have h2:IntKind.i64.max=9223372036854775807:=by decide
 simp only[Lit.wf,h1,h2,Bool.and_eq_true,decide_eq_true_eq]at hwf;exact hwf
section
variable {H:Type} {enc:TypeId×Value->H} {w:World} {sp:Nat->Bool} {held:Bool}
def Aan (enc:TypeId×Value->H) (w:World) (sp:Nat->Bool) (held:Bool) (n:Nat):Prop:= ∀(cs:List Value) (x:DataW H×List MemPlace),DataW.trod enc Tryz.prog w 0 sp held n 45 cs=some x->
    ∃m,Ai w w.heap.size (dM m) cs/\Nv m/\Bm m<=Rows.uptoBulk x.1
theorem Yi {s:Nat} {d:D} {ds:List D} {cs ns:List Value} {g off:Nat} (hd:Ai w w.heap.size d cs) (hs:cs.length=s) (hc: ∀j u,cs[j]? =some u->w.cell? ⟨g,off+j,none⟩=some u)
 (hr:Ah w w.heap.size ds ns) (hn: ∀j u,ns[j]? =some u->w.cell? ⟨g,off+s+j,none⟩=some u):
 ∃ms,Ah w w.heap.size (d::ds) ms/\ ∀j u,ms[j]? =some u->w.cell? ⟨g,off+j,none⟩=some u:=by
 refine⟨cs++ns,⟨cs,ns,rfl,hd,hr⟩,fun j u hu=> ?_⟩;by_cases hj:j<s
 . rw[List.getElem?_append_left (by omega)]at hu;exact hc j u hu
 . rw[List.getElem?_append_right (by omega)]at hu;have:=hn (j - cs.length) u hu
   rwa [show off+s+(j - cs.length)=off+j from by omega]at this
theorem U7 {n:Nat} (IH:Aan enc w sp held n): ∀(elems:List (DataW H×List MemPlace)) (g off:Nat),
 (∀i,i<elems.length->(w.cells? 0 ⟨g,off+i*19,none⟩ 19).bind (DataW.trod enc Tryz.prog w 0 sp held n 45)=elems[i]?)->
 ∃l:List Mut,l.length=elems.length/\(∃ns,Ah w w.heap.size (E2 l) ns/\ ∀j u,ns[j]? =some u->w.cell? ⟨g,off+j,none⟩=some u)/\Sf l/\Db l<=Rows.uptoBulkAll (elems.map (·.1))
 | [],_,_,_=>⟨[],rfl,⟨[],rfl,fun j u h=>by simp at h⟩,trivial,by simp[Db]⟩
 |y::r,g,off,h=>by
  obtain⟨l,h1,⟨ns,h2,h2'⟩,h3,h4⟩:=U7 IH r g (off+19) (fun i hi=>by
   have:=h (i+1) (by simpa using hi);rw[show off+(i+1)*19=off+19+i*19 from by omega]at this;simpa using this)
  have h0:=h 0 (by simp);simp only[Nat.zero_mul,Nat.add_zero,List.getElem?_cons_zero]at h0;obtain⟨cs,hcs,hx⟩:=Option.bind_eq_some_iff.1 h0;obtain⟨m,v1,v2,v3⟩:=IH cs y hx;obtain⟨_,hc⟩:=R0 (by omega) hcs;refine⟨m::l,by simp[h1],Yi v1 (v1.len.1.trans (C9 m)) hc h2 h2',⟨v2,h3⟩, ?_⟩;simp only[Db,List.map_cons,Rows.uptoBulkAll];omega
theorem Tw {n:Nat} {c4:Value} {y4:DataW H×List MemPlace} (IH: ∀m,m<n->Aan enc w sp held m) (f4:DataW.trod enc Tryz.prog w 0 sp held n 43 [c4]=some y4):
 ∃l:List Mut,Ai w w.heap.size (.row 19 (E2 l)) [c4]/\Sf l/\1+Db l<=Rows.uptoBulk y4.1:=by
 rcases DataW.trod_slice Tryz.underlying43 f4 with⟨e,rfl⟩|⟨a,len,cap,elems,rest,q,hn,e,rfl,_,_,_,hlen',hel,_,_⟩
 . simp only[List.cons.injEq,and_true]at e;exact⟨[],⟨none,0,by rw[e];rfl,Px _, [],rfl,.inl rfl⟩,trivial,by simp[Db,Rows.uptoBulk]⟩
 . simp only[List.cons.injEq,and_true]at e;subst e;by_cases h0:len=0
   . subst h0;exact⟨[],⟨some a,cap,rfl,Px _, [],rfl,.inl rfl⟩,trivial,by simp[Db,Rows.uptoBulk]⟩
   . obtain⟨g,off,spot⟩:=a;rw[Uq]at hel;have hz:=hel 0 (by omega);rw[List.getElem?_eq_getElem (by omega)]at hz;obtain⟨cs',hcs',_⟩:=Option.bind_eq_some_iff.1 hz;obtain⟨_,hcl,hcc⟩:=World.cells?_some hcs';have hz0:=hcc 0 (by omega);rw[List.getElem?_eq_getElem (by omega)]at hz0;have hspot:spot=none:=by simpa[Addr.add]using World.cell?_spot hz0
     subst hspot;simp only[add_plain]at hel hz0;obtain⟨l,h1,⟨ns,h2,h2'⟩,h3,h4⟩:=U7 (IH q (by omega)) elems g off (fun i hi=>hel i (by omega));refine⟨l,⟨_,cap,by rw[Gb,h1,hlen'],Px _,ns,h2,.inr ⟨g,off,rfl,World.block_lt_of_cell? _ _ hz0,h2'⟩⟩,h3, ?_⟩;simp only[Rows.uptoBulk];omega
theorem Ag0: ∀n,Aan enc w sp held n:=by
 intro n
 induction n using Nat.strongRecOn with
 |_ n IH=>
  intro cs x hx;obtain⟨xs,m,rfl,rfl,hl,hlen,hf⟩:=DataW.trod_struct Tryz.underlying45 hx;have hl6:cs.length=19:=hl.trans Uq;obtain⟨c0,c1,c2,c3,c4,c5,c6,c7,c8,c9,c10,c11,c12,c13,c14,c15,c16,c17,c18,rfl⟩:=Ahu hl6;have f0:DataW.trod enc Tryz.prog w 0 sp held m 37 (([c0,c1,c2,c3,c4,c5,c6,c7,c8,c9,c10,c11,c12,c13,c14,c15,c16,c17,c18].drop 0).take (Tryz.prog.cellsOf 37))=xs[0]? :=hf 0 _ rfl;have f1:DataW.trod enc Tryz.prog w 0 sp held m 9 (([c0,c1,c2,c3,c4,c5,c6,c7,c8,c9,c10,c11,c12,c13,c14,c15,c16,c17,c18].drop 1).take (Tryz.prog.cellsOf 9))=xs[1]? :=hf 1 _ rfl;have f2:DataW.trod enc Tryz.prog w 0 sp held m 9 (([c0,c1,c2,c3,c4,c5,c6,c7,c8,c9,c10,c11,c12,c13,c14,c15,c16,c17,c18].drop 2).take (Tryz.prog.cellsOf 9))=xs[2]? :=hf 2 _ rfl;have f3:DataW.trod enc Tryz.prog w 0 sp held m 2 (([c0,c1,c2,c3,c4,c5,c6,c7,c8,c9,c10,c11,c12,c13,c14,c15,c16,c17,c18].drop 3).take (Tryz.prog.cellsOf 2))=xs[3]? :=hf 3 _ rfl;have f4:DataW.trod enc Tryz.prog w 0 sp held m 4 (([c0,c1,c2,c3,c4,c5,c6,c7,c8,c9,c10,c11,c12,c13,c14,c15,c16,c17,c18].drop 4).take (Tryz.prog.cellsOf 4))=xs[4]? :=hf 4 _ rfl;have f5:DataW.trod enc Tryz.prog w 0 sp held m 42 (([c0,c1,c2,c3,c4,c5,c6,c7,c8,c9,c10,c11,c12,c13,c14,c15,c16,c17,c18].drop 5).take (Tryz.prog.cellsOf 42))=xs[5]? :=hf 5 _ rfl;have f6:DataW.trod enc Tryz.prog w 0 sp held m 4 (([c0,c1,c2,c3,c4,c5,c6,c7,c8,c9,c10,c11,c12,c13,c14,c15,c16,c17,c18].drop 11).take (Tryz.prog.cellsOf 4))=xs[6]? :=hf 6 _ rfl;have f7:DataW.trod enc Tryz.prog w 0 sp held m 42 (([c0,c1,c2,c3,c4,c5,c6,c7,c8,c9,c10,c11,c12,c13,c14,c15,c16,c17,c18].drop 12).take (Tryz.prog.cellsOf 42))=xs[7]? :=hf 7 _ rfl;have f8:DataW.trod enc Tryz.prog w 0 sp held m 43 (([c0,c1,c2,c3,c4,c5,c6,c7,c8,c9,c10,c11,c12,c13,c14,c15,c16,c17,c18].drop 18).take (Tryz.prog.cellsOf 43))=xs[8]? :=hf 8 _ rfl;simp only[Afr,R1,Up,Lk,V1,Aay,List.drop_zero,List.drop_succ_cons,List.take_succ_cons,List.take_zero]at f0 f1 f2 f3 f4 f5 f6 f7 f8
  match xs,hlen with
  | [y0,y1,y2,y3,y4,y5,y6,y7,y8],_=>
    simp only[List.getElem?_cons_zero,List.getElem?_cons_succ]at f0 f1 f2 f3 f4 f5 f6 f7 f8;obtain⟨k,e0,rfl,_⟩:=DataW.trod_int Tryz.underlying37 f0;obtain⟨key,e1,rfl,_⟩:=DataW.trod_string Tryz.underlying9 f1;obtain⟨dst,e2,rfl,_⟩:=DataW.trod_string Tryz.underlying9 f2;obtain⟨i,e3,rfl,hwf⟩:=DataW.trod_int Tryz.underlying2 f3;obtain⟨had,e4,rfl⟩:=DataW.trod_bool Tryz.underlying4 f4;obtain⟨was,a1,a2,a3⟩:=Sx m _ _ f5;obtain⟨has,e6,rfl⟩:=DataW.trod_bool Tryz.underlying4 f6;obtain⟨v,b1,b2,b3⟩:=Sx m _ _ f7;obtain⟨l,l1,l2,l3⟩:=Tw (fun q hq=>IH q (by omega)) f8;simp only[List.cons.injEq,and_true]at e0 e1 e2 e3 e4 e6;subst e0 e1 e2 e3 e4 e6;have hks:key.data.toList.length=key.size:=(by rw[Array.length_toList];rfl);have hds:dst.data.toList.length=dst.size:=(by rw[Array.length_toList];rfl);refine⟨.mk k key dst i had was has v l, ?_, ?_, ?_⟩
    . simp only[dM,Ai];exact⟨[.int .i64 k],_,rfl,⟨rfl,rfl⟩, [.string key],_,rfl,⟨rfl,rfl⟩, [.string dst],_,rfl,⟨rfl,rfl⟩, [.int .i64 i],_,rfl,⟨rfl,rfl⟩, [.bool had],_,rfl,⟨rfl,rfl⟩, [c5,c6,c7,c8,c9,c10],_,rfl,Eo _ _ a1, [.bool has],_,rfl,⟨rfl,rfl⟩, [c12,c13,c14,c15,c16,c17],_,rfl,Eo _ _ b1, [c18], [],rfl,l1,rfl⟩
    . simp only[Nv];exact⟨Ah3 hwf,a2,b2,l2⟩
    . simp only[Bm,List.map_cons,List.map_nil,Rows.uptoBulkAll,Rows.uptoBulk];omega
theorem Ws {base:Nat} {v0:Value} {d:DataW H} {ps:List MemPlace} (hv:Value.okWide Tryz.prog w .any base 45 v0) (h:DataW.Trod enc Tryz.prog w 0 sp held 45 v0 d ps):
 ∃(m:Mut) (cs:List Value),v0=.agg cs.toArray/\Ai w w.heap.size (dM m) cs/\Nv m/\Bm m<=Rows.uptoBulk d:=by
 obtain⟨cs,rfl,_⟩:=okWide_struct Tryz.underlying45 hv;obtain⟨fuel,hf⟩:=h;obtain⟨m,h1,h2,h3⟩:=Ag0 fuel _ _ hf;exact⟨m,cs.toList,by simp,by simpa[Value.cells]using h1,h2,h3⟩
end
end Go.Proofs.YtobmaegpfbheoaaGreatDoor
