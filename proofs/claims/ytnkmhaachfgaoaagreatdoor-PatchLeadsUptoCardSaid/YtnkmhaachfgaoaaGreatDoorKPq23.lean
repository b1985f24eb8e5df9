/- Parts: Arguments that read as a list of entries. No condition. -/
import Derived.Deep.Slices
import Derived.WideKeyArgs
import Derived.Test.YtnkmhaachfgaoaaGreatDoorKPq19
set_option maxRecDepth 100000
namespace Go.Proofs.YtnkmhaachfgaoaaGreatDoor
open Go.RowKit Go.ChangeShapes Go.WideShapes
theorem Qq:Tryz.prog.cellsOf 40=6:=by kernel_rfl
theorem Aeh:Tryz.prog.cellsOf 94=7:=by kernel_rfl
theorem G8:Tryz.prog.cellsOf 9=1:=by kernel_rfl
theorem Zv:Tryz.prog.cellsOf 36=1:=by kernel_rfl
theorem Zu:Tryz.prog.cellsOf 4=1:=by kernel_rfl
theorem Acl:Tryz.prog.cellsOf 2=1:=by kernel_rfl
theorem Aek:Tryz.prog.cellsOf 37=1:=by kernel_rfl
theorem Aej:Tryz.prog.cellsOf 38=1:=by kernel_rfl
section
variable {H:Type} {enc:TypeId×Value->H} {w:World} {sp:Nat->Bool} {held:Bool}
def Ad5 (enc:TypeId×Value->H) (w:World) (sp:Nat->Bool) (held:Bool) (n:Nat):Prop:= ∀(cs:List Value) (x:DataW H×List MemPlace),DataW.trod enc Tryz.prog w 0 sp held n 40 cs=some x->
    ∃v,Ab w w.heap.size v cs/\M4 v/\v.bulk<=Rows.uptoBulk x.1
theorem Adl {cs:List Value} (h:cs.length=6): ∃c0 c1 c2 c3 c4 c5,cs= [c0,c1,c2,c3,c4,c5]:=by
 match cs,h with
 | [c0,c1,c2,c3,c4,c5],_=>exact⟨_,_,_,_,_,_,rfl⟩
theorem Ps {α:Type} {cs:List α} (h:cs.length=7): ∃c0 c1 c2 c3 c4 c5 c6,cs= [c0,c1,c2,c3,c4,c5,c6]:=by
 match cs,h with
 | [c0,c1,c2,c3,c4,c5,c6],_=>exact⟨_,_,_,_,_,_,_,rfl⟩
theorem Nq {g off n:Nat} {cs:List Value} (hn:0<n) (h:w.cells? 0 ⟨g,off,none⟩ n=some cs):g<w.heap.size/\ ∀j u,cs[j]? =some u->w.cell? ⟨g,off+j,none⟩=some u:=by
 obtain⟨_,hlen,hc⟩:=World.cells?_some h;have hj: ∀j u,cs[j]? =some u->w.cell? ⟨g,off+j,none⟩=some u:=by
  intro j u hu;have hjn:j<n:=by
   have:=(List.getElem?_eq_some_iff.1 hu).1;omega
  have:=hc j hjn;rw[add_plain]at this;rw[<-hu];exact this
 refine⟨?_,hj⟩;have h0: ∃u,cs[0]? =some u:=⟨cs[0]'(by omega),List.getElem?_eq_getElem (by omega)⟩;obtain⟨u,hu⟩:=h0;exact World.block_lt_of_cell? _ _ (hj 0 u hu)
theorem Rt {n:Nat} (IH:Ad5 enc w sp held n): ∀(elems:List (DataW H×List MemPlace)) (g off:Nat),
 (∀i,i<elems.length->(w.cells? 0 ⟨g,off+i*6,none⟩ 6).bind (DataW.trod enc Tryz.prog w 0 sp held n 40)=elems[i]?)->
 ∃l,l.length=elems.length/\Aj w w.heap.size l g off/\U0 l/\Bc l<=Rows.uptoBulkAll (elems.map (·.1))
 | [],_,_,_=>⟨[],rfl,by simp[Aj],by simp[U0],by simp[Bc]⟩
 |y::r,g,off,h=>by
  obtain⟨l,h1,h2,h3,h4⟩:=Rt IH r g (off+6) (fun i hi=>by
   have:=h (i+1) (by simpa using hi);rw[show off+(i+1)*6=off+6+i*6 from by omega]at this;simpa using this)
  have h0:=h 0 (by simp);simp only[Nat.zero_mul,Nat.add_zero,List.getElem?_cons_zero]at h0;obtain⟨cs,hcs,hx⟩:=Option.bind_eq_some_iff.1 h0;obtain⟨v,v1,v2,v3⟩:=IH cs y hx;obtain⟨_,hc⟩:=Nq (by omega) hcs;refine⟨v::l,by simp[h1], ?_, ?_, ?_⟩
  . simp only[Aj];exact⟨⟨cs,v1,hc⟩,h2⟩
  . simp only[U0];exact⟨v2,h3⟩
  . simp only[Bc,List.map_cons,Rows.uptoBulkAll];omega
theorem N8 {n:Nat} (IH: ∀m,m<n->Ad5 enc w sp held m): ∀(elems:List (DataW H×List MemPlace)) (g off:Nat),
 (∀i,i<elems.length->(w.cells? 0 ⟨g,off+i*7,none⟩ 7).bind (DataW.trod enc Tryz.prog w 0 sp held n 94)=elems[i]?)->
 ∃l,l.length=elems.length/\Ak w w.heap.size l g off/\J2 l/\Ac l<=Rows.uptoBulkAll (elems.map (·.1))
 | [],_,_,_=>⟨[],rfl,by simp[Ak],by simp[J2],by simp[Ac]⟩
 |y::r,g,off,h=>by
  obtain⟨l,h1,h2,h3,h4⟩:=N8 IH r g (off+7) (fun i hi=>by
   have:=h (i+1) (by simpa using hi);rw[show off+(i+1)*7=off+7+i*7 from by omega]at this;simpa using this)
  have h0:=h 0 (by simp);simp only[Nat.zero_mul,Nat.add_zero,List.getElem?_cons_zero]at h0;obtain⟨cs,hcs,hx⟩:=Option.bind_eq_some_iff.1 h0;obtain⟨_,hc⟩:=Nq (by omega) hcs;obtain⟨xs,m,rfl,rfl,hl,hlen,hf⟩:=DataW.trod_struct Tryz.underlying94 hx;have hl7:cs.length=7:=hl.trans Aeh;obtain⟨c0,c1,c2,c3,c4,c5,c6,rfl⟩:=Ps hl7;have f0:DataW.trod enc Tryz.prog w 0 sp held m 9 (([c0,c1,c2,c3,c4,c5,c6].drop 0).take (Tryz.prog.cellsOf 9))=xs[0]? :=hf 0 _ rfl;have f1:DataW.trod enc Tryz.prog w 0 sp held m 40 (([c0,c1,c2,c3,c4,c5,c6].drop 1).take (Tryz.prog.cellsOf 40))=xs[1]? :=hf 1 _ rfl;simp only[G8,Qq,List.drop_zero,List.drop_succ_cons,List.take_succ_cons,List.take_zero]at f0 f1
  match xs,hlen with
  | [y0,y1],_=>
    simp only[List.getElem?_cons_zero,List.getElem?_cons_succ]at f0 f1;obtain⟨key,hk,rfl,_⟩:=DataW.trod_string Tryz.underlying9 f0;obtain⟨v,v1,v2,v3⟩:=IH m (by omega) _ _ f1;simp only[List.cons.injEq,and_true]at hk;subst hk;refine⟨(key,v)::l,by simp[h1], ?_, ?_, ?_⟩
    . simp only[Ak,J5];refine⟨⟨hc 0 _ rfl,_,v1,fun j u hu=> ?_⟩,h2⟩;rw[Nat.add_assoc,Nat.add_comm 1 j];exact hc (j+1) u hu
    . simp only[J2,inP];exact⟨v2,h3⟩
    . have hks:key.data.toList.length=key.size:=(by rw[Array.length_toList];rfl);simp only[Ac,Dg,List.map_cons,List.map_nil,Rows.uptoBulkAll,Rows.uptoBulk];omega
theorem So {n:Nat} {c4:Value} {y4:DataW H×List MemPlace} (IH: ∀m,m<n->Ad5 enc w sp held m) (f4:DataW.trod enc Tryz.prog w 0 sp held n 37 [c4]=some y4):
 ∃l la lc,c4=.slice la (l:List Val).length lc/\(l= []\/ ∃g off,la=some ⟨g,off,none⟩/\g<w.heap.size/\Aj w w.heap.size l g off)/\U0 l/\1+Bc l<=Rows.uptoBulk y4.1:=by
 rcases DataW.trod_slice Tryz.underlying37 f4 with⟨e,rfl⟩|⟨a,len,cap,elems,rest,q,hn,e,rfl,_,_,_,hlen',hel,_,_⟩
 . simp only[List.cons.injEq,and_true]at e;exact⟨[],none,0,e,.inl rfl,by simp[U0],by simp[Bc,Rows.uptoBulk]⟩
 . simp only[List.cons.injEq,and_true]at e;subst e;by_cases h0:len=0
   . subst h0;exact⟨[],some a,cap,rfl,.inl rfl,by simp[U0],by simp[Bc,Rows.uptoBulk]⟩
   . obtain⟨g,off,spot⟩:=a;rw[Qq]at hel;have hz:=hel 0 (by omega);rw[List.getElem?_eq_getElem (by omega)]at hz;obtain⟨cs',hcs',_⟩:=Option.bind_eq_some_iff.1 hz;obtain⟨_,hcl,hcc⟩:=World.cells?_some hcs';have hz0:=hcc 0 (by omega);rw[List.getElem?_eq_getElem (by omega)]at hz0;have hspot:spot=none:=by simpa[Addr.add]using World.cell?_spot hz0
     subst hspot;simp only[add_plain]at hel hz0;obtain⟨l,h1,h2,h3,h4⟩:=Rt (IH q (by omega)) elems g off (fun i hi=>hel i (by omega));refine⟨l,_,cap,by rw[h1,hlen'],.inr ⟨g,off,rfl,World.block_lt_of_cell? _ _ hz0,h2⟩,h3, ?_⟩;simp only[Rows.uptoBulk];omega
theorem Sp {n:Nat} {c5:Value} {y5:DataW H×List MemPlace} (IH: ∀m,m<n->Ad5 enc w sp held m) (f5:DataW.trod enc Tryz.prog w 0 sp held n 38 [c5]=some y5):
 ∃l la lc,c5=.slice la (l:List (ByteArray×Val)).length lc/\(l= []\/ ∃g off,la=some ⟨g,off,none⟩/\g<w.heap.size/\Ak w w.heap.size l g off)/\J2 l/\1+Ac l<=Rows.uptoBulk y5.1:=by
 rcases DataW.trod_slice Tryz.underlying38 f5 with⟨e,rfl⟩|⟨a,len,cap,elems,rest,q,hn,e,rfl,_,_,_,hlen',hel,_,_⟩
 . simp only[List.cons.injEq,and_true]at e;exact⟨[],none,0,e,.inl rfl,by simp[J2],by simp[Ac,Rows.uptoBulk]⟩
 . simp only[List.cons.injEq,and_true]at e;subst e;by_cases h0:len=0
   . subst h0;exact⟨[],some a,cap,rfl,.inl rfl,by simp[J2],by simp[Ac,Rows.uptoBulk]⟩
   . obtain⟨g,off,spot⟩:=a;rw[Aeh]at hel;have hz:=hel 0 (by omega);rw[List.getElem?_eq_getElem (by omega)]at hz;obtain⟨cs',hcs',_⟩:=Option.bind_eq_some_iff.1 hz;obtain⟨_,hcl,hcc⟩:=World.cells?_some hcs';have hz0:=hcc 0 (by omega);rw[List.getElem?_eq_getElem (by omega)]at hz0;have hspot:spot=none:=by simpa[Addr.add]using World.cell?_spot hz0
     subst hspot;simp only[add_plain]at hel hz0;obtain⟨l,h1,h2,h3,h4⟩:=N8 (n:=q) (fun m hm=>IH m (by omega)) elems g off (fun i hi=>hel i (by omega));refine⟨l,_,cap,by rw[h1,hlen'],.inr ⟨g,off,rfl,World.block_lt_of_cell? _ _ hz0,h2⟩,h3, ?_⟩;simp only[Rows.uptoBulk];omega
theorem Ru: ∀n,Ad5 enc w sp held n:=by
 intro n
 induction n using Nat.strongRecOn with
 |_ n IH=>
  intro cs x hx;obtain⟨xs,m,rfl,rfl,hl,hlen,hf⟩:=DataW.trod_struct Tryz.underlying40 hx;have hl6:cs.length=6:=hl.trans Qq;obtain⟨c0,c1,c2,c3,c4,c5,rfl⟩:=Adl hl6;have f0:DataW.trod enc Tryz.prog w 0 sp held m 36 (([c0,c1,c2,c3,c4,c5].drop 0).take (Tryz.prog.cellsOf 36))=xs[0]? :=hf 0 _ rfl;have f1:DataW.trod enc Tryz.prog w 0 sp held m 4 (([c0,c1,c2,c3,c4,c5].drop 1).take (Tryz.prog.cellsOf 4))=xs[1]? :=hf 1 _ rfl;have f2:DataW.trod enc Tryz.prog w 0 sp held m 2 (([c0,c1,c2,c3,c4,c5].drop 2).take (Tryz.prog.cellsOf 2))=xs[2]? :=hf 2 _ rfl;have f3:DataW.trod enc Tryz.prog w 0 sp held m 9 (([c0,c1,c2,c3,c4,c5].drop 3).take (Tryz.prog.cellsOf 9))=xs[3]? :=hf 3 _ rfl;have f4:DataW.trod enc Tryz.prog w 0 sp held m 37 (([c0,c1,c2,c3,c4,c5].drop 4).take (Tryz.prog.cellsOf 37))=xs[4]? :=hf 4 _ rfl;have f5:DataW.trod enc Tryz.prog w 0 sp held m 38 (([c0,c1,c2,c3,c4,c5].drop 5).take (Tryz.prog.cellsOf 38))=xs[5]? :=hf 5 _ rfl;simp only[Zv,Zu,Acl,G8,Aek,Aej,List.drop_zero,List.drop_succ_cons,List.take_succ_cons,List.take_zero]at f0 f1 f2 f3 f4 f5
  match xs,hlen with
  | [y0,y1,y2,y3,y4,y5],_=>
    simp only[List.getElem?_cons_zero,List.getElem?_cons_succ]at f0 f1 f2 f3 f4 f5;obtain⟨k,e0,rfl,_⟩:=DataW.trod_int Tryz.underlying36 f0;obtain⟨b,e1,rfl⟩:=DataW.trod_bool Tryz.underlying4 f1;obtain⟨i,e2,rfl,hwf⟩:=DataW.trod_int Tryz.underlying2 f2;obtain⟨t,e3,rfl,_⟩:=DataW.trod_string Tryz.underlying9 f3;simp only[List.cons.injEq,and_true]at e0 e1 e2 e3;subst e0 e1 e2 e3;have hin: -9223372036854775808<=i/\i<=9223372036854775807:=by
     have h1:IntKind.i64.min= -9223372036854775808:=by decide
     have h2:IntKind.i64.max=9223372036854775807:=by decide
     simp only[Lit.wf,h1,h2,Bool.and_eq_true,decide_eq_true_eq]at hwf;exact hwf
    have hts:t.data.toList.length=t.size:=(by rw[Array.length_toList];rfl);have hL:=So (fun q hq=>IH q (by omega)) f4;have hO:=Sp (fun q hq=>IH q (by omega)) f5;obtain⟨l,la,lc,rfl,l1,l2,l3⟩:=hL;obtain⟨o,oa,oc,rfl,o1,o2,o3⟩:=hO;refine⟨.mk k b i t l o, ?_, ?_, ?_⟩
    . simp only[Ab];exact⟨la,lc,oa,oc,rfl,l1,o1⟩
    . simp only[M4];exact⟨hin,l2,o2⟩
    . simp only[Val.bulk,List.map_cons,List.map_nil,Rows.uptoBulkAll,Rows.uptoBulk];omega
end
theorem Afk:laidOutB Tryz.prog=true:=by kernel_rfl
theorem Mh {H:Type} {enc:TypeId×Value->H} {W W':World} {t:TypeId} {v:Value} {d:DataW H} {ps:List MemPlace} {sp':Nat->Bool} (hr:Tryz.prog.readableRec t=true) (ht:t<Tryz.prog.types.size)
 (h:DataW.Trod enc Tryz.prog W 0 (fun _=>true) true t v d ps) (hlt: ∀p ∈ ps,p.block<W.heap.size) (hb:Below W.heap.size W W') (hs: ∀p ∈ ps,sp' p.block=true):DataW.Trod enc Tryz.prog W' 0 sp' true t v d ps:=by
 refine Go.WideElems.Trod_stays Afk hr ht h (fun p hp=> ?_) hs;have hl:=hlt p hp
 cases p with
 |cell b off=>exact World.cell?_of_block (w:=W) (w':=W') (a:=⟨b,off,none⟩) (hb.block b hl)
 |map b=>exact hb.block b hl
theorem Aei:Tryz.prog.cellsOf 42=8:=by kernel_rfl
theorem Ael:Tryz.prog.cellsOf 35=1:=by kernel_rfl
theorem Xe {α:Type} {cs:List α} (h:cs.length=8): ∃c0 c1 c2 c3 c4 c5 c6 c7,cs= [c0,c1,c2,c3,c4,c5,c6,c7]:=by
 match cs,h with
 | [c0,c1,c2,c3,c4,c5,c6,c7],_=>exact⟨_,_,_,_,_,_,_,_,rfl⟩
section
variable {H:Type} {enc:TypeId×Value->H} {w:World} {sp:Nat->Bool} {held:Bool}
theorem Yg {n:Nat}: ∀(elems:List (DataW H×List MemPlace)) (g off:Nat),
 (∀i,i<elems.length->(w.cells? 0 ⟨g,off+i*8,none⟩ 8).bind (DataW.trod enc Tryz.prog w 0 sp held n 42)=elems[i]?)->
 ∃l:List POp,l.length=elems.length/\(∃ns,Af w w.heap.size (Ex l) ns/\ ∀j u,ns[j]? =some u->w.cell? ⟨g,off+j,none⟩=some u)/\inQ l/\Bo l<=Rows.uptoBulkAll (elems.map (·.1))
 | [],_,_,_=>⟨[],rfl,⟨[],rfl,fun j u h=>by simp at h⟩,fun p hp=>(by cases hp),by simp[Bo]⟩
 |y::r,g,off,h=>by
  obtain⟨l,h1,⟨ns,h2,h2'⟩,h3,h4⟩:=Yg r g (off+8) (fun i hi=>by
   have:=h (i+1) (by simpa using hi);rw[show off+(i+1)*8=off+8+i*8 from by omega]at this;simpa using this)
  have h0:=h 0 (by simp);simp only[Nat.zero_mul,Nat.add_zero,List.getElem?_cons_zero]at h0;obtain⟨cs,hcs,hx⟩:=Option.bind_eq_some_iff.1 h0;obtain⟨_,hc⟩:=Nq (by omega) hcs;obtain⟨xs,m,rfl,rfl,hl,hlen,hf⟩:=DataW.trod_struct Tryz.underlying42 hx;have hl8:cs.length=8:=hl.trans Aei;obtain⟨c0,c1,c2,c3,c4,c5,c6,c7,rfl⟩:=Xe hl8;have f0:DataW.trod enc Tryz.prog w 0 sp held m 35 (([c0,c1,c2,c3,c4,c5,c6,c7].drop 0).take (Tryz.prog.cellsOf 35))=xs[0]? :=hf 0 _ rfl;have f1:DataW.trod enc Tryz.prog w 0 sp held m 9 (([c0,c1,c2,c3,c4,c5,c6,c7].drop 1).take (Tryz.prog.cellsOf 9))=xs[1]? :=hf 1 _ rfl;have f2:DataW.trod enc Tryz.prog w 0 sp held m 40 (([c0,c1,c2,c3,c4,c5,c6,c7].drop 2).take (Tryz.prog.cellsOf 40))=xs[2]? :=hf 2 _ rfl;simp only[Ael,G8,Qq,List.drop_zero,List.drop_succ_cons,List.take_succ_cons,List.take_zero]at f0 f1 f2
  match xs,hlen with
  | [y0,y1,y2],_=>
    simp only[List.getElem?_cons_zero,List.getElem?_cons_succ]at f0 f1 f2;obtain⟨k,hk0,rfl,_⟩:=DataW.trod_int Tryz.underlying35 f0;obtain⟨key,hk,rfl,_⟩:=DataW.trod_string Tryz.underlying9 f1;obtain⟨v,v1,v2,v3⟩:=Ru m _ _ f2;simp only[List.cons.injEq,and_true]at hk hk0;subst hk hk0;refine⟨⟨k,key,v⟩::l,by simp[h1],⟨.int .i64 k:: .string key::([c2,c3,c4,c5,c6,c7]++ns),⟨.int .i64 k:: .string key:: [c2,c3,c4,c5,c6,c7],ns,rfl,⟨[.int .i64 k],.string key:: [c2,c3,c4,c5,c6,c7],rfl,⟨rfl,rfl⟩, [.string key], [c2,c3,c4,c5,c6,c7],rfl,⟨rfl,rfl⟩, [c2,c3,c4,c5,c6,c7], [],by simp,D6 _ _ v1,rfl⟩,h2⟩,fun j u hu=> ?_⟩, ?_, ?_⟩
    . by_cases hj:j<8
      . refine hc j u ?_;rw[show Value.int .i64 k:: .string key::([c2,c3,c4,c5,c6,c7]++ns)= [Value.int .i64 k,.string key,c2,c3,c4,c5,c6,c7]++ns from rfl,List.getElem?_append_left (by simpa using hj)]at hu;exact hu
      . rw[show Value.int .i64 k:: .string key::([c2,c3,c4,c5,c6,c7]++ns)= [Value.int .i64 k,.string key,c2,c3,c4,c5,c6,c7]++ns from rfl,List.getElem?_append_right (by simpa using hj)]at hu;have:=h2' (j - 8) u hu
        rwa [show off+8+(j - 8)=off+j from by omega]at this
    . intro p hp;rcases List.mem_cons.1 hp with rfl|hp
      . exact v2
      . exact h3 p hp
    . have hks:key.data.toList.length=key.size:=(by rw[Array.length_toList];rfl);simp only[Bo,List.map_cons,List.map_nil,Rows.uptoBulkAll,Rows.uptoBulk];omega
theorem Vd {n:Nat} {c4:Value} {y4:DataW H×List MemPlace} (f4:DataW.trod enc Tryz.prog w 0 sp held n 23 [c4]=some y4):
 ∃(l:List POp) (la:Option Addr) (ln lc:Nat),c4=.slice la ln lc/\Ae w w.heap.size (.row 8 (Ex l)) [.slice la ln lc]/\inQ l/\1+Bo l<=Rows.uptoBulk y4.1:=by
 rcases DataW.trod_slice Tryz.underlying23 f4 with⟨e,rfl⟩|⟨a,len,cap,elems,rest,q,hn,e,rfl,_,_,_,hlen',hel,_,_⟩
 . simp only[List.cons.injEq,and_true]at e;exact⟨[],none,0,0,e,⟨none,0,rfl,Ot _, [],rfl,.inl rfl⟩,fun p hp=>(by cases hp),by simp[Bo,Rows.uptoBulk]⟩
 . simp only[List.cons.injEq,and_true]at e;subst e;by_cases h0:len=0
   . subst h0;exact⟨[],some a,0,cap,rfl,⟨some a,cap,rfl,Ot _, [],rfl,.inl rfl⟩,fun p hp=>(by cases hp),by simp[Bo,Rows.uptoBulk]⟩
   . obtain⟨g,off,spot⟩:=a;rw[Aei]at hel;have hz:=hel 0 (by omega);rw[List.getElem?_eq_getElem (by omega)]at hz;obtain⟨cs',hcs',_⟩:=Option.bind_eq_some_iff.1 hz;obtain⟨_,hcl,hcc⟩:=World.cells?_some hcs';have hz0:=hcc 0 (by omega);rw[List.getElem?_eq_getElem (by omega)]at hz0;have hspot:spot=none:=by simpa[Addr.add]using World.cell?_spot hz0
     subst hspot;simp only[add_plain]at hel hz0;obtain⟨l,h1,⟨ns,h2,h2'⟩,h3,h4⟩:=Yg elems g off (fun i hi=>hel i (by omega));refine⟨l,_,len,cap,rfl,⟨_,cap,by rw[Ee,h1,hlen'],Ot _,ns,h2,.inr ⟨g,off,rfl,World.block_lt_of_cell? _ _ hz0,h2'⟩⟩,h3, ?_⟩;simp only[Rows.uptoBulk];omega
theorem N6 {base:Nat} {v0:Value} {d:DataW H} {ps:List MemPlace} (hv:Value.okWide Tryz.prog w .any base 23 v0) (h:DataW.Trod enc Tryz.prog w 0 sp held 23 v0 d ps):
 ∃(l:List POp) (la:Option Addr) (ln lc:Nat),v0=.slice la ln lc/\Ae w w.heap.size (.row 8 (Ex l)) [.slice la ln lc]/\inQ l/\1+Bo l<=Rows.uptoBulk d:=by
 obtain⟨a,len,cap,rfl⟩:=okWide_slice Tryz.underlying23 hv;obtain⟨fuel,hf⟩:=h;exact Vd hf
end
theorem Aeg:Tryz.prog.cellsOf 71=7:=by kernel_rfl
section
variable {H:Type} {enc:TypeId×Value->H} {w:World} {sp:Nat->Bool} {held:Bool}
theorem Tw {n:Nat}: ∀(elems:List (DataW H×List MemPlace)) (g off:Nat),
 (∀i,i<elems.length->(w.cells? 0 ⟨g,off+i*7,none⟩ 7).bind (DataW.trod enc Tryz.prog w 0 sp held n 71)=elems[i]?)->
 ∃l:List (ByteArray×Val),l.length=elems.length/\(∃ns,Af w w.heap.size (dO l) ns/\ ∀j u,ns[j]? =some u->w.cell? ⟨g,off+j,none⟩=some u)/\J2 l/\Ac l<=Rows.uptoBulkAll (elems.map (·.1))
 | [],_,_,_=>⟨[],rfl,⟨[],rfl,fun j u h=>by simp at h⟩,by simp[J2],by simp[Ac]⟩
 |y::r,g,off,h=>by
  obtain⟨l,h1,⟨ns,h2,h2'⟩,h3,h4⟩:=Tw r g (off+7) (fun i hi=>by
   have:=h (i+1) (by simpa using hi);rw[show off+(i+1)*7=off+7+i*7 from by omega]at this;simpa using this)
  have h0:=h 0 (by simp);simp only[Nat.zero_mul,Nat.add_zero,List.getElem?_cons_zero]at h0;obtain⟨cs,hcs,hx⟩:=Option.bind_eq_some_iff.1 h0;obtain⟨_,hc⟩:=Nq (by omega) hcs;obtain⟨xs,m,rfl,rfl,hl,hlen,hf⟩:=DataW.trod_struct Tryz.underlying71 hx;have hl7:cs.length=7:=hl.trans Aeg;obtain⟨c0,c1,c2,c3,c4,c5,c6,rfl⟩:=Ps hl7;have f0:DataW.trod enc Tryz.prog w 0 sp held m 9 (([c0,c1,c2,c3,c4,c5,c6].drop 0).take (Tryz.prog.cellsOf 9))=xs[0]? :=hf 0 _ rfl;have f1:DataW.trod enc Tryz.prog w 0 sp held m 40 (([c0,c1,c2,c3,c4,c5,c6].drop 1).take (Tryz.prog.cellsOf 40))=xs[1]? :=hf 1 _ rfl;simp only[G8,Qq,List.drop_zero,List.drop_succ_cons,List.take_succ_cons,List.take_zero]at f0 f1
  match xs,hlen with
  | [y0,y1],_=>
    simp only[List.getElem?_cons_zero,List.getElem?_cons_succ]at f0 f1;obtain⟨key,hk,rfl,_⟩:=DataW.trod_string Tryz.underlying9 f0;obtain⟨v,v1,v2,v3⟩:=Ru m _ _ f1;simp only[List.cons.injEq,and_true]at hk;subst hk;refine⟨(key,v)::l,by simp[h1],⟨.string key::([c1,c2,c3,c4,c5,c6]++ns),⟨.string key:: [c1,c2,c3,c4,c5,c6],ns,rfl,⟨[.string key], [c1,c2,c3,c4,c5,c6],rfl,⟨rfl,rfl⟩, [c1,c2,c3,c4,c5,c6], [],by simp,D6 _ _ v1,rfl⟩,h2⟩,fun j u hu=> ?_⟩, ?_, ?_⟩
    . by_cases hj:j<7
      . refine hc j u ?_;rw[show Value.string key::([c1,c2,c3,c4,c5,c6]++ns)= [Value.string key,c1,c2,c3,c4,c5,c6]++ns from rfl,List.getElem?_append_left (by simpa using hj)]at hu;exact hu
      . rw[show Value.string key::([c1,c2,c3,c4,c5,c6]++ns)= [Value.string key,c1,c2,c3,c4,c5,c6]++ns from rfl,List.getElem?_append_right (by simpa using hj)]at hu;have:=h2' (j - 7) u hu
        rwa [show off+7+(j - 7)=off+j from by omega]at this
    . simp only[J2,inP];exact⟨v2,h3⟩
    . have hks:key.data.toList.length=key.size:=(by rw[Array.length_toList];rfl);simp only[Ac,Dg,List.map_cons,List.map_nil,Rows.uptoBulkAll,Rows.uptoBulk];omega
theorem Vc {n:Nat} {c4:Value} {y4:DataW H×List MemPlace} (f4:DataW.trod enc Tryz.prog w 0 sp held n 22 [c4]=some y4):
 ∃(l:List (ByteArray×Val)) (la:Option Addr) (ln lc:Nat),c4=.slice la ln lc/\Ae w w.heap.size (.row 7 (dO l)) [.slice la ln lc]/\J2 l/\1+Ac l<=Rows.uptoBulk y4.1:=by
 rcases DataW.trod_slice Tryz.underlying22 f4 with⟨e,rfl⟩|⟨a,len,cap,elems,rest,q,hn,e,rfl,_,_,_,hlen',hel,_,_⟩
 . simp only[List.cons.injEq,and_true]at e;exact⟨[],none,0,0,e,⟨none,0,rfl,Dh _, [],rfl,.inl rfl⟩,by simp[J2],by simp[Ac,Rows.uptoBulk]⟩
 . simp only[List.cons.injEq,and_true]at e;subst e;by_cases h0:len=0
   . subst h0;exact⟨[],some a,0,cap,rfl,⟨some a,cap,rfl,Dh _, [],rfl,.inl rfl⟩,by simp[J2],by simp[Ac,Rows.uptoBulk]⟩
   . obtain⟨g,off,spot⟩:=a;rw[Aeg]at hel;have hz:=hel 0 (by omega);rw[List.getElem?_eq_getElem (by omega)]at hz;obtain⟨cs',hcs',_⟩:=Option.bind_eq_some_iff.1 hz;obtain⟨_,hcl,hcc⟩:=World.cells?_some hcs';have hz0:=hcc 0 (by omega);rw[List.getElem?_eq_getElem (by omega)]at hz0;have hspot:spot=none:=by simpa[Addr.add]using World.cell?_spot hz0
     subst hspot;simp only[add_plain]at hel hz0;obtain⟨l,h1,⟨ns,h2,h2'⟩,h3,h4⟩:=Tw elems g off (fun i hi=>hel i (by omega));refine⟨l,_,len,cap,rfl,⟨_,cap,by rw[At,h1,hlen'],Dh _,ns,h2,.inr ⟨g,off,rfl,World.block_lt_of_cell? _ _ hz0,h2'⟩⟩,h3, ?_⟩;simp only[Rows.uptoBulk];omega
theorem C7 {base:Nat} {v0:Value} {d:DataW H} {ps:List MemPlace} (hv:Value.okWide Tryz.prog w .any base 22 v0) (h:DataW.Trod enc Tryz.prog w 0 sp held 22 v0 d ps):
 ∃(l:List (ByteArray×Val)) (la:Option Addr) (ln lc:Nat),v0=.slice la ln lc/\Ae w w.heap.size (.row 7 (dO l)) [.slice la ln lc]/\J2 l/\1+Ac l<=Rows.uptoBulk d:=by
 obtain⟨a,len,cap,rfl⟩:=okWide_slice Tryz.underlying22 hv;obtain⟨fuel,hf⟩:=h;exact Vc hf
end
end Go.Proofs.YtnkmhaachfgaoaaGreatDoor
