/- Parts, joined: An argument that reads as a value of package api: the tree that it is. No condition. Arguments that read as a mutator. No condition. -/
import Derived.Test.YtkkbplakgldlpaaGreatDoorProg
import Derived.Test.YtkkbplakgldlpaaGreatDoorRows
import Derived.Deep.Slices
import Derived.WideKeyArgs
import Derived.Lib.SmallJoins
import Derived.Test.YtkkbplakgldlpaaGreatDoorKMu2
import Derived.Test.YtkkbplakgldlpaaGreatDoorKMu22
namespace Go.Proofs.YtkkbplakgldlpaaGreatDoor
open Go.RowKit Go.ChangeShapes Go.WideShapes
theorem cellsV:Tryz.prog.cellsOf 27=6:=by kernel_rfl
theorem cellsM:Tryz.prog.cellsOf 63=7:=by kernel_rfl
theorem cells_string:Tryz.prog.cellsOf 9=1:=by kernel_rfl
theorem cells_kind:Tryz.prog.cellsOf 23=1:=by kernel_rfl
theorem cells_bool:Tryz.prog.cellsOf 4=1:=by kernel_rfl
theorem cells_i64:Tryz.prog.cellsOf 2=1:=by kernel_rfl
theorem cells_lv:Tryz.prog.cellsOf 24=1:=by kernel_rfl
theorem cells_lm:Tryz.prog.cellsOf 25=1:=by kernel_rfl
section
variable {H:Type} {enc:TypeId×Value→H} {w:World} {sp:Nat→Bool} {held:Bool}
def OpnV (enc:TypeId×Value→H) (w:World) (sp:Nat→Bool) (held:Bool) (n:Nat):Prop:= ∀(cs:List Value) (x:DataW H×List MemPlace),DataW.trod enc Tryz.prog w 0 sp held n 27 cs=some x→
    ∃v,HoldsV w w.heap.size v cs∧inV v∧v.bulk≤Rows.uptoBulk x.1
theorem six_cells {cs:List Value} (h:cs.length=6): ∃c0 c1 c2 c3 c4 c5,cs= [c0,c1,c2,c3,c4,c5]:=by
 match cs,h with
 | [c0,c1,c2,c3,c4,c5],_=>exact⟨_,_,_,_,_,_,rfl⟩
theorem seven_cells {α:Type} {cs:List α} (h:cs.length=7): ∃c0 c1 c2 c3 c4 c5 c6,cs= [c0,c1,c2,c3,c4,c5,c6]:=by
 match cs,h with
 | [c0,c1,c2,c3,c4,c5,c6],_=>exact⟨_,_,_,_,_,_,_,rfl⟩
theorem cells_at {g off n:Nat} {cs:List Value} (hn:0<n) (h:w.cells? 0 ⟨g,off,none⟩ n=some cs):g<w.heap.size∧ ∀j u,cs[j]? =some u→w.cell? ⟨g,off+j,none⟩=some u:=by
 obtain⟨_,hlen,hc⟩:=World.cells?_some h
 have hj: ∀j u,cs[j]? =some u→w.cell? ⟨g,off+j,none⟩=some u:=by
  intro j u hu
  have hjn:j<n:=by
   have:=(List.getElem?_eq_some_iff.1 hu).1
   omega
  have:=hc j hjn
  rw[add_plain]at this
  rw[←hu]
  exact this
 refine⟨?_,hj⟩
 have h0: ∃u,cs[0]? =some u:=⟨cs[0]'(by omega),List.getElem?_eq_getElem (by omega)⟩
 obtain⟨u,hu⟩:=h0
 exact World.block_lt_of_cell? _ _ (hj 0 u hu)
theorem open_elems {n:Nat} (IH:OpnV enc w sp held n): ∀(elems:List (DataW H×List MemPlace)) (g off:Nat),
 (∀i,i<elems.length→(w.cells? 0 ⟨g,off+i*6,none⟩ 6).bind (DataW.trod enc Tryz.prog w 0 sp held n 27)=elems[i]?)→
 ∃l,l.length=elems.length∧HoldsL w w.heap.size l g off∧inL l∧bulkL l≤Rows.uptoBulkAll (elems.map (·.1))
 | [],_,_,_=>⟨[],rfl,by simp[HoldsL],by simp[inL],by simp[bulkL]⟩
 |y::r,g,off,h=>by
  obtain⟨l,h1,h2,h3,h4⟩:=open_elems IH r g (off+6) (fun i hi=>by
   have:=h (i+1) (by simpa using hi)
   rw[show off+(i+1)*6=off+6+i*6 from by omega]at this
   simpa using this)
  have h0:=h 0 (by simp)
  simp only[Nat.zero_mul,Nat.add_zero,List.getElem?_cons_zero]at h0
  obtain⟨cs,hcs,hx⟩:=Option.bind_eq_some_iff.1 h0
  obtain⟨v,v1,v2,v3⟩:=IH cs y hx
  obtain⟨_,hc⟩:=cells_at (by omega) hcs
  refine⟨v::l,by simp[h1], ?_, ?_, ?_⟩
  · simp only[HoldsL]
    exact⟨⟨cs,v1,hc⟩,h2⟩
  · simp only[inL]
    exact⟨v2,h3⟩
  · simp only[bulkL,List.map_cons,Rows.uptoBulkAll]
    omega
theorem open_members {n:Nat} (IH: ∀m,m<n→OpnV enc w sp held m): ∀(elems:List (DataW H×List MemPlace)) (g off:Nat),
 (∀i,i<elems.length→(w.cells? 0 ⟨g,off+i*7,none⟩ 7).bind (DataW.trod enc Tryz.prog w 0 sp held n 63)=elems[i]?)→
 ∃l,l.length=elems.length∧HoldsO w w.heap.size l g off∧inO l∧bulkO l≤Rows.uptoBulkAll (elems.map (·.1))
 | [],_,_,_=>⟨[],rfl,by simp[HoldsO],by simp[inO],by simp[bulkO]⟩
 |y::r,g,off,h=>by
  obtain⟨l,h1,h2,h3,h4⟩:=open_members IH r g (off+7) (fun i hi=>by
   have:=h (i+1) (by simpa using hi)
   rw[show off+(i+1)*7=off+7+i*7 from by omega]at this
   simpa using this)
  have h0:=h 0 (by simp)
  simp only[Nat.zero_mul,Nat.add_zero,List.getElem?_cons_zero]at h0
  obtain⟨cs,hcs,hx⟩:=Option.bind_eq_some_iff.1 h0
  obtain⟨_,hc⟩:=cells_at (by omega) hcs
  obtain⟨xs,m,rfl,rfl,hl,hlen,hf⟩:=DataW.trod_struct Tryz.underlying63 hx
  have hl7:cs.length=7:=hl.trans cellsM
  obtain⟨c0,c1,c2,c3,c4,c5,c6,rfl⟩:=seven_cells hl7
  have f0:DataW.trod enc Tryz.prog w 0 sp held m 9 (([c0,c1,c2,c3,c4,c5,c6].drop 0).take (Tryz.prog.cellsOf 9))=xs[0]? :=hf 0 _ rfl
  have f1:DataW.trod enc Tryz.prog w 0 sp held m 27 (([c0,c1,c2,c3,c4,c5,c6].drop 1).take (Tryz.prog.cellsOf 27))=xs[1]? :=hf 1 _ rfl
  simp only[cells_string,cellsV,List.drop_zero,List.drop_succ_cons,List.take_succ_cons,List.take_zero]at f0 f1
  match xs,hlen with
  | [y0,y1],_=>
    simp only[List.getElem?_cons_zero,List.getElem?_cons_succ]at f0 f1
    obtain⟨key,hk,rfl,_⟩:=DataW.trod_string Tryz.underlying9 f0
    obtain⟨v,v1,v2,v3⟩:=IH m (by omega) _ _ f1
    simp only[List.cons.injEq,and_true]at hk
    subst hk
    refine⟨(key,v)::l,by simp[h1], ?_, ?_, ?_⟩
    · simp only[HoldsO,HoldsP]
      refine⟨⟨hc 0 _ rfl,_,v1,fun j u hu=> ?_⟩,h2⟩
      rw[Nat.add_assoc,Nat.add_comm 1 j]
      exact hc (j+1) u hu
    · simp only[inO,inP]
      exact⟨v2,h3⟩
    · have hks:key.data.toList.length=key.size:=(by rw[Array.length_toList];rfl)
      simp only[bulkO,bulkP,List.map_cons,List.map_nil,Rows.uptoBulkAll,Rows.uptoBulk]
      omega
theorem open_listcell {n:Nat} {c4:Value} {y4:DataW H×List MemPlace} (IH: ∀m,m<n→OpnV enc w sp held m) (f4:DataW.trod enc Tryz.prog w 0 sp held n 24 [c4]=some y4):
 ∃l la lc,c4=.slice la (l:List Val).length lc∧(l= []∨ ∃g off,la=some ⟨g,off,none⟩∧g<w.heap.size∧HoldsL w w.heap.size l g off)∧inL l∧1+bulkL l≤Rows.uptoBulk y4.1:=by
 rcases DataW.trod_slice Tryz.underlying24 f4 with⟨e,rfl⟩|⟨a,len,cap,elems,rest,q,hn,e,rfl,_,_,_,hlen',hel,_,_⟩
 · simp only[List.cons.injEq,and_true]at e
   exact⟨[],none,0,e,.inl rfl,by simp[inL],by simp[bulkL,Rows.uptoBulk]⟩
 · simp only[List.cons.injEq,and_true]at e
   subst e
   by_cases h0:len=0
   · subst h0
     exact⟨[],some a,cap,rfl,.inl rfl,by simp[inL],by simp[bulkL,Rows.uptoBulk]⟩
   · obtain⟨g,off,spot⟩:=a
     rw[cellsV]at hel
     have hz:=hel 0 (by omega)
     rw[List.getElem?_eq_getElem (by omega)]at hz
     obtain⟨cs',hcs',_⟩:=Option.bind_eq_some_iff.1 hz
     obtain⟨_,hcl,hcc⟩:=World.cells?_some hcs'
     have hz0:=hcc 0 (by omega)
     rw[List.getElem?_eq_getElem (by omega)]at hz0
     have hspot:spot=none:=by simpa[Addr.add]using World.cell?_spot hz0
     subst hspot
     simp only[add_plain]at hel hz0
     obtain⟨l,h1,h2,h3,h4⟩:=open_elems (IH q (by omega)) elems g off (fun i hi=>hel i (by omega))
     refine⟨l,_,cap,by rw[h1,hlen'],.inr ⟨g,off,rfl,World.block_lt_of_cell? _ _ hz0,h2⟩,h3, ?_⟩
     simp only[Rows.uptoBulk]
     omega
theorem open_membcell {n:Nat} {c5:Value} {y5:DataW H×List MemPlace} (IH: ∀m,m<n→OpnV enc w sp held m) (f5:DataW.trod enc Tryz.prog w 0 sp held n 25 [c5]=some y5):
 ∃l la lc,c5=.slice la (l:List (ByteArray×Val)).length lc∧(l= []∨ ∃g off,la=some ⟨g,off,none⟩∧g<w.heap.size∧HoldsO w w.heap.size l g off)∧inO l∧1+bulkO l≤Rows.uptoBulk y5.1:=by
 rcases DataW.trod_slice Tryz.underlying25 f5 with⟨e,rfl⟩|⟨a,len,cap,elems,rest,q,hn,e,rfl,_,_,_,hlen',hel,_,_⟩
 · simp only[List.cons.injEq,and_true]at e
   exact⟨[],none,0,e,.inl rfl,by simp[inO],by simp[bulkO,Rows.uptoBulk]⟩
 · simp only[List.cons.injEq,and_true]at e
   subst e
   by_cases h0:len=0
   · subst h0
     exact⟨[],some a,cap,rfl,.inl rfl,by simp[inO],by simp[bulkO,Rows.uptoBulk]⟩
   · obtain⟨g,off,spot⟩:=a
     rw[cellsM]at hel
     have hz:=hel 0 (by omega)
     rw[List.getElem?_eq_getElem (by omega)]at hz
     obtain⟨cs',hcs',_⟩:=Option.bind_eq_some_iff.1 hz
     obtain⟨_,hcl,hcc⟩:=World.cells?_some hcs'
     have hz0:=hcc 0 (by omega)
     rw[List.getElem?_eq_getElem (by omega)]at hz0
     have hspot:spot=none:=by simpa[Addr.add]using World.cell?_spot hz0
     subst hspot
     simp only[add_plain]at hel hz0
     obtain⟨l,h1,h2,h3,h4⟩:=open_members (n:=q) (fun m hm=>IH m (by omega)) elems g off (fun i hi=>hel i (by omega))
     refine⟨l,_,cap,by rw[h1,hlen'],.inr ⟨g,off,rfl,World.block_lt_of_cell? _ _ hz0,h2⟩,h3, ?_⟩
     simp only[Rows.uptoBulk]
     omega
theorem open_value: ∀n,OpnV enc w sp held n:=by
 intro n
 induction n using Nat.strongRecOn with
 |_ n IH=>
  intro cs x hx
  obtain⟨xs,m,rfl,rfl,hl,hlen,hf⟩:=DataW.trod_struct Tryz.underlying27 hx
  have hl6:cs.length=6:=hl.trans cellsV
  obtain⟨c0,c1,c2,c3,c4,c5,rfl⟩:=six_cells hl6
  have f0:DataW.trod enc Tryz.prog w 0 sp held m 23 (([c0,c1,c2,c3,c4,c5].drop 0).take (Tryz.prog.cellsOf 23))=xs[0]? :=hf 0 _ rfl
  have f1:DataW.trod enc Tryz.prog w 0 sp held m 4 (([c0,c1,c2,c3,c4,c5].drop 1).take (Tryz.prog.cellsOf 4))=xs[1]? :=hf 1 _ rfl
  have f2:DataW.trod enc Tryz.prog w 0 sp held m 2 (([c0,c1,c2,c3,c4,c5].drop 2).take (Tryz.prog.cellsOf 2))=xs[2]? :=hf 2 _ rfl
  have f3:DataW.trod enc Tryz.prog w 0 sp held m 9 (([c0,c1,c2,c3,c4,c5].drop 3).take (Tryz.prog.cellsOf 9))=xs[3]? :=hf 3 _ rfl
  have f4:DataW.trod enc Tryz.prog w 0 sp held m 24 (([c0,c1,c2,c3,c4,c5].drop 4).take (Tryz.prog.cellsOf 24))=xs[4]? :=hf 4 _ rfl
  have f5:DataW.trod enc Tryz.prog w 0 sp held m 25 (([c0,c1,c2,c3,c4,c5].drop 5).take (Tryz.prog.cellsOf 25))=xs[5]? :=hf 5 _ rfl
  simp only[cells_kind,cells_bool,cells_i64,cells_string,cells_lv,cells_lm,List.drop_zero,List.drop_succ_cons,List.take_succ_cons,List.take_zero]at f0 f1 f2 f3 f4 f5
  match xs,hlen with
  | [y0,y1,y2,y3,y4,y5],_=>
    simp only[List.getElem?_cons_zero,List.getElem?_cons_succ]at f0 f1 f2 f3 f4 f5
    obtain⟨k,e0,rfl,_⟩:=DataW.trod_int Tryz.underlying23 f0
    obtain⟨b,e1,rfl⟩:=DataW.trod_bool Tryz.underlying4 f1
    obtain⟨i,e2,rfl,hwf⟩:=DataW.trod_int Tryz.underlying2 f2
    obtain⟨t,e3,rfl,_⟩:=DataW.trod_string Tryz.underlying9 f3
    simp only[List.cons.injEq,and_true]at e0 e1 e2 e3
    subst e0 e1 e2 e3
    have hin: -9223372036854775808≤i∧i≤9223372036854775807:=by
     have h1:IntKind.i64.min= -9223372036854775808:=by decide
     have h2:IntKind.i64.max=9223372036854775807:=by decide
     simp only[Lit.wf,h1,h2,Bool.and_eq_true,decide_eq_true_eq]at hwf
     exact hwf
    have hts:t.data.toList.length=t.size:=(by rw[Array.length_toList];rfl)
    have hL:=open_listcell (fun q hq=>IH q (by omega)) f4
    have hO:=open_membcell (fun q hq=>IH q (by omega)) f5
    obtain⟨l,la,lc,rfl,l1,l2,l3⟩:=hL
    obtain⟨o,oa,oc,rfl,o1,o2,o3⟩:=hO
    refine⟨.mk k b i t l o, ?_, ?_, ?_⟩
    · simp only[HoldsV]
      exact⟨la,lc,oa,oc,rfl,l1,o1⟩
    · simp only[inV]
      exact⟨hin,l2,o2⟩
    · simp only[Val.bulk,List.map_cons,List.map_nil,Rows.uptoBulkAll,Rows.uptoBulk]
      omega
end
theorem laid_out:laidOutB Tryz.prog=true:=by kernel_rfl
theorem stays {H:Type} {enc:TypeId×Value→H} {W W':World} {t:TypeId} {v:Value} {d:DataW H} {ps:List MemPlace} {sp':Nat→Bool} (hr:Tryz.prog.readableRec t=true) (ht:t<Tryz.prog.types.size)
 (h:DataW.Trod enc Tryz.prog W 0 (fun _=>true) true t v d ps) (hlt: ∀p ∈ ps,p.block<W.heap.size) (hb:Below W.heap.size W W') (hs: ∀p ∈ ps,sp' p.block=true):DataW.Trod enc Tryz.prog W' 0 sp' true t v d ps:=by
 refine Go.WideElems.Trod_stays laid_out hr ht h (fun p hp=> ?_) hs
 have hl:=hlt p hp
 cases p with
 |cell b off=>exact World.cell?_of_block (w:=W) (w':=W') (a:=⟨b,off,none⟩) (hb.block b hl)
 |map b=>exact hb.block b hl
end Go.Proofs.YtkkbplakgldlpaaGreatDoor

namespace Go.Proofs.YtkkbplakgldlpaaGreatDoor
open Go.RowKit Go.ChangeShapes Go.WideShapes
theorem cells_mut:Tryz.prog.cellsOf 30=19:=by kernel_rfl
theorem cells_mk:Tryz.prog.cellsOf 22=1:=by kernel_rfl
theorem cells_lmut:Tryz.prog.cellsOf 28=1:=by kernel_rfl
theorem cells19 {α:Type} {cs:List α} (h:cs.length=19): ∃c0 c1 c2 c3 c4 c5 c6 c7 c8 c9 c10 c11 c12 c13 c14 c15 c16 c17 c18,cs= [c0,c1,c2,c3,c4,c5,c6,c7,c8,c9,c10,c11,c12,c13,c14,c15,c16,c17,c18]:=by
 match cs,h with
 | [c0,c1,c2,c3,c4,c5,c6,c7,c8,c9,c10,c11,c12,c13,c14,c15,c16,c17,c18],_=>exact⟨_,_,_,_,_,_,_,_,_,_,_,_,_,_,_,_,_,_,_,rfl⟩
theorem i64_in' {i:Int} (hwf:(Lit.int .i64 i).wf=true): -9223372036854775808≤i∧i≤9223372036854775807:=by
 have h1:IntKind.i64.min= -9223372036854775808:=by decide
 have h2:IntKind.i64.max=9223372036854775807:=by decide
 simp only[Lit.wf,h1,h2,Bool.and_eq_true,decide_eq_true_eq]at hwf
 exact hwf
section
variable {H:Type} {enc:TypeId×Value→H} {w:World} {sp:Nat→Bool} {held:Bool}
def ReadsM (enc:TypeId×Value→H) (w:World) (sp:Nat→Bool) (held:Bool) (n:Nat):Prop:= ∀(cs:List Value) (x:DataW H×List MemPlace),DataW.trod enc Tryz.prog w 0 sp held n 30 cs=some x→
    ∃m,Holds w w.heap.size (dM m) cs∧inM m∧bulkM m≤Rows.uptoBulk x.1
theorem holdsA_cons {s:Nat} {d:D} {ds:List D} {cs ns:List Value} {g off:Nat} (hd:Holds w w.heap.size d cs) (hs:cs.length=s) (hc: ∀j u,cs[j]? =some u→w.cell? ⟨g,off+j,none⟩=some u)
 (hr:HoldsA w w.heap.size ds ns) (hn: ∀j u,ns[j]? =some u→w.cell? ⟨g,off+s+j,none⟩=some u):
 ∃ms,HoldsA w w.heap.size (d::ds) ms∧ ∀j u,ms[j]? =some u→w.cell? ⟨g,off+j,none⟩=some u:=by
 refine⟨cs++ns,⟨cs,ns,rfl,hd,hr⟩,fun j u hu=> ?_⟩
 by_cases hj:j<s
 · rw[List.getElem?_append_left (by omega)]at hu
   exact hc j u hu
 · rw[List.getElem?_append_right (by omega)]at hu
   have:=hn (j - cs.length) u hu
   rwa [show off+s+(j - cs.length)=off+j from by omega]at this
theorem open_muts {n:Nat} (IH:ReadsM enc w sp held n): ∀(elems:List (DataW H×List MemPlace)) (g off:Nat),
 (∀i,i<elems.length→(w.cells? 0 ⟨g,off+i*19,none⟩ 19).bind (DataW.trod enc Tryz.prog w 0 sp held n 30)=elems[i]?)→
 ∃l:List Mut,l.length=elems.length∧(∃ns,HoldsA w w.heap.size (dMs l) ns∧ ∀j u,ns[j]? =some u→w.cell? ⟨g,off+j,none⟩=some u)∧inMs l∧bulkMs l≤Rows.uptoBulkAll (elems.map (·.1))
 | [],_,_,_=>⟨[],rfl,⟨[],rfl,fun j u h=>by simp at h⟩,trivial,by simp[bulkMs]⟩
 |y::r,g,off,h=>by
  obtain⟨l,h1,⟨ns,h2,h2'⟩,h3,h4⟩:=open_muts IH r g (off+19) (fun i hi=>by
   have:=h (i+1) (by simpa using hi)
   rw[show off+(i+1)*19=off+19+i*19 from by omega]at this
   simpa using this)
  have h0:=h 0 (by simp)
  simp only[Nat.zero_mul,Nat.add_zero,List.getElem?_cons_zero]at h0
  obtain⟨cs,hcs,hx⟩:=Option.bind_eq_some_iff.1 h0
  obtain⟨m,v1,v2,v3⟩:=IH cs y hx
  obtain⟨_,hc⟩:=cells_at (by omega) hcs
  refine⟨m::l,by simp[h1],holdsA_cons v1 (v1.len.1.trans (dM_cells m)) hc h2 h2',⟨v2,h3⟩, ?_⟩
  simp only[bulkMs,List.map_cons,Rows.uptoBulkAll]
  omega
theorem open_mutscell {n:Nat} {c4:Value} {y4:DataW H×List MemPlace} (IH: ∀m,m<n→ReadsM enc w sp held m) (f4:DataW.trod enc Tryz.prog w 0 sp held n 28 [c4]=some y4):
 ∃l:List Mut,Holds w w.heap.size (.row 19 (dMs l)) [c4]∧inMs l∧1+bulkMs l≤Rows.uptoBulk y4.1:=by
 rcases DataW.trod_slice Tryz.underlying28 f4 with⟨e,rfl⟩|⟨a,len,cap,elems,rest,q,hn,e,rfl,_,_,_,hlen',hel,_,_⟩
 · simp only[List.cons.injEq,and_true]at e
   exact⟨[],⟨none,0,by rw[e];rfl,dMs_cells _, [],rfl,.inl rfl⟩,trivial,by simp[bulkMs,Rows.uptoBulk]⟩
 · simp only[List.cons.injEq,and_true]at e
   subst e
   by_cases h0:len=0
   · subst h0
     exact⟨[],⟨some a,cap,rfl,dMs_cells _, [],rfl,.inl rfl⟩,trivial,by simp[bulkMs,Rows.uptoBulk]⟩
   · obtain⟨g,off,spot⟩:=a
     rw[cells_mut]at hel
     have hz:=hel 0 (by omega)
     rw[List.getElem?_eq_getElem (by omega)]at hz
     obtain⟨cs',hcs',_⟩:=Option.bind_eq_some_iff.1 hz
     obtain⟨_,hcl,hcc⟩:=World.cells?_some hcs'
     have hz0:=hcc 0 (by omega)
     rw[List.getElem?_eq_getElem (by omega)]at hz0
     have hspot:spot=none:=by simpa[Addr.add]using World.cell?_spot hz0
     subst hspot
     simp only[add_plain]at hel hz0
     obtain⟨l,h1,⟨ns,h2,h2'⟩,h3,h4⟩:=open_muts (IH q (by omega)) elems g off (fun i hi=>hel i (by omega))
     refine⟨l,⟨_,cap,by rw[dMs_len,h1,hlen'],dMs_cells _,ns,h2,.inr ⟨g,off,rfl,World.block_lt_of_cell? _ _ hz0,h2'⟩⟩,h3, ?_⟩
     simp only[Rows.uptoBulk]
     omega
set_option maxRecDepth 100000 in
theorem open_mut: ∀n,ReadsM enc w sp held n:=by
 intro n
 induction n using Nat.strongRecOn with
 |_ n IH=>
  intro cs x hx
  obtain⟨xs,m,rfl,rfl,hl,hlen,hf⟩:=DataW.trod_struct Tryz.underlying30 hx
  have hl6:cs.length=19:=hl.trans cells_mut
  obtain⟨c0,c1,c2,c3,c4,c5,c6,c7,c8,c9,c10,c11,c12,c13,c14,c15,c16,c17,c18,rfl⟩:=cells19 hl6
  have f0:DataW.trod enc Tryz.prog w 0 sp held m 22 (([c0,c1,c2,c3,c4,c5,c6,c7,c8,c9,c10,c11,c12,c13,c14,c15,c16,c17,c18].drop 0).take (Tryz.prog.cellsOf 22))=xs[0]? :=hf 0 _ rfl
  have f1:DataW.trod enc Tryz.prog w 0 sp held m 9 (([c0,c1,c2,c3,c4,c5,c6,c7,c8,c9,c10,c11,c12,c13,c14,c15,c16,c17,c18].drop 1).take (Tryz.prog.cellsOf 9))=xs[1]? :=hf 1 _ rfl
  have f2:DataW.trod enc Tryz.prog w 0 sp held m 9 (([c0,c1,c2,c3,c4,c5,c6,c7,c8,c9,c10,c11,c12,c13,c14,c15,c16,c17,c18].drop 2).take (Tryz.prog.cellsOf 9))=xs[2]? :=hf 2 _ rfl
  have f3:DataW.trod enc Tryz.prog w 0 sp held m 2 (([c0,c1,c2,c3,c4,c5,c6,c7,c8,c9,c10,c11,c12,c13,c14,c15,c16,c17,c18].drop 3).take (Tryz.prog.cellsOf 2))=xs[3]? :=hf 3 _ rfl
  have f4:DataW.trod enc Tryz.prog w 0 sp held m 4 (([c0,c1,c2,c3,c4,c5,c6,c7,c8,c9,c10,c11,c12,c13,c14,c15,c16,c17,c18].drop 4).take (Tryz.prog.cellsOf 4))=xs[4]? :=hf 4 _ rfl
  have f5:DataW.trod enc Tryz.prog w 0 sp held m 27 (([c0,c1,c2,c3,c4,c5,c6,c7,c8,c9,c10,c11,c12,c13,c14,c15,c16,c17,c18].drop 5).take (Tryz.prog.cellsOf 27))=xs[5]? :=hf 5 _ rfl
  have f6:DataW.trod enc Tryz.prog w 0 sp held m 4 (([c0,c1,c2,c3,c4,c5,c6,c7,c8,c9,c10,c11,c12,c13,c14,c15,c16,c17,c18].drop 11).take (Tryz.prog.cellsOf 4))=xs[6]? :=hf 6 _ rfl
  have f7:DataW.trod enc Tryz.prog w 0 sp held m 27 (([c0,c1,c2,c3,c4,c5,c6,c7,c8,c9,c10,c11,c12,c13,c14,c15,c16,c17,c18].drop 12).take (Tryz.prog.cellsOf 27))=xs[7]? :=hf 7 _ rfl
  have f8:DataW.trod enc Tryz.prog w 0 sp held m 28 (([c0,c1,c2,c3,c4,c5,c6,c7,c8,c9,c10,c11,c12,c13,c14,c15,c16,c17,c18].drop 18).take (Tryz.prog.cellsOf 28))=xs[8]? :=hf 8 _ rfl
  simp only[cells_mk,cells_bool,cells_i64,cells_string,cellsV,cells_lmut,List.drop_zero,List.drop_succ_cons,List.take_succ_cons,List.take_zero]at f0 f1 f2 f3 f4 f5 f6 f7 f8
  match xs,hlen with
  | [y0,y1,y2,y3,y4,y5,y6,y7,y8],_=>
    simp only[List.getElem?_cons_zero,List.getElem?_cons_succ]at f0 f1 f2 f3 f4 f5 f6 f7 f8
    obtain⟨k,e0,rfl,_⟩:=DataW.trod_int Tryz.underlying22 f0
    obtain⟨key,e1,rfl,_⟩:=DataW.trod_string Tryz.underlying9 f1
    obtain⟨dst,e2,rfl,_⟩:=DataW.trod_string Tryz.underlying9 f2
    obtain⟨i,e3,rfl,hwf⟩:=DataW.trod_int Tryz.underlying2 f3
    obtain⟨had,e4,rfl⟩:=DataW.trod_bool Tryz.underlying4 f4
    obtain⟨was,a1,a2,a3⟩:=open_value m _ _ f5
    obtain⟨has,e6,rfl⟩:=DataW.trod_bool Tryz.underlying4 f6
    obtain⟨v,b1,b2,b3⟩:=open_value m _ _ f7
    obtain⟨l,l1,l2,l3⟩:=open_mutscell (fun q hq=>IH q (by omega)) f8
    simp only[List.cons.injEq,and_true]at e0 e1 e2 e3 e4 e6
    subst e0 e1 e2 e3 e4 e6
    have hks:key.data.toList.length=key.size:=(by rw[Array.length_toList];rfl)
    have hds:dst.data.toList.length=dst.size:=(by rw[Array.length_toList];rfl)
    refine⟨.mk k key dst i had was has v l, ?_, ?_, ?_⟩
    · simp only[dM,Holds]
      exact⟨[.int .i64 k],_,rfl,⟨rfl,rfl⟩, [.string key],_,rfl,⟨rfl,rfl⟩, [.string dst],_,rfl,⟨rfl,rfl⟩, [.int .i64 i],_,rfl,⟨rfl,rfl⟩, [.bool had],_,rfl,⟨rfl,rfl⟩, [c5,c6,c7,c8,c9,c10],_,rfl,holds_of_V _ _ a1, [.bool has],_,rfl,⟨rfl,rfl⟩, [c12,c13,c14,c15,c16,c17],_,rfl,holds_of_V _ _ b1, [c18], [],rfl,l1,rfl⟩
    · simp only[inM]
      exact⟨i64_in' hwf,a2,b2,l2⟩
    · simp only[bulkM,List.map_cons,List.map_nil,Rows.uptoBulkAll,Rows.uptoBulk]
      omega
set_option maxRecDepth 100000 in
theorem open_arg_mut {base:Nat} {v0:Value} {d:DataW H} {ps:List MemPlace} (hv:Value.okWide Tryz.prog w .any base 30 v0) (h:DataW.Trod enc Tryz.prog w 0 sp held 30 v0 d ps):
 ∃(m:Mut) (cs:List Value),v0=.agg cs.toArray∧Holds w w.heap.size (dM m) cs∧inM m∧bulkM m≤Rows.uptoBulk d:=by
 obtain⟨cs,rfl,_⟩:=okWide_struct Tryz.underlying30 hv
 obtain⟨fuel,hf⟩:=h
 obtain⟨m,h1,h2,h3⟩:=open_mut fuel _ _ hf
 exact⟨m,cs.toList,by simp,by simpa[Value.cells]using h1,h2,h3⟩
end
end Go.Proofs.YtkkbplakgldlpaaGreatDoor
