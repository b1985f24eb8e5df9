/- Parts, joined: Values as data of any make. Plain. No condition. Cells of values: how a result's variable holds one, how one lies in a new block. Plain over the program's types. No condition. Rows of members, joined and parted. Plain. No condition. slices.Clone of members. Condition: at most 10^8 of them. The reference's Valid, and why it holds a value for one that may not be. Why a value may not be: the reference's function. Condition: a bulk of at most 10^9. -/
import Derived.Test.YtackmnbpfbaemaaGreatDoorProg
import Derived.WalkSpells
import Derived.Lib.Hide
import Derived.Lib.MapLaws
import Derived.Test.YtackmnbpfbaemaaGreatDoorKPb1
import Derived.Test.YtackmnbpfbaemaaGreatDoorKPb3
import Derived.Test.YtackmnbpfbaemaaGreatDoorKPb5
import Derived.Test.YtackmnbpfbaemaaGreatDoorKPb7
import Derived.Test.YtackmnbpfbaemaaGreatDoorKPb8
namespace Go.Proofs.YtackmnbpfbaemaaGreatDoor
open Go.RowKit
mutual
def dV:Val→D
 | .mk k b n t l o=> .agg [.leaf (.int .i64 k), .leaf (.bool b), .leaf (.int .i64 n), .leaf (.string t), .row 6 (dL l), .row 7 (dO o)]
def dL:List Val→List D
 | []=> []
 |v::r=>dV v::dL r
def dO:List (ByteArray×Val)→List D
 | []=> []
 |p::r=>dP p::dO r
def dP:ByteArray×Val→D
 |(key,v)=> .agg [.leaf (.string key),dV v]
end
theorem dL_map: ∀l,dL l=l.map dV
 | []=>rfl
 |v::r=>by simp[dL,dL_map r]
theorem dO_map: ∀l,dO l=l.map dP
 | []=>rfl
 |v::r=>by simp[dO,dO_map r]
theorem dV_cells (v:Val):(dV v).cells=6:=by
 obtain⟨k,b,n,t,l,o⟩:=v
 rfl
theorem dP_cells (p:ByteArray×Val):(dP p).cells=7:=by
 obtain⟨k,v⟩:=p
 simp only[dP,D.cells,cellsA,dV_cells]
theorem dL_cells (l:List Val): ∀d ∈ dL l,d.cells=6:=by
 rw[dL_map]
 intro d hd
 obtain⟨v,_,rfl⟩:=List.mem_map.1 hd
 exact dV_cells v
theorem dO_cells (l:List (ByteArray×Val)): ∀d ∈ dO l,d.cells=7:=by
 rw[dO_map]
 intro d hd
 obtain⟨v,_,rfl⟩:=List.mem_map.1 hd
 exact dP_cells v
theorem dL_len (l:List Val):(dL l).length=l.length:=by rw[dL_map,List.length_map]
theorem dO_len (l:List (ByteArray×Val)):(dO l).length=l.length:=by rw[dO_map,List.length_map]
theorem HoldsA.six {w:World} {B:Nat} {a b c d:Value} {e f:D} {cs:List Value}:
 HoldsA w B [.leaf a, .leaf b, .leaf c, .leaf d,e,f] cs ↔ ∃c4 c5,cs= [a,b,c,d]++(c4++c5)∧a.oneCell'=true∧b.oneCell'=true∧c.oneCell'=true∧d.oneCell'=true∧Holds w B e c4∧Holds w B f c5:=by
 constructor
 · rintro⟨_,_,rfl,⟨rfl,ha⟩,_,_,rfl,⟨rfl,hb⟩,_,_,rfl,⟨rfl,hc⟩,_,_,rfl,⟨rfl,hd⟩,c4,_,rfl,h4,c5,_,rfl,h5,rfl⟩
   exact⟨c4,c5,by simp,ha,hb,hc,hd,h4,h5⟩
 · rintro⟨c4,c5,rfl,ha,hb,hc,hd,h4,h5⟩
   exact⟨[a],_,rfl,⟨rfl,ha⟩, [b],_,rfl,⟨rfl,hb⟩, [c],_,rfl,⟨rfl,hc⟩, [d],_,rfl,⟨rfl,hd⟩,c4,_,rfl,h4,c5, [],by simp,h5,rfl⟩
theorem HoldsA.toL {w:World} {B:Nat} {g:Nat}: ∀{l:List Val},(∀v ∈ l,∀cs,Holds w B (dV v) cs→HoldsV w B v cs)→ ∀{ns:List Value} {off:Nat},HoldsA w B (dL l) ns→(∀j u,ns[j]? =some u→w.cell? ⟨g,off+j,none⟩=some u)→HoldsL w B l g off
 | [],_,_,_,_,_=>by simp[HoldsL]
 |v::r,ih,ns,off,h,hc=>by
  obtain⟨c1,c2,rfl,h1,h2⟩:=h
  have hl:c1.length=6:=h1.len.1.trans (dV_cells v)
  simp only[HoldsL]
  refine⟨⟨c1,ih v (by simp) c1 h1,fun j u hu=>hc j u (by rw[List.getElem?_append_left (List.getElem?_eq_some_iff.1 hu).1];exact hu)⟩,HoldsA.toL (fun x hx=>ih x (by simp[hx])) h2 (fun j u hu=> ?_)⟩
  rw[show off+6+j=off+(6+j)from by omega]
  refine hc (6+j) u ?_
  rw[List.getElem?_append_right (by omega),hl,show 6+j - 6=j from by omega]
  exact hu
theorem HoldsA.toO {w:World} {B:Nat} {g:Nat}: ∀{l:List (ByteArray×Val)},(∀m ∈ l,∀cs,Holds w B (dV m.2) cs→HoldsV w B m.2 cs)→ ∀{ns:List Value} {off:Nat},HoldsA w B (dO l) ns→(∀j u,ns[j]? =some u→w.cell? ⟨g,off+j,none⟩=some u)→HoldsO w B l g off
 | [],_,_,_,_,_=>by simp[HoldsO]
 |(key,v)::r,ih,ns,off,h,hc=>by
  obtain⟨c1,c2,rfl,h1,h2⟩:=h
  obtain⟨_,c3,rfl,⟨rfl,_⟩,cv,c4,rfl,h3,rfl⟩:=h1
  have hl:cv.length=6:=h3.len.1.trans (dV_cells v)
  simp only[HoldsO,HoldsP]
  refine⟨⟨by have:=hc 0 (.string key) rfl;simpa using this,cv,ih (key,v) (by simp) cv h3,fun j u hu=> ?_⟩,HoldsA.toO (fun x hx=>ih x (by simp[hx])) h2 (fun j u hu=> ?_)⟩
  · have h5:=(List.getElem?_eq_some_iff.1 hu).1
    rw[show off+1+j=off+(j+1)from by omega]
    refine hc (j+1) u ?_
    simp only[List.append_nil,List.cons_append,List.nil_append,List.getElem?_cons_succ]
    rw[List.getElem?_append_left h5];exact hu
  · rw[show off+7+j=off+(6+j+1)from by omega]
    refine hc (6+j+1) u ?_
    simp only[List.append_nil,List.cons_append,List.nil_append,List.getElem?_cons_succ]
    rw[List.getElem?_append_right (by omega),hl,show 6+j - 6=j from by omega]
    exact hu
theorem holdsV_of {w:World} {B:Nat}: ∀(v:Val) cs,Holds w B (dV v) cs→HoldsV w B v cs:=by
 refine Val.ind ?_
 intro k b n t l o hl ho cs h
 simp only[dV,Holds]at h
 obtain⟨c4,c5,rfl,_,_,_,_,⟨a4,n4,rfl,_,ns4,h4,i4⟩,⟨a5,n5,rfl,_,ns5,h5,i5⟩⟩:=HoldsA.six.1 h
 simp only[HoldsV]
 refine⟨a4,n4,a5,n5,by simp[cells6,dL_len,dO_len], ?_, ?_⟩
 · rcases i4 with e|⟨g,off,e,hg,hc⟩
   · refine .inl ?_
     cases l with
     |nil=>rfl
     |cons x r=>simp[dL]at e
   · exact .inr ⟨g,off,e,hg,HoldsA.toL hl h4 hc⟩
 · rcases i5 with e|⟨g,off,e,hg,hc⟩
   · refine .inl ?_
     cases o with
     |nil=>rfl
     |cons x r=>simp[dO]at e
   · exact .inr ⟨g,off,e,hg,HoldsA.toO ho h5 hc⟩
theorem HoldsA.ofL {w:World} {B:Nat} {g:Nat}: ∀{l:List Val},(∀v ∈ l,∀cs,HoldsV w B v cs→Holds w B (dV v) cs)→ ∀{off:Nat},HoldsL w B l g off→ ∃ns,HoldsA w B (dL l) ns∧ ∀j u,ns[j]? =some u→w.cell? ⟨g,off+j,none⟩=some u
 | [],_,_,_=>⟨[],rfl,fun j u h=>by simp at h⟩
 |v::r,ih,off,h=>by
  simp only[HoldsL]at h
  obtain⟨⟨cs,h1,hc⟩,h2⟩:=h
  have h1':=ih v (by simp) cs h1
  have hl:cs.length=6:=h1'.len.1.trans (dV_cells v)
  obtain⟨ns,h3,h4⟩:=HoldsA.ofL (fun x hx=>ih x (by simp[hx])) h2
  refine⟨cs++ns,⟨cs,ns,rfl,h1',h3⟩,fun j u hu=> ?_⟩
  by_cases hj:j<6
  · rw[List.getElem?_append_left (by omega)]at hu
    exact hc j u hu
  · rw[List.getElem?_append_right (by omega),hl]at hu
    have:=h4 (j - 6) u hu
    rwa [show off+6+(j - 6)=off+j from by omega]at this
theorem HoldsA.ofO {w:World} {B:Nat} {g:Nat}: ∀{l:List (ByteArray×Val)},(∀m ∈ l,∀cs,HoldsV w B m.2 cs→Holds w B (dV m.2) cs)→ ∀{off:Nat},HoldsO w B l g off→ ∃ns,HoldsA w B (dO l) ns∧ ∀j u,ns[j]? =some u→w.cell? ⟨g,off+j,none⟩=some u
 | [],_,_,_=>⟨[],rfl,fun j u h=>by simp at h⟩
 |(key,v)::r,ih,off,h=>by
  simp only[HoldsO,HoldsP]at h
  obtain⟨⟨h0,cs,h1,hc⟩,h2⟩:=h
  have h1':=ih (key,v) (by simp) cs h1
  have hl:cs.length=6:=h1'.len.1.trans (dV_cells v)
  obtain⟨ns,h3,h4⟩:=HoldsA.ofO (fun x hx=>ih x (by simp[hx])) h2
  refine⟨(.string key::cs)++ns,⟨.string key::cs,ns,rfl,⟨[.string key],cs,rfl,⟨rfl,rfl⟩,cs, [],by simp,h1',rfl⟩,h3⟩,fun j u hu=> ?_⟩
  match j,hu with
  |0,hu=>
   simp at hu
   subst hu
   exact h0
  |j+1,hu=>
   simp only[List.cons_append,List.getElem?_cons_succ]at hu
   by_cases hj:j<6
   · rw[List.getElem?_append_left (by omega)]at hu
     have:=hc j u hu
     rwa [show off+1+j=off+(j+1)from by omega]at this
   · rw[List.getElem?_append_right (by omega),hl]at hu
     have:=h4 (j - 6) u hu
     rwa [show off+7+(j - 6)=off+(j+1)from by omega]at this
theorem holds_of_V {w:World} {B:Nat}: ∀(v:Val) cs,HoldsV w B v cs→Holds w B (dV v) cs:=by
 refine Val.ind ?_
 intro k b n t l o hl ho cs h
 simp only[HoldsV]at h
 obtain⟨la,lc,oa,oc,rfl,h1,h2⟩:=h
 simp only[dV,Holds]
 refine HoldsA.six.2 ⟨[.slice la l.length lc], [.slice oa o.length oc],rfl,rfl,rfl,rfl,rfl, ?_, ?_⟩
 · rcases h1 with rfl|⟨g,off,e,hg,h1⟩
   · exact⟨la,lc,rfl,dL_cells _, [],rfl, .inl rfl⟩
   · obtain⟨ns,h3,h4⟩:=HoldsA.ofL hl h1
     exact⟨la,lc,by rw[dL_len],dL_cells _,ns,h3, .inr ⟨g,off,e,hg,h4⟩⟩
 · rcases h2 with rfl|⟨g,off,e,hg,h2⟩
   · exact⟨oa,oc,rfl,dO_cells _, [],rfl, .inl rfl⟩
   · obtain⟨ns,h3,h4⟩:=HoldsA.ofO ho h2
     exact⟨oa,oc,by rw[dO_len],dO_cells _,ns,h3, .inr ⟨g,off,e,hg,h4⟩⟩
end Go.Proofs.YtackmnbpfbaemaaGreatDoor

namespace Go.Proofs.YtackmnbpfbaemaaGreatDoor
open Go Go.RowKit
abbrev zero6:Array Value:= #[.int .i64 0, .bool false, .int .i64 0, .string ⟨#[]⟩, .slice none 0 0, .slice none 0 0]
theorem six_now {B:Nat} {w4:World} {k:Int} {b:Bool} {n:Int} {t:ByteArray} {l:List Val} {o:List (ByteArray×Val)} {cs:List Value} (h:Fresh B w4 (dV (.mk k b n t l o)) cs): ∃la lc oa oc,cs= [.int .i64 k, .bool b, .int .i64 n, .string t, .slice la l.length lc, .slice oa o.length oc]:=by
 have h1:=holdsV_of _ _ h.now
 simp only[HoldsV]at h1
 obtain⟨la,lc,oa,oc,e,_,_⟩:=h1
 exact⟨la,lc,oa,oc,e⟩
theorem vcell {w:World} {g:Nat} {t:TypeId} {a0 a1 a2 a3 a4 a5:Value} (h:Blk w g t #[a0,a1,a2,a3,a4,a5]):
 w.cell? ⟨g,0,none⟩=some a0∧w.cell? ⟨g,1,none⟩=some a1∧w.cell? ⟨g,2,none⟩=some a2∧w.cell? ⟨g,3,none⟩=some a3∧w.cell? ⟨g,4,none⟩=some a4∧w.cell? ⟨g,5,none⟩=some a5:=
 ⟨h.cell 0,h.cell 1,h.cell 2,h.cell 3,h.cell 4,h.cell 5⟩
theorem dP_fresh {B:Nat} {w:World} {key:ByteArray} {v:Val} {cs:List Value} (h:Fresh B w (dV v) cs):Fresh B w (dP (key,v)) (.string key::cs):=fun w'' h1 h2=>⟨[.string key],cs,rfl,⟨rfl,rfl⟩,cs, [],by simp,h w'' h1 h2,rfl⟩
theorem mem_info:(Tryz.prog.info? 63).map (fun i=>(i.zero,i.size,i.bytes))=some (some (.agg #[.string ⟨#[]⟩, .int .i64 0, .bool false, .int .i64 0, .string ⟨#[]⟩, .slice none 0 0, .slice none 0 0]),7,104):=by kernel_rfl
theorem results_cell6 {fn:Func} {t:Tmp} {tmps:Array Value} {W:World} {R:Nat} {a0 a1 a2 a3 a4 a5:Value} (h:fn.results= #[.cell t 39]) (hp:tmps.getD t undef= .pointer (some ⟨R,0,none⟩)) (hx:Blk W R 39 #[a0,a1,a2,a3,a4,a5]):
 (results fn tmps).run Tryz.prog W= .ok (.agg #[a0,a1,a2,a3,a4,a5]) W:=by
 obtain⟨c0,c1,c2,c3,c4,c5⟩:=vcell hx
 clear hx
 have hp':tmps[t]?.getD undef= .pointer (some ⟨R,0,none⟩):=by simpa using hp
 simp[results,h,hp',go_sem,c0,c1,c2,c3,c4,c5]
theorem RowD.slice_n {b:Nat} {t:TypeId} {s n:Nat} {wr:World} {l:List D} {V:Value} (h:RowD b t s wr l V) (hn:l.length=n): ∃a c,V= .slice a n c:=by
 subst hn;exact h.slice
theorem blk_app {w w6:World} {R b:Nat} {t e:TypeId} {sz:Nat} {l:List D} {V:Value} {cs:Array Value} {wr:World} (h:Blk w R t cs) (hg:w.grownBy w6 V.ownBlock) (hr:RowD b e sz wr l V) (hR:R<b):Blk w6 R t cs:=
 h.grown hg fun e=>by have:=(hr.base R e.symm).1;omega
theorem below_app {w w6:World} {B b:Nat} {e:TypeId} {sz:Nat} {l:List D} {V:Value} {w0 wr:World} (h:Below B w0 w) (hg:w.grownBy w6 V.ownBlock) (hr:RowD b e sz wr l V) (hB:B≤b) (hBw:B≤w.heap.size):Below B w0 w6:=
 h.grown hg hBw fun k hk=>Nat.le_trans hB (hr.base k hk).1
theorem reads_seven (w:World) (a0 a1 a2 a3 a4 a5 a6:Value):Reads (w.alloc (.cells #[a0,a1,a2,a3,a4,a5,a6] 63)) (w.heap.size+1) 7 (some ⟨w.heap.size,0,none⟩) 1 [a0,a1,a2,a3,a4,a5,a6]:=reads_one (Blk.new w 63 #[a0,a1,a2,a3,a4,a5,a6])
theorem val_info:(Tryz.prog.info? 39).map (fun i=>(i.zero,i.size,i.bytes))=some (some (.agg #[.int .i64 0, .bool false, .int .i64 0, .string ⟨#[]⟩, .slice none 0 0, .slice none 0 0]),6,88):=by kernel_rfl
theorem reads_six (w:World) (a0 a1 a2 a3 a4 a5:Value):Reads (w.alloc (.cells #[a0,a1,a2,a3,a4,a5] 39)) (w.heap.size+1) 6 (some ⟨w.heap.size,0,none⟩) 1 [a0,a1,a2,a3,a4,a5]:=reads_one (Blk.new w 39 #[a0,a1,a2,a3,a4,a5])
theorem results_cell6_t {fn:Func} {t u:Tmp} {tmps:Array Value} {W:World} {R:Nat} {a0 a1 a2 a3 a4 a5:Value} (h:fn.results= #[.cell t 39, .tmp u]) (hp:tmps.getD t undef= .pointer (some ⟨R,0,none⟩)) (hx:Blk W R 39 #[a0,a1,a2,a3,a4,a5]):
 (results fn tmps).run Tryz.prog W= .ok (.tuple #[.agg #[a0,a1,a2,a3,a4,a5],tmps.getD u undef]) W:=by
 obtain⟨c0,c1,c2,c3,c4,c5⟩:=vcell hx
 clear hx
 have hp':tmps[t]?.getD undef= .pointer (some ⟨R,0,none⟩):=by simpa using hp
 simp[results,h,hp',go_sem,c0,c1,c2,c3,c4,c5]
end Go.Proofs.YtackmnbpfbaemaaGreatDoor

namespace Go.Proofs.YtackmnbpfbaemaaGreatDoor
open Go.RowKit
theorem RowO.app {w:World} {B:Nat}: ∀{a b:List (ByteArray×Val)} {ns ms:List Value},RowO w B a ns→RowO w B b ms→RowO w B (a++b) (ns++ms)
 | [],b,ns,ms,h,h'=>by
   have:ns= []:=h
   subst this
   exact h'
 |(k,v)::r,b,ns,ms,⟨cs,rest,e,h1,h2⟩,h'=>by
  subst e
  exact⟨cs,rest++ms,by simp,h1,RowO.app h2 h'⟩
theorem RowO.len {w:World} {B:Nat}: ∀{l:List (ByteArray×Val)} {ns:List Value},RowO w B l ns→ns.length=l.length*7∧ ∀u ∈ ns,u.oneCell'=true
 | [],ns,h=>by
   have:ns= []:=h
   subst this
   exact⟨rfl,fun u hu=>by cases hu⟩
 |(k,v)::r,ns,⟨cs,rest,e,h1,h2⟩=>by
  subst e
  obtain⟨a1,a2⟩:=h1.len
  obtain⟨b1,b2⟩:=RowO.len h2
  refine⟨by rw[List.length_cons,List.length_append,a1,b1,List.length_cons];omega,fun u hu=> ?_⟩
  rcases List.mem_cons.1 hu with rfl|hu
  · rfl
  rcases List.mem_append.1 hu with hu|hu
  · exact a2 u hu
  · exact b2 u hu
theorem RowO.split {w:World} {B:Nat}: ∀{l:List (ByteArray×Val)} {ns:List Value} (k:Nat),RowO w B l ns→RowO w B (l.take k) (ns.take (k*7))∧RowO w B (l.drop k) (ns.drop (k*7))
 | [],ns,k,h=>by
   have:ns= []:=h
   subst this
   simp[RowO]
 |(key,v)::r,ns,0,h=>by
  simp only[List.take_zero,Nat.zero_mul,List.drop_zero]
  exact⟨rfl,h⟩
 |(key,v)::r,ns,k+1,⟨cs,rest,e,h1,h2⟩=>by
  subst e
  obtain⟨a,b⟩:=RowO.split k h2
  have hl:=h1.len.1
  have e1:(Value.string key::(cs++rest)).take ((k+1)*7)= .string key::(cs++rest.take (k*7)):=by
   rw[show(k+1)*7=(6+k*7)+1 from by omega,List.take_succ_cons,List.take_append,hl,List.take_of_length_le (by omega),show 6+k*7 - 6=k*7 from by omega]
  have e2:(Value.string key::(cs++rest)).drop ((k+1)*7)=rest.drop (k*7):=by
   rw[show(k+1)*7=(6+k*7)+1 from by omega,List.drop_succ_cons,List.drop_append,hl,List.drop_eq_nil_of_le (by omega),show 6+k*7 - 6=k*7 from by omega,List.nil_append]
  rw[e1,e2]
  exact⟨⟨cs,rest.take (k*7),rfl,h1,a⟩,b⟩
theorem bulkO_app: ∀(a b:List (ByteArray×Val)),bulkO (a++b)=bulkO a+bulkO b
 | [],b=>by simp[bulkO]
 |x::r,b=>by simp only[List.cons_append,bulkO,bulkO_app r b];omega
theorem inO_app: ∀{a b:List (ByteArray×Val)},inO a→inO b→inO (a++b)
 | [],_,_,h=>h
 |x::r,b,h,h'=>by
  simp only[List.cons_append,inO]at h ⊢
  exact⟨h.1,inO_app h.2 h'⟩
end Go.Proofs.YtackmnbpfbaemaaGreatDoor

namespace Go.Proofs.YtackmnbpfbaemaaGreatDoor
open Go.RowKit
def ClonePost (w:World) (o:List (ByteArray×Val)) (e:Ending) (w':World):Prop:= ∃V ns,e= .returned V∧w'.ownsRow w.heap.size 63 7 V o.length ns∧HoldsA w w.heap.size (dO o) ns∧Below w.heap.size w w'
set_option maxRecDepth 100000 in
theorem clone_calls (o:List (ByteArray×Val)) (a:Option Addr) (n c:Nat) (w:World) (h:Holds w w.heap.size (.row 7 (dO o)) [.slice a n c]) (hn:o.length≤100000000):
 Calls Tryz.prog 69 #[.slice a n c] w (ClonePost w o):=by
 have hl:=h.row_len
 rw[dO_len]at hl
 subst hl
 obtain⟨ns,hr,hA,ho⟩:=h.reads
 have hnil:=fun W=>Lib.run_eql_slice_nil (P:=Tryz.prog) W 37 63 a o.length c 0 0 Tryz.underlying37
 cases a with
 |none=>
  have h0:o.length=0:=by
   rcases Nat.eq_zero_or_pos o.length with h0|h0
   · exact h0
   · obtain⟨ad,e,_⟩:=hr.2 h0
     cases e
  have hns:ns= []:=List.eq_nil_of_length_eq_zero (by rw[hr.1,h0])
  subst hns
  have H0:=Lib.hid h0
  have HA:=Lib.hid hA
  clear h0 hA
  clear h hr ho
  go_enter Tryz.func69,Tryz.ntmps69
  go_wp2
  go_ret
  exact⟨.slice none 0 0, [],rfl,by rw[H0.out];exact World.ownsRow_nil _ _ _ _,HA.out,Below.refl _ _⟩
 |some ad=>
  obtain⟨j0,hj,hy0,hy1,hy2⟩:=info_parts info_mem
  have Hj:=Lib.hid hj
  have Hy0:=Lib.hid hy0
  have Hy1:=Lib.hid hy1
  have Hy2:=Lib.hid hy2
  have Hr:=Lib.hid hr
  have HA:=Lib.hid hA
  have Ho:=Lib.hid ho
  clear hj hy0 hy1 hy2 hr hA ho
  clear h
  go_enter Tryz.func69,Tryz.ntmps69
  have HOwn:Hid ((w.alloc (.cells #[] 63)).ownsRow w.heap.size 63 7 (.slice (some ⟨w.heap.size,0,none⟩) 0 0) 0 []):=
   ⟨by simp, .inr ⟨w.heap.size,0, #[],rfl,Nat.le_refl _,heap_alloc_new _ _,Nat.le_refl _,by unfold maxLen;omega,by simp,by simp⟩⟩
  go_wp2_with (at_builtin;refine wpList_append_any _ rfl (.tmp 5) (.tmp 6) 37 rfl w.heap.size 63 j0 (.agg #[.string ⟨#[]⟩, .int .i64 0, .bool false, .int .i64 0, .string ⟨#[]⟩, .slice none 0 0, .slice none 0 0]) 7 104 Tryz.underlying37 Hj.out Hy0.out Hy1.out Hy2.out rfl (by omega) (.slice (some ⟨w.heap.size,0,none⟩) 0 0) 0 [] rfl HOwn.out w.heap.size _ o.length _ ns rfl ?c0 ?c1 ?c2 ?c3 ?c4 ?_)
  case c0=>exact Hr.out.alloc (Nat.le_refl _) _
  case c1=>exact Ho.out
  case c2=>unfold maxLen;omega
  case c3=>omega
  case c4=>simp
  intro v1 w1 hown1 hgrow1 _
  have hb:Below w.heap.size w w1:=((Below.refl _ _).alloc (Nat.le_refl _) _).grown hgrow1 (by simp) (fun g hg=>by simp[Value.ownBlock]at hg;omega)
  have Hown1:=Lib.hid hown1
  have Hb:=Lib.hid hb
  clear hown1 hb
  clear hgrow1
  go_wp2
  go_ret
  exact⟨v1,ns,rfl,by simpa using Hown1.out,HA.out,Hb.out⟩
end Go.Proofs.YtackmnbpfbaemaaGreatDoor

namespace Go.Proofs.YtackmnbpfbaemaaGreatDoor
open Go.RowKit
theorem validGoD_more: ∀(n m:Nat) (l:List UInt8),l.length≤n→l.length≤m→Lib.validGoD n l=Lib.validGoD m l
 |0,m,l,hn,hm=>by
  obtain rfl:l= []:=List.eq_nil_of_length_eq_zero (by omega)
  cases m<;>simp[Lib.validGoD]
 |n+1,0,l,hn,hm=>by
  obtain rfl:l= []:=List.eq_nil_of_length_eq_zero (by omega)
  simp[Lib.validGoD]
 |n+1,m+1,l,hn,hm=>by
  simp only[Lib.validGoD]
  by_cases h:l= []
  · simp[h]
  · rw[if_neg h,if_neg h]
    split
    · rfl
    · have hw:=Lib.decodeL_width l
      have hl:0<l.length:=List.length_pos_iff.2 h
      exact validGoD_more n m _ (by rw[List.length_drop];omega) (by rw[List.length_drop];omega)
theorem validD_step {l:List UInt8} (h:l≠ []):Lib.validD l=if(Lib.decodeL l).1=65533∧(Lib.decodeL l).2=1 then false else Lib.validD (l.drop (Lib.decodeL l).2):=by
 have hw:=Lib.decodeL_width l
 have hl:0<l.length:=List.length_pos_iff.2 h
 unfold Lib.validD
 obtain⟨n,hn⟩: ∃n,l.length=n+1:=⟨l.length - 1,by omega⟩
 rw[hn]
 simp only[Lib.validGoD]
 rw[if_neg h]
 split
 · rfl
 · exact validGoD_more _ _ _ (by rw[List.length_drop];omega) (Nat.le_refl _)
theorem validD_at {l:List UInt8} (h:l≠ []):((atSpec l).2=0∧Lib.validD l=false)∨(∃n:Nat,(atSpec l).2=(n:Int)∧1≤n∧n≤l.length∧Lib.validD l=Lib.validD (l.drop n)):=by
 have hg:=atSpec_dec l h
 unfold goodAt at hg
 rw[validD_step h]
 by_cases hb:(Lib.decodeL l).1=65533∧(Lib.decodeL l).2=1
 · rw[if_pos hb]at hg ⊢
   rw[hg]
   exact .inl ⟨rfl,rfl⟩
 · rw[if_neg hb]at hg ⊢
   rw[hg]
   have hw:=Lib.decodeL_width l
   exact .inr ⟨(Lib.decodeL l).2,rfl,hw,Lib.decodeL_le l h,rfl⟩
set_option maxHeartbeats 1000000 in
theorem RValid_calls (s:ByteArray) (w:World) (hs:s.size≤1000000000):
 Calls Tryz.prog 85 #[.string s] w fun e w'=>e= .returned (.bool (validB s))∧w=w':=by
 obtain⟨V,hV⟩: ∃V,validB s=V:=⟨_,rfl⟩
 rw[hV]
 have H0:=Lib.hid hV
 clear hV
 go_enter Tryz.func85,Tryz.ntmps85
 go_wp2
 go_loop [3] (fun i=> ∃k:Nat,k≤s.size∧i= .int .i64 k∧Hid (Lib.validD (s.data.toList.drop k)=V)) (fun i=>s.size - (intOf i).toNat)
 case atStart=>exact⟨0,Nat.zero_le _,rfl,H0⟩
 case round=>
  obtain⟨k,hk,rfl,hf⟩:=hrel
  clear H0
  by_cases hlt:k<s.size
  · have hne:s.data.toList.drop k≠ []:=by
     intro e
     have:=congrArg List.length e
     rw[List.length_drop,←Lib.size_eq]at this
     simp at this
     omega
    have hA:=At_calls s k w (by omega) (by omega)
    rcases validD_at hne with⟨h0,hv⟩|⟨n,hn,hn1,hn2,hv⟩
    · have hf':=hf.out
      rw[hv]at hf'
      subst hf'
      rw[h0]at hA
      generalize (atSpec (s.data.toList.drop k)).1=R at hA
      have HA:=Lib.hid hA
      clear hA h0 hv hne hf
      go_wp2_with (go_at_call 127;refine(HA.out).mono ?_;rintro e w' ⟨rfl,rfl⟩)
      go_ret
      exact⟨rfl,rfl⟩
    · have hf':=hf.out
      rw[hv,List.drop_drop]at hf'
      have Hf:=Lib.hid hf'
      rw[hn]at hA
      rw[List.length_drop,←Lib.size_eq]at hn2
      generalize (atSpec (s.data.toList.drop k)).1=R at hA
      have HA:=Lib.hid hA
      clear hA hn hv hne hf hf'
      have e0:((n:Int)==0)=false:=by simp;omega
      go_wp2_with (go_at_call 127;refine(HA.out).mono ?_;rintro e w' ⟨rfl,rfl⟩)
      go_round
      case rel=>exact⟨k+n,by omega,by go_num,Hf⟩
      case measure=>simp[intOf];omega
  · obtain rfl:k=s.size:=by omega
    have hf':=hf.out
    rw[List.drop_eq_nil_of_le (by rw[←Lib.size_eq];omega)]at hf'
    have:V=true:=by rw[←hf'];rfl
    subst this
    clear hf hf'
    go_wp2
    go_ret
    exact⟨rfl,rfl⟩
end Go.Proofs.YtackmnbpfbaemaaGreatDoor

namespace Go.Proofs.YtackmnbpfbaemaaGreatDoor
open Go.RowKit
theorem bare_calls2 {k:Int} {b:Bool} {n:Int} {t:ByteArray} {la oa:Option Addr} {ln lc on oc:Nat} {B:Bool} (h:oddB k b n t ln on=B) (w:World):
 Calls Tryz.prog 137 #[.agg #[.int .i64 k, .bool b, .int .i64 n, .string t, .slice la ln lc, .slice oa on oc]] w fun e w'=>e= .returned (.bool (!B))∧Below w.heap.size w w':=by
 subst h
 exact bare_calls _ _ _ _ _ _ _ _ _ _ _
theorem RValid_calls2 {s:ByteArray} {B:Bool} (h:validB s=B) (w:World) (hs:s.size≤1000000000):
 Calls Tryz.prog 85 #[.string s] w fun e w'=>e= .returned (.bool B)∧w=w':=by
 subst h
 exact RValid_calls _ _ hs
def MayRC (v:Val):Prop:= ∀(cs:List Value) (d:Int) (w:World),HoldsV w w.heap.size v cs→v.bulk≤1000000000→0≤d→d≤65→
    Calls Tryz.prog 97 #[.agg cs.toArray, .int .i64 d] w fun e w'=>e= .returned (.int .i64 (mayV v d))∧Below w.heap.size w w'
set_option maxHeartbeats 2000000 in
theorem mayR_list (k:Int) (b:Bool) (n:Int) (t:ByteArray) (l:List Val) (la oa:Option Addr) (lc oc:Nat) (d:Int) (w:World) (g off:Nat) (hla:l= []∨(la=some ⟨g,off,none⟩∧g<w.heap.size∧HoldsL w w.heap.size l g off))
 (hb:bulkL l+t.size≤1000000000) (h0:0≤d) (h64:d≤64) (IH: ∀v ∈ l,MayRC v) (hodd:oddB k b n t l.length 0=false) (hval:validB t=true):
 Calls Tryz.prog 97 #[.agg #[.int .i64 k, .bool b, .int .i64 n, .string t, .slice la l.length lc, .slice oa 0 oc], .int .i64 d] w fun e w'=>e= .returned (.int .i64 (mayL l (d+1)))∧Below w.heap.size w w':=by
 have hlen:l.length≤1000000000:=by have:=bulkL_len l;omega
 have h64': ¬(64<d):=by omega
 have H:Hid (mayL (l.drop 0) (d+1)=mayL l (d+1)):=by rw[List.drop_zero];exact rfl
 go_enter Tryz.func97,Tryz.ntmps97
 go_wp2_with (first|(go_at_call 137;refine(bare_calls2 hodd _).mono ?_;rintro e w1 ⟨rfl,hb1⟩;obtain⟨hc1,hf1⟩:=bcell hb1;have hz1:=hb1.size;simp only[World.size_alloc]at hz1;have hbw1:Below w.heap.size w w1:=((Below.refl _ _).alloc (Nat.le_refl _) _).trans (hb1.mono (by simp));have hbox1:w1.heap[w.heap.size]? =some (.cells #[.int .i64 k, .bool b, .int .i64 n, .string t, .slice la l.length lc, .slice oa 0 oc] 39 (0,0)):=(hb1.block _ (by simp)).trans (heap_alloc_new _ _))|(go_at_call 85;refine(RValid_calls2 hval _ (by omega)).mono ?_;rintro e w2 ⟨rfl,rfl⟩))
 clear hb1 hodd hc1 hf1 hz1
 go_loopw [5] (fun i wr=> ∃j:Nat,j≤l.length∧i= .int .i64 j∧Hid (mayL (l.drop j) (d+1)=mayL l (d+1))∧Below w.heap.size w wr∧wr.heap[w.heap.size]? =some (.cells #[.int .i64 k, .bool b, .int .i64 n, .string t, .slice la l.length lc, .slice oa 0 oc] 39 (0,0))) (fun i _=>l.length - (intOf i).toNat)
 case atStart=>exact⟨0,Nat.zero_le _,rfl,H,hbw1,hbox1⟩
 case round=>
  obtain⟨j,hj,rfl,hm,hbw,hbox⟩:=hrel
  clear H hbw1 hbox1
  have hbx:w.heap.size<wr.heap.size:=(Array.getElem?_eq_some_iff.1 hbox).1
  have b4:wr.cell? ⟨w.heap.size,4,none⟩=some (.slice la l.length lc):=by rw[Lib.cell_of_heap hbox];rfl
  have b5:wr.cell? ⟨w.heap.size,5,none⟩=some (.slice oa 0 oc):=by rw[Lib.cell_of_heap hbox];rfl
  by_cases hlt:j<l.length
  · obtain⟨rfl,hg,hL⟩:la=some ⟨g,off,none⟩∧g<w.heap.size∧HoldsL w w.heap.size l g off:=by
     rcases hla with rfl|h
     · simp at hlt
     · exact h
    obtain⟨v,hv⟩: ∃v,l[j]? =some v:=⟨_,List.getElem?_eq_getElem hlt⟩
    have hdrop:l.drop j=v::l.drop (j+1):=drop_of_get hv
    have hmem:v ∈ l:=List.mem_of_getElem? hv
    have hbv:=bulkL_mem hmem
    have IHv:=Lib.hid (IH v hmem)
    have hm':=hm.out
    rw[hdrop]at hm'
    simp only[mayL]at hm'
    clear hm hdrop hmem IH
    obtain⟨m,hmv⟩: ∃m,mayV v (d+1)=m:=⟨_,rfl⟩
    rw[hmv]at hm'
    have Hmv:=Lib.hid hmv
    clear hmv
    obtain⟨k',b',n',t',l',o'⟩:=v
    obtain⟨la',lc',oa',oc',hvs,c0,c1,c2,c3,c4,c5⟩:=(hL.below hg hbw).six hv
    clear hla hL hv
    have hz:=hbw.size
    by_cases hm0:m=0
    · rw[if_pos hm0]at hm'
      subst hm0
      have Hk:=Lib.hid hm'
      clear hm'
      go_wp2_with (go_at_call 97;refine(IHv.out _ (d+1) _ (HoldsV.more (by omega) _ _ hvs) (by omega) (by omega) (by omega)).mono ?_;rintro e w2 ⟨he,hb2⟩;rw[Hmv.out]at he;subst he;have hbw2:Below w.heap.size w w2:=hbw.trans (hb2.mono hz);have hbox2:=(hb2.block _ hbx).trans hbox)
      go_roundw
      case rel=>exact⟨j+1,by omega,by go_num,Hk,hbw2,hbox2⟩
      case measure=>simp[intOf];omega
    · rw[if_neg hm0]at hm'
      have Hk:=Lib.hid hm'
      clear hm'
      have hm1:(m==0)=false:=by simpa using hm0
      have hm2:(m != 0)=true:=by simpa using hm0
      go_wp2_with (go_at_call 97;refine(IHv.out _ (d+1) _ (HoldsV.more (by omega) _ _ hvs) (by omega) (by omega) (by omega)).mono ?_;rintro e w2 ⟨he,hb2⟩;rw[Hmv.out]at he;subst he;have hbw2:Below w.heap.size w w2:=hbw.trans (hb2.mono hz))
      go_ret
      exact⟨by rw[←Hk.out];rfl,hbw2⟩
  · obtain rfl:j=l.length:=by omega
    have hm':=hm.out
    rw[List.drop_length]at hm'
    have Hm:=Lib.hid hm'
    clear hm hm'
    go_wp2
    go_loopw [8] (fun i wx=>i= .int .i64 0∧wx=wr) (fun _ _=>0)
    case atStart=>exact⟨rfl,rfl⟩
    case round=>
     obtain⟨rfl,rfl⟩:=hrel
     go_wp2
     go_ret
     exact⟨by rw[←Hm.out];rfl,hbw⟩
end Go.Proofs.YtackmnbpfbaemaaGreatDoor
