/- Parts, joined: Words for memory: slices that read as lists, blocks known whole, append of any source (the kit's own words, copied as its page says). No condition. strings.Builder wherever it lies (a block of its own, or a field of a struct that the call made): its methods' contracts. Condition: at most 2^47 bytes. commonplaceref03.digits: an Int's digits. No condition. -/
import Derived.Below
import Derived.Laws.OwnMore
import Derived.Deep.AppendLies
import Derived.Deep.Draws
import Derived.Laws.Rows
import Derived.Maps.AppendAt
import Derived.RegionTactic
import Derived.OwnWalk
import Derived.WalkKit
import Derived.Test.YtackmnbpfbaemaaGreatDoorProg
import Derived.Test.YtackmnbpfbaemaaGreatDoorZShelf
import Derived.Lib.OthersKept
import Derived.Lib.FrozenHead2
import Derived.Shelf.Strings.BuilderK
import Derived.BigQuiet
import Derived.Deep.QuietTactic
import Derived.WalkLawsBesides
import Derived.WalkSpells
import Derived.Lib.Hide
import Derived.Lib.ItoaLen
import Derived.IntWalk
import Derived.Test.YtackmnbpfbaemaaGreatDoorKAs1
namespace Go.Proofs.YtackmnbpfbaemaaGreatDoor
open Go Go.RowKit
theorem block_of_add (a:Addr) (n:Nat):(a.add n).block=a.block:=by unfold Addr.add;split<;>rfl
theorem add_of_add (a:Addr) (i j:Nat):(a.add i).add j=a.add (i+j):=by
 unfold Addr.add
 by_cases hi:i=0<;>by_cases hj:j=0<;>simp[hi,hj,Nat.add_assoc]
def Reads (w:World) (B size:Nat) (A:Option Addr) (n:Nat) (xs:List Value):Prop:=
 xs.length=n*size∧(0<n→ ∃ad,A=some ad∧ad.block<B∧ ∀j u,xs[j]? =some u→w.cell? (ad.add j)=some u)
section
variable {w w':World} {B B' size n:Nat} {A:Option Addr} {xs:List Value}
theorem Reads.at_ {k:Nat} (h:Reads w B 1 A n xs) (hk:k<n): ∃ad u,A=some ad∧ad.block<B∧xs[k]? =some u∧w.cell? (ad.add k)=some u:=by
 obtain⟨ad,e,hb,hc⟩:=h.2 (by omega)
 have hl:k<xs.length:=by have:=h.1;omega
 exact⟨ad,xs[k],e,hb,List.getElem?_eq_getElem hl,hc k _ (List.getElem?_eq_getElem hl)⟩
theorem Reads.keep (h:Reads w B size A n xs) (hk: ∀p:Addr,p.block<B→w'.cell? p=w.cell? p):Reads w' B size A n xs:=
 ⟨h.1,fun hn=>by
   obtain⟨ad,e,hb,hc⟩:=h.2 hn
   exact⟨ad,e,hb,fun j u hu=>(hk _ (by rw[block_of_add];exact hb)).trans (hc j u hu)⟩⟩
theorem Reads.more (h:Reads w B size A n xs) (hB:B≤B'):Reads w B' size A n xs:=
 ⟨h.1,fun hn=>by
   obtain⟨ad,e,hb,hc⟩:=h.2 hn
   exact⟨ad,e,by omega,hc⟩⟩
theorem Reads.below (h:Reads w B size A n xs) (hb:Below B w w'):Reads w' B size A n xs:=h.keep fun _ hp=>hb.cell hp
theorem Reads.drew (h:Reads w B size A n xs):Reads w.drew B size A n xs:=h
theorem Reads.drewN (h:Reads w B size A n xs) (k:Nat):Reads (w.drewN k) B size A n xs:=h
theorem Reads.alloc (h:Reads w B size A n xs) (hB:B≤w.heap.size) (o:Obj):Reads (w.alloc o) B size A n xs:=h.keep fun p hp=>World.cell?_alloc_lt w o p (by omega)
theorem Reads.setCell (h:Reads w B size A n xs) {p:Addr} (hB:B≤p.block) (u:Value):Reads (w.setCell p u) B size A n xs:=
 h.keep fun q hq=>World.cell?_setCell_other w p q u (fun e=>by subst e;omega)
theorem Reads.grown (h:Reads w B size A n xs) {row:Option Nat} (hg:w.grownBy w' row) (hB:B≤w.heap.size) (hr: ∀g,row=some g→B≤g):Reads w' B size A n xs:=
 h.keep fun p hp=>World.cell?_of_block (hg.block p.block (by omega) (fun e=>by have:=hr _ e.symm;omega))
theorem Reads.cut (h:Reads w B size A n xs) {k cap:Nat} (hk:k≤n) (hc:n≤cap):
 Reads w B size (if cap=k then A else A.map (·.add (k*size))) (n - k) (xs.drop (k*size)):=by
 refine⟨by rw[List.length_drop,h.1,Nat.sub_mul],fun hn=> ?_⟩
 obtain⟨ad,rfl,hb,hcell⟩:=h.2 (by omega)
 rw[if_neg (by omega)]
 refine⟨ad.add (k*size),rfl,by rw[block_of_add];exact hb,fun j u hu=> ?_⟩
 rw[add_of_add]
 exact hcell _ u (by rw[←hu,List.getElem?_drop])
end
def Blk (w:World) (g:Nat) (t:TypeId) (cs:Array Value):Prop:=w.heap[g]? =some (.cells cs t (0,0))
section
variable {w w':World} {g:Nat} {t:TypeId} {cs:Array Value}
theorem Blk.lt (h:Blk w g t cs):g<w.heap.size:=by
 rcases Nat.lt_or_ge g w.heap.size with hlt|hge
 · exact hlt
 · unfold Blk at h;rw[Array.getElem?_eq_none hge]at h;cases h
theorem Blk.cell (h:Blk w g t cs) (i:Nat):w.cell? ⟨g,i,none⟩=cs[i]? :=cell_of_row w g i cs t (0,0) h
theorem Blk.frozen (h:Blk w g t cs) (i:Nat):w.frozen? ⟨g,i,none⟩=false:=by
 unfold Blk at h
 simp[World.frozen?,h]
theorem Blk.new (w:World) (t:TypeId) (cs:Array Value):Blk (w.alloc (.cells cs t)) w.heap.size t cs:=heap_alloc_new w _
theorem Blk.drew (h:Blk w g t cs):Blk w.drew g t cs:=h
theorem Blk.drewN (h:Blk w g t cs) (n:Nat):Blk (w.drewN n) g t cs:=h
theorem Blk.alloc (h:Blk w g t cs) (o:Obj):Blk (w.alloc o) g t cs:=(Below.heap_alloc w o g h.lt).trans h
theorem Blk.set_ (h:Blk w g t cs) (i:Nat) (u:Value):Blk (w.setCell ⟨g,i,none⟩ u) g t (cs.setIfInBounds i u):=by
 unfold Blk at h ⊢
 simp[World.setCell,Array.getElem?_modify,h]
theorem Blk.far (h:Blk w g t cs) {p:Addr} (hp:g≠p.block) (u:Value):Blk (w.setCell p u) g t cs:=(Below.heap_setCell w p u g hp).trans h
theorem Blk.below {B:Nat} (h:Blk w g t cs) (hb:Below B w w') (hg:g<B):Blk w' g t cs:=(hb.block g hg).trans h
theorem Blk.grown {row:Option Nat} (h:Blk w g t cs) (hb:w.grownBy w' row) (hg:some g≠row):Blk w' g t cs:=(hb.block g h.lt hg).trans h
end
section
variable {P:Program} (w:World)
theorem run_append_of_nil (base:Nat) (t ty e:TypeId) (i:TypeInfo) (size:Nat) (ht:P.underlying t=some (.slice e)) (hi:P.info? e=some i)
 (v:Value) (n:Nat) (xs:List Value) (hown:w.ownsRow base e size v n xs) (c:Nat):(Builtin.append_ #[t,t] ty #[v, .slice none 0 c]).run P w= .ok v w:=by
 rcases hown.2 with⟨rfl,rfl⟩|⟨g,cap,cur,rfl,_,_,hnc,_⟩
 · simp[Builtin.append_,run_underlying ht,sizeOf,typeInfo,hi,Builtin.lenOf,Builtin.firstCells]
 · simp[Builtin.append_,run_underlying ht,sizeOf,typeInfo,hi,Builtin.lenOf,Builtin.firstCells,hnc,storeCells]
theorem run_append_any (base:Nat) (t ty e:TypeId) (i:TypeInfo) (z:Value) (size bytes:Nat) (ht:P.underlying t=some (.slice e)) (hi:P.info? e=some i) (hz:i.zero=some z)
 (hsize:i.size=size) (hby:i.bytes=bytes) (hzs:z.cells.size=size) (hsz:0<size)
 (v:Value) (n:Nat) (xs:List Value) (hown:w.ownsRow base e size v n xs)
 (B:Nat) (A:Option Addr) (m c:Nat) (news:List Value) (hr:Reads w B size A m news) (h1: ∀u ∈ news,u.oneCell'=true)
 (h63:n+m≤maxLen) (hbytes:(n+m)*bytes≤140737488355328) (hbase:base≤w.heap.size):
 ∃v' w',(Builtin.append_ #[t,t] ty #[v, .slice A m c]).run P w= .ok v' w'∧w'.ownsRow base e size v' (n+m) (xs++news)∧w.grownBy w' v.ownBlock∧
  (v'.ownBlock=v.ownBlock∨v'.ownBlock=some w.heap.size):=by
 rcases A with _|ad
 · have hm:m=0:=by
    rcases Nat.eq_zero_or_pos m with h0|h0
    · exact h0
    · obtain⟨ad,h,_⟩:=hr.2 h0
      cases h
   subst hm
   have hn:news= []:=List.eq_nil_of_length_eq_zero (by simpa using hr.1)
   subst hn
   exact⟨v,w,run_append_of_nil w base t ty e i size ht hi v n xs hown c,by simpa using hown,World.grownBy.refl w _, .inl rfl⟩
 · have hcells: ∀j u,news[j]? =some u→w.cell? (ad.add j)=some u:=by
    intro j u hu
    rcases Nat.eq_zero_or_pos m with h0|h0
    · subst h0
      have hn:news= []:=List.eq_nil_of_length_eq_zero (by simpa using hr.1)
      subst hn
      simp at hu
    · obtain⟨ad',h,_,hc⟩:=hr.2 h0
      injection h with h
      subst h
      exact hc j u hu
   obtain⟨v',w',hrun,h2,h3,_,h5⟩:=run_append_own_at (P:=P) w base t ty e i z size bytes ht hi hz hsize hby hzs hsz v n xs hown ad m c news hr.1 hcells h1 h63 hbytes hbase
   exact⟨v',w',hrun,h2,h3,h5⟩
theorem wp_append_any {o:Oper} {a:Act} {K:Act→World→Prop} {Q:Exit→Act→World→Prop} (s x:Operand) (t:TypeId)
 (ho:o.op= .call {callee:= .builtin .append,args:= #[s,x],argTypes:= #[t,t]})
 (base:Nat) (e:TypeId) (i:TypeInfo) (z:Value) (size bytes:Nat) (ht:P.underlying t=some (.slice e)) (hi:P.info? e=some i) (hz:i.zero=some z)
 (hsize:i.size=size) (hby:i.bytes=bytes) (hzs:z.cells.size=size) (hsz:0<size)
 (v:Value) (n:Nat) (xs:List Value) (hs:a.eval s=v) (hown:w.ownsRow base e size v n xs)
 (B:Nat) (A:Option Addr) (m c:Nat) (news:List Value) (hx:a.eval x= .slice A m c) (hr:Reads w B size A m news) (h1: ∀u ∈ news,u.oneCell'=true)
 (h63:n+m≤maxLen) (hbytes:(n+m)*bytes≤140737488355328) (hbase:base≤w.heap.size)
 (h: ∀v' w',w'.ownsRow base e size v' (n+m) (xs++news)→w.grownBy w' v.ownBlock→(v'.ownBlock=v.ownBlock∨v'.ownBlock=some w.heap.size)→K (a.put o.dst v') w'):o.wp P a w K Q:=by
 obtain⟨v',w',hrun,h2,h3,h4⟩:=run_append_any (P:=P) w base t o.type e i z size bytes ht hi hz hsize hby hzs hsz v n xs hown B A m c news hr h1 h63 hbytes hbase
 unfold Oper.wp execOp
 simp only[ho,resolve,invoke,builtin,Sem.run_bind,Sem.run_pure,Result.andThen_ok,List.map_toArray,List.map_cons,List.map_nil,hs,hx,hrun]
 exact h v' w' h2 h3 h4
theorem wpList_append_any {ops:Array Oper} {rest:List Oper} {o:Oper} {a:Act} {Q:Exit→Act→World→Prop} (hgd:o.guard=none) (s x:Operand) (t:TypeId)
 (ho:o.op= .call {callee:= .builtin .append,args:= #[s,x],argTypes:= #[t,t]})
 (base:Nat) (e:TypeId) (i:TypeInfo) (z:Value) (size bytes:Nat) (ht:P.underlying t=some (.slice e)) (hi:P.info? e=some i) (hz:i.zero=some z)
 (hsize:i.size=size) (hby:i.bytes=bytes) (hzs:z.cells.size=size) (hsz:0<size)
 (v:Value) (n:Nat) (xs:List Value) (hs:a.eval s=v) (hown:w.ownsRow base e size v n xs)
 (B:Nat) (A:Option Addr) (m c:Nat) (news:List Value) (hx:a.eval x= .slice A m c) (hr:Reads w B size A m news) (h1: ∀u ∈ news,u.oneCell'=true)
 (h63:n+m≤maxLen) (hbytes:(n+m)*bytes≤140737488355328) (hbase:base≤w.heap.size)
 (h: ∀v' w',w'.ownsRow base e size v' (n+m) (xs++news)→w.grownBy w' v.ownBlock→(v'.ownBlock=v.ownBlock∨v'.ownBlock=some w.heap.size)→wpList P ops Q rest (a.put o.dst v') w'):wpList P ops Q (o::rest) a w:=
 wpList_plain hgd fun _ hK=>wp_append_any w s x t ho base e i z size bytes ht hi hz hsize hby hzs hsz v n xs hs hown B A m c news hx hr h1 h63 hbytes hbase fun v' w' h2 h3 h4=>hK _ _ (h v' w' h2 h3 h4)
end
end Go.Proofs.YtackmnbpfbaemaaGreatDoor

namespace Go.Proofs.YtackmnbpfbaemaaGreatDoor
open Go.RowKit Go.Shelf
def Bld (w:World) (B g o:Nat) (t:TypeId) (cs:Array Value) (bs:List UInt8):Prop:=
 B≤g∧w.heap[g]? =some (.cells cs t (0,0))∧t≠5∧o+1<cs.size∧(cs[o]? =some (.pointer none)∨cs[o]? =some (.pointer (some ⟨g,o,none⟩)))∧
  ∃v,cs[o+1]? =some v∧w.ownsRow B 5 1 v bs.length (Lib.byteCells bs)
def bldSet (g o:Nat) (cs:Array Value) (v:Value):Array Value:=(cs.setIfInBounds o (.pointer (some ⟨g,o,none⟩))).setIfInBounds (o+1) v
theorem Bld.lt {w:World} {B g o:Nat} {t:TypeId} {cs:Array Value} {bs:List UInt8} (h:Bld w B g o t cs bs):g<w.heap.size:=by
 rcases Nat.lt_or_ge g w.heap.size with h'|h'
 · exact h'
 · have:=h.2.1;simp[Array.getElem?_eq_none h']at this
abbrev Kept (g:Nat) (w w':World):Prop:=Lib.OthersKept 5 (some g) w w'
theorem setCell_heap {w:World} {g i:Nat} {cs:Array Value} {t:TypeId} (h:w.heap[g]? =some (.cells cs t (0,0))) (u:Value):(w.setCell ⟨g,i,none⟩ u).heap[g]? =some (.cells (cs.setIfInBounds i u) t (0,0)):=by
 simp[World.setCell,Array.getElem?_modify,h]
theorem Bld.used {w:World} {B g o:Nat} {t:TypeId} {cs:Array Value} {bs:List UInt8} (h:Bld w B g o t cs bs):
 Bld (w.setCell ⟨g,o,none⟩ (.pointer (some ⟨g,o,none⟩))) B g o t (cs.setIfInBounds o (.pointer (some ⟨g,o,none⟩))) bs:=by
 obtain⟨hB,hb,ht,hs,h0,v,h1,hown⟩:=h
 refine⟨hB,setCell_heap hb _,ht,by simpa using hs, .inr (by rw[Array.getElem?_setIfInBounds_self_of_lt (by omega)]),v,by rw[Array.getElem?_setIfInBounds,if_neg (by omega)];exact h1, ?_⟩
 exact hown.kept (row:=some g) ⟨rfl,rfl,rfl,by simp[World.setCell],fun k _ hk=>Below.heap_setCell _ _ _ _ (fun e=>hk (by simp[e]))⟩ (Or.inr (Lib.ownBlock_ne hown hb ht))
set_option maxHeartbeats 1000000 in
set_option maxRecDepth 100000 in
theorem copyCheck_calls (B g o:Nat) (t:TypeId) (cs:Array Value) (bs:List UInt8) (w:World) (h:Bld w B g o t cs bs) (hl:liesAt Tryz.prog Tryz.prog.depth t (cs.size / Tryz.prog.cellsOf t) o 128 1=true):
 Calls Tryz.prog 188 #[.pointer (some ⟨g,o,none⟩)] w fun e w'=>e= .returned (.tuple #[])∧Bld w' B g o t (cs.setIfInBounds o (.pointer (some ⟨g,o,none⟩))) bs∧Below B w w'∧Kept g w w':=by
 have hu:=h.used
 obtain⟨hB,hb,ht,hs,h0,v,h1,hown⟩:=h
 obtain⟨j,hj,hj2⟩: ∃j,Tryz.prog.info? 128=some j∧j.size=2:=by
  have:(Tryz.prog.info? 128).map (·.size)=some 2:=by kernel_rfl
  cases hq:Tryz.prog.info? 128 with
  |none=>simp[hq]at this
  |some j=>exact⟨j,rfl,by simpa[hq]using this⟩
 have hsh:w.shape? g=some (t,cs.size):=by simp[World.shape?,hb]
 rcases h0 with h0|h0
 · have c0:w.cell? ⟨g,o,none⟩=some (.pointer none):=by rw[Lib.cell_of_heap hb];exact h0
   have f0:w.frozen? ⟨g,o,none⟩=false:=Lib.frozen_of_heap hb o
   go_enter Tryz.func188,Tryz.ntmps188
   go_wp2
   rw[Lib.run_to_unsafe (P:=Tryz.prog) w (src:=126) (dst:=169) (t:=128) ⟨g,o,none⟩ Tryz.underlying126 Tryz.underlying169 hj (by omega) hsh (by show o<cs.size;omega)]
   simp only[Result.andThen]
   rw[Oper.upon_value]
   go_wp2
   rw[run_callFunc_extern Tryz.func213 (by kernel_rfl) (by kernel_rfl) (by kernel_rfl) (e:=Extern.AbiNoEscape.same) (by kernel_rfl)]
   rw[Lib.run_noEscape]
   simp only[Result.andThen]
   rw[Oper.upon_value]
   go_wp2
   rw[Lib.run_from_unsafe (P:=Tryz.prog) w (src:=169) (dst:=126) (u:=128) ⟨g,o,none⟩ Tryz.underlying169 Tryz.underlying126 hj hsh hl]
   simp only[Result.andThen]
   rw[Oper.upon_value]
   go_wp2
   go_end0
   exact⟨rfl,hu,(Below.refl B w).setCell (p:=⟨g,o,none⟩) hB _,(Lib.OthersKept.refl _ _ w).setCell ⟨g,o,none⟩ rfl _⟩
 · have c0:w.cell? ⟨g,o,none⟩=some (.pointer (some ⟨g,o,none⟩)):=by rw[Lib.cell_of_heap hb];exact h0
   have hself:cs.setIfInBounds o (.pointer (some ⟨g,o,none⟩))=cs:=by
    apply Array.ext_getElem?
    intro i
    rw[Array.getElem?_setIfInBounds]
    split
    · rename_i h
      subst h
      rw[if_pos (by omega),h0]
    · rfl
   have neq:=Lib.run_neq_ptr_same (P:=Tryz.prog) w (tp:=126) (te:=128) ⟨g,o,none⟩ Tryz.underlying126 hj
   go_enter Tryz.func188,Tryz.ntmps188
   go_wp2
   go_end0
   exact⟨rfl,by rw[hself];exact⟨hB,hb,ht,hs, .inr h0,v,h1,hown⟩,Below.refl _ _,Lib.OthersKept.refl _ _ _⟩
theorem infoByte:(Tryz.prog.info? 5).map (fun i=>(i.zero,i.size,i.bytes))=some (some (.int .u8 0),1,1):=by kernel_rfl
theorem Bld.put {w1 w2:World} {B g o:Nat} {t:TypeId} {cs:Array Value} {bs bs':List UInt8} (h:Bld w1 B g o t (cs.setIfInBounds o (.pointer (some ⟨g,o,none⟩))) bs) (hos:o+1<cs.size)
 (hb2:w2.heap[g]? =some (.cells (cs.setIfInBounds o (.pointer (some ⟨g,o,none⟩))) t (0,0))) {v':Value} (hown':w2.ownsRow B 5 1 v' bs'.length (Lib.byteCells bs')):
 Bld (w2.setCell ⟨g,o+1,none⟩ v') B g o t (bldSet g o cs v') bs':=by
 obtain⟨hB,_,ht,hs,h0,_⟩:=h
 refine⟨hB,setCell_heap hb2 _,ht,by simpa[bldSet]using hs, .inr ?_,v', ?_, ?_⟩
 · unfold bldSet
   rw[Array.getElem?_setIfInBounds,if_neg (by omega),Array.getElem?_setIfInBounds_self_of_lt (by omega)]
 · unfold bldSet
   rw[Array.getElem?_setIfInBounds_self_of_lt (by simpa using hs)]
 · exact hown'.kept (row:=some g) ⟨rfl,rfl,rfl,by simp[World.setCell],fun k _ hk=>Below.heap_setCell _ _ _ _ (fun e=>hk (by simp[e]))⟩ (Or.inr (Lib.ownBlock_ne hown' hb2 ht))
theorem ownsRow_kind {w:World} {B:Nat} {e:TypeId} {v:Value} {n:Nat} {xs:List Value} (h:w.ownsRow B e 1 v n xs): ∀g,v.ownBlock=some g→ ∃c fz,w.heap[g]? =some (.cells c e fz):=by
 intro g hg
 rcases h.2 with⟨rfl,_⟩|⟨g',cap,cur,rfl,_,hgg,_⟩
 · simp[Value.ownBlock]at hg
 · simp[Value.ownBlock]at hg
   subst hg
   exact⟨cur,_,hgg⟩
theorem byteCells_append (a b:List UInt8):Lib.byteCells (a++b)=Lib.byteCells a++Lib.byteCells b:=by simp[Lib.byteCells]
set_option maxHeartbeats 2000000 in
set_option maxRecDepth 100000 in
theorem WriteString_calls (B g o:Nat) (t:TypeId) (cs:Array Value) (bs:List UInt8) (s:ByteArray) (w:World) (h:Bld w B g o t cs bs) (hl:liesAt Tryz.prog Tryz.prog.depth t (cs.size / Tryz.prog.cellsOf t) o 128 1=true)
 (hlen:bs.length+s.size≤140737488355328) (hBw:B≤w.heap.size):
 Calls Tryz.prog 160 #[.pointer (some ⟨g,o,none⟩), .string s] w fun e w'=>e= .returned (.tuple #[.int .i64 s.size, .nilIface])∧
  (∃v,Bld w' B g o t (bldSet g o cs v) (bs++s.data.toList))∧Below B w w'∧Kept g w w':=by
 obtain⟨i0,hi,hz0,hz1,hz2⟩:=info_parts infoByte
 have hos:o+1<cs.size:=h.2.2.2.1
 go_enter Tryz.func160,Tryz.ntmps160
 go_wp2_with (go_at_call 188;refine(copyCheck_calls B g o t cs bs _ h hl).mono ?_)
 rintro e w1 ⟨rfl,h1,hb1,hk1⟩
 have h1':=h1
 obtain⟨hB,hbk,ht,hs,h0,v,hv,hown⟩:=h1
 have c1:w1.cell? ⟨g,o+1,none⟩=some v:=by rw[Lib.cell_of_heap hbk];exact hv
 clear h hv h0
 go_wp2_with (at_builtin;refine Lib.wpList_append_own_string _ rfl _ _ 25 9 rfl B 5 i0 Tryz.underlying25 Tryz.underlying9 hi hz0 hz1 hz2 _ _ _ rfl hown s rfl ?c3 ?c4 ?c5 ?_)
 case c3=>unfold maxLen;omega
 case c4=>omega
 case c5=>have:=hb1.size;omega
 intro v' w2 hown' hgrow _
 have hne:=Lib.ownBlock_ne hown hbk ht
 have hlt:g<w1.heap.size:=h1'.lt
 have hb2:w2.heap[g]? =some (.cells (cs.setIfInBounds o (.pointer (some ⟨g,o,none⟩))) t (0,0)):=by
  rw[hgrow.block g hlt (fun e=>hne e.symm)]
  exact hbk
 have d1:w2.cell? ⟨g,o+1,none⟩=some v:=by rw[Lib.cell_of_heap hb2,←Lib.cell_of_heap hbk];exact c1
 have f1:w2.frozen? ⟨g,o+1,none⟩=false:=Lib.frozen_of_heap hb2 _
 have hk2:=hk1.grown hgrow (ownsRow_kind hown)
 have hbw2:=hb1.grown hgrow (by have:=hb1.size;omega) (fun k hk=>(hown.lt k hk).1)
 obtain⟨ao,n',cap,rfl⟩: ∃ao n' cap,v'= .slice ao n' cap:=by
  rcases hown'.2 with⟨hv,_⟩|⟨g,cap,cur,hv,_⟩
  · exact⟨_,_,_,hv⟩
  · exact⟨_,_,_,hv⟩
 have hfin:=Bld.put h1' hos hb2 (bs':=bs++s.data.toList) (v':= .slice ao n' cap) (by
  rw[byteCells_append,List.length_append]
  have e:s.data.toList.length=s.size:=by rw[←Lib.size_eq]
  rw[e]
  exact hown')
 clear hown hown' hgrow c1 hbk hb2 h1' hb1 hk1 hne
 go_wp2
 go_ret2
 exact⟨rfl,⟨_,hfin⟩,hbw2.setCell (p:=⟨g,o+1,none⟩) hB _,hk2.setCell ⟨g,o+1,none⟩ rfl _⟩
set_option maxHeartbeats 2000000 in
set_option maxRecDepth 100000 in
theorem WriteByte_calls (B g o:Nat) (t:TypeId) (cs:Array Value) (bs:List UInt8) (c:Int) (hc0:0≤c) (hc1:c<256) (w:World) (h:Bld w B g o t cs bs) (hl:liesAt Tryz.prog Tryz.prog.depth t (cs.size / Tryz.prog.cellsOf t) o 128 1=true)
 (hlen:bs.length+1≤140737488355328) (hBw:B≤w.heap.size):
 Calls Tryz.prog 193 #[.pointer (some ⟨g,o,none⟩), .int .u8 c] w fun e w'=>e= .returned .nilIface∧
  (∃v,Bld w' B g o t (bldSet g o cs v) (bs++ [UInt8.ofNat c.toNat]))∧Below B w w'∧Kept g w w':=by
 obtain⟨i0,hi,hz0,hz1,hz2⟩:=info_parts infoByte
 have hos:o+1<cs.size:=h.2.2.2.1
 go_enter Tryz.func193,Tryz.ntmps193
 go_wp2_with (go_at_call 188;refine(copyCheck_calls B g o t cs bs _ h hl).mono ?_)
 rintro e w1 ⟨rfl,h1,hb1,hk1⟩
 have h1':=h1
 obtain⟨hB,hbk,ht,hs,h0,v,hv,hown⟩:=h1
 have c1:w1.cell? ⟨g,o+1,none⟩=some v:=by rw[Lib.cell_of_heap hbk];exact hv
 clear h hv h0
 go_wp2_with (at_builtin;refine wpList_append_own _ rfl _ _ 25 rfl B 5 i0 (.int .u8 0) 1 1 Tryz.underlying25 hi hz0 hz1 hz2 rfl (by decide) _ _ _ rfl (hown.alloc _) ⟨w1.heap.size,0,none⟩ 1 1 [.int .u8 c] rfl rfl ?c1 ?c2 ?c3 ?c4 ?c5 ?_)
 case c1=>
  intro j u hj
  match j,hj with
  |0,hj=>simp at hj;subst hj;simp[Addr.add]
 case c2=>intro u hu;simp at hu;subst hu;rfl
 case c3=>unfold maxLen;omega
 case c4=>omega
 case c5=>have:=hb1.size;simp;omega
 intro v' w2 hown' hgrow _
 have hne:=Lib.ownBlock_ne hown hbk ht
 have hlt:g<w1.heap.size:=h1'.lt
 have hb2:w2.heap[g]? =some (.cells (cs.setIfInBounds o (.pointer (some ⟨g,o,none⟩))) t (0,0)):=by
  rw[hgrow.block g (by simp;omega) (fun e=>hne e.symm),Lib.alloc_old w1 _ g hlt]
  exact hbk
 have d1:w2.cell? ⟨g,o+1,none⟩=some v:=by rw[Lib.cell_of_heap hb2,←Lib.cell_of_heap hbk];exact c1
 have f1:w2.frozen? ⟨g,o+1,none⟩=false:=Lib.frozen_of_heap hb2 _
 have hk2:=(hk1.alloc _).grown hgrow (ownsRow_kind (hown.alloc _))
 have hbw2:=(hb1.alloc (by have:=hb1.size;omega) _).grown hgrow (by have:=hb1.size;simp;omega) (fun k hk=>(hown.lt k hk).1)
 obtain⟨ao,n',cap,rfl⟩: ∃ao n' cap,v'= .slice ao n' cap:=by
  rcases hown'.2 with⟨hv,_⟩|⟨g,cap,cur,hv,_⟩
  · exact⟨_,_,_,hv⟩
  · exact⟨_,_,_,hv⟩
 have hfin:=Bld.put h1' hos hb2 (bs':=bs++ [UInt8.ofNat c.toNat]) (v':= .slice ao n' cap) (by
  rw[byteCells_append,List.length_append]
  have e:Lib.byteCells [UInt8.ofNat c.toNat]= [.int .u8 c]:=by
   simp[Lib.byteCells];omega
  rw[e]
  exact hown')
 clear hown hown' hgrow c1 hbk hb2 h1' hb1 hk1 hne
 go_wp2
 go_ret
 exact⟨rfl,⟨_,hfin⟩,hbw2.setCell (p:=⟨g,o+1,none⟩) hB _,hk2.setCell ⟨g,o+1,none⟩ rfl _⟩
theorem runeCells_bytes (r:Int):Lib.runeCells r=Lib.byteCells (Lib.encodeRune r):=(Lib.byteCells_encodeRune r).symm
set_option maxHeartbeats 2000000 in
set_option maxRecDepth 100000 in
theorem WriteRune_calls (B g o:Nat) (t:TypeId) (cs:Array Value) (bs:List UInt8) (r:Int) (hr0: -2147483648≤r) (hr1:r≤2147483647) (w:World) (h:Bld w B g o t cs bs) (hl:liesAt Tryz.prog Tryz.prog.depth t (cs.size / Tryz.prog.cellsOf t) o 128 1=true)
 (hlen:bs.length+4≤140737488355328) (hBw:B≤w.heap.size):
 Calls Tryz.prog 196 #[.pointer (some ⟨g,o,none⟩), .int .i32 r] w fun e w'=>(∃k:Int,e= .returned (.tuple #[.int .i64 k, .nilIface]))∧
  (∃v,Bld w' B g o t (bldSet g o cs v) (bs++Lib.encodeRune r))∧Below B w w'∧Kept g w w':=by
 have hos:o+1<cs.size:=h.2.2.2.1
 go_enter Tryz.func196,Tryz.ntmps196
 go_wp2_with (go_at_call 188;refine(copyCheck_calls B g o t cs bs _ h hl).mono ?_)
 rintro e w1 ⟨rfl,h1,hb1,hk1⟩
 have h1':=h1
 obtain⟨hB,hbk,ht,hs,h0,v,hv,hown⟩:=h1
 have c1:w1.cell? ⟨g,o+1,none⟩=some v:=by rw[Lib.cell_of_heap hbk];exact hv
 clear h hv h0
 obtain⟨ao,n0,cap,rfl⟩: ∃ao n' cap,v= .slice ao n' cap:=by
  rcases hown.2 with⟨hv,_⟩|⟨g,cap,cur,hv,_⟩
  · exact⟨_,_,_,hv⟩
  · exact⟨_,_,_,hv⟩
 go_wp2_with (go_at_call 220;refine(Tryz.utf8_AppendRune_plain B _ _ _ r hr0 hr1 _ hown (by omega) (by have:=hb1.size;omega)).mono ?_)
 rintro e w2 ⟨v',rfl,hown',ob,hgrow⟩
 have hne:=Lib.ownBlock_ne hown hbk ht
 have hlt:g<w1.heap.size:=h1'.lt
 have hb2:w2.heap[g]? =some (.cells (cs.setIfInBounds o (.pointer (some ⟨g,o,none⟩))) t (0,0)):=by
  rw[hgrow.block g (by simp;omega) (fun e=>hne e.symm),Lib.alloc_old w1 _ g hlt]
  exact hbk
 have d1:w2.cell? ⟨g,o+1,none⟩=some (.slice ao n0 cap):=by rw[Lib.cell_of_heap hb2,←Lib.cell_of_heap hbk];exact c1
 have f1:w2.frozen? ⟨g,o+1,none⟩=false:=Lib.frozen_of_heap hb2 _
 have hk2:=(hk1.alloc ob).grown hgrow (ownsRow_kind (hown.alloc _))
 have hbw2:=(hb1.alloc (by have:=hb1.size;omega) ob).grown hgrow (by have:=hb1.size;simp;omega) (fun k hk=>(hown.lt k hk).1)
 obtain⟨ao',n',cap',rfl⟩: ∃ao n' cap,v'= .slice ao n' cap:=by
  rcases hown'.2 with⟨hv,_⟩|⟨g,cap,cur,hv,_⟩
  · exact⟨_,_,_,hv⟩
  · exact⟨_,_,_,hv⟩
 have hfin:=Bld.put h1' hos hb2 (bs':=bs++Lib.encodeRune r) (v':= .slice ao' n' cap') (by
  rw[byteCells_append,List.length_append]
  rw[runeCells_bytes]at hown'
  simpa[Lib.byteCells]using hown')
 have e1:(w2.setCell ⟨g,o+1,none⟩ (.slice ao' n' cap')).cell? ⟨g,o+1,none⟩=some (.slice ao' n' cap'):=World.cell?_setCell_same' _ _ _ (by rw[d1];rfl)
 clear hown hown' hgrow c1 hbk hb2 h1' hb1 hk1 hne
 go_wp2
 go_ret2
 exact⟨⟨_,rfl⟩,⟨_,hfin⟩,hbw2.setCell (p:=⟨g,o+1,none⟩) hB _,hk2.setCell ⟨g,o+1,none⟩ rfl _⟩
set_option maxHeartbeats 2000000 in
set_option maxRecDepth 100000 in
theorem String_calls (B g o:Nat) (t:TypeId) (cs:Array Value) (l:List UInt8) (w:World) (h:Bld w B g o t cs l) (hl0:l≠ []):
 Calls Tryz.prog 75 #[.pointer (some ⟨g,o,none⟩)] w fun e w'=>e= .returned (.string ⟨l.toArray⟩)∧Below B w w'∧Kept g w w':=by
 obtain⟨hB,hbk,ht,hs,h0,v,hv,hown⟩:=h
 have hl1:l.length≠0:=by simpa using hl0
 obtain⟨gg,cap,cur,rfl,hbg,hg,hnc,hcm,hcs,htake⟩: ∃gg cap cur,v= .slice (some ⟨gg,0,none⟩) l.length cap∧B≤gg∧w.heap[gg]? =some (.cells cur 5 (0,0))∧l.length≤cap∧cap≤maxLen∧cur.size=cap*1∧cur.toList.take (l.length*1)=Lib.byteCells l:=by
  rcases hown.2 with⟨_,hz⟩|⟨gg,cap,cur,hv,r⟩
  · exact absurd hz hl1
  · exact⟨gg,cap,cur,hv,r⟩
 have c1:w.drew.cell? ⟨g,o+1,none⟩=some (.slice (some ⟨gg,0,none⟩) l.length cap):=by
  have:w.drew.heap[g]? =some (.cells cs t (0,0)):=hbk
  rw[Lib.cell_of_heap this];exact hv
 have hSD:(Builtin.unsafeSliceData_ #[25] 190 #[.slice (some ⟨gg,0,none⟩) l.length cap]).run Tryz.prog w.drew= .ok (.pointer (some ⟨gg,0,none⟩)) w.drew:=
  Lib.run_unsafeSliceData_row _ _ _ _ _ _ (by omega)
 have hUS:(Builtin.unsafeString_ #[190,3] 9 #[.pointer (some ⟨gg,0,none⟩), .int .i64 l.length]).run Tryz.prog w.drew= .ok (.string ⟨l.toArray⟩) (w.drew.freeze ⟨gg,0,none⟩ l.length):=by
  refine Lib.run_unsafeString_row w.drew 190 3 9 5 Tryz.underlying190 (by kernel_rfl) gg cur.size (by have hg':w.drew.heap[gg]? =some (.cells cur 5 (0,0)):=hg;simp[World.shape?,hg']) l hl0 (by omega) (by unfold maxLen at hcm;omega) ?_
  intro j x hx
  have:=hown.cells (g:=gg) rfl j (.int .u8 x.toNat) (by simp[Lib.byteCells,hx])
  exact this
 clear hv h0
 go_enter Tryz.func75,Tryz.ntmps75
 go_wp2
 go_region
 all_goals(go_wp2;go_ret;exact⟨rfl,Lib.below_freeze (Below.drew (Below.refl B w)) (p:=⟨gg,0,none⟩) hbg _,((Lib.OthersKept.refl _ _ w).drew).freeze ⟨gg,0,none⟩ _ ⟨cur,_,hg⟩⟩)
end Go.Proofs.YtackmnbpfbaemaaGreatDoor

namespace Go.Proofs.YtackmnbpfbaemaaGreatDoor
open Go.RowKit
def dgt (d:Nat):UInt8:=UInt8.ofNat (48+d)
def digs (u:Nat):List UInt8:=if _h:u=0 then []else digs (u / 10)++ [dgt (u % 10)]
termination_by u
decreasing_by omega
theorem digs_zero:digs 0= []:=by rw[digs,dif_pos rfl]
theorem digs_pos {u:Nat} (h:u≠0):digs u=digs (u / 10)++ [dgt (u % 10)]:=by rw[digs,dif_neg h]
theorem digs_dec (u:Nat):u≠0→digs u=Lib.decDigits u:=by
 induction u using Nat.strongRecOn with
 |_ u ih=>
  intro h
  rw[digs_pos h,Lib.decDigits]
  unfold dgt
  by_cases h10:u<10
  · rw[dif_pos h10,show u / 10=0 from by omega,digs_zero,show u % 10=u from by omega,List.nil_append]
  · rw[dif_neg h10,ih (u / 10) (by omega) (by omega)]
theorem digs_len {u:Nat} (h:(u:Int)≤9223372036854775808):(digs u).length≤30:=by
 by_cases h0:u=0
 · subst h0;rw[digs_zero];simp
 · rw[digs_dec u h0,Lib.decDigits_length]
   exact Nat.le_trans (Lib.nDigits_le20 u (by omega)) (by omega)
theorem run_cut (S:ByteArray) (d e:Nat) (hd:d≤e) (he:e≤S.size) (w:World):(Instr.slice 9 (.string S) (some (.int .i64 d)) (some (.int .i64 e)) none).run Tryz.prog w= .ok (.string (S.extract d e)) w:=by
 simp[Instr.slice,run_underlying Tryz.underlying9,Instr.sliceBounds,go_sem,hd,he]
theorem digit_at: ∀d:Fin 10,(⟨#[48,49,50,51,52,53,54,55,56,57]⟩:ByteArray).extract d.val (d.val+1)=⟨#[dgt d.val]⟩:=by decide
theorem run_digit (d:Nat) (hd:d<10) (w:World):(Instr.slice 9 (.string ⟨#[48,49,50,51,52,53,54,55,56,57]⟩) (some (.int .i64 d)) (some (.int .i64 ((d:Int)+1))) none).run Tryz.prog w= .ok (.string ⟨#[dgt d]⟩) w:=by
 have:=run_cut ⟨#[48,49,50,51,52,53,54,55,56,57]⟩ d (d+1) (by omega) (by show d+1≤10;omega) w
 rw[digit_at ⟨d,hd⟩]at this
 exact this
set_option maxRecDepth 20000 in
set_option maxHeartbeats 1000000 in
theorem digits_pos (a:Nat) (ha:a≠0) (hm:(a:Int)≤9223372036854775807) (w:World):
 Calls Tryz.prog 53 #[.int .i64 a] w fun e w'=>e= .returned (.string ⟨(Lib.itoa a).toArray⟩)∧w=w':=by
 have hi:Lib.itoa a=digs a:=by
  rw[digs_dec a ha,Lib.itoa,if_neg (by omega)];simp
 rw[hi]
 have hl:=digs_len (u:=a) (by omega)
 have H0:Hid (digs a++(⟨#[]⟩:ByteArray).data.toList=digs a):=by show _=_;simp
 clear hi
 go_enter Tryz.func53,Tryz.ntmps53
 have ha1:((a:Int)==0)=false:=by simp;omega
 go_wp2
 go_loop [3,4] (fun s m=> ∃(T:ByteArray) (u:Nat),s= .string T∧m= .int .i64 u∧u≤a∧Hid (digs u++T.data.toList=digs a)) (fun _ m=>(intOf m).toNat)
 case atStart=>exact⟨_,a,rfl,rfl,Nat.le_refl _,H0⟩
 case round=>
  obtain⟨T,u,rfl,rfl,hu,hT⟩:=hrel
  clear H0
  have hTs:T.size≤30:=by
   have h1:=congrArg List.length hT.out
   rw[List.length_append]at h1
   have h2:T.data.toList.length=T.size:=by rw[Array.length_toList];rfl
   omega
  by_cases hu0:u=0
  · subst hu0
    have hT':=hT.out
    rw[digs_zero,List.nil_append]at hT'
    have hE:(⟨(digs a).toArray⟩:ByteArray)=T:=by rw[←hT']
    have HE:=Lib.hid hE
    clear hT hT' hE ha1 hl
    have h0:((a:Int)<0)=False:=by simp
    go_wp2
    go_ret
    exact⟨by rw[HE.out];rfl,rfl⟩
  · have hu1:((u:Int)==0)=false:=by simp;omega
    have hT':Hid (digs (u / 10)++((⟨#[dgt (u % 10)]⟩:ByteArray)++T).data.toList=digs a):=by
     have:=hT.out
     rw[digs_pos hu0]at this
     show _=_
     rw[←this,ByteArray.data_append,Array.toList_append]
     simp
    have hd:=run_digit (u % 10) (by omega) w
    have hm10:(u:Int) % 10=((u % 10:Nat):Int):=by omega
    have hq10:(u:Int) / 10=((u / 10:Nat):Int):=by omega
    have hlt:u % 10<10:=by omega
    have hqu:u / 10<u:=by omega
    generalize u % 10=d at*
    generalize u / 10=q at*
    have hdn:decide ((d:Int)<0)=false:=by simp
    clear hT ha1 hl
    go_wp2
    go_round
    case rel=>exact⟨_,q,rfl,rfl,by omega,hT'⟩
    case measure=>simp[intOf];omega
set_option maxRecDepth 20000 in
set_option maxHeartbeats 1000000 in
theorem digits_neg (a:Nat) (ha:a≠0) (hm:(a:Int)≤9223372036854775808) (n:Int) (hn:n= -(a:Int)) (w:World):
 Calls Tryz.prog 53 #[.int .i64 n] w fun e w'=>e= .returned (.string ⟨(Lib.itoa n).toArray⟩)∧w=w':=by
 have hi:Lib.itoa n=45::digs a:=by
  rw[digs_dec a ha,Lib.itoa,if_pos (by omega),hn];simp
 rw[hi]
 have hl:=digs_len (u:=a) (by omega)
 have H0:Hid (digs a++(⟨#[]⟩:ByteArray).data.toList=digs a):=by show _=_;simp
 have Hn:=Lib.hid hn
 have hn1:(n==0)=false:=by simp;omega
 have hn2:n<0:=by omega
 clear hi hn
 go_enter Tryz.func53,Tryz.ntmps53
 go_wp2
 go_loop [3,4] (fun s m=> ∃(T:ByteArray) (M:Int) (u:Nat),s= .string T∧m= .int .i64 M∧Hid (M= -(u:Int))∧u≤a∧Hid (digs u++T.data.toList=digs a)) (fun _ m=>(-(intOf m)).toNat)
 case atStart=>exact⟨_,n,a,rfl,rfl,Hn,Nat.le_refl _,H0⟩
 case round=>
  obtain⟨T,M,u,rfl,rfl,hM,hu,hT⟩:=hrel
  clear H0
  have hTs:T.size≤30:=by
   have h1:=congrArg List.length hT.out
   rw[List.length_append]at h1
   have h2:T.data.toList.length=T.size:=by rw[Array.length_toList];rfl
   omega
  have hMu:=hM.out
  by_cases hu0:u=0
  · subst hu0
    obtain rfl:M=0:=by simpa using hMu
    have hT':=hT.out
    rw[digs_zero,List.nil_append]at hT'
    have hE:(⟨(45::digs a).toArray⟩:ByteArray)=⟨#[45]⟩++T:=by
     apply ByteArray.ext
     rw[ByteArray.data_append]
     apply Array.ext'
     rw[Array.toList_append,hT']
     simp
    have HE:=Lib.hid hE
    clear hT hT' hE hn1 hl hM hMu
    go_wp2
    go_ret
    exact⟨by rw[HE.out];rfl,rfl⟩
  · have hT':Hid (digs (u / 10)++((⟨#[dgt (u % 10)]⟩:ByteArray)++T).data.toList=digs a):=by
     have:=hT.out
     rw[digs_pos hu0]at this
     show _=_
     rw[←this,ByteArray.data_append,Array.toList_append]
     simp
    have hM1:(M==0)=false:=by simp;omega
    have hM2: -9223372036854775808≤M:=by omega
    have hM3:M<0:=by omega
    have hd:=run_digit (u % 10) (by omega) w
    obtain⟨D,hD⟩: ∃D,M.tmod 10=D:=⟨_,rfl⟩
    obtain⟨Q,hQ⟩: ∃Q,M.tdiv 10=Q:=⟨_,rfl⟩
    have hD':D= -((u % 10:Nat):Int):=by
     rw[←hD,hMu,Int.neg_tmod,Int.tmod_eq_emod_of_nonneg (by omega)];omega
    have hQ':Q= -((u / 10:Nat):Int):=by
     rw[←hQ,hMu,Int.neg_tdiv,Int.tdiv_eq_ediv_of_nonneg (by omega)];omega
    have hlt:u % 10<10:=by omega
    have hqu:u / 10<u:=by omega
    generalize u % 10=d at*
    generalize u / 10=q at*
    have HQ:=Lib.hid hQ'
    have hMQ:M<Q:=by omega
    have hQ1: -9223372036854775808≤Q:=by omega
    have hQ2:Q≤0:=by omega
    have hQ3:Q≤9223372036854775807:=by omega
    by_cases hd0:d=0
    · subst hd0
      obtain rfl:D=0:=by simpa using hD'
      have hd1:(Instr.slice 9 (.string ⟨#[48,49,50,51,52,53,54,55,56,57]⟩) (some (.int .i64 0)) (some (.int .i64 1)) none).run Tryz.prog w= .ok (.string ⟨#[dgt 0]⟩) w:=hd
      clear hT hn1 hl hM hD' hQ' hMu hd
      go_wp2
      go_round
      case rel=>exact⟨_,Q,q,rfl,rfl,HQ,by omega,hT'⟩
      case measure=>simp only[intOf];omega
    · have hDn:D<0:=by omega
      have hDb: -10<D:=by omega
      have hDd: -D=(d:Int):=by omega
      clear hT hn1 hl hM hD' hQ'
      clear hMu
      go_wp2
      go_round
      case rel=>exact⟨_,Q,q,rfl,rfl,HQ,by omega,hT'⟩
      case measure=>simp only[intOf];omega
theorem digits_calls (n:Int) (h1: -9223372036854775808≤n) (h2:n≤9223372036854775807) (w:World):
 Calls Tryz.prog 53 #[.int .i64 n] w fun e w'=>e= .returned (.string ⟨(Lib.itoa n).toArray⟩)∧w=w':=by
 by_cases h0:n=0
 · subst h0
   have e:(⟨(Lib.itoa 0).toArray⟩:ByteArray)=⟨#[48]⟩:=by
    have:Lib.itoa 0= [48]:=by
     rw[Lib.itoa,if_neg (by omega)]
     exact Lib.decDigits_one (i:=0) (by omega)
    rw[this]
   rw[e]
   go_enter Tryz.func53,Tryz.ntmps53
   go_wp2
   go_ret
   exact⟨rfl,rfl⟩
 · rcases Int.lt_or_le n 0 with h|h
   · exact digits_neg n.natAbs (by omega) (by omega) n (by omega) w
   · have:=digits_pos n.toNat (by omega) (by omega) w
     rwa [show((n.toNat:Nat):Int)=n from by omega]at this
end Go.Proofs.YtackmnbpfbaemaaGreatDoor
