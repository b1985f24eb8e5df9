/- Parts, joined: The data that the walks speak of: values as trees, and how they lie in memory. No condition. Whether a value has anything that its kind does not name: the program's function and the reference's. No condition. commonplaceref01.Bytes: a rune's bytes. Condition: a rune of Unicode, no surrogate. strings.Builder wherever it lies (a block of its own, or a field of a struct that the call made): its methods' contracts. Condition: at most 2^47 bytes. -/
import Derived.WalkKit
import Derived.Below
import Derived.Test.YtkkbplakgldlpaaGreatDoorProg
import Derived.BigQuiet
import Derived.Deep.QuietTactic
import Derived.WalkLawsBesides
import Derived.WalkSpells
import Derived.Lib.Hide
import Derived.Lib.Strings
import Derived.Lib.RuneBytes
import Derived.IntWalk
import Derived.Laws.IdiomStrings
import Derived.Lib.Builder
import Derived.Test.YtkkbplakgldlpaaGreatDoorZShelf
import Derived.Lib.OthersKept
import Derived.Lib.FrozenHead2
import Derived.Shelf.Strings.BuilderK
namespace Go.Proofs.YtkkbplakgldlpaaGreatDoor
open Go.RowKit
inductive Val where
 |mk (k:Int) (b:Bool) (n:Int) (t:ByteArray) (l:List Val) (o:List (ByteArray×Val))
abbrev cells6 (k:Int) (b:Bool) (n:Int) (t:ByteArray) (la:Option Addr) (ln lc:Nat) (oa:Option Addr) (on oc:Nat):List Value:=
 [.int .i64 k,.bool b,.int .i64 n,.string t,.slice la ln lc,.slice oa on oc]
mutual
def HoldsV (w:World) (B:Nat):Val→List Value→Prop
 | .mk k b n t l o,cs=> ∃la lc oa oc,cs=cells6 k b n t la l.length lc oa o.length oc∧
    (l= []∨ ∃g off,la=some ⟨g,off,none⟩∧g<B∧HoldsL w B l g off)∧
    (o= []∨ ∃g off,oa=some ⟨g,off,none⟩∧g<B∧HoldsO w B o g off)
def HoldsL (w:World) (B:Nat):List Val→Nat→Nat→Prop
 | [],_,_=>True
 |v::r,g,off=>(∃cs,HoldsV w B v cs∧ ∀j u,cs[j]? =some u→w.cell? ⟨g,off+j,none⟩=some u)∧HoldsL w B r g (off+6)
def HoldsO (w:World) (B:Nat):List (ByteArray×Val)→Nat→Nat→Prop
 | [],_,_=>True
 |p::r,g,off=>HoldsP w B p g off∧HoldsO w B r g (off+7)
def HoldsP (w:World) (B:Nat):ByteArray×Val→Nat→Nat→Prop
 |(key,v),g,off=>w.cell? ⟨g,off,none⟩=some (.string key)∧ ∃cs,HoldsV w B v cs∧ ∀j u,cs[j]? =some u→w.cell? ⟨g,off+1+j,none⟩=some u
end
mutual
def Val.bulk:Val→Nat
 | .mk _ _ _ t l o=>6+t.size+bulkL l+bulkO o
def bulkL:List Val→Nat
 | []=>0
 |v::r=>v.bulk+bulkL r
def bulkO:List (ByteArray×Val)→Nat
 | []=>0
 |p::r=>bulkP p+bulkO r
def bulkP:ByteArray×Val→Nat
 |(key,v)=>1+key.size+v.bulk
end
theorem Val.ind {p:Val→Prop} (h: ∀k b n t l o,(∀v ∈ l,p v)→(∀m ∈ o,p m.2)→p (.mk k b n t l o)): ∀v,p v:=by
 intro v
 refine Val.rec (motive_1:=p) (motive_2:=fun l=> ∀v ∈ l,p v) (motive_3:=fun o=> ∀m ∈ o,p m.2) (motive_4:=fun m=>p m.2) ?_ ?_ ?_ ?_ ?_ ?_ v
 · intro k b n t l o hl ho
   exact h k b n t l o hl ho
 · intro v hv
   cases hv
 · intro v r hv hr x hx
   rcases List.mem_cons.1 hx with rfl|hx
   · exact hv
   · exact hr x hx
 · intro m hm
   cases hm
 · intro m r hm hr x hx
   rcases List.mem_cons.1 hx with rfl|hx
   · exact hm
   · exact hr x hx
 · intro k v hv
   exact hv
theorem HoldsL.of_keep {w w':World} {B:Nat} (hk: ∀p:Addr,p.block<B→w'.cell? p=w.cell? p):
 ∀(l:List Val),(∀v ∈ l,∀cs,HoldsV w B v cs→HoldsV w' B v cs)→ ∀g off,g<B→HoldsL w B l g off→HoldsL w' B l g off
 | [],_,_,_,_,_=>by simp[HoldsL]
 |v::r,ih,g,off,hg,h=>by
  simp only[HoldsL]at h ⊢
  obtain⟨⟨cs,hv,hc⟩,hr⟩:=h
  exact⟨⟨cs,ih v (by simp) cs hv,fun j u hu=>(hk _ hg).trans (hc j u hu)⟩,HoldsL.of_keep hk r (fun x hx=>ih x (by simp[hx])) g _ hg hr⟩
theorem HoldsO.of_keep {w w':World} {B:Nat} (hk: ∀p:Addr,p.block<B→w'.cell? p=w.cell? p):
 ∀(l:List (ByteArray×Val)),(∀m ∈ l,∀cs,HoldsV w B m.2 cs→HoldsV w' B m.2 cs)→ ∀g off,g<B→HoldsO w B l g off→HoldsO w' B l g off
 | [],_,_,_,_,_=>by simp[HoldsO]
 |(key,v)::r,ih,g,off,hg,h=>by
  simp only[HoldsO,HoldsP]at h ⊢
  obtain⟨⟨h0,cs,hv,hc⟩,hr⟩:=h
  exact⟨⟨(hk _ hg).trans h0,cs,ih (key,v) (by simp) cs hv,fun j u hu=>(hk _ hg).trans (hc j u hu)⟩,HoldsO.of_keep hk r (fun x hx=>ih x (by simp[hx])) g _ hg hr⟩
theorem HoldsV.keep {w w':World} {B:Nat} (hk: ∀p:Addr,p.block<B→w'.cell? p=w.cell? p): ∀(v:Val) cs,HoldsV w B v cs→HoldsV w' B v cs:=by
 refine Val.ind ?_
 intro k b n t l o hl ho cs h
 simp only[HoldsV]at h ⊢
 obtain⟨la,lc,oa,oc,hcs,h1,h2⟩:=h
 refine⟨la,lc,oa,oc,hcs, ?_, ?_⟩
 · rcases h1 with h1|⟨g,off,ha,hg,h1⟩
   · exact .inl h1
   · exact .inr ⟨g,off,ha,hg,HoldsL.of_keep hk l hl g off hg h1⟩
 · rcases h2 with h2|⟨g,off,ha,hg,h2⟩
   · exact .inl h2
   · exact .inr ⟨g,off,ha,hg,HoldsO.of_keep hk o ho g off hg h2⟩
theorem HoldsV.below {w w':World} {B:Nat} {v:Val} {cs:List Value} (h:HoldsV w B v cs) (hb:Below B w w'):HoldsV w' B v cs:=HoldsV.keep (fun _ hp=>hb.cell hp) v cs h
theorem HoldsL.keep {w w':World} {B:Nat} (hk: ∀p:Addr,p.block<B→w'.cell? p=w.cell? p) {l:List Val} {g off:Nat} (hg:g<B) (h:HoldsL w B l g off):HoldsL w' B l g off:=
 HoldsL.of_keep hk l (fun v _=>HoldsV.keep hk v) g off hg h
theorem HoldsO.keep {w w':World} {B:Nat} (hk: ∀p:Addr,p.block<B→w'.cell? p=w.cell? p) {l:List (ByteArray×Val)} {g off:Nat} (hg:g<B) (h:HoldsO w B l g off):HoldsO w' B l g off:=
 HoldsO.of_keep hk l (fun m _=>HoldsV.keep hk m.2) g off hg h
theorem HoldsL.below {w w':World} {B:Nat} {l:List Val} {g off:Nat} (hg:g<B) (h:HoldsL w B l g off) (hb:Below B w w'):HoldsL w' B l g off:=HoldsL.keep (fun _ hp=>hb.cell hp) hg h
theorem HoldsO.below {w w':World} {B:Nat} {l:List (ByteArray×Val)} {g off:Nat} (hg:g<B) (h:HoldsO w B l g off) (hb:Below B w w'):HoldsO w' B l g off:=HoldsO.keep (fun _ hp=>hb.cell hp) hg h
theorem HoldsL.of_more {w:World} {B B':Nat}: ∀(l:List Val),(∀v ∈ l,∀cs,HoldsV w B v cs→HoldsV w B' v cs)→ ∀g off,HoldsL w B l g off→HoldsL w B' l g off
 | [],_,_,_,_=>by simp[HoldsL]
 |v::r,ih,g,off,h=>by
  simp only[HoldsL]at h ⊢
  obtain⟨⟨cs,hv,hc⟩,hr⟩:=h
  exact⟨⟨cs,ih v (by simp) cs hv,hc⟩,HoldsL.of_more r (fun x hx=>ih x (by simp[hx])) g _ hr⟩
theorem HoldsO.of_more {w:World} {B B':Nat}: ∀(l:List (ByteArray×Val)),(∀m ∈ l,∀cs,HoldsV w B m.2 cs→HoldsV w B' m.2 cs)→ ∀g off,HoldsO w B l g off→HoldsO w B' l g off
 | [],_,_,_,_=>by simp[HoldsO]
 |(key,v)::r,ih,g,off,h=>by
  simp only[HoldsO,HoldsP]at h ⊢
  obtain⟨⟨h0,cs,hv,hc⟩,hr⟩:=h
  exact⟨⟨h0,cs,ih (key,v) (by simp) cs hv,hc⟩,HoldsO.of_more r (fun x hx=>ih x (by simp[hx])) g _ hr⟩
theorem HoldsV.more {w:World} {B B':Nat} (hB:B≤B'): ∀(v:Val) cs,HoldsV w B v cs→HoldsV w B' v cs:=by
 refine Val.ind ?_
 intro k b n t l o hl ho cs h
 simp only[HoldsV]at h ⊢
 obtain⟨la,lc,oa,oc,hcs,h1,h2⟩:=h
 refine⟨la,lc,oa,oc,hcs, ?_, ?_⟩
 · rcases h1 with h1|⟨g,off,ha,hg,h1⟩
   · exact .inl h1
   · exact .inr ⟨g,off,ha,by omega,HoldsL.of_more l hl g off h1⟩
 · rcases h2 with h2|⟨g,off,ha,hg,h2⟩
   · exact .inl h2
   · exact .inr ⟨g,off,ha,by omega,HoldsO.of_more o ho g off h2⟩
theorem HoldsL.at_ {w:World} {B:Nat}: ∀{l:List Val} {g off:Nat},HoldsL w B l g off→ ∀{i:Nat} {v:Val},l[i]? =some v→
 ∃cs,HoldsV w B v cs∧ ∀j u,cs[j]? =some u→w.cell? ⟨g,off+i*6+j,none⟩=some u
 | [],_,_,_,i,v,hi=>by simp at hi
 |x::r,g,off,h,0,v,hi=>by
  simp only[HoldsL]at h
  obtain⟨h,_⟩:=h
  simp at hi
  subst hi
  simpa using h
 |x::r,g,off,h,i+1,v,hi=>by
  simp only[HoldsL]at h
  obtain⟨cs,hv,hc⟩:=HoldsL.at_ h.2 (i:=i) (v:=v) (by simpa using hi)
  exact⟨cs,hv,fun j u hu=>by rw[show off+(i+1)*6+j=off+6+i*6+j from by omega];exact hc j u hu⟩
theorem HoldsO.at_ {w:World} {B:Nat}: ∀{l:List (ByteArray×Val)} {g off:Nat},HoldsO w B l g off→ ∀{i:Nat} {m:ByteArray×Val},l[i]? =some m→
 w.cell? ⟨g,off+i*7,none⟩=some (.string m.1)∧ ∃cs,HoldsV w B m.2 cs∧ ∀j u,cs[j]? =some u→w.cell? ⟨g,off+i*7+1+j,none⟩=some u
 | [],_,_,_,i,v,hi=>by simp at hi
 |x::r,g,off,h,0,v,hi=>by
  simp only[HoldsO]at h
  obtain⟨h,_⟩:=h
  simp at hi
  subst hi
  obtain⟨key,v⟩:=x
  simpa only[HoldsP,Nat.zero_mul,Nat.add_zero]using h
 |x::r,g,off,h,i+1,m,hi=>by
  simp only[HoldsO]at h
  obtain⟨h0,cs,hv,hc⟩:=HoldsO.at_ h.2 (i:=i) (m:=m) (by simpa using hi)
  exact⟨by rw[show off+(i+1)*7=off+7+i*7 from by omega];exact h0,cs,hv,fun j u hu=>by rw[show off+(i+1)*7+1+j=off+7+i*7+1+j from by omega];exact hc j u hu⟩
theorem HoldsL.six {w:World} {B:Nat} {l:List Val} {g off:Nat} (h:HoldsL w B l g off) {i:Nat} {k:Int} {b:Bool} {n:Int} {t:ByteArray} {l':List Val} {o':List (ByteArray×Val)} (hi:l[i]? =some (.mk k b n t l' o')):
 ∃la lc oa oc,HoldsV w B (.mk k b n t l' o') (cells6 k b n t la l'.length lc oa o'.length oc)∧w.cell? ⟨g,off+i*6,none⟩=some (.int .i64 k)∧w.cell? ⟨g,off+i*6+1,none⟩=some (.bool b)∧
  w.cell? ⟨g,off+i*6+2,none⟩=some (.int .i64 n)∧w.cell? ⟨g,off+i*6+3,none⟩=some (.string t)∧w.cell? ⟨g,off+i*6+4,none⟩=some (.slice la l'.length lc)∧
  w.cell? ⟨g,off+i*6+5,none⟩=some (.slice oa o'.length oc):=by
 obtain⟨cs,hv,hc⟩:=h.at_ hi
 have hv':=hv
 simp only[HoldsV]at hv'
 obtain⟨la,lc,oa,oc,rfl,_,_⟩:=hv'
 exact⟨la,lc,oa,oc,hv,hc 0 _ rfl,hc 1 _ rfl,hc 2 _ rfl,hc 3 _ rfl,hc 4 _ rfl,hc 5 _ rfl⟩
theorem HoldsO.seven {w:World} {B:Nat} {l:List (ByteArray×Val)} {g off:Nat} (h:HoldsO w B l g off) {i:Nat} {key:ByteArray} {k:Int} {b:Bool} {n:Int} {t:ByteArray} {l':List Val} {o':List (ByteArray×Val)} (hi:l[i]? =some (key,.mk k b n t l' o')):
 ∃la lc oa oc,HoldsV w B (.mk k b n t l' o') (cells6 k b n t la l'.length lc oa o'.length oc)∧w.cell? ⟨g,off+i*7,none⟩=some (.string key)∧w.cell? ⟨g,off+i*7+1,none⟩=some (.int .i64 k)∧w.cell? ⟨g,off+i*7+2,none⟩=some (.bool b)∧
  w.cell? ⟨g,off+i*7+3,none⟩=some (.int .i64 n)∧w.cell? ⟨g,off+i*7+4,none⟩=some (.string t)∧w.cell? ⟨g,off+i*7+5,none⟩=some (.slice la l'.length lc)∧
  w.cell? ⟨g,off+i*7+6,none⟩=some (.slice oa o'.length oc):=by
 obtain⟨h0,cs,hv,hc⟩:=h.at_ hi
 have hv':=hv
 simp only[HoldsV]at hv'
 obtain⟨la,lc,oa,oc,rfl,_,_⟩:=hv'
 exact⟨la,lc,oa,oc,hv,h0,hc 0 _ rfl,hc 1 _ rfl,hc 2 _ rfl,hc 3 _ rfl,hc 4 _ rfl,hc 5 _ rfl⟩
theorem bulkL_mem {l:List Val} {v:Val} (h:v ∈ l):v.bulk≤bulkL l:=by
 induction l with
 |nil=>cases h
 |cons x r ih=>
  simp only[bulkL]
  rcases List.mem_cons.1 h with rfl|h
  · omega
  · have:=ih h;omega
theorem bulkO_mem {l:List (ByteArray×Val)} {m:ByteArray×Val} (h:m ∈ l):1+m.1.size+m.2.bulk≤bulkO l:=by
 induction l with
 |nil=>cases h
 |cons x r ih=>
  obtain⟨k,v⟩:=x
  simp only[bulkO,bulkP]
  rcases List.mem_cons.1 h with rfl|h
  · simp only;omega
  · have:=ih h;omega
theorem Val.bulk_pos (v:Val):6≤v.bulk:=by
 obtain⟨k,b,n,t,l,o⟩:=v
 simp only[Val.bulk];omega
theorem bulkL_len (l:List Val):6*l.length≤bulkL l:=by
 induction l with
 |nil=>simp[bulkL]
 |cons x r ih=>simp only[bulkL,List.length_cons];have:=x.bulk_pos;omega
theorem bulkO_len (l:List (ByteArray×Val)):7*l.length≤bulkO l:=by
 induction l with
 |nil=>simp[bulkO]
 |cons x r ih=>obtain⟨k,v⟩:=x;simp only[bulkO,bulkP,List.length_cons];have:=v.bulk_pos;omega
mutual
def inV:Val→Prop
 | .mk _ _ n _ l o=>(-9223372036854775808≤n∧n≤9223372036854775807)∧inL l∧inO o
def inL:List Val→Prop
 | []=>True
 |v::r=>inV v∧inL r
def inO:List (ByteArray×Val)→Prop
 | []=>True
 |p::r=>inP p∧inO r
def inP:ByteArray×Val→Prop
 |(_,v)=>inV v
end
end Go.Proofs.YtkkbplakgldlpaaGreatDoor

namespace Go.Proofs.YtkkbplakgldlpaaGreatDoor
open Go.RowKit
def oddB (k:Int) (b:Bool) (n:Int) (t:ByteArray) (ln on:Nat):Bool:=
 if k==1 then b||n != 0|| !t.toList.isEmpty||ln != 0||on != 0
 else if k==2 then n != 0|| !t.toList.isEmpty||ln != 0||on != 0
 else if k==3 then b|| !t.toList.isEmpty||ln != 0||on != 0
 else if k==4 then b||n != 0||ln != 0||on != 0
 else if k==5 then b||n != 0|| !t.toList.isEmpty||on != 0
 else if k==6 then b||n != 0|| !t.toList.isEmpty||ln != 0
 else true
set_option maxHeartbeats 1000000 in
theorem odd_calls (k:Int) (b:Bool) (n:Int) (t:ByteArray) (la oa:Option Addr) (ln lc on oc:Nat) (w:World):
 Calls Tryz.prog 132 #[.agg #[.int .i64 k,.bool b,.int .i64 n,.string t,.slice la ln lc,.slice oa on oc]] w fun e w'=>e=.returned (.bool (oddB k b n t ln on))∧Below w.heap.size w w':=by
 go_enter Tryz.func132,Tryz.ntmps132
 go_wp2
 all_goals go_ret
 all_goals simp only[oddB, *]
 all_goals refine⟨by first|(simp_all;done)|(simp_all;omega)|(simp_all;rw[Bool.eq_iff_iff];simp[Nat.pos_iff_ne_zero]), ?_⟩
 all_goals exact Below.alloc (Below.refl _ _) (Nat.le_refl _) _
theorem toList_ne {t:ByteArray} (h: ¬t=ByteArray.empty):t.toList≠ []:=by
 intro e
 rw[Lib.toList_data]at e
 apply h
 have:t.data= #[]:=by simpa using e
 exact ByteArray.ext this
theorem ret_bool {a b:Bool} (h:a=b):Ending.returned (.bool a)=.returned (.bool b):=by rw[h]
theorem cast_beq (n:Nat):((n:Int)==0)=(n==0):=by rw[Bool.eq_iff_iff];simp
set_option maxHeartbeats 2000000 in
theorem bare_calls (k:Int) (b:Bool) (n:Int) (t:ByteArray) (la oa:Option Addr) (ln lc on oc:Nat) (w:World):
 Calls Tryz.prog 189 #[.agg #[.int .i64 k,.bool b,.int .i64 n,.string t,.slice la ln lc,.slice oa on oc]] w fun e w'=>e=.returned (.bool (!oddB k b n t ln on))∧Below w.heap.size w w':=by
 rcases(by omega:k=1∨k=2∨k=3∨k=4∨k=5∨k=6∨k<1∨6<k)with rfl|rfl|rfl|rfl|rfl|rfl|h|h
 all_goals
  go_enter Tryz.func189,Tryz.ntmps189
  go_wp2
  all_goals go_ret
  all_goals refine⟨ret_bool ?_,Below.alloc (Below.refl _ _) (Nat.le_refl _) _⟩
  all_goals simp only[oddB,cast_beq]
 all_goals first|(simp_all[toList_ne];done)|(subst_vars;simp_all[bne];done)|(rw[if_neg (by simp;omega),if_neg (by simp;omega),if_neg (by simp;omega),if_neg (by simp;omega),if_neg (by simp;omega),if_neg (by simp;omega)];rfl)|skip
end Go.Proofs.YtkkbplakgldlpaaGreatDoor

namespace Go.Proofs.YtkkbplakgldlpaaGreatDoor
open Go.RowKit
theorem u8_back {z:Int} (h0:0≤z) (h1:z<256):((z.toNat.toUInt8).toNat:Int)=z:=by
 have:z.toNat<256:=by omega
 simp[Nat.toUInt8,UInt8.toNat_ofNat',Nat.mod_eq_of_lt this]
 omega
theorem run_bytes (w:World) (zs:List Int) (hz: ∀z ∈ zs,0≤z∧z<256) (t:TypeId):
 (convert 111 9 (.slice (some ⟨w.heap.size,0,none⟩) zs.length zs.length)).run Tryz.prog (w.alloc (.cells (zs.map (Value.int .u8)).toArray t))=.ok (.string ⟨(zs.map fun z=>z.toNat.toUInt8).toArray⟩) (w.alloc (.cells (zs.map (Value.int .u8)).toArray t)):=by
 have:=run_convert_bytes_back (P:=Tryz.prog) (w.alloc (.cells (zs.map (Value.int .u8)).toArray t)) 111 9 5 ⟨w.heap.size,0,none⟩ zs.length (zs.map fun z=>z.toNat.toUInt8) Tryz.underlying111 Tryz.underlying5 Tryz.underlying9 (by
  intro j hj
  rw[List.length_map]at hj
  have hh:(w.alloc (.cells (zs.map (Value.int .u8)).toArray t)).heap[w.heap.size]? =some (.cells (zs.map (Value.int .u8)).toArray t (0,0)):=heap_alloc_new _ _
  rw[show(⟨w.heap.size,0,none⟩:Addr).add j=⟨w.heap.size,j,none⟩from by unfold Addr.add;split<;>simp_all]
  rw[Lib.cell_of_heap hh]
  simp only[List.getElem?_toArray,List.getElem?_map,List.getElem?_eq_getElem hj,Option.map_some,List.getElem_map]
  rw[u8_back (hz _ (List.getElem_mem hj)).1 (hz _ (List.getElem_mem hj)).2])
 rwa [List.length_map]at this
set_option maxRecDepth 20000 in
set_option maxHeartbeats 1000000 in
theorem RBytes_calls (r:Int) (h0:0≤r) (h1:r≤1114111) (hs: ¬(55296≤r∧r<57344)) (w:World):
 Calls Tryz.prog 87 #[.int .i64 r] w fun e w'=>e=.returned (.string ⟨(Lib.encodeRune r).toArray⟩)∧Below w.heap.size w w':=by
 by_cases c1:r<128
 · have e:Lib.encodeRune r= [r].map fun z=>z.toNat.toUInt8:=by unfold Lib.encodeRune;rw[Lib.encodeRuneZ_one h0 (by omega)]
   have hB:=run_bytes w [r] (by intro z hz;simp at hz;omega) 5
   rw[e]
   simp only[List.map_cons,List.map_nil,List.length_cons,List.length_nil]at hB ⊢
   go_enter Tryz.func87,Tryz.ntmps87
   go_wp2
   go_ret
   exact⟨rfl,(Below.refl _ _).alloc (Nat.le_refl _) _⟩
 by_cases c2:r<2048
 · have e:Lib.encodeRune r= [192+r / 64,128+r % 64].map fun z=>z.toNat.toUInt8:=by unfold Lib.encodeRune;rw[Lib.encodeRuneZ_two (by omega) (by omega)]
   have hB:=run_bytes w [192+r / 64,128+r % 64] (by intro z hz;simp at hz;omega) 5
   rw[e]
   have b1:0≤r / 64:=by omega
   have b2:r / 64<32:=by omega
   have b3:0≤r % 64:=by omega
   have b4:r % 64<64:=by omega
   simp only[List.map_cons,List.map_nil,List.length_cons,List.length_nil]at hB ⊢
   obtain⟨z1,hz1⟩: ∃z,192+r / 64=z:=⟨_,rfl⟩
   obtain⟨z2,hz2⟩: ∃z,128+r % 64=z:=⟨_,rfl⟩
   have d1:0≤z1∧z1<256:=by omega
   have d2:0≤z2∧z2<256:=by omega
   rw[hz1,hz2]at hB ⊢
   go_enter Tryz.func87,Tryz.ntmps87
   go_wp2
   go_ret
   exact⟨rfl,(Below.refl _ _).alloc (Nat.le_refl _) _⟩
 by_cases c3:r<65536
 · have e:Lib.encodeRune r= [224+r / 4096,128+r / 64 % 64,128+r % 64].map fun z=>z.toNat.toUInt8:=by unfold Lib.encodeRune;rw[Lib.encodeRuneZ_three (by omega)]
   have hB:=run_bytes w [224+r / 4096,128+r / 64 % 64,128+r % 64] (by intro z hz;simp at hz;omega) 5
   rw[e]
   have b1:0≤r / 4096:=by omega
   have b2:r / 4096<16:=by omega
   have b3:0≤r % 64:=by omega
   have b4:r % 64<64:=by omega
   have b5:0≤r / 64:=by omega
   have b6:0≤r / 64 % 64:=by omega
   have b7:r / 64 % 64<64:=by omega
   simp only[List.map_cons,List.map_nil,List.length_cons,List.length_nil]at hB ⊢
   obtain⟨z1,hz1⟩: ∃z,224+r / 4096=z:=⟨_,rfl⟩
   obtain⟨z2,hz2⟩: ∃z,128+r / 64 % 64=z:=⟨_,rfl⟩
   obtain⟨z3,hz3⟩: ∃z,128+r % 64=z:=⟨_,rfl⟩
   have d1:0≤z1∧z1<256:=by omega
   have d2:0≤z2∧z2<256:=by omega
   have d3:0≤z3∧z3<256:=by omega
   rw[hz1,hz2,hz3]at hB ⊢
   go_enter Tryz.func87,Tryz.ntmps87
   go_wp2
   go_ret
   exact⟨rfl,(Below.refl _ _).alloc (Nat.le_refl _) _⟩
 · have e:Lib.encodeRune r= [240+r / 262144,128+r / 4096 % 64,128+r / 64 % 64,128+r % 64].map fun z=>z.toNat.toUInt8:=by unfold Lib.encodeRune;rw[Lib.encodeRuneZ_four (by omega) (by omega)]
   have hB:=run_bytes w [240+r / 262144,128+r / 4096 % 64,128+r / 64 % 64,128+r % 64] (by intro z hz;simp at hz;omega) 5
   rw[e]
   have b1:0≤r / 262144:=by omega
   have b2:r / 262144<8:=by omega
   have b3:0≤r % 64:=by omega
   have b4:r % 64<64:=by omega
   have b5:0≤r / 64:=by omega
   have b6:0≤r / 64 % 64:=by omega
   have b7:r / 64 % 64<64:=by omega
   have b8:0≤r / 4096:=by omega
   have b9:0≤r / 4096 % 64:=by omega
   have b10:r / 4096 % 64<64:=by omega
   simp only[List.map_cons,List.map_nil,List.length_cons,List.length_nil]at hB ⊢
   obtain⟨z0,hz0⟩: ∃z,240+r / 262144=z:=⟨_,rfl⟩
   obtain⟨z1,hz1⟩: ∃z,128+r / 4096 % 64=z:=⟨_,rfl⟩
   obtain⟨z2,hz2⟩: ∃z,128+r / 64 % 64=z:=⟨_,rfl⟩
   obtain⟨z3,hz3⟩: ∃z,128+r % 64=z:=⟨_,rfl⟩
   have d0:0≤z0∧z0<256:=by omega
   have d1:0≤z1∧z1<256:=by omega
   have d2:0≤z2∧z2<256:=by omega
   have d3:0≤z3∧z3<256:=by omega
   rw[hz0,hz1,hz2,hz3]at hB ⊢
   go_enter Tryz.func87,Tryz.ntmps87
   go_wp2
   go_ret
   exact⟨rfl,(Below.refl _ _).alloc (Nat.le_refl _) _⟩
end Go.Proofs.YtkkbplakgldlpaaGreatDoor

namespace Go.Proofs.YtkkbplakgldlpaaGreatDoor
open Go.RowKit Go.Shelf
def Bld (w:World) (B g o:Nat) (t:TypeId) (cs:Array Value) (bs:List UInt8):Prop:=
 B≤g∧w.heap[g]? =some (.cells cs t (0,0))∧t≠5∧o+1<cs.size∧(cs[o]? =some (.pointer none)∨cs[o]? =some (.pointer (some ⟨g,o,none⟩)))∧
  ∃v,cs[o+1]? =some v∧w.ownsRow B 5 1 v bs.length (Lib.byteCells bs)
def bldSet (g o:Nat) (cs:Array Value) (v:Value):Array Value:=(cs.setIfInBounds o (.pointer (some ⟨g,o,none⟩))).setIfInBounds (o+1) v
theorem Bld.lt {w:World} {B g o:Nat} {t:TypeId} {cs:Array Value} {bs:List UInt8} (h:Bld w B g o t cs bs):g<w.heap.size:=by
 rcases Nat.lt_or_ge g w.heap.size with h'|h'
 · exact h'
 · have:=h.2.1;simp[Array.getElem?_eq_none h']at this
abbrev Kept (g:Nat) (w w':World):Prop:=Lib.OthersKept 5 (some g) w w'
theorem setCell_heap {w:World} {g i:Nat} {cs:Array Value} {t:TypeId} (h:w.heap[g]? =some (.cells cs t (0,0))) (u:Value):(w.setCell ⟨g,i,none⟩ u).heap[g]? =some (.cells (cs.setIfInBounds i u) t (0,0)):=by
 simp[World.setCell,Array.getElem?_modify,h]
theorem Bld.used {w:World} {B g o:Nat} {t:TypeId} {cs:Array Value} {bs:List UInt8} (h:Bld w B g o t cs bs):
 Bld (w.setCell ⟨g,o,none⟩ (.pointer (some ⟨g,o,none⟩))) B g o t (cs.setIfInBounds o (.pointer (some ⟨g,o,none⟩))) bs:=by
 obtain⟨hB,hb,ht,hs,h0,v,h1,hown⟩:=h
 refine⟨hB,setCell_heap hb _,ht,by simpa using hs,.inr (by rw[Array.getElem?_setIfInBounds_self_of_lt (by omega)]),v,by rw[Array.getElem?_setIfInBounds,if_neg (by omega)];exact h1, ?_⟩
 exact hown.kept (row:=some g) ⟨rfl,rfl,rfl,by simp[World.setCell],fun k _ hk=>Below.heap_setCell _ _ _ _ (fun e=>hk (by simp[e]))⟩ (Or.inr (Lib.ownBlock_ne hown hb ht))
set_option maxHeartbeats 1000000 in
set_option maxRecDepth 100000 in
theorem copyCheck_calls (B g o:Nat) (t:TypeId) (cs:Array Value) (bs:List UInt8) (w:World) (h:Bld w B g o t cs bs) (hl:liesAt Tryz.prog Tryz.prog.depth t (cs.size / Tryz.prog.cellsOf t) o 113 1=true):
 Calls Tryz.prog 190 #[.pointer (some ⟨g,o,none⟩)] w fun e w'=>e=.returned (.tuple #[])∧Bld w' B g o t (cs.setIfInBounds o (.pointer (some ⟨g,o,none⟩))) bs∧Below B w w'∧Kept g w w':=by
 have hu:=h.used
 obtain⟨hB,hb,ht,hs,h0,v,h1,hown⟩:=h
 obtain⟨j,hj,hj2⟩: ∃j,Tryz.prog.info? 113=some j∧j.size=2:=by
  have:(Tryz.prog.info? 113).map (·.size)=some 2:=by kernel_rfl
  cases hq:Tryz.prog.info? 113 with
  |none=>simp[hq]at this
  |some j=>exact⟨j,rfl,by simpa[hq]using this⟩
 have hsh:w.shape? g=some (t,cs.size):=by simp[World.shape?,hb]
 rcases h0 with h0|h0
 · have c0:w.cell? ⟨g,o,none⟩=some (.pointer none):=by rw[Lib.cell_of_heap hb];exact h0
   have f0:w.frozen? ⟨g,o,none⟩=false:=Lib.frozen_of_heap hb o
   go_enter Tryz.func190,Tryz.ntmps190
   go_wp2
   rw[Lib.run_to_unsafe (P:=Tryz.prog) w (src:=110) (dst:=233) (t:=113) ⟨g,o,none⟩ Tryz.underlying110 Tryz.underlying233 hj (by omega) hsh (by show o<cs.size;omega)]
   simp only[Result.andThen]
   rw[Oper.upon_value]
   go_wp2
   rw[run_callFunc_extern Tryz.func209 (by kernel_rfl) (by kernel_rfl) (by kernel_rfl) (e:=Extern.AbiNoEscape.same) (by kernel_rfl)]
   rw[Lib.run_noEscape]
   simp only[Result.andThen]
   rw[Oper.upon_value]
   go_wp2
   rw[Lib.run_from_unsafe (P:=Tryz.prog) w (src:=233) (dst:=110) (u:=113) ⟨g,o,none⟩ Tryz.underlying233 Tryz.underlying110 hj hsh hl]
   simp only[Result.andThen]
   rw[Oper.upon_value]
   go_wp2
   go_end0
   exact⟨rfl,hu,(Below.refl B w).setCell (p:=⟨g,o,none⟩) hB _,(Lib.OthersKept.refl _ _ w).setCell ⟨g,o,none⟩ rfl _⟩
 · have c0:w.cell? ⟨g,o,none⟩=some (.pointer (some ⟨g,o,none⟩)):=by rw[Lib.cell_of_heap hb];exact h0
   have hself:cs.setIfInBounds o (.pointer (some ⟨g,o,none⟩))=cs:=by
    apply Array.ext_getElem?
    intro i
    rw[Array.getElem?_setIfInBounds]
    split
    · rename_i h
      subst h
      rw[if_pos (by omega),h0]
    · rfl
   have neq:=Lib.run_neq_ptr_same (P:=Tryz.prog) w (tp:=110) (te:=113) ⟨g,o,none⟩ Tryz.underlying110 hj
   go_enter Tryz.func190,Tryz.ntmps190
   go_wp2
   go_end0
   exact⟨rfl,by rw[hself];exact⟨hB,hb,ht,hs,.inr h0,v,h1,hown⟩,Below.refl _ _,Lib.OthersKept.refl _ _ _⟩
theorem infoByte:(Tryz.prog.info? 5).map (fun i=>(i.zero,i.size,i.bytes))=some (some (.int .u8 0),1,1):=by kernel_rfl
theorem Bld.put {w1 w2:World} {B g o:Nat} {t:TypeId} {cs:Array Value} {bs bs':List UInt8} (h:Bld w1 B g o t (cs.setIfInBounds o (.pointer (some ⟨g,o,none⟩))) bs) (hos:o+1<cs.size)
 (hb2:w2.heap[g]? =some (.cells (cs.setIfInBounds o (.pointer (some ⟨g,o,none⟩))) t (0,0))) {v':Value} (hown':w2.ownsRow B 5 1 v' bs'.length (Lib.byteCells bs')):
 Bld (w2.setCell ⟨g,o+1,none⟩ v') B g o t (bldSet g o cs v') bs':=by
 obtain⟨hB,_,ht,hs,h0,_⟩:=h
 refine⟨hB,setCell_heap hb2 _,ht,by simpa[bldSet]using hs,.inr ?_,v', ?_, ?_⟩
 · unfold bldSet
   rw[Array.getElem?_setIfInBounds,if_neg (by omega),Array.getElem?_setIfInBounds_self_of_lt (by omega)]
 · unfold bldSet
   rw[Array.getElem?_setIfInBounds_self_of_lt (by simpa using hs)]
 · exact hown'.kept (row:=some g) ⟨rfl,rfl,rfl,by simp[World.setCell],fun k _ hk=>Below.heap_setCell _ _ _ _ (fun e=>hk (by simp[e]))⟩ (Or.inr (Lib.ownBlock_ne hown' hb2 ht))
theorem ownsRow_kind {w:World} {B:Nat} {e:TypeId} {v:Value} {n:Nat} {xs:List Value} (h:w.ownsRow B e 1 v n xs): ∀g,v.ownBlock=some g→ ∃c fz,w.heap[g]? =some (.cells c e fz):=by
 intro g hg
 rcases h.2 with⟨rfl,_⟩|⟨g',cap,cur,rfl,_,hgg,_⟩
 · simp[Value.ownBlock]at hg
 · simp[Value.ownBlock]at hg
   subst hg
   exact⟨cur,_,hgg⟩
theorem byteCells_append (a b:List UInt8):Lib.byteCells (a++b)=Lib.byteCells a++Lib.byteCells b:=by simp[Lib.byteCells]
set_option maxHeartbeats 2000000 in
set_option maxRecDepth 100000 in
theorem WriteString_calls (B g o:Nat) (t:TypeId) (cs:Array Value) (bs:List UInt8) (s:ByteArray) (w:World) (h:Bld w B g o t cs bs) (hl:liesAt Tryz.prog Tryz.prog.depth t (cs.size / Tryz.prog.cellsOf t) o 113 1=true)
 (hlen:bs.length+s.size≤140737488355328) (hBw:B≤w.heap.size):
 Calls Tryz.prog 163 #[.pointer (some ⟨g,o,none⟩),.string s] w fun e w'=>e=.returned (.tuple #[.int .i64 s.size,.nilIface])∧
  (∃v,Bld w' B g o t (bldSet g o cs v) (bs++s.data.toList))∧Below B w w'∧Kept g w w':=by
 obtain⟨i0,hi,hz0,hz1,hz2⟩:=info_parts infoByte
 have hos:o+1<cs.size:=h.2.2.2.1
 go_enter Tryz.func163,Tryz.ntmps163
 go_wp2_with (go_at_call 190;refine(copyCheck_calls B g o t cs bs _ h hl).mono ?_)
 rintro e w1 ⟨rfl,h1,hb1,hk1⟩
 have h1':=h1
 obtain⟨hB,hbk,ht,hs,h0,v,hv,hown⟩:=h1
 have c1:w1.cell? ⟨g,o+1,none⟩=some v:=by rw[Lib.cell_of_heap hbk];exact hv
 clear h hv h0
 go_wp2_with (at_builtin;refine Lib.wpList_append_own_string _ rfl _ _ 111 9 rfl B 5 i0 Tryz.underlying111 Tryz.underlying9 hi hz0 hz1 hz2 _ _ _ rfl hown s rfl ?c3 ?c4 ?c5 ?_)
 case c3=>unfold maxLen;omega
 case c4=>omega
 case c5=>have:=hb1.size;omega
 intro v' w2 hown' hgrow _
 have hne:=Lib.ownBlock_ne hown hbk ht
 have hlt:g<w1.heap.size:=h1'.lt
 have hb2:w2.heap[g]? =some (.cells (cs.setIfInBounds o (.pointer (some ⟨g,o,none⟩))) t (0,0)):=by
  rw[hgrow.block g hlt (fun e=>hne e.symm)]
  exact hbk
 have d1:w2.cell? ⟨g,o+1,none⟩=some v:=by rw[Lib.cell_of_heap hb2,←Lib.cell_of_heap hbk];exact c1
 have f1:w2.frozen? ⟨g,o+1,none⟩=false:=Lib.frozen_of_heap hb2 _
 have hk2:=hk1.grown hgrow (ownsRow_kind hown)
 have hbw2:=hb1.grown hgrow (by have:=hb1.size;omega) (fun k hk=>(hown.lt k hk).1)
 obtain⟨ao,n',cap,rfl⟩: ∃ao n' cap,v'=.slice ao n' cap:=by
  rcases hown'.2 with⟨hv,_⟩|⟨g,cap,cur,hv,_⟩
  · exact⟨_,_,_,hv⟩
  · exact⟨_,_,_,hv⟩
 have hfin:=Bld.put h1' hos hb2 (bs':=bs++s.data.toList) (v':=.slice ao n' cap) (by
  rw[byteCells_append,List.length_append]
  have e:s.data.toList.length=s.size:=by rw[←Lib.size_eq]
  rw[e]
  exact hown')
 clear hown hown' hgrow c1 hbk hb2 h1' hb1 hk1 hne
 go_wp2
 go_ret2
 exact⟨rfl,⟨_,hfin⟩,hbw2.setCell (p:=⟨g,o+1,none⟩) hB _,hk2.setCell ⟨g,o+1,none⟩ rfl _⟩
set_option maxHeartbeats 2000000 in
set_option maxRecDepth 100000 in
theorem WriteByte_calls (B g o:Nat) (t:TypeId) (cs:Array Value) (bs:List UInt8) (c:Int) (hc0:0≤c) (hc1:c<256) (w:World) (h:Bld w B g o t cs bs) (hl:liesAt Tryz.prog Tryz.prog.depth t (cs.size / Tryz.prog.cellsOf t) o 113 1=true)
 (hlen:bs.length+1≤140737488355328) (hBw:B≤w.heap.size):
 Calls Tryz.prog 195 #[.pointer (some ⟨g,o,none⟩),.int .u8 c] w fun e w'=>e=.returned .nilIface∧
  (∃v,Bld w' B g o t (bldSet g o cs v) (bs++ [UInt8.ofNat c.toNat]))∧Below B w w'∧Kept g w w':=by
 obtain⟨i0,hi,hz0,hz1,hz2⟩:=info_parts infoByte
 have hos:o+1<cs.size:=h.2.2.2.1
 go_enter Tryz.func195,Tryz.ntmps195
 go_wp2_with (go_at_call 190;refine(copyCheck_calls B g o t cs bs _ h hl).mono ?_)
 rintro e w1 ⟨rfl,h1,hb1,hk1⟩
 have h1':=h1
 obtain⟨hB,hbk,ht,hs,h0,v,hv,hown⟩:=h1
 have c1:w1.cell? ⟨g,o+1,none⟩=some v:=by rw[Lib.cell_of_heap hbk];exact hv
 clear h hv h0
 go_wp2_with (at_builtin;refine wpList_append_own _ rfl _ _ 111 rfl B 5 i0 (.int .u8 0) 1 1 Tryz.underlying111 hi hz0 hz1 hz2 rfl (by decide) _ _ _ rfl (hown.alloc _) ⟨w1.heap.size,0,none⟩ 1 1 [.int .u8 c] rfl rfl ?c1 ?c2 ?c3 ?c4 ?c5 ?_)
 case c1=>
  intro j u hj
  match j,hj with
  |0,hj=>simp at hj;subst hj;simp[Addr.add]
 case c2=>intro u hu;simp at hu;subst hu;rfl
 case c3=>unfold maxLen;omega
 case c4=>omega
 case c5=>have:=hb1.size;simp;omega
 intro v' w2 hown' hgrow _
 have hne:=Lib.ownBlock_ne hown hbk ht
 have hlt:g<w1.heap.size:=h1'.lt
 have hb2:w2.heap[g]? =some (.cells (cs.setIfInBounds o (.pointer (some ⟨g,o,none⟩))) t (0,0)):=by
  rw[hgrow.block g (by simp;omega) (fun e=>hne e.symm),Lib.alloc_old w1 _ g hlt]
  exact hbk
 have d1:w2.cell? ⟨g,o+1,none⟩=some v:=by rw[Lib.cell_of_heap hb2,←Lib.cell_of_heap hbk];exact c1
 have f1:w2.frozen? ⟨g,o+1,none⟩=false:=Lib.frozen_of_heap hb2 _
 have hk2:=(hk1.alloc _).grown hgrow (ownsRow_kind (hown.alloc _))
 have hbw2:=(hb1.alloc (by have:=hb1.size;omega) _).grown hgrow (by have:=hb1.size;simp;omega) (fun k hk=>(hown.lt k hk).1)
 obtain⟨ao,n',cap,rfl⟩: ∃ao n' cap,v'=.slice ao n' cap:=by
  rcases hown'.2 with⟨hv,_⟩|⟨g,cap,cur,hv,_⟩
  · exact⟨_,_,_,hv⟩
  · exact⟨_,_,_,hv⟩
 have hfin:=Bld.put h1' hos hb2 (bs':=bs++ [UInt8.ofNat c.toNat]) (v':=.slice ao n' cap) (by
  rw[byteCells_append,List.length_append]
  have e:Lib.byteCells [UInt8.ofNat c.toNat]= [.int .u8 c]:=by
   simp[Lib.byteCells];omega
  rw[e]
  exact hown')
 clear hown hown' hgrow c1 hbk hb2 h1' hb1 hk1 hne
 go_wp2
 go_ret
 exact⟨rfl,⟨_,hfin⟩,hbw2.setCell (p:=⟨g,o+1,none⟩) hB _,hk2.setCell ⟨g,o+1,none⟩ rfl _⟩
theorem runeCells_bytes (r:Int):Lib.runeCells r=Lib.byteCells (Lib.encodeRune r):=(Lib.byteCells_encodeRune r).symm
set_option maxHeartbeats 2000000 in
set_option maxRecDepth 100000 in
theorem WriteRune_calls (B g o:Nat) (t:TypeId) (cs:Array Value) (bs:List UInt8) (r:Int) (hr0: -2147483648≤r) (hr1:r≤2147483647) (w:World) (h:Bld w B g o t cs bs) (hl:liesAt Tryz.prog Tryz.prog.depth t (cs.size / Tryz.prog.cellsOf t) o 113 1=true)
 (hlen:bs.length+4≤140737488355328) (hBw:B≤w.heap.size):
 Calls Tryz.prog 198 #[.pointer (some ⟨g,o,none⟩),.int .i32 r] w fun e w'=>(∃k:Int,e=.returned (.tuple #[.int .i64 k,.nilIface]))∧
  (∃v,Bld w' B g o t (bldSet g o cs v) (bs++Lib.encodeRune r))∧Below B w w'∧Kept g w w':=by
 have hos:o+1<cs.size:=h.2.2.2.1
 go_enter Tryz.func198,Tryz.ntmps198
 go_wp2_with (go_at_call 190;refine(copyCheck_calls B g o t cs bs _ h hl).mono ?_)
 rintro e w1 ⟨rfl,h1,hb1,hk1⟩
 have h1':=h1
 obtain⟨hB,hbk,ht,hs,h0,v,hv,hown⟩:=h1
 have c1:w1.cell? ⟨g,o+1,none⟩=some v:=by rw[Lib.cell_of_heap hbk];exact hv
 clear h hv h0
 obtain⟨ao,n0,cap,rfl⟩: ∃ao n' cap,v=.slice ao n' cap:=by
  rcases hown.2 with⟨hv,_⟩|⟨g,cap,cur,hv,_⟩
  · exact⟨_,_,_,hv⟩
  · exact⟨_,_,_,hv⟩
 go_wp2_with (go_at_call 216;refine(Tryz.utf8_AppendRune_plain B _ _ _ r hr0 hr1 _ hown (by omega) (by have:=hb1.size;omega)).mono ?_)
 rintro e w2 ⟨v',rfl,hown',ob,hgrow⟩
 have hne:=Lib.ownBlock_ne hown hbk ht
 have hlt:g<w1.heap.size:=h1'.lt
 have hb2:w2.heap[g]? =some (.cells (cs.setIfInBounds o (.pointer (some ⟨g,o,none⟩))) t (0,0)):=by
  rw[hgrow.block g (by simp;omega) (fun e=>hne e.symm),Lib.alloc_old w1 _ g hlt]
  exact hbk
 have d1:w2.cell? ⟨g,o+1,none⟩=some (.slice ao n0 cap):=by rw[Lib.cell_of_heap hb2,←Lib.cell_of_heap hbk];exact c1
 have f1:w2.frozen? ⟨g,o+1,none⟩=false:=Lib.frozen_of_heap hb2 _
 have hk2:=(hk1.alloc ob).grown hgrow (ownsRow_kind (hown.alloc _))
 have hbw2:=(hb1.alloc (by have:=hb1.size;omega) ob).grown hgrow (by have:=hb1.size;simp;omega) (fun k hk=>(hown.lt k hk).1)
 obtain⟨ao',n',cap',rfl⟩: ∃ao n' cap,v'=.slice ao n' cap:=by
  rcases hown'.2 with⟨hv,_⟩|⟨g,cap,cur,hv,_⟩
  · exact⟨_,_,_,hv⟩
  · exact⟨_,_,_,hv⟩
 have hfin:=Bld.put h1' hos hb2 (bs':=bs++Lib.encodeRune r) (v':=.slice ao' n' cap') (by
  rw[byteCells_append,List.length_append]
  rw[runeCells_bytes]at hown'
  simpa[Lib.byteCells]using hown')
 have e1:(w2.setCell ⟨g,o+1,none⟩ (.slice ao' n' cap')).cell? ⟨g,o+1,none⟩=some (.slice ao' n' cap'):=World.cell?_setCell_same' _ _ _ (by rw[d1];rfl)
 clear hown hown' hgrow c1 hbk hb2 h1' hb1 hk1 hne
 go_wp2
 go_ret2
 exact⟨⟨_,rfl⟩,⟨_,hfin⟩,hbw2.setCell (p:=⟨g,o+1,none⟩) hB _,hk2.setCell ⟨g,o+1,none⟩ rfl _⟩
set_option maxHeartbeats 2000000 in
set_option maxRecDepth 100000 in
theorem String_calls (B g o:Nat) (t:TypeId) (cs:Array Value) (l:List UInt8) (w:World) (h:Bld w B g o t cs l) (hl0:l≠ []):
 Calls Tryz.prog 83 #[.pointer (some ⟨g,o,none⟩)] w fun e w'=>e=.returned (.string ⟨l.toArray⟩)∧Below B w w'∧Kept g w w':=by
 obtain⟨hB,hbk,ht,hs,h0,v,hv,hown⟩:=h
 have hl1:l.length≠0:=by simpa using hl0
 obtain⟨gg,cap,cur,rfl,hbg,hg,hnc,hcm,hcs,htake⟩: ∃gg cap cur,v=.slice (some ⟨gg,0,none⟩) l.length cap∧B≤gg∧w.heap[gg]? =some (.cells cur 5 (0,0))∧l.length≤cap∧cap≤maxLen∧cur.size=cap*1∧cur.toList.take (l.length*1)=Lib.byteCells l:=by
  rcases hown.2 with⟨_,hz⟩|⟨gg,cap,cur,hv,r⟩
  · exact absurd hz hl1
  · exact⟨gg,cap,cur,hv,r⟩
 have c1:w.drew.cell? ⟨g,o+1,none⟩=some (.slice (some ⟨gg,0,none⟩) l.length cap):=by
  have:w.drew.heap[g]? =some (.cells cs t (0,0)):=hbk
  rw[Lib.cell_of_heap this];exact hv
 have hSD:(Builtin.unsafeSliceData_ #[111] 154 #[.slice (some ⟨gg,0,none⟩) l.length cap]).run Tryz.prog w.drew=.ok (.pointer (some ⟨gg,0,none⟩)) w.drew:=
  Lib.run_unsafeSliceData_row _ _ _ _ _ _ (by omega)
 have hUS:(Builtin.unsafeString_ #[154,3] 9 #[.pointer (some ⟨gg,0,none⟩),.int .i64 l.length]).run Tryz.prog w.drew=.ok (.string ⟨l.toArray⟩) (w.drew.freeze ⟨gg,0,none⟩ l.length):=by
  refine Lib.run_unsafeString_row w.drew 154 3 9 5 Tryz.underlying154 (by kernel_rfl) gg cur.size (by have hg':w.drew.heap[gg]? =some (.cells cur 5 (0,0)):=hg;simp[World.shape?,hg']) l hl0 (by omega) (by unfold maxLen at hcm;omega) ?_
  intro j x hx
  have:=hown.cells (g:=gg) rfl j (.int .u8 x.toNat) (by simp[Lib.byteCells,hx])
  exact this
 clear hv h0
 go_enter Tryz.func83,Tryz.ntmps83
 go_wp2
 go_region
 all_goals(go_wp2;go_ret;exact⟨rfl,Lib.below_freeze (Below.drew (Below.refl B w)) (p:=⟨gg,0,none⟩) hbg _,((Lib.OthersKept.refl _ _ w).drew).freeze ⟨gg,0,none⟩ _ ⟨cur,_,hg⟩⟩)
end Go.Proofs.YtkkbplakgldlpaaGreatDoor
