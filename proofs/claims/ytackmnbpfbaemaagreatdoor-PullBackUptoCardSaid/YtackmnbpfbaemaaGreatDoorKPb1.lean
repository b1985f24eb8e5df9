/- Parts, joined: The data that the walks speak of: values as trees, and how they lie in memory. No condition. Whether a value has anything that its kind does not name: the program's function and the reference's. No condition. Sums of bytes, bit by bit and four bits at once. Plain. No condition. -/
import Derived.WalkKit
import Derived.Below
import Derived.Test.YtackmnbpfbaemaaGreatDoorProg
import Derived.BigQuiet
import Derived.Deep.QuietTactic
import Derived.WalkLawsBesides
import Derived.WalkSpells
import Derived.Lib.Hide
import Derived.Lib.Strings
namespace Go.Proofs.YtackmnbpfbaemaaGreatDoor
open Go.RowKit
inductive Val where
 |mk (k:Int) (b:Bool) (n:Int) (t:ByteArray) (l:List Val) (o:List (ByteArray×Val))
abbrev cells6 (k:Int) (b:Bool) (n:Int) (t:ByteArray) (la:Option Addr) (ln lc:Nat) (oa:Option Addr) (on oc:Nat):List Value:=
 [.int .i64 k, .bool b, .int .i64 n, .string t, .slice la ln lc, .slice oa on oc]
mutual
def HoldsV (w:World) (B:Nat):Val→List Value→Prop
 | .mk k b n t l o,cs=> ∃la lc oa oc,cs=cells6 k b n t la l.length lc oa o.length oc∧
    (l= []∨ ∃g off,la=some ⟨g,off,none⟩∧g<B∧HoldsL w B l g off)∧
    (o= []∨ ∃g off,oa=some ⟨g,off,none⟩∧g<B∧HoldsO w B o g off)
def HoldsL (w:World) (B:Nat):List Val→Nat→Nat→Prop
 | [],_,_=>True
 |v::r,g,off=>(∃cs,HoldsV w B v cs∧ ∀j u,cs[j]? =some u→w.cell? ⟨g,off+j,none⟩=some u)∧HoldsL w B r g (off+6)
def HoldsO (w:World) (B:Nat):List (ByteArray×Val)→Nat→Nat→Prop
 | [],_,_=>True
 |p::r,g,off=>HoldsP w B p g off∧HoldsO w B r g (off+7)
def HoldsP (w:World) (B:Nat):ByteArray×Val→Nat→Nat→Prop
 |(key,v),g,off=>w.cell? ⟨g,off,none⟩=some (.string key)∧ ∃cs,HoldsV w B v cs∧ ∀j u,cs[j]? =some u→w.cell? ⟨g,off+1+j,none⟩=some u
end
mutual
def Val.bulk:Val→Nat
 | .mk _ _ _ t l o=>6+t.size+bulkL l+bulkO o
def bulkL:List Val→Nat
 | []=>0
 |v::r=>v.bulk+bulkL r
def bulkO:List (ByteArray×Val)→Nat
 | []=>0
 |p::r=>bulkP p+bulkO r
def bulkP:ByteArray×Val→Nat
 |(key,v)=>1+key.size+v.bulk
end
theorem Val.ind {p:Val→Prop} (h: ∀k b n t l o,(∀v ∈ l,p v)→(∀m ∈ o,p m.2)→p (.mk k b n t l o)): ∀v,p v:=by
 intro v
 refine Val.rec (motive_1:=p) (motive_2:=fun l=> ∀v ∈ l,p v) (motive_3:=fun o=> ∀m ∈ o,p m.2) (motive_4:=fun m=>p m.2) ?_ ?_ ?_ ?_ ?_ ?_ v
 · intro k b n t l o hl ho
   exact h k b n t l o hl ho
 · intro v hv
   cases hv
 · intro v r hv hr x hx
   rcases List.mem_cons.1 hx with rfl|hx
   · exact hv
   · exact hr x hx
 · intro m hm
   cases hm
 · intro m r hm hr x hx
   rcases List.mem_cons.1 hx with rfl|hx
   · exact hm
   · exact hr x hx
 · intro k v hv
   exact hv
theorem HoldsL.of_keep {w w':World} {B:Nat} (hk: ∀p:Addr,p.block<B→w'.cell? p=w.cell? p):
 ∀(l:List Val),(∀v ∈ l,∀cs,HoldsV w B v cs→HoldsV w' B v cs)→ ∀g off,g<B→HoldsL w B l g off→HoldsL w' B l g off
 | [],_,_,_,_,_=>by simp[HoldsL]
 |v::r,ih,g,off,hg,h=>by
  simp only[HoldsL]at h ⊢
  obtain⟨⟨cs,hv,hc⟩,hr⟩:=h
  exact⟨⟨cs,ih v (by simp) cs hv,fun j u hu=>(hk _ hg).trans (hc j u hu)⟩,HoldsL.of_keep hk r (fun x hx=>ih x (by simp[hx])) g _ hg hr⟩
theorem HoldsO.of_keep {w w':World} {B:Nat} (hk: ∀p:Addr,p.block<B→w'.cell? p=w.cell? p):
 ∀(l:List (ByteArray×Val)),(∀m ∈ l,∀cs,HoldsV w B m.2 cs→HoldsV w' B m.2 cs)→ ∀g off,g<B→HoldsO w B l g off→HoldsO w' B l g off
 | [],_,_,_,_,_=>by simp[HoldsO]
 |(key,v)::r,ih,g,off,hg,h=>by
  simp only[HoldsO,HoldsP]at h ⊢
  obtain⟨⟨h0,cs,hv,hc⟩,hr⟩:=h
  exact⟨⟨(hk _ hg).trans h0,cs,ih (key,v) (by simp) cs hv,fun j u hu=>(hk _ hg).trans (hc j u hu)⟩,HoldsO.of_keep hk r (fun x hx=>ih x (by simp[hx])) g _ hg hr⟩
theorem HoldsV.keep {w w':World} {B:Nat} (hk: ∀p:Addr,p.block<B→w'.cell? p=w.cell? p): ∀(v:Val) cs,HoldsV w B v cs→HoldsV w' B v cs:=by
 refine Val.ind ?_
 intro k b n t l o hl ho cs h
 simp only[HoldsV]at h ⊢
 obtain⟨la,lc,oa,oc,hcs,h1,h2⟩:=h
 refine⟨la,lc,oa,oc,hcs, ?_, ?_⟩
 · rcases h1 with h1|⟨g,off,ha,hg,h1⟩
   · exact .inl h1
   · exact .inr ⟨g,off,ha,hg,HoldsL.of_keep hk l hl g off hg h1⟩
 · rcases h2 with h2|⟨g,off,ha,hg,h2⟩
   · exact .inl h2
   · exact .inr ⟨g,off,ha,hg,HoldsO.of_keep hk o ho g off hg h2⟩
theorem HoldsV.below {w w':World} {B:Nat} {v:Val} {cs:List Value} (h:HoldsV w B v cs) (hb:Below B w w'):HoldsV w' B v cs:=HoldsV.keep (fun _ hp=>hb.cell hp) v cs h
theorem HoldsL.keep {w w':World} {B:Nat} (hk: ∀p:Addr,p.block<B→w'.cell? p=w.cell? p) {l:List Val} {g off:Nat} (hg:g<B) (h:HoldsL w B l g off):HoldsL w' B l g off:=
 HoldsL.of_keep hk l (fun v _=>HoldsV.keep hk v) g off hg h
theorem HoldsO.keep {w w':World} {B:Nat} (hk: ∀p:Addr,p.block<B→w'.cell? p=w.cell? p) {l:List (ByteArray×Val)} {g off:Nat} (hg:g<B) (h:HoldsO w B l g off):HoldsO w' B l g off:=
 HoldsO.of_keep hk l (fun m _=>HoldsV.keep hk m.2) g off hg h
theorem HoldsL.below {w w':World} {B:Nat} {l:List Val} {g off:Nat} (hg:g<B) (h:HoldsL w B l g off) (hb:Below B w w'):HoldsL w' B l g off:=HoldsL.keep (fun _ hp=>hb.cell hp) hg h
theorem HoldsO.below {w w':World} {B:Nat} {l:List (ByteArray×Val)} {g off:Nat} (hg:g<B) (h:HoldsO w B l g off) (hb:Below B w w'):HoldsO w' B l g off:=HoldsO.keep (fun _ hp=>hb.cell hp) hg h
theorem HoldsL.of_more {w:World} {B B':Nat}: ∀(l:List Val),(∀v ∈ l,∀cs,HoldsV w B v cs→HoldsV w B' v cs)→ ∀g off,HoldsL w B l g off→HoldsL w B' l g off
 | [],_,_,_,_=>by simp[HoldsL]
 |v::r,ih,g,off,h=>by
  simp only[HoldsL]at h ⊢
  obtain⟨⟨cs,hv,hc⟩,hr⟩:=h
  exact⟨⟨cs,ih v (by simp) cs hv,hc⟩,HoldsL.of_more r (fun x hx=>ih x (by simp[hx])) g _ hr⟩
theorem HoldsO.of_more {w:World} {B B':Nat}: ∀(l:List (ByteArray×Val)),(∀m ∈ l,∀cs,HoldsV w B m.2 cs→HoldsV w B' m.2 cs)→ ∀g off,HoldsO w B l g off→HoldsO w B' l g off
 | [],_,_,_,_=>by simp[HoldsO]
 |(key,v)::r,ih,g,off,h=>by
  simp only[HoldsO,HoldsP]at h ⊢
  obtain⟨⟨h0,cs,hv,hc⟩,hr⟩:=h
  exact⟨⟨h0,cs,ih (key,v) (by simp) cs hv,hc⟩,HoldsO.of_more r (fun x hx=>ih x (by simp[hx])) g _ hr⟩
theorem HoldsV.more {w:World} {B B':Nat} (hB:B≤B'): ∀(v:Val) cs,HoldsV w B v cs→HoldsV w B' v cs:=by
 refine Val.ind ?_
 intro k b n t l o hl ho cs h
 simp only[HoldsV]at h ⊢
 obtain⟨la,lc,oa,oc,hcs,h1,h2⟩:=h
 refine⟨la,lc,oa,oc,hcs, ?_, ?_⟩
 · rcases h1 with h1|⟨g,off,ha,hg,h1⟩
   · exact .inl h1
   · exact .inr ⟨g,off,ha,by omega,HoldsL.of_more l hl g off h1⟩
 · rcases h2 with h2|⟨g,off,ha,hg,h2⟩
   · exact .inl h2
   · exact .inr ⟨g,off,ha,by omega,HoldsO.of_more o ho g off h2⟩
theorem HoldsL.at_ {w:World} {B:Nat}: ∀{l:List Val} {g off:Nat},HoldsL w B l g off→ ∀{i:Nat} {v:Val},l[i]? =some v→
 ∃cs,HoldsV w B v cs∧ ∀j u,cs[j]? =some u→w.cell? ⟨g,off+i*6+j,none⟩=some u
 | [],_,_,_,i,v,hi=>by simp at hi
 |x::r,g,off,h,0,v,hi=>by
  simp only[HoldsL]at h
  obtain⟨h,_⟩:=h
  simp at hi
  subst hi
  simpa using h
 |x::r,g,off,h,i+1,v,hi=>by
  simp only[HoldsL]at h
  obtain⟨cs,hv,hc⟩:=HoldsL.at_ h.2 (i:=i) (v:=v) (by simpa using hi)
  exact⟨cs,hv,fun j u hu=>by rw[show off+(i+1)*6+j=off+6+i*6+j from by omega];exact hc j u hu⟩
theorem HoldsO.at_ {w:World} {B:Nat}: ∀{l:List (ByteArray×Val)} {g off:Nat},HoldsO w B l g off→ ∀{i:Nat} {m:ByteArray×Val},l[i]? =some m→
 w.cell? ⟨g,off+i*7,none⟩=some (.string m.1)∧ ∃cs,HoldsV w B m.2 cs∧ ∀j u,cs[j]? =some u→w.cell? ⟨g,off+i*7+1+j,none⟩=some u
 | [],_,_,_,i,v,hi=>by simp at hi
 |x::r,g,off,h,0,v,hi=>by
  simp only[HoldsO]at h
  obtain⟨h,_⟩:=h
  simp at hi
  subst hi
  obtain⟨key,v⟩:=x
  simpa only[HoldsP,Nat.zero_mul,Nat.add_zero]using h
 |x::r,g,off,h,i+1,m,hi=>by
  simp only[HoldsO]at h
  obtain⟨h0,cs,hv,hc⟩:=HoldsO.at_ h.2 (i:=i) (m:=m) (by simpa using hi)
  exact⟨by rw[show off+(i+1)*7=off+7+i*7 from by omega];exact h0,cs,hv,fun j u hu=>by rw[show off+(i+1)*7+1+j=off+7+i*7+1+j from by omega];exact hc j u hu⟩
theorem HoldsL.six {w:World} {B:Nat} {l:List Val} {g off:Nat} (h:HoldsL w B l g off) {i:Nat} {k:Int} {b:Bool} {n:Int} {t:ByteArray} {l':List Val} {o':List (ByteArray×Val)} (hi:l[i]? =some (.mk k b n t l' o')):
 ∃la lc oa oc,HoldsV w B (.mk k b n t l' o') (cells6 k b n t la l'.length lc oa o'.length oc)∧w.cell? ⟨g,off+i*6,none⟩=some (.int .i64 k)∧w.cell? ⟨g,off+i*6+1,none⟩=some (.bool b)∧
  w.cell? ⟨g,off+i*6+2,none⟩=some (.int .i64 n)∧w.cell? ⟨g,off+i*6+3,none⟩=some (.string t)∧w.cell? ⟨g,off+i*6+4,none⟩=some (.slice la l'.length lc)∧
  w.cell? ⟨g,off+i*6+5,none⟩=some (.slice oa o'.length oc):=by
 obtain⟨cs,hv,hc⟩:=h.at_ hi
 have hv':=hv
 simp only[HoldsV]at hv'
 obtain⟨la,lc,oa,oc,rfl,_,_⟩:=hv'
 exact⟨la,lc,oa,oc,hv,hc 0 _ rfl,hc 1 _ rfl,hc 2 _ rfl,hc 3 _ rfl,hc 4 _ rfl,hc 5 _ rfl⟩
theorem HoldsO.seven {w:World} {B:Nat} {l:List (ByteArray×Val)} {g off:Nat} (h:HoldsO w B l g off) {i:Nat} {key:ByteArray} {k:Int} {b:Bool} {n:Int} {t:ByteArray} {l':List Val} {o':List (ByteArray×Val)} (hi:l[i]? =some (key, .mk k b n t l' o')):
 ∃la lc oa oc,HoldsV w B (.mk k b n t l' o') (cells6 k b n t la l'.length lc oa o'.length oc)∧w.cell? ⟨g,off+i*7,none⟩=some (.string key)∧w.cell? ⟨g,off+i*7+1,none⟩=some (.int .i64 k)∧w.cell? ⟨g,off+i*7+2,none⟩=some (.bool b)∧
  w.cell? ⟨g,off+i*7+3,none⟩=some (.int .i64 n)∧w.cell? ⟨g,off+i*7+4,none⟩=some (.string t)∧w.cell? ⟨g,off+i*7+5,none⟩=some (.slice la l'.length lc)∧
  w.cell? ⟨g,off+i*7+6,none⟩=some (.slice oa o'.length oc):=by
 obtain⟨h0,cs,hv,hc⟩:=h.at_ hi
 have hv':=hv
 simp only[HoldsV]at hv'
 obtain⟨la,lc,oa,oc,rfl,_,_⟩:=hv'
 exact⟨la,lc,oa,oc,hv,h0,hc 0 _ rfl,hc 1 _ rfl,hc 2 _ rfl,hc 3 _ rfl,hc 4 _ rfl,hc 5 _ rfl⟩
theorem bulkL_mem {l:List Val} {v:Val} (h:v ∈ l):v.bulk≤bulkL l:=by
 induction l with
 |nil=>cases h
 |cons x r ih=>
  simp only[bulkL]
  rcases List.mem_cons.1 h with rfl|h
  · omega
  · have:=ih h;omega
theorem bulkO_mem {l:List (ByteArray×Val)} {m:ByteArray×Val} (h:m ∈ l):1+m.1.size+m.2.bulk≤bulkO l:=by
 induction l with
 |nil=>cases h
 |cons x r ih=>
  obtain⟨k,v⟩:=x
  simp only[bulkO,bulkP]
  rcases List.mem_cons.1 h with rfl|h
  · simp only;omega
  · have:=ih h;omega
theorem Val.bulk_pos (v:Val):6≤v.bulk:=by
 obtain⟨k,b,n,t,l,o⟩:=v
 simp only[Val.bulk];omega
theorem bulkL_len (l:List Val):6*l.length≤bulkL l:=by
 induction l with
 |nil=>simp[bulkL]
 |cons x r ih=>simp only[bulkL,List.length_cons];have:=x.bulk_pos;omega
theorem bulkO_len (l:List (ByteArray×Val)):7*l.length≤bulkO l:=by
 induction l with
 |nil=>simp[bulkO]
 |cons x r ih=>obtain⟨k,v⟩:=x;simp only[bulkO,bulkP,List.length_cons];have:=v.bulk_pos;omega
mutual
def inV:Val→Prop
 | .mk _ _ n _ l o=>(-9223372036854775808≤n∧n≤9223372036854775807)∧inL l∧inO o
def inL:List Val→Prop
 | []=>True
 |v::r=>inV v∧inL r
def inO:List (ByteArray×Val)→Prop
 | []=>True
 |p::r=>inP p∧inO r
def inP:ByteArray×Val→Prop
 |(_,v)=>inV v
end
end Go.Proofs.YtackmnbpfbaemaaGreatDoor

namespace Go.Proofs.YtackmnbpfbaemaaGreatDoor
open Go.RowKit
def oddB (k:Int) (b:Bool) (n:Int) (t:ByteArray) (ln on:Nat):Bool:=
 if k==1 then b||n != 0|| !t.toList.isEmpty||ln != 0||on != 0
 else if k==2 then n != 0|| !t.toList.isEmpty||ln != 0||on != 0
 else if k==3 then b|| !t.toList.isEmpty||ln != 0||on != 0
 else if k==4 then b||n != 0||ln != 0||on != 0
 else if k==5 then b||n != 0|| !t.toList.isEmpty||on != 0
 else if k==6 then b||n != 0|| !t.toList.isEmpty||ln != 0
 else true
set_option maxHeartbeats 1000000 in
theorem odd_calls (k:Int) (b:Bool) (n:Int) (t:ByteArray) (la oa:Option Addr) (ln lc on oc:Nat) (w:World):
 Calls Tryz.prog 158 #[.agg #[.int .i64 k, .bool b, .int .i64 n, .string t, .slice la ln lc, .slice oa on oc]] w fun e w'=>e= .returned (.bool (oddB k b n t ln on))∧Below w.heap.size w w':=by
 go_enter Tryz.func158,Tryz.ntmps158
 go_wp2
 all_goals go_ret
 all_goals simp only[oddB, *]
 all_goals refine⟨by first|(simp_all;done)|(simp_all;omega)|(simp_all;rw[Bool.eq_iff_iff];simp[Nat.pos_iff_ne_zero]), ?_⟩
 all_goals exact Below.alloc (Below.refl _ _) (Nat.le_refl _) _
theorem toList_ne {t:ByteArray} (h: ¬t=ByteArray.empty):t.toList≠ []:=by
 intro e
 rw[Lib.toList_data]at e
 apply h
 have:t.data= #[]:=by simpa using e
 exact ByteArray.ext this
theorem ret_bool {a b:Bool} (h:a=b):Ending.returned (.bool a)= .returned (.bool b):=by rw[h]
theorem cast_beq (n:Nat):((n:Int)==0)=(n==0):=by rw[Bool.eq_iff_iff];simp
set_option maxHeartbeats 2000000 in
theorem bare_calls (k:Int) (b:Bool) (n:Int) (t:ByteArray) (la oa:Option Addr) (ln lc on oc:Nat) (w:World):
 Calls Tryz.prog 137 #[.agg #[.int .i64 k, .bool b, .int .i64 n, .string t, .slice la ln lc, .slice oa on oc]] w fun e w'=>e= .returned (.bool (!oddB k b n t ln on))∧Below w.heap.size w w':=by
 rcases(by omega:k=1∨k=2∨k=3∨k=4∨k=5∨k=6∨k<1∨6<k)with rfl|rfl|rfl|rfl|rfl|rfl|h|h
 all_goals
  go_enter Tryz.func137,Tryz.ntmps137
  go_wp2
  all_goals go_ret
  all_goals refine⟨ret_bool ?_,Below.alloc (Below.refl _ _) (Nat.le_refl _) _⟩
  all_goals simp only[oddB,cast_beq]
 all_goals first|(simp_all[toList_ne];done)|(subst_vars;simp_all[bne];done)|(rw[if_neg (by simp;omega),if_neg (by simp;omega),if_neg (by simp;omega),if_neg (by simp;omega),if_neg (by simp;omega),if_neg (by simp;omega)];rfl)|skip
end Go.Proofs.YtackmnbpfbaemaaGreatDoor

namespace Go.Proofs.YtackmnbpfbaemaaGreatDoor
def poly:Nat:=3988292384
def st1 (r:Nat):Nat:=if r % 2=1 then(r / 2) ^^^ poly else r / 2
def stN:Nat→Nat→Nat
 |0,r=>r
 |n+1,r=>stN n (st1 r)
def go1N (r bit:Nat):Nat:=if r % 2≠bit then(r / 2) ^^^ poly else r / 2
def rbN:Nat→Nat→Nat→Nat
 |0,r,_=>r
 |n+1,r,c=>rbN n (go1N r (c % 2)) (c / 2)
theorem xor_half (a b:Nat):(a ^^^ b) / 2=(a / 2) ^^^ (b / 2):=by
 have:=Nat.shiftRight_xor_distrib (a:=a) (b:=b) (i:=1)
 simpa[Nat.shiftRight_succ]using this
theorem xor_odd (a b:Nat):(a ^^^ b) % 2=(a % 2+b % 2) % 2:=by
 have h:=Nat.testBit_xor a b 0
 simp only[Nat.testBit_zero]at h
 have ha:=Nat.mod_two_eq_zero_or_one a
 have hb:=Nat.mod_two_eq_zero_or_one b
 have hc:=Nat.mod_two_eq_zero_or_one (a ^^^ b)
 rcases ha with ha|ha<;>rcases hb with hb|hb<;>rcases hc with hc|hc<;>simp[ha,hb,hc]at h ⊢
theorem xor_swap (a b c d:Nat):(a ^^^ b) ^^^ (c ^^^ d)=(a ^^^ c) ^^^ (b ^^^ d):=by
 rw[Nat.xor_assoc,Nat.xor_assoc,←Nat.xor_assoc b c d,Nat.xor_comm b c,Nat.xor_assoc]
theorem st1_xor (a b:Nat):st1 (a ^^^ b)=st1 a ^^^ st1 b:=by
 have h:=xor_odd a b
 unfold st1
 rw[xor_half]
 by_cases ha:a % 2=1<;>by_cases hb:b % 2=1
 · have hc: ¬(a ^^^ b) % 2=1:=by omega
   rw[if_neg hc,if_pos ha,if_pos hb,xor_swap,Nat.xor_self,Nat.xor_zero]
 · have hc:(a ^^^ b) % 2=1:=by omega
   rw[if_pos hc,if_pos ha,if_neg hb,Nat.xor_assoc,Nat.xor_comm (b / 2),←Nat.xor_assoc]
 · have hc:(a ^^^ b) % 2=1:=by omega
   rw[if_pos hc,if_neg ha,if_pos hb,Nat.xor_assoc]
 · have hc: ¬(a ^^^ b) % 2=1:=by omega
   rw[if_neg hc,if_neg ha,if_neg hb]
theorem stN_xor: ∀(n a b:Nat),stN n (a ^^^ b)=stN n a ^^^ stN n b
 |0,_,_=>rfl
 |n+1,a,b=>by simp only[stN];rw[st1_xor,stN_xor n]
theorem st1_parts (c:Nat):st1 c=st1 (c % 2) ^^^ (c / 2):=by
 unfold st1
 have:c % 2 / 2=0:=by omega
 rw[Nat.mod_mod,this]
 split
 · rw[Nat.zero_xor,Nat.xor_comm]
 · rw[Nat.zero_xor]
theorem go1N_eq (r bit:Nat) (hb:bit<2):go1N r bit=st1 (r ^^^ bit):=by
 rw[st1_xor]
 unfold go1N st1
 have h0:bit / 2=0:=by omega
 rw[h0]
 rcases Nat.lt_or_ge bit 1 with h|h
 · obtain rfl:bit=0:=by omega
   by_cases hr:r % 2=1
   · rw[if_pos (by omega),if_pos hr];simp
   · rw[if_neg (by omega),if_neg hr];simp
 · obtain rfl:bit=1:=by omega
   by_cases hr:r % 2=1
   · rw[if_neg (by omega),if_pos hr];simp[Nat.xor_assoc]
   · rw[if_pos (by omega),if_neg hr];simp
theorem rbN_eq: ∀(n r c:Nat),c<2 ^ n→rbN n r c=stN n (r ^^^ c)
 |0,r,c,h=>by
  obtain rfl:c=0:=by simpa using h
  simp[rbN,stN]
 |n+1,r,c,h=>by
  simp only[rbN,stN]
  rw[rbN_eq n _ _ (by rw[Nat.pow_succ]at h;omega),go1N_eq _ _ (by omega),st1_xor r c,st1_parts c,st1_xor r (c % 2),Nat.xor_assoc]
theorem stN_shift: ∀(n x:Nat),stN n (x*2 ^ n)=x
 |0,x=>by simp[stN]
 |n+1,x=>by
  have h:x*2 ^ (n+1)=2*(x*2 ^ n):=by rw[Nat.pow_succ,←Nat.mul_assoc,Nat.mul_comm]
  have h2:st1 (2*(x*2 ^ n))=x*2 ^ n:=by
   unfold st1
   rw[if_neg (by omega)]
   omega
  simp only[stN]
  rw[h,h2,stN_shift n x]
theorem xor_low (r:Nat):r=(r / 16*2 ^ 4) ^^^ (r % 16):=by
 apply Nat.eq_of_testBit_eq
 intro i
 rw[Nat.testBit_xor,show r / 16*2 ^ 4=(r / 16) <<< 4 from(Nat.shiftLeft_eq _ _).symm,Nat.testBit_shiftLeft,show r % 16=r % 2 ^ 4 from rfl,Nat.testBit_mod_two_pow]
 by_cases hi:i<4
 · simp[hi,show ¬i≥4 from by omega]
 · have:(r / 16).testBit (i - 4)=r.testBit i:=by
    rw[show r / 16=r >>> 4 from(Nat.shiftRight_eq_div_pow r 4).symm,Nat.testBit_shiftRight]
    congr 1;omega
   simp[hi,show i≥4 from by omega,this]
def nib (r:Nat):Nat:=(r / 16) ^^^ stN 4 (r % 16)
theorem nib_eq (r:Nat):nib r=stN 4 r:=by
 unfold nib
 conv=>rhs;rw[xor_low r]
 rw[stN_xor,stN_shift]
theorem stN_add: ∀(m n r:Nat),stN (m+n) r=stN n (stN m r)
 |0,n,r=>by simp[stN]
 |m+1,n,r=>by rw[show m+1+n=(m+n)+1 from by omega];simp only[stN];exact stN_add m n _
theorem nib_nib (r:Nat):nib (nib r)=stN 8 r:=by rw[nib_eq,nib_eq,←stN_add]
theorem st1_lt {r:Nat} (h:r<4294967296):st1 r<4294967296:=by
 unfold st1
 split
 · exact Nat.xor_lt_two_pow (n:=32) (by omega) (by unfold poly;omega)
 · omega
theorem stN_lt: ∀(n:Nat) {r:Nat},r<4294967296→stN n r<4294967296
 |0,_,h=>h
 |n+1,_,h=>stN_lt n (st1_lt h)
@[irreducible] def st8 (r:Nat):Nat:=stN 8 r
theorem st8_eq (r:Nat):st8 r=stN 8 r:=by unfold st8;rfl
def crcGo (r:Nat) (l:List UInt8):Nat:=l.foldl (fun a x=>st8 (a ^^^ x.toNat)) r
def crcMore (s:Nat) (l:List UInt8):Nat:=4294967295 - crcGo (4294967295 - s) l
theorem crcStep_lt {r:Nat} (x:UInt8) (h:r<4294967296):st8 (r ^^^ x.toNat)<4294967296:=by
 have hx:x.toNat<4294967296:=by have:=x.toNat_lt;omega
 rw[st8_eq]
 exact stN_lt 8 (Nat.xor_lt_two_pow (n:=32) h hx)
theorem crcGo_cons (r:Nat) (x:UInt8) (t:List UInt8):crcGo r (x::t)=crcGo (st8 (r ^^^ x.toNat)) t:=List.foldl_cons ..
theorem crcGo_lt (l:List UInt8): ∀{r:Nat},r<4294967296→crcGo r l<4294967296:=by
 induction l with
 |nil=>intro r h;exact h
 |cons x t ih=>
  intro r h
  rw[crcGo_cons]
  exact ih (crcStep_lt x h)
theorem crcGo_snoc (l:List UInt8) (r:Nat) (x:UInt8):crcGo r (l++ [x])=st8 (crcGo r l ^^^ x.toNat):=by
 unfold crcGo
 rw[List.foldl_append];rfl
theorem crcMore_lt (s:Nat) (l:List UInt8):crcMore s l<4294967296:=by unfold crcMore;omega
def sumBytes (s:Nat):List UInt8:= [UInt8.ofNat (s % 256),UInt8.ofNat (s / 256 % 256),UInt8.ofNat (s / 65536 % 256),UInt8.ofNat (s / 16777216 % 256)]
def sealL (l:List UInt8):List UInt8:=l++sumBytes (crcMore 0 l)
end Go.Proofs.YtackmnbpfbaemaaGreatDoor
