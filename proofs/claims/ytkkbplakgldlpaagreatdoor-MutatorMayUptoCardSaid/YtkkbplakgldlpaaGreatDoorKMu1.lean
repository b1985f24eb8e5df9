/- Parts, joined: Data of any make and how they lie in memory: leaves, structs, rows. Plain. No condition. A reader of values, byte by byte: blanks, numbers, quotes. Plain. No condition. Words for memory: slices that read as lists, blocks known whole, append of any source (the kit's own words, copied as its page says). No condition. Maps cell by cell, whatever their elements: an entry stored, an entry looked up. Plain. No condition. -/
import Derived.WalkKit
import Derived.Below
import Derived.Test.YtkkbplakgldlpaaGreatDoorProg
import Derived.Lib.MapLaws
import Derived.Lib.RuneBytes
import Derived.Laws.OwnMore
import Derived.Deep.AppendLies
import Derived.Deep.Draws
import Derived.Laws.Rows
import Derived.Maps.AppendAt
import Derived.RegionTactic
import Derived.OwnWalk
import Derived.Maps.OwnSet
namespace Go.Proofs.YtkkbplakgldlpaaGreatDoor
open Go.RowKit
inductive D where
 |leaf (v:Value)
 |agg (l:List D)
 |row (s:Nat) (l:List D)
mutual
def D.cells:D→Nat
 | .leaf _=>1
 | .agg l=>cellsA l
 | .row _ _=>1
def cellsA:List D→Nat
 | []=>0
 |d::r=>d.cells+cellsA r
end
mutual
def Holds (w:World) (B:Nat):D→List Value→Prop
 | .leaf v,cs=>cs= [v]∧v.oneCell'=true
 | .agg l,cs=>HoldsA w B l cs
 | .row s l,cs=> ∃a c,cs= [.slice a l.length c]∧(∀d ∈ l,d.cells=s)∧ ∃ns,HoldsA w B l ns∧(l= []∨ ∃g off,a=some ⟨g,off,none⟩∧g<B∧ ∀j u,ns[j]? =some u→w.cell? ⟨g,off+j,none⟩=some u)
def HoldsA (w:World) (B:Nat):List D→List Value→Prop
 | [],cs=>cs= []
 |d::r,cs=> ∃c1 c2,cs=c1++c2∧Holds w B d c1∧HoldsA w B r c2
end
theorem D.ind {p:D→Prop} (h0: ∀v,p (.leaf v)) (h1: ∀l,(∀d ∈ l,p d)→p (.agg l)) (h2: ∀s l,(∀d ∈ l,p d)→p (.row s l)): ∀d,p d:=by
 intro d
 refine D.rec (motive_1:=p) (motive_2:=fun l=> ∀d ∈ l,p d) h0 h1 h2 ?_ ?_ d
 · intro d hd
   cases hd
 · intro d r hd hr x hx
   rcases List.mem_cons.1 hx with rfl|hx
   · exact hd
   · exact hr x hx
theorem HoldsA.len_of {w:World} {B:Nat}: ∀{l:List D},(∀d ∈ l,∀cs,Holds w B d cs→cs.length=d.cells∧ ∀u ∈ cs,u.oneCell'=true)→ ∀{cs},HoldsA w B l cs→cs.length=cellsA l∧ ∀u ∈ cs,u.oneCell'=true
 | [],_,cs,h=>by
   have:cs= []:=h
   subst this
   exact⟨rfl,fun u hu=>by cases hu⟩
 |d::r,ih,cs,h=>by
  obtain⟨c1,c2,rfl,h1,h2⟩:=h
  obtain⟨a1,a2⟩:=ih d (by simp) c1 h1
  obtain⟨b1,b2⟩:=HoldsA.len_of (fun x hx=>ih x (by simp[hx])) h2
  refine⟨by simp only[List.length_append,cellsA,a1,b1],fun u hu=> ?_⟩
  rcases List.mem_append.1 hu with hu|hu
  · exact a2 u hu
  · exact b2 u hu
theorem Holds.len {w:World} {B:Nat}: ∀{d:D} {cs},Holds w B d cs→cs.length=d.cells∧ ∀u ∈ cs,u.oneCell'=true:=by
 intro d
 refine D.ind (p:=fun d=> ∀{cs},Holds w B d cs→cs.length=d.cells∧ ∀u ∈ cs,u.oneCell'=true) ?_ ?_ ?_ d
 · intro v cs h
   obtain⟨rfl,hv⟩:=h
   exact⟨rfl,fun u hu=>by simp at hu;rw[hu];exact hv⟩
 · intro l ih cs h
   exact HoldsA.len_of (fun d hd _=>ih d hd) h
 · intro s l _ cs h
   obtain⟨a,c,rfl,_⟩:=h
   exact⟨rfl,fun u hu=>by simp at hu;rw[hu];rfl⟩
theorem HoldsA.len {w:World} {B:Nat} {l:List D} {cs:List Value} (h:HoldsA w B l cs):cs.length=cellsA l∧ ∀u ∈ cs,u.oneCell'=true:=HoldsA.len_of (fun _ _ _ hd=>hd.len) h
theorem cellsA_all {s:Nat}: ∀{l:List D},(∀d ∈ l,d.cells=s)→cellsA l=l.length*s
 | [],_=>by simp[cellsA]
 |d::r,h=>by
  have h1:=h d (by simp)
  have h2:=cellsA_all (l:=r) (fun x hx=>h x (by simp[hx]))
  simp only[cellsA,List.length_cons,Nat.add_mul,Nat.one_mul]
  omega
theorem HoldsA.imp {w w':World} {B B':Nat}: ∀{l:List D},(∀d ∈ l,∀cs,Holds w B d cs→Holds w' B' d cs)→ ∀{cs},HoldsA w B l cs→HoldsA w' B' l cs
 | [],_,_,h=>h
 |d::r,ih,cs,h=>by
  obtain⟨c1,c2,e,h1,h2⟩:=h
  exact⟨c1,c2,e,ih d (by simp) c1 h1,HoldsA.imp (fun x hx=>ih x (by simp[hx])) h2⟩
theorem Holds.imp {w w':World} {B B':Nat} (hB:B≤B') (hk: ∀p:Addr,p.block<B→w'.cell? p=w.cell? p): ∀{d:D} {cs},Holds w B d cs→Holds w' B' d cs:=by
 intro d
 refine D.ind (p:=fun d=> ∀{cs},Holds w B d cs→Holds w' B' d cs) ?_ ?_ ?_ d
 · intro v cs h
   exact h
 · intro l ih cs h
   exact HoldsA.imp (fun d hd _=>ih d hd) h
 · intro s l ih cs h
   obtain⟨a,c,e,hs,ns,h1,h2⟩:=h
   refine⟨a,c,e,hs,ns,HoldsA.imp (fun d hd _=>ih d hd) h1, ?_⟩
   rcases h2 with h2|⟨g,off,ea,hg,hcell⟩
   · exact .inl h2
   · exact .inr ⟨g,off,ea,by omega,fun j u hu=>(hk _ hg).trans (hcell j u hu)⟩
theorem Holds.keep {w w':World} {B:Nat} {d:D} {cs:List Value} (h:Holds w B d cs) (hk: ∀p:Addr,p.block<B→w'.cell? p=w.cell? p):Holds w' B d cs:=h.imp (Nat.le_refl _) hk
theorem Holds.below {w w':World} {B:Nat} {d:D} {cs:List Value} (h:Holds w B d cs) (hb:Below B w w'):Holds w' B d cs:=h.keep fun _ hp=>hb.cell hp
theorem Holds.more {w:World} {B B':Nat} {d:D} {cs:List Value} (h:Holds w B d cs) (hB:B≤B'):Holds w B' d cs:=h.imp hB fun _ _=>rfl
theorem HoldsA.keep {w w':World} {B:Nat} {l:List D} {cs:List Value} (h:HoldsA w B l cs) (hk: ∀p:Addr,p.block<B→w'.cell? p=w.cell? p):HoldsA w' B l cs:=HoldsA.imp (fun _ _ _ hd=>hd.keep hk) h
theorem HoldsA.below {w w':World} {B:Nat} {l:List D} {cs:List Value} (h:HoldsA w B l cs) (hb:Below B w w'):HoldsA w' B l cs:=h.keep fun _ hp=>hb.cell hp
theorem HoldsA.more {w:World} {B B':Nat} {l:List D} {cs:List Value} (h:HoldsA w B l cs) (hB:B≤B'):HoldsA w B' l cs:=HoldsA.imp (fun _ _ _ hd=>hd.more hB) h
theorem Holds.later {w w':World} {d:D} {cs:List Value} (h:Holds w w.heap.size d cs) (hb:Below w.heap.size w w'):Holds w' w'.heap.size d cs:=(h.below hb).more hb.size
theorem HoldsA.later {w w':World} {l:List D} {cs:List Value} (h:HoldsA w w.heap.size l cs) (hb:Below w.heap.size w w'):HoldsA w' w'.heap.size l cs:=(h.below hb).more hb.size
theorem HoldsA.app {w:World} {B:Nat}: ∀{a b:List D} {ns ms:List Value},HoldsA w B a ns→HoldsA w B b ms→HoldsA w B (a++b) (ns++ms)
 | [],b,ns,ms,h,h'=>by
   have:ns= []:=h
   subst this
   exact h'
 |d::r,b,ns,ms,h,h'=>by
  obtain⟨c1,c2,rfl,h1,h2⟩:=h
  exact⟨c1,c2++ms,by simp,h1,HoldsA.app h2 h'⟩
theorem HoldsA.one {w:World} {B:Nat} {d:D} {cs:List Value} (h:Holds w B d cs):HoldsA w B [d] cs:=⟨cs, [],by simp,h,rfl⟩
theorem HoldsA.snoc {w:World} {B:Nat} {l:List D} {d:D} {ns cs:List Value} (h:HoldsA w B l ns) (hd:Holds w B d cs):HoldsA w B (l++ [d]) (ns++cs):=h.app (HoldsA.one hd)
theorem HoldsA.split {w:World} {B s:Nat}: ∀{l:List D} {ns:List Value} (k:Nat),(∀d ∈ l,d.cells=s)→HoldsA w B l ns→HoldsA w B (l.take k) (ns.take (k*s))∧HoldsA w B (l.drop k) (ns.drop (k*s))
 | [],ns,k,_,h=>by
   have:ns= []:=h
   subst this
   simp[HoldsA]
 |d::r,ns,0,_,h=>by
  simp only[List.take_zero,Nat.zero_mul,List.drop_zero]
  exact⟨rfl,h⟩
 |d::r,ns,k+1,hs,h=>by
  obtain⟨c1,c2,rfl,h1,h2⟩:=h
  obtain⟨a,b⟩:=HoldsA.split k (fun x hx=>hs x (by simp[hx])) h2
  have hl:c1.length=s:=h1.len.1.trans (hs d (by simp))
  have e1:(c1++c2).take ((k+1)*s)=c1++c2.take (k*s):=by
   rw[List.take_append,List.take_of_length_le (by rw[hl,Nat.add_mul];omega),hl,Nat.add_mul,Nat.one_mul,Nat.add_sub_cancel]
  have e2:(c1++c2).drop ((k+1)*s)=c2.drop (k*s):=by
   rw[List.drop_append,List.drop_eq_nil_of_le (by rw[hl,Nat.add_mul];omega),hl,Nat.add_mul,Nat.one_mul,Nat.add_sub_cancel,List.nil_append]
  rw[e1,e2]
  exact⟨⟨c1,c2.take (k*s),rfl,h1,a⟩,b⟩
theorem HoldsA.at_ {w:World} {B s:Nat} {l:List D} {ns:List Value} (hs: ∀d ∈ l,d.cells=s) (h:HoldsA w B l ns) {i:Nat} {d:D} (hi:l[i]? =some d):
 ∃cs,Holds w B d cs∧cs.length=s∧ ∀j u,cs[j]? =some u→ns[i*s+j]? =some u:=by
 obtain⟨_,h2⟩:=HoldsA.split i hs h
 obtain⟨hlt,rfl⟩:=List.getElem?_eq_some_iff.1 hi
 rw[List.drop_eq_getElem_cons hlt]at h2
 obtain⟨c1,c2,e,h3,_⟩:=h2
 have hl:c1.length=s:=h3.len.1.trans (hs _ (List.getElem_mem hlt))
 refine⟨c1,h3,hl,fun j u hu=> ?_⟩
 have h5:=(List.getElem?_eq_some_iff.1 hu).1
 have h4:(ns.drop (i*s))[j]? =some u:=by
  rw[e,List.getElem?_append_left h5];exact hu
 rwa [List.getElem?_drop]at h4
theorem Holds.at_ {w:World} {B s:Nat} {l:List D} {a:Option Addr} {n c:Nat} (h:Holds w B (.row s l) [.slice a n c]) {i:Nat} {d:D} (hi:l[i]? =some d):
 ∃g off,a=some ⟨g,off,none⟩∧g<B∧ ∃cs,Holds w B d cs∧cs.length=s∧ ∀j u,cs[j]? =some u→w.cell? ⟨g,off+i*s+j,none⟩=some u:=by
 obtain⟨a',c',e,hs,ns,h1,h2⟩:=h
 simp only[List.cons.injEq,Value.slice.injEq,and_true]at e
 obtain⟨rfl,rfl,rfl⟩:=e
 rcases h2 with rfl|⟨g,off,ea,hg,hcell⟩
 · simp at hi
 · obtain⟨cs,h3,h4,h5⟩:=h1.at_ hs hi
   exact⟨g,off,ea,hg,cs,h3,h4,fun j u hu=>by rw[Nat.add_assoc];exact hcell _ u (h5 j u hu)⟩
theorem Holds.row_len {w:World} {B s:Nat} {l:List D} {a:Option Addr} {n c:Nat} (h:Holds w B (.row s l) [.slice a n c]):n=l.length:=by
 obtain⟨a',c',e,_⟩:=h
 simp only[List.cons.injEq,Value.slice.injEq,and_true]at e
 obtain⟨rfl,rfl,rfl⟩:=e
 exact rfl
def Fresh (b:Nat) (w':World) (d:D) (cs:List Value):Prop:=
 ∀w'':World,w'.heap.size≤w''.heap.size→(∀p:Addr,b≤p.block→p.block<w'.heap.size→w''.cell? p=w'.cell? p)→Holds w'' w'.heap.size d cs
def FreshA (b:Nat) (w':World) (l:List D) (cs:List Value):Prop:=
 ∀w'':World,w'.heap.size≤w''.heap.size→(∀p:Addr,b≤p.block→p.block<w'.heap.size→w''.cell? p=w'.cell? p)→HoldsA w'' w'.heap.size l cs
theorem Fresh.now {b:Nat} {w':World} {d:D} {cs:List Value} (h:Fresh b w' d cs):Holds w' w'.heap.size d cs:=h w' (Nat.le_refl _) fun _ _ _=>rfl
theorem FreshA.now {b:Nat} {w':World} {l:List D} {cs:List Value} (h:FreshA b w' l cs):HoldsA w' w'.heap.size l cs:=h w' (Nat.le_refl _) fun _ _ _=>rfl
theorem FreshA.nil (b:Nat) (w':World):FreshA b w' [] []:=fun _ _ _=>rfl
theorem FreshA.keep {b:Nat} {wr w':World} {l:List D} {ns:List Value} (h:FreshA b wr l ns) (hs:wr.heap.size≤w'.heap.size) (hk: ∀p:Addr,b≤p.block→p.block<wr.heap.size→w'.cell? p=wr.cell? p):FreshA b w' l ns:=
 fun w'' h1 h2=>HoldsA.more (h w'' (Nat.le_trans hs h1) (fun p p1 p2=>(h2 p p1 (Nat.lt_of_lt_of_le p2 hs)).trans (hk p p1 p2))) hs
theorem Fresh.keep {b b':Nat} {wr w':World} {d:D} {ns:List Value} (h:Fresh b wr d ns) (hb:b'≤b) (hs:wr.heap.size≤w'.heap.size) (hk: ∀p:Addr,b≤p.block→p.block<wr.heap.size→w'.cell? p=wr.cell? p):Fresh b' w' d ns:=
 fun w'' h1 h2=>Holds.more (h w'' (Nat.le_trans hs h1) (fun p p1 p2=>(h2 p (Nat.le_trans hb p1) (Nat.lt_of_lt_of_le p2 hs)).trans (hk p p1 p2))) hs
theorem Fresh.later {b:Nat} {w w':World} {d:D} {ns:List Value} (h:Fresh b w d ns) (hb:Below w.heap.size w w'):Fresh b w' d ns:=h.keep (Nat.le_refl _) hb.size fun _ _ p2=>hb.cell p2
theorem FreshA.later {b:Nat} {w w':World} {l:List D} {ns:List Value} (h:FreshA b w l ns) (hb:Below w.heap.size w w'):FreshA b w' l ns:=h.keep hb.size fun _ _ p2=>hb.cell p2
theorem FreshA.row {b s:Nat} {w':World} {l:List D} {ns:List Value} {a:Option Addr} {c:Nat} (h:FreshA b w' l ns) (hs: ∀d ∈ l,d.cells=s)
 (ha:l= []∨ ∃g off,a=some ⟨g,off,none⟩∧b≤g∧g<w'.heap.size∧ ∀j u,ns[j]? =some u→w'.cell? ⟨g,off+j,none⟩=some u):Fresh b w' (.row s l) [.slice a l.length c]:=by
 intro w'' h1 h2
 refine⟨a,c,rfl,hs,ns,h w'' h1 h2, ?_⟩
 rcases ha with ha|⟨g,off,e,hbg,hg,hcell⟩
 · exact .inl ha
 · exact .inr ⟨g,off,e,hg,fun j u hu=>(h2 _ hbg hg).trans (hcell j u hu)⟩
end Go.Proofs.YtkkbplakgldlpaaGreatDoor

namespace Go.Proofs.YtkkbplakgldlpaaGreatDoor
open Go.RowKit
inductive Rd (α:Type) where
 |ok (a:α) (q:Nat)
 |bad (e:Int) (q:Nat)
def isBlank (c:UInt8):Bool:=c==9||c==10||c==13||c==32
def blanks:List UInt8→Nat
 | []=>0
 |c::r=>if isBlank c=true then blanks r+1 else 0
def past (s:List UInt8) (p:Nat):Nat:=p+blanks (s.drop p)
theorem blanks_le: ∀l:List UInt8,blanks l≤l.length
 | []=>Nat.le_refl _
 |c::r=>by
  unfold blanks
  split
  · have:=blanks_le r;simp only[List.length_cons];omega
  · exact Nat.zero_le _
theorem past_ge (s:List UInt8) (p:Nat):p≤past s p:=Nat.le_add_right _ _
theorem past_le {s:List UInt8} {p:Nat} (h:p≤s.length):past s p≤s.length:=by
 have:=blanks_le (s.drop p)
 rw[List.length_drop]at this
 unfold past;omega
theorem drop_at {s:List UInt8} {p:Nat} {c:UInt8} (h:s[p]? =some c):s.drop p=c::s.drop (p+1):=by
 obtain⟨hlt,rfl⟩:=List.getElem?_eq_some_iff.1 h
 exact List.drop_eq_getElem_cons hlt
theorem past_step {s:List UInt8} {p:Nat} {c:UInt8} (h:s[p]? =some c) (hb:isBlank c=true):past s p=past s (p+1):=by
 unfold past
 rw[drop_at h,blanks,if_pos hb];omega
theorem past_stop {s:List UInt8} {p:Nat} {c:UInt8} (h:s[p]? =some c) (hb:isBlank c=false):past s p=p:=by
 unfold past
 rw[drop_at h,blanks,if_neg (by rw[hb];decide)];rfl
theorem past_end {s:List UInt8} {p:Nat} (h:s.length≤p):past s p=p:=by
 unfold past
 rw[List.drop_eq_nil_of_le h];rfl
theorem past_at (s:List UInt8) (p:Nat): ∀c,s[past s p]? =some c→isBlank c=false:=by
 unfold past
 have key: ∀(l:List UInt8) c,l[blanks l]? =some c→isBlank c=false:=by
  intro l
  induction l with
  |nil=>intro c h;simp at h
  |cons x r ih=>
   intro c h
   unfold blanks at h
   split at h
   · rename_i hb
     rw[List.getElem?_cons_succ]at h
     exact ih c h
   · rename_i hb
     simp only[List.getElem?_cons_zero,Option.some.injEq]at h
     subst h
     simpa using hb
 intro c h
 exact key (s.drop p) c (by rw[List.getElem?_drop];exact h)
theorem past_past (s:List UInt8) (p:Nat):past s (past s p)=past s p:=by
 cases e:s[past s p]? with
 |none=>exact past_end (by simpa using e)
 |some c=>exact past_stop e (past_at s p c e)
def isDig (c:UInt8):Bool:=decide (48≤c.toNat∧c.toNat≤57)
def digN:List UInt8→Nat
 | []=>0
 |c::r=>if isDig c=true then digN r+1 else 0
theorem digN_le: ∀l:List UInt8,digN l≤l.length
 | []=>Nat.le_refl _
 |c::r=>by
  unfold digN
  split
  · have:=digN_le r;simp only[List.length_cons];omega
  · exact Nat.zero_le _
def digEnd (s:List UInt8) (p:Nat):Nat:=p+digN (s.drop p)
theorem digEnd_ge (s:List UInt8) (p:Nat):p≤digEnd s p:=Nat.le_add_right _ _
theorem digEnd_le {s:List UInt8} {p:Nat} (h:p≤s.length):digEnd s p≤s.length:=by
 have:=digN_le (s.drop p)
 rw[List.length_drop]at this
 unfold digEnd;omega
theorem digEnd_step {s:List UInt8} {p:Nat} {c:UInt8} (h:s[p]? =some c) (hb:isDig c=true):digEnd s p=digEnd s (p+1):=by
 unfold digEnd
 rw[drop_at h,digN,if_pos hb];omega
theorem digEnd_stop {s:List UInt8} {p:Nat} {c:UInt8} (h:s[p]? =some c) (hb:isDig c=false):digEnd s p=p:=by
 unfold digEnd
 rw[drop_at h,digN,if_neg (by rw[hb];decide)];rfl
theorem digEnd_end {s:List UInt8} {p:Nat} (h:s.length≤p):digEnd s p=p:=by
 unfold digEnd
 rw[List.drop_eq_nil_of_le h];rfl
theorem digEnd_dig (s:List UInt8) (p:Nat): ∀i c,p≤i→i<digEnd s p→s[i]? =some c→isDig c=true:=by
 have key: ∀(l:List UInt8) i c,i<digN l→l[i]? =some c→isDig c=true:=by
  intro l
  induction l with
  |nil=>intro i c h;simp[digN]at h
  |cons x r ih=>
   intro i c h hc
   unfold digN at h
   split at h
   · rename_i hb
     cases i with
     |zero=>simp only[List.getElem?_cons_zero,Option.some.injEq]at hc;subst hc;exact hb
     |succ i=>rw[List.getElem?_cons_succ]at hc;exact ih i c (by omega) hc
   · omega
 intro i c h1 h2 hc
 unfold digEnd at h2
 exact key (s.drop p) (i - p) c (by omega) (by rw[List.getElem?_drop,show p+(i - p)=i from by omega];exact hc)
def digV (l:List UInt8):Nat:=l.foldl (fun a c=>a*10+(c.toNat - 48)) 0
def numRes (neg:Bool) (m p q:Nat):Rd Int:=
 if neg=true then(if m=0∨9223372036854775808<m then .bad 7 p else .ok (-(m:Int)) q)else if 9223372036854775807<m then .bad 7 p else .ok (m:Int) q
def numFrom (s:List UInt8) (p f:Nat):Rd Int:=
 if digEnd s f=f then .bad 4 f
 else if s[f]? =some 48∧f+1<digEnd s f then .bad 4 (f+1)
 else numRes (decide (s[p]? =some 45)) (digV ((s.drop f).take (digEnd s f - f))) p (digEnd s f)
def numberAt (s:List UInt8) (p:Nat):Rd Int:=numFrom s p (if s[p]? =some 45 then p+1 else p)
def hexD (c:UInt8):Option Nat:=
 if 48≤c.toNat∧c.toNat≤57 then some (c.toNat - 48)else if 97≤c.toNat∧c.toNat≤102 then some (c.toNat - 87)else if 65≤c.toNat∧c.toNat≤70 then some (c.toNat - 55)else none
def hexF:List UInt8→Nat→Nat→Option Nat
 |_,0,n=>some n
 | [],_+1,_=>none
 |c::l,k+1,n=>match hexD c with
  |none=>none
  |some d=>hexF l k (16*n+d)
def unitL (l:List UInt8):Option Nat:=if l.length<6∨l[0]? ≠some 92∨l[1]? ≠some 117 then none else hexF (l.drop 2) 4 0
def escLet (c:UInt8):Option Nat:=
 if c=34 then some 34 else if c=92 then some 92 else if c=47 then some 47 else if c=98 then some 8 else if c=102 then some 12 else if c=110 then some 10 else if c=114 then some 13 else if c=116 then some 9 else none
def pairL (r:Nat) (l:List UInt8):Rd Nat:=
 if r<55296∨57344≤r then .ok r 6
 else if 56320≤r then .bad 3 0
 else match unitL l with
  |none=> .bad 3 0
  |some m=>if m<56320∨57344≤m then .bad 3 0 else .ok (65536+1024*(r - 55296)+(m - 56320)) 12
def letL (l:List UInt8):Rd Nat:=match l[1]? with
 |none=> .bad 4 0
 |some c=>match escLet c with
  |none=> .bad 4 0
  |some r=> .ok r 2
def escL (l:List UInt8):Rd Nat:=match unitL l with
 |some r=>pairL r (l.drop 6)
 |none=>letL l
theorem hexD_lt {c:UInt8} {d:Nat} (h:hexD c=some d):d<16:=by
 unfold hexD at h
 split at h
 · simp at h;omega
 split at h
 · simp at h;omega
 split at h
 · simp at h;omega
 · cases h
theorem hexF_lt: ∀(k:Nat) (l:List UInt8) (n r:Nat),hexF l k n=some r→r<(n+1)*16 ^ k
 |0,l,n,r,h=>by
  have:n=r:=by cases l<;>simpa[hexF]using h
  subst this;simp
 |k+1, [],n,r,h=>by simp[hexF]at h
 |k+1,c::l,n,r,h=>by
  simp only[hexF]at h
  cases hd:hexD c with
  |none=>rw[hd]at h;cases h
  |some d=>
   rw[hd]at h
   have h1:=hexF_lt k l _ r h
   have h2:=hexD_lt hd
   have h3:(16*n+d+1)*16 ^ k≤((n+1)*16)*16 ^ k:=Nat.mul_le_mul_right _ (by omega)
   rw[Nat.pow_succ,Nat.mul_comm (16 ^ k) 16,←Nat.mul_assoc]
   omega
theorem unitL_lt {l:List UInt8} {r:Nat} (h:unitL l=some r):r<65536∧6≤l.length:=by
 unfold unitL at h
 split at h
 · cases h
 · rename_i hn
   have:=hexF_lt 4 _ _ _ h
   omega
theorem escL_ok {l:List UInt8} {r n:Nat} (h:escL l=.ok r n):r≤1114111∧ ¬(55296≤r∧r<57344)∧2≤n∧n≤l.length:=by
 unfold escL at h
 cases hu:unitL l with
 |some u=>
  rw[hu]at h
  obtain⟨h1,h2⟩:=unitL_lt hu
  simp only[pairL]at h
  split at h
  · simp only[Rd.ok.injEq]at h;omega
  split at h
  · cases h
  cases hm:unitL (l.drop 6)with
  |none=>rw[hm]at h;cases h
  |some m=>
   rw[hm]at h
   obtain⟨h3,h4⟩:=unitL_lt hm
   rw[List.length_drop]at h4
   simp only at h
   split at h
   · cases h
   · simp only[Rd.ok.injEq]at h;omega
 |none=>
  rw[hu]at h
  simp only[letL]at h
  cases hc:l[1]? with
  |none=>rw[hc]at h;cases h
  |some c=>
   rw[hc]at h
   have hl:=(List.getElem?_eq_some_iff.1 hc).1
   simp only at h
   cases he:escLet c with
   |none=>rw[he]at h;cases h
   |some x=>
    rw[he]at h
    simp only[Rd.ok.injEq]at h
    have:x≤92:=by
     unfold escLet at he
     repeat' split at he
     all_goals first|(simp at he;omega)|cases he
    omega
def unqF:Nat→List UInt8→Nat→List UInt8→Rd (List UInt8)
 |0,_,i,_=> .bad 4 i
 |f+1,s,i,out=>match s[i]? with
  |none=> .bad 4 i
  |some c=>
   if c=34 then .ok out (i+1)
   else if c.toNat<32 then .bad 4 i
   else if c=92 then(match escL (s.drop i)with
    | .bad e _=> .bad e i
    | .ok r n=>unqF f s (i+n) (out++Lib.encodeRune (r:Int)))
   else if(Lib.decodeL (s.drop i)).1=65533∧(Lib.decodeL (s.drop i)).2=1 then .bad 3 i
   else unqF f s (i+(Lib.decodeL (s.drop i)).2) (out++(s.drop i).take (Lib.decodeL (s.drop i)).2)
def unqAt (s:List UInt8) (p:Nat):Rd (List UInt8):=if s[p]? =some 34 then unqF (s.length - p) s (p+1) []else .bad 4 p
theorem dec_le {s:List UInt8} {i:Nat} (h:i<s.length):i+(Lib.decodeL (s.drop i)).2≤s.length:=by
 have:=Lib.decodeL_le (s.drop i) (by intro e;have:=congrArg List.length e;rw[List.length_drop]at this;simp at this;omega)
 rw[List.length_drop]at this;omega
def Rd.within {α:Type} (p n:Nat):Rd α→Prop
 | .ok _ q=>p<q∧q≤n
 | .bad e q=>p≤q∧q≤n∧1≤e∧e≤18
theorem unqF_within: ∀(f:Nat) (s:List UInt8) (i:Nat) (out:List UInt8),i≤s.length→(unqF f s i out).within i s.length
 |0,s,i,out,h=>⟨Nat.le_refl _,h,by decide,by decide⟩
 |f+1,s,i,out,h=>by
  unfold unqF
  cases hc:s[i]? with
  |none=>exact⟨Nat.le_refl _,h,by decide,by decide⟩
  |some c=>
   have hi:=(List.getElem?_eq_some_iff.1 hc).1
   simp only
   have step: ∀j o,i<j→j≤s.length→(unqF f s j o).within i s.length:=by
    intro j o h1 h2
    have:=unqF_within f s j o h2
    cases hr:unqF f s j o with
    |ok a q=>rw[hr]at this;exact⟨by have:=this.1;omega,this.2⟩
    |bad e q=>rw[hr]at this;exact⟨by have:=this.1;omega,this.2⟩
   split
   · exact⟨by omega,by omega⟩
   split
   · exact⟨Nat.le_refl _,h,by decide,by decide⟩
   split
   · cases he:escL (s.drop i)with
     |bad e q=>
      refine⟨Nat.le_refl _,h, ?_⟩
      unfold escL pairL letL at he
      repeat' split at he
      all_goals first|(simp only[Rd.bad.injEq]at he;omega)|cases he
     |ok r n=>
      have:=escL_ok he
      rw[List.length_drop]at this
      exact step _ _ (by omega) (by omega)
   split
   · exact⟨Nat.le_refl _,h,by decide,by decide⟩
   · exact step _ _ (by have:=Lib.decodeL_width (s.drop i);omega) (dec_le hi)
theorem unqAt_within {s:List UInt8} {p:Nat} (h:p≤s.length):(unqAt s p).within p s.length:=by
 unfold unqAt
 split
 · rename_i hc
   have hi:=(List.getElem?_eq_some_iff.1 hc).1
   have:=unqF_within (s.length - p) s (p+1) [] (by omega)
   cases hr:unqF (s.length - p) s (p+1) []with
   |ok a q=>rw[hr]at this;exact⟨by have:=this.1;omega,this.2⟩
   |bad e q=>rw[hr]at this;exact⟨by have:=this.1;omega,this.2⟩
 · exact⟨Nat.le_refl _,h,by decide,by decide⟩
theorem numberAt_within {s:List UInt8} {p:Nat} (h:p<s.length):(numberAt s p).within p s.length:=by
 have hf:p≤(if s[p]? =some 45 then p+1 else p)∧(if s[p]? =some 45 then p+1 else p)≤s.length:=by split<;>omega
 have h1:=digEnd_ge s (if s[p]? =some 45 then p+1 else p)
 have h2:=digEnd_le hf.2
 unfold numberAt
 generalize (if s[p]? =some 45 then p+1 else p)=F at hf h1 h2 ⊢
 unfold numFrom numRes
 generalize digEnd s F=Q at h1 h2 ⊢
 repeat' split
 all_goals(unfold Rd.within;simp only;omega)
theorem get_lt {s:List UInt8} {p:Nat} {c:UInt8} (h:s[p]? =some c):p<s.length:=(List.getElem?_eq_some_iff.1 h).1
end Go.Proofs.YtkkbplakgldlpaaGreatDoor

namespace Go.Proofs.YtkkbplakgldlpaaGreatDoor
open Go Go.RowKit
theorem block_of_add (a:Addr) (n:Nat):(a.add n).block=a.block:=by unfold Addr.add;split<;>rfl
def Reads (w:World) (B size:Nat) (A:Option Addr) (n:Nat) (xs:List Value):Prop:=
 xs.length=n*size∧(0<n→ ∃ad,A=some ad∧ad.block<B∧ ∀j u,xs[j]? =some u→w.cell? (ad.add j)=some u)
section
variable {w w':World} {B B' size n:Nat} {A:Option Addr} {xs:List Value}
theorem Reads.at_ {k:Nat} (h:Reads w B 1 A n xs) (hk:k<n): ∃ad u,A=some ad∧ad.block<B∧xs[k]? =some u∧w.cell? (ad.add k)=some u:=by
 obtain⟨ad,e,hb,hc⟩:=h.2 (by omega)
 have hl:k<xs.length:=by have:=h.1;omega
 exact⟨ad,xs[k],e,hb,List.getElem?_eq_getElem hl,hc k _ (List.getElem?_eq_getElem hl)⟩
theorem Reads.keep (h:Reads w B size A n xs) (hk: ∀p:Addr,p.block<B→w'.cell? p=w.cell? p):Reads w' B size A n xs:=
 ⟨h.1,fun hn=>by
   obtain⟨ad,e,hb,hc⟩:=h.2 hn
   exact⟨ad,e,hb,fun j u hu=>(hk _ (by rw[block_of_add];exact hb)).trans (hc j u hu)⟩⟩
theorem Reads.more (h:Reads w B size A n xs) (hB:B≤B'):Reads w B' size A n xs:=
 ⟨h.1,fun hn=>by
   obtain⟨ad,e,hb,hc⟩:=h.2 hn
   exact⟨ad,e,by omega,hc⟩⟩
theorem Reads.below (h:Reads w B size A n xs) (hb:Below B w w'):Reads w' B size A n xs:=h.keep fun _ hp=>hb.cell hp
theorem Reads.drew (h:Reads w B size A n xs):Reads w.drew B size A n xs:=h
theorem Reads.drewN (h:Reads w B size A n xs) (k:Nat):Reads (w.drewN k) B size A n xs:=h
theorem Reads.alloc (h:Reads w B size A n xs) (hB:B≤w.heap.size) (o:Obj):Reads (w.alloc o) B size A n xs:=h.keep fun p hp=>World.cell?_alloc_lt w o p (by omega)
theorem Reads.setCell (h:Reads w B size A n xs) {p:Addr} (hB:B≤p.block) (u:Value):Reads (w.setCell p u) B size A n xs:=
 h.keep fun q hq=>World.cell?_setCell_other w p q u (fun e=>by subst e;omega)
theorem Reads.grown (h:Reads w B size A n xs) {row:Option Nat} (hg:w.grownBy w' row) (hB:B≤w.heap.size) (hr: ∀g,row=some g→B≤g):Reads w' B size A n xs:=
 h.keep fun p hp=>World.cell?_of_block (hg.block p.block (by omega) (fun e=>by have:=hr _ e.symm;omega))
end
def Blk (w:World) (g:Nat) (t:TypeId) (cs:Array Value):Prop:=w.heap[g]? =some (.cells cs t (0,0))
section
variable {w w':World} {g:Nat} {t:TypeId} {cs:Array Value}
theorem Blk.lt (h:Blk w g t cs):g<w.heap.size:=by
 rcases Nat.lt_or_ge g w.heap.size with hlt|hge
 · exact hlt
 · unfold Blk at h;rw[Array.getElem?_eq_none hge]at h;cases h
theorem Blk.cell (h:Blk w g t cs) (i:Nat):w.cell? ⟨g,i,none⟩=cs[i]? :=cell_of_row w g i cs t (0,0) h
theorem Blk.frozen (h:Blk w g t cs) (i:Nat):w.frozen? ⟨g,i,none⟩=false:=by
 unfold Blk at h
 simp[World.frozen?,h]
theorem Blk.new (w:World) (t:TypeId) (cs:Array Value):Blk (w.alloc (.cells cs t)) w.heap.size t cs:=heap_alloc_new w _
theorem Blk.drew (h:Blk w g t cs):Blk w.drew g t cs:=h
theorem Blk.drewN (h:Blk w g t cs) (n:Nat):Blk (w.drewN n) g t cs:=h
theorem Blk.alloc (h:Blk w g t cs) (o:Obj):Blk (w.alloc o) g t cs:=(Below.heap_alloc w o g h.lt).trans h
theorem Blk.set_ (h:Blk w g t cs) (i:Nat) (u:Value):Blk (w.setCell ⟨g,i,none⟩ u) g t (cs.setIfInBounds i u):=by
 unfold Blk at h ⊢
 simp[World.setCell,Array.getElem?_modify,h]
theorem Blk.far (h:Blk w g t cs) {p:Addr} (hp:g≠p.block) (u:Value):Blk (w.setCell p u) g t cs:=(Below.heap_setCell w p u g hp).trans h
theorem Blk.below {B:Nat} (h:Blk w g t cs) (hb:Below B w w') (hg:g<B):Blk w' g t cs:=(hb.block g hg).trans h
theorem Blk.grown {row:Option Nat} (h:Blk w g t cs) (hb:w.grownBy w' row) (hg:some g≠row):Blk w' g t cs:=(hb.block g h.lt hg).trans h
end
section
variable {P:Program} (w:World)
theorem run_append_of_nil (base:Nat) (t ty e:TypeId) (i:TypeInfo) (size:Nat) (ht:P.underlying t=some (.slice e)) (hi:P.info? e=some i)
 (v:Value) (n:Nat) (xs:List Value) (hown:w.ownsRow base e size v n xs) (c:Nat):(Builtin.append_ #[t,t] ty #[v,.slice none 0 c]).run P w=.ok v w:=by
 rcases hown.2 with⟨rfl,rfl⟩|⟨g,cap,cur,rfl,_,_,hnc,_⟩
 · simp[Builtin.append_,run_underlying ht,sizeOf,typeInfo,hi,Builtin.lenOf,Builtin.firstCells]
 · simp[Builtin.append_,run_underlying ht,sizeOf,typeInfo,hi,Builtin.lenOf,Builtin.firstCells,hnc,storeCells]
theorem run_append_any (base:Nat) (t ty e:TypeId) (i:TypeInfo) (z:Value) (size bytes:Nat) (ht:P.underlying t=some (.slice e)) (hi:P.info? e=some i) (hz:i.zero=some z)
 (hsize:i.size=size) (hby:i.bytes=bytes) (hzs:z.cells.size=size) (hsz:0<size)
 (v:Value) (n:Nat) (xs:List Value) (hown:w.ownsRow base e size v n xs)
 (B:Nat) (A:Option Addr) (m c:Nat) (news:List Value) (hr:Reads w B size A m news) (h1: ∀u ∈ news,u.oneCell'=true)
 (h63:n+m≤maxLen) (hbytes:(n+m)*bytes≤140737488355328) (hbase:base≤w.heap.size):
 ∃v' w',(Builtin.append_ #[t,t] ty #[v,.slice A m c]).run P w=.ok v' w'∧w'.ownsRow base e size v' (n+m) (xs++news)∧w.grownBy w' v.ownBlock∧
  (v'.ownBlock=v.ownBlock∨v'.ownBlock=some w.heap.size):=by
 rcases A with _|ad
 · have hm:m=0:=by
    rcases Nat.eq_zero_or_pos m with h0|h0
    · exact h0
    · obtain⟨ad,h,_⟩:=hr.2 h0
      cases h
   subst hm
   have hn:news= []:=List.eq_nil_of_length_eq_zero (by simpa using hr.1)
   subst hn
   exact⟨v,w,run_append_of_nil w base t ty e i size ht hi v n xs hown c,by simpa using hown,World.grownBy.refl w _,.inl rfl⟩
 · have hcells: ∀j u,news[j]? =some u→w.cell? (ad.add j)=some u:=by
    intro j u hu
    rcases Nat.eq_zero_or_pos m with h0|h0
    · subst h0
      have hn:news= []:=List.eq_nil_of_length_eq_zero (by simpa using hr.1)
      subst hn
      simp at hu
    · obtain⟨ad',h,_,hc⟩:=hr.2 h0
      injection h with h
      subst h
      exact hc j u hu
   obtain⟨v',w',hrun,h2,h3,_,h5⟩:=run_append_own_at (P:=P) w base t ty e i z size bytes ht hi hz hsize hby hzs hsz v n xs hown ad m c news hr.1 hcells h1 h63 hbytes hbase
   exact⟨v',w',hrun,h2,h3,h5⟩
end
end Go.Proofs.YtkkbplakgldlpaaGreatDoor

namespace Go.Proofs.YtkkbplakgldlpaaGreatDoor
open Go Go.RowKit
structure MKey {α:Type} [DecidableEq α] (P:Program) (kt:TypeId) (f:α→Value):Prop where
 under: ∃d,P.underlying kt=some d∧ ∀a b,Instr.sameNow d (f a) (f b)=some (decide (a=b))
 check: ∀e w a,(Instr.checkKey e 10000 kt (f a)).run P w=.ok () w
theorem ba_beq (a b:ByteArray):(a==b)=decide (a=b):=by
 obtain⟨a⟩:=a
 obtain⟨b⟩:=b
 have h:((⟨a⟩:ByteArray)==⟨b⟩)=(a==b):=rfl
 rw[h]
 by_cases e:a=b<;>simp[e]
theorem mkey_string {P:Program} {kt:TypeId} (h:P.underlying kt=some .string):MKey P kt Value.string:=by
 refine⟨⟨_,h,fun a b=> ?_⟩,fun e w a=> ?_⟩
 · simp only[Instr.sameNow]
   congr 1
   exact ba_beq a b
 · have key: ∀n,(Instr.checkKey e (n+1) kt (.string a)).run P w=.ok () w:=fun n=>by simp[Instr.checkKey,run_underlying h]
   exact key 9999
theorem mkey_int {P:Program} {kt:TypeId} {q:IntKind} (h:P.underlying kt=some (.int q)):MKey P kt (Value.int q):=by
 refine⟨⟨_,h,fun a b=> ?_⟩,fun e w a=> ?_⟩
 · simp only[Instr.sameNow,if_true]
   congr 1
 · have key: ∀n,(Instr.checkKey e (n+1) kt (.int q a)).run P w=.ok () w:=fun n=>by simp[Instr.checkKey,run_underlying h]
   exact key 9999
section
variable {α:Type}
def entsM (f:α→Value):List (α×Value)→Nat→List MapEntry
 | [],_=> []
 |(k,v)::r,i=>{key:=f k,val:=v,born:=i}::entsM f r (i+1)
def MapAt (f:α→Value) (w:World) (g:Nat) (kv:List (α×Value)):Prop:=w.heap[g]? =some (.map (entsM f kv 0).toArray kv.length)
def findM [DecidableEq α] (a:α):List (α×Value)→Option Value
 | []=>none
 |(k,v)::r=>if a=k then some v else findM a r
variable {f:α→Value} {P:Program} {kt et t:TypeId} {w w':World} {g:Nat} {kv:List (α×Value)}
theorem entsM_append: ∀(kv:List (α×Value)) (i:Nat) (k:α) (v:Value),entsM f (kv++ [(k,v)]) i=entsM f kv i++ [{key:=f k,val:=v,born:=i+kv.length}]
 | [],i,k,v=>by simp[entsM]
 |(a,b)::r,i,k,v=>by
  simp only[List.cons_append,entsM,entsM_append r,List.length_cons]
  rw[show i+1+r.length=i+(r.length+1)from by omega]
theorem MapAt.lt (h:MapAt f w g kv):g<w.heap.size:=by
 rcases Nat.lt_or_ge g w.heap.size with h1|h1
 · exact h1
 · unfold MapAt at h;rw[Array.getElem?_eq_none h1]at h;cases h
theorem MapAt.keep (h:MapAt f w g kv) (hk:w'.heap[g]? =w.heap[g]?):MapAt f w' g kv:=hk.trans h
theorem MapAt.below {B:Nat} (h:MapAt f w g kv) (hb:Below B w w') (hg:g<B):MapAt f w' g kv:=(hb.block g hg).trans h
theorem MapAt.alloc (h:MapAt f w g kv) (o:Obj):MapAt f (w.alloc o) g kv:=(Below.heap_alloc w o g h.lt).trans h
theorem MapAt.new (w:World):MapAt f (w.alloc (.map #[] 0)) w.heap.size []:=heap_alloc_new w _
theorem MapAt.setCell (h:MapAt f w g kv) {p:Addr} (hp:g≠p.block) (u:Value):MapAt f (w.setCell p u) g kv:=(Below.heap_setCell w p u g hp).trans h
variable [DecidableEq α]
theorem findNow_M {d:TypeDesc} (hd: ∀a b,Instr.sameNow d (f a) (f b)=some (decide (a=b))) (a:α): ∀(kv:List (α×Value)) (i j:Nat),∃q,Instr.findNow d (f a) (entsM f kv i) j=some q∧q.map (·.2)=findM a kv
 | [],_,_=>⟨none,rfl,rfl⟩
 |(k,v)::r,i,j=>by
  by_cases h:a=k
  · exact⟨some (j,v),by simp[entsM,Instr.findNow,hd,h],by simp[findM,h]⟩
  · obtain⟨q,h1,h2⟩:=findNow_M hd a r (i+1) (j+1)
    exact⟨q,by simp[entsM,Instr.findNow,hd,h,h1],by rw[h2];simp[findM,h]⟩
theorem run_insertM (K:MKey P kt f) (ht:P.underlying t=some (.map kt et)) (h:MapAt f w g kv) {a:α} (hn:findM a kv=none) (v:Value):
 ∃w',(Instr.mapUpdate t (.map (some g)) (f a) v).run P w=.ok () w'∧MapAt f w' g (kv++ [(a,v)])∧w.grownBy w' (some g)∧w'.heap.size=w.heap.size:=by
 obtain⟨d,hd,hs⟩:=K.under
 obtain⟨q,h1,h2⟩:=findNow_M hs a kv 0 0
 rw[hn]at h2
 have hq:q=none:=by cases q<;>simp_all
 subst hq
 have hck:=K.check false w a
 have hfk:(Instr.findKey kt (f a) (entsM f kv 0)).run P w=.ok none w:=by simp[Instr.findKey,Sem.run_bind,run_underlying hd,h1]
 have hlt:=h.lt
 refine⟨{w with heap:=w.heap.setIfInBounds g (.map ((entsM f kv 0).toArray.push {key:=f a,val:=v,born:=kv.length}) (kv.length+1))}, ?_, ?_, ?_, ?_⟩
 · have hb:w.heap[g]? =some (.map (entsM f kv 0).toArray kv.length):=h
   unfold Instr.mapUpdate
   simp only[Sem.run_bind,run_underlying ht,Result.andThen,getObj,Sem.run,hb,hck,hfk,setObj]
 · unfold MapAt
   simp[hlt,entsM_append]
 · exact⟨rfl,rfl,rfl,by simp,fun k hk hne=>by simp only[Array.getElem?_setIfInBounds];rw[if_neg];rintro rfl;exact hne rfl⟩
 · simp
theorem wpList_insertM {ops:Array Oper} {rest:List Oper} {o:Oper} {a:Act} {Q:Exit→Act→World→Prop} (hg:o.guard=none) (m x u:Operand) (t:TypeId) (hop:o.op=Op.insert t m x u)
 (K:MKey P kt f) (ht:P.underlying t=some (.map kt et)) (hm:a.eval m=.map (some g)) (h:MapAt f w g kv) {k:α} {v:Value} (hx:a.eval x=f k) (hv:a.eval u=v) (hn:findM k kv=none)
 (hK: ∀w',MapAt f w' g (kv++ [(k,v)])→w.grownBy w' (some g)→w'.heap.size=w.heap.size→wpList P ops Q rest (a.put o.dst undef) w'):wpList P ops Q (o::rest) a w:=by
 refine wpList_plain hg fun K' hK'=> ?_
 obtain⟨w',hrun,r1,r2,r3⟩:=run_insertM K ht h hn v
 unfold Oper.wp
 simp[execOp,hop,hm,hx,hv,hrun,Result.andThen]
 exact hK' _ _ (hK w' r1 r2 r3)
theorem run_lookM (K:MKey P kt f) (ht:P.underlying t=some (.map kt et)) (h:MapAt f w g kv) (a:α) {z:Value} (hz: ∀w,(zeroValue et).run P w=.ok z w) (c:Bool):
 (Instr.lookup t (.map (some g)) (f a) c).run P w=.ok (if c then .tuple #[(findM a kv).getD z,.bool (findM a kv).isSome]else(findM a kv).getD z) w:=by
 obtain⟨d,hd,hs⟩:=K.under
 obtain⟨q,h1,h2⟩:=findNow_M hs a kv 0 0
 have hck:=fun e=>K.check e w a
 have hfk:(Instr.findKey kt (f a) (entsM f kv 0)).run P w=.ok q w:=by simp[Instr.findKey,Sem.run_bind,run_underlying hd,h1]
 have hb:w.heap[g]? =some (.map (entsM f kv 0).toArray kv.length):=h
 unfold Instr.lookup
 simp only[Sem.run_bind,run_underlying ht,Result.andThen,getObj,Sem.run,hb]
 cases q with
 |none=>
  have:findM a kv=none:=by cases hq:findM a kv<;>simp_all
  rw[this]
  cases c<;>simp[hck,hfk,hz w,Result.andThen]
 |some p=>
  obtain⟨i,v⟩:=p
  have:findM a kv=some v:=by rw[←h2];rfl
  rw[this]
  cases c<;>simp[hck,hfk]
end
end Go.Proofs.YtkkbplakgldlpaaGreatDoor
