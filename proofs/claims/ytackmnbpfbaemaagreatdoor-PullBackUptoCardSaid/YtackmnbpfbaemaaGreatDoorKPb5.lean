/- Parts, joined: Data of any make and how they lie in memory: leaves, structs, rows. Plain. No condition. commonplaceref02.Within: the values at once within one. Condition: a bulk of at most 10^8. -/
import Derived.WalkKit
import Derived.Below
import Derived.Test.YtackmnbpfbaemaaGreatDoorProg
import Derived.Maps.AppendAt
import Derived.Test.YtackmnbpfbaemaaGreatDoorKPb3
import Derived.Test.YtackmnbpfbaemaaGreatDoorKPb4
namespace Go.Proofs.YtackmnbpfbaemaaGreatDoor
open Go.RowKit
inductive D where
 |leaf (v:Value)
 |agg (l:List D)
 |row (s:Nat) (l:List D)
mutual
def D.cells:D→Nat
 | .leaf _=>1
 | .agg l=>cellsA l
 | .row _ _=>1
def cellsA:List D→Nat
 | []=>0
 |d::r=>d.cells+cellsA r
end
mutual
def Holds (w:World) (B:Nat):D→List Value→Prop
 | .leaf v,cs=>cs= [v]∧v.oneCell'=true
 | .agg l,cs=>HoldsA w B l cs
 | .row s l,cs=> ∃a c,cs= [.slice a l.length c]∧(∀d ∈ l,d.cells=s)∧ ∃ns,HoldsA w B l ns∧(l= []∨ ∃g off,a=some ⟨g,off,none⟩∧g<B∧ ∀j u,ns[j]? =some u→w.cell? ⟨g,off+j,none⟩=some u)
def HoldsA (w:World) (B:Nat):List D→List Value→Prop
 | [],cs=>cs= []
 |d::r,cs=> ∃c1 c2,cs=c1++c2∧Holds w B d c1∧HoldsA w B r c2
end
theorem D.ind {p:D→Prop} (h0: ∀v,p (.leaf v)) (h1: ∀l,(∀d ∈ l,p d)→p (.agg l)) (h2: ∀s l,(∀d ∈ l,p d)→p (.row s l)): ∀d,p d:=by
 intro d
 refine D.rec (motive_1:=p) (motive_2:=fun l=> ∀d ∈ l,p d) h0 h1 h2 ?_ ?_ d
 · intro d hd
   cases hd
 · intro d r hd hr x hx
   rcases List.mem_cons.1 hx with rfl|hx
   · exact hd
   · exact hr x hx
theorem HoldsA.len_of {w:World} {B:Nat}: ∀{l:List D},(∀d ∈ l,∀cs,Holds w B d cs→cs.length=d.cells∧ ∀u ∈ cs,u.oneCell'=true)→ ∀{cs},HoldsA w B l cs→cs.length=cellsA l∧ ∀u ∈ cs,u.oneCell'=true
 | [],_,cs,h=>by
   have:cs= []:=h
   subst this
   exact⟨rfl,fun u hu=>by cases hu⟩
 |d::r,ih,cs,h=>by
  obtain⟨c1,c2,rfl,h1,h2⟩:=h
  obtain⟨a1,a2⟩:=ih d (by simp) c1 h1
  obtain⟨b1,b2⟩:=HoldsA.len_of (fun x hx=>ih x (by simp[hx])) h2
  refine⟨by simp only[List.length_append,cellsA,a1,b1],fun u hu=> ?_⟩
  rcases List.mem_append.1 hu with hu|hu
  · exact a2 u hu
  · exact b2 u hu
theorem Holds.len {w:World} {B:Nat}: ∀{d:D} {cs},Holds w B d cs→cs.length=d.cells∧ ∀u ∈ cs,u.oneCell'=true:=by
 intro d
 refine D.ind (p:=fun d=> ∀{cs},Holds w B d cs→cs.length=d.cells∧ ∀u ∈ cs,u.oneCell'=true) ?_ ?_ ?_ d
 · intro v cs h
   obtain⟨rfl,hv⟩:=h
   exact⟨rfl,fun u hu=>by simp at hu;rw[hu];exact hv⟩
 · intro l ih cs h
   exact HoldsA.len_of (fun d hd _=>ih d hd) h
 · intro s l _ cs h
   obtain⟨a,c,rfl,_⟩:=h
   exact⟨rfl,fun u hu=>by simp at hu;rw[hu];rfl⟩
theorem HoldsA.len {w:World} {B:Nat} {l:List D} {cs:List Value} (h:HoldsA w B l cs):cs.length=cellsA l∧ ∀u ∈ cs,u.oneCell'=true:=HoldsA.len_of (fun _ _ _ hd=>hd.len) h
theorem cellsA_all {s:Nat}: ∀{l:List D},(∀d ∈ l,d.cells=s)→cellsA l=l.length*s
 | [],_=>by simp[cellsA]
 |d::r,h=>by
  have h1:=h d (by simp)
  have h2:=cellsA_all (l:=r) (fun x hx=>h x (by simp[hx]))
  simp only[cellsA,List.length_cons,Nat.add_mul,Nat.one_mul]
  omega
theorem HoldsA.imp {w w':World} {B B':Nat}: ∀{l:List D},(∀d ∈ l,∀cs,Holds w B d cs→Holds w' B' d cs)→ ∀{cs},HoldsA w B l cs→HoldsA w' B' l cs
 | [],_,_,h=>h
 |d::r,ih,cs,h=>by
  obtain⟨c1,c2,e,h1,h2⟩:=h
  exact⟨c1,c2,e,ih d (by simp) c1 h1,HoldsA.imp (fun x hx=>ih x (by simp[hx])) h2⟩
theorem Holds.imp {w w':World} {B B':Nat} (hB:B≤B') (hk: ∀p:Addr,p.block<B→w'.cell? p=w.cell? p): ∀{d:D} {cs},Holds w B d cs→Holds w' B' d cs:=by
 intro d
 refine D.ind (p:=fun d=> ∀{cs},Holds w B d cs→Holds w' B' d cs) ?_ ?_ ?_ d
 · intro v cs h
   exact h
 · intro l ih cs h
   exact HoldsA.imp (fun d hd _=>ih d hd) h
 · intro s l ih cs h
   obtain⟨a,c,e,hs,ns,h1,h2⟩:=h
   refine⟨a,c,e,hs,ns,HoldsA.imp (fun d hd _=>ih d hd) h1, ?_⟩
   rcases h2 with h2|⟨g,off,ea,hg,hcell⟩
   · exact .inl h2
   · exact .inr ⟨g,off,ea,by omega,fun j u hu=>(hk _ hg).trans (hcell j u hu)⟩
theorem Holds.keep {w w':World} {B:Nat} {d:D} {cs:List Value} (h:Holds w B d cs) (hk: ∀p:Addr,p.block<B→w'.cell? p=w.cell? p):Holds w' B d cs:=h.imp (Nat.le_refl _) hk
theorem Holds.below {w w':World} {B:Nat} {d:D} {cs:List Value} (h:Holds w B d cs) (hb:Below B w w'):Holds w' B d cs:=h.keep fun _ hp=>hb.cell hp
theorem Holds.more {w:World} {B B':Nat} {d:D} {cs:List Value} (h:Holds w B d cs) (hB:B≤B'):Holds w B' d cs:=h.imp hB fun _ _=>rfl
theorem HoldsA.keep {w w':World} {B:Nat} {l:List D} {cs:List Value} (h:HoldsA w B l cs) (hk: ∀p:Addr,p.block<B→w'.cell? p=w.cell? p):HoldsA w' B l cs:=HoldsA.imp (fun _ _ _ hd=>hd.keep hk) h
theorem HoldsA.below {w w':World} {B:Nat} {l:List D} {cs:List Value} (h:HoldsA w B l cs) (hb:Below B w w'):HoldsA w' B l cs:=h.keep fun _ hp=>hb.cell hp
theorem HoldsA.more {w:World} {B B':Nat} {l:List D} {cs:List Value} (h:HoldsA w B l cs) (hB:B≤B'):HoldsA w B' l cs:=HoldsA.imp (fun _ _ _ hd=>hd.more hB) h
theorem Holds.later {w w':World} {d:D} {cs:List Value} (h:Holds w w.heap.size d cs) (hb:Below w.heap.size w w'):Holds w' w'.heap.size d cs:=(h.below hb).more hb.size
theorem HoldsA.later {w w':World} {l:List D} {cs:List Value} (h:HoldsA w w.heap.size l cs) (hb:Below w.heap.size w w'):HoldsA w' w'.heap.size l cs:=(h.below hb).more hb.size
theorem HoldsA.app {w:World} {B:Nat}: ∀{a b:List D} {ns ms:List Value},HoldsA w B a ns→HoldsA w B b ms→HoldsA w B (a++b) (ns++ms)
 | [],b,ns,ms,h,h'=>by
   have:ns= []:=h
   subst this
   exact h'
 |d::r,b,ns,ms,h,h'=>by
  obtain⟨c1,c2,rfl,h1,h2⟩:=h
  exact⟨c1,c2++ms,by simp,h1,HoldsA.app h2 h'⟩
theorem HoldsA.one {w:World} {B:Nat} {d:D} {cs:List Value} (h:Holds w B d cs):HoldsA w B [d] cs:=⟨cs, [],by simp,h,rfl⟩
theorem HoldsA.snoc {w:World} {B:Nat} {l:List D} {d:D} {ns cs:List Value} (h:HoldsA w B l ns) (hd:Holds w B d cs):HoldsA w B (l++ [d]) (ns++cs):=h.app (HoldsA.one hd)
theorem HoldsA.split {w:World} {B s:Nat}: ∀{l:List D} {ns:List Value} (k:Nat),(∀d ∈ l,d.cells=s)→HoldsA w B l ns→HoldsA w B (l.take k) (ns.take (k*s))∧HoldsA w B (l.drop k) (ns.drop (k*s))
 | [],ns,k,_,h=>by
   have:ns= []:=h
   subst this
   simp[HoldsA]
 |d::r,ns,0,_,h=>by
  simp only[List.take_zero,Nat.zero_mul,List.drop_zero]
  exact⟨rfl,h⟩
 |d::r,ns,k+1,hs,h=>by
  obtain⟨c1,c2,rfl,h1,h2⟩:=h
  obtain⟨a,b⟩:=HoldsA.split k (fun x hx=>hs x (by simp[hx])) h2
  have hl:c1.length=s:=h1.len.1.trans (hs d (by simp))
  have e1:(c1++c2).take ((k+1)*s)=c1++c2.take (k*s):=by
   rw[List.take_append,List.take_of_length_le (by rw[hl,Nat.add_mul];omega),hl,Nat.add_mul,Nat.one_mul,Nat.add_sub_cancel]
  have e2:(c1++c2).drop ((k+1)*s)=c2.drop (k*s):=by
   rw[List.drop_append,List.drop_eq_nil_of_le (by rw[hl,Nat.add_mul];omega),hl,Nat.add_mul,Nat.one_mul,Nat.add_sub_cancel,List.nil_append]
  rw[e1,e2]
  exact⟨⟨c1,c2.take (k*s),rfl,h1,a⟩,b⟩
theorem HoldsA.at_ {w:World} {B s:Nat} {l:List D} {ns:List Value} (hs: ∀d ∈ l,d.cells=s) (h:HoldsA w B l ns) {i:Nat} {d:D} (hi:l[i]? =some d):
 ∃cs,Holds w B d cs∧cs.length=s∧ ∀j u,cs[j]? =some u→ns[i*s+j]? =some u:=by
 obtain⟨_,h2⟩:=HoldsA.split i hs h
 obtain⟨hlt,rfl⟩:=List.getElem?_eq_some_iff.1 hi
 rw[List.drop_eq_getElem_cons hlt]at h2
 obtain⟨c1,c2,e,h3,_⟩:=h2
 have hl:c1.length=s:=h3.len.1.trans (hs _ (List.getElem_mem hlt))
 refine⟨c1,h3,hl,fun j u hu=> ?_⟩
 have h5:=(List.getElem?_eq_some_iff.1 hu).1
 have h4:(ns.drop (i*s))[j]? =some u:=by
  rw[e,List.getElem?_append_left h5];exact hu
 rwa [List.getElem?_drop]at h4
theorem Holds.at_ {w:World} {B s:Nat} {l:List D} {a:Option Addr} {n c:Nat} (h:Holds w B (.row s l) [.slice a n c]) {i:Nat} {d:D} (hi:l[i]? =some d):
 ∃g off,a=some ⟨g,off,none⟩∧g<B∧ ∃cs,Holds w B d cs∧cs.length=s∧ ∀j u,cs[j]? =some u→w.cell? ⟨g,off+i*s+j,none⟩=some u:=by
 obtain⟨a',c',e,hs,ns,h1,h2⟩:=h
 simp only[List.cons.injEq,Value.slice.injEq,and_true]at e
 obtain⟨rfl,rfl,rfl⟩:=e
 rcases h2 with rfl|⟨g,off,ea,hg,hcell⟩
 · simp at hi
 · obtain⟨cs,h3,h4,h5⟩:=h1.at_ hs hi
   exact⟨g,off,ea,hg,cs,h3,h4,fun j u hu=>by rw[Nat.add_assoc];exact hcell _ u (h5 j u hu)⟩
theorem Holds.row_len {w:World} {B s:Nat} {l:List D} {a:Option Addr} {n c:Nat} (h:Holds w B (.row s l) [.slice a n c]):n=l.length:=by
 obtain⟨a',c',e,_⟩:=h
 simp only[List.cons.injEq,Value.slice.injEq,and_true]at e
 obtain⟨rfl,rfl,rfl⟩:=e
 exact rfl
def Fresh (b:Nat) (w':World) (d:D) (cs:List Value):Prop:=
 ∀w'':World,w'.heap.size≤w''.heap.size→(∀p:Addr,b≤p.block→p.block<w'.heap.size→w''.cell? p=w'.cell? p)→Holds w'' w'.heap.size d cs
def FreshA (b:Nat) (w':World) (l:List D) (cs:List Value):Prop:=
 ∀w'':World,w'.heap.size≤w''.heap.size→(∀p:Addr,b≤p.block→p.block<w'.heap.size→w''.cell? p=w'.cell? p)→HoldsA w'' w'.heap.size l cs
theorem Fresh.now {b:Nat} {w':World} {d:D} {cs:List Value} (h:Fresh b w' d cs):Holds w' w'.heap.size d cs:=h w' (Nat.le_refl _) fun _ _ _=>rfl
theorem FreshA.now {b:Nat} {w':World} {l:List D} {cs:List Value} (h:FreshA b w' l cs):HoldsA w' w'.heap.size l cs:=h w' (Nat.le_refl _) fun _ _ _=>rfl
theorem FreshA.nil (b:Nat) (w':World):FreshA b w' [] []:=fun _ _ _=>rfl
theorem FreshA.keep {b:Nat} {wr w':World} {l:List D} {ns:List Value} (h:FreshA b wr l ns) (hs:wr.heap.size≤w'.heap.size) (hk: ∀p:Addr,b≤p.block→p.block<wr.heap.size→w'.cell? p=wr.cell? p):FreshA b w' l ns:=
 fun w'' h1 h2=>HoldsA.more (h w'' (Nat.le_trans hs h1) (fun p p1 p2=>(h2 p p1 (Nat.lt_of_lt_of_le p2 hs)).trans (hk p p1 p2))) hs
theorem Fresh.keep {b b':Nat} {wr w':World} {d:D} {ns:List Value} (h:Fresh b wr d ns) (hb:b'≤b) (hs:wr.heap.size≤w'.heap.size) (hk: ∀p:Addr,b≤p.block→p.block<wr.heap.size→w'.cell? p=wr.cell? p):Fresh b' w' d ns:=
 fun w'' h1 h2=>Holds.more (h w'' (Nat.le_trans hs h1) (fun p p1 p2=>(h2 p (Nat.le_trans hb p1) (Nat.lt_of_lt_of_le p2 hs)).trans (hk p p1 p2))) hs
theorem Fresh.later {b:Nat} {w w':World} {d:D} {ns:List Value} (h:Fresh b w d ns) (hb:Below w.heap.size w w'):Fresh b w' d ns:=h.keep (Nat.le_refl _) hb.size fun _ _ p2=>hb.cell p2
theorem FreshA.later {b:Nat} {w w':World} {l:List D} {ns:List Value} (h:FreshA b w l ns) (hb:Below w.heap.size w w'):FreshA b w' l ns:=h.keep hb.size fun _ _ p2=>hb.cell p2
theorem FreshA.row {b s:Nat} {w':World} {l:List D} {ns:List Value} {a:Option Addr} {c:Nat} (h:FreshA b w' l ns) (hs: ∀d ∈ l,d.cells=s)
 (ha:l= []∨ ∃g off,a=some ⟨g,off,none⟩∧b≤g∧g<w'.heap.size∧ ∀j u,ns[j]? =some u→w'.cell? ⟨g,off+j,none⟩=some u):Fresh b w' (.row s l) [.slice a l.length c]:=by
 intro w'' h1 h2
 refine⟨a,c,rfl,hs,ns,h w'' h1 h2, ?_⟩
 rcases ha with ha|⟨g,off,e,hbg,hg,hcell⟩
 · exact .inl ha
 · exact .inr ⟨g,off,e,hg,fun j u hu=>(h2 _ hbg hg).trans (hcell j u hu)⟩
end Go.Proofs.YtackmnbpfbaemaaGreatDoor

namespace Go.Proofs.YtackmnbpfbaemaaGreatDoor
open Go.RowKit
theorem own_slice {w:World} {B m:Nat} {v:Value} {ns:List Value} (h:w.ownsRow B 39 6 v m ns):
 ∃la lc,v= .slice la m lc∧(m=0∨ ∃g,la=some ⟨g,0,none⟩∧B≤g∧g<w.heap.size∧ ∀j u,ns[j]? =some u→w.cell? ⟨g,0+j,none⟩=some u):=by
 rcases h.2 with⟨rfl,hz⟩|⟨g,cap,cur,rfl,hbg,hg,_,_,_,_⟩
 · subst hz
   exact⟨none,0,rfl, .inl rfl⟩
 · refine⟨_,cap,rfl, .inr ⟨g,rfl,hbg,(Array.getElem?_eq_some_iff.1 hg).1,fun j u hu=> ?_⟩⟩
   have:=h.cells (g:=g) rfl j u hu
   rw[Go.WideShapes.add_plain]at this
   exact this
def WithinPost (w:World) (v:Val) (e:Ending) (w':World):Prop:=
 (∃la lc,e= .returned (.slice la (within v).length lc)∧(within v= []∨ ∃g off,la=some ⟨g,off,none⟩∧g<w'.heap.size∧HoldsL w' w'.heap.size (within v) g off))∧Below w.heap.size w w'
set_option maxRecDepth 100000 in
set_option maxHeartbeats 2000000 in
theorem within_list (b:Bool) (n:Int) (t:ByteArray) (l:List Val) (o:List (ByteArray×Val)) (la oa:Option Addr) (oc lc:Nat) (w:World) (hl:l= []∨ ∃g off,la=some ⟨g,off,none⟩∧g<w.heap.size∧HoldsL w w.heap.size l g off)
 (hb:bulkL l≤100000000):
 Calls Tryz.prog 138 #[.agg #[.int .i64 5, .bool b, .int .i64 n, .string t, .slice la l.length lc, .slice oa o.length oc]] w (WithinPost w (.mk 5 b n t l o)):=by
 have hln:=bulkL_len l
 have hw:within (.mk 5 b n t l o)=l:=by simp[within]
 by_cases h0:l= []
 · subst h0
   clear hl
   go_enter Tryz.func138,Tryz.ntmps138
   have Hw:=Lib.hid hw
   clear hw
   cases la
   · go_wp2
     go_ret
     exact⟨⟨none,0,by rw[Hw.out];rfl, .inl Hw.out⟩,(Below.refl _ _).alloc (Nat.le_refl _) _⟩
   · go_wp2
     go_ret
     exact⟨⟨none,0,by rw[Hw.out];rfl, .inl Hw.out⟩,(Below.refl _ _).alloc (Nat.le_refl _) _⟩
 · obtain⟨g,off,rfl,hg,hL⟩:=hl.resolve_left h0
   obtain⟨i0,hi,hz0,hz1,hz2⟩:=info_parts info_val
   obtain⟨ns,hrow,hcells⟩:=HoldsL.row hL
   obtain⟨hnl,hno⟩:=hrow.len
   have HI:=Lib.hid hi
   have HZ0:=Lib.hid hz0
   have HZ1:=Lib.hid hz1
   have HZ2:=Lib.hid hz2
   have Hrow:=Lib.hid hrow
   have Hcells:=Lib.hid hcells
   have Hw:=Lib.hid hw
   have HN:=Lib.hid hnl
   have HO:=Lib.hid hno
   clear hi hz0 hz1 hz2 hrow hcells hw hnl hno hl hL
   obtain⟨w1,hw1⟩: ∃w1,w.alloc (.cells #[.int .i64 5, .bool b, .int .i64 n, .string t, .slice (some ⟨g,off,none⟩) l.length lc, .slice oa o.length oc] 39)=w1:=⟨_,rfl⟩
   have hb1:Below w.heap.size w w1:=hw1▸(Below.refl _ _).alloc (Nat.le_refl _) _
   have hbx1:w1.heap[w.heap.size]? =some (.cells #[.int .i64 5, .bool b, .int .i64 n, .string t, .slice (some ⟨g,off,none⟩) l.length lc, .slice oa o.length oc] 39 (0,0)):=by rw[←hw1];exact heap_alloc_new _ _
   have hz1:w1.heap.size=w.heap.size+1:=by rw[←hw1];simp
   have HB1:=Lib.hid hb1
   have HX1:=Lib.hid hbx1
   have HS1:=Lib.hid hz1
   have Hown:Hid (w1.ownsRow (w.heap.size+1) 39 6 (.slice none 0 0) 0 []):=World.ownsRow_nil _ _ _ _
   clear hb1 hbx1 hz1
   subst hw1
   go_enter Tryz.func138,Tryz.ntmps138
   go_wp2_with (at_builtin;refine wpList_append_own _ rfl (.tmp 8) (.tmp 10) 36 rfl (w.heap.size+1) 39 i0 (.agg #[.int .i64 0, .bool false, .int .i64 0, .string ⟨#[]⟩, .slice none 0 0, .slice none 0 0]) 6 88 Tryz.underlying36 HI.out HZ0.out HZ1.out HZ2.out rfl (by decide) (.slice none 0 0) 0 [] rfl Hown.out ⟨g,off,none⟩ l.length lc ns rfl HN.out ?c1 ?c2 ?c3 ?c4 ?c5 ?_)
   case c1=>
    intro j u hj
    rw[Go.WideShapes.add_plain]
    exact(HB1.out.cell (p:=⟨g,off+j,none⟩) hg).trans (Hcells.out j u hj)
   case c2=>exact HO.out
   case c3=>unfold maxLen;omega
   case c4=>omega
   case c5=>simp
   intro v' w2 hown' hgrow _
   obtain⟨la',lc',rfl,hsl⟩:=own_slice hown'
   have hbA:=((HB1.out).grown hgrow (by rw[HS1.out];omega) (fun k hk=>by simp[Value.ownBlock]at hk))
   have hbox2:w2.heap[w.heap.size]? =some (.cells #[.int .i64 5, .bool b, .int .i64 n, .string t, .slice (some ⟨g,off,none⟩) l.length lc, .slice oa o.length oc] 39 (0,0)):=(hgrow.block _ (by rw[HS1.out];omega) (by simp[Value.ownBlock])).trans HX1.out
   have d0:w2.cell? ⟨w.heap.size,0,none⟩=some (.int .i64 5):=by rw[Lib.cell_of_heap hbox2];rfl
   have Hsl:=Lib.hid hsl
   have HbA:=Lib.hid hbA
   clear hown' hgrow hsl hbA hbox2
   go_wp2
   go_ret
   refine⟨⟨la',lc',by rw[Hw.out];rfl, ?_⟩,HbA.out⟩
   rw[Hw.out]
   refine .inr ?_
   rcases Hsl.out with h|⟨g',rfl,_,hg',hc'⟩
   · exact absurd (List.length_eq_zero_iff.1 h) h0
   · exact⟨g',0,rfl,hg',Hrow.out.holds (fun v cs h=>HoldsV.more HbA.out.size _ _ (h.below HbA.out)) hc'⟩
set_option maxRecDepth 100000 in
set_option maxHeartbeats 2000000 in
theorem within_obj (b:Bool) (n:Int) (t:ByteArray) (l:List Val) (o:List (ByteArray×Val)) (la oa:Option Addr) (oc lc:Nat) (w:World) (hl:o= []∨ ∃g off,oa=some ⟨g,off,none⟩∧g<w.heap.size∧HoldsO w w.heap.size o g off)
 (hb:bulkO o≤100000000):
 Calls Tryz.prog 138 #[.agg #[.int .i64 6, .bool b, .int .i64 n, .string t, .slice la l.length lc, .slice oa o.length oc]] w (WithinPost w (.mk 6 b n t l o)):=by
 have hln:=bulkO_len o
 have hw:within (.mk 6 b n t l o)=o.map (·.2):=by simp[within]
 obtain⟨i0,hi,hz0,hz1,hz2⟩:=info_parts info_val
 have HI:=Lib.hid hi
 have HZ0:=Lib.hid hz0
 have HZ1:=Lib.hid hz1
 have HZ2:=Lib.hid hz2
 have Hw:=Lib.hid hw
 clear hi hz0 hz1 hz2 hw
 obtain⟨w1,hw1⟩: ∃w1,w.alloc (.cells #[.int .i64 6, .bool b, .int .i64 n, .string t, .slice la l.length lc, .slice oa o.length oc] 39)=w1:=⟨_,rfl⟩
 have hb1:Below w.heap.size w w1:=hw1▸(Below.refl _ _).alloc (Nat.le_refl _) _
 have hbx1:w1.heap[w.heap.size]? =some (.cells #[.int .i64 6, .bool b, .int .i64 n, .string t, .slice la l.length lc, .slice oa o.length oc] 39 (0,0)):=by rw[←hw1];exact heap_alloc_new _ _
 have HB1:=Lib.hid hb1
 have HX1:=Lib.hid hbx1
 have Hown:Hid (w1.ownsRow (w.heap.size+1) 39 6 (.slice none 0 0) 0 []):=World.ownsRow_nil _ _ _ _
 have HR0:Hid (RowL w w.heap.size ((o.take 0).map (·.2)) []):=rfl
 clear hb1 hbx1
 subst hw1
 go_enter Tryz.func138,Tryz.ntmps138
 go_wp2_with (fail)
 go_loopw [3,4] (fun v1 i wr=> ∃(k:Nat) (ns:List Value),i= .int .i64 k∧k≤o.length∧Hid (wr.ownsRow (w.heap.size+1) 39 6 v1 k ns)∧Hid (RowL w w.heap.size ((o.take k).map (·.2)) ns)∧Hid (Below w.heap.size w wr)∧
  Hid (wr.heap[w.heap.size]? =some (.cells #[.int .i64 6, .bool b, .int .i64 n, .string t, .slice la l.length lc, .slice oa o.length oc] 39 (0,0)))) (fun _ i _=>o.length - (intOf i).toNat)
 case atStart=>exact⟨0, [],rfl,Nat.zero_le _,Hown,HR0,HB1,HX1⟩
 case round=>
  obtain⟨k,ns,rfl,hk,hown,hrow,hbw,hbx⟩:=hrel
  clear Hown HR0 HB1 HX1
  have b5:wr.cell? ⟨w.heap.size,5,none⟩=some (.slice oa o.length oc):=by rw[Lib.cell_of_heap hbx.out];rfl
  have hz:w.heap.size<wr.heap.size:=(Array.getElem?_eq_some_iff.1 hbx.out).1
  by_cases hlt:k<o.length
  · obtain⟨g,off,rfl,hg,hL⟩: ∃g off,oa=some ⟨g,off,none⟩∧g<w.heap.size∧HoldsO w w.heap.size o g off:=by
     rcases hl with rfl|h
     · simp at hlt
     · exact h
    obtain⟨⟨key,x⟩,hx⟩: ∃v,o[k]? =some v:=⟨_,List.getElem?_eq_getElem hlt⟩
    have htk:(o.take (k+1)).map (·.2)=(o.take k).map (·.2)++ [x]:=by rw[List.take_add_one,hx];simp
    obtain⟨k',b',n',t',l',o'⟩:=x
    obtain⟨la',lc',oa',oc',hvs,_,e1,e2,e3,e4,e5,e6⟩:=hL.seven hx
    have cc:=fun j (u:Value) (h:w.cell? ⟨g,j,none⟩=some u)=>(hbw.out.cell (p:=⟨g,j,none⟩) hg).trans h
    have c1:=cc _ _ e1
    have c2:=cc _ _ e2
    have c3:=cc _ _ e3
    have c4:=cc _ _ e4
    have c5:=cc _ _ e5
    have c6:=cc _ _ e6
    have hrow':=hrow.out.snoc hvs
    rw[←htk]at hrow'
    have Hrow:=Lib.hid hrow'
    have hno:=Lib.hid hvs.len.2
    clear hrow' hrow htk hx hL hg e1 e2 e3 e4 e5 e6 cc hvs
    go_wp2_with (at_builtin;refine wpList_append_own _ rfl (.tmp 22) (.tmp 29) 36 rfl (w.heap.size+1) 39 i0 (.agg #[.int .i64 0, .bool false, .int .i64 0, .string ⟨#[]⟩, .slice none 0 0, .slice none 0 0]) 6 88 Tryz.underlying36 HI.out HZ0.out HZ1.out HZ2.out rfl (by decide) u3 k ns rfl (hown.out.alloc _) ⟨wr.heap.size,0,none⟩ 1 1 (cells6 k' b' n' t' la' l'.length lc' oa' o'.length oc') rfl rfl ?c1 ?c2 ?c3 ?c4 ?c5 ?_)
    case c1=>
     intro j u hj
     rw[Go.WideShapes.add_plain]
     rw[Lib.cell_of_heap (heap_alloc_new wr (.cells #[.int .i64 k', .bool b', .int .i64 n', .string t', .slice la' l'.length lc', .slice oa' o'.length oc'] 39)),Nat.zero_add]
     simpa using hj
    case c2=>exact hno.out
    case c3=>unfold maxLen;omega
    case c4=>omega
    case c5=>simp;omega
    intro v' w2 hown' hgrow _
    have ho':=Lib.hid hown'
    have hbA:=Lib.hid ((hbw.out.alloc (by omega) (.cells #[.int .i64 k', .bool b', .int .i64 n', .string t', .slice la' l'.length lc', .slice oa' o'.length oc'] 39)).grown hgrow (by simp;omega) (fun q hq=>by have:=(hown.out.lt q hq).1;omega))
    have hbx2:Hid (w2.heap[w.heap.size]? =some (.cells #[.int .i64 6, .bool b, .int .i64 n, .string t, .slice la l.length lc, .slice (some ⟨g,off,none⟩) o.length oc] 39 (0,0))):=by
     show _=_
     rw[hgrow.block _ (by simp;omega) (fun e=>by have:=(hown.out.lt _ e.symm).1;omega),Lib.alloc_old wr _ _ hz]
     exact hbx.out
    clear hown' hgrow hown hbw hbx b5 c1 c2 c3 c4 c5 c6 hno
    go_wp2
    go_roundw
    case rel=>exact⟨k+1,_,by go_num,by omega,ho',Hrow,hbA,hbx2⟩
    case measure=>simp only[intOf];omega
  · obtain rfl:k=o.length:=by omega
    have hr':=hrow.out
    rw[List.take_length]at hr'
    obtain⟨la',lc',rfl,hsl⟩:=own_slice hown.out
    have Hsl:=Lib.hid hsl
    have HR:=Lib.hid hr'
    have Hlm:Hid (o.length=(o.map (·.2)).length):=by show _=_;simp
    clear hr' hrow hsl hown hl
    go_wp2
    go_ret
    refine⟨⟨la',lc',by rw[Hw.out,←Hlm.out];rfl, ?_⟩,hbw.out⟩
    rw[Hw.out]
    rcases Hsl.out with h|⟨g',rfl,_,hg',hc'⟩
    · exact .inl (by rw[List.length_eq_zero_iff.1 h];rfl)
    · exact .inr ⟨g',0,rfl,hg',HR.out.holds (fun v cs h=>HoldsV.more hbw.out.size _ _ (h.below hbw.out)) hc'⟩
end Go.Proofs.YtackmnbpfbaemaaGreatDoor
