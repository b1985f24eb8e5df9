/- Parts, joined: Data of any make and how they lie in memory: leaves, structs, rows. Plain. No condition. value.Deep: how deep a value is. Condition: a bulk of at most 10^8. -/
import Derived.WalkKit
import Derived.Below
import Derived.Test.YtackmnbpfbaemaaGreatDoorProg
import Derived.Test.YtackmnbpfbaemaaGreatDoorKAs1
import Derived.Test.YtackmnbpfbaemaaGreatDoorKAs4
namespace Go.Proofs.YtackmnbpfbaemaaGreatDoor
open Go.RowKit
inductive D where
 |leaf (v:Value)
 |agg (l:List D)
 |row (s:Nat) (l:List D)
mutual
def D.cells:D→Nat
 | .leaf _=>1
 | .agg l=>cellsA l
 | .row _ _=>1
def cellsA:List D→Nat
 | []=>0
 |d::r=>d.cells+cellsA r
end
mutual
def Holds (w:World) (B:Nat):D→List Value→Prop
 | .leaf v,cs=>cs= [v]∧v.oneCell'=true
 | .agg l,cs=>HoldsA w B l cs
 | .row s l,cs=> ∃a c,cs= [.slice a l.length c]∧(∀d ∈ l,d.cells=s)∧ ∃ns,HoldsA w B l ns∧(l= []∨ ∃g off,a=some ⟨g,off,none⟩∧g<B∧ ∀j u,ns[j]? =some u→w.cell? ⟨g,off+j,none⟩=some u)
def HoldsA (w:World) (B:Nat):List D→List Value→Prop
 | [],cs=>cs= []
 |d::r,cs=> ∃c1 c2,cs=c1++c2∧Holds w B d c1∧HoldsA w B r c2
end
theorem D.ind {p:D→Prop} (h0: ∀v,p (.leaf v)) (h1: ∀l,(∀d ∈ l,p d)→p (.agg l)) (h2: ∀s l,(∀d ∈ l,p d)→p (.row s l)): ∀d,p d:=by
 intro d
 refine D.rec (motive_1:=p) (motive_2:=fun l=> ∀d ∈ l,p d) h0 h1 h2 ?_ ?_ d
 · intro d hd
   cases hd
 · intro d r hd hr x hx
   rcases List.mem_cons.1 hx with rfl|hx
   · exact hd
   · exact hr x hx
theorem HoldsA.len_of {w:World} {B:Nat}: ∀{l:List D},(∀d ∈ l,∀cs,Holds w B d cs→cs.length=d.cells∧ ∀u ∈ cs,u.oneCell'=true)→ ∀{cs},HoldsA w B l cs→cs.length=cellsA l∧ ∀u ∈ cs,u.oneCell'=true
 | [],_,cs,h=>by
   have:cs= []:=h
   subst this
   exact⟨rfl,fun u hu=>by cases hu⟩
 |d::r,ih,cs,h=>by
  obtain⟨c1,c2,rfl,h1,h2⟩:=h
  obtain⟨a1,a2⟩:=ih d (by simp) c1 h1
  obtain⟨b1,b2⟩:=HoldsA.len_of (fun x hx=>ih x (by simp[hx])) h2
  refine⟨by simp only[List.length_append,cellsA,a1,b1],fun u hu=> ?_⟩
  rcases List.mem_append.1 hu with hu|hu
  · exact a2 u hu
  · exact b2 u hu
theorem Holds.len {w:World} {B:Nat}: ∀{d:D} {cs},Holds w B d cs→cs.length=d.cells∧ ∀u ∈ cs,u.oneCell'=true:=by
 intro d
 refine D.ind (p:=fun d=> ∀{cs},Holds w B d cs→cs.length=d.cells∧ ∀u ∈ cs,u.oneCell'=true) ?_ ?_ ?_ d
 · intro v cs h
   obtain⟨rfl,hv⟩:=h
   exact⟨rfl,fun u hu=>by simp at hu;rw[hu];exact hv⟩
 · intro l ih cs h
   exact HoldsA.len_of (fun d hd _=>ih d hd) h
 · intro s l _ cs h
   obtain⟨a,c,rfl,_⟩:=h
   exact⟨rfl,fun u hu=>by simp at hu;rw[hu];rfl⟩
theorem HoldsA.len {w:World} {B:Nat} {l:List D} {cs:List Value} (h:HoldsA w B l cs):cs.length=cellsA l∧ ∀u ∈ cs,u.oneCell'=true:=HoldsA.len_of (fun _ _ _ hd=>hd.len) h
theorem cellsA_all {s:Nat}: ∀{l:List D},(∀d ∈ l,d.cells=s)→cellsA l=l.length*s
 | [],_=>by simp[cellsA]
 |d::r,h=>by
  have h1:=h d (by simp)
  have h2:=cellsA_all (l:=r) (fun x hx=>h x (by simp[hx]))
  simp only[cellsA,List.length_cons,Nat.add_mul,Nat.one_mul]
  omega
theorem HoldsA.imp {w w':World} {B B':Nat}: ∀{l:List D},(∀d ∈ l,∀cs,Holds w B d cs→Holds w' B' d cs)→ ∀{cs},HoldsA w B l cs→HoldsA w' B' l cs
 | [],_,_,h=>h
 |d::r,ih,cs,h=>by
  obtain⟨c1,c2,e,h1,h2⟩:=h
  exact⟨c1,c2,e,ih d (by simp) c1 h1,HoldsA.imp (fun x hx=>ih x (by simp[hx])) h2⟩
theorem Holds.imp {w w':World} {B B':Nat} (hB:B≤B') (hk: ∀p:Addr,p.block<B→w'.cell? p=w.cell? p): ∀{d:D} {cs},Holds w B d cs→Holds w' B' d cs:=by
 intro d
 refine D.ind (p:=fun d=> ∀{cs},Holds w B d cs→Holds w' B' d cs) ?_ ?_ ?_ d
 · intro v cs h
   exact h
 · intro l ih cs h
   exact HoldsA.imp (fun d hd _=>ih d hd) h
 · intro s l ih cs h
   obtain⟨a,c,e,hs,ns,h1,h2⟩:=h
   refine⟨a,c,e,hs,ns,HoldsA.imp (fun d hd _=>ih d hd) h1, ?_⟩
   rcases h2 with h2|⟨g,off,ea,hg,hcell⟩
   · exact .inl h2
   · exact .inr ⟨g,off,ea,by omega,fun j u hu=>(hk _ hg).trans (hcell j u hu)⟩
theorem Holds.keep {w w':World} {B:Nat} {d:D} {cs:List Value} (h:Holds w B d cs) (hk: ∀p:Addr,p.block<B→w'.cell? p=w.cell? p):Holds w' B d cs:=h.imp (Nat.le_refl _) hk
theorem Holds.below {w w':World} {B:Nat} {d:D} {cs:List Value} (h:Holds w B d cs) (hb:Below B w w'):Holds w' B d cs:=h.keep fun _ hp=>hb.cell hp
theorem Holds.more {w:World} {B B':Nat} {d:D} {cs:List Value} (h:Holds w B d cs) (hB:B≤B'):Holds w B' d cs:=h.imp hB fun _ _=>rfl
theorem HoldsA.keep {w w':World} {B:Nat} {l:List D} {cs:List Value} (h:HoldsA w B l cs) (hk: ∀p:Addr,p.block<B→w'.cell? p=w.cell? p):HoldsA w' B l cs:=HoldsA.imp (fun _ _ _ hd=>hd.keep hk) h
theorem HoldsA.below {w w':World} {B:Nat} {l:List D} {cs:List Value} (h:HoldsA w B l cs) (hb:Below B w w'):HoldsA w' B l cs:=h.keep fun _ hp=>hb.cell hp
theorem HoldsA.more {w:World} {B B':Nat} {l:List D} {cs:List Value} (h:HoldsA w B l cs) (hB:B≤B'):HoldsA w B' l cs:=HoldsA.imp (fun _ _ _ hd=>hd.more hB) h
theorem Holds.later {w w':World} {d:D} {cs:List Value} (h:Holds w w.heap.size d cs) (hb:Below w.heap.size w w'):Holds w' w'.heap.size d cs:=(h.below hb).more hb.size
theorem HoldsA.later {w w':World} {l:List D} {cs:List Value} (h:HoldsA w w.heap.size l cs) (hb:Below w.heap.size w w'):HoldsA w' w'.heap.size l cs:=(h.below hb).more hb.size
theorem HoldsA.app {w:World} {B:Nat}: ∀{a b:List D} {ns ms:List Value},HoldsA w B a ns→HoldsA w B b ms→HoldsA w B (a++b) (ns++ms)
 | [],b,ns,ms,h,h'=>by
   have:ns= []:=h
   subst this
   exact h'
 |d::r,b,ns,ms,h,h'=>by
  obtain⟨c1,c2,rfl,h1,h2⟩:=h
  exact⟨c1,c2++ms,by simp,h1,HoldsA.app h2 h'⟩
theorem HoldsA.one {w:World} {B:Nat} {d:D} {cs:List Value} (h:Holds w B d cs):HoldsA w B [d] cs:=⟨cs, [],by simp,h,rfl⟩
theorem HoldsA.snoc {w:World} {B:Nat} {l:List D} {d:D} {ns cs:List Value} (h:HoldsA w B l ns) (hd:Holds w B d cs):HoldsA w B (l++ [d]) (ns++cs):=h.app (HoldsA.one hd)
theorem HoldsA.split {w:World} {B s:Nat}: ∀{l:List D} {ns:List Value} (k:Nat),(∀d ∈ l,d.cells=s)→HoldsA w B l ns→HoldsA w B (l.take k) (ns.take (k*s))∧HoldsA w B (l.drop k) (ns.drop (k*s))
 | [],ns,k,_,h=>by
   have:ns= []:=h
   subst this
   simp[HoldsA]
 |d::r,ns,0,_,h=>by
  simp only[List.take_zero,Nat.zero_mul,List.drop_zero]
  exact⟨rfl,h⟩
 |d::r,ns,k+1,hs,h=>by
  obtain⟨c1,c2,rfl,h1,h2⟩:=h
  obtain⟨a,b⟩:=HoldsA.split k (fun x hx=>hs x (by simp[hx])) h2
  have hl:c1.length=s:=h1.len.1.trans (hs d (by simp))
  have e1:(c1++c2).take ((k+1)*s)=c1++c2.take (k*s):=by
   rw[List.take_append,List.take_of_length_le (by rw[hl,Nat.add_mul];omega),hl,Nat.add_mul,Nat.one_mul,Nat.add_sub_cancel]
  have e2:(c1++c2).drop ((k+1)*s)=c2.drop (k*s):=by
   rw[List.drop_append,List.drop_eq_nil_of_le (by rw[hl,Nat.add_mul];omega),hl,Nat.add_mul,Nat.one_mul,Nat.add_sub_cancel,List.nil_append]
  rw[e1,e2]
  exact⟨⟨c1,c2.take (k*s),rfl,h1,a⟩,b⟩
theorem HoldsA.at_ {w:World} {B s:Nat} {l:List D} {ns:List Value} (hs: ∀d ∈ l,d.cells=s) (h:HoldsA w B l ns) {i:Nat} {d:D} (hi:l[i]? =some d):
 ∃cs,Holds w B d cs∧cs.length=s∧ ∀j u,cs[j]? =some u→ns[i*s+j]? =some u:=by
 obtain⟨_,h2⟩:=HoldsA.split i hs h
 obtain⟨hlt,rfl⟩:=List.getElem?_eq_some_iff.1 hi
 rw[List.drop_eq_getElem_cons hlt]at h2
 obtain⟨c1,c2,e,h3,_⟩:=h2
 have hl:c1.length=s:=h3.len.1.trans (hs _ (List.getElem_mem hlt))
 refine⟨c1,h3,hl,fun j u hu=> ?_⟩
 have h5:=(List.getElem?_eq_some_iff.1 hu).1
 have h4:(ns.drop (i*s))[j]? =some u:=by
  rw[e,List.getElem?_append_left h5];exact hu
 rwa [List.getElem?_drop]at h4
theorem Holds.at_ {w:World} {B s:Nat} {l:List D} {a:Option Addr} {n c:Nat} (h:Holds w B (.row s l) [.slice a n c]) {i:Nat} {d:D} (hi:l[i]? =some d):
 ∃g off,a=some ⟨g,off,none⟩∧g<B∧ ∃cs,Holds w B d cs∧cs.length=s∧ ∀j u,cs[j]? =some u→w.cell? ⟨g,off+i*s+j,none⟩=some u:=by
 obtain⟨a',c',e,hs,ns,h1,h2⟩:=h
 simp only[List.cons.injEq,Value.slice.injEq,and_true]at e
 obtain⟨rfl,rfl,rfl⟩:=e
 rcases h2 with rfl|⟨g,off,ea,hg,hcell⟩
 · simp at hi
 · obtain⟨cs,h3,h4,h5⟩:=h1.at_ hs hi
   exact⟨g,off,ea,hg,cs,h3,h4,fun j u hu=>by rw[Nat.add_assoc];exact hcell _ u (h5 j u hu)⟩
theorem Holds.row_len {w:World} {B s:Nat} {l:List D} {a:Option Addr} {n c:Nat} (h:Holds w B (.row s l) [.slice a n c]):n=l.length:=by
 obtain⟨a',c',e,_⟩:=h
 simp only[List.cons.injEq,Value.slice.injEq,and_true]at e
 obtain⟨rfl,rfl,rfl⟩:=e
 exact rfl
def Fresh (b:Nat) (w':World) (d:D) (cs:List Value):Prop:=
 ∀w'':World,w'.heap.size≤w''.heap.size→(∀p:Addr,b≤p.block→p.block<w'.heap.size→w''.cell? p=w'.cell? p)→Holds w'' w'.heap.size d cs
def FreshA (b:Nat) (w':World) (l:List D) (cs:List Value):Prop:=
 ∀w'':World,w'.heap.size≤w''.heap.size→(∀p:Addr,b≤p.block→p.block<w'.heap.size→w''.cell? p=w'.cell? p)→HoldsA w'' w'.heap.size l cs
theorem Fresh.now {b:Nat} {w':World} {d:D} {cs:List Value} (h:Fresh b w' d cs):Holds w' w'.heap.size d cs:=h w' (Nat.le_refl _) fun _ _ _=>rfl
theorem FreshA.now {b:Nat} {w':World} {l:List D} {cs:List Value} (h:FreshA b w' l cs):HoldsA w' w'.heap.size l cs:=h w' (Nat.le_refl _) fun _ _ _=>rfl
theorem FreshA.nil (b:Nat) (w':World):FreshA b w' [] []:=fun _ _ _=>rfl
theorem FreshA.keep {b:Nat} {wr w':World} {l:List D} {ns:List Value} (h:FreshA b wr l ns) (hs:wr.heap.size≤w'.heap.size) (hk: ∀p:Addr,b≤p.block→p.block<wr.heap.size→w'.cell? p=wr.cell? p):FreshA b w' l ns:=
 fun w'' h1 h2=>HoldsA.more (h w'' (Nat.le_trans hs h1) (fun p p1 p2=>(h2 p p1 (Nat.lt_of_lt_of_le p2 hs)).trans (hk p p1 p2))) hs
theorem Fresh.keep {b b':Nat} {wr w':World} {d:D} {ns:List Value} (h:Fresh b wr d ns) (hb:b'≤b) (hs:wr.heap.size≤w'.heap.size) (hk: ∀p:Addr,b≤p.block→p.block<wr.heap.size→w'.cell? p=wr.cell? p):Fresh b' w' d ns:=
 fun w'' h1 h2=>Holds.more (h w'' (Nat.le_trans hs h1) (fun p p1 p2=>(h2 p (Nat.le_trans hb p1) (Nat.lt_of_lt_of_le p2 hs)).trans (hk p p1 p2))) hs
theorem Fresh.later {b:Nat} {w w':World} {d:D} {ns:List Value} (h:Fresh b w d ns) (hb:Below w.heap.size w w'):Fresh b w' d ns:=h.keep (Nat.le_refl _) hb.size fun _ _ p2=>hb.cell p2
theorem FreshA.later {b:Nat} {w w':World} {l:List D} {ns:List Value} (h:FreshA b w l ns) (hb:Below w.heap.size w w'):FreshA b w' l ns:=h.keep hb.size fun _ _ p2=>hb.cell p2
theorem FreshA.row {b s:Nat} {w':World} {l:List D} {ns:List Value} {a:Option Addr} {c:Nat} (h:FreshA b w' l ns) (hs: ∀d ∈ l,d.cells=s)
 (ha:l= []∨ ∃g off,a=some ⟨g,off,none⟩∧b≤g∧g<w'.heap.size∧ ∀j u,ns[j]? =some u→w'.cell? ⟨g,off+j,none⟩=some u):Fresh b w' (.row s l) [.slice a l.length c]:=by
 intro w'' h1 h2
 refine⟨a,c,rfl,hs,ns,h w'' h1 h2, ?_⟩
 rcases ha with ha|⟨g,off,e,hbg,hg,hcell⟩
 · exact .inl ha
 · exact .inr ⟨g,off,e,hg,fun j u hu=>(h2 _ hbg hg).trans (hcell j u hu)⟩
end Go.Proofs.YtackmnbpfbaemaaGreatDoor

namespace Go.Proofs.YtackmnbpfbaemaaGreatDoor
open Go.RowKit
mutual
def deepV:Val→Nat
 | .mk k _ _ _ l o=>1+(if k=5 then deepL l else if k=6 then deepO o else 0)
def deepL:List Val→Nat
 | []=>0
 |v::r=>max (deepV v) (deepL r)
def deepO:List (ByteArray×Val)→Nat
 | []=>0
 |p::r=>max (deepP p) (deepO r)
def deepP:ByteArray×Val→Nat
 |(_,v)=>deepV v
end
theorem deepL_le: ∀(l:List Val),(∀v ∈ l,deepV v≤v.bulk)→deepL l≤bulkL l
 | [],_=>by simp[deepL]
 |v::r,h=>by
  have h1:=h v (by simp)
  have h2:=deepL_le r (fun x hx=>h x (by simp[hx]))
  simp only[deepL,bulkL]
  omega
theorem deepO_le: ∀(l:List (ByteArray×Val)),(∀m ∈ l,deepV m.2≤m.2.bulk)→deepO l≤bulkO l
 | [],_=>by simp[deepO]
 |(k,v)::r,h=>by
  have h1:=h (k,v) (by simp)
  have h2:=deepO_le r (fun x hx=>h x (by simp[hx]))
  simp only[deepO,deepP,bulkO,bulkP]
  simp only at h1
  omega
theorem deepV_le: ∀v:Val,deepV v≤v.bulk:=by
 refine Val.ind ?_
 intro k b n t l o hl ho
 have h1:=deepL_le l hl
 have h2:=deepO_le o ho
 simp only[deepV,Val.bulk]
 split
 · omega
 split<;>omega
def DeepC (v:Val):Prop:= ∀(cs:List Value) (w:World),HoldsV w w.heap.size v cs→v.bulk≤100000000→
    Calls Tryz.prog 135 #[.agg cs.toArray] w fun e w'=>e= .returned (.int .i64 (deepV v))∧Below w.heap.size w w'
set_option maxRecDepth 100000 in
set_option maxHeartbeats 2000000 in
theorem deep_list (b:Bool) (n:Int) (t:ByteArray) (l:List Val) (on:Nat) (IH: ∀v ∈ l,DeepC v) (la oa:Option Addr) (oc lc:Nat) (w:World) (hl:l= []∨ ∃g off,la=some ⟨g,off,none⟩∧g<w.heap.size∧HoldsL w w.heap.size l g off)
 (hb:bulkL l≤100000000):
 Calls Tryz.prog 135 #[.agg #[.int .i64 5, .bool b, .int .i64 n, .string t, .slice la l.length lc, .slice oa on oc]] w fun e w'=>e= .returned (.int .i64 (1+(deepL l:Int)))∧Below w.heap.size w w':=by
 have hln:=bulkL_len l
 have hdl:=deepL_le l (fun v _=>deepV_le v)
 obtain⟨M,hM⟩: ∃M,deepL l=M:=⟨_,rfl⟩
 rw[hM]at hdl ⊢
 have H0:Hid (max 0 (deepL (l.drop 0))=M):=by show _=_;rw[List.drop_zero,hM];simp
 have HI:=Lib.hid IH
 clear IH hM
 go_enter Tryz.func135,Tryz.ntmps135
 go_wp2_with (fail)
 have HB1:Hid (Below w.heap.size w (w.alloc (.cells #[.int .i64 5, .bool b, .int .i64 n, .string t, .slice la l.length lc, .slice oa on oc] 39))):=(Below.refl _ _).alloc (Nat.le_refl _) _
 go_loopw [3,15] (fun m i wr=> ∃D k:Nat,m= .int .i64 D∧i= .int .i64 k∧k≤l.length∧Hid (max D (deepL (l.drop k))=M)∧D≤M∧Hid (Below w.heap.size w wr)) (fun _ i _=>l.length - (intOf i).toNat)
 case atStart=>exact⟨0,0,rfl,rfl,Nat.zero_le _,H0,Nat.zero_le _,HB1⟩
 case round=>
  obtain⟨D,k,rfl,rfl,hk,hD,hDM,hbw⟩:=hrel
  clear H0 HB1
  by_cases hlt:k<l.length
  · obtain⟨g,off,rfl,hg,hL⟩: ∃g off,la=some ⟨g,off,none⟩∧g<w.heap.size∧HoldsL w w.heap.size l g off:=by
     rcases hl with rfl|h
     · simp at hlt
     · exact h
    obtain⟨x,hx⟩: ∃v,l[k]? =some v:=⟨_,List.getElem?_eq_getElem hlt⟩
    have hmem:x ∈ l:=List.mem_of_getElem? hx
    have hbv:=bulkL_mem hmem
    have hdv:=deepV_le x
    have hdrop:l.drop k=x::l.drop (k+1):=drop_of_get hx
    have hD':=hD.out
    rw[hdrop]at hD'
    simp only[deepL]at hD'
    have IHx:=HI.out x hmem
    have hz:=hbw.out.size
    obtain⟨m,hm⟩: ∃m,deepV x=m:=⟨_,rfl⟩
    obtain⟨k',b',n',t',l',o'⟩:=x
    obtain⟨la',lc',oa',oc',hvs,c0,c1,c2,c3,c4,c5⟩:=(hL.below hg hbw.out).six hx
    have CT:=IHx _ (wr.alloc (.cells #[.int .i64 k', .bool b', .int .i64 n', .string t', .slice la' l'.length lc', .slice oa' o'.length oc'] 39)) (HoldsV.more (by simp;omega) _ _ (hvs.below ((Below.refl _ _).alloc hz _))) (by omega)
    rw[hm]at CT hD' hdv
    have hCT:=Lib.hid CT
    have Hn:Hid (max (max D m) (deepL (l.drop (k+1)))=M):=by show _=_;omega
    have hmM:max D m≤M:=by omega
    have hbA:Hid (Below w.heap.size w (wr.alloc (.cells #[.int .i64 k', .bool b', .int .i64 n', .string t', .slice la' l'.length lc', .slice oa' o'.length oc'] 39))):=hbw.out.alloc hz _
    clear CT hD hD' hdrop IHx hm hvs hx hmem hL hg hdv hbv
    by_cases hgt:D<m
    · have e1:max D m=m:=by omega
      rw[e1]at Hn hmM
      clear e1
      go_wp2_with (fail)
      with_reducible refine hCT.out.mono ?_
      rintro e w4 ⟨rfl,hb4⟩
      have hbw4:=Lib.hid (hbA.out.trans (hb4.mono hbA.out.size))
      clear hb4 hbw hbA hCT
      go_wp2
      go_roundw
      case rel=>exact⟨m,k+1,by congr 1;omega,by go_num,by omega,Hn,hmM,hbw4⟩
      case measure=>simp only[intOf];omega
    · have e1:max D m=D:=by omega
      rw[e1]at Hn hmM
      clear e1
      go_wp2_with (fail)
      with_reducible refine hCT.out.mono ?_
      rintro e w4 ⟨rfl,hb4⟩
      have hbw4:=Lib.hid (hbA.out.trans (hb4.mono hbA.out.size))
      clear hb4 hbw hbA hCT
      go_wp2
      go_roundw
      case rel=>exact⟨D,k+1,by congr 1;omega,by go_num,by omega,Hn,hmM,hbw4⟩
      case measure=>simp only[intOf];omega
  · obtain rfl:k=l.length:=by omega
    have hD':=hD.out
    rw[List.drop_length]at hD'
    simp only[deepL]at hD'
    obtain rfl:D=M:=by omega
    clear hD hD' hl
    go_wp2
    go_ret
    exact⟨rfl,hbw.out⟩
set_option maxRecDepth 100000 in
set_option maxHeartbeats 2000000 in
theorem deep_obj (b:Bool) (n:Int) (t:ByteArray) (l:List (ByteArray×Val)) (ln:Nat) (IH: ∀m ∈ l,DeepC m.2) (la oa:Option Addr) (oc lc:Nat) (w:World) (hl:l= []∨ ∃g off,oa=some ⟨g,off,none⟩∧g<w.heap.size∧HoldsO w w.heap.size l g off)
 (hb:bulkO l≤100000000):
 Calls Tryz.prog 135 #[.agg #[.int .i64 6, .bool b, .int .i64 n, .string t, .slice la ln lc, .slice oa l.length oc]] w fun e w'=>e= .returned (.int .i64 (1+(deepO l:Int)))∧Below w.heap.size w w':=by
 have hln:=bulkO_len l
 have hdl:=deepO_le l (fun m _=>deepV_le m.2)
 obtain⟨M,hM⟩: ∃M,deepO l=M:=⟨_,rfl⟩
 rw[hM]at hdl ⊢
 have H0:Hid (max 0 (deepO (l.drop 0))=M):=by show _=_;rw[List.drop_zero,hM];simp
 have HI:=Lib.hid IH
 clear IH hM
 go_enter Tryz.func135,Tryz.ntmps135
 go_wp2_with (fail)
 have HB1:Hid (Below w.heap.size w (w.alloc (.cells #[.int .i64 6, .bool b, .int .i64 n, .string t, .slice la ln lc, .slice oa l.length oc] 39))):=(Below.refl _ _).alloc (Nat.le_refl _) _
 go_loopw [3,29] (fun m i wr=> ∃D k:Nat,m= .int .i64 D∧i= .int .i64 k∧k≤l.length∧Hid (max D (deepO (l.drop k))=M)∧D≤M∧Hid (Below w.heap.size w wr)) (fun _ i _=>l.length - (intOf i).toNat)
 case atStart=>exact⟨0,0,rfl,rfl,Nat.zero_le _,H0,Nat.zero_le _,HB1⟩
 case round=>
  obtain⟨D,k,rfl,rfl,hk,hD,hDM,hbw⟩:=hrel
  clear H0 HB1
  by_cases hlt:k<l.length
  · obtain⟨g,off,rfl,hg,hL⟩: ∃g off,oa=some ⟨g,off,none⟩∧g<w.heap.size∧HoldsO w w.heap.size l g off:=by
     rcases hl with rfl|h
     · simp at hlt
     · exact h
    obtain⟨⟨key,x⟩,hx⟩: ∃v,l[k]? =some v:=⟨_,List.getElem?_eq_getElem hlt⟩
    have hmem:(key,x) ∈ l:=List.mem_of_getElem? hx
    have hbv:=bulkO_mem hmem
    simp only at hbv
    have hdv:=deepV_le x
    have hdrop:l.drop k=(key,x)::l.drop (k+1):=drop_of_get hx
    have hD':=hD.out
    rw[hdrop]at hD'
    simp only[deepO,deepP]at hD'
    have IHx:=HI.out _ hmem
    have hz:=hbw.out.size
    obtain⟨m,hm⟩: ∃m,deepV x=m:=⟨_,rfl⟩
    obtain⟨k',b',n',t',l',o'⟩:=x
    obtain⟨la',lc',oa',oc',hvs,c0,c1,c2,c3,c4,c5,c6⟩:=(hL.below hg hbw.out).seven hx
    have CT:=IHx _ (wr.alloc (.cells #[.string key, .int .i64 k', .bool b', .int .i64 n', .string t', .slice la' l'.length lc', .slice oa' o'.length oc'] 63)) (HoldsV.more (by simp;omega) _ _ (hvs.below ((Below.refl _ _).alloc hz _))) (show(Val.mk k' b' n' t' l' o').bulk≤100000000 from by omega)
    simp only[hm]at CT
    rw[hm]at hD' hdv
    have hCT:=Lib.hid CT
    have Hn:Hid (max (max D m) (deepO (l.drop (k+1)))=M):=by show _=_;omega
    have hmM:max D m≤M:=by omega
    have hbA:Hid (Below w.heap.size w (wr.alloc (.cells #[.string key, .int .i64 k', .bool b', .int .i64 n', .string t', .slice la' l'.length lc', .slice oa' o'.length oc'] 63))):=hbw.out.alloc hz _
    clear CT hD hD' hdrop IHx hm hvs hx hmem hL hg hdv hbv
    have hmx:max (D:Int) (m:Int)=((max D m:Nat):Int):=by omega
    generalize max D m=Dm at*
    have Hmx:=Lib.hid hmx
    clear hmx
    go_wp2_with (fail)
    with_reducible refine hCT.out.mono ?_
    rintro e w4 ⟨rfl,hb4⟩
    have hbw4:=Lib.hid (hbA.out.trans (hb4.mono hbA.out.size))
    clear hb4 hbw hbA hCT
    go_wp2
    go_roundw
    case rel=>exact⟨Dm,k+1,by rw[Hmx.out],by go_num,by omega,Hn,hmM,hbw4⟩
    case measure=>simp only[intOf];omega
  · obtain rfl:k=l.length:=by omega
    have hD':=hD.out
    rw[List.drop_length]at hD'
    simp only[deepO]at hD'
    obtain rfl:D=M:=by omega
    clear hD hD' hl
    go_wp2
    go_ret
    exact⟨rfl,hbw.out⟩
set_option maxRecDepth 100000 in
theorem deep_calls: ∀v,DeepC v:=by
 refine Val.ind ?_
 intro k b n t l o IHl IHo cs w hV hb
 simp only[HoldsV]at hV
 obtain⟨la,lc,oa,oc,rfl,hla,hoa⟩:=hV
 simp only[Val.bulk]at hb
 by_cases h5:k=5
 · subst h5
   have:=deep_list b n t l o.length IHl la oa oc lc w hla (by omega)
   simpa[deepV]using this
 by_cases h6:k=6
 · subst h6
   have:=deep_obj b n t o l.length IHo la oa oc lc w hoa (by omega)
   simpa[deepV]using this
 have e:deepV (.mk k b n t l o)=1:=by simp[deepV,h5,h6]
 rw[e]
 have e5:(k==5)=false:=by simpa using h5
 have e6:(k==6)=false:=by simpa using h6
 clear e IHl IHo hla hoa hb h5 h6
 go_enter Tryz.func135,Tryz.ntmps135
 go_wp2
 go_ret
 exact⟨rfl,(Below.refl _ _).alloc (Nat.le_refl _) _⟩
end Go.Proofs.YtackmnbpfbaemaaGreatDoor
