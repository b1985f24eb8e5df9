/- Parts: Whether a value has anything that its kind does not name: the program's function and the reference's. No condition. -/
import Derived.Test.YtnkmhaachfgaoaaGreatDoorProg
import Derived.Deep.RegionHeld3
import Derived.WalkKit
import Derived.Lib.Hide
import Derived.Below
import Derived.Laws.OwnMore
import Derived.Deep.AppendLies
import Derived.Deep.Draws
import Derived.Laws.Rows
import Derived.Maps.AppendAt
import Derived.RegionTactic
import Derived.OwnWalk
import Derived.BigQuiet
import Derived.Deep.QuietTactic
import Derived.WalkLawsBesides
import Derived.WalkSpells
import Derived.Lib.Strings
set_option maxHeartbeats 20000000
namespace Go.Proofs.YtnkmhaachfgaoaaGreatDoor
open Go Go.RowKit
section
variable {P:Program} {md:Region.Mode} {ops:Array Oper} {Q:Exit->Act->World->Prop} {S:World->Prop}
theorem tkH (i:Nat) {oi:Oper} {v:Value} {fuel:Nat} {listed:Array Bool} {a a':Act} {w:World} (hS:S w) (h:wpAnyH P md ops Q S fuel (listed.setIfInBounds i true) a' w)
 (hi:ops[i]? =some oi:=by rfl) (hs:Region.noSelect ops=true:=by kernel_rfl) (hf:Region.free md ops listed i=true:=by kernel_rfl) (hr:(Region.ready md ops listed).contains i=true:=by kernel_rfl)
 (hQ: ∀c a w,Q (.panic c) (a.put oi.dst v) w->Q (.panic c) a w:=by exact fun _ _ _ h=>h) (hw:Region.wanted oi (yielded ops a.tmps)=true:=by kernel_rfl)
 (hy: ∀w,S w->(execOp a.eval oi).run P w=.ok (.value v) w:=by(intro X hSw;(repeat (obtain⟨_,hSw⟩:=hSw));first|(go_simp;done)|(go_simp;with_reducible rfl)))
 (hn:a.put oi.dst v=a':=by((try simp only[Act.put,List.getElem_toArray,List.getElem_cons_succ,List.getElem_cons_zero,List.setIfInBounds_toArray,List.set_cons_zero,List.set_cons_succ]);exact rfl)):wpAnyH P md ops Q S (fuel+1) listed a w:=
 wpAnyH_take hi hs hf hr hQ (Or.inl ⟨hw,hy⟩) hS (hn▸h)
theorem C4 (i:Nat) {o:Oper} {fuel:Nat} {listed:Array Bool} {a:Act} {w:World}
 (h: ∀K':Act->World->Prop,Shut (∀a w,S w->(S w->wpAnyH P md ops Q S fuel (listed.setIfInBounds i true) a w)->K' a w)->if Region.wanted o (yielded ops a.tmps)=true then Oper.wp P o a w K' Q else K' (a.put o.dst undef) w)
 (hr:Region.ready md ops listed= [i]:=by kernel_rfl) (ho:ops[i]? =some o:=by rfl):wpAnyH P md ops Q S (fuel+1) listed a w:=
 wpAnyH_ready hr (by simp) (AllReadyH.cons ho h AllReadyH.nil)
theorem rd2 (i j:Nat) {o o':Oper} {fuel:Nat} {listed:Array Bool} {a:Act} {w:World}
 (h: ∀K':Act->World->Prop,Shut (∀a w,S w->(S w->wpAnyH P md ops Q S fuel (listed.setIfInBounds i true) a w)->K' a w)->if Region.wanted o (yielded ops a.tmps)=true then Oper.wp P o a w K' Q else K' (a.put o.dst undef) w)
 (h': ∀K':Act->World->Prop,Shut (∀a w,S w->(S w->wpAnyH P md ops Q S fuel (listed.setIfInBounds j true) a w)->K' a w)->if Region.wanted o' (yielded ops a.tmps)=true then Oper.wp P o' a w K' Q else K' (a.put o'.dst undef) w)
 (hr:Region.ready md ops listed= [i,j]:=by kernel_rfl) (ho:ops[i]? =some o:=by rfl) (ho':ops[j]? =some o':=by rfl):wpAnyH P md ops Q S (fuel+1) listed a w:=
 wpAnyH_ready hr (by simp) (AllReadyH.cons ho h (AllReadyH.cons ho' h' AllReadyH.nil))
end
theorem tk1 {α:Type} {xs:List α} {i:Nat} (h:i<xs.toArray.size):xs.toArray[i]=xs[i]'(by simpa using h):=List.getElem_toArray h
theorem tk2 {α:Type} (a:α) (l:List α) (i:Nat) (h:i+1<(a::l).length):(a::l)[i+1]=l[i]'(by simpa using h):=List.getElem_cons_succ a l i h
theorem tk3 {α:Type} (a:α) (l:List α) (h:0<(a::l).length):(a::l)[0]=a:=List.getElem_cons_zero a l h
theorem tk4 {α:Type} (l:List α) (i:Nat) (a:α):l.toArray.setIfInBounds i a=(l.set i a).toArray:=List.setIfInBounds_toArray l i a
theorem tk5 {α:Type} {x:α} {xs:List α} {a:α}:(x::xs).set 0 a=a::xs:=rfl
theorem tk6 {α:Type} {x:α} {xs:List α} {i:Nat} {a:α}:(x::xs).set (i+1) a=x::xs.set i a:=rfl
theorem qz {p:Prop} (h:p):Hid p:=Lib.hid h
theorem hid2 {p0 p1:Prop} (x0:p0) (x1:p1):Hid p0/\Hid p1:=⟨Lib.hid x0,Lib.hid x1⟩
theorem hid3 {p0 p1 p2:Prop} (x0:p0) (x1:p1) (x2:p2):Hid p0/\Hid p1/\Hid p2:=⟨Lib.hid x0,Lib.hid x1,Lib.hid x2⟩
theorem hid4 {p0 p1 p2 p3:Prop} (x0:p0) (x1:p1) (x2:p2) (x3:p3):Hid p0/\Hid p1/\Hid p2/\Hid p3:=⟨Lib.hid x0,Lib.hid x1,Lib.hid x2,Lib.hid x3⟩
theorem hid5 {p0 p1 p2 p3 p4:Prop} (x0:p0) (x1:p1) (x2:p2) (x3:p3) (x4:p4):Hid p0/\Hid p1/\Hid p2/\Hid p3/\Hid p4:=⟨Lib.hid x0,Lib.hid x1,Lib.hid x2,Lib.hid x3,Lib.hid x4⟩
theorem hid6 {p0 p1 p2 p3 p4 p5:Prop} (x0:p0) (x1:p1) (x2:p2) (x3:p3) (x4:p4) (x5:p5):Hid p0/\Hid p1/\Hid p2/\Hid p3/\Hid p4/\Hid p5:=⟨Lib.hid x0,Lib.hid x1,Lib.hid x2,Lib.hid x3,Lib.hid x4,Lib.hid x5⟩
theorem hid7 {p0 p1 p2 p3 p4 p5 p6:Prop} (x0:p0) (x1:p1) (x2:p2) (x3:p3) (x4:p4) (x5:p5) (x6:p6):Hid p0/\Hid p1/\Hid p2/\Hid p3/\Hid p4/\Hid p5/\Hid p6:=⟨Lib.hid x0,Lib.hid x1,Lib.hid x2,Lib.hid x3,Lib.hid x4,Lib.hid x5,Lib.hid x6⟩
theorem hid8 {p0 p1 p2 p3 p4 p5 p6 p7:Prop} (x0:p0) (x1:p1) (x2:p2) (x3:p3) (x4:p4) (x5:p5) (x6:p6) (x7:p7):Hid p0/\Hid p1/\Hid p2/\Hid p3/\Hid p4/\Hid p5/\Hid p6/\Hid p7:=⟨Lib.hid x0,Lib.hid x1,Lib.hid x2,Lib.hid x3,Lib.hid x4,Lib.hid x5,Lib.hid x6,Lib.hid x7⟩
theorem hid9 {p0 p1 p2 p3 p4 p5 p6 p7 p8:Prop} (x0:p0) (x1:p1) (x2:p2) (x3:p3) (x4:p4) (x5:p5) (x6:p6) (x7:p7) (x8:p8):Hid p0/\Hid p1/\Hid p2/\Hid p3/\Hid p4/\Hid p5/\Hid p6/\Hid p7/\Hid p8:=⟨Lib.hid x0,Lib.hid x1,Lib.hid x2,Lib.hid x3,Lib.hid x4,Lib.hid x5,Lib.hid x6,Lib.hid x7,Lib.hid x8⟩
theorem hid10 {p0 p1 p2 p3 p4 p5 p6 p7 p8 p9:Prop} (x0:p0) (x1:p1) (x2:p2) (x3:p3) (x4:p4) (x5:p5) (x6:p6) (x7:p7) (x8:p8) (x9:p9):Hid p0/\Hid p1/\Hid p2/\Hid p3/\Hid p4/\Hid p5/\Hid p6/\Hid p7/\Hid p8/\Hid p9:=⟨Lib.hid x0,Lib.hid x1,Lib.hid x2,Lib.hid x3,Lib.hid x4,Lib.hid x5,Lib.hid x6,Lib.hid x7,Lib.hid x8,Lib.hid x9⟩
theorem hid11 {p0 p1 p2 p3 p4 p5 p6 p7 p8 p9 p10:Prop} (x0:p0) (x1:p1) (x2:p2) (x3:p3) (x4:p4) (x5:p5) (x6:p6) (x7:p7) (x8:p8) (x9:p9) (x10:p10):Hid p0/\Hid p1/\Hid p2/\Hid p3/\Hid p4/\Hid p5/\Hid p6/\Hid p7/\Hid p8/\Hid p9/\Hid p10:=⟨Lib.hid x0,Lib.hid x1,Lib.hid x2,Lib.hid x3,Lib.hid x4,Lib.hid x5,Lib.hid x6,Lib.hid x7,Lib.hid x8,Lib.hid x9,Lib.hid x10⟩
theorem hid12 {p0 p1 p2 p3 p4 p5 p6 p7 p8 p9 p10 p11:Prop} (x0:p0) (x1:p1) (x2:p2) (x3:p3) (x4:p4) (x5:p5) (x6:p6) (x7:p7) (x8:p8) (x9:p9) (x10:p10) (x11:p11):Hid p0/\Hid p1/\Hid p2/\Hid p3/\Hid p4/\Hid p5/\Hid p6/\Hid p7/\Hid p8/\Hid p9/\Hid p10/\Hid p11:=⟨Lib.hid x0,Lib.hid x1,Lib.hid x2,Lib.hid x3,Lib.hid x4,Lib.hid x5,Lib.hid x6,Lib.hid x7,Lib.hid x8,Lib.hid x9,Lib.hid x10,Lib.hid x11⟩
theorem hid14 {p0 p1 p2 p3 p4 p5 p6 p7 p8 p9 p10 p11 p12 p13:Prop} (x0:p0) (x1:p1) (x2:p2) (x3:p3) (x4:p4) (x5:p5) (x6:p6) (x7:p7) (x8:p8) (x9:p9) (x10:p10) (x11:p11) (x12:p12) (x13:p13):Hid p0/\Hid p1/\Hid p2/\Hid p3/\Hid p4/\Hid p5/\Hid p6/\Hid p7/\Hid p8/\Hid p9/\Hid p10/\Hid p11/\Hid p12/\Hid p13:=⟨Lib.hid x0,Lib.hid x1,Lib.hid x2,Lib.hid x3,Lib.hid x4,Lib.hid x5,Lib.hid x6,Lib.hid x7,Lib.hid x8,Lib.hid x9,Lib.hid x10,Lib.hid x11,Lib.hid x12,Lib.hid x13⟩
theorem hid16 {p0 p1 p2 p3 p4 p5 p6 p7 p8 p9 p10 p11 p12 p13 p14 p15:Prop} (x0:p0) (x1:p1) (x2:p2) (x3:p3) (x4:p4) (x5:p5) (x6:p6) (x7:p7) (x8:p8) (x9:p9) (x10:p10) (x11:p11) (x12:p12) (x13:p13) (x14:p14) (x15:p15):Hid p0/\Hid p1/\Hid p2/\Hid p3/\Hid p4/\Hid p5/\Hid p6/\Hid p7/\Hid p8/\Hid p9/\Hid p10/\Hid p11/\Hid p12/\Hid p13/\Hid p14/\Hid p15:=⟨Lib.hid x0,Lib.hid x1,Lib.hid x2,Lib.hid x3,Lib.hid x4,Lib.hid x5,Lib.hid x6,Lib.hid x7,Lib.hid x8,Lib.hid x9,Lib.hid x10,Lib.hid x11,Lib.hid x12,Lib.hid x13,Lib.hid x14,Lib.hid x15⟩
theorem Np (a:Addr) (n:Nat):(a.add n).block=a.block:=by unfold Addr.add;split<;>rfl
theorem Zo (a:Addr) (i j:Nat):(a.add i).add j=a.add (i+j):=by
 unfold Addr.add;by_cases hi:i=0<;>by_cases hj:j=0<;>simp[hi,hj,Nat.add_assoc]
def A5 (w:World) (B size:Nat) (A:Option Addr) (n:Nat) (xs:List Value):Prop:=
 xs.length=n*size/\(0<n-> ∃ad,A=some ad/\ad.block<B/\ ∀j u,xs[j]? =some u->w.cell? (ad.add j)=some u)
section
variable {w w':World} {B B' size n:Nat} {A:Option Addr} {xs:List Value}
theorem A5.at_ {k:Nat} (h:A5 w B 1 A n xs) (hk:k<n): ∃ad u,A=some ad/\ad.block<B/\xs[k]? =some u/\w.cell? (ad.add k)=some u:=by
 obtain⟨ad,e,hb,hc⟩:=h.2 (by omega);have hl:k<xs.length:=by have:=h.1;omega
 exact⟨ad,xs[k],e,hb,List.getElem?_eq_getElem hl,hc k _ (List.getElem?_eq_getElem hl)⟩
theorem A5.keep (h:A5 w B size A n xs) (hk: ∀p:Addr,p.block<B->w'.cell? p=w.cell? p):A5 w' B size A n xs:=
 ⟨h.1,fun hn=>by
   obtain⟨ad,e,hb,hc⟩:=h.2 hn;exact⟨ad,e,hb,fun j u hu=>(hk _ (by rw[Np];exact hb)).trans (hc j u hu)⟩⟩
theorem A5.more (h:A5 w B size A n xs) (hB:B<=B'):A5 w B' size A n xs:=
 ⟨h.1,fun hn=>by
   obtain⟨ad,e,hb,hc⟩:=h.2 hn;exact⟨ad,e,by omega,hc⟩⟩
theorem A5.below (h:A5 w B size A n xs) (hb:Below B w w'):A5 w' B size A n xs:=h.keep fun _ hp=>hb.cell hp
theorem A5.drew (h:A5 w B size A n xs):A5 w.drew B size A n xs:=h
theorem A5.drewN (h:A5 w B size A n xs) (k:Nat):A5 (w.drewN k) B size A n xs:=h
theorem A5.alloc (h:A5 w B size A n xs) (hB:B<=w.heap.size) (o:Obj):A5 (w.alloc o) B size A n xs:=h.keep fun p hp=>World.cell?_alloc_lt w o p (by omega)
theorem A5.setCell (h:A5 w B size A n xs) {p:Addr} (hB:B<=p.block) (u:Value):A5 (w.setCell p u) B size A n xs:=
 h.keep fun q hq=>World.cell?_setCell_other w p q u (fun e=>by subst e;omega)
theorem A5.grown (h:A5 w B size A n xs) {row:Option Nat} (hg:w.grownBy w' row) (hB:B<=w.heap.size) (hr: ∀g,row=some g->B<=g):A5 w' B size A n xs:=
 h.keep fun p hp=>World.cell?_of_block (hg.block p.block (by omega) (fun e=>by have:=hr _ e.symm;omega))
theorem A5.cut (h:A5 w B size A n xs) {k cap:Nat} (hk:k<=n) (hc:n<=cap):
 A5 w B size (if cap=k then A else A.map (·.add (k*size))) (n - k) (xs.drop (k*size)):=by
 refine⟨by rw[List.length_drop,h.1,Nat.sub_mul],fun hn=> ?_⟩;obtain⟨ad,rfl,hb,hcell⟩:=h.2 (by omega);rw[if_neg (by omega)];refine⟨ad.add (k*size),rfl,by rw[Np];exact hb,fun j u hu=> ?_⟩;rw[Zo];exact hcell _ u (by rw[<-hu,List.getElem?_drop])
end
def Ah (w:World) (g:Nat) (t:TypeId) (cs:Array Value):Prop:=w.heap[g]? =some (.cells cs t (0,0))
section
variable {w w':World} {g:Nat} {t:TypeId} {cs:Array Value}
theorem Ah.lt (h:Ah w g t cs):g<w.heap.size:=by
 rcases Nat.lt_or_ge g w.heap.size with hlt|hge
 . exact hlt
 . unfold Ah at h;rw[Array.getElem?_eq_none hge]at h;cases h
theorem Ah.cell (h:Ah w g t cs) (i:Nat):w.cell? ⟨g,i,none⟩=cs[i]? :=cell_of_row w g i cs t (0,0) h
theorem Ah.frozen (h:Ah w g t cs) (i:Nat):w.frozen? ⟨g,i,none⟩=false:=by
 unfold Ah at h;simp[World.frozen?,h]
theorem Ah.new (w:World) (t:TypeId) (cs:Array Value):Ah (w.alloc (.cells cs t)) w.heap.size t cs:=heap_alloc_new w _
theorem Ah.drew (h:Ah w g t cs):Ah w.drew g t cs:=h
theorem Ah.drewN (h:Ah w g t cs) (n:Nat):Ah (w.drewN n) g t cs:=h
theorem Ah.alloc (h:Ah w g t cs) (o:Obj):Ah (w.alloc o) g t cs:=(Below.heap_alloc w o g h.lt).trans h
theorem Ah.set_ (h:Ah w g t cs) (i:Nat) (u:Value):Ah (w.setCell ⟨g,i,none⟩ u) g t (cs.setIfInBounds i u):=by
 unfold Ah at h ⊢;simp[World.setCell,Array.getElem?_modify,h]
theorem Ah.far (h:Ah w g t cs) {p:Addr} (hp:g≠p.block) (u:Value):Ah (w.setCell p u) g t cs:=(Below.heap_setCell w p u g hp).trans h
theorem Ah.below {B:Nat} (h:Ah w g t cs) (hb:Below B w w') (hg:g<B):Ah w' g t cs:=(hb.block g hg).trans h
theorem Ah.grown {row:Option Nat} (h:Ah w g t cs) (hb:w.grownBy w' row) (hg:some g≠row):Ah w' g t cs:=(hb.block g h.lt hg).trans h
end
section
variable {P:Program} (w:World)
theorem Oc (base:Nat) (t ty e:TypeId) (i:TypeInfo) (size:Nat) (ht:P.underlying t=some (.slice e)) (hi:P.info? e=some i)
 (v:Value) (n:Nat) (xs:List Value) (hown:w.ownsRow base e size v n xs) (c:Nat):(Builtin.append_ #[t,t] ty #[v,.slice none 0 c]).run P w=.ok v w:=by
 rcases hown.2 with⟨rfl,rfl⟩|⟨g,cap,cur,rfl,_,_,hnc,_⟩
 . simp[Builtin.append_,run_underlying ht,sizeOf,typeInfo,hi,Builtin.lenOf,Builtin.firstCells]
 . simp[Builtin.append_,run_underlying ht,sizeOf,typeInfo,hi,Builtin.lenOf,Builtin.firstCells,hnc,storeCells]
theorem Ga (base:Nat) (t ty e:TypeId) (i:TypeInfo) (z:Value) (size bytes:Nat) (ht:P.underlying t=some (.slice e)) (hi:P.info? e=some i) (hz:i.zero=some z)
 (hsize:i.size=size) (hby:i.bytes=bytes) (hzs:z.cells.size=size) (hsz:0<size)
 (v:Value) (n:Nat) (xs:List Value) (hown:w.ownsRow base e size v n xs)
 (B:Nat) (A:Option Addr) (m c:Nat) (news:List Value) (hr:A5 w B size A m news) (h1: ∀u ∈ news,u.oneCell'=true)
 (h63:n+m<=maxLen) (hbytes:(n+m)*bytes<=140737488355328) (hbase:base<=w.heap.size):
 ∃v' w',(Builtin.append_ #[t,t] ty #[v,.slice A m c]).run P w=.ok v' w'/\w'.ownsRow base e size v' (n+m) (xs++news)/\w.grownBy w' v.ownBlock/\
  (v'.ownBlock=v.ownBlock\/v'.ownBlock=some w.heap.size):=by
 rcases A with _|ad
 . have hm:m=0:=by
    rcases Nat.eq_zero_or_pos m with h0|h0
    . exact h0
    . obtain⟨ad,h,_⟩:=hr.2 h0
      cases h
   subst hm;have hn:news= []:=List.eq_nil_of_length_eq_zero (by simpa using hr.1);subst hn;exact⟨v,w,Oc w base t ty e i size ht hi v n xs hown c,by simpa using hown,World.grownBy.refl w _,.inl rfl⟩
 . have hcells: ∀j u,news[j]? =some u->w.cell? (ad.add j)=some u:=by
    intro j u hu;rcases Nat.eq_zero_or_pos m with h0|h0
    . subst h0;have hn:news= []:=List.eq_nil_of_length_eq_zero (by simpa using hr.1);subst hn;simp at hu
    . obtain⟨ad',h,_,hc⟩:=hr.2 h0
      injection h with h
      subst h;exact hc j u hu
   obtain⟨v',w',hrun,h2,h3,_,h5⟩:=run_append_own_at (P:=P) w base t ty e i z size bytes ht hi hz hsize hby hzs hsz v n xs hown ad m c news hr.1 hcells h1 h63 hbytes hbase;exact⟨v',w',hrun,h2,h3,h5⟩
theorem S9 {o:Oper} {a:Act} {K:Act->World->Prop} {Q:Exit->Act->World->Prop} (s x:Operand) (t:TypeId)
 (ho:o.op=.call {callee:=.builtin .append,args:= #[s,x],argTypes:= #[t,t]})
 (base:Nat) (e:TypeId) (i:TypeInfo) (z:Value) (size bytes:Nat) (ht:P.underlying t=some (.slice e)) (hi:P.info? e=some i) (hz:i.zero=some z)
 (hsize:i.size=size) (hby:i.bytes=bytes) (hzs:z.cells.size=size) (hsz:0<size)
 (v:Value) (n:Nat) (xs:List Value) (hs:a.eval s=v) (hown:w.ownsRow base e size v n xs)
 (B:Nat) (A:Option Addr) (m c:Nat) (news:List Value) (hx:a.eval x=.slice A m c) (hr:A5 w B size A m news) (h1: ∀u ∈ news,u.oneCell'=true)
 (h63:n+m<=maxLen) (hbytes:(n+m)*bytes<=140737488355328) (hbase:base<=w.heap.size)
 (h: ∀v' w',w'.ownsRow base e size v' (n+m) (xs++news)->w.grownBy w' v.ownBlock->(v'.ownBlock=v.ownBlock\/v'.ownBlock=some w.heap.size)->K (a.put o.dst v') w'):o.wp P a w K Q:=by
 obtain⟨v',w',hrun,h2,h3,h4⟩:=Ga (P:=P) w base t o.type e i z size bytes ht hi hz hsize hby hzs hsz v n xs hown B A m c news hr h1 h63 hbytes hbase;unfold Oper.wp execOp;simp only[ho,resolve,invoke,builtin,Sem.run_bind,Sem.run_pure,Result.andThen_ok,List.map_toArray,List.map_cons,List.map_nil,hs,hx,hrun];exact h v' w' h2 h3 h4
theorem Oi {ops:Array Oper} {rest:List Oper} {o:Oper} {a:Act} {Q:Exit->Act->World->Prop} (hgd:o.guard=none) (s x:Operand) (t:TypeId)
 (ho:o.op=.call {callee:=.builtin .append,args:= #[s,x],argTypes:= #[t,t]})
 (base:Nat) (e:TypeId) (i:TypeInfo) (z:Value) (size bytes:Nat) (ht:P.underlying t=some (.slice e)) (hi:P.info? e=some i) (hz:i.zero=some z)
 (hsize:i.size=size) (hby:i.bytes=bytes) (hzs:z.cells.size=size) (hsz:0<size)
 (v:Value) (n:Nat) (xs:List Value) (hs:a.eval s=v) (hown:w.ownsRow base e size v n xs)
 (B:Nat) (A:Option Addr) (m c:Nat) (news:List Value) (hx:a.eval x=.slice A m c) (hr:A5 w B size A m news) (h1: ∀u ∈ news,u.oneCell'=true)
 (h63:n+m<=maxLen) (hbytes:(n+m)*bytes<=140737488355328) (hbase:base<=w.heap.size)
 (h: ∀v' w',w'.ownsRow base e size v' (n+m) (xs++news)->w.grownBy w' v.ownBlock->(v'.ownBlock=v.ownBlock\/v'.ownBlock=some w.heap.size)->wpList P ops Q rest (a.put o.dst v') w'):wpList P ops Q (o::rest) a w:=
 wpList_plain hgd fun _ hK=>S9 w s x t ho base e i z size bytes ht hi hz hsize hby hzs hsz v n xs hs hown B A m c news hx hr h1 h63 hbytes hbase fun v' w' h2 h3 h4=>hK _ _ (h v' w' h2 h3 h4)
end
def Fg (k:Int) (b:Bool) (n:Int) (t:ByteArray) (ln on:Nat):Bool:=
 if k==1 then b||n != 0|| !t.toList.isEmpty||ln != 0||on != 0
 else if k==2 then n != 0|| !t.toList.isEmpty||ln != 0||on != 0
 else if k==3 then b|| !t.toList.isEmpty||ln != 0||on != 0
 else if k==4 then b||n != 0||ln != 0||on != 0
 else if k==5 then b||n != 0|| !t.toList.isEmpty||on != 0
 else if k==6 then b||n != 0|| !t.toList.isEmpty||ln != 0
 else true
theorem Ac8 (k:Int) (b:Bool) (n:Int) (t:ByteArray) (la oa:Option Addr) (ln lc on oc:Nat) (w:World):
 Calls Tryz.prog 179 #[.agg #[.int .i64 k,.bool b,.int .i64 n,.string t,.slice la ln lc,.slice oa on oc]] w fun e w'=>e=.returned (.bool (Fg k b n t ln on))/\Below w.heap.size w w':=by
 go_enter Tryz.func179,Tryz.ntmps179;go_wp2
 all_goals go_ret
 all_goals simp only[Fg, *]
 all_goals refine⟨by first|(simp_all;done)|(simp_all;omega)|(simp_all;rw[Bool.eq_iff_iff];simp[Nat.pos_iff_ne_zero]), ?_⟩
 all_goals exact Below.alloc (Below.refl _ _) (Nat.le_refl _) _
theorem Adt {t:ByteArray} (h: ¬t=ByteArray.empty):t.toList≠ []:=by
 intro e;rw[Lib.toList_data]at e;apply h;have:t.data= #[]:=by simpa using e
 exact ByteArray.ext this
theorem Yq {a b:Bool} (h:a=b):Ending.returned (.bool a)=.returned (.bool b):=by rw[h]
theorem Aef (n:Nat):((n:Int)==0)=(n==0):=by rw[Bool.eq_iff_iff];simp
theorem Zr (k:Int) (b:Bool) (n:Int) (t:ByteArray) (la oa:Option Addr) (ln lc on oc:Nat) (w:World):
 Calls Tryz.prog 170 #[.agg #[.int .i64 k,.bool b,.int .i64 n,.string t,.slice la ln lc,.slice oa on oc]] w fun e w'=>e=.returned (.bool (!Fg k b n t ln on))/\Below w.heap.size w w':=by
 rcases(by omega:k=1\/k=2\/k=3\/k=4\/k=5\/k=6\/k<1\/6<k)with rfl|rfl|rfl|rfl|rfl|rfl|h|h
 all_goals
  go_enter Tryz.func170,Tryz.ntmps170;go_wp2
  all_goals go_ret
  all_goals refine⟨Yq ?_,Below.alloc (Below.refl _ _) (Nat.le_refl _) _⟩
  all_goals simp only[Fg,Aef]
 all_goals first|(simp_all[Adt];done)|(subst_vars;simp_all[bne];done)|(rw[if_neg (by simp;omega),if_neg (by simp;omega),if_neg (by simp;omega),if_neg (by simp;omega),if_neg (by simp;omega),if_neg (by simp;omega)];rfl)|skip
end Go.Proofs.YtnkmhaachfgaoaaGreatDoor
