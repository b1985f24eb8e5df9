/- Parts: When a value has nothing. Plain. No condition. -/
import Derived.Lib.RuneBytes
import Derived.Laws.IdiomStrings
import Derived.Test.YtobmaegpfbheoaaGreatDoorKPf2
import Derived.Test.YtobmaegpfbheoaaGreatDoorKPf3
import Derived.Test.YtobmaegpfbheoaaGreatDoorKPf4
set_option maxHeartbeats 20000000
set_option maxRecDepth 100000
namespace Go.Proofs.YtobmaegpfbheoaaGreatDoor
open Go Go.RowKit
theorem De (g off i:Nat):(⟨g,off,none⟩:Addr).add i=⟨g,off+i,none⟩:=Go.WideShapes.add_plain g off i
theorem Ag.reads {w:World} {B s:Nat} {l:List D} {a:Option Addr} {n c:Nat} (h:Ag w B (.row s l) [.slice a n c]): ∃ns,Bc w B s a n ns/\Ae w B l ns/\ ∀u ∈ ns,u.oneCell'=true:=by
 have hn:=h.row_len;obtain⟨a',c',e,hs,ns,h1,h2⟩:=h;simp only[List.cons.injEq,Value.slice.injEq,and_true]at e;obtain⟨rfl,rfl,rfl⟩:=e;refine⟨ns,⟨by rw[h1.len.1,Gw hs],fun h0=> ?_⟩,h1,h1.len.2⟩;rcases h2 with rfl|⟨g,off,e,hg,hc⟩
 . simp at h0
 . exact⟨_,e,hg,fun j u hu=>by rw[De];exact hc j u hu⟩
def C1 (b:Nat) (t:TypeId) (s:Nat) (wr:World) (l:List D) (V:Value):Prop:=
 ∃ns,wr.ownsRow b t s V l.length ns/\(∀d ∈ l,d.cells=s)/\ ∀w'':World,wr.heap.size<=w''.heap.size->
  (∀p:Addr,b<=p.block->p.block<wr.heap.size->V.ownBlock≠some p.block->w''.cell? p=wr.cell? p)->Ae w'' wr.heap.size l ns
theorem C1.nil (b:Nat) (t:TypeId) (s:Nat) (wr:World):C1 b t s wr [] (.slice none 0 0):=⟨[],World.ownsRow_nil _ _ _ _,fun d hd=>(by cases hd),fun _ _ _=>rfl⟩
theorem C1.base {b:Nat} {t:TypeId} {s:Nat} {wr:World} {l:List D} {V:Value} (h:C1 b t s wr l V): ∀g,V.ownBlock=some g->b<=g/\g<wr.heap.size:=by
 obtain⟨ns,h1,_⟩:=h;exact h1.lt
theorem C1.keep {b:Nat} {t:TypeId} {s:Nat} {wr w':World} {l:List D} {V:Value} (h:C1 b t s wr l V) (hs:wr.heap.size<=w'.heap.size) (hk: ∀i,b<=i->i<wr.heap.size->w'.heap[i]? =wr.heap[i]?):C1 b t s w' l V:=by
 obtain⟨ns,h1,h2,h3⟩:=h;refine⟨ns,⟨h1.1, ?_⟩,h2,fun w'' k1 k2=>Ae.more (h3 w'' (by omega) (fun p p1 p2 p3=>(k2 p p1 (by omega) p3).trans (World.cell?_of_block (hk p.block p1 p2)))) hs⟩;rcases h1.2 with⟨rfl,h0⟩|⟨g,cap,cur,rfl,hbg,hg,h5⟩
 . exact .inl ⟨rfl,h0⟩
 . exact .inr ⟨g,cap,cur,rfl,hbg,(hk g hbg (Array.getElem?_eq_some_iff.1 hg).1).trans hg,h5⟩
theorem C1.below {b:Nat} {t:TypeId} {s:Nat} {wr w':World} {l:List D} {V:Value} (h:C1 b t s wr l V) (hb:Below wr.heap.size wr w'):C1 b t s w' l V:=h.keep hb.size fun i _ hi=>hb.block i hi
theorem C1.step {b:Nat} {t:TypeId} {s:Nat} {wr w4 w6:World} {l:List D} {V V':Value} {d:D} {cs ns:List Value} (hbw:b<=wr.heap.size)
 (hns: ∀w'':World,wr.heap.size<=w''.heap.size->(∀p:Addr,b<=p.block->p.block<wr.heap.size->V.ownBlock≠some p.block->w''.cell? p=wr.cell? p)->Ae w'' wr.heap.size l ns)
 (hall: ∀d ∈ l,d.cells=s) (hd:d.cells=s) (hx:Ax wr.heap.size w4 d cs) (hlt: ∀g,V.ownBlock=some g->g<wr.heap.size)
 (hown:w6.ownsRow b t s V' (l.length+1) (ns++cs)) (hV:V'.ownBlock=V.ownBlock\/ ∃N,V'.ownBlock=some N/\w4.heap.size<=N)
 (hs4:wr.heap.size<=w4.heap.size) (hs6:w4.heap.size<=w6.heap.size) (h4: ∀p:Addr,b<=p.block->p.block<wr.heap.size->w4.cell? p=wr.cell? p)
 (h6: ∀p:Addr,b<=p.block->p.block<w4.heap.size->V.ownBlock≠some p.block->w6.cell? p=w4.cell? p):C1 b t s w6 (l++ [d]) V':=by
 refine⟨ns++cs,by rw[List.length_append];exact hown, ?_,fun w'' hsz hag=> ?_⟩
 . intro x hx';rcases List.mem_append.1 hx' with hx'|hx'
   . exact hall x hx'
   . simp only[List.mem_cons,List.not_mem_nil,or_false]at hx';rw[hx'];exact hd
 . have hnew: ∀p:Addr,p.block<w4.heap.size->V.ownBlock≠some p.block->V'.ownBlock≠some p.block:=by
    intro p p2 p3;rcases hV with e|⟨N,e,hN⟩
    . rw[e];exact p3
    . rw[e];intro e2;have:=Option.some.inj e2;omega
   have a1:Ae w'' w6.heap.size l ns:=Ae.more (hns w'' (by omega) (fun p p1 p2 p3=>by
    rw[hag p p1 (by omega) (hnew p (by omega) p3),h6 p p1 (by omega) p3,h4 p p1 p2])) (by omega)
   have a2:Ag w'' w6.heap.size d cs:=Ag.more (hx w'' (by omega) (fun p p1 p2=>by
    have p3:V.ownBlock≠some p.block:=fun e=>by have:=hlt _ e;omega
    rw[hag p (by omega) (by omega) (hnew p p2 p3),h6 p (by omega) p2 p3])) hs6
   exact a1.snoc a2
theorem C1.close {b:Nat} {t:TypeId} {s:Nat} {wr:World} {l:List D} {V:Value} (h:C1 b t s wr l V):
 ∃a c,V=.slice a l.length c/\l.length<=c/\Ax b wr (.row s l) [.slice a l.length c]/\((l= []/\a=none/\c=0)\/ ∃g,a=some ⟨g,0,none⟩/\b<=g/\g<wr.heap.size):=by
 obtain⟨ns,h1,h2,h3⟩:=h;have h1':=h1;rcases h1.2 with⟨rfl,h0⟩|⟨g,cap,cur,rfl,hbg,hg,hnc,_⟩
 . have hl:l= []:=List.eq_nil_of_length_eq_zero h0;subst hl;exact⟨none,0,rfl,Nat.le_refl _,fun _ _ _=>⟨none,0,rfl,h2, [],rfl,.inl rfl⟩,.inl ⟨rfl,rfl,rfl⟩⟩
 . have hgl:=(Array.getElem?_eq_some_iff.1 hg).1;refine⟨_,cap,rfl,hnc,fun w'' k1 k2=>⟨_,cap,rfl,h2,ns,h3 w'' k1 (fun p p1 p2 _=>k2 p p1 p2),.inr ⟨g,0,rfl,hgl,fun j u hu=> ?_⟩⟩,.inr ⟨g,rfl,hbg,hgl⟩⟩;have h5:=h1'.cells (g:=g) rfl j u hu;rw[De]at h5;exact(k2 _ hbg hgl).trans h5
theorem Aa (w:World) (o:Obj):Below w.heap.size w (w.alloc o):=(Below.refl _ _).alloc (Nat.le_refl _) _
theorem Yw (n:Nat):((n:Int)==0)=decide (n=0):=by rw[Bool.eq_iff_iff];simp
theorem J7 (a b:Int):(a==b)=decide (a=b):=by rw[Bool.eq_iff_iff];simp
theorem At {W w1:World} (hb:Below W.heap.size W w1):(∀b o,b<W.heap.size->w1.cell? ⟨b,o,none⟩=W.cell? ⟨b,o,none⟩)/\(∀b o,b<W.heap.size->w1.frozen? ⟨b,o,none⟩=W.frozen? ⟨b,o,none⟩):=
 ⟨fun b o h=>hb.cell (p:=⟨b,o,none⟩) h,fun b o h=>hb.frozen (p:=⟨b,o,none⟩) h⟩
theorem Ff.app {w:World} {B:Nat}: ∀{a b:List (ByteArray×Val)} {ns ms:List Value},Ff w B a ns->Ff w B b ms->Ff w B (a++b) (ns++ms)
 | [],b,ns,ms,h,h'=>by
   have:ns= []:=h;subst this;exact h'
 |(k,v)::r,b,ns,ms,⟨cs,rest,e,h1,h2⟩,h'=>by
  subst e;exact⟨cs,rest++ms,by simp,h1,Ff.app h2 h'⟩
theorem Ff.len {w:World} {B:Nat}: ∀{l:List (ByteArray×Val)} {ns:List Value},Ff w B l ns->ns.length=l.length*7/\ ∀u ∈ ns,u.oneCell'=true
 | [],ns,h=>by
   have:ns= []:=h;subst this;exact⟨rfl,fun u hu=>by cases hu⟩
 |(k,v)::r,ns,⟨cs,rest,e,h1,h2⟩=>by
  subst e;obtain⟨a1,a2⟩:=h1.len;obtain⟨b1,b2⟩:=Ff.len h2;refine⟨by rw[List.length_cons,List.length_append,a1,b1,List.length_cons];omega,fun u hu=> ?_⟩;rcases List.mem_cons.1 hu with rfl|hu
  . rfl
  rcases List.mem_append.1 hu with hu|hu
  . exact a2 u hu
  . exact b2 u hu
theorem Ff.split {w:World} {B:Nat}: ∀{l:List (ByteArray×Val)} {ns:List Value} (k:Nat),Ff w B l ns->Ff w B (l.take k) (ns.take (k*7))/\Ff w B (l.drop k) (ns.drop (k*7))
 | [],ns,k,h=>by
   have:ns= []:=h;subst this;simp[Ff]
 |(key,v)::r,ns,0,h=>by
  simp only[List.take_zero,Nat.zero_mul,List.drop_zero];exact⟨rfl,h⟩
 |(key,v)::r,ns,k+1,⟨cs,rest,e,h1,h2⟩=>by
  subst e;obtain⟨a,b⟩:=Ff.split k h2;have hl:=h1.len.1;have e1:(Value.string key::(cs++rest)).take ((k+1)*7)=.string key::(cs++rest.take (k*7)):=by
   rw[show(k+1)*7=(6+k*7)+1 from by omega,List.take_succ_cons,List.take_append,hl,List.take_of_length_le (by omega),show 6+k*7 - 6=k*7 from by omega]
  have e2:(Value.string key::(cs++rest)).drop ((k+1)*7)=rest.drop (k*7):=by
   rw[show(k+1)*7=(6+k*7)+1 from by omega,List.drop_succ_cons,List.drop_append,hl,List.drop_eq_nil_of_le (by omega),show 6+k*7 - 6=k*7 from by omega,List.nil_append]
  rw[e1,e2];exact⟨⟨cs,rest.take (k*7),rfl,h1,a⟩,b⟩
theorem La: ∀(a b:List (ByteArray×Val)),Av (a++b)=Av a+Av b
 | [],b=>by simp[Av]
 |x::r,b=>by simp only[List.cons_append,Av,La r b];omega
def Gy:List Int:= [34,92,47,8,12,10,13,9]
theorem Ry (k:Nat) (c:Int) (h:Gy[k]? =some c) (w:World):
 Calls Tryz.prog 113 #[.int .i64 k] w fun e w'=>e=.returned (.int .i64 c)/\Below w.heap.size w w':=by
 have hk:k<8:=(List.getElem?_eq_some_iff.1 h).1;rcases(by omega:k=0\/k=1\/k=2\/k=3\/k=4\/k=5\/k=6\/k=7)with rfl|rfl|rfl|rfl|rfl|rfl|rfl|rfl
 all_goals
  (obtain rfl:=Option.some.inj h
   clear h hk;go_enter Tryz.func113,Tryz.ntmps113;go_wp2;go_ret;exact⟨rfl,(Below.refl _ _).alloc (Nat.le_refl _) _⟩)
mutual
def Da:Val->Nat
 | .mk k _ _ _ l o=>1+(if k=5 then Dk l else if k=6 then Fh o else 0)
def Dk:List Val->Nat
 | []=>0
 |v::r=>max (Da v) (Dk r)
def Fh:List (ByteArray×Val)->Nat
 | []=>0
 |p::r=>max (Sk p) (Fh r)
def Sk:ByteArray×Val->Nat
 |(_,v)=>Da v
end
theorem Kf: ∀(l:List Val),(∀v ∈ l,Da v<=v.bulk)->Dk l<=A0 l
 | [],_=>by simp[Dk]
 |v::r,h=>by
  have h1:=h v (by simp);have h2:=Kf r (fun x hx=>h x (by simp[hx]));simp only[Dk,A0];omega
theorem Nm: ∀(l:List (ByteArray×Val)),(∀m ∈ l,Da m.2<=m.2.bulk)->Fh l<=Av l
 | [],_=>by simp[Fh]
 |(k,v)::r,h=>by
  have h1:=h (k,v) (by simp);have h2:=Nm r (fun x hx=>h x (by simp[hx]));simp only[Fh,Sk,Av,Ds];simp only at h1;omega
theorem Gh: ∀v:Val,Da v<=v.bulk:=by
 refine Val.ind ?_;intro k b n t l o hl ho;have h1:=Kf l hl;have h2:=Nm o ho;simp only[Da,Val.bulk]
 split
 . omega
 split<;>omega
def Yn (v:Val):Prop:= ∀(cs:List Value) (w:World),Ab w w.heap.size v cs->v.bulk<=100000000->
    Calls Tryz.prog 163 #[.agg cs.toArray] w fun e w'=>e=.returned (.int .i64 (Da v))/\Below w.heap.size w w'
theorem Xl (b:Bool) (n:Int) (t:ByteArray) (l:List Val) (on:Nat) (IH: ∀v ∈ l,Yn v) (la oa:Option Addr) (oc lc:Nat) (w:World) (hl:l= []\/ ∃g off,la=some ⟨g,off,none⟩/\g<w.heap.size/\Aq w w.heap.size l g off)
 (hb:A0 l<=100000000):
 Calls Tryz.prog 163 #[.agg #[.int .i64 5,.bool b,.int .i64 n,.string t,.slice la l.length lc,.slice oa on oc]] w fun e w'=>e=.returned (.int .i64 (1+(Dk l:Int)))/\Below w.heap.size w w':=by
 have hln:=Dy l;have hdl:=Kf l (fun v _=>Gh v);obtain⟨M,hM⟩: ∃M,Dk l=M:=⟨_,rfl⟩;rw[hM]at hdl ⊢;have H0:Hid (max 0 (Dk (l.drop 0))=M):=by show _=_;rw[List.drop_zero,hM];simp
 have HI:=qz IH;clear IH hM;go_enter Tryz.func163,Tryz.ntmps163;go_wp2_with (fail);have HB1:Hid (Below w.heap.size w (w.alloc (.cells #[.int .i64 5,.bool b,.int .i64 n,.string t,.slice la l.length lc,.slice oa on oc] 42))):=(Below.refl _ _).alloc (Nat.le_refl _) _;go_loopw [3,15] (fun m i wr=> ∃D k:Nat,m=.int .i64 D/\i=.int .i64 k/\k<=l.length/\Hid (max D (Dk (l.drop k))=M)/\D<=M/\Hid (Below w.heap.size w wr)) (fun _ i _=>l.length - (intOf i).toNat)
 case atStart=>exact⟨0,0,rfl,rfl,Nat.zero_le _,H0,Nat.zero_le _,HB1⟩
 case round=>
  obtain⟨D,k,rfl,rfl,hk,hD,hDM,hbw⟩:=hrel;clear H0 HB1;by_cases hlt:k<l.length
  . obtain⟨g,off,rfl,hg,hL⟩: ∃g off,la=some ⟨g,off,none⟩/\g<w.heap.size/\Aq w w.heap.size l g off:=by
     rcases hl with rfl|h
     . simp at hlt
     . exact h
    obtain⟨x,hx⟩: ∃v,l[k]? =some v:=⟨_,List.getElem?_eq_getElem hlt⟩;have hmem:x ∈ l:=List.mem_of_getElem? hx;have hbv:=Ej hmem;have hdv:=Gh x;have hdrop:l.drop k=x::l.drop (k+1):=Ch hx;have hD':=hD.out;rw[hdrop]at hD';simp only[Dk]at hD';have IHx:=HI.out x hmem;have hz:=hbw.out.size;obtain⟨m,hm⟩: ∃m,Da x=m:=⟨_,rfl⟩;obtain⟨k',b',n',t',l',o'⟩:=x;obtain⟨la',lc',oa',oc',hvs,c0,c1,c2,c3,c4,c5⟩:=(hL.below hg hbw.out).six hx;have CT:=IHx _ (wr.alloc (.cells #[.int .i64 k',.bool b',.int .i64 n',.string t',.slice la' l'.length lc',.slice oa' o'.length oc'] 42)) (Ab.more (by simp;omega) _ _ (hvs.below ((Below.refl _ _).alloc hz _))) (by omega);rw[hm]at CT hD' hdv;have hCT:=qz CT;have Hn:Hid (max (max D m) (Dk (l.drop (k+1)))=M):=by show _=_;omega
    have hmM:max D m<=M:=by omega
    have hbA:Hid (Below w.heap.size w (wr.alloc (.cells #[.int .i64 k',.bool b',.int .i64 n',.string t',.slice la' l'.length lc',.slice oa' o'.length oc'] 42))):=hbw.out.alloc hz _;clear CT hD hD' hdrop IHx hm hvs hx hmem hL hg hdv hbv;by_cases hgt:D<m
    . have e1:max D m=m:=by omega
      rw[e1]at Hn hmM;clear e1;go_wp2_with (fail);(with_reducible refine hCT.out.mono ?_);rintro e w4 ⟨rfl,hb4⟩;have hbw4:=qz (hbA.out.trans (hb4.mono hbA.out.size));clear hb4 hbw hbA hCT;go_wp2;go_roundw
      case rel=>exact⟨m,k+1,by congr 1;omega,by go_num,by omega,Hn,hmM,hbw4⟩
      case measure=>simp only[intOf];omega
    . have e1:max D m=D:=by omega
      rw[e1]at Hn hmM;clear e1;go_wp2_with (fail);(with_reducible refine hCT.out.mono ?_);rintro e w4 ⟨rfl,hb4⟩;have hbw4:=qz (hbA.out.trans (hb4.mono hbA.out.size));clear hb4 hbw hbA hCT;go_wp2;go_roundw
      case rel=>exact⟨D,k+1,by congr 1;omega,by go_num,by omega,Hn,hmM,hbw4⟩
      case measure=>simp only[intOf];omega
  . obtain rfl:k=l.length:=by omega
    have hD':=hD.out;rw[List.drop_length]at hD';simp only[Dk]at hD';obtain rfl:D=M:=by omega
    clear hD hD' hl;go_wp2;go_ret;exact⟨rfl,hbw.out⟩
theorem Za (b:Bool) (n:Int) (t:ByteArray) (l:List (ByteArray×Val)) (ln:Nat) (IH: ∀m ∈ l,Yn m.2) (la oa:Option Addr) (oc lc:Nat) (w:World) (hl:l= []\/ ∃g off,oa=some ⟨g,off,none⟩/\g<w.heap.size/\As w w.heap.size l g off)
 (hb:Av l<=100000000):
 Calls Tryz.prog 163 #[.agg #[.int .i64 6,.bool b,.int .i64 n,.string t,.slice la ln lc,.slice oa l.length oc]] w fun e w'=>e=.returned (.int .i64 (1+(Fh l:Int)))/\Below w.heap.size w w':=by
 have hln:=Do l;have hdl:=Nm l (fun m _=>Gh m.2);obtain⟨M,hM⟩: ∃M,Fh l=M:=⟨_,rfl⟩;rw[hM]at hdl ⊢;have H0:Hid (max 0 (Fh (l.drop 0))=M):=by show _=_;rw[List.drop_zero,hM];simp
 have HI:=qz IH;clear IH hM;go_enter Tryz.func163,Tryz.ntmps163;go_wp2_with (fail);have HB1:Hid (Below w.heap.size w (w.alloc (.cells #[.int .i64 6,.bool b,.int .i64 n,.string t,.slice la ln lc,.slice oa l.length oc] 42))):=(Below.refl _ _).alloc (Nat.le_refl _) _;go_loopw [3,29] (fun m i wr=> ∃D k:Nat,m=.int .i64 D/\i=.int .i64 k/\k<=l.length/\Hid (max D (Fh (l.drop k))=M)/\D<=M/\Hid (Below w.heap.size w wr)) (fun _ i _=>l.length - (intOf i).toNat)
 case atStart=>exact⟨0,0,rfl,rfl,Nat.zero_le _,H0,Nat.zero_le _,HB1⟩
 case round=>
  obtain⟨D,k,rfl,rfl,hk,hD,hDM,hbw⟩:=hrel;clear H0 HB1;by_cases hlt:k<l.length
  . obtain⟨g,off,rfl,hg,hL⟩: ∃g off,oa=some ⟨g,off,none⟩/\g<w.heap.size/\As w w.heap.size l g off:=by
     rcases hl with rfl|h
     . simp at hlt
     . exact h
    obtain⟨⟨key,x⟩,hx⟩: ∃v,l[k]? =some v:=⟨_,List.getElem?_eq_getElem hlt⟩;have hmem:(key,x) ∈ l:=List.mem_of_getElem? hx;have hbv:=E5 hmem;simp only at hbv;have hdv:=Gh x;have hdrop:l.drop k=(key,x)::l.drop (k+1):=Ch hx;have hD':=hD.out;rw[hdrop]at hD';simp only[Fh,Sk]at hD';have IHx:=HI.out _ hmem;have hz:=hbw.out.size;obtain⟨m,hm⟩: ∃m,Da x=m:=⟨_,rfl⟩;obtain⟨k',b',n',t',l',o'⟩:=x;obtain⟨la',lc',oa',oc',hvs,c0,c1,c2,c3,c4,c5,c6⟩:=(hL.below hg hbw.out).seven hx;have CT:=IHx _ (wr.alloc (.cells #[.string key,.int .i64 k',.bool b',.int .i64 n',.string t',.slice la' l'.length lc',.slice oa' o'.length oc'] 74)) (Ab.more (by simp;omega) _ _ (hvs.below ((Below.refl _ _).alloc hz _))) (show(Val.mk k' b' n' t' l' o').bulk<=100000000 from by omega);simp only[hm]at CT;rw[hm]at hD' hdv;have hCT:=qz CT;have Hn:Hid (max (max D m) (Fh (l.drop (k+1)))=M):=by show _=_;omega
    have hmM:max D m<=M:=by omega
    have hbA:Hid (Below w.heap.size w (wr.alloc (.cells #[.string key,.int .i64 k',.bool b',.int .i64 n',.string t',.slice la' l'.length lc',.slice oa' o'.length oc'] 74))):=hbw.out.alloc hz _;clear CT hD hD' hdrop IHx hm hvs hx hmem hL hg hdv hbv;have Hmx:=qz (show max (D:Int) (m:Int)=((max D m:Nat):Int)from by omega);generalize max D m=Dm at*
    go_wp2_with (fail);(with_reducible refine hCT.out.mono ?_);rintro e w4 ⟨rfl,hb4⟩;have hbw4:=qz (hbA.out.trans (hb4.mono hbA.out.size));clear hb4 hbw hbA hCT;go_wp2;go_roundw
    case rel=>exact⟨Dm,k+1,by rw[Hmx.out],by go_num,by omega,Hn,hmM,hbw4⟩
    case measure=>simp only[intOf];omega
  . obtain rfl:k=l.length:=by omega
    have hD':=hD.out;rw[List.drop_length]at hD';simp only[Fh]at hD';obtain rfl:D=M:=by omega
    clear hD hD' hl;go_wp2;go_ret;exact⟨rfl,hbw.out⟩
theorem Vd: ∀v,Yn v:=by
 refine Val.ind ?_;intro k b n t l o IHl IHo cs w hV hb;simp only[Ab]at hV;obtain⟨la,lc,oa,oc,rfl,hla,hoa⟩:=hV;simp only[Val.bulk]at hb;by_cases h5:k=5
 . subst h5;have:=Xl b n t l o.length IHl la oa oc lc w hla (by omega);simpa[Da]using this
 by_cases h6:k=6
 . subst h6;have:=Za b n t o l.length IHo la oa oc lc w hoa (by omega);simpa[Da]using this
 have e:Da (.mk k b n t l o)=1:=by simp[Da,h5,h6]
 rw[e];have e5:(k==5)=false:=by simpa using h5
 have e6:(k==6)=false:=by simpa using h6
 clear e IHl IHo hla hoa hb h5 h6;go_enter Tryz.func163,Tryz.ntmps163;go_wp2;go_ret;exact⟨rfl,(Below.refl _ _).alloc (Nat.le_refl _) _⟩
def Ef (k:Int) (b:Bool) (n:Int) (t:ByteArray) (ln on:Nat):Bool:=decide (k=0)&& !b&&decide (n=0)&&t.toList.isEmpty&&decide (ln=0)&&decide (on=0)
end Go.Proofs.YtobmaegpfbheoaaGreatDoor
