/- Parts: What may stand deep may stand higher; what is within a value that may be, may be. Plain. No condition. -/
import Derived.Stop.RegionWithIn
import Derived.Shelf.AbstractIn
import Derived.Deep.RegionWith
import Derived.Test.YtjgfchcldhmjcaaGreatDoorKPp8
set_option maxHeartbeats 20000000
set_option maxRecDepth 100000
namespace Go.Proofs.YtjgfchcldhmjcaaGreatDoor
open Go.RowKit
theorem Ak9 {l:List Val} (h:okL l) {v:Val} (a:v ∈ l):okV v:=by
 induction l with
 |nil=>cases a
 |cons x r ih=>
  simp only[okL]at h;rcases List.mem_cons.1 a with rfl|a
  . exact h.1
  . exact ih h.2 a
theorem Ae2 {l:List (ByteArray×Val)} (h:okO l) {m:ByteArray×Val} (a:m ∈ l):A6 m.1=true/\okV m.2:=by
 induction l with
 |nil=>cases a
 |cons x r ih=>
  obtain⟨k,v⟩:=x;simp only[okO,okP]at h;rcases List.mem_cons.1 a with rfl|a
  . exact h.1
  . exact ih h.2 a
theorem M6: ∀(l:List Val),(∀v ∈ l,okV v->(Bd v).length+1<=6*v.bulk)->okL l-> ∀f,(Cz l f).length<=6*A5 l
 | [],_,_,f=>by simp[Cz]
 |v::r,ih,ho,f=>by
  simp only[okL]at ho;have b:=ih v (by simp) ho.1;have c:=M6 r (fun x a=>ih x (by simp[a])) ho.2 false;simp only[Cz,A5,List.length_append]
  split<;>simp<;>omega
theorem M7: ∀(l:List (ByteArray×Val)),(∀m ∈ l,okV m.2->(Bd m.2).length+1<=6*m.2.bulk)->okO l-> ∀f,(C0 l f).length<=6*Af l
 | [],_,_,f=>by simp[C0]
 |(k,v)::r,ih,ho,f=>by
  simp only[okO,okP]at ho;have a:=ih (k,v) (by simp) ho.1.2;have c:=M7 r (fun x b=>ih x (by simp[b])) ho.2 false;have d:=Jz k;simp only[C0,Po,Af,E7,List.length_append,List.length_cons];simp only at a
  split<;>simp<;>omega
theorem Jq: ∀(v:Val),okV v->(Bd v).length+1<=6*v.bulk:=by
 refine Val.ind ?_;intro k b n t l o a c h;simp only[okV]at h;have d:=M6 l a h.2.2.1 true;have e:=M7 o c h.2.2.2 true;have f:=L3 b;have g:=Lib.itoa_length_le n h.2.1.1 h.2.1.2;have i:=Jz t;simp only[Bd,Val.bulk]
 repeat' split
 all_goals(try simp only[List.length_cons,List.length_append,List.length_nil])
 all_goals omega
theorem Oi (v:Val): ∀(a:List Val) (f:Bool),Cz (a++ [v]) f=Cz a f++((if f&&a.isEmpty then []else [44])++Bd v)
 | [],f=>by cases f<;>simp[Cz]
 |x::r,f=>by
  simp only[List.cons_append,Cz,Oi v r false];simp[List.append_assoc]
theorem Oj (p:ByteArray×Val): ∀(a:List (ByteArray×Val)) (f:Bool),C0 (a++ [p]) f=C0 a f++((if f&&a.isEmpty then []else [44])++Po p)
 | [],f=>by cases f<;>simp[C0]
 |x::r,f=>by
  simp only[List.cons_append,C0,Oj p r false];simp[List.append_assoc]
theorem Zb {l:List Val} {k:Nat} {v:Val} (h:l[k]? =some v):A5 l=A5 (l.take k)+(v.bulk+A5 (l.drop (k+1))):=by
 have c: ∀a b:List Val,A5 (a++b)=A5 a+A5 b:=by
  intro a b
  induction a with
  |nil=>simp[A5]
  |cons x r ih=>simp only[List.cons_append,A5,ih];omega
 have d:l=l.take k++(v::l.drop (k+1)):=by rw[<-Cr h,List.take_append_drop]
 conv=>lhs;rw[d,c]
 rfl
theorem Zc {l:List (ByteArray×Val)} {k:Nat} {p:ByteArray×Val} (h:l[k]? =some p):Af l=Af (l.take k)+(E7 p+Af (l.drop (k+1))):=by
 have c: ∀a b:List (ByteArray×Val),Af (a++b)=Af a+Af b:=by
  intro a b
  induction a with
  |nil=>simp[Af]
  |cons x r ih=>simp only[List.cons_append,Af,ih];omega
 have d:l=l.take k++(p::l.drop (k+1)):=by rw[<-Cr h,List.take_append_drop]
 conv=>lhs;rw[d,c]
 rfl
theorem Ajg {l:List Val} (h:okL l) (k:Nat):okL (l.take k):=by
 induction l generalizing k with
 |nil=>simp[okL]
 |cons x r ih=>
  cases k with
  |zero=>simp[okL]
  |succ k=>simp only[okL]at h;simp only[List.take_succ_cons,okL];exact⟨h.1,ih h.2 k⟩
theorem Fd.cells {g j:Nat} {A W:World} (h:Fd g A W) {cs:Array Value} {t:TypeId} {a:Nat×Nat} (d:A.heap[j]? =some (.cells cs t a)) (b:j≠g) (f:t≠5):W.heap[j]? =some (.cells cs t a):=
 h j _ d (by simpa using b) (fun c a e=>by injection e with _ e2 _;exact f e2)
theorem Rr (l:List Val) (IH: ∀v ∈ l,W8 v) (W:World) (B g p:Nat) (h5:5<=B) (a:Bool) (acc:List UInt8) (la:Option Addr) (lc:Nat) (v0 v1 v2 v3 v5:Value)
 (hp:W.heap[p]? =some (.cells #[v0,v1,v2,v3,.slice la l.length lc,v5] 42 (0,0)))
 (K u:Nat) (V:l= []\/(la=some ⟨K,u,none⟩/\K<B/\Aq W B l K u)) (hT:Cj W) (am:p≠g) (hW:Wr W B g a acc) (d:okL l) (ao:acc.length+6*(6+A5 l)<=20000000000) (hb:A5 l<=1000000000):
 Calls Tryz.prog 107 #[.pointer (some ⟨g,0,none⟩),.pointer (some ⟨p,0,none⟩)] W fun e D=>e=.returned (.tuple #[])/\Wr D B g a (acc++91::(Cz l true++ [93]))/\Below B W D/\Fd g W D:=by
 have ar:l.length<=1000000000:=by have:=C9 l;omega
 have N:=qz (F6 [⟨#[91]⟩] 1 hW (by simp[Fk];omega) (by simp));have HP:=qz hp;go_enter Tryz.func107,Tryz.ntmps107;go_wp2_with (go_at_call 101;refine(N.out).mono ?_;rintro e w1 ⟨rfl,ac,R,G⟩;have Y:=G.cells HP.out am (by decide);have c4:w1.cell? ⟨p,4,none⟩=some (.slice la l.length lc):=(Lib.cell_of_heap Y 4).trans rfl);have C:Wr w1 B g a (acc++91::Cz (l.take 0) true):=by simpa[Fk,Cz]using ac
 clear c4 Y ac N;go_loopw [11] (fun i wr=> ∃k:Nat,k<=l.length/\i=.int .i64 k/\Wr wr B g a (acc++91::Cz (l.take k) true)/\Below B W wr/\Fd g W wr) (fun i _=>l.length - (intOf i).toNat)
 case atStart=>exact⟨0,Nat.zero_le _,rfl,C,R,G⟩
 case round=>
  obtain⟨k,hk,rfl,I,r,U⟩:=hrel;clear C R G;have ai:=I.base;by_cases X:k<l.length
  . obtain⟨rfl,hg,hL⟩:la=some ⟨K,u,none⟩/\K<B/\Aq W B l K u:=by
     rcases V with rfl|h
     . simp at X
     . exact h
    obtain⟨v,hv⟩: ∃v,l[k]? =some v:=⟨_,List.getElem?_eq_getElem X⟩;have c:v ∈ l:=List.mem_of_getElem? hv;have au:=Zb hv;have ag:=qz (IH v c);have z:=Ak9 d c;have aa:l.take (k+1)=l.take k++ [v]:=by rw[List.take_add_one,hv];rfl
    have H:=M6 (l.take k) (fun x _=>Jq x) (Ajg d k) true;have y:acc++91::Cz (l.take (k+1)) true=((acc++91::Cz (l.take k) true)++(if(k:Int)=0 then []else [44]))++Bd v:=by
     rw[aa,Oi];have e:((true&&(l.take k).isEmpty)=true) ↔ (k:Int)=0:=by
      rw[Bool.true_and,List.isEmpty_iff];constructor
      . intro h;have:=congrArg List.length h;rw[List.length_take,List.length_nil]at this;omega
      . intro h;have:k=0:=by omega
        subst this;rfl
     by_cases h0:(k:Int)=0
     . rw[if_pos h0,if_pos (e.2 h0)];simp
     . rw[if_neg h0,if_neg (fun h=>h0 (e.1 h))];simp
    have ap:=v.bulk_pos;have ak:(acc++91::Cz (l.take k) true).length+6*(v.bulk+1)<=20000000000:=by
     rw[List.length_append,List.length_cons];omega
    generalize acc++91::Cz (l.take k) true=A at*
    have w:=qz y;clear y aa H IH V;obtain⟨J,b',L,M,l',o'⟩:=v;have Q:=hL.below hg r;obtain⟨f,j,m,n,ab,c0,c1,c2,c3,c4,c5⟩:=Q.six hv;clear hL Q hv c d;obtain⟨q,t⟩: ∃q,wr.alloc (.cells #[.int .i64 J,.bool b',.int .i64 L,.string M,.slice f l'.length j,.slice m o'.length n] 42)=q:=⟨_,rfl⟩;have ah:Below wr.heap.size wr q:=by rw[<-t];exact(Below.refl _ _).alloc (Nat.le_refl _) _
    have T:q.heap[wr.heap.size]? =some (.cells #[.int .i64 J,.bool b',.int .i64 L,.string M,.slice f l'.length j,.slice m o'.length n] 42 (0,0)):=by rw[<-t];exact heap_alloc_new _ _
    have aj:=I.lt;have ae:=qz (fun D (F:Below B wr D)=>hT.keep (r.trans F) h5);have af:=qz (fun D (F:Below B wr D)=>ab.below F);have Z:q.heap.size=wr.heap.size+1:=by rw[<-t];simp
    have hj: ∀(S:List UInt8),S.length<=1->Calls Tryz.prog 101 #[.pointer (some ⟨g,0,none⟩),.slice (some ⟨q.heap.size,0,none⟩) 1 1] (q.alloc (.cells #[.string ⟨S.toArray⟩] 9 (0,0))) fun e w'=>e=.returned (.tuple #[])/\Wr w' B g a (A++S)/\Below B q w'/\Fd g q w':=fun S hS=>by
     have:=F6 [⟨S.toArray⟩] 1 (I.below ah) (by rw[Iq];omega) (by simp)
     rwa [Iq]at this
    have s:=hj (if(k:Int)=0 then []else [44]) (by split<;>simp);have an:(if(k:Int)=0 then []else [44]:List UInt8).length<=1:=by split<;>simp
    have E:=Nf (k:Int) q;generalize (if(k:Int)=0 then []else [44]:List UInt8)=S at s an E w;rw[Z]at s;subst t;obtain⟨HJ,CB⟩:=hid2 s E;clear s hj E;have ad:=qz z;have aq:=J8;clear z ab;have HB:=qz T;have al:wr.heap.size≠g:=by omega
    go_wp2_with (first|(go_at_call 108;refine(CB.out).mono ?_;rintro e wx ⟨rfl,rfl⟩)|(go_at_call 101;refine(HJ.out).mono ?_;rintro e o ⟨rfl,O,P,h3⟩;have av:=O.lt;have b:=h3.cells HB.out al (by decide);have d0:o.cell? ⟨wr.heap.size,0,none⟩=some (.int .i64 J):=(Lib.cell_of_heap b 0).trans rfl;have d1:o.cell? ⟨wr.heap.size,1,none⟩=some (.bool b'):=(Lib.cell_of_heap b 1).trans rfl;have d2:o.cell? ⟨wr.heap.size,2,none⟩=some (.int .i64 L):=(Lib.cell_of_heap b 2).trans rfl;have d3:o.cell? ⟨wr.heap.size,3,none⟩=some (.string M):=(Lib.cell_of_heap b 3).trans rfl;have d4:o.cell? ⟨wr.heap.size,4,none⟩=some (.slice f l'.length j):=(Lib.cell_of_heap b 4).trans rfl;have d5:o.cell? ⟨wr.heap.size,5,none⟩=some (.slice m o'.length n):=(Lib.cell_of_heap b 5).trans rfl)|(go_at_call 53;refine(Mz J b' L M f m l'.length j o'.length n o).mono ?_;rintro e w3 ⟨rfl,rfl⟩)|(go_at_fn (Nc J);refine(ag.out _ B g o.heap.size a (A++S) (Eb J b' L M f l'.length j m o'.length n) J b' L M l' o' rfl h5 (ae.out _ ?_) (af.out _ ?_) (heap_alloc_new _ _) ?_ (O.below ((Below.refl _ _).alloc (Nat.le_refl _) _)) ad.out ?_ ?_).mono ?_;rotate_right;rintro e w4 ⟨rfl,h6,h7,h8⟩));go_roundw
    case rel=>
     refine⟨k+1,by omega,by go_num, ?_,r.trans ((((Below.refl B wr).alloc (by omega) _).trans P).trans (((Below.refl B o).alloc (by omega) _).trans h7)),(U.trans (((Lib.OthersKept.refl _ _ wr).alloc _).trans h3)).trans (((Lib.OthersKept.refl _ _ o).alloc _).trans h8)⟩;rw[w.out];exact h6
    case measure=>simp[intOf];omega
    . exact(((Below.refl B wr).alloc (by omega) _).trans P).alloc (by omega) _
    . exact(((Below.refl B wr).alloc (by omega) _).trans P).alloc (by omega) _
    . omega
    . omega
    . rw[List.length_append];omega
  . obtain rfl:k=l.length:=by omega
    rw[List.take_length]at I;have H:=M6 l (fun x _=>Jq x) d true;have HJ:=qz (F6 [⟨#[93]⟩] 1 I (by rw[List.length_append,List.length_cons];simp[Fk];omega) (by simp));clear H d;have aj:=I.lt;have ai:=I.base;have e:Fk [⟨#[93]⟩]= [93]:=by simp[Fk]
    go_wp2_with (go_at_call 101;refine(HJ.out).mono ?_;rintro e o ⟨rfl,O,P,h3⟩)
    go_end0
    rw[e,List.append_assoc,List.cons_append]at O;exact⟨rfl,O,r.trans P,U.trans h3⟩
attribute [local go_sem] Oper.semAt_some
def Ja:List (ByteArray×Val)->Bool->List (Bool×(ByteArray×Val))
 | [],_=> []
 |p::r,f=>(f,p)::Ja r false
def Val.kind:Val->Int
 | .mk k _ _ _ _ _=>k
def Gb (x:Bool×(ByteArray×Val)):ByteArray:=(⟨(if x.1 then []else [44]:List UInt8).toArray⟩:ByteArray)++⟨(B8 x.2.1).toArray⟩
def Ac2 (x:Bool×(ByteArray×Val)) (q:Nat):Array Value:=
 #[.string (Gb x),.func (.func (Nc x.2.2.kind)) #[] (Jg x.2.2.kind q)]
def Ahj (W0:World) (B G:Nat) (x:Bool×(ByteArray×Val)) (q:Nat) (A:World):Prop:=
 G<q/\ ∃cs,A.heap[q]? =some (.cells cs.toArray 42 (0,0))/\Ab W0 B x.2.2 cs
theorem Uz (a:Option Addr) (on oc:Nat) (w:World):
 Calls Tryz.prog 110 #[.slice a on oc] w fun e w'=>e=.returned (.func (.func 185) #[] #[.pointer (some ⟨w.heap.size,0,none⟩)])/\w.alloc (.cells #[.slice a on oc] 40)=w':=by
 go_enter Tryz.func110,Tryz.ntmps110;go_wp2;go_ret;exact⟨rfl,rfl⟩
theorem Tq (o:List (ByteArray×Val)) (N:World) (B G p:Nat) (oa:Option Addr) (oc:Nat) (go b:Nat) (h5:5<=B) (hT:Cj N)
 (M:o= []\/(oa=some ⟨go,b,none⟩/\go<B/\An N B o go b)) (aa:okO o) (hb:Af o<=1000000000):
 Aei Tryz.prog 185 #[.pointer (some ⟨p,0,none⟩)] Ac2 (Ahj N B G) (Ja o true)
  (fun A=>A.heap[p]? =some (.cells #[.slice oa o.length oc] 40 (0,0))/\Below B N A/\G<A.heap.size):=by
 intro n l J W I y hY h0;have ar:o.length<=1000000000:=by have:=B5 o;omega
 have Z:Tryz.prog.follows .mixedOrders=true:=by kernel_rfl
 have aj:W.cell? ⟨p,0,none⟩=some (.slice oa o.length oc):=(Lib.cell_of_heap (y _ _ h0).1 0).trans rfl;refine callsIn_of_wp Tryz.func185 rfl trivial ?_ rfl;simp only[Tryz.ntmps185,List.size_toArray,List.length_cons,List.length_nil,Nat.reduceAdd,Nat.reduceSub,Array.replicate_succ,Array.replicate_zero,List.push_toArray,List.append_toArray,List.nil_append,List.cons_append]
 gi_wp2
 gi_loopw [7] (fun i wr=> ∃(pre:List (Bool×(ByteArray×Val))) (k:Nat),i=.int .i64 k/\k<=o.length/\Hid (Ja o true=pre++Ja (o.drop k) (decide ((k:Int)=0)))/\J pre wr) (fun i _=>o.length - (intOf i).toNat)
 case atStart=>exact⟨[],0,rfl,Nat.zero_le _,rfl,h0⟩
 case round=>
  obtain⟨pre,k,rfl,hk,hr,U⟩:=hrel;obtain⟨hp,a,hG⟩:=y _ _ U;by_cases X:k<o.length
  . obtain⟨rfl,L,hO⟩:oa=some ⟨go,b,none⟩/\go<B/\An N B o go b:=by
     rcases M with rfl|h
     . simp at X
     . exact h
    obtain⟨m,Y⟩: ∃m,o[k]? =some m:=⟨_,List.getElem?_eq_getElem X⟩;have C:m ∈ o:=List.mem_of_getElem? Y;have ab:=Zc Y;have D:=Ae2 aa C;have R:Hid (Cj wr):=hT.keep a h5;have c:=hr.out;rw[Cr Y]at c;simp only[Ja]at c;have V:decide (((k+1:Nat):Int)=0)=false:=by simp;omega
    obtain⟨key,v⟩:=m;obtain⟨s,b',u,x,l',o'⟩:=v;obtain⟨f,g,j,r,ac,c0,c1,c2,c3,c4,c5,c6⟩:=hO.seven Y;replace c0:=(a.cell (p:=⟨go,b+k*7,none⟩) L).trans c0;replace c1:=(a.cell (p:=⟨go,b+k*7+1,none⟩) L).trans c1;replace c2:=(a.cell (p:=⟨go,b+k*7+2,none⟩) L).trans c2;replace c3:=(a.cell (p:=⟨go,b+k*7+3,none⟩) L).trans c3;replace c4:=(a.cell (p:=⟨go,b+k*7+4,none⟩) L).trans c4;replace c5:=(a.cell (p:=⟨go,b+k*7+5,none⟩) L).trans c5;replace c6:=(a.cell (p:=⟨go,b+k*7+6,none⟩) L).trans c6;have HY:Hid (∀(A:World) (q:Nat),G<q->A.heap[q]? =some (.cells #[.int .i64 s,.bool b',.int .i64 u,.string x,.slice f l'.length g,.slice j o'.length r] 42 (0,0))->Below wr.heap.size wr A->
     YieldAt Fence.wide n Tryz.prog l #[.string ((⟨(if decide ((k:Int)=0)then []else [44]:List UInt8).toArray⟩:ByteArray)++⟨(B8 key).toArray⟩),.func (.func (Nc s)) #[] (Jg s q)] A fun e B=>e=.returned (.bool true)/\J (pre++ [(decide ((k:Int)=0),key,.mk s b' u x l' o')]) B):=by
     show ∀_ _,_;intro A q hq O hb;have hM:Ahj N B G (decide ((k:Int)=0),key,.mk s b' u x l' o') q A:=⟨hq,Eb s b' u x f l'.length g j o'.length r,O,ac⟩;have:=hY pre _ _ q A c (I _ _ _ U hb) hM;simp only[Ac2,Gb,Val.kind]at this;exact this
    have ae:Hid (Ja o true=(pre++ [(decide ((k:Int)=0),key,.mk s b' u x l' o')])++Ja (o.drop (k+1)) (decide (((k+1:Nat):Int)=0))):=by
     show _=_;rw[V,c];simp
    have cB: ∀w,Calls Tryz.prog 108 #[.int .i64 k] w fun e w'=>e=.returned (.string ⟨(if decide ((k:Int)=0)then []else [44]:List UInt8).toArray⟩)/\w=w':=by
     intro w;have:=Nf (k:Int) w;simpa only[decide_eq_true_eq]using this
    have ak:key.size<=1000000000:=by simp only[E7]at ab;omega
    have cQ: ∀w,Cj w->Calls Tryz.prog 106 #[.string key] w fun e w'=>e=.returned (.string ⟨(B8 key).toArray⟩)/\Below w.heap.size w w':=fun w hw=>Rf key w hw ak D.1;clear hr c ab D C Y hO ac M hY V aa;have ah:(⟨(if decide ((k:Int)=0)then []else [44]:List UInt8).toArray⟩:ByteArray).size<=1:=by
     split<;>simp[ByteArray.size]
    have ai:(⟨(B8 key).toArray⟩:ByteArray).size<=6000000002:=by
     have:=Jz key;simp only[ByteArray.size,List.size_toArray];omega
    generalize (⟨(if decide ((k:Int)=0)then []else [44]:List UInt8).toArray⟩:ByteArray)=S at HY cB ah;generalize (⟨(B8 key).toArray⟩:ByteArray)=Q at HY cQ ai;have aq:((S.size:Int)+(Q.size:Int)>9223372036854775807)=False:=by simp;omega
    have al:((S.size+Q.size:Nat):Int)>IntKind.i64.max ↔ False:=by
     have e:IntKind.i64.max=9223372036854775807:=rfl;simp only[iff_false,e];omega
    obtain⟨CB,CQ⟩:=hid2 cB cQ;clear cB cQ;obtain⟨an,am,ao,HJ,Hp⟩:=hid5 I y a U hp;clear aj h0 hb hT I y Z a U hp;have ap:=hG
    gi_wp2
    obtain⟨A,O⟩: ∃A,wr.alloc (.cells #[.string key,.int .i64 s,.bool b',.int .i64 u,.string x,.slice f l'.length g,.slice j o'.length r] 111)=A:=⟨_,rfl⟩;have T:Below wr.heap.size wr A:=by rw[<-O];exact(Below.refl _ _).alloc (Nat.le_refl _) _
    have F:A.heap[wr.heap.size]? =some (.cells #[.string key,.int .i64 s,.bool b',.int .i64 u,.string x,.slice f l'.length g,.slice j o'.length r] 111 (0,0)):=by rw[<-O];exact heap_alloc_new _ _
    rw[O];have af:=(Array.getElem?_eq_some_iff.1 F).1;have H:Below wr.heap.size wr A.drew:=Below.drew T;have ad:Hid (Cj A.drew):=R.out.keep H R.out.1;have d:A.drew.heap[wr.heap.size]? =some (.cells #[.string key,.int .i64 s,.bool b',.int .i64 u,.string x,.slice f l'.length g,.slice j o'.length r] 111 (0,0)):=F;clear O c0 c1 c2 c3 c4 c5 c6 T;have HG:Hid (G<wr.heap.size):=hG;have Z:Tryz.prog.follows .mixedOrders=true:=by kernel_rfl
    have a0:A.drew.cell? ⟨wr.heap.size,0,none⟩=some (.string key):=(Lib.cell_of_heap d 0).trans rfl;have a1:A.drew.cell? ⟨wr.heap.size,1,none⟩=some (.int .i64 s):=(Lib.cell_of_heap d 1).trans rfl;have a2:A.drew.cell? ⟨wr.heap.size,2,none⟩=some (.bool b'):=(Lib.cell_of_heap d 2).trans rfl;have a3:A.drew.cell? ⟨wr.heap.size,3,none⟩=some (.int .i64 u):=(Lib.cell_of_heap d 3).trans rfl;have a4:A.drew.cell? ⟨wr.heap.size,4,none⟩=some (.string x):=(Lib.cell_of_heap d 4).trans rfl;have a5:A.drew.cell? ⟨wr.heap.size,5,none⟩=some (.slice f l'.length g):=(Lib.cell_of_heap d 5).trans rfl;have a6:A.drew.cell? ⟨wr.heap.size,6,none⟩=some (.slice j o'.length r):=(Lib.cell_of_heap d 6).trans rfl;obtain⟨P,t⟩:=hid2 d H;clear d H hG af F
    gi_region_with (first|(refine⟨trivial, ?_⟩;gi_at_call 108;refine(callsIn_wide.2 (CB.out _)).mono ?_;rintro e wx ⟨rfl,rfl⟩)|(refine⟨trivial, ?_⟩;gi_at_call 106;refine(callsIn_wide.2 (CQ.out _ ad.out)).mono ?_;rintro e z ⟨rfl,K⟩;have E:=qz K;have d0:=(K.block wr.heap.size (Array.getElem?_eq_some_iff.1 P.out).1).trans P.out;have d1:z.cell? ⟨wr.heap.size,1,none⟩=some (.int .i64 s):=(Lib.cell_of_heap d0 1).trans rfl;have d2:z.cell? ⟨wr.heap.size,2,none⟩=some (.bool b'):=(Lib.cell_of_heap d0 2).trans rfl;have d3:z.cell? ⟨wr.heap.size,3,none⟩=some (.int .i64 u):=(Lib.cell_of_heap d0 3).trans rfl;have d4:z.cell? ⟨wr.heap.size,4,none⟩=some (.string x):=(Lib.cell_of_heap d0 4).trans rfl;have d5:z.cell? ⟨wr.heap.size,5,none⟩=some (.slice f l'.length g):=(Lib.cell_of_heap d0 5).trans rfl;have d6:z.cell? ⟨wr.heap.size,6,none⟩=some (.slice j o'.length r):=(Lib.cell_of_heap d0 6).trans rfl;clear K d0)|(refine⟨trivial, ?_⟩;gi_at_call 53;refine(callsIn_wide.2 (Mz s b' u x f j l'.length g o'.length r z)).mono ?_;rintro e w3 ⟨rfl,rfl⟩;obtain⟨fn,tmps,assign,body,hy,hR⟩:=HY.out (z.alloc (.cells #[.int .i64 s,.bool b',.int .i64 u,.string x,.slice f l'.length g,.slice j o'.length r] 42)) z.heap.size (Nat.lt_of_lt_of_le HG.out (t.out.trans (E.out.mono t.out.size)).size) (heap_alloc_new _ _) (((t.out.trans (E.out.mono t.out.size))).alloc (t.out.trans (E.out.mono t.out.size)).size _))|(refine hR.mono ?_;rintro e W3 ⟨rfl,ag⟩;clear hy hR))
    all_goals(
     gi_wp2
     go_roundw
     case rel=>exact⟨_,k+1,by go_num,by omega,ae,ag⟩
     case measure=>simp[intOf];omega)
  . obtain rfl:k=o.length:=by omega
    have c:=hr.out;rw[List.drop_length]at c;simp only[Ja,List.append_nil]at c;have Hr:=qz c;clear hr c M a hT
    gi_wp2
    go_end0
    exact⟨⟨_,rfl⟩,by rw[Hr.out];exact U⟩
attribute [local go_sem] Oper.semAt_some
theorem Q6: ∀(o:List (ByteArray×Val)) (f:Bool) {pre:List (Bool×(ByteArray×Val))} {x:Bool×(ByteArray×Val)} {rest:List (Bool×(ByteArray×Val))},Ja o f=pre++x::rest->
 x.1=(f&&(pre.map (·.2)).isEmpty)/\o=pre.map (·.2)++x.2::rest.map (·.2)
 | [],f,pre,x,rest,h=>by simp[Ja]at h
 |p::r,f, [],x,rest,h=>by
  simp only[Ja,List.nil_append,List.cons.injEq]at h;obtain⟨rfl,h⟩:=h;have: ∀(l:List (ByteArray×Val)) (f:Bool),(Ja l f).map (·.2)=l:=by
   intro l
   induction l with
   |nil=>intro f;rfl
   |cons a l ih=>intro f;simp[Ja,ih]
  rw[<-h,this];simp
 |p::r,f,y::pre,x,rest,h=>by
  simp only[Ja,List.cons_append,List.cons.injEq]at h;obtain⟨rfl,h⟩:=h;obtain⟨b,c⟩:=Q6 r false h;exact⟨by simpa using b,by simp[<-c]⟩
theorem V8: ∀(l:List (ByteArray×Val)) (f:Bool),(Ja l f).map (·.2)=l
 | [],_=>rfl
 |a::l,f=>by simp[Ja,V8 l]
theorem Fd.of_below {g:Nat} {A W:World} (h:Below A.heap.size A W):Fd g A W:=fun j _ a _ _=>(h.block j (Array.getElem?_eq_some_iff.1 a).1).trans a
theorem Ae3: ∀{a:List (ByteArray×Val)} {b:List (ByteArray×Val)},okO (a++b)->okO a
 | [],_,_=>by simp[okO]
 |x::r,b,h=>by simp only[List.cons_append,okO]at h ⊢;exact⟨h.1,Ae3 h.2⟩
theorem Vs: ∀(a:List (ByteArray×Val)) (p:ByteArray×Val) (b:List (ByteArray×Val)),Af a+E7 p<=Af (a++p::b)
 | [],p,b=>by simp[Af]
 |x::r,p,b=>by have:=Vs r p b;simp only[List.cons_append,Af];omega
def OI (W:World) (B g b pm:Nat) (keeps:Bool) (acc:List UInt8) (sl:Value) (pre:List (Bool×(ByteArray×Val))) (A:World):Prop:=
 Wr A B g keeps (acc++123::C0 (pre.map (·.2)) true)/\Below B W A/\Fd g W A/\A.heap[b]? =some (.cells #[.pointer (some ⟨g,0,none⟩)] 119 (0,0))/\A.heap[pm]? =some (.cells #[sl] 40 (0,0))
theorem Nu (o:List (ByteArray×Val)) (IH: ∀m ∈ o,W8 m.2) (W:World) (B g p:Nat) (h5:5<=B) (a:Bool) (acc:List UInt8) (X:Option Addr) (oc:Nat) (v0 v1 v2 v3 v4:Value)
 (hp:W.heap[p]? =some (.cells #[v0,v1,v2,v3,v4,.slice X o.length oc] 42 (0,0)))
 (gl Y:Nat) (ag:o= []\/(X=some ⟨gl,Y,none⟩/\gl<B/\An W B o gl Y)) (hT:Cj W) (a5:p≠g) (hW:Wr W B g a acc) (ah:okO o) (a9:acc.length+6*(6+Af o)<=20000000000) (hb:Af o<=1000000000):
 Calls Tryz.prog 109 #[.pointer (some ⟨g,0,none⟩),.pointer (some ⟨p,0,none⟩)] W fun e W'=>e=.returned (.tuple #[])/\Wr W' B g a (acc++123::(C0 o true++ [125]))/\Below B W W'/\Fd g W W':=by
 have bg:o.length<=1000000000:=by have:=B5 o;omega
 have bd:=hW.lt;have bb:=hW.base;have a4:=(Array.getElem?_eq_some_iff.1 hp).1;have ac:Wr (W.alloc (.cells #[.pointer (some ⟨g,0,none⟩)] 119)) B g a acc:=hW.below ((Below.refl _ _).alloc (Nat.le_refl _) _);have O:Hid (Below W.heap.size W (W.alloc (.cells #[.pointer (some ⟨g,0,none⟩)] 119))):=(Below.refl _ _).alloc (Nat.le_refl _) _;have ab:=heap_alloc_new W (.cells #[.pointer (some ⟨g,0,none⟩)] 119);have a8:(W.alloc (.cells #[.pointer (some ⟨g,0,none⟩)] 119)).heap.size=W.heap.size+1:=by simp
 have R:=F6 [⟨#[123]⟩] 1 ac (by simp[Fk];omega) (by simp);rw[a8]at R;obtain⟨aq,ao,HP,ar,ap,F,HT⟩:=hid7 R ab hp ag IH ah hT;clear R ab hp ag IH ah hT ac;refine(callsIn_wide (n:=12)).1 ?_;refine callsIn_of_wp_marks Tryz.func109 rfl trivial ?_ rfl;simp only[Tryz.ntmps109,List.size_toArray,List.length_cons,List.length_nil,Nat.reduceAdd,Nat.reduceSub,Array.replicate_succ,Array.replicate_zero,List.push_toArray,List.append_toArray,List.nil_append,List.cons_append]
 gi_wp2_with (first|(refine⟨trivial, ?_⟩;gi_at_call 101;refine(callsIn_wide.2 aq.out).mono ?_;rintro e w1 ⟨rfl,T,P,J⟩;have ai:=J.cells ((O.out.block p a4).trans HP.out) a5 (by decide);have c5:w1.cell? ⟨p,5,none⟩=some (.slice X o.length oc):=(Lib.cell_of_heap ai 5).trans rfl)|(refine⟨trivial, ?_⟩;gi_at_call 110;refine(callsIn_wide.2 (Uz X o.length oc w1)).mono ?_;rintro e w2 ⟨rfl,U⟩))
 have bi:=T.lt;have L:Below B W w1:=(O.out.mono (by omega)).trans P;have M:Fd g W w1:=(Fd.of_below O.out).trans J;have s:=J.cells ao.out (by omega) (by decide);have a7:=P.size;have az:W.heap.size<w1.heap.size:=(Array.getElem?_eq_some_iff.1 s).1;have t:Below w1.heap.size w1 w2:=U▸(Below.refl _ _).alloc (Nat.le_refl _) _;have aj:w2.heap[w1.heap.size]? =some (.cells #[.slice X o.length oc] 40 (0,0)):=U▸heap_alloc_new _ _;have af:=(t.block W.heap.size az).trans s;have ay:Wr w2 B g a (acc++123::C0 [] true):=by
  have:=T.below t;simpa[Fk,C0]using this
 have a0:Below B W w2:=L.trans (t.mono (by omega));have a2:Fd g W w2:=M.trans (Fd.of_below t);have bj:=(Array.getElem?_eq_some_iff.1 aj).1;clear U T P J ai c5 L M s t a7;refine Vh (n:=10) (gf:=185) (lb:= #[.pointer (some ⟨w1.heap.size,0,none⟩)]) rfl (enters_of Tryz.func185 (by kernel_rfl) rfl) (Tq o W B g w1.heap.size X oc gl Y h5 HT.out ar.out F.out hb) (fun _ _=>rfl)
  ?hEp (OI W B g W.heap.size w1.heap.size a acc (.slice X o.length oc)) ?hIn ?hIp ?hIb ?h0 ?a1 ?assign ?body ?done
 case assign=>
  intro l x q W K hK;dsimp only[Ac2]
  gi_wp2
  exact hK
 case h0=>exact⟨ay,a0,a2,af,aj⟩
 case hIb=>
  rintro pre A ⟨b,d,E,h,G⟩;exact⟨G,d,b.lt⟩
 case hIn=>
  rintro pre A A' ⟨b,d,E,h,G⟩ r;exact⟨b.below r,d.trans (r.mono (Nat.le_trans b.base (Nat.le_of_lt b.lt))),E.trans (Fd.of_below r),(r.block _ (Array.getElem?_eq_some_iff.1 h).1).trans h,(r.block _ (Array.getElem?_eq_some_iff.1 G).1).trans G⟩
 case hEp=>
  rintro x q A k u u' ⟨b,cs,d,E⟩ z hc;refine⟨b,cs, ?_,E⟩;rw[World.putObj_heap_other (by rintro rfl;rw[d]at z;injection z with z;subst z;simp[Obj.isCells]at hc)];exact d
 case hIp=>
  rintro pre A k u u' ⟨b,d,E,h,G⟩ z hc hk;refine⟨b.put z hc,d.grown (grownBy_putObj' A k u') (by have:=d.size;omega) (fun j e=>by cases e;omega),fun j v I hg hv=> ?_, ?_, ?_⟩
  . have:=(Array.getElem?_eq_some_iff.1 I).1;rw[World.putObj_heap_other (by omega)];exact E j v I hg hv
  . rw[World.putObj_heap_other (by omega)];exact h
  . rw[World.putObj_heap_other (by omega)];exact G
 case body=>
  rintro l pre x rest q A hx ⟨b,d,E,h,G⟩ ⟨hq,cs,ak,al⟩ ⟨ds,H⟩ ⟨rc,am⟩;obtain⟨hf,z⟩:=Q6 o true hx;have S:=M7 (pre.map (·.2)) (fun m _=>Jq m.2) (Ae3 (z▸F.out)) true;have ae:Af (pre.map (·.2))+E7 x.2<=Af o:=by rw[z];exact Vs _ _ _
  have V:x.2 ∈ o:=by rw[z];simp
  have N:=Ae2 F.out V;have an:C0 ((pre++ [x]).map (·.2)) true=C0 (pre.map (·.2)) true++((Gb x).data.toList++(58::Bd x.2.2)):=by
   rw[List.map_append,List.map_cons,List.map_nil,Oj];obtain⟨f,key,v⟩:=x;simp only at hf;simp only[Po,Gb,hf];simp[List.append_assoc]
  obtain⟨f,key,v⟩:=x;obtain⟨i,b',C,D,l',o'⟩:=v;have bh:=Jz key;have bf:(Gb (f,key,.mk i b' C D l' o')).data.toList.length<=6*key.size+3:=by
   simp only[Gb]
   split<;>simp<;>omega
  simp only[E7]at ae;have Q:Fk [Gb (f,key,.mk i b' C D l' o'),⟨#[58]⟩]=(Gb (f,key,.mk i b' C D l' o')).data.toList++ [58]:=by simp[Fk]
  have be:(acc++123::C0 (pre.map (·.2)) true).length+6*(Val.mk i b' C D l' o').bulk+6*key.size+7<=20000000000:=by
   rw[List.length_append,List.length_cons];omega
  have a6:(Val.mk i b' C D l' o').bulk<=1000000000:=by omega
  have bc:((Gb (f,key,.mk i b' C D l' o')).data.toList++ [58]).length=(Gb (f,key,.mk i b' C D l' o')).data.toList.length+1:=by simp
  have av:=qz (ap.out _ V);obtain⟨aa,au⟩:=hid2 N an;have I:=F6 [Gb (f,key,.mk i b' C D l' o'),⟨#[58]⟩] 2 b (by rw[Q];omega) (by simp);rw[Q]at I;obtain⟨HJ,HQ,HV⟩:=hid3 I ak al;have aw:A.cell? ⟨W.heap.size,0,none⟩=some (.pointer (some ⟨g,0,none⟩)):=(Lib.cell_of_heap h 0).trans rfl;have H2:=qz d;have hA:=b.lt;have ax:=(Array.getElem?_eq_some_iff.1 h).1;have a3:((acc++123::C0 (pre.map (fun y:Bool×(ByteArray×Val)=>y.2)) true)++((Gb (f,key,.mk i b' C D l' o')).data.toList++ [58])).length+6*(Val.mk i b' C D l' o').bulk<=20000000000:=by
   rw[List.length_append];omega
  have ba:=J8;simp only[Val.kind];clear I an N V z hf S ae hx Q ak al
  gi_wp2_with (first|(refine⟨trivial, ?_⟩;gi_at_call 101;refine(CallsIn.inRound l (callsIn_wide.2 HJ.out)).mono ?_;rintro e A2 ⟨rfl,g1,g2,Z⟩;have g4:=Z.cells h (by omega) (by decide);have g5:A2.cell? ⟨W.heap.size,0,none⟩=some (.pointer (some ⟨g,0,none⟩)):=(Lib.cell_of_heap g4 0).trans rfl)|(refine⟨trivial, ?_⟩;gi_at_fn (Nc i);refine(CallsIn.inRound l (callsIn_wide.2 (av.out A2 B g q a _ cs i b' C D l' o' rfl h5 (HT.out.keep (H2.out.trans g2) h5) (HV.out.below (H2.out.trans g2)) (Z.cells HQ.out (by omega) (by decide)) (by omega) g1 aa.out.2 a6 a3))).mono ?_;rintro e A3 ⟨rfl,g6,g7,g8⟩))
  have w:Fd g A A3:=Z.trans g8;refine⟨?_, ?_, ?_,d.trans (g2.trans g7),E.trans w,w.cells h (by omega) (by decide),w.cells G (by omega) (by decide)⟩
  . exact(w _ _ H (by simp;omega) (fun c fz e=>by cases e)).trans H.symm
  . exact(w _ _ am (by simp;omega) (fun c fz e=>by cases e)).trans am.symm
  . rw[au.out];simpa[List.append_assoc]using g6
 case done=>
  rintro A ⟨b,d,E,h,G⟩ H;rw[V8]at b;have S:=M7 o (fun m _=>Jq m.2) F.out true;have HJ:=qz (F6 [⟨#[125]⟩] 1 b (by rw[List.length_append,List.length_cons];simp[Fk];omega) (by simp));have aw:A.cell? ⟨W.heap.size,0,none⟩=some (.pointer (some ⟨g,0,none⟩)):=(Lib.cell_of_heap h 0).trans rfl;have hA:=b.lt;have ax:=(Array.getElem?_eq_some_iff.1 h).1;have e:Fk [⟨#[125]⟩]= [125]:=by simp[Fk]
  clear S
  gi_wp2_with (refine⟨trivial, ?_⟩;gi_at_call 101;refine(callsIn_wide.2 HJ.out).mono ?_;rintro e A2 ⟨rfl,g1,g2,Z⟩)
  have hd:=Z _ _ H (by simp;omega) (fun c fz e=>by cases e);refine⟨by simp,.inl ⟨_,_,rfl,run_takeDeferred hd, ?_⟩⟩;rw[e,List.append_assoc,List.cons_append]at g1;refine⟨_,results_none rfl _ _ _,rfl, ?_⟩;have ad:=d.trans g2;refine⟨g1.put hd rfl,ad.grown (grownBy_putObj' A2 w2.heap.size _) (by have:=ad.size;omega) (fun j e=>by cases e;omega),fun j v I hg hv=> ?_⟩;have:=(Array.getElem?_eq_some_iff.1 I).1;rw[World.putObj_heap_other (by omega)];exact Z j v (E j v I hg hv) hg hv
theorem Ad9: ∀v,W8 v:=by
 refine Val.ind ?_;intro k b n t l o m q W B g p a acc cs O b' P Q l' o' L x j G h d f c C r
 injection L with e1 e2 e3 e4 e5 e6
 subst e1 e2 e3 e4 e5 e6;simp only[Ab]at G;obtain⟨M,H,N,oc,rfl,E,F⟩:=G;simp only[okV]at c;simp only[Val.bulk]at C r;by_cases s:k=2
 . subst s;exact Abs W B g p a acc b _ _ _ _ _ h f (by omega)
 by_cases u:k=3
 . subst u;exact Aea W B g p a acc n _ _ _ _ _ h j c.2.1.1 c.2.1.2 d f (by omega)
 by_cases w:k=4
 . subst w;exact Abu W B g p a acc t _ _ _ _ _ h j c.1 (by omega) d f (by omega)
 by_cases e:k=5
 . subst e;rcases E with rfl|⟨z,i,rfl,D,A⟩
   . exact Rr [] m W B g p x a acc M H _ _ _ _ _ h 0 0 (.inl rfl) j d f c.2.2.1 (by omega) (by omega)
   . exact Rr l m W B g p x a acc _ H _ _ _ _ _ h z i (.inr ⟨rfl,D,A⟩) j d f c.2.2.1 (by omega) (by omega)
 by_cases y:k=6
 . subst y;rcases F with rfl|⟨z,i,rfl,D,A⟩
   . exact Nu [] q W B g p x a acc N oc _ _ _ _ _ h 0 0 (.inl rfl) j d f c.2.2.2 (by omega) (by omega)
   . exact Nu o q W B g p x a acc _ oc _ _ _ _ _ h z i (.inr ⟨rfl,D,A⟩) j d f c.2.2.2 (by omega) (by omega)
 . have J:Nc k=111:=by simp[Nc,s,u,w,e,y]
   have I:Jg k p= #[]:=by simp[Jg,s,u,w,e,y]
   have K:Bd (.mk k b n t l o)= [110,117,108,108]:=by simp[Bd,s,u,w,e,y]
   rw[J,I,K];exact Abt W B g a acc f (by omega)
theorem Ajf: ∀(l:List Val),(∀v ∈ l,∀d,A0 v d=0->I9 v->okV v)-> ∀d,Dn l d=0->Na l->okL l
 | [],_,_,_,_=>by simp[okL]
 |v::r,ih,d,h,hi=>by
  simp only[Dn]at h;simp only[Na]at hi;simp only[okL]
  split at h
  . rename_i h0;exact⟨ih v (by simp) d h0 hi.1,Ajf r (fun x a=>ih x (by simp[a])) d h hi.2⟩
  . rename_i h0;exact absurd h h0
theorem Aji: ∀(l:List (ByteArray×Val)),(∀m ∈ l,∀d,A0 m.2 d=0->I9 m.2->okV m.2)-> ∀a d,Di l a d=0->I6 l->okO l
 | [],_,_,_,_,_=>by simp[okO]
 |(key,v)::r,ih,a,d,h,hi=>by
  simp only[Di]at h;simp only[I6,inP]at hi;simp only[okO,okP]
  split at h
  . rename_i h0;refine⟨?_,Aji r (fun x c=>ih x (by simp[c])) _ d h hi.2⟩;simp only[Ob]at h0
    split at h0
    . rename_i b;refine⟨b, ?_⟩
      cases a with
      |none=>exact ih (key,v) (by simp) d h0 hi.1
      |some q=>
       simp only at h0
       split at h0
       . cases h0
       . exact ih (key,v) (by simp) d h0 hi.1
    . cases h0
  . rename_i h0;exact absurd h h0
theorem X6: ∀v d,A0 v d=0->I9 v->okV v:=by
 refine Val.ind ?_;intro k b n t l o c e d h a;simp only[A0]at h;simp only[I9]at a;simp only[okV]
 split at h
 . cases h
 split at h
 . cases h
 split at h
 . rename_i f
   split at h
   . rename_i h0;exact⟨f,a.1,Ajf l c _ h0 a.2.1,Aji o e _ _ h a.2.2⟩
   . rename_i h0;exact absurd h h0
 . cases h
theorem Aet (n:Int):Lib.itoa n≠ []:=by
 unfold Lib.itoa
 split
 . simp
 . intro h;have:=congrArg List.length h;rw[Lib.decDigits_length]at this;have a:=Lib.nDigits_pos n.toNat;simp at this;omega
theorem Aj8 (v:Val):Bd v≠ []:=by
 obtain⟨k,b,n,t,l,o⟩:=v;simp only[Bd]
 split
 . cases b<;>decide
 split
 . intro h;exact Aet n h
 split
 . simp[B8]
 split
 . simp
 split
 . simp
 . simp
theorem Al7 (W:World) (B:Nat) (a:Bool) (h:B<=W.heap.size):Wr (W.alloc (.cells #[.bool a,.pointer none,.slice none 0 0,.int .i64 0] 116)) B W.heap.size a []:=
 ⟨.pointer none,.slice none 0 0,h,heap_alloc_new _ _,by decide,by simp,.inl rfl,.slice none 0 0,rfl,by cases a<;>exact World.ownsRow_nil _ _ _ _⟩
theorem Pt (k:Int) (b:Bool) (n:Int) (t:ByteArray) (l:List Val) (o:List (ByteArray×Val)) (h j:Option Addr) (i oc:Nat) (a:Bool) (w:World) (s:Cj w)
 (z:Ab w w.heap.size (.mk k b n t l o) (Eb k b n t h l.length i j o.length oc)) (A:(Val.mk k b n t l o).bulk<=1000000000) (r:okV (.mk k b n t l o)):
 Calls Tryz.prog (Nc k) (#[.pointer (some ⟨w.heap.size,0,none⟩)]++Jg k (w.heap.size+1))
  ((w.alloc (.cells #[.bool a,.pointer none,.slice none 0 0,.int .i64 0] 116)).alloc (.cells #[.int .i64 k,.bool b,.int .i64 n,.string t,.slice h l.length i,.slice j o.length oc] 42))
  fun e w'=>e=.returned (.tuple #[])/\Wr w' w.heap.size w.heap.size a (Bd (.mk k b n t l o))/\Below w.heap.size w w':=by
 have C:=Ad9 (.mk k b n t l o);have y:=s.1;have g:Wr (w.alloc (.cells #[.bool a,.pointer none,.slice none 0 0,.int .i64 0] 116)) w.heap.size w.heap.size a []:=Al7 w _ a (Nat.le_refl _);obtain⟨c,m⟩: ∃c,w.alloc (.cells #[.bool a,.pointer none,.slice none 0 0,.int .i64 0] 116)=c:=⟨_,rfl⟩;have p:Below w.heap.size w c:=m▸(Below.refl _ _).alloc (Nat.le_refl _) _;have q:c.heap.size=w.heap.size+1:=by rw[<-m];simp
 rw[m]at g ⊢;have f:Below c.heap.size c (c.alloc (.cells #[.int .i64 k,.bool b,.int .i64 n,.string t,.slice h l.length i,.slice j o.length oc] 42)):=(Below.refl _ _).alloc (Nat.le_refl _) _;have d:Below w.heap.size w (c.alloc (.cells #[.int .i64 k,.bool b,.int .i64 n,.string t,.slice h l.length i,.slice j o.length oc] 42)):=p.trans (f.mono (by omega));have u:=C _ w.heap.size w.heap.size c.heap.size a [] _ k b n t l o rfl y (s.below d) (z.below d) (heap_alloc_new c (.cells #[.int .i64 k,.bool b,.int .i64 n,.string t,.slice h l.length i,.slice j o.length oc] 42)) (by omega) (g.below f) r A (by simp;omega);rw[q,List.nil_append]at u;refine u.mono ?_;rintro e w' ⟨B,v,x,D⟩;exact⟨B,v,d.trans x⟩
theorem Vp {w:World} {g:Nat} {k:Int} {b:Bool} {n:Int} {t:ByteArray} {x y:Value} (h:w.heap[g]? =some (.cells #[.int .i64 k,.bool b,.int .i64 n,.string t,x,y] 42 (0,0))):
 w.cell? ⟨g,0,none⟩=some (.int .i64 k)/\w.cell? ⟨g,1,none⟩=some (.bool b)/\w.cell? ⟨g,2,none⟩=some (.int .i64 n)/\w.cell? ⟨g,3,none⟩=some (.string t)/\w.cell? ⟨g,4,none⟩=some x/\w.cell? ⟨g,5,none⟩=some y:=by
 refine⟨?_, ?_, ?_, ?_, ?_, ?_⟩<;>(rw[Lib.cell_of_heap h];rfl)
def Nr (v:Val):ByteArray:=if A0 v 1=0 then⟨(Bd v).toArray⟩else⟨#[]⟩
theorem Ab1 (v:Val) (cs:List Value) (w:World) (G:Cj w) (C:Ab w w.heap.size v cs) (D:v.bulk<=1000000000) (I:I9 v):
 Calls Tryz.prog 25 #[.agg cs.toArray] w fun e w'=>e=.returned (.tuple #[.string (Nr v),.int .i64 (A0 v 1)])/\Below w.heap.size w w':=by
 have r:=C;obtain⟨k,b,n,t,l,o⟩:=v;simp only[Ab]at r;obtain⟨z,A,B,oc,rfl,_,_⟩:=r;obtain⟨w1,d⟩: ∃w1,w.alloc (.cells (Eb k b n t z l.length A B o.length oc).toArray 42)=w1:=⟨_,rfl⟩;have c:Below w.heap.size w w1:=d▸(Below.refl _ _).alloc (Nat.le_refl _) _;have j:w1.heap.size=w.heap.size+1:=by rw[<-d];simp
 have i:w1.heap[w.heap.size]? =some (.cells #[.int .i64 k,.bool b,.int .i64 n,.string t,.slice z l.length A,.slice B o.length oc] 42 (0,0)):=by rw[<-d];exact heap_alloc_new _ _
 have f:=G.below c;have g:=Ab.more (c.size) _ _ (C.below c);have q:=Pw _ _ w1 f g D;obtain⟨Q,M⟩:=hid2 i c;by_cases p:A0 (.mk k b n t l o) 1=0
 . have y:=X6 _ 1 p I;have F:=fun w' (h:Below w1.heap.size w1 w')=>Pt k b n t l o z B A oc true w' (f.below h) (Ab.more h.size _ _ (g.below h)) D y;have x:=Aj8 (.mk k b n t l o);have P:=qz (fun w=>Mz k b n t z B l.length A o.length oc w);unfold Nr;rw[p]at q ⊢;rw[if_pos rfl];generalize Bd (.mk k b n t l o)=L at F x ⊢;have S:=J8;obtain⟨O,E,R⟩:=hid3 F q j;clear F q p y I D G C f g i c j;subst d;go_enter Tryz.func25,Tryz.ntmps25;go_wp2_with (first|(go_at_call 37;refine(E.out).mono ?_;rintro e K ⟨rfl,a⟩;have J:=a.size;rw[R.out]at J;have N:w.heap.size<K.heap.size:=(by omega);have u:K.heap[w.heap.size]? =some (.cells #[.int .i64 k,.bool b,.int .i64 n,.string t,.slice z l.length A,.slice B o.length oc] 42 (0,0)):=(a.block _ (by simp)).trans Q.out;obtain⟨d0,d1,d2,d3,d4,d5⟩:=Vp u)|(go_at_call 53;refine(P.out _).mono ?_;rintro e Z ⟨rfl,rfl⟩)|(go_at_fn (Nc k);refine(O.out _ a).mono ?_;rintro e w4 ⟨rfl,T,U⟩;obtain⟨X,Y,s⟩:=T)|(go_at_call 54;refine(Ov _ _ _ _ _ _ _ s x).mono ?_;rintro e w5 ⟨rfl,H,V⟩));go_ret2;exact⟨rfl,M.out.trans ((a.trans ((U.trans H).mono a.size)).mono (by simp))⟩
 . unfold Nr;rw[if_neg p];have W:(A0 (.mk k b n t l o) 1==0)=false:=by simpa using p
   generalize A0 (.mk k b n t l o) 1=m at*
   have E:=qz q;clear q p I D G C f g i c j;subst d;go_enter Tryz.func25,Tryz.ntmps25;go_wp2_with (go_at_call 37;refine(E.out).mono ?_;rintro e K ⟨rfl,a⟩);go_ret2;exact⟨rfl,M.out.trans (a.mono (by simp))⟩
theorem Kq: ∀{l:List Val} {d:Int},Dn l d=0-> ∀v ∈ l,A0 v d=0
 |v::r,d,h,x,a=>by
  simp only[Dn]at h
  split at h
  . rename_i h0;rcases List.mem_cons.1 a with rfl|a
    . exact h0
    . exact Kq h x a
  . rename_i h0;exact absurd h h0
theorem Tn: ∀{l:List (ByteArray×Val)} {last:Option ByteArray} {d:Int},Di l last d=0-> ∀m ∈ l,A6 m.1=true/\A0 m.2 d=0
 |(key,v)::r,last,d,h,x,a=>by
  simp only[Di]at h
  split at h
  . rename_i h0;rcases List.mem_cons.1 a with rfl|a
    . simp only[Ob]at h0
      split at h0
      . rename_i b;refine⟨b, ?_⟩
        cases last with
        |none=>exact h0
        |some q=>
         simp only at h0
         split at h0
         . cases h0
         . exact h0
      . cases h0
    . exact Tn h x a
  . rename_i h0;exact absurd h h0
theorem Fm {k:Int} {b:Bool} {n:Int} {t:ByteArray} {l:List Val} {o:List (ByteArray×Val)} {d:Int} (h:A0 (.mk k b n t l o) d=0):
 Fo k b n t l.length o.length=false/\d<=64/\A6 t=true/\Dn l (d+1)=0/\Di o none (d+1)=0:=by
 simp only[A0]at h
 split at h
 . cases h
 rename_i a
 split at h
 . cases h
 split at h
 . rename_i c
   split at h
   . rename_i h0;exact⟨by simpa using a,by omega,c,h0,h⟩
   . rename_i h0;exact absurd h h0
 . cases h
theorem O5 {l:List Val} (h:Na l) {x:Val} (a:x ∈ l):I9 x:=by
 induction l with
 |nil=>cases a
 |cons y r ih=>
  simp only[Na]at h;rcases List.mem_cons.1 a with rfl|a
  . exact h.1
  . exact ih h.2 a
theorem Aes {l:List (ByteArray×Val)} (h:I6 l) {x:ByteArray×Val} (a:x ∈ l):I9 x.2:=by
 induction l with
 |nil=>cases a
 |cons y r ih=>
  obtain⟨key,v⟩:=y;simp only[I6,inP]at h;rcases List.mem_cons.1 a with rfl|a
  . exact h.1
  . exact ih h.2 a
theorem Wt: ∀(a b:List Val) (f:Bool),Cz (a++b) f=Cz a f++Cz b (f&&a.isEmpty)
 | [],b,f=>by simp[Cz]
 |x::r,b,f=>by simp only[List.cons_append,Cz,Wt r b false];simp
theorem Mj (l:List Val) (k:Nat) (f:Bool):(Cz (l.take k) f).length<=(Cz l f).length:=by
 have:=Wt (l.take k) (l.drop k) f;rw[List.take_append_drop]at this;rw[this];simp
theorem Wu: ∀(a b:List (ByteArray×Val)) (f:Bool),C0 (a++b) f=C0 a f++C0 b (f&&a.isEmpty)
 | [],b,f=>by simp[C0]
 |x::r,b,f=>by simp only[List.cons_append,C0,Wu r b false];simp
theorem Mk (l:List (ByteArray×Val)) (k:Nat) (f:Bool):(C0 (l.take k) f).length<=(C0 l f).length:=by
 have:=Wu (l.take k) (l.drop k) f;rw[List.take_append_drop]at this;rw[this];simp
theorem Qk (s:ByteArray):s.data.toList.length=s.size:=by rw[Array.length_toList];rfl
theorem M5 (l:List UInt8):(⟨l.toArray⟩:ByteArray).size=l.length:=rfl
end Go.Proofs.YtjgfchcldhmjcaaGreatDoor
