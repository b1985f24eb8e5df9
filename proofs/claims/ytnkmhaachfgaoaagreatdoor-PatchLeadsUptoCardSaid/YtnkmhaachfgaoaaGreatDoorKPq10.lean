/- Parts: The tables and the two errors that the rows list: a world for the witnesses. No condition. -/
import Derived.Laws.CopyRow
import Derived.Lib.ValidU
import Derived.Lib.MapLaws
import Derived.LoopIn
import Derived.Shelf.SlSortFuncK.WholeK
import Derived.Shelf.GgSortFunc.Tiny
import Derived.Test.YtnkmhaachfgaoaaGreatDoorChecked
import Derived.Test.YtnkmhaachfgaoaaGreatDoorRows
import Derived.Lay
import Derived.Lib.LaidIn
import Derived.Lib.LaidU8T
import Derived.LaidSub
import Derived.Lib.ItoaNum
import Derived.Deep.DeepHandedRow
import Derived.ProofKit
import Derived.Test.YtnkmhaachfgaoaaGreatDoorKPq6
import Derived.Test.YtnkmhaachfgaoaaGreatDoorKPq8
set_option maxHeartbeats 20000000
namespace Go.Proofs.YtnkmhaachfgaoaaGreatDoor
open Go.RowKit
theorem Aa (w:World) (o:Obj):Below w.heap.size w (w.alloc o):=(Below.refl _ _).alloc (Nat.le_refl _) _
theorem Aed (n:Nat):((n:Int)==0)=decide (n=0):=by rw[Bool.eq_iff_iff];simp
theorem Agt (a b:Int):(a != b)=decide (a≠b):=by rw[Bool.eq_iff_iff];simp
theorem Ags (a b:Int):(a==b)=decide (a=b):=by rw[Bool.eq_iff_iff];simp
theorem Gi {W w1:World} (hb:Below W.heap.size W w1):(∀b o,b<W.heap.size->w1.cell? ⟨b,o,none⟩=W.cell? ⟨b,o,none⟩)/\(∀b o,b<W.heap.size->w1.frozen? ⟨b,o,none⟩=W.frozen? ⟨b,o,none⟩):=
 ⟨fun b o h=>hb.cell (p:=⟨b,o,none⟩) h,fun b o h=>hb.frozen (p:=⟨b,o,none⟩) h⟩
end Go.Proofs.YtnkmhaachfgaoaaGreatDoor
namespace Go.Proofs.YtnkmhaachfgaoaaGreatDoor
end Go.Proofs.YtnkmhaachfgaoaaGreatDoor
namespace Go.Proofs.YtnkmhaachfgaoaaGreatDoor
open Go Go.RowKit
theorem Abz {w:World} {B n c:Nat} {l:List (ByteArray×Val)} {a:Option Addr} (h:Ae w B (.row 7 (dO l)) [.slice a n c]) {q:Nat} {key:ByteArray} {k':Int} {b':Bool} {n':Int} {t':ByteArray} {l':List Val} {o':List (ByteArray×Val)} (hi:l[q]? =some (key,.mk k' b' n' t' l' o')):
 ∃g off,a=some ⟨g,off,none⟩/\g<B/\ ∃la lc oa oc,Ae w B (dV (.mk k' b' n' t' l' o')) [.int .i64 k',.bool b',.int .i64 n',.string t',.slice la l'.length lc,.slice oa o'.length oc]/\
  w.cell? ⟨g,off+q*7,none⟩=some (.string key)/\w.cell? ⟨g,off+q*7+1,none⟩=some (.int .i64 k')/\w.cell? ⟨g,off+q*7+2,none⟩=some (.bool b')/\
  w.cell? ⟨g,off+q*7+3,none⟩=some (.int .i64 n')/\w.cell? ⟨g,off+q*7+4,none⟩=some (.string t')/\w.cell? ⟨g,off+q*7+5,none⟩=some (.slice la l'.length lc)/\w.cell? ⟨g,off+q*7+6,none⟩=some (.slice oa o'.length oc):=by
 obtain⟨g,off,ea,hg,cs,h1,_,h3⟩:=h.at_ (i:=q) (d:=dP (key,.mk k' b' n' t' l' o')) (by rw[Bi,List.getElem?_map,hi];rfl);unfold dP at h1;simp only[Ae]at h1;obtain⟨_,_,rfl,⟨rfl,_⟩,cv,_,rfl,h4,rfl⟩:=h1;have h6:=Bp _ _ h4;simp only[Ab]at h6;obtain⟨la,lc,oa,oc,rfl,_,_⟩:=h6;exact⟨g,off,ea,hg,la,lc,oa,oc,h4,h3 0 _ rfl,h3 1 _ rfl,h3 2 _ rfl,h3 3 _ rfl,h3 4 _ rfl,h3 5 _ rfl,h3 6 _ rfl⟩
theorem Aer {key:ByteArray} {v:Val} (w:World) (B:Nat) (cs:List Value) (h:Ae w B (dP (key,v)) cs):cs[0]? =some (.string key):=by
 unfold dP at h;simp only[Ae]at h;obtain⟨_,_,rfl,⟨rfl,_⟩,_⟩:=h;rfl
theorem Aif {key:ByteArray} {v:Val} {w:World} {B:Nat} {u:Value} {cs:List Value} (h:Ae w B (dP (key,v)) (u::cs)):Ae w B (dV v) cs:=by
 unfold dP at h;simp only[Ae]at h;obtain⟨_,_,e,⟨rfl,_⟩,cv,_,rfl,h4,rfl⟩:=h;simp only[List.cons_append,List.nil_append,List.append_nil,List.cons.injEq]at e;rw[e.2];exact h4
section
variable {P:Program}
theorem Ed (w:World) (dT sT ty elem:TypeId) (s g o dLen dCap:Nat) (a:Addr) (sLen sCap:Nat) (cur:Array Value) (t:TypeId) (cs:List Value)
 (hu:P.underlying dT=some (.slice elem)) (hs:(P.info? elem).map (·.size)=some s)
 (hg:w.heap[g]? =some (.cells cur t (0,0))) (hn:cs.length=Nat.min sLen dLen*s)
 (hsrc: ∀j v,cs[j]? =some v->w.cell? (a.add j)=some v) (hfit:o+cs.length<=cur.size) (h1: ∀v ∈ cs,v.oneCell'=true):
 (Builtin.copy_ #[dT,sT] ty #[.slice (some ⟨g,o,none⟩) dLen dCap,.slice (some a) sLen sCap]).run P w=
   .ok (goInt (Nat.min sLen dLen)) (w.setRow g (cur.toList.take o++cs++cur.toList.drop (o+cs.length)).toArray):=by
 have hl:=run_loadCells_list (P:=P) w a cs hsrc;have hst:=run_storeCells_at P g o t cs 0 cur w hg (by simpa using hfit) h1
 cases hq:P.info? elem with
 |none=>simp[hq]at hs
 |some i=>
  have hi:i.size=s:=by simpa[hq]using hs
  subst hi;simp only[Nat.add_zero]at hst;simp[Builtin.copy_,run_underlying hu,Builtin.lenOf,Builtin.firstCells,sizeOf,typeInfo,hq,<-hn,hl,hst]
end
theorem M6 {w:World} {b g n cap s:Nat} {e:TypeId} {cur:Array Value} {xs:List Value} (hb:b<=g) (hg:w.heap[g]? =some (.cells cur e (0,0))) (hnc:n<=cap) (hm:cap<=maxLen) (hs:cur.size=cap*s) (hx:cur.toList.take (n*s)=xs):w.ownsRow b e s (.slice (some ⟨g,0,none⟩) n cap) n xs:=by
 refine⟨?_,.inr ⟨g,cap,cur,rfl,hb,hg,hnc,hm,hs,hx⟩⟩;have:n*s<=cap*s:=Nat.mul_le_mul_right _ hnc;rw[<-hx,List.length_take,Array.length_toList,hs];omega
theorem Lt {B g:Nat} {w0 w:World} (h:Below B w0 w) (hg:B<=g) (cs:Array Value):Below B w0 (w.setRow g cs):=⟨h.os,h.tape,h.output,by rw[size_setRow];exact h.size,fun k hk=>(setRow_other _ _ _ _ (by omega)).trans (h.block k hk)⟩
theorem To {w:World} {g:Nat} (cur:Array Value):w.grownBy (w.setRow g cur) (some g):=⟨rfl,rfl,rfl,by simp,fun k _ h=>setRow_other _ _ _ _ fun e=>h (by rw[e])⟩
theorem Pc {w w1 w2:World} {r:Option Nat} (h:w.grownBy w1 r) (k:w1.grownBy w2 r):w.grownBy w2 r:=
 ⟨k.os.trans h.os,k.tape.trans h.tape,k.output.trans h.output,Nat.le_trans h.size k.size,fun i hi hr=>(k.block i (Nat.lt_of_lt_of_le hi h.size) hr).trans (h.block i hi hr)⟩
theorem Gv {w w1:World} {r:Option Nat} (h:Below w.heap.size w w1):w.grownBy w1 r:=⟨h.os,h.tape,h.output,h.size,fun i hi _=>h.block i hi⟩
theorem R3 {α:Type} (A M Z:List α) (y z:List α) (p q:Nat) (hA:A.length=p) (hM:M.length=y.length+z.length) (hq:q=p+y.length):
 (((A++M++Z).take p++y++(A++M++Z).drop (p+y.length)).take q++z++((A++M++Z).take p++y++(A++M++Z).drop (p+y.length)).drop (q+z.length))=A++y++z++Z:=by
 subst hA hq;have e1:(A++M++Z).take A.length=A:=by rw[List.append_assoc,List.take_left'];rfl
 have e2:(A++M++Z).drop (A.length+y.length)=M.drop y.length++Z:=by
  rw[List.append_assoc,List.drop_append,List.drop_eq_nil_of_le (by omega),List.nil_append,show A.length+y.length - A.length=y.length by omega,List.drop_append_of_le_length (by omega)]
 rw[e1,e2];have e3:(A++y++(M.drop y.length++Z)).take (A.length+y.length)=A++y:=by rw[List.take_left'];simp
 have e4:(A++y++(M.drop y.length++Z)).drop (A.length+y.length+z.length)=Z:=by
  rw[<-List.append_assoc,List.drop_left'];simp;omega
 rw[e3,e4]
section
variable {P:Program} {md:Region.Mode} {ops:Array Oper} {Q:Exit->Act->World->Prop} {S:World->Prop}
theorem tkN (i:Nat) {oi:Oper} {fuel:Nat} {listed:Array Bool} {a a':Act} {w:World} (hS:S w) (h:wpAnyH P md ops Q S fuel (listed.setIfInBounds i true) a' w)
 (hi:ops[i]? =some oi:=by rfl) (hs:Region.noSelect ops=true:=by kernel_rfl) (hf:Region.free md ops listed i=true:=by kernel_rfl) (hr:(Region.ready md ops listed).contains i=true:=by kernel_rfl)
 (hQ: ∀c a w,Q (.panic c) (a.put oi.dst undef) w->Q (.panic c) a w:=by exact fun _ _ _ h=>h) (hw:Region.wanted oi (yielded ops a.tmps)=false:=by kernel_rfl)
 (hn:a.put oi.dst undef=a':=by((try simp only[Act.put,tk1,tk2,tk3,tk4,tk5,tk6]);exact rfl)):wpAnyH P md ops Q S (fuel+1) listed a w:=
 wpAnyH_take hi hs hf hr hQ (Or.inr ⟨hw,rfl⟩) hS (hn▸h)
end
end Go.Proofs.YtnkmhaachfgaoaaGreatDoor
namespace Go.Proofs.YtnkmhaachfgaoaaGreatDoor
theorem Aih (l:List UInt8) (k:Nat):((ByteArray.mk l.toArray).get! k)=l.getD k 0:=by
 show l.toArray[k]! =l.getD k 0;rw[getElem!_def];simp only[List.getElem?_toArray,List.getD_eq_getElem?_getD]
 cases l[k]? <;>rfl
theorem Kf (l:List UInt8):Lib.decodeL l=Lib.decodeN l.length (l.getD 0 0).toNat (l.getD 1 0).toNat (l.getD 2 0).toNat (l.getD 3 0).toNat:=by
 unfold Lib.decodeL;rw[Lib.decode_at];simp only[Nat.sub_zero,Nat.zero_add,Aih];rfl
theorem Ec (l:List UInt8) (r:Int):Ci l 0 r=some r:=by cases l<;>rfl
def Ij (l:List UInt8):Prop:=
 Ff l=if(Lib.decodeL l).1=65533/\(Lib.decodeL l).2=1 then(0,0)else(((Lib.decodeL l).1:Int),((Lib.decodeL l).2:Int))
theorem L3 {a b c d:Int} (h:a=c) (k:b=d):(a,b)=(c,d):=by rw[h,k]
theorem Wn (a:UInt8):Ij [a]:=by
 unfold Ij;rw[Kf];have ha:=a.toNat_lt;simp only[Fo,Br,List.length_nil,List.length_cons,List.getD_cons_zero,Nat.zero_add];generalize a.toNat=x at ha ⊢;unfold Lib.decodeN;simp only[Nat.lt_irrefl,false_and,and_false,if_false]
 repeat' split
 all_goals first|rfl|(exfalso;omega)|(simp_all;done)|(simp_all;omega)
theorem Wo (a b:UInt8):Ij [a,b]:=by
 unfold Ij;rw[Kf];have ha:=a.toNat_lt;have hb:=b.toNat_lt;simp only[Fo,Br,List.length_nil,List.length_cons,List.getD_cons_zero,List.getD_cons_succ,Nat.zero_add,Nat.reduceAdd,Nat.reduceLT,if_false,if_true,Nat.reduceSub];rw[show Ci [b] 1 ((a.toNat:Int) - 192)=_ from Bk b [] 0 _,Ec];generalize a.toNat=x at ha ⊢;generalize b.toNat=y at hb ⊢;unfold Lib.decodeN Cz;simp only[Nat.lt_irrefl,false_and,and_false,if_false]
 repeat' split
 all_goals first|rfl|(exfalso;omega)|(apply L3<;>omega)|(simp_all;done)|(simp_all;omega)
theorem Wp (a b c:UInt8):Ij [a,b,c]:=by
 unfold Ij;rw[Kf];have ha:=a.toNat_lt;have hb:=b.toNat_lt;have hc:=c.toNat_lt;simp only[Fo,Br,List.length_nil,List.length_cons,List.getD_cons_zero,List.getD_cons_succ,Nat.zero_add,Nat.reduceAdd,Nat.reduceLT,if_false,if_true,Nat.reduceSub];rw[show Ci [b,c] 1 ((a.toNat:Int) - 192)=_ from Bk b [c] 0 _,Ec,
  show Ci [b,c] 2 ((a.toNat:Int) - 224)=_ from Bk b [c] 1 _,show Ci [c] 1 (64*((a.toNat:Int) - 224)+b.toNat - 128)=_ from Bk c [] 0 _,Ec]
 generalize a.toNat=x at ha ⊢;generalize b.toNat=y at hb ⊢;generalize c.toNat=z at hc ⊢;unfold Lib.decodeN Cz;simp only[Nat.lt_irrefl,false_and,and_false,if_false]
 repeat' split
 all_goals first|rfl|(exfalso;omega)|(apply L3<;>omega)|(simp_all;done)|(simp_all;omega)
theorem Wq (a b c d:UInt8) (r:List UInt8):Ij (a::b::c::d::r):=by
 unfold Ij;rw[Kf];have ha:=a.toNat_lt;have hb:=b.toNat_lt;have hc:=c.toNat_lt;have hd:=d.toNat_lt;rw[Fo];have l2: ¬(b::c::d::r).length+1<2:=by simp
 have l3: ¬(b::c::d::r).length+1<3:=by simp
 have l4: ¬(b::c::d::r).length+1<4:=by simp
 have e2:Br (b::c::d::r) 2 ((a.toNat:Int) - 192) 128=Cz (if(b.toNat:Int)<128\/192<=(b.toNat:Int)then none else some (64*((a.toNat:Int) - 192)+b.toNat - 128)) 2 128:=by
  unfold Br;rw[if_neg l2,show(2 - 1:Nat)=0+1 from rfl,Bk,Ec]
 have e3:Br (b::c::d::r) 3 ((a.toNat:Int) - 224) 2048=Cz (if(b.toNat:Int)<128\/192<=(b.toNat:Int)then none else if(c.toNat:Int)<128\/192<=(c.toNat:Int)then none else some (64*(64*((a.toNat:Int) - 224)+b.toNat - 128)+c.toNat - 128)) 3 2048:=by
  unfold Br;rw[if_neg l3,show(3 - 1:Nat)=1+1 from rfl,Bk,show(1:Nat)=0+1 from rfl,Bk,Ec]
 have e4:Br (b::c::d::r) 4 ((a.toNat:Int) - 240) 65536=Cz (if(b.toNat:Int)<128\/192<=(b.toNat:Int)then none else if(c.toNat:Int)<128\/192<=(c.toNat:Int)then none else if(d.toNat:Int)<128\/192<=(d.toNat:Int)then none else some (64*(64*(64*((a.toNat:Int) - 240)+b.toNat - 128)+c.toNat - 128)+d.toNat - 128)) 4 65536:=by
  unfold Br;rw[if_neg l4,show(4 - 1:Nat)=2+1 from rfl,Bk,show(2:Nat)=1+1 from rfl,Bk,show(1:Nat)=0+1 from rfl,Bk,Ec]
 rw[e2,e3,e4];clear e2 e3 e4 l2 l3 l4;have hl:3<(a::b::c::d::r).length:=by simp
 generalize (a::b::c::d::r).length=n at hl;simp only[List.getD_cons_zero,List.getD_cons_succ];generalize a.toNat=x at ha ⊢;generalize b.toNat=y at hb ⊢;generalize c.toNat=z at hc ⊢;generalize d.toNat=u at hd ⊢;unfold Lib.decodeN;by_cases b1:(y:Int)<128\/192<=(y:Int)
 . simp only[if_pos b1];unfold Cz
   repeat' split
   all_goals first|rfl|(exfalso;omega)|(apply L3<;>omega)|(simp_all;done)|(simp_all;omega)
 simp only[if_neg b1];by_cases b2:(z:Int)<128\/192<=(z:Int)
 . simp only[if_pos b2];unfold Cz
   repeat' split
   all_goals first|rfl|(exfalso;omega)|(apply L3<;>omega)|(simp_all;done)|(simp_all;omega)
 simp only[if_neg b2];by_cases b3:(u:Int)<128\/192<=(u:Int)
 . simp only[if_pos b3];unfold Cz
   repeat' split
   all_goals first|rfl|(exfalso;omega)|(apply L3<;>omega)|(simp_all;done)|(simp_all;omega)
 simp only[if_neg b3];unfold Cz
 repeat' split
 all_goals first|rfl|(exfalso;omega)|(apply L3<;>omega)|(simp_all;done)|(simp_all;omega)
theorem Qp (l:List UInt8) (h:l≠ []):Ij l:=
 match l,h with
 | [a],_=>Wn a
 | [a,b],_=>Wo a b
 | [a,b,c],_=>Wp a b c
 |a::b::c::d::r,_=>Wq a b c d r
end Go.Proofs.YtnkmhaachfgaoaaGreatDoor
namespace Go.Proofs.YtnkmhaachfgaoaaGreatDoor
open Go.RowKit
theorem Ml: ∀(n m:Nat) (l:List UInt8),l.length<=n->l.length<=m->Lib.validGoD n l=Lib.validGoD m l
 |0,m,l,hn,hm=>by
  obtain rfl:l= []:=List.eq_nil_of_length_eq_zero (by omega)
  cases m<;>simp[Lib.validGoD]
 |n+1,0,l,hn,hm=>by
  obtain rfl:l= []:=List.eq_nil_of_length_eq_zero (by omega);simp[Lib.validGoD]
 |n+1,m+1,l,hn,hm=>by
  simp only[Lib.validGoD];by_cases h:l= []
  . simp[h]
  . rw[if_neg h,if_neg h]
    split
    . rfl
    . have hw:=Lib.decodeL_width l;have hl:0<l.length:=List.length_pos_iff.2 h;exact Ml n m _ (by rw[List.length_drop];omega) (by rw[List.length_drop];omega)
theorem Y6 {l:List UInt8} (h:l≠ []):Lib.validD l=if(Lib.decodeL l).1=65533/\(Lib.decodeL l).2=1 then false else Lib.validD (l.drop (Lib.decodeL l).2):=by
 have hw:=Lib.decodeL_width l;have hl:0<l.length:=List.length_pos_iff.2 h;unfold Lib.validD;obtain⟨n,hn⟩: ∃n,l.length=n+1:=⟨l.length - 1,by omega⟩;rw[hn];simp only[Lib.validGoD];rw[if_neg h]
 split
 . rfl
 . exact Ml _ _ _ (by rw[List.length_drop];omega) (Nat.le_refl _)
theorem Adv {l:List UInt8} (h:l≠ []):((Ff l).2=0/\Lib.validD l=false)\/(∃n:Nat,(Ff l).2=(n:Int)/\1<=n/\n<=l.length/\Lib.validD l=Lib.validD (l.drop n)):=by
 have hg:=Qp l h;unfold Ij at hg;rw[Y6 h];by_cases hb:(Lib.decodeL l).1=65533/\(Lib.decodeL l).2=1
 . rw[if_pos hb]at hg ⊢;rw[hg];exact .inl ⟨rfl,rfl⟩
 . rw[if_neg hb]at hg ⊢;rw[hg];have hw:=Lib.decodeL_width l;exact .inr ⟨(Lib.decodeL l).2,rfl,hw,Lib.decodeL_le l h,rfl⟩
theorem Nm (s:ByteArray) (w:World) (hs:s.size<=1000000000):
 Calls Tryz.prog 65 #[.string s] w fun e w'=>e=.returned (.bool (A4 s))/\w=w':=by
 obtain⟨V,hV⟩: ∃V,A4 s=V:=⟨_,rfl⟩;rw[hV];have H0:=qz hV;clear hV;go_enter Tryz.func65,Tryz.ntmps65;go_wp2
 go_loop [3] (fun i=> ∃k:Nat,k<=s.size/\i=.int .i64 k/\Hid (Lib.validD (s.data.toList.drop k)=V)) (fun i=>s.size - (intOf i).toNat)
 case atStart=>exact⟨0,Nat.zero_le _,rfl,H0⟩
 case round=>
  obtain⟨k,hk,rfl,hf⟩:=hrel;clear H0;by_cases hlt:k<s.size
  . have hne:s.data.toList.drop k≠ []:=by
     intro e;have:=congrArg List.length e;rw[List.length_drop,<-Lib.size_eq]at this;simp at this;omega
    have hA:=Wd s k w (by omega) (by omega);rcases Adv hne with⟨h0,hv⟩|⟨n,hn,hn1,hn2,hv⟩
    . have hf':=hf.out;rw[hv]at hf';subst hf';rw[h0]at hA;generalize (Ff (s.data.toList.drop k)).1=R at hA;have HA:=qz hA;clear hA h0 hv hne hf;go_wp2_with (go_at_call 107;refine(HA.out).mono ?_;rintro e w' ⟨rfl,rfl⟩);go_ret;exact⟨rfl,rfl⟩
    . have hf':=hf.out;rw[hv,List.drop_drop]at hf';have Hf:=qz hf';rw[hn]at hA;rw[List.length_drop,<-Lib.size_eq]at hn2;generalize (Ff (s.data.toList.drop k)).1=R at hA;have HA:=qz hA;clear hA hn hv hne hf hf';have e0:((n:Int)==0)=false:=by simp;omega
      go_wp2_with (go_at_call 107;refine(HA.out).mono ?_;rintro e w' ⟨rfl,rfl⟩)
      go_round
      case rel=>exact⟨k+n,by omega,by go_num,Hf⟩
      case measure=>simp[intOf];omega
  . obtain rfl:k=s.size:=by omega
    have hf':=hf.out;rw[List.drop_eq_nil_of_le (by rw[<-Lib.size_eq];omega)]at hf';have:V=true:=by rw[<-hf'];rfl
    subst this;clear hf hf';go_wp2;go_ret;exact⟨rfl,rfl⟩
def Jk (k:Int) (b:Bool) (n:Int) (t:ByteArray) (ln on:Nat):Bool:=decide (k=0)&& !b&&decide (n=0)&&t.toList.isEmpty&&decide (ln=0)&&decide (on=0)
structure KB (S:Nat->Prop) (w w':World):Prop where
 os:w'.os=w.os
 tape:w'.tape=w.tape
 output:w'.output=w.output
 size:w.heap.size<=w'.heap.size
 block: ∀k,k<w.heap.size-> ¬S k->w'.heap[k]? =w.heap[k]?
theorem KB.trans {S T:Nat->Prop} {w w1 w2:World} (h:KB S w w1) (h':KB T w1 w2) (hT: ∀k,k<w.heap.size->T k->S k):KB S w w2:=
 ⟨h'.os.trans h.os,h'.tape.trans h.tape,h'.output.trans h.output,Nat.le_trans h.size h'.size,fun k h1 h2=>(h'.block k (Nat.lt_of_lt_of_le h1 h.size) fun h3=>h2 (hT k h1 h3)).trans (h.block k h1 h2)⟩
theorem KB.of_below {S:Nat->Prop} {w w':World} (h:Below w.heap.size w w'):KB S w w':=⟨h.os,h.tape,h.output,h.size,fun k h1 _=>h.block k h1⟩
theorem KB.of_grown {S:Nat->Prop} {w w':World} {r:Option Nat} (h:w.grownBy w' r) (hr: ∀k,r=some k->S k):KB S w w':=⟨h.os,h.tape,h.output,h.size,fun k h1 h2=>h.block k h1 fun e=>h2 (hr k e.symm)⟩
theorem KB.set {S:Nat->Prop} (w:World) (p:Addr) (hp:S p.block) (v:Value):KB S w (w.setCell p v):=⟨rfl,rfl,rfl,by simp[World.setCell],fun k _ h2=>Below.heap_setCell _ _ _ _ (fun e=>h2 (e▸hp))⟩
theorem KB.below {S:Nat->Prop} {w w':World} {B:Nat} (h:KB S w w') (hS: ∀k,S k->B<=k) (hB:B<=w.heap.size):Below B w w':=⟨h.os,h.tape,h.output,h.size,fun k h1=>h.block k (Nat.lt_of_lt_of_le h1 hB) fun h2=>Nat.lt_irrefl _ (Nat.lt_of_lt_of_le h1 (hS k h2))⟩
theorem Ah.kb {S:Nat->Prop} {w w':World} {g:Nat} {t:TypeId} {cs:Array Value} (hx:Ah w g t cs) (h:KB S w w') (hn: ¬S g):Ah w' g t cs:=(h.block g hx.lt hn).trans hx
inductive Rd (α:Type) where
 |ok (a:α) (q:Nat)
 |bad (e:Int) (q:Nat)
def Qg (c:UInt8):Bool:=c==9||c==10||c==13||c==32
def blanks:List UInt8->Nat
 | []=>0
 |c::r=>if Qg c=true then blanks r+1 else 0
def De (s:List UInt8) (p:Nat):Nat:=p+blanks (s.drop p)
theorem Agy {s:List UInt8} {p:Nat} {c:UInt8} (h:s[p]? =some c):s.drop p=c::s.drop (p+1):=by
 obtain⟨hlt,rfl⟩:=List.getElem?_eq_some_iff.1 h;exact List.drop_eq_getElem_cons hlt
theorem Ada {s:List UInt8} {p:Nat} {c:UInt8} (h:s[p]? =some c) (hb:Qg c=true):De s p=De s (p+1):=by
 unfold De;rw[Agy h,blanks,if_pos hb];omega
def Abv (c:UInt8):Bool:=decide (48<=c.toNat/\c.toNat<=57)
def Ai3:List UInt8->Nat
 | []=>0
 |c::r=>if Abv c=true then Ai3 r+1 else 0
def Us (s:List UInt8) (p:Nat):Nat:=p+Ai3 (s.drop p)
def Aj0 (l:List UInt8):Nat:=l.foldl (fun a c=>a*10+(c.toNat - 48)) 0
def Aiq (neg:Bool) (m p q:Nat):Rd Int:=
 if neg=true then(if m=0\/9223372036854775808<m then .bad 7 p else .ok (-(m:Int)) q)else if 9223372036854775807<m then .bad 7 p else .ok (m:Int) q
def Aha (s:List UInt8) (p f:Nat):Rd Int:=
 if Us s f=f then .bad 4 f
 else if s[f]? =some 48/\f+1<Us s f then .bad 4 (f+1)
 else Aiq (decide (s[p]? =some 45)) (Aj0 ((s.drop f).take (Us s f - f))) p (Us s f)
def Afq (s:List UInt8) (p:Nat):Rd Int:=Aha s p (if s[p]? =some 45 then p+1 else p)
def Aj3 (c:UInt8):Option Nat:=
 if 48<=c.toNat/\c.toNat<=57 then some (c.toNat - 48)else if 97<=c.toNat/\c.toNat<=102 then some (c.toNat - 87)else if 65<=c.toNat/\c.toNat<=70 then some (c.toNat - 55)else none
def Ai5:List UInt8->Nat->Nat->Option Nat
 |_,0,n=>some n
 | [],_+1,_=>none
 |c::l,k+1,n=>match Aj3 c with
  |none=>none
  |some d=>Ai5 l k (16*n+d)
def Ah2 (l:List UInt8):Option Nat:=if l.length<6\/l[0]? ≠some 92\/l[1]? ≠some 117 then none else Ai5 (l.drop 2) 4 0
def Aig (c:UInt8):Option Nat:=
 if c=34 then some 34 else if c=92 then some 92 else if c=47 then some 47 else if c=98 then some 8 else if c=102 then some 12 else if c=110 then some 10 else if c=114 then some 13 else if c=116 then some 9 else none
def Ajn (r:Nat) (l:List UInt8):Rd Nat:=
 if r<55296\/57344<=r then .ok r 6
 else if 56320<=r then .bad 3 0
 else match Ah2 l with
  |none=> .bad 3 0
  |some m=>if m<56320\/57344<=m then .bad 3 0 else .ok (65536+1024*(r - 55296)+(m - 56320)) 12
def Aj7 (l:List UInt8):Rd Nat:=match l[1]? with
 |none=> .bad 4 0
 |some c=>match Aig c with
  |none=> .bad 4 0
  |some r=> .ok r 2
def Aj1 (l:List UInt8):Rd Nat:=match Ah2 l with
 |some r=>Ajn r (l.drop 6)
 |none=>Aj7 l
def Aiy:Nat->List UInt8->Nat->List UInt8->Rd (List UInt8)
 |0,_,i,_=> .bad 4 i
 |f+1,s,i,out=>match s[i]? with
  |none=> .bad 4 i
  |some c=>
   if c=34 then .ok out (i+1)
   else if c.toNat<32 then .bad 4 i
   else if c=92 then(match Aj1 (s.drop i)with
    | .bad e _=> .bad e i
    | .ok r n=>Aiy f s (i+n) (out++Lib.encodeRune (r:Int)))
   else if(Lib.decodeL (s.drop i)).1=65533/\(Lib.decodeL (s.drop i)).2=1 then .bad 3 i
   else Aiy f s (i+(Lib.decodeL (s.drop i)).2) (out++(s.drop i).take (Lib.decodeL (s.drop i)).2)
def Ah3 (s:List UInt8) (p:Nat):Rd (List UInt8):=if s[p]? =some 34 then Aiy (s.length - p) s (p+1) []else .bad 4 p
def Rd.within {α:Type} (p n:Nat):Rd α->Prop
 | .ok _ q=>p<q/\q<=n
 | .bad e q=>p<=q/\q<=n/\1<=e/\e<=18
def Ov:ByteArray:=⟨#[]⟩
def Ajk:Val:=.mk 1 false 0 Ov [] []
def Ahw (b:Bool):Val:=.mk 2 b 0 Ov [] []
def Aj5 (n:Int):Val:=.mk 3 false n Ov [] []
def Akk (l:List UInt8):Val:=.mk 4 false 0 ⟨l.toArray⟩ [] []
def Ajg (l:List Val):Val:=.mk 5 false 0 Ov l []
def Ajl (o:List (ByteArray×Val)):Val:=.mk 6 false 0 Ov [] o
def Rd.map {α β:Type} (g:α->β):Rd α->Rd β
 | .ok a q=> .ok (g a) q
 | .bad e q=> .bad e q
def Abd (s:List UInt8) (p:Nat) (w:List UInt8) (v:Val):Rd Val:=if w.isPrefixOf (s.drop p)=true then .ok v (p+w.length)else .bad 4 p
def Ajq (l:List (ByteArray×Val)):List (ByteArray×Val):=(Dn l []).getD []
def Aj2 (k:ByteArray) (l:List (ByteArray×Val)):Bool:=l.any fun m=>decide (m.1=k)
def Ahq (c:UInt8):Bool:=Abv c||c==45||c==34||c==91||c==123||c==110||c==116||c==102
mutual
def Nc:Nat->List UInt8->Nat->Int->Rd Val
 |0,s,p,_=> .bad 4 (De s p)
 |f+1,s,p,d=>match s[De s p]? with
  |none=> .bad 4 (De s p)
  |some c=>
   if Ahq c=false then .bad 4 (De s p)
   else if 64<d then .bad 5 (De s p)
   else if c=91 then Ajf f s (De s p) d
   else if c=123 then Akf f s (De s p) d
   else if c=34 then(Ah3 s (De s p)).map Akk
   else if c=110 then Abd s (De s p) [110,117,108,108] Ajk
   else if c=116 then Abd s (De s p) [116,114,117,101] (Ahw true)
   else if c=102 then Abd s (De s p) [102,97,108,115,101] (Ahw false)
   else(Afq s (De s p)).map Aj5
def Ajf:Nat->List UInt8->Nat->Int->Rd Val
 |0,s,p,_=> .bad 4 (De s (p+1))
 |f+1,s,p,d=>if s[De s (p+1)]? =some 93 then .ok (Ajg []) (De s (p+1)+1)else Afb f s (De s (p+1)) d []
def Akf:Nat->List UInt8->Nat->Int->Rd Val
 |0,s,p,_=> .bad 4 (De s (p+1))
 |f+1,s,p,d=>if s[De s (p+1)]? =some 125 then .ok (Ajl []) (De s (p+1)+1)else X7 f s (De s (p+1)) d []
def Afb:Nat->List UInt8->Nat->Int->List Val->Rd Val
 |0,s,p,_,_=> .bad 4 (De s p)
 |f+1,s,p,d,acc=>match Nc f s p (d+1)with
  | .bad e q=> .bad e q
  | .ok v q=>if s[De s q]? =some 44 then Afb f s (De s q+1) d (acc++ [v])else if s[De s q]? =some 93 then .ok (Ajg (acc++ [v])) (De s q+1)else .bad 4 (De s q)
def X7:Nat->List UInt8->Nat->Int->List (ByteArray×Val)->Rd Val
 |0,s,p,_,_=> .bad 4 (De s p)
 |f+1,s,p,d,acc=>match Ah3 s (De s p)with
  | .bad e q=> .bad e q
  | .ok k q=>if Aj2 ⟨k.toArray⟩ acc=true then .bad 8 (De s p)
    else if s[De s q]? =some 58 then Ag9 f s (De s q+1) d acc ⟨k.toArray⟩
    else .bad 4 (De s q)
def Ag9:Nat->List UInt8->Nat->Int->List (ByteArray×Val)->ByteArray->Rd Val
 |0,s,p,_,_,_=> .bad 4 (De s p)
 |f+1,s,p,d,acc,k=>match Nc f s p (d+1)with
  | .bad e q=> .bad e q
  | .ok v q=>if s[De s q]? =some 44 then X7 f s (De s q+1) d (acc++ [(k,v)])else if s[De s q]? =some 125 then .ok (Ajl (Ajq (acc++ [(k,v)]))) (De s q+1)else .bad 4 (De s q)
end
theorem Rd.within.from {α:Type} {p p' n:Nat} {r:Rd α} (h:r.within p' n) (hp:p<=p'):r.within p n:=by
 cases r with
 |ok a q=>exact⟨by have:=h.1;omega,h.2⟩
 |bad e q=>exact⟨by have:=h.1;omega,h.2⟩
theorem Rd.within.map {α β:Type} {g:α->β} {p n:Nat} {r:Rd α} (h:r.within p n):(r.map g).within p n:=by
 cases r<;>exact h
section
variable {P:Program} {l n:Nat} {ops:Array Oper} {Q:Exit->Act->World->Prop}
theorem Adh {row:String} {args:Array Value} {w:World} {R:Value->World->Prop} (h:Rows P row args w R):RowsIn (Fence.wide.inRound l) n P row args w R:=fun c cs _=>
 let ⟨v,w',r,s⟩:=h c cs
 ⟨v,w',r,stepsIn_wide.2 s⟩
theorem Aaw {o:Oper} {a:Act} {w:World} {K:Act->World->Prop} (hd: ∀c,o.op≠ .defer c) (h:o.wp P a w K Q):o.wpIn (Fence.wide.inRound l) n P a w K Q:=by
 refine⟨fun _ _=>trivial, ?_⟩;rw[Oper.semAt_eq _ _ _ hd];unfold Oper.wp at h;generalize (execOp a.eval o).run P w=r at h
 cases r with
 |ok x w'=>cases x<;>simp only[Oper.upon,Oper.uponIn]at h ⊢ <;>first|exact h|exact⟨fun hh=>(by simp[Fence.wide]at hh),CallsIn.inRound l (callsIn_wide.2 h)⟩|exact⟨fun hh=>(by simp[Fence.wide]at hh),Adh h⟩|exact h.elim
 |halt x w'=>cases x<;>simp only[Oper.upon,Oper.uponIn]at h ⊢ <;>exact h
theorem L0 (hd: ∀(i:Nat) o,ops[i]? =some o-> ∀c,o.op≠ .defer c) (hQ: ¬LetsOut Q): ∀(is:List Nat) (a:Act) (w:World),wpOps P ops Q is a w->wpOpsIn (Fence.wide.inRound l) n P ops Q is a w
 | [],_,_,h=>h
 |i::rest,a,w,h=>by
  simp only[wpOps]at h;simp only[wpOpsIn]
  cases ho:ops[i]? with
  |none=>
   simp only[ho]at h ⊢;exact L0 hd hQ rest a w h
  |some o=>
   simp only[ho]at h ⊢;by_cases hw:Region.wanted o (yielded ops a.tmps)=true
   . simp only[hw,if_true]at h ⊢;rcases h with h|h
     . exact Aaw (hd i o ho) (Oper.wp_mono (fun a' w' h'=>L0 hd hQ rest a' w' h') h)
     . exact absurd h.2 hQ
   . simp only[hw]at h ⊢;exact⟨fun _ _=>trivial,L0 hd hQ rest _ w h⟩
theorem Qb {id:Nat} {a:Act} {w:World} {S:World->Prop} (hm:P.follows .mixedOrders=true) (hd:(ops.toList.all fun o=>match o.op with| .defer _=>false|_=>true)=true) (hQ: ¬LetsOut Q) (hS:S w.drew)
 (h:S w.drew->wpAnyH P .any ops Q S ops.size (Array.replicate ops.size false) a w.drew):(Code.region id ops true).wpIn (Fence.wide.inRound l) n P Q a w:=
 wpIn_region_draw fun t=>by
  simp only[Region.schedule,hm,Bool.true_or,if_true];refine L0 (fun i o ho c hc=> ?_) hQ _ _ _ (wpAny_sound ops.size t _ a _ (wpAny_of_held _ _ _ _ (h hS)));have h1:=List.all_eq_true.1 hd o (by rw[<-Array.getElem?_toList]at ho;exact List.mem_of_getElem? ho);rw[hc]at h1
  cases h1
def noP (Q:Exit->Act->World->Prop) (e:Exit) (a:Act) (w:World):Prop:=
 match e with
 | .panic _=>False
 | .normal=>Q .normal a w
 | .ret=>Q .ret a w
 | .exit i=>Q (.exit i) a w
 | .goto i=>Q (.goto i) a w
 | .outgrown=>Q .outgrown a w
theorem Vz {id:Nat} {a:Act} {w:World} {S:World->Prop} (hm:P.follows .mixedOrders=true) (hS:S w.drew) (h:S w.drew->wpAnyH P .any ops (noP Q) S ops.size (Array.replicate ops.size false) a w.drew):(Code.region id ops true).wpIn Fence.wide n P Q a w:=
 wpIn_mono (wpIn_wide.2 (wp_region_held_drew hm hS h)) fun e a w hq=>by
  cases e with
  |panic c=>exact hq.elim
  |normal=>exact hq
  |ret=>exact hq
  |exit i=>exact hq
  |goto i=>exact hq
  |outgrown=>exact hq
end
abbrev Mx:Type:=ByteArray×(Val×((Option Addr×Nat)×(Option Addr×Nat)))
instance:Inhabited Val:=⟨.mk 0 false 0 ⟨#[]⟩ [] []⟩
def F4:Mx->List Value
 |(key,(.mk k b n t l o,((la,lc),(oa,oc))))=> [.string key,.int .i64 k,.bool b,.int .i64 n,.string t,.slice la l.length lc,.slice oa o.length oc]
def L7 (x:Mx):ByteArray×Val:=(x.1,x.2.1)
theorem Nt (x:Mx):(F4 x).length=7:=by
 obtain⟨key,⟨k,b,n,t,l,o⟩,⟨la,lc⟩,oa,oc⟩:=x;rfl
theorem Aew (x:Mx): ∀v ∈ F4 x,v.oneCell'=true:=by
 obtain⟨key,⟨k,b,n,t,l,o⟩,⟨la,lc⟩,oa,oc⟩:=x;intro v hv;simp only[F4,List.mem_cons,List.not_mem_nil,or_false]at hv;rcases hv with rfl|rfl|rfl|rfl|rfl|rfl|rfl<;>rfl
theorem Q1 (x:Mx):(F4 x)[0]! =.string x.1:=by
 obtain⟨key,⟨k,b,n,t,l,o⟩,⟨la,lc⟩,oa,oc⟩:=x;rfl
def ltM (x y:Mx):Bool:=Bn x.1 y.1
theorem Akj:Go.Sort.SWO ltM where
 irrefl x:=Dc _
 trans x y z h k:=Bw h k
 ntrans x y z h k:=by
  unfold ltM at*
  cases e:Bn x.1 z.1 with
  |false=>rfl
  |true=>
   rcases Fb x.1 y.1 with p|p|p
   . rw[h]at p;cases p
   . rw[p]at e;rw[k]at e;cases e
   . have:=Bw p e;rw[k]at this;cases this
theorem Ajd (blk off c Bs size:Nat) (W:World) (G:Nat->ByteArray) (hs:W.cell? ⟨Bs,0,none⟩=some (.slice (some ⟨blk,off,none⟩) size c))
 (hc: ∀t,t<size->W.cell? ⟨blk,off+t*7,none⟩=some (.string (G t))) (i j:Nat) (hi:i<size) (hj:j<size) (_hsz:size<4611686018427387904):
 Calls Tryz.prog 202 #[.int .i64 i,.int .i64 j,.pointer (some ⟨Bs,0,none⟩)] W fun e w'=>e=.returned (.bool (Bn (G i) (G j)))/\ ∃q,w'=W.drewN q:=by
 have ci:=hc i hi;have cj:=hc j hj;clear hc;have i1:(i:Int)<(size:Int):=by omega
 have j1:(j:Int)<(size:Int):=by omega
 go_enter Tryz.func202,Tryz.ntmps202;go_wp2;go_quiet (fail);go_wp2;go_ret;exact⟨rfl,nq,rfl⟩
noncomputable def Ah1:TypeInfo:=(Tryz.prog.info? 38).get (by kernel_rfl)
noncomputable def T8:TypeInfo:=(Tryz.prog.info? 94).get (by kernel_rfl)
theorem Ajp (n:Nat) (h2:2<=n):Lib.swapperK n T8 25=9:=by
 have a:T8.hasPointers=true:=by kernel_rfl
 have b:T8.bytes=104:=by kernel_rfl
 have c:(n==0)=false:=by simp;omega
 have d:(n==1)=false:=by simp;omega
 simp[Lib.swapperK,a,b,c,d]
def Ad8 (w:World) (blk:Nat) (d:Array Mx) (e:Ending) (w':World):Prop:=e=.returned (.tuple #[])/\ ∃d':Array Mx,d'.size=d.size/\d'.toList.Perm d.toList/\Go.Sort.SortedIn ltM 0 d.size d'/\
 (∀i,i<d.size-> ∀j,j<7->w'.cell? ⟨blk,i*7+j,none⟩=some (F4 d'[i]!)[j]!)/\(∀b,b<w.heap.size->b≠blk->w'.heap[b]? =w.heap[b]?)/\w.heap.size<=w'.heap.size/\w'.os=w.os/\w'.tape=w.tape/\w'.output=w.output
theorem Aa5 (blk c Bs:Nat) (d:Array Mx) (h2:2<=d.size) (hsz:d.size<4611686018427387904) (w:World) (hH:Go.Sort.HoldsK F4 7 w blk 0 d) (hblk:blk<w.heap.size)
 (hBs:w.cell? ⟨Bs,0,none⟩=some (.slice (some ⟨blk,0,none⟩) d.size c)) (hB1:Bs<w.heap.size) (hB2:Bs≠blk):
 Calls Tryz.prog 201 #[.iface 38 (.slice (some ⟨blk,0,none⟩) d.size c),.func (.func 202) #[] #[.pointer (some ⟨Bs,0,none⟩)]] w (Ad8 w blk d):=by
 have hless:LessReadsK Tryz.prog 202 #[.pointer (some ⟨Bs,0,none⟩)] F4 7 ltM blk 0 d.size w:=by
  intro m os dk hs i j hi hj;have e:sortWorldK F4 7 w blk 0 m dk os=Go.Sort.putRowK F4 7 (Go.Sort.grow (Go.Sort.ahead w m) os) blk 0 dk:=by
   unfold sortWorldK;rw[Go.Sort.putRowK_grow _ _ (Go.Sort.ahead w m) _ blk 0 _ hblk]
  have hHg:Go.Sort.HoldsK F4 7 (Go.Sort.grow (Go.Sort.ahead w m) os) blk 0 d:=Go.Sort.holdsK_grow _ _ _ _ blk 0 d hblk (Go.Sort.holdsK_ahead _ _ _ _ _ _ _ hH);refine Ajd blk 0 c Bs d.size _ (fun t=>dk[t]!.1) ?_ (fun t ht=> ?_) i j hi hj (by omega)
  . rw[e,Go.Sort.cell?_putRowK_other _ _ _ blk 0 dk _ (by exact hB2),Go.Sort.cell?_grow _ _ _ (by exact hB1)];exact hBs
  . rw[e,<-Q1];exact((Go.Sort.holdsK_putRowK _ _ _ blk 0 d dk hHg hs).cell (i:=t) (c:=0) (by omega) (by omega)).1
 have hS:=Any.sort_Slice_cells_sorted Tryz.sortSlice_lays 38 94 Ah1 T8 (by kernel_rfl) (by kernel_rfl) (by kernel_rfl) (by kernel_rfl) 25 (fun _=>by kernel_rfl) F4 7 Nt (by kernel_rfl) (fun _=>by kernel_rfl)
  Aew ltM Akj 202 _
  (enters_of Tryz.func202 (by kernel_rfl) rfl) blk 0 c d h2 hsz 254 (by rw[Ajp _ h2];kernel_rfl) false
  (fun args W=>run_callFunc_extern Tryz.func254 (by kernel_rfl) (by kernel_rfl) (by kernel_rfl) (e:=Extern.ReflectliteSwapper.swap false) (by kernel_rfl) args W) w hless hH hblk
 change Calls Tryz.prog 201 _ _ _ at hS;refine hS.mono ?_;rintro e w' ⟨rfl,d',n,os,⟨hs',_,hp⟩,hso,rfl⟩;have hp':d'.toList.Perm d.toList:=by
  have e1:d'.extract 0 d.size=d':=by rw[<-hs'];simp
  have e2:d.extract 0 d.size=d:=by simp
  rwa [e1,e2]at hp
 have hH2:Go.Sort.HoldsK F4 7 (Go.Sort.putRowK F4 7 (Go.Sort.ahead w n) blk 0 d') blk 0 d':=Go.Sort.holdsK_putRowK _ _ _ blk 0 d d' (Go.Sort.holdsK_ahead _ _ _ _ _ _ _ hH) hs';have hsize:(Go.Sort.putRowK F4 7 (Go.Sort.ahead w n) blk 0 d').heap.size=w.heap.size:=by
  simp[Go.Sort.putRowK,Go.Sort.putRow,Go.Sort.mapBlock,Go.Sort.ahead]
 refine⟨rfl,d',hs',hp',hso,fun i hi j hj=> ?_,fun b hb hne=> ?_,by rw[Go.Sort.size_grow,hsize];omega,rfl,rfl,rfl⟩
 . rw[Go.Sort.cell?_grow _ _ _ (by show blk<_;rw[hsize];exact hblk)];have:=(hH2.cell (i:=i) (c:=j) (by omega) hj).1
   rwa [Nat.zero_add]at this
 . show((Go.Sort.putRowK F4 7 (Go.Sort.ahead w n) blk 0 d').heap++os)[b]? =_;rw[Array.getElem?_append_left (by rw[hsize];exact hb)];simp only[Go.Sort.putRowK,Go.Sort.putRow,Go.Sort.mapBlock,Go.Sort.ahead,Array.getElem?_modify];rw[if_neg (fun e=>hne e.symm)]
theorem Adn (p:Option Addr) (n c Bs:Nat) (h1:n<=1) (w:World):
 Calls Tryz.prog 201 #[.iface 38 (.slice p n c),.func (.func 202) #[] #[.pointer (some ⟨Bs,0,none⟩)]] w fun e w'=>e=.returned (.tuple #[])/\Below w.heap.size w w':=by
 have key: ∀f,Tryz.prog.funcs.findIdx? (·.name== "internal/reflectlite" ++ ".Swapper$" ++toString (Lib.swapperK n T8 25))=some f->
  Calls Tryz.prog 201 #[.iface 38 (.slice p n c),.func (.func 202) #[] #[.pointer (some ⟨Bs,0,none⟩)]] w fun e w'=>e=.returned (.tuple #[])/\Below w.heap.size w w':=by
  intro f hf;have hS:=Any.sort_Slice_tiny Tryz.sortSlice_lays 38 94 Ah1 T8 (by kernel_rfl) (by kernel_rfl) (by kernel_rfl) (by kernel_rfl) 25 (fun _=>by kernel_rfl) p n c h1 f hf (.func 202) #[] #[.pointer (some ⟨Bs,0,none⟩)] w;change Calls Tryz.prog 201 _ _ _ at hS;refine hS.mono ?_;rintro e w' ⟨rfl,os,rfl⟩;refine⟨rfl,⟨rfl,rfl,rfl,by rw[Go.Sort.size_grow];omega,fun i hi=> ?_⟩⟩;show(w.heap++os)[i]? =_;exact Array.getElem?_append_left hi
 rcases Nat.eq_zero_or_pos n with rfl|h0
 . exact key 246 (by kernel_rfl)
 . obtain rfl:n=1:=by omega
   exact key 247 (by kernel_rfl)
end Go.Proofs.YtnkmhaachfgaoaaGreatDoor
namespace Go.Proofs.YtnkmhaachfgaoaaGreatDoor
open Go.RowKit Go.ChangeShapes Go.WideShapes Go.ChangeAt
theorem Oa:ownKnob Tryz.prog.godebug=none:=by kernel_rfl
noncomputable def En (os:Os):World:=World.laidAll Tryz.prog os Rows.patchLeastRow.laid
theorem Aah:Rows.laid_unicode_utf8_first=Lib.firstData:=by kernel_rfl
theorem X0:Rows.laid_unicode_utf8_acceptRanges (H:=Unit)=Lib.acceptData:=by kernel_rfl
theorem Aai:Rows.laid_internal_strconv_uint64pow10 (H:=Unit)=Lib.tabData .u64 Lib.pow10Tab:=by kernel_rfl
theorem Nx (os:Os) (args:Array Value):laidMet Tryz.prog Rows.patchLeastRow.laid ((En os).forCall (fun _ _=>0) ⟨#[],args, []⟩).memory:=
 laidMet_laidAll _ (by kernel_rfl) (by kernel_rfl)
end Go.Proofs.YtnkmhaachfgaoaaGreatDoor
