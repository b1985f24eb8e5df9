/- Parts: A range over an iterator that yields a known list, by a body that may leave the function: the law that the walks use. No condition. -/
import Derived.Lib.ValidU
import Derived.Lib.MapLaws
import Derived.Lib.RuneBytes
import Derived.Test.YtjgfchcldhmjcaaGreatDoorKPp3
import Derived.Test.YtjgfchcldhmjcaaGreatDoorKPp4
set_option maxHeartbeats 20000000
namespace Go.Proofs.YtjgfchcldhmjcaaGreatDoor
open Go Go.RowKit
def Ai (S:Nat->Prop) (w:World) (d:D) (cs:List Value):Prop:=
 ∀w'':World,w.heap.size<=w''.heap.size->(∀p:Addr,S p.block->p.block<w.heap.size->w''.cell? p=w.cell? p)->Ag w'' w.heap.size d cs
def Cd (S:Nat->Prop) (w:World) (l:List D) (cs:List Value):Prop:=
 ∀w'':World,w.heap.size<=w''.heap.size->(∀p:Addr,S p.block->p.block<w.heap.size->w''.cell? p=w.cell? p)->Ah w'' w.heap.size l cs
theorem Ai.now {S:Nat->Prop} {w:World} {d:D} {cs:List Value} (h:Ai S w d cs):Ag w w.heap.size d cs:=h w (Nat.le_refl _) fun _ _ _=>rfl
theorem Cd.now {S:Nat->Prop} {w:World} {l:List D} {cs:List Value} (h:Cd S w l cs):Ah w w.heap.size l cs:=h w (Nat.le_refl _) fun _ _ _=>rfl
theorem Ai.mono {S T:Nat->Prop} {w:World} {d:D} {cs:List Value} (h:Ai S w d cs) (a: ∀i,i<w.heap.size->S i->T i):Ai T w d cs:=
 fun b e f=>h b e fun p g c=>f p (a _ c g) c
theorem Ai.of_old {B:Nat} {w w':World} {d:D} {cs:List Value} (h:Ag w B d cs) (c:B<=w.heap.size) (a:Below B w w'):Ai (fun i=>i<B) w' d cs:=fun _ _ e=>
 (h.keep (fun p b=>(e p b (Nat.lt_of_lt_of_le b (Nat.le_trans c a.size))).trans (a.cell b))).more (Nat.le_trans c a.size)
theorem Ai.later {S:Nat->Prop} {w w':World} {d:D} {cs:List Value} (h:Ai S w d cs) (a:w.heap.size<=w'.heap.size) (i: ∀p:Addr,S p.block->p.block<w.heap.size->w'.cell? p=w.cell? p):Ai S w' d cs:=fun b f g=>
 (h b (Nat.le_trans a f) fun p c e=>(g p c (Nat.lt_of_lt_of_le e a)).trans (i p c e)).more a
theorem Ai.below {S:Nat->Prop} {w w':World} {d:D} {cs:List Value} (h:Ai S w d cs) (a:Below w.heap.size w w'):Ai S w' d cs:=h.later a.size fun _ _ b=>a.cell b
theorem Cd.one {S:Nat->Prop} {w:World} {d:D} {cs:List Value} (h:Ai S w d cs):Cd S w [d] cs:=fun a b c=>Ah.one (h a b c)
theorem Cd.app {S:Nat->Prop} {w:World} {l r:List D} {cs b:List Value} (h:Cd S w l cs) (k:Cd S w r b):Cd S w (l++r) (cs++b):=fun a c d=>(h a c d).app (k a c d)
theorem Ai.blk {S:Nat->Prop} {w:World} {g:Nat} {t:TypeId} {cs:Array Value} {l:List D} {s n c:Nat} (h:Ap w g t cs) (i:S g) (m: ∀d ∈ l,d.cells=s) (f:Cd S w l cs.toList) (k:n=l.length):Ai S w (.row s l) [.slice (some ⟨g,0,none⟩) n c]:=by
 subst k;intro a e b;exact⟨_,c,rfl,m,cs.toList,f a e b,.inr ⟨g,0,rfl,h.lt,fun j u o=>by
  rw[Nat.zero_add,b ⟨g,j,none⟩ i h.lt];exact(h.cell j).trans (by rw[<-Array.getElem?_toList];exact o)⟩⟩
def Bk (S0:Nat->Prop) (b:Nat) (t:TypeId) (s:Nat) (wr:World) (l:List D) (V:Value):Prop:=
 ∃ns,wr.ownsRow b t s V l.length ns/\(∀d ∈ l,d.cells=s)/\Cd (fun i=>S0 i/\V.ownBlock≠some i) wr l ns
theorem Bk.nil (S0:Nat->Prop) (b:Nat) (t:TypeId) (s:Nat) (wr:World):Bk S0 b t s wr [] (.slice none 0 0):=⟨[],World.ownsRow_nil _ _ _ _,fun d a=>(by cases a),fun _ _ _=>rfl⟩
theorem Bk.base {S0:Nat->Prop} {b:Nat} {t:TypeId} {s:Nat} {wr:World} {l:List D} {V:Value} (h:Bk S0 b t s wr l V): ∀g,V.ownBlock=some g->b<=g/\g<wr.heap.size:=by
 obtain⟨ns,a,_⟩:=h;exact a.lt
theorem Bk.keep {S0:Nat->Prop} {b:Nat} {t:TypeId} {s:Nat} {wr w':World} {l:List D} {V:Value} (h:Bk S0 b t s wr l V) (j:wr.heap.size<=w'.heap.size) (d: ∀i,i<wr.heap.size->w'.heap[i]? =wr.heap[i]?):Bk S0 b t s w' l V:=by
 obtain⟨ns,c,e,f⟩:=h;refine⟨ns,⟨c.1, ?_⟩,e,fun a o k=>Ah.more (f a (by omega) (fun p m n=>(k p m (by omega)).trans (World.cell?_of_block (d p.block n)))) j⟩;rcases c.2 with⟨rfl,h0⟩|⟨g,cap,cur,rfl,hbg,hg,h5⟩
 . exact .inl ⟨rfl,h0⟩
 . exact .inr ⟨g,cap,cur,rfl,hbg,(d g (Array.getElem?_eq_some_iff.1 hg).1).trans hg,h5⟩
theorem Bk.below {S0:Nat->Prop} {b:Nat} {t:TypeId} {s:Nat} {wr w':World} {l:List D} {V:Value} (h:Bk S0 b t s wr l V) (a:Below wr.heap.size wr w'):Bk S0 b t s w' l V:=h.keep a.size fun i c=>a.block i c
theorem Bk.slice {S0:Nat->Prop} {b:Nat} {t:TypeId} {s:Nat} {wr:World} {l:List D} {V:Value} (h:Bk S0 b t s wr l V): ∃a c,V=.slice a l.length c:=by
 obtain⟨ns,d,_⟩:=h;rcases d.2 with⟨rfl,h0⟩|⟨g,cap,cur,rfl,_⟩
 . exact⟨_,_,by rw[h0]⟩
 . exact⟨_,_,rfl⟩
theorem Bk.slice_n {S0:Nat->Prop} {b:Nat} {t:TypeId} {s n:Nat} {wr:World} {l:List D} {V:Value} (h:Bk S0 b t s wr l V) (d:l.length=n): ∃a c,V=.slice a n c:=by
 subst d;exact h.slice
theorem Bk.close {S0:Nat->Prop} {b:Nat} {t:TypeId} {s:Nat} {wr:World} {l:List D} {a:Option Addr} {n c:Nat} (h:Bk S0 b t s wr l (.slice a n c)):Ag wr wr.heap.size (.row s l) [.slice a n c]:=by
 obtain⟨ns,i,k,m⟩:=h;have d:=i;rcases i.2 with⟨e,h0⟩|⟨g,cap,cur,e,hbg,hg,hnc,_⟩
 . cases e
   have p:l= []:=List.eq_nil_of_length_eq_zero h0;subst p;exact⟨none,0,rfl,k, [],rfl,.inl rfl⟩
 . cases e
   have f:=(Array.getElem?_eq_some_iff.1 hg).1;refine⟨_,_,rfl,k,ns,m.now,.inr ⟨g,0,rfl,f,fun j u q=> ?_⟩⟩;have o:=d.cells (g:=g) rfl j u q
   rwa [De]at o
theorem Bk.closeIn {S0:Nat->Prop} {b:Nat} {t:TypeId} {s:Nat} {wr:World} {l:List D} {a:Option Addr} {n c:Nat} (h:Bk S0 b t s wr l (.slice a n c)):Ai (fun i=>S0 i\/(Value.slice a n c).ownBlock=some i) wr (.row s l) [.slice a n c]:=by
 obtain⟨ns,m,o,v⟩:=h;have f:=m;intro k z r;have w:=v k z fun p A B=>r p (.inl A.1) B;rcases m.2 with⟨e,h0⟩|⟨g,cap,cur,e,hbg,hg,hnc,_⟩
 . cases e
   have x:l= []:=List.eq_nil_of_length_eq_zero h0;subst x;exact⟨none,0,rfl,o, [],rfl,.inl rfl⟩
 . cases e
   have d:=(Array.getElem?_eq_some_iff.1 hg).1;refine⟨_,_,rfl,o,ns,w,.inr ⟨g,0,rfl,d,fun j u y=> ?_⟩⟩;have q:=f.cells (g:=g) rfl j u y;rw[De]at q;exact(r ⟨g,0+j,none⟩ (.inr rfl) d).trans q
section
variable {P:Program}
theorem Ll {t ty e:TypeId} {i:TypeInfo} {z:Value} {h bytes:Nat} (T:P.underlying t=some (.slice e)) (R:P.info? e=some i) (U:i.zero=some z) (k:i.size=h) (E:i.bytes=bytes) (G:z.cells.size=h) (F:0<h)
 {S0:Nat->Prop} {b:Nat} {w:World} {l:List D} {V:Value} (n:Bk S0 b e h w l V) (C:b<=w.heap.size) {d:D} {cs:List Value} (Q:d.cells=h) (I:Ai (fun i=>S0 i/\V.ownBlock≠some i) w d cs)
 {B:Nat} {A:Option Addr} {c:Nat} (S:Bt w B h A 1 cs) (y:l.length+1<=maxLen) (g:(l.length+1)*bytes<=140737488355328):
 ∃V' w6,(Builtin.append_ #[t,t] ty #[V,.slice A 1 c]).run P w=.ok V' w6/\Bk S0 b e h w6 (l++ [d]) V'/\w.grownBy w6 V.ownBlock/\(V'.ownBlock=V.ownBlock\/V'.ownBlock=some w.heap.size):=by
 obtain⟨ns,M,N,O⟩:=n;obtain⟨V',w6,o,L,j,H⟩:=J0 (P:=P) w b t ty e i z h bytes T R U k E G F V l.length ns M B A 1 c cs S I.now.len.2 y g C;refine⟨V',w6,o,⟨ns++cs,by rw[List.length_append];exact L, ?_, ?_⟩,j,H⟩
 . intro x f;rcases List.mem_append.1 f with f|f
   . exact N x f
   . simp only[List.mem_cons,List.not_mem_nil,or_false]at f;rw[f];exact Q
 . have key: ∀p:Addr,V.ownBlock≠some p.block->p.block<w.heap.size->V'.ownBlock≠some p.block:=by
    intro p r u;rcases H with v|v
    . rw[v];exact r
    . rw[v];intro K;have:=Option.some.inj K;omega
   have m: ∀a:World,w6.heap.size<=a.heap.size->(∀p:Addr,S0 p.block/\V'.ownBlock≠some p.block->p.block<w6.heap.size->a.cell? p=w6.cell? p)-> ∀p:Addr,S0 p.block/\V.ownBlock≠some p.block->p.block<w.heap.size->a.cell? p=w.cell? p:=by
    intro a q s p r u;rw[s p ⟨r.1,key p r.2 u⟩ (Nat.lt_of_lt_of_le u j.size)];exact World.cell?_of_block (j.block p.block u (fun e=>r.2 e.symm))
   intro a q s;have a1:=Ah.more (O a (Nat.le_trans j.size q) (m a q s)) j.size;have J:=Ag.more (I a (Nat.le_trans j.size q) (m a q s)) j.size;exact a1.snoc J
theorem Abr {o:Oper} {a:Act} {w:World} {K:Act->World->Prop} {Q:Exit->Act->World->Prop} (s x:Operand) (t:TypeId) {e:TypeId}
 (H:o.op=.call {callee:=.builtin .append,args:= #[s,x],argTypes:= #[t,t]}) {i:TypeInfo} {z:Value} {j bytes:Nat} (L:P.underlying t=some (.slice e)) (G:P.info? e=some i) (N:i.zero=some z) (g:i.size=j) (q:i.bytes=bytes) (u:z.cells.size=j) (r:0<j)
 {S0:Nat->Prop} {b:Nat} {l:List D} {V:Value} (J:a.eval s=V) (k:Bk S0 b e j w l V) (p:b<=w.heap.size) {d:D} {cs:List Value} (E:d.cells=j) (F:Ai (fun i=>S0 i/\V.ownBlock≠some i) w d cs)
 {B:Nat} {A:Option Addr} {c:Nat} (M:a.eval x=.slice A 1 c) (I:Bt w B j A 1 cs) (n:l.length+1<=maxLen) (f:(l.length+1)*bytes<=140737488355328)
 (h: ∀V' w6,Bk S0 b e j w6 (l++ [d]) V'->w.grownBy w6 V.ownBlock->(V'.ownBlock=V.ownBlock\/V'.ownBlock=some w.heap.size)->K (a.put o.dst V') w6):o.wp P a w K Q:=by
 obtain⟨V',w6,m,v,y,C⟩:=Ll (ty:=o.type) (c:=c) L G N g q u r k p E F I n f;unfold Oper.wp execOp;simp only[H,resolve,invoke,builtin,Sem.run_bind,Sem.run_pure,Result.andThen_ok,List.map_toArray,List.map_cons,List.map_nil,J,M,m];exact h V' w6 v y C
theorem Lq {m:Array Oper} {rest:List Oper} {o:Oper} {a:Act} {w:World} {Q:Exit->Act->World->Prop} (r:o.guard=none) (s x:Operand) (t:TypeId) {e:TypeId}
 (J:o.op=.call {callee:=.builtin .append,args:= #[s,x],argTypes:= #[t,t]}) {i:TypeInfo} {z:Value} {j bytes:Nat} (M:P.underlying t=some (.slice e)) (I:P.info? e=some i) (O:i.zero=some z) (g:i.size=j) (q:i.bytes=bytes) (v:z.cells.size=j) (u:0<j)
 {S0:Nat->Prop} {b:Nat} {l:List D} {V:Value} (L:a.eval s=V) (k:Bk S0 b e j w l V) (p:b<=w.heap.size) {d:D} {cs:List Value} (G:d.cells=j) (H:Ai (fun i=>S0 i/\V.ownBlock≠some i) w d cs)
 {B:Nat} {A:Option Addr} {c:Nat} (N:a.eval x=.slice A 1 c) (K:Bt w B j A 1 cs) (n:l.length+1<=maxLen) (f:(l.length+1)*bytes<=140737488355328)
 (h: ∀V' w6,Bk S0 b e j w6 (l++ [d]) V'->w.grownBy w6 V.ownBlock->(V'.ownBlock=V.ownBlock\/V'.ownBlock=some w.heap.size)->wpList P m Q rest (a.put o.dst V') w6):wpList P m Q (o::rest) a w:=
 wpList_plain r fun _ F=>Abr s x t J M I O g q v u L k p G H N K n f fun V' w6 y C E=>F _ _ (h V' w6 y C E)
end
def Cw:List UInt8->Nat->Int->Option Int
 |_,0,r=>some r
 | [],_+1,_=>none
 |d::l,n+1,r=>if(d.toNat:Int)<128\/192<=(d.toNat:Int)then none else Cw l n (64*r+d.toNat - 128)
def Dh (F:Option Int) (n:Nat) (least:Int):Int×Int:=
 match F with
 |none=>(0,0)
 |some r=>if r<least\/1114111<r\/(55296<=r/\r<57344)then(0,0)else(r,n)
def By (rest:List UInt8) (n:Nat) (r0 least:Int):Int×Int:=
 if rest.length+1<n then(0,0)else Dh (Cw rest (n - 1) r0) n least
def Gc:List UInt8->Int×Int
 | []=>(0,0)
 |c::rest=>
  if(c.toNat:Int)<128 then(c.toNat,1)
  else if 192<=(c.toNat:Int)/\(c.toNat:Int)<224 then By rest 2 (c.toNat - 192) 128
  else if 224<=(c.toNat:Int)/\(c.toNat:Int)<240 then By rest 3 (c.toNat - 224) 2048
  else if 240<=(c.toNat:Int)/\(c.toNat:Int)<248 then By rest 4 (c.toNat - 240) 65536
  else(0,0)
theorem Mq (s:ByteArray) (a:Nat) (h:a<s.size):s.data.toList.drop a=s[a]::s.data.toList.drop (a+1):=by
 rw[List.drop_eq_getElem_cons (by rw[<-Lib.size_eq];exact h)];rfl
theorem Bp (d:UInt8) (l:List UInt8) (n:Nat) (r:Int):Cw (d::l) (n+1) r=if(d.toNat:Int)<128\/192<=(d.toNat:Int)then none else Cw l n (64*r+d.toNat - 128):=rfl
theorem Gm (c:UInt8) (rest:List UInt8):Gc (c::rest)=
 (if(c.toNat:Int)<128 then((c.toNat:Int),(1:Int))
 else if 192<=(c.toNat:Int)/\(c.toNat:Int)<224 then By rest 2 (c.toNat - 192) 128
 else if 224<=(c.toNat:Int)/\(c.toNat:Int)<240 then By rest 3 (c.toNat - 224) 2048
 else if 240<=(c.toNat:Int)/\(c.toNat:Int)<248 then By rest 4 (c.toNat - 240) 65536
 else(0,0)):=rfl
set_option maxRecDepth 1000000 in
theorem Al2 (s:ByteArray) (a:Nat) (w:World) (V:s.size<=4611686018427387904) (h:a<s.size) (x:UInt8) (W:s[a]=x) (S:192<=(x.toNat:Int)) (T:(x.toNat:Int)<224) (U:a+2<=s.size):
 Calls Tryz.prog 123 #[.string s,.int .i64 a] w fun e w'=>e=.returned (.tuple #[.int .i64 (By (s.data.toList.drop (a+1)) 2 (x.toNat - 192) 128).1,.int .i64 (By (s.data.toList.drop (a+1)) 2 (x.toNat - 192) 128).2])/\w=w':=by
 have f: ¬(s.data.toList.drop (a+1)).length+1<2:=by
  rw[List.length_drop,<-Lib.size_eq];omega
 obtain⟨F,q⟩: ∃F,Cw (s.data.toList.drop (a+1)) (2 - 1) (x.toNat - 192)=F:=⟨_,rfl⟩;have j:By (s.data.toList.drop (a+1)) 2 (x.toNat - 192) 128=Dh F 2 128:=by
  unfold By Dh;rw[if_neg f,q]
 rw[j];have v:=qz q;clear j f q;have P:decide (s.size<=a)=false:=by simp;omega
 have Q:decide ((x.toNat:Int)<128)=false:=by simp;omega
 have R:(a:Int)+2<=(s.size:Int):=by omega
 go_enter Tryz.func123,Tryz.ntmps123;go_wp2
 go_loop [8,10] (fun r i=> ∃k:Nat,∃b:Int,1<=k/\k<=2/\i=.int .i64 k/\r=.int .i64 b/\0<=b/\(k<=1->b<=31)/\(k<=2->b<=2047)/\(k<=3->b<=131071)/\b<=8388607/\Hid (Cw (s.data.toList.drop (a+k)) (2 - k) b=F)) (fun _ i=>2 - (intOf i).toNat)
 case atStart=>exact⟨1,(x.toNat:Int) - 192,by omega,by omega,rfl,rfl,by omega,by omega,by omega,by omega,by omega,v⟩
 case round=>
  obtain⟨k,b,E,G,rfl,rfl,I,J,K,L,M,l⟩:=hrel;clear v;by_cases H:k<2
  . obtain rfl:k=1:=by omega
    have t:a+1<s.size:=by omega
    obtain⟨y,N⟩: ∃y,s[a+1]=y:=⟨_,rfl⟩;have O:(y.toNat:Int)<256:=by have:=y.toNat_lt;omega
    have c:=l.out;rw[Mq s (a+1) t,N,show 2 - 1=(2 - (1+1))+1 from by omega]at c;rw[Bp]at c;by_cases g:(y.toNat:Int)<128\/192<=(y.toNat:Int)
    . rw[if_pos g]at c;subst c;clear l;rcases g with g|g
      all_goals
       go_wp2
       all_goals go_ret2
       all_goals exact⟨rfl,rfl⟩
    . rw[if_neg g]at c;have A:=qz c;clear l c;have C:128<=(y.toNat:Int):=by omega
      have D:(y.toNat:Int)<192:=by omega
      clear g;go_wp2
      go_round
      case rel=>exact⟨1+1,64*b+y.toNat - 128,by omega,by omega,by go_num,rfl,by omega,by omega,by omega,by omega,by omega,A⟩
      case measure=>first|(simp[intOf];done)|(simp[intOf];omega)
  . obtain rfl:k=2:=by omega
    have c:=l.out;rw[Nat.sub_self]at c;rw[show Cw (s.data.toList.drop (a+2)) 0 b=some b from by cases (s.data.toList.drop (a+2))<;>rfl]at c;subst c;clear l;by_cases d:b<128\/1114111<b\/(55296<=b/\b<57344)
    . have m:Dh (some b) 2 128=(0,0):=by unfold Dh;simp only;rw[if_pos d]
      have o:=qz m;clear m;have u:(b<128)\/(¬b<128/\1114111<b)\/(¬b<128/\ ¬1114111<b/\55296<=b/\b<57344):=by omega
      clear d;rcases u with n|⟨n,p⟩|⟨n,p,z,B⟩
      all_goals
       go_wp2
       all_goals go_ret2
       all_goals exact⟨by rw[o.out];rfl,rfl⟩
    . have m:Dh (some b) 2 128=(b,2):=by unfold Dh;simp only;rw[if_neg d];rfl
      have o:=qz m;clear m;have u:(¬b<128/\ ¬1114111<b/\b<55296)\/(¬b<128/\ ¬1114111<b/\55296<=b/\ ¬b<57344):=by omega
      clear d;rcases u with⟨n,p,z⟩|⟨n,p,z,B⟩
      all_goals
       go_wp2
       all_goals go_ret2
       all_goals exact⟨by rw[o.out];rfl,rfl⟩
set_option maxRecDepth 1000000 in
theorem Ahf (s:ByteArray) (a:Nat) (w:World) (V:s.size<=4611686018427387904) (h:a<s.size) (x:UInt8) (W:s[a]=x) (S:224<=(x.toNat:Int)) (T:(x.toNat:Int)<240) (U:a+3<=s.size):
 Calls Tryz.prog 123 #[.string s,.int .i64 a] w fun e w'=>e=.returned (.tuple #[.int .i64 (By (s.data.toList.drop (a+1)) 3 (x.toNat - 224) 2048).1,.int .i64 (By (s.data.toList.drop (a+1)) 3 (x.toNat - 224) 2048).2])/\w=w':=by
 have f: ¬(s.data.toList.drop (a+1)).length+1<3:=by
  rw[List.length_drop,<-Lib.size_eq];omega
 obtain⟨F,q⟩: ∃F,Cw (s.data.toList.drop (a+1)) (3 - 1) (x.toNat - 224)=F:=⟨_,rfl⟩;have j:By (s.data.toList.drop (a+1)) 3 (x.toNat - 224) 2048=Dh F 3 2048:=by
  unfold By Dh;rw[if_neg f,q]
 rw[j];have v:=qz q;clear j f q;have P:decide (s.size<=a)=false:=by simp;omega
 have Q:decide ((x.toNat:Int)<128)=false:=by simp;omega
 have R:(a:Int)+3<=(s.size:Int):=by omega
 go_enter Tryz.func123,Tryz.ntmps123;go_wp2
 go_loop [8,10] (fun r i=> ∃k:Nat,∃b:Int,1<=k/\k<=3/\i=.int .i64 k/\r=.int .i64 b/\0<=b/\(k<=1->b<=31)/\(k<=2->b<=2047)/\(k<=3->b<=131071)/\b<=8388607/\Hid (Cw (s.data.toList.drop (a+k)) (3 - k) b=F)) (fun _ i=>3 - (intOf i).toNat)
 case atStart=>exact⟨1,(x.toNat:Int) - 224,by omega,by omega,rfl,rfl,by omega,by omega,by omega,by omega,by omega,v⟩
 case round=>
  obtain⟨k,b,E,G,rfl,rfl,I,J,K,L,M,l⟩:=hrel;clear v;by_cases H:k<3
  . have t:a+k<s.size:=by omega
    obtain⟨y,N⟩: ∃y,s[a+k]=y:=⟨_,rfl⟩;have O:(y.toNat:Int)<256:=by have:=y.toNat_lt;omega
    have c:=l.out;rw[Mq s (a+k) t,N,show 3 - k=(3 - (k+1))+1 from by omega]at c;rw[Bp]at c;by_cases g:(y.toNat:Int)<128\/192<=(y.toNat:Int)
    . rw[if_pos g]at c;subst c;clear l;rcases g with g|g
      all_goals
       go_wp2
       all_goals go_ret2
       all_goals exact⟨rfl,rfl⟩
    . rw[if_neg g]at c;have A:=qz c;clear l c;have C:128<=(y.toNat:Int):=by omega
      have D:(y.toNat:Int)<192:=by omega
      clear g;go_wp2
      go_round
      case rel=>exact⟨k+1,64*b+y.toNat - 128,by omega,by omega,by go_num,rfl,by omega,by omega,by omega,by omega,by omega,A⟩
      case measure=>first|(simp[intOf];done)|(simp[intOf];omega)
  . obtain rfl:k=3:=by omega
    have c:=l.out;rw[Nat.sub_self]at c;rw[show Cw (s.data.toList.drop (a+3)) 0 b=some b from by cases (s.data.toList.drop (a+3))<;>rfl]at c;subst c;clear l;by_cases d:b<2048\/1114111<b\/(55296<=b/\b<57344)
    . have m:Dh (some b) 3 2048=(0,0):=by unfold Dh;simp only;rw[if_pos d]
      have o:=qz m;clear m;have u:(b<2048)\/(¬b<2048/\1114111<b)\/(¬b<2048/\ ¬1114111<b/\55296<=b/\b<57344):=by omega
      clear d;rcases u with n|⟨n,p⟩|⟨n,p,z,B⟩
      all_goals
       go_wp2
       all_goals go_ret2
       all_goals exact⟨by rw[o.out];rfl,rfl⟩
    . have m:Dh (some b) 3 2048=(b,3):=by unfold Dh;simp only;rw[if_neg d];rfl
      have o:=qz m;clear m;have u:(¬b<2048/\ ¬1114111<b/\b<55296)\/(¬b<2048/\ ¬1114111<b/\55296<=b/\ ¬b<57344):=by omega
      clear d;rcases u with⟨n,p,z⟩|⟨n,p,z,B⟩
      all_goals
       go_wp2
       all_goals go_ret2
       all_goals exact⟨by rw[o.out];rfl,rfl⟩
set_option maxRecDepth 1000000 in
theorem Akb (s:ByteArray) (a:Nat) (w:World) (V:s.size<=4611686018427387904) (h:a<s.size) (x:UInt8) (W:s[a]=x) (S:240<=(x.toNat:Int)) (T:(x.toNat:Int)<248) (U:a+4<=s.size):
 Calls Tryz.prog 123 #[.string s,.int .i64 a] w fun e w'=>e=.returned (.tuple #[.int .i64 (By (s.data.toList.drop (a+1)) 4 (x.toNat - 240) 65536).1,.int .i64 (By (s.data.toList.drop (a+1)) 4 (x.toNat - 240) 65536).2])/\w=w':=by
 have f: ¬(s.data.toList.drop (a+1)).length+1<4:=by
  rw[List.length_drop,<-Lib.size_eq];omega
 obtain⟨F,q⟩: ∃F,Cw (s.data.toList.drop (a+1)) (4 - 1) (x.toNat - 240)=F:=⟨_,rfl⟩;have j:By (s.data.toList.drop (a+1)) 4 (x.toNat - 240) 65536=Dh F 4 65536:=by
  unfold By Dh;rw[if_neg f,q]
 rw[j];have v:=qz q;clear j f q;have P:decide (s.size<=a)=false:=by simp;omega
 have Q:decide ((x.toNat:Int)<128)=false:=by simp;omega
 have R:(a:Int)+4<=(s.size:Int):=by omega
 go_enter Tryz.func123,Tryz.ntmps123;go_wp2
 go_loop [8,10] (fun r i=> ∃k:Nat,∃b:Int,1<=k/\k<=4/\i=.int .i64 k/\r=.int .i64 b/\0<=b/\(k<=1->b<=31)/\(k<=2->b<=2047)/\(k<=3->b<=131071)/\b<=8388607/\Hid (Cw (s.data.toList.drop (a+k)) (4 - k) b=F)) (fun _ i=>4 - (intOf i).toNat)
 case atStart=>exact⟨1,(x.toNat:Int) - 240,by omega,by omega,rfl,rfl,by omega,by omega,by omega,by omega,by omega,v⟩
 case round=>
  obtain⟨k,b,E,G,rfl,rfl,I,J,K,L,M,l⟩:=hrel;clear v;by_cases H:k<4
  . have t:a+k<s.size:=by omega
    obtain⟨y,N⟩: ∃y,s[a+k]=y:=⟨_,rfl⟩;have O:(y.toNat:Int)<256:=by have:=y.toNat_lt;omega
    have c:=l.out;rw[Mq s (a+k) t,N,show 4 - k=(4 - (k+1))+1 from by omega]at c;rw[Bp]at c;by_cases g:(y.toNat:Int)<128\/192<=(y.toNat:Int)
    . rw[if_pos g]at c;subst c;clear l;rcases g with g|g
      all_goals
       go_wp2
       all_goals go_ret2
       all_goals exact⟨rfl,rfl⟩
    . rw[if_neg g]at c;have A:=qz c;clear l c;have C:128<=(y.toNat:Int):=by omega
      have D:(y.toNat:Int)<192:=by omega
      clear g;go_wp2
      go_round
      case rel=>exact⟨k+1,64*b+y.toNat - 128,by omega,by omega,by go_num,rfl,by omega,by omega,by omega,by omega,by omega,A⟩
      case measure=>first|(simp[intOf];done)|(simp[intOf];omega)
  . obtain rfl:k=4:=by omega
    have c:=l.out;rw[Nat.sub_self]at c;rw[show Cw (s.data.toList.drop (a+4)) 0 b=some b from by cases (s.data.toList.drop (a+4))<;>rfl]at c;subst c;clear l;by_cases d:b<65536\/1114111<b\/(55296<=b/\b<57344)
    . have m:Dh (some b) 4 65536=(0,0):=by unfold Dh;simp only;rw[if_pos d]
      have o:=qz m;clear m;have u:(b<65536)\/(¬b<65536/\1114111<b)\/(¬b<65536/\ ¬1114111<b/\55296<=b/\b<57344):=by omega
      clear d;rcases u with n|⟨n,p⟩|⟨n,p,z,B⟩
      all_goals
       go_wp2
       all_goals go_ret2
       all_goals exact⟨by rw[o.out];rfl,rfl⟩
    . have m:Dh (some b) 4 65536=(b,4):=by unfold Dh;simp only;rw[if_neg d];rfl
      have o:=qz m;clear m;have u:(¬b<65536/\ ¬1114111<b/\b<55296)\/(¬b<65536/\ ¬1114111<b/\55296<=b/\ ¬b<57344):=by omega
      clear d;rcases u with⟨n,p,z⟩|⟨n,p,z,B⟩
      all_goals
       go_wp2
       all_goals go_ret2
       all_goals exact⟨by rw[o.out];rfl,rfl⟩
set_option maxRecDepth 1000000 in
theorem Akc (s:ByteArray) (a:Nat) (w:World) (_hs:s.size<=4611686018427387904) (_ha:a<=4611686018427387904) (h:s.size<=a):
 Calls Tryz.prog 123 #[.string s,.int .i64 a] w fun e w'=>e=.returned (.tuple #[.int .i64 0,.int .i64 0])/\w=w':=by
 have b:(s.size:Int)<=a:=by omega
 have c:decide (s.size<=a)=true:=by simpa using h
 go_enter Tryz.func123,Tryz.ntmps123;go_wp2
 all_goals go_ret2
 all_goals exact⟨rfl,rfl⟩
set_option maxRecDepth 1000000 in
theorem Al1 (s:ByteArray) (a:Nat) (w:World) (_hs:s.size<=4611686018427387904) (h:a<s.size) (x:UInt8) (c:s[a]=x) (b:(x.toNat:Int)<128):
 Calls Tryz.prog 123 #[.string s,.int .i64 a] w fun e w'=>e=.returned (.tuple #[.int .i64 x.toNat,.int .i64 1])/\w=w':=by
 go_enter Tryz.func123,Tryz.ntmps123;go_wp2
 all_goals go_ret2
 all_goals exact⟨rfl,rfl⟩
set_option maxRecDepth 1000000 in
theorem W4 (s:ByteArray) (a:Nat) (w:World) (o:s.size<=4611686018427387904) (h:a<s.size) (x:UInt8) (p:s[a]=x) (h0:128<=(x.toNat:Int))
 (b:(x.toNat:Int)<192\/248<=(x.toNat:Int)\/(192<=(x.toNat:Int)/\(x.toNat:Int)<224/\s.size<a+2)\/(224<=(x.toNat:Int)/\(x.toNat:Int)<240/\s.size<a+3)\/(240<=(x.toNat:Int)/\(x.toNat:Int)<248/\s.size<a+4)):
 Calls Tryz.prog 123 #[.string s,.int .i64 a] w fun e w'=>e=.returned (.tuple #[.int .i64 0,.int .i64 0])/\w=w':=by
 have g:(x.toNat:Int)<256:=by have:=x.toNat_lt;omega
 rcases b with b|b|⟨b,c,d⟩|⟨b,c,d⟩|⟨b,c,d⟩
 . go_enter Tryz.func123,Tryz.ntmps123;go_wp2
   all_goals go_ret2
   all_goals exact⟨rfl,rfl⟩
 . have i:192<=(x.toNat:Int):=by omega
   have j: ¬((x.toNat:Int)<224):=by omega
   have k:224<=(x.toNat:Int):=by omega
   have l: ¬((x.toNat:Int)<240):=by omega
   have m:240<=(x.toNat:Int):=by omega
   have n: ¬((x.toNat:Int)<248):=by omega
   go_enter Tryz.func123,Tryz.ntmps123;go_wp2
   all_goals go_ret2
   all_goals exact⟨rfl,rfl⟩
 . have f:(s.size:Int)<(a:Int)+2:=by omega
   go_enter Tryz.func123,Tryz.ntmps123;go_wp2
   all_goals go_ret2
   all_goals exact⟨rfl,rfl⟩
 . have f:(s.size:Int)<(a:Int)+3:=by omega
   go_enter Tryz.func123,Tryz.ntmps123;go_wp2
   all_goals go_ret2
   all_goals exact⟨rfl,rfl⟩
 . have f:(s.size:Int)<(a:Int)+4:=by omega
   go_enter Tryz.func123,Tryz.ntmps123;go_wp2
   all_goals go_ret2
   all_goals exact⟨rfl,rfl⟩
theorem Si (s:ByteArray) (a:Nat) (w:World) (c:s.size<=4611686018427387904) (i:a<=4611686018427387904):
 Calls Tryz.prog 123 #[.string s,.int .i64 a] w fun e w'=>e=.returned (.tuple #[.int .i64 (Gc (s.data.toList.drop a)).1,.int .i64 (Gc (s.data.toList.drop a)).2])/\w=w':=by
 by_cases h:a<s.size
 . rw[Mq s a h];obtain⟨x,d⟩: ∃x,s[a]=x:=⟨_,rfl⟩;rw[d];have k:(s.data.toList.drop (a+1)).length=s.size - (a+1):=by rw[List.length_drop,<-Lib.size_eq]
   have j:=x.toNat_lt;rw[Gm];by_cases g:(x.toNat:Int)<128
   . rw[if_pos g];exact Al1 s a w c h x d g
   rw[if_neg g];by_cases b:192<=(x.toNat:Int)/\(x.toNat:Int)<224
   . rw[if_pos b];by_cases f:a+2<=s.size
     . exact Al2 s a w c h x d b.1 b.2 f
     . unfold By;rw[if_pos (by omega)];exact W4 s a w c h x d (by omega) (by omega)
   rw[if_neg b];by_cases b:224<=(x.toNat:Int)/\(x.toNat:Int)<240
   . rw[if_pos b];by_cases f:a+3<=s.size
     . exact Ahf s a w c h x d b.1 b.2 f
     . unfold By;rw[if_pos (by omega)];exact W4 s a w c h x d (by omega) (by omega)
   rw[if_neg b];by_cases b:240<=(x.toNat:Int)/\(x.toNat:Int)<248
   . rw[if_pos b];by_cases f:a+4<=s.size
     . exact Akb s a w c h x d b.1 b.2 f
     . unfold By;rw[if_pos (by omega)];exact W4 s a w c h x d (by omega) (by omega)
   rw[if_neg b];exact W4 s a w c h x d (by omega) (by omega)
 . rw[List.drop_eq_nil_of_le (by rw[<-Lib.size_eq];omega)];exact Akc s a w c i (by omega)
end Go.Proofs.YtjgfchcldhmjcaaGreatDoor
namespace Go.Proofs.YtjgfchcldhmjcaaGreatDoor
theorem Amk (l:List UInt8) (k:Nat):((ByteArray.mk l.toArray).get! k)=l.getD k 0:=by
 show l.toArray[k]! =l.getD k 0;rw[getElem!_def];simp only[List.getElem?_toArray,List.getD_eq_getElem?_getD]
 cases l[k]? <;>rfl
theorem C5 (l:List UInt8):Lib.decodeL l=Lib.decodeN l.length (l.getD 0 0).toNat (l.getD 1 0).toNat (l.getD 2 0).toNat (l.getD 3 0).toNat:=by
 unfold Lib.decodeL;rw[Lib.decode_at];simp only[Nat.sub_zero,Nat.zero_add,Amk];rfl
theorem E2 (l:List UInt8) (r:Int):Cw l 0 r=some r:=by cases l<;>rfl
def I0 (l:List UInt8):Prop:=
 Gc l=if(Lib.decodeL l).1=65533/\(Lib.decodeL l).2=1 then(0,0)else(((Lib.decodeL l).1:Int),((Lib.decodeL l).2:Int))
theorem M0 {a b c d:Int} (h:a=c) (k:b=d):(a,b)=(c,d):=by rw[h,k]
theorem Y4 (a:UInt8):I0 [a]:=by
 unfold I0;rw[C5];have b:=a.toNat_lt;simp only[Gm,By,List.length_nil,List.length_cons,List.getD_cons_zero,Nat.zero_add];generalize a.toNat=x at b ⊢;unfold Lib.decodeN;simp only[Nat.lt_irrefl,false_and,and_false,if_false]
 repeat' split
 all_goals first|rfl|(exfalso;omega)|(simp_all;done)|(simp_all;omega)
theorem Y5 (a b:UInt8):I0 [a,b]:=by
 unfold I0;rw[C5];have c:=a.toNat_lt;have d:=b.toNat_lt;simp only[Gm,By,List.length_nil,List.length_cons,List.getD_cons_zero,List.getD_cons_succ,Nat.zero_add,Nat.reduceAdd,Nat.reduceLT,if_false,if_true,Nat.reduceSub];rw[show Cw [b] 1 ((a.toNat:Int) - 192)=_ from Bp b [] 0 _,E2];generalize a.toNat=x at c ⊢;generalize b.toNat=y at d ⊢;unfold Lib.decodeN Dh;simp only[Nat.lt_irrefl,false_and,and_false,if_false]
 repeat' split
 all_goals first|rfl|(exfalso;omega)|(apply M0<;>omega)|(simp_all;done)|(simp_all;omega)
theorem Y6 (a b c:UInt8):I0 [a,b,c]:=by
 unfold I0;rw[C5];have d:=a.toNat_lt;have e:=b.toNat_lt;have f:=c.toNat_lt;simp only[Gm,By,List.length_nil,List.length_cons,List.getD_cons_zero,List.getD_cons_succ,Nat.zero_add,Nat.reduceAdd,Nat.reduceLT,if_false,if_true,Nat.reduceSub];rw[show Cw [b,c] 1 ((a.toNat:Int) - 192)=_ from Bp b [c] 0 _,E2,
  show Cw [b,c] 2 ((a.toNat:Int) - 224)=_ from Bp b [c] 1 _,show Cw [c] 1 (64*((a.toNat:Int) - 224)+b.toNat - 128)=_ from Bp c [] 0 _,E2]
 generalize a.toNat=x at d ⊢;generalize b.toNat=y at e ⊢;generalize c.toNat=z at f ⊢;unfold Lib.decodeN Dh;simp only[Nat.lt_irrefl,false_and,and_false,if_false]
 repeat' split
 all_goals first|rfl|(exfalso;omega)|(apply M0<;>omega)|(simp_all;done)|(simp_all;omega)
theorem Y7 (a b c d:UInt8) (r:List UInt8):I0 (a::b::c::d::r):=by
 unfold I0;rw[C5];have o:=a.toNat_lt;have p:=b.toNat_lt;have q:=c.toNat_lt;have s:=d.toNat_lt;rw[Gm];have k: ¬(b::c::d::r).length+1<2:=by simp
 have l: ¬(b::c::d::r).length+1<3:=by simp
 have m: ¬(b::c::d::r).length+1<4:=by simp
 have h:By (b::c::d::r) 2 ((a.toNat:Int) - 192) 128=Dh (if(b.toNat:Int)<128\/192<=(b.toNat:Int)then none else some (64*((a.toNat:Int) - 192)+b.toNat - 128)) 2 128:=by
  unfold By;rw[if_neg k,show(2 - 1:Nat)=0+1 from rfl,Bp,E2]
 have i:By (b::c::d::r) 3 ((a.toNat:Int) - 224) 2048=Dh (if(b.toNat:Int)<128\/192<=(b.toNat:Int)then none else if(c.toNat:Int)<128\/192<=(c.toNat:Int)then none else some (64*(64*((a.toNat:Int) - 224)+b.toNat - 128)+c.toNat - 128)) 3 2048:=by
  unfold By;rw[if_neg l,show(3 - 1:Nat)=1+1 from rfl,Bp,show(1:Nat)=0+1 from rfl,Bp,E2]
 have j:By (b::c::d::r) 4 ((a.toNat:Int) - 240) 65536=Dh (if(b.toNat:Int)<128\/192<=(b.toNat:Int)then none else if(c.toNat:Int)<128\/192<=(c.toNat:Int)then none else if(d.toNat:Int)<128\/192<=(d.toNat:Int)then none else some (64*(64*(64*((a.toNat:Int) - 240)+b.toNat - 128)+c.toNat - 128)+d.toNat - 128)) 4 65536:=by
  unfold By;rw[if_neg m,show(4 - 1:Nat)=2+1 from rfl,Bp,show(2:Nat)=1+1 from rfl,Bp,show(1:Nat)=0+1 from rfl,Bp,E2]
 rw[h,i,j];clear h i j k l m;have t:3<(a::b::c::d::r).length:=by simp
 generalize (a::b::c::d::r).length=n at t;simp only[List.getD_cons_zero,List.getD_cons_succ];generalize a.toNat=x at o ⊢;generalize b.toNat=y at p ⊢;generalize c.toNat=z at q ⊢;generalize d.toNat=u at s ⊢;unfold Lib.decodeN;by_cases e:(y:Int)<128\/192<=(y:Int)
 . simp only[if_pos e];unfold Dh
   repeat' split
   all_goals first|rfl|(exfalso;omega)|(apply M0<;>omega)|(simp_all;done)|(simp_all;omega)
 simp only[if_neg e];by_cases f:(z:Int)<128\/192<=(z:Int)
 . simp only[if_pos f];unfold Dh
   repeat' split
   all_goals first|rfl|(exfalso;omega)|(apply M0<;>omega)|(simp_all;done)|(simp_all;omega)
 simp only[if_neg f];by_cases g:(u:Int)<128\/192<=(u:Int)
 . simp only[if_pos g];unfold Dh
   repeat' split
   all_goals first|rfl|(exfalso;omega)|(apply M0<;>omega)|(simp_all;done)|(simp_all;omega)
 simp only[if_neg g];unfold Dh
 repeat' split
 all_goals first|rfl|(exfalso;omega)|(apply M0<;>omega)|(simp_all;done)|(simp_all;omega)
theorem K4 (l:List UInt8) (h:l≠ []):I0 l:=
 match l,h with
 | [a],_=>Y4 a
 | [a,b],_=>Y5 a b
 | [a,b,c],_=>Y6 a b c
 |a::b::c::d::r,_=>Y7 a b c d r
end Go.Proofs.YtjgfchcldhmjcaaGreatDoor
namespace Go.Proofs.YtjgfchcldhmjcaaGreatDoor
open Go.RowKit
inductive Rd (α:Type) where
 |ok (a:α) (q:Nat)
 |bad (e:Int) (q:Nat)
def Ef (c:UInt8):Bool:=c==9||c==10||c==13||c==32
def blanks:List UInt8->Nat
 | []=>0
 |c::r=>if Ef c=true then blanks r+1 else 0
def Ak (s:List UInt8) (p:Nat):Nat:=p+blanks (s.drop p)
theorem Vo: ∀l:List UInt8,blanks l<=l.length
 | []=>Nat.le_refl _
 |c::r=>by
  unfold blanks
  split
  . have:=Vo r;simp only[List.length_cons];omega
  . exact Nat.zero_le _
theorem Bv (s:List UInt8) (p:Nat):p<=Ak s p:=Nat.le_add_right _ _
theorem Fb {s:List UInt8} {p:Nat} (h:p<=s.length):Ak s p<=s.length:=by
 have:=Vo (s.drop p);rw[List.length_drop]at this;unfold Ak;omega
theorem Ep {s:List UInt8} {p:Nat} {c:UInt8} (h:s[p]? =some c):s.drop p=c::s.drop (p+1):=by
 obtain⟨a,rfl⟩:=List.getElem?_eq_some_iff.1 h;exact List.drop_eq_getElem_cons a
theorem Qg {s:List UInt8} {p:Nat} {c:UInt8} (h:s[p]? =some c) (a:Ef c=true):Ak s p=Ak s (p+1):=by
 unfold Ak;rw[Ep h,blanks,if_pos a];omega
theorem Dr {s:List UInt8} {p:Nat} {c:UInt8} (h:s[p]? =some c) (a:Ef c=false):Ak s p=p:=by
 unfold Ak;rw[Ep h,blanks,if_neg (by rw[a];decide)];rfl
theorem Ph {s:List UInt8} {p:Nat} (h:s.length<=p):Ak s p=p:=by
 unfold Ak;rw[List.drop_eq_nil_of_le h];rfl
theorem Alb (s:List UInt8) (p:Nat): ∀c,s[Ak s p]? =some c->Ef c=false:=by
 unfold Ak;have key: ∀(l:List UInt8) c,l[blanks l]? =some c->Ef c=false:=by
  intro l
  induction l with
  |nil=>intro c h;simp at h
  |cons x r ih=>
   intro c h;unfold blanks at h
   split at h
   . rename_i a;rw[List.getElem?_cons_succ]at h;exact ih c h
   . rename_i a;simp only[List.getElem?_cons_zero,Option.some.injEq]at h;subst h;simpa using a
 intro c h;exact key (s.drop p) c (by rw[List.getElem?_drop];exact h)
theorem D2 (s:List UInt8) (p:Nat):Ak s (Ak s p)=Ak s p:=by
 cases e:s[Ak s p]? with
 |none=>exact Ph (by simpa using e)
 |some c=>exact Dr e (Alb s p c e)
def Ck (c:UInt8):Bool:=decide (48<=c.toNat/\c.toNat<=57)
def P4:List UInt8->Nat
 | []=>0
 |c::r=>if Ck c=true then P4 r+1 else 0
theorem Aem: ∀l:List UInt8,P4 l<=l.length
 | []=>Nat.le_refl _
 |c::r=>by
  unfold P4
  split
  . have:=Aem r;simp only[List.length_cons];omega
  . exact Nat.zero_le _
def B6 (s:List UInt8) (p:Nat):Nat:=p+P4 (s.drop p)
theorem Pz (s:List UInt8) (p:Nat):p<=B6 s p:=Nat.le_add_right _ _
theorem P0 {s:List UInt8} {p:Nat} (h:p<=s.length):B6 s p<=s.length:=by
 have:=Aem (s.drop p);rw[List.length_drop]at this;unfold B6;omega
theorem Qv {s:List UInt8} {p:Nat} {c:UInt8} (h:s[p]? =some c) (a:Ck c=true):B6 s p=B6 s (p+1):=by
 unfold B6;rw[Ep h,P4,if_pos a];omega
theorem Qw {s:List UInt8} {p:Nat} {c:UInt8} (h:s[p]? =some c) (a:Ck c=false):B6 s p=p:=by
 unfold B6;rw[Ep h,P4,if_neg (by rw[a];decide)];rfl
theorem S5 {s:List UInt8} {p:Nat} (h:s.length<=p):B6 s p=p:=by
 unfold B6;rw[List.drop_eq_nil_of_le h];rfl
theorem N1 (s:List UInt8) (p:Nat): ∀i c,p<=i->i<B6 s p->s[i]? =some c->Ck c=true:=by
 have key: ∀(l:List UInt8) i c,i<P4 l->l[i]? =some c->Ck c=true:=by
  intro l
  induction l with
  |nil=>intro i c h;simp[P4]at h
  |cons x r ih=>
   intro i c h a;unfold P4 at h
   split at h
   . rename_i d
     cases i with
     |zero=>simp only[List.getElem?_cons_zero,Option.some.injEq]at a;subst a;exact d
     |succ i=>rw[List.getElem?_cons_succ]at a;exact ih i c (by omega) a
   . omega
 intro i c e b a;unfold B6 at b;exact key (s.drop p) (i - p) c (by omega) (by rw[List.getElem?_drop,show p+(i - p)=i from by omega];exact a)
def Ff (l:List UInt8):Nat:=l.foldl (fun a c=>a*10+(c.toNat - 48)) 0
theorem Afo (l:List UInt8) (c:UInt8):Ff (l++ [c])=Ff l*10+(c.toNat - 48):=by unfold Ff;rw[List.foldl_append];rfl
def Ec (neg:Bool) (m p q:Nat):Rd Int:=
 if neg=true then(if m=0\/9223372036854775808<m then .bad 7 p else .ok (-(m:Int)) q)else if 9223372036854775807<m then .bad 7 p else .ok (m:Int) q
def Lg (s:List UInt8) (p f:Nat):Rd Int:=
 if B6 s f=f then .bad 4 f
 else if s[f]? =some 48/\f+1<B6 s f then .bad 4 (f+1)
 else Ec (decide (s[p]? =some 45)) (Ff ((s.drop f).take (B6 s f - f))) p (B6 s f)
def Cl (s:List UInt8) (p:Nat):Rd Int:=Lg s p (if s[p]? =some 45 then p+1 else p)
def M9 (c:UInt8):Option Nat:=
 if 48<=c.toNat/\c.toNat<=57 then some (c.toNat - 48)else if 97<=c.toNat/\c.toNat<=102 then some (c.toNat - 87)else if 65<=c.toNat/\c.toNat<=70 then some (c.toNat - 55)else none
def Jf:List UInt8->Nat->Nat->Option Nat
 |_,0,n=>some n
 | [],_+1,_=>none
 |c::l,k+1,n=>match M9 c with
  |none=>none
  |some d=>Jf l k (16*n+d)
def Dd (l:List UInt8):Option Nat:=if l.length<6\/l[0]? ≠some 92\/l[1]? ≠some 117 then none else Jf (l.drop 2) 4 0
def Fj (c:UInt8):Option Nat:=
 if c=34 then some 34 else if c=92 then some 92 else if c=47 then some 47 else if c=98 then some 8 else if c=102 then some 12 else if c=110 then some 10 else if c=114 then some 13 else if c=116 then some 9 else none
def Fp (r:Nat) (l:List UInt8):Rd Nat:=
 if r<55296\/57344<=r then .ok r 6
 else if 56320<=r then .bad 3 0
 else match Dd l with
  |none=> .bad 3 0
  |some m=>if m<56320\/57344<=m then .bad 3 0 else .ok (65536+1024*(r - 55296)+(m - 56320)) 12
def Qb (l:List UInt8):Rd Nat:=match l[1]? with
 |none=> .bad 4 0
 |some c=>match Fj c with
  |none=> .bad 4 0
  |some r=> .ok r 2
def E5 (l:List UInt8):Rd Nat:=match Dd l with
 |some r=>Fp r (l.drop 6)
 |none=>Qb l
theorem Xr {c:UInt8} {d:Nat} (h:M9 c=some d):d<16:=by
 unfold M9 at h
 split at h
 . simp at h;omega
 split at h
 . simp at h;omega
 split at h
 . simp at h;omega
 . cases h
theorem Aeq: ∀(k:Nat) (l:List UInt8) (n r:Nat),Jf l k n=some r->r<(n+1)*16 ^ k
 |0,l,n,r,h=>by
  have:n=r:=by cases l<;>simpa[Jf]using h
  subst this;simp
 |k+1, [],n,r,h=>by simp[Jf]at h
 |k+1,c::l,n,r,h=>by
  simp only[Jf]at h
  cases hd:M9 c with
  |none=>rw[hd]at h;cases h
  |some d=>
   rw[hd]at h;have a:=Aeq k l _ r h;have b:=Xr hd;have e:(16*n+d+1)*16 ^ k<=((n+1)*16)*16 ^ k:=Nat.mul_le_mul_right _ (by omega);rw[Nat.pow_succ,Nat.mul_comm (16 ^ k) 16,<-Nat.mul_assoc];omega
theorem Ks {l:List UInt8} {r:Nat} (h:Dd l=some r):r<65536/\6<=l.length:=by
 unfold Dd at h
 split at h
 . cases h
 . rename_i a;have:=Aeq 4 _ _ _ h;omega
theorem Ms {l:List UInt8} {r n:Nat} (h:E5 l=.ok r n):r<=1114111/\ ¬(55296<=r/\r<57344)/\2<=n/\n<=l.length:=by
 unfold E5 at h
 cases hu:Dd l with
 |some u=>
  rw[hu]at h;obtain⟨b,d⟩:=Ks hu;simp only[Fp]at h
  split at h
  . simp only[Rd.ok.injEq]at h;omega
  split at h
  . cases h
  cases hm:Dd (l.drop 6)with
  |none=>rw[hm]at h;cases h
  |some m=>
   rw[hm]at h;obtain⟨e,a⟩:=Ks hm;rw[List.length_drop]at a;simp only at h
   split at h
   . cases h
   . simp only[Rd.ok.injEq]at h;omega
 |none=>
  rw[hu]at h;simp only[Qb]at h
  cases hc:l[1]? with
  |none=>rw[hc]at h;cases h
  |some c=>
   rw[hc]at h;have f:=(List.getElem?_eq_some_iff.1 hc).1;simp only at h
   cases he:Fj c with
   |none=>rw[he]at h;cases h
   |some x=>
    rw[he]at h;simp only[Rd.ok.injEq]at h;have:x<=92:=by
     unfold Fj at he
     repeat' split at he
     all_goals first|(simp at he;omega)|cases he
    omega
def Fg:Nat->List UInt8->Nat->List UInt8->Rd (List UInt8)
 |0,_,i,_=> .bad 4 i
 |f+1,s,i,out=>match s[i]? with
  |none=> .bad 4 i
  |some c=>
   if c=34 then .ok out (i+1)
   else if c.toNat<32 then .bad 4 i
   else if c=92 then(match E5 (s.drop i)with
    | .bad e _=> .bad e i
    | .ok r n=>Fg f s (i+n) (out++Lib.encodeRune (r:Int)))
   else if(Lib.decodeL (s.drop i)).1=65533/\(Lib.decodeL (s.drop i)).2=1 then .bad 3 i
   else Fg f s (i+(Lib.decodeL (s.drop i)).2) (out++(s.drop i).take (Lib.decodeL (s.drop i)).2)
def Cs (s:List UInt8) (p:Nat):Rd (List UInt8):=if s[p]? =some 34 then Fg (s.length - p) s (p+1) []else .bad 4 p
theorem Acd {s:List UInt8} {i:Nat} (h:i<s.length):i+(Lib.decodeL (s.drop i)).2<=s.length:=by
 have:=Lib.decodeL_le (s.drop i) (by intro e;have:=congrArg List.length e;rw[List.length_drop]at this;simp at this;omega);rw[List.length_drop]at this;omega
def Rd.within {α:Type} (p n:Nat):Rd α->Prop
 | .ok _ q=>p<q/\q<=n
 | .bad e q=>p<=q/\q<=n/\1<=e/\e<=18
theorem Rp: ∀(f:Nat) (s:List UInt8) (i:Nat) (out:List UInt8),i<=s.length->(Fg f s i out).within i s.length
 |0,s,i,out,h=>⟨Nat.le_refl _,h,by decide,by decide⟩
 |f+1,s,i,out,h=>by
  unfold Fg
  cases hc:s[i]? with
  |none=>exact⟨Nat.le_refl _,h,by decide,by decide⟩
  |some c=>
   have d:=(List.getElem?_eq_some_iff.1 hc).1;simp only;have step: ∀j o,i<j->j<=s.length->(Fg f s j o).within i s.length:=by
    intro j o g b;have:=Rp f s j o b
    cases hr:Fg f s j o with
    |ok a q=>rw[hr]at this;exact⟨by have:=this.1;omega,this.2⟩
    |bad e q=>rw[hr]at this;exact⟨by have:=this.1;omega,this.2⟩
   split
   . exact⟨by omega,by omega⟩
   split
   . exact⟨Nat.le_refl _,h,by decide,by decide⟩
   split
   . cases he:E5 (s.drop i)with
     |bad e q=>
      refine⟨Nat.le_refl _,h, ?_⟩;unfold E5 Fp Qb at he
      repeat' split at he
      all_goals first|(simp only[Rd.bad.injEq]at he;omega)|cases he
     |ok r n=>
      have:=Ms he;rw[List.length_drop]at this;exact step _ _ (by omega) (by omega)
   split
   . exact⟨Nat.le_refl _,h,by decide,by decide⟩
   . exact step _ _ (by have:=Lib.decodeL_width (s.drop i);omega) (Acd d)
theorem Eu {s:List UInt8} {p:Nat} (h:p<=s.length):(Cs s p).within p s.length:=by
 unfold Cs
 split
 . rename_i b;have c:=(List.getElem?_eq_some_iff.1 b).1;have:=Rp (s.length - p) s (p+1) [] (by omega)
   cases hr:Fg (s.length - p) s (p+1) []with
   |ok a q=>rw[hr]at this;exact⟨by have:=this.1;omega,this.2⟩
   |bad e q=>rw[hr]at this;exact⟨by have:=this.1;omega,this.2⟩
 . exact⟨Nat.le_refl _,h,by decide,by decide⟩
theorem Lp {s:List UInt8} {p:Nat} (h:p<s.length):(Cl s p).within p s.length:=by
 have c:p<=(if s[p]? =some 45 then p+1 else p)/\(if s[p]? =some 45 then p+1 else p)<=s.length:=by split<;>omega
 have a:=Pz s (if s[p]? =some 45 then p+1 else p);have b:=P0 c.2;unfold Cl;generalize (if s[p]? =some 45 then p+1 else p)=F at c a b ⊢;unfold Lg Ec;generalize B6 s F=Q at a b ⊢
 repeat' split
 all_goals(unfold Rd.within;simp only;omega)
theorem B7 {s:List UInt8} {p:Nat} {c:UInt8} (h:s[p]? =some c):p<s.length:=(List.getElem?_eq_some_iff.1 h).1
def Aej {α:Type} (P:Program) (gf:Nat) (lb:Array Value) (encs:α->Array Value) (xs:List α) (N:World->Prop):Prop:=
 ∀(n l:Nat) (J:List α->World->Prop) (Jx:World->Prop) (W:World),(∀s A B,J s A->Below A.heap.size A B->J s B)->(∀A B,Jx A->Below A.heap.size A B->Jx B)->(∀s A,J s A->N A)->
  (∀pre x rest A,xs=pre++x::rest->J pre A->YieldAt Fence.wide n P l (encs x) A fun e B=>(e=.returned (.bool true)/\J (pre++ [x]) B)\/(e=.returned (.bool false)/\Jx B))->
  J [] W->CallsIn Fence.wide (n+1) P gf (#[.func (.yield l) #[] #[]]++lb) W fun e B=>(∃v,e=.returned v)/\(J xs B\/Jx B)
def Xq (I Ix:World->Prop) (d:Nat) (W:World):Exit->Act->World->Prop
 | .normal,_,W'=>W'.heap[d]? =W.heap[d]? /\W'.heap[d+1]? =W.heap[d+1]? /\I W'
 | .ret,_,W'=>W'.heap[d]? =W.heap[d]? /\W'.heap[d+1]? =W.heap[d+1]? /\Ix W'
 |_,_,_=>False
theorem Vi {y:Type} {P:Program} {g:Operand} {T:Array Tmp} {assign body:Code} {Q:Exit->Act->World->Prop} {a:Act} {w:World} {n:Nat}
 {gf:Nat} {lb:Array Value} (hg:a.eval g=.func (.func gf) #[] lb) (eg: ∀args w,(callFunc gf args).run P w=.ok (.enter gf args) w)
 {d:y->Array Value} {xs:List y} {N:World->Prop} (aa:Aej P gf lb d xs N) (ac: ∀x,(d x).size=T.size)
 (I:List y->World->Prop) (z:World->Prop) (hIn: ∀s A B,I s A->Below A.heap.size A B->I s B) (hXn: ∀A B,z A->Below A.heap.size A B->z B)
 (hXp: ∀A k o o',z A->A.heap[k]? =some o->o.isCells=false->(k=w.heap.size\/k=w.heap.size+1)->z (A.putObj k o'))
 (hIp: ∀s A k o o',I s A->A.heap[k]? =some o->o.isCells=false->(k=w.heap.size\/k=w.heap.size+1)->I s (A.putObj k o'))
 (hIb: ∀s A,I s A->N A) (h0:I [] w) (u:y->Act)
 (i: ∀(l:Nat) (x:y) (W:World) (K:Act->World->Prop),K (u x) W->
   assign.wpIn (Fence.wide.inRound l) n P (Exit.then K (fun _ _ _=>False)) {tmps:=(T.zip (d x)).foldl (fun t (p,v)=>t.setIfInBounds p v) a.tmps,defers:= []} W)
 (D: ∀(l:Nat) (pre:List y) (x:y) (rest:List y) (W:World),xs=pre++x::rest->I pre W->(∃ds,W.heap[w.heap.size]? =some (.deferred ds))->(∃r,W.heap[w.heap.size+1]? =some (.loop r))->
   body.wpIn (Fence.wide.inRound l) n P (Xq (I (pre++ [x])) z w.heap.size W) (u x) W)
 (L: ∀(W:World),z W->W.heap[w.heap.size]? =some (.deferred (some []))->Code.ret.wpIn Fence.wide (n+1+1) P Q {a with defers:={target:=.collected w.heap.size,args:= #[]}::a.defers} W)
 (E: ∀(W:World),I xs W->W.heap[w.heap.size]? =some (.deferred (some []))->Q .normal {a with defers:={target:=.collected w.heap.size,args:= #[]}::a.defers} W):
 (Code.rangeFunc g T assign body).wpIn Fence.wide (n+1+1) P Q a w:=by
 refine wpIn_rangeFunc ?_;intro fn ae;have ad:Fence.wide.round=none:=rfl;rw[ad];obtain⟨rec,b⟩: ∃rec:LoopState->Option Code->Loop,rec=fun st pe=>{state:=st,pending:=pe,fn,tmps:=a.tmps,params:=T,assign,body,defers:=w.heap.size}:=⟨_,rfl⟩;obtain⟨m,q⟩: ∃m,(w.alloc (.deferred (some []))).alloc (.loop (rec .ready none))=m:=⟨_,rfl⟩;have Z:m.heap[w.heap.size+1]? =some (.loop (rec .ready none)):=by
  rw[<-q];have:=World.alloc_heap_new (w.alloc (.deferred (some []))) (.loop (rec .ready none));rwa [World.size_alloc]at this
 have Y:m.heap[w.heap.size]? =some (.deferred (some [])):=by
  rw[<-q];exact(Below.heap_alloc _ _ _ (by simp)).trans (World.alloc_heap_new w _)
 have X:I [] m:=by
  rw[<-q];exact hIn _ _ _ h0 (((Below.refl _ w).alloc (Nat.le_refl _) _).alloc (by simp) _)
 refine⟨w.heap.size+1, [{target:=.collected w.heap.size,args:= #[]}],m,{target:=.fn (.func gf) lb,args:= #[.func (.yield (w.heap.size+1)) #[] #[]]},m,gf,
  #[.func (.yield (w.heap.size+1)) #[] #[]]++lb,m, ?_, ?_, ?_, ?_,fun h=>by simp[Fence.wide]at h, ?_⟩
 . rw[<-q,b];exact run_enterLoop_outer _ _ _ _ _
 . simp only[resolve,hg];simp[go_sem]
 . intro f' _;trivial
 . simp[invoke,go_sem,eg]
 . refine(aa n (w.heap.size+1)
    (fun pre W=>I pre W/\W.heap[w.heap.size+1]? =some (.loop (rec .ready none))/\W.heap[w.heap.size]? =some (.deferred (some [])))
    (fun W=>z W/\W.heap[w.heap.size+1]? =some (.loop (rec .done (some .ret)))/\W.heap[w.heap.size]? =some (.deferred (some [])))
    m (fun s A B f C=>⟨hIn s A B f.1 C,(C.block _ (Array.getElem?_eq_some_iff.1 f.2.1).1).trans f.2.1,(C.block _ (Array.getElem?_eq_some_iff.1 f.2.2).1).trans f.2.2⟩)
    (fun A B f C=>⟨hXn A B f.1 C,(C.block _ (Array.getElem?_eq_some_iff.1 f.2.1).1).trans f.2.1,(C.block _ (Array.getElem?_eq_some_iff.1 f.2.2).1).trans f.2.2⟩)
    (fun s A f=>hIb s A f.1) ?_ ⟨X,Z,Y⟩).mono ?_
   ·
    rintro pre x rest W hx ⟨O,j,R⟩;have ab:w.heap.size+1<W.heap.size:=(Array.getElem?_eq_some_iff.1 j).1;have hy:=run_yield (P:=P) (args:=d x) j (by rw[b];exact ac x);rw[b]at hy;refine⟨fn,_,assign,body,hy,roundIn_of_wpIn trivial (i _ x W _ ⟨_,run_beginRound j (by rw[b]), ?_⟩)⟩;have J:(W.putObj (w.heap.size+1) (.loop {rec .ready none with state:=.busy})).heap[w.heap.size+1]? =some (.loop {rec .ready none with state:=.busy}):=World.putObj_heap_same ab;have G:(W.putObj (w.heap.size+1) (.loop {rec .ready none with state:=.busy})).heap[w.heap.size]? =some (.deferred (some [])):=(World.putObj_heap_other (by omega)).trans R;refine wpIn_mono (D _ pre x rest _ hx (hIp _ _ _ _ _ O j rfl (.inr rfl)) ⟨_,G⟩ ⟨_,J⟩) ?_;rintro e a3 W3 M
    cases e with
    |normal=>
     obtain⟨U,V,F⟩:=M;have c:=V.trans J;have H:=U.trans G;have S:=run_endRound (P:=P) none c;rw[b]at S;refine⟨_,_,S,.inl ⟨rfl,hIp _ _ _ _ _ F c rfl (.inr rfl), ?_, ?_⟩⟩
     . rw[World.putObj_heap_same (Array.getElem?_eq_some_iff.1 c).1,b];rfl
     . exact(World.putObj_heap_other (by omega)).trans H
    |ret=>
     obtain⟨U,V,F⟩:=M;have c:=V.trans J;have H:=U.trans G;have S:=run_endRound (P:=P) (some .ret) c;rw[b]at S;refine⟨_,_,S,.inr ⟨rfl,hXp _ _ _ _ F c rfl (.inr rfl), ?_, ?_⟩⟩
     . rw[World.putObj_heap_same (Array.getElem?_eq_some_iff.1 c).1,b];rfl
     . exact(World.putObj_heap_other (by omega)).trans H
    |exit id=>exact M.elim
    |goto t=>exact M.elim
    |panic ch=>exact M.elim
    |outgrown=>exact M.elim
   ·
    rintro e W2 ⟨⟨v,rfl⟩,⟨O,j,R⟩|⟨O,j,R⟩⟩
    . exact⟨none,_,by have:=run_endLoop (P:=P) j (by rw[b];simp);rw[b]at this;exact this,E _ (hIp _ _ _ _ _ O j rfl (.inr rfl)) ((World.putObj_heap_other (by omega)).trans R)⟩
    . exact⟨some .ret,_,by have:=run_endLoop (P:=P) j (by rw[b];simp);rw[b]at this;exact this,L _ (hXp _ _ _ _ O j rfl (.inr rfl)) ((World.putObj_heap_other (by omega)).trans R)⟩
end Go.Proofs.YtjgfchcldhmjcaaGreatDoor
