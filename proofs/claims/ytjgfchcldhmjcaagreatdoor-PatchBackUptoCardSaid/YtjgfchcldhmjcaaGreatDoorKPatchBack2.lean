/- Parts: Arguments of the Parse laws that are opened beside the trees: texts, rows of bytes. No condition. -/
import Derived.Test.YtjgfchcldhmjcaaGreatDoorRows
import Derived.Deep.Slices
import Derived.WideKeyArgs
import Derived.ChangeSame
import Derived.OpenShut
import Derived.Deep.DeepHandedRow
import Derived.Test.YtjgfchcldhmjcaaGreatDoorKPp15
set_option maxRecDepth 100000
namespace Go.Proofs.YtjgfchcldhmjcaaGreatDoor
open Go.RowKit Go.ChangeShapes Go.WideShapes
theorem Xe:Tryz.prog.cellsOf 42=6:=by kernel_rfl
theorem Ahy:Tryz.prog.cellsOf 111=7:=by kernel_rfl
theorem K7:Tryz.prog.cellsOf 9=1:=by kernel_rfl
theorem Ab8:Tryz.prog.cellsOf 38=1:=by kernel_rfl
theorem Ab7:Tryz.prog.cellsOf 4=1:=by kernel_rfl
theorem Afd:Tryz.prog.cellsOf 2=1:=by kernel_rfl
theorem Ah1:Tryz.prog.cellsOf 39=1:=by kernel_rfl
theorem Ah0:Tryz.prog.cellsOf 40=1:=by kernel_rfl
section
variable {H:Type} {enc:TypeId×Value->H} {w:World} {sp:Nat->Bool} {held:Bool}
def Ahk (enc:TypeId×Value->H) (w:World) (sp:Nat->Bool) (held:Bool) (n:Nat):Prop:= ∀(cs:List Value) (x:DataW H×List MemPlace),DataW.trod enc Tryz.prog w 0 sp held n 42 cs=some x->
    ∃v,Ab w w.heap.size v cs/\I9 v/\v.bulk<=Rows.uptoBulk x.1
theorem Agy {cs:List Value} (h:cs.length=6): ∃c0 c1 c2 c3 c4 c5,cs= [c0,c1,c2,c3,c4,c5]:=by
 match cs,h with
 | [c0,c1,c2,c3,c4,c5],_=>exact⟨_,_,_,_,_,_,rfl⟩
theorem Abf {b:Type} {cs:List b} (h:cs.length=7): ∃c0 c1 c2 c3 c4 c5 a,cs= [c0,c1,c2,c3,c4,c5,a]:=by
 match cs,h with
 | [c0,c1,c2,c3,c4,c5,a],_=>exact⟨_,_,_,_,_,_,_,rfl⟩
theorem St {g a n:Nat} {cs:List Value} (i:0<n) (h:w.cells? 0 ⟨g,a,none⟩ n=some cs):g<w.heap.size/\ ∀j u,cs[j]? =some u->w.cell? ⟨g,a+j,none⟩=some u:=by
 obtain⟨_,e,f⟩:=World.cells?_some h;have d: ∀j u,cs[j]? =some u->w.cell? ⟨g,a+j,none⟩=some u:=by
  intro j u b;have c:j<n:=by
   have:=(List.getElem?_eq_some_iff.1 b).1;omega
  have:=f j c;rw[add_plain]at this;rw[<-b];exact this
 refine⟨?_,d⟩;have h0: ∃u,cs[0]? =some u:=⟨cs[0]'(by omega),List.getElem?_eq_getElem (by omega)⟩;obtain⟨u,b⟩:=h0;exact World.block_lt_of_cell? _ _ (d 0 u b)
theorem Tw {n:Nat} (b:Ahk enc w sp held n): ∀(elems:List (DataW H×List MemPlace)) (g off:Nat),
 (∀i,i<elems.length->(w.cells? 0 ⟨g,off+i*6,none⟩ 6).bind (DataW.trod enc Tryz.prog w 0 sp held n 42)=elems[i]?)->
 ∃l,l.length=elems.length/\Aq w w.heap.size l g off/\Na l/\A5 l<=Rows.uptoBulkAll (elems.map (·.1))
 | [],_,_,_=>⟨[],rfl,by simp[Aq],by simp[Na],by simp[A5]⟩
 |y::r,g,off,h=>by
  obtain⟨l,c,d,e,o⟩:=Tw b r g (off+6) (fun i j=>by
   have:=h (i+1) (by simpa using j);rw[show off+(i+1)*6=off+6+i*6 from by omega]at this;simpa using this)
  have h0:=h 0 (by simp);simp only[Nat.zero_mul,Nat.add_zero,List.getElem?_cons_zero]at h0;obtain⟨cs,a,k⟩:=Option.bind_eq_some_iff.1 h0;obtain⟨v,v1,m,p⟩:=b cs y k;obtain⟨_,f⟩:=St (by omega) a;refine⟨v::l,by simp[c], ?_, ?_, ?_⟩
  . simp only[Aq];exact⟨⟨cs,v1,f⟩,d⟩
  . simp only[Na];exact⟨m,e⟩
  . simp only[A5,List.map_cons,Rows.uptoBulkAll];omega
theorem Pf {n:Nat} (f: ∀m,m<n->Ahk enc w sp held m): ∀(elems:List (DataW H×List MemPlace)) (g off:Nat),
 (∀i,i<elems.length->(w.cells? 0 ⟨g,off+i*7,none⟩ 7).bind (DataW.trod enc Tryz.prog w 0 sp held n 111)=elems[i]?)->
 ∃l,l.length=elems.length/\An w w.heap.size l g off/\I6 l/\Af l<=Rows.uptoBulkAll (elems.map (·.1))
 | [],_,_,_=>⟨[],rfl,by simp[An],by simp[I6],by simp[Af]⟩
 |y::r,g,off,h=>by
  obtain⟨l,s,t,x,F⟩:=Pf f r g (off+7) (fun i z=>by
   have:=h (i+1) (by simpa using z);rw[show off+(i+1)*7=off+7+i*7 from by omega]at this;simpa using this)
  have h0:=h 0 (by simp);simp only[Nat.zero_mul,Nat.add_zero,List.getElem?_cons_zero]at h0;obtain⟨cs,d,D⟩:=Option.bind_eq_some_iff.1 h0;obtain⟨_,o⟩:=St (by omega) d;obtain⟨xs,m,rfl,rfl,B,a,p⟩:=DataW.trod_struct Tryz.underlying111 D;have e:cs.length=7:=B.trans Ahy;obtain⟨c0,c1,c2,c3,c4,c5,k,rfl⟩:=Abf e;have b:DataW.trod enc Tryz.prog w 0 sp held m 9 (([c0,c1,c2,c3,c4,c5,k].drop 0).take (Tryz.prog.cellsOf 9))=xs[0]? :=p 0 _ rfl;have c:DataW.trod enc Tryz.prog w 0 sp held m 42 (([c0,c1,c2,c3,c4,c5,k].drop 1).take (Tryz.prog.cellsOf 42))=xs[1]? :=p 1 _ rfl;simp only[K7,Xe,List.drop_zero,List.drop_succ_cons,List.take_succ_cons,List.take_zero]at b c
  match xs,a with
  | [y0,y1],_=>
    simp only[List.getElem?_cons_zero,List.getElem?_cons_succ]at b c;obtain⟨key,q,rfl,_⟩:=DataW.trod_string Tryz.underlying9 b;obtain⟨v,v1,E,G⟩:=f m (by omega) _ _ c;simp only[List.cons.injEq,and_true]at q;subst q;refine⟨(key,v)::l,by simp[s], ?_, ?_, ?_⟩
    . simp only[An,Ku];refine⟨⟨o 0 _ rfl,_,v1,fun j u C=> ?_⟩,t⟩;rw[Nat.add_assoc,Nat.add_comm 1 j];exact o (j+1) u C
    . simp only[I6,inP];exact⟨E,x⟩
    . have A:key.data.toList.length=key.size:=(by rw[Array.length_toList];rfl);simp only[Af,E7,List.map_cons,List.map_nil,Rows.uptoBulkAll,Rows.uptoBulk];omega
theorem U1 {n:Nat} {c4:Value} {p:DataW H×List MemPlace} (r: ∀m,m<n->Ahk enc w sp held m) (t:DataW.trod enc Tryz.prog w 0 sp held n 39 [c4]=some p):
 ∃l o z,c4=.slice o (l:List Val).length z/\(l= []\/ ∃g b,o=some ⟨g,b,none⟩/\g<w.heap.size/\Aq w w.heap.size l g b)/\Na l/\1+A5 l<=Rows.uptoBulk p.1:=by
 rcases DataW.trod_slice Tryz.underlying39 t with⟨e,rfl⟩|⟨a,len,cap,elems,rest,q,hn,e,rfl,_,_,_,hlen',hel,_,_⟩
 . simp only[List.cons.injEq,and_true]at e;exact⟨[],none,0,e,.inl rfl,by simp[Na],by simp[A5,Rows.uptoBulk]⟩
 . simp only[List.cons.injEq,and_true]at e;subst e;by_cases h0:len=0
   . subst h0;exact⟨[],some a,cap,rfl,.inl rfl,by simp[Na],by simp[A5,Rows.uptoBulk]⟩
   . obtain⟨g,b,h⟩:=a;rw[Xe]at hel;have k:=hel 0 (by omega);rw[List.getElem?_eq_getElem (by omega)]at k;obtain⟨s,f,_⟩:=Option.bind_eq_some_iff.1 k;obtain⟨_,y,j⟩:=World.cells?_some f;have c:=j 0 (by omega);rw[List.getElem?_eq_getElem (by omega)]at c;have d:h=none:=by simpa[Addr.add]using World.cell?_spot c
     subst d;simp only[add_plain]at hel c;obtain⟨l,u,v,x,A⟩:=Tw (r q (by omega)) elems g b (fun i B=>hel i (by omega));refine⟨l,_,cap,by rw[u,hlen'],.inr ⟨g,b,rfl,World.block_lt_of_cell? _ _ c,v⟩,x, ?_⟩;simp only[Rows.uptoBulk];omega
theorem U2 {n:Nat} {c5:Value} {p:DataW H×List MemPlace} (r: ∀m,m<n->Ahk enc w sp held m) (f5:DataW.trod enc Tryz.prog w 0 sp held n 40 [c5]=some p):
 ∃l o y,c5=.slice o (l:List (ByteArray×Val)).length y/\(l= []\/ ∃g b,o=some ⟨g,b,none⟩/\g<w.heap.size/\An w w.heap.size l g b)/\I6 l/\1+Af l<=Rows.uptoBulk p.1:=by
 rcases DataW.trod_slice Tryz.underlying40 f5 with⟨e,rfl⟩|⟨a,len,cap,elems,rest,q,hn,e,rfl,_,_,_,hlen',hel,_,_⟩
 . simp only[List.cons.injEq,and_true]at e;exact⟨[],none,0,e,.inl rfl,by simp[I6],by simp[Af,Rows.uptoBulk]⟩
 . simp only[List.cons.injEq,and_true]at e;subst e;by_cases h0:len=0
   . subst h0;exact⟨[],some a,cap,rfl,.inl rfl,by simp[I6],by simp[Af,Rows.uptoBulk]⟩
   . obtain⟨g,b,h⟩:=a;rw[Ahy]at hel;have k:=hel 0 (by omega);rw[List.getElem?_eq_getElem (by omega)]at k;obtain⟨s,f,_⟩:=Option.bind_eq_some_iff.1 k;obtain⟨_,x,j⟩:=World.cells?_some f;have c:=j 0 (by omega);rw[List.getElem?_eq_getElem (by omega)]at c;have d:h=none:=by simpa[Addr.add]using World.cell?_spot c
     subst d;simp only[add_plain]at hel c;obtain⟨l,t,u,v,z⟩:=Pf (n:=q) (fun m B=>r m (by omega)) elems g b (fun i A=>hel i (by omega));refine⟨l,_,cap,by rw[t,hlen'],.inr ⟨g,b,rfl,World.block_lt_of_cell? _ _ c,u⟩,v, ?_⟩;simp only[Rows.uptoBulk];omega
theorem Ac9: ∀n,Ahk enc w sp held n:=by
 intro n
 induction n using Nat.strongRecOn with
 |_ n IH=>
  intro cs x G;obtain⟨xs,m,rfl,rfl,D,c,a⟩:=DataW.trod_struct Tryz.underlying42 G;have r:cs.length=6:=D.trans Xe;obtain⟨c0,c1,c2,c3,c4,c5,rfl⟩:=Agy r;have e:DataW.trod enc Tryz.prog w 0 sp held m 38 (([c0,c1,c2,c3,c4,c5].drop 0).take (Tryz.prog.cellsOf 38))=xs[0]? :=a 0 _ rfl;have f:DataW.trod enc Tryz.prog w 0 sp held m 4 (([c0,c1,c2,c3,c4,c5].drop 1).take (Tryz.prog.cellsOf 4))=xs[1]? :=a 1 _ rfl;have g:DataW.trod enc Tryz.prog w 0 sp held m 2 (([c0,c1,c2,c3,c4,c5].drop 2).take (Tryz.prog.cellsOf 2))=xs[2]? :=a 2 _ rfl;have h:DataW.trod enc Tryz.prog w 0 sp held m 9 (([c0,c1,c2,c3,c4,c5].drop 3).take (Tryz.prog.cellsOf 9))=xs[3]? :=a 3 _ rfl;have j:DataW.trod enc Tryz.prog w 0 sp held m 39 (([c0,c1,c2,c3,c4,c5].drop 4).take (Tryz.prog.cellsOf 39))=xs[4]? :=a 4 _ rfl;have f5:DataW.trod enc Tryz.prog w 0 sp held m 40 (([c0,c1,c2,c3,c4,c5].drop 5).take (Tryz.prog.cellsOf 40))=xs[5]? :=a 5 _ rfl;simp only[Ab8,Ab7,Afd,K7,Ah1,Ah0,List.drop_zero,List.drop_succ_cons,List.take_succ_cons,List.take_zero]at e f g h j f5
  match xs,c with
  | [y0,y1,y2,y3,y4,y5],_=>
    simp only[List.getElem?_cons_zero,List.getElem?_cons_succ]at e f g h j f5;obtain⟨k,s,rfl,_⟩:=DataW.trod_int Tryz.underlying38 e;obtain⟨b,u,rfl⟩:=DataW.trod_bool Tryz.underlying4 f;obtain⟨i,v,rfl,d⟩:=DataW.trod_int Tryz.underlying2 g;obtain⟨t,y,rfl,_⟩:=DataW.trod_string Tryz.underlying9 h;simp only[List.cons.injEq,and_true]at s u v y;subst s u v y;have p: -9223372036854775808<=i/\i<=9223372036854775807:=by
     have z:IntKind.i64.min= -9223372036854775808:=by decide
     have A:IntKind.i64.max=9223372036854775807:=by decide
     simp only[Lit.wf,z,A,Bool.and_eq_true,decide_eq_true_eq]at d;exact d
    have F:t.data.toList.length=t.size:=(by rw[Array.length_toList];rfl);have B:=U1 (fun q E=>IH q (by omega)) j;have C:=U2 (fun q E=>IH q (by omega)) f5;obtain⟨l,J,K,rfl,H,I,O⟩:=B;obtain⟨o,N,oc,rfl,L,M,P⟩:=C;refine⟨.mk k b i t l o, ?_, ?_, ?_⟩
    . simp only[Ab];exact⟨J,K,N,oc,rfl,H,L⟩
    . simp only[I9];exact⟨p,I,M⟩
    . simp only[Val.bulk,List.map_cons,List.map_nil,Rows.uptoBulkAll,Rows.uptoBulk];omega
end
theorem Ai2:laidOutB Tryz.prog=true:=by kernel_rfl
theorem Alz {H:Type} {enc:TypeId×Value->H} {W f:World} {t:TypeId} {v:Value} {d:DataW H} {e:List MemPlace} {c:Nat->Bool} (l:Tryz.prog.readableRec t=true) (n:t<Tryz.prog.types.size)
 (h:DataW.Trod enc Tryz.prog W 0 (fun _=>true) true t v d e) (g: ∀p ∈ e,p.block<W.heap.size) (i:Below W.heap.size W f) (m: ∀p ∈ e,c p.block=true):DataW.Trod enc Tryz.prog f 0 c true t v d e:=by
 refine Go.WideElems.Trod_stays Ai2 l n h (fun p k=> ?_) m;have j:=g p k
 cases p with
 |cell b off=>exact World.cell?_of_block (w:=W) (w':=f) (a:=⟨b,off,none⟩) (i.block b j)
 |map b=>exact i.block b j
theorem Ahz:Tryz.prog.cellsOf 80=8:=by kernel_rfl
theorem Ah2:Tryz.prog.cellsOf 78=1:=by kernel_rfl
theorem Zs {c:Type} {cs:List c} (h:cs.length=8): ∃c0 c1 c2 c3 c4 c5 a b,cs= [c0,c1,c2,c3,c4,c5,a,b]:=by
 match cs,h with
 | [c0,c1,c2,c3,c4,c5,a,b],_=>exact⟨_,_,_,_,_,_,_,_,rfl⟩
section
variable {H:Type} {enc:TypeId×Value->H} {w:World} {sp:Nat->Bool} {held:Bool}
theorem Aan {n:Nat}: ∀(elems:List (DataW H×List MemPlace)) (g off:Nat),
 (∀i,i<elems.length->(w.cells? 0 ⟨g,off+i*8,none⟩ 8).bind (DataW.trod enc Tryz.prog w 0 sp held n 80)=elems[i]?)->
 ∃l:List POp,l.length=elems.length/\(∃ns,Ah w w.heap.size (Eo l) ns/\ ∀j u,ns[j]? =some u->w.cell? ⟨g,off+j,none⟩=some u)/\inQ l/\Da l<=Rows.uptoBulkAll (elems.map (·.1))
 | [],_,_,_=>⟨[],rfl,⟨[],rfl,fun j u h=>by simp at h⟩,fun p e=>(by cases e),by simp[Da]⟩
 |y::r,g,off,h=>by
  obtain⟨l,D,⟨ns,E,t⟩,F,N⟩:=Aan r g (off+8) (fun i I=>by
   have:=h (i+1) (by simpa using I);rw[show off+(i+1)*8=off+8+i*8 from by omega]at this;simpa using this)
  have h0:=h 0 (by simp);simp only[Nat.zero_mul,Nat.add_zero,List.getElem?_cons_zero]at h0;obtain⟨cs,x,L⟩:=Option.bind_eq_some_iff.1 h0;obtain⟨_,G⟩:=St (by omega) x;obtain⟨xs,m,rfl,rfl,K,d,z⟩:=DataW.trod_struct Tryz.underlying80 L;have A:cs.length=8:=K.trans Ahz;obtain⟨c0,c1,c2,c3,c4,c5,a,b,rfl⟩:=Zs A;have o:DataW.trod enc Tryz.prog w 0 sp held m 78 (([c0,c1,c2,c3,c4,c5,a,b].drop 0).take (Tryz.prog.cellsOf 78))=xs[0]? :=z 0 _ rfl;have q:DataW.trod enc Tryz.prog w 0 sp held m 9 (([c0,c1,c2,c3,c4,c5,a,b].drop 1).take (Tryz.prog.cellsOf 9))=xs[1]? :=z 1 _ rfl;have s:DataW.trod enc Tryz.prog w 0 sp held m 42 (([c0,c1,c2,c3,c4,c5,a,b].drop 2).take (Tryz.prog.cellsOf 42))=xs[2]? :=z 2 _ rfl;simp only[Ah2,K7,Xe,List.drop_zero,List.drop_succ_cons,List.take_succ_cons,List.take_zero]at o q s
  match xs,d with
  | [y0,y1,y2],_=>
    simp only[List.getElem?_cons_zero,List.getElem?_cons_succ]at o q s;obtain⟨k,c,rfl,_⟩:=DataW.trod_int Tryz.underlying78 o;obtain⟨key,C,rfl,_⟩:=DataW.trod_string Tryz.underlying9 q;obtain⟨v,v1,M,O⟩:=Ac9 m _ _ s;simp only[List.cons.injEq,and_true]at C c;subst C c;refine⟨⟨k,key,v⟩::l,by simp[D],⟨.int .i64 k:: .string key::([c2,c3,c4,c5,a,b]++ns),⟨.int .i64 k:: .string key:: [c2,c3,c4,c5,a,b],ns,rfl,⟨[.int .i64 k],.string key:: [c2,c3,c4,c5,a,b],rfl,⟨rfl,rfl⟩, [.string key], [c2,c3,c4,c5,a,b],rfl,⟨rfl,rfl⟩, [c2,c3,c4,c5,a,b], [],by simp,Fl _ _ v1,rfl⟩,E⟩,fun j u f=> ?_⟩, ?_, ?_⟩
    . by_cases B:j<8
      . refine G j u ?_;rw[show Value.int .i64 k:: .string key::([c2,c3,c4,c5,a,b]++ns)= [Value.int .i64 k,.string key,c2,c3,c4,c5,a,b]++ns from rfl,List.getElem?_append_left (by simpa using B)]at f;exact f
      . rw[show Value.int .i64 k:: .string key::([c2,c3,c4,c5,a,b]++ns)= [Value.int .i64 k,.string key,c2,c3,c4,c5,a,b]++ns from rfl,List.getElem?_append_right (by simpa using B)]at f;have:=t (j - 8) u f
        rwa [show off+8+(j - 8)=off+j from by omega]at this
    . intro p e;rcases List.mem_cons.1 e with rfl|e
      . exact M
      . exact F p e
    . have J:key.data.toList.length=key.size:=(by rw[Array.length_toList];rfl);simp only[Da,List.map_cons,List.map_nil,Rows.uptoBulkAll,Rows.uptoBulk];omega
theorem X8 {n:Nat} {c4:Value} {r:DataW H×List MemPlace} (t:DataW.trod enc Tryz.prog w 0 sp held n 50 [c4]=some r):
 ∃(l:List POp) (la:Option Addr) (ln lc:Nat),c4=.slice la ln lc/\Ag w w.heap.size (.row 8 (Eo l)) [.slice la ln lc]/\inQ l/\1+Da l<=Rows.uptoBulk r.1:=by
 rcases DataW.trod_slice Tryz.underlying50 t with⟨e,rfl⟩|⟨a,len,cap,elems,rest,q,hn,e,rfl,_,_,_,hlen',hel,_,_⟩
 . simp only[List.cons.injEq,and_true]at e;exact⟨[],none,0,0,e,⟨none,0,rfl,Py _, [],rfl,.inl rfl⟩,fun p m=>(by cases m),by simp[Da,Rows.uptoBulk]⟩
 . simp only[List.cons.injEq,and_true]at e;subst e;by_cases h0:len=0
   . subst h0;exact⟨[],some a,0,cap,rfl,⟨some a,cap,rfl,Py _, [],rfl,.inl rfl⟩,fun p m=>(by cases m),by simp[Da,Rows.uptoBulk]⟩
   . obtain⟨g,f,h⟩:=a;rw[Ahz]at hel;have o:=hel 0 (by omega);rw[List.getElem?_eq_getElem (by omega)]at o;obtain⟨s,d,_⟩:=Option.bind_eq_some_iff.1 o;obtain⟨_,y,k⟩:=World.cells?_some d;have b:=k 0 (by omega);rw[List.getElem?_eq_getElem (by omega)]at b;have c:h=none:=by simpa[Addr.add]using World.cell?_spot b
     subst c;simp only[add_plain]at hel b;obtain⟨l,u,⟨ns,v,j⟩,x,z⟩:=Aan elems g f (fun i A=>hel i (by omega));refine⟨l,_,len,cap,rfl,⟨_,cap,by rw[E8,u,hlen'],Py _,ns,v,.inr ⟨g,f,rfl,World.block_lt_of_cell? _ _ b,j⟩⟩,x, ?_⟩;simp only[Rows.uptoBulk];omega
theorem X7 {base:Nat} {b:Value} {d:DataW H} {g:List MemPlace} (f:Value.okWide Tryz.prog w .any base 50 b) (h:DataW.Trod enc Tryz.prog w 0 sp held 50 b d g):
 ∃(l:List POp) (la:Option Addr) (ln lc:Nat),b=.slice la ln lc/\Ag w w.heap.size (.row 8 (Eo l)) [.slice la ln lc]/\inQ l/\1+Da l<=Rows.uptoBulk d:=by
 obtain⟨a,len,c,rfl⟩:=okWide_slice Tryz.underlying50 f;obtain⟨fuel,e⟩:=h;exact X8 e
end
end Go.Proofs.YtjgfchcldhmjcaaGreatDoor
namespace Go.Proofs.YtjgfchcldhmjcaaGreatDoor
open Go.RowKit Go.ChangeShapes Go.WideShapes Go.ChangeAt
section
variable {H:Type} {enc:TypeId×Value->H} {w:World} {sp:Nat->Bool} {held:Bool}
set_option maxRecDepth 10000 in
theorem R5 {base:Nat} {a:Value} {d:DataW H} {g:List MemPlace} (f:Value.okWide Tryz.prog w .any base 9 a) (h:DataW.Trod enc Tryz.prog w 0 sp held 9 a d g):
 ∃s:ByteArray,a=.string s/\s.size+1<=Rows.uptoBulk d:=by
 obtain⟨s,rfl⟩:=okWide_string Tryz.underlying9 f;obtain⟨fuel,e⟩:=h;obtain⟨i,b,c,_⟩:=DataW.trod_string Tryz.underlying9 e;simp only[Value.cells,List.cons.injEq,Value.string.injEq,and_true]at b;subst b;simp only[Prod.mk.injEq]at c;refine⟨s,rfl, ?_⟩;rw[c.1];simp only[Rows.uptoBulk];rw[Array.length_toList];exact Nat.le_refl _
end
end Go.Proofs.YtjgfchcldhmjcaaGreatDoor
