/- Parts: Maps by what they answer: an entry stored in a region that draws its order, an entry looked up. Plain. No condition. -/
import Derived.Lib.Builder
import Derived.Deep.MidRow
import Derived.Lib.RuneBytes
import Derived.Laws.IdiomStrings
import Derived.Deep.RegionHeld3
import Derived.Test.YtjgfchcldhmjcaaGreatDoorKPp3
import Derived.Test.YtjgfchcldhmjcaaGreatDoorKPp4
set_option maxHeartbeats 20000000
set_option maxRecDepth 100000
namespace Go.Proofs.YtjgfchcldhmjcaaGreatDoor
open Go.RowKit
def J3 (w:World) (B:Nat):List Val->List Value->Prop
 | [],ns=>ns= []
 |v::r,ns=> ∃cs rest,ns=cs++rest/\Ab w B v cs/\J3 w B r rest
theorem Ab.len {w:World} {B:Nat} {v:Val} {cs:List Value} (h:Ab w B v cs):cs.length=6/\ ∀u ∈ cs,u.oneCell'=true:=by
 obtain⟨k,b,n,t,l,o⟩:=v;simp only[Ab]at h;obtain⟨c,d,e,oc,rfl,_,_⟩:=h;refine⟨rfl,fun u a=> ?_⟩;simp only[List.mem_cons,List.not_mem_nil,or_false]at a;rcases a with rfl|rfl|rfl|rfl|rfl|rfl<;>rfl
theorem J3.len {w:World} {B:Nat}: ∀{l:List Val} {ns:List Value},J3 w B l ns->ns.length=l.length*6/\ ∀u ∈ ns,u.oneCell'=true
 | [],ns,h=>by
   have:ns= []:=h;subst this;exact⟨rfl,fun u a=>by cases a⟩
 |v::r,ns,h=>by
  obtain⟨cs,rest,rfl,e,f⟩:=h;obtain⟨a1,b⟩:=e.len;obtain⟨c,d⟩:=J3.len f;refine⟨by rw[List.length_append,a1,c,List.length_cons];omega,fun u a=> ?_⟩;rcases List.mem_append.1 a with a|a
  . exact b u a
  . exact d u a
theorem Aq.row {w:World} {B:Nat}: ∀{l:List Val} {g off:Nat},Aq w B l g off-> ∃ns,J3 w B l ns/\ ∀j u,ns[j]? =some u->w.cell? ⟨g,off+j,none⟩=some u
 | [],_,_,_=>⟨[],rfl,fun j u h=>by simp at h⟩
 |v::r,g,off,h=>by
  simp only[Aq]at h;obtain⟨⟨cs,b,c⟩,d⟩:=h;obtain⟨ns,e,f⟩:=Aq.row d;refine⟨cs++ns,⟨cs,ns,rfl,b,e⟩,fun j u a=> ?_⟩;have i:=b.len.1;by_cases k:j<6
  . rw[List.getElem?_append_left (by omega)]at a;exact c j u a
  . rw[List.getElem?_append_right (by omega),i]at a;have:=f (j - 6) u a
    rwa [show off+6+(j - 6)=off+j from by omega]at this
theorem J3.holds {w w':World} {B B':Nat} (c: ∀v cs,Ab w B v cs->Ab w' B' v cs) {g:Nat}: ∀{l:List Val} {ns:List Value} {off:Nat},J3 w B l ns->(∀j u,ns[j]? =some u->w'.cell? ⟨g,off+j,none⟩=some u)->Aq w' B' l g off
 | [],_,_,_,_=>by simp[Aq]
 |v::r,ns,off,h,hc=>by
  obtain⟨cs,rest,rfl,b,d⟩:=h;have e:=b.len.1;simp only[Aq];refine⟨⟨cs,c v cs b,fun j u a=>hc j u ?_⟩,J3.holds c d (fun j u a=> ?_)⟩
  . have:=(List.getElem?_eq_some_iff.1 a).1;rw[List.getElem?_append_left this];exact a
  . rw[show off+6+j=off+(6+j)from by omega];refine hc (6+j) u ?_;rw[List.getElem?_append_right (by omega),e,show 6+j - 6=j from by omega];exact a
theorem J3.snoc {w:World} {B:Nat} {v:Val} {cs:List Value} (a:Ab w B v cs): ∀{l:List Val} {ns:List Value},J3 w B l ns->J3 w B (l++ [v]) (ns++cs)
 | [],ns,h=>by
   have:ns= []:=h;subst this;exact⟨cs, [],by simp,a,rfl⟩
 |x::r,ns,h=>by
  obtain⟨c1,rest,rfl,b,c⟩:=h;exact⟨c1,rest++cs,by simp,b,J3.snoc a c⟩
def within:Val->List Val
 | .mk k _ _ _ l o=>if k=5 then l else if k=6 then o.map (·.2)else []
theorem Uc {cs:List Value} (h:cs.length=6): ∃c0 c1 c2 c3 c4 c5,cs= [c0,c1,c2,c3,c4,c5]:=by
 match cs,h with
 | [c0,c1,c2,c3,c4,c5],_=>exact⟨_,_,_,_,_,_,rfl⟩
def Lu (w w':World) (v:Val) (cs:List Value):Prop:= ∀w'':World,w'.heap.size<=w''.heap.size->(∀p:Addr,w.heap.size<=p.block->p.block<w'.heap.size->w''.cell? p=w'.cell? p)->Ab w'' w'.heap.size v cs
theorem J3.more {w:World} {B B':Nat} (h:B<=B'): ∀{l:List Val} {ns:List Value},J3 w B l ns->J3 w B' l ns
 | [],_,e=>e
 |_::_,_,⟨cs,rest,e,h1,h2⟩=>⟨cs,rest,e,Ab.more h _ _ h1,J3.more h h2⟩
theorem Ae4 (key:ByteArray) {cs:List Value} (h: ∀u ∈ cs,u.oneCell'=true): ∀u ∈ Value.string key::cs,u.oneCell'=true:=by
 intro u a;rcases List.mem_cons.1 a with rfl|a
 . rfl
 . exact h u a
theorem Gd {w:World} {g:Nat} {a a1 b c d e:Value} (h:w.heap[g]? =some (.cells #[a,a1,b,c,d,e] 42 (0,0))):
 w.cell? ⟨g,0,none⟩=some a/\w.cell? ⟨g,1,none⟩=some a1/\w.cell? ⟨g,2,none⟩=some b/\w.cell? ⟨g,3,none⟩=some c/\w.cell? ⟨g,4,none⟩=some d/\w.cell? ⟨g,5,none⟩=some e:=by
 refine⟨?_, ?_, ?_, ?_, ?_, ?_⟩<;>(rw[Lib.cell_of_heap h];rfl)
def Fe (w:World) (B:Nat):List (ByteArray×Val)->List Value->Prop
 | [],ns=>ns= []
 |(key,v)::r,ns=> ∃cs rest,ns=.string key::(cs++rest)/\Ab w B v cs/\Fe w B r rest
theorem Fe.more {w:World} {B B':Nat} (h:B<=B'): ∀{l:List (ByteArray×Val)} {ns:List Value},Fe w B l ns->Fe w B' l ns
 | [],_,e=>e
 |(_,_)::_,_,⟨cs,rest,e,h1,h2⟩=>⟨cs,rest,e,Ab.more h _ _ h1,Fe.more h h2⟩
theorem Fe.holds {w:World} {B:Nat} {g:Nat}: ∀{l:List (ByteArray×Val)} {ns:List Value} {off:Nat},Fe w B l ns->(∀j u,ns[j]? =some u->w.cell? ⟨g,off+j,none⟩=some u)->An w B l g off
 | [],_,_,_,_=>by simp[An]
 |(key,v)::r,ns,off,h,hc=>by
  obtain⟨cs,rest,rfl,b,c⟩:=h;have e:=b.len.1;simp only[An,Ku];refine⟨⟨hc 0 _ rfl,cs,b,fun j u a=> ?_⟩,Fe.holds c (fun j u a=> ?_)⟩
  . have d:=(List.getElem?_eq_some_iff.1 a).1;rw[show off+1+j=off+(j+1)from by omega];refine hc (j+1) u ?_;rw[List.getElem?_cons_succ,List.getElem?_append_left d];exact a
  . rw[show off+7+j=off+(6+j+1)from by omega];refine hc (6+j+1) u ?_;rw[List.getElem?_cons_succ,List.getElem?_append_right (by omega),e,show 6+j - 6=j from by omega];exact a
theorem Fe.snoc {w:World} {B:Nat} {key:ByteArray} {v:Val} {cs:List Value} (a:Ab w B v cs): ∀{l:List (ByteArray×Val)} {ns:List Value},Fe w B l ns->Fe w B (l++ [(key,v)]) (ns++(.string key::cs))
 | [],ns,h=>by
   have:ns= []:=h;subst this;exact⟨cs, [],by simp,a,rfl⟩
 |(k',x)::r,ns,h=>by
  obtain⟨c1,rest,rfl,b,c⟩:=h;exact⟨c1,rest++(.string key::cs),by simp,b,Fe.snoc a c⟩
theorem O7:(Tryz.prog.info? 42).map (fun i=>(i.zero,i.size,i.bytes))=some (some (.agg #[.int .i64 0,.bool false,.int .i64 0,.string ⟨#[]⟩,.slice none 0 0,.slice none 0 0]),6,88):=by kernel_rfl
theorem O6:(Tryz.prog.info? 111).map (fun i=>(i.zero,i.size,i.bytes))=some (some (.agg #[.string ⟨#[]⟩,.int .i64 0,.bool false,.int .i64 0,.string ⟨#[]⟩,.slice none 0 0,.slice none 0 0]),7,104):=by kernel_rfl
theorem D8 (w:World) (b i:Nat) (V:Value) {c:Nat} (h:c≠b):(w.setCell ⟨b,i,none⟩ V).heap[c]? =w.heap[c]? :=by
 simp only[World.setCell,Array.getElem?_modify];rw[if_neg (fun e=>h e.symm)]
theorem Ib {w:World} {g:Nat} {t:TypeId} {cs:Array Value} (h:Ap w g t cs):Bt w (g+1) cs.size (some ⟨g,0,none⟩) 1 cs.toList:=by
 refine⟨by simp,fun _=>⟨_,rfl,by simp,fun j u a=> ?_⟩⟩;rw[De,Nat.zero_add];exact(h.cell j).trans (by rw[<-Array.getElem?_toList];exact a)
theorem C3.lit {b:Nat} {t:TypeId} {w:World} {d:D} {cs:Array Value} (e:b<=w.heap.size) (f:d.cells=cs.size) (h: ∀a B,Ag a B d cs.toList):
 C3 b t cs.size (w.alloc (.cells cs t)) [d] (.slice (some ⟨w.heap.size,0,none⟩) 1 1):=
 ⟨cs.toList,World.ownsRow_lit w cs 1 e (by simp[maxLen]) (by simp),fun x c=>by simp at c;rw[c];exact f,fun a _ _=>Ah.one (h a _)⟩
theorem C3.slice {b:Nat} {t:TypeId} {s:Nat} {wr:World} {l:List D} {V:Value} (h:C3 b t s wr l V): ∃a c,V=.slice a l.length c:=by
 obtain⟨ns,d,_⟩:=h;rcases d.2 with⟨rfl,h0⟩|⟨g,cap,cur,rfl,_⟩
 . exact⟨_,_,by rw[h0]⟩
 . exact⟨_,_,rfl⟩
theorem C3.now {b:Nat} {t:TypeId} {s:Nat} {wr:World} {l:List D} {a:Option Addr} {n c:Nat} (h:C3 b t s wr l (.slice a n c)):Ag wr wr.heap.size (.row s l) [.slice a n c]:=by
 obtain⟨f,g,e,_,d,_⟩:=h.close
 cases e
 exact d.now
section
variable {P:Program}
theorem Yh {t ty e:TypeId} {i:TypeInfo} {z:Value} {h bytes:Nat} (O:P.underlying t=some (.slice e)) (L:P.info? e=some i) (Q:i.zero=some z) (m:i.size=h) (y:i.bytes=bytes) (E:z.cells.size=h) (C:0<h)
 {b:Nat} {wr w:World} {l:List D} {V:Value} (k:C3 b e h wr l V) (o:b<=wr.heap.size) (a:Below wr.heap.size wr w) {d:D} {cs:List Value} (J:d.cells=h) (G:A7 wr.heap.size w d cs)
 {B:Nat} {A:Option Addr} {c:Nat} (N:Bt w B h A 1 cs) (x:l.length+1<=maxLen) (f:(l.length+1)*bytes<=140737488355328):
 ∃V' w6,(Builtin.append_ #[t,t] ty #[V,.slice A 1 c]).run P w=.ok V' w6/\C3 b e h w6 (l++ [d]) V'/\w.grownBy w6 V.ownBlock/\(V'.ownBlock=V.ownBlock\/V'.ownBlock=some w.heap.size):=by
 obtain⟨ns,U,W,X⟩:=k.below a;have v:=k;obtain⟨s,H,R,S⟩:=v;have q:w.ownsRow b e h V l.length s:=by
  refine H.kept (row:=none) ⟨a.os,a.tape,a.output,a.size,fun j M _=>a.block j M⟩ ?_
  cases hv:V.ownBlock<;>simp
 obtain⟨V',w6,r,I,u,n⟩:=J0 (P:=P) w b t ty e i z h bytes O L Q m y E C V l.length s q B A 1 c cs N G.now.len.2 x f (Nat.le_trans o a.size);refine⟨V',w6,r, ?_,u,n⟩;refine C3.step o S R J G (fun g K=>(H.lt g K).2) I ?_ a.size u.size (fun p _ F=>a.cell F) (fun p _ F T=>World.cell?_of_block (u.block p.block F (fun e=>T e.symm)));rcases n with n|n
 . exact .inl n
 . exact .inr ⟨_,n,Nat.le_refl _⟩
theorem Rq {o:Oper} {a:Act} {K:Act->World->Prop} {Q:Exit->Act->World->Prop} (s x:Operand) (t:TypeId) {e:TypeId}
 (I:o.op=.call {callee:=.builtin .append,args:= #[s,x],argTypes:= #[t,t]}) {i:TypeInfo} {z:Value} {j bytes:Nat} (M:P.underlying t=some (.slice e)) (H:P.info? e=some i) (O:i.zero=some z) (g:i.size=j) (r:i.bytes=bytes) (v:z.cells.size=j) (u:0<j)
 {b:Nat} {wr w:World} {l:List D} {V:Value} (L:a.eval s=V) (k:C3 b e j wr l V) (q:b<=wr.heap.size) (p:Below wr.heap.size wr w) {d:D} {cs:List Value} (F:d.cells=j) (G:A7 wr.heap.size w d cs)
 {B:Nat} {A:Option Addr} {c:Nat} (N:a.eval x=.slice A 1 c) (J:Bt w B j A 1 cs) (n:l.length+1<=maxLen) (f:(l.length+1)*bytes<=140737488355328)
 (h: ∀V' w6,C3 b e j w6 (l++ [d]) V'->w.grownBy w6 V.ownBlock->(V'.ownBlock=V.ownBlock\/V'.ownBlock=some w.heap.size)->K (a.put o.dst V') w6):o.wp P a w K Q:=by
 obtain⟨V',w6,m,y,C,E⟩:=Yh (ty:=o.type) (c:=c) M H O g r v u k q p F G J n f;unfold Oper.wp execOp;simp only[I,resolve,invoke,builtin,Sem.run_bind,Sem.run_pure,Result.andThen_ok,List.map_toArray,List.map_cons,List.map_nil,L,N,m];exact h V' w6 y C E
theorem D4 {m:Array Oper} {rest:List Oper} {o:Oper} {a:Act} {Q:Exit->Act->World->Prop} (u:o.guard=none) (s x:Operand) (t:TypeId) {e:TypeId}
 (K:o.op=.call {callee:=.builtin .append,args:= #[s,x],argTypes:= #[t,t]}) {i:TypeInfo} {z:Value} {j bytes:Nat} (N:P.underlying t=some (.slice e)) (J:P.info? e=some i) (R:i.zero=some z) (g:i.size=j) (r:i.bytes=bytes) (y:z.cells.size=j) (v:0<j)
 {b:Nat} {wr w:World} {l:List D} {V:Value} (M:a.eval s=V) (k:C3 b e j wr l V) (q:b<=wr.heap.size) (p:Below wr.heap.size wr w) {d:D} {cs:List Value} (H:d.cells=j) (I:A7 wr.heap.size w d cs)
 {B:Nat} {A:Option Addr} {c:Nat} (O:a.eval x=.slice A 1 c) (L:Bt w B j A 1 cs) (n:l.length+1<=maxLen) (f:(l.length+1)*bytes<=140737488355328)
 (h: ∀V' w6,C3 b e j w6 (l++ [d]) V'->w.grownBy w6 V.ownBlock->(V'.ownBlock=V.ownBlock\/V'.ownBlock=some w.heap.size)->wpList P m Q rest (a.put o.dst V') w6):wpList P m Q (o::rest) a w:=
 wpList_plain u fun _ G=>Rq s x t K N J R g r y v M k q p H I O L n f fun V' w6 C E F=>G _ _ (h V' w6 C E F)
theorem Do {m:Array Oper} {o:Oper} {a:Act} {K:Act->World->Prop} {Q:Exit->Act->World->Prop} {E:Prop} (u:o.guard=none) (s x:Operand) (t:TypeId) {e:TypeId}
 (H:o.op=.call {callee:=.builtin .append,args:= #[s,x],argTypes:= #[t,t]}) {i:TypeInfo} {z:Value} {j bytes:Nat} (L:P.underlying t=some (.slice e)) (G:P.info? e=some i) (O:i.zero=some z) (g:i.size=j) (r:i.bytes=bytes) (y:z.cells.size=j) (v:0<j)
 {b:Nat} {wr w:World} {l:List D} {V:Value} (J:a.eval s=V) (k:C3 b e j wr l V) (q:b<=wr.heap.size) (p:Below wr.heap.size wr w) {d:D} {cs:List Value} (C:d.cells=j) (F:A7 wr.heap.size w d cs)
 {B:Nat} {A:Option Addr} {c:Nat} (N:a.eval x=.slice A 1 c) (I:Bt w B j A 1 cs) (n:l.length+1<=maxLen) (f:(l.length+1)*bytes<=140737488355328)
 (h: ∀V' w6,C3 b e j w6 (l++ [d]) V'->w.grownBy w6 V.ownBlock->(V'.ownBlock=V.ownBlock\/V'.ownBlock=some w.heap.size)->K (a.put o.dst V') w6):
 if Region.wanted o (yielded m a.tmps)=true then Oper.wp P o a w K Q else E:=by
 have M:Region.wanted o (yielded m a.tmps)=true:=by simp[Region.wanted,u]
 rw[if_pos M];exact Rq s x t H L G O g r y v J k q p C F N I n f h
end
theorem Aa (w:World) (o:Obj):Below w.heap.size w (w.alloc o):=(Below.refl _ _).alloc (Nat.le_refl _) _
theorem Ahu (n:Nat):((n:Int)==0)=decide (n=0):=by rw[Bool.eq_iff_iff];simp
theorem Akm (a b:Int):(a != b)=decide (a≠b):=by rw[Bool.eq_iff_iff];simp
theorem Akl (a b:Int):(a==b)=decide (a=b):=by rw[Bool.eq_iff_iff];simp
theorem E4 {W w1:World} (a:Below W.heap.size W w1):(∀b o,b<W.heap.size->w1.cell? ⟨b,o,none⟩=W.cell? ⟨b,o,none⟩)/\(∀b o,b<W.heap.size->w1.frozen? ⟨b,o,none⟩=W.frozen? ⟨b,o,none⟩):=
 ⟨fun b o h=>a.cell (p:=⟨b,o,none⟩) h,fun b o h=>a.frozen (p:=⟨b,o,none⟩) h⟩
section
variable {P:Program}
end
theorem Alk {z:Int} (h0:0<=z) (a:z<256):((z.toNat.toUInt8).toNat:Int)=z:=by
 have:z.toNat<256:=by omega
 simp[Nat.toUInt8,UInt8.toNat_ofNat',Nat.mod_eq_of_lt this];omega
theorem M4 (w:World) (a:List Int) (c: ∀z ∈ a,0<=z/\z<256) (t:TypeId):
 (convert 26 9 (.slice (some ⟨w.heap.size,0,none⟩) a.length a.length)).run Tryz.prog (w.alloc (.cells (a.map (Value.int .u8)).toArray t))=.ok (.string ⟨(a.map fun z=>z.toNat.toUInt8).toArray⟩) (w.alloc (.cells (a.map (Value.int .u8)).toArray t)):=by
 have:=run_convert_bytes_back (P:=Tryz.prog) (w.alloc (.cells (a.map (Value.int .u8)).toArray t)) 26 9 5 ⟨w.heap.size,0,none⟩ a.length (a.map fun z=>z.toNat.toUInt8) Tryz.underlying26 Tryz.underlying5 Tryz.underlying9 (by
  intro j b;rw[List.length_map]at b;have d:(w.alloc (.cells (a.map (Value.int .u8)).toArray t)).heap[w.heap.size]? =some (.cells (a.map (Value.int .u8)).toArray t (0,0)):=heap_alloc_new _ _;rw[show(⟨w.heap.size,0,none⟩:Addr).add j=⟨w.heap.size,j,none⟩from by unfold Addr.add;split<;>simp_all];rw[Lib.cell_of_heap d];simp only[List.getElem?_toArray,List.getElem?_map,List.getElem?_eq_getElem b,Option.map_some,List.getElem_map];rw[Alk (c _ (List.getElem_mem b)).1 (c _ (List.getElem_mem b)).2])
 rwa [List.length_map]at this
set_option maxRecDepth 20000 in
theorem Ky (r:Int) (h0:0<=r) (x:r<=1114111) (y: ¬(55296<=r/\r<57344)) (w:World):
 Calls Tryz.prog 194 #[.int .i64 r] w fun e w'=>e=.returned (.string ⟨(Lib.encodeRune r).toArray⟩)/\Below w.heap.size w w':=by
 by_cases c1:r<128
 . have e:Lib.encodeRune r= [r].map fun z=>z.toNat.toUInt8:=by unfold Lib.encodeRune;rw[Lib.encodeRuneZ_one h0 (by omega)]
   have c:=M4 w [r] (by intro z g;simp at g;omega) 5;rw[e];simp only[List.map_cons,List.map_nil,List.length_cons,List.length_nil]at c ⊢;go_enter Tryz.func194,Tryz.ntmps194;go_wp2;go_ret;exact⟨rfl,(Below.refl _ _).alloc (Nat.le_refl _) _⟩
 by_cases c2:r<2048
 . have e:Lib.encodeRune r= [192+r / 64,128+r % 64].map fun z=>z.toNat.toUInt8:=by unfold Lib.encodeRune;rw[Lib.encodeRuneZ_two (by omega) (by omega)]
   have c:=M4 w [192+r / 64,128+r % 64] (by intro z g;simp at g;omega) 5;rw[e];have k:0<=r / 64:=by omega
   have l:r / 64<32:=by omega
   have m:0<=r % 64:=by omega
   have n:r % 64<64:=by omega
   simp only[List.map_cons,List.map_nil,List.length_cons,List.length_nil]at c ⊢;obtain⟨d,a⟩: ∃z,192+r / 64=z:=⟨_,rfl⟩;obtain⟨f,b⟩: ∃z,128+r % 64=z:=⟨_,rfl⟩;have d1:0<=d/\d<256:=by omega
   have d2:0<=f/\f<256:=by omega
   rw[a,b]at c ⊢;go_enter Tryz.func194,Tryz.ntmps194;go_wp2;go_ret;exact⟨rfl,(Below.refl _ _).alloc (Nat.le_refl _) _⟩
 by_cases c3:r<65536
 . have e:Lib.encodeRune r= [224+r / 4096,128+r / 64 % 64,128+r % 64].map fun z=>z.toNat.toUInt8:=by unfold Lib.encodeRune;rw[Lib.encodeRuneZ_three (by omega)]
   have c:=M4 w [224+r / 4096,128+r / 64 % 64,128+r % 64] (by intro z g;simp at g;omega) 5;rw[e];have k:0<=r / 4096:=by omega
   have l:r / 4096<16:=by omega
   have m:0<=r % 64:=by omega
   have n:r % 64<64:=by omega
   have q:0<=r / 64:=by omega
   have s:0<=r / 64 % 64:=by omega
   have t:r / 64 % 64<64:=by omega
   simp only[List.map_cons,List.map_nil,List.length_cons,List.length_nil]at c ⊢;obtain⟨d,a⟩: ∃z,224+r / 4096=z:=⟨_,rfl⟩;obtain⟨f,b⟩: ∃z,128+r / 64 % 64=z:=⟨_,rfl⟩;obtain⟨i,h⟩: ∃z,128+r % 64=z:=⟨_,rfl⟩;have d1:0<=d/\d<256:=by omega
   have d2:0<=f/\f<256:=by omega
   have d3:0<=i/\i<256:=by omega
   rw[a,b,h]at c ⊢;go_enter Tryz.func194,Tryz.ntmps194;go_wp2;go_ret;exact⟨rfl,(Below.refl _ _).alloc (Nat.le_refl _) _⟩
 . have e:Lib.encodeRune r= [240+r / 262144,128+r / 4096 % 64,128+r / 64 % 64,128+r % 64].map fun z=>z.toNat.toUInt8:=by unfold Lib.encodeRune;rw[Lib.encodeRuneZ_four (by omega) (by omega)]
   have c:=M4 w [240+r / 262144,128+r / 4096 % 64,128+r / 64 % 64,128+r % 64] (by intro z g;simp at g;omega) 5;rw[e];have k:0<=r / 262144:=by omega
   have l:r / 262144<8:=by omega
   have m:0<=r % 64:=by omega
   have n:r % 64<64:=by omega
   have q:0<=r / 64:=by omega
   have s:0<=r / 64 % 64:=by omega
   have t:r / 64 % 64<64:=by omega
   have u:0<=r / 4096:=by omega
   have v:0<=r / 4096 % 64:=by omega
   have p:r / 4096 % 64<64:=by omega
   simp only[List.map_cons,List.map_nil,List.length_cons,List.length_nil]at c ⊢;obtain⟨o,j⟩: ∃z,240+r / 262144=z:=⟨_,rfl⟩;obtain⟨d,a⟩: ∃z,128+r / 4096 % 64=z:=⟨_,rfl⟩;obtain⟨f,b⟩: ∃z,128+r / 64 % 64=z:=⟨_,rfl⟩;obtain⟨i,h⟩: ∃z,128+r % 64=z:=⟨_,rfl⟩;have d0:0<=o/\o<256:=by omega
   have d1:0<=d/\d<256:=by omega
   have d2:0<=f/\f<256:=by omega
   have d3:0<=i/\i<256:=by omega
   rw[j,a,b,h]at c ⊢;go_enter Tryz.func194,Tryz.ntmps194;go_wp2;go_ret;exact⟨rfl,(Below.refl _ _).alloc (Nat.le_refl _) _⟩
theorem Qf {w:World} {B m:Nat} {v:Value} {ns:List Value} (h:w.ownsRow B 42 6 v m ns):
 ∃a c,v=.slice a m c/\(m=0\/ ∃g,a=some ⟨g,0,none⟩/\B<=g/\g<w.heap.size/\ ∀j u,ns[j]? =some u->w.cell? ⟨g,0+j,none⟩=some u):=by
 rcases h.2 with⟨rfl,hz⟩|⟨g,cap,cur,rfl,hbg,hg,_,_,_,_⟩
 . subst hz;exact⟨none,0,rfl,.inl rfl⟩
 . refine⟨_,cap,rfl,.inr ⟨g,rfl,hbg,(Array.getElem?_eq_some_iff.1 hg).1,fun j u b=> ?_⟩⟩;have:=h.cells (g:=g) rfl j u b;rw[Go.WideShapes.add_plain]at this;exact this
def Kz (w:World) (v:Val) (e:Ending) (w':World):Prop:=
 (∃la lc,e=.returned (.slice la (within v).length lc)/\(within v= []\/ ∃g off,la=some ⟨g,off,none⟩/\g<w'.heap.size/\Aq w' w'.heap.size (within v) g off))/\Below w.heap.size w w'
theorem Abq (b:Bool) (n:Int) (t:ByteArray) (l:List Val) (o:List (ByteArray×Val)) (S J:Option Addr) (oc H:Nat) (w:World) (R:l= []\/ ∃g a,S=some ⟨g,a,none⟩/\g<w.heap.size/\Aq w w.heap.size l g a)
 (hb:A5 l<=100000000):
 Calls Tryz.prog 125 #[.agg #[.int .i64 5,.bool b,.int .i64 n,.string t,.slice S l.length H,.slice J o.length oc]] w (Kz w (.mk 5 b n t l o)):=by
 have aa:=C9 l;have I:within (.mk 5 b n t l o)=l:=by simp[within]
 by_cases h0:l= []
 . subst h0;clear R;go_enter Tryz.func125,Tryz.ntmps125;have s:=qz I;clear I
   cases S
   . go_wp2;go_ret;exact⟨⟨none,0,by rw[s.out];rfl,.inl s.out⟩,(Below.refl _ _).alloc (Nat.le_refl _) _⟩
   . go_wp2;go_ret;exact⟨⟨none,0,by rw[s.out];rfl,.inl s.out⟩,(Below.refl _ _).alloc (Nat.le_refl _) _⟩
 . obtain⟨g,a,rfl,hg,V⟩:=R.resolve_left h0;obtain⟨i0,W,E,F,G⟩:=info_parts O7;obtain⟨ns,i,d⟩:=Aq.row V;obtain⟨B,C⟩:=i.len;obtain⟨Y,L,M,N,A,m,s,Z,HO⟩:=hid9 W E F G i d I B C;clear W E F G i d I B C R V;obtain⟨w1,q⟩: ∃w1,w.alloc (.cells #[.int .i64 5,.bool b,.int .i64 n,.string t,.slice (some ⟨g,a,none⟩) l.length H,.slice J o.length oc] 42)=w1:=⟨_,rfl⟩;have x:Hid (Below w.heap.size w w1):=q▸(Below.refl _ _).alloc (Nat.le_refl _) _;have K:=qz (show w1.heap[w.heap.size]? =some (.cells #[.int .i64 5,.bool b,.int .i64 n,.string t,.slice (some ⟨g,a,none⟩) l.length H,.slice J o.length oc] 42 (0,0))from by rw[<-q];exact heap_alloc_new _ _);have y:=qz (show w1.heap.size=w.heap.size+1 from by rw[<-q];simp);have z:Hid (w1.ownsRow (w.heap.size+1) 42 6 (.slice none 0 0) 0 []):=World.ownsRow_nil _ _ _ _;subst q;go_enter Tryz.func125,Tryz.ntmps125;go_wp2_with (at_builtin;refine wpList_append_own _ rfl (.tmp 8) (.tmp 10) 39 rfl (w.heap.size+1) 42 i0 (.agg #[.int .i64 0,.bool false,.int .i64 0,.string ⟨#[]⟩,.slice none 0 0,.slice none 0 0]) 6 88 Tryz.underlying39 Y.out L.out M.out N.out rfl (by decide) (.slice none 0 0) 0 [] rfl z.out ⟨g,a,none⟩ l.length H ns rfl Z.out ?c1 ?c2 ?c3 ?c4 ?c5 ?_)
   case c1=>
    intro j u hj;rw[Go.WideShapes.add_plain];exact(x.out.cell (p:=⟨g,a+j,none⟩) hg).trans (m.out j u hj)
   case c2=>exact HO.out
   case c3=>unfold maxLen;omega
   case c4=>omega
   case c5=>simp
   intro v' X f c _;obtain⟨T,U,rfl,D⟩:=Qf f;have r:=qz ((x.out).grown c (by rw[y.out];omega) (fun k hk=>by simp[Value.ownBlock]at hk));have e:X.heap[w.heap.size]? =some (.cells #[.int .i64 5,.bool b,.int .i64 n,.string t,.slice (some ⟨g,a,none⟩) l.length H,.slice J o.length oc] 42 (0,0)):=(c.block _ (by rw[y.out];omega) (by simp[Value.ownBlock])).trans K.out;have d0:X.cell? ⟨w.heap.size,0,none⟩=some (.int .i64 5):=by rw[Lib.cell_of_heap e];rfl
   have O:=qz D;clear f c D e;go_wp2;go_ret;refine⟨⟨T,U,by rw[s.out];rfl, ?_⟩,r.out⟩;rw[s.out];refine .inr ?_;rcases O.out with h|⟨g',rfl,_,Q,P⟩
   . exact absurd (List.length_eq_zero_iff.1 h) h0
   . exact⟨g',0,rfl,Q,A.out.holds (fun v cs h=>Ab.more r.out.size _ _ (h.below r.out)) P⟩
theorem Ad7 (b:Bool) (n:Int) (t:ByteArray) (l:List Val) (o:List (ByteArray×Val)) (V G:Option Addr) (oc W:Nat) (w:World) (hl:o= []\/ ∃g f,G=some ⟨g,f,none⟩/\g<w.heap.size/\An w w.heap.size o g f)
 (hb:Af o<=100000000):
 Calls Tryz.prog 125 #[.agg #[.int .i64 6,.bool b,.int .i64 n,.string t,.slice V l.length W,.slice G o.length oc]] w (Kz w (.mk 6 b n t l o)):=by
 have ag:=B5 o;have Hw:=qz (show within (.mk 6 b n t l o)=o.map (·.2)from by simp[within]);obtain⟨i0,hi,S,T,U⟩:=info_parts O7;obtain⟨HI,X,Y,Z⟩:=hid4 hi S T U;clear hi S T U;obtain⟨w1,F⟩: ∃w1,w.alloc (.cells #[.int .i64 6,.bool b,.int .i64 n,.string t,.slice V l.length W,.slice G o.length oc] 42)=w1:=⟨_,rfl⟩;have J:Hid (Below w.heap.size w w1):=F▸(Below.refl _ _).alloc (Nat.le_refl _) _;have L:=qz (show w1.heap[w.heap.size]? =some (.cells #[.int .i64 6,.bool b,.int .i64 n,.string t,.slice V l.length W,.slice G o.length oc] 42 (0,0))from by rw[<-F];exact heap_alloc_new _ _);have B:Hid (w1.ownsRow (w.heap.size+1) 42 6 (.slice none 0 0) 0 []):=World.ownsRow_nil _ _ _ _;have K:Hid (J3 w w.heap.size ((o.take 0).map (·.2)) []):=rfl;subst F;go_enter Tryz.func125,Tryz.ntmps125;go_wp2_with (fail);go_loopw [3,4] (fun v1 i wr=> ∃(k:Nat) (ns:List Value),i=.int .i64 k/\k<=o.length/\Hid (wr.ownsRow (w.heap.size+1) 42 6 v1 k ns)/\Hid (J3 w w.heap.size ((o.take k).map (·.2)) ns)/\Hid (Below w.heap.size w wr)/\
  Hid (wr.heap[w.heap.size]? =some (.cells #[.int .i64 6,.bool b,.int .i64 n,.string t,.slice V l.length W,.slice G o.length oc] 42 (0,0)))) (fun _ i _=>o.length - (intOf i).toNat)
 case atStart=>exact⟨0, [],rfl,Nat.zero_le _,B,K,J,L⟩
 case round=>
  obtain⟨k,ns,rfl,hk,a,m,r,A⟩:=hrel;clear B K J L;have b5:wr.cell? ⟨w.heap.size,5,none⟩=some (.slice G o.length oc):=by rw[Lib.cell_of_heap A.out];rfl
  have hz:w.heap.size<wr.heap.size:=(Array.getElem?_eq_some_iff.1 A.out).1;by_cases O:k<o.length
  . obtain⟨g,f,rfl,hg,hL⟩: ∃g f,G=some ⟨g,f,none⟩/\g<w.heap.size/\An w w.heap.size o g f:=by
     rcases hl with rfl|h
     . simp at O
     . exact h
    obtain⟨⟨key,x⟩,hx⟩: ∃v,o[k]? =some v:=⟨_,List.getElem?_eq_getElem O⟩;have R:(o.take (k+1)).map (·.2)=(o.take k).map (·.2)++ [x]:=by rw[List.take_add_one,hx];simp
    obtain⟨k',b',n',t',l',o'⟩:=x;obtain⟨y,z,H,I,E,_,e1,e2,e3,e4,e5,e6⟩:=hL.seven hx;have C:=fun j (u:Value) (h:w.cell? ⟨g,j,none⟩=some u)=>(r.out.cell (p:=⟨g,j,none⟩) hg).trans h;have c1:=C _ _ e1;have c2:=C _ _ e2;have c3:=C _ _ e3;have c4:=C _ _ e4;have c5:=C _ _ e5;have c6:=C _ _ e6;have d:=m.out.snoc E;rw[<-R]at d;have M:=qz d;have P:=qz E.len.2;clear d m R hx hL hg e1 e2 e3 e4 e5 e6 C E;go_wp2_with (at_builtin;refine wpList_append_own _ rfl (.tmp 22) (.tmp 29) 39 rfl (w.heap.size+1) 42 i0 (.agg #[.int .i64 0,.bool false,.int .i64 0,.string ⟨#[]⟩,.slice none 0 0,.slice none 0 0]) 6 88 Tryz.underlying39 HI.out X.out Y.out Z.out rfl (by decide) u3 k ns rfl (a.out.alloc _) ⟨wr.heap.size,0,none⟩ 1 1 (Eb k' b' n' t' y l'.length z H o'.length I) rfl rfl ?c1 ?c2 ?c3 ?c4 ?c5 ?_)
    case c1=>
     intro j u hj;rw[Go.WideShapes.add_plain];rw[Lib.cell_of_heap (heap_alloc_new wr (.cells #[.int .i64 k',.bool b',.int .i64 n',.string t',.slice y l'.length z,.slice H o'.length I] 42)),Nat.zero_add];simpa using hj
    case c2=>exact P.out
    case c3=>unfold maxLen;omega
    case c4=>omega
    case c5=>simp;omega
    intro v' w2 s c _;have af:=qz s;have ac:=qz ((r.out.alloc (by omega) (.cells #[.int .i64 k',.bool b',.int .i64 n',.string t',.slice y l'.length z,.slice H o'.length I] 42)).grown c (by simp;omega) (fun q hq=>by have:=(a.out.lt q hq).1;omega));have N:Hid (w2.heap[w.heap.size]? =some (.cells #[.int .i64 6,.bool b,.int .i64 n,.string t,.slice V l.length W,.slice (some ⟨g,f,none⟩) o.length oc] 42 (0,0))):=by
     show _=_;rw[c.block _ (by simp;omega) (fun e=>by have:=(a.out.lt _ e.symm).1;omega),Lib.alloc_old wr _ _ hz];exact A.out
    clear s c a r A b5 c1 c2 c3 c4 c5 c6 P;go_wp2;go_roundw
    case rel=>exact⟨k+1,_,by go_num,by omega,af,M,ac,N⟩
    case measure=>simp only[intOf];omega
  . obtain rfl:k=o.length:=by omega
    have D:=m.out;rw[List.take_length]at D;obtain⟨y,z,rfl,Q⟩:=Qf a.out;obtain⟨ab,HR⟩:=hid2 Q D;have aa:Hid (o.length=(o.map (·.2)).length):=by show _=_;simp
    clear D m Q a hl;go_wp2;go_ret;refine⟨⟨y,z,by rw[Hw.out,<-aa.out];rfl, ?_⟩,r.out⟩;rw[Hw.out];rcases ab.out with h|⟨g',rfl,_,ae,ad⟩
    . exact .inl (by rw[List.length_eq_zero_iff.1 h];rfl)
    . exact .inr ⟨g',0,rfl,ae,HR.out.holds (fun v cs h=>Ab.more r.out.size _ _ (h.below r.out)) ad⟩
mutual
def Ej:Val->Nat
 | .mk k _ _ _ l o=>1+(if k=5 then Ey l else if k=6 then Ip o else 0)
def Ey:List Val->Nat
 | []=>0
 |v::r=>max (Ej v) (Ey r)
def Ip:List (ByteArray×Val)->Nat
 | []=>0
 |p::r=>max (Zo p) (Ip r)
def Zo:ByteArray×Val->Nat
 |(_,v)=>Ej v
end
theorem O2: ∀(l:List Val),(∀v ∈ l,Ej v<=v.bulk)->Ey l<=A5 l
 | [],_=>by simp[Ey]
 |v::r,h=>by
  have b:=h v (by simp);have c:=O2 r (fun x a=>h x (by simp[a]));simp only[Ey,A5];omega
theorem Sz: ∀(l:List (ByteArray×Val)),(∀m ∈ l,Ej m.2<=m.2.bulk)->Ip l<=Af l
 | [],_=>by simp[Ip]
 |(k,v)::r,h=>by
  have a:=h (k,v) (by simp);have c:=Sz r (fun x b=>h x (by simp[b]));simp only[Ip,Zo,Af,E7];simp only at a;omega
theorem Ko: ∀v:Val,Ej v<=v.bulk:=by
 refine Val.ind ?_;intro k b n t l o a c;have d:=O2 l a;have e:=Sz o c;simp only[Ej,Val.bulk]
 split
 . omega
 split<;>omega
def Ahg (v:Val):Prop:= ∀(cs:List Value) (w:World),Ab w w.heap.size v cs->v.bulk<=100000000->
    Calls Tryz.prog 130 #[.agg cs.toArray] w fun e w'=>e=.returned (.int .i64 (Ej v))/\Below w.heap.size w w'
theorem Afi (b:Bool) (n:Int) (t:ByteArray) (l:List Val) (on:Nat) (S: ∀v ∈ l,Ahg v) (L oa:Option Addr) (oc Z:Nat) (w:World) (V:l= []\/ ∃g f,L=some ⟨g,f,none⟩/\g<w.heap.size/\Aq w w.heap.size l g f)
 (hb:A5 l<=100000000):
 Calls Tryz.prog 130 #[.agg #[.int .i64 5,.bool b,.int .i64 n,.string t,.slice L l.length Z,.slice oa on oc]] w fun e w'=>e=.returned (.int .i64 (1+(Ey l:Int)))/\Below w.heap.size w w':=by
 have ac:=C9 l;have Q:=O2 l (fun v _=>Ko v);obtain⟨M,O⟩: ∃M,Ey l=M:=⟨_,rfl⟩;rw[O]at Q ⊢;have R:Hid (max 0 (Ey (l.drop 0))=M):=by show _=_;rw[List.drop_zero,O];simp
 have HI:=qz S;clear S O;go_enter Tryz.func130,Tryz.ntmps130;go_wp2_with (fail);have u:Hid (Below w.heap.size w (w.alloc (.cells #[.int .i64 5,.bool b,.int .i64 n,.string t,.slice L l.length Z,.slice oa on oc] 42))):=(Below.refl _ _).alloc (Nat.le_refl _) _;go_loopw [3,15] (fun m i wr=> ∃D k:Nat,m=.int .i64 D/\i=.int .i64 k/\k<=l.length/\Hid (max D (Ey (l.drop k))=M)/\D<=M/\Hid (Below w.heap.size w wr)) (fun _ i _=>l.length - (intOf i).toNat)
 case atStart=>exact⟨0,0,rfl,rfl,Nat.zero_le _,R,Nat.zero_le _,u⟩
 case round=>
  obtain⟨D,k,rfl,rfl,hk,J,aa,d⟩:=hrel;clear R u;by_cases B:k<l.length
  . obtain⟨g,f,rfl,U,T⟩: ∃g f,L=some ⟨g,f,none⟩/\g<w.heap.size/\Aq w w.heap.size l g f:=by
     rcases V with rfl|h
     . simp at B
     . exact h
    obtain⟨x,K⟩: ∃v,l[k]? =some v:=⟨_,List.getElem?_eq_getElem B⟩;have q:x ∈ l:=List.mem_of_getElem? K;have P:=Dp q;have A:=Ko x;have p:l.drop k=x::l.drop (k+1):=Cr K;have a:=J.out;rw[p]at a;simp only[Ey]at a;have y:=HI.out x q;have X:=d.out.size;obtain⟨m,W⟩: ∃m,Ej x=m:=⟨_,rfl⟩;obtain⟨Y,b',n',t',l',o'⟩:=x;obtain⟨E,F,G,H,C,c0,c1,c2,c3,c4,c5⟩:=(T.below U d.out).six K;have N:=y _ (wr.alloc (.cells #[.int .i64 Y,.bool b',.int .i64 n',.string t',.slice E l'.length F,.slice G o'.length H] 42)) (Ab.more (by simp;omega) _ _ (C.below ((Below.refl _ _).alloc X _))) (by omega);rw[W]at N a A;have r:=qz N;have I:Hid (max (max D m) (Ey (l.drop (k+1)))=M):=by show _=_;omega
    have s:max D m<=M:=by omega
    have c:Hid (Below w.heap.size w (wr.alloc (.cells #[.int .i64 Y,.bool b',.int .i64 n',.string t',.slice E l'.length F,.slice G o'.length H] 42))):=d.out.alloc X _;clear N J a p y W C K q T U A P;by_cases ab:D<m
    . have z:max D m=m:=by omega
      rw[z]at I s;clear z;go_wp2_with (fail);(with_reducible refine r.out.mono ?_);rintro e w4 ⟨rfl,j⟩;have o:=qz (c.out.trans (j.mono c.out.size));clear j d c r;go_wp2;go_roundw
      case rel=>exact⟨m,k+1,by congr 1;omega,by go_num,by omega,I,s,o⟩
      case measure=>simp only[intOf];omega
    . have z:max D m=D:=by omega
      rw[z]at I s;clear z;go_wp2_with (fail);(with_reducible refine r.out.mono ?_);rintro e w4 ⟨rfl,j⟩;have o:=qz (c.out.trans (j.mono c.out.size));clear j d c r;go_wp2;go_roundw
      case rel=>exact⟨D,k+1,by congr 1;omega,by go_num,by omega,I,s,o⟩
      case measure=>simp only[intOf];omega
  . obtain rfl:k=l.length:=by omega
    have a:=J.out;rw[List.drop_length]at a;simp only[Ey]at a;obtain rfl:D=M:=by omega
    clear J a V;go_wp2;go_ret;exact⟨rfl,d.out⟩
theorem Ah9 (b:Bool) (n:Int) (t:ByteArray) (l:List (ByteArray×Val)) (ln:Nat) (V: ∀m ∈ l,Ahg m.2) (la J:Option Addr) (oc lc:Nat) (w:World) (Y:l= []\/ ∃g c,J=some ⟨g,c,none⟩/\g<w.heap.size/\An w w.heap.size l g c)
 (hb:Af l<=100000000):
 Calls Tryz.prog 130 #[.agg #[.int .i64 6,.bool b,.int .i64 n,.string t,.slice la ln lc,.slice J l.length oc]] w fun e w'=>e=.returned (.int .i64 (1+(Ip l:Int)))/\Below w.heap.size w w':=by
 have ab:=B5 l;have O:=Sz l (fun m _=>Ko m.2);obtain⟨M,N⟩: ∃M,Ip l=M:=⟨_,rfl⟩;rw[N]at O ⊢;have U:Hid (max 0 (Ip (l.drop 0))=M):=by show _=_;rw[List.drop_zero,N];simp
 have HI:=qz V;clear V N;go_enter Tryz.func130,Tryz.ntmps130;go_wp2_with (fail);have p:Hid (Below w.heap.size w (w.alloc (.cells #[.int .i64 6,.bool b,.int .i64 n,.string t,.slice la ln lc,.slice J l.length oc] 42))):=(Below.refl _ _).alloc (Nat.le_refl _) _;go_loopw [3,29] (fun m i wr=> ∃D k:Nat,m=.int .i64 D/\i=.int .i64 k/\k<=l.length/\Hid (max D (Ip (l.drop k))=M)/\D<=M/\Hid (Below w.heap.size w wr)) (fun _ i _=>l.length - (intOf i).toNat)
 case atStart=>exact⟨0,0,rfl,rfl,Nat.zero_le _,U,Nat.zero_le _,p⟩
 case round=>
  obtain⟨D,k,rfl,rfl,hk,H,aa,d⟩:=hrel;clear U p;by_cases A:k<l.length
  . obtain⟨g,c,rfl,X,W⟩: ∃g c,J=some ⟨g,c,none⟩/\g<w.heap.size/\An w w.heap.size l g c:=by
     rcases Y with rfl|h
     . simp at A
     . exact h
    obtain⟨⟨key,x⟩,I⟩: ∃v,l[k]? =some v:=⟨_,List.getElem?_eq_getElem A⟩;have j:(key,x) ∈ l:=List.mem_of_getElem? I;have u:=C4 j;simp only at u;have z:=Ko x;have f:l.drop k=(key,x)::l.drop (k+1):=Cr I;have a:=H.out;rw[f]at a;simp only[Ip,Zo]at a;have q:=HI.out _ j;have Z:=d.out.size;obtain⟨m,P⟩: ∃m,Ej x=m:=⟨_,rfl⟩;obtain⟨R,b',S,T,l',o'⟩:=x;obtain⟨C,E,F,G,B,c0,c1,c2,c3,c4,c5,c6⟩:=(W.below X d.out).seven I;have K:=q _ (wr.alloc (.cells #[.string key,.int .i64 R,.bool b',.int .i64 S,.string T,.slice C l'.length E,.slice F o'.length G] 111)) (Ab.more (by simp;omega) _ _ (B.below ((Below.refl _ _).alloc Z _))) (show(Val.mk R b' S T l' o').bulk<=100000000 from by omega);simp only[P]at K;rw[P]at a z;have r:=qz K;have Hn:Hid (max (max D m) (Ip (l.drop (k+1)))=M):=by show _=_;omega
    have Q:max D m<=M:=by omega
    have o:Hid (Below w.heap.size w (wr.alloc (.cells #[.string key,.int .i64 R,.bool b',.int .i64 S,.string T,.slice C l'.length E,.slice F o'.length G] 111))):=d.out.alloc Z _;clear K H a f q P B I j W X z u;have L:=qz (show max (D:Int) (m:Int)=((max D m:Nat):Int)from by omega);generalize max D m=Dm at*
    go_wp2_with (fail);(with_reducible refine r.out.mono ?_);rintro e w4 ⟨rfl,s⟩;have y:=qz (o.out.trans (s.mono o.out.size));clear s d o r;go_wp2;go_roundw
    case rel=>exact⟨Dm,k+1,by rw[L.out],by go_num,by omega,Hn,Q,y⟩
    case measure=>simp only[intOf];omega
  . obtain rfl:k=l.length:=by omega
    have a:=H.out;rw[List.drop_length]at a;simp only[Ip]at a;obtain rfl:D=M:=by omega
    clear H a Y;go_wp2;go_ret;exact⟨rfl,d.out⟩
theorem Ace: ∀v,Ahg v:=by
 refine Val.ind ?_;intro k b n t l o a c cs w i j;simp only[Ab]at i;obtain⟨m,p,q,oc,rfl,d,f⟩:=i;simp only[Val.bulk]at j;by_cases g:k=5
 . subst g;have:=Afi b n t l o.length a m q oc p w d (by omega);simpa[Ej]using this
 by_cases h:k=6
 . subst h;have:=Ah9 b n t o l.length c m q oc p w f (by omega);simpa[Ej]using this
 have e:Ej (.mk k b n t l o)=1:=by simp[Ej,g,h]
 rw[e];have r:(k==5)=false:=by simpa using g
 have s:(k==6)=false:=by simpa using h
 clear e a c d f j g h;go_enter Tryz.func130,Tryz.ntmps130;go_wp2;go_ret;exact⟨rfl,(Below.refl _ _).alloc (Nat.le_refl _) _⟩
def I8 (k:Int) (b:Bool) (n:Int) (t:ByteArray) (ln on:Nat):Bool:=decide (k=0)&& !b&&decide (n=0)&&t.toList.isEmpty&&decide (ln=0)&&decide (on=0)
theorem Pe:MKey Tryz.prog 9 Value.string:=Ra Tryz.underlying9
def Fh (w:World) (g n:Nat) (F:ByteArray->Option Value):Prop:= ∃kv,Co Value.string w g kv/\kv.length=n/\ ∀k,Dw k kv=F k
variable {w w':World} {g n:Nat} {F:ByteArray->Option Value} {P:Program}
theorem Fh.lt (h:Fh w g n F):g<w.heap.size:=by
 obtain⟨a,h,_⟩:=h;exact h.lt
theorem Fh.keep (h:Fh w g n F) (c:w'.heap[g]? =w.heap[g]?):Fh w' g n F:=by
 obtain⟨d,a,b⟩:=h;exact⟨d,a.keep c,b⟩
theorem Fh.below {B:Nat} (h:Fh w g n F) (a:Below B w w') (b:g<B):Fh w' g n F:=h.keep (a.block g b)
theorem Fh.new (w:World):Fh (w.alloc (.map #[] 0)) w.heap.size 0 fun _=>none:=⟨[],Co.new w,rfl,fun _=>rfl⟩
theorem Fh.ext {G:ByteArray->Option Value} (h:Fh w g n F) (e: ∀k,F k=G k):Fh w g n G:=by
 obtain⟨d,a,b,c⟩:=h;exact⟨d,a,b,fun k=>(c k).trans (e k)⟩
theorem Agw {d b t:TypeId} (i:MKey P d Value.string) (j:P.underlying t=some (.map d b)) (h:Fh w g n F) (a:ByteArray) {z:Value} (k: ∀w,(zeroValue b).run P w=.ok z w) (c:Bool):
 (Instr.lookup t (.map (some g)) (.string a) c).run P w=.ok (if c then .tuple #[(F a).getD z,.bool (F a).isSome]else(F a).getD z) w:=by
 obtain⟨l,e,_,f⟩:=h;have:=Jp i j e a k c;rw[f a]at this;exact this
end Go.Proofs.YtjgfchcldhmjcaaGreatDoor
