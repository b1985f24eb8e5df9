/- Parts: commonplacelaw14.known: the chapter's rows are so. No condition. -/
import Derived.Test.YtjgfchcldhmjcaaGreatDoorKPp30
import Derived.Test.YtjgfchcldhmjcaaGreatDoorKPp31
set_option maxHeartbeats 20000000
set_option maxRecDepth 100000
namespace Go.Proofs.YtjgfchcldhmjcaaGreatDoor
open Go Go.RowKit
attribute [local go_sem] Oper.semAt_some
def Aeg (ps:List POp) (w:World) (e:Ending) (w':World):Prop:=Below w.heap.size w w'/\ ∃V,e=.returned V/\Bk (fun _=>True) w.heap.size 80 8 w' (Eo ps) V
theorem Ae6 {D:Nat->Prop} {A:World} {o:Option Val} {cs:List Value} (h:Gl D A o cs): ∃e b' g i a f c d on oc,cs= [.int .i64 e,.bool b',.int .i64 g,.string i,.slice a f c,.slice d on oc]:=by
 cases o with
 |none=>
  cases h
  exact⟨_,_,_,_,_,_,_,_,_,_,rfl⟩
 |some v=>
  obtain⟨k,b,n,t,l,o⟩:=v;obtain⟨a,c,d,oc,rfl⟩:=Kk h;exact⟨_,_,_,_,_,_,_,_,_,_,rfl⟩
theorem Ah6 {S:Nat->Prop} {w:World} {k:Int} {key:ByteArray} {v:Val} {cs:List Value} (h:Ai S w (dV v) cs):Ai S w (dQ ⟨k,key,v⟩) (.int .i64 k:: .string key::cs):=fun a b c=>
 ⟨[.int .i64 k],.string key::cs,rfl,⟨rfl,rfl⟩, [.string key],cs,rfl,⟨rfl,rfl⟩,cs, [],(List.append_nil _).symm,h a b c,rfl⟩
theorem Aed (w:World) (B:Nat):Ag w B (dV Pv) [.int .i64 0,.bool false,.int .i64 0,.string ⟨#[]⟩,.slice none 0 0,.slice none 0 0]:=Fl _ _ (N9 w B)
theorem Akn (a b:List Cq):(D1 a b).length<=a.length+b.length:=by
 fun_induction D1 a b<;>simp_all<;>omega
theorem Jb {F:Fence} {n:Nat} {P:Program} {w w':World} {e:Array Oper} {rest:List Oper} {o:Oper} {a:Act} {Q:Exit->Act->World->Prop} (i:o.guard=none) (s x:Operand) (t:TypeId) (b:o.op=Op.call {callee:=Callee.builtin Builtin.append,args:= #[s,x],argTypes:= #[t,t]})
 {V A V':Value} (j:a.eval s=V) (k:a.eval x=A) (d:(Builtin.append_ #[t,t] o.type #[V,A]).run P w=.ok V' w') (h:wpListIn F n P e Q rest (a.put o.dst V') w'):wpListIn F n P e Q (o::rest) a w:=by
 refine wpListIn_plain i fun K f=> ?_;unfold Oper.wpIn;refine⟨?_, ?_⟩
 . simp[Oper.about,b,resolve,Target.leads,Sem.run_pure]
 . rw[Oper.semAt_plain F _ _ (by rw[b];intro c g;cases g)];simp[execOp,b,resolve,invoke,builtin,j,k,d,Result.andThen];exact f _ _ h
def FrI (w:World) (L:Nat) (s:List Chg) (T K:Nat->Prop) (A:World):Prop:=
 ∃V,Ap A L 50 #[V]/\Bk (fun i=>K i/\ ¬T i) w.heap.size 80 8 A (Eo (s.map G4)) V/\Below w.heap.size w A/\(¬K L/\ ¬T L)/\(∀g,V.ownBlock=some g-> ¬K g/\ ¬T g/\g≠L)/\(∀i,T i->w.heap.size<=i)/\(∀i,i<w.heap.size->K i)/\ ∀i,K i->i<A.heap.size
theorem FrI.step {w:World} {L:Nat} {s:List Chg} {T K n j:Nat->Prop} {A B:World} (h:FrI w L s T K A) (f:KB T A B) (b: ∀i,i<A.heap.size->(n i ↔ T i)/\(j i ↔ K i)) (x: ∀i,j i->i<B.heap.size):FrI w L s n j B:=by
 obtain⟨V,o,p,d,k,q,r,v,t⟩:=h;have m:=o.lt;refine⟨V,(f.block L m k.2).trans o,p.keepN (Nat.le_refl _) (fun i a=>⟨(b i (t i a.1)).2.2 a.1,fun h=>a.2 ((b i (t i a.1)).1.1 h)⟩) f.size fun i c y=>f.block i y ?_,d.trans (f.below r d.size),⟨fun h=>k.1 ((b L m).2.1 h),fun h=>k.2 ((b L m).1.1 h)⟩,fun g e=> ?_,fun i a=> ?_,fun i a=>(b i (Nat.lt_of_lt_of_le a d.size)).2.2 (v i a),x⟩
 . rcases c with c|c
   . exact c.2
   . exact(q i c).2.1
 . have l:=q g e;have u:=(p.base g e).2;exact⟨fun h=>l.1 ((b g u).2.1 h),fun h=>l.2.1 ((b g u).1.1 h),l.2.2⟩
 . rcases Nat.lt_or_ge i A.heap.size with h|h
   . exact r i ((b i h).1.1 a)
   . have:=d.size;omega
theorem FrI.put {w:World} {L:Nat} {s:List Chg} {T K:Nat->Prop} {A:World} {k:Nat} {o:Obj} (h:FrI w L s T K A) (m:A.heap[k]? =some o) (v:o.isCells=false) (x: ¬K k) (y:w.heap.size<=k) (o':Obj):FrI w L s T K (A.putObj k o'):=by
 obtain⟨V,g,j,l,n,p,q,r,u⟩:=h;have a: ∀i b t,A.heap[i]? =some (.cells b t (0,0))->i≠k:=by
  rintro i b t d rfl;rw[d]at m
  cases m
  cases v
 refine⟨V,(World.putObj_heap_other (a L _ _ g)).trans g,j.keepN (Nat.le_refl _) (fun i d=>d) (by simp[World.putObj]) fun i f _=>World.putObj_heap_other ?_,l.trans ((KB.put (S:=fun i=>w.heap.size<=i) A y o').below (fun _ h=>h) l.size),n,p,q,r,fun i d=>by have:=u i d;simpa[World.putObj]using this⟩;rcases f with f|f
 . exact fun e=>x (e▸f.1)
 . obtain⟨b,c⟩:=j.ownBlk f;exact a i _ _ c
def FrB (b z:Nat) (p1 p2:Option Addr) (x:Chg) (q:List Value×List Value) (a':Act) (W:World):Prop:=
 ∃g k1' b1' n1' t1' la1 ln1 lc1 oa1 on1 oc1 k2' b2' n2' t2' la2 ln2 lc2 oa2 on2 oc2,q=([.int .i64 k1',.bool b1',.int .i64 n1',.string t1',.slice la1 ln1 lc1,.slice oa1 on1 oc1], [.int .i64 k2',.bool b2',.int .i64 n2',.string t2',.slice la2 ln2 lc2,.slice oa2 on2 oc2])/\Ap W g Tch #[.string x.1,.bool x.2.1.isSome,.int .i64 k1',.bool b1',.int .i64 n1',.string t1',.slice la1 ln1 lc1,.slice oa1 on1 oc1,.bool x.2.2.isSome,.int .i64 k2',.bool b2',.int .i64 n2',.string t2',.slice la2 ln2 lc2,.slice oa2 on2 oc2]/\
  a'={tmps:= #[.agg #[.pointer p1],.agg #[.pointer p2],.pointer (some ⟨b,0,none⟩),.pointer (some ⟨b+1,0,none⟩),.slice none 0 0,.pointer (some ⟨b+1+1,0,none⟩),.pointer (some ⟨g,0,none⟩),.agg #[.pointer p1],.agg #[.pointer p2],.func (.func 148) #[] #[.pointer (some ⟨z,0,none⟩),.pointer (some ⟨z+1,0,none⟩)],.agg #[.string x.1,.bool x.2.1.isSome,.int .i64 k1',.bool b1',.int .i64 n1',.string t1',.slice la1 ln1 lc1,.slice oa1 on1 oc1,.bool x.2.2.isSome,.int .i64 k2',.bool b2',.int .i64 n2',.string t2',.slice la2 ln2 lc2,.slice oa2 on2 oc2],undef,undef,undef,undef,undef,undef,undef,undef,undef,undef,undef,undef,undef,undef,undef,undef,undef],defers:= []}
theorem FrB.put {b z:Nat} {F G:Option Addr} {x:Chg} {q:List Value×List Value} {C:Act} {W:World} {k:Nat} {o:Obj} (h:FrB b z F G x q C W) (E:W.heap[k]? =some o) (J:o.isCells=false) (o':Obj):FrB b z F G x q C (W.putObj k o'):=by
 obtain⟨g,d,a,p,A,f,m,j,s,w,u,e,c,r,B,i,n,l,t,y,v,H,D,I⟩:=h;refine⟨g,d,a,p,A,f,m,j,s,w,u,e,c,r,B,i,n,l,t,y,v,H,(World.putObj_heap_other ?_).trans D,I⟩;rintro rfl;rw[show W.heap[g]? =some (Obj.cells _ _ _)from D]at E
 cases E
 cases J
theorem ChE.below (x:Chg) (q:List Value×List Value) (D:Nat->Prop) (A B:World) (h:ChE x q D A) (a:Below A.heap.size A B):ChE x q D B:=⟨h.1.keep (fun _ _ h=>h) a.size fun i _ b=>a.block i b,h.2.keep (fun _ _ h=>h) a.size fun i _ b=>a.block i b⟩
theorem Acn (t1 t2:Option (Nat×Nd)) (p1 p2:Option Addr) (w:World) (a4:Lr (fun i=>i<w.heap.size) w t1 p1) (a5:Lr (fun i=>i<w.heap.size) w t2 p2) (b7:okT t1) (b8:okT t2) (l1:(Lc t1).length<=7) (l2:(Lc t2).length<=7) (b1:Af (Lc t1)<=100000000) (b2:Af (Lc t2)<=100000000):
 Calls Tryz.prog 43 #[.agg #[.pointer p1],.agg #[.pointer p2]] w (Aeg ((D1 (Lc t1) (Lc t2)).map G4) w):=by
 obtain⟨PO,aq⟩: ∃P:Ending->World->Prop,Aeg ((D1 (Lc t1) (Lc t2)).map G4) w=P:=⟨_,rfl⟩;rw[aq];have be:(D1 (Lc t1) (Lc t2)).length<=2000000:=by have:=Akn (Lc t1) (Lc t2);omega
 obtain⟨p,af⟩: ∃p,((w.alloc (.cells #[.pointer p1] 100)).alloc (.cells #[.pointer p2] 100)).alloc (.cells #[.slice none 0 0] 50)=p:=⟨_,rfl⟩;have bv:Hid (Below w.heap.size w p):=af▸(D3 _ _ _).alloc (by simp;omega) _;have a3:Ap p (w.heap.size+1+1) 50 #[.slice none 0 0]:=by
  have:=Ap.new1 (w.alloc (.cells #[.pointer p1] 100)) (.cells #[.pointer p2] 100) 50 #[.slice none 0 0]
  rwa [World.size_alloc,af]at this
 have bb:Ap p w.heap.size 100 #[.pointer p1]:=af▸((Ap.new _ _ _).alloc _).alloc _;have bc:Ap p (w.heap.size+1) 100 #[.pointer p2]:=af▸(Ap.new1 _ _ _ _).alloc _;have a0:=qz (show p.heap.size=w.heap.size+1+1+1 from by rw[<-af];simp);have aw:=qz (Acf p1 p2 p);have c0:=bb.cell 0;have c1:=bc.cell 0;obtain⟨bs,ap,bt,bu,bw⟩:=hid5 aq a3 a4 a5 be;clear aq a3 a4 a5 be;clear bb bc;refine(callsIn_wide (n:=12)).1 ?_;refine callsIn_of_wp_marks Tryz.func43 rfl trivial ?_ rfl;simp only[Tryz.ntmps43,List.size_toArray,List.length_cons,List.length_nil,Nat.reduceAdd,Nat.reduceSub,Array.replicate_succ,Array.replicate_zero,List.push_toArray,List.append_toArray,List.nil_append,List.cons_append]
 gi_wp2_with (fail)
 refine⟨trivial, ?_⟩
 gi_at_call 87
 refine(callsIn_wide.2 aw.out).mono ?_;rintro e w4 ⟨rfl,aj⟩;have a9:Below p.heap.size p w4:=aj▸(D3 _ _ _);have a8:Ap w4 p.heap.size 100 #[.pointer p1]:=aj▸(Ap.new _ _ _).alloc _;have am:Ap w4 (p.heap.size+1) 100 #[.pointer p2]:=aj▸Ap.new1 _ _ _ _;have bx:Hid (w4.heap.size=p.heap.size+1+1):=by
  show _=_;rw[<-aj];simp
 have a7:Below w.heap.size w w4:=bv.out.trans (a9.mono (by have:=a0.out;omega));have br:=qz (ap.out.below a9 ap.out.lt);clear c0 c1 af aj aw ap
 gi_wp2_with (fail)
 have au:=a0.out;have av:=bx.out;obtain⟨j0,hj,bf,bg,bh⟩:=info_parts Sh;obtain⟨Hj,ax,ay,az⟩:=hid4 hj bf bg bh;clear hj bf bg bh;refine Ad8 (n:=10) (gf:=148) (lb:= #[.pointer (some ⟨p.heap.size,0,none⟩),.pointer (some ⟨p.heap.size+1,0,none⟩)]) rfl (enters_of Tryz.func148 (by kernel_rfl) rfl) (Zp (fun i=>i<w.heap.size\/i=p.heap.size\/i=p.heap.size+1) t1 t2 p1 p2 p.heap.size (p.heap.size+1) b7 b8 l1 l2 b1 b2) (fun _ _=>rfl)
  ChE.put ?hK0 (FrI w (w.heap.size+1+1)) ?hIn ?hIp ChE.below ?hN ?h0 (FrB w.heap.size p.heap.size p1 p2) ?hRp ?assign ?body ?done
 case hRp=>exact fun x q a' A k o o' h m y=>h.put m y o'
 case assign=>
  clear au av;rintro l ⟨k,o1,o2⟩ ⟨bz,b0⟩ D W K ⟨ab,z⟩ hK;dsimp only at ab z;obtain⟨bi,a1,bm,bq,bj,bl,bk,bn,bp,bo,rfl⟩:=Ae6 ab;obtain⟨J,u,O,X,L,N,M,Q,U,R,rfl⟩:=Ae6 z;clear ab z;dsimp only[Ng];simp only[List.cons_append,List.nil_append]
  gi_wp2_with (fail)
  exact hK _ _ (Aa _ _) ⟨_,bi,a1,bm,bq,bj,bl,bk,bn,bp,bo,J,u,O,X,L,N,M,Q,U,R,rfl,Ap.new _ _ _,rfl⟩
 case hK0=>rintro i (h|rfl|rfl)<;>omega
 case hIn=>exact fun s T K A T' K' B h m y h3=>h.step m y h3
 case hIp=>exact fun s T K A k o o' h m y h3 h4=>h.put m y h3 (by omega) o'
 case hN=>
  intro W hW;have hB:Below w.heap.size w W:=a7.trans (hW.mono (by omega));exact⟨a8.below hW a8.lt,am.below hW am.lt,(bt.out.below hB).mono fun i _ b=> .inl b,(bu.out.below hB).mono fun i _ b=> .inl b,.inr (.inl rfl),.inr (.inr rfl),by
   have:=hW.size;rintro i (h|rfl|rfl)<;>omega⟩
 case h0=>exact⟨_,br.out,Bk.nil _ _ _ _ _,a7,⟨by rintro(h|h|h)<;>omega,fun h=>h⟩,fun g e=>(by cases e),fun i h=>h.elim,fun i h=> .inl h,by rintro i (h|rfl|rfl)<;>omega⟩
 case body=>
  rintro l pre ⟨k,o1,o2⟩ rest ⟨bz,b0⟩ T K a' A ⟨G,bi,a1,bm,bq,bj,bl,bk,bn,bp,bo,J,u,O,X,L,N,M,Q,U,R,hq,j,rfl⟩ hx ⟨V,m,y,h3,h4,h5,h6,h7,h8⟩ ⟨ab,z⟩ al ak cf cg ⟨ds,E⟩ ⟨rc,bd⟩
  cases hq
  dsimp only at ab z j;obtain⟨Z,cV,rfl⟩:=y.slice;have b9:(Eo (pre.map G4)).length<=2000000:=by
   have:=bw.out;rw[hx,List.length_append]at this;rw[E8,List.length_map];omega
  have an:=(Array.getElem?_eq_some_iff.1 E).1;have ao:=(Array.getElem?_eq_some_iff.1 bd).1;have ar: ∀(i:Nat) (o:Obj),A.heap[i]? =some o->o.isCells=false->i≠w.heap.size+1+1/\(Value.slice Z (Eo (pre.map G4)).length cV).ownBlock≠some i:=by
   refine fun i o b ho=>⟨?_,fun e=> ?_⟩
   . rintro rfl;rw[show A.heap[w.heap.size+1+1]? =some (Obj.cells _ _ _)from m]at b
     cases b
     cases ho
   . obtain⟨b3,ba⟩:=y.ownBlk e;rw[show A.heap[i]? =some (Obj.cells b3 _ _)from ba]at b
     cases b
     cases ho
  have ad:=ar _ _ E rfl;have ae:=ar _ _ bd rfl;have lL:=m.lt;have g0:=m.cell 0;have f0:=j.cell 0;have f8:=j.cell 8;have f9:=j.cell 9;have ca:=j.cell 10;have cb:=j.cell 11;have cc:=j.cell 12;have cd:=j.cell 13;have ce:=j.cell 14;have fz:=m.frozen;have ch:=j.lt;clear ar;dsimp only;clear au av
  cases o2 with
  |none=>
   have hd:Ai (fun i=>(K i/\ ¬T i)/\(Value.slice Z (Eo (pre.map G4)).length cV).ownBlock≠some i) (A.alloc (.cells #[.int .i64 2,.string k,.int .i64 0,.bool false,.int .i64 0,.string ⟨#[]⟩,.slice none 0 0,.slice none 0 0] 80)) (dQ ⟨2,k,Pv⟩) [.int .i64 2,.string k,.int .i64 0,.bool false,.int .i64 0,.string ⟨#[]⟩,.slice none 0 0,.slice none 0 0]:=
    (Ah6 (fun _ _ _=>Aed _ _)).mono fun i _ b=>⟨b,fun e=>(h5 i e).1 b.1⟩
   obtain⟨V',w6,I,r,ac,C⟩:=Ll (P:=Tryz.prog) (ty:=50) (c:=1) Tryz.underlying50 Hj.out ax.out ay.out az.out rfl (by omega) (y.below (Aa A (.cells #[.int .i64 2,.string k,.int .i64 0,.bool false,.int .i64 0,.string ⟨#[]⟩,.slice none 0 0,.slice none 0 0] 80))) (by simp;omega) (Kn ⟨2,k,Pv⟩) hd (Ib (Ap.new A 80 #[.int .i64 2,.string k,.int .i64 0,.bool false,.int .i64 0,.string ⟨#[]⟩,.slice none 0 0,.slice none 0 0])) (by simp only[maxLen];omega) (by omega);have f:=(m.alloc (.cells #[.int .i64 2,.string k,.int .i64 0,.bool false,.int .i64 0,.string ⟨#[]⟩,.slice none 0 0,.slice none 0 0] 80)).grown ac fun e=>(h5 _ e.symm).2.2 rfl;have g6:=f.cell 0;have b4:=f.frozen;have b6:=f.lt;have e6:Eo (pre.map G4)++ [dQ ⟨2,k,Pv⟩]=Eo ((pre++ [(k,o1,none)]).map G4):=by simp[Eo,G4]
   rw[e6]at r;obtain⟨Y,ah⟩: ∃Y,(Eo ((pre++ [(k,o1,none)]).map G4)).length=Y:=⟨_,rfl⟩;obtain⟨a6,c6,rfl⟩:=r.slice_n ah;clear ah;have F: ∀aa,P7 (fun B=>FrI w (w.heap.size+1+1) (pre++ [(k,o1,none)]) T K B/\KB (fun i=> ¬K i) A B) w4.heap.size A .normal aa (w6.setCell ⟨w.heap.size+1+1,0,none⟩ (.slice a6 Y c6)):=by
    intro aa;have ai:=Aa A (.cells #[.int .i64 2,.string k,.int .i64 0,.bool false,.int .i64 0,.string ⟨#[]⟩,.slice none 0 0,.slice none 0 0] 80);have a:KB (fun i=>i=w.heap.size+1+1\/(Value.slice Z (Eo (pre.map G4)).length cV).ownBlock=some i) A (w6.setCell ⟨w.heap.size+1+1,0,none⟩ (.slice a6 Y c6)):=
     (((KB.of_below ai).trans (KB.of_grown (S:=fun i=>i=w.heap.size+1+1\/(Value.slice Z (Eo (pre.map G4)).length cV).ownBlock=some i) ac fun k e=> .inr e) fun _ _ h=>h).trans (KB.set (S:=fun i=>i=w.heap.size+1+1\/(Value.slice Z (Eo (pre.map G4)).length cV).ownBlock=some i) w6 ⟨w.heap.size+1+1,0,none⟩ (.inl rfl) (.slice a6 Y c6)) fun _ _ h=>h)
    have H: ∀g,(Value.slice a6 Y c6).ownBlock=some g->(Value.slice Z (Eo (pre.map G4)).length cV).ownBlock=some g\/A.heap.size<=g:=fun g e=>by
     rcases C with e6|e6
     . exact .inl (e6▸e)
     . rw[e6]at e;have e7:=Option.some.inj e;have:=ai.size;exact .inr (by omega)
    refine⟨a.block _ an fun h=>h.elim ad.1 ad.2,a.block _ ao fun h=>h.elim ae.1 ae.2,⟨.slice a6 Y c6,f.set_ 0 _,r.keepN (Nat.le_refl _) (fun i b=>b) (by simp[World.setCell]) fun i i1 _=>Below.heap_setCell _ _ _ _ ?_,h3.trans (a.below (fun i b=> ?_) h3.size),h4,fun g e=> ?_,h6,h7,fun i b=>Nat.lt_of_lt_of_le (h8 i b) a.size⟩,a.os,a.tape,a.output,a.size,fun i i1 i2=>a.block i i1 fun h=>i2 ?_⟩
    . rcases i1 with i1|i1
      . exact fun e=>h4.1 ((show i=w.heap.size+1+1 from e)▸i1.1)
      . rcases H i i1 with h|h
        . exact(h5 i h).2.2
        . show i≠w.heap.size+1+1;omega
    . rcases b with rfl|b
      . omega
      . exact(y.base i b).1
    . rcases H g e with h|h
      . exact h5 g h
      . have hk: ¬K g:=fun hk=>by have:=ak g hk;omega
        exact⟨hk,fun ht=>hk (al g ht),by omega⟩
    . rcases h with rfl|h
      . exact h4.1
      . exact(h5 i h).1
   have ag:=qz F;clear F ac C r f m y h3 h4 h5 h6 h7 h8 ab z ak al hd ad ae
   gi_wp2_with (gi_at_builtin;refine Jb rfl (.tmp 21) (.tmp 25) 50 rfl rfl rfl I ?_;clear I)
   exact ag.out _
  |some v=>
   have hd:Ai (fun i=>(K i/\ ¬T i)/\(Value.slice Z (Eo (pre.map G4)).length cV).ownBlock≠some i) (A.alloc (.cells #[.int .i64 1,.string k,.int .i64 J,.bool u,.int .i64 O,.string X,.slice L N M,.slice Q U R] 80)) (dQ ⟨1,k,v⟩) [.int .i64 1,.string k,.int .i64 J,.bool u,.int .i64 O,.string X,.slice L N M,.slice Q U R]:=
    (Ah6 ((Ai.below (S:=fun i=>K i/\ ¬T i) (d:=dV v) z (Aa A _)))).mono fun i _ b=>⟨b,fun e=>(h5 i e).1 b.1⟩
   obtain⟨V',w6,I,r,ac,C⟩:=Ll (P:=Tryz.prog) (ty:=50) (c:=1) Tryz.underlying50 Hj.out ax.out ay.out az.out rfl (by omega) (y.below (Aa A (.cells #[.int .i64 1,.string k,.int .i64 J,.bool u,.int .i64 O,.string X,.slice L N M,.slice Q U R] 80))) (by simp;omega) (Kn ⟨1,k,v⟩) hd (Ib (Ap.new A 80 #[.int .i64 1,.string k,.int .i64 J,.bool u,.int .i64 O,.string X,.slice L N M,.slice Q U R])) (by simp only[maxLen];omega) (by omega);have f:=(m.alloc (.cells #[.int .i64 1,.string k,.int .i64 J,.bool u,.int .i64 O,.string X,.slice L N M,.slice Q U R] 80)).grown ac fun e=>(h5 _ e.symm).2.2 rfl;have g6:=f.cell 0;have b4:=f.frozen;have b6:=f.lt;have e6:Eo (pre.map G4)++ [dQ ⟨1,k,v⟩]=Eo ((pre++ [(k,o1,some v)]).map G4):=by simp[Eo,G4]
   rw[e6]at r;obtain⟨Y,ah⟩: ∃Y,(Eo ((pre++ [(k,o1,some v)]).map G4)).length=Y:=⟨_,rfl⟩;obtain⟨a6,c6,rfl⟩:=r.slice_n ah;clear ah;have F: ∀aa,P7 (fun B=>FrI w (w.heap.size+1+1) (pre++ [(k,o1,some v)]) T K B/\KB (fun i=> ¬K i) A B) w4.heap.size A .normal aa (w6.setCell ⟨w.heap.size+1+1,0,none⟩ (.slice a6 Y c6)):=by
    intro aa;have ai:=Aa A (.cells #[.int .i64 1,.string k,.int .i64 J,.bool u,.int .i64 O,.string X,.slice L N M,.slice Q U R] 80);have a:KB (fun i=>i=w.heap.size+1+1\/(Value.slice Z (Eo (pre.map G4)).length cV).ownBlock=some i) A (w6.setCell ⟨w.heap.size+1+1,0,none⟩ (.slice a6 Y c6)):=
     (((KB.of_below ai).trans (KB.of_grown (S:=fun i=>i=w.heap.size+1+1\/(Value.slice Z (Eo (pre.map G4)).length cV).ownBlock=some i) ac fun k e=> .inr e) fun _ _ h=>h).trans (KB.set (S:=fun i=>i=w.heap.size+1+1\/(Value.slice Z (Eo (pre.map G4)).length cV).ownBlock=some i) w6 ⟨w.heap.size+1+1,0,none⟩ (.inl rfl) (.slice a6 Y c6)) fun _ _ h=>h)
    have H: ∀g,(Value.slice a6 Y c6).ownBlock=some g->(Value.slice Z (Eo (pre.map G4)).length cV).ownBlock=some g\/A.heap.size<=g:=fun g e=>by
     rcases C with e6|e6
     . exact .inl (e6▸e)
     . rw[e6]at e;have e7:=Option.some.inj e;have:=ai.size;exact .inr (by omega)
    refine⟨a.block _ an fun h=>h.elim ad.1 ad.2,a.block _ ao fun h=>h.elim ae.1 ae.2,⟨.slice a6 Y c6,f.set_ 0 _,r.keepN (Nat.le_refl _) (fun i b=>b) (by simp[World.setCell]) fun i i1 _=>Below.heap_setCell _ _ _ _ ?_,h3.trans (a.below (fun i b=> ?_) h3.size),h4,fun g e=> ?_,h6,h7,fun i b=>Nat.lt_of_lt_of_le (h8 i b) a.size⟩,a.os,a.tape,a.output,a.size,fun i i1 i2=>a.block i i1 fun h=>i2 ?_⟩
    . rcases i1 with i1|i1
      . exact fun e=>h4.1 ((show i=w.heap.size+1+1 from e)▸i1.1)
      . rcases H i i1 with h|h
        . exact(h5 i h).2.2
        . show i≠w.heap.size+1+1;omega
    . rcases b with rfl|b
      . omega
      . exact(y.base i b).1
    . rcases H g e with h|h
      . exact h5 g h
      . have hk: ¬K g:=fun hk=>by have:=ak g hk;omega
        exact⟨hk,fun ht=>hk (al g ht),by omega⟩
    . rcases h with rfl|h
      . exact h4.1
      . exact(h5 i h).1
   have ag:=qz F;clear F ac C r f m y h3 h4 h5 h6 h7 h8 ab z ak al hd ad ae
   gi_wp2_with (gi_at_builtin;refine Jb rfl (.tmp 13) (.tmp 19) 50 rfl rfl rfl I ?_;clear I)
   exact ag.out _
 case done=>
  rintro T K A hI b5 E;have a2:=hI.put E rfl b5 (by omega) (.deferred none);obtain⟨V,m,y,h3,_⟩:=hI;obtain⟨Z,cV,rfl⟩:=y.slice;have g0:=m.cell 0;have lL:=m.lt;have hq:Bk (fun _=>True) w.heap.size 80 8 (A.putObj w4.heap.size (.deferred none)) (Eo ((D1 (Lc t1) (Lc t2)).map G4)) (.slice Z (Eo ((D1 (Lc t1) (Lc t2)).map G4)).length cV):=by
   obtain⟨V2,k1,k2,_⟩:=a2;have e1:Ap (A.putObj w4.heap.size (.deferred none)) (w.heap.size+1+1) 50 #[.slice Z (Eo ((D1 (Lc t1) (Lc t2)).map G4)).length cV]:=(World.putObj_heap_other (by
    rintro e;rw[<-e]at E;rw[show A.heap[w.heap.size+1+1]? =some (Obj.cells _ _ _)from m]at E
    cases E)).trans m
   have e2:=e1.symm.trans k1;simp only[Option.some.injEq,Obj.cells.injEq,Array.mk.injEq,List.cons.injEq,and_true]at e2;rw[e2];exact k2.mono fun _ _=>trivial
  have HP:Hid (PO (.returned (.slice Z (Eo ((D1 (Lc t1) (Lc t2)).map G4)).length cV)) (A.putObj w4.heap.size (.deferred none))):=by
   show PO _ _;rw[<-bs.out];exact⟨h3.trans ((KB.put (S:=fun i=>w.heap.size<=i) A (k:=w4.heap.size) (by omega) (.deferred none)).below (fun _ h=>h) h3.size),_,rfl,hq⟩
  clear a2 m y h3 hq au av;generalize (Eo ((D1 (Lc t1) (Lc t2)).map G4)).length=Y at g0 HP
  gi_wp2
  refine⟨by simp,.inl ⟨_,_,rfl,run_takeDeferred E, ?_⟩⟩;exact⟨_,results_tmp (t:=4) rfl _ _ _,HP.out⟩
theorem Kc (k:ByteArray) (n:Int) (w:World):Calls Tryz.prog 45 #[.string k,.int .i64 n] w fun e w'=>e=.returned (.agg #[.string k,.int .i64 3,.bool false,.int .i64 n,.string ⟨#[]⟩,.slice none 0 0,.slice none 0 0])/\Below w.heap.size w w':=by
 obtain⟨h,b⟩: ∃P:Ending->World->Prop,(fun e w'=>e=.returned (.agg #[.string k,.int .i64 3,.bool false,.int .i64 n,.string ⟨#[]⟩,.slice none 0 0,.slice none 0 0])/\Below w.heap.size w w')=P:=⟨_,rfl⟩;rw[b];obtain⟨w1,f⟩: ∃w1,w.alloc (.cells #[.string ⟨#[]⟩,.int .i64 0,.bool false,.int .i64 0,.string ⟨#[]⟩,.slice none 0 0,.slice none 0 0] 103)=w1:=⟨_,rfl⟩;have d:Below w.heap.size w w1:=f▸Aa _ _;have a:Ap w1 w.heap.size 103 #[.string ⟨#[]⟩,.int .i64 0,.bool false,.int .i64 0,.string ⟨#[]⟩,.slice none 0 0,.slice none 0 0]:=f▸Ap.new _ _ _;have m:=a.cell 0;have p:=a.cell 1;have q:=a.cell 2;have r:=a.cell 3;have s:=a.cell 4;have t:=a.cell 5;have u:=a.cell 6;have j:=a.frozen;have l:=a.lt;have g:=qz (((((((a.set_ 0 (.string k)).set_ 1 (.int .i64 3)).set_ 2 (.bool false)).set_ 3 (.int .i64 n)).set_ 4 (.string ⟨#[]⟩)).set_ 5 (.slice none 0 0)).set_ 6 (.slice none 0 0));have c:Below w.heap.size w (((((((w1.setCell ⟨w.heap.size,0,none⟩ (.string k)).setCell ⟨w.heap.size,1,none⟩ (.int .i64 3)).setCell ⟨w.heap.size,2,none⟩ (.bool false)).setCell ⟨w.heap.size,3,none⟩ (.int .i64 n)).setCell ⟨w.heap.size,4,none⟩ (.string ⟨#[]⟩)).setCell ⟨w.heap.size,5,none⟩ (.slice none 0 0)).setCell ⟨w.heap.size,6,none⟩ (.slice none 0 0)):=As [.string k,.int .i64 3,.bool false,.int .i64 n,.string ⟨#[]⟩,.slice none 0 0,.slice none 0 0] d (Nat.le_refl _) (o:=0);have i:Hid (h (.returned (.agg #[.string k,.int .i64 3,.bool false,.int .i64 n,.string ⟨#[]⟩,.slice none 0 0,.slice none 0 0])) (((((((w1.setCell ⟨w.heap.size,0,none⟩ (.string k)).setCell ⟨w.heap.size,1,none⟩ (.int .i64 3)).setCell ⟨w.heap.size,2,none⟩ (.bool false)).setCell ⟨w.heap.size,3,none⟩ (.int .i64 n)).setCell ⟨w.heap.size,4,none⟩ (.string ⟨#[]⟩)).setCell ⟨w.heap.size,5,none⟩ (.slice none 0 0)).setCell ⟨w.heap.size,6,none⟩ (.slice none 0 0))):=by
  show h _ _;rw[<-b];exact⟨rfl,c⟩
 clear c d a b;go_enter Tryz.func45,Tryz.ntmps45;go_wp2;exact bodyPost_ret (Rj rfl rfl g.out) rfl i.out
def Ry:List Cq:= [(⟨#[120]⟩,iv 1),(⟨#[121]⟩,iv 2)]
def Rz:List Cq:= [(⟨#[121]⟩,iv 3),(⟨#[122]⟩,iv 4)]
def Uv:List POp:= [⟨2,⟨#[120]⟩,Pv⟩,⟨1,⟨#[121]⟩,iv 3⟩,⟨1,⟨#[122]⟩,iv 4⟩]
abbrev Ank:ByteArray:=⟨([91,123,34,107,101,121,34,58,34,120,34,44,34,111,112,34,58,34,100,101,108,34,125,44,123,34,107,101,121,34,58,34,121,34,44,34,111,112,34,58,34,112,117,116,34].append [44,34,118,97,108,117,101,34,58,51,125,44,123,34,107,101,121,34,58,34,122,34,44,34,111,112,34,58,34,112,117,116,34,44,34,118,97,108,117,101,34,58,52,125,93]).toArray⟩
theorem Aeu:A8 none Uv=0:=by decide+kernel
theorem Ak1:Bd (E0 Uv)=Ank.data.toList:=by kernel_rfl
theorem Amn:A0 (E0 Uv) 1=0:=by decide+kernel
theorem Ang:Jv Uv=Ank:=by
 have a:Jv Uv=Nr (E0 Uv):=if_pos Aeu;rw[a];unfold Nr;rw[if_pos Amn,Ak1]
theorem Aiz:Jy Ry=Ry:=by kernel_rfl
theorem Aix:Lc (Ei Ry)=Ry:=rfl
theorem Aml:okT (Ei Ry):=(Wp (by have h:=(Ke Ry [] List.Pairwise.nil).1;rw[show Ry.foldl (fun l e=>Dz e.1 e.2 l) []=Ry from Aiz]at h;exact h) (by decide)).1
theorem Ai0:Jy Rz=Rz:=by kernel_rfl
theorem Aiy:Lc (Ei Rz)=Rz:=rfl
theorem Amm:okT (Ei Rz):=(Wp (by have h:=(Ke Rz [] List.Pairwise.nil).1;rw[show Rz.foldl (fun l e=>Dz e.1 e.2 l) []=Rz from Ai0]at h;exact h) (by decide)).1
theorem Ak0:(D1 Ry Rz).map G4=Uv:=by
 have b:Er ⟨#[120]⟩ ⟨#[121]⟩=true:=by decide+kernel
 have a:Er ⟨#[121]⟩ ⟨#[121]⟩=false:=by decide+kernel
 have c:Fs (iv 2) (iv 3)=false:=by decide+kernel
 unfold Ry Rz;rw[D1,if_pos b,D1,if_neg (by rw[a];simp),if_neg (by rw[a];simp),if_neg (by rw[c];simp),D1,D1];rfl
theorem Aev (w:World) (a b:ByteArray) (c d:Int):Ag (w.alloc (.cells #[.string a,.int .i64 3,.bool false,.int .i64 c,.string ⟨#[]⟩,.slice none 0 0,.slice none 0 0,.string b,.int .i64 3,.bool false,.int .i64 d,.string ⟨#[]⟩,.slice none 0 0,.slice none 0 0] 103)) (w.alloc (.cells #[.string a,.int .i64 3,.bool false,.int .i64 c,.string ⟨#[]⟩,.slice none 0 0,.slice none 0 0,.string b,.int .i64 3,.bool false,.int .i64 d,.string ⟨#[]⟩,.slice none 0 0,.slice none 0 0] 103)).heap.size (.row 7 (dO [(a,iv c),(b,iv d)])) [.slice (some ⟨w.heap.size,0,none⟩) 2 2]:=
 Af5 (Ap.new _ _ _) (L0 _) ((Ah.one (V4 _ _ a c)).app (Ah.one (V4 _ _ b d))) rfl
theorem Ux (w:World) (S:Cj w) (hN:Km w):Calls Tryz.prog 21 #[] w fun e w'=>e=.returned (.bool true)/\Below w.heap.size w w':=by
 obtain⟨R,g⟩: ∃P:Ending->World->Prop,(fun e w'=>e=.returned (.bool true)/\Below w.heap.size w w')=P:=⟨_,rfl⟩;rw[g];have L:=qz (fun W=>Kc ⟨#[120]⟩ 1 W);have M:=qz (fun W=>Kc ⟨#[121]⟩ 2 W);have N:=qz (fun W=>Kc ⟨#[121]⟩ 3 W);have O:=qz (fun W=>Kc ⟨#[122]⟩ 4 W);obtain⟨HT,Y,H⟩:=hid3 S hN g;clear S hN g;go_enter Tryz.func21,Tryz.ntmps21;go_wp2_with (fail);(with_reducible refine(L.out w).mono ?_);rintro e w1 ⟨rfl,l⟩;go_wp2_with (fail);(with_reducible refine(M.out w1).mono ?_);rintro e w2 ⟨rfl,z⟩;have j:=l.trans (z.mono l.size);have n:=Nq Ry _ 2 2 _ (Aev w2 ⟨#[120]⟩ ⟨#[121]⟩ 1 2) (by decide) (by decide);rw[Aiz]at n;have u:=qz (j.alloc j.size (.cells #[.string ⟨#[120]⟩,.int .i64 3,.bool false,.int .i64 1,.string ⟨#[]⟩,.slice none 0 0,.slice none 0 0,.string ⟨#[121]⟩,.int .i64 3,.bool false,.int .i64 2,.string ⟨#[]⟩,.slice none 0 0,.slice none 0 0] 103));have J:=qz n;clear n;clear l z j;go_wp2_with (fail);(with_reducible refine(J.out).mono ?_);rintro e X ⟨A,p1,rfl,x⟩;have r:=qz (u.out.trans (A.mono u.out.size));have q:=qz (x.mono (T:=fun i=>i<X.heap.size) fun i F _=>F);clear A x;go_wp2_with (fail);(with_reducible refine(N.out X).mono ?_);rintro e w4 ⟨rfl,m⟩;go_wp2_with (fail);(with_reducible refine(O.out w4).mono ?_);rintro e w5 ⟨rfl,B⟩;have k:=(m.trans (B.mono m.size));have o:=Nq Rz _ 2 2 _ (Aev w5 ⟨#[121]⟩ ⟨#[122]⟩ 3 4) (by decide) (by decide);rw[Ai0]at o;have v:=qz (k.alloc k.size (.cells #[.string ⟨#[121]⟩,.int .i64 3,.bool false,.int .i64 3,.string ⟨#[]⟩,.slice none 0 0,.slice none 0 0,.string ⟨#[122]⟩,.int .i64 3,.bool false,.int .i64 4,.string ⟨#[]⟩,.slice none 0 0,.slice none 0 0] 103));have K:=qz o;clear o;clear m B k;go_wp2_with (fail);(with_reducible refine(K.out).mono ?_);rintro e w6 ⟨C,p2,rfl,y⟩;have a:=v.out.trans (C.mono v.out.size);have s:=qz (r.out.trans (a.mono r.out.size));have d:=y.mono (T:=fun i=>i<w6.heap.size) fun i F _=>F;have c:=(q.out.below a).mono (T:=fun i=>i<w6.heap.size) fun i F _=>F;have f:=Acn (Ei Ry) (Ei Rz) p1 p2 w6 c d Aml Amm (by rw[Aix];decide) (by rw[Aiy];decide) (by rw[Aix];decide) (by rw[Aiy];decide);rw[Aix,Aiy,Ak0]at f;have G:=qz f;clear f;clear C y a d c;go_wp2_with (fail);(with_reducible refine(G.out).mono ?_);rintro e w7 ⟨D,V,rfl,Q⟩;obtain⟨a7,c7,rfl⟩:=Q.slice;have b:=s.out.trans (D.mono s.out.size);have h:=Nl Uv a7 (Eo Uv).length c7 w7 (HT.out.below b) (Y.out.below b) Q.close (by decide) (by intro p U;simp[Uv]at U;rcases U with rfl|rfl|rfl<;>simp[I9,Na,I6,iv]);rw[Ang,Aeu]at h;obtain⟨I,t⟩:=hid2 h b;clear h b;clear D Q;go_wp2_with (fail);(with_reducible refine(I.out).mono ?_);rintro e w8 ⟨rfl,E⟩;have Z:Hid (R (.returned (.bool true)) w8):=by
  show R _ _;rw[<-H.out];exact⟨rfl,t.out.trans (E.mono t.out.size)⟩
 clear E;go_wp2;exact Z.out
end Go.Proofs.YtjgfchcldhmjcaaGreatDoor
