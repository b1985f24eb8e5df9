/- Parts: commonplacelaw14.known: the chapter's rows are so. No condition. -/
import Derived.Test.YtdbejcbbhomdbaaGreatDoorKPt36
import Derived.Test.YtdbejcbbhomdbaaGreatDoorKPt38
set_option maxHeartbeats 20000000
set_option maxRecDepth 100000
namespace Go.Proofs.YtdbejcbbhomdbaaGreatDoor
open Go Go.RowKit
attribute [local go_sem] Oper.semAt_some
def Yp (ps:List POp) (w:World) (e:Ending) (w':World):Prop:=Below w.heap.size w w'/\ ∃V,e=.returned V/\As (fun _=>True) w.heap.size 64 8 w' (Db ps) V
theorem Zb {D:Nat->Prop} {A:World} {o:Option Val} {cs:List Value} (h:En D A o cs): ∃k' b' n' t' la ln lc oa on oc,cs= [.int .i64 k',.bool b',.int .i64 n',.string t',.slice la ln lc,.slice oa on oc]:=by
 cases o with
 |none=>
  cases h
  exact⟨_,_,_,_,_,_,_,_,_,_,rfl⟩
 |some v=>
  obtain⟨k,b,n,t,l,o⟩:=v;obtain⟨la,lc,oa,oc,rfl⟩:=G9 h;exact⟨_,_,_,_,_,_,_,_,_,_,rfl⟩
theorem Abo {S:Nat->Prop} {w:World} {k:Int} {key:ByteArray} {v:Val} {cs:List Value} (h:Ac S w (dV v) cs):Ac S w (dQ ⟨k,key,v⟩) (.int .i64 k:: .string key::cs):=fun w'' h1 h2=>
 ⟨[.int .i64 k],.string key::cs,rfl,⟨rfl,rfl⟩, [.string key],cs,rfl,⟨rfl,rfl⟩,cs, [],(List.append_nil _).symm,h w'' h1 h2,rfl⟩
theorem Ym (w:World) (B:Nat):Ae w B (dV J3) [.int .i64 0,.bool false,.int .i64 0,.string ⟨#[]⟩,.slice none 0 0,.slice none 0 0]:=D0 _ _ (Gl w B)
theorem Adn (a b:List Bz):(Cv a b).length<=a.length+b.length:=by
 fun_induction Cv a b<;>simp_all<;>omega
theorem F7 {F:Fence} {n:Nat} {P:Program} {w w':World} {ops:Array Oper} {rest:List Oper} {o:Oper} {a:Act} {Q:Exit->Act->World->Prop} (hg:o.guard=none) (s x:Operand) (t:TypeId) (hop:o.op=Op.call {callee:=Callee.builtin Builtin.append,args:= #[s,x],argTypes:= #[t,t]})
 {V A V':Value} (hs:a.eval s=V) (hx:a.eval x=A) (hrun:(Builtin.append_ #[t,t] o.type #[V,A]).run P w=.ok V' w') (hK:wpListIn F n P ops Q rest (a.put o.dst V') w'):wpListIn F n P ops Q (o::rest) a w:=by
 refine wpListIn_plain hg fun K hK'=> ?_;unfold Oper.wpIn;refine⟨?_, ?_⟩
 . simp[Oper.about,hop,resolve,Target.leads,Sem.run_pure]
 . rw[Oper.semAt_plain F _ _ (by rw[hop];intro c hc';cases hc')];simp[execOp,hop,resolve,invoke,builtin,hs,hx,hrun,Result.andThen];exact hK' _ _ hK
def FrI (w:World) (L:Nat) (s:List Yn) (T K:Nat->Prop) (A:World):Prop:=
 ∃V,Aj A L 22 #[V]/\As (fun i=>K i/\ ¬T i) w.heap.size 64 8 A (Db (s.map E3)) V/\Below w.heap.size w A/\(¬K L/\ ¬T L)/\(∀g,V.ownBlock=some g-> ¬K g/\ ¬T g/\g≠L)/\(∀i,T i->w.heap.size<=i)/\(∀i,i<w.heap.size->K i)/\ ∀i,K i->i<A.heap.size
theorem FrI.step {w:World} {L:Nat} {s:List Yn} {T K T' K':Nat->Prop} {A B:World} (h:FrI w L s T K A) (hb:KB T A B) (hT: ∀i,i<A.heap.size->(T' i ↔ T i)/\(K' i ↔ K i)) (hK: ∀i,K' i->i<B.heap.size):FrI w L s T' K' B:=by
 obtain⟨V,h1,h2,h3,h4,h5,h6,h7,h8⟩:=h;have lL:=h1.lt;refine⟨V,(hb.block L lL h4.2).trans h1,h2.keepN (Nat.le_refl _) (fun i hi=>⟨(hT i (h8 i hi.1)).2.2 hi.1,fun h=>hi.2 ((hT i (h8 i hi.1)).1.1 h)⟩) hb.size fun i i1 i2=>hb.block i i2 ?_,h3.trans (hb.below h6 h3.size),⟨fun h=>h4.1 ((hT L lL).2.1 h),fun h=>h4.2 ((hT L lL).1.1 h)⟩,fun g e=> ?_,fun i hi=> ?_,fun i hi=>(hT i (Nat.lt_of_lt_of_le hi h3.size)).2.2 (h7 i hi),hK⟩
 . rcases i1 with i1|i1
   . exact i1.2
   . exact(h5 i i1).2.1
 . have hg:=h5 g e;have hl:=(h2.base g e).2;exact⟨fun h=>hg.1 ((hT g hl).2.1 h),fun h=>hg.2.1 ((hT g hl).1.1 h),hg.2.2⟩
 . rcases Nat.lt_or_ge i A.heap.size with h|h
   . exact h6 i ((hT i h).1.1 hi)
   . have:=h3.size;omega
theorem FrI.put {w:World} {L:Nat} {s:List Yn} {T K:Nat->Prop} {A:World} {k:Nat} {o:Obj} (h:FrI w L s T K A) (ho:A.heap[k]? =some o) (hc:o.isCells=false) (hk: ¬K k) (hw:w.heap.size<=k) (o':Obj):FrI w L s T K (A.putObj k o'):=by
 obtain⟨V,h1,h2,h3,h4,h5,h6,h7,h8⟩:=h;have hcell: ∀i cur t,A.heap[i]? =some (.cells cur t (0,0))->i≠k:=by
  rintro i cur t hi rfl;rw[hi]at ho
  cases ho
  cases hc
 refine⟨V,(World.putObj_heap_other (hcell L _ _ h1)).trans h1,h2.keepN (Nat.le_refl _) (fun i hi=>hi) (by simp[World.putObj]) fun i i1 _=>World.putObj_heap_other ?_,h3.trans ((KB.put (S:=fun i=>w.heap.size<=i) A hw o').below (fun _ h=>h) h3.size),h4,h5,h6,h7,fun i hi=>by have:=h8 i hi;simpa[World.putObj]using this⟩;rcases i1 with i1|i1
 . exact fun e=>hk (e▸i1.1)
 . obtain⟨cur,hcur⟩:=h2.ownBlk i1;exact hcell i _ _ hcur
def FrB (b z:Nat) (p1 p2:Option Addr) (x:Yn) (q:List Value×List Value) (a':Act) (W:World):Prop:=
 ∃g k1' b1' n1' t1' la1 ln1 lc1 oa1 on1 oc1 k2' b2' n2' t2' la2 ln2 lc2 oa2 on2 oc2,q=([.int .i64 k1',.bool b1',.int .i64 n1',.string t1',.slice la1 ln1 lc1,.slice oa1 on1 oc1], [.int .i64 k2',.bool b2',.int .i64 n2',.string t2',.slice la2 ln2 lc2,.slice oa2 on2 oc2])/\Aj W g Zf #[.string x.1,.bool x.2.1.isSome,.int .i64 k1',.bool b1',.int .i64 n1',.string t1',.slice la1 ln1 lc1,.slice oa1 on1 oc1,.bool x.2.2.isSome,.int .i64 k2',.bool b2',.int .i64 n2',.string t2',.slice la2 ln2 lc2,.slice oa2 on2 oc2]/\
  a'={tmps:= #[.agg #[.pointer p1],.agg #[.pointer p2],.pointer (some ⟨b,0,none⟩),.pointer (some ⟨b+1,0,none⟩),.slice none 0 0,.pointer (some ⟨b+1+1,0,none⟩),.pointer (some ⟨g,0,none⟩),.agg #[.pointer p1],.agg #[.pointer p2],.func (.func 89) #[] #[.pointer (some ⟨z,0,none⟩),.pointer (some ⟨z+1,0,none⟩)],.agg #[.string x.1,.bool x.2.1.isSome,.int .i64 k1',.bool b1',.int .i64 n1',.string t1',.slice la1 ln1 lc1,.slice oa1 on1 oc1,.bool x.2.2.isSome,.int .i64 k2',.bool b2',.int .i64 n2',.string t2',.slice la2 ln2 lc2,.slice oa2 on2 oc2],undef,undef,undef,undef,undef,undef,undef,undef,undef,undef,undef,undef,undef,undef,undef,undef,undef],defers:= []}
theorem FrB.put {b z:Nat} {p1 p2:Option Addr} {x:Yn} {q:List Value×List Value} {a':Act} {W:World} {k:Nat} {o:Obj} (h:FrB b z p1 p2 x q a' W) (ho:W.heap[k]? =some o) (hc:o.isCells=false) (o':Obj):FrB b z p1 p2 x q a' (W.putObj k o'):=by
 obtain⟨g,k1',b1',n1',t1',la1,ln1,lc1,oa1,on1,oc1,k2',b2',n2',t2',la2,ln2,lc2,oa2,on2,oc2,h1,h2,h3⟩:=h;refine⟨g,k1',b1',n1',t1',la1,ln1,lc1,oa1,on1,oc1,k2',b2',n2',t2',la2,ln2,lc2,oa2,on2,oc2,h1,(World.putObj_heap_other ?_).trans h2,h3⟩;rintro rfl;rw[show W.heap[g]? =some (Obj.cells _ _ _)from h2]at ho
 cases ho
 cases hc
theorem ChE.below (x:Yn) (q:List Value×List Value) (D:Nat->Prop) (A B:World) (h:ChE x q D A) (hb:Below A.heap.size A B):ChE x q D B:=⟨h.1.keep (fun _ _ h=>h) hb.size fun i _ hi=>hb.block i hi,h.2.keep (fun _ _ h=>h) hb.size fun i _ hi=>hb.block i hi⟩
theorem Xe (t1 t2:Option (Nat×Nd)) (p1 p2:Option Addr) (w:World) (hT1:Ja (fun i=>i<w.heap.size) w t1 p1) (hT2:Ja (fun i=>i<w.heap.size) w t2 p2) (ok1:okT t1) (ok2:okT t2) (l1:(Eu t1).length<=1000000) (l2:(Eu t2).length<=1000000) (b1:Ag (Eu t1)<=100000000) (b2:Ag (Eu t2)<=100000000):
 Calls Tryz.prog 23 #[.agg #[.pointer p1],.agg #[.pointer p2]] w (Yp ((Cv (Eu t1) (Eu t2)).map E3) w):=by
 obtain⟨PO,hPO⟩: ∃P:Ending->World->Prop,Yp ((Cv (Eu t1) (Eu t2)).map E3) w=P:=⟨_,rfl⟩;rw[hPO];have hxl:(Cv (Eu t1) (Eu t2)).length<=2000000:=by have:=Adn (Eu t1) (Eu t2);omega
 obtain⟨w3,hw3⟩: ∃w3,((w.alloc (.cells #[.pointer p1] 45)).alloc (.cells #[.pointer p2] 45)).alloc (.cells #[.slice none 0 0] 22)=w3:=⟨_,rfl⟩;have Hb3:Hid (Below w.heap.size w w3):=hw3▸(Cx _ _ _).alloc (by simp;omega) _;have hL3:Aj w3 (w.heap.size+1+1) 22 #[.slice none 0 0]:=by
  have:=Aj.new1 (w.alloc (.cells #[.pointer p1] 45)) (.cells #[.pointer p2] 45) 22 #[.slice none 0 0]
  rwa [World.size_alloc,hw3]at this
 have hm3:Aj w3 w.heap.size 45 #[.pointer p1]:=hw3▸((Aj.new _ _ _).alloc _).alloc _;have hn3:Aj w3 (w.heap.size+1) 45 #[.pointer p2]:=hw3▸(Aj.new1 _ _ _ _).alloc _;have Hz3:=qz (show w3.heap.size=w.heap.size+1+1+1 from by rw[<-hw3];simp);have HDf:=qz (W9 p1 p2 w3);have c0:=hm3.cell 0;have c1:=hn3.cell 0;obtain⟨HPO,HL3,HT1,HT2,Hxl⟩:=hid5 hPO hL3 hT1 hT2 hxl;clear hPO hL3 hT1 hT2 hxl;clear hm3 hn3;refine(callsIn_wide (n:=12)).1 ?_;refine callsIn_of_wp_marks Tryz.func23 rfl trivial ?_ rfl;simp only[Tryz.ntmps23,List.size_toArray,List.length_cons,List.length_nil,Nat.reduceAdd,Nat.reduceSub,Array.replicate_succ,Array.replicate_zero,List.push_toArray,List.append_toArray,List.nil_append,List.cons_append]
 gi_wp2_with (fail)
 refine⟨trivial, ?_⟩
 gi_at_call 54
 refine(callsIn_wide.2 HDf.out).mono ?_;rintro e w4 ⟨rfl,hw4⟩;have hb4:Below w3.heap.size w3 w4:=hw4▸(Cx _ _ _);have ha4:Aj w4 w3.heap.size 45 #[.pointer p1]:=hw4▸(Aj.new _ _ _).alloc _;have hbb4:Aj w4 (w3.heap.size+1) 45 #[.pointer p2]:=hw4▸Aj.new1 _ _ _ _;have Hz4:Hid (w4.heap.size=w3.heap.size+1+1):=by
  show _=_;rw[<-hw4];simp
 have hW4:Below w.heap.size w w4:=Hb3.out.trans (hb4.mono (by have:=Hz3.out;omega));have HL4:=qz (HL3.out.below hb4 HL3.out.lt);clear c0 c1 hw3 hw4 HDf HL3
 gi_wp2_with (fail)
 have hz3:=Hz3.out;have hz4:=Hz4.out;obtain⟨j0,hj,hy0,hy1,hy2⟩:=info_parts Ot;obtain⟨Hj,Hy0,Hy1,Hy2⟩:=hid4 hj hy0 hy1 hy2;clear hj hy0 hy1 hy2;refine Yh (n:=10) (gf:=89) (lb:= #[.pointer (some ⟨w3.heap.size,0,none⟩),.pointer (some ⟨w3.heap.size+1,0,none⟩)]) rfl (enters_of Tryz.func89 (by kernel_rfl) rfl) (Ur (fun i=>i<w.heap.size\/i=w3.heap.size\/i=w3.heap.size+1) t1 t2 p1 p2 w3.heap.size (w3.heap.size+1) ok1 ok2 l1 l2 b1 b2) (fun _ _=>rfl)
  ChE.put ?hK0 (FrI w (w.heap.size+1+1)) ?hIn ?hIp ChE.below ?hN ?h0 (FrB w.heap.size w3.heap.size p1 p2) ?hRp ?assign ?body ?done
 case hRp=>exact fun x q a' A k o o' h h1 h2=>h.put h1 h2 o'
 case assign=>
  clear hz3 hz4;rintro l ⟨k,o1,o2⟩ ⟨cs1,cs2⟩ D W K ⟨hE1,hE2⟩ hK;dsimp only at hE1 hE2;obtain⟨k1',b1',n1',t1',la1,ln1,lc1,oa1,on1,oc1,rfl⟩:=Zb hE1;obtain⟨k2',b2',n2',t2',la2,ln2,lc2,oa2,on2,oc2,rfl⟩:=Zb hE2;clear hE1 hE2;dsimp only[Kp];simp only[List.cons_append,List.nil_append]
  gi_wp2_with (fail)
  exact hK _ _ (Ab _ _) ⟨_,k1',b1',n1',t1',la1,ln1,lc1,oa1,on1,oc1,k2',b2',n2',t2',la2,ln2,lc2,oa2,on2,oc2,rfl,Aj.new _ _ _,rfl⟩
 case hK0=>rintro i (h|rfl|rfl)<;>omega
 case hIn=>exact fun s T K A T' K' B h h1 h2 h3=>h.step h1 h2 h3
 case hIp=>exact fun s T K A k o o' h h1 h2 h3 h4=>h.put h1 h2 h3 (by omega) o'
 case hN=>
  intro W hW;have hB:Below w.heap.size w W:=hW4.trans (hW.mono (by omega));exact⟨ha4.below hW ha4.lt,hbb4.below hW hbb4.lt,(HT1.out.below hB).mono fun i _ hi=> .inl hi,(HT2.out.below hB).mono fun i _ hi=> .inl hi,.inr (.inl rfl),.inr (.inr rfl),by
   have:=hW.size;rintro i (h|rfl|rfl)<;>omega⟩
 case h0=>exact⟨_,HL4.out,As.nil _ _ _ _ _,hW4,⟨by rintro(h|h|h)<;>omega,fun h=>h⟩,fun g e=>(by cases e),fun i h=>h.elim,fun i h=> .inl h,by rintro i (h|rfl|rfl)<;>omega⟩
 case body=>
  rintro l pre ⟨k,o1,o2⟩ rest ⟨cs1,cs2⟩ T K a' A ⟨G,k1',b1',n1',t1',la1,ln1,lc1,oa1,on1,oc1,k2',b2',n2',t2',la2,ln2,lc2,oa2,on2,oc2,hq,hB1,rfl⟩ hx ⟨V,h1,h2,h3,h4,h5,h6,h7,h8⟩ ⟨hE1,hE2⟩ hTK hKA hd1 hd2 ⟨ds,hds⟩ ⟨rc,hrc⟩
  cases hq
  dsimp only at hE1 hE2 hB1;obtain⟨aV,cV,rfl⟩:=h2.slice;have hlen:(Db (pre.map E3)).length<=2000000:=by
   have:=Hxl.out;rw[hx,List.length_append]at this;rw[Ds,List.length_map];omega
  have hds2:=(Array.getElem?_eq_some_iff.1 hds).1;have hrc2:=(Array.getElem?_eq_some_iff.1 hrc).1;have hne: ∀(i:Nat) (o:Obj),A.heap[i]? =some o->o.isCells=false->i≠w.heap.size+1+1/\(Value.slice aV (Db (pre.map E3)).length cV).ownBlock≠some i:=by
   refine fun i o hi ho=>⟨?_,fun e=> ?_⟩
   . rintro rfl;rw[show A.heap[w.heap.size+1+1]? =some (Obj.cells _ _ _)from h1]at hi
     cases hi
     cases ho
   . obtain⟨cur,hcur⟩:=h2.ownBlk e;rw[show A.heap[i]? =some (Obj.cells cur _ _)from hcur]at hi
     cases hi
     cases ho
  have hr1:=hne _ _ hds rfl;have hr2:=hne _ _ hrc rfl;have lL:=h1.lt;have g0:=h1.cell 0;have f0:=hB1.cell 0;have f8:=hB1.cell 8;have f9:=hB1.cell 9;have f10:=hB1.cell 10;have f11:=hB1.cell 11;have f12:=hB1.cell 12;have f13:=hB1.cell 13;have f14:=hB1.cell 14;have fz:=h1.frozen;have lB1:=hB1.lt;clear hne;dsimp only;clear hz3 hz4
  cases o2 with
  |none=>
   have hd:Ac (fun i=>(K i/\ ¬T i)/\(Value.slice aV (Db (pre.map E3)).length cV).ownBlock≠some i) (A.alloc (.cells #[.int .i64 2,.string k,.int .i64 0,.bool false,.int .i64 0,.string ⟨#[]⟩,.slice none 0 0,.slice none 0 0] 64)) (dQ ⟨2,k,J3⟩) [.int .i64 2,.string k,.int .i64 0,.bool false,.int .i64 0,.string ⟨#[]⟩,.slice none 0 0,.slice none 0 0]:=
    (Abo (fun _ _ _=>Ym _ _)).mono fun i _ hi=>⟨hi,fun e=>(h5 i e).1 hi.1⟩
   obtain⟨V',w6,hrun,hr6,hg6,hat6⟩:=I7 (P:=Tryz.prog) (ty:=22) (c:=1) Tryz.underlying22 Hj.out Hy0.out Hy1.out Hy2.out rfl (by omega) (h2.below (Ab A (.cells #[.int .i64 2,.string k,.int .i64 0,.bool false,.int .i64 0,.string ⟨#[]⟩,.slice none 0 0,.slice none 0 0] 64))) (by simp;omega) (Hy ⟨2,k,J3⟩) hd (D4 (Aj.new A 64 #[.int .i64 2,.string k,.int .i64 0,.bool false,.int .i64 0,.string ⟨#[]⟩,.slice none 0 0,.slice none 0 0])) (by simp only[maxLen];omega) (by omega);have hL2:=(h1.alloc (.cells #[.int .i64 2,.string k,.int .i64 0,.bool false,.int .i64 0,.string ⟨#[]⟩,.slice none 0 0,.slice none 0 0] 64)).grown hg6 fun e=>(h5 _ e.symm).2.2 rfl;have g6:=hL2.cell 0;have fz6:=hL2.frozen;have lL6:=hL2.lt;have e6:Db (pre.map E3)++ [dQ ⟨2,k,J3⟩]=Db ((pre++ [(k,o1,none)]).map E3):=by simp[Db,E3]
   rw[e6]at hr6;obtain⟨N7,hN7⟩: ∃N7,(Db ((pre++ [(k,o1,none)]).map E3)).length=N7:=⟨_,rfl⟩;obtain⟨a6,c6,rfl⟩:=hr6.slice_n hN7;clear hN7;have hfin: ∀aa,Mv (fun B=>FrI w (w.heap.size+1+1) (pre++ [(k,o1,none)]) T K B/\KB (fun i=> ¬K i) A B) w4.heap.size A .normal aa (w6.setCell ⟨w.heap.size+1+1,0,none⟩ (.slice a6 N7 c6)):=by
    intro aa;have hb2:=Ab A (.cells #[.int .i64 2,.string k,.int .i64 0,.bool false,.int .i64 0,.string ⟨#[]⟩,.slice none 0 0,.slice none 0 0] 64);have hKB:KB (fun i=>i=w.heap.size+1+1\/(Value.slice aV (Db (pre.map E3)).length cV).ownBlock=some i) A (w6.setCell ⟨w.heap.size+1+1,0,none⟩ (.slice a6 N7 c6)):=
     (((KB.of_below hb2).trans (KB.of_grown (S:=fun i=>i=w.heap.size+1+1\/(Value.slice aV (Db (pre.map E3)).length cV).ownBlock=some i) hg6 fun k e=> .inr e) fun _ _ h=>h).trans (KB.set (S:=fun i=>i=w.heap.size+1+1\/(Value.slice aV (Db (pre.map E3)).length cV).ownBlock=some i) w6 ⟨w.heap.size+1+1,0,none⟩ (.inl rfl) (.slice a6 N7 c6)) fun _ _ h=>h)
    have hnew: ∀g,(Value.slice a6 N7 c6).ownBlock=some g->(Value.slice aV (Db (pre.map E3)).length cV).ownBlock=some g\/A.heap.size<=g:=fun g e=>by
     rcases hat6 with e6|e6
     . exact .inl (e6▸e)
     . rw[e6]at e;have e7:=Option.some.inj e;have:=hb2.size;exact .inr (by omega)
    refine⟨hKB.block _ hds2 fun h=>h.elim hr1.1 hr1.2,hKB.block _ hrc2 fun h=>h.elim hr2.1 hr2.2,⟨.slice a6 N7 c6,hL2.set_ 0 _,hr6.keepN (Nat.le_refl _) (fun i hi=>hi) (by simp[World.setCell]) fun i i1 _=>Below.heap_setCell _ _ _ _ ?_,h3.trans (hKB.below (fun i hi=> ?_) h3.size),h4,fun g e=> ?_,h6,h7,fun i hi=>Nat.lt_of_lt_of_le (h8 i hi) hKB.size⟩,hKB.os,hKB.tape,hKB.output,hKB.size,fun i i1 i2=>hKB.block i i1 fun h=>i2 ?_⟩
    . rcases i1 with i1|i1
      . exact fun e=>h4.1 ((show i=w.heap.size+1+1 from e)▸i1.1)
      . rcases hnew i i1 with h|h
        . exact(h5 i h).2.2
        . show i≠w.heap.size+1+1;omega
    . rcases hi with rfl|hi
      . omega
      . exact(h2.base i hi).1
    . rcases hnew g e with h|h
      . exact h5 g h
      . have hk: ¬K g:=fun hk=>by have:=hKA g hk;omega
        exact⟨hk,fun ht=>hk (hTK g ht),by omega⟩
    . rcases h with rfl|h
      . exact h4.1
      . exact(h5 i h).1
   have Hfin:=qz hfin;clear hfin hg6 hat6 hr6 hL2 h1 h2 h3 h4 h5 h6 h7 h8 hE1 hE2 hKA hTK hd hr1 hr2
   gi_wp2_with (gi_at_builtin;refine F7 rfl (.tmp 21) (.tmp 25) 22 rfl rfl rfl hrun ?_;clear hrun)
   exact Hfin.out _
  |some v=>
   have hd:Ac (fun i=>(K i/\ ¬T i)/\(Value.slice aV (Db (pre.map E3)).length cV).ownBlock≠some i) (A.alloc (.cells #[.int .i64 1,.string k,.int .i64 k2',.bool b2',.int .i64 n2',.string t2',.slice la2 ln2 lc2,.slice oa2 on2 oc2] 64)) (dQ ⟨1,k,v⟩) [.int .i64 1,.string k,.int .i64 k2',.bool b2',.int .i64 n2',.string t2',.slice la2 ln2 lc2,.slice oa2 on2 oc2]:=
    (Abo ((Ac.below (S:=fun i=>K i/\ ¬T i) (d:=dV v) hE2 (Ab A _)))).mono fun i _ hi=>⟨hi,fun e=>(h5 i e).1 hi.1⟩
   obtain⟨V',w6,hrun,hr6,hg6,hat6⟩:=I7 (P:=Tryz.prog) (ty:=22) (c:=1) Tryz.underlying22 Hj.out Hy0.out Hy1.out Hy2.out rfl (by omega) (h2.below (Ab A (.cells #[.int .i64 1,.string k,.int .i64 k2',.bool b2',.int .i64 n2',.string t2',.slice la2 ln2 lc2,.slice oa2 on2 oc2] 64))) (by simp;omega) (Hy ⟨1,k,v⟩) hd (D4 (Aj.new A 64 #[.int .i64 1,.string k,.int .i64 k2',.bool b2',.int .i64 n2',.string t2',.slice la2 ln2 lc2,.slice oa2 on2 oc2])) (by simp only[maxLen];omega) (by omega);have hL2:=(h1.alloc (.cells #[.int .i64 1,.string k,.int .i64 k2',.bool b2',.int .i64 n2',.string t2',.slice la2 ln2 lc2,.slice oa2 on2 oc2] 64)).grown hg6 fun e=>(h5 _ e.symm).2.2 rfl;have g6:=hL2.cell 0;have fz6:=hL2.frozen;have lL6:=hL2.lt;have e6:Db (pre.map E3)++ [dQ ⟨1,k,v⟩]=Db ((pre++ [(k,o1,some v)]).map E3):=by simp[Db,E3]
   rw[e6]at hr6;obtain⟨N7,hN7⟩: ∃N7,(Db ((pre++ [(k,o1,some v)]).map E3)).length=N7:=⟨_,rfl⟩;obtain⟨a6,c6,rfl⟩:=hr6.slice_n hN7;clear hN7;have hfin: ∀aa,Mv (fun B=>FrI w (w.heap.size+1+1) (pre++ [(k,o1,some v)]) T K B/\KB (fun i=> ¬K i) A B) w4.heap.size A .normal aa (w6.setCell ⟨w.heap.size+1+1,0,none⟩ (.slice a6 N7 c6)):=by
    intro aa;have hb2:=Ab A (.cells #[.int .i64 1,.string k,.int .i64 k2',.bool b2',.int .i64 n2',.string t2',.slice la2 ln2 lc2,.slice oa2 on2 oc2] 64);have hKB:KB (fun i=>i=w.heap.size+1+1\/(Value.slice aV (Db (pre.map E3)).length cV).ownBlock=some i) A (w6.setCell ⟨w.heap.size+1+1,0,none⟩ (.slice a6 N7 c6)):=
     (((KB.of_below hb2).trans (KB.of_grown (S:=fun i=>i=w.heap.size+1+1\/(Value.slice aV (Db (pre.map E3)).length cV).ownBlock=some i) hg6 fun k e=> .inr e) fun _ _ h=>h).trans (KB.set (S:=fun i=>i=w.heap.size+1+1\/(Value.slice aV (Db (pre.map E3)).length cV).ownBlock=some i) w6 ⟨w.heap.size+1+1,0,none⟩ (.inl rfl) (.slice a6 N7 c6)) fun _ _ h=>h)
    have hnew: ∀g,(Value.slice a6 N7 c6).ownBlock=some g->(Value.slice aV (Db (pre.map E3)).length cV).ownBlock=some g\/A.heap.size<=g:=fun g e=>by
     rcases hat6 with e6|e6
     . exact .inl (e6▸e)
     . rw[e6]at e;have e7:=Option.some.inj e;have:=hb2.size;exact .inr (by omega)
    refine⟨hKB.block _ hds2 fun h=>h.elim hr1.1 hr1.2,hKB.block _ hrc2 fun h=>h.elim hr2.1 hr2.2,⟨.slice a6 N7 c6,hL2.set_ 0 _,hr6.keepN (Nat.le_refl _) (fun i hi=>hi) (by simp[World.setCell]) fun i i1 _=>Below.heap_setCell _ _ _ _ ?_,h3.trans (hKB.below (fun i hi=> ?_) h3.size),h4,fun g e=> ?_,h6,h7,fun i hi=>Nat.lt_of_lt_of_le (h8 i hi) hKB.size⟩,hKB.os,hKB.tape,hKB.output,hKB.size,fun i i1 i2=>hKB.block i i1 fun h=>i2 ?_⟩
    . rcases i1 with i1|i1
      . exact fun e=>h4.1 ((show i=w.heap.size+1+1 from e)▸i1.1)
      . rcases hnew i i1 with h|h
        . exact(h5 i h).2.2
        . show i≠w.heap.size+1+1;omega
    . rcases hi with rfl|hi
      . omega
      . exact(h2.base i hi).1
    . rcases hnew g e with h|h
      . exact h5 g h
      . have hk: ¬K g:=fun hk=>by have:=hKA g hk;omega
        exact⟨hk,fun ht=>hk (hTK g ht),by omega⟩
    . rcases h with rfl|h
      . exact h4.1
      . exact(h5 i h).1
   have Hfin:=qz hfin;clear hfin hg6 hat6 hr6 hL2 h1 h2 h3 h4 h5 h6 h7 h8 hE1 hE2 hKA hTK hd hr1 hr2
   gi_wp2_with (gi_at_builtin;refine F7 rfl (.tmp 13) (.tmp 19) 22 rfl rfl rfl hrun ?_;clear hrun)
   exact Hfin.out _
 case done=>
  rintro T K A hI hnk hds;have hI2:=hI.put hds rfl hnk (by omega) (.deferred none);obtain⟨V,h1,h2,h3,_⟩:=hI;obtain⟨aV,cV,rfl⟩:=h2.slice;have g0:=h1.cell 0;have lL:=h1.lt;have hq:As (fun _=>True) w.heap.size 64 8 (A.putObj w4.heap.size (.deferred none)) (Db ((Cv (Eu t1) (Eu t2)).map E3)) (.slice aV (Db ((Cv (Eu t1) (Eu t2)).map E3)).length cV):=by
   obtain⟨V2,k1,k2,_⟩:=hI2;have e1:Aj (A.putObj w4.heap.size (.deferred none)) (w.heap.size+1+1) 22 #[.slice aV (Db ((Cv (Eu t1) (Eu t2)).map E3)).length cV]:=(World.putObj_heap_other (by
    rintro e;rw[<-e]at hds;rw[show A.heap[w.heap.size+1+1]? =some (Obj.cells _ _ _)from h1]at hds
    cases hds)).trans h1
   have e2:=e1.symm.trans k1;simp only[Option.some.injEq,Obj.cells.injEq,Array.mk.injEq,List.cons.injEq,and_true]at e2;rw[e2];exact k2.mono fun _ _=>trivial
  have HP:Hid (PO (.returned (.slice aV (Db ((Cv (Eu t1) (Eu t2)).map E3)).length cV)) (A.putObj w4.heap.size (.deferred none))):=by
   show PO _ _;rw[<-HPO.out];exact⟨h3.trans ((KB.put (S:=fun i=>w.heap.size<=i) A (k:=w4.heap.size) (by omega) (.deferred none)).below (fun _ h=>h) h3.size),_,rfl,hq⟩
  clear hI2 h1 h2 h3 hq hz3 hz4;generalize (Db ((Cv (Eu t1) (Eu t2)).map E3)).length=N7 at g0 HP
  gi_wp2
  refine⟨by simp,.inl ⟨_,_,rfl,run_takeDeferred hds, ?_⟩⟩;exact⟨_,results_tmp (t:=4) rfl _ _ _,HP.out⟩
theorem Gz (k:ByteArray) (n:Int) (w:World):Calls Tryz.prog 43 #[.string k,.int .i64 n] w fun e w'=>e=.returned (.agg #[.string k,.int .i64 3,.bool false,.int .i64 n,.string ⟨#[]⟩,.slice none 0 0,.slice none 0 0])/\Below w.heap.size w w':=by
 obtain⟨PO,hPO⟩: ∃P:Ending->World->Prop,(fun e w'=>e=.returned (.agg #[.string k,.int .i64 3,.bool false,.int .i64 n,.string ⟨#[]⟩,.slice none 0 0,.slice none 0 0])/\Below w.heap.size w w')=P:=⟨_,rfl⟩;rw[hPO];obtain⟨w1,hw1⟩: ∃w1,w.alloc (.cells #[.string ⟨#[]⟩,.int .i64 0,.bool false,.int .i64 0,.string ⟨#[]⟩,.slice none 0 0,.slice none 0 0] 84)=w1:=⟨_,rfl⟩;have hb1:Below w.heap.size w w1:=hw1▸Ab _ _;have hR1:Aj w1 w.heap.size 84 #[.string ⟨#[]⟩,.int .i64 0,.bool false,.int .i64 0,.string ⟨#[]⟩,.slice none 0 0,.slice none 0 0]:=hw1▸Aj.new _ _ _;have m0:=hR1.cell 0;have m1:=hR1.cell 1;have m2:=hR1.cell 2;have m3:=hR1.cell 3;have m4:=hR1.cell 4;have m5:=hR1.cell 5;have m6:=hR1.cell 6;have fz:=hR1.frozen;have lx:=hR1.lt;have Hxf:=qz (((((((hR1.set_ 0 (.string k)).set_ 1 (.int .i64 3)).set_ 2 (.bool false)).set_ 3 (.int .i64 n)).set_ 4 (.string ⟨#[]⟩)).set_ 5 (.slice none 0 0)).set_ 6 (.slice none 0 0));have hBf:Below w.heap.size w (((((((w1.setCell ⟨w.heap.size,0,none⟩ (.string k)).setCell ⟨w.heap.size,1,none⟩ (.int .i64 3)).setCell ⟨w.heap.size,2,none⟩ (.bool false)).setCell ⟨w.heap.size,3,none⟩ (.int .i64 n)).setCell ⟨w.heap.size,4,none⟩ (.string ⟨#[]⟩)).setCell ⟨w.heap.size,5,none⟩ (.slice none 0 0)).setCell ⟨w.heap.size,6,none⟩ (.slice none 0 0)):=Am [.string k,.int .i64 3,.bool false,.int .i64 n,.string ⟨#[]⟩,.slice none 0 0,.slice none 0 0] hb1 (Nat.le_refl _) (o:=0);have HP:Hid (PO (.returned (.agg #[.string k,.int .i64 3,.bool false,.int .i64 n,.string ⟨#[]⟩,.slice none 0 0,.slice none 0 0])) (((((((w1.setCell ⟨w.heap.size,0,none⟩ (.string k)).setCell ⟨w.heap.size,1,none⟩ (.int .i64 3)).setCell ⟨w.heap.size,2,none⟩ (.bool false)).setCell ⟨w.heap.size,3,none⟩ (.int .i64 n)).setCell ⟨w.heap.size,4,none⟩ (.string ⟨#[]⟩)).setCell ⟨w.heap.size,5,none⟩ (.slice none 0 0)).setCell ⟨w.heap.size,6,none⟩ (.slice none 0 0))):=by
  show PO _ _;rw[<-hPO];exact⟨rfl,hBf⟩
 clear hBf hb1 hR1 hPO;go_enter Tryz.func43,Tryz.ntmps43;go_wp2;exact bodyPost_ret (Nw rfl rfl Hxf.out) rfl HP.out
def U4:List Bz:= [(⟨#[120]⟩,iv 1),(⟨#[121]⟩,iv 2)]
def U5:List Bz:= [(⟨#[121]⟩,iv 3),(⟨#[122]⟩,iv 4)]
def Qj:List POp:= [⟨2,⟨#[120]⟩,J3⟩,⟨1,⟨#[121]⟩,iv 3⟩,⟨1,⟨#[122]⟩,iv 4⟩]
abbrev Af9:ByteArray:=⟨([91,123,34,107,101,121,34,58,34,120,34,44,34,111,112,34,58,34,100,101,108,34,125,44,123,34,107,101,121,34,58,34,121,34,44,34,111,112,34,58,34,112,117,116,34].append [44,34,118,97,108,117,101,34,58,51,125,44,123,34,107,101,121,34,58,34,122,34,44,34,111,112,34,58,34,112,117,116,34,44,34,118,97,108,117,101,34,58,52,125,93]).toArray⟩
theorem Yx:A4 none Qj=0:=by decide+kernel
theorem Ad0:Bx (Dt Qj)=Af9.data.toList:=by kernel_rfl
theorem Afe:A5 (Dt Qj) 1=0:=by decide+kernel
theorem Af5:Md Qj=Af9:=by
 have h1:Md Qj=Kx (Dt Qj):=if_pos Yx;rw[h1];unfold Kx;rw[if_pos Afe,Ad0]
theorem Acf:Eu (Ct U4)=U4:=by rw[(Hu U4).2.1];kernel_rfl
theorem Acg:Eu (Ct U5)=U5:=by rw[(Hu U5).2.1];kernel_rfl
theorem Adz:(Cv U4 U5).map E3=Qj:=by
 have l1:Cg ⟨#[120]⟩ ⟨#[121]⟩=true:=by decide+kernel
 have l2:Cg ⟨#[121]⟩ ⟨#[121]⟩=false:=by decide+kernel
 have s1:Dv (iv 2) (iv 3)=false:=by decide+kernel
 unfold U4 U5;rw[Cv,if_pos l1,Cv,if_neg (by rw[l2];simp),if_neg (by rw[l2];simp),if_neg (by rw[s1];simp),Cv,Cv];rfl
theorem Yy (w:World) (k1 k2:ByteArray) (n1 n2:Int):Ae (w.alloc (.cells #[.string k1,.int .i64 3,.bool false,.int .i64 n1,.string ⟨#[]⟩,.slice none 0 0,.slice none 0 0,.string k2,.int .i64 3,.bool false,.int .i64 n2,.string ⟨#[]⟩,.slice none 0 0,.slice none 0 0] 84)) (w.alloc (.cells #[.string k1,.int .i64 3,.bool false,.int .i64 n1,.string ⟨#[]⟩,.slice none 0 0,.slice none 0 0,.string k2,.int .i64 3,.bool false,.int .i64 n2,.string ⟨#[]⟩,.slice none 0 0,.slice none 0 0] 84)).heap.size (.row 7 (dO [(k1,iv n1),(k2,iv n2)])) [.slice (some ⟨w.heap.size,0,none⟩) 2 2]:=
 Zv (Aj.new _ _ _) (Jl _) ((Af.one (Rq _ _ k1 n1)).app (Af.one (Rq _ _ k2 n2))) rfl
theorem Fi (w:World) (hT:Ck w) (hN:Fm w):Calls Tryz.prog 14 #[] w fun e w'=>e=.returned (.bool true)/\Below w.heap.size w w':=by
 obtain⟨PO,hPO⟩: ∃P:Ending->World->Prop,(fun e w'=>e=.returned (.bool true)/\Below w.heap.size w w')=P:=⟨_,rfl⟩;rw[hPO];have Hn1:=qz (fun W=>Gz ⟨#[120]⟩ 1 W);have Hn2:=qz (fun W=>Gz ⟨#[121]⟩ 2 W);have Hn3:=qz (fun W=>Gz ⟨#[121]⟩ 3 W);have Hn4:=qz (fun W=>Gz ⟨#[122]⟩ 4 W);obtain⟨HT,HN,HPO⟩:=hid3 hT hN hPO;clear hT hN hPO;go_enter Tryz.func14,Tryz.ntmps14;go_wp2_with (fail);(with_reducible refine(Hn1.out w).mono ?_);rintro e w1 ⟨rfl,hb1⟩;go_wp2_with (fail);(with_reducible refine(Hn2.out w1).mono ?_);rintro e w2 ⟨rfl,hb2⟩;have hW2:=hb1.trans (hb2.mono hb1.size);have HbA:=qz (Mj U4 _ 2 2 _ (Yy w2 ⟨#[120]⟩ ⟨#[121]⟩ 1 2) (by decide));have HWA:=qz (hW2.alloc hW2.size (.cells #[.string ⟨#[120]⟩,.int .i64 3,.bool false,.int .i64 1,.string ⟨#[]⟩,.slice none 0 0,.slice none 0 0,.string ⟨#[121]⟩,.int .i64 3,.bool false,.int .i64 2,.string ⟨#[]⟩,.slice none 0 0,.slice none 0 0] 84));clear hb1 hb2 hW2;go_wp2_with (fail);(with_reducible refine(HbA.out).mono ?_);rintro e w3 ⟨hb3,p1,rfl,hT3⟩;have HW3:=qz (HWA.out.trans (hb3.mono HWA.out.size));have HT3':=qz (hT3.mono (T:=fun i=>i<w3.heap.size) fun i hi _=>hi);clear hb3 hT3;go_wp2_with (fail);(with_reducible refine(Hn3.out w3).mono ?_);rintro e w4 ⟨rfl,hb4⟩;go_wp2_with (fail);(with_reducible refine(Hn4.out w4).mono ?_);rintro e w5 ⟨rfl,hb5⟩;have hW5:=(hb4.trans (hb5.mono hb4.size));have HbB:=qz (Mj U5 _ 2 2 _ (Yy w5 ⟨#[121]⟩ ⟨#[122]⟩ 3 4) (by decide));have HWB:=qz (hW5.alloc hW5.size (.cells #[.string ⟨#[121]⟩,.int .i64 3,.bool false,.int .i64 3,.string ⟨#[]⟩,.slice none 0 0,.slice none 0 0,.string ⟨#[122]⟩,.int .i64 3,.bool false,.int .i64 4,.string ⟨#[]⟩,.slice none 0 0,.slice none 0 0] 84));clear hb4 hb5 hW5;go_wp2_with (fail);(with_reducible refine(HbB.out).mono ?_);rintro e w6 ⟨hb6,p2,rfl,hT6⟩;have hW36:=HWB.out.trans (hb6.mono HWB.out.size);have HW6:=qz (HW3.out.trans (hW36.mono HW3.out.size));have hT6':=hT6.mono (T:=fun i=>i<w6.heap.size) fun i hi _=>hi;have hT36:=(HT3'.out.below hW36).mono (T:=fun i=>i<w6.heap.size) fun i hi _=>hi;have hFr:=Xe (Ct U4) (Ct U5) p1 p2 w6 hT36 hT6' (Hu U4).1 (Hu U5).1 (by rw[Acf];decide) (by rw[Acg];decide) (by rw[Acf];decide) (by rw[Acg];decide);rw[Acf,Acg,Adz]at hFr;have HFr:=qz hFr;clear hFr;clear hb6 hT6 hW36 hT6' hT36;go_wp2_with (fail);(with_reducible refine(HFr.out).mono ?_);rintro e w7 ⟨hb7,V,rfl,hR⟩;obtain⟨a7,c7,rfl⟩:=hR.slice;have hW7:=HW6.out.trans (hb7.mono HW6.out.size);have hTx:=G6 Qj a7 (Db Qj).length c7 w7 (HT.out.below hW7) (HN.out.below hW7) hR.close (by decide) (by intro p hp;simp[Qj]at hp;rcases hp with rfl|rfl|rfl<;>simp[Jc,Tw,U0,iv]);rw[Af5,Yx]at hTx;obtain⟨HTx,HW7⟩:=hid2 hTx hW7;clear hTx hW7;clear hb7 hR;go_wp2_with (fail);(with_reducible refine(HTx.out).mono ?_);rintro e w8 ⟨rfl,hb8⟩;have HP:Hid (PO (.returned (.bool true)) w8):=by
  show PO _ _;rw[<-HPO.out];exact⟨rfl,HW7.out.trans (hb8.mono HW7.out.size)⟩
 clear hb8;go_wp2;exact HP.out
end Go.Proofs.YtdbejcbbhomdbaaGreatDoor
