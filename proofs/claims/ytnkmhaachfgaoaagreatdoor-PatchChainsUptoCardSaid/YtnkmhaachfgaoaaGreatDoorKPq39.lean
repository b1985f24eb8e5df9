/- Parts: patch.From: the ops of two trees' changes. Condition: at most 10^6 entries, a bulk of at most 10^8. -/
import Derived.Test.YtnkmhaachfgaoaaGreatDoorKPq27
import Derived.Test.YtnkmhaachfgaoaaGreatDoorKPq32
import Derived.Test.YtnkmhaachfgaoaaGreatDoorKPq37
set_option maxHeartbeats 20000000
set_option maxRecDepth 100000
namespace Go.Proofs.YtnkmhaachfgaoaaGreatDoor
open Go Go.RowKit
attribute [local go_sem] Oper.semAt_some
def J7 (ps:List POp) (w:World) (e:Ending) (w':World):Prop:=Below w.heap.size w w'/\ ∃V,e=.returned V/\Al (fun _=>True) w.heap.size 42 8 w' (Ex ps) V
theorem Acc {D:Nat->Prop} {A:World} {o:Option Val} {cs:List Value} (h:Fl D A o cs): ∃k' b' n' t' la ln lc oa on oc,cs= [.int .i64 k',.bool b',.int .i64 n',.string t',.slice la ln lc,.slice oa on oc]:=by
 cases o with
 |none=>
  cases h
  exact⟨_,_,_,_,_,_,_,_,_,_,rfl⟩
 |some v=>
  obtain⟨k,b,n,t,l,o⟩:=v;obtain⟨la,lc,oa,oc,rfl⟩:=Aiw h;exact⟨_,_,_,_,_,_,_,_,_,_,rfl⟩
theorem Uq {S:Nat->Prop} {w:World} {k:Int} {key:ByteArray} {v:Val} {cs:List Value} (h:Ag S w (dV v) cs):Ag S w (dQ ⟨k,key,v⟩) (.int .i64 k:: .string key::cs):=fun w'' h1 h2=>
 ⟨[.int .i64 k],.string key::cs,rfl,⟨rfl,rfl⟩, [.string key],cs,rfl,⟨rfl,rfl⟩,cs, [],(List.append_nil _).symm,h w'' h1 h2,rfl⟩
theorem Sa (w:World) (B:Nat):Ae w B (dV Fy) [.int .i64 0,.bool false,.int .i64 0,.string ⟨#[]⟩,.slice none 0 0,.slice none 0 0]:=D6 _ _ (M0 w B)
theorem Agu (a b:List Ax):(Bq a b).length<=a.length+b.length:=by
 fun_induction Bq a b<;>simp_all<;>omega
theorem G7 {F:Fence} {n:Nat} {P:Program} {w w':World} {ops:Array Oper} {rest:List Oper} {o:Oper} {a:Act} {Q:Exit->Act->World->Prop} (hg:o.guard=none) (s x:Operand) (t:TypeId) (hop:o.op=Op.call {callee:=Callee.builtin Builtin.append,args:= #[s,x],argTypes:= #[t,t]})
 {V A V':Value} (hs:a.eval s=V) (hx:a.eval x=A) (hrun:(Builtin.append_ #[t,t] o.type #[V,A]).run P w=.ok V' w') (hK:wpListIn F n P ops Q rest (a.put o.dst V') w'):wpListIn F n P ops Q (o::rest) a w:=by
 refine wpListIn_plain hg fun K hK'=> ?_;unfold Oper.wpIn;refine⟨?_, ?_⟩
 . simp[Oper.about,hop,resolve,Target.leads,Sem.run_pure]
 . rw[Oper.semAt_plain F _ _ (by rw[hop];intro c hc';cases hc')];simp[execOp,hop,resolve,invoke,builtin,hs,hx,hrun,Result.andThen];exact hK' _ _ hK
def FrI (w:World) (L:Nat) (s:List Wc) (T K:Nat->Prop) (A:World):Prop:=
 ∃V,Ah A L 23 #[V]/\Al (fun i=>K i/\ ¬T i) w.heap.size 42 8 A (Ex (s.map Cj)) V/\Below w.heap.size w A/\(¬K L/\ ¬T L)/\(∀g,V.ownBlock=some g-> ¬K g/\ ¬T g/\g≠L)/\(∀i,T i->w.heap.size<=i)/\(∀i,i<w.heap.size->K i)/\ ∀i,K i->i<A.heap.size
theorem FrI.step {w:World} {L:Nat} {s:List Wc} {T K T' K':Nat->Prop} {A B:World} (h:FrI w L s T K A) (hb:KB T A B) (hT: ∀i,i<A.heap.size->(T' i ↔ T i)/\(K' i ↔ K i)) (hK: ∀i,K' i->i<B.heap.size):FrI w L s T' K' B:=by
 obtain⟨V,h1,h2,h3,h4,h5,h6,h7,h8⟩:=h;have lL:=h1.lt;refine⟨V,(hb.block L lL h4.2).trans h1,h2.keepN (Nat.le_refl _) (fun i hi=>⟨(hT i (h8 i hi.1)).2.2 hi.1,fun h=>hi.2 ((hT i (h8 i hi.1)).1.1 h)⟩) hb.size fun i i1 i2=>hb.block i i2 ?_,h3.trans (hb.below h6 h3.size),⟨fun h=>h4.1 ((hT L lL).2.1 h),fun h=>h4.2 ((hT L lL).1.1 h)⟩,fun g e=> ?_,fun i hi=> ?_,fun i hi=>(hT i (Nat.lt_of_lt_of_le hi h3.size)).2.2 (h7 i hi),hK⟩
 . rcases i1 with i1|i1
   . exact i1.2
   . exact(h5 i i1).2.1
 . have hg:=h5 g e;have hl:=(h2.base g e).2;exact⟨fun h=>hg.1 ((hT g hl).2.1 h),fun h=>hg.2.1 ((hT g hl).1.1 h),hg.2.2⟩
 . rcases Nat.lt_or_ge i A.heap.size with h|h
   . exact h6 i ((hT i h).1.1 hi)
   . have:=h3.size;omega
theorem FrI.put {w:World} {L:Nat} {s:List Wc} {T K:Nat->Prop} {A:World} {k:Nat} {o:Obj} (h:FrI w L s T K A) (ho:A.heap[k]? =some o) (hc:o.isCells=false) (hk: ¬K k) (hw:w.heap.size<=k) (o':Obj):FrI w L s T K (A.putObj k o'):=by
 obtain⟨V,h1,h2,h3,h4,h5,h6,h7,h8⟩:=h;have hcell: ∀i cur t,A.heap[i]? =some (.cells cur t (0,0))->i≠k:=by
  rintro i cur t hi rfl;rw[hi]at ho
  cases ho
  cases hc
 refine⟨V,(World.putObj_heap_other (hcell L _ _ h1)).trans h1,h2.keepN (Nat.le_refl _) (fun i hi=>hi) (by simp[World.putObj]) fun i i1 _=>World.putObj_heap_other ?_,h3.trans ((KB.put (S:=fun i=>w.heap.size<=i) A hw o').below (fun _ h=>h) h3.size),h4,h5,h6,h7,fun i hi=>by have:=h8 i hi;simpa[World.putObj]using this⟩;rcases i1 with i1|i1
 . exact fun e=>hk (e▸i1.1)
 . obtain⟨cur,hcur⟩:=h2.ownBlk i1;exact hcell i _ _ hcur
def FrB (b z:Nat) (p1 p2:Option Addr) (x:Wc) (q:List Value×List Value) (a':Act) (W:World):Prop:=
 ∃g k1' b1' n1' t1' la1 ln1 lc1 oa1 on1 oc1 k2' b2' n2' t2' la2 ln2 lc2 oa2 on2 oc2,q=([.int .i64 k1',.bool b1',.int .i64 n1',.string t1',.slice la1 ln1 lc1,.slice oa1 on1 oc1], [.int .i64 k2',.bool b2',.int .i64 n2',.string t2',.slice la2 ln2 lc2,.slice oa2 on2 oc2])/\Ah W g Tch #[.string x.1,.bool x.2.1.isSome,.int .i64 k1',.bool b1',.int .i64 n1',.string t1',.slice la1 ln1 lc1,.slice oa1 on1 oc1,.bool x.2.2.isSome,.int .i64 k2',.bool b2',.int .i64 n2',.string t2',.slice la2 ln2 lc2,.slice oa2 on2 oc2]/\
  a'={tmps:= #[.agg #[.pointer p1],.agg #[.pointer p2],.pointer (some ⟨b,0,none⟩),.pointer (some ⟨b+1,0,none⟩),.slice none 0 0,.pointer (some ⟨b+1+1,0,none⟩),.pointer (some ⟨g,0,none⟩),.agg #[.pointer p1],.agg #[.pointer p2],.func (.func 68) #[] #[.pointer (some ⟨z,0,none⟩),.pointer (some ⟨z+1,0,none⟩)],.agg #[.string x.1,.bool x.2.1.isSome,.int .i64 k1',.bool b1',.int .i64 n1',.string t1',.slice la1 ln1 lc1,.slice oa1 on1 oc1,.bool x.2.2.isSome,.int .i64 k2',.bool b2',.int .i64 n2',.string t2',.slice la2 ln2 lc2,.slice oa2 on2 oc2],undef,undef,undef,undef,undef,undef,undef,undef,undef,undef,undef,undef,undef,undef,undef,undef,undef],defers:= []}
theorem FrB.put {b z:Nat} {p1 p2:Option Addr} {x:Wc} {q:List Value×List Value} {a':Act} {W:World} {k:Nat} {o:Obj} (h:FrB b z p1 p2 x q a' W) (ho:W.heap[k]? =some o) (hc:o.isCells=false) (o':Obj):FrB b z p1 p2 x q a' (W.putObj k o'):=by
 obtain⟨g,k1',b1',n1',t1',la1,ln1,lc1,oa1,on1,oc1,k2',b2',n2',t2',la2,ln2,lc2,oa2,on2,oc2,h1,h2,h3⟩:=h;refine⟨g,k1',b1',n1',t1',la1,ln1,lc1,oa1,on1,oc1,k2',b2',n2',t2',la2,ln2,lc2,oa2,on2,oc2,h1,(World.putObj_heap_other ?_).trans h2,h3⟩;rintro rfl;rw[show W.heap[g]? =some (Obj.cells _ _ _)from h2]at ho
 cases ho
 cases hc
theorem ChE.below (x:Wc) (q:List Value×List Value) (D:Nat->Prop) (A B:World) (h:ChE x q D A) (hb:Below A.heap.size A B):ChE x q D B:=⟨h.1.keep (fun _ _ h=>h) hb.size fun i _ hi=>hb.block i hi,h.2.keep (fun _ _ h=>h) hb.size fun i _ hi=>hb.block i hi⟩
theorem Gk (t1 t2:Option (Nat×Nd)) (p1 p2:Option Addr) (w:World) (hT1:C5 (fun i=>i<w.heap.size) w t1 p1) (hT2:C5 (fun i=>i<w.heap.size) w t2 p2) (ok1:M5 t1) (ok2:M5 t2) (l1:(Ba t1).length<=1000000) (l2:(Ba t2).length<=1000000) (b1:Ac (Ba t1)<=100000000) (b2:Ac (Ba t2)<=100000000):
 Calls Tryz.prog 14 #[.agg #[.pointer p1],.agg #[.pointer p2]] w (J7 ((Bq (Ba t1) (Ba t2)).map Cj) w):=by
 obtain⟨PO,hPO⟩: ∃P:Ending->World->Prop,J7 ((Bq (Ba t1) (Ba t2)).map Cj) w=P:=⟨_,rfl⟩;rw[hPO];have hxl:(Bq (Ba t1) (Ba t2)).length<=2000000:=by have:=Agu (Ba t1) (Ba t2);omega
 obtain⟨w3,hw3⟩: ∃w3,((w.alloc (.cells #[.pointer p1] 27)).alloc (.cells #[.pointer p2] 27)).alloc (.cells #[.slice none 0 0] 23)=w3:=⟨_,rfl⟩;have Hb3:Hid (Below w.heap.size w w3):=hw3▸(Cc _ _ _).alloc (by simp;omega) _;have hL3:Ah w3 (w.heap.size+1+1) 23 #[.slice none 0 0]:=by
  have:=Ah.new1 (w.alloc (.cells #[.pointer p1] 27)) (.cells #[.pointer p2] 27) 23 #[.slice none 0 0]
  rwa [World.size_alloc,hw3]at this
 have hm3:Ah w3 w.heap.size 27 #[.pointer p1]:=hw3▸((Ah.new _ _ _).alloc _).alloc _;have hn3:Ah w3 (w.heap.size+1) 27 #[.pointer p2]:=hw3▸(Ah.new1 _ _ _ _).alloc _;have Hz3:=qz (show w3.heap.size=w.heap.size+1+1+1 from by rw[<-hw3];simp);have HDf:=qz (Z5 p1 p2 w3);have c0:=hm3.cell 0;have c1:=hn3.cell 0;obtain⟨HPO,HL3,HT1,HT2,Hxl⟩:=hid5 hPO hL3 hT1 hT2 hxl;clear hPO hL3 hT1 hT2 hxl;clear hm3 hn3;refine(callsIn_wide (n:=12)).1 ?_;refine callsIn_of_wp_marks Tryz.func14 rfl trivial ?_ rfl;simp only[Tryz.ntmps14,List.size_toArray,List.length_cons,List.length_nil,Nat.reduceAdd,Nat.reduceSub,Array.replicate_succ,Array.replicate_zero,List.push_toArray,List.append_toArray,List.nil_append,List.cons_append]
 gi_wp2_with (fail)
 refine⟨trivial, ?_⟩
 gi_at_call 38
 refine(callsIn_wide.2 HDf.out).mono ?_;rintro e w4 ⟨rfl,hw4⟩;have hb4:Below w3.heap.size w3 w4:=hw4▸(Cc _ _ _);have ha4:Ah w4 w3.heap.size 27 #[.pointer p1]:=hw4▸(Ah.new _ _ _).alloc _;have hbb4:Ah w4 (w3.heap.size+1) 27 #[.pointer p2]:=hw4▸Ah.new1 _ _ _ _;have Hz4:Hid (w4.heap.size=w3.heap.size+1+1):=by
  show _=_;rw[<-hw4];simp
 have hW4:Below w.heap.size w w4:=Hb3.out.trans (hb4.mono (by have:=Hz3.out;omega));have HL4:=qz (HL3.out.below hb4 HL3.out.lt);clear c0 c1 hw3 hw4 HDf HL3
 gi_wp2_with (fail)
 have hz3:=Hz3.out;have hz4:=Hz4.out;obtain⟨j0,hj,hy0,hy1,hy2⟩:=info_parts Vb;obtain⟨Hj,Hy0,Hy1,Hy2⟩:=hid4 hj hy0 hy1 hy2;clear hj hy0 hy1 hy2;refine Abe (n:=10) (gf:=68) (lb:= #[.pointer (some ⟨w3.heap.size,0,none⟩),.pointer (some ⟨w3.heap.size+1,0,none⟩)]) rfl (enters_of Tryz.func68 (by kernel_rfl) rfl) (Xb (fun i=>i<w.heap.size\/i=w3.heap.size\/i=w3.heap.size+1) t1 t2 p1 p2 w3.heap.size (w3.heap.size+1) ok1 ok2 l1 l2 b1 b2) (fun _ _=>rfl)
  ChE.put ?hK0 (FrI w (w.heap.size+1+1)) ?hIn ?hIp ChE.below ?hN ?h0 (FrB w.heap.size w3.heap.size p1 p2) ?hRp ?assign ?body ?done
 case hRp=>exact fun x q a' A k o o' h h1 h2=>h.put h1 h2 o'
 case assign=>
  clear hz3 hz4;rintro l ⟨k,o1,o2⟩ ⟨cs1,cs2⟩ D W K ⟨hE1,hE2⟩ hK;dsimp only at hE1 hE2;obtain⟨k1',b1',n1',t1',la1,ln1,lc1,oa1,on1,oc1,rfl⟩:=Acc hE1;obtain⟨k2',b2',n2',t2',la2,ln2,lc2,oa2,on2,oc2,rfl⟩:=Acc hE2;clear hE1 hE2;dsimp only[Mb];simp only[List.cons_append,List.nil_append]
  gi_wp2_with (fail)
  exact hK _ _ (Aa _ _) ⟨_,k1',b1',n1',t1',la1,ln1,lc1,oa1,on1,oc1,k2',b2',n2',t2',la2,ln2,lc2,oa2,on2,oc2,rfl,Ah.new _ _ _,rfl⟩
 case hK0=>rintro i (h|rfl|rfl)<;>omega
 case hIn=>exact fun s T K A T' K' B h h1 h2 h3=>h.step h1 h2 h3
 case hIp=>exact fun s T K A k o o' h h1 h2 h3 h4=>h.put h1 h2 h3 (by omega) o'
 case hN=>
  intro W hW;have hB:Below w.heap.size w W:=hW4.trans (hW.mono (by omega));exact⟨ha4.below hW ha4.lt,hbb4.below hW hbb4.lt,(HT1.out.below hB).mono fun i _ hi=> .inl hi,(HT2.out.below hB).mono fun i _ hi=> .inl hi,.inr (.inl rfl),.inr (.inr rfl),by
   have:=hW.size;rintro i (h|rfl|rfl)<;>omega⟩
 case h0=>exact⟨_,HL4.out,Al.nil _ _ _ _ _,hW4,⟨by rintro(h|h|h)<;>omega,fun h=>h⟩,fun g e=>(by cases e),fun i h=>h.elim,fun i h=> .inl h,by rintro i (h|rfl|rfl)<;>omega⟩
 case body=>
  rintro l pre ⟨k,o1,o2⟩ rest ⟨cs1,cs2⟩ T K a' A ⟨G,k1',b1',n1',t1',la1,ln1,lc1,oa1,on1,oc1,k2',b2',n2',t2',la2,ln2,lc2,oa2,on2,oc2,hq,hB1,rfl⟩ hx ⟨V,h1,h2,h3,h4,h5,h6,h7,h8⟩ ⟨hE1,hE2⟩ hTK hKA hd1 hd2 ⟨ds,hds⟩ ⟨rc,hrc⟩
  cases hq
  dsimp only at hE1 hE2 hB1;obtain⟨aV,cV,rfl⟩:=h2.slice;have hlen:(Ex (pre.map Cj)).length<=2000000:=by
   have:=Hxl.out;rw[hx,List.length_append]at this;rw[Ee,List.length_map];omega
  have hds2:=(Array.getElem?_eq_some_iff.1 hds).1;have hrc2:=(Array.getElem?_eq_some_iff.1 hrc).1;have hne: ∀(i:Nat) (o:Obj),A.heap[i]? =some o->o.isCells=false->i≠w.heap.size+1+1/\(Value.slice aV (Ex (pre.map Cj)).length cV).ownBlock≠some i:=by
   refine fun i o hi ho=>⟨?_,fun e=> ?_⟩
   . rintro rfl;rw[show A.heap[w.heap.size+1+1]? =some (Obj.cells _ _ _)from h1]at hi
     cases hi
     cases ho
   . obtain⟨cur,hcur⟩:=h2.ownBlk e;rw[show A.heap[i]? =some (Obj.cells cur _ _)from hcur]at hi
     cases hi
     cases ho
  have hr1:=hne _ _ hds rfl;have hr2:=hne _ _ hrc rfl;have lL:=h1.lt;have g0:=h1.cell 0;have f0:=hB1.cell 0;have f8:=hB1.cell 8;have f9:=hB1.cell 9;have f10:=hB1.cell 10;have f11:=hB1.cell 11;have f12:=hB1.cell 12;have f13:=hB1.cell 13;have f14:=hB1.cell 14;have fz:=h1.frozen;have lB1:=hB1.lt;clear hne;dsimp only;clear hz3 hz4
  cases o2 with
  |none=>
   have hd:Ag (fun i=>(K i/\ ¬T i)/\(Value.slice aV (Ex (pre.map Cj)).length cV).ownBlock≠some i) (A.alloc (.cells #[.int .i64 2,.string k,.int .i64 0,.bool false,.int .i64 0,.string ⟨#[]⟩,.slice none 0 0,.slice none 0 0] 42)) (dQ ⟨2,k,Fy⟩) [.int .i64 2,.string k,.int .i64 0,.bool false,.int .i64 0,.string ⟨#[]⟩,.slice none 0 0,.slice none 0 0]:=
    (Uq (fun _ _ _=>Sa _ _)).mono fun i _ hi=>⟨hi,fun e=>(h5 i e).1 hi.1⟩
   obtain⟨V',w6,hrun,hr6,hg6,hat6⟩:=Kt (P:=Tryz.prog) (ty:=23) (c:=1) Tryz.underlying23 Hj.out Hy0.out Hy1.out Hy2.out rfl (by omega) (h2.below (Aa A (.cells #[.int .i64 2,.string k,.int .i64 0,.bool false,.int .i64 0,.string ⟨#[]⟩,.slice none 0 0,.slice none 0 0] 42))) (by simp;omega) (Jq ⟨2,k,Fy⟩) hd (Db (Ah.new A 42 #[.int .i64 2,.string k,.int .i64 0,.bool false,.int .i64 0,.string ⟨#[]⟩,.slice none 0 0,.slice none 0 0])) (by simp only[maxLen];omega) (by omega);have hL2:=(h1.alloc (.cells #[.int .i64 2,.string k,.int .i64 0,.bool false,.int .i64 0,.string ⟨#[]⟩,.slice none 0 0,.slice none 0 0] 42)).grown hg6 fun e=>(h5 _ e.symm).2.2 rfl;have g6:=hL2.cell 0;have fz6:=hL2.frozen;have lL6:=hL2.lt;have e6:Ex (pre.map Cj)++ [dQ ⟨2,k,Fy⟩]=Ex ((pre++ [(k,o1,none)]).map Cj):=by simp[Ex,Cj]
   rw[e6]at hr6;obtain⟨N7,hN7⟩: ∃N7,(Ex ((pre++ [(k,o1,none)]).map Cj)).length=N7:=⟨_,rfl⟩;obtain⟨a6,c6,rfl⟩:=hr6.slice_n hN7;clear hN7;have hfin: ∀aa,Ow (fun B=>FrI w (w.heap.size+1+1) (pre++ [(k,o1,none)]) T K B/\KB (fun i=> ¬K i) A B) w4.heap.size A .normal aa (w6.setCell ⟨w.heap.size+1+1,0,none⟩ (.slice a6 N7 c6)):=by
    intro aa;have hb2:=Aa A (.cells #[.int .i64 2,.string k,.int .i64 0,.bool false,.int .i64 0,.string ⟨#[]⟩,.slice none 0 0,.slice none 0 0] 42);have hKB:KB (fun i=>i=w.heap.size+1+1\/(Value.slice aV (Ex (pre.map Cj)).length cV).ownBlock=some i) A (w6.setCell ⟨w.heap.size+1+1,0,none⟩ (.slice a6 N7 c6)):=
     (((KB.of_below hb2).trans (KB.of_grown (S:=fun i=>i=w.heap.size+1+1\/(Value.slice aV (Ex (pre.map Cj)).length cV).ownBlock=some i) hg6 fun k e=> .inr e) fun _ _ h=>h).trans (KB.set (S:=fun i=>i=w.heap.size+1+1\/(Value.slice aV (Ex (pre.map Cj)).length cV).ownBlock=some i) w6 ⟨w.heap.size+1+1,0,none⟩ (.inl rfl) (.slice a6 N7 c6)) fun _ _ h=>h)
    have hnew: ∀g,(Value.slice a6 N7 c6).ownBlock=some g->(Value.slice aV (Ex (pre.map Cj)).length cV).ownBlock=some g\/A.heap.size<=g:=fun g e=>by
     rcases hat6 with e6|e6
     . exact .inl (e6▸e)
     . rw[e6]at e;have e7:=Option.some.inj e;have:=hb2.size;exact .inr (by omega)
    refine⟨hKB.block _ hds2 fun h=>h.elim hr1.1 hr1.2,hKB.block _ hrc2 fun h=>h.elim hr2.1 hr2.2,⟨.slice a6 N7 c6,hL2.set_ 0 _,hr6.keepN (Nat.le_refl _) (fun i hi=>hi) (by simp[World.setCell]) fun i i1 _=>Below.heap_setCell _ _ _ _ ?_,h3.trans (hKB.below (fun i hi=> ?_) h3.size),h4,fun g e=> ?_,h6,h7,fun i hi=>Nat.lt_of_lt_of_le (h8 i hi) hKB.size⟩,hKB.os,hKB.tape,hKB.output,hKB.size,fun i i1 i2=>hKB.block i i1 fun h=>i2 ?_⟩
    . rcases i1 with i1|i1
      . exact fun e=>h4.1 ((show i=w.heap.size+1+1 from e)▸i1.1)
      . rcases hnew i i1 with h|h
        . exact(h5 i h).2.2
        . show i≠w.heap.size+1+1;omega
    . rcases hi with rfl|hi
      . omega
      . exact(h2.base i hi).1
    . rcases hnew g e with h|h
      . exact h5 g h
      . have hk: ¬K g:=fun hk=>by have:=hKA g hk;omega
        exact⟨hk,fun ht=>hk (hTK g ht),by omega⟩
    . rcases h with rfl|h
      . exact h4.1
      . exact(h5 i h).1
   have Hfin:=qz hfin;clear hfin hg6 hat6 hr6 hL2 h1 h2 h3 h4 h5 h6 h7 h8 hE1 hE2 hKA hTK hd hr1 hr2
   gi_wp2_with (gi_at_builtin;refine G7 rfl (.tmp 21) (.tmp 25) 23 rfl rfl rfl hrun ?_;clear hrun)
   exact Hfin.out _
  |some v=>
   have hd:Ag (fun i=>(K i/\ ¬T i)/\(Value.slice aV (Ex (pre.map Cj)).length cV).ownBlock≠some i) (A.alloc (.cells #[.int .i64 1,.string k,.int .i64 k2',.bool b2',.int .i64 n2',.string t2',.slice la2 ln2 lc2,.slice oa2 on2 oc2] 42)) (dQ ⟨1,k,v⟩) [.int .i64 1,.string k,.int .i64 k2',.bool b2',.int .i64 n2',.string t2',.slice la2 ln2 lc2,.slice oa2 on2 oc2]:=
    (Uq ((Ag.below (S:=fun i=>K i/\ ¬T i) (d:=dV v) hE2 (Aa A _)))).mono fun i _ hi=>⟨hi,fun e=>(h5 i e).1 hi.1⟩
   obtain⟨V',w6,hrun,hr6,hg6,hat6⟩:=Kt (P:=Tryz.prog) (ty:=23) (c:=1) Tryz.underlying23 Hj.out Hy0.out Hy1.out Hy2.out rfl (by omega) (h2.below (Aa A (.cells #[.int .i64 1,.string k,.int .i64 k2',.bool b2',.int .i64 n2',.string t2',.slice la2 ln2 lc2,.slice oa2 on2 oc2] 42))) (by simp;omega) (Jq ⟨1,k,v⟩) hd (Db (Ah.new A 42 #[.int .i64 1,.string k,.int .i64 k2',.bool b2',.int .i64 n2',.string t2',.slice la2 ln2 lc2,.slice oa2 on2 oc2])) (by simp only[maxLen];omega) (by omega);have hL2:=(h1.alloc (.cells #[.int .i64 1,.string k,.int .i64 k2',.bool b2',.int .i64 n2',.string t2',.slice la2 ln2 lc2,.slice oa2 on2 oc2] 42)).grown hg6 fun e=>(h5 _ e.symm).2.2 rfl;have g6:=hL2.cell 0;have fz6:=hL2.frozen;have lL6:=hL2.lt;have e6:Ex (pre.map Cj)++ [dQ ⟨1,k,v⟩]=Ex ((pre++ [(k,o1,some v)]).map Cj):=by simp[Ex,Cj]
   rw[e6]at hr6;obtain⟨N7,hN7⟩: ∃N7,(Ex ((pre++ [(k,o1,some v)]).map Cj)).length=N7:=⟨_,rfl⟩;obtain⟨a6,c6,rfl⟩:=hr6.slice_n hN7;clear hN7;have hfin: ∀aa,Ow (fun B=>FrI w (w.heap.size+1+1) (pre++ [(k,o1,some v)]) T K B/\KB (fun i=> ¬K i) A B) w4.heap.size A .normal aa (w6.setCell ⟨w.heap.size+1+1,0,none⟩ (.slice a6 N7 c6)):=by
    intro aa;have hb2:=Aa A (.cells #[.int .i64 1,.string k,.int .i64 k2',.bool b2',.int .i64 n2',.string t2',.slice la2 ln2 lc2,.slice oa2 on2 oc2] 42);have hKB:KB (fun i=>i=w.heap.size+1+1\/(Value.slice aV (Ex (pre.map Cj)).length cV).ownBlock=some i) A (w6.setCell ⟨w.heap.size+1+1,0,none⟩ (.slice a6 N7 c6)):=
     (((KB.of_below hb2).trans (KB.of_grown (S:=fun i=>i=w.heap.size+1+1\/(Value.slice aV (Ex (pre.map Cj)).length cV).ownBlock=some i) hg6 fun k e=> .inr e) fun _ _ h=>h).trans (KB.set (S:=fun i=>i=w.heap.size+1+1\/(Value.slice aV (Ex (pre.map Cj)).length cV).ownBlock=some i) w6 ⟨w.heap.size+1+1,0,none⟩ (.inl rfl) (.slice a6 N7 c6)) fun _ _ h=>h)
    have hnew: ∀g,(Value.slice a6 N7 c6).ownBlock=some g->(Value.slice aV (Ex (pre.map Cj)).length cV).ownBlock=some g\/A.heap.size<=g:=fun g e=>by
     rcases hat6 with e6|e6
     . exact .inl (e6▸e)
     . rw[e6]at e;have e7:=Option.some.inj e;have:=hb2.size;exact .inr (by omega)
    refine⟨hKB.block _ hds2 fun h=>h.elim hr1.1 hr1.2,hKB.block _ hrc2 fun h=>h.elim hr2.1 hr2.2,⟨.slice a6 N7 c6,hL2.set_ 0 _,hr6.keepN (Nat.le_refl _) (fun i hi=>hi) (by simp[World.setCell]) fun i i1 _=>Below.heap_setCell _ _ _ _ ?_,h3.trans (hKB.below (fun i hi=> ?_) h3.size),h4,fun g e=> ?_,h6,h7,fun i hi=>Nat.lt_of_lt_of_le (h8 i hi) hKB.size⟩,hKB.os,hKB.tape,hKB.output,hKB.size,fun i i1 i2=>hKB.block i i1 fun h=>i2 ?_⟩
    . rcases i1 with i1|i1
      . exact fun e=>h4.1 ((show i=w.heap.size+1+1 from e)▸i1.1)
      . rcases hnew i i1 with h|h
        . exact(h5 i h).2.2
        . show i≠w.heap.size+1+1;omega
    . rcases hi with rfl|hi
      . omega
      . exact(h2.base i hi).1
    . rcases hnew g e with h|h
      . exact h5 g h
      . have hk: ¬K g:=fun hk=>by have:=hKA g hk;omega
        exact⟨hk,fun ht=>hk (hTK g ht),by omega⟩
    . rcases h with rfl|h
      . exact h4.1
      . exact(h5 i h).1
   have Hfin:=qz hfin;clear hfin hg6 hat6 hr6 hL2 h1 h2 h3 h4 h5 h6 h7 h8 hE1 hE2 hKA hTK hd hr1 hr2
   gi_wp2_with (gi_at_builtin;refine G7 rfl (.tmp 13) (.tmp 19) 23 rfl rfl rfl hrun ?_;clear hrun)
   exact Hfin.out _
 case done=>
  rintro T K A hI hnk hds;have hI2:=hI.put hds rfl hnk (by omega) (.deferred none);obtain⟨V,h1,h2,h3,_⟩:=hI;obtain⟨aV,cV,rfl⟩:=h2.slice;have g0:=h1.cell 0;have lL:=h1.lt;have hq:Al (fun _=>True) w.heap.size 42 8 (A.putObj w4.heap.size (.deferred none)) (Ex ((Bq (Ba t1) (Ba t2)).map Cj)) (.slice aV (Ex ((Bq (Ba t1) (Ba t2)).map Cj)).length cV):=by
   obtain⟨V2,k1,k2,_⟩:=hI2;have e1:Ah (A.putObj w4.heap.size (.deferred none)) (w.heap.size+1+1) 23 #[.slice aV (Ex ((Bq (Ba t1) (Ba t2)).map Cj)).length cV]:=(World.putObj_heap_other (by
    rintro e;rw[<-e]at hds;rw[show A.heap[w.heap.size+1+1]? =some (Obj.cells _ _ _)from h1]at hds
    cases hds)).trans h1
   have e2:=e1.symm.trans k1;simp only[Option.some.injEq,Obj.cells.injEq,Array.mk.injEq,List.cons.injEq,and_true]at e2;rw[e2];exact k2.mono fun _ _=>trivial
  have HP:Hid (PO (.returned (.slice aV (Ex ((Bq (Ba t1) (Ba t2)).map Cj)).length cV)) (A.putObj w4.heap.size (.deferred none))):=by
   show PO _ _;rw[<-HPO.out];exact⟨h3.trans ((KB.put (S:=fun i=>w.heap.size<=i) A (k:=w4.heap.size) (by omega) (.deferred none)).below (fun _ h=>h) h3.size),_,rfl,hq⟩
  clear hI2 h1 h2 h3 hq hz3 hz4;generalize (Ex ((Bq (Ba t1) (Ba t2)).map Cj)).length=N7 at g0 HP
  gi_wp2
  refine⟨by simp,.inl ⟨_,_,rfl,run_takeDeferred hds, ?_⟩⟩;exact⟨_,results_tmp (t:=4) rfl _ _ _,HP.out⟩
end Go.Proofs.YtnkmhaachfgaoaaGreatDoor
