/- Parts: tree.gather: a node's entries, behind a list. Condition: a bulk of at most 10^8. -/
import Derived.Sort.CutIn
import Derived.Test.YtkmcjfkokoidcaaGreatDoorKFa28
set_option maxHeartbeats 20000000
set_option maxRecDepth 100000
namespace Go.Proofs.YtkmcjfkokoidcaaGreatDoor
open Go Go.RowKit
attribute [local go_sem] Oper.semAt_some
def Ag1 (x:A5) (q:List Value):Array Value:= #[.string x.1,.agg q.toArray]
def ScE (x:A5) (q:List Value) (D:Nat->Prop) (A:World):Prop:= ∃k' b' n' t' la ln lc oa on oc,q= [.int .i64 k',.bool b',.int .i64 n',.string t',.slice la ln lc,.slice oa on oc]/\Ah D A (dV x.2) [.int .i64 k',.bool b',.int .i64 n',.string t',.slice la ln lc,.slice oa on oc]
abbrev noT:Nat->Prop:=fun _=>False
abbrev G4:Array Value:= #[.string Js,.string Js,.bool true]
abbrev Tin:TypeId:=209
structure ScJ (n l:Nat) (xs:List A5) (J:List A5->(Nat->Prop)->(Nat->Prop)->World->Prop) (Jx:World->Prop):Prop where
 next: ∀s T K A T' K' B,J s T K A->KB T A B->(∀i,i<A.heap.size->(T' i ↔ T i)/\(K' i ↔ K i))->(∀i,K' i->i<B.heap.size)->J s T' K' B
 yield: ∀pre x rest q T K A,xs=pre++x::rest->J pre T K A->ScE x q (fun i=>K i/\ ¬T i) A->(∀i,T i->K i)->(∀i,K i->i<A.heap.size)->YieldAt Fence.wide n Tryz.prog l (Ag1 x q) A fun e B=>(e=.returned (.bool true)/\J (pre++ [x]) T K B/\KB (fun i=> ¬K i) A B)\/(e=.returned (.bool false)/\Jx B/\KB (fun i=> ¬K i) A B)
 stop: ∀A B,Jx A->Below A.heap.size A B->Jx B
structure ScK (J:List A5->(Nat->Prop)->(Nat->Prop)->World->Prop) (K0:Nat->Prop) (W:World) (s:List A5) (K:Nat->Prop) (A:World):Prop where
 j:J s noT K A
 kb:KB (fun i=> ¬K0 i) W A
 old: ∀i,i<W.heap.size->(K i ↔ K0 i)
 lt: ∀i,K i->i<A.heap.size
theorem ScK.grow {n l:Nat} {xs:List A5} {J:List A5->(Nat->Prop)->(Nat->Prop)->World->Prop} {Jx:World->Prop} {K0 K:Nat->Prop} {W A B:World} {s:List A5} (hJ:ScJ n l xs J Jx) (h:ScK J K0 W s K A) (hb:Below A.heap.size A B):ScK J K0 W s (fun i=>K i\/(A.heap.size<=i/\i<B.heap.size)) B:=by
 have hz:=h.kb.size;have hz2:=hb.size;exact⟨hJ.next _ _ _ _ _ _ _ h.j (KB.of_below hb) (fun i hi=>⟨Iff.rfl,⟨fun h=>h.elim id fun h=>by omega,.inl⟩⟩) (fun i hi=>hi.elim (fun h1=>Nat.lt_of_lt_of_le (h.lt i h1) hz2) fun h=>h.2),
  h.kb.trans (KB.of_below hb) (fun _ _ h=>h),fun i hi=>⟨fun h1=>h1.elim (h.old i hi).1 fun h=>by omega,fun h1=> .inl ((h.old i hi).2 h1)⟩,fun i hi=>hi.elim (fun h1=>Nat.lt_of_lt_of_le (h.lt i h1) hz2) fun h=>h.2⟩
theorem ScK.more {J:List A5->(Nat->Prop)->(Nat->Prop)->World->Prop} {K0 K:Nat->Prop} {W A B:World} {s s':List A5} (h:ScK J K0 W s K A) (hj:J s' noT K B) (hkb:KB (fun i=> ¬K i) A B):ScK J K0 W s' K B:=
 ⟨hj,h.kb.trans hkb fun i hi h1 h2=>h1 ((h.old i hi).2 h2),h.old,fun i hi=>Nat.lt_of_lt_of_le (h.lt i hi) hkb.size⟩
theorem Bm.kb {K:Nat->Prop} {A B:World} {n:Nd} {b:Nat} (h:Bm K A n b) (hkb:KB (fun i=> ¬K i) A B):Bm K B n b:=h.later hkb.size fun i i1 i2=>hkb.block i i2 fun h=>h i1
def Tk (J:List A5->(Nat->Prop)->(Nat->Prop)->World->Prop) (Jx:World->Prop) (K0:Nat->Prop) (s:List A5) (W:World) (e:Ending) (B:World):Prop:=(e=.returned (.bool true)/\ ∃K,ScK J K0 W s K B)\/(e=.returned (.bool false)/\Jx B/\KB (fun i=> ¬K0 i) W B)
theorem S4 {n l:Nat} {xs:List A5} {J:List A5->(Nat->Prop)->(Nat->Prop)->World->Prop} {Jx:World->Prop} (hJ:ScJ n l xs J Jx) (es pre0 rest0:List A5) (b:Nat) (K0:Nat->Prop) (W:World) (hx:xs=pre0++es++rest0) (hj0:J pre0 noT K0 W) (hlt0: ∀i,K0 i->i<W.heap.size) (hn:Bm K0 W (.leaf es) b) (hb:Ab es<=100000000) (h8:es.length<=8):
 CallsIn Fence.wide (n+1) Tryz.prog 201 #[.pointer (some ⟨b,0,none⟩),.agg G4,.func (.yield l) #[] #[]] W (Tk J Jx K0 (pre0++es) W):=by
 obtain⟨PO,hPO⟩: ∃P:Ending->World->Prop,Tk J Jx K0 (pre0++es) W=P:=⟨_,rfl⟩;rw[hPO];refine callsIn_of_wp Tryz.func201 rfl trivial ?_ rfl;simp only[Tryz.ntmps201,List.size_toArray,List.length_cons,List.length_nil,Nat.reduceAdd,Nat.reduceSub,Array.replicate_succ,Array.replicate_zero,List.push_toArray,List.append_toArray,List.nil_append,List.cons_append];obtain⟨w1,hw1⟩: ∃w1,W.alloc (.cells G4 Tin)=w1:=⟨_,rfl⟩;have hb1:Below W.heap.size W w1:=hw1▸Aa _ _;have hx1:Aj w1 W.heap.size Tin G4:=hw1▸Aj.new _ _ _;have Hk0:Hid (ScK J K0 W pre0 K0 W):=⟨hj0,KB.of_below (Below.refl _ _),fun _ _=>Iff.rfl,hlt0⟩;have hn1:=hn.below hb1;have HC:=qz (Aaz hn1.now hb h8);have d0:=hx1.cell 0;have lx:=hx1.lt;obtain⟨HPO,Hb1,Hx1⟩:=hid3 hPO hb1 hx1;clear hPO hb1 hx1;have Hn:=qz hn;clear hj0 hn hn1
 gi_wp2_with (fail)
 refine⟨trivial, ?_⟩
 gi_at_call 246
 refine(callsIn_wide.2 HC.out).mono ?_;rintro e w2 ⟨rfl,hb2⟩;have hW2:=Hb1.out.trans (hb2.mono Hb1.out.size);have hx2:=Hx1.out.below hb2 lx;have hk2:=Hk0.out.grow hJ hW2;have hn2:Bm (fun i=>K0 i\/(W.heap.size<=i/\i<w2.heap.size)) w2 (.leaf es) b:=(Hn.out.below hW2).mono fun i _ h=> .inl h;have HI0:Hid (∃K,ScK J K0 W (pre0++es.take 0) K w2/\Bm K w2 (.leaf es) b/\Aj w2 W.heap.size Tin G4/\K W.heap.size):=⟨_,by simpa using hk2,hn2,hx2,.inr ⟨Nat.le_refl _,hx2.lt⟩⟩;clear hw1 d0 lx hb2 hW2 hx2 hk2 hn2 HC Hk0 Hb1 Hx1 Hn
 gi_wp2_with (fail)
 gi_loopw [7] (fun i wr=> ∃q:Nat,i=.int .i64 q/\q<=es.length/\Hid (∃K,ScK J K0 W (pre0++es.take q) K wr/\Bm K wr (.leaf es) b/\Aj wr W.heap.size Tin G4/\K W.heap.size)) (fun i _=>es.length - (intOf i).toNat)
 case atStart=>exact⟨0,rfl,Nat.zero_le _,HI0⟩
 case round=>
  obtain⟨q,rfl,hq,hI⟩:=hrel;clear HI0;obtain⟨K,hk,hnr,hxr,hKW⟩:=hI.out;have hSz:=Je hnr.now (by show es.length<=100;omega);have e1:Bh (.leaf es)=es.length:=rfl;rw[e1]at hSz;have HSz:=qz hSz;clear hSz
  gi_wp2_with (fail)
  refine⟨trivial, ?_⟩
  gi_at_call 106
  refine(callsIn_wide.2 HSz.out).mono ?_;rintro e w3 ⟨rfl,hb3⟩;have hk3:=hk.grow hJ hb3;have hn3:=hnr.below hb3;have hx3:=hxr.below hb3 hxr.lt;by_cases hlt:q<es.length
  . obtain⟨⟨key,v⟩,hx'⟩: ∃v,es[q]? =some v:=⟨_,List.getElem?_eq_getElem hlt⟩;have hE:=Jr hn3.now hx' hb (by omega);unfold Pp at hE;have y1:(q:Int)<(es.length:Int):=by omega
    have y0:(0:Int)<=(q:Int):=by omega
    have hdr:es.drop q=(key,v)::es.drop (q+1):=by
     rw[List.drop_eq_getElem_cons hlt];have h:=List.getElem?_eq_getElem hlt;rw[hx']at h;rw[<-Option.some.inj h]
    have hsplit:xs=(pre0++es.take q)++(key,v)::(es.drop (q+1)++rest0):=by
     have e2:es=es.take q++(key,v)::es.drop (q+1):=by rw[<-hdr,List.take_append_drop]
     rw[hx]
     conv=>lhs;rw[e2]
     simp
    have htk:(pre0++es.take q)++ [(key,v)]=pre0++es.take (q+1):=by
     rw[List.take_add_one,hx'];simp
    obtain⟨HE,Hk3,Hn3,Hx3⟩:=hid4 hE hk3 hn3 hx3;clear hE hk3 hn3 hx3;clear hdr hx' hI hk hnr hxr
    gi_wp2_with (fail)
    refine⟨trivial, ?_⟩
    gi_at_call 108
    refine(callsIn_wide.2 HE.out).mono ?_;rintro e w4 ⟨hb4,k',b',n',t',la,ln,lc,oa,on,oc,rfl,hf⟩
    gi_upto_region 5 with(fail)
    obtain⟨w5,hw5⟩: ∃w5,w4.alloc (.cells #[.string key,.int .i64 k',.bool b',.int .i64 n',.string t',.slice la ln lc,.slice oa on oc] 63)=w5:=⟨_,rfl⟩;have hb5:Below w4.heap.size w4 w5:=hw5▸Aa _ _;have hx5:Aj w5 w4.heap.size 63 #[.string key,.int .i64 k',.bool b',.int .i64 n',.string t',.slice la ln lc,.slice oa on oc]:=hw5▸Aj.new _ _ _;rw[hw5];have hb35:Below w3.heap.size w3 w5:=hb4.trans (hb5.mono hb4.size);have hi5:=Hx3.out.below hb35 Hx3.out.lt;have HEn:=qz (Tv Js Js key w5);have hf4:Ah (fun i=>w3.heap.size<=i) w4 (dV v) [.int .i64 k',.bool b',.int .i64 n',.string t',.slice la ln lc,.slice oa on oc]:=hf;have Hf5:=qz (hf4.below hb5);have d0:=hi5.cell 0;have d1:=hi5.cell 1;have d2:=hi5.cell 2;have ld:=hi5.lt;have e0:=hx5.cell 0;have le:=hx5.lt;have Hb35:=qz hb35;clear hb35;have Hx5:=qz hx5;clear hb4 hb5 hw5 hf hf4 hx5 hi5
    gi_wp2_with (fail)
    refine⟨trivial, ?_⟩
    gi_at_call 203
    refine(callsIn_wide.2 HEn.out).mono ?_;rintro e w6 ⟨rfl,hb6⟩;have hb36:=Hb35.out.trans (hb6.mono Hb35.out.size);have hk6:=Hk3.out.grow hJ hb36;have hn6:=Hn3.out.below hb36;have hx6:=Hx3.out.below hb36 Hx3.out.lt;have hz36:=hb36.size;have hf6:=Hf5.out.below hb6;have hz3:=hb3.size;have hYk:=hJ.yield _ (key,v) _ [.int .i64 k',.bool b',.int .i64 n',.string t',.slice la ln lc,.slice oa on oc] noT _ w6 hsplit hk6.j ⟨k',b',n',t',la,ln,lc,oa,on,oc,rfl,hf6.mono fun i hi h=>⟨.inr ⟨h,hi⟩,fun h=>h⟩⟩ (fun _ h=>h.elim) hk6.lt;rw[htk]at hYk;have hc5:=Hx5.out.below hb6 le;clear e0 d0 d1 d2 ld le;have c0:=hc5.cell 0;have c1:=hc5.cell 1;have c2:=hc5.cell 2;have c3:=hc5.cell 3;have c4:=hc5.cell 4;have c5:=hc5.cell 5;have c6:=hc5.cell 6;have lc5:=hc5.lt;have HN:Hid (∀W7,J (pre0++es.take (q+1)) noT (fun i=>(K i\/(wr.heap.size<=i/\i<w3.heap.size))\/(w3.heap.size<=i/\i<w6.heap.size)) W7->KB (fun i=> ¬((K i\/(wr.heap.size<=i/\i<w3.heap.size))\/(w3.heap.size<=i/\i<w6.heap.size))) w6 W7-> ∃K,ScK J K0 W (pre0++es.take (q+1)) K W7/\Bm K W7 (.leaf es) b/\Aj W7 W.heap.size Tin G4/\K W.heap.size):=fun W7 hj7 hkb7=>
     ⟨_,hk6.more hj7 hkb7,(hn6.mono (T:=fun i=>(K i\/(wr.heap.size<=i/\i<w3.heap.size))\/(w3.heap.size<=i/\i<w6.heap.size)) fun i _ h=> .inl (.inl h)).kb hkb7,hx6.kb hkb7 (fun h=>h (.inl (.inl hKW))),.inl (.inl hKW)⟩
    have HKB:Hid (∀W7,KB (fun i=> ¬((K i\/(wr.heap.size<=i/\i<w3.heap.size))\/(w3.heap.size<=i/\i<w6.heap.size))) w6 W7->KB (fun i=> ¬K0 i) W W7):=fun W7 hkb7=>hk6.kb.trans hkb7 fun i hi h1 h2=>h1 ((hk6.old i hi).2 h2);obtain⟨fn,tmps,assign,body,hy,hR⟩:=hYk;simp only[Ag1]at hy;clear hb36 hk6 hn6 hx6 hf6 hc5 hsplit hb6 HEn Hf5 Hx5 Hk3 Hn3 Hx3 Hb35
    gi_wp2_with (fail)
    refine hR.mono ?_;rintro e W7 (⟨rfl,hJ7,hkb7⟩|⟨rfl,hX7,hkb7⟩)
    . have HN7:=qz (HN.out W7 hJ7 hkb7);clear hy hR HN hJ7 hkb7
      gi_wp2_with (fail)
      go_roundw
      case rel=>exact⟨q+1,by go_num,by omega,HN7⟩
      case measure=>simp only[intOf];omega
    . have HP:Hid (PO (.returned (.bool false)) W7):=by
       show PO _ _;rw[<-HPO.out];exact .inr ⟨rfl,hX7,HKB.out W7 hkb7⟩
      clear hy hR HN hX7 hkb7
      gi_wp2_with (fail)
      exact HP.out
  . obtain rfl:q=es.length:=by omega
    have y1: ¬(es.length:Int)<(es.length:Int):=by omega
    have HP:Hid (PO (.returned (.bool true)) w3):=by
     show PO _ _;rw[<-HPO.out];rw[List.take_length]at hk3;exact .inl ⟨rfl,_,hk3⟩
    clear hI hk hnr hxr hk3 hn3 hx3
    gi_wp2_with (fail)
    exact HP.out
attribute [local go_sem] Oper.semAt_some
theorem At.ownBlk {S0:Nat->Prop} {b s i:Nat} {t:TypeId} {wr:World} {l:List D} {V:Value} (h:At S0 b t s wr l V) (hi:V.ownBlock=some i): ∃cur,Aj wr i t cur:=by
 obtain⟨ns,h1,_⟩:=h;rcases h1.2 with⟨rfl,_⟩|⟨g,cap,cur,rfl,_,hg,_⟩
 . cases hi
 . cases hi
   exact⟨cur,hg⟩
def OpI (w6:World) (C g:Nat) (X O:Value) (bs:List Nat) (pre:List (Nat×Nat)) (A:World):Prop:=
 ∃V,Aj A C Apc #[X,V,O]/\At (fun _=>False) (C+1) 24 1 A (Bb (bs++pre.map (·.2))) V/\KB (fun i=>i=C\/i=g) w6 A/\(V.ownBlock=some g\/ ∃g',V.ownBlock=some g'/\w6.heap.size<=g')
theorem OpI.later {w6:World} {C g:Nat} {X O:Value} {bs:List Nat} {pre:List (Nat×Nat)} {A B:World} (h:OpI w6 C g X O bs pre A) (hb:Below A.heap.size A B):OpI w6 C g X O bs pre B:=by
 obtain⟨V,h1,h2,h3,h4⟩:=h;exact⟨V,h1.below hb h1.lt,h2.below hb,h3.trans (KB.of_below (S:=fun i=>i=C\/i=g) hb) fun _ _ h=>h,h4⟩
theorem OpI.put {w6:World} {C g:Nat} {X O:Value} {bs:List Nat} {pre:List (Nat×Nat)} {A:World} (h:OpI w6 C g X O bs pre A) (hC:C<w6.heap.size) (_:g<w6.heap.size) {k:Nat} {o:Obj} (o':Obj) (ho:A.heap[k]? =some o) (hc:o.isCells=false) (hk:w6.heap.size<=k):OpI w6 C g X O bs pre (A.putObj k o'):=by
 obtain⟨V,h1,h2,h3,h4⟩:=h;refine⟨V,(World.putObj_heap_other (by omega)).trans h1,h2.keepP (by simp[World.putObj]) fun i hi _=>World.putObj_heap_other ?_,⟨h3.os,h3.tape,h3.output,by have:=h3.size;simp[World.putObj];omega,fun j j1 j2=>(World.putObj_heap_other (by omega)).trans (h3.block j j1 j2)⟩,h4⟩;rintro rfl;obtain⟨cur,hcur⟩:=h2.ownBlk hi;rw[show A.heap[i]? =some (Obj.cells cur _ _)from hcur]at ho
 cases ho
 cases hc
theorem At.reads {S0:Nat->Prop} {b s g n c:Nat} {t:TypeId} {w:World} {l:List D} (h:At S0 b t s w l (.slice (some ⟨g,0,none⟩) n c)): ∃ns,Bu w (g+1) s (some ⟨g,0,none⟩) n ns/\Aw (fun i=>S0 i/\(Value.slice (some ⟨g,0,none⟩) n c).ownBlock≠some i) w l ns/\n=l.length:=by
 obtain⟨ns,h1,h2,h3⟩:=h;rcases h1.2 with⟨e,_⟩|⟨g',cap,cur,e,hbg,hg,hnc,hcm,hcs,hcx⟩
 . cases e
 . cases e
   refine⟨ns,⟨h1.1,fun _=>⟨_,rfl,by simp,fun j u hu=> ?_⟩⟩,h3,rfl⟩;rw[Bn,Nat.zero_add];have hb:Aj w g t cur:=hg;refine(hb.cell j).trans ?_;rw[<-Array.getElem?_toList];rw[<-hcx]at hu;rw[List.getElem?_take]at hu
   split at hu
   . exact hu
   . cases hu
theorem Acd {ks:List Nd} {b:Nat} {w:World} (h:Cd w w.heap.size (.inner ks) b):Calls Tryz.prog 92 #[.pointer (some ⟨b,0,none⟩)] w fun e w'=>e=.returned (.slice none 0 0)/\w=w':=by
 simp only[Cd]at h;obtain⟨_,bs,a,c,_,hx,_⟩:=h;have c1:=hx.cell 0;have lx:=hx.lt;clear hx;go_enter Tryz.func92,Tryz.ntmps92;go_wp2;go_ret;exact⟨rfl,rfl⟩
theorem Ae2 (w:World):Calls Tryz.prog 157 #[.slice none 0 0] w fun e w'=>e=.returned (.slice none 0 0)/\w=w':=by
 have hnil:=fun(W:World)=>Lib.run_eql_slice_nil (P:=Tryz.prog) W 108 24 none 0 0 0 0 Tryz.underlying108;go_enter Tryz.func157,Tryz.ntmps157;go_wp2;go_ret;exact⟨rfl,rfl⟩
theorem Ae7 {es:List A5} {b:Nat} {w:World} (h:Cd w w.heap.size (.leaf es) b):Calls Tryz.prog 93 #[.pointer (some ⟨b,0,none⟩)] w fun e w'=>e=.returned (.slice none 0 0)/\w=w':=by
 simp only[Cd]at h;obtain⟨_,a,c,_,hx⟩:=h;have c1:=hx.cell 1;have lx:=hx.lt;have HC:=qz (Ae2 w);clear hx;go_enter Tryz.func93,Tryz.ntmps93;go_wp2_with (fail);(with_reducible refine(HC.out).mono ?_);rintro e w1 ⟨rfl,rfl⟩;go_wp2;go_ret;exact⟨rfl,rfl⟩
theorem Aia (w:World):Calls Tryz.prog 93 #[.pointer none] w fun e w'=>e=.returned (.slice none 0 0)/\w=w':=by
 go_enter Tryz.func93,Tryz.ntmps93;go_wp2;go_ret;exact⟨rfl,rfl⟩
theorem Aj0 (a b:List A5):dO (a++b)=dO a++dO b:=by rw[Bo,Bo,Bo,List.map_append]
def Lu (B:Nat) (l:List A5) (V:Value) (w:World) (e:Ending) (w':World):Prop:=KB (fun i=>V.ownBlock=some i) w w'/\ ∃V',e=.returned V'/\At (fun i=>B<=i) B 63 7 w' (dO l) V'/\(V'.ownBlock=V.ownBlock\/ ∃g,V'.ownBlock=some g/\w.heap.size<=g)
def GaC (B:Nat) (n:Nd):Prop:= ∀(acc:List A5) (V:Value) (b:Nat) (w:World),Bm (fun i=>i<B) w n b->B<=w.heap.size->At (fun i=>B<=i) B 63 7 w (dO acc) V->gd n->Ab acc+Ab (Bi n)<=100000000->
 Calls Tryz.prog 51 #[V,.pointer (some ⟨b,0,none⟩)] w (Lu B (acc++Bi n) V w)
theorem Abo (B:Nat) (es:List A5):GaC B (.leaf es):=by
 intro acc V b w hn hB hr hg hb;obtain⟨PO,hPO⟩: ∃P:Ending->World->Prop,Lu B (acc++Bi (.leaf es)) V w=P:=⟨_,rfl⟩;rw[hPO];simp only[Bi]at hb hPO;have HE:=qz (Jd hn.now hg.leaf (by omega));have hla:=Bc acc;have hle:=Bc es;have hbase:=hr.base;obtain⟨j0,hj,hy0,hy1,hy2⟩:=info_parts J6;have hLo:Hid ((dO acc).length+es.length<=maxLen/\((dO acc).length+es.length)*104<=140737488355328):=by rw[Av];exact⟨by simp only[maxLen];omega,by omega⟩
 obtain⟨aV,cV,rfl⟩:=hr.slice;have Hdl:=qz (Av es);obtain⟨HPO,Hn,Hr,Hj,Hy0,Hy1,Hy2,Hbase⟩:=hid8 hPO hn hr hj hy0 hy1 hy2 hbase;clear hPO hn hr hj hy0 hy1 hy2 hbase;go_enter Tryz.func51,Tryz.ntmps51;go_wp2_with (fail);(with_reducible refine(HE.out).mono ?_);rintro e w1 ⟨hb1,g1,rfl,hR1⟩;obtain⟨ns,hrd,hA,hnn⟩:=hR1.reads;clear hnn;have hg1:=hR1.base g1 rfl;have hz1:=hb1.size;have HA':Hid (Aw (fun i=>B<=i/\(Value.slice aV (dO acc).length cV).ownBlock≠some i) w1 (dO es) ns):=fun w'' k1 k2=>hA w'' k1 fun p p1 p2=>k2 p ⟨by omega,fun e=>by have:=(Hbase.out p.block e).2;omega⟩ p2;have Hr1:=qz (Hr.out.below hb1);obtain⟨Hrd,Hb1⟩:=hid2 hrd hb1;clear hrd hb1;clear hR1 hA;go_wp2_with (at_builtin;apply Shut.out);unfold Shut;refine C4 rfl (.tmp 7) (.tmp 9) 22 rfl Tryz.underlying22 Hj.out Hy0.out Hy1.out Hy2.out rfl (by omega) rfl Hr1.out (by omega) (Es _) HA'.out rfl Hrd.out Hdl.out.symm hLo.out.1 hLo.out.2 ?_;intro V6 w6 hrow6 hg6 hat6;have hn6:=(Hn.out.below Hb1.out).later hg6.size fun i i1 i2=>hg6.block i i2 fun e=>by have:=(Hbase.out i e.symm).1;omega
 have hK:=Ae7 hn6.now;have e6:dO acc++dO es=dO (acc++es):=(Aj0 acc es).symm;rw[e6]at hrow6;have hP:Lu B (acc++es) (.slice aV (dO acc).length cV) w (.returned V6) w6:=by
  refine⟨(KB.of_below Hb1.out).trans (KB.of_grown (S:=fun i=>(Value.slice aV (dO acc).length cV).ownBlock=some i) hg6 fun k e=>e) fun _ _ h=>h,V6,rfl,hrow6, ?_⟩;rcases hat6 with e|e
  . exact .inl e
  . exact .inr ⟨_,e,by omega⟩
 rw[HPO.out]at hP;obtain⟨HP,HK⟩:=hid2 hP hK;clear hK;clear hP hrow6 hg6 hat6 hn6;go_wp2_with (fail);(with_reducible refine(HK.out).mono ?_);rintro e w7 ⟨rfl,rfl⟩;obtain⟨a6,c6,rfl⟩: ∃a6 c6,V6=.slice a6 (dO (acc++es)).length c6:=by
  have h:=HP.out;rw[<-HPO.out]at h;obtain⟨_,V',e,hr,_⟩:=h
  cases e
  exact hr.slice
 go_wp2_with (fail);go_loopw [0,14] (fun V i wr=>V=.slice a6 (dO (acc++es)).length c6/\i=.int .i64 0/\wr=w6) (fun _ _ _=>0)
 case atStart=>exact⟨rfl,rfl,rfl⟩
 case round=>
  obtain⟨rfl,rfl,rfl⟩:=hrel;go_wp2;exact HP.out
def GaI (B:Nat) (acc:List A5) (ks:List Nd) (V2:Value) (w3:World) (q:Nat) (wr:World) (V:Value):Prop:=KB (fun i=>V2.ownBlock=some i) w3 wr/\At (fun i=>B<=i) B 63 7 wr (dO (acc++Bg (ks.take q))) V/\(V.ownBlock=V2.ownBlock\/ ∃g,V.ownBlock=some g/\w3.heap.size<=g)
theorem Y9 (B:Nat) (ks:List Nd) (IH: ∀k ∈ ks,GaC B k):GaC B (.inner ks):=by
 intro acc V b w hn hB hr hg hb;obtain⟨PO,hPO⟩: ∃P:Ending->World->Prop,Lu B (acc++Bi (.inner ks)) V w=P:=⟨_,rfl⟩;rw[hPO];simp only[Bi]at hb hPO;obtain⟨k2,k8,kg⟩:=hg.inner;have hE:=Acd hn.now;have hla:=Bc acc;have hbase:=hr.base;obtain⟨j0,hj,hy0,hy1,hy2⟩:=info_parts J6;have hLo:Hid ((dO acc).length+0<=maxLen/\((dO acc).length+0)*104<=140737488355328):=by rw[Av];exact⟨by simp only[maxLen];omega,by omega⟩
 obtain⟨aV,cV,rfl⟩:=hr.slice;have HX:Hid (Aw (fun i=>B<=i/\(Value.slice aV (dO acc).length cV).ownBlock≠some i) w [] []):=fun _ _ _=>rfl;have Hrd:Hid (Bu w 0 7 none 0 []):=⟨rfl,fun h=>absurd h (by omega)⟩;obtain⟨HIx,HE,HPO,Hn,Hr,Hj,Hy0,Hy1,Hy2,Hbase,Kg⟩:=hid11 IH hE hPO hn hr hj hy0 hy1 hy2 hbase kg;clear hE hPO hn hr hj hy0 hy1 hy2 hbase kg;clear IH;go_enter Tryz.func51,Tryz.ntmps51;go_wp2_with (fail);(with_reducible refine(HE.out).mono ?_);rintro e w1 ⟨rfl,rfl⟩;go_wp2_with (at_builtin;apply Shut.out);unfold Shut;refine C4 rfl (.tmp 7) (.tmp 9) 22 rfl Tryz.underlying22 Hj.out Hy0.out Hy1.out Hy2.out rfl (by omega) rfl Hr.out (by omega) (fun d hd=>by cases hd) HX.out rfl Hrd.out rfl hLo.out.1 hLo.out.2 ?_;intro V6 w6 hrow6 hg6 hat6;rw[List.append_nil]at hrow6;obtain⟨a6,c6,rfl⟩:=hrow6.slice;have hn6:=Hn.out.later hg6.size fun i i1 i2=>hg6.block i i2 fun e=>by have:=(Hbase.out i e.symm).1;omega
 have HK:=qz (Fr hn6 (by omega) (by omega));have hg6z:=hg6.size;have Hat6:Hid ((Value.slice a6 (dO acc).length c6).ownBlock=(Value.slice aV (dO acc).length cV).ownBlock\/(Value.slice a6 (dO acc).length c6).ownBlock=some w.heap.size):=hat6;have Hg6:Hid (w.grownBy w6 (Value.slice aV (dO acc).length cV).ownBlock):=hg6;obtain⟨Hn6,Hrow6⟩:=hid2 hn6 hrow6;clear hn6 hrow6;go_wp2_with (fail);(with_reducible refine(HK.out).mono ?_);rintro e w7 ⟨bs,hbs,hb7,V7,rfl,hR7⟩;have hkl:=hbs.now.len;obtain⟨gk,ck,rfl,_,hgk,hgk2⟩:=hR7.ptr (by intro e;have:=congrArg List.length e;rw[A8,List.length_nil]at this;omega);rw[A8,hkl];have hcell: ∀i b,bs[i]? =some b->w7.cell? ⟨gk,0+i,none⟩=some (.pointer (some ⟨b,0,none⟩)):=by
  intro i b hi;obtain⟨g',off,e,_,cs,h1,_,h3⟩:=hR7.close.at_ (i:=i) (d:=dPt b) (by simp[Bb,hi])
  cases e
  obtain⟨rfl,_⟩:=h1;have:=h3 0 _ rfl;simpa using this
 have Hn7:=qz (hbs.below hb7);have HI0:Hid (GaI B acc ks (.slice a6 (dO acc).length c6) w7 0 w7 (.slice a6 (dO acc).length c6)):=⟨KB.of_below (Below.refl _ _),by simpa[Bg]using Hrow6.out.below hb7,.inl rfl⟩;have Hb6:=qz Hrow6.out.base;have hz7:=hb7.size;obtain⟨Hcell,Hkl,Hb7⟩:=hid3 hcell hkl hb7;clear hcell hkl hb7;clear hbs hR7 HK HE Hrow6 Hn6;go_wp2_with (fail);go_loopw [0,14] (fun V i wr=> ∃q:Nat,i=.int .i64 q/\q<=ks.length/\Hid (GaI B acc ks (.slice a6 (dO acc).length c6) w7 q wr V)) (fun _ i _=>ks.length - (intOf i).toNat)
 case atStart=>exact⟨0,rfl,Nat.zero_le _,HI0⟩
 case round=>
  obtain⟨q,rfl,hq,hI⟩:=hrel;clear HI0;obtain⟨i1,i2,i3⟩:=hI.out;by_cases hlt:q<ks.length
  . obtain⟨k,hk⟩: ∃k,ks[q]? =some k:=⟨_,List.getElem?_eq_getElem hlt⟩;obtain⟨bq,hbq,hkq⟩:=Hn7.out.at_ hk;have hkeep: ∀i,i<B\/i=gk->i<w7.heap.size->wr.heap[i]? =w7.heap[i]? :=fun i h1 h2=>i1.block i h2 fun e=>by
     have:=Hb6.out i e;have:=hgk;omega
    have hz:=i1.size;have s0:wr.cell? ⟨gk,q,none⟩=some (.pointer (some ⟨bq,0,none⟩)):=by
     have h:=(World.cell?_of_block (hkeep gk (.inr rfl) hgk2):wr.cell? ⟨gk,0+q,none⟩=w7.cell? ⟨gk,0+q,none⟩).trans (Hcell.out q bq hbq)
     rwa [Nat.zero_add]at h
    have hkr:=hkq.later hz fun i h1 h2=>hkeep i (.inl h1) h2;have hmem:=List.mem_of_getElem? hk;have hbk:Ab (Bg (ks.take q))+Ab (Bi k)<=Ab (Bg ks):=by
     have e0:ks.drop q=k::ks.drop (q+1):=by
      rw[List.drop_eq_getElem_cons hlt];have h:=List.getElem?_eq_getElem hlt;rw[hk]at h;rw[<-Option.some.inj h]
     have e1:ks=ks.take q++k::ks.drop (q+1):=by rw[<-e0,List.take_append_drop]
     have e2:=congrArg (fun l=>Ab (Bg l)) e1;simp only[Be,Bg,Da]at e2;omega
    obtain⟨aR,cR,rfl⟩:=i2.slice;have hC:=HIx.out k hmem (acc++Bg (ks.take q)) _ bq wr hkr (by omega) i2 (Kg.out k hmem) (by rw[Da];omega);have q1:(q:Int)<(ks.length:Int):=by omega
    have q0:(0:Int)<=q:=by omega
    have q2:IntKind.i64.wrap ((q:Int)+1)=((q+1:Nat):Int):=by rw[IntWalk.i64_in _ (by omega)];omega
    have lgk:gk<wr.heap.size:=by omega
    have htk:acc++Bg (ks.take q)++Bi k=acc++Bg (ks.take (q+1)):=by
     rw[List.take_add_one,hk,Option.toList_some,Be,Jp,List.append_assoc]
    rw[htk]at hC;obtain⟨HC,I1,I3⟩:=hid3 hC i1 i3;clear hC i1 i3;clear i2 hkr hkq hbq hI hkeep;go_wp2_with (fail);(with_reducible refine(HC.out).mono ?_);rintro e w8 ⟨hk8,V8,rfl,hr8,hat8⟩;have HI8:Hid (GaI B acc ks (.slice a6 (dO acc).length c6) w7 (q+1) w8 V8):=by
     show GaI _ _ _ _ _ _ _ _;refine⟨I1.out.trans hk8 fun k h1 h2=> ?_,hr8, ?_⟩
     . rcases I3.out with e|⟨g,e,h⟩
       . rw[<-e];exact h2
       . rw[e]at h2;have:=Option.some.inj h2;omega
     . rcases hat8 with e|⟨g,e,h⟩
       . rw[e];exact I3.out
       . exact .inr ⟨g,e,by have:=I1.out.size;omega⟩
    obtain⟨a8,c8,rfl⟩:=hr8.slice;clear hk8 hr8 hat8;go_wp2;go_roundw
    case rel=>exact⟨q+1,by go_num,by omega,HI8⟩
    case measure=>simp only[intOf];omega
  . obtain rfl:q=ks.length:=by omega
    rw[List.take_length]at i2;obtain⟨aR,cR,rfl⟩:=i2.slice;have hP:Lu B (acc++Bg ks) (.slice aV (dO acc).length cV) w (.returned (.slice aR (dO (acc++Bg ks)).length cR)) wr:=by
     refine⟨((KB.of_grown (S:=fun i=>(Value.slice aV (dO acc).length cV).ownBlock=some i) Hg6.out fun k e=>e).trans (KB.of_below (S:=fun i=>(Value.slice aV (dO acc).length cV).ownBlock=some i) Hb7.out) fun _ _ h=>h).trans i1 fun k h1 h2=> ?_,_,rfl,i2, ?_⟩
     . rcases Hat6.out with e|e
       . rw[<-e];exact h2
       . rw[e]at h2;have:=Option.some.inj h2;omega
     . rcases i3 with e|⟨g,e,h⟩
       . rw[e];rcases Hat6.out with e|e
         . exact .inl e
         . exact .inr ⟨_,e,by omega⟩
       . exact .inr ⟨g,e,by omega⟩
    rw[HPO.out]at hP;have HP:=qz hP;clear hP i1 i2 i3 hI;have q1: ¬(ks.length:Int)<(ks.length:Int):=by omega
    go_wp2;exact HP.out
theorem Y8 (B:Nat): ∀n,GaC B n:=Nd.ind (Abo B) (Y9 B)
end Go.Proofs.YtkmcjfkokoidcaaGreatDoor
