/- Parts: scan.All over a tree: what it yields. Condition: a bulk of at most 10^8. -/
import Derived.Sort.CutIn
import Derived.Test.YtkmcjfkokoidcaaGreatDoorKFb26
set_option maxHeartbeats 20000000
set_option maxRecDepth 100000
namespace Go.Proofs.YtkmcjfkokoidcaaGreatDoor
open Go Go.RowKit
attribute [local go_sem] Oper.semAt_some
def Abn (x:Bj) (q:List Value):Array Value:= #[.string x.1,.agg q.toArray]
def ScE (x:Bj) (q:List Value) (D:Nat->Prop) (A:World):Prop:= ∃k' b' n' t' la ln lc oa on oc,q= [.int .i64 k',.bool b',.int .i64 n',.string t',.slice la ln lc,.slice oa on oc]/\Ai D A (dV x.2) [.int .i64 k',.bool b',.int .i64 n',.string t',.slice la ln lc,.slice oa on oc]
abbrev noT:Nat->Prop:=fun _=>False
abbrev F3:Array Value:= #[.string G8,.string G8,.bool true]
abbrev Tin:TypeId:=209
structure ScJ (n l:Nat) (xs:List Bj) (J:List Bj->(Nat->Prop)->(Nat->Prop)->World->Prop) (Jx:World->Prop):Prop where
 next: ∀s T K A T' K' B,J s T K A->KB T A B->(∀i,i<A.heap.size->(T' i ↔ T i)/\(K' i ↔ K i))->(∀i,K' i->i<B.heap.size)->J s T' K' B
 yield: ∀pre x rest q T K A,xs=pre++x::rest->J pre T K A->ScE x q (fun i=>K i/\ ¬T i) A->(∀i,T i->K i)->(∀i,K i->i<A.heap.size)->YieldAt Fence.wide n Tryz.prog l (Abn x q) A fun e B=>(e=.returned (.bool true)/\J (pre++ [x]) T K B/\KB (fun i=> ¬K i) A B)\/(e=.returned (.bool false)/\Jx B/\KB (fun i=> ¬K i) A B)
 stop: ∀A B,Jx A->Below A.heap.size A B->Jx B
structure ScK (J:List Bj->(Nat->Prop)->(Nat->Prop)->World->Prop) (K0:Nat->Prop) (W:World) (s:List Bj) (K:Nat->Prop) (A:World):Prop where
 j:J s noT K A
 kb:KB (fun i=> ¬K0 i) W A
 old: ∀i,i<W.heap.size->(K i ↔ K0 i)
 lt: ∀i,K i->i<A.heap.size
theorem ScK.grow {n l:Nat} {xs:List Bj} {J:List Bj->(Nat->Prop)->(Nat->Prop)->World->Prop} {Jx:World->Prop} {K0 K:Nat->Prop} {W A B:World} {s:List Bj} (hJ:ScJ n l xs J Jx) (h:ScK J K0 W s K A) (hb:Below A.heap.size A B):ScK J K0 W s (fun i=>K i\/(A.heap.size<=i/\i<B.heap.size)) B:=by
 have hz:=h.kb.size;have hz2:=hb.size;exact⟨hJ.next _ _ _ _ _ _ _ h.j (KB.of_below hb) (fun i hi=>⟨Iff.rfl,⟨fun h=>h.elim id fun h=>by omega,.inl⟩⟩) (fun i hi=>hi.elim (fun h1=>Nat.lt_of_lt_of_le (h.lt i h1) hz2) fun h=>h.2),
  h.kb.trans (KB.of_below hb) (fun _ _ h=>h),fun i hi=>⟨fun h1=>h1.elim (h.old i hi).1 fun h=>by omega,fun h1=> .inl ((h.old i hi).2 h1)⟩,fun i hi=>hi.elim (fun h1=>Nat.lt_of_lt_of_le (h.lt i h1) hz2) fun h=>h.2⟩
theorem ScK.more {J:List Bj->(Nat->Prop)->(Nat->Prop)->World->Prop} {K0 K:Nat->Prop} {W A B:World} {s s':List Bj} (h:ScK J K0 W s K A) (hj:J s' noT K B) (hkb:KB (fun i=> ¬K i) A B):ScK J K0 W s' K B:=
 ⟨hj,h.kb.trans hkb fun i hi h1 h2=>h1 ((h.old i hi).2 h2),h.old,fun i hi=>Nat.lt_of_lt_of_le (h.lt i hi) hkb.size⟩
theorem Bx.kb {K:Nat->Prop} {A B:World} {n:Nd} {b:Nat} (h:Bx K A n b) (hkb:KB (fun i=> ¬K i) A B):Bx K B n b:=h.later hkb.size fun i i1 i2=>hkb.block i i2 fun h=>h i1
def Qz (J:List Bj->(Nat->Prop)->(Nat->Prop)->World->Prop) (Jx:World->Prop) (K0:Nat->Prop) (s:List Bj) (W:World) (e:Ending) (B:World):Prop:=(e=.returned (.bool true)/\ ∃K,ScK J K0 W s K B)\/(e=.returned (.bool false)/\Jx B/\KB (fun i=> ¬K0 i) W B)
theorem Qi {n l:Nat} {xs:List Bj} {J:List Bj->(Nat->Prop)->(Nat->Prop)->World->Prop} {Jx:World->Prop} (hJ:ScJ n l xs J Jx) (es pre0 rest0:List Bj) (b:Nat) (K0:Nat->Prop) (W:World) (hx:xs=pre0++es++rest0) (hj0:J pre0 noT K0 W) (hlt0: ∀i,K0 i->i<W.heap.size) (hn:Bx K0 W (.leaf es) b) (hb:Ae es<=100000000) (h8:es.length<=8):
 CallsIn Fence.wide (n+1) Tryz.prog 201 #[.pointer (some ⟨b,0,none⟩),.agg F3,.func (.yield l) #[] #[]] W (Qz J Jx K0 (pre0++es) W):=by
 obtain⟨PO,hPO⟩: ∃P:Ending->World->Prop,Qz J Jx K0 (pre0++es) W=P:=⟨_,rfl⟩;rw[hPO];refine callsIn_of_wp Tryz.func201 rfl trivial ?_ rfl;simp only[Tryz.ntmps201,List.size_toArray,List.length_cons,List.length_nil,Nat.reduceAdd,Nat.reduceSub,Array.replicate_succ,Array.replicate_zero,List.push_toArray,List.append_toArray,List.nil_append,List.cons_append];obtain⟨w1,hw1⟩: ∃w1,W.alloc (.cells F3 Tin)=w1:=⟨_,rfl⟩;have hb1:Below W.heap.size W w1:=hw1▸Aa _ _;have hx1:Aj w1 W.heap.size Tin F3:=hw1▸Aj.new _ _ _;have Hk0:Hid (ScK J K0 W pre0 K0 W):=⟨hj0,KB.of_below (Below.refl _ _),fun _ _=>Iff.rfl,hlt0⟩;have hn1:=hn.below hb1;have HC:=qz (Wf hn1.now hb h8);have d0:=hx1.cell 0;have lx:=hx1.lt;obtain⟨HPO,Hb1,Hx1⟩:=hid3 hPO hb1 hx1;clear hPO hb1 hx1;have Hn:=qz hn;clear hj0 hn hn1
 gi_wp2_with (fail)
 refine⟨trivial, ?_⟩
 gi_at_call 246
 refine(callsIn_wide.2 HC.out).mono ?_;rintro e w2 ⟨rfl,hb2⟩;have hW2:=Hb1.out.trans (hb2.mono Hb1.out.size);have hx2:=Hx1.out.below hb2 lx;have hk2:=Hk0.out.grow hJ hW2;have hn2:Bx (fun i=>K0 i\/(W.heap.size<=i/\i<w2.heap.size)) w2 (.leaf es) b:=(Hn.out.below hW2).mono fun i _ h=> .inl h;have HI0:Hid (∃K,ScK J K0 W (pre0++es.take 0) K w2/\Bx K w2 (.leaf es) b/\Aj w2 W.heap.size Tin F3/\K W.heap.size):=⟨_,by simpa using hk2,hn2,hx2,.inr ⟨Nat.le_refl _,hx2.lt⟩⟩;clear hw1 d0 lx hb2 hW2 hx2 hk2 hn2 HC Hk0 Hb1 Hx1 Hn
 gi_wp2_with (fail)
 gi_loopw [7] (fun i wr=> ∃q:Nat,i=.int .i64 q/\q<=es.length/\Hid (∃K,ScK J K0 W (pre0++es.take q) K wr/\Bx K wr (.leaf es) b/\Aj wr W.heap.size Tin F3/\K W.heap.size)) (fun i _=>es.length - (intOf i).toNat)
 case atStart=>exact⟨0,rfl,Nat.zero_le _,HI0⟩
 case round=>
  obtain⟨q,rfl,hq,hI⟩:=hrel;clear HI0;obtain⟨K,hk,hnr,hxr,hKW⟩:=hI.out;have hSz:=Kr hnr.now (by show es.length<=100;omega);have e1:E5 (.leaf es)=es.length:=rfl;rw[e1]at hSz;have HSz:=qz hSz;clear hSz
  gi_wp2_with (fail)
  refine⟨trivial, ?_⟩
  gi_at_call 106
  refine(callsIn_wide.2 HSz.out).mono ?_;rintro e w3 ⟨rfl,hb3⟩;have hk3:=hk.grow hJ hb3;have hn3:=hnr.below hb3;have hx3:=hxr.below hb3 hxr.lt;by_cases hlt:q<es.length
  . obtain⟨⟨key,v⟩,hx'⟩: ∃v,es[q]? =some v:=⟨_,List.getElem?_eq_getElem hlt⟩;have hE:=Nk hn3.now hx' hb (by omega);unfold Qv at hE;have y1:(q:Int)<(es.length:Int):=by omega
    have y0:(0:Int)<=(q:Int):=by omega
    have hdr:es.drop q=(key,v)::es.drop (q+1):=by
     rw[List.drop_eq_getElem_cons hlt];have h:=List.getElem?_eq_getElem hlt;rw[hx']at h;rw[<-Option.some.inj h]
    have hsplit:xs=(pre0++es.take q)++(key,v)::(es.drop (q+1)++rest0):=by
     have e2:es=es.take q++(key,v)::es.drop (q+1):=by rw[<-hdr,List.take_append_drop]
     rw[hx]
     conv=>lhs;rw[e2]
     simp
    have htk:(pre0++es.take q)++ [(key,v)]=pre0++es.take (q+1):=by
     rw[List.take_add_one,hx'];simp
    obtain⟨HE,Hk3,Hn3,Hx3⟩:=hid4 hE hk3 hn3 hx3;clear hE hk3 hn3 hx3;clear hdr hx' hI hk hnr hxr
    gi_wp2_with (fail)
    refine⟨trivial, ?_⟩
    gi_at_call 108
    refine(callsIn_wide.2 HE.out).mono ?_;rintro e w4 ⟨hb4,k',b',n',t',la,ln,lc,oa,on,oc,rfl,hf⟩
    gi_upto_region 5 with(fail)
    obtain⟨w5,hw5⟩: ∃w5,w4.alloc (.cells #[.string key,.int .i64 k',.bool b',.int .i64 n',.string t',.slice la ln lc,.slice oa on oc] 63)=w5:=⟨_,rfl⟩;have hb5:Below w4.heap.size w4 w5:=hw5▸Aa _ _;have hx5:Aj w5 w4.heap.size 63 #[.string key,.int .i64 k',.bool b',.int .i64 n',.string t',.slice la ln lc,.slice oa on oc]:=hw5▸Aj.new _ _ _;rw[hw5];have hb35:Below w3.heap.size w3 w5:=hb4.trans (hb5.mono hb4.size);have hi5:=Hx3.out.below hb35 Hx3.out.lt;have HEn:=qz (Rc G8 G8 key w5);have hf4:Ai (fun i=>w3.heap.size<=i) w4 (dV v) [.int .i64 k',.bool b',.int .i64 n',.string t',.slice la ln lc,.slice oa on oc]:=hf;have Hf5:=qz (hf4.below hb5);have d0:=hi5.cell 0;have d1:=hi5.cell 1;have d2:=hi5.cell 2;have ld:=hi5.lt;have e0:=hx5.cell 0;have le:=hx5.lt;have Hb35:=qz hb35;clear hb35;have Hx5:=qz hx5;clear hb4 hb5 hw5 hf hf4 hx5 hi5
    gi_wp2_with (fail)
    refine⟨trivial, ?_⟩
    gi_at_call 203
    refine(callsIn_wide.2 HEn.out).mono ?_;rintro e w6 ⟨rfl,hb6⟩;have hb36:=Hb35.out.trans (hb6.mono Hb35.out.size);have hk6:=Hk3.out.grow hJ hb36;have hn6:=Hn3.out.below hb36;have hx6:=Hx3.out.below hb36 Hx3.out.lt;have hz36:=hb36.size;have hf6:=Hf5.out.below hb6;have hz3:=hb3.size;have hYk:=hJ.yield _ (key,v) _ [.int .i64 k',.bool b',.int .i64 n',.string t',.slice la ln lc,.slice oa on oc] noT _ w6 hsplit hk6.j ⟨k',b',n',t',la,ln,lc,oa,on,oc,rfl,hf6.mono fun i hi h=>⟨.inr ⟨h,hi⟩,fun h=>h⟩⟩ (fun _ h=>h.elim) hk6.lt;rw[htk]at hYk;have hc5:=Hx5.out.below hb6 le;clear e0 d0 d1 d2 ld le;have c0:=hc5.cell 0;have c1:=hc5.cell 1;have c2:=hc5.cell 2;have c3:=hc5.cell 3;have c4:=hc5.cell 4;have c5:=hc5.cell 5;have c6:=hc5.cell 6;have lc5:=hc5.lt;have HN:Hid (∀W7,J (pre0++es.take (q+1)) noT (fun i=>(K i\/(wr.heap.size<=i/\i<w3.heap.size))\/(w3.heap.size<=i/\i<w6.heap.size)) W7->KB (fun i=> ¬((K i\/(wr.heap.size<=i/\i<w3.heap.size))\/(w3.heap.size<=i/\i<w6.heap.size))) w6 W7-> ∃K,ScK J K0 W (pre0++es.take (q+1)) K W7/\Bx K W7 (.leaf es) b/\Aj W7 W.heap.size Tin F3/\K W.heap.size):=fun W7 hj7 hkb7=>
     ⟨_,hk6.more hj7 hkb7,(hn6.mono (T:=fun i=>(K i\/(wr.heap.size<=i/\i<w3.heap.size))\/(w3.heap.size<=i/\i<w6.heap.size)) fun i _ h=> .inl (.inl h)).kb hkb7,hx6.kb hkb7 (fun h=>h (.inl (.inl hKW))),.inl (.inl hKW)⟩
    have HKB:Hid (∀W7,KB (fun i=> ¬((K i\/(wr.heap.size<=i/\i<w3.heap.size))\/(w3.heap.size<=i/\i<w6.heap.size))) w6 W7->KB (fun i=> ¬K0 i) W W7):=fun W7 hkb7=>hk6.kb.trans hkb7 fun i hi h1 h2=>h1 ((hk6.old i hi).2 h2);obtain⟨fn,tmps,assign,body,hy,hR⟩:=hYk;simp only[Abn]at hy;clear hb36 hk6 hn6 hx6 hf6 hc5 hsplit hb6 HEn Hf5 Hx5 Hk3 Hn3 Hx3 Hb35
    gi_wp2_with (fail)
    refine hR.mono ?_;rintro e W7 (⟨rfl,hJ7,hkb7⟩|⟨rfl,hX7,hkb7⟩)
    . have HN7:=qz (HN.out W7 hJ7 hkb7);clear hy hR HN hJ7 hkb7
      gi_wp2_with (fail)
      go_roundw
      case rel=>exact⟨q+1,by go_num,by omega,HN7⟩
      case measure=>simp only[intOf];omega
    . have HP:Hid (PO (.returned (.bool false)) W7):=by
       show PO _ _;rw[<-HPO.out];exact .inr ⟨rfl,hX7,HKB.out W7 hkb7⟩
      clear hy hR HN hX7 hkb7
      gi_wp2_with (fail)
      exact HP.out
  . obtain rfl:q=es.length:=by omega
    have y1: ¬(es.length:Int)<(es.length:Int):=by omega
    have HP:Hid (PO (.returned (.bool true)) w3):=by
     show PO _ _;rw[<-HPO.out];rw[List.take_length]at hk3;exact .inl ⟨rfl,_,hk3⟩
    clear hI hk hnr hxr hk3 hn3 hx3
    gi_wp2_with (fail)
    exact HP.out
attribute [local go_sem] Oper.semAt_some
theorem gd.leaf8 {es:List Bj} (h:gd (.leaf es)):es.length<=8:=by
 obtain⟨lo,h,h1,h2,h3⟩:=h
 cases h with
 |zero=>simp only[Ga]at h3;omega
 |succ h=>simp[Ga]at h3
theorem ScK.join {J:List Bj->(Nat->Prop)->(Nat->Prop)->World->Prop} {K0 K1 K2:Nat->Prop} {W A B:World} {s s':List Bj} (h:ScK J K0 W s K1 A) (h':ScK J K1 A s' K2 B):ScK J K0 W s' K2 B:=
 ⟨h'.j,h.kb.trans h'.kb fun i hi h1 h2=>h1 ((h.old i hi).2 h2),fun i hi=>(h'.old i (Nat.lt_of_lt_of_le hi h.kb.size)).trans (h.old i hi),h'.lt⟩
def T9 (nd:Nd):Prop:= ∀{n l:Nat} {xs:List Bj} {J:List Bj->(Nat->Prop)->(Nat->Prop)->World->Prop} {Jx:World->Prop},ScJ n l xs J Jx-> ∀(pre0 rest0:List Bj) (b:Nat) (K0:Nat->Prop) (W:World),xs=pre0++Cw nd++rest0->J pre0 noT K0 W->(∀i,K0 i->i<W.heap.size)->Bx K0 W nd b->gd nd->Ae (Cw nd)<=100000000->
 CallsIn Fence.wide (n+1) Tryz.prog 139 #[.pointer (some ⟨b,0,none⟩),.agg F3,.func (.yield l) #[] #[]] W (Qz J Jx K0 (pre0++Cw nd) W)
theorem Adg (es:List Bj):T9 (.leaf es):=by
 intro n l xs J Jx hJ pre0 rest0 b K0 W hx hj0 hlt0 hn hg hb;simp only[Cw]at hx hb ⊢;obtain⟨PO,hPO⟩: ∃P:Ending->World->Prop,Qz J Jx K0 (pre0++es) W=P:=⟨_,rfl⟩;rw[hPO];refine callsIn_of_wp Tryz.func139 rfl trivial ?_ rfl;simp only[Tryz.ntmps139,List.size_toArray,List.length_cons,List.length_nil,Nat.reduceAdd,Nat.reduceSub,Array.replicate_succ,Array.replicate_zero,List.push_toArray,List.append_toArray,List.nil_append,List.cons_append];obtain⟨w1,hw1⟩: ∃w1,W.alloc (.cells F3 Tin)=w1:=⟨_,rfl⟩;have hb1:Below W.heap.size W w1:=hw1▸Aa _ _;have hx1:Aj w1 W.heap.size Tin F3:=hw1▸Aj.new _ _ _;have hk0:ScK J K0 W pre0 K0 W:=⟨hj0,KB.of_below (Below.refl _ _),fun _ _=>Iff.rfl,hlt0⟩;have hk1:=hk0.grow hJ hb1;have hn1:Bx (fun i=>K0 i\/(W.heap.size<=i/\i<w1.heap.size)) w1 (.leaf es) b:=(hn.below hb1).mono fun i _ h=> .inl h;have hH:=Fc hn1.now;have HL:=qz (Qi hJ es pre0 rest0 b _ w1 hx hk1.j hk1.lt hn1 hb hg.leaf8);have e0:Rk (.leaf es)=0:=rfl;rw[e0]at hH;have d0:=hx1.cell 0;have d1:=hx1.cell 1;have d2:=hx1.cell 2;have lx:=hx1.lt;obtain⟨HPO,HH,Hk1⟩:=hid3 hPO hH hk1;clear hPO hH hk1;clear hj0 hn hn1 hk0 hx1
 gi_wp2_with (fail)
 refine⟨trivial, ?_⟩
 gi_at_call 96
 refine(callsIn_wide.2 HH.out).mono ?_;rintro e w2 ⟨rfl,rfl⟩
 gi_wp2_with (fail)
 refine⟨trivial, ?_⟩
 gi_at_call 201
 refine(callsIn_wide.2 (callsIn_wide.1 HL.out)).mono ?_;rintro e W7 (⟨rfl,K7,h7⟩|⟨rfl,h7,hkb7⟩)
 . have HP:Hid (PO (.returned (.bool true)) W7):=by
    show PO _ _;rw[<-HPO.out];exact .inl ⟨rfl,K7,Hk1.out.join h7⟩
   clear h7
   gi_wp2_with (fail)
   exact HP.out
 . have HP:Hid (PO (.returned (.bool false)) W7):=by
    show PO _ _;rw[<-HPO.out];exact .inr ⟨rfl,h7,Hk1.out.kb.trans hkb7 fun i hi h1 h2=>h1 ((Hk1.out.old i hi).2 h2)⟩
   clear h7 hkb7
   gi_wp2_with (fail)
   exact HP.out
def ScI (J:List Bj->(Nat->Prop)->(Nat->Prop)->World->Prop) (K0:Nat->Prop) (W:World) (s:List Bj) (ks:List Nd) (bs:List Nat) (g:Nat) (wr:World):Prop:= ∃K,ScK J K0 W s K wr/\Aq K wr ks bs/\Aj wr W.heap.size Tin F3/\K W.heap.size/\(∀i p,bs[i]? =some p->wr.cell? ⟨g,i,none⟩=some (.pointer (some ⟨p,0,none⟩)))/\K g/\g<wr.heap.size
theorem Aq.kb {K:Nat->Prop} {A B:World} {n:List Nd} {b:List Nat} (h:Aq K A n b) (hkb:KB (fun i=> ¬K i) A B):Aq K B n b:=h.later hkb.size fun i i1 i2=>hkb.block i i2 fun h=>h i1
theorem Aar (ks:List Nd) (IH: ∀k ∈ ks,T9 k):T9 (.inner ks):=by
 intro n l xs J Jx hJ pre0 rest0 b K0 W hx hj0 hlt0 hn hg hb;simp only[Cw]at hx hb ⊢;obtain⟨k2,k8,kg⟩:=hg.inner;obtain⟨PO,hPO⟩: ∃P:Ending->World->Prop,Qz J Jx K0 (pre0++Cg ks) W=P:=⟨_,rfl⟩;rw[hPO];refine callsIn_of_wp Tryz.func139 rfl trivial ?_ rfl;simp only[Tryz.ntmps139,List.size_toArray,List.length_cons,List.length_nil,Nat.reduceAdd,Nat.reduceSub,Array.replicate_succ,Array.replicate_zero,List.push_toArray,List.append_toArray,List.nil_append,List.cons_append];obtain⟨w1,hw1⟩: ∃w1,W.alloc (.cells F3 Tin)=w1:=⟨_,rfl⟩;have hb1:Below W.heap.size W w1:=hw1▸Aa _ _;have Hx1:Hid (Aj w1 W.heap.size Tin F3):=hw1▸Aj.new _ _ _;have hk0:ScK J K0 W pre0 K0 W:=⟨hj0,KB.of_below (Below.refl _ _),fun _ _=>Iff.rfl,hlt0⟩;have hn1:=hn.below hb1;have HH:=qz (Fc hn1.now);have HK:=qz (Kq hn1 (by omega) (by omega));have hhz:((Rk (.inner ks):Int)==0)=false:=by
  have:Rk (.inner ks)≠0:=by simp[Rk]
  exact beq_eq_false_iff_ne.2 (by omega)
 generalize Rk (.inner ks)=HT at*
 obtain⟨HPO,Hk0,Hb1⟩:=hid3 hPO hk0 hb1;clear hPO hk0 hb1;obtain⟨IHx,Kg⟩:=hid2 IH kg;clear hj0 hn hn1 IH kg
 gi_wp2_with (fail)
 refine⟨trivial, ?_⟩
 gi_at_call 96
 refine(callsIn_wide.2 HH.out).mono ?_;rintro e w2 ⟨rfl,rfl⟩
 gi_wp2_with (fail)
 refine⟨trivial, ?_⟩
 gi_at_call 93
 refine(callsIn_wide.2 HK.out).mono ?_;rintro e w3 ⟨bs,hbs,hb3,V3,rfl,hR3⟩;have hkl:=hbs.now.len;obtain⟨gk,ck,rfl,_,hgk,hgk2⟩:=hR3.ptr (by intro e;have:=congrArg List.length e;rw[Bm,List.length_nil]at this;omega);rw[Bm,hkl];have hcell: ∀i p,bs[i]? =some p->w3.cell? ⟨gk,i,none⟩=some (.pointer (some ⟨p,0,none⟩)):=by
  intro i b hi;obtain⟨g',off,e,_,cs,h1,_,h3⟩:=hR3.close.at_ (i:=i) (d:=dPt b) (by simp[Ce,hi])
  cases e
  obtain⟨rfl,_⟩:=h1;have:=h3 0 _ rfl;simpa using this
 have hW3:=Hb1.out.trans (hb3.mono Hb1.out.size);have hz1:=Hb1.out.size;have hx3:=Hx1.out.below hb3 Hx1.out.lt;have HI0:Hid (ScI J K0 W (pre0++Cg (ks.take 0)) ks bs gk w3):=⟨_,by simpa[Cg]using Hk0.out.grow hJ hW3,(hbs.below hb3).mono (T:=fun i=>K0 i\/(W.heap.size<=i/\i<w3.heap.size)) fun i _ h=> .inl h,hx3,.inr ⟨Nat.le_refl _,hx3.lt⟩,hcell,.inr ⟨by omega,hgk2⟩,hgk2⟩;clear hb3 hR3 hcell hW3 hx3 HK HH Hk0 Hb1 Hx1 hw1 hbs
 gi_wp2_with (fail)
 gi_loopw [19] (fun i wr=> ∃q:Nat,i=.int .i64 q/\q<=ks.length/\Hid (ScI J K0 W (pre0++Cg (ks.take q)) ks bs gk wr)) (fun i _=>ks.length - (intOf i).toNat)
 case atStart=>exact⟨0,rfl,Nat.zero_le _,HI0⟩
 case round=>
  obtain⟨q,rfl,hq,hI⟩:=hrel;clear HI0;obtain⟨K,hk,hnr,hxr,hKW,hc,hKg,hgl⟩:=hI.out;by_cases hlt:q<ks.length
  . obtain⟨kd,hkd⟩: ∃kd,ks[q]? =some kd:=⟨_,List.getElem?_eq_getElem hlt⟩;obtain⟨p,hp,hnp⟩:=hnr.at_ hkd;have hmem:=List.mem_of_getElem? hkd;have s0:=hc q p hp;have y1:(q:Int)<(ks.length:Int):=by omega
    have y0:(0:Int)<=(q:Int):=by omega
    have d0:=hxr.cell 0;have d1:=hxr.cell 1;have d2:=hxr.cell 2;have ld:=hxr.lt;have HLa:=qz (fun(X:World) (hX:Below wr.heap.size wr X)=>Xp (hnp.below hX).now);have HFi:=qz (fun(X:World) (hX:Below wr.heap.size wr X)=>Nm (hnp.below hX).now);have HEn:=qz (fun(X:World)=>Rc G8 G8 (Av kd) X);have Hkeep:Hid (∀X,Below wr.heap.size wr X->(X.cell? ⟨W.heap.size,0,none⟩=some (.string G8)/\X.cell? ⟨W.heap.size,1,none⟩=some (.string G8)/\X.cell? ⟨W.heap.size,2,none⟩=some (.bool true))):=fun X hX=>⟨(hxr.below hX hxr.lt).cell 0,(hxr.below hX hxr.lt).cell 1,(hxr.below hX hxr.lt).cell 2⟩;have hlk:=Tj (Dw kd);obtain⟨Hk,Hnr,Hnp,Hxr,Hc⟩:=hid5 hk hnr hnp hxr hc;clear hk hnr hnp hxr hc;clear hI
    gi_wp2_with (fail)
    gi_upto_region 6 with(fail)
    refine N6 (S:=fun Y:World=>Y.cell? ⟨W.heap.size,0,none⟩=some (.string G8)/\Y.cell? ⟨W.heap.size,1,none⟩=some (.string G8)/\Y.cell? ⟨W.heap.size,2,none⟩=some (.bool true)) (by kernel_rfl) (Hkeep.out _ (Below.drew (Below.refl _ _))) (fun hHeld=> ?_);refine tkH 0 hHeld ?_;refine tkH 2 hHeld ?_;refine tkH 3 hHeld ?_;refine Ie 1 fun KK hKK=> ?_;go_simp;(with_reducible refine(HLa.out _ (Below.drew (Below.refl _ _))).mono ?_);rintro e w4 ⟨rfl,rfl⟩;refine hKK.out _ _ (Hkeep.out _ (Below.drew (Below.refl _ _))) (fun hHeld=> ?_);clear hKK KK
    try simp only[Act.put,tk1,tk2,tk3,tk4,tk5,tk6]
    refine tkH 4 hHeld ?_;refine tkH 5 hHeld ?_;refine wpAnyH_done (by kernel_rfl) ?_ _;dsimp only[noP];clear hHeld;have hbd:Below wr.heap.size wr wr.drew:=Below.drew (Below.refl _ _);generalize wr.drew=wd at hbd ⊢;clear d0 d1 d2 s0;have hld:W.heap.size<wd.heap.size:=Nat.lt_of_lt_of_le ld hbd.size
    gi_wp2_with (fail)
    gi_upto_region 7 with(fail)
    have hbe:Below wr.heap.size wr wd.drew:=hbd.trans ((Below.drew (Below.refl _ wd)).mono hbd.size);refine N6 (S:=fun Y:World=>Y.cell? ⟨W.heap.size,0,none⟩=some (.string G8)/\Y.cell? ⟨W.heap.size,1,none⟩=some (.string G8)/\Y.cell? ⟨W.heap.size,2,none⟩=some (.bool true)) (by kernel_rfl) (Hkeep.out _ hbe) (fun hHeld=> ?_);refine tkH 0 hHeld ?_;refine tkH 1 hHeld ?_;refine Ie 2 fun KK hKK=> ?_;go_simp;(with_reducible refine(HFi.out _ hbe).mono ?_);rintro e w4 ⟨rfl,rfl⟩;refine hKK.out _ _ (Hkeep.out _ hbe) (fun hHeld=> ?_);clear hKK KK
    try simp only[Act.put,tk1,tk2,tk3,tk4,tk5,tk6]
    refine Ie 3 fun KK hKK=> ?_;go_simp;(with_reducible refine(HEn.out _).mono ?_);rintro e w5 ⟨rfl,hb5⟩;have hbf:Below wr.heap.size wr w5:=hbe.trans (hb5.mono hbe.size);refine hKK.out _ _ (Hkeep.out _ hbf) (fun hHeld=> ?_);clear hKK KK hb5
    try simp only[Act.put,tk1,tk2,tk3,tk4,tk5,tk6]
    refine tkH 4 hHeld ?_;refine wpAnyH_done (by kernel_rfl) ?_ _;dsimp only[noP];clear hHeld hbe hbd hld;have hk6:=Hk.out.grow hJ hbf;have hn6:Bx (fun i=>K i\/(wr.heap.size<=i/\i<w5.heap.size)) w5 kd p:=(Hnp.out.below hbf).mono fun i _ h=> .inl h;have hr6:Aq (fun i=>K i\/(wr.heap.size<=i/\i<w5.heap.size)) w5 ks bs:=(Hnr.out.below hbf).mono fun i _ h=> .inl h;have hx6:=Hxr.out.below hbf Hxr.out.lt;have hz6:=hbf.size;have hdr:ks.drop q=kd::ks.drop (q+1):=by
     rw[List.drop_eq_getElem_cons hlt];have h:=List.getElem?_eq_getElem hlt;rw[hkd]at h;rw[<-Option.some.inj h]
    have hfl:Cg ks=Cg (ks.take q)++(Cw kd++Cg (ks.drop (q+1))):=by
     have e2:ks=ks.take q++kd::ks.drop (q+1):=by rw[<-hdr,List.take_append_drop]
     conv=>lhs;rw[e2]
     rw[Cn];simp[Cg]
    have hsplit:xs=(pre0++Cg (ks.take q))++Cw kd++(Cg (ks.drop (q+1))++rest0):=by rw[hx,hfl];simp
    have htk:(pre0++Cg (ks.take q))++Cw kd=pre0++Cg (ks.take (q+1)):=by rw[List.take_add_one,hkd,Option.toList_some,Cn,Nc,List.append_assoc]
    have hbk:Ae (Cw kd)<=100000000:=by
     rw[hfl,C5,C5]at hb;omega
    have hW:=IHx.out kd hmem hJ (pre0++Cg (ks.take q)) _ p _ w5 hsplit hk6.j hk6.lt hn6 (Kg.out kd hmem) hbk;rw[htk]at hW;have d0:=hx6.cell 0;have d1:=hx6.cell 1;have d2:=hx6.cell 2;have ld6:=hx6.lt;have HN:Hid (∀K7 W7,ScK J (fun i=>K i\/(wr.heap.size<=i/\i<w5.heap.size)) w5 (pre0++Cg (ks.take (q+1))) K7 W7->ScI J K0 W (pre0++Cg (ks.take (q+1))) ks bs gk W7):=fun K7 W7 h7=>
     have up: ∀i,(K i\/(wr.heap.size<=i/\i<w5.heap.size))->K7 i:=fun i hi=>(h7.old i (hk6.lt i hi)).2 hi
     ⟨K7,hk6.join h7,(hr6.kb h7.kb).mono fun i _ h=>up i h,hx6.kb h7.kb (fun h=>h (.inl hKW)),up _ (.inl hKW),fun i u hu=>(World.cell?_of_block (h7.kb.block gk (Nat.lt_of_lt_of_le hgl hz6) (fun h=>h (.inl hKg)))).trans ((hbf.cell (p:=⟨gk,i,none⟩) hgl).trans (Hc.out i u hu)),up _ (.inl hKg),Nat.lt_of_lt_of_le (Nat.lt_of_lt_of_le hgl hz6) h7.kb.size⟩
    have HKB:Hid (∀W7,KB (fun i=> ¬(K i\/(wr.heap.size<=i/\i<w5.heap.size))) w5 W7->KB (fun i=> ¬K0 i) W W7):=fun W7 hkb7=>hk6.kb.trans hkb7 fun i hi h1 h2=>h1 ((hk6.old i hi).2 h2);have HW:=qz hW;clear hW;clear hk6 hn6 hr6 hx6 hdr hfl hsplit htk hbk hbf Hk Hnr Hnp Hxr Hc HLa HFi HEn Hkeep
    gi_wp2_with (fail)
    refine⟨trivial, ?_⟩
    gi_at_call 139
    refine(callsIn_wide.2 (callsIn_wide.1 HW.out)).mono ?_;rintro e W7 (⟨rfl,K7,h7⟩|⟨rfl,h7,hkb7⟩)
    . have HN7:=qz (HN.out K7 W7 h7);clear h7 HN HW
      gi_wp2_with (fail)
      go_roundw
      case rel=>exact⟨q+1,by go_num,by omega,HN7⟩
      case measure=>simp only[intOf];omega
    . have HP:Hid (PO (.returned (.bool false)) W7):=by
       show PO _ _;rw[<-HPO.out];exact .inr ⟨rfl,h7,HKB.out W7 hkb7⟩
      clear h7 hkb7 HN HW
      gi_wp2_with (fail)
      exact HP.out
  . obtain rfl:q=ks.length:=by omega
    have y1: ¬(ks.length:Int)<(ks.length:Int):=by omega
    have HP:Hid (PO (.returned (.bool true)) wr):=by
     show PO _ _;rw[<-HPO.out];rw[List.take_length]at hk;exact .inl ⟨rfl,_,hk⟩
    clear hI hk hnr hxr hKW hc hKg hgl
    gi_wp2_with (fail)
    exact HP.out
theorem Yl (nd:Nd):T9 nd:=Nd.ind Adg Aar nd
attribute [local go_sem] Oper.semAt_some
theorem Tm (w:World):Calls Tryz.prog 106 #[.pointer none] w fun e w'=>e=.returned (.int .i64 0)/\w=w':=by
 go_enter Tryz.func106,Tryz.ntmps106;go_wp2;go_ret;exact⟨rfl,rfl⟩
theorem Abt (w:World):Calls Tryz.prog 246 #[.pointer none,.string G8] w fun e w'=>e=.returned (.int .i64 0)/\Below w.heap.size w w':=by
 obtain⟨PO,hPO⟩: ∃P:Ending->World->Prop,(fun e w'=>e=.returned (.int .i64 0)/\Below w.heap.size w w')=P:=⟨_,rfl⟩;rw[hPO];obtain⟨w2,hw2⟩: ∃w2,(w.alloc (.cells #[.pointer none] 24)).alloc (.cells #[.string G8] 9)=w2:=⟨_,rfl⟩;have Hb2:Hid (Below w.heap.size w w2):=hw2▸(Aa w _).alloc (by simp) _;have hx2:Aj w2 w.heap.size 24 #[.pointer none]:=hw2▸(Aj.new _ _ _).alloc _;have hSz:=Tm w2;have hS:=Pt (.pointer (some ⟨w.heap.size,0,none⟩)) (.pointer (some ⟨w.heap.size+1,0,none⟩)) 0 w2 (by omega) (fun X hX i hi=>absurd hi (Nat.not_lt_zero _));rw[show((0:Nat):Int)=0 from rfl]at hS;have d1:=hx2.cell 0;have l1:=hx2.lt;obtain⟨HPO,HSz,HS⟩:=hid3 hPO hSz hS;clear hPO hSz hS;clear hx2;go_enter Tryz.func246,Tryz.ntmps246;go_wp2_with (fail);(with_reducible refine(HSz.out).mono ?_);rintro e w3 ⟨rfl,rfl⟩;go_wp2_with (fail);(with_reducible refine(HS.out).mono ?_);rintro e w4 ⟨rfl,hb4⟩;have HP:Hid (PO (.returned (.int .i64 0)) w4):=by
  show PO _ _;rw[<-HPO.out];exact⟨rfl,Hb2.out.trans (hb4.mono Hb2.out.size)⟩
 clear hb4 hw2;go_wp2;exact HP.out
theorem Vt (l:Nat) (w:World):Calls Tryz.prog 201 #[.pointer none,.agg F3,.func (.yield l) #[] #[]] w fun e w'=>e=.returned (.bool true)/\Below w.heap.size w w':=by
 obtain⟨PO,hPO⟩: ∃P:Ending->World->Prop,(fun e w'=>e=.returned (.bool true)/\Below w.heap.size w w')=P:=⟨_,rfl⟩;rw[hPO];obtain⟨w1,hw1⟩: ∃w1,w.alloc (.cells F3 Tin)=w1:=⟨_,rfl⟩;have Hb1:Hid (Below w.heap.size w w1):=hw1▸Aa _ _;have hx1:Aj w1 w.heap.size Tin F3:=hw1▸Aj.new _ _ _;have HB:=qz (Abt w1);have HZ:=qz (fun X=>Tm X);have d0:=hx1.cell 0;have l0:=hx1.lt;have HPO:=qz hPO;clear hPO;clear hx1;go_enter Tryz.func201,Tryz.ntmps201;go_wp2_with (fail);(with_reducible refine(HB.out).mono ?_);rintro e w2 ⟨rfl,hb2⟩;have HP:Hid (PO (.returned (.bool true)) w2):=by
  show PO _ _;rw[<-HPO.out];exact⟨rfl,Hb1.out.trans (hb2.mono Hb1.out.size)⟩
 clear hb2 hw1;go_wp2_with (fail);go_loopw [7] (fun i wr=>i=.int .i64 0/\wr=w2) (fun _ _=>0)
 case atStart=>exact⟨rfl,rfl⟩
 case round=>
  obtain⟨rfl,rfl⟩:=hrel;go_wp2_with (fail);(with_reducible refine(HZ.out _).mono ?_);rintro e w3 ⟨rfl,rfl⟩;go_wp2;exact HP.out
theorem Afi (l:Nat) (w:World):Calls Tryz.prog 139 #[.pointer none,.agg F3,.func (.yield l) #[] #[]] w fun e w'=>e=.returned (.bool true)/\Below w.heap.size w w':=by
 obtain⟨PO,hPO⟩: ∃P:Ending->World->Prop,(fun e w'=>e=.returned (.bool true)/\Below w.heap.size w w')=P:=⟨_,rfl⟩;rw[hPO];obtain⟨w1,hw1⟩: ∃w1,w.alloc (.cells F3 Tin)=w1:=⟨_,rfl⟩;have Hb1:Hid (Below w.heap.size w w1):=hw1▸Aa _ _;have hx1:Aj w1 w.heap.size Tin F3:=hw1▸Aj.new _ _ _;have HH:=qz (Pg w1);have HL:=qz (Vt l w1);have d0:=hx1.cell 0;have d1:=hx1.cell 1;have d2:=hx1.cell 2;have l0:=hx1.lt;have HPO:=qz hPO;clear hPO;clear hx1;go_enter Tryz.func139,Tryz.ntmps139;go_wp2_with (fail);(with_reducible refine(HH.out).mono ?_);rintro e w2 ⟨rfl,rfl⟩;go_wp2_with (fail);(with_reducible refine(HL.out).mono ?_);rintro e w2 ⟨rfl,hb2⟩;have HP:Hid (PO (.returned (.bool true)) w2):=by
  show PO _ _;rw[<-HPO.out];exact⟨rfl,Hb1.out.trans (hb2.mono Hb1.out.size)⟩
 clear hb2 hw1;go_wp2;exact HP.out
structure ScN (K0:Nat->Prop) (t:Option (Nat×Nd)) (r:Option Addr) (b1 b2 b3 b4:Nat) (A:World):Prop where
 c1:A.cell? ⟨b1,0,none⟩=some (.pointer r)
 c2:A.cell? ⟨b2,0,none⟩=some (.string G8)
 c3:A.cell? ⟨b3,0,none⟩=some (.string G8)
 c4:A.cell? ⟨b4,0,none⟩=some (.bool true)
 k:K0 b1/\K0 b2/\K0 b3/\K0 b4
 tr:Il K0 A t r
 lt: ∀i,K0 i->i<A.heap.size
theorem Ye (K0:Nat->Prop) (t:Option (Nat×Nd)) (r:Option Addr) (b1 b2 b3 b4:Nat) (ok:Sc t) (hb:Ae (Db t)<=100000000):
 Aa2 Tryz.prog 138 #[.pointer (some ⟨b1,0,none⟩),.pointer (some ⟨b2,0,none⟩),.pointer (some ⟨b3,0,none⟩),.pointer (some ⟨b4,0,none⟩)] Abn ScE K0 (Db t) (ScN K0 t r b1 b2 b3 b4):=by
 intro n l J Jx W hJn hY hXn hN h0;have hJ:ScJ n l (Db t) J Jx:=⟨hJn,hY,hXn⟩;obtain⟨PO,hPO⟩: ∃P:Ending->World->Prop,(fun e B=>(∃v,e=.returned v)/\((∃T K,J (Db t) T K B)\/Jx B))=P:=⟨_,rfl⟩;rw[hPO];refine callsIn_wide.2 ?_;have HR:=qz (fun X=>Aad r X);have hlt: ∀i,K0 i->i<W.heap.size:=hN.lt;have hkeep: ∀X,KB (fun i=> ¬K0 i) W X->(X.cell? ⟨b1,0,none⟩=some (.pointer r)/\X.cell? ⟨b2,0,none⟩=some (.string G8)/\X.cell? ⟨b3,0,none⟩=some (.string G8)/\X.cell? ⟨b4,0,none⟩=some (.bool true)):=fun X hX=>
  ⟨(World.cell?_of_block (hX.block b1 (hlt _ hN.k.1) fun h=>h hN.k.1)).trans hN.c1,(World.cell?_of_block (hX.block b2 (hlt _ hN.k.2.1) fun h=>h hN.k.2.1)).trans hN.c2,(World.cell?_of_block (hX.block b3 (hlt _ hN.k.2.2.1) fun h=>h hN.k.2.2.1)).trans hN.c3,(World.cell?_of_block (hX.block b4 (hlt _ hN.k.2.2.2) fun h=>h hN.k.2.2.2)).trans hN.c4⟩
 have hk0:ScK J K0 W [] K0 W:=⟨h0,KB.of_below (Below.refl _ _),fun _ _=>Iff.rfl,hlt⟩;have hW: ∀X,Below W.heap.size W X->Calls Tryz.prog 139 #[.pointer r,.agg F3,.func (.yield l) #[] #[]] X fun e B=>(∃v,e=.returned (.bool v))/\PO (.returned (.tuple #[])) B/\KB (fun i=> ¬K0 i) W B:=fun X hX=>by
  have hkX:=hk0.grow hJ hX;have fin: ∀s K B,s=Db t->ScK J K0 W s K B->PO (.returned (.tuple #[])) B/\KB (fun i=> ¬K0 i) W B:=fun s K B e h=>by
   subst e;rw[<-hPO];exact⟨⟨⟨_,rfl⟩,.inl ⟨_,_,h.j⟩⟩,h.kb⟩
  cases t with
  |none=>
   obtain rfl:r=none:=hN.tr;refine(Afi l X).mono ?_;rintro e B ⟨rfl,hb⟩;exact⟨⟨_,rfl⟩,fin [] _ B rfl (hkX.grow hJ hb)⟩
  |some t=>
   obtain⟨h,nd⟩:=t;obtain⟨b,rfl,hn⟩:=hN.tr;obtain⟨q1,q2,q3⟩:=Hz h;refine(callsIn_wide.1 (Yl nd hJ [] [] b _ X (by simp[Db]) hkX.j hkX.lt ((hn.below hX).mono fun i _ h=> .inl h) ⟨I4 h,h,q2,q3,ok.1⟩ hb)).mono ?_;rintro e B (⟨rfl,K7,h7⟩|⟨rfl,h7,hkb⟩)
   . exact⟨⟨_,rfl⟩,fin _ _ B (by simp[Db]) (hkX.join h7)⟩
   . rw[<-hPO];exact⟨⟨_,rfl⟩,⟨⟨_,rfl⟩,.inr h7⟩,hkX.kb.trans hkb fun i hi h1 h2=>h1 ((hkX.old i hi).2 h2)⟩
 obtain⟨Hkeep,HW⟩:=hid2 hkeep hW;clear hkeep hW;clear hN h0 hPO hJn hY hXn hJ hk0 hlt;go_enter Tryz.func138,Tryz.ntmps138;go_upto_region 0 with(fail);have hbd:Below W.heap.size W W.drew:=Below.drew (Below.refl _ _);refine wp_region_held_drew (S:=fun X:World=>X.cell? ⟨b1,0,none⟩=some (.pointer r)/\X.cell? ⟨b2,0,none⟩=some (.string G8)/\X.cell? ⟨b3,0,none⟩=some (.string G8)/\X.cell? ⟨b4,0,none⟩=some (.bool true)) (by kernel_rfl) (Hkeep.out _ (KB.of_below hbd)) (fun hHeld=> ?_);refine tkH 0 hHeld ?_;refine tkH 2 hHeld ?_;refine tkH 3 hHeld ?_;refine tkH 4 hHeld ?_;refine tkH 5 hHeld ?_;refine tkH 6 hHeld ?_;refine Ie 1 fun K hK=> ?_;go_simp;(with_reducible refine(HR.out _).mono ?_);rintro e w4 ⟨rfl,hb4⟩;have hw4:=hbd.trans (hb4.mono hbd.size);refine hK.out _ _ (Hkeep.out _ (KB.of_below hw4)) (fun hHeld=> ?_);clear hK K hb4
 try simp only[Act.put,tk1,tk2,tk3,tk4,tk5,tk6]
 refine Ie 7 fun K hK=> ?_;go_simp;(with_reducible refine(HW.out _ hw4).mono ?_);rintro e w5 ⟨⟨v,rfl⟩,hP,hkb⟩;have HP:=qz hP;clear hP;refine hK.out _ _ (Hkeep.out _ hkb) (fun hHeld=> ?_);clear hK K hkb
 try simp only[Act.put,tk1,tk2,tk3,tk4,tk5,tk6]
 refine wpAnyH_done (by kernel_rfl) ?_ _;clear hHeld;go_wp2;exact bodyPost_end (Rw rfl) rfl HP.out
def Q3 (r:Option Addr) (w:World):World:=(((w.alloc (.cells #[.pointer r] 26)).alloc (.cells #[.string G8] 9)).alloc (.cells #[.string G8] 9)).alloc (.cells #[.bool true] 4)
theorem Za (r:Option Addr) (w:World):Below w.heap.size w (Q3 r w)/\(Q3 r w).cell? ⟨w.heap.size,0,none⟩=some (.pointer r)/\(Q3 r w).cell? ⟨w.heap.size+1,0,none⟩=some (.string G8)/\(Q3 r w).cell? ⟨w.heap.size+1+1,0,none⟩=some (.string G8)/\(Q3 r w).cell? ⟨w.heap.size+1+1+1,0,none⟩=some (.bool true)/\(Q3 r w).heap.size=w.heap.size+4:=by
 have x1:=Aj.new w 26 #[.pointer r];have x2:=Aj.nxt w (.cells #[.pointer r] 26) 9 #[.string G8];have x3:=Aj.nxt (w.alloc (.cells #[.pointer r] 26)) (.cells #[.string G8] 9) 9 #[.string G8];have x4:=Aj.nxt ((w.alloc (.cells #[.pointer r] 26)).alloc (.cells #[.string G8] 9)) (.cells #[.string G8] 9) 4 #[.bool true];rw[World.size_alloc]at x3;rw[World.size_alloc,World.size_alloc]at x4;refine⟨(((Aa w _).alloc (by simp) _).alloc (by simp;omega) _).alloc (by simp;omega) _,(((x1.alloc _).alloc _).alloc _).cell 0,((x2.alloc _).alloc _).cell 0,(x3.alloc _).cell 0,x4.cell 0, ?_⟩;simp[Q3]
theorem X2 (r:Option Addr) (w:World):Calls Tryz.prog 80 #[.agg #[.pointer r],.string G8,.string G8,.bool true] w fun e w'=>e=.returned (.func (.func 138) #[] #[.pointer (some ⟨w.heap.size,0,none⟩),.pointer (some ⟨w.heap.size+1,0,none⟩),.pointer (some ⟨w.heap.size+1+1,0,none⟩),.pointer (some ⟨w.heap.size+1+1+1,0,none⟩)])/\Q3 r w=w':=by
 unfold Q3;go_enter Tryz.func80,Tryz.ntmps80;go_wp2;go_ret;exact⟨rfl,rfl⟩
def Aaw (r:Option Addr) (w:World) (e:Ending) (w':World):Prop:=Below w.heap.size w w'/\ ∃b1 b2 b3 b4,e=.returned (.func (.func 138) #[] #[.pointer (some ⟨b1,0,none⟩),.pointer (some ⟨b2,0,none⟩),.pointer (some ⟨b3,0,none⟩),.pointer (some ⟨b4,0,none⟩)])/\(w'.cell? ⟨b1,0,none⟩=some (.pointer r)/\w'.cell? ⟨b2,0,none⟩=some (.string G8)/\w'.cell? ⟨b3,0,none⟩=some (.string G8)/\w'.cell? ⟨b4,0,none⟩=some (.bool true))/\(w.heap.size<=b1/\w.heap.size<=b2/\w.heap.size<=b3/\w.heap.size<=b4)/\(b1<w'.heap.size/\b2<w'.heap.size/\b3<w'.heap.size/\b4<w'.heap.size)
theorem Abq (r:Option Addr) (w:World):Calls Tryz.prog 45 #[.agg #[.pointer r]] w (Aaw r w):=by
 obtain⟨PO,hPO⟩: ∃P:Ending->World->Prop,Aaw r w=P:=⟨_,rfl⟩;rw[hPO];obtain⟨w1,hw1⟩: ∃w1,w.alloc (.cells #[.pointer r] 26)=w1:=⟨_,rfl⟩;have hb1:Below w.heap.size w w1:=hw1▸Aa _ _;have hx1:Aj w1 w.heap.size 26 #[.pointer r]:=hw1▸Aj.new _ _ _;have HR:=qz (X2 r w1);have d0:=hx1.cell 0;have l0:=hx1.lt;have hz:=hb1.size;obtain⟨HPO,Hb1⟩:=hid2 hPO hb1;clear hPO hb1;clear hx1;go_enter Tryz.func45,Tryz.ntmps45;go_wp2_with (fail);(with_reducible refine(HR.out).mono ?_);rintro e w2 ⟨rfl,rfl⟩;obtain⟨f1,f2,f3,f4,f5,f6⟩:=Za r w1;have HP:Hid (PO (.returned (.func (.func 138) #[] #[.pointer (some ⟨w1.heap.size,0,none⟩),.pointer (some ⟨w1.heap.size+1,0,none⟩),.pointer (some ⟨w1.heap.size+1+1,0,none⟩),.pointer (some ⟨w1.heap.size+1+1+1,0,none⟩)])) (Q3 r w1)):=by
  show PO _ _;rw[<-HPO.out];exact⟨Hb1.out.trans (f1.mono hz),_,_,_,_,rfl,⟨f2,f3,f4,f5⟩,⟨by omega,by omega,by omega,by omega⟩,⟨by omega,by omega,by omega,by omega⟩⟩
 clear f1 f2 f3 f4 f5 f6 hw1;generalize Q3 r w1=w2 at*
 go_wp2;exact HP.out
end Go.Proofs.YtkmcjfkokoidcaaGreatDoor
