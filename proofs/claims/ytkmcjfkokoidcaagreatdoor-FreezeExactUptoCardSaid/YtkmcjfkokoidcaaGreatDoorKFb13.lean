/- Parts: What writes a value's text: the plain kinds. Condition: a bulk of at most 10^9. -/
import Derived.Lib.ItoaLen
import Derived.Test.YtkmcjfkokoidcaaGreatDoorKFb9
set_option maxHeartbeats 20000000
set_option maxRecDepth 100000
namespace Go.Proofs.YtkmcjfkokoidcaaGreatDoor
open Go.RowKit
attribute [local go_sem] Oper.semAt_some
def QI (w:World) (g lb d:Nat) (pre:List (Nat×Nat)) (W:World):Prop:=
 Below w.heap.size w W/\BB W w.heap.size g (34::Ap pre)/\ ∃m,Aax W lb d m
theorem Vx (s:ByteArray) (w:World) (hT:B3 w) (hs:s.size<=1000000000) (hv:A8 s=true):
 Calls Tryz.prog 196 #[.string s] w fun e w'=>e=.returned (.tuple #[.string ⟨(34::Ap (Cf s)++ [34]).toArray⟩,.int .i64 0])/\Below w.heap.size w w':=by
 refine(callsIn_wide (n:=12)).1 ?_;refine callsIn_of_wp_marks Tryz.func196 rfl trivial ?_ rfl;simp only[Tryz.ntmps196,List.size_toArray,List.length_cons,List.length_nil,Nat.reduceAdd,Nat.reduceSub,Array.replicate_succ,Array.replicate_zero,List.push_toArray,List.append_toArray,List.nil_append,List.cons_append]
 gi_wp2_with (refine⟨trivial, ?_⟩;gi_at_call 159;refine(callsIn_wide.2 (Bw hv _ (by omega) hT)).mono ?_;rintro e w1 ⟨rfl,hb1⟩)
 have hz1:=hb1.size;have hB1:BB ((w1.alloc (.cells #[.map none] 296)).alloc (.cells #[.pointer none,.slice none 0 0] 133)) w.heap.size (w1.heap.size+1) []:=
  ⟨_,_,by omega,by rw[<-World.size_alloc w1 (.cells #[.map none] 296)];exact heap_alloc_new _ _,by decide,by simp,.inl rfl,.slice none 0 0,rfl,World.ownsRow_nil _ _ _ _⟩
 have hL1:((w1.alloc (.cells #[.map none] 296)).alloc (.cells #[.pointer none,.slice none 0 0] 133)).heap[w1.heap.size]? =some (.cells #[.map none] 296 (0,0)):=
  (Below.heap_alloc _ _ _ (by simp)).trans (heap_alloc_new _ _)
 have hbx:Below w.heap.size w ((w1.alloc (.cells #[.map none] 296)).alloc (.cells #[.pointer none,.slice none 0 0] 133)):=(hb1.alloc hz1 _).alloc (by simp;omega) _
 gi_wp2_with (first|(refine⟨trivial, ?_⟩;gi_at_call 241;refine(callsIn_wide.2 (Fx 34 (by omega) (by omega) hB1 (by simp))).mono ?_;rintro e w2 ⟨rfl,hB2,hb2,hk2⟩)|(refine⟨trivial, ?_⟩;gi_at_call 242;refine(callsIn_wide.2 (O2 _ _)).mono ?_;rintro e w3 ⟨rfl,rfl⟩))
 have hz2:=hb2.size;simp only[World.size_alloc]at hz2;have hL2:w2.heap[w1.heap.size]? =some (.cells #[.map none] 296 (0,0)):=hk2 _ _ hL1 (by simp) (fun c fz e=>by cases e);have hbw2:Below w.heap.size w w2:=hbx.trans hb2;clear hB1 hL1 hb1 hk2 hb2 hbx;have hnew:=heap_alloc_new w2 (.cells #[.string s] 9);have hT3:B3 (w2.alloc (.cells #[.string s] 9)):=hT.below (hbw2.alloc (by omega) _);have hyld:=Vj s w2.heap.size hs;have hB3:BB (w2.alloc (.cells #[.string s] 9)) w.heap.size (w1.heap.size+1) (34::Ap []):=hB2.below ((Below.refl _ _).alloc (Nat.le_refl _) _);have hL3:=(Below.heap_alloc w2 (.cells #[.string s] 9) w1.heap.size (by omega)).trans hL2;have hbw3:Below w.heap.size w (w2.alloc (.cells #[.string s] 9)):=hbw2.alloc (by omega) _;have hz3:w2.heap.size+1=(w2.alloc (.cells #[.string s] 9)).heap.size:=by simp
 generalize w2.alloc (.cells #[.string s] 9)=w3 at*
 refine Vu (n:=10) (gf:=282) (lb:= #[.pointer (some ⟨w2.heap.size,0,none⟩)]) rfl (enters_of Tryz.func282 (by kernel_rfl) rfl) hyld (fun _=>rfl)
  (fun pre W=>QI w (w1.heap.size+1) w1.heap.size w3.heap.size pre W/\W.heap[w2.heap.size]? =some (.cells #[.string s] 9 (0,0))) ?hIn ?hIp ?hIb ?h0 ?a1 ?assign ?body ?done
 case assign=>
  intro l x W K hK
  gi_wp2
  exact hK
 case h0=>exact⟨⟨hbw3,hB3,none,hL3,fun _ h=>by cases h⟩,hnew⟩
 case hIb=>
  rintro pre A ⟨⟨h1,h2,h3⟩,h4⟩;exact⟨(Lib.cell_of_heap h4 0).trans rfl,hT.below h1⟩
 case hIn=>
  rintro pre A B ⟨⟨h1,h2,m,h3,h5⟩,h4⟩ hb;refine⟨⟨h1.trans (hb.mono h1.size),h2.below hb,m,(hb.block _ (Array.getElem?_eq_some_iff.1 h3).1).trans h3,fun mb e=>⟨(h5 mb e).1,(hb.block _ (Array.getElem?_eq_some_iff.1 (h5 mb e).2).1).trans (h5 mb e).2⟩⟩,(hb.block _ (Array.getElem?_eq_some_iff.1 h4).1).trans h4⟩
 case hIp=>
  rintro pre A k o o' ⟨⟨h1,h2,m,h3,h5⟩,h4⟩ ho hc hk;have hkw:w.heap.size<=k:=by omega
  have hk1:k<A.heap.size:=(Array.getElem?_eq_some_iff.1 ho).1;refine⟨⟨h1.grown (grownBy_putObj' A k o') (by omega) (fun j e=>by cases e;exact hkw),h2.put ho hc,m, ?_,fun mb e=>⟨(h5 mb e).1, ?_⟩⟩, ?_⟩
  . rw[World.putObj_heap_other (by omega)];exact h3
  . have:=(h5 mb e).1;rw[World.putObj_heap_other (by omega)];exact(h5 mb e).2
  . rw[World.putObj_heap_other (by omega)];exact h4
 case body=>
  rintro l pre x rest W hx ⟨⟨h1,h2,m,h3,h5⟩,h4⟩ ⟨ds,hds⟩ ⟨rc,hrc⟩;have hlen:(Ap pre).length<=6000000000:=by
   have e1:=F4 pre;have e2:=congrArg List.length hx;have e3:=Fd s.size s.data.toList 0;simp only[List.length_append,List.length_cons]at e2;unfold Cf at e2;omega
  have hr:x.2<=1114111:=Ns s.size s.data.toList 0 x (by show x ∈ Cf s;rw[hx];simp);have hsn:Ap (pre++ [x])=Ap pre++B6 x.2:=by simp[Ap]
  obtain⟨p,r⟩:=x;simp only at hr hsn;have hz:=h1.size;have hDm:w3.heap.size+1<W.heap.size:=(Array.getElem?_eq_some_iff.1 hrc).1;have hdt:w1.heap.size+1<w3.heap.size:=by omega
  have hsb:w2.heap.size<w3.heap.size:=by omega
  have hsa:w1.heap.size+1<w2.heap.size:=by omega
  have fin: ∀(a:Act) (X:World) (bs:List UInt8),BB X w.heap.size (w1.heap.size+1) bs->bs=34::Ap (pre++ [(p,r)])->Below w.heap.size w X->(∃m,Aax X w1.heap.size w3.heap.size m)->
   X.heap[w3.heap.size]? =some (.deferred ds)->X.heap[w3.heap.size+1]? =some (.loop rc)->X.heap[w2.heap.size]? =some (.cells #[.string s] 9 (0,0))->
   Zl (fun X=>QI w (w1.heap.size+1) w1.heap.size w3.heap.size (pre++ [(p,r)]) X/\X.heap[w2.heap.size]? =some (.cells #[.string s] 9 (0,0))) w3.heap.size W .normal a X:=by
   intro a X bs hb e hbw hl hd hr2 hbox;subst e;exact⟨hd.trans hds.symm,hr2.trans hrc.symm,⟨hbw,hb,hl⟩,hbox⟩
  have Fin:=qz fin;clear fin;by_cases hst:32<=r/\r≠34/\r≠92
  . have hq:B6 r=Lib.encodeRune r:=by unfold B6;rw[if_pos hst]
    have hB:decide (32<=(r:Int)/\(r:Int)≠34/\(r:Int)≠92)=true:=by simp;omega
    have Hq:Hid ((34::Ap pre)++Lib.encodeRune r=34::Ap (pre++ [(p,r)])):=by
     show _=_;rw[hsn,hq];rfl
    clear hsn hq hst hx
    gi_wp2_with (first|(refine⟨trivial, ?_⟩;gi_at_call 243;refine(CallsIn.inRound l (callsIn_wide.2 (Cq hB _))).mono ?_;rintro e wx ⟨rfl,rfl⟩)|(refine⟨trivial, ?_⟩;gi_at_call 244;refine(CallsIn.inRound l (callsIn_wide.2 (G6 (r:Int) (by omega) (by omega) h2 (by simp;omega)))).mono ?_;rintro e w4 ⟨⟨kk,rfl⟩,hB4,hb4,hk4⟩))
    exact Fin.out _ _ _ hB4 Hq.out (h1.trans hb4) ⟨m,hk4 _ _ h3 (by simp) (fun c fz e=>by cases e),fun mb e=>⟨(h5 mb e).1,hk4 _ _ (h5 mb e).2 (by have:=(h5 mb e).1;simp;omega) (fun c fz e=>by cases e)⟩⟩
     (hk4 _ _ hds (by simp;omega) (fun c fz e=>by cases e)) (hk4 _ _ hrc (by simp;omega) (fun c fz e=>by cases e)) (hk4 _ _ h4 (by simp;omega) (fun c fz e=>by cases e))
  . have hB:decide (32<=(r:Int)/\(r:Int)≠34/\(r:Int)≠92)=false:=by simp;omega
    have hnil:=fun(wx:World) (m0:Option Nat)=>run_eql_map_nil (P:=Tryz.prog) wx 296 _ _ m0 Tryz.underlying296;rcases m with _|mb
    ·
     obtain⟨X,hX⟩: ∃X,(W.setCell ⟨w1.heap.size,0,none⟩ (.map (some W.heap.size))).alloc (.map (Gv Bk 0).toArray Bk.length)=X:=⟨_,rfl⟩;have hsz:(W.setCell ⟨w1.heap.size,0,none⟩ (.map (some W.heap.size))).heap.size=W.heap.size:=by simp[World.setCell]
     have hXk: ∀k,k≠w1.heap.size->k<W.heap.size->X.heap[k]? =W.heap[k]? :=fun k hk hk'=>by
      rw[<-hX,Below.heap_alloc _ _ _ (by omega),Below.heap_setCell _ _ _ _ hk]
     have hXB:BB X w.heap.size (w1.heap.size+1) (34::Ap pre):=by
      rw[<-hX];exact(h2.store h3 (by decide) (by omega) 0 _).below ((Below.refl _ _).alloc (Nat.le_refl _) _)
     have hXw:Below w.heap.size w X:=by
      rw[<-hX];exact(h1.setCell (p:=⟨w1.heap.size,0,none⟩) hz1 _).alloc (by omega) _
     have hXl:X.heap[w1.heap.size]? =some (.cells #[.map (some W.heap.size)] 296 (0,0)):=by
      rw[<-hX,Below.heap_alloc _ _ _ (by omega)];exact Cc h3 _
     have hXm:X.heap[W.heap.size]? =some (.map (Gv Bk 0).toArray Bk.length):=by
      rw[<-hX];have:=heap_alloc_new (W.setCell ⟨w1.heap.size,0,none⟩ (.map (some W.heap.size))) (.map (Gv Bk 0).toArray Bk.length)
      rwa [hsz]at this
     have hXd:=(hXk _ (by omega) (by omega)).trans hds;have hXr:=(hXk _ (by omega) (by omega)).trans hrc;have hX4:=(hXk _ (by omega) (by omega)).trans h4;have c3:W.cell? ⟨w1.heap.size,0,none⟩=some (.map none):=(Lib.cell_of_heap h3 0).trans rfl;have f3:W.frozen? ⟨w1.heap.size,0,none⟩=false:=Lib.frozen_of_heap h3 0;have hlb:w1.heap.size<W.heap.size:=by omega
     have hlk:=R4 X W.heap.size Bk r hXm;have hmb:w3.heap.size+1<W.heap.size:=hDm;subst hX
     cases hf:Dc (r:Int) Bk with
     |some c=>
      rw[hf]at hlk;simp only[Option.getD_some,Option.isSome_some]at hlk;have hc:=Ly hf;have hc0:=hc.1;have hc1:=hc.2;have hq:B6 r= [92,UInt8.ofNat c.toNat]:=by unfold B6;rw[if_neg hst,hf]
      have Hq:Hid (((34::Ap pre)++ [UInt8.ofNat (Int.toNat 92)])++Lib.encodeRune c=34::Ap (pre++ [(p,r)])):=by
       show _=_;rw[hsn,hq,Na (by omega) hc1];simp
      clear hsn hq hst hx hf hc h5 h2
      gi_wp2_with (first|(refine⟨trivial, ?_⟩;gi_at_call 243;refine(CallsIn.inRound l (callsIn_wide.2 (Cq hB _))).mono ?_;rintro e wx ⟨rfl,rfl⟩)|(refine⟨trivial, ?_⟩;gi_at_call 245;refine(CallsIn.inRound l (callsIn_wide.2 (Kp _))).mono ?_;rintro e wx ⟨rfl,rfl⟩)|(refine⟨trivial, ?_⟩;gi_at_call 241;refine(CallsIn.inRound l (callsIn_wide.2 (Fx 92 (by omega) (by omega) hXB (by simp;omega)))).mono ?_;rintro e w4 ⟨rfl,hB4,hb4,hk4⟩)|(refine⟨trivial, ?_⟩;gi_at_call 244;refine(CallsIn.inRound l (callsIn_wide.2 (G6 c (by omega) (by omega) hB4 (by simp;omega)))).mono ?_;rintro e w5 ⟨⟨kk,rfl⟩,hB5,hb5,hk5⟩))
      have hkk:=hk4.trans hk5;exact Fin.out _ _ _ hB5 Hq.out ((hXw.trans hb4).trans hb5) ⟨some W.heap.size,hkk _ _ hXl (by simp) (fun c fz e=>by cases e),fun m' e=>by cases e;exact⟨hmb,hkk _ _ hXm (by simp;omega) (fun c fz e=>by cases e)⟩⟩
       (hkk _ _ hXd (by simp;omega) (fun c fz e=>by cases e)) (hkk _ _ hXr (by simp;omega) (fun c fz e=>by cases e)) (hkk _ _ hX4 (by simp;omega) (fun c fz e=>by cases e))
     |none=>
      rw[hf]at hlk;simp only[Option.getD_none,Option.isSome_none]at hlk;have hr32:=Ni hf hst;have hq:B6 r= [92,117,48,48,Jw (r / 16),Jw (r % 16)]:=by unfold B6;rw[if_neg hst,hf]
      gi_wp2_with (first|(refine⟨trivial, ?_⟩;gi_at_call 243;refine(CallsIn.inRound l (callsIn_wide.2 (Cq hB _))).mono ?_;rintro e wx ⟨rfl,rfl⟩)|(refine⟨trivial, ?_⟩;gi_at_call 245;refine(CallsIn.inRound l (callsIn_wide.2 (Kp _))).mono ?_;rintro e wx ⟨rfl,rfl⟩)|(refine⟨trivial, ?_⟩;gi_at_call 193;refine(CallsIn.inRound l (callsIn_wide.2 (H8 ⟨#[92,117,48,48]⟩ hXB (by simp[ByteArray.size];omega)))).mono ?_;rintro e w4 ⟨rfl,hB4,hb4,hk4⟩))
      refine⟨trivial, ?_⟩;refine(CallsIn.inRound l (callsIn_wide.2 (K5 _ hB4 (by simp;omega)))).mono ?_;rintro e w5 ⟨rfl,hB5,hb5,hk5⟩;rw[Qp ⟨r / 16,by omega⟩]at hB5;have hand:=Agm ⟨r,hr32⟩;dsimp only at hand;have hm0:0<=(r:Int) % 16:=by omega
      have hm1:(r:Int) % 16<16:=by omega
      have hm2:r % 16<16:=by omega
      gi_wp2_with fail
      refine⟨trivial, ?_⟩;refine(CallsIn.inRound l (callsIn_wide.2 (K5 _ hB5 (by simp;omega)))).mono ?_;rintro e w6 ⟨rfl,hB6,hb6,hk6⟩;rw[Qp ⟨r % 16,by omega⟩]at hB6
      gi_wp2_with fail
      have hkk:=(hk4.trans hk5).trans hk6;have Hq:(((34::Ap pre)++ [92,117,48,48])++ [Jw (r / 16)])++ [Jw (r % 16)]=34::Ap (pre++ [(p,r)]):=by
       rw[hsn,hq];simp
      exact Fin.out _ _ _ hB6 Hq (((hXw.trans hb4).trans hb5).trans hb6) ⟨some W.heap.size,hkk _ _ hXl (by simp) (fun c fz e=>by cases e),fun m' e=>by cases e;exact⟨hmb,hkk _ _ hXm (by simp;omega) (fun c fz e=>by cases e)⟩⟩
       (hkk _ _ hXd (by simp;omega) (fun c fz e=>by cases e)) (hkk _ _ hXr (by simp;omega) (fun c fz e=>by cases e)) (hkk _ _ hX4 (by simp;omega) (fun c fz e=>by cases e))
    ·
     have hXm:=(h5 mb rfl).2;have hmb:=(h5 mb rfl).1;have c3:W.cell? ⟨w1.heap.size,0,none⟩=some (.map (some mb)):=(Lib.cell_of_heap h3 0).trans rfl;have hlk:=R4 W mb Bk r hXm;have hXB:=h2;have hXw:=h1;have hXl:=h3;have hXd:=hds;have hXr:=hrc;have hX4:=h4
     cases hf:Dc (r:Int) Bk with
     |some c=>
      rw[hf]at hlk;simp only[Option.getD_some,Option.isSome_some]at hlk;have hc:=Ly hf;have hc0:=hc.1;have hc1:=hc.2;have hq:B6 r= [92,UInt8.ofNat c.toNat]:=by unfold B6;rw[if_neg hst,hf]
      have Hq:Hid (((34::Ap pre)++ [UInt8.ofNat (Int.toNat 92)])++Lib.encodeRune c=34::Ap (pre++ [(p,r)])):=by
       show _=_;rw[hsn,hq,Na (by omega) hc1];simp
      clear hsn hq hst hx hf hc h5 h2
      gi_wp2_with (first|(refine⟨trivial, ?_⟩;gi_at_call 243;refine(CallsIn.inRound l (callsIn_wide.2 (Cq hB _))).mono ?_;rintro e wx ⟨rfl,rfl⟩)|(refine⟨trivial, ?_⟩;gi_at_call 241;refine(CallsIn.inRound l (callsIn_wide.2 (Fx 92 (by omega) (by omega) hXB (by simp;omega)))).mono ?_;rintro e w4 ⟨rfl,hB4,hb4,hk4⟩)|(refine⟨trivial, ?_⟩;gi_at_call 244;refine(CallsIn.inRound l (callsIn_wide.2 (G6 c (by omega) (by omega) hB4 (by simp;omega)))).mono ?_;rintro e w5 ⟨⟨kk,rfl⟩,hB5,hb5,hk5⟩))
      have hkk:=hk4.trans hk5;exact Fin.out _ _ _ hB5 Hq.out ((hXw.trans hb4).trans hb5) ⟨some mb,hkk _ _ hXl (by simp) (fun c fz e=>by cases e),fun m' e=>by cases e;exact⟨hmb,hkk _ _ hXm (by simp;omega) (fun c fz e=>by cases e)⟩⟩
       (hkk _ _ hXd (by simp;omega) (fun c fz e=>by cases e)) (hkk _ _ hXr (by simp;omega) (fun c fz e=>by cases e)) (hkk _ _ hX4 (by simp;omega) (fun c fz e=>by cases e))
     |none=>
      rw[hf]at hlk;simp only[Option.getD_none,Option.isSome_none]at hlk;have hr32:=Ni hf hst;have hq:B6 r= [92,117,48,48,Jw (r / 16),Jw (r % 16)]:=by unfold B6;rw[if_neg hst,hf]
      gi_wp2_with (first|(refine⟨trivial, ?_⟩;gi_at_call 243;refine(CallsIn.inRound l (callsIn_wide.2 (Cq hB _))).mono ?_;rintro e wx ⟨rfl,rfl⟩)|(refine⟨trivial, ?_⟩;gi_at_call 193;refine(CallsIn.inRound l (callsIn_wide.2 (H8 ⟨#[92,117,48,48]⟩ hXB (by simp[ByteArray.size];omega)))).mono ?_;rintro e w4 ⟨rfl,hB4,hb4,hk4⟩))
      refine⟨trivial, ?_⟩;refine(CallsIn.inRound l (callsIn_wide.2 (K5 _ hB4 (by simp;omega)))).mono ?_;rintro e w5 ⟨rfl,hB5,hb5,hk5⟩;rw[Qp ⟨r / 16,by omega⟩]at hB5;have hand:=Agm ⟨r,hr32⟩;dsimp only at hand;have hm0:0<=(r:Int) % 16:=by omega
      have hm1:(r:Int) % 16<16:=by omega
      have hm2:r % 16<16:=by omega
      gi_wp2_with fail
      refine⟨trivial, ?_⟩;refine(CallsIn.inRound l (callsIn_wide.2 (K5 _ hB5 (by simp;omega)))).mono ?_;rintro e w6 ⟨rfl,hB6,hb6,hk6⟩;rw[Qp ⟨r % 16,by omega⟩]at hB6
      gi_wp2_with fail
      have hkk:=(hk4.trans hk5).trans hk6;have Hq:(((34::Ap pre)++ [92,117,48,48])++ [Jw (r / 16)])++ [Jw (r % 16)]=34::Ap (pre++ [(p,r)]):=by
       rw[hsn,hq];simp
      exact Fin.out _ _ _ hB6 Hq (((hXw.trans hb4).trans hb5).trans hb6) ⟨some mb,hkk _ _ hXl (by simp) (fun c fz e=>by cases e),fun m' e=>by cases e;exact⟨hmb,hkk _ _ hXm (by simp;omega) (fun c fz e=>by cases e)⟩⟩
       (hkk _ _ hXd (by simp;omega) (fun c fz e=>by cases e)) (hkk _ _ hXr (by simp;omega) (fun c fz e=>by cases e)) (hkk _ _ hX4 (by simp;omega) (fun c fz e=>by cases e))
 case done=>
  rintro W ⟨⟨h1,h2,m,h3,h5⟩,h4⟩ hds;have hdt:w1.heap.size+1<w3.heap.size:=by omega
  have hlen:(Ap (Cf s)).length<=6000000000:=by
   have e1:=F4 (Cf s);have e3:=Fd s.size s.data.toList 0;unfold Cf at e1 ⊢;omega
  gi_wp2_with (first|(refine⟨trivial, ?_⟩;gi_at_call 241;refine(callsIn_wide.2 (Fx 34 (by omega) (by omega) h2 (by simp;omega))).mono ?_;rintro e w4 ⟨rfl,hB4,hb4,hk4⟩)|(refine⟨trivial, ?_⟩;gi_at_call 75;refine(callsIn_wide.2 (Abs hB4 (by simp))).mono ?_;rintro e w5 ⟨rfl,hb5,hk5⟩))
  have hd4:=hk4 _ _ hds (by simp;omega) (fun c fz e=>by cases e);have hd5:=hk5 _ _ hd4 (by simp;omega) (fun c fz e=>by cases e);refine⟨by simp,.inl ⟨_,_,rfl,run_takeDeferred hd5, ?_⟩⟩;have hbw5:Below w.heap.size w w5:=(h1.trans hb4).trans hb5;refine⟨_,results_tmp2 rfl _ _ _,rfl,hbw5.grown (grownBy_putObj' w5 _ _) hbw5.size (fun k e=>by cases e;omega)⟩
def Dd (s:ByteArray):List UInt8:=34::Ap (Cf s)++ [34]
mutual
def Bn:Val->List UInt8
 | .mk k b n t l o=>
   if k=2 then Lib.formatBool b else if k=3 then Lib.itoa n else if k=4 then Dd t
   else if k=5 then 91::(Cy l true++ [93])else if k=6 then 123::(Cz o true++ [125])else [110,117,108,108]
def Cy:List Val->Bool->List UInt8
 | [],_=> []
 |v::r,f=>(if f then []else [44])++(Bn v++Cy r false)
def Cz:List (ByteArray×Val)->Bool->List UInt8
 | [],_=> []
 |p::r,f=>(if f then []else [44])++(Yh p++Cz r false)
def Yh:ByteArray×Val->List UInt8
 |(key,v)=>Dd key++(58::Bn v)
end
mutual
def Yt:Val->Prop
 | .mk _ _ n t l o=>A8 t=true/\(-9223372036854775808<=n/\n<=9223372036854775807)/\Ys l/\Z5 o
def Ys:List Val->Prop
 | []=>True
 |v::r=>Yt v/\Ys r
def Z5:List (ByteArray×Val)->Prop
 | []=>True
 |p::r=>okP p/\Z5 r
def okP:ByteArray×Val->Prop
 |(key,v)=>A8 key=true/\Yt v
end
def Lt (k:Int):Nat:=
 if k=2 then 123 else if k=3 then 126 else if k=4 then 128 else if k=5 then 130 else if k=6 then 132 else 134
def G9 (k:Int) (p:Nat):Array Value:=
 if k=2\/k=3\/k=4\/k=5\/k=6 then #[.pointer (some ⟨p,0,none⟩)]else #[]
theorem It (k:Int) (args:Array Value) (w:World):(callFunc (Lt k) args).run Tryz.prog w=.ok (.enter (Lt k) args) w:=by
 unfold Lt
 split
 . exact enters_of Tryz.func123 (by kernel_rfl) rfl args w
 split
 . exact enters_of Tryz.func126 (by kernel_rfl) rfl args w
 split
 . exact enters_of Tryz.func128 (by kernel_rfl) rfl args w
 split
 . exact enters_of Tryz.func130 (by kernel_rfl) rfl args w
 split
 . exact enters_of Tryz.func132 (by kernel_rfl) rfl args w
 . exact enters_of Tryz.func134 (by kernel_rfl) rfl args w
theorem Li (k:Int) (b:Bool) (n:Int) (t:ByteArray) (la oa:Option Addr) (ln lc on oc:Nat) (w:World):
 Calls Tryz.prog 74 #[.agg #[.int .i64 k,.bool b,.int .i64 n,.string t,.slice la ln lc,.slice oa on oc]] w fun e w'=>
  e=.returned (.func (.func (Lt k)) #[] (G9 k w.heap.size))/\w.alloc (.cells #[.int .i64 k,.bool b,.int .i64 n,.string t,.slice la ln lc,.slice oa on oc] 37)=w':=by
 rcases(by omega:k=2\/k=3\/k=4\/k=5\/k=6\/(k≠2/\k≠3/\k≠4/\k≠5/\k≠6))with rfl|rfl|rfl|rfl|rfl|⟨h2,h3,h4,h5,h6⟩
 all_goals
  try have e2:(k==2)=false:=by simpa using h2
  try have e3:(k==3)=false:=by simpa using h3
  try have e4:(k==4)=false:=by simpa using h4
  try have e5:(k==5)=false:=by simpa using h5
  try have e6:(k==6)=false:=by simpa using h6
  try have hf:Hid (Lt k=134):=by show _=_;simp[Lt,h2,h3,h4,h5,h6]
  try have hc:Hid (G9 k w.heap.size= #[]):=by show _=_;simp[G9,h2,h3,h4,h5,h6]
  try clear h2 h3 h4 h5 h6
  go_enter Tryz.func74,Tryz.ntmps74;go_wp2;go_ret
 all_goals first|exact⟨rfl,rfl⟩|exact⟨by rw[hf.out,hc.out];rfl,rfl⟩
def Uc (v:Val):Prop:= ∀(W:World) (B g p:Nat) (keeps:Bool) (acc:List UInt8) (cs:List Value) (k:Int) (b:Bool) (n:Int) (t:ByteArray) (l:List Val) (o:List (ByteArray×Val)),v=.mk k b n t l o->5<=B->B3 W->Ac W B v cs->
    W.heap[p]? =some (.cells cs.toArray 37 (0,0))->p≠g->Wr W B g keeps acc->Yt v->v.bulk<=1000000000->acc.length+6*v.bulk<=20000000000->
    Calls Tryz.prog (Lt k) (#[.pointer (some ⟨g,0,none⟩)]++G9 k p) W fun e W'=>e=.returned (.tuple #[])/\Wr W' B g keeps (acc++Bn v)/\Below B W W'/\Eo g W W'
theorem B3.keep {w w':World} {B:Nat} (h:B3 w) (hb:Below B w w') (h5B:5<=B):B3 w':=by
 obtain⟨h5,⟨h1,h2⟩,h3⟩:=h;refine⟨Nat.le_trans h5 hb.size,⟨fun c hc=> ?_,fun i hi=>⟨?_, ?_⟩⟩, ?_⟩
 . exact(hb.cell (p:=⟨1,c,none⟩) (by show 1<_;omega)).trans (h1 c hc)
 . exact(hb.cell (p:=⟨2,2*i,none⟩) (by show 2<_;omega)).trans (h2 i hi).1
 . exact(hb.cell (p:=⟨2,2*i+1,none⟩) (by show 2<_;omega)).trans (h2 i hi).2
 . have hg:Tryz.prog.globalNamed "internal/strconv.uint64pow10" =some 4:=by kernel_rfl
   unfold Lib.TabIs World.var? at h3 ⊢;rw[hg]at h3 ⊢;simp only[Option.bind_some]at h3 ⊢;rw[hb.block 4 (by omega)];exact h3
theorem Zm (W:World) (k:Nat) (os:Array Obj):Below W.heap.size W (Sort.grow (W.drewN k) os):=
 ⟨rfl,rfl,rfl,by show W.heap.size<=(W.heap++os).size;simp,fun i hi=>by show(W.heap++os)[i]? =W.heap[i]?;rw[Array.getElem?_append_left hi]⟩
theorem Kk (b:Bool):(Lib.formatBool b).length<=5:=by cases b<;>decide
theorem Gp (l:List UInt8):Er [⟨l.toArray⟩]=l:=by simp[Er]
theorem Fa {B g:Nat} {keeps:Bool} {acc:List UInt8} {w:World} (ss:List ByteArray) (c:Nat) (h:Wr w B g keeps acc) (hlen:acc.length+(Er ss).length<=50000000000) (hn:ss.length<=1000):
 Calls Tryz.prog 124 #[.pointer (some ⟨g,0,none⟩),.slice (some ⟨w.heap.size,0,none⟩) ss.length c] (w.alloc (.cells (ss.map Value.string).toArray 9 (0,0))) fun e w'=>e=.returned (.tuple #[])/\Wr w' B g keeps (acc++Er ss)/\Below B w w'/\Eo g w w':=by
 have hlt:=h.lt;have hb:=h.base;refine(Zo B g keeps acc ss w.heap.size c _ (h.below ((Below.refl _ _).alloc (Nat.le_refl _) _)) (heap_alloc_new _ _) (by omega) hlen hn).mono ?_;rintro e w' ⟨rfl,h1,h2,h3⟩;exact⟨rfl,h1,((Below.refl B w).alloc (by omega) _).trans h2,((Lib.OthersKept.refl _ _ w).alloc _).trans h3⟩
theorem Yp (W:World) (B g p:Nat) (keeps:Bool) (acc:List UInt8) (b:Bool) (v2 v3 v4 v5:Value) (k:Value) (hp:W.heap[p]? =some (.cells #[k,.bool b,v2,v3,v4,v5] 37 (0,0)))
 (hW:Wr W B g keeps acc) (hlen:acc.length<=20000000000):
 Calls Tryz.prog 123 #[.pointer (some ⟨g,0,none⟩),.pointer (some ⟨p,0,none⟩)] W fun e W'=>e=.returned (.tuple #[])/\Wr W' B g keeps (acc++Lib.formatBool b)/\Below B W W'/\Eo g W W':=by
 have c1:W.cell? ⟨p,1,none⟩=some (.bool b):=(Lib.cell_of_heap hp 1).trans rfl;have hj:=Fa [⟨(Lib.formatBool b).toArray⟩] 1 hW (by rw[Gp];have:=Kk b;omega) (by simp);rw[Gp]at hj;have cB:=Tryz.strconv_FormatBool b W;generalize Lib.formatBool b=L at hj cB ⊢;obtain⟨HJ,CB⟩:=hid2 hj cB;clear hj cB;go_enter Tryz.func123,Tryz.ntmps123;go_wp2_with (first|(go_at_call 125;refine(CB.out).mono ?_;rintro e wx ⟨rfl,hwx⟩;subst hwx)|(go_at_call 124;refine(HJ.out).mono ?_;rintro e w2 ⟨rfl,h1,h2,h3⟩))
 go_end0
 exact⟨rfl,h1,h2,h3⟩
theorem Aav (W:World) (B g p:Nat) (keeps:Bool) (acc:List UInt8) (n:Int) (v1 v3 v4 v5:Value) (k:Value) (hp:W.heap[p]? =some (.cells #[k,v1,.int .i64 n,v3,v4,v5] 37 (0,0)))
 (hT:B3 W) (hn0: -9223372036854775808<=n) (hn1:n<=9223372036854775807) (_hpg:p≠g) (hW:Wr W B g keeps acc) (hlen:acc.length<=20000000000):
 Calls Tryz.prog 126 #[.pointer (some ⟨g,0,none⟩),.pointer (some ⟨p,0,none⟩)] W fun e W'=>e=.returned (.tuple #[])/\Wr W' B g keeps (acc++Lib.itoa n)/\Below B W W'/\Eo g W W':=by
 have c1:W.cell? ⟨p,2,none⟩=some (.int .i64 n):=(Lib.cell_of_heap hp 2).trans rfl;have hl:=Lib.itoa_length_le n hn0 hn1;have cB:=Tryz.strconv_FormatInt_10 n hn0 hn1 W hT.2.2;have hj: ∀w1,Below W.heap.size W w1->Calls Tryz.prog 124 #[.pointer (some ⟨g,0,none⟩),.slice (some ⟨w1.heap.size,0,none⟩) 1 1] (w1.alloc (.cells #[.string ⟨(Lib.itoa n).toArray⟩] 9 (0,0))) fun e w'=>e=.returned (.tuple #[])/\Wr w' B g keeps (acc++Lib.itoa n)/\Below B w1 w'/\Eo g w1 w':=fun w1 hb=>by
  have:=Fa [⟨(Lib.itoa n).toArray⟩] 1 (hW.below hb) (by rw[Gp];omega) (by simp)
  rwa [Gp]at this
 have hB:=hW.base;have hlt:=hW.lt;generalize Lib.itoa n=L at hj cB ⊢;obtain⟨HJ,CB⟩:=hid2 hj cB;clear hj cB hl hp;go_enter Tryz.func126,Tryz.ntmps126;go_wp2_with (first|(go_at_call 127;refine(CB.out).mono ?_;rintro e w1 ⟨rfl,kk,os,hwx⟩;have hb1:Below W.heap.size W w1:=hwx▸Zm W kk os;clear hwx)|(go_at_call 124;refine(HJ.out _ hb1).mono ?_;rintro e w2 ⟨rfl,h1,h2,h3⟩))
 go_end0
 exact⟨rfl,h1,(hb1.mono (by omega)).trans h2,fun j o hj hg ho=>h3 j o ((hb1.block j (Array.getElem?_eq_some_iff.1 hj).1).trans hj) hg ho⟩
theorem Yq (W:World) (B g:Nat) (keeps:Bool) (acc:List UInt8) (hW:Wr W B g keeps acc) (hlen:acc.length<=20000000000):
 Calls Tryz.prog 134 #[.pointer (some ⟨g,0,none⟩)] W fun e W'=>e=.returned (.tuple #[])/\Wr W' B g keeps (acc++ [110,117,108,108])/\Below B W W'/\Eo g W W':=by
 have HJ:=qz (Fa [⟨#[110,117,108,108]⟩] 1 hW (by simp[Er];omega) (by simp));go_enter Tryz.func134,Tryz.ntmps134;go_wp2_with (go_at_call 124;refine(HJ.out).mono ?_;rintro e w2 ⟨rfl,h1,h2,h3⟩)
 go_end0
 exact⟨rfl,h1,h2,h3⟩
theorem Pn (s:ByteArray) (w:World) (hT:B3 w) (hs:s.size<=1000000000) (hv:A8 s=true):
 Calls Tryz.prog 129 #[.string s] w fun e w'=>e=.returned (.string ⟨(Dd s).toArray⟩)/\Below w.heap.size w w':=by
 have cQ:=Vx s w hT hs hv;unfold Dd;generalize 34::Ap (Cf s)++ [34]=L at cQ ⊢;have CQ:=qz cQ;clear cQ;go_enter Tryz.func129,Tryz.ntmps129;go_wp2_with (go_at_call 196;refine(CQ.out).mono ?_;rintro e w2 ⟨rfl,h1⟩);go_ret;exact⟨rfl,h1⟩
theorem Ic (s:ByteArray):(Dd s).length<=6*s.size+2:=by
 have e1:=F4 (Cf s);have e3:=Fd s.size s.data.toList 0;unfold Cf at e1;unfold Dd Cf;simp only[List.length_cons,List.length_append,List.length_nil];omega
theorem Yr (W:World) (B g p:Nat) (keeps:Bool) (acc:List UInt8) (t:ByteArray) (v1 v2 v4 v5:Value) (k:Value) (hp:W.heap[p]? =some (.cells #[k,v1,v2,.string t,v4,v5] 37 (0,0)))
 (hT:B3 W) (hv:A8 t=true) (ht:t.size<=1000000000) (_hpg:p≠g) (hW:Wr W B g keeps acc) (hlen:acc.length<=20000000000):
 Calls Tryz.prog 128 #[.pointer (some ⟨g,0,none⟩),.pointer (some ⟨p,0,none⟩)] W fun e W'=>e=.returned (.tuple #[])/\Wr W' B g keeps (acc++Dd t)/\Below B W W'/\Eo g W W':=by
 have c1:W.cell? ⟨p,3,none⟩=some (.string t):=(Lib.cell_of_heap hp 3).trans rfl;have hl:=Ic t;have cB:=Pn t W hT ht hv;have hj: ∀w1,Below W.heap.size W w1->Calls Tryz.prog 124 #[.pointer (some ⟨g,0,none⟩),.slice (some ⟨w1.heap.size,0,none⟩) 1 1] (w1.alloc (.cells #[.string ⟨(Dd t).toArray⟩] 9 (0,0))) fun e w'=>e=.returned (.tuple #[])/\Wr w' B g keeps (acc++Dd t)/\Below B w1 w'/\Eo g w1 w':=fun w1 hb=>by
  have:=Fa [⟨(Dd t).toArray⟩] 1 (hW.below hb) (by rw[Gp];omega) (by simp)
  rwa [Gp]at this
 have hB:=hW.base;have hlt:=hW.lt;generalize Dd t=L at hj cB ⊢;obtain⟨HJ,CB⟩:=hid2 hj cB;clear hj cB hl hp;go_enter Tryz.func128,Tryz.ntmps128;go_wp2_with (first|(go_at_call 129;refine(CB.out).mono ?_;rintro e w1 ⟨rfl,hb1⟩)|(go_at_call 124;refine(HJ.out _ hb1).mono ?_;rintro e w2 ⟨rfl,h1,h2,h3⟩))
 go_end0
 exact⟨rfl,h1,(hb1.mono (by omega)).trans h2,fun j o hj hg ho=>h3 j o ((hb1.block j (Array.getElem?_eq_some_iff.1 hj).1).trans hj) hg ho⟩
theorem Lu (i:Int) (w:World):Calls Tryz.prog 131 #[.int .i64 i] w fun e w'=>e=.returned (.string ⟨(if i=0 then []else [44]:List UInt8).toArray⟩)/\w=w':=by
 by_cases h:i=0
 . subst h;go_enter Tryz.func131,Tryz.ntmps131;go_wp2;go_ret;exact⟨rfl,rfl⟩
 . have e:(i==0)=false:=by simpa using h
   rw[if_neg h];clear h;go_enter Tryz.func131,Tryz.ntmps131;go_wp2;go_ret;exact⟨rfl,rfl⟩
end Go.Proofs.YtkmcjfkokoidcaaGreatDoor
