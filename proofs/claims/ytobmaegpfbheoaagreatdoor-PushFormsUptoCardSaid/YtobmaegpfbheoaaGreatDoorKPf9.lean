/- Parts: utf.Quote: the walk. Condition: a text shorter than 10^9. -/
import Derived.Test.YtobmaegpfbheoaaGreatDoorKPf6
set_option maxHeartbeats 20000000
set_option maxRecDepth 100000
namespace Go.Proofs.YtobmaegpfbheoaaGreatDoor
open Go.RowKit
attribute [local go_sem] Oper.semAt_some
def QI (w:World) (g lb d:Nat) (pre:List (Nat×Nat)) (W:World):Prop:=
 Below w.heap.size w W/\BB W w.heap.size g (34::Ar pre)/\ ∃m,Wu W lb d m
theorem Rx (s:ByteArray) (w:World) (hT:B7 w) (hs:s.size<=1000000000) (hv:Al s=true):
 Calls Tryz.prog 154 #[.string s] w fun e w'=>e=.returned (.tuple #[.string ⟨(34::Ar (D7 s)++ [34]).toArray⟩,.int .i64 0])/\Below w.heap.size w w':=by
 refine(callsIn_wide (n:=12)).1 ?_;refine callsIn_of_wp_marks Tryz.func154 rfl trivial ?_ rfl;simp only[Tryz.ntmps154,List.size_toArray,List.length_cons,List.length_nil,Nat.reduceAdd,Nat.reduceSub,Array.replicate_succ,Array.replicate_zero,List.push_toArray,List.append_toArray,List.nil_append,List.cons_append]
 gi_wp2_with (refine⟨trivial, ?_⟩;gi_at_call 150;refine(callsIn_wide.2 (Bh hv _ (by omega) hT)).mono ?_;rintro e w1 ⟨rfl,hb1⟩)
 have hz1:=hb1.size;have hB1:BB ((w1.alloc (.cells #[.map none] 246)).alloc (.cells #[.pointer none,.slice none 0 0] 98)) w.heap.size (w1.heap.size+1) []:=
  ⟨_,_,by omega,by rw[<-World.size_alloc w1 (.cells #[.map none] 246)];exact heap_alloc_new _ _,by decide,by simp,.inl rfl,.slice none 0 0,rfl,World.ownsRow_nil _ _ _ _⟩
 have hL1:((w1.alloc (.cells #[.map none] 246)).alloc (.cells #[.pointer none,.slice none 0 0] 98)).heap[w1.heap.size]? =some (.cells #[.map none] 246 (0,0)):=
  (Below.heap_alloc _ _ _ (by simp)).trans (heap_alloc_new _ _)
 have hbx:Below w.heap.size w ((w1.alloc (.cells #[.map none] 246)).alloc (.cells #[.pointer none,.slice none 0 0] 98)):=(hb1.alloc hz1 _).alloc (by simp;omega) _
 gi_wp2_with (first|(refine⟨trivial, ?_⟩;gi_at_call 201;refine(callsIn_wide.2 (El 34 (by omega) (by omega) hB1 (by simp))).mono ?_;rintro e w2 ⟨rfl,hB2,hb2,hk2⟩)|(refine⟨trivial, ?_⟩;gi_at_call 202;refine(callsIn_wide.2 (Rz _ _)).mono ?_;rintro e w3 ⟨rfl,rfl⟩))
 have hz2:=hb2.size;simp only[World.size_alloc]at hz2;have hL2:w2.heap[w1.heap.size]? =some (.cells #[.map none] 246 (0,0)):=hk2 _ _ hL1 (by simp) (fun c fz e=>by cases e);have hbw2:Below w.heap.size w w2:=hbx.trans hb2;clear hB1 hL1 hb1 hk2 hb2 hbx;have hnew:=heap_alloc_new w2 (.cells #[.string s] 9);have hT3:B7 (w2.alloc (.cells #[.string s] 9)):=hT.below (hbw2.alloc (by omega) _);have hyld:=Ri s w2.heap.size hs;have hB3:BB (w2.alloc (.cells #[.string s] 9)) w.heap.size (w1.heap.size+1) (34::Ar []):=hB2.below ((Below.refl _ _).alloc (Nat.le_refl _) _);have hL3:=(Below.heap_alloc w2 (.cells #[.string s] 9) w1.heap.size (by omega)).trans hL2;have hbw3:Below w.heap.size w (w2.alloc (.cells #[.string s] 9)):=hbw2.alloc (by omega) _;have hz3:w2.heap.size+1=(w2.alloc (.cells #[.string s] 9)).heap.size:=by simp
 generalize w2.alloc (.cells #[.string s] 9)=w3 at*
 refine K3 (n:=10) (gf:=228) (lb:= #[.pointer (some ⟨w2.heap.size,0,none⟩)]) rfl (enters_of Tryz.func228 (by kernel_rfl) rfl) hyld (fun _=>rfl)
  (fun pre W=>QI w (w1.heap.size+1) w1.heap.size w3.heap.size pre W/\W.heap[w2.heap.size]? =some (.cells #[.string s] 9 (0,0))) ?hIn ?hIp ?hIb ?h0 ?a1 ?assign ?body ?done
 case assign=>
  intro l x W K hK
  gi_wp2
  exact hK
 case h0=>exact⟨⟨hbw3,hB3,none,hL3,fun _ h=>by cases h⟩,hnew⟩
 case hIb=>
  rintro pre A ⟨⟨h1,h2,h3⟩,h4⟩;exact⟨(Lib.cell_of_heap h4 0).trans rfl,hT.below h1⟩
 case hIn=>
  rintro pre A B ⟨⟨h1,h2,m,h3,h5⟩,h4⟩ hb;refine⟨⟨h1.trans (hb.mono h1.size),h2.below hb,m,(hb.block _ (Array.getElem?_eq_some_iff.1 h3).1).trans h3,fun mb e=>⟨(h5 mb e).1,(hb.block _ (Array.getElem?_eq_some_iff.1 (h5 mb e).2).1).trans (h5 mb e).2⟩⟩,(hb.block _ (Array.getElem?_eq_some_iff.1 h4).1).trans h4⟩
 case hIp=>
  rintro pre A k o o' ⟨⟨h1,h2,m,h3,h5⟩,h4⟩ ho hc hk;have hkw:w.heap.size<=k:=by omega
  have hk1:k<A.heap.size:=(Array.getElem?_eq_some_iff.1 ho).1;refine⟨⟨h1.grown (grownBy_putObj' A k o') (by omega) (fun j e=>by cases e;exact hkw),h2.put ho hc,m, ?_,fun mb e=>⟨(h5 mb e).1, ?_⟩⟩, ?_⟩
  . rw[World.putObj_heap_other (by omega)];exact h3
  . have:=(h5 mb e).1;rw[World.putObj_heap_other (by omega)];exact(h5 mb e).2
  . rw[World.putObj_heap_other (by omega)];exact h4
 case body=>
  rintro l pre x rest W hx ⟨⟨h1,h2,m,h3,h5⟩,h4⟩ ⟨ds,hds⟩ ⟨rc,hrc⟩;have hlen:(Ar pre).length<=6000000000:=by
   have e1:=Et pre;have e2:=congrArg List.length hx;have e3:=D8 s.size s.data.toList 0;simp only[List.length_append,List.length_cons]at e2;unfold D7 at e2;omega
  have hr:x.2<=1114111:=Ku s.size s.data.toList 0 x (by show x ∈ D7 s;rw[hx];simp);have hsn:Ar (pre++ [x])=Ar pre++Bq x.2:=by simp[Ar]
  obtain⟨p,r⟩:=x;simp only at hr hsn;have hz:=h1.size;have hDm:w3.heap.size+1<W.heap.size:=(Array.getElem?_eq_some_iff.1 hrc).1;have hdt:w1.heap.size+1<w3.heap.size:=by omega
  have hsb:w2.heap.size<w3.heap.size:=by omega
  have hsa:w1.heap.size+1<w2.heap.size:=by omega
  have fin: ∀(a:Act) (X:World) (bs:List UInt8),BB X w.heap.size (w1.heap.size+1) bs->bs=34::Ar (pre++ [(p,r)])->Below w.heap.size w X->(∃m,Wu X w1.heap.size w3.heap.size m)->
   X.heap[w3.heap.size]? =some (.deferred ds)->X.heap[w3.heap.size+1]? =some (.loop rc)->X.heap[w2.heap.size]? =some (.cells #[.string s] 9 (0,0))->
   Qx (fun X=>QI w (w1.heap.size+1) w1.heap.size w3.heap.size (pre++ [(p,r)]) X/\X.heap[w2.heap.size]? =some (.cells #[.string s] 9 (0,0))) w3.heap.size W .normal a X:=by
   intro a X bs hb e hbw hl hd hr2 hbox;subst e;exact⟨hd.trans hds.symm,hr2.trans hrc.symm,⟨hbw,hb,hl⟩,hbox⟩
  have Fin:=qz fin;clear fin;by_cases hst:32<=r/\r≠34/\r≠92
  . have hq:Bq r=Lib.encodeRune r:=by unfold Bq;rw[if_pos hst]
    have hB:decide (32<=(r:Int)/\(r:Int)≠34/\(r:Int)≠92)=true:=by simp;omega
    have Hq:Hid ((34::Ar pre)++Lib.encodeRune r=34::Ar (pre++ [(p,r)])):=by
     show _=_;rw[hsn,hq];rfl
    clear hsn hq hst hx
    gi_wp2_with (first|(refine⟨trivial, ?_⟩;gi_at_call 203;refine(CallsIn.inRound l (callsIn_wide.2 (C8 hB _))).mono ?_;rintro e wx ⟨rfl,rfl⟩)|(refine⟨trivial, ?_⟩;gi_at_call 204;refine(CallsIn.inRound l (callsIn_wide.2 (Gv (r:Int) (by omega) (by omega) h2 (by simp;omega)))).mono ?_;rintro e w4 ⟨⟨kk,rfl⟩,hB4,hb4,hk4⟩))
    exact Fin.out _ _ _ hB4 Hq.out (h1.trans hb4) ⟨m,hk4 _ _ h3 (by simp) (fun c fz e=>by cases e),fun mb e=>⟨(h5 mb e).1,hk4 _ _ (h5 mb e).2 (by have:=(h5 mb e).1;simp;omega) (fun c fz e=>by cases e)⟩⟩
     (hk4 _ _ hds (by simp;omega) (fun c fz e=>by cases e)) (hk4 _ _ hrc (by simp;omega) (fun c fz e=>by cases e)) (hk4 _ _ h4 (by simp;omega) (fun c fz e=>by cases e))
  . have hB:decide (32<=(r:Int)/\(r:Int)≠34/\(r:Int)≠92)=false:=by simp;omega
    have hnil:=fun(wx:World) (m0:Option Nat)=>run_eql_map_nil (P:=Tryz.prog) wx 246 _ _ m0 Tryz.underlying246;rcases m with _|mb
    ·
     obtain⟨X,hX⟩: ∃X,(W.setCell ⟨w1.heap.size,0,none⟩ (.map (some W.heap.size))).alloc (.map (Hd Be 0).toArray Be.length)=X:=⟨_,rfl⟩;have hsz:(W.setCell ⟨w1.heap.size,0,none⟩ (.map (some W.heap.size))).heap.size=W.heap.size:=by simp[World.setCell]
     have hXk: ∀k,k≠w1.heap.size->k<W.heap.size->X.heap[k]? =W.heap[k]? :=fun k hk hk'=>by
      rw[<-hX,Below.heap_alloc _ _ _ (by omega),Below.heap_setCell _ _ _ _ hk]
     have hXB:BB X w.heap.size (w1.heap.size+1) (34::Ar pre):=by
      rw[<-hX];exact(h2.store h3 (by decide) (by omega) 0 _).below ((Below.refl _ _).alloc (Nat.le_refl _) _)
     have hXw:Below w.heap.size w X:=by
      rw[<-hX];exact(h1.setCell (p:=⟨w1.heap.size,0,none⟩) hz1 _).alloc (by omega) _
     have hXl:X.heap[w1.heap.size]? =some (.cells #[.map (some W.heap.size)] 246 (0,0)):=by
      rw[<-hX,Below.heap_alloc _ _ _ (by omega)];exact Fv h3 _
     have hXm:X.heap[W.heap.size]? =some (.map (Hd Be 0).toArray Be.length):=by
      rw[<-hX];have:=heap_alloc_new (W.setCell ⟨w1.heap.size,0,none⟩ (.map (some W.heap.size))) (.map (Hd Be 0).toArray Be.length)
      rwa [hsz]at this
     have hXd:=(hXk _ (by omega) (by omega)).trans hds;have hXr:=(hXk _ (by omega) (by omega)).trans hrc;have hX4:=(hXk _ (by omega) (by omega)).trans h4;have c3:W.cell? ⟨w1.heap.size,0,none⟩=some (.map none):=(Lib.cell_of_heap h3 0).trans rfl;have f3:W.frozen? ⟨w1.heap.size,0,none⟩=false:=Lib.frozen_of_heap h3 0;have hlb:w1.heap.size<W.heap.size:=by omega
     have hlk:=Tu X W.heap.size Be r hXm;have hmb:w3.heap.size+1<W.heap.size:=hDm;subst hX
     cases hf:C2 (r:Int) Be with
     |some c=>
      rw[hf]at hlk;simp only[Option.getD_some,Option.isSome_some]at hlk;have hc:=Jj hf;have hc0:=hc.1;have hc1:=hc.2;have hq:Bq r= [92,UInt8.ofNat c.toNat]:=by unfold Bq;rw[if_neg hst,hf]
      have Hq:Hid (((34::Ar pre)++ [UInt8.ofNat (Int.toNat 92)])++Lib.encodeRune c=34::Ar (pre++ [(p,r)])):=by
       show _=_;rw[hsn,hq,Kh (by omega) hc1];simp
      clear hsn hq hst hx hf hc h5 h2
      gi_wp2_with (first|(refine⟨trivial, ?_⟩;gi_at_call 203;refine(CallsIn.inRound l (callsIn_wide.2 (C8 hB _))).mono ?_;rintro e wx ⟨rfl,rfl⟩)|(refine⟨trivial, ?_⟩;gi_at_call 205;refine(CallsIn.inRound l (callsIn_wide.2 (H8 _))).mono ?_;rintro e wx ⟨rfl,rfl⟩)|(refine⟨trivial, ?_⟩;gi_at_call 201;refine(CallsIn.inRound l (callsIn_wide.2 (El 92 (by omega) (by omega) hXB (by simp;omega)))).mono ?_;rintro e w4 ⟨rfl,hB4,hb4,hk4⟩)|(refine⟨trivial, ?_⟩;gi_at_call 204;refine(CallsIn.inRound l (callsIn_wide.2 (Gv c (by omega) (by omega) hB4 (by simp;omega)))).mono ?_;rintro e w5 ⟨⟨kk,rfl⟩,hB5,hb5,hk5⟩))
      have hkk:=hk4.trans hk5;exact Fin.out _ _ _ hB5 Hq.out ((hXw.trans hb4).trans hb5) ⟨some W.heap.size,hkk _ _ hXl (by simp) (fun c fz e=>by cases e),fun m' e=>by cases e;exact⟨hmb,hkk _ _ hXm (by simp;omega) (fun c fz e=>by cases e)⟩⟩
       (hkk _ _ hXd (by simp;omega) (fun c fz e=>by cases e)) (hkk _ _ hXr (by simp;omega) (fun c fz e=>by cases e)) (hkk _ _ hX4 (by simp;omega) (fun c fz e=>by cases e))
     |none=>
      rw[hf]at hlk;simp only[Option.getD_none,Option.isSome_none]at hlk;have hr32:=Kj hf hst;have hq:Bq r= [92,117,48,48,G1 (r / 16),G1 (r % 16)]:=by unfold Bq;rw[if_neg hst,hf]
      gi_wp2_with (first|(refine⟨trivial, ?_⟩;gi_at_call 203;refine(CallsIn.inRound l (callsIn_wide.2 (C8 hB _))).mono ?_;rintro e wx ⟨rfl,rfl⟩)|(refine⟨trivial, ?_⟩;gi_at_call 205;refine(CallsIn.inRound l (callsIn_wide.2 (H8 _))).mono ?_;rintro e wx ⟨rfl,rfl⟩)|(refine⟨trivial, ?_⟩;gi_at_call 151;refine(CallsIn.inRound l (callsIn_wide.2 (Hs ⟨#[92,117,48,48]⟩ hXB (by simp[ByteArray.size];omega)))).mono ?_;rintro e w4 ⟨rfl,hB4,hb4,hk4⟩))
      refine⟨trivial, ?_⟩;refine(CallsIn.inRound l (callsIn_wide.2 (Ip _ hB4 (by simp;omega)))).mono ?_;rintro e w5 ⟨rfl,hB5,hb5,hk5⟩;rw[M3 ⟨r / 16,by omega⟩]at hB5;have hand:=Abf ⟨r,hr32⟩;dsimp only at hand;have hm0:0<=(r:Int) % 16:=by omega
      have hm1:(r:Int) % 16<16:=by omega
      have hm2:r % 16<16:=by omega
      gi_wp2_with fail
      refine⟨trivial, ?_⟩;refine(CallsIn.inRound l (callsIn_wide.2 (Ip _ hB5 (by simp;omega)))).mono ?_;rintro e w6 ⟨rfl,hB6,hb6,hk6⟩;rw[M3 ⟨r % 16,by omega⟩]at hB6
      gi_wp2_with fail
      have hkk:=(hk4.trans hk5).trans hk6;have Hq:(((34::Ar pre)++ [92,117,48,48])++ [G1 (r / 16)])++ [G1 (r % 16)]=34::Ar (pre++ [(p,r)]):=by
       rw[hsn,hq];simp
      exact Fin.out _ _ _ hB6 Hq (((hXw.trans hb4).trans hb5).trans hb6) ⟨some W.heap.size,hkk _ _ hXl (by simp) (fun c fz e=>by cases e),fun m' e=>by cases e;exact⟨hmb,hkk _ _ hXm (by simp;omega) (fun c fz e=>by cases e)⟩⟩
       (hkk _ _ hXd (by simp;omega) (fun c fz e=>by cases e)) (hkk _ _ hXr (by simp;omega) (fun c fz e=>by cases e)) (hkk _ _ hX4 (by simp;omega) (fun c fz e=>by cases e))
    ·
     have hXm:=(h5 mb rfl).2;have hmb:=(h5 mb rfl).1;have c3:W.cell? ⟨w1.heap.size,0,none⟩=some (.map (some mb)):=(Lib.cell_of_heap h3 0).trans rfl;have hlk:=Tu W mb Be r hXm;have hXB:=h2;have hXw:=h1;have hXl:=h3;have hXd:=hds;have hXr:=hrc;have hX4:=h4
     cases hf:C2 (r:Int) Be with
     |some c=>
      rw[hf]at hlk;simp only[Option.getD_some,Option.isSome_some]at hlk;have hc:=Jj hf;have hc0:=hc.1;have hc1:=hc.2;have hq:Bq r= [92,UInt8.ofNat c.toNat]:=by unfold Bq;rw[if_neg hst,hf]
      have Hq:Hid (((34::Ar pre)++ [UInt8.ofNat (Int.toNat 92)])++Lib.encodeRune c=34::Ar (pre++ [(p,r)])):=by
       show _=_;rw[hsn,hq,Kh (by omega) hc1];simp
      clear hsn hq hst hx hf hc h5 h2
      gi_wp2_with (first|(refine⟨trivial, ?_⟩;gi_at_call 203;refine(CallsIn.inRound l (callsIn_wide.2 (C8 hB _))).mono ?_;rintro e wx ⟨rfl,rfl⟩)|(refine⟨trivial, ?_⟩;gi_at_call 201;refine(CallsIn.inRound l (callsIn_wide.2 (El 92 (by omega) (by omega) hXB (by simp;omega)))).mono ?_;rintro e w4 ⟨rfl,hB4,hb4,hk4⟩)|(refine⟨trivial, ?_⟩;gi_at_call 204;refine(CallsIn.inRound l (callsIn_wide.2 (Gv c (by omega) (by omega) hB4 (by simp;omega)))).mono ?_;rintro e w5 ⟨⟨kk,rfl⟩,hB5,hb5,hk5⟩))
      have hkk:=hk4.trans hk5;exact Fin.out _ _ _ hB5 Hq.out ((hXw.trans hb4).trans hb5) ⟨some mb,hkk _ _ hXl (by simp) (fun c fz e=>by cases e),fun m' e=>by cases e;exact⟨hmb,hkk _ _ hXm (by simp;omega) (fun c fz e=>by cases e)⟩⟩
       (hkk _ _ hXd (by simp;omega) (fun c fz e=>by cases e)) (hkk _ _ hXr (by simp;omega) (fun c fz e=>by cases e)) (hkk _ _ hX4 (by simp;omega) (fun c fz e=>by cases e))
     |none=>
      rw[hf]at hlk;simp only[Option.getD_none,Option.isSome_none]at hlk;have hr32:=Kj hf hst;have hq:Bq r= [92,117,48,48,G1 (r / 16),G1 (r % 16)]:=by unfold Bq;rw[if_neg hst,hf]
      gi_wp2_with (first|(refine⟨trivial, ?_⟩;gi_at_call 203;refine(CallsIn.inRound l (callsIn_wide.2 (C8 hB _))).mono ?_;rintro e wx ⟨rfl,rfl⟩)|(refine⟨trivial, ?_⟩;gi_at_call 151;refine(CallsIn.inRound l (callsIn_wide.2 (Hs ⟨#[92,117,48,48]⟩ hXB (by simp[ByteArray.size];omega)))).mono ?_;rintro e w4 ⟨rfl,hB4,hb4,hk4⟩))
      refine⟨trivial, ?_⟩;refine(CallsIn.inRound l (callsIn_wide.2 (Ip _ hB4 (by simp;omega)))).mono ?_;rintro e w5 ⟨rfl,hB5,hb5,hk5⟩;rw[M3 ⟨r / 16,by omega⟩]at hB5;have hand:=Abf ⟨r,hr32⟩;dsimp only at hand;have hm0:0<=(r:Int) % 16:=by omega
      have hm1:(r:Int) % 16<16:=by omega
      have hm2:r % 16<16:=by omega
      gi_wp2_with fail
      refine⟨trivial, ?_⟩;refine(CallsIn.inRound l (callsIn_wide.2 (Ip _ hB5 (by simp;omega)))).mono ?_;rintro e w6 ⟨rfl,hB6,hb6,hk6⟩;rw[M3 ⟨r % 16,by omega⟩]at hB6
      gi_wp2_with fail
      have hkk:=(hk4.trans hk5).trans hk6;have Hq:(((34::Ar pre)++ [92,117,48,48])++ [G1 (r / 16)])++ [G1 (r % 16)]=34::Ar (pre++ [(p,r)]):=by
       rw[hsn,hq];simp
      exact Fin.out _ _ _ hB6 Hq (((hXw.trans hb4).trans hb5).trans hb6) ⟨some mb,hkk _ _ hXl (by simp) (fun c fz e=>by cases e),fun m' e=>by cases e;exact⟨hmb,hkk _ _ hXm (by simp;omega) (fun c fz e=>by cases e)⟩⟩
       (hkk _ _ hXd (by simp;omega) (fun c fz e=>by cases e)) (hkk _ _ hXr (by simp;omega) (fun c fz e=>by cases e)) (hkk _ _ hX4 (by simp;omega) (fun c fz e=>by cases e))
 case done=>
  rintro W ⟨⟨h1,h2,m,h3,h5⟩,h4⟩ hds;have hdt:w1.heap.size+1<w3.heap.size:=by omega
  have hlen:(Ar (D7 s)).length<=6000000000:=by
   have e1:=Et (D7 s);have e3:=D8 s.size s.data.toList 0;unfold D7 at e1 ⊢;omega
  gi_wp2_with (first|(refine⟨trivial, ?_⟩;gi_at_call 201;refine(callsIn_wide.2 (El 34 (by omega) (by omega) h2 (by simp;omega))).mono ?_;rintro e w4 ⟨rfl,hB4,hb4,hk4⟩)|(refine⟨trivial, ?_⟩;gi_at_call 54;refine(callsIn_wide.2 (Xj hB4 (by simp))).mono ?_;rintro e w5 ⟨rfl,hb5,hk5⟩))
  have hd4:=hk4 _ _ hds (by simp;omega) (fun c fz e=>by cases e);have hd5:=hk5 _ _ hd4 (by simp;omega) (fun c fz e=>by cases e);refine⟨by simp,.inl ⟨_,_,rfl,run_takeDeferred hd5, ?_⟩⟩;have hbw5:Below w.heap.size w w5:=(h1.trans hb4).trans hb5;refine⟨_,results_tmp2 rfl _ _ _,rfl,hbw5.grown (grownBy_putObj' w5 _ _) hbw5.size (fun k e=>by cases e;omega)⟩
end Go.Proofs.YtobmaegpfbheoaaGreatDoor
