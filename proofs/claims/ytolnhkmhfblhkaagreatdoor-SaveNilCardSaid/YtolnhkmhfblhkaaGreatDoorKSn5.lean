/- Parts: crc: the table; bytes one by one; the program's sum. Condition: at most 10^9 bytes. -/
import Derived.Laws.BitsAllLaws
import Derived.Laws.Shifts
import Derived.Deep.DeepCutAuto
import Derived.IntWalk
import Derived.Handy
import Derived.LoopIn
import Derived.LoopNIn
import Derived.RegionIn
import Derived.BigRegionIn
import Derived.Test.YtolnhkmhfblhkaaGreatDoorKSn3
set_option maxHeartbeats 20000000
set_option maxRecDepth 100000
namespace Go.Proofs.YtolnhkmhfblhkaaGreatDoor
open Go.RowKit
theorem Ha (r:Nat) (h:r<4294967296):bits .xor .u32 (r:Int) 3988292384=((r ^^^ J3:Nat):Int):=u32_xor_nat r 3988292384 h (by omega)
theorem Jv (r bit:Nat) (hr:r<4294967296) (_:bit<2) (w:World):Calls Tryz.prog 140 #[.int .u32 r,.int .u32 bit] w fun e w'=>e=.returned (.int .u32 (Eg r bit:Nat))/\w=w':=by
 have hx:=Ha (r / 2) (by omega);have e2:((r:Int) / 2)=((r / 2:Nat):Int):=by omega
 rw[<-e2]at hx;by_cases h:r % 2=bit
 . have hm:((Eg r bit:Nat):Int)=(r:Int) / 2:=by unfold Eg;rw[if_neg (by omega),e2]
   have ht:(((r:Int) % 2) != (bit:Int))=false:=by simp;omega
   have Hm:=qz hm;clear hm;clear e2 h hx;go_enter Tryz.func140,Tryz.ntmps140;go_wp2;go_ret;exact⟨by rw[Hm.out];rfl,rfl⟩
 . have hm:((Eg r bit:Nat):Int)=((r / 2 ^^^ J3:Nat):Int):=by unfold Eg;rw[if_pos (by omega)]
   have ht:(((r:Int) % 2) != (bit:Int))=true:=by simp;omega
   have Hm:=qz hm;clear hm;clear e2 h;go_enter Tryz.func140,Tryz.ntmps140;go_wp2;go_ret;exact⟨by rw[Hm.out];rfl,rfl⟩
theorem I3 (k:Nat) (hk:k<16) (g:Nat) (cs:Array Value) (hcs:cs.size=16) (w:World) (h:As w g 240 cs):
 Calls Tryz.prog 206 #[.int .u32 k,.pointer (some ⟨g,0,none⟩)] w fun e w'=>e=.returned (.tuple #[])/\w'=w.setCell ⟨g,k,none⟩ (.int .u32 (Aj 4 k:Nat)):=by
 obtain⟨u0,hc⟩: ∃u0,w.cell? ⟨g,k,none⟩=some u0:=⟨_,(h.cell k).trans (Array.getElem?_eq_getElem (by omega))⟩;have hf:=h.frozen k;have hk1:(k:Int)<16:=by omega
 have hk0:(0:Int)<=k:=by omega
 obtain⟨H,Hcs⟩:=hid2 h hcs;clear h hcs;go_enter Tryz.func206,Tryz.ntmps206;go_wp2
 go_loop [3,6] (fun r i=> ∃q:Nat,q<=4/\i=.int .i64 q/\r=.int .u32 (Aj q k:Nat)) (fun _ i=>4 - (intOf i).toNat)
 case atStart=>exact⟨0,by omega,rfl,rfl⟩
 case round=>
  obtain⟨q,hq,rfl,rfl⟩:=hrel;by_cases hlt:q<4
  . obtain⟨r,hr⟩: ∃r,Aj q k=r:=⟨_,rfl⟩;have hrl:r<4294967296:=by rw[<-hr];exact D3 q (by omega)
    have hs:Aj (q+1) k=G1 r:=by rw[<-hr,F6];rfl
    rw[hr];have hA:bits .and .u32 (r:Int) 1=((r % 2:Nat):Int):=by rw[<-nat_mask1];exact u32_and_nat r 1 hrl (by omega)
    have hx:=Ha (r / 2) (by omega);have e2:((r:Int) / 2)=((r / 2:Nat):Int):=by omega
    rw[<-e2]at hx;by_cases ho:r % 2=1
    . have hB:((((r % 2:Nat):Int))==1)=true:=by simp;omega
      have hS:Hid (Aj (q+1) k=(r / 2) ^^^ J3):=by rw[hs];unfold G1;rw[if_pos ho];exact rfl
      clear hr hs e2 ho;go_wp2
      go_round
      case rel=>exact⟨q+1,by omega,by go_num,by rw[hS.out]⟩
      case measure=>simp[intOf];omega
    . have hB:((((r % 2:Nat):Int))==1)=false:=by simp;omega
      have hS:Hid (Aj (q+1) k=r / 2):=by rw[hs];unfold G1;rw[if_neg ho];exact rfl
      clear hr hs e2 ho hx;go_wp2
      go_round
      case rel=>exact⟨q+1,by omega,by go_num,by rw[hS.out];go_num⟩
      case measure=>simp[intOf];omega
  . obtain rfl:q=4:=by omega
    go_wp2
    go_end0
    exact⟨rfl,rfl⟩
def dB (l:List UInt8):List D:=l.map fun x=> .leaf (.int .u8 x.toNat)
theorem Fx (l:List UInt8):(dB l).length=l.length:=List.length_map ..
theorem Dn (l:List UInt8): ∀d ∈ dB l,d.cells=1:=by
 intro d hd;obtain⟨x,_,rfl⟩:=List.mem_map.1 hd;rfl
theorem Eu {w:World} {B n c:Nat} {l:List UInt8} {a:Option Addr} (h:Ac w B (.row 1 (dB l)) [.slice a n c]) {i:Nat} {x:UInt8} (hi:l[i]? =some x):
 ∃g off,a=some ⟨g,off,none⟩/\g<B/\w.cell? ⟨g,off+i,none⟩=some (.int .u8 x.toNat):=by
 obtain⟨g,off,ea,hg,cs,h1,_,h3⟩:=h.at_ (i:=i) (d:=.leaf (.int .u8 x.toNat)) (by unfold dB;rw[List.getElem?_map,hi];rfl);obtain⟨rfl,_⟩:=h1;exact⟨g,off,ea,hg,by have:=h3 0 _ rfl;simpa using this⟩
theorem Jr {w:World} {B n c:Nat} {l:List UInt8} {a:Option Addr} (h:Ac w B (.row 1 (dB l)) [.slice a n c]):n=l.length:=by rw[h.row_len,Fx]
def F8 (k:Nat):Array Value:=((List.range 16).map fun i=>Value.int .u32 ((if i<k then Aj 4 i else 0:Nat):Int)).toArray
theorem C3 (k:Nat):(F8 k).size=16:=by simp[F8]
theorem Ao (k i:Nat) (h:i<16):(F8 k)[i]? =some (Value.int .u32 ((if i<k then Aj 4 i else 0:Nat):Int)):=by simp[F8,h]
theorem Kx (k:Nat) (h:k<16):(F8 k).setIfInBounds k (.int .u32 (Aj 4 k:Nat))=F8 (k+1):=by
 apply Array.ext_getElem?
 intro i;by_cases hi:i<16
 . by_cases e:k=i
   . subst e;rw[Array.getElem?_setIfInBounds_self_of_lt (by rw[C3];exact h),Ao _ _ hi,if_pos (by omega)]
   . rw[Array.getElem?_setIfInBounds_ne e,Ao _ _ hi,Ao _ _ hi];by_cases h1:i<k
     . rw[if_pos h1,if_pos (by omega)]
     . rw[if_neg h1,if_neg (by omega)]
 . rw[Array.getElem?_eq_none (by simp[C3];omega),Array.getElem?_eq_none (by rw[C3];omega)]
abbrev Ep:Array Value:= #[.int .u32 0,.int .u32 0,.int .u32 0,.int .u32 0,.int .u32 0,.int .u32 0,.int .u32 0,.int .u32 0,.int .u32 0,.int .u32 0,.int .u32 0,.int .u32 0,.int .u32 0,.int .u32 0,.int .u32 0,.int .u32 0]
theorem J9:F8 0=Ep:=by rfl
theorem G2 (w:World):Calls Tryz.prog 165 #[] w fun e w'=>e=.returned (.agg #[.int .u32 (Aj 4 0:Nat),.int .u32 (Aj 4 1:Nat),.int .u32 (Aj 4 2:Nat),.int .u32 (Aj 4 3:Nat),.int .u32 (Aj 4 4:Nat),.int .u32 (Aj 4 5:Nat),.int .u32 (Aj 4 6:Nat),.int .u32 (Aj 4 7:Nat),.int .u32 (Aj 4 8:Nat),.int .u32 (Aj 4 9:Nat),.int .u32 (Aj 4 10:Nat),.int .u32 (Aj 4 11:Nat),.int .u32 (Aj 4 12:Nat),.int .u32 (Aj 4 13:Nat),.int .u32 (Aj 4 14:Nat),.int .u32 (Aj 4 15:Nat)])/\Below w.heap.size w w':=by
 go_enter Tryz.func165,Tryz.ntmps165;go_wp2_with (fail);go_loopw [5] (fun i wr=> ∃k:Nat,i=.int .u32 k/\k<=16/\As wr w.heap.size 240 Ep/\As wr (w.heap.size+1) 240 (F8 k)/\Below w.heap.size w wr) (fun i _=>16 - (intOf i).toNat)
 case atStart=>
  refine⟨0,rfl,by omega,(As.new _ _ _).alloc _, ?_,((Below.refl _ _).alloc (Nat.le_refl _) _).alloc (by simp) _⟩;have:=As.new (w.alloc (.cells Ep 240)) 240 Ep;rw[World.size_alloc]at this;rw[J9];exact this
 case round=>
  obtain⟨k,rfl,hk,h0,h1,hb⟩:=hrel;by_cases hlt:k<16
  . have hC:=I3 k hlt (w.heap.size+1) (F8 k) (C3 k) wr h1;have h0':=h0.far (p:=⟨w.heap.size+1,k,none⟩) (by simp) (.int .u32 (Aj 4 k:Nat));have h1':=h1.set_ k (.int .u32 (Aj 4 k:Nat));rw[Kx k hlt]at h1';have hb':=hb.setCell (p:=⟨w.heap.size+1,k,none⟩) (by simp) (.int .u32 (Aj 4 k:Nat));have hk16:(k:Int)<16:=by omega
    obtain⟨HC,H0',H1',Hb'⟩:=hid4 hC h0' h1' hb';clear hC h0' h1' hb';clear h0 h1 hb;go_wp2_with (go_at_call 206;refine(HC.out).mono ?_;rintro e w2 ⟨rfl,rfl⟩);go_roundw
    case rel=>exact⟨k+1,by go_num,by omega,H0'.out,H1'.out,Hb'.out⟩
    case measure=>simp[intOf];omega
  . obtain rfl:k=16:=by omega
    obtain⟨t0,t1,t2,t3,t4,t5,t6,t7,t8,t9,t10,t11,t12,t13,t14,t15⟩:wr.cell? ⟨w.heap.size+1,0,none⟩=some (.int .u32 (Aj 4 0:Nat))/\wr.cell? ⟨w.heap.size+1,1,none⟩=some (.int .u32 (Aj 4 1:Nat))/\wr.cell? ⟨w.heap.size+1,2,none⟩=some (.int .u32 (Aj 4 2:Nat))/\wr.cell? ⟨w.heap.size+1,3,none⟩=some (.int .u32 (Aj 4 3:Nat))/\wr.cell? ⟨w.heap.size+1,4,none⟩=some (.int .u32 (Aj 4 4:Nat))/\wr.cell? ⟨w.heap.size+1,5,none⟩=some (.int .u32 (Aj 4 5:Nat))/\wr.cell? ⟨w.heap.size+1,6,none⟩=some (.int .u32 (Aj 4 6:Nat))/\wr.cell? ⟨w.heap.size+1,7,none⟩=some (.int .u32 (Aj 4 7:Nat))/\wr.cell? ⟨w.heap.size+1,8,none⟩=some (.int .u32 (Aj 4 8:Nat))/\wr.cell? ⟨w.heap.size+1,9,none⟩=some (.int .u32 (Aj 4 9:Nat))/\wr.cell? ⟨w.heap.size+1,10,none⟩=some (.int .u32 (Aj 4 10:Nat))/\wr.cell? ⟨w.heap.size+1,11,none⟩=some (.int .u32 (Aj 4 11:Nat))/\wr.cell? ⟨w.heap.size+1,12,none⟩=some (.int .u32 (Aj 4 12:Nat))/\wr.cell? ⟨w.heap.size+1,13,none⟩=some (.int .u32 (Aj 4 13:Nat))/\wr.cell? ⟨w.heap.size+1,14,none⟩=some (.int .u32 (Aj 4 14:Nat))/\wr.cell? ⟨w.heap.size+1,15,none⟩=some (.int .u32 (Aj 4 15:Nat)):=⟨(h1.cell 0).trans ((Ao 16 0 (by omega)).trans (by rw[if_pos (by omega)])),(h1.cell 1).trans ((Ao 16 1 (by omega)).trans (by rw[if_pos (by omega)])),(h1.cell 2).trans ((Ao 16 2 (by omega)).trans (by rw[if_pos (by omega)])),(h1.cell 3).trans ((Ao 16 3 (by omega)).trans (by rw[if_pos (by omega)])),(h1.cell 4).trans ((Ao 16 4 (by omega)).trans (by rw[if_pos (by omega)])),(h1.cell 5).trans ((Ao 16 5 (by omega)).trans (by rw[if_pos (by omega)])),(h1.cell 6).trans ((Ao 16 6 (by omega)).trans (by rw[if_pos (by omega)])),(h1.cell 7).trans ((Ao 16 7 (by omega)).trans (by rw[if_pos (by omega)])),(h1.cell 8).trans ((Ao 16 8 (by omega)).trans (by rw[if_pos (by omega)])),(h1.cell 9).trans ((Ao 16 9 (by omega)).trans (by rw[if_pos (by omega)])),(h1.cell 10).trans ((Ao 16 10 (by omega)).trans (by rw[if_pos (by omega)])),(h1.cell 11).trans ((Ao 16 11 (by omega)).trans (by rw[if_pos (by omega)])),(h1.cell 12).trans ((Ao 16 12 (by omega)).trans (by rw[if_pos (by omega)])),(h1.cell 13).trans ((Ao 16 13 (by omega)).trans (by rw[if_pos (by omega)])),(h1.cell 14).trans ((Ao 16 14 (by omega)).trans (by rw[if_pos (by omega)])),(h1.cell 15).trans ((Ao 16 15 (by omega)).trans (by rw[if_pos (by omega)]))⟩;obtain⟨z0,z1,z2,z3,z4,z5,z6,z7,z8,z9,z10,z11,z12,z13,z14,z15⟩:wr.cell? ⟨w.heap.size,0,none⟩=some (.int .u32 0)/\wr.cell? ⟨w.heap.size,1,none⟩=some (.int .u32 0)/\wr.cell? ⟨w.heap.size,2,none⟩=some (.int .u32 0)/\wr.cell? ⟨w.heap.size,3,none⟩=some (.int .u32 0)/\wr.cell? ⟨w.heap.size,4,none⟩=some (.int .u32 0)/\wr.cell? ⟨w.heap.size,5,none⟩=some (.int .u32 0)/\wr.cell? ⟨w.heap.size,6,none⟩=some (.int .u32 0)/\wr.cell? ⟨w.heap.size,7,none⟩=some (.int .u32 0)/\wr.cell? ⟨w.heap.size,8,none⟩=some (.int .u32 0)/\wr.cell? ⟨w.heap.size,9,none⟩=some (.int .u32 0)/\wr.cell? ⟨w.heap.size,10,none⟩=some (.int .u32 0)/\wr.cell? ⟨w.heap.size,11,none⟩=some (.int .u32 0)/\wr.cell? ⟨w.heap.size,12,none⟩=some (.int .u32 0)/\wr.cell? ⟨w.heap.size,13,none⟩=some (.int .u32 0)/\wr.cell? ⟨w.heap.size,14,none⟩=some (.int .u32 0)/\wr.cell? ⟨w.heap.size,15,none⟩=some (.int .u32 0):=⟨h0.cell 0,h0.cell 1,h0.cell 2,h0.cell 3,h0.cell 4,h0.cell 5,h0.cell 6,h0.cell 7,h0.cell 8,h0.cell 9,h0.cell 10,h0.cell 11,h0.cell 12,h0.cell 13,h0.cell 14,h0.cell 15⟩;obtain⟨f0,f1,f2,f3,f4,f5,f6,f7,f8,f9,f10,f11,f12,f13,f14,f15⟩:wr.frozen? ⟨w.heap.size,0,none⟩=false/\wr.frozen? ⟨w.heap.size,1,none⟩=false/\wr.frozen? ⟨w.heap.size,2,none⟩=false/\wr.frozen? ⟨w.heap.size,3,none⟩=false/\wr.frozen? ⟨w.heap.size,4,none⟩=false/\wr.frozen? ⟨w.heap.size,5,none⟩=false/\wr.frozen? ⟨w.heap.size,6,none⟩=false/\wr.frozen? ⟨w.heap.size,7,none⟩=false/\wr.frozen? ⟨w.heap.size,8,none⟩=false/\wr.frozen? ⟨w.heap.size,9,none⟩=false/\wr.frozen? ⟨w.heap.size,10,none⟩=false/\wr.frozen? ⟨w.heap.size,11,none⟩=false/\wr.frozen? ⟨w.heap.size,12,none⟩=false/\wr.frozen? ⟨w.heap.size,13,none⟩=false/\wr.frozen? ⟨w.heap.size,14,none⟩=false/\wr.frozen? ⟨w.heap.size,15,none⟩=false:=⟨h0.frozen 0,h0.frozen 1,h0.frozen 2,h0.frozen 3,h0.frozen 4,h0.frozen 5,h0.frozen 6,h0.frozen 7,h0.frozen 8,h0.frozen 9,h0.frozen 10,h0.frozen 11,h0.frozen 12,h0.frozen 13,h0.frozen 14,h0.frozen 15⟩;obtain⟨Hb,H0⟩:=hid2 hb h0;clear hb h0;clear h1;go_wp2;have hx:=H0.out
    (have hx:=hx.set_ 0 (.int .u32 (Aj 4 0:Nat));have hx:=hx.set_ 1 (.int .u32 (Aj 4 1:Nat));have hx:=hx.set_ 2 (.int .u32 (Aj 4 2:Nat));have hx:=hx.set_ 3 (.int .u32 (Aj 4 3:Nat));have hx:=hx.set_ 4 (.int .u32 (Aj 4 4:Nat));have hx:=hx.set_ 5 (.int .u32 (Aj 4 5:Nat));have hx:=hx.set_ 6 (.int .u32 (Aj 4 6:Nat));have hx:=hx.set_ 7 (.int .u32 (Aj 4 7:Nat));have hx:=hx.set_ 8 (.int .u32 (Aj 4 8:Nat));have hx:=hx.set_ 9 (.int .u32 (Aj 4 9:Nat));have hx:=hx.set_ 10 (.int .u32 (Aj 4 10:Nat));have hx:=hx.set_ 11 (.int .u32 (Aj 4 11:Nat));have hx:=hx.set_ 12 (.int .u32 (Aj 4 12:Nat));have hx:=hx.set_ 13 (.int .u32 (Aj 4 13:Nat));have hx:=hx.set_ 14 (.int .u32 (Aj 4 14:Nat));have hx:=hx.set_ 15 (.int .u32 (Aj 4 15:Nat)))
    have hbx:=Hb.out
    (have hbx:=hbx.setCell (p:=⟨w.heap.size,0,none⟩) (Nat.le_refl _) (.int .u32 (Aj 4 0:Nat));have hbx:=hbx.setCell (p:=⟨w.heap.size,1,none⟩) (Nat.le_refl _) (.int .u32 (Aj 4 1:Nat));have hbx:=hbx.setCell (p:=⟨w.heap.size,2,none⟩) (Nat.le_refl _) (.int .u32 (Aj 4 2:Nat));have hbx:=hbx.setCell (p:=⟨w.heap.size,3,none⟩) (Nat.le_refl _) (.int .u32 (Aj 4 3:Nat));have hbx:=hbx.setCell (p:=⟨w.heap.size,4,none⟩) (Nat.le_refl _) (.int .u32 (Aj 4 4:Nat));have hbx:=hbx.setCell (p:=⟨w.heap.size,5,none⟩) (Nat.le_refl _) (.int .u32 (Aj 4 5:Nat));have hbx:=hbx.setCell (p:=⟨w.heap.size,6,none⟩) (Nat.le_refl _) (.int .u32 (Aj 4 6:Nat));have hbx:=hbx.setCell (p:=⟨w.heap.size,7,none⟩) (Nat.le_refl _) (.int .u32 (Aj 4 7:Nat));have hbx:=hbx.setCell (p:=⟨w.heap.size,8,none⟩) (Nat.le_refl _) (.int .u32 (Aj 4 8:Nat));have hbx:=hbx.setCell (p:=⟨w.heap.size,9,none⟩) (Nat.le_refl _) (.int .u32 (Aj 4 9:Nat));have hbx:=hbx.setCell (p:=⟨w.heap.size,10,none⟩) (Nat.le_refl _) (.int .u32 (Aj 4 10:Nat));have hbx:=hbx.setCell (p:=⟨w.heap.size,11,none⟩) (Nat.le_refl _) (.int .u32 (Aj 4 11:Nat));have hbx:=hbx.setCell (p:=⟨w.heap.size,12,none⟩) (Nat.le_refl _) (.int .u32 (Aj 4 12:Nat));have hbx:=hbx.setCell (p:=⟨w.heap.size,13,none⟩) (Nat.le_refl _) (.int .u32 (Aj 4 13:Nat));have hbx:=hbx.setCell (p:=⟨w.heap.size,14,none⟩) (Nat.le_refl _) (.int .u32 (Aj 4 14:Nat));have hbx:=hbx.setCell (p:=⟨w.heap.size,15,none⟩) (Nat.le_refl _) (.int .u32 (Aj 4 15:Nat)))
    generalize World.setCell _ _ _=W at hx hbx ⊢;clear t0 z0 f0 t1 z1 f1 t2 z2 f2 t3 z3 f3 t4 z4 f4 t5 z5 f5 t6 z6 f6 t7 z7 f7 t8 z8 f8 t9 z9 f9 t10 z10 f10 t11 z11 f11 t12 z12 f12 t13 z13 f13 t14 z14 f14 t15 z15 f15;obtain⟨t0,t1,t2,t3,t4,t5,t6,t7,t8,t9,t10,t11,t12,t13,t14,t15⟩:W.cell? ⟨w.heap.size,0,none⟩=some (.int .u32 (Aj 4 0:Nat))/\W.cell? ⟨w.heap.size,1,none⟩=some (.int .u32 (Aj 4 1:Nat))/\W.cell? ⟨w.heap.size,2,none⟩=some (.int .u32 (Aj 4 2:Nat))/\W.cell? ⟨w.heap.size,3,none⟩=some (.int .u32 (Aj 4 3:Nat))/\W.cell? ⟨w.heap.size,4,none⟩=some (.int .u32 (Aj 4 4:Nat))/\W.cell? ⟨w.heap.size,5,none⟩=some (.int .u32 (Aj 4 5:Nat))/\W.cell? ⟨w.heap.size,6,none⟩=some (.int .u32 (Aj 4 6:Nat))/\W.cell? ⟨w.heap.size,7,none⟩=some (.int .u32 (Aj 4 7:Nat))/\W.cell? ⟨w.heap.size,8,none⟩=some (.int .u32 (Aj 4 8:Nat))/\W.cell? ⟨w.heap.size,9,none⟩=some (.int .u32 (Aj 4 9:Nat))/\W.cell? ⟨w.heap.size,10,none⟩=some (.int .u32 (Aj 4 10:Nat))/\W.cell? ⟨w.heap.size,11,none⟩=some (.int .u32 (Aj 4 11:Nat))/\W.cell? ⟨w.heap.size,12,none⟩=some (.int .u32 (Aj 4 12:Nat))/\W.cell? ⟨w.heap.size,13,none⟩=some (.int .u32 (Aj 4 13:Nat))/\W.cell? ⟨w.heap.size,14,none⟩=some (.int .u32 (Aj 4 14:Nat))/\W.cell? ⟨w.heap.size,15,none⟩=some (.int .u32 (Aj 4 15:Nat)):=⟨(hx.cell 0).trans rfl,(hx.cell 1).trans rfl,(hx.cell 2).trans rfl,(hx.cell 3).trans rfl,(hx.cell 4).trans rfl,(hx.cell 5).trans rfl,(hx.cell 6).trans rfl,(hx.cell 7).trans rfl,(hx.cell 8).trans rfl,(hx.cell 9).trans rfl,(hx.cell 10).trans rfl,(hx.cell 11).trans rfl,(hx.cell 12).trans rfl,(hx.cell 13).trans rfl,(hx.cell 14).trans rfl,(hx.cell 15).trans rfl⟩;clear hx;exact bodyPost_ret (v:=.agg #[.int .u32 (Aj 4 0:Nat),.int .u32 (Aj 4 1:Nat),.int .u32 (Aj 4 2:Nat),.int .u32 (Aj 4 3:Nat),.int .u32 (Aj 4 4:Nat),.int .u32 (Aj 4 5:Nat),.int .u32 (Aj 4 6:Nat),.int .u32 (Aj 4 7:Nat),.int .u32 (Aj 4 8:Nat),.int .u32 (Aj 4 9:Nat),.int .u32 (Aj 4 10:Nat),.int .u32 (Aj 4 11:Nat),.int .u32 (Aj 4 12:Nat),.int .u32 (Aj 4 13:Nat),.int .u32 (Aj 4 14:Nat),.int .u32 (Aj 4 15:Nat)]) (by simp[results,Tryz.results165,go_sem,t0,t1,t2,t3,t4,t5,t6,t7,t8,t9,t10,t11,t12,t13,t14,t15]) rfl ⟨rfl,hbx⟩
end Go.Proofs.YtolnhkmhfblhkaaGreatDoor
