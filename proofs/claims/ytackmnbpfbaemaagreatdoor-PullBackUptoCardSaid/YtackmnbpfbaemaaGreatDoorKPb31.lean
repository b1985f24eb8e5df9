/- Parts, joined: crc.Seal; are bytes the same; frames, the program's and the reference's. Condition: at most 10^9 bytes. Frames, the program's and the reference's. Condition: at most 10^8 bytes, a kind that is not 0. Members of numbers, texts as values; frames of objects; the law's own frames. Condition: sizes of at most 10^8. -/
import Derived.Test.YtackmnbpfbaemaaGreatDoorProg
import Derived.Laws.MakeOwn
import Derived.Laws.Entries
import Derived.Laws.Shifts
import Derived.BigQuiet
import Derived.Deep.QuietTactic
import Derived.Laws.EntriesVeiled
import Derived.LoopN
import Derived.Test.YtackmnbpfbaemaaGreatDoorKPb12
import Derived.Test.YtackmnbpfbaemaaGreatDoorKPb15
import Derived.Test.YtackmnbpfbaemaaGreatDoorKPb16
import Derived.Test.YtackmnbpfbaemaaGreatDoorKPb21
import Derived.Test.YtackmnbpfbaemaaGreatDoorKPb25
namespace Go.Proofs.YtackmnbpfbaemaaGreatDoor
open Go.RowKit
theorem run_make_rowN {P:Program} (t e:TypeId) (i:TypeInfo) (z:Value) (ht:P.underlying t=some (.slice e)) (hi:P.info? e=some i) (hz:i.zero=some z)
 (kl kc:IntKind) (n c:Nat) (hnc:n≤c) (hbytes:i.bytes*c≤281474976710656) (h63:c≤9223372036854775807) (w:World):
 (Instr.makeSlice t (.int kl (n:Int)) (.int kc (c:Int))).run P w= .ok (.slice (some ⟨w.heap.size,0,none⟩) n c) (w.alloc (.cells (madeCells z.cells (c*i.size)) e)):=by
 have hb:(i.bytes:Int)*(c:Int)≤281474976710656:=by
  have h:((i.bytes*c:Nat):Int)≤281474976710656:=by omega
  rwa [Int.natCast_mul]at h
 have hr:=run_make (P:=P) w t e i z ht hi hz kl kc n c (by omega) (by omega) hb (by omega)
 simp only[Int.toNat_natCast]at hr
 exact hr
theorem below_draws {B:Nat} {a w:World} (h:Below B a w) (n:Nat):Below B a (w.drewN n):=⟨h.os,h.tape,h.output,h.size,h.block⟩
set_option maxRecDepth 100000 in
set_option maxHeartbeats 2000000 in
theorem seal_calls (l:List UInt8) (a:Option Addr) (n c:Nat) (w:World) (h:Holds w w.heap.size (.row 1 (dB l)) [.slice a n c]) (hl:l.length≤1000000000):
 Calls Tryz.prog 78 #[.slice a n c] w (BytesPost (sealL l) w):=by
 obtain⟨hn,hR⟩:=dB_reads h
 subst hn
 obtain⟨i0,hi,hz,hz1,hz2⟩:=info_parts u8_info
 have hmk: ∀W:World,∃cur:Array Value,cur.size=l.length+4∧(Instr.makeSlice 25 (.int .i64 0) (.int .i64 ((l.length:Int)+4))).run Tryz.prog W= .ok (.slice (some ⟨W.heap.size,0,none⟩) 0 (l.length+4)) (W.alloc (.cells cur 5)):=by
  intro W
  have:=run_make_rowN (P:=Tryz.prog) 25 5 i0 _ Tryz.underlying25 hi hz .i64 .i64 0 (l.length+4) (by omega) (by rw[hz2];omega) (by omega) W
  refine⟨_, ?_,by rw[show(((l.length+4:Nat)):Int)=(l.length:Int)+4 from by omega]at this;exact this⟩
  rw[hz1]
  simp[madeCells]
 obtain⟨cur,hcs,hm⟩:=hmk w
 have hown0:(w.alloc (.cells cur 5)).ownsRow w.heap.size 5 1 (.slice (some ⟨w.heap.size,0,none⟩) 0 (l.length+4)) ([]:List UInt8).length (bcells []):=World.ownsRow_made w cur (l.length+4) (Nat.le_refl _) (by simp only[maxLen];omega) (by omega)
 have hR0:=hR.alloc (Nat.le_refl _) (.cells cur 5)
 have H:=Lib.hid h
 have HR:=Lib.hid hR
 have Hown0:=Lib.hid hown0
 have HR0:=Lib.hid hR0
 have Hi:=Lib.hid hi
 have Hz:=Lib.hid hz
 have Hz1:=Lib.hid hz1
 have Hz2:=Lib.hid hz2
 have Hcs:=Lib.hid hcs
 clear h hR hown0 hR0 hi hz hz1 hz2 hcs
 clear hmk
 go_enter Tryz.func78,Tryz.ntmps78
 go_wp2_with (at_builtin;refine wpList_append_by rfl (.tmp 10) (.tmp 11) 25 25 5 rfl Tryz.underlying25 Tryz.underlying25 w.heap.size (.slice (some ⟨w.heap.size,0,none⟩) 0 (l.length+4)) [] rfl Hown0.out _ a _ c l rfl HR0.out (by simp;omega) (by simp) ?_;intro v1 w1 hown1 hg1 hat1)
 have hb1:Below w.heap.size w w1:=((Below.refl _ _).alloc (Nat.le_refl _) _).grown hg1 (by simp) (by simp[Value.ownBlock])
 rw[List.nil_append]at hown1
 have hC:=sum_calls l a l.length c w1 ((H.out.below hb1).more hb1.size) hl
 have hcl:=crcMore_lt 0 l
 have hsf:=sumB_four (crcMore 0 l)
 obtain⟨s0,hs0⟩: ∃s0,crcMore 0 l=s0:=⟨_,rfl⟩
 rw[hs0]at hC hcl hsf
 have hfin:sealL l=l++sumB s0 4:=by unfold sealL;rw[hsf,hs0]
 have HC:=Lib.hid hC
 have Hown1:=Lib.hid hown1
 have Hg1:=Lib.hid hg1
 have Hb1:=Lib.hid hb1
 have Hat1:=Lib.hid hat1
 have Hfin:=Lib.hid hfin
 have Hsf:=Lib.hid hsf
 have Hs0:=Lib.hid hs0
 clear hC hown1 hg1 hb1 hat1 hfin hsf hs0
 clear hm
 go_wp2_with (go_at_call 119;with_reducible refine(HC.out).mono ?_;rintro e w2 ⟨rfl,hb2⟩)
 have hb12:=Hb1.out.trans (hb2.mono Hb1.out.size)
 have hown2:w2.ownsRow w.heap.size 5 1 v1 l.length (bcells l):=Hown1.out.kept (row:=none) ⟨hb2.os,hb2.tape,hb2.output,hb2.size,fun i hi _=>hb2.block i hi⟩ (by cases hv:v1.ownBlock<;>simp)
 have Hb12:=Lib.hid hb12
 have Hown2:=Lib.hid hown2
 clear hb12 hown2
 clear hb2
 go_loopw [3,15] (fun v i wr=> ∃k:Nat,k≤4∧i= .int .i64 k∧Hid (wr.ownsRow w.heap.size 5 1 v (l++sumB s0 k).length (bcells (l++sumB s0 k)))∧Hid (Below w.heap.size w wr)) (fun _ i _=>4 - (intOf i).toNat)
 case atStart=>exact⟨0,by omega,rfl,by rw[show l++sumB s0 0=l from by simp[sumB]];exact Hown2,Hb12⟩
 case round=>
  obtain⟨k,hk,rfl,hown,hb⟩:=hrel
  by_cases hlt:k<4
  · have hz:=hb.out.size
    have hlen:=sumB_len k s0
    have Hlen:=Lib.hid hlen
    clear hlen
    clear Hown2 Hb12
    have hk4:k=0∨k=1∨k=2∨k=3:=by omega
    rcases hk4 with rfl|rfl|rfl|rfl
    · have ecell:Value.int .u8 ((s0:Int) % 256)= .int .u8 ((UInt8.ofNat (s0 / 256 ^ 0 % 256)).toNat:Nat):=by rw[←u8_cell _ (by omega)];simp only[Nat.reducePow,Nat.div_one];go_num
      have hlit:=(reads_lit (ecell▸Blk.new wr 5 #[.int .u8 ((s0:Int) % 256)]:Blk _ _ _ #[.int .u8 ((UInt8.ofNat (s0 / 256 ^ 0 % 256)).toNat:Nat)]))
      rw[←ecell]at hlit
      have hsn:=sumB_snoc 0 s0
      have Hlit:=Lib.hid hlit
      have Hsn:=Lib.hid hsn
      have Ecell:=Lib.hid ecell
      clear hlit hsn ecell
      go_wp2_with (at_builtin;refine wpList_append_by rfl (.tmp 18) (.tmp 24) 25 25 5 rfl Tryz.underlying25 Tryz.underlying25 w.heap.size u3 _ rfl (hown.out.alloc _) _ _ _ _ [UInt8.ofNat (s0 / 256 ^ 0 % 256)] rfl Hlit.out (by have:=Hlen.out;simp;omega) (by simp;omega) ?_;intro v3 w3 hown3 hg3 hat3)
      have hb3:Below w.heap.size w w3:=(hb.out.alloc (by omega) _).grown hg3 (by simp;omega) (fun j e=>(hown.out.lt j e).1)
      rw[List.append_assoc,←Hsn.out]at hown3
      have Hown3:=Lib.hid hown3
      have Hb3:=Lib.hid hb3
      clear hown3 hb3
      clear hown hb hg3 hat3 Hsn
      go_wp2
      go_roundw
      case rel=>exact⟨0+1,by omega,by go_num,Hown3,Hb3⟩
      case measure=>simp[intOf]
    · have ecell:Value.int .u8 ((s0:Int) / 256 % 256)= .int .u8 ((UInt8.ofNat (s0 / 256 ^ 1 % 256)).toNat:Nat):=by rw[←u8_cell _ (by omega)];simp only[Nat.reducePow];go_num
      have hlit:=(reads_lit (ecell▸Blk.new wr 5 #[.int .u8 ((s0:Int) / 256 % 256)]:Blk _ _ _ #[.int .u8 ((UInt8.ofNat (s0 / 256 ^ 1 % 256)).toNat:Nat)]))
      rw[←ecell]at hlit
      have hsn:=sumB_snoc 1 s0
      have Hlit:=Lib.hid hlit
      have Hsn:=Lib.hid hsn
      have Ecell:=Lib.hid ecell
      clear hlit hsn ecell
      go_wp2_with (at_builtin;refine wpList_append_by rfl (.tmp 18) (.tmp 24) 25 25 5 rfl Tryz.underlying25 Tryz.underlying25 w.heap.size u3 _ rfl (hown.out.alloc _) _ _ _ _ [UInt8.ofNat (s0 / 256 ^ 1 % 256)] rfl Hlit.out (by have:=Hlen.out;simp;omega) (by simp;omega) ?_;intro v3 w3 hown3 hg3 hat3)
      have hb3:Below w.heap.size w w3:=(hb.out.alloc (by omega) _).grown hg3 (by simp;omega) (fun j e=>(hown.out.lt j e).1)
      rw[List.append_assoc,←Hsn.out]at hown3
      have Hown3:=Lib.hid hown3
      have Hb3:=Lib.hid hb3
      clear hown3 hb3
      clear hown hb hg3 hat3 Hsn
      go_wp2
      go_roundw
      case rel=>exact⟨1+1,by omega,by go_num,Hown3,Hb3⟩
      case measure=>simp[intOf]
    · have ecell:Value.int .u8 ((s0:Int) / 65536 % 256)= .int .u8 ((UInt8.ofNat (s0 / 256 ^ 2 % 256)).toNat:Nat):=by rw[←u8_cell _ (by omega)];simp only[Nat.reducePow];go_num
      have hlit:=(reads_lit (ecell▸Blk.new wr 5 #[.int .u8 ((s0:Int) / 65536 % 256)]:Blk _ _ _ #[.int .u8 ((UInt8.ofNat (s0 / 256 ^ 2 % 256)).toNat:Nat)]))
      rw[←ecell]at hlit
      have hsn:=sumB_snoc 2 s0
      have Hlit:=Lib.hid hlit
      have Hsn:=Lib.hid hsn
      have Ecell:=Lib.hid ecell
      clear hlit hsn ecell
      go_wp2_with (at_builtin;refine wpList_append_by rfl (.tmp 18) (.tmp 24) 25 25 5 rfl Tryz.underlying25 Tryz.underlying25 w.heap.size u3 _ rfl (hown.out.alloc _) _ _ _ _ [UInt8.ofNat (s0 / 256 ^ 2 % 256)] rfl Hlit.out (by have:=Hlen.out;simp;omega) (by simp;omega) ?_;intro v3 w3 hown3 hg3 hat3)
      have hb3:Below w.heap.size w w3:=(hb.out.alloc (by omega) _).grown hg3 (by simp;omega) (fun j e=>(hown.out.lt j e).1)
      rw[List.append_assoc,←Hsn.out]at hown3
      have Hown3:=Lib.hid hown3
      have Hb3:=Lib.hid hb3
      clear hown3 hb3
      clear hown hb hg3 hat3 Hsn
      go_wp2
      go_roundw
      case rel=>exact⟨2+1,by omega,by go_num,Hown3,Hb3⟩
      case measure=>simp[intOf]
    · have ecell:Value.int .u8 ((s0:Int) / 16777216)= .int .u8 ((UInt8.ofNat (s0 / 256 ^ 3 % 256)).toNat:Nat):=by rw[←u8_cell _ (by omega)];simp only[Nat.reducePow];go_num
      have hlit:=(reads_lit (ecell▸Blk.new wr 5 #[.int .u8 ((s0:Int) / 16777216)]:Blk _ _ _ #[.int .u8 ((UInt8.ofNat (s0 / 256 ^ 3 % 256)).toNat:Nat)]))
      rw[←ecell]at hlit
      have hsn:=sumB_snoc 3 s0
      have Hlit:=Lib.hid hlit
      have Hsn:=Lib.hid hsn
      have Ecell:=Lib.hid ecell
      clear hlit hsn ecell
      go_wp2_with (at_builtin;refine wpList_append_by rfl (.tmp 18) (.tmp 24) 25 25 5 rfl Tryz.underlying25 Tryz.underlying25 w.heap.size u3 _ rfl (hown.out.alloc _) _ _ _ _ [UInt8.ofNat (s0 / 256 ^ 3 % 256)] rfl Hlit.out (by have:=Hlen.out;simp;omega) (by simp;omega) ?_;intro v3 w3 hown3 hg3 hat3)
      have hb3:Below w.heap.size w w3:=(hb.out.alloc (by omega) _).grown hg3 (by simp;omega) (fun j e=>(hown.out.lt j e).1)
      rw[List.append_assoc,←Hsn.out]at hown3
      have Hown3:=Lib.hid hown3
      have Hb3:=Lib.hid hb3
      clear hown3 hb3
      clear hown hb hg3 hat3 Hsn
      go_wp2
      go_roundw
      case rel=>exact⟨3+1,by omega,by go_num,Hown3,Hb3⟩
      case measure=>simp[intOf]
  · obtain rfl:k=4:=by omega
    rw[←Hfin.out]at hown
    go_wp2
    go_ret
    exact BytesPost.of hown.out hb.out
set_option maxRecDepth 100000 in
set_option maxHeartbeats 2000000 in
theorem same_calls (l r:List UInt8) (a a':Option Addr) (n c n' c':Nat) (B:Bool) (w:World) (h:Holds w w.heap.size (.row 1 (dB l)) [.slice a n c]) (h':Holds w w.heap.size (.row 1 (dB r)) [.slice a' n' c']) (hl:l.length≤2000000000) (_:r.length≤2000000000) (hB:decide (l=r)=B):
 Calls Tryz.prog 11 #[.slice a n c, .slice a' n' c'] w fun e w'=>e= .returned (.bool B)∧Below w.heap.size w w':=by
 obtain rfl:=dB_n h
 obtain rfl:=dB_n h'
 by_cases hlen:l.length=r.length
 · have hlen':Hid (l.length=r.length):=hlen
   have hw0:Below w.heap.size w w:=Below.refl _ _
   have ht0:l.take 0=r.take 0:=by simp
   have hn:((l.length:Int) != (r.length:Int))=false:=by simp;omega
   have H:=Lib.hid h
   have H':=Lib.hid h'
   have HB:=Lib.hid hB
   have Hw0:=Lib.hid hw0
   have Ht0:=Lib.hid ht0
   clear h h' hB hw0 ht0
   clear hlen
   go_enter Tryz.func11,Tryz.ntmps11
   go_wp2
   go_loopw [5] (fun i wr=> ∃k:Nat,k≤l.length∧i= .int .i64 k∧Hid (l.take k=r.take k)∧Hid (Below w.heap.size w wr)) (fun i _=>l.length - (intOf i).toNat)
   case atStart=>exact⟨0,by omega,rfl,Ht0,Hw0⟩
   case round=>
    obtain⟨k,hk,rfl,ht,hb⟩:=hrel
    by_cases hlt:k<l.length
    · have hlt':k<r.length:=by have:=hlen'.out;omega
      obtain⟨x,hx⟩: ∃x,l[k]? =some x:=⟨_,List.getElem?_eq_getElem hlt⟩
      obtain⟨y,hy⟩: ∃y,r[k]? =some y:=⟨_,List.getElem?_eq_getElem hlt'⟩
      obtain⟨g,off,rfl,hg,hcell⟩:=dB_at (H.out.below hb.out) hx
      obtain⟨g',off',rfl,hg',hcell'⟩:=dB_at (H'.out.below hb.out) hy
      have htk: ∀(m:List UInt8) (z:UInt8),m[k]? =some z→m.take (k+1)=m.take k++ [z]:=by
       intro m z hz
       obtain⟨hm,rfl⟩:=List.getElem?_eq_some_iff.1 hz
       exact List.take_succ_eq_append_getElem hm
      have i1:(0:Int)≤k:=by omega
      have i2:(k:Int)<(l.length:Int):=by omega
      have i3:(k:Int)<(r.length:Int):=by omega
      by_cases he:x=y
      · subst he
        have ht':l.take (k+1)=r.take (k+1):=by rw[htk l x hx,htk r x hy,ht.out]
        have hE:((x.toNat:Int) != (x.toNat:Int))=false:=by simp
        have Ht':=Lib.hid ht'
        have Hx:=Lib.hid hx
        have Hy:=Lib.hid hy
        clear ht' hx hy
        clear htk ht
        go_wp2
        go_quiet (fail)
        go_wp2
        go_roundw
        case rel=>exact⟨k+1,by omega,by go_num,Ht',below_draws hb.out _⟩
        case measure=>simp[intOf];omega
      · have hf:B=false:=by
         rw[←HB.out,decide_eq_false_iff_not]
         intro e
         rw[e,hy]at hx
         exact he (Option.some.inj hx).symm
        have hE:((x.toNat:Int) != (y.toNat:Int))=true:=by
         simp only[bne_iff_ne,ne_eq]
         intro e
         exact he (UInt8.toNat_inj.1 (by omega))
        subst hf
        have Hx:=Lib.hid hx
        have Hy:=Lib.hid hy
        clear hx hy
        clear htk ht he HB
        go_wp2
        go_quiet (fail)
        go_wp2
        go_ret
        exact⟨rfl,below_draws hb.out _⟩
    · obtain rfl:k=l.length:=by omega
      have hf:B=true:=by
       have:=ht.out
       rw[List.take_length,hlen'.out,List.take_length]at this
       rw[←HB.out,this]
       simp
      subst hf
      clear HB
      go_wp2
      go_ret
      exact⟨rfl,hb.out⟩
 · have hf:B=false:=by
    rw[←hB,decide_eq_false_iff_not]
    intro e
    exact hlen (by rw[e])
   subst hf
   have hn:((l.length:Int) != (r.length:Int))=true:=by simp;omega
   have H:=Lib.hid h
   have H':=Lib.hid h'
   clear h h'
   clear hlen hB
   go_enter Tryz.func11,Tryz.ntmps11
   go_wp2
   go_ret
   exact⟨rfl,Below.refl _ _⟩
end Go.Proofs.YtackmnbpfbaemaaGreatDoor

namespace Go.Proofs.YtackmnbpfbaemaaGreatDoor
open Go.RowKit
theorem unless_calls (b:Bool) (n:Int) (w:World):Calls Tryz.prog 118 #[.bool b, .int .i64 n] w fun e w'=>e= .returned (.int .i64 (if b then 0 else n))∧w=w':=by
 cases b<;>(go_enter Tryz.func118,Tryz.ntmps118;go_wp2;go_ret;exact⟨rfl,rfl⟩)
theorem named_calls (k:UInt8) (hk:k≠0) (w:World):Calls Tryz.prog 76 #[.int .u8 k.toNat] w fun e w'=>e= .returned (.int .i64 0)∧w=w':=by
 have h:(((k.toNat:Nat):Int) != 0)=true:=by
  simp only[bne_iff_ne,ne_eq]
  intro e
  exact hk (UInt8.toNat_inj.1 (by simpa using e))
 have hC:=fun W=>unless_calls true 2 W
 have HC:=Lib.hid hC
 clear hC
 go_enter Tryz.func76,Tryz.ntmps76
 go_wp2_with (go_at_call 118;(with_reducible refine(HC.out _).mono ?_);rintro e w2 ⟨rfl,rfl⟩)
 go_ret
 exact⟨rfl,rfl⟩
theorem first_named (k:UInt8) (hk:k≠0) (g:Nat) (w:World) (hc:w.cell? ⟨g,0,none⟩=some (.func (.func 76) #[.int .u8 k.toNat] #[])):
 Calls Tryz.prog 77 #[.slice (some ⟨g,0,none⟩) 1 1] w fun e w'=>e= .returned (.int .i64 0)∧w=w':=by
 have hC:=fun W=>named_calls k hk W
 have HC:=Lib.hid hC
 clear hC
 go_enter Tryz.func77,Tryz.ntmps77
 go_wp2_with (fail)
 refine wp_loop_rounds 2 ?_
 rw[rounds_succ]
 go_wp2_with (go_at_call 76;(with_reducible refine(HC.out _).mono ?_);rintro e w2 ⟨rfl,rfl⟩)
 rw[rounds_succ]
 go_wp2
 go_ret
 exact⟨rfl,rfl⟩
theorem joined_calls (k:UInt8) (l:List UInt8) (a:Option Addr) (n c:Nat) (w:World) (h:Holds w w.heap.size (.row 1 (dB l)) [.slice a n c]) (hl:l.length≤1000000000):
 Calls Tryz.prog 79 #[.slice a n c, .int .u8 k.toNat] w (BytesPost (k::l) w):=by
 obtain⟨hn,hR⟩:=dB_reads h
 subst hn
 have hR0:=hR.alloc (Nat.le_refl _) (.cells #[.int .u8 k.toNat] 5)
 have hown0:(w.alloc (.cells #[.int .u8 k.toNat] 5)).ownsRow w.heap.size 5 1 (.slice (some ⟨w.heap.size,0,none⟩) 1 1) [k].length (bcells [k]):=World.ownsRow_lit w #[.int .u8 k.toNat] 1 (Nat.le_refl _) (by simp[maxLen]) rfl
 have H:=Lib.hid h
 have HR:=Lib.hid hR
 have HR0:=Lib.hid hR0
 have Hown0:=Lib.hid hown0
 clear h hR hR0 hown0
 go_enter Tryz.func79,Tryz.ntmps79
 go_wp2_with (at_builtin;refine wpList_append_by rfl (.tmp 6) (.tmp 7) 25 136 5 rfl Tryz.underlying25 Tryz.underlying136 w.heap.size (.slice (some ⟨w.heap.size,0,none⟩) 1 1) [k] rfl Hown0.out _ a _ c l rfl HR0.out (by simp;omega) (by simp) ?_;intro v1 w1 hown1 hg1 hat1)
 have hb1:Below w.heap.size w w1:=((Below.refl _ _).alloc (Nat.le_refl _) _).grown hg1 (by simp) (by simp[Value.ownBlock])
 have hF:=BytesPost.of (l:=k::l) hown1 hb1
 go_ret
 exact hF
def BytesPost0 (l:List UInt8) (w:World) (e:Ending) (w':World):Prop:= ∃a c,e= .returned (.tuple #[.slice a l.length (l.length+c), .int .i64 0])∧Fresh w.heap.size w' (.row 1 (dB l)) [.slice a l.length (l.length+c)]∧Below w.heap.size w w'
set_option maxHeartbeats 1000000 in
theorem frame_calls (k:UInt8) (hk:k≠0) (l:List UInt8) (a:Option Addr) (n c:Nat) (w:World) (h:Holds w w.heap.size (.row 1 (dB l)) [.slice a n c]) (hl:l.length≤900000000):
 Calls Tryz.prog 48 #[.int .u8 k.toNat, .slice a n c] w (BytesPost0 (sealL (k::l)) w):=by
 have hF:=fun W g hc=>first_named k hk g W hc
 have hb0: ∀o o',Below w.heap.size w ((w.alloc o).alloc o'):=fun o o'=>((Below.refl _ _).alloc (Nat.le_refl _) _).alloc (by simp) _
 have hJ:=fun(W:World) hb=>joined_calls k l a n c W ((h.below (w':=W) hb).more hb.size) (by omega)
 have hl':(k::l).length≤1000000000:=by simp;omega
 generalize k::l=L at hJ hl' ⊢
 have HF:=Lib.hid hF
 have HJ:=Lib.hid hJ
 have H:=Lib.hid h
 clear hF hJ h
 go_enter Tryz.func48,Tryz.ntmps48
 go_wp2_with (fail)
 go_at_call 77
 with_reducible refine(HF.out _ _ ?_).mono ?_
 · simp
 rintro e w2 ⟨rfl,rfl⟩
 go_wp2_with (fail)
 (with_reducible refine(HJ.out _ (hb0 _ _)).mono ?_);rintro e w2 ⟨a1,c1,rfl,hf1,hb1⟩
 go_wp2_with (fail)
 (with_reducible refine(seal_calls L a1 _ _ _ hf1.now hl').mono ?_);rintro e w3 ⟨a2,c2,rfl,hf2,hb2⟩
 go_wp2
 go_ret2
 have hz1:=hb1.size
 refine⟨a2,c2,rfl,hf2.keep (by simp at hz1;omega) (Nat.le_refl _) (fun _ _ _=>rfl),((hb0 _ _).trans (hb1.mono (by simp;omega))).trans (hb2.mono (by simp at hz1;omega))⟩
theorem rframe_calls (k:UInt8) (hk:k≠0) (l:List UInt8) (a:Option Addr) (n c:Nat) (w:World) (h:Holds w w.heap.size (.row 1 (dB l)) [.slice a n c]) (hl:l.length≤900000000):
 Calls Tryz.prog 29 #[.int .u8 k.toNat, .slice a n c] w (BytesPost0 (sealL (k::l)) w):=by
 obtain⟨hn,hR⟩:=dB_reads h
 subst hn
 have hne:(((k.toNat:Nat):Int)==0)=false:=by
  simp only[beq_eq_false_iff_ne,ne_eq]
  intro e
  exact hk (UInt8.toNat_inj.1 (by simpa using e))
 have hR0:=hR.alloc (Nat.le_refl _) (.cells #[.int .u8 k.toNat] 5)
 have hown0:(w.alloc (.cells #[.int .u8 k.toNat] 5)).ownsRow w.heap.size 5 1 (.slice (some ⟨w.heap.size,0,none⟩) 1 1) [k].length (bcells [k]):=World.ownsRow_lit w #[.int .u8 k.toNat] 1 (Nat.le_refl _) (by simp[maxLen]) rfl
 have hl':(k::l).length≤1000000000:=by simp;omega
 obtain⟨L,hL⟩: ∃L,k::l=L:=⟨_,rfl⟩
 rw[hL]at hl' ⊢
 have H:=Lib.hid h
 have HR:=Lib.hid hR
 have HR0:=Lib.hid hR0
 have Hown0:=Lib.hid hown0
 have HL:=Lib.hid hL
 clear h hR hR0 hown0 hL
 go_enter Tryz.func29,Tryz.ntmps29
 go_wp2_with (at_builtin;refine wpList_append_by rfl (.tmp 9) (.tmp 10) 25 25 5 rfl Tryz.underlying25 Tryz.underlying25 w.heap.size (.slice (some ⟨w.heap.size,0,none⟩) 1 1) [k] rfl Hown0.out _ a _ c l rfl HR0.out (by simp;omega) (by simp) ?_;intro v1 w1 hown1 hg1 hat1)
 have hb1:Below w.heap.size w w1:=((Below.refl _ _).alloc (Nat.le_refl _) _).grown hg1 (by simp) (by simp[Value.ownBlock])
 rw[show [k]++l=L from HL.out]at hown1
 obtain⟨a1,c1,rfl,hf1⟩:=own_bytes (l:=L) hown1
 have hz1:=hb1.size
 clear hown1 hg1 hat1
 go_wp2_with (go_at_call 52;(with_reducible refine(rseal_calls L a1 _ _ _ hf1.now hl').mono ?_);rintro e w3 ⟨a2,c2,rfl,hf2,hb2⟩)
 go_ret2
 exact⟨a2,c2,rfl,hf2.keep hz1 (Nat.le_refl _) (fun _ _ _=>rfl),hb1.trans (hb2.mono hz1)⟩
end Go.Proofs.YtackmnbpfbaemaaGreatDoor

namespace Go.Proofs.YtackmnbpfbaemaaGreatDoor
open Go Go.RowKit
theorem textual_calls (s:ByteArray) (w:World):Calls Tryz.prog 99 #[.string s] w fun e w'=>e= .returned (.agg #[.int .i64 4, .bool false, .int .i64 0, .string s, .slice none 0 0, .slice none 0 0])∧Below w.heap.size w w':=by
 go_enter Tryz.func99,Tryz.ntmps99
 go_wp2
 exact bodyPost_ret (v:= .agg #[.int .i64 4, .bool false, .int .i64 0, .string s, .slice none 0 0, .slice none 0 0]) (by simp[results,Tryz.results99,go_sem]) rfl ⟨rfl,(Below.refl _ _).alloc (Nat.le_refl _) _⟩
theorem number_calls (key:ByteArray) (n:Int) (h0:0≤n) (h1:n≤4611686018427387903) (w:World):Calls Tryz.prog 25 #[.string key, .int .u64 n] w fun e w'=>e= .returned (.agg #[.string key, .int .i64 3, .bool false, .int .i64 n, .string ⟨#[]⟩, .slice none 0 0, .slice none 0 0])∧Below w.heap.size w w':=by
 go_enter Tryz.func25,Tryz.ntmps25
 go_wp2
 exact bodyPost_ret (v:= .agg #[.string key, .int .i64 3, .bool false, .int .i64 n, .string ⟨#[]⟩, .slice none 0 0, .slice none 0 0]) (by simp[results,Tryz.results25,go_sem]) rfl ⟨rfl,(Below.refl _ _).alloc (Nat.le_refl _) _⟩
theorem toB_nat (s:ByteArray):s.size=s.data.toList.length:=Lib.size_eq s
set_option maxRecDepth 100000 in
theorem lframed_calls (k:UInt8) (hk:k≠0) (s:ByteArray) (hs:s.size≤900000000) (w:World):
 Calls Tryz.prog 19 #[.int .u8 k.toNat, .string s] w (BytesPost (sealL (k::s.data.toList)) w):=by
 have hF:=fun W a n c h=>rframe_calls k hk s.data.toList a n c W h (by rw[←toB_nat];exact hs)
 generalize sealL (k::s.data.toList)=L at hF ⊢
 have HF:=Lib.hid hF
 clear hF
 go_enter Tryz.func19,Tryz.ntmps19
 go_wp2_with (first
  |(refine wpList_to_bytes rfl 9 25 5 (.tmp 9) rfl Tryz.underlying9 Tryz.underlying25 Tryz.underlying5 s rfl ?_;intro cap w1 hb1 hf1)
  |(go_at_call 29;(with_reducible refine(HF.out _ _ _ _ hf1.now).mono ?_);rintro e w3 ⟨a2,c2,rfl,hf2,hb2⟩))
 go_ret
 exact⟨a2,c2,rfl,hf2.keep hb1.size (Nat.le_refl _) (fun _ _ _=>rfl),hb1.trans (hb2.mono hb1.size)⟩
set_option maxRecDepth 100000 in
set_option maxHeartbeats 1000000 in
theorem pframed_calls (k:UInt8) (hk:k≠0) (o o':List (ByteArray×Val)) (a:Option Addr) (n c:Nat) (w:World) (hT:Tabs w) (h:Holds w w.heap.size (.row 7 (dO o)) [.slice a n c]) (hb:bulkO o≤90000000)
 (ho:objAll o []=some o') (hm:mayV (ov o') 1=0) (hi:inV (ov o')):
 Calls Tryz.prog 24 #[.int .u8 k.toNat, .slice a n c] w (BytesPost0 (sealL (k::textV (ov o'))) w):=by
 have hO:Calls Tryz.prog 46 #[.slice a n c] w fun e w'=>Below w.heap.size w w'∧ ∃la lc oa oc,e= .returned (.tuple #[.agg #[.int .i64 6, .bool false, .int .i64 0, .string ⟨#[]⟩, .slice la 0 lc, .slice oa o'.length oc], .int .i64 0])∧Fresh w.heap.size w' (dV (ov o')) [.int .i64 6, .bool false, .int .i64 0, .string ⟨#[]⟩, .slice la 0 lc, .slice oa o'.length oc]:=by
  refine(vobj_calls o a n c w h hb).mono ?_
  rintro e w' ⟨hb',⟨hn,_⟩|⟨o2,cs,h2,rfl,hl,hf⟩⟩
  · rw[ho]at hn;cases hn
  · rw[ho]at h2
    cases h2
    have hv:=holdsV_of (.mk 6 false 0 ⟨#[]⟩ [] o') _ hf.now
    simp only[HoldsV]at hv
    obtain⟨la,lc,oa,oc,rfl,_,_⟩:=hv
    exact⟨hb',la,lc,oa,oc,rfl,hf⟩
 have hbv:(ov o').bulk≤90000010:=by
  have:=objAll_bulk ho
  simp only[ov,Val.bulk,bulkL,bulkO,nil0,ByteArray.size]at this ⊢
  simp;omega
 have hok:=okV_of _ 1 hm hi
 have hlen:=textV_len (ov o') hok
 have hT2:=fun(W:World) (hB:Below w.heap.size w W) cs hv=>Text_calls (ov o') cs W (hT.below hB) hv (by omega) hi
 have hts:textS (ov o')=⟨(textV (ov o')).toArray⟩:=by unfold textS;rw[if_pos hm]
 simp only[hts,hm]at hT2
 clear hts
 have hFr:=fun(W:World) a n c hh=>frame_calls k hk (textV (ov o')) a n c W hh (by omega)
 obtain⟨S,hS⟩: ∃S:ByteArray,⟨(textV (ov o')).toArray⟩=S:=⟨_,rfl⟩
 have hSe:textV (ov o')=S.data.toList:=by rw[←hS]
 rw[hS]at hT2
 rw[hSe]at hFr hlen ⊢
 generalize sealL (k::S.data.toList)=L at hFr ⊢
 obtain⟨V,hV⟩: ∃V,ov o'=V:=⟨_,rfl⟩
 rw[hV]at hO hT2 hlen
 have HO:=Lib.hid hO
 have HT2:=Lib.hid hT2
 have HFr:=Lib.hid hFr
 have HT:=Lib.hid hT
 have H:=Lib.hid h
 have HS:=Lib.hid hS
 have HSe:=Lib.hid hSe
 have HV:=Lib.hid hV
 clear hO hT2 hFr hT h hS hSe hV
 clear hm hi hok
 go_enter Tryz.func24,Tryz.ntmps24
 go_wp2_with (first
  |(go_at_call 46;(with_reducible refine(HO.out).mono ?_);rintro e w1 ⟨hb1,la,lc,oa,oc,rfl,hf1⟩)
  |(go_at_call 47;(with_reducible refine(HT2.out _ (hb1.alloc hb1.size _) _ (holdsV_of _ _ (hf1.later (alloc_below _ _)).now)).mono ?_);rintro e w2 ⟨rfl,hb2⟩)
  |(refine wpList_to_bytes rfl 9 25 5 (.tmp 26) rfl Tryz.underlying9 Tryz.underlying25 Tryz.underlying5 S rfl ?_;intro cap w3 hb3 hf3)
  |(go_at_call 48;(with_reducible refine(HFr.out _ _ _ _ hf3.now).mono ?_);rintro e w4 ⟨a2,c2,rfl,hf4,hb4⟩))
 go_ret2
 have z2:w.heap.size≤w2.heap.size:=by have h2:=hb2.size;have h1:=hb1.size;rw[World.size_alloc]at h2;omega
 have z3:=hb3.size
 exact⟨a2,c2,rfl,hf4.keep (by omega) (Nat.le_refl _) (fun _ _ _=>rfl),(((hb1.alloc hb1.size _).trans (hb2.mono (by have:=hb1.size;simp;omega))).trans (hb3.mono z2)).trans (hb4.mono (by omega))⟩
end Go.Proofs.YtackmnbpfbaemaaGreatDoor
