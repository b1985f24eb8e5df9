/- Parts: patch.List: the list of a patch. Condition: a bulk of at most 5 * 10^7. -/
import Derived.Laws.Entries
import Derived.LoopN
import Derived.Test.YtackmnbpfbaemaaGreatDoorKPr8
import Derived.Test.YtackmnbpfbaemaaGreatDoorKPr21
import Derived.Test.YtackmnbpfbaemaaGreatDoorKPr24
set_option maxHeartbeats 20000000
namespace Go.Proofs.YtackmnbpfbaemaaGreatDoor
open Go.RowKit
theorem Vw {P:Program} (t e:TypeId) (i:TypeInfo) (z:Value) (ht:P.underlying t=some (.slice e)) (hi:P.info? e=some i) (hz:i.zero=some z)
 (kl kc:IntKind) (n c:Nat) (hnc:n<=c) (hbytes:i.bytes*c<=281474976710656) (h63:c<=9223372036854775807) (w:World):
 (Instr.makeSlice t (.int kl (n:Int)) (.int kc (c:Int))).run P w=.ok (.slice (some ⟨w.heap.size,0,none⟩) n c) (w.alloc (.cells (madeCells z.cells (c*i.size)) e)):=by
 have hb:(i.bytes:Int)*(c:Int)<=281474976710656:=by
  have h:((i.bytes*c:Nat):Int)<=281474976710656:=by omega
  rwa [Int.natCast_mul]at h
 have hr:=run_make (P:=P) w t e i z ht hi hz kl kc n c (by omega) (by omega) hb (by omega);simp only[Int.toNat_natCast]at hr;exact hr
theorem I0 {B:Nat} {a w:World} (h:Below B a w) (n:Nat):Below B a (w.drewN n):=⟨h.os,h.tape,h.output,h.size,h.block⟩
set_option maxRecDepth 100000 in
theorem Aeq (l:List UInt8) (a:Option Addr) (n c:Nat) (w:World) (h:Ae w w.heap.size (.row 1 (dB l)) [.slice a n c]) (hl:l.length<=1000000000):
 Calls Tryz.prog 78 #[.slice a n c] w (Ee (C1 l) w):=by
 obtain⟨hn,hR⟩:=Ld h;subst hn;obtain⟨i0,hi,hz,hz1,hz2⟩:=info_parts Af3;have hmk: ∀W:World,∃cur:Array Value,cur.size=l.length+4/\(Instr.makeSlice 25 (.int .i64 0) (.int .i64 ((l.length:Int)+4))).run Tryz.prog W=.ok (.slice (some ⟨W.heap.size,0,none⟩) 0 (l.length+4)) (W.alloc (.cells cur 5)):=by
  intro W;have:=Vw (P:=Tryz.prog) 25 5 i0 _ Tryz.underlying25 hi hz .i64 .i64 0 (l.length+4) (by omega) (by rw[hz2];omega) (by omega) W;refine⟨_, ?_,by rw[show(((l.length+4:Nat)):Int)=(l.length:Int)+4 from by omega]at this;exact this⟩;rw[hz1];simp[madeCells]
 obtain⟨cur,hcs,hm⟩:=hmk w;have hown0:(w.alloc (.cells cur 5)).ownsRow w.heap.size 5 1 (.slice (some ⟨w.heap.size,0,none⟩) 0 (l.length+4)) ([]:List UInt8).length (Cj []):=World.ownsRow_made w cur (l.length+4) (Nat.le_refl _) (by simp only[maxLen];omega) (by omega);have hR0:=hR.alloc (Nat.le_refl _) (.cells cur 5);obtain⟨H,HR,Hown0,HR0,Hi,Hz,Hz1,Hz2,Hcs⟩:=hid9 h hR hown0 hR0 hi hz hz1 hz2 hcs;clear h hR hown0 hR0 hi hz hz1 hz2 hcs;clear hmk;go_enter Tryz.func78,Tryz.ntmps78;go_wp2_with (at_builtin;refine Br rfl (.tmp 10) (.tmp 11) 25 25 5 rfl Tryz.underlying25 Tryz.underlying25 w.heap.size (.slice (some ⟨w.heap.size,0,none⟩) 0 (l.length+4)) [] rfl Hown0.out _ a _ c l rfl HR0.out (by simp;omega) (by simp) ?_;intro v1 w1 hown1 hg1 hat1);have hb1:Below w.heap.size w w1:=((Below.refl _ _).alloc (Nat.le_refl _) _).grown hg1 (by simp) (by simp[Value.ownBlock]);rw[List.nil_append]at hown1;have hC:=Xk l a l.length c w1 ((H.out.below hb1).more hb1.size) hl;have hcl:=Ly 0 l;have hsf:=Xj (C5 0 l);obtain⟨s0,hs0⟩: ∃s0,C5 0 l=s0:=⟨_,rfl⟩;rw[hs0]at hC hcl hsf;have hfin:C1 l=l++Ki s0 4:=by unfold C1;rw[hsf,hs0]
 obtain⟨HC,Hown1,Hg1,Hb1,Hat1,Hfin,Hsf,Hs0⟩:=hid8 hC hown1 hg1 hb1 hat1 hfin hsf hs0;clear hC hown1 hg1 hb1 hat1 hfin hsf hs0;clear hm;go_wp2_with (go_at_call 119;with_reducible refine(HC.out).mono ?_;rintro e w2 ⟨rfl,hb2⟩);have hb12:=Hb1.out.trans (hb2.mono Hb1.out.size);have hown2:w2.ownsRow w.heap.size 5 1 v1 l.length (Cj l):=Hown1.out.kept (row:=none) ⟨hb2.os,hb2.tape,hb2.output,hb2.size,fun i hi _=>hb2.block i hi⟩ (by cases hv:v1.ownBlock<;>simp);obtain⟨Hb12,Hown2⟩:=hid2 hb12 hown2;clear hb12 hown2;clear hb2;go_loopw [3,15] (fun v i wr=> ∃k:Nat,k<=4/\i=.int .i64 k/\Hid (wr.ownsRow w.heap.size 5 1 v (l++Ki s0 k).length (Cj (l++Ki s0 k)))/\Hid (Below w.heap.size w wr)) (fun _ i _=>4 - (intOf i).toNat)
 case atStart=>exact⟨0,by omega,rfl,by rw[show l++Ki s0 0=l from by simp[Ki]];exact Hown2,Hb12⟩
 case round=>
  obtain⟨k,hk,rfl,hown,hb⟩:=hrel;by_cases hlt:k<4
  . have hz:=hb.out.size;have hlen:=Uu k s0;have Hlen:=Lib.hid hlen;clear hlen;clear Hown2 Hb12;have hk4:k=0\/k=1\/k=2\/k=3:=by omega
    rcases hk4 with rfl|rfl|rfl|rfl
    . have ecell:Value.int .u8 ((s0:Int) % 256)=.int .u8 ((UInt8.ofNat (s0 / 256 ^ 0 % 256)).toNat:Nat):=by rw[<-Qe _ (by omega)];simp only[Nat.reducePow,Nat.div_one];go_num
      have hlit:=(Lm (ecell▸An.new wr 5 #[.int .u8 ((s0:Int) % 256)]:An _ _ _ #[.int .u8 ((UInt8.ofNat (s0 / 256 ^ 0 % 256)).toNat:Nat)]));rw[<-ecell]at hlit;have hsn:=J4 0 s0;obtain⟨Hlit,Hsn,Ecell⟩:=hid3 hlit hsn ecell;clear hlit hsn ecell;go_wp2_with (at_builtin;refine Br rfl (.tmp 18) (.tmp 24) 25 25 5 rfl Tryz.underlying25 Tryz.underlying25 w.heap.size u3 _ rfl (hown.out.alloc _) _ _ _ _ [UInt8.ofNat (s0 / 256 ^ 0 % 256)] rfl Hlit.out (by have:=Hlen.out;simp;omega) (by simp;omega) ?_;intro v3 w3 hown3 hg3 hat3);have hb3:Below w.heap.size w w3:=(hb.out.alloc (by omega) _).grown hg3 (by simp;omega) (fun j e=>(hown.out.lt j e).1);rw[List.append_assoc,<-Hsn.out]at hown3;obtain⟨Hown3,Hb3⟩:=hid2 hown3 hb3;clear hown3 hb3;clear hown hb hg3 hat3 Hsn;go_wp2;go_roundw
      case rel=>exact⟨0+1,by omega,by go_num,Hown3,Hb3⟩
      case measure=>simp[intOf]
    . have ecell:Value.int .u8 ((s0:Int) / 256 % 256)=.int .u8 ((UInt8.ofNat (s0 / 256 ^ 1 % 256)).toNat:Nat):=by rw[<-Qe _ (by omega)];simp only[Nat.reducePow];go_num
      have hlit:=(Lm (ecell▸An.new wr 5 #[.int .u8 ((s0:Int) / 256 % 256)]:An _ _ _ #[.int .u8 ((UInt8.ofNat (s0 / 256 ^ 1 % 256)).toNat:Nat)]));rw[<-ecell]at hlit;have hsn:=J4 1 s0;obtain⟨Hlit,Hsn,Ecell⟩:=hid3 hlit hsn ecell;clear hlit hsn ecell;go_wp2_with (at_builtin;refine Br rfl (.tmp 18) (.tmp 24) 25 25 5 rfl Tryz.underlying25 Tryz.underlying25 w.heap.size u3 _ rfl (hown.out.alloc _) _ _ _ _ [UInt8.ofNat (s0 / 256 ^ 1 % 256)] rfl Hlit.out (by have:=Hlen.out;simp;omega) (by simp;omega) ?_;intro v3 w3 hown3 hg3 hat3);have hb3:Below w.heap.size w w3:=(hb.out.alloc (by omega) _).grown hg3 (by simp;omega) (fun j e=>(hown.out.lt j e).1);rw[List.append_assoc,<-Hsn.out]at hown3;obtain⟨Hown3,Hb3⟩:=hid2 hown3 hb3;clear hown3 hb3;clear hown hb hg3 hat3 Hsn;go_wp2;go_roundw
      case rel=>exact⟨1+1,by omega,by go_num,Hown3,Hb3⟩
      case measure=>simp[intOf]
    . have ecell:Value.int .u8 ((s0:Int) / 65536 % 256)=.int .u8 ((UInt8.ofNat (s0 / 256 ^ 2 % 256)).toNat:Nat):=by rw[<-Qe _ (by omega)];simp only[Nat.reducePow];go_num
      have hlit:=(Lm (ecell▸An.new wr 5 #[.int .u8 ((s0:Int) / 65536 % 256)]:An _ _ _ #[.int .u8 ((UInt8.ofNat (s0 / 256 ^ 2 % 256)).toNat:Nat)]));rw[<-ecell]at hlit;have hsn:=J4 2 s0;obtain⟨Hlit,Hsn,Ecell⟩:=hid3 hlit hsn ecell;clear hlit hsn ecell;go_wp2_with (at_builtin;refine Br rfl (.tmp 18) (.tmp 24) 25 25 5 rfl Tryz.underlying25 Tryz.underlying25 w.heap.size u3 _ rfl (hown.out.alloc _) _ _ _ _ [UInt8.ofNat (s0 / 256 ^ 2 % 256)] rfl Hlit.out (by have:=Hlen.out;simp;omega) (by simp;omega) ?_;intro v3 w3 hown3 hg3 hat3);have hb3:Below w.heap.size w w3:=(hb.out.alloc (by omega) _).grown hg3 (by simp;omega) (fun j e=>(hown.out.lt j e).1);rw[List.append_assoc,<-Hsn.out]at hown3;obtain⟨Hown3,Hb3⟩:=hid2 hown3 hb3;clear hown3 hb3;clear hown hb hg3 hat3 Hsn;go_wp2;go_roundw
      case rel=>exact⟨2+1,by omega,by go_num,Hown3,Hb3⟩
      case measure=>simp[intOf]
    . have ecell:Value.int .u8 ((s0:Int) / 16777216)=.int .u8 ((UInt8.ofNat (s0 / 256 ^ 3 % 256)).toNat:Nat):=by rw[<-Qe _ (by omega)];simp only[Nat.reducePow];go_num
      have hlit:=(Lm (ecell▸An.new wr 5 #[.int .u8 ((s0:Int) / 16777216)]:An _ _ _ #[.int .u8 ((UInt8.ofNat (s0 / 256 ^ 3 % 256)).toNat:Nat)]));rw[<-ecell]at hlit;have hsn:=J4 3 s0;obtain⟨Hlit,Hsn,Ecell⟩:=hid3 hlit hsn ecell;clear hlit hsn ecell;go_wp2_with (at_builtin;refine Br rfl (.tmp 18) (.tmp 24) 25 25 5 rfl Tryz.underlying25 Tryz.underlying25 w.heap.size u3 _ rfl (hown.out.alloc _) _ _ _ _ [UInt8.ofNat (s0 / 256 ^ 3 % 256)] rfl Hlit.out (by have:=Hlen.out;simp;omega) (by simp;omega) ?_;intro v3 w3 hown3 hg3 hat3);have hb3:Below w.heap.size w w3:=(hb.out.alloc (by omega) _).grown hg3 (by simp;omega) (fun j e=>(hown.out.lt j e).1);rw[List.append_assoc,<-Hsn.out]at hown3;obtain⟨Hown3,Hb3⟩:=hid2 hown3 hb3;clear hown3 hb3;clear hown hb hg3 hat3 Hsn;go_wp2;go_roundw
      case rel=>exact⟨3+1,by omega,by go_num,Hown3,Hb3⟩
      case measure=>simp[intOf]
  . obtain rfl:k=4:=by omega
    rw[<-Hfin.out]at hown;go_wp2;go_ret;exact Ee.of hown.out hb.out
set_option maxRecDepth 100000 in
theorem O2 (l r:List UInt8) (a a':Option Addr) (n c n' c':Nat) (B:Bool) (w:World) (h:Ae w w.heap.size (.row 1 (dB l)) [.slice a n c]) (h':Ae w w.heap.size (.row 1 (dB r)) [.slice a' n' c']) (hl:l.length<=2000000000) (_:r.length<=2000000000) (hB:decide (l=r)=B):
 Calls Tryz.prog 11 #[.slice a n c,.slice a' n' c'] w fun e w'=>e=.returned (.bool B)/\Below w.heap.size w w':=by
 obtain rfl:=Sp h;obtain rfl:=Sp h';by_cases hlen:l.length=r.length
 . have hlen':Hid (l.length=r.length):=hlen;have hw0:Below w.heap.size w w:=Below.refl _ _;have ht0:l.take 0=r.take 0:=by simp
   have hn:((l.length:Int) != (r.length:Int))=false:=by simp;omega
   obtain⟨H,H',HB,Hw0,Ht0⟩:=hid5 h h' hB hw0 ht0;clear h h' hB hw0 ht0;clear hlen;go_enter Tryz.func11,Tryz.ntmps11;go_wp2;go_loopw [5] (fun i wr=> ∃k:Nat,k<=l.length/\i=.int .i64 k/\Hid (l.take k=r.take k)/\Hid (Below w.heap.size w wr)) (fun i _=>l.length - (intOf i).toNat)
   case atStart=>exact⟨0,by omega,rfl,Ht0,Hw0⟩
   case round=>
    obtain⟨k,hk,rfl,ht,hb⟩:=hrel;by_cases hlt:k<l.length
    . have hlt':k<r.length:=by have:=hlen'.out;omega
      obtain⟨x,hx⟩: ∃x,l[k]? =some x:=⟨_,List.getElem?_eq_getElem hlt⟩;obtain⟨y,hy⟩: ∃y,r[k]? =some y:=⟨_,List.getElem?_eq_getElem hlt'⟩;obtain⟨g,off,rfl,hg,hcell⟩:=Rn (H.out.below hb.out) hx;obtain⟨g',off',rfl,hg',hcell'⟩:=Rn (H'.out.below hb.out) hy;have htk: ∀(m:List UInt8) (z:UInt8),m[k]? =some z->m.take (k+1)=m.take k++ [z]:=by
       intro m z hz;obtain⟨hm,rfl⟩:=List.getElem?_eq_some_iff.1 hz;exact List.take_succ_eq_append_getElem hm
      have i1:(0:Int)<=k:=by omega
      have i2:(k:Int)<(l.length:Int):=by omega
      have i3:(k:Int)<(r.length:Int):=by omega
      by_cases he:x=y
      . subst he;have ht':l.take (k+1)=r.take (k+1):=by rw[htk l x hx,htk r x hy,ht.out]
        have hE:((x.toNat:Int) != (x.toNat:Int))=false:=by simp
        obtain⟨Ht',Hx,Hy⟩:=hid3 ht' hx hy;clear ht' hx hy;clear htk ht;go_wp2;go_quiet (fail);go_wp2;go_roundw
        case rel=>exact⟨k+1,by omega,by go_num,Ht',I0 hb.out _⟩
        case measure=>simp[intOf];omega
      . have hf:B=false:=by
         rw[<-HB.out,decide_eq_false_iff_not];intro e;rw[e,hy]at hx;exact he (Option.some.inj hx).symm
        have hE:((x.toNat:Int) != (y.toNat:Int))=true:=by
         simp only[bne_iff_ne,ne_eq];intro e;exact he (UInt8.toNat_inj.1 (by omega))
        subst hf;obtain⟨Hx,Hy⟩:=hid2 hx hy;clear hx hy;clear htk ht he HB;go_wp2;go_quiet (fail);go_wp2;go_ret;exact⟨rfl,I0 hb.out _⟩
    . obtain rfl:k=l.length:=by omega
      have hf:B=true:=by
       have:=ht.out;rw[List.take_length,hlen'.out,List.take_length]at this;rw[<-HB.out,this];simp
      subst hf;clear HB;go_wp2;go_ret;exact⟨rfl,hb.out⟩
 . have hf:B=false:=by
    rw[<-hB,decide_eq_false_iff_not];intro e;exact hlen (by rw[e])
   subst hf;have hn:((l.length:Int) != (r.length:Int))=true:=by simp;omega
   obtain⟨H,H'⟩:=hid2 h h';clear h h';clear hlen hB;go_enter Tryz.func11,Tryz.ntmps11;go_wp2;go_ret;exact⟨rfl,Below.refl _ _⟩
theorem L8 (b:Bool) (n:Int) (w:World):Calls Tryz.prog 118 #[.bool b,.int .i64 n] w fun e w'=>e=.returned (.int .i64 (if b then 0 else n))/\w=w':=by
 cases b<;>(go_enter Tryz.func118,Tryz.ntmps118;go_wp2;go_ret;exact⟨rfl,rfl⟩)
theorem Aa2 (k:UInt8) (hk:k≠0) (w:World):Calls Tryz.prog 76 #[.int .u8 k.toNat] w fun e w'=>e=.returned (.int .i64 0)/\w=w':=by
 have h:(((k.toNat:Nat):Int) != 0)=true:=by
  simp only[bne_iff_ne,ne_eq];intro e;exact hk (UInt8.toNat_inj.1 (by simpa using e))
 have hC:=fun W=>L8 true 2 W;have HC:=Lib.hid hC;clear hC;go_enter Tryz.func76,Tryz.ntmps76;go_wp2_with (go_at_call 118;(with_reducible refine(HC.out _).mono ?_);rintro e w2 ⟨rfl,rfl⟩);go_ret;exact⟨rfl,rfl⟩
theorem Aaj (k:UInt8) (hk:k≠0) (g:Nat) (w:World) (hc:w.cell? ⟨g,0,none⟩=some (.func (.func 76) #[.int .u8 k.toNat] #[])):
 Calls Tryz.prog 77 #[.slice (some ⟨g,0,none⟩) 1 1] w fun e w'=>e=.returned (.int .i64 0)/\w=w':=by
 have hC:=fun W=>Aa2 k hk W;have HC:=Lib.hid hC;clear hC;go_enter Tryz.func77,Tryz.ntmps77;go_wp2_with (fail);refine wp_loop_rounds 2 ?_;rw[rounds_succ];go_wp2_with (go_at_call 76;(with_reducible refine(HC.out _).mono ?_);rintro e w2 ⟨rfl,rfl⟩);rw[rounds_succ];go_wp2;go_ret;exact⟨rfl,rfl⟩
theorem Yj (k:UInt8) (l:List UInt8) (a:Option Addr) (n c:Nat) (w:World) (h:Ae w w.heap.size (.row 1 (dB l)) [.slice a n c]) (hl:l.length<=1000000000):
 Calls Tryz.prog 79 #[.slice a n c,.int .u8 k.toNat] w (Ee (k::l) w):=by
 obtain⟨hn,hR⟩:=Ld h;subst hn;have hR0:=hR.alloc (Nat.le_refl _) (.cells #[.int .u8 k.toNat] 5);have hown0:(w.alloc (.cells #[.int .u8 k.toNat] 5)).ownsRow w.heap.size 5 1 (.slice (some ⟨w.heap.size,0,none⟩) 1 1) [k].length (Cj [k]):=World.ownsRow_lit w #[.int .u8 k.toNat] 1 (Nat.le_refl _) (by simp[maxLen]) rfl;obtain⟨H,HR,HR0,Hown0⟩:=hid4 h hR hR0 hown0;clear h hR hR0 hown0;go_enter Tryz.func79,Tryz.ntmps79;go_wp2_with (at_builtin;refine Br rfl (.tmp 6) (.tmp 7) 25 136 5 rfl Tryz.underlying25 Tryz.underlying136 w.heap.size (.slice (some ⟨w.heap.size,0,none⟩) 1 1) [k] rfl Hown0.out _ a _ c l rfl HR0.out (by simp;omega) (by simp) ?_;intro v1 w1 hown1 hg1 hat1);have hb1:Below w.heap.size w w1:=((Below.refl _ _).alloc (Nat.le_refl _) _).grown hg1 (by simp) (by simp[Value.ownBlock]);have hF:=Ee.of (l:=k::l) hown1 hb1;go_ret;exact hF
def J6 (l:List UInt8) (w:World) (e:Ending) (w':World):Prop:= ∃a c,e=.returned (.tuple #[.slice a l.length (l.length+c),.int .i64 0])/\Ap w.heap.size w' (.row 1 (dB l)) [.slice a l.length (l.length+c)]/\Below w.heap.size w w'
theorem Aal (k:UInt8) (hk:k≠0) (l:List UInt8) (a:Option Addr) (n c:Nat) (w:World) (h:Ae w w.heap.size (.row 1 (dB l)) [.slice a n c]) (hl:l.length<=900000000):
 Calls Tryz.prog 48 #[.int .u8 k.toNat,.slice a n c] w (J6 (C1 (k::l)) w):=by
 have hF:=fun W g hc=>Aaj k hk g W hc;have hb0: ∀o o',Below w.heap.size w ((w.alloc o).alloc o'):=fun o o'=>((Below.refl _ _).alloc (Nat.le_refl _) _).alloc (by simp) _;have hJ:=fun(W:World) hb=>Yj k l a n c W ((h.below (w':=W) hb).more hb.size) (by omega);have hl':(k::l).length<=1000000000:=by simp;omega
 generalize k::l=L at hJ hl' ⊢;obtain⟨HF,HJ,H⟩:=hid3 hF hJ h;clear hF hJ h;go_enter Tryz.func48,Tryz.ntmps48;go_wp2_with (fail);go_at_call 77;with_reducible refine(HF.out _ _ ?_).mono ?_
 . simp
 rintro e w2 ⟨rfl,rfl⟩;go_wp2_with (fail)
 (with_reducible refine(HJ.out _ (hb0 _ _)).mono ?_);rintro e w2 ⟨a1,c1,rfl,hf1,hb1⟩
 go_wp2_with (fail)
 (with_reducible refine(Aeq L a1 _ _ _ hf1.now hl').mono ?_);rintro e w3 ⟨a2,c2,rfl,hf2,hb2⟩
 go_wp2;go_ret2;have hz1:=hb1.size;refine⟨a2,c2,rfl,hf2.keep (by simp at hz1;omega) (Nat.le_refl _) (fun _ _ _=>rfl),((hb0 _ _).trans (hb1.mono (by simp;omega))).trans (hb2.mono (by simp at hz1;omega))⟩
theorem Y6 (k:UInt8) (hk:k≠0) (l:List UInt8) (a:Option Addr) (n c:Nat) (w:World) (h:Ae w w.heap.size (.row 1 (dB l)) [.slice a n c]) (hl:l.length<=900000000):
 Calls Tryz.prog 29 #[.int .u8 k.toNat,.slice a n c] w (J6 (C1 (k::l)) w):=by
 obtain⟨hn,hR⟩:=Ld h;subst hn;have hne:(((k.toNat:Nat):Int)==0)=false:=by
  simp only[beq_eq_false_iff_ne,ne_eq];intro e;exact hk (UInt8.toNat_inj.1 (by simpa using e))
 have hR0:=hR.alloc (Nat.le_refl _) (.cells #[.int .u8 k.toNat] 5);have hown0:(w.alloc (.cells #[.int .u8 k.toNat] 5)).ownsRow w.heap.size 5 1 (.slice (some ⟨w.heap.size,0,none⟩) 1 1) [k].length (Cj [k]):=World.ownsRow_lit w #[.int .u8 k.toNat] 1 (Nat.le_refl _) (by simp[maxLen]) rfl;have hl':(k::l).length<=1000000000:=by simp;omega
 obtain⟨L,hL⟩: ∃L,k::l=L:=⟨_,rfl⟩;rw[hL]at hl' ⊢;obtain⟨H,HR,HR0,Hown0,HL⟩:=hid5 h hR hR0 hown0 hL;clear h hR hR0 hown0 hL;go_enter Tryz.func29,Tryz.ntmps29;go_wp2_with (at_builtin;refine Br rfl (.tmp 9) (.tmp 10) 25 25 5 rfl Tryz.underlying25 Tryz.underlying25 w.heap.size (.slice (some ⟨w.heap.size,0,none⟩) 1 1) [k] rfl Hown0.out _ a _ c l rfl HR0.out (by simp;omega) (by simp) ?_;intro v1 w1 hown1 hg1 hat1);have hb1:Below w.heap.size w w1:=((Below.refl _ _).alloc (Nat.le_refl _) _).grown hg1 (by simp) (by simp[Value.ownBlock]);rw[show [k]++l=L from HL.out]at hown1;obtain⟨a1,c1,rfl,hf1⟩:=Qy (l:=L) hown1;have hz1:=hb1.size;clear hown1 hg1 hat1;go_wp2_with (go_at_call 52;(with_reducible refine(Sf L a1 _ _ _ hf1.now hl').mono ?_);rintro e w3 ⟨a2,c2,rfl,hf2,hb2⟩);go_ret2;exact⟨a2,c2,rfl,hf2.keep hz1 (Nat.le_refl _) (fun _ _ _=>rfl),hb1.trans (hb2.mono hz1)⟩
theorem F8 (s:ByteArray) (w:World):Calls Tryz.prog 99 #[.string s] w fun e w'=>e=.returned (.agg #[.int .i64 4,.bool false,.int .i64 0,.string s,.slice none 0 0,.slice none 0 0])/\Below w.heap.size w w':=by
 go_enter Tryz.func99,Tryz.ntmps99;go_wp2;exact bodyPost_ret (v:=.agg #[.int .i64 4,.bool false,.int .i64 0,.string s,.slice none 0 0,.slice none 0 0]) (by simp[results,Tryz.results99,go_sem]) rfl ⟨rfl,(Below.refl _ _).alloc (Nat.le_refl _) _⟩
theorem Fr (key:ByteArray) (n:Int) (h0:0<=n) (h1:n<=4611686018427387903) (w:World):Calls Tryz.prog 25 #[.string key,.int .u64 n] w fun e w'=>e=.returned (.agg #[.string key,.int .i64 3,.bool false,.int .i64 n,.string ⟨#[]⟩,.slice none 0 0,.slice none 0 0])/\Below w.heap.size w w':=by
 go_enter Tryz.func25,Tryz.ntmps25;go_wp2;exact bodyPost_ret (v:=.agg #[.string key,.int .i64 3,.bool false,.int .i64 n,.string ⟨#[]⟩,.slice none 0 0,.slice none 0 0]) (by simp[results,Tryz.results25,go_sem]) rfl ⟨rfl,(Below.refl _ _).alloc (Nat.le_refl _) _⟩
theorem Amc (s:ByteArray):s.size=s.data.toList.length:=Lib.size_eq s
set_option maxRecDepth 100000 in
theorem It (k:UInt8) (hk:k≠0) (s:ByteArray) (hs:s.size<=900000000) (w:World):
 Calls Tryz.prog 19 #[.int .u8 k.toNat,.string s] w (Ee (C1 (k::s.data.toList)) w):=by
 have hF:=fun W a n c h=>Y6 k hk s.data.toList a n c W h (by rw[<-Amc];exact hs);generalize C1 (k::s.data.toList)=L at hF ⊢;have HF:=Lib.hid hF;clear hF;go_enter Tryz.func19,Tryz.ntmps19;go_wp2_with (first
  |(refine Mf rfl 9 25 5 (.tmp 9) rfl Tryz.underlying9 Tryz.underlying25 Tryz.underlying5 s rfl ?_;intro cap w1 hb1 hf1)
  |(go_at_call 29;(with_reducible refine(HF.out _ _ _ _ hf1.now).mono ?_);rintro e w3 ⟨a2,c2,rfl,hf2,hb2⟩))
 go_ret;exact⟨a2,c2,rfl,hf2.keep hb1.size (Nat.le_refl _) (fun _ _ _=>rfl),hb1.trans (hb2.mono hb1.size)⟩
set_option maxRecDepth 100000 in
theorem Nz (k:UInt8) (hk:k≠0) (o o':List (ByteArray×Val)) (a:Option Addr) (n c:Nat) (w:World) (hT:Cf w) (h:Ae w w.heap.size (.row 7 (dO o)) [.slice a n c]) (hb:Al o<=90000000)
 (ho:Bg o []=some o') (hm:Ay (ov o') 1=0) (hi:Ga (ov o')):
 Calls Tryz.prog 24 #[.int .u8 k.toNat,.slice a n c] w (J6 (C1 (k::Bk (ov o'))) w):=by
 have hO:Calls Tryz.prog 46 #[.slice a n c] w fun e w'=>Below w.heap.size w w'/\ ∃la lc oa oc,e=.returned (.tuple #[.agg #[.int .i64 6,.bool false,.int .i64 0,.string ⟨#[]⟩,.slice la 0 lc,.slice oa o'.length oc],.int .i64 0])/\Ap w.heap.size w' (dV (ov o')) [.int .i64 6,.bool false,.int .i64 0,.string ⟨#[]⟩,.slice la 0 lc,.slice oa o'.length oc]:=by
  refine(U0 o a n c w h hb).mono ?_;rintro e w' ⟨hb',⟨hn,_⟩|⟨o2,cs,h2,rfl,hl,hf⟩⟩
  . rw[ho]at hn;cases hn
  . rw[ho]at h2
    cases h2
    have hv:=Bv (.mk 6 false 0 ⟨#[]⟩ [] o') _ hf.now;simp only[Ac]at hv;obtain⟨la,lc,oa,oc,rfl,_,_⟩:=hv;exact⟨hb',la,lc,oa,oc,rfl,hf⟩
 have hbv:(ov o').bulk<=90000010:=by
  have:=Ku ho;simp only[ov,Val.bulk,Bc,Al,K4,ByteArray.size]at this ⊢;simp;omega
 have hok:=Yq _ 1 hm hi;have hlen:=J5 (ov o') hok;have hT2:=fun(W:World) (hB:Below w.heap.size w W) cs hv=>Tn (ov o') cs W (hT.below hB) hv (by omega) hi;have hts:Uv (ov o')=⟨(Bk (ov o')).toArray⟩:=by unfold Uv;rw[if_pos hm]
 simp only[hts,hm]at hT2;clear hts;have hFr:=fun(W:World) a n c hh=>Aal k hk (Bk (ov o')) a n c W hh (by omega);obtain⟨S,hS⟩: ∃S:ByteArray,⟨(Bk (ov o')).toArray⟩=S:=⟨_,rfl⟩;have hSe:Bk (ov o')=S.data.toList:=by rw[<-hS]
 rw[hS]at hT2;rw[hSe]at hFr hlen ⊢;generalize C1 (k::S.data.toList)=L at hFr ⊢;obtain⟨V,hV⟩: ∃V,ov o'=V:=⟨_,rfl⟩;rw[hV]at hO hT2 hlen;obtain⟨HO,HT2,HFr,HT,H,HS,HSe,HV⟩:=hid8 hO hT2 hFr hT h hS hSe hV;clear hO hT2 hFr hT h hS hSe hV;clear hm hi hok;go_enter Tryz.func24,Tryz.ntmps24;go_wp2_with (first
  |(go_at_call 46;(with_reducible refine(HO.out).mono ?_);rintro e w1 ⟨hb1,la,lc,oa,oc,rfl,hf1⟩)
  |(go_at_call 47;(with_reducible refine(HT2.out _ (hb1.alloc hb1.size _) _ (Bv _ _ (hf1.later (Aa _ _)).now)).mono ?_);rintro e w2 ⟨rfl,hb2⟩)
  |(refine Mf rfl 9 25 5 (.tmp 26) rfl Tryz.underlying9 Tryz.underlying25 Tryz.underlying5 S rfl ?_;intro cap w3 hb3 hf3)
  |(go_at_call 48;(with_reducible refine(HFr.out _ _ _ _ hf3.now).mono ?_);rintro e w4 ⟨a2,c2,rfl,hf4,hb4⟩))
 go_ret2;have z2:w.heap.size<=w2.heap.size:=by have h2:=hb2.size;have h1:=hb1.size;rw[World.size_alloc]at h2;omega
 have z3:=hb3.size;exact⟨a2,c2,rfl,hf4.keep (by omega) (Nat.le_refl _) (fun _ _ _=>rfl),(((hb1.alloc hb1.size _).trans (hb2.mono (by have:=hb1.size;simp;omega))).trans (hb3.mono z2)).trans (hb4.mono (by omega))⟩
def Kl (w:World):Prop:=w.cell? ⟨0,1,none⟩=some (.string Gt)/\w.cell? ⟨0,2,none⟩=some (.string H9)/\w.cell? ⟨0,3,none⟩=some (.string Dt)/\0<w.heap.size
theorem Kl.below {w w':World} (h:Kl w) (hb:Below w.heap.size w w'):Kl w':=
 ⟨(hb.cell h.2.2.2).trans h.1,(hb.cell h.2.2.2).trans h.2.1,(hb.cell h.2.2.2).trans h.2.2.1,Nat.lt_of_lt_of_le h.2.2.2 hb.size⟩
theorem Agb:Bg [(Cn,tv Dt)] []=some [(Cn,tv Dt)]:=by rfl
theorem Ald (key:ByteArray):Bg [(Cn,tv H9),(A6,tv key)] []=some [(A6,tv key),(Cn,tv H9)]:=by kernel_rfl
theorem Al6 (key:ByteArray) (v:Val):Bg [(Cn,tv Gt),(B5,v),(A6,tv key)] []=some [(A6,tv key),(Cn,tv Gt),(B5,v)]:=by kernel_rfl
set_option maxRecDepth 100000 in
theorem Ahh (key:ByteArray) (c0:Int) (c1:Bool) (c2:Int) (c3:ByteArray) (c4a c5a:Option Addr) (c4n c4c c5n c5c:Nat) (w:World) (hN:Kl w):
 Calls Tryz.prog 68 #[.agg #[.int .i64 3,.string key,.int .i64 c0,.bool c1,.int .i64 c2,.string c3,.slice c4a c4n c4c,.slice c5a c5n c5c]] w (Mi [(Cn,tv Dt)] w):=by
 obtain⟨n1,n2,n3,n4⟩:=hN;have hO:=fun(W:World) a n c h=>Zm [(Cn,tv Dt)] _ a n c W h (by decide) Agb;have hX:=fun W=>F8 Dt W;have hR:=fun(W:World)=>Ad4 W Dt;obtain⟨HO,HX,HR⟩:=hid3 hO hX hR;clear hO hX hR;go_enter Tryz.func68,Tryz.ntmps68;go_wp2_with (first
  |(go_at_call 99;(with_reducible refine(HX.out _).mono ?_);rintro e w1 ⟨rfl,hb1⟩;obtain⟨hc1,hf1⟩:=Ft hb1;obtain⟨hz0,hz1⟩:=Akp hb1)
  |(fail))
 (with_reducible refine(HO.out _ _ _ _ (HR.out w1).now).mono ?_);rintro e w2 ⟨hb2,la,lc,oa,oc,rfl,hf2⟩;have hz2:w1.heap.size<w2.heap.size:=by have:=hb2.size;simp at this;omega
 have hz4:w.heap.size+1<w2.heap.size:=by omega
 have hx2:=Y4 hb1 hb2;obtain⟨r0,r1,r2,r3,r4,r5⟩:=Ao hx2;have fz:=hx2.frozen;obtain⟨Hx2,Hb1,Hb2,Hf2⟩:=hid4 hx2 hb1 hb2 hf2;clear hx2 hb1 hb2 hf2;clear hc1 hf1 n1 n2 n3 n4 HO HX HR;go_upto_region 8 with(fail)
 repeat go_step
 have hB2:Below w.heap.size w w2:=(((((Below.refl w.heap.size w).alloc (Nat.le_refl _) _).alloc (by simp) _).trans (Hb1.out.mono (by simp;omega))).alloc (by omega) _).trans (Hb2.out.mono (by simp;omega));obtain⟨q1,q2⟩:=Yc (R:=w.heap.size+1) (o:=.cells #[.int .i64 6,.bool false,.int .i64 0,.string ⟨#[]⟩,.slice la 0 lc,.slice oa 1 oc] 39) [.int .i64 6,.bool false,.int .i64 0,.string ⟨#[]⟩,.slice la 0 lc,.slice oa 1 oc] hB2 (by omega) (by omega) (by simp;omega) Hf2.out;have hxf:=((((((Hx2.out.set_ 0 (.int .i64 6)).set_ 1 (.bool false)).set_ 2 (.int .i64 0)).set_ 3 (.string ⟨#[]⟩)).set_ 4 (.slice la 0 lc)).set_ 5 (.slice oa 1 oc)).alloc (.cells #[.int .i64 6,.bool false,.int .i64 0,.string ⟨#[]⟩,.slice la 0 lc,.slice oa 1 oc] 39);exact bodyPost_ret (B4 rfl rfl hxf) rfl ⟨q1,la,lc,oa,oc,rfl,q2⟩
set_option maxRecDepth 100000 in
theorem Al0 (key:ByteArray) (hkey:key.size<=1000) (c0:Int) (c1:Bool) (c2:Int) (c3:ByteArray) (c4a c5a:Option Addr) (c4n c4c c5n c5c:Nat) (w:World) (hN:Kl w):
 Calls Tryz.prog 68 #[.agg #[.int .i64 2,.string key,.int .i64 c0,.bool c1,.int .i64 c2,.string c3,.slice c4a c4n c4c,.slice c5a c5n c5c]] w (Mi [(A6,tv key),(Cn,tv H9)] w):=by
 obtain⟨n1,n2,n3,n4⟩:=hN;obtain⟨j0,hj,hy0,hy1,hy2⟩:=info_parts P6;have hO:=fun(W:World) a n c h=>Zm [(Cn,tv H9),(A6,tv key)] _ a n c W h (by have e1:K4.size=0:=rfl;have e2:A6.size=3:=rfl;have e3:Cn.size=2:=rfl;have e6:H9.size=3:=rfl;simp only[Al,Ec,tv,Val.bulk,Bc,e2,e3,e6];omega) (Ald key);have hX:=fun W=>F8 H9 W;have hY:=fun W=>F8 key W;have hR:=fun(W:World)=>Ad4 W H9;obtain⟨HO,HX,HR,Hj,Hy0,Hy1,Hy2,HY⟩:=hid8 hO hX hR hj hy0 hy1 hy2 hY;clear hO hX hR hj hy0 hy1 hy2 hY;go_enter Tryz.func68,Tryz.ntmps68;go_wp2_with (first
  |(go_at_call 99;(with_reducible refine(HX.out _).mono ?_);rintro e w1 ⟨rfl,hb1⟩;obtain⟨hc1,hf1⟩:=Ft hb1;obtain⟨hz0,hz1⟩:=Akp hb1;have HXd:=HX;clear HX)
  |(fail))
 have hq2:=V5 w (.cells #[.int .i64 2,.string key,.int .i64 c0,.bool c1,.int .i64 c2,.string c3,.slice c4a c4n c4c,.slice c5a c5n c5c] 67) (.cells Aj 39);have hx1:An (w1.alloc (.cells #[.string Cn,.int .i64 4,.bool false,.int .i64 0,.string H9,.slice none 0 0,.slice none 0 0] 63)) (w.heap.size+1) 39 Aj:=Y4 (w1:=w1) hb1 (Below.refl _ _);have hw1:Below w.heap.size w (w1.alloc (.cells #[.string Cn,.int .i64 4,.bool false,.int .i64 0,.string H9,.slice none 0 0,.slice none 0 0] 63)):=(hq2.trans (hb1.mono hq2.size)).alloc (by omega) _;obtain⟨Hq2,Hx1,Hw1,Hb1⟩:=hid4 hq2 hx1 hw1 hb1;clear hq2 hx1 hw1 hb1;go_at_call 99;(with_reducible refine(HY.out _).mono ?_);rintro e w2 ⟨rfl,hb2⟩;have hs2:w1.heap.size+1<=w2.heap.size:=by have:=hb2.size;simpa using this
 have hx2:=(Hx1.out.below hb2 Hx1.out.lt).alloc (.cells #[.string A6,.int .i64 4,.bool false,.int .i64 0,.string key,.slice none 0 0,.slice none 0 0] 63);have hw2:=(Hw1.out.trans (hb2.mono Hw1.out.size)).alloc (by omega) (.cells #[.string A6,.int .i64 4,.bool false,.int .i64 0,.string key,.slice none 0 0,.slice none 0 0] 63);have hbe:=hb2.alloc hb2.size (.cells #[.string A6,.int .i64 4,.bool false,.int .i64 0,.string key,.slice none 0 0,.slice none 0 0] 63);obtain⟨Hx2,Hw2,Hb2,Hbe⟩:=hid4 hx2 hw2 hb2 hbe;clear hx2 hw2 hb2 hbe;clear hc1 hf1 n1 n2 n3;go_wp2_with (at_builtin;refine Do (V:=.slice (some ⟨w1.heap.size,0,none⟩) 1 1) rfl (.tmp 26) (.tmp 31) 37 rfl Tryz.underlying37 Hj.out Hy0.out Hy1.out Hy2.out rfl (by omega) rfl (HR.out w1) (by simp) Hbe.out (Fc (A6,tv key)) (Wq _ _ A6 key) rfl (Fi w2 _ _ _ _ _ _ _) (by simp[maxLen,dO]) (by simp[dO]) ?_;intro V6 w6 hrow6 hg6 hat6);have hx6:=Dc Hx2.out hg6 (HR.out w1) (by omega);have hw6:=Jy Hw2.out hg6 (HR.out w1) (by omega) (by simp;omega);obtain⟨a6,c6,rfl⟩:=hrow6.slice_n (n:=2) rfl;have hN6:Ae w6 w6.heap.size (.row 7 (dO [(Cn,tv H9),(A6,tv key)])) [.slice a6 2 c6]:=C7.now (l:=dO [(Cn,tv H9),(A6,tv key)]) hrow6;have hs6:w2.heap.size+1<=w6.heap.size:=by have:=hg6.size;simpa using this
 obtain⟨Hx6,Hw6,HN6⟩:=hid3 hx6 hw6 hN6;clear hx6 hw6 hN6;clear hrow6 hg6 hat6;(with_reducible refine(HO.out _ _ _ _ HN6.out).mono ?_);rintro e w7 ⟨hb7,la,lc,oa,oc,rfl,hf7⟩;have hs7:=hb7.size;have hz4:w.heap.size+1<w7.heap.size:=by omega
 have hx7:=Hx6.out.below hb7 Hx6.out.lt;obtain⟨r0,r1,r2,r3,r4,r5⟩:=Ao hx7;have fz:=hx7.frozen;obtain⟨Hx7,Hb7,Hf7⟩:=hid3 hx7 hb7 hf7;clear hx7 hb7 hf7;clear n4 HO HXd HR HY;go_upto_region 8 with(fail)
 repeat go_step
 have hB2:=Hw6.out.trans (Hb7.out.mono Hw6.out.size);obtain⟨q1,q2⟩:=Yc (R:=w.heap.size+1) (o:=.cells #[.int .i64 6,.bool false,.int .i64 0,.string ⟨#[]⟩,.slice la 0 lc,.slice oa 2 oc] 39) [.int .i64 6,.bool false,.int .i64 0,.string ⟨#[]⟩,.slice la 0 lc,.slice oa 2 oc] hB2 (by omega) (by omega) (by omega) Hf7.out;have hxf:=((((((Hx7.out.set_ 0 (.int .i64 6)).set_ 1 (.bool false)).set_ 2 (.int .i64 0)).set_ 3 (.string ⟨#[]⟩)).set_ 4 (.slice la 0 lc)).set_ 5 (.slice oa 2 oc)).alloc (.cells #[.int .i64 6,.bool false,.int .i64 0,.string ⟨#[]⟩,.slice la 0 lc,.slice oa 2 oc] 39);exact bodyPost_ret (B4 rfl rfl hxf) rfl ⟨q1,la,lc,oa,oc,rfl,q2⟩
theorem Ant {w w1:World} {cs:Array Value} {o' o'':Obj} (hb1:Below ((w.alloc (.cells cs 67)).alloc o').heap.size ((w.alloc (.cells cs 67)).alloc o') w1):An (w1.alloc o'') w.heap.size 67 cs:=by
 have h0:An ((w.alloc (.cells cs 67)).alloc o') w.heap.size 67 cs:=(An.new _ _ _).alloc _;exact(h0.below hb1 h0.lt).alloc _
set_option maxRecDepth 100000 in
theorem Al2 (key:ByteArray) (hkey:key.size<=1000) (k':Int) (b':Bool) (n':Int) (t':ByteArray) (l':List Val) (o':List (ByteArray×Val)) (la' oa':Option Addr) (lc' oc':Nat) (w:World) (hN:Kl w)
 (hv:Ac w w.heap.size (.mk k' b' n' t' l' o') [.int .i64 k',.bool b',.int .i64 n',.string t',.slice la' l'.length lc',.slice oa' o'.length oc']) (hb:(Val.mk k' b' n' t' l' o').bulk<=80000000):
 Calls Tryz.prog 68 #[.agg #[.int .i64 1,.string key,.int .i64 k',.bool b',.int .i64 n',.string t',.slice la' l'.length lc',.slice oa' o'.length oc']] w (Mi [(A6,tv key),(Cn,tv Gt),(B5,.mk k' b' n' t' l' o')] w):=by
 obtain⟨n1,n2,n3,n4⟩:=hN;obtain⟨j0,hj,hy0,hy1,hy2⟩:=info_parts P6;have hO:=fun(W:World) a n c h=>Zm [(Cn,tv Gt),(B5,.mk k' b' n' t' l' o'),(A6,tv key)] _ a n c W h (by
  have e1:K4.size=0:=rfl;have e2:A6.size=3:=rfl;have e3:Cn.size=2:=rfl;have e4:B5.size=5:=rfl;have e6:Gt.size=3:=rfl;have e7:(tv Gt).bulk=9:=rfl;have e8:(tv key).bulk=6+key.size:=by simp[tv,Val.bulk,Bc,Al]
  simp only[Al,Ec,e2,e3,e4,e7,e8];omega) (Al6 key _)
 have hX:=fun W=>F8 Gt W;have hY:=fun W=>F8 key W;have hR:=fun(W:World)=>Ad4 W Gt;have hVC: ∀W,Below w.heap.size w W->Calls Tryz.prog 72 #[.agg #[.int .i64 k',.bool b',.int .i64 n',.string t',.slice la' l'.length lc',.slice oa' o'.length oc']] W fun e w'=>Below W.heap.size W w'/\ ∃la2 lc2 oa2 oc2,e=.returned (.agg #[.int .i64 k',.bool b',.int .i64 n',.string t',.slice la2 l'.length lc2,.slice oa2 o'.length oc2])/\Ap W.heap.size w' (dV (.mk k' b' n' t' l' o')) [.int .i64 k',.bool b',.int .i64 n',.string t',.slice la2 l'.length lc2,.slice oa2 o'.length oc2]:=by
  intro W hW;refine(Ky _ _ W (Ac.more hW.size _ _ (hv.below hW)) (by omega)).mono ?_;rintro e w' ⟨⟨cs,rfl,hl,hf⟩,hb'⟩;have hh:=Bv _ _ hf.now;simp only[Ac]at hh;obtain⟨la2,lc2,oa2,oc2,rfl,_,_⟩:=hh;exact⟨hb',la2,lc2,oa2,oc2,rfl,hf⟩
 obtain⟨HO,HX,HR,Hj,Hy0,Hy1,Hy2,HY,HVC,Hv⟩:=hid10 hO hX hR hj hy0 hy1 hy2 hY hVC hv;clear hO hX hR hj hy0 hy1 hy2 hY hVC hv;go_enter Tryz.func68,Tryz.ntmps68;go_wp2_with (first
  |(go_at_call 99;(with_reducible refine(HX.out _).mono ?_);rintro e w1 ⟨rfl,hb1⟩;obtain⟨hc1,hf1⟩:=Ft hb1;obtain⟨hz0,hz1⟩:=Akp hb1;have HXd:=HX;clear HX)
  |(fail))
 have hq2:=V5 w (.cells #[.int .i64 1,.string key,.int .i64 k',.bool b',.int .i64 n',.string t',.slice la' l'.length lc',.slice oa' o'.length oc'] 67) (.cells Aj 39);have hx1:An (w1.alloc (.cells #[.string Cn,.int .i64 4,.bool false,.int .i64 0,.string Gt,.slice none 0 0,.slice none 0 0] 63)) (w.heap.size+1) 39 Aj:=Y4 (w1:=w1) hb1 (Below.refl _ _);have ho1:An (w1.alloc (.cells #[.string Cn,.int .i64 4,.bool false,.int .i64 0,.string Gt,.slice none 0 0,.slice none 0 0] 63)) w.heap.size 67 #[.int .i64 1,.string key,.int .i64 k',.bool b',.int .i64 n',.string t',.slice la' l'.length lc',.slice oa' o'.length oc']:=Ant hb1;have hw1:Below w.heap.size w (w1.alloc (.cells #[.string Cn,.int .i64 4,.bool false,.int .i64 0,.string Gt,.slice none 0 0,.slice none 0 0] 63)):=(hq2.trans (hb1.mono hq2.size)).alloc (by omega) _;obtain⟨Hq2,Hx1,Hw1,Hb1,Ho1⟩:=hid5 hq2 hx1 hw1 hb1 ho1;clear hq2 hx1 hw1 hb1 ho1;go_at_call 72;(with_reducible refine(HVC.out _ Hw1.out).mono ?_);rintro e w2 ⟨hb2,la2,lc2,oa2,oc2,rfl,hf2⟩;have hs2:w1.heap.size+1<=w2.heap.size:=by have:=hb2.size;simpa using this
 have hx2:=(Hx1.out.below hb2 Hx1.out.lt).alloc (.cells #[.string B5,.int .i64 k',.bool b',.int .i64 n',.string t',.slice la2 l'.length lc2,.slice oa2 o'.length oc2] 63);have ho2:=(Ho1.out.below hb2 Ho1.out.lt).alloc (.cells #[.string B5,.int .i64 k',.bool b',.int .i64 n',.string t',.slice la2 l'.length lc2,.slice oa2 o'.length oc2] 63);have hw2:=(Hw1.out.trans (hb2.mono Hw1.out.size)).alloc (by omega) (.cells #[.string B5,.int .i64 k',.bool b',.int .i64 n',.string t',.slice la2 l'.length lc2,.slice oa2 o'.length oc2] 63);have hbe:=hb2.alloc hb2.size (.cells #[.string B5,.int .i64 k',.bool b',.int .i64 n',.string t',.slice la2 l'.length lc2,.slice oa2 o'.length oc2] 63);have hfe:=(Le (key:=B5) hf2).later (Aa w2 (.cells #[.string B5,.int .i64 k',.bool b',.int .i64 n',.string t',.slice la2 l'.length lc2,.slice oa2 o'.length oc2] 63));obtain⟨Hx2,Hw2,Hb2,Hbe,Ho2,Hf2,Hfe⟩:=hid7 hx2 hw2 hb2 hbe ho2 hf2 hfe;clear hx2 hw2 hb2 hbe ho2 hf2 hfe;clear hc1 hf1 n1 n2 n3;go_wp2_with (at_builtin;refine Do (V:=.slice (some ⟨w1.heap.size,0,none⟩) 1 1) rfl (.tmp 19) (.tmp 24) 37 rfl Tryz.underlying37 Hj.out Hy0.out Hy1.out Hy2.out rfl (by omega) rfl (HR.out w1) (by simp) Hbe.out (Fc (B5,.mk k' b' n' t' l' o')) Hfe.out rfl (Fi w2 _ _ _ _ _ _ _) (by simp[maxLen,dO]) (by simp[dO]) ?_;intro V6 w6 hrow6 hg6 hat6;obtain⟨_,e6,_⟩:=E5 (Dc Ho2.out hg6 (HR.out w1) (by omega)));have hx6:=Dc Hx2.out hg6 (HR.out w1) (by omega);have hw6:=Jy Hw2.out hg6 (HR.out w1) (by omega) (by simp;omega);have hs6:w2.heap.size+1<=w6.heap.size:=by have:=hg6.size;simpa using this
 obtain⟨Hx6,Hw6,Hrow6,Hg6,Hat6⟩:=hid5 hx6 hw6 hrow6 hg6 hat6;clear hx6 hw6 hrow6 hg6 hat6;go_at_call 99;(with_reducible refine(HY.out _).mono ?_);rintro e w7 ⟨rfl,hb7⟩;have hs7:=hb7.size;have hx7:=(Hx6.out.below hb7 Hx6.out.lt).alloc (.cells #[.string A6,.int .i64 4,.bool false,.int .i64 0,.string key,.slice none 0 0,.slice none 0 0] 63);have hw7:=(Hw6.out.trans (hb7.mono Hw6.out.size)).alloc (by omega) (.cells #[.string A6,.int .i64 4,.bool false,.int .i64 0,.string key,.slice none 0 0,.slice none 0 0] 63);have hbe7:=hb7.alloc hb7.size (.cells #[.string A6,.int .i64 4,.bool false,.int .i64 0,.string key,.slice none 0 0,.slice none 0 0] 63);obtain⟨Hx7,Hw7,Hb7,Hbe7⟩:=hid4 hx7 hw7 hb7 hbe7;clear hx7 hw7 hb7 hbe7;go_wp2_with (at_builtin;refine Do (V:=V6) rfl (.tmp 26) (.tmp 31) 37 rfl Tryz.underlying37 Hj.out Hy0.out Hy1.out Hy2.out rfl (by omega) rfl Hrow6.out (by omega) Hbe7.out (Fc (A6,tv key)) (Wq _ _ A6 key) rfl (Fi w7 _ _ _ _ _ _ _) (by simp[maxLen,dO]) (by simp[dO]) ?_;intro V9 w9 hrow9 hg9 hat9);have hx9:=Dc Hx7.out hg9 Hrow6.out (by omega);have hw9:=Jy Hw7.out hg9 Hrow6.out (by omega) (by simp;omega);have hs9:w7.heap.size+1<=w9.heap.size:=by have:=hg9.size;simpa using this
 obtain⟨a9,c9,rfl⟩:=hrow9.slice_n (n:=3) rfl;have hN9:Ae w9 w9.heap.size (.row 7 (dO [(Cn,tv Gt),(B5,.mk k' b' n' t' l' o'),(A6,tv key)])) [.slice a9 3 c9]:=C7.now (l:=dO [(Cn,tv Gt),(B5,.mk k' b' n' t' l' o'),(A6,tv key)]) hrow9;obtain⟨Hx9,Hw9,HN9⟩:=hid3 hx9 hw9 hN9;clear hx9 hw9 hN9;clear hrow9 hg9 hat9;(with_reducible refine(HO.out _ _ _ _ HN9.out).mono ?_);rintro e wa ⟨hba,la,lc,oa,oc,rfl,hfa⟩;have hsa:=hba.size;have hz4:w.heap.size+1<wa.heap.size:=by omega
 have hxa:=Hx9.out.below hba Hx9.out.lt;obtain⟨r0,r1,r2,r3,r4,r5⟩:=Ao hxa;have fz:=hxa.frozen;obtain⟨Hxa,Hba,Hfa⟩:=hid3 hxa hba hfa;clear hxa hba hfa;clear n4 HO HXd HR HY HVC e6;go_upto_region 8 with(fail)
 repeat go_step
 have hB2:=Hw9.out.trans (Hba.out.mono Hw9.out.size);obtain⟨q1,q2⟩:=Yc (R:=w.heap.size+1) (o:=.cells #[.int .i64 6,.bool false,.int .i64 0,.string ⟨#[]⟩,.slice la 0 lc,.slice oa 3 oc] 39) [.int .i64 6,.bool false,.int .i64 0,.string ⟨#[]⟩,.slice la 0 lc,.slice oa 3 oc] hB2 (by omega) (by omega) (by omega) Hfa.out;have hxf:=((((((Hxa.out.set_ 0 (.int .i64 6)).set_ 1 (.bool false)).set_ 2 (.int .i64 0)).set_ 3 (.string ⟨#[]⟩)).set_ 4 (.slice la 0 lc)).set_ 5 (.slice oa 3 oc)).alloc (.cells #[.int .i64 6,.bool false,.int .i64 0,.string ⟨#[]⟩,.slice la 0 lc,.slice oa 3 oc] 39);exact bodyPost_ret (B4 rfl rfl hxf) rfl ⟨q1,la,lc,oa,oc,rfl,q2⟩
def Vg (p:POp):List (ByteArray×Val):=if p.k=1 then [(A6,tv p.key),(Cn,tv Gt),(B5,p.v)]else if p.k=2 then [(A6,tv p.key),(Cn,tv H9)]else [(Cn,tv Dt)]
theorem Wu {k:ByteArray} (h:Qt k=true):k.size<=64:=by
 unfold Qt at h;simp only[Bool.and_eq_true,decide_eq_true_eq]at h;exact h.2.1
theorem Ahg (k:Int) (key:ByteArray) (k':Int) (b':Bool) (n':Int) (t':ByteArray) (l':List Val) (o':List (ByteArray×Val)) (la' oa':Option Addr) (lc' oc':Nat) (w:World) (hok:okQ ⟨k,key,.mk k' b' n' t' l' o'⟩) (hN:Kl w)
 (hv:Ac w w.heap.size (.mk k' b' n' t' l' o') [.int .i64 k',.bool b',.int .i64 n',.string t',.slice la' l'.length lc',.slice oa' o'.length oc']) (hb:(Val.mk k' b' n' t' l' o').bulk<=80000000):
 Calls Tryz.prog 68 #[.agg #[.int .i64 k,.string key,.int .i64 k',.bool b',.int .i64 n',.string t',.slice la' l'.length lc',.slice oa' o'.length oc']] w (Mi (Vg ⟨k,key,.mk k' b' n' t' l' o'⟩) w):=by
 rcases hok with⟨h,hk,_⟩|⟨h,hk⟩|h<;>simp only at h
 . subst h;exact Al2 key (by have:=Wu hk;simp only at this;omega) k' b' n' t' l' o' la' oa' lc' oc' w hN hv hb
 . subst h;exact Al0 key (by have:=Wu hk;simp only at this;omega) _ _ _ _ _ _ _ _ _ _ w hN
 . subst h;exact Ahh key _ _ _ _ _ _ _ _ _ _ w hN
def O1 (l:List POp) (q:Nat):List D:=dL ((l.take q).map L5)
structure LI (w:World) (g:Nat) (l:List POp) (q:Nat) (wr:World) (V:Value):Prop where
 below:Below w.heap.size w wr
 res:An wr w.heap.size 39 Aj
 var:An wr g 39 #[.int .i64 5,.bool false,.int .i64 0,.string ⟨#[]⟩,V,.slice none 0 0]
 row:C7 (g+1) 39 6 wr (O1 l q) V
 lt:w.heap.size<g
def Aii (l:List POp) (w:World) (e:Ending) (w':World):Prop:=Below w.heap.size w w'/\
 ∃la lc,e=.returned (.tuple #[.agg #[.int .i64 5,.bool false,.int .i64 0,.string ⟨#[]⟩,.slice la l.length lc,.slice none 0 0],.int .i64 0])/\Ap w.heap.size w' (dV (Ib l)) [.int .i64 5,.bool false,.int .i64 0,.string ⟨#[]⟩,.slice la l.length lc,.slice none 0 0]
set_option maxRecDepth 100000 in
theorem Vh (l:List POp) (a:Option Addr) (n c:Nat) (w:World) (hT:Cf w) (hN:Kl w) (h:Ae w w.heap.size (.row 8 (Je l)) [.slice a n c]) (hb:D5 l<=50000000) (hin:inQ l) (hm:Bm none l=0):
 Calls Tryz.prog 43 #[.slice a n c] w (Aii l w):=by
 have hlq:=Lb l;have hn:=h.row_len;rw[Kq]at hn;subst hn;obtain⟨j0,hj,hy0,hy1,hy2⟩:=info_parts Uy;have hb0:Below w.heap.size w (w.alloc (.cells Aj 39)):=(Below.refl _ _).alloc (Nat.le_refl _) _;have hM:=L6 l a l.length c (w.alloc (.cells Aj 39)) (hT.below hb0) ((h.below hb0).more hb0.size) (by omega) hin;rw[hm]at hM;have hok:=Ka hm;obtain⟨HM,HT,HN,H,Hok,Hb0,Hj,Hy0,Hy1,Hy2,Hin⟩:=hid11 hM hT hN h hok hb0 hj hy0 hy1 hy2 hin;clear hM hT hN h hok hb0 hj hy0 hy1 hy2 hin;clear hm;go_enter Tryz.func43,Tryz.ntmps43;go_wp2_with (go_at_call 61;(with_reducible refine(HM.out).mono ?_);rintro e w1 ⟨rfl,hb1⟩);have hz1:w.heap.size<w1.heap.size:=by have:=hb1.size;simp at this;omega
 have hI0:LI w w1.heap.size l 0 (w1.alloc (.cells #[.int .i64 5,.bool false,.int .i64 0,.string ⟨#[]⟩,.slice none 0 0,.slice none 0 0] 39)) (.slice none 0 0):=
  ⟨(Hb0.out.trans (hb1.mono Hb0.out.size)).alloc (by omega) _,((An.new w 39 Aj).below hb1 (An.new w 39 Aj).lt).alloc _,An.new _ _ _,by simpa[O1,dL]using C7.nil _ _ _ _,hz1⟩
 obtain⟨w2,hw2⟩: ∃w2,w1.alloc (.cells #[.int .i64 5,.bool false,.int .i64 0,.string ⟨#[]⟩,.slice none 0 0,.slice none 0 0] 39)=w2:=⟨_,rfl⟩;rw[hw2]at hI0 ⊢;have HI0:=Lib.hid hI0;clear hI0 hw2 hb1;generalize w1.heap.size=g at*
 go_loopw [17] (fun i wr=> ∃q:Nat,i=.int .i64 q/\q<=l.length/\ ∃V,Hid (LI w g l q wr V)) (fun i _=>l.length - (intOf i).toNat)
 case atStart=>exact⟨0,rfl,Nat.zero_le _,_,HI0⟩
 case round=>
  obtain⟨q,rfl,hq,V,hI⟩:=hrel;clear HI0;by_cases hlt:q<l.length
  . obtain⟨p,hp⟩: ∃p,l[q]? =some p:=⟨_,List.getElem?_eq_getElem hlt⟩;have hmem:=List.mem_of_getElem? hp;have hbq:=Lc hmem;have hokp:=Hok.out p hmem;have htk:O1 l q++ [dV (L5 p)]=O1 l (q+1):=by
     unfold O1;rw[List.take_add_one,hp,Gz,Gz];simp
    obtain⟨k,key,⟨k',b',n',t',l',o'⟩⟩:=p;simp only at hbq;have hbw:=hI.out.below;have hz:=hbw.size;obtain⟨gl,off,rfl,hgl,la',lc',oa',oc',hv,c0,c1,c2,c3,c4,c5,c6,c7⟩:=Oy ((H.out.below hbw).more hz) hp;obtain⟨wi,hwi⟩: ∃wi,wr.alloc (.cells #[.int .i64 k,.string key,.int .i64 k',.bool b',.int .i64 n',.string t',.slice la' l'.length lc',.slice oa' o'.length oc'] 67)=wi:=⟨_,rfl⟩;have hbi:Below wr.heap.size wr wi:=hwi▸Aa _ _;have hxi:An wi wr.heap.size 67 #[.int .i64 k,.string key,.int .i64 k',.bool b',.int .i64 n',.string t',.slice la' l'.length lc',.slice oa' o'.length oc']:=by rw[<-hwi];exact An.new _ _ _
    have hxv:=hI.out.var.below hbi hI.out.var.lt;have hrow:=hI.out.row.below hbi;have Hres:=Lib.hid hI.out.res;obtain⟨aV,cV,rfl⟩:=hI.out.row.slice;have hgr:gl<wr.heap.size:=hgl;have hgv:g<wi.heap.size:=hxv.lt;have hq1:(q:Int)<(l.length:Int):=by omega
    have hwi2:Below w.heap.size w wi:=hbw.trans (hbi.mono hz);have hC: ∀W,Below wi.heap.size wi W->Calls Tryz.prog 68 #[.agg #[.int .i64 k,.string key,.int .i64 k',.bool b',.int .i64 n',.string t',.slice la' l'.length lc',.slice oa' o'.length oc']] W (Mi (Vg ⟨k,key,.mk k' b' n' t' l' o'⟩) W):=fun W hW=>by
     have hWr:=hbi.trans (hW.mono hbi.size);exact Ahg k key k' b' n' t' l' o' la' oa' lc' oc' W hokp (HN.out.below (hwi2.trans (hW.mono hwi2.size))) ((hv.below hWr).more hWr.size) (by omega)
    obtain⟨Hp,Hv,Hbi,Hbw,HC,Hrow,Htk,Hwi2⟩:=hid8 hp hv hbi hbw hC hrow htk hwi2;clear hp hv hbi hbw hC hrow htk hwi2;clear hmem hokp;go_upto_region 8 with(fail);clear hwi;obtain⟨x0,x1,x2,x3,x4,x5,x6,x7⟩:=E5 hxi;obtain⟨_,_,_,_,y4,_⟩:=Ao hxv;have hdl:(O1 l q).length=q:=by unfold O1;rw[Lz,List.length_map,List.length_take];omega
    have hLo:Hid ((O1 l q).length+1<=maxLen/\((O1 l q).length+1)*88<=140737488355328):=by rw[hdl];exact⟨by simp only[maxLen];omega,by omega⟩
    obtain⟨Hxi,Hxv⟩:=hid2 hxi hxv;clear hxi hxv;clear c0 c1 c2 c3 c4 c5 c6 c7 hdl
    go_region_law (first
     |(refine Ea (d:=dV (L5 ⟨k,key,.mk k' b' n' t' l' o'⟩)) (V:=.slice aV (O1 l q).length cV) (by rfl) (.tmp 22) (.tmp 25) 36 (by rfl) Tryz.underlying36 Hj.out Hy0.out Hy1.out Hy2.out rfl (by omega) (by rfl) Hrow.out (by omega) Hbe.out (Eh _) Hfe.out (by rfl) (Lo w4 _ _ _ _ _ _) hLo.out.1 hLo.out.2 ?_;intro V6 w6 hrow6 hg6 hat6;rw[Htk.out]at hrow6;have hx6:=Dc Hxv4.out hg6 Hrow.out (by omega);have hw6:=Jy Hw4.out hg6 Hrow.out (by omega) Hw4.out.size;have hr6:=Dc Hr4.out hg6 Hrow.out (by omega);have e6:=hx6.cell 4;have f6:=hx6.frozen 4;obtain⟨a6,c6,rfl⟩:=hrow6.slice;have HG6:=Lib.hid (And.intro hrow6 (And.intro hx6 (And.intro hw6 hr6)));clear hrow6 hg6 hat6 hx6 hw6 hr6)
     |(go_simp;go_at_call 68;refine(HC.out _ (Below.drew (Below.refl _ _))).mono ?_;rintro e w4 ⟨hb4,la4,lc4,oa4,oc4,rfl,hf4⟩;have hbr:Below wi.heap.size wi w4:=(Below.drew (Below.refl _ _)).trans hb4;have hxv4:=Hxv.out.below hbr Hxv.out.lt;have g3:=hxv4.cell 4;have g4:=(hxv4.alloc (.cells #[.int .i64 6,.bool false,.int .i64 0,.string ⟨#[]⟩,.slice la4 0 lc4,.slice oa4 (Vg ⟨k,key,.mk k' b' n' t' l' o'⟩).length oc4] 39)).cell 4;have Hxv4:=Lib.hid (hxv4.alloc (.cells #[.int .i64 6,.bool false,.int .i64 0,.string ⟨#[]⟩,.slice la4 0 lc4,.slice oa4 (Vg ⟨k,key,.mk k' b' n' t' l' o'⟩).length oc4] 39));have Hr4:=Lib.hid ((((Hres.out.below Hbi.out Hres.out.lt).below hbr (by omega))).alloc (.cells #[.int .i64 6,.bool false,.int .i64 0,.string ⟨#[]⟩,.slice la4 0 lc4,.slice oa4 (Vg ⟨k,key,.mk k' b' n' t' l' o'⟩).length oc4] 39));have Hw4:=Lib.hid ((Hwi2.out.trans (hbr.mono Hwi2.out.size)).alloc (Nat.le_trans Hwi2.out.size hbr.size) (.cells #[.int .i64 6,.bool false,.int .i64 0,.string ⟨#[]⟩,.slice la4 0 lc4,.slice oa4 (Vg ⟨k,key,.mk k' b' n' t' l' o'⟩).length oc4] 39));have Hbe:=Lib.hid (hbr.alloc hbr.size (.cells #[.int .i64 6,.bool false,.int .i64 0,.string ⟨#[]⟩,.slice la4 0 lc4,.slice oa4 (Vg ⟨k,key,.mk k' b' n' t' l' o'⟩).length oc4] 39));have hfe:Ap wi.heap.size (w4.alloc (.cells #[.int .i64 6,.bool false,.int .i64 0,.string ⟨#[]⟩,.slice la4 0 lc4,.slice oa4 (Vg ⟨k,key,.mk k' b' n' t' l' o'⟩).length oc4] 39)) (dV (L5 ⟨k,key,.mk k' b' n' t' l' o'⟩)) [.int .i64 6,.bool false,.int .i64 0,.string ⟨#[]⟩,.slice la4 0 lc4,.slice oa4 (Vg ⟨k,key,.mk k' b' n' t' l' o'⟩).length oc4]:=hf4.later (Aa w4 (.cells #[.int .i64 6,.bool false,.int .i64 0,.string ⟨#[]⟩,.slice la4 0 lc4,.slice oa4 (Vg ⟨k,key,.mk k' b' n' t' l' o'⟩).length oc4] 39));have Hfe:=Lib.hid hfe;clear hb4 hf4 hbr hxv4 hfe))
    all_goals
     obtain⟨k1,k2,k3,k4⟩:=HG6.out;have HN:Hid (LI w g l (q+1) (w6.setCell ⟨g,4,none⟩ (.slice a6 (O1 l (q+1)).length c6)) (.slice a6 (O1 l (q+1)).length c6)):=
      ⟨k3.setCell (by simp;omega) _,k4.far (by simp;omega) _,k2.set_ 4 _,k1.keep (by simp[World.setCell]) (fun i h1 _=>Below.heap_setCell _ _ _ _ (by simp;omega)),hz1⟩
     clear k1 k2 k3 k4 HG6 Hfe Hbe Hxv4 Hw4 Hr4;go_wp2;go_roundw
     case rel=>exact⟨q+1,by go_num,by omega,_,HN⟩
     case measure=>simp only[intOf];omega
  . obtain rfl:q=l.length:=by omega
    have hln:(O1 l l.length).length=l.length:=by unfold O1;rw[Lz,List.length_map,List.take_length]
    obtain⟨aV,cV,rfl⟩:=hI.out.row.slice_n hln;obtain⟨i1,i2,i3,i4,i5⟩:=hI.out;obtain⟨y0,y1,y2,y3,y4,y5⟩:=Ao i3;obtain⟨r0,r1,r2,r3,r4,r5⟩:=Ao i2;have fz:=i2.frozen;have hq:=i4.close;have hgw:=i3.lt;obtain⟨I1,I2,I3,I4,Hq,Hln⟩:=hid6 i1 i2 i3 i4 hq hln;clear i1 i2 i3 i4 hq hln;clear hI;go_upto_region 10 with(fail)
    repeat go_step
    obtain⟨a',c',e',_,hf,_⟩:=Hq.out;rw[Hln.out]at e' hf;obtain⟨rfl,rfl⟩:aV=a'/\cV=c':=by simpa using e'
    have hxf:=((((((I2.out.set_ 0 (.int .i64 5)).set_ 1 (.bool false)).set_ 2 (.int .i64 0)).set_ 3 (.string ⟨#[]⟩)).set_ 4 (.slice aV l.length cV)).set_ 5 (.slice none 0 0));have hbf:=Ak [.int .i64 5,.bool false,.int .i64 0,.string ⟨#[]⟩,.slice aV l.length cV,.slice none 0 0] I1.out (Nat.le_refl _) (o:=0);have hff:Ap w.heap.size (A1 wr w.heap.size 0 [.int .i64 5,.bool false,.int .i64 0,.string ⟨#[]⟩,.slice aV l.length cV,.slice none 0 0]) (dV (Ib l)) [.int .i64 5,.bool false,.int .i64 0,.string ⟨#[]⟩,.slice aV l.length cV,.slice none 0 0]:=
     Ajd (by unfold O1 at hf;rw[List.take_length]at hf;exact hf.keep (by omega) (by rw[Ba];exact Nat.le_refl _) fun p p1 p2=>World.cell?_of_block (Aw _ _ _ _ _ (by omega)))
    exact bodyPost_ret (A9 rfl rfl hxf) rfl ⟨hbf,aV,cV,rfl,hff⟩
end Go.Proofs.YtackmnbpfbaemaaGreatDoor
