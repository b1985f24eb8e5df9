/- Parts: Frames, the program's and the reference's. Condition: at most 10^8 bytes, a kind that is not 0. -/
import Derived.Laws.MakeOwn
import Derived.Laws.Entries
import Derived.Laws.EntriesVeiled
import Derived.LoopN
import Derived.Test.YtolnhkmhfblhkaaGreatDoorKSn8
set_option maxHeartbeats 20000000
set_option maxRecDepth 100000
namespace Go.Proofs.YtolnhkmhfblhkaaGreatDoor
open Go.RowKit
theorem Fg {P:Program} (t e:TypeId) (i:TypeInfo) (z:Value) (ht:P.underlying t=some (.slice e)) (hi:P.info? e=some i) (hz:i.zero=some z)
 (kl kc:IntKind) (n c:Nat) (hnc:n<=c) (hbytes:i.bytes*c<=281474976710656) (h63:c<=9223372036854775807) (w:World):
 (Instr.makeSlice t (.int kl (n:Int)) (.int kc (c:Int))).run P w=.ok (.slice (some ⟨w.heap.size,0,none⟩) n c) (w.alloc (.cells (madeCells z.cells (c*i.size)) e)):=by
 have hb:(i.bytes:Int)*(c:Int)<=281474976710656:=by
  have h:((i.bytes*c:Nat):Int)<=281474976710656:=by omega
  rwa [Int.natCast_mul]at h
 have hr:=run_make (P:=P) w t e i z ht hi hz kl kc n c (by omega) (by omega) hb (by omega);simp only[Int.toNat_natCast]at hr;exact hr
theorem Cd {B:Nat} {a w:World} (h:Below B a w) (n:Nat):Below B a (w.drewN n):=⟨h.os,h.tape,h.output,h.size,h.block⟩
theorem I1 (l:List UInt8) (a:Option Addr) (n c:Nat) (w:World) (h:Ac w w.heap.size (.row 1 (dB l)) [.slice a n c]) (hl:l.length<=1000000000):
 Calls Tryz.prog 38 #[.slice a n c] w (Be (B7 l) w):=by
 obtain⟨hn,hR⟩:=Ct h;subst hn;obtain⟨i0,hi,hz,hz1,hz2⟩:=info_parts Jj;have hmk: ∀W:World,∃cur:Array Value,cur.size=l.length+4/\(Instr.makeSlice 30 (.int .i64 0) (.int .i64 ((l.length:Int)+4))).run Tryz.prog W=.ok (.slice (some ⟨W.heap.size,0,none⟩) 0 (l.length+4)) (W.alloc (.cells cur 5)):=by
  intro W;have:=Fg (P:=Tryz.prog) 30 5 i0 _ Tryz.underlying30 hi hz .i64 .i64 0 (l.length+4) (by omega) (by rw[hz2];omega) (by omega) W;refine⟨_, ?_,by rw[show(((l.length+4:Nat)):Int)=(l.length:Int)+4 from by omega]at this;exact this⟩;rw[hz1];simp[madeCells]
 obtain⟨cur,hcs,hm⟩:=hmk w;have Hown0:Hid ((w.alloc (.cells cur 5)).ownsRow w.heap.size 5 1 (.slice (some ⟨w.heap.size,0,none⟩) 0 (l.length+4)) ([]:List UInt8).length (Ah [])):=World.ownsRow_made w cur (l.length+4) (Nat.le_refl _) (by simp only[maxLen];omega) (by omega);have HR0:=qz (hR.alloc (Nat.le_refl _) (.cells cur 5));obtain⟨H,HR,Hi,Hz,Hz1,Hz2,Hcs⟩:=hid7 h hR hi hz hz1 hz2 hcs;clear h hR hi hz hz1 hz2 hcs;clear hmk;go_enter Tryz.func38,Tryz.ntmps38;go_wp2_with (at_builtin;refine Ai rfl (.tmp 10) (.tmp 11) 30 30 5 rfl Tryz.underlying30 Tryz.underlying30 w.heap.size (.slice (some ⟨w.heap.size,0,none⟩) 0 (l.length+4)) [] rfl Hown0.out _ a _ c l rfl HR0.out (by simp;omega) (by simp) ?_;intro v1 w1 hown1 hg1 hat1);have hb1:Below w.heap.size w w1:=((Below.refl _ _).alloc (Nat.le_refl _) _).grown hg1 (by simp) (by simp[Value.ownBlock]);rw[List.nil_append]at hown1;have hC:=Fs l a l.length c w1 ((H.out.below hb1).more hb1.size) hl;have hcl:=Df 0 l;have hsf:=Fr (Ap 0 l);obtain⟨s0,hs0⟩: ∃s0,Ap 0 l=s0:=⟨_,rfl⟩;rw[hs0]at hC hcl hsf;have Hfin:=qz (show B7 l=l++Ca s0 4 from by unfold B7;rw[hsf,hs0]);obtain⟨HC,Hown1,Hg1,Hb1,Hat1,Hsf,Hs0⟩:=hid7 hC hown1 hg1 hb1 hat1 hsf hs0;clear hC hown1 hg1 hb1 hat1 hsf hs0;clear hm;go_wp2_with (go_at_call 72;with_reducible refine(HC.out).mono ?_;rintro e w2 ⟨rfl,hb2⟩);have Hb12:=qz (Hb1.out.trans (hb2.mono Hb1.out.size));have Hown2:Hid (w2.ownsRow w.heap.size 5 1 v1 l.length (Ah l)):=Hown1.out.kept (row:=none) ⟨hb2.os,hb2.tape,hb2.output,hb2.size,fun i hi _=>hb2.block i hi⟩ (by cases hv:v1.ownBlock<;>simp);clear hb2;go_loopw [3,15] (fun v i wr=> ∃k:Nat,k<=4/\i=.int .i64 k/\Hid (wr.ownsRow w.heap.size 5 1 v (l++Ca s0 k).length (Ah (l++Ca s0 k)))/\Hid (Below w.heap.size w wr)) (fun _ i _=>4 - (intOf i).toNat)
 case atStart=>exact⟨0,by omega,rfl,by rw[show l++Ca s0 0=l from by simp[Ca]];exact Hown2,Hb12⟩
 case round=>
  obtain⟨k,hk,rfl,hown,hb⟩:=hrel;by_cases hlt:k<4
  . have hz:=hb.out.size;have Hlen:=qz (E4 k s0);clear Hown2 Hb12;have hk4:k=0\/k=1\/k=2\/k=3:=by omega
    rcases hk4 with rfl|rfl|rfl|rfl
    . have ecell:Value.int .u8 ((s0:Int) % 256)=.int .u8 ((UInt8.ofNat (s0 / 256 ^ 0 % 256)).toNat:Nat):=by rw[<-Du _ (by omega)];simp only[Nat.reducePow,Nat.div_one];go_num
      have hlit:=(Ch (ecell▸As.new wr 5 #[.int .u8 ((s0:Int) % 256)]:As _ _ _ #[.int .u8 ((UInt8.ofNat (s0 / 256 ^ 0 % 256)).toNat:Nat)]));rw[<-ecell]at hlit;have Hsn:=qz (B0 0 s0);obtain⟨Hlit,Ecell⟩:=hid2 hlit ecell;clear hlit ecell;go_wp2_with (at_builtin;refine Ai rfl (.tmp 18) (.tmp 24) 30 30 5 rfl Tryz.underlying30 Tryz.underlying30 w.heap.size u3 _ rfl (hown.out.alloc _) _ _ _ _ [UInt8.ofNat (s0 / 256 ^ 0 % 256)] rfl Hlit.out (by have:=Hlen.out;simp;omega) (by simp;omega) ?_;intro v3 w3 hown3 hg3 hat3);have Hb3:Hid (Below w.heap.size w w3):=(hb.out.alloc (by omega) _).grown hg3 (by simp;omega) (fun j e=>(hown.out.lt j e).1);rw[List.append_assoc,<-Hsn.out]at hown3;have Hown3:=qz hown3;clear hown3;clear hown hb hg3 hat3 Hsn;go_wp2;go_roundw
      case rel=>exact⟨0+1,by omega,by go_num,Hown3,Hb3⟩
      case measure=>simp[intOf]
    . have ecell:Value.int .u8 ((s0:Int) / 256 % 256)=.int .u8 ((UInt8.ofNat (s0 / 256 ^ 1 % 256)).toNat:Nat):=by rw[<-Du _ (by omega)];simp only[Nat.reducePow];go_num
      have hlit:=(Ch (ecell▸As.new wr 5 #[.int .u8 ((s0:Int) / 256 % 256)]:As _ _ _ #[.int .u8 ((UInt8.ofNat (s0 / 256 ^ 1 % 256)).toNat:Nat)]));rw[<-ecell]at hlit;have Hsn:=qz (B0 1 s0);obtain⟨Hlit,Ecell⟩:=hid2 hlit ecell;clear hlit ecell;go_wp2_with (at_builtin;refine Ai rfl (.tmp 18) (.tmp 24) 30 30 5 rfl Tryz.underlying30 Tryz.underlying30 w.heap.size u3 _ rfl (hown.out.alloc _) _ _ _ _ [UInt8.ofNat (s0 / 256 ^ 1 % 256)] rfl Hlit.out (by have:=Hlen.out;simp;omega) (by simp;omega) ?_;intro v3 w3 hown3 hg3 hat3);have Hb3:Hid (Below w.heap.size w w3):=(hb.out.alloc (by omega) _).grown hg3 (by simp;omega) (fun j e=>(hown.out.lt j e).1);rw[List.append_assoc,<-Hsn.out]at hown3;have Hown3:=qz hown3;clear hown3;clear hown hb hg3 hat3 Hsn;go_wp2;go_roundw
      case rel=>exact⟨1+1,by omega,by go_num,Hown3,Hb3⟩
      case measure=>simp[intOf]
    . have ecell:Value.int .u8 ((s0:Int) / 65536 % 256)=.int .u8 ((UInt8.ofNat (s0 / 256 ^ 2 % 256)).toNat:Nat):=by rw[<-Du _ (by omega)];simp only[Nat.reducePow];go_num
      have hlit:=(Ch (ecell▸As.new wr 5 #[.int .u8 ((s0:Int) / 65536 % 256)]:As _ _ _ #[.int .u8 ((UInt8.ofNat (s0 / 256 ^ 2 % 256)).toNat:Nat)]));rw[<-ecell]at hlit;have Hsn:=qz (B0 2 s0);obtain⟨Hlit,Ecell⟩:=hid2 hlit ecell;clear hlit ecell;go_wp2_with (at_builtin;refine Ai rfl (.tmp 18) (.tmp 24) 30 30 5 rfl Tryz.underlying30 Tryz.underlying30 w.heap.size u3 _ rfl (hown.out.alloc _) _ _ _ _ [UInt8.ofNat (s0 / 256 ^ 2 % 256)] rfl Hlit.out (by have:=Hlen.out;simp;omega) (by simp;omega) ?_;intro v3 w3 hown3 hg3 hat3);have Hb3:Hid (Below w.heap.size w w3):=(hb.out.alloc (by omega) _).grown hg3 (by simp;omega) (fun j e=>(hown.out.lt j e).1);rw[List.append_assoc,<-Hsn.out]at hown3;have Hown3:=qz hown3;clear hown3;clear hown hb hg3 hat3 Hsn;go_wp2;go_roundw
      case rel=>exact⟨2+1,by omega,by go_num,Hown3,Hb3⟩
      case measure=>simp[intOf]
    . have ecell:Value.int .u8 ((s0:Int) / 16777216)=.int .u8 ((UInt8.ofNat (s0 / 256 ^ 3 % 256)).toNat:Nat):=by rw[<-Du _ (by omega)];simp only[Nat.reducePow];go_num
      have hlit:=(Ch (ecell▸As.new wr 5 #[.int .u8 ((s0:Int) / 16777216)]:As _ _ _ #[.int .u8 ((UInt8.ofNat (s0 / 256 ^ 3 % 256)).toNat:Nat)]));rw[<-ecell]at hlit;have Hsn:=qz (B0 3 s0);obtain⟨Hlit,Ecell⟩:=hid2 hlit ecell;clear hlit ecell;go_wp2_with (at_builtin;refine Ai rfl (.tmp 18) (.tmp 24) 30 30 5 rfl Tryz.underlying30 Tryz.underlying30 w.heap.size u3 _ rfl (hown.out.alloc _) _ _ _ _ [UInt8.ofNat (s0 / 256 ^ 3 % 256)] rfl Hlit.out (by have:=Hlen.out;simp;omega) (by simp;omega) ?_;intro v3 w3 hown3 hg3 hat3);have Hb3:Hid (Below w.heap.size w w3):=(hb.out.alloc (by omega) _).grown hg3 (by simp;omega) (fun j e=>(hown.out.lt j e).1);rw[List.append_assoc,<-Hsn.out]at hown3;have Hown3:=qz hown3;clear hown3;clear hown hb hg3 hat3 Hsn;go_wp2;go_roundw
      case rel=>exact⟨3+1,by omega,by go_num,Hown3,Hb3⟩
      case measure=>simp[intOf]
  . obtain rfl:k=4:=by omega
    rw[<-Hfin.out]at hown;go_wp2;go_ret;exact Be.of hown.out hb.out
theorem I0 (l r:List UInt8) (a a':Option Addr) (n c n' c':Nat) (B:Bool) (w:World) (h:Ac w w.heap.size (.row 1 (dB l)) [.slice a n c]) (h':Ac w w.heap.size (.row 1 (dB r)) [.slice a' n' c']) (hl:l.length<=2000000000) (_:r.length<=2000000000) (hB:decide (l=r)=B):
 Calls Tryz.prog 13 #[.slice a n c,.slice a' n' c'] w fun e w'=>e=.returned (.bool B)/\Below w.heap.size w w':=by
 obtain rfl:=Jr h;obtain rfl:=Jr h';by_cases hlen:l.length=r.length
 . have hlen':Hid (l.length=r.length):=hlen;have hw0:Below w.heap.size w w:=Below.refl _ _;have ht0:l.take 0=r.take 0:=by simp
   have hn:((l.length:Int) != (r.length:Int))=false:=by simp;omega
   obtain⟨H,H',HB,Hw0,Ht0⟩:=hid5 h h' hB hw0 ht0;clear h h' hB hw0 ht0;clear hlen;go_enter Tryz.func13,Tryz.ntmps13;go_wp2;go_loopw [5] (fun i wr=> ∃k:Nat,k<=l.length/\i=.int .i64 k/\Hid (l.take k=r.take k)/\Hid (Below w.heap.size w wr)) (fun i _=>l.length - (intOf i).toNat)
   case atStart=>exact⟨0,by omega,rfl,Ht0,Hw0⟩
   case round=>
    obtain⟨k,hk,rfl,ht,hb⟩:=hrel;by_cases hlt:k<l.length
    . have hlt':k<r.length:=by have:=hlen'.out;omega
      obtain⟨x,hx⟩: ∃x,l[k]? =some x:=⟨_,List.getElem?_eq_getElem hlt⟩;obtain⟨y,hy⟩: ∃y,r[k]? =some y:=⟨_,List.getElem?_eq_getElem hlt'⟩;obtain⟨g,off,rfl,hg,hcell⟩:=Eu (H.out.below hb.out) hx;obtain⟨g',off',rfl,hg',hcell'⟩:=Eu (H'.out.below hb.out) hy;have htk: ∀(m:List UInt8) (z:UInt8),m[k]? =some z->m.take (k+1)=m.take k++ [z]:=by
       intro m z hz;obtain⟨hm,rfl⟩:=List.getElem?_eq_some_iff.1 hz;exact List.take_succ_eq_append_getElem hm
      have i1:(0:Int)<=k:=by omega
      have i2:(k:Int)<(l.length:Int):=by omega
      have i3:(k:Int)<(r.length:Int):=by omega
      by_cases he:x=y
      . subst he;have Ht':=qz (show l.take (k+1)=r.take (k+1)from by rw[htk l x hx,htk r x hy,ht.out]);have hE:((x.toNat:Int) != (x.toNat:Int))=false:=by simp
        obtain⟨Hx,Hy⟩:=hid2 hx hy;clear hx hy;clear htk ht;go_wp2;go_quiet (fail);go_wp2;go_roundw
        case rel=>exact⟨k+1,by omega,by go_num,Ht',Cd hb.out _⟩
        case measure=>simp[intOf];omega
      . have hf:B=false:=by
         rw[<-HB.out,decide_eq_false_iff_not];intro e;rw[e,hy]at hx;exact he (Option.some.inj hx).symm
        have hE:((x.toNat:Int) != (y.toNat:Int))=true:=by
         simp only[bne_iff_ne,ne_eq];intro e;exact he (UInt8.toNat_inj.1 (by omega))
        subst hf;obtain⟨Hx,Hy⟩:=hid2 hx hy;clear hx hy;clear htk ht he HB;go_wp2;go_quiet (fail);go_wp2;go_ret;exact⟨rfl,Cd hb.out _⟩
    . obtain rfl:k=l.length:=by omega
      have hf:B=true:=by
       have:=ht.out;rw[List.take_length,hlen'.out,List.take_length]at this;rw[<-HB.out,this];simp
      subst hf;clear HB;go_wp2;go_ret;exact⟨rfl,hb.out⟩
 . have hf:B=false:=by
    rw[<-hB,decide_eq_false_iff_not];intro e;exact hlen (by rw[e])
   subst hf;have hn:((l.length:Int) != (r.length:Int))=true:=by simp;omega
   obtain⟨H,H'⟩:=hid2 h h';clear h h';clear hlen hB;go_enter Tryz.func13,Tryz.ntmps13;go_wp2;go_ret;exact⟨rfl,Below.refl _ _⟩
theorem Co (b:Bool) (n:Int) (w:World):Calls Tryz.prog 71 #[.bool b,.int .i64 n] w fun e w'=>e=.returned (.int .i64 (if b then 0 else n))/\w=w':=by
 cases b<;>(go_enter Tryz.func71,Tryz.ntmps71;go_wp2;go_ret;exact⟨rfl,rfl⟩)
theorem Gu (k:UInt8) (hk:k≠0) (w:World):Calls Tryz.prog 36 #[.int .u8 k.toNat] w fun e w'=>e=.returned (.int .i64 0)/\w=w':=by
 have h:(((k.toNat:Nat):Int) != 0)=true:=by
  simp only[bne_iff_ne,ne_eq];intro e;exact hk (UInt8.toNat_inj.1 (by simpa using e))
 have HC:=qz (fun W=>Co true 2 W);go_enter Tryz.func36,Tryz.ntmps36;go_wp2_with (go_at_call 71;(with_reducible refine(HC.out _).mono ?_);rintro e w2 ⟨rfl,rfl⟩);go_ret;exact⟨rfl,rfl⟩
theorem Gm (k:UInt8) (hk:k≠0) (g:Nat) (w:World) (hc:w.cell? ⟨g,0,none⟩=some (.func (.func 36) #[.int .u8 k.toNat] #[])):
 Calls Tryz.prog 37 #[.slice (some ⟨g,0,none⟩) 1 1] w fun e w'=>e=.returned (.int .i64 0)/\w=w':=by
 have HC:=qz (fun W=>Gu k hk W);go_enter Tryz.func37,Tryz.ntmps37;go_wp2_with (fail);refine wp_loop_rounds 2 ?_;rw[rounds_succ];go_wp2_with (go_at_call 36;(with_reducible refine(HC.out _).mono ?_);rintro e w2 ⟨rfl,rfl⟩);rw[rounds_succ];go_wp2;go_ret;exact⟨rfl,rfl⟩
theorem Fz (k:UInt8) (l:List UInt8) (a:Option Addr) (n c:Nat) (w:World) (h:Ac w w.heap.size (.row 1 (dB l)) [.slice a n c]) (hl:l.length<=1000000000):
 Calls Tryz.prog 39 #[.slice a n c,.int .u8 k.toNat] w (Be (k::l) w):=by
 obtain⟨hn,hR⟩:=Ct h;subst hn;have HR0:=qz (hR.alloc (Nat.le_refl _) (.cells #[.int .u8 k.toNat] 5));have Hown0:Hid ((w.alloc (.cells #[.int .u8 k.toNat] 5)).ownsRow w.heap.size 5 1 (.slice (some ⟨w.heap.size,0,none⟩) 1 1) [k].length (Ah [k])):=World.ownsRow_lit w #[.int .u8 k.toNat] 1 (Nat.le_refl _) (by simp[maxLen]) rfl;obtain⟨H,HR⟩:=hid2 h hR;clear h hR;go_enter Tryz.func39,Tryz.ntmps39;go_wp2_with (at_builtin;refine Ai rfl (.tmp 6) (.tmp 7) 30 96 5 rfl Tryz.underlying30 Tryz.underlying96 w.heap.size (.slice (some ⟨w.heap.size,0,none⟩) 1 1) [k] rfl Hown0.out _ a _ c l rfl HR0.out (by simp;omega) (by simp) ?_;intro v1 w1 hown1 hg1 hat1);have hb1:Below w.heap.size w w1:=((Below.refl _ _).alloc (Nat.le_refl _) _).grown hg1 (by simp) (by simp[Value.ownBlock]);have hF:=Be.of (l:=k::l) hown1 hb1;go_ret;exact hF
def B2 (l:List UInt8) (w:World) (e:Ending) (w':World):Prop:= ∃a c,e=.returned (.tuple #[.slice a l.length (l.length+c),.int .i64 0])/\Av w.heap.size w' (.row 1 (dB l)) [.slice a l.length (l.length+c)]/\Below w.heap.size w w'
theorem Gn (k:UInt8) (hk:k≠0) (l:List UInt8) (a:Option Addr) (n c:Nat) (w:World) (h:Ac w w.heap.size (.row 1 (dB l)) [.slice a n c]) (hl:l.length<=900000000):
 Calls Tryz.prog 21 #[.int .u8 k.toNat,.slice a n c] w (B2 (B7 (k::l)) w):=by
 have HF:=qz (fun W g hc=>Gm k hk g W hc);have hb0: ∀o o',Below w.heap.size w ((w.alloc o).alloc o'):=fun o o'=>((Below.refl _ _).alloc (Nat.le_refl _) _).alloc (by simp) _;have hJ:=fun(W:World) hb=>Fz k l a n c W ((h.below (w':=W) hb).more hb.size) (by omega);have hl':(k::l).length<=1000000000:=by simp;omega
 generalize k::l=L at hJ hl' ⊢;obtain⟨HJ,H⟩:=hid2 hJ h;clear hJ h;go_enter Tryz.func21,Tryz.ntmps21;go_wp2_with (fail);go_at_call 37;with_reducible refine(HF.out _ _ ?_).mono ?_
 . simp
 rintro e w2 ⟨rfl,rfl⟩;go_wp2_with (fail)
 (with_reducible refine(HJ.out _ (hb0 _ _)).mono ?_);rintro e w2 ⟨a1,c1,rfl,hf1,hb1⟩
 go_wp2_with (fail)
 (with_reducible refine(I1 L a1 _ _ _ hf1.now hl').mono ?_);rintro e w3 ⟨a2,c2,rfl,hf2,hb2⟩
 go_wp2;go_ret2;have hz1:=hb1.size;refine⟨a2,c2,rfl,hf2.keep (by simp at hz1;omega) (Nat.le_refl _) (fun _ _ _=>rfl),((hb0 _ _).trans (hb1.mono (by simp;omega))).trans (hb2.mono (by simp at hz1;omega))⟩
theorem F2 (k:UInt8) (hk:k≠0) (l:List UInt8) (a:Option Addr) (n c:Nat) (w:World) (h:Ac w w.heap.size (.row 1 (dB l)) [.slice a n c]) (hl:l.length<=900000000):
 Calls Tryz.prog 12 #[.int .u8 k.toNat,.slice a n c] w (B2 (B7 (k::l)) w):=by
 obtain⟨hn,hR⟩:=Ct h;subst hn;have hne:(((k.toNat:Nat):Int)==0)=false:=by
  simp only[beq_eq_false_iff_ne,ne_eq];intro e;exact hk (UInt8.toNat_inj.1 (by simpa using e))
 have HR0:=qz (hR.alloc (Nat.le_refl _) (.cells #[.int .u8 k.toNat] 5));have hown0:(w.alloc (.cells #[.int .u8 k.toNat] 5)).ownsRow w.heap.size 5 1 (.slice (some ⟨w.heap.size,0,none⟩) 1 1) [k].length (Ah [k]):=World.ownsRow_lit w #[.int .u8 k.toNat] 1 (Nat.le_refl _) (by simp[maxLen]) rfl;have hl':(k::l).length<=1000000000:=by simp;omega
 obtain⟨L,hL⟩: ∃L,k::l=L:=⟨_,rfl⟩;rw[hL]at hl' ⊢;obtain⟨H,HR,Hown0,HL⟩:=hid4 h hR hown0 hL;clear h hR hown0 hL;go_enter Tryz.func12,Tryz.ntmps12;go_wp2_with (at_builtin;refine Ai rfl (.tmp 9) (.tmp 10) 30 30 5 rfl Tryz.underlying30 Tryz.underlying30 w.heap.size (.slice (some ⟨w.heap.size,0,none⟩) 1 1) [k] rfl Hown0.out _ a _ c l rfl HR0.out (by simp;omega) (by simp) ?_;intro v1 w1 hown1 hg1 hat1);have hb1:Below w.heap.size w w1:=((Below.refl _ _).alloc (Nat.le_refl _) _).grown hg1 (by simp) (by simp[Value.ownBlock]);rw[show [k]++l=L from HL.out]at hown1;obtain⟨a1,c1,rfl,hf1⟩:=Dz (l:=L) hown1;have hz1:=hb1.size;clear hown1 hg1 hat1;go_wp2_with (go_at_call 26;(with_reducible refine(Gy L a1 _ _ _ hf1.now hl').mono ?_);rintro e w3 ⟨a2,c2,rfl,hf2,hb2⟩);go_ret2;exact⟨a2,c2,rfl,hf2.keep hz1 (Nat.le_refl _) (fun _ _ _=>rfl),hb1.trans (hb2.mono hz1)⟩
end Go.Proofs.YtolnhkmhfblhkaaGreatDoor
