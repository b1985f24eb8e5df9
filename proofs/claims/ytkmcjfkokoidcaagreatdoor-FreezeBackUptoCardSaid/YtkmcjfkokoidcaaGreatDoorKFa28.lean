/- Parts: parse.reader.key. Condition: a text of at most 10^6 bytes. -/
import Derived.Test.YtkmcjfkokoidcaaGreatDoorZFaShelfN
import Derived.Test.YtkmcjfkokoidcaaGreatDoorKFa22
import Derived.Test.YtkmcjfkokoidcaaGreatDoorKFa23
import Derived.Test.YtkmcjfkokoidcaaGreatDoorKFa25
set_option maxHeartbeats 20000000
set_option maxRecDepth 100000
namespace Go.Proofs.YtkmcjfkokoidcaaGreatDoor
open Go Go.RowKit
def Aoh (R g:Nat) (s:ByteArray) (w:World) (r:Rd (List UInt8)) (e:Ending) (w':World):Prop:=match r with
 | .ok a q=>e=.returned (.string ⟨a.toArray⟩)/\Br R g s q w w'
 | .bad c q=>e=L9 c q/\w.grownBy w' (some R)
def Gw (R g:Nat) (s:ByteArray) (w:World) (r:Rd Val) (e:Ending) (w':World):Prop:=match r with
 | .ok v q=>(∃cs:List Value,e=.returned (.agg cs.toArray)/\Ch w.heap.size w' (dV v) cs)/\Br R g s q w w'
 | .bad c q=>e=L9 c q/\w.grownBy w' (some R)
theorem Fo {b:Nat} {w:World} (k:Int) (c:Bool) (n:Int) (t:ByteArray):Ch b w (dV (.mk k c n t [] [])) [.int .i64 k,.bool c,.int .i64 n,.string t,.slice none 0 0,.slice none 0 0]:=fun w'' _ _=>by
 refine Ej _ _ ?_;simp only[Ac];exact⟨none,0,none,0,rfl,by simp,by simp⟩
theorem Ai1 {s:List UInt8} {p:Nat} {e:Int} {q:Nat} (hp:p<=s.length) (h:Eg s p=.bad e q):1<=e:=by
 have:=Hu hp;rw[h]at this;exact this.2.2.1
theorem I4 (R g:Nat) (s:ByteArray) (k:Nat) (w:World) (hT:Cm w) (hs:s.size<=1000000000) (hk:k<=s.size) (h:Wj w R g s k):
 Calls Tryz.prog 205 #[.pointer (some ⟨R,0,none⟩)] w (Aoh R g s w (Eg s.data.toList k)):=by
 have hU:=fun(W:World) (hB:Below w.heap.size w W)=>Ai2 s k W (hT.below hB) hs hk;obtain⟨c0,c1,_,f1,hR⟩:=h.cells
 cases hr:Eg s.data.toList k with
 |ok a q=>
  rw[hr]at hU;simp only[Aly]at hU;have t0:((0:Int) != 0)=false:=rfl;obtain⟨HU,H,HT,Hr⟩:=hid4 hU h hT hr;clear hU h hT hr;go_enter Tryz.func205,Tryz.ntmps205;go_wp2
  go_region_held3 (fun W=>W.cell? ⟨R,0,none⟩=some (.string s)/\W.cell? ⟨R,1,none⟩=some (.int .i64 k)) (go_keep) (first|(go_at_call 248;refine(HU.out _ (Below.drew (Below.refl _ _))).mono ?_;rintro e w1 ⟨rfl,hb1⟩;have hbr1:Below w.heap.size w w1:=(Below.drew (Below.refl _ _)).trans hb1;obtain⟨hc1,hf1⟩:=Yt hbr1))
  all_goals
   have hB:Br R g s k w w1:=(Br.refl H.out).below hbr1;obtain⟨d0,d1,_,d2,d3⟩:=hB.2.cells;have HB:=qz hB;clear hB;clear hc1 hf1 hb1 hbr1;go_wp2;go_ret;exact⟨rfl,HB.out.set q⟩
 |bad c q=>
  have hc1:=Ai1 (by rw[Al];exact hk) hr;rw[hr]at hU;simp only[Aly]at hU;have t0:(c != 0)=true:=by rw[bne_iff_ne];omega
  have HW:=qz (fun W=>Cp (.pointer (some ⟨R,0,none⟩)) c q W);obtain⟨HU,H,HT,Hr⟩:=hid4 hU h hT hr;clear hU h hT hr;go_enter Tryz.func205,Tryz.ntmps205;go_wp2
  go_region_held3 (fun W=>W.cell? ⟨R,0,none⟩=some (.string s)/\W.cell? ⟨R,1,none⟩=some (.int .i64 k)) (go_keep) (first|(go_at_call 248;refine(HU.out _ (Below.drew (Below.refl _ _))).mono ?_;rintro e w1 ⟨rfl,hb1⟩;have hbr1:Below w.heap.size w w1:=(Below.drew (Below.refl _ _)).trans hb1;obtain⟨hc1,hf1⟩:=Yt hbr1))
  all_goals
   have hB:=qz hbr1;clear hc1 hf1 hb1 hbr1;go_wp2_with (fail);(with_reducible refine(HW.out _).mono ?_);rintro e w2 ⟨rfl,rfl⟩;exact⟨rfl,rfl,Q1 _ hB.out⟩
theorem Br.unAlloc {R g q:Nat} {s:ByteArray} {w w1:World} {o:Obj} (h:Br R g s q (w.alloc o) w1):Br R g s q w w1:=⟨Ck (Iy (World.grownBy.refl _ _) o) h.1,h.2⟩
theorem Gj {R:Option Nat} {w w1:World} {o:Obj} (h:(w.alloc o).grownBy w1 R):w.grownBy w1 R:=Ck (Iy (World.grownBy.refl _ _) o) h
theorem Br.many {R g q B:Nat} {s:ByteArray} {w:World} (hB:w.heap.size<=B) (hR:R<w.heap.size): ∀(vs:List Value) (o:Nat) {w1:World},Br R g s q w w1->Br R g s q w (Ak w1 B o vs)
 | [],_,_,h=>h
 |v::vs,o,w1,h=>Br.many hB hR vs (o+1) ⟨M7 h.1 ⟨B,o,none⟩ (.inr hB) v,Aj.far h.2 (by show R≠B;omega) v⟩
theorem Br.res {R g q:Nat} {s:ByteArray} {w w1:World} {t:TypeId} {cs:Array Value} (h:Br R g s q (w.alloc (.cells cs t)) w1) (hR:R<w.heap.size):Aj w1 w.heap.size t cs:=(Aj.new w t cs).grown h.1 (by intro e;cases e;omega)
theorem Rj {s:List UInt8} {p q:Nat} {l:List UInt8} {v v':Val} (h:Dh s p l v=.ok v' q):v'=v:=by
 unfold Dh at h
 split at h
 . cases h;rfl
 . cases h
theorem Zy (R g:Nat) (s:ByteArray) (k:Nat) (d:Int) (w:World) (hT:Cm w) (hs:s.size<=1000000000) (hk:k<=s.size) (h:Wj w R g s k):
 Calls Tryz.prog 147 #[.pointer (some ⟨R,0,none⟩),.int .i64 d] w (Gw R g s w ((Eg s.data.toList k).map Add)):=by
 have hR:R<w.heap.size:=Aj.lt h;have hQ:=I4 R g s k (w.alloc (.cells Bk 37)) (hT.below (Aa _ _)) hs hk (Aj.alloc h _)
 cases hr:Eg s.data.toList k with
 |ok a q=>
  rw[hr]at hQ;simp only[Rd.map];clear hr hT h;have HQ:=qz hQ;clear hQ;go_enter Tryz.func147,Tryz.ntmps147;go_wp2_with (fail);(with_reducible refine(HQ.out).mono ?_);rintro e w1 ⟨rfl,h1⟩;have hxr:=h1.res hR;have H1':=qz h1.unAlloc;have hlt:=hxr.lt;obtain⟨c0,c1,c2,c3,c4,c5⟩:=Bp hxr;have fz:=hxr.frozen;obtain⟨Hxr,H1⟩:=hid2 hxr h1;clear hxr h1;dsimp only
  repeat go_step
  have hxf:=((((((Hxr.out.set_ 0 (.int .i64 4)).set_ 1 (.bool false)).set_ 2 (.int .i64 0)).set_ 3 (.string ⟨a.toArray⟩)).set_ 4 (.slice none 0 0)).set_ 5 (.slice none 0 0));exact bodyPost_ret (Cy rfl rfl hxf) rfl ⟨⟨_,rfl,Fo 4 false 0 _⟩,Br.many (Nat.le_refl _) hR [.int .i64 4,.bool false,.int .i64 0,.string ⟨a.toArray⟩,.slice none 0 0,.slice none 0 0] 0 H1'.out⟩
 |bad c q=>
  rw[hr]at hQ;simp only[Rd.map];clear hr hT h;have HQ:=qz hQ;clear hQ;go_enter Tryz.func147,Tryz.ntmps147;go_wp2_with (fail);(with_reducible refine(HQ.out).mono ?_);rintro e w1 ⟨rfl,h1⟩;exact⟨rfl,rfl,Gj h1⟩
theorem Ae8 (R g:Nat) (s:ByteArray) (k:Nat) (d:Int) (w:World) (hs:s.size<=1000000000) (hk:k<=s.size) (h:Wj w R g s k):
 Calls Tryz.prog 144 #[.pointer (some ⟨R,0,none⟩),.int .i64 d] w (Gw R g s w (Dh s.data.toList k [110,117,108,108] F5)):=by
 have hR:R<w.heap.size:=Aj.lt h;have hQ:=Ph R g s ⟨#[110,117,108,108]⟩ k F5 (w.alloc (.cells Bk 37)) hs hk (by decide) (Aj.alloc h _);dsimp only at hQ
 cases hr:Dh s.data.toList k [110,117,108,108] F5 with
 |ok a q=>
  obtain rfl:=Rj hr;rw[hr]at hQ;clear hr h;have HQ:=qz hQ;clear hQ;go_enter Tryz.func144,Tryz.ntmps144;go_wp2_with (fail);(with_reducible refine(HQ.out).mono ?_);rintro e w1 ⟨rfl,h1⟩;have hxr:=h1.res hR;have H1':=qz h1.unAlloc;have hlt:=hxr.lt;obtain⟨c0,c1,c2,c3,c4,c5⟩:=Bp hxr;have fz:=hxr.frozen;obtain⟨Hxr,H1⟩:=hid2 hxr h1;clear hxr h1;dsimp only
  repeat go_step
  have hxf:=((((((Hxr.out.set_ 0 (.int .i64 1)).set_ 1 (.bool false)).set_ 2 (.int .i64 0)).set_ 3 (.string ⟨#[]⟩)).set_ 4 (.slice none 0 0)).set_ 5 (.slice none 0 0));exact bodyPost_ret (Cy rfl rfl hxf) rfl ⟨⟨_,rfl,Fo 1 false 0 _⟩,Br.many (Nat.le_refl _) hR [.int .i64 1,.bool false,.int .i64 0,.string ⟨#[]⟩,.slice none 0 0,.slice none 0 0] 0 H1'.out⟩
 |bad c q=>
  rw[hr]at hQ;clear hr h;have HQ:=qz hQ;clear hQ;go_enter Tryz.func144,Tryz.ntmps144;go_wp2_with (fail);(with_reducible refine(HQ.out).mono ?_);rintro e w1 ⟨rfl,h1⟩;exact⟨rfl,rfl,Gj h1⟩
theorem Ai9 (R g:Nat) (s:ByteArray) (k:Nat) (d:Int) (w:World) (hs:s.size<=1000000000) (hk:k<=s.size) (h:Wj w R g s k):
 Calls Tryz.prog 146 #[.pointer (some ⟨R,0,none⟩),.int .i64 d] w (Gw R g s w (Dh s.data.toList k [116,114,117,101] (Ib true))):=by
 have hR:R<w.heap.size:=Aj.lt h;have hQ:=Ph R g s ⟨#[116,114,117,101]⟩ k (Ib true) (w.alloc (.cells Bk 37)) hs hk (by decide) (Aj.alloc h _);dsimp only at hQ
 cases hr:Dh s.data.toList k [116,114,117,101] (Ib true)with
 |ok a q=>
  obtain rfl:=Rj hr;rw[hr]at hQ;clear hr h;have HQ:=qz hQ;clear hQ;go_enter Tryz.func146,Tryz.ntmps146;go_wp2_with (fail);(with_reducible refine(HQ.out).mono ?_);rintro e w1 ⟨rfl,h1⟩;have hxr:=h1.res hR;have H1':=qz h1.unAlloc;have hlt:=hxr.lt;obtain⟨c0,c1,c2,c3,c4,c5⟩:=Bp hxr;have fz:=hxr.frozen;obtain⟨Hxr,H1⟩:=hid2 hxr h1;clear hxr h1;dsimp only
  repeat go_step
  have hxf:=((((((Hxr.out.set_ 0 (.int .i64 2)).set_ 1 (.bool true)).set_ 2 (.int .i64 0)).set_ 3 (.string ⟨#[]⟩)).set_ 4 (.slice none 0 0)).set_ 5 (.slice none 0 0));exact bodyPost_ret (Cy rfl rfl hxf) rfl ⟨⟨_,rfl,Fo 2 true 0 _⟩,Br.many (Nat.le_refl _) hR [.int .i64 2,.bool true,.int .i64 0,.string ⟨#[]⟩,.slice none 0 0,.slice none 0 0] 0 H1'.out⟩
 |bad c q=>
  rw[hr]at hQ;clear hr h;have HQ:=qz hQ;clear hQ;go_enter Tryz.func146,Tryz.ntmps146;go_wp2_with (fail);(with_reducible refine(HQ.out).mono ?_);rintro e w1 ⟨rfl,h1⟩;exact⟨rfl,rfl,Gj h1⟩
theorem Ak0 (R g:Nat) (s:ByteArray) (k:Nat) (d:Int) (w:World) (hs:s.size<=1000000000) (hk:k<=s.size) (h:Wj w R g s k):
 Calls Tryz.prog 145 #[.pointer (some ⟨R,0,none⟩),.int .i64 d] w (Gw R g s w (Dh s.data.toList k [102,97,108,115,101] (Ib false))):=by
 have hR:R<w.heap.size:=Aj.lt h;have hQ:=Ph R g s ⟨#[102,97,108,115,101]⟩ k (Ib false) (w.alloc (.cells Bk 37)) hs hk (by decide) (Aj.alloc h _);dsimp only at hQ
 cases hr:Dh s.data.toList k [102,97,108,115,101] (Ib false)with
 |ok a q=>
  obtain rfl:=Rj hr;rw[hr]at hQ;clear hr h;have HQ:=qz hQ;clear hQ;go_enter Tryz.func145,Tryz.ntmps145;go_wp2_with (fail);(with_reducible refine(HQ.out).mono ?_);rintro e w1 ⟨rfl,h1⟩;have hxr:=h1.res hR;have H1':=qz h1.unAlloc;have hlt:=hxr.lt;obtain⟨c0,c1,c2,c3,c4,c5⟩:=Bp hxr;have fz:=hxr.frozen;obtain⟨Hxr,H1⟩:=hid2 hxr h1;clear hxr h1;dsimp only
  repeat go_step
  have hxf:=((((((Hxr.out.set_ 0 (.int .i64 2)).set_ 1 (.bool false)).set_ 2 (.int .i64 0)).set_ 3 (.string ⟨#[]⟩)).set_ 4 (.slice none 0 0)).set_ 5 (.slice none 0 0));exact bodyPost_ret (Cy rfl rfl hxf) rfl ⟨⟨_,rfl,Fo 2 false 0 _⟩,Br.many (Nat.le_refl _) hR [.int .i64 2,.bool false,.int .i64 0,.string ⟨#[]⟩,.slice none 0 0,.slice none 0 0] 0 H1'.out⟩
 |bad c q=>
  rw[hr]at hQ;clear hr h;have HQ:=qz hQ;clear hQ;go_enter Tryz.func145,Tryz.ntmps145;go_wp2_with (fail);(with_reducible refine(HQ.out).mono ?_);rintro e w1 ⟨rfl,h1⟩;exact⟨rfl,rfl,Gj h1⟩
structure RdI (w0 w:World) (R g:Nat) (s:ByteArray) (k:Nat):Prop where
 below:Below w0.heap.size w0 w
 ge:w0.heap.size<=R
 rd:Wj w R g s k
 map:De (Value.int .u8) w g (KV R)
theorem RdI.ne {w0 w:World} {R g k:Nat} {s:ByteArray} (h:RdI w0 w R g s k):g≠R:=by
 rintro rfl;have h1:=h.rd;have h2:=h.map;unfold Wj Aj at h1;unfold De at h2;rw[h1]at h2;simp at h2
theorem RdI.to {w0 w w':World} {R g k k':Nat} {s:ByteArray} (h:RdI w0 w R g s k) (t:Br R g s k' w w'):RdI w0 w' R g s k':=
 ⟨h.below.grown t.1 h.below.size fun r e=>by have:=Option.some.inj e;have:=h.ge;omega,h.ge,t.2,h.map.keep (t.1.block g h.map.lt (by intro e;exact h.ne (Option.some.inj e)))⟩
theorem RdI.later {w0 w w':World} {R g k:Nat} {s:ByteArray} (h:RdI w0 w R g s k) (t:Below w.heap.size w w'):RdI w0 w' R g s k:=
 ⟨h.below.trans (t.mono h.below.size),h.ge,Aj.below h.rd t (Aj.lt h.rd),h.map.below t h.map.lt⟩
def Al8 (w0:World) (R g:Nat) (s:ByteArray) (f:Nat):Prop:= ∀(w:World) (k:Nat) (d:Int),RdI w0 w R g s k->k<=s.size->4*(s.size - k)+1<=f->0<=d->d<=65->
    Calls Tryz.prog 85 #[.pointer (some ⟨R,0,none⟩),.int .i64 d] w (Gw R g s w (Cc f s.data.toList k d))
theorem Br.undrew {w w1:World} {R g k:Nat} {s:ByteArray} (h:Br R g s k w.drew w1):Br R g s k w w1:=⟨⟨h.1.os,h.1.tape,h.1.output,h.1.size,h.1.block⟩,h.2⟩
theorem Iz {w w1:World} {R:Nat} (hR:R<w.heap.size) (h:w.grownBy w1 (some R)): ∃wm:World,wm.heap.size=w.heap.size/\(∀i,i≠R->wm.heap[i]? =w.heap[i]?)/\Below wm.heap.size wm w1:=by
 have hR1:R<w1.heap.size:=by have:=h.size;omega
 refine⟨{w with heap:=w.heap.setIfInBounds R w1.heap[R]},by simp,fun i hi=> ?_, ?_⟩
 . simp only[Array.getElem?_setIfInBounds];rw[if_neg (fun e=>hi e.symm)]
 . refine⟨h.os,h.tape,h.output,by simpa using h.size,fun i hi=> ?_⟩;simp only[Array.size_setIfInBounds]at hi;simp only[Array.getElem?_setIfInBounds];by_cases e:R=i
   . subst e;rw[if_pos rfl,if_pos hi,Array.getElem?_eq_getElem hR1]
   . rw[if_neg e];exact h.block i hi (fun e'=>e (Option.some.inj e').symm)
theorem Br.app {w w5 w6:World} {R g k b:Nat} {s:ByteArray} {e:TypeId} {sz:Nat} {l:List D} {V:Value} {wr:World} (h:Br R g s k w w5) (hg:w5.grownBy w6 V.ownBlock) (hr:E5 b e sz wr l V) (hb:w.heap.size<=b) (hR:R<w.heap.size):Br R g s k w w6:=by
 have hne: ∀i,i<w.heap.size->some i≠V.ownBlock:=fun i hi e=>by have:=(hr.base i e.symm).1;omega
 exact⟨⟨hg.os.trans h.1.os,hg.tape.trans h.1.tape,hg.output.trans h.1.output,Nat.le_trans h.1.size hg.size,fun i hi hn=>(hg.block i (by have:=h.1.size;omega) (hne i hi)).trans (h.1.block i hi hn)⟩,Aj.grown h.2 hg (hne R hR)⟩
theorem Br.setN {w w1:World} {R g k:Nat} {s:ByteArray} (h:Br R g s k w w1) (p:Addr) (hp:w.heap.size<=p.block) (hR:R<w.heap.size) (v:Value):Br R g s k w (w1.setCell p v):=
 ⟨M7 h.1 p (.inr hp) v,Aj.far h.2 (by omega) v⟩
theorem Ec (R g:Nat) (s:ByteArray) (k:Nat) (c:UInt8) (n:Int) (hn:(c.toNat:Int)=n) {B:Bool} (w:World) (hs:s.size<=1000000000) (hk:k<=s.size) (h:Wj w R g s k) (hB:decide (s.data.toList[Aq s.data.toList k]? =some c)=B):
 Calls Tryz.prog 206 #[.pointer (some ⟨R,0,none⟩),.int .u8 n] w fun e w'=>e=.returned (.bool B)/\Br R g s (if B=true then Aq s.data.toList k+1 else Aq s.data.toList k) w w':=by
 subst hn;exact Aa5 R g s k c w hs hk h hB
structure RdL (w wr:World) (R g:Nat) (s:ByteArray) (j:Nat) (cs:Array Value):Prop where
 went:Br R g s j w wr
 res:Aj wr w.heap.size 37 Bk
 var:Aj wr (w.heap.size+1) 37 cs
theorem RdL.to_ {w wr w':World} {R g j j':Nat} {s:ByteArray} {cs:Array Value} (h:RdL w wr R g s j cs) (hR:R<w.heap.size) (t:Br R g s j' wr w'):RdL w w' R g s j' cs:=
 ⟨h.went.trans t,h.res.grown t.1 (by intro e;have:=Option.some.inj e;omega),h.var.grown t.1 (by intro e;have:=Option.some.inj e;omega)⟩
theorem RdL.leave {w wr:World} {R g j:Nat} {s:ByteArray} {cs:Array Value} (h:RdL w wr R g s j cs) (hR:R<w.heap.size) (a0 a1 a2 a3 a4 a5:Value):
 Aj (Ak wr w.heap.size 0 [a0,a1,a2,a3,a4,a5]) w.heap.size 37 #[a0,a1,a2,a3,a4,a5]/\Br R g s j w (Ak wr w.heap.size 0 [a0,a1,a2,a3,a4,a5]):=
 ⟨((((((h.res.set_ 0 a0).set_ 1 a1).set_ 2 a2).set_ 3 a3).set_ 4 a4).set_ 5 a5),Br.many (Nat.le_refl _) hR _ 0 h.went⟩
theorem Ahr {b:Nat} {w:World} {vs:List Val} {a:Option Addr} {n c:Nat} (h:Ch b w (.row 6 (dL vs)) [.slice a n c]):Ch b w (dV (Su vs)) [.int .i64 5,.bool false,.int .i64 0,.string ⟨#[]⟩,.slice a n c,.slice none 0 0]:=fun w'' h1 h2=>by
 simp only[Su,Fl,dV,Ag];exact Af.six.2 ⟨[.slice a n c], [.slice none 0 0],rfl,rfl,rfl,rfl,rfl,h w'' h1 h2,⟨none,0,rfl,by simp[dO], [],rfl,by simp[dO]⟩⟩
theorem Ahs {b:Nat} {w:World} {o:List (ByteArray×Val)} {a:Option Addr} {n c:Nat} (h:Ch b w (.row 7 (dO o)) [.slice a n c]):Ch b w (dV (Rb o)) [.int .i64 6,.bool false,.int .i64 0,.string ⟨#[]⟩,.slice none 0 0,.slice a n c]:=fun w'' h1 h2=>by
 simp only[Rb,Fl,dV,Ag];exact Af.six.2 ⟨[.slice none 0 0], [.slice a n c],rfl,rfl,rfl,rfl,rfl,⟨none,0,rfl,by simp[dL], [],rfl,by simp[dL]⟩,h w'' h1 h2⟩
abbrev Aoi:TypeId:=257
theorem Q7:MKey Tryz.prog 9 Value.string:=Ab9 Tryz.underlying9
def Ua (acc:List (ByteArray×Val)):List (ByteArray×Value):=acc.map fun m=>(m.1,Value.agg #[])
theorem Ahv (a:ByteArray) (m:ByteArray×Val) (r:List (ByteArray×Val)):Lj a (m::r)=(decide (m.1=a)||Lj a r):=rfl
theorem Tv (a:ByteArray): ∀acc:List (ByteArray×Val),E8 a (Ua acc)=if Lj a acc=true then some (.agg #[])else none
 | []=>rfl
 |m::r=>by
  have ih:=Tv a r;show(if a=m.1 then some (Value.agg #[])else E8 a (Ua r))=_;rw[Ahv];by_cases h:a=m.1
  . rw[if_pos h,decide_eq_true h.symm,Bool.true_or,if_pos rfl]
  . rw[if_neg h,ih,decide_eq_false (fun e=>h e.symm),Bool.false_or]
def Ajd (R g G:Nat) (s:ByteArray) (acc:List (ByteArray×Val)) (w:World) (r:Rd (List UInt8)) (p:Nat) (e:Ending) (w':World):Prop:=match r with
 | .bad c q=>e=L9 c q/\w.grownBy w' (some R)
 | .ok k q=>if Lj ⟨k.toArray⟩ acc=true then e=L9 8 p/\w.grownBy w' (some R)
   else e=.returned (.string ⟨k.toArray⟩)/\ ∃w1,Br R g s q w w1/\w1.grownBy w' (some G)/\De Value.string w' G (Ua acc++ [(⟨k.toArray⟩,.agg #[])])
theorem De.grown {α:Type} {f:α->Value} {w w':World} {g:Nat} {kv:List (α×Value)} {r:Option Nat} (h:De f w g kv) (t:w.grownBy w' r) (hg:some g≠r):De f w' g kv:=h.keep (t.block g h.lt hg)
theorem Yg (w:World):(zeroValue 309).run Tryz.prog w=.ok (.agg #[]) w:=by kernel_rfl
theorem Acw (R g G:Nat) (s:ByteArray) (acc:List (ByteArray×Val)) (k:Nat) (w:World) (hT: ∀W,w.grownBy W (some R)->Cm W) (hs:s.size<=1000000000) (hk:k<=s.size) (h:Wj w R g s k) (hM:De Value.string w G (Ua acc)) (hG:G≠R):
 Calls Tryz.prog 207 #[.pointer (some ⟨R,0,none⟩),.map (some G)] w (Ajd R g G s acc w (Eg s.data.toList (Aq s.data.toList k)) (Aq s.data.toList k)):=by
 have hS:=Gq R g s k w hs hk h;have hp:=Dv hk;generalize Aq s.data.toList k=p at hS hp ⊢;have hne:some G≠some R:=fun e=>hG (Option.some.inj e)
 cases hr:Eg s.data.toList p with
 |bad c q=>
  obtain⟨HS,HT,HM,Hr⟩:=hid4 hS hT hM hr;clear hS hT hM hr;clear h;go_enter Tryz.func207,Tryz.ntmps207;go_wp2_with (fail);(with_reducible refine(HS.out).mono ?_);rintro e w1 ⟨rfl,h1⟩;obtain⟨c0,c1,_,f1,hR⟩:=h1.2.cells;have hQ:=I4 R g s p w1 (HT.out w1 h1.1) hs hp h1.2;rw[Hr.out]at hQ;obtain⟨H1,HQ⟩:=hid2 h1 hQ;clear h1 hQ;go_wp2_with (fail);(with_reducible refine(HQ.out).mono ?_);rintro e w2 ⟨rfl,h2⟩;exact⟨rfl,rfl,Ck H1.out.1 h2⟩
 |ok kk q=>
  unfold Ajd;dsimp only;obtain⟨KK,hKK⟩: ∃K:ByteArray,(⟨kk.toArray⟩:ByteArray)=K:=⟨_,rfl⟩;rw[hKK];have hF:=Tv KK acc
  cases hh:Lj KK acc with
  |true=>
   rw[hh,if_pos rfl]at hF;simp only[if_true];obtain⟨HS,HT,HM,Hr,HF,HKK⟩:=hid6 hS hT hM hr hF hKK;clear hS hT hM hr hF hKK;clear h;go_enter Tryz.func207,Tryz.ntmps207;go_wp2_with (fail);(with_reducible refine(HS.out).mono ?_);rintro e w1 ⟨rfl,h1⟩;obtain⟨c0,c1,_,f1,hR⟩:=h1.2.cells;have hQ:=I4 R g s p w1 (HT.out w1 h1.1) hs hp h1.2;rw[Hr.out]at hQ;obtain⟨H1,HQ⟩:=hid2 h1 hQ;clear h1 hQ;go_wp2_with (fail);(with_reducible refine(HQ.out).mono ?_);rintro e w2 ⟨e1,h2⟩;rw[HKK.out]at e1;subst e1;have hM2:=(HM.out.grown H1.out.1 hne).grown h2.1 hne;have hrun:=Ln Q7 Tryz.underlying257 hM2 KK Yg true;rw[HF.out]at hrun;simp only[Option.getD_some,Option.isSome_some,if_true]at hrun;have H12:=qz (Ck H1.out.1 h2.1);have HM2:=qz hM2;clear hM2;clear h2;go_wp2_with (fail);(with_reducible refine(Cp _ _ _ _).mono ?_);rintro e w3 ⟨rfl,rfl⟩;exact⟨rfl,rfl,Iy H12.out _⟩
  |false=>
   rw[hh,if_neg (by decide)]at hF;simp only[Bool.false_eq_true,if_false];obtain⟨HS,HT,HM,Hr,HF,HKK⟩:=hid6 hS hT hM hr hF hKK;clear hS hT hM hr hF hKK;clear h;go_enter Tryz.func207,Tryz.ntmps207;go_wp2_with (fail);(with_reducible refine(HS.out).mono ?_);rintro e w1 ⟨rfl,h1⟩;obtain⟨c0,c1,_,f1,hR⟩:=h1.2.cells;have hQ:=I4 R g s p w1 (HT.out w1 h1.1) hs hp h1.2;rw[Hr.out]at hQ;obtain⟨H1,HQ⟩:=hid2 h1 hQ;clear h1 hQ;go_wp2_with (fail);(with_reducible refine(HQ.out).mono ?_);rintro e w2 ⟨e1,h2⟩;rw[HKK.out]at e1;subst e1;have hM2:=(HM.out.grown H1.out.1 hne).grown h2.1 hne;have hrun:=Ln Q7 Tryz.underlying257 hM2 KK Yg true;rw[HF.out]at hrun;simp only[Option.getD_none,Option.isSome_none,if_true]at hrun;obtain⟨w4,hrun4,hM4,hg4,_⟩:=Ni Q7 Tryz.underlying257 (hM2.alloc (.cells #[] 309)) HF.out (.agg #[]);have h12:=(H1.out.trans h2).alloc (.cells #[] 309);have HG:=qz (And.intro h12 (And.intro hg4 hM4));clear h2 hM2 hM4 hg4 h12;go_wp2;go_ret;exact⟨rfl,_,HG.out.1,HG.out.2.1,HG.out.2.2⟩
end Go.Proofs.YtkmcjfkokoidcaaGreatDoor
