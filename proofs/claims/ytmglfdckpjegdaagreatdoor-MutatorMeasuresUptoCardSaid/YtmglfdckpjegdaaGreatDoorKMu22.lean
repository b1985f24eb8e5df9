/- Parts: parse.reader.key. Condition: a text of at most 10^6 bytes. -/
import Derived.Test.YtmglfdckpjegdaaGreatDoorZShelfN
import Derived.Test.YtmglfdckpjegdaaGreatDoorKMu16
import Derived.Test.YtmglfdckpjegdaaGreatDoorKMu17
set_option maxHeartbeats 20000000
namespace Go.Proofs.YtmglfdckpjegdaaGreatDoor
open Go Go.RowKit
def Aqj (R g:Nat) (s:ByteArray) (w:World) (r:Rd (List UInt8)) (e:Ending) (w':World):Prop:=match r with
 | .ok a q=>e=.returned (.string ⟨a.toArray⟩)/\B6 R g s q w w'
 | .bad c q=>e=Nx c q/\w.grownBy w' (some R)
def Jk (R g:Nat) (s:ByteArray) (w:World) (r:Rd Val) (e:Ending) (w':World):Prop:=match r with
 | .ok v q=>(∃cs:List Value,e=.returned (.agg cs.toArray)/\Au w.heap.size w' (dV v) cs)/\B6 R g s q w w'
 | .bad c q=>e=Nx c q/\w.grownBy w' (some R)
theorem G0 {b:Nat} {w:World} (k:Int) (c:Bool) (n:Int) (t:ByteArray):Au b w (dV (.mk k c n t [] [])) [.int .i64 k,.bool c,.int .i64 n,.string t,.slice none 0 0,.slice none 0 0]:=fun w'' _ _=>by
 refine Fp _ _ ?_;simp only[Ab];exact⟨none,0,none,0,rfl,by simp,by simp⟩
theorem Aj2 {s:List UInt8} {p:Nat} {e:Int} {q:Nat} (hp:p<=s.length) (h:Fk s p=.bad e q):1<=e:=by
 have:=J2 hp;rw[h]at this;exact this.2.2.1
set_option maxRecDepth 100000 in
theorem Kz (R g:Nat) (s:ByteArray) (k:Nat) (w:World) (hT:Cq w) (hs:s.size<=1000000000) (hk:k<=s.size) (h:X7 w R g s k):
 Calls Tryz.prog 173 #[.pointer (some ⟨R,0,none⟩)] w (Aqj R g s w (Fk s.data.toList k)):=by
 have hU:=fun(W:World) (hB:Below w.heap.size w W)=>Aj3 s k W (hT.below hB) hs hk;obtain⟨c0,c1,_,f1,hR⟩:=h.cells
 cases hr:Fk s.data.toList k with
 |ok a q=>
  rw[hr]at hU;simp only[Am8]at hU;have t0:((0:Int) != 0)=false:=rfl;obtain⟨HU,H,HT,Hr⟩:=hid4 hU h hT hr;clear hU h hT hr;go_enter Tryz.func173,Tryz.ntmps173;go_wp2
  go_region_held3 (fun W=>W.cell? ⟨R,0,none⟩=some (.string s)/\W.cell? ⟨R,1,none⟩=some (.int .i64 k)) (go_keep) (first|(go_at_call 203;refine(HU.out _ (Below.drew (Below.refl _ _))).mono ?_;rintro e w1 ⟨rfl,hb1⟩;have hbr1:Below w.heap.size w w1:=(Below.drew (Below.refl _ _)).trans hb1;obtain⟨hc1,hf1⟩:=Bc hbr1))
  all_goals
   have hB:B6 R g s k w w1:=(B6.refl H.out).below hbr1;obtain⟨d0,d1,_,d2,d3⟩:=hB.2.cells;have HB:=Lib.hid hB;clear hB;clear hc1 hf1 hb1 hbr1;go_wp2;go_ret;exact⟨rfl,HB.out.set q⟩
 |bad c q=>
  have hc1:=Aj2 (by rw[Aq];exact hk) hr;rw[hr]at hU;simp only[Am8]at hU;have t0:(c != 0)=true:=by rw[bne_iff_ne];omega
  have hW:=fun W=>C8 (.pointer (some ⟨R,0,none⟩)) c q W;obtain⟨HU,H,HT,Hr,HW⟩:=hid5 hU h hT hr hW;clear hU h hT hr hW;go_enter Tryz.func173,Tryz.ntmps173;go_wp2
  go_region_held3 (fun W=>W.cell? ⟨R,0,none⟩=some (.string s)/\W.cell? ⟨R,1,none⟩=some (.int .i64 k)) (go_keep) (first|(go_at_call 203;refine(HU.out _ (Below.drew (Below.refl _ _))).mono ?_;rintro e w1 ⟨rfl,hb1⟩;have hbr1:Below w.heap.size w w1:=(Below.drew (Below.refl _ _)).trans hb1;obtain⟨hc1,hf1⟩:=Bc hbr1))
  all_goals
   have hB:=Lib.hid hbr1;clear hc1 hf1 hb1 hbr1;go_wp2_with (fail);(with_reducible refine(HW.out _).mono ?_);rintro e w2 ⟨rfl,rfl⟩;exact⟨rfl,rfl,Kg _ hB.out⟩
theorem B6.unAlloc {R g q:Nat} {s:ByteArray} {w w1:World} {o:Obj} (h:B6 R g s q (w.alloc o) w1):B6 R g s q w w1:=⟨B4 (Fo (World.grownBy.refl _ _) o) h.1,h.2⟩
theorem I0 {R:Option Nat} {w w1:World} {o:Obj} (h:(w.alloc o).grownBy w1 R):w.grownBy w1 R:=B4 (Fo (World.grownBy.refl _ _) o) h
theorem B6.many {R g q B:Nat} {s:ByteArray} {w:World} (hB:w.heap.size<=B) (hR:R<w.heap.size): ∀(vs:List Value) (o:Nat) {w1:World},B6 R g s q w w1->B6 R g s q w (Bi w1 B o vs)
 | [],_,_,h=>h
 |v::vs,o,w1,h=>B6.many hB hR vs (o+1) ⟨G8 h.1 ⟨B,o,none⟩ (.inr hB) v,Al.far h.2 (by show R≠B;omega) v⟩
theorem B6.res {R g q:Nat} {s:ByteArray} {w w1:World} {t:TypeId} {cs:Array Value} (h:B6 R g s q (w.alloc (.cells cs t)) w1) (hR:R<w.heap.size):Al w1 w.heap.size t cs:=(Al.new w t cs).grown h.1 (by intro e;cases e;omega)
theorem Sz {s:List UInt8} {p q:Nat} {l:List UInt8} {v v':Val} (h:Ec s p l v=.ok v' q):v'=v:=by
 unfold Ec at h
 split at h
 . cases h;rfl
 . cases h
set_option maxRecDepth 100000 in
theorem Aa8 (R g:Nat) (s:ByteArray) (k:Nat) (d:Int) (w:World) (hT:Cq w) (hs:s.size<=1000000000) (hk:k<=s.size) (h:X7 w R g s k):
 Calls Tryz.prog 136 #[.pointer (some ⟨R,0,none⟩),.int .i64 d] w (Jk R g s w ((Fk s.data.toList k).map Aei)):=by
 have hR:R<w.heap.size:=Al.lt h;have hQ:=Kz R g s k (w.alloc (.cells Ap 27)) (hT.below (Aa _ _)) hs hk (Al.alloc h _)
 cases hr:Fk s.data.toList k with
 |ok a q=>
  rw[hr]at hQ;simp only[Rd.map];clear hr hT h;have HQ:=Lib.hid hQ;clear hQ;go_enter Tryz.func136,Tryz.ntmps136;go_wp2_with (fail);(with_reducible refine(HQ.out).mono ?_);rintro e w1 ⟨rfl,h1⟩;have hxr:=h1.res hR;have h1':=h1.unAlloc;have hlt:=hxr.lt;obtain⟨c0,c1,c2,c3,c4,c5⟩:=Bo hxr;have fz:=hxr.frozen;obtain⟨Hxr,H1,H1'⟩:=hid3 hxr h1 h1';clear hxr h1 h1';dsimp only
  repeat go_step
  have hxf:=((((((Hxr.out.set_ 0 (.int .i64 4)).set_ 1 (.bool false)).set_ 2 (.int .i64 0)).set_ 3 (.string ⟨a.toArray⟩)).set_ 4 (.slice none 0 0)).set_ 5 (.slice none 0 0));exact bodyPost_ret (Ax rfl rfl hxf) rfl ⟨⟨_,rfl,G0 4 false 0 _⟩,B6.many (Nat.le_refl _) hR [.int .i64 4,.bool false,.int .i64 0,.string ⟨a.toArray⟩,.slice none 0 0,.slice none 0 0] 0 H1'.out⟩
 |bad c q=>
  rw[hr]at hQ;simp only[Rd.map];clear hr hT h;have HQ:=Lib.hid hQ;clear hQ;go_enter Tryz.func136,Tryz.ntmps136;go_wp2_with (fail);(with_reducible refine(HQ.out).mono ?_);rintro e w1 ⟨rfl,h1⟩;exact⟨rfl,rfl,I0 h1⟩
set_option maxRecDepth 100000 in
theorem Agb (R g:Nat) (s:ByteArray) (k:Nat) (d:Int) (w:World) (hs:s.size<=1000000000) (hk:k<=s.size) (h:X7 w R g s k):
 Calls Tryz.prog 133 #[.pointer (some ⟨R,0,none⟩),.int .i64 d] w (Jk R g s w (Ec s.data.toList k [110,117,108,108] O3)):=by
 have hR:R<w.heap.size:=Al.lt h;have hQ:=Q1 R g s ⟨#[110,117,108,108]⟩ k O3 (w.alloc (.cells Ap 27)) hs hk (by decide) (Al.alloc h _);dsimp only at hQ
 cases hr:Ec s.data.toList k [110,117,108,108] O3 with
 |ok a q=>
  obtain rfl:=Sz hr;rw[hr]at hQ;clear hr h;have HQ:=Lib.hid hQ;clear hQ;go_enter Tryz.func133,Tryz.ntmps133;go_wp2_with (fail);(with_reducible refine(HQ.out).mono ?_);rintro e w1 ⟨rfl,h1⟩;have hxr:=h1.res hR;have h1':=h1.unAlloc;have hlt:=hxr.lt;obtain⟨c0,c1,c2,c3,c4,c5⟩:=Bo hxr;have fz:=hxr.frozen;obtain⟨Hxr,H1,H1'⟩:=hid3 hxr h1 h1';clear hxr h1 h1';dsimp only
  repeat go_step
  have hxf:=((((((Hxr.out.set_ 0 (.int .i64 1)).set_ 1 (.bool false)).set_ 2 (.int .i64 0)).set_ 3 (.string ⟨#[]⟩)).set_ 4 (.slice none 0 0)).set_ 5 (.slice none 0 0));exact bodyPost_ret (Ax rfl rfl hxf) rfl ⟨⟨_,rfl,G0 1 false 0 _⟩,B6.many (Nat.le_refl _) hR [.int .i64 1,.bool false,.int .i64 0,.string ⟨#[]⟩,.slice none 0 0,.slice none 0 0] 0 H1'.out⟩
 |bad c q=>
  rw[hr]at hQ;clear hr h;have HQ:=Lib.hid hQ;clear hQ;go_enter Tryz.func133,Tryz.ntmps133;go_wp2_with (fail);(with_reducible refine(HQ.out).mono ?_);rintro e w1 ⟨rfl,h1⟩;exact⟨rfl,rfl,I0 h1⟩
set_option maxRecDepth 100000 in
theorem Aka (R g:Nat) (s:ByteArray) (k:Nat) (d:Int) (w:World) (hs:s.size<=1000000000) (hk:k<=s.size) (h:X7 w R g s k):
 Calls Tryz.prog 135 #[.pointer (some ⟨R,0,none⟩),.int .i64 d] w (Jk R g s w (Ec s.data.toList k [116,114,117,101] (J6 true))):=by
 have hR:R<w.heap.size:=Al.lt h;have hQ:=Q1 R g s ⟨#[116,114,117,101]⟩ k (J6 true) (w.alloc (.cells Ap 27)) hs hk (by decide) (Al.alloc h _);dsimp only at hQ
 cases hr:Ec s.data.toList k [116,114,117,101] (J6 true)with
 |ok a q=>
  obtain rfl:=Sz hr;rw[hr]at hQ;clear hr h;have HQ:=Lib.hid hQ;clear hQ;go_enter Tryz.func135,Tryz.ntmps135;go_wp2_with (fail);(with_reducible refine(HQ.out).mono ?_);rintro e w1 ⟨rfl,h1⟩;have hxr:=h1.res hR;have h1':=h1.unAlloc;have hlt:=hxr.lt;obtain⟨c0,c1,c2,c3,c4,c5⟩:=Bo hxr;have fz:=hxr.frozen;obtain⟨Hxr,H1,H1'⟩:=hid3 hxr h1 h1';clear hxr h1 h1';dsimp only
  repeat go_step
  have hxf:=((((((Hxr.out.set_ 0 (.int .i64 2)).set_ 1 (.bool true)).set_ 2 (.int .i64 0)).set_ 3 (.string ⟨#[]⟩)).set_ 4 (.slice none 0 0)).set_ 5 (.slice none 0 0));exact bodyPost_ret (Ax rfl rfl hxf) rfl ⟨⟨_,rfl,G0 2 true 0 _⟩,B6.many (Nat.le_refl _) hR [.int .i64 2,.bool true,.int .i64 0,.string ⟨#[]⟩,.slice none 0 0,.slice none 0 0] 0 H1'.out⟩
 |bad c q=>
  rw[hr]at hQ;clear hr h;have HQ:=Lib.hid hQ;clear hQ;go_enter Tryz.func135,Tryz.ntmps135;go_wp2_with (fail);(with_reducible refine(HQ.out).mono ?_);rintro e w1 ⟨rfl,h1⟩;exact⟨rfl,rfl,I0 h1⟩
set_option maxRecDepth 100000 in
theorem Ame (R g:Nat) (s:ByteArray) (k:Nat) (d:Int) (w:World) (hs:s.size<=1000000000) (hk:k<=s.size) (h:X7 w R g s k):
 Calls Tryz.prog 134 #[.pointer (some ⟨R,0,none⟩),.int .i64 d] w (Jk R g s w (Ec s.data.toList k [102,97,108,115,101] (J6 false))):=by
 have hR:R<w.heap.size:=Al.lt h;have hQ:=Q1 R g s ⟨#[102,97,108,115,101]⟩ k (J6 false) (w.alloc (.cells Ap 27)) hs hk (by decide) (Al.alloc h _);dsimp only at hQ
 cases hr:Ec s.data.toList k [102,97,108,115,101] (J6 false)with
 |ok a q=>
  obtain rfl:=Sz hr;rw[hr]at hQ;clear hr h;have HQ:=Lib.hid hQ;clear hQ;go_enter Tryz.func134,Tryz.ntmps134;go_wp2_with (fail);(with_reducible refine(HQ.out).mono ?_);rintro e w1 ⟨rfl,h1⟩;have hxr:=h1.res hR;have h1':=h1.unAlloc;have hlt:=hxr.lt;obtain⟨c0,c1,c2,c3,c4,c5⟩:=Bo hxr;have fz:=hxr.frozen;obtain⟨Hxr,H1,H1'⟩:=hid3 hxr h1 h1';clear hxr h1 h1';dsimp only
  repeat go_step
  have hxf:=((((((Hxr.out.set_ 0 (.int .i64 2)).set_ 1 (.bool false)).set_ 2 (.int .i64 0)).set_ 3 (.string ⟨#[]⟩)).set_ 4 (.slice none 0 0)).set_ 5 (.slice none 0 0));exact bodyPost_ret (Ax rfl rfl hxf) rfl ⟨⟨_,rfl,G0 2 false 0 _⟩,B6.many (Nat.le_refl _) hR [.int .i64 2,.bool false,.int .i64 0,.string ⟨#[]⟩,.slice none 0 0,.slice none 0 0] 0 H1'.out⟩
 |bad c q=>
  rw[hr]at hQ;clear hr h;have HQ:=Lib.hid hQ;clear hQ;go_enter Tryz.func134,Tryz.ntmps134;go_wp2_with (fail);(with_reducible refine(HQ.out).mono ?_);rintro e w1 ⟨rfl,h1⟩;exact⟨rfl,rfl,I0 h1⟩
structure RdI (w0 w:World) (R g:Nat) (s:ByteArray) (k:Nat):Prop where
 below:Below w0.heap.size w0 w
 ge:w0.heap.size<=R
 rd:X7 w R g s k
 map:Da (Value.int .u8) w g (KV R)
theorem RdI.ne {w0 w:World} {R g k:Nat} {s:ByteArray} (h:RdI w0 w R g s k):g≠R:=by
 rintro rfl;have h1:=h.rd;have h2:=h.map;unfold X7 Al at h1;unfold Da at h2;rw[h1]at h2;simp at h2
theorem RdI.to {w0 w w':World} {R g k k':Nat} {s:ByteArray} (h:RdI w0 w R g s k) (t:B6 R g s k' w w'):RdI w0 w' R g s k':=
 ⟨h.below.grown t.1 h.below.size fun r e=>by have:=Option.some.inj e;have:=h.ge;omega,h.ge,t.2,h.map.keep (t.1.block g h.map.lt (by intro e;exact h.ne (Option.some.inj e)))⟩
theorem RdI.later {w0 w w':World} {R g k:Nat} {s:ByteArray} (h:RdI w0 w R g s k) (t:Below w.heap.size w w'):RdI w0 w' R g s k:=
 ⟨h.below.trans (t.mono h.below.size),h.ge,Al.below h.rd t (Al.lt h.rd),h.map.below t h.map.lt⟩
def Anj (w0:World) (R g:Nat) (s:ByteArray) (f:Nat):Prop:= ∀(w:World) (k:Nat) (d:Int),RdI w0 w R g s k->k<=s.size->4*(s.size - k)+1<=f->0<=d->d<=65->
    Calls Tryz.prog 91 #[.pointer (some ⟨R,0,none⟩),.int .i64 d] w (Jk R g s w (Ch f s.data.toList k d))
theorem B6.undrew {w w1:World} {R g k:Nat} {s:ByteArray} (h:B6 R g s k w.drew w1):B6 R g s k w w1:=⟨⟨h.1.os,h.1.tape,h.1.output,h.1.size,h.1.block⟩,h.2⟩
theorem Kt {w w1:World} {R:Nat} (hR:R<w.heap.size) (h:w.grownBy w1 (some R)): ∃wm:World,wm.heap.size=w.heap.size/\(∀i,i≠R->wm.heap[i]? =w.heap[i]?)/\Below wm.heap.size wm w1:=by
 have hR1:R<w1.heap.size:=by have:=h.size;omega
 refine⟨{w with heap:=w.heap.setIfInBounds R w1.heap[R]},by simp,fun i hi=> ?_, ?_⟩
 . simp only[Array.getElem?_setIfInBounds];rw[if_neg (fun e=>hi e.symm)]
 . refine⟨h.os,h.tape,h.output,by simpa using h.size,fun i hi=> ?_⟩;simp only[Array.size_setIfInBounds]at hi;simp only[Array.getElem?_setIfInBounds];by_cases e:R=i
   . subst e;rw[if_pos rfl,if_pos hi,Array.getElem?_eq_getElem hR1]
   . rw[if_neg e];exact h.block i hi (fun e'=>e (Option.some.inj e').symm)
theorem B6.app {w w5 w6:World} {R g k b:Nat} {s:ByteArray} {e:TypeId} {sz:Nat} {l:List D} {V:Value} {wr:World} (h:B6 R g s k w w5) (hg:w5.grownBy w6 V.ownBlock) (hr:Fl b e sz wr l V) (hb:w.heap.size<=b) (hR:R<w.heap.size):B6 R g s k w w6:=by
 have hne: ∀i,i<w.heap.size->some i≠V.ownBlock:=fun i hi e=>by have:=(hr.base i e.symm).1;omega
 exact⟨⟨hg.os.trans h.1.os,hg.tape.trans h.1.tape,hg.output.trans h.1.output,Nat.le_trans h.1.size hg.size,fun i hi hn=>(hg.block i (by have:=h.1.size;omega) (hne i hi)).trans (h.1.block i hi hn)⟩,Al.grown h.2 hg (hne R hR)⟩
theorem B6.setN {w w1:World} {R g k:Nat} {s:ByteArray} (h:B6 R g s k w w1) (p:Addr) (hp:w.heap.size<=p.block) (hR:R<w.heap.size) (v:Value):B6 R g s k w (w1.setCell p v):=
 ⟨G8 h.1 p (.inr hp) v,Al.far h.2 (by omega) v⟩
theorem Fi (R g:Nat) (s:ByteArray) (k:Nat) (c:UInt8) (n:Int) (hn:(c.toNat:Int)=n) {B:Bool} (w:World) (hs:s.size<=1000000000) (hk:k<=s.size) (h:X7 w R g s k) (hB:decide (s.data.toList[Ay s.data.toList k]? =some c)=B):
 Calls Tryz.prog 174 #[.pointer (some ⟨R,0,none⟩),.int .u8 n] w fun e w'=>e=.returned (.bool B)/\B6 R g s (if B=true then Ay s.data.toList k+1 else Ay s.data.toList k) w w':=by
 subst hn;exact Ab9 R g s k c w hs hk h hB
structure RdL (w wr:World) (R g:Nat) (s:ByteArray) (j:Nat) (cs:Array Value):Prop where
 went:B6 R g s j w wr
 res:Al wr w.heap.size 27 Ap
 var:Al wr (w.heap.size+1) 27 cs
theorem RdL.to_ {w wr w':World} {R g j j':Nat} {s:ByteArray} {cs:Array Value} (h:RdL w wr R g s j cs) (hR:R<w.heap.size) (t:B6 R g s j' wr w'):RdL w w' R g s j' cs:=
 ⟨h.went.trans t,h.res.grown t.1 (by intro e;have:=Option.some.inj e;omega),h.var.grown t.1 (by intro e;have:=Option.some.inj e;omega)⟩
theorem RdL.leave {w wr:World} {R g j:Nat} {s:ByteArray} {cs:Array Value} (h:RdL w wr R g s j cs) (hR:R<w.heap.size) (a0 a1 a2 a3 a4 a5:Value):
 Al (Bi wr w.heap.size 0 [a0,a1,a2,a3,a4,a5]) w.heap.size 27 #[a0,a1,a2,a3,a4,a5]/\B6 R g s j w (Bi wr w.heap.size 0 [a0,a1,a2,a3,a4,a5]):=
 ⟨((((((h.res.set_ 0 a0).set_ 1 a1).set_ 2 a2).set_ 3 a3).set_ 4 a4).set_ 5 a5),B6.many (Nat.le_refl _) hR _ 0 h.went⟩
theorem Aiz {b:Nat} {w:World} {vs:List Val} {a:Option Addr} {n c:Nat} (h:Au b w (.row 6 (dL vs)) [.slice a n c]):Au b w (dV (Uc vs)) [.int .i64 5,.bool false,.int .i64 0,.string ⟨#[]⟩,.slice a n c,.slice none 0 0]:=fun w'' h1 h2=>by
 simp only[Uc,Gx,dV,Holds];exact Aj.six.2 ⟨[.slice a n c], [.slice none 0 0],rfl,rfl,rfl,rfl,rfl,h w'' h1 h2,⟨none,0,rfl,by simp[dO], [],rfl,by simp[dO]⟩⟩
theorem Ai0 {b:Nat} {w:World} {o:List (ByteArray×Val)} {a:Option Addr} {n c:Nat} (h:Au b w (.row 7 (dO o)) [.slice a n c]):Au b w (dV (Su o)) [.int .i64 6,.bool false,.int .i64 0,.string ⟨#[]⟩,.slice none 0 0,.slice a n c]:=fun w'' h1 h2=>by
 simp only[Su,Gx,dV,Holds];exact Aj.six.2 ⟨[.slice none 0 0], [.slice a n c],rfl,rfl,rfl,rfl,rfl,⟨none,0,rfl,by simp[dL], [],rfl,by simp[dL]⟩,h w'' h1 h2⟩
abbrev Aql:TypeId:=191
theorem Ss:MKey Tryz.prog 9 Value.string:=Ti Tryz.underlying9
def Vm (acc:List (ByteArray×Val)):List (ByteArray×Value):=acc.map fun m=>(m.1,Value.agg #[])
theorem Ai2 (a:ByteArray) (m:ByteArray×Val) (r:List (ByteArray×Val)):Na a (m::r)=(decide (m.1=a)||Na a r):=rfl
theorem Vc (a:ByteArray): ∀acc:List (ByteArray×Val),Dt a (Vm acc)=if Na a acc=true then some (.agg #[])else none
 | []=>rfl
 |m::r=>by
  have ih:=Vc a r;show(if a=m.1 then some (Value.agg #[])else Dt a (Vm r))=_;rw[Ai2];by_cases h:a=m.1
  . rw[if_pos h,decide_eq_true h.symm,Bool.true_or,if_pos rfl]
  . rw[if_neg h,ih,decide_eq_false (fun e=>h e.symm),Bool.false_or]
def Ake (R g G:Nat) (s:ByteArray) (acc:List (ByteArray×Val)) (w:World) (r:Rd (List UInt8)) (p:Nat) (e:Ending) (w':World):Prop:=match r with
 | .bad c q=>e=Nx c q/\w.grownBy w' (some R)
 | .ok k q=>if Na ⟨k.toArray⟩ acc=true then e=Nx 8 p/\w.grownBy w' (some R)
   else e=.returned (.string ⟨k.toArray⟩)/\ ∃w1,B6 R g s q w w1/\w1.grownBy w' (some G)/\Da Value.string w' G (Vm acc++ [(⟨k.toArray⟩,.agg #[])])
theorem Da.grown {α:Type} {f:α->Value} {w w':World} {g:Nat} {kv:List (α×Value)} {r:Option Nat} (h:Da f w g kv) (t:w.grownBy w' r) (hg:some g≠r):Da f w' g kv:=h.keep (t.block g h.lt hg)
theorem Z6 (w:World):(zeroValue 229).run Tryz.prog w=.ok (.agg #[]) w:=by kernel_rfl
set_option maxRecDepth 100000 in
theorem Ad2 (R g G:Nat) (s:ByteArray) (acc:List (ByteArray×Val)) (k:Nat) (w:World) (hT: ∀W,w.grownBy W (some R)->Cq W) (hs:s.size<=1000000000) (hk:k<=s.size) (h:X7 w R g s k) (hM:Da Value.string w G (Vm acc)) (hG:G≠R):
 Calls Tryz.prog 175 #[.pointer (some ⟨R,0,none⟩),.map (some G)] w (Ake R g G s acc w (Fk s.data.toList (Ay s.data.toList k)) (Ay s.data.toList k)):=by
 have hS:=Ja R g s k w hs hk h;have hp:=Ev hk;generalize Ay s.data.toList k=p at hS hp ⊢;have hne:some G≠some R:=fun e=>hG (Option.some.inj e)
 cases hr:Fk s.data.toList p with
 |bad c q=>
  obtain⟨HS,HT,HM,Hr⟩:=hid4 hS hT hM hr;clear hS hT hM hr;clear h;go_enter Tryz.func175,Tryz.ntmps175;go_wp2_with (fail);(with_reducible refine(HS.out).mono ?_);rintro e w1 ⟨rfl,h1⟩;obtain⟨c0,c1,_,f1,hR⟩:=h1.2.cells;have hQ:=Kz R g s p w1 (HT.out w1 h1.1) hs hp h1.2;rw[Hr.out]at hQ;obtain⟨H1,HQ⟩:=hid2 h1 hQ;clear h1 hQ;go_wp2_with (fail);(with_reducible refine(HQ.out).mono ?_);rintro e w2 ⟨rfl,h2⟩;exact⟨rfl,rfl,B4 H1.out.1 h2⟩
 |ok kk q=>
  unfold Ake;dsimp only;obtain⟨KK,hKK⟩: ∃K:ByteArray,(⟨kk.toArray⟩:ByteArray)=K:=⟨_,rfl⟩;rw[hKK];have hF:=Vc KK acc
  cases hh:Na KK acc with
  |true=>
   rw[hh,if_pos rfl]at hF;simp only[if_true];obtain⟨HS,HT,HM,Hr,HF,HKK⟩:=hid6 hS hT hM hr hF hKK;clear hS hT hM hr hF hKK;clear h;go_enter Tryz.func175,Tryz.ntmps175;go_wp2_with (fail);(with_reducible refine(HS.out).mono ?_);rintro e w1 ⟨rfl,h1⟩;obtain⟨c0,c1,_,f1,hR⟩:=h1.2.cells;have hQ:=Kz R g s p w1 (HT.out w1 h1.1) hs hp h1.2;rw[Hr.out]at hQ;obtain⟨H1,HQ⟩:=hid2 h1 hQ;clear h1 hQ;go_wp2_with (fail);(with_reducible refine(HQ.out).mono ?_);rintro e w2 ⟨e1,h2⟩;rw[HKK.out]at e1;subst e1;have hM2:=(HM.out.grown H1.out.1 hne).grown h2.1 hne;have hrun:=Km Ss Tryz.underlying191 hM2 KK Z6 true;rw[HF.out]at hrun;simp only[Option.getD_some,Option.isSome_some,if_true]at hrun;have h12:=B4 H1.out.1 h2.1;obtain⟨HM2,H12⟩:=hid2 hM2 h12;clear hM2 h12;clear h2;go_wp2_with (fail);(with_reducible refine(C8 _ _ _ _).mono ?_);rintro e w3 ⟨rfl,rfl⟩;exact⟨rfl,rfl,Fo H12.out _⟩
  |false=>
   rw[hh,if_neg (by decide)]at hF;simp only[Bool.false_eq_true,if_false];obtain⟨HS,HT,HM,Hr,HF,HKK⟩:=hid6 hS hT hM hr hF hKK;clear hS hT hM hr hF hKK;clear h;go_enter Tryz.func175,Tryz.ntmps175;go_wp2_with (fail);(with_reducible refine(HS.out).mono ?_);rintro e w1 ⟨rfl,h1⟩;obtain⟨c0,c1,_,f1,hR⟩:=h1.2.cells;have hQ:=Kz R g s p w1 (HT.out w1 h1.1) hs hp h1.2;rw[Hr.out]at hQ;obtain⟨H1,HQ⟩:=hid2 h1 hQ;clear h1 hQ;go_wp2_with (fail);(with_reducible refine(HQ.out).mono ?_);rintro e w2 ⟨e1,h2⟩;rw[HKK.out]at e1;subst e1;have hM2:=(HM.out.grown H1.out.1 hne).grown h2.1 hne;have hrun:=Km Ss Tryz.underlying191 hM2 KK Z6 true;rw[HF.out]at hrun;simp only[Option.getD_none,Option.isSome_none,if_true]at hrun;obtain⟨w4,hrun4,hM4,hg4,_⟩:=O8 Ss Tryz.underlying191 (hM2.alloc (.cells #[] 229)) HF.out (.agg #[]);have h12:=(H1.out.trans h2).alloc (.cells #[] 229);have HG:=Lib.hid (And.intro h12 (And.intro hg4 hM4));clear h2 hM2 hM4 hg4 h12;go_wp2;go_ret;exact⟨rfl,_,HG.out.1,HG.out.2.1,HG.out.2.2⟩
end Go.Proofs.YtmglfdckpjegdaaGreatDoor
