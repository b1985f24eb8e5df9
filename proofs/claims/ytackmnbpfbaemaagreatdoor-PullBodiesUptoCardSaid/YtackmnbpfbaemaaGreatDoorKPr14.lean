/- Parts: A value's own text is read as that value. Plain. No condition. -/
import Derived.Test.YtackmnbpfbaemaaGreatDoorZShelfN
import Derived.Test.YtackmnbpfbaemaaGreatDoorKPr12
import Derived.Test.YtackmnbpfbaemaaGreatDoorKPr13
set_option maxHeartbeats 20000000
namespace Go.Proofs.YtackmnbpfbaemaaGreatDoor
open Go Go.RowKit
section
variable {P:Program} {md:Region.Mode} {ops:Array Oper} {Q:Exit->Act->World->Prop} {S:World->Prop}
theorem tkH (i:Nat) {oi:Oper} {v:Value} {fuel:Nat} {listed:Array Bool} {a a':Act} {w:World} (hS:S w) (h:wpAnyH P md ops Q S fuel (listed.setIfInBounds i true) a' w)
 (hi:ops[i]? =some oi:=by rfl) (hs:Region.noSelect ops=true:=by kernel_rfl) (hf:Region.free md ops listed i=true:=by kernel_rfl) (hr:(Region.ready md ops listed).contains i=true:=by kernel_rfl)
 (hQ: ∀c a w,Q (.panic c) (a.put oi.dst v) w->Q (.panic c) a w:=by exact fun _ _ _ h=>h) (hw:Region.wanted oi (yielded ops a.tmps)=true:=by kernel_rfl)
 (hy: ∀w,S w->(execOp a.eval oi).run P w=.ok (.value v) w:=by(intro X hSw;(repeat (obtain⟨_,hSw⟩:=hSw));first|(go_simp;done)|(go_simp;with_reducible rfl)))
 (hn:a.put oi.dst v=a':=by((try simp only[Act.put,List.getElem_toArray,List.getElem_cons_succ,List.getElem_cons_zero,List.setIfInBounds_toArray,List.set_cons_zero,List.set_cons_succ]);exact rfl)):wpAnyH P md ops Q S (fuel+1) listed a w:=
 wpAnyH_take hi hs hf hr hQ (Or.inl ⟨hw,hy⟩) hS (hn▸h)
end
end Go.Proofs.YtackmnbpfbaemaaGreatDoor
namespace Go.Proofs.YtackmnbpfbaemaaGreatDoor
def Cv (c k:Int):Int:=if 0<c/\c<=4611686018427387903/\k<=4611686018427387903 then 0 else 2
def Bu (c b k s:Int) (l:List POp):Int:=if 0<c/\c<=4611686018427387903/\b<=4611686018427387903/\k<=4611686018427387903/\s<=4611686018427387903 then Bm none l else 2
abbrev Ah:ByteArray:=⟨#[99,108,105,101,110,116]⟩
abbrev Ai:ByteArray:=⟨#[99,111,111,107,105,101]⟩
abbrev Cc:ByteArray:=⟨#[98,97,115,101]⟩
abbrev B8:ByteArray:=⟨#[108,97,115,116]⟩
abbrev A4:ByteArray:=⟨#[112,97,116,99,104]⟩
def S7 (c k:Int):List (ByteArray×Val):= [(Ah,iv c),(Ai,iv k)]
def Jo (c b k s:Int) (l:List POp):List (ByteArray×Val):= [(Cc,iv b),(Ah,iv c),(Ai,iv k),(B8,iv s),(A4,Ib l)]
end Go.Proofs.YtackmnbpfbaemaaGreatDoor
namespace Go.Proofs.YtackmnbpfbaemaaGreatDoor
open Go Go.RowKit
def An4 (R g:Nat) (s:ByteArray) (w:World) (r:Rd Val) (e:Ending) (w':World):Prop:=match r with
 | .ok _ q=>e=.returned (.tuple #[])/\Bl R g s q w w'
 | .bad c q=>e=L1 c q/\w.grownBy w' (some R)
set_option maxRecDepth 100000 in
theorem O7 (R g:Nat) (s t:ByteArray) (k:Nat) (v:Val) (w:World) (hs:s.size<=1000000000) (hk:k<=s.size) (ht:t.size<=100) (h:V3 w R g s k):
 Calls Tryz.prog 200 #[.pointer (some ⟨R,0,none⟩),.string t] w (An4 R g s w (Du s.data.toList k t.data.toList v)):=by
 have hext:(s.extract k s.size).data.toList=s.data.toList.drop k:=by
  rw[Lib.extract_data];exact List.take_of_length_le (by rw[List.length_drop,Ab];omega)
 have hH:=fun W=>Tryz.strings_HasPrefix (s.extract k s.size) t W;rw[hext]at hH;have hB:Lib.hasPrefix (s.data.toList.drop k) t.data.toList=t.data.toList.isPrefixOf (s.data.toList.drop k):=rfl;rw[hB]at hH;clear hB hext;have i0:(0:Int)<=(k:Int):=by omega
 have i1:(k:Int)<=(s.size:Int):=by omega
 obtain⟨c0,c1,_,f1,hR⟩:=h.cells;have H:=Lib.hid h;clear h;unfold Du
 cases hp:t.data.toList.isPrefixOf (s.data.toList.drop k)with
 |true=>
  rw[hp]at hH;rw[if_pos rfl,Ab];have hle:k+t.size<=s.size:=by
   have:=(List.isPrefixOf_iff_prefix.1 hp).length_le;rw[List.length_drop,Ab,Ab]at this;omega
  clear hp;have HH:=Lib.hid hH;clear hH;go_enter Tryz.func200,Tryz.ntmps200;go_wp2;go_quiet ((go_at_call 223;exact Calls.quiet_of_same (HH.out _)));go_wp2
  go_end0
  exact⟨rfl,((Bl.refl H.out).drewN _).set _⟩
 |false=>
  rw[hp]at hH;rw[if_neg (by decide)];clear hp;have hW:=fun W=>Cl (.pointer (some ⟨R,0,none⟩)) 4 k W;obtain⟨HH,HW⟩:=hid2 hH hW;clear hH hW;go_enter Tryz.func200,Tryz.ntmps200;go_wp2;go_quiet ((go_at_call 223;exact Calls.quiet_of_same (HH.out _)));go_wp2_with (fail);(with_reducible refine(HW.out _).mono ?_);rintro e w1 ⟨rfl,rfl⟩;exact⟨rfl,rfl,F3 (World.grownBy.refl _ _) _⟩
def An2 (R g:Nat) (s:ByteArray) (w:World) (r:Rd (List UInt8)) (e:Ending) (w':World):Prop:=match r with
 | .ok a q=>e=.returned (.string ⟨a.toArray⟩)/\Bl R g s q w w'
 | .bad c q=>e=L1 c q/\w.grownBy w' (some R)
def Gu (R g:Nat) (s:ByteArray) (w:World) (r:Rd Val) (e:Ending) (w':World):Prop:=match r with
 | .ok v q=>(∃cs:List Value,e=.returned (.agg cs.toArray)/\Ap w.heap.size w' (dV v) cs)/\Bl R g s q w w'
 | .bad c q=>e=L1 c q/\w.grownBy w' (some R)
theorem Cb {b:Nat} {w:World} (k:Int) (c:Bool) (n:Int) (t:ByteArray):Ap b w (dV (.mk k c n t [] [])) [.int .i64 k,.bool c,.int .i64 n,.string t,.slice none 0 0,.slice none 0 0]:=fun w'' _ _=>by
 refine Ik _ _ ?_;simp only[Ac];exact⟨none,0,none,0,rfl,by simp,by simp⟩
theorem Ah7 {s:List UInt8} {p:Nat} {e:Int} {q:Nat} (hp:p<=s.length) (h:Di s p=.bad e q):1<=e:=by
 have:=Ex hp;rw[h]at this;exact this.2.2.1
set_option maxRecDepth 100000 in
theorem Iu (R g:Nat) (s:ByteArray) (k:Nat) (w:World) (hT:Cf w) (hs:s.size<=1000000000) (hk:k<=s.size) (h:V3 w R g s k):
 Calls Tryz.prog 201 #[.pointer (some ⟨R,0,none⟩)] w (An2 R g s w (Di s.data.toList k)):=by
 have hU:=fun(W:World) (hB:Below w.heap.size w W)=>Ah8 s k W (hT.below hB) hs hk;obtain⟨c0,c1,_,f1,hR⟩:=h.cells
 cases hr:Di s.data.toList k with
 |ok a q=>
  rw[hr]at hU;simp only[Rf]at hU;have t0:((0:Int) != 0)=false:=rfl;obtain⟨HU,H,HT,Hr⟩:=hid4 hU h hT hr;clear hU h hT hr;go_enter Tryz.func201,Tryz.ntmps201;go_wp2
  go_region_held3 (fun W=>W.cell? ⟨R,0,none⟩=some (.string s)/\W.cell? ⟨R,1,none⟩=some (.int .i64 k)) (go_keep) (first|(go_at_call 224;refine(HU.out _ (Below.drew (Below.refl _ _))).mono ?_;rintro e w1 ⟨rfl,hb1⟩;have hbr1:Below w.heap.size w w1:=(Below.drew (Below.refl _ _)).trans hb1;obtain⟨hc1,hf1⟩:=Dy hbr1))
  all_goals
   have hB:Bl R g s k w w1:=(Bl.refl H.out).below hbr1;obtain⟨d0,d1,_,d2,d3⟩:=hB.2.cells;have HB:=Lib.hid hB;clear hB;clear hc1 hf1 hb1 hbr1;go_wp2;go_ret;exact⟨rfl,HB.out.set q⟩
 |bad c q=>
  have hc1:=Ah7 (by rw[Ab];exact hk) hr;rw[hr]at hU;simp only[Rf]at hU;have t0:(c != 0)=true:=by rw[bne_iff_ne];omega
  have hW:=fun W=>Cl (.pointer (some ⟨R,0,none⟩)) c q W;obtain⟨HU,H,HT,Hr,HW⟩:=hid5 hU h hT hr hW;clear hU h hT hr hW;go_enter Tryz.func201,Tryz.ntmps201;go_wp2
  go_region_held3 (fun W=>W.cell? ⟨R,0,none⟩=some (.string s)/\W.cell? ⟨R,1,none⟩=some (.int .i64 k)) (go_keep) (first|(go_at_call 224;refine(HU.out _ (Below.drew (Below.refl _ _))).mono ?_;rintro e w1 ⟨rfl,hb1⟩;have hbr1:Below w.heap.size w w1:=(Below.drew (Below.refl _ _)).trans hb1;obtain⟨hc1,hf1⟩:=Dy hbr1))
  all_goals
   have hB:=Lib.hid hbr1;clear hc1 hf1 hb1 hbr1;go_wp2_with (fail);(with_reducible refine(HW.out _).mono ?_);rintro e w2 ⟨rfl,rfl⟩;exact⟨rfl,rfl,Ij _ hB.out⟩
theorem Bl.unAlloc {R g q:Nat} {s:ByteArray} {w w1:World} {o:Obj} (h:Bl R g s q (w.alloc o) w1):Bl R g s q w w1:=⟨B2 (D8 (World.grownBy.refl _ _) o) h.1,h.2⟩
theorem F9 {R:Option Nat} {w w1:World} {o:Obj} (h:(w.alloc o).grownBy w1 R):w.grownBy w1 R:=B2 (D8 (World.grownBy.refl _ _) o) h
theorem Bl.many {R g q B:Nat} {s:ByteArray} {w:World} (hB:w.heap.size<=B) (hR:R<w.heap.size): ∀(vs:List Value) (o:Nat) {w1:World},Bl R g s q w w1->Bl R g s q w (A1 w1 B o vs)
 | [],_,_,h=>h
 |v::vs,o,w1,h=>Bl.many hB hR vs (o+1) ⟨Gq h.1 ⟨B,o,none⟩ (.inr hB) v,An.far h.2 (by show R≠B;omega) v⟩
theorem Bl.res {R g q:Nat} {s:ByteArray} {w w1:World} {t:TypeId} {cs:Array Value} (h:Bl R g s q (w.alloc (.cells cs t)) w1) (hR:R<w.heap.size):An w1 w.heap.size t cs:=(An.new w t cs).grown h.1 (by intro e;cases e;omega)
theorem Rg {s:List UInt8} {p q:Nat} {l:List UInt8} {v v':Val} (h:Du s p l v=.ok v' q):v'=v:=by
 unfold Du at h
 split at h
 . cases h;rfl
 . cases h
set_option maxRecDepth 100000 in
theorem Yy (R g:Nat) (s:ByteArray) (k:Nat) (d:Int) (w:World) (hT:Cf w) (hs:s.size<=1000000000) (hk:k<=s.size) (h:V3 w R g s k):
 Calls Tryz.prog 169 #[.pointer (some ⟨R,0,none⟩),.int .i64 d] w (Gu R g s w ((Di s.data.toList k).map Ah5)):=by
 have hR:R<w.heap.size:=An.lt h;have hQ:=Iu R g s k (w.alloc (.cells Aj 39)) (hT.below (Aa _ _)) hs hk (An.alloc h _)
 cases hr:Di s.data.toList k with
 |ok a q=>
  rw[hr]at hQ;simp only[Rd.map];clear hr hT h;have HQ:=Lib.hid hQ;clear hQ;go_enter Tryz.func169,Tryz.ntmps169;go_wp2_with (fail);(with_reducible refine(HQ.out).mono ?_);rintro e w1 ⟨rfl,h1⟩;have hxr:=h1.res hR;have h1':=h1.unAlloc;have hlt:=hxr.lt;obtain⟨c0,c1,c2,c3,c4,c5⟩:=Ao hxr;have fz:=hxr.frozen;obtain⟨Hxr,H1,H1'⟩:=hid3 hxr h1 h1';clear hxr h1 h1';dsimp only
  repeat go_step
  have hxf:=((((((Hxr.out.set_ 0 (.int .i64 4)).set_ 1 (.bool false)).set_ 2 (.int .i64 0)).set_ 3 (.string ⟨a.toArray⟩)).set_ 4 (.slice none 0 0)).set_ 5 (.slice none 0 0));exact bodyPost_ret (B4 rfl rfl hxf) rfl ⟨⟨_,rfl,Cb 4 false 0 _⟩,Bl.many (Nat.le_refl _) hR [.int .i64 4,.bool false,.int .i64 0,.string ⟨a.toArray⟩,.slice none 0 0,.slice none 0 0] 0 H1'.out⟩
 |bad c q=>
  rw[hr]at hQ;simp only[Rd.map];clear hr hT h;have HQ:=Lib.hid hQ;clear hQ;go_enter Tryz.func169,Tryz.ntmps169;go_wp2_with (fail);(with_reducible refine(HQ.out).mono ?_);rintro e w1 ⟨rfl,h1⟩;exact⟨rfl,rfl,F9 h1⟩
set_option maxRecDepth 100000 in
theorem Ad0 (R g:Nat) (s:ByteArray) (k:Nat) (d:Int) (w:World) (hs:s.size<=1000000000) (hk:k<=s.size) (h:V3 w R g s k):
 Calls Tryz.prog 166 #[.pointer (some ⟨R,0,none⟩),.int .i64 d] w (Gu R g s w (Du s.data.toList k [110,117,108,108] P7)):=by
 have hR:R<w.heap.size:=An.lt h;have hQ:=O7 R g s ⟨#[110,117,108,108]⟩ k P7 (w.alloc (.cells Aj 39)) hs hk (by decide) (An.alloc h _);dsimp only at hQ
 cases hr:Du s.data.toList k [110,117,108,108] P7 with
 |ok a q=>
  obtain rfl:=Rg hr;rw[hr]at hQ;clear hr h;have HQ:=Lib.hid hQ;clear hQ;go_enter Tryz.func166,Tryz.ntmps166;go_wp2_with (fail);(with_reducible refine(HQ.out).mono ?_);rintro e w1 ⟨rfl,h1⟩;have hxr:=h1.res hR;have h1':=h1.unAlloc;have hlt:=hxr.lt;obtain⟨c0,c1,c2,c3,c4,c5⟩:=Ao hxr;have fz:=hxr.frozen;obtain⟨Hxr,H1,H1'⟩:=hid3 hxr h1 h1';clear hxr h1 h1';dsimp only
  repeat go_step
  have hxf:=((((((Hxr.out.set_ 0 (.int .i64 1)).set_ 1 (.bool false)).set_ 2 (.int .i64 0)).set_ 3 (.string ⟨#[]⟩)).set_ 4 (.slice none 0 0)).set_ 5 (.slice none 0 0));exact bodyPost_ret (B4 rfl rfl hxf) rfl ⟨⟨_,rfl,Cb 1 false 0 _⟩,Bl.many (Nat.le_refl _) hR [.int .i64 1,.bool false,.int .i64 0,.string ⟨#[]⟩,.slice none 0 0,.slice none 0 0] 0 H1'.out⟩
 |bad c q=>
  rw[hr]at hQ;clear hr h;have HQ:=Lib.hid hQ;clear hQ;go_enter Tryz.func166,Tryz.ntmps166;go_wp2_with (fail);(with_reducible refine(HQ.out).mono ?_);rintro e w1 ⟨rfl,h1⟩;exact⟨rfl,rfl,F9 h1⟩
set_option maxRecDepth 100000 in
theorem Aid (R g:Nat) (s:ByteArray) (k:Nat) (d:Int) (w:World) (hs:s.size<=1000000000) (hk:k<=s.size) (h:V3 w R g s k):
 Calls Tryz.prog 168 #[.pointer (some ⟨R,0,none⟩),.int .i64 d] w (Gu R g s w (Du s.data.toList k [116,114,117,101] (Kp true))):=by
 have hR:R<w.heap.size:=An.lt h;have hQ:=O7 R g s ⟨#[116,114,117,101]⟩ k (Kp true) (w.alloc (.cells Aj 39)) hs hk (by decide) (An.alloc h _);dsimp only at hQ
 cases hr:Du s.data.toList k [116,114,117,101] (Kp true)with
 |ok a q=>
  obtain rfl:=Rg hr;rw[hr]at hQ;clear hr h;have HQ:=Lib.hid hQ;clear hQ;go_enter Tryz.func168,Tryz.ntmps168;go_wp2_with (fail);(with_reducible refine(HQ.out).mono ?_);rintro e w1 ⟨rfl,h1⟩;have hxr:=h1.res hR;have h1':=h1.unAlloc;have hlt:=hxr.lt;obtain⟨c0,c1,c2,c3,c4,c5⟩:=Ao hxr;have fz:=hxr.frozen;obtain⟨Hxr,H1,H1'⟩:=hid3 hxr h1 h1';clear hxr h1 h1';dsimp only
  repeat go_step
  have hxf:=((((((Hxr.out.set_ 0 (.int .i64 2)).set_ 1 (.bool true)).set_ 2 (.int .i64 0)).set_ 3 (.string ⟨#[]⟩)).set_ 4 (.slice none 0 0)).set_ 5 (.slice none 0 0));exact bodyPost_ret (B4 rfl rfl hxf) rfl ⟨⟨_,rfl,Cb 2 true 0 _⟩,Bl.many (Nat.le_refl _) hR [.int .i64 2,.bool true,.int .i64 0,.string ⟨#[]⟩,.slice none 0 0,.slice none 0 0] 0 H1'.out⟩
 |bad c q=>
  rw[hr]at hQ;clear hr h;have HQ:=Lib.hid hQ;clear hQ;go_enter Tryz.func168,Tryz.ntmps168;go_wp2_with (fail);(with_reducible refine(HQ.out).mono ?_);rintro e w1 ⟨rfl,h1⟩;exact⟨rfl,rfl,F9 h1⟩
set_option maxRecDepth 100000 in
theorem Aj3 (R g:Nat) (s:ByteArray) (k:Nat) (d:Int) (w:World) (hs:s.size<=1000000000) (hk:k<=s.size) (h:V3 w R g s k):
 Calls Tryz.prog 167 #[.pointer (some ⟨R,0,none⟩),.int .i64 d] w (Gu R g s w (Du s.data.toList k [102,97,108,115,101] (Kp false))):=by
 have hR:R<w.heap.size:=An.lt h;have hQ:=O7 R g s ⟨#[102,97,108,115,101]⟩ k (Kp false) (w.alloc (.cells Aj 39)) hs hk (by decide) (An.alloc h _);dsimp only at hQ
 cases hr:Du s.data.toList k [102,97,108,115,101] (Kp false)with
 |ok a q=>
  obtain rfl:=Rg hr;rw[hr]at hQ;clear hr h;have HQ:=Lib.hid hQ;clear hQ;go_enter Tryz.func167,Tryz.ntmps167;go_wp2_with (fail);(with_reducible refine(HQ.out).mono ?_);rintro e w1 ⟨rfl,h1⟩;have hxr:=h1.res hR;have h1':=h1.unAlloc;have hlt:=hxr.lt;obtain⟨c0,c1,c2,c3,c4,c5⟩:=Ao hxr;have fz:=hxr.frozen;obtain⟨Hxr,H1,H1'⟩:=hid3 hxr h1 h1';clear hxr h1 h1';dsimp only
  repeat go_step
  have hxf:=((((((Hxr.out.set_ 0 (.int .i64 2)).set_ 1 (.bool false)).set_ 2 (.int .i64 0)).set_ 3 (.string ⟨#[]⟩)).set_ 4 (.slice none 0 0)).set_ 5 (.slice none 0 0));exact bodyPost_ret (B4 rfl rfl hxf) rfl ⟨⟨_,rfl,Cb 2 false 0 _⟩,Bl.many (Nat.le_refl _) hR [.int .i64 2,.bool false,.int .i64 0,.string ⟨#[]⟩,.slice none 0 0,.slice none 0 0] 0 H1'.out⟩
 |bad c q=>
  rw[hr]at hQ;clear hr h;have HQ:=Lib.hid hQ;clear hQ;go_enter Tryz.func167,Tryz.ntmps167;go_wp2_with (fail);(with_reducible refine(HQ.out).mono ?_);rintro e w1 ⟨rfl,h1⟩;exact⟨rfl,rfl,F9 h1⟩
structure RdI (w0 w:World) (R g:Nat) (s:ByteArray) (k:Nat):Prop where
 below:Below w0.heap.size w0 w
 ge:w0.heap.size<=R
 rd:V3 w R g s k
 map:Cw (Value.int .u8) w g (KV R)
theorem RdI.ne {w0 w:World} {R g k:Nat} {s:ByteArray} (h:RdI w0 w R g s k):g≠R:=by
 rintro rfl;have h1:=h.rd;have h2:=h.map;unfold V3 An at h1;unfold Cw at h2;rw[h1]at h2;simp at h2
theorem RdI.to {w0 w w':World} {R g k k':Nat} {s:ByteArray} (h:RdI w0 w R g s k) (t:Bl R g s k' w w'):RdI w0 w' R g s k':=
 ⟨h.below.grown t.1 h.below.size fun r e=>by have:=Option.some.inj e;have:=h.ge;omega,h.ge,t.2,h.map.keep (t.1.block g h.map.lt (by intro e;exact h.ne (Option.some.inj e)))⟩
theorem RdI.later {w0 w w':World} {R g k:Nat} {s:ByteArray} (h:RdI w0 w R g s k) (t:Below w.heap.size w w'):RdI w0 w' R g s k:=
 ⟨h.below.trans (t.mono h.below.size),h.ge,An.below h.rd t (An.lt h.rd),h.map.below t h.map.lt⟩
def Ak6 (w0:World) (R g:Nat) (s:ByteArray) (f:Nat):Prop:= ∀(w:World) (k:Nat) (d:Int),RdI w0 w R g s k->k<=s.size->4*(s.size - k)+1<=f->0<=d->d<=65->
    Calls Tryz.prog 123 #[.pointer (some ⟨R,0,none⟩),.int .i64 d] w (Gu R g s w (Bq f s.data.toList k d))
theorem Bl.undrew {w w1:World} {R g k:Nat} {s:ByteArray} (h:Bl R g s k w.drew w1):Bl R g s k w w1:=⟨⟨h.1.os,h.1.tape,h.1.output,h.1.size,h.1.block⟩,h.2⟩
theorem Ir {w w1:World} {R:Nat} (hR:R<w.heap.size) (h:w.grownBy w1 (some R)): ∃wm:World,wm.heap.size=w.heap.size/\(∀i,i≠R->wm.heap[i]? =w.heap[i]?)/\Below wm.heap.size wm w1:=by
 have hR1:R<w1.heap.size:=by have:=h.size;omega
 refine⟨{w with heap:=w.heap.setIfInBounds R w1.heap[R]},by simp,fun i hi=> ?_, ?_⟩
 . simp only[Array.getElem?_setIfInBounds];rw[if_neg (fun e=>hi e.symm)]
 . refine⟨h.os,h.tape,h.output,by simpa using h.size,fun i hi=> ?_⟩;simp only[Array.size_setIfInBounds]at hi;simp only[Array.getElem?_setIfInBounds];by_cases e:R=i
   . subst e;rw[if_pos rfl,if_pos hi,Array.getElem?_eq_getElem hR1]
   . rw[if_neg e];exact h.block i hi (fun e'=>e (Option.some.inj e').symm)
theorem Bl.app {w w5 w6:World} {R g k b:Nat} {s:ByteArray} {e:TypeId} {sz:Nat} {l:List D} {V:Value} {wr:World} (h:Bl R g s k w w5) (hg:w5.grownBy w6 V.ownBlock) (hr:C7 b e sz wr l V) (hb:w.heap.size<=b) (hR:R<w.heap.size):Bl R g s k w w6:=by
 have hne: ∀i,i<w.heap.size->some i≠V.ownBlock:=fun i hi e=>by have:=(hr.base i e.symm).1;omega
 exact⟨⟨hg.os.trans h.1.os,hg.tape.trans h.1.tape,hg.output.trans h.1.output,Nat.le_trans h.1.size hg.size,fun i hi hn=>(hg.block i (by have:=h.1.size;omega) (hne i hi)).trans (h.1.block i hi hn)⟩,An.grown h.2 hg (hne R hR)⟩
theorem Bl.setN {w w1:World} {R g k:Nat} {s:ByteArray} (h:Bl R g s k w w1) (p:Addr) (hp:w.heap.size<=p.block) (hR:R<w.heap.size) (v:Value):Bl R g s k w (w1.setCell p v):=
 ⟨Gq h.1 p (.inr hp) v,An.far h.2 (by omega) v⟩
theorem D6 (R g:Nat) (s:ByteArray) (k:Nat) (c:UInt8) (n:Int) (hn:(c.toNat:Int)=n) {B:Bool} (w:World) (hs:s.size<=1000000000) (hk:k<=s.size) (h:V3 w R g s k) (hB:decide (s.data.toList[Ar s.data.toList k]? =some c)=B):
 Calls Tryz.prog 202 #[.pointer (some ⟨R,0,none⟩),.int .u8 n] w fun e w'=>e=.returned (.bool B)/\Bl R g s (if B=true then Ar s.data.toList k+1 else Ar s.data.toList k) w w':=by
 subst hn;exact Z5 R g s k c w hs hk h hB
structure RdL (w wr:World) (R g:Nat) (s:ByteArray) (j:Nat) (cs:Array Value):Prop where
 went:Bl R g s j w wr
 res:An wr w.heap.size 39 Aj
 var:An wr (w.heap.size+1) 39 cs
theorem RdL.to_ {w wr w':World} {R g j j':Nat} {s:ByteArray} {cs:Array Value} (h:RdL w wr R g s j cs) (hR:R<w.heap.size) (t:Bl R g s j' wr w'):RdL w w' R g s j' cs:=
 ⟨h.went.trans t,h.res.grown t.1 (by intro e;have:=Option.some.inj e;omega),h.var.grown t.1 (by intro e;have:=Option.some.inj e;omega)⟩
theorem RdL.leave {w wr:World} {R g j:Nat} {s:ByteArray} {cs:Array Value} (h:RdL w wr R g s j cs) (hR:R<w.heap.size) (a0 a1 a2 a3 a4 a5:Value):
 An (A1 wr w.heap.size 0 [a0,a1,a2,a3,a4,a5]) w.heap.size 39 #[a0,a1,a2,a3,a4,a5]/\Bl R g s j w (A1 wr w.heap.size 0 [a0,a1,a2,a3,a4,a5]):=
 ⟨((((((h.res.set_ 0 a0).set_ 1 a1).set_ 2 a2).set_ 3 a3).set_ 4 a4).set_ 5 a5),Bl.many (Nat.le_refl _) hR _ 0 h.went⟩
theorem Wp {b:Nat} {w:World} {vs:List Val} {a:Option Addr} {n c:Nat} (h:Ap b w (.row 6 (dL vs)) [.slice a n c]):Ap b w (dV (Vd vs)) [.int .i64 5,.bool false,.int .i64 0,.string ⟨#[]⟩,.slice a n c,.slice none 0 0]:=fun w'' h1 h2=>by
 simp only[Vd,Jf,dV,Ae];exact Ag.six.2 ⟨[.slice a n c], [.slice none 0 0],rfl,rfl,rfl,rfl,rfl,h w'' h1 h2,⟨none,0,rfl,by simp[dO], [],rfl,by simp[dO]⟩⟩
theorem Agv {b:Nat} {w:World} {o:List (ByteArray×Val)} {a:Option Addr} {n c:Nat} (h:Ap b w (.row 7 (dO o)) [.slice a n c]):Ap b w (dV (Sz o)) [.int .i64 6,.bool false,.int .i64 0,.string ⟨#[]⟩,.slice none 0 0,.slice a n c]:=fun w'' h1 h2=>by
 simp only[Sz,Jf,dV,Ae];exact Ag.six.2 ⟨[.slice none 0 0], [.slice a n c],rfl,rfl,rfl,rfl,rfl,⟨none,0,rfl,by simp[dL], [],rfl,by simp[dL]⟩,h w'' h1 h2⟩
abbrev An3:TypeId:=269
theorem Qw:MKey Tryz.prog 9 Value.string:=Ry Tryz.underlying9
def Ub (acc:List (ByteArray×Val)):List (ByteArray×Value):=acc.map fun m=>(m.1,Value.agg #[])
theorem Ag0 (a:ByteArray) (m:ByteArray×Val) (r:List (ByteArray×Val)):Ji a (m::r)=(decide (m.1=a)||Ji a r):=rfl
theorem T5 (a:ByteArray): ∀acc:List (ByteArray×Val),Cy a (Ub acc)=if Ji a acc=true then some (.agg #[])else none
 | []=>rfl
 |m::r=>by
  have ih:=T5 a r;show(if a=m.1 then some (Value.agg #[])else Cy a (Ub r))=_;rw[Ag0];by_cases h:a=m.1
  . rw[if_pos h,decide_eq_true h.symm,Bool.true_or,if_pos rfl]
  . rw[if_neg h,ih,decide_eq_false (fun e=>h e.symm),Bool.false_or]
def Aih (R g G:Nat) (s:ByteArray) (acc:List (ByteArray×Val)) (w:World) (r:Rd (List UInt8)) (p:Nat) (e:Ending) (w':World):Prop:=match r with
 | .bad c q=>e=L1 c q/\w.grownBy w' (some R)
 | .ok k q=>if Ji ⟨k.toArray⟩ acc=true then e=L1 8 p/\w.grownBy w' (some R)
   else e=.returned (.string ⟨k.toArray⟩)/\ ∃w1,Bl R g s q w w1/\w1.grownBy w' (some G)/\Cw Value.string w' G (Ub acc++ [(⟨k.toArray⟩,.agg #[])])
theorem Cw.grown {α:Type} {f:α->Value} {w w':World} {g:Nat} {kv:List (α×Value)} {r:Option Nat} (h:Cw f w g kv) (t:w.grownBy w' r) (hg:some g≠r):Cw f w' g kv:=h.keep (t.block g h.lt hg)
theorem Xp (w:World):(zeroValue 298).run Tryz.prog w=.ok (.agg #[]) w:=by kernel_rfl
set_option maxRecDepth 100000 in
theorem Abf (R g G:Nat) (s:ByteArray) (acc:List (ByteArray×Val)) (k:Nat) (w:World) (hT: ∀W,w.grownBy W (some R)->Cf W) (hs:s.size<=1000000000) (hk:k<=s.size) (h:V3 w R g s k) (hM:Cw Value.string w G (Ub acc)) (hG:G≠R):
 Calls Tryz.prog 203 #[.pointer (some ⟨R,0,none⟩),.map (some G)] w (Aih R g G s acc w (Di s.data.toList (Ar s.data.toList k)) (Ar s.data.toList k)):=by
 have hS:=Gj R g s k w hs hk h;have hp:=B3 hk;generalize Ar s.data.toList k=p at hS hp ⊢;have hne:some G≠some R:=fun e=>hG (Option.some.inj e)
 cases hr:Di s.data.toList p with
 |bad c q=>
  obtain⟨HS,HT,HM,Hr⟩:=hid4 hS hT hM hr;clear hS hT hM hr;clear h;go_enter Tryz.func203,Tryz.ntmps203;go_wp2_with (fail);(with_reducible refine(HS.out).mono ?_);rintro e w1 ⟨rfl,h1⟩;obtain⟨c0,c1,_,f1,hR⟩:=h1.2.cells;have hQ:=Iu R g s p w1 (HT.out w1 h1.1) hs hp h1.2;rw[Hr.out]at hQ;obtain⟨H1,HQ⟩:=hid2 h1 hQ;clear h1 hQ;go_wp2_with (fail);(with_reducible refine(HQ.out).mono ?_);rintro e w2 ⟨rfl,h2⟩;exact⟨rfl,rfl,B2 H1.out.1 h2⟩
 |ok kk q=>
  unfold Aih;dsimp only;obtain⟨KK,hKK⟩: ∃K:ByteArray,(⟨kk.toArray⟩:ByteArray)=K:=⟨_,rfl⟩;rw[hKK];have hF:=T5 KK acc
  cases hh:Ji KK acc with
  |true=>
   rw[hh,if_pos rfl]at hF;simp only[if_true];obtain⟨HS,HT,HM,Hr,HF,HKK⟩:=hid6 hS hT hM hr hF hKK;clear hS hT hM hr hF hKK;clear h;go_enter Tryz.func203,Tryz.ntmps203;go_wp2_with (fail);(with_reducible refine(HS.out).mono ?_);rintro e w1 ⟨rfl,h1⟩;obtain⟨c0,c1,_,f1,hR⟩:=h1.2.cells;have hQ:=Iu R g s p w1 (HT.out w1 h1.1) hs hp h1.2;rw[Hr.out]at hQ;obtain⟨H1,HQ⟩:=hid2 h1 hQ;clear h1 hQ;go_wp2_with (fail);(with_reducible refine(HQ.out).mono ?_);rintro e w2 ⟨e1,h2⟩;rw[HKK.out]at e1;subst e1;have hM2:=(HM.out.grown H1.out.1 hne).grown h2.1 hne;have hrun:=J3 Qw Tryz.underlying269 hM2 KK Xp true;rw[HF.out]at hrun;simp only[Option.getD_some,Option.isSome_some,if_true]at hrun;have h12:=B2 H1.out.1 h2.1;obtain⟨HM2,H12⟩:=hid2 hM2 h12;clear hM2 h12;clear h2;go_wp2_with (fail);(with_reducible refine(Cl _ _ _ _).mono ?_);rintro e w3 ⟨rfl,rfl⟩;exact⟨rfl,rfl,D8 H12.out _⟩
  |false=>
   rw[hh,if_neg (by decide)]at hF;simp only[Bool.false_eq_true,if_false];obtain⟨HS,HT,HM,Hr,HF,HKK⟩:=hid6 hS hT hM hr hF hKK;clear hS hT hM hr hF hKK;clear h;go_enter Tryz.func203,Tryz.ntmps203;go_wp2_with (fail);(with_reducible refine(HS.out).mono ?_);rintro e w1 ⟨rfl,h1⟩;obtain⟨c0,c1,_,f1,hR⟩:=h1.2.cells;have hQ:=Iu R g s p w1 (HT.out w1 h1.1) hs hp h1.2;rw[Hr.out]at hQ;obtain⟨H1,HQ⟩:=hid2 h1 hQ;clear h1 hQ;go_wp2_with (fail);(with_reducible refine(HQ.out).mono ?_);rintro e w2 ⟨e1,h2⟩;rw[HKK.out]at e1;subst e1;have hM2:=(HM.out.grown H1.out.1 hne).grown h2.1 hne;have hrun:=J3 Qw Tryz.underlying269 hM2 KK Xp true;rw[HF.out]at hrun;simp only[Option.getD_none,Option.isSome_none,if_true]at hrun;obtain⟨w4,hrun4,hM4,hg4,_⟩:=Kx Qw Tryz.underlying269 (hM2.alloc (.cells #[] 298)) HF.out (.agg #[]);have h12:=(H1.out.trans h2).alloc (.cells #[] 298);have HG:=Lib.hid (And.intro h12 (And.intro hg4 hM4));clear h2 hM2 hM4 hg4 h12;go_wp2;go_ret;exact⟨rfl,_,HG.out.1,HG.out.2.1,HG.out.2.2⟩
structure RBx (w W:World) (cs:Array Value):Prop where
 below:Below w.heap.size w W
 blk:An W w.heap.size 39 cs
theorem RBx.start (w:World):RBx w (w.alloc (.cells Aj 39)) Aj:=⟨Aa w _,An.new _ _ _⟩
theorem RBx.later {w W W':World} {cs:Array Value} (h:RBx w W cs) (t:Below W.heap.size W W'):RBx w W' cs:=⟨h.below.trans (t.mono h.below.size),h.blk.below t h.blk.lt⟩
theorem RBx.many {w W:World} {b0 b1 b2 b3 b4 b5:Value} (h:RBx w W #[b0,b1,b2,b3,b4,b5]) (a0 a1 a2 a3 a4 a5:Value):RBx w (A1 W w.heap.size 0 [a0,a1,a2,a3,a4,a5]) #[a0,a1,a2,a3,a4,a5]:=
 ⟨Ak _ h.below (Nat.le_refl _),((((((h.blk.set_ 0 a0).set_ 1 a1).set_ 2 a2).set_ 3 a3).set_ 4 a4).set_ 5 a5)⟩
def Gv (w:World) (RES:Rd Val) (e:Ending) (w':World):Prop:=Below w.heap.size w w'/\match RES with
 | .ok v q=> ∃cs:List Value,e=.returned (.tuple #[.agg cs.toArray,.int .i64 (q:Nat),.int .i64 0])/\Ap w.heap.size w' (dV v) cs
 | .bad c q=>e=.returned (.tuple #[.agg Aj,.int .i64 (q:Nat),.int .i64 c])
theorem Lk: ∀{l:List (ByteArray×Val)} {last:Option ByteArray} {d:Int},Df l last d=0->Ej l/\ ∀q,last=some q-> ∀m ∈ l,Md q m.1=true
 | [],_,_,_=>⟨List.Pairwise.nil,fun q _ m hm=>by cases hm⟩
 |(k,v)::r,last,d,h=>by
  simp only[Df]at h;by_cases hP:Ot (k,v) last d=0
  . rw[if_pos hP]at h;obtain⟨h1,h2⟩:=Lk h;refine⟨List.pairwise_cons.2 ⟨fun m hm=>h2 k rfl m hm,h1⟩,fun q hq m hm=> ?_⟩;subst hq;have hqk:Md q k=true:=by
     simp only[Ot]at hP
     split at hP
     . split at hP
       . cases hP
       . rename_i hle;unfold U3 at hle;simp only[Bool.or_eq_true,not_or]at hle;rcases Nj q k with t|t|t
         . exact t
         . subst t;exact absurd (by simp) hle.2
         . exact absurd t hle.1
     . cases hP
    rcases List.mem_cons.1 hm with rfl|hm
    . exact hqk
    . exact Fp hqk (h2 k rfl m hm)
  . rw[if_neg hP]at h;exact absurd h hP
end Go.Proofs.YtackmnbpfbaemaaGreatDoor
