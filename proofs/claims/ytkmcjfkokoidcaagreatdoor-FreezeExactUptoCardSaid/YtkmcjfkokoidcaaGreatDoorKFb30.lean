/- Parts: freeze.newGate and its two functions. Condition: a bulk of at most 10^8. -/
import Derived.Handy
import Derived.Laws.EntriesVeiled
import Derived.Test.YtkmcjfkokoidcaaGreatDoorKFb27
set_option maxHeartbeats 20000000
set_option maxRecDepth 100000
namespace Go.Proofs.YtkmcjfkokoidcaaGreatDoor
open Go.RowKit
theorem Sm (a:Addr) (s:ByteArray) (B:Bool) (w:World) (hc:w.cell? a=some (.string s)) (h:s.toList.isEmpty=B):Calls Tryz.prog 198 #[.pointer (some a)] w fun e w'=>e=.returned (.bool B)/\w=w':=by
 subst h;go_enter Tryz.func198,Tryz.ntmps198;go_wp2;go_ret;exact⟨rfl,rfl⟩
theorem Sn (a:Addr) (s:ByteArray) (B:Bool) (w:World) (hc:w.cell? a=some (.string s)) (h:decide (64<(s.size:Int))=B):Calls Tryz.prog 199 #[.pointer (some a)] w fun e w'=>e=.returned (.bool B)/\w=w':=by
 subst h;go_enter Tryz.func199,Tryz.ntmps199;go_wp2;go_ret;exact⟨rfl,rfl⟩
theorem So (a:Addr) (s:ByteArray) (B:Bool) (w:World) (hc:w.cell? a=some (.string s)) (h:A8 s=B) (hs:s.size<=9223372036854775807) (hT:B3 w):Calls Tryz.prog 200 #[.pointer (some a)] w fun e w'=>e=.returned (.bool (!B))/\Below w.heap.size w w':=by
 have HU:=qz (Bw h w hs hT);clear h hT;go_enter Tryz.func200,Tryz.ntmps200;go_wp2_with (go_at_call 159;refine HU.out.mono ?_;rintro e w1 ⟨rfl,hb1⟩);go_ret;exact⟨rfl,hb1⟩
abbrev X8 (g:Nat):Array Value:= #[.int .i64 8,.func (.func 198) #[] #[.pointer (some ⟨g,0,none⟩)],.int .i64 6,.func (.func 199) #[] #[.pointer (some ⟨g,0,none⟩)],.int .i64 3,.func (.func 200) #[] #[.pointer (some ⟨g,0,none⟩)]]
theorem Sp (s:ByteArray) (w:World):Calls Tryz.prog 137 #[.string s] w fun e w'=>e=.returned (.slice (some ⟨w.heap.size+1,0,none⟩) 3 3)/\w'=(w.alloc (.cells #[.string s] 9)).alloc (.cells (X8 w.heap.size) 205):=by
 go_enter Tryz.func137,Tryz.ntmps137;go_wp2;go_ret;exact⟨rfl,rfl⟩
theorem Sf (s:ByteArray) (w:World) (hT:B3 w) (hs:s.size<=9223372036854775807):Calls Tryz.prog 78 #[.string s] w fun e w'=>e=.returned (.int .i64 (Lr s))/\Below w.heap.size w w':=by
 obtain⟨b1,hb1⟩: ∃b,s.toList.isEmpty=b:=⟨_,rfl⟩;obtain⟨b2,hb2⟩: ∃b,decide (64<(s.size:Int))=b:=⟨_,rfl⟩;obtain⟨b3,hb3⟩: ∃b,A8 s=b:=⟨_,rfl⟩;have hE:Lr s=if b1 then 8 else if b2 then 6 else if b3 then 0 else 3:=by
  unfold Lr;rw[hb1,hb3,<-hb2];by_cases h:64<s.size
  . have h':64<(s.size:Int):=by omega
    simp[h,h']
  . have h': ¬64<(s.size:Int):=by omega
    simp[h,h']
 have H1:=qz (fun W (hc:Aj W w.heap.size 9 #[.string s])=>Sm ⟨w.heap.size,0,none⟩ s b1 W (hc.cell 0) hb1);have H2:=qz (fun W (hc:Aj W w.heap.size 9 #[.string s])=>Sn ⟨w.heap.size,0,none⟩ s b2 W (hc.cell 0) hb2);have H3:=qz (fun W (hc:Aj W w.heap.size 9 #[.string s]) hB=>So ⟨w.heap.size,0,none⟩ s b3 W (hc.cell 0) hb3 hs (hT.below hB));have HE:=qz hE;clear hE;clear hb1 hb2 hb3 hT;go_enter Tryz.func78,Tryz.ntmps78;go_wp2_with (fail);(with_reducible refine(Sp s _).mono ?_);rintro e w1 ⟨rfl,rfl⟩;go_wp2_with (fail);refine wp_loop_rounds 4 ?_
 cases b1 with
 |true=>
  rw[rounds_succ];go_wp2_with (go_at_call 198;refine(H1.out _ ?_).mono ?_;(repeat (first|exact Aj.new _ _ _|refine Aj.alloc ?_ _));rintro e w2 ⟨rfl,rfl⟩);go_ret;exact⟨by rw[HE.out];rfl,by go_grown⟩
 |false=>
  rw[rounds_succ];go_wp2_with (go_at_call 198;refine(H1.out _ ?_).mono ?_;(repeat (first|exact Aj.new _ _ _|refine Aj.alloc ?_ _));rintro e w2 ⟨rfl,rfl⟩);rw[rounds_succ]
  cases b2 with
  |true=>
   go_wp2_with (go_at_call 199;refine(H2.out _ ?_).mono ?_;(repeat (first|exact Aj.new _ _ _|refine Aj.alloc ?_ _));rintro e w2 ⟨rfl,rfl⟩);go_ret;exact⟨by rw[HE.out];rfl,by go_grown⟩
  |false=>
   go_wp2_with (go_at_call 199;refine(H2.out _ ?_).mono ?_;(repeat (first|exact Aj.new _ _ _|refine Aj.alloc ?_ _));rintro e w2 ⟨rfl,rfl⟩);rw[rounds_succ]
   cases b3 with
   |false=>
    go_wp2_with (go_at_call 200;refine(H3.out _ ?_ ?_).mono ?_;(repeat (first|exact Aj.new _ _ _|refine Aj.alloc ?_ _));(go_grown);rintro e w2 ⟨rfl,hb2⟩;obtain⟨hc2,hf2⟩:=Fy hb2);go_ret;exact⟨by rw[HE.out];rfl,((((Aa _ _).alloc (by simp) _).alloc (by simp;omega) _).alloc (by simp;omega) _).alloc (by simp;omega) _ |>.trans (hb2.mono (by simp;omega))⟩
   |true=>
    go_wp2_with (go_at_call 200;refine(H3.out _ ?_ ?_).mono ?_;(repeat (first|exact Aj.new _ _ _|refine Aj.alloc ?_ _));(go_grown);rintro e w2 ⟨rfl,hb2⟩;obtain⟨hc2,hf2⟩:=Fy hb2);rw[rounds_succ];go_wp2;go_ret;exact⟨by rw[HE.out];rfl,((((Aa _ _).alloc (by simp) _).alloc (by simp;omega) _).alloc (by simp;omega) _).alloc (by simp;omega) _ |>.trans (hb2.mono (by simp;omega))⟩
abbrev Tgt:TypeId:=89
abbrev O4:TypeId:=30
theorem Va {fn:Func} {t:Tmp} {tmps:Array Value} {W:World} {R:Nat} {a0 a1:Value} (h:fn.results= #[.cell t Tgt]) (hp:tmps.getD t undef=.pointer (some ⟨R,0,none⟩)) (hx:Aj W R Tgt #[a0,a1]):
 (results fn tmps).run Tryz.prog W=.ok (.agg #[a0,a1]) W:=by
 have c0:=hx.cell 0;have c1:=hx.cell 1;clear hx;have hp':tmps[t]?.getD undef=.pointer (some ⟨R,0,none⟩):=by simpa using hp
 simp[results,h,hp',go_sem,c0,c1]
def Ri (c:Nat):Array Value:= #[.func (.func 76) #[] #[.pointer (some ⟨c,0,none⟩)],.func (.func 79) #[] #[.pointer (some ⟨c,0,none⟩)]]
def Vw (w:World) (e:Ending) (w':World):Prop:=Below w.heap.size w w'/\ ∃c,e=.returned (.agg (Ri c))/\w.heap.size<=c/\Aj w' c O4 #[.int .i64 0]
theorem Rj (w:World):Calls Tryz.prog 44 #[] w (Vw w):=by
 obtain⟨PO,hPO⟩: ∃P:Ending->World->Prop,Vw w=P:=⟨_,rfl⟩;rw[hPO];obtain⟨w2,hw2⟩: ∃w2,(w.alloc (.cells #[.nilFunc,.nilFunc] Tgt)).alloc (.cells #[.int .i64 0] O4)=w2:=⟨_,rfl⟩;have Hb2:Hid (Below w.heap.size w w2):=hw2▸Lq _ _ _;have hx2:Aj w2 w.heap.size Tgt #[.nilFunc,.nilFunc]:=hw2▸(Aj.new _ _ _).alloc _;have hy2:Aj w2 (w.heap.size+1) O4 #[.int .i64 0]:=hw2▸Aj.nxt _ _ _ _;have d0:=hx2.cell 0;have d1:=hx2.cell 1;have fz:=hx2.frozen;have lx:=hx2.lt;have e0:=hy2.cell 0;have fy:=hy2.frozen;have ly:=hy2.lt;obtain⟨HPO,Hx2,Hy2⟩:=hid3 hPO hx2 hy2;clear hPO hx2 hy2;go_enter Tryz.func44,Tryz.ntmps44;go_upto_region 2 with(fail);obtain⟨w3,hw3⟩: ∃w3,w2.setCell ⟨w.heap.size+1,0,none⟩ (.int .i64 0)=w3:=⟨_,rfl⟩;have hx3:Aj w3 w.heap.size Tgt #[.nilFunc,.nilFunc]:=hw3▸Hx2.out.far (p:=⟨w.heap.size+1,0,none⟩) (by show w.heap.size≠w.heap.size+1;omega) _;have hy3:Aj w3 (w.heap.size+1) O4 #[.int .i64 0]:=hw3▸Hy2.out.set_ 0 _;have hb3:Below w.heap.size w w3:=hw3▸Hb2.out.setCell (p:=⟨w.heap.size+1,0,none⟩) (by show w.heap.size<=w.heap.size+1;omega) _;rw[hw3];clear d0 d1 fz lx e0 fy ly hw3;have d0:=hx3.cell 0;have d1:=hx3.cell 1;have fz:=hx3.frozen;have lx:=hx3.lt;have HX:=qz hx3;have HP:Hid (PO (.returned (.agg (Ri (w.heap.size+1)))) ((w3.setCell ⟨w.heap.size,0,none⟩ (.func (.func 76) #[] #[.pointer (some ⟨w.heap.size+1,0,none⟩)])).setCell ⟨w.heap.size,1,none⟩ (.func (.func 79) #[] #[.pointer (some ⟨w.heap.size+1,0,none⟩)]))):=by
  show PO _ _;rw[<-HPO.out];exact⟨(hb3.setCell (p:=⟨w.heap.size,0,none⟩) (Nat.le_refl _) _).setCell (p:=⟨w.heap.size,1,none⟩) (Nat.le_refl _) _,_,rfl,by omega,(hy3.far (p:=⟨w.heap.size,0,none⟩) (by show w.heap.size+1≠w.heap.size;omega) _).far (p:=⟨w.heap.size,1,none⟩) (by show w.heap.size+1≠w.heap.size;omega) _⟩
 clear hb3 hx3 hy3;go_wp2;exact bodyPost_ret (Va rfl rfl ((HX.out.set_ 0 _).set_ 1 _)) rfl HP.out
def Ql (k:ByteArray) (v:Val) (c:Nat) (w:World) (e:Ending) (w':World):Prop:=e=.returned (.bool (I0 (k,v) != 0))/\KB (fun i=>i=c) w w'/\Aj w' c O4 #[.int .i64 (I0 (k,v))]
theorem L1 (k:ByteArray) (v:Val) (k':Int) (b':Bool) (n':Int) (t':ByteArray) (la:Option Addr) (ln lc:Nat) (oa:Option Addr) (on oc:Nat) (c:Nat) (x:Int) (w0 w:World) (hT:B3 w0) (hb0:Below w0.heap.size w0 w) (hc0:w0.heap.size<=c) (hV:Ac w w.heap.size v [.int .i64 k',.bool b',.int .i64 n',.string t',.slice la ln lc,.slice oa on oc]) (hx:Aj w c O4 #[.int .i64 x]) (hk:k.size<=1000000000) (hb:v.bulk<=100000000) (hi:Kd v):
 Calls Tryz.prog 76 #[.string k,.agg #[.int .i64 k',.bool b',.int .i64 n',.string t',.slice la ln lc,.slice oa on oc],.pointer (some ⟨c,0,none⟩)] w (Ql k v c w):=by
 obtain⟨PO,hPO⟩: ∃P:Ending->World->Prop,Ql k v c w=P:=⟨_,rfl⟩;rw[hPO];have hme:=Abc k v;obtain⟨w1,hw1⟩: ∃w1,w.alloc (.cells #[.int .i64 k',.bool b',.int .i64 n',.string t',.slice la ln lc,.slice oa on oc] 37)=w1:=⟨_,rfl⟩;have hb1:Below w.heap.size w w1:=hw1▸Aa _ _;have hx1:Aj w1 w.heap.size 37 #[.int .i64 k',.bool b',.int .i64 n',.string t',.slice la ln lc,.slice oa on oc]:=hw1▸Aj.new _ _ _;have Hc1:=qz (hx.below hb1 hx.lt);have hW1:=hb0.trans (hb1.mono hb0.size);have hF:=Yv v _ w1 (hT.below hW1) ((hV.below hb1).more hb1.size) hb hi;obtain⟨x0,x1,x2,x3,x4,x5⟩:=Az hx1;have lx:=hx1.lt;have hr: ∀(W:World),KB (fun i=>i=c) w W->Aj W c O4 #[.int .i64 (I0 (k,v))]->PO (.returned (.bool (I0 (k,v) != 0))) W:=fun W h1 h2=>by
  rw[<-hPO];exact⟨rfl,h1,h2⟩
 generalize I0 (k,v)=E at hme hr;generalize G0 v=FV at hme hF;obtain⟨HPO,HF,Hb1,HW1,Hr⟩:=hid5 hPO hF hb1 hW1 hr;clear hPO hF hb1 hW1 hr;clear hV hx hx1 hb0;go_enter Tryz.func76,Tryz.ntmps76;go_wp2_with (fail);(with_reducible refine(HF.out).mono ?_);rintro e w2 ⟨rfl,hb2⟩;have hc2:=Hc1.out.below hb2 Hc1.out.lt;have d0:=hc2.cell 0;have fz:=hc2.frozen;have ld:=hc2.lt;go_upto_region 2 with(fail);obtain⟨w3,hw3⟩: ∃w3,w2.setCell ⟨c,0,none⟩ (.int .i64 FV)=w3:=⟨_,rfl⟩;have hc3:Aj w3 c O4 #[.int .i64 FV]:=hw3▸hc2.set_ 0 _;have Hk3:Hid (KB (fun i=>i=c) w w3):=hw3▸((KB.of_below Hb1.out).trans (KB.of_below (S:=fun i=>i=c) hb2) fun _ _ h=>h).trans (KB.set (S:=fun i=>i=c) w2 ⟨c,0,none⟩ rfl _) fun _ _ h=>h;have hW3:Below w0.heap.size w0 w3:=hw3▸(HW1.out.trans (hb2.mono HW1.out.size)).setCell (p:=⟨c,0,none⟩) hc0 _;rw[hw3];have HK:=qz (Sf k w3 (hT.below hW3) (by omega));have Hc3:=qz hc3;clear hc3;clear hw1 hw3 hb2 hc2 d0 fz ld x0 x1 x2 x3 x4 x5 lx;go_wp2_with (fail);(with_reducible refine(HK.out).mono ?_);rintro e w4 ⟨rfl,hb4⟩;have hc4:=Hc3.out.below hb4 Hc3.out.lt;have hk4:=Hk3.out.trans (KB.of_below (S:=fun i=>i=c) hb4) fun _ _ h=>h;have d0:=hc4.cell 0;have fz:=hc4.frozen;have ld:=hc4.lt;by_cases h0:Lr k=0
 . rw[if_neg (by simpa using h0)]at hme;subst hme;rw[h0];have HP:=qz (Hr.out w4 hk4 hc4);clear hk4 hc4 hb4 h0 HK;go_wp2;exact HP.out
 . rw[if_pos h0]at hme;subst hme;have h1:(Lr k != 0)=true:=by simpa using h0
   have HP:=qz (Hr.out (w4.setCell ⟨c,0,none⟩ (.int .i64 8)) (hk4.trans (KB.set (S:=fun i=>i=c) w4 ⟨c,0,none⟩ rfl _) fun _ _ h=>h) (hc4.set_ 0 _));have d8:=(hc4.set_ 0 (.int .i64 8)).cell 0;clear hk4 hc4 hb4 h0 HK;go_wp2;exact HP.out
theorem T4 (c:Nat) (x:Int) (w:World) (hx:w.cell? ⟨c,0,none⟩=some (.int .i64 x)):Calls Tryz.prog 79 #[.pointer (some ⟨c,0,none⟩)] w fun e w'=>e=.returned (.int .i64 x)/\w=w':=by
 go_enter Tryz.func79,Tryz.ntmps79;go_wp2;go_ret;exact⟨rfl,rfl⟩
end Go.Proofs.YtkmcjfkokoidcaaGreatDoor
