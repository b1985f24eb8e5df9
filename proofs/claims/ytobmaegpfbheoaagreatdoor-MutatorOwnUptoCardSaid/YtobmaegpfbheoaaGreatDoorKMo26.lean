/- Parts: What the pulls' rows' listed errors give the walks. No condition. -/
import Derived.Test.YtobmaegpfbheoaaGreatDoorChecked
import Derived.Test.YtobmaegpfbheoaaGreatDoorRows
import Derived.Lay
import Derived.Lib.LaidIn
import Derived.Lib.LaidU8T
import Derived.LaidSub
import Derived.Lib.ItoaNum
import Derived.Deep.DeepHandedRow
import Derived.ProofKit
import Derived.ChangeSame
import Derived.WideKeyArgs
import Derived.OpenShut
import Derived.Test.YtobmaegpfbheoaaGreatDoorKMo22
set_option maxHeartbeats 20000000
set_option maxRecDepth 100000
namespace Go.Proofs.YtobmaegpfbheoaaGreatDoor
theorem Aa5 {t:ByteArray} (h:t.toList.isEmpty=true):t=Ec:=I0 (by rw[List.isEmpty_iff.1 h];simp[Lib.toList_data])
end Go.Proofs.YtobmaegpfbheoaaGreatDoor
namespace Go.Proofs.YtobmaegpfbheoaaGreatDoor
open Go Go.RowKit
theorem Ry (p:Addr) (w:World):
 CallsD Tryz.prog 115 #[.pointer (some p)] .returning w fun e u' w'=>e=.returned (.tuple #[])/\u'=.returning/\w'=w:=by
 refine callsD_of_wpS Tryz.func115 rfl fun c₀ cs hu=> ?_;apply wpS_seq;apply wpS_region;simp[wpOpsS,go_sem,recoverD,hu,Tryz.ntmps115,Exit.thenS];refine wpS_of_wp ?_;go_wp2
 cases c₀
 simp_all[bodyPostS,results,Tryz.results115]
theorem Vu (W:World) (v:Value):(Instr.typeAssert (.iface 172 v) 20 172 true).run Tryz.prog W=.ok (.tuple #[v,.bool true]) W:=by kernel_rfl
theorem Rz (p:Addr) (c x:Int) (w:World) (hc:w.cell? p=some (.int .i64 x)) (hz:w.frozen? p=false) (hp:p.block<w.heap.size):
 CallsD Tryz.prog 115 #[.pointer (some p)] (.panicking [{v:=.iface 172 (.agg #[.int .i64 c]),recovered:=false}]) w fun e u' w'=>
  e=.returned (.tuple #[])/\u'=.panicking [{v:=.iface 172 (.agg #[.int .i64 c]),recovered:=true}]/\w'=(w.alloc (.cells #[.int .i64 c] 172)).setCell p (.int .i64 c):=by
 have hta:=fun w=>Vu w (.agg #[.int .i64 c]);have hz2:(w.alloc (.cells #[.int .i64 c] 172)).frozen? p=false:=((Aa w _).frozen hp).trans hz;refine callsD_of_wpS Tryz.func115 rfl fun c₀ cs hu=> ?_;apply wpS_seq;apply wpS_region;simp[wpOpsS,go_sem,recoverD,hu,Tryz.ntmps115,Exit.thenS];refine wpS_of_wp ?_;go_wp2
 cases c₀
 simp_all[bodyPostS,results,Tryz.results115]
theorem R2 {w w1:World} {o:Obj} (hb:Below (w.alloc o).heap.size (w.alloc o) w1):Below w.heap.size w w1:=(Aa w o).trans (hb.mono (by simp))
theorem Vz (c:Int) (q:Addr) (w:World)
 (hdo: ∀W,Below w.heap.size w W->Calls Tryz.prog 64 #[.pointer (some q)] W fun e w'=>e=Tm c/\Below W.heap.size W w'):
 Calls Tryz.prog 63 #[.func (.func 64) #[] #[.pointer (some q)]] w fun e w'=>e=.returned (.int .i64 c)/\Below w.heap.size w w':=by
 have hmf: ∀(fn:Fn) (first cap:Array Value) (w:World),(Instr.makeFunc fn first cap).run Tryz.prog w=.ok (.func fn first cap) w:=fun _ _ _ _=>rfl;have hx:=Aj.new w 27 #[.int .i64 0];have hD:=hdo _ (Aa w (.cells #[.int .i64 0] 27));have hlt:=hx.lt;by_cases h0:c=0
 . subst h0;rw[K4]at hD;obtain⟨HD,Hx⟩:=hid2 hD hx;clear hD hx;clear hdo
   go_enter_defers Tryz.func63,Tryz.ntmps63
   go_wp2_with (go_at_call 64;(with_reducible refine(HD.out).mono ?_);rintro e w1 ⟨rfl,hb1⟩;have hx1:=Hx.out.below hb1 hlt;have d0:=hx1.cell 0;have f0:=hx1.frozen 0);refine leaves_cons (f:=115) (args:= #[.pointer (some ⟨w.heap.size,0,none⟩)]) (by simp) (by simp[go_sem]) ?_;have hx2:=hx1.set_ 0 (.int .i64 0);have d2:=hx2.cell 0;refine(Ry ⟨w.heap.size,0,none⟩ _).mono ?_;rintro e u' w'' ⟨rfl,rfl,rfl⟩;simp[Leaves,settle,results,Tryz.results63,go_sem,d2];exact(R2 hb1).setCell (Nat.le_refl _) _
 . rw[Dy h0]at hD;obtain⟨HD,Hx⟩:=hid2 hD hx;clear hD hx;clear hdo
   go_enter_defers Tryz.func63,Tryz.ntmps63
   go_wp2_with (go_at_call 64;(with_reducible refine(HD.out).mono ?_);rintro e w1 ⟨rfl,hb1⟩;have hx1:=Hx.out.below hb1 hlt;have d0:=hx1.cell 0;have f0:=hx1.frozen 0);refine leaves_cons (f:=115) (args:= #[.pointer (some ⟨w.heap.size,0,none⟩)]) (by simp) (by simp[go_sem]) ?_;have hx2:=(hx1.alloc (.cells #[.int .i64 c] 172)).set_ 0 (.int .i64 c);have d2:=hx2.cell 0;refine(Rz ⟨w.heap.size,0,none⟩ c 0 w1 (by simpa using d0) f0 hx1.lt).mono ?_;rintro e u' w'' ⟨rfl,rfl,rfl⟩;simp[Leaves,settle,results,Tryz.results63,go_sem,d2];exact((R2 hb1).alloc (R2 hb1).size _).setCell (Nat.le_refl _) _
theorem Tl (c:Int) (M:Nat) (q1 q2:Addr) (w:World) (X:World->Prop) (hM:M<w.heap.size) (hX: ∀W W',W.grownBy W' (some w.heap.size)->X W->X W')
 (hdo: ∀W,Below w.heap.size w W->w.heap.size+1<=W.heap.size->Calls Tryz.prog 173 #[.pointer (some q1),.pointer (some q2)] W fun e w'=>e=Tm c/\W.grownBy w' (some M)/\X w'):
 Calls Tryz.prog 63 #[.func (.func 173) #[] #[.pointer (some q1),.pointer (some q2)]] w fun e w'=>e=.returned (.int .i64 c)/\w.grownBy w' (some M)/\X w':=by
 have hmf: ∀(fn:Fn) (first cap:Array Value) (w:World),(Instr.makeFunc fn first cap).run Tryz.prog w=.ok (.func fn first cap) w:=fun _ _ _ _=>rfl;have hx:=Aj.new w 27 #[.int .i64 0];have hD:=hdo _ (Aa w (.cells #[.int .i64 0] 27)) (by simp);have hg0:w.grownBy (w.alloc (.cells #[.int .i64 0] 27)) (some M):=En (World.grownBy.refl _ _) _;have hlt:=hx.lt;have hne:some w.heap.size≠some M:=by simp;omega
 by_cases h0:c=0
 . subst h0;rw[K4]at hD;obtain⟨HD,Hx,Hg0,HX,Hne⟩:=hid5 hD hx hg0 hX hne;clear hD hx hg0 hX hne;clear hdo
   go_enter_defers Tryz.func63,Tryz.ntmps63
   go_wp2_with (go_at_call 173;(with_reducible refine(HD.out).mono ?_);rintro e w1 ⟨rfl,hg1,hX1⟩;have hx1:=Hx.out.grown hg1 Hne.out;have d0:=hx1.cell 0;have f0:=hx1.frozen 0);refine leaves_cons (f:=115) (args:= #[.pointer (some ⟨w.heap.size,0,none⟩)]) (by simp) (by simp[go_sem]) ?_;have hx2:=hx1.set_ 0 (.int .i64 0);have d2:=hx2.cell 0;refine(Ry ⟨w.heap.size,0,none⟩ _).mono ?_;rintro e u' w'' ⟨rfl,rfl,rfl⟩;simp[Leaves,settle,results,Tryz.results63,go_sem,d2];exact⟨F6 (Bj Hg0.out hg1) _ (.inr (Nat.le_refl _)) _,HX.out _ _ (F6 (World.grownBy.refl _ _) _ (.inl rfl) _) hX1⟩
 . rw[Dy h0]at hD;obtain⟨HD,Hx,Hg0,HX,Hne⟩:=hid5 hD hx hg0 hX hne;clear hD hx hg0 hX hne;clear hdo
   go_enter_defers Tryz.func63,Tryz.ntmps63
   go_wp2_with (go_at_call 173;(with_reducible refine(HD.out).mono ?_);rintro e w1 ⟨rfl,hg1,hX1⟩;have hx1:=Hx.out.grown hg1 Hne.out;have d0:=hx1.cell 0;have f0:=hx1.frozen 0);refine leaves_cons (f:=115) (args:= #[.pointer (some ⟨w.heap.size,0,none⟩)]) (by simp) (by simp[go_sem]) ?_;have hx2:=(hx1.alloc (.cells #[.int .i64 c] 172)).set_ 0 (.int .i64 c);have d2:=hx2.cell 0;refine(Rz ⟨w.heap.size,0,none⟩ c 0 w1 (by simpa using d0) f0 hx1.lt).mono ?_;rintro e u' w'' ⟨rfl,rfl,rfl⟩;simp[Leaves,settle,results,Tryz.results63,go_sem,d2];exact⟨F6 (En (Bj Hg0.out hg1) _) _ (.inr (Nat.le_refl _)) _,HX.out _ _ (F6 (En (World.grownBy.refl _ _) _) _ (.inl rfl) _) hX1⟩
end Go.Proofs.YtobmaegpfbheoaaGreatDoor
namespace Go.Proofs.YtobmaegpfbheoaaGreatDoor
def F7 (s:List UInt8):Int×Mut:=match Ib s with
 | .bad c _=>(c,Jy)
 | .ok v _=>Nx v
theorem Ah9:F7 [123,34,97,114,103,115,34,58,123,125,44,34,110,97,109,101,34,58,34,100,101,108,34,125]=(10,Jy):=by kernel_rfl
theorem Aia:F7 [123,34,97,114,103,115,34,58,123,34,107,101,121,34,58,49,125,44,34,110,97,109,101,34,58,34,100,101,108,34,125]=(9,Jy):=by kernel_rfl
theorem Aib:F7 [123,34,97,114,103,115,34,58,123,34,107,101,121,34,58,34,34,125,44,34,110,97,109,101,34,58,34,100,101,108,34,125]=(8,Jy):=by kernel_rfl
theorem Aic:F7 [123,34,97,114,103,115,34,58,49,44,34,110,97,109,101,34,58,34,120,34,125]=(12,Jy):=by kernel_rfl
def P4:Mut:=.mk 3 ⟨#[110]⟩ Ec 2 false L9 false L9 []
theorem U1:Di P4=0:=by decide+kernel
theorem Aii:Cs (Dt P4)= [123,34,97,114,103,115,34,58,123,34,98,121,34,58,50,44,34,107,101,121,34,58,34,110,34,125,44,34,110,97,109,101,34,58,34,105,110,99,34,125]:=by kernel_rfl
def P5:Mut:=.mk 4 ⟨#[107]⟩ Ec 0 false L9 true (iv 1) []
theorem U2:Di P5=0:=by decide+kernel
theorem Aij:Cs (Dt P5)= [123,34,97,114,103,115,34,58,123,34,105,115,34,58,49,44,34,107,101,121,34,58,34,107,34,125,44,34,110,97,109,101,34,58,34,99,97,115,34,125]:=by kernel_rfl
end Go.Proofs.YtobmaegpfbheoaaGreatDoor
namespace Go.Proofs.YtobmaegpfbheoaaGreatDoor
open Go Go.RowKit
theorem Agp (k k':Int) (key key' dst dst':ByteArray) (n n':Int) (had had' has has':Bool) (u0 u1 u2 u3 u4 u5 v0 v1 v2 v3 v4 v5 u0' u1' u2' u3' u4' u5' v0' v1' v2' v3' v4' v5':Value) (a a':Option Addr) (ln c ln' c':Nat) (w:World) (p:Prop) (hp: ¬p)
 (h:k≠k'\/key≠key'\/dst≠dst'\/n≠n'\/had≠had'\/has≠has'\/ln≠ln'):
 Calls Tryz.prog 15 #[.agg #[.int .i64 k,.string key,.string dst,.int .i64 n,.bool had,u0,u1,u2,u3,u4,u5,.bool has,v0,v1,v2,v3,v4,v5,.slice a ln c],.agg #[.int .i64 k',.string key',.string dst',.int .i64 n',.bool had',u0',u1',u2',u3',u4',u5',.bool has',v0',v1',v2',v3',v4',v5',.slice a' ln' c']] w (Cb p w):=by
 by_cases h1:k=k';rotate_left
 . have e:(k != k')=true:=by simpa using h1
   clear h h1;go_enter Tryz.func15,Tryz.ntmps15;go_wp2;go_ret;exact Cb.no hp (Ct _ _ _)
 subst h1;by_cases h1:key=key';rotate_left
 . have e:(key.toList != key'.toList)=true:=by simp only[bne_iff_ne];exact fun e=>h1 (by rw[Lib.toList_data,Lib.toList_data]at e;exact ByteArray.ext (Array.ext' e))
   have e2:(key.toList==key'.toList)=false:=by simpa using e
   have e3: ¬key.toList=key'.toList:=by simpa using e
   clear h h1;go_enter Tryz.func15,Tryz.ntmps15;go_wp2;go_ret;exact Cb.no hp (Ct _ _ _)
 subst h1;by_cases h1:dst=dst';rotate_left
 . have e:(dst.toList != dst'.toList)=true:=by simp only[bne_iff_ne];exact fun e=>h1 (by rw[Lib.toList_data,Lib.toList_data]at e;exact ByteArray.ext (Array.ext' e))
   have e2:(dst.toList==dst'.toList)=false:=by simpa using e
   have e3: ¬dst.toList=dst'.toList:=by simpa using e
   clear h h1;go_enter Tryz.func15,Tryz.ntmps15;go_wp2;go_ret;exact Cb.no hp (Ct _ _ _)
 subst h1;by_cases h1:n=n';rotate_left
 . have e:(n != n')=true:=by simpa using h1
   clear h h1;go_enter Tryz.func15,Tryz.ntmps15;go_wp2;go_ret;exact Cb.no hp (Ct _ _ _)
 subst h1;by_cases h1:had=had';rotate_left
 . clear h
   cases had<;>cases had'<;>first|exact absurd rfl h1|(clear h1;go_enter Tryz.func15,Tryz.ntmps15;go_wp2;go_ret;exact Cb.no hp (Ct _ _ _))
 subst h1;by_cases h1:has=has';rotate_left
 . clear h
   cases has<;>cases has'<;>first|exact absurd rfl h1|(clear h1;go_enter Tryz.func15,Tryz.ntmps15;go_wp2;go_ret;exact Cb.no hp (Ct _ _ _))
 subst h1;by_cases h1:ln=ln';rotate_left
 . have e:((ln:Int) != (ln':Int))=true:=by simp;omega
   clear h h1;go_enter Tryz.func15,Tryz.ntmps15;go_wp2;go_ret;exact Cb.no hp (Ct _ _ _)
 subst h1;simp at h
def EMA (w:World) (b1 b2:Array Value) (wr:World):Prop:=Below w.heap.size w wr/\Aj wr w.heap.size 45 b1/\Aj wr (w.heap.size+1) 45 b2
theorem EMA.step {w:World} {b1 b2:Array Value} {wr w4:World} (h:EMA w b1 b2 wr) (hb:Below wr.heap.size wr w4):EMA w b1 b2 w4:=⟨h.1.trans (hb.mono h.1.size),h.2.1.below hb h.2.1.lt,h.2.2.below hb h.2.2.lt⟩
def Akd (m:Mut):Prop:= ∀(m':Mut) (cs cs':List Value) (w:World),Ai w w.heap.size (dM m) cs->Ai w w.heap.size (dM m') cs'->Bm m<=100000000->Bm m'<=100000000->
 Calls Tryz.prog 15 #[.agg cs.toArray,.agg cs'.toArray] w (Cb (m=m') w)
theorem Agq (k:Int) (key dst:ByteArray) (n:Int) (had has:Bool) (k1:Int) (b1:Bool) (n1:Int) (t1:ByteArray) (l1:List Val) (o1:List (ByteArray×Val)) (k2:Int) (b2:Bool) (n2:Int) (t2:ByteArray) (l2:List Val) (o2:List (ByteArray×Val)) (k1':Int) (b1':Bool) (n1':Int) (t1':ByteArray) (l1':List Val) (o1':List (ByteArray×Val)) (k2':Int) (b2':Bool) (n2':Int) (t2':ByteArray) (l2':List Val) (o2':List (ByteArray×Val)) (la1 oa1:Option Addr) (lc1 oc1:Nat) (la2 oa2:Option Addr) (lc2 oc2:Nat) (la1' oa1':Option Addr) (lc1' oc1':Nat) (la2' oa2':Option Addr) (lc2' oc2':Nat) (l l':List Mut) (a a':Option Addr) (c c':Nat) (w:World)
 (hv1:Ac w w.heap.size (.mk k1 b1 n1 t1 l1 o1) [.int .i64 k1,.bool b1,.int .i64 n1,.string t1,.slice la1 l1.length lc1,.slice oa1 o1.length oc1]) (hv2:Ac w w.heap.size (.mk k2 b2 n2 t2 l2 o2) [.int .i64 k2,.bool b2,.int .i64 n2,.string t2,.slice la2 l2.length lc2,.slice oa2 o2.length oc2]) (hv1':Ac w w.heap.size (.mk k1' b1' n1' t1' l1' o1') [.int .i64 k1',.bool b1',.int .i64 n1',.string t1',.slice la1' l1'.length lc1',.slice oa1' o1'.length oc1']) (hv2':Ac w w.heap.size (.mk k2' b2' n2' t2' l2' o2') [.int .i64 k2',.bool b2',.int .i64 n2',.string t2',.slice la2' l2'.length lc2',.slice oa2' o2'.length oc2'])
 (hb1:(Val.mk k1 b1 n1 t1 l1 o1).bulk<=100000000) (hb2:(Val.mk k2 b2 n2 t2 l2 o2).bulk<=100000000) (hb1':(Val.mk k1' b1' n1' t1' l1' o1').bulk<=100000000) (hb2':(Val.mk k2' b2' n2' t2' l2' o2').bulk<=100000000)
 (hl:Ai w w.heap.size (.row 19 (E2 l)) [.slice a l.length c]) (hl':Ai w w.heap.size (.row 19 (E2 l')) [.slice a' l'.length c']) (hln:l.length=l'.length) (hbl:Db l<=100000000) (hbl':Db l'<=100000000) (ih: ∀x ∈ l,Akd x):
 Calls Tryz.prog 15 #[.agg #[.int .i64 k,.string key,.string dst,.int .i64 n,.bool had,.int .i64 k1,.bool b1,.int .i64 n1,.string t1,.slice la1 l1.length lc1,.slice oa1 o1.length oc1,.bool has,.int .i64 k2,.bool b2,.int .i64 n2,.string t2,.slice la2 l2.length lc2,.slice oa2 o2.length oc2,.slice a l.length c],.agg #[.int .i64 k,.string key,.string dst,.int .i64 n,.bool had,.int .i64 k1',.bool b1',.int .i64 n1',.string t1',.slice la1' l1'.length lc1',.slice oa1' o1'.length oc1',.bool has,.int .i64 k2',.bool b2',.int .i64 n2',.string t2',.slice la2' l2'.length lc2',.slice oa2' o2'.length oc2',.slice a' l.length c']] w (Cb ((Val.mk k1 b1 n1 t1 l1 o1=.mk k1' b1' n1' t1' l1' o1'/\Val.mk k2 b2 n2 t2 l2 o2=.mk k2' b2' n2' t2' l2' o2')/\l=l') w):=by
 have hls:=El l;have hQ1:=fun(W:World) (hB:Below w.heap.size w W)=>Ni (.mk k1 b1 n1 t1 l1 o1) (.mk k1' b1' n1' t1' l1' o1') _ _ W (Ac.more hB.size _ _ (hv1.below hB)) (Ac.more hB.size _ _ (hv1'.below hB)) hb1 hb1';have hQ2:=fun(W:World) (hB:Below w.heap.size w W)=>Ni (.mk k2 b2 n2 t2 l2 o2) (.mk k2' b2' n2' t2' l2' o2') _ _ W (Ac.more hB.size _ _ (hv2.below hB)) (Ac.more hB.size _ _ (hv2'.below hB)) hb2 hb2';generalize (Val.mk k1 b1 n1 t1 l1 o1=.mk k1' b1' n1' t1' l1' o1')=P1 at hQ1 ⊢;generalize (Val.mk k2 b2 n2 t2 l2 o2=.mk k2' b2' n2' t2' l2' o2')=P2 at hQ2 ⊢;have hA0:EMA w #[.int .i64 k,.string key,.string dst,.int .i64 n,.bool had,.int .i64 k1,.bool b1,.int .i64 n1,.string t1,.slice la1 l1.length lc1,.slice oa1 o1.length oc1,.bool has,.int .i64 k2,.bool b2,.int .i64 n2,.string t2,.slice la2 l2.length lc2,.slice oa2 o2.length oc2,.slice a l.length c] #[.int .i64 k,.string key,.string dst,.int .i64 n,.bool had,.int .i64 k1',.bool b1',.int .i64 n1',.string t1',.slice la1' l1'.length lc1',.slice oa1' o1'.length oc1',.bool has,.int .i64 k2',.bool b2',.int .i64 n2',.string t2',.slice la2' l2'.length lc2',.slice oa2' o2'.length oc2',.slice a' l.length c'] ((w.alloc (.cells #[.int .i64 k,.string key,.string dst,.int .i64 n,.bool had,.int .i64 k1,.bool b1,.int .i64 n1,.string t1,.slice la1 l1.length lc1,.slice oa1 o1.length oc1,.bool has,.int .i64 k2,.bool b2,.int .i64 n2,.string t2,.slice la2 l2.length lc2,.slice oa2 o2.length oc2,.slice a l.length c] 45)).alloc (.cells #[.int .i64 k,.string key,.string dst,.int .i64 n,.bool had,.int .i64 k1',.bool b1',.int .i64 n1',.string t1',.slice la1' l1'.length lc1',.slice oa1' o1'.length oc1',.bool has,.int .i64 k2',.bool b2',.int .i64 n2',.string t2',.slice la2' l2'.length lc2',.slice oa2' o2'.length oc2',.slice a' l.length c'] 45)):=by
  refine⟨Ct _ _ _,(Aj.new w 45 #[.int .i64 k,.string key,.string dst,.int .i64 n,.bool had,.int .i64 k1,.bool b1,.int .i64 n1,.string t1,.slice la1 l1.length lc1,.slice oa1 o1.length oc1,.bool has,.int .i64 k2,.bool b2,.int .i64 n2,.string t2,.slice la2 l2.length lc2,.slice oa2 o2.length oc2,.slice a l.length c]).alloc _, ?_⟩;have:=Aj.new (w.alloc (.cells #[.int .i64 k,.string key,.string dst,.int .i64 n,.bool had,.int .i64 k1,.bool b1,.int .i64 n1,.string t1,.slice la1 l1.length lc1,.slice oa1 o1.length oc1,.bool has,.int .i64 k2,.bool b2,.int .i64 n2,.string t2,.slice la2 l2.length lc2,.slice oa2 o2.length oc2,.slice a l.length c] 45)) 45 #[.int .i64 k,.string key,.string dst,.int .i64 n,.bool had,.int .i64 k1',.bool b1',.int .i64 n1',.string t1',.slice la1' l1'.length lc1',.slice oa1' o1'.length oc1',.bool has,.int .i64 k2',.bool b2',.int .i64 n2',.string t2',.slice la2' l2'.length lc2',.slice oa2' o2'.length oc2',.slice a' l.length c']
  rwa [World.size_alloc]at this
 have H00:=qz (show l.take 0=l'.take 0 from by simp);obtain⟨HQ1,HQ2,HA0,Hl,Hl',Hln,Ih⟩:=hid7 hQ1 hQ2 hA0 hl hl' hln ih;clear hQ1 hQ2 hA0 hl hl' hln ih;clear hv1 hv2 hv1' hv2';go_enter Tryz.func15,Tryz.ntmps15;go_wp2_with (fail);have hA01:=HA0.out.1;(with_reducible refine(HQ1.out _ hA01).mono ?_);rintro e w1 ⟨B1,rfl,hB1,hb1w⟩;have hA1:=HA0.out.step hb1w
 cases B1 with
 |false=>
  have Hno:Hid (¬((P1/\P2)/\l=l')):=fun h=>by have:=hB1.2 h.1.1;cases this
  obtain⟨HA1,HB1,Hb1w⟩:=hid3 hA1 hB1 hb1w;clear hA1 hB1 hb1w;go_wp2;go_ret;exact Cb.no Hno.out HA1.out.1
 |true=>
  have Hp1:=qz (hB1.1 rfl);have x12:=hA1.2.1.cell 12;have y12:=hA1.2.2.cell 12;have x13:=hA1.2.1.cell 13;have y13:=hA1.2.2.cell 13;have x14:=hA1.2.1.cell 14;have y14:=hA1.2.2.cell 14;have x15:=hA1.2.1.cell 15;have y15:=hA1.2.2.cell 15;have x16:=hA1.2.1.cell 16;have y16:=hA1.2.2.cell 16;have x17:=hA1.2.1.cell 17;have y17:=hA1.2.2.cell 17;have x18:=hA1.2.1.cell 18;have y18:=hA1.2.2.cell 18;have gx:=hA1.2.1.lt;have gy:=hA1.2.2.lt;obtain⟨HA1,HB1,Hb1w⟩:=hid3 hA1 hB1 hb1w;clear hA1 hB1 hb1w;go_wp2_with (fail);have hA11:=HA1.out.1;(with_reducible refine(HQ2.out _ hA11).mono ?_);rintro e w2 ⟨B2,rfl,hB2,hb2w⟩;have hA2:=HA1.out.step hb2w;clear x12 y12 x13 y13 x14 y14 x15 y15 x16 y16 x17 y17 x18 y18 gx gy
  cases B2 with
  |false=>
   have Hno:Hid (¬((P1/\P2)/\l=l')):=fun h=>by have:=hB2.2 h.1.2;cases this
   obtain⟨HA2,HB2,Hb2w⟩:=hid3 hA2 hB2 hb2w;clear hA2 hB2 hb2w;go_wp2;go_ret;exact Cb.no Hno.out HA2.out.1
  |true=>
   have Hp2:=qz (hB2.1 rfl);have x18:=hA2.2.1.cell 18;have gx:=hA2.2.1.lt;obtain⟨HA2,HB2,Hb2w⟩:=hid3 hA2 hB2 hb2w;clear hA2 hB2 hb2w;go_wp2_with (fail);clear x18 gx;go_loopw [5] (fun i wr=> ∃q:Nat,i=.int .i64 q/\q<=l.length/\Hid (l.take q=l'.take q)/\Hid (EMA w #[.int .i64 k,.string key,.string dst,.int .i64 n,.bool had,.int .i64 k1,.bool b1,.int .i64 n1,.string t1,.slice la1 l1.length lc1,.slice oa1 o1.length oc1,.bool has,.int .i64 k2,.bool b2,.int .i64 n2,.string t2,.slice la2 l2.length lc2,.slice oa2 o2.length oc2,.slice a l.length c] #[.int .i64 k,.string key,.string dst,.int .i64 n,.bool had,.int .i64 k1',.bool b1',.int .i64 n1',.string t1',.slice la1' l1'.length lc1',.slice oa1' o1'.length oc1',.bool has,.int .i64 k2',.bool b2',.int .i64 n2',.string t2',.slice la2' l2'.length lc2',.slice oa2' o2'.length oc2',.slice a' l.length c'] wr)) (fun i _=>l.length - (intOf i).toNat)
   case atStart=>exact⟨0,rfl,Nat.zero_le _,H00,HA2⟩
   case round=>
    obtain⟨q,rfl,hq,htk,hea⟩:=hrel;clear H00 HA2;have m1:=hea.out.2.1.cell 18;have m2:=hea.out.2.2.cell 18;have gx:=hea.out.2.1.lt;have gy:=hea.out.2.2.lt;by_cases hlt:q<l.length
    . have hlt':q<l'.length:=by have:=Hln.out;omega
      obtain⟨x,hx⟩: ∃v,l[q]? =some v:=⟨_,List.getElem?_eq_getElem hlt⟩;obtain⟨x',hx'⟩: ∃v,l'[q]? =some v:=⟨_,List.getElem?_eq_getElem hlt'⟩;have ihx:=Ih.out _ (List.mem_of_getElem? hx);have hbv:=D3 (List.mem_of_getElem? hx);have hbv':=D3 (List.mem_of_getElem? hx');have hbw:=hea.out.1;have hz:=hbw.size;have HT:=qz (fun e=>Og htk.out hx hx' e);have HNe:=qz (fun e=>Su hx hx' e);obtain⟨g,off,rfl,hg,cs1,hcs1,hn1l,hcell1⟩:=Kt (Hl.out.below hbw) hx;obtain⟨g',off',rfl,hg',cs2,hcs2,hn2l,hcell2⟩:=Kt (Hl'.out.below hbw) hx';have hC: ∀W,Below wr.heap.size wr W->Calls Tryz.prog 15 #[.agg cs1.toArray,.agg cs2.toArray] W (Cb (x=x') W):=fun W hW=>
       ihx _ _ _ W ((hcs1.below (hW.mono hz)).more (Nat.le_trans hz hW.size)) ((hcs2.below (hW.mono hz)).more (Nat.le_trans hz hW.size)) (by omega) (by omega)
      have hr1:wr.rangeAt g (off+q*19) cs1:=hcell1;have hr2:wr.rangeAt g' (off'+q*19) cs2:=hcell2;have hn1:(Tryz.prog.info? 45).map (·.size)=some cs1.length:=by rw[hn1l];kernel_rfl
      have hn2:(Tryz.prog.info? 45).map (·.size)=some cs2.length:=by rw[hn2l];kernel_rfl
      have z1:g<wr.heap.size:=by omega
      have z2:g'<wr.heap.size:=by omega
      have z5:(q:Int)<(l.length:Int):=by omega
      have z6:(0:Int)<=q:=by omega
      have Hkeep:Hid (∀W,Below wr.heap.size wr W->(fun X=>X.cell? ⟨w.heap.size,18,none⟩=some (.slice (some ⟨g,off,none⟩) l.length c)/\X.cell? ⟨w.heap.size+1,18,none⟩=some (.slice (some ⟨g',off',none⟩) l.length c')/\X.rangeAt g (off+q*19) cs1/\X.rangeAt g' (off'+q*19) cs2) W):=fun W hW=>⟨(hW.cell (p:=⟨w.heap.size,18,none⟩) gx).trans m1,(hW.cell (p:=⟨w.heap.size+1,18,none⟩) gy).trans m2,fun j v hv=>(hW.cell (p:=⟨g,off+q*19+j,none⟩) z1).trans (hr1 j v hv),fun j v hv=>(hW.cell (p:=⟨g',off'+q*19+j,none⟩) z2).trans (hr2 j v hv)⟩;obtain⟨HC,Hr1,Hr2,Hn1l,Hn2l⟩:=hid5 hC hr1 hr2 hn1l hn2l;clear hC hr1 hr2 hn1l hn2l;clear hbw hcs1 hcs2 hx hx' ihx hcell1 hcell2 htk;go_upto_region 6 with(fail);refine wp_region_held_drew (S:=(fun X=>X.cell? ⟨w.heap.size,18,none⟩=some (.slice (some ⟨g,off,none⟩) l.length c)/\X.cell? ⟨w.heap.size+1,18,none⟩=some (.slice (some ⟨g',off',none⟩) l.length c')/\X.rangeAt g (off+q*19) cs1/\X.rangeAt g' (off'+q*19) cs2)) (by kernel_rfl) (Hkeep.out _ (Below.drew (Below.refl _ _))) (fun hHeld=> ?_);refine tkH 0 hHeld ?_;refine wpAnyH_take (i:=1) (v:= ?_) rfl (by kernel_rfl) (by kernel_rfl) (by kernel_rfl) (fun _ _ _ h=>h) (Or.inl ⟨by kernel_rfl, ?_⟩) hHeld ?_;rotate_left
      . intro X hSw;have e4:=hSw.1
        first|(go_simp;done)|(go_simp;with_reducible rfl)
      try simp only[Act.put,tk1,tk2,tk3,tk4,tk5,tk6]
      refine tkH 2 hHeld ?_;refine tkH 3 hHeld ?_;refine wpAnyH_take (i:=4) rfl (by kernel_rfl) (by kernel_rfl) (by kernel_rfl) (fun _ _ _ h=>h) (yieldsIf_load_mid (by kernel_rfl) 45 (.tmp 81) rfl g (off+q*19) rfl cs1 _ (fun X hX=>hX.2.2.1) Tryz.underlying45 rfl hn1) hHeld ?_
      try simp only[Act.put,tk1,tk2,tk3,tk4,tk5,tk6]
      refine tkH 5 hHeld ?_;refine wpAnyH_take (i:=6) (v:= ?_) rfl (by kernel_rfl) (by kernel_rfl) (by kernel_rfl) (fun _ _ _ h=>h) (Or.inl ⟨by kernel_rfl, ?_⟩) hHeld ?_;rotate_left
      . intro X hSw;have e4:=hSw.2.1
        first|(go_simp;done)|(go_simp;with_reducible rfl)
      try simp only[Act.put,tk1,tk2,tk3,tk4,tk5,tk6]
      refine tkH 7 hHeld ?_;refine tkH 8 hHeld ?_;refine wpAnyH_take (i:=9) rfl (by kernel_rfl) (by kernel_rfl) (by kernel_rfl) (fun _ _ _ h=>h) (yieldsIf_load_mid (by kernel_rfl) 45 (.tmp 86) rfl g' (off'+q*19) rfl cs2 _ (fun X hX=>hX.2.2.2) Tryz.underlying45 rfl hn2) hHeld ?_
      try simp only[Act.put,tk1,tk2,tk3,tk4,tk5,tk6]
      refine wpAnyH_ready (rs:= [10]) (by kernel_rfl) (by simp) ?_;refine AllReadyH.cons rfl (fun K hK=> ?_) AllReadyH.nil;go_simp
      (with_reducible refine(HC.out _ (Below.drew (Below.refl _ _))).mono ?_)
      rintro e w4 ⟨B,rfl,hB,hb4⟩;have hbr:Below wr.heap.size wr w4:=(Below.drew (Below.refl _ _)).trans hb4;have HE4:=qz (hea.out.step hbr);refine hK.out _ _ (Hkeep.out _ hbr) (fun hHeld=> ?_);clear hK K
      try simp only[Act.put,tk1,tk2,tk3,tk4,tk5,tk6]
      refine tkH 11 hHeld ?_;refine wpAnyH_done (by kernel_rfl) ?_ _;clear hHeld hb4 hbr hea m1 m2
      cases B with
      |true=>
       have HT':=qz (HT.out (hB.1 rfl));clear hB HT HNe;go_wp2;go_roundw
       case rel=>exact⟨q+1,by go_num,by omega,HT',HE4⟩
       case measure=>simp only[intOf];omega
      |false=>
       have Hno:Hid (¬((P1/\P2)/\l=l')):=fun h=>HNe.out (fun e=>by have:=hB.2 e;cases this) h.2;clear hB HT HNe;go_wp2;go_ret;exact Cb.no Hno.out HE4.out.1
    . obtain rfl:q=l.length:=by omega
      have hE:=htk.out;rw[List.take_length,Hln.out,List.take_length]at hE;have HE:=qz hE;clear hE;clear htk;go_wp2;go_ret;exact Cb.yes ⟨⟨Hp1.out,Hp2.out⟩,HE.out⟩ hea.out.1
theorem U4: ∀m,Akd m:=by
 refine Mut.ind ?_;intro k key dst n had was has v l IH m' cs cs' w hM hM' hb hb';obtain⟨k1,b1,n1,t1,l1,o1⟩:=was;obtain⟨k2,b2,n2,t2,l2,o2⟩:=v;obtain⟨la1,lc1,oa1,oc1,la2,lc2,oa2,oc2,a,c,rfl,hv1,hv2,hl⟩:=Bl hM;obtain⟨k',key',dst',n',had',⟨k1',b1',n1',t1',l1',o1'⟩,has',⟨k2',b2',n2',t2',l2',o2'⟩,l'⟩:=m';obtain⟨la1',lc1',oa1',oc1',la2',lc2',oa2',oc2',a',c',rfl,hv1',hv2',hl'⟩:=Bl hM';simp only[Bm]at hb hb';by_cases hd:k≠k'\/key≠key'\/dst≠dst'\/n≠n'\/had≠had'\/has≠has'\/l.length≠l'.length
 . refine Agp _ _ _ _ _ _ _ _ _ _ _ _ _ _ _ _ _ _ _ _ _ _ _ _ _ _ _ _ _ _ _ _ _ _ _ _ _ _ _ _ _ _ w _ (fun e=> ?_) hd
   injection e with e1 e2 e3 e4 e5 e6 e7 e8 e9
   subst e9;rcases hd with h|h|h|h|h|h|h
   . exact h e1
   . exact h e2
   . exact h e3
   . exact h e4
   . exact h e5
   . exact h e7
   . exact h rfl
 . obtain⟨rfl,rfl,rfl,rfl,rfl,rfl,hln⟩:k=k'/\key=key'/\dst=dst'/\n=n'/\had=had'/\has=has'/\l.length=l'.length:=by
    refine⟨Classical.byContradiction fun e=>hd (.inl e),Classical.byContradiction fun e=>hd (.inr (.inl e)),Classical.byContradiction fun e=>hd (.inr (.inr (.inl e))),Classical.byContradiction fun e=>hd (.inr (.inr (.inr (.inl e)))),Classical.byContradiction fun e=>hd (.inr (.inr (.inr (.inr (.inl e))))),Classical.byContradiction fun e=>hd (.inr (.inr (.inr (.inr (.inr (.inl e)))))),Classical.byContradiction fun e=>hd (.inr (.inr (.inr (.inr (.inr (.inr e))))))⟩
   have h:=Agq k key dst n had has k1 b1 n1 t1 l1 o1 k2 b2 n2 t2 l2 o2 k1' b1' n1' t1' l1' o1' k2' b2' n2' t2' l2' o2' la1 oa1 lc1 oc1 la2 oa2 lc2 oc2 la1' oa1' lc1' oc1' la2' oa2' lc2' oc2' l l' a a' c c' w hv1 hv2 hv1' hv2' (by omega) (by omega) (by omega) (by omega) hl hl' hln (by omega) (by omega) IH;rw[<-hln];refine h.mono ?_;rintro e w' ⟨B,rfl,hB,hbw⟩;refine⟨B,rfl,hB.trans ⟨?_, ?_⟩,hbw⟩
   . rintro⟨⟨e1,e2⟩,e3⟩;rw[e1,e2,e3]
   . intro e
     injection e with e1 e2 e3 e4 e5 e6 e7 e8 e9
     exact⟨⟨e6,e8⟩,e9⟩
end Go.Proofs.YtobmaegpfbheoaaGreatDoor
namespace Go.Proofs.YtobmaegpfbheoaaGreatDoor
open Go.RowKit Go.ChangeShapes Go.WideShapes Go.ChangeAt
theorem Ag2:ownKnob Tryz.prog.godebug=none:=by kernel_rfl
noncomputable def P6 (os:Os):World:=World.laidAll Tryz.prog os Rows.mutatorOwnRow.laid
theorem Abk:Rows.laid_unicode_utf8_first=Lib.firstData:=by kernel_rfl
theorem Yq:Rows.laid_unicode_utf8_acceptRanges (H:=Unit)=Lib.acceptData:=by kernel_rfl
theorem Abl:Rows.laid_internal_strconv_uint64pow10 (H:=Unit)=Lib.tabData .u64 Lib.pow10Tab:=by kernel_rfl
theorem Agh (os:Os) (args:Array Value):laidMet Tryz.prog Rows.mutatorOwnRow.laid ((P6 os).forCall (fun _ _=>0) ⟨#[],args, []⟩).memory:=
 laidMet_laidAll _ (by kernel_rfl) (by kernel_rfl)
theorem Aet {W:World} (h:Lib.VarReads Tryz.prog W "internal/strconv.uint64pow10" (Lib.tabData .u64 Lib.pow10Tab)):Lib.TabIs Tryz.prog W "internal/strconv.uint64pow10" .u64 Lib.pow10Tab:=by
 obtain⟨g',t',cs,fuel,p,hg',ht',hvar,hd⟩:=h;have hg:Tryz.prog.globalNamed "internal/strconv.uint64pow10" =some 3:=by kernel_rfl
 have hty:(Tryz.prog.globals[3]?).map (·.type)=some 278:=by kernel_rfl
 obtain rfl:=Option.some.inj (hg.symm.trans hg');obtain rfl:=Option.some.inj (hty.symm.trans ht');unfold Lib.TabIs;rw[hvar,<-Lib.cells_of_tab Tryz.underlying278 Tryz.underlying22 (by kernel_rfl) (by kernel_rfl) hd]
theorem Aeb {W:World} (h:Lib.VarReads Tryz.prog W "commonplace/mutator.names" Rows.laid_commonplace_mutator_names):Fv W:=by
 obtain⟨g',t',cs,fuel,p,hg',ht',hvar,hd⟩:=h;have hg:Tryz.prog.globalNamed "commonplace/mutator.names" =some 0:=by kernel_rfl
 have hty:(Tryz.prog.globals[0]?).map (·.type)=some 120:=by kernel_rfl
 obtain rfl:=Option.some.inj (hg.symm.trans hg');obtain rfl:=Option.some.inj (hty.symm.trans ht');obtain⟨xs,m,_,hx,hl,hxl,hf⟩:=DataW.trod_array Tryz.underlying120 hd;have hc1:Tryz.prog.cellsOf 9=1:=by kernel_rfl
 have hc4:Tryz.prog.cellsOf 120=8:=by kernel_rfl
 rw[hc4]at hl;have hxs:=congrArg Prod.fst hx;simp only[Rows.laid_commonplace_mutator_names,DataW.agg.injEq]at hxs;have key: ∀i,i<8-> ∀l:List UInt8,([[], [112,117,116], [100,101,108], [105,110,99], [99,97,115], [97,112,112,101,110,100], [109,111,118,101], [115,101,113]]:List (List UInt8))[i]? =some l->cs[i]? =some (.string ⟨l.toArray⟩):=by
  intro i hi l hl';have h1:=hf i hi;rw[hc1,Nat.mul_one]at h1;have h2:((cs.toList.drop i).take 1)= [cs[i]'(by simpa[Array.length_toList]using(by omega:i<cs.toList.length))]:=by
   rw[List.drop_eq_getElem_cons (by omega)];simp
  rw[h2,List.getElem?_eq_getElem (by omega)]at h1;obtain⟨s,hs,hx1,_⟩:=DataW.trod_string Tryz.underlying9 h1;simp only[List.cons.injEq,and_true]at hs;have h3:(xs.map (·.1))[i]? =some (DataW.lit (.string s.data.toList):DataW Unit):=by
   rw[List.getElem?_map,List.getElem?_eq_getElem (by omega),Option.map_some,hx1]
  rw[<-hxs]at h3;have h4:s.data.toList=l:=by
   rcases(by omega:i=0\/i=1\/i=2\/i=3\/i=4\/i=5\/i=6\/i=7)with rfl|rfl|rfl|rfl|rfl|rfl|rfl|rfl<;>exact(Lit.string.inj (DataW.lit.inj (Option.some.inj h3))).symm.trans (Option.some.inj hl')
  have h5:i<cs.size:=by rw[<-Array.length_toList];omega
  rw[Array.getElem?_eq_getElem h5,hs];have h6:s=⟨l.toArray⟩:=by
   apply ByteArray.ext;apply Array.ext';rw[h4]
  rw[h6]
 unfold World.var? at hvar;rw[hg]at hvar;simp only[Option.bind_some]at hvar
 split at hvar
 . rename_i cs' t' fz hh;simp only[Option.some.injEq]at hvar;subst hvar;have hcell: ∀i,W.cell? ⟨0,i,none⟩=cs'[i]? :=fun i=>by unfold World.cell?;rw[hh];rfl
   exact⟨(hcell 1).trans (key 1 (by omega) _ rfl),(hcell 2).trans (key 2 (by omega) _ rfl),(hcell 3).trans (key 3 (by omega) _ rfl),(hcell 4).trans (key 4 (by omega) _ rfl),(hcell 5).trans (key 5 (by omega) _ rfl),(hcell 6).trans (key 6 (by omega) _ rfl),(hcell 7).trans (key 7 (by omega) _ rfl),(Array.getElem?_eq_some_iff.1 hh).1⟩
 . cases hvar
theorem Aiw {W:World} (h:laidMetH Tryz.prog Rows.mutatorOwnRow.laid W):Cl W:=by
 have hL:laidMet Tryz.prog Rows.mutatorOwnRow.laid W:=by
  have:=(laidMetH_iff.1 h).1;have e:(Rows.mutatorOwnRow.laid.filter fun x=>x.2.handleName?.isNone)=Rows.mutatorOwnRow.laid:=by kernel_rfl
  rwa [e]at this
 have hu:Lib.Utf8Tabs 1 2 W:=
  utf8Tabs_of_readsT (U8Types.of196 Tryz.lays196) ⟨by kernel_rfl,by kernel_rfl,by kernel_rfl,by kernel_rfl,by kernel_rfl,by kernel_rfl,by kernel_rfl⟩
   (Lib.laidMet.reads hL (n:= "unicode/utf8.first") (d:=Lib.firstData) (by rw[<-Abk];simp[Rows.mutatorOwnRow])) (Lib.laidMet.reads hL (n:= "unicode/utf8.acceptRanges") (d:=Lib.acceptData) (by rw[<-Yq];simp[Rows.mutatorOwnRow]))
 have hp:=Aet (Lib.laidMet.reads hL (n:= "internal/strconv.uint64pow10") (d:=Lib.tabData .u64 Lib.pow10Tab) (by rw[<-Abl];simp[Rows.mutatorOwnRow]));have h64:Lib.VarReads Tryz.prog W "math/bits.deBruijn64tab" Rows.laid_math_bits_deBruijn64tab:=Lib.laidMet.reads hL (by simp[Rows.mutatorOwnRow]);refine⟨?_,hu,hp⟩;obtain⟨g',t',cs,fuel,p,hg',ht',hvar,hd⟩:=h64;have hg:Tryz.prog.globalNamed "math/bits.deBruijn64tab" =some 5:=by kernel_rfl
 obtain rfl:=Option.some.inj (hg.symm.trans hg');unfold World.var? at hvar;rw[hg]at hvar;simp only[Option.bind_some]at hvar;rcases Nat.lt_or_ge 5 W.heap.size with h'|h'
 . omega
 . rw[Array.getElem?_eq_none h']at hvar
   cases hvar
theorem Y0 {W:World} (h:laidMetH Tryz.prog Rows.mutatorOwnRow.laid W):Fv W:=by
 have hL:laidMet Tryz.prog Rows.mutatorOwnRow.laid W:=by
  have:=(laidMetH_iff.1 h).1;have e:(Rows.mutatorOwnRow.laid.filter fun x=>x.2.handleName?.isNone)=Rows.mutatorOwnRow.laid:=by kernel_rfl
  rwa [e]at this
 exact Aeb (Lib.laidMet.reads hL (by simp[Rows.mutatorOwnRow]))
theorem i64_in {n:Int} (hwf:(Lit.int .i64 n).wf=true): -9223372036854775808<=n/\n<=9223372036854775807:=by
 have h1:IntKind.i64.min= -9223372036854775808:=by decide
 have h2:IntKind.i64.max=9223372036854775807:=by decide
 simp only[Lit.wf,h1,h2,Bool.and_eq_true,decide_eq_true_eq]at hwf;exact hwf
section
variable {H:Type} {enc:TypeId×Value->H} {P:Program}
theorem Tx {f:Func} {s:ChangeSpec} {apart fresh handsOn again:Bool} {W W':World} {args:Array Value} {v:Value} {ds gs:List (DataW H)} {before pa pv:List MemPlace}
 (hW:DataW.Whole enc P f.params.toList s.vars apart W args.toList ds gs before)
 (hres: ∀(b:Nat) (sp:Nat->Bool) (hd:Bool),DataW.TrodAll enc P W' b sp hd f.resultTypes.toList (v.resultList f.resultTypes.size) (s.fn H (ds++gs)).results [])
 (hargs: ∀sp:Nat->Bool,(∀p ∈ before,sp p.block=true)->DataW.TrodAll enc P W' 0 sp true f.params.toList args.toList (s.fn H (ds++gs)).args pa)
 (hvars: ∀sp:Nat->Bool,(∀p ∈ before,sp p.block=true)->DataW.TrodVars enc P W' sp s.vars (s.fn H (ds++gs)).vars pv)
 (hps:before=pa++pv) (hb:Below W.heap.size W W')
 (hok: ∀(j:Nat) (t:TypeId) (r:Value),f.resultTypes[j]? =some t->(v.resultList f.resultTypes.size)[j]? =some r->Value.okWide P W' .any 0 t r):
 s.post enc P f apart fresh handsOn again W args v W':=by
 have hlt: ∀p ∈ before,p.block<W.heap.size:=fun p hp=>hW.lt p hp;have hold: ∀p ∈ before,(fun b=>decide (b<W.heap.size)) p.block=true:=fun p hp=>by simpa using hlt p hp
 refine⟨ds,gs,before, [],pa,pv,hW,hres _ _ _,hargs _ hold,hvars _ hold,World.keptBut_mono (fun p hp=>⟨hp, ?_⟩) (hb.frame (· ∈ before)),fun _=> ?_⟩
 . rw[hps,List.mem_append]at hp;exact Or.inr hp
 . obtain⟨_,_,_,_,_,hz,hn⟩:=hW;refine⟨hok,_,_,([]++pa)++pv,⟨[]++pa,pv,trodAll_append (hargs _ (fun _ _=>rfl)) (hres _ _ _),hvars _ (fun _ _=>rfl),rfl, ?_, ?_⟩, ?_⟩
   . intro b off hp;have hin:MemPlace.cell b off ∈ before:=by rw[hps];simpa using hp
     rw[hb.frozen (hlt _ hin)];exact hz b off hin
   . intro ha;have:=hn ha;rw[hps]at this;simpa using this
   . intro p hp _;rw[hps];simpa using hp
end
theorem Acg {H:Type} {enc:TypeId×Value->H} {P:Program} {w:World} {base fuel:Nat} {sp:Nat->Bool} {t:TypeId} {ms:Array (String×TypeId)} {cs:List Value} {name:String} {d:DataW H} {p:List MemPlace} (ht:P.underlying t=some (.interface ms))
 (h:DataW.trod enc P w base sp false fuel t cs=some (.iface name d,p)): ∃u v,cs= [.iface u v]:=by
 cases fuel with
 |zero=>simp[DataW.trod]at h
 |succ n=>
  unfold DataW.trod at h;rw[ht]at h
  split at h<;>first|exact⟨_,_,rfl⟩|simp_all
theorem Aiq {W:World} (h:Lib.VarReads Tryz.prog W "strconv.ErrRange" Rows.laid_strconv_ErrRange):Q9 W:=by
 obtain⟨g',t',cs,fuel,p,hg',ht',hvar,hd⟩:=h;have hg:Tryz.prog.globalNamed "strconv.ErrRange" =some 8:=by kernel_rfl
 have hty:(Tryz.prog.globals[8]?).map (·.type)=some 205:=by kernel_rfl
 obtain rfl:=Option.some.inj (hg.symm.trans hg');obtain rfl:=Option.some.inj (hty.symm.trans ht');unfold World.var? at hvar;rw[hg]at hvar;simp only[Option.bind_some]at hvar
 split at hvar
 . rename_i cs' t' fz hh;simp only[Option.some.injEq]at hvar;subst hvar;obtain⟨u,v,e⟩:=Acg Tryz.underlying205 hd;obtain⟨l⟩:=cs';simp only at e;subst e;refine⟨u,v, ?_⟩;unfold World.cell?
   rw[hh];rfl
 . cases hvar
theorem Agw {W:World} (h:laidMetH Tryz.prog Rows.mutatorOwnRow.laid W):Q9 W:=by
 have hL:laidMet Tryz.prog Rows.mutatorOwnRow.laid W:=by
  have:=(laidMetH_iff.1 h).1;have e:(Rows.mutatorOwnRow.laid.filter fun x=>x.2.handleName?.isNone)=Rows.mutatorOwnRow.laid:=by kernel_rfl
  rwa [e]at this
 exact Aiq (Lib.laidMet.reads hL (n:= "strconv.ErrRange") (by simp[Rows.mutatorOwnRow]))
end Go.Proofs.YtobmaegpfbheoaaGreatDoor
