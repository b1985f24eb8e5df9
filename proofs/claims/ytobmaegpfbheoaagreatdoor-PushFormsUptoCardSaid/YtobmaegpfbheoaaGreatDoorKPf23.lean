/- Parts: The tables and the two errors that the rows list: a world for the witnesses. No condition. -/
import Derived.Deep.RegionHeld3
import Derived.Defers
import Derived.Recover
import Derived.Laws.Pointers
import Derived.Test.YtobmaegpfbheoaaGreatDoorChecked
import Derived.Test.YtobmaegpfbheoaaGreatDoorRows
import Derived.Lay
import Derived.Lib.LaidIn
import Derived.Lib.LaidU8T
import Derived.LaidSub
import Derived.Lib.ItoaNum
import Derived.Deep.DeepHandedRow
import Derived.ProofKit
import Derived.Test.YtobmaegpfbheoaaGreatDoorKPf20
set_option maxHeartbeats 20000000
set_option maxRecDepth 100000
namespace Go.Proofs.YtobmaegpfbheoaaGreatDoor
open Go Go.RowKit
section
variable {P:Program} {md:Region.Mode} {ops:Array Oper} {Q:Exit->Act->World->Prop} {S:World->Prop}
theorem tkH (i:Nat) {oi:Oper} {v:Value} {fuel:Nat} {listed:Array Bool} {a a':Act} {w:World} (hS:S w) (h:wpAnyH P md ops Q S fuel (listed.setIfInBounds i true) a' w)
 (hi:ops[i]? =some oi:=by rfl) (hs:Region.noSelect ops=true:=by kernel_rfl) (hf:Region.free md ops listed i=true:=by kernel_rfl) (hr:(Region.ready md ops listed).contains i=true:=by kernel_rfl)
 (hQ: ∀c a w,Q (.panic c) (a.put oi.dst v) w->Q (.panic c) a w:=by exact fun _ _ _ h=>h) (hw:Region.wanted oi (yielded ops a.tmps)=true:=by kernel_rfl)
 (hy: ∀w,S w->(execOp a.eval oi).run P w=.ok (.value v) w:=by(intro X hSw;(repeat (obtain⟨_,hSw⟩:=hSw));first|(go_simp;done)|(go_simp;with_reducible rfl)))
 (hn:a.put oi.dst v=a':=by((try simp only[Act.put,List.getElem_toArray,List.getElem_cons_succ,List.getElem_cons_zero,List.setIfInBounds_toArray,List.set_cons_zero,List.set_cons_succ]);exact rfl)):wpAnyH P md ops Q S (fuel+1) listed a w:=
 wpAnyH_take hi hs hf hr hQ (Or.inl ⟨hw,hy⟩) hS (hn▸h)
theorem rd1 (i:Nat) {o:Oper} {fuel:Nat} {listed:Array Bool} {a:Act} {w:World}
 (h: ∀K':Act->World->Prop,Shut (∀a w,S w->(S w->wpAnyH P md ops Q S fuel (listed.setIfInBounds i true) a w)->K' a w)->if Region.wanted o (yielded ops a.tmps)=true then Oper.wp P o a w K' Q else K' (a.put o.dst undef) w)
 (hr:Region.ready md ops listed= [i]:=by kernel_rfl) (ho:ops[i]? =some o:=by rfl):wpAnyH P md ops Q S (fuel+1) listed a w:=
 wpAnyH_ready hr (by simp) (AllReadyH.cons ho h AllReadyH.nil)
end
def C0 (w:World):Prop:=w.cell? ⟨0,1,none⟩=some (.string Ls)/\w.cell? ⟨0,2,none⟩=some (.string Lq)/\w.cell? ⟨0,3,none⟩=some (.string Lr)/\w.cell? ⟨0,4,none⟩=some (.string Ko)/\w.cell? ⟨0,5,none⟩=some (.string Lp)/\w.cell? ⟨0,6,none⟩=some (.string Gn)/\w.cell? ⟨0,7,none⟩=some (.string Lt)/\0<w.heap.size
theorem C0.below {w w':World} (h:C0 w) (hb:Below w.heap.size w w'):C0 w':=by
 obtain⟨h1,h2,h3,h4,h5,h6,h7,h8⟩:=h;exact⟨(hb.cell h8).trans h1,(hb.cell h8).trans h2,(hb.cell h8).trans h3,(hb.cell h8).trans h4,(hb.cell h8).trans h5,(hb.cell h8).trans h6,(hb.cell h8).trans h7,Nat.lt_of_lt_of_le h8 hb.size⟩
theorem Gc (k:Int) (b:Bool) (n:Int) (t:ByteArray) (la oa:Option Addr) (ln lc on oc:Nat) (B:Bool) (w:World) (h:Ef k b n t ln on=B):
 Calls Tryz.prog 159 #[.agg #[.int .i64 k,.bool b,.int .i64 n,.string t,.slice la ln lc,.slice oa on oc]] w fun e w'=>e=.returned (.bool B)/\Below w.heap.size w w':=by
 have Fin:Hid (∀X:Bool,X=Ef k b n t ln on->Ending.returned (.bool X)=.returned (.bool B)):=fun X hX=>by rw[hX,h]
 clear h;go_enter Tryz.func159,Tryz.ntmps159;go_wp2
 all_goals(go_ret;refine⟨Fin.out _ ?_,Aa _ _⟩;simp_all[Ef,Yw])
def Vh (c:Int):Ending:=if c=0 then .returned (.tuple #[])else .panicked [{v:=.iface 172 (.agg #[.int .i64 c]),recovered:=false}]
theorem Lg:Vh 0=.returned (.tuple #[]):=rfl
theorem Dq {c:Int} (h:c≠0):Vh c=.panicked [{v:=.iface 172 (.agg #[.int .i64 c]),recovered:=false}]:=by unfold Vh;rw[if_neg h]
theorem D6 (c:Int) (w:World):Calls Tryz.prog 74 #[.bool true,.int .i64 c] w fun e w'=>e=.returned (.tuple #[])/\w'=w:=by
 go_enter Tryz.func74,Tryz.ntmps74;go_wp2
 go_end0
 exact⟨rfl,rfl⟩
theorem M6 (c:Int) (w:World):Calls Tryz.prog 74 #[.bool false,.int .i64 c] w fun e w'=>e=.panicked [{v:=.iface 172 (.agg #[.int .i64 c]),recovered:=false}]/\w'=w:=by
 go_enter Tryz.func74,Tryz.ntmps74;go_wp2;exact⟨rfl,rfl,rfl⟩
theorem Tj (w:World):Calls Tryz.prog 118 #[.int .i64 0] w fun e w'=>e=.returned (.tuple #[])/\w'=w:=by
 have h:=fun W=>D6 0 W;go_enter Tryz.func118,Tryz.ntmps118;go_wp2_with (go_at_call 74;(with_reducible refine(h _).mono ?_);rintro e w1 ⟨rfl,rfl⟩)
 go_end0
 exact⟨rfl,rfl⟩
theorem Xa (c:Int) (hc:c≠0) (w:World):Calls Tryz.prog 118 #[.int .i64 c] w fun e w'=>e=.panicked [{v:=.iface 172 (.agg #[.int .i64 c]),recovered:=false}]/\w'=w:=by
 have h:=fun W=>M6 c W;have t0:(c==0)=false:=by simpa using hc
 go_enter Tryz.func118,Tryz.ntmps118;go_wp2_with (go_at_call 74;(with_reducible refine(h _).mono ?_);rintro e w1 ⟨rfl,rfl⟩);exact⟨rfl,rfl,rfl⟩
def Cm (k:Int) (dst:ByteArray) (n:Int) (had wasZ has valZ:Bool) (ln:Nat):Bool:=
 if(!had&& !wasZ)=true then true
 else if k=1\/k=5 then !(dst.toList.isEmpty&&decide (n=0)&& !had&&wasZ&& !has&&decide (ln=0))
 else if k=2 then !(dst.toList.isEmpty&&decide (n=0)&& !had&&wasZ&& !has&&valZ&&decide (ln=0))
 else if k=3 then !(dst.toList.isEmpty&& !had&&wasZ&& !has&&valZ&&decide (ln=0))
 else if k=4 then(!has&& !valZ)|| !(dst.toList.isEmpty&&decide (n=0)&&decide (ln=0))
 else if k=6 then !(decide (n=0)&& !had&&wasZ&& !has&&valZ&&decide (ln=0))
 else if k=7 then !(dst.toList.isEmpty&&decide (n=0)&& !has&&valZ)
 else true
theorem Rm (k:Int) (dst:ByteArray) (n:Int) (had wasZ has valZ:Bool) (ln:Nat):Cm k dst n had wasZ has valZ ln= !Ai k dst n had wasZ has valZ ln:=by
 unfold Cm Ai;generalize dst.toList.isEmpty=e;generalize hz:decide (n=0)=z;generalize hy:decide (ln=0)=y;by_cases h1:k=1
 . subst h1;simp;cases e<;>cases z<;>cases y<;>cases had<;>cases wasZ<;>cases has<;>cases valZ<;>rfl
 by_cases h5:k=5
 . subst h5;simp;cases e<;>cases z<;>cases y<;>cases had<;>cases wasZ<;>cases has<;>cases valZ<;>rfl
 by_cases h2:k=2
 . subst h2;simp;cases e<;>cases z<;>cases y<;>cases had<;>cases wasZ<;>cases has<;>cases valZ<;>rfl
 by_cases h3:k=3
 . subst h3;simp;cases e<;>cases z<;>cases y<;>cases had<;>cases wasZ<;>cases has<;>cases valZ<;>rfl
 by_cases h4:k=4
 . subst h4;simp;cases e<;>cases z<;>cases y<;>cases had<;>cases wasZ<;>cases has<;>cases valZ<;>rfl
 by_cases h6:k=6
 . subst h6;simp;cases e<;>cases z<;>cases y<;>cases had<;>cases wasZ<;>cases has<;>cases valZ<;>rfl
 by_cases h7:k=7
 . subst h7;simp;cases e<;>cases z<;>cases y<;>cases had<;>cases wasZ<;>cases has<;>cases valZ<;>rfl
 have:(decide (1<=k)&&decide (k<=7))=false:=by simp;omega
 simp[h1,h2,h3,h4,h5,h6,h7,this]
theorem U3 (p:Addr) (w:World):
 CallsD Tryz.prog 115 #[.pointer (some p)] .returning w fun e u' w'=>e=.returned (.tuple #[])/\u'=.returning/\w'=w:=by
 refine callsD_of_wpS Tryz.func115 rfl fun c₀ cs hu=> ?_;apply wpS_seq;apply wpS_region;simp[wpOpsS,go_sem,recoverD,hu,Tryz.ntmps115,Exit.thenS];refine wpS_of_wp ?_;go_wp2
 cases c₀
 simp_all[bodyPostS,results,Tryz.results115]
theorem Qp (W:World) (v:Value):(Instr.typeAssert (.iface 172 v) 20 172 true).run Tryz.prog W=.ok (.tuple #[v,.bool true]) W:=by kernel_rfl
theorem U4 (p:Addr) (c x:Int) (w:World) (hc:w.cell? p=some (.int .i64 x)) (hz:w.frozen? p=false) (hp:p.block<w.heap.size):
 CallsD Tryz.prog 115 #[.pointer (some p)] (.panicking [{v:=.iface 172 (.agg #[.int .i64 c]),recovered:=false}]) w fun e u' w'=>
  e=.returned (.tuple #[])/\u'=.panicking [{v:=.iface 172 (.agg #[.int .i64 c]),recovered:=true}]/\w'=(w.alloc (.cells #[.int .i64 c] 172)).setCell p (.int .i64 c):=by
 have hta:=fun w=>Qp w (.agg #[.int .i64 c]);have hz2:(w.alloc (.cells #[.int .i64 c] 172)).frozen? p=false:=((Aa w _).frozen hp).trans hz;refine callsD_of_wpS Tryz.func115 rfl fun c₀ cs hu=> ?_;apply wpS_seq;apply wpS_region;simp[wpOpsS,go_sem,recoverD,hu,Tryz.ntmps115,Exit.thenS];refine wpS_of_wp ?_;go_wp2
 cases c₀
 simp_all[bodyPostS,results,Tryz.results115]
theorem Nh {w w1:World} {o:Obj} (hb:Below (w.alloc o).heap.size (w.alloc o) w1):Below w.heap.size w w1:=(Aa w o).trans (hb.mono (by simp))
theorem Qr (c:Int) (q:Addr) (w:World)
 (hdo: ∀W,Below w.heap.size w W->Calls Tryz.prog 64 #[.pointer (some q)] W fun e w'=>e=Vh c/\Below W.heap.size W w'):
 Calls Tryz.prog 63 #[.func (.func 64) #[] #[.pointer (some q)]] w fun e w'=>e=.returned (.int .i64 c)/\Below w.heap.size w w':=by
 have hmf: ∀(fn:Fn) (first cap:Array Value) (w:World),(Instr.makeFunc fn first cap).run Tryz.prog w=.ok (.func fn first cap) w:=fun _ _ _ _=>rfl;have hx:=Aj.new w 27 #[.int .i64 0];have hD:=hdo _ (Aa w (.cells #[.int .i64 0] 27));have hlt:=hx.lt;by_cases h0:c=0
 . subst h0;rw[Lg]at hD;obtain⟨HD,Hx⟩:=hid2 hD hx;clear hD hx;clear hdo
   go_enter_defers Tryz.func63,Tryz.ntmps63
   go_wp2_with (go_at_call 64;(with_reducible refine(HD.out).mono ?_);rintro e w1 ⟨rfl,hb1⟩;have hx1:=Hx.out.below hb1 hlt;have d0:=hx1.cell 0;have f0:=hx1.frozen 0);refine leaves_cons (f:=115) (args:= #[.pointer (some ⟨w.heap.size,0,none⟩)]) (by simp) (by simp[go_sem]) ?_;have hx2:=hx1.set_ 0 (.int .i64 0);have d2:=hx2.cell 0;refine(U3 ⟨w.heap.size,0,none⟩ _).mono ?_;rintro e u' w'' ⟨rfl,rfl,rfl⟩;simp[Leaves,settle,results,Tryz.results63,go_sem,d2];exact(Nh hb1).setCell (Nat.le_refl _) _
 . rw[Dq h0]at hD;obtain⟨HD,Hx⟩:=hid2 hD hx;clear hD hx;clear hdo
   go_enter_defers Tryz.func63,Tryz.ntmps63
   go_wp2_with (go_at_call 64;(with_reducible refine(HD.out).mono ?_);rintro e w1 ⟨rfl,hb1⟩;have hx1:=Hx.out.below hb1 hlt;have d0:=hx1.cell 0;have f0:=hx1.frozen 0);refine leaves_cons (f:=115) (args:= #[.pointer (some ⟨w.heap.size,0,none⟩)]) (by simp) (by simp[go_sem]) ?_;have hx2:=(hx1.alloc (.cells #[.int .i64 c] 172)).set_ 0 (.int .i64 c);have d2:=hx2.cell 0;refine(U4 ⟨w.heap.size,0,none⟩ c 0 w1 (by simpa using d0) f0 hx1.lt).mono ?_;rintro e u' w'' ⟨rfl,rfl,rfl⟩;simp[Leaves,settle,results,Tryz.results63,go_sem,d2];exact((Nh hb1).alloc (Nh hb1).size _).setCell (Nat.le_refl _) _
end Go.Proofs.YtobmaegpfbheoaaGreatDoor
namespace Go.Proofs.YtobmaegpfbheoaaGreatDoor
def X3:Nat:=3988292384
def Tz (r:Nat):Nat:=if r % 2=1 then(r / 2) ^^^ X3 else r / 2
def Bk:Nat->Nat->Nat
 |0,r=>r
 |n+1,r=>Bk n (Tz r)
def Mt (r bit:Nat):Nat:=if r % 2≠bit then(r / 2) ^^^ X3 else r / 2
def rbN:Nat->Nat->Nat->Nat
 |0,r,_=>r
 |n+1,r,c=>rbN n (Mt r (c % 2)) (c / 2)
theorem Aaa (a b:Nat):(a ^^^ b) / 2=(a / 2) ^^^ (b / 2):=by
 have:=Nat.shiftRight_xor_distrib (a:=a) (b:=b) (i:=1);simpa[Nat.shiftRight_succ]using this
theorem Abc (a b:Nat):(a ^^^ b) % 2=(a % 2+b % 2) % 2:=by
 have h:=Nat.testBit_xor a b 0;simp only[Nat.testBit_zero]at h;have ha:=Nat.mod_two_eq_zero_or_one a;have hb:=Nat.mod_two_eq_zero_or_one b;have hc:=Nat.mod_two_eq_zero_or_one (a ^^^ b);rcases ha with ha|ha<;>rcases hb with hb|hb<;>rcases hc with hc|hc<;>simp[ha,hb,hc]at h ⊢
theorem Aac (a b c d:Nat):(a ^^^ b) ^^^ (c ^^^ d)=(a ^^^ c) ^^^ (b ^^^ d):=by
 rw[Nat.xor_assoc,Nat.xor_assoc,<-Nat.xor_assoc b c d,Nat.xor_comm b c,Nat.xor_assoc]
theorem M8 (a b:Nat):Tz (a ^^^ b)=Tz a ^^^ Tz b:=by
 have h:=Abc a b;unfold Tz;rw[Aaa];by_cases ha:a % 2=1<;>by_cases hb:b % 2=1
 . have hc: ¬(a ^^^ b) % 2=1:=by omega
   rw[if_neg hc,if_pos ha,if_pos hb,Aac,Nat.xor_self,Nat.xor_zero]
 . have hc:(a ^^^ b) % 2=1:=by omega
   rw[if_pos hc,if_pos ha,if_neg hb,Nat.xor_assoc,Nat.xor_comm (b / 2),<-Nat.xor_assoc]
 . have hc:(a ^^^ b) % 2=1:=by omega
   rw[if_pos hc,if_neg ha,if_pos hb,Nat.xor_assoc]
 . have hc: ¬(a ^^^ b) % 2=1:=by omega
   rw[if_neg hc,if_neg ha,if_neg hb]
theorem Xc: ∀(n a b:Nat),Bk n (a ^^^ b)=Bk n a ^^^ Bk n b
 |0,_,_=>rfl
 |n+1,a,b=>by simp only[Bk];rw[M8,Xc n]
theorem Ye (c:Nat):Tz c=Tz (c % 2) ^^^ (c / 2):=by
 unfold Tz;have:c % 2 / 2=0:=by omega
 rw[Nat.mod_mod,this]
 split
 . rw[Nat.zero_xor,Nat.xor_comm]
 . rw[Nat.zero_xor]
theorem Wy (r bit:Nat) (hb:bit<2):Mt r bit=Tz (r ^^^ bit):=by
 rw[M8];unfold Mt Tz;have h0:bit / 2=0:=by omega
 rw[h0];rcases Nat.lt_or_ge bit 1 with h|h
 . obtain rfl:bit=0:=by omega
   by_cases hr:r % 2=1
   . rw[if_pos (by omega),if_pos hr];simp
   . rw[if_neg (by omega),if_neg hr];simp
 . obtain rfl:bit=1:=by omega
   by_cases hr:r % 2=1
   . rw[if_neg (by omega),if_pos hr];simp[Nat.xor_assoc]
   . rw[if_pos (by omega),if_neg hr];simp
theorem Z4: ∀(n r c:Nat),c<2 ^ n->rbN n r c=Bk n (r ^^^ c)
 |0,r,c,h=>by
  obtain rfl:c=0:=by simpa using h
  simp[rbN,Bk]
 |n+1,r,c,h=>by
  simp only[rbN,Bk];rw[Z4 n _ _ (by rw[Nat.pow_succ]at h;omega),Wy _ _ (by omega),M8 r c,Ye c,M8 r (c % 2),Nat.xor_assoc]
theorem Qg: ∀(n x:Nat),Bk n (x*2 ^ n)=x
 |0,x=>by simp[Bk]
 |n+1,x=>by
  have h:x*2 ^ (n+1)=2*(x*2 ^ n):=by rw[Nat.pow_succ,<-Nat.mul_assoc,Nat.mul_comm]
  have h2:Tz (2*(x*2 ^ n))=x*2 ^ n:=by
   unfold Tz;rw[if_neg (by omega)];omega
  simp only[Bk];rw[h,h2,Qg n x]
theorem Abb (r:Nat):r=(r / 16*2 ^ 4) ^^^ (r % 16):=by
 apply Nat.eq_of_testBit_eq;intro i;rw[Nat.testBit_xor,show r / 16*2 ^ 4=(r / 16) <<< 4 from(Nat.shiftLeft_eq _ _).symm,Nat.testBit_shiftLeft,show r % 16=r % 2 ^ 4 from rfl,Nat.testBit_mod_two_pow];by_cases hi:i<4
 . simp[hi,show ¬i≥4 from by omega]
 . have:(r / 16).testBit (i - 4)=r.testBit i:=by
    rw[show r / 16=r >>> 4 from(Nat.shiftRight_eq_div_pow r 4).symm,Nat.testBit_shiftRight]
    congr 1;omega
   simp[hi,show i≥4 from by omega,this]
def nib (r:Nat):Nat:=(r / 16) ^^^ Bk 4 (r % 16)
theorem V3 (r:Nat):nib r=Bk 4 r:=by
 unfold nib
 conv=>rhs;rw[Abb r]
 rw[Xc,Qg]
theorem Rl: ∀(m n r:Nat),Bk (m+n) r=Bk n (Bk m r)
 |0,n,r=>by simp[Bk]
 |m+1,n,r=>by rw[show m+1+n=(m+n)+1 from by omega];simp only[Bk];exact Rl m n _
theorem Aat (r:Nat):nib (nib r)=Bk 8 r:=by rw[V3,V3,<-Rl]
theorem Z6 {r:Nat} (h:r<4294967296):Tz r<4294967296:=by
 unfold Tz
 split
 . exact Nat.xor_lt_two_pow (n:=32) (by omega) (by unfold X3;omega)
 . omega
theorem Lz: ∀(n:Nat) {r:Nat},r<4294967296->Bk n r<4294967296
 |0,_,h=>h
 |n+1,_,h=>Lz n (Z6 h)
@[irreducible] def st8 (r:Nat):Nat:=Bk 8 r
theorem Wi (r:Nat):st8 r=Bk 8 r:=by unfold st8;rfl
def En (r:Nat) (l:List UInt8):Nat:=l.foldl (fun a x=>st8 (a ^^^ x.toNat)) r
def Cs (s:Nat) (l:List UInt8):Nat:=4294967295 - En (4294967295 - s) l
theorem Va {r:Nat} (x:UInt8) (h:r<4294967296):st8 (r ^^^ x.toNat)<4294967296:=by
 have hx:x.toNat<4294967296:=by have:=x.toNat_lt;omega
 rw[Wi];exact Lz 8 (Nat.xor_lt_two_pow (n:=32) h hx)
theorem U9 (r:Nat) (x:UInt8) (t:List UInt8):En r (x::t)=En (st8 (r ^^^ x.toNat)) t:=List.foldl_cons ..
theorem Kb (l:List UInt8): ∀{r:Nat},r<4294967296->En r l<4294967296:=by
 induction l with
 |nil=>intro r h;exact h
 |cons x t ih=>
  intro r h;rw[U9];exact ih (Va x h)
theorem Ni (l:List UInt8) (r:Nat) (x:UInt8):En r (l++ [x])=st8 (En r l ^^^ x.toNat):=by
 unfold En;rw[List.foldl_append];rfl
theorem Nj (s:Nat) (l:List UInt8):Cs s l<4294967296:=by unfold Cs;omega
def Ij (s:Nat):List UInt8:= [UInt8.ofNat (s % 256),UInt8.ofNat (s / 256 % 256),UInt8.ofNat (s / 65536 % 256),UInt8.ofNat (s / 16777216 % 256)]
def Ew (l:List UInt8):List UInt8:=l++Ij (Cs 0 l)
end Go.Proofs.YtobmaegpfbheoaaGreatDoor
namespace Go.Proofs.YtobmaegpfbheoaaGreatDoor
open Go.RowKit Go.ChangeShapes Go.WideShapes Go.ChangeAt
theorem Zz:ownKnob Tryz.prog.godebug=none:=by kernel_rfl
noncomputable def Ll (os:Os):World:=World.laidAll Tryz.prog os Rows.pushFormsRow.laid
theorem Vs:Rows.laid_unicode_utf8_first=Lib.firstData:=by kernel_rfl
theorem Sy:Rows.laid_unicode_utf8_acceptRanges (H:=Unit)=Lib.acceptData:=by kernel_rfl
theorem Vt:Rows.laid_internal_strconv_uint64pow10 (H:=Unit)=Lib.tabData .u64 Lib.pow10Tab:=by kernel_rfl
theorem Zl (os:Os) (args:Array Value):laidMet Tryz.prog Rows.pushFormsRow.laid ((Ll os).forCall (fun _ _=>0) ⟨#[],args, []⟩).memory:=
 laidMet_laidAll _ (by kernel_rfl) (by kernel_rfl)
end Go.Proofs.YtobmaegpfbheoaaGreatDoor
