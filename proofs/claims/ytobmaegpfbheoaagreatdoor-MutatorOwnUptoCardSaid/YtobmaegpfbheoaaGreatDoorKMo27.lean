/- Parts: The mutators' reader of cas: what it makes of its members. Condition: at most 10^8 members; values of a bulk of at most 10^8. -/
import Derived.Test.YtobmaegpfbheoaaGreatDoorKMo22
import Derived.Test.YtobmaegpfbheoaaGreatDoorKMo23
import Derived.Test.YtobmaegpfbheoaaGreatDoorKMo25
set_option maxHeartbeats 20000000
set_option maxRecDepth 100000
namespace Go.Proofs.YtobmaegpfbheoaaGreatDoor
open Go Go.RowKit
theorem Jl (k:ByteArray) (o:List (ByteArray×Val)):kOf (Av k o)=Cx (A0 k o):=by
 unfold A0
 cases Av k o with
 |none=>rfl
 |some x=>obtain⟨_,_,_,_,_,_⟩:=x;rfl
theorem Ko (k:ByteArray) (o:List (ByteArray×Val)):tOf (Av k o)=E1 (A0 k o):=by
 unfold A0
 cases Av k o with
 |none=>rfl
 |some x=>obtain⟨_,_,_,_,_,_⟩:=x;rfl
theorem Ux (k:ByteArray): ∀fs:List (ByteArray×Int),(J7 k fs).isSome=fs.any fun f=>decide (k=f.1)
 | []=>rfl
 |(a,x)::r=>by
  unfold J7;rw[List.any_cons,<-Ux k r];by_cases h:a=k
  . simp[h]
  . rw[if_neg h,decide_eq_false (fun e=>h e.symm),Bool.false_or]
theorem H9 {fs:List (ByteArray×Int)} {all opt:List ByteArray} (o:List (ByteArray×Val)) (h1: ∀k,(fs.any fun f=>decide (k=f.1))=(all++opt).any fun x=>decide (k=x)) (h2:(fs.all fun f=>(Av f.1 o).isSome||decide (f.2=1))=all.all fun x=>(Av x o).isSome):Ri o fs=Mg all opt o:=by
 unfold Ri Mg;rw[h2]
 congr 1
 congr 1
 funext p
 rw[Ux,h1]
theorem Af3 (o:List (ByteArray×Val)):Ri o [(Ao,0),(Ap,0)]=Mg [Ao,Ap] [] o:=H9 o (fun _=>rfl) (by simp)
def Bz (k:Int):List (ByteArray×Int):=if k=1\/k=5 then [(As,0),(E3,0)]else if k=2 then [(As,0)]else if k=3 then [(Na,0),(As,0)]else if k=6 then [(De,0),(L8,0)]else if k=4 then [(Kg,1),(As,0),(Cp,1)]else [(Ja,0),(L7,1)]
theorem Af5 {k:Int} (h1:1<=k) (h7:k<=7) (o:List (ByteArray×Val)):Ri o (Bz k)=Mg (K8 k) (Ad8 k) o:=by
 rcases(show k=1\/k=2\/k=3\/k=4\/k=5\/k=6\/k=7 by omega)with rfl|rfl|rfl|rfl|rfl|rfl|rfl
 . exact H9 o (fun _=>rfl) (by simp[Bz,K8])
 . exact H9 o (fun _=>rfl) (by simp[Bz,K8])
 . exact H9 o (fun _=>rfl) (by simp[Bz,K8])
 . refine H9 o (fun k=> ?_) (by simp[Bz,K8]);show(decide (k=Kg)||(decide (k=As)||(decide (k=Cp)||false)))=(decide (k=As)||(decide (k=Kg)||(decide (k=Cp)||false)))
   cases decide (k=Kg)<;>cases decide (k=As)<;>rfl
 . exact H9 o (fun _=>rfl) (by simp[Bz,K8])
 . exact H9 o (fun _=>rfl) (by simp[Bz,K8])
 . exact H9 o (fun _=>rfl) (by simp[Bz,K8])
theorem Ady (o:List (ByteArray×Val)):Ri o [(As,0),(Cp,1)]=Mg [As] [Cp] o:=H9 o (fun _=>rfl) (by simp)
def kM:Mut->Int
 | .mk k _ _ _ _ _ _ _ _=>k
theorem An.agg {b:Nat} {w:World} {l:List D} {cs:List Value} (h:Bc b w l cs):An b w (.agg l) cs:=h
theorem Bc.leaf {b:Nat} {w:World} {v:Value} {l:List D} {cs:List Value} (hv:v.oneCell'=true) (h:Bc b w l cs):Bc b w (.leaf v::l) (v::cs):=fun w'' h1 h2=>⟨[v],cs,rfl,⟨rfl,hv⟩,h w'' h1 h2⟩
theorem Bc.part {b:Nat} {w:World} {d:D} {l:List D} {c1 cs:List Value} (hd:An b w d c1) (h:Bc b w l cs):Bc b w (d::l) (c1++cs):=fun w'' h1 h2=>⟨c1,cs,rfl,hd w'' h1 h2,h w'' h1 h2⟩
theorem D5 (b:Nat) (w:World):An b w (dV L9) [.int .i64 0,.bool false,.int .i64 0,.string ⟨#[]⟩,.slice none 0 0,.slice none 0 0]:=fun _ _ _=>Yk _ _
theorem F5 (b s:Nat) (w:World):An b w (.row s []) [.slice none 0 0]:=fun _ _ _=>⟨none,0,rfl,(by simp), [],rfl,.inl rfl⟩
theorem Dk {b:Nat} {w:World} (k:Int) (key dst:ByteArray) (n:Int) (had:Bool) {was:Val} (has:Bool) {v:Val} {l:List Mut} {a0 a1 a2 a3 a4 a5 b0 b1 b2 b3 b4 b5 sl:Value} (hw:An b w (dV was) [a0,a1,a2,a3,a4,a5]) (hv:An b w (dV v) [b0,b1,b2,b3,b4,b5]) (hl:An b w (.row 19 (E2 l)) [sl]):
 An b w (dM (.mk k key dst n had was has v l)) [.int .i64 k,.string key,.string dst,.int .i64 n,.bool had,a0,a1,a2,a3,a4,a5,.bool has,b0,b1,b2,b3,b4,b5,sl]:=by
 unfold dM;exact An.agg (.leaf rfl (.leaf rfl (.leaf rfl (.leaf rfl (.leaf rfl (.part hw (.leaf rfl (.part hv (.part hl (Bc.nil _ _))))))))))
def Mb (r:Int×Mut) (w:World) (e:Ending) (w':World):Prop:=Below w.heap.size w w'/\if r.1≠0 then e=Fg r.1 else ∃cs:List Value,e=.returned (.agg (.int .i64 0::cs).toArray)/\An w.heap.size w' (dM r.2) (.int .i64 (kM r.2)::cs)
theorem Mb.no {r:Int×Mut} {w w':World} {c:Int} (h:r.1=c) (hc:c≠0) (hb:Below w.heap.size w w'):Mb r w (Fg c) w':=⟨hb,by rw[if_pos (by omega),h]⟩
theorem Mb.yes {m:Mut} {w w':World} {cs:List Value} (hb:Below w.heap.size w w') (hf:An w.heap.size w' (dM m) (.int .i64 (kM m)::cs)):Mb (0,m) w (.returned (.agg (.int .i64 0::cs).toArray)) w':=⟨hb,by rw[if_neg (by simp)];exact⟨cs,rfl,hf⟩⟩
theorem Mb.yes' {r:Int×Mut} {m:Mut} {w w':World} {cs:List Value} (h:r=(0,m)) (hb:Below w.heap.size w w') (hf:An w.heap.size w' (dM m) (.int .i64 (kM m)::cs)):Mb r w (.returned (.agg (.int .i64 0::cs).toArray)) w':=h▸Mb.yes hb hf
theorem Mx (f:Val->Int×Mut) (o:List (ByteArray×Val)):Bv f 2 o=if Cx (A0 As o)≠4 then(9,Jy)else(0,.mk 2 (E1 (A0 As o)) Ec 0 false L9 false L9 []):=by
 unfold Bv;rw[if_neg (by omega),if_neg (by omega),if_neg (by omega)];simp only[show ¬((2:Int)=3)by omega,show ¬((2:Int)=4)by omega,if_false,if_true]
theorem My (f:Val->Int×Mut) (o:List (ByteArray×Val)):Bv f 3 o=if Cx (A0 Na o)≠3 then(9,Jy)else if Cx (A0 As o)≠4 then(9,Jy)else(0,.mk 3 (E1 (A0 As o)) Ec (Ac6 (A0 Na o)) false L9 false L9 []):=by
 unfold Bv;rw[if_neg (by omega),if_neg (by omega)];simp only[true_and,if_true]
theorem Lh (f:Val->Int×Mut) (o:List (ByteArray×Val)):Bv f 6 o=if Cx (A0 De o)≠4 then(9,Jy)else if Cx (A0 L8 o)≠4 then(9,Jy)else(0,.mk 6 (E1 (A0 De o)) (E1 (A0 L8 o)) 0 false L9 false L9 []):=by
 unfold Bv;rw[if_neg (by omega),if_pos rfl];by_cases h1:Cx (A0 De o)=4
 . by_cases h2:Cx (A0 L8 o)=4
   . rw[if_neg (by omega),if_neg (by omega),if_neg (by omega)]
   . rw[if_pos (.inr h2),if_neg (by omega),if_pos h2]
 . rw[if_pos (.inl h1),if_pos h1]
theorem K0 (f:Val->Int×Mut) {k:Int} (hk:k=1\/k=5) (o:List (ByteArray×Val)):Bv f k o=if Cx (A0 As o)≠4 then(9,Jy)else(0,.mk k (E1 (A0 As o)) Ec 0 false L9 false (A0 E3 o) []):=by
 unfold Bv;rw[if_neg (by omega),if_neg (by omega),if_neg (by omega)];rw[if_neg (show ¬k=3 by omega),if_neg (show ¬k=4 by omega),if_neg (show ¬k=2 by omega)]
theorem Mw (f:Val->Int×Mut) (o:List (ByteArray×Val)):Bv f 4 o=if Cx (A0 As o)≠4 then(9,Jy)else(0,.mk 4 (E1 (A0 As o)) Ec 0 (Av Cp o).isSome (A0 Cp o) (Av Kg o).isSome (A0 Kg o) []):=by
 unfold Bv;rw[if_neg (by omega),if_neg (by omega),if_neg (by omega)];rw[if_neg (show ¬(4:Int)=3 by omega),if_pos rfl]
theorem Aej (f:Val->Int×Mut) {o:List (ByteArray×Val)} {w w':World} {e:Ending} (h:Acu o w e w'):Mb (Bv f 2 o) w e w':=by
 obtain⟨hb,h⟩:=h;rw[show(⟨#[107,101,121]⟩:ByteArray)=As from rfl,Jl,Ko]at h;rw[Mx];by_cases h4:Cx (A0 As o)=4
 . rw[if_neg (by omega)];rw[if_pos h4]at h;subst h;exact Mb.yes hb (Dk 2 _ _ _ _ _ (D5 _ _) (D5 _ _) (F5 _ _ _))
 . rw[if_pos h4];rw[if_neg h4]at h;subst h;exact Mb.no rfl (by omega) hb
section
variable {P:Program}
theorem Ag {op:Oper} {a:Act} {w:World} {K:Act->World->Prop} {Q:Exit->Act->World->Prop} (ty:TypeId) (x y:Operand) (ho:op.op=.store ty x y) (g o:Nat) {t:TypeId} {cs:Array Value} (hb:Aj w g t cs) (v:Value)
 (hx:a.eval x=.pointer (some ⟨g,o,none⟩)) (hy:a.eval y=v) (hl:o+v.cells.size<=cs.size) (hi:(P.info? ty).map (·.size)=some v.cells.size) (h1: ∀u ∈ v.cells.toList,u.oneCell'=true)
 {B:Nat} {w0:World} (hB:Below B w0 w) (hg:B<=g) (h: ∀w',Aj w' g t (Ei cs o v.cells.toList)->Below B w0 w'->w'.heap.size=w.heap.size->(∀i,i≠g->w'.heap[i]? =w.heap[i]?)->K (a.put op.dst undef) w'):op.wp P a w K Q:=by
 have ht:w.there g o v.cells.size:=fun j hj=>by
  refine⟨?_,hb.frozen _⟩;rw[hb.cell (o+j),Array.getElem?_eq_getElem (by omega)];rfl
 unfold Oper.wp execOp;simp only[ho,hx,hy,Instr.storeAt,Instr.sureAddr,Sem.run_bind,Sem.run_pure,Result.andThen_ok,La w g o ty v ht hi h1];rw[Ku];exact h _ (Lw _ hb) (At _ hB hg) (Aw _ _ _ _) fun i hi=>Ar _ _ _ _ _ hi
end
structure RC (w:World) (M:Nat) (wr:World) (cs:Array Value):Prop where
 rb:RB w wr B4
 var:Aj wr M Af cs
 ne:w.heap.size<M
theorem RC.call {w wr w':World} {M:Nat} {cs:Array Value} (h:RC w M wr cs) (hb:Below wr.heap.size wr w'):RC w M w' cs:=⟨h.rb.call hb,h.var.below hb h.var.lt,h.ne⟩
theorem RC.put {w wr w':World} {M:Nat} {cs cs':Array Value} (h:RC w M wr cs) (hx:Aj w' M Af cs') (hb:Below w.heap.size w w') (hf: ∀i,i≠M->w'.heap[i]? =wr.heap[i]?):RC w M w' cs':=
 ⟨⟨hb,by have:=h.ne;exact(hf w.heap.size (by omega)).trans h.rb.res⟩,hx,h.ne⟩
theorem Sz {a0 a1 a2 a3 a4 a5 a6 a7 a8 a9 a10 a11 c0 c1 c2 c3 c4 c5 b0 b1 b2 b3 b4 b5 a18:Value}:Ei #[a0,a1,a2,a3,a4,a5,a6,a7,a8,a9,a10,a11,c0,c1,c2,c3,c4,c5,a18] 12 [b0,b1,b2,b3,b4,b5]= #[a0,a1,a2,a3,a4,a5,a6,a7,a8,a9,a10,a11,b0,b1,b2,b3,b4,b5,a18]:=by
 simp only[Ei,tk4,tk6,tk5]
theorem Y9 {a0 a1 a2 a3 a4 c0 c1 c2 c3 c4 c5 b0 b1 b2 b3 b4 b5 a11 a12 a13 a14 a15 a16 a17 a18:Value}:Ei #[a0,a1,a2,a3,a4,c0,c1,c2,c3,c4,c5,a11,a12,a13,a14,a15,a16,a17,a18] 5 [b0,b1,b2,b3,b4,b5]= #[a0,a1,a2,a3,a4,b0,b1,b2,b3,b4,b5,a11,a12,a13,a14,a15,a16,a17,a18]:=by
 simp only[Ei,tk4,tk6,tk5]
theorem Xd {b:Nat} {w:World} {v:Val} {cs:List Value} (h:An b w (dV v) cs): ∃k bb n t la ln lc oa on oc,cs= [.int .i64 k,.bool bb,.int .i64 n,.string t,.slice la ln lc,.slice oa on oc]:=by
 obtain⟨k,bb,n,t,l,o⟩:=v;obtain⟨la,lc,oa,oc,rfl⟩:=Eu h;exact⟨_,_,_,_,_,_,_,_,_,_,rfl⟩
theorem Vw (key:ByteArray) (o:List (ByteArray×Val)):(Av key o).getD zV0=A0 key o:=rfl
theorem S3 (f:Val->Int×Mut) {kd:Int} (hkd:kd=1\/kd=5) (o:List (ByteArray×Val)) (a:Option Addr) (c:Nat) (w:World) (h:Ai w w.heap.size (.row 7 (dO o)) [.slice a o.length c]) (hl:o.length<=100000000) (hb: ∀key x,Av key o=some x->x.bulk<=100000000):
 Calls Tryz.prog 120 #[.slice a o.length c] w (Mb (Bv f kd o) w):=by
 have hI0:RB w (w.alloc (.cells B4 Af)) B4:=⟨(Below.refl _ _).alloc (Nat.le_refl _) _,Aj.new w _ _⟩;obtain⟨wi,hwi⟩: ∃wi,w.alloc (.cells B4 Af)=wi:=⟨_,rfl⟩;rw[hwi]at hI0;have HT:=qz (E6 o a c ⟨#[107,101,121]⟩ wi ((h.below hI0.below).more hI0.below.size) hl);have hz0:=hI0.below.size;obtain⟨RES,hRES⟩: ∃r,Bv f kd o=r:=⟨_,rfl⟩;rw[hRES];rw[K0 f hkd]at hRES;obtain⟨HI0,H,Hb⟩:=hid3 hI0 h hb;clear hI0 h hb;go_enter Tryz.func120,Tryz.ntmps120;go_upto_region 1 with(fail);clear hwi;go_wp2_with (fail);(with_reducible refine(HT.out).mono ?_);rintro e w2 ⟨hb2,rfl⟩;have hI2:=HI0.out.call hb2;have hP2:Below w.heap.size w w2:=hI2.below;rw[Jl,Ko,show(⟨#[107,101,121]⟩:ByteArray)=As from rfl];generalize Cx (A0 As o)=k at hRES ⊢;generalize E1 (A0 As o)=t at hRES ⊢;by_cases h4:k=4;rotate_left
 . rw[if_neg h4];rw[if_pos h4]at hRES;obtain⟨HP2,HRES⟩:=hid2 hP2 hRES;clear hP2 hRES;clear hb2 hI2 h4;go_wp2;exact⟨rfl,Mb.no (by rw[<-HRES.out]) (by omega) HP2.out⟩
 subst h4;rw[if_pos rfl];rw[if_neg (by simp)]at hRES;have hsz2:w.heap.size<w2.heap.size:=hI2.res.lt;have HI3:Hid (RC w w2.heap.size (w2.alloc (.cells (Gp t ⟨#[]⟩) Af)) (Gp t ⟨#[]⟩)):=⟨hI2.call (Aa _ _),Aj.new _ _ _,hsz2⟩;obtain⟨HI2,HRES⟩:=hid2 hI2 hRES;clear hI2 hRES;clear hb2 hP2;dsimp only
 iterate 8 go_step
 refine Cz Af (.tmp 3) (.tmp 6) rfl (cs0:=B4) (Gp t ⟨#[]⟩) rfl rfl rfl (by kernel_rfl) (by simp[Value.oneCell']) ?_;obtain⟨wj,hwj⟩: ∃wj,w2.alloc (.cells (Gp t ⟨#[]⟩) Af)=wj:=⟨_,rfl⟩;have hI4:=HI3.out;rw[hwj]at hI4 ⊢;have hP4:Below w.heap.size w wj:=hI4.rb.below;have HC:=qz (Jb o a c ⟨#[118,97,108,117,101]⟩ wj ((H.out.below hP4).more hP4.size) hl (Hb.out _));have HI4:=qz hI4;clear hI4;clear hwj HI3 hP4;go_upto_region 2 with(fail);go_wp2_with (fail);(with_reducible refine(HC.out).mono ?_);rintro e w5 ⟨hb5,cs5,rfl,hf5⟩;rw[show(⟨#[118,97,108,117,101]⟩:ByteArray)=E3 from rfl,Vw]at hf5;obtain⟨b0,b1,b2,b3,la,ln,lc,oa,on,oc,rfl⟩:=Xd hf5;have HI5:=qz (HI4.out.call hb5);have Hge:=qz HI4.out.var.lt;have Hf5:=qz hf5;clear hf5;clear hb5;dsimp only
 iterate 14 go_step
 refine Ag 42 (.tmp 12) (.tmp 10) rfl w2.heap.size 12 HI5.out.var (.agg #[.int .i64 b0,.bool b1,.int .i64 b2,.string b3,.slice la ln lc,.slice oa on oc]) rfl rfl (Nat.le_of_ble_eq_true rfl) (by kernel_rfl) (by simp[Value.cells,Value.oneCell']) HI5.out.rb.below (Nat.le_of_lt HI5.out.ne) ?_;intro w6 hx6 hb6 hs6 hfar;rw[show(Value.agg #[.int .i64 b0,.bool b1,.int .i64 b2,.string b3,.slice la ln lc,.slice oa on oc]).cells.toList= [.int .i64 b0,.bool b1,.int .i64 b2,.string b3,.slice la ln lc,.slice oa on oc]from by simp only[Value.cells]]at hx6;rw[Sz]at hx6;have hI6:=HI5.out.put hx6 hb6 hfar;have Hf6:Hid (An wj.heap.size w6 (dV (A0 E3 o)) [.int .i64 b0,.bool b1,.int .i64 b2,.string b3,.slice la ln lc,.slice oa on oc]):=Hf5.out.keep (Nat.le_refl _) (by omega) fun p p1 _=>World.cell?_of_block (hfar _ (by have:=Hge.out;omega));have HI6:=qz hI6;clear hI6;clear hx6 hb6 hfar HI5;dsimp only;go_upto_region 3 with(fail)
 iterate 2 go_step
 refine Ae Af (.tmp 3) rfl w2.heap.size _ HI6.out.var rfl _ Tryz.underlying45 rfl (by kernel_rfl) ?_
 iterate 2 go_step
 obtain⟨ca,hca⟩: ∃ca:Array Value, #[.int .i64 0,.string t,.string ⟨#[]⟩,.int .i64 0,.bool false,.int .i64 0,.bool false,.int .i64 0,.string ⟨#[]⟩,.slice none 0 0,.slice none 0 0,.bool false,.int .i64 b0,.bool b1,.int .i64 b2,.string b3,.slice la ln lc,.slice oa on oc,.slice none 0 0]=ca:=⟨_,rfl⟩;have hsc:B4.size=ca.size:=by rw[<-hca];rfl
 have hcc: ∀u ∈ ca.toList,u.oneCell'=true:=by rw[<-hca];simp[Value.oneCell']
 refine Ag (cs:=B4) Af (.tmp 2) (.tmp 13) rfl w.heap.size 0 HI6.out.rb.res (.agg ca) rfl (by rw[<-hca];rfl) (by simp only[Value.cells];rw[<-hsc];exact Nat.le_of_ble_eq_true rfl) (by simp only[Value.cells];rw[<-hsc];kernel_rfl) (by simp only[Value.cells];exact hcc) HI6.out.rb.below (Nat.le_refl _) ?_;intro w7 hx7 hb7 hs7 hfar;rw[show(Value.agg ca).cells=ca from by simp only[Value.cells],B3 B4 ca hsc]at hx7;have hlo:w.heap.size<wj.heap.size:=by have:=Hge.out;have:=HI6.out.ne;omega
 have Hf7:Hid (An w.heap.size w7 (dV (A0 E3 o)) [.int .i64 b0,.bool b1,.int .i64 b2,.string b3,.slice la ln lc,.slice oa on oc]):=Hf6.out.keep (Nat.le_of_lt hlo) (by omega) fun p p1 _=>World.cell?_of_block (hfar _ (by omega));obtain⟨Hx7,Hb7,Hca⟩:=hid3 hx7 hb7 hca;clear hx7 hb7 hca;clear hfar hsc hcc
 repeat go_step
 have hf8:=HRES.out▸Mb.yes' (m:=.mk kd t Ec 0 false L9 false (A0 E3 o) []) rfl Hb7.out (Dk kd t Ec 0 false false (D5 _ _) Hf7.out (F5 _ _ _));exact bodyPost_ret (Cq rfl rfl Hx7.out Tryz.underlying45 rfl (by rw[<-Hca.out];kernel_rfl)) rfl (by rw[<-Hca.out];exact hf8)
theorem Py {f:Val->Int×Mut}: ∀{l r:List Val},(A1 f l).1≠0->(A1 f (l++r)).1=(A1 f l).1
 | [],_,h=>absurd rfl h
 |x::l,r,h=>by
  simp only[List.cons_append,A1]at h ⊢;by_cases h1:(f x).1≠0
  . rw[if_pos h1,if_pos h1]
  . rw[if_neg h1]at h ⊢;rw[if_neg h1];by_cases h2:(A1 f l).1≠0
    . rw[if_pos h2,if_pos (by rw[Py h2];exact h2),Py h2]
    . rw[if_neg h2]at h;exact absurd rfl h
theorem M8 {f:Val->Int×Mut}: ∀{l:List Val} {v:Val},(A1 f l).1=0->A1 f (l++ [v])=if(f v).1≠0 then((f v).1, [])else(0,(A1 f l).2++ [(f v).2])
 | [],v,_=>by
   simp only[List.nil_append,A1];by_cases h1:(f v).1≠0
   . rw[if_pos h1,if_pos h1]
   . rw[if_neg h1,if_neg h1];rfl
 |x::l,v,h=>by
  simp only[List.cons_append,A1]at h ⊢;by_cases h1:(f x).1≠0
  . rw[if_pos h1]at h;exact absurd h h1
  . rw[if_neg h1]at h ⊢;by_cases h2:(A1 f l).1≠0
    . rw[if_pos h2]at h;exact absurd h h2
    . have h0:(A1 f l).1=0:=by simpa using h2
      rw[M8 h0,if_neg h1,if_neg h2];by_cases h3:(f v).1≠0
      . simp[h3]
      . simp only[ne_eq,Decidable.not_not]at h3;simp[h3]
theorem Uv {f:Val->Int×Mut}: ∀{l:List Val},(A1 f l).2.length<=l.length
 | []=>Nat.le_refl _
 |v::l=>by
  unfold A1;have:=Uv (f:=f) (l:=l)
  split
  . exact Nat.zero_le _
  split
  . exact Nat.zero_le _
  . simp only[List.length_cons];omega
theorem Uu {f:Val->Int×Mut} {l:List Val} {q:Nat} {x:Val} (hx:l[q]? =some x) (h0:(A1 f (l.take q)).1=0) (hc:(f x).1≠0):(A1 f l).1=(f x).1:=by
 have e1:l.take (q+1)=l.take q++ [x]:=by rw[List.take_add_one,hx];rfl
 have e2:(A1 f (l.take (q+1))).1=(f x).1:=by rw[e1,M8 h0,if_pos hc]
 have e3:=Py (f:=f) (l:=l.take (q+1)) (r:=l.drop (q+1)) (by rw[e2];exact hc);rw[List.take_append_drop]at e3;rw[e3,e2]
theorem Mz (f:Val->Int×Mut) (o:List (ByteArray×Val)):Bv f 7 o=if Cx (A0 Ja o)≠5 then(9,Jy)else if(A1 f (Jr (A0 Ja o))).1≠0 then((A1 f (Jr (A0 Ja o))).1,Jy)else
 match Av L7 o with
 |none=>(0,.mk 7 Ec Ec 0 false L9 false L9 (A1 f (Jr (A0 Ja o))).2)
 |some g=>Lq g (A1 f (Jr (A0 Ja o))).2:=by
 unfold Bv;rw[if_pos rfl];rfl
abbrev Tnd:TypeId:=135
theorem Ah1 {S:Nat->Prop} {k:Int} {o:List (ByteArray×Val)} {w:World}:I6 S k o [(As,0),(Cp,1)] w=fun e w'=>Below w.heap.size w w'/\
 if k≠6 then e=Fg 9 else if Mg [As] [Cp] o=false then e=Fg 10 else ∃a c,e=.returned (.slice a o.length c)/\Ab (fun i=>S i\/w.heap.size<=i) w' (.row 7 (dO o)) [.slice a o.length c]:=by
 funext e w'
 unfold I6;rw[Ady]
def Te (r:Int×Mut) (w:World) (e:Ending) (w':World):Prop:=Below w.heap.size w w'/\if r.1≠0 then e=Fg r.1 else ∃ca:Array Value,e=.returned (.agg ca)/\An w.heap.size w' (dM r.2) ca.toList
theorem St:(Tryz.prog.info? Af).map (fun i=>(i.zero,i.size,i.bytes))=some (some (.agg B4),19,264):=by kernel_rfl
structure SI (w:World) (M X:Nat) (six:Array Value) (f:Val->Int×Mut) (l:List Val) (q:Nat) (wr:World) (V:Value):Prop where
 rc:RC w M wr #[.int .i64 0,.string ⟨#[]⟩,.string ⟨#[]⟩,.int .i64 0,.bool false,.int .i64 0,.bool false,.int .i64 0,.string ⟨#[]⟩,.slice none 0 0,.slice none 0 0,.bool false,.int .i64 0,.bool false,.int .i64 0,.string ⟨#[]⟩,.slice none 0 0,.slice none 0 0,V]
 box:Aj wr X 42 six
 ge:M<X/\w.heap.size<X
 row:Ej (X+1) Af 19 wr (E2 (A1 f (l.take q)).2) V
theorem SI.call {w:World} {M X:Nat} {six:Array Value} {f:Val->Int×Mut} {l:List Val} {q:Nat} {wr w':World} {V:Value} (h:SI w M X six f l q wr V) (hb:Below wr.heap.size wr w'):SI w M X six f l q w' V:=
 ⟨h.rc.call hb,h.box.below hb h.box.lt,h.ge,h.row.below hb⟩
theorem Aeo (W:World) (a0 a1 a2 a3 a4 a5 a6 a7 a8 a9 a10 a11 a12 a13 a14 a15 a16 a17 a18:Value):(Instr.buildSlice 43 1 #[(0,.agg #[a0,a1,a2,a3,a4,a5,a6,a7,a8,a9,a10,a11,a12,a13,a14,a15,a16,a17,a18])]).run Tryz.prog W=.ok (.slice (some ⟨W.heap.size,0,none⟩) 1 1) (W.alloc (.cells #[a0,a1,a2,a3,a4,a5,a6,a7,a8,a9,a10,a11,a12,a13,a14,a15,a16,a17,a18] Af)):=by kernel_rfl
theorem Agt {ca:Array Value} (h:ca.size=19): ∃a0 a1 a2 a3 a4 a5 a6 a7 a8 a9 a10 a11 a12 a13 a14 a15 a16 a17 a18:Value,ca= #[a0,a1,a2,a3,a4,a5,a6,a7,a8,a9,a10,a11,a12,a13,a14,a15,a16,a17,a18]:=by
 obtain⟨l⟩:=ca;have h':l.length=19:=h
 match l,h' with
 | [a0,a1,a2,a3,a4,a5,a6,a7,a8,a9,a10,a11,a12,a13,a14,a15,a16,a17,a18],_=>exact⟨a0,a1,a2,a3,a4,a5,a6,a7,a8,a9,a10,a11,a12,a13,a14,a15,a16,a17,a18,rfl⟩
theorem Ae7.held {S:Nat->Prop} {w0:World} {o:List (ByteArray×Val)} {key:ByteArray} {w w':World} {e:Ending} (h:Ae7 S w0 o key w e w'):Below w.heap.size w w'/\ ∃k b n t l ob la lc oa oc,(Av key o).getD zV0=.mk k b n t l ob/\
 e=.returned (.tuple #[.agg #[.int .i64 k,.bool b,.int .i64 n,.string t,.slice la (l:List Val).length lc,.slice oa (ob:List (ByteArray×Val)).length oc],.bool (Av key o).isSome])/\
 Ab S w0 (dV (.mk k b n t l ob)) [.int .i64 k,.bool b,.int .i64 n,.string t,.slice la l.length lc,.slice oa ob.length oc]:=by
 obtain⟨hb,h⟩:=h;refine⟨hb, ?_⟩
 cases hf:Av key o with
 |none=>
  rw[hf]at h;exact⟨0,false,0,⟨#[]⟩, [], [],none,0,none,0,rfl,h,Ajt _ _⟩
 |some x=>
  rw[hf]at h;obtain⟨cs,rfl,hh⟩:=h;obtain⟨k,b,n,t,l,ob⟩:=x;obtain⟨la,lc,oa,oc,rfl⟩:=Iy hh;exact⟨k,b,n,t,l,ob,la,lc,oa,oc,rfl,rfl,hh⟩
theorem Tc {op:Oper} {a:Act} {w:World} {K:Act->World->Prop} {Q:Exit->Act->World->Prop} (x:Operand) (ho:op.op=.buildSlice 43 1 #[(0,x)]) {ca:Array Value} (hx:a.eval x=.agg ca) (hc:ca.size=19)
 (h:K (a.put op.dst (.slice (some ⟨w.heap.size,0,none⟩) 1 1)) (w.alloc (.cells ca Af))):op.wp Tryz.prog a w K Q:=by
 obtain⟨a0,a1,a2,a3,a4,a5,a6,a7,a8,a9,a10,a11,a12,a13,a14,a15,a16,a17,a18,rfl⟩:=Agt hc;have hr:=Aeo w a0 a1 a2 a3 a4 a5 a6 a7 a8 a9 a10 a11 a12 a13 a14 a15 a16 a17 a18;unfold Oper.wp execOp;simp only[ho,hx,List.map_toArray,List.map_cons,List.map_nil,Sem.run_bind,Sem.run_pure,Result.andThen_ok,hr];exact h
def Vf (r:Val->Int×Mut) (v:Val):Int×Mut:=
 if Cx v≠6 then(9,Jy)else if Mg [Ao,Ap] [] (B0 v)=false then(10,Jy)else
 if Cx (A0 Ap (B0 v))≠4 then(9,Jy)else
 match Ka (E1 (A0 Ap (B0 v)))with
 |none=>(12,Jy)
 |some k=>
  if Cx (A0 Ao (B0 v))≠6 then(9,Jy)else if Mg (K8 k) (Ad8 k) (B0 (A0 Ao (B0 v)))=false then(10,Jy)else
  Bv r k (B0 (A0 Ao (B0 v)))
theorem Mo (f:Nat) (v:Val):Df (f+1) v=Vf (Df f) v:=rfl
theorem Yh {g:Val} {l:List Mut} (h:(Lq g l).1=0):kM (Lq g l).2=7:=by
 unfold Lq at h ⊢
 split at h
 . cases h
 rename_i h1;rw[if_neg h1]
 split at h
 . cases h
 rename_i h2;rw[if_neg h2]
 split at h
 . cases h
 rename_i h3;rw[if_neg h3]
 split at h
 . cases h
 rename_i h4;rw[if_neg h4];rfl
theorem Aar {f:Val->Int×Mut} {k:Int} {o:List (ByteArray×Val)} (h1:1<=k) (h7:k<=7) (h:(Bv f k o).1=0):kM (Bv f k o).2=k:=by
 rcases(show k=1\/k=2\/k=3\/k=4\/k=5\/k=6\/k=7 by omega)with rfl|rfl|rfl|rfl|rfl|rfl|rfl
 . rw[K0 f (.inl rfl)]at h ⊢
   split at h
   . cases h
   . rename_i h1;rw[if_neg h1];rfl
 . rw[Mx]at h ⊢
   split at h
   . cases h
   . rename_i h1;rw[if_neg h1];rfl
 . rw[My]at h ⊢
   split at h
   . cases h
   rename_i h1;rw[if_neg h1]
   split at h
   . cases h
   . rename_i h1;rw[if_neg h1];rfl
 . rw[Mw]at h ⊢
   split at h
   . cases h
   . rename_i h1;rw[if_neg h1];rfl
 . rw[K0 f (.inr rfl)]at h ⊢
   split at h
   . cases h
   . rename_i h1;rw[if_neg h1];rfl
 . rw[Lh]at h ⊢
   split at h
   . cases h
   rename_i h1;rw[if_neg h1]
   split at h
   . cases h
   . rename_i h1;rw[if_neg h1];rfl
 . rw[Mz]at h ⊢
   split at h
   . cases h
   rename_i h1;rw[if_neg h1]
   split at h
   . rename_i h2;exact absurd h h2
   rename_i h2;rw[if_neg h2]
   cases hf:Av L7 o with
   |none=>rfl
   |some g=>
    rw[hf]at h;exact Yh h
section
variable {α:Type} [DecidableEq α] {f:α->Value} {P:Program} {kt et t:TypeId} {w w':World} {g:Nat} {kv:List (α×Value)}
theorem Vm {op:Oper} {a:Act} {K:Act->World->Prop} {Q:Exit->Act->World->Prop} (t:TypeId) (m x:Operand) (ho:op.op=.lookup t m x true) (Ky:MKey P kt f) (ht:P.underlying t=some (.map kt et)) (h:Ci f w g kv) (hm:a.eval m=.map (some g))
 {k:α} (hx:a.eval x=f k) {z:Value} (hz: ∀w,(zeroValue et).run P w=.ok z w) {o:Option Value} (hv:C4 k kv=o) (hK:K (a.put op.dst (.tuple #[o.getD z,.bool o.isSome])) w):op.wp P a w K Q:=by
 have hrun:=Iv Ky ht h k hz true;rw[hv]at hrun;unfold Oper.wp;simp only[execOp,ho,hm,hx];simp[hrun,Result.andThen];exact hK
end
theorem Tb {P:Program} {op:Oper} {a:Act} {w:World} {K:Act->World->Prop} {Q:Exit->Act->World->Prop} (y x:Operand) {t:TypeId} (ho:op.op=.call {callee:=.value y,args:= #[x],argTypes:= #[t]}) {fn:Nat} {caps:Array Value} (hf:a.eval y=.func (.func fn) #[] caps) {v:Value} (hx:a.eval x=v)
 (hcf: ∀(args:Array Value) (W:World),(callFunc fn args).run P W=.ok (.enter fn args) W)
 (h:Calls P fn (#[v]++caps) w fun e w'=>match e,w' with
   | .returned v,w''=>K (a.put op.dst v) w''
   | .panicked chain,w''=>Q (.panic chain) a w''
   | .outgrown,_=>LetsOut Q):op.wp P a w K Q:=by
 unfold Oper.wp execOp;simp only[ho,resolve,hf,hx,Deferred.ofValue,invoke,Sem.run_bind,Sem.run_pure,Result.andThen_ok,hcf,List.map_toArray,List.map_cons,List.map_nil,Oper.upon_enter];exact h
theorem Q3 (w:World):(zeroValue 129).run Tryz.prog w=.ok (.agg #[.int .i64 0,.slice none 0 0,.nilFunc,.nilFunc]) w:=by kernel_rfl
theorem Ah2 (w:World) (p q:ByteArray) (x y:Int):Fld (w.alloc (.cells #[.string p,.int .i64 x,.string q,.int .i64 y] Tnd)) w.heap.size 0 [(p,x),(q,y)]:=by
 have hnd:=Aj.new w Tnd #[.string p,.int .i64 x,.string q,.int .i64 y];refine⟨hnd.lt,fun j p e=> ?_,fun j p e=> ?_⟩
 . match j,e with
   |0,e=>cases e;exact hnd.cell 0
   |1,e=>cases e;exact hnd.cell 2
   |j+2,e=>simp at e
 . match j,e with
   |0,e=>cases e;exact hnd.cell 1
   |1,e=>cases e;exact hnd.cell 3
   |j+2,e=>simp at e
structure RV (w:World) (six:Array Value) (wr:World):Prop where
 below:Below w.heap.size w wr
 box:Aj wr w.heap.size 42 six
 res:Aj wr (w.heap.size+1) Af B4
theorem RV.call {w wr w':World} {six:Array Value} (h:RV w six wr) (hb:Below wr.heap.size wr w'):RV w six w':=⟨h.below.trans (hb.mono h.below.size),h.box.below hb h.box.lt,h.res.below hb h.res.lt⟩
structure RD (w:World) (six:Array Value) (Y:Nat) (sh:Array Value) (m:Mut) (cs:List Value) (M:Nat) (wx:World):Prop where
 rv:RV w six wx
 var:Aj wx M Af (.int .i64 0::cs).toArray
 sh_:Aj wx Y 129 sh
 ne:w.heap.size+1<M
 neY:M≠Y
 dat:Ab (fun i=>w.heap.size<=i/\i≠M/\i≠w.heap.size+1) wx (dM m) (.int .i64 (kM m)::cs)
 len:cs.length=18
 one: ∀u ∈ cs,u.oneCell'=true
theorem Pa (k:Int) {cs:List Value} (h: ∀u ∈ cs,u.oneCell'=true): ∀u ∈ (Value.int .i64 k::cs).toArray.toList,u.oneCell'=true:=by
 intro u hu;rcases List.mem_cons.1 hu with rfl|hu
 . rfl
 . exact h u hu
theorem Aeg (v:Value) (cs:List Value):Ei (Value.int .i64 0::cs).toArray 0 [v]=(v::cs).toArray:=by
 simp[Ei]
theorem Te.no {r:Int×Mut} {w w':World} {c:Int} (h:r.1=c) (hc:c≠0) (hb:Below w.heap.size w w'):Te r w (Fg c) w':=⟨hb,by rw[if_pos (by omega),h]⟩
theorem Adz {S:Nat->Prop} {k:Int} {o:List (ByteArray×Val)} {w:World}:I6 S k o [(Ao,0),(Ap,0)] w=fun e w'=>Below w.heap.size w w'/\
 if k≠6 then e=Fg 9 else if Mg [Ao,Ap] [] o=false then e=Fg 10 else ∃a c,e=.returned (.slice a o.length c)/\Ab (fun i=>S i\/w.heap.size<=i) w' (.row 7 (dO o)) [.slice a o.length c]:=by
 funext e w'
 unfold I6;rw[Af3]
theorem Af4 {S:Nat->Prop} {k:Int} {kd:Int} (h1:1<=kd) (h7:kd<=7) {o:List (ByteArray×Val)} {w:World}:I6 S k o (Bz kd) w=fun e w'=>Below w.heap.size w w'/\
 if k≠6 then e=Fg 9 else if Mg (K8 kd) (Ad8 kd) o=false then e=Fg 10 else ∃a c,e=.returned (.slice a o.length c)/\Ab (fun i=>S i\/w.heap.size<=i) w' (.row 7 (dO o)) [.slice a o.length c]:=by
 funext e w'
 unfold I6;rw[Af5 h1 h7]
theorem Zo (f:Val->Int×Mut) (o:List (ByteArray×Val)) (a:Option Addr) (c:Nat) (w:World) (h:Ai w w.heap.size (.row 7 (dO o)) [.slice a o.length c]) (hl:o.length<=100000000):
 Calls Tryz.prog 76 #[.slice a o.length c] w (Mb (Bv f 6 o) w):=by
 have hI0:RB w (w.alloc (.cells B4 Af)) B4:=⟨(Below.refl _ _).alloc (Nat.le_refl _) _,Aj.new w _ _⟩;obtain⟨wi,hwi⟩: ∃wi,w.alloc (.cells B4 Af)=wi:=⟨_,rfl⟩;rw[hwi]at hI0;have HT:=qz (E6 o a c ⟨#[102,114,111,109]⟩ wi ((h.below hI0.below).more hI0.below.size) hl);have hz0:=hI0.below.size;obtain⟨RES,hRES⟩: ∃r,Bv f 6 o=r:=⟨_,rfl⟩;rw[hRES];rw[Lh]at hRES;obtain⟨HI0,H⟩:=hid2 hI0 h;clear hI0 h;go_enter Tryz.func76,Tryz.ntmps76;go_upto_region 1 with(fail);clear hwi;go_wp2_with (fail);(with_reducible refine(HT.out).mono ?_);rintro e w2 ⟨hb2,rfl⟩;have hI2:=HI0.out.call hb2;have hP2:Below w.heap.size w w2:=hI2.below;rw[Jl,Ko,show(⟨#[102,114,111,109]⟩:ByteArray)=De from rfl];generalize Cx (A0 De o)=k at hRES ⊢;generalize E1 (A0 De o)=t at hRES ⊢;by_cases h4:k=4
 . subst h4;rw[if_pos rfl];rw[if_neg (by simp)]at hRES;have HT2:=qz (E6 o a c ⟨#[116,111]⟩ w2 ((H.out.below hP2).more hP2.size) hl);have HI2:=qz hI2;clear hI2;clear hb2 hP2;dsimp only;go_upto_region 2 with(fail);go_wp2_with (fail);(with_reducible refine(HT2.out).mono ?_);rintro e w3 ⟨hb3,rfl⟩;have hI3:=HI2.out.call hb3;have hP3:Below w.heap.size w w3:=hI3.below;rw[Jl,Ko,show(⟨#[116,111]⟩:ByteArray)=L8 from rfl];generalize Cx (A0 L8 o)=k at hRES ⊢;generalize E1 (A0 L8 o)=u at hRES ⊢;by_cases h4:k=4
   . subst h4;rw[if_pos rfl];rw[if_neg (by simp)]at hRES;obtain⟨HI3,HP3,HRES⟩:=hid3 hI3 hP3 hRES;clear hI3 hP3 hRES;clear hb3;dsimp only
     iterate 5 go_step
     refine Ff (cs:=B4) Af (.tmp 2) (.tmp 9) rfl w.heap.size 0 HI3.out.res (.agg (Gp t u)) rfl rfl (Nat.le_of_ble_eq_true rfl) (by kernel_rfl) (by simp[Value.cells,Value.oneCell']) HI3.out.below (Nat.le_refl _) ?_;intro w4 hx4 hb4;have hx5:Aj w4 w.heap.size Af (Gp t u):=by
      have hx:=hx4;rw[show(Value.agg (Gp t u)).cells=Gp t u from by simp only[Value.cells],B3 B4 (Gp t u) rfl]at hx;exact hx
     clear hx4;have Hx5:=qz hx5;clear hx5
     repeat go_step
     exact bodyPost_ret (Cq rfl rfl Hx5.out Tryz.underlying45 rfl (by kernel_rfl)) rfl (Mb.yes' HRES.out.symm hb4 (Dk 6 _ _ _ _ _ (D5 _ _) (D5 _ _) (F5 _ _ _)))
   . rw[if_neg h4];rw[if_pos h4]at hRES;obtain⟨HP3,HRES⟩:=hid2 hP3 hRES;clear hP3 hRES;clear hb3 hI3 h4;go_wp2;exact⟨rfl,Mb.no (by rw[<-HRES.out]) (by omega) HP3.out⟩
 . rw[if_neg h4];rw[if_pos h4]at hRES;obtain⟨HP2,HRES⟩:=hid2 hP2 hRES;clear hP2 hRES;clear hb2 hI2 h4;go_wp2;exact⟨rfl,Mb.no (by rw[<-HRES.out]) (by omega) HP2.out⟩
abbrev Y7 (key:ByteArray) (n:Int):Array Value:= #[.int .i64 0,.string key,.string ⟨#[]⟩,.int .i64 n,.bool false,.int .i64 0,.bool false,.int .i64 0,.string ⟨#[]⟩,.slice none 0 0,.slice none 0 0,.bool false,.int .i64 0,.bool false,.int .i64 0,.string ⟨#[]⟩,.slice none 0 0,.slice none 0 0,.slice none 0 0]
theorem Le.held2 {o:List (ByteArray×Val)} {key:ByteArray} {w w':World} {e:Ending} (h:Le o key w e w'):Below w.heap.size w w'/\ ∃la lc oa oc t l ob b,
 e=.returned (.tuple #[.agg #[.int .i64 (Cx (A0 key o)),.bool b,.int .i64 (Ac6 (A0 key o)),.string t,.slice la (l:List Val).length lc,.slice oa (ob:List (ByteArray×Val)).length oc],.bool (Av key o).isSome]):=by
 obtain⟨hb,k,b,n,t,l,ob,la,lc,oa,oc,hg,he,_⟩:=h.held;have hg':A0 key o=.mk k b n t l ob:=hg;refine⟨hb,la,lc,oa,oc,t,l,ob,b, ?_⟩;rw[hg'];exact he
theorem Ab6 (f:Val->Int×Mut) (o:List (ByteArray×Val)) (a:Option Addr) (c:Nat) (w:World) (h:Ai w w.heap.size (.row 7 (dO o)) [.slice a o.length c]) (hl:o.length<=100000000):
 Calls Tryz.prog 72 #[.slice a o.length c] w (Mb (Bv f 3 o) w):=by
 have hI0:RB w (w.alloc (.cells B4 Af)) B4:=⟨(Below.refl _ _).alloc (Nat.le_refl _) _,Aj.new w _ _⟩;obtain⟨wi,hwi⟩: ∃wi,w.alloc (.cells B4 Af)=wi:=⟨_,rfl⟩;rw[hwi]at hI0;have HF:=qz (Ji o a c ⟨#[98,121]⟩ wi ((h.below hI0.below).more hI0.below.size) hl);have HY:=qz (fun W=>Dh 9 W);have HN:=qz (fun W=>Ia 9 W);obtain⟨RES,hRES⟩: ∃r,Bv f 3 o=r:=⟨_,rfl⟩;rw[hRES];rw[My]at hRES;obtain⟨HI0,H⟩:=hid2 hI0 h;clear hI0 h;go_enter Tryz.func72,Tryz.ntmps72;go_upto_region 1 with(fail);clear hwi;go_wp2_with (fail);(with_reducible refine(HF.out).mono ?_);rintro e w2 hp;obtain⟨hb2,la,lc,oa,oc,t,l,ob,b,rfl⟩:=hp.held2;rw[show(⟨#[98,121]⟩:ByteArray)=Na from rfl];generalize Cx (A0 Na o)=k at hRES ⊢;generalize Ac6 (A0 Na o)=n at hRES ⊢;generalize (Av Na o).isSome=B;have hI2:=(HI0.out.call hb2).call (Aa w2 (.cells #[.int .i64 k,.bool b,.int .i64 n,.string t,.slice la l.length lc,.slice oa ob.length oc] 42));have hx2:=Aj.new w2 42 #[.int .i64 k,.bool b,.int .i64 n,.string t,.slice la l.length lc,.slice oa ob.length oc];have hord:w.heap.size<w2.heap.size:=Nat.lt_of_lt_of_le HI0.out.res.lt hb2.size;obtain⟨wj,hwj⟩: ∃wj,w2.alloc (.cells #[.int .i64 k,.bool b,.int .i64 n,.string t,.slice la l.length lc,.slice oa ob.length oc] 42)=wj:=⟨_,rfl⟩;rw[hwj]at hI2 hx2;have hP2:Below w.heap.size w wj:=hI2.below;clear hp hb2 HI0 HF;by_cases h4:k=3;rotate_left
 . have e1:(k==3)=false:=by simpa using h4
   rw[if_pos h4]at hRES;have HP:=qz (Mb.no (r:=RES) (c:=9) (by rw[<-hRES]) (by omega) hP2);have x0:=hx2.cell 0;have xl:=hx2.lt;clear h4 hP2 hI2;go_upto_region 2 with(fail);clear hwj;go_wp2_with (fail);(with_reducible refine(HN.out _).mono ?_);rintro e w3 ⟨rfl,rfl⟩;go_wp2;exact⟨rfl,HP.out⟩
 subst h4;rw[if_neg (by simp)]at hRES;have x0:=hx2.cell 0;have xl:=hx2.lt;have HT:=qz (fun W (hB:Below wj.heap.size wj W)=>E6 o a c ⟨#[107,101,121]⟩ W ((H.out.below (hP2.trans (hB.mono hP2.size))).more (hP2.trans (hB.mono hP2.size)).size) hl);have Hxc:Hid (wj.cell? ⟨w2.heap.size,2,none⟩=some (.int .i64 n)):=hx2.cell 2;obtain⟨HI2,Hx2,Hord⟩:=hid3 hI2 hx2 hord;clear hI2 hx2 hord;clear hP2;go_upto_region 2 with(fail);clear hwj;go_wp2_with (fail);(with_reducible refine(HY.out _).mono ?_);rintro e w3 ⟨rfl,rfl⟩;clear x0;go_upto_region 3 with(fail);refine wp_region_held_drew (S:=fun W=>W.cell? ⟨w2.heap.size,2,none⟩=some (.int .i64 n)) (by kernel_rfl) Hxc.out (fun hHeld=> ?_);refine tkH 0 hHeld ?_;refine tkH 1 hHeld ?_;refine tkH 2 hHeld ?_;refine wpAnyH_ready (rs:= [3]) (by kernel_rfl) (by simp) ?_;refine AllReadyH.cons rfl (fun K hK=> ?_) AllReadyH.nil;go_simp;(with_reducible refine(HT.out _ (Below.drew (Below.refl _ _))).mono ?_);rintro e w4 ⟨hb4,rfl⟩;have hbr:Below w3.heap.size w3 w4:=(Below.drew (Below.refl _ _)).trans hb4;have hI4:=HI2.out.call hbr;have hxc4:w4.cell? ⟨w2.heap.size,2,none⟩=some (.int .i64 n):=(Hx2.out.below hbr Hx2.out.lt).cell 2;rw[Jl,Ko,show(⟨#[107,101,121]⟩:ByteArray)=As from rfl];generalize Cx (A0 As o)=k at hRES ⊢;generalize E1 (A0 As o)=u at hRES ⊢;by_cases h4:k=4;rotate_left
 . rw[if_neg h4];rw[if_pos h4]at hRES;have HP:=qz (Mb.no (r:=RES) (c:=9) (by rw[<-hRES]) (by omega) hI4.below);clear hK hI4 hxc4 h4 hbr hb4;go_wp2;exact⟨rfl,HP.out⟩
 subst h4;rw[if_pos rfl];rw[if_neg (by simp)]at hRES;obtain⟨HI4,Hxc4,HRES⟩:=hid3 hI4 hxc4 hRES;clear hI4 hxc4 hRES;refine hK.out _ _ Hxc4.out (fun hHeld=> ?_);clear hK K hbr hb4
 try simp only[Act.put,tk4,tk5,tk6]
 refine tkH 4 hHeld ?_;refine wpAnyH_ready (rs:= [5]) (by kernel_rfl) (by simp) ?_;refine AllReadyH.cons rfl (fun K hK=> ?_) AllReadyH.nil;refine Ag (cs:=B4) Af (.tmp 2) (.tmp 18) rfl w.heap.size 0 HI4.out.res (.agg (Y7 u n)) rfl rfl (Nat.le_of_ble_eq_true rfl) (by kernel_rfl) (by simp[Value.cells,Value.oneCell']) HI4.out.below (Nat.le_refl _) ?_;intro w5 hx5 hb5 _ hfar;have hx6:Aj w5 w.heap.size Af (Y7 u n):=by
  have hx:=hx5;rw[show(Value.agg (Y7 u n)).cells=Y7 u n from by simp only[Value.cells],B3 B4 (Y7 u n) rfl]at hx;exact hx
 have hxc5:w5.cell? ⟨w2.heap.size,2,none⟩=some (.int .i64 n):=(World.cell?_of_block (a:=⟨w2.heap.size,2,none⟩) (hfar w2.heap.size (by have:=Hord.out;omega))).trans Hxc4.out;clear hx5 hfar;obtain⟨Hx6,Hb5⟩:=hid2 hx6 hb5;clear hx6 hb5;refine hK.out _ _ hxc5 (fun hHeld=> ?_);clear hK K
 try simp only[Act.put]
 refine wpAnyH_done (by kernel_rfl) ?_ _
 repeat go_step
 exact bodyPost_ret (Cq rfl rfl Hx6.out Tryz.underlying45 rfl (by kernel_rfl)) rfl (Mb.yes' HRES.out.symm Hb5.out (Dk 3 _ _ _ _ _ (D5 _ _) (D5 _ _) (F5 _ _ _)))
theorem Abx {a0 a1 a2 a3 a4 a5 a6 a7 a8 a9 a10 a11 a12 a13 a14 a15 a16 a17 a18 x:Value}:Ei #[a0,a1,a2,a3,a4,a5,a6,a7,a8,a9,a10,a11,a12,a13,a14,a15,a16,a17,a18] 11 [x]= #[a0,a1,a2,a3,a4,a5,a6,a7,a8,a9,a10,x,a12,a13,a14,a15,a16,a17,a18]:=by
 simp only[Ei,tk4,tk6,tk5]
theorem U8 {a0 a1 a2 a3 a4 a5 a6 a7 a8 a9 a10 a11 a12 a13 a14 a15 a16 a17 a18 x:Value}:Ei #[a0,a1,a2,a3,a4,a5,a6,a7,a8,a9,a10,a11,a12,a13,a14,a15,a16,a17,a18] 4 [x]= #[a0,a1,a2,a3,x,a5,a6,a7,a8,a9,a10,a11,a12,a13,a14,a15,a16,a17,a18]:=by
 simp only[Ei,tk4,tk6,tk5]
theorem Ab1 (f:Val->Int×Mut) (o:List (ByteArray×Val)) (a:Option Addr) (c:Nat) (w:World) (h:Ai w w.heap.size (.row 7 (dO o)) [.slice a o.length c]) (hl:o.length<=100000000) (hb: ∀key x,Av key o=some x->x.bulk<=100000000):
 Calls Tryz.prog 123 #[.slice a o.length c] w (Mb (Bv f 4 o) w):=by
 have hI0:RB w (w.alloc (.cells B4 Af)) B4:=⟨(Below.refl _ _).alloc (Nat.le_refl _) _,Aj.new w _ _⟩;obtain⟨wi,hwi⟩: ∃wi,w.alloc (.cells B4 Af)=wi:=⟨_,rfl⟩;rw[hwi]at hI0;have HT:=qz (E6 o a c ⟨#[107,101,121]⟩ wi ((h.below hI0.below).more hI0.below.size) hl);have hz0:=hI0.below.size;obtain⟨RES,hRES⟩: ∃r,Bv f 4 o=r:=⟨_,rfl⟩;rw[hRES];rw[Mw f]at hRES;obtain⟨B,hB⟩: ∃B,(Av Kg o).isSome=B:=⟨_,rfl⟩;obtain⟨G,hG⟩: ∃B,(Av Cp o).isSome=B:=⟨_,rfl⟩;rw[hB,hG]at hRES;obtain⟨HI0,H,Hb⟩:=hid3 hI0 h hb;clear hI0 h hb;go_enter Tryz.func123,Tryz.ntmps123;go_upto_region 1 with(fail);clear hwi;go_wp2_with (fail);(with_reducible refine(HT.out).mono ?_);rintro e w2 ⟨hb2,rfl⟩;have hI2:=HI0.out.call hb2;have hP2:Below w.heap.size w w2:=hI2.below;rw[Jl,Ko,show(⟨#[107,101,121]⟩:ByteArray)=As from rfl];generalize Cx (A0 As o)=k at hRES ⊢;generalize E1 (A0 As o)=t at hRES ⊢;by_cases h4:k=4;rotate_left
 . rw[if_neg h4];rw[if_pos h4]at hRES;obtain⟨HP2,HRES⟩:=hid2 hP2 hRES;clear hP2 hRES;clear hb2 hI2 h4;go_wp2;exact⟨rfl,Mb.no (by rw[<-HRES.out]) (by omega) HP2.out⟩
 subst h4;rw[if_pos rfl];rw[if_neg (by simp)]at hRES;have hsz2:w.heap.size<w2.heap.size:=hI2.res.lt;have HI3:Hid (RC w w2.heap.size (w2.alloc (.cells (Gp t ⟨#[]⟩) Af)) (Gp t ⟨#[]⟩)):=⟨hI2.call (Aa _ _),Aj.new _ _ _,hsz2⟩;obtain⟨HI2,HRES⟩:=hid2 hI2 hRES;clear hI2 hRES;clear hb2 hP2;dsimp only
 iterate 8 go_step
 refine Cz Af (.tmp 3) (.tmp 6) rfl (cs0:=B4) (Gp t ⟨#[]⟩) rfl rfl rfl (by kernel_rfl) (by simp[Value.oneCell']) ?_;obtain⟨wj,hwj⟩: ∃wj,w2.alloc (.cells (Gp t ⟨#[]⟩) Af)=wj:=⟨_,rfl⟩;have hI4:=HI3.out;rw[hwj]at hI4 ⊢;have hP4:Below w.heap.size w wj:=hI4.rb.below;have HC:=qz (Jb o a c ⟨#[105,115]⟩ wj ((H.out.below hP4).more hP4.size) hl (Hb.out _));have HI4:=qz hI4;clear hI4;clear hwj HI3 hP4;go_upto_region 2 with(fail);go_wp2_with (fail);(with_reducible refine(HC.out).mono ?_);rintro e w5 ⟨hb5,cs5,rfl,hf5⟩;rw[show(⟨#[105,115]⟩:ByteArray)=Kg from rfl,Vw]at hf5;obtain⟨b0,b1,b2,b3,la,ln,lc,oa,on,oc,rfl⟩:=Xd hf5;have HI5:=qz (HI4.out.call hb5);have Hge:=qz HI4.out.var.lt;have Hf5:=qz hf5;clear hf5;have Hs5:=qz hb5.size;clear hb5;rw[hB];dsimp only
 iterate 14 go_step
 refine Ag 42 (.tmp 12) (.tmp 10) rfl w2.heap.size 12 HI5.out.var (.agg #[.int .i64 b0,.bool b1,.int .i64 b2,.string b3,.slice la ln lc,.slice oa on oc]) rfl rfl (Nat.le_of_ble_eq_true rfl) (by kernel_rfl) (by simp[Value.cells,Value.oneCell']) HI5.out.rb.below (Nat.le_of_lt HI5.out.ne) ?_;intro w6 hx6 hb6 hs6 hfar;rw[show(Value.agg #[.int .i64 b0,.bool b1,.int .i64 b2,.string b3,.slice la ln lc,.slice oa on oc]).cells.toList= [.int .i64 b0,.bool b1,.int .i64 b2,.string b3,.slice la ln lc,.slice oa on oc]from by simp only[Value.cells]]at hx6;rw[Sz]at hx6;have hI6:=HI5.out.put hx6 hb6 hfar;have Hf6:Hid (An wj.heap.size w6 (dV (A0 Kg o)) [.int .i64 b0,.bool b1,.int .i64 b2,.string b3,.slice la ln lc,.slice oa on oc]):=Hf5.out.keep (Nat.le_refl _) (by omega) fun p p1 _=>World.cell?_of_block (hfar _ (by have:=Hge.out;omega));obtain⟨HI6,Hs6⟩:=hid2 hI6 hs6;clear hI6 hs6;clear hx6 hb6 hfar HI5;dsimp only
 iterate 5 go_step
 refine Ag 4 (.tmp 13) (.tmp 11) rfl w2.heap.size 11 HI6.out.var (.bool B) rfl rfl (Nat.le_of_ble_eq_true rfl) (by kernel_rfl) (by simp[Value.cells,Value.oneCell']) HI6.out.rb.below (Nat.le_of_lt HI6.out.ne) ?_;intro w7 hx7 hb7 hs7 hfar;rw[show(Value.bool B).cells.toList= [.bool B]from by simp only[Value.cells]]at hx7;rw[Abx]at hx7;have hI7:=HI6.out.put hx7 hb7 hfar;have Hf7:Hid (An wj.heap.size w7 (dV (A0 Kg o)) [.int .i64 b0,.bool b1,.int .i64 b2,.string b3,.slice la ln lc,.slice oa on oc]):=Hf6.out.keep (Nat.le_refl _) (by omega) fun p p1 _=>World.cell?_of_block (hfar _ (by have:=Hge.out;omega));have HC2:=qz (Jb o a c ⟨#[119,97,115]⟩ w7 ((H.out.below hb7).more hb7.size) hl (Hb.out _));have Hge7:=qz (show wj.heap.size<=w7.heap.size from by have:=Hs6.out;have:=Hs5.out;omega);obtain⟨HI7,Hs7⟩:=hid2 hI7 hs7;clear hI7 hs7;clear hx7 hb7 hfar HI6 Hf6;dsimp only;go_upto_region 3 with(fail);go_wp2_with (fail);(with_reducible refine(HC2.out).mono ?_);rintro e w8 ⟨hb8,cs8,rfl,hf8⟩;rw[show(⟨#[119,97,115]⟩:ByteArray)=Cp from rfl,Vw]at hf8;obtain⟨d0,d1,d2,d3,ma,mn,mc,pa,pn,pc,rfl⟩:=Xd hf8;have HI8:=qz (HI7.out.call hb8);have Hf8i:=qz (Hf7.out.later hb8);have hge8:=hb8.size;have Hf8:=qz hf8;clear hf8;clear hb8 HI7 Hf7;rw[hG];dsimp only
 iterate 14 go_step
 refine Ag 42 (.tmp 19) (.tmp 17) rfl w2.heap.size 5 HI8.out.var (.agg #[.int .i64 d0,.bool d1,.int .i64 d2,.string d3,.slice ma mn mc,.slice pa pn pc]) rfl rfl (Nat.le_of_ble_eq_true rfl) (by kernel_rfl) (by simp[Value.cells,Value.oneCell']) HI8.out.rb.below (Nat.le_of_lt HI8.out.ne) ?_;intro w9 hx9 hb9 hs9 hfar;rw[show(Value.agg #[.int .i64 d0,.bool d1,.int .i64 d2,.string d3,.slice ma mn mc,.slice pa pn pc]).cells.toList= [.int .i64 d0,.bool d1,.int .i64 d2,.string d3,.slice ma mn mc,.slice pa pn pc]from by simp only[Value.cells]]at hx9;rw[Y9]at hx9;have hI9:=HI8.out.put hx9 hb9 hfar;have Hf9:Hid (An w7.heap.size w9 (dV (A0 Cp o)) [.int .i64 d0,.bool d1,.int .i64 d2,.string d3,.slice ma mn mc,.slice pa pn pc]):=Hf8.out.keep (Nat.le_refl _) (by omega) fun p p1 _=>World.cell?_of_block (hfar _ (by have:=Hge.out;have:=Hge7.out;omega));have Hf9i:Hid (An wj.heap.size w9 (dV (A0 Kg o)) [.int .i64 b0,.bool b1,.int .i64 b2,.string b3,.slice la ln lc,.slice oa on oc]):=Hf8i.out.keep (Nat.le_refl _) (by omega) fun p p1 _=>World.cell?_of_block (hfar _ (by have:=Hge.out;omega));obtain⟨HI9,Hs9⟩:=hid2 hI9 hs9;clear hI9 hs9;clear hx9 hb9 hfar HI8 Hf8 Hf8i;dsimp only
 iterate 5 go_step
 refine Ag 4 (.tmp 20) (.tmp 18) rfl w2.heap.size 4 HI9.out.var (.bool G) rfl rfl (Nat.le_of_ble_eq_true rfl) (by kernel_rfl) (by simp[Value.cells,Value.oneCell']) HI9.out.rb.below (Nat.le_of_lt HI9.out.ne) ?_;intro wa hxa hba hsa hfar;rw[show(Value.bool G).cells.toList= [.bool G]from by simp only[Value.cells]]at hxa;rw[U8]at hxa;have hIa:=HI9.out.put hxa hba hfar;have Hfa:Hid (An w7.heap.size wa (dV (A0 Cp o)) [.int .i64 d0,.bool d1,.int .i64 d2,.string d3,.slice ma mn mc,.slice pa pn pc]):=Hf9.out.keep (Nat.le_refl _) (by omega) fun p p1 _=>World.cell?_of_block (hfar _ (by have:=Hge.out;have:=Hge7.out;omega));have Hfai:Hid (An wj.heap.size wa (dV (A0 Kg o)) [.int .i64 b0,.bool b1,.int .i64 b2,.string b3,.slice la ln lc,.slice oa on oc]):=Hf9i.out.keep (Nat.le_refl _) (by omega) fun p p1 _=>World.cell?_of_block (hfar _ (by have:=Hge.out;omega));have HIa:=qz hIa;clear hIa;clear hxa hba hfar HI9 Hf9 Hf9i;dsimp only;go_upto_region 4 with(fail)
 iterate 2 go_step
 refine Ae Af (.tmp 3) rfl w2.heap.size _ HIa.out.var rfl _ Tryz.underlying45 rfl (by kernel_rfl) ?_
 iterate 2 go_step
 obtain⟨ca,hca⟩: ∃ca:Array Value, #[.int .i64 0,.string t,.string ⟨#[]⟩,.int .i64 0,.bool G,.int .i64 d0,.bool d1,.int .i64 d2,.string d3,.slice ma mn mc,.slice pa pn pc,.bool B,.int .i64 b0,.bool b1,.int .i64 b2,.string b3,.slice la ln lc,.slice oa on oc,.slice none 0 0]=ca:=⟨_,rfl⟩;have hsc:B4.size=ca.size:=by rw[<-hca];rfl
 have hcc: ∀u ∈ ca.toList,u.oneCell'=true:=by rw[<-hca];simp[Value.oneCell']
 refine Ag (cs:=B4) Af (.tmp 2) (.tmp 21) rfl w.heap.size 0 HIa.out.rb.res (.agg ca) rfl (by rw[<-hca];rfl) (by simp only[Value.cells];rw[<-hsc];exact Nat.le_of_ble_eq_true rfl) (by simp only[Value.cells];rw[<-hsc];kernel_rfl) (by simp only[Value.cells];exact hcc) HIa.out.rb.below (Nat.le_refl _) ?_;intro wb hxb hbb hsb hfar;rw[show(Value.agg ca).cells=ca from by simp only[Value.cells],B3 B4 ca hsc]at hxb;have hlo:w.heap.size<wj.heap.size:=by have:=Hge.out;have:=HIa.out.ne;omega
 have Hfb:Hid (An w.heap.size wb (dV (A0 Cp o)) [.int .i64 d0,.bool d1,.int .i64 d2,.string d3,.slice ma mn mc,.slice pa pn pc]):=Hfa.out.keep (by have:=Hge7.out;omega) (by omega) fun p p1 _=>World.cell?_of_block (hfar _ (by have:=Hge7.out;omega));have Hfbi:Hid (An w.heap.size wb (dV (A0 Kg o)) [.int .i64 b0,.bool b1,.int .i64 b2,.string b3,.slice la ln lc,.slice oa on oc]):=Hfai.out.keep (Nat.le_of_lt hlo) (by omega) fun p p1 _=>World.cell?_of_block (hfar _ (by omega));obtain⟨Hxb,Hbb,Hca⟩:=hid3 hxb hbb hca;clear hxb hbb hca;clear hfar hsc hcc
 repeat go_step
 have hf8:=HRES.out▸Mb.yes' (m:=.mk 4 t Ec 0 G (A0 Cp o) B (A0 Kg o) []) rfl Hbb.out (Dk 4 t Ec 0 G B Hfb.out Hfbi.out (F5 _ _ _));exact bodyPost_ret (Cq rfl rfl Hxb.out Tryz.underlying45 rfl (by rw[<-Hca.out];kernel_rfl)) rfl (by rw[<-Hca.out];exact hf8)
end Go.Proofs.YtobmaegpfbheoaaGreatDoor
