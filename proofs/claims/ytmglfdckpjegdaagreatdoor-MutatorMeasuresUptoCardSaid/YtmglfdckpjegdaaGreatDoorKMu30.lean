/- Parts: The mutators' reader of cas: what it makes of its members. Condition: at most 10^8 members; values of a bulk of at most 10^8. -/
import Derived.Test.YtmglfdckpjegdaaGreatDoorKMu27
import Derived.Test.YtmglfdckpjegdaaGreatDoorKMu28
set_option maxHeartbeats 20000000
namespace Go.Proofs.YtmglfdckpjegdaaGreatDoor
open Go Go.RowKit
theorem K9 (k:ByteArray) (o:List (ByteArray×Val)):kOf (As k o)=Cf (At k o):=by
 unfold At
 cases As k o with
 |none=>rfl
 |some x=>obtain⟨_,_,_,_,_,_⟩:=x;rfl
theorem Mn (k:ByteArray) (o:List (ByteArray×Val)):tOf (As k o)=Ep (At k o):=by
 unfold At
 cases As k o with
 |none=>rfl
 |some x=>obtain⟨_,_,_,_,_,_⟩:=x;rfl
theorem Yr (k:ByteArray): ∀fs:List (ByteArray×Int),(Ly k fs).isSome=fs.any fun f=>decide (k=f.1)
 | []=>rfl
 |(a,x)::r=>by
  unfold Ly;rw[List.any_cons,<-Yr k r];by_cases h:a=k
  . simp[h]
  . rw[if_neg h,decide_eq_false (fun e=>h e.symm),Bool.false_or]
theorem Jt {fs:List (ByteArray×Int)} {all opt:List ByteArray} (o:List (ByteArray×Val)) (h1: ∀k,(fs.any fun f=>decide (k=f.1))=(all++opt).any fun x=>decide (k=x)) (h2:(fs.all fun f=>(As f.1 o).isSome||decide (f.2=1))=all.all fun x=>(As x o).isSome):Ud o fs=Ji all opt o:=by
 unfold Ud Ji;rw[h2]
 congr 1
 congr 1
 funext p
 rw[Yr,h1]
theorem Alf (o:List (ByteArray×Val)):Ud o [(Ai,0),(An,0)]=Ji [Ai,An] [] o:=Jt o (fun _=>rfl) (by simp)
def Cl (k:Int):List (ByteArray×Int):=if k=1\/k=5 then [(Ar,0),(Fb,0)]else if k=2 then [(Ar,0)]else if k=3 then [(Od,0),(Ar,0)]else if k=6 then [(Dn,0),(Nj,0)]else if k=4 then [(Ln,1),(Ar,0),(C4,1)]else [(Gu,0),(Me,1)]
theorem Alh {k:Int} (h1:1<=k) (h7:k<=7) (o:List (ByteArray×Val)):Ud o (Cl k)=Ji (Ip k) (Ac7 k) o:=by
 rcases(show k=1\/k=2\/k=3\/k=4\/k=5\/k=6\/k=7 by omega)with rfl|rfl|rfl|rfl|rfl|rfl|rfl
 . exact Jt o (fun _=>rfl) (by simp[Cl,Ip])
 . exact Jt o (fun _=>rfl) (by simp[Cl,Ip])
 . exact Jt o (fun _=>rfl) (by simp[Cl,Ip])
 . refine Jt o (fun k=> ?_) (by simp[Cl,Ip]);show(decide (k=Ln)||(decide (k=Ar)||(decide (k=C4)||false)))=(decide (k=Ar)||(decide (k=Ln)||(decide (k=C4)||false)))
   cases decide (k=Ln)<;>cases decide (k=Ar)<;>rfl
 . exact Jt o (fun _=>rfl) (by simp[Cl,Ip])
 . exact Jt o (fun _=>rfl) (by simp[Cl,Ip])
 . exact Jt o (fun _=>rfl) (by simp[Cl,Ip])
theorem Aiu (o:List (ByteArray×Val)):Ud o [(Ar,0),(C4,1)]=Ji [Ar] [C4] o:=Jt o (fun _=>rfl) (by simp)
def kM:Mut->Int
 | .mk k _ _ _ _ _ _ _ _=>k
theorem Au.agg {b:Nat} {w:World} {l:List D} {cs:List Value} (h:Bl b w l cs):Au b w (.agg l) cs:=h
theorem Bl.leaf {b:Nat} {w:World} {v:Value} {l:List D} {cs:List Value} (hv:v.oneCell'=true) (h:Bl b w l cs):Bl b w (.leaf v::l) (v::cs):=fun w'' h1 h2=>⟨[v],cs,rfl,⟨rfl,hv⟩,h w'' h1 h2⟩
theorem Bl.part {b:Nat} {w:World} {d:D} {l:List D} {c1 cs:List Value} (hd:Au b w d c1) (h:Bl b w l cs):Bl b w (d::l) (c1++cs):=fun w'' h1 h2=>⟨c1,cs,rfl,hd w'' h1 h2,h w'' h1 h2⟩
theorem E1 (b:Nat) (w:World):Au b w (dV Jj) [.int .i64 0,.bool false,.int .i64 0,.string ⟨#[]⟩,.slice none 0 0,.slice none 0 0]:=fun _ _ _=>Rk _ _
theorem G7 (b s:Nat) (w:World):Au b w (.row s []) [.slice none 0 0]:=fun _ _ _=>⟨none,0,rfl,(by simp), [],rfl,.inl rfl⟩
theorem Gn {b:Nat} {w:World} (k:Int) (key dst:ByteArray) (n:Int) (had:Bool) {was:Val} (has:Bool) {v:Val} {l:List Mut} {a0 a1 a2 a3 a4 a5 b0 b1 b2 b3 b4 b5 sl:Value} (hw:Au b w (dV was) [a0,a1,a2,a3,a4,a5]) (hv:Au b w (dV v) [b0,b1,b2,b3,b4,b5]) (hl:Au b w (.row 19 (Gw l)) [sl]):
 Au b w (dM (.mk k key dst n had was has v l)) [.int .i64 k,.string key,.string dst,.int .i64 n,.bool had,a0,a1,a2,a3,a4,a5,.bool has,b0,b1,b2,b3,b4,b5,sl]:=by
 unfold dM;exact Au.agg (.leaf rfl (.leaf rfl (.leaf rfl (.leaf rfl (.leaf rfl (.part hw (.leaf rfl (.part hv (.part hl (Bl.nil _ _))))))))))
def On (r:Int×Mut) (w:World) (e:Ending) (w':World):Prop:=Below w.heap.size w w'/\if r.1≠0 then e=Gg r.1 else ∃cs:List Value,e=.returned (.agg (.int .i64 0::cs).toArray)/\Au w.heap.size w' (dM r.2) (.int .i64 (kM r.2)::cs)
theorem On.no {r:Int×Mut} {w w':World} {c:Int} (h:r.1=c) (hc:c≠0) (hb:Below w.heap.size w w'):On r w (Gg c) w':=⟨hb,by rw[if_pos (by omega),h]⟩
theorem On.yes {m:Mut} {w w':World} {cs:List Value} (hb:Below w.heap.size w w') (hf:Au w.heap.size w' (dM m) (.int .i64 (kM m)::cs)):On (0,m) w (.returned (.agg (.int .i64 0::cs).toArray)) w':=⟨hb,by rw[if_neg (by simp)];exact⟨cs,rfl,hf⟩⟩
theorem On.yes' {r:Int×Mut} {m:Mut} {w w':World} {cs:List Value} (h:r=(0,m)) (hb:Below w.heap.size w w') (hf:Au w.heap.size w' (dM m) (.int .i64 (kM m)::cs)):On r w (.returned (.agg (.int .i64 0::cs).toArray)) w':=h▸On.yes hb hf
theorem Ph (f:Val->Int×Mut) (o:List (ByteArray×Val)):Bt f 2 o=if Cf (At Ar o)≠4 then(9,Lp)else(0,.mk 2 (Ep (At Ar o)) Cp 0 false Jj false Jj []):=by
 unfold Bt;rw[if_neg (by omega),if_neg (by omega),if_neg (by omega)];simp only[show ¬((2:Int)=3)by omega,show ¬((2:Int)=4)by omega,if_false,if_true]
theorem Pi (f:Val->Int×Mut) (o:List (ByteArray×Val)):Bt f 3 o=if Cf (At Od o)≠3 then(9,Lp)else if Cf (At Ar o)≠4 then(9,Lp)else(0,.mk 3 (Ep (At Ar o)) Cp (Ac0 (At Od o)) false Jj false Jj []):=by
 unfold Bt;rw[if_neg (by omega),if_neg (by omega)];simp only[true_and,if_true]
theorem Nn (f:Val->Int×Mut) (o:List (ByteArray×Val)):Bt f 6 o=if Cf (At Dn o)≠4 then(9,Lp)else if Cf (At Nj o)≠4 then(9,Lp)else(0,.mk 6 (Ep (At Dn o)) (Ep (At Nj o)) 0 false Jj false Jj []):=by
 unfold Bt;rw[if_neg (by omega),if_pos rfl];by_cases h1:Cf (At Dn o)=4
 . by_cases h2:Cf (At Nj o)=4
   . rw[if_neg (by omega),if_neg (by omega),if_neg (by omega)]
   . rw[if_pos (.inr h2),if_neg (by omega),if_pos h2]
 . rw[if_pos (.inl h1),if_pos h1]
theorem M3 (f:Val->Int×Mut) {k:Int} (hk:k=1\/k=5) (o:List (ByteArray×Val)):Bt f k o=if Cf (At Ar o)≠4 then(9,Lp)else(0,.mk k (Ep (At Ar o)) Cp 0 false Jj false (At Fb o) []):=by
 unfold Bt;rw[if_neg (by omega),if_neg (by omega),if_neg (by omega)];rw[if_neg (show ¬k=3 by omega),if_neg (show ¬k=4 by omega),if_neg (show ¬k=2 by omega)]
theorem Pg (f:Val->Int×Mut) (o:List (ByteArray×Val)):Bt f 4 o=if Cf (At Ar o)≠4 then(9,Lp)else(0,.mk 4 (Ep (At Ar o)) Cp 0 (As C4 o).isSome (At C4 o) (As Ln o).isSome (At Ln o) []):=by
 unfold Bt;rw[if_neg (by omega),if_neg (by omega),if_neg (by omega)];rw[if_neg (show ¬(4:Int)=3 by omega),if_pos rfl]
theorem Ajk (f:Val->Int×Mut) {o:List (ByteArray×Val)} {w w':World} {e:Ending} (h:Ahb o w e w'):On (Bt f 2 o) w e w':=by
 obtain⟨hb,h⟩:=h;rw[show(⟨#[107,101,121]⟩:ByteArray)=Ar from rfl,K9,Mn]at h;rw[Ph];by_cases h4:Cf (At Ar o)=4
 . rw[if_neg (by omega)];rw[if_pos h4]at h;subst h;exact On.yes hb (Gn 2 _ _ _ _ _ (E1 _ _) (E1 _ _) (G7 _ _ _))
 . rw[if_pos h4];rw[if_neg h4]at h;subst h;exact On.no rfl (by omega) hb
section
variable {P:Program}
theorem A4 {op:Oper} {a:Act} {w:World} {K:Act->World->Prop} {Q:Exit->Act->World->Prop} (ty:TypeId) (x y:Operand) (ho:op.op=.store ty x y) (g o:Nat) {t:TypeId} {cs:Array Value} (hb:Al w g t cs) (v:Value)
 (hx:a.eval x=.pointer (some ⟨g,o,none⟩)) (hy:a.eval y=v) (hl:o+v.cells.size<=cs.size) (hi:(P.info? ty).map (·.size)=some v.cells.size) (h1: ∀u ∈ v.cells.toList,u.oneCell'=true)
 {B:Nat} {w0:World} (hB:Below B w0 w) (hg:B<=g) (h: ∀w',Al w' g t (Iw cs o v.cells.toList)->Below B w0 w'->w'.heap.size=w.heap.size->(∀i,i≠g->w'.heap[i]? =w.heap[i]?)->K (a.put op.dst undef) w'):op.wp P a w K Q:=by
 have ht:w.there g o v.cells.size:=fun j hj=>by
  refine⟨?_,hb.frozen _⟩;rw[hb.cell (o+j),Array.getElem?_eq_getElem (by omega)];rfl
 unfold Oper.wp execOp;simp only[ho,hx,hy,Instr.storeAt,Instr.sureAddr,Sem.run_bind,Sem.run_pure,Result.andThen_ok,Nf w g o ty v ht hi h1];rw[Mx];exact h _ (N9 _ hb) (A7 _ hB hg) (A9 _ _ _ _) fun i hi=>A0 _ _ _ _ _ hi
end
structure RC (w:World) (M:Nat) (wr:World) (cs:Array Value):Prop where
 rb:RB w wr Cx
 var:Al wr M Ag cs
 ne:w.heap.size<M
theorem RC.call {w wr w':World} {M:Nat} {cs:Array Value} (h:RC w M wr cs) (hb:Below wr.heap.size wr w'):RC w M w' cs:=⟨h.rb.call hb,h.var.below hb h.var.lt,h.ne⟩
theorem RC.put {w wr w':World} {M:Nat} {cs cs':Array Value} (h:RC w M wr cs) (hx:Al w' M Ag cs') (hb:Below w.heap.size w w') (hf: ∀i,i≠M->w'.heap[i]? =wr.heap[i]?):RC w M w' cs':=
 ⟨⟨hb,by have:=h.ne;exact(hf w.heap.size (by omega)).trans h.rb.res⟩,hx,h.ne⟩
theorem V9 {a0 a1 a2 a3 a4 a5 a6 a7 a8 a9 a10 a11 c0 c1 c2 c3 c4 c5 b0 b1 b2 b3 b4 b5 a18:Value}:Iw #[a0,a1,a2,a3,a4,a5,a6,a7,a8,a9,a10,a11,c0,c1,c2,c3,c4,c5,a18] 12 [b0,b1,b2,b3,b4,b5]= #[a0,a1,a2,a3,a4,a5,a6,a7,a8,a9,a10,a11,b0,b1,b2,b3,b4,b5,a18]:=by
 simp only[Iw,tk4,tk6,tk5]
theorem Adt {a0 a1 a2 a3 a4 c0 c1 c2 c3 c4 c5 b0 b1 b2 b3 b4 b5 a11 a12 a13 a14 a15 a16 a17 a18:Value}:Iw #[a0,a1,a2,a3,a4,c0,c1,c2,c3,c4,c5,a11,a12,a13,a14,a15,a16,a17,a18] 5 [b0,b1,b2,b3,b4,b5]= #[a0,a1,a2,a3,a4,b0,b1,b2,b3,b4,b5,a11,a12,a13,a14,a15,a16,a17,a18]:=by
 simp only[Iw,tk4,tk6,tk5]
theorem Wl {b:Nat} {w:World} {v:Val} {cs:List Value} (h:Au b w (dV v) cs): ∃k bb n t la ln lc oa on oc,cs= [.int .i64 k,.bool bb,.int .i64 n,.string t,.slice la ln lc,.slice oa on oc]:=by
 obtain⟨k,bb,n,t,l,o⟩:=v;obtain⟨la,lc,oa,oc,rfl⟩:=Ge h;exact⟨_,_,_,_,_,_,_,_,_,_,rfl⟩
theorem Aag (key:ByteArray) (o:List (ByteArray×Val)):(As key o).getD zV0=At key o:=rfl
set_option maxRecDepth 100000 in
theorem Wg (f:Val->Int×Mut) {kd:Int} (hkd:kd=1\/kd=5) (o:List (ByteArray×Val)) (a:Option Addr) (c:Nat) (w:World) (h:Holds w w.heap.size (.row 7 (dO o)) [.slice a o.length c]) (hl:o.length<=100000000) (hb: ∀key x,As key o=some x->x.bulk<=100000000):
 Calls Tryz.prog 105 #[.slice a o.length c] w (On (Bt f kd o) w):=by
 have hI0:RB w (w.alloc (.cells Cx Ag)) Cx:=⟨(Below.refl _ _).alloc (Nat.le_refl _) _,Al.new w _ _⟩;obtain⟨wi,hwi⟩: ∃wi,w.alloc (.cells Cx Ag)=wi:=⟨_,rfl⟩;rw[hwi]at hI0;have hT:=F8 o a c ⟨#[107,101,121]⟩ wi ((h.below hI0.below).more hI0.below.size) hl;have hz0:=hI0.below.size;obtain⟨RES,hRES⟩: ∃r,Bt f kd o=r:=⟨_,rfl⟩;rw[hRES];rw[M3 f hkd]at hRES;obtain⟨HI0,HT,H,Hb⟩:=hid4 hI0 hT h hb;clear hI0 hT h hb;go_enter Tryz.func105,Tryz.ntmps105;go_upto_region 1 with(fail);clear hwi;go_wp2_with (fail);(with_reducible refine(HT.out).mono ?_);rintro e w2 ⟨hb2,rfl⟩;have hI2:=HI0.out.call hb2;have hP2:Below w.heap.size w w2:=hI2.below;rw[K9,Mn,show(⟨#[107,101,121]⟩:ByteArray)=Ar from rfl];generalize Cf (At Ar o)=k at hRES ⊢;generalize Ep (At Ar o)=t at hRES ⊢;by_cases h4:k=4;rotate_left
 . rw[if_neg h4];rw[if_pos h4]at hRES;obtain⟨HP2,HRES⟩:=hid2 hP2 hRES;clear hP2 hRES;clear hb2 hI2 h4;go_wp2;exact⟨rfl,On.no (by rw[<-HRES.out]) (by omega) HP2.out⟩
 subst h4;rw[if_pos rfl];rw[if_neg (by simp)]at hRES;have hsz2:w.heap.size<w2.heap.size:=hI2.res.lt;have hI3:RC w w2.heap.size (w2.alloc (.cells (Iz t ⟨#[]⟩) Ag)) (Iz t ⟨#[]⟩):=⟨hI2.call (Aa _ _),Al.new _ _ _,hsz2⟩;obtain⟨HI2,HI3,HRES⟩:=hid3 hI2 hI3 hRES;clear hI2 hI3 hRES;clear hb2 hP2;dsimp only
 iterate 8 go_step
 refine Co Ag (.tmp 3) (.tmp 6) rfl (cs0:=Cx) (Iz t ⟨#[]⟩) rfl rfl rfl (by kernel_rfl) (by simp[Value.oneCell']) ?_;obtain⟨wj,hwj⟩: ∃wj,w2.alloc (.cells (Iz t ⟨#[]⟩) Ag)=wj:=⟨_,rfl⟩;have hI4:=HI3.out;rw[hwj]at hI4 ⊢;have hP4:Below w.heap.size w wj:=hI4.rb.below;have hC:=Kv o a c ⟨#[118,97,108,117,101]⟩ wj ((H.out.below hP4).more hP4.size) hl (Hb.out _);obtain⟨HI4,HC⟩:=hid2 hI4 hC;clear hI4 hC;clear hwj HI3 hP4;go_upto_region 2 with(fail);go_wp2_with (fail);(with_reducible refine(HC.out).mono ?_);rintro e w5 ⟨hb5,cs5,rfl,hf5⟩;rw[show(⟨#[118,97,108,117,101]⟩:ByteArray)=Fb from rfl,Aag]at hf5;obtain⟨b0,b1,b2,b3,la,ln,lc,oa,on,oc,rfl⟩:=Wl hf5;have hI5:=HI4.out.call hb5;have hge:=HI4.out.var.lt;obtain⟨HI5,Hf5,Hge⟩:=hid3 hI5 hf5 hge;clear hI5 hf5 hge;clear hb5;dsimp only
 iterate 14 go_step
 refine A4 27 (.tmp 12) (.tmp 10) rfl w2.heap.size 12 HI5.out.var (.agg #[.int .i64 b0,.bool b1,.int .i64 b2,.string b3,.slice la ln lc,.slice oa on oc]) rfl rfl (Nat.le_of_ble_eq_true rfl) (by kernel_rfl) (by simp[Value.cells,Value.oneCell']) HI5.out.rb.below (Nat.le_of_lt HI5.out.ne) ?_;intro w6 hx6 hb6 hs6 hfar;rw[show(Value.agg #[.int .i64 b0,.bool b1,.int .i64 b2,.string b3,.slice la ln lc,.slice oa on oc]).cells.toList= [.int .i64 b0,.bool b1,.int .i64 b2,.string b3,.slice la ln lc,.slice oa on oc]from by simp only[Value.cells]]at hx6;rw[V9]at hx6;have hI6:=HI5.out.put hx6 hb6 hfar;have hf6:Au wj.heap.size w6 (dV (At Fb o)) [.int .i64 b0,.bool b1,.int .i64 b2,.string b3,.slice la ln lc,.slice oa on oc]:=Hf5.out.keep (Nat.le_refl _) (by omega) fun p p1 _=>World.cell?_of_block (hfar _ (by have:=Hge.out;omega));obtain⟨HI6,Hf6⟩:=hid2 hI6 hf6;clear hI6 hf6;clear hx6 hb6 hfar HI5;dsimp only;go_upto_region 3 with(fail)
 iterate 2 go_step
 refine Ac Ag (.tmp 3) rfl w2.heap.size _ HI6.out.var rfl _ Tryz.underlying30 rfl (by kernel_rfl) ?_
 iterate 2 go_step
 obtain⟨ca,hca⟩: ∃ca:Array Value, #[.int .i64 0,.string t,.string ⟨#[]⟩,.int .i64 0,.bool false,.int .i64 0,.bool false,.int .i64 0,.string ⟨#[]⟩,.slice none 0 0,.slice none 0 0,.bool false,.int .i64 b0,.bool b1,.int .i64 b2,.string b3,.slice la ln lc,.slice oa on oc,.slice none 0 0]=ca:=⟨_,rfl⟩;have hsc:Cx.size=ca.size:=by rw[<-hca];rfl
 have hcc: ∀u ∈ ca.toList,u.oneCell'=true:=by rw[<-hca];simp[Value.oneCell']
 refine A4 (cs:=Cx) Ag (.tmp 2) (.tmp 13) rfl w.heap.size 0 HI6.out.rb.res (.agg ca) rfl (by rw[<-hca];rfl) (by simp only[Value.cells];rw[<-hsc];exact Nat.le_of_ble_eq_true rfl) (by simp only[Value.cells];rw[<-hsc];kernel_rfl) (by simp only[Value.cells];exact hcc) HI6.out.rb.below (Nat.le_refl _) ?_;intro w7 hx7 hb7 hs7 hfar;rw[show(Value.agg ca).cells=ca from by simp only[Value.cells],Dd Cx ca hsc]at hx7;have hlo:w.heap.size<wj.heap.size:=by have:=Hge.out;have:=HI6.out.ne;omega
 have hf7:Au w.heap.size w7 (dV (At Fb o)) [.int .i64 b0,.bool b1,.int .i64 b2,.string b3,.slice la ln lc,.slice oa on oc]:=Hf6.out.keep (Nat.le_of_lt hlo) (by omega) fun p p1 _=>World.cell?_of_block (hfar _ (by omega));obtain⟨Hx7,Hf7,Hb7,Hca⟩:=hid4 hx7 hf7 hb7 hca;clear hx7 hf7 hb7 hca;clear hfar hsc hcc
 repeat go_step
 have hf8:=HRES.out▸On.yes' (m:=.mk kd t Cp 0 false Jj false (At Fb o) []) rfl Hb7.out (Gn kd t Cp 0 false false (E1 _ _) Hf7.out (G7 _ _ _));exact bodyPost_ret (Fj rfl rfl Hx7.out Tryz.underlying30 rfl (by rw[<-Hca.out];kernel_rfl)) rfl (by rw[<-Hca.out];exact hf8)
theorem Si {f:Val->Int×Mut}: ∀{l r:List Val},(A6 f l).1≠0->(A6 f (l++r)).1=(A6 f l).1
 | [],_,h=>absurd rfl h
 |x::l,r,h=>by
  simp only[List.cons_append,A6]at h ⊢;by_cases h1:(f x).1≠0
  . rw[if_pos h1,if_pos h1]
  . rw[if_neg h1]at h ⊢;rw[if_neg h1];by_cases h2:(A6 f l).1≠0
    . rw[if_pos h2,if_pos (by rw[Si h2];exact h2),Si h2]
    . rw[if_neg h2]at h;exact absurd rfl h
theorem Pq {f:Val->Int×Mut}: ∀{l:List Val} {v:Val},(A6 f l).1=0->A6 f (l++ [v])=if(f v).1≠0 then((f v).1, [])else(0,(A6 f l).2++ [(f v).2])
 | [],v,_=>by
   simp only[List.nil_append,A6];by_cases h1:(f v).1≠0
   . rw[if_pos h1,if_pos h1]
   . rw[if_neg h1,if_neg h1];rfl
 |x::l,v,h=>by
  simp only[List.cons_append,A6]at h ⊢;by_cases h1:(f x).1≠0
  . rw[if_pos h1]at h;exact absurd h h1
  . rw[if_neg h1]at h ⊢;by_cases h2:(A6 f l).1≠0
    . rw[if_pos h2]at h;exact absurd h h2
    . have h0:(A6 f l).1=0:=by simpa using h2
      rw[Pq h0,if_neg h1,if_neg h2];by_cases h3:(f v).1≠0
      . simp[h3]
      . simp only[ne_eq,Decidable.not_not]at h3;simp[h3]
theorem Yo {f:Val->Int×Mut}: ∀{l:List Val},(A6 f l).2.length<=l.length
 | []=>Nat.le_refl _
 |v::l=>by
  unfold A6;have:=Yo (f:=f) (l:=l)
  split
  . exact Nat.zero_le _
  split
  . exact Nat.zero_le _
  . simp only[List.length_cons];omega
theorem Yn {f:Val->Int×Mut} {l:List Val} {q:Nat} {x:Val} (hx:l[q]? =some x) (h0:(A6 f (l.take q)).1=0) (hc:(f x).1≠0):(A6 f l).1=(f x).1:=by
 have e1:l.take (q+1)=l.take q++ [x]:=by rw[List.take_add_one,hx];rfl
 have e2:(A6 f (l.take (q+1))).1=(f x).1:=by rw[e1,Pq h0,if_pos hc]
 have e3:=Si (f:=f) (l:=l.take (q+1)) (r:=l.drop (q+1)) (by rw[e2];exact hc);rw[List.take_append_drop]at e3;rw[e3,e2]
theorem Pj (f:Val->Int×Mut) (o:List (ByteArray×Val)):Bt f 7 o=if Cf (At Gu o)≠5 then(9,Lp)else if(A6 f (Im (At Gu o))).1≠0 then((A6 f (Im (At Gu o))).1,Lp)else
 match As Me o with
 |none=>(0,.mk 7 Cp Cp 0 false Jj false Jj (A6 f (Im (At Gu o))).2)
 |some g=>Jp g (A6 f (Im (At Gu o))).2:=by
 unfold Bt;rw[if_pos rfl];rfl
abbrev Tnd:TypeId:=103
theorem Anw {S:Nat->Prop} {k:Int} {o:List (ByteArray×Val)} {w:World}:Kq S k o [(Ar,0),(C4,1)] w=fun e w'=>Below w.heap.size w w'/\
 if k≠6 then e=Gg 9 else if Ji [Ar] [C4] o=false then e=Gg 10 else ∃a c,e=.returned (.slice a o.length c)/\Ae (fun i=>S i\/w.heap.size<=i) w' (.row 7 (dO o)) [.slice a o.length c]:=by
 funext e w'
 unfold Kq;rw[Aiu]
def W7 (r:Int×Mut) (w:World) (e:Ending) (w':World):Prop:=Below w.heap.size w w'/\if r.1≠0 then e=Gg r.1 else ∃ca:Array Value,e=.returned (.agg ca)/\Au w.heap.size w' (dM r.2) ca.toList
theorem Ama:(Tryz.prog.info? Ag).map (fun i=>(i.zero,i.size,i.bytes))=some (some (.agg Cx),19,264):=by kernel_rfl
structure SI (w:World) (M X:Nat) (six:Array Value) (f:Val->Int×Mut) (l:List Val) (q:Nat) (wr:World) (V:Value):Prop where
 rc:RC w M wr #[.int .i64 0,.string ⟨#[]⟩,.string ⟨#[]⟩,.int .i64 0,.bool false,.int .i64 0,.bool false,.int .i64 0,.string ⟨#[]⟩,.slice none 0 0,.slice none 0 0,.bool false,.int .i64 0,.bool false,.int .i64 0,.string ⟨#[]⟩,.slice none 0 0,.slice none 0 0,V]
 box:Al wr X 27 six
 ge:M<X/\w.heap.size<X
 row:Fl (X+1) Ag 19 wr (Gw (A6 f (l.take q)).2) V
theorem SI.call {w:World} {M X:Nat} {six:Array Value} {f:Val->Int×Mut} {l:List Val} {q:Nat} {wr w':World} {V:Value} (h:SI w M X six f l q wr V) (hb:Below wr.heap.size wr w'):SI w M X six f l q w' V:=
 ⟨h.rc.call hb,h.box.below hb h.box.lt,h.ge,h.row.below hb⟩
theorem Ajt (W:World) (a0 a1 a2 a3 a4 a5 a6 a7 a8 a9 a10 a11 a12 a13 a14 a15 a16 a17 a18:Value):(Instr.buildSlice 28 1 #[(0,.agg #[a0,a1,a2,a3,a4,a5,a6,a7,a8,a9,a10,a11,a12,a13,a14,a15,a16,a17,a18])]).run Tryz.prog W=.ok (.slice (some ⟨W.heap.size,0,none⟩) 1 1) (W.alloc (.cells #[a0,a1,a2,a3,a4,a5,a6,a7,a8,a9,a10,a11,a12,a13,a14,a15,a16,a17,a18] Ag)):=by kernel_rfl
theorem Amc {ca:Array Value} (h:ca.size=19): ∃a0 a1 a2 a3 a4 a5 a6 a7 a8 a9 a10 a11 a12 a13 a14 a15 a16 a17 a18:Value,ca= #[a0,a1,a2,a3,a4,a5,a6,a7,a8,a9,a10,a11,a12,a13,a14,a15,a16,a17,a18]:=by
 obtain⟨l⟩:=ca;have h':l.length=19:=h
 match l,h' with
 | [a0,a1,a2,a3,a4,a5,a6,a7,a8,a9,a10,a11,a12,a13,a14,a15,a16,a17,a18],_=>exact⟨a0,a1,a2,a3,a4,a5,a6,a7,a8,a9,a10,a11,a12,a13,a14,a15,a16,a17,a18,rfl⟩
theorem Akd.held {S:Nat->Prop} {w0:World} {o:List (ByteArray×Val)} {key:ByteArray} {w w':World} {e:Ending} (h:Akd S w0 o key w e w'):Below w.heap.size w w'/\ ∃k b n t l ob la lc oa oc,(As key o).getD zV0=.mk k b n t l ob/\
 e=.returned (.tuple #[.agg #[.int .i64 k,.bool b,.int .i64 n,.string t,.slice la (l:List Val).length lc,.slice oa (ob:List (ByteArray×Val)).length oc],.bool (As key o).isSome])/\
 Ae S w0 (dV (.mk k b n t l ob)) [.int .i64 k,.bool b,.int .i64 n,.string t,.slice la l.length lc,.slice oa ob.length oc]:=by
 obtain⟨hb,h⟩:=h;refine⟨hb, ?_⟩
 cases hf:As key o with
 |none=>
  rw[hf]at h;exact⟨0,false,0,⟨#[]⟩, [], [],none,0,none,0,rfl,h,Aft _ _⟩
 |some x=>
  rw[hf]at h;obtain⟨cs,rfl,hh⟩:=h;obtain⟨k,b,n,t,l,ob⟩:=x;obtain⟨la,lc,oa,oc,rfl⟩:=Aqg hh;exact⟨k,b,n,t,l,ob,la,lc,oa,oc,rfl,rfl,hh⟩
set_option maxRecDepth 100000 in
theorem Abo {op:Oper} {a:Act} {w:World} {K:Act->World->Prop} {Q:Exit->Act->World->Prop} (x:Operand) (ho:op.op=.buildSlice 28 1 #[(0,x)]) {ca:Array Value} (hx:a.eval x=.agg ca) (hc:ca.size=19)
 (h:K (a.put op.dst (.slice (some ⟨w.heap.size,0,none⟩) 1 1)) (w.alloc (.cells ca Ag))):op.wp Tryz.prog a w K Q:=by
 obtain⟨a0,a1,a2,a3,a4,a5,a6,a7,a8,a9,a10,a11,a12,a13,a14,a15,a16,a17,a18,rfl⟩:=Amc hc;have hr:=Ajt w a0 a1 a2 a3 a4 a5 a6 a7 a8 a9 a10 a11 a12 a13 a14 a15 a16 a17 a18;unfold Oper.wp execOp;simp only[ho,hx,List.map_toArray,List.map_cons,List.map_nil,Sem.run_bind,Sem.run_pure,Result.andThen_ok,hr];exact h
set_option maxRecDepth 100000 in
theorem Ad8 (f:Val->Int×Mut) (o:List (ByteArray×Val)) (a:Option Addr) (c:Nat) (w:World) (h:Holds w w.heap.size (.row 7 (dO o)) [.slice a o.length c]) (hl:o.length<=100000000):
 Calls Tryz.prog 73 #[.slice a o.length c] w (On (Bt f 6 o) w):=by
 have hI0:RB w (w.alloc (.cells Cx Ag)) Cx:=⟨(Below.refl _ _).alloc (Nat.le_refl _) _,Al.new w _ _⟩;obtain⟨wi,hwi⟩: ∃wi,w.alloc (.cells Cx Ag)=wi:=⟨_,rfl⟩;rw[hwi]at hI0;have hT:=F8 o a c ⟨#[102,114,111,109]⟩ wi ((h.below hI0.below).more hI0.below.size) hl;have hz0:=hI0.below.size;obtain⟨RES,hRES⟩: ∃r,Bt f 6 o=r:=⟨_,rfl⟩;rw[hRES];rw[Nn]at hRES;obtain⟨HI0,HT,H⟩:=hid3 hI0 hT h;clear hI0 hT h;go_enter Tryz.func73,Tryz.ntmps73;go_upto_region 1 with(fail);clear hwi;go_wp2_with (fail);(with_reducible refine(HT.out).mono ?_);rintro e w2 ⟨hb2,rfl⟩;have hI2:=HI0.out.call hb2;have hP2:Below w.heap.size w w2:=hI2.below;rw[K9,Mn,show(⟨#[102,114,111,109]⟩:ByteArray)=Dn from rfl];generalize Cf (At Dn o)=k at hRES ⊢;generalize Ep (At Dn o)=t at hRES ⊢;by_cases h4:k=4
 . subst h4;rw[if_pos rfl];rw[if_neg (by simp)]at hRES;have hT2:=F8 o a c ⟨#[116,111]⟩ w2 ((H.out.below hP2).more hP2.size) hl;obtain⟨HI2,HT2⟩:=hid2 hI2 hT2;clear hI2 hT2;clear hb2 hP2;dsimp only;go_upto_region 2 with(fail);go_wp2_with (fail);(with_reducible refine(HT2.out).mono ?_);rintro e w3 ⟨hb3,rfl⟩;have hI3:=HI2.out.call hb3;have hP3:Below w.heap.size w w3:=hI3.below;rw[K9,Mn,show(⟨#[116,111]⟩:ByteArray)=Nj from rfl];generalize Cf (At Nj o)=k at hRES ⊢;generalize Ep (At Nj o)=u at hRES ⊢;by_cases h4:k=4
   . subst h4;rw[if_pos rfl];rw[if_neg (by simp)]at hRES;obtain⟨HI3,HP3,HRES⟩:=hid3 hI3 hP3 hRES;clear hI3 hP3 hRES;clear hb3;dsimp only
     iterate 5 go_step
     refine Gf (cs:=Cx) Ag (.tmp 2) (.tmp 9) rfl w.heap.size 0 HI3.out.res (.agg (Iz t u)) rfl rfl (Nat.le_of_ble_eq_true rfl) (by kernel_rfl) (by simp[Value.cells,Value.oneCell']) HI3.out.below (Nat.le_refl _) ?_;intro w4 hx4 hb4;have hx5:Al w4 w.heap.size Ag (Iz t u):=by
      have hx:=hx4;rw[show(Value.agg (Iz t u)).cells=Iz t u from by simp only[Value.cells],Dd Cx (Iz t u) rfl]at hx;exact hx
     clear hx4;have Hx5:=Lib.hid hx5;clear hx5
     repeat go_step
     exact bodyPost_ret (Fj rfl rfl Hx5.out Tryz.underlying30 rfl (by kernel_rfl)) rfl (On.yes' HRES.out.symm hb4 (Gn 6 _ _ _ _ _ (E1 _ _) (E1 _ _) (G7 _ _ _)))
   . rw[if_neg h4];rw[if_pos h4]at hRES;obtain⟨HP3,HRES⟩:=hid2 hP3 hRES;clear hP3 hRES;clear hb3 hI3 h4;go_wp2;exact⟨rfl,On.no (by rw[<-HRES.out]) (by omega) HP3.out⟩
 . rw[if_neg h4];rw[if_pos h4]at hRES;obtain⟨HP2,HRES⟩:=hid2 hP2 hRES;clear hP2 hRES;clear hb2 hI2 h4;go_wp2;exact⟨rfl,On.no (by rw[<-HRES.out]) (by omega) HP2.out⟩
theorem Age {a0 a1 a2 a3 a4 a5 a6 a7 a8 a9 a10 a11 a12 a13 a14 a15 a16 a17 a18 x:Value}:Iw #[a0,a1,a2,a3,a4,a5,a6,a7,a8,a9,a10,a11,a12,a13,a14,a15,a16,a17,a18] 11 [x]= #[a0,a1,a2,a3,a4,a5,a6,a7,a8,a9,a10,x,a12,a13,a14,a15,a16,a17,a18]:=by
 simp only[Iw,tk4,tk6,tk5]
theorem Ze {a0 a1 a2 a3 a4 a5 a6 a7 a8 a9 a10 a11 a12 a13 a14 a15 a16 a17 a18 x:Value}:Iw #[a0,a1,a2,a3,a4,a5,a6,a7,a8,a9,a10,a11,a12,a13,a14,a15,a16,a17,a18] 4 [x]= #[a0,a1,a2,a3,x,a5,a6,a7,a8,a9,a10,a11,a12,a13,a14,a15,a16,a17,a18]:=by
 simp only[Iw,tk4,tk6,tk5]
set_option maxRecDepth 100000 in
theorem Agk (f:Val->Int×Mut) (o:List (ByteArray×Val)) (a:Option Addr) (c:Nat) (w:World) (h:Holds w w.heap.size (.row 7 (dO o)) [.slice a o.length c]) (hl:o.length<=100000000) (hb: ∀key x,As key o=some x->x.bulk<=100000000):
 Calls Tryz.prog 108 #[.slice a o.length c] w (On (Bt f 4 o) w):=by
 have hI0:RB w (w.alloc (.cells Cx Ag)) Cx:=⟨(Below.refl _ _).alloc (Nat.le_refl _) _,Al.new w _ _⟩;obtain⟨wi,hwi⟩: ∃wi,w.alloc (.cells Cx Ag)=wi:=⟨_,rfl⟩;rw[hwi]at hI0;have hT:=F8 o a c ⟨#[107,101,121]⟩ wi ((h.below hI0.below).more hI0.below.size) hl;have hz0:=hI0.below.size;obtain⟨RES,hRES⟩: ∃r,Bt f 4 o=r:=⟨_,rfl⟩;rw[hRES];rw[Pg f]at hRES;obtain⟨B,hB⟩: ∃B,(As Ln o).isSome=B:=⟨_,rfl⟩;obtain⟨G,hG⟩: ∃B,(As C4 o).isSome=B:=⟨_,rfl⟩;rw[hB,hG]at hRES;obtain⟨HI0,HT,H,Hb⟩:=hid4 hI0 hT h hb;clear hI0 hT h hb;go_enter Tryz.func108,Tryz.ntmps108;go_upto_region 1 with(fail);clear hwi;go_wp2_with (fail);(with_reducible refine(HT.out).mono ?_);rintro e w2 ⟨hb2,rfl⟩;have hI2:=HI0.out.call hb2;have hP2:Below w.heap.size w w2:=hI2.below;rw[K9,Mn,show(⟨#[107,101,121]⟩:ByteArray)=Ar from rfl];generalize Cf (At Ar o)=k at hRES ⊢;generalize Ep (At Ar o)=t at hRES ⊢;by_cases h4:k=4;rotate_left
 . rw[if_neg h4];rw[if_pos h4]at hRES;obtain⟨HP2,HRES⟩:=hid2 hP2 hRES;clear hP2 hRES;clear hb2 hI2 h4;go_wp2;exact⟨rfl,On.no (by rw[<-HRES.out]) (by omega) HP2.out⟩
 subst h4;rw[if_pos rfl];rw[if_neg (by simp)]at hRES;have hsz2:w.heap.size<w2.heap.size:=hI2.res.lt;have hI3:RC w w2.heap.size (w2.alloc (.cells (Iz t ⟨#[]⟩) Ag)) (Iz t ⟨#[]⟩):=⟨hI2.call (Aa _ _),Al.new _ _ _,hsz2⟩;obtain⟨HI2,HI3,HRES⟩:=hid3 hI2 hI3 hRES;clear hI2 hI3 hRES;clear hb2 hP2;dsimp only
 iterate 8 go_step
 refine Co Ag (.tmp 3) (.tmp 6) rfl (cs0:=Cx) (Iz t ⟨#[]⟩) rfl rfl rfl (by kernel_rfl) (by simp[Value.oneCell']) ?_;obtain⟨wj,hwj⟩: ∃wj,w2.alloc (.cells (Iz t ⟨#[]⟩) Ag)=wj:=⟨_,rfl⟩;have hI4:=HI3.out;rw[hwj]at hI4 ⊢;have hP4:Below w.heap.size w wj:=hI4.rb.below;have hC:=Kv o a c ⟨#[105,115]⟩ wj ((H.out.below hP4).more hP4.size) hl (Hb.out _);obtain⟨HI4,HC⟩:=hid2 hI4 hC;clear hI4 hC;clear hwj HI3 hP4;go_upto_region 2 with(fail);go_wp2_with (fail);(with_reducible refine(HC.out).mono ?_);rintro e w5 ⟨hb5,cs5,rfl,hf5⟩;rw[show(⟨#[105,115]⟩:ByteArray)=Ln from rfl,Aag]at hf5;obtain⟨b0,b1,b2,b3,la,ln,lc,oa,on,oc,rfl⟩:=Wl hf5;have hI5:=HI4.out.call hb5;have hge:=HI4.out.var.lt;obtain⟨HI5,Hf5,Hge⟩:=hid3 hI5 hf5 hge;clear hI5 hf5 hge;have hs5:=hb5.size;have Hs5:=Lib.hid hs5;clear hs5;clear hb5;rw[hB];dsimp only
 iterate 14 go_step
 refine A4 27 (.tmp 12) (.tmp 10) rfl w2.heap.size 12 HI5.out.var (.agg #[.int .i64 b0,.bool b1,.int .i64 b2,.string b3,.slice la ln lc,.slice oa on oc]) rfl rfl (Nat.le_of_ble_eq_true rfl) (by kernel_rfl) (by simp[Value.cells,Value.oneCell']) HI5.out.rb.below (Nat.le_of_lt HI5.out.ne) ?_;intro w6 hx6 hb6 hs6 hfar;rw[show(Value.agg #[.int .i64 b0,.bool b1,.int .i64 b2,.string b3,.slice la ln lc,.slice oa on oc]).cells.toList= [.int .i64 b0,.bool b1,.int .i64 b2,.string b3,.slice la ln lc,.slice oa on oc]from by simp only[Value.cells]]at hx6;rw[V9]at hx6;have hI6:=HI5.out.put hx6 hb6 hfar;have hf6:Au wj.heap.size w6 (dV (At Ln o)) [.int .i64 b0,.bool b1,.int .i64 b2,.string b3,.slice la ln lc,.slice oa on oc]:=Hf5.out.keep (Nat.le_refl _) (by omega) fun p p1 _=>World.cell?_of_block (hfar _ (by have:=Hge.out;omega));obtain⟨HI6,Hf6,Hs6⟩:=hid3 hI6 hf6 hs6;clear hI6 hf6 hs6;clear hx6 hb6 hfar HI5;dsimp only
 iterate 5 go_step
 refine A4 4 (.tmp 13) (.tmp 11) rfl w2.heap.size 11 HI6.out.var (.bool B) rfl rfl (Nat.le_of_ble_eq_true rfl) (by kernel_rfl) (by simp[Value.cells,Value.oneCell']) HI6.out.rb.below (Nat.le_of_lt HI6.out.ne) ?_;intro w7 hx7 hb7 hs7 hfar;rw[show(Value.bool B).cells.toList= [.bool B]from by simp only[Value.cells]]at hx7;rw[Age]at hx7;have hI7:=HI6.out.put hx7 hb7 hfar;have hf7:Au wj.heap.size w7 (dV (At Ln o)) [.int .i64 b0,.bool b1,.int .i64 b2,.string b3,.slice la ln lc,.slice oa on oc]:=Hf6.out.keep (Nat.le_refl _) (by omega) fun p p1 _=>World.cell?_of_block (hfar _ (by have:=Hge.out;omega));have hC2:=Kv o a c ⟨#[119,97,115]⟩ w7 ((H.out.below hb7).more hb7.size) hl (Hb.out _);have hge7:wj.heap.size<=w7.heap.size:=by have:=Hs6.out;have:=Hs5.out;omega
 obtain⟨HI7,Hf7,Hs7,HC2,Hge7⟩:=hid5 hI7 hf7 hs7 hC2 hge7;clear hI7 hf7 hs7 hC2 hge7;clear hx7 hb7 hfar HI6 Hf6;dsimp only;go_upto_region 3 with(fail);go_wp2_with (fail);(with_reducible refine(HC2.out).mono ?_);rintro e w8 ⟨hb8,cs8,rfl,hf8⟩;rw[show(⟨#[119,97,115]⟩:ByteArray)=C4 from rfl,Aag]at hf8;obtain⟨d0,d1,d2,d3,ma,mn,mc,pa,pn,pc,rfl⟩:=Wl hf8;have hI8:=HI7.out.call hb8;have hf8i:=Hf7.out.later hb8;have hge8:=hb8.size;obtain⟨HI8,Hf8,Hf8i⟩:=hid3 hI8 hf8 hf8i;clear hI8 hf8 hf8i;clear hb8 HI7 Hf7;rw[hG];dsimp only
 iterate 14 go_step
 refine A4 27 (.tmp 19) (.tmp 17) rfl w2.heap.size 5 HI8.out.var (.agg #[.int .i64 d0,.bool d1,.int .i64 d2,.string d3,.slice ma mn mc,.slice pa pn pc]) rfl rfl (Nat.le_of_ble_eq_true rfl) (by kernel_rfl) (by simp[Value.cells,Value.oneCell']) HI8.out.rb.below (Nat.le_of_lt HI8.out.ne) ?_;intro w9 hx9 hb9 hs9 hfar;rw[show(Value.agg #[.int .i64 d0,.bool d1,.int .i64 d2,.string d3,.slice ma mn mc,.slice pa pn pc]).cells.toList= [.int .i64 d0,.bool d1,.int .i64 d2,.string d3,.slice ma mn mc,.slice pa pn pc]from by simp only[Value.cells]]at hx9;rw[Adt]at hx9;have hI9:=HI8.out.put hx9 hb9 hfar;have hf9:Au w7.heap.size w9 (dV (At C4 o)) [.int .i64 d0,.bool d1,.int .i64 d2,.string d3,.slice ma mn mc,.slice pa pn pc]:=Hf8.out.keep (Nat.le_refl _) (by omega) fun p p1 _=>World.cell?_of_block (hfar _ (by have:=Hge.out;have:=Hge7.out;omega));have hf9i:Au wj.heap.size w9 (dV (At Ln o)) [.int .i64 b0,.bool b1,.int .i64 b2,.string b3,.slice la ln lc,.slice oa on oc]:=Hf8i.out.keep (Nat.le_refl _) (by omega) fun p p1 _=>World.cell?_of_block (hfar _ (by have:=Hge.out;omega));obtain⟨HI9,Hf9,Hf9i,Hs9⟩:=hid4 hI9 hf9 hf9i hs9;clear hI9 hf9 hf9i hs9;clear hx9 hb9 hfar HI8 Hf8 Hf8i;dsimp only
 iterate 5 go_step
 refine A4 4 (.tmp 20) (.tmp 18) rfl w2.heap.size 4 HI9.out.var (.bool G) rfl rfl (Nat.le_of_ble_eq_true rfl) (by kernel_rfl) (by simp[Value.cells,Value.oneCell']) HI9.out.rb.below (Nat.le_of_lt HI9.out.ne) ?_;intro wa hxa hba hsa hfar;rw[show(Value.bool G).cells.toList= [.bool G]from by simp only[Value.cells]]at hxa;rw[Ze]at hxa;have hIa:=HI9.out.put hxa hba hfar;have hfa:Au w7.heap.size wa (dV (At C4 o)) [.int .i64 d0,.bool d1,.int .i64 d2,.string d3,.slice ma mn mc,.slice pa pn pc]:=Hf9.out.keep (Nat.le_refl _) (by omega) fun p p1 _=>World.cell?_of_block (hfar _ (by have:=Hge.out;have:=Hge7.out;omega));have hfai:Au wj.heap.size wa (dV (At Ln o)) [.int .i64 b0,.bool b1,.int .i64 b2,.string b3,.slice la ln lc,.slice oa on oc]:=Hf9i.out.keep (Nat.le_refl _) (by omega) fun p p1 _=>World.cell?_of_block (hfar _ (by have:=Hge.out;omega));obtain⟨HIa,Hfa,Hfai⟩:=hid3 hIa hfa hfai;clear hIa hfa hfai;clear hxa hba hfar HI9 Hf9 Hf9i;dsimp only;go_upto_region 4 with(fail)
 iterate 2 go_step
 refine Ac Ag (.tmp 3) rfl w2.heap.size _ HIa.out.var rfl _ Tryz.underlying30 rfl (by kernel_rfl) ?_
 iterate 2 go_step
 obtain⟨ca,hca⟩: ∃ca:Array Value, #[.int .i64 0,.string t,.string ⟨#[]⟩,.int .i64 0,.bool G,.int .i64 d0,.bool d1,.int .i64 d2,.string d3,.slice ma mn mc,.slice pa pn pc,.bool B,.int .i64 b0,.bool b1,.int .i64 b2,.string b3,.slice la ln lc,.slice oa on oc,.slice none 0 0]=ca:=⟨_,rfl⟩;have hsc:Cx.size=ca.size:=by rw[<-hca];rfl
 have hcc: ∀u ∈ ca.toList,u.oneCell'=true:=by rw[<-hca];simp[Value.oneCell']
 refine A4 (cs:=Cx) Ag (.tmp 2) (.tmp 21) rfl w.heap.size 0 HIa.out.rb.res (.agg ca) rfl (by rw[<-hca];rfl) (by simp only[Value.cells];rw[<-hsc];exact Nat.le_of_ble_eq_true rfl) (by simp only[Value.cells];rw[<-hsc];kernel_rfl) (by simp only[Value.cells];exact hcc) HIa.out.rb.below (Nat.le_refl _) ?_;intro wb hxb hbb hsb hfar;rw[show(Value.agg ca).cells=ca from by simp only[Value.cells],Dd Cx ca hsc]at hxb;have hlo:w.heap.size<wj.heap.size:=by have:=Hge.out;have:=HIa.out.ne;omega
 have hfb:Au w.heap.size wb (dV (At C4 o)) [.int .i64 d0,.bool d1,.int .i64 d2,.string d3,.slice ma mn mc,.slice pa pn pc]:=Hfa.out.keep (by have:=Hge7.out;omega) (by omega) fun p p1 _=>World.cell?_of_block (hfar _ (by have:=Hge7.out;omega));have hfbi:Au w.heap.size wb (dV (At Ln o)) [.int .i64 b0,.bool b1,.int .i64 b2,.string b3,.slice la ln lc,.slice oa on oc]:=Hfai.out.keep (Nat.le_of_lt hlo) (by omega) fun p p1 _=>World.cell?_of_block (hfar _ (by omega));obtain⟨Hxb,Hfb,Hfbi,Hbb,Hca⟩:=hid5 hxb hfb hfbi hbb hca;clear hxb hfb hfbi hbb hca;clear hfar hsc hcc
 repeat go_step
 have hf8:=HRES.out▸On.yes' (m:=.mk 4 t Cp 0 G (At C4 o) B (At Ln o) []) rfl Hbb.out (Gn 4 t Cp 0 G B Hfb.out Hfbi.out (G7 _ _ _));exact bodyPost_ret (Fj rfl rfl Hxb.out Tryz.underlying30 rfl (by rw[<-Hca.out];kernel_rfl)) rfl (by rw[<-Hca.out];exact hf8)
end Go.Proofs.YtmglfdckpjegdaaGreatDoor
