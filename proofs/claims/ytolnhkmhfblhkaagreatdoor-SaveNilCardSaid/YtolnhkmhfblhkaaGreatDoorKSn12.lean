/- Parts: frame.Body: the body of a frame of a kind, or why there is none. Condition: at most 10^9 bytes, room for them. -/
import Derived.Deep.RegionHeld3
import Derived.Test.YtolnhkmhfblhkaaGreatDoorKSn6
import Derived.Test.YtolnhkmhfblhkaaGreatDoorKSn10
import Derived.Test.YtolnhkmhfblhkaaGreatDoorKSn11
set_option maxHeartbeats 20000000
set_option maxRecDepth 100000
namespace Go.Proofs.YtolnhkmhfblhkaaGreatDoor
open Go Go.RowKit
def Ce (r:Option (List UInt8)) (w:World) (e:Ending) (w':World):Prop:=Below w.heap.size w w'/\match r with
 |none=>e=.returned (.tuple #[.slice none 0 0,.bool false])
 |some x=> ∃a c,e=.returned (.tuple #[.slice a x.length (x.length+c),.bool true])/\Av w.heap.size w' (.row 1 (dB x)) [.slice a x.length (x.length+c)]
theorem Ce.no {w w':World} {r:Option (List UInt8)} (h:r=none) (hb:Below w.heap.size w w'):Ce r w (.returned (.tuple #[.slice none 0 0,.bool false])) w':=by
 subst h;exact⟨hb,rfl⟩
theorem Iw (l:List UInt8) (a:Option Addr) (n c:Nat) (w:World) (h:Ac w w.heap.size (.row 1 (dB l)) [.slice a n c]) (hc:n<=c) (hl:l.length<=1000000000):
 Calls Tryz.prog 73 #[.slice a n c] w (Ce (Cg l) w):=by
 obtain rfl:=Jr h;by_cases h4:l.length<4
 . have hno:Cg l=none:=by
    unfold Cg En;rw[decide_eq_false (by omega)];rfl
   have e1:(l.length:Int)<4:=by omega
   obtain⟨Hno,H⟩:=hid2 hno h;clear hno h;clear h4;go_enter Tryz.func73,Tryz.ntmps73;go_wp2;go_ret2;exact Ce.no Hno.out (Below.refl _ _)
 . obtain⟨m,hm⟩: ∃m,l.length=m+4:=⟨l.length - 4,by omega⟩;have hN:=K2 (l:=l.drop m) (by rw[List.length_drop];omega);obtain⟨p,q,r,s,hd⟩:=hN;have hF:=Kd h m (by omega) c;have hS:En l=decide (Ap 0 (l.take m)=Fm [p,q,r,s]):=by
    unfold En;rw[show l.length - 4=m from by omega,hd,decide_eq_true (by omega:4<=l.length)];rfl
   have hO:Cg l=if Ap 0 (l.take m)=Fm [p,q,r,s]then some (l.take m)else none:=by
    unfold Cg;rw[hS,show l.length - 4=m from by omega];simp only[decide_eq_true_eq]
   rw[Im]at hO;obtain⟨g,off,ea,hg,hcell⟩:=(Ev h).resolve_left (by rintro rfl;simp at hm);subst ea;have hat: ∀j x, [p,q,r,s][j]? =some x->w.cell? ⟨g,off+m+j,none⟩=some (.int .u8 x.toNat):=by
    intro j x hx;rw[Nat.add_assoc];refine hcell (m+j) x ?_;rw[<-List.getElem?_drop,hd];exact hx
   have c0:w.cell? ⟨g,off+m,none⟩=some (.int .u8 p.toNat):=hat 0 p rfl;have c1:=hat 1 q rfl;have c2:=hat 2 r rfl;have c3:=hat 3 s rfl;have hp:=p.toNat_lt;have hq:=q.toNat_lt;have hr:=r.toNat_lt;have hs:=s.toNat_lt;generalize p.toNat=P at*
   generalize q.toNat=Q at*
   generalize r.toNat=R at*
   generalize s.toNat=S at*
   have f1:=L3 P Q (by omega) (by omega);obtain⟨X1,hX1⟩: ∃X,P+Q*256=X:=⟨_,rfl⟩;obtain⟨X2,hX2⟩: ∃X,X1+R*65536=X:=⟨_,rfl⟩;have f2:=Lm X1 R (by omega) (by omega);have f3:=L1 X2 S (by omega) (by omega);rw[hX1]at f1 hO;rw[hX2]at f2 hO;have f0:bits .or .u32 0 (P:Int)=(P:Int):=by simpa using u32_or_nat 0 P (by omega) (by omega)
   have hlm:(l.take m).length=m:=by rw[List.length_take];omega
   obtain⟨T,hT⟩: ∃T,l.take m=T:=⟨_,rfl⟩;rw[hT]at hO hF hlm;obtain⟨U,hU⟩: ∃U,X2+S*16777216=U:=⟨_,rfl⟩;rw[hU]at hO f3;have hC:=fun nq=>Fs T (some ⟨g,off,none⟩) m c (w.drewN nq) (hF.below (Cd (Below.refl _ _) nq)) (by omega);have hcl:=Df 0 T;generalize Ap 0 T=V at hC hO hcl;rw[hm]at hc hl ⊢;have z1:((m+4:Nat):Int) - 4=(m:Int):=by omega
   have z2: ¬((m+4:Nat):Int)<4:=by omega
   have z3: ¬c=m:=by omega
   have z4:(m:Int)<=((m+4:Nat):Int):=by omega
   have z5:(m:Int)<=(c:Int):=by omega
   obtain⟨H,HF,HC,HO,HT,HU,Hcell,HX1,HX2,Hlm⟩:=hid10 h hF hC hO hT hU hcell hX1 hX2 hlm;clear h hF hC hO hT hU hcell hX1 hX2 hlm;clear h4 hS hd hat hm hg;go_enter Tryz.func73,Tryz.ntmps73;go_wp2;go_quiet (fail);go_wp2_with (fail);refine wp_loop_rounds 5 ?_;rw[rounds_succ];go_wp2;rw[rounds_succ];go_wp2;rw[rounds_succ];go_wp2;rw[rounds_succ];go_wp2;rw[rounds_succ];go_wp2_with (fail);(with_reducible refine(HC.out _).mono ?_);rintro e w2 ⟨rfl,hb⟩;have hb0:Below w.heap.size w w2:=(Cd (Below.refl _ _) nq).trans hb;have hO:=HO.out;have hF:=HF;have hlm:=Hlm.out;by_cases hVU:V=U
   . rw[if_pos hVU]at hO;subst hVU;have Hown0:Hid ((w2.alloc (.cells #[] 5)).ownsRow w.heap.size 5 1 (.slice (some ⟨w2.heap.size,0,none⟩) 0 0) ([]:List UInt8).length (Ah [])):=World.ownsRow_lit w2 #[] 0 hb0.size (by simp[maxLen]) rfl;have HR0:=qz (((Ct (hF.out.below hb0)).2).alloc hb0.size (.cells #[] 5));obtain⟨Hb0,HO⟩:=hid2 hb0 hO;clear hb0 hO;clear hb;go_wp2_with (at_builtin;apply Shut.out);unfold Shut;refine Ai rfl (.tmp 41) (.tmp 42) 30 30 5 rfl Tryz.underlying30 Tryz.underlying30 w.heap.size (.slice (some ⟨w2.heap.size,0,none⟩) 0 0) [] rfl Hown0.out w.heap.size (some ⟨g,off,none⟩) m c T rfl HR0.out (by simp;omega) (by have:=Hb0.out.size;simp;omega) ?_;intro v1 w1 hown1 hg1 hat1;have hb1:Below w.heap.size w w1:=(Hb0.out.alloc Hb0.out.size _).grown hg1 (by have:=Hb0.out.size;simp;omega) (by simp[Value.ownBlock];exact Hb0.out.size);obtain⟨a1,c1,rfl,hf1⟩:=Dz (l:=T) hown1;have hP:Ce (Cg l) w (.returned (.tuple #[.slice a1 T.length (T.length+c1),.bool true])) w1:=by rw[HO.out];exact⟨hb1,a1,c1,rfl,hf1⟩
     rw[hlm]at hP;have HP:=qz hP;clear hP;clear hown1 hg1 hat1;go_wp2;go_ret2;exact HP.out
   . rw[if_neg hVU]at hO;have e1:((V:Int) != (U:Int))=true:=by simp;omega
     obtain⟨Hb0,HO⟩:=hid2 hb0 hO;clear hb0 hO;clear hVU hb;go_wp2;go_ret2;exact Ce.no HO.out Hb0.out
def Kc (r:Option (List UInt8)) (w:World) (e:Ending) (w':World):Prop:=Below w.heap.size w w'/\match r with
 |none=>e=.returned (.tuple #[.agg #[.int .u8 0,.slice none 0 0],.int .i64 11])
 |some []=>e=.returned (.tuple #[.agg #[.int .u8 0,.slice none 0 0],.int .i64 11])
 |some (x::t)=> ∃a c,e=.returned (.tuple #[.agg #[.int .u8 x.toNat,.slice a t.length (t.length+c)],.int .i64 0])/\Av w.heap.size w' (.row 1 (dB t)) [.slice a t.length (t.length+c)]
theorem Bl {fn:Func} {t u:Tmp} {tmps:Array Value} {W:World} {R:Nat} {a0 a1:Value} (h:fn.results= #[.cell t 98,.tmp u]) (hp:tmps.getD t undef=.pointer (some ⟨R,0,none⟩)) (hx:As W R 98 #[a0,a1]):
 (results fn tmps).run Tryz.prog W=.ok (.tuple #[.agg #[a0,a1],tmps.getD u undef]) W:=by
 have c0:=hx.cell 0;have c1:=hx.cell 1;simp at c0 c1;clear hx;have hp':tmps[t]?.getD undef=.pointer (some ⟨R,0,none⟩):=by simpa using hp
 simp[results,h,hp',go_sem,c0,c1]
theorem Ie {b g off n c c':Nat} {w':World} {x:UInt8} {t:List UInt8} (h:Av b w' (.row 1 (dB (x::t))) [.slice (some ⟨g,off,none⟩) n c]):Av b w' (.row 1 (dB t)) [.slice (some ⟨g,off+1,none⟩) t.length c']:=by
 intro w'' k1 k2;refine H8 rfl ?_;obtain⟨g',off',e,hg,hc⟩:=(Ev (h w'' k1 k2)).resolve_left (by simp);simp only[Option.some.injEq,Addr.mk.injEq,and_true]at e;obtain⟨rfl,rfl⟩:=e;refine .inr ⟨_,_,rfl,hg,fun j y hy=> ?_⟩;rw[Nat.add_assoc,Nat.add_comm 1 j];exact hc (j+1) y (by simpa using hy)
theorem Ju {b:Nat} {w':World} {a:Option Addr} {c:Nat}:Av b w' (.row 1 (dB [])) [.slice a 0 c]:=fun _ _ _=>H8 rfl (.inl rfl)
abbrev D1:Array Value:= #[.int .u8 0,.slice none 0 0]
theorem Gp (l:List UInt8) (a:Option Addr) (n c:Nat) (w:World) (h:Ac w w.heap.size (.row 1 (dB l)) [.slice a n c]) (hc:n<=c) (hl:l.length<=1000000000):
 Calls Tryz.prog 40 #[.slice a n c] w (Kc (Cg l) w):=by
 have hB0:Below w.heap.size w (w.alloc (.cells D1 98)):=(Below.refl _ _).alloc (Nat.le_refl _) _;have hC:=Iw l a n c (w.alloc (.cells D1 98)) ((h.below hB0).more hB0.size) hc hl;obtain⟨O,hO⟩: ∃O,Cg l=O:=⟨_,rfl⟩;rw[hO]at hC ⊢;have Hbx:=qz (As.new w 98 D1);obtain⟨HC,HO,H,HB0⟩:=hid4 hC hO h hB0;clear hC hO h hB0;go_enter Tryz.func40,Tryz.ntmps40;go_wp2_with (fail);(with_reducible refine(HC.out).mono ?_);rintro e w2 ⟨hb2,hr⟩;have hx2:=Hbx.out.below hb2 Hbx.out.lt;have hw2:=HB0.out.trans (hb2.mono HB0.out.size);have r0:=hx2.cell 0;have r1:=hx2.cell 1;have fz:=hx2.frozen;have hlt:=hx2.lt;have hno:=(hx2.set_ 0 (.int .u8 0)).set_ 1 (.slice none 0 0);have hnb:=(hw2.setCell (p:=⟨w.heap.size,0,none⟩) (Nat.le_refl _) (.int .u8 0)).setCell (p:=⟨w.heap.size,1,none⟩) (Nat.le_refl _) (.slice none 0 0)
 match O,hr with
 |none,hr=>
  obtain rfl:=hr;obtain⟨Hx2,Hw2,Hno,Hnb⟩:=hid4 hx2 hw2 hno hnb;clear hx2 hw2 hno hnb;clear hb2;go_wp2;exact bodyPost_ret (Bl rfl rfl Hno.out) rfl ⟨Hnb.out,rfl⟩
 |some [],hr=>
  obtain⟨a1,c1,rfl,hf⟩:=hr;obtain⟨Hx2,Hw2,Hno,Hnb,Hf⟩:=hid5 hx2 hw2 hno hnb hf;clear hx2 hw2 hno hnb hf;clear hb2;go_wp2;exact bodyPost_ret (Bl rfl rfl Hno.out) rfl ⟨Hnb.out,rfl⟩
 |some (x::t),hr=>
  obtain⟨a1,c1,rfl,hf⟩:=hr;obtain⟨g,off,rfl,hg,hcell⟩:=Eu hf.now (i:=0) (x:=x) rfl;have hcell:w2.cell? ⟨g,off,none⟩=some (.int .u8 x.toNat):=hcell;have hln:(x::t).length=t.length+1:=rfl;rw[hln];have z0: ¬(t.length:Int)+1=0:=by omega
  have z2:(((t.length:Int)+1)==0)=false:=by simpa using z0
  have hff:=fun(v1 v2:Value) (d:List UInt8) (cs:List Value) (h:Av (w.alloc (.cells D1 98)).heap.size w2 (.row 1 (dB d)) cs)=>(h.keep (b':=w.heap.size) (w':=((w2.setCell ⟨w.heap.size,0,none⟩ v1).setCell ⟨w.heap.size,1,none⟩ v2).drew) (by simp) (Nat.le_of_eq (by simp[World.setCell])) fun p p1 p2=>World.cell?_of_block (by
   have p1':w.heap.size+1<=p.block:=by simpa using p1
   show((w2.setCell ⟨w.heap.size,0,none⟩ v1).setCell ⟨w.heap.size,1,none⟩ v2).heap[p.block]? =_;exact(Below.heap_setCell _ _ _ _ (by simp;omega)).trans (Below.heap_setCell _ _ _ _ (by simp;omega))))
  by_cases hz:t.length+c1=0
  . obtain rfl:t= []:=List.eq_nil_of_length_eq_zero (by omega);obtain rfl:c1=0:=by omega
    have Hyes:=qz ((hx2.set_ 0 (.int .u8 x.toNat)).set_ 1 (.slice (some ⟨g,off,none⟩) 0 0));have Hyb:=qz ((hw2.setCell (p:=⟨w.heap.size,0,none⟩) (Nat.le_refl _) (.int .u8 x.toNat)).setCell (p:=⟨w.heap.size,1,none⟩) (Nat.le_refl _) (.slice (some ⟨g,off,none⟩) 0 0));obtain⟨Hx2,Hw2,Hf,Hno,Hnb,Hff⟩:=hid6 hx2 hw2 hf hno hnb hff;clear hx2 hw2 hf hno hnb hff;clear hb2 hln;go_wp2;go_region
    all_goals
     go_wp2;exact bodyPost_ret (Bl rfl rfl Hyes.out) rfl ⟨Hyb.out.drew,_,0,rfl,Ju⟩
  . have hyes:=((hx2.set_ 0 (.int .u8 x.toNat)).set_ 1 (.slice (some ⟨g,off+1,none⟩) t.length (t.length+c1)));have Hyb:=qz ((hw2.setCell (p:=⟨w.heap.size,0,none⟩) (Nat.le_refl _) (.int .u8 x.toNat)).setCell (p:=⟨w.heap.size,1,none⟩) (Nat.le_refl _) (.slice (some ⟨g,off+1,none⟩) t.length (t.length+c1)));obtain⟨Hx2,Hw2,Hf,Hno,Hnb,Hff,Hyes⟩:=hid7 hx2 hw2 hf hno hnb hff hyes;clear hx2 hw2 hf hno hnb hff hyes;clear hb2 hln;have z1: ¬(t.length+1+c1=1):=by omega
    go_wp2;go_region
    all_goals
     go_wp2;exact bodyPost_ret (Bl rfl rfl Hyes.out) rfl ⟨Hyb.out.drew,_,c1,rfl,Hff.out _ _ _ _ (Ie Hf.out)⟩
theorem Li (x k:UInt8):(((x.toNat:Nat):Int)==((k.toNat:Nat):Int))=decide (x=k):=by
 rw[Bool.eq_iff_iff];simp only[beq_iff_eq,decide_eq_true_eq];exact⟨fun h=>UInt8.toNat_inj.1 (by omega),fun h=>by rw[h]⟩
theorem Lp (x:UInt8):(((x.toNat:Nat):Int) != 0)= !decide (x=0):=by
 have:=Li x 0;rw[bne];rw[<-this];rfl
theorem Jz (x:UInt8) (w:World):Calls Tryz.prog 36 #[.int .u8 x.toNat] w fun e w'=>e=.returned (.int .i64 (if x=0 then 2 else 0))/\w=w':=by
 have h:=Lp x;have HC:=qz (fun b W=>Co b 2 W);by_cases hx:x=0
 . rw[decide_eq_true hx]at h;rw[if_pos hx];clear hx;go_enter Tryz.func36,Tryz.ntmps36;go_wp2_with (go_at_call 71;(with_reducible refine(HC.out _ _).mono ?_);rintro e w2 ⟨rfl,rfl⟩);go_ret;exact⟨rfl,rfl⟩
 . rw[decide_eq_false hx]at h;rw[if_neg hx];clear hx;go_enter Tryz.func36,Tryz.ntmps36;go_wp2_with (go_at_call 71;(with_reducible refine(HC.out _ _).mono ?_);rintro e w2 ⟨rfl,rfl⟩);go_ret;exact⟨rfl,rfl⟩
theorem Ip (x k:UInt8) (w:World):Calls Tryz.prog 42 #[.int .u8 x.toNat,.int .u8 k.toNat] w fun e w'=>e=.returned (.int .i64 (if x=k then 0 else 13))/\w=w':=by
 have h:=Li x k;have HC:=qz (fun b W=>Co b 13 W);by_cases hx:x=k
 . rw[decide_eq_true hx]at h;rw[if_pos hx];clear hx;go_enter Tryz.func42,Tryz.ntmps42;go_wp2_with (go_at_call 71;(with_reducible refine(HC.out _ _).mono ?_);rintro e w2 ⟨rfl,rfl⟩);go_ret;exact⟨rfl,rfl⟩
 . rw[decide_eq_false hx]at h;rw[if_neg hx];clear hx;go_enter Tryz.func42,Tryz.ntmps42;go_wp2_with (go_at_call 71;(with_reducible refine(HC.out _ _).mono ?_);rintro e w2 ⟨rfl,rfl⟩);go_ret;exact⟨rfl,rfl⟩
theorem Fw (x k:UInt8) (gf gk:Nat) (w:World) (hf:w.cell? ⟨gf,0,none⟩=some (.int .u8 x.toNat)) (hk:w.cell? ⟨gk,0,none⟩=some (.int .u8 k.toNat)):
 Calls Tryz.prog 41 #[.pointer (some ⟨gf,0,none⟩),.pointer (some ⟨gk,0,none⟩)] w fun e w'=>e=.returned (.int .i64 (if x=k then 0 else 13))/\w=w':=by
 have hC:=fun W=>Ip x k W;generalize (if x=k then(0:Int)else 13)=V at hC ⊢;have HC:=qz hC;clear hC;go_enter Tryz.func41,Tryz.ntmps41;go_wp2_with (go_at_call 42;(with_reducible refine(HC.out _).mono ?_);rintro e w2 ⟨rfl,rfl⟩);go_ret;exact⟨rfl,rfl⟩
def Fl (x k:UInt8):Int:=if x=0 then 2 else if x=k then 0 else 13
theorem Ic (x k:UInt8) (gf gk g:Nat) (w:World) (hf:w.cell? ⟨gf,0,none⟩=some (.int .u8 x.toNat)) (hk:w.cell? ⟨gk,0,none⟩=some (.int .u8 k.toNat))
 (h0:w.cell? ⟨g,0,none⟩=some (.func (.func 36) #[.int .u8 x.toNat] #[])) (h1:w.cell? ⟨g,1,none⟩=some (.func (.func 41) #[] #[.pointer (some ⟨gf,0,none⟩),.pointer (some ⟨gk,0,none⟩)])):
 Calls Tryz.prog 37 #[.slice (some ⟨g,0,none⟩) 2 2] w fun e w'=>e=.returned (.int .i64 (Fl x k))/\w=w':=by
 have hC:=Jz x w;have hD:=Fw x k gf gk w hf hk;unfold Fl;by_cases hx:x=0
 . rw[if_pos hx]at hC;rw[if_pos hx];obtain⟨HC,HD,Hf,Hk⟩:=hid4 hC hD hf hk;clear hC hD hf hk;clear hx;go_enter Tryz.func37,Tryz.ntmps37;go_wp2_with (fail);refine wp_loop_rounds 3 ?_;rw[rounds_succ];go_wp2_with (fail);(with_reducible refine(HC.out).mono ?_);rintro e w2 ⟨rfl,rfl⟩;go_wp2;go_ret;exact⟨rfl,rfl⟩
 . rw[if_neg hx]at hC;rw[if_neg hx];clear hx;by_cases hy:x=k
   . rw[if_pos hy]at hD;rw[if_pos hy];obtain⟨HC,HD,Hf,Hk⟩:=hid4 hC hD hf hk;clear hC hD hf hk;clear hy;go_enter Tryz.func37,Tryz.ntmps37;go_wp2_with (fail);refine wp_loop_rounds 3 ?_;rw[rounds_succ];go_wp2_with (fail);(with_reducible refine(HC.out).mono ?_);rintro e w2 ⟨rfl,rfl⟩;go_wp2_with (fail);rw[rounds_succ];go_wp2_with (fail);(with_reducible refine(HD.out).mono ?_);rintro e w2 ⟨rfl,rfl⟩;go_wp2_with (fail);rw[rounds_succ];go_wp2;go_ret;exact⟨rfl,rfl⟩
   . rw[if_neg hy]at hD;rw[if_neg hy];obtain⟨HC,HD,Hf,Hk⟩:=hid4 hC hD hf hk;clear hC hD hf hk;clear hy;go_enter Tryz.func37,Tryz.ntmps37;go_wp2_with (fail);refine wp_loop_rounds 3 ?_;rw[rounds_succ];go_wp2_with (fail);(with_reducible refine(HC.out).mono ?_);rintro e w2 ⟨rfl,rfl⟩;go_wp2_with (fail);rw[rounds_succ];go_wp2_with (fail);(with_reducible refine(HD.out).mono ?_);rintro e w2 ⟨rfl,rfl⟩;go_wp2;go_ret;exact⟨rfl,rfl⟩
theorem Dj (w:World) (o:Obj):Below w.heap.size w (w.alloc o):=(Below.refl _ _).alloc (Nat.le_refl _) _
def B1 (k:UInt8) (l:List UInt8) (w:World) (e:Ending) (w':World):Prop:=Below w.heap.size w w'/\
 if Ge k l=0 then ∃a c,e=.returned (.tuple #[.slice a (Er l).length ((Er l).length+c),.int .i64 0])/\Av w.heap.size w' (.row 1 (dB (Er l))) [.slice a (Er l).length ((Er l).length+c)]
 else e=.returned (.tuple #[.slice none 0 0,.int .i64 (Ge k l)])
theorem B1.no {k:UInt8} {l:List UInt8} {w w':World} {c:Int} (h:Ge k l=c) (hc:c≠0) (hb:Below w.heap.size w w'):B1 k l w (.returned (.tuple #[.slice none 0 0,.int .i64 c])) w':=by
 subst h;refine⟨hb, ?_⟩;rw[if_neg hc]
theorem Hu (k:UInt8) (l:List UInt8) (a:Option Addr) (n c:Nat) (w:World) (h:Ac w w.heap.size (.row 1 (dB l)) [.slice a n c]) (hc:n<=c) (hl:l.length<=1000000000):
 Calls Tryz.prog 22 #[.int .u8 k.toNat,.slice a n c] w (B1 k l w):=by
 have hB0:Below w.heap.size w (w.alloc (.cells #[.int .u8 k.toNat] 5)):=(Below.refl _ _).alloc (Nat.le_refl _) _;have hC:=Gp l a n c _ ((h.below hB0).more hB0.size) hc hl;have Hbk:=qz (As.new w 5 #[.int .u8 k.toNat]);have hE:Ge k l=match Cg l with
  |none=>11
  |some []=>11
  |some (x::_)=>Fl x k:=rfl
 have hBB:Er l=((Cg l).getD []).drop 1:=rfl;have HF:=qz (fun x gf gk g W=>Ic x k gf gk g W);obtain⟨O,hO⟩: ∃O,Cg l=O:=⟨_,rfl⟩;rw[hO]at hC hE hBB;obtain⟨HC,HO,H,HB0⟩:=hid4 hC hO h hB0;clear hC hO h hB0;go_enter Tryz.func22,Tryz.ntmps22;go_wp2_with (fail);(with_reducible refine(HC.out).mono ?_);rintro e w2 ⟨hb2,hr⟩;have hk2:=Hbk.out.below hb2 Hbk.out.lt;have hw2:=HB0.out.trans (hb2.mono HB0.out.size);have hltk:=hk2.lt
 match O,hr with
 |none,hr=>
  obtain rfl:=hr;have HA:=qz (hw2.alloc hw2.size (.cells D1 98));obtain⟨Hk2,Hw2,HE⟩:=hid3 hk2 hw2 hE;clear hk2 hw2 hE;clear hb2;go_wp2;go_ret2;exact B1.no HE.out (by omega) HA.out
 |some [],hr=>
  obtain rfl:=hr;have HA:=qz (hw2.alloc hw2.size (.cells D1 98));obtain⟨Hk2,Hw2,HE⟩:=hid3 hk2 hw2 hE;clear hk2 hw2 hE;clear hb2;go_wp2;go_ret2;exact B1.no HE.out (by omega) HA.out
 |some (x::t),hr=>
  obtain⟨a1,c1,rfl,hf⟩:=hr;have hBB:Er l=t:=hBB;simp only at hE;have hA:=hw2.alloc hw2.size (.cells #[.int .u8 x.toNat,.slice a1 t.length (t.length+c1)] 98);have hAA:=fun o=>hA.alloc hA.size o;have hfx:=As.new w2 98 #[.int .u8 x.toNat,.slice a1 t.length (t.length+c1)];have hkx:=hk2.alloc (.cells #[.int .u8 x.toNat,.slice a1 t.length (t.length+c1)] 98);have hff:=fun o=>(hf.later (Dj w2 (.cells #[.int .u8 x.toNat,.slice a1 t.length (t.length+c1)] 98))).later (Dj _ o);have hFK:=fun g W=>HF.out x w2.heap.size w.heap.size g W;have hltw:w.heap.size<w2.heap.size:=hltk;by_cases hK:Fl x k=0
  . rw[hK]at hFK hE;obtain⟨Hk2,Hw2,HA,HE,HAA,Hfx,Hkx,Hff,HFK,HBB⟩:=hid10 hk2 hw2 hA hE hAA hfx hkx hff hFK hBB;clear hk2 hw2 hA hE hAA hfx hkx hff hFK hBB;clear hb2 hK hf HF;go_wp2_with (fail);with_reducible refine(HFK.out _ _ ?_ ?_ ?_ ?_).mono ?_
    . exact(Hfx.out.alloc _).cell 0
    . exact(Hkx.out.alloc _).cell 0
    . simp
    . simp
    rintro e w3 ⟨rfl,rfl⟩;have d1:=(Hfx.out.alloc (.cells #[.func (.func 36) #[.int .u8 x.toNat] #[],.func (.func 41) #[] #[.pointer (some ⟨w2.heap.size,0,none⟩),.pointer (some ⟨w.heap.size,0,none⟩)]] 99)).cell 1;go_wp2;go_ret2;refine⟨HAA.out _, ?_⟩;rw[if_pos HE.out,HBB.out];exact⟨a1,c1,rfl,(Hff.out _).keep (by simp) (Nat.le_refl _) (fun _ _ _=>rfl)⟩
  . have tK:(Fl x k != 0)=true:=by simpa using hK
    have hP:=fun o=>B1.no (k:=k) (l:=l) hE hK (hAA o);generalize Fl x k=V at hFK tK hP;obtain⟨Hk2,Hw2,HA,HE,HAA,Hfx,Hkx,Hff,HFK,HBB,HP⟩:=hid11 hk2 hw2 hA hE hAA hfx hkx hff hFK hBB hP;clear hk2 hw2 hA hE hAA hfx hkx hff hFK hBB hP;clear hb2 hK hf HF;go_wp2_with (fail);with_reducible refine(HFK.out _ _ ?_ ?_ ?_ ?_).mono ?_
    . exact(Hfx.out.alloc _).cell 0
    . exact(Hkx.out.alloc _).cell 0
    . simp
    . simp
    rintro e w3 ⟨rfl,rfl⟩;go_wp2;go_ret2;exact HP.out _
end Go.Proofs.YtolnhkmhfblhkaaGreatDoor
