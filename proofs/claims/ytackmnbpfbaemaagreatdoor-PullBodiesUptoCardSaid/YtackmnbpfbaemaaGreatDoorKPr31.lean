/- Parts: commonplaceref18.body: the value of a frame of a kind; commonplaceref18.numbers: an object's numbers, name by name. Condition: at most 1.5 * 10^7 bytes; 10^8 members, 1000 names. -/
import Derived.Test.YtackmnbpfbaemaaGreatDoorKPr9
import Derived.Test.YtackmnbpfbaemaaGreatDoorKPr19
import Derived.Test.YtackmnbpfbaemaaGreatDoorKPr27
import Derived.Test.YtackmnbpfbaemaaGreatDoorKPr28
import Derived.Test.YtackmnbpfbaemaaGreatDoorKPr29
set_option maxHeartbeats 20000000
namespace Go.Proofs.YtackmnbpfbaemaaGreatDoor
open Go Go.RowKit
def K7 (r:Option (List UInt8)) (w:World) (e:Ending) (w':World):Prop:=Below w.heap.size w w'/\match r with
 |none=>e=.returned (.tuple #[.slice none 0 0,.bool false])
 |some x=> ∃a c,e=.returned (.tuple #[.slice a x.length (x.length+c),.bool true])/\Ap w.heap.size w' (.row 1 (dB x)) [.slice a x.length (x.length+c)]
theorem K7.no {w w':World} {r:Option (List UInt8)} (h:r=none) (hb:Below w.heap.size w w'):K7 r w (.returned (.tuple #[.slice none 0 0,.bool false])) w':=by
 subst h;exact⟨hb,rfl⟩
set_option maxRecDepth 100000 in
theorem Ad6 (l:List UInt8) (a:Option Addr) (n c:Nat) (w:World) (h:Ae w w.heap.size (.row 1 (dB l)) [.slice a n c]) (hc:n<=c) (hl:l.length<=1000000000):
 Calls Tryz.prog 120 #[.slice a n c] w (K7 (Ed l) w):=by
 obtain rfl:=Sp h;by_cases h4:l.length<4
 . have hno:Ed l=none:=by
    unfold Ed G8;rw[decide_eq_false (by omega)];rfl
   have e1:(l.length:Int)<4:=by omega
   obtain⟨Hno,H⟩:=hid2 hno h;clear hno h;clear h4;go_enter Tryz.func120,Tryz.ntmps120;go_wp2;go_ret2;exact K7.no Hno.out (Below.refl _ _)
 . obtain⟨m,hm⟩: ∃m,l.length=m+4:=⟨l.length - 4,by omega⟩;have hN:=Alj (l:=l.drop m) (by rw[List.length_drop];omega);obtain⟨p,q,r,s,hd⟩:=hN;have hF:=Ts h m (by omega) c;have hS:G8 l=decide (C5 0 (l.take m)=Py [p,q,r,s]):=by
    unfold G8;rw[show l.length - 4=m from by omega,hd,decide_eq_true (by omega:4<=l.length)];rfl
   have hO:Ed l=if C5 0 (l.take m)=Py [p,q,r,s]then some (l.take m)else none:=by
    unfold Ed;rw[hS,show l.length - 4=m from by omega];simp only[decide_eq_true_eq]
   rw[Adr]at hO;obtain⟨g,off,ea,hg,hcell⟩:=(Mn h).resolve_left (by rintro rfl;simp at hm);subst ea;have hat: ∀j x, [p,q,r,s][j]? =some x->w.cell? ⟨g,off+m+j,none⟩=some (.int .u8 x.toNat):=by
    intro j x hx;rw[Nat.add_assoc];refine hcell (m+j) x ?_;rw[<-List.getElem?_drop,hd];exact hx
   have c0:w.cell? ⟨g,off+m,none⟩=some (.int .u8 p.toNat):=hat 0 p rfl;have c1:=hat 1 q rfl;have c2:=hat 2 r rfl;have c3:=hat 3 s rfl;have hp:=p.toNat_lt;have hq:=q.toNat_lt;have hr:=r.toNat_lt;have hs:=s.toNat_lt;generalize p.toNat=P at*
   generalize q.toNat=Q at*
   generalize r.toNat=R at*
   generalize s.toNat=S at*
   have f1:=or8 P Q (by omega) (by omega);obtain⟨X1,hX1⟩: ∃X,P+Q*256=X:=⟨_,rfl⟩;obtain⟨X2,hX2⟩: ∃X,X1+R*65536=X:=⟨_,rfl⟩;have f2:=Ank X1 R (by omega) (by omega);have f3:=Aoo X2 S (by omega) (by omega);rw[hX1]at f1 hO;rw[hX2]at f2 hO;have f0:bits .or .u32 0 (P:Int)=(P:Int):=by simpa using u32_or_nat 0 P (by omega) (by omega)
   have hlm:(l.take m).length=m:=by rw[List.length_take];omega
   obtain⟨T,hT⟩: ∃T,l.take m=T:=⟨_,rfl⟩;rw[hT]at hO hF hlm;obtain⟨U,hU⟩: ∃U,X2+S*16777216=U:=⟨_,rfl⟩;rw[hU]at hO f3;have hC:=fun nq=>Xk T (some ⟨g,off,none⟩) m c (w.drewN nq) (hF.below (I0 (Below.refl _ _) nq)) (by omega);have hcl:=Ly 0 T;generalize C5 0 T=V at hC hO hcl;rw[hm]at hc hl ⊢;have z1:((m+4:Nat):Int) - 4=(m:Int):=by omega
   have z2: ¬((m+4:Nat):Int)<4:=by omega
   have z3: ¬c=m:=by omega
   have z4:(m:Int)<=((m+4:Nat):Int):=by omega
   have z5:(m:Int)<=(c:Int):=by omega
   obtain⟨H,HF,HC,HO,HT,HU,Hcell,HX1,HX2,Hlm⟩:=hid10 h hF hC hO hT hU hcell hX1 hX2 hlm;clear h hF hC hO hT hU hcell hX1 hX2 hlm;clear h4 hS hd hat hm hg;go_enter Tryz.func120,Tryz.ntmps120;go_wp2;go_quiet (fail);go_wp2_with (fail);refine wp_loop_rounds 5 ?_;rw[rounds_succ];go_wp2;rw[rounds_succ];go_wp2;rw[rounds_succ];go_wp2;rw[rounds_succ];go_wp2;rw[rounds_succ];go_wp2_with (fail);(with_reducible refine(HC.out _).mono ?_);rintro e w2 ⟨rfl,hb⟩;have hb0:Below w.heap.size w w2:=(I0 (Below.refl _ _) nq).trans hb;have hO:=HO.out;have hF:=HF;have hlm:=Hlm.out;by_cases hVU:V=U
   . rw[if_pos hVU]at hO;subst hVU;have hown0:(w2.alloc (.cells #[] 5)).ownsRow w.heap.size 5 1 (.slice (some ⟨w2.heap.size,0,none⟩) 0 0) ([]:List UInt8).length (Cj []):=World.ownsRow_lit w2 #[] 0 hb0.size (by simp[maxLen]) rfl;have hR0:=((Ld (hF.out.below hb0)).2).alloc hb0.size (.cells #[] 5);obtain⟨Hb0,HO,HR0,Hown0⟩:=hid4 hb0 hO hR0 hown0;clear hb0 hO hR0 hown0;clear hb;go_wp2_with (at_builtin;apply Shut.out);unfold Shut;refine Br rfl (.tmp 41) (.tmp 42) 25 25 5 rfl Tryz.underlying25 Tryz.underlying25 w.heap.size (.slice (some ⟨w2.heap.size,0,none⟩) 0 0) [] rfl Hown0.out w.heap.size (some ⟨g,off,none⟩) m c T rfl HR0.out (by simp;omega) (by have:=Hb0.out.size;simp;omega) ?_;intro v1 w1 hown1 hg1 hat1;have hb1:Below w.heap.size w w1:=(Hb0.out.alloc Hb0.out.size _).grown hg1 (by have:=Hb0.out.size;simp;omega) (by simp[Value.ownBlock];exact Hb0.out.size);obtain⟨a1,c1,rfl,hf1⟩:=Qy (l:=T) hown1;have hP:K7 (Ed l) w (.returned (.tuple #[.slice a1 T.length (T.length+c1),.bool true])) w1:=by rw[HO.out];exact⟨hb1,a1,c1,rfl,hf1⟩
     rw[hlm]at hP;have HP:=Lib.hid hP;clear hP;clear hown1 hg1 hat1;go_wp2;go_ret2;exact HP.out
   . rw[if_neg hVU]at hO;have e1:((V:Int) != (U:Int))=true:=by simp;omega
     obtain⟨Hb0,HO⟩:=hid2 hb0 hO;clear hb0 hO;clear hVU hb;go_wp2;go_ret2;exact K7.no HO.out Hb0.out
def Ail (r:Option (List UInt8)) (w:World) (e:Ending) (w':World):Prop:=Below w.heap.size w w'/\match r with
 |none=>e=.returned (.tuple #[.agg #[.int .u8 0,.slice none 0 0],.int .i64 11])
 |some []=>e=.returned (.tuple #[.agg #[.int .u8 0,.slice none 0 0],.int .i64 11])
 |some (x::t)=> ∃a c,e=.returned (.tuple #[.agg #[.int .u8 x.toNat,.slice a t.length (t.length+c)],.int .i64 0])/\Ap w.heap.size w' (.row 1 (dB t)) [.slice a t.length (t.length+c)]
theorem Iv {fn:Func} {t u:Tmp} {tmps:Array Value} {W:World} {R:Nat} {a0 a1:Value} (h:fn.results= #[.cell t 138,.tmp u]) (hp:tmps.getD t undef=.pointer (some ⟨R,0,none⟩)) (hx:An W R 138 #[a0,a1]):
 (results fn tmps).run Tryz.prog W=.ok (.tuple #[.agg #[a0,a1],tmps.getD u undef]) W:=by
 have c0:=hx.cell 0;have c1:=hx.cell 1;simp at c0 c1;clear hx;have hp':tmps[t]?.getD undef=.pointer (some ⟨R,0,none⟩):=by simpa using hp
 simp[results,h,hp',go_sem,c0,c1]
theorem Adi {b g off n c c':Nat} {w':World} {x:UInt8} {t:List UInt8} (h:Ap b w' (.row 1 (dB (x::t))) [.slice (some ⟨g,off,none⟩) n c]):Ap b w' (.row 1 (dB t)) [.slice (some ⟨g,off+1,none⟩) t.length c']:=by
 intro w'' k1 k2;refine Oe rfl ?_;obtain⟨g',off',e,hg,hc⟩:=(Mn (h w'' k1 k2)).resolve_left (by simp);simp only[Option.some.injEq,Addr.mk.injEq,and_true]at e;obtain⟨rfl,rfl⟩:=e;refine .inr ⟨_,_,rfl,hg,fun j y hy=> ?_⟩;rw[Nat.add_assoc,Nat.add_comm 1 j];exact hc (j+1) y (by simpa using hy)
theorem Agu {b:Nat} {w':World} {a:Option Addr} {c:Nat}:Ap b w' (.row 1 (dB [])) [.slice a 0 c]:=fun _ _ _=>Oe rfl (.inl rfl)
abbrev Q7:Array Value:= #[.int .u8 0,.slice none 0 0]
set_option maxRecDepth 100000 in
theorem Aam (l:List UInt8) (a:Option Addr) (n c:Nat) (w:World) (h:Ae w w.heap.size (.row 1 (dB l)) [.slice a n c]) (hc:n<=c) (hl:l.length<=1000000000):
 Calls Tryz.prog 80 #[.slice a n c] w (Ail (Ed l) w):=by
 have hB0:Below w.heap.size w (w.alloc (.cells Q7 138)):=(Below.refl _ _).alloc (Nat.le_refl _) _;have hC:=Ad6 l a n c (w.alloc (.cells Q7 138)) ((h.below hB0).more hB0.size) hc hl;obtain⟨O,hO⟩: ∃O,Ed l=O:=⟨_,rfl⟩;rw[hO]at hC ⊢;have hbx:=An.new w 138 Q7;obtain⟨HC,HO,H,HB0,Hbx⟩:=hid5 hC hO h hB0 hbx;clear hC hO h hB0 hbx;go_enter Tryz.func80,Tryz.ntmps80;go_wp2_with (fail);(with_reducible refine(HC.out).mono ?_);rintro e w2 ⟨hb2,hr⟩;have hx2:=Hbx.out.below hb2 Hbx.out.lt;have hw2:=HB0.out.trans (hb2.mono HB0.out.size);have r0:=hx2.cell 0;have r1:=hx2.cell 1;have fz:=hx2.frozen;have hlt:=hx2.lt;have hno:=(hx2.set_ 0 (.int .u8 0)).set_ 1 (.slice none 0 0);have hnb:=(hw2.setCell (p:=⟨w.heap.size,0,none⟩) (Nat.le_refl _) (.int .u8 0)).setCell (p:=⟨w.heap.size,1,none⟩) (Nat.le_refl _) (.slice none 0 0)
 match O,hr with
 |none,hr=>
  obtain rfl:=hr;obtain⟨Hx2,Hw2,Hno,Hnb⟩:=hid4 hx2 hw2 hno hnb;clear hx2 hw2 hno hnb;clear hb2;go_wp2;exact bodyPost_ret (Iv rfl rfl Hno.out) rfl ⟨Hnb.out,rfl⟩
 |some [],hr=>
  obtain⟨a1,c1,rfl,hf⟩:=hr;obtain⟨Hx2,Hw2,Hno,Hnb,Hf⟩:=hid5 hx2 hw2 hno hnb hf;clear hx2 hw2 hno hnb hf;clear hb2;go_wp2;exact bodyPost_ret (Iv rfl rfl Hno.out) rfl ⟨Hnb.out,rfl⟩
 |some (x::t),hr=>
  obtain⟨a1,c1,rfl,hf⟩:=hr;obtain⟨g,off,rfl,hg,hcell⟩:=Rn hf.now (i:=0) (x:=x) rfl;have hcell:w2.cell? ⟨g,off,none⟩=some (.int .u8 x.toNat):=hcell;have hln:(x::t).length=t.length+1:=rfl;rw[hln];have z0: ¬(t.length:Int)+1=0:=by omega
  have z2:(((t.length:Int)+1)==0)=false:=by simpa using z0
  have hff:=fun(v1 v2:Value) (d:List UInt8) (cs:List Value) (h:Ap (w.alloc (.cells Q7 138)).heap.size w2 (.row 1 (dB d)) cs)=>(h.keep (b':=w.heap.size) (w':=((w2.setCell ⟨w.heap.size,0,none⟩ v1).setCell ⟨w.heap.size,1,none⟩ v2).drew) (by simp) (Nat.le_of_eq (by simp[World.setCell])) fun p p1 p2=>World.cell?_of_block (by
   have p1':w.heap.size+1<=p.block:=by simpa using p1
   show((w2.setCell ⟨w.heap.size,0,none⟩ v1).setCell ⟨w.heap.size,1,none⟩ v2).heap[p.block]? =_;exact(Below.heap_setCell _ _ _ _ (by simp;omega)).trans (Below.heap_setCell _ _ _ _ (by simp;omega))))
  by_cases hz:t.length+c1=0
  . obtain rfl:t= []:=List.eq_nil_of_length_eq_zero (by omega);obtain rfl:c1=0:=by omega
    have hyes:=((hx2.set_ 0 (.int .u8 x.toNat)).set_ 1 (.slice (some ⟨g,off,none⟩) 0 0));have hyb:=(hw2.setCell (p:=⟨w.heap.size,0,none⟩) (Nat.le_refl _) (.int .u8 x.toNat)).setCell (p:=⟨w.heap.size,1,none⟩) (Nat.le_refl _) (.slice (some ⟨g,off,none⟩) 0 0);obtain⟨Hx2,Hw2,Hf,Hno,Hnb,Hff,Hyes,Hyb⟩:=hid8 hx2 hw2 hf hno hnb hff hyes hyb;clear hx2 hw2 hf hno hnb hff hyes hyb;clear hb2 hln;go_wp2;go_region
    all_goals
     go_wp2;exact bodyPost_ret (Iv rfl rfl Hyes.out) rfl ⟨Hyb.out.drew,_,0,rfl,Agu⟩
  . have hyes:=((hx2.set_ 0 (.int .u8 x.toNat)).set_ 1 (.slice (some ⟨g,off+1,none⟩) t.length (t.length+c1)));have hyb:=(hw2.setCell (p:=⟨w.heap.size,0,none⟩) (Nat.le_refl _) (.int .u8 x.toNat)).setCell (p:=⟨w.heap.size,1,none⟩) (Nat.le_refl _) (.slice (some ⟨g,off+1,none⟩) t.length (t.length+c1));obtain⟨Hx2,Hw2,Hf,Hno,Hnb,Hff,Hyes,Hyb⟩:=hid8 hx2 hw2 hf hno hnb hff hyes hyb;clear hx2 hw2 hf hno hnb hff hyes hyb;clear hb2 hln;have z1: ¬(t.length+1+c1=1):=by omega
    go_wp2;go_region
    all_goals
     go_wp2;exact bodyPost_ret (Iv rfl rfl Hyes.out) rfl ⟨Hyb.out.drew,_,c1,rfl,Hff.out _ _ _ _ (Adi Hf.out)⟩
theorem Amu (x k:UInt8):(((x.toNat:Nat):Int)==((k.toNat:Nat):Int))=decide (x=k):=by
 rw[Bool.eq_iff_iff];simp only[beq_iff_eq,decide_eq_true_eq];exact⟨fun h=>UInt8.toNat_inj.1 (by omega),fun h=>by rw[h]⟩
theorem Anz (x:UInt8):(((x.toNat:Nat):Int) != 0)= !decide (x=0):=by
 have:=Amu x 0;rw[bne];rw[<-this];rfl
theorem Ahb (x:UInt8) (w:World):Calls Tryz.prog 76 #[.int .u8 x.toNat] w fun e w'=>e=.returned (.int .i64 (if x=0 then 2 else 0))/\w=w':=by
 have h:=Anz x;have hC:=fun b W=>L8 b 2 W;have HC:=Lib.hid hC;clear hC;by_cases hx:x=0
 . rw[decide_eq_true hx]at h;rw[if_pos hx];clear hx;go_enter Tryz.func76,Tryz.ntmps76;go_wp2_with (go_at_call 118;(with_reducible refine(HC.out _ _).mono ?_);rintro e w2 ⟨rfl,rfl⟩);go_ret;exact⟨rfl,rfl⟩
 . rw[decide_eq_false hx]at h;rw[if_neg hx];clear hx;go_enter Tryz.func76,Tryz.ntmps76;go_wp2_with (go_at_call 118;(with_reducible refine(HC.out _ _).mono ?_);rintro e w2 ⟨rfl,rfl⟩);go_ret;exact⟨rfl,rfl⟩
theorem Ads (x k:UInt8) (w:World):Calls Tryz.prog 82 #[.int .u8 x.toNat,.int .u8 k.toNat] w fun e w'=>e=.returned (.int .i64 (if x=k then 0 else 13))/\w=w':=by
 have h:=Amu x k;have hC:=fun b W=>L8 b 13 W;have HC:=Lib.hid hC;clear hC;by_cases hx:x=k
 . rw[decide_eq_true hx]at h;rw[if_pos hx];clear hx;go_enter Tryz.func82,Tryz.ntmps82;go_wp2_with (go_at_call 118;(with_reducible refine(HC.out _ _).mono ?_);rintro e w2 ⟨rfl,rfl⟩);go_ret;exact⟨rfl,rfl⟩
 . rw[decide_eq_false hx]at h;rw[if_neg hx];clear hx;go_enter Tryz.func82,Tryz.ntmps82;go_wp2_with (go_at_call 118;(with_reducible refine(HC.out _ _).mono ?_);rintro e w2 ⟨rfl,rfl⟩);go_ret;exact⟨rfl,rfl⟩
theorem Xw (x k:UInt8) (gf gk:Nat) (w:World) (hf:w.cell? ⟨gf,0,none⟩=some (.int .u8 x.toNat)) (hk:w.cell? ⟨gk,0,none⟩=some (.int .u8 k.toNat)):
 Calls Tryz.prog 81 #[.pointer (some ⟨gf,0,none⟩),.pointer (some ⟨gk,0,none⟩)] w fun e w'=>e=.returned (.int .i64 (if x=k then 0 else 13))/\w=w':=by
 have hC:=fun W=>Ads x k W;generalize (if x=k then(0:Int)else 13)=V at hC ⊢;have HC:=Lib.hid hC;clear hC;go_enter Tryz.func81,Tryz.ntmps81;go_wp2_with (go_at_call 82;(with_reducible refine(HC.out _).mono ?_);rintro e w2 ⟨rfl,rfl⟩);go_ret;exact⟨rfl,rfl⟩
def Wv (x k:UInt8):Int:=if x=0 then 2 else if x=k then 0 else 13
theorem Adf (x k:UInt8) (gf gk g:Nat) (w:World) (hf:w.cell? ⟨gf,0,none⟩=some (.int .u8 x.toNat)) (hk:w.cell? ⟨gk,0,none⟩=some (.int .u8 k.toNat))
 (h0:w.cell? ⟨g,0,none⟩=some (.func (.func 76) #[.int .u8 x.toNat] #[])) (h1:w.cell? ⟨g,1,none⟩=some (.func (.func 81) #[] #[.pointer (some ⟨gf,0,none⟩),.pointer (some ⟨gk,0,none⟩)])):
 Calls Tryz.prog 77 #[.slice (some ⟨g,0,none⟩) 2 2] w fun e w'=>e=.returned (.int .i64 (Wv x k))/\w=w':=by
 have hC:=Ahb x w;have hD:=Xw x k gf gk w hf hk;unfold Wv;by_cases hx:x=0
 . rw[if_pos hx]at hC;rw[if_pos hx];obtain⟨HC,HD,Hf,Hk⟩:=hid4 hC hD hf hk;clear hC hD hf hk;clear hx;go_enter Tryz.func77,Tryz.ntmps77;go_wp2_with (fail);refine wp_loop_rounds 3 ?_;rw[rounds_succ];go_wp2_with (fail);(with_reducible refine(HC.out).mono ?_);rintro e w2 ⟨rfl,rfl⟩;go_wp2;go_ret;exact⟨rfl,rfl⟩
 . rw[if_neg hx]at hC;rw[if_neg hx];clear hx;by_cases hy:x=k
   . rw[if_pos hy]at hD;rw[if_pos hy];obtain⟨HC,HD,Hf,Hk⟩:=hid4 hC hD hf hk;clear hC hD hf hk;clear hy;go_enter Tryz.func77,Tryz.ntmps77;go_wp2_with (fail);refine wp_loop_rounds 3 ?_;rw[rounds_succ];go_wp2_with (fail);(with_reducible refine(HC.out).mono ?_);rintro e w2 ⟨rfl,rfl⟩;go_wp2_with (fail);rw[rounds_succ];go_wp2_with (fail);(with_reducible refine(HD.out).mono ?_);rintro e w2 ⟨rfl,rfl⟩;go_wp2_with (fail);rw[rounds_succ];go_wp2;go_ret;exact⟨rfl,rfl⟩
   . rw[if_neg hy]at hD;rw[if_neg hy];obtain⟨HC,HD,Hf,Hk⟩:=hid4 hC hD hf hk;clear hC hD hf hk;clear hy;go_enter Tryz.func77,Tryz.ntmps77;go_wp2_with (fail);refine wp_loop_rounds 3 ?_;rw[rounds_succ];go_wp2_with (fail);(with_reducible refine(HC.out).mono ?_);rintro e w2 ⟨rfl,rfl⟩;go_wp2_with (fail);rw[rounds_succ];go_wp2_with (fail);(with_reducible refine(HD.out).mono ?_);rintro e w2 ⟨rfl,rfl⟩;go_wp2;go_ret;exact⟨rfl,rfl⟩
theorem Pf (w:World) (o:Obj):Below w.heap.size w (w.alloc o):=(Below.refl _ _).alloc (Nat.le_refl _) _
def Iy (k:UInt8) (l:List UInt8) (w:World) (e:Ending) (w':World):Prop:=Below w.heap.size w w'/\
 if Cm k l=0 then ∃a c,e=.returned (.tuple #[.slice a (Cx l).length ((Cx l).length+c),.int .i64 0])/\Ap w.heap.size w' (.row 1 (dB (Cx l))) [.slice a (Cx l).length ((Cx l).length+c)]
 else e=.returned (.tuple #[.slice none 0 0,.int .i64 (Cm k l)])
theorem Iy.no {k:UInt8} {l:List UInt8} {w w':World} {c:Int} (h:Cm k l=c) (hc:c≠0) (hb:Below w.heap.size w w'):Iy k l w (.returned (.tuple #[.slice none 0 0,.int .i64 c])) w':=by
 subst h;refine⟨hb, ?_⟩;rw[if_neg hc]
set_option maxRecDepth 100000 in
theorem Tp (k:UInt8) (l:List UInt8) (a:Option Addr) (n c:Nat) (w:World) (h:Ae w w.heap.size (.row 1 (dB l)) [.slice a n c]) (hc:n<=c) (hl:l.length<=1000000000):
 Calls Tryz.prog 49 #[.int .u8 k.toNat,.slice a n c] w (Iy k l w):=by
 have hB0:Below w.heap.size w (w.alloc (.cells #[.int .u8 k.toNat] 5)):=(Below.refl _ _).alloc (Nat.le_refl _) _;have hC:=Aam l a n c _ ((h.below hB0).more hB0.size) hc hl;have hbk:=An.new w 5 #[.int .u8 k.toNat];have hE:Cm k l=match Ed l with
  |none=>11
  |some []=>11
  |some (x::_)=>Wv x k:=rfl
 have hBB:Cx l=((Ed l).getD []).drop 1:=rfl;have hF:=fun x gf gk g W=>Adf x k gf gk g W;obtain⟨O,hO⟩: ∃O,Ed l=O:=⟨_,rfl⟩;rw[hO]at hC hE hBB;obtain⟨HC,HO,H,HB0,Hbk,HF⟩:=hid6 hC hO h hB0 hbk hF;clear hC hO h hB0 hbk hF;go_enter Tryz.func49,Tryz.ntmps49;go_wp2_with (fail);(with_reducible refine(HC.out).mono ?_);rintro e w2 ⟨hb2,hr⟩;have hk2:=Hbk.out.below hb2 Hbk.out.lt;have hw2:=HB0.out.trans (hb2.mono HB0.out.size);have hltk:=hk2.lt
 match O,hr with
 |none,hr=>
  obtain rfl:=hr;have hA:=hw2.alloc hw2.size (.cells Q7 138);obtain⟨Hk2,Hw2,HA,HE⟩:=hid4 hk2 hw2 hA hE;clear hk2 hw2 hA hE;clear hb2;go_wp2;go_ret2;exact Iy.no HE.out (by omega) HA.out
 |some [],hr=>
  obtain rfl:=hr;have hA:=hw2.alloc hw2.size (.cells Q7 138);obtain⟨Hk2,Hw2,HA,HE⟩:=hid4 hk2 hw2 hA hE;clear hk2 hw2 hA hE;clear hb2;go_wp2;go_ret2;exact Iy.no HE.out (by omega) HA.out
 |some (x::t),hr=>
  obtain⟨a1,c1,rfl,hf⟩:=hr;have hBB:Cx l=t:=hBB;simp only at hE;have hA:=hw2.alloc hw2.size (.cells #[.int .u8 x.toNat,.slice a1 t.length (t.length+c1)] 138);have hAA:=fun o=>hA.alloc hA.size o;have hfx:=An.new w2 138 #[.int .u8 x.toNat,.slice a1 t.length (t.length+c1)];have hkx:=hk2.alloc (.cells #[.int .u8 x.toNat,.slice a1 t.length (t.length+c1)] 138);have hff:=fun o=>(hf.later (Pf w2 (.cells #[.int .u8 x.toNat,.slice a1 t.length (t.length+c1)] 138))).later (Pf _ o);have hFK:=fun g W=>HF.out x w2.heap.size w.heap.size g W;have hltw:w.heap.size<w2.heap.size:=hltk;by_cases hK:Wv x k=0
  . rw[hK]at hFK hE;obtain⟨Hk2,Hw2,HA,HE,HAA,Hfx,Hkx,Hff,HFK,HBB⟩:=hid10 hk2 hw2 hA hE hAA hfx hkx hff hFK hBB;clear hk2 hw2 hA hE hAA hfx hkx hff hFK hBB;clear hb2 hK hf HF;go_wp2_with (fail);with_reducible refine(HFK.out _ _ ?_ ?_ ?_ ?_).mono ?_
    . exact(Hfx.out.alloc _).cell 0
    . exact(Hkx.out.alloc _).cell 0
    . simp
    . simp
    rintro e w3 ⟨rfl,rfl⟩;have d1:=(Hfx.out.alloc (.cells #[.func (.func 76) #[.int .u8 x.toNat] #[],.func (.func 81) #[] #[.pointer (some ⟨w2.heap.size,0,none⟩),.pointer (some ⟨w.heap.size,0,none⟩)]] 139)).cell 1;go_wp2;go_ret2;refine⟨HAA.out _, ?_⟩;rw[if_pos HE.out,HBB.out];exact⟨a1,c1,rfl,(Hff.out _).keep (by simp) (Nat.le_refl _) (fun _ _ _=>rfl)⟩
  . have tK:(Wv x k != 0)=true:=by simpa using hK
    have hP:=fun o=>Iy.no (k:=k) (l:=l) hE hK (hAA o);generalize Wv x k=V at hFK tK hP;obtain⟨Hk2,Hw2,HA,HE,HAA,Hfx,Hkx,Hff,HFK,HBB,HP⟩:=hid11 hk2 hw2 hA hE hAA hfx hkx hff hFK hBB hP;clear hk2 hw2 hA hE hAA hfx hkx hff hFK hBB hP;clear hb2 hK hf HF;go_wp2_with (fail);with_reducible refine(HFK.out _ _ ?_ ?_ ?_ ?_).mono ?_
    . exact(Hfx.out.alloc _).cell 0
    . exact(Hkx.out.alloc _).cell 0
    . simp
    . simp
    rintro e w3 ⟨rfl,rfl⟩;go_wp2;go_ret2;exact HP.out _
theorem Dh {fn:Func} {t u:Tmp} {tmps:Array Value} {W:World} {R:Nat} {a0 a1 a2 a3 a4:Value} (h:fn.results= #[.cell t 47,.tmp u]) (hp:tmps.getD t undef=.pointer (some ⟨R,0,none⟩)) (hx:An W R 47 #[a0,a1,a2,a3,a4]):
 (results fn tmps).run Tryz.prog W=.ok (.tuple #[.agg #[a0,a1,a2,a3,a4],tmps.getD u undef]) W:=by
 have c0:=hx.cell 0;have c1:=hx.cell 1;have c2:=hx.cell 2;have c3:=hx.cell 3;have c4:=hx.cell 4;clear hx;have hp':tmps[t]?.getD undef=.pointer (some ⟨R,0,none⟩):=by simpa using hp
 simp[results,h,hp',go_sem,c0,c1,c2,c3,c4]
theorem W6 {l x:List UInt8} (h:Ed l=some x):4<=l.length/\x=l.take (l.length - 4):=by
 unfold Ed at h
 split at h
 . rename_i hs;unfold G8 at hs;simp only[Bool.and_eq_true,decide_eq_true_eq]at hs;exact⟨hs.1,(Option.some.inj h).symm⟩
 . cases h
theorem Ake {l:List UInt8} {m:Nat} (h:l.length=m+4):Ed l=if C1 (l.take m)=l then some (l.take m)else none:=by
 unfold Ed;rw[h,Nat.add_sub_cancel];by_cases hs:G8 l=true
 . have:=Ur hs;rw[h,Nat.add_sub_cancel]at this;rw[if_pos hs,if_pos this.symm]
 . rw[if_neg hs,if_neg];intro e;exact hs (e▸Zg _)
def K9 (l:List UInt8) (a:Option Addr) (c:Nat) (w:World) (e:Ending) (w':World):Prop:=Below w.heap.size w w'/\
 e=.returned (match Ed l with
  |none=> .tuple #[.slice none 0 0,.bool false]
  |some x=> .tuple #[.slice a x.length c,.bool true])
set_option maxRecDepth 100000 in
theorem Vu (l:List UInt8) (a:Option Addr) (n c:Nat) (w:World) (h:Ae w w.heap.size (.row 1 (dB l)) [.slice a n c]) (hc:n<=c) (hl:l.length<=900000000):
 Calls Tryz.prog 128 #[.slice a n c] w (K9 l a c w):=by
 obtain rfl:=Sp h;by_cases h4:l.length<4
 . have hno:Ed l=none:=by
    unfold Ed G8;rw[decide_eq_false (by omega)];rfl
   have e1:(l.length:Int)<4:=by omega
   have hP:K9 l a c w (.returned (.tuple #[.slice none 0 0,.bool false])) w:=⟨Below.refl _ _,by rw[hno]⟩;obtain⟨Hno,H,HP⟩:=hid3 hno h hP;clear hno h hP;clear h4;go_enter Tryz.func128,Tryz.ntmps128;go_wp2;go_ret2;exact HP.out
 . obtain⟨m,hm⟩: ∃m,l.length=m+4:=⟨l.length - 4,by omega⟩;have hF:=Ts h m (by omega) c;have hO:=Ake hm;have hlm:(l.take m).length=m:=by rw[List.length_take];omega
   have hS:=fun W hB=>Sf (l.take m) a m c W ((hF.below (w':=W) hB).more hB.size) (by omega);have hSm:=fun(W:World) (hB:Below w.heap.size w W) A n' c' hh=>O2 (C1 (l.take m)) l A a n' c' l.length c (decide (C1 (l.take m)=l)) W hh ((h.below hB).more hB.size) (by rw[Rb];omega) (by omega) rfl;rw[hm]at hc hSm ⊢;have z1:((m+4:Nat):Int) - 4=(m:Int):=by omega
   have z2: ¬((m+4:Nat):Int)<4:=by omega
   have z4:(m:Int)<=((m+4:Nat):Int):=by omega
   have z5:(m:Int)<=(c:Int):=by omega
   by_cases hs:C1 (l.take m)=l
   . rw[if_pos hs]at hO;have hP: ∀W,Below w.heap.size w W->K9 l a c w (.returned (.tuple #[.slice a m c,.bool true])) W:=fun W hB=>⟨hB,by rw[hO];simp only[hlm]⟩;rw[decide_eq_true hs]at hSm;obtain⟨H,HF,HO,HS,HSm,Hlm,HP,Hs⟩:=hid8 h hF hO hS hSm hlm hP hs;clear h hF hO hS hSm hlm hP hs;clear h4;go_enter Tryz.func128,Tryz.ntmps128;go_wp2_with (fail);(with_reducible refine(HS.out _ (Below.refl _ _)).mono ?_);rintro e w2 ⟨a2,c2,rfl,hf2,hb2⟩;go_wp2_with (fail);(with_reducible refine(HSm.out _ hb2 _ _ _ hf2.now).mono ?_);rintro e w3 ⟨rfl,hb3⟩;have hw3:=hb2.trans (hb3.mono hb2.size);have Hw3:=Lib.hid hw3;clear hw3;clear hb2 hb3 hf2;go_wp2;go_ret2;exact HP.out _ Hw3.out
   . rw[if_neg hs]at hO;have hP: ∀W,Below w.heap.size w W->K9 l a c w (.returned (.tuple #[.slice none 0 0,.bool false])) W:=fun W hB=>⟨hB,by rw[hO]⟩;rw[decide_eq_false hs]at hSm;obtain⟨H,HF,HO,HS,HSm,Hlm,HP,Hs⟩:=hid8 h hF hO hS hSm hlm hP hs;clear h hF hO hS hSm hlm hP hs;clear h4;go_enter Tryz.func128,Tryz.ntmps128;go_wp2_with (fail);(with_reducible refine(HS.out _ (Below.refl _ _)).mono ?_);rintro e w2 ⟨a2,c2,rfl,hf2,hb2⟩;go_wp2_with (fail);(with_reducible refine(HSm.out _ hb2 _ _ _ hf2.now).mono ?_);rintro e w3 ⟨rfl,hb3⟩;have hw3:=hb2.trans (hb3.mono hb2.size);have Hw3:=Lib.hid hw3;clear hw3;clear hb2 hb3 hf2;go_wp2;go_ret2;exact HP.out _ Hw3.out
def M9 (k:UInt8) (l:List UInt8) (w:World) (e:Ending) (w':World):Prop:=Below w.heap.size w w'/\
 if Cm k l=0 then ∃a c,e=.returned (.tuple #[.slice a (Cx l).length c,.int .i64 0])/\Ae w' w.heap.size (.row 1 (dB (Cx l))) [.slice a (Cx l).length c]
 else e=.returned (.tuple #[.slice none 0 0,.int .i64 (Cm k l)])
def Mj (l:List UInt8) (a:Option Addr) (c:Nat) (w:World) (e:Ending) (w':World):Prop:=Below w.heap.size w w'/\
 e=.returned (match Ed l with
  |none=> .tuple #[.int .u8 0,.slice none 0 0,.int .i64 11]
  |some []=> .tuple #[.int .u8 0,.slice none 0 0,.int .i64 11]
  |some (x::t)=>if x=0 then .tuple #[.int .u8 0,.slice none 0 0,.int .i64 2]else .tuple #[.int .u8 x.toNat,.slice (a.map (·.add 1)) t.length (c - 1),.int .i64 0])
set_option maxRecDepth 100000 in
theorem Vv (l:List UInt8) (a:Option Addr) (n c:Nat) (w:World) (h:Ae w w.heap.size (.row 1 (dB l)) [.slice a n c]) (hc:n<=c) (hl:l.length<=900000000):
 Calls Tryz.prog 89 #[.slice a n c] w (Mj l a c w):=by
 have hC:=Vu l a n c w h hc hl;unfold K9 at hC;obtain⟨O,hO⟩: ∃O,Ed l=O:=⟨_,rfl⟩;obtain rfl:=Sp h;unfold Mj;rw[hO]at hC ⊢;obtain⟨HC,H⟩:=hid2 hC h;clear hC h
 match O,hO with
 |none,hO=>
  have HO:=Lib.hid hO;clear hO;go_enter Tryz.func89,Tryz.ntmps89;go_wp2_with (fail);(with_reducible refine(HC.out).mono ?_);rintro e w2 ⟨hb2,rfl⟩;have HB:=Lib.hid hb2;clear hb2;go_wp2;go_ret3;exact⟨HB.out,rfl⟩
 |some [],hO=>
  have HO:=Lib.hid hO;clear hO;go_enter Tryz.func89,Tryz.ntmps89;go_wp2_with (fail);(with_reducible refine(HC.out).mono ?_);rintro e w2 ⟨hb2,rfl⟩;have HB:=Lib.hid hb2;clear hb2;go_wp2;go_ret3;exact⟨HB.out,rfl⟩
 |some (x::t),hO=>
  obtain⟨h4,he⟩:=W6 hO;have hx0:l[0]? =some x:=by
   have:=congrArg (fun y=>y[0]?) he;simp only[List.getElem?_cons_zero]at this;rw[List.getElem?_take]at this
   split at this
   . exact this.symm
   . cases this
  have hlt:t.length+5=l.length:=by
   have:=congrArg List.length he;rw[List.length_take]at this;simp only[List.length_cons]at this;omega
  obtain⟨g,off,rfl,hg,hcell⟩:=Rn H.out hx0;have hcell:w.cell? ⟨g,off,none⟩=some (.int .u8 x.toNat):=hcell;have hln:(x::t).length=t.length+1:=rfl;have hC:=HC.out;simp only[hln]at hC;have z1: ¬(c=1):=by omega
  have z2:(1:Int)<=(c:Int):=by omega
  by_cases hx:x=0
  . subst hx;obtain⟨HO,HC⟩:=hid2 hO hC;clear hC;clear hO he h4 HC;go_enter Tryz.func89,Tryz.ntmps89;go_wp2_with (fail);(with_reducible refine(HC.out).mono ?_);rintro e w2 ⟨hb2,rfl⟩;have hcell2:=(hb2.cell (p:=⟨g,off,none⟩) hg).trans hcell;have HB:=Lib.hid hb2;clear hb2;go_wp2;go_ret3;exact⟨HB.out,rfl⟩
  . have hne:((x.toNat:Int)==0)=false:=by
     simp only[beq_eq_false_iff_ne,ne_eq];intro e;exact hx (UInt8.toNat_inj.1 (by simpa using e))
    obtain⟨HO,HX,HC⟩:=hid3 hO hx hC;clear hC;clear hO he h4 HC hx;go_enter Tryz.func89,Tryz.ntmps89;go_wp2_with (fail);(with_reducible refine(HC.out).mono ?_);rintro e w2 ⟨hb2,rfl⟩;have hcell2:=(hb2.cell (p:=⟨g,off,none⟩) hg).trans hcell;have HB:=Lib.hid hb2;clear hb2;go_wp2;go_quiet (fail);go_wp2;go_ret3;exact⟨I0 HB.out _,by first|rfl|(rw[if_neg HX.out];rfl)⟩
set_option maxRecDepth 100000 in
theorem Vk (k:UInt8) (l:List UInt8) (a:Option Addr) (n c:Nat) (w:World) (h:Ae w w.heap.size (.row 1 (dB l)) [.slice a n c]) (hc:n<=c) (hl:l.length<=900000000):
 Calls Tryz.prog 56 #[.int .u8 k.toNat,.slice a n c] w (M9 k l w):=by
 have hC:=Vv l a n c w h hc hl;unfold Mj at hC;have hE:Cm k l=match Ed l with
  |none=>11
  |some []=>11
  |some (x::_)=>if x=0 then 2 else if x=k then 0 else 13:=rfl
 have hBB:Cx l=((Ed l).getD []).drop 1:=rfl;obtain⟨O,hO⟩: ∃O,Ed l=O:=⟨_,rfl⟩;obtain rfl:=Sp h;rw[hO]at hC hE hBB;have hno: ∀x,Cm k l=x->x≠0-> ∀W,Below w.heap.size w W->M9 k l w (.returned (.tuple #[.slice none 0 0,.int .i64 x])) W:=fun x hx h0 W hB=>⟨hB,by rw[hx,if_neg h0]⟩
 match O,hO with
 |none,hO=>
  have HP:=Lib.hid (hno 11 hE (by omega));obtain⟨HC,H,HO,HE,HBB,Hno⟩:=hid6 hC h hO hE hBB hno;clear hC h hO hE hBB hno;go_enter Tryz.func56,Tryz.ntmps56;go_wp2_with (fail);(with_reducible refine(HC.out).mono ?_);rintro e w2 ⟨hb2,rfl⟩;have HB:=Lib.hid hb2;clear hb2;go_wp2;go_ret2;exact HP.out _ HB.out
 |some [],hO=>
  have HP:=Lib.hid (hno 11 hE (by omega));obtain⟨HC,H,HO,HE,HBB,Hno⟩:=hid6 hC h hO hE hBB hno;clear hC h hO hE hBB hno;go_enter Tryz.func56,Tryz.ntmps56;go_wp2_with (fail);(with_reducible refine(HC.out).mono ?_);rintro e w2 ⟨hb2,rfl⟩;have HB:=Lib.hid hb2;clear hb2;go_wp2;go_ret2;exact HP.out _ HB.out
 |some (x::t),hO=>
  simp only at hE;by_cases hx:x=0
  . subst hx;rw[if_pos rfl]at hE;simp only[if_true]at hC;have HP:=Lib.hid (hno 2 hE (by omega));obtain⟨HC,H,HO,HE,HBB,Hno⟩:=hid6 hC h hO hE hBB hno;clear hC h hO hE hBB hno;go_enter Tryz.func56,Tryz.ntmps56;go_wp2_with (fail);(with_reducible refine(HC.out).mono ?_);rintro e w2 ⟨hb2,rfl⟩;have HB:=Lib.hid hb2;clear hb2;go_wp2;go_ret2;exact HP.out _ HB.out
  rw[if_neg hx]at hE;simp only[if_neg hx]at hC;by_cases hk:x=k
  . subst hk;rw[if_pos rfl]at hE;obtain⟨h4,he⟩:=W6 hO;have hBt:Cx l=t:=hBB;have hlt:t.length+5=l.length:=by
     have:=congrArg List.length he;rw[List.length_take]at this;simp only[List.length_cons]at this;omega
    have hdt:t=(l.drop 1).take t.length:=by
     have:=congrArg (List.drop 1) he;rw[List.drop_take]at this;simp only[List.drop_succ_cons,List.drop_zero]at this;rw[this,List.length_take,List.length_drop]
     congr 1
     omega
    have hR:=Alb h 1 (by omega) hc (l.length - 1) (c - 1) rfl;rw[if_neg (by omega)]at hR;have hR2:=Ts hR t.length (by rw[List.length_drop];omega) (c - 1);rw[<-hdt,Nat.mul_one]at hR2;have hP: ∀W,Below w.heap.size w W->M9 x l w (.returned (.tuple #[.slice (a.map (·.add 1)) t.length (c - 1),.int .i64 0])) W:=fun W hB=>⟨hB,by rw[if_pos hE,hBt];exact⟨_,_,rfl,hR2.below hB⟩⟩;obtain⟨HC,H,HO,HE,HBB,Hno,HR,HR2,HP,HBt,Hx⟩:=hid11 hC h hO hE hBB hno hR hR2 hP hBt hx;clear hC h hO hE hBB hno hR hR2 hP hBt hx;clear he h4 hdt hlt;go_enter Tryz.func56,Tryz.ntmps56;go_wp2_with (fail);(with_reducible refine(HC.out).mono ?_);rintro e w2 ⟨hb2,rfl⟩;have HB:=Lib.hid hb2;clear hb2;go_wp2;go_ret2;exact HP.out _ HB.out
  . rw[if_neg hk]at hE;have hne:((x.toNat:Int) != (k.toNat:Int))=true:=by
     simp only[bne_iff_ne,ne_eq];intro e;exact hk (UInt8.toNat_inj.1 (by omega))
    have HP:=Lib.hid (hno 13 hE (by omega));obtain⟨HC,H,HO,HE,HBB,Hno,Hx,Hk⟩:=hid8 hC h hO hE hBB hno hx hk;clear hC h hO hE hBB hno hx hk;go_enter Tryz.func56,Tryz.ntmps56;go_wp2_with (fail);(with_reducible refine(HC.out).mono ?_);rintro e w2 ⟨hb2,rfl⟩;have HB:=Lib.hid hb2;clear hb2;go_wp2;go_ret2;exact HP.out _ HB.out
def Acl (k:UInt8) (l:List UInt8) (w:World) (e:Ending) (w':World):Prop:=Below w.heap.size w w'/\
 if Cm k l≠0 then e=.returned (.tuple #[.agg Aj,.int .i64 (Cm k l)])else match Da (Cx l)with
 | .bad c _=>e=.returned (.tuple #[.agg Aj,.int .i64 c])
 | .ok v _=> ∃cs:List Value,e=.returned (.tuple #[.agg cs.toArray,.int .i64 0])/\Ap w.heap.size w' (dV v) cs
set_option maxRecDepth 100000 in
theorem Vl (HCp: ∀v,Mb v) (k:UInt8) (l:List UInt8) (a:Option Addr) (n c:Nat) (w:World) (h:Ae w w.heap.size (.row 1 (dB l)) [.slice a n c]) (hc:n<=c) (hl:l.length<=15000000):
 Calls Tryz.prog 33 #[.int .u8 k.toNat,.slice a n c] w (Acl k l w):=by
 have hI0:=RBx.start w;obtain⟨wi,hwi⟩: ∃wi,w.alloc (.cells Aj 39)=wi:=⟨_,rfl⟩;rw[hwi]at hI0;have hB:=Vk k l a n c wi ((h.below hI0.below).more hI0.below.size) hc (by omega);unfold M9 at hB;unfold Acl;have hlB:=Ic l;by_cases hE:Cm k l=0;rotate_left
 . simp only[if_neg hE]at hB;simp only[if_pos (show Cm k l≠0 from hE)];have e1:(Cm k l != 0)=true:=by simpa using hE
   generalize Cm k l=E at hB e1 ⊢;obtain⟨HI0,H,HB⟩:=hid3 hI0 h hB;clear hI0 h hB;clear hE;go_enter Tryz.func33,Tryz.ntmps33;go_upto_region 1 with(fail);clear hwi;go_wp2_with (fail);(with_reducible refine(HB.out).mono ?_);rintro e w2 ⟨hb2,rfl⟩;have hI2:=HI0.out.later hb2;obtain⟨r0,r1,r2,r3,r4,r5⟩:=Ao hI2.blk;have fz:=hI2.blk.frozen;have lt1:=hI2.blk.lt;have hxf:=hI2.many (.int .i64 0) (.bool false) (.int .i64 0) (.string ⟨#[]⟩) (.slice none 0 0) (.slice none 0 0);obtain⟨HI2,Hxf⟩:=hid2 hI2 hxf;clear hI2 hxf;clear hb2;go_upto_region 3 with(fail)
   repeat go_step
   exact bodyPost_ret (A9 rfl rfl Hxf.out.blk) rfl ⟨Hxf.out.below,rfl⟩
 simp only[if_pos hE]at hB;simp only[if_neg (show ¬Cm k l≠0 from fun h=>h hE)];obtain⟨s,hs⟩: ∃s:ByteArray,s=⟨(Cx l).toArray⟩:=⟨_,rfl⟩;have hsd:s.data.toList=Cx l:=by rw[hs]
 have hEx:=fun W=>Y5 HCp s W (by rw[Lib.size_eq,hsd];omega);rw[hsd]at hEx;obtain⟨RES,hx⟩: ∃r,Da (Cx l)=r:=⟨_,rfl⟩;simp only[hx]at hEx ⊢;clear hx;obtain⟨HI0,H,HB,Hs,Hsd,HlB,HEx⟩:=hid7 hI0 h hB hs hsd hlB hEx;clear hI0 h hB hs hsd hlB hEx;clear hE;go_enter Tryz.func33,Tryz.ntmps33;go_upto_region 1 with(fail);clear hwi;go_wp2_with (fail);(with_reducible refine(HB.out).mono ?_);rintro e w2 ⟨hb2,a2,c2,rfl,hh2⟩;have hI2:=HI0.out.later hb2;have hcv:=Uo hh2;rw[<-Hs.out]at hcv;obtain⟨HI2,Hh2⟩:=hid2 hI2 hh2;clear hI2 hh2;clear hb2;go_wp2_with (fail);(with_reducible refine(HEx.out _).mono ?_);rintro e w4 ⟨hb4,hr⟩;have hI4:=HI2.out.later hb4;obtain⟨r0,r1,r2,r3,r4,r5⟩:=Ao hI4.blk;have fz:=hI4.blk.frozen;have lt1:=hI4.blk.lt;have hlow:=HI2.out.blk.lt
 cases RES with
 |bad x q=>
  simp only at hr;subst hr;have hxf:=hI4.many (.int .i64 0) (.bool false) (.int .i64 0) (.string ⟨#[]⟩) (.slice none 0 0) (.slice none 0 0);obtain⟨HI4,Hxf⟩:=hid2 hI4 hxf;clear hI4 hxf;clear hb4 hcv;dsimp only
  repeat go_step
  exact bodyPost_ret (A9 rfl rfl Hxf.out.blk) rfl ⟨Hxf.out.below,rfl⟩
 |ok v q=>
  obtain⟨cs,rfl,hf4⟩:=hr;obtain⟨pk,pb,pn,pt,pl,po⟩:=v;obtain⟨xla,xlc,xoa,xoc,rfl⟩:=Ct hf4;have hxf:=hI4.many (.int .i64 pk) (.bool pb) (.int .i64 pn) (.string pt) (.slice xla pl.length xlc) (.slice xoa po.length xoc);have hff:=hf4.keep (b':=w.heap.size) (w':=A1 w4 w.heap.size 0 [.int .i64 pk,.bool pb,.int .i64 pn,.string pt,.slice xla pl.length xlc,.slice xoa po.length xoc]) (by omega) (by rw[Ba];exact Nat.le_refl _) (fun p p1 p2=>World.cell?_of_block (Aw _ _ _ _ _ (by omega)));obtain⟨HI4,Hxf,Hff⟩:=hid3 hI4 hxf hff;clear hI4 hxf hff;clear hb4 hcv hf4;dsimp only
  repeat go_step
  exact bodyPost_ret (A9 rfl rfl Hxf.out.blk) rfl ⟨Hxf.out.below,_,rfl,Hff.out⟩
def dU (ns:List Int):List D:=ns.map fun n=> .leaf (.int .u64 n)
theorem Xy (ns:List Int):(dU ns).length=ns.length:=List.length_map ..
theorem Wf {w:World} {B n c:Nat} {ns:List Int} {a:Option Addr} (h:Ae w B (.row 1 (dU ns)) [.slice a n c]) {q:Nat} {s:Int} (hi:ns[q]? =some s):
 ∃g off,a=some ⟨g,off,none⟩/\g<B/\w.cell? ⟨g,off+q,none⟩=some (.int .u64 s):=by
 obtain⟨g,off,ea,hg,cs,h1,_,h3⟩:=h.at_ (i:=q) (d:=.leaf (.int .u64 s)) (by unfold dU;rw[List.getElem?_map,hi];rfl);obtain⟨rfl,_⟩:=h1;exact⟨g,off,ea,hg,by have:=h3 0 _ rfl;simpa using this⟩
def I9 (names:List ByteArray) (m:Nat) (v:Val):List Int:=(names.take m).map fun x=>Bo (Bd (Co x (At v)))
def Fb (names:List ByteArray) (m:Nat) (v:Val) (w:World) (e:Ending) (w':World):Prop:=Below w.heap.size w w'/\
 if Bz names m v≠0 then e=.returned (.tuple #[.slice none 0 0,.int .i64 (Bz names m v)])else
  ∃A c,e=.returned (.tuple #[.slice A m c,.int .i64 0])/\Ap w.heap.size w' (.row 1 (dU (I9 names m v))) [.slice A m c]
theorem Fb.no {names:List ByteArray} {m:Nat} {v:Val} {x:Int} {w w':World} (h:Bz names m v=x) (h0:x≠0) (hb:Below w.heap.size w w'):Fb names m v w (.returned (.tuple #[.slice none 0 0,.int .i64 x])) w':=
 ⟨hb,by rw[h,if_pos h0]⟩
theorem T9 {names:List ByteArray} {v:Val} (h:Av v=6):Ru names [] v=E1 names (At v):=by
 unfold Ru E1;rw[Bool.and_comm]
 congr 1
 refine List.all_congr rfl fun x=> ?_;unfold Gg;rw[if_pos h]
theorem All {v:Val} {x:ByteArray} (h:Av v=6):(Gg v x).getD Ll=Co x (At v):=by
 unfold Gg Co;rw[if_pos h]
theorem Akw:(Tryz.prog.info? 22).map (fun i=>(i.zero,i.size,i.bytes))=some (some (.int .u64 0),1,8):=by kernel_rfl
structure NI (w:World) (six:Array Value) (names:List ByteArray) (v:Val) (q:Nat) (wr:World) (V:Value):Prop where
 ji:JI w six wr
 row:C7 (w.heap.size+1) 22 1 wr (dU (I9 names q v)) V
theorem Ad2 {names:List ByteArray} {q:Nat} {s:ByteArray} {v:Val} (h:names[q]? =some s):I9 names (q+1) v=I9 names q v++ [Bo (Bd (Co s (At v)))]:=by
 unfold I9;rw[List.take_add_one,h];simp
theorem Wz {names:List ByteArray} {q:Nat} {v:Val} (h:q<=names.length):(I9 names q v).length=q:=by
 unfold I9;rw[List.length_map,List.length_take];omega
set_option maxRecDepth 100000 in
theorem M3 (k':Int) (b':Bool) (n':Int) (t':ByteArray) (l':List Val) (o':List (ByteArray×Val)) (la lc oa oc) (names:List ByteArray) (a:Option Addr) (n c m:Nat) (S:Nat->Prop) (w0 w:World) (hw:Below w0.heap.size w0 w)
 (h:Aq S w0 (dV (.mk k' b' n' t' l' o')) [.int .i64 k',.bool b',.int .i64 n',.string t',.slice la l'.length lc,.slice oa o'.length oc]) (hA:Ae w w.heap.size (.row 1 (dX names)) [.slice a n c]) (hl:o'.length<=100000000) (hla:names.length<=1000) (hm:m<=names.length):
 Calls Tryz.prog 34 #[.agg #[.int .i64 k',.bool b',.int .i64 n',.string t',.slice la l'.length lc,.slice oa o'.length oc],.slice a n c,.int .i64 m] w (Fb names m (.mk k' b' n' t' l' o') w):=by
 obtain rfl:=Am7 hA;have hI0:JI w #[.int .i64 k',.bool b',.int .i64 n',.string t',.slice la l'.length lc,.slice oa o'.length oc] (w.alloc (.cells #[.int .i64 k',.bool b',.int .i64 n',.string t',.slice la l'.length lc,.slice oa o'.length oc] 39)):=⟨Aa _ _,An.new w _ _⟩;obtain⟨wi,hwi⟩: ∃wi,w.alloc (.cells #[.int .i64 k',.bool b',.int .i64 n',.string t',.slice la l'.length lc,.slice oa o'.length oc] 39)=wi:=⟨_,rfl⟩;rw[hwi]at hI0;obtain⟨y0,y1,y2,y3,y4,y5⟩:=Ao hI0.box;have yl:=hI0.box.lt;by_cases hk:k'=6;rotate_left
 . have e1:(k' != 6)=true:=by simpa using hk
   have hP:=fun W (hb:Below w.heap.size w W)=>Fb.no (names:=names) (m:=m) (v:=.mk k' b' n' t' l' o') (x:=9) (w:=w) (w':=W) (by unfold Bz;rw[if_pos (show Av (.mk k' b' n' t' l' o')≠6 from hk)]) (by omega) hb;obtain⟨HI0,H,HP,HA⟩:=hid4 hI0 h hP hA;clear hI0 h hP hA;clear hk;go_enter Tryz.func34,Tryz.ntmps34;go_upto_region 1 with(fail);clear hwi;go_wp2;go_ret2;exact HP.out _ HI0.out.below
 subst hk;have hk6:Av (.mk 6 b' n' t' l' o')=6:=rfl;have hRE:Bz names m (.mk 6 b' n' t' l' o')=if E1 names o'=false then 10 else if(names.take m).all (fun x=>decide (Av (Co x o')=3))then 0 else 9:=by
  unfold Bz;rw[if_neg (show ¬Av (.mk 6 b' n' t' l' o')≠6 from fun h=>h rfl)];rfl
 have hJu:=fun(W:World) (hW:Below w.heap.size w W)=>Sd 6 b' n' t' l' o' la lc oa oc names [] a names.length c none 0 0 S w0 W (hw.trans (hW.mono hw.size)) h ((hA.below hW).more hW.size) ⟨none,0,rfl,by simp[dX], [],rfl,.inl rfl⟩ hl hla (by simp);simp only[T9 hk6]at hJu;have hHas:=fun(s:ByteArray) (W:World) (hW:Below w.heap.size w W)=>L7 6 b' n' t' l' o' la lc oa oc s S w0 W (hw.trans (hW.mono hw.size)) h hl;unfold K8 at hHas;simp only[All hk6]at hHas;change ∀W,_->Calls _ _ _ _ fun e w'=>e=.returned (.bool (E1 names o'))/\_ at hJu;by_cases hj:E1 names o'=false
 . rw[if_pos hj]at hRE;have hP:=fun W (hb:Below w.heap.size w W)=>Fb.no (w:=w) (w':=W) hRE (by omega) hb;rw[hj]at hJu;obtain⟨HI0,H,HP,HA,HJu,HHas,HRE,Hk6⟩:=hid8 hI0 h hP hA hJu hHas hRE hk6;clear hI0 h hP hA hJu hHas hRE hk6;clear hj;go_enter Tryz.func34,Tryz.ntmps34;go_upto_region 1 with(fail);clear hwi;go_wp2_with (fail);(with_reducible refine(HJu.out _ HI0.out.below).mono ?_);rintro e w2 ⟨rfl,hb2⟩;have hw2:=HI0.out.below.trans (hb2.mono HI0.out.below.size);have Hw2:=Lib.hid hw2;clear hw2;clear hb2;go_wp2;go_ret2;exact HP.out _ Hw2.out
 have hjt:E1 names o'=true:=by simpa using hj
 rw[if_neg hj]at hRE;rw[hjt]at hJu;obtain⟨j0,hji,hy0,hy1,hy2⟩:=info_parts Akw;have hs0: ∀x ∈ names.take 0,Av (Co x o')=3:=by simp
 obtain⟨HI0,H,HA,HJu,HHas,HRE,Hk6,Hji,Hy0,Hy1,Hy2,Hs0⟩:=hid12 hI0 h hA hJu hHas hRE hk6 hji hy0 hy1 hy2 hs0;clear hI0 h hA hJu hHas hRE hk6 hji hy0 hy1 hy2 hs0;clear hj hjt;go_enter Tryz.func34,Tryz.ntmps34;go_upto_region 1 with(fail);clear hwi;go_wp2_with (fail);(with_reducible refine(HJu.out _ HI0.out.below).mono ?_);rintro e w2 ⟨rfl,hb2⟩;have hN0:Hid (NI w #[.int .i64 6,.bool b',.int .i64 n',.string t',.slice la l'.length lc,.slice oa o'.length oc] names (.mk 6 b' n' t' l' o') 0 w2 (.slice none 0 0)):=Lib.hid ⟨HI0.out.call hb2,by simpa[I9,dU]using C7.nil _ _ _ _⟩;clear hb2 y0 y1 y2 y3 y4 y5 yl HJu;go_wp2_with (fail);go_loopw [8,9] (fun V i wr=> ∃q:Nat,i=.int .i64 q/\q<=m/\Hid (∀x ∈ names.take q,Av (Co x o')=3)/\Hid (NI w #[.int .i64 6,.bool b',.int .i64 n',.string t',.slice la l'.length lc,.slice oa o'.length oc] names (.mk 6 b' n' t' l' o') q wr V)) (fun _ i _=>m - (intOf i).toNat)
 case atStart=>exact⟨0,rfl,Nat.zero_le _,Hs0,hN0⟩
 case round=>
  obtain⟨q,rfl,hq,hin,hI⟩:=hrel;clear hN0 Hs0;have hq0:(0:Int)<=q:=by omega
  by_cases hlt:q<m
  . obtain⟨s,hs⟩: ∃s,names[q]? =some s:=⟨_,List.getElem?_eq_getElem (by omega)⟩;have hz:=hI.out.ji.below.size;obtain⟨g,off,rfl,hg,hk⟩:=Ai3 (HA.out.below hI.out.ji.below) hs;have hq1:(q:Int)<(m:Int):=by omega
    have hq2:(q:Int)<(names.length:Int):=by omega
    have htk:names.take (q+1)=names.take q++ [s]:=by rw[List.take_add_one,hs];simp
    have hsn:=Ad2 (v:=.mk 6 b' n' t' l' o') hs;have hln:=Wz (names:=names) (v:=.mk 6 b' n' t' l' o') (Nat.le_trans hq hm);change I9 names (q+1) (.mk 6 b' n' t' l' o')=I9 names q (.mk 6 b' n' t' l' o')++ [Bo (Bd (Co s o'))]at hsn;have hC:=fun(W:World) (hW:Below wr.heap.size wr W)=>HHas.out s W (hI.out.ji.below.trans (hW.mono hz));change ∀W,_->Calls _ _ _ _ fun e w'=>Below _ _ _/\ ∃cs:List Value,e=.returned (.tuple #[.agg cs.toArray,.bool _])/\Aq S w0 (dV (Co s o')) cs at hC;have hSw:=fun(Y:World) (hY:Below wr.heap.size wr Y)=>(show Y.cell? ⟨w.heap.size,0,none⟩=some (.int .i64 6)/\Y.cell? ⟨w.heap.size,1,none⟩=some (.bool b')/\Y.cell? ⟨w.heap.size,2,none⟩=some (.int .i64 n')/\Y.cell? ⟨w.heap.size,3,none⟩=some (.string t')/\Y.cell? ⟨w.heap.size,4,none⟩=some (.slice la l'.length lc)/\Y.cell? ⟨w.heap.size,5,none⟩=some (.slice oa o'.length oc)/\Y.cell? ⟨g,off+q,none⟩=some (.string s)by
     obtain⟨v0,v1,v2,v3,v4,v5⟩:=Ao (hI.out.ji.box.below hY hI.out.ji.box.lt);exact⟨v0,v1,v2,v3,v4,v5,(hY.cell (p:=⟨g,off+q,none⟩) (by show g<wr.heap.size;omega)).trans hk⟩)
    obtain⟨P,hP⟩: ∃P,(Gg (.mk 6 b' n' t' l' o') s).isSome=P:=⟨_,rfl⟩;simp only[hP]at hC;have hno:Av (Co s o')≠3->Bz names m (.mk 6 b' n' t' l' o')=9:=fun hx=>by
     rw[HRE.out,if_neg];rw[Bool.not_eq_true,List.all_eq_false];exact⟨s,List.mem_of_getElem? (i:=q) (by rw[List.getElem?_take,if_pos (by omega),hs]),by simpa using hx⟩
    have hin':Av (Co s o')=3->Hid (∀x ∈ names.take (q+1),Av (Co x o')=3):=fun hx=>by
     refine Lib.hid ?_;rw[htk];intro p hp;rcases List.mem_append.1 hp with h|h
     . exact hin.out p h
     . obtain rfl:=List.mem_singleton.1 h;exact hx
    obtain⟨⟨xk,xb,xn,xt,xl,xo⟩,hx⟩: ∃x,Co s o'=x:=⟨_,rfl⟩;rw[hx]at hsn hno hin';simp only[hx]at hC;change xk≠3->_ at hno;change xk=3->_ at hin';change I9 names (q+1) (.mk 6 b' n' t' l' o')=I9 names q (.mk 6 b' n' t' l' o')++ [Bo xn]at hsn;obtain⟨Hs,Hk,Htk,HC,HSw,Hno,Hin',Hsn,Hln⟩:=hid9 hs hk htk hC hSw hno hin' hsn hln;clear hs hk htk hC hSw hno hin' hsn hln;clear hin hP hx;go_upto_region 9 with(fail);go_cut [10,11] (fun p b wx=>b=.bool P/\Hid (Pa wr S w0 (.mk xk xb xn xt xl xo) p wx))
    case first=>
     refine wp_region_held_drew (S:=(fun Y=>Y.cell? ⟨w.heap.size,0,none⟩=some (.int .i64 6)/\Y.cell? ⟨w.heap.size,1,none⟩=some (.bool b')/\Y.cell? ⟨w.heap.size,2,none⟩=some (.int .i64 n')/\Y.cell? ⟨w.heap.size,3,none⟩=some (.string t')/\Y.cell? ⟨w.heap.size,4,none⟩=some (.slice la l'.length lc)/\Y.cell? ⟨w.heap.size,5,none⟩=some (.slice oa o'.length oc)/\Y.cell? ⟨g,off+q,none⟩=some (.string s))) (by kernel_rfl) (HSw.out _ (Below.drew (Below.refl _ _))) (fun hHeld=> ?_);have hbd:Below wr.heap.size wr wr.drew:=Below.drew (Below.refl _ _);have hbz:Below wr.heap.size wr (wr.alloc (.cells Aj 39)).drew:=Below.drew ((Below.refl _ _).alloc (Nat.le_refl _) (.cells Aj 39));refine tkH 0 hHeld ?_;refine tkH 1 hHeld ?_;refine tkH 2 hHeld ?_;refine tkH 3 hHeld ?_;refine tkH 4 hHeld ?_;refine wpAnyH_ready (rs:= [5,9]) (by kernel_rfl) (by simp) ?_;refine AllReadyH.cons rfl (fun K hK=> ?_) (AllReadyH.cons rfl (fun K hK=> ?_) AllReadyH.nil)
     ·
      go_simp
      (with_reducible refine(HC.out _ hbd).mono ?_)
      rintro e w7 ⟨hb7,cs7,rfl,hh7⟩;obtain⟨xla,xlc,xoa,xoc,rfl⟩:=Ip hh7;have hbr7:Below wr.heap.size wr w7:=hbd.trans (hb7.mono hbd.size);refine hK.out _ _ (HSw.out _ hbr7) (fun hHeld=> ?_);clear hK K
      try simp only[Act.put,tk1,tk2,tk3,tk4,tk5,tk6]
      refine tkH 6 hHeld ?_;refine tkH 7 hHeld ?_;refine tkH 8 hHeld ?_;refine wpAnyH_ready (rs:= [9]) (by kernel_rfl) (by simp) ?_;refine AllReadyH.cons rfl (fun K hK=> ?_) AllReadyH.nil;go_simp;refine hK.out _ _ (HSw.out _ (hbr7.alloc hbr7.size (.cells Aj 39))) (fun hHeld=> ?_);clear hK K
      try simp only[Act.put,tk1,tk2,tk3,tk4,tk5,tk6]
      refine wpAnyH_ready (rs:= [10]) (by kernel_rfl) (by simp) ?_;refine AllReadyH.cons rfl (fun K hK=> ?_) AllReadyH.nil;go_simp;refine hK.out _ _ (HSw.out _ (hbr7.alloc hbr7.size (.cells #[.int .i64 xk,.bool xb,.int .i64 xn,.string xt,.slice xla xl.length xlc,.slice xoa xo.length xoc] 39))) (fun hHeld=> ?_);clear hK K
      try simp only[Act.put,tk1,tk2,tk3,tk4,tk5,tk6]
      refine tkH 11 hHeld ?_;refine wpAnyH_done (by kernel_rfl) ?_ _;have HF:=Lib.hid (Pa.new hbr7 hh7);clear hHeld hb7 hh7 hbr7 hbz hbd;go_wp2;go_meet;exact⟨rfl,HF⟩
     ·
      go_simp;refine hK.out _ _ (HSw.out _ hbz) (fun hHeld=> ?_);clear hK K
      try simp only[Act.put,tk1,tk2,tk3,tk4,tk5,tk6]
      refine wpAnyH_ready (rs:= [5]) (by kernel_rfl) (by simp) ?_;refine AllReadyH.cons rfl (fun K hK=> ?_) AllReadyH.nil;go_simp
      (with_reducible refine(HC.out _ hbz).mono ?_)
      rintro e w7 ⟨hb7,cs7,rfl,hh7⟩;obtain⟨xla,xlc,xoa,xoc,rfl⟩:=Ip hh7;have hbr7:Below wr.heap.size wr w7:=hbz.trans (hb7.mono hbz.size);refine hK.out _ _ (HSw.out _ hbr7) (fun hHeld=> ?_);clear hK K
      try simp only[Act.put,tk1,tk2,tk3,tk4,tk5,tk6]
      refine tkH 6 hHeld ?_;refine tkH 7 hHeld ?_;refine tkH 8 hHeld ?_;refine wpAnyH_ready (rs:= [10]) (by kernel_rfl) (by simp) ?_;refine AllReadyH.cons rfl (fun K hK=> ?_) AllReadyH.nil;have hxR:An w7 wr.heap.size 39 Aj:=(An.new wr 39 Aj).drew.below hb7 (An.lt (An.new wr 39 Aj).drew);obtain⟨c0,c1,c2,c3,c4,c5⟩:=Ao hxR;have fz:=hxR.frozen;have hRl:=hxR.lt;go_simp;refine hK.out _ _ (HSw.out _ (Ak [.int .i64 xk,.bool xb,.int .i64 xn,.string xt,.slice xla xl.length xlc,.slice xoa xo.length xoc] hbr7 (Nat.le_refl _) (o:=0))) (fun hHeld=> ?_);clear hK K
      try simp only[Act.put,tk1,tk2,tk3,tk4,tk5,tk6]
      refine tkH 11 hHeld ?_;refine wpAnyH_done (by kernel_rfl) ?_ _;have HF:=Lib.hid (Pa.old hbr7 hh7 hxR (Nat.le_refl _));clear c0 c1 c2 c3 c4 c5 fz hxR hHeld hb7 hh7 hbr7 hbz hbd hRl;go_wp2;go_meet;exact⟨rfl,HF⟩
    case rest=>
     obtain⟨rfl,hH⟩:=hcut;have hJ:=hI.out.ji.has hH.out;obtain⟨R,cs,rfl,hR,hbR,hxR,hhR⟩:=hH.out;obtain⟨xla,xlc,xoa,xoc,rfl⟩:=Ip hhR;have x0:=hxR.cell 0;have x2:=hxR.cell 2;have xl':=hxR.lt;by_cases hx3:xk=3;rotate_left
     . have e3:(xk != 3)=true:=by simpa using hx3
       have hP:=Fb.no (w:=w) (w':=wc) (Hno.out hx3) (by omega) hJ.below;obtain⟨HP,HJ,HbR,HxR,HhR⟩:=hid5 hP hJ hbR hxR hhR;clear hP hJ hbR hxR hhR;clear hH HC HSw Hin' hI hx3 Hno;go_wp2;go_ret2;exact HP.out
     subst hx3;have hn:=Hin'.out rfl;have ewr:=U1 xn;have hrow:=hI.out.row;obtain⟨aV,cV,rfl⟩:=hrow.slice_n (n:=q) (by rw[Xy];exact Hln.out);have hrd:=Ln (An.new wc 22 #[.int .u64 (Bo xn)]);have hbe:Below wr.heap.size wr (wc.alloc (.cells #[.int .u64 (Bo xn)] 22)):=hbR.alloc hbR.size _;have hlo:(dU (I9 names q (.mk 6 b' n' t' l' o'))).length+1<=maxLen/\((dU (I9 names q (.mk 6 b' n' t' l' o'))).length+1)*8<=140737488355328:=by rw[Xy,Hln.out];exact⟨by simp only[maxLen];omega,by omega⟩
     have hge:w.heap.size+1<=wr.heap.size:=hI.out.ji.box.lt;have hJa:=hJ.call (Aa wc (.cells #[.int .u64 (Bo xn)] 22));obtain⟨Hrd,Hbe,Hlo,Hrow,Hge,HJa,HbR,HxR,HhR,HJ⟩:=hid10 hrd hbe hlo hrow hge hJa hbR hxR hhR hJ;clear hrd hbe hlo hrow hge hJa hbR hxR hhR hJ;clear hH HC HSw Hin' hI Hno;go_wp2_with (at_builtin;apply Shut.out);unfold Shut;refine Do (d:=.leaf (.int .u64 (Bo xn))) (cs:= [.int .u64 (Bo xn)]) rfl (.tmp 36) (.tmp 40) 77 rfl Tryz.underlying77 Hji.out Hy0.out Hy1.out Hy2.out rfl (by omega) rfl Hrow.out Hge.out Hbe.out rfl (fun _ _ _=>⟨rfl,rfl⟩) rfl Hrd.out Hlo.out.1 Hlo.out.2 ?_;intro V6 w6 hrow6 hg6 hat6;have hNI:Hid (NI w #[.int .i64 6,.bool b',.int .i64 n',.string t',.slice la l'.length lc,.slice oa o'.length oc] names (.mk 6 b' n' t' l' o') (q+1) w6 V6):=by
      refine Lib.hid ⟨⟨Jy HJa.out.below hg6 Hrow.out (Nat.le_succ _) HJa.out.below.size,Dc HJa.out.box hg6 Hrow.out (Nat.lt_succ_self _)⟩, ?_⟩;rw[Hsn.out];simpa[dU]using hrow6
     clear hrow6 hg6 hat6;go_wp2;go_roundw
     case rel=>exact⟨q+1,by go_num,by omega,hn,hNI⟩
     case measure=>simp only[intOf];omega
  . obtain rfl:q=m:=by omega
    have hln:=Wz (names:=names) (v:=.mk 6 b' n' t' l' o') hm;have hyes:Bz names q (.mk 6 b' n' t' l' o')=0:=by
     rw[HRE.out,if_pos];rw[List.all_eq_true];intro x hx;simpa using hin.out x hx
    obtain⟨aV,cV,rfl⟩:=hI.out.row.slice_n (n:=q) (by rw[Xy];exact hln);obtain⟨a',c',e',_,hfr,_⟩:=hI.out.row.close;rw[Xy,hln]at e' hfr;obtain⟨rfl,rfl⟩:aV=a'/\cV=c':=by simpa using e'
    have hP:Fb names q (.mk 6 b' n' t' l' o') w (.returned (.tuple #[.slice aV q cV,.int .i64 0])) wr:=⟨hI.out.ji.below,by
     rw[if_neg (show ¬Bz names q (.mk 6 b' n' t' l' o')≠0 from fun h=>h hyes)];exact⟨_,_,rfl,hfr.keep (Nat.le_succ _) (Nat.le_refl _) (fun _ _ _=>rfl)⟩⟩
    have HP:=Lib.hid hP;clear hP;clear hin hI e' hfr hyes;go_wp2;go_ret2;exact HP.out
end Go.Proofs.YtackmnbpfbaemaaGreatDoor
