/- Parts: The last step of a law's row: the answer is true and the arguments read as they did. No condition. -/
import Derived.Laws.EntriesVeiled
import Derived.ChangeSame
import Derived.WideKeyArgs
import Derived.OpenShut
import Derived.Test.YtmglfdckpjegdaaGreatDoorKMu24
set_option maxHeartbeats 20000000
namespace Go.Proofs.YtmglfdckpjegdaaGreatDoor
open Go Go.RowKit
abbrev Ex:TypeId:=103
abbrev Dw:TypeId:=58
abbrev F4 (k:Int) (f n:Nat) (rd wr:Value):Value:=.agg #[.int .i64 k,.slice (some ⟨f,0,none⟩) n n,rd,wr]
theorem R9 (k:Int) (w:World):Calls Tryz.prog 65 #[.int .i64 k] w fun e w'=>Below w.heap.size w w'/\ ∃f,e=.returned (F4 k f 2 (.func (.func 105) #[] #[]) (.func (.func 107) #[] #[]))/\
 w.heap.size<=f/\Al w' f Ex #[.string Ar,.int .i64 0,.string Fb,.int .i64 0]:=by
 go_enter Tryz.func65,Tryz.ntmps65;go_wp2;have h:=Al.new (w.alloc (.cells #[.int .i64 k,.slice (some ⟨w.heap.size+1,0,none⟩) 2 2,.func (.func 105) #[] #[],.func (.func 107) #[] #[]] 97)) Ex #[.string Ar,.int .i64 0,.string Fb,.int .i64 0];rw[World.size_alloc]at h;exact bodyPost_ret (v:=F4 k (w.heap.size+1) 2 (.func (.func 105) #[] #[]) (.func (.func 107) #[] #[])) (by simp[results,Tryz.results65,go_sem]) rfl ⟨((Below.refl _ _).alloc (Nat.le_refl _) _).alloc (by simp) _,_,rfl,by omega,h⟩
theorem X4 (w:World):Calls Tryz.prog 75 #[] w fun e w'=>Below w.heap.size w w'/\ ∃f,e=.returned (F4 4 f 3 (.func (.func 108) #[] #[]) (.func (.func 109) #[] #[]))/\
 w.heap.size<=f/\Al w' f Ex #[.string Ln,.int .i64 1,.string Ar,.int .i64 0,.string C4,.int .i64 1]:=by
 go_enter Tryz.func75,Tryz.ntmps75;go_wp2;have h:=Al.new (w.alloc (.cells #[.int .i64 4,.slice (some ⟨w.heap.size+1,0,none⟩) 3 3,.func (.func 108) #[] #[],.func (.func 109) #[] #[]] 97)) Ex #[.string Ln,.int .i64 1,.string Ar,.int .i64 0,.string C4,.int .i64 1];rw[World.size_alloc]at h;exact bodyPost_ret (v:=F4 4 (w.heap.size+1) 3 (.func (.func 108) #[] #[]) (.func (.func 109) #[] #[])) (by simp[results,Tryz.results75,go_sem]) rfl ⟨((Below.refl _ _).alloc (Nat.le_refl _) _).alloc (by simp) _,_,rfl,by omega,h⟩
theorem Wk (fn gn:Fn) (c1 c2:Array Value) (w:World):Calls Tryz.prog 76 #[.func fn #[] c1,.func gn #[] c2] w fun e w'=>Below w.heap.size w w'/\ ∃f r x,e=.returned (F4 7 f 2 (.func (.func 111) #[] #[.pointer (some ⟨r,0,none⟩)]) (.func (.func 112) #[] #[.pointer (some ⟨x,0,none⟩)]))/\
 (w.heap.size<=f/\w.heap.size<=r/\w.heap.size<=x)/\Al w' f Ex #[.string Gu,.int .i64 0,.string Me,.int .i64 1]/\Al w' r 110 #[.func fn #[] c1]/\Al w' x 39 #[.func gn #[] c2]:=by
 have hr:=Al.new w 110 #[.func fn #[] c1];have hx:=Al.new (w.alloc (.cells #[.func fn #[] c1] 110)) 39 #[.func gn #[] c2];have h:=Al.new (((w.alloc (.cells #[.func fn #[] c1] 110)).alloc (.cells #[.func gn #[] c2] 39)).alloc (.cells #[.int .i64 7,.slice (some ⟨w.heap.size+1+1+1,0,none⟩) 2 2,.func (.func 111) #[] #[.pointer (some ⟨w.heap.size,0,none⟩)],.func (.func 112) #[] #[.pointer (some ⟨w.heap.size+1,0,none⟩)]] 97)) Ex #[.string Gu,.int .i64 0,.string Me,.int .i64 1];rw[World.size_alloc]at hx;rw[World.size_alloc,World.size_alloc,World.size_alloc]at h;obtain⟨Hr,Hx,H⟩:=hid3 hr hx h;clear hr hx h;go_enter Tryz.func76,Tryz.ntmps76;go_wp2;refine bodyPost_ret (v:=F4 7 (w.heap.size+1+1+1) 2 (.func (.func 111) #[] #[.pointer (some ⟨w.heap.size,0,none⟩)]) (.func (.func 112) #[] #[.pointer (some ⟨w.heap.size+1,0,none⟩)])) (by simp[results,Tryz.results76,go_sem]) rfl
  ⟨((((Below.refl _ _).alloc (Nat.le_refl _) _).alloc (by simp) _).alloc (by simp;omega) _).alloc (by simp;omega) _,_,_,_,rfl,⟨by omega,by omega,by omega⟩,H.out,((Hr.out.alloc _).alloc _).alloc _,(Hx.out.alloc _).alloc _⟩
structure Shp (w:World) (g A R W:Nat) (F:Nat->Nat):Prop where
 map:Da Value.string w g [(P8,F4 1 (F 1) 2 (.func (.func 105) #[] #[]) (.func (.func 107) #[] #[])),
  (P5,F4 5 (F 5) 2 (.func (.func 105) #[] #[]) (.func (.func 107) #[] #[])),
  (P6,F4 2 (F 2) 1 (.func (.func 66) #[] #[]) (.func (.func 68) #[] #[])),
  (P7,F4 3 (F 3) 2 (.func (.func 69) #[] #[]) (.func (.func 72) #[] #[])),
  (Ll,F4 6 (F 6) 2 (.func (.func 73) #[] #[]) (.func (.func 74) #[] #[])),
  (O1,F4 4 (F 4) 3 (.func (.func 108) #[] #[]) (.func (.func 109) #[] #[])),
  (Oj,F4 7 (F 7) 2 (.func (.func 111) #[] #[.pointer (some ⟨R,0,none⟩)]) (.func (.func 112) #[] #[.pointer (some ⟨W,0,none⟩)]))]
 all_:Al w A Dw #[.map (some g)]
 rd:Al w R 110 #[.func (.func 77) #[] #[.pointer (some ⟨A,0,none⟩)]]
 wr:Al w W 39 #[.func (.func 78) #[] #[.pointer (some ⟨A,0,none⟩)]]
 f1:Al w (F 1) Ex #[.string Ar,.int .i64 0,.string Fb,.int .i64 0]
 f5:Al w (F 5) Ex #[.string Ar,.int .i64 0,.string Fb,.int .i64 0]
 f2:Al w (F 2) Ex #[.string Ar,.int .i64 0]
 f3:Al w (F 3) Ex #[.string Od,.int .i64 0,.string Ar,.int .i64 0]
 f6:Al w (F 6) Ex #[.string Dn,.int .i64 0,.string Nj,.int .i64 0]
 f4:Al w (F 4) Ex #[.string Ln,.int .i64 1,.string Ar,.int .i64 0,.string C4,.int .i64 1]
 f7:Al w (F 7) Ex #[.string Gu,.int .i64 0,.string Me,.int .i64 1]
theorem Shp.below {w w':World} {g A R W:Nat} {F:Nat->Nat} (h:Shp w g A R W F) (hb:Below w.heap.size w w'):Shp w' g A R W F:=
 ⟨h.map.below hb h.map.lt,h.all_.below hb h.all_.lt,h.rd.below hb h.rd.lt,h.wr.below hb h.wr.lt,h.f1.below hb h.f1.lt,h.f5.below hb h.f5.lt,h.f2.below hb h.f2.lt,h.f3.below hb h.f3.lt,h.f6.below hb h.f6.lt,h.f4.below hb h.f4.lt,h.f7.below hb h.f7.lt⟩
theorem Ck:MKey Tryz.prog 9 Value.string:=Ti Tryz.underlying9
structure SS (w:World) (g A:Nat) (wr:World) (kv:List (ByteArray×Value)):Prop where
 below:Below w.heap.size w wr
 map:Da Value.string wr g kv
 var:Al wr A Dw #[.map none]
 ge:w.heap.size<=g/\g≠A
theorem SS.call {w wr w':World} {g A:Nat} {kv:List (ByteArray×Value)} (h:SS w g A wr kv) (hb:Below wr.heap.size wr w'):SS w g A w' kv:=
 ⟨h.below.trans (hb.mono h.below.size),h.map.below hb h.map.lt,h.var.below hb h.var.lt,h.ge⟩
theorem SS.ins {w wr w':World} {g A:Nat} {kv kv':List (ByteArray×Value)} (h:SS w g A wr kv) (hM:Da Value.string w' g kv') (hg:wr.grownBy w' (some g)):SS w g A w' kv':=
 ⟨h.below.grown hg h.below.size fun k e=>by cases e;exact h.ge.1,hM,h.var.grown hg (by simpa using Ne.symm h.ge.2),h.ge⟩
theorem Dc {a k:ByteArray} {v:Value} {r:List (ByteArray×Value)} (h:a≠k) (hr:Dt a r=none):Dt a ((k,v)::r)=none:=by
 simp only[Dt,if_neg h];exact hr
set_option maxRecDepth 100000 in
theorem R3 (w:World):Calls Tryz.prog 34 #[] w fun e w'=>Below w.heap.size w w'/\ ∃g A R W F,e=.returned (.map (some g))/\Shp w' g A R W F:=by
 have hmm:=fun W=>run_makeMap (P:=Tryz.prog) Dw W;go_enter Tryz.func34,Tryz.ntmps34;go_upto_region 2 with(fail);have hS0:SS w (w.heap.size+1) w.heap.size ((w.alloc (.cells #[.map none] Dw)).alloc (.map #[] 0)) []:=by
  have:=Da.new (f:=Value.string) (w.alloc (.cells #[.map none] Dw));rw[World.size_alloc]at this;exact⟨((Below.refl _ _).alloc (Nat.le_refl _) _).alloc (by simp) _,this,(Al.new _ _ _).alloc _,by omega,by omega⟩
 have h0s:((w.alloc (.cells #[.map none] Dw)).alloc (.map #[] 0)).heap.size=w.heap.size+1+1:=by simp
 obtain⟨HS0,H0s⟩:=hid2 hS0 h0s;clear hS0 h0s;go_wp2_with (fail);(with_reducible refine(R9 1 _).mono ?_);rintro e w1 ⟨hb1,f1,rfl,hf1,k1⟩;rw[H0s.out]at hf1;have HS1:=Lib.hid (HS0.out.call hb1);have K1:=Lib.hid k1;clear hb1 k1;go_wp2_with ((with_reducible refine Bx rfl (.tmp 2) _ _ Dw rfl Ck Tryz.underlying58 rfl HS1.out.map rfl rfl rfl ?_);intro w2 hM2 hg2 hs2);have HS2:=Lib.hid (HS1.out.ins hM2 hg2);have K12:=Lib.hid (K1.out.grown hg2 (by simp;omega));have hz2:w.heap.size+1+1<=w2.heap.size:=by have:=K1.out.lt;omega
 clear hM2 hg2 hs2 K1 HS1 HS0;go_wp2_with (fail);(with_reducible refine(R9 5 _).mono ?_);rintro e w3 ⟨hb3,f5,rfl,hf5,k5⟩;have HS3:=Lib.hid (HS2.out.call hb3);have K13:=Lib.hid (K12.out.below hb3 K12.out.lt);have K53:=Lib.hid k5;clear hb3 k5 K12 HS2;go_wp2_with (first
  |((with_reducible refine Bx rfl (.tmp 2) _ _ Dw rfl Ck Tryz.underlying58 rfl HS3.out.map rfl rfl (Dc (by decide) rfl) ?_);intro w4 hM4 hg4 hs4;have HS4:=Lib.hid (HS3.out.ins hM4 hg4);have K14:=Lib.hid (K13.out.grown hg4 (by simp;omega));have K54:=Lib.hid (K53.out.grown hg4 (by simp;omega));have hz4:w.heap.size+1+1<=w4.heap.size:=(by have:=K14.out.lt;omega);clear hM4 hg4 hs4 HS3 K13 K53)
  |(((with_reducible refine Bx rfl (.tmp 2) _ _ Dw rfl Ck Tryz.underlying58 rfl (HS4.out.call (Aa w4 (.cells #[.string Ar,.int .i64 0] Ex))).map rfl rfl (Dc (by decide) (Dc (by decide) rfl)) ?_));intro w5 hM5 hg5 hs5;have HS5:=Lib.hid ((HS4.out.call (Aa w4 (.cells #[.string Ar,.int .i64 0] Ex))).ins hM5 hg5);have K15:=Lib.hid ((K14.out.alloc (.cells #[.string Ar,.int .i64 0] Ex)).grown hg5 (by simp;omega));have K55:=Lib.hid ((K54.out.alloc (.cells #[.string Ar,.int .i64 0] Ex)).grown hg5 (by simp;omega));have K25:=Lib.hid ((Al.new w4 Ex #[.string Ar,.int .i64 0]).grown hg5 (by simp;omega));have hz5:w.heap.size+1+1<=w5.heap.size:=(by have:=K15.out.lt;omega);clear hM5 hg5 hs5 HS4 K14 K54)
  |(((with_reducible refine Bx rfl (.tmp 2) _ _ Dw rfl Ck Tryz.underlying58 rfl (HS5.out.call (Aa w5 (.cells #[.string Od,.int .i64 0,.string Ar,.int .i64 0] Ex))).map rfl rfl (Dc (by decide) (Dc (by decide) (Dc (by decide) rfl))) ?_));intro w6 hM6 hg6 hs6;have HS6:=Lib.hid ((HS5.out.call (Aa w5 (.cells #[.string Od,.int .i64 0,.string Ar,.int .i64 0] Ex))).ins hM6 hg6);have K16:=Lib.hid ((K15.out.alloc (.cells #[.string Od,.int .i64 0,.string Ar,.int .i64 0] Ex)).grown hg6 (by simp;omega));have K56:=Lib.hid ((K55.out.alloc (.cells #[.string Od,.int .i64 0,.string Ar,.int .i64 0] Ex)).grown hg6 (by simp;omega));have K26:=Lib.hid ((K25.out.alloc (.cells #[.string Od,.int .i64 0,.string Ar,.int .i64 0] Ex)).grown hg6 (by simp;omega));have K36:=Lib.hid ((Al.new w5 Ex #[.string Od,.int .i64 0,.string Ar,.int .i64 0]).grown hg6 (by simp;omega));have hz6:w.heap.size+1+1<=w6.heap.size:=(by have:=K16.out.lt;omega);clear hM6 hg6 hs6 HS5 K15 K55 K25)
  |(((with_reducible refine Bx rfl (.tmp 2) _ _ Dw rfl Ck Tryz.underlying58 rfl (HS6.out.call (Aa w6 (.cells #[.string Dn,.int .i64 0,.string Nj,.int .i64 0] Ex))).map rfl rfl (Dc (by decide) (Dc (by decide) (Dc (by decide) (Dc (by decide) rfl)))) ?_));intro w7 hM7 hg7 hs7;have HS7:=Lib.hid ((HS6.out.call (Aa w6 (.cells #[.string Dn,.int .i64 0,.string Nj,.int .i64 0] Ex))).ins hM7 hg7);have K17:=Lib.hid ((K16.out.alloc (.cells #[.string Dn,.int .i64 0,.string Nj,.int .i64 0] Ex)).grown hg7 (by simp;omega));have K57:=Lib.hid ((K56.out.alloc (.cells #[.string Dn,.int .i64 0,.string Nj,.int .i64 0] Ex)).grown hg7 (by simp;omega));have K27:=Lib.hid ((K26.out.alloc (.cells #[.string Dn,.int .i64 0,.string Nj,.int .i64 0] Ex)).grown hg7 (by simp;omega));have K37:=Lib.hid ((K36.out.alloc (.cells #[.string Dn,.int .i64 0,.string Nj,.int .i64 0] Ex)).grown hg7 (by simp;omega));have K67:=Lib.hid ((Al.new w6 Ex #[.string Dn,.int .i64 0,.string Nj,.int .i64 0]).grown hg7 (by simp;omega));have hz7:w.heap.size+1+1<=w7.heap.size:=(by have:=K17.out.lt;omega);clear hM7 hg7 hs7 HS6 K16 K56 K26 K36))
 (with_reducible refine(X4 _).mono ?_);rintro e w8 ⟨hb8,f4,rfl,hf4,k4⟩;have HS8:=Lib.hid (HS7.out.call hb8);have K18:=Lib.hid (K17.out.below hb8 K17.out.lt);have K58:=Lib.hid (K57.out.below hb8 K57.out.lt);have K28:=Lib.hid (K27.out.below hb8 K27.out.lt);have K38:=Lib.hid (K37.out.below hb8 K37.out.lt);have K68:=Lib.hid (K67.out.below hb8 K67.out.lt);have K48:=Lib.hid k4;clear hb8 k4 HS7 K17 K57 K27 K37 K67;go_wp2_with ((with_reducible refine Bx rfl (.tmp 2) _ _ Dw rfl Ck Tryz.underlying58 rfl HS8.out.map rfl rfl (Dc (by decide) (Dc (by decide) (Dc (by decide) (Dc (by decide) (Dc (by decide) rfl))))) ?_);intro w9 hM9 hg9 hs9;have HS9:=Lib.hid (HS8.out.ins hM9 hg9);have K19:=Lib.hid (K18.out.grown hg9 (by simp;omega));have K59:=Lib.hid (K58.out.grown hg9 (by simp;omega));have K29:=Lib.hid (K28.out.grown hg9 (by simp;omega));have K39:=Lib.hid (K38.out.grown hg9 (by simp;omega));have K69:=Lib.hid (K68.out.grown hg9 (by simp;omega));have K49:=Lib.hid (K48.out.grown hg9 (by simp;omega));have hz9:w.heap.size+1+1<=w9.heap.size:=(by have:=K19.out.lt;omega);clear hM9 hg9 hs9 HS8 K18 K58 K28 K38 K68 K48);(with_reducible refine(Wk _ _ _ _ _).mono ?_);rintro e w10 ⟨hb10,f7,r,x,rfl,⟨hf7,hr,hx⟩,k7,kr,kx⟩;have HSa:=Lib.hid (HS9.out.call hb10);have K1a:=Lib.hid (K19.out.below hb10 K19.out.lt);have K5a:=Lib.hid (K59.out.below hb10 K59.out.lt);have K2a:=Lib.hid (K29.out.below hb10 K29.out.lt);have K3a:=Lib.hid (K39.out.below hb10 K39.out.lt);have K6a:=Lib.hid (K69.out.below hb10 K69.out.lt);have K4a:=Lib.hid (K49.out.below hb10 K49.out.lt);obtain⟨K7,Kr,Kx⟩:=hid3 k7 kr kx;clear k7 kr kx;clear hb10 HS9 K19 K59 K29 K39 K69 K49;go_wp2_with ((with_reducible refine Bx rfl (.tmp 2) _ _ Dw rfl Ck Tryz.underlying58 rfl HSa.out.map rfl rfl (Dc (by decide) (Dc (by decide) (Dc (by decide) (Dc (by decide) (Dc (by decide) (Dc (by decide) rfl)))))) ?_);intro wb hMb hgb hsb;have HSb:=Lib.hid (HSa.out.ins hMb hgb);have K1b:=Lib.hid (K1a.out.grown hgb (by simp;omega));have K5b:=Lib.hid (K5a.out.grown hgb (by simp;omega));have K2b:=Lib.hid (K2a.out.grown hgb (by simp;omega));have K3b:=Lib.hid (K3a.out.grown hgb (by simp;omega));have K6b:=Lib.hid (K6a.out.grown hgb (by simp;omega));have K4b:=Lib.hid (K4a.out.grown hgb (by simp;omega));have K7b:=Lib.hid (K7.out.grown hgb (by simp;omega));have Krb:=Lib.hid (Kr.out.grown hgb (by simp;omega));have Kxb:=Lib.hid (Kx.out.grown hgb (by simp;omega));have hgA:=HSb.out.var.lt;have dA:=HSb.out.var.cell 0;have fA:=HSb.out.var.frozen 0;clear hMb hgb hsb HSa K7 Kr Kx K1a K5a K2a K3a K6a K4a);go_ret;have hbb:=HSb.out.below;refine⟨hbb.setCell (Nat.le_refl _) _,w.heap.size+1,w.heap.size,r,x,fun i=>if i=1 then f1 else if i=5 then f5 else if i=2 then w4.heap.size else if i=3 then w5.heap.size else if i=6 then w6.heap.size else if i=4 then f4 else f7,rfl, ?_⟩;exact⟨HSb.out.map.setCell (by simp) _,HSb.out.var.set_ 0 _,Krb.out.far (by simp;omega) _,Kxb.out.far (by simp;omega) _,K1b.out.far (by simp;omega) _,K5b.out.far (by simp;omega) _,K2b.out.far (by simp;omega) _,K3b.out.far (by simp;omega) _,K6b.out.far (by simp;omega) _,K4b.out.far (by simp;omega) _,K7b.out.far (by simp;omega) _⟩
def Aex (m:Mut):Prop:= ∀(cs:List Value) (w:World),Holds w w.heap.size (dM m) cs->Bm m<=100000000->
 Calls Tryz.prog 28 #[.agg cs.toArray] w fun e w'=>e=.returned (.int .i64 (Cd m))/\Below w.heap.size w w'
theorem Tx {l:List Mut} {q:Nat} {m:Mut} (h:l[q]? =some m):Bn (l.take (q+1))=Bn (l.take q)+Cd m:=by
 rw[List.take_add_one,h,Wm];simp[Bn]
theorem Sy: ∀(q:Nat) (l:List Mut),Bn (l.take q)<=Bn l
 |0,l=>by simp[Bn]
 |q+1, []=>by simp[Bn]
 |q+1,x::r=>by have:=Sy q r;simp only[List.take_succ_cons,Bn];omega
set_option maxRecDepth 100000 in
theorem Af7 (k:Int) (key dst:ByteArray) (n:Int) (had:Bool) (k1:Int) (b1:Bool) (n1:Int) (t1:ByteArray) (l1:List Val) (o1:List (ByteArray×Val)) (has:Bool) (k2:Int) (b2:Bool) (n2:Int) (t2:ByteArray) (l2:List Val) (o2:List (ByteArray×Val)) (l:List Mut) (ih: ∀x ∈ l,Aex x):Aex (Mut.mk k key dst n had (.mk k1 b1 n1 t1 l1 o1) has (.mk k2 b2 n2 t2 l2 o2) l):=by
 intro cs w hM hb;obtain⟨la1,lc1,oa1,oc1,la2,lc2,oa2,oc2,a,c,rfl,hv1,hv2,hl⟩:=Bq hM;have hsz:=Hu (Mut.mk k key dst n had (.mk k1 b1 n1 t1 l1 o1) has (.mk k2 b2 n2 t2 l2 o2) l);have hls:=Fm l;simp only[Bm]at hb;simp only[Bm,Cd]at hsz;have hI0:Hid (Below w.heap.size w (w.alloc (.cells #[.int .i64 k,.string key,.string dst,.int .i64 n,.bool had,.int .i64 k1,.bool b1,.int .i64 n1,.string t1,.slice la1 l1.length lc1,.slice oa1 o1.length oc1,.bool has,.int .i64 k2,.bool b2,.int .i64 n2,.string t2,.slice la2 l2.length lc2,.slice oa2 o2.length oc2,.slice a l.length c] 30))):=Lib.hid (Aa _ _);have hxb:=Al.new w 30 #[.int .i64 k,.string key,.string dst,.int .i64 n,.bool had,.int .i64 k1,.bool b1,.int .i64 n1,.string t1,.slice la1 l1.length lc1,.slice oa1 o1.length oc1,.bool has,.int .i64 k2,.bool b2,.int .i64 n2,.string t2,.slice la2 l2.length lc2,.slice oa2 o2.length oc2,.slice a l.length c];obtain⟨Ih,Hl,Hxb⟩:=hid3 ih hl hxb;clear ih hl hxb;clear hM hv1 hv2;go_enter Tryz.func28,Tryz.ntmps28;go_wp2_with (fail);go_loopw [3,9] (fun s i wr=> ∃q:Nat,i=.int .i64 q/\q<=l.length/\s=.int .i64 (1+(Bn (l.take q):Nat))/\Hid (Below w.heap.size w wr)) (fun _ i _=>l.length - (intOf i).toNat)
 case atStart=>exact⟨0,rfl,Nat.zero_le _,by simp[Bn],hI0⟩
 case round=>
  obtain⟨q,rfl,hq,rfl,hbw⟩:=hrel;clear hI0;by_cases hlt:q<l.length
  . obtain⟨m,hm⟩: ∃p,l[q]? =some p:=⟨_,List.getElem?_eq_getElem hlt⟩;have hmem:=List.mem_of_getElem? hm;have htk:=Tx hm;have hbm:=D1 hmem;have hsm:=Hu m;have hst:Bn (l.take q)+Cd m<=Bn l:=by rw[<-htk];exact Sy _ _
    have hC:=Ih.out m hmem;obtain⟨k',key',dst',n',had',⟨k1',b1',n1',t1',l1',o1'⟩,has',⟨k2',b2',n2',t2',l2',o2'⟩,l'⟩:=m;have hz:=hbw.out.size;obtain⟨g,off,rfl,hg,cs',hcs,_,hcell⟩:=Ki (Hl.out.below hbw.out) hm;obtain⟨la1',lc1',oa1',oc1',la2',lc2',oa2',oc2',a',c',rfl,_,_,_⟩:=Bq hcs;have hrange:wr.rangeAt g (off+q*19) [.int .i64 k',.string key',.string dst',.int .i64 n',.bool had',.int .i64 k1',.bool b1',.int .i64 n1',.string t1',.slice la1' l1'.length lc1',.slice oa1' o1'.length oc1',.bool has',.int .i64 k2',.bool b2',.int .i64 n2',.string t2',.slice la2' l2'.length lc2',.slice oa2' o2'.length oc2',.slice a' l'.length c']:=hcell;have c0_:=hcell 0 _ rfl;have c1_:=hcell 1 _ rfl;have c2_:=hcell 2 _ rfl;have c3_:=hcell 3 _ rfl;have c4_:=hcell 4 _ rfl;have c5_:=hcell 5 _ rfl;have c6_:=hcell 6 _ rfl;have c7_:=hcell 7 _ rfl;have c8_:=hcell 8 _ rfl;have c9_:=hcell 9 _ rfl;have c10_:=hcell 10 _ rfl;have c11_:=hcell 11 _ rfl;have c12_:=hcell 12 _ rfl;have c13_:=hcell 13 _ rfl;have c14_:=hcell 14 _ rfl;have c15_:=hcell 15 _ rfl;have c16_:=hcell 16 _ rfl;have c17_:=hcell 17 _ rfl;have c18_:=hcell 18 _ rfl;rw[Nat.add_zero]at c0_;have hgr:g<wr.heap.size:=by omega
    have hq1:(q:Int)<(l.length:Int):=by omega
    have hq0:(0:Int)<=q:=by omega
    have hC': ∀W,Below wr.heap.size wr W->Calls Tryz.prog 28 #[.agg #[.int .i64 k',.string key',.string dst',.int .i64 n',.bool had',.int .i64 k1',.bool b1',.int .i64 n1',.string t1',.slice la1' l1'.length lc1',.slice oa1' o1'.length oc1',.bool has',.int .i64 k2',.bool b2',.int .i64 n2',.string t2',.slice la2' l2'.length lc2',.slice oa2' o2'.length oc2',.slice a' l'.length c']] W fun e w'=>e=.returned (.int .i64 (Cd (Mut.mk k' key' dst' n' had' (.mk k1' b1' n1' t1' l1' o1') has' (.mk k2' b2' n2' t2' l2' o2') l')))/\Below W.heap.size W w':=fun W hW=>hC _ W ((hcs.below (hW.mono hz)).more (Nat.le_trans hz hW.size)) (by omega);have i1:((Bn (l.take q):Nat):Int)+((Cd (Mut.mk k' key' dst' n' had' (.mk k1' b1' n1' t1' l1' o1') has' (.mk k2' b2' n2' t2' l2' o2') l'):Nat):Int)<=1000000000:=by omega
    have i2:(0:Int)<=((Cd (Mut.mk k' key' dst' n' had' (.mk k1' b1' n1' t1' l1' o1') has' (.mk k2' b2' n2' t2' l2' o2') l'):Nat):Int):=by omega
    have htk':((Bn (l.take (q+1)):Nat):Int)=((Bn (l.take q):Nat):Int)+((Cd (Mut.mk k' key' dst' n' had' (.mk k1' b1' n1' t1' l1' o1') has' (.mk k2' b2' n2' t2' l2' o2') l'):Nat):Int):=by rw[htk];simp
    have i3:(0:Int)<=((Bn (l.take q):Nat):Int):=by omega
    generalize ((Cd (Mut.mk k' key' dst' n' had' (.mk k1' b1' n1' t1' l1' o1') has' (.mk k2' b2' n2' t2' l2' o2') l'):Nat):Int)=S at hC' i1 i2 htk';generalize ((Bn (l.take q):Nat):Int)=T at i1 htk' i3 ⊢;obtain⟨HC',Hbw,Htk'⟩:=hid3 hC' hbw htk';clear hC' hbw htk';clear hC hcs hcell hmem htk hbm hsm hst hm;go_upto_region 4 with(fail);clear c0_ c1_ c2_ c3_ c4_ c5_ c6_ c7_ c8_ c9_ c10_ c11_ c12_ c13_ c14_ c15_ c16_ c17_ c18_
    iterate 5 go_step
    refine wp_load_mid 30 (.tmp 11) rfl g (off+q*19) rfl [.int .i64 k',.string key',.string dst',.int .i64 n',.bool had',.int .i64 k1',.bool b1',.int .i64 n1',.string t1',.slice la1' l1'.length lc1',.slice oa1' o1'.length oc1',.bool has',.int .i64 k2',.bool b2',.int .i64 n2',.string t2',.slice la2' l2'.length lc2',.slice oa2' o2'.length oc2',.slice a' l'.length c'] _ hrange Tryz.underlying30 rfl (by kernel_rfl) ?_
    iterate 5 go_step
    refine Co 30 (.tmp 5) (.tmp 12) rfl #[.int .i64 k',.string key',.string dst',.int .i64 n',.bool had',.int .i64 k1',.bool b1',.int .i64 n1',.string t1',.slice la1' l1'.length lc1',.slice oa1' o1'.length oc1',.bool has',.int .i64 k2',.bool b2',.int .i64 n2',.string t2',.slice la2' l2'.length lc2',.slice oa2' o2'.length oc2',.slice a' l'.length c'] rfl rfl rfl (by kernel_rfl) (by simp[Value.oneCell']) ?_;go_upto_region 5 with(fail)
    iterate 5 go_step
    refine Ac 30 (.tmp 5) rfl wr.heap.size #[.int .i64 k',.string key',.string dst',.int .i64 n',.bool had',.int .i64 k1',.bool b1',.int .i64 n1',.string t1',.slice la1' l1'.length lc1',.slice oa1' o1'.length oc1',.bool has',.int .i64 k2',.bool b2',.int .i64 n2',.string t2',.slice la2' l2'.length lc2',.slice oa2' o2'.length oc2',.slice a' l'.length c'] (Al.new _ _ _) rfl _ Tryz.underlying30 rfl (by kernel_rfl) ?_;go_wp2_with (go_at_call 28;(with_reducible refine(HC'.out _ (Aa _ _)).mono ?_);rintro e w1 ⟨rfl,hb1⟩);have hbf:=(Hbw.out.trans ((Aa wr (.cells #[.int .i64 k',.string key',.string dst',.int .i64 n',.bool had',.int .i64 k1',.bool b1',.int .i64 n1',.string t1',.slice la1' l1'.length lc1',.slice oa1' o1'.length oc1',.bool has',.int .i64 k2',.bool b2',.int .i64 n2',.string t2',.slice la2' l2'.length lc2',.slice oa2' o2'.length oc2',.slice a' l'.length c'] 30)).mono hz)).trans (hb1.mono (by simp;omega));have HB:=Lib.hid hbf;clear hb1 hbf;go_wp2;go_roundw
    case rel=>exact⟨q+1,by go_num,by omega,by rw[Htk'.out];go_num,HB⟩
    case measure=>simp only[intOf];omega
  . obtain rfl:q=l.length:=by omega
    have e1:Bn (l.take l.length)=Bn l:=by rw[List.take_length]
    rw[e1];have Hbw:=Lib.hid hbw;clear hbw;go_wp2;go_ret;exact⟨by simp[Cd],Hbw.out⟩
theorem Adh: ∀m,Aex m:=by
 refine Mut.ind ?_;intro k key dst n had was has v l IH;obtain⟨k1,b1,n1,t1,l1,o1⟩:=was;obtain⟨k2,b2,n2,t2,l2,o2⟩:=v;exact Af7 k key dst n had k1 b1 n1 t1 l1 o1 has k2 b2 n2 t2 l2 o2 l IH
def Ae0 (m:Mut):Prop:= ∀(cs:List Value) (w:World),Holds w w.heap.size (dM m) cs->Bm m<=100000000->
 Calls Tryz.prog 16 #[.agg cs.toArray] w fun e w'=>e=.returned (.int .i64 (Cd m))/\Below w.heap.size w w'
set_option maxRecDepth 100000 in
theorem Agt (k:Int) (key dst:ByteArray) (n:Int) (had:Bool) (k1:Int) (b1:Bool) (n1:Int) (t1:ByteArray) (l1:List Val) (o1:List (ByteArray×Val)) (has:Bool) (k2:Int) (b2:Bool) (n2:Int) (t2:ByteArray) (l2:List Val) (o2:List (ByteArray×Val)) (l:List Mut) (ih: ∀x ∈ l,Ae0 x):Ae0 (Mut.mk k key dst n had (.mk k1 b1 n1 t1 l1 o1) has (.mk k2 b2 n2 t2 l2 o2) l):=by
 intro cs w hM hb;obtain⟨la1,lc1,oa1,oc1,la2,lc2,oa2,oc2,a,c,rfl,hv1,hv2,hl⟩:=Bq hM;have hsz:=Hu (Mut.mk k key dst n had (.mk k1 b1 n1 t1 l1 o1) has (.mk k2 b2 n2 t2 l2 o2) l);have hls:=Fm l;simp only[Bm]at hb;simp only[Bm,Cd]at hsz;obtain⟨wi,hwi⟩: ∃wi,w.alloc (.cells #[.int .i64 k,.string key,.string dst,.int .i64 n,.bool had,.int .i64 k1,.bool b1,.int .i64 n1,.string t1,.slice la1 l1.length lc1,.slice oa1 o1.length oc1,.bool has,.int .i64 k2,.bool b2,.int .i64 n2,.string t2,.slice la2 l2.length lc2,.slice oa2 o2.length oc2,.slice a l.length c] 30)=wi:=⟨_,rfl⟩;have hbi:Below w.heap.size w wi:=hwi▸Aa _ _;have hxb:Al wi w.heap.size 30 #[.int .i64 k,.string key,.string dst,.int .i64 n,.bool had,.int .i64 k1,.bool b1,.int .i64 n1,.string t1,.slice la1 l1.length lc1,.slice oa1 o1.length oc1,.bool has,.int .i64 k2,.bool b2,.int .i64 n2,.string t2,.slice la2 l2.length lc2,.slice oa2 o2.length oc2,.slice a l.length c]:=hwi▸Al.new _ _ _;have hI0:Hid (Below wi.heap.size wi wi):=Lib.hid (Below.refl _ _);have hgb:=hxb.lt;obtain⟨Ih,Hl,Hxb,Hbi⟩:=hid4 ih hl hxb hbi;clear ih hl hxb hbi;clear hM hv1 hv2;go_enter Tryz.func16,Tryz.ntmps16;go_wp2_with (fail);clear hwi;go_loopw [3,4] (fun s i wr=> ∃q:Nat,i=.int .i64 q/\q<=l.length/\s=.int .i64 (1+(Bn (l.take q):Nat))/\Hid (Below wi.heap.size wi wr)) (fun _ i _=>l.length - (intOf i).toNat)
 case atStart=>exact⟨0,rfl,Nat.zero_le _,by simp[Bn],hI0⟩
 case round=>
  obtain⟨q,rfl,hq,rfl,hbr⟩:=hrel;clear hI0;have hbw:=Hbi.out.trans (hbr.out.mono Hbi.out.size);have y18:=(Hxb.out.below hbr.out Hxb.out.lt).cell 18;by_cases hlt:q<l.length
  . obtain⟨m,hm⟩: ∃p,l[q]? =some p:=⟨_,List.getElem?_eq_getElem hlt⟩;have hmem:=List.mem_of_getElem? hm;have htk:=Tx hm;have hbm:=D1 hmem;have hsm:=Hu m;have hst:Bn (l.take q)+Cd m<=Bn l:=by rw[<-htk];exact Sy _ _
    have hC:=Ih.out m hmem;obtain⟨k',key',dst',n',had',⟨k1',b1',n1',t1',l1',o1'⟩,has',⟨k2',b2',n2',t2',l2',o2'⟩,l'⟩:=m;have hz:=hbw.size;obtain⟨g,off,rfl,hg,cs',hcs,_,hcell⟩:=Ki (Hl.out.below hbw) hm;obtain⟨la1',lc1',oa1',oc1',la2',lc2',oa2',oc2',a',c',rfl,_,_,_⟩:=Bq hcs;have hrange:wr.rangeAt g (off+q*19) [.int .i64 k',.string key',.string dst',.int .i64 n',.bool had',.int .i64 k1',.bool b1',.int .i64 n1',.string t1',.slice la1' l1'.length lc1',.slice oa1' o1'.length oc1',.bool has',.int .i64 k2',.bool b2',.int .i64 n2',.string t2',.slice la2' l2'.length lc2',.slice oa2' o2'.length oc2',.slice a' l'.length c']:=hcell;have hgr:g<wr.heap.size:=by omega
    have hq1:(q:Int)<(l.length:Int):=by omega
    have hq0:(0:Int)<=q:=by omega
    have hC': ∀W,Below wr.heap.size wr W->Calls Tryz.prog 16 #[.agg #[.int .i64 k',.string key',.string dst',.int .i64 n',.bool had',.int .i64 k1',.bool b1',.int .i64 n1',.string t1',.slice la1' l1'.length lc1',.slice oa1' o1'.length oc1',.bool has',.int .i64 k2',.bool b2',.int .i64 n2',.string t2',.slice la2' l2'.length lc2',.slice oa2' o2'.length oc2',.slice a' l'.length c']] W fun e w'=>e=.returned (.int .i64 (Cd (Mut.mk k' key' dst' n' had' (.mk k1' b1' n1' t1' l1' o1') has' (.mk k2' b2' n2' t2' l2' o2') l')))/\Below W.heap.size W w':=fun W hW=>hC _ W ((hcs.below (hW.mono hz)).more (Nat.le_trans hz hW.size)) (by omega);have i1:((Bn (l.take q):Nat):Int)+((Cd (Mut.mk k' key' dst' n' had' (.mk k1' b1' n1' t1' l1' o1') has' (.mk k2' b2' n2' t2' l2' o2') l'):Nat):Int)<=1000000000:=by omega
    have i2:(0:Int)<=((Cd (Mut.mk k' key' dst' n' had' (.mk k1' b1' n1' t1' l1' o1') has' (.mk k2' b2' n2' t2' l2' o2') l'):Nat):Int):=by omega
    have htk':((Bn (l.take (q+1)):Nat):Int)=((Bn (l.take q):Nat):Int)+((Cd (Mut.mk k' key' dst' n' had' (.mk k1' b1' n1' t1' l1' o1') has' (.mk k2' b2' n2' t2' l2' o2') l'):Nat):Int):=by rw[htk];simp
    have i3:(0:Int)<=((Bn (l.take q):Nat):Int):=by omega
    generalize ((Cd (Mut.mk k' key' dst' n' had' (.mk k1' b1' n1' t1' l1' o1') has' (.mk k2' b2' n2' t2' l2' o2') l'):Nat):Int)=S at hC' i1 i2 htk';generalize ((Bn (l.take q):Nat):Int)=T at i1 htk' i3 ⊢;have hC1:=hC' wr (Below.refl _ _);obtain⟨HC1,Hbw,Htk'⟩:=hid3 hC1 hbw htk';clear hC1 hbw htk';clear hC hC' hcs hcell hmem htk hbm hsm hst hm;go_upto_region 5 with(fail)
    iterate 17 go_step
    refine wp_load_mid 30 (.tmp 16) rfl g (off+q*19) rfl [.int .i64 k',.string key',.string dst',.int .i64 n',.bool had',.int .i64 k1',.bool b1',.int .i64 n1',.string t1',.slice la1' l1'.length lc1',.slice oa1' o1'.length oc1',.bool has',.int .i64 k2',.bool b2',.int .i64 n2',.string t2',.slice la2' l2'.length lc2',.slice oa2' o2'.length oc2',.slice a' l'.length c'] _ hrange Tryz.underlying30 rfl (by kernel_rfl) ?_;go_wp2_with (go_at_call 16;(with_reducible refine(HC1.out).mono ?_);rintro e w1 ⟨rfl,hb1⟩);have HB:=Lib.hid (hbr.out.trans (hb1.mono hbr.out.size));clear hb1;go_wp2;go_roundw
    case rel=>exact⟨q+1,by go_num,by omega,by rw[Htk'.out];go_num,HB⟩
    case measure=>simp only[intOf];omega
  . obtain rfl:q=l.length:=by omega
    have e1:Bn (l.take l.length)=Bn l:=by rw[List.take_length]
    rw[e1];have Hbw:=Lib.hid hbw;clear hbw;go_wp2;go_ret;exact⟨by simp[Cd],Hbw.out⟩
theorem Tr: ∀m,Ae0 m:=by
 refine Mut.ind ?_;intro k key dst n had was has v l IH;obtain⟨k1,b1,n1,t1,l1,o1⟩:=was;obtain⟨k2,b2,n2,t2,l2,o2⟩:=v;exact Agt k key dst n had k1 b1 n1 t1 l1 o1 has k2 b2 n2 t2 l2 o2 l IH
set_option maxRecDepth 100000 in
theorem Al3 (k k':Int) (key key' dst dst':ByteArray) (n n':Int) (had had' has has':Bool) (u0 u1 u2 u3 u4 u5 v0 v1 v2 v3 v4 v5 u0' u1' u2' u3' u4' u5' v0' v1' v2' v3' v4' v5':Value) (a a':Option Addr) (ln c ln' c':Nat) (w:World) (p:Prop) (hp: ¬p)
 (h:k≠k'\/key≠key'\/dst≠dst'\/n≠n'\/had≠had'\/has≠has'\/ln≠ln'):
 Calls Tryz.prog 21 #[.agg #[.int .i64 k,.string key,.string dst,.int .i64 n,.bool had,u0,u1,u2,u3,u4,u5,.bool has,v0,v1,v2,v3,v4,v5,.slice a ln c],.agg #[.int .i64 k',.string key',.string dst',.int .i64 n',.bool had',u0',u1',u2',u3',u4',u5',.bool has',v0',v1',v2',v3',v4',v5',.slice a' ln' c']] w (Ba p w):=by
 by_cases h1:k=k';rotate_left
 . have e:(k != k')=true:=by simpa using h1
   clear h h1;go_enter Tryz.func21,Tryz.ntmps21;go_wp2;go_ret;exact Ba.no hp (Bj _ _ _)
 subst h1;by_cases h1:key=key';rotate_left
 . have e:(key.toList != key'.toList)=true:=by simp only[bne_iff_ne];exact fun e=>h1 (by rw[Lib.toList_data,Lib.toList_data]at e;exact ByteArray.ext (Array.ext' e))
   have e2:(key.toList==key'.toList)=false:=by simpa using e
   have e3: ¬key.toList=key'.toList:=by simpa using e
   clear h h1;go_enter Tryz.func21,Tryz.ntmps21;go_wp2;go_ret;exact Ba.no hp (Bj _ _ _)
 subst h1;by_cases h1:dst=dst';rotate_left
 . have e:(dst.toList != dst'.toList)=true:=by simp only[bne_iff_ne];exact fun e=>h1 (by rw[Lib.toList_data,Lib.toList_data]at e;exact ByteArray.ext (Array.ext' e))
   have e2:(dst.toList==dst'.toList)=false:=by simpa using e
   have e3: ¬dst.toList=dst'.toList:=by simpa using e
   clear h h1;go_enter Tryz.func21,Tryz.ntmps21;go_wp2;go_ret;exact Ba.no hp (Bj _ _ _)
 subst h1;by_cases h1:n=n';rotate_left
 . have e:(n != n')=true:=by simpa using h1
   clear h h1;go_enter Tryz.func21,Tryz.ntmps21;go_wp2;go_ret;exact Ba.no hp (Bj _ _ _)
 subst h1;by_cases h1:had=had';rotate_left
 . clear h
   cases had<;>cases had'<;>first|exact absurd rfl h1|(clear h1;go_enter Tryz.func21,Tryz.ntmps21;go_wp2;go_ret;exact Ba.no hp (Bj _ _ _))
 subst h1;by_cases h1:has=has';rotate_left
 . clear h
   cases has<;>cases has'<;>first|exact absurd rfl h1|(clear h1;go_enter Tryz.func21,Tryz.ntmps21;go_wp2;go_ret;exact Ba.no hp (Bj _ _ _))
 subst h1;by_cases h1:ln=ln';rotate_left
 . have e:((ln:Int) != (ln':Int))=true:=by simp;omega
   clear h h1;go_enter Tryz.func21,Tryz.ntmps21;go_wp2;go_ret;exact Ba.no hp (Bj _ _ _)
 subst h1;simp at h
def EMA (w:World) (b1 b2:Array Value) (wr:World):Prop:=Below w.heap.size w wr/\Al wr w.heap.size 30 b1/\Al wr (w.heap.size+1) 30 b2
theorem EMA.step {w:World} {b1 b2:Array Value} {wr w4:World} (h:EMA w b1 b2 wr) (hb:Below wr.heap.size wr w4):EMA w b1 b2 w4:=⟨h.1.trans (hb.mono h.1.size),h.2.1.below hb h.2.1.lt,h.2.2.below hb h.2.2.lt⟩
def Aqh (m:Mut):Prop:= ∀(m':Mut) (cs cs':List Value) (w:World),Holds w w.heap.size (dM m) cs->Holds w w.heap.size (dM m') cs'->Bm m<=100000000->Bm m'<=100000000->
 Calls Tryz.prog 21 #[.agg cs.toArray,.agg cs'.toArray] w (Ba (m=m') w)
set_option maxRecDepth 100000 in
theorem Al4 (k:Int) (key dst:ByteArray) (n:Int) (had has:Bool) (k1:Int) (b1:Bool) (n1:Int) (t1:ByteArray) (l1:List Val) (o1:List (ByteArray×Val)) (k2:Int) (b2:Bool) (n2:Int) (t2:ByteArray) (l2:List Val) (o2:List (ByteArray×Val)) (k1':Int) (b1':Bool) (n1':Int) (t1':ByteArray) (l1':List Val) (o1':List (ByteArray×Val)) (k2':Int) (b2':Bool) (n2':Int) (t2':ByteArray) (l2':List Val) (o2':List (ByteArray×Val)) (la1 oa1:Option Addr) (lc1 oc1:Nat) (la2 oa2:Option Addr) (lc2 oc2:Nat) (la1' oa1':Option Addr) (lc1' oc1':Nat) (la2' oa2':Option Addr) (lc2' oc2':Nat) (l l':List Mut) (a a':Option Addr) (c c':Nat) (w:World)
 (hv1:Ab w w.heap.size (.mk k1 b1 n1 t1 l1 o1) [.int .i64 k1,.bool b1,.int .i64 n1,.string t1,.slice la1 l1.length lc1,.slice oa1 o1.length oc1]) (hv2:Ab w w.heap.size (.mk k2 b2 n2 t2 l2 o2) [.int .i64 k2,.bool b2,.int .i64 n2,.string t2,.slice la2 l2.length lc2,.slice oa2 o2.length oc2]) (hv1':Ab w w.heap.size (.mk k1' b1' n1' t1' l1' o1') [.int .i64 k1',.bool b1',.int .i64 n1',.string t1',.slice la1' l1'.length lc1',.slice oa1' o1'.length oc1']) (hv2':Ab w w.heap.size (.mk k2' b2' n2' t2' l2' o2') [.int .i64 k2',.bool b2',.int .i64 n2',.string t2',.slice la2' l2'.length lc2',.slice oa2' o2'.length oc2'])
 (hb1:(Val.mk k1 b1 n1 t1 l1 o1).bulk<=100000000) (hb2:(Val.mk k2 b2 n2 t2 l2 o2).bulk<=100000000) (hb1':(Val.mk k1' b1' n1' t1' l1' o1').bulk<=100000000) (hb2':(Val.mk k2' b2' n2' t2' l2' o2').bulk<=100000000)
 (hl:Holds w w.heap.size (.row 19 (Gw l)) [.slice a l.length c]) (hl':Holds w w.heap.size (.row 19 (Gw l')) [.slice a' l'.length c']) (hln:l.length=l'.length) (hbl:C3 l<=100000000) (hbl':C3 l'<=100000000) (ih: ∀x ∈ l,Aqh x):
 Calls Tryz.prog 21 #[.agg #[.int .i64 k,.string key,.string dst,.int .i64 n,.bool had,.int .i64 k1,.bool b1,.int .i64 n1,.string t1,.slice la1 l1.length lc1,.slice oa1 o1.length oc1,.bool has,.int .i64 k2,.bool b2,.int .i64 n2,.string t2,.slice la2 l2.length lc2,.slice oa2 o2.length oc2,.slice a l.length c],.agg #[.int .i64 k,.string key,.string dst,.int .i64 n,.bool had,.int .i64 k1',.bool b1',.int .i64 n1',.string t1',.slice la1' l1'.length lc1',.slice oa1' o1'.length oc1',.bool has,.int .i64 k2',.bool b2',.int .i64 n2',.string t2',.slice la2' l2'.length lc2',.slice oa2' o2'.length oc2',.slice a' l.length c']] w (Ba ((Val.mk k1 b1 n1 t1 l1 o1=.mk k1' b1' n1' t1' l1' o1'/\Val.mk k2 b2 n2 t2 l2 o2=.mk k2' b2' n2' t2' l2' o2')/\l=l') w):=by
 have hls:=Fm l;have hQ1:=fun(W:World) (hB:Below w.heap.size w W)=>Nd (.mk k1 b1 n1 t1 l1 o1) (.mk k1' b1' n1' t1' l1' o1') _ _ W (Ab.more hB.size _ _ (hv1.below hB)) (Ab.more hB.size _ _ (hv1'.below hB)) hb1 hb1';have hQ2:=fun(W:World) (hB:Below w.heap.size w W)=>Nd (.mk k2 b2 n2 t2 l2 o2) (.mk k2' b2' n2' t2' l2' o2') _ _ W (Ab.more hB.size _ _ (hv2.below hB)) (Ab.more hB.size _ _ (hv2'.below hB)) hb2 hb2';generalize (Val.mk k1 b1 n1 t1 l1 o1=.mk k1' b1' n1' t1' l1' o1')=P1 at hQ1 ⊢;generalize (Val.mk k2 b2 n2 t2 l2 o2=.mk k2' b2' n2' t2' l2' o2')=P2 at hQ2 ⊢;have hA0:EMA w #[.int .i64 k,.string key,.string dst,.int .i64 n,.bool had,.int .i64 k1,.bool b1,.int .i64 n1,.string t1,.slice la1 l1.length lc1,.slice oa1 o1.length oc1,.bool has,.int .i64 k2,.bool b2,.int .i64 n2,.string t2,.slice la2 l2.length lc2,.slice oa2 o2.length oc2,.slice a l.length c] #[.int .i64 k,.string key,.string dst,.int .i64 n,.bool had,.int .i64 k1',.bool b1',.int .i64 n1',.string t1',.slice la1' l1'.length lc1',.slice oa1' o1'.length oc1',.bool has,.int .i64 k2',.bool b2',.int .i64 n2',.string t2',.slice la2' l2'.length lc2',.slice oa2' o2'.length oc2',.slice a' l.length c'] ((w.alloc (.cells #[.int .i64 k,.string key,.string dst,.int .i64 n,.bool had,.int .i64 k1,.bool b1,.int .i64 n1,.string t1,.slice la1 l1.length lc1,.slice oa1 o1.length oc1,.bool has,.int .i64 k2,.bool b2,.int .i64 n2,.string t2,.slice la2 l2.length lc2,.slice oa2 o2.length oc2,.slice a l.length c] 30)).alloc (.cells #[.int .i64 k,.string key,.string dst,.int .i64 n,.bool had,.int .i64 k1',.bool b1',.int .i64 n1',.string t1',.slice la1' l1'.length lc1',.slice oa1' o1'.length oc1',.bool has,.int .i64 k2',.bool b2',.int .i64 n2',.string t2',.slice la2' l2'.length lc2',.slice oa2' o2'.length oc2',.slice a' l.length c'] 30)):=by
  refine⟨Bj _ _ _,(Al.new w 30 #[.int .i64 k,.string key,.string dst,.int .i64 n,.bool had,.int .i64 k1,.bool b1,.int .i64 n1,.string t1,.slice la1 l1.length lc1,.slice oa1 o1.length oc1,.bool has,.int .i64 k2,.bool b2,.int .i64 n2,.string t2,.slice la2 l2.length lc2,.slice oa2 o2.length oc2,.slice a l.length c]).alloc _, ?_⟩;have:=Al.new (w.alloc (.cells #[.int .i64 k,.string key,.string dst,.int .i64 n,.bool had,.int .i64 k1,.bool b1,.int .i64 n1,.string t1,.slice la1 l1.length lc1,.slice oa1 o1.length oc1,.bool has,.int .i64 k2,.bool b2,.int .i64 n2,.string t2,.slice la2 l2.length lc2,.slice oa2 o2.length oc2,.slice a l.length c] 30)) 30 #[.int .i64 k,.string key,.string dst,.int .i64 n,.bool had,.int .i64 k1',.bool b1',.int .i64 n1',.string t1',.slice la1' l1'.length lc1',.slice oa1' o1'.length oc1',.bool has,.int .i64 k2',.bool b2',.int .i64 n2',.string t2',.slice la2' l2'.length lc2',.slice oa2' o2'.length oc2',.slice a' l.length c']
  rwa [World.size_alloc]at this
 have h00:l.take 0=l'.take 0:=by simp
 obtain⟨HQ1,HQ2,HA0,H00,Hl,Hl',Hln,Ih⟩:=hid8 hQ1 hQ2 hA0 h00 hl hl' hln ih;clear hQ1 hQ2 hA0 h00 hl hl' hln ih;clear hv1 hv2 hv1' hv2';go_enter Tryz.func21,Tryz.ntmps21;go_wp2_with (fail);have hA01:=HA0.out.1;(with_reducible refine(HQ1.out _ hA01).mono ?_);rintro e w1 ⟨B1,rfl,hB1,hb1w⟩;have hA1:=HA0.out.step hb1w
 cases B1 with
 |false=>
  have hno: ¬((P1/\P2)/\l=l'):=fun h=>by have:=hB1.2 h.1.1;cases this
  obtain⟨HA1,Hno,HB1,Hb1w⟩:=hid4 hA1 hno hB1 hb1w;clear hA1 hno hB1 hb1w;go_wp2;go_ret;exact Ba.no Hno.out HA1.out.1
 |true=>
  have hp1:=hB1.1 rfl;have x12:=hA1.2.1.cell 12;have y12:=hA1.2.2.cell 12;have x13:=hA1.2.1.cell 13;have y13:=hA1.2.2.cell 13;have x14:=hA1.2.1.cell 14;have y14:=hA1.2.2.cell 14;have x15:=hA1.2.1.cell 15;have y15:=hA1.2.2.cell 15;have x16:=hA1.2.1.cell 16;have y16:=hA1.2.2.cell 16;have x17:=hA1.2.1.cell 17;have y17:=hA1.2.2.cell 17;have x18:=hA1.2.1.cell 18;have y18:=hA1.2.2.cell 18;have gx:=hA1.2.1.lt;have gy:=hA1.2.2.lt;obtain⟨HA1,Hp1,HB1,Hb1w⟩:=hid4 hA1 hp1 hB1 hb1w;clear hA1 hp1 hB1 hb1w;go_wp2_with (fail);have hA11:=HA1.out.1;(with_reducible refine(HQ2.out _ hA11).mono ?_);rintro e w2 ⟨B2,rfl,hB2,hb2w⟩;have hA2:=HA1.out.step hb2w;clear x12 y12 x13 y13 x14 y14 x15 y15 x16 y16 x17 y17 x18 y18 gx gy
  cases B2 with
  |false=>
   have hno: ¬((P1/\P2)/\l=l'):=fun h=>by have:=hB2.2 h.1.2;cases this
   obtain⟨HA2,Hno,HB2,Hb2w⟩:=hid4 hA2 hno hB2 hb2w;clear hA2 hno hB2 hb2w;go_wp2;go_ret;exact Ba.no Hno.out HA2.out.1
  |true=>
   have hp2:=hB2.1 rfl;have x18:=hA2.2.1.cell 18;have gx:=hA2.2.1.lt;obtain⟨HA2,Hp2,HB2,Hb2w⟩:=hid4 hA2 hp2 hB2 hb2w;clear hA2 hp2 hB2 hb2w;go_wp2_with (fail);clear x18 gx;go_loopw [5] (fun i wr=> ∃q:Nat,i=.int .i64 q/\q<=l.length/\Hid (l.take q=l'.take q)/\Hid (EMA w #[.int .i64 k,.string key,.string dst,.int .i64 n,.bool had,.int .i64 k1,.bool b1,.int .i64 n1,.string t1,.slice la1 l1.length lc1,.slice oa1 o1.length oc1,.bool has,.int .i64 k2,.bool b2,.int .i64 n2,.string t2,.slice la2 l2.length lc2,.slice oa2 o2.length oc2,.slice a l.length c] #[.int .i64 k,.string key,.string dst,.int .i64 n,.bool had,.int .i64 k1',.bool b1',.int .i64 n1',.string t1',.slice la1' l1'.length lc1',.slice oa1' o1'.length oc1',.bool has,.int .i64 k2',.bool b2',.int .i64 n2',.string t2',.slice la2' l2'.length lc2',.slice oa2' o2'.length oc2',.slice a' l.length c'] wr)) (fun i _=>l.length - (intOf i).toNat)
   case atStart=>exact⟨0,rfl,Nat.zero_le _,H00,HA2⟩
   case round=>
    obtain⟨q,rfl,hq,htk,hea⟩:=hrel;clear H00 HA2;have m1:=hea.out.2.1.cell 18;have m2:=hea.out.2.2.cell 18;have gx:=hea.out.2.1.lt;have gy:=hea.out.2.2.lt;by_cases hlt:q<l.length
    . have hlt':q<l'.length:=by have:=Hln.out;omega
      obtain⟨x,hx⟩: ∃v,l[q]? =some v:=⟨_,List.getElem?_eq_getElem hlt⟩;obtain⟨x',hx'⟩: ∃v,l'[q]? =some v:=⟨_,List.getElem?_eq_getElem hlt'⟩;have ihx:=Ih.out _ (List.mem_of_getElem? hx);have hbv:=D1 (List.mem_of_getElem? hx);have hbv':=D1 (List.mem_of_getElem? hx');have hbw:=hea.out.1;have hz:=hbw.size;have hT:=fun e=>Qx htk.out hx hx' e;have hNe:=fun e=>Vz hx hx' e;obtain⟨g,off,rfl,hg,cs1,hcs1,hn1l,hcell1⟩:=Ki (Hl.out.below hbw) hx;obtain⟨g',off',rfl,hg',cs2,hcs2,hn2l,hcell2⟩:=Ki (Hl'.out.below hbw) hx';have hC: ∀W,Below wr.heap.size wr W->Calls Tryz.prog 21 #[.agg cs1.toArray,.agg cs2.toArray] W (Ba (x=x') W):=fun W hW=>
       ihx _ _ _ W ((hcs1.below (hW.mono hz)).more (Nat.le_trans hz hW.size)) ((hcs2.below (hW.mono hz)).more (Nat.le_trans hz hW.size)) (by omega) (by omega)
      have hr1:wr.rangeAt g (off+q*19) cs1:=hcell1;have hr2:wr.rangeAt g' (off'+q*19) cs2:=hcell2;have hn1:(Tryz.prog.info? 30).map (·.size)=some cs1.length:=by rw[hn1l];kernel_rfl
      have hn2:(Tryz.prog.info? 30).map (·.size)=some cs2.length:=by rw[hn2l];kernel_rfl
      have z1:g<wr.heap.size:=by omega
      have z2:g'<wr.heap.size:=by omega
      have z5:(q:Int)<(l.length:Int):=by omega
      have z6:(0:Int)<=q:=by omega
      have hkeep: ∀W,Below wr.heap.size wr W->(fun X=>X.cell? ⟨w.heap.size,18,none⟩=some (.slice (some ⟨g,off,none⟩) l.length c)/\X.cell? ⟨w.heap.size+1,18,none⟩=some (.slice (some ⟨g',off',none⟩) l.length c')/\X.rangeAt g (off+q*19) cs1/\X.rangeAt g' (off'+q*19) cs2) W:=fun W hW=>⟨(hW.cell (p:=⟨w.heap.size,18,none⟩) gx).trans m1,(hW.cell (p:=⟨w.heap.size+1,18,none⟩) gy).trans m2,fun j v hv=>(hW.cell (p:=⟨g,off+q*19+j,none⟩) z1).trans (hr1 j v hv),fun j v hv=>(hW.cell (p:=⟨g',off'+q*19+j,none⟩) z2).trans (hr2 j v hv)⟩;obtain⟨HC,HT,HNe,Hkeep,Hr1,Hr2,Hn1l,Hn2l⟩:=hid8 hC hT hNe hkeep hr1 hr2 hn1l hn2l;clear hC hT hNe hkeep hr1 hr2 hn1l hn2l;clear hbw hcs1 hcs2 hx hx' ihx hcell1 hcell2 htk;go_upto_region 6 with(fail);refine wp_region_held_drew (S:=(fun X=>X.cell? ⟨w.heap.size,18,none⟩=some (.slice (some ⟨g,off,none⟩) l.length c)/\X.cell? ⟨w.heap.size+1,18,none⟩=some (.slice (some ⟨g',off',none⟩) l.length c')/\X.rangeAt g (off+q*19) cs1/\X.rangeAt g' (off'+q*19) cs2)) (by kernel_rfl) (Hkeep.out _ (Below.drew (Below.refl _ _))) (fun hHeld=> ?_);refine tkH 0 hHeld ?_;refine wpAnyH_take (i:=1) (v:= ?_) rfl (by kernel_rfl) (by kernel_rfl) (by kernel_rfl) (fun _ _ _ h=>h) (Or.inl ⟨by kernel_rfl, ?_⟩) hHeld ?_;rotate_left
      . intro X hSw;have e4:=hSw.1
        first|(go_simp;done)|(go_simp;with_reducible rfl)
      try simp only[Act.put,tk1,tk2,tk3,tk4,tk5,tk6]
      refine tkH 2 hHeld ?_;refine tkH 3 hHeld ?_;refine wpAnyH_take (i:=4) rfl (by kernel_rfl) (by kernel_rfl) (by kernel_rfl) (fun _ _ _ h=>h) (yieldsIf_load_mid (by kernel_rfl) 30 (.tmp 81) rfl g (off+q*19) rfl cs1 _ (fun X hX=>hX.2.2.1) Tryz.underlying30 rfl hn1) hHeld ?_
      try simp only[Act.put,tk1,tk2,tk3,tk4,tk5,tk6]
      refine tkH 5 hHeld ?_;refine wpAnyH_take (i:=6) (v:= ?_) rfl (by kernel_rfl) (by kernel_rfl) (by kernel_rfl) (fun _ _ _ h=>h) (Or.inl ⟨by kernel_rfl, ?_⟩) hHeld ?_;rotate_left
      . intro X hSw;have e4:=hSw.2.1
        first|(go_simp;done)|(go_simp;with_reducible rfl)
      try simp only[Act.put,tk1,tk2,tk3,tk4,tk5,tk6]
      refine tkH 7 hHeld ?_;refine tkH 8 hHeld ?_;refine wpAnyH_take (i:=9) rfl (by kernel_rfl) (by kernel_rfl) (by kernel_rfl) (fun _ _ _ h=>h) (yieldsIf_load_mid (by kernel_rfl) 30 (.tmp 86) rfl g' (off'+q*19) rfl cs2 _ (fun X hX=>hX.2.2.2) Tryz.underlying30 rfl hn2) hHeld ?_
      try simp only[Act.put,tk1,tk2,tk3,tk4,tk5,tk6]
      refine wpAnyH_ready (rs:= [10]) (by kernel_rfl) (by simp) ?_;refine AllReadyH.cons rfl (fun K hK=> ?_) AllReadyH.nil;go_simp
      (with_reducible refine(HC.out _ (Below.drew (Below.refl _ _))).mono ?_)
      rintro e w4 ⟨B,rfl,hB,hb4⟩;have hbr:Below wr.heap.size wr w4:=(Below.drew (Below.refl _ _)).trans hb4;have HE4:=Lib.hid (hea.out.step hbr);refine hK.out _ _ (Hkeep.out _ hbr) (fun hHeld=> ?_);clear hK K
      try simp only[Act.put,tk1,tk2,tk3,tk4,tk5,tk6]
      refine tkH 11 hHeld ?_;refine wpAnyH_done (by kernel_rfl) ?_ _;clear hHeld hb4 hbr hea m1 m2
      cases B with
      |true=>
       have HT':=Lib.hid (HT.out (hB.1 rfl));clear hB HT HNe;go_wp2;go_roundw
       case rel=>exact⟨q+1,by go_num,by omega,HT',HE4⟩
       case measure=>simp only[intOf];omega
      |false=>
       have hno: ¬((P1/\P2)/\l=l'):=fun h=>HNe.out (fun e=>by have:=hB.2 e;cases this) h.2;have Hno:=Lib.hid hno;clear hB HT HNe hno;go_wp2;go_ret;exact Ba.no Hno.out HE4.out.1
    . obtain rfl:q=l.length:=by omega
      have hE:=htk.out;rw[List.take_length,Hln.out,List.take_length]at hE;have HE:=Lib.hid hE;clear hE;clear htk;go_wp2;go_ret;exact Ba.yes ⟨⟨Hp1.out,Hp2.out⟩,HE.out⟩ hea.out.1
theorem Sr: ∀m,Aqh m:=by
 refine Mut.ind ?_;intro k key dst n had was has v l IH m' cs cs' w hM hM' hb hb';obtain⟨k1,b1,n1,t1,l1,o1⟩:=was;obtain⟨k2,b2,n2,t2,l2,o2⟩:=v;obtain⟨la1,lc1,oa1,oc1,la2,lc2,oa2,oc2,a,c,rfl,hv1,hv2,hl⟩:=Bq hM;obtain⟨k',key',dst',n',had',⟨k1',b1',n1',t1',l1',o1'⟩,has',⟨k2',b2',n2',t2',l2',o2'⟩,l'⟩:=m';obtain⟨la1',lc1',oa1',oc1',la2',lc2',oa2',oc2',a',c',rfl,hv1',hv2',hl'⟩:=Bq hM';simp only[Bm]at hb hb';by_cases hd:k≠k'\/key≠key'\/dst≠dst'\/n≠n'\/had≠had'\/has≠has'\/l.length≠l'.length
 . refine Al3 _ _ _ _ _ _ _ _ _ _ _ _ _ _ _ _ _ _ _ _ _ _ _ _ _ _ _ _ _ _ _ _ _ _ _ _ _ _ _ _ _ _ w _ (fun e=> ?_) hd
   injection e with e1 e2 e3 e4 e5 e6 e7 e8 e9
   subst e9;rcases hd with h|h|h|h|h|h|h
   . exact h e1
   . exact h e2
   . exact h e3
   . exact h e4
   . exact h e5
   . exact h e7
   . exact h rfl
 . obtain⟨rfl,rfl,rfl,rfl,rfl,rfl,hln⟩:k=k'/\key=key'/\dst=dst'/\n=n'/\had=had'/\has=has'/\l.length=l'.length:=by
    refine⟨Classical.byContradiction fun e=>hd (.inl e),Classical.byContradiction fun e=>hd (.inr (.inl e)),Classical.byContradiction fun e=>hd (.inr (.inr (.inl e))),Classical.byContradiction fun e=>hd (.inr (.inr (.inr (.inl e)))),Classical.byContradiction fun e=>hd (.inr (.inr (.inr (.inr (.inl e))))),Classical.byContradiction fun e=>hd (.inr (.inr (.inr (.inr (.inr (.inl e)))))),Classical.byContradiction fun e=>hd (.inr (.inr (.inr (.inr (.inr (.inr e))))))⟩
   have h:=Al4 k key dst n had has k1 b1 n1 t1 l1 o1 k2 b2 n2 t2 l2 o2 k1' b1' n1' t1' l1' o1' k2' b2' n2' t2' l2' o2' la1 oa1 lc1 oc1 la2 oa2 lc2 oc2 la1' oa1' lc1' oc1' la2' oa2' lc2' oc2' l l' a a' c c' w hv1 hv2 hv1' hv2' (by omega) (by omega) (by omega) (by omega) hl hl' hln (by omega) (by omega) IH;rw[<-hln];refine h.mono ?_;rintro e w' ⟨B,rfl,hB,hbw⟩;refine⟨B,rfl,hB.trans ⟨?_, ?_⟩,hbw⟩
   . rintro⟨⟨e1,e2⟩,e3⟩;rw[e1,e2,e3]
   . intro e
     injection e with e1 e2 e3 e4 e5 e6 e7 e8 e9
     exact⟨⟨e6,e8⟩,e9⟩
end Go.Proofs.YtmglfdckpjegdaaGreatDoor
namespace Go.Proofs.YtmglfdckpjegdaaGreatDoor
open Go.RowKit Go.ChangeShapes Go.WideShapes Go.ChangeAt
theorem Ajz {W:World} (h:Lib.VarReads Tryz.prog W "internal/strconv.uint64pow10" (Lib.tabData .u64 Lib.pow10Tab)):Lib.TabIs Tryz.prog W "internal/strconv.uint64pow10" .u64 Lib.pow10Tab:=by
 obtain⟨g',t',cs,fuel,p,hg',ht',hvar,hd⟩:=h;have hg:Tryz.prog.globalNamed "internal/strconv.uint64pow10" =some 4:=by kernel_rfl
 have hty:(Tryz.prog.globals[4]?).map (·.type)=some 239:=by kernel_rfl
 obtain rfl:=Option.some.inj (hg.symm.trans hg');obtain rfl:=Option.some.inj (hty.symm.trans ht');unfold Lib.TabIs;rw[hvar,<-Lib.cells_of_tab Tryz.underlying239 Tryz.underlying179 (by kernel_rfl) (by kernel_rfl) hd]
theorem Ajb {W:World} (h:Lib.VarReads Tryz.prog W "commonplace/mutator.names" Rows.laid_commonplace_mutator_names):Fs W:=by
 obtain⟨g',t',cs,fuel,p,hg',ht',hvar,hd⟩:=h;have hg:Tryz.prog.globalNamed "commonplace/mutator.names" =some 0:=by kernel_rfl
 have hty:(Tryz.prog.globals[0]?).map (·.type)=some 88:=by kernel_rfl
 obtain rfl:=Option.some.inj (hg.symm.trans hg');obtain rfl:=Option.some.inj (hty.symm.trans ht');obtain⟨xs,m,_,hx,hl,hxl,hf⟩:=DataW.trod_array Tryz.underlying88 hd;have hc1:Tryz.prog.cellsOf 9=1:=by kernel_rfl
 have hc4:Tryz.prog.cellsOf 88=8:=by kernel_rfl
 rw[hc4]at hl;have hxs:=congrArg Prod.fst hx;simp only[Rows.laid_commonplace_mutator_names,DataW.agg.injEq]at hxs;have key: ∀i,i<8-> ∀l:List UInt8,([[], [112,117,116], [100,101,108], [105,110,99], [99,97,115], [97,112,112,101,110,100], [109,111,118,101], [115,101,113]]:List (List UInt8))[i]? =some l->cs[i]? =some (.string ⟨l.toArray⟩):=by
  intro i hi l hl';have h1:=hf i hi;rw[hc1,Nat.mul_one]at h1;have h2:((cs.toList.drop i).take 1)= [cs[i]'(by simpa[Array.length_toList]using(by omega:i<cs.toList.length))]:=by
   rw[List.drop_eq_getElem_cons (by omega)];simp
  rw[h2,List.getElem?_eq_getElem (by omega)]at h1;obtain⟨s,hs,hx1,_⟩:=DataW.trod_string Tryz.underlying9 h1;simp only[List.cons.injEq,and_true]at hs;have h3:(xs.map (·.1))[i]? =some (DataW.lit (.string s.data.toList):DataW Unit):=by
   rw[List.getElem?_map,List.getElem?_eq_getElem (by omega),Option.map_some,hx1]
  rw[<-hxs]at h3;have h4:s.data.toList=l:=by
   rcases(by omega:i=0\/i=1\/i=2\/i=3\/i=4\/i=5\/i=6\/i=7)with rfl|rfl|rfl|rfl|rfl|rfl|rfl|rfl<;>exact(Lit.string.inj (DataW.lit.inj (Option.some.inj h3))).symm.trans (Option.some.inj hl')
  have h5:i<cs.size:=by rw[<-Array.length_toList];omega
  rw[Array.getElem?_eq_getElem h5,hs];have h6:s=⟨l.toArray⟩:=by
   apply ByteArray.ext;apply Array.ext';rw[h4]
  rw[h6]
 unfold World.var? at hvar;rw[hg]at hvar;simp only[Option.bind_some]at hvar
 split at hvar
 . rename_i cs' t' fz hh;simp only[Option.some.injEq]at hvar;subst hvar;have hcell: ∀i,W.cell? ⟨0,i,none⟩=cs'[i]? :=fun i=>by unfold World.cell?;rw[hh];rfl
   exact⟨(hcell 1).trans (key 1 (by omega) _ rfl),(hcell 2).trans (key 2 (by omega) _ rfl),(hcell 3).trans (key 3 (by omega) _ rfl),(hcell 4).trans (key 4 (by omega) _ rfl),(hcell 5).trans (key 5 (by omega) _ rfl),(hcell 6).trans (key 6 (by omega) _ rfl),(hcell 7).trans (key 7 (by omega) _ rfl),(Array.getElem?_eq_some_iff.1 hh).1⟩
 . cases hvar
theorem Ur {W:World} (h:laidMetH Tryz.prog Rows.mutatorBackRow.laid W):Cq W:=by
 have hL:laidMet Tryz.prog Rows.mutatorBackRow.laid W:=by
  have:=(laidMetH_iff.1 h).1;have e:(Rows.mutatorBackRow.laid.filter fun x=>x.2.handleName?.isNone)=Rows.mutatorBackRow.laid:=by kernel_rfl
  rwa [e]at this
 have hu:Lib.Utf8Tabs 1 2 W:=
  utf8Tabs_of_readsT (U8Types.of196 Tryz.lays196) ⟨by kernel_rfl,by kernel_rfl,by kernel_rfl,by kernel_rfl,by kernel_rfl,by kernel_rfl,by kernel_rfl⟩
   (Lib.laidMet.reads hL (n:= "unicode/utf8.first") (d:=Lib.firstData) (by rw[<-Afz];simp[Rows.mutatorBackRow])) (Lib.laidMet.reads hL (n:= "unicode/utf8.acceptRanges") (d:=Lib.acceptData) (by rw[<-Ac4];simp[Rows.mutatorBackRow]))
 have hp:=Ajz (Lib.laidMet.reads hL (n:= "internal/strconv.uint64pow10") (d:=Lib.tabData .u64 Lib.pow10Tab) (by rw[<-Af0];simp[Rows.mutatorBackRow]));have h64:Lib.VarReads Tryz.prog W "math/bits.deBruijn64tab" Rows.laid_math_bits_deBruijn64tab:=Lib.laidMet.reads hL (by simp[Rows.mutatorBackRow]);refine⟨?_,hu,hp⟩;obtain⟨g',t',cs,fuel,p,hg',ht',hvar,hd⟩:=h64;have hg:Tryz.prog.globalNamed "math/bits.deBruijn64tab" =some 8:=by kernel_rfl
 obtain rfl:=Option.some.inj (hg.symm.trans hg');unfold World.var? at hvar;rw[hg]at hvar;simp only[Option.bind_some]at hvar;rcases Nat.lt_or_ge 8 W.heap.size with h'|h'
 . omega
 . rw[Array.getElem?_eq_none h']at hvar
   cases hvar
theorem Ml {W:World} (h:laidMetH Tryz.prog Rows.mutatorBackRow.laid W):Fs W:=by
 have hL:laidMet Tryz.prog Rows.mutatorBackRow.laid W:=by
  have:=(laidMetH_iff.1 h).1;have e:(Rows.mutatorBackRow.laid.filter fun x=>x.2.handleName?.isNone)=Rows.mutatorBackRow.laid:=by kernel_rfl
  rwa [e]at this
 exact Ajb (Lib.laidMet.reads hL (by simp[Rows.mutatorBackRow]))
theorem i64_in {n:Int} (hwf:(Lit.int .i64 n).wf=true): -9223372036854775808<=n/\n<=9223372036854775807:=by
 have h1:IntKind.i64.min= -9223372036854775808:=by decide
 have h2:IntKind.i64.max=9223372036854775807:=by decide
 simp only[Lit.wf,h1,h2,Bool.and_eq_true,decide_eq_true_eq]at hwf;exact hwf
section
variable {H:Type} {enc:TypeId×Value->H} {P:Program}
theorem Kw {f:Func} {s:ChangeSpec} {apart fresh handsOn again:Bool} {W W':World} {args:Array Value} {v:Value} {ds gs:List (DataW H)} {before pa pv:List MemPlace}
 (hW:DataW.Whole enc P f.params.toList s.vars apart W args.toList ds gs before)
 (hres: ∀(b:Nat) (sp:Nat->Bool) (hd:Bool),DataW.TrodAll enc P W' b sp hd f.resultTypes.toList (v.resultList f.resultTypes.size) (s.fn H (ds++gs)).results [])
 (hargs: ∀sp:Nat->Bool,(∀p ∈ before,sp p.block=true)->DataW.TrodAll enc P W' 0 sp true f.params.toList args.toList (s.fn H (ds++gs)).args pa)
 (hvars: ∀sp:Nat->Bool,(∀p ∈ before,sp p.block=true)->DataW.TrodVars enc P W' sp s.vars (s.fn H (ds++gs)).vars pv)
 (hps:before=pa++pv) (hb:Below W.heap.size W W')
 (hok: ∀(j:Nat) (t:TypeId) (r:Value),f.resultTypes[j]? =some t->(v.resultList f.resultTypes.size)[j]? =some r->Value.okWide P W' .any 0 t r):
 s.post enc P f apart fresh handsOn again W args v W':=by
 have hlt: ∀p ∈ before,p.block<W.heap.size:=fun p hp=>hW.lt p hp;have hold: ∀p ∈ before,(fun b=>decide (b<W.heap.size)) p.block=true:=fun p hp=>by simpa using hlt p hp
 refine⟨ds,gs,before, [],pa,pv,hW,hres _ _ _,hargs _ hold,hvars _ hold,World.keptBut_mono (fun p hp=>⟨hp, ?_⟩) (hb.frame (· ∈ before)),fun _=> ?_⟩
 . rw[hps,List.mem_append]at hp;exact Or.inr hp
 . obtain⟨_,_,_,_,_,hz,hn⟩:=hW;refine⟨hok,_,_,([]++pa)++pv,⟨[]++pa,pv,trodAll_append (hargs _ (fun _ _=>rfl)) (hres _ _ _),hvars _ (fun _ _=>rfl),rfl, ?_, ?_⟩, ?_⟩
   . intro b off hp;have hin:MemPlace.cell b off ∈ before:=by rw[hps];simpa using hp
     rw[hb.frozen (hlt _ hin)];exact hz b off hin
   . intro ha;have:=hn ha;rw[hps]at this;simpa using this
   . intro p hp _;rw[hps];simpa using hp
end
end Go.Proofs.YtmglfdckpjegdaaGreatDoor
