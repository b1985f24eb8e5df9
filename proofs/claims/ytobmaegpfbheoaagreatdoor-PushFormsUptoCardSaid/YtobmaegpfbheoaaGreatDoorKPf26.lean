/- Parts: The last step of a law's row: the answer is true and the arguments read as they did. No condition. -/
import Derived.Laws.EntriesVeiled
import Derived.ChangeSame
import Derived.WideKeyArgs
import Derived.OpenShut
import Derived.Test.YtobmaegpfbheoaaGreatDoorKPf21
import Derived.Test.YtobmaegpfbheoaaGreatDoorKPf23
set_option maxHeartbeats 20000000
set_option maxRecDepth 100000
namespace Go.Proofs.YtobmaegpfbheoaaGreatDoor
open Go Go.RowKit
abbrev Ck:TypeId:=135
abbrev Ca:TypeId:=77
abbrev C7 (k:Int) (f n:Nat) (rd wr:Value):Value:=.agg #[.int .i64 k,.slice (some ⟨f,0,none⟩) n n,rd,wr]
theorem K0 (k:Int) (w:World):Calls Tryz.prog 68 #[.int .i64 k] w fun e w'=>Below w.heap.size w w'/\ ∃f,e=.returned (C7 k f 2 (.func (.func 120) #[] #[]) (.func (.func 122) #[] #[]))/\
 w.heap.size<=f/\Aj w' f Ck #[.string A1,.int .i64 0,.string Fj,.int .i64 0]:=by
 go_enter Tryz.func68,Tryz.ntmps68;go_wp2;have h:=Aj.new (w.alloc (.cells #[.int .i64 k,.slice (some ⟨w.heap.size+1,0,none⟩) 2 2,.func (.func 120) #[] #[],.func (.func 122) #[] #[]] 129)) Ck #[.string A1,.int .i64 0,.string Fj,.int .i64 0];rw[World.size_alloc]at h;exact bodyPost_ret (v:=C7 k (w.heap.size+1) 2 (.func (.func 120) #[] #[]) (.func (.func 122) #[] #[])) (by simp[results,Tryz.results68,go_sem]) rfl ⟨((Below.refl _ _).alloc (Nat.le_refl _) _).alloc (by simp) _,_,rfl,by omega,h⟩
theorem Pn (w:World):Calls Tryz.prog 78 #[] w fun e w'=>Below w.heap.size w w'/\ ∃f,e=.returned (C7 4 f 3 (.func (.func 123) #[] #[]) (.func (.func 124) #[] #[]))/\
 w.heap.size<=f/\Aj w' f Ck #[.string Ma,.int .i64 1,.string A1,.int .i64 0,.string G2,.int .i64 1]:=by
 go_enter Tryz.func78,Tryz.ntmps78;go_wp2;have h:=Aj.new (w.alloc (.cells #[.int .i64 4,.slice (some ⟨w.heap.size+1,0,none⟩) 3 3,.func (.func 123) #[] #[],.func (.func 124) #[] #[]] 129)) Ck #[.string Ma,.int .i64 1,.string A1,.int .i64 0,.string G2,.int .i64 1];rw[World.size_alloc]at h;exact bodyPost_ret (v:=C7 4 (w.heap.size+1) 3 (.func (.func 123) #[] #[]) (.func (.func 124) #[] #[])) (by simp[results,Tryz.results78,go_sem]) rfl ⟨((Below.refl _ _).alloc (Nat.le_refl _) _).alloc (by simp) _,_,rfl,by omega,h⟩
theorem Oi (fn gn:Fn) (c1 c2:Array Value) (w:World):Calls Tryz.prog 79 #[.func fn #[] c1,.func gn #[] c2] w fun e w'=>Below w.heap.size w w'/\ ∃f r x,e=.returned (C7 7 f 2 (.func (.func 126) #[] #[.pointer (some ⟨r,0,none⟩)]) (.func (.func 128) #[] #[.pointer (some ⟨x,0,none⟩)]))/\
 (w.heap.size<=f/\w.heap.size<=r/\w.heap.size<=x)/\Aj w' f Ck #[.string Lk,.int .i64 0,.string Oq,.int .i64 1]/\Aj w' r 143 #[.func fn #[] c1]/\Aj w' x 54 #[.func gn #[] c2]:=by
 have Hr:=qz (Aj.new w 143 #[.func fn #[] c1]);have hx:=Aj.new (w.alloc (.cells #[.func fn #[] c1] 143)) 54 #[.func gn #[] c2];have h:=Aj.new (((w.alloc (.cells #[.func fn #[] c1] 143)).alloc (.cells #[.func gn #[] c2] 54)).alloc (.cells #[.int .i64 7,.slice (some ⟨w.heap.size+1+1+1,0,none⟩) 2 2,.func (.func 126) #[] #[.pointer (some ⟨w.heap.size,0,none⟩)],.func (.func 128) #[] #[.pointer (some ⟨w.heap.size+1,0,none⟩)]] 129)) Ck #[.string Lk,.int .i64 0,.string Oq,.int .i64 1];rw[World.size_alloc]at hx;rw[World.size_alloc,World.size_alloc,World.size_alloc]at h;obtain⟨Hx,H⟩:=hid2 hx h;clear hx h;go_enter Tryz.func79,Tryz.ntmps79;go_wp2;refine bodyPost_ret (v:=C7 7 (w.heap.size+1+1+1) 2 (.func (.func 126) #[] #[.pointer (some ⟨w.heap.size,0,none⟩)]) (.func (.func 128) #[] #[.pointer (some ⟨w.heap.size+1,0,none⟩)])) (by simp[results,Tryz.results79,go_sem]) rfl
  ⟨((((Below.refl _ _).alloc (Nat.le_refl _) _).alloc (by simp) _).alloc (by simp;omega) _).alloc (by simp;omega) _,_,_,_,rfl,⟨by omega,by omega,by omega⟩,H.out,((Hr.out.alloc _).alloc _).alloc _,(Hx.out.alloc _).alloc _⟩
structure Shp (w:World) (g A R W:Nat) (F:Nat->Nat):Prop where
 map:B8 Value.string w g [(Ls,C7 1 (F 1) 2 (.func (.func 120) #[] #[]) (.func (.func 122) #[] #[])),
  (Lp,C7 5 (F 5) 2 (.func (.func 120) #[] #[]) (.func (.func 122) #[] #[])),
  (Lq,C7 2 (F 2) 1 (.func (.func 69) #[] #[]) (.func (.func 71) #[] #[])),
  (Lr,C7 3 (F 3) 2 (.func (.func 72) #[] #[]) (.func (.func 75) #[] #[])),
  (Gn,C7 6 (F 6) 2 (.func (.func 76) #[] #[]) (.func (.func 77) #[] #[])),
  (Ko,C7 4 (F 4) 3 (.func (.func 123) #[] #[]) (.func (.func 124) #[] #[])),
  (Lt,C7 7 (F 7) 2 (.func (.func 126) #[] #[.pointer (some ⟨R,0,none⟩)]) (.func (.func 128) #[] #[.pointer (some ⟨W,0,none⟩)]))]
 all_:Aj w A Ca #[.map (some g)]
 rd:Aj w R 143 #[.func (.func 80) #[] #[.pointer (some ⟨A,0,none⟩)]]
 wr:Aj w W 54 #[.func (.func 82) #[] #[.pointer (some ⟨A,0,none⟩)]]
 f1:Aj w (F 1) Ck #[.string A1,.int .i64 0,.string Fj,.int .i64 0]
 f5:Aj w (F 5) Ck #[.string A1,.int .i64 0,.string Fj,.int .i64 0]
 f2:Aj w (F 2) Ck #[.string A1,.int .i64 0]
 f3:Aj w (F 3) Ck #[.string O0,.int .i64 0,.string A1,.int .i64 0]
 f6:Aj w (F 6) Ck #[.string D0,.int .i64 0,.string Ot,.int .i64 0]
 f4:Aj w (F 4) Ck #[.string Ma,.int .i64 1,.string A1,.int .i64 0,.string G2,.int .i64 1]
 f7:Aj w (F 7) Ck #[.string Lk,.int .i64 0,.string Oq,.int .i64 1]
theorem Shp.below {w w':World} {g A R W:Nat} {F:Nat->Nat} (h:Shp w g A R W F) (hb:Below w.heap.size w w'):Shp w' g A R W F:=
 ⟨h.map.below hb h.map.lt,h.all_.below hb h.all_.lt,h.rd.below hb h.rd.lt,h.wr.below hb h.wr.lt,h.f1.below hb h.f1.lt,h.f5.below hb h.f5.lt,h.f2.below hb h.f2.lt,h.f3.below hb h.f3.lt,h.f6.below hb h.f6.lt,h.f4.below hb h.f4.lt,h.f7.below hb h.f7.lt⟩
theorem Bv:MKey Tryz.prog 9 Value.string:=Tc Tryz.underlying9
structure SS (w:World) (g A:Nat) (wr:World) (kv:List (ByteArray×Value)):Prop where
 below:Below w.heap.size w wr
 map:B8 Value.string wr g kv
 var:Aj wr A Ca #[.map none]
 ge:w.heap.size<=g/\g≠A
theorem SS.call {w wr w':World} {g A:Nat} {kv:List (ByteArray×Value)} (h:SS w g A wr kv) (hb:Below wr.heap.size wr w'):SS w g A w' kv:=
 ⟨h.below.trans (hb.mono h.below.size),h.map.below hb h.map.lt,h.var.below hb h.var.lt,h.ge⟩
theorem SS.ins {w wr w':World} {g A:Nat} {kv kv':List (ByteArray×Value)} (h:SS w g A wr kv) (hM:B8 Value.string w' g kv') (hg:wr.grownBy w' (some g)):SS w g A w' kv':=
 ⟨h.below.grown hg h.below.size fun k e=>by cases e;exact h.ge.1,hM,h.var.grown hg (by simpa using Ne.symm h.ge.2),h.ge⟩
theorem Bz {a k:ByteArray} {v:Value} {r:List (ByteArray×Value)} (h:a≠k) (hr:D4 a r=none):D4 a ((k,v)::r)=none:=by
 simp only[D4,if_neg h];exact hr
theorem Rk (w:World):Calls Tryz.prog 37 #[] w fun e w'=>Below w.heap.size w w'/\ ∃g A R W F,e=.returned (.map (some g))/\Shp w' g A R W F:=by
 have hmm:=fun W=>run_makeMap (P:=Tryz.prog) Ca W;go_enter Tryz.func37,Tryz.ntmps37;go_upto_region 2 with(fail);have hS0:SS w (w.heap.size+1) w.heap.size ((w.alloc (.cells #[.map none] Ca)).alloc (.map #[] 0)) []:=by
  have:=B8.new (f:=Value.string) (w.alloc (.cells #[.map none] Ca));rw[World.size_alloc]at this;exact⟨((Below.refl _ _).alloc (Nat.le_refl _) _).alloc (by simp) _,this,(Aj.new _ _ _).alloc _,by omega,by omega⟩
 have H0s:=qz (show((w.alloc (.cells #[.map none] Ca)).alloc (.map #[] 0)).heap.size=w.heap.size+1+1 from by simp);have HS0:=qz hS0;clear hS0;go_wp2_with (fail);(with_reducible refine(K0 1 _).mono ?_);rintro e w1 ⟨hb1,f1,rfl,hf1,k1⟩;rw[H0s.out]at hf1;have HS1:=qz (HS0.out.call hb1);have K1:=qz k1;clear hb1 k1;go_wp2_with ((with_reducible refine Cn rfl (.tmp 2) _ _ Ca rfl Bv Tryz.underlying77 rfl HS1.out.map rfl rfl rfl ?_);intro w2 hM2 hg2 hs2);have HS2:=qz (HS1.out.ins hM2 hg2);have K12:=qz (K1.out.grown hg2 (by simp;omega));have hz2:w.heap.size+1+1<=w2.heap.size:=by have:=K1.out.lt;omega
 clear hM2 hg2 hs2 K1 HS1 HS0;go_wp2_with (fail);(with_reducible refine(K0 5 _).mono ?_);rintro e w3 ⟨hb3,f5,rfl,hf5,k5⟩;have HS3:=qz (HS2.out.call hb3);have K13:=qz (K12.out.below hb3 K12.out.lt);have K53:=qz k5;clear hb3 k5 K12 HS2;go_wp2_with (first
  |((with_reducible refine Cn rfl (.tmp 2) _ _ Ca rfl Bv Tryz.underlying77 rfl HS3.out.map rfl rfl (Bz (by decide) rfl) ?_);intro w4 hM4 hg4 hs4;have HS4:=qz (HS3.out.ins hM4 hg4);have K14:=qz (K13.out.grown hg4 (by simp;omega));have K54:=qz (K53.out.grown hg4 (by simp;omega));have hz4:w.heap.size+1+1<=w4.heap.size:=(by have:=K14.out.lt;omega);clear hM4 hg4 hs4 HS3 K13 K53)
  |(((with_reducible refine Cn rfl (.tmp 2) _ _ Ca rfl Bv Tryz.underlying77 rfl (HS4.out.call (Aa w4 (.cells #[.string A1,.int .i64 0] Ck))).map rfl rfl (Bz (by decide) (Bz (by decide) rfl)) ?_));intro w5 hM5 hg5 hs5;have HS5:=qz ((HS4.out.call (Aa w4 (.cells #[.string A1,.int .i64 0] Ck))).ins hM5 hg5);have K15:=qz ((K14.out.alloc (.cells #[.string A1,.int .i64 0] Ck)).grown hg5 (by simp;omega));have K55:=qz ((K54.out.alloc (.cells #[.string A1,.int .i64 0] Ck)).grown hg5 (by simp;omega));have K25:=qz ((Aj.new w4 Ck #[.string A1,.int .i64 0]).grown hg5 (by simp;omega));have hz5:w.heap.size+1+1<=w5.heap.size:=(by have:=K15.out.lt;omega);clear hM5 hg5 hs5 HS4 K14 K54)
  |(((with_reducible refine Cn rfl (.tmp 2) _ _ Ca rfl Bv Tryz.underlying77 rfl (HS5.out.call (Aa w5 (.cells #[.string O0,.int .i64 0,.string A1,.int .i64 0] Ck))).map rfl rfl (Bz (by decide) (Bz (by decide) (Bz (by decide) rfl))) ?_));intro w6 hM6 hg6 hs6;have HS6:=qz ((HS5.out.call (Aa w5 (.cells #[.string O0,.int .i64 0,.string A1,.int .i64 0] Ck))).ins hM6 hg6);have K16:=qz ((K15.out.alloc (.cells #[.string O0,.int .i64 0,.string A1,.int .i64 0] Ck)).grown hg6 (by simp;omega));have K56:=qz ((K55.out.alloc (.cells #[.string O0,.int .i64 0,.string A1,.int .i64 0] Ck)).grown hg6 (by simp;omega));have K26:=qz ((K25.out.alloc (.cells #[.string O0,.int .i64 0,.string A1,.int .i64 0] Ck)).grown hg6 (by simp;omega));have K36:=qz ((Aj.new w5 Ck #[.string O0,.int .i64 0,.string A1,.int .i64 0]).grown hg6 (by simp;omega));have hz6:w.heap.size+1+1<=w6.heap.size:=(by have:=K16.out.lt;omega);clear hM6 hg6 hs6 HS5 K15 K55 K25)
  |(((with_reducible refine Cn rfl (.tmp 2) _ _ Ca rfl Bv Tryz.underlying77 rfl (HS6.out.call (Aa w6 (.cells #[.string D0,.int .i64 0,.string Ot,.int .i64 0] Ck))).map rfl rfl (Bz (by decide) (Bz (by decide) (Bz (by decide) (Bz (by decide) rfl)))) ?_));intro w7 hM7 hg7 hs7;have HS7:=qz ((HS6.out.call (Aa w6 (.cells #[.string D0,.int .i64 0,.string Ot,.int .i64 0] Ck))).ins hM7 hg7);have K17:=qz ((K16.out.alloc (.cells #[.string D0,.int .i64 0,.string Ot,.int .i64 0] Ck)).grown hg7 (by simp;omega));have K57:=qz ((K56.out.alloc (.cells #[.string D0,.int .i64 0,.string Ot,.int .i64 0] Ck)).grown hg7 (by simp;omega));have K27:=qz ((K26.out.alloc (.cells #[.string D0,.int .i64 0,.string Ot,.int .i64 0] Ck)).grown hg7 (by simp;omega));have K37:=qz ((K36.out.alloc (.cells #[.string D0,.int .i64 0,.string Ot,.int .i64 0] Ck)).grown hg7 (by simp;omega));have K67:=qz ((Aj.new w6 Ck #[.string D0,.int .i64 0,.string Ot,.int .i64 0]).grown hg7 (by simp;omega));have hz7:w.heap.size+1+1<=w7.heap.size:=(by have:=K17.out.lt;omega);clear hM7 hg7 hs7 HS6 K16 K56 K26 K36))
 (with_reducible refine(Pn _).mono ?_);rintro e w8 ⟨hb8,f4,rfl,hf4,k4⟩;have HS8:=qz (HS7.out.call hb8);have K18:=qz (K17.out.below hb8 K17.out.lt);have K58:=qz (K57.out.below hb8 K57.out.lt);have K28:=qz (K27.out.below hb8 K27.out.lt);have K38:=qz (K37.out.below hb8 K37.out.lt);have K68:=qz (K67.out.below hb8 K67.out.lt);have K48:=qz k4;clear hb8 k4 HS7 K17 K57 K27 K37 K67;go_wp2_with ((with_reducible refine Cn rfl (.tmp 2) _ _ Ca rfl Bv Tryz.underlying77 rfl HS8.out.map rfl rfl (Bz (by decide) (Bz (by decide) (Bz (by decide) (Bz (by decide) (Bz (by decide) rfl))))) ?_);intro w9 hM9 hg9 hs9;have HS9:=qz (HS8.out.ins hM9 hg9);have K19:=qz (K18.out.grown hg9 (by simp;omega));have K59:=qz (K58.out.grown hg9 (by simp;omega));have K29:=qz (K28.out.grown hg9 (by simp;omega));have K39:=qz (K38.out.grown hg9 (by simp;omega));have K69:=qz (K68.out.grown hg9 (by simp;omega));have K49:=qz (K48.out.grown hg9 (by simp;omega));have hz9:w.heap.size+1+1<=w9.heap.size:=(by have:=K19.out.lt;omega);clear hM9 hg9 hs9 HS8 K18 K58 K28 K38 K68 K48);(with_reducible refine(Oi _ _ _ _ _).mono ?_);rintro e w10 ⟨hb10,f7,r,x,rfl,⟨hf7,hr,hx⟩,k7,kr,kx⟩;have HSa:=qz (HS9.out.call hb10);have K1a:=qz (K19.out.below hb10 K19.out.lt);have K5a:=qz (K59.out.below hb10 K59.out.lt);have K2a:=qz (K29.out.below hb10 K29.out.lt);have K3a:=qz (K39.out.below hb10 K39.out.lt);have K6a:=qz (K69.out.below hb10 K69.out.lt);have K4a:=qz (K49.out.below hb10 K49.out.lt);obtain⟨K7,Kr,Kx⟩:=hid3 k7 kr kx;clear k7 kr kx;clear hb10 HS9 K19 K59 K29 K39 K69 K49;go_wp2_with ((with_reducible refine Cn rfl (.tmp 2) _ _ Ca rfl Bv Tryz.underlying77 rfl HSa.out.map rfl rfl (Bz (by decide) (Bz (by decide) (Bz (by decide) (Bz (by decide) (Bz (by decide) (Bz (by decide) rfl)))))) ?_);intro wb hMb hgb hsb;have HSb:=qz (HSa.out.ins hMb hgb);have K1b:=qz (K1a.out.grown hgb (by simp;omega));have K5b:=qz (K5a.out.grown hgb (by simp;omega));have K2b:=qz (K2a.out.grown hgb (by simp;omega));have K3b:=qz (K3a.out.grown hgb (by simp;omega));have K6b:=qz (K6a.out.grown hgb (by simp;omega));have K4b:=qz (K4a.out.grown hgb (by simp;omega));have K7b:=qz (K7.out.grown hgb (by simp;omega));have Krb:=qz (Kr.out.grown hgb (by simp;omega));have Kxb:=qz (Kx.out.grown hgb (by simp;omega));have hgA:=HSb.out.var.lt;have dA:=HSb.out.var.cell 0;have fA:=HSb.out.var.frozen 0;clear hMb hgb hsb HSa K7 Kr Kx K1a K5a K2a K3a K6a K4a);go_ret;have hbb:=HSb.out.below;refine⟨hbb.setCell (Nat.le_refl _) _,w.heap.size+1,w.heap.size,r,x,fun i=>if i=1 then f1 else if i=5 then f5 else if i=2 then w4.heap.size else if i=3 then w5.heap.size else if i=6 then w6.heap.size else if i=4 then f4 else f7,rfl, ?_⟩;exact⟨HSb.out.map.setCell (by simp) _,HSb.out.var.set_ 0 _,Krb.out.far (by simp;omega) _,Kxb.out.far (by simp;omega) _,K1b.out.far (by simp;omega) _,K5b.out.far (by simp;omega) _,K2b.out.far (by simp;omega) _,K3b.out.far (by simp;omega) _,K6b.out.far (by simp;omega) _,K4b.out.far (by simp;omega) _,K7b.out.far (by simp;omega) _⟩
theorem Wa (s:ByteArray) (w:World) (hs:s.size<=1000000000):Calls Tryz.prog 131 #[.string s] w fun e w'=>e=.returned (.int .i64 (Mu s))/\w=w':=by
 obtain⟨B,hB⟩: ∃B,Al s=B:=⟨_,rfl⟩;have HC:=qz (fun W=>By hB W hs);have e0:s.toList.isEmpty=decide (s.size=0):=by
  rw[Lib.toList_data,Lib.size_eq];cases s.data.toList<;>simp
 have hE:Mu s=if s.size=0 then 8 else if 64<s.size then 6 else if B then 0 else 3:=by
  unfold Mu;rw[e0,hB];simp
 clear hB e0;by_cases h0:s.size=0
 . rw[if_pos h0]at hE;have t0:((s.size:Int)==0)=true:=by rw[beq_iff_eq];omega
   have HE:=qz hE;clear hE;clear h0;go_enter Tryz.func131,Tryz.ntmps131;go_wp2;go_ret;exact⟨by rw[HE.out];rfl,rfl⟩
 rw[if_neg h0]at hE;have t0:((s.size:Int)==0)=false:=by rw[beq_eq_false_iff_ne];omega
 by_cases h1:64<s.size
 . rw[if_pos h1]at hE;have t1:(64:Int)<(s.size:Int):=by omega
   have HE:=qz hE;clear hE;clear h0 h1;go_enter Tryz.func131,Tryz.ntmps131;go_wp2;go_ret;exact⟨by rw[HE.out];rfl,rfl⟩
 rw[if_neg h1]at hE;have t1:(s.size:Int)<=64:=by omega
 have HE:=qz hE;clear hE;clear h0 h1
 cases B with
 |true=>
  go_enter Tryz.func131,Tryz.ntmps131;go_wp2_with (go_at_call 111;(with_reducible refine(HC.out _).mono ?_);rintro e w2 ⟨rfl,rfl⟩);go_ret;exact⟨by rw[HE.out];rfl,rfl⟩
 |false=>
  go_enter Tryz.func131,Tryz.ntmps131;go_wp2_with (go_at_call 111;(with_reducible refine(HC.out _).mono ?_);rintro e w2 ⟨rfl,rfl⟩);go_ret;exact⟨by rw[HE.out];rfl,rfl⟩
abbrev Uf:Val:=.mk 0 false 0 ⟨#[]⟩ [] []
theorem Yl (v:Val):Cx v=true ↔ v=Uf:=by
 obtain⟨k,b,n,t,l,o⟩:=v;simp only[Cx,Ef,Bool.and_eq_true,decide_eq_true_eq,Bool.not_eq_true',List.length_eq_zero_iff,List.isEmpty_iff,Val.mk.injEq];constructor
 . rintro⟨⟨⟨⟨⟨rfl,rfl⟩,rfl⟩,ht⟩,rfl⟩,rfl⟩;refine⟨rfl,rfl,rfl, ?_,rfl,rfl⟩;rw[Lib.toList_data]at ht;exact ByteArray.ext (Array.ext' ht)
 . rintro⟨rfl,rfl,rfl,rfl,rfl,rfl⟩;exact⟨⟨⟨⟨⟨rfl,rfl⟩,rfl⟩,by rw[Lib.toList_data]⟩,rfl⟩,rfl⟩
theorem Nu (w:World) (B:Nat):Ab w B Uf [.int .i64 0,.bool false,.int .i64 0,.string ⟨#[]⟩,.slice none 0 0,.slice none 0 0]:=by
 simp only[Ab];exact⟨none,0,none,0,rfl,by simp,by simp⟩
theorem Tw (v:Val) (cs:List Value) (w:World) (hV:Ab w w.heap.size v cs) (hb:v.bulk<=100000000) {B:Bool} (hB:Cx v=B):
 Calls Tryz.prog 20 #[.agg cs.toArray,.agg #[.int .i64 0,.bool false,.int .i64 0,.string ⟨#[]⟩,.slice none 0 0,.slice none 0 0]] w fun e w'=>e=.returned (.bool B)/\Below w.heap.size w w':=by
 refine(X5 v Uf cs _ w hV (Nu _ _) hb (by simp[Val.bulk,A0,Av,ByteArray.size])).mono ?_;rintro e w' ⟨X,rfl,hX,hb'⟩;refine⟨?_,hb'⟩;rw[<-Yl,hB]at hX
 cases X<;>cases B<;>simp_all
end Go.Proofs.YtobmaegpfbheoaaGreatDoor
namespace Go.Proofs.YtobmaegpfbheoaaGreatDoor
open Go.RowKit Go.ChangeShapes Go.WideShapes Go.ChangeAt
theorem Yh {W:World} (h:Lib.VarReads Tryz.prog W "internal/strconv.uint64pow10" (Lib.tabData .u64 Lib.pow10Tab)):Lib.TabIs Tryz.prog W "internal/strconv.uint64pow10" .u64 Lib.pow10Tab:=by
 obtain⟨g',t',cs,fuel,p,hg',ht',hvar,hd⟩:=h;have hg:Tryz.prog.globalNamed "internal/strconv.uint64pow10" =some 3:=by kernel_rfl
 have hty:(Tryz.prog.globals[3]?).map (·.type)=some 278:=by kernel_rfl
 obtain rfl:=Option.some.inj (hg.symm.trans hg');obtain rfl:=Option.some.inj (hty.symm.trans ht');unfold Lib.TabIs;rw[hvar,<-Lib.cells_of_tab Tryz.underlying278 Tryz.underlying22 (by kernel_rfl) (by kernel_rfl) hd]
theorem Xu {W:World} (h:Lib.VarReads Tryz.prog W "commonplace/mutator.names" Rows.laid_commonplace_mutator_names):C0 W:=by
 obtain⟨g',t',cs,fuel,p,hg',ht',hvar,hd⟩:=h;have hg:Tryz.prog.globalNamed "commonplace/mutator.names" =some 0:=by kernel_rfl
 have hty:(Tryz.prog.globals[0]?).map (·.type)=some 120:=by kernel_rfl
 obtain rfl:=Option.some.inj (hg.symm.trans hg');obtain rfl:=Option.some.inj (hty.symm.trans ht');obtain⟨xs,m,_,hx,hl,hxl,hf⟩:=DataW.trod_array Tryz.underlying120 hd;have hc1:Tryz.prog.cellsOf 9=1:=by kernel_rfl
 have hc4:Tryz.prog.cellsOf 120=8:=by kernel_rfl
 rw[hc4]at hl;have hxs:=congrArg Prod.fst hx;simp only[Rows.laid_commonplace_mutator_names,DataW.agg.injEq]at hxs;have key: ∀i,i<8-> ∀l:List UInt8,([[], [112,117,116], [100,101,108], [105,110,99], [99,97,115], [97,112,112,101,110,100], [109,111,118,101], [115,101,113]]:List (List UInt8))[i]? =some l->cs[i]? =some (.string ⟨l.toArray⟩):=by
  intro i hi l hl';have h1:=hf i hi;rw[hc1,Nat.mul_one]at h1;have h2:((cs.toList.drop i).take 1)= [cs[i]'(by simpa[Array.length_toList]using(by omega:i<cs.toList.length))]:=by
   rw[List.drop_eq_getElem_cons (by omega)];simp
  rw[h2,List.getElem?_eq_getElem (by omega)]at h1;obtain⟨s,hs,hx1,_⟩:=DataW.trod_string Tryz.underlying9 h1;simp only[List.cons.injEq,and_true]at hs;have h3:(xs.map (·.1))[i]? =some (DataW.lit (.string s.data.toList):DataW Unit):=by
   rw[List.getElem?_map,List.getElem?_eq_getElem (by omega),Option.map_some,hx1]
  rw[<-hxs]at h3;have h4:s.data.toList=l:=by
   rcases(by omega:i=0\/i=1\/i=2\/i=3\/i=4\/i=5\/i=6\/i=7)with rfl|rfl|rfl|rfl|rfl|rfl|rfl|rfl<;>exact(Lit.string.inj (DataW.lit.inj (Option.some.inj h3))).symm.trans (Option.some.inj hl')
  have h5:i<cs.size:=by rw[<-Array.length_toList];omega
  rw[Array.getElem?_eq_getElem h5,hs];have h6:s=⟨l.toArray⟩:=by
   apply ByteArray.ext;apply Array.ext';rw[h4]
  rw[h6]
 unfold World.var? at hvar;rw[hg]at hvar;simp only[Option.bind_some]at hvar
 split at hvar
 . rename_i cs' t' fz hh;simp only[Option.some.injEq]at hvar;subst hvar;have hcell: ∀i,W.cell? ⟨0,i,none⟩=cs'[i]? :=fun i=>by unfold World.cell?;rw[hh];rfl
   exact⟨(hcell 1).trans (key 1 (by omega) _ rfl),(hcell 2).trans (key 2 (by omega) _ rfl),(hcell 3).trans (key 3 (by omega) _ rfl),(hcell 4).trans (key 4 (by omega) _ rfl),(hcell 5).trans (key 5 (by omega) _ rfl),(hcell 6).trans (key 6 (by omega) _ rfl),(hcell 7).trans (key 7 (by omega) _ rfl),(Array.getElem?_eq_some_iff.1 hh).1⟩
 . cases hvar
theorem Aa2 {W:World} (h:laidMetH Tryz.prog Rows.pushFormsRow.laid W):B7 W:=by
 have hL:laidMet Tryz.prog Rows.pushFormsRow.laid W:=by
  have:=(laidMetH_iff.1 h).1;have e:(Rows.pushFormsRow.laid.filter fun x=>x.2.handleName?.isNone)=Rows.pushFormsRow.laid:=by kernel_rfl
  rwa [e]at this
 have hu:Lib.Utf8Tabs 1 2 W:=
  utf8Tabs_of_readsT (U8Types.of196 Tryz.lays196) ⟨by kernel_rfl,by kernel_rfl,by kernel_rfl,by kernel_rfl,by kernel_rfl,by kernel_rfl,by kernel_rfl⟩
   (Lib.laidMet.reads hL (n:= "unicode/utf8.first") (d:=Lib.firstData) (by rw[<-Vs];simp[Rows.pushFormsRow])) (Lib.laidMet.reads hL (n:= "unicode/utf8.acceptRanges") (d:=Lib.acceptData) (by rw[<-Sy];simp[Rows.pushFormsRow]))
 have hp:=Yh (Lib.laidMet.reads hL (n:= "internal/strconv.uint64pow10") (d:=Lib.tabData .u64 Lib.pow10Tab) (by rw[<-Vt];simp[Rows.pushFormsRow]));have h64:Lib.VarReads Tryz.prog W "math/bits.deBruijn64tab" Rows.laid_math_bits_deBruijn64tab:=Lib.laidMet.reads hL (by simp[Rows.pushFormsRow]);refine⟨?_,hu,hp⟩;obtain⟨g',t',cs,fuel,p,hg',ht',hvar,hd⟩:=h64;have hg:Tryz.prog.globalNamed "math/bits.deBruijn64tab" =some 5:=by kernel_rfl
 obtain rfl:=Option.some.inj (hg.symm.trans hg');unfold World.var? at hvar;rw[hg]at hvar;simp only[Option.bind_some]at hvar;rcases Nat.lt_or_ge 5 W.heap.size with h'|h'
 . omega
 . rw[Array.getElem?_eq_none h']at hvar
   cases hvar
theorem Td {W:World} (h:laidMetH Tryz.prog Rows.pushFormsRow.laid W):C0 W:=by
 have hL:laidMet Tryz.prog Rows.pushFormsRow.laid W:=by
  have:=(laidMetH_iff.1 h).1;have e:(Rows.pushFormsRow.laid.filter fun x=>x.2.handleName?.isNone)=Rows.pushFormsRow.laid:=by kernel_rfl
  rwa [e]at this
 exact Xu (Lib.laidMet.reads hL (by simp[Rows.pushFormsRow]))
theorem i64_in {n:Int} (hwf:(Lit.int .i64 n).wf=true): -9223372036854775808<=n/\n<=9223372036854775807:=by
 have h1:IntKind.i64.min= -9223372036854775808:=by decide
 have h2:IntKind.i64.max=9223372036854775807:=by decide
 simp only[Lit.wf,h1,h2,Bool.and_eq_true,decide_eq_true_eq]at hwf;exact hwf
section
variable {H:Type} {enc:TypeId×Value->H} {P:Program}
theorem Pc {f:Func} {s:ChangeSpec} {apart fresh handsOn again:Bool} {W W':World} {args:Array Value} {v:Value} {ds gs:List (DataW H)} {before pa pv:List MemPlace}
 (hW:DataW.Whole enc P f.params.toList s.vars apart W args.toList ds gs before)
 (hres: ∀(b:Nat) (sp:Nat->Bool) (hd:Bool),DataW.TrodAll enc P W' b sp hd f.resultTypes.toList (v.resultList f.resultTypes.size) (s.fn H (ds++gs)).results [])
 (hargs: ∀sp:Nat->Bool,(∀p ∈ before,sp p.block=true)->DataW.TrodAll enc P W' 0 sp true f.params.toList args.toList (s.fn H (ds++gs)).args pa)
 (hvars: ∀sp:Nat->Bool,(∀p ∈ before,sp p.block=true)->DataW.TrodVars enc P W' sp s.vars (s.fn H (ds++gs)).vars pv)
 (hps:before=pa++pv) (hb:Below W.heap.size W W')
 (hok: ∀(j:Nat) (t:TypeId) (r:Value),f.resultTypes[j]? =some t->(v.resultList f.resultTypes.size)[j]? =some r->Value.okWide P W' .any 0 t r):
 s.post enc P f apart fresh handsOn again W args v W':=by
 have hlt: ∀p ∈ before,p.block<W.heap.size:=fun p hp=>hW.lt p hp;have hold: ∀p ∈ before,(fun b=>decide (b<W.heap.size)) p.block=true:=fun p hp=>by simpa using hlt p hp
 refine⟨ds,gs,before, [],pa,pv,hW,hres _ _ _,hargs _ hold,hvars _ hold,World.keptBut_mono (fun p hp=>⟨hp, ?_⟩) (hb.frame (· ∈ before)),fun _=> ?_⟩
 . rw[hps,List.mem_append]at hp;exact Or.inr hp
 . obtain⟨_,_,_,_,_,hz,hn⟩:=hW;refine⟨hok,_,_,([]++pa)++pv,⟨[]++pa,pv,trodAll_append (hargs _ (fun _ _=>rfl)) (hres _ _ _),hvars _ (fun _ _=>rfl),rfl, ?_, ?_⟩, ?_⟩
   . intro b off hp;have hin:MemPlace.cell b off ∈ before:=by rw[hps];simpa using hp
     rw[hb.frozen (hlt _ hin)];exact hz b off hin
   . intro ha;have:=hn ha;rw[hps]at this;simpa using this
   . intro p hp _;rw[hps];simpa using hp
end
end Go.Proofs.YtobmaegpfbheoaaGreatDoor
