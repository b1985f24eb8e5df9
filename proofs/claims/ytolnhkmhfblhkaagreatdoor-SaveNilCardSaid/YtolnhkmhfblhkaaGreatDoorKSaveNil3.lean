/- Parts: save.objectOf, save.framed: the object and the frame of a new client's image. No condition. -/
import Derived.Test.YtolnhkmhfblhkaaGreatDoorKSn9
import Derived.Test.YtolnhkmhfblhkaaGreatDoorKSn10
import Derived.Test.YtolnhkmhfblhkaaGreatDoorKSaveNil1
import Derived.Test.YtolnhkmhfblhkaaGreatDoorKSaveNil2
set_option maxHeartbeats 20000000
set_option maxRecDepth 100000
namespace Go.Proofs.YtolnhkmhfblhkaaGreatDoor
open Go Go.RowKit
theorem Jq (w:World):Calls Tryz.prog 14 #[.pointer none] w fun e w'=>e=.returned (.bool true)/\w=w':=by
 go_enter Tryz.func14,Tryz.ntmps14;go_wp2;go_ret;exact⟨rfl,rfl⟩
theorem H5 (g:Nat) (w:World) (h:w.cell? ⟨g,0,none⟩=some (.int .u64 0)):Calls Tryz.prog 14 #[.pointer (some ⟨g,0,none⟩)] w fun e w'=>e=.returned (.bool true)/\w=w':=by
 go_enter Tryz.func14,Tryz.ntmps14;go_wp2;go_ret;exact⟨rfl,rfl⟩
theorem Es (g:Nat) (w:World) (h:w.cell? ⟨g,0,none⟩=some (.int .u64 7)):Calls Tryz.prog 14 #[.pointer (some ⟨g,0,none⟩)] w fun e w'=>e=.returned (.bool false)/\w=w':=by
 go_enter Tryz.func14,Tryz.ntmps14;go_wp2;go_ret;exact⟨rfl,rfl⟩
theorem Ea {fn:Func} {t:Tmp} {tmps:Array Value} {W:World} {R:Nat} {a0 a1 a2 a3 a4 a5:Value} (h:fn.results= #[.cell t 41]) (hp:tmps.getD t undef=.pointer (some ⟨R,0,none⟩)) (hx:As W R 41 #[a0,a1,a2,a3,a4,a5]):
 (results fn tmps).run Tryz.prog W=.ok (.agg #[a0,a1,a2,a3,a4,a5]) W:=by
 have c0:=hx.cell 0;have c1:=hx.cell 1;have c2:=hx.cell 2;have c3:=hx.cell 3;have c4:=hx.cell 4;have c5:=hx.cell 5;clear hx;have hp':tmps[t]?.getD undef=.pointer (some ⟨R,0,none⟩):=by simpa using hp
 simp[results,h,hp',go_sem,c0,c1,c2,c3,c4,c5]
abbrev Kk:Value:=.agg #[.int .u64 0,.int .u64 0,.int .u64 0,.int .u64 0,.slice none 0 0,.slice none 0 0]
theorem Gq (p:Value) (w:World) (h: ∀W,Below w.heap.size w W->Calls Tryz.prog 14 #[p] W fun e w'=>e=.returned (.bool true)/\W=w'):Calls Tryz.prog 7 #[p] w fun e w'=>e=.returned Kk/\Below w.heap.size w w':=by
 obtain⟨wi,hwi⟩: ∃wi,w.alloc (.cells #[.int .u64 0,.int .u64 0,.int .u64 0,.int .u64 0,.slice none 0 0,.slice none 0 0] 41)=wi:=⟨_,rfl⟩;have hb:=Au w (.cells #[.int .u64 0,.int .u64 0,.int .u64 0,.int .u64 0,.slice none 0 0,.slice none 0 0] 41);have hx:=As.new w 41 #[.int .u64 0,.int .u64 0,.int .u64 0,.int .u64 0,.slice none 0 0,.slice none 0 0];rw[hwi]at hb hx;have HN:=qz (h _ hb);obtain⟨Hb,Hx⟩:=hid2 hb hx;clear hb hx;clear h;go_enter Tryz.func7,Tryz.ntmps7;go_upto_region 1 with(fail);clear hwi;go_wp2_with (fail);(with_reducible refine(HN.out).mono ?_);rintro e w2 ⟨rfl,rfl⟩;have lx:=Hx.out.lt;obtain⟨c0,c1,c2,c3,c4,c5⟩:=Da Hx.out;have fz:=Hx.out.frozen;dsimp only
 repeat go_step
 have hxf:=((((((Hx.out.set_ 0 (.int .u64 0)).set_ 1 (.int .u64 0)).set_ 2 (.int .u64 0)).set_ 3 (.int .u64 0)).set_ 4 (.slice none 0 0)).set_ 5 (.slice none 0 0));have hbf:=A0 [.int .u64 0,.int .u64 0,.int .u64 0,.int .u64 0,.slice none 0 0,.slice none 0 0] Hb.out (Nat.le_refl w.heap.size) (o:=0);exact bodyPost_ret (Ea rfl rfl hxf) rfl ⟨rfl,hbf⟩
theorem E5:(Tryz.prog.info? 81).map (fun i=>(i.zero,i.size,i.bytes))=some (some (.agg #[.string ⟨#[]⟩,.int .i64 0,.bool false,.int .i64 0,.string ⟨#[]⟩,.slice none 0 0,.slice none 0 0]),7,104):=by kernel_rfl
theorem I6: ∃z,(Tryz.prog.info? 78).map (fun i=>(i.zero,i.size,i.bytes))=some (some z,20,272):=⟨.agg #[.int .u64 0,.int .i64 0,.string ⟨#[]⟩,.string ⟨#[]⟩,.int .i64 0,.bool false,.int .i64 0,.bool false,.int .i64 0,.string ⟨#[]⟩,.slice none 0 0,.slice none 0 0,.bool false,.int .i64 0,.bool false,.int .i64 0,.string ⟨#[]⟩,.slice none 0 0,.slice none 0 0,.slice none 0 0],by kernel_rfl⟩
theorem Gw (q:Nat) (w:World) (h:w.cell? ⟨q,0,none⟩=some (.int .u64 0)):Calls Tryz.prog 15 #[.pointer (some ⟨q,0,none⟩)] w fun e w'=>e=.returned (.int .u64 0)/\Below w.heap.size w w':=by
 go_enter Tryz.func15,Tryz.ntmps15;go_wp2;go_ret;exact⟨rfl,Below.refl _ _⟩
theorem D8 (q:Nat) (w:World) (h:w.cell? ⟨q,0,none⟩=some (.int .u64 0)) (h1:w.cell? ⟨q,1,none⟩=some (.slice none 0 0)):Calls Tryz.prog 16 #[.pointer (some ⟨q,0,none⟩)] w fun e w'=>e=.returned (.int .u64 1)/\Below w.heap.size w w':=by
 have hb:=qz (Below.refl w.heap.size w);go_enter Tryz.func16,Tryz.ntmps16;go_wp2_with (fail);go_quiet (fail);have hb2:=qz (Al hb.out nq);clear hb;go_wp2;go_ret;exact⟨rfl,hb2.out⟩
theorem Js (n:Nat) (hn:n=0) (f:Value) (w:World):Calls Tryz.prog 29 #[.slice none n 0,f] w fun e w'=>(∃a c,e=.returned (.slice a 0 c))/\Below w.heap.size w w':=by
 obtain⟨z,hi⟩:=I6;obtain⟨j0,hj,hy0,hy1,hy2⟩:=info_parts hi;obtain⟨w3,hrun,hown,hgr⟩:=run_make_own (P:=Tryz.prog) w w.heap.size 39 78 j0 _ 20 Tryz.underlying39 hj hy0 hy1 .i64 .i64 n (by rw[hy2];omega) (by simp only[maxLen];omega) (Nat.le_refl _);have Hn:=qz hn;have hW3:=qz ((Below.refl w.heap.size w).grown hgr (Nat.le_refl _) (fun k hk=>by cases hk));clear hown hgr hi hj hy0 hy1 hy2 hn;go_enter Tryz.func29,Tryz.ntmps29;go_wp2_with (fail);go_loopw [5,13] (fun V i wr=>V=.slice (some ⟨w.heap.size,0,none⟩) 0 n/\i=.int .i64 0/\wr=w3) (fun _ _ _=>0)
 case atStart=>exact⟨rfl,rfl,rfl⟩
 case round=>
  obtain⟨rfl,rfl,rfl⟩:=hrel;have e0:=Hn.out;have e1:decide ((0:Int)<(n:Int))=false:=by simp[e0]
  go_wp2;go_ret;exact⟨⟨_,_,rfl⟩,hW3.out⟩
theorem Iy (q:Nat) (w:World) (h1:w.cell? ⟨q,1,none⟩=some (.slice none 0 0)):Calls Tryz.prog 18 #[.pointer (some ⟨q,0,none⟩)] w fun e w'=>(∃a c,e=.returned (.slice a 0 c))/\Below w.heap.size w w':=by
 have HE:=qz (fun f=>Js 0 rfl f w);go_enter Tryz.func18,Tryz.ntmps18;go_wp2_with (fail);(with_reducible refine(HE.out _).mono ?_);rintro e w2 ⟨⟨a,c,rfl⟩,hb⟩;go_wp2;go_ret;exact⟨⟨_,_,rfl⟩,hb⟩
theorem G3 (w:World):Calls Tryz.prog 53 #[.pointer none] w fun e w'=>e=.returned (.int .i64 0)/\w=w':=by
 go_enter Tryz.func53,Tryz.ntmps53;go_wp2;go_ret;exact⟨rfl,rfl⟩
theorem I4 (w:World):Calls Tryz.prog 51 #[.pointer none] w fun e w'=>e=.returned (.slice none 0 0)/\w=w':=by
 go_enter Tryz.func51,Tryz.ntmps51;go_wp2;go_ret;exact⟨rfl,rfl⟩
theorem I5 (w:World):Calls Tryz.prog 52 #[.pointer none] w fun e w'=>e=.returned (.slice none 0 0)/\w=w':=by
 go_enter Tryz.func52,Tryz.ntmps52;go_wp2;go_ret;exact⟨rfl,rfl⟩
theorem J8 (w:World):Calls Tryz.prog 28 #[.agg #[.pointer none]] w fun e w'=>e=.returned (.int .i64 0)/\Below w.heap.size w w':=by
 have HC:=qz (fun W=>G3 W);go_enter Tryz.func28,Tryz.ntmps28;go_wp2_with (fail);(with_reducible refine(HC.out _).mono ?_);rintro e w2 ⟨rfl,rfl⟩;go_wp2;go_ret;exact⟨rfl,Au _ _⟩
theorem F7 (b:Nat) (V:Value) (w:World) (hr:Bn (fun i=>b<=i) b 81 7 w [] V) (hB:b<=w.heap.size):Calls Tryz.prog 27 #[V,.pointer none] w fun e w'=>(∃a c,e=.returned (.slice a 0 c))/\w.grownBy w' V.ownBlock:=by
 obtain⟨j0,hj,hy0,hy1,hy2⟩:=info_parts E5;have hE:=I4 w;have hLo:Hid (([]:List D).length+0<=maxLen/\(([]:List D).length+0)*104<=140737488355328):=⟨by simp[maxLen],by simp⟩;obtain⟨aV,cV,rfl⟩:=hr.slice;have HX:Hid (At (fun i=>b<=i/\(Value.slice aV ([]:List D).length cV).ownBlock≠some i) w [] []):=fun _ _ _=>rfl;have Hrd:Hid (An w 0 7 none 0 []):=⟨rfl,fun h=>absurd h (by omega)⟩;obtain⟨HE,Hr,Hj,Hy0,Hy1,Hy2⟩:=hid6 hE hr hj hy0 hy1 hy2;clear hE hr hj hy0 hy1 hy2;go_enter Tryz.func27,Tryz.ntmps27;go_wp2_with (fail);(with_reducible refine(HE.out).mono ?_);rintro e w1 ⟨rfl,rfl⟩;go_wp2_with (at_builtin;apply Shut.out);unfold Shut;refine Ek rfl (.tmp 7) (.tmp 9) 38 rfl Tryz.underlying38 Hj.out Hy0.out Hy1.out Hy2.out rfl (by omega) rfl Hr.out (by omega) (fun d hd=>by cases hd) HX.out rfl Hrd.out rfl hLo.out.1 hLo.out.2 ?_;intro V6 w6 hrow6 hg6 hat6;rw[List.append_nil]at hrow6;obtain⟨a6,c6,rfl⟩:=hrow6.slice;have Hb6:=qz hg6;have HK:=qz (I5 w6);clear hrow6 hg6 hat6;go_wp2_with (fail);(with_reducible refine(HK.out).mono ?_);rintro e w7 ⟨rfl,rfl⟩;go_wp2_with (fail);go_loopw [0,14] (fun V i wr=>V=.slice a6 ([]:List D).length c6/\i=.int .i64 0/\wr=w6) (fun _ _ _=>0)
 case atStart=>exact⟨rfl,rfl,rfl⟩
 case round=>
  obtain⟨rfl,rfl,rfl⟩:=hrel;go_wp2;go_ret;exact⟨⟨_,_,rfl⟩,Hb6.out⟩
theorem J7 (w:World):Calls Tryz.prog 17 #[.agg #[.pointer none]] w fun e w'=>(∃a c,e=.returned (.slice a 0 c))/\Below w.heap.size w w':=by
 obtain⟨w1,hw1⟩: ∃w1,w.alloc (.cells #[.pointer none] 26)=w1:=⟨_,rfl⟩;have Hb1:Hid (Below w.heap.size w w1):=hw1▸Au _ _;have hx1:As w1 w.heap.size 26 #[.pointer none]:=hw1▸As.new _ _ _;obtain⟨N,hN⟩: ∃N:Nat,N=0:=⟨0,rfl⟩;have HL:=qz (show Calls Tryz.prog 28 #[.agg #[.pointer none]] w1.drew fun e w'=>e=.returned (.int .i64 N)/\Below w1.drew.heap.size w1.drew w' from by subst hN;exact J8 w1.drew);obtain⟨j0,hj,hy0,hy1,hy2⟩:=info_parts E5;have c0:=hx1.cell 0;have lx:=hx1.lt;obtain⟨Hx1,Hj,Hy0,Hy1,Hy2,HN⟩:=hid6 hx1 hj hy0 hy1 hy2 hN;clear hx1 hj hy0 hy1 hy2 hN;go_enter Tryz.func17,Tryz.ntmps17;go_upto_region 1 with(fail);clear hw1;refine wp_region_held_drew (S:=fun Y:World=>Y.cell? ⟨w.heap.size,0,none⟩=some (.pointer none)) (by kernel_rfl) c0 (fun hHeld=> ?_);refine tkH 0 hHeld ?_;refine tkH 3 hHeld ?_;refine tkH 4 hHeld ?_;refine L2 1 fun K hK=> ?_;go_simp;(with_reducible refine(HL.out).mono ?_);rintro e w2 ⟨rfl,hb2⟩;have hx2:=Hx1.out.drew.below hb2 Hx1.out.drew.lt;refine hK.out _ _ (hx2.cell 0) (fun hHeld=> ?_);clear hK K
 try simp only[Act.put,tk1,tk2,tk3,tk4,tk5,tk6]
 have hW2:Below w.heap.size w w2:=(Hb1.out.trans ((Below.drew (Below.refl _ w1)).mono Hb1.out.size)).trans (hb2.mono Hb1.out.size);obtain⟨w3,hrun,hown,hgr⟩:=run_make_own (P:=Tryz.prog) w2 w.heap.size 38 81 j0 _ 7 Tryz.underlying38 Hj.out Hy0.out Hy1.out .i64 .i64 N (by rw[Hy2.out];have:=HN.out;omega) (by simp only[maxLen];have:=HN.out;omega) hW2.size;have hx3:=hx2.grown hgr (by simp);have hW3:=hW2.grown hgr hW2.size (fun k hk=>by cases hk);have hrow:Bn (fun i=>w.heap.size<=i) w.heap.size 81 7 w3 [] (.slice (some ⟨w2.heap.size,0,none⟩) 0 N):=⟨[],by simpa using hown,by simp,fun _ _ _=>by simp[Aa]⟩;have hG:=F7 w.heap.size _ w3 hrow hW3.size;refine L2 2 fun K hK=> ?_;go_simp;refine hK.out _ _ (hx3.cell 0) (fun hHeld=> ?_);clear hK K
 try simp only[Act.put,tk1,tk2,tk3,tk4,tk5,tk6]
 refine L2 5 fun K hK=> ?_;go_simp;(with_reducible refine(hG).mono ?_);rintro e w4 ⟨⟨a4,c4,rfl⟩,hg4⟩;have hx4:=hx3.grown hg4 (fun e=>by have e2:w.heap.size=w2.heap.size:=Option.some.inj e;have:=hx2.lt;omega);have hW4:=qz (hW3.grown hg4 hW3.size (fun k e=>by have e2:w2.heap.size=k:=Option.some.inj e;have:=hW2.size;omega));refine hK.out _ _ (hx4.cell 0) (fun hHeld=> ?_);clear hK K;clear hG hg4 hrow
 try simp only[Act.put,tk1,tk2,tk3,tk4,tk5,tk6]
 refine tkH 6 hHeld ?_;refine wpAnyH_done (by kernel_rfl) ?_ _;clear hHeld;go_wp2;go_ret;exact⟨⟨_,_,rfl⟩,hW4.out⟩
theorem Jx (g q:Nat) (s:Value) (w:World) (hg:As w g 29 #[.int .u64 7,.int .u64 0,s,.pointer none,.pointer none,.pointer (some ⟨q,0,none⟩)]) (hq:As w q 68 #[.int .u64 0,.slice none 0 0]):
 Calls Tryz.prog 7 #[.pointer (some ⟨g,0,none⟩)] w fun e w'=>(∃ea ec pa pc,e=.returned (.agg #[.int .u64 7,.int .u64 0,.int .u64 0,.int .u64 1,.slice ea 0 ec,.slice pa 0 pc]))/\Below w.heap.size w w':=by
 obtain⟨wi,hwi⟩: ∃wi,w.alloc (.cells #[.int .u64 0,.int .u64 0,.int .u64 0,.int .u64 0,.slice none 0 0,.slice none 0 0] 41)=wi:=⟨_,rfl⟩;have hb:=Au w (.cells #[.int .u64 0,.int .u64 0,.int .u64 0,.int .u64 0,.slice none 0 0,.slice none 0 0] 41);have hx:=As.new w 41 #[.int .u64 0,.int .u64 0,.int .u64 0,.int .u64 0,.slice none 0 0,.slice none 0 0];rw[hwi]at hb hx;have hgi:=hg.below hb hg.lt;have hqi:=hq.below hb hq.lt;have hN:=Es g wi (hgi.cell 0);have HL:=qz (fun(W:World) (hB:Below wi.heap.size wi W)=>Gw q W ((hqi.below hB hqi.lt).cell 0));have HX:=qz (fun(W:World) (hB:Below wi.heap.size wi W)=>D8 q W ((hqi.below hB hqi.lt).cell 0) ((hqi.below hB hqi.lt).cell 1));have HE:=qz (fun(W:World)=>J7 W);have HA:=qz (fun(W:World) (hB:Below wi.heap.size wi W)=>Iy q W ((hqi.below hB hqi.lt).cell 1));have d0:=hgi.cell 0;have d1:=hgi.cell 1;have d3:=hgi.cell 3;have d5:=hgi.cell 5;have lg:=hgi.lt;have lx:=hx.lt;obtain⟨e0,e1,e2,e3,e4,e5⟩:=Da hx;have fz:=hx.frozen;have gl:=hg.lt;have ng:g≠w.heap.size:=by omega
 have ng':w.heap.size≠g:=by omega
 obtain⟨Hb,Hx,HN⟩:=hid3 hb hx hN;clear hb hx hN;clear hg hq hgi hqi;go_enter Tryz.func7,Tryz.ntmps7;go_upto_region 1 with(fail);clear hwi;go_wp2_with (fail);(with_reducible refine(HN.out).mono ?_);rintro e w2 ⟨rfl,rfl⟩;go_upto_region 3 with(fail)
 go_region_held3 (fun W=>W.cell? ⟨g,0,none⟩=some (.int .u64 7)/\W.cell? ⟨g,1,none⟩=some (.int .u64 0)/\W.cell? ⟨g,3,none⟩=some (.pointer none)/\W.cell? ⟨g,5,none⟩=some (.pointer (some ⟨q,0,none⟩))) (go_keep) (first
  |(go_at_call 15;refine(HL.out _ (Below.drew (Below.refl _ _))).mono ?_;rintro e w3 ⟨rfl,hb3⟩;have hbr3:Below wi.heap.size wi w3:=((Below.drew (Below.refl _ _)).trans hb3);obtain⟨hc3,hf3⟩:=Cr hbr3)
  |(go_at_call 16;refine(HX.out _ hbr3).mono ?_;rintro e w4 ⟨rfl,hb4⟩;have hbr4:Below wi.heap.size wi w4:=hbr3.trans (hb4.mono hbr3.size);obtain⟨hc4,hf4⟩:=Cr hbr4)
  |(go_at_call 17;refine(HE.out _).mono ?_;rintro e w5 ⟨⟨ea,ec,rfl⟩,hb5⟩;have hbr5:Below wi.heap.size wi w5:=hbr4.trans (hb5.mono hbr4.size);obtain⟨hc5,hf5⟩:=Cr hbr5)
  |(go_at_call 18;refine(HA.out _ hbr5).mono ?_;rintro e w6 ⟨⟨pa,pc,rfl⟩,hb6⟩;have hbr6:Below wi.heap.size wi w6:=hbr5.trans (hb6.mono hbr5.size);obtain⟨hc6,hf6⟩:=Cr hbr6))
 all_goals
  have Hx6:=qz (Hx.out.below hbr6 Hx.out.lt);have Hw6:=qz (Hb.out.trans (hbr6.mono Hb.out.size));clear hc3 hf3 hc4 hf4 hc5 hf5 hc6 hf6 hb3 hb4 hb5 hb6 hbr3 hbr4 hbr5 hbr6 d0 d1 d3 d5 e0 e1 e2 e3 e4 e5 fz;have lx6:=Hx6.out.lt;obtain⟨c0,c1,c2,c3,c4,c5⟩:=Da Hx6.out;have fz:=Hx6.out.frozen
  repeat go_step
  have hxf:=((((((Hx6.out.set_ 0 (.int .u64 7)).set_ 1 (.int .u64 0)).set_ 2 (.int .u64 0)).set_ 3 (.int .u64 1)).set_ 4 (.slice ea 0 ec)).set_ 5 (.slice pa 0 pc));have hbf:=A0 [.int .u64 7,.int .u64 0,.int .u64 0,.int .u64 1,.slice ea 0 ec,.slice pa 0 pc] Hw6.out (Nat.le_refl w.heap.size) (o:=0);exact bodyPost_ret (Ea rfl rfl hxf) rfl ⟨⟨_,_,_,_,rfl⟩,hbf⟩
def Lw:List (ByteArray×Val):= [(⟨#[98,97,115,101]⟩,.mk 6 false 0 ⟨#[]⟩ [] []),(⟨#[99,108,105,101,110,116]⟩,.mk 3 false 7 ⟨#[]⟩ [] []),(⟨#[99,111,111,107,105,101]⟩,.mk 3 false 0 ⟨#[]⟩ [] []),(⟨#[108,97,115,116]⟩,.mk 3 false 0 ⟨#[]⟩ [] []),(⟨#[110,101,120,116]⟩,.mk 3 false 1 ⟨#[]⟩ [] []),(⟨#[112,101,110,100,105,110,103]⟩,.mk 5 false 0 ⟨#[]⟩ [] [])]
def Kt:Val:=.mk 6 false 0 ⟨#[]⟩ [] Lw
abbrev Ft:List UInt8:= [123,34,98,97,115,101,34,58,123,125,44,34,99,108,105,101,110,116,34,58,55,44,34,99,111,111,107,105,101,34,58,48,44,34,108,97,115,116,34,58,48,44,34,110,101,120,116,34,58,49,44,34,112,101,110,100,105,110,103,34,58,91,93,125]
theorem Ld:Bi Kt=Ft:=by kernel_rfl
theorem Kw:Bf Kt 1=0:=by decide+kernel
theorem Lx:K4 Kt:=by simp[Kt,Lw,K4,Lt,Lu,L0]
theorem Lb:Kt.bulk<=1000:=by decide+kernel
abbrev Lr:Array Value:= #[.string ⟨#[98,97,115,101]⟩,.int .i64 6,.bool false,.int .i64 0,.string ⟨#[]⟩,.slice none 0 0,.slice none 0 0,.string ⟨#[99,108,105,101,110,116]⟩,.int .i64 3,.bool false,.int .i64 7,.string ⟨#[]⟩,.slice none 0 0,.slice none 0 0,.string ⟨#[99,111,111,107,105,101]⟩,.int .i64 3,.bool false,.int .i64 0,.string ⟨#[]⟩,.slice none 0 0,.slice none 0 0,.string ⟨#[108,97,115,116]⟩,.int .i64 3,.bool false,.int .i64 0,.string ⟨#[]⟩,.slice none 0 0,.slice none 0 0,.string ⟨#[110,101,120,116]⟩,.int .i64 3,.bool false,.int .i64 1,.string ⟨#[]⟩,.slice none 0 0,.slice none 0 0,.string ⟨#[112,101,110,100,105,110,103]⟩,.int .i64 5,.bool false,.int .i64 0,.string ⟨#[]⟩,.slice none 0 0,.slice none 0 0]
theorem C2 (k:Int) (n:Int) (w:World) (B:Nat) (p:ByteArray):Ac w B (dP (p,.mk k false n ⟨#[]⟩ [] [])) [.string p,.int .i64 k,.bool false,.int .i64 n,.string ⟨#[]⟩,.slice none 0 0,.slice none 0 0]:=by
 have h1:Ab w B (.mk k false n ⟨#[]⟩ [] []) [.int .i64 k,.bool false,.int .i64 n,.string ⟨#[]⟩,.slice none 0 0,.slice none 0 0]:=by
  simp only[Ab];exact⟨none,0,none,0,rfl,by simp,by simp⟩
 exact⟨[.string p],_,rfl,⟨rfl,rfl⟩,_, [],by simp,Ih _ _ h1,rfl⟩
theorem Kv {b g:Nat} {W:World} (hb:b<=g) (h:As W g 82 Lr):Av b W (.row 7 (dO Lw)) [.slice (some ⟨g,0,none⟩) 6 6]:=fun w'' _ h2=>
 ⟨_,6,rfl,Ew _,Lr.toList,((Aa.one (C2 6 0 w'' _ _)).app ((Aa.one (C2 3 7 _ _ _)).app ((Aa.one (C2 3 0 _ _ _)).app ((Aa.one (C2 3 0 _ _ _)).app ((Aa.one (C2 3 1 _ _ _)).app (Aa.one (C2 5 0 _ _ _))))))),.inr ⟨g,0,rfl,h.lt,fun j u hu=>by
   rw[Nat.zero_add,h2 _ hb h.lt];exact(h.cell j).trans (by rw[<-Array.getElem?_toList];exact hu)⟩⟩
theorem Lc {w:World} {B:Nat} {a:Option Addr} {c:Nat} (h:Ac w B (.row 7 (dO Lw)) [.slice a 6 c]):Ab w B Kt [.int .i64 6,.bool false,.int .i64 0,.string ⟨#[]⟩,.slice none 0 0,.slice a 6 c]:=by
 refine Jw Kt _ ?_;simp only[Kt,dV,Ac];exact Aa.six.2 ⟨[.slice none 0 0], [.slice a 6 c],rfl,rfl,rfl,rfl,rfl,⟨none,0,rfl,by simp[dL], [],rfl,.inl rfl⟩,h⟩
theorem C0 (n:Int) (h0:0<=n) (h1:n<=4611686018427387903) (w:World):
 Calls Tryz.prog 32 #[.int .u64 n] w fun e w'=>e=.returned (.agg #[.int .i64 3,.bool false,.int .i64 n,.string ⟨#[]⟩,.slice none 0 0,.slice none 0 0])/\Below w.heap.size w w':=by
 go_enter Tryz.func32,Tryz.ntmps32;go_wp2;exact bodyPost_ret (v:=.agg #[.int .i64 3,.bool false,.int .i64 n,.string ⟨#[]⟩,.slice none 0 0,.slice none 0 0]) (by simp[results,Tryz.results32,go_sem]) rfl ⟨rfl,(Below.refl _ _).alloc (Nat.le_refl _) _⟩
theorem Ez (ea pa:Option Addr) (ec pc:Nat) (w:World):
 Calls Tryz.prog 19 #[.agg #[.int .u64 7,.int .u64 0,.int .u64 0,.int .u64 1,.slice ea 0 ec,.slice pa 0 pc]] w fun e w'=>Below w.heap.size w w'/\ ∃a c,e=.returned (.tuple #[.agg #[.int .i64 6,.bool false,.int .i64 0,.string ⟨#[]⟩,.slice none 0 0,.slice a 6 c],.int .i64 0])/\Av w.heap.size w' (.row 7 (dO Lw)) [.slice a 6 c]:=by
 have N7:=qz (fun W=>C0 7 (by omega) (by omega) W);have N0:=qz (fun W=>C0 0 (by omega) (by omega) W);have N1:=qz (fun W=>C0 1 (by omega) (by omega) W);go_enter Tryz.func19,Tryz.ntmps19;go_upto_region 2 with(fail);obtain⟨w1,hw1⟩: ∃w1,((w.alloc (.cells #[.int .u64 7,.int .u64 0,.int .u64 0,.int .u64 1,.slice ea 0 ec,.slice pa 0 pc] 41)).alloc (.cells #[.int .i64 0,.bool false,.int .i64 0,.string ⟨#[]⟩,.slice none 0 0,.slice none 0 0] 57)).alloc (.cells #[.int .i64 6,.bool false,.int .i64 0,.string ⟨#[]⟩,.slice none 0 0,.slice none 0 0] 57)=w1:=⟨_,rfl⟩;have Hb1:Hid (Below w.heap.size w w1):=hw1▸(((Below.refl _ _).alloc (Nat.le_refl _) _).alloc (by simp) _).alloc (by simp;omega) _;have x1:As w1 w.heap.size 41 #[.int .u64 7,.int .u64 0,.int .u64 0,.int .u64 1,.slice ea 0 ec,.slice pa 0 pc]:=hw1▸((As.new _ _ _).alloc _).alloc _;have y1:As w1 (w.heap.size+1) 57 #[.int .i64 0,.bool false,.int .i64 0,.string ⟨#[]⟩,.slice none 0 0,.slice none 0 0]:=by
  rw[<-hw1];have h:=(As.new (w.alloc (.cells #[.int .u64 7,.int .u64 0,.int .u64 0,.int .u64 1,.slice ea 0 ec,.slice pa 0 pc] 41)) 57 #[.int .i64 0,.bool false,.int .i64 0,.string ⟨#[]⟩,.slice none 0 0,.slice none 0 0]).alloc (.cells #[.int .i64 6,.bool false,.int .i64 0,.string ⟨#[]⟩,.slice none 0 0,.slice none 0 0] 57)
  rwa [World.size_alloc]at h
 have z1:As w1 (w.heap.size+2) 57 #[.int .i64 6,.bool false,.int .i64 0,.string ⟨#[]⟩,.slice none 0 0,.slice none 0 0]:=by
  rw[<-hw1];have h:=As.new ((w.alloc (.cells #[.int .u64 7,.int .u64 0,.int .u64 0,.int .u64 1,.slice ea 0 ec,.slice pa 0 pc] 41)).alloc (.cells #[.int .i64 0,.bool false,.int .i64 0,.string ⟨#[]⟩,.slice none 0 0,.slice none 0 0] 57)) 57 #[.int .i64 6,.bool false,.int .i64 0,.string ⟨#[]⟩,.slice none 0 0,.slice none 0 0]
  rwa [World.size_alloc,World.size_alloc]at h
 have s1:w1.heap.size=w.heap.size+3:=by rw[<-hw1];simp
 rw[hw1];clear hw1;have i4:=x1.cell 4;have l1:=x1.lt;have l3:=z1.lt;obtain⟨X1,Y1,Z1⟩:=hid3 x1 y1 z1;clear x1 y1 z1;go_wp2_with (fail);go_loopw [16] (fun i wr=>i=.int .i64 0/\wr=w1) (fun _ _=>0)
 case atStart=>exact⟨rfl,rfl⟩
 case round=>
  obtain⟨rfl,h1⟩:=hrel;have h2:=h1.symm;clear h1;subst h2;go_upto_region 8 with(fail);obtain⟨w2,hw2⟩: ∃w2,w1.alloc (.cells #[.int .i64 5,.bool false,.int .i64 0,.string ⟨#[]⟩,.slice none 0 0,.slice none 0 0] 57)=w2:=⟨_,rfl⟩;have Hb2:Hid (Below w.heap.size w w2):=hw2▸Hb1.out.alloc Hb1.out.size _;have X2:=qz (hw2▸X1.out.alloc (.cells #[.int .i64 5,.bool false,.int .i64 0,.string ⟨#[]⟩,.slice none 0 0,.slice none 0 0] 57));have Y2:=qz (hw2▸Y1.out.alloc (.cells #[.int .i64 5,.bool false,.int .i64 0,.string ⟨#[]⟩,.slice none 0 0,.slice none 0 0] 57));have Z2:=qz (hw2▸Z1.out.alloc (.cells #[.int .i64 5,.bool false,.int .i64 0,.string ⟨#[]⟩,.slice none 0 0,.slice none 0 0] 57));have p2:As w2 (w.heap.size+3) 57 #[.int .i64 5,.bool false,.int .i64 0,.string ⟨#[]⟩,.slice none 0 0,.slice none 0 0]:=by
   have h:=As.new w1 57 #[.int .i64 5,.bool false,.int .i64 0,.string ⟨#[]⟩,.slice none 0 0,.slice none 0 0];rw[s1,hw2]at h;exact h
  rw[hw2];clear hw2;have P2:=qz p2;clear p2;have i5:=X2.out.cell 5;have l2:=X2.out.lt;go_wp2_with (fail);go_loopw [35] (fun i wr=>i=.int .i64 0/\wr=w2) (fun _ _=>0)
  case atStart=>exact⟨rfl,rfl⟩
  case round=>
   obtain⟨rfl,h1⟩:=hrel;have h2:=h1.symm;clear h1;subst h2;obtain⟨c0,c1,c2,c3,c4,c5⟩:=Da X2.out;obtain⟨b0,b1,b2,b3,b4,b5⟩:=Da Z2.out;obtain⟨q0,q1,q2,q3,q4,q5⟩:=Da P2.out;have lz:=Z2.out.lt;have lp:=P2.out.lt;have ly:=Y2.out.lt;obtain⟨r0,r1,r2,r3,r4,r5⟩:=Da Y2.out;have fz:=Y2.out.frozen;go_upto_region 16 with(fail)
   go_region_held3 (fun W=>W.cell? ⟨w.heap.size,0,none⟩=some (.int .u64 7)/\W.cell? ⟨w.heap.size,1,none⟩=some (.int .u64 0)/\W.cell? ⟨w.heap.size,2,none⟩=some (.int .u64 0)/\W.cell? ⟨w.heap.size,3,none⟩=some (.int .u64 1)/\W.cell? ⟨w.heap.size+2,0,none⟩=some (.int .i64 6)/\W.cell? ⟨w.heap.size+2,1,none⟩=some (.bool false)/\W.cell? ⟨w.heap.size+2,2,none⟩=some (.int .i64 0)/\W.cell? ⟨w.heap.size+2,3,none⟩=some (.string ⟨#[]⟩)/\W.cell? ⟨w.heap.size+2,4,none⟩=some (.slice none 0 0)/\W.cell? ⟨w.heap.size+2,5,none⟩=some (.slice none 0 0)/\W.cell? ⟨w.heap.size+3,0,none⟩=some (.int .i64 5)/\W.cell? ⟨w.heap.size+3,1,none⟩=some (.bool false)/\W.cell? ⟨w.heap.size+3,2,none⟩=some (.int .i64 0)/\W.cell? ⟨w.heap.size+3,3,none⟩=some (.string ⟨#[]⟩)/\W.cell? ⟨w.heap.size+3,4,none⟩=some (.slice none 0 0)/\W.cell? ⟨w.heap.size+3,5,none⟩=some (.slice none 0 0)) (go_keep) (first
    |(go_at_call 32;refine(N7.out _).mono ?_;rintro e w3 ⟨rfl,hb3⟩;have hbr3:Below w2.heap.size w2 w3:=((Below.drew (Below.refl _ _)).trans hb3);obtain⟨hc3,hf3⟩:=Cr hbr3)
    |(go_at_call 32;refine(N1.out _).mono ?_;rintro e w6 ⟨rfl,hb6⟩;have hbr6:=hbr5.trans (hb6.mono hbr5.size);obtain⟨hc6,hf6⟩:=Cr hbr6;have u0:=Nat.lt_of_lt_of_le l2 hbr6.size;have u1:=Nat.lt_of_lt_of_le ly hbr6.size;have u2:=Nat.lt_of_lt_of_le lz hbr6.size;have u3:=Nat.lt_of_lt_of_le lp hbr6.size;have v0:=Nat.ne_of_lt u0;have v1:=Nat.ne_of_lt u1;have v2:=Nat.ne_of_lt u2;have v3:=Nat.ne_of_lt u3)
    |(go_at_call 32;refine(N0.out _).mono ?_;rintro e w5 ⟨rfl,hb5⟩;have hbr5:=hbr4.trans (hb5.mono hbr4.size);obtain⟨hc5,hf5⟩:=Cr hbr5)
    |(go_at_call 32;refine(N0.out _).mono ?_;rintro e w4 ⟨rfl,hb4⟩;have hbr4:=hbr3.trans (hb4.mono hbr3.size);obtain⟨hc4,hf4⟩:=Cr hbr4))
   have Hr6:=qz (Y2.out.below hbr6 ly);have Hw6:=qz (Hb2.out.trans (hbr6.mono Hb2.out.size));have hz6:w.heap.size<=w6.heap.size:=Nat.le_of_lt u0;clear hc3 hf3 hc4 hf4 hc5 hf5 hc6 hf6 hb3 hb4 hb5 hb6 hbr3 hbr4 hbr5 hbr6 c0 c1 c2 c3 c4 c5 b0 b1 b2 b3 b4 b5 q0 q1 q2 q3 q4 q5 r0 r1 r2 r3 r4 r5 fz
   repeat go_step
   have hxf:=(((((((Hr6.out.set_ 0 (.int .i64 6)).set_ 1 (.bool false)).set_ 2 (.int .i64 0)).set_ 3 (.string ⟨#[]⟩)).set_ 4 (.slice none 0 0)).set_ 5 (.slice (some ⟨w6.heap.size,0,none⟩) 6 6))).alloc (.cells Lr 82);have hbf:=(A0 [.int .i64 6,.bool false,.int .i64 0,.string ⟨#[]⟩,.slice none 0 0,.slice (some ⟨w6.heap.size,0,none⟩) 6 6] Hw6.out (Nat.le_succ w.heap.size) (o:=0)).alloc (by rw[By];exact hz6) (.cells Lr 82);have hff:=Kv (b:=w.heap.size) hz6 (W:=(Bc w6 (w.heap.size+1) 0 [.int .i64 6,.bool false,.int .i64 0,.string ⟨#[]⟩,.slice none 0 0,.slice (some ⟨w6.heap.size,0,none⟩) 6 6]).alloc (.cells Lr 82)) (by
    have h:=As.new (Bc w6 (w.heap.size+1) 0 [.int .i64 6,.bool false,.int .i64 0,.string ⟨#[]⟩,.slice none 0 0,.slice (some ⟨w6.heap.size,0,none⟩) 6 6]) 82 Lr
    rwa [By]at h)
   refine bodyPost_ret (Eh rfl rfl hxf) rfl ?_;exact⟨hbf,_,_,rfl,hff⟩
end Go.Proofs.YtolnhkmhfblhkaaGreatDoor
