/- Parts: The law MutatorNests returns true. Condition: a mutator of a bulk of at most 1048576. -/
import Derived.Test.YtmglfdckpjegdaaGreatDoorKMu37
import Derived.Test.YtmglfdckpjegdaaGreatDoorKMu42
import Derived.Test.YtmglfdckpjegdaaGreatDoorKMutatorNests2
import Derived.Test.YtmglfdckpjegdaaGreatDoorKMutatorNests4
set_option maxHeartbeats 20000000
namespace Go.Proofs.YtmglfdckpjegdaaGreatDoor
open Go Go.RowKit
theorem Ye (m:Mut): ∀n,Bm (Fx m n)=Bm m+n*(8+O2.bulk+O2.bulk)
 |0=>by simp[Fx]
 |n+1=>by
  have h0:Cp.size=0:=rfl;simp only[Fx,Ng,Bm,C3,Ye m n,h0,Nat.succ_mul];omega
theorem Aho (m:Mut) (h:Mu m): ∀n,Mu (Fx m n)
 |0=>h
 |n+1=>by
  simp only[Fx,Ng,Mu,Sm,O2,Jg,Mz,Jf];exact⟨⟨by omega,by omega⟩,by simp,by simp,Aho m h n,trivial⟩
theorem Aed:(Ak (Bb (Ng []))).length=31:=by decide+kernel
theorem Rj {S:Nat->Prop} {w:World} {l:List Mut} {sl:Value} (h:Ae S w (.row 19 (Gw l)) [sl]):Ae S w (dM (Ng l)) [.int .i64 7,.string ⟨#[]⟩,.string ⟨#[]⟩,.int .i64 0,.bool false,.int .i64 0,.bool false,.int .i64 0,.string ⟨#[]⟩,.slice none 0 0,.slice none 0 0,.bool false,.int .i64 0,.bool false,.int .i64 0,.string ⟨#[]⟩,.slice none 0 0,.slice none 0 0,sl]:=fun w'' h1 h2=>by
 unfold Ng dM;exact⟨[.int .i64 7],_,rfl,⟨rfl,rfl⟩, [.string ⟨#[]⟩],_,rfl,⟨rfl,rfl⟩, [.string ⟨#[]⟩],_,rfl,⟨rfl,rfl⟩, [.int .i64 0],_,rfl,⟨rfl,rfl⟩, [.bool false],_,rfl,⟨rfl,rfl⟩, [.int .i64 0,.bool false,.int .i64 0,.string ⟨#[]⟩,.slice none 0 0,.slice none 0 0],_,rfl,Rk _ _, [.bool false],_,rfl,⟨rfl,rfl⟩, [.int .i64 0,.bool false,.int .i64 0,.string ⟨#[]⟩,.slice none 0 0,.slice none 0 0],_,rfl,Rk _ _, [sl], [],rfl,h w'' h1 h2,rfl⟩
structure NI (w:World) (X:Nat) (ca:Array Value) (m:Mut) (j:Nat) (cs:Array Value) (wr:World):Prop where
 below:Below w.heap.size w wr
 box:Al wr w.heap.size Ag ca
 var:Al wr X Ag cs
 holds:Ae (fun i=>i<w.heap.size\/X<i) wr (dM (Fx m j)) cs.toList
theorem NI.size {w:World} {X:Nat} {ca:Array Value} {m:Mut} {j:Nat} {cs:Array Value} {wr:World} (h:NI w X ca m j cs wr):cs.size=19:=by
 have:=h.holds.now.len.1;rw[Ct]at this;simpa using this
theorem NI.one {w:World} {X:Nat} {ca:Array Value} {m:Mut} {j:Nat} {cs:Array Value} {wr:World} (h:NI w X ca m j cs wr):cs.all (·.oneCell')=true:=by
 rw[Array.all_eq_true];intro i hi;exact h.holds.now.len.2 _ (by simp)
theorem NI.call {w:World} {X:Nat} {ca:Array Value} {m:Mut} {j:Nat} {cs:Array Value} {wr w':World} (h:NI w X ca m j cs wr) (hb:Below wr.heap.size wr w'):NI w X ca m j cs w':=
 ⟨h.below.trans (hb.mono h.below.size),h.box.below hb h.box.lt,h.var.below hb h.var.lt,h.holds.below hb⟩
theorem NI.more {w:World} {X:Nat} {ca:Array Value} {m:Mut} {j:Nat} {cs:Array Value} {wr w':World} {cs':Array Value} (h:NI w X ca m j cs wr) (hX:w.heap.size<X) (hc:cs'= #[.int .i64 7,.string ⟨#[]⟩,.string ⟨#[]⟩,.int .i64 0,.bool false,.int .i64 0,.bool false,.int .i64 0,.string ⟨#[]⟩,.slice none 0 0,.slice none 0 0,.bool false,.int .i64 0,.bool false,.int .i64 0,.string ⟨#[]⟩,.slice none 0 0,.slice none 0 0,.slice (some ⟨wr.heap.size,0,none⟩) 1 1])
 (h1:Al w' X Ag cs') (h2:Below w.heap.size w w') (h3:w'.heap.size=(wr.alloc (.cells cs Ag)).heap.size) (h4: ∀i,i≠X->w'.heap[i]? =(wr.alloc (.cells cs Ag)).heap[i]?):NI w X ca m (j+1) cs' w':=by
 have hg:=h.var.lt;have hbx:=h.box.alloc (.cells cs Ag);have hrow:Ae (fun i=>i<w.heap.size\/X<i) (wr.alloc (.cells cs Ag)) (.row 19 (Gw [Fx m j])) [.slice (some ⟨wr.heap.size,0,none⟩) 1 1]:=by
  refine Ae.blk (Al.new wr Ag cs) (.inr hg) ?_ ?_ rfl
  . intro d hd;simp only[Gw,List.mem_cons,List.not_mem_nil,or_false]at hd;rw[hd,Ct]
  . simpa only[Gw]using Bg.one (h.holds.below (Aa wr (.cells cs Ag)))
 refine⟨h2, ?_,h1, ?_⟩
 . exact(h4 _ (by omega)).trans hbx
 . subst hc;have h5:=Rj hrow;exact h5.later (by omega) fun p p1 _=>World.cell?_of_block (h4 p.block (by omega))
theorem Am2 {m:Mut} (h:Bk m=0):Cd m<=64:=by
 unfold Bk at h
 split at h
 . cases h
 . omega
theorem Agw (w:World):Ae (fun _=>False) w (dM (Ng [])) [.int .i64 7,.string ⟨#[]⟩,.string ⟨#[]⟩,.int .i64 0,.bool false,.int .i64 0,.bool false,.int .i64 0,.string ⟨#[]⟩,.slice none 0 0,.slice none 0 0,.bool false,.int .i64 0,.bool false,.int .i64 0,.string ⟨#[]⟩,.slice none 0 0,.slice none 0 0,.slice none 0 0]:=
 Rj fun _ _ _=>⟨none,0,rfl,(by simp[Gw]), [],rfl,.inl rfl⟩
theorem Wj:Bk (Ng [])=0:=by decide+kernel
set_option maxRecDepth 100000 in
theorem Sd (m:Mut) (cs:List Value) (n:Int) (w:World) (hT:Cq w) (hNT:P4 w) (hN:Fs w) (h:Ah w w.heap.size (dM m) cs) (hb:Bm m<=1048576) (hin:Mu m):
 Calls Tryz.prog 4 #[.agg cs.toArray,.int .i64 n] w fun e w'=>e=.returned (.bool true)/\Below w.heap.size w w':=by
 have h1:=fun(W:World) hB=>Gq m cs W (hT.below (w':=W) hB) ((h.below hB).more hB.size) (by omega) hin;have gK:=fun(W:World) (hB:Below w.heap.size w W)=>Ku W (hT.below hB) (hNT.below hB) (hN.below hB);have hs19:cs.length=19:=by have:=h.len.1;rwa [Ct]at this
 have h2:=fun(W:World) hB=>D6 m cs W (hT.below (w':=W) hB) (hN.below hB) ((h.below hB).more hB.size) (by omega) hin;have gS:=fun(W:World) (hB:Below w.heap.size w W)=>Tr m cs W ((h.below hB).more hB.size) (by omega);have gD:=fun(W:World) (hB:Below w.heap.size w W)=>Abb m cs W ((h.below hB).more hB.size) (by omega);have hold:=Ae.of_old h (Nat.le_refl _) (Below.refl w.heap.size w);unfold Gl at h2;obtain⟨ca,hca⟩: ∃ca,cs.toArray=ca:=⟨_,rfl⟩;have hs1:ca.size=19:=by rw[<-hca];simpa using hs19
 have hcl:ca.toList=cs:=by rw[<-hca]
 rw[hca]at h1 h2 gS gD ⊢;rw[<-hcl]at hold;obtain⟨wi,hwi⟩: ∃wi,w.alloc (.cells ca Ag)=wi:=⟨_,rfl⟩;have hxa:Al wi w.heap.size Ag ca:=by rw[<-hwi];exact Al.new _ _ _
 have hbi:Below w.heap.size w wi:=by rw[<-hwi];exact Aa _ _
 by_cases hn:n<0\/20<n
 . have hno: ∀W,Below w.heap.size w W->True:=fun _ _=>trivial;rcases hn with hn|hn
   all_goals
    obtain⟨GK,Hbi⟩:=hid2 gK hbi;clear gK hbi;clear h1 h2 gS gD hold hT hNT hN h hxa hno;go_enter Tryz.func4,Tryz.ntmps4;go_upto_region 1 with(fail);clear hwi;go_wp2_with (fail);(with_reducible refine(GK.out _ Hbi.out).mono ?_);rintro e w9 ⟨rfl,hb9⟩;have hw9:=Hbi.out.trans (hb9.mono Hbi.out.size);have Hw9:=Lib.hid hw9;clear hw9;clear hb9;go_wp2;go_ret;exact⟨rfl,Hw9.out⟩
 obtain⟨N,rfl⟩: ∃N:Nat,n=N:=⟨n.toNat,by omega⟩;have hN20:N<=20:=by omega
 have q1: ¬(N:Int)<0:=by omega
 have q2: ¬(20:Int)<N:=by omega
 clear hn;have hTx:=fun(W:World) (hB:Below w.heap.size w W) (cs':List Value) (hh:Ah W W.heap.size (dM (Fx m N)) cs')=>D6 (Fx m N) cs' W (hT.below hB) (hN.below hB) hh (by
  rw[Ye];have e0:O2.bulk=6:=by decide+kernel
  rw[e0];omega) (Aho m hin N)
 have gB:=fun(W:World) (hB:Below w.heap.size w W) (cs':List Value) (hh:Ah W W.heap.size (dV (Bb (Ng []))) cs')=>Abs (Bb (Ng [])) cs' W (hT.below hB) (B8 _ _ hh) (by decide+kernel) (Rl (Ng []) (by simp[Ng,Mu,Sm,O2,Jg,Mz,Jf]));simp only[Aed,Js Wj]at gB;have gV:=fun(W:World)=>Tu (Ng []) 1 (fun _=>False) W _ (La Wj) (by decide+kernel) (fun _ h=>h.elim) (Agw W);unfold Gl at hTx;obtain⟨H1,H2,GK,GS,GD,HTx,GB,GV,Hxa,Hbi,Hold⟩:=hid11 h1 h2 gK gS gD hTx gB gV hxa hbi hold;clear h1 h2 gK gS gD hTx gB gV hxa hbi hold;clear hT hNT hN h hca hcl;go_enter Tryz.func4,Tryz.ntmps4;go_upto_region 1 with(fail);clear hwi
 repeat (first|(refine wpList_step fun K' hK'=> ?_;refine D7 rfl Ag (.tmp 2) rfl w.heap.size ca Hxa.out rfl _ Tryz.underlying30 rfl (by rw[hs1];kernel_rfl) ?_;refine hK' _ _ ?_;clear hK' K')|go_step)
 (with_reducible refine(H1.out _ Hbi.out).mono ?_);rintro e w1 ⟨rfl,hb1⟩;have hw1:=Hbi.out.trans (hb1.mono Hbi.out.size);have hx1:=Hxa.out.below hb1 Hxa.out.lt;obtain⟨Hw1,Hx1⟩:=hid2 hw1 hx1;clear hw1 hx1;clear hb1;by_cases hm:Bk m=0;rotate_left
 . generalize Bk m=c at hm ⊢;have t0:(c != 0)=true:=by simpa using hm
   clear hm;go_wp2_with (fail);(with_reducible refine(GK.out _ Hw1.out).mono ?_);rintro e w9 ⟨rfl,hb9⟩;have hw9:=Hw1.out.trans (hb9.mono Hw1.out.size);have Hw9:=Lib.hid hw9;clear hw9;clear hb9;go_wp2;go_ret;exact⟨rfl,Hw9.out⟩
 have hcode:=Ado hm N;have hlen:=Y9 m N;have hsz:=Am2 hm;have hT2:=H2.out;have hT3:=HTx.out;rw[hm]at hT2 ⊢;simp only[if_true]at hT2;have e0:Eo (Bb m)=⟨(Ak (Bb m)).toArray⟩:=by unfold Eo;rw[if_pos (Js hm)]
 obtain⟨f1,_,_,_⟩:=L5 hm hin;have hbv:=Pn m;have hdp:=Ql m;dsimp only;go_upto_region 3 with(fail)
 iterate 2 go_step
 refine Ac Ag (.tmp 2) rfl w.heap.size _ Hx1.out rfl _ Tryz.underlying30 rfl (by rw[hs1];kernel_rfl) ?_
 iterate 5 go_step
 have hca1:ca.all (·.oneCell')=true:=by rw[Array.all_eq_true];intro i hi;exact Hold.out.now.len.2 _ (by simp)
 refine Co Ag (.tmp 5) (.tmp 25) rfl (cs0:=Cx) ca rfl rfl hs1.symm (by rw[hs1];kernel_rfl) hca1 ?_;have hX:w.heap.size<w1.heap.size:=Hx1.out.lt;have hI0:NI w w1.heap.size ca m 0 ca (w1.alloc (.cells ca Ag)):=⟨Hw1.out.alloc Hw1.out.size _,Hx1.out.alloc _,Al.new _ _ _,(((Hold.out.base Hw1.out).below (Aa w1 (.cells ca Ag)))).mono fun i _ h=> .inl h.1⟩;generalize w1.alloc (.cells ca Ag)=w2 at hI0 ⊢;generalize w1.heap.size=X at hI0 hX ⊢;obtain⟨HI0,HT2,HT3⟩:=hid3 hI0 hT2 hT3;clear hI0 hT2 hT3;clear hca1 Hold;go_upto_region 5 with(fail);go_loopw [6] (fun i wr=> ∃j:Nat,i=.int .i64 j/\j<=N/\ ∃cs,Hid (NI w X ca m j cs wr)) (fun i _=>N - (intOf i).toNat)
 case atStart=>exact⟨0,rfl,Nat.zero_le _,_,HI0⟩
 case round=>
  obtain⟨j,rfl,hj,cj,hI⟩:=hrel;clear HI0;by_cases hlt:j<N
  . have hq1:(j:Int)<(N:Int):=by omega
    have hq0:(0:Int)<=j:=by omega
    have hsj:=hI.out.size;go_upto_region 7 with(fail)
    iterate 2 go_step
    refine Ac Ag (.tmp 5) rfl X _ hI.out.var rfl _ Tryz.underlying30 rfl (by rw[hsj];kernel_rfl) ?_
    iterate 2 go_step
    refine Abo (.tmp 31) rfl rfl hsj ?_
    iterate 5 go_step
    have hza:(#[.int .i64 7,.string ⟨#[]⟩,.string ⟨#[]⟩,.int .i64 0,.bool false,.int .i64 0,.bool false,.int .i64 0,.string ⟨#[]⟩,.slice none 0 0,.slice none 0 0,.bool false,.int .i64 0,.bool false,.int .i64 0,.string ⟨#[]⟩,.slice none 0 0,.slice none 0 0,.slice (some ⟨wr.heap.size,0,none⟩) 1 1]:Array Value).size=19:=rfl;refine A4 Ag (.tmp 5) (.tmp 33) rfl X 0 (hI.out.var.alloc (.cells cj Ag)) (.agg #[.int .i64 7,.string ⟨#[]⟩,.string ⟨#[]⟩,.int .i64 0,.bool false,.int .i64 0,.bool false,.int .i64 0,.string ⟨#[]⟩,.slice none 0 0,.slice none 0 0,.bool false,.int .i64 0,.bool false,.int .i64 0,.string ⟨#[]⟩,.slice none 0 0,.slice none 0 0,.slice (some ⟨wr.heap.size,0,none⟩) 1 1]) rfl rfl (by rw[hsj];exact Nat.le_refl 19) (by kernel_rfl) (by simp[Value.cells,Value.oneCell']) (hI.out.below.alloc hI.out.below.size (.cells cj Ag)) (Nat.le_of_lt hX) ?_;intro w7 hv7 hb7 hs7 ho7;rw[show(Value.agg #[.int .i64 7,.string ⟨#[]⟩,.string ⟨#[]⟩,.int .i64 0,.bool false,.int .i64 0,.bool false,.int .i64 0,.string ⟨#[]⟩,.slice none 0 0,.slice none 0 0,.bool false,.int .i64 0,.bool false,.int .i64 0,.string ⟨#[]⟩,.slice none 0 0,.slice none 0 0,.slice (some ⟨wr.heap.size,0,none⟩) 1 1]).cells= #[.int .i64 7,.string ⟨#[]⟩,.string ⟨#[]⟩,.int .i64 0,.bool false,.int .i64 0,.bool false,.int .i64 0,.string ⟨#[]⟩,.slice none 0 0,.slice none 0 0,.bool false,.int .i64 0,.bool false,.int .i64 0,.string ⟨#[]⟩,.slice none 0 0,.slice none 0 0,.slice (some ⟨wr.heap.size,0,none⟩) 1 1]from rfl,Dd _ _ (hsj.trans hza.symm)]at hv7;have HN:Hid (NI w X ca m (j+1) #[.int .i64 7,.string ⟨#[]⟩,.string ⟨#[]⟩,.int .i64 0,.bool false,.int .i64 0,.bool false,.int .i64 0,.string ⟨#[]⟩,.slice none 0 0,.slice none 0 0,.bool false,.int .i64 0,.bool false,.int .i64 0,.string ⟨#[]⟩,.slice none 0 0,.slice none 0 0,.slice (some ⟨wr.heap.size,0,none⟩) 1 1] w7):=hI.out.more hX rfl hv7 hb7 hs7 ho7;clear hv7 hb7 hs7 ho7 hI;go_wp2;go_roundw
    case rel=>exact⟨j+1,by go_num,by omega,_,HN⟩
    case measure=>simp only[intOf];omega
  . obtain rfl:j=N:=by omega
    have hsj:=hI.out.size;have g:=HT3.out wr hI.out.below cj.toList hI.out.holds.now;rw[show cj.toList.toArray=cj by simp]at g;rw[Aed]at hlen;have hT0:Bk (Fx m j)=0->Eo (Bb (Fx m j))=⟨(Ak (Bb (Fx m j))).toArray⟩:=fun e=>by unfold Eo;rw[if_pos (Js e)]
    obtain⟨code,hco⟩: ∃c,Bk (Fx m j)=c:=⟨_,rfl⟩;rw[hco]at g hcode hT0;obtain⟨TX,hTX⟩: ∃t,(if code=0 then Eo (Bb (Fx m j))else⟨#[]⟩)=t:=⟨_,rfl⟩;rw[hTX]at g;rw[e0]at HT2 f1;have hsz2:code=0->TX.size=(⟨(Ak (Bb m)).toArray⟩:ByteArray).size+j*31:=fun e=>by
     rw[<-hTX,if_pos e,hT0 e];exact hlen
    obtain⟨TM,hTM⟩: ∃t,(⟨(Ak (Bb m)).toArray⟩:ByteArray)=t:=⟨_,rfl⟩;rw[hTM]at HT2 f1 hsz2;have hdp2:F6 m<=64:=by omega
    obtain⟨G,Hcode⟩:=hid2 g hcode;clear g hcode;clear hT0 hlen hTX hco hTM e0;go_upto_region 8 with(fail)
    iterate 2 go_step
    refine Ac Ag (.tmp 5) rfl X _ hI.out.var rfl _ Tryz.underlying30 rfl (by rw[hsj];kernel_rfl) ?_;go_wp2_with (fail);(with_reducible refine(G.out).mono ?_);rintro e w5 ⟨hb5,rfl⟩;have hw5:=hI.out.below.trans (hb5.mono hI.out.below.size);have hx5:=hI.out.box.below hb5 hI.out.box.lt;obtain⟨Hw5,Hx5⟩:=hid2 hw5 hx5;clear hw5 hx5;clear hb5;dsimp only;go_upto_region 9 with(fail)
    iterate 2 go_step
    refine Ac Ag (.tmp 2) rfl w.heap.size _ Hx5.out rfl _ Tryz.underlying30 rfl (by rw[hs1];kernel_rfl) ?_;go_wp2_with (fail);(with_reducible refine(GS.out _ Hw5.out).mono ?_);rintro e w6 ⟨rfl,hb6⟩;have hw6:=Hw5.out.trans (hb6.mono Hw5.out.size);have hx6:=Hx5.out.below hb6 Hx5.out.lt;obtain⟨Hw6,Hx6⟩:=hid2 hw6 hx6;clear hw6 hx6;clear hb6;by_cases c1:64<Cd m+j
    . obtain rfl:code=6:=by rw[Hcode.out,if_pos c1]
      have q3:(64:Int)<(Cd m:Int)+j:=by omega
      clear Hcode hsz2;go_wp2_with (fail);(with_reducible refine(GK.out _ Hw6.out).mono ?_);rintro e w9 ⟨rfl,hb9⟩;have hw9:=Hw6.out.trans (hb9.mono Hw6.out.size);have Hw9:=Lib.hid hw9;clear hw9;clear hb9;go_wp2;go_ret;exact⟨rfl,Hw9.out⟩
    have hcode:=Hcode.out;rw[if_neg c1]at hcode;clear Hcode;have Hcode:=Lib.hid hcode;clear hcode;have q3: ¬(64:Int)<(Cd m:Int)+j:=by omega
    dsimp only;go_upto_region 11 with(fail)
    iterate 2 go_step
    refine Ac Ag (.tmp 2) rfl w.heap.size _ Hx6.out rfl _ Tryz.underlying30 rfl (by rw[hs1];kernel_rfl) ?_;go_wp2_with (fail);(with_reducible refine(GD.out _ Hw6.out).mono ?_);rintro e w7 ⟨rfl,hb7⟩;have hw7:=Hw6.out.trans (hb7.mono Hw6.out.size);have hx7:=Hx6.out.below hb7 Hx6.out.lt;obtain⟨Hw7,Hx7⟩:=hid2 hw7 hx7;clear hw7 hx7;clear hb7;by_cases c2:F6 m+j<=6;rotate_left
    . obtain rfl:code=5:=by rw[Hcode.out,if_neg c2]
      have q4:(6:Int)<(F6 m:Int)+j:=by omega
      clear Hcode hsz2;go_wp2_with (fail);(with_reducible refine(GK.out _ Hw7.out).mono ?_);rintro e w9 ⟨rfl,hb9⟩;have hw9:=Hw7.out.trans (hb9.mono Hw7.out.size);have Hw9:=Lib.hid hw9;clear hw9;clear hb9;go_wp2;go_ret;exact⟨rfl,Hw9.out⟩
    obtain rfl:code=0:=by rw[Hcode.out,if_pos c2]
    have q4: ¬(6:Int)<(F6 m:Int)+j:=by omega
    have hTs:=hsz2 rfl;clear Hcode hsz2;dsimp only;go_upto_region 13 with(fail)
    iterate 2 go_step
    refine Ac Ag (.tmp 2) rfl w.heap.size _ Hx7.out rfl _ Tryz.underlying30 rfl (by rw[hs1];kernel_rfl) ?_;go_wp2_with (fail);(with_reducible refine(HT2.out _ Hw7.out).mono ?_);rintro e w8 ⟨hb8,rfl⟩;have hw8:=Hw7.out.trans (hb8.mono Hw7.out.size);have Hw8:=Lib.hid hw8;clear hw8;clear hb8;go_wp2_with (fail);(with_reducible refine(GV.out _).mono ?_);rintro e w9 ⟨hb9,oa,oc,rfl,hf9⟩;have hw9:=Hw8.out.trans (hb9.mono Hw8.out.size);have hf:=hf9.now;obtain⟨Hw9,Hf⟩:=hid2 hw9 hf;clear hw9 hf;clear hb9 hf9;go_wp2_with (fail);(with_reducible refine(GB.out _ Hw9.out _ Hf.out).mono ?_);rintro e w10 ⟨rfl,hb10⟩;have hw10:=Hw9.out.trans (hb10.mono Hw9.out.size);have hTs':(TX.size:Int)=(TM.size:Int)+(j:Int)*31:=by omega
    have Hw10:=Lib.hid hw10;clear hw10;clear hb10 hTs;go_wp2_with (fail);(with_reducible refine(GK.out _ Hw10.out).mono ?_);rintro e w11 ⟨rfl,hb11⟩;have hw11:=Hw10.out.trans (hb11.mono Hw10.out.size);have Hw11:=Lib.hid hw11;clear hw11;clear hb11;go_wp2;go_ret;exact⟨rfl,Hw11.out⟩
end Go.Proofs.YtmglfdckpjegdaaGreatDoor
