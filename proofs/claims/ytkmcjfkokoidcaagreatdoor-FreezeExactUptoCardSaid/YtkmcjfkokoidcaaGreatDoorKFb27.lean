/- Parts: commonplaceref02.Compare of lists: 0 just where they have the same order. Printed by mksam.py. Condition: a bulk of at most 10^8. -/
import Derived.Test.YtkmcjfkokoidcaaGreatDoorZFbShelfN
import Derived.Test.YtkmcjfkokoidcaaGreatDoorKFb23
import Derived.Test.YtkmcjfkokoidcaaGreatDoorKFb25
set_option maxHeartbeats 20000000
set_option maxRecDepth 100000
namespace Go.Proofs.YtkmcjfkokoidcaaGreatDoor
open Go Go.RowKit
theorem Abc (k:ByteArray) (v:Val):I0 (k,v)=if Lr k≠0 then 8 else G0 v:=by
 unfold I0;by_cases h:Lr k=0
 . rw[if_neg (by rw[(Th k).1 h];simp),if_neg (by simpa using h)]
 . rw[if_pos (by
    cases hk:Uy k with
    |false=>rfl
    |true=>exact absurd ((Th k).2 hk) h),if_pos h]
theorem J0 {l:List Bj} {q:Nat} {e:Bj} (h0:A6 (l.take q)=0) (hx:l[q]? =some e):A6 (l.take (q+1))=I0 e/\(I0 e≠0->A6 l=I0 e):=by
 induction l generalizing q with
 |nil=>simp at hx
 |cons x r ih=>
  cases q with
  |zero=>
   simp only[List.getElem?_cons_zero,Option.some.injEq]at hx;subst hx;refine⟨?_,fun h=> ?_⟩
   . simp only[Nat.zero_add,List.take_succ_cons,List.take_zero,A6]
     split
     . rename_i h;exact h.symm
     . rfl
   . simp only[A6,if_neg h]
  |succ q=>
   simp only[List.take_succ_cons,A6]at h0 ⊢;by_cases hx0:I0 x=0
   . rw[if_pos hx0]at h0 ⊢;obtain⟨i1,i2⟩:=ih h0 (by simpa using hx);exact⟨i1,fun h=>by rw[if_pos hx0];exact i2 h⟩
   . rw[if_neg hx0]at h0;exact absurd h0 hx0
structure RdI (w0 w:World) (R g:Nat) (s:ByteArray) (k:Nat):Prop where
 below:Below w0.heap.size w0 w
 ge:w0.heap.size<=R
 rd:S5 w R g s k
 map:Cr (Value.int .u8) w g (KV R)
theorem RdI.ne {w0 w:World} {R g k:Nat} {s:ByteArray} (h:RdI w0 w R g s k):g≠R:=by
 rintro rfl;have h1:=h.rd;have h2:=h.map;unfold S5 Aj at h1;unfold Cr at h2;rw[h1]at h2;simp at h2
theorem RdI.to {w0 w w':World} {R g k k':Nat} {s:ByteArray} (h:RdI w0 w R g s k) (t:Bd R g s k' w w'):RdI w0 w' R g s k':=
 ⟨h.below.grown t.1 h.below.size fun r e=>by have:=Option.some.inj e;have:=h.ge;omega,h.ge,t.2,h.map.keep (t.1.block g h.map.lt (by intro e;exact h.ne (Option.some.inj e)))⟩
theorem RdI.later {w0 w w':World} {R g k:Nat} {s:ByteArray} (h:RdI w0 w R g s k) (t:Below w.heap.size w w'):RdI w0 w' R g s k:=
 ⟨h.below.trans (t.mono h.below.size),h.ge,Aj.below h.rd t (Aj.lt h.rd),h.map.below t h.map.lt⟩
def Afp (w0:World) (R g:Nat) (s:ByteArray) (f:Nat):Prop:= ∀(w:World) (k:Nat) (d:Int),RdI w0 w R g s k->k<=s.size->4*(s.size - k)+1<=f->0<=d->d<=65->
    Calls Tryz.prog 85 #[.pointer (some ⟨R,0,none⟩),.int .i64 d] w (Fv R g s w (Bi f s.data.toList k d))
theorem Bd.undrew {w w1:World} {R g k:Nat} {s:ByteArray} (h:Bd R g s k w.drew w1):Bd R g s k w w1:=⟨⟨h.1.os,h.1.tape,h.1.output,h.1.size,h.1.block⟩,h.2⟩
theorem Gi {w w1:World} {R:Nat} (hR:R<w.heap.size) (h:w.grownBy w1 (some R)): ∃wm:World,wm.heap.size=w.heap.size/\(∀i,i≠R->wm.heap[i]? =w.heap[i]?)/\Below wm.heap.size wm w1:=by
 have hR1:R<w1.heap.size:=by have:=h.size;omega
 refine⟨{w with heap:=w.heap.setIfInBounds R w1.heap[R]},by simp,fun i hi=> ?_, ?_⟩
 . simp only[Array.getElem?_setIfInBounds];rw[if_neg (fun e=>hi e.symm)]
 . refine⟨h.os,h.tape,h.output,by simpa using h.size,fun i hi=> ?_⟩;simp only[Array.size_setIfInBounds]at hi;simp only[Array.getElem?_setIfInBounds];by_cases e:R=i
   . subst e;rw[if_pos rfl,if_pos hi,Array.getElem?_eq_getElem hR1]
   . rw[if_neg e];exact h.block i hi (fun e'=>e (Option.some.inj e').symm)
theorem Bd.app {w w5 w6:World} {R g k b:Nat} {s:ByteArray} {e:TypeId} {sz:Nat} {l:List D} {V:Value} {wr:World} (h:Bd R g s k w w5) (hg:w5.grownBy w6 V.ownBlock) (hr:Dg b e sz wr l V) (hb:w.heap.size<=b) (hR:R<w.heap.size):Bd R g s k w w6:=by
 have hne: ∀i,i<w.heap.size->some i≠V.ownBlock:=fun i hi e=>by have:=(hr.base i e.symm).1;omega
 exact⟨⟨hg.os.trans h.1.os,hg.tape.trans h.1.tape,hg.output.trans h.1.output,Nat.le_trans h.1.size hg.size,fun i hi hn=>(hg.block i (by have:=h.1.size;omega) (hne i hi)).trans (h.1.block i hi hn)⟩,Aj.grown h.2 hg (hne R hR)⟩
theorem Bd.setN {w w1:World} {R g k:Nat} {s:ByteArray} (h:Bd R g s k w w1) (p:Addr) (hp:w.heap.size<=p.block) (hR:R<w.heap.size) (v:Value):Bd R g s k w (w1.setCell p v):=
 ⟨Kl h.1 p (.inr hp) v,Aj.far h.2 (by omega) v⟩
theorem Dh (R g:Nat) (s:ByteArray) (k:Nat) (c:UInt8) (n:Int) (hn:(c.toNat:Int)=n) {B:Bool} (w:World) (hs:s.size<=1000000000) (hk:k<=s.size) (h:S5 w R g s k) (hB:decide (s.data.toList[Al s.data.toList k]? =some c)=B):
 Calls Tryz.prog 206 #[.pointer (some ⟨R,0,none⟩),.int .u8 n] w fun e w'=>e=.returned (.bool B)/\Bd R g s (if B=true then Al s.data.toList k+1 else Al s.data.toList k) w w':=by
 subst hn;exact Wp R g s k c w hs hk h hB
structure RdL (w wr:World) (R g:Nat) (s:ByteArray) (j:Nat) (cs:Array Value):Prop where
 went:Bd R g s j w wr
 res:Aj wr w.heap.size 37 A5
 var:Aj wr (w.heap.size+1) 37 cs
theorem RdL.to_ {w wr w':World} {R g j j':Nat} {s:ByteArray} {cs:Array Value} (h:RdL w wr R g s j cs) (hR:R<w.heap.size) (t:Bd R g s j' wr w'):RdL w w' R g s j' cs:=
 ⟨h.went.trans t,h.res.grown t.1 (by intro e;have:=Option.some.inj e;omega),h.var.grown t.1 (by intro e;have:=Option.some.inj e;omega)⟩
theorem RdL.leave {w wr:World} {R g j:Nat} {s:ByteArray} {cs:Array Value} (h:RdL w wr R g s j cs) (hR:R<w.heap.size) (a0 a1 a2 a3 a4 a5:Value):
 Aj (An wr w.heap.size 0 [a0,a1,a2,a3,a4,a5]) w.heap.size 37 #[a0,a1,a2,a3,a4,a5]/\Bd R g s j w (An wr w.heap.size 0 [a0,a1,a2,a3,a4,a5]):=
 ⟨((((((h.res.set_ 0 a0).set_ 1 a1).set_ 2 a2).set_ 3 a3).set_ 4 a4).set_ 5 a5),Bd.many (Nat.le_refl _) hR _ 0 h.went⟩
theorem Tf {b:Nat} {w:World} {vs:List Val} {a:Option Addr} {n c:Nat} (h:Br b w (.row 6 (dL vs)) [.slice a n c]):Br b w (dV (Sh vs)) [.int .i64 5,.bool false,.int .i64 0,.string ⟨#[]⟩,.slice a n c,.slice none 0 0]:=fun w'' h1 h2=>by
 simp only[Sh,Gu,dV,Ah];exact Ag.six.2 ⟨[.slice a n c], [.slice none 0 0],rfl,rfl,rfl,rfl,rfl,h w'' h1 h2,⟨none,0,rfl,by simp[dO], [],rfl,by simp[dO]⟩⟩
theorem Ab8 {b:Nat} {w:World} {o:List (ByteArray×Val)} {a:Option Addr} {n c:Nat} (h:Br b w (.row 7 (dO o)) [.slice a n c]):Br b w (dV (Qf o)) [.int .i64 6,.bool false,.int .i64 0,.string ⟨#[]⟩,.slice none 0 0,.slice a n c]:=fun w'' h1 h2=>by
 simp only[Qf,Gu,dV,Ah];exact Ag.six.2 ⟨[.slice none 0 0], [.slice a n c],rfl,rfl,rfl,rfl,rfl,⟨none,0,rfl,by simp[dL], [],rfl,by simp[dL]⟩,h w'' h1 h2⟩
abbrev Aht:TypeId:=257
theorem Om:MKey Tryz.prog 9 Value.string:=Xn Tryz.underlying9
def Rn (acc:List (ByteArray×Val)):List (ByteArray×Value):=acc.map fun m=>(m.1,Value.agg #[])
theorem Ab9 (a:ByteArray) (m:ByteArray×Val) (r:List (ByteArray×Val)):Gx a (m::r)=(decide (m.1=a)||Gx a r):=rfl
theorem Rf (a:ByteArray): ∀acc:List (ByteArray×Val),Ed a (Rn acc)=if Gx a acc=true then some (.agg #[])else none
 | []=>rfl
 |m::r=>by
  have ih:=Rf a r;show(if a=m.1 then some (Value.agg #[])else Ed a (Rn r))=_;rw[Ab9];by_cases h:a=m.1
  . rw[if_pos h,decide_eq_true h.symm,Bool.true_or,if_pos rfl]
  . rw[if_neg h,ih,decide_eq_false (fun e=>h e.symm),Bool.false_or]
def Adl (R g G:Nat) (s:ByteArray) (acc:List (ByteArray×Val)) (w:World) (r:Rd (List UInt8)) (p:Nat) (e:Ending) (w':World):Prop:=match r with
 | .bad c q=>e=Ju c q/\w.grownBy w' (some R)
 | .ok k q=>if Gx ⟨k.toArray⟩ acc=true then e=Ju 8 p/\w.grownBy w' (some R)
   else e=.returned (.string ⟨k.toArray⟩)/\ ∃w1,Bd R g s q w w1/\w1.grownBy w' (some G)/\Cr Value.string w' G (Rn acc++ [(⟨k.toArray⟩,.agg #[])])
theorem Cr.grown {α:Type} {f:α->Value} {w w':World} {g:Nat} {kv:List (α×Value)} {r:Option Nat} (h:Cr f w g kv) (t:w.grownBy w' r) (hg:some g≠r):Cr f w' g kv:=h.keep (t.block g h.lt hg)
theorem T5 (w:World):(zeroValue 309).run Tryz.prog w=.ok (.agg #[]) w:=by kernel_rfl
theorem X5 (R g G:Nat) (s:ByteArray) (acc:List (ByteArray×Val)) (k:Nat) (w:World) (hT: ∀W,w.grownBy W (some R)->B3 W) (hs:s.size<=1000000000) (hk:k<=s.size) (h:S5 w R g s k) (hM:Cr Value.string w G (Rn acc)) (hG:G≠R):
 Calls Tryz.prog 207 #[.pointer (some ⟨R,0,none⟩),.map (some G)] w (Adl R g G s acc w (Cv s.data.toList (Al s.data.toList k)) (Al s.data.toList k)):=by
 have hS:=Fo R g s k w hs hk h;have hp:=Bp hk;generalize Al s.data.toList k=p at hS hp ⊢;have hne:some G≠some R:=fun e=>hG (Option.some.inj e)
 cases hr:Cv s.data.toList p with
 |bad c q=>
  obtain⟨HS,HT,HM,Hr⟩:=hid4 hS hT hM hr;clear hS hT hM hr;clear h;go_enter Tryz.func207,Tryz.ntmps207;go_wp2_with (fail);(with_reducible refine(HS.out).mono ?_);rintro e w1 ⟨rfl,h1⟩;obtain⟨c0,c1,_,f1,hR⟩:=h1.2.cells;have hQ:=Gj R g s p w1 (HT.out w1 h1.1) hs hp h1.2;rw[Hr.out]at hQ;obtain⟨H1,HQ⟩:=hid2 h1 hQ;clear h1 hQ;go_wp2_with (fail);(with_reducible refine(HQ.out).mono ?_);rintro e w2 ⟨rfl,h2⟩;exact⟨rfl,rfl,Bv H1.out.1 h2⟩
 |ok kk q=>
  unfold Adl;dsimp only;obtain⟨KK,hKK⟩: ∃K:ByteArray,(⟨kk.toArray⟩:ByteArray)=K:=⟨_,rfl⟩;rw[hKK];have hF:=Rf KK acc
  cases hh:Gx KK acc with
  |true=>
   rw[hh,if_pos rfl]at hF;simp only[if_true];obtain⟨HS,HT,HM,Hr,HF,HKK⟩:=hid6 hS hT hM hr hF hKK;clear hS hT hM hr hF hKK;clear h;go_enter Tryz.func207,Tryz.ntmps207;go_wp2_with (fail);(with_reducible refine(HS.out).mono ?_);rintro e w1 ⟨rfl,h1⟩;obtain⟨c0,c1,_,f1,hR⟩:=h1.2.cells;have hQ:=Gj R g s p w1 (HT.out w1 h1.1) hs hp h1.2;rw[Hr.out]at hQ;obtain⟨H1,HQ⟩:=hid2 h1 hQ;clear h1 hQ;go_wp2_with (fail);(with_reducible refine(HQ.out).mono ?_);rintro e w2 ⟨e1,h2⟩;rw[HKK.out]at e1;subst e1;have hM2:=(HM.out.grown H1.out.1 hne).grown h2.1 hne;have hrun:=Jf Om Tryz.underlying257 hM2 KK T5 true;rw[HF.out]at hrun;simp only[Option.getD_some,Option.isSome_some,if_true]at hrun;have H12:=qz (Bv H1.out.1 h2.1);have HM2:=qz hM2;clear hM2;clear h2;go_wp2_with (fail);(with_reducible refine(Ca _ _ _ _).mono ?_);rintro e w3 ⟨rfl,rfl⟩;exact⟨rfl,rfl,Gh H12.out _⟩
  |false=>
   rw[hh,if_neg (by decide)]at hF;simp only[Bool.false_eq_true,if_false];obtain⟨HS,HT,HM,Hr,HF,HKK⟩:=hid6 hS hT hM hr hF hKK;clear hS hT hM hr hF hKK;clear h;go_enter Tryz.func207,Tryz.ntmps207;go_wp2_with (fail);(with_reducible refine(HS.out).mono ?_);rintro e w1 ⟨rfl,h1⟩;obtain⟨c0,c1,_,f1,hR⟩:=h1.2.cells;have hQ:=Gj R g s p w1 (HT.out w1 h1.1) hs hp h1.2;rw[Hr.out]at hQ;obtain⟨H1,HQ⟩:=hid2 h1 hQ;clear h1 hQ;go_wp2_with (fail);(with_reducible refine(HQ.out).mono ?_);rintro e w2 ⟨e1,h2⟩;rw[HKK.out]at e1;subst e1;have hM2:=(HM.out.grown H1.out.1 hne).grown h2.1 hne;have hrun:=Jf Om Tryz.underlying257 hM2 KK T5 true;rw[HF.out]at hrun;simp only[Option.getD_none,Option.isSome_none,if_true]at hrun;obtain⟨w4,hrun4,hM4,hg4,_⟩:=Kt Om Tryz.underlying257 (hM2.alloc (.cells #[] 309)) HF.out (.agg #[]);have h12:=(H1.out.trans h2).alloc (.cells #[] 309);have HG:=qz (And.intro h12 (And.intro hg4 hM4));clear h2 hM2 hM4 hg4 h12;go_wp2;go_ret;exact⟨rfl,_,HG.out.1,HG.out.2.1,HG.out.2.2⟩
structure RBx (w W:World) (cs:Array Value):Prop where
 below:Below w.heap.size w W
 blk:Aj W w.heap.size 37 cs
theorem RBx.start (w:World):RBx w (w.alloc (.cells A5 37)) A5:=⟨Aa w _,Aj.new _ _ _⟩
theorem RBx.later {w W W':World} {cs:Array Value} (h:RBx w W cs) (t:Below W.heap.size W W'):RBx w W' cs:=⟨h.below.trans (t.mono h.below.size),h.blk.below t h.blk.lt⟩
theorem RBx.many {w W:World} {b0 b1 b2 b3 b4 b5:Value} (h:RBx w W #[b0,b1,b2,b3,b4,b5]) (a0 a1 a2 a3 a4 a5:Value):RBx w (An W w.heap.size 0 [a0,a1,a2,a3,a4,a5]) #[a0,a1,a2,a3,a4,a5]:=
 ⟨Bq _ h.below (Nat.le_refl _),((((((h.blk.set_ 0 a0).set_ 1 a1).set_ 2 a2).set_ 3 a3).set_ 4 a4).set_ 5 a5)⟩
def Fw (w:World) (RES:Rd Val) (e:Ending) (w':World):Prop:=Below w.heap.size w w'/\match RES with
 | .ok v q=> ∃cs:List Value,e=.returned (.tuple #[.agg cs.toArray,.int .i64 (q:Nat),.int .i64 0])/\Br w.heap.size w' (dV v) cs
 | .bad c q=>e=.returned (.tuple #[.agg A5,.int .i64 (q:Nat),.int .i64 c])
def Acb (u:Option Nat):Int:=match u with
 |some n=>n
 |none=> -1
theorem Ac9 {s:ByteArray} {p:Nat} (h:p+6<=s.size) (a:s[p]=92) (b:s[p+1]=117):C4 (s.data.toList.drop p)=Km (s.data.toList.drop (p+2)) 4 0:=by
 have ga:(s.data.toList.drop p)[0]? =some 92:=by rw[List.getElem?_drop,Nat.add_zero,A9 s (by omega),a]
 have gb:(s.data.toList.drop p)[1]? =some 117:=by rw[List.getElem?_drop,A9 s (by omega),b]
 unfold C4;rw[if_neg,List.drop_drop];rw[ga,gb,List.length_drop,Ab];simp;omega
theorem Ry (s:ByteArray) (p:Nat) (w:World) (hs:s.size<=1000000000) (hp:p<=s.size+6):Calls Tryz.prog 213 #[.string s,.int .i64 p] w fun e w'=>e=.returned (.int .i64 (Acb (C4 (s.data.toList.drop p))))/\w=w':=by
 have hlen:=Ab s;by_cases h6:s.size<p+6
 . have e:C4 (s.data.toList.drop p)=none:=by unfold C4;rw[if_pos (.inl (by rw[List.length_drop];omega))]
   rw[e];have l:(s.size:Int)<(p:Int)+6:=by omega
   clear e hlen;go_enter Tryz.func213,Tryz.ntmps213;go_wp2;go_ret;exact⟨rfl,rfl⟩
 have l6: ¬((s.size:Int)<(p:Int)+6):=by omega
 have q0:p<s.size:=by omega
 have q1:p+1<s.size:=by omega
 obtain⟨a,ha⟩: ∃a,s[p]=a:=⟨_,rfl⟩;obtain⟨b,hb⟩: ∃b,s[p+1]=b:=⟨_,rfl⟩;have hal:=Be a;have hbl:=Be b;have ne: ∀(c:UInt8) (n:Nat),n<256->c≠UInt8.ofNat n->((c.toNat:Int)==(n:Int))=false:=fun c n hn h=>by rw[Gg hn];simpa using h
 have ga:(s.data.toList.drop p)[0]? =some a:=by rw[List.getElem?_drop,Nat.add_zero,A9 s q0,ha]
 have gb:(s.data.toList.drop p)[1]? =some b:=by rw[List.getElem?_drop,A9 s q1,hb]
 by_cases h92:a=92;rotate_left
 . have e:C4 (s.data.toList.drop p)=none:=by unfold C4;rw[if_pos];right;left;rw[ga];simpa using h92
   have e1:=ne a 92 (by decide) h92;rw[e];clear e hlen ga gb ne h92 h6;go_enter Tryz.func213,Tryz.ntmps213;go_wp2;go_ret;exact⟨rfl,rfl⟩
 by_cases h117:b=117;rotate_left
 . have e:C4 (s.data.toList.drop p)=none:=by unfold C4;rw[if_pos];right;right;rw[gb];simpa using h117
   have e1:=ne b 117 (by decide) h117;rw[e];subst h92;clear e hlen ga gb ne h117 h6;go_enter Tryz.func213,Tryz.ntmps213;go_wp2;go_ret;exact⟨rfl,rfl⟩
 subst h92 h117;rw[Ac9 (by omega) ha hb];obtain⟨F,hF⟩: ∃F,Km (s.data.toList.drop (p+2)) 4 0=F:=⟨_,rfl⟩;rw[hF];have H0:=qz hF;clear hF ga gb ne hlen;go_enter Tryz.func213,Tryz.ntmps213;go_wp2
 go_loop [5,6] (fun x i=> ∃k n:Nat,2<=k/\k<=6/\i=.int .i64 k/\x=.int .i64 n/\n<16 ^ (k - 2)/\Hid (Km (s.data.toList.drop (p+k)) (6 - k) n=F)) (fun _ i=>6 - (intOf i).toNat)
 case atStart=>exact⟨2,0,by omega,by omega,rfl,rfl,by decide,H0⟩
 case round=>
  obtain⟨k,n,hk2,hk6,rfl,rfl,hn,hf⟩:=hrel;clear H0 ha hb;by_cases hlt:k<6
  . have hkt:p+k<s.size:=by omega
    obtain⟨c,hc⟩: ∃c,s[p+k]=c:=⟨_,rfl⟩;have hg:s.data.toList[p+k]? =some c:=by rw[A9 s hkt,hc]
    have hcl:=Be c;have hc0:(0:Int)<=(c.toNat:Int):=by omega
    have hn':n<4096:=by
     have:16 ^ (k - 2)<=16 ^ 3:=Nat.pow_le_pow_right (by decide) (by omega);omega
    have hf':=hf.out;rw[D0 hg,show 6 - k=(6 - (k+1))+1 from by omega]at hf';simp only[Km]at hf';have hst: ∀d,Me c=some d->16*n+d<16 ^ (k+1 - 2)/\Km (s.data.toList.drop (p+(k+1))) (6 - (k+1)) (16*n+d)=F:=by
     intro d hd;rw[hd]at hf';refine⟨?_,hf'⟩;have:=Uu hd;rw[show k+1 - 2=(k - 2)+1 from by omega,Nat.pow_succ];omega
    have hno:Me c=none->none=F:=by
     intro hd;rw[hd]at hf';exact hf'
    clear hf hg hf' hn;by_cases r1:48<=c.toNat/\c.toNat<=57
    . obtain⟨g1,g2⟩:=hst (c.toNat - 48) (by unfold Me;rw[if_pos r1]);have l1:(48:Int)<=(c.toNat:Int):=by omega
      have l2:(c.toNat:Int)<58:=by omega
      have Ev:=qz (show(16*(n:Int)+(c.toNat:Int) - 48)=((16*n+(c.toNat - 48):Nat):Int)from by omega);obtain⟨G1,G2⟩:=hid2 g1 g2;clear g1 g2;clear hst hno r1;go_wp2
      go_round
      case rel=>exact⟨k+1,_,by omega,by omega,by go_num,by rw[Ev.out],G1.out,G2⟩
      case measure=>simp[intOf];omega
    have l12: ¬((48:Int)<=(c.toNat:Int))\/ ¬((c.toNat:Int)<58):=by omega
    by_cases r2:97<=c.toNat/\c.toNat<=102
    . obtain⟨g1,g2⟩:=hst (c.toNat - 87) (by unfold Me;rw[if_neg r1,if_pos r2]);have l2': ¬((c.toNat:Int)<58):=by omega
      have l1:(97:Int)<=(c.toNat:Int):=by omega
      have l2:(c.toNat:Int)<103:=by omega
      have Ev:=qz (show(16*(n:Int)+(c.toNat:Int) - 87)=((16*n+(c.toNat - 87):Nat):Int)from by omega);obtain⟨G1,G2⟩:=hid2 g1 g2;clear g1 g2;clear hst hno r1 r2 l12;go_wp2
      go_round
      case rel=>exact⟨k+1,_,by omega,by omega,by go_num,by rw[Ev.out],G1.out,G2⟩
      case measure=>simp[intOf];omega
    by_cases r3:65<=c.toNat/\c.toNat<=70
    . obtain⟨g1,g2⟩:=hst (c.toNat - 55) (by unfold Me;rw[if_neg r1,if_neg r2,if_pos r3]);have l2': ¬((c.toNat:Int)<58):=by omega
      have l97: ¬((97:Int)<=(c.toNat:Int)):=by omega
      have l1:(65:Int)<=(c.toNat:Int):=by omega
      have l2:(c.toNat:Int)<71:=by omega
      have Ev:=qz (show(16*(n:Int)+(c.toNat:Int) - 55)=((16*n+(c.toNat - 55):Nat):Int)from by omega);obtain⟨G1,G2⟩:=hid2 g1 g2;clear g1 g2;clear hst hno r1 r2 r3 l12;go_wp2
      go_round
      case rel=>exact⟨k+1,_,by omega,by omega,by go_num,by rw[Ev.out],G1.out,G2⟩
      case measure=>simp[intOf];omega
    have hF:=hno (by unfold Me;rw[if_neg r1,if_neg r2,if_neg r3]);subst hF;clear hst hno;by_cases a1:(48:Int)<=(c.toNat:Int)<;>by_cases a2:(c.toNat:Int)<58<;>by_cases a3:(97:Int)<=(c.toNat:Int)<;>by_cases a4:(c.toNat:Int)<103<;>by_cases a5:(65:Int)<=(c.toNat:Int)<;>by_cases a6:(c.toNat:Int)<71
    all_goals first|(exfalso;omega)|(clear r1 r2 r3 l12;go_wp2;go_ret;exact⟨rfl,rfl⟩)
  . obtain rfl:k=6:=by omega
    have hf':=hf.out;have e:Km (s.data.toList.drop (p+6)) (6 - 6) n=some n:=by cases s.data.toList.drop (p+6)<;>rfl
    rw[e]at hf';subst hf';clear hf e;go_wp2;go_ret;exact⟨rfl,rfl⟩
theorem Kv: ∀{l l':List Val},Nu l l'=true ↔ l.length=l'.length/\ ∀(j:Nat) x y,l[j]? =some x->l'[j]? =some y->Ft x y=true
 | [], []=>by simp[Nu]
 | [],_::_=>by simp[Nu]
 |_::_, []=>by simp[Nu]
 |a::r,b::s=>by
  simp only[Nu,Bool.and_eq_true,Kv (l:=r) (l':=s),List.length_cons,Nat.add_right_cancel_iff];constructor
  . rintro⟨h1,h2,h3⟩;refine⟨h2,fun j x y e1 e2=> ?_⟩
    cases j with
    |zero=>simp only[List.getElem?_cons_zero,Option.some.injEq]at e1 e2;rw[<-e1,<-e2];exact h1
    |succ j=>simp only[List.getElem?_cons_succ]at e1 e2;exact h3 j x y e1 e2
  . rintro⟨h2,h3⟩;exact⟨h3 0 a b rfl rfl,h2,fun j x y e1 e2=>h3 (j+1) x y (by simpa using e1) (by simpa using e2)⟩
theorem Jh: ∀{l l':List (ByteArray×Val)},Ml l l'=true ↔ l.length=l'.length/\ ∀(j:Nat) x y,l[j]? =some x->l'[j]? =some y->Vk x y=true
 | [], []=>by simp[Ml]
 | [],_::_=>by simp[Ml]
 |_::_, []=>by simp[Ml]
 |a::r,b::s=>by
  simp only[Ml,Bool.and_eq_true,Jh (l:=r) (l':=s),List.length_cons,Nat.add_right_cancel_iff];constructor
  . rintro⟨h1,h2,h3⟩;refine⟨h2,fun j x y e1 e2=> ?_⟩
    cases j with
    |zero=>simp only[List.getElem?_cons_zero,Option.some.injEq]at e1 e2;rw[<-e1,<-e2];exact h1
    |succ j=>simp only[List.getElem?_cons_succ]at e1 e2;exact h3 j x y e1 e2
  . rintro⟨h2,h3⟩;exact⟨h3 0 a b rfl rfl,h2,fun j x y e1 e2=>h3 (j+1) x y (by simpa using e1) (by simpa using e2)⟩
def Adp (a:Val):Prop:= ∀(b:Val) (cs cs':List Value) (w:World),Ac w w.heap.size a cs->Ac w w.heap.size b cs'->a.bulk<=100000000->b.bulk<=100000000->
    Calls Tryz.prog 50 #[.agg cs.toArray,.agg cs'.toArray] w (By (Ft a b=true) w)
theorem Afu (k:Int) (h2:k≠2) (h3:k≠3) (h4:k≠4) (h5:k≠5) (h6:k≠6) (b b':Bool) (n n':Int) (t t':ByteArray) (x y x' y':Value) (w:World) (p:Prop) (hp:p):
 Calls Tryz.prog 50 #[.agg #[.int .i64 k,.bool b,.int .i64 n,.string t,x,y],.agg #[.int .i64 k,.bool b',.int .i64 n',.string t',x',y']] w (By p w):=by
 have Hp:=qz hp;have e2:(k==2)=false:=by simpa using h2
 have e3:(k==3)=false:=by simpa using h3
 have e4:(k==4)=false:=by simpa using h4
 have e5:(k==5)=false:=by simpa using h5
 have e6:(k==6)=false:=by simpa using h6
 clear hp;go_enter Tryz.func50,Tryz.ntmps50;go_wp2;go_ret;exact By.of ⟨fun _=>Hp.out,fun _=>rfl⟩ (Ei _ _ _)
theorem Afd (b b':Bool) (n n':Int) (t t':ByteArray) (l l':List Val) (on on':Nat) (la oa la' oa':Option Addr) (lc oc lc' oc':Nat) (w:World) (IH: ∀v ∈ l,Adp v) (p:Prop) (hp:Nu l l'=true ↔ p)
 (hl:l= []\/ ∃g off,la=some ⟨g,off,none⟩/\g<w.heap.size/\Ao w w.heap.size l g off) (hl':l'= []\/ ∃g off,la'=some ⟨g,off,none⟩/\g<w.heap.size/\Ao w w.heap.size l' g off)
 (hb:Bg l<=100000000) (hb':Bg l'<=100000000):
 Calls Tryz.prog 50 #[.agg #[.int .i64 5,.bool b,.int .i64 n,.string t,.slice la l.length lc,.slice oa on oc],.agg #[.int .i64 5,.bool b',.int .i64 n',.string t',.slice la' l'.length lc',.slice oa' on' oc']] w (By p w):=by
 have hln:=Dr l;have hln':=Dr l';obtain⟨HI,Hp⟩:=hid2 IH hp;have H0:Hid (∀j x y,j<0->l[j]? =some x->l'[j]? =some y->Ft x y=true):=fun _ _ _ e=>absurd e (Nat.not_lt_zero _);clear IH hp;obtain⟨w2,hw2⟩: ∃w2,(w.alloc (Abu 5 b n t (.slice la l.length lc) (.slice oa on oc))).alloc (Abu 5 b' n' t' (.slice la' l'.length lc') (.slice oa' on' oc'))=w2:=⟨_,rfl⟩;have HBW:=qz (show Below w.heap.size w w2 from by rw[<-hw2];exact Ei _ _ _);have hx1:w2.heap[w.heap.size]? =some (.cells #[.int .i64 5,.bool b,.int .i64 n,.string t,.slice la l.length lc,.slice oa on oc] 37 (0,0)):=by
  rw[<-hw2,Lib.alloc_old _ _ _ (by simp)];exact heap_alloc_new _ _
 have hx2:w2.heap[w.heap.size+1]? =some (.cells #[.int .i64 5,.bool b',.int .i64 n',.string t',.slice la' l'.length lc',.slice oa' on' oc'] 37 (0,0)):=by
  rw[<-hw2];have:=heap_alloc_new (w.alloc (Abu 5 b n t (.slice la l.length lc) (.slice oa on oc))) (.cells #[.int .i64 5,.bool b',.int .i64 n',.string t',.slice la' l'.length lc',.slice oa' on' oc'] 37);simpa using this
 obtain⟨HX1,HX2⟩:=hid2 hx1 hx2;clear hx1 hx2;subst hw2;go_enter Tryz.func50,Tryz.ntmps50;go_wp2_with (fail);go_loopw [5] (fun i wr=> ∃k:Nat,i=.int .i64 k/\k<=l.length/\k<=l'.length/\Hid (∀j x y,j<k->l[j]? =some x->l'[j]? =some y->Ft x y=true)/\Hid (Below w.heap.size w wr)/\
  Hid (wr.heap[w.heap.size]? =some (.cells #[.int .i64 5,.bool b,.int .i64 n,.string t,.slice la l.length lc,.slice oa on oc] 37 (0,0)))/\
  Hid (wr.heap[w.heap.size+1]? =some (.cells #[.int .i64 5,.bool b',.int .i64 n',.string t',.slice la' l'.length lc',.slice oa' on' oc'] 37 (0,0)))) (fun i _=>l.length - (intOf i).toNat)
 case atStart=>exact⟨0,rfl,Nat.zero_le _,Nat.zero_le _,H0,HBW,HX1,HX2⟩
 case round=>
  obtain⟨k,rfl,hk,hk',ht,hbw,hx1,hx2⟩:=hrel;clear H0 HBW HX1 HX2;have b1:wr.cell? ⟨w.heap.size,4,none⟩=some (.slice la l.length lc):=by rw[Lib.cell_of_heap hx1.out];rfl
  have b2:wr.cell? ⟨w.heap.size+1,4,none⟩=some (.slice la' l'.length lc'):=by rw[Lib.cell_of_heap hx2.out];rfl
  have z2:w.heap.size+1<wr.heap.size:=(Array.getElem?_eq_some_iff.1 hx2.out).1;by_cases hlt:k<l.length
  . by_cases hlt2:k<l'.length
    . obtain⟨g,off,rfl,hg,hL⟩: ∃g off,la=some ⟨g,off,none⟩/\g<w.heap.size/\Ao w w.heap.size l g off:=by
       rcases hl with rfl|h
       . simp at hlt
       . exact h
      obtain⟨g',off',rfl,hg',hL'⟩: ∃g off,la'=some ⟨g,off,none⟩/\g<w.heap.size/\Ao w w.heap.size l' g off:=by
       rcases hl' with rfl|h
       . simp at hlt2
       . exact h
      obtain⟨x,hx⟩: ∃v,l[k]? =some v:=⟨_,List.getElem?_eq_getElem hlt⟩;obtain⟨y,hy⟩: ∃v,l'[k]? =some v:=⟨_,List.getElem?_eq_getElem hlt2⟩;have hxm:=List.mem_of_getElem? hx;have hym:=List.mem_of_getElem? hy;have hxb:=Ew hxm;have hyb:=Ew hym;have IHx:=HI.out x hxm;have hxy:Ft x y=true->(∀j x y,j<k+1->l[j]? =some x->l'[j]? =some y->Ft x y=true):=by
       intro e j x' y' hj h1 h2;rcases Nat.lt_succ_iff_lt_or_eq.1 hj with hj|rfl
       . exact ht.out j x' y' hj h1 h2
       . rw[hx]at h1;rw[hy]at h2;rw[<-Option.some.inj h1,<-Option.some.inj h2];exact e
      have Hxn:Hid (¬Ft x y=true-> ¬Nu l l'=true):=fun e h=>e ((Kv.1 h).2 k x y hx hy);have Hxy:=qz hxy;have hz:=hbw.out.size;obtain⟨k1,b1',n1,t1,l1,o1⟩:=x;obtain⟨k2,b2',n2,t2,l2,o2⟩:=y;obtain⟨la1,lc1,oa1,oc1,hv1,c0,c1,c2,c3,c4,c5⟩:=(hL.below hg hbw.out).six hx;obtain⟨la2,lc2,oa2,oc2,hv2,e0,e1,e2,e3,e4,e5⟩:=(hL'.below hg' hbw.out).six hy;have hbd:=Below.drew hbw.out;have CC:=IHx _ _ _ wr.drew (Ac.more hz _ _ (hv1.below (Below.drew (Below.refl _ _)))) (Ac.more hz _ _ (hv2.below (Below.drew (Below.refl _ _)))) (by omega) (by omega);obtain⟨Q,hQ⟩: ∃Q:Prop,(Ft (Val.mk k1 b1' n1 t1 l1 o1) (Val.mk k2 b2' n2 t2 l2 o2)=true)=Q:=⟨_,rfl⟩;rw[hQ]at CC Hxy;have Hxn':Hid (¬Q-> ¬Nu l l'=true):=by rw[<-hQ];exact Hxn
      have HC:=qz CC;clear CC hQ Hxn hxy IHx hxb hyb hxm hym hv1 hv2 hx hy hL hL' hbd hg hg' ht;go_wp2_with (fail)
      go_region_with (go_at_call 50;refine(HC.out).mono ?_;rintro e w4 ⟨c,rfl,hc,hb4⟩)
      all_goals
       have Hc:=qz hc;have hb4':Below wr.heap.size wr w4:=(Below.drew (Below.refl _ _)).trans hb4;have hbw4:=qz (hbw.out.trans (hb4'.mono hz));have hx1':=qz ((hb4'.block _ (by omega)).trans hx1.out);have hx2':=qz ((hb4'.block _ z2).trans hx2.out);clear hc hb4 hb4' hbw hx1 hx2 HC c0 c1 c2 c3 c4 c5 e0 e1 e2 e3 e4 e5 b1 b2;by_cases hc0:c=0
       . have Hn:=qz (Hxy.out (Hc.out.1 hc0));subst hc0;clear Hc;go_wp2;go_roundw
         case rel=>exact⟨k+1,by go_num,by omega,by omega,Hn,hbw4,hx1',hx2'⟩
         case measure=>simp only[intOf];omega
       . have hne:=Hxn'.out (fun e=>hc0 (Hc.out.2 e));have f1:(c==0)=false:=by simpa using hc0
         have f2:(c != 0)=true:=by simpa using hc0
         have Hf:Hid (c=0 ↔ p):=⟨fun e=>absurd e hc0,fun e=>absurd (Hp.out.2 e) hne⟩;clear Hc hne hc0;go_wp2;go_ret;exact By.of Hf.out hbw4.out
    . have hk2:k=l'.length:=by omega
      subst hk2;have hne: ¬Nu l l'=true:=fun h=>by have:=(Kv.1 h).1;omega
      obtain⟨C,hC⟩: ∃C,Mh (l.length:Int) (l'.length:Int)=C:=⟨_,rfl⟩;have cN:=fun w=>E0 (l.length:Int) (l'.length:Int) w;rw[hC]at cN;have HN:=qz cN;have hcz:C≠0:=by rw[<-hC,Ne,E2];omega
      have Hf:Hid (C=0 ↔ p):=⟨fun e=>absurd e hcz,fun e=>absurd (Hp.out.2 e) hne⟩;clear cN hC hcz hne ht hl hl';go_wp2_with (fail);(with_reducible refine(HN.out _).mono ?_);rintro e w' ⟨rfl,rfl⟩;go_wp2;go_ret;exact By.of Hf.out hbw.out
  . have hk2:k=l.length:=by omega
    subst hk2;obtain⟨C,hC⟩: ∃C,Mh (l.length:Int) (l'.length:Int)=C:=⟨_,rfl⟩;have cN:=fun w=>E0 (l.length:Int) (l'.length:Int) w;rw[hC]at cN;have HN:=qz cN;have Hf:Hid (C=0 ↔ p):=by
     show _ ↔ _;rw[<-hC,E2,<-Hp.out];constructor
     . intro h;exact Kv.2 ⟨by omega,fun j x y h1 h2=>ht.out j x y (List.getElem?_eq_some_iff.1 h1).1 h1 h2⟩
     . intro h;have:=(Kv.1 h).1;omega
    clear cN hC ht hl hl';go_wp2_with (fail);(with_reducible refine(HN.out _).mono ?_);rintro e w' ⟨rfl,rfl⟩;go_wp2;go_ret;exact By.of Hf.out hbw.out
end Go.Proofs.YtkmcjfkokoidcaaGreatDoor
