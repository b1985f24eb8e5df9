/- Parts: The mutator whose object a value is, or why of none. Plain. No condition. -/
import Derived.Defers
import Derived.Recover
import Derived.Laws.Pointers
import Derived.Test.YtobmaegpfbheoaaGreatDoorKMo19
import Derived.Test.YtobmaegpfbheoaaGreatDoorKMo20
set_option maxHeartbeats 20000000
set_option maxRecDepth 100000
namespace Go.Proofs.YtobmaegpfbheoaaGreatDoor
open Go Go.RowKit
theorem Qg (w:World):(zeroValue 222).run Tryz.prog w=.ok .nilFunc w:=by kernel_rfl
theorem RdI.drewN {w0 w:World} {R g k:Nat} {s:ByteArray} (h:RdI w0 w R g s k) (n:Nat):RdI w0 (w.drewN n) R g s k:=⟨⟨h.below.os,h.below.tape,h.below.output,h.below.size,h.below.block⟩,h.ge,h.rd,h.map⟩
theorem Bn.undrewN {w w1:World} {R g k:Nat} {s:ByteArray} {n:Nat} (h:Bn R g s k (w.drewN n) w1):Bn R g s k w w1:=⟨⟨h.1.os,h.1.tape,h.1.output,h.1.size,h.1.block⟩,h.2⟩
theorem Akl {R g q:Nat} {s:ByteArray} {w w1 w2:World} {v:Val} {cs:List Value} {j:Nat} (hR:R<w.heap.size) (h1:Bn R g s j (w.alloc (.cells Ak 42)) w1) (h2:Bn R g s q w1 w2) (hf:An w1.heap.size w2 (dV v) cs):
 Aj w2 w.heap.size 42 Ak/\Bn R g s q w w2/\An w.heap.size w2 (dV v) cs:=
 ⟨(h1.res hR).grown h2.1 (by intro e;have:=Option.some.inj e;omega),h1.unAlloc.trans h2,fun w'' k1 k2=>hf w'' k1 (fun p p1 p2=>k2 p (by have:=h1.unAlloc.1.size;omega) p2)⟩
theorem G3 (n:Nat) (henter: ∀(args:Array Value) (w:World),(callFunc n args).run Tryz.prog w=.ok (.enter n args) w) (w0:World) (R g:Nat) (s:ByteArray) (w:World) (k:Nat) (d:Int) (c:UInt8) (RES:Rd Val) (h:RdI w0 w R g s k) (hs:s.size<=100000000) (hk:k<=s.size) (hd0:0<=d) (hd:d<=64)
 (hc:s.data.toList[Ay s.data.toList k]? =some c) (hfind:C4 (c.toNat:Int) (KV R)=some (.func (.func n) #[.pointer (some ⟨R,0,none⟩)] #[]))
 (hCall: ∀W,RdI w0 W R g s (Ay s.data.toList k)->Calls Tryz.prog n #[.pointer (some ⟨R,0,none⟩),.int .i64 d] W (Hs R g s W RES)):
 Calls Tryz.prog 170 #[.pointer (some ⟨R,0,none⟩),.int .i64 d] w (Hs R g s w RES):=by
 have hR:R<w.heap.size:=Aj.lt h.rd;have hI0:=h.later (Aa w (.cells Ak 42));have hS:=G0 R g s k (w.alloc (.cells Ak 42)) (by omega) hk hI0.rd;generalize Ay s.data.toList k=p at hS hc hCall;have hlt:p<s.size:=by have:=Em hc;rwa [Am]at this
 have hx:s[p]=c:=by rw[D6 s hlt]at hc;exact Option.some.inj hc
 have hcl:=Du c;have i0:(0:Int)<=(p:Int):=by omega
 have i1:(p:Int)<(s.size:Int):=by omega
 have e1:((p:Int)==(s.size:Int))=false:=by rw[beq_eq_false_iff_ne];omega
 have l64:decide (d>64)=false:=decide_eq_false (by omega);have l65:decide ((64:Int)<d)=false:=decide_eq_false (by omega);clear hc;obtain⟨HS,HCall,H,HI0,Hfind⟩:=hid5 hS hCall h hI0 hfind;clear hS hCall h hI0 hfind;go_enter Tryz.func170,Tryz.ntmps170;go_wp2_with (fail);(with_reducible refine(HS.out).mono ?_);rintro e w1 ⟨rfl,h1⟩;have hI1:=HI0.out.to h1;obtain⟨c0,c1,c2,f1,_⟩:=h1.2.cells;have hrun:=fun m=>Iv (w:=w1.drewN m) D8 Tryz.underlying223 hI1.map (c.toNat:Int) Qg true;rw[Hfind.out]at hrun;simp only[Option.getD_some,Option.isSome_some,if_true]at hrun;obtain⟨H1,HI1⟩:=hid2 h1 hI1;clear h1 hI1;go_wp2;go_quiet (fail);go_wp2;go_quiet (fail);go_wp2_with (fail);(with_reducible refine(HCall.out _ (HI1.out.drewN _)).mono ?_);rintro e w2 hp
 cases RES with
 |bad c' q=>
  obtain⟨rfl,hg⟩:=hp;exact⟨rfl,rfl,Bj H1.out.unAlloc.1 ⟨hg.os,hg.tape,hg.output,hg.size,hg.block⟩⟩
 |ok v q=>
  obtain⟨⟨cs,rfl,hf4⟩,h4⟩:=hp;obtain⟨kv,bv,nv,tv,lv,ov⟩:=v;obtain⟨la,lc,oa,oc,rfl⟩:=Eu hf4;obtain⟨hxr,hto,hff⟩:=Akl hR H1.out h4.undrewN hf4;obtain⟨r0,r1,r2,r3,r4,r5⟩:=Bd hxr;have fz:=hxr.frozen;have hlt4:=hxr.lt;have hxf:=((((((hxr.set_ 0 (.int .i64 kv)).set_ 1 (.bool bv)).set_ 2 (.int .i64 nv)).set_ 3 (.string tv)).set_ 4 (.slice la lv.length lc)).set_ 5 (.slice oa ov.length oc));have hto':=Bn.many (Nat.le_refl _) hR [.int .i64 kv,.bool bv,.int .i64 nv,.string tv,.slice la lv.length lc,.slice oa ov.length oc] 0 hto;have hff':An w.heap.size (A7 w2 w.heap.size 0 [.int .i64 kv,.bool bv,.int .i64 nv,.string tv,.slice la lv.length lc,.slice oa ov.length oc]) (dV (.mk kv bv nv tv lv ov)) [.int .i64 kv,.bool bv,.int .i64 nv,.string tv,.slice la lv.length lc,.slice oa ov.length oc]:=by
   have hz:=H1.out.1.size;simp only[World.size_alloc]at hz;exact hf4.keep (b':=w.heap.size) (by show w.heap.size<=w1.heap.size;omega) (by rw[Aw];exact Nat.le_refl _) (fun p p1 _=>World.cell?_of_block (Ar _ _ _ _ _ (by have p1':w1.heap.size<=p.block:=p1;omega)))
  obtain⟨Hxr,Hto,Hff,Hxf,Hto',Hff'⟩:=hid6 hxr hto hff hxf hto' hff';clear hxr hto hff hxf hto' hff';clear h4 hf4;go_wp2;exact bodyPost_ret (Aq rfl rfl Hxf.out) rfl ⟨⟨_,rfl,Hff'.out⟩,Hto'.out⟩
theorem Ta (w0:World) (R g:Nat) (s:ByteArray) (w:World) (k:Nat) (d:Int) (h:RdI w0 w R g s k) (hs:s.size<=100000000) (hk:k<=s.size)
 (hc:s.data.toList[Ay s.data.toList k]? =none\/ ∃c,s.data.toList[Ay s.data.toList k]? =some c/\C4 (c.toNat:Int) (KV R)=none):
 Calls Tryz.prog 170 #[.pointer (some ⟨R,0,none⟩),.int .i64 d] w (Hs R g s w (.bad 4 (Ay s.data.toList k))):=by
 have hR:R<w.heap.size:=Aj.lt h.rd;have hI0:=h.later (Aa w (.cells Ak 42));have hS:=G0 R g s k (w.alloc (.cells Ak 42)) (by omega) hk hI0.rd;have hps:=D1 hk;generalize Ay s.data.toList k=p at hS hc hps ⊢;have i0:(0:Int)<=(p:Int):=by omega
 rcases hc with hc|⟨c,hc,hfind⟩
 . have hp:p=s.size:=by
    rw[List.getElem?_eq_none_iff,Am]at hc;omega
   subst hp;have e1:((s.size:Int)==(s.size:Int))=true:=by simp
   clear hc;obtain⟨HS,H,HI0⟩:=hid3 hS h hI0;clear hS h hI0;go_enter Tryz.func170,Tryz.ntmps170;go_wp2_with (fail);(with_reducible refine(HS.out).mono ?_);rintro e w1 ⟨rfl,h1⟩;obtain⟨c0,c1,c2,f1,_⟩:=h1.2.cells;have HW:=qz (fun m=>Ch (.pointer (some ⟨R,0,none⟩)) 4 (s.size:Nat) (w1.drewN m));have H1:=qz h1;clear h1;go_wp2;go_quiet (fail);go_wp2_with (fail);(with_reducible refine(HW.out _).mono ?_);rintro e w10 ⟨rfl,rfl⟩;exact⟨rfl,rfl,Gk H1.out.unAlloc.1 _⟩
 . have hlt:p<s.size:=by have:=Em hc;rwa [Am]at this
   have hx:s[p]=c:=by rw[D6 s hlt]at hc;exact Option.some.inj hc
   have hcl:=Du c;have i1:(p:Int)<(s.size:Int):=by omega
   have e1:((p:Int)==(s.size:Int))=false:=by rw[beq_eq_false_iff_ne];omega
   clear hc;obtain⟨HS,H,HI0,Hfind⟩:=hid4 hS h hI0 hfind;clear hS h hI0 hfind;go_enter Tryz.func170,Tryz.ntmps170;go_wp2_with (fail);(with_reducible refine(HS.out).mono ?_);rintro e w1 ⟨rfl,h1⟩;have hI1:=HI0.out.to h1;obtain⟨c0,c1,c2,f1,_⟩:=h1.2.cells;have hrun:=fun m=>Iv (w:=w1.drewN m) D8 Tryz.underlying223 hI1.map (c.toNat:Int) Qg true;rw[Hfind.out]at hrun;simp only[Option.getD_none,Option.isSome_none,if_true]at hrun;have HW:=qz (fun m=>Ch (.pointer (some ⟨R,0,none⟩)) 4 (p:Nat) (w1.drewN m));obtain⟨H1,HI1⟩:=hid2 h1 hI1;clear h1 hI1;go_wp2;go_quiet (fail);go_wp2;go_quiet (fail);go_wp2_with (fail);(with_reducible refine(HW.out _).mono ?_);rintro e w10 ⟨rfl,rfl⟩;exact⟨rfl,rfl,Gk H1.out.unAlloc.1 _⟩
theorem Aci (f:Value) (w0:World) (R g:Nat) (s:ByteArray) (w:World) (k:Nat) (d:Int) (c:UInt8) (h:RdI w0 w R g s k) (hs:s.size<=100000000) (hk:k<=s.size) (hd:64<d)
 (hc:s.data.toList[Ay s.data.toList k]? =some c) (hfind:C4 (c.toNat:Int) (KV R)=some f):
 Calls Tryz.prog 170 #[.pointer (some ⟨R,0,none⟩),.int .i64 d] w (Hs R g s w (.bad 5 (Ay s.data.toList k))):=by
 have hR:R<w.heap.size:=Aj.lt h.rd;have hI0:=h.later (Aa w (.cells Ak 42));have hS:=G0 R g s k (w.alloc (.cells Ak 42)) (by omega) hk hI0.rd;have hps:=D1 hk;generalize Ay s.data.toList k=p at hS hc hps ⊢;have i0:(0:Int)<=(p:Int):=by omega
 have hlt:p<s.size:=by have:=Em hc;rwa [Am]at this
 have hx:s[p]=c:=by rw[D6 s hlt]at hc;exact Option.some.inj hc
 have hcl:=Du c;have i1:(p:Int)<(s.size:Int):=by omega
 have e1:((p:Int)==(s.size:Int))=false:=by rw[beq_eq_false_iff_ne];omega
 have l65:decide ((64:Int)<d)=true:=decide_eq_true (by omega);clear hc;obtain⟨HS,H,HI0,Hfind⟩:=hid4 hS h hI0 hfind;clear hS h hI0 hfind;go_enter Tryz.func170,Tryz.ntmps170;go_wp2_with (fail);(with_reducible refine(HS.out).mono ?_);rintro e w1 ⟨rfl,h1⟩;have hI1:=HI0.out.to h1;obtain⟨c0,c1,c2,f1,_⟩:=h1.2.cells;have hrun:=fun m=>Iv (w:=w1.drewN m) D8 Tryz.underlying223 hI1.map (c.toNat:Int) Qg true;rw[Hfind.out]at hrun;simp only[Option.getD_some,Option.isSome_some,if_true]at hrun;have HW:=qz (fun m=>Ch (.pointer (some ⟨R,0,none⟩)) 5 (p:Nat) (w1.drewN m));obtain⟨H1,HI1⟩:=hid2 h1 hI1;clear h1 hI1;go_wp2;go_quiet (fail);go_wp2;go_quiet (fail);go_wp2_with (fail);(with_reducible refine(HW.out _).mono ?_);rintro e w10 ⟨rfl,rfl⟩;exact⟨rfl,rfl,Gk H1.out.unAlloc.1 _⟩
theorem Q9.below {w w':World} (h:Q9 w) (hb:Below w.heap.size w w'):Q9 w':=by
 obtain⟨te,pe,h⟩:=h;refine⟨te,pe, ?_⟩;rw[hb.cell (p:=⟨8,0,none⟩) ?_]
 . exact h
 . rcases Nat.lt_or_ge 8 w.heap.size with q|q
   . exact q
   . simp[World.cell?,Array.getElem?_eq_none q]at h
def Wj (c:UInt8):Nat:=if c=91 then 214 else if c=123 then 215 else if c=34 then 213 else if c=110 then 210 else if c=116 then 212 else if c=102 then 211 else 216
set_option maxRecDepth 10000 in
theorem Abi (R:Nat) {c:UInt8} (h:Lx c=false):C4 (c.toNat:Int) (KV R)=none:=by
 have e: ∀n:Nat,n<256->(c=UInt8.ofNat n ↔ c.toNat=n):=fun n hn=>⟨fun q=>by rw[q];simp[UInt8.toNat_ofNat',Nat.mod_eq_of_lt hn],fun q=>by subst q;simp⟩;unfold Lx G6 at h;simp only[Bool.or_eq_false_iff,beq_eq_false_iff_ne,ne_eq,decide_eq_false_iff_not]at h;obtain⟨⟨⟨⟨⟨⟨⟨h1,h2⟩,h3⟩,h4⟩,h5⟩,h6⟩,h7⟩,h8⟩:=h;have k2: ¬c.toNat=45:=fun q=>h2 ((e 45 (by decide)).2 q);have k3: ¬c.toNat=34:=fun q=>h3 ((e 34 (by decide)).2 q);have k4: ¬c.toNat=91:=fun q=>h4 ((e 91 (by decide)).2 q);have k5: ¬c.toNat=123:=fun q=>h5 ((e 123 (by decide)).2 q);have k6: ¬c.toNat=110:=fun q=>h6 ((e 110 (by decide)).2 q);have k7: ¬c.toNat=116:=fun q=>h7 ((e 116 (by decide)).2 q);have k8: ¬c.toNat=102:=fun q=>h8 ((e 102 (by decide)).2 q);simp only[KV]
 repeat (first|exact Bp (by omega) rfl|refine Bp (by omega) ?_)
set_option maxRecDepth 10000 in
theorem Abj (R:Nat) {c:UInt8} (h:Lx c=true):C4 (c.toNat:Int) (KV R)=some (.func (.func (Wj c)) #[.pointer (some ⟨R,0,none⟩)] #[]):=by
 have hc:c=UInt8.ofNat c.toNat:=by simp
 have hn:c.toNat=45\/c.toNat=34\/c.toNat=91\/c.toNat=123\/c.toNat=110\/c.toNat=116\/c.toNat=102\/c.toNat=48\/c.toNat=49\/c.toNat=50\/c.toNat=51\/c.toNat=52\/c.toNat=53\/c.toNat=54\/c.toNat=55\/c.toNat=56\/c.toNat=57:=by
  unfold Lx G6 at h;simp only[Bool.or_eq_true,beq_iff_eq,decide_eq_true_eq]at h;rcases h with((((((h|h)|h)|h)|h)|h)|h)|h
  . omega
  all_goals(subst h;decide)
 rcases hn with q|q|q|q|q|q|q|q|q|q|q|q|q|q|q|q|q
 all_goals
  rw[q]at hc;subst hc;simp[KV,C4,Wj]
theorem Aa6: ∀(args:Array Value) (w:World),(callFunc 214 args).run Tryz.prog w=.ok (.enter 214 args) w:=enters_of Tryz.func214 (by kernel_rfl) rfl
theorem Wb: ∀(args:Array Value) (w:World),(callFunc 215 args).run Tryz.prog w=.ok (.enter 215 args) w:=enters_of Tryz.func215 (by kernel_rfl) rfl
theorem Wc: ∀(args:Array Value) (w:World),(callFunc 213 args).run Tryz.prog w=.ok (.enter 213 args) w:=enters_of Tryz.func213 (by kernel_rfl) rfl
theorem Aa7: ∀(args:Array Value) (w:World),(callFunc 210 args).run Tryz.prog w=.ok (.enter 210 args) w:=enters_of Tryz.func210 (by kernel_rfl) rfl
theorem Adw: ∀(args:Array Value) (w:World),(callFunc 212 args).run Tryz.prog w=.ok (.enter 212 args) w:=enters_of Tryz.func212 (by kernel_rfl) rfl
theorem Af1: ∀(args:Array Value) (w:World),(callFunc 211 args).run Tryz.prog w=.ok (.enter 211 args) w:=enters_of Tryz.func211 (by kernel_rfl) rfl
theorem Wa: ∀(args:Array Value) (w:World),(callFunc 216 args).run Tryz.prog w=.ok (.enter 216 args) w:=enters_of Tryz.func216 (by kernel_rfl) rfl
theorem Ae0 (w0:World) (hT0:Cl w0) (hN0:Q9 w0) (R g:Nat) (s:ByteArray) (hs:s.size<=100000000): ∀f,Ahr w0 R g s f:=by
 intro f
 induction f using Nat.strongRecOn with
 |_ f ih=>
  intro w k d h hk hf hd0 hd;obtain⟨f,rfl⟩: ∃n,f=n+1:=⟨f - 1,by omega⟩;have hp:=D1 hk;have hp1:=C7 s.data.toList k;unfold Cf
  cases hc:s.data.toList[Ay s.data.toList k]? with
  |none=>exact Ta w0 R g s w k d h hs hk (.inl hc)
  |some c=>
   simp only;have hlt:Ay s.data.toList k<s.size:=by have:=Em hc;rwa [Am]at this
   by_cases hst:Lx c=false
   . rw[if_pos hst];exact Ta w0 R g s w k d h hs hk (.inr ⟨c,hc,Abi R hst⟩)
   rw[if_neg hst];have hst':Lx c=true:=by simpa using hst
   have hkf:=Abj R hst';by_cases hdp:64<d
   . rw[if_pos hdp];exact Aci _ w0 R g s w k d c h hs hk hdp hc hkf
   rw[if_neg hdp];have hd64:d<=64:=by omega
   have ih': ∀f',f'<f->Ahr w0 R g s f':=fun f' h'=>ih f' (by omega);have hT: ∀{W},RdI w0 W R g s (Ay s.data.toList k)->Cl W:=fun hW=>hT0.below hW.below;by_cases e1:c=91
   . subst e1;rw[if_pos rfl];exact G3 _ Aa6 w0 R g s w k d 91 _ h hs hk hd0 hd64 hc hkf fun W hW=>Wx w0 R g s f ih' W _ d hW hs hlt (by omega) hd0 hd64
   rw[if_neg e1];by_cases e2:c=123
   . subst e2;rw[if_pos rfl];exact G3 _ Wb w0 R g s w k d 123 _ h hs hk hd0 hd64 hc hkf fun W hW=>Zl w0 hT0 R g s f ih' W _ d hW hs hlt (by omega) hd0 hd64
   rw[if_neg e2];by_cases e3:c=34
   . subst e3;rw[if_pos rfl];exact G3 _ Wc w0 R g s w k d 34 _ h hs hk hd0 hd64 hc hkf fun W hW=>Wv R g s _ d W (hT hW) (by omega) hp hW.rd
   rw[if_neg e3];by_cases e4:c=110
   . subst e4;rw[if_pos rfl];exact G3 _ Aa7 w0 R g s w k d 110 _ h hs hk hd0 hd64 hc hkf fun W hW=>Abu R g s _ d W (by omega) hp hW.rd
   rw[if_neg e4];by_cases e5:c=116
   . subst e5;rw[if_pos rfl];exact G3 _ Adw w0 R g s w k d 116 _ h hs hk hd0 hd64 hc hkf fun W hW=>Ae3 R g s _ d W (by omega) hp hW.rd
   rw[if_neg e5];by_cases e6:c=102
   . subst e6;rw[if_pos rfl];exact G3 _ Af1 w0 R g s w k d 102 _ h hs hk hd0 hd64 hc hkf fun W hW=>Agv R g s _ d W (by omega) hp hW.rd
   rw[if_neg e6];have ekn:Wj c=216:=by unfold Wj;rw[if_neg e1,if_neg e2,if_neg e3,if_neg e4,if_neg e5,if_neg e6]
   rw[ekn]at hkf;exact G3 _ Wa w0 R g s w k d c _ h hs hk hd0 hd64 hc hkf fun W hW=>Zk R g s _ d W (fun W' hW'=>hN0.below (hW.below.grown hW' hW.below.size fun r e=>by have:=Option.some.inj e;have:=hW.ge;omega)) hs hlt hW.rd
structure P3 (w W:World) (a:Array Value) (vb vc:Value):Prop where
 below:Below w.heap.size w W
 blkA:Aj W w.heap.size 42 a
 blkB:Aj W (w.heap.size+1) 3 #[vb]
 blkC:Aj W (w.heap.size+2) 27 #[vc]
theorem P3.later {w W W':World} {a:Array Value} {vb vc:Value} (h:P3 w W a vb vc) (t:Below W.heap.size W W'):P3 w W' a vb vc:=
 ⟨h.below.trans (t.mono h.below.size),h.blkA.below t h.blkA.lt,h.blkB.below t h.blkB.lt,h.blkC.below t h.blkC.lt⟩
theorem P3.setB {w W:World} {a:Array Value} {vb vc:Value} (h:P3 w W a vb vc) (v:Value):P3 w (W.setCell ⟨w.heap.size+1,0,none⟩ v) a v vc:=
 ⟨h.below.setCell (by simp) v,h.blkA.far (by simp) v,h.blkB.set_ 0 v,h.blkC.far (by simp) v⟩
theorem P3.setC {w W:World} {a:Array Value} {vb vc:Value} (h:P3 w W a vb vc) (v:Value):P3 w (W.setCell ⟨w.heap.size+2,0,none⟩ v) a vb v:=
 ⟨h.below.setCell (by simp) v,h.blkA.far (by simp) v,h.blkB.far (by simp) v,h.blkC.set_ 0 v⟩
theorem P3.setA {w W:World} {b0 b1 b2 b3 b4 b5:Value} {vb vc:Value} (h:P3 w W #[b0,b1,b2,b3,b4,b5] vb vc) (a0 a1 a2 a3 a4 a5:Value):P3 w (A7 W w.heap.size 0 [a0,a1,a2,a3,a4,a5]) #[a0,a1,a2,a3,a4,a5] vb vc:=
 ⟨At _ h.below (Nat.le_refl _),((((((h.blkA.set_ 0 a0).set_ 1 a1).set_ 2 a2).set_ 3 a3).set_ 4 a4).set_ 5 a5),(Ar _ _ _ _ _ (by omega)).trans h.blkB,(Ar _ _ _ _ _ (by omega)).trans h.blkC⟩
def FS (W:World) (e q:Int) (X:World):Prop:=X.cell? ⟨W.heap.size,0,none⟩=some (.int .i64 e)/\X.cell? ⟨W.heap.size,1,none⟩=some (.int .i64 q)
theorem FS.new (W:World) (e q:Int):FS W e q (W.alloc (.cells #[.int .i64 e,.int .i64 q] 219)).drew:=
 ⟨(Aj.new W 219 #[.int .i64 e,.int .i64 q]).cell 0,(Aj.new W 219 #[.int .i64 e,.int .i64 q]).cell 1⟩
theorem FS.many {W X:World} {e q:Int} (h:FS W e q X) {g:Nat} (hg:g<W.heap.size) (vs:List Value) (o:Nat):FS W e q (A7 X g o vs):=
 ⟨(World.cell?_of_block (Ar vs X g o W.heap.size (by omega))).trans h.1,(World.cell?_of_block (Ar vs X g o W.heap.size (by omega))).trans h.2⟩
theorem FS.set {W X:World} {e q:Int} (h:FS W e q X) {g:Nat} (hg:g<W.heap.size) (v:Value):FS W e q (X.setCell ⟨g,0,none⟩ v):=FS.many h hg [v] 0
theorem P3.start {w W:World} {a:Array Value} {vb vc:Value} (h:P3 w W a vb vc) (o:Obj):P3 w (W.alloc o).drew a vb vc:=(h.later (Aa W o)).later (Below.drew (Below.refl _ _))
theorem Aiz {P:Program} {c:Code} {Q:Exit->Act->World->Prop} {a:Act} {w:World} (h: ∀Q':Exit->Act->World->Prop,Hid (∀e a w,NoPanic Q e a w->Q' e a w)->(∀c a d v w,Q' (.panic c) (Act.put a d v) w->Q' (.panic c) a w)->Code.wp P c Q' a w):Code.wp P c Q a w:=
 Code.wp_mono NoPanic.imp (h (NoPanic Q) (qz fun _ _ _ h=>h) (fun _ _ _ _ _ h=>h))
theorem Vt (W:World) (v:Value):(Instr.typeAssert (.iface 219 v) 20 219 true).run Tryz.prog W=.ok (.tuple #[v,.bool true]) W:=by kernel_rfl
theorem Ze (p0 p1 p2:Addr) (w:World):
 CallsD Tryz.prog 168 #[.pointer (some p0),.pointer (some p1),.pointer (some p2)] .returning w fun e u' w'=>e=.returned (.tuple #[])/\u'=.returning/\w'=w:=by
 refine callsD_of_wpS Tryz.func168 rfl fun c₀ cs hu=> ?_;apply wpS_seq;apply wpS_region;simp[wpOpsS,go_sem,recoverD,hu,Tryz.ntmps168,Exit.thenS];refine wpS_of_wp ?_;go_wp2
 cases c₀
 simp_all[bodyPostS,results,Tryz.results168]
theorem Qy (w W:World) (b0 b1 b2 b3 b4 b5 vb vc:Value) (e q:Int) (h:P3 w W #[b0,b1,b2,b3,b4,b5] vb vc):
 CallsD Tryz.prog 168 #[.pointer (some ⟨w.heap.size,0,none⟩),.pointer (some ⟨w.heap.size+1,0,none⟩),.pointer (some ⟨w.heap.size+2,0,none⟩)] (.panicking [{v:=.iface 219 (.agg #[.int .i64 e,.int .i64 q]),recovered:=false}]) W fun e1 u' w'=>
  e1=.returned (.tuple #[])/\u'=.panicking [{v:=.iface 219 (.agg #[.int .i64 e,.int .i64 q]),recovered:=true}]/\P3 w w' Ak (.int .i64 q) (.int .i64 e):=by
 have hta:=fun w=>Vt w (.agg #[.int .i64 e,.int .i64 q]);have HP:=qz (h.later (Aa W (.cells #[.int .i64 e,.int .i64 q] 219)));have HS:=qz (Aj.new W 219 #[.int .i64 e,.int .i64 q]);have hg:=h.blkC.lt;have H:=qz h;clear h;refine callsD_of_wpS Tryz.func168 rfl fun c₀ cs hu=> ?_;apply wpS_seq;apply wpS_region;simp[wpOpsS,go_sem,recoverD,hu,Tryz.ntmps168,Exit.thenS];refine wpS_of_wp ?_;refine Aiz fun Q' hn hp=> ?_;have hlay: ∀(b:Value),(#[.pointer (some ⟨w.heap.size,0,none⟩),.pointer (some ⟨w.heap.size+1,0,none⟩),.pointer (some ⟨w.heap.size+2,0,none⟩)]:Array Value)++((Array.replicate 14 undef).setIfInBounds 3 b)= #[.pointer (some ⟨w.heap.size,0,none⟩),.pointer (some ⟨w.heap.size+1,0,none⟩),.pointer (some ⟨w.heap.size+2,0,none⟩),undef,undef,undef,b,undef,undef,undef,undef,undef,undef,undef,undef,undef,undef]:=fun _=>rfl;simp only[hlay];clear hlay;go_wp2;clear hta H;generalize W.alloc (.cells #[.int .i64 e,.int .i64 q] 219)=wi at HP HS ⊢;generalize W.heap.size=g3 at HS hg ⊢;obtain⟨x0,x1,x2,x3,x4,x5⟩:=Bd HP.out.blkA;have fz:=HP.out.blkA.frozen;have y0:=HP.out.blkB.cell 0;have fy:=HP.out.blkB.frozen 0;have z0:=HP.out.blkC.cell 0;have fc:=HP.out.blkC.frozen 0;have s0:=HS.out.cell 0;have s1:=HS.out.cell 1;have k0:w.heap.size≠g3:=by omega
 have k1:w.heap.size+1≠g3:=by omega
 have k2:w.heap.size+2≠g3:=by omega
 simp only[List.getElem?_toArray,List.getElem?_cons_zero,List.getElem?_cons_succ]at y0 z0 s0 s1
 go_region_held3 (fun X=>X.cell? ⟨g3,0,none⟩=some (.int .i64 e)/\X.cell? ⟨g3,1,none⟩=some (.int .i64 q)) (go_keep) (fail)
 all_goals
  clear s0 s1 x0 x1 x2 x3 x4 x5 y0 z0 fz fy fc;have hfin:P3 w (((((((((wi.setCell ⟨w.heap.size,0,none⟩ (.int .i64 0)).setCell ⟨w.heap.size,1,none⟩ (.bool false)).setCell ⟨w.heap.size,2,none⟩ (.int .i64 0)).setCell ⟨w.heap.size,3,none⟩ (.string ⟨#[]⟩)).setCell ⟨w.heap.size,4,none⟩ (.slice none 0 0)).setCell ⟨w.heap.size,5,none⟩ (.slice none 0 0)).setCell ⟨w.heap.size+1,0,none⟩ (.int .i64 q)).setCell ⟨w.heap.size+2,0,none⟩ (.int .i64 e)).drew) Ak (.int .i64 q) (.int .i64 e):=
   (((HP.out.setA (.int .i64 0) (.bool false) (.int .i64 0) (.string ⟨#[]⟩) (.slice none 0 0) (.slice none 0 0)).setB (.int .i64 q)).setC (.int .i64 e)).later (Below.drew (Below.refl _ _))
  have Hfin:=qz hfin;clear hfin;go_wp2;refine hn.out _ _ _ ?_;clear hp hn
  cases c₀
  simp_all[bodyPostS,results,Tryz.results168,NoPanic];exact Hfin.out
theorem P3.grown {w W W':World} {a:Array Value} {vb vc:Value} {R:Nat} (h:P3 w W a vb vc) (t:W.grownBy W' (some R)) (hR:w.heap.size+3<=R):P3 w W' a vb vc:=
 ⟨h.below.grown t h.below.size (fun r e=>by have:=Option.some.inj e;omega),h.blkA.grown t (fun e=>by have:=Option.some.inj e;omega),h.blkB.grown t (fun e=>by have:=Option.some.inj e;omega),h.blkC.grown t (fun e=>by have:=Option.some.inj e;omega)⟩
theorem P3.new (w:World):P3 w (((w.alloc (.cells Ak 42)).alloc (.cells #[.int .i64 0] 3)).alloc (.cells #[.int .i64 0] 27)) Ak (.int .i64 0) (.int .i64 0):=
 ⟨((Aa w _).alloc (by simp) _).alloc (by simp;omega) _,((Aj.new w _ _).alloc _).alloc _,by simpa using(Aj.new (w.alloc (.cells Ak 42)) 3 #[.int .i64 0]).alloc (.cells #[.int .i64 0] 27),by simpa using Aj.new ((w.alloc (.cells Ak 42)).alloc (.cells #[.int .i64 0] 3)) 27 #[.int .i64 0]⟩
theorem Ad1 {B:Nat} {w4 w6 w7:World} {R:Nat} {d:D} {cs:List Value} (hf:An w4.heap.size w6 d cs) (_h6:w4.heap.size<=w6.heap.size) (h7:w6.grownBy w7 (some R)) (hR:R<w4.heap.size) (hw:B+3<=w4.heap.size) (vs:List Value) (v1 v2:Value):
 An B (((A7 w7 B 0 vs).setCell ⟨B+1,0,none⟩ v1).setCell ⟨B+1+1,0,none⟩ v2).drew d cs:=by
 have z7:=h7.size;have e9:((((A7 w7 B 0 vs).setCell ⟨B+1,0,none⟩ v1).setCell ⟨B+1+1,0,none⟩ v2).drew).heap.size=w7.heap.size:=by
  have:=Aw vs w7 B 0;simpa[World.setCell]using this
 refine hf.keep (b':=B) (by omega) (by rw[e9];exact z7) (fun a p1 p2=>World.cell?_of_block ?_);rw[<-h7.block a.block p2 (by intro e;have:=Option.some.inj e;omega)];show(((A7 w7 B 0 vs).setCell ⟨B+1,0,none⟩ v1).setCell ⟨B+1+1,0,none⟩ v2).heap[a.block]? =_;exact(Below.heap_setCell _ _ _ _ (by simp;omega)).trans ((Below.heap_setCell _ _ _ _ (by simp;omega)).trans (Ar _ w7 B 0 a.block (by omega)))
theorem Zb (s:ByteArray) (w:World) (hT:Cl w) (hN:Q9 w) (hs:s.size<=100000000):
 Calls Tryz.prog 134 #[.string s] w (Aje w (Ib s.data.toList)):=by
 have hmf: ∀(fn:Fn) (first cap:Array Value) (w:World),(Instr.makeFunc fn first cap).run Tryz.prog w=.ok (.func fn first cap) w:=fun _ _ _ _=>rfl;have hP0:=P3.new w;have hz3:(((w.alloc (.cells Ak 42)).alloc (.cells #[.int .i64 0] 3)).alloc (.cells #[.int .i64 0] 27)).heap.size=w.heap.size+3:=by simp
 obtain⟨w3,hw3⟩: ∃w3,((w.alloc (.cells Ak 42)).alloc (.cells #[.int .i64 0] 3)).alloc (.cells #[.int .i64 0] 27)=w3:=⟨_,rfl⟩;rw[hw3]at hP0 hz3;have hNR:=Rj s w3;have hV:=Ae0 w3 (hT.below hP0.below) (hN.below hP0.below) w3.heap.size (w3.heap.size+1) s hs (4*s.data.toList.length+4);obtain⟨R,hR⟩: ∃R,w3.heap.size=R:=⟨_,rfl⟩;rw[hR]at hNR hV;have hRw:w.heap.size+3<=R:=by omega
 clear hz3;have hwi:=(I5 (4*s.data.toList.length+4)).1 s.data.toList 0 1 (Nat.zero_le _);obtain⟨RES,hRES⟩: ∃r,Ib s.data.toList=r:=⟨_,rfl⟩;rw[hRES];unfold Ib at hRES;have hV0:=fun(w4:World) h=>hV w4 0 1 h (Nat.zero_le _) (by rw[Am];omega) (by omega) (by omega)
 cases hr:Cf (4*s.data.toList.length+4) s.data.toList 0 1 with
 |bad c q=>
  rw[hr]at hRES hV0;simp only at hRES;subst hRES;clear hV hr hwi;obtain⟨HP0,HV0,HNR⟩:=hid3 hP0 hV0 hNR;clear hP0 hV0 hNR
  go_enter_defers Tryz.func134,Tryz.ntmps134
  go_wp2_with (fail);(with_reducible refine(HNR.out).mono ?_);rintro e w4 ⟨rfl,hnr⟩;have HP4:=qz (HP0.out.later hnr.below);have hI4:RdI w3 w4 R (R+1) s 0:=⟨hnr.below,by omega,by have:=hnr.blk;rw[hR]at this;exact this,by have:=hnr.map;rw[hR]at this;exact this⟩;have HV4:=qz (HV0.out w4 hI4);have HI4:=qz hI4;clear hI4;clear hnr hw3;go_wp2_with (fail);(with_reducible refine(HV4.out).mono ?_);rintro e w5 ⟨rfl,hg5⟩;have hP5:=HP4.out.grown hg5 (by omega);simp only[Ln];go_wp2;refine leaves_cons (f:=168) (args:= #[.pointer (some ⟨w.heap.size,0,none⟩),.pointer (some ⟨w.heap.size+1,0,none⟩),.pointer (some ⟨w.heap.size+2,0,none⟩)]) (by simp) (by simp[go_sem]) ?_;refine(Qy w w5 _ _ _ _ _ _ _ _ c (q:Nat) hP5).mono ?_;rintro e u' w6 ⟨rfl,rfl,hP6⟩;have d0:=hP6.blkA.cell 0;obtain⟨d0,d1,d2,d3,d4,d5⟩:=Bd hP6.blkA;have d6:=hP6.blkB.cell 0;have d7:=hP6.blkC.cell 0;simp[Leaves,settle,results,Tryz.results134,go_sem,d0,d1,d2,d3,d4,d5,d6,d7];exact⟨hP6.below,rfl⟩
 |ok v q=>
  rw[hr]at hRES hV0 hwi;simp only at hRES;obtain⟨hw1,hw2⟩:=hwi;rw[Am]at hw2;have hp:=D1 hw2;obtain⟨kv,bv,nv,tv,lv,ov⟩:=v;clear hV hr;obtain⟨HP0,HV0,HNR,HRES⟩:=hid4 hP0 hV0 hNR hRES;clear hP0 hV0 hNR hRES
  go_enter_defers Tryz.func134,Tryz.ntmps134
  go_wp2_with (fail);(with_reducible refine(HNR.out).mono ?_);rintro e w4 ⟨rfl,hnr⟩;have HP4:=qz (HP0.out.later hnr.below);have hI4:RdI w3 w4 R (R+1) s 0:=⟨hnr.below,by omega,by have:=hnr.blk;rw[hR]at this;exact this,by have:=hnr.map;rw[hR]at this;exact this⟩;have hV4:=HV0.out w4 hI4;have hRlt:R<w4.heap.size:=Aj.lt hI4.rd;have hz4:w.heap.size+3<=w4.heap.size:=by have:=hnr.below.size;omega
  obtain⟨HI4,HV4⟩:=hid2 hI4 hV4;clear hI4 hV4;clear hnr hw3 HNR HV0;go_wp2_with (fail);(with_reducible refine(HV4.out).mono ?_);rintro e w5 ⟨⟨cs,rfl,hf5⟩,h5⟩;obtain⟨la,lc,oa,oc,rfl⟩:=Eu hf5;have hP5:=HP4.out.grown h5.1 (by omega);have hz5:=h5.1.size;obtain⟨x0,x1,x2,x3,x4,x5⟩:=Bd hP5.blkA;have fx:=hP5.blkA.frozen;have lx:=hP5.blkA.lt;have hP6:P3 w ((((((w5.setCell ⟨w.heap.size,0,none⟩ (.int .i64 kv)).setCell ⟨w.heap.size,1,none⟩ (.bool bv)).setCell ⟨w.heap.size,2,none⟩ (.int .i64 nv)).setCell ⟨w.heap.size,3,none⟩ (.string tv)).setCell ⟨w.heap.size,4,none⟩ (.slice la lv.length lc)).setCell ⟨w.heap.size,5,none⟩ (.slice oa ov.length oc)) #[.int .i64 kv,.bool bv,.int .i64 nv,.string tv,.slice la lv.length lc,.slice oa ov.length oc] (.int .i64 0) (.int .i64 0):=hP5.setA (.int .i64 kv) (.bool bv) (.int .i64 nv) (.string tv) (.slice la lv.length lc) (.slice oa ov.length oc);have H6:Hid (Ue ((((((w5.setCell ⟨w.heap.size,0,none⟩ (.int .i64 kv)).setCell ⟨w.heap.size,1,none⟩ (.bool bv)).setCell ⟨w.heap.size,2,none⟩ (.int .i64 nv)).setCell ⟨w.heap.size,3,none⟩ (.string tv)).setCell ⟨w.heap.size,4,none⟩ (.slice la lv.length lc)).setCell ⟨w.heap.size,5,none⟩ (.slice oa ov.length oc)) R (R+1) s q):=(Ar [.int .i64 kv,.bool bv,.int .i64 nv,.string tv,.slice la lv.length lc,.slice oa ov.length oc] w5 w.heap.size 0 R (by omega)).trans h5.2;have Hf6:Hid (An w4.heap.size ((((((w5.setCell ⟨w.heap.size,0,none⟩ (.int .i64 kv)).setCell ⟨w.heap.size,1,none⟩ (.bool bv)).setCell ⟨w.heap.size,2,none⟩ (.int .i64 nv)).setCell ⟨w.heap.size,3,none⟩ (.string tv)).setCell ⟨w.heap.size,4,none⟩ (.slice la lv.length lc)).setCell ⟨w.heap.size,5,none⟩ (.slice oa ov.length oc)) (dV (.mk kv bv nv tv lv ov)) [.int .i64 kv,.bool bv,.int .i64 nv,.string tv,.slice la lv.length lc,.slice oa ov.length oc]):=hf5.keep (b':=w4.heap.size) (Nat.le_refl _) (by rw[show((((((w5.setCell ⟨w.heap.size,0,none⟩ (.int .i64 kv)).setCell ⟨w.heap.size,1,none⟩ (.bool bv)).setCell ⟨w.heap.size,2,none⟩ (.int .i64 nv)).setCell ⟨w.heap.size,3,none⟩ (.string tv)).setCell ⟨w.heap.size,4,none⟩ (.slice la lv.length lc)).setCell ⟨w.heap.size,5,none⟩ (.slice oa ov.length oc))=A7 w5 w.heap.size 0 [.int .i64 kv,.bool bv,.int .i64 nv,.string tv,.slice la lv.length lc,.slice oa ov.length oc]from rfl,Aw];exact Nat.le_refl _) (fun p p1 _=>World.cell?_of_block (Ar [.int .i64 kv,.bool bv,.int .i64 nv,.string tv,.slice la lv.length lc,.slice oa ov.length oc] w5 w.heap.size 0 p.block (by omega)));obtain⟨HP5,HP6⟩:=hid2 hP5 hP6;clear hP5 hP6;clear h5 hf5;have Hz6:Hid (w4.heap.size<=((((((w5.setCell ⟨w.heap.size,0,none⟩ (.int .i64 kv)).setCell ⟨w.heap.size,1,none⟩ (.bool bv)).setCell ⟨w.heap.size,2,none⟩ (.int .i64 nv)).setCell ⟨w.heap.size,3,none⟩ (.string tv)).setCell ⟨w.heap.size,4,none⟩ (.slice la lv.length lc)).setCell ⟨w.heap.size,5,none⟩ (.slice oa ov.length oc)).heap.size):=by show _<=_;simpa[World.setCell]using hz5
  go_wp2_with (fail);generalize ((((((w5.setCell ⟨w.heap.size,0,none⟩ (.int .i64 kv)).setCell ⟨w.heap.size,1,none⟩ (.bool bv)).setCell ⟨w.heap.size,2,none⟩ (.int .i64 nv)).setCell ⟨w.heap.size,3,none⟩ (.string tv)).setCell ⟨w.heap.size,4,none⟩ (.slice la lv.length lc)).setCell ⟨w.heap.size,5,none⟩ (.slice oa ov.length oc))=w6 at HP6 H6 Hf6 Hz6 ⊢;clear x0 x1 x2 x3 x4 x5 fx lx HP5 HP4 HI4;have hS:=G0 R (R+1) s q w6 (by omega) hw2 H6.out;have hRES:=HRES.out;generalize Ay s.data.toList q=p at hS hp hRES;(with_reducible refine hS.mono ?_);rintro e w7 ⟨rfl,h7⟩;have hP7:=HP6.out.grown h7.1 (by omega);obtain⟨c0,c1,_,_,_⟩:=h7.2.cells;clear hS;by_cases hlt:p<s.size
  . rw[if_pos (by rw[Am];exact hlt)]at hRES;subst hRES;have e1:decide ((p:Int)<(s.size:Int))=true:=decide_eq_true (by omega);have e2:(p:Int)<(s.size:Int):=by omega
    have HW:=qz (Ch (.pointer (some ⟨R,0,none⟩)) 4 (p:Nat) w7);obtain⟨HP7,H7⟩:=hid2 hP7 h7;clear hP7 h7;go_wp2_with (fail);(with_reducible refine(HW.out).mono ?_);rintro e w8 ⟨rfl,rfl⟩;simp only[Ln];go_wp2;refine leaves_cons (f:=168) (args:= #[.pointer (some ⟨w.heap.size,0,none⟩),.pointer (some ⟨w.heap.size+1,0,none⟩),.pointer (some ⟨w.heap.size+2,0,none⟩)]) (by simp) (by simp[go_sem]) ?_;refine(Qy w w8 _ _ _ _ _ _ _ _ 4 (p:Nat) HP7.out).mono ?_;rintro e u' w9 ⟨rfl,rfl,hP9⟩;obtain⟨d0,d1,d2,d3,d4,d5⟩:=Bd hP9.blkA;have d6:=hP9.blkB.cell 0;have d7:=hP9.blkC.cell 0;simp[Leaves,settle,results,Tryz.results134,go_sem,d0,d1,d2,d3,d4,d5,d6,d7];exact⟨hP9.below,rfl⟩
  . rw[if_neg (by rw[Am];exact hlt)]at hRES;subst hRES;have e1:decide ((p:Int)<(s.size:Int))=false:=decide_eq_false (by omega);have e2: ¬((p:Int)<(s.size:Int)):=by omega
    obtain⟨x0,x1,x2,x3,x4,x5⟩:=Bd hP7.blkA;have fx:=hP7.blkA.frozen;have lx:=hP7.blkA.lt;have y0:=hP7.blkB.cell 0;have fy:=hP7.blkB.frozen 0;have z0:=hP7.blkC.cell 0;have fc:=hP7.blkC.frozen 0;have n0:w.heap.size≠R:=by omega
    have n1:w.heap.size+1≠R:=by omega
    have n2:w.heap.size+2≠R:=by omega
    have n3:w.heap.size+1+1≠R:=by omega
    have n4:w.heap.size+1+1≠w.heap.size:=by omega
    have n5:w.heap.size+1≠w.heap.size:=by omega
    simp only[List.getElem?_toArray,List.getElem?_cons_zero]at y0 z0;have hA7:Aj ((((((w7.setCell ⟨w.heap.size,0,none⟩ (.int .i64 kv)).setCell ⟨w.heap.size,1,none⟩ (.bool bv)).setCell ⟨w.heap.size,2,none⟩ (.int .i64 nv)).setCell ⟨w.heap.size,3,none⟩ (.string tv)).setCell ⟨w.heap.size,4,none⟩ (.slice la lv.length lc)).setCell ⟨w.heap.size,5,none⟩ (.slice oa ov.length oc)) w.heap.size 42 #[.int .i64 kv,.bool bv,.int .i64 nv,.string tv,.slice la lv.length lc,.slice oa ov.length oc]:=(hP7.setA (.int .i64 kv) (.bool bv) (.int .i64 nv) (.string tv) (.slice la lv.length lc) (.slice oa ov.length oc)).blkA;obtain⟨q0,q1,q2,q3,q4,q5⟩:=Bd hA7;obtain⟨HP7,H7,HA7⟩:=hid3 hP7 h7 hA7;clear hP7 h7 hA7;go_wp2
    go_region_held3 (fun X=>X.cell? ⟨R,0,none⟩=some (.string s)/\X.cell? ⟨R,1,none⟩=some (.int .i64 (p:Nat))/\X.cell? ⟨w.heap.size,0,none⟩=some (.int .i64 kv)/\X.cell? ⟨w.heap.size,1,none⟩=some (.bool bv)/\X.cell? ⟨w.heap.size,2,none⟩=some (.int .i64 nv)/\X.cell? ⟨w.heap.size,3,none⟩=some (.string tv)/\X.cell? ⟨w.heap.size,4,none⟩=some (.slice la lv.length lc)/\X.cell? ⟨w.heap.size,5,none⟩=some (.slice oa ov.length oc)) (go_keep) (fail)
    all_goals
     have HP9:Hid (P3 w (((((((((w7.setCell ⟨w.heap.size,0,none⟩ (.int .i64 kv)).setCell ⟨w.heap.size,1,none⟩ (.bool bv)).setCell ⟨w.heap.size,2,none⟩ (.int .i64 nv)).setCell ⟨w.heap.size,3,none⟩ (.string tv)).setCell ⟨w.heap.size,4,none⟩ (.slice la lv.length lc)).setCell ⟨w.heap.size,5,none⟩ (.slice oa ov.length oc)).setCell ⟨w.heap.size+1,0,none⟩ (.int .i64 (p:Nat))).setCell ⟨w.heap.size+1+1,0,none⟩ (.int .i64 0)).drew) #[.int .i64 kv,.bool bv,.int .i64 nv,.string tv,.slice la lv.length lc,.slice oa ov.length oc] (.int .i64 (p:Nat)) (.int .i64 0)):=(((HP7.out.setA (.int .i64 kv) (.bool bv) (.int .i64 nv) (.string tv) (.slice la lv.length lc) (.slice oa ov.length oc)).setB (.int .i64 (p:Nat))).setC (.int .i64 0)).later (Below.drew (Below.refl _ _));have Hf9:Hid (An w.heap.size (((((((((w7.setCell ⟨w.heap.size,0,none⟩ (.int .i64 kv)).setCell ⟨w.heap.size,1,none⟩ (.bool bv)).setCell ⟨w.heap.size,2,none⟩ (.int .i64 nv)).setCell ⟨w.heap.size,3,none⟩ (.string tv)).setCell ⟨w.heap.size,4,none⟩ (.slice la lv.length lc)).setCell ⟨w.heap.size,5,none⟩ (.slice oa ov.length oc)).setCell ⟨w.heap.size+1,0,none⟩ (.int .i64 (p:Nat))).setCell ⟨w.heap.size+1+1,0,none⟩ (.int .i64 0)).drew) (dV (.mk kv bv nv tv lv ov)) [.int .i64 kv,.bool bv,.int .i64 nv,.string tv,.slice la lv.length lc,.slice oa ov.length oc]):=Ad1 Hf6.out Hz6.out H7.out.1 hRlt (by omega) [.int .i64 kv,.bool bv,.int .i64 nv,.string tv,.slice la lv.length lc,.slice oa ov.length oc] _ _;clear q0 q1 q2 q3 q4 q5 x0 x1 x2 x3 x4 x5 y0 z0 fx fy fc;go_wp2;refine leaves_cons (f:=168) (args:= #[.pointer (some ⟨w.heap.size,0,none⟩),.pointer (some ⟨w.heap.size+1,0,none⟩),.pointer (some ⟨w.heap.size+2,0,none⟩)]) (by simp) (by simp[go_sem]) ?_;refine(Ze _ _ _ _).mono ?_;rintro e u' w9 ⟨rfl,rfl,rfl⟩;obtain⟨d0,d1,d2,d3,d4,d5⟩:=Bd HP9.out.blkA;have d6:=HP9.out.blkB.cell 0;have d7:=HP9.out.blkC.cell 0;simp only[List.getElem?_toArray,List.getElem?_cons_zero]at d6 d7;generalize (((((((((w7.setCell ⟨w.heap.size,0,none⟩ (.int .i64 kv)).setCell ⟨w.heap.size,1,none⟩ (.bool bv)).setCell ⟨w.heap.size,2,none⟩ (.int .i64 nv)).setCell ⟨w.heap.size,3,none⟩ (.string tv)).setCell ⟨w.heap.size,4,none⟩ (.slice la lv.length lc)).setCell ⟨w.heap.size,5,none⟩ (.slice oa ov.length oc)).setCell ⟨w.heap.size+1,0,none⟩ (.int .i64 (p:Nat))).setCell ⟨w.heap.size+1+1,0,none⟩ (.int .i64 0)).drew)=w9 at HP9 Hf9 d0 d1 d2 d3 d4 d5 d6 d7 ⊢;simp[Leaves,settle,results,Tryz.results134,go_sem,d0,d1,d2,d3,d4,d5,d6,d7];exact⟨HP9.out.below,_,rfl,Hf9.out⟩
def Aa8 (s:List UInt8):Rd Val:=match Ib s with
 | .bad c q=> .bad c q
 | .ok v q=>if Cs v=s then .ok v q else .bad 4 q
theorem Aeh {s:List UInt8} {c:Int} {q:Nat} (h:Ib s=.bad c q):1<=c:=by
 unfold Ib at h;have hw:=(I5 (4*s.length+4)).1 s 0 1 (Nat.zero_le _)
 cases hr:Cf (4*s.length+4) s 0 1 with
 |bad e p=>rw[hr]at h hw;simp only[Rd.bad.injEq]at h;have:=hw.2.2.1;omega
 |ok v p=>
  rw[hr]at h;simp only at h
  split at h
  . simp only[Rd.bad.injEq]at h;omega
  . cases h
end Go.Proofs.YtobmaegpfbheoaaGreatDoor
namespace Go.Proofs.YtobmaegpfbheoaaGreatDoor
theorem Yd {s:List UInt8} {c:Int} {q:Nat} (h:c=0):Aa8 s≠ .bad c q:=by
 intro e;unfold Aa8 at e
 split at e
 . rename_i hp
   cases e
   have:=Aeh hp;omega
 . split at e
   . cases e
   . cases e
     omega
def A0 (k:ByteArray) (o:List (ByteArray×Val)):Val:=(Av k o).getD L9
abbrev Jy:Mut:=.mk 0 Ec Ec 0 false L9 false L9 []
def Mg (all opt:List ByteArray) (o:List (ByteArray×Val)):Bool:=(o.all fun p=>(all++opt).any fun x=>decide (p.1=x))&&all.all fun x=>(Av x o).isSome
def Ka (s:ByteArray):Option Int:=if s=Nr then some 1 else if s=Np then some 2 else if s=Nq then some 3 else if s=Mn then some 4 else if s=No then some 5 else if s=Jt then some 6 else if s=Ns then some 7 else none
def K8 (k:Int):List ByteArray:=if k=1\/k=5 then [As,E3]else if k=2\/k=4 then [As]else if k=3 then [Na,As]else if k=6 then [De,L8]else [Ja]
def Ad8 (k:Int):List ByteArray:=if k=4 then [Kg,Cp]else if k=7 then [L7]else []
def A1 (f:Val->Int×Mut):List Val->Int×List Mut
 | []=>(0, [])
 |v::r=>if(f v).1≠0 then((f v).1, [])else if(A1 f r).1≠0 then((A1 f r).1, [])else(0,(f v).2::(A1 f r).2)
def Lq (g:Val) (l:List Mut):Int×Mut:=
 if Cx g≠6 then(9,Jy)else if Mg [As] [Cp] (B0 g)=false then(10,Jy)else
 if Cx (A0 As (B0 g))≠4 then(9,Jy)else if(E1 (A0 As (B0 g))).toList.isEmpty then(8,Jy)else
 (0,.mk 7 (E1 (A0 As (B0 g))) Ec 0 (Av Cp (B0 g)).isSome (A0 Cp (B0 g)) false L9 l)
def Bv (f:Val->Int×Mut) (k:Int) (o:List (ByteArray×Val)):Int×Mut:=
 if k=7 then
  (if Cx (A0 Ja o)≠5 then(9,Jy)else if(A1 f (Jr (A0 Ja o))).1≠0 then((A1 f (Jr (A0 Ja o))).1,Jy)else
  match Av L7 o with
  |none=>(0,.mk 7 Ec Ec 0 false L9 false L9 (A1 f (Jr (A0 Ja o))).2)
  |some g=>Lq g (A1 f (Jr (A0 Ja o))).2)
 else if k=6 then
  (if Cx (A0 De o)≠4\/Cx (A0 L8 o)≠4 then(9,Jy)else(0,.mk 6 (E1 (A0 De o)) (E1 (A0 L8 o)) 0 false L9 false L9 []))
 else if k=3/\Cx (A0 Na o)≠3 then(9,Jy)
 else if Cx (A0 As o)≠4 then(9,Jy)
 else if k=3 then(0,.mk 3 (E1 (A0 As o)) Ec (Ac6 (A0 Na o)) false L9 false L9 [])
 else if k=4 then(0,.mk 4 (E1 (A0 As o)) Ec 0 (Av Cp o).isSome (A0 Cp o) (Av Kg o).isSome (A0 Kg o) [])
 else if k=2 then(0,.mk 2 (E1 (A0 As o)) Ec 0 false L9 false L9 [])
 else(0,.mk k (E1 (A0 As o)) Ec 0 false L9 false (A0 E3 o) [])
def Df:Nat->Val->Int×Mut
 |0,_=>(5,Jy)
 |f+1,v=>
  if Cx v≠6 then(9,Jy)else if Mg [Ao,Ap] [] (B0 v)=false then(10,Jy)else
  if Cx (A0 Ap (B0 v))≠4 then(9,Jy)else
  match Ka (E1 (A0 Ap (B0 v)))with
  |none=>(12,Jy)
  |some k=>
   if Cx (A0 Ao (B0 v))≠6 then(9,Jy)else if Mg (K8 k) (Ad8 k) (B0 (A0 Ao (B0 v)))=false then(10,Jy)else
   Bv (Df f) k (B0 (A0 Ao (B0 v)))
def Nx (v:Val):Int×Mut:=
 if Bb v 1≠0 then(Bb v 1,Jy)else if(Df 65 v).1≠0 then((Df 65 v).1,Jy)else if Di (Df 65 v).2≠0 then(Di (Df 65 v).2,Jy)else(0,(Df 65 v).2)
end Go.Proofs.YtobmaegpfbheoaaGreatDoor
