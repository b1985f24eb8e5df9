/- Parts: parse.Parse$1: what is done with a panic. No condition. -/
import Derived.Defers
import Derived.Recover
import Derived.Laws.Pointers
import Derived.Test.YtkmcjfkokoidcaaGreatDoorKFb32
import Derived.Test.YtkmcjfkokoidcaaGreatDoorKFb33
set_option maxHeartbeats 20000000
set_option maxRecDepth 100000
namespace Go.Proofs.YtkmcjfkokoidcaaGreatDoor
def Ag2 (l:List Bj):List Bj:=l.foldl (fun u e=>Cm e.1 e.2 u) []
theorem Wg {l:List Bj} (h:B8 l):Ag2 l=l:=by
 have: ∀(b P:List Bj),B8 (P++b)->b.foldl (fun u e=>Cm e.1 e.2 u) P=P++b:=by
  intro b
  induction b with
  |nil=>intro P _;simp
  |cons e r ih=>
   obtain⟨k,v⟩:=e;intro P hP;have h1: ∀e ∈ P,C8 e.1 k=true:=fun e he=>(List.pairwise_append.1 hP).2.2 e he (k,v) (by simp);have h2:=X0 (v:=v) (A:= []) h1 (by simp);simp only[List.append_nil]at h2;rw[List.foldl_cons,h2,ih (P++ [(k,v)]) (by simpa using hP)];simp
 have:=this l [] (by simpa using h)
 rwa [List.nil_append]at this
theorem Ack {k:ByteArray} (h:Uy k=true):A8 k=true:=by
 unfold Uy at h;simp only[Bool.and_eq_true]at h;exact h.2.2
theorem Uq {l:List Bj} (ha:B8 l) (hm:A6 l=0):Aw (ov l) 1=0:=by
 refine Ahj (by omega) (Rp ha (fun m h=> ?_) (fun q e=>by cases e));obtain⟨h1,h2⟩:=Acn hm m h;exact⟨Ack h1,Aex h2 (by omega)⟩
def Di (v:Val):Int×List Bj:=
 if Aw v 1≠0 then(Aw v 1, [])else match v with
  | .mk k _ _ _ _ o=>if k≠6 then(9, [])else if A6 o=0 then(0,o)else(A6 o, [])
theorem W6 {v:Val} (h:(Di v).1=0):v=ov (Di v).2/\B8 (Di v).2/\A6 (Di v).2=0:=by
 obtain⟨k,b,n,t,l,o⟩:=v;unfold Di at h ⊢;by_cases h1:Aw (.mk k b n t l o) 1≠0
 . rw[if_pos h1]at h;exact absurd h h1
 rw[if_neg h1]at h ⊢;have hm:Aw (.mk k b n t l o) 1=0:=Classical.byContradiction h1;simp only at h ⊢;by_cases h2:k≠6
 . rw[if_pos h2]at h;cases h
 rw[if_neg h2]at h ⊢;have hk:k=6:=Classical.byContradiction h2;subst hk;by_cases h3:A6 o=0
 . rw[if_pos h3];obtain⟨hodd,_,_,_,hO⟩:=J1 hm;obtain⟨_,p1,p2,_⟩:=Lg hodd;obtain⟨p4,p5⟩:=Ahk hodd;refine⟨?_,(Oj hO).1,h3⟩;rw[p4.resolve_left (by decide),p5.resolve_left (by decide),p1.resolve_left (by decide),List.length_eq_zero_iff.1 (p2.resolve_left (by decide))];rfl
 . rw[if_neg h3]at h;exact absurd h h3
end Go.Proofs.YtkmcjfkokoidcaaGreatDoor
namespace Go.Proofs.YtkmcjfkokoidcaaGreatDoor
open Go Go.RowKit
end Go.Proofs.YtkmcjfkokoidcaaGreatDoor
namespace Go.Proofs.YtkmcjfkokoidcaaGreatDoor
end Go.Proofs.YtkmcjfkokoidcaaGreatDoor
namespace Go.Proofs.YtkmcjfkokoidcaaGreatDoor
open Go Go.RowKit
theorem Oz (w:World):(zeroValue 148).run Tryz.prog w=.ok .nilFunc w:=by kernel_rfl
theorem RdI.drewN {w0 w:World} {R g k:Nat} {s:ByteArray} (h:RdI w0 w R g s k) (n:Nat):RdI w0 (w.drewN n) R g s k:=⟨⟨h.below.os,h.below.tape,h.below.output,h.below.size,h.below.block⟩,h.ge,h.rd,h.map⟩
theorem Bd.undrewN {w w1:World} {R g k:Nat} {s:ByteArray} {n:Nat} (h:Bd R g s k (w.drewN n) w1):Bd R g s k w w1:=⟨⟨h.1.os,h.1.tape,h.1.output,h.1.size,h.1.block⟩,h.2⟩
theorem Aic {R g q:Nat} {s:ByteArray} {w w1 w2:World} {v:Val} {cs:List Value} {j:Nat} (hR:R<w.heap.size) (h1:Bd R g s j (w.alloc (.cells A5 37)) w1) (h2:Bd R g s q w1 w2) (hf:Br w1.heap.size w2 (dV v) cs):
 Aj w2 w.heap.size 37 A5/\Bd R g s q w w2/\Br w.heap.size w2 (dV v) cs:=
 ⟨(h1.res hR).grown h2.1 (by intro e;have:=Option.some.inj e;omega),h1.unAlloc.trans h2,fun w'' k1 k2=>hf w'' k1 (fun p p1 p2=>k2 p (by have:=h1.unAlloc.1.size;omega) p2)⟩
theorem Fp (n:Nat) (henter: ∀(args:Array Value) (w:World),(callFunc n args).run Tryz.prog w=.ok (.enter n args) w) (w0:World) (R g:Nat) (s:ByteArray) (w:World) (k:Nat) (d:Int) (c:UInt8) (RES:Rd Val) (h:RdI w0 w R g s k) (hs:s.size<=100000000) (hk:k<=s.size) (hd0:0<=d) (hd:d<=64)
 (hc:s.data.toList[Al s.data.toList k]? =some c) (hfind:Ed (c.toNat:Int) (KV R)=some (.func (.func n) #[.pointer (some ⟨R,0,none⟩)] #[]))
 (hCall: ∀W,RdI w0 W R g s (Al s.data.toList k)->Calls Tryz.prog n #[.pointer (some ⟨R,0,none⟩),.int .i64 d] W (Fv R g s W RES)):
 Calls Tryz.prog 85 #[.pointer (some ⟨R,0,none⟩),.int .i64 d] w (Fv R g s w RES):=by
 have hR:R<w.heap.size:=Aj.lt h.rd;have hI0:=h.later (Aa w (.cells A5 37));have hS:=Fo R g s k (w.alloc (.cells A5 37)) (by omega) hk hI0.rd;generalize Al s.data.toList k=p at hS hc hCall;have hlt:p<s.size:=by have:=Ct hc;rwa [Ab]at this
 have hx:s[p]=c:=by rw[A9 s hlt]at hc;exact Option.some.inj hc
 have hcl:=Be c;have i0:(0:Int)<=(p:Int):=by omega
 have i1:(p:Int)<(s.size:Int):=by omega
 have e1:((p:Int)==(s.size:Int))=false:=by rw[beq_eq_false_iff_ne];omega
 have l64:decide (d>64)=false:=decide_eq_false (by omega);have l65:decide ((64:Int)<d)=false:=decide_eq_false (by omega);clear hc;obtain⟨HS,HCall,H,HI0,Hfind⟩:=hid5 hS hCall h hI0 hfind;clear hS hCall h hI0 hfind;go_enter Tryz.func85,Tryz.ntmps85;go_wp2_with (fail);(with_reducible refine(HS.out).mono ?_);rintro e w1 ⟨rfl,h1⟩;have hI1:=HI0.out.to h1;obtain⟨c0,c1,c2,f1,_⟩:=h1.2.cells;have hrun:=fun m=>Jf (w:=w1.drewN m) C6 Tryz.underlying149 hI1.map (c.toNat:Int) Oz true;rw[Hfind.out]at hrun;simp only[Option.getD_some,Option.isSome_some,if_true]at hrun;obtain⟨H1,HI1⟩:=hid2 h1 hI1;clear h1 hI1;go_wp2;go_quiet (fail);go_wp2;go_quiet (fail);go_wp2_with (fail);(with_reducible refine(HCall.out _ (HI1.out.drewN _)).mono ?_);rintro e w2 hp
 cases RES with
 |bad c' q=>
  obtain⟨rfl,hg⟩:=hp;exact⟨rfl,rfl,Bv H1.out.unAlloc.1 ⟨hg.os,hg.tape,hg.output,hg.size,hg.block⟩⟩
 |ok v q=>
  obtain⟨⟨cs,rfl,hf4⟩,h4⟩:=hp;obtain⟨kv,bv,nv,tv,lv,ov⟩:=v;obtain⟨la,lc,oa,oc,rfl⟩:=Dp hf4;obtain⟨hxr,hto,hff⟩:=Aic hR H1.out h4.undrewN hf4;obtain⟨r0,r1,r2,r3,r4,r5⟩:=Az hxr;have fz:=hxr.frozen;have hlt4:=hxr.lt;have hxf:=((((((hxr.set_ 0 (.int .i64 kv)).set_ 1 (.bool bv)).set_ 2 (.int .i64 nv)).set_ 3 (.string tv)).set_ 4 (.slice la lv.length lc)).set_ 5 (.slice oa ov.length oc));have hto':=Bd.many (Nat.le_refl _) hR [.int .i64 kv,.bool bv,.int .i64 nv,.string tv,.slice la lv.length lc,.slice oa ov.length oc] 0 hto;have hff':Br w.heap.size (An w2 w.heap.size 0 [.int .i64 kv,.bool bv,.int .i64 nv,.string tv,.slice la lv.length lc,.slice oa ov.length oc]) (dV (.mk kv bv nv tv lv ov)) [.int .i64 kv,.bool bv,.int .i64 nv,.string tv,.slice la lv.length lc,.slice oa ov.length oc]:=by
   have hz:=H1.out.1.size;simp only[World.size_alloc]at hz;exact hf4.keep (b':=w.heap.size) (by show w.heap.size<=w1.heap.size;omega) (by rw[Bb];exact Nat.le_refl _) (fun p p1 _=>World.cell?_of_block (Ar _ _ _ _ _ (by have p1':w1.heap.size<=p.block:=p1;omega)))
  obtain⟨Hxr,Hto,Hff,Hxf,Hto',Hff'⟩:=hid6 hxr hto hff hxf hto' hff';clear hxr hto hff hxf hto' hff';clear h4 hf4;go_wp2;exact bodyPost_ret (Cj rfl rfl Hxf.out) rfl ⟨⟨_,rfl,Hff'.out⟩,Hto'.out⟩
theorem Sb (w0:World) (R g:Nat) (s:ByteArray) (w:World) (k:Nat) (d:Int) (h:RdI w0 w R g s k) (hs:s.size<=100000000) (hk:k<=s.size)
 (hc:s.data.toList[Al s.data.toList k]? =none\/ ∃c,s.data.toList[Al s.data.toList k]? =some c/\Ed (c.toNat:Int) (KV R)=none):
 Calls Tryz.prog 85 #[.pointer (some ⟨R,0,none⟩),.int .i64 d] w (Fv R g s w (.bad 4 (Al s.data.toList k))):=by
 have hR:R<w.heap.size:=Aj.lt h.rd;have hI0:=h.later (Aa w (.cells A5 37));have hS:=Fo R g s k (w.alloc (.cells A5 37)) (by omega) hk hI0.rd;have hps:=Bp hk;generalize Al s.data.toList k=p at hS hc hps ⊢;have i0:(0:Int)<=(p:Int):=by omega
 rcases hc with hc|⟨c,hc,hfind⟩
 . have hp:p=s.size:=by
    rw[List.getElem?_eq_none_iff,Ab]at hc;omega
   subst hp;have e1:((s.size:Int)==(s.size:Int))=true:=by simp
   clear hc;obtain⟨HS,H,HI0⟩:=hid3 hS h hI0;clear hS h hI0;go_enter Tryz.func85,Tryz.ntmps85;go_wp2_with (fail);(with_reducible refine(HS.out).mono ?_);rintro e w1 ⟨rfl,h1⟩;obtain⟨c0,c1,c2,f1,_⟩:=h1.2.cells;have HW:=qz (fun m=>Ca (.pointer (some ⟨R,0,none⟩)) 4 (s.size:Nat) (w1.drewN m));have H1:=qz h1;clear h1;go_wp2;go_quiet (fail);go_wp2_with (fail);(with_reducible refine(HW.out _).mono ?_);rintro e w10 ⟨rfl,rfl⟩;exact⟨rfl,rfl,E9 H1.out.unAlloc.1 _⟩
 . have hlt:p<s.size:=by have:=Ct hc;rwa [Ab]at this
   have hx:s[p]=c:=by rw[A9 s hlt]at hc;exact Option.some.inj hc
   have hcl:=Be c;have i1:(p:Int)<(s.size:Int):=by omega
   have e1:((p:Int)==(s.size:Int))=false:=by rw[beq_eq_false_iff_ne];omega
   clear hc;obtain⟨HS,H,HI0,Hfind⟩:=hid4 hS h hI0 hfind;clear hS h hI0 hfind;go_enter Tryz.func85,Tryz.ntmps85;go_wp2_with (fail);(with_reducible refine(HS.out).mono ?_);rintro e w1 ⟨rfl,h1⟩;have hI1:=HI0.out.to h1;obtain⟨c0,c1,c2,f1,_⟩:=h1.2.cells;have hrun:=fun m=>Jf (w:=w1.drewN m) C6 Tryz.underlying149 hI1.map (c.toNat:Int) Oz true;rw[Hfind.out]at hrun;simp only[Option.getD_none,Option.isSome_none,if_true]at hrun;have HW:=qz (fun m=>Ca (.pointer (some ⟨R,0,none⟩)) 4 (p:Nat) (w1.drewN m));obtain⟨H1,HI1⟩:=hid2 h1 hI1;clear h1 hI1;go_wp2;go_quiet (fail);go_wp2;go_quiet (fail);go_wp2_with (fail);(with_reducible refine(HW.out _).mono ?_);rintro e w10 ⟨rfl,rfl⟩;exact⟨rfl,rfl,E9 H1.out.unAlloc.1 _⟩
theorem Aao (f:Value) (w0:World) (R g:Nat) (s:ByteArray) (w:World) (k:Nat) (d:Int) (c:UInt8) (h:RdI w0 w R g s k) (hs:s.size<=100000000) (hk:k<=s.size) (hd:64<d)
 (hc:s.data.toList[Al s.data.toList k]? =some c) (hfind:Ed (c.toNat:Int) (KV R)=some f):
 Calls Tryz.prog 85 #[.pointer (some ⟨R,0,none⟩),.int .i64 d] w (Fv R g s w (.bad 5 (Al s.data.toList k))):=by
 have hR:R<w.heap.size:=Aj.lt h.rd;have hI0:=h.later (Aa w (.cells A5 37));have hS:=Fo R g s k (w.alloc (.cells A5 37)) (by omega) hk hI0.rd;have hps:=Bp hk;generalize Al s.data.toList k=p at hS hc hps ⊢;have i0:(0:Int)<=(p:Int):=by omega
 have hlt:p<s.size:=by have:=Ct hc;rwa [Ab]at this
 have hx:s[p]=c:=by rw[A9 s hlt]at hc;exact Option.some.inj hc
 have hcl:=Be c;have i1:(p:Int)<(s.size:Int):=by omega
 have e1:((p:Int)==(s.size:Int))=false:=by rw[beq_eq_false_iff_ne];omega
 have l65:decide ((64:Int)<d)=true:=decide_eq_true (by omega);clear hc;obtain⟨HS,H,HI0,Hfind⟩:=hid4 hS h hI0 hfind;clear hS h hI0 hfind;go_enter Tryz.func85,Tryz.ntmps85;go_wp2_with (fail);(with_reducible refine(HS.out).mono ?_);rintro e w1 ⟨rfl,h1⟩;have hI1:=HI0.out.to h1;obtain⟨c0,c1,c2,f1,_⟩:=h1.2.cells;have hrun:=fun m=>Jf (w:=w1.drewN m) C6 Tryz.underlying149 hI1.map (c.toNat:Int) Oz true;rw[Hfind.out]at hrun;simp only[Option.getD_some,Option.isSome_some,if_true]at hrun;have HW:=qz (fun m=>Ca (.pointer (some ⟨R,0,none⟩)) 5 (p:Nat) (w1.drewN m));obtain⟨H1,HI1⟩:=hid2 h1 hI1;clear h1 hI1;go_wp2;go_quiet (fail);go_wp2;go_quiet (fail);go_wp2_with (fail);(with_reducible refine(HW.out _).mono ?_);rintro e w10 ⟨rfl,rfl⟩;exact⟨rfl,rfl,E9 H1.out.unAlloc.1 _⟩
theorem Mw.below {w w':World} (h:Mw w) (hb:Below w.heap.size w w'):Mw w':=by
 obtain⟨te,pe,h⟩:=h;refine⟨te,pe, ?_⟩;rw[hb.cell (p:=⟨6,0,none⟩) ?_]
 . exact h
 . rcases Nat.lt_or_ge 6 w.heap.size with q|q
   . exact q
   . simp[World.cell?,Array.getElem?_eq_none q]at h
def Uz (c:UInt8):Nat:=if c=91 then 148 else if c=123 then 149 else if c=34 then 147 else if c=110 then 144 else if c=116 then 146 else if c=102 then 145 else 150
set_option maxRecDepth 10000 in
theorem Zq (R:Nat) {c:UInt8} (h:E3 c=false):Ed (c.toNat:Int) (KV R)=none:=by
 have e: ∀n:Nat,n<256->(c=UInt8.ofNat n ↔ c.toNat=n):=fun n hn=>⟨fun q=>by rw[q];simp[UInt8.toNat_ofNat',Nat.mod_eq_of_lt hn],fun q=>by subst q;simp⟩;unfold E3 Cx at h;simp only[Bool.or_eq_false_iff,beq_eq_false_iff_ne,ne_eq,decide_eq_false_iff_not]at h;obtain⟨⟨⟨⟨⟨⟨⟨h1,h2⟩,h3⟩,h4⟩,h5⟩,h6⟩,h7⟩,h8⟩:=h;have k2: ¬c.toNat=45:=fun q=>h2 ((e 45 (by decide)).2 q);have k3: ¬c.toNat=34:=fun q=>h3 ((e 34 (by decide)).2 q);have k4: ¬c.toNat=91:=fun q=>h4 ((e 91 (by decide)).2 q);have k5: ¬c.toNat=123:=fun q=>h5 ((e 123 (by decide)).2 q);have k6: ¬c.toNat=110:=fun q=>h6 ((e 110 (by decide)).2 q);have k7: ¬c.toNat=116:=fun q=>h7 ((e 116 (by decide)).2 q);have k8: ¬c.toNat=102:=fun q=>h8 ((e 102 (by decide)).2 q);simp only[KV]
 repeat (first|exact Bh (by omega) rfl|refine Bh (by omega) ?_)
set_option maxRecDepth 10000 in
theorem Zr (R:Nat) {c:UInt8} (h:E3 c=true):Ed (c.toNat:Int) (KV R)=some (.func (.func (Uz c)) #[.pointer (some ⟨R,0,none⟩)] #[]):=by
 have hc:c=UInt8.ofNat c.toNat:=by simp
 have hn:c.toNat=45\/c.toNat=34\/c.toNat=91\/c.toNat=123\/c.toNat=110\/c.toNat=116\/c.toNat=102\/c.toNat=48\/c.toNat=49\/c.toNat=50\/c.toNat=51\/c.toNat=52\/c.toNat=53\/c.toNat=54\/c.toNat=55\/c.toNat=56\/c.toNat=57:=by
  unfold E3 Cx at h;simp only[Bool.or_eq_true,beq_iff_eq,decide_eq_true_eq]at h;rcases h with((((((h|h)|h)|h)|h)|h)|h)|h
  . omega
  all_goals(subst h;decide)
 rcases hn with q|q|q|q|q|q|q|q|q|q|q|q|q|q|q|q|q
 all_goals
  rw[q]at hc;subst hc;simp[KV,Ed,Uz]
theorem Zh: ∀(args:Array Value) (w:World),(callFunc 148 args).run Tryz.prog w=.ok (.enter 148 args) w:=enters_of Tryz.func148 (by kernel_rfl) rfl
theorem Ul: ∀(args:Array Value) (w:World),(callFunc 149 args).run Tryz.prog w=.ok (.enter 149 args) w:=enters_of Tryz.func149 (by kernel_rfl) rfl
theorem Um: ∀(args:Array Value) (w:World),(callFunc 147 args).run Tryz.prog w=.ok (.enter 147 args) w:=enters_of Tryz.func147 (by kernel_rfl) rfl
theorem Zi: ∀(args:Array Value) (w:World),(callFunc 144 args).run Tryz.prog w=.ok (.enter 144 args) w:=enters_of Tryz.func144 (by kernel_rfl) rfl
theorem Ab5: ∀(args:Array Value) (w:World),(callFunc 146 args).run Tryz.prog w=.ok (.enter 146 args) w:=enters_of Tryz.func146 (by kernel_rfl) rfl
theorem Ad8: ∀(args:Array Value) (w:World),(callFunc 145 args).run Tryz.prog w=.ok (.enter 145 args) w:=enters_of Tryz.func145 (by kernel_rfl) rfl
theorem Uk: ∀(args:Array Value) (w:World),(callFunc 150 args).run Tryz.prog w=.ok (.enter 150 args) w:=enters_of Tryz.func150 (by kernel_rfl) rfl
theorem Ade (w0:World) (hT0:B3 w0) (hN0:Mw w0) (R g:Nat) (s:ByteArray) (hs:s.size<=100000000): ∀f,Afp w0 R g s f:=by
 intro f
 induction f using Nat.strongRecOn with
 |_ f ih=>
  intro w k d h hk hf hd0 hd;obtain⟨f,rfl⟩: ∃n,f=n+1:=⟨f - 1,by omega⟩;have hp:=Bp hk;have hp1:=Bs s.data.toList k;unfold Bi
  cases hc:s.data.toList[Al s.data.toList k]? with
  |none=>exact Sb w0 R g s w k d h hs hk (.inl hc)
  |some c=>
   simp only;have hlt:Al s.data.toList k<s.size:=by have:=Ct hc;rwa [Ab]at this
   by_cases hst:E3 c=false
   . rw[if_pos hst];exact Sb w0 R g s w k d h hs hk (.inr ⟨c,hc,Zq R hst⟩)
   rw[if_neg hst];have hst':E3 c=true:=by simpa using hst
   have hkf:=Zr R hst';by_cases hdp:64<d
   . rw[if_pos hdp];exact Aao _ w0 R g s w k d c h hs hk hdp hc hkf
   rw[if_neg hdp];have hd64:d<=64:=by omega
   have ih': ∀f',f'<f->Afp w0 R g s f':=fun f' h'=>ih f' (by omega);have hT: ∀{W},RdI w0 W R g s (Al s.data.toList k)->B3 W:=fun hW=>hT0.below hW.below;by_cases e1:c=91
   . subst e1;rw[if_pos rfl];exact Fp _ Zh w0 R g s w k d 91 _ h hs hk hd0 hd64 hc hkf fun W hW=>U9 w0 R g s f ih' W _ d hW hs hlt (by omega) hd0 hd64
   rw[if_neg e1];by_cases e2:c=123
   . subst e2;rw[if_pos rfl];exact Fp _ Ul w0 R g s w k d 123 _ h hs hk hd0 hd64 hc hkf fun W hW=>X7 w0 hT0 R g s f ih' W _ d hW hs hlt (by omega) hd0 hd64
   rw[if_neg e2];by_cases e3:c=34
   . subst e3;rw[if_pos rfl];exact Fp _ Um w0 R g s w k d 34 _ h hs hk hd0 hd64 hc hkf fun W hW=>U8 R g s _ d W (hT hW) (by omega) hp hW.rd
   rw[if_neg e3];by_cases e4:c=110
   . subst e4;rw[if_pos rfl];exact Fp _ Zi w0 R g s w k d 110 _ h hs hk hd0 hd64 hc hkf fun W hW=>Z4 R g s _ d W (by omega) hp hW.rd
   rw[if_neg e4];by_cases e5:c=116
   . subst e5;rw[if_pos rfl];exact Fp _ Ab5 w0 R g s w k d 116 _ h hs hk hd0 hd64 hc hkf fun W hW=>Adh R g s _ d W (by omega) hp hW.rd
   rw[if_neg e5];by_cases e6:c=102
   . subst e6;rw[if_pos rfl];exact Fp _ Ad8 w0 R g s w k d 102 _ h hs hk hd0 hd64 hc hkf fun W hW=>Ae2 R g s _ d W (by omega) hp hW.rd
   rw[if_neg e6];have ekn:Uz c=150:=by unfold Uz;rw[if_neg e1,if_neg e2,if_neg e3,if_neg e4,if_neg e5,if_neg e6]
   rw[ekn]at hkf;exact Fp _ Uk w0 R g s w k d c _ h hs hk hd0 hd64 hc hkf fun W hW=>X6 R g s _ d W (fun W' hW'=>hN0.below (hW.below.grown hW' hW.below.size fun r e=>by have:=Option.some.inj e;have:=hW.ge;omega)) hs hlt hW.rd
structure P3 (w W:World) (a:Array Value) (vb vc:Value):Prop where
 below:Below w.heap.size w W
 blkA:Aj W w.heap.size 37 a
 blkB:Aj W (w.heap.size+1) 3 #[vb]
 blkC:Aj W (w.heap.size+2) 30 #[vc]
theorem P3.later {w W W':World} {a:Array Value} {vb vc:Value} (h:P3 w W a vb vc) (t:Below W.heap.size W W'):P3 w W' a vb vc:=
 ⟨h.below.trans (t.mono h.below.size),h.blkA.below t h.blkA.lt,h.blkB.below t h.blkB.lt,h.blkC.below t h.blkC.lt⟩
theorem P3.setB {w W:World} {a:Array Value} {vb vc:Value} (h:P3 w W a vb vc) (v:Value):P3 w (W.setCell ⟨w.heap.size+1,0,none⟩ v) a v vc:=
 ⟨h.below.setCell (by simp) v,h.blkA.far (by simp) v,h.blkB.set_ 0 v,h.blkC.far (by simp) v⟩
theorem P3.setC {w W:World} {a:Array Value} {vb vc:Value} (h:P3 w W a vb vc) (v:Value):P3 w (W.setCell ⟨w.heap.size+2,0,none⟩ v) a vb v:=
 ⟨h.below.setCell (by simp) v,h.blkA.far (by simp) v,h.blkB.far (by simp) v,h.blkC.set_ 0 v⟩
theorem P3.setA {w W:World} {b0 b1 b2 b3 b4 b5:Value} {vb vc:Value} (h:P3 w W #[b0,b1,b2,b3,b4,b5] vb vc) (a0 a1 a2 a3 a4 a5:Value):P3 w (An W w.heap.size 0 [a0,a1,a2,a3,a4,a5]) #[a0,a1,a2,a3,a4,a5] vb vc:=
 ⟨Bq _ h.below (Nat.le_refl _),((((((h.blkA.set_ 0 a0).set_ 1 a1).set_ 2 a2).set_ 3 a3).set_ 4 a4).set_ 5 a5),(Ar _ _ _ _ _ (by omega)).trans h.blkB,(Ar _ _ _ _ _ (by omega)).trans h.blkC⟩
def FS (W:World) (e q:Int) (X:World):Prop:=X.cell? ⟨W.heap.size,0,none⟩=some (.int .i64 e)/\X.cell? ⟨W.heap.size,1,none⟩=some (.int .i64 q)
theorem FS.new (W:World) (e q:Int):FS W e q (W.alloc (.cells #[.int .i64 e,.int .i64 q] 145)).drew:=
 ⟨(Aj.new W 145 #[.int .i64 e,.int .i64 q]).cell 0,(Aj.new W 145 #[.int .i64 e,.int .i64 q]).cell 1⟩
theorem FS.many {W X:World} {e q:Int} (h:FS W e q X) {g:Nat} (hg:g<W.heap.size) (vs:List Value) (o:Nat):FS W e q (An X g o vs):=
 ⟨(World.cell?_of_block (Ar vs X g o W.heap.size (by omega))).trans h.1,(World.cell?_of_block (Ar vs X g o W.heap.size (by omega))).trans h.2⟩
theorem FS.set {W X:World} {e q:Int} (h:FS W e q X) {g:Nat} (hg:g<W.heap.size) (v:Value):FS W e q (X.setCell ⟨g,0,none⟩ v):=FS.many h hg [v] 0
theorem P3.start {w W:World} {a:Array Value} {vb vc:Value} (h:P3 w W a vb vc) (o:Obj):P3 w (W.alloc o).drew a vb vc:=(h.later (Aa W o)).later (Below.drew (Below.refl _ _))
theorem Agk {P:Program} {c:Code} {Q:Exit->Act->World->Prop} {a:Act} {w:World} (h: ∀Q':Exit->Act->World->Prop,Hid (∀e a w,NoPanic Q e a w->Q' e a w)->(∀c a d v w,Q' (.panic c) (Act.put a d v) w->Q' (.panic c) a w)->Code.wp P c Q' a w):Code.wp P c Q a w:=
 Code.wp_mono NoPanic.imp (h (NoPanic Q) (qz fun _ _ _ h=>h) (fun _ _ _ _ _ h=>h))
theorem Ud (W:World) (v:Value):(Instr.typeAssert (.iface 145 v) 20 145 true).run Tryz.prog W=.ok (.tuple #[v,.bool true]) W:=by kernel_rfl
theorem Xv (p0 p1 p2:Addr) (w:World):
 CallsD Tryz.prog 83 #[.pointer (some p0),.pointer (some p1),.pointer (some p2)] .returning w fun e u' w'=>e=.returned (.tuple #[])/\u'=.returning/\w'=w:=by
 refine callsD_of_wpS Tryz.func83 rfl fun c₀ cs hu=> ?_;apply wpS_seq;apply wpS_region;simp[wpOpsS,go_sem,recoverD,hu,Tryz.ntmps83,Exit.thenS];refine wpS_of_wp ?_;go_wp2
 cases c₀
 simp_all[bodyPostS,results,Tryz.results83]
theorem Pl (w W:World) (b0 b1 b2 b3 b4 b5 vb vc:Value) (e q:Int) (h:P3 w W #[b0,b1,b2,b3,b4,b5] vb vc):
 CallsD Tryz.prog 83 #[.pointer (some ⟨w.heap.size,0,none⟩),.pointer (some ⟨w.heap.size+1,0,none⟩),.pointer (some ⟨w.heap.size+2,0,none⟩)] (.panicking [{v:=.iface 145 (.agg #[.int .i64 e,.int .i64 q]),recovered:=false}]) W fun e1 u' w'=>
  e1=.returned (.tuple #[])/\u'=.panicking [{v:=.iface 145 (.agg #[.int .i64 e,.int .i64 q]),recovered:=true}]/\P3 w w' A5 (.int .i64 q) (.int .i64 e):=by
 have hta:=fun w=>Ud w (.agg #[.int .i64 e,.int .i64 q]);have HP:=qz (h.later (Aa W (.cells #[.int .i64 e,.int .i64 q] 145)));have HS:=qz (Aj.new W 145 #[.int .i64 e,.int .i64 q]);have hg:=h.blkC.lt;have H:=qz h;clear h;refine callsD_of_wpS Tryz.func83 rfl fun c₀ cs hu=> ?_;apply wpS_seq;apply wpS_region;simp[wpOpsS,go_sem,recoverD,hu,Tryz.ntmps83,Exit.thenS];refine wpS_of_wp ?_;refine Agk fun Q' hn hp=> ?_;have hlay: ∀(b:Value),(#[.pointer (some ⟨w.heap.size,0,none⟩),.pointer (some ⟨w.heap.size+1,0,none⟩),.pointer (some ⟨w.heap.size+2,0,none⟩)]:Array Value)++((Array.replicate 14 undef).setIfInBounds 3 b)= #[.pointer (some ⟨w.heap.size,0,none⟩),.pointer (some ⟨w.heap.size+1,0,none⟩),.pointer (some ⟨w.heap.size+2,0,none⟩),undef,undef,undef,b,undef,undef,undef,undef,undef,undef,undef,undef,undef,undef]:=fun _=>rfl;simp only[hlay];clear hlay;go_wp2;clear hta H;generalize W.alloc (.cells #[.int .i64 e,.int .i64 q] 145)=wi at HP HS ⊢;generalize W.heap.size=g3 at HS hg ⊢;obtain⟨x0,x1,x2,x3,x4,x5⟩:=Az HP.out.blkA;have fz:=HP.out.blkA.frozen;have y0:=HP.out.blkB.cell 0;have fy:=HP.out.blkB.frozen 0;have z0:=HP.out.blkC.cell 0;have fc:=HP.out.blkC.frozen 0;have s0:=HS.out.cell 0;have s1:=HS.out.cell 1;have k0:w.heap.size≠g3:=by omega
 have k1:w.heap.size+1≠g3:=by omega
 have k2:w.heap.size+2≠g3:=by omega
 simp only[List.getElem?_toArray,List.getElem?_cons_zero,List.getElem?_cons_succ]at y0 z0 s0 s1
 go_region_held3 (fun X=>X.cell? ⟨g3,0,none⟩=some (.int .i64 e)/\X.cell? ⟨g3,1,none⟩=some (.int .i64 q)) (go_keep) (fail)
 all_goals
  clear s0 s1 x0 x1 x2 x3 x4 x5 y0 z0 fz fy fc;have hfin:P3 w (((((((((wi.setCell ⟨w.heap.size,0,none⟩ (.int .i64 0)).setCell ⟨w.heap.size,1,none⟩ (.bool false)).setCell ⟨w.heap.size,2,none⟩ (.int .i64 0)).setCell ⟨w.heap.size,3,none⟩ (.string ⟨#[]⟩)).setCell ⟨w.heap.size,4,none⟩ (.slice none 0 0)).setCell ⟨w.heap.size,5,none⟩ (.slice none 0 0)).setCell ⟨w.heap.size+1,0,none⟩ (.int .i64 q)).setCell ⟨w.heap.size+2,0,none⟩ (.int .i64 e)).drew) A5 (.int .i64 q) (.int .i64 e):=
   (((HP.out.setA (.int .i64 0) (.bool false) (.int .i64 0) (.string ⟨#[]⟩) (.slice none 0 0) (.slice none 0 0)).setB (.int .i64 q)).setC (.int .i64 e)).later (Below.drew (Below.refl _ _))
  have Hfin:=qz hfin;clear hfin;go_wp2;refine hn.out _ _ _ ?_;clear hp hn
  cases c₀
  simp_all[bodyPostS,results,Tryz.results83,NoPanic];exact Hfin.out
end Go.Proofs.YtkmcjfkokoidcaaGreatDoor
