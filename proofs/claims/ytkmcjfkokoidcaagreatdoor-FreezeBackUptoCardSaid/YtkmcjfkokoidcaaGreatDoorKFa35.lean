/- Parts: value.Compare's helpers: cmp.Compare at three types, strings.Compare, rank. No condition. -/
import Derived.Defers
import Derived.Recover
import Derived.Laws.Pointers
import Derived.Test.YtkmcjfkokoidcaaGreatDoorKFa30
import Derived.Test.YtkmcjfkokoidcaaGreatDoorKFa31
set_option maxHeartbeats 20000000
set_option maxRecDepth 100000
namespace Go.Proofs.YtkmcjfkokoidcaaGreatDoor
theorem Agh {k:ByteArray} {l:List A5} (h:Cb k l=true):Do k l<l.length:=by
 unfold Cb at h;rcases Nat.lt_or_ge (Do k l) l.length with h1|h1
 . exact h1
 . rw[List.getElem?_eq_none h1]at h
   cases h
theorem Amn {k:ByteArray} {l:List A5} (h:Du k l=false):C1 k l=l:=(Nv fun e he c=>by
 have:Du k l=true:=List.any_eq_true.2 ⟨e,he,by simp[c]⟩;rw[h]at this;cases this).1
theorem Abq {k:ByteArray} {l:List A5} (ha:Ay l):Du k l=Cb k l:=by
 have h:=O4 (k:=k) ha;by_cases hh:Cb k l=true
 . rw[hh]at h ⊢;have hlt:=Agh hh;by_cases hc:Du k l=true
   . exact hc
   . have:=Amn (by simpa using hc:Du k l=false);rw[this,if_pos rfl]at h;have:=congrArg List.length h;rw[List.length_append,List.length_take,List.length_drop]at this;omega
 . have hf:Cb k l=false:=by simpa using hh
   rw[hf]at h ⊢;by_cases hc:Du k l=true
   . have:=Tq ha hc;rw[h,if_neg (by simp)]at this;omega
   . simpa using hc
theorem Aj3 {k:ByteArray} {l:List A5} (ha:Ay l) (h:Cb k l=true):C1 k l=l.take (Do k l)++l.drop (Do k l+1):=by rw[O4 ha,if_pos h]
theorem S7 (k:ByteArray) (l:List A5):(C1 k l).length<=l.length:=List.length_filter_le _ _
theorem L3 (k:ByteArray): ∀l:List A5,Ab (C1 k l)<=Ab l
 | []=>by simp[C1,Ab]
 |e::r=>by
  have ih:=L3 k r;unfold C1 at ih ⊢;rw[List.filter_cons]
  split
  . simp only[Ab];omega
  . simp only[Ab];omega
theorem Abz {h lo:Nat} {ks:List Nd} (k:ByteArray) (hlo:2<=lo) (hn:Co lo (h+1) (.inner ks)) (ha:Ay (Bg ks)):
 ∃x,ks[An ks k]? =some x/\ks.getD (An ks k) (.leaf [])=x/\Co 4 h x/\Ay (Bi x)/\(Bi x).length<=(Bg ks).length/\Ab (Bi x)<=Ab (Bg ks)/\
  ∀y,Jg h x k=some y->Co 3 h y/\Bg (ks.set (An ks k) y)=C1 k (Bg ks)/\(∀j z,j≠An ks k->ks[j]? =some z->Co 4 h z)/\
   (Bh y<4->Bg (G3 (ks.set (An ks k) y) (An ks k))=C1 k (Bg ks)/\(∀z ∈ G3 (ks.set (An ks k) y) (An ks k),Co 4 h z)/\1<=(G3 (ks.set (An ks k) y) (An ks k)).length/\(G3 (ks.set (An ks k) y) (An ks k)).length<=8)/\
   (¬Bh y<4-> ∀z ∈ ks.set (An ks k) y,Co 4 h z):=by
 simp only[Co]at hn;obtain⟨h2,h8,hk⟩:=hn;have hne:ks≠ []:=by intro e;rw[e]at h2;simp at h2;omega
 obtain⟨A,x,C,e,hA,hlow,hhi⟩:=H9 (k:=k) hne hk ha;have hx:Co 4 h x:=hk x (by rw[e];simp);have hax:Ay (Bi x):=by
  have ha':Ay (Bg ks):=ha;rw[e,Be]at ha';have:=(List.pairwise_append.1 ha').2.1;simp only[Bg]at this;exact(List.pairwise_append.1 this).1
 have eg:ks.getD (An ks k) (.leaf [])=x:=by rw[<-hA,e];simp
 have eq:ks[An ks k]? =some x:=by rw[<-hA,e];simp
 have hlen:ks.length=A.length+1+C.length:=by rw[e];simp;omega
 have hfl:Bg ks=Bg A++(Bi x++Bg C):=by rw[e,Be];simp[Bg]
 refine⟨x,eq,eg,hx,hax,by rw[hfl];simp;omega,by rw[hfl,Da,Da];omega,fun y hr=> ?_⟩;have ih:=Te h (k:=k) (lo:=4) (by omega) (fun _=>by omega) hx hax;rw[hr]at ih;obtain⟨_,i2,i3⟩:=ih;have hy:Co 3 h y:=by
  rcases i3 with i3|⟨_,_,_,c⟩
  . exact i3.1
  . omega
 have es:ks.set (An ks k) y=A++y::C:=by rw[<-hA,e];simp
 have hkA: ∀z ∈ A,Co 4 h z:=fun z hz=>hk z (by rw[e];simp[hz]);have hkC: ∀z ∈ C,Co 4 h z:=fun z hz=>hk z (by rw[e];simp[hz]);have hset:Bg (ks.set (An ks k) y)=C1 k (Bg ks):=by
  rw[es,hfl,P2,P2,(S8 hlow).1,(J6 hhi).1,Be,<-i2];simp only[Bg]
 refine⟨hy,hset,fun j z _ hz=>hk z (List.mem_of_getElem? hz),fun h4=> ?_,fun h4 z hz=> ?_⟩
 . obtain⟨m1,m2,m3,m4⟩:=Ags hy (by have:=(Gg hy).1;omega) hkA hkC (by omega);rw[<-hset,es,<-hA];exact⟨m1,m2,by omega,by omega⟩
 . rw[es]at hz;rcases List.mem_append.1 hz with hz|hz
   . exact hkA z hz
   rcases List.mem_cons.1 hz with rfl|hz
   . exact Zo hy (by omega)
   . exact hkC z hz
end Go.Proofs.YtkmcjfkokoidcaaGreatDoor
namespace Go.Proofs.YtkmcjfkokoidcaaGreatDoor
open Go Go.RowKit
theorem Rk (w:World):(zeroValue 148).run Tryz.prog w=.ok .nilFunc w:=by kernel_rfl
theorem RdI.drewN {w0 w:World} {R g k:Nat} {s:ByteArray} (h:RdI w0 w R g s k) (n:Nat):RdI w0 (w.drewN n) R g s k:=⟨⟨h.below.os,h.below.tape,h.below.output,h.below.size,h.below.block⟩,h.ge,h.rd,h.map⟩
theorem Br.undrewN {w w1:World} {R g k:Nat} {s:ByteArray} {n:Nat} (h:Br R g s k (w.drewN n) w1):Br R g s k w w1:=⟨⟨h.1.os,h.1.tape,h.1.output,h.1.size,h.1.block⟩,h.2⟩
theorem Ao1 {R g q:Nat} {s:ByteArray} {w w1 w2:World} {v:Val} {cs:List Value} {j:Nat} (hR:R<w.heap.size) (h1:Br R g s j (w.alloc (.cells Bk 37)) w1) (h2:Br R g s q w1 w2) (hf:Ch w1.heap.size w2 (dV v) cs):
 Aj w2 w.heap.size 37 Bk/\Br R g s q w w2/\Ch w.heap.size w2 (dV v) cs:=
 ⟨(h1.res hR).grown h2.1 (by intro e;have:=Option.some.inj e;omega),h1.unAlloc.trans h2,fun w'' k1 k2=>hf w'' k1 (fun p p1 p2=>k2 p (by have:=h1.unAlloc.1.size;omega) p2)⟩
theorem Gs (n:Nat) (henter: ∀(args:Array Value) (w:World),(callFunc n args).run Tryz.prog w=.ok (.enter n args) w) (w0:World) (R g:Nat) (s:ByteArray) (w:World) (k:Nat) (d:Int) (c:UInt8) (RES:Rd Val) (h:RdI w0 w R g s k) (hs:s.size<=100000000) (hk:k<=s.size) (hd0:0<=d) (hd:d<=64)
 (hc:s.data.toList[Aq s.data.toList k]? =some c) (hfind:E8 (c.toNat:Int) (KV R)=some (.func (.func n) #[.pointer (some ⟨R,0,none⟩)] #[]))
 (hCall: ∀W,RdI w0 W R g s (Aq s.data.toList k)->Calls Tryz.prog n #[.pointer (some ⟨R,0,none⟩),.int .i64 d] W (Gw R g s W RES)):
 Calls Tryz.prog 85 #[.pointer (some ⟨R,0,none⟩),.int .i64 d] w (Gw R g s w RES):=by
 have hR:R<w.heap.size:=Aj.lt h.rd;have hI0:=h.later (Aa w (.cells Bk 37));have hS:=Gq R g s k (w.alloc (.cells Bk 37)) (by omega) hk hI0.rd;generalize Aq s.data.toList k=p at hS hc hCall;have hlt:p<s.size:=by have:=Cz hc;rwa [Al]at this
 have hx:s[p]=c:=by rw[Dx s hlt]at hc;exact Option.some.inj hc
 have hcl:=Dr c;have i0:(0:Int)<=(p:Int):=by omega
 have i1:(p:Int)<(s.size:Int):=by omega
 have e1:((p:Int)==(s.size:Int))=false:=by rw[beq_eq_false_iff_ne];omega
 have l64:decide (d>64)=false:=decide_eq_false (by omega);have l65:decide ((64:Int)<d)=false:=decide_eq_false (by omega);clear hc;obtain⟨HS,HCall,H,HI0,Hfind⟩:=hid5 hS hCall h hI0 hfind;clear hS hCall h hI0 hfind;go_enter Tryz.func85,Tryz.ntmps85;go_wp2_with (fail);(with_reducible refine(HS.out).mono ?_);rintro e w1 ⟨rfl,h1⟩;have hI1:=HI0.out.to h1;obtain⟨c0,c1,c2,f1,_⟩:=h1.2.cells;have hrun:=fun m=>Ln (w:=w1.drewN m) Dz Tryz.underlying149 hI1.map (c.toNat:Int) Rk true;rw[Hfind.out]at hrun;simp only[Option.getD_some,Option.isSome_some,if_true]at hrun;obtain⟨H1,HI1⟩:=hid2 h1 hI1;clear h1 hI1;go_wp2;go_quiet (fail);go_wp2;go_quiet (fail);go_wp2_with (fail);(with_reducible refine(HCall.out _ (HI1.out.drewN _)).mono ?_);rintro e w2 hp
 cases RES with
 |bad c' q=>
  obtain⟨rfl,hg⟩:=hp;exact⟨rfl,rfl,Ck H1.out.unAlloc.1 ⟨hg.os,hg.tape,hg.output,hg.size,hg.block⟩⟩
 |ok v q=>
  obtain⟨⟨cs,rfl,hf4⟩,h4⟩:=hp;obtain⟨kv,bv,nv,tv,lv,ov⟩:=v;obtain⟨la,lc,oa,oc,rfl⟩:=G8 hf4;obtain⟨hxr,hto,hff⟩:=Ao1 hR H1.out h4.undrewN hf4;obtain⟨r0,r1,r2,r3,r4,r5⟩:=Bp hxr;have fz:=hxr.frozen;have hlt4:=hxr.lt;have hxf:=((((((hxr.set_ 0 (.int .i64 kv)).set_ 1 (.bool bv)).set_ 2 (.int .i64 nv)).set_ 3 (.string tv)).set_ 4 (.slice la lv.length lc)).set_ 5 (.slice oa ov.length oc));have hto':=Br.many (Nat.le_refl _) hR [.int .i64 kv,.bool bv,.int .i64 nv,.string tv,.slice la lv.length lc,.slice oa ov.length oc] 0 hto;have hff':Ch w.heap.size (Ak w2 w.heap.size 0 [.int .i64 kv,.bool bv,.int .i64 nv,.string tv,.slice la lv.length lc,.slice oa ov.length oc]) (dV (.mk kv bv nv tv lv ov)) [.int .i64 kv,.bool bv,.int .i64 nv,.string tv,.slice la lv.length lc,.slice oa ov.length oc]:=by
   have hz:=H1.out.1.size;simp only[World.size_alloc]at hz;exact hf4.keep (b':=w.heap.size) (by show w.heap.size<=w1.heap.size;omega) (by rw[Ca];exact Nat.le_refl _) (fun p p1 _=>World.cell?_of_block (A0 _ _ _ _ _ (by have p1':w1.heap.size<=p.block:=p1;omega)))
  obtain⟨Hxr,Hto,Hff,Hxf,Hto',Hff'⟩:=hid6 hxr hto hff hxf hto' hff';clear hxr hto hff hxf hto' hff';clear h4 hf4;go_wp2;exact bodyPost_ret (Cy rfl rfl Hxf.out) rfl ⟨⟨_,rfl,Hff'.out⟩,Hto'.out⟩
theorem Vd (w0:World) (R g:Nat) (s:ByteArray) (w:World) (k:Nat) (d:Int) (h:RdI w0 w R g s k) (hs:s.size<=100000000) (hk:k<=s.size)
 (hc:s.data.toList[Aq s.data.toList k]? =none\/ ∃c,s.data.toList[Aq s.data.toList k]? =some c/\E8 (c.toNat:Int) (KV R)=none):
 Calls Tryz.prog 85 #[.pointer (some ⟨R,0,none⟩),.int .i64 d] w (Gw R g s w (.bad 4 (Aq s.data.toList k))):=by
 have hR:R<w.heap.size:=Aj.lt h.rd;have hI0:=h.later (Aa w (.cells Bk 37));have hS:=Gq R g s k (w.alloc (.cells Bk 37)) (by omega) hk hI0.rd;have hps:=Dv hk;generalize Aq s.data.toList k=p at hS hc hps ⊢;have i0:(0:Int)<=(p:Int):=by omega
 rcases hc with hc|⟨c,hc,hfind⟩
 . have hp:p=s.size:=by
    rw[List.getElem?_eq_none_iff,Al]at hc;omega
   subst hp;have e1:((s.size:Int)==(s.size:Int))=true:=by simp
   clear hc;obtain⟨HS,H,HI0⟩:=hid3 hS h hI0;clear hS h hI0;go_enter Tryz.func85,Tryz.ntmps85;go_wp2_with (fail);(with_reducible refine(HS.out).mono ?_);rintro e w1 ⟨rfl,h1⟩;obtain⟨c0,c1,c2,f1,_⟩:=h1.2.cells;have HW:=qz (fun m=>Cp (.pointer (some ⟨R,0,none⟩)) 4 (s.size:Nat) (w1.drewN m));have H1:=qz h1;clear h1;go_wp2;go_quiet (fail);go_wp2_with (fail);(with_reducible refine(HW.out _).mono ?_);rintro e w10 ⟨rfl,rfl⟩;exact⟨rfl,rfl,F9 H1.out.unAlloc.1 _⟩
 . have hlt:p<s.size:=by have:=Cz hc;rwa [Al]at this
   have hx:s[p]=c:=by rw[Dx s hlt]at hc;exact Option.some.inj hc
   have hcl:=Dr c;have i1:(p:Int)<(s.size:Int):=by omega
   have e1:((p:Int)==(s.size:Int))=false:=by rw[beq_eq_false_iff_ne];omega
   clear hc;obtain⟨HS,H,HI0,Hfind⟩:=hid4 hS h hI0 hfind;clear hS h hI0 hfind;go_enter Tryz.func85,Tryz.ntmps85;go_wp2_with (fail);(with_reducible refine(HS.out).mono ?_);rintro e w1 ⟨rfl,h1⟩;have hI1:=HI0.out.to h1;obtain⟨c0,c1,c2,f1,_⟩:=h1.2.cells;have hrun:=fun m=>Ln (w:=w1.drewN m) Dz Tryz.underlying149 hI1.map (c.toNat:Int) Rk true;rw[Hfind.out]at hrun;simp only[Option.getD_none,Option.isSome_none,if_true]at hrun;have HW:=qz (fun m=>Cp (.pointer (some ⟨R,0,none⟩)) 4 (p:Nat) (w1.drewN m));obtain⟨H1,HI1⟩:=hid2 h1 hI1;clear h1 hI1;go_wp2;go_quiet (fail);go_wp2;go_quiet (fail);go_wp2_with (fail);(with_reducible refine(HW.out _).mono ?_);rintro e w10 ⟨rfl,rfl⟩;exact⟨rfl,rfl,F9 H1.out.unAlloc.1 _⟩
theorem Afu (f:Value) (w0:World) (R g:Nat) (s:ByteArray) (w:World) (k:Nat) (d:Int) (c:UInt8) (h:RdI w0 w R g s k) (hs:s.size<=100000000) (hk:k<=s.size) (hd:64<d)
 (hc:s.data.toList[Aq s.data.toList k]? =some c) (hfind:E8 (c.toNat:Int) (KV R)=some f):
 Calls Tryz.prog 85 #[.pointer (some ⟨R,0,none⟩),.int .i64 d] w (Gw R g s w (.bad 5 (Aq s.data.toList k))):=by
 have hR:R<w.heap.size:=Aj.lt h.rd;have hI0:=h.later (Aa w (.cells Bk 37));have hS:=Gq R g s k (w.alloc (.cells Bk 37)) (by omega) hk hI0.rd;have hps:=Dv hk;generalize Aq s.data.toList k=p at hS hc hps ⊢;have i0:(0:Int)<=(p:Int):=by omega
 have hlt:p<s.size:=by have:=Cz hc;rwa [Al]at this
 have hx:s[p]=c:=by rw[Dx s hlt]at hc;exact Option.some.inj hc
 have hcl:=Dr c;have i1:(p:Int)<(s.size:Int):=by omega
 have e1:((p:Int)==(s.size:Int))=false:=by rw[beq_eq_false_iff_ne];omega
 have l65:decide ((64:Int)<d)=true:=decide_eq_true (by omega);clear hc;obtain⟨HS,H,HI0,Hfind⟩:=hid4 hS h hI0 hfind;clear hS h hI0 hfind;go_enter Tryz.func85,Tryz.ntmps85;go_wp2_with (fail);(with_reducible refine(HS.out).mono ?_);rintro e w1 ⟨rfl,h1⟩;have hI1:=HI0.out.to h1;obtain⟨c0,c1,c2,f1,_⟩:=h1.2.cells;have hrun:=fun m=>Ln (w:=w1.drewN m) Dz Tryz.underlying149 hI1.map (c.toNat:Int) Rk true;rw[Hfind.out]at hrun;simp only[Option.getD_some,Option.isSome_some,if_true]at hrun;have HW:=qz (fun m=>Cp (.pointer (some ⟨R,0,none⟩)) 5 (p:Nat) (w1.drewN m));obtain⟨H1,HI1⟩:=hid2 h1 hI1;clear h1 hI1;go_wp2;go_quiet (fail);go_wp2;go_quiet (fail);go_wp2_with (fail);(with_reducible refine(HW.out _).mono ?_);rintro e w10 ⟨rfl,rfl⟩;exact⟨rfl,rfl,F9 H1.out.unAlloc.1 _⟩
theorem Mv.below {w w':World} (h:Mv w) (hb:Below w.heap.size w w'):Mv w':=by
 obtain⟨te,pe,h⟩:=h;refine⟨te,pe, ?_⟩;rw[hb.cell (p:=⟨6,0,none⟩) ?_]
 . exact h
 . rcases Nat.lt_or_ge 6 w.heap.size with q|q
   . exact q
   . simp[World.cell?,Array.getElem?_eq_none q]at h
def Zf (c:UInt8):Nat:=if c=91 then 148 else if c=123 then 149 else if c=34 then 147 else if c=110 then 144 else if c=116 then 146 else if c=102 then 145 else 150
set_option maxRecDepth 10000 in
theorem Aes (R:Nat) {c:UInt8} (h:F3 c=false):E8 (c.toNat:Int) (KV R)=none:=by
 have e: ∀n:Nat,n<256->(c=UInt8.ofNat n ↔ c.toNat=n):=fun n hn=>⟨fun q=>by rw[q];simp[UInt8.toNat_ofNat',Nat.mod_eq_of_lt hn],fun q=>by subst q;simp⟩;unfold F3 Dy at h;simp only[Bool.or_eq_false_iff,beq_eq_false_iff_ne,ne_eq,decide_eq_false_iff_not]at h;obtain⟨⟨⟨⟨⟨⟨⟨h1,h2⟩,h3⟩,h4⟩,h5⟩,h6⟩,h7⟩,h8⟩:=h;have k2: ¬c.toNat=45:=fun q=>h2 ((e 45 (by decide)).2 q);have k3: ¬c.toNat=34:=fun q=>h3 ((e 34 (by decide)).2 q);have k4: ¬c.toNat=91:=fun q=>h4 ((e 91 (by decide)).2 q);have k5: ¬c.toNat=123:=fun q=>h5 ((e 123 (by decide)).2 q);have k6: ¬c.toNat=110:=fun q=>h6 ((e 110 (by decide)).2 q);have k7: ¬c.toNat=116:=fun q=>h7 ((e 116 (by decide)).2 q);have k8: ¬c.toNat=102:=fun q=>h8 ((e 102 (by decide)).2 q);simp only[KV]
 repeat (first|exact Bv (by omega) rfl|refine Bv (by omega) ?_)
set_option maxRecDepth 10000 in
theorem Aet (R:Nat) {c:UInt8} (h:F3 c=true):E8 (c.toNat:Int) (KV R)=some (.func (.func (Zf c)) #[.pointer (some ⟨R,0,none⟩)] #[]):=by
 have hc:c=UInt8.ofNat c.toNat:=by simp
 have hn:c.toNat=45\/c.toNat=34\/c.toNat=91\/c.toNat=123\/c.toNat=110\/c.toNat=116\/c.toNat=102\/c.toNat=48\/c.toNat=49\/c.toNat=50\/c.toNat=51\/c.toNat=52\/c.toNat=53\/c.toNat=54\/c.toNat=55\/c.toNat=56\/c.toNat=57:=by
  unfold F3 Dy at h;simp only[Bool.or_eq_true,beq_iff_eq,decide_eq_true_eq]at h;rcases h with((((((h|h)|h)|h)|h)|h)|h)|h
  . omega
  all_goals(subst h;decide)
 rcases hn with q|q|q|q|q|q|q|q|q|q|q|q|q|q|q|q|q
 all_goals
  rw[q]at hc;subst hc;simp[KV,E8,Zf]
theorem Aef: ∀(args:Array Value) (w:World),(callFunc 148 args).run Tryz.prog w=.ok (.enter 148 args) w:=enters_of Tryz.func148 (by kernel_rfl) rfl
theorem Y0: ∀(args:Array Value) (w:World),(callFunc 149 args).run Tryz.prog w=.ok (.enter 149 args) w:=enters_of Tryz.func149 (by kernel_rfl) rfl
theorem Y4: ∀(args:Array Value) (w:World),(callFunc 147 args).run Tryz.prog w=.ok (.enter 147 args) w:=enters_of Tryz.func147 (by kernel_rfl) rfl
theorem Aeg: ∀(args:Array Value) (w:World),(callFunc 144 args).run Tryz.prog w=.ok (.enter 144 args) w:=enters_of Tryz.func144 (by kernel_rfl) rfl
theorem Ahl: ∀(args:Array Value) (w:World),(callFunc 146 args).run Tryz.prog w=.ok (.enter 146 args) w:=enters_of Tryz.func146 (by kernel_rfl) rfl
theorem Aj7: ∀(args:Array Value) (w:World),(callFunc 145 args).run Tryz.prog w=.ok (.enter 145 args) w:=enters_of Tryz.func145 (by kernel_rfl) rfl
theorem Yz: ∀(args:Array Value) (w:World),(callFunc 150 args).run Tryz.prog w=.ok (.enter 150 args) w:=enters_of Tryz.func150 (by kernel_rfl) rfl
theorem Ai5 (w0:World) (hT0:Cm w0) (hN0:Mv w0) (R g:Nat) (s:ByteArray) (hs:s.size<=100000000): ∀f,Al8 w0 R g s f:=by
 intro f
 induction f using Nat.strongRecOn with
 |_ f ih=>
  intro w k d h hk hf hd0 hd;obtain⟨f,rfl⟩: ∃n,f=n+1:=⟨f - 1,by omega⟩;have hp:=Dv hk;have hp1:=C5 s.data.toList k;unfold Cc
  cases hc:s.data.toList[Aq s.data.toList k]? with
  |none=>exact Vd w0 R g s w k d h hs hk (.inl hc)
  |some c=>
   simp only;have hlt:Aq s.data.toList k<s.size:=by have:=Cz hc;rwa [Al]at this
   by_cases hst:F3 c=false
   . rw[if_pos hst];exact Vd w0 R g s w k d h hs hk (.inr ⟨c,hc,Aes R hst⟩)
   rw[if_neg hst];have hst':F3 c=true:=by simpa using hst
   have hkf:=Aet R hst';by_cases hdp:64<d
   . rw[if_pos hdp];exact Afu _ w0 R g s w k d c h hs hk hdp hc hkf
   rw[if_neg hdp];have hd64:d<=64:=by omega
   have ih': ∀f',f'<f->Al8 w0 R g s f':=fun f' h'=>ih f' (by omega);have hT: ∀{W},RdI w0 W R g s (Aq s.data.toList k)->Cm W:=fun hW=>hT0.below hW.below;by_cases e1:c=91
   . subst e1;rw[if_pos rfl];exact Gs _ Aef w0 R g s w k d 91 _ h hs hk hd0 hd64 hc hkf fun W hW=>Zz w0 R g s f ih' W _ d hW hs hlt (by omega) hd0 hd64
   rw[if_neg e1];by_cases e2:c=123
   . subst e2;rw[if_pos rfl];exact Gs _ Y0 w0 R g s w k d 123 _ h hs hk hd0 hd64 hc hkf fun W hW=>Acy w0 hT0 R g s f ih' W _ d hW hs hlt (by omega) hd0 hd64
   rw[if_neg e2];by_cases e3:c=34
   . subst e3;rw[if_pos rfl];exact Gs _ Y4 w0 R g s w k d 34 _ h hs hk hd0 hd64 hc hkf fun W hW=>Zy R g s _ d W (hT hW) (by omega) hp hW.rd
   rw[if_neg e3];by_cases e4:c=110
   . subst e4;rw[if_pos rfl];exact Gs _ Aeg w0 R g s w k d 110 _ h hs hk hd0 hd64 hc hkf fun W hW=>Ae8 R g s _ d W (by omega) hp hW.rd
   rw[if_neg e4];by_cases e5:c=116
   . subst e5;rw[if_pos rfl];exact Gs _ Ahl w0 R g s w k d 116 _ h hs hk hd0 hd64 hc hkf fun W hW=>Ai9 R g s _ d W (by omega) hp hW.rd
   rw[if_neg e5];by_cases e6:c=102
   . subst e6;rw[if_pos rfl];exact Gs _ Aj7 w0 R g s w k d 102 _ h hs hk hd0 hd64 hc hkf fun W hW=>Ak0 R g s _ d W (by omega) hp hW.rd
   rw[if_neg e6];have ekn:Zf c=150:=by unfold Zf;rw[if_neg e1,if_neg e2,if_neg e3,if_neg e4,if_neg e5,if_neg e6]
   rw[ekn]at hkf;exact Gs _ Yz w0 R g s w k d c _ h hs hk hd0 hd64 hc hkf fun W hW=>Acx R g s _ d W (fun W' hW'=>hN0.below (hW.below.grown hW' hW.below.size fun r e=>by have:=Option.some.inj e;have:=hW.ge;omega)) hs hlt hW.rd
structure P3 (w W:World) (a:Array Value) (vb vc:Value):Prop where
 below:Below w.heap.size w W
 blkA:Aj W w.heap.size 37 a
 blkB:Aj W (w.heap.size+1) 3 #[vb]
 blkC:Aj W (w.heap.size+2) 30 #[vc]
theorem P3.later {w W W':World} {a:Array Value} {vb vc:Value} (h:P3 w W a vb vc) (t:Below W.heap.size W W'):P3 w W' a vb vc:=
 ⟨h.below.trans (t.mono h.below.size),h.blkA.below t h.blkA.lt,h.blkB.below t h.blkB.lt,h.blkC.below t h.blkC.lt⟩
theorem P3.setB {w W:World} {a:Array Value} {vb vc:Value} (h:P3 w W a vb vc) (v:Value):P3 w (W.setCell ⟨w.heap.size+1,0,none⟩ v) a v vc:=
 ⟨h.below.setCell (by simp) v,h.blkA.far (by simp) v,h.blkB.set_ 0 v,h.blkC.far (by simp) v⟩
theorem P3.setC {w W:World} {a:Array Value} {vb vc:Value} (h:P3 w W a vb vc) (v:Value):P3 w (W.setCell ⟨w.heap.size+2,0,none⟩ v) a vb v:=
 ⟨h.below.setCell (by simp) v,h.blkA.far (by simp) v,h.blkB.far (by simp) v,h.blkC.set_ 0 v⟩
theorem P3.setA {w W:World} {b0 b1 b2 b3 b4 b5:Value} {vb vc:Value} (h:P3 w W #[b0,b1,b2,b3,b4,b5] vb vc) (a0 a1 a2 a3 a4 a5:Value):P3 w (Ak W w.heap.size 0 [a0,a1,a2,a3,a4,a5]) #[a0,a1,a2,a3,a4,a5] vb vc:=
 ⟨A4 _ h.below (Nat.le_refl _),((((((h.blkA.set_ 0 a0).set_ 1 a1).set_ 2 a2).set_ 3 a3).set_ 4 a4).set_ 5 a5),(A0 _ _ _ _ _ (by omega)).trans h.blkB,(A0 _ _ _ _ _ (by omega)).trans h.blkC⟩
def FS (W:World) (e q:Int) (X:World):Prop:=X.cell? ⟨W.heap.size,0,none⟩=some (.int .i64 e)/\X.cell? ⟨W.heap.size,1,none⟩=some (.int .i64 q)
theorem FS.new (W:World) (e q:Int):FS W e q (W.alloc (.cells #[.int .i64 e,.int .i64 q] 145)).drew:=
 ⟨(Aj.new W 145 #[.int .i64 e,.int .i64 q]).cell 0,(Aj.new W 145 #[.int .i64 e,.int .i64 q]).cell 1⟩
theorem FS.many {W X:World} {e q:Int} (h:FS W e q X) {g:Nat} (hg:g<W.heap.size) (vs:List Value) (o:Nat):FS W e q (Ak X g o vs):=
 ⟨(World.cell?_of_block (A0 vs X g o W.heap.size (by omega))).trans h.1,(World.cell?_of_block (A0 vs X g o W.heap.size (by omega))).trans h.2⟩
theorem FS.set {W X:World} {e q:Int} (h:FS W e q X) {g:Nat} (hg:g<W.heap.size) (v:Value):FS W e q (X.setCell ⟨g,0,none⟩ v):=FS.many h hg [v] 0
theorem P3.start {w W:World} {a:Array Value} {vb vc:Value} (h:P3 w W a vb vc) (o:Obj):P3 w (W.alloc o).drew a vb vc:=(h.later (Aa W o)).later (Below.drew (Below.refl _ _))
theorem Ane {P:Program} {c:Code} {Q:Exit->Act->World->Prop} {a:Act} {w:World} (h: ∀Q':Exit->Act->World->Prop,Hid (∀e a w,NoPanic Q e a w->Q' e a w)->(∀c a d v w,Q' (.panic c) (Act.put a d v) w->Q' (.panic c) a w)->Code.wp P c Q' a w):Code.wp P c Q a w:=
 Code.wp_mono NoPanic.imp (h (NoPanic Q) (qz fun _ _ _ h=>h) (fun _ _ _ _ _ h=>h))
theorem Yp (W:World) (v:Value):(Instr.typeAssert (.iface 145 v) 20 145 true).run Tryz.prog W=.ok (.tuple #[v,.bool true]) W:=by kernel_rfl
theorem Aco (p0 p1 p2:Addr) (w:World):
 CallsD Tryz.prog 83 #[.pointer (some p0),.pointer (some p1),.pointer (some p2)] .returning w fun e u' w'=>e=.returned (.tuple #[])/\u'=.returning/\w'=w:=by
 refine callsD_of_wpS Tryz.func83 rfl fun c₀ cs hu=> ?_;apply wpS_seq;apply wpS_region;simp[wpOpsS,go_sem,recoverD,hu,Tryz.ntmps83,Exit.thenS];refine wpS_of_wp ?_;go_wp2
 cases c₀
 simp_all[bodyPostS,results,Tryz.results83]
theorem R5 (w W:World) (b0 b1 b2 b3 b4 b5 vb vc:Value) (e q:Int) (h:P3 w W #[b0,b1,b2,b3,b4,b5] vb vc):
 CallsD Tryz.prog 83 #[.pointer (some ⟨w.heap.size,0,none⟩),.pointer (some ⟨w.heap.size+1,0,none⟩),.pointer (some ⟨w.heap.size+2,0,none⟩)] (.panicking [{v:=.iface 145 (.agg #[.int .i64 e,.int .i64 q]),recovered:=false}]) W fun e1 u' w'=>
  e1=.returned (.tuple #[])/\u'=.panicking [{v:=.iface 145 (.agg #[.int .i64 e,.int .i64 q]),recovered:=true}]/\P3 w w' Bk (.int .i64 q) (.int .i64 e):=by
 have hta:=fun w=>Yp w (.agg #[.int .i64 e,.int .i64 q]);have HP:=qz (h.later (Aa W (.cells #[.int .i64 e,.int .i64 q] 145)));have HS:=qz (Aj.new W 145 #[.int .i64 e,.int .i64 q]);have hg:=h.blkC.lt;have H:=qz h;clear h;refine callsD_of_wpS Tryz.func83 rfl fun c₀ cs hu=> ?_;apply wpS_seq;apply wpS_region;simp[wpOpsS,go_sem,recoverD,hu,Tryz.ntmps83,Exit.thenS];refine wpS_of_wp ?_;refine Ane fun Q' hn hp=> ?_;have hlay: ∀(b:Value),(#[.pointer (some ⟨w.heap.size,0,none⟩),.pointer (some ⟨w.heap.size+1,0,none⟩),.pointer (some ⟨w.heap.size+2,0,none⟩)]:Array Value)++((Array.replicate 14 undef).setIfInBounds 3 b)= #[.pointer (some ⟨w.heap.size,0,none⟩),.pointer (some ⟨w.heap.size+1,0,none⟩),.pointer (some ⟨w.heap.size+2,0,none⟩),undef,undef,undef,b,undef,undef,undef,undef,undef,undef,undef,undef,undef,undef]:=fun _=>rfl;simp only[hlay];clear hlay;go_wp2;clear hta H;generalize W.alloc (.cells #[.int .i64 e,.int .i64 q] 145)=wi at HP HS ⊢;generalize W.heap.size=g3 at HS hg ⊢;obtain⟨x0,x1,x2,x3,x4,x5⟩:=Bp HP.out.blkA;have fz:=HP.out.blkA.frozen;have y0:=HP.out.blkB.cell 0;have fy:=HP.out.blkB.frozen 0;have z0:=HP.out.blkC.cell 0;have fc:=HP.out.blkC.frozen 0;have s0:=HS.out.cell 0;have s1:=HS.out.cell 1;have k0:w.heap.size≠g3:=by omega
 have k1:w.heap.size+1≠g3:=by omega
 have k2:w.heap.size+2≠g3:=by omega
 simp only[List.getElem?_toArray,List.getElem?_cons_zero,List.getElem?_cons_succ]at y0 z0 s0 s1
 go_region_held3 (fun X=>X.cell? ⟨g3,0,none⟩=some (.int .i64 e)/\X.cell? ⟨g3,1,none⟩=some (.int .i64 q)) (go_keep) (fail)
 all_goals
  clear s0 s1 x0 x1 x2 x3 x4 x5 y0 z0 fz fy fc;have hfin:P3 w (((((((((wi.setCell ⟨w.heap.size,0,none⟩ (.int .i64 0)).setCell ⟨w.heap.size,1,none⟩ (.bool false)).setCell ⟨w.heap.size,2,none⟩ (.int .i64 0)).setCell ⟨w.heap.size,3,none⟩ (.string ⟨#[]⟩)).setCell ⟨w.heap.size,4,none⟩ (.slice none 0 0)).setCell ⟨w.heap.size,5,none⟩ (.slice none 0 0)).setCell ⟨w.heap.size+1,0,none⟩ (.int .i64 q)).setCell ⟨w.heap.size+2,0,none⟩ (.int .i64 e)).drew) Bk (.int .i64 q) (.int .i64 e):=
   (((HP.out.setA (.int .i64 0) (.bool false) (.int .i64 0) (.string ⟨#[]⟩) (.slice none 0 0) (.slice none 0 0)).setB (.int .i64 q)).setC (.int .i64 e)).later (Below.drew (Below.refl _ _))
  have Hfin:=qz hfin;clear hfin;go_wp2;refine hn.out _ _ _ ?_;clear hp hn
  cases c₀
  simp_all[bodyPostS,results,Tryz.results83,NoPanic];exact Hfin.out
theorem Als (b b':Bool) (n n':Int) (t t':ByteArray) (l l':List Val) (on on':Nat) (la oa la' oa':Option Addr) (lc oc lc' oc':Nat) (w:World) (IH: ∀v ∈ l,Ajj v) (p:Prop) (hp:Lc l l'=true ↔ p)
 (hl:l= []\/ ∃g off,la=some ⟨g,off,none⟩/\g<w.heap.size/\Ao w w.heap.size l g off) (hl':l'= []\/ ∃g off,la'=some ⟨g,off,none⟩/\g<w.heap.size/\Ao w w.heap.size l' g off)
 (hb:Bf l<=100000000) (hb':Bf l'<=100000000):
 Calls Tryz.prog 50 #[.agg #[.int .i64 5,.bool b,.int .i64 n,.string t,.slice la l.length lc,.slice oa on oc],.agg #[.int .i64 5,.bool b',.int .i64 n',.string t',.slice la' l'.length lc',.slice oa' on' oc']] w (Az p w):=by
 have hln:=Dt l;have hln':=Dt l';obtain⟨HI,Hp⟩:=hid2 IH hp;have H0:Hid (∀j x y,j<0->l[j]? =some x->l'[j]? =some y->Dj x y=true):=fun _ _ _ e=>absurd e (Nat.not_lt_zero _);clear IH hp;obtain⟨w2,hw2⟩: ∃w2,(w.alloc (Ag8 5 b n t (.slice la l.length lc) (.slice oa on oc))).alloc (Ag8 5 b' n' t' (.slice la' l'.length lc') (.slice oa' on' oc'))=w2:=⟨_,rfl⟩;have HBW:=qz (show Below w.heap.size w w2 from by rw[<-hw2];exact B6 _ _ _);have hx1:w2.heap[w.heap.size]? =some (.cells #[.int .i64 5,.bool b,.int .i64 n,.string t,.slice la l.length lc,.slice oa on oc] 37 (0,0)):=by
  rw[<-hw2,Lib.alloc_old _ _ _ (by simp)];exact heap_alloc_new _ _
 have hx2:w2.heap[w.heap.size+1]? =some (.cells #[.int .i64 5,.bool b',.int .i64 n',.string t',.slice la' l'.length lc',.slice oa' on' oc'] 37 (0,0)):=by
  rw[<-hw2];have:=heap_alloc_new (w.alloc (Ag8 5 b n t (.slice la l.length lc) (.slice oa on oc))) (.cells #[.int .i64 5,.bool b',.int .i64 n',.string t',.slice la' l'.length lc',.slice oa' on' oc'] 37);simpa using this
 obtain⟨HX1,HX2⟩:=hid2 hx1 hx2;clear hx1 hx2;subst hw2;go_enter Tryz.func50,Tryz.ntmps50;go_wp2_with (fail);go_loopw [5] (fun i wr=> ∃k:Nat,i=.int .i64 k/\k<=l.length/\k<=l'.length/\Hid (∀j x y,j<k->l[j]? =some x->l'[j]? =some y->Dj x y=true)/\Hid (Below w.heap.size w wr)/\
  Hid (wr.heap[w.heap.size]? =some (.cells #[.int .i64 5,.bool b,.int .i64 n,.string t,.slice la l.length lc,.slice oa on oc] 37 (0,0)))/\
  Hid (wr.heap[w.heap.size+1]? =some (.cells #[.int .i64 5,.bool b',.int .i64 n',.string t',.slice la' l'.length lc',.slice oa' on' oc'] 37 (0,0)))) (fun i _=>l.length - (intOf i).toNat)
 case atStart=>exact⟨0,rfl,Nat.zero_le _,Nat.zero_le _,H0,HBW,HX1,HX2⟩
 case round=>
  obtain⟨k,rfl,hk,hk',ht,hbw,hx1,hx2⟩:=hrel;clear H0 HBW HX1 HX2;have b1:wr.cell? ⟨w.heap.size,4,none⟩=some (.slice la l.length lc):=by rw[Lib.cell_of_heap hx1.out];rfl
  have b2:wr.cell? ⟨w.heap.size+1,4,none⟩=some (.slice la' l'.length lc'):=by rw[Lib.cell_of_heap hx2.out];rfl
  have z2:w.heap.size+1<wr.heap.size:=(Array.getElem?_eq_some_iff.1 hx2.out).1;by_cases hlt:k<l.length
  . by_cases hlt2:k<l'.length
    . obtain⟨g,off,rfl,hg,hL⟩: ∃g off,la=some ⟨g,off,none⟩/\g<w.heap.size/\Ao w w.heap.size l g off:=by
       rcases hl with rfl|h
       . simp at hlt
       . exact h
      obtain⟨g',off',rfl,hg',hL'⟩: ∃g off,la'=some ⟨g,off,none⟩/\g<w.heap.size/\Ao w w.heap.size l' g off:=by
       rcases hl' with rfl|h
       . simp at hlt2
       . exact h
      obtain⟨x,hx⟩: ∃v,l[k]? =some v:=⟨_,List.getElem?_eq_getElem hlt⟩;obtain⟨y,hy⟩: ∃v,l'[k]? =some v:=⟨_,List.getElem?_eq_getElem hlt2⟩;have hxm:=List.mem_of_getElem? hx;have hym:=List.mem_of_getElem? hy;have hxb:=D9 hxm;have hyb:=D9 hym;have IHx:=HI.out x hxm;have hxy:Dj x y=true->(∀j x y,j<k+1->l[j]? =some x->l'[j]? =some y->Dj x y=true):=by
       intro e j x' y' hj h1 h2;rcases Nat.lt_succ_iff_lt_or_eq.1 hj with hj|rfl
       . exact ht.out j x' y' hj h1 h2
       . rw[hx]at h1;rw[hy]at h2;rw[<-Option.some.inj h1,<-Option.some.inj h2];exact e
      have Hxn:Hid (¬Dj x y=true-> ¬Lc l l'=true):=fun e h=>e ((Ji.1 h).2 k x y hx hy);have Hxy:=qz hxy;have hz:=hbw.out.size;obtain⟨k1,b1',n1,t1,l1,o1⟩:=x;obtain⟨k2,b2',n2,t2,l2,o2⟩:=y;obtain⟨la1,lc1,oa1,oc1,hv1,c0,c1,c2,c3,c4,c5⟩:=(hL.below hg hbw.out).six hx;obtain⟨la2,lc2,oa2,oc2,hv2,e0,e1,e2,e3,e4,e5⟩:=(hL'.below hg' hbw.out).six hy;have hbd:=Below.drew hbw.out;have CC:=IHx _ _ _ wr.drew (Ac.more hz _ _ (hv1.below (Below.drew (Below.refl _ _)))) (Ac.more hz _ _ (hv2.below (Below.drew (Below.refl _ _)))) (by omega) (by omega);obtain⟨Q,hQ⟩: ∃Q:Prop,(Dj (Val.mk k1 b1' n1 t1 l1 o1) (Val.mk k2 b2' n2 t2 l2 o2)=true)=Q:=⟨_,rfl⟩;rw[hQ]at CC Hxy;have Hxn':Hid (¬Q-> ¬Lc l l'=true):=by rw[<-hQ];exact Hxn
      have HC:=qz CC;clear CC hQ Hxn hxy IHx hxb hyb hxm hym hv1 hv2 hx hy hL hL' hbd hg hg' ht;go_wp2_with (fail)
      go_region_with (go_at_call 50;refine(HC.out).mono ?_;rintro e w4 ⟨c,rfl,hc,hb4⟩)
      all_goals
       have Hc:=qz hc;have hb4':Below wr.heap.size wr w4:=(Below.drew (Below.refl _ _)).trans hb4;have hbw4:=qz (hbw.out.trans (hb4'.mono hz));have hx1':=qz ((hb4'.block _ (by omega)).trans hx1.out);have hx2':=qz ((hb4'.block _ z2).trans hx2.out);clear hc hb4 hb4' hbw hx1 hx2 HC c0 c1 c2 c3 c4 c5 e0 e1 e2 e3 e4 e5 b1 b2;by_cases hc0:c=0
       . have Hn:=qz (Hxy.out (Hc.out.1 hc0));subst hc0;clear Hc;go_wp2;go_roundw
         case rel=>exact⟨k+1,by go_num,by omega,by omega,Hn,hbw4,hx1',hx2'⟩
         case measure=>simp only[intOf];omega
       . have hne:=Hxn'.out (fun e=>hc0 (Hc.out.2 e));have f1:(c==0)=false:=by simpa using hc0
         have f2:(c != 0)=true:=by simpa using hc0
         have Hf:Hid (c=0 ↔ p):=⟨fun e=>absurd e hc0,fun e=>absurd (Hp.out.2 e) hne⟩;clear Hc hne hc0;go_wp2;go_ret;exact Az.of Hf.out hbw4.out
    . have hk2:k=l'.length:=by omega
      subst hk2;have hne: ¬Lc l l'=true:=fun h=>by have:=(Ji.1 h).1;omega
      obtain⟨C,hC⟩: ∃C,Ir (l.length:Int) (l'.length:Int)=C:=⟨_,rfl⟩;have cN:=fun w=>Fz (l.length:Int) (l'.length:Int) w;rw[hC]at cN;have HN:=qz cN;have hcz:C≠0:=by rw[<-hC,Ne,Dn];omega
      have Hf:Hid (C=0 ↔ p):=⟨fun e=>absurd e hcz,fun e=>absurd (Hp.out.2 e) hne⟩;clear cN hC hcz hne ht hl hl';go_wp2_with (fail);(with_reducible refine(HN.out _).mono ?_);rintro e w' ⟨rfl,rfl⟩;go_wp2;go_ret;exact Az.of Hf.out hbw.out
  . have hk2:k=l.length:=by omega
    subst hk2;obtain⟨C,hC⟩: ∃C,Ir (l.length:Int) (l'.length:Int)=C:=⟨_,rfl⟩;have cN:=fun w=>Fz (l.length:Int) (l'.length:Int) w;rw[hC]at cN;have HN:=qz cN;have Hf:Hid (C=0 ↔ p):=by
     show _ ↔ _;rw[<-hC,Dn,<-Hp.out];constructor
     . intro h;exact Ji.2 ⟨by omega,fun j x y h1 h2=>ht.out j x y (List.getElem?_eq_some_iff.1 h1).1 h1 h2⟩
     . intro h;have:=(Ji.1 h).1;omega
    clear cN hC ht hl hl';go_wp2_with (fail);(with_reducible refine(HN.out _).mono ?_);rintro e w' ⟨rfl,rfl⟩;go_wp2;go_ret;exact Az.of Hf.out hbw.out
theorem Vi (a b:Int):Lib.compareInt a b=Ir a b:=by
 unfold Lib.compareInt Ir;rfl
theorem Kq: ∀a b:List UInt8,Lib.compareBytes a b=0 ↔ a=b
 | [], []=>by simp[Lib.compareBytes]
 | [],_::_=>by simp[Lib.compareBytes]
 |_::_, []=>by simp[Lib.compareBytes]
 |a::x,b::y=>by
  have e1:Lib.compareBytes (a::x) (b::y)=if a<b then -1 else if b<a then 1 else Lib.compareBytes x y:=rfl;rw[e1]
  split
  . rename_i h;simp only[List.cons.injEq];exact⟨fun e=>absurd e (by decide),fun e=>by rw[e.1]at h;exact absurd h (UInt8.lt_irrefl _)⟩
  . split
    . rename_i h;simp only[List.cons.injEq];exact⟨fun e=>absurd e (by decide),fun e=>by rw[e.1]at h;exact absurd h (UInt8.lt_irrefl _)⟩
    . rename_i h1 h2;rw[Kq x y,List.cons.injEq];have:a=b:=UInt8.le_antisymm (UInt8.not_lt.1 h2) (UInt8.not_lt.1 h1);simp[this]
theorem U3 (a b:ByteArray) (w:World):Calls Tryz.prog 178 #[.string a,.string b] w fun e w'=> ∃c:Int,e=.returned (.int .i64 c)/\(c=0 ↔ a=b)/\w'=w:=by
 refine(Tryz.strings_Compare a b w).mono ?_;rintro e w' ⟨rfl,rfl⟩;refine⟨_,rfl, ?_,rfl⟩;rw[Kq];exact⟨fun h=>ByteArray.ext (Array.ext' h),fun h=>by rw[h]⟩
theorem T6 (a b:Int) (w:World):Calls Tryz.prog 222 #[.int .i64 a,.int .i64 b] w fun e w'=>e=.returned (.int .i64 (Ir a b))/\w'=w:=by
 refine(Tryz.cmp_Compare_int a b w).mono ?_;rintro e w' ⟨rfl,rfl⟩;rw[Vi];exact⟨rfl,rfl⟩
theorem Ul (a:Int) (w:World):Calls Tryz.prog 219 #[.int .i64 a] w fun e w'=>e=.returned (.bool false)/\w'=w:=by
 go_enter Tryz.func219,Tryz.ntmps219;go_wp2;go_ret;exact⟨rfl,rfl⟩
theorem Uk (a:Int) (w:World):Calls Tryz.prog 220 #[.int .i64 a] w fun e w'=>e=.returned (.bool false)/\w'=w:=by
 go_enter Tryz.func220,Tryz.ntmps220;go_wp2;go_ret;exact⟨rfl,rfl⟩
theorem Aeq (a b:Int) (w:World):Calls Tryz.prog 175 #[.int .i64 a,.int .i64 b] w fun e w'=>e=.returned (.int .i64 (Ir a b))/\w'=w:=by
 have HA:=qz (Ul a w);have HB:=qz (Ul b w);unfold Ir;by_cases h1:a<b
 . rw[if_pos h1];go_enter Tryz.func175,Tryz.ntmps175;go_wp2_with (go_at_call 219;first|(with_reducible refine(HA.out).mono ?_;rintro e w' ⟨rfl,rfl⟩)|(with_reducible refine(HB.out).mono ?_;rintro e w' ⟨rfl,rfl⟩));go_ret;exact⟨rfl,rfl⟩
 rw[if_neg h1];by_cases h2:b<a
 . rw[if_pos h2];go_enter Tryz.func175,Tryz.ntmps175;go_wp2_with (go_at_call 219;first|(with_reducible refine(HA.out).mono ?_;rintro e w' ⟨rfl,rfl⟩)|(with_reducible refine(HB.out).mono ?_;rintro e w' ⟨rfl,rfl⟩));go_ret;exact⟨rfl,rfl⟩
 . rw[if_neg h2];go_enter Tryz.func175,Tryz.ntmps175;go_wp2_with (go_at_call 219;first|(with_reducible refine(HA.out).mono ?_;rintro e w' ⟨rfl,rfl⟩)|(with_reducible refine(HB.out).mono ?_;rintro e w' ⟨rfl,rfl⟩));go_ret;exact⟨rfl,rfl⟩
theorem Ub (a b:Int) (w:World):Calls Tryz.prog 177 #[.int .i64 a,.int .i64 b] w fun e w'=>e=.returned (.int .i64 (Ir a b))/\w'=w:=by
 have HA:=qz (Uk a w);have HB:=qz (Uk b w);unfold Ir;by_cases h1:a<b
 . rw[if_pos h1];go_enter Tryz.func177,Tryz.ntmps177;go_wp2_with (go_at_call 220;first|(with_reducible refine(HA.out).mono ?_;rintro e w' ⟨rfl,rfl⟩)|(with_reducible refine(HB.out).mono ?_;rintro e w' ⟨rfl,rfl⟩));go_ret;exact⟨rfl,rfl⟩
 rw[if_neg h1];by_cases h2:b<a
 . rw[if_pos h2];go_enter Tryz.func177,Tryz.ntmps177;go_wp2_with (go_at_call 220;first|(with_reducible refine(HA.out).mono ?_;rintro e w' ⟨rfl,rfl⟩)|(with_reducible refine(HB.out).mono ?_;rintro e w' ⟨rfl,rfl⟩));go_ret;exact⟨rfl,rfl⟩
 . rw[if_neg h2];go_enter Tryz.func177,Tryz.ntmps177;go_wp2_with (go_at_call 220;first|(with_reducible refine(HA.out).mono ?_;rintro e w' ⟨rfl,rfl⟩)|(with_reducible refine(HB.out).mono ?_;rintro e w' ⟨rfl,rfl⟩));go_ret;exact⟨rfl,rfl⟩
theorem Afg (b:Bool) (w:World):Calls Tryz.prog 176 #[.bool b] w fun e w'=>e=.returned (.int .i64 (if b then 1 else 0))/\w'=w:=by
 cases b
 all_goals
  go_enter Tryz.func176,Tryz.ntmps176;go_wp2;go_ret;exact⟨rfl,rfl⟩
end Go.Proofs.YtkmcjfkokoidcaaGreatDoor
