/- Parts: Digits, and what strconv.ParseInt says of them. Plain. No condition. -/
import Derived.Deep.RegionHeld3
import Derived.Laws.IdiomStrings
import Derived.Lib.ParseIntBCases
import Derived.Test.YtkmcjfkokoidcaaGreatDoorKFb5
import Derived.Test.YtkmcjfkokoidcaaGreatDoorKFb6
set_option maxHeartbeats 20000000
namespace Go.Proofs.YtkmcjfkokoidcaaGreatDoor
open Go Go.RowKit
section
variable {P:Program} {md:Region.Mode} {ops:Array Oper} {Q:Exit->Act->World->Prop} {S:World->Prop}
theorem tkH (i:Nat) {oi:Oper} {v:Value} {fuel:Nat} {listed:Array Bool} {a a':Act} {w:World} (hS:S w) (h:wpAnyH P md ops Q S fuel (listed.setIfInBounds i true) a' w)
 (hi:ops[i]? =some oi:=by rfl) (hs:Region.noSelect ops=true:=by kernel_rfl) (hf:Region.free md ops listed i=true:=by kernel_rfl) (hr:(Region.ready md ops listed).contains i=true:=by kernel_rfl)
 (hQ: ∀c a w,Q (.panic c) (a.put oi.dst v) w->Q (.panic c) a w:=by exact fun _ _ _ h=>h) (hw:Region.wanted oi (yielded ops a.tmps)=true:=by kernel_rfl)
 (hy: ∀w,S w->(execOp a.eval oi).run P w=.ok (.value v) w:=by(intro X hSw;(repeat (obtain⟨_,hSw⟩:=hSw));first|(go_simp;done)|(go_simp;with_reducible rfl)))
 (hn:a.put oi.dst v=a':=by((try simp only[Act.put,List.getElem_toArray,List.getElem_cons_succ,List.getElem_cons_zero,List.setIfInBounds_toArray,List.set_cons_zero,List.set_cons_succ]);exact rfl)):wpAnyH P md ops Q S (fuel+1) listed a w:=
 wpAnyH_take hi hs hf hr hQ (Or.inl ⟨hw,hy⟩) hS (hn▸h)
theorem Ie (i:Nat) {o:Oper} {fuel:Nat} {listed:Array Bool} {a:Act} {w:World}
 (h: ∀K':Act->World->Prop,Shut (∀a w,S w->(S w->wpAnyH P md ops Q S fuel (listed.setIfInBounds i true) a w)->K' a w)->if Region.wanted o (yielded ops a.tmps)=true then Oper.wp P o a w K' Q else K' (a.put o.dst undef) w)
 (hr:Region.ready md ops listed= [i]:=by kernel_rfl) (ho:ops[i]? =some o:=by rfl):wpAnyH P md ops Q S (fuel+1) listed a w:=
 wpAnyH_ready hr (by simp) (AllReadyH.cons ho h AllReadyH.nil)
theorem rd2 (i j:Nat) {o o':Oper} {fuel:Nat} {listed:Array Bool} {a:Act} {w:World}
 (h: ∀K':Act->World->Prop,Shut (∀a w,S w->(S w->wpAnyH P md ops Q S fuel (listed.setIfInBounds i true) a w)->K' a w)->if Region.wanted o (yielded ops a.tmps)=true then Oper.wp P o a w K' Q else K' (a.put o.dst undef) w)
 (h': ∀K':Act->World->Prop,Shut (∀a w,S w->(S w->wpAnyH P md ops Q S fuel (listed.setIfInBounds j true) a w)->K' a w)->if Region.wanted o' (yielded ops a.tmps)=true then Oper.wp P o' a w K' Q else K' (a.put o'.dst undef) w)
 (hr:Region.ready md ops listed= [i,j]:=by kernel_rfl) (ho:ops[i]? =some o:=by rfl) (ho':ops[j]? =some o':=by rfl):wpAnyH P md ops Q S (fuel+1) listed a w:=
 wpAnyH_ready hr (by simp) (AllReadyH.cons ho h (AllReadyH.cons ho' h' AllReadyH.nil))
end
end Go.Proofs.YtkmcjfkokoidcaaGreatDoor
namespace Go.Proofs.YtkmcjfkokoidcaaGreatDoor
def E5:Nd->Nat
 | .leaf es=>es.length
 | .inner ks=>ks.length
theorem Yg {lo h:Nat} {n:Nd} (hn:Ga lo h n):lo<=E5 n/\E5 n<=8:=by
 match h,n,hn with
 |0,.leaf es,hn=>exact hn
 |_+1,.inner ks,hn=>simp only[Ga]at hn;exact⟨hn.1,hn.2.1⟩
mutual
def Rk:Nd->Nat
 | .leaf _=>0
 | .inner ks=>htL ks+1
def htL:List Nd->Nat
 | []=>0
 |k::_=>Rk k
end
theorem Uw: ∀{h:Nat} {n:Nd} {lo:Nat},0<lo\/h=0->Ga lo h n->Rk n=h
 |0,.leaf es,_,_,_=>by simp[Rk]
 |0,.inner ks,_,_,hn=>absurd hn (by simp[Ga])
 |h+1,.leaf es,_,_,hn=>absurd hn (by simp[Ga])
 |h+1,.inner ks,lo,h0,hn=>by
  simp only[Ga]at hn
  match ks,hn with
  | [],hn=>have:=hn.1;simp at this;omega
  |k::r,hn=>simp only[Rk,htL,Uw (.inl (by omega)) (hn.2.2 k (by simp))]
end Go.Proofs.YtkmcjfkokoidcaaGreatDoor
namespace Go.Proofs.YtkmcjfkokoidcaaGreatDoor
open Go Go.RowKit
abbrev A5:Array Value:= #[.int .i64 0,.bool false,.int .i64 0,.string ⟨#[]⟩,.slice none 0 0,.slice none 0 0]
theorem Dp {B:Nat} {w4:World} {k:Int} {b:Bool} {n:Int} {t:ByteArray} {l:List Val} {o:List (ByteArray×Val)} {cs:List Value} (h:Br B w4 (dV (.mk k b n t l o)) cs): ∃la lc oa oc,cs= [.int .i64 k,.bool b,.int .i64 n,.string t,.slice la l.length lc,.slice oa o.length oc]:=by
 have h1:=Cb _ _ h.now;simp only[Ac]at h1;obtain⟨la,lc,oa,oc,e,_,_⟩:=h1;exact⟨la,lc,oa,oc,e⟩
theorem Az {w:World} {g:Nat} {t:TypeId} {a0 a1 a2 a3 a4 a5:Value} (h:Aj w g t #[a0,a1,a2,a3,a4,a5]):
 w.cell? ⟨g,0,none⟩=some a0/\w.cell? ⟨g,1,none⟩=some a1/\w.cell? ⟨g,2,none⟩=some a2/\w.cell? ⟨g,3,none⟩=some a3/\w.cell? ⟨g,4,none⟩=some a4/\w.cell? ⟨g,5,none⟩=some a5:=
 ⟨h.cell 0,h.cell 1,h.cell 2,h.cell 3,h.cell 4,h.cell 5⟩
theorem I9 {B:Nat} {w:World} {key:ByteArray} {v:Val} {cs:List Value} (h:Br B w (dV v) cs):Br B w (dP (key,v)) (.string key::cs):=fun w'' h1 h2=>⟨[.string key],cs,rfl,⟨rfl,rfl⟩,cs, [],by simp,h w'' h1 h2,rfl⟩
theorem Nj:(Tryz.prog.info? 94).map (fun i=>(i.zero,i.size,i.bytes))=some (some (.agg #[.string ⟨#[]⟩,.int .i64 0,.bool false,.int .i64 0,.string ⟨#[]⟩,.slice none 0 0,.slice none 0 0]),7,104):=by kernel_rfl
theorem Cj {fn:Func} {t:Tmp} {tmps:Array Value} {W:World} {R:Nat} {a0 a1 a2 a3 a4 a5:Value} (h:fn.results= #[.cell t 37]) (hp:tmps.getD t undef=.pointer (some ⟨R,0,none⟩)) (hx:Aj W R 37 #[a0,a1,a2,a3,a4,a5]):
 (results fn tmps).run Tryz.prog W=.ok (.agg #[a0,a1,a2,a3,a4,a5]) W:=by
 obtain⟨c0,c1,c2,c3,c4,c5⟩:=Az hx;clear hx;have hp':tmps[t]?.getD undef=.pointer (some ⟨R,0,none⟩):=by simpa using hp
 simp[results,h,hp',go_sem,c0,c1,c2,c3,c4,c5]
theorem Dg.slice_n {b:Nat} {t:TypeId} {s n:Nat} {wr:World} {l:List D} {V:Value} (h:Dg b t s wr l V) (hn:l.length=n): ∃a c,V=.slice a n c:=by
 subst hn;exact h.slice
theorem Em {w w6:World} {R b:Nat} {t e:TypeId} {sz:Nat} {l:List D} {V:Value} {cs:Array Value} {wr:World} (h:Aj w R t cs) (hg:w.grownBy w6 V.ownBlock) (hr:Dg b e sz wr l V) (hR:R<b):Aj w6 R t cs:=
 h.grown hg fun e=>by have:=(hr.base R e.symm).1;omega
theorem Iv (w:World) (a0 a1 a2 a3 a4 a5 a6:Value):A7 (w.alloc (.cells #[a0,a1,a2,a3,a4,a5,a6] 94)) (w.heap.size+1) 7 (some ⟨w.heap.size,0,none⟩) 1 [a0,a1,a2,a3,a4,a5,a6]:=Ge (Aj.new w 94 #[a0,a1,a2,a3,a4,a5,a6])
theorem Yj:(Tryz.prog.info? 37).map (fun i=>(i.zero,i.size,i.bytes))=some (some (.agg #[.int .i64 0,.bool false,.int .i64 0,.string ⟨#[]⟩,.slice none 0 0,.slice none 0 0]),6,88):=by kernel_rfl
theorem Lk (w:World) (a0 a1 a2 a3 a4 a5:Value):A7 (w.alloc (.cells #[a0,a1,a2,a3,a4,a5] 37)) (w.heap.size+1) 6 (some ⟨w.heap.size,0,none⟩) 1 [a0,a1,a2,a3,a4,a5]:=Ge (Aj.new w 37 #[a0,a1,a2,a3,a4,a5])
theorem Ka {fn:Func} {t u:Tmp} {tmps:Array Value} {W:World} {R:Nat} {a0 a1 a2 a3 a4 a5:Value} (h:fn.results= #[.cell t 37,.tmp u]) (hp:tmps.getD t undef=.pointer (some ⟨R,0,none⟩)) (hx:Aj W R 37 #[a0,a1,a2,a3,a4,a5]):
 (results fn tmps).run Tryz.prog W=.ok (.tuple #[.agg #[a0,a1,a2,a3,a4,a5],tmps.getD u undef]) W:=by
 obtain⟨c0,c1,c2,c3,c4,c5⟩:=Az hx;clear hx;have hp':tmps[t]?.getD undef=.pointer (some ⟨R,0,none⟩):=by simpa using hp
 simp[results,h,hp',go_sem,c0,c1,c2,c3,c4,c5]
theorem Af {fn:Func} {t u u':Tmp} {tmps:Array Value} {W:World} {R:Nat} {a0 a1 a2 a3 a4 a5:Value} (h:fn.results= #[.cell t 37,.tmp u,.tmp u']) (hp:tmps.getD t undef=.pointer (some ⟨R,0,none⟩)) (hx:Aj W R 37 #[a0,a1,a2,a3,a4,a5]):
 (results fn tmps).run Tryz.prog W=.ok (.tuple #[.agg #[a0,a1,a2,a3,a4,a5],tmps.getD u undef,tmps.getD u' undef]) W:=by
 obtain⟨c0,c1,c2,c3,c4,c5⟩:=Az hx;clear hx;have hp':tmps[t]?.getD undef=.pointer (some ⟨R,0,none⟩):=by simpa using hp
 simp[results,h,hp',go_sem,c0,c1,c2,c3,c4,c5]
theorem Agj {z:Int} (h0:0<=z) (h1:z<256):((z.toNat.toUInt8).toNat:Int)=z:=by
 have:z.toNat<256:=by omega
 simp[Nat.toUInt8,UInt8.toNat_ofNat',Nat.mod_eq_of_lt this];omega
theorem Ll (w:World) (zs:List Int) (hz: ∀z ∈ zs,0<=z/\z<256) (t:TypeId):
 (convert 131 9 (.slice (some ⟨w.heap.size,0,none⟩) zs.length zs.length)).run Tryz.prog (w.alloc (.cells (zs.map (Value.int .u8)).toArray t))=.ok (.string ⟨(zs.map fun z=>z.toNat.toUInt8).toArray⟩) (w.alloc (.cells (zs.map (Value.int .u8)).toArray t)):=by
 have:=run_convert_bytes_back (P:=Tryz.prog) (w.alloc (.cells (zs.map (Value.int .u8)).toArray t)) 131 9 5 ⟨w.heap.size,0,none⟩ zs.length (zs.map fun z=>z.toNat.toUInt8) Tryz.underlying131 Tryz.underlying5 Tryz.underlying9 (by
  intro j hj;rw[List.length_map]at hj;have hh:(w.alloc (.cells (zs.map (Value.int .u8)).toArray t)).heap[w.heap.size]? =some (.cells (zs.map (Value.int .u8)).toArray t (0,0)):=heap_alloc_new _ _;rw[show(⟨w.heap.size,0,none⟩:Addr).add j=⟨w.heap.size,j,none⟩from by unfold Addr.add;split<;>simp_all];rw[Lib.cell_of_heap hh];simp only[List.getElem?_toArray,List.getElem?_map,List.getElem?_eq_getElem hj,Option.map_some,List.getElem_map];rw[Agj (hz _ (List.getElem_mem hj)).1 (hz _ (List.getElem_mem hj)).2])
 rwa [List.length_map]at this
set_option maxRecDepth 20000 in
theorem Jo (r:Int) (h0:0<=r) (h1:r<=1114111) (hs: ¬(55296<=r/\r<57344)) (w:World):
 Calls Tryz.prog 143 #[.int .i64 r] w fun e w'=>e=.returned (.string ⟨(Lib.encodeRune r).toArray⟩)/\Below w.heap.size w w':=by
 by_cases c1:r<128
 . have e:Lib.encodeRune r= [r].map fun z=>z.toNat.toUInt8:=by unfold Lib.encodeRune;rw[Lib.encodeRuneZ_one h0 (by omega)]
   have hB:=Ll w [r] (by intro z hz;simp at hz;omega) 5;rw[e];simp only[List.map_cons,List.map_nil,List.length_cons,List.length_nil]at hB ⊢;go_enter Tryz.func143,Tryz.ntmps143;go_wp2;go_ret;exact⟨rfl,(Below.refl _ _).alloc (Nat.le_refl _) _⟩
 by_cases c2:r<2048
 . have e:Lib.encodeRune r= [192+r / 64,128+r % 64].map fun z=>z.toNat.toUInt8:=by unfold Lib.encodeRune;rw[Lib.encodeRuneZ_two (by omega) (by omega)]
   have hB:=Ll w [192+r / 64,128+r % 64] (by intro z hz;simp at hz;omega) 5;rw[e];have b1:0<=r / 64:=by omega
   have b2:r / 64<32:=by omega
   have b3:0<=r % 64:=by omega
   have b4:r % 64<64:=by omega
   simp only[List.map_cons,List.map_nil,List.length_cons,List.length_nil]at hB ⊢;obtain⟨z1,hz1⟩: ∃z,192+r / 64=z:=⟨_,rfl⟩;obtain⟨z2,hz2⟩: ∃z,128+r % 64=z:=⟨_,rfl⟩;have d1:0<=z1/\z1<256:=by omega
   have d2:0<=z2/\z2<256:=by omega
   rw[hz1,hz2]at hB ⊢;go_enter Tryz.func143,Tryz.ntmps143;go_wp2;go_ret;exact⟨rfl,(Below.refl _ _).alloc (Nat.le_refl _) _⟩
 by_cases c3:r<65536
 . have e:Lib.encodeRune r= [224+r / 4096,128+r / 64 % 64,128+r % 64].map fun z=>z.toNat.toUInt8:=by unfold Lib.encodeRune;rw[Lib.encodeRuneZ_three (by omega)]
   have hB:=Ll w [224+r / 4096,128+r / 64 % 64,128+r % 64] (by intro z hz;simp at hz;omega) 5;rw[e];have b1:0<=r / 4096:=by omega
   have b2:r / 4096<16:=by omega
   have b3:0<=r % 64:=by omega
   have b4:r % 64<64:=by omega
   have b5:0<=r / 64:=by omega
   have b6:0<=r / 64 % 64:=by omega
   have b7:r / 64 % 64<64:=by omega
   simp only[List.map_cons,List.map_nil,List.length_cons,List.length_nil]at hB ⊢;obtain⟨z1,hz1⟩: ∃z,224+r / 4096=z:=⟨_,rfl⟩;obtain⟨z2,hz2⟩: ∃z,128+r / 64 % 64=z:=⟨_,rfl⟩;obtain⟨z3,hz3⟩: ∃z,128+r % 64=z:=⟨_,rfl⟩;have d1:0<=z1/\z1<256:=by omega
   have d2:0<=z2/\z2<256:=by omega
   have d3:0<=z3/\z3<256:=by omega
   rw[hz1,hz2,hz3]at hB ⊢;go_enter Tryz.func143,Tryz.ntmps143;go_wp2;go_ret;exact⟨rfl,(Below.refl _ _).alloc (Nat.le_refl _) _⟩
 . have e:Lib.encodeRune r= [240+r / 262144,128+r / 4096 % 64,128+r / 64 % 64,128+r % 64].map fun z=>z.toNat.toUInt8:=by unfold Lib.encodeRune;rw[Lib.encodeRuneZ_four (by omega) (by omega)]
   have hB:=Ll w [240+r / 262144,128+r / 4096 % 64,128+r / 64 % 64,128+r % 64] (by intro z hz;simp at hz;omega) 5;rw[e];have b1:0<=r / 262144:=by omega
   have b2:r / 262144<8:=by omega
   have b3:0<=r % 64:=by omega
   have b4:r % 64<64:=by omega
   have b5:0<=r / 64:=by omega
   have b6:0<=r / 64 % 64:=by omega
   have b7:r / 64 % 64<64:=by omega
   have b8:0<=r / 4096:=by omega
   have b9:0<=r / 4096 % 64:=by omega
   have b10:r / 4096 % 64<64:=by omega
   simp only[List.map_cons,List.map_nil,List.length_cons,List.length_nil]at hB ⊢;obtain⟨z0,hz0⟩: ∃z,240+r / 262144=z:=⟨_,rfl⟩;obtain⟨z1,hz1⟩: ∃z,128+r / 4096 % 64=z:=⟨_,rfl⟩;obtain⟨z2,hz2⟩: ∃z,128+r / 64 % 64=z:=⟨_,rfl⟩;obtain⟨z3,hz3⟩: ∃z,128+r % 64=z:=⟨_,rfl⟩;have d0:0<=z0/\z0<256:=by omega
   have d1:0<=z1/\z1<256:=by omega
   have d2:0<=z2/\z2<256:=by omega
   have d3:0<=z3/\z3<256:=by omega
   rw[hz0,hz1,hz2,hz3]at hB ⊢;go_enter Tryz.func143,Tryz.ntmps143;go_wp2;go_ret;exact⟨rfl,(Below.refl _ _).alloc (Nat.le_refl _) _⟩
structure KB (S:Nat->Prop) (w w':World):Prop where
 os:w'.os=w.os
 tape:w'.tape=w.tape
 output:w'.output=w.output
 size:w.heap.size<=w'.heap.size
 block: ∀k,k<w.heap.size-> ¬S k->w'.heap[k]? =w.heap[k]?
theorem KB.trans {S T:Nat->Prop} {w w1 w2:World} (h:KB S w w1) (h':KB T w1 w2) (hT: ∀k,k<w.heap.size->T k->S k):KB S w w2:=
 ⟨h'.os.trans h.os,h'.tape.trans h.tape,h'.output.trans h.output,Nat.le_trans h.size h'.size,fun k h1 h2=>(h'.block k (Nat.lt_of_lt_of_le h1 h.size) fun h3=>h2 (hT k h1 h3)).trans (h.block k h1 h2)⟩
theorem KB.of_below {S:Nat->Prop} {w w':World} (h:Below w.heap.size w w'):KB S w w':=⟨h.os,h.tape,h.output,h.size,fun k h1 _=>h.block k h1⟩
theorem KB.of_grown {S:Nat->Prop} {w w':World} {r:Option Nat} (h:w.grownBy w' r) (hr: ∀k,r=some k->S k):KB S w w':=⟨h.os,h.tape,h.output,h.size,fun k h1 h2=>h.block k h1 fun e=>h2 (hr k e.symm)⟩
theorem KB.set {S:Nat->Prop} (w:World) (p:Addr) (hp:S p.block) (v:Value):KB S w (w.setCell p v):=⟨rfl,rfl,rfl,by simp[World.setCell],fun k _ h2=>Below.heap_setCell _ _ _ _ (fun e=>h2 (e▸hp))⟩
theorem KB.below {S:Nat->Prop} {w w':World} {B:Nat} (h:KB S w w') (hS: ∀k,S k->B<=k) (hB:B<=w.heap.size):Below B w w':=⟨h.os,h.tape,h.output,h.size,fun k h1=>h.block k (Nat.lt_of_lt_of_le h1 hB) fun h2=>Nat.lt_irrefl _ (Nat.lt_of_lt_of_le h1 (hS k h2))⟩
theorem Aj.kb {S:Nat->Prop} {w w':World} {g:Nat} {t:TypeId} {cs:Array Value} (hx:Aj w g t cs) (h:KB S w w') (hn: ¬S g):Aj w' g t cs:=(h.block g hx.lt hn).trans hx
end Go.Proofs.YtkmcjfkokoidcaaGreatDoor
namespace Go.Proofs.YtkmcjfkokoidcaaGreatDoor
theorem L8 {α:Type} (p:α->Bool): ∀{l:List α},(l.Pairwise fun a b=>p a=true->p b=true)->l.countP (fun a=> !p a)=l.findIdx p
 | [],_=>by simp
 |x::r,h=>by
  obtain⟨h1,h2⟩:=List.pairwise_cons.1 h;rw[List.countP_cons,List.findIdx_cons,L8 p h2]
  cases hx:p x with
  |true=>
   have:r.findIdx p=0\/r= []:=by
    cases r with
    |nil=>exact .inr rfl
    |cons y s=>exact .inl (by rw[List.findIdx_cons,h1 y (by simp) hx];rfl)
   rcases this with e|e
   . simp[e]
   . subst e;simp
  |false=>simp
theorem Lv {α:Type} (l:List α) (f:α->Bool):(List.range l.length).countP (fun i=>(l[i]?.map f).getD false)=l.countP f:=by
 have h:(List.range l.length).map (fun i=>(l[i]?.map f).getD false)=l.map f:=by
  apply List.ext_getElem
  . simp
  . intro i h1 h2;simp at h1 h2;simp[h2]
 have e1:(List.range l.length).countP (fun i=>(l[i]?.map f).getD false)=((List.range l.length).map (fun i=>(l[i]?.map f).getD false)).countP id:=by rw[List.countP_map];rfl
 have e2:l.countP f=(l.map f).countP id:=by rw[List.countP_map];rfl
 rw[e1,e2,h]
theorem Aa3 (k:ByteArray): ∀l:List Bj,Da k l=l.findIdx fun e=> !C8 e.1 k
 | []=>by simp[Da]
 |(a,x)::r=>by
  rw[List.findIdx_cons];simp only[Da];by_cases h:C8 a k=true
  . rw[if_pos h,h,Aa3 k r];simp
  . rw[if_neg h];have:C8 a k=false:=by simpa using h
    rw[this];simp
theorem Ads {k:ByteArray} {l:List Bj} (h:B8 l):l.Pairwise fun a b=>(!C8 a.1 k)=true->(!C8 b.1 k)=true:=by
 refine h.imp fun {a b} hab ha=> ?_
 cases hb:C8 b.1 k with
 |false=>rfl
 |true=>rw[De hab hb]at ha;exact ha
theorem Ad1 {k:ByteArray} {l:List Bj} (h:B8 l):(List.range l.length).countP (fun i=>(l[i]?.map fun e=>C8 e.1 k).getD false)=Da k l:=by
 rw[Lv,Aa3,<-L8 _ (Ads h)]
 congr 1
 funext e
 simp
end Go.Proofs.YtkmcjfkokoidcaaGreatDoor
namespace Go.Proofs.YtkmcjfkokoidcaaGreatDoor
open Go Go.RowKit
section
variable {P:Program} {md:Region.Mode} {ops:Array Oper} {Q:Exit->Act->World->Prop} {S:World->Prop}
theorem tkN (i:Nat) {oi:Oper} {fuel:Nat} {listed:Array Bool} {a a':Act} {w:World} (hS:S w) (h:wpAnyH P md ops Q S fuel (listed.setIfInBounds i true) a' w)
 (hi:ops[i]? =some oi:=by rfl) (hs:Region.noSelect ops=true:=by kernel_rfl) (hf:Region.free md ops listed i=true:=by kernel_rfl) (hr:(Region.ready md ops listed).contains i=true:=by kernel_rfl)
 (hQ: ∀c a w,Q (.panic c) (a.put oi.dst undef) w->Q (.panic c) a w:=by exact fun _ _ _ h=>h) (hw:Region.wanted oi (yielded ops a.tmps)=false:=by kernel_rfl)
 (hn:a.put oi.dst undef=a':=by((try simp only[Act.put,tk1,tk2,tk3,tk4,tk5,tk6]);exact rfl)):wpAnyH P md ops Q S (fuel+1) listed a w:=
 wpAnyH_take hi hs hf hr hQ (Or.inr ⟨hw,rfl⟩) hS (hn▸h)
end
def P8 (acc:Nat) (l:List UInt8):Nat:=l.foldl (fun a c=>a*10+(c.toNat - 48)) acc
theorem Qm: ∀(l:List UInt8) (a:Nat),a<=P8 a l
 | [],a=>Nat.le_refl a
 |c::r,a=>by
  have:=Qm r (a*10+(c.toNat - 48));show a<=P8 (a*10+(c.toNat - 48)) r;omega
theorem N2: ∀(l:List UInt8) (acc:Nat),(∀c ∈ l,Cx c=true)->Lib.parseUintM 18446744073709551615 acc l=if 18446744073709551615<P8 acc l/\l≠ []then .range else .ok (P8 acc l)
 | [],acc,_=>by simp[Lib.parseUintM,P8]
 |c::r,acc,h=>by
  have hc:=h c (by simp);unfold Cx at hc;rw[decide_eq_true_iff]at hc;have ih:=N2 r (acc*10+(c.toNat - 48)) (fun x hx=>h x (by simp[hx]));have e:P8 acc (c::r)=P8 (acc*10+(c.toNat - 48)) r:=rfl;have hg:=Qm r (acc*10+(c.toNat - 48));unfold Lib.parseUintM;rw[if_pos hc,e];by_cases h1:1844674407370955162<=acc
  . rw[if_pos h1,if_pos ⟨by omega,by simp⟩]
  . rw[if_neg h1];by_cases h2:18446744073709551615<acc*10+(c.toNat - 48)
    . rw[if_pos h2,if_pos ⟨by omega,by simp⟩]
    . rw[if_neg h2,ih];by_cases hr:r= []
      . subst hr;rw[if_neg (by simp)];have:P8 (acc*10+(c.toNat - 48)) []=acc*10+(c.toNat - 48):=rfl;rw[if_neg (by rw[this];omega)]
      . by_cases h3:18446744073709551615<P8 (acc*10+(c.toNat - 48)) r
        . rw[if_pos ⟨h3,hr⟩,if_pos ⟨h3,by simp⟩]
        . rw[if_neg (fun q=>h3 q.1),if_neg (fun q=>h3 q.1)]
theorem Nz {l:List UInt8} (h: ∀c ∈ l,Cx c=true) (hl:l≠ []):Lib.parseUintB 64 l=if 18446744073709551615<E8 l then .range else .ok (E8 l):=by
 unfold Lib.parseUintB;rw[if_neg hl];have:=N2 l 0 h;have e:P8 0 l=E8 l:=rfl;rw[e]at this;show Lib.parseUintM 18446744073709551615 0 l=_;rw[this];by_cases h3:18446744073709551615<E8 l
 . rw[if_pos ⟨h3,hl⟩,if_pos h3]
 . rw[if_neg (fun q=>h3 q.1),if_neg h3]
theorem Aep {l:List UInt8} (h: ∀c ∈ l,Cx c=true) (hl:l≠ []):Lib.parseIntB 64 l=if 9223372036854775807<E8 l then .range else .ok (E8 l:Int):=by
 obtain⟨c,r,rfl⟩: ∃c r,l=c::r:=by cases l with|nil=>exact absurd rfl hl|cons c r=>exact⟨c,r,rfl⟩
 have hc:=h c (by simp);unfold Cx at hc;rw[decide_eq_true_iff]at hc;unfold Lib.parseIntB;simp only;rw[if_neg (show ¬(c.toNat=43\/c.toNat=45)by omega),Nz h hl];have hn: ¬(c.toNat=45):=by omega
 by_cases h1:18446744073709551615<E8 (c::r)
 . rw[if_pos h1,if_pos (by omega)]
 . rw[if_neg h1];by_cases h2:9223372036854775807<E8 (c::r)
   . simp only[hn,not_false_eq_true,true_and,false_and,if_false];rw[if_pos h2,if_pos (by show 9223372036854775808<=_;omega)]
   . simp only[hn,not_false_eq_true,true_and,false_and,if_false];rw[if_neg h2,if_neg (by show ¬(9223372036854775808<=_);omega)]
theorem Aeo {l:List UInt8} (h: ∀c ∈ l,Cx c=true) (hl:l≠ []):Lib.parseIntB 64 (45::l)=if 9223372036854775808<E8 l then .range else .ok (-(E8 l:Int)):=by
 unfold Lib.parseIntB;simp only;rw[if_pos (by decide),Nz h hl];by_cases h1:18446744073709551615<E8 l
 . rw[if_pos h1,if_pos (by omega)]
 . rw[if_neg h1];have hn:(45:UInt8).toNat=45:=by decide
   by_cases h2:9223372036854775808<E8 l
   . simp only[hn,not_true_eq_false,true_and,false_and,if_false];rw[if_pos h2,if_pos (by show 9223372036854775808<_;omega)]
   . simp only[hn,not_true_eq_false,true_and,false_and,if_false,if_true]
theorem Ab3 (s:List UInt8) (f:Nat): ∀c ∈ (s.drop f).take (Ch s f - f),Cx c=true:=by
 intro c hc;obtain⟨i,hi⟩:=List.mem_iff_getElem?.1 hc;have hlt:i<Ch s f - f:=by
  by_cases h:i<Ch s f - f
  . exact h
  . rw[List.getElem?_take_eq_none (by omega)]at hi;cases hi
 rw[List.getElem?_take_of_lt hlt,List.getElem?_drop]at hi;exact Mb s f (f+i) c (by omega) (by omega) hi
theorem Ze {s:List UInt8} {f e:Nat} {x:UInt8} (hx:s[f]? =some x) (hz: ¬x=48) (hf:f<Ch s f) (he:Ch s f=e):E8 ((s.drop f).take (e - f))≠0:=by
 subst he;have hd:=Mb s f f x (Nat.le_refl _) hf hx;unfold Cx at hd;rw[decide_eq_true_iff]at hd;have hx48:x.toNat≠48:=fun q=>hz (UInt8.toNat_inj.1 q);obtain⟨n,hn⟩: ∃n,Ch s f - f=n+1:=⟨Ch s f - f - 1,by omega⟩;rw[hn,D0 hx,List.take_succ_cons];have h1:=Qm ((s.drop (f+1)).take n) (0*10+(x.toNat - 48));have e:E8 (x::(s.drop (f+1)).take n)=P8 (0*10+(x.toNat - 48)) ((s.drop (f+1)).take n):=rfl;rw[e];omega
end Go.Proofs.YtkmcjfkokoidcaaGreatDoor
