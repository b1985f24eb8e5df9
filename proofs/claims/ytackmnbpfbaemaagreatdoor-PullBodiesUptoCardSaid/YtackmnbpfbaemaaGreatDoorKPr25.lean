/- Parts: pull.fill of a pull's object. Condition: at most 10^8 members. -/
import Derived.WideLaws
import Derived.Test.YtackmnbpfbaemaaGreatDoorKPr22
import Derived.Test.YtackmnbpfbaemaaGreatDoorKPr23
set_option maxHeartbeats 20000000
namespace Go.Proofs.YtackmnbpfbaemaaGreatDoor
open Go Go.RowKit
def Da (s:List UInt8):Rd Val:=match Il s with
 | .bad c q=> .bad c q
 | .ok v q=>if Bk v=s then .ok v q else .bad 4 q
def Amh (w:World) (RES:Rd Val) (e:Ending) (w':World):Prop:=Below w.heap.size w w'/\match RES with
 | .ok v _=> ∃cs:List Value,e=.returned (.tuple #[.agg cs.toArray,.int .i64 0])/\Ap w.heap.size w' (dV v) cs
 | .bad c _=>e=.returned (.tuple #[.agg Aj,.int .i64 c])
theorem Q0 {s:List UInt8} {c:Int} {q:Nat} (h:Il s=.bad c q):1<=c:=by
 unfold Il at h;have hw:=(Eb (4*s.length+4)).1 s 0 1 (Nat.zero_le _)
 cases hr:Bq (4*s.length+4) s 0 1 with
 |bad e p=>rw[hr]at h hw;simp only[Rd.bad.injEq]at h;have:=hw.2.2.1;omega
 |ok v p=>
  rw[hr]at h;simp only at h
  split at h
  . simp only[Rd.bad.injEq]at h;omega
  . cases h
theorem Pi {t:List UInt8} {s:ByteArray}:(t==s.toList)=decide (t=s.data.toList):=by
 rw[ByteArray.toList_eq,Bool.eq_iff_iff];simp
end Go.Proofs.YtackmnbpfbaemaaGreatDoor
namespace Go.Proofs.YtackmnbpfbaemaaGreatDoor
theorem Ii {s:List UInt8} {v:Val} {q:Nat} (h:Da s=.ok v q):Ay v 1=0/\Ga v/\v.bulk<=6*s.length/\Bk v=s:=by
 unfold Da at h
 split at h
 . cases h
 . rename_i v' q' hp
   split at h
   . rename_i ht
     cases h
     obtain⟨h1,_,h2,h3⟩:=Q1 hp;exact⟨h1,h3,h2,ht⟩
   . cases h
theorem I6 {s:List UInt8} {c:Int} {q:Nat} (h:c=0):Da s≠ .bad c q:=by
 intro e;unfold Da at e
 split at e
 . rename_i hp
   cases e
   have:=Q0 hp;omega
 . split at e
   . cases e
   . cases e
     omega
def Bo (n:Int):Int:=n % 18446744073709551616
theorem Aey {n:Int} (h0: -9223372036854775808<=n) (h1:n<=9223372036854775807) (h:Bo n<=4611686018427387903):0<=n:=by
 unfold Bo at h;omega
theorem Ab3 (n:Int):0<=Bo n:=Int.emod_nonneg _ (by omega)
def By (names:List ByteArray) (m:Nat) (v:Val):Int:=
 if Av v≠6 then 9 else if(At v).map (·.1)≠names then 10 else if((At v).take m).all (fun p=>decide (Av p.2=3))then 0 else 9
def Wy (m:Nat) (v:Val):List Int:=((At v).take m).map fun p=>Bo (Bd p.2)
theorem Uh {names:List ByteArray} {m:Nat} {v:Val} (h:Av v≠6):By names m v=9:=by
 unfold By;rw[if_pos h]
theorem Ov {names:List ByteArray} {m:Nat} {v:Val} (h:By names m v=0):Av v=6/\(At v).map (·.1)=names/\ ∀p ∈ (At v).take m,Av p.2=3:=by
 unfold By at h
 split at h
 . cases h
 . split at h
   . cases h
   . split at h
     . rename_i h1 h2 h3;exact⟨by omega,by simpa using h2,fun p hp=>by simpa using List.all_eq_true.1 h3 p hp⟩
     . cases h
theorem Al1 {v:Val} {d:Int} (h:Ay v d=0): ∀m ∈ At v,Ay m.2 (d+1)=0:=by
 obtain⟨k,b,n,t,l,o⟩:=v;exact fun m hm=>(P4 (Ck h).2.2.2.2 m hm).2
theorem Alp {v:Val} (h:Ga v): -9223372036854775808<=Bd v/\Bd v<=9223372036854775807:=by
 obtain⟨k,b,n,t,l,o⟩:=v;exact h.1
theorem Aj7 {v:Val} (h:Ga v):Jj (At v):=by
 obtain⟨k,b,n,t,l,o⟩:=v;exact h.2.2
def N2 (v:Val):Int×Int×Int:=
 if By [Ah,Ai] 2 v≠0 then(By [Ah,Ai] 2 v,0,0)else
 match Wy 2 v with
 | [c,k]=>if Cv c k=0 then(0,c,k)else(Cv c k,0,0)
 |_=>(10,0,0)
def G0 (b:List UInt8):Int×Int×Int:=
 if Cm 2 b≠0 then(Cm 2 b,0,0)else match Da (Cx b)with
 | .bad c _=>(c,0,0)
 | .ok v _=>N2 v
end Go.Proofs.YtackmnbpfbaemaaGreatDoor
namespace Go.Proofs.YtackmnbpfbaemaaGreatDoor
open Go Go.RowKit
structure Says (t:TypeId) (m:Value) (n:Nat) (F:ByteArray->Value) (W:World):Prop where
 look: ∀k,(Instr.lookup t m (.string k) false).run Tryz.prog W=.ok (F k) W
 len: ∀ty,(Builtin.len_ #[t] ty #[m]).run Tryz.prog W=.ok (goInt n) W
theorem Wk {α:Type} {f:α->Value}: ∀(kv:List (α×Value)) (i:Nat),(Jl f kv i).length=kv.length
 | [],_=>rfl
 |(_,_)::r,i=>by simp[Jl,Wk r (i+1)]
theorem Ak0 (w:World):(zeroValue 104).run Tryz.prog w=.ok (.pointer none) w:=by kernel_rfl
theorem Ace (w:World):(zeroValue 114).run Tryz.prog w=.ok .nilFunc w:=by kernel_rfl
theorem B9.len {g n:Nat} {F:ByteArray->Option Value} {W:World} (h:B9 W g n F) (t ty:TypeId) (hu:Tryz.prog.underlying t=some (.map (Program.mapKeyOf Tryz.prog t) (Program.mapElemOf Tryz.prog t))):(Builtin.len_ #[t] ty #[.map (some g)]).run Tryz.prog W=.ok (goInt n) W:=by
 obtain⟨kv,h1,h2,_⟩:=h;have:=run_len_map (P:=Tryz.prog) W t ty g _ _ hu h1;rw[this,List.size_toArray,Wk,h2]
theorem Xf {g n:Nat} {F:ByteArray->Option Value} {W:World} (h:B9 W g n F):Says 101 (.map (some g)) n (fun k=>(F k).getD (.pointer none)) W:=
 ⟨fun k=>Ra Fg Tryz.underlying101 h k Ak0 false,fun ty=>h.len 101 ty (by kernel_rfl)⟩
theorem Abw {g n:Nat} {F:ByteArray->Option Value} {W:World} (h:B9 W g n F):Says 103 (.map (some g)) n (fun k=>(F k).getD .nilFunc) W:=
 ⟨fun k=>Ra Fg Tryz.underlying103 h k Ace false,fun ty=>h.len 103 ty (by kernel_rfl)⟩
theorem Ahy (W:World):Says 103 (.map none) 0 (fun _=> .nilFunc) W:=by
 have hu:Tryz.prog.underlying 103=some (.map (Program.mapKeyOf Tryz.prog 103) (Program.mapElemOf Tryz.prog 103)):=by kernel_rfl
 refine⟨fun k=> ?_,fun ty=> ?_⟩
 . have hc:=fun e=>Fg.check e W k;obtain⟨d,hd,_⟩:=Fg.under;have hfk:(Instr.findKey 9 (.string k) []).run Tryz.prog W=.ok none W:=by simp[Instr.findKey,run_underlying hd,Instr.findNow]
   unfold Instr.lookup;simp[Sem.run_bind,run_underlying (P:=Tryz.prog) Tryz.underlying103,Result.andThen,Ace W,hc,hfk]
 . have:=run_len_nilMap (P:=Tryz.prog) (w:=W) 103 ty hu;simpa using this
theorem Kt {w:World} {B n c:Nat} {l:List (ByteArray×Val)} {a:Option Addr} (h:Ae w B (.row 7 (dO l)) [.slice a n c]) {q:Nat} {key:ByteArray} {k':Int} {b':Bool} {n':Int} {t':ByteArray} {l':List Val} {o':List (ByteArray×Val)} (hi:l[q]? =some (key,.mk k' b' n' t' l' o')):
 ∃g off,a=some ⟨g,off,none⟩/\g<B/\ ∃la lc oa oc,Ae w B (dV (.mk k' b' n' t' l' o')) [.int .i64 k',.bool b',.int .i64 n',.string t',.slice la l'.length lc,.slice oa o'.length oc]/\
  w.cell? ⟨g,off+q*7,none⟩=some (.string key)/\w.cell? ⟨g,off+q*7+1,none⟩=some (.int .i64 k')/\w.cell? ⟨g,off+q*7+2,none⟩=some (.bool b')/\
  w.cell? ⟨g,off+q*7+3,none⟩=some (.int .i64 n')/\w.cell? ⟨g,off+q*7+4,none⟩=some (.string t')/\w.cell? ⟨g,off+q*7+5,none⟩=some (.slice la l'.length lc)/\w.cell? ⟨g,off+q*7+6,none⟩=some (.slice oa o'.length oc):=by
 obtain⟨g,off,ea,hg,cs,h1,_,h3⟩:=h.at_ (i:=q) (d:=dP (key,.mk k' b' n' t' l' o')) (by rw[Jd,List.getElem?_map,hi];rfl);unfold dP at h1;simp only[Ae]at h1;obtain⟨_,_,rfl,⟨rfl,_⟩,cv,_,rfl,h4,rfl⟩:=h1;have h6:=Bv _ _ h4;simp only[Ac]at h6;obtain⟨la,lc,oa,oc,rfl,_,_⟩:=h6;exact⟨g,off,ea,hg,la,lc,oa,oc,h4,h3 0 _ rfl,h3 1 _ rfl,h3 2 _ rfl,h3 3 _ rfl,h3 4 _ rfl,h3 5 _ rfl,h3 6 _ rfl⟩
theorem Js {w:World} {B:Nat} {k':Int} {b':Bool} {n':Int} {t':ByteArray} {l':List Val} {o':List (ByteArray×Val)} {x0 x1 x2 x3 x4 oa:Value} (h:Ae w B (dV (.mk k' b' n' t' l' o')) [x0,x1,x2,x3,x4,oa]):Ae w B (.row 7 (dO o')) [oa]:=by
 have h':Ag w B [.leaf (.int .i64 k'),.leaf (.bool b'),.leaf (.int .i64 n'),.leaf (.string t'),.row 6 (dL l'),.row 7 (dO o')] [x0,x1,x2,x3,x4,oa]:=by
  unfold dV Ae at h;exact h
 obtain⟨c4,c5,e,_,_,_,_,h4,h5⟩:=Ag.six.1 h';have l4:=h4.len.1;have l5:=h5.len.1
 match c4,l4,c5,l5,e with
 | [u],_, [v],_,e=>
   simp only[List.cons_append,List.nil_append,List.cons.injEq,and_true]at e;obtain⟨_,_,_,_,_,rfl⟩:=e;exact h5
theorem Aau {w:World} {B:Nat} {k':Int} {b':Bool} {n':Int} {t':ByteArray} {l':List Val} {o':List (ByteArray×Val)} {x0 x1 x2 x3 la x5:Value} (h:Ae w B (dV (.mk k' b' n' t' l' o')) [x0,x1,x2,x3,la,x5]):Ae w B (.row 6 (dL l')) [la]:=by
 have h':Ag w B [.leaf (.int .i64 k'),.leaf (.bool b'),.leaf (.int .i64 n'),.leaf (.string t'),.row 6 (dL l'),.row 7 (dO o')] [x0,x1,x2,x3,la,x5]:=by
  unfold dV Ae at h;exact h
 obtain⟨c4,c5,e,_,_,_,_,h4,h5⟩:=Ag.six.1 h';have l4:=h4.len.1;have l5:=h5.len.1
 match c4,l4,c5,l5,e with
 | [u],_, [v],_,e=>
   simp only[List.cons_append,List.nil_append,List.cons.injEq,and_true]at e;obtain⟨_,_,_,_,rfl,_⟩:=e;exact h4
theorem Agt {b s n c g off:Nat} {w:World} {l:List D} {q:Nat} {d:D} {u0 v1:Value} (h:Ap b w (.row s l) [.slice (some ⟨g,off,none⟩) n c]) (hi:l[q]? =some d) (hu: ∀(w:World) (B:Nat) cs,Ae w B d cs->cs[0]? =some u0) (hv:v1≠u0):
 b<=g/\ ∀cs:List Value,(∀j u,cs[j]? =some u->w.cell? ⟨g,off+q*s+j,none⟩=some u)->cs.length=s->Ap b w d cs:=by
 obtain⟨g',off',e,hg,cs0,h1,hl0,hc0⟩:=h.now.at_ hi
 cases e
 have hf:=hc0 0 u0 (hu _ _ _ h1);have hge:b<=g:=by
  refine Nat.le_of_not_lt fun hlt=>hv ?_;obtain⟨g2,off2,e,_,cs1,h2,_,hc1⟩:=(h (w.setCell ⟨g,off+q*s+0,none⟩ v1) (by simp[World.setCell]) (fun p p1 p2=>World.cell?_setCell_far _ _ _ _ (by show g≠p.block;omega))).at_ hi
  cases e
  have:=hc1 0 u0 (hu _ _ _ h2);rw[World.cell?_setCell_same _ _ _ hf]at this;exact Option.some.inj this
 refine⟨hge,fun cs hcs hl w'' hs hk=> ?_⟩;obtain⟨g2,off2,e,_,cs2,h2,hl2,hc2⟩:=(h w'' hs hk).at_ hi
 cases e
 have:cs2=cs:=by
  refine List.ext_getElem? fun j=> ?_;by_cases hj:j<s
  . obtain⟨u,hu1⟩: ∃u,cs2[j]? =some u:=⟨_,List.getElem?_eq_getElem (by omega)⟩;obtain⟨u',hu2⟩: ∃u,cs[j]? =some u:=⟨_,List.getElem?_eq_getElem (by omega)⟩;have e1:=hc2 j u hu1;rw[hk _ hge hg,hcs j u' hu2]at e1;rw[hu1,hu2,Option.some.inj e1]
  . rw[List.getElem?_eq_none (by omega),List.getElem?_eq_none (by omega)]
 rw[<-this];exact h2
theorem Agr {b:Nat} {w:World} {k':Int} {b':Bool} {n':Int} {t':ByteArray} {l':List Val} {o':List (ByteArray×Val)} {x0 x1 x2 x3 x4 oa:Value} (h:Ap b w (dV (.mk k' b' n' t' l' o')) [x0,x1,x2,x3,x4,oa]):Ap b w (.row 7 (dO o')) [oa]:=fun w'' h1 h2=>Js (h w'' h1 h2)
theorem Z7 {key:ByteArray} {v:Val} (w:World) (B:Nat) (cs:List Value) (h:Ae w B (dP (key,v)) cs):cs[0]? =some (.string key):=by
 unfold dP at h;simp only[Ae]at h;obtain⟨_,_,rfl,⟨rfl,_⟩,_⟩:=h;rfl
theorem Ai0 {key:ByteArray} {v:Val} {w:World} {B:Nat} {u:Value} {cs:List Value} (h:Ae w B (dP (key,v)) (u::cs)):Ae w B (dV v) cs:=by
 unfold dP at h;simp only[Ae]at h;obtain⟨_,_,e,⟨rfl,_⟩,cv,_,rfl,h4,rfl⟩:=h;simp only[List.cons_append,List.nil_append,List.append_nil,List.cons.injEq]at e;rw[e.2];exact h4
theorem Agw {b n c g off:Nat} {w:World} {o:List (ByteArray×Val)} {q:Nat} {key:ByteArray} {v:Val} (h:Ap b w (.row 7 (dO o)) [.slice (some ⟨g,off,none⟩) n c]) (hi:o[q]? =some (key,v)) {cs:List Value} (h0:w.cell? ⟨g,off+q*7,none⟩=some (.string key)) (hcs: ∀j u,cs[j]? =some u->w.cell? ⟨g,off+q*7+1+j,none⟩=some u) (hl:cs.length=6):Ap b w (dV v) cs:=by
 have hm:=(Agt (v1:=.bool false) h (d:=dP (key,v)) (by rw[Jd,List.getElem?_map,hi];rfl) Z7 (by simp)).2 (.string key::cs) (fun j u hj=>by
  match j with
  |0=>cases hj;exact h0
  |j+1=>
   rw[show off+q*7+(j+1)=off+q*7+1+j from by omega];exact hcs j u hj) (by simp[hl])
 exact fun w'' h1 h2=>Ai0 (hm w'' h1 h2)
theorem U1 (n:Int):IntKind.u64.wrap n=Bo n:=by
 have h1:IntKind.u64.bits=64:=rfl;have h2:IntKind.u64.signed=false:=rfl;simp[IntKind.wrap,h1,h2,Bo]
structure FI (w:World) (X:Nat) (T:TypeId) (xs:Array Value) (V0:Nat) (six:Array Value) (wr:World):Prop where
 grown:w.grownBy wr (some X)
 blk:An wr X T xs
 box:An wr V0 39 six
 ne:V0≠X
theorem FI.alloc {w wr:World} {X V0:Nat} {T:TypeId} {xs six:Array Value} (h:FI w X T xs V0 six wr) (o:Obj):FI w X T xs V0 six (wr.alloc o):=⟨D8 h.grown o,h.blk.alloc o,h.box.alloc o,h.ne⟩
theorem FI.set {w wr:World} {X V0:Nat} {T:TypeId} {xs six:Array Value} (h:FI w X T xs V0 six wr) (i:Nat) (u:Value):FI w X T (xs.setIfInBounds i u) V0 six (wr.setCell ⟨X,i,none⟩ u):=
 ⟨Gq h.grown _ (.inl rfl) u,h.blk.set_ i u,h.box.far h.ne _,h.ne⟩
theorem Gp {b X:Nat} {w wr:World} {d:D} {cs:List Value} (h:Ap b w d cs) (hX:X<b) (hg:w.grownBy wr (some X)):Ap b wr d cs:=
 h.keep (Nat.le_refl _) hg.size fun p p1 p2=>World.cell?_of_block (hg.block p.block p2 (by intro e;cases e;omega))
set_option maxRecDepth 100000 in
theorem Rt (s:ByteArray) (w:World) (hT0:Cf w) (hN0:N8 w) (hs:s.size<=100000000):
 Calls Tryz.prog 50 #[.string s] w (Amh w (Da s.data.toList)):=by
 have hV:=Aa9 s (w.alloc (.cells Aj 39)) (hT0.below (Aa w _)) (hN0.below (Aa w _)) hs;have hTT: ∀W,Below w.heap.size w W->Cf W:=fun W h=>hT0.below h;have hB0:=RBx.start w;obtain⟨RES,hRES⟩: ∃r,Da s.data.toList=r:=⟨_,rfl⟩;rw[hRES];unfold Da at hRES
 cases hr:Il s.data.toList with
 |bad c q=>
  rw[hr]at hV hRES;simp only at hRES;subst hRES;have hc1:(c != 0)=true:=by have:=Q0 hr;simp only[bne_iff_ne,ne_eq];omega
  clear hr;obtain⟨HV,HB0⟩:=hid2 hV hB0;clear hV hB0;go_enter Tryz.func50,Tryz.ntmps50;go_wp2_with (fail);(with_reducible refine(HV.out).mono ?_);rintro e w4 ⟨hb4,rfl⟩;have hI4:=HB0.out.later hb4;have hxf:=(hI4.many (.int .i64 0) (.bool false) (.int .i64 0) (.string ⟨#[]⟩) (.slice none 0 0) (.slice none 0 0)).later (Aa _ (.cells Aj 39));obtain⟨r0,r1,r2,r3,r4,r5⟩:=Ao hI4.blk;have fz4:=hI4.blk.frozen;have hlt4:=hI4.blk.lt;obtain⟨Hxf,HI4⟩:=hid2 hxf hI4;clear hxf hI4;clear hb4;go_wp2;exact bodyPost_ret (A9 rfl rfl Hxf.out.blk) rfl ⟨Hxf.out.below,rfl⟩
 |ok v q=>
  rw[hr]at hV hRES;simp only at hRES;obtain⟨hm1,hm2,hm3,hm4⟩:=Q1 hr;obtain⟨k',b',n',t',l',o'⟩:=v;have hT:=fun cs W hW h=>Tn (.mk k' b' n' t' l' o') cs W (hTT W hW) h (by rw[Ab]at hm3;omega) hm4;rw[hm1]at hT;have htS:Uv (.mk k' b' n' t' l' o')=⟨(Bk (.mk k' b' n' t' l' o')).toArray⟩:=by unfold Uv;rw[if_pos hm1]
  rw[htS]at hT;clear hr hm1 hm2 hm3 hm4 htS hTT;have hcmp:=Pi (t:=Bk (.mk k' b' n' t' l' o')) (s:=s);generalize Bk (.mk k' b' n' t' l' o')=TT at hcmp hRES hT;obtain⟨HV,HB0,HT,HRES⟩:=hid4 hV hB0 hT hRES;clear hV hB0 hT hRES;go_enter Tryz.func50,Tryz.ntmps50;go_wp2_with (fail);(with_reducible refine(HV.out).mono ?_);rintro e w4 ⟨hb4,cs,rfl,hf4⟩;obtain⟨la4,lc4,oa4,oc4,rfl⟩:=Ct hf4;have hI4:=HB0.out.later hb4;have hz4:=hb4.size;have hI5:=hI4.later (Aa w4 (.cells #[.int .i64 k',.bool b',.int .i64 n',.string t',.slice la4 l'.length lc4,.slice oa4 o'.length oc4] 39));have hf5:=hf4.later (Aa w4 (.cells #[.int .i64 k',.bool b',.int .i64 n',.string t',.slice la4 l'.length lc4,.slice oa4 o'.length oc4] 39));have hx5:=An.new w4 39 #[.int .i64 k',.bool b',.int .i64 n',.string t',.slice la4 l'.length lc4,.slice oa4 o'.length oc4];have hT5:=HT.out _ _ (((Aa w _).trans (hb4.mono (by simp))).trans ((Aa w4 (.cells #[.int .i64 k',.bool b',.int .i64 n',.string t',.slice la4 l'.length lc4,.slice oa4 o'.length oc4] 39)).mono (by have:=hb4.size;simp at this;omega))) (Bv _ _ hf5.now);obtain⟨HI4,Hf4,HI5,Hf5,Hx5,HT5⟩:=hid6 hI4 hf4 hI5 hf5 hx5 hT5;clear hI4 hf4 hI5 hf5 hx5 hT5;clear hb4;obtain⟨r0,r1,r2,r3,r4,r5⟩:=Ao HI5.out.blk;have fz5:=HI5.out.blk.frozen;have hlt5:=HI5.out.blk.lt;obtain⟨x0,x1,x2,x3,x4,x5⟩:=Ao Hx5.out;have hltx:=Hx5.out.lt;go_wp2_with (fail);generalize w4.alloc (.cells #[.int .i64 k',.bool b',.int .i64 n',.string t',.slice la4 l'.length lc4,.slice oa4 o'.length oc4] 39)=w5 at HI5 Hf5 Hx5 HT5 r0 r1 r2 r3 r4 r5 fz5 hlt5 x0 x1 x2 x3 x4 x5 hltx ⊢;(with_reducible refine(HT5.out).mono ?_);rintro e w6 ⟨rfl,hb6⟩;have hI6:=HI5.out.later hb6;have hf6:=Hf5.out.later hb6;have hx6:=Hx5.out.below hb6 Hx5.out.lt;obtain⟨z0,z1,z2,z3,z4,z5⟩:=Ao hI6.blk;have fz6:=hI6.blk.frozen;have hlt6:=hI6.blk.lt;obtain⟨y0,y1,y2,y3,y4,y5⟩:=Ao hx6;have hs6:=hb6.size;have hRES:=HRES.out;clear HRES r0 r1 r2 r3 r4 r5 x0 x1 x2 x3 x4 x5 fz5;by_cases ht:TT=s.data.toList
  . rw[if_pos ht]at hRES;rw[decide_eq_true ht]at hcmp;subst hRES;have hxf:=hI6.many (.int .i64 k') (.bool b') (.int .i64 n') (.string t') (.slice la4 l'.length lc4) (.slice oa4 o'.length oc4);have hff:=hf6.keep (b':=w.heap.size) (w':=A1 w6 w.heap.size 0 [.int .i64 k',.bool b',.int .i64 n',.string t',.slice la4 l'.length lc4,.slice oa4 o'.length oc4]) (by simp) (by rw[Ba];exact Nat.le_refl _) (fun p p1 p2=>World.cell?_of_block (Aw _ _ _ _ _ (by have p1':(w.alloc (.cells Aj 39)).heap.size<=p.block:=p1;simp at p1';omega)));have hne:(TT != s.toList)=false:=by rw[bne,hcmp];rfl
    obtain⟨Hxf,Hff,HI6,Hf6,Hx6,Ht⟩:=hid6 hxf hff hI6 hf6 hx6 ht;clear hxf hff hI6 hf6 hx6 ht;clear hb6;go_wp2;exact bodyPost_ret (A9 rfl rfl Hxf.out.blk) rfl ⟨Hxf.out.below,⟨_,rfl,Hff.out⟩⟩
  . rw[if_neg ht]at hRES;rw[decide_eq_false ht]at hcmp;subst hRES;have hxf:=hI6.many (.int .i64 0) (.bool false) (.int .i64 0) (.string ⟨#[]⟩) (.slice none 0 0) (.slice none 0 0);have hne:(TT != s.toList)=true:=by rw[bne,hcmp];rfl
    obtain⟨Hxf,HI6,Hf6,Hx6,Ht⟩:=hid5 hxf hI6 hf6 hx6 ht;clear hxf hI6 hf6 hx6 ht;clear hb6;go_wp2;exact bodyPost_ret (A9 rfl rfl Hxf.out.blk) rfl ⟨Hxf.out.below,rfl⟩
end Go.Proofs.YtackmnbpfbaemaaGreatDoor
namespace Go.Proofs.YtackmnbpfbaemaaGreatDoor
theorem M0: ∀{l r:List Val},(Am l).1≠0->Am (l++r)=((Am l).1, [])
 | [],_,h=>absurd rfl h
 |v::l,r,h=>by
  simp only[List.cons_append,Am]at h ⊢;by_cases h1:(C4 v).1≠0
  . rw[if_pos h1,if_pos h1]
  . rw[if_neg h1]at h ⊢;by_cases h2:(Am l).1≠0
    . rw[M0 h2,if_pos h2];simp only[h1,if_false,h2,not_false_eq_true,if_true,ne_eq]
    . rw[if_neg h2]at h;exact absurd rfl h
theorem Mz: ∀{l:List Val} {v:Val},(Am l).1=0->Am (l++ [v])=if(C4 v).1≠0 then((C4 v).1, [])else(0,(Am l).2++ [(C4 v).2])
 | [],v,_=>by
   simp only[List.nil_append,Am];by_cases h1:(C4 v).1≠0
   . rw[if_pos h1,if_pos h1]
   . rw[if_neg h1,if_neg h1];rfl
 |x::l,v,h=>by
  simp only[List.cons_append,Am]at h ⊢;by_cases h1:(C4 x).1≠0
  . rw[if_pos h1]at h;exact absurd h h1
  . rw[if_neg h1]at h ⊢;by_cases h2:(Am l).1≠0
    . rw[if_pos h2]at h;exact absurd h h2
    . have h0:(Am l).1=0:=by simpa using h2
      rw[Mz h0,if_neg h1,if_neg h2];by_cases h3:(C4 v).1≠0
      . simp[h3]
      . simp only[ne_eq,Decidable.not_not]at h3;simp[h3]
theorem Agy {key:ByteArray} {o:List (ByteArray×Val)}:(Ds ((Ax key o).getD Ll)).size<=Al o:=by
 cases h:Ax key o with
 |none=>exact Nat.zero_le _
 |some x=>
  have h1:=C9 (Gf h);obtain⟨k,b,n,t,l,r⟩:=x;simp only[Val.bulk]at h1;show t.size<=_;omega
theorem Aje {key:ByteArray} {o:List (ByteArray×Val)}:((Ax key o).getD Ll).bulk<=Al o+6:=by
 cases h:Ax key o with
 |none=>show Ll.bulk<=_;have:Ll.bulk=6:=by decide
        omega
 |some x=>
  have h1:=C9 (Gf h);simp only at h1;show x.bulk<=_;omega
theorem Afk {key:ByteArray}: ∀{o:List (ByteArray×Val)},Jj o->Ga ((Ax key o).getD Ll)
 | [],_=>⟨⟨by decide,by decide⟩,trivial,trivial⟩
 |(a,x)::r,h=>by
  unfold Ax;by_cases e:a=key
  . rw[if_pos e];exact h.1
  . rw[if_neg e];exact Afk h.2
theorem Ahk {v:Val} (hi:Ga v) (h:(D9 v).1=0):2+(D9 v).2.key.size+(D9 v).2.v.bulk<=3*v.bulk/\Ga (D9 v).2.v:=by
 obtain⟨k,b,n,t,l,o⟩:=v;have h1:=Agy (key:=A6) (o:=o);have h2:=Aje (key:=B5) (o:=o);have h3:=Afk (key:=B5) hi.2.2;unfold D9 at h ⊢;by_cases a1:Av (.mk k b n t l o)≠6
 . rw[if_pos a1]at h;exact absurd h (show ¬(9:Int)=0 by omega)
 rw[if_neg a1]at h ⊢
 cases a2:Ax Cn (At (.mk k b n t l o))with
 |none=>rw[a2]at h;exact absurd h (show ¬(10:Int)=0 by omega)
 |some nm=>
 rw[a2]at h;simp only at h ⊢;by_cases a3:Av nm≠4
 . rw[if_pos a3]at h;exact absurd h (show ¬(9:Int)=0 by omega)
 rw[if_neg a3]at h ⊢
 cases a4:Ks (Ds nm)with
 |none=>rw[a4]at h;exact absurd h (show ¬(12:Int)=0 by omega)
 |some f=>
 obtain⟨k',fk,fv⟩:=f;rw[a4]at h;simp only at h ⊢;by_cases a5:(Ax A6 (At (.mk k b n t l o))).isSome≠fk\/(Ax B5 (At (.mk k b n t l o))).isSome≠fv\/(At (.mk k b n t l o)).length≠1+(if fk=true then 1 else 0)+(if fv=true then 1 else 0)
 . rw[if_pos a5]at h;exact absurd h (show ¬(10:Int)=0 by omega)
 rw[if_neg a5]at h ⊢;by_cases a6:fk=true/\Av ((Ax A6 (At (.mk k b n t l o))).getD Ll)≠4
 . rw[if_pos a6]at h;exact absurd h (show ¬(9:Int)=0 by omega)
 rw[if_neg a6];simp only[At,Val.bulk]at h1 h2 h3 ⊢;exact⟨by omega,h3⟩
abbrev Bx:List ByteArray:= [Cc,Ah,Ai,B8,A4]
abbrev Afb:=Int×Int×Int×Int×Int×List POp
abbrev Fv (e:Int):Afb:=(e,0,0,0,0, [])
def Sc (c b k s:Int) (x:Int×List POp):Afb:=
 if x.1≠0 then Fv x.1 else if Bu c b k s x.2=0 then(0,c,b,k,s,x.2)else Fv (Bu c b k s x.2)
def Ke (v:Val):Afb:=
 if By Bx 4 v≠0 then Fv (By Bx 4 v)else
 match At v with
 | [(_,b),(_,c),(_,k),(_,s),(_,x)]=>Sc (Bo (Bd c)) (Bo (Bd b)) (Bo (Bd k)) (Bo (Bd s)) (Be x)
 |_=>Fv 10
theorem Um {c b k s:Int} {l:List POp} (h:Bu c b k s l=0):(0<c/\c<=4611686018427387903/\b<=4611686018427387903/\k<=4611686018427387903/\s<=4611686018427387903)/\Bm none l=0:=by
 unfold Bu at h
 split at h
 . rename_i hc;exact⟨hc,h⟩
 . cases h
theorem Aei {c b k s:Int} {x:Int×List POp} {c' b' k' s':Int} {l:List POp} (h:Sc c b k s x=(0,c',b',k',s',l)):c=c'/\b=b'/\k=k'/\s=s'/\x=(0,l)/\Bu c' b' k' s' l=0:=by
 unfold Sc at h
 split at h
 . rename_i h1;exact absurd (congrArg Prod.fst h) h1
 . rename_i h1
   split at h
   . rename_i h2;obtain⟨x1,x2⟩:=x;simp only[Prod.mk.injEq]at h;obtain⟨_,rfl,rfl,rfl,rfl,rfl⟩:=h;exact⟨rfl,rfl,rfl,rfl,Prod.ext (by simpa using h1) rfl,h2⟩
   . rename_i h2;exact absurd (congrArg Prod.fst h) h2
theorem P9 {x:Val} {d n:Int} (hm:Ay x d=0) (hi:Ga x) (hk:Av x=3) (e:Bo (Bd x)=n) (hn:n<=4611686018427387903):x=iv n/\0<=n:=by
 have ix:=Alp hi;have px:=Aey ix.1 ix.2 (by omega);have ex:Bd x=n:=by unfold Bo at e;omega
 have hx:=An5 hm hk;rw[ex]at hx;exact⟨hx,by omega⟩
theorem Sa {v:Val} {c b k s:Int} {l:List POp} (hm:Ay v 1=0) (hi:Ga v) (h:Ke v=(0,c,b,k,s,l)):
 v=ov (Jo c b k s l)/\Bu c b k s l=0/\0<=b/\0<=k/\0<=s/\Ay (Ib l) 1=0:=by
 unfold Ke at h
 split at h
 . rename_i h1;exact absurd (congrArg Prod.fst h) h1
 rename_i h1;obtain⟨hk,hn,h3⟩:=Ov (by simpa using h1);have hv:=Amr hm hk;have hmay:=Al1 hm;have hin:=Aj7 hi;rw[hv];generalize At v=o at*
 split at h
 . rename_i a0 xb a1 xc a2 xk a3 xs a4 x;simp only[List.map_cons,List.map_nil,List.cons.injEq,and_true]at hn;obtain⟨rfl,rfl,rfl,rfl,rfl⟩:=hn;obtain⟨e1,e2,e3,e4,e5,hr⟩:=Aei h;obtain⟨⟨g0,g1,g2,g3,g4⟩,g5⟩:=Um hr;obtain⟨rb,pb⟩:=P9 (x:=xb) (hmay (Cc,xb) (by simp)) hin.1 (h3 (Cc,xb) (by simp)) e2 g2;obtain⟨rc,_⟩:=P9 (x:=xc) (hmay (Ah,xc) (by simp)) hin.2.1 (h3 (Ah,xc) (by simp)) e1 g1;obtain⟨rk,pk⟩:=P9 (x:=xk) (hmay (Ai,xk) (by simp)) hin.2.2.1 (h3 (Ai,xk) (by simp)) e3 g3;obtain⟨rs,ps⟩:=P9 (x:=xs) (hmay (B8,xs) (by simp)) hin.2.2.2.1 (h3 (B8,xs) (by simp)) e4 g4;obtain⟨hx1,hx2,_⟩:=Ad7 e5;subst rb rc rk rs;rw[hx2]at hx1 ⊢;exact⟨rfl,hr,pb,pk,ps,hx1⟩
 . exact absurd (congrArg Prod.fst h) (show ¬(10:Int)=0 by omega)
def A7 (b:List UInt8):Afb:=
 if Cm 3 b≠0 then Fv (Cm 3 b)else match Da (Cx b)with
 | .bad c _=>Fv c
 | .ok v _=>Ke v
theorem Xz {B:List UInt8} {c b k s:Int} {l:List POp} (h:A7 B=(0,c,b,k,s,l)):
 B=C1 (3::Bk (ov (Jo c b k s l)))/\Bu c b k s l=0/\0<=b/\0<=k/\0<=s/\Ay (Ib l) 1=0:=by
 unfold A7 at h
 split at h
 . rename_i h1;exact absurd (congrArg Prod.fst h) h1
 rename_i h1;have hb:=Acz (k:=3) (b:=B) (by simpa using h1)
 split at h
 . rename_i c' q he;exact absurd he (I6 (congrArg Prod.fst h))
 . rename_i v q he;obtain⟨hm,hi,_,ht⟩:=Ii he;obtain⟨hv,hr⟩:=Sa hm hi h;refine⟨?_,hr⟩;rw[<-hv,ht];exact hb
end Go.Proofs.YtackmnbpfbaemaaGreatDoor
namespace Go.Proofs.YtackmnbpfbaemaaGreatDoor
open Go Go.RowKit
def S6 (c:Value) (k:ByteArray):Value:=if k=A4 then c else .nilFunc
def Jt (k:ByteArray):Option Nat:=if k=Cc then some 1 else if k=Ah then some 0 else if k=Ai then some 2 else if k=B8 then some 3 else none
def npR (X:Nat) (k:ByteArray):Option Addr:=(Jt k).map fun i=>⟨X,i,none⟩
def I7:List (ByteArray×Val)->Array Value->Array Value
 | [],xs=>xs
 |p::r,xs=>I7 r (match Jt p.1 with|some i=>xs.setIfInBounds i (.int .u64 (Bo (Bd p.2)))|none=>xs)
theorem Qp: ∀(a:List (ByteArray×Val)) (p:ByteArray×Val) (xs:Array Value),I7 (a++ [p]) xs=match Jt p.1 with|some i=>(I7 a xs).setIfInBounds i (.int .u64 (Bo (Bd p.2)))|none=>I7 a xs
 | [],p,xs=>rfl
 |q::a,p,xs=>by
  show I7 (a++ [p]) _=_;rw[Qp a p];rfl
theorem Aka {k:ByteArray} (h:k ∉ Bx):Jt k=none:=by
 simp only[List.mem_cons,List.not_mem_nil,or_false,not_or]at h;unfold Jt;simp only[h,if_false]
theorem Aft {k:ByteArray} (h:k ∈ Bx) (hp:k≠A4): ∃i,Jt k=some i:=by
 simp only[List.mem_cons,List.not_mem_nil,or_false]at h;rcases h with rfl|rfl|rfl|rfl|rfl
 . exact⟨1,by decide+kernel⟩
 . exact⟨0,by decide+kernel⟩
 . exact⟨2,by decide+kernel⟩
 . exact⟨3,by decide+kernel⟩
 . exact absurd rfl hp
theorem Ox:Jt A4=none:=by decide+kernel
theorem Ahs:Kz Bx:=by
 unfold Kz Bx;simp only[List.pairwise_cons,List.mem_cons,List.not_mem_nil,or_false,forall_eq_or_imp,forall_eq,List.Pairwise.nil,and_true,false_implies,implies_true];decide+kernel
def Dd (v:Val) (X b:Nat) (w:World) (e:Ending) (w':World):Prop:=w.grownBy w' (some X)/\
 if By Bx 4 v≠0 then e=.returned (.int .i64 (By Bx 4 v))else ∃xb xc xk xs x,At v= [(Cc,xb),(Ah,xc),(Ai,xk),(B8,xs),(A4,x)]/\e=.returned (.int .i64 (Be x).1)/\
  ((Be x).1=0-> ∃la lc,An w' X 47 #[.int .u64 (Bo (Bd xc)),.int .u64 (Bo (Bd xb)),.int .u64 (Bo (Bd xk)),.int .u64 (Bo (Bd xs)),.slice la (Be x).2.length lc]/\Ap b w' (.row 8 (Je (Be x).2)) [.slice la (Be x).2.length lc])
theorem Dd.no {v:Val} {X b:Nat} {w w':World} {c:Int} (h:By Bx 4 v=c) (hc:c≠0) (hg:w.grownBy w' (some X)):Dd v X b w (.returned (.int .i64 c)) w':=by
 refine⟨hg, ?_⟩;rw[if_pos (by omega),h]
theorem Aj6 {v:Val} (hk:Av v=6) (h:(At v).map (·.1)≠Bx):By Bx 4 v=10:=by
 unfold By;rw[if_neg (by omega),if_pos h]
theorem T4: ∀(l:List (ByteArray×Val)) (xs:Array Value),(I7 l xs).size=xs.size
 | [],_=>rfl
 |p::r,xs=>by
  unfold I7;rw[T4 r]
  split<;>simp
theorem Q8: ∀{o:List (ByteArray×Val)},o.map (·.1)=Bx-> ∃xb xc xk xs x,o= [(Cc,xb),(Ah,xc),(Ai,xk),(B8,xs),(A4,x)]
 | [(a0,xb),(a1,xc),(a2,xk),(a3,xs),(a4,x)],h=>by
   simp only[List.map_cons,List.map_nil,List.cons.injEq,and_true]at h;obtain⟨rfl,rfl,rfl,rfl,rfl⟩:=h;exact⟨xb,xc,xk,xs,x,rfl⟩
 | [],h=>by cases h
 | [_],h=>by simp at h
 | [_,_],h=>by simp at h
 | [_,_,_],h=>by simp at h
 | [_,_,_,_],h=>by simp at h
 |_::_::_::_::_::_::_,h=>by simp at h
theorem Ahf {v:Val} (hk:Av v=6) (h:(At v).map (·.1)=Bx) {p:ByteArray×Val} (hp:p ∈ At v) (hn:p.1≠A4) (h3:Av p.2≠3):By Bx 4 v=9:=by
 unfold By;rw[if_neg (by omega),if_neg (by simpa using h),if_neg];intro ha;obtain⟨xb,xc,xk,xs,x,e⟩:=Q8 h;rw[e]at hp ha;have ha':=List.all_eq_true.1 ha p;simp only[decide_eq_true_eq]at ha';refine h3 (ha' ?_);simp only[List.mem_cons,List.not_mem_nil,or_false]at hp;rcases hp with rfl|rfl|rfl|rfl|rfl
 . simp
 . simp
 . simp
 . simp
 . exact absurd rfl hn
theorem Aj4 {v:Val} (hk:Av v=6) (h:(At v).map (·.1)=Bx) (ha: ∀p ∈ At v,Jt p.1≠none->Av p.2=3):By Bx 4 v=0:=by
 unfold By;rw[if_neg (by omega),if_neg (by simpa using h),if_pos];obtain⟨xb,xc,xk,xs,x,e⟩:=Q8 h;rw[e]at ha ⊢;refine List.all_eq_true.2 fun p hp=> ?_;have hp':p ∈ [(Cc,xb),(Ah,xc),(Ai,xk),(B8,xs)]:=hp;refine decide_eq_true (ha p (by simp only[List.mem_cons,List.not_mem_nil,or_false]at hp' ⊢;rcases hp' with h|h|h|h<;>simp[h]) ?_);simp only[List.mem_cons,List.not_mem_nil,or_false]at hp';rcases hp' with rfl|rfl|rfl|rfl
 . exact(by decide+kernel:Jt Cc≠none)
 . exact(by decide+kernel:Jt Ah≠none)
 . exact(by decide+kernel:Jt Ai≠none)
 . exact(by decide+kernel:Jt B8≠none)
theorem Ans (k:ByteArray) (i:Nat) (h:Jt k=some i):i<4:=by
 unfold Jt at h
 split at h
 . cases h;omega
 split at h
 . cases h;omega
 split at h
 . cases h;omega
 split at h
 . cases h;omega
 . cases h
theorem Ang {o:List (ByteArray×Val)} (h:o.map (·.1)=Bx) {q:Nat} {p:ByteArray×Val} (hp:o[q]? =some p):Bx[q]? =some p.1:=by
 rw[<-h,List.getElem?_map,hp];rfl
theorem Ani {k:ByteArray}: ∀{q:Nat},Bx[q]? =some k->q<4->k≠A4
 |0,h,_=>by cases h;decide
 |1,h,_=>by cases h;decide
 |2,h,_=>by cases h;decide
 |3,h,_=>by cases h;decide
 |n+4,_,h=>by omega
theorem Ade (xb xc xk xs x:Val) (a0 a1 a2 a3 a4:Value):I7 [(Cc,xb),(Ah,xc),(Ai,xk),(B8,xs),(A4,x)] #[a0,a1,a2,a3,a4]= #[.int .u64 (Bo (Bd xc)),.int .u64 (Bo (Bd xb)),.int .u64 (Bo (Bd xk)),.int .u64 (Bo (Bd xs)),a4]:=by
 have h0:Jt Cc=some 1:=by decide+kernel
 have h1:Jt Ah=some 0:=by decide+kernel
 have h2:Jt Ai=some 2:=by decide+kernel
 have h3:Jt B8=some 3:=by decide+kernel
 simp only[I7,h0,h1,h2,h3,Ox];rfl
theorem Dd.code {v:Val} {X b:Nat} {w w':World} {xb xc xk xs x:Val} (h0:By Bx 4 v=0) (h5:At v= [(Cc,xb),(Ah,xc),(Ai,xk),(B8,xs),(A4,x)]) (hg:w.grownBy w' (some X))
 (hend:(Be x).1=0-> ∃la lc,An w' X 47 #[.int .u64 (Bo (Bd xc)),.int .u64 (Bo (Bd xb)),.int .u64 (Bo (Bd xk)),.int .u64 (Bo (Bd xs)),.slice la (Be x).2.length lc]/\Ap b w' (.row 8 (Je (Be x).2)) [.slice la (Be x).2.length lc]):
 Dd v X b w (.returned (.int .i64 (Be x).1)) w':=by
 refine⟨hg, ?_⟩;rw[if_neg (by omega)];exact⟨xb,xc,xk,xs,x,h5,rfl,hend⟩
set_option maxRecDepth 100000 in
theorem Aai (k':Int) (b':Bool) (n':Int) (t':ByteArray) (l':List Val) (o':List (ByteArray×Val)) (la lc oa oc) (X b:Nat) (nV oV:Value) (Q:Nat) (a0 a1 a2 a3 a4:Value) (w:World)
 (hf:Ap b w (dV (.mk k' b' n' t' l' o')) [.int .i64 k',.bool b',.int .i64 n',.string t',.slice la l'.length lc,.slice oa o'.length oc]) (hXb:X<b) (ho:Ej o') (_hl:o'.length<=100000000)
 (hN: ∀W,w.grownBy W (some X)->Says 101 nV 4 (fun k=> .pointer (npR X k)) W) (hO: ∀W,w.grownBy W (some X)->Says 103 oV 1 (S6 (.func (.func 59) #[] #[.pointer (some ⟨Q,0,none⟩)])) W)
 (hX:An w X 47 #[a0,a1,a2,a3,a4])
 (hC: ∀x,(A4,x) ∈ o'-> ∀(W:World) (cs:List Value) (c0 c1 c2 c3 c4:Value),w.grownBy W (some X)->Ap b W (dV x) cs->An W X 47 #[c0,c1,c2,c3,c4]->
   Calls Tryz.prog 59 #[.agg cs.toArray,.pointer (some ⟨Q,0,none⟩)] W fun e W'=>e=.returned (.int .i64 (Be x).1)/\W.grownBy W' (some X)/\((Be x).1=0-> ∃la lc,An W' X 47 #[c0,c1,c2,c3,.slice la (Be x).2.length lc]/\Ap b W' (.row 8 (Je (Be x).2)) [.slice la (Be x).2.length lc])):
 Calls Tryz.prog 51 #[.agg #[.int .i64 k',.bool b',.int .i64 n',.string t',.slice la l'.length lc,.slice oa o'.length oc],nV,oV] w (Dd (.mk k' b' n' t' l' o') X b w):=by
 have hI0:FI w X 47 #[a0,a1,a2,a3,a4] w.heap.size #[.int .i64 k',.bool b',.int .i64 n',.string t',.slice la l'.length lc,.slice oa o'.length oc] (w.alloc (.cells #[.int .i64 k',.bool b',.int .i64 n',.string t',.slice la l'.length lc,.slice oa o'.length oc] 39)):=
  ⟨D8 (World.grownBy.refl _ _) _,hX.alloc _,An.new _ _ _,by have:=hX.lt;omega⟩
 have hP9:k'≠6-> ∀W,w.grownBy W (some X)->Dd (.mk k' b' n' t' l' o') X b w (.returned (.int .i64 9)) W:=fun hk W hg=>Dd.no (Uh hk) (by omega) hg;by_cases hk:k'=6;rotate_left
 . have e1:(k' != 6)=true:=by simpa using hk
   have hP:=hP9 hk _ hI0.grown;have HP:=Lib.hid hP;clear hP;clear hP9 hk hI0 hN hO hX ho hf;go_enter Tryz.func51,Tryz.ntmps51;go_wp2;go_ret;exact HP.out
 subst hk;have hSN0:=hN _ hI0.grown;have hSO0:=hO _ hI0.grown;have n0:=hSN0.len;have n1:=hSO0.len;have hP10: ∀W,o'.map (·.1)≠Bx->w.grownBy W (some X)->Dd (.mk 6 b' n' t' l' o') X b w (.returned (.int .i64 10)) W:=fun W h hg=>Dd.no (Aj6 (v:=.mk 6 b' n' t' l' o') rfl h) (by omega) hg;by_cases hln:o'.length=5;rotate_left
 . have e1:((o'.length:Int) != 5)=true:=by simp;omega
   have hP:=hP10 _ (fun e=>hln (by have:=congrArg List.length e;simpa using this)) hI0.grown;have HP:=Lib.hid hP;clear hP;clear hP9 hP10 hI0 hN hO hX ho hf hSN0 hSO0;go_enter Tryz.func51,Tryz.ntmps51;go_wp2;go_ret;exact HP.out
 rw[hln]at hf hI0 n0 n1 ⊢;have hs0: ∀p ∈ o'.take 0,p.1 ∈ Bx:=by simp
 have hgr0:=hX.lt;obtain⟨HP9,HP10,HI0,HN,HO,Hf,Hs0,HSN0,HSO0⟩:=hid9 hP9 hP10 hI0 hN hO hf hs0 hSN0 hSO0;clear hP9 hP10 hI0 hN hO hf hs0 hSN0 hSO0;clear hX;go_enter Tryz.func51,Tryz.ntmps51;go_wp2_with (fail);go_loopw [31] (fun i wr=> ∃q:Nat,i=.int .i64 q/\q<=5/\Hid (∀p ∈ o'.take q,p.1 ∈ Bx)/\Hid (FI w X 47 #[a0,a1,a2,a3,a4] w.heap.size #[.int .i64 6,.bool b',.int .i64 n',.string t',.slice la l'.length lc,.slice oa 5 oc] wr)) (fun i _=>5 - (intOf i).toNat)
 case atStart=>exact⟨0,rfl,Nat.zero_le _,Hs0,HI0⟩
 case round=>
  obtain⟨q,rfl,hq,hin,hI⟩:=hrel;clear HI0 Hs0 HSN0 HSO0;have hq0:(0:Int)<=q:=by omega
  by_cases hlt:q<5
  . obtain⟨p,hp⟩: ∃p,o'[q]? =some p:=⟨_,List.getElem?_eq_getElem (by omega)⟩;obtain⟨key,⟨pk,pb,pn,pt,pl,po⟩⟩:=p;have hfr:=Gp Hf.out hXb hI.out.grown;obtain⟨g,off,rfl,hg,pla,plc,poa,poc,hv,c0,c1,c2,c3,c4,c5,c6⟩:=Kt (Js hfr.now) hp;have hq1:(q:Int)<5:=by omega
    have htk:o'.take (q+1)=o'.take q++ [(key,.mk pk pb pn pt pl po)]:=by rw[List.take_add_one,hp];simp
    have hIa:=hI.out.alloc (.cells #[.string key,.int .i64 pk,.bool pb,.int .i64 pn,.string pt,.slice pla pl.length plc,.slice poa po.length poc] 63);have hmb:=An.new wr 63 #[.string key,.int .i64 pk,.bool pb,.int .i64 pn,.string pt,.slice pla pl.length plc,.slice poa po.length poc];have lN:=(HN.out _ hIa.grown).look key;have lO:=(HO.out _ hIa.grown).look key;have hbx:=hI.out.box;have b5:=hbx.cell 5;have b5l:=hbx.lt;obtain⟨HIa,Hmb,Hv,Hfr,Hp,Hbx,Htk⟩:=hid7 hIa hmb hv hfr hp hbx htk;clear hIa hmb hv hfr hp hbx htk;clear hI;by_cases hkm:key ∈ Bx
    . have hin':Hid (∀p ∈ o'.take (q+1),p.1 ∈ Bx):=by
       refine Lib.hid ?_;rw[Htk.out];intro p hp;rcases List.mem_append.1 hp with h|h
       . exact hin.out p h
       . obtain rfl:=List.mem_singleton.1 h;exact hkm
      by_cases hkp:key=A4
      . have e1:npR X key=none:=by unfold npR;rw[hkp,Ox];rfl
        have e2:S6 (.func (.func 59) #[] #[.pointer (some ⟨Q,0,none⟩)]) key=(.func (.func 59) #[] #[.pointer (some ⟨Q,0,none⟩)]):=by unfold S6;rw[if_pos hkp]
        simp only[e1]at lN;rw[e2]at lO;clear hkm hkp;go_wp2;rename_i K' hK';refine hK' _ _ ?_;clear hK' K';go_wp2;go_roundw
        case rel=>exact⟨q+1,by go_num,by omega,hin',HIa⟩
        case measure=>simp only[intOf];omega
      . obtain⟨i,e0⟩:=Aft hkm hkp;have e1:npR X key=some ⟨X,i,none⟩:=by unfold npR;rw[e0];rfl
        simp only[e1]at lN;clear hkm hkp;go_wp2;go_roundw
        case rel=>exact⟨q+1,by go_num,by omega,hin',HIa⟩
        case measure=>simp only[intOf];omega
    . have e1:npR X key=none:=by unfold npR;rw[Aka hkm];rfl
      have e2:S6 (.func (.func 59) #[] #[.pointer (some ⟨Q,0,none⟩)]) key=.nilFunc:=by unfold S6;rw[if_neg (fun e=>hkm (by rw[e];simp))]
      simp only[e1]at lN;rw[e2]at lO;have hP:=HP10.out _ (fun e=>hkm (by rw[<-e];exact List.mem_map.2 ⟨_,List.mem_of_getElem? Hp.out,rfl⟩)) HIa.out.grown;have HP:=Lib.hid hP;clear hP;clear hkm;go_wp2;rename_i K' hK';refine hK' _ _ ?_;clear hK' K';go_wp2;go_ret;exact HP.out
  . obtain rfl:q=5:=by omega
    have hall: ∀p ∈ o',p.1 ∈ Bx:=by
     have:=hin.out
     rwa [List.take_of_length_le (by omega)]at this
    have hmap:=(Aaq ho Ahs).1 ⟨hln,hall⟩;have hbx:=hI.out.box;have b5:=hbx.cell 5;have b5l:=hbx.lt;have hs0: ∀p ∈ o'.take 0,Jt p.1≠none->Av p.2=3:=by simp
    have hC':=hC;obtain⟨Hall,Hmap,Hs0,Hbx,HC'⟩:=hid5 hall hmap hs0 hbx hC';clear hall hmap hs0 hbx hC';clear hin hC HP10;go_upto_region 12 with(fail);go_loopw [51] (fun i wr=> ∃q:Nat,i=.int .i64 q/\q<=5/\Hid (∀p ∈ o'.take q,Jt p.1≠none->Av p.2=3)/\Hid (FI w X 47 (I7 (o'.take q) #[a0,a1,a2,a3,a4]) w.heap.size #[.int .i64 6,.bool b',.int .i64 n',.string t',.slice la l'.length lc,.slice oa 5 oc] wr)) (fun i _=>5 - (intOf i).toNat)
    case atStart=>exact⟨0,rfl,Nat.zero_le _,Hs0,hI⟩
    case round=>
     obtain⟨q,rfl,hq,hin,hI⟩:=hrel;clear Hs0;have hq0:(0:Int)<=q:=by omega
     by_cases hlt:q<5
     . obtain⟨p,hp⟩: ∃p,o'[q]? =some p:=⟨_,List.getElem?_eq_getElem (by omega)⟩;obtain⟨key,⟨pk,pb,pn,pt,pl,po⟩⟩:=p;have hfr:=Gp Hf.out hXb hI.out.grown;obtain⟨g,off,rfl,hg,pla,plc,poa,poc,hv,c0,c1,c2,c3,c4,c5,c6⟩:=Kt (Js hfr.now) hp;have hq1:(q:Int)<5:=by omega
       have htk:o'.take (q+1)=o'.take q++ [(key,.mk pk pb pn pt pl po)]:=by rw[List.take_add_one,hp];simp
       have hIa:=hI.out.alloc (.cells #[.string key,.int .i64 pk,.bool pb,.int .i64 pn,.string pt,.slice pla pl.length plc,.slice poa po.length poc] 63);have hmb:=An.new wr 63 #[.string key,.int .i64 pk,.bool pb,.int .i64 pn,.string pt,.slice pla pl.length plc,.slice poa po.length poc];have lN:=(HN.out _ hIa.grown).look key;have hkm:=Hall.out _ (List.mem_of_getElem? hp);have hmem:=List.mem_of_getElem? hp;obtain⟨HIa,Hmb,Hv,Hfr,Hp,Htk,Hmem⟩:=hid7 hIa hmb hv hfr hp htk hmem;clear hIa hmb hv hfr hp htk hmem;clear hI;by_cases hkp:key=A4
       . have e0:Jt key=none:=by rw[hkp,Ox]
         have e1:npR X key=none:=by unfold npR;rw[e0];rfl
         have hin':Hid (∀p ∈ o'.take (q+1),Jt p.1≠none->Av p.2=3):=by
          refine Lib.hid ?_;rw[Htk.out];intro p hp;rcases List.mem_append.1 hp with h|h
          . exact hin.out p h
          . obtain rfl:=List.mem_singleton.1 h;exact fun h=>absurd e0 h
         have hI':Hid (FI w X 47 (I7 (o'.take (q+1)) #[a0,a1,a2,a3,a4]) w.heap.size #[.int .i64 6,.bool b',.int .i64 n',.string t',.slice la l'.length lc,.slice (some ⟨g,off,none⟩) 5 oc] (wr.alloc (.cells #[.string key,.int .i64 pk,.bool pb,.int .i64 pn,.string pt,.slice pla pl.length plc,.slice poa po.length poc] 63))):=by
          refine Lib.hid ?_;rw[Htk.out,Qp,e0];exact HIa.out
         simp only[e1]at lN;clear hkm hkp HIa Htk;go_wp2;go_roundw
         case rel=>exact⟨q+1,by go_num,by omega,hin',hI'⟩
         case measure=>simp only[intOf];omega
       . obtain⟨i,e0⟩:=Aft hkm hkp;have e1:npR X key=some ⟨X,i,none⟩:=by unfold npR;rw[e0];rfl
         have hi4:=Ans key i e0;simp only[e1]at lN;by_cases h3:pk=3
         . subst h3;have hin':Hid (∀p ∈ o'.take (q+1),Jt p.1≠none->Av p.2=3):=by
            refine Lib.hid ?_;rw[Htk.out];intro p hp;rcases List.mem_append.1 hp with h|h
            . exact hin.out p h
            . obtain rfl:=List.mem_singleton.1 h;exact fun _=>rfl
           have hw:=U1 pn;have hIs:=HIa.out.set i (.int .u64 (Bo pn));have hI':Hid (FI w X 47 (I7 (o'.take (q+1)) #[a0,a1,a2,a3,a4]) w.heap.size #[.int .i64 6,.bool b',.int .i64 n',.string t',.slice la l'.length lc,.slice (some ⟨g,off,none⟩) 5 oc] ((wr.alloc (.cells #[.string key,.int .i64 3,.bool pb,.int .i64 pn,.string pt,.slice pla pl.length plc,.slice poa po.length poc] 63)).setCell ⟨X,i,none⟩ (.int .u64 (Bo pn)))):=by
            refine Lib.hid ?_;rw[Htk.out,Qp,e0];exact hIs
           have hsz:(I7 (o'.take q) #[a0,a1,a2,a3,a4]).size=5:=by rw[T4];rfl
           obtain⟨u,hu⟩: ∃u,(I7 (o'.take q) #[a0,a1,a2,a3,a4])[i]? =some u:=⟨_,Array.getElem?_eq_getElem (by omega)⟩;have d0:=HIa.out.blk.cell i;rw[hu]at d0;have dz:=HIa.out.blk.frozen i;have dl:=HIa.out.blk.lt;clear hkm hkp HIa Htk hIs hsz hu;go_wp2;go_roundw
           case rel=>exact⟨q+1,by go_num,by omega,hin',hI'⟩
           case measure=>simp only[intOf];omega
         . have e3:(pk != 3)=true:=by simpa using h3
           have hP:=Dd.no (b:=b) (Ahf (v:=.mk 6 b' n' t' l' o') rfl Hmap.out Hmem.out hkp h3) (by omega) HIa.out.grown;have HP:=Lib.hid hP;clear hP;clear hkm hkp h3 HIa Htk;go_wp2;go_ret;exact HP.out
     . obtain rfl:q=5:=by omega
       have hnum:By Bx 4 (.mk 6 b' n' t' l' o')=0:=Aj4 rfl Hmap.out (by
        have:=hin.out
        rwa [List.take_of_length_le (by omega)]at this)
       have hI2:=hI.out;rw[List.take_of_length_le (by omega)]at hI2;have hbx:=hI2.box;have b5:=hbx.cell 5;have b5l:=hbx.lt;have hs1:Hid ((0:Nat)<=4->FI w X 47 (I7 o' #[a0,a1,a2,a3,a4]) w.heap.size #[.int .i64 6,.bool b',.int .i64 n',.string t',.slice la l'.length lc,.slice oa 5 oc] wr):=Lib.hid fun _=>hI2;have hs2:Hid ((0:Nat)=5->Dd (.mk 6 b' n' t' l' o') X b w (.returned (.int .i64 0)) wr):=Lib.hid fun h=>by omega
       obtain⟨Hnum,Hbx⟩:=hid2 hnum hbx;clear hnum hbx;clear hin hI hI2;obtain⟨xb,xc,xk,xs,x,hfive⟩:=Q8 Hmap.out;have Hfive:=Lib.hid hfive;clear hfive;go_upto_region 21 with(fail);go_loopw [75] (fun i wr=> ∃q:Nat,i=.int .i64 q/\q<=5/\Hid (q<=4->FI w X 47 (I7 o' #[a0,a1,a2,a3,a4]) w.heap.size #[.int .i64 6,.bool b',.int .i64 n',.string t',.slice la l'.length lc,.slice oa 5 oc] wr)/\Hid (q=5->Dd (.mk 6 b' n' t' l' o') X b w (.returned (.int .i64 0)) wr)) (fun i _=>5 - (intOf i).toNat)
       case atStart=>exact⟨0,rfl,Nat.zero_le _,hs1,hs2⟩
       case round=>
        obtain⟨q,rfl,hq,h1,h2⟩:=hrel;clear hs1 hs2;have hq0:(0:Int)<=q:=by omega
        by_cases hlt:q<5
        . have hI:=h1.out (by omega);obtain⟨p,hp⟩: ∃p,o'[q]? =some p:=⟨_,List.getElem?_eq_getElem (by omega)⟩;obtain⟨key,⟨pk,pb,pn,pt,pl,po⟩⟩:=p;have hfr:=Gp Hf.out hXb hI.grown;have hka:=Ang Hmap.out hp;obtain⟨g,off,rfl,hg,pla,plc,poa,poc,hv,c0,c1,c2,c3,c4,c5,c6⟩:=Kt (Js hfr.now) hp;have hq1:(q:Int)<5:=by omega
          have hIa:=hI.alloc (.cells #[.string key,.int .i64 pk,.bool pb,.int .i64 pn,.string pt,.slice pla pl.length plc,.slice poa po.length poc] 63);have hmb:=An.new wr 63 #[.string key,.int .i64 pk,.bool pb,.int .i64 pn,.string pt,.slice pla pl.length plc,.slice poa po.length poc];have lO:=(HO.out _ hIa.grown).look key;have hmem:=List.mem_of_getElem? hp;by_cases hq4:q<4
          . have e2:S6 (.func (.func 59) #[] #[.pointer (some ⟨Q,0,none⟩)]) key=.nilFunc:=by unfold S6;rw[if_neg (Ani hka hq4)]
            rw[e2]at lO;have hs1:Hid (q+1<=4->FI w X 47 (I7 o' #[a0,a1,a2,a3,a4]) w.heap.size #[.int .i64 6,.bool b',.int .i64 n',.string t',.slice la l'.length lc,.slice (some ⟨g,off,none⟩) 5 oc] (wr.alloc (.cells #[.string key,.int .i64 pk,.bool pb,.int .i64 pn,.string pt,.slice pla pl.length plc,.slice poa po.length poc] 63))):=Lib.hid fun _=>hIa;have hs2:Hid (q+1=5->Dd (.mk 6 b' n' t' l' o') X b w (.returned (.int .i64 0)) (wr.alloc (.cells #[.string key,.int .i64 pk,.bool pb,.int .i64 pn,.string pt,.slice pla pl.length plc,.slice poa po.length poc] 63))):=Lib.hid fun h=>by omega
            obtain⟨Hmb,Hv,Hfr,Hp,Hmem,Hka⟩:=hid6 hmb hv hfr hp hmem hka;clear hmb hv hfr hp hmem hka;clear h1 h2 hI hIa e2;go_wp2;rename_i K' hK';refine hK' _ _ ?_;clear hK' K';go_wp2;go_roundw
            case rel=>
             refine⟨_,_,_,_,_,_,_,_,_,_,_,_,_,_,_,_,_,_,_,_,_,_, ?_,rfl⟩;exact⟨q+1,by go_num,by omega,hs1,hs2⟩
            case measure=>
             change 5 - (intOf (.int .i64 ((q:Int)+1))).toNat<5 - (intOf (.int .i64 (q:Int))).toNat;simp only[intOf];omega
          . obtain rfl:q=4:=by omega
            have hx4:(key,Val.mk pk pb pn pt pl po)=(A4,x):=by
             rw[Hfive.out]at hp;exact(Option.some.inj hp).symm
            obtain⟨rfl,hxv⟩:=Prod.mk.inj hx4;have e2:S6 (.func (.func 59) #[] #[.pointer (some ⟨Q,0,none⟩)]) A4=(.func (.func 59) #[] #[.pointer (some ⟨Q,0,none⟩)]):=by unfold S6;rw[if_pos rfl]
            rw[e2]at lO;have hbk:=hIa.blk;rw[Hfive.out,Ade]at hbk;have hfx:Ap b (wr.alloc (.cells #[.string A4,.int .i64 pk,.bool pb,.int .i64 pn,.string pt,.slice pla pl.length plc,.slice poa po.length poc] 63)) (dV (.mk pk pb pn pt pl po)) [.int .i64 pk,.bool pb,.int .i64 pn,.string pt,.slice pla pl.length plc,.slice poa po.length poc]:=
             (Agw (Agr hfr) hp c0 (fun j u hj=>by
               match j,hj with
               |0,hj=>cases hj;exact c1
               |1,hj=>cases hj;exact c2
               |2,hj=>cases hj;exact c3
               |3,hj=>cases hj;exact c4
               |4,hj=>cases hj;exact c5
               |5,hj=>cases hj;exact c6
               |j+6,hj=>simp at hj) rfl).later (Aa _ _)
            have hcl:=HC'.out x (by rw[<-hxv];exact hmem) _ [.int .i64 pk,.bool pb,.int .i64 pn,.string pt,.slice pla pl.length plc,.slice poa po.length poc] _ _ _ _ _ hIa.grown (by rw[<-hxv];exact hfx) hbk;have hgi:=hIa.grown;obtain⟨m0,m1,m2,m3,m4,m5,m6⟩:(wr.alloc (.cells #[.string A4,.int .i64 pk,.bool pb,.int .i64 pn,.string pt,.slice pla pl.length plc,.slice poa po.length poc] 63)).cell? ⟨wr.heap.size,0,none⟩=some (.string A4)/\(wr.alloc (.cells #[.string A4,.int .i64 pk,.bool pb,.int .i64 pn,.string pt,.slice pla pl.length plc,.slice poa po.length poc] 63)).cell? ⟨wr.heap.size,1,none⟩=some (.int .i64 pk)/\(wr.alloc (.cells #[.string A4,.int .i64 pk,.bool pb,.int .i64 pn,.string pt,.slice pla pl.length plc,.slice poa po.length poc] 63)).cell? ⟨wr.heap.size,2,none⟩=some (.bool pb)/\(wr.alloc (.cells #[.string A4,.int .i64 pk,.bool pb,.int .i64 pn,.string pt,.slice pla pl.length plc,.slice poa po.length poc] 63)).cell? ⟨wr.heap.size,3,none⟩=some (.int .i64 pn)/\(wr.alloc (.cells #[.string A4,.int .i64 pk,.bool pb,.int .i64 pn,.string pt,.slice pla pl.length plc,.slice poa po.length poc] 63)).cell? ⟨wr.heap.size,4,none⟩=some (.string pt)/\(wr.alloc (.cells #[.string A4,.int .i64 pk,.bool pb,.int .i64 pn,.string pt,.slice pla pl.length plc,.slice poa po.length poc] 63)).cell? ⟨wr.heap.size,5,none⟩=some (.slice pla pl.length plc)/\(wr.alloc (.cells #[.string A4,.int .i64 pk,.bool pb,.int .i64 pn,.string pt,.slice pla pl.length plc,.slice poa po.length poc] 63)).cell? ⟨wr.heap.size,6,none⟩=some (.slice poa po.length poc):=⟨hmb.cell 0,hmb.cell 1,hmb.cell 2,hmb.cell 3,hmb.cell 4,hmb.cell 5,hmb.cell 6⟩;obtain⟨Hmb,Hv,Hfr,Hp,Hmem,Hka,Hcl,Hgi,Hbk,Hxv⟩:=hid10 hmb hv hfr hp hmem hka hcl hgi hbk hxv;clear hmb hv hfr hp hmem hka hcl hgi hbk hxv;clear h1 h2 hI hIa e2 hx4;go_wp2;rename_i K' hK';refine hK' _ _ ?_;clear hK' K';go_wp2_with (fail);(with_reducible refine(Hcl.out).mono ?_);rintro e w4 ⟨rfl,hg4,hend⟩;have hgf:=B2 Hgi.out hg4;by_cases hc0:(Be x).1=0
            . have hP:=Dd.code (v:=.mk 6 b' n' t' l' o') Hnum.out Hfive.out hgf hend;rw[hc0]at hP;have HP:=Lib.hid hP;clear hP;rw[hc0];clear hend hgf hg4 hc0;go_wp2;go_roundw
              case rel=>
               refine⟨_,_,_,_,_,_,_,_,_,_,_,_,_,_,_,_,_,_,_,_,_,_, ?_,rfl⟩;exact⟨4+1,by go_num,by omega,Lib.hid fun h=>by omega,Lib.hid fun _=>HP.out⟩
              case measure=>
               change 5 - (intOf (.int .i64 (((4:Nat):Int)+1))).toNat<5 - (intOf (.int .i64 ((4:Nat):Int))).toNat;simp only[intOf];omega
            . have hP:=Dd.code (v:=.mk 6 b' n' t' l' o') Hnum.out Hfive.out hgf hend;have e5:((Be x).1 != 0)=true:=by simpa using hc0
              generalize (Be x).1=V at hP e5;have HP:=Lib.hid hP;clear hP;clear hend hgf hg4 hc0;go_wp2;go_ret;exact HP.out
        . obtain rfl:q=5:=by omega
          have hP:=h2.out rfl;have HP:=Lib.hid hP;clear hP;clear h1 h2;go_wp2;go_ret;exact HP.out
theorem Ajm {S:Nat->Prop} {s n c g off:Nat} {w:World} {l:List D} {q:Nat} {d:D} {u0 v1:Value} (h:Aq S w (.row s l) [.slice (some ⟨g,off,none⟩) n c]) (hi:l[q]? =some d) (hu: ∀(w:World) (B:Nat) cs,Ae w B d cs->cs[0]? =some u0) (hv:v1≠u0):
 S g/\ ∀cs:List Value,(∀j u,cs[j]? =some u->w.cell? ⟨g,off+q*s+j,none⟩=some u)->cs.length=s->Aq S w d cs:=by
 obtain⟨g',off',e,hg,cs0,h1,hl0,hc0⟩:=h.now.at_ hi
 cases e
 have hf:=hc0 0 u0 (hu _ _ _ h1);have hge:S g:=by
  refine Classical.byContradiction fun hlt=>hv ?_;obtain⟨g2,off2,e,_,cs1,h2,_,hc1⟩:=(h (w.setCell ⟨g,off+q*s+0,none⟩ v1) (by simp[World.setCell]) (fun p p1 p2=>World.cell?_setCell_far _ _ _ _ (by show g≠p.block;intro e;exact hlt (e▸p1)))).at_ hi
  cases e
  have:=hc1 0 u0 (hu _ _ _ h2);rw[World.cell?_setCell_same _ _ _ hf]at this;exact Option.some.inj this
 refine⟨hge,fun cs hcs hl w'' hs hk=> ?_⟩;obtain⟨g2,off2,e,_,cs2,h2,hl2,hc2⟩:=(h w'' hs hk).at_ hi
 cases e
 have:cs2=cs:=by
  refine List.ext_getElem? fun j=> ?_;by_cases hj:j<s
  . obtain⟨u,hu1⟩: ∃u,cs2[j]? =some u:=⟨_,List.getElem?_eq_getElem (by omega)⟩;obtain⟨u',hu2⟩: ∃u,cs[j]? =some u:=⟨_,List.getElem?_eq_getElem (by omega)⟩;have e1:=hc2 j u hu1;rw[hk _ hge hg,hcs j u' hu2]at e1;rw[hu1,hu2,Option.some.inj e1]
  . rw[List.getElem?_eq_none (by omega),List.getElem?_eq_none (by omega)]
 rw[<-this];exact h2
theorem Alo {S:Nat->Prop} {w:World} {k':Int} {b':Bool} {n':Int} {t':ByteArray} {l':List Val} {o':List (ByteArray×Val)} {x0 x1 x2 x3 x4 oa:Value} (h:Aq S w (dV (.mk k' b' n' t' l' o')) [x0,x1,x2,x3,x4,oa]):Aq S w (.row 7 (dO o')) [oa]:=fun w'' h1 h2=>Js (h w'' h1 h2)
theorem Alm {S:Nat->Prop} {w:World} {k':Int} {b':Bool} {n':Int} {t':ByteArray} {l':List Val} {o':List (ByteArray×Val)} {x0 x1 x2 x3 la x5:Value} (h:Aq S w (dV (.mk k' b' n' t' l' o')) [x0,x1,x2,x3,la,x5]):Aq S w (.row 6 (dL l')) [la]:=fun w'' h1 h2=>Aau (h w'' h1 h2)
theorem Ai2 {k':Int} {b':Bool} {n':Int} {t':ByteArray} {l':List Val} {o':List (ByteArray×Val)} (w:World) (B:Nat) (cs:List Value) (h:Ae w B (dV (.mk k' b' n' t' l' o')) cs):cs[0]? =some (.int .i64 k'):=by
 have h6:=Bv _ _ h;simp only[Ac]at h6;obtain⟨la,lc,oa,oc,rfl,_,_⟩:=h6;rfl
theorem Ajy {S:Nat->Prop} {w:World} {n c:Nat} {l:List (ByteArray×Val)} {a:Option Addr} (h:Aq S w (.row 7 (dO l)) [.slice a n c]) {q:Nat} {key:ByteArray} {k':Int} {b':Bool} {n':Int} {t':ByteArray} {l':List Val} {o':List (ByteArray×Val)} (hi:l[q]? =some (key,.mk k' b' n' t' l' o')):
 ∃g off,a=some ⟨g,off,none⟩/\g<w.heap.size/\ ∃la lc oa oc,Aq S w (dV (.mk k' b' n' t' l' o')) [.int .i64 k',.bool b',.int .i64 n',.string t',.slice la l'.length lc,.slice oa o'.length oc]/\
  w.cell? ⟨g,off+q*7,none⟩=some (.string key)/\w.cell? ⟨g,off+q*7+1,none⟩=some (.int .i64 k')/\w.cell? ⟨g,off+q*7+2,none⟩=some (.bool b')/\
  w.cell? ⟨g,off+q*7+3,none⟩=some (.int .i64 n')/\w.cell? ⟨g,off+q*7+4,none⟩=some (.string t')/\w.cell? ⟨g,off+q*7+5,none⟩=some (.slice la l'.length lc)/\w.cell? ⟨g,off+q*7+6,none⟩=some (.slice oa o'.length oc):=by
 obtain⟨g,off,rfl,hg,la,lc,oa,oc,_,c0,c1,c2,c3,c4,c5,c6⟩:=Kt h.now hi;refine⟨g,off,rfl,hg,la,lc,oa,oc, ?_,c0,c1,c2,c3,c4,c5,c6⟩;have hm:=(Ajm (v1:=.bool false) h (d:=dP (key,.mk k' b' n' t' l' o')) (by rw[Jd,List.getElem?_map,hi];rfl) Z7 (by simp)).2 [.string key,.int .i64 k',.bool b',.int .i64 n',.string t',.slice la l'.length lc,.slice oa o'.length oc] (fun j u hj=>by
  match j with
  |0=>cases hj;exact c0
  |1=>cases hj;exact c1
  |2=>cases hj;exact c2
  |3=>cases hj;exact c3
  |4=>cases hj;exact c4
  |5=>cases hj;exact c5
  |6=>cases hj;exact c6
  |j+7=>simp at hj) rfl
 exact fun w'' h1 h2=>Ai0 (hm w'' h1 h2)
theorem Alg {S:Nat->Prop} {w:World} {n c:Nat} {l:List Val} {a:Option Addr} (h:Aq S w (.row 6 (dL l)) [.slice a n c]) {q:Nat} {k':Int} {b':Bool} {n':Int} {t':ByteArray} {l':List Val} {o':List (ByteArray×Val)} (hi:l[q]? =some (.mk k' b' n' t' l' o')):
 ∃g off,a=some ⟨g,off,none⟩/\g<w.heap.size/\ ∃la lc oa oc,Aq S w (dV (.mk k' b' n' t' l' o')) [.int .i64 k',.bool b',.int .i64 n',.string t',.slice la l'.length lc,.slice oa o'.length oc]/\
  w.cell? ⟨g,off+q*6,none⟩=some (.int .i64 k')/\w.cell? ⟨g,off+q*6+1,none⟩=some (.bool b')/\
  w.cell? ⟨g,off+q*6+2,none⟩=some (.int .i64 n')/\w.cell? ⟨g,off+q*6+3,none⟩=some (.string t')/\w.cell? ⟨g,off+q*6+4,none⟩=some (.slice la l'.length lc)/\w.cell? ⟨g,off+q*6+5,none⟩=some (.slice oa o'.length oc):=by
 obtain⟨g,off,ea,hg,cs,h1,_,h3⟩:=h.now.at_ (i:=q) (d:=dV (.mk k' b' n' t' l' o')) (by rw[Gz,List.getElem?_map,hi];rfl);have h6:=Bv _ _ h1;simp only[Ac]at h6;obtain⟨la,lc,oa,oc,rfl,_,_⟩:=h6;subst ea;have c0:=h3 0 _ rfl;have c1:=h3 1 _ rfl;have c2:=h3 2 _ rfl;have c3:=h3 3 _ rfl;have c4:=h3 4 _ rfl;have c5:=h3 5 _ rfl;refine⟨g,off,rfl,hg,la,lc,oa,oc, ?_,c0,c1,c2,c3,c4,c5⟩;exact(Ajm (v1:=.bool false) h (d:=dV (.mk k' b' n' t' l' o')) (by rw[Gz,List.getElem?_map,hi];rfl) Ai2 (by simp)).2 _ (fun j u hj=>by
  match j with
  |0=>cases hj;exact c0
  |1=>cases hj;exact c1
  |2=>cases hj;exact c2
  |3=>cases hj;exact c3
  |4=>cases hj;exact c4
  |5=>cases hj;exact c5
  |j+6=>simp at hj) rfl
theorem Aq.base {S:Nat->Prop} {w0 w:World} {d:D} {cs:List Value} (h:Aq S w0 d cs) (hb:Below w0.heap.size w0 w):Aq (fun i=>S i/\i<w0.heap.size) w d cs:=fun w'' h1 h2=>
 (h w'' (Nat.le_trans hb.size h1) fun p p1 p2=>(h2 p ⟨p1,p2⟩ (Nat.lt_of_lt_of_le p2 hb.size)).trans (hb.cell p2)).more hb.size
theorem Aq.old_now {S:Nat->Prop} {w0 w:World} {d:D} {cs:List Value} (h:Aq S w0 d cs) (hb:Below w0.heap.size w0 w):Ae w w.heap.size d cs:=(h.below hb).now
theorem Ip {S:Nat->Prop} {w4:World} {k:Int} {b:Bool} {n:Int} {t:ByteArray} {l:List Val} {o:List (ByteArray×Val)} {cs:List Value} (h:Aq S w4 (dV (.mk k b n t l o)) cs): ∃la lc oa oc,cs= [.int .i64 k,.bool b,.int .i64 n,.string t,.slice la l.length lc,.slice oa o.length oc]:=by
 have h1:=Bv _ _ h.now;simp only[Ac]at h1;obtain⟨la,lc,oa,oc,e,_,_⟩:=h1;exact⟨la,lc,oa,oc,e⟩
theorem Yi (S:Nat->Prop) (w:World):Aq S w (dV Ll) [.int .i64 0,.bool false,.int .i64 0,.string ⟨#[]⟩,.slice none 0 0,.slice none 0 0]:=fun w'' _ _=>by
 show Ae w'' w.heap.size (dV (.mk 0 false 0 ⟨#[]⟩ [] [])) _;simp only[dV,Ae];exact Ag.six.2 ⟨[.slice none 0 0], [.slice none 0 0],rfl,rfl,rfl,rfl,rfl,⟨none,0,rfl,by simp[dL], [],rfl,by simp[dL]⟩,⟨none,0,rfl,by simp[dO], [],rfl,by simp[dO]⟩⟩
end Go.Proofs.YtackmnbpfbaemaaGreatDoor
namespace Go.Proofs.YtackmnbpfbaemaaGreatDoor
def Co (k:ByteArray) (o:List (ByteArray×Val)):Val:=(Ax k o).getD Ll
theorem Af4 {o:List (ByteArray×Val)} (ha:Ej o):(o.map (·.1)).map (fun x=>Co x o)=o.map (·.2):=by
 rw[List.map_map];refine List.map_congr_left fun p hp=> ?_;show Co p.1 o=p.2;unfold Co;rw[Wo (k:=p.1) (v:=p.2) ha hp];rfl
def E1 (names:List ByteArray) (o:List (ByteArray×Val)):Bool:=decide (names.length=o.length)&&names.all fun x=>(Ax x o).isSome
theorem J2 {names:List ByteArray} {o:List (ByteArray×Val)} (ha:Ej o) (hn:Kz names):E1 names o=true ↔ o.map (·.1)=names:=by
 rw[<-Qu ha hn];unfold E1;simp only[Bool.and_eq_true,decide_eq_true_eq,List.all_eq_true,Fm]
def Bz (names:List ByteArray) (m:Nat) (v:Val):Int:=
 if Av v≠6 then 9 else if E1 names (At v)=false then 10 else if(names.take m).all (fun x=>decide (Av (Co x (At v))=3))then 0 else 9
theorem Kw {names:List ByteArray} {m:Nat} {v:Val} (ha:Ej (At v)) (hn:Kz names):Bz names m v=By names m v:=by
 unfold Bz By;by_cases hk:Av v≠6
 . rw[if_pos hk,if_pos hk]
 rw[if_neg hk,if_neg hk];by_cases hj:(At v).map (·.1)=names
 . have h1:=(J2 ha hn).2 hj;rw[if_neg (show ¬E1 names (At v)=false by rw[h1];simp),if_neg (show ¬(At v).map (·.1)≠names from fun h=>h hj)];have h2:=Af4 ha;rw[hj]at h2;have e:(names.take m).all (fun x=>decide (Av (Co x (At v))=3))=((At v).take m).all (fun p=>decide (Av p.2=3)):=by
    have e1:(names.take m).all (fun x=>decide (Av (Co x (At v))=3))=((names.map fun x=>Co x (At v)).take m).all fun y=>decide (Av y=3):=by
     rw[<-List.map_take,List.all_map];rfl
    rw[e1,h2,<-List.map_take,List.all_map];rfl
   rw[e]
 . have h1:E1 names (At v)=false:=by
    cases hb:E1 names (At v)with
    |false=>rfl
    |true=>exact absurd ((J2 ha hn).1 hb) hj
   rw[if_pos h1,if_pos hj]
theorem Abk {names:List ByteArray} {m:Nat} {v:Val} (ha:Ej (At v)) (hj:(At v).map (·.1)=names):((names.take m).map fun x=>Bo (Bd (Co x (At v))))=Wy m v:=by
 have h2:=Af4 ha;rw[hj]at h2;unfold Wy;have e1:((names.take m).map fun x=>Bo (Bd (Co x (At v))))=((names.map fun x=>Co x (At v)).take m).map fun y=>Bo (Bd y):=by
  rw[<-List.map_take,List.map_map];rfl
 rw[e1,h2,<-List.map_take,List.map_map];rfl
def N1 (v:Val):Int×POp:=
 if Av v≠6 then(9,Dr)else if(Ax Cn (At v)).isSome=false then(10,Dr)else
 if Av (Co Cn (At v))≠4 then(9,Dr)else
 if Ds (Co Cn (At v))=Dt then(if(At v).length≠1 then(10,Dr)else(0,⟨3,K4,Ll⟩))else
 if Ds (Co Cn (At v))=Gt then
  (if E1 [A6,Cn,B5] (At v)=false then(10,Dr)else if Av (Co A6 (At v))≠4 then(9,Dr)else(0,⟨1,Ds (Co A6 (At v)),Co B5 (At v)⟩))else
 if Ds (Co Cn (At v))=H9 then
  (if E1 [A6,Cn] (At v)=false then(10,Dr)else if Av (Co A6 (At v))≠4 then(9,Dr)else(0,⟨2,Ds (Co A6 (At v)),Ll⟩))else
 (12,Dr)
theorem Akl {v:Val} {d:Int} (hm:Ay v d=0):N1 v=C4 v:=by
 have ha:Ej (At v):=by
  obtain⟨k,b,n,t,l,o⟩:=v;exact(Lk (Ck hm).2.2.2.2).1
 unfold N1 C4;by_cases hk:Av v≠6
 . rw[if_pos hk,if_pos hk]
 rw[if_neg hk,if_neg hk];generalize At v=o at ha
 cases hnm:Ax Cn o with
 |none=>rfl
 |some nm=>
  have hat:Co Cn o=nm:=by unfold Co;rw[hnm];rfl
  rw[hat];simp only[Option.isSome_some,Bool.true_eq_false,if_false];by_cases h4:Av nm≠4
  . rw[if_pos h4,if_pos h4]
  rw[if_neg h4,if_neg h4];by_cases hcl:Ds nm=Dt
  . rw[if_pos hcl,if_pos hcl];by_cases hl:o.length=1
    . rw[if_neg (fun h=>h hl),if_pos hl]
    . rw[if_pos hl,if_neg hl]
  rw[if_neg hcl,if_neg hcl];by_cases hp:Ds nm=Gt
  . rw[if_pos hp,if_pos hp];by_cases hj:o.map (·.1)= [A6,Cn,B5]
    . rw[if_neg (by rw[(J2 ha Am3).2 hj];simp)];obtain⟨x,z,y,rfl⟩:=Amq hj;have e1:Co A6 [(A6,x),(Cn,z),(B5,y)]=x:=by kernel_rfl
      have e2:Co B5 [(A6,x),(Cn,z),(B5,y)]=y:=by kernel_rfl
      rw[e1,e2];by_cases hx:Av x=4<;>simp[hx]
    . have h1:E1 [A6,Cn,B5] o=false:=by
       cases hb:E1 [A6,Cn,B5] o with
       |false=>rfl
       |true=>exact absurd ((J2 ha Am3).1 hb) hj
      rw[if_pos h1]
      split
      . rename_i a x b z c y;rw[if_neg];rintro⟨rfl,rfl,rfl⟩;exact hj rfl
      . rfl
  rw[if_neg hp,if_neg hp];by_cases hd:Ds nm=H9
  . rw[if_pos hd,if_pos hd];by_cases hj:o.map (·.1)= [A6,Cn]
    . rw[if_neg (by rw[(J2 ha Am2).2 hj];simp)];obtain⟨x,z,rfl⟩:=Amp hj;have e1:Co A6 [(A6,x),(Cn,z)]=x:=by kernel_rfl
      rw[e1];by_cases hx:Av x=4<;>simp[hx]
    . have h1:E1 [A6,Cn] o=false:=by
       cases hb:E1 [A6,Cn] o with
       |false=>rfl
       |true=>exact absurd ((J2 ha Am2).1 hb) hj
      rw[if_pos h1]
      split
      . rename_i a x b z;rw[if_neg];rintro⟨rfl,rfl⟩;exact hj rfl
      . rfl
  rw[if_neg hd,if_neg hd]
end Go.Proofs.YtackmnbpfbaemaaGreatDoor
namespace Go.Proofs.YtackmnbpfbaemaaGreatDoor
open Go Go.RowKit
abbrev Dv:List ByteArray:= [Ah,Ai]
def Ow (k:ByteArray):Option Nat:=if k=Ah then some 0 else if k=Ai then some 1 else none
def npQ (X:Nat) (k:ByteArray):Option Addr:=(Ow k).map fun i=>⟨X,i,none⟩
def J8:List (ByteArray×Val)->Array Value->Array Value
 | [],xs=>xs
 |p::r,xs=>J8 r (match Ow p.1 with|some i=>xs.setIfInBounds i (.int .u64 (Bo (Bd p.2)))|none=>xs)
theorem Wl: ∀(a:List (ByteArray×Val)) (p:ByteArray×Val) (xs:Array Value),J8 (a++ [p]) xs=match Ow p.1 with|some i=>(J8 a xs).setIfInBounds i (.int .u64 (Bo (Bd p.2)))|none=>J8 a xs
 | [],p,xs=>rfl
 |q::a,p,xs=>by
  show J8 (a++ [p]) _=_;rw[Wl a p];rfl
theorem T1: ∀(l:List (ByteArray×Val)) (xs:Array Value),(J8 l xs).size=xs.size
 | [],_=>rfl
 |p::r,xs=>by
  unfold J8;rw[T1 r]
  split<;>simp
theorem Aj9 {k:ByteArray} (h:k ∉ Dv):Ow k=none:=by
 simp only[List.mem_cons,List.not_mem_nil,or_false,not_or]at h;unfold Ow;simp only[h,if_false]
theorem Yp {k:ByteArray} (h:k ∈ Dv): ∃i,Ow k=some i:=by
 simp only[List.mem_cons,List.not_mem_nil,or_false]at h;rcases h with rfl|rfl
 . exact⟨0,by decide+kernel⟩
 . exact⟨1,by decide+kernel⟩
theorem Ahq:Kz Dv:=by
 unfold Kz Dv;simp only[List.pairwise_cons,List.mem_cons,List.not_mem_nil,or_false,forall_eq,List.Pairwise.nil,and_true,false_implies,implies_true];decide+kernel
def Fk (v:Val) (X:Nat) (w:World) (e:Ending) (w':World):Prop:=w.grownBy w' (some X)/\e=.returned (.int .i64 (By Dv 2 v))/\
 (By Dv 2 v=0-> ∃xc xk,At v= [(Ah,xc),(Ai,xk)]/\An w' X 24 #[.int .u64 (Bo (Bd xc)),.int .u64 (Bo (Bd xk))])
theorem Fk.no {v:Val} {X:Nat} {w w':World} {c:Int} (h:By Dv 2 v=c) (hc:c≠0) (hg:w.grownBy w' (some X)):Fk v X w (.returned (.int .i64 c)) w':=
 ⟨hg,by rw[h],fun e=>absurd (h.symm.trans e) hc⟩
theorem Ahe {v:Val} (hk:Av v=6) (h:(At v).map (·.1)≠Dv):By Dv 2 v=10:=by
 unfold By;rw[if_neg (by omega),if_pos h]
theorem Afy: ∀{o:List (ByteArray×Val)},o.map (·.1)=Dv-> ∃xc xk,o= [(Ah,xc),(Ai,xk)]
 | [(a0,xc),(a1,xk)],h=>by
   simp only[List.map_cons,List.map_nil,List.cons.injEq,and_true]at h;obtain⟨rfl,rfl⟩:=h;exact⟨xc,xk,rfl⟩
 | [],h=>by cases h
 | [_],h=>by simp at h
 |_::_::_::_,h=>by simp at h
theorem Ad1 {v:Val} (hk:Av v=6) (h:(At v).map (·.1)=Dv) {p:ByteArray×Val} (hp:p ∈ At v) (h3:Av p.2≠3):By Dv 2 v=9:=by
 unfold By;rw[if_neg (by omega),if_neg (by simpa using h),if_neg];intro ha;obtain⟨xc,xk,e⟩:=Afy h;rw[e]at hp ha;have ha':=List.all_eq_true.1 ha p;simp only[decide_eq_true_eq]at ha';exact h3 (ha' hp)
theorem Ahd {v:Val} (hk:Av v=6) (h:(At v).map (·.1)=Dv) (ha: ∀p ∈ At v,Ow p.1≠none->Av p.2=3):By Dv 2 v=0:=by
 unfold By;rw[if_neg (by omega),if_neg (by simpa using h),if_pos];refine List.all_eq_true.2 fun p hp=>decide_eq_true (ha p (List.mem_of_mem_take hp) ?_);have hm:p.1 ∈ Dv:=by rw[<-h];exact List.mem_map.2 ⟨p,List.mem_of_mem_take hp,rfl⟩
 obtain⟨i,e⟩:=Yp hm;rw[e];simp
theorem Al3 (k:ByteArray) (i:Nat) (h:Ow k=some i):i<2:=by
 unfold Ow at h
 split at h
 . cases h;omega
 split at h
 . cases h;omega
 . cases h
theorem Agp (xc xk:Val) (a0 a1:Value):J8 [(Ah,xc),(Ai,xk)] #[a0,a1]= #[.int .u64 (Bo (Bd xc)),.int .u64 (Bo (Bd xk))]:=by
 have h0:Ow Ah=some 0:=by decide+kernel
 have h1:Ow Ai=some 1:=by decide+kernel
 simp only[J8,h0,h1];rfl
set_option maxRecDepth 100000 in
theorem Aah (k':Int) (b':Bool) (n':Int) (t':ByteArray) (l':List Val) (o':List (ByteArray×Val)) (la lc oa oc) (X b:Nat) (nV oV:Value) (a0 a1:Value) (w:World)
 (hf:Ap b w (dV (.mk k' b' n' t' l' o')) [.int .i64 k',.bool b',.int .i64 n',.string t',.slice la l'.length lc,.slice oa o'.length oc]) (hXb:X<b) (ho:Ej o') (_hl:o'.length<=100000000)
 (hN: ∀W,w.grownBy W (some X)->Says 101 nV 2 (fun k=> .pointer (npQ X k)) W) (hO: ∀W,w.grownBy W (some X)->Says 103 oV 0 (fun _=> .nilFunc) W)
 (hX:An w X 24 #[a0,a1]):
 Calls Tryz.prog 51 #[.agg #[.int .i64 k',.bool b',.int .i64 n',.string t',.slice la l'.length lc,.slice oa o'.length oc],nV,oV] w (Fk (.mk k' b' n' t' l' o') X w):=by
 have hI0:FI w X 24 #[a0,a1] w.heap.size #[.int .i64 k',.bool b',.int .i64 n',.string t',.slice la l'.length lc,.slice oa o'.length oc] (w.alloc (.cells #[.int .i64 k',.bool b',.int .i64 n',.string t',.slice la l'.length lc,.slice oa o'.length oc] 39)):=
  ⟨D8 (World.grownBy.refl _ _) _,hX.alloc _,An.new _ _ _,by have:=hX.lt;omega⟩
 have hP9:k'≠6-> ∀W,w.grownBy W (some X)->Fk (.mk k' b' n' t' l' o') X w (.returned (.int .i64 9)) W:=fun hk W hg=>Fk.no (Uh hk) (by omega) hg;by_cases hk:k'=6;rotate_left
 . have e1:(k' != 6)=true:=by simpa using hk
   have hP:=hP9 hk _ hI0.grown;have HP:=Lib.hid hP;clear hP;clear hP9 hk hI0 hN hO hX ho hf;go_enter Tryz.func51,Tryz.ntmps51;go_wp2;go_ret;exact HP.out
 subst hk;have hSN0:=hN _ hI0.grown;have hSO0:=hO _ hI0.grown;have n0:=hSN0.len;have n1:=hSO0.len;have hP10: ∀W,o'.map (·.1)≠Dv->w.grownBy W (some X)->Fk (.mk 6 b' n' t' l' o') X w (.returned (.int .i64 10)) W:=fun W h hg=>Fk.no (Ahe (v:=.mk 6 b' n' t' l' o') rfl h) (by omega) hg;by_cases hln:o'.length=2;rotate_left
 . have e1:((o'.length:Int) != 2)=true:=by simp;omega
   have hP:=hP10 _ (fun e=>hln (by have:=congrArg List.length e;simpa using this)) hI0.grown;have HP:=Lib.hid hP;clear hP;clear hP9 hP10 hI0 hN hO hX ho hf hSN0 hSO0;go_enter Tryz.func51,Tryz.ntmps51;go_wp2;go_ret;exact HP.out
 rw[hln]at hf hI0 n0 n1 ⊢;have hs0: ∀p ∈ o'.take 0,p.1 ∈ Dv:=by simp
 have hgr0:=hX.lt;obtain⟨HP9,HP10,HI0,HN,HO,Hf,Hs0,HSN0,HSO0⟩:=hid9 hP9 hP10 hI0 hN hO hf hs0 hSN0 hSO0;clear hP9 hP10 hI0 hN hO hf hs0 hSN0 hSO0;clear hX;go_enter Tryz.func51,Tryz.ntmps51;go_wp2_with (fail);go_loopw [31] (fun i wr=> ∃q:Nat,i=.int .i64 q/\q<=2/\Hid (∀p ∈ o'.take q,p.1 ∈ Dv)/\Hid (FI w X 24 #[a0,a1] w.heap.size #[.int .i64 6,.bool b',.int .i64 n',.string t',.slice la l'.length lc,.slice oa 2 oc] wr)) (fun i _=>2 - (intOf i).toNat)
 case atStart=>exact⟨0,rfl,Nat.zero_le _,Hs0,HI0⟩
 case round=>
  obtain⟨q,rfl,hq,hin,hI⟩:=hrel;clear HI0 Hs0 HSN0 HSO0;have hq0:(0:Int)<=q:=by omega
  by_cases hlt:q<2
  . obtain⟨p,hp⟩: ∃p,o'[q]? =some p:=⟨_,List.getElem?_eq_getElem (by omega)⟩;obtain⟨key,⟨pk,pb,pn,pt,pl,po⟩⟩:=p;have hfr:=Gp Hf.out hXb hI.out.grown;obtain⟨g,off,rfl,hg,pla,plc,poa,poc,hv,c0,c1,c2,c3,c4,c5,c6⟩:=Kt (Js hfr.now) hp;have hq1:(q:Int)<2:=by omega
    have htk:o'.take (q+1)=o'.take q++ [(key,.mk pk pb pn pt pl po)]:=by rw[List.take_add_one,hp];simp
    have hIa:=hI.out.alloc (.cells #[.string key,.int .i64 pk,.bool pb,.int .i64 pn,.string pt,.slice pla pl.length plc,.slice poa po.length poc] 63);have hmb:=An.new wr 63 #[.string key,.int .i64 pk,.bool pb,.int .i64 pn,.string pt,.slice pla pl.length plc,.slice poa po.length poc];have lN:=(HN.out _ hIa.grown).look key;have lO:=(HO.out _ hIa.grown).look key;have hbx:=hI.out.box;have b5:=hbx.cell 5;have b5l:=hbx.lt;obtain⟨HIa,Hmb,Hv,Hfr,Hp,Hbx,Htk⟩:=hid7 hIa hmb hv hfr hp hbx htk;clear hIa hmb hv hfr hp hbx htk;clear hI;by_cases hkm:key ∈ Dv
    . have hin':Hid (∀p ∈ o'.take (q+1),p.1 ∈ Dv):=by
       refine Lib.hid ?_;rw[Htk.out];intro p hp;rcases List.mem_append.1 hp with h|h
       . exact hin.out p h
       . obtain rfl:=List.mem_singleton.1 h;exact hkm
      obtain⟨i,e0⟩:=Yp hkm;have e1:npQ X key=some ⟨X,i,none⟩:=by unfold npQ;rw[e0];rfl
      simp only[e1]at lN;clear hkm;go_wp2;go_roundw
      case rel=>exact⟨q+1,by go_num,by omega,hin',HIa⟩
      case measure=>simp only[intOf];omega
    . have e1:npQ X key=none:=by unfold npQ;rw[Aj9 hkm];rfl
      simp only[e1]at lN;have hP:=HP10.out _ (fun e=>hkm (by rw[<-e];exact List.mem_map.2 ⟨_,List.mem_of_getElem? Hp.out,rfl⟩)) HIa.out.grown;have HP:=Lib.hid hP;clear hP;clear hkm;go_wp2;rename_i K' hK';refine hK' _ _ ?_;clear hK' K';go_wp2;go_ret;exact HP.out
  . obtain rfl:q=2:=by omega
    have hall: ∀p ∈ o',p.1 ∈ Dv:=by
     have:=hin.out
     rwa [List.take_of_length_le (by omega)]at this
    have hmap:=(Aaq ho Ahq).1 ⟨hln,hall⟩;have hbx:=hI.out.box;have b5:=hbx.cell 5;have b5l:=hbx.lt;have hs0: ∀p ∈ o'.take 0,Ow p.1≠none->Av p.2=3:=by simp
    obtain⟨Hall,Hmap,Hs0,Hbx⟩:=hid4 hall hmap hs0 hbx;clear hall hmap hs0 hbx;clear hin HP10;go_upto_region 12 with(fail);go_loopw [51] (fun i wr=> ∃q:Nat,i=.int .i64 q/\q<=2/\Hid (∀p ∈ o'.take q,Ow p.1≠none->Av p.2=3)/\Hid (FI w X 24 (J8 (o'.take q) #[a0,a1]) w.heap.size #[.int .i64 6,.bool b',.int .i64 n',.string t',.slice la l'.length lc,.slice oa 2 oc] wr)) (fun i _=>2 - (intOf i).toNat)
    case atStart=>exact⟨0,rfl,Nat.zero_le _,Hs0,hI⟩
    case round=>
     obtain⟨q,rfl,hq,hin,hI⟩:=hrel;clear Hs0;have hq0:(0:Int)<=q:=by omega
     by_cases hlt:q<2
     . obtain⟨p,hp⟩: ∃p,o'[q]? =some p:=⟨_,List.getElem?_eq_getElem (by omega)⟩;obtain⟨key,⟨pk,pb,pn,pt,pl,po⟩⟩:=p;have hfr:=Gp Hf.out hXb hI.out.grown;obtain⟨g,off,rfl,hg,pla,plc,poa,poc,hv,c0,c1,c2,c3,c4,c5,c6⟩:=Kt (Js hfr.now) hp;have hq1:(q:Int)<2:=by omega
       have htk:o'.take (q+1)=o'.take q++ [(key,.mk pk pb pn pt pl po)]:=by rw[List.take_add_one,hp];simp
       have hIa:=hI.out.alloc (.cells #[.string key,.int .i64 pk,.bool pb,.int .i64 pn,.string pt,.slice pla pl.length plc,.slice poa po.length poc] 63);have hmb:=An.new wr 63 #[.string key,.int .i64 pk,.bool pb,.int .i64 pn,.string pt,.slice pla pl.length plc,.slice poa po.length poc];have lN:=(HN.out _ hIa.grown).look key;have hkm:=Hall.out _ (List.mem_of_getElem? hp);have hmem:=List.mem_of_getElem? hp;obtain⟨HIa,Hmb,Hv,Hfr,Hp,Htk,Hmem⟩:=hid7 hIa hmb hv hfr hp htk hmem;clear hIa hmb hv hfr hp htk hmem;clear hI;obtain⟨i,e0⟩:=Yp hkm;have e1:npQ X key=some ⟨X,i,none⟩:=by unfold npQ;rw[e0];rfl
       have hi4:=Al3 key i e0;simp only[e1]at lN;by_cases h3:pk=3
       . subst h3;have hin':Hid (∀p ∈ o'.take (q+1),Ow p.1≠none->Av p.2=3):=by
          refine Lib.hid ?_;rw[Htk.out];intro p hp;rcases List.mem_append.1 hp with h|h
          . exact hin.out p h
          . obtain rfl:=List.mem_singleton.1 h;exact fun _=>rfl
         have hw:=U1 pn;have hIs:=HIa.out.set i (.int .u64 (Bo pn));have hI':Hid (FI w X 24 (J8 (o'.take (q+1)) #[a0,a1]) w.heap.size #[.int .i64 6,.bool b',.int .i64 n',.string t',.slice la l'.length lc,.slice (some ⟨g,off,none⟩) 2 oc] ((wr.alloc (.cells #[.string key,.int .i64 3,.bool pb,.int .i64 pn,.string pt,.slice pla pl.length plc,.slice poa po.length poc] 63)).setCell ⟨X,i,none⟩ (.int .u64 (Bo pn)))):=by
          refine Lib.hid ?_;rw[Htk.out,Wl,e0];exact hIs
         have hsz:(J8 (o'.take q) #[a0,a1]).size=2:=by rw[T1];rfl
         obtain⟨u,hu⟩: ∃u,(J8 (o'.take q) #[a0,a1])[i]? =some u:=⟨_,Array.getElem?_eq_getElem (by omega)⟩;have d0:=HIa.out.blk.cell i;rw[hu]at d0;have dz:=HIa.out.blk.frozen i;have dl:=HIa.out.blk.lt;clear hkm HIa Htk hIs hsz hu;go_wp2;go_roundw
         case rel=>exact⟨q+1,by go_num,by omega,hin',hI'⟩
         case measure=>simp only[intOf];omega
       . have e3:(pk != 3)=true:=by simpa using h3
         have hP:=Fk.no (Ad1 (v:=.mk 6 b' n' t' l' o') rfl Hmap.out Hmem.out h3) (by omega) HIa.out.grown;have HP:=Lib.hid hP;clear hP;clear hkm h3 HIa Htk;go_wp2;go_ret;exact HP.out
     . obtain rfl:q=2:=by omega
       have hnum:By Dv 2 (.mk 6 b' n' t' l' o')=0:=Ahd rfl Hmap.out (by
        have:=hin.out
        rwa [List.take_of_length_le (by omega)]at this)
       have hI2:=hI.out;rw[List.take_of_length_le (by omega)]at hI2;have hbx:=hI2.box;have b5:=hbx.cell 5;have b5l:=hbx.lt;have hpost: ∀(W:World) six,FI w X 24 (J8 o' #[a0,a1]) w.heap.size six W->Fk (.mk 6 b' n' t' l' o') X w (.returned (.int .i64 0)) W:=fun W six h=>by
        refine⟨h.grown,by rw[hnum],fun _=> ?_⟩;obtain⟨xc,xk,e⟩:=Afy Hmap.out;have:=h.blk;rw[e,Agp]at this;exact⟨xc,xk,e,this⟩
       obtain⟨Hnum,Hbx,HI2,Hpost⟩:=hid4 hnum hbx hI2 hpost;clear hnum hbx hI2 hpost;clear hin hI;go_upto_region 21 with(fail);go_loopw [75] (fun i wr=> ∃q:Nat,i=.int .i64 q/\q<=2/\Hid (FI w X 24 (J8 o' #[a0,a1]) w.heap.size #[.int .i64 6,.bool b',.int .i64 n',.string t',.slice la l'.length lc,.slice oa 2 oc] wr)) (fun i _=>2 - (intOf i).toNat)
       case atStart=>exact⟨0,rfl,Nat.zero_le _,HI2⟩
       case round=>
        obtain⟨q,rfl,hq,hI⟩:=hrel;clear HI2;have hq0:(0:Int)<=q:=by omega
        by_cases hlt:q<2
        . obtain⟨p,hp⟩: ∃p,o'[q]? =some p:=⟨_,List.getElem?_eq_getElem (by omega)⟩;obtain⟨key,⟨pk,pb,pn,pt,pl,po⟩⟩:=p;have hfr:=Gp Hf.out hXb hI.out.grown;obtain⟨g,off,rfl,hg,pla,plc,poa,poc,hv,c0,c1,c2,c3,c4,c5,c6⟩:=Kt (Js hfr.now) hp;have hq1:(q:Int)<2:=by omega
          have hIa:=hI.out.alloc (.cells #[.string key,.int .i64 pk,.bool pb,.int .i64 pn,.string pt,.slice pla pl.length plc,.slice poa po.length poc] 63);have hmb:=An.new wr 63 #[.string key,.int .i64 pk,.bool pb,.int .i64 pn,.string pt,.slice pla pl.length plc,.slice poa po.length poc];have lO:=(HO.out _ hIa.grown).look key;obtain⟨Hmb,Hv,Hfr,Hp,HIa⟩:=hid5 hmb hv hfr hp hIa;clear hmb hv hfr hp hIa;clear hI;go_wp2;rename_i K' hK';refine hK' _ _ ?_;clear hK' K';go_wp2;go_roundw
          case rel=>
           refine⟨_,_,_,_,_,_,_,_,_,_,_,_,_,_,_,_,_,_,_,_,_,_, ?_,rfl⟩;exact⟨q+1,by go_num,by omega,HIa⟩
          case measure=>
           change 2 - (intOf (.int .i64 ((q:Int)+1))).toNat<2 - (intOf (.int .i64 (q:Int))).toNat;simp only[intOf];omega
        . obtain rfl:q=2:=by omega
          have hP:=Hpost.out _ _ hI.out;have HP:=Lib.hid hP;clear hP;clear hI;go_wp2;go_ret;exact HP.out
end Go.Proofs.YtackmnbpfbaemaaGreatDoor
