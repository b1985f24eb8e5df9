/- Parts: commonplaceref14.Of: the patch of a list, or why of none (it lies in the list's memory). Condition: a bulk of at most 3 * 10^7. -/
import Derived.Test.YtjgfchcldhmjcaaGreatDoorKPp31
set_option maxHeartbeats 20000000
set_option maxRecDepth 100000
namespace Go.Proofs.YtjgfchcldhmjcaaGreatDoor
open Go Go.RowKit
theorem Alp {S:Nat->Prop} {w:World} {k:Int} {key:ByteArray} {v:Val} {cs:List Value} (h:Ai S w (dV v) cs):Ai S w (dQ ⟨k,key,v⟩) (.int .i64 k:: .string key::cs):=fun a b c=>⟨[.int .i64 k],.string key::cs,rfl,⟨rfl,rfl⟩, [.string key],cs,rfl,⟨rfl,rfl⟩,cs, [],by simp,h a b c,rfl⟩
def Cv (v:Val) (S:Nat->Prop) (w0 w:World) (e:Ending) (w':World):Prop:=Below w.heap.size w w'/\ ∃cs:List Value,e=.returned (.tuple #[.agg cs.toArray,.int .i64 (Nm v).1])/\Ai S w0 (dQ (Nm v).2) cs
theorem Cv.no {v:Val} {S:Nat->Prop} {w0 w w':World} {c:Int} (h:Nm v=(c,Dj)) (a:Below w.heap.size w w'):Cv v S w0 w (.returned (.tuple #[.agg Jc,.int .i64 c])) w':=
 ⟨a,Jc.toList,by rw[h],by rw[h];exact Alp (Xt S w0)⟩
theorem Cv.yes {v:Val} {S:Nat->Prop} {w0 w w':World} {p:POp} {cs:List Value} (h:Nm v=(0,p)) (a:Below w.heap.size w w') (b:Ai S w0 (dQ p) cs):Cv v S w0 w (.returned (.tuple #[.agg cs.toArray,.int .i64 0])) w':=
 ⟨a,cs,by rw[h],by rw[h];exact b⟩
theorem RI.put {w wr w0:World} {S:Nat->Prop} {six:Array Value} {k:Int} {key:ByteArray} {f:Int} {e:Bool} {i:Int} {l:ByteArray} {g:List Val} {j:List (ByteArray×Val)} {a c:Option Addr} {b d:Nat} (h:RI w six wr) (m:Ai S w0 (dV (.mk f e i l g j)) [.int .i64 f,.bool e,.int .i64 i,.string l,.slice a g.length b,.slice c j.length d]):
 Ap (A4 wr (w.heap.size+1) 0 [.int .i64 k,.string key,.int .i64 f,.bool e,.int .i64 i,.string l,.slice a g.length b,.slice c j.length d]) (w.heap.size+1) 80 #[.int .i64 k,.string key,.int .i64 f,.bool e,.int .i64 i,.string l,.slice a g.length b,.slice c j.length d]/\
 Below w.heap.size w (A4 wr (w.heap.size+1) 0 [.int .i64 k,.string key,.int .i64 f,.bool e,.int .i64 i,.string l,.slice a g.length b,.slice c j.length d])/\
 Ai S w0 (dQ ⟨k,key,.mk f e i l g j⟩) [.int .i64 k,.string key,.int .i64 f,.bool e,.int .i64 i,.string l,.slice a g.length b,.slice c j.length d]:=
 ⟨(((((((h.res.set_ 0 (.int .i64 k)).set_ 1 (.string key)).set_ 2 (.int .i64 f)).set_ 3 (.bool e)).set_ 4 (.int .i64 i)).set_ 5 (.string l)).set_ 6 (.slice a g.length b)).set_ 7 (.slice c j.length d),As _ h.below (Nat.le_succ _),Alp m⟩
theorem Acz {a:ByteArray} {l:List UInt8} (h:a≠⟨l.toArray⟩):(a.toList==l)=false:=by
 rw[beq_eq_false_iff_ne];intro e;apply h;obtain⟨⟨a⟩⟩:=a;rw[ByteArray.toList_eq]at e;simp at e;rw[e]
theorem Aj6:(Tryz.prog.info? 9).map (fun i=>(i.zero,i.size,i.bytes))=some (some (.string ⟨#[]⟩),1,16):=by kernel_rfl
theorem Agl {b:Nat} {wr:World} {v:Value} {n:Nat} {names:List ByteArray} (h:wr.ownsRow b 9 1 v n (names.map Value.string)): ∃a c,v=.slice a n c/\Ag wr wr.heap.size (.row 1 (dX names)) [.slice a n c]:=by
 have f:=h;have e:n=names.length:=by have:=h.1;rw[List.length_map]at this;omega
 rcases h.2 with⟨rfl,h0⟩|⟨g,cap,cur,rfl,hbg,hg,hnc,_⟩
 . subst h0;have:names= []:=List.eq_nil_of_length_eq_zero e.symm;subst this;exact⟨none,0,rfl,none,0,rfl,by simp[dX], [],rfl,.inl rfl⟩
 . have d:=(Array.getElem?_eq_some_iff.1 hg).1;refine⟨_,cap,rfl,_,cap,by rw[Acc,e],Zm _,_,Sy _ _ _,.inr ⟨g,0,rfl,d,fun j u k=> ?_⟩⟩;have i:=f.cells (g:=g) rfl j u k
   rwa [De]at i
theorem Adq (U:Int) (b':Bool) (J:Int) (K:ByteArray) (l':List Val) (o':List (ByteArray×Val)) (la lc oa oc) (S:Nat->Prop) (w0 w:World) (hw:Below w0.heap.size w0 w)
 (h:Ai S w0 (dV (.mk U b' J K l' o')) [.int .i64 U,.bool b',.int .i64 J,.string K,.slice la l'.length lc,.slice oa o'.length oc]) (hl:o'.length<=100000000):
 Calls Tryz.prog 86 #[.agg #[.int .i64 U,.bool b',.int .i64 J,.string K,.slice la l'.length lc,.slice oa o'.length oc]] w (Cv (.mk U b' J K l' o') S w0 w):=by
 have y:RI w #[.int .i64 U,.bool b',.int .i64 J,.string K,.slice la l'.length lc,.slice oa o'.length oc] ((w.alloc (.cells #[.int .i64 U,.bool b',.int .i64 J,.string K,.slice la l'.length lc,.slice oa o'.length oc] 42)).alloc (.cells Jc 80)):=
  ⟨((Below.refl _ _).alloc (Nat.le_refl _) _).alloc (by simp) _,(Ap.new w _ _).alloc _,by simpa using Ap.new (w.alloc (.cells #[.int .i64 U,.bool b',.int .i64 J,.string K,.slice la l'.length lc,.slice oa o'.length oc] 42)) 80 Jc⟩
 obtain⟨wi,bg⟩: ∃wi,(w.alloc (.cells #[.int .i64 U,.bool b',.int .i64 J,.string K,.slice la l'.length lc,.slice oa o'.length oc] 42)).alloc (.cells Jc 80)=wi:=⟨_,rfl⟩;rw[bg]at y;obtain⟨y0,y1,y2,y3,y4,y5⟩:=At y.box;have yl:=y.box.lt;by_cases hk:U=6;rotate_left
 . have e1:(U != 6)=true:=by simpa using hk
   have b:Nm (.mk U b' J K l' o')=(9,Dj):=by
    unfold Nm;rw[if_pos (show Bo (.mk U b' J K l' o')≠6 from hk)]
   have v:=qz (fun W (t:Below w.heap.size w W)=>Cv.no (S:=S) (w0:=w0) (w:=w) (w':=W) b t);obtain⟨r0,r1,r2,r3,r4,r5,r6,r7⟩:=Fa y.res;have Z:=y.res.frozen;have A:=y.res.lt;have j:=qz y.zero;have H:=qz h;clear h;clear hk y b;go_enter Tryz.func86,Tryz.ntmps86;go_upto_region 2 with(fail);clear bg
   repeat go_step
   exact bodyPost_ret (A9 rfl rfl j.out.1) rfl (v.out _ j.out.2)
 subst hk;have B:=fun(s:ByteArray) (W:World) (t:Below w.heap.size w W)=>T4 6 b' J K l' o' la lc oa oc s S w0 W (hw.trans (t.mono hw.size)) h hl;unfold Oq at B;simp only[Td]at B;have a5:=fun(names:List ByteArray) (a:Option Addr) (c:Nat) (W:World) (t:Below w.heap.size w W) (hA:Ag W W.heap.size (.row 1 (dX names)) [.slice a names.length c]) (ca:names.length<=1000)=>Aa6 6 b' J K l' o' la lc oa oc names [] a names.length c none 0 0 S w0 W (hw.trans (t.mono hw.size)) h hA ⟨none,0,rfl,by simp[dX], [],rfl,.inl rfl⟩ hl ca (by simp);have bv: ∀names,Q1 names [] (.mk 6 b' J K l' o')=Ir names o':=fun names=>Acs rfl;simp only[bv]at a5;have b:Nm (.mk 6 b' J K l' o')=if(Av Cf o').isSome=false then(10,Dj)else
  if Bo (Gw Cf o')≠4 then(9,Dj)else
  if Ea (Gw Cf o')=Du then(if o'.length≠1 then(10,Dj)else(0,⟨3,Lf,Ls⟩))else
  if Ea (Gw Cf o')=G6 then
   (if Ir [Aw,Cf,Bu] o'=false then(10,Dj)else if Bo (Gw Aw o')≠4 then(9,Dj)else(0,⟨1,Ea (Gw Aw o'),Gw Bu o'⟩))else
  if Ea (Gw Cf o')=Ic then
   (if Ir [Aw,Cf] o'=false then(10,Dj)else if Bo (Gw Aw o')≠4 then(9,Dj)else(0,⟨2,Ea (Gw Aw o'),Ls⟩))else
  (12,Dj):=by
  unfold Nm;rw[if_neg (show ¬Bo (.mk 6 b' J K l' o')≠6 from fun h=>h rfl)];rfl
 have ac:=B Cf;have ad:=B Aw;have ae:=B Bu;change ∀W,_->Calls _ _ _ _ fun e w'=>Below _ _ _/\ ∃cs:List Value,e=.returned (.tuple #[.agg cs.toArray,.bool (Av Cf o').isSome])/\Ai S w0 (dV (Gw Cf o')) cs at ac;change ∀W,_->Calls _ _ _ _ fun e w'=>Below _ _ _/\ ∃cs:List Value,e=.returned (.tuple #[.agg cs.toArray,.bool (Av Aw o').isSome])/\Ai S w0 (dV (Gw Aw o')) cs at ad;change ∀W,_->Calls _ _ _ _ fun e w'=>Below _ _ _/\ ∃cs:List Value,e=.returned (.tuple #[.agg cs.toArray,.bool (Av Bu o').isSome])/\Ai S w0 (dV (Gw Bu o')) cs at ae;generalize (Av Cf o').isSome=P1 at ac b;generalize (Av Aw o').isSome=P2 at ad;generalize (Av Bu o').isSome=P3 at ae;obtain⟨⟨ak,ab,an,C,al,ao⟩,a6⟩: ∃x,Gw Cf o'=x:=⟨_,rfl⟩;obtain⟨⟨P,cb,cn,T,cl,co⟩,a9⟩: ∃x,Gw Aw o'=x:=⟨_,rfl⟩;obtain⟨⟨vk,vb,vn,vt,vl,vo⟩,bf⟩: ∃x,Gw Bu o'=x:=⟨_,rfl⟩;rw[a6,a9,bf]at b;simp only[a6]at ac;simp only[a9]at ad;simp only[bf]at ae;change _=if P1=false then(10,Dj)else if ak≠4 then(9,Dj)else if C=Du then(if o'.length≠1 then(10,Dj)else(0,⟨3,Lf,Ls⟩))else if C=G6 then(if Ir [Aw,Cf,Bu] o'=false then(10,Dj)else if P≠4 then(9,Dj)else(0,⟨1,T,.mk vk vb vn vt vl vo⟩))else if C=Ic then(if Ir [Aw,Cf] o'=false then(10,Dj)else if P≠4 then(9,Dj)else(0,⟨2,T,Ls⟩))else(12,Dj)at b;have b2:=qz y.below;obtain⟨H,b7,bk,b8,bh,bl,b4⟩:=hid7 h ac ad ae a5 b y;clear h ac ad ae a5 b y;clear B bv a6 a9 bf;go_enter Tryz.func86,Tryz.ntmps86;go_upto_region 1 with(fail);clear bg;go_wp2_with (fail);(with_reducible refine(b7.out _ b2.out).mono ?_);rintro e w2 ⟨bs,cs,rfl,bt⟩;obtain⟨a0,a1,a2,a3,rfl⟩:=Kk bt;have a4:=b4.out.call bs;have d:=a4.alloc (.cells #[.int .i64 ak,.bool ab,.int .i64 an,.string C,.slice a0 al.length a1,.slice a2 ao.length a3] 42);have n:=Ap.new w2 42 #[.int .i64 ak,.bool ab,.int .i64 an,.string C,.slice a0 al.length a1,.slice a2 ao.length a3];have cc:=a4.res.lt;obtain⟨Q,bw⟩: ∃Q,w2.alloc (.cells #[.int .i64 ak,.bool ab,.int .i64 an,.string C,.slice a0 al.length a1,.slice a2 ao.length a3] 42)=Q:=⟨_,rfl⟩;rw[bw]at d n;have x0:=n.cell 0;have x3:=n.cell 3;have xl:=n.lt;have b:=bl.out;clear y0 y1 y2 y3 y4 y5 yl bs bt a4 bl;obtain⟨y0,y1,y2,y3,y4,y5⟩:=At d.box;have yl:=d.box.lt;obtain⟨I,V⟩:=hid2 d n;clear d n;go_upto_region 4 with(fail);clear bw;have d:=I.out;have n:=V.out;clear I V
 cases P1 with
 |false=>
  rw[if_pos rfl]at b;have v:=qz (fun W (t:Below w.heap.size w W)=>Cv.no (S:=S) (w0:=w0) (w:=w) (w':=W) b t);obtain⟨r0,r1,r2,r3,r4,r5,r6,r7⟩:=Fa d.res;have Z:=d.res.frozen;have A:=d.res.lt;have j:=qz d.zero;clear d b n;go_upto_region 5 with(fail)
  repeat go_step
  exact bodyPost_ret (A9 rfl rfl j.out.1) rfl (v.out _ j.out.2)
 |true=>
 rw[if_neg (show ¬true=false from Bool.noConfusion)]at b;by_cases h4:ak=4;rotate_left
 . have e1:(ak != 4)=true:=by simpa using h4
   rw[if_pos h4]at b;have v:=qz (fun W (t:Below w.heap.size w W)=>Cv.no (S:=S) (w0:=w0) (w:=w) (w':=W) b t);obtain⟨r0,r1,r2,r3,r4,r5,r6,r7⟩:=Fa d.res;have Z:=d.res.frozen;have A:=d.res.lt;have j:=qz d.zero;clear d b n;go_upto_region 7 with(fail)
   repeat go_step
   exact bodyPost_ret (A9 rfl rfl j.out.1) rfl (v.out _ j.out.2)
 subst h4;rw[if_neg (show ¬(4:Int)≠4 from fun h=>h rfl)]at b;by_cases a8:C=Du
 . subst a8;rw[if_pos rfl]at b;by_cases h1:o'.length=1;rotate_left
   . have e1:((o'.length:Int) != 1)=true:=by simp only[bne_iff_ne,ne_eq];omega
     rw[if_pos h1]at b;have v:=qz (fun W (t:Below w.heap.size w W)=>Cv.no (S:=S) (w0:=w0) (w:=w) (w':=W) b t);obtain⟨r0,r1,r2,r3,r4,r5,r6,r7⟩:=Fa d.res;have Z:=d.res.frozen;have A:=d.res.lt;have j:=qz d.zero;clear d b n;go_upto_region 10 with(fail)
     repeat go_step
     exact bodyPost_ret (A9 rfl rfl j.out.1) rfl (v.out _ j.out.2)
   rw[if_neg (show ¬o'.length≠1 from fun h=>h h1)]at b;have e1:((o'.length:Int) != 1)=false:=by rw[h1];rfl
   have v:=qz (fun W (cs:List Value) (t:Below w.heap.size w W) hh=>Cv.yes (S:=S) (w0:=w0) (w:=w) (w':=W) (cs:=cs) b t hh);obtain⟨r0,r1,r2,r3,r4,r5,r6,r7⟩:=Fa d.res;have Z:=d.res.frozen;have A:=d.res.lt;have j:=qz (d.put (k:=3) (key:=⟨#[]⟩) (Xt S w0));clear d b n;go_upto_region 11 with(fail)
   repeat go_step
   exact bodyPost_ret (A9 rfl rfl j.out.1) rfl (v.out _ _ j.out.2.1 j.out.2.2)
 rw[if_neg a8]at b;have c1:=Acz (l:= [99,108,101,97,114]) a8;by_cases bd:C=G6
 . subst bd;rw[if_pos rfl]at b;have hJ:=bh.out [Aw,Cf,Bu];simp only[List.length_cons,List.length_nil]at hJ;generalize Ir [Aw,Cf,Bu] o'=PJ at hJ b;have ag:=d.below;have p:=d.alloc (.cells #[.string Aw,.string Cf] 9);have N:(Q.alloc (.cells #[.string Aw,.string Cf] 9)).ownsRow Q.heap.size 9 1 (.slice (some ⟨Q.heap.size,0,none⟩) 2 2) 2 [.string Aw,.string Cf]:=World.ownsRow_lit Q #[.string Aw,.string Cf] 2 (Nat.le_refl _) (by simp[maxLen]) rfl;have ah:=qz (p.alloc (.cells #[.string Bu] 9));have r:=qz (N.alloc (.cells #[.string Bu] 9));have be:=Ib (Ap.new (Q.alloc (.cells #[.string Aw,.string Cf] 9)) 9 #[.string Bu]);rw[World.size_alloc]at be;obtain⟨j0,bu,bz,b0,b1⟩:=info_parts Aj6;have bn:=qz ((n.alloc (.cells #[.string Aw,.string Cf] 9)).alloc (.cells #[.string Bu] 9));have au:=qz (show Q.heap.size<=((Q.alloc (.cells #[.string Aw,.string Cf] 9)).alloc (.cells #[.string Bu] 9)).heap.size from by simp;omega);obtain⟨HJ,b6,az,bm,bj,bo,bp,bq,V,I⟩:=hid10 hJ p N be bu bz b0 b1 n d;clear hJ p N be bu bz b0 b1 n d;clear ag;go_wp2_with (at_builtin;apply Shut.out);unfold Shut;refine Fc _ rfl (.tmp 40) (.tmp 41) 217 rfl Q.heap.size 9 _ _ 1 16 Tryz.underlying217 bj.out bo.out bp.out bq.out rfl (by omega) _ 2 [.string Aw,.string Cf] rfl r.out _ _ 1 1 [.string Bu] rfl bm.out (by simp[Value.oneCell']) (by simp[maxLen]) (by omega) au.out ?_;intro V6 w6 af aa br;have m:RI w #[.int .i64 6,.bool b',.int .i64 J,.string K,.slice la l'.length lc,.slice oa o'.length oc] w6:=⟨ah.out.below.grown aa (Nat.le_trans I.out.below.size au.out) (fun g e=>Nat.le_trans I.out.below.size (r.out.lt g e).1),ah.out.box.grown aa (fun e=>by have:=(r.out.lt _ e.symm).1;have:=I.out.box.lt;omega),ah.out.res.grown aa (fun e=>by have:=(r.out.lt _ e.symm).1;have:=I.out.res.lt;omega)⟩;have o:=bn.out.grown aa (fun e=>by have:=(r.out.lt _ e.symm).1;have:=V.out.lt;omega);have cd:=Agl (names:= [Aw,Cf,Bu]) af;obtain⟨aN,cN,rfl,hN⟩:=cd;obtain⟨z0,z1,z2,z3,z4,z5⟩:=At m.box;have zl:=m.box.lt;have q3:=o.cell 3;have ql:=o.lt;have av:=qz m.below;obtain⟨ax,X,HN⟩:=hid3 m o hN;clear m o hN;clear af aa br b6 ah az r bm bj bo bp bq bn au V I y0 y1 y2 y3 y4 y5 yl x0 x3 xl;go_wp2_with (fail);(with_reducible refine(HJ.out _ _ _ av.out HN.out (by omega)).mono ?_);rintro e w7 ⟨rfl,L⟩;have i:=ax.out.call L;have z:=X.out.below L X.out.lt;clear z0 z1 z2 z3 z4 z5 zl q3 ql L;obtain⟨z0,z1,z2,z3,z4,z5⟩:=At i.box;have zl:=i.box.lt;have q3:=z.cell 3;have ql:=z.lt
   cases PJ with
   |false=>
    rw[if_pos rfl]at b;have v:=qz (fun W (t:Below w.heap.size w W)=>Cv.no (S:=S) (w0:=w0) (w:=w) (w':=W) b t);obtain⟨r0,r1,r2,r3,r4,r5,r6,r7⟩:=Fa i.res;have Z:=i.res.frozen;have A:=i.res.lt;have j:=qz i.zero;clear i b z;go_upto_region 18 with(fail)
    repeat go_step
    exact bodyPost_ret (A9 rfl rfl j.out.1) rfl (v.out _ j.out.2)
   |true=>
   rw[if_neg (show ¬true=false from Bool.noConfusion)]at b;have aw:=qz i.below;obtain⟨ay,Y⟩:=hid2 i z;clear i z;go_wp2_with (fail);(with_reducible refine(bk.out _ aw.out).mono ?_);rintro e w8 ⟨M,b9,rfl,bb⟩;obtain⟨D,E,F,G,rfl⟩:=Kk bb;have f:=(ay.out.call M).alloc (.cells #[.int .i64 P,.bool cb,.int .i64 cn,.string T,.slice D cl.length E,.slice F co.length G] 42);have u:=(Y.out.below M Y.out.lt).alloc (.cells #[.int .i64 P,.bool cb,.int .i64 cn,.string T,.slice D cl.length E,.slice F co.length G] 42);have q:=Ap.new w8 42 #[.int .i64 P,.bool cb,.int .i64 cn,.string T,.slice D cl.length E,.slice F co.length G];obtain⟨w9,O⟩: ∃w9,w8.alloc (.cells #[.int .i64 P,.bool cb,.int .i64 cn,.string T,.slice D cl.length E,.slice F co.length G] 42)=w9:=⟨_,rfl⟩;rw[O]at f u q;clear z0 z1 z2 z3 z4 z5 zl q3 ql M;obtain⟨z0,z1,z2,z3,z4,z5⟩:=At f.box;have zl:=f.box.lt;have q3:=u.cell 3;have ql:=u.lt;have u0:=q.cell 0;have u3:=q.cell 3;have ul:=q.lt;by_cases h4:P=4;rotate_left
   . have e1:(P != 4)=true:=by simpa using h4
     rw[if_pos h4]at b;have v:=qz (fun W (t:Below w.heap.size w W)=>Cv.no (S:=S) (w0:=w0) (w:=w) (w':=W) b t);obtain⟨r0,r1,r2,r3,r4,r5,r6,r7⟩:=Fa f.res;have Z:=f.res.frozen;have A:=f.res.lt;have j:=qz f.zero;clear f b u q;go_upto_region 21 with(fail);clear O
     repeat go_step
     exact bodyPost_ret (A9 rfl rfl j.out.1) rfl (v.out _ j.out.2)
   subst h4;rw[if_neg (show ¬(4:Int)≠4 from fun h=>h rfl)]at b;have v:=qz (fun W (cs:List Value) (t:Below w.heap.size w W) hh=>Cv.yes (S:=S) (w0:=w0) (w:=w) (w':=W) (cs:=cs) b t hh);have b3:=qz f.below;obtain⟨b5,ce,bi⟩:=hid3 f u q;clear f u q;clear b;go_wp2_with (fail);clear O;(with_reducible refine(b8.out _ b3.out).mono ?_);rintro e wa ⟨a7,cf,rfl,bc⟩;obtain⟨am,ap,aq,ar,rfl⟩:=Kk bc;have p:=(b5.out.call a7).alloc (.cells #[.int .i64 vk,.bool vb,.int .i64 vn,.string vt,.slice am vl.length ap,.slice aq vo.length ar] 42);have ai:=(bi.out.below a7 bi.out.lt).alloc (.cells #[.int .i64 vk,.bool vb,.int .i64 vn,.string vt,.slice am vl.length ap,.slice aq vo.length ar] 42);have aj:=Ap.new wa 42 #[.int .i64 vk,.bool vb,.int .i64 vn,.string vt,.slice am vl.length ap,.slice aq vo.length ar];obtain⟨wb,bx⟩: ∃wb,wa.alloc (.cells #[.int .i64 vk,.bool vb,.int .i64 vn,.string vt,.slice am vl.length ap,.slice aq vo.length ar] 42)=wb:=⟨_,rfl⟩;rw[bx]at p ai aj;clear z0 z1 z2 z3 z4 z5 zl q3 ql u0 u3 ul a7;obtain⟨v0,v1,v2,v3,v4,v5⟩:=At aj;have cg:=aj.lt;have u3:=ai.cell 3;have ul:=ai.lt;obtain⟨r0,r1,r2,r3,r4,r5,r6,r7⟩:=Fa p.res;have Z:=p.res.frozen;have A:=p.res.lt;have j:=qz (p.put (k:=1) (key:=T) bc);clear p ai aj bc;go_upto_region 25 with(fail);clear bx
   repeat go_step
   exact bodyPost_ret (A9 rfl rfl j.out.1) rfl (v.out _ _ j.out.2.1 j.out.2.2)
 rw[if_neg bd]at b;have p1:=Acz (l:= [112,117,116]) bd;by_cases ba:C=Ic
 . subst ba;rw[if_pos rfl]at b;have hJ:=bh.out [Aw,Cf];simp only[List.length_cons,List.length_nil]at hJ;generalize Ir [Aw,Cf] o'=PJ at hJ b;have ag:=d.below;have p:=d.alloc (.cells #[.string Aw,.string Cf] 9);have o:=n.alloc (.cells #[.string Aw,.string Cf] 9);obtain⟨w6,R⟩: ∃w6,Q.alloc (.cells #[.string Aw,.string Cf] 9)=w6:=⟨_,rfl⟩;have HN:=qz (show Ag w6 w6.heap.size (.row 1 (dX [Aw,Cf])) [.slice (some ⟨Q.heap.size,0,none⟩) 2 2]from by rw[<-R];exact Amh (names:= [Aw,Cf]) (Ap.new Q 9 #[.string Aw,.string Cf]) rfl (by simp));rw[R]at p o;have m:=p;clear ag;obtain⟨z0,z1,z2,z3,z4,z5⟩:=At m.box;have zl:=m.box.lt;have q3:=o.cell 3;have ql:=o.lt;have av:=qz m.below;obtain⟨ax,X,HJ⟩:=hid3 m o hJ;clear m o hJ;clear p n d;go_wp2_with (fail);clear R y0 y1 y2 y3 y4 y5 yl x0 x3 xl;(with_reducible refine(HJ.out _ _ _ av.out HN.out (by omega)).mono ?_);rintro e w7 ⟨rfl,L⟩;have i:=ax.out.call L;have z:=X.out.below L X.out.lt;clear z0 z1 z2 z3 z4 z5 zl q3 ql L;obtain⟨z0,z1,z2,z3,z4,z5⟩:=At i.box;have zl:=i.box.lt;have q3:=z.cell 3;have ql:=z.lt
   cases PJ with
   |false=>
    rw[if_pos rfl]at b;have v:=qz (fun W (t:Below w.heap.size w W)=>Cv.no (S:=S) (w0:=w0) (w:=w) (w':=W) b t);obtain⟨r0,r1,r2,r3,r4,r5,r6,r7⟩:=Fa i.res;have Z:=i.res.frozen;have A:=i.res.lt;have j:=qz i.zero;clear i b z;go_upto_region 18 with(fail)
    repeat go_step
    exact bodyPost_ret (A9 rfl rfl j.out.1) rfl (v.out _ j.out.2)
   |true=>
   rw[if_neg (show ¬true=false from Bool.noConfusion)]at b;have aw:=qz i.below;obtain⟨ay,Y⟩:=hid2 i z;clear i z;go_wp2_with (fail);(with_reducible refine(bk.out _ aw.out).mono ?_);rintro e w8 ⟨M,b9,rfl,bb⟩;obtain⟨D,E,F,G,rfl⟩:=Kk bb;have f:=(ay.out.call M).alloc (.cells #[.int .i64 P,.bool cb,.int .i64 cn,.string T,.slice D cl.length E,.slice F co.length G] 42);have u:=(Y.out.below M Y.out.lt).alloc (.cells #[.int .i64 P,.bool cb,.int .i64 cn,.string T,.slice D cl.length E,.slice F co.length G] 42);have q:=Ap.new w8 42 #[.int .i64 P,.bool cb,.int .i64 cn,.string T,.slice D cl.length E,.slice F co.length G];obtain⟨w9,O⟩: ∃w9,w8.alloc (.cells #[.int .i64 P,.bool cb,.int .i64 cn,.string T,.slice D cl.length E,.slice F co.length G] 42)=w9:=⟨_,rfl⟩;rw[O]at f u q;clear z0 z1 z2 z3 z4 z5 zl q3 ql M;obtain⟨z0,z1,z2,z3,z4,z5⟩:=At f.box;have zl:=f.box.lt;have q3:=u.cell 3;have ql:=u.lt;have u0:=q.cell 0;have u3:=q.cell 3;have ul:=q.lt;by_cases h4:P=4;rotate_left
   . have e1:(P != 4)=true:=by simpa using h4
     rw[if_pos h4]at b;have v:=qz (fun W (t:Below w.heap.size w W)=>Cv.no (S:=S) (w0:=w0) (w:=w) (w':=W) b t);obtain⟨r0,r1,r2,r3,r4,r5,r6,r7⟩:=Fa f.res;have Z:=f.res.frozen;have A:=f.res.lt;have j:=qz f.zero;clear f b u q;go_upto_region 21 with(fail);clear O
     repeat go_step
     exact bodyPost_ret (A9 rfl rfl j.out.1) rfl (v.out _ j.out.2)
   subst h4;rw[if_neg (show ¬(4:Int)≠4 from fun h=>h rfl)]at b;have v:=qz (fun W (cs:List Value) (t:Below w.heap.size w W) hh=>Cv.yes (S:=S) (w0:=w0) (w:=w) (w':=W) (cs:=cs) b t hh);obtain⟨r0,r1,r2,r3,r4,r5,r6,r7⟩:=Fa f.res;have Z:=f.res.frozen;have A:=f.res.lt;have j:=qz (f.put (k:=2) (key:=T) (Xt S w0));clear f b u q;go_upto_region 23 with(fail);clear O
   repeat go_step
   exact bodyPost_ret (A9 rfl rfl j.out.1) rfl (v.out _ _ j.out.2.1 j.out.2.2)
 rw[if_neg ba]at b;have d1:=Acz (l:= [100,101,108]) ba;have m:=d.alloc (.cells #[.string Aw,.string Cf] 9);have o:=n.alloc (.cells #[.string Aw,.string Cf] 9);obtain⟨w6,R⟩: ∃w6,Q.alloc (.cells #[.string Aw,.string Cf] 9)=w6:=⟨_,rfl⟩;rw[R]at m o;clear n;have q3:=o.cell 3;have ql:=o.lt;have v:=qz (fun W (t:Below w.heap.size w W)=>Cv.no (S:=S) (w0:=w0) (w:=w) (w':=W) b t);obtain⟨r0,r1,r2,r3,r4,r5,r6,r7⟩:=Fa m.res;have Z:=m.res.frozen;have A:=m.res.lt;have j:=qz m.zero;clear m b d o;go_upto_region 16 with(fail);clear R
 repeat go_step
 exact bodyPost_ret (A9 rfl rfl j.out.1) rfl (v.out _ j.out.2)
theorem Aib {S:Nat->Prop} {w:World} {p:POp} {cs:List Value} (h:Ai S w (dQ p) cs): ∃q r s u e f g oc j m,cs= [.int .i64 p.k,.string p.key,.int .i64 q,.bool r,.int .i64 s,.string u,.slice e j f,.slice g m oc]:=by
 obtain⟨k,key,⟨a,b,n,t,l,o⟩⟩:=p;have c:=h.now;unfold dQ at c;simp only[Ag]at c;obtain⟨_,_,rfl,⟨rfl,_⟩,_,_,rfl,⟨rfl,_⟩,v,_,rfl,i,rfl⟩:=c;have d:=Be _ _ i;simp only[Ab]at d;obtain⟨e,f,g,oc,rfl,_,_⟩:=d;exact⟨_,_,_,_,_,_,_,_,_,_,rfl⟩
structure PatX (w:World) (S:Nat->Prop) (w0:World) (six:Array Value) (l:List Val) (q:Nat) (wr:World) (V:Value):Prop where
 ji:JI w six wr
 row:Bk (fun i=>S i/\i<w0.heap.size) (w.heap.size+1) 80 8 wr (Eo (Am (l.take q)).2) V
def J4 (v:Val) (S:Nat->Prop) (w0 w:World) (e:Ending) (w':World):Prop:=Below w.heap.size w w'/\
 if(Cx v).1≠0 then e=.returned (.tuple #[.slice none 0 0,.int .i64 (Cx v).1])else
  ∃a c,e=.returned (.tuple #[.slice a (Cx v).2.length c,.int .i64 0])/\Ai (fun i=>(S i/\i<w0.heap.size)\/w.heap.size<i) w' (.row 8 (Eo (Cx v).2)) [.slice a (Cx v).2.length c]
theorem J4.no {v:Val} {S:Nat->Prop} {w0 w w':World} {c:Int} (h:(Cx v).1=c) (b:c≠0) (a:Below w.heap.size w w'):J4 v S w0 w (.returned (.tuple #[.slice none 0 0,.int .i64 c])) w':=
 ⟨a,by rw[if_pos (by omega),h]⟩
theorem Ags (D:Int) (b':Bool) (j:Int) (m:ByteArray) (l':List Val) (o':List (ByteArray×Val)) (la lc oa oc) (S:Nat->Prop) (w0 w:World) (hT:Cj w) (hw:Below w0.heap.size w0 w)
 (h:Ai S w0 (dV (.mk D b' j m l' o')) [.int .i64 D,.bool b',.int .i64 j,.string m,.slice la l'.length lc,.slice oa o'.length oc]) (hb:(Val.mk D b' j m l' o').bulk<=30000000) (bb:I9 (.mk D b' j m l' o')):
 Calls Tryz.prog 42 #[.agg #[.int .i64 D,.bool b',.int .i64 j,.string m,.slice la l'.length lc,.slice oa o'.length oc]] w (J4 (.mk D b' j m l' o') S w0 w):=by
 obtain⟨wi,be⟩: ∃wi,w.alloc (.cells #[.int .i64 D,.bool b',.int .i64 j,.string m,.slice la l'.length lc,.slice oa o'.length oc] 42)=wi:=⟨_,rfl⟩;have O:JI w #[.int .i64 D,.bool b',.int .i64 j,.string m,.slice la l'.length lc,.slice oa o'.length oc] wi:=be▸⟨Aa _ _,Ap.new w _ _⟩;have Q:=Sl (.mk D b' j m l' o') [.int .i64 D,.bool b',.int .i64 j,.string m,.slice la l'.length lc,.slice oa o'.length oc] wi (Be _ _ (h.old_now (hw.trans (O.below.mono hw.size)))) (by omega);obtain⟨x0,x1,x2,x3,x4,x5⟩:=At O.box;have xl:=O.box.lt;obtain⟨M,hM⟩: ∃M,A0 (.mk D b' j m l' o') 1=M:=⟨_,rfl⟩;rw[hM]at Q;obtain⟨aw,bi,H,HT,bs⟩:=hid5 Q O h hT bb;clear Q O h hT bb;go_enter Tryz.func42,Tryz.ntmps42;go_upto_region 1 with(fail);clear be;go_wp2_with (fail);(with_reducible refine(aw.out).mono ?_);rintro e w1 ⟨rfl,T⟩;have B:=bi.out.call T;by_cases hm:M=0;rotate_left
 . have tM:(M != 0)=true:=by simpa using hm
   have HP:=qz (J4.no (S:=S) (w0:=w0) (v:=.mk D b' j m l' o') (show(Cx (.mk D b' j m l' o')).1=M by unfold Cx;rw[if_pos (by omega)];exact hM) hm B.below);clear hm hM;go_wp2;go_ret2;exact HP.out
 subst hm;have y0:=B.box.cell 0;have yl:=B.box.lt;by_cases hk:D=5;rotate_left
 . have e5:(D != 5)=true:=by simpa using hk
   have HP:=qz (J4.no (S:=S) (w0:=w0) (v:=.mk D b' j m l' o') (show(Cx (.mk D b' j m l' o')).1=9 by unfold Cx;rw[if_neg (by omega),if_pos (show Bo (.mk D b' j m l' o')≠5 from hk)]) (by omega) B.below);obtain⟨bo,bj⟩:=hid2 T B;clear T B;clear hk hM x0 x1 x2 x3 x4 x5 xl;go_wp2;go_ret2;exact HP.out
 subst hk;have E:=Mb hM rfl;have az:Hid (∀v ∈ l',I9 v/\A0 v 2=0):=fun v hv=>⟨O5 bs.out.2.1 hv,Kq (Fm hM).2.2.2.1 v hv⟩;obtain⟨j0,hj,bf,bg,bh⟩:=info_parts Sh;have a8:3*A5 l'<=90000000:=by simp only[Val.bulk]at hb;omega
 have ca:l'.length<=30000000:=by have:=C9 l';omega
 have a6:Hid (PatX w S w0 #[.int .i64 5,.bool b',.int .i64 j,.string m,.slice la l'.length lc,.slice oa o'.length oc] l' 0 w1 (.slice none 0 0)):=qz ⟨B,Bk.nil _ _ _ _ _⟩;have a2:Hid ((Am (l'.take 0)).1=0):=rfl;obtain⟨bo,bj,L,HM,Hj,bv,bw,bx,ax⟩:=hid9 T B E hM hj bf bg bh a8;clear T B E hM hj bf bg bh a8;clear x0 x1 x2 x3 x4 x5 xl;go_wp2_with (fail);clear y0 yl;go_loopw [5,6] (fun V i wr=> ∃q:Nat,i=.int .i64 q/\q<=l'.length/\Hid ((Am (l'.take q)).1=0)/\Hid (PatX w S w0 #[.int .i64 5,.bool b',.int .i64 j,.string m,.slice la l'.length lc,.slice oa o'.length oc] l' q wr V)) (fun _ i _=>l'.length - (intOf i).toNat)
 case atStart=>exact⟨0,rfl,Nat.zero_le _,a2,a6⟩
 case round=>
  obtain⟨q,rfl,hq,hr,F⟩:=hrel;clear a6 a2;have cb:(0:Int)<=q:=by omega
  have z4:=F.out.ji.box.cell 4;have zl:=F.out.ji.box.lt;by_cases b6:q<l'.length
  . obtain⟨x,hx⟩: ∃v,l'[q]? =some v:=⟨_,List.getElem?_eq_getElem b6⟩;have Z:=List.mem_of_getElem? hx;have b3:=Dp Z;obtain⟨i1,i2⟩:=az.out x Z;have au:=Ajz i2;have bd:l'.take (q+1)=l'.take q++ [x]:=by rw[List.take_add_one,hx];simp
    have aj:=Md (v:=x) hr.out;obtain⟨ek,eb,en,et,el,eo⟩:=x;have hz:=F.out.ji.below.size;obtain⟨g,G,rfl,hg,bz,b0,b1,b2,hv,c0,c1,c2,c3,c4,c5⟩:=Akt (Akw H.out) hx;have a:Below w0.heap.size w0 wr:=hw.trans (F.out.ji.below.mono hw.size);have b9:g<wr.heap.size:=Nat.lt_of_lt_of_le hg a.size;have c0:=(a.cell (p:=⟨g,G+q*6,none⟩) hg).trans c0;have c1:=(a.cell (p:=⟨g,G+q*6+1,none⟩) hg).trans c1;have c2:=(a.cell (p:=⟨g,G+q*6+2,none⟩) hg).trans c2;have c3:=(a.cell (p:=⟨g,G+q*6+3,none⟩) hg).trans c3;have c4:=(a.cell (p:=⟨g,G+q*6+4,none⟩) hg).trans c4;have c5:=(a.cell (p:=⟨g,G+q*6+5,none⟩) hg).trans c5;have cc:(q:Int)<(l'.length:Int):=by omega
    have hC:=Adq ek eb en et el eo bz b0 b1 b2 S w0 wr a hv (by
     have h1:=B5 eo;have h2:Af eo<=(Val.mk ek eb en et el eo).bulk:=by simp only[Val.bulk];omega
     have:=ax.out;omega)
    unfold Cv at hC;rw[au]at hC;obtain⟨HC,Hv,Hx,an,K,b7⟩:=hid6 hC hv hx bd aj au;clear hC hv hx bd aj au;clear Z b3 i1 i2;go_wp2_with (fail);(with_reducible refine(HC.out).mono ?_);rintro e w4 ⟨I,b8,rfl,Y⟩;obtain⟨z2,z3,A,z5,o,s,u,y,t,z,rfl⟩:=Aib Y;have P:=F.out.ji.call I;obtain⟨b,ae⟩: ∃p,(Ch (.mk ek eb en et el eo)).2=p:=⟨_,rfl⟩;rw[ae]at Y ⊢;by_cases hc:(Ch (.mk ek eb en et el eo)).1=0;rotate_left
    . have tC:((Ch (.mk ek eb en et el eo)).1 != 0)=true:=by simpa using hc
      have hP:=fun W (hW:Below w.heap.size w W)=>J4.no (S:=S) (w0:=w0) (v:=.mk 5 b' j m l' o') (w:=w) (w':=W) (c:=(Ch (.mk ek eb en et el eo)).1) (by
       have h1:=K.out;rw[if_pos hc,<-an.out]at h1;have h2:=Me (l:=l'.take (q+1)) (r:=l'.drop (q+1)) (by rw[h1];exact hc);rw[List.take_append_drop,h1]at h2;rw[L.out,if_pos (by rw[h2];exact hc),h2]) hc hW
      have ao:=hP _ (P.call (Aa w4 (.cells #[.int .i64 b.k,.string b.key,.int .i64 z2,.bool z3,.int .i64 A,.string z5,.slice o t s,.slice u z y] 80))).below;generalize (Ch (.mk ek eb en et el eo)).1=C at tC ao;obtain⟨bm,bk⟩:=hid2 ao P;clear ao P;clear hc Y I hP ae;go_wp2;go_ret2;exact bm.out
    rw[hc];have al:Eo (Am (l'.take q)).2++ [dQ b]=Eo (Am (l'.take (q+1))).2:=by
     rw[an.out,K.out,if_neg (by omega),<-ae];simp[Eo]
    have bc:(Am (l'.take (q+1))).1=0:=by rw[an.out,K.out,if_neg (by omega)]
    obtain⟨aV,cV,rfl⟩:=F.out.row.slice;have b5:(Eo (Am (l'.take q)).2).length<=q:=by
     have:=Mc (l'.take q);rw[E8];rw[List.length_take]at this;omega
    have a5:(Eo (Am (l'.take q)).2).length+1<=maxLen/\((Eo (Am (l'.take q)).2).length+1)*112<=140737488355328:=⟨by simp only[maxLen];omega,by omega⟩;have U:Below wr.heap.size wr ((w4.alloc (.cells #[.int .i64 b.k,.string b.key,.int .i64 z2,.bool z3,.int .i64 A,.string z5,.slice o t s,.slice u z y] 80)).alloc (.cells #[.int .i64 b.k,.string b.key,.int .i64 z2,.bool z3,.int .i64 A,.string z5,.slice o t s,.slice u z y] 80)):=(I.alloc I.size _).alloc (by have:=I.size;simp;omega) _;have am:=qz (F.out.ji.call U);have a3:=qz (F.out.row.below U);have aa:=F.out.row;have ai:w.heap.size+1<=((w4.alloc (.cells #[.int .i64 b.k,.string b.key,.int .i64 z2,.bool z3,.int .i64 A,.string z5,.slice o t s,.slice u z y] 80)).alloc (.cells #[.int .i64 b.k,.string b.key,.int .i64 z2,.bool z3,.int .i64 A,.string z5,.slice o t s,.slice u z y] 80)).heap.size:=Nat.le_trans F.out.ji.box.lt U.size;have a9:Ai (fun i=>(S i/\i<w0.heap.size)/\(Value.slice aV (Eo (Am (l'.take q)).2).length cV).ownBlock≠some i) ((w4.alloc (.cells #[.int .i64 b.k,.string b.key,.int .i64 z2,.bool z3,.int .i64 A,.string z5,.slice o t s,.slice u z y] 80)).alloc (.cells #[.int .i64 b.k,.string b.key,.int .i64 z2,.bool z3,.int .i64 A,.string z5,.slice o t s,.slice u z y] 80)) (dQ b) [.int .i64 b.k,.string b.key,.int .i64 z2,.bool z3,.int .i64 A,.string z5,.slice o t s,.slice u z y]:=
     (Y.base (a.trans (U.mono a.size))).mono fun i _ hi=>⟨hi,fun e=>by have:=(F.out.row.base i e).1;have:=hw.size;omega⟩
    have ap:=Mf (w4.alloc (.cells #[.int .i64 b.k,.string b.key,.int .i64 z2,.bool z3,.int .i64 A,.string z5,.slice o t s,.slice u z y] 80)) (.int .i64 b.k) (.string b.key) (.int .i64 z2) (.bool z3) (.int .i64 A) (.string z5) (.slice o t s) (.slice u z y);rw[World.size_alloc]at ap;obtain⟨bn,av,br,a4,bt,bk,a0,N⟩:=hid8 ap a5 a9 al bc P ai aa;clear ap a5 a9 al bc P ai aa;clear Y I U hc b5 z4 zl F ae;go_wp2_with (at_builtin;apply Shut.out);unfold Shut;refine Lq (d:=dQ b) (V:=.slice aV (Eo (Am (l'.take q)).2).length cV) rfl (.tmp 37) (.tmp 39) 50 rfl Tryz.underlying50 Hj.out bv.out bw.out bx.out rfl (by omega) rfl a3.out a0.out (Kn _) br.out rfl bn.out av.out.1 av.out.2 ?_;intro V6 w6 ab ar a7;have hN:Hid (PatX w S w0 #[.int .i64 5,.bool b',.int .i64 j,.string m,.slice (some ⟨g,G,none⟩) l'.length lc,.slice oa o'.length oc] l' (q+1) w6 V6):=by
     refine qz ⟨⟨Ab5 am.out.below ar N.out (Nat.le_succ _) am.out.below.size,Ahv am.out.box ar N.out (.inl (Nat.lt_succ_self _))⟩, ?_⟩;rw[<-a4.out];exact ab
    clear ab ar a7;go_wp2;go_roundw
    case rel=>exact⟨q+1,by go_num,by omega,bt,hN⟩
    case measure=>simp only[intOf];omega
  . obtain rfl:q=l'.length:=by omega
    have ac:=F.out.row;have a:=F.out.ji.below;have ag:=hr.out;rw[List.take_length]at ag ac;obtain⟨aV,cV,rfl⟩:=ac.slice_n (n:=(Am l').2.length) (E8 _);have ak:=ac.base;have J:=ac.closeIn;have J:Ai (fun i=>(S i/\i<w0.heap.size)\/w.heap.size<i) wr _ _:=J.mono fun i _ hi=>by
     rcases hi with hi|hi
     . exact .inl hi
     . exact .inr (ak i hi).1
    have hh:=J.now;obtain⟨b4,ba⟩:=Ji az.out ag;have ad:=No (Am l').2 aV (Am l').2.length cV wr (HT.out.below a) hh (by have:=ax.out;omega) ba;have E:=L.out;rw[if_neg (show ¬(Am l').1≠0 from fun h=>h ag)]at E;obtain⟨X,hX⟩: ∃X,A8 none (Am l').2=X:=⟨_,rfl⟩;rw[hX]at ad E;generalize (Am l').2=OPS at ad J E;obtain⟨bl,bq,ay,L⟩:=hid4 ad J a E;clear ad J a E;clear F hr ac b4 ba hX ag hh ak;go_wp2_with (fail);(with_reducible refine(bl.out).mono ?_);rintro e w9 ⟨rfl,af⟩;have ah:=ay.out.trans (af.mono ay.out.size);have aq:=bq.out.below af;by_cases R:X=0
    . subst R;have f:=L.out;rw[if_pos rfl]at f;obtain⟨a1,bp,bu⟩:=hid3 f aq ah;clear f aq ah;clear af;go_wp2;go_ret2;refine⟨bu.out, ?_⟩;rw[a1.out,if_neg (fun h=>h rfl)];exact⟨aV,cV,rfl,bp.out⟩
    . have tX:(X != 0)=true:=by simpa using R
      have f:=L.out;rw[if_neg R]at f;have HP:=qz (J4.no (S:=S) (w0:=w0) (v:=.mk 5 b' j m l' o') (c:=X) (by rw[f]) R ah);clear af R aq ah f;go_wp2;go_ret2;exact HP.out
end Go.Proofs.YtjgfchcldhmjcaaGreatDoor
