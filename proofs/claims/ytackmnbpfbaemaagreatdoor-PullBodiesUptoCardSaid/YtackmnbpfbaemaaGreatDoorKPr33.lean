/- Parts: commonplaceref18.DecodeResponse: which answer's frame bytes are, or why of none. Condition: at most 1.5 * 10^7 bytes, a value of a bulk of at most 2.4 * 10^7. -/
import Derived.Test.YtackmnbpfbaemaaGreatDoorKPr32
set_option maxHeartbeats 20000000
namespace Go.Proofs.YtackmnbpfbaemaaGreatDoor
open Go Go.RowKit
theorem Amn {S:Nat->Prop} {w:World} {k:Int} {key:ByteArray} {v:Val} {cs:List Value} (h:Aq S w (dV v) cs):Aq S w (dQ ⟨k,key,v⟩) (.int .i64 k:: .string key::cs):=fun w'' h1 h2=>⟨[.int .i64 k],.string key::cs,rfl,⟨rfl,rfl⟩, [.string key],cs,rfl,⟨rfl,rfl⟩,cs, [],by simp,h w'' h1 h2,rfl⟩
def C6 (v:Val) (S:Nat->Prop) (w0 w:World) (e:Ending) (w':World):Prop:=Below w.heap.size w w'/\ ∃cs:List Value,e=.returned (.tuple #[.agg cs.toArray,.int .i64 (N1 v).1])/\Aq S w0 (dQ (N1 v).2) cs
theorem C6.no {v:Val} {S:Nat->Prop} {w0 w w':World} {c:Int} (h:N1 v=(c,Dr)) (hb:Below w.heap.size w w'):C6 v S w0 w (.returned (.tuple #[.agg Jp,.int .i64 c])) w':=
 ⟨hb,Jp.toList,by rw[h],by rw[h];exact Amn (Yi S w0)⟩
theorem C6.yes {v:Val} {S:Nat->Prop} {w0 w w':World} {p:POp} {cs:List Value} (h:N1 v=(0,p)) (hb:Below w.heap.size w w') (hh:Aq S w0 (dQ p) cs):C6 v S w0 w (.returned (.tuple #[.agg cs.toArray,.int .i64 0])) w':=
 ⟨hb,cs,by rw[h],by rw[h];exact hh⟩
theorem RI.put {w wr w0:World} {S:Nat->Prop} {six:Array Value} {k:Int} {key:ByteArray} {xk:Int} {xb:Bool} {xn:Int} {xt:ByteArray} {xl:List Val} {xo:List (ByteArray×Val)} {xla xoa:Option Addr} {xlc xoc:Nat} (h:RI w six wr) (hh:Aq S w0 (dV (.mk xk xb xn xt xl xo)) [.int .i64 xk,.bool xb,.int .i64 xn,.string xt,.slice xla xl.length xlc,.slice xoa xo.length xoc]):
 An (A1 wr (w.heap.size+1) 0 [.int .i64 k,.string key,.int .i64 xk,.bool xb,.int .i64 xn,.string xt,.slice xla xl.length xlc,.slice xoa xo.length xoc]) (w.heap.size+1) 67 #[.int .i64 k,.string key,.int .i64 xk,.bool xb,.int .i64 xn,.string xt,.slice xla xl.length xlc,.slice xoa xo.length xoc]/\
 Below w.heap.size w (A1 wr (w.heap.size+1) 0 [.int .i64 k,.string key,.int .i64 xk,.bool xb,.int .i64 xn,.string xt,.slice xla xl.length xlc,.slice xoa xo.length xoc])/\
 Aq S w0 (dQ ⟨k,key,.mk xk xb xn xt xl xo⟩) [.int .i64 k,.string key,.int .i64 xk,.bool xb,.int .i64 xn,.string xt,.slice xla xl.length xlc,.slice xoa xo.length xoc]:=
 ⟨(((((((h.res.set_ 0 (.int .i64 k)).set_ 1 (.string key)).set_ 2 (.int .i64 xk)).set_ 3 (.bool xb)).set_ 4 (.int .i64 xn)).set_ 5 (.string xt)).set_ 6 (.slice xla xl.length xlc)).set_ 7 (.slice xoa xo.length xoc),Ak _ h.below (Nat.le_succ _),Amn hh⟩
theorem Adt {a:ByteArray} {l:List UInt8} (h:a≠⟨l.toArray⟩):(a.toList==l)=false:=by
 rw[beq_eq_false_iff_ne];intro e;apply h;obtain⟨⟨a⟩⟩:=a;rw[ByteArray.toList_eq]at e;simp at e;rw[e]
theorem Aks:(Tryz.prog.info? 9).map (fun i=>(i.zero,i.size,i.bytes))=some (some (.string ⟨#[]⟩),1,16):=by kernel_rfl
theorem Ahl {b:Nat} {wr:World} {v:Value} {n:Nat} {names:List ByteArray} (h:wr.ownsRow b 9 1 v n (names.map Value.string)): ∃a c,v=.slice a n c/\Ae wr wr.heap.size (.row 1 (dX names)) [.slice a n c]:=by
 have h':=h;have hn:n=names.length:=by have:=h.1;rw[List.length_map]at this;omega
 rcases h.2 with⟨rfl,h0⟩|⟨g,cap,cur,rfl,hbg,hg,hnc,_⟩
 . subst h0;have:names= []:=List.eq_nil_of_length_eq_zero hn.symm;subst this;exact⟨none,0,rfl,none,0,rfl,by simp[dX], [],rfl,.inl rfl⟩
 . have hgl:=(Array.getElem?_eq_some_iff.1 hg).1;refine⟨_,cap,rfl,_,cap,by rw[Ac5,hn],Z8 _,_,Tu _ _ _,.inr ⟨g,0,rfl,hgl,fun j u hu=> ?_⟩⟩;have h5:=h'.cells (g:=g) rfl j u hu
   rwa [En]at h5
set_option maxRecDepth 100000 in
theorem Ael (k':Int) (b':Bool) (n':Int) (t':ByteArray) (l':List Val) (o':List (ByteArray×Val)) (la lc oa oc) (S:Nat->Prop) (w0 w:World) (hw:Below w0.heap.size w0 w)
 (h:Aq S w0 (dV (.mk k' b' n' t' l' o')) [.int .i64 k',.bool b',.int .i64 n',.string t',.slice la l'.length lc,.slice oa o'.length oc]) (hl:o'.length<=100000000):
 Calls Tryz.prog 64 #[.agg #[.int .i64 k',.bool b',.int .i64 n',.string t',.slice la l'.length lc,.slice oa o'.length oc]] w (C6 (.mk k' b' n' t' l' o') S w0 w):=by
 have hI0:RI w #[.int .i64 k',.bool b',.int .i64 n',.string t',.slice la l'.length lc,.slice oa o'.length oc] ((w.alloc (.cells #[.int .i64 k',.bool b',.int .i64 n',.string t',.slice la l'.length lc,.slice oa o'.length oc] 39)).alloc (.cells Jp 67)):=
  ⟨((Below.refl _ _).alloc (Nat.le_refl _) _).alloc (by simp) _,(An.new w _ _).alloc _,by simpa using An.new (w.alloc (.cells #[.int .i64 k',.bool b',.int .i64 n',.string t',.slice la l'.length lc,.slice oa o'.length oc] 39)) 67 Jp⟩
 obtain⟨wi,hwi⟩: ∃wi,(w.alloc (.cells #[.int .i64 k',.bool b',.int .i64 n',.string t',.slice la l'.length lc,.slice oa o'.length oc] 39)).alloc (.cells Jp 67)=wi:=⟨_,rfl⟩;rw[hwi]at hI0;obtain⟨y0,y1,y2,y3,y4,y5⟩:=Ao hI0.box;have yl:=hI0.box.lt;by_cases hk:k'=6;rotate_left
 . have e1:(k' != 6)=true:=by simpa using hk
   have hop:N1 (.mk k' b' n' t' l' o')=(9,Dr):=by
    unfold N1;rw[if_pos (show Av (.mk k' b' n' t' l' o')≠6 from hk)]
   have HP:=Lib.hid (fun W (hW:Below w.heap.size w W)=>C6.no (S:=S) (w0:=w0) (w:=w) (w':=W) hop hW);obtain⟨r0,r1,r2,r3,r4,r5,r6,r7⟩:=E5 hI0.res;have fz:=hI0.res.frozen;have lt1:=hI0.res.lt;have HZ:=Lib.hid hI0.zero;have H:=Lib.hid h;clear h;clear hk hI0 hop;go_enter Tryz.func64,Tryz.ntmps64;go_upto_region 2 with(fail);clear hwi
   repeat go_step
   exact bodyPost_ret (Bf rfl rfl HZ.out.1) rfl (HP.out _ HZ.out.2)
 subst hk;have hHas:=fun(s:ByteArray) (W:World) (hW:Below w.heap.size w W)=>L7 6 b' n' t' l' o' la lc oa oc s S w0 W (hw.trans (hW.mono hw.size)) h hl;unfold K8 at hHas;simp only[T8]at hHas;have hJu:=fun(names:List ByteArray) (a:Option Addr) (c:Nat) (W:World) (hW:Below w.heap.size w W) (hA:Ae W W.heap.size (.row 1 (dX names)) [.slice a names.length c]) (hla:names.length<=1000)=>Sd 6 b' n' t' l' o' la lc oa oc names [] a names.length c none 0 0 S w0 W (hw.trans (hW.mono hw.size)) h hA ⟨none,0,rfl,by simp[dX], [],rfl,.inl rfl⟩ hl hla (by simp);have hjj: ∀names,Ru names [] (.mk 6 b' n' t' l' o')=E1 names o':=fun names=>T9 rfl;simp only[hjj]at hJu;have hop:N1 (.mk 6 b' n' t' l' o')=if(Ax Cn o').isSome=false then(10,Dr)else
  if Av (Co Cn o')≠4 then(9,Dr)else
  if Ds (Co Cn o')=Dt then(if o'.length≠1 then(10,Dr)else(0,⟨3,K4,Ll⟩))else
  if Ds (Co Cn o')=Gt then
   (if E1 [A6,Cn,B5] o'=false then(10,Dr)else if Av (Co A6 o')≠4 then(9,Dr)else(0,⟨1,Ds (Co A6 o'),Co B5 o'⟩))else
  if Ds (Co Cn o')=H9 then
   (if E1 [A6,Cn] o'=false then(10,Dr)else if Av (Co A6 o')≠4 then(9,Dr)else(0,⟨2,Ds (Co A6 o'),Ll⟩))else
  (12,Dr):=by
  unfold N1;rw[if_neg (show ¬Av (.mk 6 b' n' t' l' o')≠6 from fun h=>h rfl)];rfl
 have hn1:=hHas Cn;have hn2:=hHas A6;have hn3:=hHas B5;change ∀W,_->Calls _ _ _ _ fun e w'=>Below _ _ _/\ ∃cs:List Value,e=.returned (.tuple #[.agg cs.toArray,.bool (Ax Cn o').isSome])/\Aq S w0 (dV (Co Cn o')) cs at hn1;change ∀W,_->Calls _ _ _ _ fun e w'=>Below _ _ _/\ ∃cs:List Value,e=.returned (.tuple #[.agg cs.toArray,.bool (Ax A6 o').isSome])/\Aq S w0 (dV (Co A6 o')) cs at hn2;change ∀W,_->Calls _ _ _ _ fun e w'=>Below _ _ _/\ ∃cs:List Value,e=.returned (.tuple #[.agg cs.toArray,.bool (Ax B5 o').isSome])/\Aq S w0 (dV (Co B5 o')) cs at hn3;generalize (Ax Cn o').isSome=P1 at hn1 hop;generalize (Ax A6 o').isSome=P2 at hn2;generalize (Ax B5 o').isSome=P3 at hn3;obtain⟨⟨ak,ab,an,at',al,ao⟩,hav⟩: ∃x,Co Cn o'=x:=⟨_,rfl⟩;obtain⟨⟨ck,cb,cn,ct,cl,co⟩,hcv⟩: ∃x,Co A6 o'=x:=⟨_,rfl⟩;obtain⟨⟨vk,vb,vn,vt,vl,vo⟩,hvv⟩: ∃x,Co B5 o'=x:=⟨_,rfl⟩;rw[hav,hcv,hvv]at hop;simp only[hav]at hn1;simp only[hcv]at hn2;simp only[hvv]at hn3;change _=if P1=false then(10,Dr)else if ak≠4 then(9,Dr)else if at'=Dt then(if o'.length≠1 then(10,Dr)else(0,⟨3,K4,Ll⟩))else if at'=Gt then(if E1 [A6,Cn,B5] o'=false then(10,Dr)else if ck≠4 then(9,Dr)else(0,⟨1,ct,.mk vk vb vn vt vl vo⟩))else if at'=H9 then(if E1 [A6,Cn] o'=false then(10,Dr)else if ck≠4 then(9,Dr)else(0,⟨2,ct,Ll⟩))else(12,Dr)at hop;have hB0:=hI0.below;obtain⟨H,Hn1,Hn2,Hn3,HJu,Hop,HI0,HB0⟩:=hid8 h hn1 hn2 hn3 hJu hop hI0 hB0;clear h hn1 hn2 hn3 hJu hop hI0 hB0;clear hHas hjj hav hcv hvv;go_enter Tryz.func64,Tryz.ntmps64;go_upto_region 1 with(fail);clear hwi;go_wp2_with (fail);(with_reducible refine(Hn1.out _ HB0.out).mono ?_);rintro e w2 ⟨hb2,cs,rfl,hh2⟩;obtain⟨ala,alc,aoa,aoc,rfl⟩:=Ip hh2;have hI2:=HI0.out.call hb2;have hI3:=hI2.alloc (.cells #[.int .i64 ak,.bool ab,.int .i64 an,.string at',.slice ala al.length alc,.slice aoa ao.length aoc] 39);have hx3:=An.new w2 39 #[.int .i64 ak,.bool ab,.int .i64 an,.string at',.slice ala al.length alc,.slice aoa ao.length aoc];have hlow2:=hI2.res.lt;obtain⟨w3,hw3⟩: ∃w3,w2.alloc (.cells #[.int .i64 ak,.bool ab,.int .i64 an,.string at',.slice ala al.length alc,.slice aoa ao.length aoc] 39)=w3:=⟨_,rfl⟩;rw[hw3]at hI3 hx3;have x0:=hx3.cell 0;have x3:=hx3.cell 3;have xl:=hx3.lt;have hop:=Hop.out;clear y0 y1 y2 y3 y4 y5 yl hb2 hh2 hI2 Hop;obtain⟨y0,y1,y2,y3,y4,y5⟩:=Ao hI3.box;have yl:=hI3.box.lt;obtain⟨HI3,Hx3⟩:=hid2 hI3 hx3;clear hI3 hx3;go_upto_region 4 with(fail);clear hw3;have hI3:=HI3.out;have hx3:=Hx3.out;clear HI3 Hx3
 cases P1 with
 |false=>
  rw[if_pos rfl]at hop;have HP:=Lib.hid (fun W (hW:Below w.heap.size w W)=>C6.no (S:=S) (w0:=w0) (w:=w) (w':=W) hop hW);obtain⟨r0,r1,r2,r3,r4,r5,r6,r7⟩:=E5 hI3.res;have fz:=hI3.res.frozen;have lt1:=hI3.res.lt;have HZ:=Lib.hid hI3.zero;clear hI3 hop hx3;go_upto_region 5 with(fail)
  repeat go_step
  exact bodyPost_ret (Bf rfl rfl HZ.out.1) rfl (HP.out _ HZ.out.2)
 |true=>
 rw[if_neg (show ¬true=false from Bool.noConfusion)]at hop;by_cases h4:ak=4;rotate_left
 . have e1:(ak != 4)=true:=by simpa using h4
   rw[if_pos h4]at hop;have HP:=Lib.hid (fun W (hW:Below w.heap.size w W)=>C6.no (S:=S) (w0:=w0) (w:=w) (w':=W) hop hW);obtain⟨r0,r1,r2,r3,r4,r5,r6,r7⟩:=E5 hI3.res;have fz:=hI3.res.frozen;have lt1:=hI3.res.lt;have HZ:=Lib.hid hI3.zero;clear hI3 hop hx3;go_upto_region 7 with(fail)
   repeat go_step
   exact bodyPost_ret (Bf rfl rfl HZ.out.1) rfl (HP.out _ HZ.out.2)
 subst h4;rw[if_neg (show ¬(4:Int)≠4 from fun h=>h rfl)]at hop;by_cases hcl:at'=Dt
 . subst hcl;rw[if_pos rfl]at hop;by_cases h1:o'.length=1;rotate_left
   . have e1:((o'.length:Int) != 1)=true:=by simp only[bne_iff_ne,ne_eq];omega
     rw[if_pos h1]at hop;have HP:=Lib.hid (fun W (hW:Below w.heap.size w W)=>C6.no (S:=S) (w0:=w0) (w:=w) (w':=W) hop hW);obtain⟨r0,r1,r2,r3,r4,r5,r6,r7⟩:=E5 hI3.res;have fz:=hI3.res.frozen;have lt1:=hI3.res.lt;have HZ:=Lib.hid hI3.zero;clear hI3 hop hx3;go_upto_region 10 with(fail)
     repeat go_step
     exact bodyPost_ret (Bf rfl rfl HZ.out.1) rfl (HP.out _ HZ.out.2)
   rw[if_neg (show ¬o'.length≠1 from fun h=>h h1)]at hop;have e1:((o'.length:Int) != 1)=false:=by rw[h1];rfl
   have HP:=Lib.hid (fun W (cs:List Value) (hW:Below w.heap.size w W) hh=>C6.yes (S:=S) (w0:=w0) (w:=w) (w':=W) (cs:=cs) hop hW hh);obtain⟨r0,r1,r2,r3,r4,r5,r6,r7⟩:=E5 hI3.res;have fz:=hI3.res.frozen;have lt1:=hI3.res.lt;have HZ:=Lib.hid (hI3.put (k:=3) (key:=⟨#[]⟩) (Yi S w0));clear hI3 hop hx3;go_upto_region 11 with(fail)
   repeat go_step
   exact bodyPost_ret (Bf rfl rfl HZ.out.1) rfl (HP.out _ _ HZ.out.2.1 HZ.out.2.2)
 rw[if_neg hcl]at hop;have c1:=Adt (l:= [99,108,101,97,114]) hcl;by_cases hpt:at'=Gt
 . subst hpt;rw[if_pos rfl]at hop;have hJ:=HJu.out [A6,Cn,B5];simp only[List.length_cons,List.length_nil]at hJ;generalize E1 [A6,Cn,B5] o'=PJ at hJ hop;have hw3b:=hI3.below;have hIa:=hI3.alloc (.cells #[.string A6,.string Cn] 9);have hown0:(w3.alloc (.cells #[.string A6,.string Cn] 9)).ownsRow w3.heap.size 9 1 (.slice (some ⟨w3.heap.size,0,none⟩) 2 2) 2 [.string A6,.string Cn]:=World.ownsRow_lit w3 #[.string A6,.string Cn] 2 (Nat.le_refl _) (by simp[maxLen]) rfl;have hIb:=hIa.alloc (.cells #[.string B5] 9);have hown1:=hown0.alloc (.cells #[.string B5] 9);have hrd:=Ln (An.new (w3.alloc (.cells #[.string A6,.string Cn] 9)) 9 #[.string B5]);rw[World.size_alloc]at hrd;obtain⟨j0,hji,hy0,hy1,hy2⟩:=info_parts Aks;have hxb:=(hx3.alloc (.cells #[.string A6,.string Cn] 9)).alloc (.cells #[.string B5] 9);have h3s:w3.heap.size<=((w3.alloc (.cells #[.string A6,.string Cn] 9)).alloc (.cells #[.string B5] 9)).heap.size:=by simp;omega
   obtain⟨HJ,HIa,HIb,Hown0,Hown1,Hrd,Hji,Hy0,Hy1,Hy2,Hxb,H3s,Hx3,HI3⟩:=hid14 hJ hIa hIb hown0 hown1 hrd hji hy0 hy1 hy2 hxb h3s hx3 hI3;clear hJ hIa hIb hown0 hown1 hrd hji hy0 hy1 hy2 hxb h3s hx3 hI3;clear hw3b;go_wp2_with (at_builtin;apply Shut.out);unfold Shut;refine E7 _ rfl (.tmp 40) (.tmp 41) 80 rfl w3.heap.size 9 _ _ 1 16 Tryz.underlying80 Hji.out Hy0.out Hy1.out Hy2.out rfl (by omega) _ 2 [.string A6,.string Cn] rfl Hown1.out _ _ 1 1 [.string B5] rfl Hrd.out (by simp[Value.oneCell']) (by simp[maxLen]) (by omega) H3s.out ?_;intro V6 w6 hown6 hg6 hat6;have hI6:RI w #[.int .i64 6,.bool b',.int .i64 n',.string t',.slice la l'.length lc,.slice oa o'.length oc] w6:=⟨HIb.out.below.grown hg6 (Nat.le_trans HI3.out.below.size H3s.out) (fun g e=>Nat.le_trans HI3.out.below.size (Hown1.out.lt g e).1),HIb.out.box.grown hg6 (fun e=>by have:=(Hown1.out.lt _ e.symm).1;have:=HI3.out.box.lt;omega),HIb.out.res.grown hg6 (fun e=>by have:=(Hown1.out.lt _ e.symm).1;have:=HI3.out.res.lt;omega)⟩;have hx6:=Hxb.out.grown hg6 (fun e=>by have:=(Hown1.out.lt _ e.symm).1;have:=Hx3.out.lt;omega);have hnR:=Ahl (names:= [A6,Cn,B5]) hown6;obtain⟨aN,cN,rfl,hN⟩:=hnR;obtain⟨z0,z1,z2,z3,z4,z5⟩:=Ao hI6.box;have zl:=hI6.box.lt;have q3:=hx6.cell 3;have ql:=hx6.lt;have hB6:=hI6.below;obtain⟨HI6,Hx6,HN,HB6⟩:=hid4 hI6 hx6 hN hB6;clear hI6 hx6 hN hB6;clear hown6 hg6 hat6 HIa HIb Hown0 Hown1 Hrd Hji Hy0 Hy1 Hy2 Hxb H3s Hx3 HI3 y0 y1 y2 y3 y4 y5 yl x0 x3 xl;go_wp2_with (fail);(with_reducible refine(HJ.out _ _ _ HB6.out HN.out (by omega)).mono ?_);rintro e w7 ⟨rfl,hb7⟩;have hI7:=HI6.out.call hb7;have hx7:=Hx6.out.below hb7 Hx6.out.lt;clear z0 z1 z2 z3 z4 z5 zl q3 ql hb7;obtain⟨z0,z1,z2,z3,z4,z5⟩:=Ao hI7.box;have zl:=hI7.box.lt;have q3:=hx7.cell 3;have ql:=hx7.lt
   cases PJ with
   |false=>
    rw[if_pos rfl]at hop;have HP:=Lib.hid (fun W (hW:Below w.heap.size w W)=>C6.no (S:=S) (w0:=w0) (w:=w) (w':=W) hop hW);obtain⟨r0,r1,r2,r3,r4,r5,r6,r7⟩:=E5 hI7.res;have fz:=hI7.res.frozen;have lt1:=hI7.res.lt;have HZ:=Lib.hid hI7.zero;clear hI7 hop hx7;go_upto_region 18 with(fail)
    repeat go_step
    exact bodyPost_ret (Bf rfl rfl HZ.out.1) rfl (HP.out _ HZ.out.2)
   |true=>
   rw[if_neg (show ¬true=false from Bool.noConfusion)]at hop;have hB7:=hI7.below;obtain⟨HI7,Hx7,HB7⟩:=hid3 hI7 hx7 hB7;clear hI7 hx7 hB7;go_wp2_with (fail);(with_reducible refine(Hn2.out _ HB7.out).mono ?_);rintro e w8 ⟨hb8,cs8,rfl,hh8⟩;obtain⟨cla,clc,coa,coc,rfl⟩:=Ip hh8;have hI8:=(HI7.out.call hb8).alloc (.cells #[.int .i64 ck,.bool cb,.int .i64 cn,.string ct,.slice cla cl.length clc,.slice coa co.length coc] 39);have hx8:=(Hx7.out.below hb8 Hx7.out.lt).alloc (.cells #[.int .i64 ck,.bool cb,.int .i64 cn,.string ct,.slice cla cl.length clc,.slice coa co.length coc] 39);have hc8:=An.new w8 39 #[.int .i64 ck,.bool cb,.int .i64 cn,.string ct,.slice cla cl.length clc,.slice coa co.length coc];obtain⟨w9,hw9⟩: ∃w9,w8.alloc (.cells #[.int .i64 ck,.bool cb,.int .i64 cn,.string ct,.slice cla cl.length clc,.slice coa co.length coc] 39)=w9:=⟨_,rfl⟩;rw[hw9]at hI8 hx8 hc8;clear z0 z1 z2 z3 z4 z5 zl q3 ql hb8;obtain⟨z0,z1,z2,z3,z4,z5⟩:=Ao hI8.box;have zl:=hI8.box.lt;have q3:=hx8.cell 3;have ql:=hx8.lt;have u0:=hc8.cell 0;have u3:=hc8.cell 3;have ul:=hc8.lt;by_cases h4:ck=4;rotate_left
   . have e1:(ck != 4)=true:=by simpa using h4
     rw[if_pos h4]at hop;have HP:=Lib.hid (fun W (hW:Below w.heap.size w W)=>C6.no (S:=S) (w0:=w0) (w:=w) (w':=W) hop hW);obtain⟨r0,r1,r2,r3,r4,r5,r6,r7⟩:=E5 hI8.res;have fz:=hI8.res.frozen;have lt1:=hI8.res.lt;have HZ:=Lib.hid hI8.zero;clear hI8 hop hx8 hc8;go_upto_region 21 with(fail);clear hw9
     repeat go_step
     exact bodyPost_ret (Bf rfl rfl HZ.out.1) rfl (HP.out _ HZ.out.2)
   subst h4;rw[if_neg (show ¬(4:Int)≠4 from fun h=>h rfl)]at hop;have HP:=Lib.hid (fun W (cs:List Value) (hW:Below w.heap.size w W) hh=>C6.yes (S:=S) (w0:=w0) (w:=w) (w':=W) (cs:=cs) hop hW hh);have hB9:=hI8.below;obtain⟨HI8,Hx8,Hc8,HB9⟩:=hid4 hI8 hx8 hc8 hB9;clear hI8 hx8 hc8 hB9;clear hop;go_wp2_with (fail);clear hw9;(with_reducible refine(Hn3.out _ HB9.out).mono ?_);rintro e wa ⟨hba,csa,rfl,hha⟩;obtain⟨vla,vlc,voa,voc,rfl⟩:=Ip hha;have hIa:=(HI8.out.call hba).alloc (.cells #[.int .i64 vk,.bool vb,.int .i64 vn,.string vt,.slice vla vl.length vlc,.slice voa vo.length voc] 39);have hca:=(Hc8.out.below hba Hc8.out.lt).alloc (.cells #[.int .i64 vk,.bool vb,.int .i64 vn,.string vt,.slice vla vl.length vlc,.slice voa vo.length voc] 39);have hva:=An.new wa 39 #[.int .i64 vk,.bool vb,.int .i64 vn,.string vt,.slice vla vl.length vlc,.slice voa vo.length voc];obtain⟨wb,hwb⟩: ∃wb,wa.alloc (.cells #[.int .i64 vk,.bool vb,.int .i64 vn,.string vt,.slice vla vl.length vlc,.slice voa vo.length voc] 39)=wb:=⟨_,rfl⟩;rw[hwb]at hIa hca hva;clear z0 z1 z2 z3 z4 z5 zl q3 ql u0 u3 ul hba;obtain⟨v0,v1,v2,v3,v4,v5⟩:=Ao hva;have vl5:=hva.lt;have u3:=hca.cell 3;have ul:=hca.lt;obtain⟨r0,r1,r2,r3,r4,r5,r6,r7⟩:=E5 hIa.res;have fz:=hIa.res.frozen;have lt1:=hIa.res.lt;have HZ:=Lib.hid (hIa.put (k:=1) (key:=ct) hha);clear hIa hca hva hha;go_upto_region 25 with(fail);clear hwb
   repeat go_step
   exact bodyPost_ret (Bf rfl rfl HZ.out.1) rfl (HP.out _ _ HZ.out.2.1 HZ.out.2.2)
 rw[if_neg hpt]at hop;have p1:=Adt (l:= [112,117,116]) hpt;by_cases hdl:at'=H9
 . subst hdl;rw[if_pos rfl]at hop;have hJ:=HJu.out [A6,Cn];simp only[List.length_cons,List.length_nil]at hJ;generalize E1 [A6,Cn] o'=PJ at hJ hop;have hw3b:=hI3.below;have hIa:=hI3.alloc (.cells #[.string A6,.string Cn] 9);have hx6:=hx3.alloc (.cells #[.string A6,.string Cn] 9);obtain⟨w6,hw6⟩: ∃w6,w3.alloc (.cells #[.string A6,.string Cn] 9)=w6:=⟨_,rfl⟩;have hN:Ae w6 w6.heap.size (.row 1 (dX [A6,Cn])) [.slice (some ⟨w3.heap.size,0,none⟩) 2 2]:=by rw[<-hw6];exact Ac4 (names:= [A6,Cn]) (An.new w3 9 #[.string A6,.string Cn]) rfl (by simp)
   rw[hw6]at hIa hx6;have hI6:=hIa;clear hw3b;obtain⟨z0,z1,z2,z3,z4,z5⟩:=Ao hI6.box;have zl:=hI6.box.lt;have q3:=hx6.cell 3;have ql:=hx6.lt;have hB6:=hI6.below;obtain⟨HI6,Hx6,HN,HB6,HJ⟩:=hid5 hI6 hx6 hN hB6 hJ;clear hI6 hx6 hN hB6 hJ;clear hIa hx3 hI3;go_wp2_with (fail);clear hw6 y0 y1 y2 y3 y4 y5 yl x0 x3 xl;(with_reducible refine(HJ.out _ _ _ HB6.out HN.out (by omega)).mono ?_);rintro e w7 ⟨rfl,hb7⟩;have hI7:=HI6.out.call hb7;have hx7:=Hx6.out.below hb7 Hx6.out.lt;clear z0 z1 z2 z3 z4 z5 zl q3 ql hb7;obtain⟨z0,z1,z2,z3,z4,z5⟩:=Ao hI7.box;have zl:=hI7.box.lt;have q3:=hx7.cell 3;have ql:=hx7.lt
   cases PJ with
   |false=>
    rw[if_pos rfl]at hop;have HP:=Lib.hid (fun W (hW:Below w.heap.size w W)=>C6.no (S:=S) (w0:=w0) (w:=w) (w':=W) hop hW);obtain⟨r0,r1,r2,r3,r4,r5,r6,r7⟩:=E5 hI7.res;have fz:=hI7.res.frozen;have lt1:=hI7.res.lt;have HZ:=Lib.hid hI7.zero;clear hI7 hop hx7;go_upto_region 18 with(fail)
    repeat go_step
    exact bodyPost_ret (Bf rfl rfl HZ.out.1) rfl (HP.out _ HZ.out.2)
   |true=>
   rw[if_neg (show ¬true=false from Bool.noConfusion)]at hop;have hB7:=hI7.below;obtain⟨HI7,Hx7,HB7⟩:=hid3 hI7 hx7 hB7;clear hI7 hx7 hB7;go_wp2_with (fail);(with_reducible refine(Hn2.out _ HB7.out).mono ?_);rintro e w8 ⟨hb8,cs8,rfl,hh8⟩;obtain⟨cla,clc,coa,coc,rfl⟩:=Ip hh8;have hI8:=(HI7.out.call hb8).alloc (.cells #[.int .i64 ck,.bool cb,.int .i64 cn,.string ct,.slice cla cl.length clc,.slice coa co.length coc] 39);have hx8:=(Hx7.out.below hb8 Hx7.out.lt).alloc (.cells #[.int .i64 ck,.bool cb,.int .i64 cn,.string ct,.slice cla cl.length clc,.slice coa co.length coc] 39);have hc8:=An.new w8 39 #[.int .i64 ck,.bool cb,.int .i64 cn,.string ct,.slice cla cl.length clc,.slice coa co.length coc];obtain⟨w9,hw9⟩: ∃w9,w8.alloc (.cells #[.int .i64 ck,.bool cb,.int .i64 cn,.string ct,.slice cla cl.length clc,.slice coa co.length coc] 39)=w9:=⟨_,rfl⟩;rw[hw9]at hI8 hx8 hc8;clear z0 z1 z2 z3 z4 z5 zl q3 ql hb8;obtain⟨z0,z1,z2,z3,z4,z5⟩:=Ao hI8.box;have zl:=hI8.box.lt;have q3:=hx8.cell 3;have ql:=hx8.lt;have u0:=hc8.cell 0;have u3:=hc8.cell 3;have ul:=hc8.lt;by_cases h4:ck=4;rotate_left
   . have e1:(ck != 4)=true:=by simpa using h4
     rw[if_pos h4]at hop;have HP:=Lib.hid (fun W (hW:Below w.heap.size w W)=>C6.no (S:=S) (w0:=w0) (w:=w) (w':=W) hop hW);obtain⟨r0,r1,r2,r3,r4,r5,r6,r7⟩:=E5 hI8.res;have fz:=hI8.res.frozen;have lt1:=hI8.res.lt;have HZ:=Lib.hid hI8.zero;clear hI8 hop hx8 hc8;go_upto_region 21 with(fail);clear hw9
     repeat go_step
     exact bodyPost_ret (Bf rfl rfl HZ.out.1) rfl (HP.out _ HZ.out.2)
   subst h4;rw[if_neg (show ¬(4:Int)≠4 from fun h=>h rfl)]at hop;have HP:=Lib.hid (fun W (cs:List Value) (hW:Below w.heap.size w W) hh=>C6.yes (S:=S) (w0:=w0) (w:=w) (w':=W) (cs:=cs) hop hW hh);obtain⟨r0,r1,r2,r3,r4,r5,r6,r7⟩:=E5 hI8.res;have fz:=hI8.res.frozen;have lt1:=hI8.res.lt;have HZ:=Lib.hid (hI8.put (k:=2) (key:=ct) (Yi S w0));clear hI8 hop hx8 hc8;go_upto_region 23 with(fail);clear hw9
   repeat go_step
   exact bodyPost_ret (Bf rfl rfl HZ.out.1) rfl (HP.out _ _ HZ.out.2.1 HZ.out.2.2)
 rw[if_neg hdl]at hop;have d1:=Adt (l:= [100,101,108]) hdl;have hI6:=hI3.alloc (.cells #[.string A6,.string Cn] 9);have hx6:=hx3.alloc (.cells #[.string A6,.string Cn] 9);obtain⟨w6,hw6⟩: ∃w6,w3.alloc (.cells #[.string A6,.string Cn] 9)=w6:=⟨_,rfl⟩;rw[hw6]at hI6 hx6;clear hx3;have q3:=hx6.cell 3;have ql:=hx6.lt;have HP:=Lib.hid (fun W (hW:Below w.heap.size w W)=>C6.no (S:=S) (w0:=w0) (w:=w) (w':=W) hop hW);obtain⟨r0,r1,r2,r3,r4,r5,r6,r7⟩:=E5 hI6.res;have fz:=hI6.res.frozen;have lt1:=hI6.res.lt;have HZ:=Lib.hid hI6.zero;clear hI6 hop hI3 hx6;go_upto_region 16 with(fail);clear hw6
 repeat go_step
 exact bodyPost_ret (Bf rfl rfl HZ.out.1) rfl (HP.out _ HZ.out.2)
theorem Ai7 {S:Nat->Prop} {w:World} {p:POp} {cs:List Value} (h:Aq S w (dQ p) cs): ∃z2 z3 z4 z5 la lc oa oc ll ol,cs= [.int .i64 p.k,.string p.key,.int .i64 z2,.bool z3,.int .i64 z4,.string z5,.slice la ll lc,.slice oa ol oc]:=by
 obtain⟨k,key,⟨a,b,n,t,l,o⟩⟩:=p;have h1:=h.now;unfold dQ at h1;simp only[Ae]at h1;obtain⟨_,_,rfl,⟨rfl,_⟩,_,_,rfl,⟨rfl,_⟩,cv,_,rfl,h4,rfl⟩:=h1;have h6:=Bv _ _ h4;simp only[Ac]at h6;obtain⟨la,lc,oa,oc,rfl,_,_⟩:=h6;exact⟨_,_,_,_,_,_,_,_,_,_,rfl⟩
structure PatX (w:World) (S:Nat->Prop) (w0:World) (six:Array Value) (l:List Val) (q:Nat) (wr:World) (V:Value):Prop where
 ji:JI w six wr
 row:H8 (fun i=>S i/\i<w0.heap.size) (w.heap.size+1) 67 8 wr (Je (Am (l.take q)).2) V
def Km (v:Val) (S:Nat->Prop) (w0 w:World) (e:Ending) (w':World):Prop:=Below w.heap.size w w'/\
 if(Be v).1≠0 then e=.returned (.tuple #[.slice none 0 0,.int .i64 (Be v).1])else
  ∃a c,e=.returned (.tuple #[.slice a (Be v).2.length c,.int .i64 0])/\Aq (fun i=>(S i/\i<w0.heap.size)\/w.heap.size<i) w' (.row 8 (Je (Be v).2)) [.slice a (Be v).2.length c]
theorem Km.no {v:Val} {S:Nat->Prop} {w0 w w':World} {c:Int} (h:(Be v).1=c) (hc:c≠0) (hb:Below w.heap.size w w'):Km v S w0 w (.returned (.tuple #[.slice none 0 0,.int .i64 c])) w':=
 ⟨hb,by rw[if_pos (by omega),h]⟩
set_option maxRecDepth 100000 in
theorem Ahv (k':Int) (b':Bool) (n':Int) (t':ByteArray) (l':List Val) (o':List (ByteArray×Val)) (la lc oa oc) (S:Nat->Prop) (w0 w:World) (hT:Cf w) (hw:Below w0.heap.size w0 w)
 (h:Aq S w0 (dV (.mk k' b' n' t' l' o')) [.int .i64 k',.bool b',.int .i64 n',.string t',.slice la l'.length lc,.slice oa o'.length oc]) (hb:(Val.mk k' b' n' t' l' o').bulk<=30000000) (hiv:Ga (.mk k' b' n' t' l' o')):
 Calls Tryz.prog 40 #[.agg #[.int .i64 k',.bool b',.int .i64 n',.string t',.slice la l'.length lc,.slice oa o'.length oc]] w (Km (.mk k' b' n' t' l' o') S w0 w):=by
 obtain⟨wi,hwi⟩: ∃wi,w.alloc (.cells #[.int .i64 k',.bool b',.int .i64 n',.string t',.slice la l'.length lc,.slice oa o'.length oc] 39)=wi:=⟨_,rfl⟩;have hI0:JI w #[.int .i64 k',.bool b',.int .i64 n',.string t',.slice la l'.length lc,.slice oa o'.length oc] wi:=hwi▸⟨Aa _ _,An.new w _ _⟩;have hMay:=Tl (.mk k' b' n' t' l' o') [.int .i64 k',.bool b',.int .i64 n',.string t',.slice la l'.length lc,.slice oa o'.length oc] wi (Bv _ _ (h.old_now (hw.trans (hI0.below.mono hw.size)))) (by omega);obtain⟨x0,x1,x2,x3,x4,x5⟩:=Ao hI0.box;have xl:=hI0.box.lt;obtain⟨M,hM⟩: ∃M,Ay (.mk k' b' n' t' l' o') 1=M:=⟨_,rfl⟩;rw[hM]at hMay;obtain⟨HMay,HI0,H,HT,Hiv⟩:=hid5 hMay hI0 h hT hiv;clear hMay hI0 h hT hiv;go_enter Tryz.func40,Tryz.ntmps40;go_upto_region 1 with(fail);clear hwi;go_wp2_with (fail);(with_reducible refine(HMay.out).mono ?_);rintro e w1 ⟨rfl,hb1⟩;have hI1:=HI0.out.call hb1;by_cases hm:M=0;rotate_left
 . have tM:(M != 0)=true:=by simpa using hm
   have hP:=Km.no (S:=S) (w0:=w0) (v:=.mk k' b' n' t' l' o') (show(Be (.mk k' b' n' t' l' o')).1=M by unfold Be;rw[if_pos (by omega)];exact hM) hm hI1.below;have HP:=Lib.hid hP;clear hP;clear hm hM;go_wp2;go_ret2;exact HP.out
 subst hm;have y0:=hI1.box.cell 0;have yl:=hI1.box.lt;by_cases hk:k'=5;rotate_left
 . have e5:(k' != 5)=true:=by simpa using hk
   have hP:=Km.no (S:=S) (w0:=w0) (v:=.mk k' b' n' t' l' o') (show(Be (.mk k' b' n' t' l' o')).1=9 by unfold Be;rw[if_neg (by omega),if_pos (show Av (.mk k' b' n' t' l' o')≠5 from hk)]) (by omega) hI1.below;obtain⟨HP,Hb1,HI1⟩:=hid3 hP hb1 hI1;clear hP hb1 hI1;clear hk hM x0 x1 x2 x3 x4 x5 xl;go_wp2;go_ret2;exact HP.out
 subst hk;have hop:=R0 hM rfl;have hel: ∀v ∈ l',Ga v/\Ay v 2=0:=fun v hv=>⟨Te Hiv.out.2.1 hv,Lj (Ck hM).2.2.2.1 v hv⟩;obtain⟨j0,hj,hy0,hy1,hy2⟩:=info_parts Afx;have hbl:3*Bc l'<=90000000:=by simp only[Val.bulk]at hb;omega
 have hll:l'.length<=30000000:=by have:=D3 l';omega
 have hN0:Hid (PatX w S w0 #[.int .i64 5,.bool b',.int .i64 n',.string t',.slice la l'.length lc,.slice oa o'.length oc] l' 0 w1 (.slice none 0 0)):=Lib.hid ⟨hI1,H8.nil _ _ _ _ _⟩;have hr0:(Am (l'.take 0)).1=0:=rfl;obtain⟨Hb1,HI1,Hop,Hel,HM,Hj,Hy0,Hy1,Hy2,Hbl,Hr0⟩:=hid11 hb1 hI1 hop hel hM hj hy0 hy1 hy2 hbl hr0;clear hb1 hI1 hop hel hM hj hy0 hy1 hy2 hbl hr0;clear x0 x1 x2 x3 x4 x5 xl;go_wp2_with (fail);clear y0 yl;go_loopw [5,6] (fun V i wr=> ∃q:Nat,i=.int .i64 q/\q<=l'.length/\Hid ((Am (l'.take q)).1=0)/\Hid (PatX w S w0 #[.int .i64 5,.bool b',.int .i64 n',.string t',.slice la l'.length lc,.slice oa o'.length oc] l' q wr V)) (fun _ i _=>l'.length - (intOf i).toNat)
 case atStart=>exact⟨0,rfl,Nat.zero_le _,Hr0,hN0⟩
 case round=>
  obtain⟨q,rfl,hq,hr,hI⟩:=hrel;clear hN0 Hr0;have hq0:(0:Int)<=q:=by omega
  have z4:=hI.out.ji.box.cell 4;have zl:=hI.out.ji.box.lt;by_cases hlt:q<l'.length
  . obtain⟨x,hx⟩: ∃v,l'[q]? =some v:=⟨_,List.getElem?_eq_getElem hlt⟩;have hmem:=List.mem_of_getElem? hx;have hbe:=Eg hmem;obtain⟨i1,i2⟩:=Hel.out x hmem;have hpo:=Akl i2;have htk:l'.take (q+1)=l'.take q++ [x]:=by rw[List.take_add_one,hx];simp
    have hone:=Mz (v:=x) hr.out;obtain⟨ek,eb,en,et,el,eo⟩:=x;have hz:=hI.out.ji.below.size;obtain⟨g,off,rfl,hg,ela,elc,eoa,eoc,hv,c0,c1,c2,c3,c4,c5⟩:=Alg (Alm H.out) hx;have hbw:Below w0.heap.size w0 wr:=hw.trans (hI.out.ji.below.mono hw.size);have hgr:g<wr.heap.size:=Nat.lt_of_lt_of_le hg hbw.size;have c0:=(hbw.cell (p:=⟨g,off+q*6,none⟩) hg).trans c0;have c1:=(hbw.cell (p:=⟨g,off+q*6+1,none⟩) hg).trans c1;have c2:=(hbw.cell (p:=⟨g,off+q*6+2,none⟩) hg).trans c2;have c3:=(hbw.cell (p:=⟨g,off+q*6+3,none⟩) hg).trans c3;have c4:=(hbw.cell (p:=⟨g,off+q*6+4,none⟩) hg).trans c4;have c5:=(hbw.cell (p:=⟨g,off+q*6+5,none⟩) hg).trans c5;have hq1:(q:Int)<(l'.length:Int):=by omega
    have hC:=Ael ek eb en et el eo ela elc eoa eoc S w0 wr hbw hv (by
     have h1:=Cg eo;have h2:Al eo<=(Val.mk ek eb en et el eo).bulk:=by simp only[Val.bulk];omega
     have:=Hbl.out;omega)
    unfold C6 at hC;rw[hpo]at hC;obtain⟨HC,Hv,Hx,Htk,Hone,Hpo⟩:=hid6 hC hv hx htk hone hpo;clear hC hv hx htk hone hpo;clear hmem hbe i1 i2;go_wp2_with (fail);(with_reducible refine(HC.out).mono ?_);rintro e w4 ⟨hb4,cs8,rfl,hh8⟩;obtain⟨z2,z3,z4',z5,xla,xlc,xoa,xoc,xll,xol,rfl⟩:=Ai7 hh8;have hJ4:=hI.out.ji.call hb4;obtain⟨OP,hOP⟩: ∃p,(C4 (.mk ek eb en et el eo)).2=p:=⟨_,rfl⟩;rw[hOP]at hh8 ⊢;by_cases hc:(C4 (.mk ek eb en et el eo)).1=0;rotate_left
    . have tC:((C4 (.mk ek eb en et el eo)).1 != 0)=true:=by simpa using hc
      have hP:=fun W (hW:Below w.heap.size w W)=>Km.no (S:=S) (w0:=w0) (v:=.mk 5 b' n' t' l' o') (w:=w) (w':=W) (c:=(C4 (.mk ek eb en et el eo)).1) (by
       have h1:=Hone.out;rw[if_pos hc,<-Htk.out]at h1;have h2:=M0 (l:=l'.take (q+1)) (r:=l'.drop (q+1)) (by rw[h1];exact hc);rw[List.take_append_drop,h1]at h2;rw[Hop.out,if_pos (by rw[h2];exact hc),h2]) hc hW
      have hPa:=hP _ (hJ4.call (Aa w4 (.cells #[.int .i64 OP.k,.string OP.key,.int .i64 z2,.bool z3,.int .i64 z4',.string z5,.slice xla xll xlc,.slice xoa xol xoc] 67))).below;generalize (C4 (.mk ek eb en et el eo)).1=C at tC hPa;obtain⟨HPa,HJ4⟩:=hid2 hPa hJ4;clear hPa hJ4;clear hc hh8 hb4 hP hOP;go_wp2;go_ret2;exact HPa.out
    rw[hc];have htk2:Je (Am (l'.take q)).2++ [dQ OP]=Je (Am (l'.take (q+1))).2:=by
     rw[Htk.out,Hone.out,if_neg (by omega),<-hOP];simp[Je]
    have hr1:(Am (l'.take (q+1))).1=0:=by rw[Htk.out,Hone.out,if_neg (by omega)]
    obtain⟨aV,cV,rfl⟩:=hI.out.row.slice;have hdl:(Je (Am (l'.take q)).2).length<=q:=by
     have:=My (l'.take q);rw[Kq];rw[List.length_take]at this;omega
    have hLo:(Je (Am (l'.take q)).2).length+1<=maxLen/\((Je (Am (l'.take q)).2).length+1)*112<=140737488355328:=⟨by simp only[maxLen];omega,by omega⟩;have hb6:Below wr.heap.size wr ((w4.alloc (.cells #[.int .i64 OP.k,.string OP.key,.int .i64 z2,.bool z3,.int .i64 z4',.string z5,.slice xla xll xlc,.slice xoa xol xoc] 67)).alloc (.cells #[.int .i64 OP.k,.string OP.key,.int .i64 z2,.bool z3,.int .i64 z4',.string z5,.slice xla xll xlc,.slice xoa xol xoc] 67)):=(hb4.alloc hb4.size _).alloc (by have:=hb4.size;simp;omega) _;have hJ6:=hI.out.ji.call hb6;have hrow:=hI.out.row.below hb6;have hrow0:=hI.out.row;have hgeb:w.heap.size+1<=((w4.alloc (.cells #[.int .i64 OP.k,.string OP.key,.int .i64 z2,.bool z3,.int .i64 z4',.string z5,.slice xla xll xlc,.slice xoa xol xoc] 67)).alloc (.cells #[.int .i64 OP.k,.string OP.key,.int .i64 z2,.bool z3,.int .i64 z4',.string z5,.slice xla xll xlc,.slice xoa xol xoc] 67)).heap.size:=Nat.le_trans hI.out.ji.box.lt hb6.size;have hin:Aq (fun i=>(S i/\i<w0.heap.size)/\(Value.slice aV (Je (Am (l'.take q)).2).length cV).ownBlock≠some i) ((w4.alloc (.cells #[.int .i64 OP.k,.string OP.key,.int .i64 z2,.bool z3,.int .i64 z4',.string z5,.slice xla xll xlc,.slice xoa xol xoc] 67)).alloc (.cells #[.int .i64 OP.k,.string OP.key,.int .i64 z2,.bool z3,.int .i64 z4',.string z5,.slice xla xll xlc,.slice xoa xol xoc] 67)) (dQ OP) [.int .i64 OP.k,.string OP.key,.int .i64 z2,.bool z3,.int .i64 z4',.string z5,.slice xla xll xlc,.slice xoa xol xoc]:=
     (hh8.base (hbw.trans (hb6.mono hbw.size))).mono fun i _ hi=>⟨hi,fun e=>by have:=(hI.out.row.base i e).1;have:=hw.size;omega⟩
    have hRd:=R8 (w4.alloc (.cells #[.int .i64 OP.k,.string OP.key,.int .i64 z2,.bool z3,.int .i64 z4',.string z5,.slice xla xll xlc,.slice xoa xol xoc] 67)) (.int .i64 OP.k) (.string OP.key) (.int .i64 z2) (.bool z3) (.int .i64 z4') (.string z5) (.slice xla xll xlc) (.slice xoa xol xoc);rw[World.size_alloc]at hRd;obtain⟨HRd,Hrow,HLo,Hin,Htk2,Hr1,HJ4,HJ6,Hgeb,Hrow0⟩:=hid10 hRd hrow hLo hin htk2 hr1 hJ4 hJ6 hgeb hrow0;clear hRd hrow hLo hin htk2 hr1 hJ4 hJ6 hgeb hrow0;clear hh8 hb4 hb6 hc hdl z4 zl hI hOP;go_wp2_with (at_builtin;apply Shut.out);unfold Shut;refine Ta (d:=dQ OP) (V:=.slice aV (Je (Am (l'.take q)).2).length cV) rfl (.tmp 37) (.tmp 39) 45 rfl Tryz.underlying45 Hj.out Hy0.out Hy1.out Hy2.out rfl (by omega) rfl Hrow.out Hgeb.out (Tt _) Hin.out rfl HRd.out HLo.out.1 HLo.out.2 ?_;intro V6 w6 hrow6 hg6 hat6;have hN:Hid (PatX w S w0 #[.int .i64 5,.bool b',.int .i64 n',.string t',.slice (some ⟨g,off,none⟩) l'.length lc,.slice oa o'.length oc] l' (q+1) w6 V6):=by
     refine Lib.hid ⟨⟨Acx HJ6.out.below hg6 Hrow0.out (Nat.le_succ _) HJ6.out.below.size,Ais HJ6.out.box hg6 Hrow0.out (.inl (Nat.lt_succ_self _))⟩, ?_⟩;rw[<-Htk2.out];exact hrow6
    clear hrow6 hg6 hat6;go_wp2;go_roundw
    case rel=>exact⟨q+1,by go_num,by omega,Hr1,hN⟩
    case measure=>simp only[intOf];omega
  . obtain rfl:q=l'.length:=by omega
    have hrw:=hI.out.row;have hbw:=hI.out.ji.below;have hr':=hr.out;rw[List.take_length]at hr' hrw;obtain⟨aV,cV,rfl⟩:=hrw.slice_n (n:=(Am l').2.length) (Kq _);have hown:=hrw.base;have hhI:=hrw.closeIn;have hhI:Aq (fun i=>(S i/\i<w0.heap.size)\/w.heap.size<i) wr _ _:=hhI.mono fun i _ hi=>by
     rcases hi with hi|hi
     . exact .inl hi
     . exact .inr (hown i hi).1
    have hh:=hhI.now;obtain⟨hbq,hiq⟩:=Jw Hel.out hr';have hMy:=N3 (Am l').2 aV (Am l').2.length cV wr (HT.out.below hbw) hh (by have:=Hbl.out;omega) hiq;have hop:=Hop.out;rw[if_neg (show ¬(Am l').1≠0 from fun h=>h hr')]at hop;obtain⟨X,hX⟩: ∃X,Bm none (Am l').2=X:=⟨_,rfl⟩;rw[hX]at hMy hop;generalize (Am l').2=OPS at hMy hhI hop;obtain⟨HMy,HhI,Hbw,Hop⟩:=hid4 hMy hhI hbw hop;clear hMy hhI hbw hop;clear hI hr hrw hbq hiq hX hr' hh hown;go_wp2_with (fail);(with_reducible refine(HMy.out).mono ?_);rintro e w9 ⟨rfl,hb9⟩;have hwf:=Hbw.out.trans (hb9.mono Hbw.out.size);have hff:=HhI.out.below hb9;by_cases hX0:X=0
    . subst hX0;have hop2:=Hop.out;rw[if_pos rfl]at hop2;obtain⟨Hop2,Hff,Hwf⟩:=hid3 hop2 hff hwf;clear hop2 hff hwf;clear hb9;go_wp2;go_ret2;refine⟨Hwf.out, ?_⟩;rw[Hop2.out,if_neg (fun h=>h rfl)];exact⟨aV,cV,rfl,Hff.out⟩
    . have tX:(X != 0)=true:=by simpa using hX0
      have hop2:=Hop.out;rw[if_neg hX0]at hop2;have hP:=Km.no (S:=S) (w0:=w0) (v:=.mk 5 b' n' t' l' o') (c:=X) (by rw[hop2]) hX0 hwf;have HP:=Lib.hid hP;clear hP;clear hb9 hX0 hff hwf hop2;go_wp2;go_ret2;exact HP.out
def Gm (l:List UInt8) (w:World) (e:Ending) (w':World):Prop:=Below w.heap.size w w'/\
 if(A7 l).1≠0 then e=.returned (.tuple #[.agg Acd,.int .i64 (A7 l).1])else ∃a n,e=.returned (.tuple #[.agg #[.int .u64 (A7 l).2.1,.int .u64 (A7 l).2.2.1,.int .u64 (A7 l).2.2.2.1,.int .u64 (A7 l).2.2.2.2.1,.slice a (A7 l).2.2.2.2.2.length n],.int .i64 0])/\
  Ae w' w'.heap.size (.row 8 (Je (A7 l).2.2.2.2.2)) [.slice a (A7 l).2.2.2.2.2.length n]
theorem Gm.no {l:List UInt8} {w w':World} {x:Int} (h:A7 l=Fv x) (hx:x≠0) (hb:Below w.heap.size w w'):Gm l w (.returned (.tuple #[.agg Acd,.int .i64 x])) w':=by
 refine⟨hb, ?_⟩;rw[h,if_pos (show(Fv x).1≠0 from hx)]
theorem Kd {w:World} {g:Nat} {t:TypeId} {a0 a1 a2 a3 a4:Value} (h:An w g t #[a0,a1,a2,a3,a4]):
 w.cell? ⟨g,0,none⟩=some a0/\w.cell? ⟨g,1,none⟩=some a1/\w.cell? ⟨g,2,none⟩=some a2/\w.cell? ⟨g,3,none⟩=some a3/\w.cell? ⟨g,4,none⟩=some a4:=⟨h.cell 0,h.cell 1,h.cell 2,h.cell 3,h.cell 4⟩
theorem F5 {fn:Func} {t u:Tmp} {tmps:Array Value} {W:World} {R:Nat} {a0 a1 a2 a3 a4:Value} (h:fn.results= #[.cell t 47,.tmp u]) (hp:tmps.getD t undef=.pointer (some ⟨R,0,none⟩)) (hx:An W R 47 #[a0,a1,a2,a3,a4]):
 (results fn tmps).run Tryz.prog W=.ok (.tuple #[.agg #[a0,a1,a2,a3,a4],tmps.getD u undef]) W:=by
 obtain⟨c0,c1,c2,c3,c4⟩:=Kd hx;clear hx;have hp':tmps[t]?.getD undef=.pointer (some ⟨R,0,none⟩):=by simpa using hp
 simp[results,h,hp',go_sem,c0,c1,c2,c3,c4]
theorem X1.five {T:TypeId} {b0 b1 b2 b3 b4:Value} {w wr:World} (h:X1 T #[b0,b1,b2,b3,b4] w wr) (a0 a1 a2 a3 a4:Value):X1 T #[a0,a1,a2,a3,a4] w (A1 wr w.heap.size 0 [a0,a1,a2,a3,a4]):=
 ⟨Ak _ h.below (Nat.le_refl _),((((h.res.set_ 0 a0).set_ 1 a1).set_ 2 a2).set_ 3 a3).set_ 4 a4⟩
theorem Amm:Kz Bx:=by
 simp only[Kz,Bx,List.pairwise_cons,List.mem_cons,List.not_mem_nil,or_false,forall_eq_or_imp,forall_eq,List.Pairwise.nil,and_true,false_imp_iff,implies_true];decide+kernel
theorem Aee {v:Val} {x:Int} (ha:Ej (At v)) (h:Bz Bx 4 v=x) (h0:x≠0):Ke v=Fv x:=by
 rw[Kw ha Amm]at h;rw[Xd (by rw[h];exact h0),h]
theorem An8 {o:List (ByteArray×Val)} (h:o.map (·.1)=Bx): ∃xb xc xk xs x,o= [(Cc,xb),(Ah,xc),(Ai,xk),(B8,xs),(A4,x)]:=by
 match o,h with
 | [(a,xb),(b,xc),(c,xk),(d,xs),(e,x)],h=>
   simp only[List.map_cons,List.map_nil,Bx,List.cons.injEq,and_true]at h;obtain⟨rfl,rfl,rfl,rfl,rfl⟩:=h;exact⟨xb,xc,xk,xs,x,rfl⟩
theorem Y0 {v:Val} (ha:Ej (At v)) (hi:Ga v) (h:Bz Bx 4 v=0): ∃(C B K S:Int) (x:Val),I9 Bx 4 v= [B,C,K,S]/\0<=C/\Ke v=Sc C B K S (Be x)/\(Gg v A4).getD Ll=x/\x.bulk<=v.bulk/\Ga x:=by
 rw[Kw ha Amm]at h;obtain⟨hk,hn,_⟩:=Ov h;obtain⟨xb,xc,xk,xs,x,ho⟩:=An8 hn;have hin:=Aj7 hi;rw[ho]at hin;refine⟨Bo (Bd xc),Bo (Bd xb),Bo (Bd xk),Bo (Bd xs),x, ?_,Ab3 _,Sb h ho, ?_, ?_,hin.2.2.2.2.1⟩
 . unfold I9;rw[ho];have e1:Co Cc [(Cc,xb),(Ah,xc),(Ai,xk),(B8,xs),(A4,x)]=xb:=by kernel_rfl
   have e2:Co Ah [(Cc,xb),(Ah,xc),(Ai,xk),(B8,xs),(A4,x)]=xc:=by kernel_rfl
   have e3:Co Ai [(Cc,xb),(Ah,xc),(Ai,xk),(B8,xs),(A4,x)]=xk:=by kernel_rfl
   have e4:Co B8 [(Cc,xb),(Ah,xc),(Ai,xk),(B8,xs),(A4,x)]=xs:=by kernel_rfl
   show [Bo (Bd (Co Cc _)),Bo (Bd (Co Ah _)),Bo (Bd (Co Ai _)),Bo (Bd (Co B8 _))]=_;rw[e1,e2,e3,e4]
 . unfold Gg;rw[if_pos hk,ho]
   kernel_rfl
 . obtain⟨k',b',n',t',l',o'⟩:=v;have ho':o'= [(Cc,xb),(Ah,xc),(Ai,xk),(B8,xs),(A4,x)]:=ho;have h1:=C9 (m:=(A4,x)) (l:=o') (by rw[ho'];simp);have h2:Al o'<=(Val.mk k' b' n' t' l' o').bulk:=by simp only[Val.bulk];omega
   simp only at h1;omega
set_option maxRecDepth 100000 in
theorem R7 (HCp: ∀v,Mb v) (l:List UInt8) (a:Option Addr) (n c:Nat) (w:World) (hT:Cf w) (h:Ae w w.heap.size (.row 1 (dB l)) [.slice a n c]) (hc:n<=c) (hl:l.length<=15000000) (hvb: ∀v q,Da (Cx l)=.ok v q->v.bulk<=24000000):
 Calls Tryz.prog 17 #[.slice a n c] w (Gm l w):=by
 have hX0:=X1.start 47 Acd w;obtain⟨wi,hwi⟩: ∃wi,w.alloc (.cells Acd 47)=wi:=⟨_,rfl⟩;rw[hwi]at hX0;have hlB:=Ic l;rcases R5 HCp 3 l a n c wi ((h.below hX0.below).more hX0.below.size) hc hl with⟨C,hC0,hwhy,hB⟩|⟨hE,v,q,hx,hB⟩
 . have e1:(C != 0)=true:=by simpa using hC0
   have hd:A7 l=Fv C:=by
    rcases hwhy with hE|⟨hE,q,hq⟩
    . rw[Wh (by omega),hE]
    . exact Aaa hE hq
   have hP:=fun W (hW:Below w.heap.size w W)=>Gm.no (w:=w) (w':=W) hd hC0 hW;have hB':Calls Tryz.prog 33 #[.int .u8 3,.slice a n c] wi fun e w'=>Below wi.heap.size wi w'/\e=.returned (.tuple #[.agg Aj,.int .i64 C]):=hB;obtain⟨HX0,H,HB',HP⟩:=hid4 hX0 h hB' hP;clear hX0 h hB' hP;clear hC0 hwhy hB hd;go_enter Tryz.func17,Tryz.ntmps17;go_upto_region 1 with(fail);clear hwi;go_wp2_with (fail);(with_reducible refine(HB'.out).mono ?_);rintro e w2 ⟨hb2,rfl⟩;have hX3:=(HX0.out.call hb2).call (Aa w2 (.cells Aj 39));have hxf:=hX3.five (.int .u64 0) (.int .u64 0) (.int .u64 0) (.int .u64 0) (.slice none 0 0);obtain⟨r0,r1,r2,r3,r4⟩:=Kd hX3.res;have fz:=hX3.res.frozen;have lt1:=hX3.res.lt;obtain⟨HX3,Hxf⟩:=hid2 hX3 hxf;clear hX3 hxf;clear hb2;go_upto_region 3 with(fail)
   repeat go_step
   exact bodyPost_ret (F5 rfl rfl Hxf.out.res) rfl (HP.out _ Hxf.out.below)
 . have hd:A7 l=Ke v:=Afh hE hx;obtain⟨hmv,hiv,hbv,_⟩:=Ii hx;have hvb':=hvb _ _ hx;obtain⟨k',b',n',t',l',o'⟩:=v;have ha:Ej o':=Xt hmv;have hol:o'.length<=100000000:=by
    have h1:=Cg o';have h2:Al o'<=(Val.mk k' b' n' t' l' o').bulk:=by simp only[Val.bulk];omega
    omega
   have hB':Calls Tryz.prog 33 #[.int .u8 3,.slice a n c] wi fun e w'=>Below wi.heap.size wi w'/\ ∃cs:List Value,e=.returned (.tuple #[.agg cs.toArray,.int .i64 0])/\Ap wi.heap.size w' (dV (.mk k' b' n' t' l' o')) cs:=hB;obtain⟨HX0,H,HB',Hd,Ha,Hiv,HT,Hvb'⟩:=hid8 hX0 h hB' hd ha hiv hT hvb';clear hX0 h hB' hd ha hiv hT hvb';clear hE hx hmv hbv hB hvb;go_enter Tryz.func17,Tryz.ntmps17;go_upto_region 1 with(fail);clear hwi;go_wp2_with (fail);(with_reducible refine(HB'.out).mono ?_);rintro e w2 ⟨hb2,cs,rfl,hf2⟩;obtain⟨la,lc,oa,oc,rfl⟩:=Ct hf2;have hb3:=Aa w2 (.cells #[.int .i64 k',.bool b',.int .i64 n',.string t',.slice la l'.length lc,.slice oa o'.length oc] 39);have hb4:=Aa (w2.alloc (.cells #[.int .i64 k',.bool b',.int .i64 n',.string t',.slice la l'.length lc,.slice oa o'.length oc] 39)) (.cells #[.string Cc,.string Ah,.string Ai,.string B8,.string A4] 9);have hb24:Below w2.heap.size w2 ((w2.alloc (.cells #[.int .i64 k',.bool b',.int .i64 n',.string t',.slice la l'.length lc,.slice oa o'.length oc] 39)).alloc (.cells #[.string Cc,.string Ah,.string Ai,.string B8,.string A4] 9)):=hb3.trans (hb4.mono (by simp));have hlow:w.heap.size<wi.heap.size:=HX0.out.res.lt;have hX4:=((HX0.out.call hb2).call hb3).call hb4;have hv4:=(An.new w2 39 #[.int .i64 k',.bool b',.int .i64 n',.string t',.slice la l'.length lc,.slice oa o'.length oc]).alloc (.cells #[.string Cc,.string Ah,.string Ai,.string B8,.string A4] 9);have hN:Ae ((w2.alloc (.cells #[.int .i64 k',.bool b',.int .i64 n',.string t',.slice la l'.length lc,.slice oa o'.length oc] 39)).alloc (.cells #[.string Cc,.string Ah,.string Ai,.string B8,.string A4] 9)) ((w2.alloc (.cells #[.int .i64 k',.bool b',.int .i64 n',.string t',.slice la l'.length lc,.slice oa o'.length oc] 39)).alloc (.cells #[.string Cc,.string Ah,.string Ai,.string B8,.string A4] 9)).heap.size (.row 1 (dX Bx)) [.slice (some ⟨w2.heap.size+1,0,none⟩) 5 5]:=by
    have:=Ac4 (c:=5) (n:=5) (names:=Bx) (An.new (w2.alloc (.cells #[.int .i64 k',.bool b',.int .i64 n',.string t',.slice la l'.length lc,.slice oa o'.length oc] 39)) 9 #[.string Cc,.string Ah,.string Ai,.string B8,.string A4]) rfl (Nat.lt_succ_self _);simpa using this
   have hNu:Calls Tryz.prog 34 #[.agg #[.int .i64 k',.bool b',.int .i64 n',.string t',.slice la l'.length lc,.slice oa o'.length oc],.slice (some ⟨w2.heap.size+1,0,none⟩) 5 5,.int .i64 4] ((w2.alloc (.cells #[.int .i64 k',.bool b',.int .i64 n',.string t',.slice la l'.length lc,.slice oa o'.length oc] 39)).alloc (.cells #[.string Cc,.string Ah,.string Ai,.string B8,.string A4] 9)) (Fb Bx 4 (.mk k' b' n' t' l' o') ((w2.alloc (.cells #[.int .i64 k',.bool b',.int .i64 n',.string t',.slice la l'.length lc,.slice oa o'.length oc] 39)).alloc (.cells #[.string Cc,.string Ah,.string Ai,.string B8,.string A4] 9))):=M3 k' b' n' t' l' o' la lc oa oc Bx (some ⟨w2.heap.size+1,0,none⟩) 5 5 4 (fun i=>wi.heap.size<=i) w2 ((w2.alloc (.cells #[.int .i64 k',.bool b',.int .i64 n',.string t',.slice la l'.length lc,.slice oa o'.length oc] 39)).alloc (.cells #[.string Cc,.string Ah,.string Ai,.string B8,.string A4] 9)) (hb3.trans (hb4.mono (by simp))) (Aq.of_fresh hf2) hN hol (by simp) (by simp);unfold Fb at hNu;by_cases hz:Bz Bx 4 (.mk k' b' n' t' l' o')=0;rotate_left
   . have hP:=fun W (hW:Below w.heap.size w W)=>Gm.no (w:=w) (w':=W) (Hd.out.trans (Aee (v:=.mk k' b' n' t' l' o') Ha.out rfl hz)) hz hW;simp only[if_pos (show Bz Bx 4 (.mk k' b' n' t' l' o')≠0 from hz)]at hNu;have e1:(Bz Bx 4 (.mk k' b' n' t' l' o') != 0)=true:=by simpa using hz
     generalize Bz Bx 4 (.mk k' b' n' t' l' o')=C at hP hNu e1;obtain⟨HX4,HNu,HP,Hb3,Hb4⟩:=hid5 hX4 hNu hP hb3 hb4;clear hX4 hNu hP hb3 hb4;clear hz hf2 hb2 hN hv4;go_wp2_with (fail);(with_reducible refine(HNu.out).mono ?_);rintro e w5 ⟨hb5,rfl⟩;have hX5:=HX4.out.call hb5;have hxf:=hX5.five (.int .u64 0) (.int .u64 0) (.int .u64 0) (.int .u64 0) (.slice none 0 0);obtain⟨r0,r1,r2,r3,r4⟩:=Kd hX5.res;have fz:=hX5.res.frozen;have lt1:=hX5.res.lt;obtain⟨HX5,Hxf⟩:=hid2 hX5 hxf;clear hX5 hxf;clear hb5;go_upto_region 6 with(fail)
     repeat go_step
     exact bodyPost_ret (F5 rfl rfl Hxf.out.res) rfl (HP.out _ Hxf.out.below)
   simp only[if_neg (show ¬Bz Bx 4 (.mk k' b' n' t' l' o')≠0 from fun h=>h hz)]at hNu;obtain⟨C,B,K,S,x,hnr,hC0,hro,hhas,hxb,hxi⟩:=Y0 (v:=.mk k' b' n' t' l' o') Ha.out Hiv.out hz;have hd2:=Hd.out.trans hro;simp only[hnr]at hNu;obtain⟨HX4,HNu,Hd2,Hb3,Hb4,Hhas,Hxi,Hv4⟩:=hid8 hX4 hNu hd2 hb3 hb4 hhas hxi hv4;clear hX4 hNu hd2 hb3 hb4 hhas hxi hv4;clear hz hN hnr hro;go_wp2_with (fail);(with_reducible refine(HNu.out).mono ?_);rintro e w5 ⟨hb5,A,cN,rfl,hfr⟩;have hX5:=HX4.out.call hb5;have hv5:=Hv4.out.below hb5 Hv4.out.lt;have hb25:Below w2.heap.size w2 w5:=hb24.trans (hb5.mono hb24.size);have hH:=L7 k' b' n' t' l' o' la lc oa oc A4 (fun i=>wi.heap.size<=i) w2 w5 hb25 (Aq.of_fresh hf2) hol;unfold K8 at hH;simp only[Hhas.out]at hH;generalize (Gg (.mk k' b' n' t' l' o') A4).isSome=P at hH;obtain⟨y0,y1,y2,y3,y4,y5⟩:=Ao hv5;have yl:=hv5.lt;obtain⟨HX5,HH,Hfr,Hv5⟩:=hid4 hX5 hH hfr hv5;clear hX5 hH hfr hv5;clear hb5 hb2 hf2;go_wp2_with (fail);(with_reducible refine(HH.out).mono ?_);rintro e w6 ⟨hb6,cs6,rfl,hh6⟩;obtain⟨pk,pb,pn,pt,pl,po⟩:=x;obtain⟨pla,plc,poa,poc,rfl⟩:=Ip hh6;have hb7:=Aa w6 (.cells #[.int .i64 pk,.bool pb,.int .i64 pn,.string pt,.slice pla pl.length plc,.slice poa po.length poc] 39);have hb57:Below w5.heap.size w5 (w6.alloc (.cells #[.int .i64 pk,.bool pb,.int .i64 pn,.string pt,.slice pla pl.length plc,.slice poa po.length poc] 39)):=hb6.alloc hb6.size _;have hX7:=(HX5.out.call hb6).call hb7;have hb27:Below w2.heap.size w2 (w6.alloc (.cells #[.int .i64 pk,.bool pb,.int .i64 pn,.string pt,.slice pla pl.length plc,.slice poa po.length poc] 39)):=hb25.trans (hb57.mono hb25.size);have hfr7:=Hfr.out.later hb57;have hO:=Ahv pk pb pn pt pl po pla plc poa poc (fun i=>wi.heap.size<=i) w2 (w6.alloc (.cells #[.int .i64 pk,.bool pb,.int .i64 pn,.string pt,.slice pla pl.length plc,.slice poa po.length poc] 39)) (HT.out.below hX7.below) hb27 hh6 (by have:=Hvb'.out;omega) Hxi.out;unfold Km at hO;obtain⟨⟨F,OPS⟩,hF⟩: ∃r,Be (.mk pk pb pn pt pl po)=r:=⟨_,rfl⟩;have hbk:=Uj Hxi.out;simp only[hF]at hO hbk;have hd3:=Hd2.out;rw[hF]at hd3;by_cases hF0:F=0;rotate_left
   . simp only[if_pos (show F≠0 from hF0)]at hO;have hP:=fun W (hW:Below w.heap.size w W)=>Gm.no (w:=w) (w':=W) (hd3.trans (by unfold Sc;rw[if_pos hF0])) hF0 hW;have e1:(F != 0)=true:=by simpa using hF0
     obtain⟨HX7,HO,HP⟩:=hid3 hX7 hO hP;clear hX7 hO hP;clear hb6 hh6 hb7 hb57 hfr7 hbk hd3 hF hF0 y0 y1 y2 y3 y4 y5 yl;go_wp2_with (fail);(with_reducible refine(HO.out).mono ?_);rintro e w8 ⟨hb8,rfl⟩;have hX8:=HX7.out.call hb8;have hxf:=hX8.five (.int .u64 0) (.int .u64 0) (.int .u64 0) (.int .u64 0) (.slice none 0 0);obtain⟨r0,r1,r2,r3,r4⟩:=Kd hX8.res;have fz:=hX8.res.frozen;have lt1:=hX8.res.lt;obtain⟨HX8,Hxf⟩:=hid2 hX8 hxf;clear hX8 hxf;clear hb8;go_upto_region 10 with(fail)
     repeat go_step
     exact bodyPost_ret (F5 rfl rfl Hxf.out.res) rfl (HP.out _ Hxf.out.below)
   subst hF0;simp only[if_neg (show ¬(0:Int)≠0 from fun h=>h rfl)]at hO;obtain⟨hbq,hiq⟩:=hbk rfl;have hbq':D5 OPS<=100000000:=by have:=Hvb'.out;omega
   have hd4:A7 l=if Bu C B K S OPS=0 then(0,C,B,K,S,OPS)else Fv (Bu C B K S OPS):=hd3;obtain⟨HX7,HO,Hfr7,Hd4,Hiq⟩:=hid5 hX7 hO hfr7 hd4 hiq;clear hX7 hO hfr7 hd4 hiq;clear hb6 hh6 hb7 hb57 hd3 hF hbq hbk y0 y1 y2 y3 y4 y5 yl;go_wp2_with (fail);(with_reducible refine(HO.out).mono ?_);rintro e w8 ⟨hb8,aQ,cQ,rfl,hhQ⟩;have hX8:=HX7.out.call hb8;have hfr8:=Hfr7.out.later hb8;obtain⟨g,off,rfl,hg,n0⟩:=Wf hfr8.now (q:=0) rfl;obtain⟨g',off',e',_,n1⟩:=Wf hfr8.now (q:=1) rfl;simp only[Option.some.injEq,Addr.mk.injEq,and_true]at e';obtain⟨rfl,rfl⟩:=e';obtain⟨g',off',e',_,n2⟩:=Wf hfr8.now (q:=2) rfl;simp only[Option.some.injEq,Addr.mk.injEq,and_true]at e';obtain⟨rfl,rfl⟩:=e';obtain⟨g',off',e',_,n3⟩:=Wf hfr8.now (q:=3) rfl;simp only[Option.some.injEq,Addr.mk.injEq,and_true]at e';obtain⟨rfl,rfl⟩:=e';have n0:w8.cell? ⟨g,off,none⟩=some (.int .u64 B):=n0;obtain⟨HX8,HhQ⟩:=hid2 hX8 hhQ;clear hX8 hhQ;clear hb8 hfr8;go_upto_region 11 with(fail);go_cut [12] (fun p wx=> ∃R,p=.pointer (some ⟨R,0,none⟩)/\Hid (Below w8.heap.size w8 wx/\An wx R 47 #[.int .u64 C,.int .u64 B,.int .u64 K,.int .u64 S,.slice aQ OPS.length cQ]))
   case first=>
    go_region
    all_goals
     go_wp2;go_meet
     first
      |exact⟨_,rfl,Lib.hid ⟨(Below.drew (Below.refl _ _)).alloc (Nat.le_refl _) _,An.new _ _ _⟩⟩
      |exact⟨_,rfl,Lib.hid ⟨((Below.refl _ _).alloc (Nat.le_refl _) _).drew,An.new _ _ _⟩⟩
      |exact⟨_,rfl,Lib.hid ⟨Aa _ _,An.new _ _ _⟩⟩
   case rest=>
    obtain⟨R,rfl,hR⟩:=hcut;obtain⟨hbx,hxx⟩:=hR.out;have hXx:=HX8.out.call hbx;have hhx:=HhQ.out.below hbx;have hMay:=Oa C B K S hC0 OPS aQ OPS.length cQ wc (HT.out.below hXx.below) hhx.now hbq' Hiq.out;obtain⟨q0,q1,q2,q3,q4⟩:=Kd hxx;have ql:=hxx.lt;obtain⟨HXx,Hxx,HMay,Hhx⟩:=hid4 hXx hxx hMay hhx;clear hXx hxx hMay hhx;clear n0 n1 n2 n3 hR hbx hg;go_wp2_with (fail);(with_reducible refine(HMay.out).mono ?_);rintro e w9 ⟨rfl,hb9⟩;have hX9:=HXx.out.call hb9;have hx9:=Hxx.out.below hb9 Hxx.out.lt;have hh9:=Hhx.out.below hb9;clear q0 q1 q2 q3 q4 ql;obtain⟨q0,q1,q2,q3,q4⟩:=Kd hx9;have ql:=hx9.lt;obtain⟨r0,r1,r2,r3,r4⟩:=Kd hX9.res;have fz:=hX9.res.frozen;have lt1:=hX9.res.lt;have hd4:=Hd4.out;by_cases hm:Bu C B K S OPS=0
    . rw[if_pos hm]at hd4;rw[hm];have hxf:=hX9.five (.int .u64 C) (.int .u64 B) (.int .u64 K) (.int .u64 S) (.slice aQ OPS.length cQ);have hhf:Ae (A1 w9 w.heap.size 0 [.int .u64 C,.int .u64 B,.int .u64 K,.int .u64 S,.slice aQ OPS.length cQ]) (A1 w9 w.heap.size 0 [.int .u64 C,.int .u64 B,.int .u64 K,.int .u64 S,.slice aQ OPS.length cQ]).heap.size (.row 8 (Je OPS)) [.slice aQ OPS.length cQ]:=by
       exact(hh9.later (by rw[Ba];exact Nat.le_refl _) (fun p p1 _=>World.cell?_of_block (Aw _ _ _ _ _ (by
        rcases p1 with p1|p1
        . have:=p1.1;omega
        . have:=HX7.out.below.size;omega)))).now
      obtain⟨HX9,Hxf,Hd4,Hx9,Hhf⟩:=hid5 hX9 hxf hd4 hx9 hhf;clear hX9 hxf hd4 hx9 hhf;clear hb9 hm hh9;go_upto_region 15 with(fail)
      repeat go_step
      refine bodyPost_ret (F5 rfl rfl Hxf.out.res) rfl ⟨Hxf.out.below, ?_⟩;rw[Hd4.out,if_neg (fun h=>h rfl)];exact⟨_,_,rfl,Hhf.out⟩
    . rw[if_neg hm]at hd4;have hP:=fun W (hW:Below w.heap.size w W)=>Gm.no (w:=w) (w':=W) hd4 hm hW;have e1:(Bu C B K S OPS != 0)=true:=by simpa using hm
      generalize Bu C B K S OPS=M at hP e1;have hxf:=hX9.five (.int .u64 0) (.int .u64 0) (.int .u64 0) (.int .u64 0) (.slice none 0 0);obtain⟨HX9,Hxf,Hx9,HP⟩:=hid4 hX9 hxf hx9 hP;clear hX9 hxf hx9 hP;clear hb9 hm hd4 hh9;go_upto_region 14 with(fail)
      repeat go_step
      exact bodyPost_ret (F5 rfl rfl Hxf.out.res) rfl (HP.out _ Hxf.out.below)
end Go.Proofs.YtackmnbpfbaemaaGreatDoor
