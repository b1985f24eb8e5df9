/- Parts: What is read of a value is bounded by it. Plain. No condition. -/
import Derived.Test.YtjgfchcldhmjcaaGreatDoorKPp21
import Derived.Test.YtjgfchcldhmjcaaGreatDoorKPp29
set_option maxHeartbeats 20000000
set_option maxRecDepth 100000
namespace Go.Proofs.YtjgfchcldhmjcaaGreatDoor
open Go Go.RowKit
def Km (w:World):Prop:=w.cell? ⟨0,1,none⟩=some (.string G6)/\w.cell? ⟨0,2,none⟩=some (.string Ic)/\w.cell? ⟨0,3,none⟩=some (.string Du)/\0<w.heap.size
theorem Km.below {w w':World} (h:Km w) (a:Below w.heap.size w w'):Km w':=
 ⟨(a.cell h.2.2.2).trans h.1,(a.cell h.2.2.2).trans h.2.1,(a.cell h.2.2.2).trans h.2.2.1,Nat.lt_of_lt_of_le h.2.2.2 a.size⟩
theorem Afe:Bg [(Cf,tv Du)] []=some [(Cf,tv Du)]:=by rfl
theorem Akq (key:ByteArray):Bg [(Cf,tv Ic),(Aw,tv key)] []=some [(Aw,tv key),(Cf,tv Ic)]:=by kernel_rfl
theorem Alg (key:ByteArray) (v:Val):Bg [(Cf,tv G6),(Bu,v),(Aw,tv key)] []=some [(Aw,tv key),(Cf,tv G6),(Bu,v)]:=by kernel_rfl
theorem Agh (key:ByteArray) (c0:Int) (c1:Bool) (c2:Int) (c3:ByteArray) (r u:Option Addr) (t s x v:Nat) (w:World) (hN:Km w):
 Calls Tryz.prog 36 #[.agg #[.int .i64 3,.string key,.int .i64 c0,.bool c1,.int .i64 c2,.string c3,.slice r t s,.slice u x v]] w (Lv [(Cf,tv Du)] w):=by
 obtain⟨K,L,M,N⟩:=hN;have D:=qz (fun(W:World) a n c h=>Ys [(Cf,tv Du)] _ a n c W h (by decide) Afe);have F:=qz (fun W=>F8 Du W);have E:=qz (fun(W:World)=>Ac8 W Du);go_enter Tryz.func36,Tryz.ntmps36;go_wp2_with (first
  |(go_at_call 74;(with_reducible refine(F.out _).mono ?_);rintro e w1 ⟨rfl,b⟩;obtain⟨z,A⟩:=Fy b;obtain⟨G,H⟩:=Aj3 b)
  |(fail))
 (with_reducible refine(D.out _ _ _ _ (E.out w1).now).mono ?_);rintro e C ⟨d,i,j,k,oc,rfl,g⟩;have I:w1.heap.size<C.heap.size:=by have:=d.size;simp at this;omega
 have J:w.heap.size+1<C.heap.size:=by omega
 have f:=Ye b d;obtain⟨S,T,U,V,X,Y⟩:=At f;have Q:=f.frozen;obtain⟨q,l,m,p⟩:=hid4 f b d g;clear f b d g;clear z A K L M N D F E;go_upto_region 8 with(fail)
 repeat go_step
 have y:Below w.heap.size w C:=(((((Below.refl w.heap.size w).alloc (Nat.le_refl _) _).alloc (by simp) _).trans (l.out.mono (by simp;omega))).alloc (by omega) _).trans (m.out.mono (by simp;omega));obtain⟨O,P⟩:=Xn (R:=w.heap.size+1) (o:=.cells #[.int .i64 6,.bool false,.int .i64 0,.string ⟨#[]⟩,.slice i 0 j,.slice k 1 oc] 42) [.int .i64 6,.bool false,.int .i64 0,.string ⟨#[]⟩,.slice i 0 j,.slice k 1 oc] y (by omega) (by omega) (by simp;omega) p.out;have B:=((((((q.out.set_ 0 (.int .i64 6)).set_ 1 (.bool false)).set_ 2 (.int .i64 0)).set_ 3 (.string ⟨#[]⟩)).set_ 4 (.slice i 0 j)).set_ 5 (.slice k 1 oc)).alloc (.cells #[.int .i64 6,.bool false,.int .i64 0,.string ⟨#[]⟩,.slice i 0 j,.slice k 1 oc] 42);exact bodyPost_ret (Br rfl rfl B) rfl ⟨O,i,j,k,oc,rfl,P⟩
theorem Ak7 (key:ByteArray) (aa:key.size<=1000) (c0:Int) (c1:Bool) (c2:Int) (c3:ByteArray) (q t:Option Addr) (s r v u:Nat) (w:World) (hN:Km w):
 Calls Tryz.prog 36 #[.agg #[.int .i64 2,.string key,.int .i64 c0,.bool c1,.int .i64 c2,.string c3,.slice q s r,.slice t v u]] w (Lv [(Aw,tv key),(Cf,tv Ic)] w):=by
 obtain⟨n1,n2,n3,n4⟩:=hN;obtain⟨j0,hj,A,B,C⟩:=info_parts Pc;have HO:=qz (fun(W:World) a n c h=>Ys [(Cf,tv Ic),(Aw,tv key)] _ a n c W h (by have e1:Lf.size=0:=rfl;have e2:Aw.size=3:=rfl;have e3:Cf.size=2:=rfl;have e6:Ic.size=3:=rfl;simp only[Af,E7,tv,Val.bulk,A5,e2,e3,e6];omega) (Akq key));have I:=qz (fun W=>F8 Ic W);have HY:=qz (fun W=>F8 key W);have G:=qz (fun(W:World)=>Ac8 W Ic);obtain⟨Hj,Q,S,T⟩:=hid4 hj A B C;clear hj A B C;go_enter Tryz.func36,Tryz.ntmps36;go_wp2_with (first
  |(go_at_call 74;(with_reducible refine(I.out _).mono ?_);rintro e w1 ⟨rfl,d⟩;obtain⟨X,Y⟩:=Fy d;obtain⟨ah,ai⟩:=Aj3 d;have J:=I;clear I)
  |(fail))
 have g:=Vn w (.cells #[.int .i64 2,.string key,.int .i64 c0,.bool c1,.int .i64 c2,.string c3,.slice q s r,.slice t v u] 80) (.cells Al 42);have y:Ap (w1.alloc (.cells #[.string Cf,.int .i64 4,.bool false,.int .i64 0,.string Ic,.slice none 0 0,.slice none 0 0] 111)) (w.heap.size+1) 42 Al:=Ye (w1:=w1) d (Below.refl _ _);have j:Hid (Below w.heap.size w (w1.alloc (.cells #[.string Cf,.int .i64 4,.bool false,.int .i64 0,.string Ic,.slice none 0 0,.slice none 0 0] 111))):=(g.trans (d.mono g.size)).alloc (by omega) _;obtain⟨ad,m,ab⟩:=hid3 g y d;clear g y d;go_at_call 74;(with_reducible refine(HY.out _).mono ?_);rintro e w2 ⟨rfl,b⟩;have ae:w1.heap.size+1<=w2.heap.size:=by have:=b.size;simpa using this
 have O:=qz ((m.out.below b m.out.lt).alloc (.cells #[.string Aw,.int .i64 4,.bool false,.int .i64 0,.string key,.slice none 0 0,.slice none 0 0] 111));have N:=qz ((j.out.trans (b.mono j.out.size)).alloc (by omega) (.cells #[.string Aw,.int .i64 4,.bool false,.int .i64 0,.string key,.slice none 0 0,.slice none 0 0] 111));have L:=qz (b.alloc b.size (.cells #[.string Aw,.int .i64 4,.bool false,.int .i64 0,.string key,.slice none 0 0,.slice none 0 0] 111));have ac:=qz b;clear b;clear X Y n1 n2 n3;go_wp2_with (at_builtin;refine D4 (V:=.slice (some ⟨w1.heap.size,0,none⟩) 1 1) rfl (.tmp 26) (.tmp 31) 40 rfl Tryz.underlying40 Hj.out Q.out S.out T.out rfl (by omega) rfl (G.out w1) (by simp) L.out (D6 (Aw,tv key)) (V3 _ _ Aw key) rfl (Fr w2 _ _ _ _ _ _ _) (by simp[maxLen,dO]) (by simp[dO]) ?_;intro V6 w6 hrow6 hg6 hat6);have z:=C8 O.out hg6 (G.out w1) (by omega);have k:=qz (Jk N.out hg6 (G.out w1) (by omega) (by simp;omega));obtain⟨a6,c6,rfl⟩:=hrow6.slice_n (n:=2) rfl;have H:Hid (Ag w6 w6.heap.size (.row 7 (dO [(Cf,tv Ic),(Aw,tv key)])) [.slice a6 2 c6]):=C3.now (l:=dO [(Cf,tv Ic),(Aw,tv key)]) hrow6;have af:w2.heap.size+1<=w6.heap.size:=by have:=hg6.size;simpa using this
 have p:=qz z;clear z;clear hrow6 hg6 hat6;(with_reducible refine(HO.out _ _ _ _ H.out).mono ?_);rintro e w7 ⟨f,D,E,F,oc,rfl,x⟩;have ag:=f.size;have aj:w.heap.size+1<w7.heap.size:=by omega
 have i:=p.out.below f p.out.lt;obtain⟨r0,r1,r2,r3,r4,r5⟩:=At i;have fz:=i.frozen;obtain⟨P,K,M⟩:=hid3 i f x;clear i f x;clear n4 HO J G HY;go_upto_region 8 with(fail)
 repeat go_step
 have U:=k.out.trans (K.out.mono k.out.size);obtain⟨q1,q2⟩:=Xn (R:=w.heap.size+1) (o:=.cells #[.int .i64 6,.bool false,.int .i64 0,.string ⟨#[]⟩,.slice D 0 E,.slice F 2 oc] 42) [.int .i64 6,.bool false,.int .i64 0,.string ⟨#[]⟩,.slice D 0 E,.slice F 2 oc] U (by omega) (by omega) (by omega) M.out;have Z:=((((((P.out.set_ 0 (.int .i64 6)).set_ 1 (.bool false)).set_ 2 (.int .i64 0)).set_ 3 (.string ⟨#[]⟩)).set_ 4 (.slice D 0 E)).set_ 5 (.slice F 2 oc)).alloc (.cells #[.int .i64 6,.bool false,.int .i64 0,.string ⟨#[]⟩,.slice D 0 E,.slice F 2 oc] 42);exact bodyPost_ret (Br rfl rfl Z) rfl ⟨q1,D,E,F,oc,rfl,q2⟩
theorem Am1 {w w1:World} {cs:Array Value} {o' b:Obj} (a:Below ((w.alloc (.cells cs 80)).alloc o').heap.size ((w.alloc (.cells cs 80)).alloc o') w1):Ap (w1.alloc b) w.heap.size 80 cs:=by
 have h0:Ap ((w.alloc (.cells cs 80)).alloc o') w.heap.size 80 cs:=(Ap.new _ _ _).alloc _;exact(h0.below a h0.lt).alloc _
theorem Ak8 (key:ByteArray) (ax:key.size<=1000) (i:Int) (b':Bool) (j:Int) (k:ByteArray) (l':List Val) (o':List (ByteArray×Val)) (u x:Option Addr) (v y:Nat) (w:World) (hN:Km w)
 (hv:Ab w w.heap.size (.mk i b' j k l' o') [.int .i64 i,.bool b',.int .i64 j,.string k,.slice u l'.length v,.slice x o'.length y]) (hb:(Val.mk i b' j k l' o').bulk<=80000000):
 Calls Tryz.prog 36 #[.agg #[.int .i64 1,.string key,.int .i64 i,.bool b',.int .i64 j,.string k,.slice u l'.length v,.slice x o'.length y]] w (Lv [(Aw,tv key),(Cf,tv G6),(Bu,.mk i b' j k l' o')] w):=by
 obtain⟨n1,n2,n3,n4⟩:=hN;obtain⟨j0,hj,aa,ab,ac⟩:=info_parts Pc;have hO:=fun(W:World) a n c h=>Ys [(Cf,tv G6),(Bu,.mk i b' j k l' o'),(Aw,tv key)] _ a n c W h (by
  have e1:Lf.size=0:=rfl;have e2:Aw.size=3:=rfl;have e3:Cf.size=2:=rfl;have e4:Bu.size=5:=rfl;have e6:G6.size=3:=rfl;have e7:(tv G6).bulk=9:=rfl;have e8:(tv key).bulk=6+key.size:=by simp[tv,Val.bulk,A5,Af]
  simp only[Af,E7,e2,e3,e4,e7,e8];omega) (Alg key _)
 have HX:=qz (fun W=>F8 G6 W);have HY:=qz (fun W=>F8 key W);have F:=qz (fun(W:World)=>Ac8 W G6);have S: ∀W,Below w.heap.size w W->Calls Tryz.prog 75 #[.agg #[.int .i64 i,.bool b',.int .i64 j,.string k,.slice u l'.length v,.slice x o'.length y]] W fun e w'=>Below W.heap.size W w'/\ ∃b d f g,e=.returned (.agg #[.int .i64 i,.bool b',.int .i64 j,.string k,.slice b l'.length d,.slice f o'.length g])/\A7 W.heap.size w' (dV (.mk i b' j k l' o')) [.int .i64 i,.bool b',.int .i64 j,.string k,.slice b l'.length d,.slice f o'.length g]:=by
  intro W hW;refine(Iv _ _ W (Ab.more hW.size _ _ (hv.below hW)) (by omega)).mono ?_;rintro e w' ⟨⟨cs,rfl,hl,hf⟩,aq⟩;have hh:=Be _ _ hf.now;simp only[Ab]at hh;obtain⟨b,d,f,g,rfl,_,_⟩:=hh;exact⟨aq,b,d,f,g,rfl,hf⟩
 obtain⟨HO,Hj,O,P,Q,G,Hv⟩:=hid7 hO hj aa ab ac S hv;clear hO hj aa ab ac S hv;go_enter Tryz.func36,Tryz.ntmps36;go_wp2_with (first
  |(go_at_call 74;(with_reducible refine(HX.out _).mono ?_);rintro e w1 ⟨rfl,q⟩;obtain⟨ar,au⟩:=Fy q;obtain⟨ba,bb⟩:=Aj3 q;have ae:=HX;clear HX)
  |(fail))
 have A:=Vn w (.cells #[.int .i64 1,.string key,.int .i64 i,.bool b',.int .i64 j,.string k,.slice u l'.length v,.slice x o'.length y] 80) (.cells Al 42);have X:Ap (w1.alloc (.cells #[.string Cf,.int .i64 4,.bool false,.int .i64 0,.string G6,.slice none 0 0,.slice none 0 0] 111)) (w.heap.size+1) 42 Al:=Ye (w1:=w1) q (Below.refl _ _);have U:Ap (w1.alloc (.cells #[.string Cf,.int .i64 4,.bool false,.int .i64 0,.string G6,.slice none 0 0,.slice none 0 0] 111)) w.heap.size 80 #[.int .i64 1,.string key,.int .i64 i,.bool b',.int .i64 j,.string k,.slice u l'.length v,.slice x o'.length y]:=Am1 q;have D:Hid (Below w.heap.size w (w1.alloc (.cells #[.string Cf,.int .i64 4,.bool false,.int .i64 0,.string G6,.slice none 0 0,.slice none 0 0] 111))):=(A.trans (q.mono A.size)).alloc (by omega) _;obtain⟨a3,L,ay,I⟩:=hid4 A X q U;clear A X q U;go_at_call 75;(with_reducible refine(G.out _ D.out).mono ?_);rintro e w2 ⟨m,b,d,f,g,rfl,E⟩;have a4:w1.heap.size+1<=w2.heap.size:=by have:=m.size;simpa using this
 have am:=qz ((L.out.below m L.out.lt).alloc (.cells #[.string Bu,.int .i64 i,.bool b',.int .i64 j,.string k,.slice b l'.length d,.slice f o'.length g] 111));have aj:=qz ((I.out.below m I.out.lt).alloc (.cells #[.string Bu,.int .i64 i,.bool b',.int .i64 j,.string k,.slice b l'.length d,.slice f o'.length g] 111));have ak:=qz ((D.out.trans (m.mono D.out.size)).alloc (by omega) (.cells #[.string Bu,.int .i64 i,.bool b',.int .i64 j,.string k,.slice b l'.length d,.slice f o'.length g] 111));have ag:=qz (m.alloc m.size (.cells #[.string Bu,.int .i64 i,.bool b',.int .i64 j,.string k,.slice b l'.length d,.slice f o'.length g] 111));have ai:=qz ((Js (key:=Bu) E).later (Aa w2 (.cells #[.string Bu,.int .i64 i,.bool b',.int .i64 j,.string k,.slice b l'.length d,.slice f o'.length g] 111)));obtain⟨az,a1⟩:=hid2 m E;clear m E;clear ar au n1 n2 n3;go_wp2_with (at_builtin;refine D4 (V:=.slice (some ⟨w1.heap.size,0,none⟩) 1 1) rfl (.tmp 19) (.tmp 24) 40 rfl Tryz.underlying40 Hj.out O.out P.out Q.out rfl (by omega) rfl (F.out w1) (by simp) ag.out (D6 (Bu,.mk i b' j k l' o')) ai.out rfl (Fr w2 _ _ _ _ _ _ _) (by simp[maxLen,dO]) (by simp[dO]) ?_;intro V6 w6 t s C;obtain⟨_,e6,_⟩:=Fa (C8 aj.out s (F.out w1) (by omega)));have Y:=C8 am.out s (F.out w1) (by omega);have J:=qz (Jk ak.out s (F.out w1) (by omega) (by simp;omega));have a5:w2.heap.size+1<=w6.heap.size:=by have:=s.size;simpa using this
 obtain⟨M,p,a2,aw⟩:=hid4 Y t s C;clear Y t s C;go_at_call 74;(with_reducible refine(HY.out _).mono ?_);rintro e w7 ⟨rfl,r⟩;have a6:=r.size;have an:=qz ((M.out.below r M.out.lt).alloc (.cells #[.string Aw,.int .i64 4,.bool false,.int .i64 0,.string key,.slice none 0 0,.slice none 0 0] 111));have al:=qz ((J.out.trans (r.mono J.out.size)).alloc (by omega) (.cells #[.string Aw,.int .i64 4,.bool false,.int .i64 0,.string key,.slice none 0 0,.slice none 0 0] 111));have H:=qz (r.alloc r.size (.cells #[.string Aw,.int .i64 4,.bool false,.int .i64 0,.string key,.slice none 0 0,.slice none 0 0] 111));have a0:=qz r;clear r;go_wp2_with (at_builtin;refine D4 (V:=V6) rfl (.tmp 26) (.tmp 31) 40 rfl Tryz.underlying40 Hj.out O.out P.out Q.out rfl (by omega) rfl p.out (by omega) H.out (D6 (Aw,tv key)) (V3 _ _ Aw key) rfl (Fr w7 _ _ _ _ _ _ _) (by simp[maxLen,dO]) (by simp[dO]) ?_;intro V9 w9 hrow9 hg9 hat9);have Z:=C8 an.out hg9 p.out (by omega);have K:=qz (Jk al.out hg9 p.out (by omega) (by simp;omega));have a7:w7.heap.size+1<=w9.heap.size:=by have:=hg9.size;simpa using this
 obtain⟨a9,c9,rfl⟩:=hrow9.slice_n (n:=3) rfl;have ad:Hid (Ag w9 w9.heap.size (.row 7 (dO [(Cf,tv G6),(Bu,.mk i b' j k l' o'),(Aw,tv key)])) [.slice a9 3 c9]):=C3.now (l:=dO [(Cf,tv G6),(Bu,.mk i b' j k l' o'),(Aw,tv key)]) hrow9;have N:=qz Z;clear Z;clear hrow9 hg9 hat9;(with_reducible refine(HO.out _ _ _ _ ad.out).mono ?_);rintro e wa ⟨z,la,lc,oa,oc,rfl,T⟩;have a8:=z.size;have bc:w.heap.size+1<wa.heap.size:=by omega
 have B:=N.out.below z N.out.lt;obtain⟨r0,r1,r2,r3,r4,r5⟩:=At B;have fz:=B.frozen;obtain⟨ao,af,ah⟩:=hid3 B z T;clear B z T;clear n4 HO ae F HY G e6;go_upto_region 8 with(fail)
 repeat go_step
 have ap:=K.out.trans (af.out.mono K.out.size);obtain⟨q1,q2⟩:=Xn (R:=w.heap.size+1) (o:=.cells #[.int .i64 6,.bool false,.int .i64 0,.string ⟨#[]⟩,.slice la 0 lc,.slice oa 3 oc] 42) [.int .i64 6,.bool false,.int .i64 0,.string ⟨#[]⟩,.slice la 0 lc,.slice oa 3 oc] ap (by omega) (by omega) (by omega) ah.out;have av:=((((((ao.out.set_ 0 (.int .i64 6)).set_ 1 (.bool false)).set_ 2 (.int .i64 0)).set_ 3 (.string ⟨#[]⟩)).set_ 4 (.slice la 0 lc)).set_ 5 (.slice oa 3 oc)).alloc (.cells #[.int .i64 6,.bool false,.int .i64 0,.string ⟨#[]⟩,.slice la 0 lc,.slice oa 3 oc] 42);exact bodyPost_ret (Br rfl rfl av) rfl ⟨q1,la,lc,oa,oc,rfl,q2⟩
def U0 (p:POp):List (ByteArray×Val):=if p.k=1 then [(Aw,tv p.key),(Cf,tv G6),(Bu,p.v)]else if p.k=2 then [(Aw,tv p.key),(Cf,tv Ic)]else [(Cf,tv Du)]
theorem V7 {k:ByteArray} (h:O8 k=true):k.size<=64:=by
 unfold O8 at h;simp only[Bool.and_eq_true,decide_eq_true_eq]at h;exact h.2.1
theorem Agg (k:Int) (key:ByteArray) (a:Int) (b':Bool) (d:Int) (g:ByteArray) (l':List Val) (o':List (ByteArray×Val)) (b e:Option Addr) (c f:Nat) (w:World) (i:okQ ⟨k,key,.mk a b' d g l' o'⟩) (hN:Km w)
 (l:Ab w w.heap.size (.mk a b' d g l' o') [.int .i64 a,.bool b',.int .i64 d,.string g,.slice b l'.length c,.slice e o'.length f]) (j:(Val.mk a b' d g l' o').bulk<=80000000):
 Calls Tryz.prog 36 #[.agg #[.int .i64 k,.string key,.int .i64 a,.bool b',.int .i64 d,.string g,.slice b l'.length c,.slice e o'.length f]] w (Lv (U0 ⟨k,key,.mk a b' d g l' o'⟩) w):=by
 rcases i with⟨h,hk,_⟩|⟨h,hk⟩|h<;>simp only at h
 . subst h;exact Ak8 key (by have:=V7 hk;simp only at this;omega) a b' d g l' o' b e c f w hN l j
 . subst h;exact Ak7 key (by have:=V7 hk;simp only at this;omega) _ _ _ _ _ _ _ _ _ _ w hN
 . subst h;exact Agh key _ _ _ _ _ _ _ _ _ _ w hN
def Oe (l:List POp) (q:Nat):List D:=dL ((l.take q).map I7)
structure LI (w:World) (g:Nat) (l:List POp) (q:Nat) (wr:World) (V:Value):Prop where
 below:Below w.heap.size w wr
 res:Ap wr w.heap.size 42 Al
 var:Ap wr g 42 #[.int .i64 5,.bool false,.int .i64 0,.string ⟨#[]⟩,V,.slice none 0 0]
 row:C3 (g+1) 42 6 wr (Oe l q) V
 lt:w.heap.size<g
def Yw (l:List POp) (w:World) (e:Ending) (w':World):Prop:=Below w.heap.size w w'/\
 ∃la lc,e=.returned (.tuple #[.agg #[.int .i64 5,.bool false,.int .i64 0,.string ⟨#[]⟩,.slice la l.length lc,.slice none 0 0],.int .i64 0])/\A7 w.heap.size w' (dV (E0 l)) [.int .i64 5,.bool false,.int .i64 0,.string ⟨#[]⟩,.slice la l.length lc,.slice none 0 0]
theorem Nk (l:List POp) (a:Option Addr) (n c:Nat) (w:World) (hT:Cj w) (hN:Km w) (h:Ag w w.heap.size (.row 8 (Eo l)) [.slice a n c]) (hb:Da l<=50000000) (Z:inQ l) (hm:A8 none l=0):
 Calls Tryz.prog 14 #[.slice a n c] w (Yw l w):=by
 have bl:=Gp l;have hn:=h.row_len;rw[E8]at hn;subst hn;obtain⟨j0,hj,ax,ay,az⟩:=info_parts Ui;have C:Below w.heap.size w (w.alloc (.cells Al 42)):=(Below.refl _ _).alloc (Nat.le_refl _) _;have hM:=Li l a l.length c (w.alloc (.cells Al 42)) (hT.below C) ((h.below C).more C.size) (by omega) Z;rw[hm]at hM;have a3:=qz (Gh hm);obtain⟨HM,HT,HN,H,af,Hj,a5,a7,a8,bg⟩:=hid10 hM hT hN h C hj ax ay az Z;clear hM hT hN h C hj ax ay az Z;clear hm;go_enter Tryz.func14,Tryz.ntmps14;go_wp2_with (go_at_call 35;(with_reducible refine(HM.out).mono ?_);rintro e w1 ⟨rfl,I⟩);have a0:w.heap.size<w1.heap.size:=by have:=I.size;simp at this;omega
 have Y:LI w w1.heap.size l 0 (w1.alloc (.cells #[.int .i64 5,.bool false,.int .i64 0,.string ⟨#[]⟩,.slice none 0 0,.slice none 0 0] 42)) (.slice none 0 0):=
  ⟨(af.out.trans (I.mono af.out.size)).alloc (by omega) _,((Ap.new w 42 Al).below I (Ap.new w 42 Al).lt).alloc _,Ap.new _ _ _,by simpa[Oe,dL]using C3.nil _ _ _ _,a0⟩
 obtain⟨w2,av⟩: ∃w2,w1.alloc (.cells #[.int .i64 5,.bool false,.int .i64 0,.string ⟨#[]⟩,.slice none 0 0,.slice none 0 0] 42)=w2:=⟨_,rfl⟩;rw[av]at Y ⊢;have ae:=qz Y;clear Y av I;generalize w1.heap.size=g at*
 go_loopw [17] (fun i wr=> ∃q:Nat,i=.int .i64 q/\q<=l.length/\ ∃V,Hid (LI w g l q wr V)) (fun i _=>l.length - (intOf i).toNat)
 case atStart=>exact⟨0,rfl,Nat.zero_le _,_,ae⟩
 case round=>
  obtain⟨q,rfl,hq,V,G⟩:=hrel;clear ae;by_cases bd:q<l.length
  . obtain⟨p,hp⟩: ∃p,l[q]? =some p:=⟨_,List.getElem?_eq_getElem bd⟩;have E:=List.mem_of_getElem? hp;have ba:=Jn E;have U:=a3.out p E;have au:Oe l q++ [dV (I7 p)]=Oe l (q+1):=by
     unfold Oe;rw[List.take_add_one,hp,Gz,Gz];simp
    obtain⟨k,key,⟨u,b',v,x,l',o'⟩⟩:=p;simp only at ba;have D:=G.out.below;have hz:=D.size;obtain⟨gl,bn,rfl,bc,M,N,O,P,hv,c0,c1,c2,c3,c4,c5,c6,c7⟩:=Ma ((H.out.below D).more hz) hp;obtain⟨F,ab⟩: ∃F,wr.alloc (.cells #[.int .i64 k,.string key,.int .i64 u,.bool b',.int .i64 v,.string x,.slice M l'.length N,.slice O o'.length P] 80)=F:=⟨_,rfl⟩;have s:Below wr.heap.size wr F:=ab▸Aa _ _;have ac:Ap F wr.heap.size 80 #[.int .i64 k,.string key,.int .i64 u,.bool b',.int .i64 v,.string x,.slice M l'.length N,.slice O o'.length P]:=by rw[<-ab];exact Ap.new _ _ _
    have L:=G.out.var.below s G.out.var.lt;have y:=qz (G.out.row.below s);have Q:=qz G.out.res;obtain⟨S,T,rfl⟩:=G.out.row.slice;have bi:gl<wr.heap.size:=bc;have bj:g<F.heap.size:=L.lt;have bm:(q:Int)<(l.length:Int):=by omega
    have z:Below w.heap.size w F:=D.trans (s.mono hz);have hC: ∀W,Below F.heap.size F W->Calls Tryz.prog 36 #[.agg #[.int .i64 k,.string key,.int .i64 u,.bool b',.int .i64 v,.string x,.slice M l'.length N,.slice O o'.length P]] W (Lv (U0 ⟨k,key,.mk u b' v x l' o'⟩) W):=fun W hW=>by
     have al:=s.trans (hW.mono s.size);exact Agg k key u b' v x l' o' M O N P W U (HN.out.below (z.trans (hW.mono z.size))) ((hv.below al).more al.size) (by omega)
    obtain⟨Hp,Hv,a1,bf,HC,a4,B⟩:=hid7 hp hv s D hC au z;clear hp hv s D hC au z;clear E U;go_upto_region 8 with(fail);clear ab;obtain⟨x0,x1,x2,x3,x4,x5,x6,x7⟩:=Fa ac;obtain⟨_,_,_,_,y4,_⟩:=At L;have ao:(Oe l q).length=q:=by unfold Oe;rw[K8,List.length_map,List.length_take];omega
    have ak:Hid ((Oe l q).length+1<=maxLen/\((Oe l q).length+1)*88<=140737488355328):=by rw[ao];exact⟨by simp only[maxLen];omega,by omega⟩
    obtain⟨bh,aj⟩:=hid2 ac L;clear ac L;clear c0 c1 c2 c3 c4 c5 c6 c7 ao
    go_region_law (first
     |(refine Do (d:=dV (I7 ⟨k,key,.mk u b' v x l' o'⟩)) (V:=.slice S (Oe l q).length T) (by rfl) (.tmp 22) (.tmp 25) 39 (by rfl) Tryz.underlying39 Hj.out a5.out a7.out a8.out rfl (by omega) (by rfl) y.out (by omega) ag.out (D7 _) ah.out (by rfl) (Kr w4 _ _ _ _ _ _) ak.out.1 ak.out.2 ?_;intro V6 w6 b J am;rw[a4.out]at b;have K:=C8 R.out J y.out (by omega);have aw:=Jk X.out J y.out (by omega) X.out.size;have ar:=C8 ai.out J y.out (by omega);have e6:=K.cell 4;have f6:=K.frozen 4;obtain⟨a6,c6,rfl⟩:=b.slice;have ad:=qz (And.intro b (And.intro K (And.intro aw ar)));clear b J am K aw ar)
     |(go_simp;go_at_call 36;refine(HC.out _ (Below.drew (Below.refl _ _))).mono ?_;rintro e w4 ⟨an,f,j,m,r,rfl,ap⟩;have t:Below F.heap.size F w4:=(Below.drew (Below.refl _ _)).trans an;have A:=aj.out.below t aj.out.lt;have g3:=A.cell 4;have g4:=(A.alloc (.cells #[.int .i64 6,.bool false,.int .i64 0,.string ⟨#[]⟩,.slice f 0 j,.slice m (U0 ⟨k,key,.mk u b' v x l' o'⟩).length r] 42)).cell 4;have R:=qz (A.alloc (.cells #[.int .i64 6,.bool false,.int .i64 0,.string ⟨#[]⟩,.slice f 0 j,.slice m (U0 ⟨k,key,.mk u b' v x l' o'⟩).length r] 42));have ai:=qz ((((Q.out.below a1.out Q.out.lt).below t (by omega))).alloc (.cells #[.int .i64 6,.bool false,.int .i64 0,.string ⟨#[]⟩,.slice f 0 j,.slice m (U0 ⟨k,key,.mk u b' v x l' o'⟩).length r] 42));have X:=qz ((B.out.trans (t.mono B.out.size)).alloc (Nat.le_trans B.out.size t.size) (.cells #[.int .i64 6,.bool false,.int .i64 0,.string ⟨#[]⟩,.slice f 0 j,.slice m (U0 ⟨k,key,.mk u b' v x l' o'⟩).length r] 42));have ag:=qz (t.alloc t.size (.cells #[.int .i64 6,.bool false,.int .i64 0,.string ⟨#[]⟩,.slice f 0 j,.slice m (U0 ⟨k,key,.mk u b' v x l' o'⟩).length r] 42));have aq:A7 F.heap.size (w4.alloc (.cells #[.int .i64 6,.bool false,.int .i64 0,.string ⟨#[]⟩,.slice f 0 j,.slice m (U0 ⟨k,key,.mk u b' v x l' o'⟩).length r] 42)) (dV (I7 ⟨k,key,.mk u b' v x l' o'⟩)) [.int .i64 6,.bool false,.int .i64 0,.string ⟨#[]⟩,.slice f 0 j,.slice m (U0 ⟨k,key,.mk u b' v x l' o'⟩).length r]:=ap.later (Aa w4 (.cells #[.int .i64 6,.bool false,.int .i64 0,.string ⟨#[]⟩,.slice f 0 j,.slice m (U0 ⟨k,key,.mk u b' v x l' o'⟩).length r] 42));have ah:=qz aq;clear an ap t A aq))
    all_goals
     obtain⟨k1,k2,k3,k4⟩:=ad.out;have HN:Hid (LI w g l (q+1) (w6.setCell ⟨g,4,none⟩ (.slice a6 (Oe l (q+1)).length c6)) (.slice a6 (Oe l (q+1)).length c6)):=
      ⟨k3.setCell (by simp;omega) _,k4.far (by simp;omega) _,k2.set_ 4 _,k1.keep (by simp[World.setCell]) (fun i h1 _=>Below.heap_setCell _ _ _ _ (by simp;omega)),a0⟩
     clear k1 k2 k3 k4 ad ah ag R X ai;go_wp2;go_roundw
     case rel=>exact⟨q+1,by go_num,by omega,_,HN⟩
     case measure=>simp only[intOf];omega
  . obtain rfl:q=l.length:=by omega
    have aa:(Oe l l.length).length=l.length:=by unfold Oe;rw[K8,List.length_map,List.take_length]
    obtain⟨S,T,rfl⟩:=G.out.row.slice_n aa;obtain⟨i1,i2,i3,i4,i5⟩:=G.out;obtain⟨y0,y1,y2,y3,y4,y5⟩:=At i3;obtain⟨r0,r1,r2,r3,r4,r5⟩:=At i2;have fz:=i2.frozen;have Hq:=qz i4.close;have bk:=i3.lt;obtain⟨I1,I2,I3,I4,a2⟩:=hid5 i1 i2 i3 i4 aa;clear i1 i2 i3 i4 aa;clear G;go_upto_region 10 with(fail)
    repeat go_step
    obtain⟨a',c',e',_,hf,_⟩:=Hq.out;rw[a2.out]at e' hf;obtain⟨rfl,rfl⟩:S=a'/\T=c':=by simpa using e'
    have be:=((((((I2.out.set_ 0 (.int .i64 5)).set_ 1 (.bool false)).set_ 2 (.int .i64 0)).set_ 3 (.string ⟨#[]⟩)).set_ 4 (.slice S l.length T)).set_ 5 (.slice none 0 0));have a9:=As [.int .i64 5,.bool false,.int .i64 0,.string ⟨#[]⟩,.slice S l.length T,.slice none 0 0] I1.out (Nat.le_refl _) (o:=0);have bb:A7 w.heap.size (A4 wr w.heap.size 0 [.int .i64 5,.bool false,.int .i64 0,.string ⟨#[]⟩,.slice S l.length T,.slice none 0 0]) (dV (E0 l)) [.int .i64 5,.bool false,.int .i64 0,.string ⟨#[]⟩,.slice S l.length T,.slice none 0 0]:=
     Aii (by unfold Oe at hf;rw[List.take_length]at hf;exact hf.keep (by omega) (by rw[Ba];exact Nat.le_refl _) fun p p1 p2=>World.cell?_of_block (Ay _ _ _ _ _ (by omega)))
    exact bodyPost_ret (B3 rfl rfl be) rfl ⟨a9,S,T,rfl,bb⟩
theorem Ty (l:List POp) (a:Option Addr) (n c:Nat) (w:World) (v:Cj w) (h:Ag w w.heap.size (.row 8 (Eo l)) [.slice a n c]) (B:Da l<=50000000) (p:inQ l) (t:A8 none l≠0):
 Calls Tryz.prog 14 #[.slice a n c] w fun e w'=>Below w.heap.size w w'/\e=.returned (.tuple #[.agg #[.int .i64 0,.bool false,.int .i64 0,.string ⟨#[]⟩,.slice none 0 0,.slice none 0 0],.int .i64 (A8 none l)]):=by
 have d:Below w.heap.size w (w.alloc (.cells Al 42)):=(Below.refl _ _).alloc (Nat.le_refl _) _;have s:=Li l a n c (w.alloc (.cells Al 42)) (v.below d) ((h.below d).more d.size) (by omega) p;obtain⟨M,m⟩: ∃M,A8 none l=M:=⟨_,rfl⟩;rw[m]at s t ⊢;obtain⟨u,f⟩: ∃P:Ending->World->Prop,(fun e w'=>Below w.heap.size w w'/\e=.returned (.tuple #[.agg #[.int .i64 0,.bool false,.int .i64 0,.string ⟨#[]⟩,.slice none 0 0,.slice none 0 0],.int .i64 M]))=P:=⟨_,rfl⟩;rw[f];have D:(M != 0)=true:=by simpa using t
 obtain⟨y,j,q⟩:=hid3 s d f;clear s d f;clear h v p m t;go_enter Tryz.func14,Tryz.ntmps14;go_wp2_with (fail);(with_reducible refine(y.out).mono ?_);rintro e w1 ⟨rfl,i⟩;have b:=(Ap.new w 42 Al).below i (Ap.new w 42 Al).lt;obtain⟨c0,c1,c2,c3,c4,c5⟩:=At b;have A:=b.frozen;have C:=b.lt;have x:=j.out.trans (i.mono j.out.size);have r:=qz ((((((b.set_ 0 (.int .i64 0)).set_ 1 (.bool false)).set_ 2 (.int .i64 0)).set_ 3 (.string ⟨#[]⟩)).set_ 4 (.slice none 0 0)).set_ 5 (.slice none 0 0));have k:Below w.heap.size w ((((((w1.setCell ⟨w.heap.size,0,none⟩ (.int .i64 0)).setCell ⟨w.heap.size,1,none⟩ (.bool false)).setCell ⟨w.heap.size,2,none⟩ (.int .i64 0)).setCell ⟨w.heap.size,3,none⟩ (.string ⟨#[]⟩)).setCell ⟨w.heap.size,4,none⟩ (.slice none 0 0)).setCell ⟨w.heap.size,5,none⟩ (.slice none 0 0)):=As [.int .i64 0,.bool false,.int .i64 0,.string ⟨#[]⟩,.slice none 0 0,.slice none 0 0] (g:=w.heap.size) x (Nat.le_refl _) (o:=0);have z:Hid (u (.returned (.tuple #[.agg #[.int .i64 0,.bool false,.int .i64 0,.string ⟨#[]⟩,.slice none 0 0,.slice none 0 0],.int .i64 M])) ((((((w1.setCell ⟨w.heap.size,0,none⟩ (.int .i64 0)).setCell ⟨w.heap.size,1,none⟩ (.bool false)).setCell ⟨w.heap.size,2,none⟩ (.int .i64 0)).setCell ⟨w.heap.size,3,none⟩ (.string ⟨#[]⟩)).setCell ⟨w.heap.size,4,none⟩ (.slice none 0 0)).setCell ⟨w.heap.size,5,none⟩ (.slice none 0 0))):=by
  show u _ _;rw[<-q.out];exact⟨k,rfl⟩
 clear k i x b;go_wp2;exact bodyPost_ret (B3 rfl rfl r.out) rfl z.out
def Jv (l:List POp):ByteArray:=if A8 none l=0 then Nr (E0 l)else⟨#[]⟩
theorem Nl (l:List POp) (a:Option Addr) (n c:Nat) (w:World) (q:Cj w) (hN:Km w) (h:Ag w w.heap.size (.row 8 (Eo l)) [.slice a n c]) (I:Da l<=10000000) (g:inQ l):
 Calls Tryz.prog 17 #[.slice a n c] w fun e w'=>e=.returned (.tuple #[.string (Jv l),.int .i64 (A8 none l)])/\Below w.heap.size w w':=by
 obtain⟨u,b⟩: ∃P:Ending->World->Prop,(fun e w'=>e=.returned (.tuple #[.string (Jv l),.int .i64 (A8 none l)])/\Below w.heap.size w w')=P:=⟨_,rfl⟩;rw[b];by_cases i:A8 none l=0
 . have o:=Nk l a n c w q hN h (by omega) g i;have t:=Qc (d:=1) (Gh i) (by omega);have F:=Ny l;have G:=Gp l;have s:=Th g;have j:=fun(W:World) (E:Below w.heap.size w W) cs v=>Ab1 (E0 l) cs W (q.below E) v (by omega) s;rw[t]at j;rw[i,show Jv l=Nr (E0 l)from if_pos i]at b;generalize Nr (E0 l)=S at j b;obtain⟨x,z,k⟩:=hid3 o j b;clear o j b;clear q hN h g i t s;go_enter Tryz.func17,Tryz.ntmps17;go_wp2_with (fail);(with_reducible refine(x.out).mono ?_);rintro e w1 ⟨f,B,C,rfl,A⟩;have v:=Be _ _ ((A.later (Aa w1 (.cells #[.int .i64 5,.bool false,.int .i64 0,.string ⟨#[]⟩,.slice B l.length C,.slice none 0 0] 42))).now);have m:=f.alloc f.size (.cells #[.int .i64 5,.bool false,.int .i64 0,.string ⟨#[]⟩,.slice B l.length C,.slice none 0 0] 42);have D:=qz (z.out _ m _ v);have p:=qz m;clear m;clear A v f;go_wp2_with (fail);(with_reducible refine(D.out).mono ?_);rintro e H ⟨rfl,r⟩;have y:Hid (u (.returned (.tuple #[.string S,.int .i64 0])) H):=by
    show u _ _;rw[<-k.out];exact⟨rfl,p.out.trans (r.mono p.out.size)⟩
   clear r;go_wp2;exact y.out
 . have o:=Ty l a n c w q h (by omega) g i;rw[show Jv l=⟨#[]⟩from if_neg i]at b;generalize A8 none l=M at o i b;have J:(M != 0)=true:=by simpa using i
   obtain⟨x,k⟩:=hid2 o b;clear o b;clear q hN h g i;go_enter Tryz.func17,Tryz.ntmps17;go_wp2_with (fail);(with_reducible refine(x.out).mono ?_);rintro e w1 ⟨f,rfl⟩;have y:Hid (u (.returned (.tuple #[.string ⟨#[]⟩,.int .i64 M])) (w1.alloc (.cells #[.int .i64 0,.bool false,.int .i64 0,.string ⟨#[]⟩,.slice none 0 0,.slice none 0 0] 42))):=by
    show u _ _;rw[<-k.out];exact⟨rfl,f.alloc f.size _⟩
   clear f;go_wp2;exact y.out
structure LO (w:World) (l:List POp) (q:Nat) (wr:World) (V:Value):Prop where
 below:Below w.heap.size w wr
 row:C3 w.heap.size 80 8 wr (Eo (l.take q)) V
def Sa (l:List POp) (w:World) (e:Ending) (w':World):Prop:=Below w.heap.size w w'/\ ∃a' c',e=.returned (.slice a' l.length c')/\A7 w.heap.size w' (.row 8 (Eo l)) [.slice a' l.length c']
theorem Aap (l:List POp) (a:Option Addr) (n cc:Nat) (w:World) (h:Ag w w.heap.size (.row 8 (Eo l)) [.slice a n cc]) (hb:Da l<=100000000):
 Calls Tryz.prog 15 #[.slice a n cc] w (Sa l w):=by
 obtain⟨PO,D⟩: ∃P:Ending->World->Prop,Sa l w=P:=⟨_,rfl⟩;rw[D];have az:=Gp l;have hn:=h.row_len;rw[E8]at hn;subst hn;obtain⟨j0,hj,Z,aa,ab⟩:=info_parts Sh;have L:Hid (LO w l 0 w (.slice none 0 0)):=⟨Below.refl _ _,by simpa[Eo]using C3.nil _ _ _ _⟩;obtain⟨H,Hj,ai,aj,ak,ag⟩:=hid6 h hj Z aa ab D;clear h hj Z aa ab D;go_enter Tryz.func15,Tryz.ntmps15;go_wp2_with (fail);go_loopw [3,4] (fun V i wr=> ∃q:Nat,i=.int .i64 q/\q<=l.length/\Hid (LO w l q wr V)) (fun _ i _=>l.length - (intOf i).toNat)
 case atStart=>exact⟨0,rfl,Nat.zero_le _,L⟩
 case round=>
  obtain⟨q,rfl,hq,J⟩:=hrel;clear L;by_cases aq:q<l.length
  . obtain⟨p,X⟩: ∃p,l[q]? =some p:=⟨_,List.getElem?_eq_getElem aq⟩;have y:=List.mem_of_getElem? X;have al:=Jn y;have Y:Eo (l.take q)++ [dQ p]=Eo (l.take (q+1)):=by
     unfold Eo;rw[List.take_add_one,X];simp
    obtain⟨I,key,⟨m,b',s,v,l',o'⟩⟩:=p;simp only at al;have j:=J.out.below;have hz:=j.size;obtain⟨k,c,rfl,ax,ac,ad,ae,af,hv,c0,c1,c2,c3,c4,c5,c6,c7⟩:=Ma H.out X;have S:(Eo (l.take q)).length=q:=by rw[E8,List.length_take];omega
    have O:Hid ((Eo (l.take q)).length+1<=maxLen/\((Eo (l.take q)).length+1)*112<=140737488355328):=by rw[S];exact⟨by simp only[maxLen];omega,by omega⟩
    have a1:(q:Int)<(l.length:Int):=by omega
    have a0:(0:Int)<=q:=by omega
    have hC: ∀W,Below wr.heap.size wr W->Calls Tryz.prog 31 #[.agg #[.int .i64 m,.bool b',.int .i64 s,.string v,.slice ac l'.length ad,.slice ae o'.length af]] W fun e w'=>(∃C,e=.returned (.agg (C:List Value).toArray)/\C.length=6/\Lu W w' (.mk m b' s v l' o') C)/\Below W.heap.size W w':=
     fun W hW=>Sw _ _ W (Ab.more (Nat.le_trans hz hW.size) _ _ (hv.below (j.trans (hW.mono hz)))) (by omega)
    obtain⟨aV,cV,rfl⟩:=J.out.row.slice;have z:=J.out.row;have ar:k<wr.heap.size:=by omega
    obtain⟨av,aw⟩:=E4 j;obtain⟨HC,Hp,Hv,g,ah,x⟩:=hid6 hC X hv j Y z;clear hC X hv j Y z;clear y S;go_upto_region 5 with(fail)
    go_region_held3 (fun W=>W.cell? ⟨k,c+q*8,none⟩=some (.int .i64 I)/\W.cell? ⟨k,c+q*8+1,none⟩=some (.string key)/\W.cell? ⟨k,c+q*8+2,none⟩=some (.int .i64 m)/\W.cell? ⟨k,c+q*8+3,none⟩=some (.bool b')/\W.cell? ⟨k,c+q*8+4,none⟩=some (.int .i64 s)/\W.cell? ⟨k,c+q*8+5,none⟩=some (.string v)/\W.cell? ⟨k,c+q*8+6,none⟩=some (.slice ac l'.length ad)/\W.cell? ⟨k,c+q*8+7,none⟩=some (.slice ae o'.length af)) (go_keep) (first
     |(refine Do (d:=dQ ⟨I,key,.mk m b' s v l' o'⟩) (V:=(.slice aV (Eo (l.take q)).length cV)) (by rfl) (.tmp 11) (.tmp 29) 50 (by rfl) Tryz.underlying50 Hj.out ai.out aj.out ak.out rfl (by omega) (by rfl) x.out (by have:=g.out.size;omega) M.out (Kn _) N.out (by rfl) (Mf w4 _ _ _ _ _ _ _ _) O.out.1 O.out.2 ?_;intro V6 w6 f U Q;have G:=Jk B.out U x.out (by omega) B.out.size;obtain⟨an,ao⟩:=E4 G;rw[ah.out]at f;have K:=qz (And.intro f G);clear f U Q G)
     |(go_at_call 31;refine(HC.out _ ?_).mono ?_;(exact(Below.drew (Below.refl _ _)));rintro e w4 ⟨⟨au,rfl,ay,E⟩,R⟩;obtain⟨o,r,t,u,rfl⟩:=Dc (Qz E);have b:Below wr.heap.size wr w4:=((Below.drew (Below.refl _ _)).trans R);have A:=g.out.trans (b.mono g.out.size);obtain⟨am,ap⟩:=E4 A;have B:=qz ((g.out.trans (b.mono g.out.size)).alloc (Nat.le_trans g.out.size b.size) (.cells #[.int .i64 I,.string key,.int .i64 m,.bool b',.int .i64 s,.string v,.slice o l'.length r,.slice t o'.length u] 80));have M:=qz (b.alloc b.size (.cells #[.int .i64 I,.string key,.int .i64 m,.bool b',.int .i64 s,.string v,.slice o l'.length r,.slice t o'.length u] 80));have T:A7 wr.heap.size (w4.alloc (.cells #[.int .i64 I,.string key,.int .i64 m,.bool b',.int .i64 s,.string v,.slice o l'.length r,.slice t o'.length u] 80)) (dQ ⟨I,key,.mk m b' s v l' o'⟩) [.int .i64 I,.string key,.int .i64 m,.bool b',.int .i64 s,.string v,.slice o l'.length r,.slice t o'.length u]:=(Zl (Qz E)).later (Aa _ _);have N:=qz T;clear T E R))
    all_goals
     obtain⟨k1,k2⟩:=K.out;have HN:Hid (LO w l (q+1) w6 V6):=⟨k2,k1⟩;clear k1 k2 K N M B am ap b an ao A;go_wp2;go_roundw
     case rel=>exact⟨q+1,by go_num,by omega,HN⟩
     case measure=>simp only[intOf];omega
  . obtain rfl:q=l.length:=by omega
    have F:(Eo (l.take l.length)).length=l.length:=by rw[E8,List.take_length]
    obtain⟨aV,cV,rfl⟩:=J.out.row.slice_n F;obtain⟨i1,i4⟩:=J.out;have hq:=i4.close;have HP:Hid (PO (.returned (.slice aV l.length cV)) wr):=by
     show PO _ _;rw[<-ag.out];obtain⟨a',c',e',_,hf,_⟩:=hq;rw[F]at e' hf;rw[List.take_length]at hf;obtain⟨rfl,rfl⟩:aV=a'/\cV=c':=by simpa using e'
     exact⟨i1,_,_,rfl,hf⟩
    clear J i1 i4 hq F;go_wp2;exact HP.out
theorem A9 {fn:Func} {t u:Tmp} {tmps:Array Value} {W:World} {R:Nat} {b a1 c d e f g i:Value} (h:fn.results= #[.cell t 80,.tmp u]) (m:tmps.getD t undef=.pointer (some ⟨R,0,none⟩)) (j:Ap W R 80 #[b,a1,c,d,e,f,g,i]):
 (results fn tmps).run Tryz.prog W=.ok (.tuple #[.agg #[b,a1,c,d,e,f,g,i],tmps.getD u undef]) W:=by
 obtain⟨c0,c1,c2,c3,c4,c5,k,l⟩:=Fa j;clear j;have a:tmps[t]?.getD undef=.pointer (some ⟨R,0,none⟩):=by simpa using m
 simp[results,h,a,go_sem,c0,c1,c2,c3,c4,c5,k,l]
abbrev Jc:Array Value:= #[.int .i64 0,.string ⟨#[]⟩,.int .i64 0,.bool false,.int .i64 0,.string ⟨#[]⟩,.slice none 0 0,.slice none 0 0]
def Kx (v:Val) (w:World) (e:Ending) (w':World):Prop:=Below w.heap.size w w'/\ ∃cs:List Value,e=.returned (.tuple #[.agg cs.toArray,.int .i64 (Ed v).1])/\((Ed v).1≠0->cs=Jc.toList)/\((Ed v).1=0->A7 w.heap.size w' (dQ (Ed v).2) cs)
theorem Kx.no {v:Val} {w w':World} {c:Int} (h:Ed v=(c,Dj)) (b:c≠0) (a:Below w.heap.size w w'):Kx v w (.returned (.tuple #[.agg Jc,.int .i64 c])) w':=
 ⟨a,Jc.toList,by rw[h],fun _=>rfl,fun e=>by rw[h]at e;exact absurd e b⟩
structure RI (w:World) (six:Array Value) (wr:World):Prop where
 below:Below w.heap.size w wr
 box:Ap wr w.heap.size 42 six
 res:Ap wr (w.heap.size+1) 80 Jc
theorem RI.alloc {w wr:World} {six:Array Value} (h:RI w six wr) (o:Obj):RI w six (wr.alloc o):=⟨h.below.alloc h.below.size o,h.box.alloc o,h.res.alloc o⟩
theorem RI.call {w wr w':World} {six:Array Value} (h:RI w six wr) (a:Below wr.heap.size wr w'):RI w six w':=⟨h.below.trans (a.mono h.below.size),h.box.below a h.box.lt,h.res.below a h.res.lt⟩
theorem RI.zero {w wr:World} {six:Array Value} (h:RI w six wr):Ap (A4 wr (w.heap.size+1) 0 Jc.toList) (w.heap.size+1) 80 Jc/\Below w.heap.size w (A4 wr (w.heap.size+1) 0 Jc.toList):=
 ⟨(((((((h.res.set_ 0 (.int .i64 0)).set_ 1 (.string ⟨#[]⟩)).set_ 2 (.int .i64 0)).set_ 3 (.bool false)).set_ 4 (.int .i64 0)).set_ 5 (.string ⟨#[]⟩)).set_ 6 (.slice none 0 0)).set_ 7 (.slice none 0 0),As _ h.below (Nat.le_succ _)⟩
theorem Kv.any {v:Val} {key:ByteArray} {w w':World} {e:Ending} (r:Bo v=6) (h:Kv v key w e w'):Below w.heap.size w w'/\ ∃c d f g,∃k b n t l o,(Av key (Bx v)).getD Ls=.mk k b n t l o/\
 e=.returned (.tuple #[.agg #[.int .i64 k,.bool b,.int .i64 n,.string t,.slice c (l:List Val).length d,.slice f (o:List (ByteArray×Val)).length g],.int .i64 (if(Av key (Bx v)).isSome then 0 else 12)])/\
 A7 w.heap.size w' (dV (.mk k b n t l o)) [.int .i64 k,.bool b,.int .i64 n,.string t,.slice c l.length d,.slice f o.length g]:=by
 obtain⟨j,h⟩:=h;rw[if_neg (by omega)]at h;refine⟨j, ?_⟩
 cases hf:Av key (Bx v)with
 |none=>
  rw[hf]at h;refine⟨none,0,none,0,0,false,0,Lf, [], [],rfl,h,fun i _ _=> ?_⟩;exact Fl _ _ (N9 i _)
 |some x=>
  rw[hf]at h;obtain⟨cs,rfl,a⟩:=h;obtain⟨k,b,n,t,l,o⟩:=x;obtain⟨m,p,q,oc,rfl⟩:=Dc a;exact⟨m,p,q,oc,k,b,n,t,l,o,rfl,rfl,a⟩
theorem Af0 {key:ByteArray} {a:Int} {b':Bool} {b:Int} {c:ByteArray} {l':List Val} {o':List (ByteArray×Val)} (f:(Val.mk a b' b c l' o').bulk<=100000000):((Av key o').getD Ls).bulk<=100000000:=by
 cases h:Av key o' with
 |none=>decide
 |some x=>
  have d:=C4 (Ia h);have e:Af o'<=(Val.mk a b' b c l' o').bulk:=by simp only[Val.bulk];omega
  simp only at d;show x.bulk<=_;omega
theorem Aec (w:World):(zeroValue 144).run Tryz.prog w=.ok (.agg #[.int .i64 0,.bool false,.bool false]) w:=by kernel_rfl
theorem Adm (k':Int) (b':Bool) (t:Int) (u:ByteArray) (l':List Val) (o':List (ByteArray×Val)) (la lc oa oc) (g:Nat) (w:World)
 (h:Ag w w.heap.size (dV (.mk k' b' t u l' o')) [.int .i64 k',.bool b',.int .i64 t,.string u,.slice la l'.length lc,.slice oa o'.length oc]) (hb:(Val.mk k' b' t u l' o').bulk<=100000000) (hM:Fh w g 3 L2):
 Calls Tryz.prog 39 #[.map (some g),.agg #[.int .i64 k',.bool b',.int .i64 t,.string u,.slice la l'.length lc,.slice oa o'.length oc]] w (Kx (.mk k' b' t u l' o') w):=by
 have N:RI w #[.int .i64 k',.bool b',.int .i64 t,.string u,.slice la l'.length lc,.slice oa o'.length oc] ((w.alloc (.cells #[.int .i64 k',.bool b',.int .i64 t,.string u,.slice la l'.length lc,.slice oa o'.length oc] 42)).alloc (.cells Jc 80)):=
  ⟨((Below.refl _ _).alloc (Nat.le_refl _) _).alloc (by simp) _,(Ap.new w _ _).alloc _,by simpa using Ap.new (w.alloc (.cells #[.int .i64 k',.bool b',.int .i64 t,.string u,.slice la l'.length lc,.slice oa o'.length oc] 42)) 80 Jc⟩
 obtain⟨wi,cp⟩: ∃wi,(w.alloc (.cells #[.int .i64 k',.bool b',.int .i64 t,.string u,.slice la l'.length lc,.slice oa o'.length oc] 42)).alloc (.cells Jc 80)=wi:=⟨_,rfl⟩;rw[cp]at N;have dq:=hM.lt;obtain⟨x0,x1,x2,x3,x4,x5⟩:=At N.box;have xl:=N.box.lt;by_cases M:k'=6;rotate_left
 . have e1:(k' != 6)=true:=by simpa using M
   have HP:=qz (fun W hW=>Kx.no (w:=w) (w':=W) (show Ed (.mk k' b' t u l' o')=(9,Dj)from if_pos M) (by omega) hW);obtain⟨HI,H,HM⟩:=hid3 N h hM;clear h hM;obtain⟨r0,r1,r2,r3,r4,r5,r6,r7⟩:=Fa N.res;have fz:=N.res.frozen;have aq:=N.res.lt;clear M N;go_enter Tryz.func39,Tryz.ntmps39;go_upto_region 2 with(fail);clear cp
   repeat go_step
   have hz:=HI.out.zero;exact bodyPost_ret (A9 rfl rfl hz.1) rfl (HP.out _ hz.2)
 subst M;have X:=qz (fun key (W:World) hB=>Xy 6 b' t u l' o' la lc oa oc key W ((h.below (w':=W) hB).more hB.size) hb);have c6: ∀nm,Av Cf o'=some nm->Bo nm=4-> ∀k y Y,Ka (Ea nm)=some (k,y,Y)->Ed (.mk 6 b' t u l' o')=if(Av Aw o').isSome≠y\/(Av Bu o').isSome≠Y\/o'.length≠1+(if y then 1 else 0)+(if Y then 1 else 0)then(10,Dj)
  else if y=true/\Bo ((Av Aw o').getD Ls)≠4 then(9,Dj)
  else(0,⟨k,Ea ((Av Aw o').getD Ls),(Av Bu o').getD Ls⟩):=fun nm h1 h2 k y Y h3=>by
  unfold Ed;rw[if_neg (show ¬Bo (.mk 6 b' t u l' o')≠6 from fun h=>h rfl)];show(match Av Cf o' with|none=>_|some nm=>_)=_;rw[h1];simp only;rw[if_neg (by omega),h3];rfl
 obtain⟨bo,H,HM,dg⟩:=hid4 N h hM c6;clear N h hM c6;go_enter Tryz.func39,Tryz.ntmps39;go_upto_region 1 with(fail);clear cp;go_wp2_with (fail);(with_reducible refine(X.out Cf _ bo.out.below).mono ?_);rintro e T c7;obtain⟨ad,bw,bx,bz,b0,nk,nb,nn,nt,nl,no,bi,rfl,aa⟩:=Kv.any rfl c7;have z:=(bo.out.call ad).alloc (.cells #[.int .i64 nk,.bool nb,.int .i64 nn,.string nt,.slice bw nl.length bx,.slice bz no.length b0] 42);have r:=Ap.new T 42 #[.int .i64 nk,.bool nb,.int .i64 nn,.string nt,.slice bw nl.length bx,.slice bz no.length b0];have d8:=(bo.out.call ad).below.size;have b9:Hid (w.heap.size+1<T.heap.size):=(bo.out.call ad).res.lt;clear c7 x0 x1 x2 x3 x4 x5 xl;by_cases hs:(Av Cf o').isSome=true;rotate_left
 . rw[show(if(Av Cf (Bx (Val.mk 6 b' t u l' o'))).isSome=true then(0:Int)else 12)=12 from if_neg hs];have V:=fun W hW=>Kx.no (w:=w) (w':=W) (v:=.mk 6 b' t u l' o') (c:=10) (by
    have:Av Cf o'=none:=by simpa using hs
    unfold Ed;rw[if_neg (show ¬Bo (.mk 6 b' t u l' o')≠6 from fun h=>h rfl)];show(match Av Cf o' with|none=>_|some nm=>_)=_;rw[this]) (by omega) hW
   obtain⟨HP,a4,br⟩:=hid3 V r aa;clear V r aa;clear hs bi ad;obtain⟨r0,r1,r2,r3,r4,r5,r6,r7⟩:=Fa z.res;have fz:=z.res.frozen;have aq:=z.res.lt;have HI:=qz z;go_upto_region 5 with(fail)
   repeat go_step
   have hz:=HI.out.zero;exact bodyPost_ret (A9 rfl rfl hz.1) rfl (HP.out _ hz.2)
 rw[show(if(Av Cf (Bx (Val.mk 6 b' t u l' o'))).isSome=true then(0:Int)else 12)=0 from if_pos hs];obtain⟨nm,ae⟩:=Option.isSome_iff_exists.1 hs;obtain rfl:nm=.mk nk nb nn nt nl no:=by
  have h:=bi;rw[show Av Cf (Bx (Val.mk 6 b' t u l' o'))=some nm from ae]at h;exact h
 obtain⟨m0,m1,m2,m3,m4,m5⟩:=At r;have ml:=r.lt;by_cases h4:nk=4;rotate_left
 . have e4:(nk != 4)=true:=by simpa using h4
   have V:=fun W hW=>Kx.no (w:=w) (w':=W) (v:=.mk 6 b' t u l' o') (c:=9) (by
    unfold Ed;rw[if_neg (show ¬Bo (.mk 6 b' t u l' o')≠6 from fun h=>h rfl)];show(match Av Cf o' with|none=>_|some nm=>_)=_;rw[ae];exact if_pos h4) (by omega) hW
   obtain⟨HP,a4,br⟩:=hid3 V r aa;clear V r aa;clear hs bi ad h4 ae;obtain⟨r0,r1,r2,r3,r4,r5,r6,r7⟩:=Fa z.res;have fz:=z.res.frozen;have aq:=z.res.lt;have HI:=qz z;go_upto_region 7 with(fail)
   repeat go_step
   have hz:=HI.out.zero;exact bodyPost_ret (A9 rfl rfl hz.1) rfl (HP.out _ hz.2)
 subst h4;have bd:=HM.out.below z.below dq;have bl:=Agw Pe Tryz.underlying87 bd nt Aec true
 cases hfo:Ka nt with
 |none=>
  have U:L2 nt=none:=by unfold L2;rw[hfo];rfl
  rw[U]at bl;simp only[Option.getD_none,Option.isSome_none,if_true]at bl;have V:=fun W hW=>Kx.no (w:=w) (w':=W) (v:=.mk 6 b' t u l' o') (c:=12) (by
   unfold Ed;rw[if_neg (show ¬Bo (.mk 6 b' t u l' o')≠6 from fun h=>h rfl)];show(match Av Cf o' with|none=>_|some nm=>_)=_;rw[ae];simp only;rw[if_neg (show ¬Bo (.mk 4 nb nn nt nl no)≠4 from fun h=>h rfl),show Ka (Ea (.mk 4 nb nn nt nl no))=none from hfo]) (by omega) hW
  have O:=z.alloc (.cells #[.int .i64 0,.bool false,.bool false] 144);obtain⟨HP,a4,br,b8⟩:=hid4 V r aa bd;clear V r aa bd;clear hs bi ad ae U;obtain⟨r0,r1,r2,r3,r4,r5,r6,r7⟩:=Fa O.res;have fz:=O.res.frozen;have aq:=O.res.lt;have HI:=qz O;go_upto_region 10 with(fail)
  repeat go_step
  have hz:=HI.out.zero;exact bodyPost_ret (A9 rfl rfl hz.1) rfl (HP.out _ hz.2)
 |some f=>
  obtain⟨k,y,Y⟩:=f;have U:L2 nt=some (.agg #[.int .i64 k,.bool y,.bool Y]):=by unfold L2;rw[hfo];rfl
  rw[U]at bl;simp only[Option.getD_some,Option.isSome_some,if_true]at bl;have cc:=qz (dg.out _ ae rfl _ _ _ hfo);have O:=z.alloc (.cells #[.int .i64 k,.bool y,.bool Y] 144);have af:=Ap.new (T.alloc (.cells #[.int .i64 4,.bool nb,.int .i64 nn,.string nt,.slice bw nl.length bx,.slice bz no.length b0] 42)) 144 #[.int .i64 k,.bool y,.bool Y];obtain⟨x0,x1,x2,x3,x4,x5⟩:=At O.box;have xl:=O.box.lt;obtain⟨a4,br,b8⟩:=hid3 r aa bd;clear r aa bd;clear hs bi ad ae U;go_upto_region 11 with(fail);clear bl m0 m1 m2 m3 m4 m5 ml hfo;rw[World.size_alloc]at af;generalize (T.alloc (.cells #[.int .i64 4,.bool nb,.int .i64 nn,.string nt,.slice bw nl.length bx,.slice bz no.length b0] 42)).alloc (.cells #[.int .i64 k,.bool y,.bool Y] 144)=w3 at O af x0 x1 x2 x3 x4 x5 xl ⊢;obtain⟨cq,ax⟩:=hid2 O af;clear O af;clear z;go_wp2_with (fail);(with_reducible refine(X.out Aw _ cq.out.below).mono ?_);rintro e w4 c8;obtain⟨bt,a8,a9,ba,bb,ak,ab,an,i,al,ao,c3,rfl,c2⟩:=Kv.any rfl c8;have cb:Hid (T.heap.size+1<w4.heap.size):=Nat.lt_of_lt_of_le ax.out.lt bt.size;have ca:Hid (w.heap.size+1<T.heap.size):=b9.out;have bs:=(cq.out.call bt).alloc (.cells #[.int .i64 ak,.bool ab,.int .i64 an,.string i,.slice a8 al.length a9,.slice ba ao.length bb] 42);have cy:=qz (Ap.new w4 42 #[.int .i64 ak,.bool ab,.int .i64 an,.string i,.slice a8 al.length a9,.slice ba ao.length bb]);have b1:=qz ((ax.out.below bt ax.out.lt).alloc (.cells #[.int .i64 ak,.bool ab,.int .i64 an,.string i,.slice a8 al.length a9,.slice ba ao.length bb] 42));obtain⟨M,cl⟩: ∃B,(Av Aw o').isSome=B:=⟨_,rfl⟩;obtain⟨cA,ch⟩: ∃c:Int,(if(Av Aw (Bx (Val.mk 6 b' t u l' o'))).isSome=true then(0:Int)else 12)=c:=⟨_,rfl⟩;rw[ch];have d4:(cA==0)=M:=by
   rw[<-ch,<-cl];show((if(Av Aw o').isSome=true then(0:Int)else 12)==0)=_
   cases (Av Aw o').isSome<;>rfl
  clear ch;obtain⟨y0,y1,y2,y3,y4,y5⟩:=At bs.box;have yl:=bs.box.lt;obtain⟨cr,cw,cu,de⟩:=hid4 bs c3 c2 cl;clear bs c3 c2 cl;clear c8 bt x0 x1 x2 x3 x4 x5 xl;go_wp2_with (fail);(with_reducible refine(X.out Bu _ cr.out.below).mono ?_);rintro e x c9;obtain⟨am,j,l,n,q,C,A,E,G,D,F,c4,rfl,U⟩:=Kv.any rfl c9;have cs:=qz ((cr.out.call am).alloc (.cells #[.int .i64 C,.bool A,.int .i64 E,.string G,.slice j D.length l,.slice n F.length q] 42));have cz:=qz (Ap.new x 42 #[.int .i64 C,.bool A,.int .i64 E,.string G,.slice j D.length l,.slice n F.length q]);have b6:=qz ((cy.out.below am cy.out.lt).alloc (.cells #[.int .i64 C,.bool A,.int .i64 E,.string G,.slice j D.length l,.slice n F.length q] 42));have R:=(b1.out.below am b1.out.lt).alloc (.cells #[.int .i64 C,.bool A,.int .i64 E,.string G,.slice j D.length l,.slice n F.length q] 42);have b3:=qz ((cu.out.later ((Aa w4 (.cells #[.int .i64 ak,.bool ab,.int .i64 an,.string i,.slice a8 al.length a9,.slice ba ao.length bb] 42)).trans (am.mono (by simp)))).later (Aa x (.cells #[.int .i64 C,.bool A,.int .i64 E,.string G,.slice j D.length l,.slice n F.length q] 42)));have b4:=qz (U.later (Aa x (.cells #[.int .i64 C,.bool A,.int .i64 E,.string G,.slice j D.length l,.slice n F.length q] 42)));obtain⟨hv,cm⟩: ∃B,(Av Bu o').isSome=B:=⟨_,rfl⟩;obtain⟨cV,ci⟩: ∃c:Int,(if(Av Bu (Bx (Val.mk 6 b' t u l' o'))).isSome=true then(0:Int)else 12)=c:=⟨_,rfl⟩;rw[ci];have d5:(cV==0)=hv:=by
   rw[<-ci,<-cm];show((if(Av Bu o').isSome=true then(0:Int)else 12)==0)=_
   cases (Av Bu o').isSome<;>rfl
  clear ci;obtain⟨f0,f1,f2⟩:(x.alloc (.cells #[.int .i64 C,.bool A,.int .i64 E,.string G,.slice j D.length l,.slice n F.length q] 42)).cell? ⟨T.heap.size+1,0,none⟩=some (.int .i64 k)/\(x.alloc (.cells #[.int .i64 C,.bool A,.int .i64 E,.string G,.slice j D.length l,.slice n F.length q] 42)).cell? ⟨T.heap.size+1,1,none⟩=some (.bool y)/\(x.alloc (.cells #[.int .i64 C,.bool A,.int .i64 E,.string G,.slice j D.length l,.slice n F.length q] 42)).cell? ⟨T.heap.size+1,2,none⟩=some (.bool Y):=⟨R.cell 0,R.cell 1,R.cell 2⟩;have fl:=R.lt;have dk:Hid (w4.heap.size<x.heap.size):=Nat.lt_of_lt_of_le (by simp) am.size;obtain⟨b2,cx,dd,df⟩:=hid4 R c4 U cm;clear R c4 U cm;clear c9 am y0 y1 y2 y3 y4 y5 yl;go_upto_region 14 with(fail);have ce:=cs.out.alloc (.cells #[.int .i64 k,.bool M,.bool hv] 144);have bu:=Ap.new (x.alloc (.cells #[.int .i64 C,.bool A,.int .i64 E,.string G,.slice j D.length l,.slice n F.length q] 42)) 144 #[.int .i64 k,.bool M,.bool hv];rw[World.size_alloc]at bu;have bn:=cz.out.alloc (.cells #[.int .i64 k,.bool M,.bool hv] 144);have bk:=b6.out.alloc (.cells #[.int .i64 k,.bool M,.bool hv] 144);have be:=b2.out.alloc (.cells #[.int .i64 k,.bool M,.bool hv] 144);have bf:=b3.out.later (Aa _ (.cells #[.int .i64 k,.bool M,.bool hv] 144));have bg:=b4.out.later (Aa _ (.cells #[.int .i64 k,.bool M,.bool hv] 144));clear f0 f1 f2 fl;generalize (x.alloc (.cells #[.int .i64 C,.bool A,.int .i64 E,.string G,.slice j D.length l,.slice n F.length q] 42)).alloc (.cells #[.int .i64 k,.bool M,.bool hv] 144)=w6 at ce bu bn bk be bf bg ⊢;obtain⟨P,V⟩: ∃P:Bool,decide (M≠y\/hv≠Y\/o'.length≠1+(if y then 1 else 0)+(if Y then 1 else 0))=P:=⟨_,rfl⟩;have d0:=qz (Below.refl w6.heap.size w6);obtain⟨bp,az,a6,a1,I,cv,b5⟩:=hid7 ce bu bn bk be bf bg;clear ce bu bn bk be bf bg;clear cs cz b6 b2 b3 b4;go_cut [68] (fun s wx=>s=.bool P/\Hid (Below w6.heap.size w6 wx))
  case first=>
   have bq:=qz (fun W=>Tb k y Y W);have v5:=bp.out.box.cell 5;have d9:=bp.out.box.lt;obtain⟨f0,f1,f2⟩:w6.cell? ⟨T.heap.size+1,0,none⟩=some (.int .i64 k)/\w6.cell? ⟨T.heap.size+1,1,none⟩=some (.bool y)/\w6.cell? ⟨T.heap.size+1,2,none⟩=some (.bool Y):=⟨I.out.cell 0,I.out.cell 1,I.out.cell 2⟩;obtain⟨h0,h1,h2⟩:w6.cell? ⟨x.heap.size+1,0,none⟩=some (.int .i64 k)/\w6.cell? ⟨x.heap.size+1,1,none⟩=some (.bool M)/\w6.cell? ⟨x.heap.size+1,2,none⟩=some (.bool hv):=⟨az.out.cell 0,az.out.cell 1,az.out.cell 2⟩;have fl:=I.out.lt;have hl:=az.out.lt;have d6:(k==k)=true:=by simp
   clear X br b8 cc cw cu cx dd;by_cases bv:M=y/\hv=Y
   . obtain⟨rfl,rfl⟩:=bv;obtain⟨mI,c5⟩: ∃m:Int,((1+(if M then 1 else 0)+(if hv then 1 else 0):Nat):Int)=m:=⟨_,rfl⟩;have cf:=bq.out;rw[c5]at cf;have em:((o'.length:Int) != mI)=P:=by
      rw[<-V,<-c5,Bool.eq_iff_iff];simp only[bne_iff_ne,ne_eq,decide_eq_true_eq,not_true_eq_false,false_or];omega
     have d2:(M==M)=true:=by simp
     have d3:(hv==hv)=true:=by simp
     clear V bq;have bq:=qz cf;clear cf
     go_region_with (go_at_call 78;(with_reducible refine(bq.out _).mono ?_);rintro e w7 ⟨rfl,c0⟩;have co:Below w6.heap.size w6 w7:=(Below.drew (Below.refl _ _)).trans c0;obtain⟨dm,dp⟩:=E4 co)
     all_goals
      have db:=qz co;clear dm dp c0 co;go_wp2;go_meet;exact⟨rfl,db⟩
   . obtain rfl:true=P:=by
      rw[<-V];refine(decide_eq_true ?_).symm;by_cases h:M=y
      . exact .inr (.inl fun h2=>bv ⟨h,h2⟩)
      . exact .inl h
     clear V
     cases M<;>cases hv<;>cases y<;>cases Y
     all_goals first
      |exact absurd ⟨rfl,rfl⟩ bv
      |skip
     all_goals
      clear bv;go_quiet (fail);go_wp2;go_meet;exact⟨rfl,qz ⟨rfl,rfl,rfl,Nat.le_refl _,fun _ _=>rfl⟩⟩
  case rest=>
   obtain⟨rfl,ap⟩:=hcut;have J:=bp.out.call ap.out;have Z:=I.out.below ap.out I.out.lt;have ac:=a1.out.below ap.out a1.out.lt;have aj:=a6.out.below ap.out a6.out.lt;have bh:=b5.out.later ap.out;have Q:=cc.out;rw[de.out,df.out]at Q
   cases P with
   |true=>
    have bm:Ed (.mk 6 b' t u l' o')=(10,Dj):=by
     rw[Q,if_pos];exact of_decide_eq_true V
    have HP:=qz (fun W hW=>Kx.no (w:=w) (w':=W) bm (by omega) hW);clear Q bm V;obtain⟨r0,r1,r2,r3,r4,r5,r6,r7⟩:=Fa J.res;have fz:=J.res.frozen;have aq:=J.res.lt;have HI:=qz J;go_upto_region 15 with(fail)
    repeat go_step
    have hz:=HI.out.zero;exact bodyPost_ret (A9 rfl rfl hz.1) rfl (HP.out _ hz.2)
   |false=>
    have cn:=of_decide_eq_false V;rw[if_neg cn]at Q;have b7:(Av Aw o').getD Ls=.mk ak ab an i al ao:=cw.out;have bj:(Av Bu o').getD Ls=.mk C A E G D F:=cx.out;rw[b7,bj]at Q;have c1:(Val.mk C A E G D F).bulk<=100000000:=by rw[<-bj];exact Af0 hb
    obtain⟨f0,f1⟩:wc.cell? ⟨T.heap.size+1,0,none⟩=some (.int .i64 k)/\wc.cell? ⟨T.heap.size+1,1,none⟩=some (.bool y):=⟨Z.cell 0,Z.cell 1⟩;have fl:=Z.lt;obtain⟨a0,a3⟩:wc.cell? ⟨w4.heap.size,0,none⟩=some (.int .i64 ak)/\wc.cell? ⟨w4.heap.size,3,none⟩=some (.string i):=⟨ac.cell 0,ac.cell 3⟩;have kl:=ac.lt;by_cases h9:y=true/\ak≠4
    . obtain⟨rfl,h9⟩:=h9;have e9:(ak != 4)=true:=by simpa using h9
      have bm:Ed (.mk 6 b' t u l' o')=(9,Dj):=by
       rw[Q,if_pos ⟨rfl,h9⟩]
      have HP:=qz (fun W hW=>Kx.no (w:=w) (w':=W) bm (by omega) hW);clear Q bm cn h9 V;obtain⟨r0,r1,r2,r3,r4,r5,r6,r7⟩:=Fa J.res;have fz:=J.res.frozen;have aq:=J.res.lt;have HI:=qz J;go_upto_region 17 with(fail)
      repeat go_step
      have hz:=HI.out.zero;exact bodyPost_ret (A9 rfl rfl hz.1) rfl (HP.out _ hz.2)
    . rw[if_neg (show ¬(y=true/\Bo (.mk ak ab an i al ao)≠4)from h9)]at Q;have HC:Hid (∀W,Below wc.heap.size wc W->Calls Tryz.prog 75 #[.agg #[.int .i64 C,.bool A,.int .i64 E,.string G,.slice j D.length l,.slice n F.length q]] W (Jj W (.mk C A E G D F))):=fun W hB=>Iv _ [.int .i64 C,.bool A,.int .i64 E,.string G,.slice j D.length l,.slice n F.length q] W (Be _ _ (bh.later hB).now) c1;obtain⟨v0,v1,v2,v3,v4,v5⟩:=At aj;have ea:=aj.lt;have dy:=J.res.lt;have cj:y=false\/(y=true/\ak=4):=by
       cases y with
       |false=>exact .inl rfl
       |true=>
        refine .inr ⟨rfl, ?_⟩;by_cases h:ak=4
        . exact h
        . exact absurd ⟨rfl,h⟩ h9
      have HS:Hid (∀W:World,Ap W (T.heap.size+1) 144 #[.int .i64 k,.bool y,.bool Y]->Ap W w4.heap.size 42 #[.int .i64 ak,.bool ab,.int .i64 an,.string i,.slice a8 al.length a9,.slice ba ao.length bb]->Ap W x.heap.size 42 #[.int .i64 C,.bool A,.int .i64 E,.string G,.slice j D.length l,.slice n F.length q]->W.cell? ⟨T.heap.size+1,0,none⟩=some (.int .i64 k)/\W.cell? ⟨w4.heap.size,3,none⟩=some (.string i)/\W.cell? ⟨x.heap.size,0,none⟩=some (.int .i64 C)/\W.cell? ⟨x.heap.size,1,none⟩=some (.bool A)/\W.cell? ⟨x.heap.size,2,none⟩=some (.int .i64 E)/\W.cell? ⟨x.heap.size,3,none⟩=some (.string G)/\W.cell? ⟨x.heap.size,4,none⟩=some (.slice j D.length l)/\W.cell? ⟨x.heap.size,5,none⟩=some (.slice n F.length q)):=fun W a b c=>⟨a.cell 0,b.cell 3,c.cell 0,c.cell 1,c.cell 2,c.cell 3,c.cell 4,c.cell 5⟩;have a5:Hid (w.heap.size+1<T.heap.size/\T.heap.size+1<w4.heap.size/\w4.heap.size<x.heap.size):=⟨ca.out,cb.out,dk.out⟩;obtain⟨da,du,a7,a2,ay,cd⟩:=hid6 J bh aj ac Z Q;clear J bh aj ac Z Q;clear h9 V cn ap b7 bj c1 bp I a1 a6 b5 az cv X b8 cc;rcases cj with rfl|⟨rfl,rfl⟩
      all_goals
       go_upto_region 18 with(fail);refine wp_region_held_drew (S:=fun W=>W.cell? ⟨T.heap.size+1,0,none⟩=some (.int .i64 k)/\W.cell? ⟨w4.heap.size,3,none⟩=some (.string i)/\W.cell? ⟨x.heap.size,0,none⟩=some (.int .i64 C)/\W.cell? ⟨x.heap.size,1,none⟩=some (.bool A)/\W.cell? ⟨x.heap.size,2,none⟩=some (.int .i64 E)/\W.cell? ⟨x.heap.size,3,none⟩=some (.string G)/\W.cell? ⟨x.heap.size,4,none⟩=some (.slice j D.length l)/\W.cell? ⟨x.heap.size,5,none⟩=some (.slice n F.length q)) (by kernel_rfl) (HS.out _ ay.out a2.out a7.out) (fun d=> ?_);refine tkH 0 d ?_;refine tkH 1 d ?_;refine tkH 2 d ?_;refine tkH 3 d ?_;refine tkH 4 d ?_;refine wpAnyH_ready (rs:= [5]) (by kernel_rfl) (by simp) ?_;refine AllReadyH.cons rfl (fun K hK=> ?_) AllReadyH.nil;go_simp;(with_reducible refine(HC.out _ (Below.drew (Below.refl _ _))).mono ?_);rintro e w8 ⟨⟨d1,rfl,d7,ck⟩,cg⟩;obtain⟨ar,au,av,aw,rfl⟩:=Dc ck;have L:Below wc.heap.size wc w8:=(Below.drew (Below.refl _ _)).trans cg;have bc:=da.out.call L;have dx:=L.size;have ag:=ay.out.below L ay.out.lt;have ah:=a2.out.below L a2.out.lt;have ai:=a7.out.below L a7.out.lt;refine hK.out _ _ (HS.out _ ag ah ai) (fun d=> ?_);clear hK K
       try simp only[Act.put,tk4,tk5,tk6]
       refine tkH 6 d ?_;refine wpAnyH_ready (rs:= [7]) (by kernel_rfl) (by simp) ?_;refine AllReadyH.cons rfl (fun K hK=> ?_) AllReadyH.nil;obtain⟨r0,r1,r2,r3,r4,r5,r6,r7⟩:=Fa bc.res;have fz:=bc.res.frozen;have aq:=bc.res.lt;have dh:Hid (Ap (A4 w8 (w.heap.size+1) 0 [.int .i64 k,.string i,.int .i64 C,.bool A,.int .i64 E,.string G,.slice ar D.length au,.slice av F.length aw]) (T.heap.size+1) 144 _):=(Ay _ _ _ _ _ (by have:=a5.out;omega)).trans ag;have di:Hid (Ap (A4 w8 (w.heap.size+1) 0 [.int .i64 k,.string i,.int .i64 C,.bool A,.int .i64 E,.string G,.slice ar D.length au,.slice av F.length aw]) w4.heap.size 42 _):=(Ay _ _ _ _ _ (by have:=a5.out;omega)).trans ah;have dj:Hid (Ap (A4 w8 (w.heap.size+1) 0 [.int .i64 k,.string i,.int .i64 C,.bool A,.int .i64 E,.string G,.slice ar D.length au,.slice av F.length aw]) x.heap.size 42 _):=(Ay _ _ _ _ _ (by have:=a5.out;omega)).trans ai;obtain⟨ct,dc,ds,dz,dt,dv,dw⟩:=hid7 bc ck L cg ag ah ai;clear bc ck L cg ag ah ai;go_simp;refine hK.out _ _ (HS.out _ dh.out di.out dj.out) (fun d=> ?_);clear hK K
       try simp only[Act.put,tk4,tk5,tk6]
       refine tkH 8 d ?_;refine wpAnyH_done (by kernel_rfl) ?_ _;clear d r0 r1 r2 r3 r4 r5 r6 r7 fz
       repeat go_step
       have dr:=(((((((ct.out.res.set_ 0 (.int .i64 k)).set_ 1 (.string i)).set_ 2 (.int .i64 C)).set_ 3 (.bool A)).set_ 4 (.int .i64 E)).set_ 5 (.string G)).set_ 6 (.slice ar D.length au)).set_ 7 (.slice av F.length aw);have dl:=As [.int .i64 k,.string i,.int .i64 C,.bool A,.int .i64 E,.string G,.slice ar D.length au,.slice av F.length aw] ct.out.below (Nat.le_succ w.heap.size) (o:=0);have dn:=(Zl (k:=k) (key:=i) dc.out).keep (b':=w.heap.size) (w':=(A4 w8 (w.heap.size+1) 0 [.int .i64 k,.string i,.int .i64 C,.bool A,.int .i64 E,.string G,.slice ar D.length au,.slice av F.length aw])) (by simp;omega) (by rw[Ba];exact Nat.le_refl _) (fun p p1 _=>World.cell?_of_block (Ay _ _ _ _ _ (by simp at p1;omega)));exact bodyPost_ret (A9 rfl rfl dr) rfl ⟨dl,_,by rw[cd.out];rfl,fun h=>absurd (show(Ed (.mk 6 b' t u l' o')).1=0 by rw[cd.out]) h,fun _=>by rw[cd.out];exact dn⟩
theorem Afq {B:Nat} {w:World} {p:POp} {cs:List Value} (h:A7 B w (dQ p) cs): ∃q r s u e f g oc j m,cs= [.int .i64 p.k,.string p.key,.int .i64 q,.bool r,.int .i64 s,.string u,.slice e j f,.slice g m oc]:=by
 obtain⟨k,key,⟨a,b,n,t,l,o⟩⟩:=p;have c:=h.now;unfold dQ at c;simp only[Ag]at c;obtain⟨_,_,rfl,⟨rfl,_⟩,_,_,rfl,⟨rfl,_⟩,v,_,rfl,i,rfl⟩:=c;have d:=Be _ _ i;simp only[Ab]at d;obtain⟨e,f,g,oc,rfl,_,_⟩:=d;exact⟨_,_,_,_,_,_,_,_,_,_,rfl⟩
structure PatI (w:World) (b0 gF:Nat) (l:List Val) (q:Nat) (wr:World) (V:Value):Prop where
 below:Below w.heap.size w wr
 fld:Fh wr gF 3 L2
 ge:w.heap.size<=b0/\gF<b0/\b0<=wr.heap.size
 row:C3 b0 80 8 wr (Eo (Am (l.take q)).2) V
theorem PatI.call {w:World} {b c:Nat} {l:List Val} {q:Nat} {wr w':World} {V:Value} (h:PatI w b c l q wr V) (a:Below wr.heap.size wr w'):PatI w b c l q w' V:=
 ⟨h.below.trans (a.mono h.below.size),h.fld.below a h.fld.lt,⟨h.ge.1,h.ge.2.1,Nat.le_trans h.ge.2.2 a.size⟩,h.row.below a⟩
def Kw (v:Val) (w:World) (e:Ending) (w':World):Prop:=Below w.heap.size w w'/\
 if(Cx v).1≠0 then e=.returned (.tuple #[.slice none 0 0,.int .i64 (Cx v).1])else
  ∃a c,e=.returned (.tuple #[.slice a (Cx v).2.length c,.int .i64 0])/\A7 w.heap.size w' (.row 8 (Eo (Cx v).2)) [.slice a (Cx v).2.length c]
theorem Kw.no {v:Val} {w w':World} {c:Int} (h:(Cx v).1=c) (b:c≠0) (a:Below w.heap.size w w'):Kw v w (.returned (.tuple #[.slice none 0 0,.int .i64 c])) w':=
 ⟨a,by rw[if_pos (by omega),h]⟩
theorem Mb {a:Int} {b':Bool} {b:Int} {c:ByteArray} {l':List Val} {o':List (ByteArray×Val)} (e:A0 (.mk a b' b c l' o') 1=0) (d:a=5):Cx (.mk a b' b c l' o')=if(Am l').1≠0 then((Am l').1, [])else if A8 none (Am l').2=0 then(0,(Am l').2)else(A8 none (Am l').2, []):=by
 unfold Cx;rw[if_neg (by omega),if_neg (show ¬Bo (.mk a b' b c l' o')≠5 from fun h=>h d)];rfl
theorem Mc: ∀(l:List Val),(Am l).2.length<=l.length
 | []=>Nat.le_refl _
 |v::l=>by
  unfold Am;have:=Mc l
  split
  . exact Nat.zero_le _
  split
  . exact Nat.zero_le _
  . simp only[List.length_cons];omega
theorem Ji: ∀{l:List Val},(∀v ∈ l,I9 v/\A0 v 2=0)->(Am l).1=0->Da (Am l).2<=3*A5 l/\inQ (Am l).2
 | [],_,_=>⟨Nat.zero_le _,fun p h=>by cases h⟩
 |v::l,hm,h=>by
  unfold Am at h ⊢;by_cases a:(Ch v).1≠0
  . rw[if_pos a]at h;exact absurd h a
  rw[if_neg a]at h ⊢;by_cases b:(Am l).1≠0
  . rw[if_pos b]at h;exact absurd h b
  rw[if_neg b];obtain⟨m,i⟩:=Ji (fun x g=>hm x (List.mem_cons_of_mem _ g)) (by simpa using b);obtain⟨j,k⟩:=hm v (List.mem_cons_self ..);have e:=Wi k;obtain⟨f,d⟩:=Agj j (by rw[e];simpa using a);rw[e]at f d;refine⟨by simp only[Da,A5];omega,fun p c=> ?_⟩;rcases List.mem_cons.1 c with rfl|c
  . exact d
  . exact i p c
theorem Aak (t:Int) (b':Bool) (u:Int) (y:ByteArray) (l':List Val) (o':List (ByteArray×Val)) (la lc oa oc) (w:World) (hT:Cj w)
 (h:Ag w w.heap.size (dV (.mk t b' u y l' o')) [.int .i64 t,.bool b',.int .i64 u,.string y,.slice la l'.length lc,.slice oa o'.length oc]) (hb:(Val.mk t b' u y l' o').bulk<=30000000) (hi:I9 (.mk t b' u y l' o')):
 Calls Tryz.prog 16 #[.agg #[.int .i64 t,.bool b',.int .i64 u,.string y,.slice la l'.length lc,.slice oa o'.length oc]] w (Kw (.mk t b' u y l' o') w):=by
 obtain⟨wi,a2⟩: ∃wi,w.alloc (.cells #[.int .i64 t,.bool b',.int .i64 u,.string y,.slice la l'.length lc,.slice oa o'.length oc] 42)=wi:=⟨_,rfl⟩;have ac:Below w.heap.size w wi:=a2▸Aa _ _;have ap:Ap wi w.heap.size 42 #[.int .i64 t,.bool b',.int .i64 u,.string y,.slice la l'.length lc,.slice oa o'.length oc]:=a2▸Ap.new _ _ _;have aa:=Pw (.mk t b' u y l' o') [.int .i64 t,.bool b',.int .i64 u,.string y,.slice la l'.length lc,.slice oa o'.length oc] wi (hT.below ac) (Be _ _ ((h.below ac).more ac.size)) (by omega);obtain⟨x0,x1,x2,x3,x4,x5⟩:=At ap;have xl:=ap.lt;obtain⟨M,hM⟩: ∃M,A0 (.mk t b' u y l' o') 1=M:=⟨_,rfl⟩;rw[hM]at aa;obtain⟨a5,a6,be,H,HT,Hi⟩:=hid6 aa ac ap h hT hi;clear aa ac ap h hT hi;go_enter Tryz.func16,Tryz.ntmps16;go_upto_region 1 with(fail);clear a2;go_wp2_with (fail);(with_reducible refine(a5.out).mono ?_);rintro e w1 ⟨rfl,E⟩;have I:=a6.out.trans (E.mono a6.out.size);have A:=be.out.below E be.out.lt;by_cases hm:M=0;rotate_left
 . have tM:(M != 0)=true:=by simpa using hm
   have HP:=qz (Kw.no (v:=.mk t b' u y l' o') (show(Cx (.mk t b' u y l' o')).1=M by unfold Cx;rw[if_pos (by omega)];exact hM) hm I);clear hm hM;go_wp2;go_ret2;exact HP.out
 subst hm;have y0:=A.cell 0;have y4:=A.cell 4;have yl:=A.lt;by_cases hk:t=5;rotate_left
 . have e5:(t != 5)=true:=by simpa using hk
   have HP:=qz (Kw.no (v:=.mk t b' u y l' o') (show(Cx (.mk t b' u y l' o')).1=9 by unfold Cx;rw[if_neg (by omega),if_pos (show Bo (.mk t b' u y l' o')≠5 from hk)]) (by omega) I);obtain⟨bv,av,aw⟩:=hid3 E I A;clear E I A;clear hk hM x0 x1 x2 x3 x4 x5 xl;go_wp2;go_ret2;exact HP.out
 subst hk;have z:=Mb hM rfl;have a9:Hid (∀v ∈ l',I9 v/\A0 v 2=0):=fun v hv=>⟨O5 Hi.out.2.1 hv,Kq (Fm hM).2.2.2.1 v hv⟩;have HF:=qz (fun W=>Xm W);obtain⟨j0,hj,bo,bp,bq⟩:=info_parts Sh;have bh:3*A5 l'<=90000000:=by simp only[Val.bulk]at hb;omega
 have cj:l'.length<=30000000:=by have:=C9 l';omega
 obtain⟨bv,av,aw,K,HM,Hj,b5,b6,b7,a7⟩:=hid10 E I A z hM hj bo bp bq bh;clear E I A z hM hj bo bp bq bh;clear x0 x1 x2 x3 x4 x5 xl;go_wp2_with (fail);(with_reducible refine(HF.out _).mono ?_);rintro e w2 ⟨gF,rfl,ca,ag,ai⟩;have ao:=aw.out.below ai aw.out.lt;have af:=av.out.trans (ai.mono av.out.size);have a3:Hid (PatI w w2.heap.size gF l' 0 w2 (.slice none 0 0)):=⟨af,ag,⟨af.size,ag.lt,Nat.le_refl _⟩,C3.nil _ _ _ _⟩;have bb:Hid ((Am (l'.take 0)).1=0):=rfl;have u4:=ao.cell 4;have ul:=ao.lt;have b1:Hid (w.heap.size<=w2.heap.size):=af.size;obtain⟨cg,cd,ce,cf⟩:=hid4 ao ag ai af;clear ao ag ai af;clear y0 y4 yl ca;go_wp2_with (fail);go_loopw [6,24] (fun V i wr=> ∃q:Nat,i=.int .i64 q/\q<=l'.length/\Hid ((Am (l'.take q)).1=0)/\Hid (PatI w w2.heap.size gF l' q wr V)) (fun _ i _=>l'.length - (intOf i).toNat)
 case atStart=>exact⟨0,rfl,Nat.zero_le _,bb,a3⟩
 case round=>
  obtain⟨q,rfl,hq,hr,Z⟩:=hrel;clear a3 bb;have ck:(0:Int)<=q:=by omega
  by_cases cb:q<l'.length
  . obtain⟨x,hx⟩: ∃v,l'[q]? =some v:=⟨_,List.getElem?_eq_getElem cb⟩;have ad:=List.mem_of_getElem? hx;have b8:=Dp ad;obtain⟨i1,i2⟩:=a9.out x ad;have bl:=Wi i2;have bn:l'.take (q+1)=l'.take q++ [x]:=by rw[List.take_add_one,hx];simp
    have aq:=Md (v:=x) hr.out;obtain⟨N,eb,R,Y,O,S⟩:=x;have hz:=Z.out.below.size;obtain⟨g,cm,rfl,hg,P,Q,T,U,hv,c0,c1,c2,c3,c4,c5⟩:=Amj (Z6 ((H.out.below Z.out.below).more hz)) hx;have cl:(q:Int)<(l'.length:Int):=by omega
    have ax:=Z.out.call (Aa wr (.cells #[.int .i64 N,.bool eb,.int .i64 R,.string Y,.slice P O.length Q,.slice T S.length U] 42));have HC:=qz (Adm N eb R Y O S P Q T U gF (wr.alloc (.cells #[.int .i64 N,.bool eb,.int .i64 R,.string Y,.slice P O.length Q,.slice T S.length U] 42)) (hv.later (Aa _ _)) (by have:=a7.out;omega) ax.fld);have bc:=qz (show wr.heap.size<=(wr.alloc (.cells #[.int .i64 N,.bool eb,.int .i64 R,.string Y,.slice P O.length Q,.slice T S.length U] 42)).heap.size from by simp);obtain⟨bs,Hv,Hx,au,J,b2⟩:=hid6 ax hv hx bn aq bl;clear ax hv hx bn aq bl;clear ad b8 i1 i2 hz;go_wp2_with (fail);(with_reducible refine(HC.out).mono ?_);rintro e w4 ⟨aj,ch,rfl,a1,al⟩;rw[b2.out]at al a1 ⊢;have D:=bs.out.call aj;by_cases hc:(Ch (.mk N eb R Y O S)).1=0;rotate_left
    . have tC:((Ch (.mk N eb R Y O S)).1 != 0)=true:=by simpa using hc
      have hP:=Kw.no (v:=.mk 5 b' u y l' o') (w:=w) (w':=w4.alloc (.cells Jc 80)) (c:=(Ch (.mk N eb R Y O S)).1) (by
       have h1:=J.out;rw[if_pos hc,<-au.out]at h1;have h2:=Me (l:=l'.take (q+1)) (r:=l'.drop (q+1)) (by rw[h1];exact hc);rw[List.take_append_drop,h1]at h2;rw[K.out,if_pos (by rw[h2];exact hc),h2]) hc (D.call (Aa _ _)).below
      obtain rfl:=a1 hc;generalize (Ch (.mk N eb R Y O S)).1=C at tC hP;obtain⟨HP,br⟩:=hid2 hP D;clear hP D;clear hc al aj;go_wp2;go_ret2;exact HP.out
    have am:=al hc;obtain⟨z2,z3,z4,z5,f,j,n,o,m,p,rfl⟩:=Afq am;rw[hc];have ae:Eo (Am (l'.take q)).2++ [dQ (Ch (.mk N eb R Y O S)).2]=Eo (Am (l'.take (q+1))).2:=by
     rw[au.out,J.out,if_neg (by omega)];simp[Eo]
    have bm:(Am (l'.take (q+1))).1=0:=by rw[au.out,J.out,if_neg (by omega)]
    generalize (Ch (.mk N eb R Y O S)).2=OP at am ae ⊢;obtain⟨aV,cV,rfl⟩:=Z.out.row.slice;have ar:=Z.out.row;have ci:(Eo (Am (l'.take q)).2).length<=q:=by
     have:=Mc (l'.take q);rw[E8];rw[List.length_take]at this;omega
    have bf:(Eo (Am (l'.take q)).2).length+1<=maxLen/\((Eo (Am (l'.take q)).2).length+1)*112<=140737488355328:=⟨by simp only[maxLen];omega,by omega⟩;have bi:A7 wr.heap.size ((w4.alloc (.cells #[.int .i64 OP.k,.string OP.key,.int .i64 z2,.bool z3,.int .i64 z4,.string z5,.slice f m j,.slice n p o] 80)).alloc (.cells #[.int .i64 OP.k,.string OP.key,.int .i64 z2,.bool z3,.int .i64 z4,.string z5,.slice f m j,.slice n p o] 80)) (dQ OP) [.int .i64 OP.k,.string OP.key,.int .i64 z2,.bool z3,.int .i64 z4,.string z5,.slice f m j,.slice n p o]:=
     ((am.keep (b':=wr.heap.size) bc.out (Nat.le_refl _) (fun _ _ _=>rfl)).later (Aa _ _)).later (Aa _ _)
    have B:Below wr.heap.size wr w4:=(Aa wr (.cells #[.int .i64 N,.bool eb,.int .i64 R,.string Y,.slice P O.length Q,.slice T S.length U] 42)).trans (aj.mono bc.out);have bw:Hid (Below wr.heap.size wr ((w4.alloc (.cells #[.int .i64 OP.k,.string OP.key,.int .i64 z2,.bool z3,.int .i64 z4,.string z5,.slice f m j,.slice n p o] 80)).alloc (.cells #[.int .i64 OP.k,.string OP.key,.int .i64 z2,.bool z3,.int .i64 z4,.string z5,.slice f m j,.slice n p o] 80))):=(B.alloc B.size _).alloc (by have:=B.size;simp;omega) _;have s:=qz ((D.call (Aa w4 (.cells #[.int .i64 OP.k,.string OP.key,.int .i64 z2,.bool z3,.int .i64 z4,.string z5,.slice f m j,.slice n p o] 80))).call (Aa (w4.alloc (.cells #[.int .i64 OP.k,.string OP.key,.int .i64 z2,.bool z3,.int .i64 z4,.string z5,.slice f m j,.slice n p o] 80)) (.cells #[.int .i64 OP.k,.string OP.key,.int .i64 z2,.bool z3,.int .i64 z4,.string z5,.slice f m j,.slice n p o] 80)));have bj:=Z.out.ge.2.2;have ay:=Mf (w4.alloc (.cells #[.int .i64 OP.k,.string OP.key,.int .i64 z2,.bool z3,.int .i64 z4,.string z5,.slice f m j,.slice n p o] 80)) (.int .i64 OP.k) (.string OP.key) (.int .i64 z2) (.bool z3) (.int .i64 z4) (.string z5) (.slice f m j) (.slice n p o);rw[World.size_alloc]at ay;have bu:=qz ay;clear ay;obtain⟨L,a4,bx,bd,b3,br⟩:=hid6 ar bf bi ae bm D;clear ar bf bi ae bm D;clear al am a1 aj B hc;go_wp2_with (at_builtin;apply Shut.out);unfold Shut;refine D4 (d:=dQ OP) (V:=.slice aV (Eo (Am (l'.take q)).2).length cV) rfl (.tmp 37) (.tmp 39) 50 rfl Tryz.underlying50 Hj.out b5.out b6.out b7.out rfl (by omega) rfl L.out bj bw.out (Kn _) bx.out rfl bu.out a4.out.1 a4.out.2 ?_;intro V6 w6 b G bg;have HN:=qz (And.intro b G);clear b G bg;go_wp2;have hN:Hid (PatI w w2.heap.size gF l' (q+1) w6 V6):=by
     refine qz ?_;obtain⟨b,G⟩:=HN.out;rw[bd.out]at b;have cc:some gF≠(Value.slice aV (Eo (Am (l'.take q)).2).length cV).ownBlock:=by
      intro e;have:=L.out.base gF e.symm;have:=s.out.ge.2.1;omega
     exact⟨Jk s.out.below G L.out s.out.ge.1 s.out.below.size,s.out.fld.keep (G.block gF s.out.fld.lt cc),⟨s.out.ge.1,s.out.ge.2.1,Nat.le_trans s.out.ge.2.2 G.size⟩,b⟩
    clear HN;go_roundw
    case rel=>exact⟨q+1,by go_num,by omega,b3,hN⟩
    case measure=>simp only[intOf];omega
  . obtain rfl:q=l'.length:=by omega
    rw[List.take_length]at hr;have a0:(Eo (Am (l'.take l'.length)).2).length=(Am l').2.length:=by rw[List.take_length,E8]
    obtain⟨aV,cV,rfl⟩:=Z.out.row.slice_n a0;obtain⟨a',c',e',_,F,_⟩:=Z.out.row.close;rw[a0]at e' F;rw[List.take_length]at F;obtain⟨rfl,rfl⟩:aV=a'/\cV=c':=by simpa using e'
    obtain⟨b9,bk⟩:=Ji a9.out hr.out;have ah:=Li (Am l').2 aV (Am l').2.length cV wr (HT.out.below Z.out.below) F.now (by have:=a7.out;omega) bk;have a8:=qz Z.out.below;have z:=K.out;rw[if_neg (show ¬(Am l').1≠0 from fun h=>h hr.out)]at z;obtain⟨X,hX⟩: ∃X,A8 none (Am l').2=X:=⟨_,rfl⟩;rw[hX]at ah z;generalize (Am l').2=OPS at ah F z;obtain⟨bt,b0,K⟩:=hid3 ah F z;clear ah F z;clear Z hr a0 b9 bk hX e';go_wp2_with (fail);(with_reducible refine(bt.out).mono ?_);rintro e w9 ⟨rfl,ak⟩;have an:=a8.out.trans (ak.mono a8.out.size);have az:=b0.out.later ak;by_cases ab:X=0
    . subst ab;have a:=K.out;rw[if_pos rfl]at a;obtain⟨ba,bz,b4⟩:=hid3 a az an;clear a az an;clear ak;go_wp2;go_ret2;refine⟨b4.out, ?_⟩;rw[ba.out,if_neg (fun h=>h rfl)];exact⟨aV,cV,rfl,bz.out.keep (by have:=b1.out;omega) (Nat.le_refl _) (fun _ _ _=>rfl)⟩
    . have tX:(X != 0)=true:=by simpa using ab
      have a:=K.out;rw[if_neg ab]at a;have HP:=qz (Kw.no (v:=.mk 5 b' u y l' o') (c:=X) (by rw[a]) ab an);clear ak ab az an a;go_wp2;go_ret2;exact HP.out
theorem Ada {x:Val} (j:I9 x) (h:(Cx x).1=0):Da (Cx x).2<=3*x.bulk/\inQ (Cx x).2:=by
 obtain⟨k,b,n,t,l,o⟩:=x;unfold Cx at h ⊢;by_cases c:A0 (.mk k b n t l o) 1≠0
 . rw[if_pos c]at h;exact absurd h c
 rw[if_neg c]at h ⊢;by_cases g:Bo (.mk k b n t l o)≠5
 . rw[if_pos g]at h;exact absurd h (show ¬(9:Int)=0 by omega)
 rw[if_neg g]at h ⊢;by_cases d:(Am (Q5 (.mk k b n t l o))).1≠0
 . rw[if_pos d]at h;exact absurd h d
 rw[if_neg d]at h ⊢;by_cases f:A8 none (Am (Q5 (.mk k b n t l o))).2=0
 . rw[if_pos f];obtain⟨a,b⟩:=Ji (l:=l) (fun v i=>⟨O5 j.2.1 i,Kq (Fm (by simpa using c)).2.2.2.1 v i⟩) (Decidable.byContradiction fun e=>d e);refine⟨?_,b⟩;show Da (Am l).2<=_;simp only[Val.bulk];omega
 . rw[if_neg f]at h;exact absurd h f
end Go.Proofs.YtjgfchcldhmjcaaGreatDoor
