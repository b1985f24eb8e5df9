/- Parts: The reference's own values: Int, Text, Object, List; rows that share old memory. No condition. -/
import Derived.Test.YtjgfchcldhmjcaaGreatDoorKPp13
import Derived.Test.YtjgfchcldhmjcaaGreatDoorKPp14
import Derived.Test.YtjgfchcldhmjcaaGreatDoorKPp17
set_option maxHeartbeats 20000000
set_option maxRecDepth 100000
namespace Go.Proofs.YtjgfchcldhmjcaaGreatDoor
open Go Go.RowKit
theorem Bk.slice_cap {S0:Nat->Prop} {b s:Nat} {t:TypeId} {wr:World} {l:List D} {V:Value} (h:Bk S0 b t s wr l V): ∃a c,V=.slice a l.length c/\l.length<=c:=by
 obtain⟨ns,d,_⟩:=h;rcases d.2 with⟨rfl,h0⟩|⟨g,cap,cur,rfl,_,_,hc,_⟩
 . exact⟨_,_,by rw[h0],by rw[h0];exact Nat.le_refl _⟩
 . exact⟨_,_,rfl,hc⟩
theorem Bk.mono {S0 T0:Nat->Prop} {b s:Nat} {t:TypeId} {wr:World} {l:List D} {V:Value} (h:Bk S0 b t s wr l V) (a: ∀i,S0 i->T0 i):Bk T0 b t s wr l V:=by
 obtain⟨ns,e,f,g⟩:=h;exact⟨ns,e,f,fun c j k=>g c j fun p d m=>k p ⟨a _ d.1,d.2⟩ m⟩
theorem Bk.blk {S0:Nat->Prop} {b s g n c:Nat} {t:TypeId} {wr:World} {l:List D} (h:Bk S0 b t s wr l (.slice (some ⟨g,0,none⟩) n c)): ∃a,Ap wr g t a:=by
 obtain⟨ns,d,_⟩:=h;rcases d.2 with⟨e,h0⟩|⟨g',cap,a,e,_,hg,_⟩
 . cases e
 . cases e
   exact⟨a,hg⟩
theorem Ame (a:List Cq) (i:Nat) (e:Cq):dO (a.set i e)=(dO a).set i (dP e):=by rw[Dx,Dx,List.map_set]
theorem Amd (a:List Cq) (i:Nat) (e:Cq):dO (a.take i++ [e]++a.drop i)=(dO a).take i++ [dP e]++(dO a).drop i:=by
 rw[Dx,Dx,List.map_append,List.map_append,List.map_take,List.map_drop];rfl
theorem Zk {w:World} {B:Nat} {k:ByteArray} {v:Val} {cs:List Value} (h:Ag w B (dV v) cs):Ag w B (dP (k,v)) (.string k::cs):=⟨[.string k],cs,rfl,⟨rfl,rfl⟩,cs, [],by simp,h,rfl⟩
theorem Qj {w:World} {B:Nat} {v:Val} {c0 c1 c2 c3 c4 c5:Value} (h:Ag w B (dV v) [c0,c1,c2,c3,c4,c5]): ∃g b' j m c i d f on oc,c0=.int .i64 g/\c1=.bool b'/\c2=.int .i64 j/\c3=.string m/\c4=.slice c i d/\c5=.slice f on oc:=by
 obtain⟨k,b,n,t,l,o⟩:=v;have a:=Be _ _ h;simp only[Ab]at a;obtain⟨c,d,f,oc,e,_,_⟩:=a;simp only[Eb,List.cons.injEq,and_true]at e;obtain⟨rfl,rfl,rfl,rfl,rfl,rfl⟩:=e;exact⟨_,_,_,_,_,_,_,_,_,_,rfl,rfl,rfl,rfl,rfl,rfl⟩
theorem Yo (S:Nat->Prop) (f:List Cq) (b:Nat) (k:ByteArray) (v:Val) (c0 c1 c2 c3 c4 c5:Value) (w:World) (h:Ct w w.heap.size (.leaf f) b) (h1:1<=f.length) (h8:f.length<=8) (ha:Dg f) (hv:Ag w w.heap.size (dV v) [c0,c1,c2,c3,c4,c5]) (hb:Af f+Af [(k,v)]<=100000000):
 Calls Tryz.prog 151 #[.pointer (some ⟨b,0,none⟩),.agg #[.string k,c0,c1,c2,c3,c4,c5]] w (SP S (J1 (Dz k v f)) w):=by
 obtain⟨t,b',A,C,x,z,y,B,on,oc,rfl,rfl,rfl,rfl,rfl,rfl⟩:=Qj hv;obtain⟨PO,Y⟩: ∃P:Ending->World->Prop,SP S (J1 (Dz k v f)) w=P:=⟨_,rfl⟩;rw[Y];obtain⟨T,ad⟩: ∃T,w.alloc (.cells #[.string k,.int .i64 t,(.bool b'),(.int .i64 A),(.string C),(.slice x z y),(.slice B on oc)] 103)=T:=⟨_,rfl⟩;have L:Below w.heap.size w T:=ad▸Aa _ _;have I:Hid (Ap T w.heap.size 103 #[.string k,.int .i64 t,(.bool b'),(.int .i64 A),(.string C),(.slice x z y),(.slice B on oc)]):=ad▸Ap.new _ _ _;have ay:T.heap.size=w.heap.size+1:=by rw[<-ad];simp
 have X:=Ki (h.below L);rw[show Tf (.leaf f)=0 from by simp[Tf]]at X;have aq:=qz (Rb (h.later L) (by omega) (by omega:Af f<=100000000));have au:=Pj (k:=k) (v:=v) f;have al:=Tz (k:=k) (v:=v) ha;have aw:=Nx k v f;have ak: ∀(W:World) (V':Value),Below w.heap.size w W->Bk (fun _=>True) T.heap.size 103 7 W (dO (Dz k v f)) V'->Calls Tryz.prog 223 #[V',.func (.func 224) #[] #[]] W (SP S (J1 (Dz k v f)) W):=fun W V' hB Z=>by
  obtain⟨a,c,rfl,hc⟩:=Z.slice_cap;exact Ns S (Dz k v f) a _ c W Z.close al (by omega) hc (by omega)
 have ab:=Sp k f;have ah:=qz (Zk (k:=k) hv);obtain⟨ar,G,af,ag,H⟩:=hid5 X L Y ak h;clear X L Y ak h;go_enter Tryz.func151,Tryz.ntmps151;go_upto_region 1 with(fail);go_wp2_with (fail);(with_reducible refine(ar.out).mono ?_);rintro e w1 ⟨rfl,rfl⟩;go_wp2_with (fail);(with_reducible refine(aq.out).mono ?_);rintro e w1 ⟨aa,g,rfl,Z⟩;have q:=qz (G.out.trans (aa.mono G.out.size));have M:=I.out.below aa I.out.lt;have U:=qz (Pp f k (some ⟨g,0,none⟩) f.length f.length w1 Z.close ha (by omega));have ax:=Z.base g rfl;have d0:=M.cell 0;have lx:=M.lt;obtain⟨V,HR⟩:=hid2 M Z;clear M Z;clear aa;go_wp2_with (fail);(with_reducible refine(U.out).mono ?_);rintro e R ⟨rfl,J⟩;have n:=q.out.trans (J.mono q.out.size);have m:=V.out.below J lx;have s:=(HR.out.below J).mono (T0:=fun _=>True) (fun _ _=>trivial);obtain⟨av,K⟩:=s.blk;clear d0 lx J;have d0:=m.cell 0;have d1:=m.cell 1;have d2:=m.cell 2;have d3:=m.cell 3;have d4:=m.cell 4;have d5:=m.cell 5;have d6:=m.cell 6;have lx:=m.lt;have lg:=K.lt;have ae:=Ai.of_old ah.out (Nat.le_refl _) n;by_cases hh:E6 k f=true
 . have ac:F9 k f<f.length:=by
    rcases Nat.lt_or_ge (F9 k f) f.length with h|h
    . exact h
    . unfold E6 at hh;rw[List.getElem?_eq_none h]at hh;simp at hh
   have ep:Dz k v f=f.set (F9 k f) (k,v):=by rw[T1,if_pos hh]
   rw[hh];generalize F9 k f=P at ac ep ab ⊢;obtain⟨ev,he⟩: ∃p,f[P]? =some p:=⟨_,List.getElem?_eq_getElem ac⟩;obtain⟨g',az,e',_,u1,u2,u3,u4,u5,u6,_,Q⟩:=E3 s.close he
   cases e'
   have s0:=Q 0 _ rfl;have s1:=Q 1 _ rfl;have s2:=Q 2 _ rfl;have s3:=Q 3 _ rfl;have s4:=Q 4 _ rfl;have s5:=Q 5 _ rfl;have s6:=Q 6 _ rfl;simp only[Nat.zero_add,Nat.add_zero]at s0 s1 s2 s3 s4 s5 s6;have fz:=K.frozen;have y1:(P:Int)<(f.length:Int):=by omega
   have y2:(0:Int)<=(P:Int):=by omega
   have ai:Below w.heap.size w ((((((((R).setCell ⟨g,P*7,none⟩ (.string k)).setCell ⟨g,P*7+1,none⟩ (.int .i64 t)).setCell ⟨g,P*7+2,none⟩ (.bool b')).setCell ⟨g,P*7+3,none⟩ (.int .i64 A)).setCell ⟨g,P*7+4,none⟩ (.string C)).setCell ⟨g,P*7+5,none⟩ (.slice x z y)).setCell ⟨g,P*7+6,none⟩ (.slice B on oc)):=As [.string k,.int .i64 t,(.bool b'),(.int .i64 A),(.string C),(.slice x z y),(.slice B on oc)] n (by omega) (o:=P*7);have ap:Ai (fun i=>True/\g≠i) R (dP (k,v)) [.string k,.int .i64 t,(.bool b'),(.int .i64 A),(.string C),(.slice x z y),(.slice B on oc)]:=ae.mono fun i _ hi=>⟨trivial,by omega⟩;have h7:=s.put (i:=P) (d:=dP (k,v)) (ys:= [.string k,.int .i64 t,(.bool b'),(.int .i64 A),(.string C),(.slice x z y),(.slice B on oc)]) (by rw[Cb];exact ac) (D6 _) ap;clear ap;have D:Bk (fun _=>True) T.heap.size 103 7 ((((((((R).setCell ⟨g,P*7,none⟩ (.string k)).setCell ⟨g,P*7+1,none⟩ (.int .i64 t)).setCell ⟨g,P*7+2,none⟩ (.bool b')).setCell ⟨g,P*7+3,none⟩ (.int .i64 A)).setCell ⟨g,P*7+4,none⟩ (.string C)).setCell ⟨g,P*7+5,none⟩ (.slice x z y)).setCell ⟨g,P*7+6,none⟩ (.slice B on oc)) (dO (Dz k v f)) (.slice (some ⟨g,0,none⟩) f.length f.length):=by
    rw[ep,Ame];exact h7
   obtain⟨l,F⟩:=hid2 ai D;clear ai D;clear h7;clear Q he K s m n ae HR U V q I G;go_upto_region 7 with(fail);generalize (((((((R).setCell ⟨g,P*7,none⟩ (.string k)).setCell ⟨g,P*7+1,none⟩ (.int .i64 t)).setCell ⟨g,P*7+2,none⟩ (.bool b')).setCell ⟨g,P*7+3,none⟩ (.int .i64 A)).setCell ⟨g,P*7+4,none⟩ (.string C)).setCell ⟨g,P*7+5,none⟩ (.slice x z y)).setCell ⟨g,P*7+6,none⟩ (.slice B on oc)=w5 at l F ⊢;clear s0 s1 s2 s3 s4 s5 s6 d0 d1 d2 d3 d4 d5 d6 fz lx lg;go_wp2_with (fail);(with_reducible refine(ag.out _ _ l.out F.out).mono ?_);rintro e w6 ⟨E,b6,q6,rfl,hN,hO⟩;have HP:Hid (PO (.returned (.tuple #[.pointer (some ⟨b6,0,none⟩),.pointer q6])) w6):=by
    show PO _ _;rw[<-af.out];exact⟨l.out.trans (E.mono l.out.size),b6,q6,rfl,hN.mono (It l.out.size),hO.mono (It l.out.size)⟩
   clear E hN hO;go_wp2;exact HP.out
 . have hf:E6 k f=false:=by simpa using hh
   have ep:Dz k v f=f.take (F9 k f)++ [(k,v)]++f.drop (F9 k f):=by rw[T1,if_neg hh]
   rw[hf];generalize F9 k f=P at ep ab ⊢;have am:=Aa R (.cells #[.string k,.int .i64 t,(.bool b'),(.int .i64 A),(.string C),(.slice x z y),(.slice B on oc)] 103);have r:=n.alloc n.size (.cells #[.string k,.int .i64 t,(.bool b'),(.int .i64 A),(.string C),(.slice x z y),(.slice B on oc)] 103);have ao:=Ap.new R 103 #[.string k,.int .i64 t,(.bool b'),(.int .i64 A),(.string C),(.slice x z y),(.slice B on oc)];have aj:=s.below am;have O:=Ai.of_old ah.out (Nat.le_refl _) r;have hI:=Ais T.heap.size (R.alloc (.cells #[.string k,.int .i64 t,(.bool b'),(.int .i64 A),(.string C),(.slice x z y),(.slice B on oc)] 103)) g (P) R.heap.size f (dP (k,v)) (.string k:: [(.int .i64 t),(.bool b'),(.int .i64 A),(.string C),(.slice x z y),(.slice B on oc)]) aj (by have:=r.size;simp at this ⊢;omega) ab (by omega) (D6 _) (O.mono fun i _ hi=>⟨trivial,fun e=>by have:=Option.some.inj e;simp only at this;omega⟩) (fun j u hj=>(ao.cell j).trans (by rw[<-Array.getElem?_toList];exact hj));rw[<-Amd,<-ep]at hI;obtain⟨HI,N⟩:=hid2 hI r;clear hI r;clear am ao aj O K s m n ae HR U V q I G;go_wp2_with (fail);(with_reducible refine(HI.out).mono ?_);rintro e w5 ⟨V',rfl,D,an⟩;have l:=qz (N.out.grown an N.out.size (fun k hk=>by have:=Option.some.inj hk;omega));have F:=qz D;clear D an d0 d1 d2 d3 d4 d5 d6 lx lg HI;go_wp2_with (fail);(with_reducible refine(ag.out _ _ l.out F.out).mono ?_);rintro e w6 ⟨E,b6,q6,rfl,hN,hO⟩;have HP:Hid (PO (.returned (.tuple #[.pointer (some ⟨b6,0,none⟩),.pointer q6])) w6):=by
    show PO _ _;rw[<-af.out];exact⟨l.out.trans (E.mono l.out.size),b6,q6,rfl,hN.mono (It l.out.size),hO.mono (It l.out.size)⟩
   clear E hN hO;go_wp2;exact HP.out
theorem Bk.ptr {S0:Nat->Prop} {b s:Nat} {t:TypeId} {wr:World} {l:List D} {V:Value} (h:Bk S0 b t s wr l V) (e:l≠ []): ∃g c,V=.slice (some ⟨g,0,none⟩) l.length c/\l.length<=c/\b<=g/\g<wr.heap.size:=by
 have a:=h.base;obtain⟨ns,d,_⟩:=h;rcases d.2 with⟨rfl,h0⟩|⟨g,cap,cur,rfl,_,hg,hc,_⟩
 . exact absurd (List.eq_nil_of_length_eq_zero h0) e
 . exact⟨g,cap,rfl,hc,a g rfl⟩
theorem Un.later {S:Nat->Prop} {w w':World} {t:Option Nd} {p:Option Addr} (h:Un S w t p) (d:w.heap.size<=w'.heap.size) (c: ∀i,S i->i<w.heap.size->w'.heap[i]? =w.heap[i]?):Un S w' t p:=by
 cases t with
 |none=>exact h
 |some t=>
  obtain⟨b,e,a⟩:=h;exact⟨b,e,a.later d c⟩
theorem Agd (w:World):Calls Tryz.prog 220 #[.pointer none] w fun e w'=>e=.returned (.slice none 0 0)/\w=w':=by
 go_enter Tryz.func220,Tryz.ntmps220;go_wp2;go_ret;exact⟨rfl,rfl⟩
theorem Yp (S:Nat->Prop) (k:ByteArray) (v:Val) (c0 c1 c2 c3 c4 c5:Value) (w:World) (hv:Ag w w.heap.size (dV v) [c0,c1,c2,c3,c4,c5]) (hb:Af [(k,v)]<=100000000):
 Calls Tryz.prog 151 #[.pointer none,.agg #[.string k,c0,c1,c2,c3,c4,c5]] w (SP S (.leaf [(k,v)],none) w):=by
 obtain⟨t,b',A,C,x,z,y,B,on,oc,rfl,rfl,rfl,rfl,rfl,rfl⟩:=Qj hv;obtain⟨PO,p⟩: ∃P:Ending->World->Prop,SP S (.leaf [(k,v)],none) w=P:=⟨_,rfl⟩;rw[p];obtain⟨s,K⟩: ∃s,w.alloc (.cells #[.string k,(.int .i64 t),(.bool b'),(.int .i64 A),(.string C),(.slice x z y),(.slice B on oc)] 103)=s:=⟨_,rfl⟩;have o:Hid (Below w.heap.size w s):=K▸Aa _ _;have m:Ap s w.heap.size 103 #[.string k,(.int .i64 t),(.bool b'),(.int .i64 A),(.string C),(.slice x z y),(.slice B on oc)]:=K▸Ap.new _ _ _;have O:=qz (Aaf s);have N:=qz (Agd s);have D:=qz (Pp [] k none 0 0 s ⟨none,0,rfl,fun d hd=>(by cases hd), [],rfl,.inl rfl⟩ (by simp[Dg]) (by simp));have U:=qz (Zk (k:=k) hv);have H: ∀(W:World) (V':Value),Below w.heap.size w W->Bk (fun _=>True) w.heap.size 103 7 W (dO [(k,v)]) V'->Calls Tryz.prog 223 #[V',.func (.func 224) #[] #[]] W (SP S (.leaf [(k,v)],none) W):=fun W V' hB hR=>by
  obtain⟨a,c,rfl,hc⟩:=hR.slice_cap;exact Ns S [(k,v)] a _ c W hR.close (by simp[Dg]) (by simp) hc hb
 have d0:=m.cell 0;have M:=m.lt;obtain⟨F,Q,T⟩:=hid3 m p H;clear m p H;go_enter Tryz.func151,Tryz.ntmps151;go_upto_region 1 with(fail);go_wp2_with (fail);(with_reducible refine(O.out).mono ?_);rintro e w1 ⟨rfl,rfl⟩;go_wp2_with (fail);(with_reducible refine(N.out).mono ?_);rintro e w1 ⟨rfl,rfl⟩;go_wp2_with (fail);(with_reducible refine(D.out).mono ?_);rintro e w2 ⟨rfl,q⟩;have h:=o.out.trans (q.mono o.out.size);have b:=F.out.below q M;clear d0 M q;have d0:=b.cell 0;have d1:=b.cell 1;have d2:=b.cell 2;have d3:=b.cell 3;have d4:=b.cell 4;have d5:=b.cell 5;have d6:=b.cell 6;have M:=b.lt;have f:=h.alloc h.size (.cells #[.string k,(.int .i64 t),(.bool b'),(.int .i64 A),(.string C),(.slice x z y),(.slice B on oc)] 103);have L:=Ap.new w2 103 #[.string k,(.int .i64 t),(.bool b'),(.int .i64 A),(.string C),(.slice x z y),(.slice B on oc)];have l:=Ai.of_old U.out (Nat.le_refl _) f;have X:=Z4 w.heap.size (w2.alloc (.cells #[.string k,(.int .i64 t),(.bool b'),(.int .i64 A),(.string C),(.slice x z y),(.slice B on oc)] 103)) (.slice none 0 0) 0 [] (World.ownsRow_nil _ _ _ _) (by have:=f.size;simp at this ⊢;omega) (by omega) w2.heap.size [.string k,(.int .i64 t),(.bool b'),(.int .i64 A),(.string C),(.slice x z y),(.slice B on oc)] rfl (fun j u hj=>(L.cell j).trans (by rw[<-Array.getElem?_toList];exact hj)) (l.now.len.2);rw[show((0:Nat):Int)=0 from rfl]at X;obtain⟨HI,n,E⟩:=hid3 X f l;clear X f l;clear L b h D F o;have Y:F9 k ([]:List Cq)=0:=rfl;have Z:E6 k ([]:List Cq)=false:=rfl;rw[Y,Z];go_wp2_with (fail);(with_reducible refine(HI.out).mono ?_);rintro e w5 ⟨V',rfl,G,r,I⟩;have g:=qz (n.out.grown r n.out.size (fun k hk=>by cases hk));have R:Hid (Bk (fun _=>True) w.heap.size 103 7 w5 (dO [(k,v)]) V'):=by
  refine⟨_,G,L0 _,Cd.one ?_⟩;exact Ai.grow (V:=.slice none 0 0) (S0:=fun _=>True) (E.out.mono fun i _ _=>⟨trivial,by simp[Value.ownBlock]⟩) r I
 clear G r I d0 d1 d2 d3 d4 d5 d6 M HI;go_wp2_with (fail);(with_reducible refine(T.out _ _ g.out R.out).mono ?_);rintro e w6 ⟨J,b6,q6,rfl,hN,hO⟩;have HP:Hid (PO (.returned (.tuple #[.pointer (some ⟨b6,0,none⟩),.pointer q6])) w6):=by
  show PO _ _;rw[<-Q.out];exact⟨g.out.trans (J.mono g.out.size),b6,q6,rfl,hN.mono (It g.out.size),hO.mono (It g.out.size)⟩
 clear J hN hO;go_wp2;exact HP.out
def Lr (S:Nat->Prop) (w:World):Option (Nat×Nd)->Option Addr->Prop
 |none,p=>p=none
 |some (_,n),p=> ∃b,p=some ⟨b,0,none⟩/\Df S w n b
theorem Lr.mono {S T:Nat->Prop} {w:World} {t:Option (Nat×Nd)} {p:Option Addr} (h:Lr S w t p) (a: ∀i,i<w.heap.size->S i->T i):Lr T w t p:=by
 cases t with
 |none=>exact h
 |some t=>
  obtain⟨b,e,c⟩:=h;exact⟨b,e,c.mono a⟩
theorem Lr.later {S:Nat->Prop} {w w':World} {t:Option (Nat×Nd)} {p:Option Addr} (h:Lr S w t p) (d:w.heap.size<=w'.heap.size) (c: ∀i,S i->i<w.heap.size->w'.heap[i]? =w.heap[i]?):Lr S w' t p:=by
 cases t with
 |none=>exact h
 |some t=>
  obtain⟨b,e,a⟩:=h;exact⟨b,e,a.later d c⟩
theorem Lr.below {S:Nat->Prop} {w w':World} {t:Option (Nat×Nd)} {p:Option Addr} (h:Lr S w t p) (a:Below w.heap.size w w'):Lr S w' t p:=h.later a.size fun i _ b=>a.block i b
def Sb (S:Nat->Prop) (t:Option (Nat×Nd)) (w:World) (e:Ending) (w':World):Prop:=Below w.heap.size w w'/\ ∃p,e=.returned (.agg #[.pointer p])/\Lr (fun i=>S i\/w.heap.size<=i) w' t p
theorem Pk {fn:Func} {t:Tmp} {tmps:Array Value} {W:World} {R:Nat} {a:Value} (h:fn.results= #[.cell t 100]) (c:tmps.getD t undef=.pointer (some ⟨R,0,none⟩)) (d:W.cell? ⟨R,0,none⟩=some a):
 (results fn tmps).run Tryz.prog W=.ok (.agg #[a]) W:=by
 have b:tmps[t]?.getD undef=.pointer (some ⟨R,0,none⟩):=by simpa using c
 simp[results,h,b,go_sem,d]
def Jy (es:List Cq):List Cq:=es.foldl (fun l e=>Dz e.1 e.2 l) []
structure BI (w:World) (t:Option (Nat×Nd)) (wr:World) (p:Option Addr):Prop where
 below:Below w.heap.size w wr
 res:Ap wr w.heap.size 100 #[.pointer none]
 var:Ap wr (w.heap.size+1) 100 #[.pointer p]
 tree:Lr (fun i=>w.heap.size+2<=i) wr t p
end Go.Proofs.YtjgfchcldhmjcaaGreatDoor
namespace Go.Proofs.YtjgfchcldhmjcaaGreatDoor
mutual
def wtN:Nd->Nat
 | .leaf es=>1+es.length
 | .inner ks=>1+Gs ks
def Gs:List Nd->Nat
 | []=>0
 |k::r=>wtN k+Gs r
end
def gd (n:Nd):Prop:= ∃lo h,0<lo/\(0<h->2<=lo)/\okN lo h n
theorem gd.ne {n:Nd} (h:gd n):On n≠ []:=by
 obtain⟨lo,h,a,_,b⟩:=h;exact Ajh a b
theorem gd.leaf {a:List Cq} (h:gd (.leaf a)):0<a.length:=by
 have b:=h.ne;simp only[On]at b;exact List.length_pos_iff.2 b
theorem gd.inner {ks:List Nd} (h:gd (.inner ks)):2<=ks.length/\ks.length<=8/\ ∀k ∈ ks,gd k:=by
 obtain⟨lo,h,d,b,a⟩:=h
 cases h with
 |zero=>simp[okN]at a
 |succ h=>
  simp only[okN]at a;have:=b (by omega);exact⟨by omega,a.2.1,fun k c=>⟨4,h,by omega,fun _=>by omega,a.2.2 k c⟩⟩
theorem Aco: ∀{ks:List Nd},(∀k ∈ ks,wtN k+1<=3*(On k).length)->Gs ks+ks.length<=3*(B9 ks).length
 | [],_=>by simp[Gs,B9]
 |k::r,h=>by
  have b:=h k (by simp);have c:=Aco (ks:=r) fun x a=>h x (by simp[a]);simp only[Gs,B9,List.length_cons,List.length_append];omega
theorem Anb (n:Nd):gd n->wtN n+1<=3*(On n).length:=by
 refine Nd.ind (p:=fun n=>gd n->wtN n+1<=3*(On n).length) ?_ ?_ n
 . intro d h;have:=h.leaf;simp only[wtN,On];omega
 . intro ks c h;obtain⟨e,_,b⟩:=h.inner;have:=Aco fun k a=>c k a (b k a);simp only[wtN,On];omega
theorem Xp: ∀{ns:List Nd},(∀n ∈ ns,gd n)->ns.length<=(B9 ns).length
 | [],_=>by simp[B9]
 |n::r,h=>by
  have b:=List.length_pos_iff.2 (h n (by simp)).ne;have c:=Xp (ns:=r) fun x a=>h x (by simp[a]);simp only[B9,List.length_cons,List.length_append];omega
end Go.Proofs.YtjgfchcldhmjcaaGreatDoor
namespace Go.Proofs.YtjgfchcldhmjcaaGreatDoor
open Go Go.RowKit
abbrev Tch:TypeId:=165
theorem Ri {fn:Func} {t:Tmp} {tmps:Array Value} {W:World} {R:Nat} {c a1 d e f g i j k l m n o p q:Value} (h:fn.results= #[.cell t Tch]) (w:tmps.getD t undef=.pointer (some ⟨R,0,none⟩)) (a:Ap W R Tch #[c,a1,d,e,f,g,i,j,k,l,m,n,o,p,q]):
 (results fn tmps).run Tryz.prog W=.ok (.agg #[c,a1,d,e,f,g,i,j,k,l,m,n,o,p,q]) W:=by
 have c0:=a.cell 0;have c1:=a.cell 1;have c2:=a.cell 2;have c3:=a.cell 3;have c4:=a.cell 4;have c5:=a.cell 5;have r:=a.cell 6;have s:=a.cell 7;have u:=a.cell 8;have v:=a.cell 9;have d0:=a.cell 10;have d1:=a.cell 11;have d2:=a.cell 12;have d3:=a.cell 13;have d4:=a.cell 14;clear a;have b:tmps[t]?.getD undef=.pointer (some ⟨R,0,none⟩):=by simpa using w
 simp[results,h,b,go_sem,c0,c1,c2,c3,c4,c5,r,s,u,v,d0,d1,d2,d3,d4]
theorem Ap.new1 (w:World) (o:Obj) (t:TypeId) (cs:Array Value):Ap ((w.alloc o).alloc (.cells cs t)) (w.heap.size+1) t cs:=by
 have:=Ap.new (w.alloc o) t cs
 rwa [World.size_alloc]at this
theorem Adr (p:Option Addr) (w:World):Calls Tryz.prog 218 #[.agg #[.pointer p]] w fun e w'=>e=.returned (.pointer p)/\Below w.heap.size w w':=by
 go_enter Tryz.func218,Tryz.ntmps218;go_wp2;go_ret;exact⟨rfl,Aa _ _⟩
theorem N8 (key:ByteArray) (a:Int) (b':Bool) (f:Int) (h:ByteArray) (b:Option Addr) (d c:Nat) (g:Option Addr) (on oc:Nat) (w:World):
 Calls Tryz.prog 214 #[.agg #[.string key,.int .i64 a,.bool b',.int .i64 f,.string h,.slice b d c,.slice g on oc]] w fun e w'=>e=.returned (.agg #[.string key,.bool true,.int .i64 a,.bool b',.int .i64 f,.string h,.slice b d c,.slice g on oc,.bool false,.int .i64 0,.bool false,.int .i64 0,.string ⟨#[]⟩,.slice none 0 0,.slice none 0 0])/\Below w.heap.size w w':=by
 go_enter Tryz.func214,Tryz.ntmps214;go_wp2;exact bodyPost_ret (Ri rfl rfl (Ap.new1 _ _ _ _)) rfl ⟨rfl,(Aa w _).alloc (by simp) _⟩
theorem Nz (key:ByteArray) (a:Int) (b':Bool) (f:Int) (h:ByteArray) (b:Option Addr) (d c:Nat) (g:Option Addr) (on oc:Nat) (w:World):
 Calls Tryz.prog 216 #[.agg #[.string key,.int .i64 a,.bool b',.int .i64 f,.string h,.slice b d c,.slice g on oc]] w fun e w'=>e=.returned (.agg #[.string key,.bool false,.int .i64 0,.bool false,.int .i64 0,.string ⟨#[]⟩,.slice none 0 0,.slice none 0 0,.bool true,.int .i64 a,.bool b',.int .i64 f,.string h,.slice b d c,.slice g on oc])/\Below w.heap.size w w':=by
 go_enter Tryz.func216,Tryz.ntmps216;go_wp2;exact bodyPost_ret (Ri rfl rfl (Ap.new1 _ _ _ _)) rfl ⟨rfl,(Aa w _).alloc (by simp) _⟩
theorem Sh:(Tryz.prog.info? 80).map (fun i=>(i.zero,i.size,i.bytes))=some (some (.agg #[.int .i64 0,.string ⟨#[]⟩,.int .i64 0,.bool false,.int .i64 0,.string ⟨#[]⟩,.slice none 0 0,.slice none 0 0]),8,112):=by kernel_rfl
theorem Mf (w:World) (a a1 b c d e f g:Value):Bt (w.alloc (.cells #[a,a1,b,c,d,e,f,g] 80)) (w.heap.size+1) 8 (some ⟨w.heap.size,0,none⟩) 1 [a,a1,b,c,d,e,f,g]:=Ib (Ap.new w 80 #[a,a1,b,c,d,e,f,g])
theorem Qz {w w':World} {v:Val} {cs:List Value} (h:Lu w w' v cs):A7 w.heap.size w' (dV v) cs:=fun a b c=>Fl _ _ (h a b c)
theorem Zl {B:Nat} {w:World} {k:Int} {key:ByteArray} {v:Val} {cs:List Value} (h:A7 B w (dV v) cs):A7 B w (dQ ⟨k,key,v⟩) (.int .i64 k:: .string key::cs):=fun a b c=>⟨[.int .i64 k],.string key::cs,rfl,⟨rfl,rfl⟩, [.string key],cs,rfl,⟨rfl,rfl⟩,cs, [],by simp,h a b c,rfl⟩
def Ei:List Cq->Option (Nat×Nd)
 | []=>none
 |e::r=>some (0,.leaf (e::r))
theorem Abh {a:List Cq} (h:a≠ []):Ei a=some (0,.leaf a):=by
 cases a with
 |nil=>exact absurd rfl h
 |cons e r=>rfl
theorem Wp {a:List Cq} (c:Dg a) (b:a.length<=8):okT (Ei a)/\Lc (Ei a)=a:=by
 cases a with
 |nil=>exact⟨trivial,rfl⟩
 |cons e r=>exact⟨⟨⟨by simp[Qh],b⟩,c⟩,rfl⟩
theorem Alf {k:ByteArray} {v:Val} (l:List Cq):Dz k v l≠ []:=by
 cases l with
 |nil=>simp[Dz]
 |cons e r=>
  obtain⟨a,x⟩:=e;simp only[Dz]
  split
  . simp
  split<;>simp
theorem Abi (S:Nat->Prop) (a:List Cq) (p:Option Addr) (k:ByteArray) (v:Val) (c0 c1 c2 c3 c4 c5:Value) (w:World) (Y:Lr S w (Ei a) p) (ha:Dg a) (h8:a.length<=6) (Z:Af a+Af [(k,v)]<=100000000) (G:Ag w w.heap.size (dV v) [c0,c1,c2,c3,c4,c5]):
 Calls Tryz.prog 88 #[.agg #[.pointer p],.string k,.agg #[c0,c1,c2,c3,c4,c5]] w (Sb S (Ei (Dz k v a)) w):=by
 have V:=Y.mono (T:=fun i=>S i/\i<w.heap.size) fun i U h=>⟨h,U⟩;clear Y;obtain⟨PO,n⟩: ∃P:Ending->World->Prop,Sb S (Ei (Dz k v a)) w=P:=⟨_,rfl⟩;rw[n];have C: ∀W,Below w.heap.size w W->Calls Tryz.prog 151 #[.pointer p,.agg #[.string k,c0,c1,c2,c3,c4,c5]] W (SP (fun i=>S i/\i<w.heap.size) (.leaf (Dz k v a),none) W):=fun W o=>by
  cases a with
  |nil=>
   cases V
   exact Yp _ k v c0 c1 c2 c3 c4 c5 W ((G.below o).more o.size) (by simp only[Af]at Z ⊢;omega)
  |cons e r=>
   obtain⟨b,rfl,R⟩:=V;have hl:=Pj (k:=k) (v:=v) (e::r);have:=Yo (fun i=>S i/\i<w.heap.size) (e::r) b k v c0 c1 c2 c3 c4 c5 W ((R.below o).now) (by simp) (by omega) ha ((G.below o).more o.size) Z
   rwa [show J1 (Dz k v (e::r))=(.leaf (Dz k v (e::r)),none)from by unfold J1;rw[if_pos (by omega)]]at this
 obtain⟨H,b',L,N,I,K,J,M,on,oc,rfl,rfl,rfl,rfl,rfl,rfl⟩:=Qj G;have g: ∀(W:World) (b:Nat),Below w.heap.size w W->Df (fun i=>S i\/w.heap.size<=i) W (.leaf (Dz k v a)) b->PO (.returned (.agg #[.pointer (some ⟨b,0,none⟩)])) W:=fun W b o hN=>by
  rw[<-n,Abh (Alf a)];exact⟨o,_,rfl,b,rfl,hN⟩
 obtain⟨j,c⟩: ∃j,((w.alloc (.cells #[.pointer p] 100)).alloc (.cells #[.int .i64 H,.bool b',.int .i64 L,.string N,.slice I K J,.slice M on oc] 42)).alloc (.cells #[.pointer none] 100)=j:=⟨_,rfl⟩;have s:Below w.heap.size w j:=c▸((Aa w (.cells #[.pointer p] 100)).alloc (by simp) _).alloc (by simp;omega) _;have E:Ap j (w.heap.size+1+1) 100 #[.pointer none]:=by
  have:=Ap.new ((w.alloc (.cells #[.pointer p] 100)).alloc (.cells #[.int .i64 H,.bool b',.int .i64 L,.string N,.slice I K J,.slice M on oc] 42)) 100 #[.pointer none]
  rwa [World.size_alloc,World.size_alloc,c]at this
 have t:Ap j w.heap.size 100 #[.pointer p]:=c▸((Ap.new w 100 #[.pointer p]).alloc _).alloc _;have u:Ap j (w.heap.size+1) 42 #[.int .i64 H,.bool b',.int .i64 L,.string N,.slice I K J,.slice M on oc]:=by
  have:=(Ap.new (w.alloc (.cells #[.pointer p] 100)) 42 #[.int .i64 H,.bool b',.int .i64 L,.string N,.slice I K J,.slice M on oc]).alloc (.cells #[.pointer none] 100)
  rwa [World.size_alloc,c]at this
 have e0:=t.cell 0;obtain⟨v0,v1,v2,v3,v4,v5⟩:=At u;have m1:=t.lt;have m2:=u.lt;clear t u;have HC:=qz (C j s);obtain⟨x,l,m⟩:=hid3 g s E;clear g s E;clear C n V G;go_enter Tryz.func88,Tryz.ntmps88;go_wp2_with (fail);clear e0 v0 v1 v2 v3 v4 v5 m1 m2;(with_reducible refine(HC.out).mono ?_);rintro e w4 ⟨f,y,q,rfl,A,Q⟩
 cases Q
 have D:=l.out.trans (f.mono l.out.size);have d:=m.out.below f m.out.lt;have d0:=d.cell 0;have fz:=d.frozen;have lx:=d.lt;have ab:=l.out.size;have ac:=f.size;have aa:=m.out.lt;clear c;have F:=(d.set_ 0 (.pointer (some ⟨y,0,none⟩))).cell 0;have z:=D.setCell (p:=⟨w.heap.size+1+1,0,none⟩) (by simp;omega) (.pointer (some ⟨y,0,none⟩));have B:Df (fun i=>(S i/\i<w.heap.size)\/j.heap.size<=i) (w4.setCell ⟨w.heap.size+1+1,0,none⟩ (.pointer (some ⟨y,0,none⟩))) (.leaf (Dz k v a)) y:=A.later (by simp[World.setCell]) fun i X _=>Below.heap_setCell _ _ _ _ (by rcases X with⟨_,X⟩|X<;>(simp;omega));have HP:=qz (x.out _ y z (B.mono fun i _ U=>U.imp (fun h=>h.1) (fun h=>by omega)));have O:=qz F;clear F;clear z B D f A d;go_wp2_with (fail);exact bodyPost_ret (Pk rfl rfl O.out) rfl HP.out
theorem Aay (a:List Cq) (e:Cq):Jy (a++ [e])=Dz e.1 e.2 (Jy a):=by unfold Jy;rw[List.foldl_append];rfl
theorem Ke: ∀(es l:List Cq),Dg l->Dg (es.foldl (fun l e=>Dz e.1 e.2 l) l)/\(es.foldl (fun l e=>Dz e.1 e.2 l) l).length<=l.length+es.length/\Af (es.foldl (fun l e=>Dz e.1 e.2 l) l)<=Af l+Af es
 | [],l,h=>⟨h,Nat.le_refl _,Nat.le_refl _⟩
 |(k,v)::r,l,h=>by
  obtain⟨b,d,f⟩:=Ke r (Dz k v l) (Tz h);have c:=Pj (k:=k) (v:=v) l;have a:=Nx k v l;simp only[Af]at a ⊢;simp only[List.foldl_cons,List.length_cons];exact⟨b,by omega,by omega⟩
theorem Nq (b:List Cq) (a:Option Addr) (n c:Nat) (w:World) (h:Ag w w.heap.size (.row 7 (dO b)) [.slice a n c]) (hb:Af b<=50000000) (h6:b.length<=6):Calls Tryz.prog 44 #[.slice a n c] w (Sb (fun _=>False) (Ei (Jy b)) w):=by
 have Z:=h.row_len;rw[Cb]at Z;subst Z;have aa:=B5 b;obtain⟨PO,u⟩: ∃P:Ending->World->Prop,Sb (fun _=>False) (Ei (Jy b)) w=P:=⟨_,rfl⟩;rw[u];have A:BI w (Ei (Jy (b.take 0))) ((w.alloc (.cells #[.pointer none] 100)).alloc (.cells #[.pointer none] 100)) none:=
  ⟨(Aa w _).alloc (by simp) _,(Ap.new _ _ _).alloc _,by simpa using Ap.new (w.alloc (.cells #[.pointer none] 100)) 100 #[.pointer none],rfl⟩
 obtain⟨H,K,y⟩:=hid3 h u A;clear h u A;go_enter Tryz.func44,Tryz.ntmps44;go_wp2_with (fail);go_loopw [8] (fun i wr=> ∃q:Nat,i=.int .i64 q/\q<=b.length/\ ∃p,Hid (BI w (Ei (Jy (b.take q))) wr p)) (fun i _=>b.length - (intOf i).toNat)
 case atStart=>exact⟨0,rfl,Nat.zero_le _,_,y⟩
 case round=>
  obtain⟨q,rfl,hq,p,d⟩:=hrel;clear y;by_cases O:q<b.length
  . obtain⟨⟨key,v⟩,G⟩: ∃v,b[q]? =some v:=⟨_,List.getElem?_eq_getElem O⟩;have C:=d.out.below;obtain⟨g,ac,rfl,hg,u1,u2,u3,u4,u5,u6,Q,t⟩:=E3 (H.out.later C) G;have D:Ei (Jy (b.take (q+1)))=Ei (Dz key v (Jy (b.take q))):=by
     rw[List.take_add_one,G,Option.toList_some,Aay]
    obtain⟨k',b',n',t',la,ln,lc,oa,on,oc,rfl,rfl,rfl,rfl,rfl,rfl⟩:=Qj Q;obtain⟨F,x⟩: ∃F,wr.alloc (.cells #[.string key,.int .i64 k',.bool b',.int .i64 n',.string t',.slice la ln lc,.slice oa on oc] 103)=F:=⟨_,rfl⟩;have m:Below wr.heap.size wr F:=x▸Aa _ _;obtain⟨S,I,T⟩:=Ke (b.take q) [] List.Pairwise.nil;have o5:Jy (b.take q)=(b.take q).foldl (fun l e=>Dz e.1 e.2 l) []:=rfl;rw[<-o5]at S I T;simp only[List.length_nil,Af]at I T;have N:Af (b.take q)+Af [(key,v)]<=Af b:=by
     have V:=Px b (q+1);rw[List.take_add_one,G,Option.toList_some,Gn]at V;exact V.1
    have U:=qz (Abi _ (Jy (b.take q)) p key v _ _ _ _ _ _ F (d.out.tree.below m) S (by rw[List.length_take]at I;omega) (by omega) ((Q.below m).more m.size));have s0:=t 0 _ rfl;have s1:=t 1 _ rfl;have s2:=t 2 _ rfl;have s3:=t 3 _ rfl;have s4:=t 4 _ rfl;have s5:=t 5 _ rfl;have s6:=t 6 _ rfl;simp only[Nat.add_zero]at s0;have y1:(q:Int)<(b.length:Int):=by omega
    have y2:(0:Int)<=(q:Int):=by omega
    have s:=d.out.var.below m d.out.var.lt;have d0:=s.cell 0;have M:=s.frozen;have R:=s.lt;have f:Ap F wr.heap.size 103 #[.string key,.int .i64 k',.bool b',.int .i64 n',.string t',.slice la ln lc,.slice oa on oc]:=x▸Ap.new _ _ _;have x0:=f.cell 0;have x1:=f.cell 1;have x2:=f.cell 2;have x3:=f.cell 3;have x4:=f.cell 4;have x5:=f.cell 5;have x6:=f.cell 6;have lx:=f.lt;clear s f;obtain⟨z,r⟩:=hid2 D m;clear D m;clear G Q t S I T o5 N C;go_wp2_with (fail);clear s0 s1 s2 s3 s4 s5 s6 x0 x1 x2 x3 x4 x5 x6 lx d0 M R;(with_reducible refine(U.out).mono ?_);rintro e w2 ⟨B,J,rfl,X⟩;have j:=r.out.trans (B.mono r.out.size);have o:=d.out.var.below j d.out.var.lt;have d0:=o.cell 0;have M:=o.frozen;have R:=o.lt;have lv:=d.out.var.lt;have ab:=r.out.size;have k:Lr (fun i=>w.heap.size+2<=i) (w2.setCell ⟨w.heap.size+1,0,none⟩ (.pointer J)) (Ei (Jy (b.take (q+1)))) J:=by
     rw[z.out];exact(X.mono fun i _ Y=>Y.elim id fun h=>by omega).later (by simp[World.setCell]) fun i i1 _=>Below.heap_setCell _ _ _ _ (by simp;omega)
    have HN:Hid (BI w (Ei (Jy (b.take (q+1)))) (w2.setCell ⟨w.heap.size+1,0,none⟩ (.pointer J)) J):=
     ⟨(d.out.below.trans (j.mono d.out.below.size)).setCell (p:=⟨w.heap.size+1,0,none⟩) (by simp) _,(d.out.res.below j d.out.res.lt).far (p:=⟨w.heap.size+1,0,none⟩) (by simp) _,o.set_ 0 _,k⟩
    clear k o X B j U z r d x;go_wp2;go_roundw
    case rel=>exact⟨q+1,by go_num,by omega,_,HN⟩
    case measure=>simp only[intOf];omega
  . obtain rfl:q=b.length:=by omega
    have y1: ¬((b.length:Int)<(b.length:Int)):=by omega
    have d0:=d.out.var.cell 0;have r0:=d.out.res.cell 0;have M:=d.out.res.frozen;have R:=d.out.res.lt;have lv:=d.out.var.lt;have E:=(d.out.res.set_ 0 (.pointer p)).cell 0;have k:=d.out.tree.later (w':=wr.setCell ⟨w.heap.size,0,none⟩ (.pointer p)) (by simp[World.setCell]) fun i i1 _=>Below.heap_setCell _ _ _ _ (by simp;omega);rw[List.take_length]at k;have W:PO (.returned (.agg #[.pointer p])) (wr.setCell ⟨w.heap.size,0,none⟩ (.pointer p)):=by
     rw[<-K.out];exact⟨d.out.below.setCell (p:=⟨w.heap.size,0,none⟩) (by simp) _,p,rfl,k.mono fun i _ Y=> .inr (by omega)⟩
    obtain⟨L,HP⟩:=hid2 E W;clear E W;clear k d;go_wp2_with (fail);exact bodyPost_ret (Pk rfl rfl L.out) rfl HP.out
theorem V5 (w:World) (B:Nat) (key s:ByteArray):Ag w B (dP (key,tv s)) [.string key,.int .i64 4,.bool false,.int .i64 0,.string s,.slice none 0 0,.slice none 0 0]:=by
 have a:Ab w B (tv s) [.int .i64 4,.bool false,.int .i64 0,.string s,.slice none 0 0,.slice none 0 0]:=by
  simp only[tv,Ab];exact⟨none,0,none,0,rfl,by simp,by simp⟩
 exact⟨[.string key],_,rfl,⟨rfl,rfl⟩,_, [],by simp,Fl _ _ a,rfl⟩
theorem V4 (w:World) (B:Nat) (key:ByteArray) (n:Int):Ag w B (dP (key,iv n)) [.string key,.int .i64 3,.bool false,.int .i64 n,.string ⟨#[]⟩,.slice none 0 0,.slice none 0 0]:=by
 have a:Ab w B (iv n) [.int .i64 3,.bool false,.int .i64 n,.string ⟨#[]⟩,.slice none 0 0,.slice none 0 0]:=by
  simp only[iv,Ab];exact⟨none,0,none,0,rfl,by simp,by simp⟩
 exact⟨[.string key],_,rfl,⟨rfl,rfl⟩,_, [],by simp,Fl _ _ a,rfl⟩
def Lv (o:List (ByteArray×Val)) (w:World) (e:Ending) (w':World):Prop:=Below w.heap.size w w'/\
 ∃la lc oa oc,e=.returned (.agg #[.int .i64 6,.bool false,.int .i64 0,.string ⟨#[]⟩,.slice la 0 lc,.slice oa o.length oc])/\A7 w.heap.size w' (dV (ov o)) [.int .i64 6,.bool false,.int .i64 0,.string ⟨#[]⟩,.slice la 0 lc,.slice oa o.length oc]
theorem Xn {B R b':Nat} {w0 a:World} {o:Obj} {d:D} {cs:List Value} (vs:List Value) (h:Below B w0 a) (b:B<=a.heap.size) (f:B<=R) (g:R<b') (i:A7 b' a d cs):
 Below B w0 ((A4 a R 0 vs).alloc o)/\A7 B ((A4 a R 0 vs).alloc o) d cs:=by
 have c:=As vs h f (o:=0);refine⟨c.alloc (by rw[Ba];exact b) _, ?_⟩;have e:A7 B (A4 a R 0 vs) d cs:=i.keep (by omega) (by rw[Ba];exact Nat.le_refl _) fun p j k=>World.cell?_of_block (Ay vs _ _ _ _ (by omega));exact e.later (Aa _ _)
theorem Aj3 {w w1:World} {o o':Obj} (h:Below ((w.alloc o).alloc o').heap.size ((w.alloc o).alloc o') w1):w.heap.size<w1.heap.size/\w.heap.size+1<w1.heap.size:=by
 have:=h.size;simp at this;omega
theorem Ye {w w1 d:World} {o o':Obj} (a:Below ((w.alloc o).alloc (.cells Al 42)).heap.size ((w.alloc o).alloc (.cells Al 42)) w1) (b:Below (w1.alloc o').heap.size (w1.alloc o') d):Ap d (w.heap.size+1) 42 Al:=by
 have h0:Ap ((w.alloc o).alloc (.cells Al 42)) (w.heap.size+1) 42 Al:=by
  have:=Ap.new (w.alloc o) 42 Al
  rwa [World.size_alloc]at this
 have c:=(h0.below a h0.lt).alloc o';exact c.below b c.lt
theorem Ac8 (W:World) (s:ByteArray):C3 W.heap.size 111 7 (W.alloc (.cells #[.string Cf,.int .i64 4,.bool false,.int .i64 0,.string s,.slice none 0 0,.slice none 0 0] 111)) (dO [(Cf,tv s)]) (.slice (some ⟨W.heap.size,0,none⟩) 1 1):=
 C3.lit (Nat.le_refl _) rfl (fun a B=>V5 a B Cf s)
theorem V3 (b:Nat) (w:World) (key s:ByteArray):A7 b w (dP (key,tv s)) [.string key,.int .i64 4,.bool false,.int .i64 0,.string s,.slice none 0 0,.slice none 0 0]:=fun _ _ _=>V5 _ _ _ _
theorem Vn (w:World) (o o':Obj):Below w.heap.size w ((w.alloc o).alloc o'):=((Below.refl w.heap.size w).alloc (Nat.le_refl _) _).alloc (by simp) _
theorem Aii {b:Nat} {w:World} {vs:List Val} {a:Option Addr} {n c:Nat} (h:A7 b w (.row 6 (dL vs)) [.slice a n c]):A7 b w (dV (lv vs)) [.int .i64 5,.bool false,.int .i64 0,.string ⟨#[]⟩,.slice a n c,.slice none 0 0]:=fun d e f=>by
 simp only[lv,dV,Ag];exact Ah.six.2 ⟨[.slice a n c], [.slice none 0 0],rfl,rfl,rfl,rfl,rfl,h d e f,⟨none,0,rfl,by simp[dO], [],rfl,by simp[dO]⟩⟩
theorem Af5 {w:World} {g:Nat} {t:TypeId} {cs:Array Value} {l:List D} {s n c:Nat} (h:Ap w g t cs) (e: ∀d ∈ l,d.cells=s) (a:Ah w w.heap.size l cs.toList) (b:n=l.length):Ag w w.heap.size (.row s l) [.slice (some ⟨g,0,none⟩) n c]:=by
 subst b;exact⟨_,c,rfl,e,cs.toList,a,.inr ⟨g,0,rfl,h.lt,fun j u f=>by rw[Nat.zero_add];exact(h.cell j).trans (by rw[<-Array.getElem?_toList];exact f)⟩⟩
theorem Anv {w:World} {B:Nat}: ∀{o:List (ByteArray×Val)} {ns:List Value},Ah w B (dO o) ns-> ∃d:List Mx,d.map Nb=o/\ns=d.flatMap G0/\ ∀x ∈ d,Ag w B (dP (Nb x)) (G0 x)
 | [],ns,h=>by
   have:ns= []:=h;subst this;exact⟨[],rfl,rfl,fun x c=>by cases c⟩
 |(key,v)::r,ns,h=>by
  obtain⟨c1,c2,rfl,e,m⟩:=h;obtain⟨d,g,i,j⟩:=Anv m;have a:=e;obtain⟨_,y,rfl,⟨rfl,_⟩,c3,c4,rfl,p,rfl⟩:=e;obtain⟨k,b,n,t,l,o⟩:=v;have f:=Be _ _ p;simp only[Ab]at f;obtain⟨q,s,u,oc,rfl,_,_⟩:=f;refine⟨(key,.mk k b n t l o,(q,s),u,oc)::d,by simp[Nb,g],by rw[i];rfl,fun x c=> ?_⟩;rcases List.mem_cons.1 c with rfl|c
  . simp only[List.append_nil,List.cons_append,List.nil_append]at a;exact a
  . exact j x c
theorem Anq {w:World} {B:Nat}: ∀{d:List Mx},(∀x ∈ d,Ag w B (dP (Nb x)) (G0 x))->Ah w B (dO (d.map Nb)) (d.flatMap G0)
 | [],_=>rfl
 |x::d,h=>⟨G0 x,d.flatMap G0,rfl,h x (by simp),Anq fun y a=>h y (by simp[a])⟩
theorem Ta: ∀(d:List Mx) (i j:Nat),i<d.length->j<7->(d.flatMap G0)[i*7+j]? =some (G0 d[i]!)[j]!
 | [],i,j,hi,_=>by simp at hi
 |x::d,0,j,_,hj=>by
  have a:=O3 x;rw[List.flatMap_cons,List.getElem?_append_left (by omega),Nat.zero_mul,Nat.zero_add,List.getElem?_eq_getElem (by omega)];simp[a,hj]
 |x::d,i+1,j,hi,hj=>by
  have a:=O3 x;rw[List.flatMap_cons,List.getElem?_append_right (by omega),a,show(i+1)*7+j - 7=i*7+j from by omega,Ta d i j (by simpa using hi) hj];simp
theorem Aih (d:List Mx):(d.flatMap G0).length=d.length*7:=by
 induction d with
 |nil=>rfl
 |cons x d ih=>rw[List.flatMap_cons,List.length_append,O3,ih,List.length_cons];omega
theorem Acm {w:World} {g:Nat} {d:List Mx} (h: ∀i,i<d.length-> ∀j,j<7->w.cell? ⟨g,i*7+j,none⟩=some (G0 d[i]!)[j]!): ∀(t:Nat) (u:Value),(d.flatMap G0)[t]? =some u->w.cell? ⟨g,t,none⟩=some u:=by
 intro t u a;have b:=(List.getElem?_eq_some_iff.1 a).1;rw[Aih]at b;have e:t=t / 7*7+t % 7:=by omega
 rw[e]at a ⊢;rw[Ta d _ _ (by omega) (by omega)]at a;rw[h _ (by omega) _ (by omega)];exact a
theorem Ajk {w:World} {B m s:Nat} {t:TypeId} {v:Value} {ns:List Value} (h:w.ownsRow B t s v m ns):
 ∃a c,v=.slice a m c/\((m=0/\a=none/\c=0)\/ ∃g,a=some ⟨g,0,none⟩/\B<=g/\g<w.heap.size/\m<=c/\(∀(j:Nat) (u:Value),ns[j]? =some u->w.cell? ⟨g,j,none⟩=some u)/\ ∀j,w.frozen? ⟨g,j,none⟩=false):=by
 rcases h.2 with⟨rfl,hz⟩|⟨g,cap,cur,rfl,hbg,hg,hmc,_,_,_⟩
 . subst hz;exact⟨none,0,rfl,.inl ⟨rfl,rfl,rfl⟩⟩
 . refine⟨_,cap,rfl,.inr ⟨g,rfl,hbg,(Array.getElem?_eq_some_iff.1 hg).1,hmc,fun j u b=> ?_,fun j=>by simp[World.frozen?,hg]⟩⟩;have:=h.cells (g:=g) rfl j u b
   rwa [De,Nat.zero_add]at this
def Aln (W:World) (a:Option Addr) (d:List Mx) (e:Ending) (w':World):Prop:=e=.returned (.tuple #[])/\ ∃d':List Mx,d'.length=d.length/\d'.Perm d/\(∀i j,i<j->j<d.length->ltM d'[j]! d'[i]! =false)/\
 (d.length=0\/ ∃g,a=some ⟨g,0,none⟩/\g<w'.heap.size/\ ∀i,i<d.length-> ∀j,j<7->w'.cell? ⟨g,i*7+j,none⟩=some (G0 d'[i]!)[j]!)/\
 (∀b,b<W.heap.size->(∀g,a=some ⟨g,0,none⟩->b≠g)->w'.heap[b]? =W.heap[b]?)/\W.heap.size<=w'.heap.size/\w'.os=W.os/\w'.tape=W.tape/\w'.output=W.output
theorem Ag0 (a:Option Addr) (c l:Nat) (d:List Mx) (t:d.length<4611686018427387904) (W:World)
 (h:(d.length=0/\a=none)\/ ∃g,a=some ⟨g,0,none⟩/\g<W.heap.size/\l≠g/\(∀i,i<d.length-> ∀j,j<7->W.cell? ⟨g,i*7+j,none⟩=some (G0 d[i]!)[j]!)/\ ∀j,W.frozen? ⟨g,j,none⟩=false)
 (q:W.cell? ⟨l,0,none⟩=some (.slice a d.length c)) (o:l<W.heap.size):
 Calls Tryz.prog 98 #[.iface 40 (.slice a d.length c),.func (.func 99) #[] #[.pointer (some ⟨l,0,none⟩)]] W (Aln W a d):=by
 by_cases n:2<=d.length
 . rcases h with⟨h,_⟩|⟨g,rfl,hg,k,hc,hf⟩
   . omega
   . have A:Go.Sort.HoldsK G0 7 W g 0 d.toArray:=by
      intro j m;rw[Go.Sort.size_flatK,List.size_toArray]at m;rw[Go.Sort.get_flatK _ _ _ _ (by simpa using m),Nat.zero_add];refine⟨?_,hf _⟩;have:=hc (j / 7) (by omega) (j % 7) (by omega);rw[show j / 7*7+j % 7=j from by omega]at this;rw[this];simp
     have v:=Adx g c l d.toArray (by simpa using n) (by simpa using t) W A hg (by simpa using q) o k;simp only[List.size_toArray]at v;refine v.mono ?_;rintro e w' ⟨rfl,z,w,B,x,y,C,D,E⟩;simp only[List.size_toArray]at w x y;refine⟨rfl,z.toList,by simpa using w,by simpa using B,fun i j u n=> ?_,.inr ⟨g,rfl,by omega,fun i s j m=> ?_⟩,fun b f k=>C b f (k g rfl),D,E⟩
     . simp only[Array.getElem!_toList];exact x i j (Nat.zero_le _) u n
     . simp only[Array.getElem!_toList];exact y i s j m
 . refine(Ag1 a d.length c l (by omega) W).mono ?_;rintro e w' ⟨rfl,f⟩;refine⟨rfl,d,rfl,List.Perm.refl _,fun i j u F=>by omega, ?_,fun b r _=>f.block b r,f.size,f.os,f.tape,f.output⟩;rcases h with⟨h,_⟩|⟨g,ea,hg,k,hc,hf⟩
   . exact .inl h
   . exact .inr ⟨g,ea,by have:=f.size;omega,fun i s j m=>(f.cell (p:=⟨g,i*7+j,none⟩) hg).trans (hc i s j m)⟩
theorem Ama {d:List Mx} (n: ∀i j,i<j->j<d.length->ltM d[j]! d[i]! =false) (m: ∀t,1<=t->t<d.length->(d[t]!).1≠(d[t - 1]!).1):Dg (d.map Nb):=by
 have a: ∀t,t+1<d.length->ltM d[t]! d[t+1]! =true:=by
  intro t f;have e:=n t (t+1) (by omega) f;have g:=m (t+1) (by omega) f;rcases Kb (d[t]!).1 (d[t+1]!).1 with p|p|p
  . exact p
  . exact absurd p.symm g
  . unfold ltM at e;rw[e]at p;cases p
 have c: ∀k i,i+k+1<d.length->ltM d[i]! d[i+k+1]! =true:=by
  intro k
  induction k with
  |zero=>intro i b;exact a i b
  |succ k ih=>intro i b;exact Dq (ih i (by omega)) (a (i+k+1) (by omega))
 unfold Dg;rw[List.pairwise_map,List.pairwise_iff_getElem];intro i j b l h;have:=c (j - i - 1) i (by omega);rw[show i+(j - i - 1)+1=j from by omega]at this;simpa[ltM,Nb,b,l]using this
def Kv (v:Val) (key:ByteArray) (w:World) (e:Ending) (w':World):Prop:=Below w.heap.size w w'/\
 if Bo v≠6 then e=.returned (.tuple #[.agg Al,.int .i64 9])else match Av key (Bx v)with
 |none=>e=.returned (.tuple #[.agg Al,.int .i64 12])
 |some x=> ∃cs:List Value,e=.returned (.tuple #[.agg cs.toArray,.int .i64 0])/\A7 w.heap.size w' (dV x) cs
structure MI (w:World) (six:Array Value) (wr:World):Prop where
 below:Below w.heap.size w wr
 box:Ap wr w.heap.size 42 six
 res:Ap wr (w.heap.size+1) 42 Al
theorem MI.alloc {w wr:World} {six:Array Value} (h:MI w six wr) (o:Obj):MI w six (wr.alloc o):=⟨h.below.alloc h.below.size o,h.box.alloc o,h.res.alloc o⟩
theorem MI.call {w wr w':World} {six:Array Value} (h:MI w six wr) (a:Below wr.heap.size wr w'):MI w six w':=⟨h.below.trans (a.mono h.below.size),h.box.below a h.box.lt,h.res.below a h.res.lt⟩
theorem Xy (l:Int) (b':Bool) (f:Int) (j:ByteArray) (l':List Val) (o':List (ByteArray×Val)) (la lc oa oc) (key:ByteArray) (w:World)
 (h:Ag w w.heap.size (dV (.mk l b' f j l' o')) [.int .i64 l,.bool b',.int .i64 f,.string j,.slice la l'.length lc,.slice oa o'.length oc]) (hb:(Val.mk l b' f j l' o').bulk<=100000000):
 Calls Tryz.prog 77 #[.agg #[.int .i64 l,.bool b',.int .i64 f,.string j,.slice la l'.length lc,.slice oa o'.length oc],.string key] w (Kv (.mk l b' f j l' o') key w):=by
 have d:MI w #[.int .i64 l,.bool b',.int .i64 f,.string j,.slice la l'.length lc,.slice oa o'.length oc] ((w.alloc (.cells #[.int .i64 l,.bool b',.int .i64 f,.string j,.slice la l'.length lc,.slice oa o'.length oc] 42)).alloc (.cells Al 42)):=
  ⟨((Below.refl _ _).alloc (Nat.le_refl _) _).alloc (by simp) _,(Ap.new w _ _).alloc _,by simpa using Ap.new (w.alloc (.cells #[.int .i64 l,.bool b',.int .i64 f,.string j,.slice la l'.length lc,.slice oa o'.length oc] 42)) 42 Al⟩
 obtain⟨wi,T⟩: ∃wi,(w.alloc (.cells #[.int .i64 l,.bool b',.int .i64 f,.string j,.slice la l'.length lc,.slice oa o'.length oc] 42)).alloc (.cells Al 42)=wi:=⟨_,rfl⟩;rw[T]at d;have hl:o'.length<=100000000:=by
  have h1:=B5 o';have h2:Af o'<=(Val.mk l b' f j l' o').bulk:=by simp only[Val.bulk];omega
  omega
 by_cases hk:l=6;rotate_left
 . have e1:(l != 6)=true:=by simpa using hk
   have HP:Hid (∀W,Below w.heap.size w W->Kv (.mk l b' f j l' o') key w (.returned (.tuple #[.agg Al,.int .i64 9])) W):=fun W hW=>⟨hW,by rw[if_pos (show Bo (.mk l b' f j l' o')≠6 from hk)]⟩;obtain⟨r0,r1,r2,r3,r4,r5⟩:=At d.res;have x0:=d.box.cell 0;have xl:=d.box.lt;have fz:=d.res.frozen;have ac:=d.res.lt;obtain⟨n,H⟩:=hid2 d h;clear d h;clear hk;go_enter Tryz.func77,Tryz.ntmps77;go_upto_region 2 with(fail);clear T
   repeat go_step
   have y:=(((((n.out.res.set_ 0 (.int .i64 0)).set_ 1 (.bool false)).set_ 2 (.int .i64 0)).set_ 3 (.string ⟨#[]⟩)).set_ 4 (.slice none 0 0)).set_ 5 (.slice none 0 0);have s:=As [.int .i64 0,.bool false,.int .i64 0,.string ⟨#[]⟩,.slice none 0 0,.slice none 0 0] n.out.below (Nat.le_succ w.heap.size) (o:=0);exact bodyPost_ret (B3 rfl rfl y) rfl (HP.out _ s)
 subst hk;have y0:=d.box.cell 0;have y5:=d.box.cell 5;have yl:=d.box.lt;have aa:=qz (show ∀p ∈ o'.take 0,p.1≠key from by simp);obtain⟨n,H⟩:=hid2 d h;clear d h;go_enter Tryz.func77,Tryz.ntmps77;go_upto_region 1 with(fail);clear T;go_wp2_with (fail);go_loopw [15] (fun i wr=> ∃q:Nat,i=.int .i64 q/\q<=o'.length/\Hid (∀p ∈ o'.take q,p.1≠key)/\Hid (MI w #[.int .i64 6,.bool b',.int .i64 f,.string j,.slice la l'.length lc,.slice oa o'.length oc] wr)) (fun i _=>o'.length - (intOf i).toNat)
 case atStart=>exact⟨0,rfl,Nat.zero_le _,aa,n⟩
 case round=>
  obtain⟨q,rfl,hq,m,z⟩:=hrel;clear n aa;have ap:(0:Int)<=q:=by omega
  by_cases ao:q<o'.length
  . obtain⟨p,A⟩: ∃p,o'[q]? =some p:=⟨_,List.getElem?_eq_getElem (by omega)⟩;obtain⟨c,⟨G,F,L,P,I,M⟩⟩:=p;have hz:=z.out.below.size;have ah:(Val.mk G F L P I M).bulk<=100000000:=by
     have h1:=C4 (List.mem_of_getElem? A);have h2:Af o'<=(Val.mk 6 b' f j l' o').bulk:=by simp only[Val.bulk];omega
     simp only at h1;omega
    obtain⟨g,ar,rfl,hg,J,K,N,O,hv,c0,c1,c2,c3,c4,c5,c6⟩:=Xx (Ae0 ((H.out.below z.out.below).more hz)) A;have aq:(q:Int)<(o'.length:Int):=by omega
    have C:=z.out.alloc (.cells #[.string c,.int .i64 G,.bool F,.int .i64 L,.string P,.slice J I.length K,.slice N M.length O] 111);have E:=Ap.new wr 111 #[.string c,.int .i64 G,.bool F,.int .i64 L,.string P,.slice J I.length K,.slice N M.length O];have v:o'.take (q+1)=o'.take q++ [(c,.mk G F L P I M)]:=by rw[List.take_add_one,A];simp
    by_cases t:c=key
    . subst t;have e1:(c.toList==c.toList)=true:=by simp
      have e2:(c==c)=true:=by rw[Sq];simp
      have Q:=qz (N5 (o:=o') m.out A rfl);have HC:=qz (Iv _ _ (wr.alloc (.cells #[.string c,.int .i64 G,.bool F,.int .i64 L,.string P,.slice J I.length K,.slice N M.length O] 111)) (Be _ _ (hv.later (Aa _ _))) ah);have af:=qz (show wr.heap.size<=(wr.alloc (.cells #[.string c,.int .i64 G,.bool F,.int .i64 L,.string P,.slice J I.length K,.slice N M.length O] 111)).heap.size from by simp);obtain⟨B,ae,Hv,Hp,ag⟩:=hid5 C E hv A v;clear C E hv A v;clear z m;go_wp2_with (fail);(with_reducible refine(HC.out).mono ?_);rintro e w4 ⟨⟨am,rfl,an,S⟩,D⟩;obtain⟨U,V,X,Y,rfl⟩:=Dc S;have r:=B.out.call D;obtain⟨r0,r1,r2,r3,r4,r5⟩:=At r.res;have fz:=r.res.frozen;have ac:=r.res.lt;have ak:=D.size;have aj:=B.out.res.lt;obtain⟨Z,ad,al⟩:=hid3 r S D;clear r S D;dsimp only
      repeat go_step
      have y:=(((((Z.out.res.set_ 0 (.int .i64 G)).set_ 1 (.bool F)).set_ 2 (.int .i64 L)).set_ 3 (.string P)).set_ 4 (.slice U I.length V)).set_ 5 (.slice X M.length Y);have s:=As [.int .i64 G,.bool F,.int .i64 L,.string P,.slice U I.length V,.slice X M.length Y] Z.out.below (Nat.le_succ w.heap.size) (o:=0);have ai:=ad.out.keep (b':=w.heap.size) (w':=A4 w4 (w.heap.size+1) 0 [.int .i64 G,.bool F,.int .i64 L,.string P,.slice U I.length V,.slice X M.length Y]) (by have:=af.out;omega) (by rw[Ba];exact Nat.le_refl _) (fun p p1 _=>World.cell?_of_block (Ay _ _ _ _ _ (by omega)));refine bodyPost_ret (B3 rfl rfl y) rfl ⟨s, ?_⟩;rw[if_neg (show ¬Bo (.mk 6 b' f j l' o')≠6 from fun h=>h rfl)];show match Av c o' with|none=>_|some x=>_
      rw[Q.out];exact⟨_,rfl,ai⟩
    . have e1:(c.toList==key.toList)=false:=by
       rw[Y8];simp only[decide_eq_false_iff_not];intro e;apply t;obtain⟨⟨a⟩⟩:=c;obtain⟨⟨b⟩⟩:=key;simpa[ByteArray.toList_eq]using e
      have e2:(c==key)=false:=by rw[Sq];simp[t]
      have ab:Hid (∀p ∈ o'.take (q+1),p.1≠key):=by
       refine qz ?_;rw[v];intro p A;rcases List.mem_append.1 A with h|h
       . exact m.out p h
       . obtain rfl:=List.mem_singleton.1 h;exact t
      obtain⟨B,ae,Hv,Hp,ag⟩:=hid5 C E hv A v;clear C E hv A v;clear z m t;go_wp2;go_roundw
      case rel=>exact⟨q+1,by go_num,by omega,ab,B⟩
      case measure=>simp only[intOf];omega
  . obtain rfl:q=o'.length:=by omega
    have u:=Vw (k:=key) (o:=o') (by
     have:=m.out
     rwa [List.take_length]at this)
    obtain⟨r0,r1,r2,r3,r4,r5⟩:=At z.out.res;have fz:=z.out.res.frozen;have ac:=z.out.res.lt;have R:=qz u;clear u;clear m;go_upto_region 9 with(fail)
    repeat go_step
    have y:=(((((z.out.res.set_ 0 (.int .i64 0)).set_ 1 (.bool false)).set_ 2 (.int .i64 0)).set_ 3 (.string ⟨#[]⟩)).set_ 4 (.slice none 0 0)).set_ 5 (.slice none 0 0);have s:=As [.int .i64 0,.bool false,.int .i64 0,.string ⟨#[]⟩,.slice none 0 0,.slice none 0 0] z.out.below (Nat.le_succ w.heap.size) (o:=0);refine bodyPost_ret (B3 rfl rfl y) rfl ⟨s, ?_⟩;rw[if_neg (show ¬Bo (.mk 6 b' f j l' o')≠6 from fun h=>h rfl)];show match Av key o' with|none=>_|some x=>_
    rw[R.out];rfl
theorem Ahv {S0:Nat->Prop} {w w6:World} {R b:Nat} {t e:TypeId} {d:Nat} {l:List D} {V:Value} {cs:Array Value} {wr:World} (h:Ap w R t cs) (a:w.grownBy w6 V.ownBlock) (c:Bk S0 b e d wr l V) (f:R<b\/wr.heap.size<=R):Ap w6 R t cs:=
 h.grown a fun e=>by have:=c.base R e.symm;omega
theorem Ab5 {S0:Nat->Prop} {w w6:World} {B b:Nat} {e:TypeId} {i:Nat} {l:List D} {V:Value} {w0 wr:World} (h:Below B w0 w) (d:w.grownBy w6 V.ownBlock) (g:Bk S0 b e i wr l V) (c:B<=b) (a:B<=w.heap.size):Below B w0 w6:=
 h.grown d a fun k f=>Nat.le_trans c (g.base k f).1
end Go.Proofs.YtjgfchcldhmjcaaGreatDoor
