/- Parts: What is read of a value is not more than it, and has numbers of 64 bits. Plain. No condition. -/
import Derived.Test.YtmglfdckpjegdaaGreatDoorKMu38
import Derived.Test.YtmglfdckpjegdaaGreatDoorKMu39
set_option maxHeartbeats 20000000
namespace Go.Proofs.YtmglfdckpjegdaaGreatDoor
open Go Go.RowKit
set_option maxRecDepth 100000 in
theorem X0 (m:Mut) (y0 y1 y2 y3 y4 y5 y6 y7 y8 y9 y10 y11 y12 y13 y14 y15 y16 y17 y18:Value) (A g:Nat) (w:World) (hA:w.cell? ⟨A,0,none⟩=some (.map (some g))) (hlt:A<w.heap.size)
 (hC: ∀W',Below w.heap.size w W'->Calls Tryz.prog 33 #[.map (some g),.agg #[y0,y1,y2,y3,y4,y5,y6,y7,y8,y9,y10,y11,y12,y13,y14,y15,y16,y17,y18]] W' (J9 m W')):
 Calls Tryz.prog 78 #[.agg #[y0,y1,y2,y3,y4,y5,y6,y7,y8,y9,y10,y11,y12,y13,y14,y15,y16,y17,y18],.pointer (some ⟨A,0,none⟩)] w (J9 m w):=by
 have h0:Below w.heap.size w ((w.alloc (.cells #[y0,y1,y2,y3,y4,y5,y6,y7,y8,y9,y10,y11,y12,y13,y14,y15,y16,y17,y18] 30)).alloc (.cells Ap 27)):=((Below.refl _ _).alloc (Nat.le_refl _) _).alloc (by simp) _;have hx0:Al ((w.alloc (.cells #[y0,y1,y2,y3,y4,y5,y6,y7,y8,y9,y10,y11,y12,y13,y14,y15,y16,y17,y18] 30)).alloc (.cells Ap 27)) w.heap.size 30 #[y0,y1,y2,y3,y4,y5,y6,y7,y8,y9,y10,y11,y12,y13,y14,y15,y16,y17,y18]:=(Al.new _ _ _).alloc _;have hr0:Al ((w.alloc (.cells #[y0,y1,y2,y3,y4,y5,y6,y7,y8,y9,y10,y11,y12,y13,y14,y15,y16,y17,y18] 30)).alloc (.cells Ap 27)) (w.heap.size+1) 27 Ap:=by
  have:=Al.new (w.alloc (.cells #[y0,y1,y2,y3,y4,y5,y6,y7,y8,y9,y10,y11,y12,y13,y14,y15,y16,y17,y18] 30)) 27 Ap
  rwa [World.size_alloc]at this
 have hz2:w.heap.size+2<=((w.alloc (.cells #[y0,y1,y2,y3,y4,y5,y6,y7,y8,y9,y10,y11,y12,y13,y14,y15,y16,y17,y18] 30)).alloc (.cells Ap 27)).heap.size:=by simp
 have hA0:=(h0.cell (p:=⟨A,0,none⟩) hlt).trans hA;obtain⟨H0,Hx0,Hr0,HC,Hz2⟩:=hid5 h0 hx0 hr0 hC hz2;clear h0 hx0 hr0 hC hz2;go_enter Tryz.func78,Tryz.ntmps78;go_upto_region 1 with(fail)
 iterate 5 go_step
 refine Ac 30 (.tmp 2) rfl w.heap.size _ Hx0.out rfl _ Tryz.underlying30 rfl (by kernel_rfl) ?_;go_wp2_with (fail);(with_reducible refine(HC.out _ H0.out).mono ?_);rintro e w6 ⟨hb6,oa5,oc5,rfl,hf6⟩;have hw6:=H0.out.trans (hb6.mono H0.out.size);have hr6:=Hr0.out.below hb6 Hr0.out.lt;obtain⟨c0,c1,c2,c3,c4,c5⟩:=Bo hr6;have fz:=hr6.frozen;have hlt6:=hr6.lt;obtain⟨Hb6,Hw6,Hr6,Hf6⟩:=hid4 hb6 hw6 hr6 hf6;clear hb6 hw6 hr6 hf6;clear hA0 hA;dsimp only
 repeat go_step
 have hxf:=((((((Hr6.out.set_ 0 (.int .i64 6)).set_ 1 (.bool false)).set_ 2 (.int .i64 0)).set_ 3 (.string ⟨#[]⟩)).set_ 4 (.slice none 0 0)).set_ 5 (.slice oa5 2 oc5));have hbf:=A7 [.int .i64 6,.bool false,.int .i64 0,.string ⟨#[]⟩,.slice none 0 0,.slice oa5 2 oc5] Hw6.out (Nat.le_succ w.heap.size) (o:=0);have hff:Au w.heap.size (Bi w6 (w.heap.size+1) 0 [.int .i64 6,.bool false,.int .i64 0,.string ⟨#[]⟩,.slice none 0 0,.slice oa5 2 oc5]) (dV (Bb m)) [.int .i64 6,.bool false,.int .i64 0,.string ⟨#[]⟩,.slice none 0 0,.slice oa5 2 oc5]:=
  Hf6.out.keep (b':=w.heap.size) (Nat.le_trans (by omega) Hz2.out) (by rw[A9];exact Nat.le_refl _) (fun p p1 _=>World.cell?_of_block (A0 _ _ _ _ _ (by have:=Hz2.out;omega)))
 exact bodyPost_ret (Ax rfl rfl hxf) rfl ⟨hbf,oa5,oc5,rfl,hff⟩
theorem Ga {m:Mut} {O:List (ByteArray×Val)} {nm:ByteArray} (e:Bb m=ov [(Ai,ov O),(An,tv nm)]):Q9 O nm=J9 m:=by
 unfold Q9 J9;rw[e]
def Apn (m:Mut):Prop:= ∀(cs:List Value) (d:Int) (g A R W:Nat) (F:Nat->Nat) (w:World),Shp w g A R W F->Fs w->Holds w w.heap.size (dM m) cs->Bm m<=8000000->Dv m d=0->
 Calls Tryz.prog 33 #[.map (some g),.agg cs.toArray] w (J9 m w)
theorem Aer: ∀m,Apn m:=by
 refine Mut.ind ?_;intro k key dst n had was has v l IH cs d g A R W F w hS hN hM hb hm;obtain⟨k1,b1,n1,t1,l1,o1⟩:=was;obtain⟨k2,b2,n2,t2,l2,o2⟩:=v;obtain⟨la1,lc1,oa1,oc1,la2,lc2,oa2,oc2,a,c,rfl,hv1,hv2,hl⟩:=Bq hM;have hls:=Fm l;simp only[Bm]at hb;obtain⟨h1,_,_,_,_,h6⟩:=E4 hm;obtain⟨k1',k7'⟩:=M4 h1;have hkk:k=1\/k=2\/k=3\/k=4\/k=5\/k=6\/k=7:=by omega
 have hv1': ∀W',Below w.heap.size w W'->Ab W' W'.heap.size (.mk k1 b1 n1 t1 l1 o1) [.int .i64 k1,.bool b1,.int .i64 n1,.string t1,.slice la1 l1.length lc1,.slice oa1 o1.length oc1]:=fun W' hW=>Ab.more hW.size _ _ (hv1.below hW);have hv2': ∀W',Below w.heap.size w W'->Ab W' W'.heap.size (.mk k2 b2 n2 t2 l2 o2) [.int .i64 k2,.bool b2,.int .i64 n2,.string t2,.slice la2 l2.length lc2,.slice oa2 o2.length oc2]:=fun W' hW=>Ab.more hW.size _ _ (hv2.below hW);rcases hkk with rfl|rfl|rfl|rfl|rfl|rfl|rfl
 . rw[<-Ga (O:= [(Ar,tv key),(Fb,.mk k2 b2 n2 t2 l2 o2)]) (nm:=P8) (by simp[Bb,B9])];exact Ao2 _ _ _ _ _ _ _ _ _ _ _ _ _ _ _ _ _ _ _ g A R W F w hS hN (by simp) fun W' hW=>W6 _ key _ _ _ _ _ _ _ _ _ _ k2 b2 n2 t2 l2 o2 la2 oa2 lc2 oc2 _ W' (hv2' W' hW) (by omega)
 . rw[<-Ga (O:= [(Ar,tv key)]) (nm:=P6) (by simp[Bb,B9])];exact Ao3 _ _ _ _ _ _ _ _ _ _ _ _ _ _ _ _ _ _ _ g A R W F w hS hN (by simp) fun W' _=>Ag5 _ key _ _ _ _ _ _ _ _ _ _ _ _ _ _ _ _ _ W'
 . rw[<-Ga (O:= [(Od,iv n),(Ar,tv key)]) (nm:=P7) (by simp[Bb,B9])];exact Ao4 _ _ _ _ _ _ _ _ _ _ _ _ _ _ _ _ _ _ _ g A R W F w hS hN (by simp) fun W' _=>Ag6 _ key _ n _ _ _ _ _ _ _ _ _ _ _ _ _ _ _ W'
 . cases has with
   |false=>
    rw[<-Ga (O:=Bf key had (.mk k1 b1 n1 t1 l1 o1)) (nm:=O1) (by simp[Bb,B9])];exact Ah9 _ _ _ _ _ _ _ _ _ _ _ _ _ _ _ _ _ _ _ g A R W F w hS hN (by have:=M9 key had (.mk k1 b1 n1 t1 l1 o1);omega) fun W' hW=>Ao0 _ key _ _ had k1 b1 n1 t1 l1 o1 la1 oa1 lc1 oc1 _ _ _ _ _ _ _ W' (hv1' W' hW) (by omega)
   |true=>
    rw[<-Ga (O:=(Ln,.mk k2 b2 n2 t2 l2 o2)::Bf key had (.mk k1 b1 n1 t1 l1 o1)) (nm:=O1) (by simp[Bb,B9])];exact Ah9 _ _ _ _ _ _ _ _ _ _ _ _ _ _ _ _ _ _ _ g A R W F w hS hN (by have:=M9 key had (.mk k1 b1 n1 t1 l1 o1);simp;omega) fun W' hW=>Am9 _ key _ _ had k1 b1 n1 t1 l1 o1 la1 oa1 lc1 oc1 k2 b2 n2 t2 l2 o2 la2 oa2 lc2 oc2 _ W' (hv1' W' hW) (by omega) (hv2' W' hW) (by omega)
 . rw[<-Ga (O:= [(Ar,tv key),(Fb,.mk k2 b2 n2 t2 l2 o2)]) (nm:=P5) (by simp[Bb,B9])];exact Ao5 _ _ _ _ _ _ _ _ _ _ _ _ _ _ _ _ _ _ _ g A R W F w hS hN (by simp) fun W' hW=>W6 _ key _ _ _ _ _ _ _ _ _ _ k2 b2 n2 t2 l2 o2 la2 oa2 lc2 oc2 _ W' (hv2' W' hW) (by omega)
 . rw[<-Ga (O:= [(Dn,tv key),(Nj,tv dst)]) (nm:=Ll) (by simp[Bb,B9])];exact Ao6 _ _ _ _ _ _ _ _ _ _ _ _ _ _ _ _ _ _ _ g A R W F w hS hN (by simp) fun W' _=>Aeo _ key dst _ _ _ _ _ _ _ _ _ _ _ _ _ _ _ _ W'
 . rw[<-Ga (O:=(Gu,lv (Be l))::(if key.toList.isEmpty then []else [(Me,ov (Bf key had (.mk k1 b1 n1 t1 l1 o1)))])) (nm:=Oj) (by simp[Bb,B9])];refine Ao7 _ _ _ _ _ _ _ _ _ _ _ _ _ _ _ _ _ _ _ g A R W F w hS hN (by split<;>simp) fun W' hW=>Aj9 _ key _ _ had k1 b1 n1 t1 l1 o1 la1 oa1 lc1 oc1 _ _ _ _ _ _ _ l a c A W W' (hv1' W' hW) (by omega) ((hl.below hW).more hW.size) (by omega)
    (((hS.below hW).wr).cell 0) ((hS.below hW).wr.lt) fun x hx W2 cs2 hW2 hH2=> ?_
   have hbx:=D1 hx;have hS2:=(hS.below hW).below hW2;have hN2:=(hN.below hW).below hW2;have hmx:=Ic h6 x hx;have hIH:=IH x hx;obtain⟨k',key',dst',n',had',⟨k1',b1',n1',t1',l1',o1'⟩,has',⟨k2',b2',n2',t2',l2',o2'⟩,l'⟩:=x;obtain⟨la1',lc1',oa1',oc1',la2',lc2',oa2',oc2',a',c',rfl,_,_,_⟩:=Bq hH2;exact X0 _ _ _ _ _ _ _ _ _ _ _ _ _ _ _ _ _ _ _ _ A g W2 (hS2.all_.cell 0) hS2.all_.lt fun W3 hW3=>hIH _ (d+1) g A R W F W3 (hS2.below hW3) (hN2.below hW3) ((hH2.below hW3).more hW3.size) (by omega) hmx
end Go.Proofs.YtmglfdckpjegdaaGreatDoor
namespace Go.Proofs.YtmglfdckpjegdaaGreatDoor
def W8 (k:ByteArray) (o:List (ByteArray×Val)):Nat:=match As k o with
 |none=>0
 |some x=>1+k.size+x.bulk
theorem Ank (a:ByteArray) (x:Val) (r:List (ByteArray×Val)):W8 a ((a,x)::r)=1+a.size+x.bulk:=by
 unfold W8 As;rw[if_pos rfl]
theorem Abw {k a:ByteArray} (h:a≠k) (x:Val) (r:List (ByteArray×Val)):W8 k ((a,x)::r)=W8 k r:=by
 unfold W8;rw[As,if_neg h]
theorem Ah2 {a:ByteArray} {x:Val} {r:List (ByteArray×Val)}: ∀{ks:List ByteArray},a ∉ ks->(ks.map fun k=>W8 k ((a,x)::r)).sum=(ks.map fun k=>W8 k r).sum
 | [],_=>rfl
 |k::ks,h=>by
  simp only[List.mem_cons,not_or]at h;simp only[List.map_cons,List.sum_cons,Abw h.1,Ah2 h.2]
theorem Am4 {a:ByteArray} {x:Val} {r:List (ByteArray×Val)}: ∀{ks:List ByteArray},ks.Nodup->(ks.map fun k=>W8 k ((a,x)::r)).sum<=1+a.size+x.bulk+(ks.map fun k=>W8 k r).sum
 | [],_=>by simp
 |k::ks,h=>by
  rw[List.nodup_cons]at h;simp only[List.map_cons,List.sum_cons];by_cases e:a=k
  . subst e;rw[Ank,Ah2 h.1];omega
  . rw[Abw e];have:=Am4 (a:=a) (x:=x) (r:=r) h.2;omega
theorem Ag0 {ks:List ByteArray} (h:ks.Nodup): ∀o:List (ByteArray×Val),(ks.map fun k=>W8 k o).sum<=Av o
 | []=>by
   have: ∀ks:List ByteArray,(ks.map fun k=>W8 k []).sum=0:=by
    intro ks
    induction ks with
    |nil=>rfl
    |cons k r ih=>simp only[List.map_cons,List.sum_cons,ih];rfl
   rw[this];exact Nat.zero_le _
 |(a,x)::r=>by
  have h1:=Am4 (a:=a) (x:=x) (r:=r) h;have h2:=Ag0 h r;simp only[Av];have h3:Gi (a,x)=1+a.size+x.bulk:=rfl;omega
theorem Q0 {k1 k2:ByteArray} (h:k1≠k2) (o:List (ByteArray×Val)):W8 k1 o+W8 k2 o<=Av o:=by
 have:=Ag0 (ks:= [k1,k2]) (by simp[h]) o;simpa using this
theorem Am7 {k1 k2 k3:ByteArray} (h:k1≠k2) (h':k1≠k3) (h'':k2≠k3) (o:List (ByteArray×Val)):W8 k1 o+(W8 k2 o+W8 k3 o)<=Av o:=by
 have:=Ag0 (ks:= [k1,k2,k3]) (by simp[h,h',h'']) o;simpa using this
theorem Rb (k:ByteArray) (o:List (ByteArray×Val)):(At k o).bulk<=W8 k o+6:=by
 unfold At W8
 cases As k o with
 |none=>show Jj.bulk<=0+6;decide
 |some x=>show x.bulk<=_;simp only;omega
theorem It {k:ByteArray} {o:List (ByteArray×Val)} (h:Cf (At k o)≠0):1+k.size+(At k o).bulk<=W8 k o:=by
 unfold At W8 at*
 cases hf:As k o with
 |none=>rw[hf]at h;exact absurd rfl h
 |some x=>exact Nat.le_refl _
theorem Le (v:Val):(Ep v).size+6<=v.bulk:=by
 obtain⟨k,b,n,t,l,o⟩:=v;simp only[Val.bulk];show t.size+6<=_;omega
theorem Arc (v:Val):Av (Bu v)+6<=v.bulk:=by
 obtain⟨k,b,n,t,l,o⟩:=v;simp only[Val.bulk];show Av o+6<=_;omega
theorem Alx (v:Val):Bd (Im v)+6<=v.bulk:=by
 obtain⟨k,b,n,t,l,o⟩:=v;simp only[Val.bulk];show Bd l+6<=_;omega
theorem U9 {f:Val->Int×Mut} (hf: ∀x,(f x).1=0->Bm (f x).2<=x.bulk): ∀{l:List Val},(A6 f l).1=0->C3 (A6 f l).2<=Bd l
 | [],_=>Nat.le_refl _
 |v::l,h=>by
  unfold A6 at h ⊢;by_cases h1:(f v).1≠0
  . rw[if_pos h1]at h;exact absurd h h1
  rw[if_neg h1]at h ⊢;by_cases h2:(A6 f l).1≠0
  . rw[if_pos h2]at h;exact absurd h h2
  rw[if_neg h2];have i1:=hf v (by simpa using h1);have i2:=U9 hf (l:=l) (by simpa using h2);simp only[C3,Bd];omega
theorem Amd:Jj.bulk=6:=by decide
theorem Ae5 {f:Val->Int×Mut} (hf: ∀x,(f x).1=0->Bm (f x).2<=x.bulk) {k:Int} (h1:1<=k) (h7:k<=7) {o:List (ByteArray×Val)} (h:(Bt f k o).1=0):Bm (Bt f k o).2<=20+Av o:=by
 have z:=Amd;rcases(show(k=1\/k=5)\/k=2\/k=3\/k=4\/k=6\/k=7 by omega)with hk|rfl|rfl|rfl|rfl|rfl
 . rw[M3 f hk]at h ⊢
   split at h
   . cases h
   rename_i h4;rw[if_neg h4];have a1:=It (k:=Ar) (o:=o) (by omega);have a2:=Rb Fb o;have a3:=Le (At Ar o);have a4:=Q0 (k1:=Ar) (k2:=Fb) (by decide) o;simp only[Bm,C3,z];have:Cp.size=0:=rfl;omega
 . rw[Ph]at h ⊢
   split at h
   . cases h
   rename_i h4;rw[if_neg h4];have a1:=It (k:=Ar) (o:=o) (by omega);have a3:=Le (At Ar o);have a4:=Q0 (k1:=Ar) (k2:=Fb) (by decide) o;simp only[Bm,C3,z];have:Cp.size=0:=rfl;omega
 . rw[Pi]at h ⊢
   split at h
   . cases h
   rename_i h3;rw[if_neg h3]
   split at h
   . cases h
   rename_i h4;rw[if_neg h4];have a1:=It (k:=Ar) (o:=o) (by omega);have a3:=Le (At Ar o);have a4:=Q0 (k1:=Ar) (k2:=Fb) (by decide) o;simp only[Bm,C3,z];have:Cp.size=0:=rfl;omega
 . rw[Pg]at h ⊢
   split at h
   . cases h
   rename_i h4;rw[if_neg h4];have a1:=It (k:=Ar) (o:=o) (by omega);have a2:=Rb Ln o;have a2':=Rb C4 o;have a3:=Le (At Ar o);have a4:=Am7 (k1:=Ar) (k2:=Ln) (k3:=C4) (by decide) (by decide) (by decide) o;simp only[Bm,C3];have:Cp.size=0:=rfl;omega
 . rw[Nn]at h ⊢
   split at h
   . cases h
   rename_i h3;rw[if_neg h3]
   split at h
   . cases h
   rename_i h4;rw[if_neg h4];have a1:=It (k:=Dn) (o:=o) (by omega);have a2:=It (k:=Nj) (o:=o) (by omega);have a3:=Le (At Dn o);have a3':=Le (At Nj o);have a4:=Q0 (k1:=Dn) (k2:=Nj) (by decide) o;simp only[Bm,C3,z];omega
 . rw[Pj]at h ⊢
   split at h
   . cases h
   rename_i h5;rw[if_neg h5]
   split at h
   . rename_i h2;exact absurd h h2
   rename_i h2;rw[if_neg h2];have a1:=It (k:=Gu) (o:=o) (by omega);have a2:=Alx (At Gu o);have a3:=U9 hf (l:=Im (At Gu o)) (by simpa using h2);have a4:=Q0 (k1:=Gu) (k2:=Me) (by decide) o;have n0:Cp.size=0:=rfl
   cases hg:As Me o with
   |none=>
    simp only[Bm,z];omega
   |some g=>
    rw[hg]at h;simp only at h ⊢;have a5:W8 Me o=1+Me.size+g.bulk:=by unfold W8;rw[hg]
    unfold Jp at h ⊢
    split at h
    . cases h
    rename_i g1;rw[if_neg g1]
    split at h
    . cases h
    rename_i g2;rw[if_neg g2]
    split at h
    . cases h
    rename_i g3;rw[if_neg g3]
    split at h
    . cases h
    rename_i g4;rw[if_neg g4];have b1:=It (k:=Ar) (o:=Bu g) (by omega);have b2:=Rb C4 (Bu g);have b3:=Le (At Ar (Bu g));have b4:=Q0 (k1:=Ar) (k2:=C4) (by decide) (Bu g);have b5:=Arc g;simp only[Bm,z];omega
theorem Qv: ∀(f:Nat) (v:Val),(Cn f v).1=0->Bm (Cn f v).2<=v.bulk:=by
 intro f
 induction f with
 |zero=>intro v h;cases h
 |succ f IH=>
  intro v h;rw[O7]at h ⊢;unfold Zn at h ⊢
  split at h
  . cases h
  rename_i g1;rw[if_neg g1]
  split at h
  . cases h
  rename_i g2;rw[if_neg g2]
  split at h
  . cases h
  rename_i g3;rw[if_neg g3]
  cases hk:Jq (Ep (At An (Bu v)))with
  |none=>rw[hk]at h;cases h
  |some k=>
   rw[hk]at h;simp only at h ⊢
   split at h
   . cases h
   rename_i g4;rw[if_neg g4]
   split at h
   . cases h
   rename_i g5;rw[if_neg g5];have hk7:1<=k/\k<=7:=by
    rcases N3 hk with⟨_,rfl⟩|⟨_,rfl⟩|⟨_,rfl⟩|⟨_,rfl⟩|⟨_,rfl⟩|⟨_,rfl⟩|⟨_,rfl⟩<;>omega
   have a1:=Ae5 IH hk7.1 hk7.2 h;have a2:=It (k:=Ai) (o:=Bu v) (by omega);have a3:=It (k:=An) (o:=Bu v) (by omega);have a4:=Q0 (k1:=Ai) (k2:=An) (by decide) (Bu v);have a5:=Arc (At Ai (Bu v));have a6:=Le (At An (Bu v));have a7:=Arc v;have s1:Ai.size=4:=rfl;have s2:An.size=4:=rfl;omega
theorem Vh {k:ByteArray} {o:List (ByteArray×Val)} (h:Jf o):Jg (At k o):=by
 rcases Ot k o with⟨_,e⟩|e
 . rw[e];simp[Jg,Mz,Jf]
 . exact Uo h (E0 e)
theorem Afu {v:Val} (h:Jg v):Jf (Bu v):=by
 obtain⟨k,b,n,t,l,o⟩:=v;exact h.2.2
theorem Apw {v:Val} (h:Jg v):Mz (Im v):=by
 obtain⟨k,b,n,t,l,o⟩:=v;exact h.2.1
theorem Fw:Mu Lp:=by simp[Mu,Sm,Jg,Mz,Jf]
theorem Mv:Jg Jj:=by simp[Jg,Mz,Jf]
theorem Ack {f:Val->Int×Mut} (hf: ∀x,Jg x->Mu (f x).2): ∀{l:List Val},Mz l->Sm (A6 f l).2
 | [],_=>trivial
 |v::l,h=>by
  unfold A6
  split
  . trivial
  split
  . trivial
  . exact⟨hf v h.1,Ack hf h.2⟩
theorem Akn {f:Val->Int×Mut} (hf: ∀x,Jg x->Mu (f x).2) {k:Int} (h1:1<=k) (h7:k<=7) {o:List (ByteArray×Val)} (ho:Jf o):Mu (Bt f k o).2:=by
 have mk: ∀(k:Int) (key dst:ByteArray) (n:Int) (had:Bool) (was:Val) (has:Bool) (v:Val) (l:List Mut),(-9223372036854775808<=n/\n<=9223372036854775807)->Jg was->Jg v->Sm l->Mu (.mk k key dst n had was has v l):=fun _ _ _ _ _ _ _ _ _ a b c d=>⟨a,b,c,d⟩;rcases(show(k=1\/k=5)\/k=2\/k=3\/k=4\/k=6\/k=7 by omega)with hk|rfl|rfl|rfl|rfl|rfl
 . rw[M3 f hk]
   split
   . exact Fw
   . exact mk _ _ _ _ _ _ _ _ _ (by omega) Mv (Vh ho) trivial
 . rw[Ph]
   split
   . exact Fw
   . exact mk _ _ _ _ _ _ _ _ _ (by omega) Mv Mv trivial
 . rw[Pi]
   split
   . exact Fw
   split
   . exact Fw
   . have:=Vh (k:=Od) ho;refine mk _ _ _ _ _ _ _ _ _ ?_ Mv Mv trivial;generalize At Od o=z at this;obtain⟨k,b,n,t,l,o⟩:=z;exact this.1
 . rw[Pg]
   split
   . exact Fw
   . exact mk _ _ _ _ _ _ _ _ _ (by omega) (Vh ho) (Vh ho) trivial
 . rw[Nn]
   split
   . exact Fw
   split
   . exact Fw
   . exact mk _ _ _ _ _ _ _ _ _ (by omega) Mv Mv trivial
 . rw[Pj];have hl:=Ack hf (Apw (Vh (k:=Gu) ho))
   split
   . exact Fw
   split
   . exact Fw
   cases hg:As Me o with
   |none=>exact mk _ _ _ _ _ _ _ _ _ (by omega) Mv Mv hl
   |some g=>
    have hgi:Jg g:=Uo ho (E0 hg);show Mu (Jp g _).2;unfold Jp
    split
    . exact Fw
    split
    . exact Fw
    split
    . exact Fw
    split
    . exact Fw
    . exact mk _ _ _ _ _ _ _ _ _ (by omega) (Vh (Afu hgi)) Mv hl
theorem Wd: ∀(f:Nat) (v:Val),Jg v->Mu (Cn f v).2:=by
 intro f
 induction f with
 |zero=>intro v _;exact Fw
 |succ f IH=>
  intro v h;rw[O7];unfold Zn
  split
  . exact Fw
  split
  . exact Fw
  split
  . exact Fw
  cases hk:Jq (Ep (At An (Bu v)))with
  |none=>exact Fw
  |some k=>
   dsimp only
   split
   . exact Fw
   split
   . exact Fw
   have hk7:1<=k/\k<=7:=by
    rcases N3 hk with⟨_,rfl⟩|⟨_,rfl⟩|⟨_,rfl⟩|⟨_,rfl⟩|⟨_,rfl⟩|⟨_,rfl⟩|⟨_,rfl⟩<;>omega
   exact Akn IH hk7.1 hk7.2 (Afu (Vh (Afu h)))
end Go.Proofs.YtmglfdckpjegdaaGreatDoor
