/- Parts: slices.Backward over pointers: an iterator. Condition: at most 10^6. -/
import Derived.Test.YtnkmhaachfgaoaaGreatDoorKPq20
import Derived.Test.YtnkmhaachfgaoaaGreatDoorKPq21
set_option maxHeartbeats 20000000
set_option maxRecDepth 100000
namespace Go.Proofs.YtnkmhaachfgaoaaGreatDoor
open Go Go.RowKit
theorem Abr {m:Nat}: ∀{ks:List Nd},(∀k ∈ ks,m<=(A6 k).length)->ks.length*m<=(Ap ks).length
 | [],_=>by simp[Ap]
 |k::r,h=>by
  have h1:=h k (by simp);have h2:=Abr (ks:=r) fun x hx=>h x (by simp[hx]);simp only[Ap,List.length_append,List.length_cons,Nat.add_mul,Nat.one_mul];omega
theorem Ae5: ∀(h:Nat) {n:Nd} {lo:Nat},0<lo->(0<h->2<=lo)->Cb lo h n->2 ^ h<=(A6 n).length
 |0,.leaf es,lo,h0,_,hn=>by
  simp only[Cb]at hn;simp only[A6];omega
 |0,.inner ks,_,_,_,hn=>absurd hn (by simp[Cb])
 |h+1,.leaf es,_,_,_,hn=>absurd hn (by simp[Cb])
 |h+1,.inner ks,lo,_,h2,hn=>by
  simp only[Cb]at hn;have h3:=h2 (by omega);have h4:=Abr (m:=2 ^ h) fun k hk=>Ae5 h (by omega) (fun _=>by omega) (hn.2.2 k hk);have h5:2*2 ^ h<=ks.length*2 ^ h:=Nat.mul_le_mul_right _ (by omega);simp only[A6];rw[Nat.pow_succ];omega
theorem Ae4 {t:Option (Nat×Nd)} (ht:M5 t) (hN:(Ba t).length<=100000000):htT t<=90000:=by
 cases t with
 |none=>exact Nat.zero_le _
 |some t=>
  obtain⟨h,n⟩:=t;obtain⟨hn,_⟩:=ht;obtain⟨l1,l2,l3⟩:=Es h;have:=Ae5 h l2 l3 hn;simp only[Ba,htT]at hN ⊢;rcases Nat.lt_or_ge h 27 with h1|h1
  . omega
  . have h2:2 ^ 27<=2 ^ h:=Nat.pow_le_pow_right (by omega) h1;have h3:(2:Nat) ^ 27=134217728:=rfl;omega
def Cd (es:List Ax):Option (Nat×Nd):=es.foldl (fun t e=>Jy t e.1 e.2) none
theorem Wu (es:List Ax) (e:Ax):Cd (es++ [e])=Jy (Cd es) e.1 e.2:=by unfold Cd;rw[List.foldl_append];rfl
def Jd (es:List Ax):List Ax:=es.foldl (fun l e=>Bz e.1 e.2 l) []
theorem Abs: ∀(es:List Ax) (t0:Option (Nat×Nd)),M5 t0->M5 (es.foldl (fun t e=>Jy t e.1 e.2) t0)/\Ba (es.foldl (fun t e=>Jy t e.1 e.2) t0)=es.foldl (fun l e=>Bz e.1 e.2 l) (Ba t0)/\(Ba (es.foldl (fun t e=>Jy t e.1 e.2) t0)).length<=(Ba t0).length+es.length/\Ac (Ba (es.foldl (fun t e=>Jy t e.1 e.2) t0))<=Ac (Ba t0)+Ac es
 | [],t0,h=>⟨h,rfl,by simp,by simp[Ac]⟩
 |e::r,t0,h=>by
  obtain⟨p1,p2⟩:=Ab7 e.1 e.2 h;obtain⟨i1,i2,i3,i4⟩:=Abs r (Jy t0 e.1 e.2) p2;have h1:=Im (k:=e.1) (v:=e.2) (Ba t0);have h2:=Kc e.1 e.2 (Ba t0);rw[p1]at i2 i3 i4;have e1:Ac (e::r)=Ac [(e.1,e.2)]+Ac r:=Cu [e] r;simp only[List.foldl_cons,List.length_cons];exact⟨i1,i2,by omega,by omega⟩
theorem Cs (es:List Ax):M5 (Cd es)/\Ba (Cd es)=Jd es/\(Ba (Cd es)).length<=es.length/\Ac (Ba (Cd es))<=Ac es:=by
 obtain⟨i1,i2,i3,i4⟩:=Abs es none trivial;have e1:(Ba none).length=0:=rfl;have e2:Ac (Ba none)=0:=rfl;exact⟨i1,i2,by unfold Cd;omega,by unfold Cd;omega⟩
structure BI (w:World) (t:Option (Nat×Nd)) (wr:World) (p:Option Addr):Prop where
 below:Below w.heap.size w wr
 res:Ah wr w.heap.size 27 #[.pointer none]
 var:Ah wr (w.heap.size+1) 27 #[.pointer p]
 tree:C5 (fun i=>w.heap.size+2<=i) wr t p
theorem Cn (es:List Ax) (a:Option Addr) (n c:Nat) (w:World) (h:Ae w w.heap.size (.row 7 (dO es)) [.slice a n c]) (hb:Ac es<=50000000):Calls Tryz.prog 10 #[.slice a n c] w (Iy (fun _=>False) (Cd es) w):=by
 have hn:=h.row_len;rw[At]at hn;subst hn;have hln:=Aw es;obtain⟨PO,hPO⟩: ∃P:Ending->World->Prop,Iy (fun _=>False) (Cd es) w=P:=⟨_,rfl⟩;rw[hPO];have hI0:BI w (Cd (es.take 0)) ((w.alloc (.cells #[.pointer none] 27)).alloc (.cells #[.pointer none] 27)) none:=
  ⟨(Aa w _).alloc (by simp) _,(Ah.new _ _ _).alloc _,by simpa using Ah.new (w.alloc (.cells #[.pointer none] 27)) 27 #[.pointer none],rfl⟩
 obtain⟨H,HPO,HI0⟩:=hid3 h hPO hI0;clear h hPO hI0;go_enter Tryz.func10,Tryz.ntmps10;go_wp2_with (fail);go_loopw [8] (fun i wr=> ∃q:Nat,i=.int .i64 q/\q<=es.length/\ ∃p,Hid (BI w (Cd (es.take q)) wr p)) (fun i _=>es.length - (intOf i).toNat)
 case atStart=>exact⟨0,rfl,Nat.zero_le _,_,HI0⟩
 case round=>
  obtain⟨q,rfl,hq,p,hI⟩:=hrel;clear HI0;by_cases hlt:q<es.length
  . obtain⟨⟨key,v⟩,hx⟩: ∃v,es[q]? =some v:=⟨_,List.getElem?_eq_getElem hlt⟩;have hbw:=hI.out.below;obtain⟨g,off,rfl,hg,u1,u2,u3,u4,u5,u6,hv,r1⟩:=Ds (H.out.later hbw) hx;have htk:Cd (es.take (q+1))=Jy (Cd (es.take q)) key v:=by
     rw[List.take_add_one,hx,Option.toList_some,Wu]
    obtain⟨k',b',n',t',la,ln,lc,oa,on,oc,rfl,rfl,rfl,rfl,rfl,rfl⟩:=M8 hv;obtain⟨wi,hwi⟩: ∃wi,wr.alloc (.cells #[.string key,.int .i64 k',.bool b',.int .i64 n',.string t',.slice la ln lc,.slice oa on oc] 71)=wi:=⟨_,rfl⟩;have hbi:Below wr.heap.size wr wi:=hwi▸Aa _ _;obtain⟨o1,o2,o3,o4⟩:=Cs (es.take q);have hbq:Ac (es.take q)+Ac [(key,v)]<=Ac es:=by
     have e1:=Jn es (q+1);rw[List.take_add_one,hx,Option.toList_some,Cu]at e1;exact e1.1
    have HC:=qz (R8 _ (Cd (es.take q)) p key v _ _ _ _ _ _ wi (hI.out.tree.below hbi) o1 (Ae4 o1 (by rw[List.length_take]at o3;omega)) (by rw[List.length_take]at o3;omega) (by omega) ((hv.below hbi).more hbi.size));have s0:=r1 0 _ rfl;have s1:=r1 1 _ rfl;have s2:=r1 2 _ rfl;have s3:=r1 3 _ rfl;have s4:=r1 4 _ rfl;have s5:=r1 5 _ rfl;have s6:=r1 6 _ rfl;simp only[Nat.add_zero]at s0;have y1:(q:Int)<(es.length:Int):=by omega
    have y2:(0:Int)<=(q:Int):=by omega
    have hvi:=hI.out.var.below hbi hI.out.var.lt;have d0:=hvi.cell 0;have fz:=hvi.frozen;have ld:=hvi.lt;have hxi:Ah wi wr.heap.size 71 #[.string key,.int .i64 k',.bool b',.int .i64 n',.string t',.slice la ln lc,.slice oa on oc]:=hwi▸Ah.new _ _ _;have x0:=hxi.cell 0;have x1:=hxi.cell 1;have x2:=hxi.cell 2;have x3:=hxi.cell 3;have x4:=hxi.cell 4;have x5:=hxi.cell 5;have x6:=hxi.cell 6;have lx:=hxi.lt;clear hvi hxi;obtain⟨Htk,Hbi⟩:=hid2 htk hbi;clear htk hbi;clear hx hv r1 o1 o2 o3 o4 hbq hbw;go_wp2_with (fail);clear s0 s1 s2 s3 s4 s5 s6 x0 x1 x2 x3 x4 x5 x6 lx d0 fz ld;(with_reducible refine(HC.out).mono ?_);rintro e w2 ⟨hb2,p',rfl,hT⟩;have hbw2:=Hbi.out.trans (hb2.mono Hbi.out.size);have hv2:=hI.out.var.below hbw2 hI.out.var.lt;have d0:=hv2.cell 0;have fz:=hv2.frozen;have ld:=hv2.lt;have lv:=hI.out.var.lt;have hzi:=Hbi.out.size;have hTf:C5 (fun i=>w.heap.size+2<=i) (w2.setCell ⟨w.heap.size+1,0,none⟩ (.pointer p')) (Cd (es.take (q+1))) p':=by
     rw[Htk.out];exact(hT.mono fun i _ hi=>hi.elim id fun h=>by omega).later (by simp[World.setCell]) fun i i1 _=>Below.heap_setCell _ _ _ _ (by simp;omega)
    have HN:Hid (BI w (Cd (es.take (q+1))) (w2.setCell ⟨w.heap.size+1,0,none⟩ (.pointer p')) p'):=
     ⟨(hI.out.below.trans (hbw2.mono hI.out.below.size)).setCell (p:=⟨w.heap.size+1,0,none⟩) (by simp) _,(hI.out.res.below hbw2 hI.out.res.lt).far (p:=⟨w.heap.size+1,0,none⟩) (by simp) _,hv2.set_ 0 _,hTf⟩
    clear hTf hv2 hT hb2 hbw2 HC Htk Hbi hI hwi;go_wp2;go_roundw
    case rel=>exact⟨q+1,by go_num,by omega,_,HN⟩
    case measure=>simp only[intOf];omega
  . obtain rfl:q=es.length:=by omega
    have y1: ¬((es.length:Int)<(es.length:Int)):=by omega
    have d0:=hI.out.var.cell 0;have r0:=hI.out.res.cell 0;have fz:=hI.out.res.frozen;have ld:=hI.out.res.lt;have lv:=hI.out.var.lt;have hxf:=(hI.out.res.set_ 0 (.pointer p)).cell 0;have hTf:=hI.out.tree.later (w':=wr.setCell ⟨w.heap.size,0,none⟩ (.pointer p)) (by simp[World.setCell]) fun i i1 _=>Below.heap_setCell _ _ _ _ (by simp;omega);rw[List.take_length]at hTf;have hP:PO (.returned (.agg #[.pointer p])) (wr.setCell ⟨w.heap.size,0,none⟩ (.pointer p)):=by
     rw[<-HPO.out];exact⟨hI.out.below.setCell (p:=⟨w.heap.size,0,none⟩) (by simp) _,p,rfl,hTf.mono fun i _ hi=> .inr (by omega)⟩
    obtain⟨Hxf,HP⟩:=hid2 hxf hP;clear hxf hP;clear hTf hI;go_wp2_with (fail);exact bodyPost_ret (Ks rfl rfl Hxf.out) rfl HP.out
end Go.Proofs.YtnkmhaachfgaoaaGreatDoor
namespace Go.Proofs.YtnkmhaachfgaoaaGreatDoor
mutual
def wtN:Nd->Nat
 | .leaf es=>1+es.length
 | .inner ks=>1+Ev ks
def Ev:List Nd->Nat
 | []=>0
 |k::r=>wtN k+Ev r
end
theorem Wa: ∀(a b:List Nd),Ev (a++b)=Ev a+Ev b
 | [],b=>by simp[Ev]
 |k::r,b=>by simp only[List.cons_append,Ev,Wa r b];omega
def gd (n:Nd):Prop:= ∃lo h,0<lo/\(0<h->2<=lo)/\Cb lo h n
theorem gd.ne {n:Nd} (h:gd n):A6 n≠ []:=by
 obtain⟨lo,h,h1,_,h3⟩:=h;exact Kn h1 h3
theorem gd.leaf {es:List Ax} (h:gd (.leaf es)):0<es.length:=by
 have h1:=h.ne;simp only[A6]at h1;exact List.length_pos_iff.2 h1
theorem gd.inner {ks:List Nd} (h:gd (.inner ks)):2<=ks.length/\ks.length<=8/\ ∀k ∈ ks,gd k:=by
 obtain⟨lo,h,h1,h2,h3⟩:=h
 cases h with
 |zero=>simp[Cb]at h3
 |succ h=>
  simp only[Cb]at h3;have:=h2 (by omega);exact⟨by omega,h3.2.1,fun k hk=>⟨4,h,by omega,fun _=>by omega,h3.2.2 k hk⟩⟩
theorem Aab: ∀{ks:List Nd},(∀k ∈ ks,wtN k+1<=3*(A6 k).length)->Ev ks+ks.length<=3*(Ap ks).length
 | [],_=>by simp[Ev,Ap]
 |k::r,h=>by
  have h1:=h k (by simp);have h2:=Aab (ks:=r) fun x hx=>h x (by simp[hx]);simp only[Ev,Ap,List.length_cons,List.length_append];omega
theorem Ai4 (n:Nd):gd n->wtN n+1<=3*(A6 n).length:=by
 refine Nd.ind (p:=fun n=>gd n->wtN n+1<=3*(A6 n).length) ?_ ?_ n
 . intro es h;have:=h.leaf;simp only[wtN,A6];omega
 . intro ks ih h;obtain⟨h1,_,h3⟩:=h.inner;have:=Aab fun k hk=>ih k hk (h3 k hk);simp only[wtN,A6];omega
theorem Ux: ∀{ns:List Nd},(∀n ∈ ns,gd n)->ns.length<=(Ap ns).length
 | [],_=>by simp[Ap]
 |n::r,h=>by
  have h1:=List.length_pos_iff.2 (h n (by simp)).ne;have h2:=Ux (ns:=r) fun x hx=>h x (by simp[hx]);simp only[Ap,List.length_cons,List.length_append];omega
structure CurOk (es:List Ax) (ns:List Nd):Prop where
 gds: ∀n ∈ ns,gd n
 asc:Az (es++Ap ns)
 bulk:Ac (es++Ap ns)<=100000000
 len:(es++Ap ns).length<=1000000
theorem CurOk.tail {e:Ax} {es:List Ax} {ns:List Nd} (h:CurOk (e::es) ns):CurOk es ns:=by
 obtain⟨h1,h2,h3,h4⟩:=h;rw[List.cons_append]at h2 h3 h4;have e1:Ac (e::(es++Ap ns))=Ac [e]+Ac (es++Ap ns):=Cu [e] _;rw[List.length_cons]at h4;exact⟨h1,(List.pairwise_cons.1 h2).2,by omega,by omega⟩
theorem CurOk.skip {n:Nd} {ns:List Nd} (h:CurOk [] (n::ns)):CurOk [] ns:=by
 obtain⟨h1,h2,h3,h4⟩:=h;simp only[List.nil_append,Ap]at h2 h3 h4 ⊢;rw[Cu]at h3;rw[List.length_append]at h4;exact⟨fun x hx=>h1 x (by simp[hx]),(List.pairwise_append.1 h2).2.1,by simp only[List.nil_append];omega,by simp only[List.nil_append];omega⟩
theorem CurOk.openL {es:List Ax} {ns:List Nd} (h:CurOk [] (.leaf es::ns)):CurOk es ns:=by
 obtain⟨h1,h2,h3,h4⟩:=h;simp only[List.nil_append,Ap,A6]at h2 h3 h4;exact⟨fun x hx=>h1 x (by simp[hx]),h2,h3,h4⟩
theorem CurOk.openI {ks:List Nd} {ns:List Nd} (h:CurOk [] (.inner ks::ns)):CurOk [] (ks++ns):=by
 obtain⟨h1,h2,h3,h4⟩:=h;simp only[List.nil_append,Ap,A6]at h2 h3 h4;refine⟨fun x hx=> ?_,by simpa[A0]using h2,by simpa[A0]using h3,by simpa[A0]using h4⟩;rcases List.mem_append.1 hx with hx|hx
 . exact(h1 _ (by simp)).inner.2.2 x hx
 . exact h1 x (by simp[hx])
theorem Lr {k f:ByteArray} {v:Val} {l r:List Ax} (ha:Az l) (hl:l=(f,v)::r) (hk:Bn k f=true): ∀e ∈ l,Bn k e.1=true:=by
 subst hl;intro e he;rcases List.mem_cons.1 he with rfl|he
 . exact hk
 . exact Bw hk ((List.pairwise_cons.1 ha).1 e he)
theorem Tj {n:Nd} {ns:List Nd} (h:gd n): ∃v r,Ap (n::ns)=(Ao n,v)::r:=by
 obtain⟨x,r,e⟩:=Fp h.ne;exact⟨x,r++Ap ns,by simp only[Ap];rw[e];rfl⟩
end Go.Proofs.YtnkmhaachfgaoaaGreatDoor
namespace Go.Proofs.YtnkmhaachfgaoaaGreatDoor
open Go Go.RowKit
abbrev Tch:TypeId:=85
theorem Pn {fn:Func} {t:Tmp} {tmps:Array Value} {W:World} {R:Nat} {a0 a1 a2 a3 a4 a5 a6 a7 a8 a9 b0 b1 b2 b3 b4:Value} (h:fn.results= #[.cell t Tch]) (hp:tmps.getD t undef=.pointer (some ⟨R,0,none⟩)) (hx:Ah W R Tch #[a0,a1,a2,a3,a4,a5,a6,a7,a8,a9,b0,b1,b2,b3,b4]):
 (results fn tmps).run Tryz.prog W=.ok (.agg #[a0,a1,a2,a3,a4,a5,a6,a7,a8,a9,b0,b1,b2,b3,b4]) W:=by
 have c0:=hx.cell 0;have c1:=hx.cell 1;have c2:=hx.cell 2;have c3:=hx.cell 3;have c4:=hx.cell 4;have c5:=hx.cell 5;have c6:=hx.cell 6;have c7:=hx.cell 7;have c8:=hx.cell 8;have c9:=hx.cell 9;have d0:=hx.cell 10;have d1:=hx.cell 11;have d2:=hx.cell 12;have d3:=hx.cell 13;have d4:=hx.cell 14;clear hx;have hp':tmps[t]?.getD undef=.pointer (some ⟨R,0,none⟩):=by simpa using hp
 simp[results,h,hp',go_sem,c0,c1,c2,c3,c4,c5,c6,c7,c8,c9,d0,d1,d2,d3,d4]
theorem Ah.new1 (w:World) (o:Obj) (t:TypeId) (cs:Array Value):Ah ((w.alloc o).alloc (.cells cs t)) (w.heap.size+1) t cs:=by
 have:=Ah.new (w.alloc o) t cs
 rwa [World.size_alloc]at this
theorem Aa2 (p:Option Addr) (w:World):Calls Tryz.prog 117 #[.agg #[.pointer p]] w fun e w'=>e=.returned (.pointer p)/\Below w.heap.size w w':=by
 go_enter Tryz.func117,Tryz.ntmps117;go_wp2;go_ret;exact⟨rfl,Aa _ _⟩
theorem Mz (key:ByteArray) (k':Int) (b':Bool) (n':Int) (t':ByteArray) (la:Option Addr) (ln lc:Nat) (oa:Option Addr) (on oc:Nat) (w:World):
 Calls Tryz.prog 113 #[.agg #[.string key,.int .i64 k',.bool b',.int .i64 n',.string t',.slice la ln lc,.slice oa on oc]] w fun e w'=>e=.returned (.agg #[.string key,.bool true,.int .i64 k',.bool b',.int .i64 n',.string t',.slice la ln lc,.slice oa on oc,.bool false,.int .i64 0,.bool false,.int .i64 0,.string ⟨#[]⟩,.slice none 0 0,.slice none 0 0])/\Below w.heap.size w w':=by
 go_enter Tryz.func113,Tryz.ntmps113;go_wp2;exact bodyPost_ret (Pn rfl rfl (Ah.new1 _ _ _ _)) rfl ⟨rfl,(Aa w _).alloc (by simp) _⟩
theorem Ms (key:ByteArray) (k':Int) (b':Bool) (n':Int) (t':ByteArray) (la:Option Addr) (ln lc:Nat) (oa:Option Addr) (on oc:Nat) (w:World):
 Calls Tryz.prog 115 #[.agg #[.string key,.int .i64 k',.bool b',.int .i64 n',.string t',.slice la ln lc,.slice oa on oc]] w fun e w'=>e=.returned (.agg #[.string key,.bool false,.int .i64 0,.bool false,.int .i64 0,.string ⟨#[]⟩,.slice none 0 0,.slice none 0 0,.bool true,.int .i64 k',.bool b',.int .i64 n',.string t',.slice la ln lc,.slice oa on oc])/\Below w.heap.size w w':=by
 go_enter Tryz.func115,Tryz.ntmps115;go_wp2;exact bodyPost_ret (Pn rfl rfl (Ah.new1 _ _ _ _)) rfl ⟨rfl,(Aa w _).alloc (by simp) _⟩
abbrev Je:TypeId:=180
theorem Fh {fn:Func} {tmps:Array Value} {W:World} (h:fn.results= #[]):(results fn tmps).run Tryz.prog W=.ok (.tuple #[]) W:=by simp[results,h]
theorem Al.pop {S0:Nat->Prop} {b s:Nat} {t:TypeId} {w:World} {l:List D} {d:D} {g n c:Nat} (h:Al S0 b t s w (l++ [d]) (.slice (some ⟨g,0,none⟩) n c)):Al S0 b t s w l (.slice (some ⟨g,0,none⟩) l.length c):=by
 obtain⟨ns,h1,h2,h3⟩:=h;have hA:=(h3.split h2 l.length).1;rw[List.take_left']at hA
 . rcases h1.2 with⟨e,_⟩|⟨g',cap,cur,e,hbg,hg,hnc,hcm,hcs,hcx⟩
   . cases e
   . cases e
     rw[List.length_append,List.length_singleton]at hnc hcx;have hle:l.length*s<=(l.length+1)*s:=Nat.mul_le_mul_right _ (by omega);refine⟨ns.take (l.length*s),⟨?_,.inr ⟨g,c,cur,rfl,hbg,hg,by omega,hcm,hcs, ?_⟩⟩,fun x hx=>h2 x (by simp[hx]),hA⟩
     . rw[hA.now.len.1,D5 fun x hx=>h2 x (by simp[hx])]
     . rw[<-hcx,List.take_take,Nat.min_eq_left hle]
 . rfl
theorem M9 (C g n c:Nat) (X:Value) (o:Int) (w:World) (hx:Ah w C Je #[X,.slice (some ⟨g,0,none⟩) (n+1) c,.int .i64 o]) (hn:n+1<=c) (h6:n<=1000000):
 Calls Tryz.prog 111 #[.pointer (some ⟨C,0,none⟩)] w fun e w'=>e=.returned (.tuple #[])/\w'=(w.setCell ⟨C,1,none⟩ (.slice (some ⟨g,0,none⟩) n c)).drew:=by
 have c1:=hx.cell 1;have fz:=hx.frozen;have lx:=hx.lt;obtain⟨m,hm⟩: ∃m,n+1=m:=⟨_,rfl⟩;have y1:IntKind.i64.wrap ((m:Int) - 1)=(n:Int):=by
  rw[show(m:Int) - 1=(n:Int)from by omega];exact IntWalk.i64_in _ (by omega)
 have y2:(n:Int)<=(c:Int):=by omega
 have y3:n<=c:=by omega
 have y4:(0:Int)<=(n:Int):=by omega
 rw[hm]at c1;clear hx hm;go_enter Tryz.func111,Tryz.ntmps111;go_upto_region 0 with(fail)
 go_region_law (fail)
 all_goals
  go_wp2;exact bodyPost_end (Fh rfl) rfl ⟨rfl,rfl⟩
theorem Po {fn:Func} {t:Tmp} {tmps:Array Value} {W:World} {R:Nat} {a0 a1 a2 a3 a4 a5 a6:Value} (h:fn.results= #[.cell t 71]) (hp:tmps.getD t undef=.pointer (some ⟨R,0,none⟩)) (hx:Ah W R 71 #[a0,a1,a2,a3,a4,a5,a6]):
 (results fn tmps).run Tryz.prog W=.ok (.agg #[a0,a1,a2,a3,a4,a5,a6]) W:=by
 have c0:=hx.cell 0;have c1:=hx.cell 1;have c2:=hx.cell 2;have c3:=hx.cell 3;have c4:=hx.cell 4;have c5:=hx.cell 5;have c6:=hx.cell 6;clear hx;have hp':tmps[t]?.getD undef=.pointer (some ⟨R,0,none⟩):=by simpa using hp
 simp[results,h,hp',go_sem,c0,c1,c2,c3,c4,c5,c6]
theorem Agf {w:World} {C:Nat} {x0 x1 x2:Value} (hx:Ah w C Je #[x0,x1,x2]) (v:Value) (cs:Array Value) (t:TypeId):
 Ah (((w.setCell ⟨C,0,none⟩ v).alloc (.cells cs t)).alloc (.cells cs t)) w.heap.size t cs/\KB (fun i=>i=C) w (((w.setCell ⟨C,0,none⟩ v).alloc (.cells cs t)).alloc (.cells cs t))/\Ah (((w.setCell ⟨C,0,none⟩ v).alloc (.cells cs t)).alloc (.cells cs t)) C Je #[v,x1,x2]:=by
 have hs:(w.setCell ⟨C,0,none⟩ v).heap.size=w.heap.size:=by simp[World.setCell]
 have h1:=(Ah.new (w.setCell ⟨C,0,none⟩ v) t cs).alloc (.cells cs t);rw[hs]at h1;refine⟨h1,(KB.set (S:=fun i=>i=C) w ⟨C,0,none⟩ rfl v).trans (KB.of_below (S:=fun i=>i=C) ((Aa (w.setCell ⟨C,0,none⟩ v) (.cells cs t)).alloc (by simp) _)) fun _ _ h=>h,((hx.set_ 0 v).alloc _).alloc _⟩
theorem Aa7 (C g off n c:Nat) (X:Value) (o:Int) (key:ByteArray) (k':Int) (b':Bool) (n':Int) (t':ByteArray) (la:Option Addr) (ln lc:Nat) (oa:Option Addr) (on oc:Nat) (w:World) (hx:Ah w C Je #[.slice (some ⟨g,off,none⟩) (n+1) c,X,.int .i64 o]) (hn:n+1<=c)
 (r:w.rangeAt g off [.string key,.int .i64 k',.bool b',.int .i64 n',.string t',.slice la ln lc,.slice oa on oc]):
 Calls Tryz.prog 114 #[.pointer (some ⟨C,0,none⟩)] w fun e w'=>e=.returned (.agg #[.string key,.int .i64 k',.bool b',.int .i64 n',.string t',.slice la ln lc,.slice oa on oc])/\KB (fun i=>i=C) w w'/\ ∃a2,(n≠0->a2=some ⟨g,off+7,none⟩)/\Ah w' C Je #[.slice a2 n (c - 1),X,.int .i64 o]:=by
 have c0:=hx.cell 0;have fz:=hx.frozen;have lx:=hx.lt;have s0:=r 0 _ rfl;have s1:=r 1 _ rfl;have s2:=r 2 _ rfl;have s3:=r 3 _ rfl;have s4:=r 4 _ rfl;have s5:=r 5 _ rfl;have s6:=r 6 _ rfl;simp only[Nat.add_zero]at s0;have lg:g<w.heap.size:=World.block_lt_of_cell? w _ s0;have y1:(0:Int)<((n+1:Nat):Int):=by omega
 have y2:(1:Int)<=((n+1:Nat):Int):=by omega
 have y3:((n+1:Nat):Int)<=(c:Int):=by omega
 have y4:1<=c:=by omega
 have y5:n+1 - 1=n:=by omega
 clear r;have Hx:=qz hx;clear hx;go_enter Tryz.func114,Tryz.ntmps114;go_wp2
 all_goals
  obtain⟨f1,f2,f3⟩:=Agf Hx.out _ #[.string key,.int .i64 k',.bool b',.int .i64 n',.string t',.slice la ln lc,.slice oa on oc] 71;exact bodyPost_ret (Po rfl rfl f1) rfl ⟨rfl,f2,_,by first|(intro _;rfl)|(intro h;exact absurd (by omega) h),f3⟩
abbrev Thd:TypeId:=172
theorem Kr {fn:Func} {t u:Tmp} {tmps:Array Value} {W:World} {R:Nat} {a0 a1 a2 a3:Value} (h:fn.results= #[.cell t Thd,.tmp u]) (hp:tmps.getD t undef=.pointer (some ⟨R,0,none⟩)) (hx:Ah W R Thd #[a0,a1,a2,a3]):
 (results fn tmps).run Tryz.prog W=.ok (.tuple #[.agg #[a0,a1,a2,a3],tmps.getD u undef]) W:=by
 have c0:=hx.cell 0;have c1:=hx.cell 1;have c2:=hx.cell 2;have c3:=hx.cell 3;clear hx;have hp':tmps[t]?.getD undef=.pointer (some ⟨R,0,none⟩):=by simpa using hp
 simp[results,h,hp',go_sem,c0,c1,c2,c3]
theorem Xn (C g off n c:Nat) (X:Value) (o:Int) (key:ByteArray) (w:World) (hx:Ah w C Je #[.slice (some ⟨g,off,none⟩) (n+1) c,X,.int .i64 o]) (s0:w.cell? ⟨g,off,none⟩=some (.string key)):
 Calls Tryz.prog 110 #[.pointer (some ⟨C,0,none⟩)] w fun e w'=>e=.returned (.tuple #[.agg #[.pointer none,.int .i64 (-1),.string key,.string key],.bool true])/\Below w.heap.size w w':=by
 have c0:=hx.cell 0;have lx:=hx.lt;have lg:g<w.heap.size:=World.block_lt_of_cell? w _ s0;have y1:(0:Int)<((n+1:Nat):Int):=by omega
 clear hx;go_enter Tryz.func110,Tryz.ntmps110;go_wp2;exact bodyPost_ret (Kr rfl rfl (Ah.new _ _ _)) rfl ⟨rfl,Aa _ _⟩
theorem Xp (C c c':Nat) (a a':Option Addr) (o:Int) (w:World) (hx:Ah w C Je #[.slice a 0 c,.slice a' 0 c',.int .i64 o]):
 Calls Tryz.prog 110 #[.pointer (some ⟨C,0,none⟩)] w fun e w'=>e=.returned (.tuple #[.agg #[.pointer none,.int .i64 0,.string ⟨#[]⟩,.string ⟨#[]⟩],.bool false])/\Below w.heap.size w w':=by
 have c0:=hx.cell 0;have c1:=hx.cell 1;have lx:=hx.lt;clear hx;go_enter Tryz.func110,Tryz.ntmps110;go_wp2;exact bodyPost_ret (Kr rfl rfl (Ah.new _ _ _)) rfl ⟨rfl,Aa _ _⟩
theorem Xo (C c c' g m:Nat) (a:Option Addr) (o:Int) (n:Nd) (b:Nat) (w:World) (hx:Ah w C Je #[.slice a 0 c,.slice (some ⟨g,0,none⟩) (m+1) c',.int .i64 o]) (hm:m<=1000000) (s0:w.cell? ⟨g,m,none⟩=some (.pointer (some ⟨b,0,none⟩))) (hn:By w w.heap.size n b):
 Calls Tryz.prog 110 #[.pointer (some ⟨C,0,none⟩)] w fun e w'=>e=.returned (.tuple #[.agg #[.pointer (some ⟨b,0,none⟩),.int .i64 (I8 n),.string (Ao n),.string (Ca n)],.bool true])/\Below w.heap.size w w':=by
 have c0:=hx.cell 0;have c1:=hx.cell 1;have lx:=hx.lt;have lg:g<w.heap.size:=World.block_lt_of_cell? w _ s0;have hb1:=Aa w (.cells #[.pointer none,.int .i64 0,.string ⟨#[]⟩,.string ⟨#[]⟩] Thd);obtain⟨w1,hw1⟩: ∃w1,w.alloc (.cells #[.pointer none,.int .i64 0,.string ⟨#[]⟩,.string ⟨#[]⟩] Thd)=w1:=⟨_,rfl⟩;have hR1:Ah w1 w.heap.size Thd #[.pointer none,.int .i64 0,.string ⟨#[]⟩,.string ⟨#[]⟩]:=hw1▸Ah.new _ _ _;rw[hw1]at hb1;obtain⟨M,hM⟩: ∃M,m+1=M:=⟨_,rfl⟩;have y1:IntKind.i64.wrap ((M:Int) - 1)=(m:Int):=by
  rw[show(M:Int) - 1=(m:Int)from by omega];exact IntWalk.i64_in _ (by omega)
 have y2:(m:Int)<(M:Int):=by omega
 have y3:(0:Int)<=(m:Int):=by omega
 have y4:(0:Int)<(M:Int):=by omega
 have y5:m<M:=by omega
 have y6:0<M:=by omega
 rw[hM]at c1;have d0:=(hb1.cell (p:=⟨C,0,none⟩) lx).trans c0;have d1:=(hb1.cell (p:=⟨C,1,none⟩) lx).trans c1;have e0:=(hb1.cell (p:=⟨g,m,none⟩) lg).trans s0;have l1:C<w1.heap.size:=by have:=hb1.size;omega
 have hD:=hb1.trans ((Below.drew (Below.refl _ w1)).mono hb1.size);have hnD:=hn.below hD;have HH:=qz (Cl hnD);have HF:=qz (N4 hnD);have HL:=qz (Yb hnD);have HRD:=qz hR1.drew;have HD:=qz hD;clear hD;clear hx s0 c0 c1 hn hnD hR1 hM;go_enter Tryz.func110,Tryz.ntmps110;go_upto_region 5 with(fail);refine wp_region_held_drew (S:=fun Y:World=>Y.cell? ⟨C,1,none⟩=some (.slice (some ⟨g,0,none⟩) M c')/\Y.cell? ⟨g,m,none⟩=some (.pointer (some ⟨b,0,none⟩))) (by kernel_rfl) ⟨d1,e0⟩ (fun hHeld=> ?_);refine tkH 0 hHeld ?_;refine tkH 1 hHeld ?_;refine tkH 2 hHeld ?_;refine tkH 3 hHeld ?_;refine tkH 4 hHeld ?_;refine tkH 5 hHeld ?_;refine tkH 6 hHeld ?_;refine tkH 7 hHeld ?_;refine tkH 8 hHeld ?_;refine tkH 9 hHeld ?_;refine tkH 10 hHeld ?_;refine tkH 11 hHeld ?_;refine tkH 12 hHeld ?_;refine wpAnyH_done (by kernel_rfl) ?_ _;clear hHeld d0 d1 e0;generalize w1.drew=wd at HH HF HL HRD HD ⊢;clear hw1 hb1 l1;have fz:=HRD.out.frozen;have lr:=HRD.out.lt;have r0:=HRD.out.cell 0;have r1:=HRD.out.cell 1;have r2:=HRD.out.cell 2;have r3:=HRD.out.cell 3;go_wp2_with (fail);(with_reducible refine(HH.out).mono ?_);rintro e w2 ⟨rfl,rfl⟩;go_wp2_with (fail);(with_reducible refine(HF.out).mono ?_);rintro e w2 ⟨rfl,rfl⟩;go_wp2_with (fail);(with_reducible refine(HL.out).mono ?_);rintro e w2 ⟨rfl,rfl⟩;have Hxf:=qz ((((HRD.out.set_ 0 (.pointer (some ⟨b,0,none⟩))).set_ 1 (.int .i64 (I8 n))).set_ 2 (.string (Ao n))).set_ 3 (.string (Ca n)));have HBf:=qz (Bl [.pointer (some ⟨b,0,none⟩),.int .i64 (I8 n),.string (Ao n),.string (Ca n)] HD.out (Nat.le_refl _) (o:=0));go_wp2;exact bodyPost_ret (Kr rfl rfl Hxf.out) rfl ⟨rfl,HBf.out⟩
def Tc (bs:List Nat) (w:World) (e:Ending) (w':World):Prop:=
 Below w.heap.size w w'/\ ∃C V,e=.returned (.pointer (some ⟨C,0,none⟩))/\w.heap.size<=C/\Ah w' C Je #[.slice none 0 0,V,.int .i64 0]/\Al (fun _=>False) (C+1) 25 1 w' (Ar bs) V
theorem Pu (p:Option Nat) (w:World):Calls Tryz.prog 70 #[.agg #[.pointer (p.map fun b=>⟨b,0,none⟩)]] w (Tc p.toList w):=by
 obtain⟨PO,hPO⟩: ∃P:Ending->World->Prop,Tc p.toList w=P:=⟨_,rfl⟩;rw[hPO];obtain⟨Q,hQ⟩: ∃Q:Option Addr,(p.map fun b=>(⟨b,0,none⟩:Addr))=Q:=⟨_,rfl⟩;rw[hQ];obtain⟨w2,hw2⟩: ∃w2,(w.alloc (.cells #[.pointer Q] 27)).alloc (.cells #[.slice none 0 0,.slice none 0 0,.int .i64 0] Je)=w2:=⟨_,rfl⟩;have Hb2:Hid (Below w.heap.size w w2):=hw2▸(Aa w (.cells #[.pointer Q] 27)).alloc (by simp) _;have Hx2:Hid (Ah w2 (w.heap.size+1) Je #[.slice none 0 0,.slice none 0 0,.int .i64 0]):=hw2▸Ah.new1 _ _ _ _;have ht2:Ah w2 w.heap.size 27 #[.pointer Q]:=hw2▸(Ah.new _ _ _).alloc _;have HRt:=qz (Aa2 Q w2);have c0:=ht2.cell 0;have l0:=ht2.lt;obtain⟨j0,hj,hy0,hy1,hy2⟩:=info_parts Jw;obtain⟨HPO,Hj,Hy0,Hy1,Hy2⟩:=hid5 hPO hj hy0 hy1 hy2;clear hPO hj hy0 hy1 hy2;clear ht2;go_enter Tryz.func70,Tryz.ntmps70;go_wp2_with (fail);(with_reducible refine(HRt.out).mono ?_);rintro e w3 ⟨rfl,hb3⟩;have hw3:=Hb2.out.trans (hb3.mono Hb2.out.size);have hx3:=Hx2.out.below hb3 Hx2.out.lt;clear c0 l0 hw2 hb3
 cases p with
 |none=>
  cases hQ
  have HP:Hid (PO (.returned (.pointer (some ⟨w.heap.size+1,0,none⟩))) w3):=by
   show PO _ _;rw[<-HPO.out];exact⟨hw3,_,_,rfl,by omega,hx3,by simpa[Ar]using Al.nil _ _ _ _ _⟩
  clear hw3 hx3;go_wp2;exact HP.out
 |some b=>
  cases hQ
  have d1:=hx3.cell 1;have fz:=hx3.frozen;have lx:=hx3.lt;have Hx4:=qz (hx3.alloc (.cells #[.pointer (some ⟨b,0,none⟩)] 25));have Hw4:=qz (hw3.alloc hw3.size (.cells #[.pointer (some ⟨b,0,none⟩)] 25));have Hrd:=qz (Db (Ah.new w3 25 #[.pointer (some ⟨b,0,none⟩)]));have Hlz:=qz (show w.heap.size+1+1<=(w3.alloc (.cells #[.pointer (some ⟨b,0,none⟩)] 25)).heap.size from by simp;omega);clear hx3 hw3;go_wp2_with (at_builtin;apply Shut.out);unfold Shut;refine Fe rfl (.tmp 15) (.tmp 17) 111 rfl Tryz.underlying111 Hj.out Hy0.out Hy1.out Hy2.out rfl (by omega) rfl (Al.nil (fun _=>False) (w.heap.size+1+1) 25 1 _) Hlz.out rfl (Fq _ _ b) rfl Hrd.out (by simp[maxLen]) (by simp) ?_;intro V6 w6 hr6 hg6 hat6;have hr6':Al (fun _=>False) (w.heap.size+1+1) 25 1 w6 (Ar [b]) V6:=hr6;obtain⟨a6,c6,rfl⟩:=hr6'.slice;have hx6:=Hx4.out.grown hg6 (by intro e;cases e);have hw6:=Hw4.out.grown hg6 Hw4.out.size (fun k hk=>by cases hk);have e1:=hx6.cell 1;have fz:=hx6.frozen;have lx:=hx6.lt;have hxf:=hx6.set_ 1 (.slice a6 (Ar [b]).length c6);have HP:Hid (PO (.returned (.pointer (some ⟨w.heap.size+1,0,none⟩))) (w6.setCell ⟨w.heap.size+1,1,none⟩ (.slice a6 (Ar [b]).length c6))):=by
   show PO _ _;rw[<-HPO.out];exact⟨hw6.setCell (p:=⟨w.heap.size+1,1,none⟩) (by simp) _,_,_,rfl,by omega,hxf,hr6'.keepP (by simp[World.setCell]) fun i e _=>Below.heap_setCell _ _ _ _ (by have:=(hr6'.base i e).1;simp;omega)⟩
  clear hr6 hg6 hat6 hr6' hx6 hw6 hxf Hx4 Hw4 Hrd Hlz d1;go_wp2;exact HP.out
theorem Al.keepN {S0 T0:Nat->Prop} {b b':Nat} {t:TypeId} {s:Nat} {wr w':World} {l:List D} {V:Value} (h:Al S0 b t s wr l V) (hb:b'<=b) (hST: ∀i,S0 i->T0 i) (hs:wr.heap.size<=w'.heap.size) (hk: ∀i,(S0 i\/V.ownBlock=some i)->i<wr.heap.size->w'.heap[i]? =wr.heap[i]?):Al T0 b' t s w' l V:=by
 obtain⟨ns,h1,h2,h3⟩:=h;refine⟨ns,⟨h1.1, ?_⟩,h2,fun w'' k1 k2=>Af.more (h3 w'' (by omega) (fun p p1 p2=>(k2 p ⟨hST _ p1.1,p1.2⟩ (by omega)).trans (World.cell?_of_block (hk p.block (.inl p1.1) p2)))) hs⟩;rcases h1.2 with⟨rfl,h0⟩|⟨g,cap,cur,rfl,hbg,hg,h5⟩
 . exact .inl ⟨rfl,h0⟩
 . exact .inr ⟨g,cap,cur,rfl,by omega,(hk g (.inr rfl) (Array.getElem?_eq_some_iff.1 hg).1).trans hg,h5⟩
theorem Yf (S:Nat->Prop) (C g m c ec:Nat) (ea:Option Addr) (o:Int) (es:List Ax) (b:Nat) (w:World) (hx:Ah w C Je #[.slice ea 0 ec,.slice (some ⟨g,0,none⟩) (m+1) c,.int .i64 o]) (hc:m+1<=c) (hm:m<=1000000) (ho:0<=o/\o<=1000000000)
 (s0:w.cell? ⟨g,m,none⟩=some (.pointer (some ⟨b,0,none⟩))) (hn:Bj S w (.leaf es) b) (hS: ¬S C) (h0:0<es.length) (hb:Ac es<=100000000):
 Calls Tryz.prog 112 #[.pointer (some ⟨C,0,none⟩)] w fun e w'=>e=.returned (.tuple #[])/\KB (fun i=>i=C) w w'/\ ∃g2,w.heap.size<=g2/\Ah w' C Je #[.slice (some ⟨g2,0,none⟩) es.length es.length,.slice (some ⟨g,0,none⟩) m c,.int .i64 (o+1)]/\Al (fun i=>w.heap.size<=i) w.heap.size 71 7 w' (dO es) (.slice (some ⟨g2,0,none⟩) es.length es.length):=by
 obtain⟨PO,hPO⟩: ∃P:Ending->World->Prop,(fun e w'=>e=.returned (.tuple #[])/\KB (fun i=>i=C) w w'/\ ∃g2,w.heap.size<=g2/\Ah w' C Je #[.slice (some ⟨g2,0,none⟩) es.length es.length,.slice (some ⟨g,0,none⟩) m c,.int .i64 (o+1)]/\Al (fun i=>w.heap.size<=i) w.heap.size 71 7 w' (dO es) (.slice (some ⟨g2,0,none⟩) es.length es.length))=P:=⟨_,rfl⟩;rw[hPO];have lx:=hx.lt;have lg:g<w.heap.size:=World.block_lt_of_cell? w _ s0;have hb1:=Aa w (.cells #[.pointer (some ⟨C,0,none⟩)] 121);obtain⟨w1,hw1⟩: ∃w1,w.alloc (.cells #[.pointer (some ⟨C,0,none⟩)] 121)=w1:=⟨_,rfl⟩;have hR1:Ah w1 w.heap.size 121 #[.pointer (some ⟨C,0,none⟩)]:=hw1▸Ah.new _ _ _;rw[hw1]at hb1;have hx1:=hx.below hb1 lx;have hn1:=(hn.below hb1);obtain⟨M,hM⟩: ∃M,m+1=M:=⟨_,rfl⟩;have y1:IntKind.i64.wrap ((M:Int) - 1)=(m:Int):=by
  rw[show(M:Int) - 1=(m:Int)from by omega];exact IntWalk.i64_in _ (by omega)
 have y2:(m:Int)<(M:Int):=by omega
 have y3:(0:Int)<=(m:Int):=by omega
 have y5:m<M:=by omega
 have d1:w1.cell? ⟨C,1,none⟩=some (.slice (some ⟨g,0,none⟩) M c):=hM▸hx1.cell 1;have e0:=(hb1.cell (p:=⟨g,m,none⟩) lg).trans s0;have b0:=hR1.cell 0;have y6:IntKind.i64.wrap (o+1)=o+1:=IntWalk.i64_in _ (by omega);have Hsk:=qz (M9 C g m c (.slice ea 0 ec) o w1.drew hx1.drew hc hm);have HDx:=qz hx1.drew;have HDn:=qz (hn1.below (Below.drew (Below.refl w1.heap.size w1)));have HDb:=qz hR1.drew;have HD:=qz (hb1.trans ((Below.drew (Below.refl _ w1)).mono hb1.size));have HPO:=qz hPO;clear hPO;clear hx s0 hn hx1 hn1 hR1 hM;go_enter Tryz.func112,Tryz.ntmps112;go_upto_region 1 with(fail);refine wp_region_held_drew (S:=fun Y:World=>Y.cell? ⟨w.heap.size,0,none⟩=some (.pointer (some ⟨C,0,none⟩))/\Y.cell? ⟨C,1,none⟩=some (.slice (some ⟨g,0,none⟩) M c)/\Y.cell? ⟨g,m,none⟩=some (.pointer (some ⟨b,0,none⟩))) (by kernel_rfl) ⟨b0,d1,e0⟩ (fun hHeld=> ?_);refine tkH 0 hHeld ?_;refine tkH 1 hHeld ?_;refine tkH 2 hHeld ?_;refine tkH 3 hHeld ?_;refine tkH 4 hHeld ?_;refine tkH 5 hHeld ?_;refine tkH 6 hHeld ?_;refine tkH 7 hHeld ?_;refine tkH 8 hHeld ?_;refine tkH 9 hHeld ?_;refine tkH 10 hHeld ?_;refine tkH 11 hHeld ?_;refine tkH 12 hHeld ?_;refine wpAnyH_done (by kernel_rfl) ?_ _;clear hHeld d1 e0 b0;generalize w1.drew=wd at Hsk HDx HDn HDb HD ⊢;clear hw1 hb1;have b0:=HDb.out.cell 0;go_wp2_with (fail);(with_reducible refine(Hsk.out).mono ?_);rintro e w2 ⟨rfl,rfl⟩;have hx2:=(HDx.out.set_ 1 (.slice (some ⟨g,0,none⟩) m c)).drew;have hn2:=(HDn.out.later (w':=wd.setCell ⟨C,1,none⟩ (.slice (some ⟨g,0,none⟩) m c)) (by simp[World.setCell]) fun i i1 _=>Below.heap_setCell _ _ _ _ (fun e=>hS (by have e2:i=C:=e;rw[<-e2];exact i1))).below (Below.drew (Below.refl _ _));have hb2:=(HDb.out.far (p:=⟨C,1,none⟩) (by simp;omega) (.slice (some ⟨g,0,none⟩) m c)).drew;have hk2:KB (fun i=>i=C) w (wd.setCell ⟨C,1,none⟩ (.slice (some ⟨g,0,none⟩) m c)).drew:=((KB.of_below (S:=fun i=>i=C) HD.out).trans (KB.set (S:=fun i=>i=C) wd ⟨C,1,none⟩ rfl _) fun _ _ h=>h).trans (KB.of_below (S:=fun i=>i=C) (Below.drew (Below.refl _ _))) fun _ _ h=>h;generalize (wd.setCell ⟨C,1,none⟩ (.slice (some ⟨g,0,none⟩) m c)).drew=w2 at hx2 hn2 hb2 hk2 ⊢;clear Hsk HDx HDn HDb HD b0;have b0:=hb2.cell 0;have c2:=hx2.cell 2;have fz:=hx2.frozen;have lx2:=hx2.lt;have lb2:=hb2.lt;have hx3:=hx2.set_ 2 (.int .i64 (o+1));have Hn3:=qz (hn2.later (w':=w2.setCell ⟨C,2,none⟩ (.int .i64 (o+1))) (by simp[World.setCell]) fun i i1 _=>Below.heap_setCell _ _ _ _ (fun e=>hS (by have e2:i=C:=e;rw[<-e2];exact i1)));have Hb3:=qz (hb2.far (p:=⟨C,2,none⟩) (by simp;omega) (.int .i64 (o+1)));have Hk3:=qz (hk2.trans (KB.set (S:=fun i=>i=C) w2 ⟨C,2,none⟩ rfl (.int .i64 (o+1))) fun _ _ h=>h);have Hx3:=qz hx3;clear hx3;clear hx2 hn2 hb2 hk2;go_upto_region 4 with(fail);generalize w2.setCell ⟨C,2,none⟩ (.int .i64 (o+1))=w3 at Hx3 Hn3 Hb3 Hk3 ⊢;clear b0 c2 fz lx2 lb2;have hHt:=Cl Hn3.out.now;rw[show I8 (.leaf es)=0 from by simp[I8]]at hHt;have HEn:=qz (Ft (Hn3.out.below (Below.drew (Below.refl _ w3))).now h0 hb);have HHt:=qz hHt;clear hHt;go_wp2_with (fail);(with_reducible refine(HHt.out).mono ?_);rintro e w4 ⟨rfl,rfl⟩;go_upto_region 5 with(fail);have b0:=Hb3.out.cell 0;refine wp_region_held_drew (S:=fun Y:World=>Y.cell? ⟨w.heap.size,0,none⟩=some (.pointer (some ⟨C,0,none⟩))) (by kernel_rfl) b0 (fun hHeld=> ?_);refine tkH 0 hHeld ?_;refine tkH 1 hHeld ?_;refine C4 2 fun K hK=> ?_;go_simp;(with_reducible refine(HEn.out).mono ?_);rintro e w5 ⟨hb5,g2,rfl,hR5⟩;have hzd:w.heap.size<=w3.heap.size:=Hk3.out.size;have hx5:=Hx3.out.drew.below hb5 Hx3.out.drew.lt;have hbx5:=Hb3.out.drew.below hb5 Hb3.out.drew.lt;have hk5:=(Hk3.out.trans (KB.of_below (S:=fun i=>i=C) (Below.drew (Below.refl w3.heap.size w3))) fun _ _ h=>h).trans (KB.of_below (S:=fun i=>i=C) hb5) fun _ _ h=>h;have hg5:=(hR5.base g2 rfl).1;refine hK.out _ _ (hbx5.cell 0) (fun hHeld=> ?_);clear hK K;have x0:=hx5.cell 0;have fz:=hx5.frozen;have lx5:=hx5.lt;have hgz:w3.drew.heap.size=w3.heap.size:=rfl;have hx6:=hx5.set_ 0 (.slice (some ⟨g2,0,none⟩) es.length es.length);have hk6:=hk5.trans (KB.set (S:=fun i=>i=C) w5 ⟨C,0,none⟩ rfl (.slice (some ⟨g2,0,none⟩) es.length es.length)) fun _ _ h=>h;have hb6:=hbx5.far (p:=⟨C,0,none⟩) (by simp;omega) (.slice (some ⟨g2,0,none⟩) es.length es.length);have hR6:Al (fun i=>w.heap.size<=i) w.heap.size 71 7 (w5.setCell ⟨C,0,none⟩ (.slice (some ⟨g2,0,none⟩) es.length es.length)) (dO es) (.slice (some ⟨g2,0,none⟩) es.length es.length):=
  Al.keepN (hR5) (by omega) (fun i hi=>by omega) (by simp[World.setCell]) fun i i1 _=>Below.heap_setCell _ _ _ _ (by
   have h7:w3.heap.size<=i:=i1.elim id fun e=>(hR5.base i e).1;simp;omega)
 have HP:Hid (PO (.returned (.tuple #[])) (w5.setCell ⟨C,0,none⟩ (.slice (some ⟨g2,0,none⟩) es.length es.length))):=by
  show PO _ _;rw[<-HPO.out];exact⟨rfl,hk6,g2,by omega,hx6,hR6⟩
 have hq:=hb6.cell 0;clear hx5 hbx5 hk5 hx6 hk6 hb6 hR6 hR5 hb5
 try simp only[Act.put,tk1,tk2,tk3,tk4,tk5,tk6]
 refine tkH 3 hHeld ?_;refine tkH 4 hHeld ?_;refine C4 5 fun K hK=> ?_;go_simp;refine hK.out _ _ hq (fun hHeld=> ?_);clear hK K
 try simp only[Act.put,tk1,tk2,tk3,tk4,tk5,tk6]
 refine wpAnyH_done (by kernel_rfl) ?_ _;clear hHeld;go_wp2;exact bodyPost_end (Fh rfl) rfl HP.out
def Gq (bs:List Nat):Nat->List (Nat×Nat)
 |0=> []
 |k+1=>(k,bs.getD k 0)::Gq bs k
theorem Oo (bs:List Nat): ∀k,k<=bs.length->(Gq bs k).map (·.2)=(bs.take k).reverse
 |0,_=>by simp[Gq]
 |k+1,h=>by
  have:k<bs.length:=by omega
  rw[Gq,List.map_cons,Oo bs k (by omega),List.take_add_one,List.getElem?_eq_getElem this,Option.toList_some,List.reverse_append];simp[List.getD_eq_getElem?_getD,List.getElem?_eq_getElem this]
def Um (x:Nat×Nat) (_:Unit):Array Value:= #[.int .i64 x.1,.pointer (some ⟨x.2,0,none⟩)]
theorem Zq (a:Option Addr) (n c:Nat) (w:World):Calls Tryz.prog 172 #[.slice a n c] w fun e w'=>e=.returned (.func (.func 199) #[] #[.pointer (some ⟨w.heap.size,0,none⟩)])/\w.alloc (.cells #[.slice a n c] 111)=w':=by
 go_enter Tryz.func172,Tryz.ntmps172;go_wp2;go_ret;exact⟨rfl,rfl⟩
attribute [local go_sem] Oper.semAt_some
theorem Ws (bs:List Nat) (p g off c:Nat) (h6:bs.length<=1000000):
 Uj Tryz.prog 199 #[.pointer (some ⟨p,0,none⟩)] Um (fun _ _ _=>True) (Gq bs bs.length)
  (fun A=>A.cell? ⟨p,0,none⟩=some (.slice (some ⟨g,off,none⟩) bs.length c)/\p<A.heap.size/\g<A.heap.size/\ ∀i b,bs[i]? =some b->A.cell? ⟨g,off+i,none⟩=some (.pointer (some ⟨b,0,none⟩))):=by
 intro n l J W hJn hJb hY h0;obtain⟨hc0,hp0,hg0,_⟩:=hJb _ _ h0;have y0:IntKind.i64.wrap ((bs.length:Int) - 1)=(bs.length:Int) - 1:=IntWalk.i64_in _ (by omega);refine callsIn_of_wp Tryz.func199 rfl trivial ?_ rfl;simp only[Tryz.ntmps199,List.size_toArray,List.length_cons,List.length_nil,Nat.reduceAdd,Nat.reduceSub,Array.replicate_succ,Array.replicate_zero,List.push_toArray,List.append_toArray,List.nil_append,List.cons_append];have H0:=qz h0;clear h0
 gi_wp2
 gi_loopw [3] (fun i wr=> ∃(pre:List (Nat×Nat)) (k:Nat),i=.int .i64 ((k:Int) - 1)/\k<=bs.length/\Hid (Gq bs bs.length=pre++Gq bs k)/\J pre wr) (fun i _=>(intOf i+1).toNat)
 case atStart=>exact⟨[],bs.length,rfl,Nat.le_refl _,rfl,H0.out⟩
 case round=>
  obtain⟨pre,k,rfl,hk,hr,hJ⟩:=hrel;obtain⟨q0,qp,qg,qc⟩:=hJb _ _ hJ
  cases k with
  |zero=>
   have hr':=hr.out;simp only[Gq,List.append_nil]at hr';have HJ:Hid (J (Gq bs bs.length) wr):=by
    show J _ _;rw[hr'];exact hJ
   have y1: ¬(0:Int)<=((0:Nat):Int) - 1:=by omega
   clear hJ hr hr' q0 qp qg qc hJn hJb hY
   gi_wp2
   exact bodyPost_end (Fh rfl) rfl ⟨⟨_,rfl⟩,HJ.out⟩
  |succ k=>
   have hlt:k<bs.length:=by omega
   obtain⟨b,hb⟩: ∃b,bs[k]? =some b:=⟨_,List.getElem?_eq_getElem hlt⟩;have hgd:bs.getD k 0=b:=by rw[List.getD_eq_getElem?_getD,hb];rfl
   have hr':Gq bs bs.length=pre++(k,b)::Gq bs k:=by
    have:=hr.out;rw[Gq,hgd]at this;exact this
   have e1:(((k+1:Nat):Int) - 1)=(k:Int):=by omega
   have hYk:=hY pre (k,b) (Gq bs k) () wr hr' hJ trivial;have e0:=qc k b hb;have y1:(0:Int)<=(k:Int):=by omega
   have y2:(k:Int)<(bs.length:Int):=by omega
   have y3:IntKind.i64.wrap ((k:Int) - 1)=(k:Int) - 1:=IntWalk.i64_in _ (by omega);have HR:Hid (Gq bs bs.length=(pre++ [(k,b)])++Gq bs k):=by
    show _=_;rw[hr'];simp
   rw[e1];clear hr hr' hY qc hb hgd e1;obtain⟨fn,tmps,assign,body,hy,hR⟩:=hYk;simp only[Um]at hy
   gi_wp2_with (refine hR.mono ?_;rintro e W3 ⟨rfl,hJ3⟩;clear hy hR)
   go_roundw
   case rel=>exact⟨_,k,rfl,by omega,HR,hJ3⟩
   case measure=>simp only[intOf];omega
end Go.Proofs.YtnkmhaachfgaoaaGreatDoor
