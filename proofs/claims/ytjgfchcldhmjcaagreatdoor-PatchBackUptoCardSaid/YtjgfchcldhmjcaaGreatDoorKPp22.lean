/- Parts: commonplaceref11.Just: has an object just these members, those of the first list, and of the second one any? Condition: at most 10^8 members. -/
import Derived.Test.YtjgfchcldhmjcaaGreatDoorKPp19
import Derived.Test.YtjgfchcldhmjcaaGreatDoorKPp20
set_option maxHeartbeats 20000000
set_option maxRecDepth 100000
namespace Go.Proofs.YtjgfchcldhmjcaaGreatDoor
structure CurOk (es:List Cq) (ns:List Nd):Prop where
 gds: ∀n ∈ ns,gd n
 asc:Dg (es++B9 ns)
 bulk:Af (es++B9 ns)<=100000000
 len:(es++B9 ns).length<=7
theorem CurOk.tail {e:Cq} {a:List Cq} {ns:List Nd} (h:CurOk (e::a) ns):CurOk a ns:=by
 obtain⟨d,b,f,c⟩:=h;rw[List.cons_append]at b f c;have g:Af (e::(a++B9 ns))=Af [e]+Af (a++B9 ns):=Gn [e] _;rw[List.length_cons]at c;exact⟨d,(List.pairwise_cons.1 b).2,by omega,by omega⟩
theorem CurOk.skip {n:Nd} {ns:List Nd} (h:CurOk [] (n::ns)):CurOk [] ns:=by
 obtain⟨d,a,b,c⟩:=h;simp only[List.nil_append,B9]at a b c ⊢;rw[Gn]at b;rw[List.length_append]at c;exact⟨fun x e=>d x (by simp[e]),(List.pairwise_append.1 a).2.1,by simp only[List.nil_append];omega,by simp only[List.nil_append];omega⟩
theorem CurOk.openL {a:List Cq} {ns:List Nd} (h:CurOk [] (.leaf a::ns)):CurOk a ns:=by
 obtain⟨e,b,c,d⟩:=h;simp only[List.nil_append,B9,On]at b c d;exact⟨fun x f=>e x (by simp[f]),b,c,d⟩
theorem Ae1: ∀(h:Nat) {lo:Nat} {n:Nd},0<lo->(0<h->2<=lo)->okN lo h n->lo<=(On n).length
 |0,lo,.leaf es,_,_,hn=>by simp only[okN]at hn;simp only[On];omega
 |0,_,.inner ks,_,_,hn=>absurd hn (by simp[okN])
 |h+1,_,.leaf es,_,_,hn=>absurd hn (by simp[okN])
 |h+1,lo,.inner ks,_,_,hn=>by
  simp only[okN]at hn;obtain⟨e,_,b⟩:=hn;have key: ∀{l:List Nd},(∀x ∈ l,okN 4 h x)->l.length<=(B9 l).length:=by
   intro l
   induction l with
   |nil=>intro _;simp
   |cons x r ih=>
    intro a;have d:=Ae1 h (lo:=4) (by omega) (fun _=>by omega) (a x (by simp));have f:=ih fun y c=>a y (by simp[c]);simp only[List.length_cons,B9,List.length_append];omega
  have:=key b;simp only[On];omega
theorem Aik {ks:List Nd} (h:gd (.inner ks)):8<=(On (.inner ks)).length:=by
 obtain⟨lo,h,k,f,e⟩:=h
 cases h with
 |zero=>exact absurd e (by simp[okN])
 |succ h=>
  simp only[okN]at e;obtain⟨c,_,g⟩:=e;have i:=f (by omega);have d:=fun x j=>Ae1 h (lo:=4) (by omega) (fun _=>by omega) (g x j)
  match ks,c,d with
  | [],c,_=>simp at c;omega
  | [x],c,_=>simp at c;omega
  |x::y::r,_,d=>
   have a:=d x (by simp);have b:=d y (by simp);simp only[On,B9,List.length_append];omega
theorem Mn {k f:ByteArray} {v:Val} {l r:List Cq} (c:Dg l) (d:l=(f,v)::r) (b:Er k f=true): ∀e ∈ l,Er k e.1=true:=by
 subst d;intro e a;rcases List.mem_cons.1 a with rfl|a
 . exact b
 . exact Dq b ((List.pairwise_cons.1 c).1 e a)
theorem Vz {n:Nd} {ns:List Nd} (h:gd n): ∃v r,B9 (n::ns)=(Cu n,v)::r:=by
 obtain⟨x,r,e⟩:=Afw h.ne;exact⟨x,r++B9 ns,by simp only[B9];rw[e];rfl⟩
end Go.Proofs.YtjgfchcldhmjcaaGreatDoor
namespace Go.Proofs.YtjgfchcldhmjcaaGreatDoor
open Go Go.RowKit
abbrev M8:TypeId:=303
theorem Lk {fn:Func} {tmps:Array Value} {W:World} (h:fn.results= #[]):(results fn tmps).run Tryz.prog W=.ok (.tuple #[]) W:=by simp[results,h]
theorem Bk.pop {S0:Nat->Prop} {b s:Nat} {t:TypeId} {w:World} {l:List D} {d:D} {g n c:Nat} (h:Bk S0 b t s w (l++ [d]) (.slice (some ⟨g,0,none⟩) n c)):Bk S0 b t s w l (.slice (some ⟨g,0,none⟩) l.length c):=by
 obtain⟨ns,k,a,m⟩:=h;have f:=(m.split a l.length).1;rw[List.take_left']at f
 . rcases k.2 with⟨e,_⟩|⟨g',cap,cur,e,hbg,hg,hnc,hcm,hcs,hcx⟩
   . cases e
   . cases e
     rw[List.length_append,List.length_singleton]at hnc hcx;have i:l.length*s<=(l.length+1)*s:=Nat.mul_le_mul_right _ (by omega);refine⟨ns.take (l.length*s),⟨?_,.inr ⟨g,c,cur,rfl,hbg,hg,by omega,hcm,hcs, ?_⟩⟩,fun x j=>a x (by simp[j]),f⟩
     . rw[f.now.len.1,Ge fun x j=>a x (by simp[j])]
     . rw[<-hcx,List.take_take,Nat.min_eq_left i]
 . rfl
theorem Qx (C g n c:Nat) (X:Value) (o:Int) (w:World) (a:Ap w C M8 #[X,.slice (some ⟨g,0,none⟩) (n+1) c,.int .i64 o]) (h:n+1<=c) (f:n<=1000000):
 Calls Tryz.prog 212 #[.pointer (some ⟨C,0,none⟩)] w fun e w'=>e=.returned (.tuple #[])/\w'=(w.setCell ⟨C,1,none⟩ (.slice (some ⟨g,0,none⟩) n c)).drew:=by
 have c1:=a.cell 1;have d:=a.frozen;have i:=a.lt;obtain⟨m,b⟩: ∃m,n+1=m:=⟨_,rfl⟩;have j:IntKind.i64.wrap ((m:Int) - 1)=(n:Int):=by
  rw[show(m:Int) - 1=(n:Int)from by omega];exact IntWalk.i64_in _ (by omega)
 have k:(n:Int)<=(c:Int):=by omega
 have l:n<=c:=by omega
 have p:(0:Int)<=(n:Int):=by omega
 rw[b]at c1;clear a b;go_enter Tryz.func212,Tryz.ntmps212;go_upto_region 0 with(fail)
 go_region_law (fail)
 all_goals
  go_wp2;exact bodyPost_end (Lk rfl) rfl ⟨rfl,rfl⟩
theorem Rj {fn:Func} {t:Tmp} {tmps:Array Value} {W:World} {R:Nat} {c a1 d e f g i:Value} (h:fn.results= #[.cell t 103]) (k:tmps.getD t undef=.pointer (some ⟨R,0,none⟩)) (a:Ap W R 103 #[c,a1,d,e,f,g,i]):
 (results fn tmps).run Tryz.prog W=.ok (.agg #[c,a1,d,e,f,g,i]) W:=by
 have c0:=a.cell 0;have c1:=a.cell 1;have c2:=a.cell 2;have c3:=a.cell 3;have c4:=a.cell 4;have c5:=a.cell 5;have j:=a.cell 6;clear a;have b:tmps[t]?.getD undef=.pointer (some ⟨R,0,none⟩):=by simpa using k
 simp[results,h,b,go_sem,c0,c1,c2,c3,c4,c5,j]
theorem Aj7 {w:World} {C:Nat} {f b c:Value} (e:Ap w C M8 #[f,b,c]) (v:Value) (cs:Array Value) (t:TypeId):
 Ap (((w.setCell ⟨C,0,none⟩ v).alloc (.cells cs t)).alloc (.cells cs t)) w.heap.size t cs/\KB (fun i=>i=C) w (((w.setCell ⟨C,0,none⟩ v).alloc (.cells cs t)).alloc (.cells cs t))/\Ap (((w.setCell ⟨C,0,none⟩ v).alloc (.cells cs t)).alloc (.cells cs t)) C M8 #[v,b,c]:=by
 have d:(w.setCell ⟨C,0,none⟩ v).heap.size=w.heap.size:=by simp[World.setCell]
 have a:=(Ap.new (w.setCell ⟨C,0,none⟩ v) t cs).alloc (.cells cs t);rw[d]at a;refine⟨a,(KB.set (S:=fun i=>i=C) w ⟨C,0,none⟩ rfl v).trans (KB.of_below (S:=fun i=>i=C) ((Aa (w.setCell ⟨C,0,none⟩ v) (.cells cs t)).alloc (by simp) _)) fun _ _ h=>h,((e.set_ 0 v).alloc _).alloc _⟩
theorem Ad1 (C g a n c:Nat) (X:Value) (o:Int) (key:ByteArray) (d:Int) (b':Bool) (l:Int) (p:ByteArray) (f:Option Addr) (k j:Nat) (m:Option Addr) (on oc:Nat) (w:World) (b:Ap w C M8 #[.slice (some ⟨g,a,none⟩) (n+1) c,X,.int .i64 o]) (z:n+1<=c)
 (r:w.rangeAt g a [.string key,.int .i64 d,.bool b',.int .i64 l,.string p,.slice f k j,.slice m on oc]):
 Calls Tryz.prog 215 #[.pointer (some ⟨C,0,none⟩)] w fun e w'=>e=.returned (.agg #[.string key,.int .i64 d,.bool b',.int .i64 l,.string p,.slice f k j,.slice m on oc])/\KB (fun i=>i=C) w w'/\ ∃q,(n≠0->q=some ⟨g,a+7,none⟩)/\Ap w' C M8 #[.slice q n (c - 1),X,.int .i64 o]:=by
 have c0:=b.cell 0;have y:=b.frozen;have B:=b.lt;have s:=r 0 _ rfl;have D:=r 1 _ rfl;have E:=r 2 _ rfl;have F:=r 3 _ rfl;have G:=r 4 _ rfl;have H:=r 5 _ rfl;have I:=r 6 _ rfl;simp only[Nat.add_zero]at s;have A:g<w.heap.size:=World.block_lt_of_cell? w _ s;have J:(0:Int)<((n+1:Nat):Int):=by omega
 have K:(1:Int)<=((n+1:Nat):Int):=by omega
 have L:((n+1:Nat):Int)<=(c:Int):=by omega
 have M:1<=c:=by omega
 have N:n+1 - 1=n:=by omega
 clear r;have t:=qz b;clear b;go_enter Tryz.func215,Tryz.ntmps215;go_wp2
 all_goals
  obtain⟨u,v,x⟩:=Aj7 t.out _ #[.string key,.int .i64 d,.bool b',.int .i64 l,.string p,.slice f k j,.slice m on oc] 103;exact bodyPost_ret (Rj rfl rfl u) rfl ⟨rfl,v,_,by first|(intro _;rfl)|(intro h;exact absurd (by omega) h),x⟩
abbrev Thd:TypeId:=295
theorem Lj {fn:Func} {t u:Tmp} {tmps:Array Value} {W:World} {R:Nat} {c a1 d e:Value} (h:fn.results= #[.cell t Thd,.tmp u]) (f:tmps.getD t undef=.pointer (some ⟨R,0,none⟩)) (a:Ap W R Thd #[c,a1,d,e]):
 (results fn tmps).run Tryz.prog W=.ok (.tuple #[.agg #[c,a1,d,e],tmps.getD u undef]) W:=by
 have c0:=a.cell 0;have c1:=a.cell 1;have c2:=a.cell 2;have c3:=a.cell 3;clear a;have b:tmps[t]?.getD undef=.pointer (some ⟨R,0,none⟩):=by simpa using f
 simp[results,h,b,go_sem,c0,c1,c2,c3]
theorem Zw (C g a n c:Nat) (X:Value) (o:Int) (key:ByteArray) (w:World) (b:Ap w C M8 #[.slice (some ⟨g,a,none⟩) (n+1) c,X,.int .i64 o]) (d:w.cell? ⟨g,a,none⟩=some (.string key)):
 Calls Tryz.prog 211 #[.pointer (some ⟨C,0,none⟩)] w fun e w'=>e=.returned (.tuple #[.agg #[.pointer none,.int .i64 (-1),.string key,.string key],.bool true])/\Below w.heap.size w w':=by
 have c0:=b.cell 0;have h:=b.lt;have f:g<w.heap.size:=World.block_lt_of_cell? w _ d;have i:(0:Int)<((n+1:Nat):Int):=by omega
 clear b;go_enter Tryz.func211,Tryz.ntmps211;go_wp2;exact bodyPost_ret (Lj rfl rfl (Ap.new _ _ _)) rfl ⟨rfl,Aa _ _⟩
theorem Zy (C c f:Nat) (a d:Option Addr) (o:Int) (w:World) (b:Ap w C M8 #[.slice a 0 c,.slice d 0 f,.int .i64 o]):
 Calls Tryz.prog 211 #[.pointer (some ⟨C,0,none⟩)] w fun e w'=>e=.returned (.tuple #[.agg #[.pointer none,.int .i64 0,.string ⟨#[]⟩,.string ⟨#[]⟩],.bool false])/\Below w.heap.size w w':=by
 have c0:=b.cell 0;have c1:=b.cell 1;have g:=b.lt;clear b;go_enter Tryz.func211,Tryz.ntmps211;go_wp2;exact bodyPost_ret (Lj rfl rfl (Ap.new _ _ _)) rfl ⟨rfl,Aa _ _⟩
theorem Zx (C c z g m:Nat) (a:Option Addr) (o:Int) (n:Nd) (b:Nat) (w:World) (l:Ap w C M8 #[.slice a 0 c,.slice (some ⟨g,0,none⟩) (m+1) z,.int .i64 o]) (J:m<=1000000) (t:w.cell? ⟨g,m,none⟩=some (.pointer (some ⟨b,0,none⟩))) (D:Ct w w.heap.size n b):
 Calls Tryz.prog 211 #[.pointer (some ⟨C,0,none⟩)] w fun e w'=>e=.returned (.tuple #[.agg #[.pointer (some ⟨b,0,none⟩),.int .i64 (Tf n),.string (Cu n),.string (Ez n)],.bool true])/\Below w.heap.size w w':=by
 have c0:=l.cell 0;have c1:=l.cell 1;have E:=l.lt;have H:g<w.heap.size:=World.block_lt_of_cell? w _ t;have h:=Aa w (.cells #[.pointer none,.int .i64 0,.string ⟨#[]⟩,.string ⟨#[]⟩] Thd);obtain⟨w1,j⟩: ∃w1,w.alloc (.cells #[.pointer none,.int .i64 0,.string ⟨#[]⟩,.string ⟨#[]⟩] Thd)=w1:=⟨_,rfl⟩;have k:Ap w1 w.heap.size Thd #[.pointer none,.int .i64 0,.string ⟨#[]⟩,.string ⟨#[]⟩]:=j▸Ap.new _ _ _;rw[j]at h;obtain⟨M,B⟩: ∃M,m+1=M:=⟨_,rfl⟩;have Q:IntKind.i64.wrap ((M:Int) - 1)=(m:Int):=by
  rw[show(M:Int) - 1=(m:Int)from by omega];exact IntWalk.i64_in _ (by omega)
 have R:(m:Int)<(M:Int):=by omega
 have T:(0:Int)<=(m:Int):=by omega
 have U:(0:Int)<(M:Int):=by omega
 have V:m<M:=by omega
 have W:0<M:=by omega
 rw[B]at c1;have d0:=(h.cell (p:=⟨C,0,none⟩) E).trans c0;have d1:=(h.cell (p:=⟨C,1,none⟩) E).trans c1;have A:=(h.cell (p:=⟨g,m,none⟩) H).trans t;have G:C<w1.heap.size:=by have:=h.size;omega
 have s:=h.trans ((Below.drew (Below.refl _ w1)).mono h.size);have i:=D.below s;have x:=qz (Ki i);have v:=qz (X0 i);have y:=qz (Aag i);have f:=qz k.drew;have u:=qz s;clear s;clear l t c0 c1 D i k B;go_enter Tryz.func211,Tryz.ntmps211;go_upto_region 5 with(fail);refine wp_region_held_drew (S:=fun Y:World=>Y.cell? ⟨C,1,none⟩=some (.slice (some ⟨g,0,none⟩) M z)/\Y.cell? ⟨g,m,none⟩=some (.pointer (some ⟨b,0,none⟩))) (by kernel_rfl) ⟨d1,A⟩ (fun d=> ?_);refine tkH 0 d ?_;refine tkH 1 d ?_;refine tkH 2 d ?_;refine tkH 3 d ?_;refine tkH 4 d ?_;refine tkH 5 d ?_;refine tkH 6 d ?_;refine tkH 7 d ?_;refine tkH 8 d ?_;refine tkH 9 d ?_;refine tkH 10 d ?_;refine tkH 11 d ?_;refine tkH 12 d ?_;refine wpAnyH_done (by kernel_rfl) ?_ _;clear d d0 d1 A;generalize w1.drew=wd at x v y f u ⊢;clear j h G;have I:=f.out.frozen;have K:=f.out.lt;have L:=f.out.cell 0;have N:=f.out.cell 1;have O:=f.out.cell 2;have P:=f.out.cell 3;go_wp2_with (fail);(with_reducible refine(x.out).mono ?_);rintro e F ⟨rfl,rfl⟩;go_wp2_with (fail);(with_reducible refine(v.out).mono ?_);rintro e F ⟨rfl,rfl⟩;go_wp2_with (fail);(with_reducible refine(y.out).mono ?_);rintro e F ⟨rfl,rfl⟩;have r:=qz ((((f.out.set_ 0 (.pointer (some ⟨b,0,none⟩))).set_ 1 (.int .i64 (Tf n))).set_ 2 (.string (Cu n))).set_ 3 (.string (Ez n)));have q:=qz (As [.pointer (some ⟨b,0,none⟩),.int .i64 (Tf n),.string (Cu n),.string (Ez n)] u.out (Nat.le_refl _) (o:=0));go_wp2;exact bodyPost_ret (Lj rfl rfl r.out) rfl ⟨rfl,q.out⟩
def Vk (bs:List Nat) (w:World) (e:Ending) (w':World):Prop:=
 Below w.heap.size w w'/\ ∃C V,e=.returned (.pointer (some ⟨C,0,none⟩))/\w.heap.size<=C/\Ap w' C M8 #[.slice none 0 0,V,.int .i64 0]/\Bk (fun _=>False) (C+1) 98 1 w' (Im bs) V
theorem Ro (p:Option Nat) (w:World):Calls Tryz.prog 150 #[.agg #[.pointer (p.map fun b=>⟨b,0,none⟩)]] w (Vk p.toList w):=by
 obtain⟨E,j⟩: ∃P:Ending->World->Prop,Vk p.toList w=P:=⟨_,rfl⟩;rw[j];obtain⟨Q,K⟩: ∃Q:Option Addr,(p.map fun b=>(⟨b,0,none⟩:Addr))=Q:=⟨_,rfl⟩;rw[K];obtain⟨o,g⟩: ∃o,(w.alloc (.cells #[.pointer Q] 100)).alloc (.cells #[.slice none 0 0,.slice none 0 0,.int .i64 0] M8)=o:=⟨_,rfl⟩;have r:Hid (Below w.heap.size w o):=g▸(Aa w (.cells #[.pointer Q] 100)).alloc (by simp) _;have u:Hid (Ap o (w.heap.size+1) M8 #[.slice none 0 0,.slice none 0 0,.int .i64 0]):=g▸Ap.new1 _ _ _ _;have n:Ap o w.heap.size 100 #[.pointer Q]:=g▸(Ap.new _ _ _).alloc _;have G:=qz (Adr Q o);have c0:=n.cell 0;have V:=n.lt;obtain⟨Y,O,B,C,D⟩:=info_parts Ajq;obtain⟨q,R,H,I,J⟩:=hid5 j O B C D;clear j O B C D;clear n;go_enter Tryz.func150,Tryz.ntmps150;go_wp2_with (fail);(with_reducible refine(G.out).mono ?_);rintro e L ⟨rfl,l⟩;have d:=r.out.trans (l.mono r.out.size);have a:=u.out.below l u.out.lt;clear c0 V g l
 cases p with
 |none=>
  cases K
  have F:Hid (E (.returned (.pointer (some ⟨w.heap.size+1,0,none⟩))) L):=by
   show E _ _;rw[<-q.out];exact⟨d,_,_,rfl,by omega,a,by simpa[Im]using Bk.nil _ _ _ _ _⟩
  clear d a;go_wp2;exact F.out
 |some b=>
  cases K
  have d1:=a.cell 1;have T:=a.frozen;have W:=a.lt;have v:=qz (a.alloc (.cells #[.pointer (some ⟨b,0,none⟩)] 98));have h:=qz (d.alloc d.size (.cells #[.pointer (some ⟨b,0,none⟩)] 98));have t:=qz (Ib (Ap.new L 98 #[.pointer (some ⟨b,0,none⟩)]));have s:=qz (show w.heap.size+1+1<=(L.alloc (.cells #[.pointer (some ⟨b,0,none⟩)] 98)).heap.size from by simp;omega);clear a d;go_wp2_with (at_builtin;apply Shut.out);unfold Shut;refine Lq rfl (.tmp 15) (.tmp 17) 226 rfl Tryz.underlying226 R.out H.out I.out J.out rfl (by omega) rfl (Bk.nil (fun _=>False) (w.heap.size+1+1) 98 1 _) s.out rfl (Z0 _ _ b) rfl t.out (by simp[maxLen]) (by simp) ?_;intro S w6 y m x;have c:Bk (fun _=>False) (w.heap.size+1+1) 98 1 w6 (Im [b]) S:=y;obtain⟨M,N,rfl⟩:=c.slice;have f:=v.out.grown m (by intro e;cases e);have z:=h.out.grown m h.out.size (fun k U=>by cases U);have X:=f.cell 1;have T:=f.frozen;have W:=f.lt;have A:=f.set_ 1 (.slice M (Im [b]).length N);have F:Hid (E (.returned (.pointer (some ⟨w.heap.size+1,0,none⟩))) (w6.setCell ⟨w.heap.size+1,1,none⟩ (.slice M (Im [b]).length N))):=by
   show E _ _;rw[<-q.out];exact⟨z.setCell (p:=⟨w.heap.size+1,1,none⟩) (by simp) _,_,_,rfl,by omega,A,c.keepP (by simp[World.setCell]) fun i e _=>Below.heap_setCell _ _ _ _ (by have:=(c.base i e).1;simp;omega)⟩
  clear y m x c f z A v h t s d1;go_wp2;exact F.out
theorem Bk.keepN {S0 T0:Nat->Prop} {b b':Nat} {t:TypeId} {s:Nat} {wr w':World} {l:List D} {V:Value} (h:Bk S0 b t s wr l V) (q:b'<=b) (a: ∀i,S0 i->T0 i) (m:wr.heap.size<=w'.heap.size) (f: ∀i,(S0 i\/V.ownBlock=some i)->i<wr.heap.size->w'.heap[i]? =wr.heap[i]?):Bk T0 b' t s w' l V:=by
 obtain⟨ns,e,j,k⟩:=h;refine⟨ns,⟨e.1, ?_⟩,j,fun d r n=>Ah.more (k d (by omega) (fun p c o=>(n p ⟨a _ c.1,c.2⟩ (by omega)).trans (World.cell?_of_block (f p.block (.inl c.1) o)))) m⟩;rcases e.2 with⟨rfl,h0⟩|⟨g,cap,cur,rfl,hbg,hg,h5⟩
 . exact .inl ⟨rfl,h0⟩
 . exact .inr ⟨g,cap,cur,rfl,by omega,(f g (.inr rfl) (Array.getElem?_eq_some_iff.1 hg).1).trans hg,h5⟩
theorem Aam (S:Nat->Prop) (C g m c ec:Nat) (ea:Option Addr) (o:Int) (d:List Cq) (b:Nat) (w:World) (hx:Ap w C M8 #[.slice ea 0 ec,.slice (some ⟨g,0,none⟩) (m+1) c,.int .i64 o]) (hc:m+1<=c) (hm:m<=1000000) (ho:0<=o/\o<=1000000000)
 (s0:w.cell? ⟨g,m,none⟩=some (.pointer (some ⟨b,0,none⟩))) (hn:Df S w (.leaf d) b) (hS: ¬S C) (h0:0<d.length) (hb:Af d<=100000000):
 Calls Tryz.prog 213 #[.pointer (some ⟨C,0,none⟩)] w fun e w'=>e=.returned (.tuple #[])/\KB (fun i=>i=C) w w'/\ ∃f,w.heap.size<=f/\Ap w' C M8 #[.slice (some ⟨f,0,none⟩) d.length d.length,.slice (some ⟨g,0,none⟩) m c,.int .i64 (o+1)]/\Bk (fun i=>w.heap.size<=i) w.heap.size 103 7 w' (dO d) (.slice (some ⟨f,0,none⟩) d.length d.length):=by
 obtain⟨PO,G⟩: ∃P:Ending->World->Prop,(fun e w'=>e=.returned (.tuple #[])/\KB (fun i=>i=C) w w'/\ ∃f,w.heap.size<=f/\Ap w' C M8 #[.slice (some ⟨f,0,none⟩) d.length d.length,.slice (some ⟨g,0,none⟩) m c,.int .i64 (o+1)]/\Bk (fun i=>w.heap.size<=i) w.heap.size 103 7 w' (dO d) (.slice (some ⟨f,0,none⟩) d.length d.length))=P:=⟨_,rfl⟩;rw[G];have lx:=hx.lt;have lg:g<w.heap.size:=World.block_lt_of_cell? w _ s0;have j:=Aa w (.cells #[.pointer (some ⟨C,0,none⟩)] 221);obtain⟨w1,L⟩: ∃w1,w.alloc (.cells #[.pointer (some ⟨C,0,none⟩)] 221)=w1:=⟨_,rfl⟩;have H:Ap w1 w.heap.size 221 #[.pointer (some ⟨C,0,none⟩)]:=L▸Ap.new _ _ _;rw[L]at j;have v:=hx.below j lx;have U:=(hn.below j);obtain⟨M,hM⟩: ∃M,m+1=M:=⟨_,rfl⟩;have y1:IntKind.i64.wrap ((M:Int) - 1)=(m:Int):=by
  rw[show(M:Int) - 1=(m:Int)from by omega];exact IntWalk.i64_in _ (by omega)
 have y2:(m:Int)<(M:Int):=by omega
 have y3:(0:Int)<=(m:Int):=by omega
 have y5:m<M:=by omega
 have d1:w1.cell? ⟨C,1,none⟩=some (.slice (some ⟨g,0,none⟩) M c):=hM▸v.cell 1;have e0:=(j.cell (p:=⟨g,m,none⟩) lg).trans s0;have x:=H.cell 0;have y6:IntKind.i64.wrap (o+1)=o+1:=IntWalk.i64_in _ (by omega);have D:=qz (Qx C g m c (.slice ea 0 ec) o w1.drew v.drew hc hm);have z:=qz v.drew;have y:=qz (U.below (Below.drew (Below.refl w1.heap.size w1)));have r:=qz H.drew;have HD:=qz (j.trans ((Below.drew (Below.refl _ w1)).mono j.size));have ac:=qz G;clear G;clear hx s0 hn v U H hM;go_enter Tryz.func213,Tryz.ntmps213;go_upto_region 1 with(fail);refine wp_region_held_drew (S:=fun Y:World=>Y.cell? ⟨w.heap.size,0,none⟩=some (.pointer (some ⟨C,0,none⟩))/\Y.cell? ⟨C,1,none⟩=some (.slice (some ⟨g,0,none⟩) M c)/\Y.cell? ⟨g,m,none⟩=some (.pointer (some ⟨b,0,none⟩))) (by kernel_rfl) ⟨x,d1,e0⟩ (fun a=> ?_);refine tkH 0 a ?_;refine tkH 1 a ?_;refine tkH 2 a ?_;refine tkH 3 a ?_;refine tkH 4 a ?_;refine tkH 5 a ?_;refine tkH 6 a ?_;refine tkH 7 a ?_;refine tkH 8 a ?_;refine tkH 9 a ?_;refine tkH 10 a ?_;refine tkH 11 a ?_;refine tkH 12 a ?_;refine wpAnyH_done (by kernel_rfl) ?_ _;clear a d1 e0 x;generalize w1.drew=wd at D z y r HD ⊢;clear L j;have x:=r.out.cell 0;go_wp2_with (fail);(with_reducible refine(D.out).mono ?_);rintro e Z ⟨rfl,rfl⟩;have k:=(z.out.set_ 1 (.slice (some ⟨g,0,none⟩) m c)).drew;have J:=(y.out.later (w':=wd.setCell ⟨C,1,none⟩ (.slice (some ⟨g,0,none⟩) m c)) (by simp[World.setCell]) fun i X _=>Below.heap_setCell _ _ _ _ (fun e=>hS (by have e2:i=C:=e;rw[<-e2];exact X))).below (Below.drew (Below.refl _ _));have l:=(r.out.far (p:=⟨C,1,none⟩) (by simp;omega) (.slice (some ⟨g,0,none⟩) m c)).drew;have I:KB (fun i=>i=C) w (wd.setCell ⟨C,1,none⟩ (.slice (some ⟨g,0,none⟩) m c)).drew:=((KB.of_below (S:=fun i=>i=C) HD.out).trans (KB.set (S:=fun i=>i=C) wd ⟨C,1,none⟩ rfl _) fun _ _ h=>h).trans (KB.of_below (S:=fun i=>i=C) (Below.drew (Below.refl _ _))) fun _ _ h=>h;generalize (wd.setCell ⟨C,1,none⟩ (.slice (some ⟨g,0,none⟩) m c)).drew=Z at k J l I ⊢;clear D z y r HD x;have x:=l.cell 0;have c2:=k.cell 2;have fz:=k.frozen;have ae:=k.lt;have ad:=l.lt;have V:=k.set_ 2 (.int .i64 (o+1));have B:=qz (J.later (w':=Z.setCell ⟨C,2,none⟩ (.int .i64 (o+1))) (by simp[World.setCell]) fun i X _=>Below.heap_setCell _ _ _ _ (fun e=>hS (by have e2:i=C:=e;rw[<-e2];exact X)));have s:=qz (l.far (p:=⟨C,2,none⟩) (by simp;omega) (.int .i64 (o+1)));have A:=qz (I.trans (KB.set (S:=fun i=>i=C) Z ⟨C,2,none⟩ rfl (.int .i64 (o+1))) fun _ _ h=>h);have E:=qz V;clear V;clear k J l I;go_upto_region 4 with(fail);generalize Z.setCell ⟨C,2,none⟩ (.int .i64 (o+1))=w3 at E B s A ⊢;clear x c2 fz ae ad;have F:=Ki B.out.now;rw[show Tf (.leaf d)=0 from by simp[Tf]]at F;have aa:=qz (Rb (B.out.below (Below.drew (Below.refl _ w3))).now h0 hb);have ab:=qz F;clear F;go_wp2_with (fail);(with_reducible refine(ab.out).mono ?_);rintro e w4 ⟨rfl,rfl⟩;go_upto_region 5 with(fail);have x:=s.out.cell 0;refine wp_region_held_drew (S:=fun Y:World=>Y.cell? ⟨w.heap.size,0,none⟩=some (.pointer (some ⟨C,0,none⟩))) (by kernel_rfl) x (fun a=> ?_);refine tkH 0 a ?_;refine tkH 1 a ?_;refine rd1 2 fun K N=> ?_;go_simp;(with_reducible refine(aa.out).mono ?_);rintro e w5 ⟨u,f,rfl,t⟩;have ah:w.heap.size<=w3.heap.size:=A.out.size;have q:=E.out.drew.below u E.out.drew.lt;have n:=s.out.drew.below u s.out.drew.lt;have R:=(A.out.trans (KB.of_below (S:=fun i=>i=C) (Below.drew (Below.refl w3.heap.size w3))) fun _ _ h=>h).trans (KB.of_below (S:=fun i=>i=C) u) fun _ _ h=>h;have af:=(t.base f rfl).1;refine N.out _ _ (n.cell 0) (fun a=> ?_);clear N K;have x0:=q.cell 0;have fz:=q.frozen;have ai:=q.lt;have ag:w3.drew.heap.size=w3.heap.size:=rfl;have W:=q.set_ 0 (.slice (some ⟨f,0,none⟩) d.length d.length);have T:=R.trans (KB.set (S:=fun i=>i=C) w5 ⟨C,0,none⟩ rfl (.slice (some ⟨f,0,none⟩) d.length d.length)) fun _ _ h=>h;have Q:=n.far (p:=⟨C,0,none⟩) (by simp;omega) (.slice (some ⟨f,0,none⟩) d.length d.length);have O:Bk (fun i=>w.heap.size<=i) w.heap.size 103 7 (w5.setCell ⟨C,0,none⟩ (.slice (some ⟨f,0,none⟩) d.length d.length)) (dO d) (.slice (some ⟨f,0,none⟩) d.length d.length):=
  Bk.keepN (t) (by omega) (fun i hi=>by omega) (by simp[World.setCell]) fun i X _=>Below.heap_setCell _ _ _ _ (by
   have h7:w3.heap.size<=i:=X.elim id fun e=>(t.base i e).1;simp;omega)
 have HP:Hid (PO (.returned (.tuple #[])) (w5.setCell ⟨C,0,none⟩ (.slice (some ⟨f,0,none⟩) d.length d.length))):=by
  show PO _ _;rw[<-ac.out];exact⟨rfl,T,f,by omega,W,O⟩
 have hq:=Q.cell 0;clear q n R W T Q O t u
 try simp only[Act.put,tk1,tk2,tk3,tk4,tk5,tk6]
 refine tkH 3 a ?_;refine tkH 4 a ?_;refine rd1 5 fun K N=> ?_;go_simp;refine N.out _ _ hq (fun a=> ?_);clear N K
 try simp only[Act.put,tk1,tk2,tk3,tk4,tk5,tk6]
 refine wpAnyH_done (by kernel_rfl) ?_ _;clear a;go_wp2;exact bodyPost_end (Lk rfl) rfl HP.out
theorem Nn {fn:Func} {t u:Tmp} {tmps:Array Value} {W:World} {R:Nat} {c a1 d e f g i j k l m n o p q:Value} (h:fn.results= #[.cell t Tch,.tmp u]) (x:tmps.getD t undef=.pointer (some ⟨R,0,none⟩)) (a:Ap W R Tch #[c,a1,d,e,f,g,i,j,k,l,m,n,o,p,q]):
 (results fn tmps).run Tryz.prog W=.ok (.tuple #[.agg #[c,a1,d,e,f,g,i,j,k,l,m,n,o,p,q],tmps.getD u undef]) W:=by
 have c0:=a.cell 0;have c1:=a.cell 1;have c2:=a.cell 2;have c3:=a.cell 3;have c4:=a.cell 4;have c5:=a.cell 5;have r:=a.cell 6;have s:=a.cell 7;have v:=a.cell 8;have w:=a.cell 9;have d0:=a.cell 10;have d1:=a.cell 11;have d2:=a.cell 12;have d3:=a.cell 13;have d4:=a.cell 14;clear a;have b:tmps[t]?.getD undef=.pointer (some ⟨R,0,none⟩):=by simpa using x
 simp[results,h,b,go_sem,c0,c1,c2,c3,c4,c5,r,s,v,w,d0,d1,d2,d3,d4]
theorem Za {w:World} {R:Nat} {t:TypeId} {cs:Array Value} (h:Ap w R t cs) {vs:List Value} (c:vs.length=cs.size):Ap (A4 w R 0 vs) R t vs.toArray:=by
 have a:=Lm vs (o:=0) h;have e:R6 cs 0 vs=vs.toArray:=by
  refine Array.ext_getElem? fun i=> ?_;rw[Pg _ _ _ _ (by omega)];by_cases b:i<vs.length
  . rw[if_pos ⟨by omega,by omega⟩,Nat.sub_zero];simp
  . rw[if_neg (by omega),Array.getElem?_eq_none (by omega),Array.getElem?_eq_none (by simp;omega)]
 rw[e]at a;exact a
abbrev Qn:Array Value:= #[.string ⟨#[]⟩,.bool false,.int .i64 0,.bool false,.int .i64 0,.string ⟨#[]⟩,.slice none 0 0,.slice none 0 0,.bool false,.int .i64 0,.bool false,.int .i64 0,.string ⟨#[]⟩,.slice none 0 0,.slice none 0 0]
theorem Xd (r k2:ByteArray) (x y:Val) (U a1 V X Y Z b0 b1 b2 b3 b4 b5:Value) (w:World) (hX:Ag w w.heap.size (dV x) [U,a1,V,X,Y,Z]) (hY:Ag w w.heap.size (dV y) [b0,b1,b2,b3,b4,b5]) (ac:x.bulk<=100000000) (ad:y.bulk<=100000000):
 Calls Tryz.prog 217 #[.agg #[.string r,U,a1,V,X,Y,Z],.agg #[.string k2,b0,b1,b2,b3,b4,b5]] w fun e w'=>Below w.heap.size w w'/\e=.returned (if Fs x y then .tuple #[.agg Qn,.bool false]else .tuple #[.agg #[.string r,.bool true,U,a1,V,X,Y,Z,.bool true,b0,b1,b2,b3,b4,b5],.bool true]):=by
 obtain⟨PO,N⟩: ∃P:Ending->World->Prop,(fun e w'=>Below w.heap.size w w'/\e=.returned (if Fs x y then .tuple #[.agg Qn,.bool false]else .tuple #[.agg #[.string r,.bool true,U,a1,V,X,Y,Z,.bool true,b0,b1,b2,b3,b4,b5],.bool true]))=P:=⟨_,rfl⟩;rw[N];have hC:=fun(W:World) (M:Below w.heap.size w W)=>Abn x y [U,a1,V,X,Y,Z] [b0,b1,b2,b3,b4,b5] W (Be _ _ ((hX.below M).more M.size)) (Be _ _ ((hY.below M).more M.size)) ac ad;obtain⟨z,b',E,G,A,D,C,F,on,oc,rfl,rfl,rfl,rfl,rfl,rfl⟩:=Qj hX;obtain⟨f,d,j,n,g,i,h,k,m,l,rfl,rfl,rfl,rfl,rfl,rfl⟩:=Qj hY;obtain⟨Q,u⟩: ∃Q,((w.alloc (.cells #[.string r,.int .i64 z,.bool b',.int .i64 E,.string G,.slice A D C,.slice F on oc] 103)).alloc (.cells #[.string k2,.int .i64 f,.bool d,.int .i64 j,.string n,.slice g i h,.slice k m l] 103)).alloc (.cells Qn Tch)=Q:=⟨_,rfl⟩;have O:Below w.heap.size w Q:=u▸(D3 _ _ _).alloc (by simp;omega) _;have p:Ap Q w.heap.size 103 #[.string r,.int .i64 z,.bool b',.int .i64 E,.string G,.slice A D C,.slice F on oc]:=u▸((Ap.new _ _ _).alloc _).alloc _;have q:Ap Q (w.heap.size+1) 103 #[.string k2,.int .i64 f,.bool d,.int .i64 j,.string n,.slice g i h,.slice k m l]:=u▸(Ap.new1 _ _ _ _).alloc _;have aa:Ap Q (w.heap.size+1+1) Tch Qn:=by
  have:=Ap.new1 (w.alloc (.cells #[.string r,.int .i64 z,.bool b',.int .i64 E,.string G,.slice A D C,.slice F on oc] 103)) (.cells #[.string k2,.int .i64 f,.bool d,.int .i64 j,.string n,.slice g i h,.slice k m l] 103) Tch Qn
  rwa [World.size_alloc,u]at this
 have R:=qz (hC Q O);have m1:=p.cell 1;have n1:=q.cell 1;have m2:=p.cell 2;have n2:=q.cell 2;have m3:=p.cell 3;have n3:=q.cell 3;have m4:=p.cell 4;have n4:=q.cell 4;have m5:=p.cell 5;have n5:=q.cell 5;have m6:=p.cell 6;have n6:=q.cell 6;have lm:=p.lt;have ae:=q.lt;obtain⟨T,I,J,K,S⟩:=hid5 O p q aa N;clear O p q aa N;clear hC hX hY;go_enter Tryz.func217,Tryz.ntmps217;go_wp2_with (fail);(with_reducible refine(R.out).mono ?_);clear m1 n1 m2 n2 m3 n3 m4 n4 m5 n5 m6 n6 lm ae;rintro e w4 ⟨B,rfl,M,s⟩;have ab:B=Fs x y:=Bool.eq_iff_iff.2 M;subst ab;have H:=T.out.trans (s.mono T.out.size);have b:=I.out.below s I.out.lt;have c:=J.out.below s J.out.lt;have a:=K.out.below s K.out.lt;obtain⟨p0,p1,p2,p3,p4,p5,p6⟩:w4.cell? ⟨w.heap.size,0,none⟩=some (.string r)/\w4.cell? ⟨w.heap.size,1,none⟩=some (.int .i64 z)/\w4.cell? ⟨w.heap.size,2,none⟩=some (.bool b')/\w4.cell? ⟨w.heap.size,3,none⟩=some (.int .i64 E)/\w4.cell? ⟨w.heap.size,4,none⟩=some (.string G)/\w4.cell? ⟨w.heap.size,5,none⟩=some (.slice A D C)/\w4.cell? ⟨w.heap.size,6,none⟩=some (.slice F on oc):=⟨b.cell 0,b.cell 1,b.cell 2,b.cell 3,b.cell 4,b.cell 5,b.cell 6⟩;obtain⟨q1,q2,q3,q4,q5,q6⟩:w4.cell? ⟨w.heap.size+1,1,none⟩=some (.int .i64 f)/\w4.cell? ⟨w.heap.size+1,2,none⟩=some (.bool d)/\w4.cell? ⟨w.heap.size+1,3,none⟩=some (.int .i64 j)/\w4.cell? ⟨w.heap.size+1,4,none⟩=some (.string n)/\w4.cell? ⟨w.heap.size+1,5,none⟩=some (.slice g i h)/\w4.cell? ⟨w.heap.size+1,6,none⟩=some (.slice k m l):=⟨c.cell 1,c.cell 2,c.cell 3,c.cell 4,c.cell 5,c.cell 6⟩;have r0:=a.cell 0;have r1:=a.cell 1;have r2:=a.cell 2;have r3:=a.cell 3;have r4:=a.cell 4;have r5:=a.cell 5;have r6:=a.cell 6;have r7:=a.cell 7;have r8:=a.cell 8;have r9:=a.cell 9;have s0:=a.cell 10;have s1:=a.cell 11;have s2:=a.cell 12;have s3:=a.cell 13;have s4:=a.cell 14;have fz:=a.frozen;have lx:=a.lt;have l1:=b.lt;have l2:=c.lt;clear u M R I J K
 cases hs:Fs x y with
 |true=>
  have hm:=Za a (vs:= [.string ⟨#[]⟩,.bool false,.int .i64 0,.bool false,.int .i64 0,.string ⟨#[]⟩,.slice none 0 0,.slice none 0 0,.bool false,.int .i64 0,.bool false,.int .i64 0,.string ⟨#[]⟩,.slice none 0 0,.slice none 0 0]) rfl;have v:Ap ((((((((((((((((w4).setCell ⟨w.heap.size+1+1,0,none⟩ (.string ⟨#[]⟩)).setCell ⟨w.heap.size+1+1,1,none⟩ (.bool false)).setCell ⟨w.heap.size+1+1,2,none⟩ (.int .i64 0)).setCell ⟨w.heap.size+1+1,3,none⟩ (.bool false)).setCell ⟨w.heap.size+1+1,4,none⟩ (.int .i64 0)).setCell ⟨w.heap.size+1+1,5,none⟩ (.string ⟨#[]⟩)).setCell ⟨w.heap.size+1+1,6,none⟩ (.slice none 0 0)).setCell ⟨w.heap.size+1+1,7,none⟩ (.slice none 0 0)).setCell ⟨w.heap.size+1+1,8,none⟩ (.bool false)).setCell ⟨w.heap.size+1+1,9,none⟩ (.int .i64 0)).setCell ⟨w.heap.size+1+1,10,none⟩ (.bool false)).setCell ⟨w.heap.size+1+1,11,none⟩ (.int .i64 0)).setCell ⟨w.heap.size+1+1,12,none⟩ (.string ⟨#[]⟩)).setCell ⟨w.heap.size+1+1,13,none⟩ (.slice none 0 0)).setCell ⟨w.heap.size+1+1,14,none⟩ (.slice none 0 0)) (w.heap.size+1+1) Tch #[.string ⟨#[]⟩,.bool false,.int .i64 0,.bool false,.int .i64 0,.string ⟨#[]⟩,.slice none 0 0,.slice none 0 0,.bool false,.int .i64 0,.bool false,.int .i64 0,.string ⟨#[]⟩,.slice none 0 0,.slice none 0 0]:=hm;have t:Below w.heap.size w ((((((((((((((((w4).setCell ⟨w.heap.size+1+1,0,none⟩ (.string ⟨#[]⟩)).setCell ⟨w.heap.size+1+1,1,none⟩ (.bool false)).setCell ⟨w.heap.size+1+1,2,none⟩ (.int .i64 0)).setCell ⟨w.heap.size+1+1,3,none⟩ (.bool false)).setCell ⟨w.heap.size+1+1,4,none⟩ (.int .i64 0)).setCell ⟨w.heap.size+1+1,5,none⟩ (.string ⟨#[]⟩)).setCell ⟨w.heap.size+1+1,6,none⟩ (.slice none 0 0)).setCell ⟨w.heap.size+1+1,7,none⟩ (.slice none 0 0)).setCell ⟨w.heap.size+1+1,8,none⟩ (.bool false)).setCell ⟨w.heap.size+1+1,9,none⟩ (.int .i64 0)).setCell ⟨w.heap.size+1+1,10,none⟩ (.bool false)).setCell ⟨w.heap.size+1+1,11,none⟩ (.int .i64 0)).setCell ⟨w.heap.size+1+1,12,none⟩ (.string ⟨#[]⟩)).setCell ⟨w.heap.size+1+1,13,none⟩ (.slice none 0 0)).setCell ⟨w.heap.size+1+1,14,none⟩ (.slice none 0 0)):=As [.string ⟨#[]⟩,.bool false,.int .i64 0,.bool false,.int .i64 0,.string ⟨#[]⟩,.slice none 0 0,.slice none 0 0,.bool false,.int .i64 0,.bool false,.int .i64 0,.string ⟨#[]⟩,.slice none 0 0,.slice none 0 0] H (by omega) (o:=0);have HP:Hid (PO (.returned (.tuple #[.agg #[.string ⟨#[]⟩,.bool false,.int .i64 0,.bool false,.int .i64 0,.string ⟨#[]⟩,.slice none 0 0,.slice none 0 0,.bool false,.int .i64 0,.bool false,.int .i64 0,.string ⟨#[]⟩,.slice none 0 0,.slice none 0 0],.bool false])) ((((((((((((((((w4).setCell ⟨w.heap.size+1+1,0,none⟩ (.string ⟨#[]⟩)).setCell ⟨w.heap.size+1+1,1,none⟩ (.bool false)).setCell ⟨w.heap.size+1+1,2,none⟩ (.int .i64 0)).setCell ⟨w.heap.size+1+1,3,none⟩ (.bool false)).setCell ⟨w.heap.size+1+1,4,none⟩ (.int .i64 0)).setCell ⟨w.heap.size+1+1,5,none⟩ (.string ⟨#[]⟩)).setCell ⟨w.heap.size+1+1,6,none⟩ (.slice none 0 0)).setCell ⟨w.heap.size+1+1,7,none⟩ (.slice none 0 0)).setCell ⟨w.heap.size+1+1,8,none⟩ (.bool false)).setCell ⟨w.heap.size+1+1,9,none⟩ (.int .i64 0)).setCell ⟨w.heap.size+1+1,10,none⟩ (.bool false)).setCell ⟨w.heap.size+1+1,11,none⟩ (.int .i64 0)).setCell ⟨w.heap.size+1+1,12,none⟩ (.string ⟨#[]⟩)).setCell ⟨w.heap.size+1+1,13,none⟩ (.slice none 0 0)).setCell ⟨w.heap.size+1+1,14,none⟩ (.slice none 0 0))):=by
   show PO _ _;rw[<-S.out];exact⟨t,by rw[hs];rfl⟩
  have L:=qz v;clear v;clear hm t a b c H s;go_wp2;exact bodyPost_ret (Nn rfl rfl L.out) rfl HP.out
 |false=>
  have hm:=Za a (vs:= [.string r,.bool true,.int .i64 z,.bool b',.int .i64 E,.string G,.slice A D C,.slice F on oc,.bool true,.int .i64 f,.bool d,.int .i64 j,.string n,.slice g i h,.slice k m l]) rfl;have v:Ap ((((((((((((((((w4).setCell ⟨w.heap.size+1+1,0,none⟩ (.string r)).setCell ⟨w.heap.size+1+1,1,none⟩ (.bool true)).setCell ⟨w.heap.size+1+1,2,none⟩ (.int .i64 z)).setCell ⟨w.heap.size+1+1,3,none⟩ (.bool b')).setCell ⟨w.heap.size+1+1,4,none⟩ (.int .i64 E)).setCell ⟨w.heap.size+1+1,5,none⟩ (.string G)).setCell ⟨w.heap.size+1+1,6,none⟩ (.slice A D C)).setCell ⟨w.heap.size+1+1,7,none⟩ (.slice F on oc)).setCell ⟨w.heap.size+1+1,8,none⟩ (.bool true)).setCell ⟨w.heap.size+1+1,9,none⟩ (.int .i64 f)).setCell ⟨w.heap.size+1+1,10,none⟩ (.bool d)).setCell ⟨w.heap.size+1+1,11,none⟩ (.int .i64 j)).setCell ⟨w.heap.size+1+1,12,none⟩ (.string n)).setCell ⟨w.heap.size+1+1,13,none⟩ (.slice g i h)).setCell ⟨w.heap.size+1+1,14,none⟩ (.slice k m l)) (w.heap.size+1+1) Tch #[.string r,.bool true,.int .i64 z,.bool b',.int .i64 E,.string G,.slice A D C,.slice F on oc,.bool true,.int .i64 f,.bool d,.int .i64 j,.string n,.slice g i h,.slice k m l]:=hm;have t:Below w.heap.size w ((((((((((((((((w4).setCell ⟨w.heap.size+1+1,0,none⟩ (.string r)).setCell ⟨w.heap.size+1+1,1,none⟩ (.bool true)).setCell ⟨w.heap.size+1+1,2,none⟩ (.int .i64 z)).setCell ⟨w.heap.size+1+1,3,none⟩ (.bool b')).setCell ⟨w.heap.size+1+1,4,none⟩ (.int .i64 E)).setCell ⟨w.heap.size+1+1,5,none⟩ (.string G)).setCell ⟨w.heap.size+1+1,6,none⟩ (.slice A D C)).setCell ⟨w.heap.size+1+1,7,none⟩ (.slice F on oc)).setCell ⟨w.heap.size+1+1,8,none⟩ (.bool true)).setCell ⟨w.heap.size+1+1,9,none⟩ (.int .i64 f)).setCell ⟨w.heap.size+1+1,10,none⟩ (.bool d)).setCell ⟨w.heap.size+1+1,11,none⟩ (.int .i64 j)).setCell ⟨w.heap.size+1+1,12,none⟩ (.string n)).setCell ⟨w.heap.size+1+1,13,none⟩ (.slice g i h)).setCell ⟨w.heap.size+1+1,14,none⟩ (.slice k m l)):=As [.string r,.bool true,.int .i64 z,.bool b',.int .i64 E,.string G,.slice A D C,.slice F on oc,.bool true,.int .i64 f,.bool d,.int .i64 j,.string n,.slice g i h,.slice k m l] H (by omega) (o:=0);have HP:Hid (PO (.returned (.tuple #[.agg #[.string r,.bool true,.int .i64 z,.bool b',.int .i64 E,.string G,.slice A D C,.slice F on oc,.bool true,.int .i64 f,.bool d,.int .i64 j,.string n,.slice g i h,.slice k m l],.bool true])) ((((((((((((((((w4).setCell ⟨w.heap.size+1+1,0,none⟩ (.string r)).setCell ⟨w.heap.size+1+1,1,none⟩ (.bool true)).setCell ⟨w.heap.size+1+1,2,none⟩ (.int .i64 z)).setCell ⟨w.heap.size+1+1,3,none⟩ (.bool b')).setCell ⟨w.heap.size+1+1,4,none⟩ (.int .i64 E)).setCell ⟨w.heap.size+1+1,5,none⟩ (.string G)).setCell ⟨w.heap.size+1+1,6,none⟩ (.slice A D C)).setCell ⟨w.heap.size+1+1,7,none⟩ (.slice F on oc)).setCell ⟨w.heap.size+1+1,8,none⟩ (.bool true)).setCell ⟨w.heap.size+1+1,9,none⟩ (.int .i64 f)).setCell ⟨w.heap.size+1+1,10,none⟩ (.bool d)).setCell ⟨w.heap.size+1+1,11,none⟩ (.int .i64 j)).setCell ⟨w.heap.size+1+1,12,none⟩ (.string n)).setCell ⟨w.heap.size+1+1,13,none⟩ (.slice g i h)).setCell ⟨w.heap.size+1+1,14,none⟩ (.slice k m l))):=by
   show PO _ _;rw[<-S.out];exact⟨t,by rw[hs];rfl⟩
  have L:=qz v;clear v;clear hm t a b c H s;go_wp2;exact bodyPost_ret (Nn rfl rfl L.out) rfl HP.out
theorem Lz {B:Nat} {a w:World} (h:Below B a w) (n:Nat):Below B a (w.drewN n):=⟨h.os,h.tape,h.output,h.size,h.block⟩
theorem Age {d:List Mx} {q:Nat} (i:1<=q) (c:q<d.length) (e:(d[q]!).1=(d[q - 1]!).1): ¬((d.map Nb).map (·.1)).Nodup:=by
 intro b;rw[List.map_map]at b;have a:=List.pairwise_iff_getElem.1 b (q - 1) q (by simp;omega) (by simpa using c) (by omega);simp only[List.getElem_map,Function.comp,Nb]at a;have h:q - 1<d.length:=by omega
 apply a;have f:d[q]! =d[q]:=by simp[c]
 have g:d[q - 1]! =d[q - 1]:=by simp[h]
 rw[<-f,<-g];exact e.symm
def Aho (w:World) (o:List (ByteArray×Val)) (e:Ending) (w':World):Prop:=Below w.heap.size w w'/\
 ((Bg o []=none/\e=.returned (.tuple #[.agg Al,.int .i64 8]))\/
  ∃o' cs,Bg o []=some o'/\e=.returned (.tuple #[.agg (cs:List Value).toArray,.int .i64 0])/\cs.length=6/\A7 w.heap.size w' (dV (.mk 6 false 0 ⟨#[]⟩ [] o')) cs)
theorem Ad6 (o:List (ByteArray×Val)) (a:Option Addr) (n c:Nat) (w:World) (h:Ag w w.heap.size (.row 7 (dO o)) [.slice a n c]) (hb:Af o<=90000000):
 Calls Tryz.prog 51 #[.slice a n c] w (Aho w o):=by
 have bf:=B5 o;have hn:=h.row_len;rw[Cb]at hn;subst hn;obtain⟨w0,N⟩: ∃w0,w.alloc (.cells Al 42)=w0:=⟨_,rfl⟩;have ad:Below w.heap.size w w0:=N▸(Below.refl _ _).alloc (Nat.le_refl _) _;have Z:=qz (show Ap w0 w.heap.size 42 Al from by rw[<-N];exact Ap.new _ _ _);have ap:w0.heap.size=w.heap.size+1:=by rw[<-N];simp
 have av:=qz (Zh o a o.length c w0 (h.later ad) (by omega));have aq:w.heap.size<w0.heap.size:=by omega
 obtain⟨ab,ai⟩:=hid2 ap ad;clear ad;clear h ap;subst N;go_enter Tryz.func51,Tryz.ntmps51;go_wp2_with (fail);(with_reducible refine av.out.mono ?_);rintro e w1 ⟨V,ns,rfl,G,hA,l⟩;obtain⟨d,af,rfl,an⟩:=Anv hA;obtain⟨a1,c1,rfl,D⟩:=Ajk G;have z:=qz (show d.length=o.length from by rw[<-af,List.length_map]);have a2:=qz (Z.out.below l Z.out.lt);have bi:=l.size;have aj:=qz (ai.out.trans (l.mono (Nat.le_of_lt aq)));obtain⟨bb,HA,al,ay,A,ax⟩:=hid6 G hA af an D l;clear G hA af an D l;clear ai Z;have I:Below w1.heap.size w1 (w1.alloc (.cells #[.slice a1 o.length c1] 40)):=(Below.refl _ _).alloc (Nat.le_refl _) _;have H:Calls Tryz.prog 98 #[.iface 40 (.slice a1 o.length c1),.func (.func 99) #[] #[.pointer (some ⟨w1.heap.size,0,none⟩)]] (w1.alloc (.cells #[.slice a1 o.length c1] 40)) (Aln (w1.alloc (.cells #[.slice a1 o.length c1] 40)) a1 d):=by
  have a3:(w1.alloc (.cells #[.slice a1 o.length c1] 40)).cell? ⟨w1.heap.size,0,none⟩=some (.slice a1 d.length c1):=by
   rw[z.out];exact(Ap.new w1 40 #[.slice a1 o.length c1]).cell 0
  have:=Ag0 a1 c1 w1.heap.size d (by have:=z.out;omega) (w1.alloc (.cells #[.slice a1 o.length c1] 40)) ?_ a3 (by simp)
  . rwa [z.out]at this
  . rcases A.out with⟨f1,f2,_⟩|⟨g,f1,f2,f3,f4,f5,f6⟩
    . exact .inl ⟨by rw[z.out];exact f1,f2⟩
    . refine .inr ⟨g,f1,by simp;omega,by omega,fun i hi j hj=> ?_,fun j=> ?_⟩
      . rw[I.cell (p:=⟨g,i*7+j,none⟩) f3];exact f5 _ _ (Ta d i j hi hj)
      . rw[I.frozen (p:=⟨g,j,none⟩) f3];exact f6 j
 obtain⟨B,X⟩:=hid2 H I;clear H I;go_wp2_with (fail);(with_reducible refine B.out.mono ?_);rintro e f ⟨rfl,k,s1,s2,s3,s4,s5,s6,s7,s8,s9⟩;have E: ∀g,a1=some ⟨g,0,none⟩->w.heap.size+1<=g/\g<w1.heap.size:=by
  intro g e;rcases A.out with⟨_,f2,_⟩|⟨g',f1,f2,f3,_⟩
  . rw[f2]at e;cases e
  . rw[f1]at e;simp only[Option.some.injEq,Addr.mk.injEq,and_true]at e;have:=ab.out;omega
 have q1:f.cell? ⟨w1.heap.size,0,none⟩=some (.slice a1 o.length c1):=by
  rw[World.cell?_of_block (s5 w1.heap.size (by simp) (fun g e=>by have:=E g e;omega))];exact(Ap.new w1 40 #[.slice a1 o.length c1]).cell 0
 have bd:w.heap.size+1<=w1.heap.size:=by have:=ab.out;omega
 have q2:Ap f w.heap.size 42 Al:=by
  have T:=s5 w.heap.size (by simp;omega) (fun g e=>by have:=E g e;omega);exact T.trans (a2.out.below X.out (by omega))
 have q4:Below (w.alloc (.cells Al 42)).heap.size (w.alloc (.cells Al 42)) f:=by
  have h0:=ax.out;have hs:=ab.out;refine⟨s7.trans h0.os,s8.trans h0.tape,s9.trans h0.output,by simp at s6;omega,fun i hi=> ?_⟩;rw[s5 i (by simp;omega) (fun g e=>by have:=E g e;omega),X.out.block i (by omega)];exact h0.block i hi
 have q3:Below w.heap.size w f:=by
  have h0:=aj.out;refine⟨s7.trans h0.os,s8.trans h0.tape,s9.trans h0.output,by simp at s6;omega,fun i hi=> ?_⟩;rw[s5 i (by simp;omega) (fun g e=>by have:=E g e;omega),X.out.block i (by omega)];exact h0.block i hi
 rw[z.out]at s1 s3 s4;have bc:w1.heap.size+1<=f.heap.size:=by simpa using s6
 have bg:o.length<9000000000:=by omega
 have H0:Hid (∀t,1<=t->t<1->(k[t]!).1≠(k[t - 1]!).1):=fun t T h2=>absurd h2 (by omega);obtain⟨S1,S2,S3,S4,Q2,Q3,Q4⟩:=hid7 s1 s2 s3 s4 q2 q3 q4;clear s1 s2 s3 s4 q2 q3 q4;clear s5 s6 s7 s8 s9 B E;go_wp2_with (fail);go_loopw [5] (fun i wx=> ∃q m:Nat,i=.int .i64 q/\1<=q/\(q<=o.length\/q=1)/\Hid (∀t,1<=t->t<q->(k[t]!).1≠(k[t - 1]!).1)/\wx=f.drewN m) (fun i _=>o.length - (intOf i).toNat)
 case atStart=>exact⟨1,0,rfl,Nat.le_refl _,.inr rfl,H0,rfl⟩
 case round=>
  obtain⟨q,m,rfl,a9,bh,J,rfl⟩:=hrel;clear H0;by_cases ao:q<o.length
  . obtain⟨g,rfl,hg,hc⟩:=S4.out.resolve_left (by omega);have cq:f.cell? ⟨g,q*7,none⟩=some (.string (k[q]!).1):=by
     have:=hc q ao 0 (by omega)
     rwa [Nat.add_zero,S7]at this
    have cp:f.cell? ⟨g,(q - 1)*7,none⟩=some (.string (k[q - 1]!).1):=by
     have:=hc (q - 1) (by omega) 0 (by omega)
     rwa [Nat.add_zero,S7]at this
    obtain⟨K,hK⟩: ∃K,(k[q]!).1=K:=⟨_,rfl⟩;obtain⟨L,hL⟩: ∃L,(k[q - 1]!).1=L:=⟨_,rfl⟩;rw[hK]at cq;rw[hL]at cp;obtain⟨HK,HL⟩:=hid2 hK hL;clear hK hL;clear hc;have x1:IntKind.i64.wrap ((q:Int) - 1)=(q:Int) - 1:=IntWalk.i64_in _ (by omega);have y1:(1:Int)<=(q:Int):=by omega
    have y2:(q:Int)<(o.length:Int):=by omega
    have y3:(q:Int)<(o.length:Int)+1:=by omega
    have y4:q<o.length+1:=by omega
    have y5:(q:Int) - 1<(o.length:Int):=by omega
    have y6:0<=(q:Int) - 1:=by omega
    have x2:((q:Int) - 1).toNat=q - 1:=by omega
    by_cases y:K.toList=L.toList
    . have l:(K.toList==L.toList)=true:=by simpa using y
      have Y:=qz y;clear y;go_wp2_with (fail);go_quiet (fail);clear x1 x2;obtain⟨z0,z1,z2,z3,z4,z5⟩:=At Q2.out;have zf:=fun i=>Q2.out.frozen i;go_wp2;refine bodyPost_ret (v:=.tuple #[.agg Al,.int .i64 8]) (by simp[results,Tryz.results51,go_sem,z0,z1,z2,z3,z4,z5]) rfl ⟨?_,.inl ⟨?_,rfl⟩⟩
      . repeat (refine Below.setCell ?_ (by simp) _)
        first|exact Lz Q3.out _|exact Lz (Lz Q3.out _) _
      . have M:=(S2.out.map Nb).trans (by rw[al.out]);exact X4 M (Age a9 (by rw[S1.out];exact ao) (by rw[HK.out,HL.out];exact toList_inj Y.out))
    . have l:(K.toList==L.toList)=false:=by simpa using y
      have Y:=qz y;clear y;go_wp2_with (fail);go_quiet (fail);clear x1 x2;have a0:Hid (∀t,1<=t->t<q+1->(k[t]!).1≠(k[t - 1]!).1):=by
       intro t T h2;by_cases ht:t=q
       . subst ht;rw[HK.out,HL.out];intro e;exact Y.out (by rw[e])
       . exact J.out t T (by omega)
      clear J;go_wp2;go_roundw
      case rel=>exact⟨q+1,_,by go_num,by omega,.inl (by omega),a0,by first|rfl|exact World.drewN_drewN _ _ _⟩
      case measure=>simp only[intOf];omega
  . have U:Dg (k.map Nb):=Ama (fun i j T h2=>S3.out i j T (by have:=S1.out;omega)) (fun t T h2=>J.out t T (by have:=S1.out;omega));have M:(k.map Nb).Perm o:=(S2.out.map Nb).trans (by rw[al.out]);have s:=Nj M U;have F:(k.map Nb).length=o.length:=by rw[List.length_map,S1.out]
    have ae:=L8 s;simp only[Af,Nat.zero_add]at ae;have ac:Below (w.alloc (.cells Al 42)).heap.size (w.alloc (.cells Al 42)) (f.drewN m):=Lz Q4.out m;have hV:Ab (f.drewN m) (f.drewN m).heap.size (.mk 6 false 0 ⟨#[]⟩ [] (k.map Nb)) [.int .i64 6,.bool false,.int .i64 0,.string ⟨#[]⟩,.slice none 0 0,.slice a1 o.length c1]:=by
     simp only[Ab];refine⟨none,0,a1,c1,by rw[F];rfl,.inl trivial, ?_⟩;rcases S4.out with h0|⟨g,rfl,hg,hc⟩
     . exact .inl (List.eq_nil_of_length_eq_zero (by rw[F];exact h0))
     . refine .inr ⟨g,0,rfl,hg,Ah.toO (fun m _=>Be m.2) (Anq (d:=k) (fun x hx=> ?_)) (fun j u hj=> ?_)⟩
       . exact((ay.out x (S2.out.mem_iff.1 hx)).below ac).more ac.size
       . rw[Nat.zero_add];exact Acm (w:=f) (fun i hi j hj=>hc i (by have:=S1.out;omega) j hj) j u hj
    have aa:=Iv _ _ _ hV (by simp only[Val.bulk,A5,ByteArray.size];rw[ae];simp;omega);have am:Hid (w.heap.size<f.heap.size):=Q2.out.lt;obtain⟨z0,z1,z2,z3,z4,z5⟩:=At Q2.out;have zf:=fun i=>Q2.out.frozen i;obtain⟨O,hO⟩: ∃O,k.map Nb=O:=⟨_,rfl⟩;rw[hO]at aa s;obtain⟨aw,ah⟩:=hid2 aa s;clear aa s;clear J U M F ae ac hV hO;go_wp2_with (fail);(with_reducible refine aw.out.mono ?_);rintro e w4 ⟨⟨cs,rfl,a8,ag⟩,C⟩;obtain⟨P,Q,R,S,rfl⟩:=Dc ag;obtain⟨r,ar⟩:=Xc C;have b:w.heap.size<f.heap.size:=am.out;have au:Hid (Below w.heap.size w w4):=(Lz Q3.out m).trans (C.mono Q3.out.size);have ba:Hid (f.heap.size<=w4.heap.size):=C.size;have k0:w4.cell? ⟨w.heap.size,0,none⟩=some (.int .i64 0):=(r w.heap.size 0 b).trans z0;have k1:w4.cell? ⟨w.heap.size,1,none⟩=some (.bool false):=(r w.heap.size 1 b).trans z1;have k2:w4.cell? ⟨w.heap.size,2,none⟩=some (.int .i64 0):=(r w.heap.size 2 b).trans z2;have k3:w4.cell? ⟨w.heap.size,3,none⟩=some (.string ⟨#[]⟩):=(r w.heap.size 3 b).trans z3;have k4:w4.cell? ⟨w.heap.size,4,none⟩=some (.slice none 0 0):=(r w.heap.size 4 b).trans z4;have k5:w4.cell? ⟨w.heap.size,5,none⟩=some (.slice none 0 0):=(r w.heap.size 5 b).trans z5;have kf: ∀i,w4.frozen? ⟨w.heap.size,i,none⟩=false:=fun i=>(ar w.heap.size i b).trans (zf i);have ak:Hid (w4.heap[w.heap.size]? =some (.cells Al 42 (0,0))):=(C.block _ b).trans Q2.out;have az:=qz ag;clear ag;clear C r ar a8 z0 z1 z2 z3 z4 z5 zf;go_wp2;obtain⟨W,hW⟩: ∃W,((((((w4.setCell ⟨w.heap.size,0,none⟩ (.int .i64 6)).setCell ⟨w.heap.size,1,none⟩ (.bool false)).setCell ⟨w.heap.size,2,none⟩ (.int .i64 0)).setCell ⟨w.heap.size,3,none⟩ (.string ⟨#[]⟩)).setCell ⟨w.heap.size,4,none⟩ (.slice P 0 Q)).setCell ⟨w.heap.size,5,none⟩ (.slice R O.length S))=W:=⟨_,rfl⟩;have a6: ∀c,c≠w.heap.size->W.heap[c]? =w4.heap[c]? :=by
     intro c hc;rw[<-hW];simp only[D8 _ _ _ _ hc]
    have be:W.heap.size=w4.heap.size:=by rw[<-hW];simp[World.setCell]
    have a5:Below w.heap.size w W:=by
     rw[<-hW];exact(((((au.out.setCell (by simp) _).setCell (by simp) _).setCell (by simp) _).setCell (by simp) _).setCell (by simp) _).setCell (by simp) _
    have a7:Ap W w.heap.size 42 #[.int .i64 6,.bool false,.int .i64 0,.string ⟨#[]⟩,.slice P 0 Q,.slice R O.length S]:=by
     have q3:Ap w4 w.heap.size 42 Al:=ak.out;rw[<-hW];exact(((((q3.set_ 0 _).set_ 1 _).set_ 2 _).set_ 3 _).set_ 4 _).set_ 5 _
    obtain⟨s0,s1,s2,s3,s4,s5⟩:=At a7;have a4:A7 w.heap.size W (dV (.mk 6 false 0 ⟨#[]⟩ [] O)) [.int .i64 6,.bool false,.int .i64 0,.string ⟨#[]⟩,.slice P 0 Q,.slice R O.length S]:=
     az.out.keep (by show w.heap.size<=f.heap.size;omega) (by omega) (fun p p1 p2=>World.cell?_of_block (a6 _ (by have bj:f.heap.size<=p.block:=p1;omega)))
    rw[hW];exact bodyPost_ret (v:=.tuple #[.agg #[.int .i64 6,.bool false,.int .i64 0,.string ⟨#[]⟩,.slice P 0 Q,.slice R O.length S],.int .i64 0]) (by simp[results,Tryz.results51,go_sem,s0,s1,s2,s3,s4,s5]) rfl ⟨a5,.inr ⟨O,_,ah.out,rfl,rfl,a4⟩⟩
def I5 (v:Val) (k:ByteArray):Option Val:=if Bo v=6 then Av k (Bx v)else none
theorem Td {b':Bool} {a:Int} {b:ByteArray} {l':List Val} {o':List (ByteArray×Val)} (k:ByteArray):I5 (.mk 6 b' a b l' o') k=Av k o':=by unfold I5;rw[if_pos (show Bo (.mk 6 b' a b l' o')=6 from rfl)];rfl
theorem Aio {v:Val} {k:ByteArray} (h:Bo v≠6):I5 v k=none:=by unfold I5;rw[if_neg h]
def Sm (v:Val) (key:ByteArray) (S:Nat->Prop) (w0 w:World) (e:Ending) (w':World):Prop:=Below w.heap.size w w'/\
 match I5 v key with
 |none=>e=.returned (.tuple #[.agg Al,.int .i64 (if Bo v≠6 then 9 else 12)])
 |some x=> ∃cs:List Value,e=.returned (.tuple #[.agg cs.toArray,.int .i64 0])/\Ai S w0 (dV x) cs
theorem Vb (n:Int) (b':Bool) (y:Int) (z:ByteArray) (l':List Val) (o':List (ByteArray×Val)) (la lc oa oc) (key:ByteArray) (S:Nat->Prop) (w0 w:World) (hw:Below w0.heap.size w0 w)
 (h:Ai S w0 (dV (.mk n b' y z l' o')) [.int .i64 n,.bool b',.int .i64 y,.string z,.slice la l'.length lc,.slice oa o'.length oc]) (hl:o'.length<=100000000):
 Calls Tryz.prog 210 #[.agg #[.int .i64 n,.bool b',.int .i64 y,.string z,.slice la l'.length lc,.slice oa o'.length oc],.string key] w (Sm (.mk n b' y z l' o') key S w0 w):=by
 have d:MI w #[.int .i64 n,.bool b',.int .i64 y,.string z,.slice la l'.length lc,.slice oa o'.length oc] ((w.alloc (.cells #[.int .i64 n,.bool b',.int .i64 y,.string z,.slice la l'.length lc,.slice oa o'.length oc] 42)).alloc (.cells Al 42)):=
  ⟨((Below.refl _ _).alloc (Nat.le_refl _) _).alloc (by simp) _,(Ap.new w _ _).alloc _,by simpa using Ap.new (w.alloc (.cells #[.int .i64 n,.bool b',.int .i64 y,.string z,.slice la l'.length lc,.slice oa o'.length oc] 42)) 42 Al⟩
 obtain⟨wi,E⟩: ∃wi,(w.alloc (.cells #[.int .i64 n,.bool b',.int .i64 y,.string z,.slice la l'.length lc,.slice oa o'.length oc] 42)).alloc (.cells Al 42)=wi:=⟨_,rfl⟩;rw[E]at d;by_cases I:n=6;rotate_left
 . have e1:(n != 6)=true:=by simpa using I
   have hP: ∀W,Below w.heap.size w W->Sm (.mk n b' y z l' o') key S w0 w (.returned (.tuple #[.agg Al,.int .i64 9])) W:=fun W hW=>⟨hW,by
    rw[Aio (show Bo (.mk n b' y z l' o')≠6 from I)];show _=Ending.returned (.tuple #[.agg Al,.int .i64 (if n≠6 then 9 else 12)]);rw[if_pos I]⟩
   obtain⟨r0,r1,r2,r3,r4,r5⟩:=At d.res;have x0:=d.box.cell 0;have xl:=d.box.lt;have fz:=d.res.frozen;have J:=d.res.lt;obtain⟨HP,r,H⟩:=hid3 hP d h;clear hP d h;clear I;go_enter Tryz.func210,Tryz.ntmps210;go_upto_region 2 with(fail);clear E
   repeat go_step
   have x:=(((((r.out.res.set_ 0 (.int .i64 0)).set_ 1 (.bool false)).set_ 2 (.int .i64 0)).set_ 3 (.string ⟨#[]⟩)).set_ 4 (.slice none 0 0)).set_ 5 (.slice none 0 0);have s:=As [.int .i64 0,.bool false,.int .i64 0,.string ⟨#[]⟩,.slice none 0 0,.slice none 0 0] r.out.below (Nat.le_succ w.heap.size) (o:=0);exact bodyPost_ret (B3 rfl rfl x) rfl (HP.out _ s)
 subst I;have y0:=d.box.cell 0;have y5:=d.box.cell 5;have yl:=d.box.lt;have F:=qz (show ∀p ∈ o'.take 0,p.1≠key from by simp);obtain⟨r,H⟩:=hid2 d h;clear d h;go_enter Tryz.func210,Tryz.ntmps210;go_upto_region 1 with(fail);clear E;go_wp2_with (fail);clear y0 y5 yl;go_loopw [6] (fun i wr=> ∃q:Nat,i=.int .i64 q/\q<=o'.length/\Hid (∀p ∈ o'.take q,p.1≠key)/\Hid (MI w #[.int .i64 6,.bool b',.int .i64 y,.string z,.slice la l'.length lc,.slice oa o'.length oc] wr)) (fun i _=>o'.length - (intOf i).toNat)
 case atStart=>exact⟨0,rfl,Nat.zero_le _,F,r⟩
 case round=>
  obtain⟨q,rfl,hq,m,j⟩:=hrel;clear r F;have ac:(0:Int)<=q:=by omega
  have z5:=j.out.box.cell 5;have zl:=j.out.box.lt;by_cases ab:q<o'.length
  . obtain⟨p,A⟩: ∃p,o'[q]? =some p:=⟨_,List.getElem?_eq_getElem (by omega)⟩;obtain⟨c,⟨R,Q,U,X,T,V⟩⟩:=p;have hz:=j.out.below.size;obtain⟨g,l,rfl,B,K,L,M,N,O,c0,c1,c2,c3,c4,c5,Z⟩:=Aad (Aky H.out) A;have f:Below w0.heap.size w0 wr:=hw.trans (j.out.below.mono hw.size);have aa:g<wr.heap.size:=Nat.lt_of_lt_of_le B f.size;have c0:=(f.cell (p:=⟨g,l+q*7,none⟩) B).trans c0;have c1:=(f.cell (p:=⟨g,l+q*7+1,none⟩) B).trans c1;have c2:=(f.cell (p:=⟨g,l+q*7+2,none⟩) B).trans c2;have c3:=(f.cell (p:=⟨g,l+q*7+3,none⟩) B).trans c3;have c4:=(f.cell (p:=⟨g,l+q*7+4,none⟩) B).trans c4;have c5:=(f.cell (p:=⟨g,l+q*7+5,none⟩) B).trans c5;have Z:=(f.cell (p:=⟨g,l+q*7+6,none⟩) B).trans Z;have ad:(q:Int)<(o'.length:Int):=by omega
    have v:o'.take (q+1)=o'.take q++ [(c,.mk R Q U X T V)]:=by rw[List.take_add_one,A];simp
    by_cases t:c=key
    . subst t;have e1:(c.toList==c.toList)=true:=by simp
      have e2:(c==c)=true:=by rw[Sq];simp
      have C:=qz (N5 (o:=o') m.out A rfl);obtain⟨r0,r1,r2,r3,r4,r5⟩:=At j.out.res;have fz:=j.out.res.frozen;have J:=j.out.res.lt;obtain⟨Y,Hp,P⟩:=hid3 O A v;clear O A v;clear m;go_upto_region 7 with(fail)
      repeat go_step
      have x:=(((((j.out.res.set_ 0 (.int .i64 R)).set_ 1 (.bool Q)).set_ 2 (.int .i64 U)).set_ 3 (.string X)).set_ 4 (.slice K T.length L)).set_ 5 (.slice M V.length N);have s:=As [.int .i64 R,.bool Q,.int .i64 U,.string X,.slice K T.length L,.slice M V.length N] j.out.below (Nat.le_succ w.heap.size) (o:=0);refine bodyPost_ret (B3 rfl rfl x) rfl ⟨s, ?_⟩;rw[Td,C.out];exact⟨_,rfl,Y.out⟩
    . have e1:(c.toList==key.toList)=false:=by
       rw[Y8];simp only[decide_eq_false_iff_not];intro e;apply t;obtain⟨⟨a⟩⟩:=c;obtain⟨⟨b⟩⟩:=key;simpa[ByteArray.toList_eq]using e
      have e2:(c==key)=false:=by rw[Sq];simp[t]
      have G:Hid (∀p ∈ o'.take (q+1),p.1≠key):=by
       refine qz ?_;rw[v];intro p A;rcases List.mem_append.1 A with h|h
       . exact m.out p h
       . obtain rfl:=List.mem_singleton.1 h;exact t
      obtain⟨Y,Hp,P⟩:=hid3 O A v;clear O A v;clear m t;go_wp2;go_roundw
      case rel=>exact⟨q+1,by go_num,by omega,G,j⟩
      case measure=>simp only[intOf];omega
  . obtain rfl:q=o'.length:=by omega
    have u:=Vw (k:=key) (o:=o') (by
     have:=m.out
     rwa [List.take_length]at this)
    obtain⟨r0,r1,r2,r3,r4,r5⟩:=At j.out.res;have fz:=j.out.res.frozen;have J:=j.out.res.lt;have D:=qz u;clear u;clear m;go_upto_region 8 with(fail)
    repeat go_step
    have x:=(((((j.out.res.set_ 0 (.int .i64 0)).set_ 1 (.bool false)).set_ 2 (.int .i64 0)).set_ 3 (.string ⟨#[]⟩)).set_ 4 (.slice none 0 0)).set_ 5 (.slice none 0 0);have s:=As [.int .i64 0,.bool false,.int .i64 0,.string ⟨#[]⟩,.slice none 0 0,.slice none 0 0] j.out.below (Nat.le_succ w.heap.size) (o:=0);refine bodyPost_ret (B3 rfl rfl x) rfl ⟨s, ?_⟩;rw[Td,D.out];rfl
def Oq (v:Val) (key:ByteArray) (S:Nat->Prop) (w0 w:World) (e:Ending) (w':World):Prop:=Below w.heap.size w w'/\
 ∃cs:List Value,e=.returned (.tuple #[.agg cs.toArray,.bool (I5 v key).isSome])/\Ai S w0 (dV ((I5 v key).getD Ls)) cs
theorem T4 (g:Int) (b':Bool) (i:Int) (n:ByteArray) (l':List Val) (o':List (ByteArray×Val)) (la lc oa oc) (key:ByteArray) (S:Nat->Prop) (w0 w:World) (Q:Below w0.heap.size w0 w)
 (h:Ai S w0 (dV (.mk g b' i n l' o')) [.int .i64 g,.bool b',.int .i64 i,.string n,.slice la l'.length lc,.slice oa o'.length oc]) (hl:o'.length<=100000000):
 Calls Tryz.prog 146 #[.agg #[.int .i64 g,.bool b',.int .i64 i,.string n,.slice la l'.length lc,.slice oa o'.length oc],.string key] w (Oq (.mk g b' i n l' o') key S w0 w):=by
 have b:MI w #[.int .i64 g,.bool b',.int .i64 i,.string n,.slice la l'.length lc,.slice oa o'.length oc] ((w.alloc (.cells #[.int .i64 g,.bool b',.int .i64 i,.string n,.slice la l'.length lc,.slice oa o'.length oc] 42)).alloc (.cells Al 42)):=
  ⟨((Below.refl _ _).alloc (Nat.le_refl _) _).alloc (by simp) _,(Ap.new w _ _).alloc _,by simpa using Ap.new (w.alloc (.cells #[.int .i64 g,.bool b',.int .i64 i,.string n,.slice la l'.length lc,.slice oa o'.length oc] 42)) 42 Al⟩
 obtain⟨O,u⟩: ∃O,(w.alloc (.cells #[.int .i64 g,.bool b',.int .i64 i,.string n,.slice la l'.length lc,.slice oa o'.length oc] 42)).alloc (.cells Al 42)=O:=⟨_,rfl⟩;rw[u]at b;have p:=Vb g b' i n l' o' la lc oa oc key S w0 O (Q.trans (b.below.mono Q.size)) h hl;unfold Sm at p;obtain⟨F,P⟩: ∃F,I5 (.mk g b' i n l' o') key=F:=⟨_,rfl⟩;unfold Oq;rw[P]at p ⊢;clear P;obtain⟨R,T,U,V,W,X⟩:=At b.box;have Y:=b.box.lt
 cases F with
 |none=>
  simp only at p;obtain⟨C,K⟩: ∃C:Int,(if Bo (.mk g b' i n l' o')≠6 then 9 else 12)=C:=⟨_,rfl⟩;have aa:(C==0)=false:=by
   rw[<-K]
   split<;>rfl
  rw[K]at p;obtain⟨r,H,J⟩:=hid3 b h p;clear b h p;clear K;go_enter Tryz.func146,Tryz.ntmps146;go_upto_region 1 with(fail);clear u;go_wp2_with (fail);(with_reducible refine(J.out).mono ?_);rintro e I ⟨f,rfl⟩;have d:=r.out.call f;have a:=qz (d.alloc (.cells Al 42));have s:=qz (Ap.new I 42 Al);clear d R T U V W X Y f;go_upto_region 2 with(fail);generalize I.alloc (.cells Al 42)=N at a s ⊢;obtain⟨r0,r1,r2,r3,r4,r5⟩:=At a.out.res;obtain⟨x0,x1,x2,x3,x4,x5⟩:=At s.out;have xl:=s.out.lt;have fz:=a.out.res.frozen;have M:=a.out.res.lt
  repeat go_step
  have v:=(((((a.out.res.set_ 0 (.int .i64 0)).set_ 1 (.bool false)).set_ 2 (.int .i64 0)).set_ 3 (.string ⟨#[]⟩)).set_ 4 (.slice none 0 0)).set_ 5 (.slice none 0 0);have t:=As [.int .i64 0,.bool false,.int .i64 0,.string ⟨#[]⟩,.slice none 0 0,.slice none 0 0] a.out.below (Nat.le_succ w.heap.size) (o:=0);exact bodyPost_ret (B3 rfl rfl v) rfl ⟨t, [.int .i64 0,.bool false,.int .i64 0,.string ⟨#[]⟩,.slice none 0 0,.slice none 0 0],rfl,Xt _ _⟩
 |some x=>
  simp only at p;obtain⟨A,z,D,G,B,E⟩:=x;obtain⟨r,H,J⟩:=hid3 b h p;clear b h p;go_enter Tryz.func146,Tryz.ntmps146;go_upto_region 1 with(fail);clear u;go_wp2_with (fail);(with_reducible refine(J.out).mono ?_);rintro e I ⟨f,cs,rfl,L⟩;obtain⟨j,k,l,m,rfl⟩:=Kk L;have d:=r.out.call f;have c:=d.alloc (.cells #[.int .i64 A,.bool z,.int .i64 D,.string G,.slice j B.length k,.slice l E.length m] 42);have q:=Ap.new I 42 #[.int .i64 A,.bool z,.int .i64 D,.string G,.slice j B.length k,.slice l E.length m];obtain⟨N,y⟩: ∃N,I.alloc (.cells #[.int .i64 A,.bool z,.int .i64 D,.string G,.slice j B.length k,.slice l E.length m] 42)=N:=⟨_,rfl⟩;rw[y]at c q;obtain⟨r0,r1,r2,r3,r4,r5⟩:=At c.res;obtain⟨x0,x1,x2,x3,x4,x5⟩:=At q;have xl:=q.lt;have fz:=c.res.frozen;have M:=c.res.lt;obtain⟨a,Z⟩:=hid2 c L;clear c L;clear d q R T U V W X Y f;go_upto_region 2 with(fail);clear y
  repeat go_step
  have v:=(((((a.out.res.set_ 0 (.int .i64 A)).set_ 1 (.bool z)).set_ 2 (.int .i64 D)).set_ 3 (.string G)).set_ 4 (.slice j B.length k)).set_ 5 (.slice l E.length m);have t:=As [.int .i64 A,.bool z,.int .i64 D,.string G,.slice j B.length k,.slice l E.length m] a.out.below (Nat.le_succ w.heap.size) (o:=0);exact bodyPost_ret (B3 rfl rfl v) rfl ⟨t,_,rfl,Z.out⟩
def dX (names:List ByteArray):List D:=names.map fun s=> .leaf (.string s)
theorem Acc (names:List ByteArray):(dX names).length=names.length:=List.length_map ..
theorem Alq {w:World} {B n c:Nat} {names:List ByteArray} {a:Option Addr} (h:Ag w B (.row 1 (dX names)) [.slice a n c]) {q:Nat} {s:ByteArray} (l:names[q]? =some s):
 ∃g b,a=some ⟨g,b,none⟩/\g<B/\w.cell? ⟨g,b+q,none⟩=some (.string s):=by
 obtain⟨g,b,e,k,cs,f,_,j⟩:=h.at_ (i:=q) (d:=.leaf (.string s)) (by unfold dX;rw[List.getElem?_map,l];rfl);obtain⟨rfl,_⟩:=f;exact⟨g,b,e,k,by have:=j 0 _ rfl;simpa using this⟩
theorem Ana {w:World} {B n c:Nat} {names:List ByteArray} {a:Option Addr} (h:Ag w B (.row 1 (dX names)) [.slice a n c]):n=names.length:=by rw[h.row_len,Acc]
theorem Zm (names:List ByteArray): ∀d ∈ dX names,d.cells=1:=by
 intro d a;obtain⟨x,_,rfl⟩:=List.mem_map.1 a;rfl
theorem Sy (w:World) (B:Nat): ∀names:List ByteArray,Ah w B (dX names) (names.map Value.string)
 | []=>rfl
 |s::r=>⟨[.string s],r.map Value.string,rfl,⟨rfl,rfl⟩,Sy w B r⟩
theorem Amh {w:World} {g c:Nat} {t:TypeId} {names:List ByteArray} {n:Nat} (h:Ap w g t (names.map Value.string).toArray) (b:n=names.length) {B:Nat} (a:g<B):Ag w B (.row 1 (dX names)) [.slice (some ⟨g,0,none⟩) n c]:=by
 subst b;refine⟨_,c,by rw[Acc],Zm _,_,Sy _ _ _,.inr ⟨g,0,rfl,a,fun j u d=> ?_⟩⟩;rw[Nat.zero_add];exact(h.cell j).trans (by rw[<-Array.getElem?_toList];exact d)
def Sj (w:World) (S:Nat->Prop) (w0:World) (x:Val) (p:Value) (wx:World):Prop:= ∃R cs,p=.pointer (some ⟨R,0,none⟩)/\w.heap.size<=R/\Below w.heap.size w wx/\Ap wx R 42 cs.toArray/\Ai S w0 (dV x) cs
theorem Sj.new {w a w0:World} {S:Nat->Prop} {x:Val} {cs:List Value} (b:Below w.heap.size w a) (c:Ai S w0 (dV x) cs):Sj w S w0 x (.pointer (some ⟨a.heap.size,0,none⟩)) (a.alloc (.cells cs.toArray 42)):=
 ⟨a.heap.size,cs,rfl,b.size,b.alloc b.size _,Ap.new _ _ _,c⟩
theorem Sj.old {w e w0:World} {S:Nat->Prop} {R:Nat} {k:Int} {b:Bool} {n:Int} {t:ByteArray} {l:List Val} {o:List (ByteArray×Val)} {a d:Option Addr} {c oc:Nat} (g:Below w.heap.size w e) (h:Ai S w0 (dV (.mk k b n t l o)) [.int .i64 k,.bool b,.int .i64 n,.string t,.slice a l.length c,.slice d o.length oc]) (i:Ap e R 42 Al) (f:w.heap.size<=R):
 Sj w S w0 (.mk k b n t l o) (.pointer (some ⟨R,0,none⟩)) (A4 e R 0 [.int .i64 k,.bool b,.int .i64 n,.string t,.slice a l.length c,.slice d o.length oc]):=
 ⟨R,_,rfl,f,As _ g f (o:=0),((((((i.set_ 0 (.int .i64 k)).set_ 1 (.bool b)).set_ 2 (.int .i64 n)).set_ 3 (.string t)).set_ 4 (.slice a l.length c)).set_ 5 (.slice d o.length oc)),h⟩
def Q1 (all opt:List ByteArray) (v:Val):Bool:=all.all (fun x=>(I5 v x).isSome)&&decide (all.length+(opt.filter fun x=>(I5 v x).isSome).length=(Bx v).length)
theorem Aiw {all opt:List ByteArray} {v:Val} {s:ByteArray} (a:s ∈ all) (h:(I5 v s).isSome=false):Q1 all opt v=false:=by
 unfold Q1;have:all.all (fun x=>(I5 v x).isSome)=false:=by
  rw[List.all_eq_false];exact⟨s,a,by rw[h];simp⟩
 rw[this,Bool.false_and]
theorem Af9 {all opt:List ByteArray} {v:Val} (h: ∀x ∈ all,(I5 v x).isSome=true):Q1 all opt v=decide (all.length+(opt.filter fun x=>(I5 v x).isSome).length=(Bx v).length):=by
 unfold Q1;rw[List.all_eq_true.2 h,Bool.true_and]
structure JI (w:World) (six:Array Value) (wr:World):Prop where
 below:Below w.heap.size w wr
 box:Ap wr w.heap.size 42 six
theorem JI.call {w wr w':World} {six:Array Value} (h:JI w six wr) (a:Below wr.heap.size wr w'):JI w six w':=⟨h.below.trans (a.mono h.below.size),h.box.below a h.box.lt⟩
theorem JI.has {w wr w' w0:World} {six:Array Value} {S:Nat->Prop} {x:Val} {p:Value} (h:JI w six wr) (a:Sj wr S w0 x p w'):JI w six w':=by
 obtain⟨R,cs,_,_,a,_⟩:=a;exact h.call a
theorem Aa6 (u:Int) (b':Bool) (y:Int) (z:ByteArray) (l':List Val) (o':List (ByteArray×Val)) (la lc oa oc) (all opt:List ByteArray) (a:Option Addr) (n c:Nat) (a2:Option Addr) (n2 c2:Nat) (S:Nat->Prop) (w0 w:World) (hw:Below w0.heap.size w0 w)
 (h:Ai S w0 (dV (.mk u b' y z l' o')) [.int .i64 u,.bool b',.int .i64 y,.string z,.slice la l'.length lc,.slice oa o'.length oc]) (hA:Ag w w.heap.size (.row 1 (dX all)) [.slice a n c]) (ag:Ag w w.heap.size (.row 1 (dX opt)) [.slice a2 n2 c2]) (hl:o'.length<=100000000) (ay:all.length<=1000) (az:opt.length<=1000):
 Calls Tryz.prog 147 #[.agg #[.int .i64 u,.bool b',.int .i64 y,.string z,.slice la l'.length lc,.slice oa o'.length oc],.slice a n c,.slice a2 n2 c2] w fun e w'=>e=.returned (.bool (Q1 all opt (.mk u b' y z l' o')))/\Below w.heap.size w w':=by
 obtain rfl:=Ana hA;obtain rfl:=Ana ag;have ae:JI w #[.int .i64 u,.bool b',.int .i64 y,.string z,.slice la l'.length lc,.slice oa o'.length oc] (w.alloc (.cells #[.int .i64 u,.bool b',.int .i64 y,.string z,.slice la l'.length lc,.slice oa o'.length oc] 42)):=⟨Aa _ _,Ap.new w _ _⟩;obtain⟨wi,an⟩: ∃wi,w.alloc (.cells #[.int .i64 u,.bool b',.int .i64 y,.string z,.slice la l'.length lc,.slice oa o'.length oc] 42)=wi:=⟨_,rfl⟩;rw[an]at ae;have al:=qz (show ∀x ∈ all.take 0,(I5 (.mk u b' y z l' o') x).isSome=true from by simp);have O:=fun(s:ByteArray) (W:World) (hW:Below w.heap.size w W)=>T4 u b' y z l' o' la lc oa oc s S w0 W (hw.trans (hW.mono hw.size)) h hl;unfold Oq at O;obtain⟨ai,H,HA,ao,aa⟩:=hid5 ae h hA ag O;clear ae h hA ag O;go_enter Tryz.func147,Tryz.ntmps147;go_upto_region 1 with(fail);clear an;go_wp2_with (fail);go_loopw [7,8] (fun nV i wr=> ∃q:Nat,nV=.int .i64 q/\i=.int .i64 q/\q<=all.length/\Hid (∀x ∈ all.take q,(I5 (.mk u b' y z l' o') x).isSome=true)/\Hid (JI w #[.int .i64 u,.bool b',.int .i64 y,.string z,.slice la l'.length lc,.slice oa o'.length oc] wr)) (fun _ i _=>all.length - (intOf i).toNat)
 case atStart=>exact⟨0,rfl,rfl,Nat.zero_le _,al,ai⟩
 case round=>
  obtain⟨q,rfl,rfl,hq,X,C⟩:=hrel;clear ai al;have aw:(0:Int)<=q:=by omega
  by_cases av:q<all.length
  . obtain⟨s,T⟩: ∃s,all[q]? =some s:=⟨_,List.getElem?_eq_getElem (by omega)⟩;have hz:=C.out.below.size;obtain⟨g,E,rfl,hg,hk⟩:=Alq (HA.out.below C.out.below) T;have ax:(q:Int)<(all.length:Int):=by omega
    have D:all.take (q+1)=all.take q++ [s]:=by rw[List.take_add_one,T];simp
    have hC:=fun(W:World) (hW:Below wr.heap.size wr W)=>aa.out s W (C.out.below.trans (hW.mono hz));have Q:=fun(Y:World) (hY:Below wr.heap.size wr Y)=>(show Y.cell? ⟨w.heap.size,0,none⟩=some (.int .i64 u)/\Y.cell? ⟨w.heap.size,1,none⟩=some (.bool b')/\Y.cell? ⟨w.heap.size,2,none⟩=some (.int .i64 y)/\Y.cell? ⟨w.heap.size,3,none⟩=some (.string z)/\Y.cell? ⟨w.heap.size,4,none⟩=some (.slice la l'.length lc)/\Y.cell? ⟨w.heap.size,5,none⟩=some (.slice oa o'.length oc)/\Y.cell? ⟨g,E+q,none⟩=some (.string s)by
     obtain⟨v0,v1,v2,v3,v4,v5⟩:=At (C.out.box.below hY C.out.box.lt);exact⟨v0,v1,v2,v3,v4,v5,(hY.cell (p:=⟨g,E+q,none⟩) (by show g<wr.heap.size;omega)).trans hk⟩)
    have ah:=fun hm=>Aiw (all:=all) (opt:=opt) (v:=.mk u b' y z l' o') (s:=s) (List.mem_of_getElem? T) hm;obtain⟨P,hP⟩: ∃P,(I5 (.mk u b' y z l' o') s).isSome=P:=⟨_,rfl⟩;obtain⟨⟨xk,xb,xn,xt,xl,xo⟩,hx⟩: ∃x,(I5 (.mk u b' y z l' o') s).getD Ls=x:=⟨_,rfl⟩;simp only[hP,hx]at hC;have ac:P=true->Hid (∀x ∈ all.take (q+1),(I5 (.mk u b' y z l' o') x).isSome=true):=fun ar=>by
     refine qz ?_;rw[D];intro p hp;rcases List.mem_append.1 hp with h|h
     . exact X.out p h
     . obtain rfl:=List.mem_singleton.1 h;rw[hP,ar]
    rw[hP]at ah;obtain⟨Hs,Hk,aq,U,j,ak,N⟩:=hid7 T hk D hC Q ah ac;clear T hk D hC Q ah ac;clear X hP hx;go_upto_region 5 with(fail);go_cut [9,10] (fun p b wx=>b=.bool P/\Hid (Sj wr S w0 (.mk xk xb xn xt xl xo) p wx))
    case first=>
     refine wp_region_held_drew (S:=(fun Y=>Y.cell? ⟨w.heap.size,0,none⟩=some (.int .i64 u)/\Y.cell? ⟨w.heap.size,1,none⟩=some (.bool b')/\Y.cell? ⟨w.heap.size,2,none⟩=some (.int .i64 y)/\Y.cell? ⟨w.heap.size,3,none⟩=some (.string z)/\Y.cell? ⟨w.heap.size,4,none⟩=some (.slice la l'.length lc)/\Y.cell? ⟨w.heap.size,5,none⟩=some (.slice oa o'.length oc)/\Y.cell? ⟨g,E+q,none⟩=some (.string s))) (by kernel_rfl) (j.out _ (Below.drew (Below.refl _ _))) (fun d=> ?_);have A:Below wr.heap.size wr wr.drew:=Below.drew (Below.refl _ _);have t:Below wr.heap.size wr (wr.alloc (.cells Al 42)).drew:=Below.drew ((Below.refl _ _).alloc (Nat.le_refl _) (.cells Al 42));refine tkH 0 d ?_;refine tkH 1 d ?_;refine tkH 2 d ?_;refine tkH 3 d ?_;refine tkH 4 d ?_;refine wpAnyH_ready (rs:= [5,9]) (by kernel_rfl) (by simp) ?_;refine AllReadyH.cons rfl (fun K k=> ?_) (AllReadyH.cons rfl (fun K k=> ?_) AllReadyH.nil)
     ·
      go_simp
      (with_reducible refine(U.out _ A).mono ?_)
      rintro e Z ⟨r,ad,rfl,l⟩;obtain⟨F,G,I,J,rfl⟩:=Kk l;have f:Below wr.heap.size wr Z:=A.trans (r.mono A.size);refine k.out _ _ (j.out _ f) (fun d=> ?_);clear k K
      try simp only[Act.put,tk1,tk2,tk3,tk4,tk5,tk6]
      refine tkH 6 d ?_;refine tkH 7 d ?_;refine tkH 8 d ?_;refine wpAnyH_ready (rs:= [9]) (by kernel_rfl) (by simp) ?_;refine AllReadyH.cons rfl (fun K k=> ?_) AllReadyH.nil;go_simp;refine k.out _ _ (j.out _ (f.alloc f.size (.cells Al 42))) (fun d=> ?_);clear k K
      try simp only[Act.put,tk1,tk2,tk3,tk4,tk5,tk6]
      refine wpAnyH_ready (rs:= [10]) (by kernel_rfl) (by simp) ?_;refine AllReadyH.cons rfl (fun K k=> ?_) AllReadyH.nil;go_simp;refine k.out _ _ (j.out _ (f.alloc f.size (.cells #[.int .i64 xk,.bool xb,.int .i64 xn,.string xt,.slice F xl.length G,.slice I xo.length J] 42))) (fun d=> ?_);clear k K
      try simp only[Act.put,tk1,tk2,tk3,tk4,tk5,tk6]
      refine tkH 11 d ?_;refine wpAnyH_done (by kernel_rfl) ?_ _;have HF:=qz (Sj.new f l);clear d r l f t A;go_wp2;go_meet;exact⟨rfl,HF⟩
     ·
      go_simp;refine k.out _ _ (j.out _ t) (fun d=> ?_);clear k K
      try simp only[Act.put,tk1,tk2,tk3,tk4,tk5,tk6]
      refine wpAnyH_ready (rs:= [5]) (by kernel_rfl) (by simp) ?_;refine AllReadyH.cons rfl (fun K k=> ?_) AllReadyH.nil;go_simp
      (with_reducible refine(U.out _ t).mono ?_)
      rintro e Z ⟨r,ad,rfl,l⟩;obtain⟨F,G,I,J,rfl⟩:=Kk l;have f:Below wr.heap.size wr Z:=t.trans (r.mono t.size);refine k.out _ _ (j.out _ f) (fun d=> ?_);clear k K
      try simp only[Act.put,tk1,tk2,tk3,tk4,tk5,tk6]
      refine tkH 6 d ?_;refine tkH 7 d ?_;refine tkH 8 d ?_;refine wpAnyH_ready (rs:= [10]) (by kernel_rfl) (by simp) ?_;refine AllReadyH.cons rfl (fun K k=> ?_) AllReadyH.nil;have B:Ap Z wr.heap.size 42 Al:=(Ap.new wr 42 Al).drew.below r (Ap.lt (Ap.new wr 42 Al).drew);obtain⟨c0,c1,c2,c3,c4,c5⟩:=At B;have fz:=B.frozen;have af:=B.lt;go_simp;refine k.out _ _ (j.out _ (As [.int .i64 xk,.bool xb,.int .i64 xn,.string xt,.slice F xl.length G,.slice I xo.length J] f (Nat.le_refl _) (o:=0))) (fun d=> ?_);clear k K
      try simp only[Act.put,tk1,tk2,tk3,tk4,tk5,tk6]
      refine tkH 11 d ?_;refine wpAnyH_done (by kernel_rfl) ?_ _;have HF:=qz (Sj.old f l B (Nat.le_refl _));clear c0 c1 c2 c3 c4 c5 fz B d r l f t A af;go_wp2;go_meet;exact⟨rfl,HF⟩
    case rest=>
     obtain⟨rfl,hH⟩:=hcut;have L:=qz (C.out.has hH.out)
     cases P with
     |false=>
      have Hr:=qz (ak.out rfl);clear hH U j N C;go_wp2;go_ret;exact⟨by rw[Hr.out];rfl,L.out.below⟩
     |true=>
      have hn:=N.out rfl;clear hH U j N C ak;go_wp2;go_roundw
      case rel=>exact⟨q+1,by go_num,by go_num,by omega,hn,L⟩
      case measure=>simp only[intOf];omega
  . obtain rfl:q=all.length:=by omega
    have L:=Af9 (all:=all) (opt:=opt) (v:=.mk u b' y z l' o') (by
     have:=X.out
     rwa [List.take_length]at this)
    have aj:=qz (show((opt.take 0).filter fun x=>(I5 (.mk u b' y z l' o') x).isSome).length=0 from by simp);have HJ:=qz L;clear L;clear X;go_wp2_with (fail);obtain⟨wo,rfl⟩: ∃wo:World,wo=wr:=⟨_,rfl⟩;have am:=C;clear C;go_loopw [7,11] (fun nV i wq=> ∃q m:Nat,nV=.int .i64 ((all.length+m:Nat):Int)/\i=.int .i64 q/\q<=opt.length/\m<=q/\Hid (((opt.take q).filter fun x=>(I5 (.mk u b' y z l' o') x).isSome).length=m)/\Hid (JI w #[.int .i64 u,.bool b',.int .i64 y,.string z,.slice la l'.length lc,.slice oa o'.length oc] wq)) (fun _ i _=>opt.length - (intOf i).toNat)
    case atStart=>exact⟨0,0,by simp,rfl,Nat.zero_le _,Nat.le_refl _,aj,am⟩
    case round=>
     obtain⟨q,m,rfl,rfl,hq,hm,V,C⟩:=hrel;clear am aj;have aw:(0:Int)<=q:=by omega
     by_cases av:q<opt.length
     . obtain⟨s,T⟩: ∃s,opt[q]? =some s:=⟨_,List.getElem?_eq_getElem (by omega)⟩;have hz:=C.out.below.size;obtain⟨g,E,rfl,hg,hk⟩:=Alq (ao.out.below C.out.below) T;have ax:(q:Int)<(opt.length:Int):=by omega
       have D:opt.take (q+1)=opt.take q++ [s]:=by rw[List.take_add_one,T];simp
       have hC:=fun(W:World) (hW:Below wr.heap.size wr W)=>aa.out s W (C.out.below.trans (hW.mono hz));have Q:=fun(Y:World) (hY:Below wr.heap.size wr Y)=>(show Y.cell? ⟨w.heap.size,0,none⟩=some (.int .i64 u)/\Y.cell? ⟨w.heap.size,1,none⟩=some (.bool b')/\Y.cell? ⟨w.heap.size,2,none⟩=some (.int .i64 y)/\Y.cell? ⟨w.heap.size,3,none⟩=some (.string z)/\Y.cell? ⟨w.heap.size,4,none⟩=some (.slice la l'.length lc)/\Y.cell? ⟨w.heap.size,5,none⟩=some (.slice oa o'.length oc)/\Y.cell? ⟨g,E+q,none⟩=some (.string s)by
        obtain⟨v0,v1,v2,v3,v4,v5⟩:=At (C.out.box.below hY C.out.box.lt);exact⟨v0,v1,v2,v3,v4,v5,(hY.cell (p:=⟨g,E+q,none⟩) (by show g<wr.heap.size;omega)).trans hk⟩)
       obtain⟨P,hP⟩: ∃P,(I5 (.mk u b' y z l' o') s).isSome=P:=⟨_,rfl⟩;obtain⟨⟨xk,xb,xn,xt,xl,xo⟩,hx⟩: ∃x,(I5 (.mk u b' y z l' o') s).getD Ls=x:=⟨_,rfl⟩;simp only[hP,hx]at hC;have ab:Hid (((opt.take (q+1)).filter fun x=>(I5 (.mk u b' y z l' o') x).isSome).length=m+(if P then 1 else 0)):=by
        refine qz ?_;rw[D,List.filter_append,List.length_append,V.out]
        cases P<;>simp[hP]
       obtain⟨Hs,Hk,aq,U,j⟩:=hid5 T hk D hC Q;clear T hk D hC Q;clear V hP hx;go_upto_region 12 with(fail);go_cut [12,13] (fun p b wx=>b=.bool P/\Hid (Sj wr S w0 (.mk xk xb xn xt xl xo) p wx))
       case first=>
        refine wp_region_held_drew (S:=(fun Y=>Y.cell? ⟨w.heap.size,0,none⟩=some (.int .i64 u)/\Y.cell? ⟨w.heap.size,1,none⟩=some (.bool b')/\Y.cell? ⟨w.heap.size,2,none⟩=some (.int .i64 y)/\Y.cell? ⟨w.heap.size,3,none⟩=some (.string z)/\Y.cell? ⟨w.heap.size,4,none⟩=some (.slice la l'.length lc)/\Y.cell? ⟨w.heap.size,5,none⟩=some (.slice oa o'.length oc)/\Y.cell? ⟨g,E+q,none⟩=some (.string s))) (by kernel_rfl) (j.out _ (Below.drew (Below.refl _ _))) (fun d=> ?_);have A:Below wr.heap.size wr wr.drew:=Below.drew (Below.refl _ _);have t:Below wr.heap.size wr (wr.alloc (.cells Al 42)).drew:=Below.drew ((Below.refl _ _).alloc (Nat.le_refl _) (.cells Al 42));refine tkH 0 d ?_;refine tkH 1 d ?_;refine tkH 2 d ?_;refine tkH 3 d ?_;refine tkH 4 d ?_;refine wpAnyH_ready (rs:= [5,9]) (by kernel_rfl) (by simp) ?_;refine AllReadyH.cons rfl (fun K k=> ?_) (AllReadyH.cons rfl (fun K k=> ?_) AllReadyH.nil)
        ·
         go_simp
         (with_reducible refine(U.out _ A).mono ?_)
         rintro e Z ⟨r,ad,rfl,l⟩;obtain⟨F,G,I,J,rfl⟩:=Kk l;have f:Below wr.heap.size wr Z:=A.trans (r.mono A.size);refine k.out _ _ (j.out _ f) (fun d=> ?_);clear k K
         try simp only[Act.put,tk1,tk2,tk3,tk4,tk5,tk6]
         refine tkH 6 d ?_;refine tkH 7 d ?_;refine tkH 8 d ?_;refine wpAnyH_ready (rs:= [9]) (by kernel_rfl) (by simp) ?_;refine AllReadyH.cons rfl (fun K k=> ?_) AllReadyH.nil;go_simp;refine k.out _ _ (j.out _ (f.alloc f.size (.cells Al 42))) (fun d=> ?_);clear k K
         try simp only[Act.put,tk1,tk2,tk3,tk4,tk5,tk6]
         refine wpAnyH_ready (rs:= [10]) (by kernel_rfl) (by simp) ?_;refine AllReadyH.cons rfl (fun K k=> ?_) AllReadyH.nil;go_simp;refine k.out _ _ (j.out _ (f.alloc f.size (.cells #[.int .i64 xk,.bool xb,.int .i64 xn,.string xt,.slice F xl.length G,.slice I xo.length J] 42))) (fun d=> ?_);clear k K
         try simp only[Act.put,tk1,tk2,tk3,tk4,tk5,tk6]
         refine tkH 11 d ?_;refine wpAnyH_done (by kernel_rfl) ?_ _;have HF:=qz (Sj.new f l);clear d r l f t A;go_wp2;go_meet;exact⟨rfl,HF⟩
        ·
         go_simp;refine k.out _ _ (j.out _ t) (fun d=> ?_);clear k K
         try simp only[Act.put,tk1,tk2,tk3,tk4,tk5,tk6]
         refine wpAnyH_ready (rs:= [5]) (by kernel_rfl) (by simp) ?_;refine AllReadyH.cons rfl (fun K k=> ?_) AllReadyH.nil;go_simp
         (with_reducible refine(U.out _ t).mono ?_)
         rintro e Z ⟨r,ad,rfl,l⟩;obtain⟨F,G,I,J,rfl⟩:=Kk l;have f:Below wr.heap.size wr Z:=t.trans (r.mono t.size);refine k.out _ _ (j.out _ f) (fun d=> ?_);clear k K
         try simp only[Act.put,tk1,tk2,tk3,tk4,tk5,tk6]
         refine tkH 6 d ?_;refine tkH 7 d ?_;refine tkH 8 d ?_;refine wpAnyH_ready (rs:= [10]) (by kernel_rfl) (by simp) ?_;refine AllReadyH.cons rfl (fun K k=> ?_) AllReadyH.nil;have B:Ap Z wr.heap.size 42 Al:=(Ap.new wr 42 Al).drew.below r (Ap.lt (Ap.new wr 42 Al).drew);obtain⟨c0,c1,c2,c3,c4,c5⟩:=At B;have fz:=B.frozen;have af:=B.lt;go_simp;refine k.out _ _ (j.out _ (As [.int .i64 xk,.bool xb,.int .i64 xn,.string xt,.slice F xl.length G,.slice I xo.length J] f (Nat.le_refl _) (o:=0))) (fun d=> ?_);clear k K
         try simp only[Act.put,tk1,tk2,tk3,tk4,tk5,tk6]
         refine tkH 11 d ?_;refine wpAnyH_done (by kernel_rfl) ?_ _;have HF:=qz (Sj.old f l B (Nat.le_refl _));clear c0 c1 c2 c3 c4 c5 fz B d r l f t A af;go_wp2;go_meet;exact⟨rfl,HF⟩
       case rest=>
        obtain⟨rfl,hH⟩:=hcut;have L:=qz (C.out.has hH.out)
        cases P with
        |false=>
         clear hH U j C;go_wp2;go_roundw
         case rel=>exact⟨q+1,m,rfl,by go_num,by omega,by omega,ab,L⟩
         case measure=>simp only[intOf];omega
        |true=>
         clear hH U j C;go_wp2;go_roundw
         case rel=>exact⟨q+1,m+1,by go_num,by go_num,by omega,by omega,ab,L⟩
         case measure=>simp only[intOf];omega
     . obtain rfl:q=opt.length:=by omega
       have L:=HJ.out;have R:=V.out;rw[List.take_length]at R;rw[R]at L;have z5:=C.out.box.cell 5;have zl:=C.out.box.lt;have hd:((((all.length+m:Nat):Int))==(o'.length:Int))=decide (all.length+m=(Bx (.mk u b' y z l' o')).length):=by
        show _=decide (all.length+m=o'.length);rw[Bool.eq_iff_iff];simp only[beq_iff_eq,decide_eq_true_eq];omega
       rw[<-hd]at L;have au:((all.length+m:Nat):Int)=((all.length+m:Nat):Int):=rfl;obtain⟨M,hM⟩: ∃M,all.length+m=M:=⟨_,rfl⟩;rw[hM]at L ⊢;have ap:=qz C.out.below;have HJ:=qz L;clear L;clear V R hd au;go_wp2;go_ret;exact⟨by rw[HJ.out];rfl,ap.out⟩
end Go.Proofs.YtjgfchcldhmjcaaGreatDoor
