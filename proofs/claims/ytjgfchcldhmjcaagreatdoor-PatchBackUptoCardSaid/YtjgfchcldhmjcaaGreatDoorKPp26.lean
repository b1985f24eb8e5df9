/- Parts: parse.Parse's results' variables, while its panic is caught. No condition. -/
import Derived.Defers
import Derived.Recover
import Derived.Laws.Pointers
import Derived.Test.YtjgfchcldhmjcaaGreatDoorKPp23
import Derived.Test.YtjgfchcldhmjcaaGreatDoorKPp24
set_option maxHeartbeats 20000000
set_option maxRecDepth 100000
namespace Go.Proofs.YtjgfchcldhmjcaaGreatDoor
def Gw (k:ByteArray) (o:List (ByteArray×Val)):Val:=(Av k o).getD Ls
def Ir (names:List ByteArray) (o:List (ByteArray×Val)):Bool:=decide (names.length=o.length)&&names.all fun x=>(Av x o).isSome
theorem Mu {names:List ByteArray} {o:List (ByteArray×Val)} (a:Dg o) (b:Sn names):Ir names o=true ↔ o.map (·.1)=names:=by
 rw[<-P9 a b];unfold Ir;simp only[Bool.and_eq_true,decide_eq_true_eq,List.all_eq_true,Fu]
def Nm (v:Val):Int×POp:=
 if Bo v≠6 then(9,Dj)else if(Av Cf (Bx v)).isSome=false then(10,Dj)else
 if Bo (Gw Cf (Bx v))≠4 then(9,Dj)else
 if Ea (Gw Cf (Bx v))=Du then(if(Bx v).length≠1 then(10,Dj)else(0,⟨3,Lf,Ls⟩))else
 if Ea (Gw Cf (Bx v))=G6 then
  (if Ir [Aw,Cf,Bu] (Bx v)=false then(10,Dj)else if Bo (Gw Aw (Bx v))≠4 then(9,Dj)else(0,⟨1,Ea (Gw Aw (Bx v)),Gw Bu (Bx v)⟩))else
 if Ea (Gw Cf (Bx v))=Ic then
  (if Ir [Aw,Cf] (Bx v)=false then(10,Dj)else if Bo (Gw Aw (Bx v))≠4 then(9,Dj)else(0,⟨2,Ea (Gw Aw (Bx v)),Ls⟩))else
 (12,Dj)
theorem Ajz {v:Val} {d:Int} (B:A0 v d=0):Nm v=Ch v:=by
 have g:Dg (Bx v):=by
  obtain⟨k,b,n,t,l,o⟩:=v;exact(Mw (Fm B).2.2.2.2).1
 unfold Nm Ch;by_cases m:Bo v≠6
 . rw[if_pos m,if_pos m]
 rw[if_neg m,if_neg m];generalize Bx v=o at g
 cases hnm:Av Cf o with
 |none=>rfl
 |some nm=>
  have u:Gw Cf o=nm:=by unfold Gw;rw[hnm];rfl
  rw[u];simp only[Option.isSome_some,Bool.true_eq_false,if_false];by_cases i:Bo nm≠4
  . rw[if_pos i,if_pos i]
  rw[if_neg i,if_neg i];by_cases e:Ea nm=Du
  . rw[if_pos e,if_pos e];by_cases p:o.length=1
    . rw[if_neg (fun h=>h p),if_pos p]
    . rw[if_pos p,if_neg p]
  rw[if_neg e,if_neg e];by_cases q:Ea nm=G6
  . rw[if_pos q,if_pos q];by_cases f:o.map (·.1)= [Aw,Cf,Bu]
    . rw[if_neg (by rw[(Mu g Al9).2 f];simp)];obtain⟨x,z,y,rfl⟩:=Alt f;have r:Gw Aw [(Aw,x),(Cf,z),(Bu,y)]=x:=by kernel_rfl
      have A:Gw Bu [(Aw,x),(Cf,z),(Bu,y)]=y:=by kernel_rfl
      rw[r,A];by_cases w:Bo x=4<;>simp[w]
    . have s:Ir [Aw,Cf,Bu] o=false:=by
       cases hb:Ir [Aw,Cf,Bu] o with
       |false=>rfl
       |true=>exact absurd ((Mu g Al9).1 hb) f
      rw[if_pos s]
      split
      . rename_i a x b z c y;rw[if_neg];rintro⟨rfl,rfl,rfl⟩;exact f rfl
      . rfl
  rw[if_neg q,if_neg q];by_cases j:Ea nm=Ic
  . rw[if_pos j,if_pos j];by_cases f:o.map (·.1)= [Aw,Cf]
    . rw[if_neg (by rw[(Mu g Al8).2 f];simp)];obtain⟨x,z,rfl⟩:=Als f;have r:Gw Aw [(Aw,x),(Cf,z)]=x:=by kernel_rfl
      rw[r];by_cases w:Bo x=4<;>simp[w]
    . have s:Ir [Aw,Cf] o=false:=by
       cases hb:Ir [Aw,Cf] o with
       |false=>rfl
       |true=>exact absurd ((Mu g Al8).1 hb) f
      rw[if_pos s]
      split
      . rename_i a x b z;rw[if_neg];rintro⟨rfl,rfl⟩;exact f rfl
      . rfl
  rw[if_neg j,if_neg j]
end Go.Proofs.YtjgfchcldhmjcaaGreatDoor
namespace Go.Proofs.YtjgfchcldhmjcaaGreatDoor
open Go Go.RowKit
structure ORd (w wr:World) (R g:Nat) (s:ByteArray) (d:Int) (RES:Rd Val) (G f n j:Nat) (acc:List (ByteArray×Val)) (V:Value):Prop where
 all:RdL w wr R g s j #[.int .i64 6,.bool false,.int .i64 0,.string ⟨#[]⟩,.slice none 0 0,V]
 row:C3 (G+1) 111 7 wr (dO acc) V
 map:Co Value.string wr G (Tk acc)
 nod:(acc.map (·.1)).Nodup
 is:Bi n s.data.toList j d acc=RES
 fuel:4*(s.size - j)+2<=n
 lt:n<f
 few:acc.length<=j
theorem RdL.seen {w wr w1 f:World} {R g j q G:Nat} {s:ByteArray} {cs:Array Value} (h:RdL w wr R g s j cs) (k:R<w.heap.size) (m:w.heap.size+2<=G) (t:Bj R g s q wr w1) (c:w1.grownBy f (some G)):RdL w f R g s q cs:=by
 have a:=h.to_ k t;have b: ∀i,i<w.heap.size+2->some i≠some G:=fun i d e=>by have:=Option.some.inj e;omega
 exact⟨⟨⟨c.os.trans a.went.1.os,c.tape.trans a.went.1.tape,c.output.trans a.went.1.output,Nat.le_trans a.went.1.size c.size,fun i d l=>(c.block i (by have:=a.went.1.size;omega) (b i (by omega))).trans (a.went.1.block i d l)⟩,Ap.grown a.went.2 c (b R (by omega))⟩,a.res.grown c (b _ (by omega)),a.var.grown c (b _ (by omega))⟩
theorem Ain {k:ByteArray} {acc:List (ByteArray×Val)} (h:Gf k acc=false) (f:(acc.map (·.1)).Nodup) (v:Val):((acc++ [(k,v)]).map (·.1)).Nodup:=by
 rw[List.map_append,List.nodup_append];refine⟨f,by simp,fun a d b c=> ?_⟩;simp only[List.map_cons,List.map_nil,List.mem_cons,List.not_mem_nil,or_false]at c;subst c;rintro rfl;obtain⟨m,e,rfl⟩:=List.mem_map.1 d;have:Gf m.1 acc=true:=by
  unfold Gf;rw[List.any_eq_true];exact⟨m,e,by simp⟩
 rw[this]at h;cases h
theorem Aa3 (w0:World) (ch:Cj w0) (R g:Nat) (s:ByteArray) (f:Nat) (ih: ∀f',f'<f->Akh w0 R g s f') (w:World) (k:Nat) (d:Int) (h:RdI w0 w R g s k) (hs:s.size<=100000000) (hk:k<s.size) (hf:4*(s.size - k)<=f) (c5:0<=d) (hd:d<=64):
 Calls Tryz.prog 139 #[.pointer (some ⟨R,0,none⟩),.int .i64 d] w (Gu R g s w (Lh f s.data.toList k d)):=by
 obtain⟨j0,hj,bp,bq,br⟩:=info_parts Pc;have hR:R<w.heap.size:=Ap.lt h.rd;obtain⟨f,rfl⟩: ∃n,f=n+1:=⟨f - 1,by omega⟩;have hP:=Bq (s:=s) (k:=k+1) (by omega);have cf:=Bv s.data.toList (k+1);have bi:RdL w (((w.setCell ⟨R,1,none⟩ (.int .i64 ((k+1:Nat):Int))).alloc (.cells Al 42)).alloc (.cells #[.int .i64 6,.bool false,.int .i64 0,.string ⟨#[]⟩,.slice none 0 0,.slice none 0 0] 42)) R g s (k+1) #[.int .i64 6,.bool false,.int .i64 0,.string ⟨#[]⟩,.slice none 0 0,.slice none 0 0]:=by
  refine⟨(((Bj.refl h.rd).set _).alloc _).alloc _, ?_, ?_⟩
  . have:=(Ap.new (w.setCell ⟨R,1,none⟩ (.int .i64 ((k+1:Nat):Int))) 42 Al).alloc (.cells #[.int .i64 6,.bool false,.int .i64 0,.string ⟨#[]⟩,.slice none 0 0,.slice none 0 0] 42);simpa[World.setCell]using this
  . have:=Ap.new ((w.setCell ⟨R,1,none⟩ (.int .i64 ((k+1:Nat):Int))).alloc (.cells Al 42)) 42 #[.int .i64 6,.bool false,.int .i64 0,.string ⟨#[]⟩,.slice none 0 0,.slice none 0 0];simpa[World.setCell]using this
 have ca:(((w.setCell ⟨R,1,none⟩ (.int .i64 ((k+1:Nat):Int))).alloc (.cells Al 42)).alloc (.cells #[.int .i64 6,.bool false,.int .i64 0,.string ⟨#[]⟩,.slice none 0 0,.slice none 0 0] 42)).heap.size=w.heap.size+2:=by simp[World.setCell]
 obtain⟨c0,c1,_,f1,_⟩:=h.rd.cells;have ek:((k:Int)+1)=((k+1:Nat):Int):=by omega
 obtain⟨b7,X⟩: ∃r,Lh (f+1) s.data.toList k d=r:=⟨_,rfl⟩;rw[X];unfold Lh at X
 cases hB:decide (s.data.toList[Ak s.data.toList (k+1)]? =some 125)with
 |true=>
  have C:=hB;rw[decide_eq_true_iff]at C;rw[if_pos C]at X;subst X;clear C;obtain⟨Hj,bf,bg,bh,Ih,H,ac,Ek,HB⟩:=hid9 hj bp bq br ih h bi ek hB;clear hj bp bq br ih h bi ek hB;go_enter Tryz.func139,Tryz.ntmps139;go_wp2
  go_step3
  go_wp2_with (fail);rw[Ek.out];generalize ((w.setCell ⟨R,1,none⟩ (.int .i64 ((k+1:Nat):Int))).alloc (.cells Al 42)).alloc (.cells #[.int .i64 6,.bool false,.int .i64 0,.string ⟨#[]⟩,.slice none 0 0,.slice none 0 0] 42)=w1 at ac ca ⊢;have hC:=D5 R g s (k+1) 125 125 (by decide) w1 (by omega) (by omega) ac.out.went.2 HB.out;rw[if_pos rfl]at hC;(with_reducible refine hC.mono ?_);rintro e w2 ⟨rfl,h2⟩;have aa:=ac.out.to_ hR h2;obtain⟨y0,y1,y2,y3,y4,y5⟩:=At aa.var;obtain⟨r0,r1,r2,r3,r4,r5⟩:=At aa.res;have fz:=aa.res.frozen;have cm:=qz aa;clear aa;clear hC c0 c1 f1 h2 ac;dsimp only
  repeat go_step
  obtain⟨bo,au⟩:=cm.out.leave hR (.int .i64 6) (.bool false) (.int .i64 0) (.string ⟨#[]⟩) (.slice none 0 0) (.slice none 0 0);rw[Exit.noGoto_ret];exact bodyPost_ret (Br rfl rfl bo) rfl ⟨⟨_,rfl,Bz 6 false 0 _⟩,au⟩
 |false=>
  have C:=hB;rw[decide_eq_false_iff_not]at C;rw[if_neg C]at X;clear C;have c9:=fun W=>run_makeMap (P:=Tryz.prog) Am6 W;obtain⟨Hj,bf,bg,bh,Ih,H,ac,Ek,HB,bt,cn⟩:=hid11 hj bp bq br ih h bi ek hB X ch;clear hj bp bq br ih h bi ek hB X ch;go_enter Tryz.func139,Tryz.ntmps139;go_wp2
  go_step3
  go_wp2_with (fail);rw[Ek.out];generalize ((w.setCell ⟨R,1,none⟩ (.int .i64 ((k+1:Nat):Int))).alloc (.cells Al 42)).alloc (.cells #[.int .i64 6,.bool false,.int .i64 0,.string ⟨#[]⟩,.slice none 0 0,.slice none 0 0] 42)=w1 at ac ca ⊢;have hC:=D5 R g s (k+1) 125 125 (by decide) w1 (by omega) (by omega) ac.out.went.2 HB.out;rw[if_neg (by decide)]at hC;(with_reducible refine hC.mono ?_);rintro e w2 ⟨rfl,h2⟩;have aa:=ac.out.to_ hR h2;have hG:w.heap.size+2<=w2.heap.size:=by have:=h2.1.size;omega
  have a3:Hid (ORd w (w2.alloc (.map #[] 0)) R g s d b7 w2.heap.size (f+1) f (Ak s.data.toList (k+1)) [] (.slice none 0 0)):=
   ⟨⟨aa.went.alloc _,aa.res.alloc _,aa.var.alloc _⟩,by simpa[dO]using C3.nil _ _ _ _,Co.new w2,by simp,bt.out,by omega,by omega,by simp⟩
  clear hC c0 c1 f1 h2 ac bt aa HB ca;generalize Ak s.data.toList (k+1)=p1 at a3 hP cf;go_wp2
  go_step3
  go_wp2;generalize w2.alloc (.map #[] 0)=w3 at a3 ⊢;generalize w2.heap.size=G at a3 hG ⊢
  go_loopg [] f (fun n wr=> ∃m j acc V,m=n/\j<=s.size/\Hid (ORd w wr R g s d b7 G (f+1) m j acc V))
  case atStart=>exact⟨f,p1, [],_,rfl,hP,a3⟩
  case round=>
   obtain⟨n,j,acc,V,rfl,hj,hh⟩:=hrel;clear a3 hP cf p1;have da:=hh.out.fuel;have db:=hh.out.lt;have c7:=hh.out.few;obtain⟨n,rfl⟩: ∃m,n=m+2:=⟨n - 2,by omega⟩;have hI:=hh.out.all;have B:=hh.out.row;have o:=hh.out.is;have Y:=hh.out.map;have bx:=Y.lt;have cu:G≠R:=by omega
   have am:=H.out.to hI.went;have cv:Ak s.data.toList j<=s.size:=Bq hj;have cz:=Bv s.data.toList j;have l:=Aa1 R g G s acc j wr (fun W hW=>cn.out.below (am.below.grown hW am.below.size fun r e=>by have:=Option.some.inj e;have:=am.ge;omega)) (by omega) hj hI.went.2 Y cu;have hw:=Eu (s:=s.data.toList) (p:=Ak s.data.toList j) (by rw[Ac];exact cv);rw[show n+2=(n+1)+1 from rfl]at o;unfold Bi at o;have bv:=qz hh.out.nod;clear hh am
   cases hr:Cs s.data.toList (Ak s.data.toList j)with
   |bad c q=>
    rw[hr]at l o;simp only at o;subst o;obtain⟨HK,HI⟩:=hid2 l hI;clear l hI;clear hw hr B Y;go_wp2_with (fail);(with_reducible refine(HK.out).mono ?_);rintro e w4 ⟨rfl,hg⟩;exact⟨rfl,rfl,B2 HI.out.went.1 hg⟩
   |ok kk q=>
    rw[hr]at l o hw;simp only at o;obtain⟨df,bm⟩:=hw;rw[Ac]at bm;unfold Ahh at l;dsimp only at l;obtain⟨D,b8⟩: ∃K:ByteArray,(⟨kk.toArray⟩:ByteArray)=K:=⟨_,rfl⟩;rw[b8]at o;simp only[b8]at l;clear b8 hr
    cases hkk:Gf D acc with
    |true=>
     rw[if_pos hkk]at o;simp only[hkk,if_true]at l;subst o;obtain⟨HK,HI⟩:=hid2 l hI;clear l hI;clear B Y;go_wp2_with (fail);(with_reducible refine(HK.out).mono ?_);rintro e w4 ⟨rfl,hg⟩;exact⟨rfl,rfl,B2 HI.out.went.1 hg⟩
    |false=>
     rw[if_neg (by rw[hkk];decide)]at o;simp only[hkk,Bool.false_eq_true,if_false]at l;have cb:=qz hkk;clear hkk
     cases h58:decide (s.data.toList[Ak s.data.toList q]? =some 58)with
     |false=>
      have C:=h58;rw[decide_eq_false_iff_not]at C;rw[if_neg C]at o;clear C;subst o;have dd:Ak s.data.toList q<=s.size:=Bq bm;obtain⟨HK,HI,b0⟩:=hid3 l hI h58;clear l hI h58;clear B Y;go_wp2_with (fail);(with_reducible refine(HK.out).mono ?_);rintro e w4 ⟨rfl,cw,t1,t2,bk⟩;have J:=HI.out.seen hR hG t1 t2;clear t1 t2 bk;have T:=D5 R g s q 58 58 (by decide) w4 (by omega) bm J.went.2 b0.out;rw[if_neg (by decide)]at T;obtain⟨av,O⟩:=hid2 T J;clear T J;go_wp2_with (fail);(with_reducible refine(av.out).mono ?_);rintro e w5 ⟨rfl,h5⟩;have an:=qz (O.out.to_ hR h5);obtain⟨z0,z1,_,_,_⟩:=h5.2.cells;clear h5;have HW:=qz (Cc (.pointer (some ⟨R,0,none⟩)) 4 (Ak s.data.toList q:Nat) w5);go_wp2_with (fail);(with_reducible refine(HW.out).mono ?_);rintro e bs ⟨rfl,rfl⟩;exact⟨rfl,rfl,an.out.went.1⟩
     |true=>
      have C:=h58;rw[decide_eq_true_iff]at C;rw[if_pos C]at o;have b9:=B7 C;rw[Ac]at b9;clear C;have c2:=Bv s.data.toList q;obtain⟨HK,HI,b0,bw,b4⟩:=hid5 l hI h58 B o;clear l hI h58 B o;clear Y;go_wp2_with (fail);(with_reducible refine(HK.out).mono ?_);rintro e w4 ⟨rfl,cw,t1,t2,bk⟩;have J:=HI.out.seen hR hG t1 t2;have b:=qz (bw.out.keep (Nat.le_trans t1.1.size t2.size) (fun i h1 h2=>(t2.block i (Nat.lt_of_lt_of_le h2 t1.1.size) (by intro e;have:=Option.some.inj e;omega)).trans (t1.1.block i h2 (by intro e;have:=Option.some.inj e;omega))));clear t1 t2;have T:=D5 R g s q 58 58 (by decide) w4 (by omega) bm J.went.2 b0.out;rw[if_pos rfl]at T;obtain⟨av,O,cc⟩:=hid3 T J bk;clear T J bk;go_wp2_with (fail);(with_reducible refine(av.out).mono ?_);rintro e wq ⟨rfl,h5⟩;have hI:=O.out.to_ hR h5;have B:=b.out.keep h5.1.size (fun i h1 h2=>h5.1.block i h2 (by intro e;have:=Option.some.inj e;omega));have Y:=cc.out.grown h5.1 (by intro e;have:=Option.some.inj e;omega);clear h5 av O b cc HK HI bw bx;have o:=b4.out;have cg:Ak s.data.toList q+1<=s.size:=by omega
      generalize dc:Ak s.data.toList q+1=p2 at*
      unfold E9 at o;obtain⟨aV,cV,rfl⟩:=B.slice;have am:=H.out.to hI.went;have hC: ∀W,Below wq.heap.size wq W->Calls Tryz.prog 81 #[.pointer (some ⟨R,0,none⟩),.int .i64 (d+1)] W (Gu R g s W (Bb n s.data.toList p2 (d+1))):=fun W hW=>Ih.out n (by omega) W p2 (d+1) (am.later hW) cg (by omega) (by omega) (by omega);have hw:=(Ee n).1 s.data.toList p2 (d+1) (by rw[Ac];exact cg);have ct:IntKind.i64.wrap (d+1)=d+1:=IntWalk.i64_in _ (by omega);have c8:=hI.var.lt;have dl:(dO acc).length=acc.length:=Cb _;have bx:=Y.lt
      cases hr:Bb n s.data.toList p2 (d+1)with
      |bad c q'=>
       rw[hr]at hC o;simp only at o;subst o;have be:=qz hI.var.drew;have ax:=qz B;have bb:=qz (show R<wq.heap.size by have:=hI.went.1.size;omega);obtain⟨HC,HI,Dl⟩:=hid3 hC hI dl;clear hC hI dl;clear hw hr am B Y b4;go_upto_region 9 with(fail);refine wp_region_held_drew (S:=fun _=>True) (by kernel_rfl) trivial (fun a=> ?_);refine tkH 0 a ?_;refine tkH 2 a ?_;refine tkH 3 a ?_;refine tkH 4 a ?_;refine tkH 5 a ?_;refine wpAnyH_ready (rs:= [1,6]) (by kernel_rfl) (by simp) ?_;refine AllReadyH.cons rfl (fun K l=> ?_) (AllReadyH.cons rfl (fun K l=> ?_) AllReadyH.nil)
       . skip;have e4:=be.out.cell 5;go_simp;refine l.out _ _ trivial (fun a=> ?_);clear l K e4
         try simp only[Act.put,tk4,tk5,tk6]
         refine wpAnyH_ready (rs:= [6]) (by kernel_rfl) (by simp) ?_;refine AllReadyH.cons rfl (fun K l=> ?_) AllReadyH.nil;go_simp;(with_reducible refine(HC.out _ (Below.drew (Below.refl _ _))).mono ?_);rintro e w4 ⟨rfl,hg⟩;exact⟨rfl,rfl,B2 HI.out.went.1 ⟨hg.os,hg.tape,hg.output,hg.size,hg.block⟩⟩
       . skip;go_simp;(with_reducible refine(HC.out _ (Below.drew (Below.refl _ _))).mono ?_);rintro e w4 ⟨rfl,hg⟩;exact⟨rfl,rfl,B2 HI.out.went.1 ⟨hg.os,hg.tape,hg.output,hg.size,hg.block⟩⟩
      |ok v q'=>
       rw[hr]at hC o hw;simp only at o;obtain⟨dg,bn⟩:=hw;rw[Ac]at bn;obtain⟨E,b',F,I,l',o'⟩:=v;have cl:dO acc++ [dP (D,.mk E b' F I l' o')]=dO (acc++ [(D,.mk E b' F I l' o')]):=by rw[Dx,Dx];simp
       have ao:Hid ((dO acc).length+1<=maxLen/\((dO acc).length+1)*104<=140737488355328):=by rw[dl];exact⟨by simp only[maxLen];omega,by omega⟩
       have be:=qz hI.var.drew;have ax:=qz B;have bb:=qz (show R<wq.heap.size by have:=hI.went.1.size;omega);obtain⟨b3,bu,HC,HI,Dl,bd⟩:=hid6 Y o hC hI dl cl;clear hC hI dl cl;clear hr am B Y b4 o;go_upto_region 9 with(fail);go_cut [] (fun wx=>Hid (∃V,RdL w wx R g s q' #[.int .i64 6,.bool false,.int .i64 0,.string ⟨#[]⟩,.slice none 0 0,V]/\C3 (G+1) 111 7 wx (dO (acc++ [(D,.mk E b' F I l' o')])) V/\Co Value.string wx G (Tk acc++ [(D,.agg #[])])))
       case first=>
        refine wp_region_held_drew (S:=fun _=>True) (by kernel_rfl) trivial (fun a=> ?_);refine tkH 0 a ?_;refine tkH 2 a ?_;refine tkH 3 a ?_;refine tkH 4 a ?_;refine tkH 5 a ?_;refine wpAnyH_ready (rs:= [1,6]) (by kernel_rfl) (by simp) ?_;refine AllReadyH.cons rfl (fun K l=> ?_) (AllReadyH.cons rfl (fun K l=> ?_) AllReadyH.nil)
        . skip;have e4:=be.out.cell 5;go_simp;refine l.out _ _ trivial (fun a=> ?_);clear l K e4
          try simp only[Act.put,tk4,tk5,tk6]
          refine wpAnyH_ready (rs:= [6]) (by kernel_rfl) (by simp) ?_;refine AllReadyH.cons rfl (fun K l=> ?_) AllReadyH.nil;go_simp;(with_reducible refine(HC.out _ (Below.drew (Below.refl _ _))).mono ?_);rintro e w4 ⟨⟨cs,rfl,ar⟩,h4⟩;obtain⟨u,x,y,z,rfl⟩:=Dc ar;obtain⟨wm,a8,a9,ba⟩:=Ii bb.out h4.undrew.1;have J:=HI.out.to_ hR h4.undrew;have b:=qz (ax.out.keep (by rw[a8];exact Nat.le_refl _) (fun i h1 _=>a9 i (by omega)));have bc:Hid (A7 wm.heap.size w4 (dV (.mk E b' F I l' o')) [.int .i64 E,.bool b',.int .i64 F,.string I,.slice u l'.length x,.slice y o'.length z]):=by rw[a8];exact ar
          have a4:=qz J.var;obtain⟨aq,O⟩:=hid2 ba J;clear ba J;have aw:=qz (b3.out.grown h4.undrew.1 (by intro e;have:=Option.some.inj e;omega));clear ar h4 a9;refine l.out _ _ trivial (fun a=> ?_);clear l K
          try simp only[Act.put,tk4,tk5,tk6]
          refine tkH 7 a ?_;refine wpAnyH_ready (rs:= [8]) (by kernel_rfl) (by simp) ?_;refine AllReadyH.cons rfl (fun K l=> ?_) AllReadyH.nil;go_simp;have a0:=qz (a4.out.alloc (.cells #[.string D,.int .i64 E,.bool b',.int .i64 F,.string I,.slice u l'.length x,.slice y o'.length z] 111));refine l.out _ _ trivial (fun a=> ?_);clear l K
          try simp only[Act.put,tk4,tk5,tk6]
          refine wpAnyH_ready (rs:= [9]) (by kernel_rfl) (by simp) ?_;refine AllReadyH.cons rfl (fun K l=> ?_) AllReadyH.nil;have aj:=aq.out.alloc aq.out.size (.cells #[.string D,.int .i64 E,.bool b',.int .i64 F,.string I,.slice u l'.length x,.slice y o'.length z] 111);have ak:=(Js (key:=D) bc.out).later (Aa w4 (.cells #[.string D,.int .i64 E,.bool b',.int .i64 F,.string I,.slice u l'.length x,.slice y o'.length z] 111));refine Do (d:=dP (D,.mk E b' F I l' o')) (V:=.slice aV (dO acc).length cV) (by rfl) (.tmp 33) (.tmp 40) 40 (by rfl) Tryz.underlying40 Hj.out bf.out bg.out bh.out rfl (by omega) (by rfl) b.out (by omega) aj (D6 _) ak (by rfl) (Fr w4 _ _ _ _ _ _ _) ao.out.1 ao.out.2 ?_;intro V6 w6 t A ai;have al:=Bj.app (O.out.went.alloc (.cells #[.string D,.int .i64 E,.bool b',.int .i64 F,.string I,.slice u l'.length x,.slice y o'.length z] 111)) A b.out (by omega) hR;have Z:=C8 (O.out.res.alloc (.cells #[.string D,.int .i64 E,.bool b',.int .i64 F,.string I,.slice u l'.length x,.slice y o'.length z] 111)) A b.out (by omega);have M:=C8 a0.out A b.out (by omega);have a5:=(aw.out.alloc (.cells #[.string D,.int .i64 E,.bool b',.int .i64 F,.string I,.slice u l'.length x,.slice y o'.length z] 111)).grown A (by intro e;have:=(b.out.base _ e.symm).1;omega);rw[bd.out]at t;refine l.out _ _ trivial (fun a=> ?_);clear l K A ai ak aj
          try simp only[Act.put,tk4]
          refine tkH 10 a ?_;refine wpAnyH_ready (rs:= [11]) (by kernel_rfl) (by simp) ?_;refine AllReadyH.cons rfl (fun K l=> ?_) AllReadyH.nil;have e6:=M.cell 5;have f6:=M.frozen 5;have bz:=M.lt;obtain⟨a6,c6,rfl⟩:=t.slice;go_simp;refine l.out _ _ trivial (fun a=> ?_);clear l K
          try simp only[Act.put,tk4,tk5,tk6]
          refine wpAnyH_done (by kernel_rfl) ?_ _;go_wp2;go_meet;exact⟨_,⟨al.setN _ (by simp) hR _,Z.far (by simp) _,M.set_ 5 _⟩,t.keep (by simp[World.setCell]) (fun i h1 _=>Below.heap_setCell _ _ _ _ (by simp;omega)),a5.setCell (by simp;omega) _⟩
        . skip;go_simp;(with_reducible refine(HC.out _ (Below.drew (Below.refl _ _))).mono ?_);rintro e w4 ⟨⟨cs,rfl,ar⟩,h4⟩;obtain⟨u,x,y,z,rfl⟩:=Dc ar;obtain⟨wm,a8,a9,ba⟩:=Ii bb.out h4.undrew.1;have J:=HI.out.to_ hR h4.undrew;have b:=qz (ax.out.keep (by rw[a8];exact Nat.le_refl _) (fun i h1 _=>a9 i (by omega)));have bc:Hid (A7 wm.heap.size w4 (dV (.mk E b' F I l' o')) [.int .i64 E,.bool b',.int .i64 F,.string I,.slice u l'.length x,.slice y o'.length z]):=by rw[a8];exact ar
          have a4:=qz J.var;obtain⟨aq,O⟩:=hid2 ba J;clear ba J;have aw:=qz (b3.out.grown h4.undrew.1 (by intro e;have:=Option.some.inj e;omega));clear ar h4 a9;refine l.out _ _ trivial (fun a=> ?_);clear l K
          try simp only[Act.put,tk4,tk5,tk6]
          refine tkH 7 a ?_;refine wpAnyH_ready (rs:= [1,8]) (by kernel_rfl) (by simp) ?_;refine AllReadyH.cons rfl (fun K l=> ?_) (AllReadyH.cons rfl (fun K l=> ?_) AllReadyH.nil)
          . skip;have e4:=a4.out.cell 5;go_simp;refine l.out _ _ trivial (fun a=> ?_);clear l K e4
            try simp only[Act.put,tk4,tk5,tk6]
            refine wpAnyH_ready (rs:= [8]) (by kernel_rfl) (by simp) ?_;refine AllReadyH.cons rfl (fun K l=> ?_) AllReadyH.nil;go_simp;have a0:=qz (a4.out.alloc (.cells #[.string D,.int .i64 E,.bool b',.int .i64 F,.string I,.slice u l'.length x,.slice y o'.length z] 111));refine l.out _ _ trivial (fun a=> ?_);clear l K
            try simp only[Act.put,tk4,tk5,tk6]
            refine wpAnyH_ready (rs:= [9]) (by kernel_rfl) (by simp) ?_;refine AllReadyH.cons rfl (fun K l=> ?_) AllReadyH.nil;have aj:=aq.out.alloc aq.out.size (.cells #[.string D,.int .i64 E,.bool b',.int .i64 F,.string I,.slice u l'.length x,.slice y o'.length z] 111);have ak:=(Js (key:=D) bc.out).later (Aa w4 (.cells #[.string D,.int .i64 E,.bool b',.int .i64 F,.string I,.slice u l'.length x,.slice y o'.length z] 111));refine Do (d:=dP (D,.mk E b' F I l' o')) (V:=.slice aV (dO acc).length cV) (by rfl) (.tmp 33) (.tmp 40) 40 (by rfl) Tryz.underlying40 Hj.out bf.out bg.out bh.out rfl (by omega) (by rfl) b.out (by omega) aj (D6 _) ak (by rfl) (Fr w4 _ _ _ _ _ _ _) ao.out.1 ao.out.2 ?_;intro V6 w6 t A ai;have al:=Bj.app (O.out.went.alloc (.cells #[.string D,.int .i64 E,.bool b',.int .i64 F,.string I,.slice u l'.length x,.slice y o'.length z] 111)) A b.out (by omega) hR;have Z:=C8 (O.out.res.alloc (.cells #[.string D,.int .i64 E,.bool b',.int .i64 F,.string I,.slice u l'.length x,.slice y o'.length z] 111)) A b.out (by omega);have M:=C8 a0.out A b.out (by omega);have a5:=(aw.out.alloc (.cells #[.string D,.int .i64 E,.bool b',.int .i64 F,.string I,.slice u l'.length x,.slice y o'.length z] 111)).grown A (by intro e;have:=(b.out.base _ e.symm).1;omega);rw[bd.out]at t;refine l.out _ _ trivial (fun a=> ?_);clear l K A ai ak aj
            try simp only[Act.put,tk4]
            refine tkH 10 a ?_;refine wpAnyH_ready (rs:= [11]) (by kernel_rfl) (by simp) ?_;refine AllReadyH.cons rfl (fun K l=> ?_) AllReadyH.nil;have e6:=M.cell 5;have f6:=M.frozen 5;have bz:=M.lt;obtain⟨a6,c6,rfl⟩:=t.slice;go_simp;refine l.out _ _ trivial (fun a=> ?_);clear l K
            try simp only[Act.put,tk4,tk5,tk6]
            refine wpAnyH_done (by kernel_rfl) ?_ _;go_wp2;go_meet;exact⟨_,⟨al.setN _ (by simp) hR _,Z.far (by simp) _,M.set_ 5 _⟩,t.keep (by simp[World.setCell]) (fun i h1 _=>Below.heap_setCell _ _ _ _ (by simp;omega)),a5.setCell (by simp;omega) _⟩
          . skip;go_simp;have a0:=qz (a4.out.alloc (.cells #[.string D,.int .i64 E,.bool b',.int .i64 F,.string I,.slice u l'.length x,.slice y o'.length z] 111));refine l.out _ _ trivial (fun a=> ?_);clear l K
            try simp only[Act.put,tk4,tk5,tk6]
            refine wpAnyH_ready (rs:= [1]) (by kernel_rfl) (by simp) ?_;refine AllReadyH.cons rfl (fun K l=> ?_) AllReadyH.nil;have e4:=a0.out.cell 5;go_simp;refine l.out _ _ trivial (fun a=> ?_);clear l K e4
            try simp only[Act.put,tk4,tk5,tk6]
            refine wpAnyH_ready (rs:= [9]) (by kernel_rfl) (by simp) ?_;refine AllReadyH.cons rfl (fun K l=> ?_) AllReadyH.nil;have aj:=aq.out.alloc aq.out.size (.cells #[.string D,.int .i64 E,.bool b',.int .i64 F,.string I,.slice u l'.length x,.slice y o'.length z] 111);have ak:=(Js (key:=D) bc.out).later (Aa w4 (.cells #[.string D,.int .i64 E,.bool b',.int .i64 F,.string I,.slice u l'.length x,.slice y o'.length z] 111));refine Do (d:=dP (D,.mk E b' F I l' o')) (V:=.slice aV (dO acc).length cV) (by rfl) (.tmp 33) (.tmp 40) 40 (by rfl) Tryz.underlying40 Hj.out bf.out bg.out bh.out rfl (by omega) (by rfl) b.out (by omega) aj (D6 _) ak (by rfl) (Fr w4 _ _ _ _ _ _ _) ao.out.1 ao.out.2 ?_;intro V6 w6 t A ai;have al:=Bj.app (O.out.went.alloc (.cells #[.string D,.int .i64 E,.bool b',.int .i64 F,.string I,.slice u l'.length x,.slice y o'.length z] 111)) A b.out (by omega) hR;have Z:=C8 (O.out.res.alloc (.cells #[.string D,.int .i64 E,.bool b',.int .i64 F,.string I,.slice u l'.length x,.slice y o'.length z] 111)) A b.out (by omega);have M:=C8 a0.out A b.out (by omega);have a5:=(aw.out.alloc (.cells #[.string D,.int .i64 E,.bool b',.int .i64 F,.string I,.slice u l'.length x,.slice y o'.length z] 111)).grown A (by intro e;have:=(b.out.base _ e.symm).1;omega);rw[bd.out]at t;refine l.out _ _ trivial (fun a=> ?_);clear l K A ai ak aj
            try simp only[Act.put,tk4]
            refine tkH 10 a ?_;refine wpAnyH_ready (rs:= [11]) (by kernel_rfl) (by simp) ?_;refine AllReadyH.cons rfl (fun K l=> ?_) AllReadyH.nil;have e6:=M.cell 5;have f6:=M.frozen 5;have bz:=M.lt;obtain⟨a6,c6,rfl⟩:=t.slice;go_simp;refine l.out _ _ trivial (fun a=> ?_);clear l K
            try simp only[Act.put,tk4,tk5,tk6]
            refine wpAnyH_done (by kernel_rfl) ?_ _;go_wp2;go_meet;exact⟨_,⟨al.setN _ (by simp) hR _,Z.far (by simp) _,M.set_ 5 _⟩,t.keep (by simp[World.setCell]) (fun i h1 _=>Below.heap_setCell _ _ _ _ (by simp;omega)),a5.setCell (by simp;omega) _⟩
       obtain⟨V',ah,N,a7⟩:=hcut.out;have c3:=a7.lt;have ck:Ak s.data.toList q'<=s.size:=Bq bn;have de:=Bv s.data.toList q';have bl:=Ain cb.out bv.out (.mk E b' F I l' o');clear hcut HC HI Dl bd be ax bb ao ct b3 cb bv
       cases h44:decide (s.data.toList[Ak s.data.toList q']? =some 44)with
       |true=>
        have L:=D5 R g s q' 44 44 (by decide) wc (by omega) bn ah.went.2 h44;rw[if_pos rfl]at L;have C:=h44;rw[decide_eq_true_iff]at C;have ae:=bu.out;rw[if_pos C]at ae;have cj:=B7 C;rw[Ac]at cj;clear C h44;obtain⟨an,ad,ag,cp,cd,b5⟩:=hid6 ah N L ae a7 bl;clear ah N L ae a7 bl;go_wp2_with (fail);(with_reducible refine(ag.out).mono ?_);rintro e w8 ⟨rfl,h8⟩;have HN:Hid (ORd w w8 R g s d b7 G (f+1) n (Ak s.data.toList q'+1) (acc++ [(D,.mk E b' F I l' o')]) V'):=⟨an.out.to_ hR h8,ad.out.keep h8.1.size (fun i h1 h2=>h8.1.block i h2 (by intro e;have:=Option.some.inj e;omega)),by simpa[Tk]using cd.out.grown h8.1 (by intro e;have:=Option.some.inj e;omega),b5.out,cp.out,by omega,by omega,by simp;omega⟩;clear h8;go_wp2
        go_roundg n
        case measure=>omega
        case rel=>exact⟨n,_,_,_,rfl,by omega,HN⟩
       |false=>
        have L:=D5 R g s q' 44 44 (by decide) wc (by omega) bn ah.went.2 h44;rw[if_neg (by decide)]at L;have C:=h44;rw[decide_eq_false_iff_not]at C;have ae:=bu.out;rw[if_neg C]at ae;clear C h44
        cases h93:decide (s.data.toList[Ak s.data.toList q']? =some 125)with
        |true=>
         have C:=h93;rw[decide_eq_true_iff]at C;rw[if_pos C]at ae;clear C;subst ae;obtain⟨an,ad,ag,b1,b5⟩:=hid5 ah N L h93 bl;clear ah N L h93 bl;go_wp2_with (fail);(with_reducible refine(ag.out).mono ?_);rintro e w8 ⟨rfl,h8⟩;have Q:=b1.out;rw[<-D2]at Q;have U:=D5 R g s (Ak s.data.toList q') 125 125 (by decide) w8 (by omega) ck h8.2 Q;rw[if_pos rfl,D2]at U;have ce:=an.out.to_ hR h8;have dh:=h8.1.size;have b6:=qz (ad.out.keep h8.1.size (fun i h1 h2=>h8.1.block i h2 (by intro e;have:=Option.some.inj e;omega)));clear h8 Q;obtain⟨b2,a1⟩:=hid2 ce U;clear ce U;go_wp2_with (fail);(with_reducible refine(a1.out).mono ?_);rintro e w9 ⟨rfl,h9⟩;have bj:=b2.out.to_ hR h9;have di:=h9.1.size;have af:=b6.out.keep h9.1.size (fun i h1 h2=>h9.1.block i h2 (by intro e;have:=Option.some.inj e;omega));clear h9;obtain⟨a',c',rfl⟩:=af.slice;have c4:G+1<=w9.heap.size:=by omega
         have HS:=qz (Vd af (by omega) b5.out (by simp;omega));have y5:=bj.var.cell 5;have ci:=bj.var.lt;obtain⟨a2,ap⟩:=hid2 bj af;clear bj af;go_wp2_with (fail);(with_reducible refine(HS.out).mono ?_);rintro e bs ⟨rfl,az,ay⟩;have au:=Bj.app a2.out.went az ap.out (by omega) hR;have ab:RdL w bs R g s (Ak s.data.toList q'+1) #[.int .i64 6,.bool false,.int .i64 0,.string ⟨#[]⟩,.slice none 0 0,.slice a' (dO (acc++ [(D,.mk E b' F I l' o')])).length c']:=⟨au,C8 a2.out.res az ap.out (by omega),C8 a2.out.var az ap.out (by omega)⟩;clear au az y5 ci;obtain⟨y0,y1,y2,y3,y4,y5⟩:=At ab.var;obtain⟨r0,r1,r2,r3,r4,r5⟩:=At ab.res;have fz:=ab.res.frozen;have el:(dO (acc++ [(D,.mk E b' F I l' o')])).length=acc.length+1:=by rw[Cb];simp
         rw[el]at y5 ay;obtain⟨bo,au⟩:=ab.leave hR (.int .i64 6) (.bool false) (.int .i64 0) (.string ⟨#[]⟩) (.slice none 0 0) (.slice a' (acc.length+1) c');have co:=qz (Afz (ay.keep (b':=w.heap.size) (w':=A4 bs w.heap.size 0 [.int .i64 6,.bool false,.int .i64 0,.string ⟨#[]⟩,.slice none 0 0,.slice a' (acc.length+1) c']) (by omega) (by rw[Ba];exact Nat.le_refl _) (fun p p1 p2=>World.cell?_of_block (Ay _ _ _ _ _ (by omega)))));obtain⟨cx,cr,cq,cy⟩:=hid4 ab bo au ay;clear ab bo au ay;go_upto_region 14 with(fail);go_wp2;rw[Exit.noGoto_ret];exact bodyPost_ret (Br rfl rfl cr.out) rfl ⟨⟨_,rfl,co.out⟩,cq.out⟩
        |false=>
         have C:=h93;rw[decide_eq_false_iff_not]at C;rw[if_neg C]at ae;clear C;subst ae;obtain⟨an,ad,ag,b1⟩:=hid4 ah N L h93;clear ah N L h93;go_wp2_with (fail);(with_reducible refine(ag.out).mono ?_);rintro e w8 ⟨rfl,h8⟩;have Q:=b1.out;rw[<-D2]at Q;have U:=D5 R g s (Ak s.data.toList q') 125 125 (by decide) w8 (by omega) ck h8.2 Q;rw[if_neg (by decide),D2]at U;have b2:=qz (an.out.to_ hR h8);clear h8 Q;have a1:=qz U;clear U;go_wp2_with (fail);(with_reducible refine(a1.out).mono ?_);rintro e w9 ⟨rfl,h9⟩;have a2:=qz (b2.out.to_ hR h9);obtain⟨z0,z1,_,_,_⟩:=h9.2.cells;clear h9;have HW:=qz (Cc (.pointer (some ⟨R,0,none⟩)) 4 (Ak s.data.toList q':Nat) w9);go_wp2_with (fail);(with_reducible refine(HW.out).mono ?_);rintro e bs ⟨rfl,rfl⟩;exact⟨rfl,rfl,a2.out.went.1⟩
theorem Qo (w:World):(zeroValue 152).run Tryz.prog w=.ok .nilFunc w:=by kernel_rfl
theorem RdI.drewN {w0 w:World} {R g k:Nat} {s:ByteArray} (h:RdI w0 w R g s k) (n:Nat):RdI w0 (w.drewN n) R g s k:=⟨⟨h.below.os,h.below.tape,h.below.output,h.below.size,h.below.block⟩,h.ge,h.rd,h.map⟩
theorem Bj.undrewN {w w1:World} {R g k:Nat} {s:ByteArray} {n:Nat} (h:Bj R g s k (w.drewN n) w1):Bj R g s k w w1:=⟨⟨h.1.os,h.1.tape,h.1.output,h.1.size,h.1.block⟩,h.2⟩
theorem Anr {R g q:Nat} {s:ByteArray} {w w1 a:World} {v:Val} {cs:List Value} {j:Nat} (f:R<w.heap.size) (b:Bj R g s j (w.alloc (.cells Al 42)) w1) (d:Bj R g s q w1 a) (h:A7 w1.heap.size a (dV v) cs):
 Ap a w.heap.size 42 Al/\Bj R g s q w a/\A7 w.heap.size a (dV v) cs:=
 ⟨(b.res f).grown d.1 (by intro e;have:=Option.some.inj e;omega),b.unAlloc.trans d,fun c i k=>h c i (fun p m l=>k p (by have:=b.unAlloc.1.size;omega) l)⟩
theorem Gk (n:Nat) (L: ∀(args:Array Value) (w:World),(callFunc n args).run Tryz.prog w=.ok (.enter n args) w) (w0:World) (R g:Nat) (s:ByteArray) (w:World) (k:Nat) (d:Int) (c:UInt8) (u:Rd Val) (h:RdI w0 w R g s k) (hs:s.size<=100000000) (hk:k<=s.size) (ae:0<=d) (hd:d<=64)
 (D:s.data.toList[Ak s.data.toList k]? =some c) (f:Dw (c.toNat:Int) (KV R)=some (.func (.func n) #[.pointer (some ⟨R,0,none⟩)] #[]))
 (a: ∀W,RdI w0 W R g s (Ak s.data.toList k)->Calls Tryz.prog n #[.pointer (some ⟨R,0,none⟩),.int .i64 d] W (Gu R g s W u)):
 Calls Tryz.prog 81 #[.pointer (some ⟨R,0,none⟩),.int .i64 d] w (Gu R g s w u):=by
 have Y:R<w.heap.size:=Ap.lt h.rd;have x:=h.later (Aa w (.cells Al 42));have U:=Gj R g s k (w.alloc (.cells Al 42)) (by omega) hk x.rd;generalize Ak s.data.toList k=p at U D a;have V:p<s.size:=by have:=B7 D;rwa [Ac]at this
 have hx:s[p]=c:=by rw[Bc s V]at D;exact Option.some.inj D
 have ad:=Bl c;have i0:(0:Int)<=(p:Int):=by omega
 have i1:(p:Int)<(s.size:Int):=by omega
 have e1:((p:Int)==(s.size:Int))=false:=by rw[beq_eq_false_iff_ne];omega
 have af:decide (d>64)=false:=decide_eq_false (by omega);have ag:decide ((64:Int)<d)=false:=decide_eq_false (by omega);clear D;obtain⟨HS,r,H,Q,t⟩:=hid5 U a h x f;clear U a h x f;go_enter Tryz.func81,Tryz.ntmps81;go_wp2_with (fail);(with_reducible refine(HS.out).mono ?_);rintro e w1 ⟨rfl,K⟩;have y:=Q.out.to K;obtain⟨c0,c1,c2,f1,_⟩:=K.2.cells;have l:=fun m=>Jp (w:=w1.drewN m) Dt Tryz.underlying153 y.map (c.toNat:Int) Qo true;rw[t.out]at l;simp only[Option.getD_some,Option.isSome_some,if_true]at l;obtain⟨P,S⟩:=hid2 K y;clear K y;go_wp2;go_quiet (fail);go_wp2;go_quiet (fail);go_wp2_with (fail);(with_reducible refine(r.out _ (S.out.drewN _)).mono ?_);rintro e w2 hp
 cases u with
 |bad c' q=>
  obtain⟨rfl,F⟩:=hp;exact⟨rfl,rfl,B2 P.out.unAlloc.1 ⟨F.os,F.tape,F.output,F.size,F.block⟩⟩
 |ok v q=>
  obtain⟨⟨cs,rfl,i⟩,X⟩:=hp;obtain⟨I,C,J,tv,lv,ov⟩:=v;obtain⟨M,N,O,oc,rfl⟩:=Dc i;obtain⟨b,z,E⟩:=Anr Y P.out X.undrewN i;obtain⟨r0,r1,r2,r3,r4,r5⟩:=At b;have fz:=b.frozen;have Z:=b.lt;have G:=((((((b.set_ 0 (.int .i64 I)).set_ 1 (.bool C)).set_ 2 (.int .i64 J)).set_ 3 (.string tv)).set_ 4 (.slice M lv.length N)).set_ 5 (.slice O ov.length oc));have o:=Bj.many (Nat.le_refl _) Y [.int .i64 I,.bool C,.int .i64 J,.string tv,.slice M lv.length N,.slice O ov.length oc] 0 z;have j:A7 w.heap.size (A4 w2 w.heap.size 0 [.int .i64 I,.bool C,.int .i64 J,.string tv,.slice M lv.length N,.slice O ov.length oc]) (dV (.mk I C J tv lv ov)) [.int .i64 I,.bool C,.int .i64 J,.string tv,.slice M lv.length N,.slice O ov.length oc]:=by
   have hz:=P.out.1.size;simp only[World.size_alloc]at hz;exact i.keep (b':=w.heap.size) (by show w.heap.size<=w1.heap.size;omega) (by rw[Ba];exact Nat.le_refl _) (fun p p1 _=>World.cell?_of_block (Ay _ _ _ _ _ (by have ah:w1.heap.size<=p.block:=p1;omega)))
  obtain⟨ac,ab,aa,T,B,A⟩:=hid6 b z E G o j;clear b z E G o j;clear X i;go_wp2;exact bodyPost_ret (Br rfl rfl T.out) rfl ⟨⟨_,rfl,A.out⟩,B.out⟩
theorem Uj (w0:World) (R g:Nat) (s:ByteArray) (w:World) (k:Nat) (d:Int) (h:RdI w0 w R g s k) (G:s.size<=100000000) (z:k<=s.size)
 (f:s.data.toList[Ak s.data.toList k]? =none\/ ∃c,s.data.toList[Ak s.data.toList k]? =some c/\Dw (c.toNat:Int) (KV R)=none):
 Calls Tryz.prog 81 #[.pointer (some ⟨R,0,none⟩),.int .i64 d] w (Gu R g s w (.bad 4 (Ak s.data.toList k))):=by
 have F:R<w.heap.size:=Ap.lt h.rd;have a:=h.later (Aa w (.cells Al 42));have q:=Gj R g s k (w.alloc (.cells Al 42)) (by omega) z a.rd;have x:=Bq z;generalize Ak s.data.toList k=p at q f x ⊢;have J:(0:Int)<=(p:Int):=by omega
 rcases f with f|⟨c,f,b⟩
 . have E:p=s.size:=by
    rw[List.getElem?_eq_none_iff,Ac]at f;omega
   subst E;have B:((s.size:Int)==(s.size:Int))=true:=by simp
   clear f;obtain⟨t,H,o⟩:=hid3 q h a;clear q h a;go_enter Tryz.func81,Tryz.ntmps81;go_wp2_with (fail);(with_reducible refine(t.out).mono ?_);rintro e w1 ⟨rfl,i⟩;obtain⟨c0,c1,c2,C,_⟩:=i.2.cells;have u:=qz (fun m=>Cc (.pointer (some ⟨R,0,none⟩)) 4 (s.size:Nat) (w1.drewN m));have r:=qz i;clear i;go_wp2;go_quiet (fail);go_wp2_with (fail);(with_reducible refine(u.out _).mono ?_);rintro e y ⟨rfl,rfl⟩;exact⟨rfl,rfl,F5 r.out.unAlloc.1 _⟩
 . have v:p<s.size:=by have:=B7 f;rwa [Ac]at this
   have I:s[p]=c:=by rw[Bc s v]at f;exact Option.some.inj f
   have D:=Bl c;have K:(p:Int)<(s.size:Int):=by omega
   have B:((p:Int)==(s.size:Int))=false:=by rw[beq_eq_false_iff_ne];omega
   clear f;obtain⟨t,H,o,l⟩:=hid4 q h a b;clear q h a b;go_enter Tryz.func81,Tryz.ntmps81;go_wp2_with (fail);(with_reducible refine(t.out).mono ?_);rintro e w1 ⟨rfl,i⟩;have n:=o.out.to i;obtain⟨c0,c1,c2,C,_⟩:=i.2.cells;have j:=fun m=>Jp (w:=w1.drewN m) Dt Tryz.underlying153 n.map (c.toNat:Int) Qo true;rw[l.out]at j;simp only[Option.getD_none,Option.isSome_none,if_true]at j;have u:=qz (fun m=>Cc (.pointer (some ⟨R,0,none⟩)) 4 (p:Nat) (w1.drewN m));obtain⟨r,A⟩:=hid2 i n;clear i n;go_wp2;go_quiet (fail);go_wp2;go_quiet (fail);go_wp2_with (fail);(with_reducible refine(u.out _).mono ?_);rintro e y ⟨rfl,rfl⟩;exact⟨rfl,rfl,F5 r.out.unAlloc.1 _⟩
theorem Ad4 (f:Value) (w0:World) (R g:Nat) (s:ByteArray) (w:World) (k:Nat) (d:Int) (c:UInt8) (h:RdI w0 w R g s k) (J:s.size<=100000000) (v:k<=s.size) (I:64<d)
 (n:s.data.toList[Ak s.data.toList k]? =some c) (a:Dw (c.toNat:Int) (KV R)=some f):
 Calls Tryz.prog 81 #[.pointer (some ⟨R,0,none⟩),.int .i64 d] w (Gu R g s w (.bad 5 (Ak s.data.toList k))):=by
 have G:R<w.heap.size:=Ap.lt h.rd;have j:=h.later (Aa w (.cells Al 42));have r:=Gj R g s k (w.alloc (.cells Al 42)) (by omega) v j.rd;have u:=Bq v;generalize Ak s.data.toList k=p at r n u ⊢;have L:(0:Int)<=(p:Int):=by omega
 have t:p<s.size:=by have:=B7 n;rwa [Ac]at this
 have K:s[p]=c:=by rw[Bc s t]at n;exact Option.some.inj n
 have B:=Bl c;have M:(p:Int)<(s.size:Int):=by omega
 have E:((p:Int)==(s.size:Int))=false:=by rw[beq_eq_false_iff_ne];omega
 have C:decide ((64:Int)<d)=true:=decide_eq_true (by omega);clear n;obtain⟨z,H,q,i⟩:=hid4 r h j a;clear r h j a;go_enter Tryz.func81,Tryz.ntmps81;go_wp2_with (fail);(with_reducible refine(z.out).mono ?_);rintro e w1 ⟨rfl,o⟩;have l:=q.out.to o;obtain⟨c0,c1,c2,F,_⟩:=o.2.cells;have b:=fun m=>Jp (w:=w1.drewN m) Dt Tryz.underlying153 l.map (c.toNat:Int) Qo true;rw[i.out]at b;simp only[Option.getD_some,Option.isSome_some,if_true]at b;have A:=qz (fun m=>Cc (.pointer (some ⟨R,0,none⟩)) 5 (p:Nat) (w1.drewN m));obtain⟨x,y⟩:=hid2 o l;clear o l;go_wp2;go_quiet (fail);go_wp2;go_quiet (fail);go_wp2_with (fail);(with_reducible refine(A.out _).mono ?_);rintro e D ⟨rfl,rfl⟩;exact⟨rfl,rfl,F5 x.out.unAlloc.1 _⟩
theorem Um.below {w w':World} (h:Um w) (a:Below w.heap.size w w'):Um w':=by
 obtain⟨te,b,h⟩:=h;refine⟨te,b, ?_⟩;rw[a.cell (p:=⟨7,0,none⟩) ?_]
 . exact h
 . rcases Nat.lt_or_ge 7 w.heap.size with q|q
   . exact q
   . simp[World.cell?,Array.getElem?_eq_none q]at h
def Xw (c:UInt8):Nat:=if c=91 then 138 else if c=123 then 139 else if c=34 then 137 else if c=110 then 134 else if c=116 then 136 else if c=102 then 135 else 140
set_option maxRecDepth 10000 in
theorem Acv (R:Nat) {c:UInt8} (h:D9 c=false):Dw (c.toNat:Int) (KV R)=none:=by
 have e: ∀n:Nat,n<256->(c=UInt8.ofNat n ↔ c.toNat=n):=fun n k=>⟨fun q=>by rw[q];simp[UInt8.toNat_ofNat',Nat.mod_eq_of_lt k],fun q=>by subst q;simp⟩;unfold D9 Ck at h;simp only[Bool.or_eq_false_iff,beq_eq_false_iff_ne,ne_eq,decide_eq_false_iff_not]at h;obtain⟨⟨⟨⟨⟨⟨⟨l,a⟩,b⟩,d⟩,f⟩,g⟩,i⟩,j⟩:=h;have m: ¬c.toNat=45:=fun q=>a ((e 45 (by decide)).2 q);have o: ¬c.toNat=34:=fun q=>b ((e 34 (by decide)).2 q);have p: ¬c.toNat=91:=fun q=>d ((e 91 (by decide)).2 q);have r: ¬c.toNat=123:=fun q=>f ((e 123 (by decide)).2 q);have s: ¬c.toNat=110:=fun q=>g ((e 110 (by decide)).2 q);have t: ¬c.toNat=116:=fun q=>i ((e 116 (by decide)).2 q);have u: ¬c.toNat=102:=fun q=>j ((e 102 (by decide)).2 q);simp only[KV]
 repeat (first|exact Bm (by omega) rfl|refine Bm (by omega) ?_)
set_option maxRecDepth 10000 in
theorem Acw (R:Nat) {c:UInt8} (h:D9 c=true):Dw (c.toNat:Int) (KV R)=some (.func (.func (Xw c)) #[.pointer (some ⟨R,0,none⟩)] #[]):=by
 have a:c=UInt8.ofNat c.toNat:=by simp
 have b:c.toNat=45\/c.toNat=34\/c.toNat=91\/c.toNat=123\/c.toNat=110\/c.toNat=116\/c.toNat=102\/c.toNat=48\/c.toNat=49\/c.toNat=50\/c.toNat=51\/c.toNat=52\/c.toNat=53\/c.toNat=54\/c.toNat=55\/c.toNat=56\/c.toNat=57:=by
  unfold D9 Ck at h;simp only[Bool.or_eq_true,beq_iff_eq,decide_eq_true_eq]at h;rcases h with((((((h|h)|h)|h)|h)|h)|h)|h
  . omega
  all_goals(subst h;decide)
 rcases b with q|q|q|q|q|q|q|q|q|q|q|q|q|q|q|q|q
 all_goals
  rw[q]at a;subst a;simp[KV,Dw,Xw]
theorem Acj: ∀(args:Array Value) (w:World),(callFunc 138 args).run Tryz.prog w=.ok (.enter 138 args) w:=enters_of Tryz.func138 (by kernel_rfl) rfl
theorem Xj: ∀(args:Array Value) (w:World),(callFunc 139 args).run Tryz.prog w=.ok (.enter 139 args) w:=enters_of Tryz.func139 (by kernel_rfl) rfl
theorem Xk: ∀(args:Array Value) (w:World),(callFunc 137 args).run Tryz.prog w=.ok (.enter 137 args) w:=enters_of Tryz.func137 (by kernel_rfl) rfl
theorem Ack: ∀(args:Array Value) (w:World),(callFunc 134 args).run Tryz.prog w=.ok (.enter 134 args) w:=enters_of Tryz.func134 (by kernel_rfl) rfl
theorem Aft: ∀(args:Array Value) (w:World),(callFunc 136 args).run Tryz.prog w=.ok (.enter 136 args) w:=enters_of Tryz.func136 (by kernel_rfl) rfl
theorem Aif: ∀(args:Array Value) (w:World),(callFunc 135 args).run Tryz.prog w=.ok (.enter 135 args) w:=enters_of Tryz.func135 (by kernel_rfl) rfl
theorem Xi: ∀(args:Array Value) (w:World),(callFunc 140 args).run Tryz.prog w=.ok (.enter 140 args) w:=enters_of Tryz.func140 (by kernel_rfl) rfl
theorem Ag9 (w0:World) (t:Cj w0) (G:Um w0) (R g:Nat) (s:ByteArray) (l:s.size<=100000000): ∀f,Akh w0 R g s f:=by
 intro f
 induction f using Nat.strongRecOn with
 |_ f ih=>
  intro w k d h m N i M;obtain⟨f,rfl⟩: ∃n,f=n+1:=⟨f - 1,by omega⟩;have y:=Bq m;have J:=Bv s.data.toList k;unfold Bb
  cases hc:s.data.toList[Ak s.data.toList k]? with
  |none=>exact Uj w0 R g s w k d h l m (.inl hc)
  |some c=>
   simp only;have q:Ak s.data.toList k<s.size:=by have:=B7 hc;rwa [Ac]at this
   by_cases o:D9 c=false
   . rw[if_pos o];exact Uj w0 R g s w k d h l m (.inr ⟨c,hc,Acv R o⟩)
   rw[if_neg o];have u:D9 c=true:=by simpa using o
   have j:=Acw R u;by_cases p:64<d
   . rw[if_pos p];exact Ad4 _ w0 R g s w k d c h l m p hc j
   rw[if_neg p];have a:d<=64:=by omega
   have v: ∀x,x<f->Akh w0 R g s x:=fun x L=>ih x (by omega);have I: ∀{W},RdI w0 W R g s (Ak s.data.toList k)->Cj W:=fun b=>t.below b.below;by_cases z:c=91
   . subst z;rw[if_pos rfl];exact Gk _ Acj w0 R g s w k d 91 _ h l m i a hc j fun W b=>Yc w0 R g s f v W _ d b l q (by omega) i a
   rw[if_neg z];by_cases A:c=123
   . subst A;rw[if_pos rfl];exact Gk _ Xj w0 R g s w k d 123 _ h l m i a hc j fun W b=>Aa3 w0 t R g s f v W _ d b l q (by omega) i a
   rw[if_neg A];by_cases B:c=34
   . subst B;rw[if_pos rfl];exact Gk _ Xk w0 R g s w k d 34 _ h l m i a hc j fun W b=>Yb R g s _ d W (I b) (by omega) y b.rd
   rw[if_neg B];by_cases C:c=110
   . subst C;rw[if_pos rfl];exact Gk _ Ack w0 R g s w k d 110 _ h l m i a hc j fun W b=>Ac6 R g s _ d W (by omega) y b.rd
   rw[if_neg C];by_cases D:c=116
   . subst D;rw[if_pos rfl];exact Gk _ Aft w0 R g s w k d 116 _ h l m i a hc j fun W b=>Ahc R g s _ d W (by omega) y b.rd
   rw[if_neg D];by_cases E:c=102
   . subst E;rw[if_pos rfl];exact Gk _ Aif w0 R g s w k d 102 _ h l m i a hc j fun W b=>Ajc R g s _ d W (by omega) y b.rd
   rw[if_neg E];have F:Xw c=140:=by unfold Xw;rw[if_neg z,if_neg A,if_neg B,if_neg C,if_neg D,if_neg E]
   rw[F]at j;exact Gk _ Xi w0 R g s w k d c _ h l m i a hc j fun W b=>Aa2 R g s _ d W (fun K H=>G.below (b.below.grown H b.below.size fun r e=>by have:=Option.some.inj e;have:=b.ge;omega)) l q b.rd
structure P3 (w W:World) (a:Array Value) (vb vc:Value):Prop where
 below:Below w.heap.size w W
 blkA:Ap W w.heap.size 42 a
 blkB:Ap W (w.heap.size+1) 3 #[vb]
 blkC:Ap W (w.heap.size+2) 28 #[vc]
theorem P3.later {w W b:World} {a:Array Value} {c d:Value} (h:P3 w W a c d) (t:Below W.heap.size W b):P3 w b a c d:=
 ⟨h.below.trans (t.mono h.below.size),h.blkA.below t h.blkA.lt,h.blkB.below t h.blkB.lt,h.blkC.below t h.blkC.lt⟩
theorem P3.setB {w W:World} {a:Array Value} {c b:Value} (h:P3 w W a c b) (v:Value):P3 w (W.setCell ⟨w.heap.size+1,0,none⟩ v) a v b:=
 ⟨h.below.setCell (by simp) v,h.blkA.far (by simp) v,h.blkB.set_ 0 v,h.blkC.far (by simp) v⟩
theorem P3.setC {w W:World} {a:Array Value} {b c:Value} (h:P3 w W a b c) (v:Value):P3 w (W.setCell ⟨w.heap.size+2,0,none⟩ v) a b v:=
 ⟨h.below.setCell (by simp) v,h.blkA.far (by simp) v,h.blkB.far (by simp) v,h.blkC.set_ 0 v⟩
theorem P3.setA {w W:World} {i j k l m n:Value} {f g:Value} (h:P3 w W #[i,j,k,l,m,n] f g) (a a1 b c d e:Value):P3 w (A4 W w.heap.size 0 [a,a1,b,c,d,e]) #[a,a1,b,c,d,e] f g:=
 ⟨As _ h.below (Nat.le_refl _),((((((h.blkA.set_ 0 a).set_ 1 a1).set_ 2 b).set_ 3 c).set_ 4 d).set_ 5 e),(Ay _ _ _ _ _ (by omega)).trans h.blkB,(Ay _ _ _ _ _ (by omega)).trans h.blkC⟩
def FS (W:World) (e q:Int) (X:World):Prop:=X.cell? ⟨W.heap.size,0,none⟩=some (.int .i64 e)/\X.cell? ⟨W.heap.size,1,none⟩=some (.int .i64 q)
theorem FS.new (W:World) (e q:Int):FS W e q (W.alloc (.cells #[.int .i64 e,.int .i64 q] 149)).drew:=
 ⟨(Ap.new W 149 #[.int .i64 e,.int .i64 q]).cell 0,(Ap.new W 149 #[.int .i64 e,.int .i64 q]).cell 1⟩
theorem FS.many {W X:World} {e q:Int} (h:FS W e q X) {g:Nat} (a:g<W.heap.size) (vs:List Value) (o:Nat):FS W e q (A4 X g o vs):=
 ⟨(World.cell?_of_block (Ay vs X g o W.heap.size (by omega))).trans h.1,(World.cell?_of_block (Ay vs X g o W.heap.size (by omega))).trans h.2⟩
theorem FS.set {W X:World} {e q:Int} (h:FS W e q X) {g:Nat} (a:g<W.heap.size) (v:Value):FS W e q (X.setCell ⟨g,0,none⟩ v):=FS.many h a [v] 0
theorem P3.start {w W:World} {a:Array Value} {b c:Value} (h:P3 w W a b c) (o:Obj):P3 w (W.alloc o).drew a b c:=(h.later (Aa W o)).later (Below.drew (Below.refl _ _))
end Go.Proofs.YtjgfchcldhmjcaaGreatDoor
