/- Parts: utf: digit, unit, paired, refused. Condition: a text of at most 10^9 bytes. -/
import Derived.Shelf.AbstractIn
import Derived.Deep.LoopGhost
import Derived.Test.YtkmcjfkokoidcaaGreatDoorKFa10
import Derived.Test.YtkmcjfkokoidcaaGreatDoorKFa11
set_option maxHeartbeats 20000000
set_option maxRecDepth 100000
namespace Go.Proofs.YtkmcjfkokoidcaaGreatDoor
open Go Go.RowKit
theorem Cd.blk {w:World} {B:Nat} {n:Nd} {b:Nat} (h:Cd w B n b): ∃ea en ec ka kn kc,Aj w b Vg #[.slice ea en ec,.slice ka kn kc,.int .i64 (Ms n),.int .i64 (Bi n).length,.string (A7 n),.string (Ex n),.bool false]/\en+kn=Bh n:=by
 cases n with
 |leaf es=>
  simp only[Cd]at h;obtain⟨_,a,c,_,hx⟩:=h;exact⟨a,es.length,c,none,0,0,by simpa[Ms,Bi]using hx,by simp[Bh]⟩
 |inner ks=>
  simp only[Cd]at h;obtain⟨_,bs,a,c,_,hx,_⟩:=h;exact⟨none,0,0,a,ks.length,c,by simpa[Bi]using hx,by simp[Bh]⟩
theorem Cx {w:World} {B:Nat} {n:Nd} {b:Nat} (h:Cd w B n b):Calls Tryz.prog 96 #[.pointer (some ⟨b,0,none⟩)] w fun e w'=>e=.returned (.int .i64 (Ms n))/\w=w':=by
 obtain⟨ea,en,ec,ka,kn,kc,hx,_⟩:=h.blk;have c2:=hx.cell 2;have hl:=hx.lt;clear hx h;go_enter Tryz.func96,Tryz.ntmps96;go_wp2;go_ret;exact⟨rfl,rfl⟩
theorem Kv (w:World):Calls Tryz.prog 96 #[.pointer none] w fun e w'=>e=.returned (.int .i64 0)/\w=w':=by
 go_enter Tryz.func96,Tryz.ntmps96;go_wp2;go_ret;exact⟨rfl,rfl⟩
theorem G4 {w:World} {B:Nat} {n:Nd} {b:Nat} (h:Cd w B n b):Calls Tryz.prog 58 #[.pointer (some ⟨b,0,none⟩)] w fun e w'=>e=.returned (.int .i64 (Bi n).length)/\w=w':=by
 obtain⟨ea,en,ec,ka,kn,kc,hx,_⟩:=h.blk;have c3:=hx.cell 3;have hl:=hx.lt;clear hx h;go_enter Tryz.func58,Tryz.ntmps58;go_wp2;go_ret;exact⟨rfl,rfl⟩
theorem Um (w:World):Calls Tryz.prog 58 #[.pointer none] w fun e w'=>e=.returned (.int .i64 0)/\w=w':=by
 go_enter Tryz.func58,Tryz.ntmps58;go_wp2;go_ret;exact⟨rfl,rfl⟩
theorem Qd {w:World} {B:Nat} {n:Nd} {b:Nat} (h:Cd w B n b):Calls Tryz.prog 166 #[.pointer (some ⟨b,0,none⟩)] w fun e w'=>e=.returned (.string (A7 n))/\w=w':=by
 obtain⟨ea,en,ec,ka,kn,kc,hx,_⟩:=h.blk;have c4:=hx.cell 4;have hl:=hx.lt;clear hx h;go_enter Tryz.func166,Tryz.ntmps166;go_wp2;go_ret;exact⟨rfl,rfl⟩
theorem Acd {w:World} {B:Nat} {n:Nd} {b:Nat} (h:Cd w B n b):Calls Tryz.prog 202 #[.pointer (some ⟨b,0,none⟩)] w fun e w'=>e=.returned (.string (Ex n))/\w=w':=by
 obtain⟨ea,en,ec,ka,kn,kc,hx,_⟩:=h.blk;have c5:=hx.cell 5;have hl:=hx.lt;clear hx h;go_enter Tryz.func202,Tryz.ntmps202;go_wp2;go_ret;exact⟨rfl,rfl⟩
theorem Jf {w:World} {B:Nat} {n:Nd} {b:Nat} (h:Cd w B n b) (hs:Bh n<=100):Calls Tryz.prog 106 #[.pointer (some ⟨b,0,none⟩)] w fun e w'=>e=.returned (.int .i64 (Bh n))/\Below w.heap.size w w':=by
 obtain⟨ea,en,ec,ka,kn,kc,hx,he⟩:=h.blk;have hSS:(fun Y:World=>Y.cell? ⟨b,0,none⟩=some (.slice ea en ec)/\Y.cell? ⟨b,1,none⟩=some (.slice ka kn kc)) w.drew:=⟨hx.cell 0,hx.cell 1⟩;have hb:=Below.drew (Below.refl w.heap.size w);have e1:((Bh n:Nat):Int)=(en:Int)+(kn:Int):=by omega
 have e2:IntKind.i64.wrap ((en:Int)+(kn:Int))=(en:Int)+(kn:Int):=IntWalk.i64_in _ (by omega);rw[e1];clear hx h e1 he hs;go_enter Tryz.func106,Tryz.ntmps106;go_upto_region 3 with(fail);refine wp_region_held_drew (S:=fun Y:World=>Y.cell? ⟨b,0,none⟩=some (.slice ea en ec)/\Y.cell? ⟨b,1,none⟩=some (.slice ka kn kc)) (by kernel_rfl) hSS (fun hHeld=> ?_);refine tkH 0 hHeld ?_;refine tkH 1 hHeld ?_;refine tkH 2 hHeld ?_;refine tkH 3 hHeld ?_;refine tkH 4 hHeld ?_;refine tkH 5 hHeld ?_;refine tkH 6 hHeld ?_;refine tkH 7 hHeld ?_;refine tkH 8 hHeld ?_;refine tkH 9 hHeld ?_;refine tkH 10 hHeld ?_;refine tkH 11 hHeld ?_;refine wpAnyH_done (by kernel_rfl) ?_ _;clear hHeld hSS;go_wp2;go_ret;exact⟨rfl,hb⟩
theorem Zk {w:World} {B:Nat} {n:Nd} {b:Nat} (h:Cd w B n b) (hs:Bh n<=100):Calls Tryz.prog 169 #[.pointer (some ⟨b,0,none⟩),.bool false] w fun e w'=>e=.returned (.bool (decide (4<=Bh n)))/\Below w.heap.size w w':=by
 have HZ:=qz (Jf h hs);obtain⟨ea,en,ec,ka,kn,kc,hx,he⟩:=h.blk;have c6:=hx.cell 6;have hl:=hx.lt;clear hx h;go_enter Tryz.func169,Tryz.ntmps169;go_wp2_with (fail);(with_reducible refine(HZ.out).mono ?_);rintro e w1 ⟨rfl,hb1⟩;go_wp2;go_ret;refine⟨?_,hb1⟩;show Ending.returned (.bool (decide ((4:Int)<=(Bh n:Nat))))=_;rw[show decide ((4:Int)<=(Bh n:Nat))=decide (4<=Bh n)from by rw[decide_eq_decide];omega]
theorem Agq {w:World} {B n c:Nat} {l:List (ByteArray×Val)} {a:Option Addr} (h:Ag w B (.row 7 (dO l)) [.slice a n c]) {q:Nat} {key:ByteArray} {k':Int} {b':Bool} {n':Int} {t':ByteArray} {l':List Val} {o':List (ByteArray×Val)} (hi:l[q]? =some (key,.mk k' b' n' t' l' o')):
 ∃g off,a=some ⟨g,off,none⟩/\g<B/\ ∃la lc oa oc,Ag w B (dV (.mk k' b' n' t' l' o')) [.int .i64 k',.bool b',.int .i64 n',.string t',.slice la l'.length lc,.slice oa o'.length oc]/\
  w.cell? ⟨g,off+q*7,none⟩=some (.string key)/\w.cell? ⟨g,off+q*7+1,none⟩=some (.int .i64 k')/\w.cell? ⟨g,off+q*7+2,none⟩=some (.bool b')/\
  w.cell? ⟨g,off+q*7+3,none⟩=some (.int .i64 n')/\w.cell? ⟨g,off+q*7+4,none⟩=some (.string t')/\w.cell? ⟨g,off+q*7+5,none⟩=some (.slice la l'.length lc)/\w.cell? ⟨g,off+q*7+6,none⟩=some (.slice oa o'.length oc):=by
 obtain⟨g,off,ea,hg,cs,h1,_,h3⟩:=h.at_ (i:=q) (d:=dP (key,.mk k' b' n' t' l' o')) (by rw[Bo,List.getElem?_map,hi];rfl);unfold dP at h1;simp only[Ag]at h1;obtain⟨_,_,rfl,⟨rfl,_⟩,cv,_,rfl,h4,rfl⟩:=h1;have h6:=Cg _ _ h4;simp only[Ac]at h6;obtain⟨la,lc,oa,oc,rfl,_,_⟩:=h6;exact⟨g,off,ea,hg,la,lc,oa,oc,h4,h3 0 _ rfl,h3 1 _ rfl,h3 2 _ rfl,h3 3 _ rfl,h3 4 _ rfl,h3 5 _ rfl,h3 6 _ rfl⟩
theorem Aj0 {key:ByteArray} {v:Val} (w:World) (B:Nat) (cs:List Value) (h:Ag w B (dP (key,v)) cs):cs[0]? =some (.string key):=by
 unfold dP at h;simp only[Ag]at h;obtain⟨_,_,rfl,⟨rfl,_⟩,_⟩:=h;rfl
theorem An2 {key:ByteArray} {v:Val} {w:World} {B:Nat} {u:Value} {cs:List Value} (h:Ag w B (dP (key,v)) (u::cs)):Ag w B (dV v) cs:=by
 unfold dP at h;simp only[Ag]at h;obtain⟨_,_,e,⟨rfl,_⟩,cv,_,rfl,h4,rfl⟩:=h;simp only[List.cons_append,List.nil_append,List.append_nil,List.cons.injEq]at e;rw[e.2];exact h4
attribute [local go_sem] Oper.semAt_some
theorem Rx: ∀(o:List (ByteArray×Val)) (f:Bool) {pre:List (Bool×(ByteArray×Val))} {x:Bool×(ByteArray×Val)} {rest:List (Bool×(ByteArray×Val))},Jo o f=pre++x::rest->
 x.1=(f&&(pre.map (·.2)).isEmpty)/\o=pre.map (·.2)++x.2::rest.map (·.2)
 | [],f,pre,x,rest,h=>by simp[Jo]at h
 |p::r,f, [],x,rest,h=>by
  simp only[Jo,List.nil_append,List.cons.injEq]at h;obtain⟨rfl,h⟩:=h;have: ∀(l:List (ByteArray×Val)) (f:Bool),(Jo l f).map (·.2)=l:=by
   intro l
   induction l with
   |nil=>intro f;rfl
   |cons a l ih=>intro f;simp[Jo,ih]
  rw[<-h,this];simp
 |p::r,f,y::pre,x,rest,h=>by
  simp only[Jo,List.cons_append,List.cons.injEq]at h;obtain⟨rfl,h⟩:=h;obtain⟨h1,h2⟩:=Rx r false h;exact⟨by simpa using h1,by simp[<-h2]⟩
theorem Xf: ∀(l:List (ByteArray×Val)) (f:Bool),(Jo l f).map (·.2)=l
 | [],_=>rfl
 |a::l,f=>by simp[Jo,Xf l]
theorem Fh.of_below {g:Nat} {A W:World} (h:Below A.heap.size A W):Fh g A W:=fun j _ hj _ _=>(h.block j (Array.getElem?_eq_some_iff.1 hj).1).trans hj
theorem Agv: ∀{a:List (ByteArray×Val)} {b:List (ByteArray×Val)},okO (a++b)->okO a
 | [],_,_=>by simp[okO]
 |x::r,b,h=>by simp only[List.cons_append,okO]at h ⊢;exact⟨h.1,Agv h.2⟩
theorem Wu: ∀(a:List (ByteArray×Val)) (p:ByteArray×Val) (b:List (ByteArray×Val)),Ab a+Ic p<=Ab (a++p::b)
 | [],p,b=>by simp[Ab]
 |x::r,p,b=>by have:=Wu r p b;simp only[List.cons_append,Ab];omega
def OI (W:World) (B g b pm:Nat) (keeps:Bool) (acc:List UInt8) (sl:Value) (pre:List (Bool×(ByteArray×Val))) (A:World):Prop:=
 Wr A B g keeps (acc++123::Bs (pre.map (·.2)) true)/\Below B W A/\Fh g W A/\A.heap[b]? =some (.cells #[.pointer (some ⟨g,0,none⟩)] 138 (0,0))/\A.heap[pm]? =some (.cells #[sl] 35 (0,0))
theorem Ow (o:List (ByteArray×Val)) (IH: ∀m ∈ o,Yo m.2) (W:World) (B g p:Nat) (h5:5<=B) (keeps:Bool) (acc:List UInt8) (oa:Option Addr) (oc:Nat) (v0 v1 v2 v3 v4:Value)
 (hp:W.heap[p]? =some (.cells #[v0,v1,v2,v3,v4,.slice oa o.length oc] 37 (0,0)))
 (gl off:Nat) (hoa:o= []\/(oa=some ⟨gl,off,none⟩/\gl<B/\Ap W B o gl off)) (hT:Cm W) (hpg:p≠g) (hW:Wr W B g keeps acc) (hok:okO o) (hlen:acc.length+6*(6+Ab o)<=20000000000) (hb:Ab o<=1000000000):
 Calls Tryz.prog 132 #[.pointer (some ⟨g,0,none⟩),.pointer (some ⟨p,0,none⟩)] W fun e W'=>e=.returned (.tuple #[])/\Wr W' B g keeps (acc++123::(Bs o true++ [125]))/\Below B W W'/\Fh g W W':=by
 have hoo:o.length<=1000000000:=by have:=Bc o;omega
 have hgW:=hW.lt;have hBg:=hW.base;have hpW:=(Array.getElem?_eq_some_iff.1 hp).1;have hW0:Wr (W.alloc (.cells #[.pointer (some ⟨g,0,none⟩)] 138)) B g keeps acc:=hW.below ((Below.refl _ _).alloc (Nat.le_refl _) _);have Hb0:Hid (Below W.heap.size W (W.alloc (.cells #[.pointer (some ⟨g,0,none⟩)] 138))):=(Below.refl _ _).alloc (Nat.le_refl _) _;have hB0:=heap_alloc_new W (.cells #[.pointer (some ⟨g,0,none⟩)] 138);have hz0:(W.alloc (.cells #[.pointer (some ⟨g,0,none⟩)] 138)).heap.size=W.heap.size+1:=by simp
 have hj1:=Ga [⟨#[123]⟩] 1 hW0 (by simp[Fm];omega) (by simp);rw[hz0]at hj1;obtain⟨HJ1,HB0,HP,HOA,HIH,HOK,HT⟩:=hid7 hj1 hB0 hp hoa IH hok hT;clear hj1 hB0 hp hoa IH hok hT hW0;refine(callsIn_wide (n:=12)).1 ?_;refine callsIn_of_wp_marks Tryz.func132 rfl trivial ?_ rfl;simp only[Tryz.ntmps132,List.size_toArray,List.length_cons,List.length_nil,Nat.reduceAdd,Nat.reduceSub,Array.replicate_succ,Array.replicate_zero,List.push_toArray,List.append_toArray,List.nil_append,List.cons_append]
 gi_wp2_with (first|(refine⟨trivial, ?_⟩;gi_at_call 124;refine(callsIn_wide.2 HJ1.out).mono ?_;rintro e w1 ⟨rfl,hw1,hb1,hk1⟩;have hp1:=hk1.cells ((Hb0.out.block p hpW).trans HP.out) hpg (by decide);have c5:w1.cell? ⟨p,5,none⟩=some (.slice oa o.length oc):=(Lib.cell_of_heap hp1 5).trans rfl)|(refine⟨trivial, ?_⟩;gi_at_call 133;refine(callsIn_wide.2 (Vo oa o.length oc w1)).mono ?_;rintro e w2 ⟨rfl,hw2⟩))
 have hz1:=hw1.lt;have hbW1:Below B W w1:=(Hb0.out.mono (by omega)).trans hb1;have hkW1:Fh g W w1:=(Fh.of_below Hb0.out).trans hk1;have hbx1:=hk1.cells HB0.out (by omega) (by decide);have hs1:=hb1.size;have hWs:W.heap.size<w1.heap.size:=(Array.getElem?_eq_some_iff.1 hbx1).1;have hg2:Below w1.heap.size w1 w2:=hw2▸(Below.refl _ _).alloc (Nat.le_refl _) _;have hpm:w2.heap[w1.heap.size]? =some (.cells #[.slice oa o.length oc] 35 (0,0)):=hw2▸heap_alloc_new _ _;have hbx2:=(hg2.block W.heap.size hWs).trans hbx1;have hW2:Wr w2 B g keeps (acc++123::Bs [] true):=by
  have:=hw1.below hg2;simpa[Fm,Bs]using this
 have hb2:Below B W w2:=hbW1.trans (hg2.mono (by omega));have hk2:Fh g W w2:=hkW1.trans (Fh.of_below hg2);have hz2:=(Array.getElem?_eq_some_iff.1 hpm).1;clear hw2 hw1 hb1 hk1 hp1 c5 hbW1 hkW1 hbx1 hg2 hs1;refine Wh (n:=10) (gf:=197) (lb:= #[.pointer (some ⟨w1.heap.size,0,none⟩)]) rfl (enters_of Tryz.func197 (by kernel_rfl) rfl) (Ui o W B g w1.heap.size oa oc gl off h5 HT.out HOA.out HOK.out hb) (fun _ _=>rfl)
  ?hEp (OI W B g W.heap.size w1.heap.size keeps acc (.slice oa o.length oc)) ?hIn ?hIp ?hIb ?h0 ?a1 ?assign ?body ?done
 case assign=>
  intro l x q W K hK;dsimp only[Aey]
  gi_wp2
  exact hK
 case h0=>exact⟨hW2,hb2,hk2,hbx2,hpm⟩
 case hIb=>
  rintro pre A ⟨h1,h2,h3,h4,h6⟩;exact⟨h6,h2,h1.lt⟩
 case hIn=>
  rintro pre A A' ⟨h1,h2,h3,h4,h6⟩ hb';exact⟨h1.below hb',h2.trans (hb'.mono (Nat.le_trans h1.base (Nat.le_of_lt h1.lt))),h3.trans (Fh.of_below hb'),(hb'.block _ (Array.getElem?_eq_some_iff.1 h4).1).trans h4,(hb'.block _ (Array.getElem?_eq_some_iff.1 h6).1).trans h6⟩
 case hEp=>
  rintro x q A k u u' ⟨h1,cs,h2,h3⟩ ho hc;refine⟨h1,cs, ?_,h3⟩;rw[World.putObj_heap_other (by rintro rfl;rw[h2]at ho;injection ho with ho;subst ho;simp[Obj.isCells]at hc)];exact h2
 case hIp=>
  rintro pre A k u u' ⟨h1,h2,h3,h4,h6⟩ ho hc hk;refine⟨h1.put ho hc,h2.grown (grownBy_putObj' A k u') (by have:=h2.size;omega) (fun j e=>by cases e;omega),fun j v hj hg hv=> ?_, ?_, ?_⟩
  . have:=(Array.getElem?_eq_some_iff.1 hj).1;rw[World.putObj_heap_other (by omega)];exact h3 j v hj hg hv
  . rw[World.putObj_heap_other (by omega)];exact h4
  . rw[World.putObj_heap_other (by omega)];exact h6
 case body=>
  rintro l pre x rest q A hx ⟨h1,h2,h3,h4,h6⟩ ⟨hq,cs,hqc,hqv⟩ ⟨ds,hds⟩ ⟨rc,hrc⟩;obtain⟨hf,ho⟩:=Rx o true hx;have htl:=Od (pre.map (·.2)) (fun m _=>J3 m.2) (Agv (ho▸HOK.out)) true;have hbk:Ab (pre.map (·.2))+Ic x.2<=Ab o:=by rw[ho];exact Wu _ _ _
  have hxm:x.2 ∈ o:=by rw[ho];simp
  have hokx:=Agu HOK.out hxm;have hsn:Bs ((pre++ [x]).map (·.2)) true=Bs (pre.map (·.2)) true++((Gk x).data.toList++(58::Am x.2.2)):=by
   rw[List.map_append,List.map_cons,List.map_nil,Pf];obtain⟨f,key,v⟩:=x;simp only at hf;simp only[Lq,Gk,hf];simp[List.append_assoc]
  obtain⟨f,key,v⟩:=x;obtain⟨k',b',n',t',l',o'⟩:=v;have hqk:=Kf key;have hmt:(Gk (f,key,.mk k' b' n' t' l' o')).data.toList.length<=6*key.size+3:=by
   simp only[Gk]
   split<;>simp<;>omega
  simp only[Ic]at hbk;have hfl:Fm [Gk (f,key,.mk k' b' n' t' l' o'),⟨#[58]⟩]=(Gk (f,key,.mk k' b' n' t' l' o')).data.toList++ [58]:=by simp[Fm]
  have hlA:(acc++123::Bs (pre.map (·.2)) true).length+6*(Val.mk k' b' n' t' l' o').bulk+6*key.size+7<=20000000000:=by
   rw[List.length_append,List.length_cons];omega
  have hqb:(Val.mk k' b' n' t' l' o').bulk<=1000000000:=by omega
  have hM1:((Gk (f,key,.mk k' b' n' t' l' o')).data.toList++ [58]).length=(Gk (f,key,.mk k' b' n' t' l' o')).data.toList.length+1:=by simp
  have IHv:=qz (HIH.out _ hxm);obtain⟨HOKx,Hsn⟩:=hid2 hokx hsn;have hj:=Ga [Gk (f,key,.mk k' b' n' t' l' o'),⟨#[58]⟩] 2 h1 (by rw[hfl];omega) (by simp);rw[hfl]at hj;obtain⟨HJ,HQ,HV⟩:=hid3 hj hqc hqv;have h4c:A.cell? ⟨W.heap.size,0,none⟩=some (.pointer (some ⟨g,0,none⟩)):=(Lib.cell_of_heap h4 0).trans rfl;have H2:=qz h2;have hA:=h1.lt;have hAb:=(Array.getElem?_eq_some_iff.1 h4).1;have hl3:((acc++123::Bs (pre.map (fun y:Bool×(ByteArray×Val)=>y.2)) true)++((Gk (f,key,.mk k' b' n' t' l' o')).data.toList++ [58])).length+6*(Val.mk k' b' n' t' l' o').bulk<=20000000000:=by
   rw[List.length_append];omega
  have ent:=Kr;simp only[Val.kind];clear hj hsn hokx hxm ho hf htl hbk hx hfl hqc hqv
  gi_wp2_with (first|(refine⟨trivial, ?_⟩;gi_at_call 124;refine(CallsIn.inRound l (callsIn_wide.2 HJ.out)).mono ?_;rintro e A2 ⟨rfl,g1,g2,g3⟩;have g4:=g3.cells h4 (by omega) (by decide);have g5:A2.cell? ⟨W.heap.size,0,none⟩=some (.pointer (some ⟨g,0,none⟩)):=(Lib.cell_of_heap g4 0).trans rfl)|(refine⟨trivial, ?_⟩;gi_at_fn (Oh k');refine(CallsIn.inRound l (callsIn_wide.2 (IHv.out A2 B g q keeps _ cs k' b' n' t' l' o' rfl h5 (HT.out.keep (H2.out.trans g2) h5) (HV.out.below (H2.out.trans g2)) (g3.cells HQ.out (by omega) (by decide)) (by omega) g1 HOKx.out.2 hqb hl3))).mono ?_;rintro e A3 ⟨rfl,g6,g7,g8⟩))
  have hkk:Fh g A A3:=g3.trans g8;refine⟨?_, ?_, ?_,h2.trans (g2.trans g7),h3.trans hkk,hkk.cells h4 (by omega) (by decide),hkk.cells h6 (by omega) (by decide)⟩
  . exact(hkk _ _ hds (by simp;omega) (fun c fz e=>by cases e)).trans hds.symm
  . exact(hkk _ _ hrc (by simp;omega) (fun c fz e=>by cases e)).trans hrc.symm
  . rw[Hsn.out];simpa[List.append_assoc]using g6
 case done=>
  rintro A ⟨h1,h2,h3,h4,h6⟩ hds;rw[Xf]at h1;have htl:=Od o (fun m _=>J3 m.2) HOK.out true;have HJ:=qz (Ga [⟨#[125]⟩] 1 h1 (by rw[List.length_append,List.length_cons];simp[Fm];omega) (by simp));have h4c:A.cell? ⟨W.heap.size,0,none⟩=some (.pointer (some ⟨g,0,none⟩)):=(Lib.cell_of_heap h4 0).trans rfl;have hA:=h1.lt;have hAb:=(Array.getElem?_eq_some_iff.1 h4).1;have e:Fm [⟨#[125]⟩]= [125]:=by simp[Fm]
  clear htl
  gi_wp2_with (refine⟨trivial, ?_⟩;gi_at_call 124;refine(callsIn_wide.2 HJ.out).mono ?_;rintro e A2 ⟨rfl,g1,g2,g3⟩)
  have hd:=g3 _ _ hds (by simp;omega) (fun c fz e=>by cases e);refine⟨by simp,.inl ⟨_,_,rfl,run_takeDeferred hd, ?_⟩⟩;rw[e,List.append_assoc,List.cons_append]at g1;refine⟨_,results_none rfl _ _ _,rfl, ?_⟩;have hbA:=h2.trans g2;refine⟨g1.put hd rfl,hbA.grown (grownBy_putObj' A2 w2.heap.size _) (by have:=hbA.size;omega) (fun j e=>by cases e;omega),fun j v hj hg hv=> ?_⟩;have:=(Array.getElem?_eq_some_iff.1 hj).1;rw[World.putObj_heap_other (by omega)];exact g3 j v (h3 j v hj hg hv) hg hv
def Af6 {α:Type} (P:Program) (gf:Nat) (lb:Array Value) (encs:α->Array Value) (xs:List α) (N:World->Prop):Prop:=
 ∀(n l:Nat) (J:List α->World->Prop) (Jx:World->Prop) (W:World),(∀s A B,J s A->Below A.heap.size A B->J s B)->(∀A B,Jx A->Below A.heap.size A B->Jx B)->(∀s A,J s A->N A)->
  (∀pre x rest A,xs=pre++x::rest->J pre A->YieldAt Fence.wide n P l (encs x) A fun e B=>(e=.returned (.bool true)/\J (pre++ [x]) B)\/(e=.returned (.bool false)/\Jx B))->
  J [] W->CallsIn Fence.wide (n+1) P gf (#[.func (.yield l) #[] #[]]++lb) W fun e B=>(∃v,e=.returned v)/\(J xs B\/Jx B)
def N3 (I Ix:World->Prop) (d:Nat) (W:World):Exit->Act->World->Prop
 | .normal,_,W'=>W'.heap[d]? =W.heap[d]? /\W'.heap[d+1]? =W.heap[d+1]? /\I W'
 | .ret,_,W'=>W'.heap[d]? =W.heap[d]? /\W'.heap[d+1]? =W.heap[d+1]? /\Ix W'
 |_,_,_=>False
theorem Wi {α:Type} {P:Program} {g:Operand} {ps:Array Tmp} {assign body:Code} {Q:Exit->Act->World->Prop} {a:Act} {w:World} {n:Nat}
 {gf:Nat} {lb:Array Value} (hg:a.eval g=.func (.func gf) #[] lb) (eg: ∀args w,(callFunc gf args).run P w=.ok (.enter gf args) w)
 {encs:α->Array Value} {xs:List α} {N:World->Prop} (hit:Af6 P gf lb encs xs N) (hps: ∀x,(encs x).size=ps.size)
 (I:List α->World->Prop) (Ix:World->Prop) (hIn: ∀s A B,I s A->Below A.heap.size A B->I s B) (hXn: ∀A B,Ix A->Below A.heap.size A B->Ix B)
 (hXp: ∀A k o o',Ix A->A.heap[k]? =some o->o.isCells=false->(k=w.heap.size\/k=w.heap.size+1)->Ix (A.putObj k o'))
 (hIp: ∀s A k o o',I s A->A.heap[k]? =some o->o.isCells=false->(k=w.heap.size\/k=w.heap.size+1)->I s (A.putObj k o'))
 (hIb: ∀s A,I s A->N A) (h0:I [] w) (a₁:α->Act)
 (hassign: ∀(l:Nat) (x:α) (W:World) (K:Act->World->Prop),K (a₁ x) W->
   assign.wpIn (Fence.wide.inRound l) n P (Exit.then K (fun _ _ _=>False)) {tmps:=(ps.zip (encs x)).foldl (fun t (p,v)=>t.setIfInBounds p v) a.tmps,defers:= []} W)
 (hbody: ∀(l:Nat) (pre:List α) (x:α) (rest:List α) (W:World),xs=pre++x::rest->I pre W->(∃ds,W.heap[w.heap.size]? =some (.deferred ds))->(∃r,W.heap[w.heap.size+1]? =some (.loop r))->
   body.wpIn (Fence.wide.inRound l) n P (N3 (I (pre++ [x])) Ix w.heap.size W) (a₁ x) W)
 (hstop: ∀(W:World),Ix W->W.heap[w.heap.size]? =some (.deferred (some []))->Code.ret.wpIn Fence.wide (n+1+1) P Q {a with defers:={target:=.collected w.heap.size,args:= #[]}::a.defers} W)
 (hdone: ∀(W:World),I xs W->W.heap[w.heap.size]? =some (.deferred (some []))->Q .normal {a with defers:={target:=.collected w.heap.size,args:= #[]}::a.defers} W):
 (Code.rangeFunc g ps assign body).wpIn Fence.wide (n+1+1) P Q a w:=by
 refine wpIn_rangeFunc ?_;intro fn hfn;have hro:Fence.wide.round=none:=rfl;rw[hro];obtain⟨rec,hrec⟩: ∃rec:LoopState->Option Code->Loop,rec=fun st pe=>{state:=st,pending:=pe,fn,tmps:=a.tmps,params:=ps,assign,body,defers:=w.heap.size}:=⟨_,rfl⟩;obtain⟨W1,hW1⟩: ∃W1,(w.alloc (.deferred (some []))).alloc (.loop (rec .ready none))=W1:=⟨_,rfl⟩;have hL1:W1.heap[w.heap.size+1]? =some (.loop (rec .ready none)):=by
  rw[<-hW1];have:=World.alloc_heap_new (w.alloc (.deferred (some []))) (.loop (rec .ready none));rwa [World.size_alloc]at this
 have hK1:W1.heap[w.heap.size]? =some (.deferred (some [])):=by
  rw[<-hW1];exact(Below.heap_alloc _ _ _ (by simp)).trans (World.alloc_heap_new w _)
 have hI1:I [] W1:=by
  rw[<-hW1];exact hIn _ _ _ h0 (((Below.refl _ w).alloc (Nat.le_refl _) _).alloc (by simp) _)
 refine⟨w.heap.size+1, [{target:=.collected w.heap.size,args:= #[]}],W1,{target:=.fn (.func gf) lb,args:= #[.func (.yield (w.heap.size+1)) #[] #[]]},W1,gf,
  #[.func (.yield (w.heap.size+1)) #[] #[]]++lb,W1, ?_, ?_, ?_, ?_,fun h=>by simp[Fence.wide]at h, ?_⟩
 . rw[<-hW1,hrec];exact run_enterLoop_outer _ _ _ _ _
 . simp only[resolve,hg];simp[go_sem]
 . intro f' _;trivial
 . simp[invoke,go_sem,eg]
 . refine(hit n (w.heap.size+1)
    (fun pre W=>I pre W/\W.heap[w.heap.size+1]? =some (.loop (rec .ready none))/\W.heap[w.heap.size]? =some (.deferred (some [])))
    (fun W=>Ix W/\W.heap[w.heap.size+1]? =some (.loop (rec .done (some .ret)))/\W.heap[w.heap.size]? =some (.deferred (some [])))
    W1 (fun s A B hs hb=>⟨hIn s A B hs.1 hb,(hb.block _ (Array.getElem?_eq_some_iff.1 hs.2.1).1).trans hs.2.1,(hb.block _ (Array.getElem?_eq_some_iff.1 hs.2.2).1).trans hs.2.2⟩)
    (fun A B hs hb=>⟨hXn A B hs.1 hb,(hb.block _ (Array.getElem?_eq_some_iff.1 hs.2.1).1).trans hs.2.1,(hb.block _ (Array.getElem?_eq_some_iff.1 hs.2.2).1).trans hs.2.2⟩)
    (fun s A hs=>hIb s A hs.1) ?_ ⟨hI1,hL1,hK1⟩).mono ?_
   ·
    rintro pre x rest W hx ⟨hi,hl,hk⟩;have hlt:w.heap.size+1<W.heap.size:=(Array.getElem?_eq_some_iff.1 hl).1;have hy:=run_yield (P:=P) (args:=encs x) hl (by rw[hrec];exact hps x);rw[hrec]at hy;refine⟨fn,_,assign,body,hy,roundIn_of_wpIn trivial (hassign _ x W _ ⟨_,run_beginRound hl (by rw[hrec]), ?_⟩)⟩;have hl2:(W.putObj (w.heap.size+1) (.loop {rec .ready none with state:=.busy})).heap[w.heap.size+1]? =some (.loop {rec .ready none with state:=.busy}):=World.putObj_heap_same hlt;have hk2:(W.putObj (w.heap.size+1) (.loop {rec .ready none with state:=.busy})).heap[w.heap.size]? =some (.deferred (some [])):=(World.putObj_heap_other (by omega)).trans hk;refine wpIn_mono (hbody _ pre x rest _ hx (hIp _ _ _ _ _ hi hl rfl (.inr rfl)) ⟨_,hk2⟩ ⟨_,hl2⟩) ?_;rintro e a3 W3 hp
    cases e with
    |normal=>
     obtain⟨h1,h2,hi3⟩:=hp;have hl3:=h2.trans hl2;have hk3:=h1.trans hk2;have hr:=run_endRound (P:=P) none hl3;rw[hrec]at hr;refine⟨_,_,hr,.inl ⟨rfl,hIp _ _ _ _ _ hi3 hl3 rfl (.inr rfl), ?_, ?_⟩⟩
     . rw[World.putObj_heap_same (Array.getElem?_eq_some_iff.1 hl3).1,hrec];rfl
     . exact(World.putObj_heap_other (by omega)).trans hk3
    |ret=>
     obtain⟨h1,h2,hi3⟩:=hp;have hl3:=h2.trans hl2;have hk3:=h1.trans hk2;have hr:=run_endRound (P:=P) (some .ret) hl3;rw[hrec]at hr;refine⟨_,_,hr,.inr ⟨rfl,hXp _ _ _ _ hi3 hl3 rfl (.inr rfl), ?_, ?_⟩⟩
     . rw[World.putObj_heap_same (Array.getElem?_eq_some_iff.1 hl3).1,hrec];rfl
     . exact(World.putObj_heap_other (by omega)).trans hk3
    |exit id=>exact hp.elim
    |goto t=>exact hp.elim
    |panic ch=>exact hp.elim
    |outgrown=>exact hp.elim
   ·
    rintro e W2 ⟨⟨v,rfl⟩,⟨hi,hl,hk⟩|⟨hi,hl,hk⟩⟩
    . exact⟨none,_,by have:=run_endLoop (P:=P) hl (by rw[hrec];simp);rw[hrec]at this;exact this,hdone _ (hIp _ _ _ _ _ hi hl rfl (.inr rfl)) ((World.putObj_heap_other (by omega)).trans hk)⟩
    . exact⟨some .ret,_,by have:=run_endLoop (P:=P) hl (by rw[hrec];simp);rw[hrec]at this;exact this,hstop _ (hXp _ _ _ _ hi hl rfl (.inr rfl)) ((World.putObj_heap_other (by omega)).trans hk)⟩
end Go.Proofs.YtkmcjfkokoidcaaGreatDoor
namespace Go.Proofs.YtkmcjfkokoidcaaGreatDoor
theorem O1 {α:Type} (p:α->Bool): ∀{l:List α},(l.Pairwise fun a b=>p a=true->p b=true)->l.countP (fun a=> !p a)=l.findIdx p
 | [],_=>by simp
 |x::r,h=>by
  obtain⟨h1,h2⟩:=List.pairwise_cons.1 h;rw[List.countP_cons,List.findIdx_cons,O1 p h2]
  cases hx:p x with
  |true=>
   have:r.findIdx p=0\/r= []:=by
    cases r with
    |nil=>exact .inr rfl
    |cons y s=>exact .inl (by rw[List.findIdx_cons,h1 y (by simp) hx];rfl)
   rcases this with e|e
   . simp[e]
   . subst e;simp
  |false=>simp
theorem Oj {α:Type} (l:List α) (f:α->Bool):(List.range l.length).countP (fun i=>(l[i]?.map f).getD false)=l.countP f:=by
 have h:(List.range l.length).map (fun i=>(l[i]?.map f).getD false)=l.map f:=by
  apply List.ext_getElem
  . simp
  . intro i h1 h2;simp at h1 h2;simp[h2]
 have e1:(List.range l.length).countP (fun i=>(l[i]?.map f).getD false)=((List.range l.length).map (fun i=>(l[i]?.map f).getD false)).countP id:=by rw[List.countP_map];rfl
 have e2:l.countP f=(l.map f).countP id:=by rw[List.countP_map];rfl
 rw[e1,e2,h]
theorem Yq (k:ByteArray): ∀l:List A5,Do k l=l.findIdx fun e=> !Dp e.1 k
 | []=>by simp[Do]
 |(a,x)::r=>by
  rw[List.findIdx_cons];simp only[Do];by_cases h:Dp a k=true
  . rw[if_pos h,h,Yq k r];simp
  . rw[if_neg h];have:Dp a k=false:=by simpa using h
    rw[this];simp
theorem Ajm {k:ByteArray} {l:List A5} (h:Ay l):l.Pairwise fun a b=>(!Dp a.1 k)=true->(!Dp b.1 k)=true:=by
 refine h.imp fun {a b} hab ha=> ?_
 cases hb:Dp b.1 k with
 |false=>rfl
 |true=>rw[C0 hab hb]at ha;exact ha
theorem Ajy {k:ByteArray} {l:List A5} (h:Ay l):(List.range l.length).countP (fun i=>(l[i]?.map fun e=>Dp e.1 k).getD false)=Do k l:=by
 rw[Oj,Yq,<-O1 _ (Ajm h)]
 congr 1
 funext e
 simp
end Go.Proofs.YtkmcjfkokoidcaaGreatDoor
namespace Go.Proofs.YtkmcjfkokoidcaaGreatDoor
open Go Go.RowKit
def L9 (e q:Int):Ending:=.panicked [{v:=.iface 145 (.agg #[.int .i64 e,.int .i64 q]),recovered:=false}]
def KV (R:Nat):List (Int×Value):=
 let f:=fun n:Nat=>Value.func (.func n) #[.pointer (some ⟨R,0,none⟩)] #[]
 [(110,f 144),(102,f 145),(116,f 146),(34,f 147),(91,f 148),(123,f 149),(45,f 150),
  (48,f 150),(49,f 150),(50,f 150),(51,f 150),(52,f 150),(53,f 150),(54,f 150),(55,f 150),(56,f 150),(57,f 150)]
def Wj (w:World) (R g:Nat) (s:ByteArray) (k:Nat):Prop:=Aj w R 151 #[.string s,.int .i64 k,.map (some g)]
def Br (R g:Nat) (s:ByteArray) (k':Nat) (w w':World):Prop:=w.grownBy w' (some R)/\Wj w' R g s k'
theorem Ck {w w1 w2:World} {r:Option Nat} (h:w.grownBy w1 r) (k:w1.grownBy w2 r):w.grownBy w2 r:=
 ⟨k.os.trans h.os,k.tape.trans h.tape,k.output.trans h.output,Nat.le_trans h.size k.size,fun i hi hn=>(k.block i (Nat.lt_of_lt_of_le hi h.size) hn).trans (h.block i hi hn)⟩
theorem F9 {w w1:World} {r:Option Nat} (h:w.grownBy w1 r) (n:Nat):w.grownBy (w1.drewN n) r:=⟨h.os,h.tape,h.output,h.size,h.block⟩
theorem Iy {w w1:World} {r:Option Nat} (h:w.grownBy w1 r) (o:Obj):w.grownBy (w1.alloc o) r:=
 ⟨h.os,h.tape,h.output,Nat.le_trans h.size (by simp),fun i hi hne=>(Below.heap_alloc w1 o i (Nat.lt_of_lt_of_le hi h.size)).trans (h.block i hi hne)⟩
theorem K6 {w w1 w2:World} {r:Option Nat} (h:w.grownBy w1 r) (k:Below w1.heap.size w1 w2):w.grownBy w2 r:=
 ⟨k.os.trans h.os,k.tape.trans h.tape,k.output.trans h.output,Nat.le_trans h.size k.size,fun i hi hn=>(k.block i (Nat.lt_of_lt_of_le hi h.size)).trans (h.block i hi hn)⟩
theorem M7 {w w1:World} {r:Nat} (h:w.grownBy w1 (some r)) (p:Addr) (hp:p.block=r\/w.heap.size<=p.block) (u:Value):w.grownBy (w1.setCell p u) (some r):=
 ⟨h.os,h.tape,h.output,by simpa[World.setCell]using h.size,fun i hi hne=>(Below.heap_setCell w1 p u i (by
   rintro rfl;rcases hp with hp|hp
   . exact hne (by rw[hp])
   . omega)).trans (h.block i hi hne)⟩
theorem Q1 {w w1:World} (r:Option Nat) (k:Below w.heap.size w w1):w.grownBy w1 r:=⟨k.os,k.tape,k.output,k.size,fun i hi _=>k.block i hi⟩
theorem Br.refl {w:World} {R g k:Nat} {s:ByteArray} (h:Wj w R g s k):Br R g s k w w:=⟨World.grownBy.refl _ _,h⟩
theorem Br.trans {w w1 w2:World} {R g k k':Nat} {s:ByteArray} (h:Br R g s k w w1) (h':Br R g s k' w1 w2):Br R g s k' w w2:=⟨Ck h.1 h'.1,h'.2⟩
theorem Br.drewN {w w1:World} {R g k:Nat} {s:ByteArray} (h:Br R g s k w w1) (n:Nat):Br R g s k w (w1.drewN n):=⟨F9 h.1 n,h.2⟩
theorem Br.drew {w w1:World} {R g k:Nat} {s:ByteArray} (h:Br R g s k w w1):Br R g s k w w1.drew:=⟨⟨h.1.os,h.1.tape,h.1.output,h.1.size,h.1.block⟩,h.2⟩
theorem Br.alloc {w w1:World} {R g k:Nat} {s:ByteArray} (h:Br R g s k w w1) (o:Obj):Br R g s k w (w1.alloc o):=⟨Iy h.1 o,Aj.alloc h.2 o⟩
theorem Br.below {w w1 w2:World} {R g k:Nat} {s:ByteArray} (h:Br R g s k w w1) (hb:Below w1.heap.size w1 w2):Br R g s k w w2:=⟨K6 h.1 hb,Aj.below h.2 hb (Aj.lt h.2)⟩
theorem Br.set {w w1:World} {R g k:Nat} {s:ByteArray} (h:Br R g s k w w1) (k':Nat):Br R g s k' w (w1.setCell ⟨R,1,none⟩ (.int .i64 k')):=
 ⟨M7 h.1 _ (.inl rfl) _,by have:=Aj.set_ h.2 1 (.int .i64 k');exact this⟩
theorem Wj.cells {w:World} {R g k:Nat} {s:ByteArray} (h:Wj w R g s k):w.cell? ⟨R,0,none⟩=some (.string s)/\w.cell? ⟨R,1,none⟩=some (.int .i64 k)/\w.cell? ⟨R,2,none⟩=some (.map (some g))/\w.frozen? ⟨R,1,none⟩=false/\R<w.heap.size:=
 ⟨Aj.cell h 0,Aj.cell h 1,Aj.cell h 2,Aj.frozen h 1,Aj.lt h⟩
theorem Dx (s:ByteArray) {a:Nat} (h:a<s.size):s.data.toList[a]? =some s[a]:=by
 rw[List.getElem?_eq_getElem (by rw[<-Lib.size_eq];exact h)];rfl
theorem Dr (c:UInt8):(c.toNat:Int)<256:=by have:=c.toNat_lt;omega
theorem Py {c:UInt8} {n:Nat} (hn:n<256):((c.toNat:Int)==(n:Int))=(c==UInt8.ofNat n):=by
 rw[Bool.eq_iff_iff];simp only[beq_iff_eq];constructor
 . intro h;have:c.toNat=n:=by omega
   subst this;simp
 . rintro rfl;simp[UInt8.toNat_ofNat',Nat.mod_eq_of_lt hn]
theorem Cp (p:Value) (e q:Int) (w:World):Calls Tryz.prog 87 #[p,.int .i64 e,.int .i64 q] w fun r w'=>r=L9 e q/\w'=w:=by
 go_enter Tryz.func87,Tryz.ntmps87;go_wp2;exact⟨rfl,rfl,rfl⟩
theorem Gq (R g:Nat) (s:ByteArray) (k:Nat) (w:World) (hs:s.size<=1000000000) (hk:k<=s.size) (h:Wj w R g s k):
 Calls Tryz.prog 86 #[.pointer (some ⟨R,0,none⟩)] w fun e w'=>e=.returned (.tuple #[])/\Br R g s (Aq s.data.toList k) w w':=by
 obtain⟨P,hP⟩: ∃P,Aq s.data.toList k=P:=⟨_,rfl⟩;have H0:=qz (And.intro hP (Br.refl h));rw[hP];clear h hP;go_enter Tryz.func86,Tryz.ntmps86;go_wp2
 go_loopg [] (s.size - k) (fun n wr=> ∃j:Nat,j<=s.size/\n=s.size - j/\Hid (Aq s.data.toList j=P/\Br R g s j w wr))
 case atStart=>exact⟨k,hk,rfl,H0⟩
 case round=>
  obtain⟨j,hj,rfl,hh⟩:=hrel;clear H0;obtain⟨c0,c1,_,f1,hR⟩:=hh.out.2.2.cells;by_cases hlt:j<s.size
  . obtain⟨c,hc⟩: ∃c,s[j]=c:=⟨_,rfl⟩;have hg:s.data.toList[j]? =some c:=by rw[Dx s hlt,hc]
    have hcl:=Dr c;have i1:(j:Int)<(s.size:Int):=by omega
    have i0:(0:Int)<=(j:Int):=by omega
    by_cases hbl:Fw c=true
    . have HN:Hid (Aq s.data.toList (j+1)=P/\ ∀nq,Br R g s (j+1) w ((wr.drewN nq).setCell ⟨R,1,none⟩ (.int .i64 ((j+1:Nat):Int)))):=
       ⟨by rw[<-Xq hg hbl];exact hh.out.1,fun nq=>(hh.out.2.drewN nq).set _⟩
      unfold Fw at hbl;simp only[Bool.or_eq_true,beq_iff_eq]at hbl;clear hg hh;rcases hbl with((hbl|hbl)|hbl)|hbl
      all_goals
       subst hbl;go_wp2;go_quiet (fail);go_wp2;go_quiet (fail);go_wp2
       go_roundg (s.size - (j+1))
       case measure=>omega
       case rel=>exact⟨j+1,by omega,rfl,HN.out.1,HN.out.2 _⟩
    . have HN:Hid (j=P/\ ∀nq,Br R g s j w (wr.drewN nq)):=⟨by rw[<-hh.out.1,Eb hg (by simpa using hbl)],fun nq=>hh.out.2.drewN nq⟩;unfold Fw at hbl;simp only[Bool.or_eq_true,beq_iff_eq,not_or]at hbl;obtain⟨⟨⟨h9,h10⟩,h13⟩,h32⟩:=hbl;have ne: ∀n:Nat,n<256->c≠UInt8.ofNat n->((c.toNat:Int)==(n:Int))=false:=fun n hn h=>by rw[Py hn];simpa using h
      have e9:((c.toNat:Int)==9)=false:=ne 9 (by decide) h9;have e10:((c.toNat:Int)==10)=false:=ne 10 (by decide) h10;have e13:((c.toNat:Int)==13)=false:=ne 13 (by decide) h13;have e32:((c.toNat:Int)==32)=false:=ne 32 (by decide) h32;clear ne h9 h10 h13 h32 hg hh;go_wp2;go_quiet (fail);go_wp2;go_quiet (fail);go_wp2;refine bodyPost_ret (results_none rfl _ _ _) rfl ?_;refine⟨rfl, ?_⟩;rw[<-HN.out.1];exact HN.out.2 _
  . have HN:Hid (j=P/\ ∀nq,Br R g s j w (wr.drewN nq)):=⟨by rw[<-hh.out.1,Uu (by rw[<-Lib.size_eq];omega)],fun nq=>hh.out.2.drewN nq⟩;have i1: ¬((j:Int)<(s.size:Int)):=by omega
    clear hh;go_wp2;go_quiet (fail);go_wp2
    go_end0
    refine⟨rfl, ?_⟩;rw[<-HN.out.1];exact HN.out.2 _
theorem Al (s:ByteArray):s.data.toList.length=s.size:=by rw[Array.length_toList];rfl
theorem Dv {s:ByteArray} {k:Nat} (hk:k<=s.size):Aq s.data.toList k<=s.size:=by
 have:=Fg (s:=s.data.toList) (p:=k) (by rw[Al];exact hk)
 rwa [Al]at this
theorem Ahc (R g:Nat) (s:ByteArray) (k:Nat) (c:UInt8) (w:World) (hs:s.size<=1000000000) (hk:k<=s.size) (h:Wj w R g s k) (hc:s.data.toList[Aq s.data.toList k]? =some c):
 Calls Tryz.prog 206 #[.pointer (some ⟨R,0,none⟩),.int .u8 c.toNat] w fun e w'=>e=.returned (.bool true)/\Br R g s (Aq s.data.toList k+1) w w':=by
 have hS:=Gq R g s k w hs hk h;have hP:=Dv hk;generalize Aq s.data.toList k=P at hS hP hc ⊢;have hlt:P<s.size:=by have:=Cz hc;rwa [Al]at this
 have hx:s[P]=c:=by rw[Dx s hlt]at hc;exact Option.some.inj hc
 have hcl:=Dr c;have i0:(0:Int)<=(P:Int):=by omega
 have i1:(P:Int)<(s.size:Int):=by omega
 have e1:((P:Int)==(s.size:Int))=false:=by rw[beq_eq_false_iff_ne];omega
 clear hc h;have HS:=qz hS;clear hS;go_enter Tryz.func206,Tryz.ntmps206;go_wp2_with (fail);(with_reducible refine(HS.out).mono ?_);rintro e w1 ⟨rfl,h1⟩;obtain⟨c0,c1,_,f1,hR⟩:=h1.2.cells;have H1:=qz h1;clear h1;go_wp2;go_quiet (fail);go_wp2;go_ret;exact⟨rfl,(H1.out.drewN _).set _⟩
theorem Ajx (R g:Nat) (s:ByteArray) (k:Nat) (c:UInt8) (w:World) (hs:s.size<=1000000000) (hk:k<=s.size) (h:Wj w R g s k) (hc: ¬(s.data.toList[Aq s.data.toList k]? =some c)):
 Calls Tryz.prog 206 #[.pointer (some ⟨R,0,none⟩),.int .u8 c.toNat] w fun e w'=>e=.returned (.bool false)/\Br R g s (Aq s.data.toList k) w w':=by
 have hS:=Gq R g s k w hs hk h;have hP:=Dv hk;generalize Aq s.data.toList k=P at hS hP hc ⊢;have i0:(0:Int)<=(P:Int):=by omega
 by_cases hlt:P<s.size
 . obtain⟨x,hx⟩: ∃x,s[P]=x:=⟨_,rfl⟩;have hne:((x.toNat:Int)==(c.toNat:Int))=false:=by
    rw[Dx s hlt,hx]at hc;rw[beq_eq_false_iff_ne];intro e;exact hc (by rw[UInt8.toNat_inj.1 (by omega:x.toNat=c.toNat)])
   have hne2:((x.toNat:Int) != (c.toNat:Int))=true:=by unfold bne;rw[hne];rfl
   have hcl:=Dr c;have hxl:=Dr x;have i1:(P:Int)<(s.size:Int):=by omega
   have e1:((P:Int)==(s.size:Int))=false:=by rw[beq_eq_false_iff_ne];omega
   clear hc h;have HS:=qz hS;clear hS;go_enter Tryz.func206,Tryz.ntmps206;go_wp2_with (fail);(with_reducible refine(HS.out).mono ?_);rintro e w1 ⟨rfl,h1⟩;obtain⟨c0,c1,_,f1,hR⟩:=h1.2.cells;have H1:=qz h1;clear h1;go_wp2;go_quiet (fail);go_wp2;go_ret;exact⟨rfl,H1.out.drewN _⟩
 . obtain rfl:P=s.size:=by omega
   have e1:((s.size:Int)==(s.size:Int))=true:=by simp
   clear hc h;have HS:=qz hS;clear hS;go_enter Tryz.func206,Tryz.ntmps206;go_wp2_with (fail);(with_reducible refine(HS.out).mono ?_);rintro e w1 ⟨rfl,h1⟩;obtain⟨c0,c1,_,f1,hR⟩:=h1.2.cells;have H1:=qz h1;clear h1;go_wp2;go_quiet (fail);go_wp2;go_ret;exact⟨rfl,H1.out.drewN _⟩
theorem Aa5 (R g:Nat) (s:ByteArray) (k:Nat) (c:UInt8) {B:Bool} (w:World) (hs:s.size<=1000000000) (hk:k<=s.size) (h:Wj w R g s k) (hB:decide (s.data.toList[Aq s.data.toList k]? =some c)=B):
 Calls Tryz.prog 206 #[.pointer (some ⟨R,0,none⟩),.int .u8 c.toNat] w fun e w'=>e=.returned (.bool B)/\Br R g s (if B=true then Aq s.data.toList k+1 else Aq s.data.toList k) w w':=by
 subst hB;by_cases hc:s.data.toList[Aq s.data.toList k]? =some c
 . rw[decide_eq_true hc,if_pos rfl];exact Ahc R g s k c w hs hk h hc
 . rw[decide_eq_false hc,if_neg (by decide)];exact Ajx R g s k c w hs hk h hc
theorem Amg {c:UInt8} {d:Nat} (h:Vk c=some d) (w:World):Calls Tryz.prog 328 #[.int .u8 c.toNat] w fun e w'=>e=.returned (.tuple #[.int .i32 d,.bool true])/\w=w':=by
 have hcl:=Dr c;unfold Vk at h
 split at h
 . rename_i hr;obtain⟨h1,h2⟩:=hr;have e:(d:Int)=(c.toNat:Int) - 48:=by have:=Option.some.inj h;omega
   have l1:(48:Int)<=(c.toNat:Int):=by omega
   have l2:(c.toNat:Int)<=57:=by omega
   rw[e];clear h e h1 h2;go_enter Tryz.func328,Tryz.ntmps328;go_wp2;go_ret2;exact⟨rfl,rfl⟩
 split at h
 . rename_i hn hr;obtain⟨h1,h2⟩:=hr;have e:(d:Int)=(c.toNat:Int) - 97+10:=by have:=Option.some.inj h;omega
   have l0: ¬((c.toNat:Int)<=57):=by omega
   have l1:(97:Int)<=(c.toNat:Int):=by omega
   have l2:(c.toNat:Int)<=102:=by omega
   rw[e];clear h e h1 h2 hn;go_enter Tryz.func328,Tryz.ntmps328;go_wp2;go_ret2;exact⟨rfl,rfl⟩
 split at h
 . rename_i hn1 hn hr;obtain⟨h1,h2⟩:=hr;have e:(d:Int)=(c.toNat:Int) - 65+10:=by have:=Option.some.inj h;omega
   have l0: ¬((c.toNat:Int)<=57):=by omega
   have l3: ¬((97:Int)<=(c.toNat:Int)):=by omega
   have l1:(65:Int)<=(c.toNat:Int):=by omega
   have l2:(c.toNat:Int)<=70:=by omega
   rw[e];clear h e h1 h2 hn hn1;go_enter Tryz.func328,Tryz.ntmps328;go_wp2;go_ret2;exact⟨rfl,rfl⟩
 . cases h
theorem An3 {c:UInt8} (h:Vk c=none) (w:World):Calls Tryz.prog 328 #[.int .u8 c.toNat] w fun e w'=>e=.returned (.tuple #[.int .i32 0,.bool false])/\w=w':=by
 have hcl:=Dr c;unfold Vk at h
 split at h
 . cases h
 split at h
 . cases h
 split at h
 . cases h
 rename_i h1 h2 h3;by_cases a1:(48:Int)<=(c.toNat:Int)<;>by_cases a2:(c.toNat:Int)<=57<;>by_cases a3:(97:Int)<=(c.toNat:Int)<;>by_cases a4:(c.toNat:Int)<=102<;>by_cases a5:(65:Int)<=(c.toNat:Int)<;>by_cases a6:(c.toNat:Int)<=70
 all_goals first|(exfalso;omega)|(clear h h1 h2 h3;go_enter Tryz.func328,Tryz.ntmps328;go_wp2;go_ret2;exact⟨rfl,rfl⟩)
theorem V9 (c:UInt8) (w:World):Calls Tryz.prog 290 #[.int .u8 c.toNat] w fun e w'=>e=.returned (.int .i64 (if c.toNat<32 then 4 else 3))/\w=w':=by
 have hcl:=Dr c;by_cases h:c.toNat<32
 . rw[if_pos h];have h':(c.toNat:Int)<32:=by omega
   clear h;go_enter Tryz.func290,Tryz.ntmps290;go_wp2;go_ret;exact⟨rfl,rfl⟩
 . rw[if_neg h];have h': ¬((c.toNat:Int)<32):=by omega
   clear h;go_enter Tryz.func290,Tryz.ntmps290;go_wp2;go_ret;exact⟨rfl,rfl⟩
theorem Xl (a:Nat) (ha:a<2147483648):(BitVec.ofInt 32 (a:Int)).toNat=a:=by
 rw[BitVec.ofInt_natCast,BitVec.toNat_ofNat];exact Nat.mod_eq_of_lt (by omega)
theorem Apq {n d:Nat} (hn:n<4096) (hd:d<16):bits .or .i32 ((n:Int)*16) (d:Int)=((16*n+d:Nat):Int):=by
 have e:(n:Int)*16=((n*16:Nat):Int):=by omega
 have h:n*16 ||| d=n*16+d:=by
  have:=Nat.shiftLeft_add_eq_or_of_lt (i:=4) (b:=d) (by omega) n;rw[Nat.shiftLeft_eq]at this;exact this.symm
 rw[e];show IntKind.i32.wrap ((BitVec.ofInt 32 ((n*16:Nat):Int) ||| BitVec.ofInt 32 (d:Int)).toNat:Int)=_;rw[BitVec.toNat_or,Xl _ (by omega),Xl _ (by omega),h,IntKind.wrap_i32];omega
def Ade (u:Option Nat):Value:=match u with
 |some n=> .tuple #[.int .i32 n,.bool true]
 |none=> .tuple #[.int .i32 0,.bool false]
theorem Vb (t:ByteArray) (w:World) (hs:t.size<=1000000000):Calls Tryz.prog 314 #[.string t] w fun e w'=>e=.returned (Ade (F6 t.data.toList))/\w=w':=by
 have hlen:=Al t;by_cases h6:t.size<6
 . have e:F6 t.data.toList=none:=by unfold F6;rw[if_pos (by omega)]
   rw[e];have l:(t.size:Int)<6:=by omega
   clear e hlen;go_enter Tryz.func314,Tryz.ntmps314;go_wp2;go_ret2;exact⟨rfl,rfl⟩
 have l6: ¬((t.size:Int)<6):=by omega
 have q0:0<t.size:=by omega
 have q1:1<t.size:=by omega
 obtain⟨a,ha⟩: ∃a,t[0]=a:=⟨_,rfl⟩;obtain⟨b,hb⟩: ∃b,t[1]=b:=⟨_,rfl⟩;have ga:t.data.toList[0]? =some a:=by rw[Dx t q0,ha]
 have gb:t.data.toList[1]? =some b:=by rw[Dx t q1,hb]
 have hal:=Dr a;have hbl:=Dr b;have ne: ∀(c:UInt8) (n:Nat),n<256->c≠UInt8.ofNat n->((c.toNat:Int)==(n:Int))=false:=fun c n hn h=>by rw[Py hn];simpa using h
 by_cases h92:a=92;rotate_left
 . have e:F6 t.data.toList=none:=by unfold F6;rw[if_pos];right;left;rw[ga];simpa using h92
   have e1:=ne a 92 (by decide) h92;rw[e];clear e hlen ga gb ne h92 h6;go_enter Tryz.func314,Tryz.ntmps314;go_wp2;go_ret2;exact⟨rfl,rfl⟩
 by_cases h117:b=117;rotate_left
 . have e:F6 t.data.toList=none:=by unfold F6;rw[if_pos];right;right;rw[gb];simpa using h117
   have e1:=ne b 117 (by decide) h117;rw[e];subst h92;clear e hlen ga gb ne h117 h6;go_enter Tryz.func314,Tryz.ntmps314;go_wp2;go_ret2;exact⟨rfl,rfl⟩
 subst h92 h117;have e:F6 t.data.toList=Mr (t.data.toList.drop 2) 4 0:=by
  unfold F6;rw[if_neg];rw[ga,gb];simp;omega
 rw[e];obtain⟨F,hF⟩: ∃F,Mr (t.data.toList.drop 2) 4 0=F:=⟨_,rfl⟩;rw[hF];have H0:=qz hF;clear e hF ga gb ne hlen;go_enter Tryz.func314,Tryz.ntmps314;go_wp2
 go_loop [4,5] (fun x i=> ∃k n:Nat,2<=k/\k<=6/\i=.int .i64 k/\x=.int .i32 n/\n<16 ^ (k - 2)/\Hid (Mr (t.data.toList.drop k) (6 - k) n=F)) (fun _ i=>6 - (intOf i).toNat)
 case atStart=>exact⟨2,0,by omega,by omega,rfl,rfl,by decide,H0⟩
 case round=>
  obtain⟨k,n,hk2,hk6,rfl,rfl,hn,hf⟩:=hrel;clear H0;by_cases hlt:k<6
  . have hkt:k<t.size:=by omega
    obtain⟨c,hc⟩: ∃c,t[k]=c:=⟨_,rfl⟩;have hg:t.data.toList[k]? =some c:=by rw[Dx t hkt,hc]
    have hcl:=Dr c;have hn':n<4096:=by
     have:16 ^ (k - 2)<=16 ^ 3:=Nat.pow_le_pow_right (by decide) (by omega);omega
    have hf':=hf.out;rw[Iw hg,show 6 - k=(6 - (k+1))+1 from by omega]at hf';simp only[Mr]at hf'
    cases hd:Vk c with
    |none=>
     rw[hd]at hf';subst hf';have HD:=qz (fun W=>An3 hd W);clear hf hd hg;go_wp2_with (fail);(with_reducible refine(HD.out _).mono ?_);rintro e w1 ⟨rfl,rfl⟩;go_wp2;go_ret2;exact⟨rfl,rfl⟩
    |some d=>
     rw[hd]at hf';simp only at hf';have HD:=qz (fun W=>Amg hd W);have hd16:=Agf hd;have HF:=qz hf';have hpow:16*n+d<16 ^ (k+1 - 2):=by
      rw[show k+1 - 2=(k - 2)+1 from by omega,Nat.pow_succ];omega
     have HP:=qz hpow;clear hf hd hg hf' hn hpow;go_wp2_with (fail);(with_reducible refine(HD.out _).mono ?_);rintro e w1 ⟨rfl,rfl⟩;go_wp2
     go_round
     case rel=>exact⟨k+1,16*n+d,by omega,by omega,by go_num,by rw[Apq (by omega) (by omega)],HP.out,HF⟩
     case measure=>simp[intOf];omega
  . obtain rfl:k=6:=by omega
    have hf':=hf.out;have e:Mr (t.data.toList.drop 6) (6 - 6) n=some n:=by cases t.data.toList.drop 6<;>rfl
    rw[e]at hf';subst hf';clear hf e;go_wp2;go_ret2;exact⟨rfl,rfl⟩
end Go.Proofs.YtkmcjfkokoidcaaGreatDoor
