/- Parts: What may stand deep may stand higher; what is within a value that may be, may be. Plain. No condition. -/
import Derived.Stop.RegionWithIn
import Derived.Shelf.AbstractIn
import Derived.Deep.RegionWith
import Derived.Test.YtdbejcbbhomdbaaGreatDoorKPt14
import Derived.Test.YtdbejcbbhomdbaaGreatDoorKPt15
set_option maxHeartbeats 20000000
set_option maxRecDepth 100000
namespace Go.Proofs.YtdbejcbbhomdbaaGreatDoor
open Go.RowKit
attribute [local go_sem] Oper.semAt_some
def F6:List (ByteArray×Val)->Bool->List (Bool×(ByteArray×Val))
 | [],_=> []
 |p::r,f=>(f,p)::F6 r false
def Val.kind:Val->Int
 | .mk k _ _ _ _ _=>k
def Eh (x:Bool×(ByteArray×Val)):ByteArray:=(⟨(if x.1 then []else [44]:List UInt8).toArray⟩:ByteArray)++⟨(Cu x.2.1).toArray⟩
def Xt (x:Bool×(ByteArray×Val)) (q:Nat):Array Value:=
 #[.string (Eh x),.func (.func (Kn x.2.2.kind)) #[] (Ga x.2.2.kind q)]
def Aa4 (W0:World) (B G:Nat) (x:Bool×(ByteArray×Val)) (q:Nat) (A:World):Prop:=
 G<q/\ ∃cs,A.heap[q]? =some (.cells cs.toArray 33 (0,0))/\Aa W0 B x.2.2 cs
theorem Qm (oa:Option Addr) (on oc:Nat) (w:World):
 Calls Tryz.prog 124 #[.slice oa on oc] w fun e w'=>e=.returned (.func (.func 168) #[] #[.pointer (some ⟨w.heap.size,0,none⟩)])/\w.alloc (.cells #[.slice oa on oc] 31)=w':=by
 go_enter Tryz.func124,Tryz.ntmps124;go_wp2;go_ret;exact⟨rfl,rfl⟩
theorem Pt (o:List (ByteArray×Val)) (W0:World) (B G p:Nat) (oa:Option Addr) (oc:Nat) (go off:Nat) (h5:5<=B) (hT:Ck W0)
 (hoa:o= []\/(oa=some ⟨go,off,none⟩/\go<B/\Ak W0 B o go off)) (hok:Xu o) (hb:Ag o<=1000000000):
 Sg Tryz.prog 168 #[.pointer (some ⟨p,0,none⟩)] Xt (Aa4 W0 B G) (F6 o true)
  (fun A=>A.heap[p]? =some (.cells #[.slice oa o.length oc] 31 (0,0))/\Below B W0 A/\G<A.heap.size):=by
 intro n l J W hJn hJb hY h0;have hoo:o.length<=1000000000:=by have:=Bu o;omega
 have hmx:Tryz.prog.follows .mixedOrders=true:=by kernel_rfl
 have hc0:W.cell? ⟨p,0,none⟩=some (.slice oa o.length oc):=(Lib.cell_of_heap (hJb _ _ h0).1 0).trans rfl;refine callsIn_of_wp Tryz.func168 rfl trivial ?_ rfl;simp only[Tryz.ntmps168,List.size_toArray,List.length_cons,List.length_nil,Nat.reduceAdd,Nat.reduceSub,Array.replicate_succ,Array.replicate_zero,List.push_toArray,List.append_toArray,List.nil_append,List.cons_append]
 gi_wp2
 gi_loopw [7] (fun i wr=> ∃(pre:List (Bool×(ByteArray×Val))) (k:Nat),i=.int .i64 k/\k<=o.length/\Hid (F6 o true=pre++F6 (o.drop k) (decide ((k:Int)=0)))/\J pre wr) (fun i _=>o.length - (intOf i).toNat)
 case atStart=>exact⟨[],0,rfl,Nat.zero_le _,rfl,h0⟩
 case round=>
  obtain⟨pre,k,rfl,hk,hr,hJ⟩:=hrel;obtain⟨hp,hbw,hG⟩:=hJb _ _ hJ;by_cases hlt:k<o.length
  . obtain⟨rfl,hg,hO⟩:oa=some ⟨go,off,none⟩/\go<B/\Ak W0 B o go off:=by
     rcases hoa with rfl|h
     . simp at hlt
     . exact h
    obtain⟨m,hm⟩: ∃m,o[k]? =some m:=⟨_,List.getElem?_eq_getElem hlt⟩;have hmem:m ∈ o:=List.mem_of_getElem? hm;have hsp:=Ue hm;have hokm:=Y7 hok hmem;have HTr:Hid (Ck wr):=hT.keep hbw h5;have hr':=hr.out;rw[B5 hm]at hr';simp only[F6]at hr';have hk1:decide (((k+1:Nat):Int)=0)=false:=by simp;omega
    obtain⟨key,v⟩:=m;obtain⟨k',b',n',t',l',o'⟩:=v;obtain⟨la',lc',oa',oc',hvs,c0,c1,c2,c3,c4,c5,c6⟩:=hO.seven hm;replace c0:=(hbw.cell (p:=⟨go,off+k*7,none⟩) hg).trans c0;replace c1:=(hbw.cell (p:=⟨go,off+k*7+1,none⟩) hg).trans c1;replace c2:=(hbw.cell (p:=⟨go,off+k*7+2,none⟩) hg).trans c2;replace c3:=(hbw.cell (p:=⟨go,off+k*7+3,none⟩) hg).trans c3;replace c4:=(hbw.cell (p:=⟨go,off+k*7+4,none⟩) hg).trans c4;replace c5:=(hbw.cell (p:=⟨go,off+k*7+5,none⟩) hg).trans c5;replace c6:=(hbw.cell (p:=⟨go,off+k*7+6,none⟩) hg).trans c6;have HY:Hid (∀(A:World) (q:Nat),G<q->A.heap[q]? =some (.cells #[.int .i64 k',.bool b',.int .i64 n',.string t',.slice la' l'.length lc',.slice oa' o'.length oc'] 33 (0,0))->Below wr.heap.size wr A->
     YieldAt Fence.wide n Tryz.prog l #[.string ((⟨(if decide ((k:Int)=0)then []else [44]:List UInt8).toArray⟩:ByteArray)++⟨(Cu key).toArray⟩),.func (.func (Kn k')) #[] (Ga k' q)] A fun e B=>e=.returned (.bool true)/\J (pre++ [(decide ((k:Int)=0),key,.mk k' b' n' t' l' o')]) B):=by
     show ∀_ _,_;intro A q hq hA hb;have hM:Aa4 W0 B G (decide ((k:Int)=0),key,.mk k' b' n' t' l' o') q A:=⟨hq,C0 k' b' n' t' la' l'.length lc' oa' o'.length oc',hA,hvs⟩;have:=hY pre _ _ q A hr' (hJn _ _ _ hJ hb) hM;simp only[Xt,Eh,Val.kind]at this;exact this
    have Hr2:Hid (F6 o true=(pre++ [(decide ((k:Int)=0),key,.mk k' b' n' t' l' o')])++F6 (o.drop (k+1)) (decide (((k+1:Nat):Int)=0))):=by
     show _=_;rw[hk1,hr'];simp
    have cB: ∀w,Calls Tryz.prog 122 #[.int .i64 k] w fun e w'=>e=.returned (.string ⟨(if decide ((k:Int)=0)then []else [44]:List UInt8).toArray⟩)/\w=w':=by
     intro w;have:=Ko (k:Int) w;simpa only[decide_eq_true_eq]using this
    have hkz:key.size<=1000000000:=by simp only[Ez]at hsp;omega
    have cQ: ∀w,Ck w->Calls Tryz.prog 120 #[.string key] w fun e w'=>e=.returned (.string ⟨(Cu key).toArray⟩)/\Below w.heap.size w w':=fun w hw=>Nu key w hw hkz hokm.1;clear hr hr' hsp hokm hmem hm hO hvs hoa hY hk1 hok;have hS1:(⟨(if decide ((k:Int)=0)then []else [44]:List UInt8).toArray⟩:ByteArray).size<=1:=by
     split<;>simp[ByteArray.size]
    have hS2:(⟨(Cu key).toArray⟩:ByteArray).size<=6000000002:=by
     have:=Gm key;simp only[ByteArray.size,List.size_toArray];omega
    generalize (⟨(if decide ((k:Int)=0)then []else [44]:List UInt8).toArray⟩:ByteArray)=S at HY cB hS1;generalize (⟨(Cu key).toArray⟩:ByteArray)=Q at HY cQ hS2;have hSQ:((S.size:Int)+(Q.size:Int)>9223372036854775807)=False:=by simp;omega
    have hSQ2:((S.size+Q.size:Nat):Int)>IntKind.i64.max ↔ False:=by
     have e:IntKind.i64.max=9223372036854775807:=rfl;simp only[iff_false,e];omega
    obtain⟨CB,CQ⟩:=hid2 cB cQ;clear cB cQ;obtain⟨HJn,HJb,Hbw,HJ,Hp⟩:=hid5 hJn hJb hbw hJ hp;clear hc0 h0 hb hT hJn hJb hmx hbw hJ hp;have hGr:=hG
    gi_wp2
    obtain⟨A,hA⟩: ∃A,wr.alloc (.cells #[.string key,.int .i64 k',.bool b',.int .i64 n',.string t',.slice la' l'.length lc',.slice oa' o'.length oc'] 88)=A:=⟨_,rfl⟩;have hAb:Below wr.heap.size wr A:=by rw[<-hA];exact(Below.refl _ _).alloc (Nat.le_refl _) _
    have hAh:A.heap[wr.heap.size]? =some (.cells #[.string key,.int .i64 k',.bool b',.int .i64 n',.string t',.slice la' l'.length lc',.slice oa' o'.length oc'] 88 (0,0)):=by rw[<-hA];exact heap_alloc_new _ _
    rw[hA];have hAz:=(Array.getElem?_eq_some_iff.1 hAh).1;have hDb:Below wr.heap.size wr A.drew:=Below.drew hAb;have HTD:Hid (Ck A.drew):=HTr.out.keep hDb HTr.out.1;have hDh:A.drew.heap[wr.heap.size]? =some (.cells #[.string key,.int .i64 k',.bool b',.int .i64 n',.string t',.slice la' l'.length lc',.slice oa' o'.length oc'] 88 (0,0)):=hAh;clear hA c0 c1 c2 c3 c4 c5 c6 hAb;have HG:Hid (G<wr.heap.size):=hG;have hmx:Tryz.prog.follows .mixedOrders=true:=by kernel_rfl
    have a0:A.drew.cell? ⟨wr.heap.size,0,none⟩=some (.string key):=(Lib.cell_of_heap hDh 0).trans rfl;have a1:A.drew.cell? ⟨wr.heap.size,1,none⟩=some (.int .i64 k'):=(Lib.cell_of_heap hDh 1).trans rfl;have a2:A.drew.cell? ⟨wr.heap.size,2,none⟩=some (.bool b'):=(Lib.cell_of_heap hDh 2).trans rfl;have a3:A.drew.cell? ⟨wr.heap.size,3,none⟩=some (.int .i64 n'):=(Lib.cell_of_heap hDh 3).trans rfl;have a4:A.drew.cell? ⟨wr.heap.size,4,none⟩=some (.string t'):=(Lib.cell_of_heap hDh 4).trans rfl;have a5:A.drew.cell? ⟨wr.heap.size,5,none⟩=some (.slice la' l'.length lc'):=(Lib.cell_of_heap hDh 5).trans rfl;have a6:A.drew.cell? ⟨wr.heap.size,6,none⟩=some (.slice oa' o'.length oc'):=(Lib.cell_of_heap hDh 6).trans rfl;obtain⟨HDh,HDb⟩:=hid2 hDh hDb;clear hDh hDb hG hAz hAh
    gi_region_with (first|(refine⟨trivial, ?_⟩;gi_at_call 122;refine(callsIn_wide.2 (CB.out _)).mono ?_;rintro e wx ⟨rfl,rfl⟩)|(refine⟨trivial, ?_⟩;gi_at_call 120;refine(callsIn_wide.2 (CQ.out _ HTD.out)).mono ?_;rintro e w2 ⟨rfl,hb2⟩;have HB2:=qz hb2;have d0:=(hb2.block wr.heap.size (Array.getElem?_eq_some_iff.1 HDh.out).1).trans HDh.out;have d1:w2.cell? ⟨wr.heap.size,1,none⟩=some (.int .i64 k'):=(Lib.cell_of_heap d0 1).trans rfl;have d2:w2.cell? ⟨wr.heap.size,2,none⟩=some (.bool b'):=(Lib.cell_of_heap d0 2).trans rfl;have d3:w2.cell? ⟨wr.heap.size,3,none⟩=some (.int .i64 n'):=(Lib.cell_of_heap d0 3).trans rfl;have d4:w2.cell? ⟨wr.heap.size,4,none⟩=some (.string t'):=(Lib.cell_of_heap d0 4).trans rfl;have d5:w2.cell? ⟨wr.heap.size,5,none⟩=some (.slice la' l'.length lc'):=(Lib.cell_of_heap d0 5).trans rfl;have d6:w2.cell? ⟨wr.heap.size,6,none⟩=some (.slice oa' o'.length oc'):=(Lib.cell_of_heap d0 6).trans rfl;clear hb2 d0)|(refine⟨trivial, ?_⟩;gi_at_call 81;refine(callsIn_wide.2 (Ke k' b' n' t' la' oa' l'.length lc' o'.length oc' w2)).mono ?_;rintro e w3 ⟨rfl,rfl⟩;obtain⟨fn,tmps,assign,body,hy,hR⟩:=HY.out (w2.alloc (.cells #[.int .i64 k',.bool b',.int .i64 n',.string t',.slice la' l'.length lc',.slice oa' o'.length oc'] 33)) w2.heap.size (Nat.lt_of_lt_of_le HG.out (HDb.out.trans (HB2.out.mono HDb.out.size)).size) (heap_alloc_new _ _) (((HDb.out.trans (HB2.out.mono HDb.out.size))).alloc (HDb.out.trans (HB2.out.mono HDb.out.size)).size _))|(refine hR.mono ?_;rintro e W3 ⟨rfl,hJ3⟩;clear hy hR))
    all_goals(
     gi_wp2
     go_roundw
     case rel=>exact⟨_,k+1,by go_num,by omega,Hr2,hJ3⟩
     case measure=>simp[intOf];omega)
  . obtain rfl:k=o.length:=by omega
    have hr':=hr.out;rw[List.drop_length]at hr';simp only[F6,List.append_nil]at hr';have Hr:=qz hr';clear hr hr' hoa hbw hT
    gi_wp2
    go_end0
    exact⟨⟨_,rfl⟩,by rw[Hr.out];exact hJ⟩
attribute [local go_sem] Oper.semAt_some
theorem Nk: ∀(o:List (ByteArray×Val)) (f:Bool) {pre:List (Bool×(ByteArray×Val))} {x:Bool×(ByteArray×Val)} {rest:List (Bool×(ByteArray×Val))},F6 o f=pre++x::rest->
 x.1=(f&&(pre.map (·.2)).isEmpty)/\o=pre.map (·.2)++x.2::rest.map (·.2)
 | [],f,pre,x,rest,h=>by simp[F6]at h
 |p::r,f, [],x,rest,h=>by
  simp only[F6,List.nil_append,List.cons.injEq]at h;obtain⟨rfl,h⟩:=h;have: ∀(l:List (ByteArray×Val)) (f:Bool),(F6 l f).map (·.2)=l:=by
   intro l
   induction l with
   |nil=>intro f;rfl
   |cons a l ih=>intro f;simp[F6,ih]
  rw[<-h,this];simp
 |p::r,f,y::pre,x,rest,h=>by
  simp only[F6,List.cons_append,List.cons.injEq]at h;obtain⟨rfl,h⟩:=h;obtain⟨h1,h2⟩:=Nk r false h;exact⟨by simpa using h1,by simp[<-h2]⟩
theorem Rt: ∀(l:List (ByteArray×Val)) (f:Bool),(F6 l f).map (·.2)=l
 | [],_=>rfl
 |a::l,f=>by simp[F6,Rt l]
theorem Dw.of_below {g:Nat} {A W:World} (h:Below A.heap.size A W):Dw g A W:=fun j _ hj _ _=>(h.block j (Array.getElem?_eq_some_iff.1 hj).1).trans hj
theorem Y8: ∀{a:List (ByteArray×Val)} {b:List (ByteArray×Val)},Xu (a++b)->Xu a
 | [],_,_=>by simp[Xu]
 |x::r,b,h=>by simp only[List.cons_append,Xu]at h ⊢;exact⟨h.1,Y8 h.2⟩
theorem Rj: ∀(a:List (ByteArray×Val)) (p:ByteArray×Val) (b:List (ByteArray×Val)),Ag a+Ez p<=Ag (a++p::b)
 | [],p,b=>by simp[Ag]
 |x::r,p,b=>by have:=Rj r p b;simp only[List.cons_append,Ag];omega
def OI (W:World) (B g b pm:Nat) (keeps:Bool) (acc:List UInt8) (sl:Value) (pre:List (Bool×(ByteArray×Val))) (A:World):Prop:=
 Wr A B g keeps (acc++123::Cj (pre.map (·.2)) true)/\Below B W A/\Dw g W A/\A.heap[b]? =some (.cells #[.pointer (some ⟨g,0,none⟩)] 134 (0,0))/\A.heap[pm]? =some (.cells #[sl] 31 (0,0))
theorem K2 (o:List (ByteArray×Val)) (IH: ∀m ∈ o,Sf m.2) (W:World) (B g p:Nat) (h5:5<=B) (keeps:Bool) (acc:List UInt8) (oa:Option Addr) (oc:Nat) (v0 v1 v2 v3 v4:Value)
 (hp:W.heap[p]? =some (.cells #[v0,v1,v2,v3,v4,.slice oa o.length oc] 33 (0,0)))
 (gl off:Nat) (hoa:o= []\/(oa=some ⟨gl,off,none⟩/\gl<B/\Ak W B o gl off)) (hT:Ck W) (hpg:p≠g) (hW:Wr W B g keeps acc) (hok:Xu o) (hlen:acc.length+6*(6+Ag o)<=20000000000) (hb:Ag o<=1000000000):
 Calls Tryz.prog 123 #[.pointer (some ⟨g,0,none⟩),.pointer (some ⟨p,0,none⟩)] W fun e W'=>e=.returned (.tuple #[])/\Wr W' B g keeps (acc++123::(Cj o true++ [125]))/\Below B W W'/\Dw g W W':=by
 have hoo:o.length<=1000000000:=by have:=Bu o;omega
 have hgW:=hW.lt;have hBg:=hW.base;have hpW:=(Array.getElem?_eq_some_iff.1 hp).1;have hW0:Wr (W.alloc (.cells #[.pointer (some ⟨g,0,none⟩)] 134)) B g keeps acc:=hW.below ((Below.refl _ _).alloc (Nat.le_refl _) _);have Hb0:Hid (Below W.heap.size W (W.alloc (.cells #[.pointer (some ⟨g,0,none⟩)] 134))):=(Below.refl _ _).alloc (Nat.le_refl _) _;have hB0:=heap_alloc_new W (.cells #[.pointer (some ⟨g,0,none⟩)] 134);have hz0:(W.alloc (.cells #[.pointer (some ⟨g,0,none⟩)] 134)).heap.size=W.heap.size+1:=by simp
 have hj1:=Eb [⟨#[123]⟩] 1 hW0 (by simp[Dz];omega) (by simp);rw[hz0]at hj1;obtain⟨HJ1,HB0,HP,HOA,HIH,HOK,HT⟩:=hid7 hj1 hB0 hp hoa IH hok hT;clear hj1 hB0 hp hoa IH hok hT hW0;refine(callsIn_wide (n:=12)).1 ?_;refine callsIn_of_wp_marks Tryz.func123 rfl trivial ?_ rfl;simp only[Tryz.ntmps123,List.size_toArray,List.length_cons,List.length_nil,Nat.reduceAdd,Nat.reduceSub,Array.replicate_succ,Array.replicate_zero,List.push_toArray,List.append_toArray,List.nil_append,List.cons_append]
 gi_wp2_with (first|(refine⟨trivial, ?_⟩;gi_at_call 115;refine(callsIn_wide.2 HJ1.out).mono ?_;rintro e w1 ⟨rfl,hw1,hb1,hk1⟩;have hp1:=hk1.cells ((Hb0.out.block p hpW).trans HP.out) hpg (by decide);have c5:w1.cell? ⟨p,5,none⟩=some (.slice oa o.length oc):=(Lib.cell_of_heap hp1 5).trans rfl)|(refine⟨trivial, ?_⟩;gi_at_call 124;refine(callsIn_wide.2 (Qm oa o.length oc w1)).mono ?_;rintro e w2 ⟨rfl,hw2⟩))
 have hz1:=hw1.lt;have hbW1:Below B W w1:=(Hb0.out.mono (by omega)).trans hb1;have hkW1:Dw g W w1:=(Dw.of_below Hb0.out).trans hk1;have hbx1:=hk1.cells HB0.out (by omega) (by decide);have hs1:=hb1.size;have hWs:W.heap.size<w1.heap.size:=(Array.getElem?_eq_some_iff.1 hbx1).1;have hg2:Below w1.heap.size w1 w2:=hw2▸(Below.refl _ _).alloc (Nat.le_refl _) _;have hpm:w2.heap[w1.heap.size]? =some (.cells #[.slice oa o.length oc] 31 (0,0)):=hw2▸heap_alloc_new _ _;have hbx2:=(hg2.block W.heap.size hWs).trans hbx1;have hW2:Wr w2 B g keeps (acc++123::Cj [] true):=by
  have:=hw1.below hg2;simpa[Dz,Cj]using this
 have hb2:Below B W w2:=hbW1.trans (hg2.mono (by omega));have hk2:Dw g W w2:=hkW1.trans (Dw.of_below hg2);have hz2:=(Array.getElem?_eq_some_iff.1 hpm).1;clear hw2 hw1 hb1 hk1 hp1 c5 hbW1 hkW1 hbx1 hg2 hs1;refine K1 (n:=10) (gf:=168) (lb:= #[.pointer (some ⟨w1.heap.size,0,none⟩)]) rfl (enters_of Tryz.func168 (by kernel_rfl) rfl) (Pt o W B g w1.heap.size oa oc gl off h5 HT.out HOA.out HOK.out hb) (fun _ _=>rfl)
  ?hEp (OI W B g W.heap.size w1.heap.size keeps acc (.slice oa o.length oc)) ?hIn ?hIp ?hIb ?h0 ?a1 ?assign ?body ?done
 case assign=>
  intro l x q W K hK;dsimp only[Xt]
  gi_wp2
  exact hK
 case h0=>exact⟨hW2,hb2,hk2,hbx2,hpm⟩
 case hIb=>
  rintro pre A ⟨h1,h2,h3,h4,h6⟩;exact⟨h6,h2,h1.lt⟩
 case hIn=>
  rintro pre A A' ⟨h1,h2,h3,h4,h6⟩ hb';exact⟨h1.below hb',h2.trans (hb'.mono (Nat.le_trans h1.base (Nat.le_of_lt h1.lt))),h3.trans (Dw.of_below hb'),(hb'.block _ (Array.getElem?_eq_some_iff.1 h4).1).trans h4,(hb'.block _ (Array.getElem?_eq_some_iff.1 h6).1).trans h6⟩
 case hEp=>
  rintro x q A k u u' ⟨h1,cs,h2,h3⟩ ho hc;refine⟨h1,cs, ?_,h3⟩;rw[World.putObj_heap_other (by rintro rfl;rw[h2]at ho;injection ho with ho;subst ho;simp[Obj.isCells]at hc)];exact h2
 case hIp=>
  rintro pre A k u u' ⟨h1,h2,h3,h4,h6⟩ ho hc hk;refine⟨h1.put ho hc,h2.grown (grownBy_putObj' A k u') (by have:=h2.size;omega) (fun j e=>by cases e;omega),fun j v hj hg hv=> ?_, ?_, ?_⟩
  . have:=(Array.getElem?_eq_some_iff.1 hj).1;rw[World.putObj_heap_other (by omega)];exact h3 j v hj hg hv
  . rw[World.putObj_heap_other (by omega)];exact h4
  . rw[World.putObj_heap_other (by omega)];exact h6
 case body=>
  rintro l pre x rest q A hx ⟨h1,h2,h3,h4,h6⟩ ⟨hq,cs,hqc,hqv⟩ ⟨ds,hds⟩ ⟨rc,hrc⟩;obtain⟨hf,ho⟩:=Nk o true hx;have htl:=Kk (pre.map (·.2)) (fun m _=>Ie m.2) (Y8 (ho▸HOK.out)) true;have hbk:Ag (pre.map (·.2))+Ez x.2<=Ag o:=by rw[ho];exact Rj _ _ _
  have hxm:x.2 ∈ o:=by rw[ho];simp
  have hokx:=Y7 HOK.out hxm;have hsn:Cj ((pre++ [x]).map (·.2)) true=Cj (pre.map (·.2)) true++((Eh x).data.toList++(58::Bx x.2.2)):=by
   rw[List.map_append,List.map_cons,List.map_nil,Lm];obtain⟨f,key,v⟩:=x;simp only at hf;simp only[V4,Eh,hf];simp[List.append_assoc]
  obtain⟨f,key,v⟩:=x;obtain⟨k',b',n',t',l',o'⟩:=v;have hqk:=Gm key;have hmt:(Eh (f,key,.mk k' b' n' t' l' o')).data.toList.length<=6*key.size+3:=by
   simp only[Eh]
   split<;>simp<;>omega
  simp only[Ez]at hbk;have hfl:Dz [Eh (f,key,.mk k' b' n' t' l' o'),⟨#[58]⟩]=(Eh (f,key,.mk k' b' n' t' l' o')).data.toList++ [58]:=by simp[Dz]
  have hlA:(acc++123::Cj (pre.map (·.2)) true).length+6*(Val.mk k' b' n' t' l' o').bulk+6*key.size+7<=20000000000:=by
   rw[List.length_append,List.length_cons];omega
  have hqb:(Val.mk k' b' n' t' l' o').bulk<=1000000000:=by omega
  have hM1:((Eh (f,key,.mk k' b' n' t' l' o')).data.toList++ [58]).length=(Eh (f,key,.mk k' b' n' t' l' o')).data.toList.length+1:=by simp
  have IHv:=qz (HIH.out _ hxm);obtain⟨HOKx,Hsn⟩:=hid2 hokx hsn;have hj:=Eb [Eh (f,key,.mk k' b' n' t' l' o'),⟨#[58]⟩] 2 h1 (by rw[hfl];omega) (by simp);rw[hfl]at hj;obtain⟨HJ,HQ,HV⟩:=hid3 hj hqc hqv;have h4c:A.cell? ⟨W.heap.size,0,none⟩=some (.pointer (some ⟨g,0,none⟩)):=(Lib.cell_of_heap h4 0).trans rfl;have H2:=qz h2;have hA:=h1.lt;have hAb:=(Array.getElem?_eq_some_iff.1 h4).1;have hl3:((acc++123::Cj (pre.map (fun y:Bool×(ByteArray×Val)=>y.2)) true)++((Eh (f,key,.mk k' b' n' t' l' o')).data.toList++ [58])).length+6*(Val.mk k' b' n' t' l' o').bulk<=20000000000:=by
   rw[List.length_append];omega
  have ent:=Gw;simp only[Val.kind];clear hj hsn hokx hxm ho hf htl hbk hx hfl hqc hqv
  gi_wp2_with (first|(refine⟨trivial, ?_⟩;gi_at_call 115;refine(CallsIn.inRound l (callsIn_wide.2 HJ.out)).mono ?_;rintro e A2 ⟨rfl,g1,g2,g3⟩;have g4:=g3.cells h4 (by omega) (by decide);have g5:A2.cell? ⟨W.heap.size,0,none⟩=some (.pointer (some ⟨g,0,none⟩)):=(Lib.cell_of_heap g4 0).trans rfl)|(refine⟨trivial, ?_⟩;gi_at_fn (Kn k');refine(CallsIn.inRound l (callsIn_wide.2 (IHv.out A2 B g q keeps _ cs k' b' n' t' l' o' rfl h5 (HT.out.keep (H2.out.trans g2) h5) (HV.out.below (H2.out.trans g2)) (g3.cells HQ.out (by omega) (by decide)) (by omega) g1 HOKx.out.2 hqb hl3))).mono ?_;rintro e A3 ⟨rfl,g6,g7,g8⟩))
  have hkk:Dw g A A3:=g3.trans g8;refine⟨?_, ?_, ?_,h2.trans (g2.trans g7),h3.trans hkk,hkk.cells h4 (by omega) (by decide),hkk.cells h6 (by omega) (by decide)⟩
  . exact(hkk _ _ hds (by simp;omega) (fun c fz e=>by cases e)).trans hds.symm
  . exact(hkk _ _ hrc (by simp;omega) (fun c fz e=>by cases e)).trans hrc.symm
  . rw[Hsn.out];simpa[List.append_assoc]using g6
 case done=>
  rintro A ⟨h1,h2,h3,h4,h6⟩ hds;rw[Rt]at h1;have htl:=Kk o (fun m _=>Ie m.2) HOK.out true;have HJ:=qz (Eb [⟨#[125]⟩] 1 h1 (by rw[List.length_append,List.length_cons];simp[Dz];omega) (by simp));have h4c:A.cell? ⟨W.heap.size,0,none⟩=some (.pointer (some ⟨g,0,none⟩)):=(Lib.cell_of_heap h4 0).trans rfl;have hA:=h1.lt;have hAb:=(Array.getElem?_eq_some_iff.1 h4).1;have e:Dz [⟨#[125]⟩]= [125]:=by simp[Dz]
  clear htl
  gi_wp2_with (refine⟨trivial, ?_⟩;gi_at_call 115;refine(callsIn_wide.2 HJ.out).mono ?_;rintro e A2 ⟨rfl,g1,g2,g3⟩)
  have hd:=g3 _ _ hds (by simp;omega) (fun c fz e=>by cases e);refine⟨by simp,.inl ⟨_,_,rfl,run_takeDeferred hd, ?_⟩⟩;rw[e,List.append_assoc,List.cons_append]at g1;refine⟨_,results_none rfl _ _ _,rfl, ?_⟩;have hbA:=h2.trans g2;refine⟨g1.put hd rfl,hbA.grown (grownBy_putObj' A2 w2.heap.size _) (by have:=hbA.size;omega) (fun j e=>by cases e;omega),fun j v hj hg hv=> ?_⟩;have:=(Array.getElem?_eq_some_iff.1 hj).1;rw[World.putObj_heap_other (by omega)];exact g3 j v (h3 j v hj hg hv) hg hv
theorem Yi: ∀v,Sf v:=by
 refine Val.ind ?_;intro k b n t l o IHl IHo W B g p keeps acc cs k' b' n' t' l' o' hv h5 hT hH hp hpg hW hok hbk hlen
 injection hv with e1 e2 e3 e4 e5 e6
 subst e1 e2 e3 e4 e5 e6;simp only[Aa]at hH;obtain⟨la,lc,oa,oc,rfl,hla,hoa⟩:=hH;simp only[Wl]at hok;simp only[Val.bulk]at hbk hlen;by_cases h2:k=2
 . subst h2;exact Wh W B g p keeps acc b _ _ _ _ _ hp hW (by omega)
 by_cases h3:k=3
 . subst h3;exact Yj W B g p keeps acc n _ _ _ _ _ hp hT hok.2.1.1 hok.2.1.2 hpg hW (by omega)
 by_cases h4:k=4
 . subst h4;exact Wj W B g p keeps acc t _ _ _ _ _ hp hT hok.1 (by omega) hpg hW (by omega)
 by_cases h5':k=5
 . subst h5';rcases hla with rfl|⟨gl,off,rfl,hg,hL⟩
   . exact N9 [] IHl W B g p h5 keeps acc la lc _ _ _ _ _ hp 0 0 (.inl rfl) hT hpg hW hok.2.2.1 (by omega) (by omega)
   . exact N9 l IHl W B g p h5 keeps acc _ lc _ _ _ _ _ hp gl off (.inr ⟨rfl,hg,hL⟩) hT hpg hW hok.2.2.1 (by omega) (by omega)
 by_cases h6:k=6
 . subst h6;rcases hoa with rfl|⟨gl,off,rfl,hg,hL⟩
   . exact K2 [] IHo W B g p h5 keeps acc oa oc _ _ _ _ _ hp 0 0 (.inl rfl) hT hpg hW hok.2.2.2 (by omega) (by omega)
   . exact K2 o IHo W B g p h5 keeps acc _ oc _ _ _ _ _ hp gl off (.inr ⟨rfl,hg,hL⟩) hT hpg hW hok.2.2.2 (by omega) (by omega)
 . have ef:Kn k=125:=by simp[Kn,h2,h3,h4,h5',h6]
   have ec:Ga k p= #[]:=by simp[Ga,h2,h3,h4,h5',h6]
   have et:Bx (.mk k b n t l o)= [110,117,108,108]:=by simp[Bx,h2,h3,h4,h5',h6]
   rw[ef,ec,et];exact Wi W B g keeps acc hW (by omega)
theorem Acs: ∀(l:List Val),(∀v ∈ l,∀d,A5 v d=0->Jc v->Wl v)-> ∀d,C8 l d=0->Tw l->Wk l
 | [],_,_,_,_=>by simp[Wk]
 |v::r,ih,d,h,hi=>by
  simp only[C8]at h;simp only[Tw]at hi;simp only[Wk]
  split at h
  . rename_i h0;exact⟨ih v (by simp) d h0 hi.1,Acs r (fun x hx=>ih x (by simp[hx])) d h hi.2⟩
  . rename_i h0;exact absurd h h0
theorem Acv: ∀(l:List (ByteArray×Val)),(∀m ∈ l,∀d,A5 m.2 d=0->Jc m.2->Wl m.2)-> ∀last d,C5 l last d=0->U0 l->Xu l
 | [],_,_,_,_,_=>by simp[Xu]
 |(key,v)::r,ih,last,d,h,hi=>by
  simp only[C5]at h;simp only[U0,inP]at hi;simp only[Xu,okP]
  split at h
  . rename_i h0;refine⟨?_,Acv r (fun x hx=>ih x (by simp[hx])) _ d h hi.2⟩;simp only[M0]at h0
    split at h0
    . rename_i hv;refine⟨hv, ?_⟩
      cases last with
      |none=>exact ih (key,v) (by simp) d h0 hi.1
      |some q=>
       simp only at h0
       split at h0
       . cases h0
       . exact ih (key,v) (by simp) d h0 hi.1
    . cases h0
  . rename_i h0;exact absurd h h0
theorem Xv: ∀v d,A5 v d=0->Jc v->Wl v:=by
 refine Val.ind ?_;intro k b n t l o hl ho d h hi;simp only[A5]at h;simp only[Jc]at hi;simp only[Wl]
 split at h
 . cases h
 split at h
 . cases h
 split at h
 . rename_i hv
   split at h
   . rename_i h0;exact⟨hv,hi.1,Acs l hl _ h0 hi.2.1,Acv o ho _ _ h hi.2.2⟩
   . rename_i h0;exact absurd h h0
 . cases h
theorem Ady (n:Int):Lib.itoa n≠ []:=by
 unfold Lib.itoa
 split
 . simp
 . intro h;have:=congrArg List.length h;rw[Lib.decDigits_length]at this;have h1:=Lib.nDigits_pos n.toNat;simp at this;omega
theorem Adc (v:Val):Bx v≠ []:=by
 obtain⟨k,b,n,t,l,o⟩:=v;simp only[Bx]
 split
 . cases b<;>decide
 split
 . intro h;exact Ady n h
 split
 . simp[Cu]
 split
 . simp
 split
 . simp
 . simp
theorem Ae2 (W:World) (B:Nat) (keeps:Bool) (h:B<=W.heap.size):Wr (W.alloc (.cells #[.bool keeps,.pointer none,.slice none 0 0,.int .i64 0] 131)) B W.heap.size keeps []:=
 ⟨.pointer none,.slice none 0 0,h,heap_alloc_new _ _,by decide,by simp,.inl rfl,.slice none 0 0,rfl,by cases keeps<;>exact World.ownsRow_nil _ _ _ _⟩
theorem Mn (k:Int) (b:Bool) (n:Int) (t:ByteArray) (l:List Val) (o:List (ByteArray×Val)) (la oa:Option Addr) (lc oc:Nat) (keeps:Bool) (w:World) (hT:Ck w)
 (hV:Aa w w.heap.size (.mk k b n t l o) (C0 k b n t la l.length lc oa o.length oc)) (hb:(Val.mk k b n t l o).bulk<=1000000000) (hok:Wl (.mk k b n t l o)):
 Calls Tryz.prog (Kn k) (#[.pointer (some ⟨w.heap.size,0,none⟩)]++Ga k (w.heap.size+1))
  ((w.alloc (.cells #[.bool keeps,.pointer none,.slice none 0 0,.int .i64 0] 131)).alloc (.cells #[.int .i64 k,.bool b,.int .i64 n,.string t,.slice la l.length lc,.slice oa o.length oc] 33))
  fun e w'=>e=.returned (.tuple #[])/\Wr w' w.heap.size w.heap.size keeps (Bx (.mk k b n t l o))/\Below w.heap.size w w':=by
 have hw:=Yi (.mk k b n t l o);have h5:=hT.1;have hWA:Wr (w.alloc (.cells #[.bool keeps,.pointer none,.slice none 0 0,.int .i64 0] 131)) w.heap.size w.heap.size keeps []:=Ae2 w _ keeps (Nat.le_refl _);obtain⟨wA,hA⟩: ∃wA,w.alloc (.cells #[.bool keeps,.pointer none,.slice none 0 0,.int .i64 0] 131)=wA:=⟨_,rfl⟩;have hAb:Below w.heap.size w wA:=hA▸(Below.refl _ _).alloc (Nat.le_refl _) _;have hAz:wA.heap.size=w.heap.size+1:=by rw[<-hA];simp
 rw[hA]at hWA ⊢;have hBb:Below wA.heap.size wA (wA.alloc (.cells #[.int .i64 k,.bool b,.int .i64 n,.string t,.slice la l.length lc,.slice oa o.length oc] 33)):=(Below.refl _ _).alloc (Nat.le_refl _) _;have hAB:Below w.heap.size w (wA.alloc (.cells #[.int .i64 k,.bool b,.int .i64 n,.string t,.slice la l.length lc,.slice oa o.length oc] 33)):=hAb.trans (hBb.mono (by omega));have hc:=hw _ w.heap.size w.heap.size wA.heap.size keeps [] _ k b n t l o rfl h5 (hT.below hAB) (hV.below hAB) (heap_alloc_new wA (.cells #[.int .i64 k,.bool b,.int .i64 n,.string t,.slice la l.length lc,.slice oa o.length oc] 33)) (by omega) (hWA.below hBb) hok hb (by simp;omega);rw[hAz,List.nil_append]at hc;refine hc.mono ?_;rintro e w' ⟨he,h1,h2,h3⟩;exact⟨he,h1,hAB.trans h2⟩
theorem Rg {w:World} {g:Nat} {k:Int} {b:Bool} {n:Int} {t:ByteArray} {x y:Value} (h:w.heap[g]? =some (.cells #[.int .i64 k,.bool b,.int .i64 n,.string t,x,y] 33 (0,0))):
 w.cell? ⟨g,0,none⟩=some (.int .i64 k)/\w.cell? ⟨g,1,none⟩=some (.bool b)/\w.cell? ⟨g,2,none⟩=some (.int .i64 n)/\w.cell? ⟨g,3,none⟩=some (.string t)/\w.cell? ⟨g,4,none⟩=some x/\w.cell? ⟨g,5,none⟩=some y:=by
 refine⟨?_, ?_, ?_, ?_, ?_, ?_⟩<;>(rw[Lib.cell_of_heap h];rfl)
def Kx (v:Val):ByteArray:=if A5 v 1=0 then⟨(Bx v).toArray⟩else⟨#[]⟩
theorem Wt (v:Val) (cs:List Value) (w:World) (hT:Ck w) (hV:Aa w w.heap.size v cs) (hb:v.bulk<=1000000000) (hi:Jc v):
 Calls Tryz.prog 45 #[.agg cs.toArray] w fun e w'=>e=.returned (.tuple #[.string (Kx v),.int .i64 (A5 v 1)])/\Below w.heap.size w w':=by
 have hV':=hV;obtain⟨k,b,n,t,l,o⟩:=v;simp only[Aa]at hV';obtain⟨la,lc,oa,oc,rfl,_,_⟩:=hV';obtain⟨w1,hw1⟩: ∃w1,w.alloc (.cells (C0 k b n t la l.length lc oa o.length oc).toArray 33)=w1:=⟨_,rfl⟩;have hb1:Below w.heap.size w w1:=hw1▸(Below.refl _ _).alloc (Nat.le_refl _) _;have hz1:w1.heap.size=w.heap.size+1:=by rw[<-hw1];simp
 have hbx:w1.heap[w.heap.size]? =some (.cells #[.int .i64 k,.bool b,.int .i64 n,.string t,.slice la l.length lc,.slice oa o.length oc] 33 (0,0)):=by rw[<-hw1];exact heap_alloc_new _ _
 have hT1:=hT.below hb1;have hV1:=Aa.more (hb1.size) _ _ (hV.below hb1);have hM:=Mo _ _ w1 hT1 hV1 hb;obtain⟨HX,HW⟩:=hid2 hbx hb1;by_cases hm:A5 (.mk k b n t l o) 1=0
 . have hok:=Xv _ 1 hm hi;have hB:=fun w' (h:Below w1.heap.size w1 w')=>Mn k b n t l o la oa lc oc true w' (hT1.below h) (Aa.more h.size _ _ (hV1.below h)) hb hok;have hne:=Adc (.mk k b n t l o);have HO:=qz (fun w=>Ke k b n t la oa l.length lc o.length oc w);unfold Kx;rw[hm]at hM ⊢;rw[if_pos rfl];generalize Bx (.mk k b n t l o)=L at hB hne ⊢;have ent:=Gw;obtain⟨HB,HM,HZ⟩:=hid3 hB hM hz1;clear hB hM hm hok hi hb hT hV hT1 hV1 hbx hb1 hz1;subst hw1;go_enter Tryz.func45,Tryz.ntmps45;go_wp2_with (first|(go_at_call 56;refine(HM.out).mono ?_;rintro e w2 ⟨rfl,hb2⟩;have hz2:=hb2.size;rw[HZ.out]at hz2;have hlt2:w.heap.size<w2.heap.size:=(by omega);have hbox:w2.heap[w.heap.size]? =some (.cells #[.int .i64 k,.bool b,.int .i64 n,.string t,.slice la l.length lc,.slice oa o.length oc] 33 (0,0)):=(hb2.block _ (by simp)).trans HX.out;obtain⟨d0,d1,d2,d3,d4,d5⟩:=Rg hbox)|(go_at_call 81;refine(HO.out _).mono ?_;rintro e w3 ⟨rfl,rfl⟩)|(go_at_fn (Kn k);refine(HB.out _ hb2).mono ?_;rintro e w4 ⟨rfl,h6,h7⟩;obtain⟨pp,vv,hbld⟩:=h6)|(go_at_call 82;refine(Lu _ _ _ _ _ _ _ hbld hne).mono ?_;rintro e w5 ⟨rfl,hb5,hk5⟩));go_ret2;exact⟨rfl,HW.out.trans ((hb2.trans ((h7.trans hb5).mono hb2.size)).mono (by simp))⟩
 . unfold Kx;rw[if_neg hm];have hmb:(A5 (.mk k b n t l o) 1==0)=false:=by simpa using hm
   generalize A5 (.mk k b n t l o) 1=m at*
   have HM:=qz hM;clear hM hm hi hb hT hV hT1 hV1 hbx hb1 hz1;subst hw1;go_enter Tryz.func45,Tryz.ntmps45;go_wp2_with (go_at_call 56;refine(HM.out).mono ?_;rintro e w2 ⟨rfl,hb2⟩);go_ret2;exact⟨rfl,HW.out.trans (hb2.mono (by simp))⟩
theorem Jp: ∀{l:List Val} {d:Int},C8 l d=0-> ∀v ∈ l,A5 v d=0
 |v::r,d,h,x,hx=>by
  simp only[C8]at h
  split at h
  . rename_i h0;rcases List.mem_cons.1 hx with rfl|hx
    . exact h0
    . exact Jp h x hx
  . rename_i h0;exact absurd h h0
theorem U9: ∀{l:List (ByteArray×Val)} {last:Option ByteArray} {d:Int},C5 l last d=0-> ∀m ∈ l,Aw m.1=true/\A5 m.2 d=0
 |(key,v)::r,last,d,h,x,hx=>by
  simp only[C5]at h
  split at h
  . rename_i h0;rcases List.mem_cons.1 hx with rfl|hx
    . simp only[M0]at h0
      split at h0
      . rename_i hv;refine⟨hv, ?_⟩
        cases last with
        |none=>exact h0
        |some q=>
         simp only at h0
         split at h0
         . cases h0
         . exact h0
      . cases h0
    . exact U9 h x hx
  . rename_i h0;exact absurd h h0
theorem El {k:Int} {b:Bool} {n:Int} {t:ByteArray} {l:List Val} {o:List (ByteArray×Val)} {d:Int} (h:A5 (.mk k b n t l o) d=0):
 E2 k b n t l.length o.length=false/\d<=64/\Aw t=true/\C8 l (d+1)=0/\C5 o none (d+1)=0:=by
 simp only[A5]at h
 split at h
 . cases h
 rename_i h1
 split at h
 . cases h
 split at h
 . rename_i hv
   split at h
   . rename_i h0;exact⟨by simpa using h1,by omega,hv,h0,h⟩
   . rename_i h0;exact absurd h h0
 . cases h
theorem Oo {l:List Val} (h:Tw l) {x:Val} (hx:x ∈ l):Jc x:=by
 induction l with
 |nil=>cases hx
 |cons y r ih=>
  simp only[Tw]at h;rcases List.mem_cons.1 hx with rfl|hx
  . exact h.1
  . exact ih h.2 hx
theorem Adv {l:List (ByteArray×Val)} (h:U0 l) {x:ByteArray×Val} (hx:x ∈ l):Jc x.2:=by
 induction l with
 |nil=>cases hx
 |cons y r ih=>
  obtain⟨key,v⟩:=y;simp only[U0,inP]at h;rcases List.mem_cons.1 hx with rfl|hx
  . exact h.1
  . exact ih h.2 hx
theorem R7: ∀(a b:List Val) (f:Bool),Ci (a++b) f=Ci a f++Ci b (f&&a.isEmpty)
 | [],b,f=>by simp[Ci]
 |x::r,b,f=>by simp only[List.cons_append,Ci,R7 r b false];simp
theorem J0 (l:List Val) (k:Nat) (f:Bool):(Ci (l.take k) f).length<=(Ci l f).length:=by
 have:=R7 (l.take k) (l.drop k) f;rw[List.take_append_drop]at this;rw[this];simp
theorem R8: ∀(a b:List (ByteArray×Val)) (f:Bool),Cj (a++b) f=Cj a f++Cj b (f&&a.isEmpty)
 | [],b,f=>by simp[Cj]
 |x::r,b,f=>by simp only[List.cons_append,Cj,R8 r b false];simp
theorem J1 (l:List (ByteArray×Val)) (k:Nat) (f:Bool):(Cj (l.take k) f).length<=(Cj l f).length:=by
 have:=R8 (l.take k) (l.drop k) f;rw[List.take_append_drop]at this;rw[this];simp
theorem R4 (s:ByteArray):s.data.toList.length=s.size:=by rw[Array.length_toList];rfl
theorem Ou (l:List UInt8):(⟨l.toArray⟩:ByteArray).size=l.length:=rfl
end Go.Proofs.YtdbejcbbhomdbaaGreatDoor
