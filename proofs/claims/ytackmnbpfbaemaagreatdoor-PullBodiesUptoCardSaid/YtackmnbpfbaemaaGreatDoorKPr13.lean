/- Parts: A number, gathered below 0 digit by digit: the plain part. No condition. -/
import Derived.Test.YtackmnbpfbaemaaGreatDoorChecked
import Derived.Test.YtackmnbpfbaemaaGreatDoorRows
import Derived.Lay
import Derived.Lib.LaidIn
import Derived.Lib.LaidU8T
import Derived.LaidSub
import Derived.Lib.ItoaNum
import Derived.Deep.DeepHandedRow
import Derived.ProofKit
import Derived.Test.YtackmnbpfbaemaaGreatDoorKPr10
import Derived.Test.YtackmnbpfbaemaaGreatDoorKPr11
set_option maxHeartbeats 20000000
namespace Go.Proofs.YtackmnbpfbaemaaGreatDoor
open Go.RowKit
theorem Z0 (v:Val) (cs:List Value) (w:World) (hT:Cf w) (hV:Ac w w.heap.size v cs) (hb:v.bulk<=1000000000) (hok:okV v):
 Calls Tryz.prog 136 #[.agg cs.toArray] w fun e w'=>e=.returned (.int .i64 (Bk v).length)/\Below w.heap.size w w':=by
 have hV':=hV;obtain⟨k,b,n,t,l,o⟩:=v;simp only[Ac]at hV';obtain⟨la,lc,oa,oc,rfl,_,_⟩:=hV';obtain⟨w1,hw1⟩: ∃w1,w.alloc (.cells (Eo k b n t la l.length lc oa o.length oc).toArray 39)=w1:=⟨_,rfl⟩;have hb1:Below w.heap.size w w1:=hw1▸(Below.refl _ _).alloc (Nat.le_refl _) _;have hz1:w1.heap.size=w.heap.size+1:=by rw[<-hw1];simp
 have hc:=Qk k b n t l o la oa lc oc false w1 (hT.below hb1) (Ac.more hb1.size _ _ (hV.below hb1)) hb hok;have hown:=fun w=>Nk k b n t la oa l.length lc o.length oc w;rw[hz1]at hc;generalize Bk (.mk k b n t l o)=L at*
 have ent:=Kr;obtain⟨HC,HO,HAB⟩:=hid3 hc hown hb1;subst hw1;clear hc hown hV hb hok hT hz1 hb1;go_enter Tryz.func136,Tryz.ntmps136;go_wp2_with (first|(go_at_call 74;refine(HO.out _).mono ?_;rintro e w2 ⟨rfl,rfl⟩)|(go_at_fn (Nv k);refine(HC.out).mono ?_;rintro e w4 ⟨rfl,h6,h7⟩;have hW4:=h6;obtain⟨pp,vv,hbld⟩:=hW4;have g3:w4.cell? ⟨w.heap.size+1,3,none⟩=some (.int .i64 (L.length:Int)):=by(rw[Lib.cell_of_heap hbld.2.1];rfl)));go_ret;exact⟨rfl,HAB.out.trans (h7.mono (by simp))⟩
def Ack (v:Val):Prop:= ∀(cs:List Value) (w:World) (d:Int),Ac w w.heap.size v cs->v.bulk<=100000000->Ay v d=0->Ga v->
    Calls Tryz.prog 30 #[.agg cs.toArray] w fun e w'=>e=.returned (.string ⟨(Bk v).toArray⟩)/\Below w.heap.size w w'
theorem Z1 {T:ByteArray} {l:List UInt8} (h:T.data.toList=l):(⟨l.toArray⟩:ByteArray)=T:=by
 subst h;rfl
theorem Ey (a b:ByteArray):(a++b).data.toList=a.data.toList++b.data.toList:=by
 rw[ByteArray.data_append,Array.toList_append]
set_option maxRecDepth 100000 in
theorem Aen (b:Bool) (n:Int) (t:ByteArray) (l:List Val) (IH: ∀v ∈ l,Ack v) (la oa:Option Addr) (oc lc:Nat) (w:World) (d:Int) (hl:l= []\/ ∃g off,la=some ⟨g,off,none⟩/\g<w.heap.size/\Az w w.heap.size l g off)
 (hb:Bc l<=100000000) (hm:Dq l d=0) (hi:Oq l) (hlen:(Dk l true).length<=700000000):
 Calls Tryz.prog 30 #[.agg #[.int .i64 5,.bool b,.int .i64 n,.string t,.slice la l.length lc,.slice oa 0 oc]] w fun e w'=>e=.returned (.string ⟨(91::(Dk l true++ [93])).toArray⟩)/\Below w.heap.size w w':=by
 have hln:=D3 l;have H0:Hid ((⟨#[91]⟩:ByteArray).data.toList=91::Dk (l.take 0) true):=by show _=_;simp[Dk]
 have HI:=Lib.hid IH;have HM:=Lib.hid (Lj hm);have Hi:=Lib.hid (fun x hx=>Te hi (x:=x) hx);clear IH hm hi;go_enter Tryz.func30,Tryz.ntmps30;go_wp2_with (fail);have hb1:Below w.heap.size w (w.alloc (.cells #[.int .i64 5,.bool b,.int .i64 n,.string t,.slice la l.length lc,.slice oa 0 oc] 39)):=(Below.refl _ _).alloc (Nat.le_refl _) _;have hbx1:(w.alloc (.cells #[.int .i64 5,.bool b,.int .i64 n,.string t,.slice la l.length lc,.slice oa 0 oc] 39)).heap[w.heap.size]? =some (.cells #[.int .i64 5,.bool b,.int .i64 n,.string t,.slice la l.length lc,.slice oa 0 oc] 39 (0,0)):=heap_alloc_new _ _;obtain⟨HB1,HX1⟩:=hid2 hb1 hbx1;clear hb1 hbx1;go_loopw [5,6] (fun o i wr=> ∃(T:ByteArray) (k:Nat),o=.string T/\i=.int .i64 k/\k<=l.length/\Hid (T.data.toList=91::Dk (l.take k) true)/\Hid (Below w.heap.size w wr)/\Hid (wr.heap[w.heap.size]? =some (.cells #[.int .i64 5,.bool b,.int .i64 n,.string t,.slice la l.length lc,.slice oa 0 oc] 39 (0,0)))) (fun _ i _=>l.length - (intOf i).toNat)
 case atStart=>exact⟨_,0,rfl,rfl,Nat.zero_le _,H0,HB1,HX1⟩
 case round=>
  obtain⟨T,k,rfl,rfl,hk,hT,hbw,hbx⟩:=hrel;clear H0 HB1 HX1;have hTs:T.size<=700000001:=by
   have h1:=congrArg List.length hT.out;have h2:=M5 l k true;have h3:=Rc T;simp only[List.length_cons]at h1;omega
  have b4:wr.cell? ⟨w.heap.size,4,none⟩=some (.slice la l.length lc):=by rw[Lib.cell_of_heap hbx.out];rfl
  have hz:w.heap.size<wr.heap.size:=(Array.getElem?_eq_some_iff.1 hbx.out).1;by_cases hlt:k<l.length
  . obtain⟨g,off,rfl,hg,hL⟩: ∃g off,la=some ⟨g,off,none⟩/\g<w.heap.size/\Az w w.heap.size l g off:=by
     rcases hl with rfl|h
     . simp at hlt
     . exact h
    obtain⟨x,hx⟩: ∃v,l[k]? =some v:=⟨_,List.getElem?_eq_getElem hlt⟩;have hmem:x ∈ l:=List.mem_of_getElem? hx;have hmx:=HM.out x hmem;have hix:=Hi.out x hmem;have hbv:=Eg hmem;have htk:l.take (k+1)=l.take k++ [x]:=by rw[List.take_add_one,hx];rfl
    have hsn:=O5 x (l.take k) true;rw[<-htk]at hsn;have hXl:(Bk x).length<=700000000:=by
     have h1:=congrArg List.length hsn;have h2:=M5 l (k+1) true;simp only[List.length_append]at h1;omega
    have IHx:=HI.out x hmem;obtain⟨X,hX⟩: ∃X:ByteArray,(⟨(Bk x).toArray⟩:ByteArray)=X:=⟨_,rfl⟩;have hXs:X.size<=700000000:=by rw[<-hX,No];exact hXl
    have hXd:X.data.toList=Bk x:=by rw[<-hX]
    obtain⟨k',b',n',t',l',o'⟩:=x;obtain⟨la',lc',oa',oc',hvs,c0,c1,c2,c3,c4,c5⟩:=(hL.below hg hbw.out).six hx;have CT:=IHx _ wr d (Ac.more (by omega) _ _ hvs) (by omega) hmx hix;rw[hX]at CT;have hTd:Hid (T.data.toList++((if true&&(l.take k).isEmpty then []else [44])++X.data.toList)=91::Dk (l.take (k+1)) true):=by
     show _=_;rw[hsn,hT.out,hXd];rfl
    have hCT:=Lib.hid CT;clear CT hX hXd hXl hsn htk hmx hix hbv hmem hx hL hg IHx hvs;have hne:k≠0->(l.take k).isEmpty=false:=by
     intro h;rw[List.isEmpty_eq_false_iff];intro e;have:=congrArg List.length e;rw[List.length_take,List.length_nil]at this;omega
    by_cases hk0:k=0
    . subst hk0;simp only[Nat.zero_mul,Nat.add_zero]at c0 c1 c2 c3 c4 c5;have hTd':Hid ((T++X).data.toList=91::Dk (l.take (0+1)) true):=by
       have:=hTd.out;show _=_;rw[Ey,<-this];simp
      clear hTd hT hne;go_wp2_with (fail);(with_reducible refine hCT.out.mono ?_);rintro e w4 ⟨rfl,hb4⟩;have hbw4:=Lib.hid (hbw.out.trans (hb4.mono (by omega)));have hbx4:=Lib.hid ((hb4.block _ hz).trans hbx.out);clear hb4 hbw hbx;go_wp2;go_roundw
      case rel=>exact⟨_,0+1,rfl,by go_num,by omega,hTd',hbw4,hbx4⟩
      case measure=>simp only[intOf];omega
    . have hTd':Hid ((T++⟨#[44]⟩++X).data.toList=91::Dk (l.take (k+1)) true):=by
       have:=hTd.out;show _=_;rw[Ey,Ey,<-this,hne hk0];simp
      clear hTd hT hne;have hkp:0<k:=by omega
      go_wp2_with (fail);(with_reducible refine hCT.out.mono ?_);rintro e w4 ⟨rfl,hb4⟩;have hbw4:=Lib.hid (hbw.out.trans (hb4.mono (by omega)));have hbx4:=Lib.hid ((hb4.block _ hz).trans hbx.out);clear hb4 hbw hbx;go_wp2;go_roundw
      case rel=>exact⟨_,k+1,rfl,by go_num,by omega,hTd',hbw4,hbx4⟩
      case measure=>simp only[intOf];omega
  . obtain rfl:k=l.length:=by omega
    have hT':=hT.out;rw[List.take_length]at hT';have hE:(⟨(91::(Dk l true++ [93])).toArray⟩:ByteArray)=T++⟨#[93]⟩:=Z1 (by rw[Ey,hT'];simp);have HE:=Lib.hid hE;clear hE hT hT' hl;go_wp2;go_ret;exact⟨by rw[HE.out];rfl,hbw.out⟩
set_option maxRecDepth 100000 in
theorem Ahw (b:Bool) (n:Int) (t:ByteArray) (l:List (ByteArray×Val)) (IH: ∀m ∈ l,Ack m.2) (la oa:Option Addr) (oc lc:Nat) (w:World) (d:Int) (hl:l= []\/ ∃g off,oa=some ⟨g,off,none⟩/\g<w.heap.size/\Au w w.heap.size l g off)
 (hb:Al l<=100000000) (last:Option ByteArray) (hm:Df l last d=0) (hi:Jj l) (hlen:(Dn l true).length<=700000000):
 Calls Tryz.prog 30 #[.agg #[.int .i64 6,.bool b,.int .i64 n,.string t,.slice la 0 lc,.slice oa l.length oc]] w fun e w'=>e=.returned (.string ⟨(123::(Dn l true++ [125])).toArray⟩)/\Below w.heap.size w w':=by
 have hln:=Cg l;have H0:Hid ((⟨#[123]⟩:ByteArray).data.toList=123::Dn (l.take 0) true):=by show _=_;simp[Dn]
 have HI:=Lib.hid IH;have HM:=Lib.hid (P4 hm);have Hi:=Lib.hid (fun x hx=>Yh hi (x:=x) hx);clear IH hm hi;go_enter Tryz.func30,Tryz.ntmps30;go_wp2_with (fail);have hb1:Below w.heap.size w (w.alloc (.cells #[.int .i64 6,.bool b,.int .i64 n,.string t,.slice la 0 lc,.slice oa l.length oc] 39)):=(Below.refl _ _).alloc (Nat.le_refl _) _;have hbx1:(w.alloc (.cells #[.int .i64 6,.bool b,.int .i64 n,.string t,.slice la 0 lc,.slice oa l.length oc] 39)).heap[w.heap.size]? =some (.cells #[.int .i64 6,.bool b,.int .i64 n,.string t,.slice la 0 lc,.slice oa l.length oc] 39 (0,0)):=heap_alloc_new _ _;obtain⟨HB1,HX1⟩:=hid2 hb1 hbx1;clear hb1 hbx1;go_loopw [7,8] (fun o i wr=> ∃(T:ByteArray) (k:Nat),o=.string T/\i=.int .i64 k/\k<=l.length/\Hid (T.data.toList=123::Dn (l.take k) true)/\Hid (Below w.heap.size w wr)/\Hid (wr.heap[w.heap.size]? =some (.cells #[.int .i64 6,.bool b,.int .i64 n,.string t,.slice la 0 lc,.slice oa l.length oc] 39 (0,0)))) (fun _ i _=>l.length - (intOf i).toNat)
 case atStart=>exact⟨_,0,rfl,rfl,Nat.zero_le _,H0,HB1,HX1⟩
 case round=>
  obtain⟨T,k,rfl,rfl,hk,hT,hbw,hbx⟩:=hrel;clear H0 HB1 HX1;have hTs:T.size<=700000001:=by
   have h1:=congrArg List.length hT.out;have h2:=M6 l k true;have h3:=Rc T;simp only[List.length_cons]at h1;omega
  have b4:wr.cell? ⟨w.heap.size,5,none⟩=some (.slice oa l.length oc):=by rw[Lib.cell_of_heap hbx.out];rfl
  have hz:w.heap.size<wr.heap.size:=(Array.getElem?_eq_some_iff.1 hbx.out).1;by_cases hlt:k<l.length
  . obtain⟨g,off,rfl,hg,hL⟩: ∃g off,oa=some ⟨g,off,none⟩/\g<w.heap.size/\Au w w.heap.size l g off:=by
     rcases hl with rfl|h
     . simp at hlt
     . exact h
    obtain⟨⟨key,x⟩,hx⟩: ∃v,l[k]? =some v:=⟨_,List.getElem?_eq_getElem hlt⟩;have hmem:(key,x) ∈ l:=List.mem_of_getElem? hx;obtain⟨hkv,hmx⟩:=HM.out _ hmem;have hix:=Hi.out _ hmem;have hbv:=C9 hmem;simp only at hkv hmx hix hbv;have htk:l.take (k+1)=l.take k++ [(key,x)]:=by rw[List.take_add_one,hx];rfl
    have hsn:=O6 (key,x) (l.take k) true;rw[<-htk]at hsn;simp only[Ab2]at hsn;have hXl:(Bk x).length<=700000000/\(D2 key).length<=700000000:=by
     have h1:=congrArg List.length hsn;have h2:=M6 l (k+1) true;simp only[List.length_append,List.length_cons]at h1;omega
    have IHx:=HI.out _ hmem;obtain⟨X,hX⟩: ∃X:ByteArray,(⟨(Bk x).toArray⟩:ByteArray)=X:=⟨_,rfl⟩;have hXs:X.size<=700000000:=by rw[<-hX,No];exact hXl.1
    have hXd:X.data.toList=Bk x:=by rw[<-hX]
    obtain⟨Q,hQ⟩: ∃Q:ByteArray,(⟨(D2 key).toArray⟩:ByteArray)=Q:=⟨_,rfl⟩;have hQs:Q.size<=700000000:=by rw[<-hQ,No];exact hXl.2
    have hQd:Q.data.toList=D2 key:=by rw[<-hQ]
    have c0:=((hL.below hg hbw.out).at_ hx).1;simp only at c0;have CQ:=Pc key wr (by omega) hkv;rw[hQ]at CQ;have hTd:Hid (T.data.toList++((if true&&(l.take k).isEmpty then []else [44])++(Q.data.toList++(58::X.data.toList)))=123::Dn (l.take (k+1)) true):=by
     show _=_;rw[hsn,hT.out,hXd,hQd];rfl
    have hCT:Hid (∀w',Below w.heap.size w w'-> ∀(k':Int) (b':Bool) (n':Int) (t':ByteArray) (l':List Val) (o':List (ByteArray×Val)) (la' oa':Option Addr) (lc' oc':Nat),x=.mk k' b' n' t' l' o'->Ac w' w.heap.size x (Eo k' b' n' t' la' l'.length lc' oa' o'.length oc')->
     Calls Tryz.prog 30 #[.agg #[.int .i64 k',.bool b',.int .i64 n',.string t',.slice la' l'.length lc',.slice oa' o'.length oc']] w' fun e w''=>e=.returned (.string X)/\Below w'.heap.size w' w''):=by
     intro w' hw' k' b' n' t' l' o' la' oa' lc' oc' _ hvs;have:=IHx _ w' d (Ac.more hw'.size _ _ hvs) (show x.bulk<=100000000 from by omega) hmx hix;rw[hX]at this;exact this
    have hCQ:=Lib.hid CQ;have HL:Hid (∀w',Below w.heap.size w w'->Au w' w.heap.size l g off):=fun w' h=>hL.below hg h;have HXx:=Lib.hid hx;clear CQ hX hXd hQ hQd hXl hsn htk hmx hix hbv hmem hx hL hg IHx hkv;have hne:k≠0->(l.take k).isEmpty=false:=by
     intro h;rw[List.isEmpty_eq_false_iff];intro e;have:=congrArg List.length e;rw[List.length_take,List.length_nil]at this;omega
    obtain⟨k',b',n',t',l',o'⟩:=x;by_cases hk0:k=0
    . subst hk0;simp only[Nat.zero_mul,Nat.add_zero]at c0;have hTd':Hid ((T++Q++⟨#[58]⟩++X).data.toList=123::Dn (l.take (0+1)) true):=by
       have:=hTd.out;show _=_;rw[Ey,Ey,Ey,<-this];simp
      clear hTd hT hne;go_wp2_with (fail);(with_reducible refine hCQ.out.mono ?_);rintro e w4 ⟨rfl,hb4⟩;have hbw4:=Lib.hid (hbw.out.trans (hb4.mono (by omega)));have hbx4:=Lib.hid ((hb4.block _ hz).trans hbx.out);have hz4:w.heap.size<w4.heap.size:=(Array.getElem?_eq_some_iff.1 hbx4.out).1;have b4':w4.cell? ⟨w.heap.size,5,none⟩=some (.slice (some ⟨g,off,none⟩) l.length oc):=by rw[Lib.cell_of_heap hbx4.out];rfl
      obtain⟨la',lc',oa',oc',hvs,_,e1,e2,e3,e4,e5,e6⟩:=(HL.out _ hbw4.out).seven HXx.out;simp only[Nat.zero_mul,Nat.add_zero]at e1 e2 e3 e4 e5 e6;have hCT4:=Lib.hid (hCT.out _ hbw4.out _ _ _ _ _ _ la' oa' lc' oc' rfl hvs);clear hb4 hbw hbx b4 c0 hvs hCT HL HXx hCQ;go_wp2_with (fail);(with_reducible refine hCT4.out.mono ?_);rintro e w5 ⟨rfl,hb5⟩;have hbw5:=Lib.hid (hbw4.out.trans (hb5.mono (by omega)));have hbx5:=Lib.hid ((hb5.block _ hz4).trans hbx4.out);clear hb5 hbw4 hbx4 hCT4;go_wp2;go_roundw
      case rel=>exact⟨_,0+1,rfl,by go_num,by omega,hTd',hbw5,hbx5⟩
      case measure=>simp only[intOf];omega
    . have hTd':Hid ((T++⟨#[44]⟩++Q++⟨#[58]⟩++X).data.toList=123::Dn (l.take (k+1)) true):=by
       have:=hTd.out;show _=_;rw[Ey,Ey,Ey,Ey,<-this,hne hk0];simp
      clear hTd hT hne;have hkp:0<k:=by omega
      go_wp2_with (fail);(with_reducible refine hCQ.out.mono ?_);rintro e w4 ⟨rfl,hb4⟩;have hbw4:=Lib.hid (hbw.out.trans (hb4.mono (by omega)));have hbx4:=Lib.hid ((hb4.block _ hz).trans hbx.out);have hz4:w.heap.size<w4.heap.size:=(Array.getElem?_eq_some_iff.1 hbx4.out).1;have b4':w4.cell? ⟨w.heap.size,5,none⟩=some (.slice (some ⟨g,off,none⟩) l.length oc):=by rw[Lib.cell_of_heap hbx4.out];rfl
      obtain⟨la',lc',oa',oc',hvs,_,e1,e2,e3,e4,e5,e6⟩:=(HL.out _ hbw4.out).seven HXx.out;have hCT4:=Lib.hid (hCT.out _ hbw4.out _ _ _ _ _ _ la' oa' lc' oc' rfl hvs);clear hb4 hbw hbx b4 c0 hvs hCT HL HXx hCQ;go_wp2_with (fail);(with_reducible refine hCT4.out.mono ?_);rintro e w5 ⟨rfl,hb5⟩;have hbw5:=Lib.hid (hbw4.out.trans (hb5.mono (by omega)));have hbx5:=Lib.hid ((hb5.block _ hz4).trans hbx4.out);clear hb5 hbw4 hbx4 hCT4;go_wp2;go_roundw
      case rel=>exact⟨_,k+1,rfl,by go_num,by omega,hTd',hbw5,hbx5⟩
      case measure=>simp only[intOf];omega
  . obtain rfl:k=l.length:=by omega
    have hT':=hT.out;rw[List.take_length]at hT';have hE:(⟨(123::(Dn l true++ [125])).toArray⟩:ByteArray)=T++⟨#[125]⟩:=Z1 (by rw[Ey,hT'];simp);have HE:=Lib.hid hE;clear hE hT hT' hl;go_wp2;go_ret;exact⟨by rw[HE.out];rfl,hbw.out⟩
set_option maxRecDepth 100000 in
theorem Abs (k:Int) (b:Bool) (n:Int) (t:ByteArray) (l:List Val) (o:List (ByteArray×Val)) (la oa:Option Addr) (oc lc:Nat) (w:World) (h5:k≠5) (h6:k≠6) (hk:k=1\/k=2\/k=3\/k=4) (hs:t.size<=1000000000) (hv:A8 t=true)
 (h1: -9223372036854775808<=n) (h2:n<=9223372036854775807):
 Calls Tryz.prog 30 #[.agg #[.int .i64 k,.bool b,.int .i64 n,.string t,.slice la l.length lc,.slice oa o.length oc]] w fun e w'=>e=.returned (.string ⟨(Bk (.mk k b n t l o)).toArray⟩)/\Below w.heap.size w w':=by
 simp only[Bk];rcases hk with rfl|rfl|rfl|rfl
 . rw[if_neg (by decide),if_neg (by decide),if_neg (by decide),if_neg (by decide),if_neg (by decide)];go_enter Tryz.func30,Tryz.ntmps30;go_wp2;go_ret;exact⟨rfl,(Below.refl _ _).alloc (Nat.le_refl _) _⟩
 . rw[if_pos rfl]
   cases b
   . go_enter Tryz.func30,Tryz.ntmps30;go_wp2;go_ret;exact⟨rfl,(Below.refl _ _).alloc (Nat.le_refl _) _⟩
   . go_enter Tryz.func30,Tryz.ntmps30;go_wp2;go_ret;exact⟨rfl,(Below.refl _ _).alloc (Nat.le_refl _) _⟩
 . rw[if_neg (by decide),if_pos rfl];have cD:=fun w=>Lib.hid (X4 n h1 h2 w);have HD:=Lib.hid cD;clear cD;go_enter Tryz.func30,Tryz.ntmps30;go_wp2_with (fail);(with_reducible refine(HD.out _).out.mono ?_);rintro e w' ⟨rfl,rfl⟩;go_wp2;go_ret;exact⟨rfl,(Below.refl _ _).alloc (Nat.le_refl _) _⟩
 . rw[if_neg (by decide),if_neg (by decide),if_pos rfl];have cD:=fun w=>Lib.hid (Pc t w hs hv);have HD:=Lib.hid cD;clear cD;go_enter Tryz.func30,Tryz.ntmps30;go_wp2_with (fail);(with_reducible refine(HD.out _).out.mono ?_);rintro e w' ⟨rfl,hb⟩;go_wp2;go_ret;exact⟨rfl,((Below.refl _ _).alloc (Nat.le_refl _) _).trans (hb.mono (by simp))⟩
theorem Sg: ∀v,Ack v:=by
 refine Val.ind ?_;intro k b n t l o IHl IHo cs w d hV hb hm hi;have hok:=Yq _ d hm hi;have hlen:=J5 _ hok;obtain⟨hodd,_,hvt,hmL,hmO⟩:=Ck hm;simp only[Ac]at hV;obtain⟨la,lc,oa,oc,rfl,hla,hoa⟩:=hV;simp only[Ga]at hi;simp only[Val.bulk]at hb hlen;by_cases h5:k=5
 . subst h5;have ho:o= []:=by
    have:o.length=0:=by
     unfold Et at hodd;simp at hodd;simp[hodd]
    exact List.length_eq_zero_iff.1 this
   subst ho;have ht:Bk (.mk 5 b n t l [])=91::(Dk l true++ [93]):=by simp[Bk]
   rw[ht]at hlen ⊢;simp only[List.length_cons,List.length_append,List.length_nil]at hlen;exact Aen b n t l IHl la oa oc lc w (d+1) hla (by omega) hmL hi.2.1 (by omega)
 by_cases h6:k=6
 . subst h6;have hl:l= []:=by
    have:l.length=0:=by
     unfold Et at hodd;simp at hodd;simp[hodd]
    exact List.length_eq_zero_iff.1 this
   subst hl;have ht:Bk (.mk 6 b n t [] o)=123::(Dn o true++ [125]):=by simp[Bk]
   rw[ht]at hlen ⊢;simp only[List.length_cons,List.length_append,List.length_nil]at hlen;exact Ahw b n t o IHo la oa oc lc w (d+1) hoa (by omega) none hmO hi.2.2 (by omega)
 have hk:k=1\/k=2\/k=3\/k=4:=by
  unfold Et at hodd;by_cases a1:k=1
  . exact .inl a1
  by_cases a2:k=2
  . exact .inr (.inl a2)
  by_cases a3:k=3
  . exact .inr (.inr (.inl a3))
  by_cases a4:k=4
  . exact .inr (.inr (.inr a4))
  simp[a1,a2,a3,a4,h5,h6]at hodd
 exact Abs k b n t l o la oa oc lc w h5 h6 hk (by omega) hvt hi.1.1 hi.1.2
def Lq (w:World) (g:Nat) (v:Val) (c:List Value) (w':World):Prop:=
 Below w.heap.size w w'/\w'.heap[g]? =some (.cells c.toArray 39 (0,0))/\Cf w'/\Ac w' w'.heap.size v c
theorem Lq.step {w w' w'':World} {g:Nat} {v:Val} {c:List Value} (h:Lq w g v c w') (hb:Below w'.heap.size w' w''):Lq w g v c w'':=by
 obtain⟨h1,h2,h3,h4⟩:=h;exact⟨h1.trans (hb.mono h1.size),(hb.block _ (Array.getElem?_eq_some_iff.1 h2).1).trans h2,h3.below hb,Ac.more hb.size _ _ (h4.below hb)⟩
theorem Lq.start {w:World} {v:Val} {c:List Value} (hT:Cf w) (hV:Ac w w.heap.size v c):Lq w w.heap.size v c (w.alloc (.cells c.toArray 39)):=by
 have hb:Below w.heap.size w (w.alloc (.cells c.toArray 39)):=(Below.refl _ _).alloc (Nat.le_refl _) _;exact⟨hb,heap_alloc_new _ _,hT.below hb,Ac.more hb.size _ _ (hV.below hb)⟩
theorem Lq.cells {w w':World} {g:Nat} {v:Val} {k:Int} {b:Bool} {n:Int} {t:ByteArray} {x y:Value} (h:Lq w g v [.int .i64 k,.bool b,.int .i64 n,.string t,x,y] w'):
 w'.cell? ⟨g,0,none⟩=some (.int .i64 k)/\w'.cell? ⟨g,1,none⟩=some (.bool b)/\w'.cell? ⟨g,2,none⟩=some (.int .i64 n)/\w'.cell? ⟨g,3,none⟩=some (.string t)/\w'.cell? ⟨g,4,none⟩=some x/\w'.cell? ⟨g,5,none⟩=some y:=
 V8 h.2.1
theorem Lq.tabs {w w':World} {g:Nat} {v:Val} {c:List Value} (h:Lq w g v c w'):Cf w':=h.2.2.1
theorem Lq.below {w w':World} {g:Nat} {v:Val} {c:List Value} (h:Lq w g v c w'):Below w.heap.size w w':=h.1
def Ia (v:Val):Int:=if Ay v 1=0 then(if 16<El v then 5 else if 1024<(Bk v).length then 6 else 0)else Ay v 1
set_option maxRecDepth 100000 in
theorem Aci (v:Val) (cs:List Value) (w:World) (hT:Cf w) (hV:Ac w w.heap.size v cs) (hb:v.bulk<=100000000) (hi:Ga v):
 Calls Tryz.prog 96 #[.agg cs.toArray] w fun e w'=>e=.returned (.int .i64 (Ia v))/\Below w.heap.size w w':=by
 have hV':=hV;obtain⟨k,b,n,t,l,o⟩:=v;simp only[Ac]at hV';obtain⟨la,lc,oa,oc,rfl,_,_⟩:=hV';have H1:=Lib.hid (Lq.start hT hV);obtain⟨v,hv⟩: ∃v,Val.mk k b n t l o=v:=⟨_,rfl⟩;rw[hv]at hi hb H1 ⊢;have CM:=fun w' (h:Lq w w.heap.size v (Eo k b n t la l.length lc oa o.length oc) w')=>Qm v _ w' h.tabs h.2.2.2 (by omega);unfold Ia;by_cases hm:Ay v 1=0
 . have hok:=Yq v 1 hm hi;have CB:=fun w' (h:Lq w w.heap.size v (Eo k b n t la l.length lc oa o.length oc) w')=>Z0 v _ w' h.tabs h.2.2.2 (by omega) hok;have CD:=fun w' (h:Lq w w.heap.size v (Eo k b n t la l.length lc oa o.length oc) w')=>Ac7 v _ w' h.2.2.2 (by omega);rw[if_pos hm];rw[hm]at CM;generalize (Bk v).length=L at CB ⊢;generalize El v=D at CD ⊢;obtain⟨HB,HD,HM⟩:=hid3 CB CD CM;clear CB CM CD hm hi hb hT hV hv hok;by_cases hd:16<D
   . rw[if_pos hd];go_enter Tryz.func96,Tryz.ntmps96;go_wp2_with (fail);(with_reducible refine(HM.out _ H1.out).mono ?_);rintro e w2 ⟨rfl,hb2⟩;have H2:=Lib.hid (H1.out.step hb2);obtain⟨d0,d1,d2,d3,d4,d5⟩:=H2.out.cells;clear hb2 H1;go_wp2_with (fail);(with_reducible refine(HD.out _ H2.out).mono ?_);rintro e w3 ⟨rfl,hb3⟩;have H3:=Lib.hid (H2.out.step hb3);clear d0 d1 d2 d3 d4 d5 hb3 H2;go_wp2;go_ret;exact⟨rfl,H3.out.below⟩
   . rw[if_neg hd];by_cases hl:1024<L
     all_goals
      (first|rw[if_pos hl]|rw[if_neg hl])
      go_enter Tryz.func96,Tryz.ntmps96;go_wp2_with (fail);(with_reducible refine(HM.out _ H1.out).mono ?_);rintro e w2 ⟨rfl,hb2⟩;have H2:=Lib.hid (H1.out.step hb2);obtain⟨d0,d1,d2,d3,d4,d5⟩:=H2.out.cells;clear hb2 H1;go_wp2_with (fail);(with_reducible refine(HD.out _ H2.out).mono ?_);rintro e w3 ⟨rfl,hb3⟩;have H3:=Lib.hid (H2.out.step hb3);clear d0 d1 d2 d3 d4 d5 hb3 H2;obtain⟨d0,d1,d2,d3,d4,d5⟩:=H3.out.cells;go_wp2_with (fail);(with_reducible refine(HB.out _ H3.out).mono ?_);rintro e w4 ⟨rfl,hb4⟩;have H4:=Lib.hid (H3.out.step hb4);clear d0 d1 d2 d3 d4 d5 hb4 H3;go_wp2;go_ret;exact⟨rfl,H4.out.below⟩
 . rw[if_neg hm];have hmb:(Ay v 1==0)=false:=by simpa using hm
   have hmn:(Ay v 1 != 0)=true:=by simpa using hm
   generalize Ay v 1=m at*
   have HM:=Lib.hid CM;clear CM hm hi hb hT hV hv;go_enter Tryz.func96,Tryz.ntmps96;go_wp2_with (fail);(with_reducible refine(HM.out _ H1.out).mono ?_);rintro e w2 ⟨rfl,hb2⟩;have H2:=Lib.hid (H1.out.step hb2);clear hb2 H1;go_wp2;go_ret;exact⟨rfl,H2.out.below⟩
set_option maxRecDepth 100000 in
theorem Zp (v:Val) (cs:List Value) (w:World) (hT:Cf w) (hV:Ac w w.heap.size v cs) (hb:v.bulk<=100000000) (hi:Ga v):
 Calls Tryz.prog 67 #[.agg cs.toArray] w fun e w'=>e=.returned (.int .i64 (Ia v))/\Below w.heap.size w w':=by
 have hV':=hV;obtain⟨k,b,n,t,l,o⟩:=v;simp only[Ac]at hV';obtain⟨la,lc,oa,oc,rfl,_,_⟩:=hV';have H1:=Lib.hid (Lq.start hT hV);obtain⟨v,hv⟩: ∃v,Val.mk k b n t l o=v:=⟨_,rfl⟩;rw[hv]at hi hb H1 ⊢;have CM:=fun w' (h:Lq w w.heap.size v (Eo k b n t la l.length lc oa o.length oc) w')=>Tl v _ w' h.2.2.2 (by omega);unfold Ia;by_cases hm:Ay v 1=0
 . have CB:=fun w' (h:Lq w w.heap.size v (Eo k b n t la l.length lc oa o.length oc) w')=>Sg v _ w' 1 h.2.2.2 (by omega) hm hi;have CD:=fun w' (h:Lq w w.heap.size v (Eo k b n t la l.length lc oa o.length oc) w')=>Abe v _ w' h.2.2.2 (by omega);obtain⟨S,hS⟩: ∃S:ByteArray,(⟨(Bk v).toArray⟩:ByteArray)=S:=⟨_,rfl⟩;have hL:(Bk v).length=S.size:=by rw[<-hS,No]
   rw[if_pos hm,hL];rw[hm]at CM;rw[hS]at CB;generalize El v=D at CD ⊢;obtain⟨HB,HD,HM⟩:=hid3 CB CD CM;clear CB CM CD hm hi hb hT hV hv hS hL;by_cases hd:16<D
   . rw[if_pos hd];go_enter Tryz.func67,Tryz.ntmps67;go_wp2_with (fail);(with_reducible refine(HM.out _ H1.out).mono ?_);rintro e w2 ⟨rfl,hb2⟩;have H2:=Lib.hid (H1.out.step hb2);obtain⟨d0,d1,d2,d3,d4,d5⟩:=H2.out.cells;clear hb2 H1;go_wp2_with (fail);(with_reducible refine(HD.out _ H2.out).mono ?_);rintro e w3 ⟨rfl,hb3⟩;have H3:=Lib.hid (H2.out.step hb3);clear d0 d1 d2 d3 d4 d5 hb3 H2;go_wp2;go_ret;exact⟨rfl,H3.out.below⟩
   . rw[if_neg hd];by_cases hl:1024<S.size
     all_goals
      (first|rw[if_pos hl]|rw[if_neg hl])
      go_enter Tryz.func67,Tryz.ntmps67;go_wp2_with (fail);(with_reducible refine(HM.out _ H1.out).mono ?_);rintro e w2 ⟨rfl,hb2⟩;have H2:=Lib.hid (H1.out.step hb2);obtain⟨d0,d1,d2,d3,d4,d5⟩:=H2.out.cells;clear hb2 H1;go_wp2_with (fail);(with_reducible refine(HD.out _ H2.out).mono ?_);rintro e w3 ⟨rfl,hb3⟩;have H3:=Lib.hid (H2.out.step hb3);clear d0 d1 d2 d3 d4 d5 hb3 H2;obtain⟨d0,d1,d2,d3,d4,d5⟩:=H3.out.cells;go_wp2_with (fail);(with_reducible refine(HB.out _ H3.out).mono ?_);rintro e w4 ⟨rfl,hb4⟩;have H4:=Lib.hid (H3.out.step hb4);clear d0 d1 d2 d3 d4 d5 hb4 H3;go_wp2;go_ret;exact⟨rfl,H4.out.below⟩
 . rw[if_neg hm];have hmb:(Ay v 1==0)=false:=by simpa using hm
   have hmn:(Ay v 1 != 0)=true:=by simpa using hm
   generalize Ay v 1=m at*
   have HM:=Lib.hid CM;clear CM hm hi hb hT hV hv;go_enter Tryz.func67,Tryz.ntmps67;go_wp2_with (fail);(with_reducible refine(HM.out _ H1.out).mono ?_);rintro e w2 ⟨rfl,hb2⟩;have H2:=Lib.hid (H1.out.step hb2);clear hb2 H1;go_wp2;go_ret;exact⟨rfl,H2.out.below⟩
def Jk (k:Int) (b:Bool) (n:Int) (t:ByteArray) (ln on:Nat):Bool:=decide (k=0)&& !b&&decide (n=0)&&t.toList.isEmpty&&decide (ln=0)&&decide (on=0)
structure POp where
 k:Int
 key:ByteArray
 v:Val
def dQ (p:POp):D:=.agg [.leaf (.int .i64 p.k),.leaf (.string p.key),dV p.v]
theorem Tt (p:POp):(dQ p).cells=8:=by simp only[dQ,D.cells,K0,Eh]
def Je (l:List POp):List D:=l.map dQ
theorem Age (l:List POp): ∀d ∈ Je l,d.cells=8:=by
 intro d hd;obtain⟨v,_,rfl⟩:=List.mem_map.1 hd;exact Tt v
theorem Kq (l:List POp):(Je l).length=l.length:=List.length_map ..
def D5:List POp->Nat
 | []=>0
 |p::r=>2+p.key.size+p.v.bulk+D5 r
theorem Lc {l:List POp} {p:POp} (h:p ∈ l):2+p.key.size+p.v.bulk<=D5 l:=by
 induction l with
 |nil=>cases h
 |cons x r ih=>
  simp only[D5];rcases List.mem_cons.1 h with rfl|h
  . omega
  . have:=ih h;omega
theorem Lb (l:List POp):8*l.length<=D5 l:=by
 induction l with
 |nil=>simp[D5]
 |cons x r ih=>simp only[D5,List.length_cons];have:=x.v.bulk_pos;omega
def inQ (l:List POp):Prop:= ∀p ∈ l,Ga p.v
def Qt (k:ByteArray):Bool:= !k.toList.isEmpty&&(decide (k.size<=64)&&A8 k)
def Px (k:ByteArray):Int:=if k.toList.isEmpty then 8 else if 64<k.size then 6 else if A8 k then 0 else 3
theorem Ni (k:ByteArray):Px k=0 ↔ Qt k=true:=by
 unfold Px Qt
 cases k.toList.isEmpty<;>by_cases h:64<k.size<;>cases A8 k<;>simp[h]<;>omega
def U2:Val->Bool
 | .mk k b n t l o=>Jk k b n t l.length o.length
def Ci (p:POp):Bool:=if p.k=1 then false else if p.k=2 then !U2 p.v else if p.k=3 then !p.key.toList.isEmpty|| !U2 p.v else true
def G4 (q p:POp):Bool:=decide (p.k≠3)&&(decide (q.k=3)||Op.bytesLess q.key.toList p.key.toList)
def Bm:Option POp->List POp->Int
 |_, []=>0
 |prev,p::r=>
  if Ci p||prev.any (fun q=> !G4 q p)then 2
  else if p.k=3 then Bm (some p) r
  else if Qt p.key=false then 8
  else if p.k=2 then Bm (some p) r
  else if Ia p.v=0 then Bm (some p) r else Ia p.v
theorem Rw: ∀{l:List Val},(∀v ∈ l,∀d d':Int,Ay v d'=0->d+El v<=65->Ay v d=0)-> ∀{d d':Int},Dq l d'=0->(l= []\/d+Ez l<=65)->Dq l d=0
 | [],_,_,_,_,_=>by simp[Dq]
 |v::r,ih,d,d',h,hd=>by
  have hd:=hd.resolve_left (by simp);simp only[Ez]at hd;simp only[Dq]at h ⊢;by_cases h0:Ay v d'=0
  . rw[if_pos h0]at h;rw[if_pos (ih v (by simp) d d' h0 (by omega))];exact Rw (fun x hx=>ih x (by simp[hx])) h (.inr (by omega))
  . rw[if_neg h0]at h;exact absurd h h0
theorem Rx: ∀{l:List (ByteArray×Val)},(∀m ∈ l,∀d d':Int,Ay m.2 d'=0->d+El m.2<=65->Ay m.2 d=0)-> ∀{last:Option ByteArray} {d d':Int},Df l last d'=0->(l= []\/d+I5 l<=65)->Df l last d=0
 | [],_,_,_,_,_,_=>by simp[Df]
 |(key,v)::r,ih,last,d,d',h,hd=>by
  have hd:=hd.resolve_left (by simp);simp only[I5,Aab]at hd;simp only[Df]at h ⊢;by_cases h0:Ot (key,v) last d'=0
  . rw[if_pos h0]at h;have h1:Ot (key,v) last d=0:=by
     simp only[Ot]at h0 ⊢;by_cases hv:A8 key=true
     . rw[if_pos hv]at h0 ⊢
       cases last with
       |none=>exact ih (key,v) (by simp) d d' h0 (by simp only;omega)
       |some q=>
        simp only at h0 ⊢;by_cases hl:U3 key q=true
        . rw[if_pos hl]at h0;cases h0
        . rw[if_neg hl]at h0 ⊢;exact ih (key,v) (by simp) d d' h0 (by simp only;omega)
     . rw[if_neg hv]at h0;cases h0
    rw[if_pos h1];exact Rx (fun x hx=>ih x (by simp[hx])) h (.inr (by omega))
  . rw[if_neg h0]at h;exact absurd h h0
theorem Aay: ∀(v:Val) (d d':Int),Ay v d'=0->d+El v<=65->Ay v d=0:=by
 refine Val.ind ?_;intro k b n t l o hl ho d d' h hd;obtain⟨h1,_,h3,h4,h5⟩:=Ck h;obtain⟨_,_,k5,k6⟩:=Qx h1;simp only[El]at hd;have hL:Dq l (d+1)=0:=by
  refine Rw hl h4 ?_;rcases k5 with e|e
  . rw[if_pos e]at hd;exact .inr (by omega)
  . exact .inl (List.length_eq_zero_iff.1 e)
 have hO:Df o none (d+1)=0:=by
  refine Rx ho h5 ?_;rcases k6 with e|e
  . rw[if_neg (by omega),if_pos e]at hd;exact .inr (by omega)
  . exact .inl (List.length_eq_zero_iff.1 e)
 have h64: ¬64<d:=by
  have:0<=(if k=5 then Ez l else if k=6 then I5 o else 0):=Nat.zero_le _;omega
 simp only[Ay];rw[if_neg (by rw[h1];simp),if_neg h64,if_pos h3,if_pos hL,hO]
abbrev K4:ByteArray:=⟨#[]⟩
abbrev A6:ByteArray:=⟨#[107,101,121]⟩
abbrev Cn:ByteArray:=⟨#[111,112]⟩
abbrev B5:ByteArray:=⟨#[118,97,108,117,101]⟩
abbrev Gt:ByteArray:=⟨#[112,117,116]⟩
abbrev H9:ByteArray:=⟨#[100,101,108]⟩
abbrev Dt:ByteArray:=⟨#[99,108,101,97,114]⟩
def tv (s:ByteArray):Val:=.mk 4 false 0 s [] []
def iv (n:Int):Val:=.mk 3 false n K4 [] []
def lv (l:List Val):Val:=.mk 5 false 0 K4 l []
def ov (o:List (ByteArray×Val)):Val:=.mk 6 false 0 K4 [] o
def L5 (p:POp):Val:=ov (if p.k=1 then [(A6,tv p.key),(Cn,tv Gt),(B5,p.v)]else if p.k=2 then [(A6,tv p.key),(Cn,tv H9)]else [(Cn,tv Dt)])
def Ib (l:List POp):Val:=lv (l.map L5)
theorem Ou:A8 K4=true:=by decide
theorem Anr (s:ByteArray):Et 4 false 0 s 0 0=false:=by simp[Et]
theorem Ano (n:Int):Et 3 false n K4 0 0=false:=by simp[Et,Lib.toList_data]
theorem Anp (n:Nat):Et 5 false 0 K4 n 0=false:=by simp[Et,Lib.toList_data]
theorem Anq (n:Nat):Et 6 false 0 K4 0 n=false:=by simp[Et,Lib.toList_data]
theorem Yl {k:Int} {b:Bool} {n:Int} {t:ByteArray} {l:List Val} {o:List (ByteArray×Val)} {d:Int} (h1:Et k b n t l.length o.length=false) (h2:d<=64) (h3:A8 t=true) (h4:Dq l (d+1)=0) (h5:Df o none (d+1)=0):Ay (.mk k b n t l o) d=0:=by
 simp only[Ay];rw[if_neg (by rw[h1];simp),if_neg (by omega),if_pos h3,if_pos h4];exact h5
theorem Ud {s:ByteArray} {d:Int} (h:A8 s=true) (hd:d<=64):Ay (tv s) d=0:=Yl (Anr s) hd h (by simp[Dq]) (by simp[Df])
theorem Qv {n d:Int} (hd:d<=64):Ay (iv n) d=0:=Yl (Ano n) hd Ou (by simp[Dq]) (by simp[Df])
theorem Ann {l:List Val} {d:Int} (hd:d<=64) (h:Dq l (d+1)=0):Ay (lv l) d=0:=Yl (Anp _) hd Ou h (by simp[Df])
theorem Adv {o:List (ByteArray×Val)} {d:Int} (hd:d<=64) (h:Df o none (d+1)=0):Ay (ov o) d=0:=Yl (Anq _) hd Ou (by simp[Dq]) h
theorem Dx {key:ByteArray} {v:Val} {r:List (ByteArray×Val)} {d:Int} (hk:A8 key=true) (hv:Ay v d=0) {last:Option ByteArray} (hl: ∀q,last=some q->U3 key q=false) (hr:Df r (some key) d=0):Df ((key,v)::r) last d=0:=by
 have h1:Ot (key,v) last d=0:=by
  simp only[Ot];rw[if_pos hk]
  cases last with
  |none=>exact hv
  |some q=>
   simp only;rw[if_neg (by rw[hl q rfl];simp)];exact hv
 simp only[Df];rw[if_pos h1];exact hr
def okQ (p:POp):Prop:=(p.k=1/\Qt p.key=true/\Ia p.v=0)\/(p.k=2/\Qt p.key=true)\/p.k=3
theorem Ka: ∀{l:List POp} {prev:Option POp},Bm prev l=0-> ∀p ∈ l,okQ p
 |p::r,prev,h,x,hx=>by
  simp only[Bm]at h;by_cases h1:(Ci p||prev.any fun q=> !G4 q p)=true
  . rw[if_pos h1]at h;cases h
  rw[if_neg h1]at h;by_cases h3:p.k=3
  . rw[if_pos h3]at h;rcases List.mem_cons.1 hx with rfl|hx
    . exact .inr (.inr h3)
    . exact Ka h x hx
  rw[if_neg h3]at h;by_cases hk:Qt p.key=false
  . rw[if_pos hk]at h;cases h
  rw[if_neg hk]at h;have hk':Qt p.key=true:=by simpa using hk
  by_cases h2:p.k=2
  . rw[if_pos h2]at h;rcases List.mem_cons.1 hx with rfl|hx
    . exact .inr (.inl ⟨h2,hk'⟩)
    . exact Ka h x hx
  rw[if_neg h2]at h;by_cases hf:Ia p.v=0
  . rw[if_pos hf]at h;rcases List.mem_cons.1 hx with rfl|hx
    . refine .inl ⟨?_,hk',hf⟩;have h1':Ci x=false:=by
       cases e:Ci x with
       |false=>rfl
       |true=>rw[e]at h1;simp at h1
      unfold Ci at h1';by_cases h11:x.k=1
      . exact h11
      . rw[if_neg h11,if_neg h2,if_neg h3]at h1';cases h1'
    . exact Ka h x hx
  . rw[if_neg hf]at h;exact absurd h hf
theorem Ua {k:ByteArray} (h:Qt k=true):A8 k=true:=by
 unfold Qt at h;simp only[Bool.and_eq_true]at h;exact h.2.2
theorem Adg {v:Val} (h:Ia v=0):Ay v 1=0/\El v<=16/\(Bk v).length<=1024:=by
 unfold Ia at h;by_cases h1:Ay v 1=0
 . rw[if_pos h1]at h;by_cases h2:16<El v
   . rw[if_pos h2]at h;cases h
   rw[if_neg h2]at h;by_cases h3:1024<(Bk v).length
   . rw[if_pos h3]at h;cases h
   exact⟨h1,by omega,by omega⟩
 . rw[if_neg h1]at h;exact absurd h h1
theorem Ajw {p:POp} {d:Int} (h:okQ p) (hd:d<=40):Ay (L5 p) d=0:=by
 have v1:A8 A6=true:=by decide
 have v2:A8 Cn=true:=by decide
 have v3:A8 B5=true:=by decide
 have w1:A8 Gt=true:=by decide
 have w2:A8 H9=true:=by decide
 have w3:A8 Dt=true:=by decide
 have l1:U3 Cn A6=false:=by decide+kernel
 have l2:U3 B5 Cn=false:=by decide+kernel
 unfold L5;refine Adv (by omega) ?_;rcases h with⟨h,hk,hf⟩|⟨h,hk⟩|h
 . rw[if_pos h];obtain⟨f1,f2,_⟩:=Adg hf;exact Dx v1 (Ud (Ua hk) (by omega)) (fun _ e=>by cases e) (Dx v2 (Ud w1 (by omega)) (fun q e=>by cases e;exact l1) (Dx v3 (Aay p.v _ 1 f1 (by omega)) (fun q e=>by cases e;exact l2) (by simp[Df])))
 . rw[if_neg (by omega),if_pos h];exact Dx v1 (Ud (Ua hk) (by omega)) (fun _ e=>by cases e) (Dx v2 (Ud w2 (by omega)) (fun q e=>by cases e;exact l1) (by simp[Df]))
 . rw[if_neg (by omega),if_neg (by omega)];exact Dx v2 (Ud w3 (by omega)) (fun _ e=>by cases e) (by simp[Df])
theorem Aju {l:List Val} {d:Int} (h: ∀v ∈ l,Ay v d=0):Dq l d=0:=by
 induction l with
 |nil=>simp[Dq]
 |cons v r ih=>
  simp only[Dq];rw[if_pos (h v (by simp))];exact ih fun x hx=>h x (by simp[hx])
theorem Aha {l:List POp} {d:Int} (h: ∀p ∈ l,okQ p) (hd:d<=39):Ay (Ib l) d=0:=by
 refine Ann (by omega) (Aju fun v hv=> ?_);obtain⟨p,hp,rfl⟩:=List.mem_map.1 hv;exact Ajw (h p hp) (by omega)
theorem Alq {p:POp} (h:Ga p.v):Ga (L5 p):=by
 unfold L5 ov;simp only[Ga];refine⟨by omega,by simp[Oq], ?_⟩;have ht: ∀s,Ga (tv s):=fun s=>by simp only[tv,Ga,Oq,Jj];exact⟨by omega,trivial,trivial⟩
 by_cases h1:p.k=1
 . rw[if_pos h1];exact⟨ht p.key,ht Gt,h,trivial⟩
 . rw[if_neg h1];by_cases h2:p.k=2
   . rw[if_pos h2];exact⟨ht p.key,ht H9,trivial⟩
   . rw[if_neg h2];exact⟨ht Dt,trivial⟩
theorem Ajl {l:List POp} (h:inQ l):Ga (Ib l):=by
 unfold Ib lv;simp only[Ga];refine⟨by omega, ?_,by simp[Jj]⟩
 induction l with
 |nil=>simp[Oq]
 |cons p r ih=>
  simp only[List.map_cons,Oq];exact⟨Alq (h p (by simp)),ih fun x hx=>h x (by simp[hx])⟩
theorem Af9 (p:POp):(L5 p).bulk<=60+p.key.size+p.v.bulk:=by
 have e1:(⟨#[]⟩:ByteArray).size=0:=rfl;have e2:A6.size=3:=rfl;have e3:Cn.size=2:=rfl;have e4:B5.size=5:=rfl;have e5:Gt.size=3:=rfl;have e6:H9.size=3:=rfl;have e7:Dt.size=5:=rfl;unfold L5 ov
 split
 . simp only[Val.bulk,Bc,Al,Ec,tv,e1,e2,e3,e4,e5];omega
 . split
   . simp only[Val.bulk,Bc,Al,Ec,tv,e1,e2,e3,e6];omega
   . simp only[Val.bulk,Bc,Al,Ec,tv,e1,e3,e7];omega
theorem Ac0 (l:List POp):(Ib l).bulk<=6+60*l.length+D5 l:=by
 have e1:(⟨#[]⟩:ByteArray).size=0:=rfl;have h:Bc (l.map L5)<=60*l.length+D5 l:=by
  induction l with
  |nil=>simp[Bc]
  |cons p r ih=>
   have:=Af9 p;simp only[List.map_cons,Bc,D5,List.length_cons];omega
 unfold Ib lv;simp only[Val.bulk,Al,e1];omega
theorem Aej (s:ByteArray) (w:World) (hs:s.size<=1000000000):Calls Tryz.prog 66 #[.string s] w fun e w'=>e=.returned (.int .i64 (Px s))/\w=w':=by
 obtain⟨B,hB⟩: ∃B,A8 s=B:=⟨_,rfl⟩;have hC:=fun W=>Cz hB W hs;have e0:s.toList.isEmpty=decide (s.size=0):=by
  rw[Lib.toList_data,Lib.size_eq];cases s.data.toList<;>simp
 have hE:Px s=if s.size=0 then 8 else if 64<s.size then 6 else if B then 0 else 3:=by
  unfold Px;rw[e0,hB];simp
 have HC:=Lib.hid hC;clear hC;clear hB e0;by_cases h0:s.size=0
 . rw[if_pos h0]at hE;have t0:((s.size:Int)==0)=true:=by rw[beq_iff_eq];omega
   have HE:=Lib.hid hE;clear hE;clear h0;go_enter Tryz.func66,Tryz.ntmps66;go_wp2;go_ret;exact⟨by rw[HE.out];rfl,rfl⟩
 rw[if_neg h0]at hE;have t0:((s.size:Int)==0)=false:=by rw[beq_eq_false_iff_ne];omega
 by_cases h1:64<s.size
 . rw[if_pos h1]at hE;have t1:(64:Int)<(s.size:Int):=by omega
   have HE:=Lib.hid hE;clear hE;clear h0 h1;go_enter Tryz.func66,Tryz.ntmps66;go_wp2;go_ret;exact⟨by rw[HE.out];rfl,rfl⟩
 rw[if_neg h1]at hE;have t1:(s.size:Int)<=64:=by omega
 have HE:=Lib.hid hE;clear hE;clear h0 h1
 cases B with
 |true=>
  go_enter Tryz.func66,Tryz.ntmps66;go_wp2_with (go_at_call 85;(with_reducible refine(HC.out _).mono ?_);rintro e w2 ⟨rfl,rfl⟩);go_ret;exact⟨by rw[HE.out];rfl,rfl⟩
 |false=>
  go_enter Tryz.func66,Tryz.ntmps66;go_wp2_with (go_at_call 85;(with_reducible refine(HC.out _).mono ?_);rintro e w2 ⟨rfl,rfl⟩);go_ret;exact⟨by rw[HE.out];rfl,rfl⟩
abbrev Af5:Val:=.mk 0 false 0 ⟨#[]⟩ [] []
theorem Aie (v:Val):U2 v=true ↔ v=Af5:=by
 obtain⟨k,b,n,t,l,o⟩:=v;simp only[U2,Jk,Bool.and_eq_true,decide_eq_true_eq,Bool.not_eq_true',List.length_eq_zero_iff,List.isEmpty_iff,Val.mk.injEq];constructor
 . rintro⟨⟨⟨⟨⟨rfl,rfl⟩,rfl⟩,ht⟩,rfl⟩,rfl⟩;refine⟨rfl,rfl,rfl, ?_,rfl,rfl⟩;rw[Lib.toList_data]at ht;exact ByteArray.ext (Array.ext' ht)
 . rintro⟨rfl,rfl,rfl,rfl,rfl,rfl⟩;exact⟨⟨⟨⟨⟨rfl,rfl⟩,rfl⟩,by rw[Lib.toList_data]⟩,rfl⟩,rfl⟩
theorem Oo (w:World) (B:Nat):Ac w B Af5 [.int .i64 0,.bool false,.int .i64 0,.string ⟨#[]⟩,.slice none 0 0,.slice none 0 0]:=by
 simp only[Ac];exact⟨none,0,none,0,rfl,by simp,by simp⟩
theorem Abu (v:Val) (cs:List Value) (w:World) (hV:Ac w w.heap.size v cs) (hb:v.bulk<=100000000) {B:Bool} (hB:U2 v=B):
 Calls Tryz.prog 65 #[.agg cs.toArray,.agg #[.int .i64 0,.bool false,.int .i64 0,.string ⟨#[]⟩,.slice none 0 0,.slice none 0 0]] w fun e w'=>e=.returned (.bool B)/\Below w.heap.size w w':=by
 refine(Xc v Af5 cs _ w hV (Oo _ _) hb (by simp[Val.bulk,Bc,Al,ByteArray.size])).mono ?_;rintro e w' ⟨X,rfl,hX,hb'⟩;refine⟨?_,hb'⟩;rw[<-Aie,hB]at hX
 cases X<;>cases B<;>simp_all
theorem Anl (x y:List UInt8):(Op.bytesLess x y||x==y)= !Op.bytesLess y x:=by
 rcases Acy x y with h|h|h
 . have:Op.bytesLess y x=false:=by
    cases h2:Op.bytesLess y x with
    |false=>rfl
    |true=>have:=Pk h h2;rw[J0]at this;cases this
   simp[h,this]
 . subst h;simp[J0]
 . have h1:Op.bytesLess x y=false:=by
    cases h2:Op.bytesLess x y with
    |false=>rfl
    |true=>have:=Pk h h2;rw[J0]at this;cases this
   have h3:(x==y)=false:=by
    rw[beq_eq_false_iff_ne];rintro rfl;rw[J0]at h;cases h
   simp[h,h1,h3]
end Go.Proofs.YtackmnbpfbaemaaGreatDoor
namespace Go.Proofs.YtackmnbpfbaemaaGreatDoor
open Go.RowKit Go.ChangeShapes Go.WideShapes Go.ChangeAt
theorem Aa7:ownKnob Tryz.prog.godebug=none:=by kernel_rfl
noncomputable def Lh (os:Os):World:=World.laidAll Tryz.prog os Rows.pullReadsRow.laid
theorem Adp:Rows.laid_unicode_utf8_first=Lib.firstData:=by kernel_rfl
theorem Aas:Rows.laid_unicode_utf8_acceptRanges (H:=Unit)=Lib.acceptData:=by kernel_rfl
theorem Adq:Rows.laid_internal_strconv_uint64pow10 (H:=Unit)=Lib.tabData .u64 Lib.pow10Tab:=by kernel_rfl
theorem Aat (os:Os) (args:Array Value):laidMet Tryz.prog Rows.pullReadsRow.laid ((Lh os).forCall (fun _ _=>0) ⟨#[],args, []⟩).memory:=
 laidMet_laidAll _ (by kernel_rfl) (by kernel_rfl)
end Go.Proofs.YtackmnbpfbaemaaGreatDoor
namespace Go.Proofs.YtackmnbpfbaemaaGreatDoor
open Go Go.RowKit
theorem Fg:MKey Tryz.prog 9 Value.string:=Ry Tryz.underlying9
theorem Wm (a k:ByteArray) (v:Value): ∀kv:List (ByteArray×Value),Cy k kv=none->Cy a (kv++ [(k,v)])=if a=k then some v else Cy a kv
 | [],_=>by simp[Cy]
 |(c,u)::r,h=>by
  have hc:k≠c:=by
   intro e;simp[Cy,e]at h
  have hr:Cy k r=none:=by simpa[Cy,hc]using h
  simp only[List.cons_append,Cy];by_cases e:a=c
  . subst e;rw[if_pos rfl,if_neg (Ne.symm hc),if_pos rfl]
  . rw[if_neg e,if_neg e,Wm a k v r hr]
def B9 (w:World) (g n:Nat) (F:ByteArray->Option Value):Prop:= ∃kv,Cw Value.string w g kv/\kv.length=n/\ ∀k,Cy k kv=F k
variable {w w':World} {g n:Nat} {F:ByteArray->Option Value} {P:Program}
theorem B9.lt (h:B9 w g n F):g<w.heap.size:=by
 obtain⟨kv,h,_⟩:=h;exact h.lt
theorem B9.keep (h:B9 w g n F) (hk:w'.heap[g]? =w.heap[g]?):B9 w' g n F:=by
 obtain⟨kv,h1,h2⟩:=h;exact⟨kv,h1.keep hk,h2⟩
theorem B9.below {B:Nat} (h:B9 w g n F) (hb:Below B w w') (hg:g<B):B9 w' g n F:=h.keep (hb.block g hg)
theorem B9.new (w:World):B9 (w.alloc (.map #[] 0)) w.heap.size 0 fun _=>none:=⟨[],Cw.new w,rfl,fun _=>rfl⟩
theorem B9.ext {G:ByteArray->Option Value} (h:B9 w g n F) (e: ∀k,F k=G k):B9 w g n G:=by
 obtain⟨kv,h1,h2,h3⟩:=h;exact⟨kv,h1,h2,fun k=>(h3 k).trans (e k)⟩
theorem Ys {kt et t:TypeId} {o:Oper} {a:Act} {K:Act->World->Prop} {Q:Exit->Act->World->Prop} {m x u:Operand} (hop:o.op=Op.insert t m x u)
 (hP:MKey P kt Value.string) (ht:P.underlying t=some (.map kt et)) (hm:a.eval m=.map (some g)) (h:B9 w g n F) {k:ByteArray} {v:Value} (hx:a.eval x=.string k) (hv:a.eval u=v) (hn:F k=none)
 (hK: ∀w',B9 w' g (n+1) (fun b=>if b=k then some v else F b)->w.grownBy w' (some g)->w'.heap.size=w.heap.size->K (a.put o.dst undef) w'):Oper.wp P o a w K Q:=by
 obtain⟨kv,h1,h2,h3⟩:=h;have hn':Cy k kv=none:=(h3 k).trans hn;obtain⟨w',hrun,r1,r2,r3⟩:=Kx hP ht h1 hn' v;unfold Oper.wp;simp[execOp,hop,hm,hx,hv,hrun,Result.andThen];refine hK w' ⟨_,r1,by simp[h2],fun b=> ?_⟩ r2 r3;rw[Wm b k v kv hn',h3 b]
theorem Ra {kt et t:TypeId} (hP:MKey P kt Value.string) (ht:P.underlying t=some (.map kt et)) (h:B9 w g n F) (a:ByteArray) {z:Value} (hz: ∀w,(zeroValue et).run P w=.ok z w) (c:Bool):
 (Instr.lookup t (.map (some g)) (.string a) c).run P w=.ok (if c then .tuple #[(F a).getD z,.bool (F a).isSome]else(F a).getD z) w:=by
 obtain⟨kv,h1,_,h3⟩:=h;have:=J3 hP ht h1 a hz c;rw[h3 a]at this;exact this
def Pg (md:Region.Mode) (ops:Array Oper) (E:Array Bool):Nat->Array Bool->List Nat->Bool
 |0,l,rs=>decide (rs= [])&&decide (l=E)
 |n+1,l,rs=>decide (rs≠ [])&&decide (Region.ready md ops l=rs)&&rs.all fun i=>Pg md ops E n (l.setIfInBounds i true) (rs.erase i)
theorem Mt {md:Region.Mode} {ops:Array Oper} {Q:Exit->Act->World->Prop} {E:Array Bool} {a:Act} {kt et t:TypeId} {w0:World} {fuel:Nat} (hP:MKey P kt Value.string) (ht:P.underlying t=some (.map kt et))
 (key:Nat->ByteArray) (val:Nat->Value) (rs0:List Nat) (hg:w0.heap.size<=g)
 (hop: ∀i ∈ rs0,∃o m x u,ops[i]? =some o/\(∀y,Region.wanted o y=true)/\a.put o.dst undef=a/\o.op=Op.insert t m x u/\a.eval m=.map (some g)/\a.eval x=.string (key i)/\a.eval u=val i)
 (hinj: ∀i ∈ rs0,∀j ∈ rs0,key i=key j->i=j)
 (G:ByteArray->Option Value) (m0:Nat)
 (hend: ∀W,B9 W g m0 G->Below w0.heap.size w0 W->wpAnyH P md ops Q (fun _=>True) fuel E a W):
 ∀(n:Nat) (rs:List Nat) (l:Array Bool) (F:ByteArray->Option Value) (m:Nat) (W:World),(∀i ∈ rs,i ∈ rs0)->rs.Nodup->Pg md ops E n l rs=true->m+n=m0->B9 W g m F->
  (∀i ∈ rs,F (key i)=none)->(∀i ∈ rs,G (key i)=some (val i))->(∀k,(∀i ∈ rs,k≠key i)->F k=G k)->Below w0.heap.size w0 W->wpAnyH P md ops Q (fun _=>True) (fuel+n) l a W
 |0,rs,l,F,m,W,_,_,ho,hm,hL,_,_,hF,hB=>by
  simp only[Pg,Bool.and_eq_true,decide_eq_true_eq]at ho;obtain⟨rfl,rfl⟩:=ho;subst hm;exact hend W (hL.ext fun k=>hF k (fun i hi=>by cases hi)) hB
 |n+1,rs,l,F,m,W,hin,hnd,ho,hm,hL,hn,hv,hF,hB=>by
  simp only[Pg,Bool.and_eq_true,decide_eq_true_eq]at ho;obtain⟨⟨hne,hr⟩,hall⟩:=ho;refine wpAnyH_ready (rs:=rs) hr hne ?_;intro i hi;obtain⟨o,mm,x,u,h1,h2,h3,h4,h5,h6,h7⟩:=hop i (hin i hi);refine wpOp_step h1 (fun K' hK=> ?_);rw[if_pos (h2 _)];refine Ys h4 hP ht h5 hL h6 h7 (hn i hi) ?_;intro w' hL' hgr _;refine hK _ _ ⟨trivial, ?_⟩;rw[h3];have hrest:=List.all_eq_true.1 hall i hi;have hni: ∀j ∈ rs.erase i,j ∈ rs/\j≠i:=fun j hj=>⟨List.mem_of_mem_erase hj,fun e=>by subst e;exact hnd.not_mem_erase hj⟩;have hkey: ∀j ∈ rs.erase i,key j≠key i:=fun j hj e=>(hni j hj).2 (hinj j (hin j (hni j hj).1) i (hin i hi) e);refine Mt hP ht key val rs0 hg hop hinj G m0 hend n (rs.erase i) _ _ (m+1) w' (fun j hj=>hin j (hni j hj).1) (hnd.erase i) hrest (by omega) hL' (fun j hj=> ?_) (fun j hj=>hv j (hni j hj).1) (fun k hk=> ?_) (hB.grown hgr hB.size fun q e=>by cases e;exact hg)
  . show(if key j=key i then some (val i)else F (key j))=none;rw[if_neg (hkey j hj)];exact hn j (hni j hj).1
  . show(if k=key i then some (val i)else F k)=G k;by_cases e:k=key i
    . rw[if_pos e,e,hv i hi]
    . rw[if_neg e];refine hF k fun j hj=> ?_;by_cases hji:j=i
      . rw[hji];exact e
      . exact hk j ((List.mem_erase_of_ne hji).2 hj)
end Go.Proofs.YtackmnbpfbaemaaGreatDoor
namespace Go.Proofs.YtackmnbpfbaemaaGreatDoor
def Ed (b:List UInt8):Option (List UInt8):=if G8 b then some (b.take (b.length - 4))else none
theorem Rb (l:List UInt8):(C1 l).length=l.length+4:=by
 have h4:(F7 (C5 0 l)).length=4:=rfl;unfold C1;rw[List.length_append,h4]
theorem Ad5 {b l:List UInt8} (h:Ed b=some l):b=C1 l:=by
 unfold Ed at h
 split at h
 . rename_i hs;rw[<-Option.some.inj h];exact Ur hs
 . cases h
def Cm (k:UInt8) (b:List UInt8):Int:=match Ed b with
 |none=>11
 |some []=>11
 |some (x::_)=>if x=0 then 2 else if x=k then 0 else 13
def Cx (b:List UInt8):List UInt8:=((Ed b).getD []).drop 1
theorem Acz {k:UInt8} {b:List UInt8} (h:Cm k b=0):b=C1 (k::Cx b):=by
 unfold Cm at h
 split at h
 . cases h
 . cases h
 . rename_i x r ho
   split at h
   . cases h
   . split at h
     . rename_i _ e;subst e;have hb:=Ad5 ho;have:Cx b=r:=by
        unfold Cx;rw[ho];rfl
       rw[this];exact hb
     . cases h
theorem Ic (b:List UInt8):(Cx b).length<=b.length:=by
 unfold Cx Ed
 split
 . simp;omega
 . simp
end Go.Proofs.YtackmnbpfbaemaaGreatDoor
namespace Go.Proofs.YtackmnbpfbaemaaGreatDoor
open Go.RowKit
def Rl (x:List UInt8):Prop:= ∀c y,x=c::y->Dj c=false
def Ach (g:List UInt8):Prop:= ∀c ∈ g,Es c=true
theorem Aad {s a x:List UInt8} {p:Nat} (h:s.drop p=a++x):s.drop (p+a.length)=x:=by
 rw[<-List.drop_drop,h,List.drop_left]
theorem Ai6 {s a x:List UInt8} {p:Nat} (h:s.drop p=a++x) (hp:p<=s.length):p+a.length<=s.length:=by
 have:=congrArg List.length h;rw[List.length_drop,List.length_append]at this;omega
theorem Ajf {s x:List UInt8} {p:Nat} {c:UInt8} (h:s.drop p=c::x):s[p]? =some c:=by
 have:=List.getElem?_drop (xs:=s) (i:=p) (j:=0);rw[h]at this;simpa using this.symm
theorem R1: ∀{g:List UInt8},Ach g-> ∀{s x:List UInt8} {p:Nat},s.drop p=g++x->Ar s p=Ar s (p+g.length)
 | [],_,_,_,_,_=>rfl
 |c::g,hg,s,x,p,h=>by
  rw[Q5 (Ajf h) (hg c (by simp))];have h2:s.drop (p+1)=g++x:=Aad (a:= [c]) (x:=g++x) (by simpa using h);rw[R1 (fun c hc=>hg c (by simp[hc])) h2,List.length_cons]
  congr 1;omega
theorem Ae1 {f:Nat} {s:List UInt8} {p p':Nat} {d:Int} (h:Ar s p=Ar s p'):Bq f s p d=Bq f s p' d:=by
 cases f with
 |zero=>unfold Bq;rw[h]
 |succ f=>unfold Bq;rw[h]
def Acm (t:List UInt8) (v:Val) (d:Int):Prop:= ∀f s p x,p<=s.length->s.drop p=t++x->Rl x->4*(s.length - p)+1<=f-> ∃q,Bq f s p d=.ok v q/\Ar s q=Ar s (p+t.length)
theorem Rl.blanks {g x:List UInt8} (hg:Ach g) (hx:Rl x):Rl (g++x):=by
 intro c y h
 cases g with
 |nil=>exact hx c y h
 |cons a g=>
  have:a=c:=(List.cons.inj h).1;subst this;have:=hg a (by simp);unfold Es at this;simp only[Bool.or_eq_true,beq_iff_eq]at this;rcases this with((rfl|rfl)|rfl)|rfl<;>decide
theorem Rl.of {c:UInt8} {y:List UInt8} (h:Dj c=false):Rl (c::y):=by
 intro c' y' e;rw[<-(List.cons.inj e).1];exact h
theorem Rl.nil:Rl []:=by intro c y e;cases e
theorem Acm.ahead {t:List UInt8} {v:Val} {d:Int} (h:Acm t v d) {g:List UInt8} (hg:Ach g):Acm (g++t) v d:=by
 intro f s p x hp hs hx hf;rw[List.append_assoc]at hs;have h1:=R1 hg hs;have h2:=Aad hs;have h3:=Ai6 hs hp;obtain⟨q,h4,h5⟩:=h f s (p+g.length) x h3 h2 hx (by omega);refine⟨q,by rw[Ae1 h1];exact h4, ?_⟩;rw[h5,List.length_append]
 congr 1;omega
theorem Alf {c:UInt8}:Dj c=true ↔ 48<=c.toNat/\c.toNat<=57:=by unfold Dj;simp
theorem Aeu {c:UInt8} (h:Dj c=true\/c=45):Fs c=true/\Es c=false/\c≠91/\c≠123/\c≠34/\c≠110/\c≠116/\c≠102:=by
 rcases h with h|rfl
 . have hd:=Alf.1 h;have ne: ∀k:UInt8,(k.toNat<48\/57<k.toNat)->c≠k:=by
    rintro k hk rfl;omega
   refine⟨by unfold Fs;rw[h];rfl, ?_,ne _ (by decide),ne _ (by decide),ne _ (by decide),ne _ (by decide),ne _ (by decide),ne _ (by decide)⟩;unfold Es;simp only[Bool.or_eq_false_iff,beq_eq_false_iff_ne];exact⟨⟨⟨ne _ (by decide),ne _ (by decide)⟩,ne _ (by decide)⟩,ne _ (by decide)⟩
 . decide
structure Mem where
 pre:List UInt8
 mid:List UInt8
 txt:List UInt8
 key:ByteArray
 val:Val
def Mem.pair (m:Mem):ByteArray×Val:=(m.key,m.val)
def Mb (v:Val):Prop:= ∀(cs:List Value) (w:World),Ac w w.heap.size v cs->v.bulk<=100000000->
    Calls Tryz.prog 44 #[.agg cs.toArray] w fun e w'=>(∃cs',e=.returned (.agg (cs':List Value).toArray)/\cs'.length=6/\Ql w w' v cs')/\Below w.heap.size w w'
def Sr (s:List UInt8) (f k:Nat):Nat:=F2 ((s.drop f).take k)
theorem Agj (s:List UInt8) (f:Nat):Sr s f 0=0:=by simp[Sr,F2]
theorem Wj {s:List UInt8} {f k:Nat} {c:UInt8} (h:s[f+k]? =some c):Sr s f (k+1)=Sr s f k*10+(c.toNat - 48):=by
 unfold Sr;rw[List.take_add_one,List.getElem?_drop,h,Option.toList_some,Agk]
theorem Agi {s:List UInt8} {f k m:Nat} (h:k<=m):Sr s f k<=Sr s f m:=by
 unfold Sr;obtain⟨r,rfl⟩:=Nat.le.dest h;have:=Tb ((List.drop k (List.drop f s)).take r) (F2 ((List.drop f s).take k));unfold Sq at this;rw[List.take_add];unfold F2 at this ⊢;rw[List.foldl_append];exact this
theorem Abr {D d:Nat} (hd:d<=9):(-(D:Int)<Int.tdiv (-9223372036854775808+(d:Int)) 10) ↔ 9223372036854775808<D*10+d:=by
 have e:Int.tdiv (-9223372036854775808+(d:Int)) 10= -(((9223372036854775808 - d) / 10:Nat):Int):=by
  rw[show(-9223372036854775808+(d:Int))= -((9223372036854775808 - d:Nat):Int)from by omega,Int.neg_tdiv];rfl
 rw[e];omega
end Go.Proofs.YtackmnbpfbaemaaGreatDoor
