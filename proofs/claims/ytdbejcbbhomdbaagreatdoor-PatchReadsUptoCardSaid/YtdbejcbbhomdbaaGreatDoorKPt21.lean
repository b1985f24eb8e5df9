/- Parts: commonplaceref03.Text: the text of a value that may be. Condition: a bulk of at most 10^8. -/
import Derived.Test.YtdbejcbbhomdbaaGreatDoorKPt16
import Derived.Test.YtdbejcbbhomdbaaGreatDoorKPt17
set_option maxHeartbeats 20000000
set_option maxRecDepth 100000
namespace Go.Proofs.YtdbejcbbhomdbaaGreatDoor
open Go.RowKit
def Wq (v:Val):Prop:= ∀(cs:List Value) (w:World) (d:Int),Aa w w.heap.size v cs->v.bulk<=100000000->A5 v d=0->Jc v->
    Calls Tryz.prog 19 #[.agg cs.toArray] w fun e w'=>e=.returned (.string ⟨(Bx v).toArray⟩)/\Below w.heap.size w w'
theorem Ug {T:ByteArray} {l:List UInt8} (h:T.data.toList=l):(⟨l.toArray⟩:ByteArray)=T:=by
 subst h;rfl
theorem Dh (a b:ByteArray):(a++b).data.toList=a.data.toList++b.data.toList:=by
 rw[ByteArray.data_append,Array.toList_append]
theorem X7 (b:Bool) (n:Int) (t:ByteArray) (l:List Val) (IH: ∀v ∈ l,Wq v) (la oa:Option Addr) (oc lc:Nat) (w:World) (d:Int) (hl:l= []\/ ∃g off,la=some ⟨g,off,none⟩/\g<w.heap.size/\Ai w w.heap.size l g off)
 (hb:A6 l<=100000000) (hm:C8 l d=0) (hi:Tw l) (hlen:(Ci l true).length<=700000000):
 Calls Tryz.prog 19 #[.agg #[.int .i64 5,.bool b,.int .i64 n,.string t,.slice la l.length lc,.slice oa 0 oc]] w fun e w'=>e=.returned (.string ⟨(91::(Ci l true++ [93])).toArray⟩)/\Below w.heap.size w w':=by
 have hln:=Ch l;have H0:Hid ((⟨#[91]⟩:ByteArray).data.toList=91::Ci (l.take 0) true):=by show _=_;simp[Ci]
 have HI:=qz IH;have HM:=qz (Jp hm);have Hi:=qz (fun x hx=>Oo hi (x:=x) hx);clear IH hm hi;go_enter Tryz.func19,Tryz.ntmps19;go_wp2_with (fail);have HB1:Hid (Below w.heap.size w (w.alloc (.cells #[.int .i64 5,.bool b,.int .i64 n,.string t,.slice la l.length lc,.slice oa 0 oc] 33))):=(Below.refl _ _).alloc (Nat.le_refl _) _;have HX1:Hid ((w.alloc (.cells #[.int .i64 5,.bool b,.int .i64 n,.string t,.slice la l.length lc,.slice oa 0 oc] 33)).heap[w.heap.size]? =some (.cells #[.int .i64 5,.bool b,.int .i64 n,.string t,.slice la l.length lc,.slice oa 0 oc] 33 (0,0))):=heap_alloc_new _ _;go_loopw [5,6] (fun o i wr=> ∃(T:ByteArray) (k:Nat),o=.string T/\i=.int .i64 k/\k<=l.length/\Hid (T.data.toList=91::Ci (l.take k) true)/\Hid (Below w.heap.size w wr)/\Hid (wr.heap[w.heap.size]? =some (.cells #[.int .i64 5,.bool b,.int .i64 n,.string t,.slice la l.length lc,.slice oa 0 oc] 33 (0,0)))) (fun _ i _=>l.length - (intOf i).toNat)
 case atStart=>exact⟨_,0,rfl,rfl,Nat.zero_le _,H0,HB1,HX1⟩
 case round=>
  obtain⟨T,k,rfl,rfl,hk,hT,hbw,hbx⟩:=hrel;clear H0 HB1 HX1;have hTs:T.size<=700000001:=by
   have h1:=congrArg List.length hT.out;have h2:=J0 l k true;have h3:=R4 T;simp only[List.length_cons]at h1;omega
  have b4:wr.cell? ⟨w.heap.size,4,none⟩=some (.slice la l.length lc):=by rw[Lib.cell_of_heap hbx.out];rfl
  have hz:w.heap.size<wr.heap.size:=(Array.getElem?_eq_some_iff.1 hbx.out).1;by_cases hlt:k<l.length
  . obtain⟨g,off,rfl,hg,hL⟩: ∃g off,la=some ⟨g,off,none⟩/\g<w.heap.size/\Ai w w.heap.size l g off:=by
     rcases hl with rfl|h
     . simp at hlt
     . exact h
    obtain⟨x,hx⟩: ∃v,l[k]? =some v:=⟨_,List.getElem?_eq_getElem hlt⟩;have hmem:x ∈ l:=List.mem_of_getElem? hx;have hmx:=HM.out x hmem;have hix:=Hi.out x hmem;have hbv:=Cp hmem;have htk:l.take (k+1)=l.take k++ [x]:=by rw[List.take_add_one,hx];rfl
    have hsn:=Ll x (l.take k) true;rw[<-htk]at hsn;have hXl:(Bx x).length<=700000000:=by
     have h1:=congrArg List.length hsn;have h2:=J0 l (k+1) true;simp only[List.length_append]at h1;omega
    have IHx:=HI.out x hmem;obtain⟨X,hX⟩: ∃X:ByteArray,(⟨(Bx x).toArray⟩:ByteArray)=X:=⟨_,rfl⟩;have hXs:X.size<=700000000:=by rw[<-hX,Ou];exact hXl
    have hXd:X.data.toList=Bx x:=by rw[<-hX]
    obtain⟨k',b',n',t',l',o'⟩:=x;obtain⟨la',lc',oa',oc',hvs,c0,c1,c2,c3,c4,c5⟩:=(hL.below hg hbw.out).six hx;have CT:=IHx _ wr d (Aa.more (by omega) _ _ hvs) (by omega) hmx hix;rw[hX]at CT;have hTd:Hid (T.data.toList++((if true&&(l.take k).isEmpty then []else [44])++X.data.toList)=91::Ci (l.take (k+1)) true):=by
     show _=_;rw[hsn,hT.out,hXd];rfl
    have hCT:=qz CT;clear CT hX hXd hXl hsn htk hmx hix hbv hmem hx hL hg IHx hvs;have hne:k≠0->(l.take k).isEmpty=false:=by
     intro h;rw[List.isEmpty_eq_false_iff];intro e;have:=congrArg List.length e;rw[List.length_take,List.length_nil]at this;omega
    by_cases hk0:k=0
    . subst hk0;simp only[Nat.zero_mul,Nat.add_zero]at c0 c1 c2 c3 c4 c5;have hTd':Hid ((T++X).data.toList=91::Ci (l.take (0+1)) true):=by
       have:=hTd.out;show _=_;rw[Dh,<-this];simp
      clear hTd hT hne;go_wp2_with (fail);(with_reducible refine hCT.out.mono ?_);rintro e w4 ⟨rfl,hb4⟩;have hbw4:=qz (hbw.out.trans (hb4.mono (by omega)));have hbx4:=qz ((hb4.block _ hz).trans hbx.out);clear hb4 hbw hbx;go_wp2;go_roundw
      case rel=>exact⟨_,0+1,rfl,by go_num,by omega,hTd',hbw4,hbx4⟩
      case measure=>simp only[intOf];omega
    . have hTd':Hid ((T++⟨#[44]⟩++X).data.toList=91::Ci (l.take (k+1)) true):=by
       have:=hTd.out;show _=_;rw[Dh,Dh,<-this,hne hk0];simp
      clear hTd hT hne;have hkp:0<k:=by omega
      go_wp2_with (fail);(with_reducible refine hCT.out.mono ?_);rintro e w4 ⟨rfl,hb4⟩;have hbw4:=qz (hbw.out.trans (hb4.mono (by omega)));have hbx4:=qz ((hb4.block _ hz).trans hbx.out);clear hb4 hbw hbx;go_wp2;go_roundw
      case rel=>exact⟨_,k+1,rfl,by go_num,by omega,hTd',hbw4,hbx4⟩
      case measure=>simp only[intOf];omega
  . obtain rfl:k=l.length:=by omega
    have hT':=hT.out;rw[List.take_length]at hT';have HE:Hid ((⟨(91::(Ci l true++ [93])).toArray⟩:ByteArray)=T++⟨#[93]⟩):=Ug (by rw[Dh,hT'];simp);clear hT hT' hl;go_wp2;go_ret;exact⟨by rw[HE.out];rfl,hbw.out⟩
theorem Aak (b:Bool) (n:Int) (t:ByteArray) (l:List (ByteArray×Val)) (IH: ∀m ∈ l,Wq m.2) (la oa:Option Addr) (oc lc:Nat) (w:World) (d:Int) (hl:l= []\/ ∃g off,oa=some ⟨g,off,none⟩/\g<w.heap.size/\Ak w w.heap.size l g off)
 (hb:Ag l<=100000000) (last:Option ByteArray) (hm:C5 l last d=0) (hi:U0 l) (hlen:(Cj l true).length<=700000000):
 Calls Tryz.prog 19 #[.agg #[.int .i64 6,.bool b,.int .i64 n,.string t,.slice la 0 lc,.slice oa l.length oc]] w fun e w'=>e=.returned (.string ⟨(123::(Cj l true++ [125])).toArray⟩)/\Below w.heap.size w w':=by
 have hln:=Bu l;have H0:Hid ((⟨#[123]⟩:ByteArray).data.toList=123::Cj (l.take 0) true):=by show _=_;simp[Cj]
 have HI:=qz IH;have HM:=qz (U9 hm);have Hi:=qz (fun x hx=>Adv hi (x:=x) hx);clear IH hm hi;go_enter Tryz.func19,Tryz.ntmps19;go_wp2_with (fail);have HB1:Hid (Below w.heap.size w (w.alloc (.cells #[.int .i64 6,.bool b,.int .i64 n,.string t,.slice la 0 lc,.slice oa l.length oc] 33))):=(Below.refl _ _).alloc (Nat.le_refl _) _;have HX1:Hid ((w.alloc (.cells #[.int .i64 6,.bool b,.int .i64 n,.string t,.slice la 0 lc,.slice oa l.length oc] 33)).heap[w.heap.size]? =some (.cells #[.int .i64 6,.bool b,.int .i64 n,.string t,.slice la 0 lc,.slice oa l.length oc] 33 (0,0))):=heap_alloc_new _ _;go_loopw [7,8] (fun o i wr=> ∃(T:ByteArray) (k:Nat),o=.string T/\i=.int .i64 k/\k<=l.length/\Hid (T.data.toList=123::Cj (l.take k) true)/\Hid (Below w.heap.size w wr)/\Hid (wr.heap[w.heap.size]? =some (.cells #[.int .i64 6,.bool b,.int .i64 n,.string t,.slice la 0 lc,.slice oa l.length oc] 33 (0,0)))) (fun _ i _=>l.length - (intOf i).toNat)
 case atStart=>exact⟨_,0,rfl,rfl,Nat.zero_le _,H0,HB1,HX1⟩
 case round=>
  obtain⟨T,k,rfl,rfl,hk,hT,hbw,hbx⟩:=hrel;clear H0 HB1 HX1;have hTs:T.size<=700000001:=by
   have h1:=congrArg List.length hT.out;have h2:=J1 l k true;have h3:=R4 T;simp only[List.length_cons]at h1;omega
  have b4:wr.cell? ⟨w.heap.size,5,none⟩=some (.slice oa l.length oc):=by rw[Lib.cell_of_heap hbx.out];rfl
  have hz:w.heap.size<wr.heap.size:=(Array.getElem?_eq_some_iff.1 hbx.out).1;by_cases hlt:k<l.length
  . obtain⟨g,off,rfl,hg,hL⟩: ∃g off,oa=some ⟨g,off,none⟩/\g<w.heap.size/\Ak w w.heap.size l g off:=by
     rcases hl with rfl|h
     . simp at hlt
     . exact h
    obtain⟨⟨key,x⟩,hx⟩: ∃v,l[k]? =some v:=⟨_,List.getElem?_eq_getElem hlt⟩;have hmem:(key,x) ∈ l:=List.mem_of_getElem? hx;obtain⟨hkv,hmx⟩:=HM.out _ hmem;have hix:=Hi.out _ hmem;have hbv:=Ca hmem;simp only at hkv hmx hix hbv;have htk:l.take (k+1)=l.take k++ [(key,x)]:=by rw[List.take_add_one,hx];rfl
    have hsn:=Lm (key,x) (l.take k) true;rw[<-htk]at hsn;simp only[V4]at hsn;have hXl:(Bx x).length<=700000000/\(Cu key).length<=700000000:=by
     have h1:=congrArg List.length hsn;have h2:=J1 l (k+1) true;simp only[List.length_append,List.length_cons]at h1;omega
    have IHx:=HI.out _ hmem;obtain⟨X,hX⟩: ∃X:ByteArray,(⟨(Bx x).toArray⟩:ByteArray)=X:=⟨_,rfl⟩;have hXs:X.size<=700000000:=by rw[<-hX,Ou];exact hXl.1
    have hXd:X.data.toList=Bx x:=by rw[<-hX]
    obtain⟨Q,hQ⟩: ∃Q:ByteArray,(⟨(Cu key).toArray⟩:ByteArray)=Q:=⟨_,rfl⟩;have hQs:Q.size<=700000000:=by rw[<-hQ,Ou];exact hXl.2
    have hQd:Q.data.toList=Cu key:=by rw[<-hQ]
    have c0:=((hL.below hg hbw.out).at_ hx).1;simp only at c0;have CQ:=Ls key wr (by omega) hkv;rw[hQ]at CQ;have hTd:Hid (T.data.toList++((if true&&(l.take k).isEmpty then []else [44])++(Q.data.toList++(58::X.data.toList)))=123::Cj (l.take (k+1)) true):=by
     show _=_;rw[hsn,hT.out,hXd,hQd];rfl
    have hCT:Hid (∀w',Below w.heap.size w w'-> ∀(k':Int) (b':Bool) (n':Int) (t':ByteArray) (l':List Val) (o':List (ByteArray×Val)) (la' oa':Option Addr) (lc' oc':Nat),x=.mk k' b' n' t' l' o'->Aa w' w.heap.size x (C0 k' b' n' t' la' l'.length lc' oa' o'.length oc')->
     Calls Tryz.prog 19 #[.agg #[.int .i64 k',.bool b',.int .i64 n',.string t',.slice la' l'.length lc',.slice oa' o'.length oc']] w' fun e w''=>e=.returned (.string X)/\Below w'.heap.size w' w''):=by
     intro w' hw' k' b' n' t' l' o' la' oa' lc' oc' _ hvs;have:=IHx _ w' d (Aa.more hw'.size _ _ hvs) (show x.bulk<=100000000 from by omega) hmx hix;rw[hX]at this;exact this
    have hCQ:=qz CQ;have HL:Hid (∀w',Below w.heap.size w w'->Ak w' w.heap.size l g off):=fun w' h=>hL.below hg h;have HXx:=qz hx;clear CQ hX hXd hQ hQd hXl hsn htk hmx hix hbv hmem hx hL hg IHx hkv;have hne:k≠0->(l.take k).isEmpty=false:=by
     intro h;rw[List.isEmpty_eq_false_iff];intro e;have:=congrArg List.length e;rw[List.length_take,List.length_nil]at this;omega
    obtain⟨k',b',n',t',l',o'⟩:=x;by_cases hk0:k=0
    . subst hk0;simp only[Nat.zero_mul,Nat.add_zero]at c0;have hTd':Hid ((T++Q++⟨#[58]⟩++X).data.toList=123::Cj (l.take (0+1)) true):=by
       have:=hTd.out;show _=_;rw[Dh,Dh,Dh,<-this];simp
      clear hTd hT hne;go_wp2_with (fail);(with_reducible refine hCQ.out.mono ?_);rintro e w4 ⟨rfl,hb4⟩;have hbw4:=qz (hbw.out.trans (hb4.mono (by omega)));have hbx4:=qz ((hb4.block _ hz).trans hbx.out);have hz4:w.heap.size<w4.heap.size:=(Array.getElem?_eq_some_iff.1 hbx4.out).1;have b4':w4.cell? ⟨w.heap.size,5,none⟩=some (.slice (some ⟨g,off,none⟩) l.length oc):=by rw[Lib.cell_of_heap hbx4.out];rfl
      obtain⟨la',lc',oa',oc',hvs,_,e1,e2,e3,e4,e5,e6⟩:=(HL.out _ hbw4.out).seven HXx.out;simp only[Nat.zero_mul,Nat.add_zero]at e1 e2 e3 e4 e5 e6;have hCT4:=qz (hCT.out _ hbw4.out _ _ _ _ _ _ la' oa' lc' oc' rfl hvs);clear hb4 hbw hbx b4 c0 hvs hCT HL HXx hCQ;go_wp2_with (fail);(with_reducible refine hCT4.out.mono ?_);rintro e w5 ⟨rfl,hb5⟩;have hbw5:=qz (hbw4.out.trans (hb5.mono (by omega)));have hbx5:=qz ((hb5.block _ hz4).trans hbx4.out);clear hb5 hbw4 hbx4 hCT4;go_wp2;go_roundw
      case rel=>exact⟨_,0+1,rfl,by go_num,by omega,hTd',hbw5,hbx5⟩
      case measure=>simp only[intOf];omega
    . have hTd':Hid ((T++⟨#[44]⟩++Q++⟨#[58]⟩++X).data.toList=123::Cj (l.take (k+1)) true):=by
       have:=hTd.out;show _=_;rw[Dh,Dh,Dh,Dh,<-this,hne hk0];simp
      clear hTd hT hne;have hkp:0<k:=by omega
      go_wp2_with (fail);(with_reducible refine hCQ.out.mono ?_);rintro e w4 ⟨rfl,hb4⟩;have hbw4:=qz (hbw.out.trans (hb4.mono (by omega)));have hbx4:=qz ((hb4.block _ hz).trans hbx.out);have hz4:w.heap.size<w4.heap.size:=(Array.getElem?_eq_some_iff.1 hbx4.out).1;have b4':w4.cell? ⟨w.heap.size,5,none⟩=some (.slice (some ⟨g,off,none⟩) l.length oc):=by rw[Lib.cell_of_heap hbx4.out];rfl
      obtain⟨la',lc',oa',oc',hvs,_,e1,e2,e3,e4,e5,e6⟩:=(HL.out _ hbw4.out).seven HXx.out;have hCT4:=qz (hCT.out _ hbw4.out _ _ _ _ _ _ la' oa' lc' oc' rfl hvs);clear hb4 hbw hbx b4 c0 hvs hCT HL HXx hCQ;go_wp2_with (fail);(with_reducible refine hCT4.out.mono ?_);rintro e w5 ⟨rfl,hb5⟩;have hbw5:=qz (hbw4.out.trans (hb5.mono (by omega)));have hbx5:=qz ((hb5.block _ hz4).trans hbx4.out);clear hb5 hbw4 hbx4 hCT4;go_wp2;go_roundw
      case rel=>exact⟨_,k+1,rfl,by go_num,by omega,hTd',hbw5,hbx5⟩
      case measure=>simp only[intOf];omega
  . obtain rfl:k=l.length:=by omega
    have hT':=hT.out;rw[List.take_length]at hT';have HE:Hid ((⟨(123::(Cj l true++ [125])).toArray⟩:ByteArray)=T++⟨#[125]⟩):=Ug (by rw[Dh,hT'];simp);clear hT hT' hl;go_wp2;go_ret;exact⟨by rw[HE.out];rfl,hbw.out⟩
theorem Vu (k:Int) (b:Bool) (n:Int) (t:ByteArray) (l:List Val) (o:List (ByteArray×Val)) (la oa:Option Addr) (oc lc:Nat) (w:World) (h5:k≠5) (h6:k≠6) (hk:k=1\/k=2\/k=3\/k=4) (hs:t.size<=1000000000) (hv:Aw t=true)
 (h1: -9223372036854775808<=n) (h2:n<=9223372036854775807):
 Calls Tryz.prog 19 #[.agg #[.int .i64 k,.bool b,.int .i64 n,.string t,.slice la l.length lc,.slice oa o.length oc]] w fun e w'=>e=.returned (.string ⟨(Bx (.mk k b n t l o)).toArray⟩)/\Below w.heap.size w w':=by
 simp only[Bx];rcases hk with rfl|rfl|rfl|rfl
 . rw[if_neg (by decide),if_neg (by decide),if_neg (by decide),if_neg (by decide),if_neg (by decide)];go_enter Tryz.func19,Tryz.ntmps19;go_wp2;go_ret;exact⟨rfl,(Below.refl _ _).alloc (Nat.le_refl _) _⟩
 . rw[if_pos rfl]
   cases b
   . go_enter Tryz.func19,Tryz.ntmps19;go_wp2;go_ret;exact⟨rfl,(Below.refl _ _).alloc (Nat.le_refl _) _⟩
   . go_enter Tryz.func19,Tryz.ntmps19;go_wp2;go_ret;exact⟨rfl,(Below.refl _ _).alloc (Nat.le_refl _) _⟩
 . rw[if_neg (by decide),if_pos rfl];have HD:=qz (fun w=>qz (Sr n h1 h2 w));go_enter Tryz.func19,Tryz.ntmps19;go_wp2_with (fail);(with_reducible refine(HD.out _).out.mono ?_);rintro e w' ⟨rfl,rfl⟩;go_wp2;go_ret;exact⟨rfl,(Below.refl _ _).alloc (Nat.le_refl _) _⟩
 . rw[if_neg (by decide),if_neg (by decide),if_pos rfl];have HD:=qz (fun w=>qz (Ls t w hs hv));go_enter Tryz.func19,Tryz.ntmps19;go_wp2_with (fail);(with_reducible refine(HD.out _).out.mono ?_);rintro e w' ⟨rfl,hb⟩;go_wp2;go_ret;exact⟨rfl,((Below.refl _ _).alloc (Nat.le_refl _) _).trans (hb.mono (by simp))⟩
theorem Ny: ∀v,Wq v:=by
 refine Val.ind ?_;intro k b n t l o IHl IHo cs w d hV hb hm hi;have hok:=Xv _ d hm hi;have hlen:=Ie _ hok;obtain⟨hodd,_,hvt,hmL,hmO⟩:=El hm;simp only[Aa]at hV;obtain⟨la,lc,oa,oc,rfl,hla,hoa⟩:=hV;simp only[Jc]at hi;simp only[Val.bulk]at hb hlen;by_cases h5:k=5
 . subst h5;have ho:o= []:=by
    have:o.length=0:=by
     unfold E2 at hodd;simp at hodd;simp[hodd]
    exact List.length_eq_zero_iff.1 this
   subst ho;have ht:Bx (.mk 5 b n t l [])=91::(Ci l true++ [93]):=by simp[Bx]
   rw[ht]at hlen ⊢;simp only[List.length_cons,List.length_append,List.length_nil]at hlen;exact X7 b n t l IHl la oa oc lc w (d+1) hla (by omega) hmL hi.2.1 (by omega)
 by_cases h6:k=6
 . subst h6;have hl:l= []:=by
    have:l.length=0:=by
     unfold E2 at hodd;simp at hodd;simp[hodd]
    exact List.length_eq_zero_iff.1 this
   subst hl;have ht:Bx (.mk 6 b n t [] o)=123::(Cj o true++ [125]):=by simp[Bx]
   rw[ht]at hlen ⊢;simp only[List.length_cons,List.length_append,List.length_nil]at hlen;exact Aak b n t o IHo la oa oc lc w (d+1) hoa (by omega) none hmO hi.2.2 (by omega)
 have hk:k=1\/k=2\/k=3\/k=4:=by
  unfold E2 at hodd;by_cases a1:k=1
  . exact .inl a1
  by_cases a2:k=2
  . exact .inr (.inl a2)
  by_cases a3:k=3
  . exact .inr (.inr (.inl a3))
  by_cases a4:k=4
  . exact .inr (.inr (.inr a4))
  simp[a1,a2,a3,a4,h5,h6]at hodd
 exact Vu k b n t l o la oa oc lc w h5 h6 hk (by omega) hvt hi.1.1 hi.1.2
end Go.Proofs.YtdbejcbbhomdbaaGreatDoor
