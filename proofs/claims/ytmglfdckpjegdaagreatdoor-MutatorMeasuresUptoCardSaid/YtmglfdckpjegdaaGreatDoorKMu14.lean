/- Parts: Digits, and what strconv.ParseInt says of them. Plain. No condition. -/
import Derived.Lib.ParseIntBCases
import Derived.Test.YtmglfdckpjegdaaGreatDoorKMu11
import Derived.Test.YtmglfdckpjegdaaGreatDoorKMu12
set_option maxHeartbeats 20000000
namespace Go.Proofs.YtmglfdckpjegdaaGreatDoor
open Go.RowKit
def Ae1 (v:Val):Prop:= ∀(cs:List Value) (w:World) (d:Int),Ab w w.heap.size v cs->v.bulk<=100000000->Az v d=0->Jg v->
    Calls Tryz.prog 15 #[.agg cs.toArray] w fun e w'=>e=.returned (.string ⟨(Ak v).toArray⟩)/\Below w.heap.size w w'
theorem Ab7 {T:ByteArray} {l:List UInt8} (h:T.data.toList=l):(⟨l.toArray⟩:ByteArray)=T:=by
 subst h;rfl
theorem Gh (a b:ByteArray):(a++b).data.toList=a.data.toList++b.data.toList:=by
 rw[ByteArray.data_append,Array.toList_append]
set_option maxRecDepth 100000 in
theorem Agu (b:Bool) (n:Int) (t:ByteArray) (l:List Val) (IH: ∀v ∈ l,Ae1 v) (la oa:Option Addr) (oc lc:Nat) (w:World) (d:Int) (hl:l= []\/ ∃g off,la=some ⟨g,off,none⟩/\g<w.heap.size/\A1 w w.heap.size l g off)
 (hb:Bd l<=100000000) (hm:Df l d=0) (hi:Mz l) (hlen:(Br l true).length<=700000000):
 Calls Tryz.prog 15 #[.agg #[.int .i64 5,.bool b,.int .i64 n,.string t,.slice la l.length lc,.slice oa 0 oc]] w fun e w'=>e=.returned (.string ⟨(91::(Br l true++ [93])).toArray⟩)/\Below w.heap.size w w':=by
 have hln:=Ee l;have H0:Hid ((⟨#[91]⟩:ByteArray).data.toList=91::Br (l.take 0) true):=by show _=_;simp[Br]
 have HI:=Lib.hid IH;have HM:=Lib.hid (Ha hm);have Hi:=Lib.hid (fun x hx=>Ahn hi (x:=x) hx);clear IH hm hi;go_enter Tryz.func15,Tryz.ntmps15;go_wp2_with (fail);have hb1:Below w.heap.size w (w.alloc (.cells #[.int .i64 5,.bool b,.int .i64 n,.string t,.slice la l.length lc,.slice oa 0 oc] 27)):=(Below.refl _ _).alloc (Nat.le_refl _) _;have hbx1:(w.alloc (.cells #[.int .i64 5,.bool b,.int .i64 n,.string t,.slice la l.length lc,.slice oa 0 oc] 27)).heap[w.heap.size]? =some (.cells #[.int .i64 5,.bool b,.int .i64 n,.string t,.slice la l.length lc,.slice oa 0 oc] 27 (0,0)):=heap_alloc_new _ _;obtain⟨HB1,HX1⟩:=hid2 hb1 hbx1;clear hb1 hbx1;go_loopw [5,6] (fun o i wr=> ∃(T:ByteArray) (k:Nat),o=.string T/\i=.int .i64 k/\k<=l.length/\Hid (T.data.toList=91::Br (l.take k) true)/\Hid (Below w.heap.size w wr)/\Hid (wr.heap[w.heap.size]? =some (.cells #[.int .i64 5,.bool b,.int .i64 n,.string t,.slice la l.length lc,.slice oa 0 oc] 27 (0,0)))) (fun _ i _=>l.length - (intOf i).toNat)
 case atStart=>exact⟨_,0,rfl,rfl,Nat.zero_le _,H0,HB1,HX1⟩
 case round=>
  obtain⟨T,k,rfl,rfl,hk,hT,hbw,hbx⟩:=hrel;clear H0 HB1 HX1;have hTs:T.size<=700000001:=by
   have h1:=congrArg List.length hT.out;have h2:=Pc l k true;have h3:=Nh T;simp only[List.length_cons]at h1;omega
  have b4:wr.cell? ⟨w.heap.size,4,none⟩=some (.slice la l.length lc):=by rw[Lib.cell_of_heap hbx.out];rfl
  have hz:w.heap.size<wr.heap.size:=(Array.getElem?_eq_some_iff.1 hbx.out).1;by_cases hlt:k<l.length
  . obtain⟨g,off,rfl,hg,hL⟩: ∃g off,la=some ⟨g,off,none⟩/\g<w.heap.size/\A1 w w.heap.size l g off:=by
     rcases hl with rfl|h
     . simp at hlt
     . exact h
    obtain⟨x,hx⟩: ∃v,l[k]? =some v:=⟨_,List.getElem?_eq_getElem hlt⟩;have hmem:x ∈ l:=List.mem_of_getElem? hx;have hmx:=HM.out x hmem;have hix:=Hi.out x hmem;have hbv:=Er hmem;have htk:l.take (k+1)=l.take k++ [x]:=by rw[List.take_add_one,hx];rfl
    have hsn:=Qy x (l.take k) true;rw[<-htk]at hsn;have hXl:(Ak x).length<=700000000:=by
     have h1:=congrArg List.length hsn;have h2:=Pc l (k+1) true;simp only[List.length_append]at h1;omega
    have IHx:=HI.out x hmem;obtain⟨X,hX⟩: ∃X:ByteArray,(⟨(Ak x).toArray⟩:ByteArray)=X:=⟨_,rfl⟩;have hXs:X.size<=700000000:=by rw[<-hX,Py];exact hXl
    have hXd:X.data.toList=Ak x:=by rw[<-hX]
    obtain⟨k',b',n',t',l',o'⟩:=x;obtain⟨la',lc',oa',oc',hvs,c0,c1,c2,c3,c4,c5⟩:=(hL.below hg hbw.out).six hx;have CT:=IHx _ wr d (Ab.more (by omega) _ _ hvs) (by omega) hmx hix;rw[hX]at CT;have hTd:Hid (T.data.toList++((if true&&(l.take k).isEmpty then []else [44])++X.data.toList)=91::Br (l.take (k+1)) true):=by
     show _=_;rw[hsn,hT.out,hXd];rfl
    have hCT:=Lib.hid CT;clear CT hX hXd hXl hsn htk hmx hix hbv hmem hx hL hg IHx hvs;have hne:k≠0->(l.take k).isEmpty=false:=by
     intro h;rw[List.isEmpty_eq_false_iff];intro e;have:=congrArg List.length e;rw[List.length_take,List.length_nil]at this;omega
    by_cases hk0:k=0
    . subst hk0;simp only[Nat.zero_mul,Nat.add_zero]at c0 c1 c2 c3 c4 c5;have hTd':Hid ((T++X).data.toList=91::Br (l.take (0+1)) true):=by
       have:=hTd.out;show _=_;rw[Gh,<-this];simp
      clear hTd hT hne;go_wp2_with (fail);(with_reducible refine hCT.out.mono ?_);rintro e w4 ⟨rfl,hb4⟩;have hbw4:=Lib.hid (hbw.out.trans (hb4.mono (by omega)));have hbx4:=Lib.hid ((hb4.block _ hz).trans hbx.out);clear hb4 hbw hbx;go_wp2;go_roundw
      case rel=>exact⟨_,0+1,rfl,by go_num,by omega,hTd',hbw4,hbx4⟩
      case measure=>simp only[intOf];omega
    . have hTd':Hid ((T++⟨#[44]⟩++X).data.toList=91::Br (l.take (k+1)) true):=by
       have:=hTd.out;show _=_;rw[Gh,Gh,<-this,hne hk0];simp
      clear hTd hT hne;have hkp:0<k:=by omega
      go_wp2_with (fail);(with_reducible refine hCT.out.mono ?_);rintro e w4 ⟨rfl,hb4⟩;have hbw4:=Lib.hid (hbw.out.trans (hb4.mono (by omega)));have hbx4:=Lib.hid ((hb4.block _ hz).trans hbx.out);clear hb4 hbw hbx;go_wp2;go_roundw
      case rel=>exact⟨_,k+1,rfl,by go_num,by omega,hTd',hbw4,hbx4⟩
      case measure=>simp only[intOf];omega
  . obtain rfl:k=l.length:=by omega
    have hT':=hT.out;rw[List.take_length]at hT';have hE:(⟨(91::(Br l true++ [93])).toArray⟩:ByteArray)=T++⟨#[93]⟩:=Ab7 (by rw[Gh,hT'];simp);have HE:=Lib.hid hE;clear hE hT hT' hl;go_wp2;go_ret;exact⟨by rw[HE.out];rfl,hbw.out⟩
set_option maxRecDepth 100000 in
theorem Ajr (b:Bool) (n:Int) (t:ByteArray) (l:List (ByteArray×Val)) (IH: ∀m ∈ l,Ae1 m.2) (la oa:Option Addr) (oc lc:Nat) (w:World) (d:Int) (hl:l= []\/ ∃g off,oa=some ⟨g,off,none⟩/\g<w.heap.size/\A5 w w.heap.size l g off)
 (hb:Av l<=100000000) (last:Option ByteArray) (hm:Ds l last d=0) (hi:Jf l) (hlen:(By l true).length<=700000000):
 Calls Tryz.prog 15 #[.agg #[.int .i64 6,.bool b,.int .i64 n,.string t,.slice la 0 lc,.slice oa l.length oc]] w fun e w'=>e=.returned (.string ⟨(123::(By l true++ [125])).toArray⟩)/\Below w.heap.size w w':=by
 have hln:=Dj l;have H0:Hid ((⟨#[123]⟩:ByteArray).data.toList=123::By (l.take 0) true):=by show _=_;simp[By]
 have HI:=Lib.hid IH;have HM:=Lib.hid (Jr hm);have Hi:=Lib.hid (fun x hx=>Uo hi (x:=x) hx);clear IH hm hi;go_enter Tryz.func15,Tryz.ntmps15;go_wp2_with (fail);have hb1:Below w.heap.size w (w.alloc (.cells #[.int .i64 6,.bool b,.int .i64 n,.string t,.slice la 0 lc,.slice oa l.length oc] 27)):=(Below.refl _ _).alloc (Nat.le_refl _) _;have hbx1:(w.alloc (.cells #[.int .i64 6,.bool b,.int .i64 n,.string t,.slice la 0 lc,.slice oa l.length oc] 27)).heap[w.heap.size]? =some (.cells #[.int .i64 6,.bool b,.int .i64 n,.string t,.slice la 0 lc,.slice oa l.length oc] 27 (0,0)):=heap_alloc_new _ _;obtain⟨HB1,HX1⟩:=hid2 hb1 hbx1;clear hb1 hbx1;go_loopw [7,8] (fun o i wr=> ∃(T:ByteArray) (k:Nat),o=.string T/\i=.int .i64 k/\k<=l.length/\Hid (T.data.toList=123::By (l.take k) true)/\Hid (Below w.heap.size w wr)/\Hid (wr.heap[w.heap.size]? =some (.cells #[.int .i64 6,.bool b,.int .i64 n,.string t,.slice la 0 lc,.slice oa l.length oc] 27 (0,0)))) (fun _ i _=>l.length - (intOf i).toNat)
 case atStart=>exact⟨_,0,rfl,rfl,Nat.zero_le _,H0,HB1,HX1⟩
 case round=>
  obtain⟨T,k,rfl,rfl,hk,hT,hbw,hbx⟩:=hrel;clear H0 HB1 HX1;have hTs:T.size<=700000001:=by
   have h1:=congrArg List.length hT.out;have h2:=Pd l k true;have h3:=Nh T;simp only[List.length_cons]at h1;omega
  have b4:wr.cell? ⟨w.heap.size,5,none⟩=some (.slice oa l.length oc):=by rw[Lib.cell_of_heap hbx.out];rfl
  have hz:w.heap.size<wr.heap.size:=(Array.getElem?_eq_some_iff.1 hbx.out).1;by_cases hlt:k<l.length
  . obtain⟨g,off,rfl,hg,hL⟩: ∃g off,oa=some ⟨g,off,none⟩/\g<w.heap.size/\A5 w w.heap.size l g off:=by
     rcases hl with rfl|h
     . simp at hlt
     . exact h
    obtain⟨⟨key,x⟩,hx⟩: ∃v,l[k]? =some v:=⟨_,List.getElem?_eq_getElem hlt⟩;have hmem:(key,x) ∈ l:=List.mem_of_getElem? hx;obtain⟨hkv,hmx⟩:=HM.out _ hmem;have hix:=Hi.out _ hmem;have hbv:=Ef hmem;simp only at hkv hmx hix hbv;have htk:l.take (k+1)=l.take k++ [(key,x)]:=by rw[List.take_add_one,hx];rfl
    have hsn:=Qz (key,x) (l.take k) true;rw[<-htk]at hsn;simp only[J1]at hsn;have hXl:(Ak x).length<=700000000/\(Bp key).length<=700000000:=by
     have h1:=congrArg List.length hsn;have h2:=Pd l (k+1) true;simp only[List.length_append,List.length_cons]at h1;omega
    have IHx:=HI.out _ hmem;obtain⟨X,hX⟩: ∃X:ByteArray,(⟨(Ak x).toArray⟩:ByteArray)=X:=⟨_,rfl⟩;have hXs:X.size<=700000000:=by rw[<-hX,Py];exact hXl.1
    have hXd:X.data.toList=Ak x:=by rw[<-hX]
    obtain⟨Q,hQ⟩: ∃Q:ByteArray,(⟨(Bp key).toArray⟩:ByteArray)=Q:=⟨_,rfl⟩;have hQs:Q.size<=700000000:=by rw[<-hQ,Py];exact hXl.2
    have hQd:Q.data.toList=Bp key:=by rw[<-hQ]
    have c0:=((hL.below hg hbw.out).at_ hx).1;simp only at c0;have CQ:=Q6 key wr (by omega) hkv;rw[hQ]at CQ;have hTd:Hid (T.data.toList++((if true&&(l.take k).isEmpty then []else [44])++(Q.data.toList++(58::X.data.toList)))=123::By (l.take (k+1)) true):=by
     show _=_;rw[hsn,hT.out,hXd,hQd];rfl
    have hCT:Hid (∀w',Below w.heap.size w w'-> ∀(k':Int) (b':Bool) (n':Int) (t':ByteArray) (l':List Val) (o':List (ByteArray×Val)) (la' oa':Option Addr) (lc' oc':Nat),x=.mk k' b' n' t' l' o'->Ab w' w.heap.size x (Fu k' b' n' t' la' l'.length lc' oa' o'.length oc')->
     Calls Tryz.prog 15 #[.agg #[.int .i64 k',.bool b',.int .i64 n',.string t',.slice la' l'.length lc',.slice oa' o'.length oc']] w' fun e w''=>e=.returned (.string X)/\Below w'.heap.size w' w''):=by
     intro w' hw' k' b' n' t' l' o' la' oa' lc' oc' _ hvs;have:=IHx _ w' d (Ab.more hw'.size _ _ hvs) (show x.bulk<=100000000 from by omega) hmx hix;rw[hX]at this;exact this
    have hCQ:=Lib.hid CQ;have HL:Hid (∀w',Below w.heap.size w w'->A5 w' w.heap.size l g off):=fun w' h=>hL.below hg h;have HXx:=Lib.hid hx;clear CQ hX hXd hQ hQd hXl hsn htk hmx hix hbv hmem hx hL hg IHx hkv;have hne:k≠0->(l.take k).isEmpty=false:=by
     intro h;rw[List.isEmpty_eq_false_iff];intro e;have:=congrArg List.length e;rw[List.length_take,List.length_nil]at this;omega
    obtain⟨k',b',n',t',l',o'⟩:=x;by_cases hk0:k=0
    . subst hk0;simp only[Nat.zero_mul,Nat.add_zero]at c0;have hTd':Hid ((T++Q++⟨#[58]⟩++X).data.toList=123::By (l.take (0+1)) true):=by
       have:=hTd.out;show _=_;rw[Gh,Gh,Gh,<-this];simp
      clear hTd hT hne;go_wp2_with (fail);(with_reducible refine hCQ.out.mono ?_);rintro e w4 ⟨rfl,hb4⟩;have hbw4:=Lib.hid (hbw.out.trans (hb4.mono (by omega)));have hbx4:=Lib.hid ((hb4.block _ hz).trans hbx.out);have hz4:w.heap.size<w4.heap.size:=(Array.getElem?_eq_some_iff.1 hbx4.out).1;have b4':w4.cell? ⟨w.heap.size,5,none⟩=some (.slice (some ⟨g,off,none⟩) l.length oc):=by rw[Lib.cell_of_heap hbx4.out];rfl
      obtain⟨la',lc',oa',oc',hvs,_,e1,e2,e3,e4,e5,e6⟩:=(HL.out _ hbw4.out).seven HXx.out;simp only[Nat.zero_mul,Nat.add_zero]at e1 e2 e3 e4 e5 e6;have hCT4:=Lib.hid (hCT.out _ hbw4.out _ _ _ _ _ _ la' oa' lc' oc' rfl hvs);clear hb4 hbw hbx b4 c0 hvs hCT HL HXx hCQ;go_wp2_with (fail);(with_reducible refine hCT4.out.mono ?_);rintro e w5 ⟨rfl,hb5⟩;have hbw5:=Lib.hid (hbw4.out.trans (hb5.mono (by omega)));have hbx5:=Lib.hid ((hb5.block _ hz4).trans hbx4.out);clear hb5 hbw4 hbx4 hCT4;go_wp2;go_roundw
      case rel=>exact⟨_,0+1,rfl,by go_num,by omega,hTd',hbw5,hbx5⟩
      case measure=>simp only[intOf];omega
    . have hTd':Hid ((T++⟨#[44]⟩++Q++⟨#[58]⟩++X).data.toList=123::By (l.take (k+1)) true):=by
       have:=hTd.out;show _=_;rw[Gh,Gh,Gh,Gh,<-this,hne hk0];simp
      clear hTd hT hne;have hkp:0<k:=by omega
      go_wp2_with (fail);(with_reducible refine hCQ.out.mono ?_);rintro e w4 ⟨rfl,hb4⟩;have hbw4:=Lib.hid (hbw.out.trans (hb4.mono (by omega)));have hbx4:=Lib.hid ((hb4.block _ hz).trans hbx.out);have hz4:w.heap.size<w4.heap.size:=(Array.getElem?_eq_some_iff.1 hbx4.out).1;have b4':w4.cell? ⟨w.heap.size,5,none⟩=some (.slice (some ⟨g,off,none⟩) l.length oc):=by rw[Lib.cell_of_heap hbx4.out];rfl
      obtain⟨la',lc',oa',oc',hvs,_,e1,e2,e3,e4,e5,e6⟩:=(HL.out _ hbw4.out).seven HXx.out;have hCT4:=Lib.hid (hCT.out _ hbw4.out _ _ _ _ _ _ la' oa' lc' oc' rfl hvs);clear hb4 hbw hbx b4 c0 hvs hCT HL HXx hCQ;go_wp2_with (fail);(with_reducible refine hCT4.out.mono ?_);rintro e w5 ⟨rfl,hb5⟩;have hbw5:=Lib.hid (hbw4.out.trans (hb5.mono (by omega)));have hbx5:=Lib.hid ((hb5.block _ hz4).trans hbx4.out);clear hb5 hbw4 hbx4 hCT4;go_wp2;go_roundw
      case rel=>exact⟨_,k+1,rfl,by go_num,by omega,hTd',hbw5,hbx5⟩
      case measure=>simp only[intOf];omega
  . obtain rfl:k=l.length:=by omega
    have hT':=hT.out;rw[List.take_length]at hT';have hE:(⟨(123::(By l true++ [125])).toArray⟩:ByteArray)=T++⟨#[125]⟩:=Ab7 (by rw[Gh,hT'];simp);have HE:=Lib.hid hE;clear hE hT hT' hl;go_wp2;go_ret;exact⟨by rw[HE.out];rfl,hbw.out⟩
set_option maxRecDepth 100000 in
theorem Ad9 (k:Int) (b:Bool) (n:Int) (t:ByteArray) (l:List Val) (o:List (ByteArray×Val)) (la oa:Option Addr) (oc lc:Nat) (w:World) (h5:k≠5) (h6:k≠6) (hk:k=1\/k=2\/k=3\/k=4) (hs:t.size<=1000000000) (hv:Aw t=true)
 (h1: -9223372036854775808<=n) (h2:n<=9223372036854775807):
 Calls Tryz.prog 15 #[.agg #[.int .i64 k,.bool b,.int .i64 n,.string t,.slice la l.length lc,.slice oa o.length oc]] w fun e w'=>e=.returned (.string ⟨(Ak (.mk k b n t l o)).toArray⟩)/\Below w.heap.size w w':=by
 simp only[Ak];rcases hk with rfl|rfl|rfl|rfl
 . rw[if_neg (by decide),if_neg (by decide),if_neg (by decide),if_neg (by decide),if_neg (by decide)];go_enter Tryz.func15,Tryz.ntmps15;go_wp2;go_ret;exact⟨rfl,(Below.refl _ _).alloc (Nat.le_refl _) _⟩
 . rw[if_pos rfl]
   cases b
   . go_enter Tryz.func15,Tryz.ntmps15;go_wp2;go_ret;exact⟨rfl,(Below.refl _ _).alloc (Nat.le_refl _) _⟩
   . go_enter Tryz.func15,Tryz.ntmps15;go_wp2;go_ret;exact⟨rfl,(Below.refl _ _).alloc (Nat.le_refl _) _⟩
 . rw[if_neg (by decide),if_pos rfl];have cD:=fun w=>Lib.hid (Aan n h1 h2 w);have HD:=Lib.hid cD;clear cD;go_enter Tryz.func15,Tryz.ntmps15;go_wp2_with (fail);(with_reducible refine(HD.out _).out.mono ?_);rintro e w' ⟨rfl,rfl⟩;go_wp2;go_ret;exact⟨rfl,(Below.refl _ _).alloc (Nat.le_refl _) _⟩
 . rw[if_neg (by decide),if_neg (by decide),if_pos rfl];have cD:=fun w=>Lib.hid (Q6 t w hs hv);have HD:=Lib.hid cD;clear cD;go_enter Tryz.func15,Tryz.ntmps15;go_wp2_with (fail);(with_reducible refine(HD.out _).out.mono ?_);rintro e w' ⟨rfl,hb⟩;go_wp2;go_ret;exact⟨rfl,((Below.refl _ _).alloc (Nat.le_refl _) _).trans (hb.mono (by simp))⟩
theorem Ts: ∀v,Ae1 v:=by
 refine Val.ind ?_;intro k b n t l o IHl IHo cs w d hV hb hm hi;have hok:=V3 _ d hm hi;have hlen:=Lw _ hok;obtain⟨hodd,_,hvt,hmL,hmO⟩:=Bv hm;simp only[Ab]at hV;obtain⟨la,lc,oa,oc,rfl,hla,hoa⟩:=hV;simp only[Jg]at hi;simp only[Val.bulk]at hb hlen;by_cases h5:k=5
 . subst h5;have ho:o= []:=by
    have:o.length=0:=by
     unfold Fy at hodd;simp at hodd;simp[hodd]
    exact List.length_eq_zero_iff.1 this
   subst ho;have ht:Ak (.mk 5 b n t l [])=91::(Br l true++ [93]):=by simp[Ak]
   rw[ht]at hlen ⊢;simp only[List.length_cons,List.length_append,List.length_nil]at hlen;exact Agu b n t l IHl la oa oc lc w (d+1) hla (by omega) hmL hi.2.1 (by omega)
 by_cases h6:k=6
 . subst h6;have hl:l= []:=by
    have:l.length=0:=by
     unfold Fy at hodd;simp at hodd;simp[hodd]
    exact List.length_eq_zero_iff.1 this
   subst hl;have ht:Ak (.mk 6 b n t [] o)=123::(By o true++ [125]):=by simp[Ak]
   rw[ht]at hlen ⊢;simp only[List.length_cons,List.length_append,List.length_nil]at hlen;exact Ajr b n t o IHo la oa oc lc w (d+1) hoa (by omega) none hmO hi.2.2 (by omega)
 have hk:k=1\/k=2\/k=3\/k=4:=by
  unfold Fy at hodd;by_cases a1:k=1
  . exact .inl a1
  by_cases a2:k=2
  . exact .inr (.inl a2)
  by_cases a3:k=3
  . exact .inr (.inr (.inl a3))
  by_cases a4:k=4
  . exact .inr (.inr (.inr a4))
  simp[a1,a2,a3,a4,h5,h6]at hodd
 exact Ad9 k b n t l o la oa oc lc w h5 h6 hk (by omega) hvt hi.1.1 hi.1.2
def Nk (w:World) (g:Nat) (v:Val) (c:List Value) (w':World):Prop:=
 Below w.heap.size w w'/\w'.heap[g]? =some (.cells c.toArray 27 (0,0))/\Cq w'/\Ab w' w'.heap.size v c
theorem Nk.step {w w' w'':World} {g:Nat} {v:Val} {c:List Value} (h:Nk w g v c w') (hb:Below w'.heap.size w' w''):Nk w g v c w'':=by
 obtain⟨h1,h2,h3,h4⟩:=h;exact⟨h1.trans (hb.mono h1.size),(hb.block _ (Array.getElem?_eq_some_iff.1 h2).1).trans h2,h3.below hb,Ab.more hb.size _ _ (h4.below hb)⟩
theorem Nk.start {w:World} {v:Val} {c:List Value} (hT:Cq w) (hV:Ab w w.heap.size v c):Nk w w.heap.size v c (w.alloc (.cells c.toArray 27)):=by
 have hb:Below w.heap.size w (w.alloc (.cells c.toArray 27)):=(Below.refl _ _).alloc (Nat.le_refl _) _;exact⟨hb,heap_alloc_new _ _,hT.below hb,Ab.more hb.size _ _ (hV.below hb)⟩
theorem Nk.cells {w w':World} {g:Nat} {v:Val} {k:Int} {b:Bool} {n:Int} {t:ByteArray} {x y:Value} (h:Nk w g v [.int .i64 k,.bool b,.int .i64 n,.string t,x,y] w'):
 w'.cell? ⟨g,0,none⟩=some (.int .i64 k)/\w'.cell? ⟨g,1,none⟩=some (.bool b)/\w'.cell? ⟨g,2,none⟩=some (.int .i64 n)/\w'.cell? ⟨g,3,none⟩=some (.string t)/\w'.cell? ⟨g,4,none⟩=some x/\w'.cell? ⟨g,5,none⟩=some y:=
 Sf h.2.1
theorem Nk.tabs {w w':World} {g:Nat} {v:Val} {c:List Value} (h:Nk w g v c w'):Cq w':=h.2.2.1
theorem Nk.below {w w':World} {g:Nat} {v:Val} {c:List Value} (h:Nk w g v c w'):Below w.heap.size w w':=h.1
set_option maxRecDepth 100000 in
theorem Mm (k:Int) (b:Bool) (n:Int) (t:ByteArray) (la oa:Option Addr) (ln lc on oc:Nat) (B:Bool) (w:World) (h:H8 k b n t ln on=B):
 Calls Tryz.prog 159 #[.agg #[.int .i64 k,.bool b,.int .i64 n,.string t,.slice la ln lc,.slice oa on oc]] w fun e w'=>e=.returned (.bool B)/\Below w.heap.size w w':=by
 have fin: ∀X:Bool,X=H8 k b n t ln on->Ending.returned (.bool X)=.returned (.bool B):=fun X hX=>by rw[hX,h]
 have Fin:=Lib.hid fin;clear fin h;go_enter Tryz.func159,Tryz.ntmps159;go_wp2
 all_goals(go_ret;refine⟨Fin.out _ ?_,Aa _ _⟩;simp_all[H8,Akr])
def Xg (c:Int):Ending:=if c=0 then .returned (.tuple #[])else .panicked [{v:=.iface 137 (.agg #[.int .i64 c]),recovered:=false}]
theorem M7:Xg 0=.returned (.tuple #[]):=rfl
theorem Es {c:Int} (h:c≠0):Xg c=.panicked [{v:=.iface 137 (.agg #[.int .i64 c]),recovered:=false}]:=by unfold Xg;rw[if_neg h]
theorem D9 (c:Int) (w:World):Calls Tryz.prog 71 #[.bool true,.int .i64 c] w fun e w'=>e=.returned (.tuple #[])/\w'=w:=by
 go_enter Tryz.func71,Tryz.ntmps71;go_wp2
 go_end0
 exact⟨rfl,rfl⟩
theorem Ju (c:Int) (w:World):Calls Tryz.prog 71 #[.bool false,.int .i64 c] w fun e w'=>e=.panicked [{v:=.iface 137 (.agg #[.int .i64 c]),recovered:=false}]/\w'=w:=by
 go_enter Tryz.func71,Tryz.ntmps71;go_wp2;exact⟨rfl,rfl,rfl⟩
theorem Adv (w:World):Calls Tryz.prog 103 #[.int .i64 0] w fun e w'=>e=.returned (.tuple #[])/\w'=w:=by
 have h:=fun W=>D9 0 W;go_enter Tryz.func103,Tryz.ntmps103;go_wp2_with (go_at_call 71;(with_reducible refine(h _).mono ?_);rintro e w1 ⟨rfl,rfl⟩)
 go_end0
 exact⟨rfl,rfl⟩
theorem Ahx (c:Int) (hc:c≠0) (w:World):Calls Tryz.prog 103 #[.int .i64 c] w fun e w'=>e=.panicked [{v:=.iface 137 (.agg #[.int .i64 c]),recovered:=false}]/\w'=w:=by
 have h:=fun W=>Ju c W;have t0:(c==0)=false:=by simpa using hc
 go_enter Tryz.func103,Tryz.ntmps103;go_wp2_with (go_at_call 71;(with_reducible refine(h _).mono ?_);rintro e w1 ⟨rfl,rfl⟩);exact⟨rfl,rfl,rfl⟩
def U6 (acc:Nat) (l:List UInt8):Nat:=l.foldl (fun a c=>a*10+(c.toNat - 48)) acc
theorem Aam: ∀(l:List UInt8) (a:Nat),a<=U6 a l
 | [],a=>Nat.le_refl a
 |c::r,a=>by
  have:=Aam r (a*10+(c.toNat - 48));show a<=U6 (a*10+(c.toNat - 48)) r;omega
theorem R5: ∀(l:List UInt8) (acc:Nat),(∀c ∈ l,E3 c=true)->Lib.parseUintM 18446744073709551615 acc l=if 18446744073709551615<U6 acc l/\l≠ []then .range else .ok (U6 acc l)
 | [],acc,_=>by simp[Lib.parseUintM,U6]
 |c::r,acc,h=>by
  have hc:=h c (by simp);unfold E3 at hc;rw[decide_eq_true_iff]at hc;have ih:=R5 r (acc*10+(c.toNat - 48)) (fun x hx=>h x (by simp[hx]));have e:U6 acc (c::r)=U6 (acc*10+(c.toNat - 48)) r:=rfl;have hg:=Aam r (acc*10+(c.toNat - 48));unfold Lib.parseUintM;rw[if_pos hc,e];by_cases h1:1844674407370955162<=acc
  . rw[if_pos h1,if_pos ⟨by omega,by simp⟩]
  . rw[if_neg h1];by_cases h2:18446744073709551615<acc*10+(c.toNat - 48)
    . rw[if_pos h2,if_pos ⟨by omega,by simp⟩]
    . rw[if_neg h2,ih];by_cases hr:r= []
      . subst hr;rw[if_neg (by simp)];have:U6 (acc*10+(c.toNat - 48)) []=acc*10+(c.toNat - 48):=rfl;rw[if_neg (by rw[this];omega)]
      . by_cases h3:18446744073709551615<U6 (acc*10+(c.toNat - 48)) r
        . rw[if_pos ⟨h3,hr⟩,if_pos ⟨h3,by simp⟩]
        . rw[if_neg (fun q=>h3 q.1),if_neg (fun q=>h3 q.1)]
theorem R4 {l:List UInt8} (h: ∀c ∈ l,E3 c=true) (hl:l≠ []):Lib.parseUintB 64 l=if 18446744073709551615<Kd l then .range else .ok (Kd l):=by
 unfold Lib.parseUintB;rw[if_neg hl];have:=R5 l 0 h;have e:U6 0 l=Kd l:=rfl;rw[e]at this;show Lib.parseUintM 18446744073709551615 0 l=_;rw[this];by_cases h3:18446744073709551615<Kd l
 . rw[if_pos ⟨h3,hl⟩,if_pos h3]
 . rw[if_neg (fun q=>h3 q.1),if_neg h3]
theorem Alq {l:List UInt8} (h: ∀c ∈ l,E3 c=true) (hl:l≠ []):Lib.parseIntB 64 l=if 9223372036854775807<Kd l then .range else .ok (Kd l:Int):=by
 obtain⟨c,r,rfl⟩: ∃c r,l=c::r:=by cases l with|nil=>exact absurd rfl hl|cons c r=>exact⟨c,r,rfl⟩
 have hc:=h c (by simp);unfold E3 at hc;rw[decide_eq_true_iff]at hc;unfold Lib.parseIntB;simp only;rw[if_neg (show ¬(c.toNat=43\/c.toNat=45)by omega),R4 h hl];have hn: ¬(c.toNat=45):=by omega
 by_cases h1:18446744073709551615<Kd (c::r)
 . rw[if_pos h1,if_pos (by omega)]
 . rw[if_neg h1];by_cases h2:9223372036854775807<Kd (c::r)
   . simp only[hn,not_false_eq_true,true_and,false_and,if_false];rw[if_pos h2,if_pos (by show 9223372036854775808<=_;omega)]
   . simp only[hn,not_false_eq_true,true_and,false_and,if_false];rw[if_neg h2,if_neg (by show ¬(9223372036854775808<=_);omega)]
theorem Alp {l:List UInt8} (h: ∀c ∈ l,E3 c=true) (hl:l≠ []):Lib.parseIntB 64 (45::l)=if 9223372036854775808<Kd l then .range else .ok (-(Kd l:Int)):=by
 unfold Lib.parseIntB;simp only;rw[if_pos (by decide),R4 h hl];by_cases h1:18446744073709551615<Kd l
 . rw[if_pos h1,if_pos (by omega)]
 . rw[if_neg h1];have hn:(45:UInt8).toNat=45:=by decide
   by_cases h2:9223372036854775808<Kd l
   . simp only[hn,not_true_eq_false,true_and,false_and,if_false];rw[if_pos h2,if_pos (by show 9223372036854775808<_;omega)]
   . simp only[hn,not_true_eq_false,true_and,false_and,if_false,if_true]
theorem Ain (s:List UInt8) (f:Nat): ∀c ∈ (s.drop f).take (Dg s f - f),E3 c=true:=by
 intro c hc;obtain⟨i,hi⟩:=List.mem_iff_getElem?.1 hc;have hlt:i<Dg s f - f:=by
  by_cases h:i<Dg s f - f
  . exact h
  . rw[List.getElem?_take_eq_none (by omega)]at hi;cases hi
 rw[List.getElem?_take_of_lt hlt,List.getElem?_drop]at hi;exact U5 s f (f+i) c (by omega) (by omega) hi
theorem Afi {s:List UInt8} {f e:Nat} {x:UInt8} (hx:s[f]? =some x) (hz: ¬x=48) (hf:f<Dg s f) (he:Dg s f=e):Kd ((s.drop f).take (e - f))≠0:=by
 subst he;have hd:=U5 s f f x (Nat.le_refl _) hf hx;unfold E3 at hd;rw[decide_eq_true_iff]at hd;have hx48:x.toNat≠48:=fun q=>hz (UInt8.toNat_inj.1 q);obtain⟨n,hn⟩: ∃n,Dg s f - f=n+1:=⟨Dg s f - f - 1,by omega⟩;rw[hn,Ks hx,List.take_succ_cons];have h1:=Aam ((s.drop (f+1)).take n) (0*10+(x.toNat - 48));have e:Kd (x::(s.drop (f+1)).take n)=U6 (0*10+(x.toNat - 48)) ((s.drop (f+1)).take n):=rfl;rw[e];omega
end Go.Proofs.YtmglfdckpjegdaaGreatDoor
