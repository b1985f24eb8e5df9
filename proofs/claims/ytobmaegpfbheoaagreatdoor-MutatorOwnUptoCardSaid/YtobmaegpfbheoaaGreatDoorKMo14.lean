/- Parts: parse.reader: comes, word, null, no, yes. Condition: a text of at most 10^9 bytes. -/
import Derived.Test.YtobmaegpfbheoaaGreatDoorKMo12
import Derived.Test.YtobmaegpfbheoaaGreatDoorKMo13
set_option maxHeartbeats 20000000
set_option maxRecDepth 100000
namespace Go.Proofs.YtobmaegpfbheoaaGreatDoor
open Go.RowKit
def Uf (x:List UInt8):Prop:= ∀c y,x=c::y->G6 c=false
def Aah (g:List UInt8):Prop:= ∀c ∈ g,I9 c=true
theorem X9 {s a x:List UInt8} {p:Nat} (h:s.drop p=a++x):s.drop (p+a.length)=x:=by
 rw[<-List.drop_drop,h,List.drop_left]
theorem Afz {s a x:List UInt8} {p:Nat} (h:s.drop p=a++x) (hp:p<=s.length):p+a.length<=s.length:=by
 have:=congrArg List.length h;rw[List.length_drop,List.length_append]at this;omega
theorem Af7 {s x:List UInt8} {p:Nat} {c:UInt8} (h:s.drop p=c::x):s[p]? =some c:=by
 have:=List.getElem?_drop (xs:=s) (i:=p) (j:=0);rw[h]at this;simpa using this.symm
theorem Qx: ∀{g:List UInt8},Aah g-> ∀{s x:List UInt8} {p:Nat},s.drop p=g++x->Ay s p=Ay s (p+g.length)
 | [],_,_,_,_,_=>rfl
 |c::g,hg,s,x,p,h=>by
  rw[Va (Af7 h) (hg c (by simp))];have h2:s.drop (p+1)=g++x:=X9 (a:= [c]) (x:=g++x) (by simpa using h);rw[Qx (fun c hc=>hg c (by simp[hc])) h2,List.length_cons]
  congr 1;omega
theorem Acj {f:Nat} {s:List UInt8} {p p':Nat} {d:Int} (h:Ay s p=Ay s p'):Cf f s p d=Cf f s p' d:=by
 cases f with
 |zero=>unfold Cf;rw[h]
 |succ f=>unfold Cf;rw[h]
def Aao (t:List UInt8) (v:Val) (d:Int):Prop:= ∀f s p x,p<=s.length->s.drop p=t++x->Uf x->4*(s.length - p)+1<=f-> ∃q,Cf f s p d=.ok v q/\Ay s q=Ay s (p+t.length)
theorem Uf.blanks {g x:List UInt8} (hg:Aah g) (hx:Uf x):Uf (g++x):=by
 intro c y h
 cases g with
 |nil=>exact hx c y h
 |cons a g=>
  have:a=c:=(List.cons.inj h).1;subst this;have:=hg a (by simp);unfold I9 at this;simp only[Bool.or_eq_true,beq_iff_eq]at this;rcases this with((rfl|rfl)|rfl)|rfl<;>decide
theorem Uf.nil:Uf []:=by intro c y e;cases e
theorem Aao.ahead {t:List UInt8} {v:Val} {d:Int} (h:Aao t v d) {g:List UInt8} (hg:Aah g):Aao (g++t) v d:=by
 intro f s p x hp hs hx hf;rw[List.append_assoc]at hs;have h1:=Qx hg hs;have h2:=X9 hs;have h3:=Afz hs hp;obtain⟨q,h4,h5⟩:=h f s (p+g.length) x h3 h2 hx (by omega);refine⟨q,by rw[Acj h1];exact h4, ?_⟩;rw[h5,List.length_append]
 congr 1;omega
structure Mem where
 pre:List UInt8
 mid:List UInt8
 txt:List UInt8
 key:ByteArray
 val:Val
def Mem.pair (m:Mem):ByteArray×Val:=(m.key,m.val)
def Aam (v:Val):Prop:= ∀(cs:List Value) (w:World) (d:Int),Ac w w.heap.size v cs->v.bulk<=100000000->Bb v d=0->It v->
    Calls Tryz.prog 31 #[.agg cs.toArray] w fun e w'=>e=.returned (.string ⟨(Cs v).toArray⟩)/\Below w.heap.size w w'
theorem Xz {T:ByteArray} {l:List UInt8} (h:T.data.toList=l):(⟨l.toArray⟩:ByteArray)=T:=by
 subst h;rfl
theorem Fh (a b:ByteArray):(a++b).data.toList=a.data.toList++b.data.toList:=by
 rw[ByteArray.data_append,Array.toList_append]
theorem Acb (b:Bool) (n:Int) (t:ByteArray) (l:List Val) (IH: ∀v ∈ l,Aam v) (la oa:Option Addr) (oc lc:Nat) (w:World) (d:Int) (hl:l= []\/ ∃g off,la=some ⟨g,off,none⟩/\g<w.heap.size/\Ax w w.heap.size l g off)
 (hb:Ba l<=100000000) (hm:Ds l d=0) (hi:Lc l) (hlen:(Do l true).length<=700000000):
 Calls Tryz.prog 31 #[.agg #[.int .i64 5,.bool b,.int .i64 n,.string t,.slice la l.length lc,.slice oa 0 oc]] w fun e w'=>e=.returned (.string ⟨(91::(Do l true++ [93])).toArray⟩)/\Below w.heap.size w w':=by
 have hln:=Dx l;have H0:Hid ((⟨#[91]⟩:ByteArray).data.toList=91::Do (l.take 0) true):=by show _=_;simp[Do]
 have HI:=qz IH;have HM:=qz (Sm hm);have Hi:=qz (fun x hx=>Ah4 hi (x:=x) hx);clear IH hm hi;go_enter Tryz.func31,Tryz.ntmps31;go_wp2_with (fail);have HB1:Hid (Below w.heap.size w (w.alloc (.cells #[.int .i64 5,.bool b,.int .i64 n,.string t,.slice la l.length lc,.slice oa 0 oc] 42))):=(Below.refl _ _).alloc (Nat.le_refl _) _;have HX1:Hid ((w.alloc (.cells #[.int .i64 5,.bool b,.int .i64 n,.string t,.slice la l.length lc,.slice oa 0 oc] 42)).heap[w.heap.size]? =some (.cells #[.int .i64 5,.bool b,.int .i64 n,.string t,.slice la l.length lc,.slice oa 0 oc] 42 (0,0))):=heap_alloc_new _ _;go_loopw [5,6] (fun o i wr=> ∃(T:ByteArray) (k:Nat),o=.string T/\i=.int .i64 k/\k<=l.length/\Hid (T.data.toList=91::Do (l.take k) true)/\Hid (Below w.heap.size w wr)/\Hid (wr.heap[w.heap.size]? =some (.cells #[.int .i64 5,.bool b,.int .i64 n,.string t,.slice la l.length lc,.slice oa 0 oc] 42 (0,0)))) (fun _ i _=>l.length - (intOf i).toNat)
 case atStart=>exact⟨_,0,rfl,rfl,Nat.zero_le _,H0,HB1,HX1⟩
 case round=>
  obtain⟨T,k,rfl,rfl,hk,hT,hbw,hbx⟩:=hrel;clear H0 HB1 HX1;have hTs:T.size<=700000001:=by
   have h1:=congrArg List.length hT.out;have h2:=Mr l k true;have h3:=Vh T;simp only[List.length_cons]at h1;omega
  have b4:wr.cell? ⟨w.heap.size,4,none⟩=some (.slice la l.length lc):=by rw[Lib.cell_of_heap hbx.out];rfl
  have hz:w.heap.size<wr.heap.size:=(Array.getElem?_eq_some_iff.1 hbx.out).1;by_cases hlt:k<l.length
  . obtain⟨g,off,rfl,hg,hL⟩: ∃g off,la=some ⟨g,off,none⟩/\g<w.heap.size/\Ax w w.heap.size l g off:=by
     rcases hl with rfl|h
     . simp at hlt
     . exact h
    obtain⟨x,hx⟩: ∃v,l[k]? =some v:=⟨_,List.getElem?_eq_getElem hlt⟩;have hmem:x ∈ l:=List.mem_of_getElem? hx;have hmx:=HM.out x hmem;have hix:=Hi.out x hmem;have hbv:=Ew hmem;have htk:l.take (k+1)=l.take k++ [x]:=by rw[List.take_add_one,hx];rfl
    have hsn:=Oh x (l.take k) true;rw[<-htk]at hsn;have hXl:(Cs x).length<=700000000:=by
     have h1:=congrArg List.length hsn;have h2:=Mr l (k+1) true;simp only[List.length_append]at h1;omega
    have IHx:=HI.out x hmem;obtain⟨X,hX⟩: ∃X:ByteArray,(⟨(Cs x).toArray⟩:ByteArray)=X:=⟨_,rfl⟩;have hXs:X.size<=700000000:=by rw[<-hX,Nk];exact hXl
    have hXd:X.data.toList=Cs x:=by rw[<-hX]
    obtain⟨k',b',n',t',l',o'⟩:=x;obtain⟨la',lc',oa',oc',hvs,c0,c1,c2,c3,c4,c5⟩:=(hL.below hg hbw.out).six hx;have CT:=IHx _ wr d (Ac.more (by omega) _ _ hvs) (by omega) hmx hix;rw[hX]at CT;have hTd:Hid (T.data.toList++((if true&&(l.take k).isEmpty then []else [44])++X.data.toList)=91::Do (l.take (k+1)) true):=by
     show _=_;rw[hsn,hT.out,hXd];rfl
    have hCT:=qz CT;clear CT hX hXd hXl hsn htk hmx hix hbv hmem hx hL hg IHx hvs;have hne:k≠0->(l.take k).isEmpty=false:=by
     intro h;rw[List.isEmpty_eq_false_iff];intro e;have:=congrArg List.length e;rw[List.length_take,List.length_nil]at this;omega
    by_cases hk0:k=0
    . subst hk0;simp only[Nat.zero_mul,Nat.add_zero]at c0 c1 c2 c3 c4 c5;have hTd':Hid ((T++X).data.toList=91::Do (l.take (0+1)) true):=by
       have:=hTd.out;show _=_;rw[Fh,<-this];simp
      clear hTd hT hne;go_wp2_with (fail);(with_reducible refine hCT.out.mono ?_);rintro e w4 ⟨rfl,hb4⟩;have hbw4:=qz (hbw.out.trans (hb4.mono (by omega)));have hbx4:=qz ((hb4.block _ hz).trans hbx.out);clear hb4 hbw hbx;go_wp2;go_roundw
      case rel=>exact⟨_,0+1,rfl,by go_num,by omega,hTd',hbw4,hbx4⟩
      case measure=>simp only[intOf];omega
    . have hTd':Hid ((T++⟨#[44]⟩++X).data.toList=91::Do (l.take (k+1)) true):=by
       have:=hTd.out;show _=_;rw[Fh,Fh,<-this,hne hk0];simp
      clear hTd hT hne;have hkp:0<k:=by omega
      go_wp2_with (fail);(with_reducible refine hCT.out.mono ?_);rintro e w4 ⟨rfl,hb4⟩;have hbw4:=qz (hbw.out.trans (hb4.mono (by omega)));have hbx4:=qz ((hb4.block _ hz).trans hbx.out);clear hb4 hbw hbx;go_wp2;go_roundw
      case rel=>exact⟨_,k+1,rfl,by go_num,by omega,hTd',hbw4,hbx4⟩
      case measure=>simp only[intOf];omega
  . obtain rfl:k=l.length:=by omega
    have hT':=hT.out;rw[List.take_length]at hT';have HE:Hid ((⟨(91::(Do l true++ [93])).toArray⟩:ByteArray)=T++⟨#[93]⟩):=Xz (by rw[Fh,hT'];simp);clear hT hT' hl;go_wp2;go_ret;exact⟨by rw[HE.out];rfl,hbw.out⟩
theorem Aem (b:Bool) (n:Int) (t:ByteArray) (l:List (ByteArray×Val)) (IH: ∀m ∈ l,Aam m.2) (la oa:Option Addr) (oc lc:Nat) (w:World) (d:Int) (hl:l= []\/ ∃g off,oa=some ⟨g,off,none⟩/\g<w.heap.size/\A4 w w.heap.size l g off)
 (hb:Au l<=100000000) (last:Option ByteArray) (hm:C5 l last d=0) (hi:Hh l) (hlen:(Dp l true).length<=700000000):
 Calls Tryz.prog 31 #[.agg #[.int .i64 6,.bool b,.int .i64 n,.string t,.slice la 0 lc,.slice oa l.length oc]] w fun e w'=>e=.returned (.string ⟨(123::(Dp l true++ [125])).toArray⟩)/\Below w.heap.size w w':=by
 have hln:=C3 l;have H0:Hid ((⟨#[123]⟩:ByteArray).data.toList=123::Dp (l.take 0) true):=by show _=_;simp[Dp]
 have HI:=qz IH;have HM:=qz (So hm);have Hi:=qz (fun x hx=>Wg hi (x:=x) hx);clear IH hm hi;go_enter Tryz.func31,Tryz.ntmps31;go_wp2_with (fail);have HB1:Hid (Below w.heap.size w (w.alloc (.cells #[.int .i64 6,.bool b,.int .i64 n,.string t,.slice la 0 lc,.slice oa l.length oc] 42))):=(Below.refl _ _).alloc (Nat.le_refl _) _;have HX1:Hid ((w.alloc (.cells #[.int .i64 6,.bool b,.int .i64 n,.string t,.slice la 0 lc,.slice oa l.length oc] 42)).heap[w.heap.size]? =some (.cells #[.int .i64 6,.bool b,.int .i64 n,.string t,.slice la 0 lc,.slice oa l.length oc] 42 (0,0))):=heap_alloc_new _ _;go_loopw [7,8] (fun o i wr=> ∃(T:ByteArray) (k:Nat),o=.string T/\i=.int .i64 k/\k<=l.length/\Hid (T.data.toList=123::Dp (l.take k) true)/\Hid (Below w.heap.size w wr)/\Hid (wr.heap[w.heap.size]? =some (.cells #[.int .i64 6,.bool b,.int .i64 n,.string t,.slice la 0 lc,.slice oa l.length oc] 42 (0,0)))) (fun _ i _=>l.length - (intOf i).toNat)
 case atStart=>exact⟨_,0,rfl,rfl,Nat.zero_le _,H0,HB1,HX1⟩
 case round=>
  obtain⟨T,k,rfl,rfl,hk,hT,hbw,hbx⟩:=hrel;clear H0 HB1 HX1;have hTs:T.size<=700000001:=by
   have h1:=congrArg List.length hT.out;have h2:=Ms l k true;have h3:=Vh T;simp only[List.length_cons]at h1;omega
  have b4:wr.cell? ⟨w.heap.size,5,none⟩=some (.slice oa l.length oc):=by rw[Lib.cell_of_heap hbx.out];rfl
  have hz:w.heap.size<wr.heap.size:=(Array.getElem?_eq_some_iff.1 hbx.out).1;by_cases hlt:k<l.length
  . obtain⟨g,off,rfl,hg,hL⟩: ∃g off,oa=some ⟨g,off,none⟩/\g<w.heap.size/\A4 w w.heap.size l g off:=by
     rcases hl with rfl|h
     . simp at hlt
     . exact h
    obtain⟨⟨key,x⟩,hx⟩: ∃v,l[k]? =some v:=⟨_,List.getElem?_eq_getElem hlt⟩;have hmem:(key,x) ∈ l:=List.mem_of_getElem? hx;obtain⟨hkv,hmx⟩:=HM.out _ hmem;have hix:=Hi.out _ hmem;have hbv:=Ef hmem;simp only at hkv hmx hix hbv;have htk:l.take (k+1)=l.take k++ [(key,x)]:=by rw[List.take_add_one,hx];rfl
    have hsn:=Oi (key,x) (l.take k) true;rw[<-htk]at hsn;simp only[Zz]at hsn;have hXl:(Cs x).length<=700000000/\(Ed key).length<=700000000:=by
     have h1:=congrArg List.length hsn;have h2:=Ms l (k+1) true;simp only[List.length_append,List.length_cons]at h1;omega
    have IHx:=HI.out _ hmem;obtain⟨X,hX⟩: ∃X:ByteArray,(⟨(Cs x).toArray⟩:ByteArray)=X:=⟨_,rfl⟩;have hXs:X.size<=700000000:=by rw[<-hX,Nk];exact hXl.1
    have hXd:X.data.toList=Cs x:=by rw[<-hX]
    obtain⟨Q,hQ⟩: ∃Q:ByteArray,(⟨(Ed key).toArray⟩:ByteArray)=Q:=⟨_,rfl⟩;have hQs:Q.size<=700000000:=by rw[<-hQ,Nk];exact hXl.2
    have hQd:Q.data.toList=Ed key:=by rw[<-hQ]
    have c0:=((hL.below hg hbw.out).at_ hx).1;simp only at c0;have CQ:=Oo key wr (by omega) hkv;rw[hQ]at CQ;have hTd:Hid (T.data.toList++((if true&&(l.take k).isEmpty then []else [44])++(Q.data.toList++(58::X.data.toList)))=123::Dp (l.take (k+1)) true):=by
     show _=_;rw[hsn,hT.out,hXd,hQd];rfl
    have hCT:Hid (∀w',Below w.heap.size w w'-> ∀(k':Int) (b':Bool) (n':Int) (t':ByteArray) (l':List Val) (o':List (ByteArray×Val)) (la' oa':Option Addr) (lc' oc':Nat),x=.mk k' b' n' t' l' o'->Ac w' w.heap.size x (Fb k' b' n' t' la' l'.length lc' oa' o'.length oc')->
     Calls Tryz.prog 31 #[.agg #[.int .i64 k',.bool b',.int .i64 n',.string t',.slice la' l'.length lc',.slice oa' o'.length oc']] w' fun e w''=>e=.returned (.string X)/\Below w'.heap.size w' w''):=by
     intro w' hw' k' b' n' t' l' o' la' oa' lc' oc' _ hvs;have:=IHx _ w' d (Ac.more hw'.size _ _ hvs) (show x.bulk<=100000000 from by omega) hmx hix;rw[hX]at this;exact this
    have hCQ:=qz CQ;have HL:Hid (∀w',Below w.heap.size w w'->A4 w' w.heap.size l g off):=fun w' h=>hL.below hg h;have HXx:=qz hx;clear CQ hX hXd hQ hQd hXl hsn htk hmx hix hbv hmem hx hL hg IHx hkv;have hne:k≠0->(l.take k).isEmpty=false:=by
     intro h;rw[List.isEmpty_eq_false_iff];intro e;have:=congrArg List.length e;rw[List.length_take,List.length_nil]at this;omega
    obtain⟨k',b',n',t',l',o'⟩:=x;by_cases hk0:k=0
    . subst hk0;simp only[Nat.zero_mul,Nat.add_zero]at c0;have hTd':Hid ((T++Q++⟨#[58]⟩++X).data.toList=123::Dp (l.take (0+1)) true):=by
       have:=hTd.out;show _=_;rw[Fh,Fh,Fh,<-this];simp
      clear hTd hT hne;go_wp2_with (fail);(with_reducible refine hCQ.out.mono ?_);rintro e w4 ⟨rfl,hb4⟩;have hbw4:=qz (hbw.out.trans (hb4.mono (by omega)));have hbx4:=qz ((hb4.block _ hz).trans hbx.out);have hz4:w.heap.size<w4.heap.size:=(Array.getElem?_eq_some_iff.1 hbx4.out).1;have b4':w4.cell? ⟨w.heap.size,5,none⟩=some (.slice (some ⟨g,off,none⟩) l.length oc):=by rw[Lib.cell_of_heap hbx4.out];rfl
      obtain⟨la',lc',oa',oc',hvs,_,e1,e2,e3,e4,e5,e6⟩:=(HL.out _ hbw4.out).seven HXx.out;simp only[Nat.zero_mul,Nat.add_zero]at e1 e2 e3 e4 e5 e6;have hCT4:=qz (hCT.out _ hbw4.out _ _ _ _ _ _ la' oa' lc' oc' rfl hvs);clear hb4 hbw hbx b4 c0 hvs hCT HL HXx hCQ;go_wp2_with (fail);(with_reducible refine hCT4.out.mono ?_);rintro e w5 ⟨rfl,hb5⟩;have hbw5:=qz (hbw4.out.trans (hb5.mono (by omega)));have hbx5:=qz ((hb5.block _ hz4).trans hbx4.out);clear hb5 hbw4 hbx4 hCT4;go_wp2;go_roundw
      case rel=>exact⟨_,0+1,rfl,by go_num,by omega,hTd',hbw5,hbx5⟩
      case measure=>simp only[intOf];omega
    . have hTd':Hid ((T++⟨#[44]⟩++Q++⟨#[58]⟩++X).data.toList=123::Dp (l.take (k+1)) true):=by
       have:=hTd.out;show _=_;rw[Fh,Fh,Fh,Fh,<-this,hne hk0];simp
      clear hTd hT hne;have hkp:0<k:=by omega
      go_wp2_with (fail);(with_reducible refine hCQ.out.mono ?_);rintro e w4 ⟨rfl,hb4⟩;have hbw4:=qz (hbw.out.trans (hb4.mono (by omega)));have hbx4:=qz ((hb4.block _ hz).trans hbx.out);have hz4:w.heap.size<w4.heap.size:=(Array.getElem?_eq_some_iff.1 hbx4.out).1;have b4':w4.cell? ⟨w.heap.size,5,none⟩=some (.slice (some ⟨g,off,none⟩) l.length oc):=by rw[Lib.cell_of_heap hbx4.out];rfl
      obtain⟨la',lc',oa',oc',hvs,_,e1,e2,e3,e4,e5,e6⟩:=(HL.out _ hbw4.out).seven HXx.out;have hCT4:=qz (hCT.out _ hbw4.out _ _ _ _ _ _ la' oa' lc' oc' rfl hvs);clear hb4 hbw hbx b4 c0 hvs hCT HL HXx hCQ;go_wp2_with (fail);(with_reducible refine hCT4.out.mono ?_);rintro e w5 ⟨rfl,hb5⟩;have hbw5:=qz (hbw4.out.trans (hb5.mono (by omega)));have hbx5:=qz ((hb5.block _ hz4).trans hbx4.out);clear hb5 hbw4 hbx4 hCT4;go_wp2;go_roundw
      case rel=>exact⟨_,k+1,rfl,by go_num,by omega,hTd',hbw5,hbx5⟩
      case measure=>simp only[intOf];omega
  . obtain rfl:k=l.length:=by omega
    have hT':=hT.out;rw[List.take_length]at hT';have HE:Hid ((⟨(123::(Dp l true++ [125])).toArray⟩:ByteArray)=T++⟨#[125]⟩):=Xz (by rw[Fh,hT'];simp);clear hT hT' hl;go_wp2;go_ret;exact⟨by rw[HE.out];rfl,hbw.out⟩
theorem Zr (k:Int) (b:Bool) (n:Int) (t:ByteArray) (l:List Val) (o:List (ByteArray×Val)) (la oa:Option Addr) (oc lc:Nat) (w:World) (h5:k≠5) (h6:k≠6) (hk:k=1\/k=2\/k=3\/k=4) (hs:t.size<=1000000000) (hv:Az t=true)
 (h1: -9223372036854775808<=n) (h2:n<=9223372036854775807):
 Calls Tryz.prog 31 #[.agg #[.int .i64 k,.bool b,.int .i64 n,.string t,.slice la l.length lc,.slice oa o.length oc]] w fun e w'=>e=.returned (.string ⟨(Cs (.mk k b n t l o)).toArray⟩)/\Below w.heap.size w w':=by
 simp only[Cs];rcases hk with rfl|rfl|rfl|rfl
 . rw[if_neg (by decide),if_neg (by decide),if_neg (by decide),if_neg (by decide),if_neg (by decide)];go_enter Tryz.func31,Tryz.ntmps31;go_wp2;go_ret;exact⟨rfl,(Below.refl _ _).alloc (Nat.le_refl _) _⟩
 . rw[if_pos rfl]
   cases b
   . go_enter Tryz.func31,Tryz.ntmps31;go_wp2;go_ret;exact⟨rfl,(Below.refl _ _).alloc (Nat.le_refl _) _⟩
   . go_enter Tryz.func31,Tryz.ntmps31;go_wp2;go_ret;exact⟨rfl,(Below.refl _ _).alloc (Nat.le_refl _) _⟩
 . rw[if_neg (by decide),if_pos rfl];have HD:=qz (fun w=>qz (V9 n h1 h2 w));go_enter Tryz.func31,Tryz.ntmps31;go_wp2_with (fail);(with_reducible refine(HD.out _).out.mono ?_);rintro e w' ⟨rfl,rfl⟩;go_wp2;go_ret;exact⟨rfl,(Below.refl _ _).alloc (Nat.le_refl _) _⟩
 . rw[if_neg (by decide),if_neg (by decide),if_pos rfl];have HD:=qz (fun w=>qz (Oo t w hs hv));go_enter Tryz.func31,Tryz.ntmps31;go_wp2_with (fail);(with_reducible refine(HD.out _).out.mono ?_);rintro e w' ⟨rfl,hb⟩;go_wp2;go_ret;exact⟨rfl,((Below.refl _ _).alloc (Nat.le_refl _) _).trans (hb.mono (by simp))⟩
theorem Zq: ∀v,Aam v:=by
 refine Val.ind ?_;intro k b n t l o IHl IHo cs w d hV hb hm hi;have hok:=Abw _ d hm hi;have hlen:=Lb _ hok;obtain⟨hodd,_,hvt,hmL,hmO⟩:=Gx hm;simp only[Ac]at hV;obtain⟨la,lc,oa,oc,rfl,hla,hoa⟩:=hV;simp only[It]at hi;simp only[Val.bulk]at hb hlen;by_cases h5:k=5
 . subst h5;have ho:o= []:=by
    have:o.length=0:=by
     unfold F8 at hodd;simp at hodd;simp[hodd]
    exact List.length_eq_zero_iff.1 this
   subst ho;have ht:Cs (.mk 5 b n t l [])=91::(Do l true++ [93]):=by simp[Cs]
   rw[ht]at hlen ⊢;simp only[List.length_cons,List.length_append,List.length_nil]at hlen;exact Acb b n t l IHl la oa oc lc w (d+1) hla (by omega) hmL hi.2.1 (by omega)
 by_cases h6:k=6
 . subst h6;have hl:l= []:=by
    have:l.length=0:=by
     unfold F8 at hodd;simp at hodd;simp[hodd]
    exact List.length_eq_zero_iff.1 this
   subst hl;have ht:Cs (.mk 6 b n t [] o)=123::(Dp o true++ [125]):=by simp[Cs]
   rw[ht]at hlen ⊢;simp only[List.length_cons,List.length_append,List.length_nil]at hlen;exact Aem b n t o IHo la oa oc lc w (d+1) hoa (by omega) none hmO hi.2.2 (by omega)
 have hk:k=1\/k=2\/k=3\/k=4:=by
  unfold F8 at hodd;by_cases a1:k=1
  . exact .inl a1
  by_cases a2:k=2
  . exact .inr (.inl a2)
  by_cases a3:k=3
  . exact .inr (.inr (.inl a3))
  by_cases a4:k=4
  . exact .inr (.inr (.inr a4))
  simp[a1,a2,a3,a4,h5,h6]at hodd
 exact Zr k b n t l o la oa oc lc w h5 h6 hk (by omega) hvt hi.1.1 hi.1.2
theorem Jg {k:Int} {b:Bool} {n:Int} {t:ByteArray} {la oa:Option Addr} {ln lc on oc:Nat} {B:Bool} (h:F8 k b n t ln on=B) (w:World):
 Calls Tryz.prog 209 #[.agg #[.int .i64 k,.bool b,.int .i64 n,.string t,.slice la ln lc,.slice oa on oc]] w fun e w'=>e=.returned (.bool (!B))/\Below w.heap.size w w':=by
 subst h;exact Aat _ _ _ _ _ _ _ _ _ _ _
theorem Cj {s:ByteArray} {B:Bool} (h:Az s=B) (w:World) (hs:s.size<=1000000000):
 Calls Tryz.prog 111 #[.string s] w fun e w'=>e=.returned (.bool B)/\w=w':=by
 subst h;exact Oq _ _ hs
def Afa (v:Val):Prop:= ∀(cs:List Value) (d:Int) (w:World),Ac w w.heap.size v cs->v.bulk<=1000000000->0<=d->d<=65->
    Calls Tryz.prog 166 #[.agg cs.toArray,.int .i64 d] w fun e w'=>e=.returned (.int .i64 (Bb v d))/\Below w.heap.size w w'
theorem Ad9 (k:Int) (b:Bool) (n:Int) (t:ByteArray) (l:List Val) (la oa:Option Addr) (lc oc:Nat) (d:Int) (w:World) (g off:Nat) (hla:l= []\/(la=some ⟨g,off,none⟩/\g<w.heap.size/\Ax w w.heap.size l g off))
 (hb:Ba l+t.size<=1000000000) (h0:0<=d) (h64:d<=64) (IH: ∀v ∈ l,Afa v) (hodd:F8 k b n t l.length 0=false) (hval:Az t=true):
 Calls Tryz.prog 166 #[.agg #[.int .i64 k,.bool b,.int .i64 n,.string t,.slice la l.length lc,.slice oa 0 oc],.int .i64 d] w fun e w'=>e=.returned (.int .i64 (Ds l (d+1)))/\Below w.heap.size w w':=by
 have hlen:l.length<=1000000000:=by have:=Dx l;omega
 have h64': ¬(64<d):=by omega
 have H:Hid (Ds (l.drop 0) (d+1)=Ds l (d+1)):=by rw[List.drop_zero];exact rfl
 go_enter Tryz.func166,Tryz.ntmps166;go_wp2_with (first|(go_at_call 209;refine(Jg hodd _).mono ?_;rintro e w1 ⟨rfl,hb1⟩;obtain⟨hc1,hf1⟩:=Hz hb1;have hz1:=hb1.size;simp only[World.size_alloc]at hz1;have hbw1:Below w.heap.size w w1:=((Below.refl _ _).alloc (Nat.le_refl _) _).trans (hb1.mono (by simp));have hbox1:w1.heap[w.heap.size]? =some (.cells #[.int .i64 k,.bool b,.int .i64 n,.string t,.slice la l.length lc,.slice oa 0 oc] 42 (0,0)):=(hb1.block _ (by simp)).trans (heap_alloc_new _ _))|(go_at_call 111;refine(Cj hval _ (by omega)).mono ?_;rintro e w2 ⟨rfl,rfl⟩));clear hb1 hodd hc1 hf1 hz1;go_loopw [5] (fun i wr=> ∃j:Nat,j<=l.length/\i=.int .i64 j/\Hid (Ds (l.drop j) (d+1)=Ds l (d+1))/\Below w.heap.size w wr/\wr.heap[w.heap.size]? =some (.cells #[.int .i64 k,.bool b,.int .i64 n,.string t,.slice la l.length lc,.slice oa 0 oc] 42 (0,0))) (fun i _=>l.length - (intOf i).toNat)
 case atStart=>exact⟨0,Nat.zero_le _,rfl,H,hbw1,hbox1⟩
 case round=>
  obtain⟨j,hj,rfl,hm,hbw,hbox⟩:=hrel;clear H hbw1 hbox1;have hbx:w.heap.size<wr.heap.size:=(Array.getElem?_eq_some_iff.1 hbox).1;have b4:wr.cell? ⟨w.heap.size,4,none⟩=some (.slice la l.length lc):=by rw[Lib.cell_of_heap hbox];rfl
  have b5:wr.cell? ⟨w.heap.size,5,none⟩=some (.slice oa 0 oc):=by rw[Lib.cell_of_heap hbox];rfl
  by_cases hlt:j<l.length
  . obtain⟨rfl,hg,hL⟩:la=some ⟨g,off,none⟩/\g<w.heap.size/\Ax w w.heap.size l g off:=by
     rcases hla with rfl|h
     . simp at hlt
     . exact h
    obtain⟨v,hv⟩: ∃v,l[j]? =some v:=⟨_,List.getElem?_eq_getElem hlt⟩;have hdrop:l.drop j=v::l.drop (j+1):=Dw hv;have hmem:v ∈ l:=List.mem_of_getElem? hv;have hbv:=Ew hmem;have IHv:=qz (IH v hmem);have hm':=hm.out;rw[hdrop]at hm';simp only[Ds]at hm';clear hm hdrop hmem IH;obtain⟨m,hmv⟩: ∃m,Bb v (d+1)=m:=⟨_,rfl⟩;rw[hmv]at hm';have Hmv:=qz hmv;clear hmv;obtain⟨k',b',n',t',l',o'⟩:=v;obtain⟨la',lc',oa',oc',hvs,c0,c1,c2,c3,c4,c5⟩:=(hL.below hg hbw).six hv;clear hla hL hv;have hz:=hbw.size;by_cases hm0:m=0
    . rw[if_pos hm0]at hm';subst hm0;have Hk:=qz hm';clear hm';go_wp2_with (go_at_call 166;refine(IHv.out _ (d+1) _ (Ac.more (by omega) _ _ hvs) (by omega) (by omega) (by omega)).mono ?_;rintro e w2 ⟨he,hb2⟩;rw[Hmv.out]at he;subst he;have hbw2:Below w.heap.size w w2:=hbw.trans (hb2.mono hz);have hbox2:=(hb2.block _ hbx).trans hbox);go_roundw
      case rel=>exact⟨j+1,by omega,by go_num,Hk,hbw2,hbox2⟩
      case measure=>simp[intOf];omega
    . rw[if_neg hm0]at hm';have Hk:=qz hm';clear hm';have hm1:(m==0)=false:=by simpa using hm0
      have hm2:(m != 0)=true:=by simpa using hm0
      go_wp2_with (go_at_call 166;refine(IHv.out _ (d+1) _ (Ac.more (by omega) _ _ hvs) (by omega) (by omega) (by omega)).mono ?_;rintro e w2 ⟨he,hb2⟩;rw[Hmv.out]at he;subst he;have hbw2:Below w.heap.size w w2:=hbw.trans (hb2.mono hz));go_ret;exact⟨by rw[<-Hk.out];rfl,hbw2⟩
  . obtain rfl:j=l.length:=by omega
    have hm':=hm.out;rw[List.drop_length]at hm';have Hm:=qz hm';clear hm hm';go_wp2;go_loopw [8] (fun i wx=>i=.int .i64 0/\wx=wr) (fun _ _=>0)
    case atStart=>exact⟨rfl,rfl⟩
    case round=>
     obtain⟨rfl,rfl⟩:=hrel;go_wp2;go_ret;exact⟨by rw[<-Hm.out];rfl,hbw⟩
theorem Yt (k:Int) (b:Bool) (n:Int) (t:ByteArray) (o:List (ByteArray×Val)) (la oa:Option Addr) (lc oc:Nat) (d:Int) (w:World) (g off:Nat) (hoa:o= []\/(oa=some ⟨g,off,none⟩/\g<w.heap.size/\A4 w w.heap.size o g off))
 (hb:Au o+t.size<=1000000000) (h0:0<=d) (h64:d<=64) (IH: ∀m ∈ o,Afa m.2) (hodd:F8 k b n t 0 o.length=false) (hval:Az t=true):
 Calls Tryz.prog 166 #[.agg #[.int .i64 k,.bool b,.int .i64 n,.string t,.slice la 0 lc,.slice oa o.length oc],.int .i64 d] w fun e w'=>e=.returned (.int .i64 (C5 o none (d+1)))/\Below w.heap.size w w':=by
 have hlen:o.length<=1000000000:=by have:=C3 o;omega
 have h64': ¬(64<d):=by omega
 have H:Hid (C5 (o.drop 0) (Gd o 0) (d+1)=C5 o none (d+1)):=by rw[List.drop_zero];exact rfl
 go_enter Tryz.func166,Tryz.ntmps166;go_wp2_with (first|(go_at_call 209;refine(Jg hodd _).mono ?_;rintro e w1 ⟨rfl,hb1⟩;obtain⟨hc1,hf1⟩:=Hz hb1;have hz1:=hb1.size;simp only[World.size_alloc]at hz1;have hbw1:Below w.heap.size w w1:=((Below.refl _ _).alloc (Nat.le_refl _) _).trans (hb1.mono (by simp));have hbox1:w1.heap[w.heap.size]? =some (.cells #[.int .i64 k,.bool b,.int .i64 n,.string t,.slice la 0 lc,.slice oa o.length oc] 42 (0,0)):=(hb1.block _ (by simp)).trans (heap_alloc_new _ _))|(go_at_call 111;refine(Cj hval _ (by omega)).mono ?_;rintro e w2 ⟨rfl,rfl⟩));clear hb1 hodd hc1 hf1 hz1;go_loopw [5] (fun i wx=>i=.int .i64 0/\wx=w1) (fun _ _=>0)
 case atStart=>exact⟨rfl,rfl⟩
 case round=>
  obtain⟨rfl,rfl⟩:=hrel;have hbx0:w.heap.size<wr.heap.size:=(Array.getElem?_eq_some_iff.1 hbox1).1;have b40:wr.cell? ⟨w.heap.size,4,none⟩=some (.slice la 0 lc):=by rw[Lib.cell_of_heap hbox1];rfl
  go_wp2;clear b40 hbx0
  rename World=>w1
  go_loopw [7,8] (fun q i wr=> ∃j:Nat,∃lk:ByteArray,j<=o.length/\i=.int .i64 j/\q=.string lk/\(0<j->Gd o j=some lk)/\Hid (C5 (o.drop j) (Gd o j) (d+1)=C5 o none (d+1))/\Below w.heap.size w wr/\wr.heap[w.heap.size]? =some (.cells #[.int .i64 k,.bool b,.int .i64 n,.string t,.slice la 0 lc,.slice oa o.length oc] 42 (0,0))) (fun _ i _=>o.length - (intOf i).toNat)
  case atStart=>exact⟨0,ByteArray.empty,Nat.zero_le _,rfl,rfl,fun h=>absurd h (by omega),H,hbw1,hbox1⟩
  case round=>
   obtain⟨j,q,hj,rfl,rfl,hlk,hm,hbw,hbox⟩:=hrel;clear H hbw1 hbox1;have hbx:w.heap.size<wr.heap.size:=(Array.getElem?_eq_some_iff.1 hbox).1;have b5:wr.cell? ⟨w.heap.size,5,none⟩=some (.slice oa o.length oc):=by rw[Lib.cell_of_heap hbox];rfl
   have hz:=hbw.size;by_cases hlt:j<o.length
   . obtain⟨rfl,hg,hL⟩:oa=some ⟨g,off,none⟩/\g<w.heap.size/\A4 w w.heap.size o g off:=by
      rcases hoa with rfl|h
      . simp at hlt
      . exact h
     obtain⟨⟨key,v⟩,hv⟩: ∃v,o[j]? =some v:=⟨_,List.getElem?_eq_getElem hlt⟩;have hdrop:o.drop j=(key,v)::o.drop (j+1):=Dw hv;have hmem:(key,v) ∈ o:=List.mem_of_getElem? hv;have hbv:=Ef hmem;simp only at hbv;have IHv:=qz (IH (key,v) hmem);have hlast:Gd o (j+1)=some key:=by simp[Gd,hv]
     have Hlast:=qz hlast;have hm':=hm.out;rw[hdrop]at hm';simp only[C5,P8,<-hlast]at hm';clear hm hdrop hmem IH hlast;have hLr:=hL.below hg hbw;have hgr:g<wr.heap.size:=by omega
     obtain⟨k',b',n',t',l',o'⟩:=v;obtain⟨la',lc',oa',oc',hvs,c0,c1,c2,c3,c4,c5,c6⟩:=hLr.seven hv;clear hL hLr hv hoa;by_cases hval2:Az key=true
     . rw[hval2]at hm';simp only[if_true]at hm';by_cases hjp:0<j
       . rw[hlk hjp]at hm';simp only at hm';have hgd:decide (0<j)=true:=by simpa using hjp
         clear hlk;by_cases hle:Th key q=true
         . rw[if_pos hle]at hm';unfold Th at hle;have Hm:=qz hm';clear hm';go_wp2_with (go_at_call 111;refine(Cj hval2 _ (by omega)).mono ?_;rintro e wv ⟨rfl,rfl⟩);go_ret;exact⟨by rw[<-Hm.out];rfl,hbw⟩
         . rw[if_neg hle]at hm';have hle':(Op.bytesLess key.toList q.toList||key.toList==q.toList)=false:=by simpa[Th]using hle
           clear hle;obtain⟨m,hmv⟩: ∃m,Bb (.mk k' b' n' t' l' o') (d+1)=m:=⟨_,rfl⟩;rw[hmv]at hm';have Hmv:=qz hmv;clear hmv;by_cases hm0:m=0
           . rw[if_pos hm0]at hm';subst hm0;have Hm:=qz hm';clear hm';go_wp2_with (first|(go_at_call 111;refine(Cj hval2 _ (by omega)).mono ?_;rintro e wv ⟨rfl,rfl⟩)|(go_at_call 166;refine(IHv.out _ (d+1) _ (Ac.more (by omega) _ _ hvs) (by omega) (by omega) (by omega)).mono ?_;rintro e w3 ⟨he,hb3⟩;rw[Hmv.out]at he;subst he;have hbw3:Below w.heap.size w w3:=hbw.trans (hb3.mono hz);have hbox3:=(hb3.block _ hbx).trans hbox));go_roundw
             case rel=>exact⟨j+1,key,by omega,by go_num,rfl,fun _=>Hlast.out,Hm,hbw3,hbox3⟩
             case measure=>simp[intOf];omega
           . rw[if_neg hm0]at hm';have hm1:(m==0)=false:=by simpa using hm0
             have hm2:(m != 0)=true:=by simpa using hm0
             have Hm:=qz hm';clear hm';go_wp2_with (first|(go_at_call 111;refine(Cj hval2 _ (by omega)).mono ?_;rintro e wv ⟨rfl,rfl⟩)|(go_at_call 166;refine(IHv.out _ (d+1) _ (Ac.more (by omega) _ _ hvs) (by omega) (by omega) (by omega)).mono ?_;rintro e w3 ⟨he,hb3⟩;rw[Hmv.out]at he;subst he;have hbw3:Below w.heap.size w w3:=hbw.trans (hb3.mono hz);have hbox3:=(hb3.block _ hbx).trans hbox));go_ret;exact⟨by rw[<-Hm.out];rfl,hbw3⟩
       . have hlk0:Gd o j=none:=by
          obtain rfl:j=0:=by omega
          rfl
         rw[hlk0]at hm';simp only at hm';have hgd:decide (0<j)=false:=by simpa using hjp
         have hk0:j<=0:=by omega
         clear hlk hlk0;obtain⟨m,hmv⟩: ∃m,Bb (.mk k' b' n' t' l' o') (d+1)=m:=⟨_,rfl⟩;rw[hmv]at hm';have Hmv:=qz hmv;clear hmv;by_cases hm0:m=0
         . rw[if_pos hm0]at hm';subst hm0;have Hm:=qz hm';clear hm';go_wp2_with (first|(go_at_call 111;refine(Cj hval2 _ (by omega)).mono ?_;rintro e wv ⟨rfl,rfl⟩)|(go_at_call 166;refine(IHv.out _ (d+1) _ (Ac.more (by omega) _ _ hvs) (by omega) (by omega) (by omega)).mono ?_;rintro e w3 ⟨he,hb3⟩;rw[Hmv.out]at he;subst he;have hbw3:Below w.heap.size w w3:=hbw.trans (hb3.mono hz);have hbox3:=(hb3.block _ hbx).trans hbox));go_roundw
           case rel=>exact⟨j+1,key,by omega,by go_num,rfl,fun _=>Hlast.out,Hm,hbw3,hbox3⟩
           case measure=>simp[intOf];omega
         . rw[if_neg hm0]at hm';have hm1:(m==0)=false:=by simpa using hm0
           have hm2:(m != 0)=true:=by simpa using hm0
           have Hm:=qz hm';clear hm';go_wp2_with (first|(go_at_call 111;refine(Cj hval2 _ (by omega)).mono ?_;rintro e wv ⟨rfl,rfl⟩)|(go_at_call 166;refine(IHv.out _ (d+1) _ (Ac.more (by omega) _ _ hvs) (by omega) (by omega) (by omega)).mono ?_;rintro e w3 ⟨he,hb3⟩;rw[Hmv.out]at he;subst he;have hbw3:Below w.heap.size w w3:=hbw.trans (hb3.mono hz);have hbox3:=(hb3.block _ hbx).trans hbox));go_ret;exact⟨by rw[<-Hm.out];rfl,hbw3⟩
     . have hvf:Az key=false:=by simpa using hval2
       rw[hvf]at hm';have Hm:=qz hm';clear hm' hval2 hlk;go_wp2_with (go_at_call 111;refine(Cj hvf _ (by omega)).mono ?_;rintro e wv ⟨rfl,rfl⟩);go_ret;exact⟨by rw[<-Hm.out];simp,hbw⟩
   . obtain rfl:j=o.length:=by omega
     have hm':=hm.out;rw[List.drop_length]at hm';have Hm:=qz hm';clear hm hm' hlk hoa IH;go_wp2;go_ret;exact⟨by rw[<-Hm.out];rfl,hbw⟩
def Aki (R g:Nat) (s:ByteArray) (w:World) (r:Rd Val) (e:Ending) (w':World):Prop:=match r with
 | .ok _ q=>e=.returned (.tuple #[])/\Bn R g s q w w'
 | .bad c q=>e=Ln c q/\w.grownBy w' (some R)
theorem Ol (R g:Nat) (s t:ByteArray) (k:Nat) (v:Val) (w:World) (hs:s.size<=1000000000) (hk:k<=s.size) (ht:t.size<=100) (h:Ue w R g s k):
 Calls Tryz.prog 236 #[.pointer (some ⟨R,0,none⟩),.string t] w (Aki R g s w (Er s.data.toList k t.data.toList v)):=by
 have hext:(s.extract k s.size).data.toList=s.data.toList.drop k:=by
  rw[Lib.extract_data];exact List.take_of_length_le (by rw[List.length_drop,Am];omega)
 have hH:=fun W=>Tryz.strings_HasPrefix (s.extract k s.size) t W;rw[hext]at hH;have hB:Lib.hasPrefix (s.data.toList.drop k) t.data.toList=t.data.toList.isPrefixOf (s.data.toList.drop k):=rfl;rw[hB]at hH;clear hB hext;have i0:(0:Int)<=(k:Int):=by omega
 have i1:(k:Int)<=(s.size:Int):=by omega
 obtain⟨c0,c1,_,f1,hR⟩:=h.cells;have H:=qz h;clear h;unfold Er
 cases hp:t.data.toList.isPrefixOf (s.data.toList.drop k)with
 |true=>
  rw[hp]at hH;rw[if_pos rfl,Am];have hle:k+t.size<=s.size:=by
   have:=(List.isPrefixOf_iff_prefix.1 hp).length_le;rw[List.length_drop,Am,Am]at this;omega
  clear hp;have HH:=qz hH;clear hH;go_enter Tryz.func236,Tryz.ntmps236;go_wp2;go_quiet ((go_at_call 249;exact Calls.quiet_of_same (HH.out _)));go_wp2
  go_end0
  exact⟨rfl,((Bn.refl H.out).drewN _).set _⟩
 |false=>
  rw[hp]at hH;rw[if_neg (by decide)];clear hp;have HW:=qz (fun W=>Ch (.pointer (some ⟨R,0,none⟩)) 4 k W);have HH:=qz hH;clear hH;go_enter Tryz.func236,Tryz.ntmps236;go_wp2;go_quiet ((go_at_call 249;exact Calls.quiet_of_same (HH.out _)));go_wp2_with (fail);(with_reducible refine(HW.out _).mono ?_);rintro e w1 ⟨rfl,rfl⟩;exact⟨rfl,rfl,Gk (World.grownBy.refl _ _) _⟩
end Go.Proofs.YtobmaegpfbheoaaGreatDoor
