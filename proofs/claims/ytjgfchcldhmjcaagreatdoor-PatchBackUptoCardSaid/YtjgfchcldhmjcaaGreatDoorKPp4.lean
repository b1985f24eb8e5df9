/- Parts: Why a value may not be: the program's function and the reference's, held against one plain function. Condition: texts shorter than 2^63. -/
import Derived.Test.YtjgfchcldhmjcaaGreatDoorZPpShelf
import Derived.IntWalk
import Derived.Lib.SmallJoins
import Derived.Test.YtjgfchcldhmjcaaGreatDoorKPp1
import Derived.Test.YtjgfchcldhmjcaaGreatDoorKPp2
set_option maxHeartbeats 20000000
namespace Go.Proofs.YtjgfchcldhmjcaaGreatDoor
open Go.RowKit
def Cj (w:World):Prop:=
 5<=w.heap.size/\Lib.Utf8Tabs 2 3 w/\Lib.TabIs Tryz.prog w "internal/strconv.uint64pow10" .u64 Lib.pow10Tab
def A6 (s:ByteArray):Bool:=Lib.validD s.data.toList
theorem Uh (s:ByteArray) (w:World) (d:s.size<=9223372036854775807) (b:Cj w):
 Calls Tryz.prog 133 #[.string s] w fun e w'=>e=.returned (.bool (A6 s))/\Below w.heap.size w w':=by
 have a:=Tryz.utf8_ValidString s w d b.2.1;unfold A6;generalize Lib.validD s.data.toList=V at a ⊢;go_enter Tryz.func133,Tryz.ntmps133;go_wp2_with (go_at_call 198;refine a.mono ?_;rintro e w' ⟨rfl,c⟩);go_ret;exact⟨rfl,c⟩
def leB (a b:ByteArray):Bool:=Op.bytesLess a.toList b.toList||a.toList==b.toList
mutual
def A0:Val->Int->Int
 | .mk k b n t l o,d=>
   if Fo k b n t l.length o.length then 9 else if 64<d then 5 else if A6 t then(if Dn l (d+1)=0 then Di o none (d+1)else Dn l (d+1))else 3
def Dn:List Val->Int->Int
 | [],_=>0
 |v::r,d=>if A0 v d=0 then Dn r d else A0 v d
def Di:List (ByteArray×Val)->Option ByteArray->Int->Int
 | [],_,_=>0
 |p::r,last,d=>if Ob p last d=0 then Di r (some p.1) d else Ob p last d
def Ob:ByteArray×Val->Option ByteArray->Int->Int
 |(key,v),last,d=>if A6 key then(match last with|none=>A0 v d|some q=>if leB key q then 8 else A0 v d)else 3
end
theorem Es {k:Int} {b:Bool} {n:Int} {t:ByteArray} {c f:Option Addr} {a d on oc:Nat} {B:Bool} (h:Fo k b n t a on=B) (w:World):
 Calls Tryz.prog 132 #[.agg #[.int .i64 k,.bool b,.int .i64 n,.string t,.slice c a d,.slice f on oc]] w fun e w'=>e=.returned (.bool B)/\Below w.heap.size w w':=by
 subst h;exact Agi _ _ _ _ _ _ _ _ _ _ _
theorem Cj.below {w w':World} (h:Cj w) (a:Below w.heap.size w w'):Cj w':=by
 obtain⟨j,⟨e,b⟩,f⟩:=h;refine⟨Nat.le_trans j a.size,⟨fun c k=> ?_,fun i d=>⟨?_, ?_⟩⟩,Go.Joins.tab_stays (g:=4) (by kernel_rfl) f a (Nat.le_refl _)⟩
 . exact(a.cell (p:=⟨2,c,none⟩) (by show 2<_;omega)).trans (e c k)
 . exact(a.cell (p:=⟨3,2*i,none⟩) (by show 3<_;omega)).trans (b i d).1
 . exact(a.cell (p:=⟨3,2*i+1,none⟩) (by show 3<_;omega)).trans (b i d).2
theorem Fy {W w1:World} (a:Below W.heap.size W w1):(∀b o,b<W.heap.size->w1.cell? ⟨b,o,none⟩=W.cell? ⟨b,o,none⟩)/\(∀b o,b<W.heap.size->w1.frozen? ⟨b,o,none⟩=W.frozen? ⟨b,o,none⟩):=
 ⟨fun b o h=>a.cell (p:=⟨b,o,none⟩) h,fun b o h=>a.frozen (p:=⟨b,o,none⟩) h⟩
theorem Cr {b:Type} {l:List b} {k:Nat} {v:b} (h:l[k]? =some v):l.drop k=v::l.drop (k+1):=by
 obtain⟨a,rfl⟩:=List.getElem?_eq_some_iff.1 h;exact List.drop_eq_getElem_cons a
theorem Bf {B:Nat} {a w:World} (h:Below B a w) (n:Nat):Below B a (w.drewN n):=⟨h.os,h.tape,h.output,h.size,h.block⟩
def Al5 (v:Val):Prop:= ∀(cs:List Value) (d:Int) (w:World),Cj w->Ab w w.heap.size v cs->v.bulk<=1000000000->0<=d->d<=65->
    Calls Tryz.prog 76 #[.agg cs.toArray,.int .i64 d] w fun e w'=>e=.returned (.int .i64 (A0 v d))/\Below w.heap.size w w'
theorem Aab (b:Bool) (n:Int) (t:ByteArray) (l:List Val) (R oa:Option Addr) (lc oc:Nat) (d:Int) (w:World) (V:Cj w) (g s:Nat) (E:l= []\/(R=some ⟨g,s,none⟩/\g<w.heap.size/\Aq w w.heap.size l g s))
 (hb:A5 l<=1000000000) (h0:0<=d) (X:d<=64) (T: ∀v ∈ l,Al5 v) (x:Fo 5 b n t l.length 0=false):
 Calls Tryz.prog 76 #[.agg #[.int .i64 5,.bool b,.int .i64 n,.string t,.slice R l.length lc,.slice oa 0 oc],.int .i64 d] w fun e w'=>e=.returned (.int .i64 (Dn l (d+1)))/\Below w.heap.size w w':=by
 have W:l.length<=1000000000:=by have:=C9 l;omega
 go_enter Tryz.func76,Tryz.ntmps76;go_wp2_with (go_at_call 132;refine(Es x _).mono ?_;rintro e w1 ⟨rfl,r⟩;obtain⟨N,P⟩:=Fy r;have I:=r.size;simp only[World.size_alloc]at I);have u:Below w.heap.size w w1:=((Below.refl _ _).alloc (Nat.le_refl _) _).trans (r.mono (by simp));have H:Hid (Dn (l.drop 0) (d+1)=Dn l (d+1)):=by rw[List.drop_zero];exact rfl
 clear r x N P I;go_loopw [30] (fun i wr=> ∃k:Nat,k<=l.length/\i=.int .i64 k/\Hid (Dn (l.drop k) (d+1)=Dn l (d+1))/\Below w.heap.size w wr) (fun i _=>l.length - (intOf i).toNat)
 case atStart=>exact⟨0,Nat.zero_le _,rfl,H,u⟩
 case round=>
  obtain⟨k,hk,rfl,K,c⟩:=hrel;clear H u;by_cases F:k<l.length
  . obtain⟨rfl,Z,U⟩:R=some ⟨g,s,none⟩/\g<w.heap.size/\Aq w w.heap.size l g s:=by
     rcases E with rfl|h
     . simp at F
     . exact h
    obtain⟨v,L⟩: ∃v,l[k]? =some v:=⟨_,List.getElem?_eq_getElem F⟩;have j:l.drop k=v::l.drop (k+1):=Cr L;have q:v ∈ l:=List.mem_of_getElem? L;have Y:=Dp q;have C:=qz (T v q);have o:=K.out;rw[j]at o;simp only[Dn]at o;clear K j q T;obtain⟨m,y⟩: ∃m,A0 v (d+1)=m:=⟨_,rfl⟩;rw[y]at o;obtain⟨B,J⟩:=hid2 y o;clear o y;obtain⟨k',b',n',t',l',o'⟩:=v;obtain⟨ac,ad,ae,af,G,c0,c1,c2,c3,c4,c5⟩:=(U.below Z c).six L;clear E U L;have A:=c.size;by_cases p:m=0
    . have M:Hid (Dn (l.drop (k+1)) (d+1)=Dn l (d+1)):=by
       have:=J.out
       rwa [if_pos p]at this
      subst p;clear J;go_wp2_with (go_at_call 76;refine(C.out _ (d+1) _ (V.below (c.alloc A _)) (Ab.more (by simp;omega) _ _ (G.below ((Below.refl _ _).alloc A _))) (by omega) (by omega) (by omega)).mono ?_;rintro e S ⟨D,a⟩;rw[B.out]at D;subst D;have f:Below w.heap.size w S:=(c.alloc A _).trans (a.mono (by simp;omega));obtain⟨O,Q⟩:=Fy a;have z:=a.size;simp only[World.size_alloc]at z);go_roundw
      case rel=>exact⟨k+1,by omega,by go_num,M,f⟩
      case measure=>simp[intOf];omega
    . have M:Hid (m=Dn l (d+1)):=by
       have:=J.out
       rwa [if_neg p]at this
      clear J;have aa:(m==0)=false:=by simpa using p
      have ab:(m != 0)=true:=by simpa using p
      go_wp2_with (go_at_call 76;refine(C.out _ (d+1) _ (V.below (c.alloc A _)) (Ab.more (by simp;omega) _ _ (G.below ((Below.refl _ _).alloc A _))) (by omega) (by omega) (by omega)).mono ?_;rintro e S ⟨D,a⟩;rw[B.out]at D;subst D;have f:Below w.heap.size w S:=(c.alloc A _).trans (a.mono (by simp;omega));obtain⟨O,Q⟩:=Fy a;have z:=a.size;simp only[World.size_alloc]at z);go_ret;exact⟨by rw[<-M.out];rfl,f⟩
  . obtain rfl:k=l.length:=by omega
    rw[List.drop_length]at K;go_wp2;go_ret;exact⟨by rw[<-K.out];rfl,c⟩
theorem B4 {s:ByteArray} {B:Bool} (h:A6 s=B) (w:World) (b:s.size<=9223372036854775807) (a:Cj w):
 Calls Tryz.prog 133 #[.string s] w fun e w'=>e=.returned (.bool B)/\Below w.heap.size w w':=by
 subst h;exact Uh _ _ b a
def Fv (o:List (ByteArray×Val)):Nat->Option ByteArray
 |0=>none
 |k+1=>(o[k]?).map (·.1)
theorem Aez (b:Bool) (n:Int) (t:ByteArray) (o:List (ByteArray×Val)) (la oa:Option Addr) (lc oc:Nat) (d:Int) (w:World) (V:Cj w) (g E:Nat) (ab:o= []\/(oa=some ⟨g,E,none⟩/\g<w.heap.size/\An w w.heap.size o g E))
 (hb:Af o<=1000000000) (h0:0<=d) (av:d<=64) (IH: ∀m ∈ o,Al5 m.2) (ad:Fo 6 b n t 0 o.length=false):
 Calls Tryz.prog 76 #[.agg #[.int .i64 6,.bool b,.int .i64 n,.string t,.slice la 0 lc,.slice oa o.length oc],.int .i64 d] w fun e w'=>e=.returned (.int .i64 (Di o none (d+1)))/\Below w.heap.size w w':=by
 have au:o.length<=1000000000:=by have:=B5 o;omega
 go_enter Tryz.func76,Tryz.ntmps76;go_wp2_with (go_at_call 132;refine(Es ad _).mono ?_;rintro e w1 ⟨rfl,J⟩;obtain⟨am,an⟩:=Fy J;have ak:=J.size;simp only[World.size_alloc]at ak);have ac:Below w.heap.size w w1:=((Below.refl _ _).alloc (Nat.le_refl _) _).trans (J.mono (by simp));have K:w1.heap[w.heap.size]? =some (.cells #[.int .i64 6,.bool b,.int .i64 n,.string t,.slice la 0 lc,.slice oa o.length oc] 42 (0,0)):=by
  rw[J.block _ (by simp)];exact heap_alloc_new _ _
 have H:Hid (Di (o.drop 0) (Fv o 0) (d+1)=Di o none (d+1)):=by rw[List.drop_zero];exact rfl
 clear J ad am an ak;go_loopw [47] (fun i wr=> ∃k:Nat,k<=o.length/\i=.int .i64 k/\Hid (Di (o.drop k) (Fv o k) (d+1)=Di o none (d+1))/\Below w.heap.size w wr/\wr.heap[w.heap.size]? =some (.cells #[.int .i64 6,.bool b,.int .i64 n,.string t,.slice la 0 lc,.slice oa o.length oc] 42 (0,0))) (fun i _=>o.length - (intOf i).toNat)
 case atStart=>exact⟨0,Nat.zero_le _,rfl,H,ac,K⟩
 case round=>
  obtain⟨k,hk,rfl,hm,l,A⟩:=hrel;clear H ac K;by_cases ah:k<o.length
  . obtain⟨rfl,hg,hL⟩:oa=some ⟨g,E,none⟩/\g<w.heap.size/\An w w.heap.size o g E:=by
     rcases ab with rfl|h
     . simp at ah
     . exact h
    obtain⟨⟨key,v⟩,hv⟩: ∃v,o[k]? =some v:=⟨_,List.getElem?_eq_getElem ah⟩;have L:o.drop k=(key,v)::o.drop (k+1):=Cr hv;have N:(key,v) ∈ o:=List.mem_of_getElem? hv;have al:=C4 N;simp only at al;have W:=qz (IH (key,v) N);have y:Fv o (k+1)=some key:=by simp[Fv,hv]
    have f:=hm.out;rw[L]at f;simp only[Di,Ob,<-y]at f;clear hm L N IH;have X:w.heap.size<wr.heap.size:=(Array.getElem?_eq_some_iff.1 A).1;have b5:wr.cell? ⟨w.heap.size,5,none⟩=some (.slice (some ⟨g,E,none⟩) o.length oc):=by rw[Lib.cell_of_heap A];rfl
    have C:=l.size;have I:=hL.below hg l;have aw:g<wr.heap.size:=by omega
    obtain⟨k',b',n',t',l',o'⟩:=v;obtain⟨P,Q,R,S,O,c0,c1,c2,c3,c4,c5,c6⟩:=I.seven hv;by_cases p:A6 key=true
    . rw[p]at f;simp only[if_true]at f;by_cases ae:0<k
      ·
       have ai:k - 1<o.length:=by omega
       obtain⟨⟨q,vq⟩,hq⟩: ∃m,o[k - 1]? =some m:=⟨_,List.getElem?_eq_getElem ai⟩;have ag:Fv o k=some q:=by
        obtain⟨j,rfl⟩: ∃j,k=j+1:=⟨k - 1,by omega⟩;simp only[Nat.add_sub_cancel]at hq;simp[Fv,hq]
       rw[ag]at f;simp only at f;have cq:wr.cell? ⟨g,E+(k - 1)*7,none⟩=some (.string q):=(I.at_ hq).1;have ao:decide (0<k)=true:=by simpa using ae
       have ay:(0:Int)<=(k:Int) - 1:=by omega
       have az:(k:Int) - 1<(o.length:Int):=by omega
       clear ag hq y hL hv I ab;by_cases aa:leB key q=true
       . rw[if_pos aa]at f;unfold leB at aa;have F:=qz f;clear f;go_wp2_with (go_at_call 133;refine(B4 p _ (by omega) (V.below (l.alloc C _))).mono ?_;rintro e T ⟨rfl,a⟩;obtain⟨Y,Z⟩:=Fy a;have z:=a.size;simp only[World.size_alloc]at z;have c:Below w.heap.size w T:=(l.alloc C _).trans (a.mono (by simp;omega));have r:=O.below (((Below.refl _ wr).alloc C (.cells #[.string key,.int .i64 k',.bool b',.int .i64 n',.string t',.slice P l'.length Q,.slice R o'.length S] 111)).trans (a.mono (by simp;omega))));have x1:IntKind.i64.wrap ((k:Int) - 1)=(k:Int) - 1:=IntWalk.i64_in _ (by omega);have y1:1<=k:=by omega
         have y2:(1:Int)<=(k:Int):=by omega
         have y3:(k:Int)<(o.length:Int)+1:=by omega
         have y4:k<o.length+1:=by omega
         have y5:(k:Int)<=(o.length:Int):=by omega
         have x2:((k:Int) - 1).toNat=k - 1:=by omega
         go_quiet (fail);clear x1 x2;go_wp2;go_ret;exact⟨by rw[<-F.out];rfl,Bf c _⟩
       . rw[if_neg aa]at f;have ar:(Op.bytesLess key.toList q.toList||key.toList==q.toList)=false:=by simpa[leB]using aa
         obtain⟨m,D⟩: ∃m,A0 (.mk k' b' n' t' l' o') (d+1)=m:=⟨_,rfl⟩;rw[D]at f;have G:=qz D;clear D;by_cases x:m=0
         . rw[if_pos x]at f;subst x;have F:=qz f;clear f;go_wp2_with (go_at_call 133;refine(B4 p _ (by omega) (V.below (l.alloc C _))).mono ?_;rintro e T ⟨rfl,a⟩;obtain⟨Y,Z⟩:=Fy a;have z:=a.size;simp only[World.size_alloc]at z;have c:Below w.heap.size w T:=(l.alloc C _).trans (a.mono (by simp;omega));have r:=O.below (((Below.refl _ wr).alloc C (.cells #[.string key,.int .i64 k',.bool b',.int .i64 n',.string t',.slice P l'.length Q,.slice R o'.length S] 111)).trans (a.mono (by simp;omega))));have x1:IntKind.i64.wrap ((k:Int) - 1)=(k:Int) - 1:=IntWalk.i64_in _ (by omega);have y1:1<=k:=by omega
           have y2:(1:Int)<=(k:Int):=by omega
           have y3:(k:Int)<(o.length:Int)+1:=by omega
           have y4:k<o.length+1:=by omega
           have y5:(k:Int)<=(o.length:Int):=by omega
           have x2:((k:Int) - 1).toNat=k - 1:=by omega
           go_quiet (fail);clear x1 x2;go_wp2_with (go_at_call 76;refine(W.out _ (d+1) _ (V.below (Bf c _)) (Ab.more (by simp;omega) _ _ (r.below (Bf (Below.refl _ _) _))) (by omega) (by omega) (by omega)).mono ?_;rintro e U ⟨M,s⟩;rw[G.out]at M;subst M;have u:Below w.heap.size w U:=(Bf c _).trans (s.mono (by have:=c.size;simp;omega));have B:U.heap[w.heap.size]? =wr.heap[w.heap.size]? :=(s.block _ (by simp;omega)).trans ((a.block _ (by simp;omega)).trans (Below.heap_alloc _ _ _ X)));go_roundw
           case rel=>exact⟨k+1,by omega,by go_num,F,u,B.trans A⟩
           case measure=>simp[intOf];omega
         . rw[if_neg x]at f;have ap:(m==0)=false:=by simpa using x
           have aq:(m != 0)=true:=by simpa using x
           have F:=qz f;clear f;go_wp2_with (go_at_call 133;refine(B4 p _ (by omega) (V.below (l.alloc C _))).mono ?_;rintro e T ⟨rfl,a⟩;obtain⟨Y,Z⟩:=Fy a;have z:=a.size;simp only[World.size_alloc]at z;have c:Below w.heap.size w T:=(l.alloc C _).trans (a.mono (by simp;omega));have r:=O.below (((Below.refl _ wr).alloc C (.cells #[.string key,.int .i64 k',.bool b',.int .i64 n',.string t',.slice P l'.length Q,.slice R o'.length S] 111)).trans (a.mono (by simp;omega))));have x1:IntKind.i64.wrap ((k:Int) - 1)=(k:Int) - 1:=IntWalk.i64_in _ (by omega);have y1:1<=k:=by omega
           have y2:(1:Int)<=(k:Int):=by omega
           have y3:(k:Int)<(o.length:Int)+1:=by omega
           have y4:k<o.length+1:=by omega
           have y5:(k:Int)<=(o.length:Int):=by omega
           have x2:((k:Int) - 1).toNat=k - 1:=by omega
           go_quiet (fail);clear x1 x2;go_wp2_with (go_at_call 76;refine(W.out _ (d+1) _ (V.below (Bf c _)) (Ab.more (by simp;omega) _ _ (r.below (Bf (Below.refl _ _) _))) (by omega) (by omega) (by omega)).mono ?_;rintro e U ⟨M,s⟩;rw[G.out]at M;subst M;have u:Below w.heap.size w U:=(Bf c _).trans (s.mono (by have:=c.size;simp;omega));have B:U.heap[w.heap.size]? =wr.heap[w.heap.size]? :=(s.block _ (by simp;omega)).trans ((a.block _ (by simp;omega)).trans (Below.heap_alloc _ _ _ X)));go_ret;exact⟨by rw[<-F.out];rfl,u⟩
      . have af:Fv o k=none:=by
         obtain rfl:k=0:=by omega
         rfl
        rw[af]at f;simp only at f;have ao:decide (0<k)=false:=by simpa using ae
        have ax:k<=0:=by omega
        clear af y hL hv I ab;obtain⟨m,D⟩: ∃m,A0 (.mk k' b' n' t' l' o') (d+1)=m:=⟨_,rfl⟩;rw[D]at f;have G:=qz D;clear D;by_cases x:m=0
        . rw[if_pos x]at f;subst x;have F:=qz f;clear f;go_wp2_with (go_at_call 133;refine(B4 p _ (by omega) (V.below (l.alloc C _))).mono ?_;rintro e T ⟨rfl,a⟩;obtain⟨Y,Z⟩:=Fy a;have z:=a.size;simp only[World.size_alloc]at z;have c:Below w.heap.size w T:=(l.alloc C _).trans (a.mono (by simp;omega));have r:=O.below (((Below.refl _ wr).alloc C (.cells #[.string key,.int .i64 k',.bool b',.int .i64 n',.string t',.slice P l'.length Q,.slice R o'.length S] 111)).trans (a.mono (by simp;omega))));go_quiet (fail);go_wp2_with (go_at_call 76;refine(W.out _ (d+1) _ (V.below (Bf c _)) (Ab.more (by simp;omega) _ _ (r.below (Bf (Below.refl _ _) _))) (by omega) (by omega) (by omega)).mono ?_;rintro e U ⟨M,s⟩;rw[G.out]at M;subst M;have u:Below w.heap.size w U:=(Bf c _).trans (s.mono (by have:=c.size;simp;omega));have B:U.heap[w.heap.size]? =wr.heap[w.heap.size]? :=(s.block _ (by simp;omega)).trans ((a.block _ (by simp;omega)).trans (Below.heap_alloc _ _ _ X)));go_roundw
          case rel=>exact⟨k+1,by omega,by go_num,F,u,B.trans A⟩
          case measure=>simp[intOf];omega
        . rw[if_neg x]at f;have ap:(m==0)=false:=by simpa using x
          have aq:(m != 0)=true:=by simpa using x
          have F:=qz f;clear f;go_wp2_with (go_at_call 133;refine(B4 p _ (by omega) (V.below (l.alloc C _))).mono ?_;rintro e T ⟨rfl,a⟩;obtain⟨Y,Z⟩:=Fy a;have z:=a.size;simp only[World.size_alloc]at z;have c:Below w.heap.size w T:=(l.alloc C _).trans (a.mono (by simp;omega));have r:=O.below (((Below.refl _ wr).alloc C (.cells #[.string key,.int .i64 k',.bool b',.int .i64 n',.string t',.slice P l'.length Q,.slice R o'.length S] 111)).trans (a.mono (by simp;omega))));go_quiet (fail);go_wp2_with (go_at_call 76;refine(W.out _ (d+1) _ (V.below (Bf c _)) (Ab.more (by simp;omega) _ _ (r.below (Bf (Below.refl _ _) _))) (by omega) (by omega) (by omega)).mono ?_;rintro e U ⟨M,s⟩;rw[G.out]at M;subst M;have u:Below w.heap.size w U:=(Bf c _).trans (s.mono (by have:=c.size;simp;omega));have B:U.heap[w.heap.size]? =wr.heap[w.heap.size]? :=(s.block _ (by simp;omega)).trans ((a.block _ (by simp;omega)).trans (Below.heap_alloc _ _ _ X)));go_ret;exact⟨by rw[<-F.out];rfl,u⟩
    . have aj:A6 key=false:=by simpa using p
      rw[aj]at f;have F:=qz f;clear f y p A ab hL hv I;go_wp2_with (go_at_call 133;refine(B4 aj _ (by omega) (V.below (l.alloc C _))).mono ?_;rintro e T ⟨rfl,a⟩;have c:Below w.heap.size w T:=(l.alloc C _).trans (a.mono (by simp;omega)));go_ret;exact⟨by rw[<-F.out];simp,c⟩
  . obtain rfl:k=o.length:=by omega
    rw[List.drop_length]at hm;go_wp2;go_ret;exact⟨by rw[<-hm.out];rfl,l⟩
theorem J2 {t:ByteArray} (h:t.toList= []):t=ByteArray.empty:=by
 rw[Lib.toList_data]at h;have:t.data= #[]:=by simpa using h
 exact ByteArray.ext this
theorem G7:A6 ByteArray.empty=true:=by decide
theorem My {k:Int} {b:Bool} {n:Int} {t:ByteArray} {i on:Nat} (h:Fo k b n t i on=false):
 (k=1\/k=2\/k=3\/k=4\/k=5\/k=6)/\(k=4\/t=ByteArray.empty)/\(k=5\/i=0)/\(k=6\/on=0):=by
 unfold Fo at h;by_cases a:k=1
 . subst a;simp at h;exact⟨.inl rfl,.inr (J2 h.1.1.2),.inr h.1.2,.inr h.2⟩
 by_cases c:k=2
 . subst c;simp at h;exact⟨by omega,.inr (J2 h.1.1.2),.inr h.1.2,.inr h.2⟩
 by_cases d:k=3
 . subst d;simp at h;exact⟨by omega,.inr (J2 h.1.1.2),.inr h.1.2,.inr h.2⟩
 by_cases e:k=4
 . subst e;simp at h;exact⟨by omega,.inl rfl,.inr h.1.2,.inr h.2⟩
 by_cases f:k=5
 . subst f;simp at h;exact⟨by omega,.inr (J2 h.1.2),.inl rfl,.inr h.2⟩
 by_cases g:k=6
 . subst g;simp at h;exact⟨by omega,.inr (J2 h.1.2),.inr h.2,.inl rfl⟩
 simp[a,c,d,e,f,g]at h
theorem Le {k:Int} {b:Bool} {n:Int} {t:ByteArray} {d:Int} (c:Fo k b n t 0 0=false) (a:d<=64):A0 (.mk k b n t [] []) d=if A6 t then 0 else 3:=by
 simp only[A0,List.length_nil,c,Bool.false_eq_true,if_false,if_neg (show ¬64<d by omega),Dn,Di,if_true]
theorem Agc: ∀(v:Val),Al5 v:=by
 refine Val.ind ?_;intro k b n t l o j m cs d w C M O h0 N;simp only[Ab]at M;obtain⟨K,H,L,oc,rfl,q,r⟩:=M;by_cases p:Fo k b n t l.length o.length=true
 . have x:A0 (.mk k b n t l o) d=9:=by simp only[A0,p,if_true]
   rw[x];clear x j m q r;go_enter Tryz.func76,Tryz.ntmps76;go_wp2_with (go_at_call 132;refine(Es p _).mono ?_;rintro e w' ⟨rfl,c⟩);go_ret;exact⟨rfl,((Below.refl _ _).alloc (Nat.le_refl _) _).trans (c.mono (by simp))⟩
 have a:Fo k b n t l.length o.length=false:=by simpa using p
 clear p;by_cases z:64<d
 . have x:A0 (.mk k b n t l o) d=5:=by simp only[A0,a,Bool.false_eq_true,if_false,z,if_true]
   rw[x];clear x j m q r;go_enter Tryz.func76,Tryz.ntmps76;go_wp2_with (go_at_call 132;refine(Es a _).mono ?_;rintro e w' ⟨rfl,c⟩);go_ret;exact⟨rfl,((Below.refl _ _).alloc (Nat.le_refl _) _).trans (c.mono (by simp))⟩
 obtain⟨P,y,F,G⟩:=My a;simp only[Val.bulk]at O;rcases P with rfl|rfl|rfl|rfl|rfl|rfl
 . obtain rfl:l= []:=List.eq_nil_of_length_eq_zero (by omega);obtain rfl:o= []:=List.eq_nil_of_length_eq_zero (by omega);obtain rfl:t=ByteArray.empty:=by simpa using y
   rw[Le a (by omega),G7];clear j m q r F G y;go_enter Tryz.func76,Tryz.ntmps76;go_wp2_with (go_at_call 132;refine(Es a _).mono ?_;rintro e w' ⟨rfl,c⟩;obtain⟨s,u⟩:=Fy c;have i:=c.size;simp only[World.size_alloc]at i);go_ret;exact⟨rfl,((Below.refl _ _).alloc (Nat.le_refl _) _).trans (c.mono (by simp))⟩
 . obtain rfl:l= []:=List.eq_nil_of_length_eq_zero (by omega);obtain rfl:o= []:=List.eq_nil_of_length_eq_zero (by omega);obtain rfl:t=ByteArray.empty:=by simpa using y
   rw[Le a (by omega),G7];clear j m q r F G y;go_enter Tryz.func76,Tryz.ntmps76;go_wp2_with (go_at_call 132;refine(Es a _).mono ?_;rintro e w' ⟨rfl,c⟩;obtain⟨s,u⟩:=Fy c;have i:=c.size;simp only[World.size_alloc]at i);go_ret;exact⟨rfl,((Below.refl _ _).alloc (Nat.le_refl _) _).trans (c.mono (by simp))⟩
 . obtain rfl:l= []:=List.eq_nil_of_length_eq_zero (by omega);obtain rfl:o= []:=List.eq_nil_of_length_eq_zero (by omega);obtain rfl:t=ByteArray.empty:=by simpa using y
   rw[Le a (by omega),G7];clear j m q r F G y;go_enter Tryz.func76,Tryz.ntmps76;go_wp2_with (go_at_call 132;refine(Es a _).mono ?_;rintro e w' ⟨rfl,c⟩;obtain⟨s,u⟩:=Fy c;have i:=c.size;simp only[World.size_alloc]at i);go_ret;exact⟨rfl,((Below.refl _ _).alloc (Nat.le_refl _) _).trans (c.mono (by simp))⟩
 . obtain rfl:l= []:=List.eq_nil_of_length_eq_zero (by omega);obtain rfl:o= []:=List.eq_nil_of_length_eq_zero (by omega);rw[Le a (by omega)];clear j m q r F G y;have D: ∀w1,Below w.heap.size w w1->Cj w1:=fun _ h=>C.below h;by_cases J:A6 t=true
   . rw[J];go_enter Tryz.func76,Tryz.ntmps76;go_wp2_with (first|(go_at_call 132;refine(Es a _).mono ?_;rintro e w1 ⟨rfl,c⟩;obtain⟨s,u⟩:=Fy c;have i:=c.size;simp only[World.size_alloc]at i;have f:Below w.heap.size w w1:=((Below.refl _ _).alloc (Nat.le_refl _) _).trans (c.mono (by simp)))|(go_at_call 133;refine(B4 J _ (by omega) (D _ f)).mono ?_;rintro e Q ⟨rfl,A⟩));go_ret;exact⟨rfl,f.trans (A.mono f.size)⟩
   . have E:A6 t=false:=by simpa using J
     rw[E];go_enter Tryz.func76,Tryz.ntmps76;go_wp2_with (first|(go_at_call 132;refine(Es a _).mono ?_;rintro e w1 ⟨rfl,c⟩;obtain⟨s,u⟩:=Fy c;have i:=c.size;simp only[World.size_alloc]at i;have f:Below w.heap.size w w1:=((Below.refl _ _).alloc (Nat.le_refl _) _).trans (c.mono (by simp)))|(go_at_call 133;refine(B4 E _ (by omega) (D _ f)).mono ?_;rintro e Q ⟨rfl,A⟩));go_ret;exact⟨rfl,f.trans (A.mono f.size)⟩
 . obtain rfl:o= []:=List.eq_nil_of_length_eq_zero (by omega);obtain rfl:t=ByteArray.empty:=by simpa using y
   have x:A0 (.mk 5 b n ByteArray.empty l []) d=Dn l (d+1):=by
    simp only[A0,a,Bool.false_eq_true,if_false,z,G7,if_true,Di]
    split<;>simp_all
   rw[x];rcases q with rfl|⟨g,B,rfl,I,q⟩
   . exact Aab b n _ [] K L H oc d w C 0 0 (.inl rfl) (by simp[A5]) h0 (by omega) j a
   . exact Aab b n _ l _ L H oc d w C g B (.inr ⟨rfl,I,q⟩) (by omega) h0 (by omega) j a
 . obtain rfl:l= []:=List.eq_nil_of_length_eq_zero (by omega);obtain rfl:t=ByteArray.empty:=by simpa using y
   have x:A0 (.mk 6 b n ByteArray.empty [] o) d=Di o none (d+1):=by
    simp only[A0,a,Bool.false_eq_true,if_false,z,G7,if_true,Dn]
   rw[x];rcases r with rfl|⟨g,B,rfl,I,r⟩
   . exact Aez b n _ [] K L H oc d w C 0 0 (.inl rfl) (by simp[Af]) h0 (by omega) m a
   . exact Aez b n _ o K _ H oc d w C g B (.inr ⟨rfl,I,r⟩) (by omega) h0 (by omega) m a
theorem Pw (v:Val) (cs:List Value) (w:World) (g:Cj w) (c:Ab w w.heap.size v cs) (h:v.bulk<=1000000000):
 Calls Tryz.prog 37 #[.agg cs.toArray] w fun e w'=>e=.returned (.int .i64 (A0 v 1))/\Below w.heap.size w w':=by
 have a:=c;obtain⟨k,b,n,t,l,o⟩:=v;simp only[Ab]at a;obtain⟨i,j,p,oc,rfl,_,_⟩:=a;have f:=Agc _ _ 1 (w.alloc (.cells #[.int .i64 k,.bool b,.int .i64 n,.string t,.slice i l.length j,.slice p o.length oc] 42)) (g.below ((Below.refl _ _).alloc (Nat.le_refl _) _)) (Ab.more (by simp) _ _ (c.below ((Below.refl _ _).alloc (Nat.le_refl _) _))) h (by omega) (by omega);generalize A0 _ _=m at f ⊢;have H:=qz f;clear f c;go_enter Tryz.func37,Tryz.ntmps37;go_wp2_with (go_at_call 76;refine(H.out).mono ?_;rintro e w' ⟨rfl,d⟩);go_ret;exact⟨rfl,((Below.refl _ _).alloc (Nat.le_refl _) _).trans (d.mono (by simp))⟩
end Go.Proofs.YtjgfchcldhmjcaaGreatDoor
