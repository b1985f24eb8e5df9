/- Parts: strings.Builder wherever it lies (a block of its own, or a field of a struct that the call made): its methods' contracts. Condition: at most 2^47 bytes. -/
import Derived.Test.YtolnhkmhfblhkaaGreatDoorZSnShelf
import Derived.IntWalk
import Derived.Lib.SmallJoins
import Derived.Lib.OthersKept
import Derived.Lib.FrozenHead2
import Derived.Shelf.Strings.BuilderK
import Derived.Test.YtolnhkmhfblhkaaGreatDoorKSn1
set_option maxHeartbeats 20000000
set_option maxRecDepth 100000
namespace Go.Proofs.YtolnhkmhfblhkaaGreatDoor
open Go.RowKit
def A8 (w:World):Prop:=
 5<=w.heap.size/\Lib.Utf8Tabs 1 2 w/\Lib.TabIs Tryz.prog w "internal/strconv.uint64pow10" .u64 Lib.pow10Tab
def A7 (s:ByteArray):Bool:=Lib.validD s.data.toList
theorem Fa (s:ByteArray) (w:World) (hs:s.size<=9223372036854775807) (hT:A8 w):
 Calls Tryz.prog 117 #[.string s] w fun e w'=>e=.returned (.bool (A7 s))/\Below w.heap.size w w':=by
 have cV:=Tryz.utf8_ValidString s w hs hT.2.1;unfold A7;generalize Lib.validD s.data.toList=V at cV ⊢;go_enter Tryz.func117,Tryz.ntmps117;go_wp2_with (go_at_call 154;refine cV.mono ?_;rintro e w' ⟨rfl,hb⟩);go_ret;exact⟨rfl,hb⟩
def Ly (a b:ByteArray):Bool:=Op.bytesLess a.toList b.toList||a.toList==b.toList
mutual
def Bf:Val->Int->Int
 | .mk k b n t l o,d=>
   if E1 k b n t l.length o.length then 9 else if 64<d then 5 else if A7 t then(if Cx l (d+1)=0 then Dy o none (d+1)else Cx l (d+1))else 3
def Cx:List Val->Int->Int
 | [],_=>0
 |v::r,d=>if Bf v d=0 then Cx r d else Bf v d
def Dy:List (ByteArray×Val)->Option ByteArray->Int->Int
 | [],_,_=>0
 |p::r,last,d=>if K6 p last d=0 then Dy r (some p.1) d else K6 p last d
def K6:ByteArray×Val->Option ByteArray->Int->Int
 |(key,v),last,d=>if A7 key then(match last with|none=>Bf v d|some q=>if Ly key q then 8 else Bf v d)else 3
end
theorem Az {k:Int} {b:Bool} {n:Int} {t:ByteArray} {la oa:Option Addr} {ln lc on oc:Nat} {B:Bool} (h:E1 k b n t ln on=B) (w:World):
 Calls Tryz.prog 116 #[.agg #[.int .i64 k,.bool b,.int .i64 n,.string t,.slice la ln lc,.slice oa on oc]] w fun e w'=>e=.returned (.bool B)/\Below w.heap.size w w':=by
 subst h;exact J0 _ _ _ _ _ _ _ _ _ _ _
theorem A8.below {w w':World} (h:A8 w) (hb:Below w.heap.size w w'):A8 w':=by
 obtain⟨h5,⟨h1,h2⟩,h3⟩:=h;refine⟨Nat.le_trans h5 hb.size,⟨fun c hc=> ?_,fun i hi=>⟨?_, ?_⟩⟩,Go.Joins.tab_stays (g:=3) (by kernel_rfl) h3 hb (Nat.le_refl _)⟩
 . exact(hb.cell (p:=⟨1,c,none⟩) (by show 1<_;omega)).trans (h1 c hc)
 . exact(hb.cell (p:=⟨2,2*i,none⟩) (by show 2<_;omega)).trans (h2 i hi).1
 . exact(hb.cell (p:=⟨2,2*i+1,none⟩) (by show 2<_;omega)).trans (h2 i hi).2
theorem Cc {W w1:World} (hb:Below W.heap.size W w1):(∀b o,b<W.heap.size->w1.cell? ⟨b,o,none⟩=W.cell? ⟨b,o,none⟩)/\(∀b o,b<W.heap.size->w1.frozen? ⟨b,o,none⟩=W.frozen? ⟨b,o,none⟩):=
 ⟨fun b o h=>hb.cell (p:=⟨b,o,none⟩) h,fun b o h=>hb.frozen (p:=⟨b,o,none⟩) h⟩
theorem Bo {α:Type} {l:List α} {k:Nat} {v:α} (h:l[k]? =some v):l.drop k=v::l.drop (k+1):=by
 obtain⟨hlt,rfl⟩:=List.getElem?_eq_some_iff.1 h;exact List.drop_eq_getElem_cons hlt
theorem Al {B:Nat} {a w:World} (h:Below B a w) (n:Nat):Below B a (w.drewN n):=⟨h.os,h.tape,h.output,h.size,h.block⟩
def Lj (v:Val):Prop:= ∀(cs:List Value) (d:Int) (w:World),A8 w->Ab w w.heap.size v cs->v.bulk<=1000000000->0<=d->d<=65->
    Calls Tryz.prog 58 #[.agg cs.toArray,.int .i64 d] w fun e w'=>e=.returned (.int .i64 (Bf v d))/\Below w.heap.size w w'
theorem Gt (b:Bool) (n:Int) (t:ByteArray) (l:List Val) (la oa:Option Addr) (lc oc:Nat) (d:Int) (w:World) (hT:A8 w) (g off:Nat) (hla:l= []\/(la=some ⟨g,off,none⟩/\g<w.heap.size/\Af w w.heap.size l g off))
 (hb:A9 l<=1000000000) (h0:0<=d) (h64:d<=64) (IH: ∀v ∈ l,Lj v) (hodd:E1 5 b n t l.length 0=false):
 Calls Tryz.prog 58 #[.agg #[.int .i64 5,.bool b,.int .i64 n,.string t,.slice la l.length lc,.slice oa 0 oc],.int .i64 d] w fun e w'=>e=.returned (.int .i64 (Cx l (d+1)))/\Below w.heap.size w w':=by
 have hlen:l.length<=1000000000:=by have:=Fj l;omega
 go_enter Tryz.func58,Tryz.ntmps58;go_wp2_with (go_at_call 116;refine(Az hodd _).mono ?_;rintro e w1 ⟨rfl,hb1⟩;obtain⟨hc1,hf1⟩:=Cc hb1;have hz1:=hb1.size;simp only[World.size_alloc]at hz1);have hbw1:Below w.heap.size w w1:=((Below.refl _ _).alloc (Nat.le_refl _) _).trans (hb1.mono (by simp));have H:Hid (Cx (l.drop 0) (d+1)=Cx l (d+1)):=by rw[List.drop_zero];exact rfl
 clear hb1 hodd hc1 hf1 hz1;go_loopw [30] (fun i wr=> ∃k:Nat,k<=l.length/\i=.int .i64 k/\Hid (Cx (l.drop k) (d+1)=Cx l (d+1))/\Below w.heap.size w wr) (fun i _=>l.length - (intOf i).toNat)
 case atStart=>exact⟨0,Nat.zero_le _,rfl,H,hbw1⟩
 case round=>
  obtain⟨k,hk,rfl,hm,hbw⟩:=hrel;clear H hbw1;by_cases hlt:k<l.length
  . obtain⟨rfl,hg,hL⟩:la=some ⟨g,off,none⟩/\g<w.heap.size/\Af w w.heap.size l g off:=by
     rcases hla with rfl|h
     . simp at hlt
     . exact h
    obtain⟨v,hv⟩: ∃v,l[k]? =some v:=⟨_,List.getElem?_eq_getElem hlt⟩;have hdrop:l.drop k=v::l.drop (k+1):=Bo hv;have hmem:v ∈ l:=List.mem_of_getElem? hv;have hbv:=Jo hmem;have IHv:=qz (IH v hmem);have hm':=hm.out;rw[hdrop]at hm';simp only[Cx]at hm';clear hm hdrop hmem IH;obtain⟨m,hmv⟩: ∃m,Bf v (d+1)=m:=⟨_,rfl⟩;rw[hmv]at hm';obtain⟨Hmv,Hm⟩:=hid2 hmv hm';clear hm' hmv;obtain⟨k',b',n',t',l',o'⟩:=v;obtain⟨la',lc',oa',oc',hvs,c0,c1,c2,c3,c4,c5⟩:=(hL.below hg hbw).six hv;clear hla hL hv;have hz:=hbw.size;by_cases hm0:m=0
    . have Hk:Hid (Cx (l.drop (k+1)) (d+1)=Cx l (d+1)):=by
       have:=Hm.out
       rwa [if_pos hm0]at this
      subst hm0;clear Hm;go_wp2_with (go_at_call 58;refine(IHv.out _ (d+1) _ (hT.below (hbw.alloc hz _)) (Ab.more (by simp;omega) _ _ (hvs.below ((Below.refl _ _).alloc hz _))) (by omega) (by omega) (by omega)).mono ?_;rintro e w2 ⟨he,hb2⟩;rw[Hmv.out]at he;subst he;have hbw2:Below w.heap.size w w2:=(hbw.alloc hz _).trans (hb2.mono (by simp;omega));obtain⟨hc2,hf2⟩:=Cc hb2;have hz2:=hb2.size;simp only[World.size_alloc]at hz2);go_roundw
      case rel=>exact⟨k+1,by omega,by go_num,Hk,hbw2⟩
      case measure=>simp[intOf];omega
    . have Hk:Hid (m=Cx l (d+1)):=by
       have:=Hm.out
       rwa [if_neg hm0]at this
      clear Hm;have hm1:(m==0)=false:=by simpa using hm0
      have hm2:(m != 0)=true:=by simpa using hm0
      go_wp2_with (go_at_call 58;refine(IHv.out _ (d+1) _ (hT.below (hbw.alloc hz _)) (Ab.more (by simp;omega) _ _ (hvs.below ((Below.refl _ _).alloc hz _))) (by omega) (by omega) (by omega)).mono ?_;rintro e w2 ⟨he,hb2⟩;rw[Hmv.out]at he;subst he;have hbw2:Below w.heap.size w w2:=(hbw.alloc hz _).trans (hb2.mono (by simp;omega));obtain⟨hc2,hf2⟩:=Cc hb2;have hz2:=hb2.size;simp only[World.size_alloc]at hz2);go_ret;exact⟨by rw[<-Hk.out];rfl,hbw2⟩
  . obtain rfl:k=l.length:=by omega
    rw[List.drop_length]at hm;go_wp2;go_ret;exact⟨by rw[<-hm.out];rfl,hbw⟩
theorem Am {s:ByteArray} {B:Bool} (h:A7 s=B) (w:World) (hs:s.size<=9223372036854775807) (hT:A8 w):
 Calls Tryz.prog 117 #[.string s] w fun e w'=>e=.returned (.bool B)/\Below w.heap.size w w':=by
 subst h;exact Fa _ _ hs hT
def Cm (o:List (ByteArray×Val)):Nat->Option ByteArray
 |0=>none
 |k+1=>(o[k]?).map (·.1)
theorem Jc (b:Bool) (n:Int) (t:ByteArray) (o:List (ByteArray×Val)) (la oa:Option Addr) (lc oc:Nat) (d:Int) (w:World) (hT:A8 w) (g off:Nat) (hoa:o= []\/(oa=some ⟨g,off,none⟩/\g<w.heap.size/\Ag w w.heap.size o g off))
 (hb:Aw o<=1000000000) (h0:0<=d) (h64:d<=64) (IH: ∀m ∈ o,Lj m.2) (hodd:E1 6 b n t 0 o.length=false):
 Calls Tryz.prog 58 #[.agg #[.int .i64 6,.bool b,.int .i64 n,.string t,.slice la 0 lc,.slice oa o.length oc],.int .i64 d] w fun e w'=>e=.returned (.int .i64 (Dy o none (d+1)))/\Below w.heap.size w w':=by
 have hlen:o.length<=1000000000:=by have:=Dw o;omega
 go_enter Tryz.func58,Tryz.ntmps58;go_wp2_with (go_at_call 116;refine(Az hodd _).mono ?_;rintro e w1 ⟨rfl,hb1⟩;obtain⟨hc1,hf1⟩:=Cc hb1;have hz1:=hb1.size;simp only[World.size_alloc]at hz1);have hbw1:Below w.heap.size w w1:=((Below.refl _ _).alloc (Nat.le_refl _) _).trans (hb1.mono (by simp));have hbox1:w1.heap[w.heap.size]? =some (.cells #[.int .i64 6,.bool b,.int .i64 n,.string t,.slice la 0 lc,.slice oa o.length oc] 57 (0,0)):=by
  rw[hb1.block _ (by simp)];exact heap_alloc_new _ _
 have H:Hid (Dy (o.drop 0) (Cm o 0) (d+1)=Dy o none (d+1)):=by rw[List.drop_zero];exact rfl
 clear hb1 hodd hc1 hf1 hz1;go_loopw [47] (fun i wr=> ∃k:Nat,k<=o.length/\i=.int .i64 k/\Hid (Dy (o.drop k) (Cm o k) (d+1)=Dy o none (d+1))/\Below w.heap.size w wr/\wr.heap[w.heap.size]? =some (.cells #[.int .i64 6,.bool b,.int .i64 n,.string t,.slice la 0 lc,.slice oa o.length oc] 57 (0,0))) (fun i _=>o.length - (intOf i).toNat)
 case atStart=>exact⟨0,Nat.zero_le _,rfl,H,hbw1,hbox1⟩
 case round=>
  obtain⟨k,hk,rfl,hm,hbw,hbox⟩:=hrel;clear H hbw1 hbox1;by_cases hlt:k<o.length
  . obtain⟨rfl,hg,hL⟩:oa=some ⟨g,off,none⟩/\g<w.heap.size/\Ag w w.heap.size o g off:=by
     rcases hoa with rfl|h
     . simp at hlt
     . exact h
    obtain⟨⟨key,v⟩,hv⟩: ∃v,o[k]? =some v:=⟨_,List.getElem?_eq_getElem hlt⟩;have hdrop:o.drop k=(key,v)::o.drop (k+1):=Bo hv;have hmem:(key,v) ∈ o:=List.mem_of_getElem? hv;have hbv:=Jp hmem;simp only at hbv;have IHv:=qz (IH (key,v) hmem);have hlast:Cm o (k+1)=some key:=by simp[Cm,hv]
    have hm':=hm.out;rw[hdrop]at hm';simp only[Dy,K6,<-hlast]at hm';clear hm hdrop hmem IH;have hbx:w.heap.size<wr.heap.size:=(Array.getElem?_eq_some_iff.1 hbox).1;have b5:wr.cell? ⟨w.heap.size,5,none⟩=some (.slice (some ⟨g,off,none⟩) o.length oc):=by rw[Lib.cell_of_heap hbox];rfl
    have hz:=hbw.size;have hLr:=hL.below hg hbw;have hgr:g<wr.heap.size:=by omega
    obtain⟨k',b',n',t',l',o'⟩:=v;obtain⟨la',lc',oa',oc',hvs,c0,c1,c2,c3,c4,c5,c6⟩:=hLr.seven hv;by_cases hval:A7 key=true
    . rw[hval]at hm';simp only[if_true]at hm';by_cases hkp:0<k
      ·
       have hlt1:k - 1<o.length:=by omega
       obtain⟨⟨q,vq⟩,hq⟩: ∃m,o[k - 1]? =some m:=⟨_,List.getElem?_eq_getElem hlt1⟩;have hlq:Cm o k=some q:=by
        obtain⟨j,rfl⟩: ∃j,k=j+1:=⟨k - 1,by omega⟩;simp only[Nat.add_sub_cancel]at hq;simp[Cm,hq]
       rw[hlq]at hm';simp only at hm';have cq:wr.cell? ⟨g,off+(k - 1)*7,none⟩=some (.string q):=(hLr.at_ hq).1;have hgd:decide (0<k)=true:=by simpa using hkp
       have hk1:(0:Int)<=(k:Int) - 1:=by omega
       have hk2:(k:Int) - 1<(o.length:Int):=by omega
       clear hlq hq hlast hL hv hLr hoa;by_cases hle:Ly key q=true
       . rw[if_pos hle]at hm';unfold Ly at hle;have Hm:=qz hm';clear hm';go_wp2_with (go_at_call 117;refine(Am hval _ (by omega) (hT.below (hbw.alloc hz _))).mono ?_;rintro e w2 ⟨rfl,hb2⟩;obtain⟨hc2,hf2⟩:=Cc hb2;have hz2:=hb2.size;simp only[World.size_alloc]at hz2;have hbw2:Below w.heap.size w w2:=(hbw.alloc hz _).trans (hb2.mono (by simp;omega));have hvs2:=hvs.below (((Below.refl _ wr).alloc hz (.cells #[.string key,.int .i64 k',.bool b',.int .i64 n',.string t',.slice la' l'.length lc',.slice oa' o'.length oc'] 82)).trans (hb2.mono (by simp;omega))));have x1:IntKind.i64.wrap ((k:Int) - 1)=(k:Int) - 1:=IntWalk.i64_in _ (by omega);have y1:1<=k:=by omega
         have y2:(1:Int)<=(k:Int):=by omega
         have y3:(k:Int)<(o.length:Int)+1:=by omega
         have y4:k<o.length+1:=by omega
         have y5:(k:Int)<=(o.length:Int):=by omega
         have x2:((k:Int) - 1).toNat=k - 1:=by omega
         go_quiet (fail);clear x1 x2;go_wp2;go_ret;exact⟨by rw[<-Hm.out];rfl,Al hbw2 _⟩
       . rw[if_neg hle]at hm';have hle':(Op.bytesLess key.toList q.toList||key.toList==q.toList)=false:=by simpa[Ly]using hle
         obtain⟨m,hmv⟩: ∃m,Bf (.mk k' b' n' t' l' o') (d+1)=m:=⟨_,rfl⟩;rw[hmv]at hm';have Hmv:=qz hmv;clear hmv;by_cases hm0:m=0
         . rw[if_pos hm0]at hm';subst hm0;have Hm:=qz hm';clear hm';go_wp2_with (go_at_call 117;refine(Am hval _ (by omega) (hT.below (hbw.alloc hz _))).mono ?_;rintro e w2 ⟨rfl,hb2⟩;obtain⟨hc2,hf2⟩:=Cc hb2;have hz2:=hb2.size;simp only[World.size_alloc]at hz2;have hbw2:Below w.heap.size w w2:=(hbw.alloc hz _).trans (hb2.mono (by simp;omega));have hvs2:=hvs.below (((Below.refl _ wr).alloc hz (.cells #[.string key,.int .i64 k',.bool b',.int .i64 n',.string t',.slice la' l'.length lc',.slice oa' o'.length oc'] 82)).trans (hb2.mono (by simp;omega))));have x1:IntKind.i64.wrap ((k:Int) - 1)=(k:Int) - 1:=IntWalk.i64_in _ (by omega);have y1:1<=k:=by omega
           have y2:(1:Int)<=(k:Int):=by omega
           have y3:(k:Int)<(o.length:Int)+1:=by omega
           have y4:k<o.length+1:=by omega
           have y5:(k:Int)<=(o.length:Int):=by omega
           have x2:((k:Int) - 1).toNat=k - 1:=by omega
           go_quiet (fail);clear x1 x2;go_wp2_with (go_at_call 58;refine(IHv.out _ (d+1) _ (hT.below (Al hbw2 _)) (Ab.more (by simp;omega) _ _ (hvs2.below (Al (Below.refl _ _) _))) (by omega) (by omega) (by omega)).mono ?_;rintro e w3 ⟨he,hb3⟩;rw[Hmv.out]at he;subst he;have hbw3:Below w.heap.size w w3:=(Al hbw2 _).trans (hb3.mono (by have:=hbw2.size;simp;omega));have hbx3:w3.heap[w.heap.size]? =wr.heap[w.heap.size]? :=(hb3.block _ (by simp;omega)).trans ((hb2.block _ (by simp;omega)).trans (Below.heap_alloc _ _ _ hbx)));go_roundw
           case rel=>exact⟨k+1,by omega,by go_num,Hm,hbw3,hbx3.trans hbox⟩
           case measure=>simp[intOf];omega
         . rw[if_neg hm0]at hm';have hm1:(m==0)=false:=by simpa using hm0
           have hm2:(m != 0)=true:=by simpa using hm0
           have Hm:=qz hm';clear hm';go_wp2_with (go_at_call 117;refine(Am hval _ (by omega) (hT.below (hbw.alloc hz _))).mono ?_;rintro e w2 ⟨rfl,hb2⟩;obtain⟨hc2,hf2⟩:=Cc hb2;have hz2:=hb2.size;simp only[World.size_alloc]at hz2;have hbw2:Below w.heap.size w w2:=(hbw.alloc hz _).trans (hb2.mono (by simp;omega));have hvs2:=hvs.below (((Below.refl _ wr).alloc hz (.cells #[.string key,.int .i64 k',.bool b',.int .i64 n',.string t',.slice la' l'.length lc',.slice oa' o'.length oc'] 82)).trans (hb2.mono (by simp;omega))));have x1:IntKind.i64.wrap ((k:Int) - 1)=(k:Int) - 1:=IntWalk.i64_in _ (by omega);have y1:1<=k:=by omega
           have y2:(1:Int)<=(k:Int):=by omega
           have y3:(k:Int)<(o.length:Int)+1:=by omega
           have y4:k<o.length+1:=by omega
           have y5:(k:Int)<=(o.length:Int):=by omega
           have x2:((k:Int) - 1).toNat=k - 1:=by omega
           go_quiet (fail);clear x1 x2;go_wp2_with (go_at_call 58;refine(IHv.out _ (d+1) _ (hT.below (Al hbw2 _)) (Ab.more (by simp;omega) _ _ (hvs2.below (Al (Below.refl _ _) _))) (by omega) (by omega) (by omega)).mono ?_;rintro e w3 ⟨he,hb3⟩;rw[Hmv.out]at he;subst he;have hbw3:Below w.heap.size w w3:=(Al hbw2 _).trans (hb3.mono (by have:=hbw2.size;simp;omega));have hbx3:w3.heap[w.heap.size]? =wr.heap[w.heap.size]? :=(hb3.block _ (by simp;omega)).trans ((hb2.block _ (by simp;omega)).trans (Below.heap_alloc _ _ _ hbx)));go_ret;exact⟨by rw[<-Hm.out];rfl,hbw3⟩
      . have hlk:Cm o k=none:=by
         obtain rfl:k=0:=by omega
         rfl
        rw[hlk]at hm';simp only at hm';have hgd:decide (0<k)=false:=by simpa using hkp
        have hk0:k<=0:=by omega
        clear hlk hlast hL hv hLr hoa;obtain⟨m,hmv⟩: ∃m,Bf (.mk k' b' n' t' l' o') (d+1)=m:=⟨_,rfl⟩;rw[hmv]at hm';have Hmv:=qz hmv;clear hmv;by_cases hm0:m=0
        . rw[if_pos hm0]at hm';subst hm0;have Hm:=qz hm';clear hm';go_wp2_with (go_at_call 117;refine(Am hval _ (by omega) (hT.below (hbw.alloc hz _))).mono ?_;rintro e w2 ⟨rfl,hb2⟩;obtain⟨hc2,hf2⟩:=Cc hb2;have hz2:=hb2.size;simp only[World.size_alloc]at hz2;have hbw2:Below w.heap.size w w2:=(hbw.alloc hz _).trans (hb2.mono (by simp;omega));have hvs2:=hvs.below (((Below.refl _ wr).alloc hz (.cells #[.string key,.int .i64 k',.bool b',.int .i64 n',.string t',.slice la' l'.length lc',.slice oa' o'.length oc'] 82)).trans (hb2.mono (by simp;omega))));go_quiet (fail);go_wp2_with (go_at_call 58;refine(IHv.out _ (d+1) _ (hT.below (Al hbw2 _)) (Ab.more (by simp;omega) _ _ (hvs2.below (Al (Below.refl _ _) _))) (by omega) (by omega) (by omega)).mono ?_;rintro e w3 ⟨he,hb3⟩;rw[Hmv.out]at he;subst he;have hbw3:Below w.heap.size w w3:=(Al hbw2 _).trans (hb3.mono (by have:=hbw2.size;simp;omega));have hbx3:w3.heap[w.heap.size]? =wr.heap[w.heap.size]? :=(hb3.block _ (by simp;omega)).trans ((hb2.block _ (by simp;omega)).trans (Below.heap_alloc _ _ _ hbx)));go_roundw
          case rel=>exact⟨k+1,by omega,by go_num,Hm,hbw3,hbx3.trans hbox⟩
          case measure=>simp[intOf];omega
        . rw[if_neg hm0]at hm';have hm1:(m==0)=false:=by simpa using hm0
          have hm2:(m != 0)=true:=by simpa using hm0
          have Hm:=qz hm';clear hm';go_wp2_with (go_at_call 117;refine(Am hval _ (by omega) (hT.below (hbw.alloc hz _))).mono ?_;rintro e w2 ⟨rfl,hb2⟩;obtain⟨hc2,hf2⟩:=Cc hb2;have hz2:=hb2.size;simp only[World.size_alloc]at hz2;have hbw2:Below w.heap.size w w2:=(hbw.alloc hz _).trans (hb2.mono (by simp;omega));have hvs2:=hvs.below (((Below.refl _ wr).alloc hz (.cells #[.string key,.int .i64 k',.bool b',.int .i64 n',.string t',.slice la' l'.length lc',.slice oa' o'.length oc'] 82)).trans (hb2.mono (by simp;omega))));go_quiet (fail);go_wp2_with (go_at_call 58;refine(IHv.out _ (d+1) _ (hT.below (Al hbw2 _)) (Ab.more (by simp;omega) _ _ (hvs2.below (Al (Below.refl _ _) _))) (by omega) (by omega) (by omega)).mono ?_;rintro e w3 ⟨he,hb3⟩;rw[Hmv.out]at he;subst he;have hbw3:Below w.heap.size w w3:=(Al hbw2 _).trans (hb3.mono (by have:=hbw2.size;simp;omega));have hbx3:w3.heap[w.heap.size]? =wr.heap[w.heap.size]? :=(hb3.block _ (by simp;omega)).trans ((hb2.block _ (by simp;omega)).trans (Below.heap_alloc _ _ _ hbx)));go_ret;exact⟨by rw[<-Hm.out];rfl,hbw3⟩
    . have hvf:A7 key=false:=by simpa using hval
      rw[hvf]at hm';have Hm:=qz hm';clear hm' hlast hval hbox hoa hL hv hLr;go_wp2_with (go_at_call 117;refine(Am hvf _ (by omega) (hT.below (hbw.alloc hz _))).mono ?_;rintro e w2 ⟨rfl,hb2⟩;have hbw2:Below w.heap.size w w2:=(hbw.alloc hz _).trans (hb2.mono (by simp;omega)));go_ret;exact⟨by rw[<-Hm.out];simp,hbw2⟩
  . obtain rfl:k=o.length:=by omega
    rw[List.drop_length]at hm;go_wp2;go_ret;exact⟨by rw[<-hm.out];rfl,hbw⟩
theorem B8 {t:ByteArray} (h:t.toList= []):t=ByteArray.empty:=by
 rw[Lib.toList_data]at h;have:t.data= #[]:=by simpa using h
 exact ByteArray.ext this
theorem Bj:A7 ByteArray.empty=true:=by decide
theorem J1 {k:Int} {b:Bool} {n:Int} {t:ByteArray} {ln on:Nat} (h:E1 k b n t ln on=false):
 (k=1\/k=2\/k=3\/k=4\/k=5\/k=6)/\(k=4\/t=ByteArray.empty)/\(k=5\/ln=0)/\(k=6\/on=0):=by
 unfold E1 at h;by_cases h1:k=1
 . subst h1;simp at h;exact⟨.inl rfl,.inr (B8 h.1.1.2),.inr h.1.2,.inr h.2⟩
 by_cases h2:k=2
 . subst h2;simp at h;exact⟨by omega,.inr (B8 h.1.1.2),.inr h.1.2,.inr h.2⟩
 by_cases h3:k=3
 . subst h3;simp at h;exact⟨by omega,.inr (B8 h.1.1.2),.inr h.1.2,.inr h.2⟩
 by_cases h4:k=4
 . subst h4;simp at h;exact⟨by omega,.inl rfl,.inr h.1.2,.inr h.2⟩
 by_cases h5:k=5
 . subst h5;simp at h;exact⟨by omega,.inr (B8 h.1.2),.inl rfl,.inr h.2⟩
 by_cases h6:k=6
 . subst h6;simp at h;exact⟨by omega,.inr (B8 h.1.2),.inr h.2,.inl rfl⟩
 simp[h1,h2,h3,h4,h5,h6]at h
theorem Cn {k:Int} {b:Bool} {n:Int} {t:ByteArray} {d:Int} (ho:E1 k b n t 0 0=false) (h64:d<=64):Bf (.mk k b n t [] []) d=if A7 t then 0 else 3:=by
 simp only[Bf,List.length_nil,ho,Bool.false_eq_true,if_false,if_neg (show ¬64<d by omega),Cx,Dy,if_true]
theorem Jy: ∀(v:Val),Lj v:=by
 refine Val.ind ?_;intro k b n t l o ihl iho cs d w hT hV hb h0 h65;simp only[Ab]at hV;obtain⟨la,lc,oa,oc,rfl,hL,hO⟩:=hV;by_cases hodd:E1 k b n t l.length o.length=true
 . have hm:Bf (.mk k b n t l o) d=9:=by simp only[Bf,hodd,if_true]
   rw[hm];clear hm ihl iho hL hO;go_enter Tryz.func58,Tryz.ntmps58;go_wp2_with (go_at_call 116;refine(Az hodd _).mono ?_;rintro e w' ⟨rfl,hb1⟩);go_ret;exact⟨rfl,((Below.refl _ _).alloc (Nat.le_refl _) _).trans (hb1.mono (by simp))⟩
 have hodd':E1 k b n t l.length o.length=false:=by simpa using hodd
 clear hodd;by_cases h64:64<d
 . have hm:Bf (.mk k b n t l o) d=5:=by simp only[Bf,hodd',Bool.false_eq_true,if_false,h64,if_true]
   rw[hm];clear hm ihl iho hL hO;go_enter Tryz.func58,Tryz.ntmps58;go_wp2_with (go_at_call 116;refine(Az hodd' _).mono ?_;rintro e w' ⟨rfl,hb1⟩);go_ret;exact⟨rfl,((Below.refl _ _).alloc (Nat.le_refl _) _).trans (hb1.mono (by simp))⟩
 obtain⟨hk,ht,hl,ho⟩:=J1 hodd';simp only[Val.bulk]at hb;rcases hk with rfl|rfl|rfl|rfl|rfl|rfl
 . obtain rfl:l= []:=List.eq_nil_of_length_eq_zero (by omega);obtain rfl:o= []:=List.eq_nil_of_length_eq_zero (by omega);obtain rfl:t=ByteArray.empty:=by simpa using ht
   rw[Cn hodd' (by omega),Bj];clear ihl iho hL hO hl ho ht;go_enter Tryz.func58,Tryz.ntmps58;go_wp2_with (go_at_call 116;refine(Az hodd' _).mono ?_;rintro e w' ⟨rfl,hb1⟩;obtain⟨hc1,hf1⟩:=Cc hb1;have hz1:=hb1.size;simp only[World.size_alloc]at hz1);go_ret;exact⟨rfl,((Below.refl _ _).alloc (Nat.le_refl _) _).trans (hb1.mono (by simp))⟩
 . obtain rfl:l= []:=List.eq_nil_of_length_eq_zero (by omega);obtain rfl:o= []:=List.eq_nil_of_length_eq_zero (by omega);obtain rfl:t=ByteArray.empty:=by simpa using ht
   rw[Cn hodd' (by omega),Bj];clear ihl iho hL hO hl ho ht;go_enter Tryz.func58,Tryz.ntmps58;go_wp2_with (go_at_call 116;refine(Az hodd' _).mono ?_;rintro e w' ⟨rfl,hb1⟩;obtain⟨hc1,hf1⟩:=Cc hb1;have hz1:=hb1.size;simp only[World.size_alloc]at hz1);go_ret;exact⟨rfl,((Below.refl _ _).alloc (Nat.le_refl _) _).trans (hb1.mono (by simp))⟩
 . obtain rfl:l= []:=List.eq_nil_of_length_eq_zero (by omega);obtain rfl:o= []:=List.eq_nil_of_length_eq_zero (by omega);obtain rfl:t=ByteArray.empty:=by simpa using ht
   rw[Cn hodd' (by omega),Bj];clear ihl iho hL hO hl ho ht;go_enter Tryz.func58,Tryz.ntmps58;go_wp2_with (go_at_call 116;refine(Az hodd' _).mono ?_;rintro e w' ⟨rfl,hb1⟩;obtain⟨hc1,hf1⟩:=Cc hb1;have hz1:=hb1.size;simp only[World.size_alloc]at hz1);go_ret;exact⟨rfl,((Below.refl _ _).alloc (Nat.le_refl _) _).trans (hb1.mono (by simp))⟩
 . obtain rfl:l= []:=List.eq_nil_of_length_eq_zero (by omega);obtain rfl:o= []:=List.eq_nil_of_length_eq_zero (by omega);rw[Cn hodd' (by omega)];clear ihl iho hL hO hl ho ht;have hT1: ∀w1,Below w.heap.size w w1->A8 w1:=fun _ h=>hT.below h;by_cases hv:A7 t=true
   . rw[hv];go_enter Tryz.func58,Tryz.ntmps58;go_wp2_with (first|(go_at_call 116;refine(Az hodd' _).mono ?_;rintro e w1 ⟨rfl,hb1⟩;obtain⟨hc1,hf1⟩:=Cc hb1;have hz1:=hb1.size;simp only[World.size_alloc]at hz1;have hbw1:Below w.heap.size w w1:=((Below.refl _ _).alloc (Nat.le_refl _) _).trans (hb1.mono (by simp)))|(go_at_call 117;refine(Am hv _ (by omega) (hT1 _ hbw1)).mono ?_;rintro e w2 ⟨rfl,hb2⟩));go_ret;exact⟨rfl,hbw1.trans (hb2.mono hbw1.size)⟩
   . have hv':A7 t=false:=by simpa using hv
     rw[hv'];go_enter Tryz.func58,Tryz.ntmps58;go_wp2_with (first|(go_at_call 116;refine(Az hodd' _).mono ?_;rintro e w1 ⟨rfl,hb1⟩;obtain⟨hc1,hf1⟩:=Cc hb1;have hz1:=hb1.size;simp only[World.size_alloc]at hz1;have hbw1:Below w.heap.size w w1:=((Below.refl _ _).alloc (Nat.le_refl _) _).trans (hb1.mono (by simp)))|(go_at_call 117;refine(Am hv' _ (by omega) (hT1 _ hbw1)).mono ?_;rintro e w2 ⟨rfl,hb2⟩));go_ret;exact⟨rfl,hbw1.trans (hb2.mono hbw1.size)⟩
 . obtain rfl:o= []:=List.eq_nil_of_length_eq_zero (by omega);obtain rfl:t=ByteArray.empty:=by simpa using ht
   have hm:Bf (.mk 5 b n ByteArray.empty l []) d=Cx l (d+1):=by
    simp only[Bf,hodd',Bool.false_eq_true,if_false,h64,Bj,if_true,Dy]
    split<;>simp_all
   rw[hm];rcases hL with rfl|⟨g,off,rfl,hg,hL⟩
   . exact Gt b n _ [] la oa lc oc d w hT 0 0 (.inl rfl) (by simp[A9]) h0 (by omega) ihl hodd'
   . exact Gt b n _ l _ oa lc oc d w hT g off (.inr ⟨rfl,hg,hL⟩) (by omega) h0 (by omega) ihl hodd'
 . obtain rfl:l= []:=List.eq_nil_of_length_eq_zero (by omega);obtain rfl:t=ByteArray.empty:=by simpa using ht
   have hm:Bf (.mk 6 b n ByteArray.empty [] o) d=Dy o none (d+1):=by
    simp only[Bf,hodd',Bool.false_eq_true,if_false,h64,Bj,if_true,Cx]
   rw[hm];rcases hO with rfl|⟨g,off,rfl,hg,hO⟩
   . exact Jc b n _ [] la oa lc oc d w hT 0 0 (.inl rfl) (by simp[Aw]) h0 (by omega) iho hodd'
   . exact Jc b n _ o la _ lc oc d w hT g off (.inr ⟨rfl,hg,hO⟩) (by omega) h0 (by omega) iho hodd'
theorem Jk (v:Val) (cs:List Value) (w:World) (hT:A8 w) (hV:Ab w w.heap.size v cs) (hb:v.bulk<=1000000000):
 Calls Tryz.prog 33 #[.agg cs.toArray] w fun e w'=>e=.returned (.int .i64 (Bf v 1))/\Below w.heap.size w w':=by
 have hV':=hV;obtain⟨k,b,n,t,l,o⟩:=v;simp only[Ab]at hV';obtain⟨la,lc,oa,oc,rfl,_,_⟩:=hV';have hc:=Jy _ _ 1 (w.alloc (.cells #[.int .i64 k,.bool b,.int .i64 n,.string t,.slice la l.length lc,.slice oa o.length oc] 57)) (hT.below ((Below.refl _ _).alloc (Nat.le_refl _) _)) (Ab.more (by simp) _ _ (hV.below ((Below.refl _ _).alloc (Nat.le_refl _) _))) hb (by omega) (by omega);generalize Bf _ _=m at hc ⊢;have H:=qz hc;clear hc hV;go_enter Tryz.func33,Tryz.ntmps33;go_wp2_with (go_at_call 58;refine(H.out).mono ?_;rintro e w' ⟨rfl,hb1⟩);go_ret;exact⟨rfl,((Below.refl _ _).alloc (Nat.le_refl _) _).trans (hb1.mono (by simp))⟩
end Go.Proofs.YtolnhkmhfblhkaaGreatDoor
namespace Go.Proofs.YtolnhkmhfblhkaaGreatDoor
open Go.RowKit Go.Shelf
def Dh (w:World) (B g o:Nat) (t:TypeId) (cs:Array Value) (bs:List UInt8):Prop:=
 B<=g/\w.heap[g]? =some (.cells cs t (0,0))/\t≠5/\o+1<cs.size/\(cs[o]? =some (.pointer none)\/cs[o]? =some (.pointer (some ⟨g,o,none⟩)))/\
  ∃v,cs[o+1]? =some v/\w.ownsRow B 5 1 v bs.length (Lib.byteCells bs)
def Dd (g o:Nat) (cs:Array Value) (v:Value):Array Value:=(cs.setIfInBounds o (.pointer (some ⟨g,o,none⟩))).setIfInBounds (o+1) v
theorem Dh.lt {w:World} {B g o:Nat} {t:TypeId} {cs:Array Value} {bs:List UInt8} (h:Dh w B g o t cs bs):g<w.heap.size:=by
 rcases Nat.lt_or_ge g w.heap.size with h'|h'
 . exact h'
 . have:=h.2.1;simp[Array.getElem?_eq_none h']at this
abbrev A4 (g:Nat) (w w':World):Prop:=Lib.OthersKept 5 (some g) w w'
theorem Bx {w:World} {g i:Nat} {cs:Array Value} {t:TypeId} (h:w.heap[g]? =some (.cells cs t (0,0))) (u:Value):(w.setCell ⟨g,i,none⟩ u).heap[g]? =some (.cells (cs.setIfInBounds i u) t (0,0)):=by
 simp[World.setCell,Array.getElem?_modify,h]
theorem Dh.used {w:World} {B g o:Nat} {t:TypeId} {cs:Array Value} {bs:List UInt8} (h:Dh w B g o t cs bs):
 Dh (w.setCell ⟨g,o,none⟩ (.pointer (some ⟨g,o,none⟩))) B g o t (cs.setIfInBounds o (.pointer (some ⟨g,o,none⟩))) bs:=by
 obtain⟨hB,hb,ht,hs,h0,v,h1,hown⟩:=h;refine⟨hB,Bx hb _,ht,by simpa using hs,.inr (by rw[Array.getElem?_setIfInBounds_self_of_lt (by omega)]),v,by rw[Array.getElem?_setIfInBounds,if_neg (by omega)];exact h1, ?_⟩;exact hown.kept (row:=some g) ⟨rfl,rfl,rfl,by simp[World.setCell],fun k _ hk=>Below.heap_setCell _ _ _ _ (fun e=>hk (by simp[e]))⟩ (Or.inr (Lib.ownBlock_ne hown hb ht))
theorem Bt (B g o:Nat) (t:TypeId) (cs:Array Value) (bs:List UInt8) (w:World) (h:Dh w B g o t cs bs) (hl:liesAt Tryz.prog Tryz.prog.depth t (cs.size / Tryz.prog.cellsOf t) o 88 1=true):
 Calls Tryz.prog 155 #[.pointer (some ⟨g,o,none⟩)] w fun e w'=>e=.returned (.tuple #[])/\Dh w' B g o t (cs.setIfInBounds o (.pointer (some ⟨g,o,none⟩))) bs/\Below B w w'/\A4 g w w':=by
 have hu:=h.used;obtain⟨hB,hb,ht,hs,h0,v,h1,hown⟩:=h;obtain⟨j,hj,hj2⟩: ∃j,Tryz.prog.info? 88=some j/\j.size=2:=by
  have:(Tryz.prog.info? 88).map (·.size)=some 2:=by kernel_rfl
  cases hq:Tryz.prog.info? 88 with
  |none=>simp[hq]at this
  |some j=>exact⟨j,rfl,by simpa[hq]using this⟩
 have hsh:w.shape? g=some (t,cs.size):=by simp[World.shape?,hb]
 rcases h0 with h0|h0
 . have c0:w.cell? ⟨g,o,none⟩=some (.pointer none):=by rw[Lib.cell_of_heap hb];exact h0
   have f0:w.frozen? ⟨g,o,none⟩=false:=Lib.frozen_of_heap hb o;go_enter Tryz.func155,Tryz.ntmps155;go_wp2;rw[Lib.run_to_unsafe (P:=Tryz.prog) w (src:=86) (dst:=281) (t:=88) ⟨g,o,none⟩ Tryz.underlying86 Tryz.underlying281 hj (by omega) hsh (by show o<cs.size;omega)];simp only[Result.andThen];rw[Oper.upon_value];go_wp2;rw[run_callFunc_extern Tryz.func197 (by kernel_rfl) (by kernel_rfl) (by kernel_rfl) (e:=Extern.AbiNoEscape.same) (by kernel_rfl)];rw[Lib.run_noEscape];simp only[Result.andThen];rw[Oper.upon_value];go_wp2;rw[Lib.run_from_unsafe (P:=Tryz.prog) w (src:=281) (dst:=86) (u:=88) ⟨g,o,none⟩ Tryz.underlying281 Tryz.underlying86 hj hsh hl];simp only[Result.andThen];rw[Oper.upon_value];go_wp2
   go_end0
   exact⟨rfl,hu,(Below.refl B w).setCell (p:=⟨g,o,none⟩) hB _,(Lib.OthersKept.refl _ _ w).setCell ⟨g,o,none⟩ rfl _⟩
 . have c0:w.cell? ⟨g,o,none⟩=some (.pointer (some ⟨g,o,none⟩)):=by rw[Lib.cell_of_heap hb];exact h0
   have hself:cs.setIfInBounds o (.pointer (some ⟨g,o,none⟩))=cs:=by
    apply Array.ext_getElem?
    intro i;rw[Array.getElem?_setIfInBounds]
    split
    . rename_i h;subst h;rw[if_pos (by omega),h0]
    . rfl
   have neq:=Lib.run_neq_ptr_same (P:=Tryz.prog) w (tp:=86) (te:=88) ⟨g,o,none⟩ Tryz.underlying86 hj;go_enter Tryz.func155,Tryz.ntmps155;go_wp2
   go_end0
   exact⟨rfl,by rw[hself];exact⟨hB,hb,ht,hs,.inr h0,v,h1,hown⟩,Below.refl _ _,Lib.OthersKept.refl _ _ _⟩
theorem Gr:(Tryz.prog.info? 5).map (fun i=>(i.zero,i.size,i.bytes))=some (some (.int .u8 0),1,1):=by kernel_rfl
theorem Dh.put {w1 w2:World} {B g o:Nat} {t:TypeId} {cs:Array Value} {bs bs':List UInt8} (h:Dh w1 B g o t (cs.setIfInBounds o (.pointer (some ⟨g,o,none⟩))) bs) (hos:o+1<cs.size)
 (hb2:w2.heap[g]? =some (.cells (cs.setIfInBounds o (.pointer (some ⟨g,o,none⟩))) t (0,0))) {v':Value} (hown':w2.ownsRow B 5 1 v' bs'.length (Lib.byteCells bs')):
 Dh (w2.setCell ⟨g,o+1,none⟩ v') B g o t (Dd g o cs v') bs':=by
 obtain⟨hB,_,ht,hs,h0,_⟩:=h;refine⟨hB,Bx hb2 _,ht,by simpa[Dd]using hs,.inr ?_,v', ?_, ?_⟩
 . unfold Dd;rw[Array.getElem?_setIfInBounds,if_neg (by omega),Array.getElem?_setIfInBounds_self_of_lt (by omega)]
 . unfold Dd;rw[Array.getElem?_setIfInBounds_self_of_lt (by simpa using hs)]
 . exact hown'.kept (row:=some g) ⟨rfl,rfl,rfl,by simp[World.setCell],fun k _ hk=>Below.heap_setCell _ _ _ _ (fun e=>hk (by simp[e]))⟩ (Or.inr (Lib.ownBlock_ne hown' hb2 ht))
theorem Bw {w:World} {B:Nat} {e:TypeId} {v:Value} {n:Nat} {xs:List Value} (h:w.ownsRow B e 1 v n xs): ∀g,v.ownBlock=some g-> ∃c fz,w.heap[g]? =some (.cells c e fz):=by
 intro g hg;rcases h.2 with⟨rfl,_⟩|⟨g',cap,cur,rfl,_,hgg,_⟩
 . simp[Value.ownBlock]at hg
 . simp[Value.ownBlock]at hg;subst hg;exact⟨cur,_,hgg⟩
theorem Bk (a b:List UInt8):Lib.byteCells (a++b)=Lib.byteCells a++Lib.byteCells b:=by simp[Lib.byteCells]
theorem Cb (B g o:Nat) (t:TypeId) (cs:Array Value) (bs:List UInt8) (s:ByteArray) (w:World) (h:Dh w B g o t cs bs) (hl:liesAt Tryz.prog Tryz.prog.depth t (cs.size / Tryz.prog.cellsOf t) o 88 1=true)
 (hlen:bs.length+s.size<=140737488355328) (hBw:B<=w.heap.size):
 Calls Tryz.prog 118 #[.pointer (some ⟨g,o,none⟩),.string s] w fun e w'=>e=.returned (.tuple #[.int .i64 s.size,.nilIface])/\
  (∃v,Dh w' B g o t (Dd g o cs v) (bs++s.data.toList))/\Below B w w'/\A4 g w w':=by
 obtain⟨i0,hi,hz0,hz1,hz2⟩:=info_parts Gr;have hos:o+1<cs.size:=h.2.2.2.1;go_enter Tryz.func118,Tryz.ntmps118;go_wp2_with (go_at_call 155;refine(Bt B g o t cs bs _ h hl).mono ?_);rintro e w1 ⟨rfl,h1,hb1,hk1⟩;have h1':=h1;obtain⟨hB,hbk,ht,hs,h0,v,hv,hown⟩:=h1;have c1:w1.cell? ⟨g,o+1,none⟩=some v:=by rw[Lib.cell_of_heap hbk];exact hv
 clear h hv h0;go_wp2_with (at_builtin;refine Lib.wpList_append_own_string _ rfl _ _ 30 9 rfl B 5 i0 Tryz.underlying30 Tryz.underlying9 hi hz0 hz1 hz2 _ _ _ rfl hown s rfl ?c3 ?c4 ?c5 ?_)
 case c3=>unfold maxLen;omega
 case c4=>omega
 case c5=>have:=hb1.size;omega
 intro v' w2 hown' hgrow _;have hne:=Lib.ownBlock_ne hown hbk ht;have hlt:g<w1.heap.size:=h1'.lt;have hb2:w2.heap[g]? =some (.cells (cs.setIfInBounds o (.pointer (some ⟨g,o,none⟩))) t (0,0)):=by
  rw[hgrow.block g hlt (fun e=>hne e.symm)];exact hbk
 have d1:w2.cell? ⟨g,o+1,none⟩=some v:=by rw[Lib.cell_of_heap hb2,<-Lib.cell_of_heap hbk];exact c1
 have f1:w2.frozen? ⟨g,o+1,none⟩=false:=Lib.frozen_of_heap hb2 _;have hk2:=hk1.grown hgrow (Bw hown);have hbw2:=hb1.grown hgrow (by have:=hb1.size;omega) (fun k hk=>(hown.lt k hk).1);obtain⟨ao,n',cap,rfl⟩: ∃ao n' cap,v'=.slice ao n' cap:=by
  rcases hown'.2 with⟨hv,_⟩|⟨g,cap,cur,hv,_⟩
  . exact⟨_,_,_,hv⟩
  . exact⟨_,_,_,hv⟩
 have hfin:=Dh.put h1' hos hb2 (bs':=bs++s.data.toList) (v':=.slice ao n' cap) (by
  rw[Bk,List.length_append];have e:s.data.toList.length=s.size:=by rw[<-Lib.size_eq]
  rw[e];exact hown')
 clear hown hown' hgrow c1 hbk hb2 h1' hb1 hk1 hne;go_wp2;go_ret2;exact⟨rfl,⟨_,hfin⟩,hbw2.setCell (p:=⟨g,o+1,none⟩) hB _,hk2.setCell ⟨g,o+1,none⟩ rfl _⟩
theorem Ee (B g o:Nat) (t:TypeId) (cs:Array Value) (bs:List UInt8) (c:Int) (hc0:0<=c) (hc1:c<256) (w:World) (h:Dh w B g o t cs bs) (hl:liesAt Tryz.prog Tryz.prog.depth t (cs.size / Tryz.prog.cellsOf t) o 88 1=true)
 (hlen:bs.length+1<=140737488355328) (hBw:B<=w.heap.size):
 Calls Tryz.prog 160 #[.pointer (some ⟨g,o,none⟩),.int .u8 c] w fun e w'=>e=.returned .nilIface/\
  (∃v,Dh w' B g o t (Dd g o cs v) (bs++ [UInt8.ofNat c.toNat]))/\Below B w w'/\A4 g w w':=by
 obtain⟨i0,hi,hz0,hz1,hz2⟩:=info_parts Gr;have hos:o+1<cs.size:=h.2.2.2.1;go_enter Tryz.func160,Tryz.ntmps160;go_wp2_with (go_at_call 155;refine(Bt B g o t cs bs _ h hl).mono ?_);rintro e w1 ⟨rfl,h1,hb1,hk1⟩;have h1':=h1;obtain⟨hB,hbk,ht,hs,h0,v,hv,hown⟩:=h1;have c1:w1.cell? ⟨g,o+1,none⟩=some v:=by rw[Lib.cell_of_heap hbk];exact hv
 clear h hv h0;go_wp2_with (at_builtin;refine wpList_append_own _ rfl _ _ 30 rfl B 5 i0 (.int .u8 0) 1 1 Tryz.underlying30 hi hz0 hz1 hz2 rfl (by decide) _ _ _ rfl (hown.alloc _) ⟨w1.heap.size,0,none⟩ 1 1 [.int .u8 c] rfl rfl ?c1 ?c2 ?c3 ?c4 ?c5 ?_)
 case c1=>
  intro j u hj
  match j,hj with
  |0,hj=>simp at hj;subst hj;simp[Addr.add]
 case c2=>intro u hu;simp at hu;subst hu;rfl
 case c3=>unfold maxLen;omega
 case c4=>omega
 case c5=>have:=hb1.size;simp;omega
 intro v' w2 hown' hgrow _;have hne:=Lib.ownBlock_ne hown hbk ht;have hlt:g<w1.heap.size:=h1'.lt;have hb2:w2.heap[g]? =some (.cells (cs.setIfInBounds o (.pointer (some ⟨g,o,none⟩))) t (0,0)):=by
  rw[hgrow.block g (by simp;omega) (fun e=>hne e.symm),Lib.alloc_old w1 _ g hlt];exact hbk
 have d1:w2.cell? ⟨g,o+1,none⟩=some v:=by rw[Lib.cell_of_heap hb2,<-Lib.cell_of_heap hbk];exact c1
 have f1:w2.frozen? ⟨g,o+1,none⟩=false:=Lib.frozen_of_heap hb2 _;have hk2:=(hk1.alloc _).grown hgrow (Bw (hown.alloc _));have hbw2:=(hb1.alloc (by have:=hb1.size;omega) _).grown hgrow (by have:=hb1.size;simp;omega) (fun k hk=>(hown.lt k hk).1);obtain⟨ao,n',cap,rfl⟩: ∃ao n' cap,v'=.slice ao n' cap:=by
  rcases hown'.2 with⟨hv,_⟩|⟨g,cap,cur,hv,_⟩
  . exact⟨_,_,_,hv⟩
  . exact⟨_,_,_,hv⟩
 have hfin:=Dh.put h1' hos hb2 (bs':=bs++ [UInt8.ofNat c.toNat]) (v':=.slice ao n' cap) (by
  rw[Bk,List.length_append];have e:Lib.byteCells [UInt8.ofNat c.toNat]= [.int .u8 c]:=by
   simp[Lib.byteCells];omega
  rw[e];exact hown')
 clear hown hown' hgrow c1 hbk hb2 h1' hb1 hk1 hne;go_wp2;go_ret;exact⟨rfl,⟨_,hfin⟩,hbw2.setCell (p:=⟨g,o+1,none⟩) hB _,hk2.setCell ⟨g,o+1,none⟩ rfl _⟩
theorem Ei (r:Int):Lib.runeCells r=Lib.byteCells (Lib.encodeRune r):=(Lib.byteCells_encodeRune r).symm
theorem Ef (B g o:Nat) (t:TypeId) (cs:Array Value) (bs:List UInt8) (r:Int) (hr0: -2147483648<=r) (hr1:r<=2147483647) (w:World) (h:Dh w B g o t cs bs) (hl:liesAt Tryz.prog Tryz.prog.depth t (cs.size / Tryz.prog.cellsOf t) o 88 1=true)
 (hlen:bs.length+4<=140737488355328) (hBw:B<=w.heap.size):
 Calls Tryz.prog 163 #[.pointer (some ⟨g,o,none⟩),.int .i32 r] w fun e w'=>(∃k:Int,e=.returned (.tuple #[.int .i64 k,.nilIface]))/\
  (∃v,Dh w' B g o t (Dd g o cs v) (bs++Lib.encodeRune r))/\Below B w w'/\A4 g w w':=by
 have hos:o+1<cs.size:=h.2.2.2.1;go_enter Tryz.func163,Tryz.ntmps163;go_wp2_with (go_at_call 155;refine(Bt B g o t cs bs _ h hl).mono ?_);rintro e w1 ⟨rfl,h1,hb1,hk1⟩;have h1':=h1;obtain⟨hB,hbk,ht,hs,h0,v,hv,hown⟩:=h1;have c1:w1.cell? ⟨g,o+1,none⟩=some v:=by rw[Lib.cell_of_heap hbk];exact hv
 clear h hv h0;obtain⟨ao,n0,cap,rfl⟩: ∃ao n' cap,v=.slice ao n' cap:=by
  rcases hown.2 with⟨hv,_⟩|⟨g,cap,cur,hv,_⟩
  . exact⟨_,_,_,hv⟩
  . exact⟨_,_,_,hv⟩
 go_wp2_with (go_at_call 205;refine(Tryz.utf8_AppendRune_plain B _ _ _ r hr0 hr1 _ hown (by omega) (by have:=hb1.size;omega)).mono ?_);rintro e w2 ⟨v',rfl,hown',ob,hgrow⟩;have hne:=Lib.ownBlock_ne hown hbk ht;have hlt:g<w1.heap.size:=h1'.lt;have hb2:w2.heap[g]? =some (.cells (cs.setIfInBounds o (.pointer (some ⟨g,o,none⟩))) t (0,0)):=by
  rw[hgrow.block g (by simp;omega) (fun e=>hne e.symm),Lib.alloc_old w1 _ g hlt];exact hbk
 have d1:w2.cell? ⟨g,o+1,none⟩=some (.slice ao n0 cap):=by rw[Lib.cell_of_heap hb2,<-Lib.cell_of_heap hbk];exact c1
 have f1:w2.frozen? ⟨g,o+1,none⟩=false:=Lib.frozen_of_heap hb2 _;have hk2:=(hk1.alloc ob).grown hgrow (Bw (hown.alloc _));have hbw2:=(hb1.alloc (by have:=hb1.size;omega) ob).grown hgrow (by have:=hb1.size;simp;omega) (fun k hk=>(hown.lt k hk).1);obtain⟨ao',n',cap',rfl⟩: ∃ao n' cap,v'=.slice ao n' cap:=by
  rcases hown'.2 with⟨hv,_⟩|⟨g,cap,cur,hv,_⟩
  . exact⟨_,_,_,hv⟩
  . exact⟨_,_,_,hv⟩
 have hfin:=Dh.put h1' hos hb2 (bs':=bs++Lib.encodeRune r) (v':=.slice ao' n' cap') (by
  rw[Bk,List.length_append];rw[Ei]at hown';simpa[Lib.byteCells]using hown')
 have e1:(w2.setCell ⟨g,o+1,none⟩ (.slice ao' n' cap')).cell? ⟨g,o+1,none⟩=some (.slice ao' n' cap'):=World.cell?_setCell_same' _ _ _ (by rw[d1];rfl);clear hown hown' hgrow c1 hbk hb2 h1' hb1 hk1 hne;go_wp2;go_ret2;exact⟨⟨_,rfl⟩,⟨_,hfin⟩,hbw2.setCell (p:=⟨g,o+1,none⟩) hB _,hk2.setCell ⟨g,o+1,none⟩ rfl _⟩
theorem Di (B g o:Nat) (t:TypeId) (cs:Array Value) (l:List UInt8) (w:World) (h:Dh w B g o t cs l) (hl0:l≠ []):
 Calls Tryz.prog 35 #[.pointer (some ⟨g,o,none⟩)] w fun e w'=>e=.returned (.string ⟨l.toArray⟩)/\Below B w w'/\A4 g w w':=by
 obtain⟨hB,hbk,ht,hs,h0,v,hv,hown⟩:=h;have hl1:l.length≠0:=by simpa using hl0
 obtain⟨gg,cap,cur,rfl,hbg,hg,hnc,hcm,hcs,htake⟩: ∃gg cap cur,v=.slice (some ⟨gg,0,none⟩) l.length cap/\B<=gg/\w.heap[gg]? =some (.cells cur 5 (0,0))/\l.length<=cap/\cap<=maxLen/\cur.size=cap*1/\cur.toList.take (l.length*1)=Lib.byteCells l:=by
  rcases hown.2 with⟨_,hz⟩|⟨gg,cap,cur,hv,r⟩
  . exact absurd hz hl1
  . exact⟨gg,cap,cur,hv,r⟩
 have c1:w.drew.cell? ⟨g,o+1,none⟩=some (.slice (some ⟨gg,0,none⟩) l.length cap):=by
  have:w.drew.heap[g]? =some (.cells cs t (0,0)):=hbk;rw[Lib.cell_of_heap this];exact hv
 have hSD:(Builtin.unsafeSliceData_ #[30] 140 #[.slice (some ⟨gg,0,none⟩) l.length cap]).run Tryz.prog w.drew=.ok (.pointer (some ⟨gg,0,none⟩)) w.drew:=
  Lib.run_unsafeSliceData_row _ _ _ _ _ _ (by omega)
 have hUS:(Builtin.unsafeString_ #[140,3] 9 #[.pointer (some ⟨gg,0,none⟩),.int .i64 l.length]).run Tryz.prog w.drew=.ok (.string ⟨l.toArray⟩) (w.drew.freeze ⟨gg,0,none⟩ l.length):=by
  refine Lib.run_unsafeString_row w.drew 140 3 9 5 Tryz.underlying140 (by kernel_rfl) gg cur.size (by have hg':w.drew.heap[gg]? =some (.cells cur 5 (0,0)):=hg;simp[World.shape?,hg']) l hl0 (by omega) (by unfold maxLen at hcm;omega) ?_;intro j x hx;have:=hown.cells (g:=gg) rfl j (.int .u8 x.toNat) (by simp[Lib.byteCells,hx]);exact this
 clear hv h0;go_enter Tryz.func35,Tryz.ntmps35;go_wp2;go_region
 all_goals(go_wp2;go_ret;exact⟨rfl,Lib.below_freeze (Below.drew (Below.refl B w)) (p:=⟨gg,0,none⟩) hbg _,((Lib.OthersKept.refl _ _ w).drew).freeze ⟨gg,0,none⟩ _ ⟨cur,_,hg⟩⟩)
end Go.Proofs.YtolnhkmhfblhkaaGreatDoor
