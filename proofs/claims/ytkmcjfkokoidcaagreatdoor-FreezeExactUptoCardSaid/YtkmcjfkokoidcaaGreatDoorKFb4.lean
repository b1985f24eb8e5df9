/- Parts: Why a value may not be: the program's function and the reference's, held against one plain function. Condition: texts shorter than 2^63. -/
import Derived.Test.YtkmcjfkokoidcaaGreatDoorZFbShelf
import Derived.IntWalk
import Derived.Lib.SmallJoins
import Derived.Test.YtkmcjfkokoidcaaGreatDoorKFb1
set_option maxHeartbeats 20000000
namespace Go.Proofs.YtkmcjfkokoidcaaGreatDoor
open Go.RowKit
def B3 (w:World):Prop:=
 5<=w.heap.size/\Lib.Utf8Tabs 1 2 w/\Lib.TabIs Tryz.prog w "internal/strconv.uint64pow10" .u64 Lib.pow10Tab
def A8 (s:ByteArray):Bool:=Lib.validD s.data.toList
theorem Sa (s:ByteArray) (w:World) (hs:s.size<=9223372036854775807) (hT:B3 w):
 Calls Tryz.prog 159 #[.string s] w fun e w'=>e=.returned (.bool (A8 s))/\Below w.heap.size w w':=by
 have cV:=Tryz.utf8_ValidString s w hs hT.2.1;unfold A8;generalize Lib.validD s.data.toList=V at cV ⊢;go_enter Tryz.func159,Tryz.ntmps159;go_wp2_with (go_at_call 214;refine cV.mono ?_;rintro e w' ⟨rfl,hb⟩);go_ret;exact⟨rfl,hb⟩
def leB (a b:ByteArray):Bool:=Op.bytesLess a.toList b.toList||a.toList==b.toList
mutual
def Aw:Val->Int->Int
 | .mk k b n t l o,d=>
   if Fl k b n t l.length o.length then 9 else if 64<d then 5 else if A8 t then(if Dj l (d+1)=0 then Do o none (d+1)else Dj l (d+1))else 3
def Dj:List Val->Int->Int
 | [],_=>0
 |v::r,d=>if Aw v d=0 then Dj r d else Aw v d
def Do:List (ByteArray×Val)->Option ByteArray->Int->Int
 | [],_,_=>0
 |p::r,last,d=>if Ol p last d=0 then Do r (some p.1) d else Ol p last d
def Ol:ByteArray×Val->Option ByteArray->Int->Int
 |(key,v),last,d=>if A8 key then(match last with|none=>Aw v d|some q=>if leB key q then 8 else Aw v d)else 3
end
theorem D6 {k:Int} {b:Bool} {n:Int} {t:ByteArray} {la oa:Option Addr} {ln lc on oc:Nat} {B:Bool} (h:Fl k b n t ln on=B) (w:World):
 Calls Tryz.prog 158 #[.agg #[.int .i64 k,.bool b,.int .i64 n,.string t,.slice la ln lc,.slice oa on oc]] w fun e w'=>e=.returned (.bool B)/\Below w.heap.size w w':=by
 subst h;exact Acr _ _ _ _ _ _ _ _ _ _ _
theorem B3.below {w w':World} (h:B3 w) (hb:Below w.heap.size w w'):B3 w':=by
 obtain⟨h5,⟨h1,h2⟩,h3⟩:=h;refine⟨Nat.le_trans h5 hb.size,⟨fun c hc=> ?_,fun i hi=>⟨?_, ?_⟩⟩,Go.Joins.tab_stays (g:=4) (by kernel_rfl) h3 hb (Nat.le_refl _)⟩
 . exact(hb.cell (p:=⟨1,c,none⟩) (by show 1<_;omega)).trans (h1 c hc)
 . exact(hb.cell (p:=⟨2,2*i,none⟩) (by show 2<_;omega)).trans (h2 i hi).1
 . exact(hb.cell (p:=⟨2,2*i+1,none⟩) (by show 2<_;omega)).trans (h2 i hi).2
theorem Fy {W w1:World} (hb:Below W.heap.size W w1):(∀b o,b<W.heap.size->w1.cell? ⟨b,o,none⟩=W.cell? ⟨b,o,none⟩)/\(∀b o,b<W.heap.size->w1.frozen? ⟨b,o,none⟩=W.frozen? ⟨b,o,none⟩):=
 ⟨fun b o h=>hb.cell (p:=⟨b,o,none⟩) h,fun b o h=>hb.frozen (p:=⟨b,o,none⟩) h⟩
theorem C3 {α:Type} {l:List α} {k:Nat} {v:α} (h:l[k]? =some v):l.drop k=v::l.drop (k+1):=by
 obtain⟨hlt,rfl⟩:=List.getElem?_eq_some_iff.1 h;exact List.drop_eq_getElem_cons hlt
theorem A4 {B:Nat} {a w:World} (h:Below B a w) (n:Nat):Below B a (w.drewN n):=⟨h.os,h.tape,h.output,h.size,h.block⟩
def Agy (v:Val):Prop:= ∀(cs:List Value) (d:Int) (w:World),B3 w->Ac w w.heap.size v cs->v.bulk<=1000000000->0<=d->d<=65->
    Calls Tryz.prog 94 #[.agg cs.toArray,.int .i64 d] w fun e w'=>e=.returned (.int .i64 (Aw v d))/\Below w.heap.size w w'
theorem Xl (b:Bool) (n:Int) (t:ByteArray) (l:List Val) (la oa:Option Addr) (lc oc:Nat) (d:Int) (w:World) (hT:B3 w) (g off:Nat) (hla:l= []\/(la=some ⟨g,off,none⟩/\g<w.heap.size/\Ao w w.heap.size l g off))
 (hb:Bg l<=1000000000) (h0:0<=d) (h64:d<=64) (IH: ∀v ∈ l,Agy v) (hodd:Fl 5 b n t l.length 0=false):
 Calls Tryz.prog 94 #[.agg #[.int .i64 5,.bool b,.int .i64 n,.string t,.slice la l.length lc,.slice oa 0 oc],.int .i64 d] w fun e w'=>e=.returned (.int .i64 (Dj l (d+1)))/\Below w.heap.size w w':=by
 have hlen:l.length<=1000000000:=by have:=Dr l;omega
 go_enter Tryz.func94,Tryz.ntmps94;go_wp2_with (go_at_call 158;refine(D6 hodd _).mono ?_;rintro e w1 ⟨rfl,hb1⟩;obtain⟨hc1,hf1⟩:=Fy hb1;have hz1:=hb1.size;simp only[World.size_alloc]at hz1);have hbw1:Below w.heap.size w w1:=((Below.refl _ _).alloc (Nat.le_refl _) _).trans (hb1.mono (by simp));have H:Hid (Dj (l.drop 0) (d+1)=Dj l (d+1)):=by rw[List.drop_zero];exact rfl
 clear hb1 hodd hc1 hf1 hz1;go_loopw [30] (fun i wr=> ∃k:Nat,k<=l.length/\i=.int .i64 k/\Hid (Dj (l.drop k) (d+1)=Dj l (d+1))/\Below w.heap.size w wr) (fun i _=>l.length - (intOf i).toNat)
 case atStart=>exact⟨0,Nat.zero_le _,rfl,H,hbw1⟩
 case round=>
  obtain⟨k,hk,rfl,hm,hbw⟩:=hrel;clear H hbw1;by_cases hlt:k<l.length
  . obtain⟨rfl,hg,hL⟩:la=some ⟨g,off,none⟩/\g<w.heap.size/\Ao w w.heap.size l g off:=by
     rcases hla with rfl|h
     . simp at hlt
     . exact h
    obtain⟨v,hv⟩: ∃v,l[k]? =some v:=⟨_,List.getElem?_eq_getElem hlt⟩;have hdrop:l.drop k=v::l.drop (k+1):=C3 hv;have hmem:v ∈ l:=List.mem_of_getElem? hv;have hbv:=Ew hmem;have IHv:=qz (IH v hmem);have hm':=hm.out;rw[hdrop]at hm';simp only[Dj]at hm';clear hm hdrop hmem IH;obtain⟨m,hmv⟩: ∃m,Aw v (d+1)=m:=⟨_,rfl⟩;rw[hmv]at hm';obtain⟨Hmv,Hm⟩:=hid2 hmv hm';clear hm' hmv;obtain⟨k',b',n',t',l',o'⟩:=v;obtain⟨la',lc',oa',oc',hvs,c0,c1,c2,c3,c4,c5⟩:=(hL.below hg hbw).six hv;clear hla hL hv;have hz:=hbw.size;by_cases hm0:m=0
    . have Hk:Hid (Dj (l.drop (k+1)) (d+1)=Dj l (d+1)):=by
       have:=Hm.out
       rwa [if_pos hm0]at this
      subst hm0;clear Hm;go_wp2_with (go_at_call 94;refine(IHv.out _ (d+1) _ (hT.below (hbw.alloc hz _)) (Ac.more (by simp;omega) _ _ (hvs.below ((Below.refl _ _).alloc hz _))) (by omega) (by omega) (by omega)).mono ?_;rintro e w2 ⟨he,hb2⟩;rw[Hmv.out]at he;subst he;have hbw2:Below w.heap.size w w2:=(hbw.alloc hz _).trans (hb2.mono (by simp;omega));obtain⟨hc2,hf2⟩:=Fy hb2;have hz2:=hb2.size;simp only[World.size_alloc]at hz2);go_roundw
      case rel=>exact⟨k+1,by omega,by go_num,Hk,hbw2⟩
      case measure=>simp[intOf];omega
    . have Hk:Hid (m=Dj l (d+1)):=by
       have:=Hm.out
       rwa [if_neg hm0]at this
      clear Hm;have hm1:(m==0)=false:=by simpa using hm0
      have hm2:(m != 0)=true:=by simpa using hm0
      go_wp2_with (go_at_call 94;refine(IHv.out _ (d+1) _ (hT.below (hbw.alloc hz _)) (Ac.more (by simp;omega) _ _ (hvs.below ((Below.refl _ _).alloc hz _))) (by omega) (by omega) (by omega)).mono ?_;rintro e w2 ⟨he,hb2⟩;rw[Hmv.out]at he;subst he;have hbw2:Below w.heap.size w w2:=(hbw.alloc hz _).trans (hb2.mono (by simp;omega));obtain⟨hc2,hf2⟩:=Fy hb2;have hz2:=hb2.size;simp only[World.size_alloc]at hz2);go_ret;exact⟨by rw[<-Hk.out];rfl,hbw2⟩
  . obtain rfl:k=l.length:=by omega
    rw[List.drop_length]at hm;go_wp2;go_ret;exact⟨by rw[<-hm.out];rfl,hbw⟩
theorem Bw {s:ByteArray} {B:Bool} (h:A8 s=B) (w:World) (hs:s.size<=9223372036854775807) (hT:B3 w):
 Calls Tryz.prog 159 #[.string s] w fun e w'=>e=.returned (.bool B)/\Below w.heap.size w w':=by
 subst h;exact Sa _ _ hs hT
def Ey (o:List (ByteArray×Val)):Nat->Option ByteArray
 |0=>none
 |k+1=>(o[k]?).map (·.1)
theorem Abf (b:Bool) (n:Int) (t:ByteArray) (o:List (ByteArray×Val)) (la oa:Option Addr) (lc oc:Nat) (d:Int) (w:World) (hT:B3 w) (g off:Nat) (hoa:o= []\/(oa=some ⟨g,off,none⟩/\g<w.heap.size/\Ak w w.heap.size o g off))
 (hb:Ae o<=1000000000) (h0:0<=d) (h64:d<=64) (IH: ∀m ∈ o,Agy m.2) (hodd:Fl 6 b n t 0 o.length=false):
 Calls Tryz.prog 94 #[.agg #[.int .i64 6,.bool b,.int .i64 n,.string t,.slice la 0 lc,.slice oa o.length oc],.int .i64 d] w fun e w'=>e=.returned (.int .i64 (Do o none (d+1)))/\Below w.heap.size w w':=by
 have hlen:o.length<=1000000000:=by have:=Ba o;omega
 go_enter Tryz.func94,Tryz.ntmps94;go_wp2_with (go_at_call 158;refine(D6 hodd _).mono ?_;rintro e w1 ⟨rfl,hb1⟩;obtain⟨hc1,hf1⟩:=Fy hb1;have hz1:=hb1.size;simp only[World.size_alloc]at hz1);have hbw1:Below w.heap.size w w1:=((Below.refl _ _).alloc (Nat.le_refl _) _).trans (hb1.mono (by simp));have hbox1:w1.heap[w.heap.size]? =some (.cells #[.int .i64 6,.bool b,.int .i64 n,.string t,.slice la 0 lc,.slice oa o.length oc] 37 (0,0)):=by
  rw[hb1.block _ (by simp)];exact heap_alloc_new _ _
 have H:Hid (Do (o.drop 0) (Ey o 0) (d+1)=Do o none (d+1)):=by rw[List.drop_zero];exact rfl
 clear hb1 hodd hc1 hf1 hz1;go_loopw [47] (fun i wr=> ∃k:Nat,k<=o.length/\i=.int .i64 k/\Hid (Do (o.drop k) (Ey o k) (d+1)=Do o none (d+1))/\Below w.heap.size w wr/\wr.heap[w.heap.size]? =some (.cells #[.int .i64 6,.bool b,.int .i64 n,.string t,.slice la 0 lc,.slice oa o.length oc] 37 (0,0))) (fun i _=>o.length - (intOf i).toNat)
 case atStart=>exact⟨0,Nat.zero_le _,rfl,H,hbw1,hbox1⟩
 case round=>
  obtain⟨k,hk,rfl,hm,hbw,hbox⟩:=hrel;clear H hbw1 hbox1;by_cases hlt:k<o.length
  . obtain⟨rfl,hg,hL⟩:oa=some ⟨g,off,none⟩/\g<w.heap.size/\Ak w w.heap.size o g off:=by
     rcases hoa with rfl|h
     . simp at hlt
     . exact h
    obtain⟨⟨key,v⟩,hv⟩: ∃v,o[k]? =some v:=⟨_,List.getElem?_eq_getElem hlt⟩;have hdrop:o.drop k=(key,v)::o.drop (k+1):=C3 hv;have hmem:(key,v) ∈ o:=List.mem_of_getElem? hv;have hbv:=Ck hmem;simp only at hbv;have IHv:=qz (IH (key,v) hmem);have hlast:Ey o (k+1)=some key:=by simp[Ey,hv]
    have hm':=hm.out;rw[hdrop]at hm';simp only[Do,Ol,<-hlast]at hm';clear hm hdrop hmem IH;have hbx:w.heap.size<wr.heap.size:=(Array.getElem?_eq_some_iff.1 hbox).1;have b5:wr.cell? ⟨w.heap.size,5,none⟩=some (.slice (some ⟨g,off,none⟩) o.length oc):=by rw[Lib.cell_of_heap hbox];rfl
    have hz:=hbw.size;have hLr:=hL.below hg hbw;have hgr:g<wr.heap.size:=by omega
    obtain⟨k',b',n',t',l',o'⟩:=v;obtain⟨la',lc',oa',oc',hvs,c0,c1,c2,c3,c4,c5,c6⟩:=hLr.seven hv;by_cases hval:A8 key=true
    . rw[hval]at hm';simp only[if_true]at hm';by_cases hkp:0<k
      ·
       have hlt1:k - 1<o.length:=by omega
       obtain⟨⟨q,vq⟩,hq⟩: ∃m,o[k - 1]? =some m:=⟨_,List.getElem?_eq_getElem hlt1⟩;have hlq:Ey o k=some q:=by
        obtain⟨j,rfl⟩: ∃j,k=j+1:=⟨k - 1,by omega⟩;simp only[Nat.add_sub_cancel]at hq;simp[Ey,hq]
       rw[hlq]at hm';simp only at hm';have cq:wr.cell? ⟨g,off+(k - 1)*7,none⟩=some (.string q):=(hLr.at_ hq).1;have hgd:decide (0<k)=true:=by simpa using hkp
       have hk1:(0:Int)<=(k:Int) - 1:=by omega
       have hk2:(k:Int) - 1<(o.length:Int):=by omega
       clear hlq hq hlast hL hv hLr hoa;by_cases hle:leB key q=true
       . rw[if_pos hle]at hm';unfold leB at hle;have Hm:=qz hm';clear hm';go_wp2_with (go_at_call 159;refine(Bw hval _ (by omega) (hT.below (hbw.alloc hz _))).mono ?_;rintro e w2 ⟨rfl,hb2⟩;obtain⟨hc2,hf2⟩:=Fy hb2;have hz2:=hb2.size;simp only[World.size_alloc]at hz2;have hbw2:Below w.heap.size w w2:=(hbw.alloc hz _).trans (hb2.mono (by simp;omega));have hvs2:=hvs.below (((Below.refl _ wr).alloc hz (.cells #[.string key,.int .i64 k',.bool b',.int .i64 n',.string t',.slice la' l'.length lc',.slice oa' o'.length oc'] 94)).trans (hb2.mono (by simp;omega))));have x1:IntKind.i64.wrap ((k:Int) - 1)=(k:Int) - 1:=IntWalk.i64_in _ (by omega);have y1:1<=k:=by omega
         have y2:(1:Int)<=(k:Int):=by omega
         have y3:(k:Int)<(o.length:Int)+1:=by omega
         have y4:k<o.length+1:=by omega
         have y5:(k:Int)<=(o.length:Int):=by omega
         have x2:((k:Int) - 1).toNat=k - 1:=by omega
         go_quiet (fail);clear x1 x2;go_wp2;go_ret;exact⟨by rw[<-Hm.out];rfl,A4 hbw2 _⟩
       . rw[if_neg hle]at hm';have hle':(Op.bytesLess key.toList q.toList||key.toList==q.toList)=false:=by simpa[leB]using hle
         obtain⟨m,hmv⟩: ∃m,Aw (.mk k' b' n' t' l' o') (d+1)=m:=⟨_,rfl⟩;rw[hmv]at hm';have Hmv:=qz hmv;clear hmv;by_cases hm0:m=0
         . rw[if_pos hm0]at hm';subst hm0;have Hm:=qz hm';clear hm';go_wp2_with (go_at_call 159;refine(Bw hval _ (by omega) (hT.below (hbw.alloc hz _))).mono ?_;rintro e w2 ⟨rfl,hb2⟩;obtain⟨hc2,hf2⟩:=Fy hb2;have hz2:=hb2.size;simp only[World.size_alloc]at hz2;have hbw2:Below w.heap.size w w2:=(hbw.alloc hz _).trans (hb2.mono (by simp;omega));have hvs2:=hvs.below (((Below.refl _ wr).alloc hz (.cells #[.string key,.int .i64 k',.bool b',.int .i64 n',.string t',.slice la' l'.length lc',.slice oa' o'.length oc'] 94)).trans (hb2.mono (by simp;omega))));have x1:IntKind.i64.wrap ((k:Int) - 1)=(k:Int) - 1:=IntWalk.i64_in _ (by omega);have y1:1<=k:=by omega
           have y2:(1:Int)<=(k:Int):=by omega
           have y3:(k:Int)<(o.length:Int)+1:=by omega
           have y4:k<o.length+1:=by omega
           have y5:(k:Int)<=(o.length:Int):=by omega
           have x2:((k:Int) - 1).toNat=k - 1:=by omega
           go_quiet (fail);clear x1 x2;go_wp2_with (go_at_call 94;refine(IHv.out _ (d+1) _ (hT.below (A4 hbw2 _)) (Ac.more (by simp;omega) _ _ (hvs2.below (A4 (Below.refl _ _) _))) (by omega) (by omega) (by omega)).mono ?_;rintro e w3 ⟨he,hb3⟩;rw[Hmv.out]at he;subst he;have hbw3:Below w.heap.size w w3:=(A4 hbw2 _).trans (hb3.mono (by have:=hbw2.size;simp;omega));have hbx3:w3.heap[w.heap.size]? =wr.heap[w.heap.size]? :=(hb3.block _ (by simp;omega)).trans ((hb2.block _ (by simp;omega)).trans (Below.heap_alloc _ _ _ hbx)));go_roundw
           case rel=>exact⟨k+1,by omega,by go_num,Hm,hbw3,hbx3.trans hbox⟩
           case measure=>simp[intOf];omega
         . rw[if_neg hm0]at hm';have hm1:(m==0)=false:=by simpa using hm0
           have hm2:(m != 0)=true:=by simpa using hm0
           have Hm:=qz hm';clear hm';go_wp2_with (go_at_call 159;refine(Bw hval _ (by omega) (hT.below (hbw.alloc hz _))).mono ?_;rintro e w2 ⟨rfl,hb2⟩;obtain⟨hc2,hf2⟩:=Fy hb2;have hz2:=hb2.size;simp only[World.size_alloc]at hz2;have hbw2:Below w.heap.size w w2:=(hbw.alloc hz _).trans (hb2.mono (by simp;omega));have hvs2:=hvs.below (((Below.refl _ wr).alloc hz (.cells #[.string key,.int .i64 k',.bool b',.int .i64 n',.string t',.slice la' l'.length lc',.slice oa' o'.length oc'] 94)).trans (hb2.mono (by simp;omega))));have x1:IntKind.i64.wrap ((k:Int) - 1)=(k:Int) - 1:=IntWalk.i64_in _ (by omega);have y1:1<=k:=by omega
           have y2:(1:Int)<=(k:Int):=by omega
           have y3:(k:Int)<(o.length:Int)+1:=by omega
           have y4:k<o.length+1:=by omega
           have y5:(k:Int)<=(o.length:Int):=by omega
           have x2:((k:Int) - 1).toNat=k - 1:=by omega
           go_quiet (fail);clear x1 x2;go_wp2_with (go_at_call 94;refine(IHv.out _ (d+1) _ (hT.below (A4 hbw2 _)) (Ac.more (by simp;omega) _ _ (hvs2.below (A4 (Below.refl _ _) _))) (by omega) (by omega) (by omega)).mono ?_;rintro e w3 ⟨he,hb3⟩;rw[Hmv.out]at he;subst he;have hbw3:Below w.heap.size w w3:=(A4 hbw2 _).trans (hb3.mono (by have:=hbw2.size;simp;omega));have hbx3:w3.heap[w.heap.size]? =wr.heap[w.heap.size]? :=(hb3.block _ (by simp;omega)).trans ((hb2.block _ (by simp;omega)).trans (Below.heap_alloc _ _ _ hbx)));go_ret;exact⟨by rw[<-Hm.out];rfl,hbw3⟩
      . have hlk:Ey o k=none:=by
         obtain rfl:k=0:=by omega
         rfl
        rw[hlk]at hm';simp only at hm';have hgd:decide (0<k)=false:=by simpa using hkp
        have hk0:k<=0:=by omega
        clear hlk hlast hL hv hLr hoa;obtain⟨m,hmv⟩: ∃m,Aw (.mk k' b' n' t' l' o') (d+1)=m:=⟨_,rfl⟩;rw[hmv]at hm';have Hmv:=qz hmv;clear hmv;by_cases hm0:m=0
        . rw[if_pos hm0]at hm';subst hm0;have Hm:=qz hm';clear hm';go_wp2_with (go_at_call 159;refine(Bw hval _ (by omega) (hT.below (hbw.alloc hz _))).mono ?_;rintro e w2 ⟨rfl,hb2⟩;obtain⟨hc2,hf2⟩:=Fy hb2;have hz2:=hb2.size;simp only[World.size_alloc]at hz2;have hbw2:Below w.heap.size w w2:=(hbw.alloc hz _).trans (hb2.mono (by simp;omega));have hvs2:=hvs.below (((Below.refl _ wr).alloc hz (.cells #[.string key,.int .i64 k',.bool b',.int .i64 n',.string t',.slice la' l'.length lc',.slice oa' o'.length oc'] 94)).trans (hb2.mono (by simp;omega))));go_quiet (fail);go_wp2_with (go_at_call 94;refine(IHv.out _ (d+1) _ (hT.below (A4 hbw2 _)) (Ac.more (by simp;omega) _ _ (hvs2.below (A4 (Below.refl _ _) _))) (by omega) (by omega) (by omega)).mono ?_;rintro e w3 ⟨he,hb3⟩;rw[Hmv.out]at he;subst he;have hbw3:Below w.heap.size w w3:=(A4 hbw2 _).trans (hb3.mono (by have:=hbw2.size;simp;omega));have hbx3:w3.heap[w.heap.size]? =wr.heap[w.heap.size]? :=(hb3.block _ (by simp;omega)).trans ((hb2.block _ (by simp;omega)).trans (Below.heap_alloc _ _ _ hbx)));go_roundw
          case rel=>exact⟨k+1,by omega,by go_num,Hm,hbw3,hbx3.trans hbox⟩
          case measure=>simp[intOf];omega
        . rw[if_neg hm0]at hm';have hm1:(m==0)=false:=by simpa using hm0
          have hm2:(m != 0)=true:=by simpa using hm0
          have Hm:=qz hm';clear hm';go_wp2_with (go_at_call 159;refine(Bw hval _ (by omega) (hT.below (hbw.alloc hz _))).mono ?_;rintro e w2 ⟨rfl,hb2⟩;obtain⟨hc2,hf2⟩:=Fy hb2;have hz2:=hb2.size;simp only[World.size_alloc]at hz2;have hbw2:Below w.heap.size w w2:=(hbw.alloc hz _).trans (hb2.mono (by simp;omega));have hvs2:=hvs.below (((Below.refl _ wr).alloc hz (.cells #[.string key,.int .i64 k',.bool b',.int .i64 n',.string t',.slice la' l'.length lc',.slice oa' o'.length oc'] 94)).trans (hb2.mono (by simp;omega))));go_quiet (fail);go_wp2_with (go_at_call 94;refine(IHv.out _ (d+1) _ (hT.below (A4 hbw2 _)) (Ac.more (by simp;omega) _ _ (hvs2.below (A4 (Below.refl _ _) _))) (by omega) (by omega) (by omega)).mono ?_;rintro e w3 ⟨he,hb3⟩;rw[Hmv.out]at he;subst he;have hbw3:Below w.heap.size w w3:=(A4 hbw2 _).trans (hb3.mono (by have:=hbw2.size;simp;omega));have hbx3:w3.heap[w.heap.size]? =wr.heap[w.heap.size]? :=(hb3.block _ (by simp;omega)).trans ((hb2.block _ (by simp;omega)).trans (Below.heap_alloc _ _ _ hbx)));go_ret;exact⟨by rw[<-Hm.out];rfl,hbw3⟩
    . have hvf:A8 key=false:=by simpa using hval
      rw[hvf]at hm';have Hm:=qz hm';clear hm' hlast hval hbox hoa hL hv hLr;go_wp2_with (go_at_call 159;refine(Bw hvf _ (by omega) (hT.below (hbw.alloc hz _))).mono ?_;rintro e w2 ⟨rfl,hb2⟩;have hbw2:Below w.heap.size w w2:=(hbw.alloc hz _).trans (hb2.mono (by simp;omega)));go_ret;exact⟨by rw[<-Hm.out];simp,hbw2⟩
  . obtain rfl:k=o.length:=by omega
    rw[List.drop_length]at hm;go_wp2;go_ret;exact⟨by rw[<-hm.out];rfl,hbw⟩
theorem Ii {t:ByteArray} (h:t.toList= []):t=ByteArray.empty:=by
 rw[Lib.toList_data]at h;have:t.data= #[]:=by simpa using h
 exact ByteArray.ext this
theorem F8:A8 ByteArray.empty=true:=by decide
theorem Lg {k:Int} {b:Bool} {n:Int} {t:ByteArray} {ln on:Nat} (h:Fl k b n t ln on=false):
 (k=1\/k=2\/k=3\/k=4\/k=5\/k=6)/\(k=4\/t=ByteArray.empty)/\(k=5\/ln=0)/\(k=6\/on=0):=by
 unfold Fl at h;by_cases h1:k=1
 . subst h1;simp at h;exact⟨.inl rfl,.inr (Ii h.1.1.2),.inr h.1.2,.inr h.2⟩
 by_cases h2:k=2
 . subst h2;simp at h;exact⟨by omega,.inr (Ii h.1.1.2),.inr h.1.2,.inr h.2⟩
 by_cases h3:k=3
 . subst h3;simp at h;exact⟨by omega,.inr (Ii h.1.1.2),.inr h.1.2,.inr h.2⟩
 by_cases h4:k=4
 . subst h4;simp at h;exact⟨by omega,.inl rfl,.inr h.1.2,.inr h.2⟩
 by_cases h5:k=5
 . subst h5;simp at h;exact⟨by omega,.inr (Ii h.1.2),.inl rfl,.inr h.2⟩
 by_cases h6:k=6
 . subst h6;simp at h;exact⟨by omega,.inr (Ii h.1.2),.inr h.2,.inl rfl⟩
 simp[h1,h2,h3,h4,h5,h6]at h
theorem J2 {k:Int} {b:Bool} {n:Int} {t:ByteArray} {d:Int} (ho:Fl k b n t 0 0=false) (h64:d<=64):Aw (.mk k b n t [] []) d=if A8 t then 0 else 3:=by
 simp only[Aw,List.length_nil,ho,Bool.false_eq_true,if_false,if_neg (show ¬64<d by omega),Dj,Do,if_true]
theorem Acp: ∀(v:Val),Agy v:=by
 refine Val.ind ?_;intro k b n t l o ihl iho cs d w hT hV hb h0 h65;simp only[Ac]at hV;obtain⟨la,lc,oa,oc,rfl,hL,hO⟩:=hV;by_cases hodd:Fl k b n t l.length o.length=true
 . have hm:Aw (.mk k b n t l o) d=9:=by simp only[Aw,hodd,if_true]
   rw[hm];clear hm ihl iho hL hO;go_enter Tryz.func94,Tryz.ntmps94;go_wp2_with (go_at_call 158;refine(D6 hodd _).mono ?_;rintro e w' ⟨rfl,hb1⟩);go_ret;exact⟨rfl,((Below.refl _ _).alloc (Nat.le_refl _) _).trans (hb1.mono (by simp))⟩
 have hodd':Fl k b n t l.length o.length=false:=by simpa using hodd
 clear hodd;by_cases h64:64<d
 . have hm:Aw (.mk k b n t l o) d=5:=by simp only[Aw,hodd',Bool.false_eq_true,if_false,h64,if_true]
   rw[hm];clear hm ihl iho hL hO;go_enter Tryz.func94,Tryz.ntmps94;go_wp2_with (go_at_call 158;refine(D6 hodd' _).mono ?_;rintro e w' ⟨rfl,hb1⟩);go_ret;exact⟨rfl,((Below.refl _ _).alloc (Nat.le_refl _) _).trans (hb1.mono (by simp))⟩
 obtain⟨hk,ht,hl,ho⟩:=Lg hodd';simp only[Val.bulk]at hb;rcases hk with rfl|rfl|rfl|rfl|rfl|rfl
 . obtain rfl:l= []:=List.eq_nil_of_length_eq_zero (by omega);obtain rfl:o= []:=List.eq_nil_of_length_eq_zero (by omega);obtain rfl:t=ByteArray.empty:=by simpa using ht
   rw[J2 hodd' (by omega),F8];clear ihl iho hL hO hl ho ht;go_enter Tryz.func94,Tryz.ntmps94;go_wp2_with (go_at_call 158;refine(D6 hodd' _).mono ?_;rintro e w' ⟨rfl,hb1⟩;obtain⟨hc1,hf1⟩:=Fy hb1;have hz1:=hb1.size;simp only[World.size_alloc]at hz1);go_ret;exact⟨rfl,((Below.refl _ _).alloc (Nat.le_refl _) _).trans (hb1.mono (by simp))⟩
 . obtain rfl:l= []:=List.eq_nil_of_length_eq_zero (by omega);obtain rfl:o= []:=List.eq_nil_of_length_eq_zero (by omega);obtain rfl:t=ByteArray.empty:=by simpa using ht
   rw[J2 hodd' (by omega),F8];clear ihl iho hL hO hl ho ht;go_enter Tryz.func94,Tryz.ntmps94;go_wp2_with (go_at_call 158;refine(D6 hodd' _).mono ?_;rintro e w' ⟨rfl,hb1⟩;obtain⟨hc1,hf1⟩:=Fy hb1;have hz1:=hb1.size;simp only[World.size_alloc]at hz1);go_ret;exact⟨rfl,((Below.refl _ _).alloc (Nat.le_refl _) _).trans (hb1.mono (by simp))⟩
 . obtain rfl:l= []:=List.eq_nil_of_length_eq_zero (by omega);obtain rfl:o= []:=List.eq_nil_of_length_eq_zero (by omega);obtain rfl:t=ByteArray.empty:=by simpa using ht
   rw[J2 hodd' (by omega),F8];clear ihl iho hL hO hl ho ht;go_enter Tryz.func94,Tryz.ntmps94;go_wp2_with (go_at_call 158;refine(D6 hodd' _).mono ?_;rintro e w' ⟨rfl,hb1⟩;obtain⟨hc1,hf1⟩:=Fy hb1;have hz1:=hb1.size;simp only[World.size_alloc]at hz1);go_ret;exact⟨rfl,((Below.refl _ _).alloc (Nat.le_refl _) _).trans (hb1.mono (by simp))⟩
 . obtain rfl:l= []:=List.eq_nil_of_length_eq_zero (by omega);obtain rfl:o= []:=List.eq_nil_of_length_eq_zero (by omega);rw[J2 hodd' (by omega)];clear ihl iho hL hO hl ho ht;have hT1: ∀w1,Below w.heap.size w w1->B3 w1:=fun _ h=>hT.below h;by_cases hv:A8 t=true
   . rw[hv];go_enter Tryz.func94,Tryz.ntmps94;go_wp2_with (first|(go_at_call 158;refine(D6 hodd' _).mono ?_;rintro e w1 ⟨rfl,hb1⟩;obtain⟨hc1,hf1⟩:=Fy hb1;have hz1:=hb1.size;simp only[World.size_alloc]at hz1;have hbw1:Below w.heap.size w w1:=((Below.refl _ _).alloc (Nat.le_refl _) _).trans (hb1.mono (by simp)))|(go_at_call 159;refine(Bw hv _ (by omega) (hT1 _ hbw1)).mono ?_;rintro e w2 ⟨rfl,hb2⟩));go_ret;exact⟨rfl,hbw1.trans (hb2.mono hbw1.size)⟩
   . have hv':A8 t=false:=by simpa using hv
     rw[hv'];go_enter Tryz.func94,Tryz.ntmps94;go_wp2_with (first|(go_at_call 158;refine(D6 hodd' _).mono ?_;rintro e w1 ⟨rfl,hb1⟩;obtain⟨hc1,hf1⟩:=Fy hb1;have hz1:=hb1.size;simp only[World.size_alloc]at hz1;have hbw1:Below w.heap.size w w1:=((Below.refl _ _).alloc (Nat.le_refl _) _).trans (hb1.mono (by simp)))|(go_at_call 159;refine(Bw hv' _ (by omega) (hT1 _ hbw1)).mono ?_;rintro e w2 ⟨rfl,hb2⟩));go_ret;exact⟨rfl,hbw1.trans (hb2.mono hbw1.size)⟩
 . obtain rfl:o= []:=List.eq_nil_of_length_eq_zero (by omega);obtain rfl:t=ByteArray.empty:=by simpa using ht
   have hm:Aw (.mk 5 b n ByteArray.empty l []) d=Dj l (d+1):=by
    simp only[Aw,hodd',Bool.false_eq_true,if_false,h64,F8,if_true,Do]
    split<;>simp_all
   rw[hm];rcases hL with rfl|⟨g,off,rfl,hg,hL⟩
   . exact Xl b n _ [] la oa lc oc d w hT 0 0 (.inl rfl) (by simp[Bg]) h0 (by omega) ihl hodd'
   . exact Xl b n _ l _ oa lc oc d w hT g off (.inr ⟨rfl,hg,hL⟩) (by omega) h0 (by omega) ihl hodd'
 . obtain rfl:l= []:=List.eq_nil_of_length_eq_zero (by omega);obtain rfl:t=ByteArray.empty:=by simpa using ht
   have hm:Aw (.mk 6 b n ByteArray.empty [] o) d=Do o none (d+1):=by
    simp only[Aw,hodd',Bool.false_eq_true,if_false,h64,F8,if_true,Dj]
   rw[hm];rcases hO with rfl|⟨g,off,rfl,hg,hO⟩
   . exact Abf b n _ [] la oa lc oc d w hT 0 0 (.inl rfl) (by simp[Ae]) h0 (by omega) iho hodd'
   . exact Abf b n _ o la _ lc oc d w hT g off (.inr ⟨rfl,hg,hO⟩) (by omega) h0 (by omega) iho hodd'
theorem Oa (v:Val) (cs:List Value) (w:World) (hT:B3 w) (hV:Ac w w.heap.size v cs) (hb:v.bulk<=1000000000):
 Calls Tryz.prog 52 #[.agg cs.toArray] w fun e w'=>e=.returned (.int .i64 (Aw v 1))/\Below w.heap.size w w':=by
 have hV':=hV;obtain⟨k,b,n,t,l,o⟩:=v;simp only[Ac]at hV';obtain⟨la,lc,oa,oc,rfl,_,_⟩:=hV';have hc:=Acp _ _ 1 (w.alloc (.cells #[.int .i64 k,.bool b,.int .i64 n,.string t,.slice la l.length lc,.slice oa o.length oc] 37)) (hT.below ((Below.refl _ _).alloc (Nat.le_refl _) _)) (Ac.more (by simp) _ _ (hV.below ((Below.refl _ _).alloc (Nat.le_refl _) _))) hb (by omega) (by omega);generalize Aw _ _=m at hc ⊢;have H:=qz hc;clear hc hV;go_enter Tryz.func52,Tryz.ntmps52;go_wp2_with (go_at_call 94;refine(H.out).mono ?_;rintro e w' ⟨rfl,hb1⟩);go_ret;exact⟨rfl,((Below.refl _ _).alloc (Nat.le_refl _) _).trans (hb1.mono (by simp))⟩
end Go.Proofs.YtkmcjfkokoidcaaGreatDoor
