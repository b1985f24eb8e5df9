/- Parts: parse.reader: its world, and its small functions: wrong, skip, comes. Condition: a text of at most 10^9 bytes. -/
import Derived.Deep.LoopGhost
import Derived.Test.YtkmcjfkokoidcaaGreatDoorKFb5
import Derived.Test.YtkmcjfkokoidcaaGreatDoorKFb7
set_option maxHeartbeats 20000000
set_option maxRecDepth 100000
namespace Go.Proofs.YtkmcjfkokoidcaaGreatDoor
open Go.RowKit
def Wr (W:World) (B g:Nat) (keeps:Bool) (acc:List UInt8):Prop:=
 ∃p v,Mr W B g 1 135 #[.bool keeps,p,v,.int .i64 (acc.length:Int)] (if keeps then acc else [])
theorem Ah7:liesAt Tryz.prog Tryz.prog.depth 135 (4 / Tryz.prog.cellsOf 135) 1 133 1=true:=by kernel_rfl
theorem Mr.other {w:World} {B g o:Nat} {t:TypeId} {cs:Array Value} {bs:List UInt8} (h:Mr w B g o t cs bs) (i:Nat) (hi:i≠o) (hi2:i≠o+1) (u:Value):
 Mr (w.setCell ⟨g,i,none⟩ u) B g o t (cs.setIfInBounds i u) bs:=by
 obtain⟨hB,hb,ht,hs,h0,v,h1,hown⟩:=h;refine⟨hB,Cc hb _,ht,by simpa using hs, ?_,v,by rw[Array.getElem?_setIfInBounds,if_neg hi2];exact h1, ?_⟩
 . rw[Array.getElem?_setIfInBounds,if_neg hi];exact h0
 . exact hown.kept (row:=some g) ⟨rfl,rfl,rfl,by simp[World.setCell],fun k _ hk=>Below.heap_setCell _ _ _ _ (fun e=>hk (by simp[e]))⟩ (Or.inr (Lib.ownBlock_ne hown hb ht))
theorem Wr.below {A W:World} {B g:Nat} {k:Bool} {acc:List UInt8} (h:Wr A B g k acc) (hb:Below A.heap.size A W):Wr W B g k acc:=by
 obtain⟨p,v,h⟩:=h;exact⟨p,v,h.keep (Iq hb) (fun k e=>by cases e)⟩
theorem Wr.put {A:World} {B g k:Nat} {b:Bool} {acc:List UInt8} {o o':Obj} (h:Wr A B g b acc) (ho:A.heap[k]? =some o) (hc:o.isCells=false):Wr (A.putObj k o') B g b acc:=by
 obtain⟨p,v,h⟩:=h;exact⟨p,v,h.keep (grownBy_putObj' A k o') (fun j e=>by cases e;exact⟨o,ho,hc⟩)⟩
theorem Wr.lt {A:World} {B g:Nat} {k:Bool} {acc:List UInt8} (h:Wr A B g k acc):g<A.heap.size:=by
 obtain⟨p,v,h⟩:=h;exact h.lt
theorem Wr.base {A:World} {B g:Nat} {k:Bool} {acc:List UInt8} (h:Wr A B g k acc):B<=g:=by
 obtain⟨p,v,h⟩:=h;exact h.1
def Er (ss:List ByteArray):List UInt8:=ss.flatMap fun s=>s.data.toList
theorem Ab6 (ss:List ByteArray) (s:ByteArray):Er (ss++ [s])=Er ss++s.data.toList:=by simp[Er]
theorem Zo (B g:Nat) (keeps:Bool) (acc:List UInt8) (ss:List ByteArray) (b c:Nat) (w:World) (h:Wr w B g keeps acc) (hp:w.heap[b]? =some (.cells (ss.map Value.string).toArray 9 (0,0))) (hbg:b≠g)
 (hlen:acc.length+(Er ss).length<=50000000000) (hn:ss.length<=1000):
 Calls Tryz.prog 124 #[.pointer (some ⟨g,0,none⟩),.slice (some ⟨b,0,none⟩) ss.length c] w fun e w'=>e=.returned (.tuple #[])/\Wr w' B g keeps (acc++Er ss)/\Below B w w'/\Eo g w w':=by
 go_enter Tryz.func124,Tryz.ntmps124;go_wp2;go_loopw [8] (fun i wr=> ∃k:Nat,k<=ss.length/\i=.int .i64 k/\Wr wr B g keeps (acc++Er (ss.take k))/\Below B w wr/\Eo g w wr) (fun i _=>ss.length - (intOf i).toNat)
 case atStart=>exact⟨0,Nat.zero_le _,rfl,by simpa[Er]using h,Below.refl _ _,Lib.OthersKept.refl _ _ _⟩
 case round=>
  obtain⟨k,hk,rfl,hw,hb,hkp⟩:=hrel;by_cases hlt:k<ss.length
  . obtain⟨s,hs⟩: ∃s,ss[k]? =some s:=⟨_,List.getElem?_eq_getElem hlt⟩;have htk:ss.take (k+1)=ss.take k++ [s]:=by rw[List.take_add_one,hs];rfl
    have hfl:(Er ss).length=(Er (ss.take k)).length+s.size+(Er (ss.drop (k+1))).length:=by
     have:ss=ss.take k++ [s]++ss.drop (k+1):=by rw[<-htk,List.take_append_drop]
     have h2:=congrArg (fun l=>(Er l).length) this;simp only[Er,List.flatMap_append,List.length_append,List.flatMap_cons,List.flatMap_nil,List.append_nil]at h2 ⊢;rw[h2,Lib.size_eq]
    have hpr:=hkp _ _ hp (by simpa using hbg) (fun c fz e=>by cases e);have cp:wr.cell? ⟨b,k,none⟩=some (.string s):=by rw[Lib.cell_of_heap hpr];simp[hs]
    obtain⟨p,v,hbl⟩:=hw;have hbl':=hbl;obtain⟨hB,hbk,ht,_,_,_⟩:=hbl';have g0:wr.cell? ⟨g,0,none⟩=some (.bool keeps):=by rw[Lib.cell_of_heap hbk];rfl
    have g3:wr.cell? ⟨g,3,none⟩=some (.int .i64 ((acc++Er (ss.take k)).length:Int)):=by rw[Lib.cell_of_heap hbk];rfl
    have f3:wr.frozen? ⟨g,3,none⟩=false:=Lib.frozen_of_heap hbk 3;have hln:(acc++Er (ss.take k)).length<=50000000000:=by rw[List.length_append];omega
    have hln2:(acc++Er (ss.take k)).length+s.size<=50000000000:=by rw[List.length_append];omega
    have hz:=hbl.lt;have hfin:acc++Er (ss.take (k+1))=(acc++Er (ss.take k))++s.data.toList:=by rw[htk,Ab6,List.append_assoc]
    generalize acc++Er (ss.take k)=L at*
    have Hfin:=qz hfin;have He:=qz (show((L.length:Int)+(s.size:Int))=((L++s.data.toList).length:Int)from by rw[List.length_append,<-Lib.size_eq];omega);clear hfin hbk htk hfl
    cases keeps
    . have hbs:Mr (wr.setCell ⟨g,3,none⟩ (.int .i64 ((L.length:Int)+(s.size:Int)))) B g 1 135 #[.bool false,p,v,.int .i64 ((L.length:Int)+(s.size:Int))] []:=hbl.other 3 (by omega) (by omega) _;go_wp2;go_roundw
      case rel=>
       refine⟨k+1,by omega,by go_num, ?_,hb.setCell (p:=⟨g,3,none⟩) hB _,hkp.setCell ⟨g,3,none⟩ rfl _⟩;rw[Hfin.out];rw[He.out]at hbs ⊢;exact⟨p,v,hbs⟩
      case measure=>simp[intOf];omega
    . have hbs:Mr (wr.setCell ⟨g,3,none⟩ (.int .i64 ((L.length:Int)+(s.size:Int)))) B g 1 135 #[.bool true,p,v,.int .i64 ((L.length:Int)+(s.size:Int))] L:=hbl.other 3 (by omega) (by omega) _;go_wp2_with (go_at_call 193;refine(Ip B g 1 _ _ L s _ hbs Ah7 (by omega) (by simp[World.setCell];omega)).mono ?_;rintro e w2 ⟨rfl,⟨v',hb2⟩,hbw2,hk2⟩);go_roundw
      case rel=>
       refine⟨k+1,by omega,by go_num, ?_,(hb.setCell (p:=⟨g,3,none⟩) hB _).trans hbw2,(hkp.setCell ⟨g,3,none⟩ rfl _).trans hk2⟩;rw[Hfin.out];rw[He.out]at hb2;exact⟨_,v',hb2⟩
      case measure=>simp[intOf];omega
  . obtain rfl:k=ss.length:=by omega
    rw[List.take_length]at hw;have Hw:=qz hw;clear hw;go_wp2
    go_end0
    exact⟨rfl,Hw.out,hb,hkp⟩
theorem Sd (v:Val) (cs:List Value) (w:World) (hV:Ac w w.heap.size v cs) (hb:v.bulk<=100000000):
 Calls Tryz.prog 183 #[.agg cs.toArray] w (Jp w v):=by
 obtain⟨k,b,n,t,l,o⟩:=v;simp only[Ac]at hV;obtain⟨la,lc,oa,oc,rfl,hla,hoa⟩:=hV;simp only[Val.bulk]at hb;by_cases h5:k=5
 . subst h5;exact Yn b n t l o la oa oc lc w hla (by omega)
 by_cases h6:k=6
 . subst h6;exact Aas b n t l o la oa oc lc w hoa (by omega)
 have Hw:=qz (show within (.mk k b n t l o)= []from by simp[within,h5,h6]);have e5:(k==5)=false:=by simpa using h5
 have e6:(k==6)=false:=by simpa using h6
 clear hla hoa hb h5 h6;go_enter Tryz.func183,Tryz.ntmps183;go_wp2;go_ret;exact⟨⟨none,0,by rw[Hw.out];rfl,.inl Hw.out⟩,(Below.refl _ _).alloc (Nat.le_refl _) _⟩
theorem Td: ∀o:List (ByteArray×Val),Gn o=Ec (o.map (·.2))
 | []=>rfl
 |(k,v)::r=>by simp only[Gn,Wv,List.map_cons,Ec,Td r]
theorem Ug (v:Val):Dv v=1+Ec (within v):=by
 obtain⟨k,b,n,t,l,o⟩:=v;simp only[Dv,within];by_cases h5:k=5
 . simp[h5]
 by_cases h6:k=6
 . simp[h6,Td]
 . simp[h5,h6,Ec]
theorem Ta: ∀o:List (ByteArray×Val),Bg (o.map (·.2))<=Ae o
 | []=>by simp[Bg]
 |(k,v)::r=>by
  have:=Ta r;simp only[List.map_cons,Bg,Ae,Gm];omega
theorem Ym (v:Val):Bg (within v)<=v.bulk:=by
 obtain⟨k,b,n,t,l,o⟩:=v;have:=Ta o;simp only[within,Val.bulk]
 split
 . omega
 split
 . omega
 . simp[Bg]
def Yx (v:Val):Prop:= ∀(cs:List Value) (w:World),Ac w w.heap.size v cs->v.bulk<=100000000->
    Calls Tryz.prog 113 #[.agg cs.toArray] w fun e w'=>e=.returned (.int .i64 (Dv v))/\Below w.heap.size w w'
theorem Aaa (v:Val) (IH: ∀x ∈ within v,Yx x):Yx v:=by
 intro cs w hV hb;have hV':=hV;have hbw:=Ym v;have hlw:=Dr (within v);have hdw:=M8 (within v) (fun x _=>Ja x);have hW0:=fun w' (h:Below w.heap.size w w')=>Sd v cs w' (Ac.more h.size _ _ (hV.below h)) hb;rw[Ug];unfold Jp at hW0;generalize within v=L at*
 obtain⟨k,b,n,t,l,o⟩:=v;simp only[Ac]at hV';obtain⟨la,lc,oa,oc,rfl,_,_⟩:=hV';obtain⟨HI,HW⟩:=hid2 IH hW0;obtain⟨M,hM⟩: ∃M,Ec L=M:=⟨_,rfl⟩;rw[hM]at hdw ⊢;have H0:Hid (max 0 (Ec (L.drop 0))=M):=by show _=_;rw[List.drop_zero,hM];simp
 have HB1:Hid (Below w.heap.size w (w.alloc (.cells (Ds k b n t la l.length lc oa o.length oc).toArray 37))):=(Below.refl _ _).alloc (Nat.le_refl _) _;clear IH hW0 hM hV;go_enter Tryz.func113,Tryz.ntmps113;go_wp2_with (fail);(with_reducible refine(HW.out _ HB1.out).mono ?_);rintro e w2 ⟨⟨la',lc',rfl,hsl⟩,hb2⟩;have Hsl:=qz hsl;have HB2:=qz (HB1.out.trans (hb2.mono HB1.out.size));clear hsl hb2 HB1 HW;go_wp2_with (fail);have HBr:Hid (Below w2.heap.size w2 w2):=Below.refl _ _;go_loopw [3,5] (fun m i wr=> ∃D k:Nat,m=.int .i64 D/\i=.int .i64 k/\k<=L.length/\Hid (max D (Ec (L.drop k))=M)/\D<=M/\Hid (Below w2.heap.size w2 wr)) (fun _ i _=>L.length - (intOf i).toNat)
 case atStart=>exact⟨0,0,rfl,rfl,Nat.zero_le _,H0,Nat.zero_le _,HBr⟩
 case round=>
  obtain⟨D,k,rfl,rfl,hk,hD,hDM,hbw⟩:=hrel;clear H0 HBr;by_cases hlt:k<L.length
  . obtain⟨g,off,rfl,hg,hL⟩: ∃g off,la'=some ⟨g,off,none⟩/\g<w2.heap.size/\Ao w2 w2.heap.size L g off:=by
     rcases Hsl.out with h|h
     . rw[h]at hlt;simp at hlt
     . exact h
    obtain⟨x,hx⟩: ∃v,L[k]? =some v:=⟨_,List.getElem?_eq_getElem hlt⟩;have hmem:x ∈ L:=List.mem_of_getElem? hx;have hbv:=Ew hmem;have hdv:=Ja x;have hdrop:L.drop k=x::L.drop (k+1):=C3 hx;have hD':=hD.out;rw[hdrop]at hD';simp only[Ec]at hD';have IHx:=HI.out x hmem;have hz:=hbw.out.size;obtain⟨m,hm⟩: ∃m,Dv x=m:=⟨_,rfl⟩;obtain⟨k',b',n',t',l',o'⟩:=x;obtain⟨la',lc',oa',oc',hvs,c0,c1,c2,c3,c4,c5⟩:=(hL.below hg hbw.out).six hx;have CT:=IHx _ wr (Ac.more hz _ _ hvs) (by omega);rw[hm]at CT hD' hdv;have hCT:=qz CT;have Hn:Hid (max (max D m) (Ec (L.drop (k+1)))=M):=by show _=_;omega
    have hmM:max D m<=M:=by omega
    clear CT hD hD' hdrop IHx hm hvs hx hmem hL hg hdv hbv;by_cases hgt:D<m
    . have e1:max D m=m:=by omega
      rw[e1]at Hn hmM;clear e1;go_wp2_with (fail);(with_reducible refine hCT.out.mono ?_);rintro e w4 ⟨rfl,hb4⟩;have hbw4:=qz (hbw.out.trans (hb4.mono hz));clear hb4 hbw hCT;go_wp2;go_roundw
      case rel=>exact⟨m,k+1,rfl,by go_num,by omega,Hn,hmM,hbw4⟩
      case measure=>simp only[intOf];omega
    . have e1:max D m=D:=by omega
      rw[e1]at Hn hmM;clear e1;go_wp2_with (fail);(with_reducible refine hCT.out.mono ?_);rintro e w4 ⟨rfl,hb4⟩;have hbw4:=qz (hbw.out.trans (hb4.mono hz));clear hb4 hbw hCT;go_wp2;go_roundw
      case rel=>exact⟨D,k+1,rfl,by go_num,by omega,Hn,hmM,hbw4⟩
      case measure=>simp only[intOf];omega
  . obtain rfl:k=L.length:=by omega
    have hD':=hD.out;rw[List.drop_length]at hD';simp only[Ec]at hD';obtain rfl:D=M:=by omega
    have Hc:=qz (show(D:Int)+1=((1+D:Nat):Int)from by omega);clear hD hD';go_wp2;go_ret;exact⟨by rw[<-Hc.out];rfl,HB2.out.trans (hbw.out.mono HB2.out.size)⟩
theorem X4: ∀v,Yx v:=by
 refine Val.ind ?_;intro k b n t l o IHl IHo;refine Aaa _ (fun x hx=> ?_);simp only[within]at hx
 split at hx
 . exact IHl x hx
 split at hx
 . obtain⟨m,hm,rfl⟩:=List.mem_map.1 hx;exact IHo m hm
 . cases hx
def Ju (e q:Int):Ending:=.panicked [{v:=.iface 145 (.agg #[.int .i64 e,.int .i64 q]),recovered:=false}]
def KV (R:Nat):List (Int×Value):=
 let f:=fun n:Nat=>Value.func (.func n) #[.pointer (some ⟨R,0,none⟩)] #[]
 [(110,f 144),(102,f 145),(116,f 146),(34,f 147),(91,f 148),(123,f 149),(45,f 150),
  (48,f 150),(49,f 150),(50,f 150),(51,f 150),(52,f 150),(53,f 150),(54,f 150),(55,f 150),(56,f 150),(57,f 150)]
def S5 (w:World) (R g:Nat) (s:ByteArray) (k:Nat):Prop:=Aj w R 151 #[.string s,.int .i64 k,.map (some g)]
def Bd (R g:Nat) (s:ByteArray) (k':Nat) (w w':World):Prop:=w.grownBy w' (some R)/\S5 w' R g s k'
theorem Bv {w w1 w2:World} {r:Option Nat} (h:w.grownBy w1 r) (k:w1.grownBy w2 r):w.grownBy w2 r:=
 ⟨k.os.trans h.os,k.tape.trans h.tape,k.output.trans h.output,Nat.le_trans h.size k.size,fun i hi hn=>(k.block i (Nat.lt_of_lt_of_le hi h.size) hn).trans (h.block i hi hn)⟩
theorem E9 {w w1:World} {r:Option Nat} (h:w.grownBy w1 r) (n:Nat):w.grownBy (w1.drewN n) r:=⟨h.os,h.tape,h.output,h.size,h.block⟩
theorem Gh {w w1:World} {r:Option Nat} (h:w.grownBy w1 r) (o:Obj):w.grownBy (w1.alloc o) r:=
 ⟨h.os,h.tape,h.output,Nat.le_trans h.size (by simp),fun i hi hne=>(Below.heap_alloc w1 o i (Nat.lt_of_lt_of_le hi h.size)).trans (h.block i hi hne)⟩
theorem Iy {w w1 w2:World} {r:Option Nat} (h:w.grownBy w1 r) (k:Below w1.heap.size w1 w2):w.grownBy w2 r:=
 ⟨k.os.trans h.os,k.tape.trans h.tape,k.output.trans h.output,Nat.le_trans h.size k.size,fun i hi hn=>(k.block i (Nat.lt_of_lt_of_le hi h.size)).trans (h.block i hi hn)⟩
theorem Kl {w w1:World} {r:Nat} (h:w.grownBy w1 (some r)) (p:Addr) (hp:p.block=r\/w.heap.size<=p.block) (u:Value):w.grownBy (w1.setCell p u) (some r):=
 ⟨h.os,h.tape,h.output,by simpa[World.setCell]using h.size,fun i hi hne=>(Below.heap_setCell w1 p u i (by
   rintro rfl;rcases hp with hp|hp
   . exact hne (by rw[hp])
   . omega)).trans (h.block i hi hne)⟩
theorem Oh {w w1:World} (r:Option Nat) (k:Below w.heap.size w w1):w.grownBy w1 r:=⟨k.os,k.tape,k.output,k.size,fun i hi _=>k.block i hi⟩
theorem Bd.refl {w:World} {R g k:Nat} {s:ByteArray} (h:S5 w R g s k):Bd R g s k w w:=⟨World.grownBy.refl _ _,h⟩
theorem Bd.trans {w w1 w2:World} {R g k k':Nat} {s:ByteArray} (h:Bd R g s k w w1) (h':Bd R g s k' w1 w2):Bd R g s k' w w2:=⟨Bv h.1 h'.1,h'.2⟩
theorem Bd.drewN {w w1:World} {R g k:Nat} {s:ByteArray} (h:Bd R g s k w w1) (n:Nat):Bd R g s k w (w1.drewN n):=⟨E9 h.1 n,h.2⟩
theorem Bd.drew {w w1:World} {R g k:Nat} {s:ByteArray} (h:Bd R g s k w w1):Bd R g s k w w1.drew:=⟨⟨h.1.os,h.1.tape,h.1.output,h.1.size,h.1.block⟩,h.2⟩
theorem Bd.alloc {w w1:World} {R g k:Nat} {s:ByteArray} (h:Bd R g s k w w1) (o:Obj):Bd R g s k w (w1.alloc o):=⟨Gh h.1 o,Aj.alloc h.2 o⟩
theorem Bd.below {w w1 w2:World} {R g k:Nat} {s:ByteArray} (h:Bd R g s k w w1) (hb:Below w1.heap.size w1 w2):Bd R g s k w w2:=⟨Iy h.1 hb,Aj.below h.2 hb (Aj.lt h.2)⟩
theorem Bd.set {w w1:World} {R g k:Nat} {s:ByteArray} (h:Bd R g s k w w1) (k':Nat):Bd R g s k' w (w1.setCell ⟨R,1,none⟩ (.int .i64 k')):=
 ⟨Kl h.1 _ (.inl rfl) _,by have:=Aj.set_ h.2 1 (.int .i64 k');exact this⟩
theorem S5.cells {w:World} {R g k:Nat} {s:ByteArray} (h:S5 w R g s k):w.cell? ⟨R,0,none⟩=some (.string s)/\w.cell? ⟨R,1,none⟩=some (.int .i64 k)/\w.cell? ⟨R,2,none⟩=some (.map (some g))/\w.frozen? ⟨R,1,none⟩=false/\R<w.heap.size:=
 ⟨Aj.cell h 0,Aj.cell h 1,Aj.cell h 2,Aj.frozen h 1,Aj.lt h⟩
theorem A9 (s:ByteArray) {a:Nat} (h:a<s.size):s.data.toList[a]? =some s[a]:=by
 rw[List.getElem?_eq_getElem (by rw[<-Lib.size_eq];exact h)];rfl
theorem Be (c:UInt8):(c.toNat:Int)<256:=by have:=c.toNat_lt;omega
theorem Gg {c:UInt8} {n:Nat} (hn:n<256):((c.toNat:Int)==(n:Int))=(c==UInt8.ofNat n):=by
 rw[Bool.eq_iff_iff];simp only[beq_iff_eq];constructor
 . intro h;have:c.toNat=n:=by omega
   subst this;simp
 . rintro rfl;simp[UInt8.toNat_ofNat',Nat.mod_eq_of_lt hn]
theorem Ca (p:Value) (e q:Int) (w:World):Calls Tryz.prog 87 #[p,.int .i64 e,.int .i64 q] w fun r w'=>r=Ju e q/\w'=w:=by
 go_enter Tryz.func87,Tryz.ntmps87;go_wp2;exact⟨rfl,rfl,rfl⟩
theorem Fo (R g:Nat) (s:ByteArray) (k:Nat) (w:World) (hs:s.size<=1000000000) (hk:k<=s.size) (h:S5 w R g s k):
 Calls Tryz.prog 86 #[.pointer (some ⟨R,0,none⟩)] w fun e w'=>e=.returned (.tuple #[])/\Bd R g s (Al s.data.toList k) w w':=by
 obtain⟨P,hP⟩: ∃P,Al s.data.toList k=P:=⟨_,rfl⟩;have H0:=qz (And.intro hP (Bd.refl h));rw[hP];clear h hP;go_enter Tryz.func86,Tryz.ntmps86;go_wp2
 go_loopg [] (s.size - k) (fun n wr=> ∃j:Nat,j<=s.size/\n=s.size - j/\Hid (Al s.data.toList j=P/\Bd R g s j w wr))
 case atStart=>exact⟨k,hk,rfl,H0⟩
 case round=>
  obtain⟨j,hj,rfl,hh⟩:=hrel;clear H0;obtain⟨c0,c1,_,f1,hR⟩:=hh.out.2.2.cells;by_cases hlt:j<s.size
  . obtain⟨c,hc⟩: ∃c,s[j]=c:=⟨_,rfl⟩;have hg:s.data.toList[j]? =some c:=by rw[A9 s hlt,hc]
    have hcl:=Be c;have i1:(j:Int)<(s.size:Int):=by omega
    have i0:(0:Int)<=(j:Int):=by omega
    by_cases hbl:D5 c=true
    . have HN:Hid (Al s.data.toList (j+1)=P/\ ∀nq,Bd R g s (j+1) w ((wr.drewN nq).setCell ⟨R,1,none⟩ (.int .i64 ((j+1:Nat):Int)))):=
       ⟨by rw[<-Ou hg hbl];exact hh.out.1,fun nq=>(hh.out.2.drewN nq).set _⟩
      unfold D5 at hbl;simp only[Bool.or_eq_true,beq_iff_eq]at hbl;clear hg hh;rcases hbl with((hbl|hbl)|hbl)|hbl
      all_goals
       subst hbl;go_wp2;go_quiet (fail);go_wp2;go_quiet (fail);go_wp2
       go_roundg (s.size - (j+1))
       case measure=>omega
       case rel=>exact⟨j+1,by omega,rfl,HN.out.1,HN.out.2 _⟩
    . have HN:Hid (j=P/\ ∀nq,Bd R g s j w (wr.drewN nq)):=⟨by rw[<-hh.out.1,Ov hg (by simpa using hbl)],fun nq=>hh.out.2.drewN nq⟩;unfold D5 at hbl;simp only[Bool.or_eq_true,beq_iff_eq,not_or]at hbl;obtain⟨⟨⟨h9,h10⟩,h13⟩,h32⟩:=hbl;have ne: ∀n:Nat,n<256->c≠UInt8.ofNat n->((c.toNat:Int)==(n:Int))=false:=fun n hn h=>by rw[Gg hn];simpa using h
      have e9:((c.toNat:Int)==9)=false:=ne 9 (by decide) h9;have e10:((c.toNat:Int)==10)=false:=ne 10 (by decide) h10;have e13:((c.toNat:Int)==13)=false:=ne 13 (by decide) h13;have e32:((c.toNat:Int)==32)=false:=ne 32 (by decide) h32;clear ne h9 h10 h13 h32 hg hh;go_wp2;go_quiet (fail);go_wp2;go_quiet (fail);go_wp2;refine bodyPost_ret (results_none rfl _ _ _) rfl ?_;refine⟨rfl, ?_⟩;rw[<-HN.out.1];exact HN.out.2 _
  . have HN:Hid (j=P/\ ∀nq,Bd R g s j w (wr.drewN nq)):=⟨by rw[<-hh.out.1,Rv (by rw[<-Lib.size_eq];omega)],fun nq=>hh.out.2.drewN nq⟩;have i1: ¬((j:Int)<(s.size:Int)):=by omega
    clear hh;go_wp2;go_quiet (fail);go_wp2
    go_end0
    refine⟨rfl, ?_⟩;rw[<-HN.out.1];exact HN.out.2 _
theorem Ab (s:ByteArray):s.data.toList.length=s.size:=by rw[Array.length_toList];rfl
theorem Bp {s:ByteArray} {k:Nat} (hk:k<=s.size):Al s.data.toList k<=s.size:=by
 have:=En (s:=s.data.toList) (p:=k) (by rw[Ab];exact hk)
 rwa [Ab]at this
theorem Abv (R g:Nat) (s:ByteArray) (k:Nat) (c:UInt8) (w:World) (hs:s.size<=1000000000) (hk:k<=s.size) (h:S5 w R g s k) (hc:s.data.toList[Al s.data.toList k]? =some c):
 Calls Tryz.prog 206 #[.pointer (some ⟨R,0,none⟩),.int .u8 c.toNat] w fun e w'=>e=.returned (.bool true)/\Bd R g s (Al s.data.toList k+1) w w':=by
 have hS:=Fo R g s k w hs hk h;have hP:=Bp hk;generalize Al s.data.toList k=P at hS hP hc ⊢;have hlt:P<s.size:=by have:=Ct hc;rwa [Ab]at this
 have hx:s[P]=c:=by rw[A9 s hlt]at hc;exact Option.some.inj hc
 have hcl:=Be c;have i0:(0:Int)<=(P:Int):=by omega
 have i1:(P:Int)<(s.size:Int):=by omega
 have e1:((P:Int)==(s.size:Int))=false:=by rw[beq_eq_false_iff_ne];omega
 clear hc h;have HS:=qz hS;clear hS;go_enter Tryz.func206,Tryz.ntmps206;go_wp2_with (fail);(with_reducible refine(HS.out).mono ?_);rintro e w1 ⟨rfl,h1⟩;obtain⟨c0,c1,_,f1,hR⟩:=h1.2.cells;have H1:=qz h1;clear h1;go_wp2;go_quiet (fail);go_wp2;go_ret;exact⟨rfl,(H1.out.drewN _).set _⟩
theorem Ad0 (R g:Nat) (s:ByteArray) (k:Nat) (c:UInt8) (w:World) (hs:s.size<=1000000000) (hk:k<=s.size) (h:S5 w R g s k) (hc: ¬(s.data.toList[Al s.data.toList k]? =some c)):
 Calls Tryz.prog 206 #[.pointer (some ⟨R,0,none⟩),.int .u8 c.toNat] w fun e w'=>e=.returned (.bool false)/\Bd R g s (Al s.data.toList k) w w':=by
 have hS:=Fo R g s k w hs hk h;have hP:=Bp hk;generalize Al s.data.toList k=P at hS hP hc ⊢;have i0:(0:Int)<=(P:Int):=by omega
 by_cases hlt:P<s.size
 . obtain⟨x,hx⟩: ∃x,s[P]=x:=⟨_,rfl⟩;have hne:((x.toNat:Int)==(c.toNat:Int))=false:=by
    rw[A9 s hlt,hx]at hc;rw[beq_eq_false_iff_ne];intro e;exact hc (by rw[UInt8.toNat_inj.1 (by omega:x.toNat=c.toNat)])
   have hne2:((x.toNat:Int) != (c.toNat:Int))=true:=by unfold bne;rw[hne];rfl
   have hcl:=Be c;have hxl:=Be x;have i1:(P:Int)<(s.size:Int):=by omega
   have e1:((P:Int)==(s.size:Int))=false:=by rw[beq_eq_false_iff_ne];omega
   clear hc h;have HS:=qz hS;clear hS;go_enter Tryz.func206,Tryz.ntmps206;go_wp2_with (fail);(with_reducible refine(HS.out).mono ?_);rintro e w1 ⟨rfl,h1⟩;obtain⟨c0,c1,_,f1,hR⟩:=h1.2.cells;have H1:=qz h1;clear h1;go_wp2;go_quiet (fail);go_wp2;go_ret;exact⟨rfl,H1.out.drewN _⟩
 . obtain rfl:P=s.size:=by omega
   have e1:((s.size:Int)==(s.size:Int))=true:=by simp
   clear hc h;have HS:=qz hS;clear hS;go_enter Tryz.func206,Tryz.ntmps206;go_wp2_with (fail);(with_reducible refine(HS.out).mono ?_);rintro e w1 ⟨rfl,h1⟩;obtain⟨c0,c1,_,f1,hR⟩:=h1.2.cells;have H1:=qz h1;clear h1;go_wp2;go_quiet (fail);go_wp2;go_ret;exact⟨rfl,H1.out.drewN _⟩
theorem Wp (R g:Nat) (s:ByteArray) (k:Nat) (c:UInt8) {B:Bool} (w:World) (hs:s.size<=1000000000) (hk:k<=s.size) (h:S5 w R g s k) (hB:decide (s.data.toList[Al s.data.toList k]? =some c)=B):
 Calls Tryz.prog 206 #[.pointer (some ⟨R,0,none⟩),.int .u8 c.toNat] w fun e w'=>e=.returned (.bool B)/\Bd R g s (if B=true then Al s.data.toList k+1 else Al s.data.toList k) w w':=by
 subst hB;by_cases hc:s.data.toList[Al s.data.toList k]? =some c
 . rw[decide_eq_true hc,if_pos rfl];exact Abv R g s k c w hs hk h hc
 . rw[decide_eq_false hc,if_neg (by decide)];exact Ad0 R g s k c w hs hk h hc
end Go.Proofs.YtkmcjfkokoidcaaGreatDoor
