/- Parts: Maps by what they answer: an entry stored in a region that draws its order, an entry looked up. Plain. No condition. -/
import Derived.Shelf.SlSortFuncK.WholeK
import Derived.Shelf.GgSortFunc.Tiny
import Derived.Test.YtdbejcbbhomdbaaGreatDoorKPt16
import Derived.Test.YtdbejcbbhomdbaaGreatDoorKPt17
import Derived.Test.YtdbejcbbhomdbaaGreatDoorKPt18
set_option maxHeartbeats 20000000
set_option maxRecDepth 100000
namespace Go.Proofs.YtdbejcbbhomdbaaGreatDoor
open Go.RowKit
theorem Uf (v:Val) (cs:List Value) (w:World) (hT:Ck w) (hV:Aa w w.heap.size v cs) (hb:v.bulk<=1000000000) (hok:Wl v):
 Calls Tryz.prog 75 #[.agg cs.toArray] w fun e w'=>e=.returned (.int .i64 (Bx v).length)/\Below w.heap.size w w':=by
 have hV':=hV;obtain⟨k,b,n,t,l,o⟩:=v;simp only[Aa]at hV';obtain⟨la,lc,oa,oc,rfl,_,_⟩:=hV';obtain⟨w1,hw1⟩: ∃w1,w.alloc (.cells (C0 k b n t la l.length lc oa o.length oc).toArray 33)=w1:=⟨_,rfl⟩;have hb1:Below w.heap.size w w1:=hw1▸(Below.refl _ _).alloc (Nat.le_refl _) _;have hz1:w1.heap.size=w.heap.size+1:=by rw[<-hw1];simp
 have hc:=Mn k b n t l o la oa lc oc false w1 (hT.below hb1) (Aa.more hb1.size _ _ (hV.below hb1)) hb hok;have HO:=qz (fun w=>Ke k b n t la oa l.length lc o.length oc w);rw[hz1]at hc;generalize Bx (.mk k b n t l o)=L at*
 have ent:=Gw;obtain⟨HC,HAB⟩:=hid2 hc hb1;subst hw1;clear hc hV hb hok hT hz1 hb1;go_enter Tryz.func75,Tryz.ntmps75;go_wp2_with (first|(go_at_call 81;refine(HO.out _).mono ?_;rintro e w2 ⟨rfl,rfl⟩)|(go_at_fn (Kn k);refine(HC.out).mono ?_;rintro e w4 ⟨rfl,h6,h7⟩;have hW4:=h6;obtain⟨pp,vv,hbld⟩:=hW4;have g3:w4.cell? ⟨w.heap.size+1,3,none⟩=some (.int .i64 (L.length:Int)):=by(rw[Lib.cell_of_heap hbld.2.1];rfl)));go_ret;exact⟨rfl,HAB.out.trans (h7.mono (by simp))⟩
theorem Qf (v:Val) (cs:List Value) (w:World) (hV:Aa w w.heap.size v cs) (hb:v.bulk<=100000000):
 Calls Tryz.prog 110 #[.agg cs.toArray] w (Ik w v):=by
 obtain⟨k,b,n,t,l,o⟩:=v;simp only[Aa]at hV;obtain⟨la,lc,oa,oc,rfl,hla,hoa⟩:=hV;simp only[Val.bulk]at hb;by_cases h5:k=5
 . subst h5;exact Wf b n t l o la oa oc lc w hla (by omega)
 by_cases h6:k=6
 . subst h6;exact Yf b n t l o la oa oc lc w hoa (by omega)
 have Hw:=qz (show within (.mk k b n t l o)= []from by simp[within,h5,h6]);have e5:(k==5)=false:=by simpa using h5
 have e6:(k==6)=false:=by simpa using h6
 clear hla hoa hb h5 h6;go_enter Tryz.func110,Tryz.ntmps110;go_wp2;go_ret;exact⟨⟨none,0,by rw[Hw.out];rfl,.inl Hw.out⟩,(Below.refl _ _).alloc (Nat.le_refl _) _⟩
theorem Rk: ∀o:List (ByteArray×Val),Fr o=Di (o.map (·.2))
 | []=>rfl
 |(k,v)::r=>by simp only[Fr,Uq,List.map_cons,Di,Rk r]
theorem Sp (v:Val):Dd v=1+Di (within v):=by
 obtain⟨k,b,n,t,l,o⟩:=v;simp only[Dd,within];by_cases h5:k=5
 . simp[h5]
 by_cases h6:k=6
 . simp[h6,Rk]
 . simp[h5,h6,Di]
theorem Ri: ∀o:List (ByteArray×Val),A6 (o.map (·.2))<=Ag o
 | []=>by simp[A6]
 |(k,v)::r=>by
  have:=Ri r;simp only[List.map_cons,A6,Ag,Ez];omega
theorem We (v:Val):A6 (within v)<=v.bulk:=by
 obtain⟨k,b,n,t,l,o⟩:=v;have:=Ri o;simp only[within,Val.bulk]
 split
 . omega
 split
 . omega
 . simp[A6]
def Wp (v:Val):Prop:= ∀(cs:List Value) (w:World),Aa w w.heap.size v cs->v.bulk<=100000000->
    Calls Tryz.prog 77 #[.agg cs.toArray] w fun e w'=>e=.returned (.int .i64 (Dd v))/\Below w.heap.size w w'
theorem X2 (v:Val) (IH: ∀x ∈ within v,Wp x):Wp v:=by
 intro cs w hV hb;have hV':=hV;have hbw:=We v;have hlw:=Ch (within v);have hdw:=Lw (within v) (fun x _=>H8 x);have hW0:=fun w' (h:Below w.heap.size w w')=>Qf v cs w' (Aa.more h.size _ _ (hV.below h)) hb;rw[Sp];unfold Ik at hW0;generalize within v=L at*
 obtain⟨k,b,n,t,l,o⟩:=v;simp only[Aa]at hV';obtain⟨la,lc,oa,oc,rfl,_,_⟩:=hV';obtain⟨HI,HW⟩:=hid2 IH hW0;obtain⟨M,hM⟩: ∃M,Di L=M:=⟨_,rfl⟩;rw[hM]at hdw ⊢;have H0:Hid (max 0 (Di (L.drop 0))=M):=by show _=_;rw[List.drop_zero,hM];simp
 have HB1:Hid (Below w.heap.size w (w.alloc (.cells (C0 k b n t la l.length lc oa o.length oc).toArray 33))):=(Below.refl _ _).alloc (Nat.le_refl _) _;clear IH hW0 hM hV;go_enter Tryz.func77,Tryz.ntmps77;go_wp2_with (fail);(with_reducible refine(HW.out _ HB1.out).mono ?_);rintro e w2 ⟨⟨la',lc',rfl,hsl⟩,hb2⟩;have Hsl:=qz hsl;have HB2:=qz (HB1.out.trans (hb2.mono HB1.out.size));clear hsl hb2 HB1 HW;go_wp2_with (fail);have HBr:Hid (Below w2.heap.size w2 w2):=Below.refl _ _;go_loopw [3,5] (fun m i wr=> ∃D k:Nat,m=.int .i64 D/\i=.int .i64 k/\k<=L.length/\Hid (max D (Di (L.drop k))=M)/\D<=M/\Hid (Below w2.heap.size w2 wr)) (fun _ i _=>L.length - (intOf i).toNat)
 case atStart=>exact⟨0,0,rfl,rfl,Nat.zero_le _,H0,Nat.zero_le _,HBr⟩
 case round=>
  obtain⟨D,k,rfl,rfl,hk,hD,hDM,hbw⟩:=hrel;clear H0 HBr;by_cases hlt:k<L.length
  . obtain⟨g,off,rfl,hg,hL⟩: ∃g off,la'=some ⟨g,off,none⟩/\g<w2.heap.size/\Ai w2 w2.heap.size L g off:=by
     rcases Hsl.out with h|h
     . rw[h]at hlt;simp at hlt
     . exact h
    obtain⟨x,hx⟩: ∃v,L[k]? =some v:=⟨_,List.getElem?_eq_getElem hlt⟩;have hmem:x ∈ L:=List.mem_of_getElem? hx;have hbv:=Cp hmem;have hdv:=H8 x;have hdrop:L.drop k=x::L.drop (k+1):=B5 hx;have hD':=hD.out;rw[hdrop]at hD';simp only[Di]at hD';have IHx:=HI.out x hmem;have hz:=hbw.out.size;obtain⟨m,hm⟩: ∃m,Dd x=m:=⟨_,rfl⟩;obtain⟨k',b',n',t',l',o'⟩:=x;obtain⟨la',lc',oa',oc',hvs,c0,c1,c2,c3,c4,c5⟩:=(hL.below hg hbw.out).six hx;have CT:=IHx _ wr (Aa.more hz _ _ hvs) (by omega);rw[hm]at CT hD' hdv;have hCT:=qz CT;have Hn:Hid (max (max D m) (Di (L.drop (k+1)))=M):=by show _=_;omega
    have hmM:max D m<=M:=by omega
    clear CT hD hD' hdrop IHx hm hvs hx hmem hL hg hdv hbv;by_cases hgt:D<m
    . have e1:max D m=m:=by omega
      rw[e1]at Hn hmM;clear e1;go_wp2_with (fail);(with_reducible refine hCT.out.mono ?_);rintro e w4 ⟨rfl,hb4⟩;have hbw4:=qz (hbw.out.trans (hb4.mono hz));clear hb4 hbw hCT;go_wp2;go_roundw
      case rel=>exact⟨m,k+1,rfl,by go_num,by omega,Hn,hmM,hbw4⟩
      case measure=>simp only[intOf];omega
    . have e1:max D m=D:=by omega
      rw[e1]at Hn hmM;clear e1;go_wp2_with (fail);(with_reducible refine hCT.out.mono ?_);rintro e w4 ⟨rfl,hb4⟩;have hbw4:=qz (hbw.out.trans (hb4.mono hz));clear hb4 hbw hCT;go_wp2;go_roundw
      case rel=>exact⟨D,k+1,rfl,by go_num,by omega,Hn,hmM,hbw4⟩
      case measure=>simp only[intOf];omega
  . obtain rfl:k=L.length:=by omega
    have hD':=hD.out;rw[List.drop_length]at hD';simp only[Di]at hD';obtain rfl:D=M:=by omega
    have Hc:=qz (show(D:Int)+1=((1+D:Nat):Int)from by omega);clear hD hD';go_wp2;go_ret;exact⟨by rw[<-Hc.out];rfl,HB2.out.trans (hbw.out.mono HB2.out.size)⟩
theorem Vq: ∀v,Wp v:=by
 refine Val.ind ?_;intro k b n t l o IHl IHo;refine X2 _ (fun x hx=> ?_);simp only[within]at hx
 split at hx
 . exact IHl x hx
 split at hx
 . obtain⟨m,hm,rfl⟩:=List.mem_map.1 hx;exact IHo m hm
 . cases hx
def Hg (k:Int) (b:Bool) (n:Int) (t:ByteArray) (ln on:Nat):Bool:=decide (k=0)&& !b&&decide (n=0)&&t.toList.isEmpty&&decide (ln=0)&&decide (on=0)
theorem Nm: ∀{l:List Val},(∀v ∈ l,∀d d':Int,A5 v d'=0->d+Dd v<=65->A5 v d=0)-> ∀{d d':Int},C8 l d'=0->(l= []\/d+Di l<=65)->C8 l d=0
 | [],_,_,_,_,_=>by simp[C8]
 |v::r,ih,d,d',h,hd=>by
  have hd:=hd.resolve_left (by simp);simp only[Di]at hd;simp only[C8]at h ⊢;by_cases h0:A5 v d'=0
  . rw[if_pos h0]at h;rw[if_pos (ih v (by simp) d d' h0 (by omega))];exact Nm (fun x hx=>ih x (by simp[hx])) h (.inr (by omega))
  . rw[if_neg h0]at h;exact absurd h h0
theorem Nn: ∀{l:List (ByteArray×Val)},(∀m ∈ l,∀d d':Int,A5 m.2 d'=0->d+Dd m.2<=65->A5 m.2 d=0)-> ∀{last:Option ByteArray} {d d':Int},C5 l last d'=0->(l= []\/d+Fr l<=65)->C5 l last d=0
 | [],_,_,_,_,_,_=>by simp[C5]
 |(key,v)::r,ih,last,d,d',h,hd=>by
  have hd:=hd.resolve_left (by simp);simp only[Fr,Uq]at hd;simp only[C5]at h ⊢;by_cases h0:M0 (key,v) last d'=0
  . rw[if_pos h0]at h;have h1:M0 (key,v) last d=0:=by
     simp only[M0]at h0 ⊢;by_cases hv:Aw key=true
     . rw[if_pos hv]at h0 ⊢
       cases last with
       |none=>exact ih (key,v) (by simp) d d' h0 (by simp only;omega)
       |some q=>
        simp only at h0 ⊢;by_cases hl:Yz key q=true
        . rw[if_pos hl]at h0;cases h0
        . rw[if_neg hl]at h0 ⊢;exact ih (key,v) (by simp) d d' h0 (by simp only;omega)
     . rw[if_neg hv]at h0;cases h0
    rw[if_pos h1];exact Nn (fun x hx=>ih x (by simp[hx])) h (.inr (by omega))
  . rw[if_neg h0]at h;exact absurd h h0
theorem Vb: ∀(v:Val) (d d':Int),A5 v d'=0->d+Dd v<=65->A5 v d=0:=by
 refine Val.ind ?_;intro k b n t l o hl ho d d' h hd;obtain⟨h1,_,h3,h4,h5⟩:=El h;obtain⟨_,_,k5,k6⟩:=M3 h1;simp only[Dd]at hd;have hL:C8 l (d+1)=0:=by
  refine Nm hl h4 ?_;rcases k5 with e|e
  . rw[if_pos e]at hd;exact .inr (by omega)
  . exact .inl (List.length_eq_zero_iff.1 e)
 have hO:C5 o none (d+1)=0:=by
  refine Nn ho h5 ?_;rcases k6 with e|e
  . rw[if_neg (by omega),if_pos e]at hd;exact .inr (by omega)
  . exact .inl (List.length_eq_zero_iff.1 e)
 have h64: ¬64<d:=by
  have:0<=(if k=5 then Di l else if k=6 then Fr o else 0):=Nat.zero_le _;omega
 simp only[A5];rw[if_neg (by rw[h1];simp),if_neg h64,if_pos h3,if_pos hL,hO]
def Ma (a b:Int):Int:=if a<b then -1 else if b<a then 1 else 0
theorem H9 {a b:Int}:Ma a b=0 ↔ a=b:=by
 unfold Ma
 split
 . constructor<;>intro h<;>omega
 split
 . constructor<;>intro h<;>omega
 . constructor<;>intro h<;>omega
def Rc (a b:ByteArray) (w:World) (e:Ending) (w':World):Prop:= ∃c:Int,e=.returned (.int .i64 c)/\(c=0 ↔ a=b)/\Below w.heap.size w w'
theorem Rc.of {a b:ByteArray} {w w':World} {c:Int} (h:c=0 ↔ a=b) (hb:Below w.heap.size w w'):Rc a b w (.returned (.int .i64 c)) w':=⟨c,rfl,h,hb⟩
def Bm (p:Prop) (w:World) (e:Ending) (w':World):Prop:= ∃c:Int,e=.returned (.int .i64 c)/\(c=0 ↔ p)/\Below w.heap.size w w'
theorem Bm.of {p:Prop} {w w':World} {c:Int} (h:c=0 ↔ p) (hb:Below w.heap.size w w'):Bm p w (.returned (.int .i64 c)) w':=⟨c,rfl,h,hb⟩
theorem Cw (w:World) (o o':Obj):Below w.heap.size w ((w.alloc o).alloc o'):=((Below.refl _ _).alloc (Nat.le_refl _) _).alloc (by simp) _
abbrev Mx:Type:=ByteArray×(Val×((Option Addr×Nat)×(Option Addr×Nat)))
instance:Inhabited Val:=⟨.mk 0 false 0 ⟨#[]⟩ [] []⟩
def E0:Mx->List Value
 |(key,(.mk k b n t l o,((la,lc),(oa,oc))))=> [.string key,.int .i64 k,.bool b,.int .i64 n,.string t,.slice la l.length lc,.slice oa o.length oc]
def Km (x:Mx):ByteArray×Val:=(x.1,x.2.1)
theorem Lx (x:Mx):(E0 x).length=7:=by
 obtain⟨key,⟨k,b,n,t,l,o⟩,⟨la,lc⟩,oa,oc⟩:=x;rfl
theorem Abu (x:Mx): ∀v ∈ E0 x,v.oneCell'=true:=by
 obtain⟨key,⟨k,b,n,t,l,o⟩,⟨la,lc⟩,oa,oc⟩:=x;intro v hv;simp only[E0,List.mem_cons,List.not_mem_nil,or_false]at hv;rcases hv with rfl|rfl|rfl|rfl|rfl|rfl|rfl<;>rfl
theorem Pg (x:Mx):(E0 x)[0]! =.string x.1:=by
 obtain⟨key,⟨k,b,n,t,l,o⟩,⟨la,lc⟩,oa,oc⟩:=x;rfl
def ltM (x y:Mx):Bool:=Cg x.1 y.1
theorem Ahd:Go.Sort.SWO ltM where
 irrefl x:=Cr _
 trans x y z h k:=Cc h k
 ntrans x y z h k:=by
  unfold ltM at*
  cases e:Cg x.1 z.1 with
  |false=>rfl
  |true=>
   rcases Ix x.1 y.1 with p|p|p
   . rw[h]at p;cases p
   . rw[p]at e;rw[k]at e;cases e
   . have:=Cc p e;rw[k]at this;cases this
theorem Aga (blk off c Bs size:Nat) (W:World) (G:Nat->ByteArray) (hs:W.cell? ⟨Bs,0,none⟩=some (.slice (some ⟨blk,off,none⟩) size c))
 (hc: ∀t,t<size->W.cell? ⟨blk,off+t*7,none⟩=some (.string (G t))) (i j:Nat) (hi:i<size) (hj:j<size) (_hsz:size<4611686018427387904):
 Calls Tryz.prog 113 #[.int .i64 i,.int .i64 j,.pointer (some ⟨Bs,0,none⟩)] W fun e w'=>e=.returned (.bool (Cg (G i) (G j)))/\ ∃q,w'=W.drewN q:=by
 have ci:=hc i hi;have cj:=hc j hj;clear hc;have i1:(i:Int)<(size:Int):=by omega
 have j1:(j:Int)<(size:Int):=by omega
 go_enter Tryz.func113,Tryz.ntmps113;go_wp2;go_quiet (fail);go_wp2;go_ret;exact⟨rfl,nq,rfl⟩
noncomputable def Aet:TypeInfo:=(Tryz.prog.info? 31).get (by kernel_rfl)
noncomputable def R5:TypeInfo:=(Tryz.prog.info? 88).get (by kernel_rfl)
theorem Agn (n:Nat) (h2:2<=n):Lib.swapperK n R5 25=9:=by
 have a:R5.hasPointers=true:=by kernel_rfl
 have b:R5.bytes=104:=by kernel_rfl
 have c:(n==0)=false:=by simp;omega
 have d:(n==1)=false:=by simp;omega
 simp[Lib.swapperK,a,b,c,d]
def Aa8 (w:World) (blk:Nat) (d:Array Mx) (e:Ending) (w':World):Prop:=e=.returned (.tuple #[])/\ ∃d':Array Mx,d'.size=d.size/\d'.toList.Perm d.toList/\Go.Sort.SortedIn ltM 0 d.size d'/\
 (∀i,i<d.size-> ∀j,j<7->w'.cell? ⟨blk,i*7+j,none⟩=some (E0 d'[i]!)[j]!)/\(∀b,b<w.heap.size->b≠blk->w'.heap[b]? =w.heap[b]?)/\w.heap.size<=w'.heap.size/\w'.os=w.os/\w'.tape=w.tape/\w'.output=w.output
theorem X8 (blk c Bs:Nat) (d:Array Mx) (h2:2<=d.size) (hsz:d.size<4611686018427387904) (w:World) (hH:Go.Sort.HoldsK E0 7 w blk 0 d) (hblk:blk<w.heap.size)
 (hBs:w.cell? ⟨Bs,0,none⟩=some (.slice (some ⟨blk,0,none⟩) d.size c)) (hB1:Bs<w.heap.size) (hB2:Bs≠blk):
 Calls Tryz.prog 112 #[.iface 31 (.slice (some ⟨blk,0,none⟩) d.size c),.func (.func 113) #[] #[.pointer (some ⟨Bs,0,none⟩)]] w (Aa8 w blk d):=by
 have hless:LessReadsK Tryz.prog 113 #[.pointer (some ⟨Bs,0,none⟩)] E0 7 ltM blk 0 d.size w:=by
  intro m os dk hs i j hi hj;have e:sortWorldK E0 7 w blk 0 m dk os=Go.Sort.putRowK E0 7 (Go.Sort.grow (Go.Sort.ahead w m) os) blk 0 dk:=by
   unfold sortWorldK;rw[Go.Sort.putRowK_grow _ _ (Go.Sort.ahead w m) _ blk 0 _ hblk]
  have hHg:Go.Sort.HoldsK E0 7 (Go.Sort.grow (Go.Sort.ahead w m) os) blk 0 d:=Go.Sort.holdsK_grow _ _ _ _ blk 0 d hblk (Go.Sort.holdsK_ahead _ _ _ _ _ _ _ hH);refine Aga blk 0 c Bs d.size _ (fun t=>dk[t]!.1) ?_ (fun t ht=> ?_) i j hi hj (by omega)
  . rw[e,Go.Sort.cell?_putRowK_other _ _ _ blk 0 dk _ (by exact hB2),Go.Sort.cell?_grow _ _ _ (by exact hB1)];exact hBs
  . rw[e,<-Pg];exact((Go.Sort.holdsK_putRowK _ _ _ blk 0 d dk hHg hs).cell (i:=t) (c:=0) (by omega) (by omega)).1
 have hS:=Any.sort_Slice_cells_sorted Tryz.sortSlice_lays 31 88 Aet R5 (by kernel_rfl) (by kernel_rfl) (by kernel_rfl) (by kernel_rfl) 25 (fun _=>by kernel_rfl) E0 7 Lx (by kernel_rfl) (fun _=>by kernel_rfl)
  Abu ltM Ahd 113 _
  (enters_of Tryz.func113 (by kernel_rfl) rfl) blk 0 c d h2 hsz 199 (by rw[Agn _ h2];kernel_rfl) false
  (fun args W=>run_callFunc_extern Tryz.func199 (by kernel_rfl) (by kernel_rfl) (by kernel_rfl) (e:=Extern.ReflectliteSwapper.swap false) (by kernel_rfl) args W) w hless hH hblk
 change Calls Tryz.prog 112 _ _ _ at hS;refine hS.mono ?_;rintro e w' ⟨rfl,d',n,os,⟨hs',_,hp⟩,hso,rfl⟩;have hp':d'.toList.Perm d.toList:=by
  have e1:d'.extract 0 d.size=d':=by rw[<-hs'];simp
  have e2:d.extract 0 d.size=d:=by simp
  rwa [e1,e2]at hp
 have hH2:Go.Sort.HoldsK E0 7 (Go.Sort.putRowK E0 7 (Go.Sort.ahead w n) blk 0 d') blk 0 d':=Go.Sort.holdsK_putRowK _ _ _ blk 0 d d' (Go.Sort.holdsK_ahead _ _ _ _ _ _ _ hH) hs';have hsize:(Go.Sort.putRowK E0 7 (Go.Sort.ahead w n) blk 0 d').heap.size=w.heap.size:=by
  simp[Go.Sort.putRowK,Go.Sort.putRow,Go.Sort.mapBlock,Go.Sort.ahead]
 refine⟨rfl,d',hs',hp',hso,fun i hi j hj=> ?_,fun b hb hne=> ?_,by rw[Go.Sort.size_grow,hsize];omega,rfl,rfl,rfl⟩
 . rw[Go.Sort.cell?_grow _ _ _ (by show blk<_;rw[hsize];exact hblk)];have:=(hH2.cell (i:=i) (c:=j) (by omega) hj).1
   rwa [Nat.zero_add]at this
 . show((Go.Sort.putRowK E0 7 (Go.Sort.ahead w n) blk 0 d').heap++os)[b]? =_;rw[Array.getElem?_append_left (by rw[hsize];exact hb)];simp only[Go.Sort.putRowK,Go.Sort.putRow,Go.Sort.mapBlock,Go.Sort.ahead,Array.getElem?_modify];rw[if_neg (fun e=>hne e.symm)]
theorem Aar (p:Option Addr) (n c Bs:Nat) (h1:n<=1) (w:World):
 Calls Tryz.prog 112 #[.iface 31 (.slice p n c),.func (.func 113) #[] #[.pointer (some ⟨Bs,0,none⟩)]] w fun e w'=>e=.returned (.tuple #[])/\Below w.heap.size w w':=by
 have key: ∀f,Tryz.prog.funcs.findIdx? (·.name== "internal/reflectlite" ++ ".Swapper$" ++toString (Lib.swapperK n R5 25))=some f->
  Calls Tryz.prog 112 #[.iface 31 (.slice p n c),.func (.func 113) #[] #[.pointer (some ⟨Bs,0,none⟩)]] w fun e w'=>e=.returned (.tuple #[])/\Below w.heap.size w w':=by
  intro f hf;have hS:=Any.sort_Slice_tiny Tryz.sortSlice_lays 31 88 Aet R5 (by kernel_rfl) (by kernel_rfl) (by kernel_rfl) (by kernel_rfl) 25 (fun _=>by kernel_rfl) p n c h1 f hf (.func 113) #[] #[.pointer (some ⟨Bs,0,none⟩)] w;change Calls Tryz.prog 112 _ _ _ at hS;refine hS.mono ?_;rintro e w' ⟨rfl,os,rfl⟩;refine⟨rfl,⟨rfl,rfl,rfl,by rw[Go.Sort.size_grow];omega,fun i hi=> ?_⟩⟩;show(w.heap++os)[i]? =_;exact Array.getElem?_append_left hi
 rcases Nat.eq_zero_or_pos n with rfl|h0
 . exact key 191 (by kernel_rfl)
 . obtain rfl:n=1:=by omega
   exact key 192 (by kernel_rfl)
def Zd (w:World) (o:List (ByteArray×Val)) (e:Ending) (w':World):Prop:= ∃V ns,e=.returned V/\w'.ownsRow w.heap.size 88 7 V o.length ns/\Af w w.heap.size (dO o) ns/\Below w.heap.size w w'
theorem Ui (o:List (ByteArray×Val)) (a:Option Addr) (n c:Nat) (w:World) (h:Ae w w.heap.size (.row 7 (dO o)) [.slice a n c]) (hn:o.length<=100000000):
 Calls Tryz.prog 111 #[.slice a n c] w (Zd w o):=by
 have hl:=h.row_len;rw[Cb]at hl;subst hl;obtain⟨ns,hr,hA,ho⟩:=h.reads;have hnil:=fun W=>Lib.run_eql_slice_nil (P:=Tryz.prog) W 31 88 a o.length c 0 0 Tryz.underlying31
 cases a with
 |none=>
  have h0:o.length=0:=by
   rcases Nat.eq_zero_or_pos o.length with h0|h0
   . exact h0
   . obtain⟨ad,e,_⟩:=hr.2 h0
     cases e
  have hns:ns= []:=List.eq_nil_of_length_eq_zero (by rw[hr.1,h0]);subst hns;obtain⟨H0,HA⟩:=hid2 h0 hA;clear h0 hA;clear h hr ho;go_enter Tryz.func111,Tryz.ntmps111;go_wp2;go_ret;exact⟨.slice none 0 0, [],rfl,by rw[H0.out];exact World.ownsRow_nil _ _ _ _,HA.out,Below.refl _ _⟩
 |some ad=>
  obtain⟨j0,hj,hy0,hy1,hy2⟩:=info_parts Pm;obtain⟨Hj,Hy0,Hy1,Hy2,Hr,HA,Ho⟩:=hid7 hj hy0 hy1 hy2 hr hA ho;clear hj hy0 hy1 hy2 hr hA ho;clear h;go_enter Tryz.func111,Tryz.ntmps111;have HOwn:Hid ((w.alloc (.cells #[] 88)).ownsRow w.heap.size 88 7 (.slice (some ⟨w.heap.size,0,none⟩) 0 0) 0 []):=
   ⟨by simp,.inr ⟨w.heap.size,0, #[],rfl,Nat.le_refl _,heap_alloc_new _ _,Nat.le_refl _,by unfold maxLen;omega,by simp,by simp⟩⟩
  go_wp2_with (at_builtin;refine G1 _ rfl (.tmp 5) (.tmp 6) 31 rfl w.heap.size 88 j0 (.agg #[.string ⟨#[]⟩,.int .i64 0,.bool false,.int .i64 0,.string ⟨#[]⟩,.slice none 0 0,.slice none 0 0]) 7 104 Tryz.underlying31 Hj.out Hy0.out Hy1.out Hy2.out rfl (by omega) (.slice (some ⟨w.heap.size,0,none⟩) 0 0) 0 [] rfl HOwn.out w.heap.size _ o.length _ ns rfl ?c0 ?c1 ?c2 ?c3 ?c4 ?_)
  case c0=>exact Hr.out.alloc (Nat.le_refl _) _
  case c1=>exact Ho.out
  case c2=>unfold maxLen;omega
  case c3=>omega
  case c4=>simp
  intro v1 w1 hown1 hgrow1 _;have Hb:Hid (Below w.heap.size w w1):=((Below.refl _ _).alloc (Nat.le_refl _) _).grown hgrow1 (by simp) (fun g hg=>by simp[Value.ownBlock]at hg;omega);have Hown1:=qz hown1;clear hown1;clear hgrow1;go_wp2;go_ret;exact⟨v1,ns,rfl,by simpa using Hown1.out,HA.out,Hb.out⟩
theorem L5:MKey Tryz.prog 9 Value.string:=Vg Tryz.underlying9
def Dx (w:World) (g n:Nat) (F:ByteArray->Option Value):Prop:= ∃kv,Dc Value.string w g kv/\kv.length=n/\ ∀k,Fs k kv=F k
variable {w w':World} {g n:Nat} {F:ByteArray->Option Value} {P:Program}
theorem Dx.lt (h:Dx w g n F):g<w.heap.size:=by
 obtain⟨kv,h,_⟩:=h;exact h.lt
theorem Dx.keep (h:Dx w g n F) (hk:w'.heap[g]? =w.heap[g]?):Dx w' g n F:=by
 obtain⟨kv,h1,h2⟩:=h;exact⟨kv,h1.keep hk,h2⟩
theorem Dx.below {B:Nat} (h:Dx w g n F) (hb:Below B w w') (hg:g<B):Dx w' g n F:=h.keep (hb.block g hg)
theorem Dx.new (w:World):Dx (w.alloc (.map #[] 0)) w.heap.size 0 fun _=>none:=⟨[],Dc.new w,rfl,fun _=>rfl⟩
theorem Dx.ext {G:ByteArray->Option Value} (h:Dx w g n F) (e: ∀k,F k=G k):Dx w g n G:=by
 obtain⟨kv,h1,h2,h3⟩:=h;exact⟨kv,h1,h2,fun k=>(h3 k).trans (e k)⟩
theorem Aam {kt et t:TypeId} (hP:MKey P kt Value.string) (ht:P.underlying t=some (.map kt et)) (h:Dx w g n F) (a:ByteArray) {z:Value} (hz: ∀w,(zeroValue et).run P w=.ok z w) (c:Bool):
 (Instr.lookup t (.map (some g)) (.string a) c).run P w=.ok (if c then .tuple #[(F a).getD z,.bool (F a).isSome]else(F a).getD z) w:=by
 obtain⟨kv,h1,_,h3⟩:=h;have:=Aan hP ht h1 a hz c;rw[h3 a]at this;exact this
end Go.Proofs.YtdbejcbbhomdbaaGreatDoor
