/- Parts: Rows that a call builds by append: several data at once; a row's literal. Plain. No condition. -/
import Derived.Test.YtkmcjfkokoidcaaGreatDoorKFa17
set_option maxHeartbeats 20000000
set_option maxRecDepth 100000
namespace Go.Proofs.YtkmcjfkokoidcaaGreatDoor
open Go.RowKit
theorem Abb {r:Nat} (h:Dc r) (rest:List UInt8):Lib.decodeL (Lib.encodeRune (r:Int)++rest)=(r,(Lib.encodeRune (r:Int)).length):=by
 unfold Dc at h;by_cases c1:r<128
 . have e:Lib.encodeRune (r:Int)= [UInt8.ofNat r]:=by
    rw[L8 (by omega) (by omega)];simp
   have hn:(UInt8.ofNat r).toNat=r:=by simp[UInt8.toNat_ofNat'];omega
   rw[e,Db];show Lib.decodeN _ _ _ _ _=(r,1);unfold Lib.decodeN;simp only[List.cons_append,List.nil_append,List.getD_cons_zero,hn];rw[if_pos c1]
 unfold Lib.encodeRune;by_cases c2:r<2048
 . rw[Lib.encodeRuneZ_two (by omega) (by omega)];simp only[List.map_cons,List.map_nil,List.cons_append,List.nil_append,List.length_cons,List.length_nil];have a1:((192+(r:Int) / 64).toNat.toUInt8).toNat=192+r / 64:=by rw[Ii (by omega) (by omega)];omega
   have a2:((128+(r:Int) % 64).toNat.toUInt8).toNat=128+r % 64:=by rw[Ii (by omega) (by omega)];omega
   generalize (192+(r:Int) / 64).toNat.toUInt8=x1 at*
   generalize (128+(r:Int) % 64).toNat.toUInt8=x2 at*
   rw[Db];simp only[List.getD_cons_zero,List.getD_cons_succ,a1,a2,List.length_cons];unfold Lib.decodeN;rw[if_neg (by omega),if_pos (by omega),if_pos (by omega)];exact Prod.ext (by simp only;omega) rfl
 by_cases c3:r<65536
 . rw[Lib.encodeRuneZ_three (by omega)];simp only[List.map_cons,List.map_nil,List.cons_append,List.nil_append,List.length_cons,List.length_nil];have a1:((224+(r:Int) / 4096).toNat.toUInt8).toNat=224+r / 4096:=by rw[Ii (by omega) (by omega)];omega
   have a2:((128+(r:Int) / 64 % 64).toNat.toUInt8).toNat=128+r / 64 % 64:=by rw[Ii (by omega) (by omega)];omega
   have a3:((128+(r:Int) % 64).toNat.toUInt8).toNat=128+r % 64:=by rw[Ii (by omega) (by omega)];omega
   generalize (224+(r:Int) / 4096).toNat.toUInt8=x1 at*
   generalize (128+(r:Int) / 64 % 64).toNat.toUInt8=x2 at*
   generalize (128+(r:Int) % 64).toNat.toUInt8=x3 at*
   rw[Db];simp only[List.getD_cons_zero,List.getD_cons_succ,a1,a2,a3,List.length_cons];unfold Lib.decodeN;have d1:r / 64 / 64=r / 4096:=by omega
   rw[if_neg (by omega),if_neg (by omega),if_pos (by omega),if_pos (by omega)];exact Prod.ext (by simp only;omega) rfl
 . rw[Lib.encodeRuneZ_four (by omega) (by omega)];simp only[List.map_cons,List.map_nil,List.cons_append,List.nil_append,List.length_cons,List.length_nil];have a1:((240+(r:Int) / 262144).toNat.toUInt8).toNat=240+r / 262144:=by rw[Ii (by omega) (by omega)];omega
   have a2:((128+(r:Int) / 4096 % 64).toNat.toUInt8).toNat=128+r / 4096 % 64:=by rw[Ii (by omega) (by omega)];omega
   have a3:((128+(r:Int) / 64 % 64).toNat.toUInt8).toNat=128+r / 64 % 64:=by rw[Ii (by omega) (by omega)];omega
   have a4:((128+(r:Int) % 64).toNat.toUInt8).toNat=128+r % 64:=by rw[Ii (by omega) (by omega)];omega
   generalize (240+(r:Int) / 262144).toNat.toUInt8=x0 at*
   generalize (128+(r:Int) / 4096 % 64).toNat.toUInt8=x1 at*
   generalize (128+(r:Int) / 64 % 64).toNat.toUInt8=x2 at*
   generalize (128+(r:Int) % 64).toNat.toUInt8=x3 at*
   rw[Db];simp only[List.getD_cons_zero,List.getD_cons_succ,a1,a2,a3,a4,List.length_cons];unfold Lib.decodeN;rw[if_neg (by omega),if_neg (by omega),if_neg (by omega),if_pos (by omega),if_pos (by omega)];exact Prod.ext (by simp only;omega) rfl
theorem Wy (r:Int):Lib.encodeRune r≠ []:=by
 unfold Lib.encodeRune Lib.encodeRuneZ
 repeat' split
 all_goals simp
def Ag3 (c:UInt8):Nat:=if c.toNat<58 then c.toNat - 48 else c.toNat - 87
def Ank (c:UInt8):Nat:=if c.toNat=98 then 8 else if c.toNat=116 then 9 else if c.toNat=110 then 10 else if c.toNat=102 then 12 else if c.toNat=114 then 13 else c.toNat
def Ux (l:List UInt8):Nat×Nat:=
 if l.getD 0 0=92 then(if l.getD 1 0=117 then(Ag3 (l.getD 4 0)*16+Ag3 (l.getD 5 0),6)else(Ank (l.getD 1 0),2))else Lib.decodeL l
theorem X1: ∀r:Fin 128,(r.val<32\/r.val=34\/r.val=92)->((Ai r.val).getD 0 0=92/\(((Ai r.val).length=2/\(Ai r.val).getD 1 0≠117/\Ank ((Ai r.val).getD 1 0)=r.val)\/
 ((Ai r.val).length=6/\(Ai r.val).getD 1 0=117/\Ag3 ((Ai r.val).getD 4 0)*16+Ag3 ((Ai r.val).getD 5 0)=r.val))):=by decide+kernel
theorem Li {l x:List UInt8} {i:Nat} (h:i<l.length):(l++x).getD i 0=l.getD i 0:=by
 simp[List.getD,List.getElem?_append_left h]
theorem Xw {r:Nat} (h:Dc r) (x:List UInt8):Ux (Ai r++x)=(r,(Ai r).length):=by
 by_cases hp:32<=r/\r≠34/\r≠92
 . have e:Ai r=Lib.encodeRune r:=by unfold Ai;rw[if_pos hp]
   rw[e];unfold Ux;have h0:(Lib.encodeRune (r:Int)++x).getD 0 0≠92:=by
    have hb:=G0 h
    cases he:Lib.encodeRune (r:Int)with
    |nil=>exact absurd he (Wy r)
    |cons c y=>
     rw[he]at hb;have:=hb c (by simp);show c≠92;intro e';subst e';have e2:(92:UInt8).toNat=92:=rfl;omega
   rw[if_neg h0];exact Abb h x
 . have hr:r<128:=by omega
   obtain⟨h0,h1⟩:=X1 ⟨r,hr⟩ (by simp only;omega);simp only at h0 h1;unfold Ux;rcases h1 with⟨hl,h1,h2⟩|⟨hl,h1,h2⟩
   . rw[Li (by omega),Li (by omega),if_pos h0,if_neg h1,h2,hl]
   . rw[Li (by omega),Li (by omega),Li (by omega),Li (by omega),if_pos h0,if_pos h1,h2,hl]
theorem Vu {r r':Nat} (h:Dc r) (h':Dc r') {x x':List UInt8} (e:Ai r++x=Ai r'++x'):r=r'/\x=x':=by
 have a:=Xw h x;rw[e,Xw h' x']at a;have:r'=r:=congrArg Prod.fst a;subst this;exact⟨rfl,List.append_cancel_left e⟩
theorem Jm {r:Nat} (h:Dc r): ∃c y,Ai r=c::y/\c≠34:=by
 by_cases hp:32<=r/\r≠34/\r≠92
 . have e:Ai r=Lib.encodeRune r:=by unfold Ai;rw[if_pos hp]
   rw[e];have hb:=G0 h
   cases he:Lib.encodeRune (r:Int)with
   |nil=>exact absurd he (Wy r)
   |cons c y=>
    rw[he]at hb;have:=hb c (by simp);refine⟨c,y,rfl,fun e'=> ?_⟩;subst e';have e2:(34:UInt8).toNat=34:=rfl;omega
 . obtain⟨h0,h1⟩:=X1 ⟨r,by omega⟩ (by simp only;omega);simp only at h0 h1
   cases he:Ai r with
   |nil=>rw[he]at h1;simp at h1
   |cons c y=>
    rw[he]at h0;have h0':c=92:=h0;exact⟨c,y,rfl,by rw[h0'];decide⟩
theorem Ng: ∀(L L':List (Nat×Nat)),(∀x ∈ L,Dc x.2)->(∀x ∈ L',Dc x.2)-> ∀{x x':List UInt8},Ae L++34::x=Ae L'++34::x'->L.map (·.2)=L'.map (·.2)/\x=x'
 | [], [],_,_,x,x',e=>by
   have e':(34::x:List UInt8)=34::x':=e;exact⟨rfl,(List.cons.inj e').2⟩
 | [],b::L',_,h',x,x',e=>by
   obtain⟨c,y,hc,hn⟩:=Jm (h' b (by simp));have e':(34::x:List UInt8)=(Ai b.2++Ae L')++34::x':=by
    have:Ae (b::L')=Ai b.2++Ae L':=by simp[Ae]
    rw[<-this];exact e
   rw[hc]at e';exact absurd (List.cons.inj e').1.symm hn
 |a::L, [],h,_,x,x',e=>by
  obtain⟨c,y,hc,hn⟩:=Jm (h a (by simp));have e':(Ai a.2++Ae L)++34::x=(34::x':List UInt8):=by
   have:Ae (a::L)=Ai a.2++Ae L:=by simp[Ae]
   rw[<-this];exact e
  rw[hc]at e';exact absurd (List.cons.inj e').1 hn
 |a::L,b::L',h,h',x,x',e=>by
  have e1:Ae (a::L)=Ai a.2++Ae L:=by simp[Ae]
  have e2:Ae (b::L')=Ai b.2++Ae L':=by simp[Ae]
  rw[e1,e2,List.append_assoc,List.append_assoc]at e;obtain⟨h1,h2⟩:=Vu (h a (by simp)) (h' b (by simp)) e;obtain⟨h3,h4⟩:=Ng L L' (fun y hy=>h y (by simp[hy])) (fun y hy=>h' y (by simp[hy])) h2;exact⟨by rw[List.map_cons,List.map_cons,h1,h3],h4⟩
theorem Mj: ∀(n:Nat) (l:List UInt8) (p:Nat),l.length<=n->Lib.validD l=true->(Ax n l p).flatMap (fun x=>Lib.encodeRune (x.2:Int))=l
 |0,l,p,h,_=>by
  have:l= []:=List.length_eq_zero_iff.1 (by omega);subst this;rfl
 |n+1,l,p,h,hv=>by
  by_cases hl:l= []
  . subst hl;simp[Ax]
  . rw[Ky hl]at hv
    split at hv
    . cases hv
    rename_i hg;have hw:=Lib.decodeL_width l;have hle:=Lib.decodeL_le l hl;simp only[Ax];rw[if_neg hl,if_neg hg,List.flatMap_cons,Lib.encode_decode l hl hg,Mj n _ _ (by rw[List.length_drop];omega) hv];exact List.take_append_drop _ _
theorem Aiq {s s':ByteArray} (h:A9 s=true) (h':A9 s'=true) (e:(Bw s).map (·.2)=(Bw s').map (·.2)):s=s':=by
 have a:=Mj s.size s.data.toList 0 (by rw[Lp];exact Nat.le_refl _) h;have b:=Mj s'.size s'.data.toList 0 (by rw[Lp];exact Nat.le_refl _) h';have key: ∀L:List (Nat×Nat),L.flatMap (fun x=>Lib.encodeRune (x.2:Int))=(L.map (·.2)).flatMap (fun r=>Lib.encodeRune ((r:Nat):Int)):=by
  intro L
  induction L with
  |nil=>rfl
  |cons x L ih=>simp[List.flatMap_cons,ih]
 rw[key]at a b;have e':s.data.toList=s'.data.toList:=by
  rw[<-a,<-b];unfold Bw at e;rw[e]
 exact ByteArray.ext (Array.ext' e')
theorem Xv {s s':ByteArray} (h:A9 s=true) (h':A9 s'=true) {x x':List UInt8} (e:Bl s++x=Bl s'++x'):s=s'/\x=x':=by
 unfold Bl at e;rw[List.append_assoc,List.append_assoc]at e;have e':Ae (Bw s)++34::x=Ae (Bw s')++34::x':=(List.cons.inj e).2;obtain⟨h1,h2⟩:=Ng _ _ (Dw _ _ _) (Dw _ _ _) e';exact⟨Aiq h h' h1,h2⟩
theorem Vf (v:Val) (cs:List Value) (w:World) (hV:Ac w w.heap.size v cs) (hb:v.bulk<=100000000):
 Calls Tryz.prog 183 #[.agg cs.toArray] w (Ly w v):=by
 obtain⟨k,b,n,t,l,o⟩:=v;simp only[Ac]at hV;obtain⟨la,lc,oa,oc,rfl,hla,hoa⟩:=hV;simp only[Val.bulk]at hb;by_cases h5:k=5
 . subst h5;exact Adj b n t l o la oa oc lc w hla (by omega)
 by_cases h6:k=6
 . subst h6;exact Afx b n t l o la oa oc lc w hoa (by omega)
 have Hw:=qz (show within (.mk k b n t l o)= []from by simp[within,h5,h6]);have e5:(k==5)=false:=by simpa using h5
 have e6:(k==6)=false:=by simpa using h6
 clear hla hoa hb h5 h6;go_enter Tryz.func183,Tryz.ntmps183;go_wp2;go_ret;exact⟨⟨none,0,by rw[Hw.out];rfl,.inl Hw.out⟩,(Below.refl _ _).alloc (Nat.le_refl _) _⟩
theorem Wv: ∀o:List (ByteArray×Val),Ja o=E7 (o.map (·.2))
 | []=>rfl
 |(k,v)::r=>by simp only[Ja,Abc,List.map_cons,E7,Wv r]
theorem Yw (v:Val):Ev v=1+E7 (within v):=by
 obtain⟨k,b,n,t,l,o⟩:=v;simp only[Ev,within];by_cases h5:k=5
 . simp[h5]
 by_cases h6:k=6
 . simp[h6,Wv]
 . simp[h5,h6,E7]
theorem Wt: ∀o:List (ByteArray×Val),Bf (o.map (·.2))<=Ab o
 | []=>by simp[Bf]
 |(k,v)::r=>by
  have:=Wt r;simp only[List.map_cons,Bf,Ab,Ic];omega
theorem Adi (v:Val):Bf (within v)<=v.bulk:=by
 obtain⟨k,b,n,t,l,o⟩:=v;have:=Wt o;simp only[within,Val.bulk]
 split
 . omega
 split
 . omega
 . simp[Bf]
def Ads (v:Val):Prop:= ∀(cs:List Value) (w:World),Ac w w.heap.size v cs->v.bulk<=100000000->
    Calls Tryz.prog 113 #[.agg cs.toArray] w fun e w'=>e=.returned (.int .i64 (Ev v))/\Below w.heap.size w w'
theorem Afh (v:Val) (IH: ∀x ∈ within v,Ads x):Ads v:=by
 intro cs w hV hb;have hV':=hV;have hbw:=Adi v;have hlw:=Dt (within v);have hdw:=P1 (within v) (fun x _=>Lg x);have hW0:=fun w' (h:Below w.heap.size w w')=>Vf v cs w' (Ac.more h.size _ _ (hV.below h)) hb;rw[Yw];unfold Ly at hW0;generalize within v=L at*
 obtain⟨k,b,n,t,l,o⟩:=v;simp only[Ac]at hV';obtain⟨la,lc,oa,oc,rfl,_,_⟩:=hV';obtain⟨HI,HW⟩:=hid2 IH hW0;obtain⟨M,hM⟩: ∃M,E7 L=M:=⟨_,rfl⟩;rw[hM]at hdw ⊢;have H0:Hid (max 0 (E7 (L.drop 0))=M):=by show _=_;rw[List.drop_zero,hM];simp
 have HB1:Hid (Below w.heap.size w (w.alloc (.cells (Ei k b n t la l.length lc oa o.length oc).toArray 37))):=(Below.refl _ _).alloc (Nat.le_refl _) _;clear IH hW0 hM hV;go_enter Tryz.func113,Tryz.ntmps113;go_wp2_with (fail);(with_reducible refine(HW.out _ HB1.out).mono ?_);rintro e w2 ⟨⟨la',lc',rfl,hsl⟩,hb2⟩;have Hsl:=qz hsl;have HB2:=qz (HB1.out.trans (hb2.mono HB1.out.size));clear hsl hb2 HB1 HW;go_wp2_with (fail);have HBr:Hid (Below w2.heap.size w2 w2):=Below.refl _ _;go_loopw [3,5] (fun m i wr=> ∃D k:Nat,m=.int .i64 D/\i=.int .i64 k/\k<=L.length/\Hid (max D (E7 (L.drop k))=M)/\D<=M/\Hid (Below w2.heap.size w2 wr)) (fun _ i _=>L.length - (intOf i).toNat)
 case atStart=>exact⟨0,0,rfl,rfl,Nat.zero_le _,H0,Nat.zero_le _,HBr⟩
 case round=>
  obtain⟨D,k,rfl,rfl,hk,hD,hDM,hbw⟩:=hrel;clear H0 HBr;by_cases hlt:k<L.length
  . obtain⟨g,off,rfl,hg,hL⟩: ∃g off,la'=some ⟨g,off,none⟩/\g<w2.heap.size/\Ao w2 w2.heap.size L g off:=by
     rcases Hsl.out with h|h
     . rw[h]at hlt;simp at hlt
     . exact h
    obtain⟨x,hx⟩: ∃v,L[k]? =some v:=⟨_,List.getElem?_eq_getElem hlt⟩;have hmem:x ∈ L:=List.mem_of_getElem? hx;have hbv:=D9 hmem;have hdv:=Lg x;have hdrop:L.drop k=x::L.drop (k+1):=Ds hx;have hD':=hD.out;rw[hdrop]at hD';simp only[E7]at hD';have IHx:=HI.out x hmem;have hz:=hbw.out.size;obtain⟨m,hm⟩: ∃m,Ev x=m:=⟨_,rfl⟩;obtain⟨k',b',n',t',l',o'⟩:=x;obtain⟨la',lc',oa',oc',hvs,c0,c1,c2,c3,c4,c5⟩:=(hL.below hg hbw.out).six hx;have CT:=IHx _ wr (Ac.more hz _ _ hvs) (by omega);rw[hm]at CT hD' hdv;have hCT:=qz CT;have Hn:Hid (max (max D m) (E7 (L.drop (k+1)))=M):=by show _=_;omega
    have hmM:max D m<=M:=by omega
    clear CT hD hD' hdrop IHx hm hvs hx hmem hL hg hdv hbv;by_cases hgt:D<m
    . have e1:max D m=m:=by omega
      rw[e1]at Hn hmM;clear e1;go_wp2_with (fail);(with_reducible refine hCT.out.mono ?_);rintro e w4 ⟨rfl,hb4⟩;have hbw4:=qz (hbw.out.trans (hb4.mono hz));clear hb4 hbw hCT;go_wp2;go_roundw
      case rel=>exact⟨m,k+1,rfl,by go_num,by omega,Hn,hmM,hbw4⟩
      case measure=>simp only[intOf];omega
    . have e1:max D m=D:=by omega
      rw[e1]at Hn hmM;clear e1;go_wp2_with (fail);(with_reducible refine hCT.out.mono ?_);rintro e w4 ⟨rfl,hb4⟩;have hbw4:=qz (hbw.out.trans (hb4.mono hz));clear hb4 hbw hCT;go_wp2;go_roundw
      case rel=>exact⟨D,k+1,rfl,by go_num,by omega,Hn,hmM,hbw4⟩
      case measure=>simp only[intOf];omega
  . obtain rfl:k=L.length:=by omega
    have hD':=hD.out;rw[List.drop_length]at hD';simp only[E7]at hD';obtain rfl:D=M:=by omega
    have Hc:=qz (show(D:Int)+1=((1+D:Nat):Int)from by omega);clear hD hD';go_wp2;go_ret;exact⟨by rw[<-Hc.out];rfl,HB2.out.trans (hbw.out.mono HB2.out.size)⟩
theorem Acv: ∀v,Ads v:=by
 refine Val.ind ?_;intro k b n t l o IHl IHo;refine Afh _ (fun x hx=> ?_);simp only[within]at hx
 split at hx
 . exact IHl x hx
 split at hx
 . obtain⟨m,hm,rfl⟩:=List.mem_map.1 hx;exact IHo m hm
 . cases hx
theorem At.lit {S0:Nat->Prop} {b:Nat} {t:TypeId} {w:World} {d:D} {cs:Array Value} (hb:b<=w.heap.size) (hd:d.cells=cs.size) (h:Ah (fun i=>S0 i/\i≠w.heap.size) (w.alloc (.cells cs t)) d cs.toList):
 At S0 b t cs.size (w.alloc (.cells cs t)) [d] (.slice (some ⟨w.heap.size,0,none⟩) 1 1):=by
 refine⟨cs.toList,⟨by simp,.inr ⟨w.heap.size,1,cs,rfl,hb,heap_alloc_new w _,Nat.le_refl _,by unfold maxLen;omega,by simp, ?_⟩⟩,fun x hx=> ?_,Aw.one (h.mono fun i _ hi=>⟨hi.1,fun e=>hi.2 (Option.some.inj (e:some w.heap.size=some i)).symm⟩)⟩
 . simp only[List.length_cons,List.length_nil,Nat.zero_add,Nat.one_mul];rw[<-Array.length_toList,List.take_length]
 . simp only[List.mem_cons,List.not_mem_nil,or_false]at hx;rw[hx];exact hd
section
variable {P:Program}
theorem Z2 {t ty e:TypeId} {i:TypeInfo} {z:Value} {sz bytes:Nat} (ht:P.underlying t=some (.slice e)) (hi:P.info? e=some i) (hz:i.zero=some z) (hsize:i.size=sz) (hby:i.bytes=bytes) (hzs:z.cells.size=sz) (hsz:0<sz)
 {S0:Nat->Prop} {b:Nat} {w:World} {l:List D} {V:Value} (hrow:At S0 b e sz w l V) (hbw:b<=w.heap.size) {dl:List D} {cs:List Value} (hd: ∀d ∈ dl,d.cells=sz) (hx:Aw (fun i=>S0 i/\V.ownBlock≠some i) w dl cs)
 {B:Nat} {A:Option Addr} {n c:Nat} (hr:Bu w B sz A n cs) (hn:n=dl.length) (h63:l.length+n<=maxLen) (hbytes:(l.length+n)*bytes<=140737488355328):
 ∃V' w6,(Builtin.append_ #[t,t] ty #[V,.slice A n c]).run P w=.ok V' w6/\At S0 b e sz w6 (l++dl) V'/\w.grownBy w6 V.ownBlock/\(V'.ownBlock=V.ownBlock\/V'.ownBlock=some w.heap.size):=by
 subst hn;obtain⟨ns,h1,h2,h3⟩:=hrow;obtain⟨V',w6,hrun,g1,g2,g3⟩:=Kh (P:=P) w b t ty e i z sz bytes ht hi hz hsize hby hzs hsz V l.length ns h1 B A dl.length c cs hr hx.now.len.2 h63 hbytes hbw;refine⟨V',w6,hrun,⟨ns++cs,by rw[List.length_append];exact g1, ?_, ?_⟩,g2,g3⟩
 . intro x hx';rcases List.mem_append.1 hx' with hx'|hx'
   . exact h2 x hx'
   . exact hd x hx'
 . have key: ∀p:Addr,V.ownBlock≠some p.block->p.block<w.heap.size->V'.ownBlock≠some p.block:=by
    intro p p1 p2;rcases g3 with e3|e3
    . rw[e3];exact p1
    . rw[e3];intro e4;have:=Option.some.inj e4;omega
   have hag: ∀w'':World,w6.heap.size<=w''.heap.size->(∀p:Addr,S0 p.block/\V'.ownBlock≠some p.block->p.block<w6.heap.size->w''.cell? p=w6.cell? p)-> ∀p:Addr,S0 p.block/\V.ownBlock≠some p.block->p.block<w.heap.size->w''.cell? p=w.cell? p:=by
    intro w'' k1 k2 p p1 p2;rw[k2 p ⟨p1.1,key p p1.2 p2⟩ (Nat.lt_of_lt_of_le p2 g2.size)];exact World.cell?_of_block (g2.block p.block p2 (fun e=>p1.2 e.symm))
   intro w'' k1 k2;have a1:=Af.more (h3 w'' (Nat.le_trans g2.size k1) (hag w'' k1 k2)) g2.size;have a2:=Af.more (hx w'' (Nat.le_trans g2.size k1) (hag w'' k1 k2)) g2.size;exact a1.app a2
theorem Adl {o:Oper} {a:Act} {w:World} {K:Act->World->Prop} {Q:Exit->Act->World->Prop} (s x:Operand) (t:TypeId) {e:TypeId}
 (ho:o.op=.call {callee:=.builtin .append,args:= #[s,x],argTypes:= #[t,t]}) {i:TypeInfo} {z:Value} {sz bytes:Nat} (ht:P.underlying t=some (.slice e)) (hi:P.info? e=some i) (hz:i.zero=some z) (hsize:i.size=sz) (hby:i.bytes=bytes) (hzs:z.cells.size=sz) (hsz:0<sz)
 {S0:Nat->Prop} {b:Nat} {l:List D} {V:Value} (hs:a.eval s=V) (hrow:At S0 b e sz w l V) (hbw:b<=w.heap.size) {dl:List D} {cs:List Value} (hd: ∀d ∈ dl,d.cells=sz) (hf:Aw (fun i=>S0 i/\V.ownBlock≠some i) w dl cs)
 {B:Nat} {A:Option Addr} {n c:Nat} (hx:a.eval x=.slice A n c) (hr:Bu w B sz A n cs) (hn:n=dl.length) (h63:l.length+n<=maxLen) (hbytes:(l.length+n)*bytes<=140737488355328)
 (h: ∀V' w6,At S0 b e sz w6 (l++dl) V'->w.grownBy w6 V.ownBlock->(V'.ownBlock=V.ownBlock\/V'.ownBlock=some w.heap.size)->K (a.put o.dst V') w6):o.wp P a w K Q:=by
 obtain⟨V',w6,hrun,g1,g2,g3⟩:=Z2 (ty:=o.type) (c:=c) ht hi hz hsize hby hzs hsz hrow hbw hd hf hr hn h63 hbytes;unfold Oper.wp execOp;simp only[ho,resolve,invoke,builtin,Sem.run_bind,Sem.run_pure,Result.andThen_ok,List.map_toArray,List.map_cons,List.map_nil,hs,hx,hrun];exact h V' w6 g1 g2 g3
theorem C4 {ops:Array Oper} {rest:List Oper} {o:Oper} {a:Act} {w:World} {Q:Exit->Act->World->Prop} (hgd:o.guard=none) (s x:Operand) (t:TypeId) {e:TypeId}
 (ho:o.op=.call {callee:=.builtin .append,args:= #[s,x],argTypes:= #[t,t]}) {i:TypeInfo} {z:Value} {sz bytes:Nat} (ht:P.underlying t=some (.slice e)) (hi:P.info? e=some i) (hz:i.zero=some z) (hsize:i.size=sz) (hby:i.bytes=bytes) (hzs:z.cells.size=sz) (hsz:0<sz)
 {S0:Nat->Prop} {b:Nat} {l:List D} {V:Value} (hs:a.eval s=V) (hrow:At S0 b e sz w l V) (hbw:b<=w.heap.size) {dl:List D} {cs:List Value} (hd: ∀d ∈ dl,d.cells=sz) (hf:Aw (fun i=>S0 i/\V.ownBlock≠some i) w dl cs)
 {B:Nat} {A:Option Addr} {n c:Nat} (hx:a.eval x=.slice A n c) (hr:Bu w B sz A n cs) (hn:n=dl.length) (h63:l.length+n<=maxLen) (hbytes:(l.length+n)*bytes<=140737488355328)
 (h: ∀V' w6,At S0 b e sz w6 (l++dl) V'->w.grownBy w6 V.ownBlock->(V'.ownBlock=V.ownBlock\/V'.ownBlock=some w.heap.size)->wpList P ops Q rest (a.put o.dst V') w6):wpList P ops Q (o::rest) a w:=
 wpList_plain hgd fun _ hK=>Adl s x t ho ht hi hz hsize hby hzs hsz hs hrow hbw hd hf hx hr hn h63 hbytes fun V' w6 h2 h3 h4=>hK _ _ (h V' w6 h2 h3 h4)
end
end Go.Proofs.YtkmcjfkokoidcaaGreatDoor
