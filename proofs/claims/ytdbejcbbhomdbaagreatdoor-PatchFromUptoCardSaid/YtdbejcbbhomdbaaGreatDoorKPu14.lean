/- Parts: A region that draws its order, within a round of a range over an iterator. Plain over the kit's laws. No condition. -/
import Derived.Test.YtdbejcbbhomdbaaGreatDoorKPu10
set_option maxHeartbeats 20000000
set_option maxRecDepth 100000
namespace Go.Proofs.YtdbejcbbhomdbaaGreatDoor
theorem J6 {k a:ByteArray} {x:Val} {r:List A0} (h:Bq a k=true):B6 k ((a,x)::r)=B6 k r/\Ct k ((a,x)::r)=Ct k r+1:=by
 have e:Ct k ((a,x)::r)=Ct k r+1:=by simp only[Ct,if_pos h]
 refine⟨?_,e⟩;unfold B6;rw[e,List.getElem?_cons_succ]
theorem Ke (k:ByteArray) (v:Val): ∀l:List A0,A7 k v l=if B6 k l=true then l.set (Ct k l) (k,v)else l.take (Ct k l)++ [(k,v)]++l.drop (Ct k l)
 | []=>by simp[A7,Ct,B6]
 |(a,x)::r=>by
  simp only[A7];by_cases h:Bq a k=true
  . obtain⟨e1,e2⟩:=J6 (x:=x) (r:=r) h;rw[if_pos h,Ke k v r,e1,e2];by_cases hh:B6 k r=true
    . rw[if_pos hh,if_pos hh,tk6]
    . rw[if_neg hh,if_neg hh];simp
  . have e:Ct k ((a,x)::r)=0:=by simp only[Ct,if_neg h]
    have eh:B6 k ((a,x)::r)=(a.toList==k.toList):=by unfold B6;rw[e];rfl
    rw[if_neg h,e,eh];by_cases hk:a=k
    . subst hk;rw[if_pos rfl,if_pos (by simp)];rfl
    . rw[if_neg hk,if_neg fun e=>hk (Du (by simpa using e))];rfl
theorem Ji (k:ByteArray) (v:Val): ∀l:List A0,Af (A7 k v l)<=Af l+Af [(k,v)]
 | []=>by simp[A7,Af]
 |(a,x)::r=>by
  have ih:=Ji k v r;simp only[A7]
  split
  . simp only[Af]at ih ⊢;omega
  . split
    . simp only[Af]at ih ⊢;omega
    . simp only[Af]at ih ⊢;omega
def Er (h:Nat) (ks:List Nd) (k:ByteArray) (v:Val):List Nd:=
 ks.take (At ks k)++(Bu h (ks.getD (At ks k) (.leaf [])) k v).1::((Bu h (ks.getD (At ks k) (.leaf [])) k v).2.toList++ks.drop (At ks k+1))
theorem Yl {h lo:Nat} {ks:List Nd} (k:ByteArray) (v:Val) (hlo:2<=lo) (hn:Ej lo (h+1) (.inner ks)) (ha:Bb (As ks)):
 ∃x,ks[At ks k]? =some x/\ks.getD (At ks k) (.leaf [])=x/\Ej 4 h x/\Bb (By x)/\(By x).length<=(As ks).length/\Af (By x)<=Af (As ks)/\
  As (Er h ks k v)=A7 k v (As ks)/\(∀y ∈ Er h ks k v,Ej 4 h y)/\2<=(Er h ks k v).length/\(Er h ks k v).length<=9:=by
 simp only[Ej]at hn;obtain⟨h2,h8,hk⟩:=hn;have hne:ks≠ []:=by intro e;rw[e]at h2;simp at h2;omega
 obtain⟨A,x,C,e,hA,hlow,hhi⟩:=Kl (k:=k) hne hk ha;have hx:Ej 4 h x:=hk x (by rw[e];simp);have hax:Bb (By x):=by
  have ha':Bb (As ks):=ha;rw[e,Bo]at ha';have:=(List.pairwise_append.1 ha').2.1;simp only[As]at this;exact(List.pairwise_append.1 this).1
 obtain⟨i1,i2,i3⟩:=Km h (k:=k) (v:=v) (Nat.le_refl 4) (.inl (by omega)) (fun _=>by omega) hx hax;have eg:ks.getD (At ks k) (.leaf [])=x:=by rw[<-hA,e];simp
 have eq:ks[At ks k]? =some x:=by rw[<-hA,e];simp
 have et:ks.take (At ks k)=A:=by rw[<-hA,e];simp
 have ed:ks.drop (At ks k+1)=C:=by rw[<-hA,e];simp
 have hlen:ks.length=A.length+1+C.length:=by rw[e];simp;omega
 have hR:(Bu h x k v).2.toList.length<=1:=by cases (Bu h x k v).2<;>simp
 have hfl:As ks=As A++(By x++As C):=by rw[e,Bo];simp[As]
 have hW:Er h ks k v=A++(Bu h x k v).1::((Bu h x k v).2.toList++C):=by
  unfold Er;rw[eg,et,ed]
 refine⟨x,eq,eg,hx,hax,by rw[hfl];simp;omega,by rw[hfl,Ch,Ch];omega, ?_,fun y hy=> ?_,by rw[hW];simp;omega,by rw[hW];simp;omega⟩
 . rw[hW,Bo];simp only[As,Bo];have i1':By (Bu h x k v).1++As (Bu h x k v).2.toList=A7 k v (By x):=i1;rw[<-List.append_assoc (By (Bu h x k v).1),i1',hfl,Na hlow,K4 hhi]
 . rw[hW]at hy;rcases List.mem_append.1 hy with hy|hy
   . exact hk y (by rw[e];simp[hy])
   rcases List.mem_cons.1 hy with rfl|hy
   . exact i2
   rcases List.mem_append.1 hy with hy|hy
   . exact(i3 y (by simpa using hy)).2
   . exact hk y (by rw[e];simp[hy])
end Go.Proofs.YtdbejcbbhomdbaaGreatDoor
namespace Go.Proofs.YtdbejcbbhomdbaaGreatDoor
open Go.RowKit
mutual
def Dk:Val->Nat
 | .mk k _ _ _ l o=>1+(if k=5 then Fh l else if k=6 then Fi o else 0)
def Fh:List Val->Nat
 | []=>0
 |v::r=>max (Dk v) (Fh r)
def Fi:List (ByteArray×Val)->Nat
 | []=>0
 |p::r=>max (Uw p) (Fi r)
def Uw:ByteArray×Val->Nat
 |(_,v)=>Dk v
end
theorem Mi: ∀(l:List Val),(∀v ∈ l,Dk v<=v.bulk)->Fh l<=Bd l
 | [],_=>by simp[Fh]
 |v::r,h=>by
  have h1:=h v (by simp);have h2:=Mi r (fun x hx=>h x (by simp[hx]));simp only[Fh,Bd];omega
theorem Mj: ∀(l:List (ByteArray×Val)),(∀m ∈ l,Dk m.2<=m.2.bulk)->Fi l<=Af l
 | [],_=>by simp[Fi]
 |(k,v)::r,h=>by
  have h1:=h (k,v) (by simp);have h2:=Mj r (fun x hx=>h x (by simp[hx]));simp only[Fi,Uw,Af,Cp];simp only at h1;omega
theorem J3: ∀v:Val,Dk v<=v.bulk:=by
 refine Val.ind ?_;intro k b n t l o hl ho;have h1:=Mi l hl;have h2:=Mj o ho;simp only[Dk,Val.bulk]
 split
 . omega
 split<;>omega
def Wz (v:Val):Prop:= ∀(cs:List Value) (w:World),Ae w w.heap.size v cs->v.bulk<=100000000->
    Calls Tryz.prog 74 #[.agg cs.toArray] w fun e w'=>e=.returned (.int .i64 (Dk v))/\Below w.heap.size w w'
theorem Vo (b:Bool) (n:Int) (t:ByteArray) (l:List Val) (on:Nat) (IH: ∀v ∈ l,Wz v) (la oa:Option Addr) (oc lc:Nat) (w:World) (hl:l= []\/ ∃g off,la=some ⟨g,off,none⟩/\g<w.heap.size/\Aj w w.heap.size l g off)
 (hb:Bd l<=100000000):
 Calls Tryz.prog 74 #[.agg #[.int .i64 5,.bool b,.int .i64 n,.string t,.slice la l.length lc,.slice oa on oc]] w fun e w'=>e=.returned (.int .i64 (1+(Fh l:Int)))/\Below w.heap.size w w':=by
 have hln:=Df l;have hdl:=Mi l (fun v _=>J3 v);obtain⟨M,hM⟩: ∃M,Fh l=M:=⟨_,rfl⟩;rw[hM]at hdl ⊢;have H0:Hid (max 0 (Fh (l.drop 0))=M):=by show _=_;rw[List.drop_zero,hM];simp
 have HI:=qz IH;clear IH hM;go_enter Tryz.func74,Tryz.ntmps74;go_wp2_with (fail);have HB1:Hid (Below w.heap.size w (w.alloc (.cells #[.int .i64 5,.bool b,.int .i64 n,.string t,.slice la l.length lc,.slice oa on oc] 33))):=(Below.refl _ _).alloc (Nat.le_refl _) _;go_loopw [3,15] (fun m i wr=> ∃D k:Nat,m=.int .i64 D/\i=.int .i64 k/\k<=l.length/\Hid (max D (Fh (l.drop k))=M)/\D<=M/\Hid (Below w.heap.size w wr)) (fun _ i _=>l.length - (intOf i).toNat)
 case atStart=>exact⟨0,0,rfl,rfl,Nat.zero_le _,H0,Nat.zero_le _,HB1⟩
 case round=>
  obtain⟨D,k,rfl,rfl,hk,hD,hDM,hbw⟩:=hrel;clear H0 HB1;by_cases hlt:k<l.length
  . obtain⟨g,off,rfl,hg,hL⟩: ∃g off,la=some ⟨g,off,none⟩/\g<w.heap.size/\Aj w w.heap.size l g off:=by
     rcases hl with rfl|h
     . simp at hlt
     . exact h
    obtain⟨x,hx⟩: ∃v,l[k]? =some v:=⟨_,List.getElem?_eq_getElem hlt⟩;have hmem:x ∈ l:=List.mem_of_getElem? hx;have hbv:=Dg hmem;have hdv:=J3 x;have hdrop:l.drop k=x::l.drop (k+1):=Cu hx;have hD':=hD.out;rw[hdrop]at hD';simp only[Fh]at hD';have IHx:=HI.out x hmem;have hz:=hbw.out.size;obtain⟨m,hm⟩: ∃m,Dk x=m:=⟨_,rfl⟩;obtain⟨k',b',n',t',l',o'⟩:=x;obtain⟨la',lc',oa',oc',hvs,c0,c1,c2,c3,c4,c5⟩:=(hL.below hg hbw.out).six hx;have CT:=IHx _ (wr.alloc (.cells #[.int .i64 k',.bool b',.int .i64 n',.string t',.slice la' l'.length lc',.slice oa' o'.length oc'] 33)) (Ae.more (by simp;omega) _ _ (hvs.below ((Below.refl _ _).alloc hz _))) (by omega);rw[hm]at CT hD' hdv;have hCT:=qz CT;have Hn:Hid (max (max D m) (Fh (l.drop (k+1)))=M):=by show _=_;omega
    have hmM:max D m<=M:=by omega
    have hbA:Hid (Below w.heap.size w (wr.alloc (.cells #[.int .i64 k',.bool b',.int .i64 n',.string t',.slice la' l'.length lc',.slice oa' o'.length oc'] 33))):=hbw.out.alloc hz _;clear CT hD hD' hdrop IHx hm hvs hx hmem hL hg hdv hbv;by_cases hgt:D<m
    . have e1:max D m=m:=by omega
      rw[e1]at Hn hmM;clear e1;go_wp2_with (fail);(with_reducible refine hCT.out.mono ?_);rintro e w4 ⟨rfl,hb4⟩;have hbw4:=qz (hbA.out.trans (hb4.mono hbA.out.size));clear hb4 hbw hbA hCT;go_wp2;go_roundw
      case rel=>exact⟨m,k+1,by congr 1;omega,by go_num,by omega,Hn,hmM,hbw4⟩
      case measure=>simp only[intOf];omega
    . have e1:max D m=D:=by omega
      rw[e1]at Hn hmM;clear e1;go_wp2_with (fail);(with_reducible refine hCT.out.mono ?_);rintro e w4 ⟨rfl,hb4⟩;have hbw4:=qz (hbA.out.trans (hb4.mono hbA.out.size));clear hb4 hbw hbA hCT;go_wp2;go_roundw
      case rel=>exact⟨D,k+1,by congr 1;omega,by go_num,by omega,Hn,hmM,hbw4⟩
      case measure=>simp only[intOf];omega
  . obtain rfl:k=l.length:=by omega
    have hD':=hD.out;rw[List.drop_length]at hD';simp only[Fh]at hD';obtain rfl:D=M:=by omega
    clear hD hD' hl;go_wp2;go_ret;exact⟨rfl,hbw.out⟩
theorem Xx (b:Bool) (n:Int) (t:ByteArray) (l:List (ByteArray×Val)) (ln:Nat) (IH: ∀m ∈ l,Wz m.2) (la oa:Option Addr) (oc lc:Nat) (w:World) (hl:l= []\/ ∃g off,oa=some ⟨g,off,none⟩/\g<w.heap.size/\Ak w w.heap.size l g off)
 (hb:Af l<=100000000):
 Calls Tryz.prog 74 #[.agg #[.int .i64 6,.bool b,.int .i64 n,.string t,.slice la ln lc,.slice oa l.length oc]] w fun e w'=>e=.returned (.int .i64 (1+(Fi l:Int)))/\Below w.heap.size w w':=by
 have hln:=Aw l;have hdl:=Mj l (fun m _=>J3 m.2);obtain⟨M,hM⟩: ∃M,Fi l=M:=⟨_,rfl⟩;rw[hM]at hdl ⊢;have H0:Hid (max 0 (Fi (l.drop 0))=M):=by show _=_;rw[List.drop_zero,hM];simp
 have HI:=qz IH;clear IH hM;go_enter Tryz.func74,Tryz.ntmps74;go_wp2_with (fail);have HB1:Hid (Below w.heap.size w (w.alloc (.cells #[.int .i64 6,.bool b,.int .i64 n,.string t,.slice la ln lc,.slice oa l.length oc] 33))):=(Below.refl _ _).alloc (Nat.le_refl _) _;go_loopw [3,29] (fun m i wr=> ∃D k:Nat,m=.int .i64 D/\i=.int .i64 k/\k<=l.length/\Hid (max D (Fi (l.drop k))=M)/\D<=M/\Hid (Below w.heap.size w wr)) (fun _ i _=>l.length - (intOf i).toNat)
 case atStart=>exact⟨0,0,rfl,rfl,Nat.zero_le _,H0,Nat.zero_le _,HB1⟩
 case round=>
  obtain⟨D,k,rfl,rfl,hk,hD,hDM,hbw⟩:=hrel;clear H0 HB1;by_cases hlt:k<l.length
  . obtain⟨g,off,rfl,hg,hL⟩: ∃g off,oa=some ⟨g,off,none⟩/\g<w.heap.size/\Ak w w.heap.size l g off:=by
     rcases hl with rfl|h
     . simp at hlt
     . exact h
    obtain⟨⟨key,x⟩,hx⟩: ∃v,l[k]? =some v:=⟨_,List.getElem?_eq_getElem hlt⟩;have hmem:(key,x) ∈ l:=List.mem_of_getElem? hx;have hbv:=C3 hmem;simp only at hbv;have hdv:=J3 x;have hdrop:l.drop k=(key,x)::l.drop (k+1):=Cu hx;have hD':=hD.out;rw[hdrop]at hD';simp only[Fi,Uw]at hD';have IHx:=HI.out _ hmem;have hz:=hbw.out.size;obtain⟨m,hm⟩: ∃m,Dk x=m:=⟨_,rfl⟩;obtain⟨k',b',n',t',l',o'⟩:=x;obtain⟨la',lc',oa',oc',hvs,c0,c1,c2,c3,c4,c5,c6⟩:=(hL.below hg hbw.out).seven hx;have CT:=IHx _ (wr.alloc (.cells #[.string key,.int .i64 k',.bool b',.int .i64 n',.string t',.slice la' l'.length lc',.slice oa' o'.length oc'] 88)) (Ae.more (by simp;omega) _ _ (hvs.below ((Below.refl _ _).alloc hz _))) (show(Val.mk k' b' n' t' l' o').bulk<=100000000 from by omega);simp only[hm]at CT;rw[hm]at hD' hdv;have hCT:=qz CT;have Hn:Hid (max (max D m) (Fi (l.drop (k+1)))=M):=by show _=_;omega
    have hmM:max D m<=M:=by omega
    have hbA:Hid (Below w.heap.size w (wr.alloc (.cells #[.string key,.int .i64 k',.bool b',.int .i64 n',.string t',.slice la' l'.length lc',.slice oa' o'.length oc'] 88))):=hbw.out.alloc hz _;clear CT hD hD' hdrop IHx hm hvs hx hmem hL hg hdv hbv;have Hmx:=qz (show max (D:Int) (m:Int)=((max D m:Nat):Int)from by omega);generalize max D m=Dm at*
    go_wp2_with (fail);(with_reducible refine hCT.out.mono ?_);rintro e w4 ⟨rfl,hb4⟩;have hbw4:=qz (hbA.out.trans (hb4.mono hbA.out.size));clear hb4 hbw hbA hCT;go_wp2;go_roundw
    case rel=>exact⟨Dm,k+1,by rw[Hmx.out],by go_num,by omega,Hn,hmM,hbw4⟩
    case measure=>simp only[intOf];omega
  . obtain rfl:k=l.length:=by omega
    have hD':=hD.out;rw[List.drop_length]at hD';simp only[Fi]at hD';obtain rfl:D=M:=by omega
    clear hD hD' hl;go_wp2;go_ret;exact⟨rfl,hbw.out⟩
theorem Tf: ∀v,Wz v:=by
 refine Val.ind ?_;intro k b n t l o IHl IHo cs w hV hb;simp only[Ae]at hV;obtain⟨la,lc,oa,oc,rfl,hla,hoa⟩:=hV;simp only[Val.bulk]at hb;by_cases h5:k=5
 . subst h5;have:=Vo b n t l o.length IHl la oa oc lc w hla (by omega);simpa[Dk]using this
 by_cases h6:k=6
 . subst h6;have:=Xx b n t o l.length IHo la oa oc lc w hoa (by omega);simpa[Dk]using this
 have e:Dk (.mk k b n t l o)=1:=by simp[Dk,h5,h6]
 rw[e];have e5:(k==5)=false:=by simpa using h5
 have e6:(k==6)=false:=by simpa using h6
 clear e IHl IHo hla hoa hb h5 h6;go_enter Tryz.func74,Tryz.ntmps74;go_wp2;go_ret;exact⟨rfl,(Below.refl _ _).alloc (Nat.le_refl _) _⟩
def Bp (p:Prop) (w:World) (e:Ending) (w':World):Prop:= ∃B:Bool,e=.returned (.bool B)/\(B=true ↔ p)/\Below w.heap.size w w'
theorem Bp.no {p:Prop} {w w':World} (h: ¬p) (hb:Below w.heap.size w w'):Bp p w (.returned (.bool false)) w':=⟨false,rfl,by simp[h],hb⟩
theorem Bp.yes {p:Prop} {w w':World} (h:p) (hb:Below w.heap.size w w'):Bp p w (.returned (.bool true)) w':=⟨true,rfl,by simp[h],hb⟩
def EqC (a:Val):Prop:= ∀(b:Val) (cs cs':List Value) (w:World),Ae w w.heap.size a cs->Ae w w.heap.size b cs'->a.bulk<=100000000->b.bulk<=100000000->
    Calls Tryz.prog 17 #[.agg cs.toArray,.agg cs'.toArray] w (Bp (a=b) w)
theorem Kq {B:Nat} {a w:World} (h:Below B a w) (n:Nat):Below B a (w.drewN n):=⟨h.os,h.tape,h.output,h.size,h.block⟩
theorem Ce (w:World) (o o':Obj):Below w.heap.size w ((w.alloc o).alloc o'):=(Ac w o).alloc (by simp) _
theorem Ri {W w1:World} (hb:Below W.heap.size W w1):(∀b o,b<W.heap.size->w1.cell? ⟨b,o,none⟩=W.cell? ⟨b,o,none⟩)/\(∀b o,b<W.heap.size->w1.frozen? ⟨b,o,none⟩=W.frozen? ⟨b,o,none⟩):=
 ⟨fun b o h=>hb.cell (p:=⟨b,o,none⟩) h,fun b o h=>hb.frozen (p:=⟨b,o,none⟩) h⟩
theorem Zy (k k':Int) (b b':Bool) (n n':Int) (t t':ByteArray) (la oa la' oa':Option Addr) (ln lc on oc ln' lc' on' oc':Nat) (w:World) (p:Prop) (hp: ¬p) (h:k≠k'\/b≠b'\/n≠n'\/t≠t'\/ln≠ln'\/on≠on'):
 Calls Tryz.prog 17 #[.agg #[.int .i64 k,.bool b,.int .i64 n,.string t,.slice la ln lc,.slice oa on oc],.agg #[.int .i64 k',.bool b',.int .i64 n',.string t',.slice la' ln' lc',.slice oa' on' oc']] w (Bp p w):=by
 by_cases hk:k=k';rotate_left
 . have e:(k != k')=true:=by simpa using hk
   clear h hk;go_enter Tryz.func17,Tryz.ntmps17;go_wp2;go_ret;exact Bp.no hp (Ce _ _ _)
 subst hk;by_cases hb:b=b';rotate_left
 . clear h
   cases b<;>cases b'<;>first|exact absurd rfl hb|(clear hb;go_enter Tryz.func17,Tryz.ntmps17;go_wp2;go_ret;exact Bp.no hp (Ce _ _ _))
 subst hb;by_cases hn:n=n';rotate_left
 . have e:(n != n')=true:=by simpa using hn
   clear h hn;go_enter Tryz.func17,Tryz.ntmps17;go_wp2;go_ret;exact Bp.no hp (Ce _ _ _)
 subst hn;by_cases ht:t=t';rotate_left
 . have e:(t.toList != t'.toList)=true:=by simp only[bne_iff_ne];exact fun e=>ht (by rw[Lib.toList_data,Lib.toList_data]at e;exact ByteArray.ext (Array.ext' e))
   have e2:(t.toList==t'.toList)=false:=by simpa using e
   have e3: ¬t.toList=t'.toList:=by simpa using e
   clear h ht;go_enter Tryz.func17,Tryz.ntmps17;go_wp2;go_ret;exact Bp.no hp (Ce _ _ _)
 subst ht;by_cases hln:ln=ln';rotate_left
 . have e:((ln:Int) != (ln':Int))=true:=by simp;omega
   clear h hln;go_enter Tryz.func17,Tryz.ntmps17;go_wp2;go_ret;exact Bp.no hp (Ce _ _ _)
 subst hln;by_cases hon:on=on';rotate_left
 . have e:((on:Int) != (on':Int))=true:=by simp;omega
   clear h hon;go_enter Tryz.func17,Tryz.ntmps17;go_wp2;go_ret;exact Bp.no hp (Ce _ _ _)
 subst hon;simp at h
def EA (w:World) (b1 b2:Array Value) (wr:World):Prop:=Below w.heap.size w wr/\Ao wr w.heap.size 33 b1/\Ao wr (w.heap.size+1) 33 b2
theorem EA.step {w:World} {b1 b2:Array Value} {wr w4:World} (h:EA w b1 b2 wr) (hb:Below wr.heap.size wr w4):EA w b1 b2 w4:=⟨h.1.trans (hb.mono h.1.size),h.2.1.below hb h.2.1.lt,h.2.2.below hb h.2.2.lt⟩
theorem Jt {α:Type} {l l':List α} {q:Nat} {x x':α} (h:l.take q=l'.take q) (hx:l[q]? =some x) (hx':l'[q]? =some x') (e:x=x'):l.take (q+1)=l'.take (q+1):=by
 rw[List.take_add_one,List.take_add_one,hx,hx',h,e]
theorem Mz {α:Type} {l l':List α} {q:Nat} {x x':α} (hx:l[q]? =some x) (hx':l'[q]? =some x') (e:x≠x'):l≠l':=by
 rintro rfl;rw[hx]at hx';exact e (Option.some.inj hx')
theorem Zz (k:Int) (b:Bool) (n:Int) (t:ByteArray) (l l':List Val) (o o':List (ByteArray×Val)) (la oa la' oa':Option Addr) (lc oc lc' oc':Nat) (w:World) (IH: ∀v ∈ l,EqC v) (IHo: ∀m ∈ o,EqC m.2)
 (hln:l.length=l'.length) (hon:o.length=o'.length)
 (hl:l= []\/ ∃g off,la=some ⟨g,off,none⟩/\g<w.heap.size/\Aj w w.heap.size l g off) (hl':l'= []\/ ∃g off,la'=some ⟨g,off,none⟩/\g<w.heap.size/\Aj w w.heap.size l' g off)
 (ho:o= []\/ ∃g off,oa=some ⟨g,off,none⟩/\g<w.heap.size/\Ak w w.heap.size o g off) (ho':o'= []\/ ∃g off,oa'=some ⟨g,off,none⟩/\g<w.heap.size/\Ak w w.heap.size o' g off)
 (hbl:Bd l<=100000000) (hbl':Bd l'<=100000000) (hbo:Af o<=100000000) (hbo':Af o'<=100000000):
 Calls Tryz.prog 17 #[.agg #[.int .i64 k,.bool b,.int .i64 n,.string t,.slice la l.length lc,.slice oa o.length oc],.agg #[.int .i64 k,.bool b,.int .i64 n,.string t,.slice la' l.length lc',.slice oa' o.length oc']] w (Bp (l=l'/\o=o') w):=by
 have hlb:=Df l;have hob:=Aw o;have hA0:EA w #[.int .i64 k,.bool b,.int .i64 n,.string t,.slice la l.length lc,.slice oa o.length oc] #[.int .i64 k,.bool b,.int .i64 n,.string t,.slice la' l.length lc',.slice oa' o.length oc'] ((w.alloc (.cells #[.int .i64 k,.bool b,.int .i64 n,.string t,.slice la l.length lc,.slice oa o.length oc] 33)).alloc (.cells #[.int .i64 k,.bool b,.int .i64 n,.string t,.slice la' l.length lc',.slice oa' o.length oc'] 33)):=by
  refine⟨Ce _ _ _,(Ao.new w 33 #[.int .i64 k,.bool b,.int .i64 n,.string t,.slice la l.length lc,.slice oa o.length oc]).alloc _, ?_⟩;have:=Ao.new (w.alloc (.cells #[.int .i64 k,.bool b,.int .i64 n,.string t,.slice la l.length lc,.slice oa o.length oc] 33)) 33 #[.int .i64 k,.bool b,.int .i64 n,.string t,.slice la' l.length lc',.slice oa' o.length oc'];simpa using this
 have H00:=qz (show l.take 0=l'.take 0 from by simp);obtain⟨HIH,HIHo,HA0,Hln,Hon,Hl,Hl',Ho,Ho'⟩:=hid9 IH IHo hA0 hln hon hl hl' ho ho';clear hA0 hln hon hl hl' ho ho';clear IH IHo;go_enter Tryz.func17,Tryz.ntmps17;go_wp2_with (fail);obtain⟨w0,hw0⟩: ∃w0,(w.alloc (.cells #[.int .i64 k,.bool b,.int .i64 n,.string t,.slice la l.length lc,.slice oa o.length oc] 33)).alloc (.cells #[.int .i64 k,.bool b,.int .i64 n,.string t,.slice la' l.length lc',.slice oa' o.length oc'] 33)=w0:=⟨_,rfl⟩;rw[hw0]at HA0 ⊢;clear hw0;go_loopw [5] (fun i wr=> ∃q:Nat,i=.int .i64 q/\q<=l.length/\Hid (l.take q=l'.take q)/\Hid (EA w #[.int .i64 k,.bool b,.int .i64 n,.string t,.slice la l.length lc,.slice oa o.length oc] #[.int .i64 k,.bool b,.int .i64 n,.string t,.slice la' l.length lc',.slice oa' o.length oc'] wr)) (fun i _=>l.length - (intOf i).toNat)
 case atStart=>exact⟨0,rfl,Nat.zero_le _,H00,HA0⟩
 case round=>
  obtain⟨q,rfl,hq,htk,hea⟩:=hrel;clear H00 HA0;have m1:=hea.out.2.1.cell 4;have m2:=hea.out.2.2.cell 4;by_cases hlt:q<l.length
  . have hlt':q<l'.length:=by have:=Hln.out;omega
    obtain⟨g,off,rfl,hg,hLL⟩: ∃g off,la=some ⟨g,off,none⟩/\g<w.heap.size/\Aj w w.heap.size l g off:=Hl.out.resolve_left (by intro e;rw[e]at hlt;simp at hlt);obtain⟨g',off',rfl,hg',hLL'⟩: ∃g off,la'=some ⟨g,off,none⟩/\g<w.heap.size/\Aj w w.heap.size l' g off:=Hl'.out.resolve_left (by intro e;rw[e]at hlt';simp at hlt');obtain⟨x,hx⟩: ∃v,l[q]? =some v:=⟨_,List.getElem?_eq_getElem hlt⟩;obtain⟨x',hx'⟩: ∃v,l'[q]? =some v:=⟨_,List.getElem?_eq_getElem hlt'⟩;have IHx:=HIH.out _ (List.mem_of_getElem? hx);have hbv:=Dg (List.mem_of_getElem? hx);have hbv':=Dg (List.mem_of_getElem? hx');have:=trivial;have hbw:=hea.out.1;have hz:=hbw.size;have hT:=fun e=>Jt htk.out hx hx' e;have hN:=fun e=>Mz hx hx' e;obtain⟨xv,hxv⟩: ∃xv,x=xv:=⟨_,rfl⟩;obtain⟨xv',hxv'⟩: ∃xv,x'=xv:=⟨_,rfl⟩;obtain⟨k1,b1,n1,t1,l1,o1⟩:=x;obtain⟨k2,b2,n2,t2,l2,o2⟩:=x';obtain⟨la1,lc1,oa1,oc1,hv1,c0,c1,c2,c3,c4,c5⟩:=(hLL.below hg hbw).six hx;obtain⟨la2,lc2,oa2,oc2,hv2,d0,d1,d2,d3,d4,d5⟩:=(hLL'.below hg' hbw).six hx';have hC: ∀W,Below wr.heap.size wr W->Calls Tryz.prog 17 #[.agg #[.int .i64 k1,.bool b1,.int .i64 n1,.string t1,.slice la1 l1.length lc1,.slice oa1 o1.length oc1],.agg #[.int .i64 k2,.bool b2,.int .i64 n2,.string t2,.slice la2 l2.length lc2,.slice oa2 o2.length oc2]] W (Bp (xv=xv') W):=fun W hW=>by
     rw[<-hxv,<-hxv'];exact IHx _ _ _ W (Ae.more (Nat.le_trans hz hW.size) _ _ (hv1.below (hW.mono hz))) (Ae.more (Nat.le_trans hz hW.size) _ _ (hv2.below (hW.mono hz))) (by omega) (by omega)
    rw[hxv,hxv']at hT hN;have z1:g<wr.heap.size:=by omega
    have z2:g'<wr.heap.size:=by omega
    have z3:w.heap.size<wr.heap.size:=hea.out.2.1.lt;have z4:w.heap.size+1<wr.heap.size:=hea.out.2.2.lt;have z5:(q:Int)<(l.length:Int):=by omega
    obtain⟨HC,HT,HN⟩:=hid3 hC hT hN;clear hC hT hN;clear hbw hv1 hv2 hx hx' IHx hLL hLL' hxv hxv' htk;go_wp2_with (fail)
    go_region_held3 (fun W=>W.cell? ⟨w.heap.size,4,none⟩=some (.slice (some ⟨g,off,none⟩) l.length lc)/\W.cell? ⟨w.heap.size+1,4,none⟩=some (.slice (some ⟨g',off',none⟩) l.length lc')/\W.cell? ⟨g,off+q*6,none⟩=some (.int .i64 k1)/\W.cell? ⟨g,off+q*6+1,none⟩=some (.bool b1)/\W.cell? ⟨g,off+q*6+2,none⟩=some (.int .i64 n1)/\W.cell? ⟨g,off+q*6+3,none⟩=some (.string t1)/\W.cell? ⟨g,off+q*6+4,none⟩=some (.slice la1 l1.length lc1)/\W.cell? ⟨g,off+q*6+5,none⟩=some (.slice oa1 o1.length oc1)/\W.cell? ⟨g',off'+q*6,none⟩=some (.int .i64 k2)/\W.cell? ⟨g',off'+q*6+1,none⟩=some (.bool b2)/\W.cell? ⟨g',off'+q*6+2,none⟩=some (.int .i64 n2)/\W.cell? ⟨g',off'+q*6+3,none⟩=some (.string t2)/\W.cell? ⟨g',off'+q*6+4,none⟩=some (.slice la2 l2.length lc2)/\W.cell? ⟨g',off'+q*6+5,none⟩=some (.slice oa2 o2.length oc2)) (go_keep) (first|(go_at_call 17;refine(HC.out _ ?_).mono ?_;(exact(Below.drew (Below.refl _ _)));rintro e w4 ⟨B,rfl,hB,hb4⟩;have hbr:Below wr.heap.size wr w4:=((Below.drew (Below.refl _ _)).trans hb4);obtain⟨hc4,hf4⟩:=Ri hbr))
    all_goals
     have HE4:Hid (EA w #[.int .i64 k,.bool b,.int .i64 n,.string t,.slice (some ⟨g,off,none⟩) l.length lc,.slice oa o.length oc] #[.int .i64 k,.bool b,.int .i64 n,.string t,.slice (some ⟨g',off',none⟩) l.length lc',.slice oa' o.length oc'] w4):=hea.out.step hbr;clear hb4 hbr hc4 hf4 hea
     cases B with
     |true=>
      have HT':=qz (HT.out ((hB.1 rfl)));clear hB HT HN;go_wp2;go_roundw
      case rel=>exact⟨q+1,by go_num,by omega,HT',HE4⟩
      case measure=>simp only[intOf];omega
     |false=>
      have Hno:Hid (¬(l=l'/\o=o')):=fun h=>HN.out ((fun e=>by have:=hB.2 e;cases this)) h.1;clear hB HT HN;go_wp2;go_ret;exact Bp.no Hno.out HE4.out.1
  . obtain rfl:q=l.length:=by omega
    have hE:=htk.out;rw[List.take_length,Hln.out,List.take_length]at hE;have HE:=qz hE;clear hE;clear htk;have HE0:=HE;clear HE m1 m2;obtain⟨wo,hwo⟩: ∃wo:World,wo=wr:=⟨_,rfl⟩;subst hwo;have hb5:=hea.out.2.1.cell 5;have H01:=qz (show o.take 0=o'.take 0 from by simp);have m4:=hea.out.2.1.cell 4;go_wp2_with (fail);clear m4;go_loopw [6] (fun i wr=> ∃q:Nat,i=.int .i64 q/\q<=o.length/\Hid (o.take q=o'.take q)/\Hid (EA w #[.int .i64 k,.bool b,.int .i64 n,.string t,.slice la l.length lc,.slice oa o.length oc] #[.int .i64 k,.bool b,.int .i64 n,.string t,.slice la' l.length lc',.slice oa' o.length oc'] wr)) (fun i _=>o.length - (intOf i).toNat)
    case atStart=>exact⟨0,rfl,Nat.zero_le _,H01,hea⟩
    case round=>
     obtain⟨q,rfl,hq,htk,hea⟩:=hrel;clear H01;have m1:=hea.out.2.1.cell 5;have m2:=hea.out.2.2.cell 5;by_cases hlt:q<o.length
     . have hlt':q<o'.length:=by have:=Hon.out;omega
       obtain⟨g,off,rfl,hg,hLL⟩: ∃g off,oa=some ⟨g,off,none⟩/\g<w.heap.size/\Ak w w.heap.size o g off:=Ho.out.resolve_left (by intro e;rw[e]at hlt;simp at hlt);obtain⟨g',off',rfl,hg',hLL'⟩: ∃g off,oa'=some ⟨g,off,none⟩/\g<w.heap.size/\Ak w w.heap.size o' g off:=Ho'.out.resolve_left (by intro e;rw[e]at hlt';simp at hlt');obtain⟨⟨key,x⟩,hx⟩: ∃v,o[q]? =some v:=⟨_,List.getElem?_eq_getElem hlt⟩;obtain⟨⟨key',x'⟩,hx'⟩: ∃v,o'[q]? =some v:=⟨_,List.getElem?_eq_getElem hlt'⟩;have IHx:=HIHo.out _ (List.mem_of_getElem? hx);have hbv:=C3 (List.mem_of_getElem? hx);have hbv':=C3 (List.mem_of_getElem? hx');simp only at IHx hbv hbv';have hbw:=hea.out.1;have hz:=hbw.size;have hT:=fun e=>Jt htk.out hx hx' e;have hN:=fun e=>Mz hx hx' e;obtain⟨xv,hxv⟩: ∃xv,x=xv:=⟨_,rfl⟩;obtain⟨xv',hxv'⟩: ∃xv,x'=xv:=⟨_,rfl⟩;obtain⟨k1,b1,n1,t1,l1,o1⟩:=x;obtain⟨k2,b2,n2,t2,l2,o2⟩:=x';obtain⟨la1,lc1,oa1,oc1,hv1,c0,c1,c2,c3,c4,c5,c6⟩:=(hLL.below hg hbw).seven hx;obtain⟨la2,lc2,oa2,oc2,hv2,d0,d1,d2,d3,d4,d5,d6⟩:=(hLL'.below hg' hbw).seven hx';have hC: ∀W,Below wr.heap.size wr W->Calls Tryz.prog 17 #[.agg #[.int .i64 k1,.bool b1,.int .i64 n1,.string t1,.slice la1 l1.length lc1,.slice oa1 o1.length oc1],.agg #[.int .i64 k2,.bool b2,.int .i64 n2,.string t2,.slice la2 l2.length lc2,.slice oa2 o2.length oc2]] W (Bp (xv=xv') W):=fun W hW=>by
        rw[<-hxv,<-hxv'];exact IHx _ _ _ W (Ae.more (Nat.le_trans hz hW.size) _ _ (hv1.below (hW.mono hz))) (Ae.more (Nat.le_trans hz hW.size) _ _ (hv2.below (hW.mono hz))) (by omega) (by omega)
       rw[hxv,hxv']at hT hN;have z1:g<wr.heap.size:=by omega
       have z2:g'<wr.heap.size:=by omega
       have z3:w.heap.size<wr.heap.size:=hea.out.2.1.lt;have z4:w.heap.size+1<wr.heap.size:=hea.out.2.2.lt;have z5:(q:Int)<(o.length:Int):=by omega
       obtain⟨HC,HT,HN⟩:=hid3 hC hT hN;clear hC hT hN;clear hbw hv1 hv2 hx hx' IHx hLL hLL' hxv hxv' htk;by_cases hk:key.toList=key'.toList
       . have hkk:=Du hk;subst hkk;have e1:(key.toList != key.toList)=false:=by simp
         clear hk;go_wp2_with (fail)
         go_region_held3 (fun W=>W.cell? ⟨w.heap.size,5,none⟩=some (.slice (some ⟨g,off,none⟩) o.length oc)/\W.cell? ⟨w.heap.size+1,5,none⟩=some (.slice (some ⟨g',off',none⟩) o.length oc')/\W.cell? ⟨g,off+q*7,none⟩=some (.string key)/\W.cell? ⟨g,off+q*7+1,none⟩=some (.int .i64 k1)/\W.cell? ⟨g,off+q*7+2,none⟩=some (.bool b1)/\W.cell? ⟨g,off+q*7+3,none⟩=some (.int .i64 n1)/\W.cell? ⟨g,off+q*7+4,none⟩=some (.string t1)/\W.cell? ⟨g,off+q*7+5,none⟩=some (.slice la1 l1.length lc1)/\W.cell? ⟨g,off+q*7+6,none⟩=some (.slice oa1 o1.length oc1)/\W.cell? ⟨g',off'+q*7,none⟩=some (.string key)/\W.cell? ⟨g',off'+q*7+1,none⟩=some (.int .i64 k2)/\W.cell? ⟨g',off'+q*7+2,none⟩=some (.bool b2)/\W.cell? ⟨g',off'+q*7+3,none⟩=some (.int .i64 n2)/\W.cell? ⟨g',off'+q*7+4,none⟩=some (.string t2)/\W.cell? ⟨g',off'+q*7+5,none⟩=some (.slice la2 l2.length lc2)/\W.cell? ⟨g',off'+q*7+6,none⟩=some (.slice oa2 o2.length oc2)) (go_keep) (first|(go_at_call 17;refine(HC.out _ ?_).mono ?_;(exact(Below.drew (Below.refl _ _)));rintro e w4 ⟨B,rfl,hB,hb4⟩;have hbr:Below wr.heap.size wr w4:=((Below.drew (Below.refl _ _)).trans hb4);obtain⟨hc4,hf4⟩:=Ri hbr))
         all_goals
          have HE4:Hid (EA w #[.int .i64 k,.bool b,.int .i64 n,.string t,.slice la l.length lc,.slice (some ⟨g,off,none⟩) o.length oc] #[.int .i64 k,.bool b,.int .i64 n,.string t,.slice la' l.length lc',.slice (some ⟨g',off',none⟩) o.length oc'] w4):=hea.out.step hbr;clear hb4 hbr hc4 hf4 hea
          cases B with
          |true=>
           have HT':=qz (HT.out (by rw[hB.1 rfl]));clear hB HT HN;go_wp2;go_roundw
           case rel=>exact⟨q+1,by go_num,by omega,HT',HE4⟩
           case measure=>simp only[intOf];omega
          |false=>
           have Hno:Hid (¬(l=l'/\o=o')):=fun h=>HN.out (fun e=>by have:=hB.2 (congrArg Prod.snd e);cases this) h.2;clear hB HT HN;go_wp2;go_ret;exact Bp.no Hno.out HE4.out.1
       . have e1:(key.toList != key'.toList)=true:=by simpa using hk
         have e2:(key.toList==key'.toList)=false:=by simpa using hk
         have Hno:Hid (¬(l=l'/\o=o')):=fun h=>HN.out (fun e=>hk (by have e5:=congrArg Prod.fst e;simp only at e5;rw[e5])) h.2;have Hk:=qz hk;clear hk;clear HC HT HN;go_wp2_with (fail);go_quiet (fail);go_wp2;go_ret;exact Bp.no Hno.out (by first|exact Kq hea.out.1 _|exact Kq (Kq hea.out.1 _) _)
     . obtain rfl:q=o.length:=by omega
       have hE:=htk.out;rw[List.take_length,Hon.out,List.take_length]at hE;have HE:=qz hE;clear hE;clear htk;go_wp2;go_ret;exact Bp.yes ⟨HE0.out,HE.out⟩ hea.out.1
theorem Wm: ∀a,EqC a:=by
 refine Val.ind ?_;intro k b n t l o hl ho b' cs cs' w hV hV' hb hb';obtain⟨k',b',n',t',l',o'⟩:=b';simp only[Ae]at hV hV';obtain⟨la,lc,oa,oc,rfl,hla,hoa⟩:=hV;obtain⟨la',lc',oa',oc',rfl,hla',hoa'⟩:=hV';simp only[Val.bulk]at hb hb';by_cases hd:k≠k'\/b≠b'\/n≠n'\/t≠t'\/l.length≠l'.length\/o.length≠o'.length
 . exact Zy k k' b b' n n' t t' la oa la' oa' l.length lc o.length oc l'.length lc' o'.length oc' w _ (by rintro⟨⟩;simp at hd) hd
 . simp only[not_or,Decidable.not_not]at hd;obtain⟨rfl,rfl,rfl,rfl,e1,e2⟩:=hd;have:=Zz k b n t l l' o o' la oa la' oa' lc oc lc' oc' w hl ho e1 e2 hla hla' hoa hoa' (by omega) (by omega) (by omega) (by omega);rw[e1,e2]at this;refine(show Dr k b n t la l.length lc oa o.length oc=_ by rw[e1,e2])▸this.mono ?_;rintro e w' ⟨B,rfl,hB,hb⟩;exact⟨B,rfl,by rw[hB];simp,hb⟩
section
variable {P:Program} {l n:Nat} {ops:Array Oper} {Q:Exit->Act->World->Prop}
theorem Wn {row:String} {args:Array Value} {w:World} {R:Value->World->Prop} (h:Rows P row args w R):RowsIn (Fence.wide.inRound l) n P row args w R:=fun c cs _=>
 let ⟨v,w',r,s⟩:=h c cs
 ⟨v,w',r,stepsIn_wide.2 s⟩
theorem T6 {o:Oper} {a:Act} {w:World} {K:Act->World->Prop} (hd: ∀c,o.op≠ .defer c) (h:o.wp P a w K Q):o.wpIn (Fence.wide.inRound l) n P a w K Q:=by
 refine⟨fun _ _=>trivial, ?_⟩;rw[Oper.semAt_eq _ _ _ hd];unfold Oper.wp at h;generalize (execOp a.eval o).run P w=r at h
 cases r with
 |ok x w'=>cases x<;>simp only[Oper.upon,Oper.uponIn]at h ⊢ <;>first|exact h|exact⟨fun hh=>(by simp[Fence.wide]at hh),CallsIn.inRound l (callsIn_wide.2 h)⟩|exact⟨fun hh=>(by simp[Fence.wide]at hh),Wn h⟩|exact h.elim
 |halt x w'=>cases x<;>simp only[Oper.upon,Oper.uponIn]at h ⊢ <;>exact h
theorem Ir (hd: ∀(i:Nat) o,ops[i]? =some o-> ∀c,o.op≠ .defer c) (hQ: ¬LetsOut Q): ∀(is:List Nat) (a:Act) (w:World),wpOps P ops Q is a w->wpOpsIn (Fence.wide.inRound l) n P ops Q is a w
 | [],_,_,h=>h
 |i::rest,a,w,h=>by
  simp only[wpOps]at h;simp only[wpOpsIn]
  cases ho:ops[i]? with
  |none=>
   simp only[ho]at h ⊢;exact Ir hd hQ rest a w h
  |some o=>
   simp only[ho]at h ⊢;by_cases hw:Region.wanted o (yielded ops a.tmps)=true
   . simp only[hw,if_true]at h ⊢;rcases h with h|h
     . exact T6 (hd i o ho) (Oper.wp_mono (fun a' w' h'=>Ir hd hQ rest a' w' h') h)
     . exact absurd h.2 hQ
   . simp only[hw]at h ⊢;exact⟨fun _ _=>trivial,Ir hd hQ rest _ w h⟩
theorem L2 {id:Nat} {a:Act} {w:World} {S:World->Prop} (hm:P.follows .mixedOrders=true) (hd:(ops.toList.all fun o=>match o.op with| .defer _=>false|_=>true)=true) (hQ: ¬LetsOut Q) (hS:S w.drew)
 (h:S w.drew->wpAnyH P .any ops Q S ops.size (Array.replicate ops.size false) a w.drew):(Code.region id ops true).wpIn (Fence.wide.inRound l) n P Q a w:=
 wpIn_region_draw fun t=>by
  simp only[Region.schedule,hm,Bool.true_or,if_true];refine Ir (fun i o ho c hc=> ?_) hQ _ _ _ (wpAny_sound ops.size t _ a _ (wpAny_of_held _ _ _ _ (h hS)));have h1:=List.all_eq_true.1 hd o (by rw[<-Array.getElem?_toList]at ho;exact List.mem_of_getElem? ho);rw[hc]at h1
  cases h1
def noP (Q:Exit->Act->World->Prop) (e:Exit) (a:Act) (w:World):Prop:=
 match e with
 | .panic _=>False
 | .normal=>Q .normal a w
 | .ret=>Q .ret a w
 | .exit i=>Q (.exit i) a w
 | .goto i=>Q (.goto i) a w
 | .outgrown=>Q .outgrown a w
theorem Qm {id:Nat} {a:Act} {w:World} {S:World->Prop} (hm:P.follows .mixedOrders=true) (hS:S w.drew) (h:S w.drew->wpAnyH P .any ops (noP Q) S ops.size (Array.replicate ops.size false) a w.drew):(Code.region id ops true).wpIn Fence.wide n P Q a w:=
 wpIn_mono (wpIn_wide.2 (wp_region_held_drew hm hS h)) fun e a w hq=>by
  cases e with
  |panic c=>exact hq.elim
  |normal=>exact hq
  |ret=>exact hq
  |exit i=>exact hq
  |goto i=>exact hq
  |outgrown=>exact hq
end
end Go.Proofs.YtdbejcbbhomdbaaGreatDoor
