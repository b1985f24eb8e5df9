/- Parts: What writes an object's text. Condition: a bulk of at most 10^9. -/
import Derived.Stop.RegionWithIn
import Derived.Shelf.AbstractIn
import Derived.Test.YtkmcjfkokoidcaaGreatDoorKFb13
set_option maxHeartbeats 20000000
set_option maxRecDepth 100000
namespace Go.Proofs.YtkmcjfkokoidcaaGreatDoor
open Go.RowKit
theorem Agd {l:List Val} (h:Ys l) {v:Val} (hv:v ∈ l):Yt v:=by
 induction l with
 |nil=>cases hv
 |cons x r ih=>
  simp only[Ys]at h;rcases List.mem_cons.1 hv with rfl|hv
  . exact h.1
  . exact ih h.2 hv
theorem Abi {l:List (ByteArray×Val)} (h:Z5 l) {m:ByteArray×Val} (hv:m ∈ l):A8 m.1=true/\Yt m.2:=by
 induction l with
 |nil=>cases hv
 |cons x r ih=>
  obtain⟨k,v⟩:=x;simp only[Z5,okP]at h;rcases List.mem_cons.1 hv with rfl|hv
  . exact h.1
  . exact ih h.2 hv
theorem Lo: ∀(l:List Val),(∀v ∈ l,Yt v->(Bn v).length+1<=6*v.bulk)->Ys l-> ∀f,(Cy l f).length<=6*Bg l
 | [],_,_,f=>by simp[Cy]
 |v::r,ih,ho,f=>by
  simp only[Ys]at ho;have h1:=ih v (by simp) ho.1;have h2:=Lo r (fun x hx=>ih x (by simp[hx])) ho.2 false;simp only[Cy,Bg,List.length_append]
  split<;>simp<;>omega
theorem Lp: ∀(l:List (ByteArray×Val)),(∀m ∈ l,Yt m.2->(Bn m.2).length+1<=6*m.2.bulk)->Z5 l-> ∀f,(Cz l f).length<=6*Ae l
 | [],_,_,f=>by simp[Cz]
 |(k,v)::r,ih,ho,f=>by
  simp only[Z5,okP]at ho;have h1:=ih (k,v) (by simp) ho.1.2;have h2:=Lp r (fun x hx=>ih x (by simp[hx])) ho.2 false;have h3:=Ic k;simp only[Cz,Yh,Ae,Gm,List.length_append,List.length_cons];simp only at h1
  split<;>simp<;>omega
theorem Ji: ∀(v:Val),Yt v->(Bn v).length+1<=6*v.bulk:=by
 refine Val.ind ?_;intro k b n t l o hl ho h;simp only[Yt]at h;have h1:=Lo l hl h.2.2.1 true;have h2:=Lp o ho h.2.2.2 true;have h3:=Kk b;have h4:=Lib.itoa_length_le n h.2.1.1 h.2.1.2;have h5:=Ic t;simp only[Bn,Val.bulk]
 repeat' split
 all_goals(try simp only[List.length_cons,List.length_append,List.length_nil])
 all_goals omega
theorem Mo (v:Val): ∀(a:List Val) (f:Bool),Cy (a++ [v]) f=Cy a f++((if f&&a.isEmpty then []else [44])++Bn v)
 | [],f=>by cases f<;>simp[Cy]
 |x::r,f=>by
  simp only[List.cons_append,Cy,Mo v r false];simp[List.append_assoc]
theorem Mp (p:ByteArray×Val): ∀(a:List (ByteArray×Val)) (f:Bool),Cz (a++ [p]) f=Cz a f++((if f&&a.isEmpty then []else [44])++Yh p)
 | [],f=>by cases f<;>simp[Cz]
 |x::r,f=>by
  simp only[List.cons_append,Cz,Mp p r false];simp[List.append_assoc]
theorem Wi {l:List Val} {k:Nat} {v:Val} (h:l[k]? =some v):Bg l=Bg (l.take k)+(v.bulk+Bg (l.drop (k+1))):=by
 have h1: ∀a b:List Val,Bg (a++b)=Bg a+Bg b:=by
  intro a b
  induction a with
  |nil=>simp[Bg]
  |cons x r ih=>simp only[List.cons_append,Bg,ih];omega
 have h2:l=l.take k++(v::l.drop (k+1)):=by rw[<-C3 h,List.take_append_drop]
 conv=>lhs;rw[h2,h1]
 rfl
theorem Wj {l:List (ByteArray×Val)} {k:Nat} {p:ByteArray×Val} (h:l[k]? =some p):Ae l=Ae (l.take k)+(Gm p+Ae (l.drop (k+1))):=by
 have h1: ∀a b:List (ByteArray×Val),Ae (a++b)=Ae a+Ae b:=by
  intro a b
  induction a with
  |nil=>simp[Ae]
  |cons x r ih=>simp only[List.cons_append,Ae,ih];omega
 have h2:l=l.take k++(p::l.drop (k+1)):=by rw[<-C3 h,List.take_append_drop]
 conv=>lhs;rw[h2,h1]
 rfl
theorem Ae5 {l:List Val} (h:Ys l) (k:Nat):Ys (l.take k):=by
 induction l generalizing k with
 |nil=>simp[Ys]
 |cons x r ih=>
  cases k with
  |zero=>simp[Ys]
  |succ k=>simp only[Ys]at h;simp only[List.take_succ_cons,Ys];exact⟨h.1,ih h.2 k⟩
theorem Eo.cells {g j:Nat} {A W:World} (h:Eo g A W) {cs:Array Value} {t:TypeId} {fz:Nat×Nat} (hj:A.heap[j]? =some (.cells cs t fz)) (hg:j≠g) (ht:t≠5):W.heap[j]? =some (.cells cs t fz):=
 h j _ hj (by simpa using hg) (fun c fz e=>by injection e with _ e2 _;exact ht e2)
theorem P2 (l:List Val) (IH: ∀v ∈ l,Uc v) (W:World) (B g p:Nat) (h5:5<=B) (keeps:Bool) (acc:List UInt8) (la:Option Addr) (lc:Nat) (v0 v1 v2 v3 v5:Value)
 (hp:W.heap[p]? =some (.cells #[v0,v1,v2,v3,.slice la l.length lc,v5] 37 (0,0)))
 (gl off:Nat) (hla:l= []\/(la=some ⟨gl,off,none⟩/\gl<B/\Ao W B l gl off)) (hT:B3 W) (hpg:p≠g) (hW:Wr W B g keeps acc) (hok:Ys l) (hlen:acc.length+6*(6+Bg l)<=20000000000) (hb:Bg l<=1000000000):
 Calls Tryz.prog 130 #[.pointer (some ⟨g,0,none⟩),.pointer (some ⟨p,0,none⟩)] W fun e W'=>e=.returned (.tuple #[])/\Wr W' B g keeps (acc++91::(Cy l true++ [93]))/\Below B W W'/\Eo g W W':=by
 have hll:l.length<=1000000000:=by have:=Dr l;omega
 have HJ1:=qz (Fa [⟨#[91]⟩] 1 hW (by simp[Er];omega) (by simp));have HP:=qz hp;go_enter Tryz.func130,Tryz.ntmps130;go_wp2_with (go_at_call 124;refine(HJ1.out).mono ?_;rintro e w1 ⟨rfl,hw1,hb1,hk1⟩;have hp1:=hk1.cells HP.out hpg (by decide);have c4:w1.cell? ⟨p,4,none⟩=some (.slice la l.length lc):=(Lib.cell_of_heap hp1 4).trans rfl);have hw1':Wr w1 B g keeps (acc++91::Cy (l.take 0) true):=by simpa[Er,Cy]using hw1
 clear c4 hp1 hw1 HJ1;go_loopw [11] (fun i wr=> ∃k:Nat,k<=l.length/\i=.int .i64 k/\Wr wr B g keeps (acc++91::Cy (l.take k) true)/\Below B W wr/\Eo g W wr) (fun i _=>l.length - (intOf i).toNat)
 case atStart=>exact⟨0,Nat.zero_le _,rfl,hw1',hb1,hk1⟩
 case round=>
  obtain⟨k,hk,rfl,hw,hbw,hkw⟩:=hrel;clear hw1' hb1 hk1;have hBg:=hw.base;by_cases hlt:k<l.length
  . obtain⟨rfl,hg,hL⟩:la=some ⟨gl,off,none⟩/\gl<B/\Ao W B l gl off:=by
     rcases hla with rfl|h
     . simp at hlt
     . exact h
    obtain⟨v,hv⟩: ∃v,l[k]? =some v:=⟨_,List.getElem?_eq_getElem hlt⟩;have hmem:v ∈ l:=List.mem_of_getElem? hv;have hsp:=Wi hv;have IHv:=qz (IH v hmem);have hokv:=Agd hok hmem;have htk:l.take (k+1)=l.take k++ [v]:=by rw[List.take_add_one,hv];rfl
    have htl:=Lo (l.take k) (fun x _=>Ji x) (Ae5 hok k) true;have hfin:acc++91::Cy (l.take (k+1)) true=((acc++91::Cy (l.take k) true)++(if(k:Int)=0 then []else [44]))++Bn v:=by
     rw[htk,Mo];have e:((true&&(l.take k).isEmpty)=true) ↔ (k:Int)=0:=by
      rw[Bool.true_and,List.isEmpty_iff];constructor
      . intro h;have:=congrArg List.length h;rw[List.length_take,List.length_nil]at this;omega
      . intro h;have:k=0:=by omega
        subst this;rfl
     by_cases h0:(k:Int)=0
     . rw[if_pos h0,if_pos (e.2 h0)];simp
     . rw[if_neg h0,if_neg (fun h=>h0 (e.1 h))];simp
    have hpos:=v.bulk_pos;have hlenA:(acc++91::Cy (l.take k) true).length+6*(v.bulk+1)<=20000000000:=by
     rw[List.length_append,List.length_cons];omega
    generalize acc++91::Cy (l.take k) true=A at*
    have Hfin:=qz hfin;clear hfin htk htl IH hla;obtain⟨k',b',n',t',l',o'⟩:=v;have hLr:=hL.below hg hbw;obtain⟨la',lc',oa',oc',hvs,c0,c1,c2,c3,c4,c5⟩:=hLr.six hv;clear hL hLr hv hmem hok;obtain⟨wA,hwA⟩: ∃wA,wr.alloc (.cells #[.int .i64 k',.bool b',.int .i64 n',.string t',.slice la' l'.length lc',.slice oa' o'.length oc'] 37)=wA:=⟨_,rfl⟩;have hAw:Below wr.heap.size wr wA:=by rw[<-hwA];exact(Below.refl _ _).alloc (Nat.le_refl _) _
    have hbox:wA.heap[wr.heap.size]? =some (.cells #[.int .i64 k',.bool b',.int .i64 n',.string t',.slice la' l'.length lc',.slice oa' o'.length oc'] 37 (0,0)):=by rw[<-hwA];exact heap_alloc_new _ _
    have hgw:=hw.lt;have HTr:=qz (fun W' (hb':Below B wr W')=>hT.keep (hbw.trans hb') h5);have HVr:=qz (fun W' (hb':Below B wr W')=>hvs.below hb');have hszA:wA.heap.size=wr.heap.size+1:=by rw[<-hwA];simp
    have hj: ∀(S:List UInt8),S.length<=1->Calls Tryz.prog 124 #[.pointer (some ⟨g,0,none⟩),.slice (some ⟨wA.heap.size,0,none⟩) 1 1] (wA.alloc (.cells #[.string ⟨S.toArray⟩] 9 (0,0))) fun e w'=>e=.returned (.tuple #[])/\Wr w' B g keeps (A++S)/\Below B wA w'/\Eo g wA w':=fun S hS=>by
     have:=Fa [⟨S.toArray⟩] 1 (hw.below hAw) (by rw[Gp];omega) (by simp)
     rwa [Gp]at this
    have hj1:=hj (if(k:Int)=0 then []else [44]) (by split<;>simp);have hs2:(if(k:Int)=0 then []else [44]:List UInt8).length<=1:=by split<;>simp
    have cBt:=Lu (k:Int) wA;generalize (if(k:Int)=0 then []else [44]:List UInt8)=S at hj1 hs2 cBt Hfin;rw[hszA]at hj1;subst hwA;obtain⟨HJ,CB⟩:=hid2 hj1 cBt;clear hj1 hj cBt;have HOK:=qz hokv;have ent:=It;clear hokv hvs;have HB:=qz hbox;have hne:wr.heap.size≠g:=by omega
    go_wp2_with (first|(go_at_call 131;refine(CB.out).mono ?_;rintro e wx ⟨rfl,rfl⟩)|(go_at_call 124;refine(HJ.out).mono ?_;rintro e w2 ⟨rfl,h1,h2,h3⟩;have hz2:=h1.lt;have hb2:=h3.cells HB.out hne (by decide);have d0:w2.cell? ⟨wr.heap.size,0,none⟩=some (.int .i64 k'):=(Lib.cell_of_heap hb2 0).trans rfl;have d1:w2.cell? ⟨wr.heap.size,1,none⟩=some (.bool b'):=(Lib.cell_of_heap hb2 1).trans rfl;have d2:w2.cell? ⟨wr.heap.size,2,none⟩=some (.int .i64 n'):=(Lib.cell_of_heap hb2 2).trans rfl;have d3:w2.cell? ⟨wr.heap.size,3,none⟩=some (.string t'):=(Lib.cell_of_heap hb2 3).trans rfl;have d4:w2.cell? ⟨wr.heap.size,4,none⟩=some (.slice la' l'.length lc'):=(Lib.cell_of_heap hb2 4).trans rfl;have d5:w2.cell? ⟨wr.heap.size,5,none⟩=some (.slice oa' o'.length oc'):=(Lib.cell_of_heap hb2 5).trans rfl)|(go_at_call 74;refine(Li k' b' n' t' la' oa' l'.length lc' o'.length oc' w2).mono ?_;rintro e w3 ⟨rfl,rfl⟩)|(go_at_fn (Lt k');refine(IHv.out _ B g w2.heap.size keeps (A++S) (Ds k' b' n' t' la' l'.length lc' oa' o'.length oc') k' b' n' t' l' o' rfl h5 (HTr.out _ ?_) (HVr.out _ ?_) (heap_alloc_new _ _) ?_ (h1.below ((Below.refl _ _).alloc (Nat.le_refl _) _)) HOK.out ?_ ?_).mono ?_;rotate_right;rintro e w4 ⟨rfl,h6,h7,h8⟩));go_roundw
    case rel=>
     refine⟨k+1,by omega,by go_num, ?_,hbw.trans ((((Below.refl B wr).alloc (by omega) _).trans h2).trans (((Below.refl B w2).alloc (by omega) _).trans h7)),(hkw.trans (((Lib.OthersKept.refl _ _ wr).alloc _).trans h3)).trans (((Lib.OthersKept.refl _ _ w2).alloc _).trans h8)⟩;rw[Hfin.out];exact h6
    case measure=>simp[intOf];omega
    . exact(((Below.refl B wr).alloc (by omega) _).trans h2).alloc (by omega) _
    . exact(((Below.refl B wr).alloc (by omega) _).trans h2).alloc (by omega) _
    . omega
    . omega
    . rw[List.length_append];omega
  . obtain rfl:k=l.length:=by omega
    rw[List.take_length]at hw;have htl:=Lo l (fun x _=>Ji x) hok true;have HJ:=qz (Fa [⟨#[93]⟩] 1 hw (by rw[List.length_append,List.length_cons];simp[Er];omega) (by simp));clear htl hok;have hgw:=hw.lt;have hBg:=hw.base;have e:Er [⟨#[93]⟩]= [93]:=by simp[Er]
    go_wp2_with (go_at_call 124;refine(HJ.out).mono ?_;rintro e w2 ⟨rfl,h1,h2,h3⟩)
    go_end0
    rw[e,List.append_assoc,List.cons_append]at h1;exact⟨rfl,h1,hbw.trans h2,hkw.trans h3⟩
attribute [local go_sem] Oper.semAt_some
def G5:List (ByteArray×Val)->Bool->List (Bool×(ByteArray×Val))
 | [],_=> []
 |p::r,f=>(f,p)::G5 r false
def Val.kind:Val->Int
 | .mk k _ _ _ _ _=>k
def Ff (x:Bool×(ByteArray×Val)):ByteArray:=(⟨(if x.1 then []else [44]:List UInt8).toArray⟩:ByteArray)++⟨(Dd x.2.1).toArray⟩
def Zw (x:Bool×(ByteArray×Val)) (q:Nat):Array Value:=
 #[.string (Ff x),.func (.func (Lt x.2.2.kind)) #[] (G9 x.2.2.kind q)]
def Adn (W0:World) (B G:Nat) (x:Bool×(ByteArray×Val)) (q:Nat) (A:World):Prop:=
 G<q/\ ∃cs,A.heap[q]? =some (.cells cs.toArray 37 (0,0))/\Ac W0 B x.2.2 cs
theorem Si (oa:Option Addr) (on oc:Nat) (w:World):
 Calls Tryz.prog 133 #[.slice oa on oc] w fun e w'=>e=.returned (.func (.func 197) #[] #[.pointer (some ⟨w.heap.size,0,none⟩)])/\w.alloc (.cells #[.slice oa on oc] 35)=w':=by
 go_enter Tryz.func133,Tryz.ntmps133;go_wp2;go_ret;exact⟨rfl,rfl⟩
theorem Rq (o:List (ByteArray×Val)) (W0:World) (B G p:Nat) (oa:Option Addr) (oc:Nat) (go off:Nat) (h5:5<=B) (hT:B3 W0)
 (hoa:o= []\/(oa=some ⟨go,off,none⟩/\go<B/\Ak W0 B o go off)) (hok:Z5 o) (hb:Ae o<=1000000000):
 Aa0 Tryz.prog 197 #[.pointer (some ⟨p,0,none⟩)] Zw (Adn W0 B G) (G5 o true)
  (fun A=>A.heap[p]? =some (.cells #[.slice oa o.length oc] 35 (0,0))/\Below B W0 A/\G<A.heap.size):=by
 intro n l J W hJn hJb hY h0;have hoo:o.length<=1000000000:=by have:=Ba o;omega
 have hmx:Tryz.prog.follows .mixedOrders=true:=by kernel_rfl
 have hc0:W.cell? ⟨p,0,none⟩=some (.slice oa o.length oc):=(Lib.cell_of_heap (hJb _ _ h0).1 0).trans rfl;refine callsIn_of_wp Tryz.func197 rfl trivial ?_ rfl;simp only[Tryz.ntmps197,List.size_toArray,List.length_cons,List.length_nil,Nat.reduceAdd,Nat.reduceSub,Array.replicate_succ,Array.replicate_zero,List.push_toArray,List.append_toArray,List.nil_append,List.cons_append]
 gi_wp2
 gi_loopw [7] (fun i wr=> ∃(pre:List (Bool×(ByteArray×Val))) (k:Nat),i=.int .i64 k/\k<=o.length/\Hid (G5 o true=pre++G5 (o.drop k) (decide ((k:Int)=0)))/\J pre wr) (fun i _=>o.length - (intOf i).toNat)
 case atStart=>exact⟨[],0,rfl,Nat.zero_le _,rfl,h0⟩
 case round=>
  obtain⟨pre,k,rfl,hk,hr,hJ⟩:=hrel;obtain⟨hp,hbw,hG⟩:=hJb _ _ hJ;by_cases hlt:k<o.length
  . obtain⟨rfl,hg,hO⟩:oa=some ⟨go,off,none⟩/\go<B/\Ak W0 B o go off:=by
     rcases hoa with rfl|h
     . simp at hlt
     . exact h
    obtain⟨m,hm⟩: ∃m,o[k]? =some m:=⟨_,List.getElem?_eq_getElem hlt⟩;have hmem:m ∈ o:=List.mem_of_getElem? hm;have hsp:=Wj hm;have hokm:=Abi hok hmem;have HTr:Hid (B3 wr):=hT.keep hbw h5;have hr':=hr.out;rw[C3 hm]at hr';simp only[G5]at hr';have hk1:decide (((k+1:Nat):Int)=0)=false:=by simp;omega
    obtain⟨key,v⟩:=m;obtain⟨k',b',n',t',l',o'⟩:=v;obtain⟨la',lc',oa',oc',hvs,c0,c1,c2,c3,c4,c5,c6⟩:=hO.seven hm;replace c0:=(hbw.cell (p:=⟨go,off+k*7,none⟩) hg).trans c0;replace c1:=(hbw.cell (p:=⟨go,off+k*7+1,none⟩) hg).trans c1;replace c2:=(hbw.cell (p:=⟨go,off+k*7+2,none⟩) hg).trans c2;replace c3:=(hbw.cell (p:=⟨go,off+k*7+3,none⟩) hg).trans c3;replace c4:=(hbw.cell (p:=⟨go,off+k*7+4,none⟩) hg).trans c4;replace c5:=(hbw.cell (p:=⟨go,off+k*7+5,none⟩) hg).trans c5;replace c6:=(hbw.cell (p:=⟨go,off+k*7+6,none⟩) hg).trans c6;have HY:Hid (∀(A:World) (q:Nat),G<q->A.heap[q]? =some (.cells #[.int .i64 k',.bool b',.int .i64 n',.string t',.slice la' l'.length lc',.slice oa' o'.length oc'] 37 (0,0))->Below wr.heap.size wr A->
     YieldAt Fence.wide n Tryz.prog l #[.string ((⟨(if decide ((k:Int)=0)then []else [44]:List UInt8).toArray⟩:ByteArray)++⟨(Dd key).toArray⟩),.func (.func (Lt k')) #[] (G9 k' q)] A fun e B=>e=.returned (.bool true)/\J (pre++ [(decide ((k:Int)=0),key,.mk k' b' n' t' l' o')]) B):=by
     show ∀_ _,_;intro A q hq hA hb;have hM:Adn W0 B G (decide ((k:Int)=0),key,.mk k' b' n' t' l' o') q A:=⟨hq,Ds k' b' n' t' la' l'.length lc' oa' o'.length oc',hA,hvs⟩;have:=hY pre _ _ q A hr' (hJn _ _ _ hJ hb) hM;simp only[Zw,Ff,Val.kind]at this;exact this
    have Hr2:Hid (G5 o true=(pre++ [(decide ((k:Int)=0),key,.mk k' b' n' t' l' o')])++G5 (o.drop (k+1)) (decide (((k+1:Nat):Int)=0))):=by
     show _=_;rw[hk1,hr'];simp
    have cB: ∀w,Calls Tryz.prog 131 #[.int .i64 k] w fun e w'=>e=.returned (.string ⟨(if decide ((k:Int)=0)then []else [44]:List UInt8).toArray⟩)/\w=w':=by
     intro w;have:=Lu (k:Int) w;simpa only[decide_eq_true_eq]using this
    have hkz:key.size<=1000000000:=by simp only[Gm]at hsp;omega
    have cQ: ∀w,B3 w->Calls Tryz.prog 129 #[.string key] w fun e w'=>e=.returned (.string ⟨(Dd key).toArray⟩)/\Below w.heap.size w w':=fun w hw=>Pn key w hw hkz hokm.1;clear hr hr' hsp hokm hmem hm hO hvs hoa hY hk1 hok;have hS1:(⟨(if decide ((k:Int)=0)then []else [44]:List UInt8).toArray⟩:ByteArray).size<=1:=by
     split<;>simp[ByteArray.size]
    have hS2:(⟨(Dd key).toArray⟩:ByteArray).size<=6000000002:=by
     have:=Ic key;simp only[ByteArray.size,List.size_toArray];omega
    generalize (⟨(if decide ((k:Int)=0)then []else [44]:List UInt8).toArray⟩:ByteArray)=S at HY cB hS1;generalize (⟨(Dd key).toArray⟩:ByteArray)=Q at HY cQ hS2;have hSQ:((S.size:Int)+(Q.size:Int)>9223372036854775807)=False:=by simp;omega
    have hSQ2:((S.size+Q.size:Nat):Int)>IntKind.i64.max ↔ False:=by
     have e:IntKind.i64.max=9223372036854775807:=rfl;simp only[iff_false,e];omega
    obtain⟨CB,CQ⟩:=hid2 cB cQ;clear cB cQ;obtain⟨HJn,HJb,Hbw,HJ,Hp⟩:=hid5 hJn hJb hbw hJ hp;clear hc0 h0 hb hT hJn hJb hmx hbw hJ hp;have hGr:=hG
    gi_wp2
    obtain⟨A,hA⟩: ∃A,wr.alloc (.cells #[.string key,.int .i64 k',.bool b',.int .i64 n',.string t',.slice la' l'.length lc',.slice oa' o'.length oc'] 94)=A:=⟨_,rfl⟩;have hAb:Below wr.heap.size wr A:=by rw[<-hA];exact(Below.refl _ _).alloc (Nat.le_refl _) _
    have hAh:A.heap[wr.heap.size]? =some (.cells #[.string key,.int .i64 k',.bool b',.int .i64 n',.string t',.slice la' l'.length lc',.slice oa' o'.length oc'] 94 (0,0)):=by rw[<-hA];exact heap_alloc_new _ _
    rw[hA];have hAz:=(Array.getElem?_eq_some_iff.1 hAh).1;have hDb:Below wr.heap.size wr A.drew:=Below.drew hAb;have HTD:Hid (B3 A.drew):=HTr.out.keep hDb HTr.out.1;have hDh:A.drew.heap[wr.heap.size]? =some (.cells #[.string key,.int .i64 k',.bool b',.int .i64 n',.string t',.slice la' l'.length lc',.slice oa' o'.length oc'] 94 (0,0)):=hAh;clear hA c0 c1 c2 c3 c4 c5 c6 hAb;have HG:Hid (G<wr.heap.size):=hG;have hmx:Tryz.prog.follows .mixedOrders=true:=by kernel_rfl
    have a0:A.drew.cell? ⟨wr.heap.size,0,none⟩=some (.string key):=(Lib.cell_of_heap hDh 0).trans rfl;have a1:A.drew.cell? ⟨wr.heap.size,1,none⟩=some (.int .i64 k'):=(Lib.cell_of_heap hDh 1).trans rfl;have a2:A.drew.cell? ⟨wr.heap.size,2,none⟩=some (.bool b'):=(Lib.cell_of_heap hDh 2).trans rfl;have a3:A.drew.cell? ⟨wr.heap.size,3,none⟩=some (.int .i64 n'):=(Lib.cell_of_heap hDh 3).trans rfl;have a4:A.drew.cell? ⟨wr.heap.size,4,none⟩=some (.string t'):=(Lib.cell_of_heap hDh 4).trans rfl;have a5:A.drew.cell? ⟨wr.heap.size,5,none⟩=some (.slice la' l'.length lc'):=(Lib.cell_of_heap hDh 5).trans rfl;have a6:A.drew.cell? ⟨wr.heap.size,6,none⟩=some (.slice oa' o'.length oc'):=(Lib.cell_of_heap hDh 6).trans rfl;obtain⟨HDh,HDb⟩:=hid2 hDh hDb;clear hDh hDb hG hAz hAh
    gi_region_with (first|(refine⟨trivial, ?_⟩;gi_at_call 131;refine(callsIn_wide.2 (CB.out _)).mono ?_;rintro e wx ⟨rfl,rfl⟩)|(refine⟨trivial, ?_⟩;gi_at_call 129;refine(callsIn_wide.2 (CQ.out _ HTD.out)).mono ?_;rintro e w2 ⟨rfl,hb2⟩;have HB2:=qz hb2;have d0:=(hb2.block wr.heap.size (Array.getElem?_eq_some_iff.1 HDh.out).1).trans HDh.out;have d1:w2.cell? ⟨wr.heap.size,1,none⟩=some (.int .i64 k'):=(Lib.cell_of_heap d0 1).trans rfl;have d2:w2.cell? ⟨wr.heap.size,2,none⟩=some (.bool b'):=(Lib.cell_of_heap d0 2).trans rfl;have d3:w2.cell? ⟨wr.heap.size,3,none⟩=some (.int .i64 n'):=(Lib.cell_of_heap d0 3).trans rfl;have d4:w2.cell? ⟨wr.heap.size,4,none⟩=some (.string t'):=(Lib.cell_of_heap d0 4).trans rfl;have d5:w2.cell? ⟨wr.heap.size,5,none⟩=some (.slice la' l'.length lc'):=(Lib.cell_of_heap d0 5).trans rfl;have d6:w2.cell? ⟨wr.heap.size,6,none⟩=some (.slice oa' o'.length oc'):=(Lib.cell_of_heap d0 6).trans rfl;clear hb2 d0)|(refine⟨trivial, ?_⟩;gi_at_call 74;refine(callsIn_wide.2 (Li k' b' n' t' la' oa' l'.length lc' o'.length oc' w2)).mono ?_;rintro e w3 ⟨rfl,rfl⟩;obtain⟨fn,tmps,assign,body,hy,hR⟩:=HY.out (w2.alloc (.cells #[.int .i64 k',.bool b',.int .i64 n',.string t',.slice la' l'.length lc',.slice oa' o'.length oc'] 37)) w2.heap.size (Nat.lt_of_lt_of_le HG.out (HDb.out.trans (HB2.out.mono HDb.out.size)).size) (heap_alloc_new _ _) (((HDb.out.trans (HB2.out.mono HDb.out.size))).alloc (HDb.out.trans (HB2.out.mono HDb.out.size)).size _))|(refine hR.mono ?_;rintro e W3 ⟨rfl,hJ3⟩;clear hy hR))
    all_goals(
     gi_wp2
     go_roundw
     case rel=>exact⟨_,k+1,by go_num,by omega,Hr2,hJ3⟩
     case measure=>simp[intOf];omega)
  . obtain rfl:k=o.length:=by omega
    have hr':=hr.out;rw[List.drop_length]at hr';simp only[G5,List.append_nil]at hr';have Hr:=qz hr';clear hr hr' hoa hbw hT
    gi_wp2
    go_end0
    exact⟨⟨_,rfl⟩,by rw[Hr.out];exact hJ⟩
attribute [local go_sem] Oper.semAt_some
theorem Pc: ∀(o:List (ByteArray×Val)) (f:Bool) {pre:List (Bool×(ByteArray×Val))} {x:Bool×(ByteArray×Val)} {rest:List (Bool×(ByteArray×Val))},G5 o f=pre++x::rest->
 x.1=(f&&(pre.map (·.2)).isEmpty)/\o=pre.map (·.2)++x.2::rest.map (·.2)
 | [],f,pre,x,rest,h=>by simp[G5]at h
 |p::r,f, [],x,rest,h=>by
  simp only[G5,List.nil_append,List.cons.injEq]at h;obtain⟨rfl,h⟩:=h;have: ∀(l:List (ByteArray×Val)) (f:Bool),(G5 l f).map (·.2)=l:=by
   intro l
   induction l with
   |nil=>intro f;rfl
   |cons a l ih=>intro f;simp[G5,ih]
  rw[<-h,this];simp
 |p::r,f,y::pre,x,rest,h=>by
  simp only[G5,List.cons_append,List.cons.injEq]at h;obtain⟨rfl,h⟩:=h;obtain⟨h1,h2⟩:=Pc r false h;exact⟨by simpa using h1,by simp[<-h2]⟩
theorem Tk: ∀(l:List (ByteArray×Val)) (f:Bool),(G5 l f).map (·.2)=l
 | [],_=>rfl
 |a::l,f=>by simp[G5,Tk l]
theorem Eo.of_below {g:Nat} {A W:World} (h:Below A.heap.size A W):Eo g A W:=fun j _ hj _ _=>(h.block j (Array.getElem?_eq_some_iff.1 hj).1).trans hj
theorem Abj: ∀{a:List (ByteArray×Val)} {b:List (ByteArray×Val)},Z5 (a++b)->Z5 a
 | [],_,_=>by simp[Z5]
 |x::r,b,h=>by simp only[List.cons_append,Z5]at h ⊢;exact⟨h.1,Abj h.2⟩
theorem Tb: ∀(a:List (ByteArray×Val)) (p:ByteArray×Val) (b:List (ByteArray×Val)),Ae a+Gm p<=Ae (a++p::b)
 | [],p,b=>by simp[Ae]
 |x::r,p,b=>by have:=Tb r p b;simp only[List.cons_append,Ae];omega
def OI (W:World) (B g b pm:Nat) (keeps:Bool) (acc:List UInt8) (sl:Value) (pre:List (Bool×(ByteArray×Val))) (A:World):Prop:=
 Wr A B g keeps (acc++123::Cz (pre.map (·.2)) true)/\Below B W A/\Eo g W A/\A.heap[b]? =some (.cells #[.pointer (some ⟨g,0,none⟩)] 138 (0,0))/\A.heap[pm]? =some (.cells #[sl] 35 (0,0))
theorem L5 (o:List (ByteArray×Val)) (IH: ∀m ∈ o,Uc m.2) (W:World) (B g p:Nat) (h5:5<=B) (keeps:Bool) (acc:List UInt8) (oa:Option Addr) (oc:Nat) (v0 v1 v2 v3 v4:Value)
 (hp:W.heap[p]? =some (.cells #[v0,v1,v2,v3,v4,.slice oa o.length oc] 37 (0,0)))
 (gl off:Nat) (hoa:o= []\/(oa=some ⟨gl,off,none⟩/\gl<B/\Ak W B o gl off)) (hT:B3 W) (hpg:p≠g) (hW:Wr W B g keeps acc) (hok:Z5 o) (hlen:acc.length+6*(6+Ae o)<=20000000000) (hb:Ae o<=1000000000):
 Calls Tryz.prog 132 #[.pointer (some ⟨g,0,none⟩),.pointer (some ⟨p,0,none⟩)] W fun e W'=>e=.returned (.tuple #[])/\Wr W' B g keeps (acc++123::(Cz o true++ [125]))/\Below B W W'/\Eo g W W':=by
 have hoo:o.length<=1000000000:=by have:=Ba o;omega
 have hgW:=hW.lt;have hBg:=hW.base;have hpW:=(Array.getElem?_eq_some_iff.1 hp).1;have hW0:Wr (W.alloc (.cells #[.pointer (some ⟨g,0,none⟩)] 138)) B g keeps acc:=hW.below ((Below.refl _ _).alloc (Nat.le_refl _) _);have Hb0:Hid (Below W.heap.size W (W.alloc (.cells #[.pointer (some ⟨g,0,none⟩)] 138))):=(Below.refl _ _).alloc (Nat.le_refl _) _;have hB0:=heap_alloc_new W (.cells #[.pointer (some ⟨g,0,none⟩)] 138);have hz0:(W.alloc (.cells #[.pointer (some ⟨g,0,none⟩)] 138)).heap.size=W.heap.size+1:=by simp
 have hj1:=Fa [⟨#[123]⟩] 1 hW0 (by simp[Er];omega) (by simp);rw[hz0]at hj1;obtain⟨HJ1,HB0,HP,HOA,HIH,HOK,HT⟩:=hid7 hj1 hB0 hp hoa IH hok hT;clear hj1 hB0 hp hoa IH hok hT hW0;refine(callsIn_wide (n:=12)).1 ?_;refine callsIn_of_wp_marks Tryz.func132 rfl trivial ?_ rfl;simp only[Tryz.ntmps132,List.size_toArray,List.length_cons,List.length_nil,Nat.reduceAdd,Nat.reduceSub,Array.replicate_succ,Array.replicate_zero,List.push_toArray,List.append_toArray,List.nil_append,List.cons_append]
 gi_wp2_with (first|(refine⟨trivial, ?_⟩;gi_at_call 124;refine(callsIn_wide.2 HJ1.out).mono ?_;rintro e w1 ⟨rfl,hw1,hb1,hk1⟩;have hp1:=hk1.cells ((Hb0.out.block p hpW).trans HP.out) hpg (by decide);have c5:w1.cell? ⟨p,5,none⟩=some (.slice oa o.length oc):=(Lib.cell_of_heap hp1 5).trans rfl)|(refine⟨trivial, ?_⟩;gi_at_call 133;refine(callsIn_wide.2 (Si oa o.length oc w1)).mono ?_;rintro e w2 ⟨rfl,hw2⟩))
 have hz1:=hw1.lt;have hbW1:Below B W w1:=(Hb0.out.mono (by omega)).trans hb1;have hkW1:Eo g W w1:=(Eo.of_below Hb0.out).trans hk1;have hbx1:=hk1.cells HB0.out (by omega) (by decide);have hs1:=hb1.size;have hWs:W.heap.size<w1.heap.size:=(Array.getElem?_eq_some_iff.1 hbx1).1;have hg2:Below w1.heap.size w1 w2:=hw2▸(Below.refl _ _).alloc (Nat.le_refl _) _;have hpm:w2.heap[w1.heap.size]? =some (.cells #[.slice oa o.length oc] 35 (0,0)):=hw2▸heap_alloc_new _ _;have hbx2:=(hg2.block W.heap.size hWs).trans hbx1;have hW2:Wr w2 B g keeps (acc++123::Cz [] true):=by
  have:=hw1.below hg2;simpa[Er,Cz]using this
 have hb2:Below B W w2:=hbW1.trans (hg2.mono (by omega));have hk2:Eo g W w2:=hkW1.trans (Eo.of_below hg2);have hz2:=(Array.getElem?_eq_some_iff.1 hpm).1;clear hw2 hw1 hb1 hk1 hp1 c5 hbW1 hkW1 hbx1 hg2 hs1;refine S3 (n:=10) (gf:=197) (lb:= #[.pointer (some ⟨w1.heap.size,0,none⟩)]) rfl (enters_of Tryz.func197 (by kernel_rfl) rfl) (Rq o W B g w1.heap.size oa oc gl off h5 HT.out HOA.out HOK.out hb) (fun _ _=>rfl)
  ?hEp (OI W B g W.heap.size w1.heap.size keeps acc (.slice oa o.length oc)) ?hIn ?hIp ?hIb ?h0 ?a1 ?assign ?body ?done
 case assign=>
  intro l x q W K hK;dsimp only[Zw]
  gi_wp2
  exact hK
 case h0=>exact⟨hW2,hb2,hk2,hbx2,hpm⟩
 case hIb=>
  rintro pre A ⟨h1,h2,h3,h4,h6⟩;exact⟨h6,h2,h1.lt⟩
 case hIn=>
  rintro pre A A' ⟨h1,h2,h3,h4,h6⟩ hb';exact⟨h1.below hb',h2.trans (hb'.mono (Nat.le_trans h1.base (Nat.le_of_lt h1.lt))),h3.trans (Eo.of_below hb'),(hb'.block _ (Array.getElem?_eq_some_iff.1 h4).1).trans h4,(hb'.block _ (Array.getElem?_eq_some_iff.1 h6).1).trans h6⟩
 case hEp=>
  rintro x q A k u u' ⟨h1,cs,h2,h3⟩ ho hc;refine⟨h1,cs, ?_,h3⟩;rw[World.putObj_heap_other (by rintro rfl;rw[h2]at ho;injection ho with ho;subst ho;simp[Obj.isCells]at hc)];exact h2
 case hIp=>
  rintro pre A k u u' ⟨h1,h2,h3,h4,h6⟩ ho hc hk;refine⟨h1.put ho hc,h2.grown (grownBy_putObj' A k u') (by have:=h2.size;omega) (fun j e=>by cases e;omega),fun j v hj hg hv=> ?_, ?_, ?_⟩
  . have:=(Array.getElem?_eq_some_iff.1 hj).1;rw[World.putObj_heap_other (by omega)];exact h3 j v hj hg hv
  . rw[World.putObj_heap_other (by omega)];exact h4
  . rw[World.putObj_heap_other (by omega)];exact h6
 case body=>
  rintro l pre x rest q A hx ⟨h1,h2,h3,h4,h6⟩ ⟨hq,cs,hqc,hqv⟩ ⟨ds,hds⟩ ⟨rc,hrc⟩;obtain⟨hf,ho⟩:=Pc o true hx;have htl:=Lp (pre.map (·.2)) (fun m _=>Ji m.2) (Abj (ho▸HOK.out)) true;have hbk:Ae (pre.map (·.2))+Gm x.2<=Ae o:=by rw[ho];exact Tb _ _ _
  have hxm:x.2 ∈ o:=by rw[ho];simp
  have hokx:=Abi HOK.out hxm;have hsn:Cz ((pre++ [x]).map (·.2)) true=Cz (pre.map (·.2)) true++((Ff x).data.toList++(58::Bn x.2.2)):=by
   rw[List.map_append,List.map_cons,List.map_nil,Mp];obtain⟨f,key,v⟩:=x;simp only at hf;simp only[Yh,Ff,hf];simp[List.append_assoc]
  obtain⟨f,key,v⟩:=x;obtain⟨k',b',n',t',l',o'⟩:=v;have hqk:=Ic key;have hmt:(Ff (f,key,.mk k' b' n' t' l' o')).data.toList.length<=6*key.size+3:=by
   simp only[Ff]
   split<;>simp<;>omega
  simp only[Gm]at hbk;have hfl:Er [Ff (f,key,.mk k' b' n' t' l' o'),⟨#[58]⟩]=(Ff (f,key,.mk k' b' n' t' l' o')).data.toList++ [58]:=by simp[Er]
  have hlA:(acc++123::Cz (pre.map (·.2)) true).length+6*(Val.mk k' b' n' t' l' o').bulk+6*key.size+7<=20000000000:=by
   rw[List.length_append,List.length_cons];omega
  have hqb:(Val.mk k' b' n' t' l' o').bulk<=1000000000:=by omega
  have hM1:((Ff (f,key,.mk k' b' n' t' l' o')).data.toList++ [58]).length=(Ff (f,key,.mk k' b' n' t' l' o')).data.toList.length+1:=by simp
  have IHv:=qz (HIH.out _ hxm);obtain⟨HOKx,Hsn⟩:=hid2 hokx hsn;have hj:=Fa [Ff (f,key,.mk k' b' n' t' l' o'),⟨#[58]⟩] 2 h1 (by rw[hfl];omega) (by simp);rw[hfl]at hj;obtain⟨HJ,HQ,HV⟩:=hid3 hj hqc hqv;have h4c:A.cell? ⟨W.heap.size,0,none⟩=some (.pointer (some ⟨g,0,none⟩)):=(Lib.cell_of_heap h4 0).trans rfl;have H2:=qz h2;have hA:=h1.lt;have hAb:=(Array.getElem?_eq_some_iff.1 h4).1;have hl3:((acc++123::Cz (pre.map (fun y:Bool×(ByteArray×Val)=>y.2)) true)++((Ff (f,key,.mk k' b' n' t' l' o')).data.toList++ [58])).length+6*(Val.mk k' b' n' t' l' o').bulk<=20000000000:=by
   rw[List.length_append];omega
  have ent:=It;simp only[Val.kind];clear hj hsn hokx hxm ho hf htl hbk hx hfl hqc hqv
  gi_wp2_with (first|(refine⟨trivial, ?_⟩;gi_at_call 124;refine(CallsIn.inRound l (callsIn_wide.2 HJ.out)).mono ?_;rintro e A2 ⟨rfl,g1,g2,g3⟩;have g4:=g3.cells h4 (by omega) (by decide);have g5:A2.cell? ⟨W.heap.size,0,none⟩=some (.pointer (some ⟨g,0,none⟩)):=(Lib.cell_of_heap g4 0).trans rfl)|(refine⟨trivial, ?_⟩;gi_at_fn (Lt k');refine(CallsIn.inRound l (callsIn_wide.2 (IHv.out A2 B g q keeps _ cs k' b' n' t' l' o' rfl h5 (HT.out.keep (H2.out.trans g2) h5) (HV.out.below (H2.out.trans g2)) (g3.cells HQ.out (by omega) (by decide)) (by omega) g1 HOKx.out.2 hqb hl3))).mono ?_;rintro e A3 ⟨rfl,g6,g7,g8⟩))
  have hkk:Eo g A A3:=g3.trans g8;refine⟨?_, ?_, ?_,h2.trans (g2.trans g7),h3.trans hkk,hkk.cells h4 (by omega) (by decide),hkk.cells h6 (by omega) (by decide)⟩
  . exact(hkk _ _ hds (by simp;omega) (fun c fz e=>by cases e)).trans hds.symm
  . exact(hkk _ _ hrc (by simp;omega) (fun c fz e=>by cases e)).trans hrc.symm
  . rw[Hsn.out];simpa[List.append_assoc]using g6
 case done=>
  rintro A ⟨h1,h2,h3,h4,h6⟩ hds;rw[Tk]at h1;have htl:=Lp o (fun m _=>Ji m.2) HOK.out true;have HJ:=qz (Fa [⟨#[125]⟩] 1 h1 (by rw[List.length_append,List.length_cons];simp[Er];omega) (by simp));have h4c:A.cell? ⟨W.heap.size,0,none⟩=some (.pointer (some ⟨g,0,none⟩)):=(Lib.cell_of_heap h4 0).trans rfl;have hA:=h1.lt;have hAb:=(Array.getElem?_eq_some_iff.1 h4).1;have e:Er [⟨#[125]⟩]= [125]:=by simp[Er]
  clear htl
  gi_wp2_with (refine⟨trivial, ?_⟩;gi_at_call 124;refine(callsIn_wide.2 HJ.out).mono ?_;rintro e A2 ⟨rfl,g1,g2,g3⟩)
  have hd:=g3 _ _ hds (by simp;omega) (fun c fz e=>by cases e);refine⟨by simp,.inl ⟨_,_,rfl,run_takeDeferred hd, ?_⟩⟩;rw[e,List.append_assoc,List.cons_append]at g1;refine⟨_,results_none rfl _ _ _,rfl, ?_⟩;have hbA:=h2.trans g2;refine⟨g1.put hd rfl,hbA.grown (grownBy_putObj' A2 w2.heap.size _) (by have:=hbA.size;omega) (fun j e=>by cases e;omega),fun j v hj hg hv=> ?_⟩;have:=(Array.getElem?_eq_some_iff.1 hj).1;rw[World.putObj_heap_other (by omega)];exact g3 j v (h3 j v hj hg hv) hg hv
end Go.Proofs.YtkmcjfkokoidcaaGreatDoor
