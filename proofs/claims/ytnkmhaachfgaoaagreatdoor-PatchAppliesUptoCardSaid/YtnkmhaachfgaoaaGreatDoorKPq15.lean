/- Parts: What may stand deep may stand higher; what is within a value that may be, may be. Plain. No condition. -/
import Derived.Stop.RegionWithIn
import Derived.Shelf.AbstractIn
import Derived.Deep.RegionWith
import Derived.Test.YtnkmhaachfgaoaaGreatDoorKPq9
set_option maxHeartbeats 20000000
set_option maxRecDepth 100000
namespace Go.Proofs.YtnkmhaachfgaoaaGreatDoor
open Go.RowKit
theorem Ahd {l:List Val} (h:Zd l) {v:Val} (hv:v ∈ l):Ze v:=by
 induction l with
 |nil=>cases hv
 |cons x r ih=>
  simp only[Zd]at h;rcases List.mem_cons.1 hv with rfl|hv
  . exact h.1
  . exact ih h.2 hv
theorem Ab3 {l:List (ByteArray×Val)} (h:okO l) {m:ByteArray×Val} (hv:m ∈ l):A4 m.1=true/\Ze m.2:=by
 induction l with
 |nil=>cases hv
 |cons x r ih=>
  obtain⟨k,v⟩:=x;simp only[okO,okP]at h;rcases List.mem_cons.1 hv with rfl|hv
  . exact h.1
  . exact ih h.2 hv
theorem L5: ∀(l:List Val),(∀v ∈ l,Ze v->(Cg v).length+1<=6*v.bulk)->Zd l-> ∀f,(Cw l f).length<=6*Bc l
 | [],_,_,f=>by simp[Cw]
 |v::r,ih,ho,f=>by
  simp only[Zd]at ho;have h1:=ih v (by simp) ho.1;have h2:=L5 r (fun x hx=>ih x (by simp[hx])) ho.2 false;simp only[Cw,Bc,List.length_append]
  split<;>simp<;>omega
theorem L6: ∀(l:List (ByteArray×Val)),(∀m ∈ l,Ze m.2->(Cg m.2).length+1<=6*m.2.bulk)->okO l-> ∀f,(Cx l f).length<=6*Ac l
 | [],_,_,f=>by simp[Cx]
 |(k,v)::r,ih,ho,f=>by
  simp only[okO,okP]at ho;have h1:=ih (k,v) (by simp) ho.1.2;have h2:=L6 r (fun x hx=>ih x (by simp[hx])) ho.2 false;have h3:=Ip k;simp only[Cx,Yy,Ac,Dg,List.length_append,List.length_cons];simp only at h1
  split<;>simp<;>omega
theorem J1: ∀(v:Val),Ze v->(Cg v).length+1<=6*v.bulk:=by
 refine Val.ind ?_;intro k b n t l o hl ho h;simp only[Ze]at h;have h1:=L5 l hl h.2.2.1 true;have h2:=L6 o ho h.2.2.2 true;have h3:=Lb b;have h4:=Lib.itoa_length_le n h.2.1.1 h.2.1.2;have h5:=Ip t;simp only[Cg,Val.bulk]
 repeat' split
 all_goals(try simp only[List.length_cons,List.length_append,List.length_nil])
 all_goals omega
theorem Na (v:Val): ∀(a:List Val) (f:Bool),Cw (a++ [v]) f=Cw a f++((if f&&a.isEmpty then []else [44])++Cg v)
 | [],f=>by cases f<;>simp[Cw]
 |x::r,f=>by
  simp only[List.cons_append,Cw,Na v r false];simp[List.append_assoc]
theorem Nb (p:ByteArray×Val): ∀(a:List (ByteArray×Val)) (f:Bool),Cx (a++ [p]) f=Cx a f++((if f&&a.isEmpty then []else [44])++Yy p)
 | [],f=>by cases f<;>simp[Cx]
 |x::r,f=>by
  simp only[List.cons_append,Cx,Nb p r false];simp[List.append_assoc]
theorem Wv {l:List Val} {k:Nat} {v:Val} (h:l[k]? =some v):Bc l=Bc (l.take k)+(v.bulk+Bc (l.drop (k+1))):=by
 have h1: ∀a b:List Val,Bc (a++b)=Bc a+Bc b:=by
  intro a b
  induction a with
  |nil=>simp[Bc]
  |cons x r ih=>simp only[List.cons_append,Bc,ih];omega
 have h2:l=l.take k++(v::l.drop (k+1)):=by rw[<-Ch h,List.take_append_drop]
 conv=>lhs;rw[h2,h1]
 rfl
theorem Ww {l:List (ByteArray×Val)} {k:Nat} {p:ByteArray×Val} (h:l[k]? =some p):Ac l=Ac (l.take k)+(Dg p+Ac (l.drop (k+1))):=by
 have h1: ∀a b:List (ByteArray×Val),Ac (a++b)=Ac a+Ac b:=by
  intro a b
  induction a with
  |nil=>simp[Ac]
  |cons x r ih=>simp only[List.cons_append,Ac,ih];omega
 have h2:l=l.take k++(p::l.drop (k+1)):=by rw[<-Ch h,List.take_append_drop]
 conv=>lhs;rw[h2,h1]
 rfl
theorem Aft {l:List Val} (h:Zd l) (k:Nat):Zd (l.take k):=by
 induction l generalizing k with
 |nil=>simp[Zd]
 |cons x r ih=>
  cases k with
  |zero=>simp[Zd]
  |succ k=>simp only[Zd]at h;simp only[List.take_succ_cons,Zd];exact⟨h.1,ih h.2 k⟩
theorem Ef.cells {g j:Nat} {A W:World} (h:Ef g A W) {cs:Array Value} {t:TypeId} {fz:Nat×Nat} (hj:A.heap[j]? =some (.cells cs t fz)) (hg:j≠g) (ht:t≠5):W.heap[j]? =some (.cells cs t fz):=
 h j _ hj (by simpa using hg) (fun c fz e=>by injection e with _ e2 _;exact ht e2)
theorem P2 (l:List Val) (IH: ∀v ∈ l,Ui v) (W:World) (B g p:Nat) (h5:5<=B) (keeps:Bool) (acc:List UInt8) (la:Option Addr) (lc:Nat) (v0 v1 v2 v3 v5:Value)
 (hp:W.heap[p]? =some (.cells #[v0,v1,v2,v3,.slice la l.length lc,v5] 40 (0,0)))
 (gl off:Nat) (hla:l= []\/(la=some ⟨gl,off,none⟩/\gl<B/\Aj W B l gl off)) (hT:Cr W) (hpg:p≠g) (hW:Wr W B g keeps acc) (hok:Zd l) (hlen:acc.length+6*(6+Bc l)<=20000000000) (hb:Bc l<=1000000000):
 Calls Tryz.prog 136 #[.pointer (some ⟨g,0,none⟩),.pointer (some ⟨p,0,none⟩)] W fun e W'=>e=.returned (.tuple #[])/\Wr W' B g keeps (acc++91::(Cw l true++ [93]))/\Below B W W'/\Ef g W W':=by
 have hll:l.length<=1000000000:=by have:=Ct l;omega
 have HJ1:=qz (Ez [⟨#[91]⟩] 1 hW (by simp[Eh];omega) (by simp));have HP:=qz hp;go_enter Tryz.func136,Tryz.ntmps136;go_wp2_with (go_at_call 130;refine(HJ1.out).mono ?_;rintro e w1 ⟨rfl,hw1,hb1,hk1⟩;have hp1:=hk1.cells HP.out hpg (by decide);have c4:w1.cell? ⟨p,4,none⟩=some (.slice la l.length lc):=(Lib.cell_of_heap hp1 4).trans rfl);have hw1':Wr w1 B g keeps (acc++91::Cw (l.take 0) true):=by simpa[Eh,Cw]using hw1
 clear c4 hp1 hw1 HJ1;go_loopw [11] (fun i wr=> ∃k:Nat,k<=l.length/\i=.int .i64 k/\Wr wr B g keeps (acc++91::Cw (l.take k) true)/\Below B W wr/\Ef g W wr) (fun i _=>l.length - (intOf i).toNat)
 case atStart=>exact⟨0,Nat.zero_le _,rfl,hw1',hb1,hk1⟩
 case round=>
  obtain⟨k,hk,rfl,hw,hbw,hkw⟩:=hrel;clear hw1' hb1 hk1;have hBg:=hw.base;by_cases hlt:k<l.length
  . obtain⟨rfl,hg,hL⟩:la=some ⟨gl,off,none⟩/\gl<B/\Aj W B l gl off:=by
     rcases hla with rfl|h
     . simp at hlt
     . exact h
    obtain⟨v,hv⟩: ∃v,l[k]? =some v:=⟨_,List.getElem?_eq_getElem hlt⟩;have hmem:v ∈ l:=List.mem_of_getElem? hv;have hsp:=Wv hv;have IHv:=qz (IH v hmem);have hokv:=Ahd hok hmem;have htk:l.take (k+1)=l.take k++ [v]:=by rw[List.take_add_one,hv];rfl
    have htl:=L5 (l.take k) (fun x _=>J1 x) (Aft hok k) true;have hfin:acc++91::Cw (l.take (k+1)) true=((acc++91::Cw (l.take k) true)++(if(k:Int)=0 then []else [44]))++Cg v:=by
     rw[htk,Na];have e:((true&&(l.take k).isEmpty)=true) ↔ (k:Int)=0:=by
      rw[Bool.true_and,List.isEmpty_iff];constructor
      . intro h;have:=congrArg List.length h;rw[List.length_take,List.length_nil]at this;omega
      . intro h;have:k=0:=by omega
        subst this;rfl
     by_cases h0:(k:Int)=0
     . rw[if_pos h0,if_pos (e.2 h0)];simp
     . rw[if_neg h0,if_neg (fun h=>h0 (e.1 h))];simp
    have hpos:=v.bulk_pos;have hlenA:(acc++91::Cw (l.take k) true).length+6*(v.bulk+1)<=20000000000:=by
     rw[List.length_append,List.length_cons];omega
    generalize acc++91::Cw (l.take k) true=A at*
    have Hfin:=qz hfin;clear hfin htk htl IH hla;obtain⟨k',b',n',t',l',o'⟩:=v;have hLr:=hL.below hg hbw;obtain⟨la',lc',oa',oc',hvs,c0,c1,c2,c3,c4,c5⟩:=hLr.six hv;clear hL hLr hv hmem hok;obtain⟨wA,hwA⟩: ∃wA,wr.alloc (.cells #[.int .i64 k',.bool b',.int .i64 n',.string t',.slice la' l'.length lc',.slice oa' o'.length oc'] 40)=wA:=⟨_,rfl⟩;have hAw:Below wr.heap.size wr wA:=by rw[<-hwA];exact(Below.refl _ _).alloc (Nat.le_refl _) _
    have hbox:wA.heap[wr.heap.size]? =some (.cells #[.int .i64 k',.bool b',.int .i64 n',.string t',.slice la' l'.length lc',.slice oa' o'.length oc'] 40 (0,0)):=by rw[<-hwA];exact heap_alloc_new _ _
    have hgw:=hw.lt;have HTr:=qz (fun W' (hb':Below B wr W')=>hT.keep (hbw.trans hb') h5);have HVr:=qz (fun W' (hb':Below B wr W')=>hvs.below hb');have hszA:wA.heap.size=wr.heap.size+1:=by rw[<-hwA];simp
    have hj: ∀(S:List UInt8),S.length<=1->Calls Tryz.prog 130 #[.pointer (some ⟨g,0,none⟩),.slice (some ⟨wA.heap.size,0,none⟩) 1 1] (wA.alloc (.cells #[.string ⟨S.toArray⟩] 9 (0,0))) fun e w'=>e=.returned (.tuple #[])/\Wr w' B g keeps (A++S)/\Below B wA w'/\Ef g wA w':=fun S hS=>by
     have:=Ez [⟨S.toArray⟩] 1 (hw.below hAw) (by rw[Gu];omega) (by simp)
     rwa [Gu]at this
    have hj1:=hj (if(k:Int)=0 then []else [44]) (by split<;>simp);have hs2:(if(k:Int)=0 then []else [44]:List UInt8).length<=1:=by split<;>simp
    have cBt:=Ma (k:Int) wA;generalize (if(k:Int)=0 then []else [44]:List UInt8)=S at hj1 hs2 cBt Hfin;rw[hszA]at hj1;subst hwA;obtain⟨HJ,CB⟩:=hid2 hj1 cBt;clear hj1 hj cBt;have HOK:=qz hokv;have ent:=I6;clear hokv hvs;have HB:=qz hbox;have hne:wr.heap.size≠g:=by omega
    go_wp2_with (first|(go_at_call 137;refine(CB.out).mono ?_;rintro e wx ⟨rfl,rfl⟩)|(go_at_call 130;refine(HJ.out).mono ?_;rintro e w2 ⟨rfl,h1,h2,h3⟩;have hz2:=h1.lt;have hb2:=h3.cells HB.out hne (by decide);have d0:w2.cell? ⟨wr.heap.size,0,none⟩=some (.int .i64 k'):=(Lib.cell_of_heap hb2 0).trans rfl;have d1:w2.cell? ⟨wr.heap.size,1,none⟩=some (.bool b'):=(Lib.cell_of_heap hb2 1).trans rfl;have d2:w2.cell? ⟨wr.heap.size,2,none⟩=some (.int .i64 n'):=(Lib.cell_of_heap hb2 2).trans rfl;have d3:w2.cell? ⟨wr.heap.size,3,none⟩=some (.string t'):=(Lib.cell_of_heap hb2 3).trans rfl;have d4:w2.cell? ⟨wr.heap.size,4,none⟩=some (.slice la' l'.length lc'):=(Lib.cell_of_heap hb2 4).trans rfl;have d5:w2.cell? ⟨wr.heap.size,5,none⟩=some (.slice oa' o'.length oc'):=(Lib.cell_of_heap hb2 5).trans rfl)|(go_at_call 79;refine(L1 k' b' n' t' la' oa' l'.length lc' o'.length oc' w2).mono ?_;rintro e w3 ⟨rfl,rfl⟩)|(go_at_fn (L9 k');refine(IHv.out _ B g w2.heap.size keeps (A++S) (Dk k' b' n' t' la' l'.length lc' oa' o'.length oc') k' b' n' t' l' o' rfl h5 (HTr.out _ ?_) (HVr.out _ ?_) (heap_alloc_new _ _) ?_ (h1.below ((Below.refl _ _).alloc (Nat.le_refl _) _)) HOK.out ?_ ?_).mono ?_;rotate_right;rintro e w4 ⟨rfl,h6,h7,h8⟩));go_roundw
    case rel=>
     refine⟨k+1,by omega,by go_num, ?_,hbw.trans ((((Below.refl B wr).alloc (by omega) _).trans h2).trans (((Below.refl B w2).alloc (by omega) _).trans h7)),(hkw.trans (((Lib.OthersKept.refl _ _ wr).alloc _).trans h3)).trans (((Lib.OthersKept.refl _ _ w2).alloc _).trans h8)⟩;rw[Hfin.out];exact h6
    case measure=>simp[intOf];omega
    . exact(((Below.refl B wr).alloc (by omega) _).trans h2).alloc (by omega) _
    . exact(((Below.refl B wr).alloc (by omega) _).trans h2).alloc (by omega) _
    . omega
    . omega
    . rw[List.length_append];omega
  . obtain rfl:k=l.length:=by omega
    rw[List.take_length]at hw;have htl:=L5 l (fun x _=>J1 x) hok true;have HJ:=qz (Ez [⟨#[93]⟩] 1 hw (by rw[List.length_append,List.length_cons];simp[Eh];omega) (by simp));clear htl hok;have hgw:=hw.lt;have hBg:=hw.base;have e:Eh [⟨#[93]⟩]= [93]:=by simp[Eh]
    go_wp2_with (go_at_call 130;refine(HJ.out).mono ?_;rintro e w2 ⟨rfl,h1,h2,h3⟩)
    go_end0
    rw[e,List.append_assoc,List.cons_append]at h1;exact⟨rfl,h1,hbw.trans h2,hkw.trans h3⟩
attribute [local go_sem] Oper.semAt_some
def G6:List (ByteArray×Val)->Bool->List (Bool×(ByteArray×Val))
 | [],_=> []
 |p::r,f=>(f,p)::G6 r false
def Val.kind:Val->Int
 | .mk k _ _ _ _ _=>k
def Fc (x:Bool×(ByteArray×Val)):ByteArray:=(⟨(if x.1 then []else [44]:List UInt8).toArray⟩:ByteArray)++⟨(Df x.2.1).toArray⟩
def Aap (x:Bool×(ByteArray×Val)) (q:Nat):Array Value:=
 #[.string (Fc x),.func (.func (L9 x.2.2.kind)) #[] (Hg x.2.2.kind q)]
def Ad3 (W0:World) (B G:Nat) (x:Bool×(ByteArray×Val)) (q:Nat) (A:World):Prop:=
 G<q/\ ∃cs,A.heap[q]? =some (.cells cs.toArray 40 (0,0))/\Ab W0 B x.2.2 cs
theorem Sk (oa:Option Addr) (on oc:Nat) (w:World):
 Calls Tryz.prog 139 #[.slice oa on oc] w fun e w'=>e=.returned (.func (.func 184) #[] #[.pointer (some ⟨w.heap.size,0,none⟩)])/\w.alloc (.cells #[.slice oa on oc] 38)=w':=by
 go_enter Tryz.func139,Tryz.ntmps139;go_wp2;go_ret;exact⟨rfl,rfl⟩
theorem Rj (o:List (ByteArray×Val)) (W0:World) (B G p:Nat) (oa:Option Addr) (oc:Nat) (go off:Nat) (h5:5<=B) (hT:Cr W0)
 (hoa:o= []\/(oa=some ⟨go,off,none⟩/\go<B/\Ak W0 B o go off)) (hok:okO o) (hb:Ac o<=1000000000):
 Uj Tryz.prog 184 #[.pointer (some ⟨p,0,none⟩)] Aap (Ad3 W0 B G) (G6 o true)
  (fun A=>A.heap[p]? =some (.cells #[.slice oa o.length oc] 38 (0,0))/\Below B W0 A/\G<A.heap.size):=by
 intro n l J W hJn hJb hY h0;have hoo:o.length<=1000000000:=by have:=Aw o;omega
 have hmx:Tryz.prog.follows .mixedOrders=true:=by kernel_rfl
 have hc0:W.cell? ⟨p,0,none⟩=some (.slice oa o.length oc):=(Lib.cell_of_heap (hJb _ _ h0).1 0).trans rfl;refine callsIn_of_wp Tryz.func184 rfl trivial ?_ rfl;simp only[Tryz.ntmps184,List.size_toArray,List.length_cons,List.length_nil,Nat.reduceAdd,Nat.reduceSub,Array.replicate_succ,Array.replicate_zero,List.push_toArray,List.append_toArray,List.nil_append,List.cons_append]
 gi_wp2
 gi_loopw [7] (fun i wr=> ∃(pre:List (Bool×(ByteArray×Val))) (k:Nat),i=.int .i64 k/\k<=o.length/\Hid (G6 o true=pre++G6 (o.drop k) (decide ((k:Int)=0)))/\J pre wr) (fun i _=>o.length - (intOf i).toNat)
 case atStart=>exact⟨[],0,rfl,Nat.zero_le _,rfl,h0⟩
 case round=>
  obtain⟨pre,k,rfl,hk,hr,hJ⟩:=hrel;obtain⟨hp,hbw,hG⟩:=hJb _ _ hJ;by_cases hlt:k<o.length
  . obtain⟨rfl,hg,hO⟩:oa=some ⟨go,off,none⟩/\go<B/\Ak W0 B o go off:=by
     rcases hoa with rfl|h
     . simp at hlt
     . exact h
    obtain⟨m,hm⟩: ∃m,o[k]? =some m:=⟨_,List.getElem?_eq_getElem hlt⟩;have hmem:m ∈ o:=List.mem_of_getElem? hm;have hsp:=Ww hm;have hokm:=Ab3 hok hmem;have HTr:Hid (Cr wr):=hT.keep hbw h5;have hr':=hr.out;rw[Ch hm]at hr';simp only[G6]at hr';have hk1:decide (((k+1:Nat):Int)=0)=false:=by simp;omega
    obtain⟨key,v⟩:=m;obtain⟨k',b',n',t',l',o'⟩:=v;obtain⟨la',lc',oa',oc',hvs,c0,c1,c2,c3,c4,c5,c6⟩:=hO.seven hm;replace c0:=(hbw.cell (p:=⟨go,off+k*7,none⟩) hg).trans c0;replace c1:=(hbw.cell (p:=⟨go,off+k*7+1,none⟩) hg).trans c1;replace c2:=(hbw.cell (p:=⟨go,off+k*7+2,none⟩) hg).trans c2;replace c3:=(hbw.cell (p:=⟨go,off+k*7+3,none⟩) hg).trans c3;replace c4:=(hbw.cell (p:=⟨go,off+k*7+4,none⟩) hg).trans c4;replace c5:=(hbw.cell (p:=⟨go,off+k*7+5,none⟩) hg).trans c5;replace c6:=(hbw.cell (p:=⟨go,off+k*7+6,none⟩) hg).trans c6;have HY:Hid (∀(A:World) (q:Nat),G<q->A.heap[q]? =some (.cells #[.int .i64 k',.bool b',.int .i64 n',.string t',.slice la' l'.length lc',.slice oa' o'.length oc'] 40 (0,0))->Below wr.heap.size wr A->
     YieldAt Fence.wide n Tryz.prog l #[.string ((⟨(if decide ((k:Int)=0)then []else [44]:List UInt8).toArray⟩:ByteArray)++⟨(Df key).toArray⟩),.func (.func (L9 k')) #[] (Hg k' q)] A fun e B=>e=.returned (.bool true)/\J (pre++ [(decide ((k:Int)=0),key,.mk k' b' n' t' l' o')]) B):=by
     show ∀_ _,_;intro A q hq hA hb;have hM:Ad3 W0 B G (decide ((k:Int)=0),key,.mk k' b' n' t' l' o') q A:=⟨hq,Dk k' b' n' t' la' l'.length lc' oa' o'.length oc',hA,hvs⟩;have:=hY pre _ _ q A hr' (hJn _ _ _ hJ hb) hM;simp only[Aap,Fc,Val.kind]at this;exact this
    have Hr2:Hid (G6 o true=(pre++ [(decide ((k:Int)=0),key,.mk k' b' n' t' l' o')])++G6 (o.drop (k+1)) (decide (((k+1:Nat):Int)=0))):=by
     show _=_;rw[hk1,hr'];simp
    have cB: ∀w,Calls Tryz.prog 137 #[.int .i64 k] w fun e w'=>e=.returned (.string ⟨(if decide ((k:Int)=0)then []else [44]:List UInt8).toArray⟩)/\w=w':=by
     intro w;have:=Ma (k:Int) w;simpa only[decide_eq_true_eq]using this
    have hkz:key.size<=1000000000:=by simp only[Dg]at hsp;omega
    have cQ: ∀w,Cr w->Calls Tryz.prog 135 #[.string key] w fun e w'=>e=.returned (.string ⟨(Df key).toArray⟩)/\Below w.heap.size w w':=fun w hw=>Pm key w hw hkz hokm.1;clear hr hr' hsp hokm hmem hm hO hvs hoa hY hk1 hok;have hS1:(⟨(if decide ((k:Int)=0)then []else [44]:List UInt8).toArray⟩:ByteArray).size<=1:=by
     split<;>simp[ByteArray.size]
    have hS2:(⟨(Df key).toArray⟩:ByteArray).size<=6000000002:=by
     have:=Ip key;simp only[ByteArray.size,List.size_toArray];omega
    generalize (⟨(if decide ((k:Int)=0)then []else [44]:List UInt8).toArray⟩:ByteArray)=S at HY cB hS1;generalize (⟨(Df key).toArray⟩:ByteArray)=Q at HY cQ hS2;have hSQ:((S.size:Int)+(Q.size:Int)>9223372036854775807)=False:=by simp;omega
    have hSQ2:((S.size+Q.size:Nat):Int)>IntKind.i64.max ↔ False:=by
     have e:IntKind.i64.max=9223372036854775807:=rfl;simp only[iff_false,e];omega
    obtain⟨CB,CQ⟩:=hid2 cB cQ;clear cB cQ;obtain⟨HJn,HJb,Hbw,HJ,Hp⟩:=hid5 hJn hJb hbw hJ hp;clear hc0 h0 hb hT hJn hJb hmx hbw hJ hp;have hGr:=hG
    gi_wp2
    obtain⟨A,hA⟩: ∃A,wr.alloc (.cells #[.string key,.int .i64 k',.bool b',.int .i64 n',.string t',.slice la' l'.length lc',.slice oa' o'.length oc'] 94)=A:=⟨_,rfl⟩;have hAb:Below wr.heap.size wr A:=by rw[<-hA];exact(Below.refl _ _).alloc (Nat.le_refl _) _
    have hAh:A.heap[wr.heap.size]? =some (.cells #[.string key,.int .i64 k',.bool b',.int .i64 n',.string t',.slice la' l'.length lc',.slice oa' o'.length oc'] 94 (0,0)):=by rw[<-hA];exact heap_alloc_new _ _
    rw[hA];have hAz:=(Array.getElem?_eq_some_iff.1 hAh).1;have hDb:Below wr.heap.size wr A.drew:=Below.drew hAb;have HTD:Hid (Cr A.drew):=HTr.out.keep hDb HTr.out.1;have hDh:A.drew.heap[wr.heap.size]? =some (.cells #[.string key,.int .i64 k',.bool b',.int .i64 n',.string t',.slice la' l'.length lc',.slice oa' o'.length oc'] 94 (0,0)):=hAh;clear hA c0 c1 c2 c3 c4 c5 c6 hAb;have HG:Hid (G<wr.heap.size):=hG;have hmx:Tryz.prog.follows .mixedOrders=true:=by kernel_rfl
    have a0:A.drew.cell? ⟨wr.heap.size,0,none⟩=some (.string key):=(Lib.cell_of_heap hDh 0).trans rfl;have a1:A.drew.cell? ⟨wr.heap.size,1,none⟩=some (.int .i64 k'):=(Lib.cell_of_heap hDh 1).trans rfl;have a2:A.drew.cell? ⟨wr.heap.size,2,none⟩=some (.bool b'):=(Lib.cell_of_heap hDh 2).trans rfl;have a3:A.drew.cell? ⟨wr.heap.size,3,none⟩=some (.int .i64 n'):=(Lib.cell_of_heap hDh 3).trans rfl;have a4:A.drew.cell? ⟨wr.heap.size,4,none⟩=some (.string t'):=(Lib.cell_of_heap hDh 4).trans rfl;have a5:A.drew.cell? ⟨wr.heap.size,5,none⟩=some (.slice la' l'.length lc'):=(Lib.cell_of_heap hDh 5).trans rfl;have a6:A.drew.cell? ⟨wr.heap.size,6,none⟩=some (.slice oa' o'.length oc'):=(Lib.cell_of_heap hDh 6).trans rfl;obtain⟨HDh,HDb⟩:=hid2 hDh hDb;clear hDh hDb hG hAz hAh
    gi_region_with (first|(refine⟨trivial, ?_⟩;gi_at_call 137;refine(callsIn_wide.2 (CB.out _)).mono ?_;rintro e wx ⟨rfl,rfl⟩)|(refine⟨trivial, ?_⟩;gi_at_call 135;refine(callsIn_wide.2 (CQ.out _ HTD.out)).mono ?_;rintro e w2 ⟨rfl,hb2⟩;have HB2:=qz hb2;have d0:=(hb2.block wr.heap.size (Array.getElem?_eq_some_iff.1 HDh.out).1).trans HDh.out;have d1:w2.cell? ⟨wr.heap.size,1,none⟩=some (.int .i64 k'):=(Lib.cell_of_heap d0 1).trans rfl;have d2:w2.cell? ⟨wr.heap.size,2,none⟩=some (.bool b'):=(Lib.cell_of_heap d0 2).trans rfl;have d3:w2.cell? ⟨wr.heap.size,3,none⟩=some (.int .i64 n'):=(Lib.cell_of_heap d0 3).trans rfl;have d4:w2.cell? ⟨wr.heap.size,4,none⟩=some (.string t'):=(Lib.cell_of_heap d0 4).trans rfl;have d5:w2.cell? ⟨wr.heap.size,5,none⟩=some (.slice la' l'.length lc'):=(Lib.cell_of_heap d0 5).trans rfl;have d6:w2.cell? ⟨wr.heap.size,6,none⟩=some (.slice oa' o'.length oc'):=(Lib.cell_of_heap d0 6).trans rfl;clear hb2 d0)|(refine⟨trivial, ?_⟩;gi_at_call 79;refine(callsIn_wide.2 (L1 k' b' n' t' la' oa' l'.length lc' o'.length oc' w2)).mono ?_;rintro e w3 ⟨rfl,rfl⟩;obtain⟨fn,tmps,assign,body,hy,hR⟩:=HY.out (w2.alloc (.cells #[.int .i64 k',.bool b',.int .i64 n',.string t',.slice la' l'.length lc',.slice oa' o'.length oc'] 40)) w2.heap.size (Nat.lt_of_lt_of_le HG.out (HDb.out.trans (HB2.out.mono HDb.out.size)).size) (heap_alloc_new _ _) (((HDb.out.trans (HB2.out.mono HDb.out.size))).alloc (HDb.out.trans (HB2.out.mono HDb.out.size)).size _))|(refine hR.mono ?_;rintro e W3 ⟨rfl,hJ3⟩;clear hy hR))
    all_goals(
     gi_wp2
     go_roundw
     case rel=>exact⟨_,k+1,by go_num,by omega,Hr2,hJ3⟩
     case measure=>simp[intOf];omega)
  . obtain rfl:k=o.length:=by omega
    have hr':=hr.out;rw[List.drop_length]at hr';simp only[G6,List.append_nil]at hr';have Hr:=qz hr';clear hr hr' hoa hbw hT
    gi_wp2
    go_end0
    exact⟨⟨_,rfl⟩,by rw[Hr.out];exact hJ⟩
attribute [local go_sem] Oper.semAt_some
theorem Pd: ∀(o:List (ByteArray×Val)) (f:Bool) {pre:List (Bool×(ByteArray×Val))} {x:Bool×(ByteArray×Val)} {rest:List (Bool×(ByteArray×Val))},G6 o f=pre++x::rest->
 x.1=(f&&(pre.map (·.2)).isEmpty)/\o=pre.map (·.2)++x.2::rest.map (·.2)
 | [],f,pre,x,rest,h=>by simp[G6]at h
 |p::r,f, [],x,rest,h=>by
  simp only[G6,List.nil_append,List.cons.injEq]at h;obtain⟨rfl,h⟩:=h;have: ∀(l:List (ByteArray×Val)) (f:Bool),(G6 l f).map (·.2)=l:=by
   intro l
   induction l with
   |nil=>intro f;rfl
   |cons a l ih=>intro f;simp[G6,ih]
  rw[<-h,this];simp
 |p::r,f,y::pre,x,rest,h=>by
  simp only[G6,List.cons_append,List.cons.injEq]at h;obtain⟨rfl,h⟩:=h;obtain⟨h1,h2⟩:=Pd r false h;exact⟨by simpa using h1,by simp[<-h2]⟩
theorem Tt: ∀(l:List (ByteArray×Val)) (f:Bool),(G6 l f).map (·.2)=l
 | [],_=>rfl
 |a::l,f=>by simp[G6,Tt l]
theorem Ef.of_below {g:Nat} {A W:World} (h:Below A.heap.size A W):Ef g A W:=fun j _ hj _ _=>(h.block j (Array.getElem?_eq_some_iff.1 hj).1).trans hj
theorem Ab4: ∀{a:List (ByteArray×Val)} {b:List (ByteArray×Val)},okO (a++b)->okO a
 | [],_,_=>by simp[okO]
 |x::r,b,h=>by simp only[List.cons_append,okO]at h ⊢;exact⟨h.1,Ab4 h.2⟩
theorem Th: ∀(a:List (ByteArray×Val)) (p:ByteArray×Val) (b:List (ByteArray×Val)),Ac a+Dg p<=Ac (a++p::b)
 | [],p,b=>by simp[Ac]
 |x::r,p,b=>by have:=Th r p b;simp only[List.cons_append,Ac];omega
def OI (W:World) (B g b pm:Nat) (keeps:Bool) (acc:List UInt8) (sl:Value) (pre:List (Bool×(ByteArray×Val))) (A:World):Prop:=
 Wr A B g keeps (acc++123::Cx (pre.map (·.2)) true)/\Below B W A/\Ef g W A/\A.heap[b]? =some (.cells #[.pointer (some ⟨g,0,none⟩)] 139 (0,0))/\A.heap[pm]? =some (.cells #[sl] 38 (0,0))
theorem Mn (o:List (ByteArray×Val)) (IH: ∀m ∈ o,Ui m.2) (W:World) (B g p:Nat) (h5:5<=B) (keeps:Bool) (acc:List UInt8) (oa:Option Addr) (oc:Nat) (v0 v1 v2 v3 v4:Value)
 (hp:W.heap[p]? =some (.cells #[v0,v1,v2,v3,v4,.slice oa o.length oc] 40 (0,0)))
 (gl off:Nat) (hoa:o= []\/(oa=some ⟨gl,off,none⟩/\gl<B/\Ak W B o gl off)) (hT:Cr W) (hpg:p≠g) (hW:Wr W B g keeps acc) (hok:okO o) (hlen:acc.length+6*(6+Ac o)<=20000000000) (hb:Ac o<=1000000000):
 Calls Tryz.prog 138 #[.pointer (some ⟨g,0,none⟩),.pointer (some ⟨p,0,none⟩)] W fun e W'=>e=.returned (.tuple #[])/\Wr W' B g keeps (acc++123::(Cx o true++ [125]))/\Below B W W'/\Ef g W W':=by
 have hoo:o.length<=1000000000:=by have:=Aw o;omega
 have hgW:=hW.lt;have hBg:=hW.base;have hpW:=(Array.getElem?_eq_some_iff.1 hp).1;have hW0:Wr (W.alloc (.cells #[.pointer (some ⟨g,0,none⟩)] 139)) B g keeps acc:=hW.below ((Below.refl _ _).alloc (Nat.le_refl _) _);have Hb0:Hid (Below W.heap.size W (W.alloc (.cells #[.pointer (some ⟨g,0,none⟩)] 139))):=(Below.refl _ _).alloc (Nat.le_refl _) _;have hB0:=heap_alloc_new W (.cells #[.pointer (some ⟨g,0,none⟩)] 139);have hz0:(W.alloc (.cells #[.pointer (some ⟨g,0,none⟩)] 139)).heap.size=W.heap.size+1:=by simp
 have hj1:=Ez [⟨#[123]⟩] 1 hW0 (by simp[Eh];omega) (by simp);rw[hz0]at hj1;obtain⟨HJ1,HB0,HP,HOA,HIH,HOK,HT⟩:=hid7 hj1 hB0 hp hoa IH hok hT;clear hj1 hB0 hp hoa IH hok hT hW0;refine(callsIn_wide (n:=12)).1 ?_;refine callsIn_of_wp_marks Tryz.func138 rfl trivial ?_ rfl;simp only[Tryz.ntmps138,List.size_toArray,List.length_cons,List.length_nil,Nat.reduceAdd,Nat.reduceSub,Array.replicate_succ,Array.replicate_zero,List.push_toArray,List.append_toArray,List.nil_append,List.cons_append]
 gi_wp2_with (first|(refine⟨trivial, ?_⟩;gi_at_call 130;refine(callsIn_wide.2 HJ1.out).mono ?_;rintro e w1 ⟨rfl,hw1,hb1,hk1⟩;have hp1:=hk1.cells ((Hb0.out.block p hpW).trans HP.out) hpg (by decide);have c5:w1.cell? ⟨p,5,none⟩=some (.slice oa o.length oc):=(Lib.cell_of_heap hp1 5).trans rfl)|(refine⟨trivial, ?_⟩;gi_at_call 139;refine(callsIn_wide.2 (Sk oa o.length oc w1)).mono ?_;rintro e w2 ⟨rfl,hw2⟩))
 have hz1:=hw1.lt;have hbW1:Below B W w1:=(Hb0.out.mono (by omega)).trans hb1;have hkW1:Ef g W w1:=(Ef.of_below Hb0.out).trans hk1;have hbx1:=hk1.cells HB0.out (by omega) (by decide);have hs1:=hb1.size;have hWs:W.heap.size<w1.heap.size:=(Array.getElem?_eq_some_iff.1 hbx1).1;have hg2:Below w1.heap.size w1 w2:=hw2▸(Below.refl _ _).alloc (Nat.le_refl _) _;have hpm:w2.heap[w1.heap.size]? =some (.cells #[.slice oa o.length oc] 38 (0,0)):=hw2▸heap_alloc_new _ _;have hbx2:=(hg2.block W.heap.size hWs).trans hbx1;have hW2:Wr w2 B g keeps (acc++123::Cx [] true):=by
  have:=hw1.below hg2;simpa[Eh,Cx]using this
 have hb2:Below B W w2:=hbW1.trans (hg2.mono (by omega));have hk2:Ef g W w2:=hkW1.trans (Ef.of_below hg2);have hz2:=(Array.getElem?_eq_some_iff.1 hpm).1;clear hw2 hw1 hb1 hk1 hp1 c5 hbW1 hkW1 hbx1 hg2 hs1;refine Mm (n:=10) (gf:=184) (lb:= #[.pointer (some ⟨w1.heap.size,0,none⟩)]) rfl (enters_of Tryz.func184 (by kernel_rfl) rfl) (Rj o W B g w1.heap.size oa oc gl off h5 HT.out HOA.out HOK.out hb) (fun _ _=>rfl)
  ?hEp (OI W B g W.heap.size w1.heap.size keeps acc (.slice oa o.length oc)) ?hIn ?hIp ?hIb ?h0 ?a1 ?assign ?body ?done
 case assign=>
  intro l x q W K hK;dsimp only[Aap]
  gi_wp2
  exact hK
 case h0=>exact⟨hW2,hb2,hk2,hbx2,hpm⟩
 case hIb=>
  rintro pre A ⟨h1,h2,h3,h4,h6⟩;exact⟨h6,h2,h1.lt⟩
 case hIn=>
  rintro pre A A' ⟨h1,h2,h3,h4,h6⟩ hb';exact⟨h1.below hb',h2.trans (hb'.mono (Nat.le_trans h1.base (Nat.le_of_lt h1.lt))),h3.trans (Ef.of_below hb'),(hb'.block _ (Array.getElem?_eq_some_iff.1 h4).1).trans h4,(hb'.block _ (Array.getElem?_eq_some_iff.1 h6).1).trans h6⟩
 case hEp=>
  rintro x q A k u u' ⟨h1,cs,h2,h3⟩ ho hc;refine⟨h1,cs, ?_,h3⟩;rw[World.putObj_heap_other (by rintro rfl;rw[h2]at ho;injection ho with ho;subst ho;simp[Obj.isCells]at hc)];exact h2
 case hIp=>
  rintro pre A k u u' ⟨h1,h2,h3,h4,h6⟩ ho hc hk;refine⟨h1.put ho hc,h2.grown (grownBy_putObj' A k u') (by have:=h2.size;omega) (fun j e=>by cases e;omega),fun j v hj hg hv=> ?_, ?_, ?_⟩
  . have:=(Array.getElem?_eq_some_iff.1 hj).1;rw[World.putObj_heap_other (by omega)];exact h3 j v hj hg hv
  . rw[World.putObj_heap_other (by omega)];exact h4
  . rw[World.putObj_heap_other (by omega)];exact h6
 case body=>
  rintro l pre x rest q A hx ⟨h1,h2,h3,h4,h6⟩ ⟨hq,cs,hqc,hqv⟩ ⟨ds,hds⟩ ⟨rc,hrc⟩;obtain⟨hf,ho⟩:=Pd o true hx;have htl:=L6 (pre.map (·.2)) (fun m _=>J1 m.2) (Ab4 (ho▸HOK.out)) true;have hbk:Ac (pre.map (·.2))+Dg x.2<=Ac o:=by rw[ho];exact Th _ _ _
  have hxm:x.2 ∈ o:=by rw[ho];simp
  have hokx:=Ab3 HOK.out hxm;have hsn:Cx ((pre++ [x]).map (·.2)) true=Cx (pre.map (·.2)) true++((Fc x).data.toList++(58::Cg x.2.2)):=by
   rw[List.map_append,List.map_cons,List.map_nil,Nb];obtain⟨f,key,v⟩:=x;simp only at hf;simp only[Yy,Fc,hf];simp[List.append_assoc]
  obtain⟨f,key,v⟩:=x;obtain⟨k',b',n',t',l',o'⟩:=v;have hqk:=Ip key;have hmt:(Fc (f,key,.mk k' b' n' t' l' o')).data.toList.length<=6*key.size+3:=by
   simp only[Fc]
   split<;>simp<;>omega
  simp only[Dg]at hbk;have hfl:Eh [Fc (f,key,.mk k' b' n' t' l' o'),⟨#[58]⟩]=(Fc (f,key,.mk k' b' n' t' l' o')).data.toList++ [58]:=by simp[Eh]
  have hlA:(acc++123::Cx (pre.map (·.2)) true).length+6*(Val.mk k' b' n' t' l' o').bulk+6*key.size+7<=20000000000:=by
   rw[List.length_append,List.length_cons];omega
  have hqb:(Val.mk k' b' n' t' l' o').bulk<=1000000000:=by omega
  have hM1:((Fc (f,key,.mk k' b' n' t' l' o')).data.toList++ [58]).length=(Fc (f,key,.mk k' b' n' t' l' o')).data.toList.length+1:=by simp
  have IHv:=qz (HIH.out _ hxm);obtain⟨HOKx,Hsn⟩:=hid2 hokx hsn;have hj:=Ez [Fc (f,key,.mk k' b' n' t' l' o'),⟨#[58]⟩] 2 h1 (by rw[hfl];omega) (by simp);rw[hfl]at hj;obtain⟨HJ,HQ,HV⟩:=hid3 hj hqc hqv;have h4c:A.cell? ⟨W.heap.size,0,none⟩=some (.pointer (some ⟨g,0,none⟩)):=(Lib.cell_of_heap h4 0).trans rfl;have H2:=qz h2;have hA:=h1.lt;have hAb:=(Array.getElem?_eq_some_iff.1 h4).1;have hl3:((acc++123::Cx (pre.map (fun y:Bool×(ByteArray×Val)=>y.2)) true)++((Fc (f,key,.mk k' b' n' t' l' o')).data.toList++ [58])).length+6*(Val.mk k' b' n' t' l' o').bulk<=20000000000:=by
   rw[List.length_append];omega
  have ent:=I6;simp only[Val.kind];clear hj hsn hokx hxm ho hf htl hbk hx hfl hqc hqv
  gi_wp2_with (first|(refine⟨trivial, ?_⟩;gi_at_call 130;refine(CallsIn.inRound l (callsIn_wide.2 HJ.out)).mono ?_;rintro e A2 ⟨rfl,g1,g2,g3⟩;have g4:=g3.cells h4 (by omega) (by decide);have g5:A2.cell? ⟨W.heap.size,0,none⟩=some (.pointer (some ⟨g,0,none⟩)):=(Lib.cell_of_heap g4 0).trans rfl)|(refine⟨trivial, ?_⟩;gi_at_fn (L9 k');refine(CallsIn.inRound l (callsIn_wide.2 (IHv.out A2 B g q keeps _ cs k' b' n' t' l' o' rfl h5 (HT.out.keep (H2.out.trans g2) h5) (HV.out.below (H2.out.trans g2)) (g3.cells HQ.out (by omega) (by decide)) (by omega) g1 HOKx.out.2 hqb hl3))).mono ?_;rintro e A3 ⟨rfl,g6,g7,g8⟩))
  have hkk:Ef g A A3:=g3.trans g8;refine⟨?_, ?_, ?_,h2.trans (g2.trans g7),h3.trans hkk,hkk.cells h4 (by omega) (by decide),hkk.cells h6 (by omega) (by decide)⟩
  . exact(hkk _ _ hds (by simp;omega) (fun c fz e=>by cases e)).trans hds.symm
  . exact(hkk _ _ hrc (by simp;omega) (fun c fz e=>by cases e)).trans hrc.symm
  . rw[Hsn.out];simpa[List.append_assoc]using g6
 case done=>
  rintro A ⟨h1,h2,h3,h4,h6⟩ hds;rw[Tt]at h1;have htl:=L6 o (fun m _=>J1 m.2) HOK.out true;have HJ:=qz (Ez [⟨#[125]⟩] 1 h1 (by rw[List.length_append,List.length_cons];simp[Eh];omega) (by simp));have h4c:A.cell? ⟨W.heap.size,0,none⟩=some (.pointer (some ⟨g,0,none⟩)):=(Lib.cell_of_heap h4 0).trans rfl;have hA:=h1.lt;have hAb:=(Array.getElem?_eq_some_iff.1 h4).1;have e:Eh [⟨#[125]⟩]= [125]:=by simp[Eh]
  clear htl
  gi_wp2_with (refine⟨trivial, ?_⟩;gi_at_call 130;refine(callsIn_wide.2 HJ.out).mono ?_;rintro e A2 ⟨rfl,g1,g2,g3⟩)
  have hd:=g3 _ _ hds (by simp;omega) (fun c fz e=>by cases e);refine⟨by simp,.inl ⟨_,_,rfl,run_takeDeferred hd, ?_⟩⟩;rw[e,List.append_assoc,List.cons_append]at g1;refine⟨_,results_none rfl _ _ _,rfl, ?_⟩;have hbA:=h2.trans g2;refine⟨g1.put hd rfl,hbA.grown (grownBy_putObj' A2 w2.heap.size _) (by have:=hbA.size;omega) (fun j e=>by cases e;omega),fun j v hj hg hv=> ?_⟩;have:=(Array.getElem?_eq_some_iff.1 hj).1;rw[World.putObj_heap_other (by omega)];exact g3 j v (h3 j v hj hg hv) hg hv
theorem Abf: ∀v,Ui v:=by
 refine Val.ind ?_;intro k b n t l o IHl IHo W B g p keeps acc cs k' b' n' t' l' o' hv h5 hT hH hp hpg hW hok hbk hlen
 injection hv with e1 e2 e3 e4 e5 e6
 subst e1 e2 e3 e4 e5 e6;simp only[Ab]at hH;obtain⟨la,lc,oa,oc,rfl,hla,hoa⟩:=hH;simp only[Ze]at hok;simp only[Val.bulk]at hbk hlen;by_cases h2:k=2
 . subst h2;exact Za W B g p keeps acc b _ _ _ _ _ hp hW (by omega)
 by_cases h3:k=3
 . subst h3;exact Abg W B g p keeps acc n _ _ _ _ _ hp hT hok.2.1.1 hok.2.1.2 hpg hW (by omega)
 by_cases h4:k=4
 . subst h4;exact Zc W B g p keeps acc t _ _ _ _ _ hp hT hok.1 (by omega) hpg hW (by omega)
 by_cases h5':k=5
 . subst h5';rcases hla with rfl|⟨gl,off,rfl,hg,hL⟩
   . exact P2 [] IHl W B g p h5 keeps acc la lc _ _ _ _ _ hp 0 0 (.inl rfl) hT hpg hW hok.2.2.1 (by omega) (by omega)
   . exact P2 l IHl W B g p h5 keeps acc _ lc _ _ _ _ _ hp gl off (.inr ⟨rfl,hg,hL⟩) hT hpg hW hok.2.2.1 (by omega) (by omega)
 by_cases h6:k=6
 . subst h6;rcases hoa with rfl|⟨gl,off,rfl,hg,hL⟩
   . exact Mn [] IHo W B g p h5 keeps acc oa oc _ _ _ _ _ hp 0 0 (.inl rfl) hT hpg hW hok.2.2.2 (by omega) (by omega)
   . exact Mn o IHo W B g p h5 keeps acc _ oc _ _ _ _ _ hp gl off (.inr ⟨rfl,hg,hL⟩) hT hpg hW hok.2.2.2 (by omega) (by omega)
 . have ef:L9 k=140:=by simp[L9,h2,h3,h4,h5',h6]
   have ec:Hg k p= #[]:=by simp[Hg,h2,h3,h4,h5',h6]
   have et:Cg (.mk k b n t l o)= [110,117,108,108]:=by simp[Cg,h2,h3,h4,h5',h6]
   rw[ef,ec,et];exact Zb W B g keeps acc hW (by omega)
theorem Afs: ∀(l:List Val),(∀v ∈ l,∀d,Bb v d=0->M4 v->Ze v)-> ∀d,Dd l d=0->U0 l->Zd l
 | [],_,_,_,_=>by simp[Zd]
 |v::r,ih,d,h,hi=>by
  simp only[Dd]at h;simp only[U0]at hi;simp only[Zd]
  split at h
  . rename_i h0;exact⟨ih v (by simp) d h0 hi.1,Afs r (fun x hx=>ih x (by simp[hx])) d h hi.2⟩
  . rename_i h0;exact absurd h h0
theorem Afu: ∀(l:List (ByteArray×Val)),(∀m ∈ l,∀d,Bb m.2 d=0->M4 m.2->Ze m.2)-> ∀last d,Dx l last d=0->J2 l->okO l
 | [],_,_,_,_,_=>by simp[okO]
 |(key,v)::r,ih,last,d,h,hi=>by
  simp only[Dx]at h;simp only[J2,inP]at hi;simp only[okO,okP]
  split at h
  . rename_i h0;refine⟨?_,Afu r (fun x hx=>ih x (by simp[hx])) _ d h hi.2⟩;simp only[Rf]at h0
    split at h0
    . rename_i hv;refine⟨hv, ?_⟩
      cases last with
      |none=>exact ih (key,v) (by simp) d h0 hi.1
      |some q=>
       simp only at h0
       split at h0
       . cases h0
       . exact ih (key,v) (by simp) d h0 hi.1
    . cases h0
  . rename_i h0;exact absurd h h0
theorem Aau: ∀v d,Bb v d=0->M4 v->Ze v:=by
 refine Val.ind ?_;intro k b n t l o hl ho d h hi;simp only[Bb]at h;simp only[M4]at hi;simp only[Ze]
 split at h
 . cases h
 split at h
 . cases h
 split at h
 . rename_i hv
   split at h
   . rename_i h0;exact⟨hv,hi.1,Afs l hl _ h0 hi.2.1,Afu o ho _ _ h hi.2.2⟩
   . rename_i h0;exact absurd h h0
 . cases h
theorem Ag4 (n:Int):Lib.itoa n≠ []:=by
 unfold Lib.itoa
 split
 . simp
 . intro h;have:=congrArg List.length h;rw[Lib.decDigits_length]at this;have h1:=Lib.nDigits_pos n.toNat;simp at this;omega
theorem Agg (v:Val):Cg v≠ []:=by
 obtain⟨k,b,n,t,l,o⟩:=v;simp only[Cg]
 split
 . cases b<;>decide
 split
 . intro h;exact Ag4 n h
 split
 . simp[Df]
 split
 . simp
 split
 . simp
 . simp
theorem Aia (W:World) (B:Nat) (keeps:Bool) (h:B<=W.heap.size):Wr (W.alloc (.cells #[.bool keeps,.pointer none,.slice none 0 0,.int .i64 0] 136)) B W.heap.size keeps []:=
 ⟨.pointer none,.slice none 0 0,h,heap_alloc_new _ _,by decide,by simp,.inl rfl,.slice none 0 0,rfl,by cases keeps<;>exact World.ownsRow_nil _ _ _ _⟩
theorem Oj (k:Int) (b:Bool) (n:Int) (t:ByteArray) (l:List Val) (o:List (ByteArray×Val)) (la oa:Option Addr) (lc oc:Nat) (keeps:Bool) (w:World) (hT:Cr w)
 (hV:Ab w w.heap.size (.mk k b n t l o) (Dk k b n t la l.length lc oa o.length oc)) (hb:(Val.mk k b n t l o).bulk<=1000000000) (hok:Ze (.mk k b n t l o)):
 Calls Tryz.prog (L9 k) (#[.pointer (some ⟨w.heap.size,0,none⟩)]++Hg k (w.heap.size+1))
  ((w.alloc (.cells #[.bool keeps,.pointer none,.slice none 0 0,.int .i64 0] 136)).alloc (.cells #[.int .i64 k,.bool b,.int .i64 n,.string t,.slice la l.length lc,.slice oa o.length oc] 40))
  fun e w'=>e=.returned (.tuple #[])/\Wr w' w.heap.size w.heap.size keeps (Cg (.mk k b n t l o))/\Below w.heap.size w w':=by
 have hw:=Abf (.mk k b n t l o);have h5:=hT.1;have hWA:Wr (w.alloc (.cells #[.bool keeps,.pointer none,.slice none 0 0,.int .i64 0] 136)) w.heap.size w.heap.size keeps []:=Aia w _ keeps (Nat.le_refl _);obtain⟨wA,hA⟩: ∃wA,w.alloc (.cells #[.bool keeps,.pointer none,.slice none 0 0,.int .i64 0] 136)=wA:=⟨_,rfl⟩;have hAb:Below w.heap.size w wA:=hA▸(Below.refl _ _).alloc (Nat.le_refl _) _;have hAz:wA.heap.size=w.heap.size+1:=by rw[<-hA];simp
 rw[hA]at hWA ⊢;have hBb:Below wA.heap.size wA (wA.alloc (.cells #[.int .i64 k,.bool b,.int .i64 n,.string t,.slice la l.length lc,.slice oa o.length oc] 40)):=(Below.refl _ _).alloc (Nat.le_refl _) _;have hAB:Below w.heap.size w (wA.alloc (.cells #[.int .i64 k,.bool b,.int .i64 n,.string t,.slice la l.length lc,.slice oa o.length oc] 40)):=hAb.trans (hBb.mono (by omega));have hc:=hw _ w.heap.size w.heap.size wA.heap.size keeps [] _ k b n t l o rfl h5 (hT.below hAB) (hV.below hAB) (heap_alloc_new wA (.cells #[.int .i64 k,.bool b,.int .i64 n,.string t,.slice la l.length lc,.slice oa o.length oc] 40)) (by omega) (hWA.below hBb) hok hb (by simp;omega);rw[hAz,List.nil_append]at hc;refine hc.mono ?_;rintro e w' ⟨he,h1,h2,h3⟩;exact⟨he,h1,hAB.trans h2⟩
theorem Tf {w:World} {g:Nat} {k:Int} {b:Bool} {n:Int} {t:ByteArray} {x y:Value} (h:w.heap[g]? =some (.cells #[.int .i64 k,.bool b,.int .i64 n,.string t,x,y] 40 (0,0))):
 w.cell? ⟨g,0,none⟩=some (.int .i64 k)/\w.cell? ⟨g,1,none⟩=some (.bool b)/\w.cell? ⟨g,2,none⟩=some (.int .i64 n)/\w.cell? ⟨g,3,none⟩=some (.string t)/\w.cell? ⟨g,4,none⟩=some x/\w.cell? ⟨g,5,none⟩=some y:=by
 refine⟨?_, ?_, ?_, ?_, ?_, ?_⟩<;>(rw[Lib.cell_of_heap h];rfl)
def Pv (v:Val):ByteArray:=if Bb v 1=0 then⟨(Cg v).toArray⟩else⟨#[]⟩
theorem Zm (v:Val) (cs:List Value) (w:World) (hT:Cr w) (hV:Ab w w.heap.size v cs) (hb:v.bulk<=1000000000) (hi:M4 v):
 Calls Tryz.prog 52 #[.agg cs.toArray] w fun e w'=>e=.returned (.tuple #[.string (Pv v),.int .i64 (Bb v 1)])/\Below w.heap.size w w':=by
 have hV':=hV;obtain⟨k,b,n,t,l,o⟩:=v;simp only[Ab]at hV';obtain⟨la,lc,oa,oc,rfl,_,_⟩:=hV';obtain⟨w1,hw1⟩: ∃w1,w.alloc (.cells (Dk k b n t la l.length lc oa o.length oc).toArray 40)=w1:=⟨_,rfl⟩;have hb1:Below w.heap.size w w1:=hw1▸(Below.refl _ _).alloc (Nat.le_refl _) _;have hz1:w1.heap.size=w.heap.size+1:=by rw[<-hw1];simp
 have hbx:w1.heap[w.heap.size]? =some (.cells #[.int .i64 k,.bool b,.int .i64 n,.string t,.slice la l.length lc,.slice oa o.length oc] 40 (0,0)):=by rw[<-hw1];exact heap_alloc_new _ _
 have hT1:=hT.below hb1;have hV1:=Ab.more (hb1.size) _ _ (hV.below hb1);have hM:=Ta _ _ w1 hT1 hV1 hb;obtain⟨HX,HW⟩:=hid2 hbx hb1;by_cases hm:Bb (.mk k b n t l o) 1=0
 . have hok:=Aau _ 1 hm hi;have hB:=fun w' (h:Below w1.heap.size w1 w')=>Oj k b n t l o la oa lc oc true w' (hT1.below h) (Ab.more h.size _ _ (hV1.below h)) hb hok;have hne:=Agg (.mk k b n t l o);have HO:=qz (fun w=>L1 k b n t la oa l.length lc o.length oc w);unfold Pv;rw[hm]at hM ⊢;rw[if_pos rfl];generalize Cg (.mk k b n t l o)=L at hB hne ⊢;have ent:=I6;obtain⟨HB,HM,HZ⟩:=hid3 hB hM hz1;clear hB hM hm hok hi hb hT hV hT1 hV1 hbx hb1 hz1;subst hw1;go_enter Tryz.func52,Tryz.ntmps52;go_wp2_with (first|(go_at_call 78;refine(HM.out).mono ?_;rintro e w2 ⟨rfl,hb2⟩;have hz2:=hb2.size;rw[HZ.out]at hz2;have hlt2:w.heap.size<w2.heap.size:=(by omega);have hbox:w2.heap[w.heap.size]? =some (.cells #[.int .i64 k,.bool b,.int .i64 n,.string t,.slice la l.length lc,.slice oa o.length oc] 40 (0,0)):=(hb2.block _ (by simp)).trans HX.out;obtain⟨d0,d1,d2,d3,d4,d5⟩:=Tf hbox)|(go_at_call 79;refine(HO.out _).mono ?_;rintro e w3 ⟨rfl,rfl⟩)|(go_at_fn (L9 k);refine(HB.out _ hb2).mono ?_;rintro e w4 ⟨rfl,h6,h7⟩;obtain⟨pp,vv,hbld⟩:=h6)|(go_at_call 80;refine(Nn _ _ _ _ _ _ _ hbld hne).mono ?_;rintro e w5 ⟨rfl,hb5,hk5⟩));go_ret2;exact⟨rfl,HW.out.trans ((hb2.trans ((h7.trans hb5).mono hb2.size)).mono (by simp))⟩
 . unfold Pv;rw[if_neg hm];have hmb:(Bb (.mk k b n t l o) 1==0)=false:=by simpa using hm
   generalize Bb (.mk k b n t l o) 1=m at*
   have HM:=qz hM;clear hM hm hi hb hT hV hT1 hV1 hbx hb1 hz1;subst hw1;go_enter Tryz.func52,Tryz.ntmps52;go_wp2_with (go_at_call 78;refine(HM.out).mono ?_;rintro e w2 ⟨rfl,hb2⟩);go_ret2;exact⟨rfl,HW.out.trans (hb2.mono (by simp))⟩
theorem X1: ∀{l:List Val} {d:Int},Dd l d=0-> ∀v ∈ l,Bb v d=0
 |v::r,d,h,x,hx=>by
  simp only[Dd]at h
  split at h
  . rename_i h0;rcases List.mem_cons.1 hx with rfl|hx
    . exact h0
    . exact X1 h x hx
  . rename_i h0;exact absurd h h0
theorem N3: ∀{l:List (ByteArray×Val)} {last:Option ByteArray} {d:Int},Dx l last d=0-> ∀m ∈ l,A4 m.1=true/\Bb m.2 d=0
 |(key,v)::r,last,d,h,x,hx=>by
  simp only[Dx]at h
  split at h
  . rename_i h0;rcases List.mem_cons.1 hx with rfl|hx
    . simp only[Rf]at h0
      split at h0
      . rename_i hv;refine⟨hv, ?_⟩
        cases last with
        |none=>exact h0
        |some q=>
         simp only at h0
         split at h0
         . cases h0
         . exact h0
      . cases h0
    . exact N3 h x hx
  . rename_i h0;exact absurd h h0
theorem Kj {k:Int} {b:Bool} {n:Int} {t:ByteArray} {l:List Val} {o:List (ByteArray×Val)} {d:Int} (h:Bb (.mk k b n t l o) d=0):
 Fg k b n t l.length o.length=false/\d<=64/\A4 t=true/\Dd l (d+1)=0/\Dx o none (d+1)=0:=by
 simp only[Bb]at h
 split at h
 . cases h
 rename_i h1
 split at h
 . cases h
 split at h
 . rename_i hv
   split at h
   . rename_i h0;exact⟨by simpa using h1,by omega,hv,h0,h⟩
   . rename_i h0;exact absurd h h0
 . cases h
theorem Ag2 {l:List Val} (h:U0 l) {x:Val} (hx:x ∈ l):M4 x:=by
 induction l with
 |nil=>cases hx
 |cons y r ih=>
  simp only[U0]at h;rcases List.mem_cons.1 hx with rfl|hx
  . exact h.1
  . exact ih h.2 hx
theorem I9 {l:List (ByteArray×Val)} (h:J2 l) {x:ByteArray×Val} (hx:x ∈ l):M4 x.2:=by
 induction l with
 |nil=>cases hx
 |cons y r ih=>
  obtain⟨key,v⟩:=y;simp only[J2,inP]at h;rcases List.mem_cons.1 hx with rfl|hx
  . exact h.1
  . exact ih h.2 hx
theorem Ua: ∀(a b:List Val) (f:Bool),Cw (a++b) f=Cw a f++Cw b (f&&a.isEmpty)
 | [],b,f=>by simp[Cw]
 |x::r,b,f=>by simp only[List.cons_append,Cw,Ua r b false];simp
theorem Lm (l:List Val) (k:Nat) (f:Bool):(Cw (l.take k) f).length<=(Cw l f).length:=by
 have:=Ua (l.take k) (l.drop k) f;rw[List.take_append_drop]at this;rw[this];simp
theorem Ub: ∀(a b:List (ByteArray×Val)) (f:Bool),Cx (a++b) f=Cx a f++Cx b (f&&a.isEmpty)
 | [],b,f=>by simp[Cx]
 |x::r,b,f=>by simp only[List.cons_append,Cx,Ub r b false];simp
theorem Ln (l:List (ByteArray×Val)) (k:Nat) (f:Bool):(Cx (l.take k) f).length<=(Cx l f).length:=by
 have:=Ub (l.take k) (l.drop k) f;rw[List.take_append_drop]at this;rw[this];simp
theorem T6 (s:ByteArray):s.data.toList.length=s.size:=by rw[Array.length_toList];rfl
theorem Qi (l:List UInt8):(⟨l.toArray⟩:ByteArray).size=l.length:=rfl
end Go.Proofs.YtnkmhaachfgaoaaGreatDoor
