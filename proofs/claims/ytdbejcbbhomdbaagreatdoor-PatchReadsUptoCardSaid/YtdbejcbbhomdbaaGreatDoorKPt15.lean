/- Parts: What writes a list's text. Condition: a bulk of at most 10^9. -/
import Derived.Lib.ItoaLen
import Derived.Test.YtdbejcbbhomdbaaGreatDoorKPt10
import Derived.Test.YtdbejcbbhomdbaaGreatDoorKPt11
set_option maxHeartbeats 20000000
set_option maxRecDepth 100000
namespace Go.Proofs.YtdbejcbbhomdbaaGreatDoor
open Go.RowKit
def Cu (s:ByteArray):List UInt8:=34::Aq (Ed s)++ [34]
mutual
def Bx:Val->List UInt8
 | .mk k b n t l o=>
   if k=2 then Lib.formatBool b else if k=3 then Lib.itoa n else if k=4 then Cu t
   else if k=5 then 91::(Ci l true++ [93])else if k=6 then 123::(Cj o true++ [125])else [110,117,108,108]
def Ci:List Val->Bool->List UInt8
 | [],_=> []
 |v::r,f=>(if f then []else [44])++(Bx v++Ci r false)
def Cj:List (ByteArray×Val)->Bool->List UInt8
 | [],_=> []
 |p::r,f=>(if f then []else [44])++(V4 p++Cj r false)
def V4:ByteArray×Val->List UInt8
 |(key,v)=>Cu key++(58::Bx v)
end
mutual
def Wl:Val->Prop
 | .mk _ _ n t l o=>Aw t=true/\(-9223372036854775808<=n/\n<=9223372036854775807)/\Wk l/\Xu o
def Wk:List Val->Prop
 | []=>True
 |v::r=>Wl v/\Wk r
def Xu:List (ByteArray×Val)->Prop
 | []=>True
 |p::r=>okP p/\Xu r
def okP:ByteArray×Val->Prop
 |(key,v)=>Aw key=true/\Wl v
end
def Kn (k:Int):Nat:=
 if k=2 then 114 else if k=3 then 117 else if k=4 then 119 else if k=5 then 121 else if k=6 then 123 else 125
def Ga (k:Int) (p:Nat):Array Value:=
 if k=2\/k=3\/k=4\/k=5\/k=6 then #[.pointer (some ⟨p,0,none⟩)]else #[]
theorem Gw (k:Int) (args:Array Value) (w:World):(callFunc (Kn k) args).run Tryz.prog w=.ok (.enter (Kn k) args) w:=by
 unfold Kn
 split
 . exact enters_of Tryz.func114 (by kernel_rfl) rfl args w
 split
 . exact enters_of Tryz.func117 (by kernel_rfl) rfl args w
 split
 . exact enters_of Tryz.func119 (by kernel_rfl) rfl args w
 split
 . exact enters_of Tryz.func121 (by kernel_rfl) rfl args w
 split
 . exact enters_of Tryz.func123 (by kernel_rfl) rfl args w
 . exact enters_of Tryz.func125 (by kernel_rfl) rfl args w
theorem Ke (k:Int) (b:Bool) (n:Int) (t:ByteArray) (la oa:Option Addr) (ln lc on oc:Nat) (w:World):
 Calls Tryz.prog 81 #[.agg #[.int .i64 k,.bool b,.int .i64 n,.string t,.slice la ln lc,.slice oa on oc]] w fun e w'=>
  e=.returned (.func (.func (Kn k)) #[] (Ga k w.heap.size))/\w.alloc (.cells #[.int .i64 k,.bool b,.int .i64 n,.string t,.slice la ln lc,.slice oa on oc] 33)=w':=by
 rcases(by omega:k=2\/k=3\/k=4\/k=5\/k=6\/(k≠2/\k≠3/\k≠4/\k≠5/\k≠6))with rfl|rfl|rfl|rfl|rfl|⟨h2,h3,h4,h5,h6⟩
 all_goals
  try have e2:(k==2)=false:=by simpa using h2
  try have e3:(k==3)=false:=by simpa using h3
  try have e4:(k==4)=false:=by simpa using h4
  try have e5:(k==5)=false:=by simpa using h5
  try have e6:(k==6)=false:=by simpa using h6
  try have hf:Hid (Kn k=125):=by show _=_;simp[Kn,h2,h3,h4,h5,h6]
  try have hc:Hid (Ga k w.heap.size= #[]):=by show _=_;simp[Ga,h2,h3,h4,h5,h6]
  try clear h2 h3 h4 h5 h6
  go_enter Tryz.func81,Tryz.ntmps81;go_wp2;go_ret
 all_goals first|exact⟨rfl,rfl⟩|exact⟨by rw[hf.out,hc.out];rfl,rfl⟩
def Sf (v:Val):Prop:= ∀(W:World) (B g p:Nat) (keeps:Bool) (acc:List UInt8) (cs:List Value) (k:Int) (b:Bool) (n:Int) (t:ByteArray) (l:List Val) (o:List (ByteArray×Val)),v=.mk k b n t l o->5<=B->Ck W->Aa W B v cs->
    W.heap[p]? =some (.cells cs.toArray 33 (0,0))->p≠g->Wr W B g keeps acc->Wl v->v.bulk<=1000000000->acc.length+6*v.bulk<=20000000000->
    Calls Tryz.prog (Kn k) (#[.pointer (some ⟨g,0,none⟩)]++Ga k p) W fun e W'=>e=.returned (.tuple #[])/\Wr W' B g keeps (acc++Bx v)/\Below B W W'/\Dw g W W'
theorem Ck.keep {w w':World} {B:Nat} (h:Ck w) (hb:Below B w w') (h5B:5<=B):Ck w':=by
 obtain⟨h5,⟨h1,h2⟩,h3⟩:=h;refine⟨Nat.le_trans h5 hb.size,⟨fun c hc=> ?_,fun i hi=>⟨?_, ?_⟩⟩, ?_⟩
 . exact(hb.cell (p:=⟨1,c,none⟩) (by show 1<_;omega)).trans (h1 c hc)
 . exact(hb.cell (p:=⟨2,2*i,none⟩) (by show 2<_;omega)).trans (h2 i hi).1
 . exact(hb.cell (p:=⟨2,2*i+1,none⟩) (by show 2<_;omega)).trans (h2 i hi).2
 . have hg:Tryz.prog.globalNamed "internal/strconv.uint64pow10" =some 4:=by kernel_rfl
   unfold Lib.TabIs World.var? at h3 ⊢;rw[hg]at h3 ⊢;simp only[Option.bind_some]at h3 ⊢;rw[hb.block 4 (by omega)];exact h3
theorem Xg (W:World) (k:Nat) (os:Array Obj):Below W.heap.size W (Sort.grow (W.drewN k) os):=
 ⟨rfl,rfl,rfl,by show W.heap.size<=(W.heap++os).size;simp,fun i hi=>by show(W.heap++os)[i]? =W.heap[i]?;rw[Array.getElem?_append_left hi]⟩
theorem Jn (b:Bool):(Lib.formatBool b).length<=5:=by cases b<;>decide
theorem Ft (l:List UInt8):Dz [⟨l.toArray⟩]=l:=by simp[Dz]
theorem Eb {B g:Nat} {keeps:Bool} {acc:List UInt8} {w:World} (ss:List ByteArray) (c:Nat) (h:Wr w B g keeps acc) (hlen:acc.length+(Dz ss).length<=50000000000) (hn:ss.length<=1000):
 Calls Tryz.prog 115 #[.pointer (some ⟨g,0,none⟩),.slice (some ⟨w.heap.size,0,none⟩) ss.length c] (w.alloc (.cells (ss.map Value.string).toArray 9 (0,0))) fun e w'=>e=.returned (.tuple #[])/\Wr w' B g keeps (acc++Dz ss)/\Below B w w'/\Dw g w w':=by
 have hlt:=h.lt;have hb:=h.base;refine(Xj B g keeps acc ss w.heap.size c _ (h.below ((Below.refl _ _).alloc (Nat.le_refl _) _)) (heap_alloc_new _ _) (by omega) hlen hn).mono ?_;rintro e w' ⟨rfl,h1,h2,h3⟩;exact⟨rfl,h1,((Below.refl B w).alloc (by omega) _).trans h2,((Lib.OthersKept.refl _ _ w).alloc _).trans h3⟩
theorem Wh (W:World) (B g p:Nat) (keeps:Bool) (acc:List UInt8) (b:Bool) (v2 v3 v4 v5:Value) (k:Value) (hp:W.heap[p]? =some (.cells #[k,.bool b,v2,v3,v4,v5] 33 (0,0)))
 (hW:Wr W B g keeps acc) (hlen:acc.length<=20000000000):
 Calls Tryz.prog 114 #[.pointer (some ⟨g,0,none⟩),.pointer (some ⟨p,0,none⟩)] W fun e W'=>e=.returned (.tuple #[])/\Wr W' B g keeps (acc++Lib.formatBool b)/\Below B W W'/\Dw g W W':=by
 have c1:W.cell? ⟨p,1,none⟩=some (.bool b):=(Lib.cell_of_heap hp 1).trans rfl;have hj:=Eb [⟨(Lib.formatBool b).toArray⟩] 1 hW (by rw[Ft];have:=Jn b;omega) (by simp);rw[Ft]at hj;have cB:=Tryz.strconv_FormatBool b W;generalize Lib.formatBool b=L at hj cB ⊢;obtain⟨HJ,CB⟩:=hid2 hj cB;clear hj cB;go_enter Tryz.func114,Tryz.ntmps114;go_wp2_with (first|(go_at_call 116;refine(CB.out).mono ?_;rintro e wx ⟨rfl,hwx⟩;subst hwx)|(go_at_call 115;refine(HJ.out).mono ?_;rintro e w2 ⟨rfl,h1,h2,h3⟩))
 go_end0
 exact⟨rfl,h1,h2,h3⟩
theorem Yj (W:World) (B g p:Nat) (keeps:Bool) (acc:List UInt8) (n:Int) (v1 v3 v4 v5:Value) (k:Value) (hp:W.heap[p]? =some (.cells #[k,v1,.int .i64 n,v3,v4,v5] 33 (0,0)))
 (hT:Ck W) (hn0: -9223372036854775808<=n) (hn1:n<=9223372036854775807) (_hpg:p≠g) (hW:Wr W B g keeps acc) (hlen:acc.length<=20000000000):
 Calls Tryz.prog 117 #[.pointer (some ⟨g,0,none⟩),.pointer (some ⟨p,0,none⟩)] W fun e W'=>e=.returned (.tuple #[])/\Wr W' B g keeps (acc++Lib.itoa n)/\Below B W W'/\Dw g W W':=by
 have c1:W.cell? ⟨p,2,none⟩=some (.int .i64 n):=(Lib.cell_of_heap hp 2).trans rfl;have hl:=Lib.itoa_length_le n hn0 hn1;have cB:=Tryz.strconv_FormatInt_10 n hn0 hn1 W hT.2.2;have hj: ∀w1,Below W.heap.size W w1->Calls Tryz.prog 115 #[.pointer (some ⟨g,0,none⟩),.slice (some ⟨w1.heap.size,0,none⟩) 1 1] (w1.alloc (.cells #[.string ⟨(Lib.itoa n).toArray⟩] 9 (0,0))) fun e w'=>e=.returned (.tuple #[])/\Wr w' B g keeps (acc++Lib.itoa n)/\Below B w1 w'/\Dw g w1 w':=fun w1 hb=>by
  have:=Eb [⟨(Lib.itoa n).toArray⟩] 1 (hW.below hb) (by rw[Ft];omega) (by simp)
  rwa [Ft]at this
 have hB:=hW.base;have hlt:=hW.lt;generalize Lib.itoa n=L at hj cB ⊢;obtain⟨HJ,CB⟩:=hid2 hj cB;clear hj cB hl hp;go_enter Tryz.func117,Tryz.ntmps117;go_wp2_with (first|(go_at_call 118;refine(CB.out).mono ?_;rintro e w1 ⟨rfl,kk,os,hwx⟩;have hb1:Below W.heap.size W w1:=hwx▸Xg W kk os;clear hwx)|(go_at_call 115;refine(HJ.out _ hb1).mono ?_;rintro e w2 ⟨rfl,h1,h2,h3⟩))
 go_end0
 exact⟨rfl,h1,(hb1.mono (by omega)).trans h2,fun j o hj hg ho=>h3 j o ((hb1.block j (Array.getElem?_eq_some_iff.1 hj).1).trans hj) hg ho⟩
theorem Wi (W:World) (B g:Nat) (keeps:Bool) (acc:List UInt8) (hW:Wr W B g keeps acc) (hlen:acc.length<=20000000000):
 Calls Tryz.prog 125 #[.pointer (some ⟨g,0,none⟩)] W fun e W'=>e=.returned (.tuple #[])/\Wr W' B g keeps (acc++ [110,117,108,108])/\Below B W W'/\Dw g W W':=by
 have HJ:=qz (Eb [⟨#[110,117,108,108]⟩] 1 hW (by simp[Dz];omega) (by simp));go_enter Tryz.func125,Tryz.ntmps125;go_wp2_with (go_at_call 115;refine(HJ.out).mono ?_;rintro e w2 ⟨rfl,h1,h2,h3⟩)
 go_end0
 exact⟨rfl,h1,h2,h3⟩
theorem Nu (s:ByteArray) (w:World) (hT:Ck w) (hs:s.size<=1000000000) (hv:Aw s=true):
 Calls Tryz.prog 120 #[.string s] w fun e w'=>e=.returned (.string ⟨(Cu s).toArray⟩)/\Below w.heap.size w w':=by
 have cQ:=Ty s w hT hs hv;unfold Cu;generalize 34::Aq (Ed s)++ [34]=L at cQ ⊢;have CQ:=qz cQ;clear cQ;go_enter Tryz.func120,Tryz.ntmps120;go_wp2_with (go_at_call 167;refine(CQ.out).mono ?_;rintro e w2 ⟨rfl,h1⟩);go_ret;exact⟨rfl,h1⟩
theorem Gm (s:ByteArray):(Cu s).length<=6*s.size+2:=by
 have e1:=E4 (Ed s);have e3:=Ee s.size s.data.toList 0;unfold Ed at e1;unfold Cu Ed;simp only[List.length_cons,List.length_append,List.length_nil];omega
theorem Wj (W:World) (B g p:Nat) (keeps:Bool) (acc:List UInt8) (t:ByteArray) (v1 v2 v4 v5:Value) (k:Value) (hp:W.heap[p]? =some (.cells #[k,v1,v2,.string t,v4,v5] 33 (0,0)))
 (hT:Ck W) (hv:Aw t=true) (ht:t.size<=1000000000) (_hpg:p≠g) (hW:Wr W B g keeps acc) (hlen:acc.length<=20000000000):
 Calls Tryz.prog 119 #[.pointer (some ⟨g,0,none⟩),.pointer (some ⟨p,0,none⟩)] W fun e W'=>e=.returned (.tuple #[])/\Wr W' B g keeps (acc++Cu t)/\Below B W W'/\Dw g W W':=by
 have c1:W.cell? ⟨p,3,none⟩=some (.string t):=(Lib.cell_of_heap hp 3).trans rfl;have hl:=Gm t;have cB:=Nu t W hT ht hv;have hj: ∀w1,Below W.heap.size W w1->Calls Tryz.prog 115 #[.pointer (some ⟨g,0,none⟩),.slice (some ⟨w1.heap.size,0,none⟩) 1 1] (w1.alloc (.cells #[.string ⟨(Cu t).toArray⟩] 9 (0,0))) fun e w'=>e=.returned (.tuple #[])/\Wr w' B g keeps (acc++Cu t)/\Below B w1 w'/\Dw g w1 w':=fun w1 hb=>by
  have:=Eb [⟨(Cu t).toArray⟩] 1 (hW.below hb) (by rw[Ft];omega) (by simp)
  rwa [Ft]at this
 have hB:=hW.base;have hlt:=hW.lt;generalize Cu t=L at hj cB ⊢;obtain⟨HJ,CB⟩:=hid2 hj cB;clear hj cB hl hp;go_enter Tryz.func119,Tryz.ntmps119;go_wp2_with (first|(go_at_call 120;refine(CB.out).mono ?_;rintro e w1 ⟨rfl,hb1⟩)|(go_at_call 115;refine(HJ.out _ hb1).mono ?_;rintro e w2 ⟨rfl,h1,h2,h3⟩))
 go_end0
 exact⟨rfl,h1,(hb1.mono (by omega)).trans h2,fun j o hj hg ho=>h3 j o ((hb1.block j (Array.getElem?_eq_some_iff.1 hj).1).trans hj) hg ho⟩
theorem Ko (i:Int) (w:World):Calls Tryz.prog 122 #[.int .i64 i] w fun e w'=>e=.returned (.string ⟨(if i=0 then []else [44]:List UInt8).toArray⟩)/\w=w':=by
 by_cases h:i=0
 . subst h;go_enter Tryz.func122,Tryz.ntmps122;go_wp2;go_ret;exact⟨rfl,rfl⟩
 . have e:(i==0)=false:=by simpa using h
   rw[if_neg h];clear h;go_enter Tryz.func122,Tryz.ntmps122;go_wp2;go_ret;exact⟨rfl,rfl⟩
theorem Ad6 {l:List Val} (h:Wk l) {v:Val} (hv:v ∈ l):Wl v:=by
 induction l with
 |nil=>cases hv
 |cons x r ih=>
  simp only[Wk]at h;rcases List.mem_cons.1 hv with rfl|hv
  . exact h.1
  . exact ih h.2 hv
theorem Y7 {l:List (ByteArray×Val)} (h:Xu l) {m:ByteArray×Val} (hv:m ∈ l):Aw m.1=true/\Wl m.2:=by
 induction l with
 |nil=>cases hv
 |cons x r ih=>
  obtain⟨k,v⟩:=x;simp only[Xu,okP]at h;rcases List.mem_cons.1 hv with rfl|hv
  . exact h.1
  . exact ih h.2 hv
theorem Kj: ∀(l:List Val),(∀v ∈ l,Wl v->(Bx v).length+1<=6*v.bulk)->Wk l-> ∀f,(Ci l f).length<=6*A6 l
 | [],_,_,f=>by simp[Ci]
 |v::r,ih,ho,f=>by
  simp only[Wk]at ho;have h1:=ih v (by simp) ho.1;have h2:=Kj r (fun x hx=>ih x (by simp[hx])) ho.2 false;simp only[Ci,A6,List.length_append]
  split<;>simp<;>omega
theorem Kk: ∀(l:List (ByteArray×Val)),(∀m ∈ l,Wl m.2->(Bx m.2).length+1<=6*m.2.bulk)->Xu l-> ∀f,(Cj l f).length<=6*Ag l
 | [],_,_,f=>by simp[Cj]
 |(k,v)::r,ih,ho,f=>by
  simp only[Xu,okP]at ho;have h1:=ih (k,v) (by simp) ho.1.2;have h2:=Kk r (fun x hx=>ih x (by simp[hx])) ho.2 false;have h3:=Gm k;simp only[Cj,V4,Ag,Ez,List.length_append,List.length_cons];simp only at h1
  split<;>simp<;>omega
theorem Ie: ∀(v:Val),Wl v->(Bx v).length+1<=6*v.bulk:=by
 refine Val.ind ?_;intro k b n t l o hl ho h;simp only[Wl]at h;have h1:=Kj l hl h.2.2.1 true;have h2:=Kk o ho h.2.2.2 true;have h3:=Jn b;have h4:=Lib.itoa_length_le n h.2.1.1 h.2.1.2;have h5:=Gm t;simp only[Bx,Val.bulk]
 repeat' split
 all_goals(try simp only[List.length_cons,List.length_append,List.length_nil])
 all_goals omega
theorem Ll (v:Val): ∀(a:List Val) (f:Bool),Ci (a++ [v]) f=Ci a f++((if f&&a.isEmpty then []else [44])++Bx v)
 | [],f=>by cases f<;>simp[Ci]
 |x::r,f=>by
  simp only[List.cons_append,Ci,Ll v r false];simp[List.append_assoc]
theorem Lm (p:ByteArray×Val): ∀(a:List (ByteArray×Val)) (f:Bool),Cj (a++ [p]) f=Cj a f++((if f&&a.isEmpty then []else [44])++V4 p)
 | [],f=>by cases f<;>simp[Cj]
 |x::r,f=>by
  simp only[List.cons_append,Cj,Lm p r false];simp[List.append_assoc]
theorem Ud {l:List Val} {k:Nat} {v:Val} (h:l[k]? =some v):A6 l=A6 (l.take k)+(v.bulk+A6 (l.drop (k+1))):=by
 have h1: ∀a b:List Val,A6 (a++b)=A6 a+A6 b:=by
  intro a b
  induction a with
  |nil=>simp[A6]
  |cons x r ih=>simp only[List.cons_append,A6,ih];omega
 have h2:l=l.take k++(v::l.drop (k+1)):=by rw[<-B5 h,List.take_append_drop]
 conv=>lhs;rw[h2,h1]
 rfl
theorem Ue {l:List (ByteArray×Val)} {k:Nat} {p:ByteArray×Val} (h:l[k]? =some p):Ag l=Ag (l.take k)+(Ez p+Ag (l.drop (k+1))):=by
 have h1: ∀a b:List (ByteArray×Val),Ag (a++b)=Ag a+Ag b:=by
  intro a b
  induction a with
  |nil=>simp[Ag]
  |cons x r ih=>simp only[List.cons_append,Ag,ih];omega
 have h2:l=l.take k++(p::l.drop (k+1)):=by rw[<-B5 h,List.take_append_drop]
 conv=>lhs;rw[h2,h1]
 rfl
theorem Acu {l:List Val} (h:Wk l) (k:Nat):Wk (l.take k):=by
 induction l generalizing k with
 |nil=>simp[Wk]
 |cons x r ih=>
  cases k with
  |zero=>simp[Wk]
  |succ k=>simp only[Wk]at h;simp only[List.take_succ_cons,Wk];exact⟨h.1,ih h.2 k⟩
theorem Dw.cells {g j:Nat} {A W:World} (h:Dw g A W) {cs:Array Value} {t:TypeId} {fz:Nat×Nat} (hj:A.heap[j]? =some (.cells cs t fz)) (hg:j≠g) (ht:t≠5):W.heap[j]? =some (.cells cs t fz):=
 h j _ hj (by simpa using hg) (fun c fz e=>by injection e with _ e2 _;exact ht e2)
theorem N9 (l:List Val) (IH: ∀v ∈ l,Sf v) (W:World) (B g p:Nat) (h5:5<=B) (keeps:Bool) (acc:List UInt8) (la:Option Addr) (lc:Nat) (v0 v1 v2 v3 v5:Value)
 (hp:W.heap[p]? =some (.cells #[v0,v1,v2,v3,.slice la l.length lc,v5] 33 (0,0)))
 (gl off:Nat) (hla:l= []\/(la=some ⟨gl,off,none⟩/\gl<B/\Ai W B l gl off)) (hT:Ck W) (hpg:p≠g) (hW:Wr W B g keeps acc) (hok:Wk l) (hlen:acc.length+6*(6+A6 l)<=20000000000) (hb:A6 l<=1000000000):
 Calls Tryz.prog 121 #[.pointer (some ⟨g,0,none⟩),.pointer (some ⟨p,0,none⟩)] W fun e W'=>e=.returned (.tuple #[])/\Wr W' B g keeps (acc++91::(Ci l true++ [93]))/\Below B W W'/\Dw g W W':=by
 have hll:l.length<=1000000000:=by have:=Ch l;omega
 have HJ1:=qz (Eb [⟨#[91]⟩] 1 hW (by simp[Dz];omega) (by simp));have HP:=qz hp;go_enter Tryz.func121,Tryz.ntmps121;go_wp2_with (go_at_call 115;refine(HJ1.out).mono ?_;rintro e w1 ⟨rfl,hw1,hb1,hk1⟩;have hp1:=hk1.cells HP.out hpg (by decide);have c4:w1.cell? ⟨p,4,none⟩=some (.slice la l.length lc):=(Lib.cell_of_heap hp1 4).trans rfl);have hw1':Wr w1 B g keeps (acc++91::Ci (l.take 0) true):=by simpa[Dz,Ci]using hw1
 clear c4 hp1 hw1 HJ1;go_loopw [11] (fun i wr=> ∃k:Nat,k<=l.length/\i=.int .i64 k/\Wr wr B g keeps (acc++91::Ci (l.take k) true)/\Below B W wr/\Dw g W wr) (fun i _=>l.length - (intOf i).toNat)
 case atStart=>exact⟨0,Nat.zero_le _,rfl,hw1',hb1,hk1⟩
 case round=>
  obtain⟨k,hk,rfl,hw,hbw,hkw⟩:=hrel;clear hw1' hb1 hk1;have hBg:=hw.base;by_cases hlt:k<l.length
  . obtain⟨rfl,hg,hL⟩:la=some ⟨gl,off,none⟩/\gl<B/\Ai W B l gl off:=by
     rcases hla with rfl|h
     . simp at hlt
     . exact h
    obtain⟨v,hv⟩: ∃v,l[k]? =some v:=⟨_,List.getElem?_eq_getElem hlt⟩;have hmem:v ∈ l:=List.mem_of_getElem? hv;have hsp:=Ud hv;have IHv:=qz (IH v hmem);have hokv:=Ad6 hok hmem;have htk:l.take (k+1)=l.take k++ [v]:=by rw[List.take_add_one,hv];rfl
    have htl:=Kj (l.take k) (fun x _=>Ie x) (Acu hok k) true;have hfin:acc++91::Ci (l.take (k+1)) true=((acc++91::Ci (l.take k) true)++(if(k:Int)=0 then []else [44]))++Bx v:=by
     rw[htk,Ll];have e:((true&&(l.take k).isEmpty)=true) ↔ (k:Int)=0:=by
      rw[Bool.true_and,List.isEmpty_iff];constructor
      . intro h;have:=congrArg List.length h;rw[List.length_take,List.length_nil]at this;omega
      . intro h;have:k=0:=by omega
        subst this;rfl
     by_cases h0:(k:Int)=0
     . rw[if_pos h0,if_pos (e.2 h0)];simp
     . rw[if_neg h0,if_neg (fun h=>h0 (e.1 h))];simp
    have hpos:=v.bulk_pos;have hlenA:(acc++91::Ci (l.take k) true).length+6*(v.bulk+1)<=20000000000:=by
     rw[List.length_append,List.length_cons];omega
    generalize acc++91::Ci (l.take k) true=A at*
    have Hfin:=qz hfin;clear hfin htk htl IH hla;obtain⟨k',b',n',t',l',o'⟩:=v;have hLr:=hL.below hg hbw;obtain⟨la',lc',oa',oc',hvs,c0,c1,c2,c3,c4,c5⟩:=hLr.six hv;clear hL hLr hv hmem hok;obtain⟨wA,hwA⟩: ∃wA,wr.alloc (.cells #[.int .i64 k',.bool b',.int .i64 n',.string t',.slice la' l'.length lc',.slice oa' o'.length oc'] 33)=wA:=⟨_,rfl⟩;have hAw:Below wr.heap.size wr wA:=by rw[<-hwA];exact(Below.refl _ _).alloc (Nat.le_refl _) _
    have hbox:wA.heap[wr.heap.size]? =some (.cells #[.int .i64 k',.bool b',.int .i64 n',.string t',.slice la' l'.length lc',.slice oa' o'.length oc'] 33 (0,0)):=by rw[<-hwA];exact heap_alloc_new _ _
    have hgw:=hw.lt;have HTr:=qz (fun W' (hb':Below B wr W')=>hT.keep (hbw.trans hb') h5);have HVr:=qz (fun W' (hb':Below B wr W')=>hvs.below hb');have hszA:wA.heap.size=wr.heap.size+1:=by rw[<-hwA];simp
    have hj: ∀(S:List UInt8),S.length<=1->Calls Tryz.prog 115 #[.pointer (some ⟨g,0,none⟩),.slice (some ⟨wA.heap.size,0,none⟩) 1 1] (wA.alloc (.cells #[.string ⟨S.toArray⟩] 9 (0,0))) fun e w'=>e=.returned (.tuple #[])/\Wr w' B g keeps (A++S)/\Below B wA w'/\Dw g wA w':=fun S hS=>by
     have:=Eb [⟨S.toArray⟩] 1 (hw.below hAw) (by rw[Ft];omega) (by simp)
     rwa [Ft]at this
    have hj1:=hj (if(k:Int)=0 then []else [44]) (by split<;>simp);have hs2:(if(k:Int)=0 then []else [44]:List UInt8).length<=1:=by split<;>simp
    have cBt:=Ko (k:Int) wA;generalize (if(k:Int)=0 then []else [44]:List UInt8)=S at hj1 hs2 cBt Hfin;rw[hszA]at hj1;subst hwA;obtain⟨HJ,CB⟩:=hid2 hj1 cBt;clear hj1 hj cBt;have HOK:=qz hokv;have ent:=Gw;clear hokv hvs;have HB:=qz hbox;have hne:wr.heap.size≠g:=by omega
    go_wp2_with (first|(go_at_call 122;refine(CB.out).mono ?_;rintro e wx ⟨rfl,rfl⟩)|(go_at_call 115;refine(HJ.out).mono ?_;rintro e w2 ⟨rfl,h1,h2,h3⟩;have hz2:=h1.lt;have hb2:=h3.cells HB.out hne (by decide);have d0:w2.cell? ⟨wr.heap.size,0,none⟩=some (.int .i64 k'):=(Lib.cell_of_heap hb2 0).trans rfl;have d1:w2.cell? ⟨wr.heap.size,1,none⟩=some (.bool b'):=(Lib.cell_of_heap hb2 1).trans rfl;have d2:w2.cell? ⟨wr.heap.size,2,none⟩=some (.int .i64 n'):=(Lib.cell_of_heap hb2 2).trans rfl;have d3:w2.cell? ⟨wr.heap.size,3,none⟩=some (.string t'):=(Lib.cell_of_heap hb2 3).trans rfl;have d4:w2.cell? ⟨wr.heap.size,4,none⟩=some (.slice la' l'.length lc'):=(Lib.cell_of_heap hb2 4).trans rfl;have d5:w2.cell? ⟨wr.heap.size,5,none⟩=some (.slice oa' o'.length oc'):=(Lib.cell_of_heap hb2 5).trans rfl)|(go_at_call 81;refine(Ke k' b' n' t' la' oa' l'.length lc' o'.length oc' w2).mono ?_;rintro e w3 ⟨rfl,rfl⟩)|(go_at_fn (Kn k');refine(IHv.out _ B g w2.heap.size keeps (A++S) (C0 k' b' n' t' la' l'.length lc' oa' o'.length oc') k' b' n' t' l' o' rfl h5 (HTr.out _ ?_) (HVr.out _ ?_) (heap_alloc_new _ _) ?_ (h1.below ((Below.refl _ _).alloc (Nat.le_refl _) _)) HOK.out ?_ ?_).mono ?_;rotate_right;rintro e w4 ⟨rfl,h6,h7,h8⟩));go_roundw
    case rel=>
     refine⟨k+1,by omega,by go_num, ?_,hbw.trans ((((Below.refl B wr).alloc (by omega) _).trans h2).trans (((Below.refl B w2).alloc (by omega) _).trans h7)),(hkw.trans (((Lib.OthersKept.refl _ _ wr).alloc _).trans h3)).trans (((Lib.OthersKept.refl _ _ w2).alloc _).trans h8)⟩;rw[Hfin.out];exact h6
    case measure=>simp[intOf];omega
    . exact(((Below.refl B wr).alloc (by omega) _).trans h2).alloc (by omega) _
    . exact(((Below.refl B wr).alloc (by omega) _).trans h2).alloc (by omega) _
    . omega
    . omega
    . rw[List.length_append];omega
  . obtain rfl:k=l.length:=by omega
    rw[List.take_length]at hw;have htl:=Kj l (fun x _=>Ie x) hok true;have HJ:=qz (Eb [⟨#[93]⟩] 1 hw (by rw[List.length_append,List.length_cons];simp[Dz];omega) (by simp));clear htl hok;have hgw:=hw.lt;have hBg:=hw.base;have e:Dz [⟨#[93]⟩]= [93]:=by simp[Dz]
    go_wp2_with (go_at_call 115;refine(HJ.out).mono ?_;rintro e w2 ⟨rfl,h1,h2,h3⟩)
    go_end0
    rw[e,List.append_assoc,List.cons_append]at h1;exact⟨rfl,h1,hbw.trans h2,hkw.trans h3⟩
end Go.Proofs.YtdbejcbbhomdbaaGreatDoor
