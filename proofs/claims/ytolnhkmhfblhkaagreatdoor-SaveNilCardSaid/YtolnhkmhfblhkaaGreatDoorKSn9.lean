/- Parts: encode.Text, encode.bytes. Condition: a bulk of at most 10^9. -/
import Derived.Lib.ItoaLen
import Derived.Stop.RegionWithIn
import Derived.Shelf.AbstractIn
import Derived.Deep.RegionWith
import Derived.Test.YtolnhkmhfblhkaaGreatDoorKSn7
set_option maxHeartbeats 20000000
set_option maxRecDepth 100000
namespace Go.Proofs.YtolnhkmhfblhkaaGreatDoor
open Go.RowKit
def A6 (s:ByteArray):List UInt8:=34::Ae (B6 s)++ [34]
mutual
def Bi:Val->List UInt8
 | .mk k b n t l o=>
   if k=2 then Lib.formatBool b else if k=3 then Lib.itoa n else if k=4 then A6 t
   else if k=5 then 91::(Bq l true++ [93])else if k=6 then 123::(Br o true++ [125])else [110,117,108,108]
def Bq:List Val->Bool->List UInt8
 | [],_=> []
 |v::r,f=>(if f then []else [44])++(Bi v++Bq r false)
def Br:List (ByteArray×Val)->Bool->List UInt8
 | [],_=> []
 |p::r,f=>(if f then []else [44])++(Ji p++Br r false)
def Ji:ByteArray×Val->List UInt8
 |(key,v)=>A6 key++(58::Bi v)
end
mutual
def Iv:Val->Prop
 | .mk _ _ n t l o=>A7 t=true/\(-9223372036854775808<=n/\n<=9223372036854775807)/\Hc l/\Iu o
def Hc:List Val->Prop
 | []=>True
 |v::r=>Iv v/\Hc r
def Iu:List (ByteArray×Val)->Prop
 | []=>True
 |p::r=>Lz p/\Iu r
def Lz:ByteArray×Val->Prop
 |(key,v)=>A7 key=true/\Iv v
end
def Dg (k:Int):Nat:=
 if k=2 then 59 else if k=3 then 62 else if k=4 then 64 else if k=5 then 66 else if k=6 then 68 else 70
def Bv (k:Int) (p:Nat):Array Value:=
 if k=2\/k=3\/k=4\/k=5\/k=6 then #[.pointer (some ⟨p,0,none⟩)]else #[]
theorem Cu (k:Int) (args:Array Value) (w:World):(callFunc (Dg k) args).run Tryz.prog w=.ok (.enter (Dg k) args) w:=by
 unfold Dg
 split
 . exact enters_of Tryz.func59 (by kernel_rfl) rfl args w
 split
 . exact enters_of Tryz.func62 (by kernel_rfl) rfl args w
 split
 . exact enters_of Tryz.func64 (by kernel_rfl) rfl args w
 split
 . exact enters_of Tryz.func66 (by kernel_rfl) rfl args w
 split
 . exact enters_of Tryz.func68 (by kernel_rfl) rfl args w
 . exact enters_of Tryz.func70 (by kernel_rfl) rfl args w
theorem D0 (k:Int) (b:Bool) (n:Int) (t:ByteArray) (la oa:Option Addr) (ln lc on oc:Nat) (w:World):
 Calls Tryz.prog 34 #[.agg #[.int .i64 k,.bool b,.int .i64 n,.string t,.slice la ln lc,.slice oa on oc]] w fun e w'=>
  e=.returned (.func (.func (Dg k)) #[] (Bv k w.heap.size))/\w.alloc (.cells #[.int .i64 k,.bool b,.int .i64 n,.string t,.slice la ln lc,.slice oa on oc] 57)=w':=by
 rcases(by omega:k=2\/k=3\/k=4\/k=5\/k=6\/(k≠2/\k≠3/\k≠4/\k≠5/\k≠6))with rfl|rfl|rfl|rfl|rfl|⟨h2,h3,h4,h5,h6⟩
 all_goals
  try have e2:(k==2)=false:=by simpa using h2
  try have e3:(k==3)=false:=by simpa using h3
  try have e4:(k==4)=false:=by simpa using h4
  try have e5:(k==5)=false:=by simpa using h5
  try have e6:(k==6)=false:=by simpa using h6
  try have hf:Hid (Dg k=70):=by show _=_;simp[Dg,h2,h3,h4,h5,h6]
  try have hc:Hid (Bv k w.heap.size= #[]):=by show _=_;simp[Bv,h2,h3,h4,h5,h6]
  try clear h2 h3 h4 h5 h6
  go_enter Tryz.func34,Tryz.ntmps34;go_wp2;go_ret
 all_goals first|exact⟨rfl,rfl⟩|exact⟨by rw[hf.out,hc.out];rfl,rfl⟩
def Fv (v:Val):Prop:= ∀(W:World) (B g p:Nat) (keeps:Bool) (acc:List UInt8) (cs:List Value) (k:Int) (b:Bool) (n:Int) (t:ByteArray) (l:List Val) (o:List (ByteArray×Val)),v=.mk k b n t l o->5<=B->A8 W->Ab W B v cs->
    W.heap[p]? =some (.cells cs.toArray 57 (0,0))->p≠g->Wr W B g keeps acc->Iv v->v.bulk<=1000000000->acc.length+6*v.bulk<=20000000000->
    Calls Tryz.prog (Dg k) (#[.pointer (some ⟨g,0,none⟩)]++Bv k p) W fun e W'=>e=.returned (.tuple #[])/\Wr W' B g keeps (acc++Bi v)/\Below B W W'/\A4 g W W'
theorem A8.keep {w w':World} {B:Nat} (h:A8 w) (hb:Below B w w') (h5B:5<=B):A8 w':=by
 obtain⟨h5,⟨h1,h2⟩,h3⟩:=h;refine⟨Nat.le_trans h5 hb.size,⟨fun c hc=> ?_,fun i hi=>⟨?_, ?_⟩⟩, ?_⟩
 . exact(hb.cell (p:=⟨1,c,none⟩) (by show 1<_;omega)).trans (h1 c hc)
 . exact(hb.cell (p:=⟨2,2*i,none⟩) (by show 2<_;omega)).trans (h2 i hi).1
 . exact(hb.cell (p:=⟨2,2*i+1,none⟩) (by show 2<_;omega)).trans (h2 i hi).2
 . have hg:Tryz.prog.globalNamed "internal/strconv.uint64pow10" =some 3:=by kernel_rfl
   unfold Lib.TabIs World.var? at h3 ⊢;rw[hg]at h3 ⊢;simp only[Option.bind_some]at h3 ⊢;rw[hb.block 3 (by omega)];exact h3
theorem Ig (W:World) (k:Nat) (os:Array Obj):Below W.heap.size W (Sort.grow (W.drewN k) os):=
 ⟨rfl,rfl,rfl,by show W.heap.size<=(W.heap++os).size;simp,fun i hi=>by show(W.heap++os)[i]? =W.heap[i]?;rw[Array.getElem?_append_left hi]⟩
theorem Cv (b:Bool):(Lib.formatBool b).length<=5:=by cases b<;>decide
theorem Bp (l:List UInt8):A5 [⟨l.toArray⟩]=l:=by simp[A5]
theorem Ba {B g:Nat} {keeps:Bool} {acc:List UInt8} {w:World} (ss:List ByteArray) (c:Nat) (h:Wr w B g keeps acc) (hlen:acc.length+(A5 ss).length<=50000000000) (hn:ss.length<=1000):
 Calls Tryz.prog 60 #[.pointer (some ⟨g,0,none⟩),.slice (some ⟨w.heap.size,0,none⟩) ss.length c] (w.alloc (.cells (ss.map Value.string).toArray 9 (0,0))) fun e w'=>e=.returned (.tuple #[])/\Wr w' B g keeps (acc++A5 ss)/\Below B w w'/\A4 g w w':=by
 have hlt:=h.lt;have hb:=h.base;refine(Ii B g keeps acc ss w.heap.size c _ (h.below ((Below.refl _ _).alloc (Nat.le_refl _) _)) (heap_alloc_new _ _) (by omega) hlen hn).mono ?_;rintro e w' ⟨rfl,h1,h2,h3⟩;exact⟨rfl,h1,((Below.refl B w).alloc (by omega) _).trans h2,((Lib.OthersKept.refl _ _ w).alloc _).trans h3⟩
theorem G7 (W:World) (B g p:Nat) (keeps:Bool) (acc:List UInt8) (b:Bool) (v2 v3 v4 v5:Value) (k:Value) (hp:W.heap[p]? =some (.cells #[k,.bool b,v2,v3,v4,v5] 57 (0,0)))
 (hW:Wr W B g keeps acc) (hlen:acc.length<=20000000000):
 Calls Tryz.prog 59 #[.pointer (some ⟨g,0,none⟩),.pointer (some ⟨p,0,none⟩)] W fun e W'=>e=.returned (.tuple #[])/\Wr W' B g keeps (acc++Lib.formatBool b)/\Below B W W'/\A4 g W W':=by
 have c1:W.cell? ⟨p,1,none⟩=some (.bool b):=(Lib.cell_of_heap hp 1).trans rfl;have hj:=Ba [⟨(Lib.formatBool b).toArray⟩] 1 hW (by rw[Bp];have:=Cv b;omega) (by simp);rw[Bp]at hj;have cB:=Tryz.strconv_FormatBool b W;generalize Lib.formatBool b=L at hj cB ⊢;obtain⟨HJ,CB⟩:=hid2 hj cB;clear hj cB;go_enter Tryz.func59,Tryz.ntmps59;go_wp2_with (first|(go_at_call 61;refine(CB.out).mono ?_;rintro e wx ⟨rfl,hwx⟩;subst hwx)|(go_at_call 60;refine(HJ.out).mono ?_;rintro e w2 ⟨rfl,h1,h2,h3⟩))
 go_end0
 exact⟨rfl,h1,h2,h3⟩
theorem I8 (W:World) (B g p:Nat) (keeps:Bool) (acc:List UInt8) (n:Int) (v1 v3 v4 v5:Value) (k:Value) (hp:W.heap[p]? =some (.cells #[k,v1,.int .i64 n,v3,v4,v5] 57 (0,0)))
 (hT:A8 W) (hn0: -9223372036854775808<=n) (hn1:n<=9223372036854775807) (_hpg:p≠g) (hW:Wr W B g keeps acc) (hlen:acc.length<=20000000000):
 Calls Tryz.prog 62 #[.pointer (some ⟨g,0,none⟩),.pointer (some ⟨p,0,none⟩)] W fun e W'=>e=.returned (.tuple #[])/\Wr W' B g keeps (acc++Lib.itoa n)/\Below B W W'/\A4 g W W':=by
 have c1:W.cell? ⟨p,2,none⟩=some (.int .i64 n):=(Lib.cell_of_heap hp 2).trans rfl;have hl:=Lib.itoa_length_le n hn0 hn1;have cB:=Tryz.strconv_FormatInt_10 n hn0 hn1 W hT.2.2;have hj: ∀w1,Below W.heap.size W w1->Calls Tryz.prog 60 #[.pointer (some ⟨g,0,none⟩),.slice (some ⟨w1.heap.size,0,none⟩) 1 1] (w1.alloc (.cells #[.string ⟨(Lib.itoa n).toArray⟩] 9 (0,0))) fun e w'=>e=.returned (.tuple #[])/\Wr w' B g keeps (acc++Lib.itoa n)/\Below B w1 w'/\A4 g w1 w':=fun w1 hb=>by
  have:=Ba [⟨(Lib.itoa n).toArray⟩] 1 (hW.below hb) (by rw[Bp];omega) (by simp)
  rwa [Bp]at this
 have hB:=hW.base;have hlt:=hW.lt;generalize Lib.itoa n=L at hj cB ⊢;obtain⟨HJ,CB⟩:=hid2 hj cB;clear hj cB hl hp;go_enter Tryz.func62,Tryz.ntmps62;go_wp2_with (first|(go_at_call 63;refine(CB.out).mono ?_;rintro e w1 ⟨rfl,kk,os,hwx⟩;have hb1:Below W.heap.size W w1:=hwx▸Ig W kk os;clear hwx)|(go_at_call 60;refine(HJ.out _ hb1).mono ?_;rintro e w2 ⟨rfl,h1,h2,h3⟩))
 go_end0
 exact⟨rfl,h1,(hb1.mono (by omega)).trans h2,fun j o hj hg ho=>h3 j o ((hb1.block j (Array.getElem?_eq_some_iff.1 hj).1).trans hj) hg ho⟩
theorem G8 (W:World) (B g:Nat) (keeps:Bool) (acc:List UInt8) (hW:Wr W B g keeps acc) (hlen:acc.length<=20000000000):
 Calls Tryz.prog 70 #[.pointer (some ⟨g,0,none⟩)] W fun e W'=>e=.returned (.tuple #[])/\Wr W' B g keeps (acc++ [110,117,108,108])/\Below B W W'/\A4 g W W':=by
 have HJ:=qz (Ba [⟨#[110,117,108,108]⟩] 1 hW (by simp[A5];omega) (by simp));go_enter Tryz.func70,Tryz.ntmps70;go_wp2_with (go_at_call 60;refine(HJ.out).mono ?_;rintro e w2 ⟨rfl,h1,h2,h3⟩)
 go_end0
 exact⟨rfl,h1,h2,h3⟩
theorem D9 (s:ByteArray) (w:World) (hT:A8 w) (hs:s.size<=1000000000) (hv:A7 s=true):
 Calls Tryz.prog 65 #[.string s] w fun e w'=>e=.returned (.string ⟨(A6 s).toArray⟩)/\Below w.heap.size w w':=by
 have cQ:=Gb s w hT hs hv;unfold A6;generalize 34::Ae (B6 s)++ [34]=L at cQ ⊢;have CQ:=qz cQ;clear cQ;go_enter Tryz.func65,Tryz.ntmps65;go_wp2_with (go_at_call 121;refine(CQ.out).mono ?_;rintro e w2 ⟨rfl,h1⟩);go_ret;exact⟨rfl,h1⟩
theorem B4 (s:ByteArray):(A6 s).length<=6*s.size+2:=by
 have e1:=B5 (B6 s);have e3:=Bm s.size s.data.toList 0;unfold B6 at e1;unfold A6 B6;simp only[List.length_cons,List.length_append,List.length_nil];omega
theorem G9 (W:World) (B g p:Nat) (keeps:Bool) (acc:List UInt8) (t:ByteArray) (v1 v2 v4 v5:Value) (k:Value) (hp:W.heap[p]? =some (.cells #[k,v1,v2,.string t,v4,v5] 57 (0,0)))
 (hT:A8 W) (hv:A7 t=true) (ht:t.size<=1000000000) (_hpg:p≠g) (hW:Wr W B g keeps acc) (hlen:acc.length<=20000000000):
 Calls Tryz.prog 64 #[.pointer (some ⟨g,0,none⟩),.pointer (some ⟨p,0,none⟩)] W fun e W'=>e=.returned (.tuple #[])/\Wr W' B g keeps (acc++A6 t)/\Below B W W'/\A4 g W W':=by
 have c1:W.cell? ⟨p,3,none⟩=some (.string t):=(Lib.cell_of_heap hp 3).trans rfl;have hl:=B4 t;have cB:=D9 t W hT ht hv;have hj: ∀w1,Below W.heap.size W w1->Calls Tryz.prog 60 #[.pointer (some ⟨g,0,none⟩),.slice (some ⟨w1.heap.size,0,none⟩) 1 1] (w1.alloc (.cells #[.string ⟨(A6 t).toArray⟩] 9 (0,0))) fun e w'=>e=.returned (.tuple #[])/\Wr w' B g keeps (acc++A6 t)/\Below B w1 w'/\A4 g w1 w':=fun w1 hb=>by
  have:=Ba [⟨(A6 t).toArray⟩] 1 (hW.below hb) (by rw[Bp];omega) (by simp)
  rwa [Bp]at this
 have hB:=hW.base;have hlt:=hW.lt;generalize A6 t=L at hj cB ⊢;obtain⟨HJ,CB⟩:=hid2 hj cB;clear hj cB hl hp;go_enter Tryz.func64,Tryz.ntmps64;go_wp2_with (first|(go_at_call 65;refine(CB.out).mono ?_;rintro e w1 ⟨rfl,hb1⟩)|(go_at_call 60;refine(HJ.out _ hb1).mono ?_;rintro e w2 ⟨rfl,h1,h2,h3⟩))
 go_end0
 exact⟨rfl,h1,(hb1.mono (by omega)).trans h2,fun j o hj hg ho=>h3 j o ((hb1.block j (Array.getElem?_eq_some_iff.1 hj).1).trans hj) hg ho⟩
theorem C8 (i:Int) (w:World):Calls Tryz.prog 67 #[.int .i64 i] w fun e w'=>e=.returned (.string ⟨(if i=0 then []else [44]:List UInt8).toArray⟩)/\w=w':=by
 by_cases h:i=0
 . subst h;go_enter Tryz.func67,Tryz.ntmps67;go_wp2;go_ret;exact⟨rfl,rfl⟩
 . have e:(i==0)=false:=by simpa using h
   rw[if_neg h];clear h;go_enter Tryz.func67,Tryz.ntmps67;go_wp2;go_ret;exact⟨rfl,rfl⟩
theorem K8 {l:List Val} (h:Hc l) {v:Val} (hv:v ∈ l):Iv v:=by
 induction l with
 |nil=>cases hv
 |cons x r ih=>
  simp only[Hc]at h;rcases List.mem_cons.1 hv with rfl|hv
  . exact h.1
  . exact ih h.2 hv
theorem Je {l:List (ByteArray×Val)} (h:Iu l) {m:ByteArray×Val} (hv:m ∈ l):A7 m.1=true/\Iv m.2:=by
 induction l with
 |nil=>cases hv
 |cons x r ih=>
  obtain⟨k,v⟩:=x;simp only[Iu,Lz]at h;rcases List.mem_cons.1 hv with rfl|hv
  . exact h.1
  . exact ih h.2 hv
theorem C4: ∀(l:List Val),(∀v ∈ l,Iv v->(Bi v).length+1<=6*v.bulk)->Hc l-> ∀f,(Bq l f).length<=6*A9 l
 | [],_,_,f=>by simp[Bq]
 |v::r,ih,ho,f=>by
  simp only[Hc]at ho;have h1:=ih v (by simp) ho.1;have h2:=C4 r (fun x hx=>ih x (by simp[hx])) ho.2 false;simp only[Bq,A9,List.length_append]
  split<;>simp<;>omega
theorem C5: ∀(l:List (ByteArray×Val)),(∀m ∈ l,Iv m.2->(Bi m.2).length+1<=6*m.2.bulk)->Iu l-> ∀f,(Br l f).length<=6*Aw l
 | [],_,_,f=>by simp[Br]
 |(k,v)::r,ih,ho,f=>by
  simp only[Iu,Lz]at ho;have h1:=ih (k,v) (by simp) ho.1.2;have h2:=C5 r (fun x hx=>ih x (by simp[hx])) ho.2 false;have h3:=B4 k;simp only[Br,Ji,Aw,Dl,List.length_append,List.length_cons];simp only at h1
  split<;>simp<;>omega
theorem C6: ∀(v:Val),Iv v->(Bi v).length+1<=6*v.bulk:=by
 refine Val.ind ?_;intro k b n t l o hl ho h;simp only[Iv]at h;have h1:=C4 l hl h.2.2.1 true;have h2:=C5 o ho h.2.2.2 true;have h3:=Cv b;have h4:=Lib.itoa_length_le n h.2.1.1 h.2.1.2;have h5:=B4 t;simp only[Bi,Val.bulk]
 repeat' split
 all_goals(try simp only[List.length_cons,List.length_append,List.length_nil])
 all_goals omega
theorem E7 (v:Val): ∀(a:List Val) (f:Bool),Bq (a++ [v]) f=Bq a f++((if f&&a.isEmpty then []else [44])++Bi v)
 | [],f=>by cases f<;>simp[Bq]
 |x::r,f=>by
  simp only[List.cons_append,Bq,E7 v r false];simp[List.append_assoc]
theorem E8 (p:ByteArray×Val): ∀(a:List (ByteArray×Val)) (f:Bool),Br (a++ [p]) f=Br a f++((if f&&a.isEmpty then []else [44])++Ji p)
 | [],f=>by cases f<;>simp[Br]
 |x::r,f=>by
  simp only[List.cons_append,Br,E8 p r false];simp[List.append_assoc]
theorem Gf {l:List Val} {k:Nat} {v:Val} (h:l[k]? =some v):A9 l=A9 (l.take k)+(v.bulk+A9 (l.drop (k+1))):=by
 have h1: ∀a b:List Val,A9 (a++b)=A9 a+A9 b:=by
  intro a b
  induction a with
  |nil=>simp[A9]
  |cons x r ih=>simp only[List.cons_append,A9,ih];omega
 have h2:l=l.take k++(v::l.drop (k+1)):=by rw[<-Bo h,List.take_append_drop]
 conv=>lhs;rw[h2,h1]
 rfl
theorem Gg {l:List (ByteArray×Val)} {k:Nat} {p:ByteArray×Val} (h:l[k]? =some p):Aw l=Aw (l.take k)+(Dl p+Aw (l.drop (k+1))):=by
 have h1: ∀a b:List (ByteArray×Val),Aw (a++b)=Aw a+Aw b:=by
  intro a b
  induction a with
  |nil=>simp[Aw]
  |cons x r ih=>simp only[List.cons_append,Aw,ih];omega
 have h2:l=l.take k++(p::l.drop (k+1)):=by rw[<-Bo h,List.take_append_drop]
 conv=>lhs;rw[h2,h1]
 rfl
theorem Km {l:List Val} (h:Hc l) (k:Nat):Hc (l.take k):=by
 induction l generalizing k with
 |nil=>simp[Hc]
 |cons x r ih=>
  cases k with
  |zero=>simp[Hc]
  |succ k=>simp only[Hc]at h;simp only[List.take_succ_cons,Hc];exact⟨h.1,ih h.2 k⟩
theorem A4.cells {g j:Nat} {A W:World} (h:A4 g A W) {cs:Array Value} {t:TypeId} {fz:Nat×Nat} (hj:A.heap[j]? =some (.cells cs t fz)) (hg:j≠g) (ht:t≠5):W.heap[j]? =some (.cells cs t fz):=
 h j _ hj (by simpa using hg) (fun c fz e=>by injection e with _ e2 _;exact ht e2)
theorem Ec (l:List Val) (IH: ∀v ∈ l,Fv v) (W:World) (B g p:Nat) (h5:5<=B) (keeps:Bool) (acc:List UInt8) (la:Option Addr) (lc:Nat) (v0 v1 v2 v3 v5:Value)
 (hp:W.heap[p]? =some (.cells #[v0,v1,v2,v3,.slice la l.length lc,v5] 57 (0,0)))
 (gl off:Nat) (hla:l= []\/(la=some ⟨gl,off,none⟩/\gl<B/\Af W B l gl off)) (hT:A8 W) (hpg:p≠g) (hW:Wr W B g keeps acc) (hok:Hc l) (hlen:acc.length+6*(6+A9 l)<=20000000000) (hb:A9 l<=1000000000):
 Calls Tryz.prog 66 #[.pointer (some ⟨g,0,none⟩),.pointer (some ⟨p,0,none⟩)] W fun e W'=>e=.returned (.tuple #[])/\Wr W' B g keeps (acc++91::(Bq l true++ [93]))/\Below B W W'/\A4 g W W':=by
 have hll:l.length<=1000000000:=by have:=Fj l;omega
 have HJ1:=qz (Ba [⟨#[91]⟩] 1 hW (by simp[A5];omega) (by simp));have HP:=qz hp;go_enter Tryz.func66,Tryz.ntmps66;go_wp2_with (go_at_call 60;refine(HJ1.out).mono ?_;rintro e w1 ⟨rfl,hw1,hb1,hk1⟩;have hp1:=hk1.cells HP.out hpg (by decide);have c4:w1.cell? ⟨p,4,none⟩=some (.slice la l.length lc):=(Lib.cell_of_heap hp1 4).trans rfl);have hw1':Wr w1 B g keeps (acc++91::Bq (l.take 0) true):=by simpa[A5,Bq]using hw1
 clear c4 hp1 hw1 HJ1;go_loopw [11] (fun i wr=> ∃k:Nat,k<=l.length/\i=.int .i64 k/\Wr wr B g keeps (acc++91::Bq (l.take k) true)/\Below B W wr/\A4 g W wr) (fun i _=>l.length - (intOf i).toNat)
 case atStart=>exact⟨0,Nat.zero_le _,rfl,hw1',hb1,hk1⟩
 case round=>
  obtain⟨k,hk,rfl,hw,hbw,hkw⟩:=hrel;clear hw1' hb1 hk1;have hBg:=hw.base;by_cases hlt:k<l.length
  . obtain⟨rfl,hg,hL⟩:la=some ⟨gl,off,none⟩/\gl<B/\Af W B l gl off:=by
     rcases hla with rfl|h
     . simp at hlt
     . exact h
    obtain⟨v,hv⟩: ∃v,l[k]? =some v:=⟨_,List.getElem?_eq_getElem hlt⟩;have hmem:v ∈ l:=List.mem_of_getElem? hv;have hsp:=Gf hv;have IHv:=qz (IH v hmem);have hokv:=K8 hok hmem;have htk:l.take (k+1)=l.take k++ [v]:=by rw[List.take_add_one,hv];rfl
    have htl:=C4 (l.take k) (fun x _=>C6 x) (Km hok k) true;have hfin:acc++91::Bq (l.take (k+1)) true=((acc++91::Bq (l.take k) true)++(if(k:Int)=0 then []else [44]))++Bi v:=by
     rw[htk,E7];have e:((true&&(l.take k).isEmpty)=true) ↔ (k:Int)=0:=by
      rw[Bool.true_and,List.isEmpty_iff];constructor
      . intro h;have:=congrArg List.length h;rw[List.length_take,List.length_nil]at this;omega
      . intro h;have:k=0:=by omega
        subst this;rfl
     by_cases h0:(k:Int)=0
     . rw[if_pos h0,if_pos (e.2 h0)];simp
     . rw[if_neg h0,if_neg (fun h=>h0 (e.1 h))];simp
    have hpos:=v.bulk_pos;have hlenA:(acc++91::Bq (l.take k) true).length+6*(v.bulk+1)<=20000000000:=by
     rw[List.length_append,List.length_cons];omega
    generalize acc++91::Bq (l.take k) true=A at*
    have Hfin:=qz hfin;clear hfin htk htl IH hla;obtain⟨k',b',n',t',l',o'⟩:=v;have hLr:=hL.below hg hbw;obtain⟨la',lc',oa',oc',hvs,c0,c1,c2,c3,c4,c5⟩:=hLr.six hv;clear hL hLr hv hmem hok;obtain⟨wA,hwA⟩: ∃wA,wr.alloc (.cells #[.int .i64 k',.bool b',.int .i64 n',.string t',.slice la' l'.length lc',.slice oa' o'.length oc'] 57)=wA:=⟨_,rfl⟩;have hAw:Below wr.heap.size wr wA:=by rw[<-hwA];exact(Below.refl _ _).alloc (Nat.le_refl _) _
    have hbox:wA.heap[wr.heap.size]? =some (.cells #[.int .i64 k',.bool b',.int .i64 n',.string t',.slice la' l'.length lc',.slice oa' o'.length oc'] 57 (0,0)):=by rw[<-hwA];exact heap_alloc_new _ _
    have hgw:=hw.lt;have HTr:=qz (fun W' (hb':Below B wr W')=>hT.keep (hbw.trans hb') h5);have HVr:=qz (fun W' (hb':Below B wr W')=>hvs.below hb');have hszA:wA.heap.size=wr.heap.size+1:=by rw[<-hwA];simp
    have hj: ∀(S:List UInt8),S.length<=1->Calls Tryz.prog 60 #[.pointer (some ⟨g,0,none⟩),.slice (some ⟨wA.heap.size,0,none⟩) 1 1] (wA.alloc (.cells #[.string ⟨S.toArray⟩] 9 (0,0))) fun e w'=>e=.returned (.tuple #[])/\Wr w' B g keeps (A++S)/\Below B wA w'/\A4 g wA w':=fun S hS=>by
     have:=Ba [⟨S.toArray⟩] 1 (hw.below hAw) (by rw[Bp];omega) (by simp)
     rwa [Bp]at this
    have hj1:=hj (if(k:Int)=0 then []else [44]) (by split<;>simp);have hs2:(if(k:Int)=0 then []else [44]:List UInt8).length<=1:=by split<;>simp
    have cBt:=C8 (k:Int) wA;generalize (if(k:Int)=0 then []else [44]:List UInt8)=S at hj1 hs2 cBt Hfin;rw[hszA]at hj1;subst hwA;obtain⟨HJ,CB⟩:=hid2 hj1 cBt;clear hj1 hj cBt;have HOK:=qz hokv;have ent:=Cu;clear hokv hvs;have HB:=qz hbox;have hne:wr.heap.size≠g:=by omega
    go_wp2_with (first|(go_at_call 67;refine(CB.out).mono ?_;rintro e wx ⟨rfl,rfl⟩)|(go_at_call 60;refine(HJ.out).mono ?_;rintro e w2 ⟨rfl,h1,h2,h3⟩;have hz2:=h1.lt;have hb2:=h3.cells HB.out hne (by decide);have d0:w2.cell? ⟨wr.heap.size,0,none⟩=some (.int .i64 k'):=(Lib.cell_of_heap hb2 0).trans rfl;have d1:w2.cell? ⟨wr.heap.size,1,none⟩=some (.bool b'):=(Lib.cell_of_heap hb2 1).trans rfl;have d2:w2.cell? ⟨wr.heap.size,2,none⟩=some (.int .i64 n'):=(Lib.cell_of_heap hb2 2).trans rfl;have d3:w2.cell? ⟨wr.heap.size,3,none⟩=some (.string t'):=(Lib.cell_of_heap hb2 3).trans rfl;have d4:w2.cell? ⟨wr.heap.size,4,none⟩=some (.slice la' l'.length lc'):=(Lib.cell_of_heap hb2 4).trans rfl;have d5:w2.cell? ⟨wr.heap.size,5,none⟩=some (.slice oa' o'.length oc'):=(Lib.cell_of_heap hb2 5).trans rfl)|(go_at_call 34;refine(D0 k' b' n' t' la' oa' l'.length lc' o'.length oc' w2).mono ?_;rintro e w3 ⟨rfl,rfl⟩)|(go_at_fn (Dg k');refine(IHv.out _ B g w2.heap.size keeps (A++S) (Cs k' b' n' t' la' l'.length lc' oa' o'.length oc') k' b' n' t' l' o' rfl h5 (HTr.out _ ?_) (HVr.out _ ?_) (heap_alloc_new _ _) ?_ (h1.below ((Below.refl _ _).alloc (Nat.le_refl _) _)) HOK.out ?_ ?_).mono ?_;rotate_right;rintro e w4 ⟨rfl,h6,h7,h8⟩));go_roundw
    case rel=>
     refine⟨k+1,by omega,by go_num, ?_,hbw.trans ((((Below.refl B wr).alloc (by omega) _).trans h2).trans (((Below.refl B w2).alloc (by omega) _).trans h7)),(hkw.trans (((Lib.OthersKept.refl _ _ wr).alloc _).trans h3)).trans (((Lib.OthersKept.refl _ _ w2).alloc _).trans h8)⟩;rw[Hfin.out];exact h6
    case measure=>simp[intOf];omega
    . exact(((Below.refl B wr).alloc (by omega) _).trans h2).alloc (by omega) _
    . exact(((Below.refl B wr).alloc (by omega) _).trans h2).alloc (by omega) _
    . omega
    . omega
    . rw[List.length_append];omega
  . obtain rfl:k=l.length:=by omega
    rw[List.take_length]at hw;have htl:=C4 l (fun x _=>C6 x) hok true;have HJ:=qz (Ba [⟨#[93]⟩] 1 hw (by rw[List.length_append,List.length_cons];simp[A5];omega) (by simp));clear htl hok;have hgw:=hw.lt;have hBg:=hw.base;have e:A5 [⟨#[93]⟩]= [93]:=by simp[A5]
    go_wp2_with (go_at_call 60;refine(HJ.out).mono ?_;rintro e w2 ⟨rfl,h1,h2,h3⟩)
    go_end0
    rw[e,List.append_assoc,List.cons_append]at h1;exact⟨rfl,h1,hbw.trans h2,hkw.trans h3⟩
attribute [local go_sem] Oper.semAt_some
def Bu:List (ByteArray×Val)->Bool->List (Bool×(ByteArray×Val))
 | [],_=> []
 |p::r,f=>(f,p)::Bu r false
def Val.kind:Val->Int
 | .mk k _ _ _ _ _=>k
def Bb (x:Bool×(ByteArray×Val)):ByteArray:=(⟨(if x.1 then []else [44]:List UInt8).toArray⟩:ByteArray)++⟨(A6 x.2.1).toArray⟩
def Iq (x:Bool×(ByteArray×Val)) (q:Nat):Array Value:=
 #[.string (Bb x),.func (.func (Dg x.2.2.kind)) #[] (Bv x.2.2.kind q)]
def Kb (W0:World) (B G:Nat) (x:Bool×(ByteArray×Val)) (q:Nat) (A:World):Prop:=
 G<q/\ ∃cs,A.heap[q]? =some (.cells cs.toArray 57 (0,0))/\Ab W0 B x.2.2 cs
theorem Fd (oa:Option Addr) (on oc:Nat) (w:World):
 Calls Tryz.prog 69 #[.slice oa on oc] w fun e w'=>e=.returned (.func (.func 122) #[] #[.pointer (some ⟨w.heap.size,0,none⟩)])/\w.alloc (.cells #[.slice oa on oc] 55)=w':=by
 go_enter Tryz.func69,Tryz.ntmps69;go_wp2;go_ret;exact⟨rfl,rfl⟩
theorem Ey (o:List (ByteArray×Val)) (W0:World) (B G p:Nat) (oa:Option Addr) (oc:Nat) (go off:Nat) (h5:5<=B) (hT:A8 W0)
 (hoa:o= []\/(oa=some ⟨go,off,none⟩/\go<B/\Ag W0 B o go off)) (hok:Iu o) (hb:Aw o<=1000000000):
 Ja Tryz.prog 122 #[.pointer (some ⟨p,0,none⟩)] Iq (Kb W0 B G) (Bu o true)
  (fun A=>A.heap[p]? =some (.cells #[.slice oa o.length oc] 55 (0,0))/\Below B W0 A/\G<A.heap.size):=by
 intro n l J W hJn hJb hY h0;have hoo:o.length<=1000000000:=by have:=Dw o;omega
 have hmx:Tryz.prog.follows .mixedOrders=true:=by kernel_rfl
 have hc0:W.cell? ⟨p,0,none⟩=some (.slice oa o.length oc):=(Lib.cell_of_heap (hJb _ _ h0).1 0).trans rfl;refine callsIn_of_wp Tryz.func122 rfl trivial ?_ rfl;simp only[Tryz.ntmps122,List.size_toArray,List.length_cons,List.length_nil,Nat.reduceAdd,Nat.reduceSub,Array.replicate_succ,Array.replicate_zero,List.push_toArray,List.append_toArray,List.nil_append,List.cons_append]
 gi_wp2
 gi_loopw [7] (fun i wr=> ∃(pre:List (Bool×(ByteArray×Val))) (k:Nat),i=.int .i64 k/\k<=o.length/\Hid (Bu o true=pre++Bu (o.drop k) (decide ((k:Int)=0)))/\J pre wr) (fun i _=>o.length - (intOf i).toNat)
 case atStart=>exact⟨[],0,rfl,Nat.zero_le _,rfl,h0⟩
 case round=>
  obtain⟨pre,k,rfl,hk,hr,hJ⟩:=hrel;obtain⟨hp,hbw,hG⟩:=hJb _ _ hJ;by_cases hlt:k<o.length
  . obtain⟨rfl,hg,hO⟩:oa=some ⟨go,off,none⟩/\go<B/\Ag W0 B o go off:=by
     rcases hoa with rfl|h
     . simp at hlt
     . exact h
    obtain⟨m,hm⟩: ∃m,o[k]? =some m:=⟨_,List.getElem?_eq_getElem hlt⟩;have hmem:m ∈ o:=List.mem_of_getElem? hm;have hsp:=Gg hm;have hokm:=Je hok hmem;have HTr:Hid (A8 wr):=hT.keep hbw h5;have hr':=hr.out;rw[Bo hm]at hr';simp only[Bu]at hr';have hk1:decide (((k+1:Nat):Int)=0)=false:=by simp;omega
    obtain⟨key,v⟩:=m;obtain⟨k',b',n',t',l',o'⟩:=v;obtain⟨la',lc',oa',oc',hvs,c0,c1,c2,c3,c4,c5,c6⟩:=hO.seven hm;replace c0:=(hbw.cell (p:=⟨go,off+k*7,none⟩) hg).trans c0;replace c1:=(hbw.cell (p:=⟨go,off+k*7+1,none⟩) hg).trans c1;replace c2:=(hbw.cell (p:=⟨go,off+k*7+2,none⟩) hg).trans c2;replace c3:=(hbw.cell (p:=⟨go,off+k*7+3,none⟩) hg).trans c3;replace c4:=(hbw.cell (p:=⟨go,off+k*7+4,none⟩) hg).trans c4;replace c5:=(hbw.cell (p:=⟨go,off+k*7+5,none⟩) hg).trans c5;replace c6:=(hbw.cell (p:=⟨go,off+k*7+6,none⟩) hg).trans c6;have HY:Hid (∀(A:World) (q:Nat),G<q->A.heap[q]? =some (.cells #[.int .i64 k',.bool b',.int .i64 n',.string t',.slice la' l'.length lc',.slice oa' o'.length oc'] 57 (0,0))->Below wr.heap.size wr A->
     YieldAt Fence.wide n Tryz.prog l #[.string ((⟨(if decide ((k:Int)=0)then []else [44]:List UInt8).toArray⟩:ByteArray)++⟨(A6 key).toArray⟩),.func (.func (Dg k')) #[] (Bv k' q)] A fun e B=>e=.returned (.bool true)/\J (pre++ [(decide ((k:Int)=0),key,.mk k' b' n' t' l' o')]) B):=by
     show ∀_ _,_;intro A q hq hA hb;have hM:Kb W0 B G (decide ((k:Int)=0),key,.mk k' b' n' t' l' o') q A:=⟨hq,Cs k' b' n' t' la' l'.length lc' oa' o'.length oc',hA,hvs⟩;have:=hY pre _ _ q A hr' (hJn _ _ _ hJ hb) hM;simp only[Iq,Bb,Val.kind]at this;exact this
    have Hr2:Hid (Bu o true=(pre++ [(decide ((k:Int)=0),key,.mk k' b' n' t' l' o')])++Bu (o.drop (k+1)) (decide (((k+1:Nat):Int)=0))):=by
     show _=_;rw[hk1,hr'];simp
    have cB: ∀w,Calls Tryz.prog 67 #[.int .i64 k] w fun e w'=>e=.returned (.string ⟨(if decide ((k:Int)=0)then []else [44]:List UInt8).toArray⟩)/\w=w':=by
     intro w;have:=C8 (k:Int) w;simpa only[decide_eq_true_eq]using this
    have hkz:key.size<=1000000000:=by simp only[Dl]at hsp;omega
    have cQ: ∀w,A8 w->Calls Tryz.prog 65 #[.string key] w fun e w'=>e=.returned (.string ⟨(A6 key).toArray⟩)/\Below w.heap.size w w':=fun w hw=>D9 key w hw hkz hokm.1;clear hr hr' hsp hokm hmem hm hO hvs hoa hY hk1 hok;have hS1:(⟨(if decide ((k:Int)=0)then []else [44]:List UInt8).toArray⟩:ByteArray).size<=1:=by
     split<;>simp[ByteArray.size]
    have hS2:(⟨(A6 key).toArray⟩:ByteArray).size<=6000000002:=by
     have:=B4 key;simp only[ByteArray.size,List.size_toArray];omega
    generalize (⟨(if decide ((k:Int)=0)then []else [44]:List UInt8).toArray⟩:ByteArray)=S at HY cB hS1;generalize (⟨(A6 key).toArray⟩:ByteArray)=Q at HY cQ hS2;have hSQ:((S.size:Int)+(Q.size:Int)>9223372036854775807)=False:=by simp;omega
    have hSQ2:((S.size+Q.size:Nat):Int)>IntKind.i64.max ↔ False:=by
     have e:IntKind.i64.max=9223372036854775807:=rfl;simp only[iff_false,e];omega
    obtain⟨CB,CQ⟩:=hid2 cB cQ;clear cB cQ;obtain⟨HJn,HJb,Hbw,HJ,Hp⟩:=hid5 hJn hJb hbw hJ hp;clear hc0 h0 hb hT hJn hJb hmx hbw hJ hp;have hGr:=hG
    gi_wp2
    obtain⟨A,hA⟩: ∃A,wr.alloc (.cells #[.string key,.int .i64 k',.bool b',.int .i64 n',.string t',.slice la' l'.length lc',.slice oa' o'.length oc'] 82)=A:=⟨_,rfl⟩;have hAb:Below wr.heap.size wr A:=by rw[<-hA];exact(Below.refl _ _).alloc (Nat.le_refl _) _
    have hAh:A.heap[wr.heap.size]? =some (.cells #[.string key,.int .i64 k',.bool b',.int .i64 n',.string t',.slice la' l'.length lc',.slice oa' o'.length oc'] 82 (0,0)):=by rw[<-hA];exact heap_alloc_new _ _
    rw[hA];have hAz:=(Array.getElem?_eq_some_iff.1 hAh).1;have hDb:Below wr.heap.size wr A.drew:=Below.drew hAb;have HTD:Hid (A8 A.drew):=HTr.out.keep hDb HTr.out.1;have hDh:A.drew.heap[wr.heap.size]? =some (.cells #[.string key,.int .i64 k',.bool b',.int .i64 n',.string t',.slice la' l'.length lc',.slice oa' o'.length oc'] 82 (0,0)):=hAh;clear hA c0 c1 c2 c3 c4 c5 c6 hAb;have HG:Hid (G<wr.heap.size):=hG;have hmx:Tryz.prog.follows .mixedOrders=true:=by kernel_rfl
    have a0:A.drew.cell? ⟨wr.heap.size,0,none⟩=some (.string key):=(Lib.cell_of_heap hDh 0).trans rfl;have a1:A.drew.cell? ⟨wr.heap.size,1,none⟩=some (.int .i64 k'):=(Lib.cell_of_heap hDh 1).trans rfl;have a2:A.drew.cell? ⟨wr.heap.size,2,none⟩=some (.bool b'):=(Lib.cell_of_heap hDh 2).trans rfl;have a3:A.drew.cell? ⟨wr.heap.size,3,none⟩=some (.int .i64 n'):=(Lib.cell_of_heap hDh 3).trans rfl;have a4:A.drew.cell? ⟨wr.heap.size,4,none⟩=some (.string t'):=(Lib.cell_of_heap hDh 4).trans rfl;have a5:A.drew.cell? ⟨wr.heap.size,5,none⟩=some (.slice la' l'.length lc'):=(Lib.cell_of_heap hDh 5).trans rfl;have a6:A.drew.cell? ⟨wr.heap.size,6,none⟩=some (.slice oa' o'.length oc'):=(Lib.cell_of_heap hDh 6).trans rfl;obtain⟨HDh,HDb⟩:=hid2 hDh hDb;clear hDh hDb hG hAz hAh
    gi_region_with (first|(refine⟨trivial, ?_⟩;gi_at_call 67;refine(callsIn_wide.2 (CB.out _)).mono ?_;rintro e wx ⟨rfl,rfl⟩)|(refine⟨trivial, ?_⟩;gi_at_call 65;refine(callsIn_wide.2 (CQ.out _ HTD.out)).mono ?_;rintro e w2 ⟨rfl,hb2⟩;have HB2:=qz hb2;have d0:=(hb2.block wr.heap.size (Array.getElem?_eq_some_iff.1 HDh.out).1).trans HDh.out;have d1:w2.cell? ⟨wr.heap.size,1,none⟩=some (.int .i64 k'):=(Lib.cell_of_heap d0 1).trans rfl;have d2:w2.cell? ⟨wr.heap.size,2,none⟩=some (.bool b'):=(Lib.cell_of_heap d0 2).trans rfl;have d3:w2.cell? ⟨wr.heap.size,3,none⟩=some (.int .i64 n'):=(Lib.cell_of_heap d0 3).trans rfl;have d4:w2.cell? ⟨wr.heap.size,4,none⟩=some (.string t'):=(Lib.cell_of_heap d0 4).trans rfl;have d5:w2.cell? ⟨wr.heap.size,5,none⟩=some (.slice la' l'.length lc'):=(Lib.cell_of_heap d0 5).trans rfl;have d6:w2.cell? ⟨wr.heap.size,6,none⟩=some (.slice oa' o'.length oc'):=(Lib.cell_of_heap d0 6).trans rfl;clear hb2 d0)|(refine⟨trivial, ?_⟩;gi_at_call 34;refine(callsIn_wide.2 (D0 k' b' n' t' la' oa' l'.length lc' o'.length oc' w2)).mono ?_;rintro e w3 ⟨rfl,rfl⟩;obtain⟨fn,tmps,assign,body,hy,hR⟩:=HY.out (w2.alloc (.cells #[.int .i64 k',.bool b',.int .i64 n',.string t',.slice la' l'.length lc',.slice oa' o'.length oc'] 57)) w2.heap.size (Nat.lt_of_lt_of_le HG.out (HDb.out.trans (HB2.out.mono HDb.out.size)).size) (heap_alloc_new _ _) (((HDb.out.trans (HB2.out.mono HDb.out.size))).alloc (HDb.out.trans (HB2.out.mono HDb.out.size)).size _))|(refine hR.mono ?_;rintro e W3 ⟨rfl,hJ3⟩;clear hy hR))
    all_goals(
     gi_wp2
     go_roundw
     case rel=>exact⟨_,k+1,by go_num,by omega,Hr2,hJ3⟩
     case measure=>simp[intOf];omega)
  . obtain rfl:k=o.length:=by omega
    have hr':=hr.out;rw[List.drop_length]at hr';simp only[Bu,List.append_nil]at hr';have Hr:=qz hr';clear hr hr' hoa hbw hT
    gi_wp2
    go_end0
    exact⟨⟨_,rfl⟩,by rw[Hr.out];exact hJ⟩
attribute [local go_sem] Oper.semAt_some
theorem D7: ∀(o:List (ByteArray×Val)) (f:Bool) {pre:List (Bool×(ByteArray×Val))} {x:Bool×(ByteArray×Val)} {rest:List (Bool×(ByteArray×Val))},Bu o f=pre++x::rest->
 x.1=(f&&(pre.map (·.2)).isEmpty)/\o=pre.map (·.2)++x.2::rest.map (·.2)
 | [],f,pre,x,rest,h=>by simp[Bu]at h
 |p::r,f, [],x,rest,h=>by
  simp only[Bu,List.nil_append,List.cons.injEq]at h;obtain⟨rfl,h⟩:=h;have: ∀(l:List (ByteArray×Val)) (f:Bool),(Bu l f).map (·.2)=l:=by
   intro l
   induction l with
   |nil=>intro f;rfl
   |cons a l ih=>intro f;simp[Bu,ih]
  rw[<-h,this];simp
 |p::r,f,y::pre,x,rest,h=>by
  simp only[Bu,List.cons_append,List.cons.injEq]at h;obtain⟨rfl,h⟩:=h;obtain⟨h1,h2⟩:=D7 r false h;exact⟨by simpa using h1,by simp[<-h2]⟩
theorem Fo: ∀(l:List (ByteArray×Val)) (f:Bool),(Bu l f).map (·.2)=l
 | [],_=>rfl
 |a::l,f=>by simp[Bu,Fo l]
theorem A4.of_below {g:Nat} {A W:World} (h:Below A.heap.size A W):A4 g A W:=fun j _ hj _ _=>(h.block j (Array.getElem?_eq_some_iff.1 hj).1).trans hj
theorem Jf: ∀{a:List (ByteArray×Val)} {b:List (ByteArray×Val)},Iu (a++b)->Iu a
 | [],_,_=>by simp[Iu]
 |x::r,b,h=>by simp only[List.cons_append,Iu]at h ⊢;exact⟨h.1,Jf h.2⟩
theorem Fk: ∀(a:List (ByteArray×Val)) (p:ByteArray×Val) (b:List (ByteArray×Val)),Aw a+Dl p<=Aw (a++p::b)
 | [],p,b=>by simp[Aw]
 |x::r,p,b=>by have:=Fk r p b;simp only[List.cons_append,Aw];omega
def OI (W:World) (B g b pm:Nat) (keeps:Bool) (acc:List UInt8) (sl:Value) (pre:List (Bool×(ByteArray×Val))) (A:World):Prop:=
 Wr A B g keeps (acc++123::Br (pre.map (·.2)) true)/\Below B W A/\A4 g W A/\A.heap[b]? =some (.cells #[.pointer (some ⟨g,0,none⟩)] 93 (0,0))/\A.heap[pm]? =some (.cells #[sl] 55 (0,0))
theorem Db (o:List (ByteArray×Val)) (IH: ∀m ∈ o,Fv m.2) (W:World) (B g p:Nat) (h5:5<=B) (keeps:Bool) (acc:List UInt8) (oa:Option Addr) (oc:Nat) (v0 v1 v2 v3 v4:Value)
 (hp:W.heap[p]? =some (.cells #[v0,v1,v2,v3,v4,.slice oa o.length oc] 57 (0,0)))
 (gl off:Nat) (hoa:o= []\/(oa=some ⟨gl,off,none⟩/\gl<B/\Ag W B o gl off)) (hT:A8 W) (hpg:p≠g) (hW:Wr W B g keeps acc) (hok:Iu o) (hlen:acc.length+6*(6+Aw o)<=20000000000) (hb:Aw o<=1000000000):
 Calls Tryz.prog 68 #[.pointer (some ⟨g,0,none⟩),.pointer (some ⟨p,0,none⟩)] W fun e W'=>e=.returned (.tuple #[])/\Wr W' B g keeps (acc++123::(Br o true++ [125]))/\Below B W W'/\A4 g W W':=by
 have hoo:o.length<=1000000000:=by have:=Dw o;omega
 have hgW:=hW.lt;have hBg:=hW.base;have hpW:=(Array.getElem?_eq_some_iff.1 hp).1;have hW0:Wr (W.alloc (.cells #[.pointer (some ⟨g,0,none⟩)] 93)) B g keeps acc:=hW.below ((Below.refl _ _).alloc (Nat.le_refl _) _);have Hb0:Hid (Below W.heap.size W (W.alloc (.cells #[.pointer (some ⟨g,0,none⟩)] 93))):=(Below.refl _ _).alloc (Nat.le_refl _) _;have hB0:=heap_alloc_new W (.cells #[.pointer (some ⟨g,0,none⟩)] 93);have hz0:(W.alloc (.cells #[.pointer (some ⟨g,0,none⟩)] 93)).heap.size=W.heap.size+1:=by simp
 have hj1:=Ba [⟨#[123]⟩] 1 hW0 (by simp[A5];omega) (by simp);rw[hz0]at hj1;obtain⟨HJ1,HB0,HP,HOA,HIH,HOK,HT⟩:=hid7 hj1 hB0 hp hoa IH hok hT;clear hj1 hB0 hp hoa IH hok hT hW0;refine(callsIn_wide (n:=12)).1 ?_;refine callsIn_of_wp_marks Tryz.func68 rfl trivial ?_ rfl;simp only[Tryz.ntmps68,List.size_toArray,List.length_cons,List.length_nil,Nat.reduceAdd,Nat.reduceSub,Array.replicate_succ,Array.replicate_zero,List.push_toArray,List.append_toArray,List.nil_append,List.cons_append]
 gi_wp2_with (first|(refine⟨trivial, ?_⟩;gi_at_call 60;refine(callsIn_wide.2 HJ1.out).mono ?_;rintro e w1 ⟨rfl,hw1,hb1,hk1⟩;have hp1:=hk1.cells ((Hb0.out.block p hpW).trans HP.out) hpg (by decide);have c5:w1.cell? ⟨p,5,none⟩=some (.slice oa o.length oc):=(Lib.cell_of_heap hp1 5).trans rfl)|(refine⟨trivial, ?_⟩;gi_at_call 69;refine(callsIn_wide.2 (Fd oa o.length oc w1)).mono ?_;rintro e w2 ⟨rfl,hw2⟩))
 have hz1:=hw1.lt;have hbW1:Below B W w1:=(Hb0.out.mono (by omega)).trans hb1;have hkW1:A4 g W w1:=(A4.of_below Hb0.out).trans hk1;have hbx1:=hk1.cells HB0.out (by omega) (by decide);have hs1:=hb1.size;have hWs:W.heap.size<w1.heap.size:=(Array.getElem?_eq_some_iff.1 hbx1).1;have hg2:Below w1.heap.size w1 w2:=hw2▸(Below.refl _ _).alloc (Nat.le_refl _) _;have hpm:w2.heap[w1.heap.size]? =some (.cells #[.slice oa o.length oc] 55 (0,0)):=hw2▸heap_alloc_new _ _;have hbx2:=(hg2.block W.heap.size hWs).trans hbx1;have hW2:Wr w2 B g keeps (acc++123::Br [] true):=by
  have:=hw1.below hg2;simpa[A5,Br]using this
 have hb2:Below B W w2:=hbW1.trans (hg2.mono (by omega));have hk2:A4 g W w2:=hkW1.trans (A4.of_below hg2);have hz2:=(Array.getElem?_eq_some_iff.1 hpm).1;clear hw2 hw1 hb1 hk1 hp1 c5 hbW1 hkW1 hbx1 hg2 hs1;refine Fi (n:=10) (gf:=122) (lb:= #[.pointer (some ⟨w1.heap.size,0,none⟩)]) rfl (enters_of Tryz.func122 (by kernel_rfl) rfl) (Ey o W B g w1.heap.size oa oc gl off h5 HT.out HOA.out HOK.out hb) (fun _ _=>rfl)
  ?hEp (OI W B g W.heap.size w1.heap.size keeps acc (.slice oa o.length oc)) ?hIn ?hIp ?hIb ?h0 ?a1 ?assign ?body ?done
 case assign=>
  intro l x q W K hK;dsimp only[Iq]
  gi_wp2
  exact hK
 case h0=>exact⟨hW2,hb2,hk2,hbx2,hpm⟩
 case hIb=>
  rintro pre A ⟨h1,h2,h3,h4,h6⟩;exact⟨h6,h2,h1.lt⟩
 case hIn=>
  rintro pre A A' ⟨h1,h2,h3,h4,h6⟩ hb';exact⟨h1.below hb',h2.trans (hb'.mono (Nat.le_trans h1.base (Nat.le_of_lt h1.lt))),h3.trans (A4.of_below hb'),(hb'.block _ (Array.getElem?_eq_some_iff.1 h4).1).trans h4,(hb'.block _ (Array.getElem?_eq_some_iff.1 h6).1).trans h6⟩
 case hEp=>
  rintro x q A k u u' ⟨h1,cs,h2,h3⟩ ho hc;refine⟨h1,cs, ?_,h3⟩;rw[World.putObj_heap_other (by rintro rfl;rw[h2]at ho;injection ho with ho;subst ho;simp[Obj.isCells]at hc)];exact h2
 case hIp=>
  rintro pre A k u u' ⟨h1,h2,h3,h4,h6⟩ ho hc hk;refine⟨h1.put ho hc,h2.grown (grownBy_putObj' A k u') (by have:=h2.size;omega) (fun j e=>by cases e;omega),fun j v hj hg hv=> ?_, ?_, ?_⟩
  . have:=(Array.getElem?_eq_some_iff.1 hj).1;rw[World.putObj_heap_other (by omega)];exact h3 j v hj hg hv
  . rw[World.putObj_heap_other (by omega)];exact h4
  . rw[World.putObj_heap_other (by omega)];exact h6
 case body=>
  rintro l pre x rest q A hx ⟨h1,h2,h3,h4,h6⟩ ⟨hq,cs,hqc,hqv⟩ ⟨ds,hds⟩ ⟨rc,hrc⟩;obtain⟨hf,ho⟩:=D7 o true hx;have htl:=C5 (pre.map (·.2)) (fun m _=>C6 m.2) (Jf (ho▸HOK.out)) true;have hbk:Aw (pre.map (·.2))+Dl x.2<=Aw o:=by rw[ho];exact Fk _ _ _
  have hxm:x.2 ∈ o:=by rw[ho];simp
  have hokx:=Je HOK.out hxm;have hsn:Br ((pre++ [x]).map (·.2)) true=Br (pre.map (·.2)) true++((Bb x).data.toList++(58::Bi x.2.2)):=by
   rw[List.map_append,List.map_cons,List.map_nil,E8];obtain⟨f,key,v⟩:=x;simp only at hf;simp only[Ji,Bb,hf];simp[List.append_assoc]
  obtain⟨f,key,v⟩:=x;obtain⟨k',b',n',t',l',o'⟩:=v;have hqk:=B4 key;have hmt:(Bb (f,key,.mk k' b' n' t' l' o')).data.toList.length<=6*key.size+3:=by
   simp only[Bb]
   split<;>simp<;>omega
  simp only[Dl]at hbk;have hfl:A5 [Bb (f,key,.mk k' b' n' t' l' o'),⟨#[58]⟩]=(Bb (f,key,.mk k' b' n' t' l' o')).data.toList++ [58]:=by simp[A5]
  have hlA:(acc++123::Br (pre.map (·.2)) true).length+6*(Val.mk k' b' n' t' l' o').bulk+6*key.size+7<=20000000000:=by
   rw[List.length_append,List.length_cons];omega
  have hqb:(Val.mk k' b' n' t' l' o').bulk<=1000000000:=by omega
  have hM1:((Bb (f,key,.mk k' b' n' t' l' o')).data.toList++ [58]).length=(Bb (f,key,.mk k' b' n' t' l' o')).data.toList.length+1:=by simp
  have IHv:=qz (HIH.out _ hxm);obtain⟨HOKx,Hsn⟩:=hid2 hokx hsn;have hj:=Ba [Bb (f,key,.mk k' b' n' t' l' o'),⟨#[58]⟩] 2 h1 (by rw[hfl];omega) (by simp);rw[hfl]at hj;obtain⟨HJ,HQ,HV⟩:=hid3 hj hqc hqv;have h4c:A.cell? ⟨W.heap.size,0,none⟩=some (.pointer (some ⟨g,0,none⟩)):=(Lib.cell_of_heap h4 0).trans rfl;have H2:=qz h2;have hA:=h1.lt;have hAb:=(Array.getElem?_eq_some_iff.1 h4).1;have hl3:((acc++123::Br (pre.map (fun y:Bool×(ByteArray×Val)=>y.2)) true)++((Bb (f,key,.mk k' b' n' t' l' o')).data.toList++ [58])).length+6*(Val.mk k' b' n' t' l' o').bulk<=20000000000:=by
   rw[List.length_append];omega
  have ent:=Cu;simp only[Val.kind];clear hj hsn hokx hxm ho hf htl hbk hx hfl hqc hqv
  gi_wp2_with (first|(refine⟨trivial, ?_⟩;gi_at_call 60;refine(CallsIn.inRound l (callsIn_wide.2 HJ.out)).mono ?_;rintro e A2 ⟨rfl,g1,g2,g3⟩;have g4:=g3.cells h4 (by omega) (by decide);have g5:A2.cell? ⟨W.heap.size,0,none⟩=some (.pointer (some ⟨g,0,none⟩)):=(Lib.cell_of_heap g4 0).trans rfl)|(refine⟨trivial, ?_⟩;gi_at_fn (Dg k');refine(CallsIn.inRound l (callsIn_wide.2 (IHv.out A2 B g q keeps _ cs k' b' n' t' l' o' rfl h5 (HT.out.keep (H2.out.trans g2) h5) (HV.out.below (H2.out.trans g2)) (g3.cells HQ.out (by omega) (by decide)) (by omega) g1 HOKx.out.2 hqb hl3))).mono ?_;rintro e A3 ⟨rfl,g6,g7,g8⟩))
  have hkk:A4 g A A3:=g3.trans g8;refine⟨?_, ?_, ?_,h2.trans (g2.trans g7),h3.trans hkk,hkk.cells h4 (by omega) (by decide),hkk.cells h6 (by omega) (by decide)⟩
  . exact(hkk _ _ hds (by simp;omega) (fun c fz e=>by cases e)).trans hds.symm
  . exact(hkk _ _ hrc (by simp;omega) (fun c fz e=>by cases e)).trans hrc.symm
  . rw[Hsn.out];simpa[List.append_assoc]using g6
 case done=>
  rintro A ⟨h1,h2,h3,h4,h6⟩ hds;rw[Fo]at h1;have htl:=C5 o (fun m _=>C6 m.2) HOK.out true;have HJ:=qz (Ba [⟨#[125]⟩] 1 h1 (by rw[List.length_append,List.length_cons];simp[A5];omega) (by simp));have h4c:A.cell? ⟨W.heap.size,0,none⟩=some (.pointer (some ⟨g,0,none⟩)):=(Lib.cell_of_heap h4 0).trans rfl;have hA:=h1.lt;have hAb:=(Array.getElem?_eq_some_iff.1 h4).1;have e:A5 [⟨#[125]⟩]= [125]:=by simp[A5]
  clear htl
  gi_wp2_with (refine⟨trivial, ?_⟩;gi_at_call 60;refine(callsIn_wide.2 HJ.out).mono ?_;rintro e A2 ⟨rfl,g1,g2,g3⟩)
  have hd:=g3 _ _ hds (by simp;omega) (fun c fz e=>by cases e);refine⟨by simp,.inl ⟨_,_,rfl,run_takeDeferred hd, ?_⟩⟩;rw[e,List.append_assoc,List.cons_append]at g1;refine⟨_,results_none rfl _ _ _,rfl, ?_⟩;have hbA:=h2.trans g2;refine⟨g1.put hd rfl,hbA.grown (grownBy_putObj' A2 w2.heap.size _) (by have:=hbA.size;omega) (fun j e=>by cases e;omega),fun j v hj hg hv=> ?_⟩;have:=(Array.getElem?_eq_some_iff.1 hj).1;rw[World.putObj_heap_other (by omega)];exact g3 j v (h3 j v hj hg hv) hg hv
theorem I7: ∀v,Fv v:=by
 refine Val.ind ?_;intro k b n t l o IHl IHo W B g p keeps acc cs k' b' n' t' l' o' hv h5 hT hH hp hpg hW hok hbk hlen
 injection hv with e1 e2 e3 e4 e5 e6
 subst e1 e2 e3 e4 e5 e6;simp only[Ab]at hH;obtain⟨la,lc,oa,oc,rfl,hla,hoa⟩:=hH;simp only[Iv]at hok;simp only[Val.bulk]at hbk hlen;by_cases h2:k=2
 . subst h2;exact G7 W B g p keeps acc b _ _ _ _ _ hp hW (by omega)
 by_cases h3:k=3
 . subst h3;exact I8 W B g p keeps acc n _ _ _ _ _ hp hT hok.2.1.1 hok.2.1.2 hpg hW (by omega)
 by_cases h4:k=4
 . subst h4;exact G9 W B g p keeps acc t _ _ _ _ _ hp hT hok.1 (by omega) hpg hW (by omega)
 by_cases h5':k=5
 . subst h5';rcases hla with rfl|⟨gl,off,rfl,hg,hL⟩
   . exact Ec [] IHl W B g p h5 keeps acc la lc _ _ _ _ _ hp 0 0 (.inl rfl) hT hpg hW hok.2.2.1 (by omega) (by omega)
   . exact Ec l IHl W B g p h5 keeps acc _ lc _ _ _ _ _ hp gl off (.inr ⟨rfl,hg,hL⟩) hT hpg hW hok.2.2.1 (by omega) (by omega)
 by_cases h6:k=6
 . subst h6;rcases hoa with rfl|⟨gl,off,rfl,hg,hL⟩
   . exact Db [] IHo W B g p h5 keeps acc oa oc _ _ _ _ _ hp 0 0 (.inl rfl) hT hpg hW hok.2.2.2 (by omega) (by omega)
   . exact Db o IHo W B g p h5 keeps acc _ oc _ _ _ _ _ hp gl off (.inr ⟨rfl,hg,hL⟩) hT hpg hW hok.2.2.2 (by omega) (by omega)
 . have ef:Dg k=70:=by simp[Dg,h2,h3,h4,h5',h6]
   have ec:Bv k p= #[]:=by simp[Bv,h2,h3,h4,h5',h6]
   have et:Bi (.mk k b n t l o)= [110,117,108,108]:=by simp[Bi,h2,h3,h4,h5',h6]
   rw[ef,ec,et];exact G8 W B g keeps acc hW (by omega)
theorem Kl: ∀(l:List Val),(∀v ∈ l,∀d,Bf v d=0->K4 v->Iv v)-> ∀d,Cx l d=0->Lt l->Hc l
 | [],_,_,_,_=>by simp[Hc]
 |v::r,ih,d,h,hi=>by
  simp only[Cx]at h;simp only[Lt]at hi;simp only[Hc]
  split at h
  . rename_i h0;exact⟨ih v (by simp) d h0 hi.1,Kl r (fun x hx=>ih x (by simp[hx])) d h hi.2⟩
  . rename_i h0;exact absurd h h0
theorem Kn: ∀(l:List (ByteArray×Val)),(∀m ∈ l,∀d,Bf m.2 d=0->K4 m.2->Iv m.2)-> ∀last d,Dy l last d=0->Lu l->Iu l
 | [],_,_,_,_,_=>by simp[Iu]
 |(key,v)::r,ih,last,d,h,hi=>by
  simp only[Dy]at h;simp only[Lu,L0]at hi;simp only[Iu,Lz]
  split at h
  . rename_i h0;refine⟨?_,Kn r (fun x hx=>ih x (by simp[hx])) _ d h hi.2⟩;simp only[K6]at h0
    split at h0
    . rename_i hv;refine⟨hv, ?_⟩
      cases last with
      |none=>exact ih (key,v) (by simp) d h0 hi.1
      |some q=>
       simp only at h0
       split at h0
       . cases h0
       . exact ih (key,v) (by simp) d h0 hi.1
    . cases h0
  . rename_i h0;exact absurd h h0
theorem Ln: ∀v d,Bf v d=0->K4 v->Iv v:=by
 refine Val.ind ?_;intro k b n t l o hl ho d h hi;simp only[Bf]at h;simp only[K4]at hi;simp only[Iv]
 split at h
 . cases h
 split at h
 . cases h
 split at h
 . rename_i hv
   split at h
   . rename_i h0;exact⟨hv,hi.1,Kl l hl _ h0 hi.2.1,Kn o ho _ _ h hi.2.2⟩
   . rename_i h0;exact absurd h h0
 . cases h
theorem K5 (n:Int):Lib.itoa n≠ []:=by
 unfold Lib.itoa
 split
 . simp
 . intro h;have:=congrArg List.length h;rw[Lib.decDigits_length]at this;have h1:=Lib.nDigits_pos n.toNat;simp at this;omega
theorem Ky (v:Val):Bi v≠ []:=by
 obtain⟨k,b,n,t,l,o⟩:=v;simp only[Bi]
 split
 . cases b<;>decide
 split
 . intro h;exact K5 n h
 split
 . simp[A6]
 split
 . simp
 split
 . simp
 . simp
theorem Lk (W:World) (B:Nat) (keeps:Bool) (h:B<=W.heap.size):Wr (W.alloc (.cells #[.bool keeps,.pointer none,.slice none 0 0,.int .i64 0] 90)) B W.heap.size keeps []:=
 ⟨.pointer none,.slice none 0 0,h,heap_alloc_new _ _,by decide,by simp,.inl rfl,.slice none 0 0,rfl,by cases keeps<;>exact World.ownsRow_nil _ _ _ _⟩
theorem Ga (k:Int) (b:Bool) (n:Int) (t:ByteArray) (l:List Val) (o:List (ByteArray×Val)) (la oa:Option Addr) (lc oc:Nat) (keeps:Bool) (w:World) (hT:A8 w)
 (hV:Ab w w.heap.size (.mk k b n t l o) (Cs k b n t la l.length lc oa o.length oc)) (hb:(Val.mk k b n t l o).bulk<=1000000000) (hok:Iv (.mk k b n t l o)):
 Calls Tryz.prog (Dg k) (#[.pointer (some ⟨w.heap.size,0,none⟩)]++Bv k (w.heap.size+1))
  ((w.alloc (.cells #[.bool keeps,.pointer none,.slice none 0 0,.int .i64 0] 90)).alloc (.cells #[.int .i64 k,.bool b,.int .i64 n,.string t,.slice la l.length lc,.slice oa o.length oc] 57))
  fun e w'=>e=.returned (.tuple #[])/\Wr w' w.heap.size w.heap.size keeps (Bi (.mk k b n t l o))/\Below w.heap.size w w':=by
 have hw:=I7 (.mk k b n t l o);have h5:=hT.1;have hWA:Wr (w.alloc (.cells #[.bool keeps,.pointer none,.slice none 0 0,.int .i64 0] 90)) w.heap.size w.heap.size keeps []:=Lk w _ keeps (Nat.le_refl _);obtain⟨wA,hA⟩: ∃wA,w.alloc (.cells #[.bool keeps,.pointer none,.slice none 0 0,.int .i64 0] 90)=wA:=⟨_,rfl⟩;have hAb:Below w.heap.size w wA:=hA▸(Below.refl _ _).alloc (Nat.le_refl _) _;have hAz:wA.heap.size=w.heap.size+1:=by rw[<-hA];simp
 rw[hA]at hWA ⊢;have hBb:Below wA.heap.size wA (wA.alloc (.cells #[.int .i64 k,.bool b,.int .i64 n,.string t,.slice la l.length lc,.slice oa o.length oc] 57)):=(Below.refl _ _).alloc (Nat.le_refl _) _;have hAB:Below w.heap.size w (wA.alloc (.cells #[.int .i64 k,.bool b,.int .i64 n,.string t,.slice la l.length lc,.slice oa o.length oc] 57)):=hAb.trans (hBb.mono (by omega));have hc:=hw _ w.heap.size w.heap.size wA.heap.size keeps [] _ k b n t l o rfl h5 (hT.below hAB) (hV.below hAB) (heap_alloc_new wA (.cells #[.int .i64 k,.bool b,.int .i64 n,.string t,.slice la l.length lc,.slice oa o.length oc] 57)) (by omega) (hWA.below hBb) hok hb (by simp;omega);rw[hAz,List.nil_append]at hc;refine hc.mono ?_;rintro e w' ⟨he,h1,h2,h3⟩;exact⟨he,h1,hAB.trans h2⟩
theorem Jn {w:World} {g:Nat} {k:Int} {b:Bool} {n:Int} {t:ByteArray} {x y:Value} (h:w.heap[g]? =some (.cells #[.int .i64 k,.bool b,.int .i64 n,.string t,x,y] 57 (0,0))):
 w.cell? ⟨g,0,none⟩=some (.int .i64 k)/\w.cell? ⟨g,1,none⟩=some (.bool b)/\w.cell? ⟨g,2,none⟩=some (.int .i64 n)/\w.cell? ⟨g,3,none⟩=some (.string t)/\w.cell? ⟨g,4,none⟩=some x/\w.cell? ⟨g,5,none⟩=some y:=by
 refine⟨?_, ?_, ?_, ?_, ?_, ?_⟩<;>(rw[Lib.cell_of_heap h];rfl)
def G5 (v:Val):ByteArray:=if Bf v 1=0 then⟨(Bi v).toArray⟩else⟨#[]⟩
theorem Hd (v:Val) (cs:List Value) (w:World) (hT:A8 w) (hV:Ab w w.heap.size v cs) (hb:v.bulk<=1000000000) (hi:K4 v):
 Calls Tryz.prog 20 #[.agg cs.toArray] w fun e w'=>e=.returned (.tuple #[.string (G5 v),.int .i64 (Bf v 1)])/\Below w.heap.size w w':=by
 have hV':=hV;obtain⟨k,b,n,t,l,o⟩:=v;simp only[Ab]at hV';obtain⟨la,lc,oa,oc,rfl,_,_⟩:=hV';obtain⟨w1,hw1⟩: ∃w1,w.alloc (.cells (Cs k b n t la l.length lc oa o.length oc).toArray 57)=w1:=⟨_,rfl⟩;have hb1:Below w.heap.size w w1:=hw1▸(Below.refl _ _).alloc (Nat.le_refl _) _;have hz1:w1.heap.size=w.heap.size+1:=by rw[<-hw1];simp
 have hbx:w1.heap[w.heap.size]? =some (.cells #[.int .i64 k,.bool b,.int .i64 n,.string t,.slice la l.length lc,.slice oa o.length oc] 57 (0,0)):=by rw[<-hw1];exact heap_alloc_new _ _
 have hT1:=hT.below hb1;have hV1:=Ab.more (hb1.size) _ _ (hV.below hb1);have hM:=Jk _ _ w1 hT1 hV1 hb;obtain⟨HX,HW⟩:=hid2 hbx hb1;by_cases hm:Bf (.mk k b n t l o) 1=0
 . have hok:=Ln _ 1 hm hi;have hB:=fun w' (h:Below w1.heap.size w1 w')=>Ga k b n t l o la oa lc oc true w' (hT1.below h) (Ab.more h.size _ _ (hV1.below h)) hb hok;have hne:=Ky (.mk k b n t l o);have HO:=qz (fun w=>D0 k b n t la oa l.length lc o.length oc w);unfold G5;rw[hm]at hM ⊢;rw[if_pos rfl];generalize Bi (.mk k b n t l o)=L at hB hne ⊢;have ent:=Cu;obtain⟨HB,HM,HZ⟩:=hid3 hB hM hz1;clear hB hM hm hok hi hb hT hV hT1 hV1 hbx hb1 hz1;subst hw1;go_enter Tryz.func20,Tryz.ntmps20;go_wp2_with (first|(go_at_call 33;refine(HM.out).mono ?_;rintro e w2 ⟨rfl,hb2⟩;have hz2:=hb2.size;rw[HZ.out]at hz2;have hlt2:w.heap.size<w2.heap.size:=(by omega);have hbox:w2.heap[w.heap.size]? =some (.cells #[.int .i64 k,.bool b,.int .i64 n,.string t,.slice la l.length lc,.slice oa o.length oc] 57 (0,0)):=(hb2.block _ (by simp)).trans HX.out;obtain⟨d0,d1,d2,d3,d4,d5⟩:=Jn hbox)|(go_at_call 34;refine(HO.out _).mono ?_;rintro e w3 ⟨rfl,rfl⟩)|(go_at_fn (Dg k);refine(HB.out _ hb2).mono ?_;rintro e w4 ⟨rfl,h6,h7⟩;obtain⟨pp,vv,hbld⟩:=h6)|(go_at_call 35;refine(Di _ _ _ _ _ _ _ hbld hne).mono ?_;rintro e w5 ⟨rfl,hb5,hk5⟩));go_ret2;exact⟨rfl,HW.out.trans ((hb2.trans ((h7.trans hb5).mono hb2.size)).mono (by simp))⟩
 . unfold G5;rw[if_neg hm];have hmb:(Bf (.mk k b n t l o) 1==0)=false:=by simpa using hm
   generalize Bf (.mk k b n t l o) 1=m at*
   have HM:=qz hM;clear hM hm hi hb hT hV hT1 hV1 hbx hb1 hz1;subst hw1;go_enter Tryz.func20,Tryz.ntmps20;go_wp2_with (go_at_call 33;refine(HM.out).mono ?_;rintro e w2 ⟨rfl,hb2⟩);go_ret2;exact⟨rfl,HW.out.trans (hb2.mono (by simp))⟩
end Go.Proofs.YtolnhkmhfblhkaaGreatDoor
