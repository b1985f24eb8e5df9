/- Parts: parse.newReader: a reader at the beginning of a text. No condition. Printed by mknewr.py. -/
import Derived.Lib.ItoaLen
import Derived.LoopTactic
import Derived.Deep.Cut
import Derived.Test.YtkmcjfkokoidcaaGreatDoorKFa7
import Derived.Test.YtkmcjfkokoidcaaGreatDoorKFa9
set_option maxHeartbeats 20000000
set_option maxRecDepth 100000
namespace Go.Proofs.YtkmcjfkokoidcaaGreatDoor
open Go.RowKit
def Wr (W:World) (B g:Nat) (keeps:Bool) (acc:List UInt8):Prop:=
 ∃p v,Pj W B g 1 135 #[.bool keeps,p,v,.int .i64 (acc.length:Int)] (if keeps then acc else [])
theorem Aoy:liesAt Tryz.prog Tryz.prog.depth 135 (4 / Tryz.prog.cellsOf 135) 1 133 1=true:=by kernel_rfl
theorem Pj.other {w:World} {B g o:Nat} {t:TypeId} {cs:Array Value} {bs:List UInt8} (h:Pj w B g o t cs bs) (i:Nat) (hi:i≠o) (hi2:i≠o+1) (u:Value):
 Pj (w.setCell ⟨g,i,none⟩ u) B g o t (cs.setIfInBounds i u) bs:=by
 obtain⟨hB,hb,ht,hs,h0,v,h1,hown⟩:=h;refine⟨hB,Jw hb _,ht,by simpa using hs, ?_,v,by rw[Array.getElem?_setIfInBounds,if_neg hi2];exact h1, ?_⟩
 . rw[Array.getElem?_setIfInBounds,if_neg hi];exact h0
 . exact hown.kept (row:=some g) ⟨rfl,rfl,rfl,by simp[World.setCell],fun k _ hk=>Below.heap_setCell _ _ _ _ (fun e=>hk (by simp[e]))⟩ (Or.inr (Lib.ownBlock_ne hown hb ht))
theorem Wr.below {A W:World} {B g:Nat} {k:Bool} {acc:List UInt8} (h:Wr A B g k acc) (hb:Below A.heap.size A W):Wr W B g k acc:=by
 obtain⟨p,v,h⟩:=h;exact⟨p,v,h.keep (Rq hb) (fun k e=>by cases e)⟩
theorem Wr.put {A:World} {B g k:Nat} {b:Bool} {acc:List UInt8} {o o':Obj} (h:Wr A B g b acc) (ho:A.heap[k]? =some o) (hc:o.isCells=false):Wr (A.putObj k o') B g b acc:=by
 obtain⟨p,v,h⟩:=h;exact⟨p,v,h.keep (grownBy_putObj' A k o') (fun j e=>by cases e;exact⟨o,ho,hc⟩)⟩
theorem Wr.lt {A:World} {B g:Nat} {k:Bool} {acc:List UInt8} (h:Wr A B g k acc):g<A.heap.size:=by
 obtain⟨p,v,h⟩:=h;exact h.lt
theorem Wr.base {A:World} {B g:Nat} {k:Bool} {acc:List UInt8} (h:Wr A B g k acc):B<=g:=by
 obtain⟨p,v,h⟩:=h;exact h.1
def Fm (ss:List ByteArray):List UInt8:=ss.flatMap fun s=>s.data.toList
theorem Ahq (ss:List ByteArray) (s:ByteArray):Fm (ss++ [s])=Fm ss++s.data.toList:=by simp[Fm]
theorem Aeq (B g:Nat) (keeps:Bool) (acc:List UInt8) (ss:List ByteArray) (b c:Nat) (w:World) (h:Wr w B g keeps acc) (hp:w.heap[b]? =some (.cells (ss.map Value.string).toArray 9 (0,0))) (hbg:b≠g)
 (hlen:acc.length+(Fm ss).length<=50000000000) (hn:ss.length<=1000):
 Calls Tryz.prog 124 #[.pointer (some ⟨g,0,none⟩),.slice (some ⟨b,0,none⟩) ss.length c] w fun e w'=>e=.returned (.tuple #[])/\Wr w' B g keeps (acc++Fm ss)/\Below B w w'/\Fh g w w':=by
 go_enter Tryz.func124,Tryz.ntmps124;go_wp2;go_loopw [8] (fun i wr=> ∃k:Nat,k<=ss.length/\i=.int .i64 k/\Wr wr B g keeps (acc++Fm (ss.take k))/\Below B w wr/\Fh g w wr) (fun i _=>ss.length - (intOf i).toNat)
 case atStart=>exact⟨0,Nat.zero_le _,rfl,by simpa[Fm]using h,Below.refl _ _,Lib.OthersKept.refl _ _ _⟩
 case round=>
  obtain⟨k,hk,rfl,hw,hb,hkp⟩:=hrel;by_cases hlt:k<ss.length
  . obtain⟨s,hs⟩: ∃s,ss[k]? =some s:=⟨_,List.getElem?_eq_getElem hlt⟩;have htk:ss.take (k+1)=ss.take k++ [s]:=by rw[List.take_add_one,hs];rfl
    have hfl:(Fm ss).length=(Fm (ss.take k)).length+s.size+(Fm (ss.drop (k+1))).length:=by
     have:ss=ss.take k++ [s]++ss.drop (k+1):=by rw[<-htk,List.take_append_drop]
     have h2:=congrArg (fun l=>(Fm l).length) this;simp only[Fm,List.flatMap_append,List.length_append,List.flatMap_cons,List.flatMap_nil,List.append_nil]at h2 ⊢;rw[h2,Lib.size_eq]
    have hpr:=hkp _ _ hp (by simpa using hbg) (fun c fz e=>by cases e);have cp:wr.cell? ⟨b,k,none⟩=some (.string s):=by rw[Lib.cell_of_heap hpr];simp[hs]
    obtain⟨p,v,hbl⟩:=hw;have hbl':=hbl;obtain⟨hB,hbk,ht,_,_,_⟩:=hbl';have g0:wr.cell? ⟨g,0,none⟩=some (.bool keeps):=by rw[Lib.cell_of_heap hbk];rfl
    have g3:wr.cell? ⟨g,3,none⟩=some (.int .i64 ((acc++Fm (ss.take k)).length:Int)):=by rw[Lib.cell_of_heap hbk];rfl
    have f3:wr.frozen? ⟨g,3,none⟩=false:=Lib.frozen_of_heap hbk 3;have hln:(acc++Fm (ss.take k)).length<=50000000000:=by rw[List.length_append];omega
    have hln2:(acc++Fm (ss.take k)).length+s.size<=50000000000:=by rw[List.length_append];omega
    have hz:=hbl.lt;have hfin:acc++Fm (ss.take (k+1))=(acc++Fm (ss.take k))++s.data.toList:=by rw[htk,Ahq,List.append_assoc]
    generalize acc++Fm (ss.take k)=L at*
    have Hfin:=qz hfin;have He:=qz (show((L.length:Int)+(s.size:Int))=((L++s.data.toList).length:Int)from by rw[List.length_append,<-Lib.size_eq];omega);clear hfin hbk htk hfl
    cases keeps
    . have hbs:Pj (wr.setCell ⟨g,3,none⟩ (.int .i64 ((L.length:Int)+(s.size:Int)))) B g 1 135 #[.bool false,p,v,.int .i64 ((L.length:Int)+(s.size:Int))] []:=hbl.other 3 (by omega) (by omega) _;go_wp2;go_roundw
      case rel=>
       refine⟨k+1,by omega,by go_num, ?_,hb.setCell (p:=⟨g,3,none⟩) hB _,hkp.setCell ⟨g,3,none⟩ rfl _⟩;rw[Hfin.out];rw[He.out]at hbs ⊢;exact⟨p,v,hbs⟩
      case measure=>simp[intOf];omega
    . have hbs:Pj (wr.setCell ⟨g,3,none⟩ (.int .i64 ((L.length:Int)+(s.size:Int)))) B g 1 135 #[.bool true,p,v,.int .i64 ((L.length:Int)+(s.size:Int))] L:=hbl.other 3 (by omega) (by omega) _;go_wp2_with (go_at_call 193;refine(Ko B g 1 _ _ L s _ hbs Aoy (by omega) (by simp[World.setCell];omega)).mono ?_;rintro e w2 ⟨rfl,⟨v',hb2⟩,hbw2,hk2⟩);go_roundw
      case rel=>
       refine⟨k+1,by omega,by go_num, ?_,(hb.setCell (p:=⟨g,3,none⟩) hB _).trans hbw2,(hkp.setCell ⟨g,3,none⟩ rfl _).trans hk2⟩;rw[Hfin.out];rw[He.out]at hb2;exact⟨_,v',hb2⟩
      case measure=>simp[intOf];omega
  . obtain rfl:k=ss.length:=by omega
    rw[List.take_length]at hw;have Hw:=qz hw;clear hw;go_wp2
    go_end0
    exact⟨rfl,Hw.out,hb,hkp⟩
def Bl (s:ByteArray):List UInt8:=34::Ae (Bw s)++ [34]
mutual
def Am:Val->List UInt8
 | .mk k b n t l o=>
   if k=2 then Lib.formatBool b else if k=3 then Lib.itoa n else if k=4 then Bl t
   else if k=5 then 91::(Bq l true++ [93])else if k=6 then 123::(Bs o true++ [125])else [110,117,108,108]
def Bq:List Val->Bool->List UInt8
 | [],_=> []
 |v::r,f=>(if f then []else [44])++(Am v++Bq r false)
def Bs:List (ByteArray×Val)->Bool->List UInt8
 | [],_=> []
 |p::r,f=>(if f then []else [44])++(Lq p++Bs r false)
def Lq:ByteArray×Val->List UInt8
 |(key,v)=>Bl key++(58::Am v)
end
mutual
def okV:Val->Prop
 | .mk _ _ n t l o=>A9 t=true/\(-9223372036854775808<=n/\n<=9223372036854775807)/\okL l/\okO o
def okL:List Val->Prop
 | []=>True
 |v::r=>okV v/\okL r
def okO:List (ByteArray×Val)->Prop
 | []=>True
 |p::r=>okP p/\okO r
def okP:ByteArray×Val->Prop
 |(key,v)=>A9 key=true/\okV v
end
def Oi (k:Int):Nat:=
 if k=2 then 123 else if k=3 then 126 else if k=4 then 128 else if k=5 then 130 else if k=6 then 132 else 134
def Ju (k:Int) (p:Nat):Array Value:=
 if k=2\/k=3\/k=4\/k=5\/k=6 then #[.pointer (some ⟨p,0,none⟩)]else #[]
theorem Kq (k:Int) (args:Array Value) (w:World):(callFunc (Oi k) args).run Tryz.prog w=.ok (.enter (Oi k) args) w:=by
 unfold Oi
 split
 . exact enters_of Tryz.func123 (by kernel_rfl) rfl args w
 split
 . exact enters_of Tryz.func126 (by kernel_rfl) rfl args w
 split
 . exact enters_of Tryz.func128 (by kernel_rfl) rfl args w
 split
 . exact enters_of Tryz.func130 (by kernel_rfl) rfl args w
 split
 . exact enters_of Tryz.func132 (by kernel_rfl) rfl args w
 . exact enters_of Tryz.func134 (by kernel_rfl) rfl args w
theorem N9 (k:Int) (b:Bool) (n:Int) (t:ByteArray) (la oa:Option Addr) (ln lc on oc:Nat) (w:World):
 Calls Tryz.prog 74 #[.agg #[.int .i64 k,.bool b,.int .i64 n,.string t,.slice la ln lc,.slice oa on oc]] w fun e w'=>
  e=.returned (.func (.func (Oi k)) #[] (Ju k w.heap.size))/\w.alloc (.cells #[.int .i64 k,.bool b,.int .i64 n,.string t,.slice la ln lc,.slice oa on oc] 37)=w':=by
 rcases(by omega:k=2\/k=3\/k=4\/k=5\/k=6\/(k≠2/\k≠3/\k≠4/\k≠5/\k≠6))with rfl|rfl|rfl|rfl|rfl|⟨h2,h3,h4,h5,h6⟩
 all_goals
  try have e2:(k==2)=false:=by simpa using h2
  try have e3:(k==3)=false:=by simpa using h3
  try have e4:(k==4)=false:=by simpa using h4
  try have e5:(k==5)=false:=by simpa using h5
  try have e6:(k==6)=false:=by simpa using h6
  try have hf:Hid (Oi k=134):=by show _=_;simp[Oi,h2,h3,h4,h5,h6]
  try have hc:Hid (Ju k w.heap.size= #[]):=by show _=_;simp[Ju,h2,h3,h4,h5,h6]
  try clear h2 h3 h4 h5 h6
  go_enter Tryz.func74,Tryz.ntmps74;go_wp2;go_ret
 all_goals first|exact⟨rfl,rfl⟩|exact⟨by rw[hf.out,hc.out];rfl,rfl⟩
def Yp (v:Val):Prop:= ∀(W:World) (B g p:Nat) (keeps:Bool) (acc:List UInt8) (cs:List Value) (k:Int) (b:Bool) (n:Int) (t:ByteArray) (l:List Val) (o:List (ByteArray×Val)),v=.mk k b n t l o->5<=B->Cm W->Ac W B v cs->
    W.heap[p]? =some (.cells cs.toArray 37 (0,0))->p≠g->Wr W B g keeps acc->okV v->v.bulk<=1000000000->acc.length+6*v.bulk<=20000000000->
    Calls Tryz.prog (Oi k) (#[.pointer (some ⟨g,0,none⟩)]++Ju k p) W fun e W'=>e=.returned (.tuple #[])/\Wr W' B g keeps (acc++Am v)/\Below B W W'/\Fh g W W'
theorem Cm.keep {w w':World} {B:Nat} (h:Cm w) (hb:Below B w w') (h5B:5<=B):Cm w':=by
 obtain⟨h5,⟨h1,h2⟩,h3⟩:=h;refine⟨Nat.le_trans h5 hb.size,⟨fun c hc=> ?_,fun i hi=>⟨?_, ?_⟩⟩, ?_⟩
 . exact(hb.cell (p:=⟨1,c,none⟩) (by show 1<_;omega)).trans (h1 c hc)
 . exact(hb.cell (p:=⟨2,2*i,none⟩) (by show 2<_;omega)).trans (h2 i hi).1
 . exact(hb.cell (p:=⟨2,2*i+1,none⟩) (by show 2<_;omega)).trans (h2 i hi).2
 . have hg:Tryz.prog.globalNamed "internal/strconv.uint64pow10" =some 4:=by kernel_rfl
   unfold Lib.TabIs World.var? at h3 ⊢;rw[hg]at h3 ⊢;simp only[Option.bind_some]at h3 ⊢;rw[hb.block 4 (by omega)];exact h3
theorem Aen (W:World) (k:Nat) (os:Array Obj):Below W.heap.size W (Sort.grow (W.drewN k) os):=
 ⟨rfl,rfl,rfl,by show W.heap.size<=(W.heap++os).size;simp,fun i hi=>by show(W.heap++os)[i]? =W.heap[i]?;rw[Array.getElem?_append_left hi]⟩
theorem M6 (b:Bool):(Lib.formatBool b).length<=5:=by cases b<;>decide
theorem Ja (l:List UInt8):Fm [⟨l.toArray⟩]=l:=by simp[Fm]
theorem F9 {B g:Nat} {keeps:Bool} {acc:List UInt8} {w:World} (ss:List ByteArray) (c:Nat) (h:Wr w B g keeps acc) (hlen:acc.length+(Fm ss).length<=50000000000) (hn:ss.length<=1000):
 Calls Tryz.prog 124 #[.pointer (some ⟨g,0,none⟩),.slice (some ⟨w.heap.size,0,none⟩) ss.length c] (w.alloc (.cells (ss.map Value.string).toArray 9 (0,0))) fun e w'=>e=.returned (.tuple #[])/\Wr w' B g keeps (acc++Fm ss)/\Below B w w'/\Fh g w w':=by
 have hlt:=h.lt;have hb:=h.base;refine(Aeq B g keeps acc ss w.heap.size c _ (h.below ((Below.refl _ _).alloc (Nat.le_refl _) _)) (heap_alloc_new _ _) (by omega) hlen hn).mono ?_;rintro e w' ⟨rfl,h1,h2,h3⟩;exact⟨rfl,h1,((Below.refl B w).alloc (by omega) _).trans h2,((Lib.OthersKept.refl _ _ w).alloc _).trans h3⟩
theorem Adn (W:World) (B g p:Nat) (keeps:Bool) (acc:List UInt8) (b:Bool) (v2 v3 v4 v5:Value) (k:Value) (hp:W.heap[p]? =some (.cells #[k,.bool b,v2,v3,v4,v5] 37 (0,0)))
 (hW:Wr W B g keeps acc) (hlen:acc.length<=20000000000):
 Calls Tryz.prog 123 #[.pointer (some ⟨g,0,none⟩),.pointer (some ⟨p,0,none⟩)] W fun e W'=>e=.returned (.tuple #[])/\Wr W' B g keeps (acc++Lib.formatBool b)/\Below B W W'/\Fh g W W':=by
 have c1:W.cell? ⟨p,1,none⟩=some (.bool b):=(Lib.cell_of_heap hp 1).trans rfl;have hj:=F9 [⟨(Lib.formatBool b).toArray⟩] 1 hW (by rw[Ja];have:=M6 b;omega) (by simp);rw[Ja]at hj;have cB:=Tryz.strconv_FormatBool b W;generalize Lib.formatBool b=L at hj cB ⊢;obtain⟨HJ,CB⟩:=hid2 hj cB;clear hj cB;go_enter Tryz.func123,Tryz.ntmps123;go_wp2_with (first|(go_at_call 125;refine(CB.out).mono ?_;rintro e wx ⟨rfl,hwx⟩;subst hwx)|(go_at_call 124;refine(HJ.out).mono ?_;rintro e w2 ⟨rfl,h1,h2,h3⟩))
 go_end0
 exact⟨rfl,h1,h2,h3⟩
theorem Af1 (W:World) (B g p:Nat) (keeps:Bool) (acc:List UInt8) (n:Int) (v1 v3 v4 v5:Value) (k:Value) (hp:W.heap[p]? =some (.cells #[k,v1,.int .i64 n,v3,v4,v5] 37 (0,0)))
 (hT:Cm W) (hn0: -9223372036854775808<=n) (hn1:n<=9223372036854775807) (_hpg:p≠g) (hW:Wr W B g keeps acc) (hlen:acc.length<=20000000000):
 Calls Tryz.prog 126 #[.pointer (some ⟨g,0,none⟩),.pointer (some ⟨p,0,none⟩)] W fun e W'=>e=.returned (.tuple #[])/\Wr W' B g keeps (acc++Lib.itoa n)/\Below B W W'/\Fh g W W':=by
 have c1:W.cell? ⟨p,2,none⟩=some (.int .i64 n):=(Lib.cell_of_heap hp 2).trans rfl;have hl:=Lib.itoa_length_le n hn0 hn1;have cB:=Tryz.strconv_FormatInt_10 n hn0 hn1 W hT.2.2;have hj: ∀w1,Below W.heap.size W w1->Calls Tryz.prog 124 #[.pointer (some ⟨g,0,none⟩),.slice (some ⟨w1.heap.size,0,none⟩) 1 1] (w1.alloc (.cells #[.string ⟨(Lib.itoa n).toArray⟩] 9 (0,0))) fun e w'=>e=.returned (.tuple #[])/\Wr w' B g keeps (acc++Lib.itoa n)/\Below B w1 w'/\Fh g w1 w':=fun w1 hb=>by
  have:=F9 [⟨(Lib.itoa n).toArray⟩] 1 (hW.below hb) (by rw[Ja];omega) (by simp)
  rwa [Ja]at this
 have hB:=hW.base;have hlt:=hW.lt;generalize Lib.itoa n=L at hj cB ⊢;obtain⟨HJ,CB⟩:=hid2 hj cB;clear hj cB hl hp;go_enter Tryz.func126,Tryz.ntmps126;go_wp2_with (first|(go_at_call 127;refine(CB.out).mono ?_;rintro e w1 ⟨rfl,kk,os,hwx⟩;have hb1:Below W.heap.size W w1:=hwx▸Aen W kk os;clear hwx)|(go_at_call 124;refine(HJ.out _ hb1).mono ?_;rintro e w2 ⟨rfl,h1,h2,h3⟩))
 go_end0
 exact⟨rfl,h1,(hb1.mono (by omega)).trans h2,fun j o hj hg ho=>h3 j o ((hb1.block j (Array.getElem?_eq_some_iff.1 hj).1).trans hj) hg ho⟩
theorem Ado (W:World) (B g:Nat) (keeps:Bool) (acc:List UInt8) (hW:Wr W B g keeps acc) (hlen:acc.length<=20000000000):
 Calls Tryz.prog 134 #[.pointer (some ⟨g,0,none⟩)] W fun e W'=>e=.returned (.tuple #[])/\Wr W' B g keeps (acc++ [110,117,108,108])/\Below B W W'/\Fh g W W':=by
 have HJ:=qz (F9 [⟨#[110,117,108,108]⟩] 1 hW (by simp[Fm];omega) (by simp));go_enter Tryz.func134,Tryz.ntmps134;go_wp2_with (go_at_call 124;refine(HJ.out).mono ?_;rintro e w2 ⟨rfl,h1,h2,h3⟩)
 go_end0
 exact⟨rfl,h1,h2,h3⟩
theorem R8 (s:ByteArray) (w:World) (hT:Cm w) (hs:s.size<=1000000000) (hv:A9 s=true):
 Calls Tryz.prog 129 #[.string s] w fun e w'=>e=.returned (.string ⟨(Bl s).toArray⟩)/\Below w.heap.size w w':=by
 have cQ:=Aan s w hT hs hv;unfold Bl;generalize 34::Ae (Bw s)++ [34]=L at cQ ⊢;have CQ:=qz cQ;clear cQ;go_enter Tryz.func129,Tryz.ntmps129;go_wp2_with (go_at_call 196;refine(CQ.out).mono ?_;rintro e w2 ⟨rfl,h1⟩);go_ret;exact⟨rfl,h1⟩
theorem Ke (s:ByteArray):(Bl s).length<=6*s.size+2:=by
 have e1:=G5 (Bw s);have e3:=Gd s.size s.data.toList 0;unfold Bw at e1;unfold Bl Bw;simp only[List.length_cons,List.length_append,List.length_nil];omega
theorem Adp (W:World) (B g p:Nat) (keeps:Bool) (acc:List UInt8) (t:ByteArray) (v1 v2 v4 v5:Value) (k:Value) (hp:W.heap[p]? =some (.cells #[k,v1,v2,.string t,v4,v5] 37 (0,0)))
 (hT:Cm W) (hv:A9 t=true) (ht:t.size<=1000000000) (_hpg:p≠g) (hW:Wr W B g keeps acc) (hlen:acc.length<=20000000000):
 Calls Tryz.prog 128 #[.pointer (some ⟨g,0,none⟩),.pointer (some ⟨p,0,none⟩)] W fun e W'=>e=.returned (.tuple #[])/\Wr W' B g keeps (acc++Bl t)/\Below B W W'/\Fh g W W':=by
 have c1:W.cell? ⟨p,3,none⟩=some (.string t):=(Lib.cell_of_heap hp 3).trans rfl;have hl:=Ke t;have cB:=R8 t W hT ht hv;have hj: ∀w1,Below W.heap.size W w1->Calls Tryz.prog 124 #[.pointer (some ⟨g,0,none⟩),.slice (some ⟨w1.heap.size,0,none⟩) 1 1] (w1.alloc (.cells #[.string ⟨(Bl t).toArray⟩] 9 (0,0))) fun e w'=>e=.returned (.tuple #[])/\Wr w' B g keeps (acc++Bl t)/\Below B w1 w'/\Fh g w1 w':=fun w1 hb=>by
  have:=F9 [⟨(Bl t).toArray⟩] 1 (hW.below hb) (by rw[Ja];omega) (by simp)
  rwa [Ja]at this
 have hB:=hW.base;have hlt:=hW.lt;generalize Bl t=L at hj cB ⊢;obtain⟨HJ,CB⟩:=hid2 hj cB;clear hj cB hl hp;go_enter Tryz.func128,Tryz.ntmps128;go_wp2_with (first|(go_at_call 129;refine(CB.out).mono ?_;rintro e w1 ⟨rfl,hb1⟩)|(go_at_call 124;refine(HJ.out _ hb1).mono ?_;rintro e w2 ⟨rfl,h1,h2,h3⟩))
 go_end0
 exact⟨rfl,h1,(hb1.mono (by omega)).trans h2,fun j o hj hg ho=>h3 j o ((hb1.block j (Array.getElem?_eq_some_iff.1 hj).1).trans hj) hg ho⟩
theorem Oj (i:Int) (w:World):Calls Tryz.prog 131 #[.int .i64 i] w fun e w'=>e=.returned (.string ⟨(if i=0 then []else [44]:List UInt8).toArray⟩)/\w=w':=by
 by_cases h:i=0
 . subst h;go_enter Tryz.func131,Tryz.ntmps131;go_wp2;go_ret;exact⟨rfl,rfl⟩
 . have e:(i==0)=false:=by simpa using h
   rw[if_neg h];clear h;go_enter Tryz.func131,Tryz.ntmps131;go_wp2;go_ret;exact⟨rfl,rfl⟩
abbrev Mw:TypeId:=149
theorem Dz:MKey Tryz.prog 5 (Value.int .u8):=Ak0 Tryz.underlying5
section
variable {α:Type} [DecidableEq α] {f:α->Value} {P:Program} {kt et t:TypeId} {w w':World} {g:Nat} {kv:List (α×Value)}
theorem Bv {a k:α} {v:Value} {r:List (α×Value)} (h:a≠k) (hr:E8 a r=none):E8 a ((k,v)::r)=none:=by
 simp only[E8,if_neg h];exact hr
end
structure NR (s:ByteArray) (w wr:World) (m:Option Nat) (kv:List (Int×Value)):Prop where
 below:Below w.heap.size w wr
 map:De (Value.int .u8) wr (w.heap.size+1) kv
 blk:Aj wr w.heap.size 151 #[.string s,.int .i64 0,.map m]
theorem NR.ins {s:ByteArray} {w wr w':World} {m:Option Nat} {kv kv':List (Int×Value)} (h:NR s w wr m kv) (hM:De (Value.int .u8) w' (w.heap.size+1) kv') (hg:wr.grownBy w' (some (w.heap.size+1))):NR s w w' m kv':=
 ⟨h.below.grown hg h.below.size fun k e=>by have:=Option.some.inj e;omega,hM,h.blk.grown hg (by intro e;have:=Option.some.inj e;omega)⟩
theorem NR.set {s:ByteArray} {w wr:World} {m:Option Nat} {kv:List (Int×Value)} (h:NR s w wr m kv):NR s w (wr.setCell ⟨w.heap.size,2,none⟩ (.map (some (w.heap.size+1)))) (some (w.heap.size+1)) kv:=
 ⟨h.below.setCell (Nat.le_refl _) _,h.map.setCell (by show w.heap.size+1≠w.heap.size;omega) _,by have:=h.blk.set_ 2 (.map (some (w.heap.size+1)));exact this⟩
theorem Al6 (R:Nat): ∀j:Nat,j<10->E8 (48+(j:Int)) ((KV R).take (7+j))=none/\(KV R).take (7+j)++ [(48+(j:Int),Value.func (.func 150) #[.pointer (some ⟨R,0,none⟩)] #[])]=(KV R).take (7+(j+1)):=by
 intro j hj
 match j,hj with
 |0,_|1,_|2,_|3,_|4,_|5,_|6,_|7,_|8,_|9,_=>exact⟨by simp[KV,E8],rfl⟩
theorem Sw (s:ByteArray) (w:World):Calls Tryz.prog 84 #[.string s] w fun e w'=>e=.returned (.pointer (some ⟨w.heap.size,0,none⟩))/\NR s w w' (some (w.heap.size+1)) (KV w.heap.size):=by
 have hmm:=fun W=>run_makeMap (P:=Tryz.prog) Mw W;have hS0:NR s w ((w.alloc (.cells #[.string s,.int .i64 0,.map none] 151)).alloc (.map #[] 0)) none []:=by
  have:=De.new (f:=Value.int .u8) (w.alloc (.cells #[.string s,.int .i64 0,.map none] 151));rw[World.size_alloc]at this;exact⟨((Below.refl _ _).alloc (Nat.le_refl _) _).alloc (by simp) _,this,(Aj.new _ _ _).alloc _⟩
 have HS0:=qz hS0;clear hS0;go_enter Tryz.func84,Tryz.ntmps84;go_upto_region 2 with(fail);go_upto_region 3 with(first
  |(((with_reducible refine D0 rfl (.tmp 9) _ _ Mw rfl Dz Tryz.underlying149 rfl HS0.out.map (k:=110) rfl rfl rfl ?_));intro w1 hM hg hs;have HS1:=qz (HS0.out.ins hM hg);(have r2:=HS1.out.blk.cell 2);(have f2:=HS1.out.blk.frozen 2);(have hlt:=HS1.out.blk.lt);clear hM hg hs HS0)
  |(((with_reducible refine D0 rfl (.tmp 9) _ _ Mw rfl Dz Tryz.underlying149 rfl HS1.out.map (k:=102) rfl rfl (Bv (by decide) rfl) ?_));intro w2 hM hg hs;have HS2:=qz (HS1.out.ins hM hg);(have r2:=HS2.out.blk.cell 2);(have f2:=HS2.out.blk.frozen 2);(have hlt:=HS2.out.blk.lt);clear hM hg hs HS1)
  |(((with_reducible refine D0 rfl (.tmp 9) _ _ Mw rfl Dz Tryz.underlying149 rfl HS2.out.map (k:=116) rfl rfl (Bv (by decide) (Bv (by decide) rfl)) ?_));intro w3 hM hg hs;have HS3:=qz (HS2.out.ins hM hg);(have r2:=HS3.out.blk.cell 2);(have f2:=HS3.out.blk.frozen 2);(have hlt:=HS3.out.blk.lt);clear hM hg hs HS2)
  |(((with_reducible refine D0 rfl (.tmp 9) _ _ Mw rfl Dz Tryz.underlying149 rfl HS3.out.map (k:=34) rfl rfl (Bv (by decide) (Bv (by decide) (Bv (by decide) rfl))) ?_));intro w4 hM hg hs;have HS4:=qz (HS3.out.ins hM hg);(have r2:=HS4.out.blk.cell 2);(have f2:=HS4.out.blk.frozen 2);(have hlt:=HS4.out.blk.lt);clear hM hg hs HS3)
  |(((with_reducible refine D0 rfl (.tmp 9) _ _ Mw rfl Dz Tryz.underlying149 rfl HS4.out.map (k:=91) rfl rfl (Bv (by decide) (Bv (by decide) (Bv (by decide) (Bv (by decide) rfl)))) ?_));intro w5 hM hg hs;have HS5:=qz (HS4.out.ins hM hg);(have r2:=HS5.out.blk.cell 2);(have f2:=HS5.out.blk.frozen 2);(have hlt:=HS5.out.blk.lt);clear hM hg hs HS4)
  |(((with_reducible refine D0 rfl (.tmp 9) _ _ Mw rfl Dz Tryz.underlying149 rfl HS5.out.map (k:=123) rfl rfl (Bv (by decide) (Bv (by decide) (Bv (by decide) (Bv (by decide) (Bv (by decide) rfl))))) ?_));intro w6 hM hg hs;have HS6:=qz (HS5.out.ins hM hg);(have r2:=HS6.out.blk.cell 2);(have f2:=HS6.out.blk.frozen 2);(have hlt:=HS6.out.blk.lt);clear hM hg hs HS5)
  |(((with_reducible refine D0 rfl (.tmp 9) _ _ Mw rfl Dz Tryz.underlying149 rfl HS6.out.map (k:=45) rfl rfl (Bv (by decide) (Bv (by decide) (Bv (by decide) (Bv (by decide) (Bv (by decide) (Bv (by decide) rfl)))))) ?_));intro w7 hM hg hs;have HS7:=qz (HS6.out.ins hM hg);(have r2:=HS7.out.blk.cell 2);(have f2:=HS7.out.blk.frozen 2);(have hlt:=HS7.out.blk.lt);clear hM hg hs HS6))
 have h0:NR s w (w7.setCell ⟨w.heap.size,2,none⟩ (.map (some (w.heap.size+1)))) (some (w.heap.size+1)) ((KV w.heap.size).take (7+0)):=HS7.out.set;generalize w7.setCell ⟨w.heap.size,2,none⟩ (.map (some (w.heap.size+1)))=w8 at h0 ⊢;clear r2 f2 hlt HS7;have H0:=qz h0;clear h0;go_wp2;go_loopw [4] (fun i wr=> ∃j:Nat,i=.int .u8 (48+(j:Int))/\j<=10/\Hid (NR s w wr (some (w.heap.size+1)) ((KV w.heap.size).take (7+j)))) (fun i _=>58 - (intOf i).toNat)
 case atStart=>exact⟨0,rfl,by omega,H0⟩
 case round=>
  obtain⟨j,rfl,hj,hh⟩:=hrel;clear H0;have c2:=hh.out.blk.cell 2;have hlt:=hh.out.blk.lt;by_cases hlt':j<10
  . obtain⟨hn,hk⟩:=Al6 w.heap.size j hlt';have l1:decide ((48:Int)+(j:Int)<=57)=true:=decide_eq_true (by omega);obtain⟨w9,hrun,hM,hg,_⟩:=Nj Dz Tryz.underlying149 hh.out.map hn (Value.func (.func 150) #[.pointer (some ⟨w.heap.size,0,none⟩)] #[]);rw[hk]at hM;have HN:=qz (hh.out.ins hM hg);clear hM hg hh hn hk;go_wp2;go_roundw
    case rel=>exact⟨j+1,by go_num,by omega,HN⟩
    case measure=>simp[intOf];omega
  . obtain rfl:j=10:=by omega
    go_wp2;go_ret;exact⟨rfl,hh.out⟩
end Go.Proofs.YtkmcjfkokoidcaaGreatDoor
