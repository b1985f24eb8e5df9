/- Parts: Maps cell by cell, whatever their elements: an entry stored, an entry looked up. Plain. No condition. -/
import Derived.Lib.ItoaLen
import Derived.Stop.RegionWithIn
import Derived.Maps.OwnSet
import Derived.Test.YtkmcjfkokoidcaaGreatDoorKFa7
set_option maxHeartbeats 20000000
set_option maxRecDepth 100000
namespace Go.Proofs.YtkmcjfkokoidcaaGreatDoor
open Go.RowKit
def Wr (W:World) (B g:Nat) (keeps:Bool) (acc:List UInt8):Prop:=
 ∃p v,Pi W B g 1 135 #[.bool keeps,p,v,.int .i64 (acc.length:Int)] (if keeps then acc else [])
theorem Aox:liesAt Tryz.prog Tryz.prog.depth 135 (4 / Tryz.prog.cellsOf 135) 1 133 1=true:=by kernel_rfl
theorem Pi.other {w:World} {B g o:Nat} {t:TypeId} {cs:Array Value} {bs:List UInt8} (h:Pi w B g o t cs bs) (i:Nat) (hi:i≠o) (hi2:i≠o+1) (u:Value):
 Pi (w.setCell ⟨g,i,none⟩ u) B g o t (cs.setIfInBounds i u) bs:=by
 obtain⟨hB,hb,ht,hs,h0,v,h1,hown⟩:=h;refine⟨hB,Jy hb _,ht,by simpa using hs, ?_,v,by rw[Array.getElem?_setIfInBounds,if_neg hi2];exact h1, ?_⟩
 . rw[Array.getElem?_setIfInBounds,if_neg hi];exact h0
 . exact hown.kept (row:=some g) ⟨rfl,rfl,rfl,by simp[World.setCell],fun k _ hk=>Below.heap_setCell _ _ _ _ (fun e=>hk (by simp[e]))⟩ (Or.inr (Lib.ownBlock_ne hown hb ht))
theorem Wr.below {A W:World} {B g:Nat} {k:Bool} {acc:List UInt8} (h:Wr A B g k acc) (hb:Below A.heap.size A W):Wr W B g k acc:=by
 obtain⟨p,v,h⟩:=h;exact⟨p,v,h.keep (Rp hb) (fun k e=>by cases e)⟩
theorem Wr.put {A:World} {B g k:Nat} {b:Bool} {acc:List UInt8} {o o':Obj} (h:Wr A B g b acc) (ho:A.heap[k]? =some o) (hc:o.isCells=false):Wr (A.putObj k o') B g b acc:=by
 obtain⟨p,v,h⟩:=h;exact⟨p,v,h.keep (grownBy_putObj' A k o') (fun j e=>by cases e;exact⟨o,ho,hc⟩)⟩
theorem Wr.lt {A:World} {B g:Nat} {k:Bool} {acc:List UInt8} (h:Wr A B g k acc):g<A.heap.size:=by
 obtain⟨p,v,h⟩:=h;exact h.lt
theorem Wr.base {A:World} {B g:Nat} {k:Bool} {acc:List UInt8} (h:Wr A B g k acc):B<=g:=by
 obtain⟨p,v,h⟩:=h;exact h.1
def Fm (ss:List ByteArray):List UInt8:=ss.flatMap fun s=>s.data.toList
theorem Ahp (ss:List ByteArray) (s:ByteArray):Fm (ss++ [s])=Fm ss++s.data.toList:=by simp[Fm]
theorem Aep (B g:Nat) (keeps:Bool) (acc:List UInt8) (ss:List ByteArray) (b c:Nat) (w:World) (h:Wr w B g keeps acc) (hp:w.heap[b]? =some (.cells (ss.map Value.string).toArray 9 (0,0))) (hbg:b≠g)
 (hlen:acc.length+(Fm ss).length<=50000000000) (hn:ss.length<=1000):
 Calls Tryz.prog 124 #[.pointer (some ⟨g,0,none⟩),.slice (some ⟨b,0,none⟩) ss.length c] w fun e w'=>e=.returned (.tuple #[])/\Wr w' B g keeps (acc++Fm ss)/\Below B w w'/\Fh g w w':=by
 go_enter Tryz.func124,Tryz.ntmps124;go_wp2;go_loopw [8] (fun i wr=> ∃k:Nat,k<=ss.length/\i=.int .i64 k/\Wr wr B g keeps (acc++Fm (ss.take k))/\Below B w wr/\Fh g w wr) (fun i _=>ss.length - (intOf i).toNat)
 case atStart=>exact⟨0,Nat.zero_le _,rfl,by simpa[Fm]using h,Below.refl _ _,Lib.OthersKept.refl _ _ _⟩
 case round=>
  obtain⟨k,hk,rfl,hw,hb,hkp⟩:=hrel;by_cases hlt:k<ss.length
  . obtain⟨s,hs⟩: ∃s,ss[k]? =some s:=⟨_,List.getElem?_eq_getElem hlt⟩;have htk:ss.take (k+1)=ss.take k++ [s]:=by rw[List.take_add_one,hs];rfl
    have hfl:(Fm ss).length=(Fm (ss.take k)).length+s.size+(Fm (ss.drop (k+1))).length:=by
     have:ss=ss.take k++ [s]++ss.drop (k+1):=by rw[<-htk,List.take_append_drop]
     have h2:=congrArg (fun l=>(Fm l).length) this;simp only[Fm,List.flatMap_append,List.length_append,List.flatMap_cons,List.flatMap_nil,List.append_nil]at h2 ⊢;rw[h2,Lib.size_eq]
    have hpr:=hkp _ _ hp (by simpa using hbg) (fun c fz e=>by cases e);have cp:wr.cell? ⟨b,k,none⟩=some (.string s):=by rw[Lib.cell_of_heap hpr];simp[hs]
    obtain⟨p,v,hbl⟩:=hw;have hbl':=hbl;obtain⟨hB,hbk,ht,_,_,_⟩:=hbl';have g0:wr.cell? ⟨g,0,none⟩=some (.bool keeps):=by rw[Lib.cell_of_heap hbk];rfl
    have g3:wr.cell? ⟨g,3,none⟩=some (.int .i64 ((acc++Fm (ss.take k)).length:Int)):=by rw[Lib.cell_of_heap hbk];rfl
    have f3:wr.frozen? ⟨g,3,none⟩=false:=Lib.frozen_of_heap hbk 3;have hln:(acc++Fm (ss.take k)).length<=50000000000:=by rw[List.length_append];omega
    have hln2:(acc++Fm (ss.take k)).length+s.size<=50000000000:=by rw[List.length_append];omega
    have hz:=hbl.lt;have hfin:acc++Fm (ss.take (k+1))=(acc++Fm (ss.take k))++s.data.toList:=by rw[htk,Ahp,List.append_assoc]
    generalize acc++Fm (ss.take k)=L at*
    have Hfin:=qz hfin;have He:=qz (show((L.length:Int)+(s.size:Int))=((L++s.data.toList).length:Int)from by rw[List.length_append,<-Lib.size_eq];omega);clear hfin hbk htk hfl
    cases keeps
    . have hbs:Pi (wr.setCell ⟨g,3,none⟩ (.int .i64 ((L.length:Int)+(s.size:Int)))) B g 1 135 #[.bool false,p,v,.int .i64 ((L.length:Int)+(s.size:Int))] []:=hbl.other 3 (by omega) (by omega) _;go_wp2;go_roundw
      case rel=>
       refine⟨k+1,by omega,by go_num, ?_,hb.setCell (p:=⟨g,3,none⟩) hB _,hkp.setCell ⟨g,3,none⟩ rfl _⟩;rw[Hfin.out];rw[He.out]at hbs ⊢;exact⟨p,v,hbs⟩
      case measure=>simp[intOf];omega
    . have hbs:Pi (wr.setCell ⟨g,3,none⟩ (.int .i64 ((L.length:Int)+(s.size:Int)))) B g 1 135 #[.bool true,p,v,.int .i64 ((L.length:Int)+(s.size:Int))] L:=hbl.other 3 (by omega) (by omega) _;go_wp2_with (go_at_call 193;refine(Kp B g 1 _ _ L s _ hbs Aox (by omega) (by simp[World.setCell];omega)).mono ?_;rintro e w2 ⟨rfl,⟨v',hb2⟩,hbw2,hk2⟩);go_roundw
      case rel=>
       refine⟨k+1,by omega,by go_num, ?_,(hb.setCell (p:=⟨g,3,none⟩) hB _).trans hbw2,(hkp.setCell ⟨g,3,none⟩ rfl _).trans hk2⟩;rw[Hfin.out];rw[He.out]at hb2;exact⟨_,v',hb2⟩
      case measure=>simp[intOf];omega
  . obtain rfl:k=ss.length:=by omega
    rw[List.take_length]at hw;have Hw:=qz hw;clear hw;go_wp2
    go_end0
    exact⟨rfl,Hw.out,hb,hkp⟩
def Bl (s:ByteArray):List UInt8:=34::Ae (Bw s)++ [34]
mutual
def Am:Val->List UInt8
 | .mk k b n t l o=>
   if k=2 then Lib.formatBool b else if k=3 then Lib.itoa n else if k=4 then Bl t
   else if k=5 then 91::(Bq l true++ [93])else if k=6 then 123::(Bs o true++ [125])else [110,117,108,108]
def Bq:List Val->Bool->List UInt8
 | [],_=> []
 |v::r,f=>(if f then []else [44])++(Am v++Bq r false)
def Bs:List (ByteArray×Val)->Bool->List UInt8
 | [],_=> []
 |p::r,f=>(if f then []else [44])++(Lq p++Bs r false)
def Lq:ByteArray×Val->List UInt8
 |(key,v)=>Bl key++(58::Am v)
end
mutual
def okV:Val->Prop
 | .mk _ _ n t l o=>A9 t=true/\(-9223372036854775808<=n/\n<=9223372036854775807)/\okL l/\okO o
def okL:List Val->Prop
 | []=>True
 |v::r=>okV v/\okL r
def okO:List (ByteArray×Val)->Prop
 | []=>True
 |p::r=>okP p/\okO r
def okP:ByteArray×Val->Prop
 |(key,v)=>A9 key=true/\okV v
end
def Oh (k:Int):Nat:=
 if k=2 then 123 else if k=3 then 126 else if k=4 then 128 else if k=5 then 130 else if k=6 then 132 else 134
def Jv (k:Int) (p:Nat):Array Value:=
 if k=2\/k=3\/k=4\/k=5\/k=6 then #[.pointer (some ⟨p,0,none⟩)]else #[]
theorem Kr (k:Int) (args:Array Value) (w:World):(callFunc (Oh k) args).run Tryz.prog w=.ok (.enter (Oh k) args) w:=by
 unfold Oh
 split
 . exact enters_of Tryz.func123 (by kernel_rfl) rfl args w
 split
 . exact enters_of Tryz.func126 (by kernel_rfl) rfl args w
 split
 . exact enters_of Tryz.func128 (by kernel_rfl) rfl args w
 split
 . exact enters_of Tryz.func130 (by kernel_rfl) rfl args w
 split
 . exact enters_of Tryz.func132 (by kernel_rfl) rfl args w
 . exact enters_of Tryz.func134 (by kernel_rfl) rfl args w
theorem N8 (k:Int) (b:Bool) (n:Int) (t:ByteArray) (la oa:Option Addr) (ln lc on oc:Nat) (w:World):
 Calls Tryz.prog 74 #[.agg #[.int .i64 k,.bool b,.int .i64 n,.string t,.slice la ln lc,.slice oa on oc]] w fun e w'=>
  e=.returned (.func (.func (Oh k)) #[] (Jv k w.heap.size))/\w.alloc (.cells #[.int .i64 k,.bool b,.int .i64 n,.string t,.slice la ln lc,.slice oa on oc] 37)=w':=by
 rcases(by omega:k=2\/k=3\/k=4\/k=5\/k=6\/(k≠2/\k≠3/\k≠4/\k≠5/\k≠6))with rfl|rfl|rfl|rfl|rfl|⟨h2,h3,h4,h5,h6⟩
 all_goals
  try have e2:(k==2)=false:=by simpa using h2
  try have e3:(k==3)=false:=by simpa using h3
  try have e4:(k==4)=false:=by simpa using h4
  try have e5:(k==5)=false:=by simpa using h5
  try have e6:(k==6)=false:=by simpa using h6
  try have hf:Hid (Oh k=134):=by show _=_;simp[Oh,h2,h3,h4,h5,h6]
  try have hc:Hid (Jv k w.heap.size= #[]):=by show _=_;simp[Jv,h2,h3,h4,h5,h6]
  try clear h2 h3 h4 h5 h6
  go_enter Tryz.func74,Tryz.ntmps74;go_wp2;go_ret
 all_goals first|exact⟨rfl,rfl⟩|exact⟨by rw[hf.out,hc.out];rfl,rfl⟩
def Yo (v:Val):Prop:= ∀(W:World) (B g p:Nat) (keeps:Bool) (acc:List UInt8) (cs:List Value) (k:Int) (b:Bool) (n:Int) (t:ByteArray) (l:List Val) (o:List (ByteArray×Val)),v=.mk k b n t l o->5<=B->Cm W->Ac W B v cs->
    W.heap[p]? =some (.cells cs.toArray 37 (0,0))->p≠g->Wr W B g keeps acc->okV v->v.bulk<=1000000000->acc.length+6*v.bulk<=20000000000->
    Calls Tryz.prog (Oh k) (#[.pointer (some ⟨g,0,none⟩)]++Jv k p) W fun e W'=>e=.returned (.tuple #[])/\Wr W' B g keeps (acc++Am v)/\Below B W W'/\Fh g W W'
theorem Cm.keep {w w':World} {B:Nat} (h:Cm w) (hb:Below B w w') (h5B:5<=B):Cm w':=by
 obtain⟨h5,⟨h1,h2⟩,h3⟩:=h;refine⟨Nat.le_trans h5 hb.size,⟨fun c hc=> ?_,fun i hi=>⟨?_, ?_⟩⟩, ?_⟩
 . exact(hb.cell (p:=⟨1,c,none⟩) (by show 1<_;omega)).trans (h1 c hc)
 . exact(hb.cell (p:=⟨2,2*i,none⟩) (by show 2<_;omega)).trans (h2 i hi).1
 . exact(hb.cell (p:=⟨2,2*i+1,none⟩) (by show 2<_;omega)).trans (h2 i hi).2
 . have hg:Tryz.prog.globalNamed "internal/strconv.uint64pow10" =some 4:=by kernel_rfl
   unfold Lib.TabIs World.var? at h3 ⊢;rw[hg]at h3 ⊢;simp only[Option.bind_some]at h3 ⊢;rw[hb.block 4 (by omega)];exact h3
theorem Aem (W:World) (k:Nat) (os:Array Obj):Below W.heap.size W (Sort.grow (W.drewN k) os):=
 ⟨rfl,rfl,rfl,by show W.heap.size<=(W.heap++os).size;simp,fun i hi=>by show(W.heap++os)[i]? =W.heap[i]?;rw[Array.getElem?_append_left hi]⟩
theorem M6 (b:Bool):(Lib.formatBool b).length<=5:=by cases b<;>decide
theorem Jb (l:List UInt8):Fm [⟨l.toArray⟩]=l:=by simp[Fm]
theorem Ga {B g:Nat} {keeps:Bool} {acc:List UInt8} {w:World} (ss:List ByteArray) (c:Nat) (h:Wr w B g keeps acc) (hlen:acc.length+(Fm ss).length<=50000000000) (hn:ss.length<=1000):
 Calls Tryz.prog 124 #[.pointer (some ⟨g,0,none⟩),.slice (some ⟨w.heap.size,0,none⟩) ss.length c] (w.alloc (.cells (ss.map Value.string).toArray 9 (0,0))) fun e w'=>e=.returned (.tuple #[])/\Wr w' B g keeps (acc++Fm ss)/\Below B w w'/\Fh g w w':=by
 have hlt:=h.lt;have hb:=h.base;refine(Aep B g keeps acc ss w.heap.size c _ (h.below ((Below.refl _ _).alloc (Nat.le_refl _) _)) (heap_alloc_new _ _) (by omega) hlen hn).mono ?_;rintro e w' ⟨rfl,h1,h2,h3⟩;exact⟨rfl,h1,((Below.refl B w).alloc (by omega) _).trans h2,((Lib.OthersKept.refl _ _ w).alloc _).trans h3⟩
theorem Adm (W:World) (B g p:Nat) (keeps:Bool) (acc:List UInt8) (b:Bool) (v2 v3 v4 v5:Value) (k:Value) (hp:W.heap[p]? =some (.cells #[k,.bool b,v2,v3,v4,v5] 37 (0,0)))
 (hW:Wr W B g keeps acc) (hlen:acc.length<=20000000000):
 Calls Tryz.prog 123 #[.pointer (some ⟨g,0,none⟩),.pointer (some ⟨p,0,none⟩)] W fun e W'=>e=.returned (.tuple #[])/\Wr W' B g keeps (acc++Lib.formatBool b)/\Below B W W'/\Fh g W W':=by
 have c1:W.cell? ⟨p,1,none⟩=some (.bool b):=(Lib.cell_of_heap hp 1).trans rfl;have hj:=Ga [⟨(Lib.formatBool b).toArray⟩] 1 hW (by rw[Jb];have:=M6 b;omega) (by simp);rw[Jb]at hj;have cB:=Tryz.strconv_FormatBool b W;generalize Lib.formatBool b=L at hj cB ⊢;obtain⟨HJ,CB⟩:=hid2 hj cB;clear hj cB;go_enter Tryz.func123,Tryz.ntmps123;go_wp2_with (first|(go_at_call 125;refine(CB.out).mono ?_;rintro e wx ⟨rfl,hwx⟩;subst hwx)|(go_at_call 124;refine(HJ.out).mono ?_;rintro e w2 ⟨rfl,h1,h2,h3⟩))
 go_end0
 exact⟨rfl,h1,h2,h3⟩
theorem Af0 (W:World) (B g p:Nat) (keeps:Bool) (acc:List UInt8) (n:Int) (v1 v3 v4 v5:Value) (k:Value) (hp:W.heap[p]? =some (.cells #[k,v1,.int .i64 n,v3,v4,v5] 37 (0,0)))
 (hT:Cm W) (hn0: -9223372036854775808<=n) (hn1:n<=9223372036854775807) (_hpg:p≠g) (hW:Wr W B g keeps acc) (hlen:acc.length<=20000000000):
 Calls Tryz.prog 126 #[.pointer (some ⟨g,0,none⟩),.pointer (some ⟨p,0,none⟩)] W fun e W'=>e=.returned (.tuple #[])/\Wr W' B g keeps (acc++Lib.itoa n)/\Below B W W'/\Fh g W W':=by
 have c1:W.cell? ⟨p,2,none⟩=some (.int .i64 n):=(Lib.cell_of_heap hp 2).trans rfl;have hl:=Lib.itoa_length_le n hn0 hn1;have cB:=Tryz.strconv_FormatInt_10 n hn0 hn1 W hT.2.2;have hj: ∀w1,Below W.heap.size W w1->Calls Tryz.prog 124 #[.pointer (some ⟨g,0,none⟩),.slice (some ⟨w1.heap.size,0,none⟩) 1 1] (w1.alloc (.cells #[.string ⟨(Lib.itoa n).toArray⟩] 9 (0,0))) fun e w'=>e=.returned (.tuple #[])/\Wr w' B g keeps (acc++Lib.itoa n)/\Below B w1 w'/\Fh g w1 w':=fun w1 hb=>by
  have:=Ga [⟨(Lib.itoa n).toArray⟩] 1 (hW.below hb) (by rw[Jb];omega) (by simp)
  rwa [Jb]at this
 have hB:=hW.base;have hlt:=hW.lt;generalize Lib.itoa n=L at hj cB ⊢;obtain⟨HJ,CB⟩:=hid2 hj cB;clear hj cB hl hp;go_enter Tryz.func126,Tryz.ntmps126;go_wp2_with (first|(go_at_call 127;refine(CB.out).mono ?_;rintro e w1 ⟨rfl,kk,os,hwx⟩;have hb1:Below W.heap.size W w1:=hwx▸Aem W kk os;clear hwx)|(go_at_call 124;refine(HJ.out _ hb1).mono ?_;rintro e w2 ⟨rfl,h1,h2,h3⟩))
 go_end0
 exact⟨rfl,h1,(hb1.mono (by omega)).trans h2,fun j o hj hg ho=>h3 j o ((hb1.block j (Array.getElem?_eq_some_iff.1 hj).1).trans hj) hg ho⟩
theorem Adn (W:World) (B g:Nat) (keeps:Bool) (acc:List UInt8) (hW:Wr W B g keeps acc) (hlen:acc.length<=20000000000):
 Calls Tryz.prog 134 #[.pointer (some ⟨g,0,none⟩)] W fun e W'=>e=.returned (.tuple #[])/\Wr W' B g keeps (acc++ [110,117,108,108])/\Below B W W'/\Fh g W W':=by
 have HJ:=qz (Ga [⟨#[110,117,108,108]⟩] 1 hW (by simp[Fm];omega) (by simp));go_enter Tryz.func134,Tryz.ntmps134;go_wp2_with (go_at_call 124;refine(HJ.out).mono ?_;rintro e w2 ⟨rfl,h1,h2,h3⟩)
 go_end0
 exact⟨rfl,h1,h2,h3⟩
theorem R7 (s:ByteArray) (w:World) (hT:Cm w) (hs:s.size<=1000000000) (hv:A9 s=true):
 Calls Tryz.prog 129 #[.string s] w fun e w'=>e=.returned (.string ⟨(Bl s).toArray⟩)/\Below w.heap.size w w':=by
 have cQ:=Aam s w hT hs hv;unfold Bl;generalize 34::Ae (Bw s)++ [34]=L at cQ ⊢;have CQ:=qz cQ;clear cQ;go_enter Tryz.func129,Tryz.ntmps129;go_wp2_with (go_at_call 196;refine(CQ.out).mono ?_;rintro e w2 ⟨rfl,h1⟩);go_ret;exact⟨rfl,h1⟩
theorem Kf (s:ByteArray):(Bl s).length<=6*s.size+2:=by
 have e1:=G6 (Bw s);have e3:=Ge s.size s.data.toList 0;unfold Bw at e1;unfold Bl Bw;simp only[List.length_cons,List.length_append,List.length_nil];omega
theorem Ado (W:World) (B g p:Nat) (keeps:Bool) (acc:List UInt8) (t:ByteArray) (v1 v2 v4 v5:Value) (k:Value) (hp:W.heap[p]? =some (.cells #[k,v1,v2,.string t,v4,v5] 37 (0,0)))
 (hT:Cm W) (hv:A9 t=true) (ht:t.size<=1000000000) (_hpg:p≠g) (hW:Wr W B g keeps acc) (hlen:acc.length<=20000000000):
 Calls Tryz.prog 128 #[.pointer (some ⟨g,0,none⟩),.pointer (some ⟨p,0,none⟩)] W fun e W'=>e=.returned (.tuple #[])/\Wr W' B g keeps (acc++Bl t)/\Below B W W'/\Fh g W W':=by
 have c1:W.cell? ⟨p,3,none⟩=some (.string t):=(Lib.cell_of_heap hp 3).trans rfl;have hl:=Kf t;have cB:=R7 t W hT ht hv;have hj: ∀w1,Below W.heap.size W w1->Calls Tryz.prog 124 #[.pointer (some ⟨g,0,none⟩),.slice (some ⟨w1.heap.size,0,none⟩) 1 1] (w1.alloc (.cells #[.string ⟨(Bl t).toArray⟩] 9 (0,0))) fun e w'=>e=.returned (.tuple #[])/\Wr w' B g keeps (acc++Bl t)/\Below B w1 w'/\Fh g w1 w':=fun w1 hb=>by
  have:=Ga [⟨(Bl t).toArray⟩] 1 (hW.below hb) (by rw[Jb];omega) (by simp)
  rwa [Jb]at this
 have hB:=hW.base;have hlt:=hW.lt;generalize Bl t=L at hj cB ⊢;obtain⟨HJ,CB⟩:=hid2 hj cB;clear hj cB hl hp;go_enter Tryz.func128,Tryz.ntmps128;go_wp2_with (first|(go_at_call 129;refine(CB.out).mono ?_;rintro e w1 ⟨rfl,hb1⟩)|(go_at_call 124;refine(HJ.out _ hb1).mono ?_;rintro e w2 ⟨rfl,h1,h2,h3⟩))
 go_end0
 exact⟨rfl,h1,(hb1.mono (by omega)).trans h2,fun j o hj hg ho=>h3 j o ((hb1.block j (Array.getElem?_eq_some_iff.1 hj).1).trans hj) hg ho⟩
theorem Oi (i:Int) (w:World):Calls Tryz.prog 131 #[.int .i64 i] w fun e w'=>e=.returned (.string ⟨(if i=0 then []else [44]:List UInt8).toArray⟩)/\w=w':=by
 by_cases h:i=0
 . subst h;go_enter Tryz.func131,Tryz.ntmps131;go_wp2;go_ret;exact⟨rfl,rfl⟩
 . have e:(i==0)=false:=by simpa using h
   rw[if_neg h];clear h;go_enter Tryz.func131,Tryz.ntmps131;go_wp2;go_ret;exact⟨rfl,rfl⟩
theorem Am0 {l:List Val} (h:okL l) {v:Val} (hv:v ∈ l):okV v:=by
 induction l with
 |nil=>cases hv
 |cons x r ih=>
  simp only[okL]at h;rcases List.mem_cons.1 hv with rfl|hv
  . exact h.1
  . exact ih h.2 hv
theorem Agu {l:List (ByteArray×Val)} (h:okO l) {m:ByteArray×Val} (hv:m ∈ l):A9 m.1=true/\okV m.2:=by
 induction l with
 |nil=>cases hv
 |cons x r ih=>
  obtain⟨k,v⟩:=x;simp only[okO,okP]at h;rcases List.mem_cons.1 hv with rfl|hv
  . exact h.1
  . exact ih h.2 hv
theorem Oc: ∀(l:List Val),(∀v ∈ l,okV v->(Am v).length+1<=6*v.bulk)->okL l-> ∀f,(Bq l f).length<=6*Bf l
 | [],_,_,f=>by simp[Bq]
 |v::r,ih,ho,f=>by
  simp only[okL]at ho;have h1:=ih v (by simp) ho.1;have h2:=Oc r (fun x hx=>ih x (by simp[hx])) ho.2 false;simp only[Bq,Bf,List.length_append]
  split<;>simp<;>omega
theorem Od: ∀(l:List (ByteArray×Val)),(∀m ∈ l,okV m.2->(Am m.2).length+1<=6*m.2.bulk)->okO l-> ∀f,(Bs l f).length<=6*Ab l
 | [],_,_,f=>by simp[Bs]
 |(k,v)::r,ih,ho,f=>by
  simp only[okO,okP]at ho;have h1:=ih (k,v) (by simp) ho.1.2;have h2:=Od r (fun x hx=>ih x (by simp[hx])) ho.2 false;have h3:=Kf k;simp only[Bs,Lq,Ab,Ic,List.length_append,List.length_cons];simp only at h1
  split<;>simp<;>omega
theorem J3: ∀(v:Val),okV v->(Am v).length+1<=6*v.bulk:=by
 refine Val.ind ?_;intro k b n t l o hl ho h;simp only[okV]at h;have h1:=Oc l hl h.2.2.1 true;have h2:=Od o ho h.2.2.2 true;have h3:=M6 b;have h4:=Lib.itoa_length_le n h.2.1.1 h.2.1.2;have h5:=Kf t;simp only[Am,Val.bulk]
 repeat' split
 all_goals(try simp only[List.length_cons,List.length_append,List.length_nil])
 all_goals omega
theorem Pe (v:Val): ∀(a:List Val) (f:Bool),Bq (a++ [v]) f=Bq a f++((if f&&a.isEmpty then []else [44])++Am v)
 | [],f=>by cases f<;>simp[Bq]
 |x::r,f=>by
  simp only[List.cons_append,Bq,Pe v r false];simp[List.append_assoc]
theorem Pf (p:ByteArray×Val): ∀(a:List (ByteArray×Val)) (f:Bool),Bs (a++ [p]) f=Bs a f++((if f&&a.isEmpty then []else [44])++Lq p)
 | [],f=>by cases f<;>simp[Bs]
 |x::r,f=>by
  simp only[List.cons_append,Bs,Pf p r false];simp[List.append_assoc]
theorem Aa0 {l:List Val} {k:Nat} {v:Val} (h:l[k]? =some v):Bf l=Bf (l.take k)+(v.bulk+Bf (l.drop (k+1))):=by
 have h1: ∀a b:List Val,Bf (a++b)=Bf a+Bf b:=by
  intro a b
  induction a with
  |nil=>simp[Bf]
  |cons x r ih=>simp only[List.cons_append,Bf,ih];omega
 have h2:l=l.take k++(v::l.drop (k+1)):=by rw[<-Ds h,List.take_append_drop]
 conv=>lhs;rw[h2,h1]
 rfl
theorem Aa1 {l:List (ByteArray×Val)} {k:Nat} {p:ByteArray×Val} (h:l[k]? =some p):Ab l=Ab (l.take k)+(Ic p+Ab (l.drop (k+1))):=by
 have h1: ∀a b:List (ByteArray×Val),Ab (a++b)=Ab a+Ab b:=by
  intro a b
  induction a with
  |nil=>simp[Ab]
  |cons x r ih=>simp only[List.cons_append,Ab,ih];omega
 have h2:l=l.take k++(p::l.drop (k+1)):=by rw[<-Ds h,List.take_append_drop]
 conv=>lhs;rw[h2,h1]
 rfl
theorem Ak5 {l:List Val} (h:okL l) (k:Nat):okL (l.take k):=by
 induction l generalizing k with
 |nil=>simp[okL]
 |cons x r ih=>
  cases k with
  |zero=>simp[okL]
  |succ k=>simp only[okL]at h;simp only[List.take_succ_cons,okL];exact⟨h.1,ih h.2 k⟩
theorem Fh.cells {g j:Nat} {A W:World} (h:Fh g A W) {cs:Array Value} {t:TypeId} {fz:Nat×Nat} (hj:A.heap[j]? =some (.cells cs t fz)) (hg:j≠g) (ht:t≠5):W.heap[j]? =some (.cells cs t fz):=
 h j _ hj (by simpa using hg) (fun c fz e=>by injection e with _ e2 _;exact ht e2)
theorem Sn (l:List Val) (IH: ∀v ∈ l,Yo v) (W:World) (B g p:Nat) (h5:5<=B) (keeps:Bool) (acc:List UInt8) (la:Option Addr) (lc:Nat) (v0 v1 v2 v3 v5:Value)
 (hp:W.heap[p]? =some (.cells #[v0,v1,v2,v3,.slice la l.length lc,v5] 37 (0,0)))
 (gl off:Nat) (hla:l= []\/(la=some ⟨gl,off,none⟩/\gl<B/\Ao W B l gl off)) (hT:Cm W) (hpg:p≠g) (hW:Wr W B g keeps acc) (hok:okL l) (hlen:acc.length+6*(6+Bf l)<=20000000000) (hb:Bf l<=1000000000):
 Calls Tryz.prog 130 #[.pointer (some ⟨g,0,none⟩),.pointer (some ⟨p,0,none⟩)] W fun e W'=>e=.returned (.tuple #[])/\Wr W' B g keeps (acc++91::(Bq l true++ [93]))/\Below B W W'/\Fh g W W':=by
 have hll:l.length<=1000000000:=by have:=Dt l;omega
 have HJ1:=qz (Ga [⟨#[91]⟩] 1 hW (by simp[Fm];omega) (by simp));have HP:=qz hp;go_enter Tryz.func130,Tryz.ntmps130;go_wp2_with (go_at_call 124;refine(HJ1.out).mono ?_;rintro e w1 ⟨rfl,hw1,hb1,hk1⟩;have hp1:=hk1.cells HP.out hpg (by decide);have c4:w1.cell? ⟨p,4,none⟩=some (.slice la l.length lc):=(Lib.cell_of_heap hp1 4).trans rfl);have hw1':Wr w1 B g keeps (acc++91::Bq (l.take 0) true):=by simpa[Fm,Bq]using hw1
 clear c4 hp1 hw1 HJ1;go_loopw [11] (fun i wr=> ∃k:Nat,k<=l.length/\i=.int .i64 k/\Wr wr B g keeps (acc++91::Bq (l.take k) true)/\Below B W wr/\Fh g W wr) (fun i _=>l.length - (intOf i).toNat)
 case atStart=>exact⟨0,Nat.zero_le _,rfl,hw1',hb1,hk1⟩
 case round=>
  obtain⟨k,hk,rfl,hw,hbw,hkw⟩:=hrel;clear hw1' hb1 hk1;have hBg:=hw.base;by_cases hlt:k<l.length
  . obtain⟨rfl,hg,hL⟩:la=some ⟨gl,off,none⟩/\gl<B/\Ao W B l gl off:=by
     rcases hla with rfl|h
     . simp at hlt
     . exact h
    obtain⟨v,hv⟩: ∃v,l[k]? =some v:=⟨_,List.getElem?_eq_getElem hlt⟩;have hmem:v ∈ l:=List.mem_of_getElem? hv;have hsp:=Aa0 hv;have IHv:=qz (IH v hmem);have hokv:=Am0 hok hmem;have htk:l.take (k+1)=l.take k++ [v]:=by rw[List.take_add_one,hv];rfl
    have htl:=Oc (l.take k) (fun x _=>J3 x) (Ak5 hok k) true;have hfin:acc++91::Bq (l.take (k+1)) true=((acc++91::Bq (l.take k) true)++(if(k:Int)=0 then []else [44]))++Am v:=by
     rw[htk,Pe];have e:((true&&(l.take k).isEmpty)=true) ↔ (k:Int)=0:=by
      rw[Bool.true_and,List.isEmpty_iff];constructor
      . intro h;have:=congrArg List.length h;rw[List.length_take,List.length_nil]at this;omega
      . intro h;have:k=0:=by omega
        subst this;rfl
     by_cases h0:(k:Int)=0
     . rw[if_pos h0,if_pos (e.2 h0)];simp
     . rw[if_neg h0,if_neg (fun h=>h0 (e.1 h))];simp
    have hpos:=v.bulk_pos;have hlenA:(acc++91::Bq (l.take k) true).length+6*(v.bulk+1)<=20000000000:=by
     rw[List.length_append,List.length_cons];omega
    generalize acc++91::Bq (l.take k) true=A at*
    have Hfin:=qz hfin;clear hfin htk htl IH hla;obtain⟨k',b',n',t',l',o'⟩:=v;have hLr:=hL.below hg hbw;obtain⟨la',lc',oa',oc',hvs,c0,c1,c2,c3,c4,c5⟩:=hLr.six hv;clear hL hLr hv hmem hok;obtain⟨wA,hwA⟩: ∃wA,wr.alloc (.cells #[.int .i64 k',.bool b',.int .i64 n',.string t',.slice la' l'.length lc',.slice oa' o'.length oc'] 37)=wA:=⟨_,rfl⟩;have hAw:Below wr.heap.size wr wA:=by rw[<-hwA];exact(Below.refl _ _).alloc (Nat.le_refl _) _
    have hbox:wA.heap[wr.heap.size]? =some (.cells #[.int .i64 k',.bool b',.int .i64 n',.string t',.slice la' l'.length lc',.slice oa' o'.length oc'] 37 (0,0)):=by rw[<-hwA];exact heap_alloc_new _ _
    have hgw:=hw.lt;have HTr:=qz (fun W' (hb':Below B wr W')=>hT.keep (hbw.trans hb') h5);have HVr:=qz (fun W' (hb':Below B wr W')=>hvs.below hb');have hszA:wA.heap.size=wr.heap.size+1:=by rw[<-hwA];simp
    have hj: ∀(S:List UInt8),S.length<=1->Calls Tryz.prog 124 #[.pointer (some ⟨g,0,none⟩),.slice (some ⟨wA.heap.size,0,none⟩) 1 1] (wA.alloc (.cells #[.string ⟨S.toArray⟩] 9 (0,0))) fun e w'=>e=.returned (.tuple #[])/\Wr w' B g keeps (A++S)/\Below B wA w'/\Fh g wA w':=fun S hS=>by
     have:=Ga [⟨S.toArray⟩] 1 (hw.below hAw) (by rw[Jb];omega) (by simp)
     rwa [Jb]at this
    have hj1:=hj (if(k:Int)=0 then []else [44]) (by split<;>simp);have hs2:(if(k:Int)=0 then []else [44]:List UInt8).length<=1:=by split<;>simp
    have cBt:=Oi (k:Int) wA;generalize (if(k:Int)=0 then []else [44]:List UInt8)=S at hj1 hs2 cBt Hfin;rw[hszA]at hj1;subst hwA;obtain⟨HJ,CB⟩:=hid2 hj1 cBt;clear hj1 hj cBt;have HOK:=qz hokv;have ent:=Kr;clear hokv hvs;have HB:=qz hbox;have hne:wr.heap.size≠g:=by omega
    go_wp2_with (first|(go_at_call 131;refine(CB.out).mono ?_;rintro e wx ⟨rfl,rfl⟩)|(go_at_call 124;refine(HJ.out).mono ?_;rintro e w2 ⟨rfl,h1,h2,h3⟩;have hz2:=h1.lt;have hb2:=h3.cells HB.out hne (by decide);have d0:w2.cell? ⟨wr.heap.size,0,none⟩=some (.int .i64 k'):=(Lib.cell_of_heap hb2 0).trans rfl;have d1:w2.cell? ⟨wr.heap.size,1,none⟩=some (.bool b'):=(Lib.cell_of_heap hb2 1).trans rfl;have d2:w2.cell? ⟨wr.heap.size,2,none⟩=some (.int .i64 n'):=(Lib.cell_of_heap hb2 2).trans rfl;have d3:w2.cell? ⟨wr.heap.size,3,none⟩=some (.string t'):=(Lib.cell_of_heap hb2 3).trans rfl;have d4:w2.cell? ⟨wr.heap.size,4,none⟩=some (.slice la' l'.length lc'):=(Lib.cell_of_heap hb2 4).trans rfl;have d5:w2.cell? ⟨wr.heap.size,5,none⟩=some (.slice oa' o'.length oc'):=(Lib.cell_of_heap hb2 5).trans rfl)|(go_at_call 74;refine(N8 k' b' n' t' la' oa' l'.length lc' o'.length oc' w2).mono ?_;rintro e w3 ⟨rfl,rfl⟩)|(go_at_fn (Oh k');refine(IHv.out _ B g w2.heap.size keeps (A++S) (Ei k' b' n' t' la' l'.length lc' oa' o'.length oc') k' b' n' t' l' o' rfl h5 (HTr.out _ ?_) (HVr.out _ ?_) (heap_alloc_new _ _) ?_ (h1.below ((Below.refl _ _).alloc (Nat.le_refl _) _)) HOK.out ?_ ?_).mono ?_;rotate_right;rintro e w4 ⟨rfl,h6,h7,h8⟩));go_roundw
    case rel=>
     refine⟨k+1,by omega,by go_num, ?_,hbw.trans ((((Below.refl B wr).alloc (by omega) _).trans h2).trans (((Below.refl B w2).alloc (by omega) _).trans h7)),(hkw.trans (((Lib.OthersKept.refl _ _ wr).alloc _).trans h3)).trans (((Lib.OthersKept.refl _ _ w2).alloc _).trans h8)⟩;rw[Hfin.out];exact h6
    case measure=>simp[intOf];omega
    . exact(((Below.refl B wr).alloc (by omega) _).trans h2).alloc (by omega) _
    . exact(((Below.refl B wr).alloc (by omega) _).trans h2).alloc (by omega) _
    . omega
    . omega
    . rw[List.length_append];omega
  . obtain rfl:k=l.length:=by omega
    rw[List.take_length]at hw;have htl:=Oc l (fun x _=>J3 x) hok true;have HJ:=qz (Ga [⟨#[93]⟩] 1 hw (by rw[List.length_append,List.length_cons];simp[Fm];omega) (by simp));clear htl hok;have hgw:=hw.lt;have hBg:=hw.base;have e:Fm [⟨#[93]⟩]= [93]:=by simp[Fm]
    go_wp2_with (go_at_call 124;refine(HJ.out).mono ?_;rintro e w2 ⟨rfl,h1,h2,h3⟩)
    go_end0
    rw[e,List.append_assoc,List.cons_append]at h1;exact⟨rfl,h1,hbw.trans h2,hkw.trans h3⟩
attribute [local go_sem] Oper.semAt_some
def Jo:List (ByteArray×Val)->Bool->List (Bool×(ByteArray×Val))
 | [],_=> []
 |p::r,f=>(f,p)::Jo r false
def Val.kind:Val->Int
 | .mk k _ _ _ _ _=>k
def Gk (x:Bool×(ByteArray×Val)):ByteArray:=(⟨(if x.1 then []else [44]:List UInt8).toArray⟩:ByteArray)++⟨(Bl x.2.1).toArray⟩
def Aey (x:Bool×(ByteArray×Val)) (q:Nat):Array Value:=
 #[.string (Gk x),.func (.func (Oh x.2.2.kind)) #[] (Jv x.2.2.kind q)]
def Ajf (W0:World) (B G:Nat) (x:Bool×(ByteArray×Val)) (q:Nat) (A:World):Prop:=
 G<q/\ ∃cs,A.heap[q]? =some (.cells cs.toArray 37 (0,0))/\Ac W0 B x.2.2 cs
theorem Vo (oa:Option Addr) (on oc:Nat) (w:World):
 Calls Tryz.prog 133 #[.slice oa on oc] w fun e w'=>e=.returned (.func (.func 197) #[] #[.pointer (some ⟨w.heap.size,0,none⟩)])/\w.alloc (.cells #[.slice oa on oc] 35)=w':=by
 go_enter Tryz.func133,Tryz.ntmps133;go_wp2;go_ret;exact⟨rfl,rfl⟩
theorem Ui (o:List (ByteArray×Val)) (W0:World) (B G p:Nat) (oa:Option Addr) (oc:Nat) (go off:Nat) (h5:5<=B) (hT:Cm W0)
 (hoa:o= []\/(oa=some ⟨go,off,none⟩/\go<B/\Ap W0 B o go off)) (hok:okO o) (hb:Ab o<=1000000000):
 Af5 Tryz.prog 197 #[.pointer (some ⟨p,0,none⟩)] Aey (Ajf W0 B G) (Jo o true)
  (fun A=>A.heap[p]? =some (.cells #[.slice oa o.length oc] 35 (0,0))/\Below B W0 A/\G<A.heap.size):=by
 intro n l J W hJn hJb hY h0;have hoo:o.length<=1000000000:=by have:=Bc o;omega
 have hmx:Tryz.prog.follows .mixedOrders=true:=by kernel_rfl
 have hc0:W.cell? ⟨p,0,none⟩=some (.slice oa o.length oc):=(Lib.cell_of_heap (hJb _ _ h0).1 0).trans rfl;refine callsIn_of_wp Tryz.func197 rfl trivial ?_ rfl;simp only[Tryz.ntmps197,List.size_toArray,List.length_cons,List.length_nil,Nat.reduceAdd,Nat.reduceSub,Array.replicate_succ,Array.replicate_zero,List.push_toArray,List.append_toArray,List.nil_append,List.cons_append]
 gi_wp2
 gi_loopw [7] (fun i wr=> ∃(pre:List (Bool×(ByteArray×Val))) (k:Nat),i=.int .i64 k/\k<=o.length/\Hid (Jo o true=pre++Jo (o.drop k) (decide ((k:Int)=0)))/\J pre wr) (fun i _=>o.length - (intOf i).toNat)
 case atStart=>exact⟨[],0,rfl,Nat.zero_le _,rfl,h0⟩
 case round=>
  obtain⟨pre,k,rfl,hk,hr,hJ⟩:=hrel;obtain⟨hp,hbw,hG⟩:=hJb _ _ hJ;by_cases hlt:k<o.length
  . obtain⟨rfl,hg,hO⟩:oa=some ⟨go,off,none⟩/\go<B/\Ap W0 B o go off:=by
     rcases hoa with rfl|h
     . simp at hlt
     . exact h
    obtain⟨m,hm⟩: ∃m,o[k]? =some m:=⟨_,List.getElem?_eq_getElem hlt⟩;have hmem:m ∈ o:=List.mem_of_getElem? hm;have hsp:=Aa1 hm;have hokm:=Agu hok hmem;have HTr:Hid (Cm wr):=hT.keep hbw h5;have hr':=hr.out;rw[Ds hm]at hr';simp only[Jo]at hr';have hk1:decide (((k+1:Nat):Int)=0)=false:=by simp;omega
    obtain⟨key,v⟩:=m;obtain⟨k',b',n',t',l',o'⟩:=v;obtain⟨la',lc',oa',oc',hvs,c0,c1,c2,c3,c4,c5,c6⟩:=hO.seven hm;replace c0:=(hbw.cell (p:=⟨go,off+k*7,none⟩) hg).trans c0;replace c1:=(hbw.cell (p:=⟨go,off+k*7+1,none⟩) hg).trans c1;replace c2:=(hbw.cell (p:=⟨go,off+k*7+2,none⟩) hg).trans c2;replace c3:=(hbw.cell (p:=⟨go,off+k*7+3,none⟩) hg).trans c3;replace c4:=(hbw.cell (p:=⟨go,off+k*7+4,none⟩) hg).trans c4;replace c5:=(hbw.cell (p:=⟨go,off+k*7+5,none⟩) hg).trans c5;replace c6:=(hbw.cell (p:=⟨go,off+k*7+6,none⟩) hg).trans c6;have HY:Hid (∀(A:World) (q:Nat),G<q->A.heap[q]? =some (.cells #[.int .i64 k',.bool b',.int .i64 n',.string t',.slice la' l'.length lc',.slice oa' o'.length oc'] 37 (0,0))->Below wr.heap.size wr A->
     YieldAt Fence.wide n Tryz.prog l #[.string ((⟨(if decide ((k:Int)=0)then []else [44]:List UInt8).toArray⟩:ByteArray)++⟨(Bl key).toArray⟩),.func (.func (Oh k')) #[] (Jv k' q)] A fun e B=>e=.returned (.bool true)/\J (pre++ [(decide ((k:Int)=0),key,.mk k' b' n' t' l' o')]) B):=by
     show ∀_ _,_;intro A q hq hA hb;have hM:Ajf W0 B G (decide ((k:Int)=0),key,.mk k' b' n' t' l' o') q A:=⟨hq,Ei k' b' n' t' la' l'.length lc' oa' o'.length oc',hA,hvs⟩;have:=hY pre _ _ q A hr' (hJn _ _ _ hJ hb) hM;simp only[Aey,Gk,Val.kind]at this;exact this
    have Hr2:Hid (Jo o true=(pre++ [(decide ((k:Int)=0),key,.mk k' b' n' t' l' o')])++Jo (o.drop (k+1)) (decide (((k+1:Nat):Int)=0))):=by
     show _=_;rw[hk1,hr'];simp
    have cB: ∀w,Calls Tryz.prog 131 #[.int .i64 k] w fun e w'=>e=.returned (.string ⟨(if decide ((k:Int)=0)then []else [44]:List UInt8).toArray⟩)/\w=w':=by
     intro w;have:=Oi (k:Int) w;simpa only[decide_eq_true_eq]using this
    have hkz:key.size<=1000000000:=by simp only[Ic]at hsp;omega
    have cQ: ∀w,Cm w->Calls Tryz.prog 129 #[.string key] w fun e w'=>e=.returned (.string ⟨(Bl key).toArray⟩)/\Below w.heap.size w w':=fun w hw=>R7 key w hw hkz hokm.1;clear hr hr' hsp hokm hmem hm hO hvs hoa hY hk1 hok;have hS1:(⟨(if decide ((k:Int)=0)then []else [44]:List UInt8).toArray⟩:ByteArray).size<=1:=by
     split<;>simp[ByteArray.size]
    have hS2:(⟨(Bl key).toArray⟩:ByteArray).size<=6000000002:=by
     have:=Kf key;simp only[ByteArray.size,List.size_toArray];omega
    generalize (⟨(if decide ((k:Int)=0)then []else [44]:List UInt8).toArray⟩:ByteArray)=S at HY cB hS1;generalize (⟨(Bl key).toArray⟩:ByteArray)=Q at HY cQ hS2;have hSQ:((S.size:Int)+(Q.size:Int)>9223372036854775807)=False:=by simp;omega
    have hSQ2:((S.size+Q.size:Nat):Int)>IntKind.i64.max ↔ False:=by
     have e:IntKind.i64.max=9223372036854775807:=rfl;simp only[iff_false,e];omega
    obtain⟨CB,CQ⟩:=hid2 cB cQ;clear cB cQ;obtain⟨HJn,HJb,Hbw,HJ,Hp⟩:=hid5 hJn hJb hbw hJ hp;clear hc0 h0 hb hT hJn hJb hmx hbw hJ hp;have hGr:=hG
    gi_wp2
    obtain⟨A,hA⟩: ∃A,wr.alloc (.cells #[.string key,.int .i64 k',.bool b',.int .i64 n',.string t',.slice la' l'.length lc',.slice oa' o'.length oc'] 94)=A:=⟨_,rfl⟩;have hAb:Below wr.heap.size wr A:=by rw[<-hA];exact(Below.refl _ _).alloc (Nat.le_refl _) _
    have hAh:A.heap[wr.heap.size]? =some (.cells #[.string key,.int .i64 k',.bool b',.int .i64 n',.string t',.slice la' l'.length lc',.slice oa' o'.length oc'] 94 (0,0)):=by rw[<-hA];exact heap_alloc_new _ _
    rw[hA];have hAz:=(Array.getElem?_eq_some_iff.1 hAh).1;have hDb:Below wr.heap.size wr A.drew:=Below.drew hAb;have HTD:Hid (Cm A.drew):=HTr.out.keep hDb HTr.out.1;have hDh:A.drew.heap[wr.heap.size]? =some (.cells #[.string key,.int .i64 k',.bool b',.int .i64 n',.string t',.slice la' l'.length lc',.slice oa' o'.length oc'] 94 (0,0)):=hAh;clear hA c0 c1 c2 c3 c4 c5 c6 hAb;have HG:Hid (G<wr.heap.size):=hG;have hmx:Tryz.prog.follows .mixedOrders=true:=by kernel_rfl
    have a0:A.drew.cell? ⟨wr.heap.size,0,none⟩=some (.string key):=(Lib.cell_of_heap hDh 0).trans rfl;have a1:A.drew.cell? ⟨wr.heap.size,1,none⟩=some (.int .i64 k'):=(Lib.cell_of_heap hDh 1).trans rfl;have a2:A.drew.cell? ⟨wr.heap.size,2,none⟩=some (.bool b'):=(Lib.cell_of_heap hDh 2).trans rfl;have a3:A.drew.cell? ⟨wr.heap.size,3,none⟩=some (.int .i64 n'):=(Lib.cell_of_heap hDh 3).trans rfl;have a4:A.drew.cell? ⟨wr.heap.size,4,none⟩=some (.string t'):=(Lib.cell_of_heap hDh 4).trans rfl;have a5:A.drew.cell? ⟨wr.heap.size,5,none⟩=some (.slice la' l'.length lc'):=(Lib.cell_of_heap hDh 5).trans rfl;have a6:A.drew.cell? ⟨wr.heap.size,6,none⟩=some (.slice oa' o'.length oc'):=(Lib.cell_of_heap hDh 6).trans rfl;obtain⟨HDh,HDb⟩:=hid2 hDh hDb;clear hDh hDb hG hAz hAh
    gi_region_with (first|(refine⟨trivial, ?_⟩;gi_at_call 131;refine(callsIn_wide.2 (CB.out _)).mono ?_;rintro e wx ⟨rfl,rfl⟩)|(refine⟨trivial, ?_⟩;gi_at_call 129;refine(callsIn_wide.2 (CQ.out _ HTD.out)).mono ?_;rintro e w2 ⟨rfl,hb2⟩;have HB2:=qz hb2;have d0:=(hb2.block wr.heap.size (Array.getElem?_eq_some_iff.1 HDh.out).1).trans HDh.out;have d1:w2.cell? ⟨wr.heap.size,1,none⟩=some (.int .i64 k'):=(Lib.cell_of_heap d0 1).trans rfl;have d2:w2.cell? ⟨wr.heap.size,2,none⟩=some (.bool b'):=(Lib.cell_of_heap d0 2).trans rfl;have d3:w2.cell? ⟨wr.heap.size,3,none⟩=some (.int .i64 n'):=(Lib.cell_of_heap d0 3).trans rfl;have d4:w2.cell? ⟨wr.heap.size,4,none⟩=some (.string t'):=(Lib.cell_of_heap d0 4).trans rfl;have d5:w2.cell? ⟨wr.heap.size,5,none⟩=some (.slice la' l'.length lc'):=(Lib.cell_of_heap d0 5).trans rfl;have d6:w2.cell? ⟨wr.heap.size,6,none⟩=some (.slice oa' o'.length oc'):=(Lib.cell_of_heap d0 6).trans rfl;clear hb2 d0)|(refine⟨trivial, ?_⟩;gi_at_call 74;refine(callsIn_wide.2 (N8 k' b' n' t' la' oa' l'.length lc' o'.length oc' w2)).mono ?_;rintro e w3 ⟨rfl,rfl⟩;obtain⟨fn,tmps,assign,body,hy,hR⟩:=HY.out (w2.alloc (.cells #[.int .i64 k',.bool b',.int .i64 n',.string t',.slice la' l'.length lc',.slice oa' o'.length oc'] 37)) w2.heap.size (Nat.lt_of_lt_of_le HG.out (HDb.out.trans (HB2.out.mono HDb.out.size)).size) (heap_alloc_new _ _) (((HDb.out.trans (HB2.out.mono HDb.out.size))).alloc (HDb.out.trans (HB2.out.mono HDb.out.size)).size _))|(refine hR.mono ?_;rintro e W3 ⟨rfl,hJ3⟩;clear hy hR))
    all_goals(
     gi_wp2
     go_roundw
     case rel=>exact⟨_,k+1,by go_num,by omega,Hr2,hJ3⟩
     case measure=>simp[intOf];omega)
  . obtain rfl:k=o.length:=by omega
    have hr':=hr.out;rw[List.drop_length]at hr';simp only[Jo,List.append_nil]at hr';have Hr:=qz hr';clear hr hr' hoa hbw hT
    gi_wp2
    go_end0
    exact⟨⟨_,rfl⟩,by rw[Hr.out];exact hJ⟩
structure MKey {α:Type} [DecidableEq α] (P:Program) (kt:TypeId) (f:α->Value):Prop where
 under: ∃d,P.underlying kt=some d/\ ∀a b,Instr.sameNow d (f a) (f b)=some (decide (a=b))
 check: ∀e w a,(Instr.checkKey e 10000 kt (f a)).run P w=.ok () w
theorem Ant (a b:ByteArray):(a==b)=decide (a=b):=by
 obtain⟨a⟩:=a;obtain⟨b⟩:=b;have h:((⟨a⟩:ByteArray)==⟨b⟩)=(a==b):=rfl;rw[h];by_cases e:a=b<;>simp[e]
theorem Ab9 {P:Program} {kt:TypeId} (h:P.underlying kt=some .string):MKey P kt Value.string:=by
 refine⟨⟨_,h,fun a b=> ?_⟩,fun e w a=> ?_⟩
 . simp only[Instr.sameNow]
   congr 1
   exact Ant a b
 . have key: ∀n,(Instr.checkKey e (n+1) kt (.string a)).run P w=.ok () w:=fun n=>by simp[Instr.checkKey,run_underlying h]
   exact key 9999
theorem Akz {P:Program} {kt:TypeId} {q:IntKind} (h:P.underlying kt=some (.int q)):MKey P kt (Value.int q):=by
 refine⟨⟨_,h,fun a b=> ?_⟩,fun e w a=> ?_⟩
 . simp only[Instr.sameNow,if_true]
   congr 1
 . have key: ∀n,(Instr.checkKey e (n+1) kt (.int q a)).run P w=.ok () w:=fun n=>by simp[Instr.checkKey,run_underlying h]
   exact key 9999
section
variable {α:Type}
def Ks (f:α->Value):List (α×Value)->Nat->List MapEntry
 | [],_=> []
 |(k,v)::r,i=>{key:=f k,val:=v,born:=i}::Ks f r (i+1)
def De (f:α->Value) (w:World) (g:Nat) (kv:List (α×Value)):Prop:=w.heap[g]? =some (.map (Ks f kv 0).toArray kv.length)
def E8 [DecidableEq α] (a:α):List (α×Value)->Option Value
 | []=>none
 |(k,v)::r=>if a=k then some v else E8 a r
variable {f:α->Value} {P:Program} {kt et t:TypeId} {w w':World} {g:Nat} {kv:List (α×Value)}
theorem P5: ∀(kv:List (α×Value)) (i:Nat) (k:α) (v:Value),Ks f (kv++ [(k,v)]) i=Ks f kv i++ [{key:=f k,val:=v,born:=i+kv.length}]
 | [],i,k,v=>by simp[Ks]
 |(a,b)::r,i,k,v=>by
  simp only[List.cons_append,Ks,P5 r,List.length_cons];rw[show i+1+r.length=i+(r.length+1)from by omega]
theorem De.lt (h:De f w g kv):g<w.heap.size:=by
 rcases Nat.lt_or_ge g w.heap.size with h1|h1
 . exact h1
 . unfold De at h;rw[Array.getElem?_eq_none h1]at h;cases h
theorem De.keep (h:De f w g kv) (hk:w'.heap[g]? =w.heap[g]?):De f w' g kv:=hk.trans h
theorem De.below {B:Nat} (h:De f w g kv) (hb:Below B w w') (hg:g<B):De f w' g kv:=(hb.block g hg).trans h
theorem De.alloc (h:De f w g kv) (o:Obj):De f (w.alloc o) g kv:=(Below.heap_alloc w o g h.lt).trans h
theorem De.new (w:World):De f (w.alloc (.map #[] 0)) w.heap.size []:=heap_alloc_new w _
theorem De.setCell (h:De f w g kv) {p:Addr} (hp:g≠p.block) (u:Value):De f (w.setCell p u) g kv:=(Below.heap_setCell w p u g hp).trans h
variable [DecidableEq α]
theorem Q0 {d:TypeDesc} (hd: ∀a b,Instr.sameNow d (f a) (f b)=some (decide (a=b))) (a:α): ∀(kv:List (α×Value)) (i j:Nat),∃q,Instr.findNow d (f a) (Ks f kv i) j=some q/\q.map (·.2)=E8 a kv
 | [],_,_=>⟨none,rfl,rfl⟩
 |(k,v)::r,i,j=>by
  by_cases h:a=k
  . exact⟨some (j,v),by simp[Ks,Instr.findNow,hd,h],by simp[E8,h]⟩
  . obtain⟨q,h1,h2⟩:=Q0 hd a r (i+1) (j+1);exact⟨q,by simp[Ks,Instr.findNow,hd,h,h1],by rw[h2];simp[E8,h]⟩
theorem Ni (K:MKey P kt f) (ht:P.underlying t=some (.map kt et)) (h:De f w g kv) {a:α} (hn:E8 a kv=none) (v:Value):
 ∃w',(Instr.mapUpdate t (.map (some g)) (f a) v).run P w=.ok () w'/\De f w' g (kv++ [(a,v)])/\w.grownBy w' (some g)/\w'.heap.size=w.heap.size:=by
 obtain⟨d,hd,hs⟩:=K.under;obtain⟨q,h1,h2⟩:=Q0 hs a kv 0 0;rw[hn]at h2;have hq:q=none:=by cases q<;>simp_all
 subst hq;have hck:=K.check false w a;have hfk:(Instr.findKey kt (f a) (Ks f kv 0)).run P w=.ok none w:=by simp[Instr.findKey,Sem.run_bind,run_underlying hd,h1]
 have hlt:=h.lt;refine⟨{w with heap:=w.heap.setIfInBounds g (.map ((Ks f kv 0).toArray.push {key:=f a,val:=v,born:=kv.length}) (kv.length+1))}, ?_, ?_, ?_, ?_⟩
 . have hb:w.heap[g]? =some (.map (Ks f kv 0).toArray kv.length):=h;unfold Instr.mapUpdate;simp only[Sem.run_bind,run_underlying ht,Result.andThen,getObj,Sem.run,hb,hck,hfk,setObj]
 . unfold De;simp[hlt,P5]
 . exact⟨rfl,rfl,rfl,by simp,fun k hk hne=>by simp only[Array.getElem?_setIfInBounds];rw[if_neg];rintro rfl;exact hne rfl⟩
 . simp
theorem D0 {ops:Array Oper} {rest:List Oper} {o:Oper} {a:Act} {Q:Exit->Act->World->Prop} (hg:o.guard=none) (m x u:Operand) (t:TypeId) (hop:o.op=Op.insert t m x u)
 (K:MKey P kt f) (ht:P.underlying t=some (.map kt et)) (hm:a.eval m=.map (some g)) (h:De f w g kv) {k:α} {v:Value} (hx:a.eval x=f k) (hv:a.eval u=v) (hn:E8 k kv=none)
 (hK: ∀w',De f w' g (kv++ [(k,v)])->w.grownBy w' (some g)->w'.heap.size=w.heap.size->wpList P ops Q rest (a.put o.dst undef) w'):wpList P ops Q (o::rest) a w:=by
 refine wpList_plain hg fun K' hK'=> ?_;obtain⟨w',hrun,r1,r2,r3⟩:=Ni K ht h hn v;unfold Oper.wp;simp[execOp,hop,hm,hx,hv,hrun,Result.andThen];exact hK' _ _ (hK w' r1 r2 r3)
theorem Ln (K:MKey P kt f) (ht:P.underlying t=some (.map kt et)) (h:De f w g kv) (a:α) {z:Value} (hz: ∀w,(zeroValue et).run P w=.ok z w) (c:Bool):
 (Instr.lookup t (.map (some g)) (f a) c).run P w=.ok (if c then .tuple #[(E8 a kv).getD z,.bool (E8 a kv).isSome]else(E8 a kv).getD z) w:=by
 obtain⟨d,hd,hs⟩:=K.under;obtain⟨q,h1,h2⟩:=Q0 hs a kv 0 0;have hck:=fun e=>K.check e w a;have hfk:(Instr.findKey kt (f a) (Ks f kv 0)).run P w=.ok q w:=by simp[Instr.findKey,Sem.run_bind,run_underlying hd,h1]
 have hb:w.heap[g]? =some (.map (Ks f kv 0).toArray kv.length):=h;unfold Instr.lookup;simp only[Sem.run_bind,run_underlying ht,Result.andThen,getObj,Sem.run,hb]
 cases q with
 |none=>
  have:E8 a kv=none:=by cases hq:E8 a kv<;>simp_all
  rw[this]
  cases c<;>simp[hck,hfk,hz w,Result.andThen]
 |some p=>
  obtain⟨i,v⟩:=p;have:E8 a kv=some v:=by rw[<-h2];rfl
  rw[this]
  cases c<;>simp[hck,hfk]
end
theorem Ajn {t:List UInt8} {s:ByteArray}:(t==s.toList)=decide (t=s.data.toList):=by
 rw[ByteArray.toList_eq,Bool.eq_iff_iff];simp
end Go.Proofs.YtkmcjfkokoidcaaGreatDoor
