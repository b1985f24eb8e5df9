/- Parts, joined: The writer of texts: join. Condition: at most 10^11 bytes. Maps cell by cell, whatever their elements: an entry stored, an entry looked up. Plain. No condition. -/
import Derived.Test.YtackmnbpfbaemaaGreatDoorProg
import Derived.WalkKit
import Derived.Below
import Derived.Maps.OwnSet
import Derived.Laws.OwnMore
import Derived.Test.YtackmnbpfbaemaaGreatDoorKAs8
namespace Go.Proofs.YtackmnbpfbaemaaGreatDoor
open Go.RowKit
def Wr (W:World) (B g:Nat) (keeps:Bool) (acc:List UInt8):Prop:=
 ∃p v,Bld W B g 1 130 #[.bool keeps,p,v, .int .i64 (acc.length:Int)] (if keeps then acc else [])
theorem liesW:liesAt Tryz.prog Tryz.prog.depth 130 (4 / Tryz.prog.cellsOf 130) 1 128 1=true:=by kernel_rfl
theorem Bld.other {w:World} {B g o:Nat} {t:TypeId} {cs:Array Value} {bs:List UInt8} (h:Bld w B g o t cs bs) (i:Nat) (hi:i≠o) (hi2:i≠o+1) (u:Value):
 Bld (w.setCell ⟨g,i,none⟩ u) B g o t (cs.setIfInBounds i u) bs:=by
 obtain⟨hB,hb,ht,hs,h0,v,h1,hown⟩:=h
 refine⟨hB,setCell_heap hb _,ht,by simpa using hs, ?_,v,by rw[Array.getElem?_setIfInBounds,if_neg hi2];exact h1, ?_⟩
 · rw[Array.getElem?_setIfInBounds,if_neg hi];exact h0
 · exact hown.kept (row:=some g) ⟨rfl,rfl,rfl,by simp[World.setCell],fun k _ hk=>Below.heap_setCell _ _ _ _ (fun e=>hk (by simp[e]))⟩ (Or.inr (Lib.ownBlock_ne hown hb ht))
theorem Wr.below {A W:World} {B g:Nat} {k:Bool} {acc:List UInt8} (h:Wr A B g k acc) (hb:Below A.heap.size A W):Wr W B g k acc:=by
 obtain⟨p,v,h⟩:=h
 exact⟨p,v,h.keep (below_grown hb) (fun k e=>by cases e)⟩
theorem Wr.put {A:World} {B g k:Nat} {b:Bool} {acc:List UInt8} {o o':Obj} (h:Wr A B g b acc) (ho:A.heap[k]? =some o) (hc:o.isCells=false):Wr (A.putObj k o') B g b acc:=by
 obtain⟨p,v,h⟩:=h
 exact⟨p,v,h.keep (grownBy_putObj' A k o') (fun j e=>by cases e;exact⟨o,ho,hc⟩)⟩
theorem Wr.lt {A:World} {B g:Nat} {k:Bool} {acc:List UInt8} (h:Wr A B g k acc):g<A.heap.size:=by
 obtain⟨p,v,h⟩:=h
 exact h.lt
theorem Wr.base {A:World} {B g:Nat} {k:Bool} {acc:List UInt8} (h:Wr A B g k acc):B≤g:=by
 obtain⟨p,v,h⟩:=h
 exact h.1
def flat (ss:List ByteArray):List UInt8:=ss.flatMap fun s=>s.data.toList
theorem flat_snoc (ss:List ByteArray) (s:ByteArray):flat (ss++ [s])=flat ss++s.data.toList:=by simp[flat]
set_option maxHeartbeats 2000000 in
set_option maxRecDepth 100000 in
theorem join_calls (B g:Nat) (keeps:Bool) (acc:List UInt8) (ss:List ByteArray) (b c:Nat) (w:World) (h:Wr w B g keeps acc) (hp:w.heap[b]? =some (.cells (ss.map Value.string).toArray 9 (0,0))) (hbg:b≠g)
 (hlen:acc.length+(flat ss).length≤50000000000) (hn:ss.length≤1000):
 Calls Tryz.prog 107 #[.pointer (some ⟨g,0,none⟩), .slice (some ⟨b,0,none⟩) ss.length c] w fun e w'=>e= .returned (.tuple #[])∧Wr w' B g keeps (acc++flat ss)∧Below B w w'∧Kept g w w':=by
 go_enter Tryz.func107,Tryz.ntmps107
 go_wp2
 go_loopw [8] (fun i wr=> ∃k:Nat,k≤ss.length∧i= .int .i64 k∧Wr wr B g keeps (acc++flat (ss.take k))∧Below B w wr∧Kept g w wr) (fun i _=>ss.length - (intOf i).toNat)
 case atStart=>exact⟨0,Nat.zero_le _,rfl,by simpa[flat]using h,Below.refl _ _,Lib.OthersKept.refl _ _ _⟩
 case round=>
  obtain⟨k,hk,rfl,hw,hb,hkp⟩:=hrel
  by_cases hlt:k<ss.length
  · obtain⟨s,hs⟩: ∃s,ss[k]? =some s:=⟨_,List.getElem?_eq_getElem hlt⟩
    have htk:ss.take (k+1)=ss.take k++ [s]:=by rw[List.take_add_one,hs];rfl
    have hfl:(flat ss).length=(flat (ss.take k)).length+s.size+(flat (ss.drop (k+1))).length:=by
     have:ss=ss.take k++ [s]++ss.drop (k+1):=by rw[←htk,List.take_append_drop]
     have h2:=congrArg (fun l=>(flat l).length) this
     simp only[flat,List.flatMap_append,List.length_append,List.flatMap_cons,List.flatMap_nil,List.append_nil]at h2 ⊢
     rw[h2,Lib.size_eq]
    have hpr:=hkp _ _ hp (by simpa using hbg) (fun c fz e=>by cases e)
    have cp:wr.cell? ⟨b,k,none⟩=some (.string s):=by rw[Lib.cell_of_heap hpr];simp[hs]
    obtain⟨p,v,hbl⟩:=hw
    have hbl':=hbl
    obtain⟨hB,hbk,ht,_,_,_⟩:=hbl'
    have g0:wr.cell? ⟨g,0,none⟩=some (.bool keeps):=by rw[Lib.cell_of_heap hbk];rfl
    have g3:wr.cell? ⟨g,3,none⟩=some (.int .i64 ((acc++flat (ss.take k)).length:Int)):=by rw[Lib.cell_of_heap hbk];rfl
    have f3:wr.frozen? ⟨g,3,none⟩=false:=Lib.frozen_of_heap hbk 3
    have hln:(acc++flat (ss.take k)).length≤50000000000:=by rw[List.length_append];omega
    have hln2:(acc++flat (ss.take k)).length+s.size≤50000000000:=by rw[List.length_append];omega
    have hz:=hbl.lt
    have hfin:acc++flat (ss.take (k+1))=(acc++flat (ss.take k))++s.data.toList:=by rw[htk,flat_snoc,List.append_assoc]
    generalize acc++flat (ss.take k)=L at*
    have Hfin:=Lib.hid hfin
    have he:((L.length:Int)+(s.size:Int))=((L++s.data.toList).length:Int):=by rw[List.length_append,←Lib.size_eq];omega
    have He:=Lib.hid he
    clear hfin he hbk htk hfl
    cases keeps
    · have hbs:Bld (wr.setCell ⟨g,3,none⟩ (.int .i64 ((L.length:Int)+(s.size:Int)))) B g 1 130 #[.bool false,p,v, .int .i64 ((L.length:Int)+(s.size:Int))] []:=hbl.other 3 (by omega) (by omega) _
      go_wp2
      go_roundw
      case rel=>
       refine⟨k+1,by omega,by go_num, ?_,hb.setCell (p:=⟨g,3,none⟩) hB _,hkp.setCell ⟨g,3,none⟩ rfl _⟩
       rw[Hfin.out]
       rw[He.out]at hbs ⊢
       exact⟨p,v,hbs⟩
      case measure=>simp[intOf];omega
    · have hbs:Bld (wr.setCell ⟨g,3,none⟩ (.int .i64 ((L.length:Int)+(s.size:Int)))) B g 1 130 #[.bool true,p,v, .int .i64 ((L.length:Int)+(s.size:Int))] L:=hbl.other 3 (by omega) (by omega) _
      go_wp2_with (go_at_call 160;refine(WriteString_calls B g 1 _ _ L s _ hbs liesW (by omega) (by simp[World.setCell];omega)).mono ?_;rintro e w2 ⟨rfl,⟨v',hb2⟩,hbw2,hk2⟩)
      go_roundw
      case rel=>
       refine⟨k+1,by omega,by go_num, ?_,(hb.setCell (p:=⟨g,3,none⟩) hB _).trans hbw2,(hkp.setCell ⟨g,3,none⟩ rfl _).trans hk2⟩
       rw[Hfin.out]
       rw[He.out]at hb2
       exact⟨_,v',hb2⟩
      case measure=>simp[intOf];omega
  · obtain rfl:k=ss.length:=by omega
    rw[List.take_length]at hw
    have Hw:=Lib.hid hw
    clear hw
    go_wp2
    go_end0
    exact⟨rfl,Hw.out,hb,hkp⟩
end Go.Proofs.YtackmnbpfbaemaaGreatDoor

namespace Go.Proofs.YtackmnbpfbaemaaGreatDoor
open Go Go.RowKit
structure MKey {α:Type} [DecidableEq α] (P:Program) (kt:TypeId) (f:α→Value):Prop where
 under: ∃d,P.underlying kt=some d∧ ∀a b,Instr.sameNow d (f a) (f b)=some (decide (a=b))
 check: ∀e w a,(Instr.checkKey e 10000 kt (f a)).run P w= .ok () w
theorem ba_beq (a b:ByteArray):(a==b)=decide (a=b):=by
 obtain⟨a⟩:=a
 obtain⟨b⟩:=b
 have h:((⟨a⟩:ByteArray)==⟨b⟩)=(a==b):=rfl
 rw[h]
 by_cases e:a=b<;>simp[e]
theorem mkey_string {P:Program} {kt:TypeId} (h:P.underlying kt=some .string):MKey P kt Value.string:=by
 refine⟨⟨_,h,fun a b=> ?_⟩,fun e w a=> ?_⟩
 · simp only[Instr.sameNow]
   congr 1
   exact ba_beq a b
 · have key: ∀n,(Instr.checkKey e (n+1) kt (.string a)).run P w= .ok () w:=fun n=>by simp[Instr.checkKey,run_underlying h]
   exact key 9999
theorem mkey_int {P:Program} {kt:TypeId} {q:IntKind} (h:P.underlying kt=some (.int q)):MKey P kt (Value.int q):=by
 refine⟨⟨_,h,fun a b=> ?_⟩,fun e w a=> ?_⟩
 · simp only[Instr.sameNow,if_true]
   congr 1
 · have key: ∀n,(Instr.checkKey e (n+1) kt (.int q a)).run P w= .ok () w:=fun n=>by simp[Instr.checkKey,run_underlying h]
   exact key 9999
section
variable {α:Type}
def entsM (f:α→Value):List (α×Value)→Nat→List MapEntry
 | [],_=> []
 |(k,v)::r,i=>{key:=f k,val:=v,born:=i}::entsM f r (i+1)
def MapAt (f:α→Value) (w:World) (g:Nat) (kv:List (α×Value)):Prop:=w.heap[g]? =some (.map (entsM f kv 0).toArray kv.length)
def findM [DecidableEq α] (a:α):List (α×Value)→Option Value
 | []=>none
 |(k,v)::r=>if a=k then some v else findM a r
variable {f:α→Value} {P:Program} {kt et t:TypeId} {w w':World} {g:Nat} {kv:List (α×Value)}
theorem entsM_append: ∀(kv:List (α×Value)) (i:Nat) (k:α) (v:Value),entsM f (kv++ [(k,v)]) i=entsM f kv i++ [{key:=f k,val:=v,born:=i+kv.length}]
 | [],i,k,v=>by simp[entsM]
 |(a,b)::r,i,k,v=>by
  simp only[List.cons_append,entsM,entsM_append r,List.length_cons]
  rw[show i+1+r.length=i+(r.length+1)from by omega]
theorem MapAt.lt (h:MapAt f w g kv):g<w.heap.size:=by
 rcases Nat.lt_or_ge g w.heap.size with h1|h1
 · exact h1
 · unfold MapAt at h;rw[Array.getElem?_eq_none h1]at h;cases h
theorem MapAt.keep (h:MapAt f w g kv) (hk:w'.heap[g]? =w.heap[g]?):MapAt f w' g kv:=hk.trans h
theorem MapAt.below {B:Nat} (h:MapAt f w g kv) (hb:Below B w w') (hg:g<B):MapAt f w' g kv:=(hb.block g hg).trans h
theorem MapAt.alloc (h:MapAt f w g kv) (o:Obj):MapAt f (w.alloc o) g kv:=(Below.heap_alloc w o g h.lt).trans h
theorem MapAt.new (w:World):MapAt f (w.alloc (.map #[] 0)) w.heap.size []:=heap_alloc_new w _
theorem MapAt.setCell (h:MapAt f w g kv) {p:Addr} (hp:g≠p.block) (u:Value):MapAt f (w.setCell p u) g kv:=(Below.heap_setCell w p u g hp).trans h
variable [DecidableEq α]
theorem findNow_M {d:TypeDesc} (hd: ∀a b,Instr.sameNow d (f a) (f b)=some (decide (a=b))) (a:α): ∀(kv:List (α×Value)) (i j:Nat),∃q,Instr.findNow d (f a) (entsM f kv i) j=some q∧q.map (·.2)=findM a kv
 | [],_,_=>⟨none,rfl,rfl⟩
 |(k,v)::r,i,j=>by
  by_cases h:a=k
  · exact⟨some (j,v),by simp[entsM,Instr.findNow,hd,h],by simp[findM,h]⟩
  · obtain⟨q,h1,h2⟩:=findNow_M hd a r (i+1) (j+1)
    exact⟨q,by simp[entsM,Instr.findNow,hd,h,h1],by rw[h2];simp[findM,h]⟩
theorem run_insertM (K:MKey P kt f) (ht:P.underlying t=some (.map kt et)) (h:MapAt f w g kv) {a:α} (hn:findM a kv=none) (v:Value):
 ∃w',(Instr.mapUpdate t (.map (some g)) (f a) v).run P w= .ok () w'∧MapAt f w' g (kv++ [(a,v)])∧w.grownBy w' (some g)∧w'.heap.size=w.heap.size:=by
 obtain⟨d,hd,hs⟩:=K.under
 obtain⟨q,h1,h2⟩:=findNow_M hs a kv 0 0
 rw[hn]at h2
 have hq:q=none:=by cases q<;>simp_all
 subst hq
 have hck:=K.check false w a
 have hfk:(Instr.findKey kt (f a) (entsM f kv 0)).run P w= .ok none w:=by simp[Instr.findKey,Sem.run_bind,run_underlying hd,h1]
 have hlt:=h.lt
 refine⟨{w with heap:=w.heap.setIfInBounds g (.map ((entsM f kv 0).toArray.push {key:=f a,val:=v,born:=kv.length}) (kv.length+1))}, ?_, ?_, ?_, ?_⟩
 · have hb:w.heap[g]? =some (.map (entsM f kv 0).toArray kv.length):=h
   unfold Instr.mapUpdate
   simp only[Sem.run_bind,run_underlying ht,Result.andThen,getObj,Sem.run,hb,hck,hfk,setObj]
 · unfold MapAt
   simp[hlt,entsM_append]
 · exact⟨rfl,rfl,rfl,by simp,fun k hk hne=>by simp only[Array.getElem?_setIfInBounds];rw[if_neg];rintro rfl;exact hne rfl⟩
 · simp
theorem wpList_insertM {ops:Array Oper} {rest:List Oper} {o:Oper} {a:Act} {Q:Exit→Act→World→Prop} (hg:o.guard=none) (m x u:Operand) (t:TypeId) (hop:o.op=Op.insert t m x u)
 (K:MKey P kt f) (ht:P.underlying t=some (.map kt et)) (hm:a.eval m= .map (some g)) (h:MapAt f w g kv) {k:α} {v:Value} (hx:a.eval x=f k) (hv:a.eval u=v) (hn:findM k kv=none)
 (hK: ∀w',MapAt f w' g (kv++ [(k,v)])→w.grownBy w' (some g)→w'.heap.size=w.heap.size→wpList P ops Q rest (a.put o.dst undef) w'):wpList P ops Q (o::rest) a w:=by
 refine wpList_plain hg fun K' hK'=> ?_
 obtain⟨w',hrun,r1,r2,r3⟩:=run_insertM K ht h hn v
 unfold Oper.wp
 simp[execOp,hop,hm,hx,hv,hrun,Result.andThen]
 exact hK' _ _ (hK w' r1 r2 r3)
theorem run_lookM (K:MKey P kt f) (ht:P.underlying t=some (.map kt et)) (h:MapAt f w g kv) (a:α) {z:Value} (hz: ∀w,(zeroValue et).run P w= .ok z w) (c:Bool):
 (Instr.lookup t (.map (some g)) (f a) c).run P w= .ok (if c then .tuple #[(findM a kv).getD z, .bool (findM a kv).isSome]else(findM a kv).getD z) w:=by
 obtain⟨d,hd,hs⟩:=K.under
 obtain⟨q,h1,h2⟩:=findNow_M hs a kv 0 0
 have hck:=fun e=>K.check e w a
 have hfk:(Instr.findKey kt (f a) (entsM f kv 0)).run P w= .ok q w:=by simp[Instr.findKey,Sem.run_bind,run_underlying hd,h1]
 have hb:w.heap[g]? =some (.map (entsM f kv 0).toArray kv.length):=h
 unfold Instr.lookup
 simp only[Sem.run_bind,run_underlying ht,Result.andThen,getObj,Sem.run,hb]
 cases q with
 |none=>
  have:findM a kv=none:=by cases hq:findM a kv<;>simp_all
  rw[this]
  cases c<;>simp[hck,hfk,hz w,Result.andThen]
 |some p=>
  obtain⟨i,v⟩:=p
  have:findM a kv=some v:=by rw[←h2];rfl
  rw[this]
  cases c<;>simp[hck,hfk]
end
end Go.Proofs.YtackmnbpfbaemaaGreatDoor
