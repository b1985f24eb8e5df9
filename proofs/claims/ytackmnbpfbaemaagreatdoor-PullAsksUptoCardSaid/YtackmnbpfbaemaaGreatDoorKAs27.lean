/- Parts, joined: slices.Clone of members. Condition: at most 10^8 of them. patch.zero, patch.follows, patch.strange. No condition. A row of members sorted by their keys, by slices.SortFunc. Condition: no key twice. pull.requestNumbers: where a pull's numbers stand. No condition. -/
import Derived.Test.YtackmnbpfbaemaaGreatDoorProg
import Derived.WalkSpells
import Derived.Lib.Hide
import Derived.WalkKit
import Derived.Test.YtackmnbpfbaemaaGreatDoorZShelf
import Derived.Test.YtackmnbpfbaemaaGreatDoorZShelfS
import Derived.Shelf.SlSortCmp.WholeK
import Derived.Deep.RegionHeld3
import Derived.Below
import Derived.Test.YtackmnbpfbaemaaGreatDoorKAs3
import Derived.Test.YtackmnbpfbaemaaGreatDoorKAs13
import Derived.Test.YtackmnbpfbaemaaGreatDoorKAs18
import Derived.Test.YtackmnbpfbaemaaGreatDoorKAs22
import Derived.Test.YtackmnbpfbaemaaGreatDoorKAs24
namespace Go.Proofs.YtackmnbpfbaemaaGreatDoor
open Go.RowKit
def ClonePost (w:World) (o:List (ByteArray×Val)) (e:Ending) (w':World):Prop:= ∃V ns,e= .returned V∧w'.ownsRow w.heap.size 63 7 V o.length ns∧HoldsA w w.heap.size (dO o) ns∧Below w.heap.size w w'
set_option maxRecDepth 100000 in
theorem clone_calls (o:List (ByteArray×Val)) (a:Option Addr) (n c:Nat) (w:World) (h:Holds w w.heap.size (.row 7 (dO o)) [.slice a n c]) (hn:o.length≤100000000):
 Calls Tryz.prog 69 #[.slice a n c] w (ClonePost w o):=by
 have hl:=h.row_len
 rw[dO_len]at hl
 subst hl
 obtain⟨ns,hr,hA,ho⟩:=h.reads
 have hnil:=fun W=>Lib.run_eql_slice_nil (P:=Tryz.prog) W 37 63 a o.length c 0 0 Tryz.underlying37
 cases a with
 |none=>
  have h0:o.length=0:=by
   rcases Nat.eq_zero_or_pos o.length with h0|h0
   · exact h0
   · obtain⟨ad,e,_⟩:=hr.2 h0
     cases e
  have hns:ns= []:=List.eq_nil_of_length_eq_zero (by rw[hr.1,h0])
  subst hns
  have H0:=Lib.hid h0
  have HA:=Lib.hid hA
  clear h0 hA
  clear h hr ho
  go_enter Tryz.func69,Tryz.ntmps69
  go_wp2
  go_ret
  exact⟨.slice none 0 0, [],rfl,by rw[H0.out];exact World.ownsRow_nil _ _ _ _,HA.out,Below.refl _ _⟩
 |some ad=>
  obtain⟨j0,hj,hy0,hy1,hy2⟩:=info_parts info_mem
  have Hj:=Lib.hid hj
  have Hy0:=Lib.hid hy0
  have Hy1:=Lib.hid hy1
  have Hy2:=Lib.hid hy2
  have Hr:=Lib.hid hr
  have HA:=Lib.hid hA
  have Ho:=Lib.hid ho
  clear hj hy0 hy1 hy2 hr hA ho
  clear h
  go_enter Tryz.func69,Tryz.ntmps69
  have HOwn:Hid ((w.alloc (.cells #[] 63)).ownsRow w.heap.size 63 7 (.slice (some ⟨w.heap.size,0,none⟩) 0 0) 0 []):=
   ⟨by simp, .inr ⟨w.heap.size,0, #[],rfl,Nat.le_refl _,heap_alloc_new _ _,Nat.le_refl _,by unfold maxLen;omega,by simp,by simp⟩⟩
  go_wp2_with (at_builtin;refine wpList_append_any _ rfl (.tmp 5) (.tmp 6) 37 rfl w.heap.size 63 j0 (.agg #[.string ⟨#[]⟩, .int .i64 0, .bool false, .int .i64 0, .string ⟨#[]⟩, .slice none 0 0, .slice none 0 0]) 7 104 Tryz.underlying37 Hj.out Hy0.out Hy1.out Hy2.out rfl (by omega) (.slice (some ⟨w.heap.size,0,none⟩) 0 0) 0 [] rfl HOwn.out w.heap.size _ o.length _ ns rfl ?c0 ?c1 ?c2 ?c3 ?c4 ?_)
  case c0=>exact Hr.out.alloc (Nat.le_refl _) _
  case c1=>exact Ho.out
  case c2=>unfold maxLen;omega
  case c3=>omega
  case c4=>simp
  intro v1 w1 hown1 hgrow1 _
  have hb:Below w.heap.size w w1:=((Below.refl _ _).alloc (Nat.le_refl _) _).grown hgrow1 (by simp) (fun g hg=>by simp[Value.ownBlock]at hg;omega)
  have Hown1:=Lib.hid hown1
  have Hb:=Lib.hid hb
  clear hown1 hb
  clear hgrow1
  go_wp2
  go_ret
  exact⟨v1,ns,rfl,by simpa using Hown1.out,HA.out,Hb.out⟩
end Go.Proofs.YtackmnbpfbaemaaGreatDoor

namespace Go.Proofs.YtackmnbpfbaemaaGreatDoor
open Go.RowKit
set_option maxRecDepth 100000 in
theorem zero_calls (k:Int) (b:Bool) (n:Int) (t:ByteArray) (la oa:Option Addr) (ln lc on oc:Nat) (B:Bool) (w:World) (h:zero6B k b n t ln on=B):
 Calls Tryz.prog 133 #[.agg #[.int .i64 k, .bool b, .int .i64 n, .string t, .slice la ln lc, .slice oa on oc]] w fun e w'=>e= .returned (.bool B)∧Below w.heap.size w w':=by
 have fin: ∀X:Bool,X=zero6B k b n t ln on→Ending.returned (.bool X)= .returned (.bool B):=fun X hX=>by rw[hX,h]
 have Fin:=Lib.hid fin
 clear fin h
 go_enter Tryz.func133,Tryz.ntmps133
 go_wp2
 all_goals(go_ret;refine⟨Fin.out _ ?_,alloc_below _ _⟩;simp_all[zero6B,beq_cast])
set_option maxRecDepth 100000 in
theorem follows_calls (k k':Int) (s s':ByteArray) (a0 a1 a2 a3 a4 a5 b0 b1 b2 b3 b4 b5:Value) (B:Bool) (w:World) (h:(decide (k'≠3)&&(decide (k=3)||Op.bytesLess s.toList s'.toList))=B):
 Calls Tryz.prog 94 #[.agg #[.int .i64 k, .string s,a0,a1,a2,a3,a4,a5], .agg #[.int .i64 k', .string s',b0,b1,b2,b3,b4,b5]] w fun e w'=>e= .returned (.bool B)∧Below w.heap.size w w':=by
 have fin: ∀X:Bool,X=(decide (k'≠3)&&(decide (k=3)||Op.bytesLess s.toList s'.toList))→Ending.returned (.bool X)= .returned (.bool B):=fun X hX=>by rw[hX,h]
 have Fin:=Lib.hid fin
 clear fin h
 go_enter Tryz.func94,Tryz.ntmps94
 go_wp2
 all_goals(go_ret;refine⟨Fin.out _ ?_,(alloc_below _ _).alloc (by simp) _⟩;first|(simp_all;done)|(simp only[bne_dec,beq_dec]))
set_option maxRecDepth 100000 in
theorem strange_calls (k:Int) (s:ByteArray) (k':Int) (b:Bool) (n:Int) (t:ByteArray) (la oa:Option Addr) (ln lc on oc:Nat) (B:Bool) (w:World)
 (h:(if k=1 then false else if k=2 then !zero6B k' b n t ln on else if k=3 then !s.toList.isEmpty|| !zero6B k' b n t ln on else true)=B):
 Calls Tryz.prog 93 #[.agg #[.int .i64 k, .string s, .int .i64 k', .bool b, .int .i64 n, .string t, .slice la ln lc, .slice oa on oc]] w fun e w'=>e= .returned (.bool B)∧Below w.heap.size w w':=by
 obtain⟨Z,hZ⟩: ∃Z,zero6B k' b n t ln on=Z:=⟨_,rfl⟩
 rw[hZ]at h
 have fin: ∀X:Bool,X=(if k=1 then false else if k=2 then !Z else if k=3 then !s.toList.isEmpty|| !Z else true)→Ending.returned (.bool X)= .returned (.bool B):=fun X hX=>by rw[hX,h]
 have hcz:=fun W=>zero_calls k' b n t la oa ln lc on oc Z W hZ
 have Fin:=Lib.hid fin
 have Hcz:=Lib.hid hcz
 clear fin hcz
 clear hZ h
 go_enter Tryz.func93,Tryz.ntmps93
 go_wp2_with (go_at_call 133;refine(Hcz.out _).mono ?_;rintro e w1 ⟨rfl,hb1⟩)
 all_goals first
  |(go_ret;refine⟨Fin.out _ ?_,alloc_below _ _⟩;(by_cases e1:k=1<;>by_cases e2:k=2<;>by_cases e3:k=3<;>cases Z<;>simp_all))
  |(go_ret;refine⟨Fin.out _ ?_,(alloc_below _ _).trans (hb1.mono (by simp))⟩;(by_cases e1:k=1<;>by_cases e2:k=2<;>by_cases e3:k=3<;>cases Z<;>simp_all))
end Go.Proofs.YtackmnbpfbaemaaGreatDoor

namespace Go.Proofs.YtackmnbpfbaemaaGreatDoor
open Go Go.RowKit
theorem cmp_neg_iff: ∀a b:List UInt8,Lib.compareBytes a b<0 ↔ Op.bytesLess a b=true
 | [], []=>by decide
 | [],_::_=>by simp[Lib.compareBytes,Op.bytesLess]
 |_::_, []=>by simp[Lib.compareBytes,Op.bytesLess]
 |a::x,b::y=>by
  have ih:=cmp_neg_iff x y
  have e1:Lib.compareBytes (a::x) (b::y)=if a<b then -1 else if b<a then 1 else Lib.compareBytes x y:=rfl
  have e2:Op.bytesLess (a::x) (b::y)=(decide (a<b)||(a==b&&Op.bytesLess x y)):=rfl
  rw[e1,e2]
  by_cases h:a<b
  · rw[if_pos h];simp[h]
  · rw[if_neg h]
    by_cases h':b<a
    · rw[if_pos h']
      have hne:(a==b)=false:=by rw[beq_eq_false_iff_ne];rintro rfl;exact absurd h' h
      simp[h,hne]
    · rw[if_neg h',ih]
      have hab:a=b:=UInt8.toNat_inj.1 (by rw[UInt8.lt_iff_toNat_lt]at h h';omega)
      subst hab
      simp[h]
theorem cmp_neg (a b:List UInt8):decide (Lib.compareBytes a b<0)=Op.bytesLess a b:=by
 rw[Bool.eq_iff_iff,decide_eq_true_iff];exact cmp_neg_iff a b
structure MC where
 key:ByteArray
 val:Val
 cs:List Value
 len:cs.length=6
 one: ∀v ∈ cs,v.oneCell'=true
instance:Inhabited MC:=⟨⟨emptyB,nullV, [.int .i64 0, .int .i64 0, .int .i64 0, .int .i64 0, .int .i64 0, .int .i64 0],rfl,by simp[Value.oneCell']⟩⟩
def MC.enc (x:MC):List Value:= .string x.key::x.cs
def MC.pair (x:MC):ByteArray×Val:=(x.key,x.val)
def cfM (x y:MC):Int:=Lib.compareBytes x.key.data.toList y.key.data.toList
theorem ltMC (x y:MC):ltOf cfM x y=ltB x.key y.key:=by
 unfold ltOf cfM ltB
 rw[cmp_neg,Lib.toList_data,Lib.toList_data]
theorem swoMC:Sort.SWO (ltOf cfM) where
 irrefl x:=by rw[ltMC];exact ltB_irrefl _
 trans x y z:=by simp only[ltMC];exact ltB_trans
 ntrans x y z:=by
  simp only[ltMC]
  intro h1 h2
  cases h3:ltB x.key z.key with
  |false=>rfl
  |true=>
   exfalso
   rcases ltB_tri y.key x.key with h|h|h
   · have:=ltB_trans h h3;rw[h2]at this;cases this
   · rw[←h]at h3;rw[h2]at h3;cases h3
   · rw[h1]at h;cases h
theorem encMC_len (x:MC):x.enc.length=7:=by simp[MC.enc,x.len]
theorem encMC_one (x:MC): ∀v ∈ x.enc,v.oneCell'=true:=by
 intro v hv
 rcases List.mem_cons.1 hv with rfl|hv
 · rfl
 · exact x.one v hv
theorem six_list {l:List Value} (h:l.length=6): ∃a b c d e f,l= [a,b,c,d,e,f]:=by
 match l,h with
 | [a,b,c,d,e,f],_=>exact⟨a,b,c,d,e,f,rfl⟩
set_option maxRecDepth 100000 in
set_option maxHeartbeats 2000000 in
theorem closeM (x y:MC) (W:World):Calls Tryz.prog 205 #[.agg x.enc.toArray, .agg y.enc.toArray] W fun e w'=>e= .returned (.int .i64 (cfM x y))∧ ∃q os,w'=Sort.grow (W.drewN q) os:=by
 obtain⟨kx,vx,cx,lx,ox⟩:=x
 obtain⟨ky,vy,cy,ly,oy⟩:=y
 obtain⟨a0,a1,a2,a3,a4,a5,rfl⟩:=six_list lx
 obtain⟨b0,b1,b2,b3,b4,b5,rfl⟩:=six_list ly
 have hC:=fun W=>Tryz.strings_Compare kx ky W
 have hA:=Sort.alloc_eq_grow
 simp only[MC.enc,cfM]
 generalize Lib.compareBytes kx.data.toList ky.data.toList=r at hC ⊢
 have n0:=ox a0 (by simp)
 have n1:=ox a1 (by simp)
 have n2:=ox a2 (by simp)
 have n3:=ox a3 (by simp)
 have n4:=ox a4 (by simp)
 have n5:=ox a5 (by simp)
 have m0:=oy b0 (by simp)
 have m1:=oy b1 (by simp)
 have m2:=oy b2 (by simp)
 have m3:=oy b3 (by simp)
 have m4:=oy b4 (by simp)
 have m5:=oy b5 (by simp)
 have HC:=Lib.hid hC
 have HA:=Lib.hid hA
 clear hC hA
 go_enter Tryz.func205,Tryz.ntmps205
 go_wp2_with (fail)
 with_reducible refine(HC.out _).mono ?_
 rintro e w2 ⟨rfl,rfl⟩
 go_wp2
 go_ret
 refine⟨rfl,0, #[.cells #[.string kx,a0,a1,a2,a3,a4,a5] 63, .cells #[.string ky,b0,b1,b2,b3,b4,b5] 63], ?_⟩
 rw[HA.out,HA.out,Sort.grow_grow]
 rfl
theorem flat_at (k:Nat) (hk:0<k): ∀(l:List MC) (t:Nat),(∀x ∈ l,x.enc.length=k)→(l.flatMap MC.enc)[t]? =(l[t / k]?).bind fun x=>x.enc[t % k]?
 | [],t,_=>by simp
 |x::r,t,h=>by
  have hx:=h x (by simp)
  rw[List.flatMap_cons]
  by_cases ht:t<k
  · rw[List.getElem?_append_left (by omega),Nat.div_eq_of_lt ht,Nat.mod_eq_of_lt ht];simp
  · rw[List.getElem?_append_right (by omega),hx,flat_at k hk r (t - k) (fun y hy=>h y (by simp[hy]))]
    have h1:t / k=(t - k) / k+1:=by rw[Nat.div_eq_sub_div hk (by omega)]
    have h2:t % k=(t - k) % k:=Nat.mod_eq_sub_mod (by omega)
    rw[h1,h2,List.getElem?_cons_succ]
theorem flatMC_len: ∀l:List MC,(l.flatMap MC.enc).length=l.length*7
 | []=>rfl
 |x::r=>by rw[List.flatMap_cons,List.length_append,flatMC_len r,encMC_len,List.length_cons];omega
theorem flatK_eq (l:List MC):Sort.flatK MC.enc 7 l.toArray=(l.flatMap MC.enc).toArray:=by
 apply Array.ext
 · rw[Sort.size_flatK,List.size_toArray,List.size_toArray,flatMC_len]
 · intro t h1 h2
   rw[Sort.size_flatK,List.size_toArray]at h1
   have e1:=Sort.get_flatK MC.enc 7 l.toArray t (by simpa using h1)
   have e2:=flat_at 7 (by decide) l t (fun x _=>encMC_len x)
   have hd:t / 7<l.length:=by omega
   have hm:t % 7<(l[t / 7]).enc.length:=by rw[encMC_len];omega
   rw[List.getElem?_eq_getElem hd,Option.bind_some,List.getElem?_eq_getElem hm]at e2
   have e3:(l.flatMap MC.enc)[t]'(by simpa using h2)=(l[t / 7]).enc[t % 7]:=by
    rw[List.getElem?_eq_getElem (by simpa using h2)]at e2;exact Option.some.inj e2
   rw[getElem!_pos _ t (by rw[Sort.size_flatK];simpa using h1)]at e1
   rw[e1,List.getElem_toArray,e3]
   have e4:(l.toArray)[t / 7]! =l[t / 7]:=by rw[getElem!_pos _ _ (by simpa using hd)];simp
   rw[e4,getElem!_pos (l[t / 7]).enc (t % 7) hm]
theorem cells_of {F:World→Prop} {B:Nat}: ∀(acc:List (ByteArray×Val)) (ns:List Value),(∃w,F w)→(∀w'',F w''→HoldsA w'' B (dO acc) ns)→
 ∃d:List MC,d.map MC.pair=acc∧ns=d.flatMap MC.enc∧ ∀w'',F w''→ ∀x ∈ d,Holds w'' B (dP x.pair) x.enc
 | [],ns,⟨w,hw⟩,h=>⟨[],rfl,h w hw,by simp⟩
 |m::r,ns,⟨w,hw⟩,h=>by
  have h0:=h w hw
  simp only[dO,HoldsA]at h0
  obtain⟨c1,c2,rfl,h1,h2⟩:=h0
  have l1:=h1.len
  rw[dP_cells]at l1
  have h1':=h1
  obtain⟨k,v⟩:=m
  simp only[dP,Holds,HoldsA]at h1'
  obtain⟨e1,e2,rfl,⟨rfl,_⟩,e3,e4,rfl,hV,rfl⟩:=h1'
  rw[List.append_nil]at*
  have l6:e3.length=6:=by have:=l1.1;simp at this;omega
  have key: ∀w'',F w''→Holds w'' B (dP (k,v)) (.string k::e3)∧HoldsA w'' B (dO r) c2:=by
   intro w'' hw''
   have h3:=h w'' hw''
   simp only[dO,HoldsA]at h3
   obtain⟨f1,f2,e,g1,g2⟩:=h3
   have l2:=g1.len.1
   rw[dP_cells]at l2
   obtain⟨rfl,rfl⟩:=List.append_inj e (by rw[l2];simpa using l6)
   exact⟨g1,g2⟩
  obtain⟨d,d1,d2,d3⟩:=cells_of r c2 ⟨w,hw⟩ (fun w'' hw''=>(key w'' hw'').2)
  refine⟨⟨k,v,e3,l6,fun u hu=>l1.2 u (by simp[hu])⟩::d,by simp[MC.pair,d1],by simp[MC.enc,d2],fun w'' hw'' x hx=> ?_⟩
  rcases List.mem_cons.1 hx with rfl|hx
  · exact(key w'' hw'').1
  · exact d3 w'' hw'' x hx
theorem holds_of_cells {w:World} {B:Nat}: ∀(d:List MC),(∀x ∈ d,Holds w B (dP x.pair) x.enc)→HoldsA w B (dO (d.map MC.pair)) (d.flatMap MC.enc)
 | [],_=>rfl
 |x::r,h=>by
  simp only[List.map_cons,dO,List.flatMap_cons,HoldsA]
  exact⟨x.enc,_,rfl,h x (by simp),holds_of_cells r (fun y hy=>h y (by simp[hy]))⟩
theorem sorted_pairs {d d':List MC} (hp:d'.Perm d) (hn:((d.map MC.pair).map (·.1)).Nodup) (hs: ∀i j,(hij:i<j)→(h:j<d'.length)→ltB (d'[j]).key (d'[i]'(by omega)).key=false):d'.map MC.pair=sortO (d.map MC.pair):=by
 obtain⟨_,s2,s3⟩:=sortO_some hn
 refine asc_unique ?_ s2 ((hp.map MC.pair).trans s3.symm)
 have hn':((d'.map MC.pair).map (·.1)).Nodup:=(((hp.map MC.pair).map (·.1)).nodup_iff).2 hn
 unfold ascO
 rw[List.pairwise_iff_getElem]
 intro i j hi hj hij
 simp only[List.length_map]at hi hj
 simp only[List.getElem_map,MC.pair]
 rcases ltB_tri (d'[i]).key (d'[j]).key with h|h|h
 · exact h
 · rw[List.map_map,List.nodup_iff_pairwise_ne,List.pairwise_iff_getElem]at hn'
   exact absurd (by rw[List.getElem_map,List.getElem_map];exact h) (hn' i j (by simpa using hi) (by simpa using hj) hij)
 · rw[hs i j hij hj]at h;cases h
theorem put_heap {w:World} {g n:Nat} {os:Array Obj} {cur F:Array Value} {e:TypeId} {fr:Nat×Nat} (hb:w.heap[g]? =some (.cells cur e fr)):
 (Sort.grow (Sort.putRow id (Sort.ahead w n) g 0 F) os).heap[g]? =some (.cells (Sort.putCells id 0 F cur) e fr):=by
 have hg:g<w.heap.size:=(Array.getElem?_eq_some_iff.1 hb).1
 rw[Sort.heap_grow_old _ _ (by simpa using hg)]
 simp[Sort.putRow,Sort.mapBlock,Sort.ahead,Array.getElem?_modify,hb,Sort.onCells]
theorem put_grownBy {w:World} {g n:Nat} {os:Array Obj} (F:Array Value):w.grownBy (Sort.grow (Sort.putRow id (Sort.ahead w n) g 0 F) os) (some g):=by
 refine⟨rfl,rfl,rfl,by simp,fun k hk hne=> ?_⟩
 rw[Sort.heap_grow_old _ _ (by simpa using hk)]
 have:g≠k:=fun e=>hne (by rw[e])
 simp[Sort.putRow,Sort.mapBlock,Sort.ahead,Array.getElem?_modify,this]
set_option maxHeartbeats 1000000 in
theorem sortRow_calls {b:Nat} {w:World} {acc:List (ByteArray×Val)} {V:Value} (hr:RowD b 63 7 w (dO acc) V) (hb:b≤w.heap.size) (hn:(acc.map (·.1)).Nodup) (hlen:acc.length≤1000000000):
 Calls Tryz.prog 204 #[V, .func (.func 205) #[] #[]] w fun e w'=>e= .returned (.tuple #[])∧w.grownBy w' V.ownBlock∧Fresh b w' (.row 7 (dO (sortO acc))) [V]:=by
 have hr0:=hr
 obtain⟨ns,h1,h2,h3⟩:=hr
 rcases h1.2 with⟨rfl,h0⟩|⟨g,cap,cur,rfl,hbg,hg,hnc,_,hsz,htk⟩
 · have hl:acc= []:=by rw[dO_len]at h0;exact List.eq_nil_of_length_eq_zero h0
   subst hl
   refine(AnyF.slices_SortFunc_none Tryz.sortFunc none 0 (.func (.func 205) #[] #[]) w).mono ?_
   rintro e w' ⟨rfl,rfl⟩
   exact⟨rfl,World.grownBy.refl _ _,fun _ _ _=>⟨none,0,rfl,by simp[sortO,objAll,dO], [],rfl,by simp[sortO,objAll,dO]⟩⟩
 · have hgl:=(Array.getElem?_eq_some_iff.1 hg).1
   obtain⟨d,rfl,rfl,d3⟩:=cells_of (F:=fun w''=>w.heap.size≤w''.heap.size∧ ∀p:Addr,b≤p.block→p.block<w.heap.size→(Value.slice (some ⟨g,0,none⟩) (dO acc).length cap).ownBlock≠some p.block→w''.cell? p=w.cell? p) acc ns ⟨w,Nat.le_refl _,fun _ _ _ _=>rfl⟩ (fun w'' hw=>h3 w'' hw.1 hw.2)
   have hdl:(dO (d.map MC.pair)).length=d.toArray.size:=by rw[dO_len];simp
   have hH:Sort.HoldsK MC.enc 7 w g 0 d.toArray:=by
    unfold Sort.HoldsK
    rw[flatK_eq]
    intro j hj
    have hj':j<(d.flatMap MC.enc).length:=by simpa using hj
    have h5:=h1.cells (g:=g) rfl j ((d.flatMap MC.enc)[j]) (List.getElem?_eq_getElem hj')
    rw[add_plain']at h5
    rw[getElem!_pos _ j hj]
    exact⟨h5,(show Blk w g 63 cur from hg).frozen _⟩
   have eg: ∀args w,(callFunc 205 args).run Tryz.prog w= .ok (.enter 205 args) w:=enters_of Tryz.func205 (by kernel_rfl) rfl
   have hC:CmpLays Tryz.prog 205 #[] MC.enc 7 cfM g 0 d.toArray.size w:=fun m os dk _ x y=>closeM x y _
   have hS:=AnyQ.slices_SortFunc Tryz.sortFunc 7 (fun w=>by kernel_rfl) (fun w=>by kernel_rfl) MC.enc encMC_len encMC_one cfM swoMC 205 #[] g 0 cap d.toArray w eg hC hH hgl (by simp at hlen ⊢;omega)
   rw[hdl]
   refine hS.mono ?_
   rintro e w' ⟨rfl,d',n,os,hp,hso,rfl⟩
   obtain⟨p1,_,p3⟩:=hp
   rw[Array.extract_size,←p1,Array.extract_size]at p3
   have hpe:d'.toList.Perm d:=by simpa using p3
   have hsp:=sorted_pairs hpe hn (fun i j hij hj=>by
    have:=hso i j (Nat.zero_le _) hij (by rw[←p1];simpa using hj)
    rw[ltMC,getElem!_pos d' j (by simpa using hj),getElem!_pos d' i (by have:j<d'.size:=(by simpa using hj);omega)]at this
    simpa using this)
   have hF:Sort.flatK MC.enc 7 d'=(d'.toList.flatMap MC.enc).toArray:=by rw[←flatK_eq]
   have hgb:w.grownBy (sortWorldK MC.enc 7 w g 0 n d' os) (some g):=put_grownBy _
   refine⟨rfl,hgb,fun w'' k1 k2=> ?_⟩
   have hsl:(sortO (d.map MC.pair)).length=d.toArray.size:=by rw[←hsp,List.length_map,Array.length_toList,p1]
   refine⟨_,cap,by rw[dO_len,hsl],dO_cells _,d'.toList.flatMap MC.enc, ?_, .inr ⟨g,0,rfl,Nat.lt_of_lt_of_le hgl hgb.size,fun j u hu=> ?_⟩⟩
   · rw[←hsp]
     refine holds_of_cells _ fun x hx=> ?_
     have hxd:x ∈ d:=hpe.mem_iff.1 hx
     refine Holds.more (d3 w'' ⟨Nat.le_trans hgb.size k1,fun p q1 q2 q3=> ?_⟩ x hxd) hgb.size
     exact(k2 p q1 (Nat.lt_of_lt_of_le q2 hgb.size)).trans (World.cell?_of_block (hgb.block p.block q2 (fun e=>q3 e.symm)))
   · rw[Nat.zero_add]
     have hj:j<(d'.toList.flatMap MC.enc).length:=(List.getElem?_eq_some_iff.1 hu).1
     have hjs:j<cur.size:=by
      rw[flatMC_len,Array.length_toList,p1]at hj
      rw[hsz]
      have:d.toArray.size≤cap:=by rw[←hdl];exact hnc
      have:=Nat.mul_le_mul_right 7 this
      omega
     refine(k2 ⟨g,j,none⟩ hbg (Nat.lt_of_lt_of_le hgl hgb.size)).trans ?_
     have hh:=put_heap (n:=n) (os:=os) (F:=Sort.flatK MC.enc 7 d') hg
     have hc:=(show Blk (Sort.grow (Sort.putRow id (Sort.ahead w n) g 0 (Sort.flatK MC.enc 7 d')) os) g 63 _ from hh).cell j
     refine hc.trans ?_
     rw[hF]
     have hjl:j<(d'.toList.map fun a=>a.enc.length).sum:=by rw[←List.length_flatMap];exact hj
     simp[Sort.putCells,hjs,hjl]
     exact(List.getElem?_eq_some_iff.1 hu).2
end Go.Proofs.YtackmnbpfbaemaaGreatDoor

namespace Go.Proofs.YtackmnbpfbaemaaGreatDoor
open Go Go.RowKit
def reqNF (X:Nat) (k:ByteArray):Option Value:=
 if k=kClient then some (.pointer (some ⟨X,0,none⟩))else if k=kCookie then some (.pointer (some ⟨X,1,none⟩))else none
theorem reqN_out (X:Nat) {k:ByteArray} (h:k ∉ [kClient,kCookie]):reqNF X k=none:=by
 simp only[List.mem_cons,List.not_mem_nil,or_false,not_or]at h
 unfold reqNF
 simp only[h,if_false]
def reqNK:Nat→ByteArray:=fun i=>if i=4 then kClient else kCookie
def reqNV (X:Nat):Nat→Value:=fun i=>if i=4 then .pointer (some ⟨X,0,none⟩)else .pointer (some ⟨X,1,none⟩)
set_option maxRecDepth 100000 in
set_option maxHeartbeats 4000000 in
theorem reqN_calls (X:Nat) (w:World):Calls Tryz.prog 27 #[.pointer (some ⟨X,0,none⟩)] w fun e w'=> ∃g,e= .returned (.map (some g))∧w.heap.size≤g∧LookIs w' g 2 (reqNF X)∧Below w.heap.size w w':=by
 have hmm:=fun W=>run_makeMap (P:=Tryz.prog) 101 W
 go_enter Tryz.func27,Tryz.ntmps27
 go_wp2_with (fail)
 refine wp_region_held_drew (S:=fun _=>True) (by kernel_rfl) trivial (fun hHeld=> ?_)
 refine wpAnyH_take (i:=1) (v:= ?_) rfl (by kernel_rfl) (by kernel_rfl) (by kernel_rfl) (fun _ _ _ h=>h) (Or.inl ⟨by kernel_rfl, ?_⟩) hHeld ?_
 rotate_left
 · intro X hSw
   first|(go_simp;done)|(go_simp;with_reducible rfl)
 try simp only[Act.put,List.getElem_toArray,List.getElem_cons_succ,List.getElem_cons_zero,List.setIfInBounds_toArray,List.set_cons_zero,List.set_cons_succ]
 refine wpAnyH_take (i:=2) (v:= ?_) rfl (by kernel_rfl) (by kernel_rfl) (by kernel_rfl) (fun _ _ _ h=>h) (Or.inl ⟨by kernel_rfl, ?_⟩) hHeld ?_
 rotate_left
 · intro X hSw
   first|(go_simp;done)|(go_simp;with_reducible rfl)
 try simp only[Act.put,List.getElem_toArray,List.getElem_cons_succ,List.getElem_cons_zero,List.setIfInBounds_toArray,List.set_cons_zero,List.set_cons_succ]
 refine wpAnyH_take (i:=3) (v:= ?_) rfl (by kernel_rfl) (by kernel_rfl) (by kernel_rfl) (fun _ _ _ h=>h) (Or.inl ⟨by kernel_rfl, ?_⟩) hHeld ?_
 rotate_left
 · intro X hSw
   first|(go_simp;done)|(go_simp;with_reducible rfl)
 try simp only[Act.put,List.getElem_toArray,List.getElem_cons_succ,List.getElem_cons_zero,List.setIfInBounds_toArray,List.set_cons_zero,List.set_cons_succ]
 refine wpAnyH_take (i:=5) (v:= ?_) rfl (by kernel_rfl) (by kernel_rfl) (by kernel_rfl) (fun _ _ _ h=>h) (Or.inl ⟨by kernel_rfl, ?_⟩) hHeld ?_
 rotate_left
 · intro X hSw
   first|(go_simp;done)|(go_simp;with_reducible rfl)
 try simp only[Act.put,List.getElem_toArray,List.getElem_cons_succ,List.getElem_cons_zero,List.setIfInBounds_toArray,List.set_cons_zero,List.set_cons_succ]
 refine wpAnyH_take (i:=6) (v:= ?_) rfl (by kernel_rfl) (by kernel_rfl) (by kernel_rfl) (fun _ _ _ h=>h) (Or.inl ⟨by kernel_rfl, ?_⟩) hHeld ?_
 rotate_left
 · intro X hSw
   first|(go_simp;done)|(go_simp;with_reducible rfl)
 try simp only[Act.put,List.getElem_toArray,List.getElem_cons_succ,List.getElem_cons_zero,List.setIfInBounds_toArray,List.set_cons_zero,List.set_cons_succ]
 refine wpAnyH_take (i:=7) (v:= ?_) rfl (by kernel_rfl) (by kernel_rfl) (by kernel_rfl) (fun _ _ _ h=>h) (Or.inl ⟨by kernel_rfl, ?_⟩) hHeld ?_
 rotate_left
 · intro X hSw
   first|(go_simp;done)|(go_simp;with_reducible rfl)
 try simp only[Act.put,List.getElem_toArray,List.getElem_cons_succ,List.getElem_cons_zero,List.setIfInBounds_toArray,List.set_cons_zero,List.set_cons_succ]
 refine wpAnyH_ready (rs:= [0]) (by kernel_rfl) (by simp) ?_
 refine AllReadyH.cons rfl (fun K hK=> ?_) AllReadyH.nil
 go_simp
 refine hK.out _ _ trivial (fun hHeld=> ?_)
 clear hK K hmm
 try simp only[Act.put,List.setIfInBounds_toArray,List.set_cons_zero,List.set_cons_succ]
 have hB0:Below w.heap.size w (w.alloc (.map #[] 0)).drew:=Below.drew ((Below.refl _ _).alloc (Nat.le_refl _) _)
 have hL0:LookIs (w.alloc (.map #[] 0)).drew w.heap.size 0 fun _=>none:=(LookIs.new w).keep rfl
 generalize (w.alloc (.map #[] 0)).drew=W0 at hB0 hL0 ⊢
 change wpAnyH _ _ _ _ _ (2+2) #[true,true,true,true,false,true,true,true,false,false,false] _ _
 refine inserts_any (E:= #[true,true,true,true,true,true,true,true,true,false,false]) (w0:=w) (fuel:=2) mkey_str Tryz.underlying101 reqNK (reqNV X) [4,8] (Nat.le_refl _) ?_ (by decide+kernel) (reqNF X) 2 ?_ 2 [4,8] _ _ 0 W0 (fun _ h=>h) (by decide) ?_ rfl hL0 (fun _ _=>rfl) ?_ ?_ hB0
 · intro i hi
   simp only[List.mem_cons,List.not_mem_nil,or_false]at hi
   rcases hi with rfl|rfl
   all_goals exact⟨_,_,_,_,rfl,fun _=>rfl,rfl,rfl,rfl,rfl,rfl⟩
 · intro W hL hB
   have HL:=Lib.hid hL
   have HB:=Lib.hid hB
   clear hL hB
   refine wpAnyH_take (i:=9) (v:= ?_) rfl (by kernel_rfl) (by kernel_rfl) (by kernel_rfl) (fun _ _ _ h=>h) (Or.inl ⟨by kernel_rfl, ?_⟩) hHeld ?_
   rotate_left
   · intro X hSw
     first|(go_simp;done)|(go_simp;with_reducible rfl)
   try simp only[Act.put,List.getElem_toArray,List.getElem_cons_succ,List.getElem_cons_zero,List.setIfInBounds_toArray,List.set_cons_zero,List.set_cons_succ]
   refine wpAnyH_take (i:=10) (v:= ?_) rfl (by kernel_rfl) (by kernel_rfl) (by kernel_rfl) (fun _ _ _ h=>h) (Or.inl ⟨by kernel_rfl, ?_⟩) hHeld ?_
   rotate_left
   · intro X hSw
     first|(go_simp;done)|(go_simp;with_reducible rfl)
   try simp only[Act.put,List.getElem_toArray,List.getElem_cons_succ,List.getElem_cons_zero,List.setIfInBounds_toArray,List.set_cons_zero,List.set_cons_succ]
   refine wpAnyH_done (by kernel_rfl) ?_ _
   clear hHeld
   go_wp2
   go_ret
   exact⟨_,rfl,Nat.le_refl _,HL.out,HB.out⟩
 · kernel_rfl
 · intro i hi
   simp only[List.mem_cons,List.not_mem_nil,or_false]at hi
   rcases hi with rfl|rfl
   all_goals kernel_rfl
 · intro k hk
   refine(reqN_out X ?_).symm
   simp only[List.mem_cons,List.not_mem_nil,or_false,not_or]
   exact⟨hk 4 (by simp),hk 8 (by simp)⟩
end Go.Proofs.YtackmnbpfbaemaaGreatDoor
