/- Parts, joined: A member that must be a Text; a copy of a member: in a reader of mutators. Condition: at most 10^8 pairs; a value of a bulk of at most 10^8. Objects of the call's own, given back: laws that all encoders use. Condition: a bulk of at most 9 * 10^7. What a mutator's writers hand back: textual, and the pairs of del, move, inc, put, append. Condition: values of a bulk of at most 10^8. The reference's own values: Int, Text, Object, List; rows that share old memory. No condition. mutator.object: the object of pairs. Condition: at most 10^6 pairs. -/
import Derived.Test.YtkkbplakgldlpaaGreatDoorProg
import Derived.Deep.RegionHeld3
import Derived.Test.YtkkbplakgldlpaaGreatDoorKMu8
import Derived.Test.YtkkbplakgldlpaaGreatDoorKMu13
import Derived.Test.YtkkbplakgldlpaaGreatDoorKMu14
import Derived.Test.YtkkbplakgldlpaaGreatDoorKMu17
import Derived.Test.YtkkbplakgldlpaaGreatDoorKMu20
import Derived.Test.YtkkbplakgldlpaaGreatDoorKMu22
import Derived.Test.YtkkbplakgldlpaaGreatDoorKMu25
namespace Go.Proofs.YtkkbplakgldlpaaGreatDoor
open Go Go.RowKit
def kOf:Option Val→Int
 |none=>0
 |some (.mk k _ _ _ _ _)=>k
def tOf:Option Val→ByteArray
 |none=>⟨#[]⟩
 |some (.mk _ _ _ t _ _)=>t
theorem FndPost.six {o:List (ByteArray×Val)} {key:ByteArray} {w w':World} {e:Ending} (h:FndPost o key w e w'):Below w.heap.size w w'∧ ∃b n la ln lc oa on oc,
 e=.returned (.tuple #[.agg #[.int .i64 (kOf (findO key o)),.bool b,.int .i64 n,.string (tOf (findO key o)),.slice la ln lc,.slice oa on oc],.bool (findO key o).isSome])∧
 ∀x,findO key o=some x→Holds w w.heap.size (dV x) [.int .i64 (kOf (findO key o)),.bool b,.int .i64 n,.string (tOf (findO key o)),.slice la ln lc,.slice oa on oc]:=by
 obtain⟨hb,h⟩:=h
 refine⟨hb, ?_⟩
 cases hf:findO key o with
 |none=>
  rw[hf]at h
  exact⟨false,0,none,0,0,none,0,0,h,fun x e=>by cases e⟩
 |some x=>
  rw[hf]at h
  obtain⟨cs,rfl,hh⟩:=h
  obtain⟨k,b,n,t,l,ob⟩:=x
  have h6:=holdsV_of _ _ hh
  simp only[HoldsV]at h6
  obtain⟨la,lc,oa,oc,rfl,_,_⟩:=h6
  exact⟨b,n,la,l.length,lc,oa,ob.length,oc,rfl,fun y e=>by cases e;exact hh⟩
abbrev wrongE (c:Int):Ending:=.panicked [{v:=.iface 85 (.agg #[.int .i64 c]),recovered:=false}]
def TxtPost (o:List (ByteArray×Val)) (key:ByteArray) (w:World) (e:Ending) (w':World):Prop:=Below w.heap.size w w'∧e=if kOf (findO key o)=4 then .returned (.string (tOf (findO key o)))else wrongE 9
set_option maxRecDepth 100000 in
set_option maxHeartbeats 8000000 in
theorem mtext_calls (o:List (ByteArray×Val)) (a:Option Addr) (c:Nat) (key:ByteArray) (w:World) (h:Holds w w.heap.size (.row 7 (dO o)) [.slice a o.length c]) (hl:o.length≤100000000):
 Calls Tryz.prog 71 #[.slice a o.length c,.string key] w (TxtPost o key w):=by
 have hF:=findV_calls o a c key w h hl
 have hY:=fun W=>must_yes 9 W
 have hN:=fun W=>must_no 9 W
 have HF:=Lib.hid hF
 have HY:=Lib.hid hY
 have HN:=Lib.hid hN
 clear hF hY hN
 clear h
 go_enter Tryz.func71,Tryz.ntmps71
 go_upto_region 1 with(fail)
 go_wp2_with (fail)
 with_reducible refine(HF.out).mono ?_
 rintro e w1 hp
 obtain⟨hb1,b,n,la,ln,lc,oa,on,oc,rfl,_⟩:=hp.six
 have hB:=hb1.alloc hb1.size (.cells #[.int .i64 (kOf (findO key o)),.bool b,.int .i64 n,.string (tOf (findO key o)),.slice la ln lc,.slice oa on oc] 27)
 have hP:TxtPost o key w (if kOf (findO key o)=4 then .returned (.string (tOf (findO key o)))else wrongE 9) (w1.alloc (.cells #[.int .i64 (kOf (findO key o)),.bool b,.int .i64 n,.string (tOf (findO key o)),.slice la ln lc,.slice oa on oc] 27)):=⟨hB,rfl⟩
 clear hp hb1 hB HF
 generalize kOf (findO key o)=k at hP ⊢
 generalize tOf (findO key o)=t at hP ⊢
 by_cases hk:k=4
 · subst hk
   rw[if_pos rfl]at hP
   have HP:=Lib.hid hP
   clear hP
   go_wp2_with (fail)
   with_reducible refine(HY.out _).mono ?_
   rintro e w2 ⟨rfl,rfl⟩
   go_wp2
   go_ret
   exact HP.out
 · rw[if_neg hk]at hP
   have e1:(k==4)=false:=by simpa using hk
   have HP:=Lib.hid hP
   clear hP
   clear hk
   go_wp2_with (fail)
   with_reducible refine(HN.out _).mono ?_
   rintro e w2 ⟨rfl,rfl⟩
   go_wp2
   exact⟨rfl,HP.out⟩
abbrev zV0:Val:=.mk 0 false 0 ⟨#[]⟩ [] []
theorem holds_z0 (w:World) (B:Nat):Holds w B (dV zV0) [.int .i64 0,.bool false,.int .i64 0,.string ⟨#[]⟩,.slice none 0 0,.slice none 0 0]:=by
 refine holds_of_V _ _ ?_
 simp only[HoldsV]
 exact⟨none,0,none,0,rfl,by simp,by simp⟩
theorem FndPost.held {o:List (ByteArray×Val)} {key:ByteArray} {w w':World} {e:Ending} (h:FndPost o key w e w'):Below w.heap.size w w'∧ ∃k b n t l ob la lc oa oc,(findO key o).getD zV0=.mk k b n t l ob∧
 e=.returned (.tuple #[.agg #[.int .i64 k,.bool b,.int .i64 n,.string t,.slice la (l:List Val).length lc,.slice oa (ob:List (ByteArray×Val)).length oc],.bool (findO key o).isSome])∧
 Holds w w.heap.size (dV (.mk k b n t l ob)) [.int .i64 k,.bool b,.int .i64 n,.string t,.slice la l.length lc,.slice oa ob.length oc]:=by
 obtain⟨hb,h⟩:=h
 refine⟨hb, ?_⟩
 cases hf:findO key o with
 |none=>
  rw[hf]at h
  exact⟨0,false,0,⟨#[]⟩, [], [],none,0,none,0,rfl,h,holds_z0 _ _⟩
 |some x=>
  rw[hf]at h
  obtain⟨cs,rfl,hh⟩:=h
  obtain⟨k,b,n,t,l,ob⟩:=x
  have h6:=holdsV_of _ _ hh
  simp only[HoldsV]at h6
  obtain⟨la,lc,oa,oc,rfl,_,_⟩:=h6
  exact⟨k,b,n,t,l,ob,la,lc,oa,oc,rfl,rfl,hh⟩
def CpyPost (o:List (ByteArray×Val)) (key:ByteArray) (w:World) (e:Ending) (w':World):Prop:=Below w.heap.size w w'∧ ∃cs:List Value,e=.returned (.tuple #[.agg cs.toArray,.bool (findO key o).isSome])∧Fresh w.heap.size w' (dV ((findO key o).getD zV0)) cs
set_option maxRecDepth 100000 in
set_option maxHeartbeats 8000000 in
theorem mcopied_calls (o:List (ByteArray×Val)) (a:Option Addr) (c:Nat) (key:ByteArray) (w:World) (h:Holds w w.heap.size (.row 7 (dO o)) [.slice a o.length c]) (hl:o.length≤100000000) (hb: ∀x,findO key o=some x→x.bulk≤100000000):
 Calls Tryz.prog 111 #[.slice a o.length c,.string key] w (CpyPost o key w):=by
 have hI0:FN w (w.alloc (.cells zero6 27)):=⟨(Below.refl _ _).alloc (Nat.le_refl _) _,Blk.new w _ _⟩
 obtain⟨wi,hwi⟩: ∃wi,w.alloc (.cells zero6 27)=wi:=⟨_,rfl⟩
 rw[hwi]at hI0
 have hF:=findV_calls o a c key wi ((h.below hI0.below).more hI0.below.size) hl
 have HF:=Lib.hid hF
 have HI0:=Lib.hid hI0
 have Hb:=Lib.hid hb
 clear hF hI0 hb
 go_enter Tryz.func111,Tryz.ntmps111
 go_upto_region 1 with(fail)
 clear hwi
 go_wp2_with (fail)
 with_reducible refine(HF.out).mono ?_
 rintro e w1 hp
 obtain⟨hb1,k,b,n,t,l,ob,la,lc,oa,oc,hg,rfl,hx⟩:=hp.held
 have hbk:(Val.mk k b n t l ob).bulk≤100000000:=by
  rw[←hg]
  cases hf:findO key o with
  |none=>decide
  |some x=>exact Hb.out x hf
 have hI1:FN w (w1.alloc (.cells #[.int .i64 k,.bool b,.int .i64 n,.string t,.slice la l.length lc,.slice oa ob.length oc] 27)):=
  FN.alloc ⟨HI0.out.below.trans (hb1.mono HI0.out.below.size),HI0.out.res.below hb1 HI0.out.res.lt⟩ _
 have hxb:=Blk.new w1 27 #[.int .i64 k,.bool b,.int .i64 n,.string t,.slice la l.length lc,.slice oa ob.length oc]
 have hC:=vcopy_calls _ _ (w1.alloc (.cells #[.int .i64 k,.bool b,.int .i64 n,.string t,.slice la l.length lc,.slice oa ob.length oc] 27)) (holdsV_of _ _ (((hx.below hb1).more hb1.size).below (alloc_below _ _) |>.more (by simp))) hbk
 have hsz:=HI0.out.below.size
 have HI1:=Lib.hid hI1
 have Hxb:=Lib.hid hxb
 have HC:=Lib.hid hC
 have Hg:=Lib.hid hg
 clear hI1 hxb hC hg
 clear hp hb1 hx HI0
 go_wp2_with (fail)
 with_reducible refine(HC.out).mono ?_
 rintro e w4 ⟨⟨cs4,rfl,hl4,hf4⟩,hb4⟩
 obtain⟨xla,xlc,xoa,xoc,rfl⟩:=six_now hf4
 have hI4:FN w w4:=⟨HI1.out.below.trans (hb4.mono HI1.out.below.size),HI1.out.res.below hb4 HI1.out.res.lt⟩
 obtain⟨r0,r1,r2,r3,r4,r5⟩:=vcell hI4.res
 have fz:=hI4.res.frozen
 have lt1:=hI4.res.lt
 have hlow:=HI1.out.res.lt
 have HI4:=Lib.hid hI4
 have Hf4:=Lib.hid hf4
 have Hb4:=Lib.hid hb4
 clear hI4 hf4 hb4
 dsimp only
 repeat go_step
 have hxf:=(((((HI4.out.res.set_ 0 (.int .i64 k)).set_ 1 (.bool b)).set_ 2 (.int .i64 n)).set_ 3 (.string t)).set_ 4 (.slice xla l.length xlc)).set_ 5 (.slice xoa ob.length xoc)
 have hbf:=setMany_below [.int .i64 k,.bool b,.int .i64 n,.string t,.slice xla l.length xlc,.slice xoa ob.length xoc] HI4.out.below (Nat.le_refl w.heap.size) (o:=0)
 have hff:=Hf4.out.keep (b':=w.heap.size) (w':=setMany w4 w.heap.size 0 [.int .i64 k,.bool b,.int .i64 n,.string t,.slice xla l.length xlc,.slice xoa ob.length xoc]) (by omega) (by rw[setMany_size];exact Nat.le_refl _) (fun p p1 _=>World.cell?_of_block (setMany_far _ _ _ _ _ (by omega)))
 refine bodyPost_ret (results_cell6_t rfl rfl hxf) rfl ⟨hbf,_,rfl, ?_⟩
 rw[Hg.out]
 exact hff
end Go.Proofs.YtkkbplakgldlpaaGreatDoor

namespace Go.Proofs.YtkkbplakgldlpaaGreatDoor
open Go Go.RowKit
theorem holds_tvP (w:World) (B:Nat) (key s:ByteArray):Holds w B (dP (key,tv s)) [.string key,.int .i64 4,.bool false,.int .i64 0,.string s,.slice none 0 0,.slice none 0 0]:=by
 have h1:HoldsV w B (tv s) [.int .i64 4,.bool false,.int .i64 0,.string s,.slice none 0 0,.slice none 0 0]:=by
  simp only[tv,HoldsV]
  exact⟨none,0,none,0,rfl,by simp,by simp⟩
 exact⟨[.string key],_,rfl,⟨rfl,rfl⟩,_, [],by simp,holds_of_V _ _ h1,rfl⟩
theorem holds_ivP (w:World) (B:Nat) (key:ByteArray) (n:Int):Holds w B (dP (key,iv n)) [.string key,.int .i64 3,.bool false,.int .i64 n,.string ⟨#[]⟩,.slice none 0 0,.slice none 0 0]:=by
 have h1:HoldsV w B (iv n) [.int .i64 3,.bool false,.int .i64 n,.string ⟨#[]⟩,.slice none 0 0,.slice none 0 0]:=by
  simp only[iv,HoldsV]
  exact⟨none,0,none,0,rfl,by simp,by simp⟩
 exact⟨[.string key],_,rfl,⟨rfl,rfl⟩,_, [],by simp,holds_of_V _ _ h1,rfl⟩
theorem fresh_tvP (b:Nat) (w:World) (key s:ByteArray):Fresh b w (dP (key,tv s)) [.string key,.int .i64 4,.bool false,.int .i64 0,.string s,.slice none 0 0,.slice none 0 0]:=fun _ _ _=>holds_tvP _ _ _ _
theorem fresh_lv {b:Nat} {w:World} {vs:List Val} {a:Option Addr} {n c:Nat} (h:Fresh b w (.row 6 (dL vs)) [.slice a n c]):Fresh b w (dV (lv vs)) [.int .i64 5,.bool false,.int .i64 0,.string ⟨#[]⟩,.slice a n c,.slice none 0 0]:=fun w'' h1 h2=>by
 simp only[lv,dV,Holds]
 exact HoldsA.six.2 ⟨[.slice a n c], [.slice none 0 0],rfl,rfl,rfl,rfl,rfl,h w'' h1 h2,⟨none,0,rfl,by simp[dO], [],rfl,by simp[dO]⟩⟩
end Go.Proofs.YtkkbplakgldlpaaGreatDoor

namespace Go.Proofs.YtkkbplakgldlpaaGreatDoor
open Go Go.RowKit
theorem mtextual_calls (s:ByteArray) (w:World):Calls Tryz.prog 68 #[.string s] w fun e w'=>e=.returned (.agg #[.int .i64 4,.bool false,.int .i64 0,.string s,.slice none 0 0,.slice none 0 0])∧Below w.heap.size w w':=by
 go_enter Tryz.func68,Tryz.ntmps68
 go_wp2
 exact bodyPost_ret (v:=.agg #[.int .i64 4,.bool false,.int .i64 0,.string s,.slice none 0 0,.slice none 0 0]) (by simp[results,Tryz.results68,go_sem]) rfl ⟨rfl,(Below.refl _ _).alloc (Nat.le_refl _) _⟩
def PairsAt (b:Nat) (w:World) (o:List (ByteArray×Val)) (V:Value):Prop:= ∃g c ns,V=.slice (some ⟨g,0,none⟩) o.length c∧b≤g∧g<w.heap.size∧FreshA b w (dO o) ns∧ ∀j u,ns[j]? =some u→w.cell? ⟨g,j,none⟩=some u
def PairsPost (o:List (ByteArray×Val)) (w:World) (e:Ending) (w':World):Prop:=Below w.heap.size w w'∧ ∃V,e=.returned V∧PairsAt w.heap.size w' o V
theorem pairs_lit {b:Nat} {w:World} {t:TypeId} {cs:Array Value} {o:List (ByteArray×Val)} {n c:Nat} (hb:b≤w.heap.size) (hn:n=o.length) (h:FreshA b (w.alloc (.cells cs t)) (dO o) cs.toList):PairsAt b (w.alloc (.cells cs t)) o (.slice (some ⟨w.heap.size,0,none⟩) n c):=by
 subst hn
 have hx:=Blk.new w t cs
 exact⟨_,c,cs.toList,rfl,hb,hx.lt,h,fun j u hu=>(hx.cell j).trans (by rw[←Array.getElem?_toList];exact hu)⟩
theorem FreshA.app {b:Nat} {w:World} {l r:List D} {cs es:List Value} (h:FreshA b w l cs) (k:FreshA b w r es):FreshA b w (l++r) (cs++es):=fun w'' h1 h2=>(h w'' h1 h2).app (k w'' h1 h2)
theorem FreshA.one {b:Nat} {w:World} {d:D} {cs:List Value} (h:Fresh b w d cs):FreshA b w [d] cs:=fun w'' h1 h2=>HoldsA.one (h w'' h1 h2)
theorem fresh_ivP (b:Nat) (w:World) (key:ByteArray) (n:Int):Fresh b w (dP (key,iv n)) [.string key,.int .i64 3,.bool false,.int .i64 n,.string ⟨#[]⟩,.slice none 0 0,.slice none 0 0]:=fun _ _ _=>holds_ivP _ _ _ _
set_option maxRecDepth 100000 in
set_option maxHeartbeats 1000000 in
theorem wdel_calls (y0:Value) (key:ByteArray) (y2 y3 y4 y5 y6 y7 y8 y9 y10 y11 y12 y13 y14 y15 y16 y17 y18:Value) (w:World):
 Calls Tryz.prog 72 #[.agg #[y0,.string key,y2,y3,y4,y5,y6,y7,y8,y9,y10,y11,y12,y13,y14,y15,y16,y17,y18]] w (PairsPost [(kKey,tv key)] w):=by
 have hC:=fun W=>mtextual_calls key W
 have HC:=Lib.hid hC
 clear hC
 go_enter Tryz.func72,Tryz.ntmps72
 go_wp2_with (fail)
 with_reducible refine(HC.out _).mono ?_
 rintro e w1 ⟨rfl,hb1⟩
 have hbw:=(alloc_below w _).trans (hb1.mono (by simp))
 have hz:=hbw.size
 have Hbw:=Lib.hid hbw
 clear hbw
 go_wp2
 go_ret
 exact⟨Hbw.out.alloc hz _,_,rfl,pairs_lit hz rfl (FreshA.one (fresh_tvP _ _ kKey key))⟩
set_option maxRecDepth 100000 in
set_option maxHeartbeats 4000000 in
theorem wmove_calls (y0:Value) (key dst:ByteArray) (y3 y4 y5 y6 y7 y8 y9 y10 y11 y12 y13 y14 y15 y16 y17 y18:Value) (w:World):
 Calls Tryz.prog 77 #[.agg #[y0,.string key,.string dst,y3,y4,y5,y6,y7,y8,y9,y10,y11,y12,y13,y14,y15,y16,y17,y18]] w (PairsPost [(kFrom,tv key),(kTo,tv dst)] w):=by
 have hC:=fun W=>mtextual_calls key W
 have hD:=fun W=>mtextual_calls dst W
 obtain⟨wi,hwi⟩: ∃wi,w.alloc (.cells #[y0,.string key,.string dst,y3,y4,y5,y6,y7,y8,y9,y10,y11,y12,y13,y14,y15,y16,y17,y18] 30)=wi:=⟨_,rfl⟩
 have hbi:Below w.heap.size w wi:=hwi▸alloc_below _ _
 have hxb:Blk wi w.heap.size 30 #[y0,.string key,.string dst,y3,y4,y5,y6,y7,y8,y9,y10,y11,y12,y13,y14,y15,y16,y17,y18]:=hwi▸Blk.new _ _ _
 have d1:=hxb.cell 1
 have d2:=hxb.cell 2
 have hgb:=hxb.lt
 have HC:=Lib.hid hC
 have HD:=Lib.hid hD
 have Hbi:=Lib.hid hbi
 have Hxb:=Lib.hid hxb
 clear hC hD hbi hxb
 go_enter Tryz.func77,Tryz.ntmps77
 go_upto_region 1 with(fail)
 clear hwi
 go_region_held3 (fun W=>W.cell? ⟨w.heap.size,1,none⟩=some (.string key)∧W.cell? ⟨w.heap.size,2,none⟩=some (.string dst)) (go_keep) (first
  |(go_at_call 68;refine(HC.out _).mono ?_;rintro e w2 ⟨rfl,hb2⟩;have hbr2:Below wi.heap.size wi w2:=((Below.drew (Below.refl _ _)).trans hb2);obtain⟨hc2,hg2⟩:=bcellM hbr2)
  |(go_at_call 68;refine(HD.out _).mono ?_;rintro e w3 ⟨rfl,hb3⟩;have hbr3:=hbr2.trans (hb3.mono hbr2.size);obtain⟨hc3,hg3⟩:=bcellM hbr3))
 all_goals
  have HB:=Lib.hid (Hbi.out.trans (hbr3.mono Hbi.out.size))
  clear hc2 hg2 hc3 hg3 hb2 hb3 hbr2 hbr3
  go_wp2
  go_ret
  exact⟨HB.out.alloc HB.out.size _,_,rfl,pairs_lit HB.out.size rfl ((FreshA.one (fresh_tvP _ _ kFrom key)).app (FreshA.one (fresh_tvP _ _ kTo dst)))⟩
set_option maxRecDepth 100000 in
set_option maxHeartbeats 4000000 in
theorem winc_calls (y0:Value) (key:ByteArray) (y2:Value) (n:Int) (y4 y5 y6 y7 y8 y9 y10 y11 y12 y13 y14 y15 y16 y17 y18:Value) (w:World):
 Calls Tryz.prog 75 #[.agg #[y0,.string key,y2,.int .i64 n,y4,y5,y6,y7,y8,y9,y10,y11,y12,y13,y14,y15,y16,y17,y18]] w (PairsPost [(kBy,iv n),(kKey,tv key)] w):=by
 have hC:=fun W=>mtextual_calls key W
 go_enter Tryz.func75,Tryz.ntmps75
 go_upto_region 2 with(fail)
 obtain⟨wi,hwi⟩: ∃wi,(w.alloc (.cells #[y0,.string key,y2,.int .i64 n,y4,y5,y6,y7,y8,y9,y10,y11,y12,y13,y14,y15,y16,y17,y18] 30)).alloc (.cells #[.int .i64 3,.bool false,.int .i64 n,.string ⟨#[]⟩,.slice none 0 0,.slice none 0 0] 27)=wi:=⟨_,rfl⟩
 have hbi:Below w.heap.size w wi:=hwi▸((alloc_below _ _).alloc (by simp) _)
 have hxb:Blk wi w.heap.size 30 #[y0,.string key,y2,.int .i64 n,y4,y5,y6,y7,y8,y9,y10,y11,y12,y13,y14,y15,y16,y17,y18]:=hwi▸(Blk.new _ _ _).alloc _
 have hxv:Blk wi (w.heap.size+1) 27 #[.int .i64 3,.bool false,.int .i64 n,.string ⟨#[]⟩,.slice none 0 0,.slice none 0 0]:=by
  rw[←hwi]
  have:=Blk.new (w.alloc (.cells #[y0,.string key,y2,.int .i64 n,y4,y5,y6,y7,y8,y9,y10,y11,y12,y13,y14,y15,y16,y17,y18] 30)) 27 #[.int .i64 3,.bool false,.int .i64 n,.string ⟨#[]⟩,.slice none 0 0,.slice none 0 0]
  rwa [World.size_alloc]at this
 have d1:=hxb.cell 1
 obtain⟨v0,v1,v2,v3,v4,v5⟩:=vcell hxv
 have hgb:=hxb.lt
 have hgv:=hxv.lt
 have HC:=Lib.hid hC
 have Hbi:=Lib.hid hbi
 have Hxb:=Lib.hid hxb
 have Hxv:=Lib.hid hxv
 clear hC hbi hxb hxv
 rw[hwi]
 clear hwi
 go_region_held3 (fun W=>W.cell? ⟨w.heap.size,1,none⟩=some (.string key)∧W.cell? ⟨w.heap.size+1,0,none⟩=some (.int .i64 3)∧W.cell? ⟨w.heap.size+1,1,none⟩=some (.bool false)∧W.cell? ⟨w.heap.size+1,2,none⟩=some (.int .i64 n)∧W.cell? ⟨w.heap.size+1,3,none⟩=some (.string ⟨#[]⟩)∧W.cell? ⟨w.heap.size+1,4,none⟩=some (.slice none 0 0)∧W.cell? ⟨w.heap.size+1,5,none⟩=some (.slice none 0 0)) (go_keep) (first
  |(go_at_call 68;refine(HC.out _).mono ?_;rintro e w2 ⟨rfl,hb2⟩;have hbr2:Below wi.heap.size wi w2:=((Below.drew (Below.refl _ _)).trans hb2);obtain⟨hc2,hg2⟩:=bcellM hbr2))
 all_goals
  have HB:=Lib.hid (Hbi.out.trans (hbr2.mono Hbi.out.size))
  clear hc2 hg2 hb2 hbr2
  go_wp2
  go_ret
  exact⟨HB.out.alloc HB.out.size _,_,rfl,pairs_lit HB.out.size rfl ((FreshA.one (fresh_ivP _ _ kBy n)).app (FreshA.one (fresh_tvP _ _ kKey key)))⟩
set_option maxRecDepth 100000 in
set_option maxHeartbeats 4000000 in
theorem wval_calls (y0:Value) (key:ByteArray) (y2 y3 y4 y5 y6 y7 y8 y9 y10 y11:Value) (k:Int) (b:Bool) (n:Int) (t:ByteArray) (l:List Val) (o:List (ByteArray×Val)) (la oa:Option Addr) (lc oc:Nat) (y18:Value) (w:World)
 (hV:HoldsV w w.heap.size (.mk k b n t l o) [.int .i64 k,.bool b,.int .i64 n,.string t,.slice la l.length lc,.slice oa o.length oc]) (hb:(Val.mk k b n t l o).bulk≤100000000):
 Calls Tryz.prog 112 #[.agg #[y0,.string key,y2,y3,y4,y5,y6,y7,y8,y9,y10,y11,.int .i64 k,.bool b,.int .i64 n,.string t,.slice la l.length lc,.slice oa o.length oc,y18]] w (PairsPost [(kKey,tv key),(kVal,.mk k b n t l o)] w):=by
 have hC:=fun W=>mtextual_calls key W
 have hD: ∀W,Below w.heap.size w W→Calls Tryz.prog 113 #[.agg #[.int .i64 k,.bool b,.int .i64 n,.string t,.slice la l.length lc,.slice oa o.length oc]] W (VCopyPost W (.mk k b n t l o)):=fun W hB=>vcopy_calls _ _ W (HoldsV.more hB.size _ _ (hV.below hB)) hb
 obtain⟨wi,hwi⟩: ∃wi,w.alloc (.cells #[y0,.string key,y2,y3,y4,y5,y6,y7,y8,y9,y10,y11,.int .i64 k,.bool b,.int .i64 n,.string t,.slice la l.length lc,.slice oa o.length oc,y18] 30)=wi:=⟨_,rfl⟩
 have hbi:Below w.heap.size w wi:=hwi▸alloc_below _ _
 have hxb:Blk wi w.heap.size 30 #[y0,.string key,y2,y3,y4,y5,y6,y7,y8,y9,y10,y11,.int .i64 k,.bool b,.int .i64 n,.string t,.slice la l.length lc,.slice oa o.length oc,y18]:=hwi▸Blk.new _ _ _
 have d1:=hxb.cell 1
 have d12:=hxb.cell 12
 have d13:=hxb.cell 13
 have d14:=hxb.cell 14
 have d15:=hxb.cell 15
 have d16:=hxb.cell 16
 have d17:=hxb.cell 17
 have hgb:=hxb.lt
 have HC:=Lib.hid hC
 have HD:=Lib.hid hD
 have Hbi:=Lib.hid hbi
 have Hxb:=Lib.hid hxb
 clear hC hD hbi hxb
 clear hV
 go_enter Tryz.func112,Tryz.ntmps112
 go_upto_region 1 with(fail)
 clear hwi
 go_region_held3 (fun W=>W.cell? ⟨w.heap.size,1,none⟩=some (.string key)∧W.cell? ⟨w.heap.size,12,none⟩=some (.int .i64 k)∧W.cell? ⟨w.heap.size,13,none⟩=some (.bool b)∧W.cell? ⟨w.heap.size,14,none⟩=some (.int .i64 n)∧W.cell? ⟨w.heap.size,15,none⟩=some (.string t)∧W.cell? ⟨w.heap.size,16,none⟩=some (.slice la l.length lc)∧W.cell? ⟨w.heap.size,17,none⟩=some (.slice oa o.length oc)) (go_keep) (first
  |(go_at_call 68;refine(HC.out _).mono ?_;rintro e w2 ⟨rfl,hb2⟩;have hbr2:Below wi.heap.size wi w2:=((Below.drew (Below.refl _ _)).trans hb2);obtain⟨hc2,hg2⟩:=bcellM hbr2)
  |(go_at_call 113;refine(HD.out _ (Hbi.out.trans (hbr2.mono Hbi.out.size))).mono ?_;rintro e w3 ⟨⟨cs4,rfl,hl4,hf4⟩,hb3⟩;obtain⟨la2,lc2,oa2,oc2,rfl⟩:=six_now hf4;have hbr3:=hbr2.trans (hb3.mono hbr2.size);have hff:=hf4.keep (b':=w.heap.size) (w':=w3) (Nat.le_trans Hbi.out.size hbr2.size) (Nat.le_refl _) (fun _ _ _=>rfl);have Hff:=Lib.hid hff;obtain⟨hc3,hg3⟩:=bcellM hbr3;clear hf4 hff))
 all_goals
  have HB:=Lib.hid (Hbi.out.trans (hbr3.mono Hbi.out.size))
  clear hc2 hg2 hc3 hg3 hb2 hb3 hbr2 hbr3
  go_wp2
  go_ret
  exact⟨HB.out.alloc HB.out.size _,_,rfl,pairs_lit HB.out.size rfl ((FreshA.one (fresh_tvP _ _ kKey key)).app (FreshA.one ((dP_fresh (key:=kVal) Hff.out).later (alloc_below _ _))))⟩
end Go.Proofs.YtkkbplakgldlpaaGreatDoor

namespace Go.Proofs.YtkkbplakgldlpaaGreatDoor
open Go Go.RowKit
theorem holdsIn_ov {S:Nat→Prop} {w:World} {o:List (ByteArray×Val)} {a:Option Addr} {n c:Nat} (h:HoldsIn S w (.row 7 (dO o)) [.slice a n c]):HoldsIn S w (dV (ov o)) [.int .i64 6,.bool false,.int .i64 0,.string ⟨#[]⟩,.slice none 0 0,.slice a n c]:=fun w'' h1 h2=>by
 simp only[ov,dV,Holds]
 exact HoldsA.six.2 ⟨[.slice none 0 0], [.slice a n c],rfl,rfl,rfl,rfl,rfl,⟨none,0,rfl,by simp[dL], [],rfl,by simp[dL]⟩,h w'' h1 h2⟩
theorem holdsIn_tvP (S:Nat→Prop) (w:World) (key s:ByteArray):HoldsIn S w (dP (key,tv s)) [.string key,.int .i64 4,.bool false,.int .i64 0,.string s,.slice none 0 0,.slice none 0 0]:=fun _ _ _=>holds_tvP _ _ _ _
theorem blk_appX {S0:Nat→Prop} {w w6:World} {R b:Nat} {t e:TypeId} {sz:Nat} {l:List D} {V:Value} {cs:Array Value} {wr:World} (h:Blk w R t cs) (hg:w.grownBy w6 V.ownBlock) (hr:RowX S0 b e sz wr l V) (hR:R<b∨wr.heap.size≤R):Blk w6 R t cs:=
 h.grown hg fun e=>by have:=hr.base R e.symm;omega
theorem below_appX {S0:Nat→Prop} {w w6:World} {B b:Nat} {e:TypeId} {sz:Nat} {l:List D} {V:Value} {w0 wr:World} (h:Below B w0 w) (hg:w.grownBy w6 V.ownBlock) (hr:RowX S0 b e sz wr l V) (hB:B≤b) (hBw:B≤w.heap.size):Below B w0 w6:=
 h.grown hg hBw fun k hk=>Nat.le_trans hB (hr.base k hk).1
end Go.Proofs.YtkkbplakgldlpaaGreatDoor

namespace Go.Proofs.YtkkbplakgldlpaaGreatDoor
open Go Go.RowKit
theorem FreshA.at_ {b s:Nat} {w:World} {l:List D} {ns:List Value} (hs: ∀d ∈ l,d.cells=s) (h:FreshA b w l ns) {i:Nat} {d:D} (hi:l[i]? =some d):
 ∃cs,Fresh b w d cs∧cs.length=s∧ ∀j u,cs[j]? =some u→ns[i*s+j]? =some u:=by
 have hd:=hs d (List.mem_of_getElem? hi)
 have key: ∀w'':World,w.heap.size≤w''.heap.size→(∀p:Addr,b≤p.block→p.block<w.heap.size→w''.cell? p=w.cell? p)→Holds w'' w.heap.size d ((ns.drop (i*s)).take s)∧((ns.drop (i*s)).take s).length=s:=by
  intro w'' h1 h2
  obtain⟨cs,g1,g2,g3⟩:=HoldsA.at_ hs (h w'' h1 h2) hi
  have:cs=(ns.drop (i*s)).take s:=by
   refine List.ext_getElem? fun j=> ?_
   rw[List.getElem?_take,List.getElem?_drop]
   by_cases hj:j<s
   · rw[if_pos hj]
     exact(g3 j _ (List.getElem?_eq_getElem (by omega))).symm▸List.getElem?_eq_getElem (by omega)
   · rw[if_neg hj,List.getElem?_eq_none (by omega)]
  rw[←this]
  exact⟨g1,g2⟩
 refine⟨_,fun w'' h1 h2=>(key w'' h1 h2).1,(key w (Nat.le_refl _) fun _ _ _=>rfl).2,fun j u hu=> ?_⟩
 rw[List.getElem?_take,List.getElem?_drop]at hu
 by_cases hj:j<s
 · rwa [if_pos hj]at hu
 · rw[if_neg hj]at hu;cases hu
structure LM (b:Nat) (w:World) (o:List (ByteArray×Val)) (q:Nat) (wr:World) (V:Value):Prop where
 below:Below w.heap.size w wr
 res:Blk wr w.heap.size 27 zero6
 var:Blk wr (w.heap.size+1) 27 #[.int .i64 6,.bool false,.int .i64 0,.string ⟨#[]⟩,.slice none 0 0,V]
 row:RowX (fun i=>(b≤i∧i<w.heap.size)∨w.heap.size+1<i) (w.heap.size+2) 63 7 wr (dO (o.take q)) V
theorem seven_now {B:Nat} {w4:World} {key:ByteArray} {k:Int} {b:Bool} {n:Int} {t:ByteArray} {l:List Val} {o:List (ByteArray×Val)} {cs:List Value} (h:Fresh B w4 (dP (key,.mk k b n t l o)) cs): ∃la lc oa oc,cs= [.string key,.int .i64 k,.bool b,.int .i64 n,.string t,.slice la l.length lc,.slice oa o.length oc]:=by
 obtain⟨_,_,rfl,⟨rfl,_⟩,c1,_,rfl,h1,rfl⟩:=h.now
 have h2:=holdsV_of _ _ h1
 simp only[HoldsV]at h2
 obtain⟨la,lc,oa,oc,rfl,_,_⟩:=h2
 exact⟨la,lc,oa,oc,rfl⟩
theorem RowX.keepS {S0:Nat→Prop} {b:Nat} {t:TypeId} {s:Nat} {wr w':World} {l:List D} {V:Value} (h:RowX S0 b t s wr l V) (hs:wr.heap.size≤w'.heap.size) (hk: ∀i,(S0 i∨V.ownBlock=some i)→i<wr.heap.size→w'.heap[i]? =wr.heap[i]?):RowX S0 b t s w' l V:=by
 obtain⟨ns,h1,h2,h3⟩:=h
 have hl:=h1.lt
 refine⟨ns,⟨h1.1, ?_⟩,h2,fun w'' k1 k2=>HoldsA.more (h3 w'' (by omega) (fun p p1 p2=>(k2 p p1 (by omega)).trans (World.cell?_of_block (hk p.block (.inl p1.1) p2)))) hs⟩
 rcases h1.2 with⟨rfl,h0⟩|⟨g,cap,cur,rfl,hbg,hg,h5⟩
 · exact .inl ⟨rfl,h0⟩
 · exact .inr ⟨g,cap,cur,rfl,hbg,(hk g (.inr rfl) (Array.getElem?_eq_some_iff.1 hg).1).trans hg,h5⟩
set_option maxRecDepth 100000 in
set_option maxHeartbeats 8000000 in
theorem mobject_calls (b:Nat) (o:List (ByteArray×Val)) (V0:Value) (w:World) (hbw:b≤w.heap.size) (hP:PairsAt b w o V0) (ho:o.length≤1000000):
 Calls Tryz.prog 67 #[V0] w fun e w'=>Below w.heap.size w w'∧ ∃oa oc,e=.returned (.agg #[.int .i64 6,.bool false,.int .i64 0,.string ⟨#[]⟩,.slice none 0 0,.slice oa o.length oc])∧Fresh b w' (dV (ov o)) [.int .i64 6,.bool false,.int .i64 0,.string ⟨#[]⟩,.slice none 0 0,.slice oa o.length oc]:=by
 obtain⟨g,c,ns,rfl,hbg,hgw,hfa,hcell⟩:=hP
 obtain⟨j0,hj,hy0,hy1,hy2⟩:=info_parts mem_info
 have hI0:LM b w o 0 ((w.alloc (.cells zero6 27)).alloc (.cells #[.int .i64 6,.bool false,.int .i64 0,.string ⟨#[]⟩,.slice none 0 0,.slice none 0 0] 27)) (.slice none 0 0):=
  ⟨((Below.refl _ _).alloc (Nat.le_refl _) _).alloc (by simp) _,(Blk.new _ _ _).alloc _,by simpa using Blk.new (w.alloc (.cells zero6 27)) 27 #[.int .i64 6,.bool false,.int .i64 0,.string ⟨#[]⟩,.slice none 0 0,.slice none 0 0],by simpa[dO]using RowX.nil _ _ _ _ _⟩
 have Hj:=Lib.hid hj
 have Hy0:=Lib.hid hy0
 have Hy1:=Lib.hid hy1
 have Hy2:=Lib.hid hy2
 have HI0:=Lib.hid hI0
 have Hfa:=Lib.hid hfa
 have Hcell:=Lib.hid hcell
 clear hj hy0 hy1 hy2 hI0 hfa hcell
 go_enter Tryz.func67,Tryz.ntmps67
 go_wp2_with (fail)
 go_loopw [9] (fun i wr=> ∃q:Nat,i=.int .i64 q∧q≤o.length∧ ∃V,Hid (LM b w o q wr V)) (fun i _=>o.length - (intOf i).toNat)
 case atStart=>exact⟨0,rfl,Nat.zero_le _,_,HI0⟩
 case round=>
  obtain⟨q,rfl,hq,V,hI⟩:=hrel
  clear HI0
  by_cases hlt:q<o.length
  · obtain⟨⟨key,v⟩,hp⟩: ∃p,o[q]? =some p:=⟨_,List.getElem?_eq_getElem hlt⟩
    have htk:dO (o.take q)++ [dP (key,v)]=dO (o.take (q+1)):=by rw[List.take_add_one,hp,dO_map,dO_map];simp
    obtain⟨cs,hf,hl7,hat⟩:=FreshA.at_ (dO_cells o) Hfa.out (i:=q) (d:=dP (key,v)) (by rw[dO_map,List.getElem?_map,hp];rfl)
    obtain⟨k',b',n',t',l',o'⟩:=v
    obtain⟨la',lc',oa',oc',rfl⟩:=seven_now hf
    have hbr:=hI.out.below
    have hz:=hbr.size
    have hc: ∀j u, [Value.string key,.int .i64 k',.bool b',.int .i64 n',.string t',.slice la' l'.length lc',.slice oa' o'.length oc'][j]? =some u→wr.cell? ⟨g,q*7+j,none⟩=some u:=fun j u hu=>(hbr.cell (p:=⟨g,q*7+j,none⟩) hgw).trans (Hcell.out _ _ (hat j u hu))
    have c0:=hc 0 _ rfl
    have c1:=hc 1 _ rfl
    have c2:=hc 2 _ rfl
    have c3:=hc 3 _ rfl
    have c4:=hc 4 _ rfl
    have c5:=hc 5 _ rfl
    have c6:=hc 6 _ rfl
    rw[Nat.add_zero]at c0
    have hgr:g<wr.heap.size:=by omega
    obtain⟨aV,cV,rfl⟩:=hI.out.row.slice
    have hdl:(dO (o.take q)).length=q:=by rw[dO_len,List.length_take];omega
    have hLo:Hid ((dO (o.take q)).length+1≤maxLen∧((dO (o.take q)).length+1)*104≤140737488355328):=by rw[hdl];exact⟨by simp only[maxLen];omega,by omega⟩
    have hxv:=hI.out.var
    have hxr:=hI.out.res
    have y5:=hxv.cell 5
    have f5:=hxv.frozen 5
    have hgv:=hxv.lt
    have hq1:(q:Int)<(o.length:Int):=by omega
    have hq0:(0:Int)≤q:=by omega
    have hw2:Below wr.heap.size wr ((wr.alloc (.cells #[.string key,.int .i64 k',.bool b',.int .i64 n',.string t',.slice la' l'.length lc',.slice oa' o'.length oc'] 99)).alloc (.cells #[.string key,.int .i64 k',.bool b',.int .i64 n',.string t',.slice la' l'.length lc',.slice oa' o'.length oc'] 63)):=((Below.refl _ _).alloc (Nat.le_refl _) _).alloc (by simp) _
    have hrow2:=hI.out.row.below hw2
    have hxi:HoldsIn (fun i=>((b≤i∧i<w.heap.size)∨w.heap.size+1<i)∧(Value.slice aV (dO (o.take q)).length cV).ownBlock≠some i) ((wr.alloc (.cells #[.string key,.int .i64 k',.bool b',.int .i64 n',.string t',.slice la' l'.length lc',.slice oa' o'.length oc'] 99)).alloc (.cells #[.string key,.int .i64 k',.bool b',.int .i64 n',.string t',.slice la' l'.length lc',.slice oa' o'.length oc'] 63)) (dP (key,.mk k' b' n' t' l' o')) [.string key,.int .i64 k',.bool b',.int .i64 n',.string t',.slice la' l'.length lc',.slice oa' o'.length oc']:=
     (((HoldsIn.of_fresh hf).mono (T:=fun i=>b≤i∧i<w.heap.size) (fun i hi h=>⟨h,hi⟩)).below (hbr.trans (hw2.mono hz))).mono (fun i _ hi=>⟨.inl hi,fun e=>by have:=(hI.out.row.base i e).1;omega⟩)
    have hxv2:=hxv.below hw2 hgv
    have hxr2:=hxr.below hw2 hxr.lt
    have hbw2:=hbr.trans (hw2.mono hz)
    have hs2:=hw2.size
    have hrd:=reads_seven (wr.alloc (.cells #[.string key,.int .i64 k',.bool b',.int .i64 n',.string t',.slice la' l'.length lc',.slice oa' o'.length oc'] 99)) (.string key) (.int .i64 k') (.bool b') (.int .i64 n') (.string t') (.slice la' l'.length lc') (.slice oa' o'.length oc')
    rw[World.size_alloc]at hrd
    have Hrow0:=Lib.hid hI.out.row
    have Hw2:=Lib.hid hw2
    have Hrow2:=Lib.hid hrow2
    have Hxi:=Lib.hid hxi
    have Htk:=Lib.hid htk
    have Hxv2:=Lib.hid hxv2
    have Hxr2:=Lib.hid hxr2
    have Hbw2:=Lib.hid hbw2
    have Hbr:=Lib.hid hbr
    have Hxv:=Lib.hid hxv
    have Hxr:=Lib.hid hxr
    have Hf:=Lib.hid hf
    have Hrd:=Lib.hid hrd
    clear hw2 hrow2 hxi htk hxv2 hxr2 hbw2 hbr hxv hxr hf hrd
    clear hc hat hdl
    go_upto_region 5 with(fail)
    iterate 26 go_step
    refine wp_append_X (d:=dP (key,.mk k' b' n' t' l' o')) (V:=.slice aV (dO (o.take q)).length cV) (.tmp 14) (.tmp 20) 25 rfl Tryz.underlying25 Hj.out Hy0.out Hy1.out Hy2.out rfl (by omega) rfl Hrow2.out (by omega) (dP_cells _) Hxi.out rfl Hrd.out hLo.out.1 hLo.out.2 ?_
    intro V6 w6 hrow6 hg6 hat6
    have hxv6:=blk_appX Hxv2.out hg6 Hrow0.out (.inl (by omega))
    have e6:=hxv6.cell 5
    have g6:=hxv6.frozen 5
    have hxr6:=blk_appX Hxr2.out hg6 Hrow0.out (.inl (by omega))
    have hw6:=below_appX Hbw2.out hg6 Hrow0.out (by omega) (by omega)
    rw[Htk.out]at hrow6
    obtain⟨a6,c6,rfl⟩:=hrow6.slice
    have HG:=Lib.hid (And.intro hrow6 (And.intro hxv6 (And.intro hxr6 hw6)))
    clear hrow6 hg6 hat6 hxv6 hxr6 hw6
    obtain⟨k1,k2,k3,k4⟩:=HG.out
    have hkb:=k1.base
    have HN:Hid (LM b w o (q+1) (w6.setCell ⟨w.heap.size+1,5,none⟩ (.slice a6 (dO (o.take (q+1))).length c6)) (.slice a6 (dO (o.take (q+1))).length c6)):=
     ⟨k4.setCell (by simp) _,k3.far (by simp) _,k2.set_ 5 _,k1.keepS (by simp[World.setCell]) (fun i h1 _=>Below.heap_setCell _ _ _ _ (by rcases h1 with h1|h1;(simp;omega);(have:=(hkb i h1).1;simp;omega)))⟩
    clear k1 k2 k3 k4 HG hkb
    go_wp2
    go_roundw
    case rel=>exact⟨q+1,by go_num,by omega,_,HN⟩
    case measure=>simp only[intOf];omega
  · obtain rfl:q=o.length:=by omega
    have hln:(dO (o.take o.length)).length=o.length:=by rw[dO_len,List.take_length]
    obtain⟨aV,cV,rfl⟩:=hI.out.row.slice_n hln
    obtain⟨i1,i2,i3,i4⟩:=hI.out
    obtain⟨y0,y1,y2,y3,y4,y5⟩:=vcell i3
    obtain⟨r0,r1,r2,r3,r4,r5⟩:=vcell i2
    have fz:=i2.frozen
    have hq:=i4.closeIn
    have hba:=i4.base
    have hgv:=i3.lt
    have I1:=Lib.hid i1
    have I2:=Lib.hid i2
    have I3:=Lib.hid i3
    have I4:=Lib.hid i4
    have Hq:=Lib.hid hq
    have Hba:=Lib.hid hba
    have Hln:=Lib.hid hln
    clear i1 i2 i3 i4 hq hba hln
    clear hI
    go_upto_region 7 with(fail)
    repeat go_step
    have hxf:=((((((I2.out.set_ 0 (.int .i64 6)).set_ 1 (.bool false)).set_ 2 (.int .i64 0)).set_ 3 (.string ⟨#[]⟩)).set_ 4 (.slice none 0 0)).set_ 5 (.slice aV o.length cV))
    have hbf:=setMany_below [.int .i64 6,.bool false,.int .i64 0,.string ⟨#[]⟩,.slice none 0 0,.slice aV o.length cV] I1.out (Nat.le_refl _) (o:=0)
    have hff:Fresh b (setMany wr w.heap.size 0 [.int .i64 6,.bool false,.int .i64 0,.string ⟨#[]⟩,.slice none 0 0,.slice aV o.length cV]) (dV (ov o)) [.int .i64 6,.bool false,.int .i64 0,.string ⟨#[]⟩,.slice none 0 0,.slice aV o.length cV]:=by
     have h0:=Hq.out
     rw[List.take_length]at h0
     have h1:=(holdsIn_ov h0).later (w':=setMany wr w.heap.size 0 [.int .i64 6,.bool false,.int .i64 0,.string ⟨#[]⟩,.slice none 0 0,.slice aV o.length cV]) (by rw[setMany_size];exact Nat.le_refl _) (fun p p1 _=>World.cell?_of_block (setMany_far _ _ _ _ _ (by
      rcases p1 with p1|p1
      · omega
      · have:=(Hba.out _ p1).1;omega)))
     exact h1.mono fun i _ p1=>by
      rcases p1 with p1|p1
      · omega
      · have:=(Hba.out _ p1).1;omega
    exact bodyPost_ret (results_cell6 rfl rfl hxf) rfl ⟨hbf,aV,cV,rfl,hff⟩
end Go.Proofs.YtkkbplakgldlpaaGreatDoor
