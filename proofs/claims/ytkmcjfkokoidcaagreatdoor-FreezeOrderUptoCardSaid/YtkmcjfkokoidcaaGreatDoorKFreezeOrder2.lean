/- Parts: freeze.Of: the tree of any bytes, or why there is none. Condition: a text of at most 6 * 10^6 bytes. -/
import Derived.Test.YtkmcjfkokoidcaaGreatDoorKFa40
set_option maxHeartbeats 20000000
set_option maxRecDepth 100000
namespace Go.Proofs.YtkmcjfkokoidcaaGreatDoor
open Go Go.RowKit
def Lt (s:List UInt8) (w:World) (e:Ending) (w':World):Prop:=Below w.heap.size w w'/\ ∃p,e=.returned (.tuple #[.agg #[.pointer p],.int .i64 (Kv s).1])/\Eo (fun i=>w.heap.size<=i) w' (if(Kv s).1=0 then Bd (Kv s).2 else none) p
theorem O9 (s:ByteArray) (w:World) (hT:Cm w) (hN:Mv w) (hs:s.size<=100000000) (hbk: ∀v q,Fe s.data.toList=.ok v q->v.bulk<=40000000):
 Calls Tryz.prog 20 #[.string s] w (Lt s.data.toList w):=by
 obtain⟨PO,hPO⟩: ∃P:Ending->World->Prop,Lt s.data.toList w=P:=⟨_,rfl⟩;rw[hPO];obtain⟨w1,hw1⟩: ∃w1,w.alloc (.cells #[.pointer none] 26)=w1:=⟨_,rfl⟩;have hb1:Below w.heap.size w w1:=hw1▸Aa _ _;have hR1:Aj w1 w.heap.size 26 #[.pointer none]:=hw1▸Aj.new _ _ _;have hV:=Acn s w1 (hT.below hb1) (hN.below hb1) (by omega);have hTT: ∀W,Below w.heap.size w W->Cm W:=fun W h=>hT.below h
 cases hr:Fe s.data.toList with
 |bad c q=>
  rw[hr]at hV;have hc:c≠0:=by have:=Xq hr;omega
  have hc1:(c != 0)=true:=by simpa using hc
  have Hof:=qz (show Kv s.data.toList=(c, [])from by unfold Kv;rw[hr]);obtain⟨HV,HPO,Hb1,HR1⟩:=hid4 hV hPO hb1 hR1;clear hV hPO hb1 hR1;clear hr hT hN hTT hbk;go_enter Tryz.func20,Tryz.ntmps20;go_upto_region 1 with(fail);clear hw1;go_wp2_with (fail);(with_reducible refine(HV.out).mono ?_);rintro e w4 ⟨hb4,rfl⟩;have hR4:=HR1.out.below hb4 HR1.out.lt;have hB5:=(Hb1.out.trans (hb4.mono Hb1.out.size)).setCell (p:=⟨w.heap.size,0,none⟩) (Nat.le_refl _) (.pointer none);have hB6:=hB5.alloc hB5.size (.cells #[.int .i64 0,.bool false,.int .i64 0,.string ⟨#[]⟩,.slice none 0 0,.slice none 0 0] 37);have r0:=(HR1.out.below hb4 HR1.out.lt).cell 0;have fr:=(HR1.out.below hb4 HR1.out.lt).frozen;have lr:=(HR1.out.below hb4 HR1.out.lt).lt;have HP:Hid (PO (.returned (.tuple #[.agg #[.pointer none],.int .i64 c])) ((w4.setCell ⟨w.heap.size,0,none⟩ (.pointer none)).alloc (.cells #[.int .i64 0,.bool false,.int .i64 0,.string ⟨#[]⟩,.slice none 0 0,.slice none 0 0] 37))):=by
   show PO _ _;rw[<-HPO.out];exact⟨hB6,none,by rw[Hof.out],by rw[Hof.out,if_neg hc];rfl⟩
  have Hcl:=qz (((hR4.set_ 0 (.pointer none)).alloc (.cells #[.int .i64 0,.bool false,.int .i64 0,.string ⟨#[]⟩,.slice none 0 0,.slice none 0 0] 37)).cell 0);clear hb4 hB5 hB6 hR4 hc;go_wp2;exact bodyPost_ret (Cs rfl rfl Hcl.out) rfl HP.out
 |ok v q=>
  rw[hr]at hV;obtain⟨hm1,hm2,_,hm4⟩:=Rg hr;have hm3:=hbk _ _ hr;have hof:Kv s.data.toList=Cv v:=by unfold Kv;rw[hr]
  obtain⟨k',b',n',t',l',o'⟩:=v;have hF:=fun la oa lc oc W hW hh=>Ru k' b' n' t' l' o' la oa lc oc W (hTT W hW) hh hm3 hm4;unfold Mu at hF;rw[<-hof]at hF;obtain⟨HV,HPO,Hb1,HR1,HF⟩:=hid5 hV hPO hb1 hR1 hF;clear hV hPO hb1 hR1 hF;clear hr hT hN hTT hm1 hm2 hm3 hm4 hof hbk;go_enter Tryz.func20,Tryz.ntmps20;go_upto_region 1 with(fail);clear hw1;go_wp2_with (fail);(with_reducible refine(HV.out).mono ?_);rintro e w4 ⟨hb4,cs,rfl,hf4⟩;obtain⟨la4,lc4,oa4,oc4,rfl⟩:=G7 hf4;have hb5:=hb4.alloc hb4.size (.cells #[.int .i64 k',.bool b',.int .i64 n',.string t',.slice la4 l'.length lc4,.slice oa4 o'.length oc4] 37);have hf5:=hf4.later (Aa w4 (.cells #[.int .i64 k',.bool b',.int .i64 n',.string t',.slice la4 l'.length lc4,.slice oa4 o'.length oc4] 37));have hB5:=Hb1.out.trans (hb5.mono Hb1.out.size);have HC:=qz (HF.out la4 oa4 lc4 oc4 _ hB5 (Cg _ _ hf5.now));have HR5:=qz (HR1.out.below hb5 HR1.out.lt);have HB5:=qz hB5;clear hB5;clear hf4 hf5 hb4 hb5;go_wp2_with (fail);(with_reducible refine(HC.out).mono ?_);rintro e w6 ⟨hb6,p,rfl,ht6⟩;have hR6:=HR5.out.below hb6 HR5.out.lt;have hz5:=HB5.out.size;have lR:=HR5.out.lt;have r0:=hR6.cell 0;have fr:=hR6.frozen;have lr:=hR6.lt;have HP:Hid (PO (.returned (.tuple #[.agg #[.pointer p],.int .i64 (Kv s.data.toList).1])) (w6.setCell ⟨w.heap.size,0,none⟩ (.pointer p))):=by
   show PO _ _;rw[<-HPO.out];refine⟨(HB5.out.trans (hb6.mono hz5)).setCell (p:=⟨w.heap.size,0,none⟩) (Nat.le_refl _) _,p,rfl, ?_⟩;exact(ht6.later (by simp[World.setCell]) (fun i i1 _=>Below.heap_setCell _ _ _ _ (by show i≠w.heap.size;omega))).mono fun i _ h=>Nat.le_trans hz5 h
  have Hcl:=qz ((hR6.set_ 0 (.pointer p)).cell 0);clear hb6 ht6 hR6;go_wp2;exact bodyPost_ret (Cs rfl rfl Hcl.out) rfl HP.out
theorem Nz (s:ByteArray) (w:World) (hT:Cm w) (hN:Mv w) (hs:s.size<=6000000):
 Calls Tryz.prog 20 #[.string s] w (Lt s.data.toList w):=O9 s w hT hN (by omega) fun v q hr=>by
 obtain⟨_,_,hm3,_⟩:=Rg hr;rw[Al]at hm3;omega
end Go.Proofs.YtkmcjfkokoidcaaGreatDoor
