/- Parts: commonplaceref02.Copy: all of a value, in new memory. Condition: a bulk of at most 10^8. -/
import Derived.Deep.RegionLaw
import Derived.StillTailTactics
import Derived.Test.YtdbejcbbhomdbaaGreatDoorKPt8
import Derived.Test.YtdbejcbbhomdbaaGreatDoorKPt9
set_option maxHeartbeats 20000000
set_option maxRecDepth 100000
namespace Go.Proofs.YtdbejcbbhomdbaaGreatDoor
open Go Go.RowKit Go.Lib
theorem Ab8:(Tryz.prog.info? 43).map (fun i=>(i.zero,i.size,i.bytes))=some (some (.pointer none),1,8):=by kernel_rfl
theorem Acb (b:Nat) (w:World) (V:Value) (n:Nat) (xs:List Value) (hV:w.ownsRow b 43 1 V n xs) (hb:b<=w.heap.size) (hn:n<=1000) (vb:Nat) (ys:List Value) (hl:ys.length=1) (hvs: ∀j v,ys[j]? =some v->w.cell? ⟨vb,j,none⟩=some v) (h1: ∀u ∈ ys,u.oneCell'=true):
 Calls Tryz.prog 132 #[V,.int .i64 n,.slice (some ⟨vb,0,none⟩) 1 1] w fun e w'=> ∃V',e=.returned V'/\w'.ownsRow b 43 1 V' (n+1) (xs++ys)/\w.grownBy w' V.ownBlock/\(V'.ownBlock=V.ownBlock\/V'.ownBlock=some w.heap.size):=by
 obtain⟨i0,hi0,hz0,hzs,hzb⟩:=info_parts Ab8;obtain⟨V',w',hrun,k1,k2,_,k3⟩:=run_append_own_at (P:=Tryz.prog) (w:=w) b 144 144 43 i0 _ 1 8 Tryz.underlying144 hi0 hz0 hzs hzb rfl (by omega) V n xs hV ⟨vb,0,none⟩ 1 1 ys (by omega) (fun j u hj=>by rw[Bi,Nat.zero_add];exact hvs j u hj) h1 (by simp only[maxLen];omega) (by omega) hb;have hV':=hV;rcases hV'.2 with⟨rfl,rfl⟩|⟨g,cap,cur,rfl,hbg,hg,hnc,hcm,_⟩
 . have hP: ∃V2,Ending.returned V'=.returned V2/\w'.ownsRow b 43 1 V2 (0+1) (xs++ys)/\w.grownBy w' (Value.slice none 0 0).ownBlock/\(V2.ownBlock=(Value.slice none 0 0).ownBlock\/V2.ownBlock=some w.heap.size):=⟨V',rfl,k1,k2,k3⟩;have HP:=qz hP;clear hV hV' k1 k2 k3 hP hvs h1;go_enter Tryz.func132,Tryz.ntmps132;go_wp2_with (at_builtin;refine Lib.wpList_append_run _ rfl _ _ _ _ rfl _ _ rfl rfl _ _ hrun ?_);go_ret;exact HP.out
 . have hP: ∃V2,Ending.returned V'=.returned V2/\w'.ownsRow b 43 1 V2 (n+1) (xs++ys)/\w.grownBy w' (Value.slice (some ⟨g,0,none⟩) n cap).ownBlock/\(V2.ownBlock=(Value.slice (some ⟨g,0,none⟩) n cap).ownBlock\/V2.ownBlock=some w.heap.size):=⟨V',rfl,k1,k2,k3⟩;have HP:=qz hP;have hc63:cap<=9223372036854775807:=by simp only[maxLen]at hcm;omega
   clear hV hV' k1 k2 k3 hP hvs h1 hg hcm;go_enter Tryz.func132,Tryz.ntmps132;go_wp2_with (at_builtin;refine Lib.wpList_append_run _ rfl _ _ _ _ rfl _ _ rfl rfl _ _ hrun ?_)
   all_goals(go_ret;exact HP.out)
theorem Zx (b:Nat) (w:World) (g n i:Nat) (cur:Array Value) (xs:List Value) (hb:b<=w.heap.size) (hg:w.heap[g]? =some (.cells cur 43 (0,0))) (hcs:cur.size=n*1) (hx:cur.toList.take (n*1)=xs) (hi:i<n) (hn:n<=1000) (h1x: ∀u ∈ xs,u.oneCell'=true)
 (vb:Nat) (ys:List Value) (hl:ys.length=1) (hvs: ∀j v,ys[j]? =some v->w.cell? ⟨vb,j,none⟩=some v) (h1: ∀u ∈ ys,u.oneCell'=true):
 Calls Tryz.prog 132 #[.slice (some ⟨g,0,none⟩) n n,.int .i64 i,.slice (some ⟨vb,0,none⟩) 1 1] w fun e w'=> ∃V',e=.returned V'/\w'.ownsRow b 43 1 V' (n+1) (xs.take (i*1)++ys++xs.drop (i*1))/\Below w.heap.size w w'/\V'.ownBlock=some w.heap.size:=by
 obtain⟨i0,hi0,hz0,hzs,hzb⟩:=info_parts Ab8;have hxl:xs.length=n*1:=by rw[<-hx,List.length_take,Array.length_toList,hcs];omega
 have hcl:cur.toList=xs:=by rw[<-hx,List.take_of_length_le];rw[Array.length_toList,hcs];exact Nat.le_refl _
 have hgw:g<w.heap.size:=(Array.getElem?_eq_some_iff.1 hg).1;have hvw:vb<w.heap.size:=World.block_lt_of_cell? w _ (hvs 0 _ (List.getElem?_eq_getElem (by omega)));have hxc: ∀(W:World),W.heap[g]? =w.heap[g]? -> ∀j u,xs[j]? =some u->W.cell? ⟨g,j,none⟩=some u:=fun W hW j u hu=>by
  refine(cell_of_row _ _ _ _ _ _ (hW.trans hg)).trans ?_;rw[<-Array.getElem?_toList,hcl];exact hu
 have hsz:(Tryz.prog.info? 43).map (·.size)=some 1:=by rw[hi0];simp[hzs]
 have hz2: ¬((i:Int)=(n:Int)):=by omega
 have hz3:(n:Int)<(n:Int)+1:=by omega
 have hkk:(n:Int)+1 - (i:Int)=((n+1 - i:Nat):Int):=by omega
 have hik:i+(n+1 - i)=n+1:=by omega
 have hold:(Builtin.firstCells i0.size i (.slice (some ⟨g,0,none⟩) i n)).run Tryz.prog w.drew=.ok (xs.take (i*1)).toArray w.drew:=by
  rw[hzs];refine run_firstCells_some w.drew 1 i ⟨g,0,none⟩ i n (xs.take (i*1)) (by rw[List.length_take];omega) (fun j v hj=> ?_);rw[Bi,Nat.zero_add];rw[List.getElem?_take]at hj
  split at hj
  . exact hxc w.drew rfl j v hj
  . cases hj
 have hrz: ∀ty,(Builtin.append_ #[144,3] ty #[.slice (some ⟨g,0,none⟩) i n,.int .i64 ((n:Int)+1 - (i:Int))]).run Tryz.prog w=.ok (.slice (some ⟨w.heap.size,0,none⟩) (n+1) (grownCap w (n+1) n 43)) (w.drew.alloc (.cells ((xs.take (i*1)).toArray++Builtin.zeroCells (Value.cells (.pointer none)) (n+1 - i)++Builtin.zeroCells (Value.cells (.pointer none)) (grownCap w (n+1) n 43 - (n+1))) 43)):=fun ty=>by
  have h:=Lib.run_append_grow_zeros (P:=Tryz.prog) w 144 3 ty 43 i0 _ .i64 .i64 Tryz.underlying144 Tryz.underlying3 hi0 hz0 (some ⟨g,0,none⟩) i n (xs.take (i*1)) hold (n+1 - i) (by omega) (by omega) (by omega) (by omega) (by rw[hzb];omega) (by rw[hzb,hik];exact growslice_fits (by omega) (by omega));rw[hik]at h;rw[hkk];exact h
 obtain⟨G,hG⟩: ∃G,G=grownCap w (n+1) n 43:=⟨_,rfl⟩;have hGn:n+1<=G:=by rw[hG];exact grownCap_ge w _ _ _
 have hG63:G<=maxLen:=by rw[hG];exact grownCap_le_maxLen w (n+1) n 43 (by unfold maxLen;omega)
 have hGm:G<=9223372036854775807:=by simp only[maxLen]at hG63;omega
 rw[<-hG]at hrz;obtain⟨MM,hMM⟩: ∃MM:List Value,(Builtin.zeroCells (Value.cells (.pointer none)) (n+1 - i)).toList=MM:=⟨_,rfl⟩;obtain⟨ZZ,hZZ⟩: ∃ZZ:List Value,(Builtin.zeroCells (Value.cells (.pointer none)) (G - (n+1))).toList=ZZ:=⟨_,rfl⟩;have hMl:MM.length=(n+1 - i)*1:=by rw[<-hMM];simp[Builtin.zeroCells,Value.cells];try omega
 have hZl:ZZ.length=(G - (n+1))*1:=by rw[<-hZZ];simp[Builtin.zeroCells,Value.cells];try omega
 have hROW:(xs.take (i*1)).toArray++Builtin.zeroCells (Value.cells (.pointer none)) (n+1 - i)++Builtin.zeroCells (Value.cells (.pointer none)) (G - (n+1))=(xs.take (i*1)++MM++ZZ).toArray:=by
  apply Array.ext';simp[<-hMM,<-hZZ]
 rw[hROW]at hrz;obtain⟨R0,hR0⟩: ∃R:List Value,xs.take (i*1)++MM++ZZ=R:=⟨_,rfl⟩;rw[hR0]at hrz;have hRl:R0.length=G*1:=by
  rw[<-hR0,List.length_append,List.length_append,List.length_take,hMl,hZl,hxl];omega
 obtain⟨R1,hR1⟩: ∃R:List Value,R0.take (i*1)++ys++R0.drop (i*1+ys.length)=R:=⟨_,rfl⟩;obtain⟨R2,hR2⟩: ∃R:List Value,R1.take ((i+1)*1)++xs.drop (i*1)++R1.drop ((i+1)*1+(xs.drop (i*1)).length)=R:=⟨_,rfl⟩;have hR1l:R1.length=G*1:=by
  rw[<-hR1,List.length_append,List.length_append,List.length_take,List.length_drop,hRl,hl];omega
 have hRes:R2=xs.take (i*1)++ys++xs.drop (i*1)++ZZ:=by
  rw[<-hR2,<-hR1,<-hR0];exact Qb _ _ _ ys (xs.drop (i*1)) (i*1) ((i+1)*1) (by rw[List.length_take,hxl];omega) (by rw[hMl,hl,List.length_drop,hxl];omega) (by rw[hl];omega)
 have hR2l:R2.length=G*1:=by
  rw[<-hR2,List.length_append,List.length_append,List.length_take,List.length_drop,List.length_drop,hR1l,hxl];omega
 have hcA: ∀(W:World),W.heap[w.heap.size]? =some (.cells R0.toArray 43 (0,0))->(∀j,j<w.heap.size->W.heap[j]? =w.heap[j]?)-> ∀ty o dl dc,o=i*1->dl=n+1 - i->(Builtin.copy_ #[144,144] ty #[.slice (some ⟨w.heap.size,o,none⟩) dl dc,.slice (some ⟨vb,0,none⟩) 1 1]).run Tryz.prog W=.ok (goInt 1) (W.setRow w.heap.size R1.toArray):=fun W hW hk ty o dl dc ho hd=>by
  subst ho hd;have hmin:Nat.min 1 (n+1 - i)=1:=by show min 1 (n+1 - i)=1;omega
  have:=Dq (P:=Tryz.prog) W 144 144 ty 43 1 w.heap.size (i*1) (n+1 - i) dc ⟨vb,0,none⟩ 1 1 R0.toArray 43 ys Tryz.underlying144 hsz hW (by rw[hl,hmin]) (fun j v hj=>by rw[Bi,Nat.zero_add];exact(World.cell?_of_block (hk vb hvw)).trans (hvs j v hj)) (by rw[hl];simp only[List.size_toArray,hRl];omega) h1;rw[hmin]at this;refine this.trans ?_;rw[<-hR1];rfl
 have hcB: ∀(W:World),W.heap[w.heap.size]? =some (.cells R1.toArray 43 (0,0))->(∀j,j<w.heap.size->W.heap[j]? =w.heap[j]?)-> ∀ty o so dl dc sl sc,o=(i+1)*1->so=i*1->dl=n - i->sl=n - i->(Builtin.copy_ #[144,144] ty #[.slice (some ⟨w.heap.size,o,none⟩) dl dc,.slice (some ⟨g,so,none⟩) sl sc]).run Tryz.prog W=.ok (goInt (n - i:Nat)) (W.setRow w.heap.size R2.toArray):=fun W hW hk ty o so dl dc sl sc ho hso hd hs=>by
  subst ho hso hd hs;have hmin:Nat.min (n - i) (n - i)=n - i:=Nat.min_self _;have:=Dq (P:=Tryz.prog) W 144 144 ty 43 1 w.heap.size ((i+1)*1) (n - i) dc ⟨g,i*1,none⟩ (n - i) sc R1.toArray 43 (xs.drop (i*1)) Tryz.underlying144 hsz hW (by rw[List.length_drop,hxl,hmin];omega) (fun j v hj=>by rw[Bi];exact hxc W (hk g hgw) _ v (by rwa [List.getElem?_drop]at hj)) (by rw[List.length_drop,hxl];simp only[List.size_toArray,hR1l];omega) (fun v hv=>h1x v (List.mem_of_mem_drop hv));rw[hmin]at this;refine this.trans ?_;rw[<-hR2]
 have hP: ∀W:World,Below w.heap.size w W->W.heap[w.heap.size]? =some (.cells R2.toArray 43 (0,0))-> ∃V',Ending.returned (.slice (some ⟨w.heap.size,0,none⟩) (n+1) G)=.returned V'/\W.ownsRow b 43 1 V' (n+1) (xs.take (i*1)++ys++xs.drop (i*1))/\Below w.heap.size w W/\V'.ownBlock=some w.heap.size:=fun W hB hW=>
  ⟨_,rfl,Lh hb hW hGn hG63 (by simpa using hR2l) (by
    show List.take _ R2=_;rw[hRes,List.take_left'];rw[List.length_append,List.length_append,List.length_take,List.length_drop,hxl,hl];omega),hB,rfl⟩
 have hGi: ¬(G=i):=by omega
 have hGim: ¬(G=i+1):=by omega
 have hci: ¬(n=i):=by omega
 have hw1:IntKind.i64.wrap ((i:Int)+1)=(i:Int)+1:=by rw[IntKind.wrap_i64];omega
 have hb1:(0:Int)<=(i:Int)+1:=by omega
 have hin:i<=n:=by omega
 have htn:((i:Int)+1).toNat=i+1:=by omega
 have hb3:(i:Int)<=(n:Int):=by omega
 obtain⟨W0,hW0⟩: ∃W:World,(w.alloc (.cells R0.toArray 43)).drew=W:=⟨_,rfl⟩;have hB0:Below w.heap.size w W0:=hW0▸Below.drew ((Below.refl _ _).alloc (Nat.le_refl _) _);have hR0h:W0.heap[w.heap.size]? =some (.cells R0.toArray 43 (0,0)):=hW0▸heap_alloc_new w _;have hcA1:=fun ty dc=>hcA W0 hR0h (fun j hj=>hB0.block j hj) ty _ _ dc rfl rfl;obtain⟨W1,hW1⟩: ∃W:World,W0.setRow w.heap.size R1.toArray=W:=⟨_,rfl⟩;rw[hW1]at hcA1;have hB1:Below w.heap.size w W1.drew:=hW1▸Below.drew (J6 hB0 (Nat.le_refl _) _);have hR1h:W1.drew.heap[w.heap.size]? =some (.cells R1.toArray 43 (0,0)):=hW1▸setRow_heap W0 _ _ _ _ _ hR0h;have hcB1:=fun ty dc sc=>hcB W1.drew hR1h (fun j hj=>hB1.block j hj) ty _ _ _ dc _ sc rfl rfl rfl rfl;have HPf:=qz (hP (W1.drew.setRow w.heap.size R2.toArray) (J6 hB1 (Nat.le_refl _) _) (setRow_heap W1.drew _ _ _ _ _ hR1h));simp only[Nat.mul_one]at hcA1 hcB1;clear hcA hcB hP hold hRes hR2 hR1 hR0 hROW hMM hZZ hMl hZl hxc hcl hx hg hvs h1 h1x hi0 hz0 hzs hzb hRl hR1l hR2l hG hsz hkk hik hxl hcs hG63 hB0 hR0h hB1 hR1h hW1;go_enter Tryz.func132,Tryz.ntmps132;go_wp2_with (at_builtin;refine Lib.wpList_append_run _ rfl _ _ _ _ rfl _ _ rfl rfl _ _ (hrz _) ?_);refine wp_region_held_drew (S:=fun _=>True) (by kernel_rfl) trivial (fun hHeld=> ?_);refine tkH 0 hHeld ?_;refine tkH 1 hHeld ?_;refine tkH 2 hHeld ?_;refine tkH 3 hHeld ?_;refine tkH 4 hHeld ?_;refine tkH 5 hHeld ?_;refine tkH 6 hHeld ?_;refine tkH 7 hHeld ?_;refine Og 8 fun K hK=> ?_;go_simp;refine hK.out _ _ trivial (fun hHeld=> ?_);clear hK K;refine wpAnyH_done (by kernel_rfl) ?_ _;clear hHeld;go_wp2;go_ret;exact HPf.out
theorem Zy (b:Nat) (w:World) (g n cap i:Nat) (cur:Array Value) (xs:List Value) (hbg:b<=g) (hg:w.heap[g]? =some (.cells cur 43 (0,0))) (hcs:cur.size=cap*1) (hx:cur.toList.take (n*1)=xs) (hi:i<n) (hnc:n+1<=cap) (hcm:cap<=maxLen) (hn:n<=1000) (h1x: ∀u ∈ xs,u.oneCell'=true)
 (vb:Nat) (y:Value) (hvb:Aj w vb 43 #[y]) (hne:vb≠g) (h1:y.oneCell'=true):
 Calls Tryz.prog 132 #[.slice (some ⟨g,0,none⟩) n cap,.int .i64 i,.slice (some ⟨vb,0,none⟩) 1 1] w fun e w'=> ∃V',e=.returned V'/\w'.ownsRow b 43 1 V' (n+1) (xs.take i++ [y]++xs.drop i)/\w.grownBy w' (some g)/\V'.ownBlock=some g:=by
 obtain⟨i0,hi0,hz0,hzs,hzb⟩:=info_parts Ab8;have hxl:xs.length=n:=by rw[<-hx,List.length_take,Array.length_toList,hcs];omega
 have hsz:(Tryz.prog.info? 43).map (·.size)=some 1:=by rw[hi0];simp[hzs]
 have hz2: ¬((i:Int)=(n:Int)):=by omega
 have hcl:cur.toList=xs.take i++xs.drop i++cur.toList.drop n:=by rw[List.take_append_drop,<-hx,Nat.mul_one,List.take_append_drop]
 have hxc: ∀(W:World),W.heap[g]? =w.heap[g]? -> ∀j u,xs[j]? =some u->W.cell? ⟨g,j,none⟩=some u:=fun W hW j u hu=>by
  refine(cell_of_row _ _ _ _ _ _ (hW.trans hg)).trans ?_;rw[<-Array.getElem?_toList];rw[<-hx,List.getElem?_take]at hu
  split at hu
  . exact hu
  . cases hu
 have hov: ∀lb cb,(callFunc 176 #[.slice (some ⟨vb,0,none⟩) 1 1,.slice (some ⟨g,i+1,none⟩) lb cb]).run Tryz.prog w=.ok (.value (.bool false)) w:=fun lb cb=>by
  rw[run_callFunc_extern Tryz.func176 (by kernel_rfl) (by kernel_rfl) (by kernel_rfl) (e:=Extern.SlicesOverlaps.overlaps #[144,144] #[4]) (by kernel_rfl),
   Lib.run_overlaps_apart w 144 4 43 Tryz.underlying144 1 (fun _=>by kernel_rfl) ⟨vb,0,none⟩ ⟨g,i+1,none⟩ 1 1 lb cb hne 43 43 1 cap (by simp[World.shape?,show w.heap[vb]? =_ from hvb]) (by simp[World.shape?,hg,hcs]) (by omega) (hvb.frozen 0) (hvb.frozen 1)]
  rfl
 obtain⟨R1,hR1⟩: ∃R:List Value,cur.toList.take (i+1)++xs.drop i++cur.toList.drop (i+1+(xs.drop i).length)=R:=⟨_,rfl⟩;obtain⟨R2,hR2⟩: ∃R:List Value,R1.take i++ [y]++R1.drop (i+1)=R:=⟨_,rfl⟩;have hcl1:cur.toList.length=cap:=by rw[Array.length_toList,hcs,Nat.mul_one]
 have hR1l:R1.length=cap:=by rw[<-hR1,List.length_append,List.length_append,List.length_take,List.length_drop,List.length_drop,hcl1,hxl];omega
 have hRes:R2.take (n+1)=xs.take i++ [y]++xs.drop i:=by
  have e1:R1.take i=xs.take i:=by
   rw[<-hR1,List.append_assoc,List.take_append_of_le_length (by rw[List.length_take,hcl1];omega),List.take_take,Nat.min_eq_left (by omega),<-hx,List.take_take,Nat.min_eq_left (by omega)]
  have e2:R1.drop (i+1)=xs.drop i++cur.toList.drop (i+1+(xs.drop i).length):=by
   rw[<-hR1,List.append_assoc,List.drop_left'];rw[List.length_take,hcl1];omega
  rw[<-hR2,e1,e2,<-List.append_assoc,List.take_left'];rw[List.length_append,List.length_append,List.length_take,List.length_drop,hxl];simp;omega
 have hR2l:R2.length=cap:=by rw[<-hR2,List.length_append,List.length_append,List.length_take,List.length_drop,hR1l];simp;omega
 have hgw:g<w.heap.size:=(Array.getElem?_eq_some_iff.1 hg).1;have hcA1: ∀ty dc sc,(Builtin.copy_ #[144,144] ty #[.slice (some ⟨g,i+1,none⟩) (n - i) dc,.slice (some ⟨g,i,none⟩) (n+1 - i) sc]).run Tryz.prog w.drew=.ok (goInt (n - i:Nat)) (w.drew.setRow g R1.toArray):=fun ty dc sc=>by
  have hmin:Nat.min (n+1 - i) (n - i)=n - i:=Nat.min_eq_right (by omega);have:=Dq (P:=Tryz.prog) w.drew 144 144 ty 43 1 g (i+1) (n - i) dc ⟨g,i,none⟩ (n+1 - i) sc cur 43 (xs.drop i) Tryz.underlying144 hsz hg (by rw[List.length_drop,hxl,hmin];omega) (fun j v hj=>by rw[Bi];exact hxc w.drew rfl _ v (by rwa [List.getElem?_drop]at hj)) (by rw[List.length_drop,hxl,hcs];omega) (fun v hv=>h1x v (List.mem_of_mem_drop hv));rw[hmin]at this;refine this.trans ?_;rw[<-hR1]
 have hB0:w.grownBy w.drew (some g):=Fu (Below.drew (Below.refl _ _));obtain⟨W1,hW1⟩: ∃W:World,w.drew.setRow g R1.toArray=W:=⟨_,rfl⟩;rw[hW1]at hcA1;have hB1:w.grownBy W1 (some g):=hW1▸Ni hB0 (Rp _);have hR1h:W1.heap[g]? =some (.cells R1.toArray 43 (0,0)):=hW1▸setRow_heap w.drew _ _ _ _ _ hg;have hcB1: ∀ty dl dc,dl=n+1 - i->(Builtin.copy_ #[144,144] ty #[.slice (some ⟨g,i,none⟩) dl dc,.slice (some ⟨vb,0,none⟩) 1 1]).run Tryz.prog W1=.ok (goInt (1:Nat)) (W1.setRow g R2.toArray):=fun ty dl dc hd=>by
  subst hd;have hmin:Nat.min 1 (n+1 - i)=1:=by show min 1 (n+1 - i)=1;omega
  have:=Dq (P:=Tryz.prog) W1 144 144 ty 43 1 g i (n+1 - i) dc ⟨vb,0,none⟩ 1 1 R1.toArray 43 [y] Tryz.underlying144 hsz hR1h (by rw[hmin];rfl) (fun j v hj=>by
   rw[Bi,Nat.zero_add];refine(World.cell?_of_block (hB1.block vb hvb.lt (fun e=>hne (Option.some.inj e)))).trans ((hvb.cell j).trans ?_);simpa using hj) (by simp[hR1l];omega) (by simpa using h1)
  rw[hmin]at this;refine this.trans ?_;rw[<-hR2];rfl
 have hPf: ∃V',Ending.returned (.slice (some ⟨g,0,none⟩) (n+1) cap)=.returned V'/\(W1.setRow g R2.toArray).ownsRow b 43 1 V' (n+1) (xs.take i++ [y]++xs.drop i)/\w.grownBy (W1.setRow g R2.toArray) (some g)/\V'.ownBlock=some g:=
  ⟨_,rfl,Lh hbg (setRow_heap W1 _ _ _ _ _ hR1h) hnc hcm (by simpa using hR2l) (by simpa using hRes),Ni hB1 (Rp _),rfl⟩
 have hcm':cap<=9223372036854775807:=by simp only[maxLen]at hcm;omega
 have hw1:IntKind.i64.wrap ((i:Int)+1)=(i:Int)+1:=by rw[IntKind.wrap_i64];omega
 have hb1:(0:Int)<=(i:Int)+1:=by omega
 have hin:i<=n:=by omega
 have htn:((i:Int)+1).toNat=i+1:=by omega
 have hb2: ¬(cap=i+1):=by omega
 have hb3:(i:Int)<=(n:Int)+1:=by omega
 have hb4: ¬(cap=i):=by omega
 have hb5: ¬((cap:Int)<(n:Int)+1):=by omega
 have hsub:n+1 - (i+1)=n - i:=by omega
 have hcB2:=fun ty dc=>hcB1 ty _ dc rfl;have HPf:=qz hPf;clear hPf;clear hcB1 hxc hcl hR1 hR2 hcl1 hR1l hRes hR2l hx hcs hg h1x h1 hi0 hz0 hzs hzb hsz hxl hB0 hW1 hB1 hR1h hcm hvb;go_enter Tryz.func132,Tryz.ntmps132;go_wp2_with (simp only[hov]);refine wp_region_held_drew (S:=fun _=>True) (by kernel_rfl) trivial (fun hHeld=> ?_);refine tkH 0 hHeld ?_;refine tkH 1 hHeld ?_;refine tkH 2 hHeld ?_;refine tkH 3 hHeld ?_;refine tkH 4 hHeld ?_;refine tkH 5 hHeld ?_;refine tkH 6 hHeld ?_;refine tkH 7 hHeld ?_;refine Og 8 fun K hK=> ?_;go_simp;refine hK.out _ _ trivial (fun hHeld=> ?_);clear hK K;refine wpAnyH_done (by kernel_rfl) ?_ _;clear hHeld;go_wp2;go_ret;exact HPf.out
end Go.Proofs.YtdbejcbbhomdbaaGreatDoor
namespace Go.Proofs.YtdbejcbbhomdbaaGreatDoor
open Go.RowKit
def Ea (b:Nat) (wr:World) (own:Option Nat) (l:List Val) (ns:List Value):Prop:= ∀w'':World,wr.heap.size<=w''.heap.size->
 (∀p:Addr,b<=p.block->p.block<wr.heap.size->own≠some p.block->w''.cell? p=wr.cell? p)->Gr w'' wr.heap.size l ns
theorem Ea.step {b:Nat} {wr w4 w6:World} {own own':Option Nat} {t N:Nat} {l:List Val} {ns cs:List Value} {x:Val} (h:Ea b wr own l ns) (hx:K4 wr w4 x cs) (hw:b<=wr.heap.size)
 (ho: ∀g,own=some g->g<wr.heap.size) (ho':own'=own\/own'=some N) (hN:w4.heap.size<=N) (ht:t<b)
 (h4: ∀p:Addr,p.block<wr.heap.size->w4.cell? p=wr.cell? p) (hs4:wr.heap.size<=w4.heap.size)
 (h6: ∀p:Addr,p.block<w4.heap.size->own≠some p.block->p.block≠t->w6.cell? p=w4.cell? p) (hs6:w4.heap.size<=w6.heap.size):Ea b w6 own' (l++ [x]) (ns++cs):=by
 intro w'' hsz hag;have a1:Gr w'' w6.heap.size l ns:=by
  refine Gr.more (by omega) (h w'' (by omega) (fun p p1 p2 p3=> ?_));have e1:own'≠some p.block:=by
   rcases ho' with e|e
   . rw[e];exact p3
   . rw[e];intro e2;have:=Option.some.inj e2;omega
  rw[hag p p1 (by omega) e1,h6 p (by omega) p3 (by omega),h4 p p2]
 have a2:Aa w'' w6.heap.size x cs:=by
  refine Aa.more hs6 _ _ (hx w'' (by omega) (fun p p1 p2=> ?_));have e0:own≠some p.block:=fun e=>by have:=ho _ e;omega
  have e1:own'≠some p.block:=by
   rcases ho' with e|e
   . rw[e];exact e0
   . rw[e];intro e2;have:=Option.some.inj e2;omega
  rw[hag p (by omega) (by omega) e1,h6 p p2 e0 (by omega)]
 exact Gr.snoc a2 a1
def Aez (b:Nat) (wr:World) (l:List Val) (V:Value):Prop:= ∃la lc,V=.slice la l.length lc/\(l= []\/ ∃g,la=some ⟨g,0,none⟩/\g<wr.heap.size/\ ∀w'':World,wr.heap.size<=w''.heap.size->
 (∀p:Addr,b<=p.block->p.block<wr.heap.size->w''.cell? p=wr.cell? p)->Ai w'' wr.heap.size l g 0)
theorem Ea.close {b:Nat} {wr:World} {l:List Val} {V:Value} {ns:List Value} (h:Ea b wr V.ownBlock l ns) (ho:wr.ownsRow b 33 6 V l.length ns):Aez b wr l V:=by
 obtain⟨la,lc,rfl,hs⟩:=M5 ho;refine⟨la,lc,rfl, ?_⟩;rcases hs with h0|⟨g,rfl,hbg,hg,hc⟩
 . exact .inl (List.length_eq_zero_iff.1 h0)
 . refine .inr ⟨g,rfl,hg,fun w'' hsz hag=> ?_⟩;exact(h w'' hsz (fun p p1 p2 _=>hag p p1 p2)).holds (fun v cs hv=>hv) (fun j u hu=>by rw[hag _ hbg hg];exact hc j u hu)
def Dk (b:Nat) (wr:World) (own:Option Nat) (l:List (ByteArray×Val)) (ns:List Value):Prop:= ∀w'':World,wr.heap.size<=w''.heap.size->
 (∀p:Addr,b<=p.block->p.block<wr.heap.size->own≠some p.block->w''.cell? p=wr.cell? p)->Et w'' wr.heap.size l ns
theorem Dk.step {b:Nat} {wr w4 w6:World} {own own':Option Nat} {t N:Nat} {l:List (ByteArray×Val)} {ns cs:List Value} {key:ByteArray} {x:Val} (h:Dk b wr own l ns) (hx:K4 wr w4 x cs) (hw:b<=wr.heap.size)
 (ho: ∀g,own=some g->g<wr.heap.size) (ho':own'=own\/own'=some N) (hN:w4.heap.size<=N) (ht:t<b)
 (h4: ∀p:Addr,p.block<wr.heap.size->w4.cell? p=wr.cell? p) (hs4:wr.heap.size<=w4.heap.size)
 (h6: ∀p:Addr,p.block<w4.heap.size->own≠some p.block->p.block≠t->w6.cell? p=w4.cell? p) (hs6:w4.heap.size<=w6.heap.size):Dk b w6 own' (l++ [(key,x)]) (ns++(.string key::cs)):=by
 intro w'' hsz hag;have a1:Et w'' w6.heap.size l ns:=by
  refine Et.more (by omega) (h w'' (by omega) (fun p p1 p2 p3=> ?_));have e1:own'≠some p.block:=by
   rcases ho' with e|e
   . rw[e];exact p3
   . rw[e];intro e2;have:=Option.some.inj e2;omega
  rw[hag p p1 (by omega) e1,h6 p (by omega) p3 (by omega),h4 p p2]
 have a2:Aa w'' w6.heap.size x cs:=by
  refine Aa.more hs6 _ _ (hx w'' (by omega) (fun p p1 p2=> ?_));have e0:own≠some p.block:=fun e=>by have:=ho _ e;omega
  have e1:own'≠some p.block:=by
   rcases ho' with e|e
   . rw[e];exact e0
   . rw[e];intro e2;have:=Option.some.inj e2;omega
  rw[hag p (by omega) (by omega) e1,h6 p p2 e0 (by omega)]
 exact Et.snoc a2 a1
def Ae0 (b:Nat) (wr:World) (l:List (ByteArray×Val)) (V:Value):Prop:= ∃la lc,V=.slice la l.length lc/\(l= []\/ ∃g,la=some ⟨g,0,none⟩/\g<wr.heap.size/\ ∀w'':World,wr.heap.size<=w''.heap.size->
 (∀p:Addr,b<=p.block->p.block<wr.heap.size->w''.cell? p=wr.cell? p)->Ak w'' wr.heap.size l g 0)
theorem Dk.close {b:Nat} {wr:World} {l:List (ByteArray×Val)} {V:Value} {ns:List Value} (h:Dk b wr V.ownBlock l ns) (ho:wr.ownsRow b 88 7 V l.length ns):Ae0 b wr l V:=by
 have ho':=ho;rcases ho.2 with⟨rfl,hz⟩|⟨g,cap,cur,rfl,hbg,hg,_,_,_,_⟩
 . exact⟨none,0,by rw[hz],.inl (List.length_eq_zero_iff.1 hz)⟩
 . refine⟨_,cap,rfl,.inr ⟨g,rfl,(Array.getElem?_eq_some_iff.1 hg).1,fun w'' hsz hag=> ?_⟩⟩;refine(h w'' hsz (fun p p1 p2 _=>hag p p1 p2)).holds (fun j u hu=> ?_);rw[hag _ hbg (Array.getElem?_eq_some_iff.1 hg).1];have:=ho'.cells (g:=g) rfl j u hu
   rwa [Go.WideShapes.add_plain]at this
theorem Nx {w4 w5:World} {ob:Obj} {own:Option Nat} {t i:Nat} {V:Value} (hg:(w4.alloc ob).grownBy w5 own):
 (∀c,c<w4.heap.size->own≠some c->c≠t->(w5.setCell ⟨t,i,none⟩ V).heap[c]? =w4.heap[c]?)/\(∀p:Addr,p.block<w4.heap.size->own≠some p.block->p.block≠t->(w5.setCell ⟨t,i,none⟩ V).cell? p=w4.cell? p)/\
 w4.heap.size<=(w5.setCell ⟨t,i,none⟩ V).heap.size:=by
 have h1: ∀c,c<w4.heap.size->own≠some c->c≠t->(w5.setCell ⟨t,i,none⟩ V).heap[c]? =w4.heap[c]? :=by
  intro c hc ho ht;rw[Es _ _ _ _ ht,hg.block c (by simp;omega) (fun e=>ho e.symm),Lib.alloc_old w4 _ _ hc]
 refine⟨h1,fun p hp ho ht=>World.cell?_of_block (h1 p.block hp ho ht), ?_⟩;have:=hg.size;simp only[World.size_alloc]at this;have e:(w5.setCell ⟨t,i,none⟩ V).heap.size=w5.heap.size:=by simp[World.setCell]
 omega
theorem Zm (k:Int) (b:Bool) (n:Int) (t:ByteArray) (l:List Val) (o:List (ByteArray×Val)) (la oa:Option Addr) (oc lc:Nat) (w:World) (IH: ∀v ∈ l,Aa0 v) (IHo: ∀m ∈ o,Aa0 m.2)
 (ho:o= []\/ ∃g off,oa=some ⟨g,off,none⟩/\g<w.heap.size/\Ak w w.heap.size o g off) (hbo:Ag o<=100000000)
 (hl:l= []\/ ∃g off,la=some ⟨g,off,none⟩/\g<w.heap.size/\Ai w w.heap.size l g off) (hb:A6 l<=100000000):
 Calls Tryz.prog 40 #[.agg #[.int .i64 k,.bool b,.int .i64 n,.string t,.slice la l.length lc,.slice oa o.length oc]] w fun e w'=>(∃cs',e=.returned (.agg (cs':List Value).toArray)/\cs'.length=6/\K4 w w' (.mk k b n t l o) cs')/\Below w.heap.size w w':=by
 have hln:=Ch l;obtain⟨i0,hi,hz0,hz1,hz2⟩:=info_parts L0;obtain⟨HI,HZ0,HZ1,HZ2,HIH,HIHo,Ho⟩:=hid7 hi hz0 hz1 hz2 IH IHo ho;have hlo:=Bu o;clear hi hz0 hz1 hz2 IH IHo ho;go_enter Tryz.func40,Tryz.ntmps40;go_wp2_with (fail);obtain⟨w0,hw0⟩: ∃w0,((w.alloc (.cells #[.int .i64 k,.bool b,.int .i64 n,.string t,.slice la l.length lc,.slice oa o.length oc] 33)).alloc (.cells #[.int .i64 0,.bool false,.int .i64 0,.string ⟨#[]⟩,.slice none 0 0,.slice none 0 0] 33)).alloc (.cells #[.int .i64 k,.bool b,.int .i64 n,.string t,.slice none 0 0,.slice none 0 0] 33)=w0:=⟨_,rfl⟩;have Hown0:Hid (w0.ownsRow (w.heap.size+3) 33 6 (.slice none 0 0) 0 []):=World.ownsRow_nil _ _ _ _;have Hfr0:Hid (Ea (w.heap.size+3) w0 (Value.slice none 0 0).ownBlock (l.take 0) []):=fun _ _ _=>rfl;have Hbw0:Hid (Below w.heap.size w w0):=by
  show Below _ _ _;rw[<-hw0];exact(((Below.refl _ _).alloc (Nat.le_refl _) _).alloc (by simp) _).alloc (by simp;omega) _
 have Hx10:Hid (w0.heap[w.heap.size]? =some (.cells #[.int .i64 k,.bool b,.int .i64 n,.string t,.slice la l.length lc,.slice oa o.length oc] 33 (0,0))):=by
  show _=_;rw[<-hw0,Lib.alloc_old _ _ _ (by simp;omega),Lib.alloc_old _ _ _ (by simp)];exact heap_alloc_new _ _
 have Hx20:Hid (w0.heap[w.heap.size+1]? =some (.cells #[.int .i64 0,.bool false,.int .i64 0,.string ⟨#[]⟩,.slice none 0 0,.slice none 0 0] 33 (0,0))):=by
  show _=_;rw[<-hw0,Lib.alloc_old _ _ _ (by simp)];have:=heap_alloc_new (w.alloc (.cells #[.int .i64 k,.bool b,.int .i64 n,.string t,.slice la l.length lc,.slice oa o.length oc] 33)) (.cells #[.int .i64 0,.bool false,.int .i64 0,.string ⟨#[]⟩,.slice none 0 0,.slice none 0 0] 33);simpa using this
 have Hx30:Hid (w0.heap[w.heap.size+2]? =some (.cells #[.int .i64 k,.bool b,.int .i64 n,.string t,.slice none 0 0,.slice none 0 0] 33 (0,0))):=by
  show _=_;rw[<-hw0];have:=heap_alloc_new ((w.alloc (.cells #[.int .i64 k,.bool b,.int .i64 n,.string t,.slice la l.length lc,.slice oa o.length oc] 33)).alloc (.cells #[.int .i64 0,.bool false,.int .i64 0,.string ⟨#[]⟩,.slice none 0 0,.slice none 0 0] 33)) (.cells #[.int .i64 k,.bool b,.int .i64 n,.string t,.slice none 0 0,.slice none 0 0] 33);simpa using this
 rw[hw0];clear hw0;go_loopw [4] (fun i wr=> ∃(q:Nat) (v1:Value) (ns:List Value),i=.int .i64 q/\q<=l.length/\Hid (wr.ownsRow (w.heap.size+3) 33 6 v1 q ns)/\Hid (Ea (w.heap.size+3) wr v1.ownBlock (l.take q) ns)/\Hid (Below w.heap.size w wr)/\
  Hid (wr.heap[w.heap.size+1]? =some (.cells #[.int .i64 0,.bool false,.int .i64 0,.string ⟨#[]⟩,.slice none 0 0,.slice none 0 0] 33 (0,0)))/\
  Hid (wr.heap[w.heap.size]? =some (.cells #[.int .i64 k,.bool b,.int .i64 n,.string t,.slice la l.length lc,.slice oa o.length oc] 33 (0,0)))/\
  Hid (wr.heap[w.heap.size+2]? =some (.cells #[.int .i64 k,.bool b,.int .i64 n,.string t,v1,.slice none 0 0] 33 (0,0)))) (fun i _=>l.length - (intOf i).toNat)
 case atStart=>exact⟨0,.slice none 0 0, [],rfl,Nat.zero_le _,Hown0,Hfr0,Hbw0,Hx20,Hx10,Hx30⟩
 case round=>
  obtain⟨q,v1,ns,rfl,hq,hown,hfrow,hbw,hx2,hx1,hx3⟩:=hrel;clear Hown0 Hfr0 Hbw0 Hx20 Hx10 Hx30;have b1:wr.cell? ⟨w.heap.size,4,none⟩=some (.slice la l.length lc):=by rw[Lib.cell_of_heap hx1.out];rfl
  have b3:wr.cell? ⟨w.heap.size+2,4,none⟩=some v1:=by rw[Lib.cell_of_heap hx3.out];rfl
  have f3:wr.frozen? ⟨w.heap.size+2,4,none⟩=false:=Lib.frozen_of_heap hx3.out _;have z3:w.heap.size+2<wr.heap.size:=(Array.getElem?_eq_some_iff.1 hx3.out).1;by_cases hlt:q<l.length
  . obtain⟨g,off,rfl,hg,hL⟩: ∃g off,la=some ⟨g,off,none⟩/\g<w.heap.size/\Ai w w.heap.size l g off:=by
     rcases hl with rfl|h
     . simp at hlt
     . exact h
    obtain⟨x,hx⟩: ∃v,l[q]? =some v:=⟨_,List.getElem?_eq_getElem hlt⟩;have hmem:=List.mem_of_getElem? hx;have IHx:=HIH.out x hmem;have hbv:=Cp hmem;have htk:l.take (q+1)=l.take q++ [x]:=by rw[List.take_add_one,hx];rfl
    obtain⟨k',b',n',t',l',o'⟩:=x;obtain⟨la',lc',oa',oc',hvs,c0,c1,c2,c3,c4,c5⟩:=(hL.below hg hbw.out).six hx;have hz:=hbw.out.size;have HC:=qz (IHx _ wr.drew (Aa.more hz _ _ (hvs.below (Below.drew (Below.refl _ _)))) (by omega));have hown4: ∀w4:World,Below wr.drew.heap.size wr.drew w4->w4.ownsRow (w.heap.size+3) 33 6 v1 q ns:=by
     intro w4 h4;have h5:Below wr.heap.size wr w4:=(Below.drew (Below.refl _ _)).trans h4;refine hown.out.kept (Gu h5) ?_
     cases v1.ownBlock with
     |none=>exact .inl rfl
     |some g=>exact .inr (by simp)
    have Hown4:=qz hown4;have HZ:=qz (show w.heap.size+3<=wr.heap.size by omega);have HX6:Hid (∀(w4:World),Below wr.drew.heap.size wr.drew w4-> ∀(ob:Obj) (w5:World),(w4.alloc ob).grownBy w5 v1.ownBlock->w5.heap[w.heap.size+2]? =some (.cells #[.int .i64 k,.bool b,.int .i64 n,.string t,v1,.slice none 0 0] 33 (0,0))):=by
     intro w4 h4 ob w5 h5;have e4:w4.heap[w.heap.size+2]? =_:=(h4.block (w.heap.size+2) z3).trans hx3.out;have l4:=(Array.getElem?_eq_some_iff.1 e4).1;rw[h5.block _ (by simp;omega) (fun e=>by have:=(hown.out.lt _ e.symm).1;omega),Lib.alloc_old w4 _ _ l4];exact e4
    have HG6:Hid (∀(w4:World),Below wr.drew.heap.size wr.drew w4-> ∀ob:Obj,(w4.alloc ob).cell? ⟨w.heap.size+2,4,none⟩=some v1):=by
     intro w4 h4 ob;have e4:w4.heap[w.heap.size+2]? =_:=(h4.block (w.heap.size+2) z3).trans hx3.out;have l4:=(Array.getElem?_eq_some_iff.1 e4).1;have e5:(w4.alloc ob).heap[w.heap.size+2]? =_:=(Lib.alloc_old w4 ob _ l4).trans e4;rw[Lib.cell_of_heap e5];rfl
    clear hown4 hvs hx hmem IHx hL hg;go_wp2_with (fail)
    go_region_law (first|(refine step_append_lies _ (by rfl) (.tmp 23) (.tmp 30) 30 (by rfl) (w.heap.size+3) 33 i0 (.agg #[.int .i64 0,.bool false,.int .i64 0,.string ⟨#[]⟩,.slice none 0 0,.slice none 0 0]) 6 88 Tryz.underlying30 HI.out HZ0.out HZ1.out HZ2.out rfl (by omega) v1 q ns (by rfl) ((Hown4.out _ Hb4.out).alloc _) ⟨w4.heap.size,0,none⟩ 1 1 [a0,a1,a2,a3,a4,a5] (by rfl) (by rfl) (World.news_of_block (cs:= #[a0,a1,a2,a3,a4,a5]) (t:=33) (fr:=(0,0)) (heap_alloc_new w4 _)) Hone.out (by omega) (by unfold maxLen;omega) (by omega) Hsz.out (w4.heap.size+1) (by simp) ?_;intro gg cap w5 hown5 hgrow5 hat5 hlt5;have hx5:w5.heap[w.heap.size+2]? =some (.cells #[.int .i64 k,.bool b,.int .i64 n,.string t,v1,.slice none 0 0] 33 (0,0)):=HX5.out w5 hgrow5;have g5:w5.cell? ⟨w.heap.size+2,4,none⟩=some v1:=(by rw[Lib.cell_of_heap hx5];rfl);have f5:w5.frozen? ⟨w.heap.size+2,4,none⟩=false:=Lib.frozen_of_heap hx5 _;have Hown5:=qz hown5;have Hgrow5:=qz hgrow5;have Hat5:=qz hat5;have Hx5:=qz hx5;clear hown5 hgrow5 hat5 hx5)|(go_simp;go_at_call 40;refine(HC.out).mono ?_;rintro e w4 ⟨⟨cs4,rfl,hl4,hfr⟩,hb4⟩;obtain⟨a0,a1,a2,a3,a4,a5,rfl⟩:=V1 hl4;have Hfr:=qz hfr;have Hb4:=qz hb4;have g3:w4.cell? ⟨w.heap.size+2,4,none⟩=some v1:=(hb4.cell (p:=⟨w.heap.size+2,4,none⟩) z3).trans b3;have Hone:Hid (∀u ∈ [a0,a1,a2,a3,a4,a5],u.oneCell'=true):=(hfr w4 (Nat.le_refl _) (fun _ _ _=>rfl)).len.2;have Hsz:Hid (w.heap.size+3<=(w4.alloc (.cells #[a0,a1,a2,a3,a4,a5] 33)).heap.size):=(by show _<=_;have h1:=hb4.size;have h2:=HZ.out;have h3:wr.drew.heap.size=wr.heap.size:=rfl;simp;omega);have g4:(w4.alloc (.cells #[a0,a1,a2,a3,a4,a5] 33)).cell? ⟨w.heap.size+2,4,none⟩=some v1:=HG6.out w4 hb4 _;have HX5:Hid (∀w5:World,(w4.alloc (.cells #[a0,a1,a2,a3,a4,a5] 33)).grownBy w5 v1.ownBlock->w5.heap[w.heap.size+2]? =some (.cells #[.int .i64 k,.bool b,.int .i64 n,.string t,v1,.slice none 0 0] 33 (0,0))):=(fun w5 hg5=>HX6.out w4 hb4 _ w5 hg5);clear hfr hb4 hl4))
    all_goals
     have hb4':Below wr.heap.size wr w4:=(Below.drew (Below.refl _ _)).trans Hb4.out;have hlo:=fun gg hh=>(hown.out.lt gg hh);obtain⟨r1,r2,r3⟩:=Nx (t:=w.heap.size+2) (i:=4) (V:=.slice (some ⟨gg,0,none⟩) (q+1) cap) Hgrow5.out;have n2:v1.ownBlock≠some (w.heap.size+2):=fun e=>by have:=(hlo _ e).1;omega
     have n0:v1.ownBlock≠some w.heap.size:=fun e=>by have:=(hlo _ e).1;omega
     have hs4:=hb4'.size;have Hfr':Hid (Ea (w.heap.size+3) (w5.setCell ⟨w.heap.size+2,4,none⟩ (.slice (some ⟨gg,0,none⟩) (q+1) cap)) (some gg) (l.take (q+1)) (ns++ [a0,a1,a2,a3,a4,a5])):=by
      show Ea _ _ _ _ _;rw[htk];refine Ea.step (t:=w.heap.size+2) (N:=w4.heap.size+1) hfrow.out Hfr.out HZ.out (fun g hh=>(hlo g hh).2) ?_ (by omega) (by omega) (fun p hp=>hb4'.cell hp) hs4 r2 r3;rcases Hat5.out with e|e
      . exact .inl e.symm
      . exact .inr (by rw[e])
     have Ho':Hid ((w5.setCell ⟨w.heap.size+2,4,none⟩ (.slice (some ⟨gg,0,none⟩) (q+1) cap)).ownsRow (w.heap.size+3) 33 6 (.slice (some ⟨gg,0,none⟩) (q+1) cap) (q+1) (ns++ [a0,a1,a2,a3,a4,a5])):=ownsRow_setCell_below Hown5.out (by simp) _;have Hb':Hid (Below w.heap.size w (w5.setCell ⟨w.heap.size+2,4,none⟩ (.slice (some ⟨gg,0,none⟩) (q+1) cap))):=(((hbw.out.trans (hb4'.mono hz)).alloc (by omega) _).grown Hgrow5.out (by simp;omega) (fun c hc=>by have:=(hlo c hc).1;omega)).setCell (by simp) _;have n1:v1.ownBlock≠some (w.heap.size+1):=fun e=>by have:=(hlo _ e).1;omega
     have Hx2':Hid ((w5.setCell ⟨w.heap.size+2,4,none⟩ (.slice (some ⟨gg,0,none⟩) (q+1) cap)).heap[w.heap.size+1]? =some (.cells #[.int .i64 0,.bool false,.int .i64 0,.string ⟨#[]⟩,.slice none 0 0,.slice none 0 0] 33 (0,0))):=by
      show _=_;rw[r1 _ (by omega) n1 (by omega),hb4'.block _ (by omega)];exact hx2.out
     have Hx1':Hid ((w5.setCell ⟨w.heap.size+2,4,none⟩ (.slice (some ⟨gg,0,none⟩) (q+1) cap)).heap[w.heap.size]? =some (.cells #[.int .i64 k,.bool b,.int .i64 n,.string t,.slice (some ⟨g,off,none⟩) l.length lc,.slice oa o.length oc] 33 (0,0))):=by
      show _=_;rw[r1 _ (by omega) n0 (by omega),hb4'.block _ (by omega)];exact hx1.out
     have Hx3':Hid ((w5.setCell ⟨w.heap.size+2,4,none⟩ (.slice (some ⟨gg,0,none⟩) (q+1) cap)).heap[w.heap.size+2]? =some (.cells #[.int .i64 k,.bool b,.int .i64 n,.string t,.slice (some ⟨gg,0,none⟩) (q+1) cap,.slice none 0 0] 33 (0,0))):=by
      show _=_;rw[Br Hx5.out];rfl
     clear hb4' hlo r1 r2 r3 n2 n1 n0 hs4 hx2 Hgrow5 Hown5 Hat5 Hx5 Hfr hown hfrow hbw hx1 hx3 g5 f5 HX5 HX6 HG6 Hown4 g3 g4 b1 b3 f3 c0 c1 c2 c3 c4 c5;go_wp2;go_roundw
     case rel=>exact⟨q+1,_,_,by go_num,by omega,Ho',Hfr',Hb',Hx2',Hx1',Hx3'⟩
     case measure=>simp only[intOf];omega
  . obtain rfl:q=l.length:=by omega
    have hfl:=hfrow.out;rw[List.take_length]at hfl;have HL:=qz (hfl.close hown.out);clear hfl hown hfrow;obtain⟨wa,rfl⟩: ∃wa:World,wa=wr:=⟨_,rfl⟩;obtain⟨j0,hj,hy0,hy1,hy2⟩:=info_parts Pm;obtain⟨HJ,HY0,HY1,HY2⟩:=hid4 hj hy0 hy1 hy2;have Hown0:Hid (wa.ownsRow wa.heap.size 88 7 (.slice none 0 0) 0 []):=World.ownsRow_nil _ _ _ _;have Hfr0:Hid (Dk wa.heap.size wa (Value.slice none 0 0).ownBlock (o.take 0) []):=fun _ _ _=>rfl;have hsA:w.heap.size+3<=wa.heap.size:=by omega
    clear hj hy0 hy1 hy2 b3 f3 hl;go_wp2_with (fail);clear b1;go_loopw [5] (fun i wr=> ∃(q:Nat) (v2:Value) (ns:List Value),i=.int .i64 q/\q<=o.length/\Hid (wr.ownsRow wa.heap.size 88 7 v2 q ns)/\Hid (Dk wa.heap.size wr v2.ownBlock (o.take q) ns)/\Hid (Below w.heap.size w wr)/\
     Hid (∀c,c<wa.heap.size->c≠w.heap.size+2->wr.heap[c]? =wa.heap[c]?)/\wa.heap.size<=wr.heap.size/\
     Hid (wr.heap[w.heap.size+2]? =some (.cells #[.int .i64 k,.bool b,.int .i64 n,.string t,v1,v2] 33 (0,0)))) (fun i _=>o.length - (intOf i).toNat)
    case atStart=>exact⟨0,.slice none 0 0, [],rfl,Nat.zero_le _,Hown0,Hfr0,hbw,qz (fun _ _ _=>rfl),Nat.le_refl _,hx3⟩
    case round=>
     obtain⟨q,v2,ns2,rfl,hq2,hown,hfrow,hbw2,hkp,hsx,hx3'⟩:=hrel;clear Hown0 Hfr0;have hx1':Hid (wr.heap[w.heap.size]? =some (.cells #[.int .i64 k,.bool b,.int .i64 n,.string t,.slice la l.length lc,.slice oa o.length oc] 33 (0,0))):=by
      show _=_;rw[hkp.out _ (by omega) (by omega)];exact hx1.out
     have b1:wr.cell? ⟨w.heap.size,5,none⟩=some (.slice oa o.length oc):=by rw[Lib.cell_of_heap hx1'.out];rfl
     have b3:wr.cell? ⟨w.heap.size+2,5,none⟩=some v2:=by rw[Lib.cell_of_heap hx3'.out];rfl
     have z3:w.heap.size+2<wr.heap.size:=by omega
     by_cases hlt2:q<o.length
     . obtain⟨g,off,rfl,hg,hL⟩: ∃g off,oa=some ⟨g,off,none⟩/\g<w.heap.size/\Ak w w.heap.size o g off:=by
        rcases Ho.out with h0|h
        . rw[h0]at hlt2;simp at hlt2
        . exact h
       obtain⟨⟨key,x⟩,hx⟩: ∃v,o[q]? =some v:=⟨_,List.getElem?_eq_getElem hlt2⟩;have hmem:=List.mem_of_getElem? hx;have IHx:=HIHo.out _ hmem;have hbv:=Ca hmem;simp only at IHx hbv;have htk:o.take (q+1)=o.take q++ [(key,x)]:=by rw[List.take_add_one,hx];rfl
       obtain⟨k',b',n',t',l',o'⟩:=x;obtain⟨la',lc',oa',oc',hvs,c0,c1,c2,c3,c4,c5,c6⟩:=(hL.below hg hbw2.out).seven hx;have hz:=hbw2.out.size;have HC:=qz (IHx _ wr.drew (Aa.more hz _ _ (hvs.below (Below.drew (Below.refl _ _)))) (show(Val.mk k' b' n' t' l' o').bulk<=100000000 from by omega));have Hown4:Hid (∀w4:World,Below wr.drew.heap.size wr.drew w4->w4.ownsRow wa.heap.size 88 7 v2 q ns2):=by
        intro w4 h4;have h5:Below wr.heap.size wr w4:=(Below.drew (Below.refl _ _)).trans h4;refine hown.out.kept (Gu h5) ?_
        cases v2.ownBlock with
        |none=>exact .inl rfl
        |some g=>exact .inr (by simp)
       have HX6:Hid (∀(w4:World),Below wr.drew.heap.size wr.drew w4-> ∀(ob:Obj) (w5:World),(w4.alloc ob).grownBy w5 v2.ownBlock->w5.heap[w.heap.size+2]? =some (.cells #[.int .i64 k,.bool b,.int .i64 n,.string t,v1,v2] 33 (0,0))):=by
        intro w4 h4 ob w5 h5;have e4:w4.heap[w.heap.size+2]? =_:=(h4.block (w.heap.size+2) z3).trans hx3'.out;have l4:=(Array.getElem?_eq_some_iff.1 e4).1;rw[h5.block _ (by simp;omega) (fun e=>by have:=(hown.out.lt _ e.symm).1;omega),Lib.alloc_old w4 _ _ l4];exact e4
       have HG6:Hid (∀(w4:World),Below wr.drew.heap.size wr.drew w4-> ∀ob:Obj,(w4.alloc ob).cell? ⟨w.heap.size+2,5,none⟩=some v2):=by
        intro w4 h4 ob;have e4:w4.heap[w.heap.size+2]? =_:=(h4.block (w.heap.size+2) z3).trans hx3'.out;have l4:=(Array.getElem?_eq_some_iff.1 e4).1;have e5:(w4.alloc ob).heap[w.heap.size+2]? =_:=(Lib.alloc_old w4 ob _ l4).trans e4;rw[Lib.cell_of_heap e5];rfl
       have hgx:g<wr.heap.size:=by omega
       have hwx:w.heap.size<wr.heap.size:=by omega
       clear hvs hx hmem IHx hL;go_wp2_with (fail)
       go_region_law (first|(refine step_append_lies _ (by rfl) (.tmp 41) (.tmp 56) 31 (by rfl) wa.heap.size 88 j0 (.agg #[.string ⟨#[]⟩,.int .i64 0,.bool false,.int .i64 0,.string ⟨#[]⟩,.slice none 0 0,.slice none 0 0]) 7 104 Tryz.underlying31 HJ.out HY0.out HY1.out HY2.out rfl (by omega) v2 q ns2 (by rfl) ((Hown4.out _ Hb4.out).alloc _) ⟨w4.heap.size,0,none⟩ 1 1 [.string key,a0,a1,a2,a3,a4,a5] (by rfl) (by rfl) (World.news_of_block (cs:= #[.string key,a0,a1,a2,a3,a4,a5]) (t:=88) (fr:=(0,0)) (heap_alloc_new w4 _)) Hone.out (by omega) (by unfold maxLen;omega) (by omega) Hsz.out (w4.heap.size+1) (by simp) ?_;intro gg cap w5 hown5 hgrow5 hat5 hlt5;have hx5:w5.heap[w.heap.size+2]? =some (.cells #[.int .i64 k,.bool b,.int .i64 n,.string t,v1,v2] 33 (0,0)):=HX5.out w5 hgrow5;have g5:w5.cell? ⟨w.heap.size+2,5,none⟩=some v2:=(by rw[Lib.cell_of_heap hx5];rfl);have f5:w5.frozen? ⟨w.heap.size+2,5,none⟩=false:=Lib.frozen_of_heap hx5 _;have Hown5:=qz hown5;have Hgrow5:=qz hgrow5;have Hat5:=qz hat5;have Hx5:=qz hx5;clear hown5 hgrow5 hat5 hx5)|(go_simp;go_at_call 40;refine(HC.out).mono ?_;rintro e w4 ⟨⟨cs4,rfl,hl4,hfr⟩,hb4⟩;obtain⟨a0,a1,a2,a3,a4,a5,rfl⟩:=V1 hl4;have Hfr:=qz hfr;have Hb4:=qz hb4;have g3:w4.cell? ⟨w.heap.size+2,5,none⟩=some v2:=(hb4.cell (p:=⟨w.heap.size+2,5,none⟩) z3).trans b3;have g1:w4.cell? ⟨w.heap.size,5,none⟩=some (.slice (some ⟨g,off,none⟩) o.length oc):=(hb4.cell (p:=⟨w.heap.size,5,none⟩) hwx).trans b1;have g0:w4.cell? ⟨g,off+q*7,none⟩=some (.string key):=(hb4.cell (p:=⟨g,off+q*7,none⟩) hgx).trans c0;have Hone:Hid (∀u ∈ [.string key,a0,a1,a2,a3,a4,a5],u.oneCell'=true):=(Ad7 key (hfr w4 (Nat.le_refl _) (fun _ _ _=>rfl)).len.2);have Hsz:Hid (wa.heap.size<=(w4.alloc (.cells #[.string key,a0,a1,a2,a3,a4,a5] 88)).heap.size):=(by show _<=_;have h1:=hb4.size;have h3:wr.drew.heap.size=wr.heap.size:=rfl;simp;omega);have g4:(w4.alloc (.cells #[.string key,a0,a1,a2,a3,a4,a5] 88)).cell? ⟨w.heap.size+2,5,none⟩=some v2:=HG6.out w4 hb4 _;have HX5:Hid (∀w5:World,(w4.alloc (.cells #[.string key,a0,a1,a2,a3,a4,a5] 88)).grownBy w5 v2.ownBlock->w5.heap[w.heap.size+2]? =some (.cells #[.int .i64 k,.bool b,.int .i64 n,.string t,v1,v2] 33 (0,0))):=(fun w5 hg5=>HX6.out w4 hb4 _ w5 hg5);clear hfr hb4 hl4))
       all_goals
        have hb4':Below wr.heap.size wr w4:=(Below.drew (Below.refl _ _)).trans Hb4.out;have hlw:=fun gg hh=>(hown.out.lt gg hh);obtain⟨r1,r2,r3⟩:=Nx (t:=w.heap.size+2) (i:=5) (V:=.slice (some ⟨gg,0,none⟩) (q+1) cap) Hgrow5.out;have hs4:=hb4'.size;have Hfr':Hid (Dk wa.heap.size (w5.setCell ⟨w.heap.size+2,5,none⟩ (.slice (some ⟨gg,0,none⟩) (q+1) cap)) (some gg) (o.take (q+1)) (ns2++ [.string key,a0,a1,a2,a3,a4,a5])):=by
         show Dk _ _ _ _ _;rw[htk];refine Dk.step (t:=w.heap.size+2) (N:=w4.heap.size+1) hfrow.out Hfr.out hsx (fun g hh=>(hlw g hh).2) ?_ (by omega) (by omega) (fun p hp=>hb4'.cell hp) hs4 r2 r3;rcases Hat5.out with e|e
         . exact .inl e.symm
         . exact .inr (by rw[e])
        have Ho':Hid ((w5.setCell ⟨w.heap.size+2,5,none⟩ (.slice (some ⟨gg,0,none⟩) (q+1) cap)).ownsRow wa.heap.size 88 7 (.slice (some ⟨gg,0,none⟩) (q+1) cap) (q+1) (ns2++ [.string key,a0,a1,a2,a3,a4,a5])):=ownsRow_setCell_below Hown5.out (by simp;omega) _;have Hb':Hid (Below w.heap.size w (w5.setCell ⟨w.heap.size+2,5,none⟩ (.slice (some ⟨gg,0,none⟩) (q+1) cap))):=(((hbw2.out.trans (hb4'.mono hz)).alloc (by omega) _).grown Hgrow5.out (by simp;omega) (fun c hc=>by have:=(hlw c hc).1;omega)).setCell (by simp) _;have Hk':Hid (∀c,c<wa.heap.size->c≠w.heap.size+2->(w5.setCell ⟨w.heap.size+2,5,none⟩ (.slice (some ⟨gg,0,none⟩) (q+1) cap)).heap[c]? =wa.heap[c]?):=by
         intro c hc hc2;rw[r1 c (by omega) (fun e=>by have:=(hlw _ e).1;omega) hc2,hb4'.block c (by omega)];exact hkp.out c hc hc2
        have Hs':wa.heap.size<=(w5.setCell ⟨w.heap.size+2,5,none⟩ (.slice (some ⟨gg,0,none⟩) (q+1) cap)).heap.size:=by omega
        have Hx3':Hid ((w5.setCell ⟨w.heap.size+2,5,none⟩ (.slice (some ⟨gg,0,none⟩) (q+1) cap)).heap[w.heap.size+2]? =some (.cells #[.int .i64 k,.bool b,.int .i64 n,.string t,v1,.slice (some ⟨gg,0,none⟩) (q+1) cap] 33 (0,0))):=by
         show _=_;rw[Br Hx5.out];rfl
        clear hb4' hlw r1 r2 r3 hs4 Hgrow5 Hown5 Hat5 Hx5 Hfr hown hfrow hbw2 hx1' hx3' g5 f5 HX5 HX6 HG6 Hown4 g3 g4 g1 g0 b1 b3 c0 c1 c2 c3 c4 c5 c6 hkp;go_wp2;go_roundw
        case rel=>exact⟨q+1,_,_,by go_num,by omega,Ho',Hfr',Hb',Hk',Hs',Hx3'⟩
        case measure=>simp only[intOf];omega
     . obtain rfl:q=o.length:=by omega
       have hfl:=hfrow.out;rw[List.take_length]at hfl;have HO:=qz (hfl.close hown.out);have hx2':wr.heap[w.heap.size+1]? =some (.cells #[.int .i64 0,.bool false,.int .i64 0,.string ⟨#[]⟩,.slice none 0 0,.slice none 0 0] 33 (0,0)):=(hkp.out _ (by omega) (by omega)).trans hx2.out;have Hx2:=qz hx2';obtain⟨d0,d1,d2,d3,d4,d5⟩:=K6 hx3'.out;obtain⟨e0,e1,e2,e3,e4,e5⟩:=K6 hx2';have hfz:=Lib.frozen_of_heap hx2';clear hfl hown hfrow hx2';obtain⟨la1,lc1,rfl,hLf⟩:=HL.out;obtain⟨oa1,oc1,rfl,hOf⟩:=HO.out;obtain⟨HLf,HOf⟩:=hid2 hLf hOf;clear HL HO hLf hOf b3;go_wp2;obtain⟨W,hW⟩: ∃W,((((((wr.setCell ⟨w.heap.size+1,0,none⟩ (.int .i64 k)).setCell ⟨w.heap.size+1,1,none⟩ (.bool b)).setCell ⟨w.heap.size+1,2,none⟩ (.int .i64 n)).setCell ⟨w.heap.size+1,3,none⟩ (.string t)).setCell ⟨w.heap.size+1,4,none⟩ (.slice la1 l.length lc1)).setCell ⟨w.heap.size+1,5,none⟩ (.slice oa1 o.length oc1))=W:=⟨_,rfl⟩;have hWh: ∀c,c≠w.heap.size+1->W.heap[c]? =wr.heap[c]? :=by
        intro c hc;rw[<-hW];simp only[Es _ _ _ _ hc]
       have hWs:W.heap.size=wr.heap.size:=by rw[<-hW];simp[World.setCell]
       have hWb:Below w.heap.size w W:=by
        rw[<-hW];exact(((((hbw2.out.setCell (by simp) _).setCell (by simp) _).setCell (by simp) _).setCell (by simp) _).setCell (by simp) _).setCell (by simp) _
       have hFr:K4 w W (.mk k b n t l o) [.int .i64 k,.bool b,.int .i64 n,.string t,.slice la1 l.length lc1,.slice oa1 o.length oc1]:=by
        intro w'' hsz hag;simp only[Aa];refine⟨la1,lc1,oa1,oc1,rfl, ?_, ?_⟩
        . rcases HLf.out with h0|⟨g,rfl,hg,hf⟩
          . exact .inl h0
          . refine .inr ⟨g,0,rfl,by omega,Ai.of_more l (fun v _ cs h=>Aa.more (by omega) _ _ h) g 0 (hf w'' (by omega) (fun p p1 p2=> ?_))⟩;rw[hag p (by omega) (by omega)];exact World.cell?_of_block ((hWh p.block (by omega)).trans (hkp.out p.block p2 (by omega)))
        . rcases HOf.out with h0|⟨g,rfl,hg,hf⟩
          . exact .inl h0
          . refine .inr ⟨g,0,rfl,by omega,Ak.of_more o (fun m _ cs h=>Aa.more (by omega) _ _ h) g 0 (hf w'' (by omega) (fun p p1 p2=> ?_))⟩;rw[hag p (by omega) (by omega)];exact World.cell?_of_block (hWh p.block (by omega))
       have hWr:W.heap[w.heap.size+1]? =some (.cells #[.int .i64 k,.bool b,.int .i64 n,.string t,.slice la1 l.length lc1,.slice oa1 o.length oc1] 33 (0,0)):=by
        rw[<-hW];exact Br (Br (Br (Br (Br (Br Hx2.out _) _) _) _) _) _
       obtain⟨y0,y1,y2,y3,y4,y5⟩:=K6 hWr;rw[hW];exact bodyPost_ret (v:=.agg #[.int .i64 k,.bool b,.int .i64 n,.string t,.slice la1 l.length lc1,.slice oa1 o.length oc1]) (by simp[results,Tryz.results40,go_sem,y0,y1,y2,y3,y4,y5]) rfl ⟨⟨[.int .i64 k,.bool b,.int .i64 n,.string t,.slice la1 l.length lc1,.slice oa1 o.length oc1],rfl,rfl,hFr⟩,hWb⟩
theorem W6: ∀v,Aa0 v:=by
 refine Val.ind ?_;intro k b n t l o hl ho cs w hV hb;simp only[Aa]at hV;obtain⟨la,lc,oa,oc,rfl,hla,hoa⟩:=hV;simp only[Val.bulk]at hb;exact Zm k b n t l o la oa oc lc w hl ho hoa (by omega) hla (by omega)
end Go.Proofs.YtdbejcbbhomdbaaGreatDoor
