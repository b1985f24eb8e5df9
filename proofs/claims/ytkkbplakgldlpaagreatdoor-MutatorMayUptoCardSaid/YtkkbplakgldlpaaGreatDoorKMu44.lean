/- Parts, joined: mutator.read: the mutator of any value that may be, by how deep it is. Condition: a bulk of at most 10^8. mutator.read of any value that may be: the induction. Condition: a bulk of at most 10^8. mutator.Of's closure: it reads a value into a variable. Condition: a bulk of at most 10^8. mutator.write for every mutator that may be. Condition: a bulk of at most 8 * 10^6. What is read of a value is not more than it, and has numbers of 64 bits. Plain. No condition. -/
import Derived.Test.YtkkbplakgldlpaaGreatDoorProg
import Derived.Test.YtkkbplakgldlpaaGreatDoorKMu33
import Derived.Test.YtkkbplakgldlpaaGreatDoorKMu36
import Derived.Test.YtkkbplakgldlpaaGreatDoorKMu40
import Derived.Test.YtkkbplakgldlpaaGreatDoorKMu41
import Derived.Test.YtkkbplakgldlpaaGreatDoorKMu42
import Derived.Test.YtkkbplakgldlpaaGreatDoorKMu43
namespace Go.Proofs.YtkkbplakgldlpaaGreatDoor
open Go Go.RowKit
def ReadC (f:Nat):Prop:= ∀(v:Val) (d:Int) (cs:List Value) (g A R W:Nat) (F:Nat→Nat) (w:World),Shp w g A R W F→Holds w w.heap.size (dV v) cs→mayV v d=0→v.bulk≤100000000→1≤d→d≤65→66≤d+f→
 Calls Tryz.prog 50 #[.map (some g),.agg cs.toArray] w (RdQ (readM f v) w)
set_option maxRecDepth 100000 in
set_option maxHeartbeats 4000000 in
theorem shapes7_calls (vk:Int) (vb:Bool) (vn:Int) (vt:ByteArray) (vl:List Val) (vo:List (ByteArray×Val)) (vla vlc voa voc) (A g:Nat) (w:World) (r:Int×Mut) (hA:w.cell? ⟨A,0,none⟩=some (.map (some g))) (hAw:A<w.heap.size)
 (hC: ∀W,Below w.heap.size w W→Calls Tryz.prog 50 #[.map (some g),.agg #[.int .i64 vk,.bool vb,.int .i64 vn,.string vt,.slice vla vl.length vlc,.slice voa vo.length voc]] W (RdQ r W)):
 Calls Tryz.prog 80 #[.agg #[.int .i64 vk,.bool vb,.int .i64 vn,.string vt,.slice vla vl.length vlc,.slice voa vo.length voc],.pointer (some ⟨A,0,none⟩)] w (RdQ r w):=by
 have hI0:RV w #[.int .i64 vk,.bool vb,.int .i64 vn,.string vt,.slice vla vl.length vlc,.slice voa vo.length voc] ((w.alloc (.cells #[.int .i64 vk,.bool vb,.int .i64 vn,.string vt,.slice vla vl.length vlc,.slice voa vo.length voc] 27)).alloc (.cells z19 Tmut)):=
  ⟨((Below.refl _ _).alloc (Nat.le_refl _) _).alloc (by simp) _,(Blk.new w _ _).alloc _,by simpa using Blk.new (w.alloc (.cells #[.int .i64 vk,.bool vb,.int .i64 vn,.string vt,.slice vla vl.length vlc,.slice voa vo.length voc] 27)) Tmut z19⟩
 obtain⟨wi,hwi⟩: ∃wi,(w.alloc (.cells #[.int .i64 vk,.bool vb,.int .i64 vn,.string vt,.slice vla vl.length vlc,.slice voa vo.length voc] 27)).alloc (.cells z19 Tmut)=wi:=⟨_,rfl⟩
 rw[hwi]at hI0
 have hC1:=hC wi hI0.below
 have hA1:wi.cell? ⟨A,0,none⟩=some (.map (some g)):=(hI0.below.cell (p:=⟨A,0,none⟩) hAw).trans hA
 have hA2:A<wi.heap.size:=Nat.lt_of_lt_of_le hAw hI0.below.size
 obtain⟨x0,x1,x2,x3,x4,x5⟩:=vcell hI0.box
 have xl:=hI0.box.lt
 have HI0:=Lib.hid hI0
 have HC1:=Lib.hid hC1
 clear hI0 hC1
 clear hC hA hAw
 go_enter Tryz.func80,Tryz.ntmps80
 go_upto_region 1 with(fail)
 clear hwi
 go_wp2_with (fail)
 with_reducible refine(HC1.out).mono ?_
 rintro e w2 ⟨hb2,hr⟩
 have hI2:=HI0.out.call hb2
 by_cases hc:r.1≠0
 · rw[if_pos hc]at hr
   obtain rfl:=hr
   have hP:=RdQ.no (r:=r) (c:=r.1) rfl hc hI2.below
   generalize r.1=code at hP ⊢
   have HP:=Lib.hid hP
   clear hP
   clear hb2 hI2 hc
   go_wp2
   exact⟨rfl,HP.out⟩
 rw[if_neg hc]at hr
 obtain⟨ca,rfl,hf⟩:=hr
 have hsc:z19.size=ca.size:=by have:=hf.now.len.1;rw[dM_cells]at this;simpa using this.symm
 have hcc: ∀u ∈ ca.toList,u.oneCell'=true:=hf.now.len.2
 have hlt:w.heap.size+1<wi.heap.size:=HI0.out.res.lt
 have HI2:=Lib.hid hI2
 have Hf:=Lib.hid hf
 have Hc:=Lib.hid hc
 clear hI2 hf hc
 clear hb2 x0 x1 x2 x3 x4 x5
 dsimp only
 iterate 2 go_step
 refine wp_store_far (cs:=z19) Tmut (.tmp 3) (.tmp 6) rfl (w.heap.size+1) 0 HI2.out.res (.agg ca) rfl rfl (by simp only[Value.cells];rw[←hsc];exact Nat.le_of_ble_eq_true rfl) (by simp only[Value.cells];rw[←hsc];kernel_rfl) (by simp only[Value.cells];exact hcc) HI2.out.below (Nat.le_succ _) ?_
 intro w7 hx7 hb7 hs7 hfar
 rw[show(Value.agg ca).cells=ca from by simp only[Value.cells],over_all z19 ca hsc]at hx7
 have hd7:Fresh w.heap.size w7 (dM r.2) ca.toList:=Hf.out.keep (by omega) (by omega) fun p p1 _=>World.cell?_of_block (hfar _ (by omega))
 have hQ:RdQ r w (.returned (.agg ca)) w7:=⟨hb7,by rw[if_neg Hc.out];exact⟨ca,rfl,hd7⟩⟩
 have Hx7:=Lib.hid hx7
 have HQ:=Lib.hid hQ
 clear hx7 hQ
 clear hfar hd7 hb7
 repeat go_step
 exact bodyPost_ret (results_blk rfl rfl Hx7.out Tryz.underlying30 rfl (by rw[←hsc];kernel_rfl)) rfl HQ.out
theorem kindOf_cases {a:ByteArray} {k:Int} (h:kindOf a=some k):(a=nPut∧k=1)∨(a=nDel∧k=2)∨(a=nInc∧k=3)∨(a=nCas∧k=4)∨(a=nApp∧k=5)∨(a=nMove∧k=6)∨(a=nSeq∧k=7):=by
 unfold kindOf at h
 split at h
 · cases h;rename_i e;exact .inl ⟨e,rfl⟩
 split at h
 · cases h;rename_i e;exact .inr (.inl ⟨e,rfl⟩)
 split at h
 · cases h;rename_i e;exact .inr (.inr (.inl ⟨e,rfl⟩))
 split at h
 · cases h;rename_i e;exact .inr (.inr (.inr (.inl ⟨e,rfl⟩)))
 split at h
 · cases h;rename_i e;exact .inr (.inr (.inr (.inr (.inl ⟨e,rfl⟩))))
 split at h
 · cases h;rename_i e;exact .inr (.inr (.inr (.inr (.inr (.inl ⟨e,rfl⟩)))))
 split at h
 · cases h;rename_i e;exact .inr (.inr (.inr (.inr (.inr (.inr ⟨e,rfl⟩)))))
 · cases h
theorem kindOf_none {a:ByteArray} (h:kindOf a=none):a≠nPut∧a≠nDel∧a≠nInc∧a≠nCas∧a≠nApp∧a≠nMove∧a≠nSeq:=by
 unfold kindOf at h
 split at h
 · cases h
 split at h
 · cases h
 split at h
 · cases h
 split at h
 · cases h
 split at h
 · cases h
 split at h
 · cases h
 split at h
 · cases h
 · exact⟨by assumption,by assumption,by assumption,by assumption,by assumption,by assumption,by assumption⟩
theorem fld_of {w:World} {g:Nat} {t:TypeId} {cs:Array Value} {fs:List (ByteArray×Int)} (h:Blk w g t cs) (hk: ∀j p,fs[j]? =some p→cs[j*2]? =some (.string p.1)∧cs[j*2+1]? =some (.int .i64 p.2)):Fld w g 0 fs:=
 ⟨h.lt,fun j p e=>by rw[Nat.zero_add];exact(h.cell _).trans (hk j p e).1,fun j p e=>by rw[Nat.zero_add];exact(h.cell _).trans (hk j p e).2⟩
theorem callF_110 (args:Array Value) (W:World):(callFunc 110 args).run Tryz.prog W=.ok (.enter 110 args) W:=by kernel_rfl
theorem callF_70 (args:Array Value) (W:World):(callFunc 70 args).run Tryz.prog W=.ok (.enter 70 args) W:=by kernel_rfl
theorem callF_73 (args:Array Value) (W:World):(callFunc 73 args).run Tryz.prog W=.ok (.enter 73 args) W:=by kernel_rfl
theorem callF_76 (args:Array Value) (W:World):(callFunc 76 args).run Tryz.prog W=.ok (.enter 76 args) W:=by kernel_rfl
theorem callF_114 (args:Array Value) (W:World):(callFunc 114 args).run Tryz.prog W=.ok (.enter 114 args) W:=by kernel_rfl
theorem callF_117 (args:Array Value) (W:World):(callFunc 117 args).run Tryz.prog W=.ok (.enter 117 args) W:=by kernel_rfl
end Go.Proofs.YtkkbplakgldlpaaGreatDoor

namespace Go.Proofs.YtkkbplakgldlpaaGreatDoor
open Go Go.RowKit
theorem at_cases (key:ByteArray) (o:List (ByteArray×Val)):(findO key o=none∧atO' key o=noV)∨findO key o=some (atO' key o):=by
 unfold atO'
 cases findO key o with
 |none=>exact .inl ⟨rfl,rfl⟩
 |some x=>exact .inr rfl
theorem at_may {key:ByteArray} {o:List (ByteArray×Val)} {last:Option ByteArray} {d:Int} (h:mayO o last d=0) {x:Val} (e:findO key o=some x):mayV x d=0:=(mayO_all h _ (findO_some e)).2
theorem at_bulk {key:ByteArray} {o:List (ByteArray×Val)} {x:Val} (e:findO key o=some x):1+key.size+x.bulk≤bulkO o:=bulkO_mem (findO_some e)
theorem args_bulk {k:Int} {b:Bool} {n:Int} {t:ByteArray} {l:List Val} {o:List (ByteArray×Val)} {B:Nat} (h:(Val.mk k b n t l o).bulk≤B) (key:ByteArray):(objV' (atO' key o)).length≤B∧ ∀key2 x,findO key2 (objV' (atO' key o))=some x→x.bulk≤B:=by
 have h2:bulkO (objV' (atO' key o))≤B:=by
  rcases at_cases key o with⟨_,e⟩|e
  · rw[e];exact Nat.zero_le _
  · have h3:=at_bulk e
    generalize atO' key o=z at h3 ⊢
    obtain⟨k',b',n',t',l',o'⟩:=z
    simp only[Val.bulk]at h h3
    show bulkO o'≤B
    omega
 refine⟨by have:=bulkO_len (objV' (atO' key o));omega,fun key2 x e=> ?_⟩
 have:=at_bulk e
 omega
theorem do_may {k:Int} {b:Bool} {n:Int} {t:ByteArray} {l:List Val} {o:List (ByteArray×Val)} {d:Int} {B:Nat} (hm:mayV (.mk k b n t l o) d=0) (h:(Val.mk k b n t l o).bulk≤B) {x:Val} (hx:x ∈ lstV' (atO' kDo (objV' (atO' kArgs o)))):mayV x (d+3)=0∧x.bulk≤B:=by
 rcases at_cases kArgs o with⟨_,e⟩|e
 · rw[e]at hx
   rcases at_cases kDo (objV' noV)with⟨_,e2⟩|e2
   · rw[e2]at hx
     exact absurd hx (by show ¬x ∈ ([]:List Val);simp)
   · exact absurd (findO_some e2) (by show ¬_ ∈ ([]:List (ByteArray×Val));simp)
 have m1:=at_may (mayV_parts hm).2.2.2.2 e
 have b1:=at_bulk e
 simp only[Val.bulk]at h
 generalize atO' kArgs o=z at hx m1 b1
 clear e
 obtain⟨k1,b1',n1,t1,l1,o1⟩:=z
 change x ∈ lstV' (atO' kDo o1)at hx
 rcases at_cases kDo o1 with⟨_,e2⟩|e2
 · rw[e2]at hx
   exact absurd hx (by show ¬x ∈ ([]:List Val);simp)
 have m2:=at_may (mayV_parts m1).2.2.2.2 e2
 have b2:=at_bulk e2
 simp only[Val.bulk]at b1
 generalize atO' kDo o1=z at hx m2 b2
 clear e2
 obtain⟨k2,b2',n2,t2,l2,o2⟩:=z
 change x ∈ l2 at hx
 have m3:=mayL_all (mayV_parts m2).2.2.2.1 x hx
 have b3:=bulkL_mem hx
 simp only[Val.bulk]at b2
 exact⟨by rw[show d+3=d+1+1+1 by omega];exact m3,by omega⟩
theorem fld_row {k:Int} {fs:List (ByteArray×Int)} {w:World} {g:Nat} (e:fldsK k=fs) (h:Fld w g 0 fs):Fld w g 0 (fldsK k):=e▸h
set_option maxRecDepth 100000 in
set_option maxHeartbeats 4000000 in
theorem read_calls: ∀f,ReadC f:=by
 intro f
 induction f with
 |zero=>
  intro v d cs g A R W F w _ _ hm _ _ _ hd
  obtain⟨k,b,n,t,l,o⟩:=v
  have:=(mayV_parts hm).2.1
  omega
 |succ f IH=>
  intro v d cs g A R W F w hS hV hm hb h1 _ hd
  obtain⟨k,b,n,t,l,o⟩:=v
  have h6:=holdsV_of _ _ hV
  simp only[HoldsV]at h6
  obtain⟨la,lc,oa,oc,rfl,_,_⟩:=h6
  obtain⟨q1,q2⟩:=args_bulk hb kArgs
  rw[readM_readB]
  refine read_walk (readM f) k b n t l o la lc oa oc g _ w hV hb hS.map (fun a h=> ?_) (fun a kd h=> ?_)
  · obtain⟨e1,e2,e3,e4,e5,e6,e7⟩:=kindOf_none h
    simp only[findM,if_neg e1,if_neg e2,if_neg e3,if_neg e4,if_neg e5,if_neg e6,if_neg e7]
  · rcases kindOf_cases h with⟨rfl,rfl⟩|⟨rfl,rfl⟩|⟨rfl,rfl⟩|⟨rfl,rfl⟩|⟨rfl,rfl⟩|⟨rfl,rfl⟩|⟨rfl,rfl⟩
    · refine⟨by omega,by omega,110, #[],F 1,112, #[],by kernel_rfl,fld_row (fs:= [(kKey,0),(kVal,0)]) rfl (fld_of hS.f1 fun j p e=> ?_),callF_110,fun W' a c hW hr=> ?_⟩
      · match j,e with
        |0,e=>cases e;exact⟨rfl,rfl⟩
        |1,e=>cases e;exact⟨rfl,rfl⟩
        |j+2,e=>simp at e
      · simpa using rval_calls (readM f) (.inl rfl) _ a c W' hr q1 q2
    · refine⟨by omega,by omega,70, #[],F 2,72, #[],by kernel_rfl,fld_row (fs:= [(kKey,0)]) rfl (fld_of hS.f2 fun j p e=> ?_),callF_70,fun W' a c hW hr=> ?_⟩
      · match j,e with
        |0,e=>cases e;exact⟨rfl,rfl⟩
        |j+1,e=>simp at e
      · simpa using(rdel_calls _ a c W' hr q1).mono fun _ _ h=>rdel_kind (readM f) h
    · refine⟨by omega,by omega,73, #[],F 3,75, #[],by kernel_rfl,fld_row (fs:= [(kBy,0),(kKey,0)]) rfl (fld_of hS.f3 fun j p e=> ?_),callF_73,fun W' a c hW hr=> ?_⟩
      · match j,e with
        |0,e=>cases e;exact⟨rfl,rfl⟩
        |1,e=>cases e;exact⟨rfl,rfl⟩
        |j+2,e=>simp at e
      · simpa using rinc_calls (readM f) _ a c W' hr q1
    · refine⟨by omega,by omega,114, #[],F 4,115, #[],by kernel_rfl,fld_row (fs:= [(kIs,1),(kKey,0),(kWas,1)]) rfl (fld_of hS.f4 fun j p e=> ?_),callF_114,fun W' a c hW hr=> ?_⟩
      · match j,e with
        |0,e=>cases e;exact⟨rfl,rfl⟩
        |1,e=>cases e;exact⟨rfl,rfl⟩
        |2,e=>cases e;exact⟨rfl,rfl⟩
        |j+3,e=>simp at e
      · simpa using rcas_calls (readM f) _ a c W' hr q1 q2
    · refine⟨by omega,by omega,110, #[],F 5,112, #[],by kernel_rfl,fld_row (fs:= [(kKey,0),(kVal,0)]) rfl (fld_of hS.f5 fun j p e=> ?_),callF_110,fun W' a c hW hr=> ?_⟩
      · match j,e with
        |0,e=>cases e;exact⟨rfl,rfl⟩
        |1,e=>cases e;exact⟨rfl,rfl⟩
        |j+2,e=>simp at e
      · simpa using rval_calls (readM f) (.inr rfl) _ a c W' hr q1 q2
    · refine⟨by omega,by omega,76, #[],F 6,77, #[],by kernel_rfl,fld_row (fs:= [(kFrom,0),(kTo,0)]) rfl (fld_of hS.f6 fun j p e=> ?_),callF_76,fun W' a c hW hr=> ?_⟩
      · match j,e with
        |0,e=>cases e;exact⟨rfl,rfl⟩
        |1,e=>cases e;exact⟨rfl,rfl⟩
        |j+2,e=>simp at e
      · simpa using rmove_calls (readM f) _ a c W' hr q1
    · refine⟨by omega,by omega,117, #[.pointer (some ⟨R,0,none⟩)],F 7,118, #[.pointer (some ⟨W,0,none⟩)],by kernel_rfl,fld_row (fs:= [(kDo,0),(kIf,1)]) rfl (fld_of hS.f7 fun j p e=> ?_),callF_117,fun W' a c hW hr=> ?_⟩
      · match j,e with
        |0,e=>cases e;exact⟨rfl,rfl⟩
        |1,e=>cases e;exact⟨rfl,rfl⟩
        |j+2,e=>simp at e
      · have hS2:=hS.below hW
        have hq:=rseq_calls (readM f) _ a c A R W' hr q1 q2 (hS2.rd.cell 0) hS2.rd.lt fun x hx W3 cs3 hW3 hx3=>by
         obtain⟨mx,bx⟩:=do_may hm hb hx
         have hS3:=hS2.below hW3
         obtain⟨k',b',n',t',l',o'⟩:=x
         have h6:=holdsV_of _ _ hx3
         simp only[HoldsV]at h6
         obtain⟨la',lc',oa',oc',rfl,_,_⟩:=h6
         exact shapes7_calls k' b' n' t' l' o' la' lc' oa' oc' A g W3 _ (hS3.all_.cell 0) hS3.all_.lt fun W4 hW4=>IH _ (d+3) _ g A R W F W4 (hS3.below hW4) (hx3.later hW4) mx bx (by omega) (by have:=(mayV_parts mx).2.1;omega) (by omega)
        simpa using hq
end Go.Proofs.YtkkbplakgldlpaaGreatDoor

namespace Go.Proofs.YtkkbplakgldlpaaGreatDoor
open Go Go.RowKit
def OfX (r:Int×Mut) (M b:Nat) (w':World):Prop:=r.1=0→ ∃ca:Array Value,Blk w' M Tmut ca∧ca.size=19∧Fresh b w' (dM r.2) ca.toList
theorem OfX.grown {r:Int×Mut} {M q:Nat} {W W':World} (h:OfX r M (q+1) W) (hM:M≠q) (hg:W.grownBy W' (some q)):OfX r M (q+1) W':=fun h0=>by
 obtain⟨ca,h1,h2,h3⟩:=h h0
 exact⟨ca,h1.grown hg (by simpa using hM),h2,h3.keep (Nat.le_refl _) hg.size fun p p1 p2=>World.cell?_of_block (hg.block _ p2 (by simp;omega))⟩
set_option maxRecDepth 100000 in
set_option maxHeartbeats 4000000 in
theorem of1_calls (vk:Int) (vb:Bool) (vn:Int) (vt:ByteArray) (vl:List Val) (vo:List (ByteArray×Val)) (vla vlc voa voc) (V M b:Nat) (w:World) (hbw:b≤w.heap.size) (hMb:M<b)
 (hV:Holds w w.heap.size (dV (.mk vk vb vn vt vl vo)) [.int .i64 vk,.bool vb,.int .i64 vn,.string vt,.slice vla vl.length vlc,.slice voa vo.length voc]) (hb:(Val.mk vk vb vn vt vl vo).bulk≤100000000) (hm:mayV (.mk vk vb vn vt vl vo) 1=0)
 (hbV:Blk w V 27 #[.int .i64 vk,.bool vb,.int .i64 vn,.string vt,.slice vla vl.length vlc,.slice voa vo.length voc]) (hM:Blk w M Tmut z19):
 Calls Tryz.prog 49 #[.pointer (some ⟨V,0,none⟩),.pointer (some ⟨M,0,none⟩)] w fun e w'=>e=endE (readM 65 (.mk vk vb vn vt vl vo)).1∧w.grownBy w' (some M)∧OfX (readM 65 (.mk vk vb vn vt vl vo)) M b w':=by
 have hSh:=fun W=>shapes_calls W
 obtain⟨RES,hRES⟩: ∃r',readM 65 (.mk vk vb vn vt vl vo)=r':=⟨_,rfl⟩
 rw[hRES]
 have hVs: ∀X:World,Blk X V 27 #[.int .i64 vk,.bool vb,.int .i64 vn,.string vt,.slice vla vl.length vlc,.slice voa vo.length voc]→(X.cell? ⟨V,0,none⟩=some (.int .i64 vk)∧X.cell? ⟨V,1,none⟩=some (.bool vb)∧X.cell? ⟨V,2,none⟩=some (.int .i64 vn)∧X.cell? ⟨V,3,none⟩=some (.string vt)∧X.cell? ⟨V,4,none⟩=some (.slice vla vl.length vlc)∧X.cell? ⟨V,5,none⟩=some (.slice voa vo.length voc)):=fun X h=>⟨h.cell 0,h.cell 1,h.cell 2,h.cell 3,h.cell 4,h.cell 5⟩
 have hS0:=hVs _ hbV
 have HSh:=Lib.hid hSh
 have HRES:=Lib.hid hRES
 have HV:=Lib.hid hV
 have HbV:=Lib.hid hbV
 have HM:=Lib.hid hM
 have HVs:=Lib.hid hVs
 have Hm:=Lib.hid hm
 clear hSh hRES hV hbV hM hVs hm
 go_enter Tryz.func49,Tryz.ntmps49
 refine wp_region_held_drew (S:=fun X=>X.cell? ⟨V,0,none⟩=some (.int .i64 vk)∧X.cell? ⟨V,1,none⟩=some (.bool vb)∧X.cell? ⟨V,2,none⟩=some (.int .i64 vn)∧X.cell? ⟨V,3,none⟩=some (.string vt)∧X.cell? ⟨V,4,none⟩=some (.slice vla vl.length vlc)∧X.cell? ⟨V,5,none⟩=some (.slice voa vo.length voc)) (by kernel_rfl) hS0 (fun hHeld=> ?_)
 refine wpAnyH_take (i:=1) (v:= ?_) rfl (by kernel_rfl) (by kernel_rfl) (by kernel_rfl) (fun _ _ _ h=>h) (Or.inl ⟨by kernel_rfl, ?_⟩) hHeld ?_
 rotate_left
 · intro X hSw
   obtain⟨s0,s1,s2,s3,s4,s5⟩:=hSw
   first|(go_simp;done)|(go_simp;with_reducible rfl)
 try simp only[Act.put,List.getElem_toArray,List.getElem_cons_succ,List.getElem_cons_zero,List.setIfInBounds_toArray,List.set_cons_zero,List.set_cons_succ]
 refine wpAnyH_ready (rs:= [0]) (by kernel_rfl) (by simp) ?_
 refine AllReadyH.cons rfl (fun K hK=> ?_) AllReadyH.nil
 go_simp
 with_reducible refine(HSh.out _).mono ?_
 rintro e w2 ⟨hb2',g,A,R,Wq,F,rfl,hShp⟩
 have hb2:Below w.heap.size w w2:=(Below.drew (Below.refl _ _)).trans hb2'
 have hV2:=HbV.out.below hb2 HbV.out.lt
 have hM2:=HM.out.below hb2 HM.out.lt
 have hR:=read_calls 65 (.mk vk vb vn vt vl vo) 1 _ g A R Wq F w2 hShp (HV.out.later hb2) Hm.out hb (by omega) (by omega) (by omega)
 rw[HRES.out]at hR
 have hz2:=hb2.size
 have Hb2:=Lib.hid hb2
 have HV2:=Lib.hid hV2
 have HM2:=Lib.hid hM2
 have HR:=Lib.hid hR
 clear hb2 hV2 hM2 hR
 refine hK.out _ _ (HVs.out _ HV2.out) (fun hHeld=> ?_)
 clear hK K hShp hb2'
 try simp only[Act.put,List.getElem_toArray,List.getElem_cons_succ,List.getElem_cons_zero,List.setIfInBounds_toArray,List.set_cons_zero,List.set_cons_succ]
 refine wpAnyH_ready (rs:= [2]) (by kernel_rfl) (by simp) ?_
 refine AllReadyH.cons rfl (fun K hK=> ?_) AllReadyH.nil
 go_simp
 with_reducible refine(HR.out).mono ?_
 rintro e w3 ⟨hb3,hr⟩
 have hw3:=Hb2.out.trans (hb3.mono Hb2.out.size)
 have hV3:=HV2.out.below hb3 HV2.out.lt
 have hM3:=HM2.out.below hb3 HM2.out.lt
 by_cases hc:RES.1≠0
 · rw[if_pos hc]at hr
   obtain rfl:=hr
   have hP:wrongE RES.1=endE RES.1∧w.grownBy w3 (some M)∧OfX RES M b w3:=⟨(endE_some hc).symm,grownBy_of_below _ hw3,fun h=>absurd h hc⟩
   have HP:=Lib.hid hP
   clear hP
   clear hK hb3 hw3 hV3 hM3
   go_wp2
   have:=HP.out
   rw[endE_some hc]at this ⊢
   exact⟨rfl,this⟩
 rw[if_neg hc]at hr
 obtain⟨ca,rfl,hf⟩:=hr
 have hsc:z19.size=ca.size:=by have:=hf.now.len.1;rw[dM_cells]at this;simpa using this.symm
 have hcc: ∀u ∈ ca.toList,u.oneCell'=true:=hf.now.len.2
 have hz3:=hb3.size
 have Hw3:=Lib.hid hw3
 have HV3:=Lib.hid hV3
 have HM3:=Lib.hid hM3
 have Hf:=Lib.hid hf
 clear hw3 hV3 hM3 hf
 refine hK.out _ _ (HVs.out _ HV3.out) (fun hHeld=> ?_)
 clear hK K hb3
 try simp only[Act.put,List.getElem_toArray,List.getElem_cons_succ,List.getElem_cons_zero,List.setIfInBounds_toArray,List.set_cons_zero,List.set_cons_succ]
 refine wpAnyH_ready (rs:= [3]) (by kernel_rfl) (by simp) ?_
 refine AllReadyH.cons rfl (fun K hK=> ?_) AllReadyH.nil
 have hMw:M<w.heap.size:=Nat.lt_of_lt_of_le hMb hbw
 refine wp_store_far (cs:=z19) Tmut (.tmp 1) (.tmp 4) rfl M 0 HM3.out (.agg ca) rfl rfl (by simp only[Value.cells];rw[←hsc];exact Nat.le_of_ble_eq_true rfl) (by simp only[Value.cells];rw[←hsc];kernel_rfl) (by simp only[Value.cells];exact hcc) (Hw3.out.mono (Nat.le_of_lt hMw)) (Nat.le_refl M) ?_
 intro w4 hx4 hb4 hs4 hfar
 rw[show(Value.agg ca).cells=ca from by simp only[Value.cells],over_all z19 ca hsc]at hx4
 have hgr:w.grownBy w4 (some M):=⟨hb4.os,hb4.tape,hb4.output,by omega,fun i hi hne=>(hfar i (by simpa using hne)).trans (Hw3.out.block i hi)⟩
 have hP:w.grownBy w4 (some M)∧OfX RES M b w4:=⟨hgr,fun _=>⟨ca,hx4,by rw[←hsc];rfl,Hf.out.keep (by omega) (by omega) fun p p1 _=>World.cell?_of_block (hfar _ (by omega))⟩⟩
 have h0:RES.1=0:=by simpa using hc
 have hVM:V≠M:=fun e=>by
  have h1:=HbV.out
  rw[e]at h1
  have h2:=HM.out
  have h3:=h1.symm.trans h2
  simp at h3
 have hV5:=HVs.out _ ((hfar V hVM).trans HV3.out)
 have HP:=Lib.hid hP
 have H0:=Lib.hid h0
 clear hP h0
 refine hK.out _ _ hV5 (fun hHeld=> ?_)
 clear hK K hx4 hb4 hfar hgr hV5
 try simp only[Act.put,List.getElem_toArray,List.getElem_cons_succ,List.getElem_cons_zero]
 refine wpAnyH_done (by kernel_rfl) ?_ _
 go_wp2
 go_end0
 exact⟨by rw[H0.out,endE_zero],HP.out⟩
end Go.Proofs.YtkkbplakgldlpaaGreatDoor

namespace Go.Proofs.YtkkbplakgldlpaaGreatDoor
open Go Go.RowKit
set_option maxRecDepth 100000 in
set_option maxHeartbeats 4000000 in
theorem shapes8_calls (m:Mut) (y0 y1 y2 y3 y4 y5 y6 y7 y8 y9 y10 y11 y12 y13 y14 y15 y16 y17 y18:Value) (A g:Nat) (w:World) (hA:w.cell? ⟨A,0,none⟩=some (.map (some g))) (hlt:A<w.heap.size)
 (hC: ∀W',Below w.heap.size w W'→Calls Tryz.prog 35 #[.map (some g),.agg #[y0,y1,y2,y3,y4,y5,y6,y7,y8,y9,y10,y11,y12,y13,y14,y15,y16,y17,y18]] W' (WritePost m W')):
 Calls Tryz.prog 81 #[.agg #[y0,y1,y2,y3,y4,y5,y6,y7,y8,y9,y10,y11,y12,y13,y14,y15,y16,y17,y18],.pointer (some ⟨A,0,none⟩)] w (WritePost m w):=by
 have h0:Below w.heap.size w ((w.alloc (.cells #[y0,y1,y2,y3,y4,y5,y6,y7,y8,y9,y10,y11,y12,y13,y14,y15,y16,y17,y18] 30)).alloc (.cells zero6 27)):=((Below.refl _ _).alloc (Nat.le_refl _) _).alloc (by simp) _
 have hx0:Blk ((w.alloc (.cells #[y0,y1,y2,y3,y4,y5,y6,y7,y8,y9,y10,y11,y12,y13,y14,y15,y16,y17,y18] 30)).alloc (.cells zero6 27)) w.heap.size 30 #[y0,y1,y2,y3,y4,y5,y6,y7,y8,y9,y10,y11,y12,y13,y14,y15,y16,y17,y18]:=(Blk.new _ _ _).alloc _
 have hr0:Blk ((w.alloc (.cells #[y0,y1,y2,y3,y4,y5,y6,y7,y8,y9,y10,y11,y12,y13,y14,y15,y16,y17,y18] 30)).alloc (.cells zero6 27)) (w.heap.size+1) 27 zero6:=by
  have:=Blk.new (w.alloc (.cells #[y0,y1,y2,y3,y4,y5,y6,y7,y8,y9,y10,y11,y12,y13,y14,y15,y16,y17,y18] 30)) 27 zero6
  rwa [World.size_alloc]at this
 have hz2:w.heap.size+2≤((w.alloc (.cells #[y0,y1,y2,y3,y4,y5,y6,y7,y8,y9,y10,y11,y12,y13,y14,y15,y16,y17,y18] 30)).alloc (.cells zero6 27)).heap.size:=by simp
 have hA0:=(h0.cell (p:=⟨A,0,none⟩) hlt).trans hA
 have H0:=Lib.hid h0
 have Hx0:=Lib.hid hx0
 have Hr0:=Lib.hid hr0
 have HC:=Lib.hid hC
 have Hz2:=Lib.hid hz2
 clear h0 hx0 hr0 hC hz2
 go_enter Tryz.func81,Tryz.ntmps81
 go_upto_region 1 with(fail)
 iterate 5 go_step
 refine wp_load_blk 30 (.tmp 2) rfl w.heap.size _ Hx0.out rfl _ Tryz.underlying30 rfl (by kernel_rfl) ?_
 go_wp2_with (fail)
 with_reducible refine(HC.out _ H0.out).mono ?_
 rintro e w6 ⟨hb6,oa5,oc5,rfl,hf6⟩
 have hw6:=H0.out.trans (hb6.mono H0.out.size)
 have hr6:=Hr0.out.below hb6 Hr0.out.lt
 obtain⟨c0,c1,c2,c3,c4,c5⟩:=vcell hr6
 have fz:=hr6.frozen
 have hlt6:=hr6.lt
 have Hb6:=Lib.hid hb6
 have Hw6:=Lib.hid hw6
 have Hr6:=Lib.hid hr6
 have Hf6:=Lib.hid hf6
 clear hb6 hw6 hr6 hf6
 clear hA0 hA
 dsimp only
 repeat go_step
 have hxf:=((((((Hr6.out.set_ 0 (.int .i64 6)).set_ 1 (.bool false)).set_ 2 (.int .i64 0)).set_ 3 (.string ⟨#[]⟩)).set_ 4 (.slice none 0 0)).set_ 5 (.slice oa5 2 oc5))
 have hbf:=setMany_below [.int .i64 6,.bool false,.int .i64 0,.string ⟨#[]⟩,.slice none 0 0,.slice oa5 2 oc5] Hw6.out (Nat.le_succ w.heap.size) (o:=0)
 have hff:Fresh w.heap.size (setMany w6 (w.heap.size+1) 0 [.int .i64 6,.bool false,.int .i64 0,.string ⟨#[]⟩,.slice none 0 0,.slice oa5 2 oc5]) (dV (mutV m)) [.int .i64 6,.bool false,.int .i64 0,.string ⟨#[]⟩,.slice none 0 0,.slice oa5 2 oc5]:=
  Hf6.out.keep (b':=w.heap.size) (Nat.le_trans (by omega) Hz2.out) (by rw[setMany_size];exact Nat.le_refl _) (fun p p1 _=>World.cell?_of_block (setMany_far _ _ _ _ _ (by have:=Hz2.out;omega)))
 exact bodyPost_ret (results_cell6 rfl rfl hxf) rfl ⟨hbf,oa5,oc5,rfl,hff⟩
theorem wpost_write {m:Mut} {O:List (ByteArray×Val)} {nm:ByteArray} (e:mutV m=ov [(kArgs,ov O),(kName,tv nm)]):WPost O nm=WritePost m:=by
 unfold WPost WritePost
 rw[e]
def WriteC (m:Mut):Prop:= ∀(cs:List Value) (d:Int) (g A R W:Nat) (F:Nat→Nat) (w:World),Shp w g A R W F→MNames w→Holds w w.heap.size (dM m) cs→bulkM m≤8000000→mayM m d=0→
 Calls Tryz.prog 35 #[.map (some g),.agg cs.toArray] w (WritePost m w)
theorem write_calls: ∀m,WriteC m:=by
 refine Mut.ind ?_
 intro k key dst n had was has v l IH cs d g A R W F w hS hN hM hb hm
 obtain⟨k1,b1,n1,t1,l1,o1⟩:=was
 obtain⟨k2,b2,n2,t2,l2,o2⟩:=v
 obtain⟨la1,lc1,oa1,oc1,la2,lc2,oa2,oc2,a,c,rfl,hv1,hv2,hl⟩:=mut_cells hM
 have hls:=bulkMs_len l
 simp only[bulkM]at hb
 obtain⟨h1,_,_,_,_,h6⟩:=mayM_parts hm
 obtain⟨k1',k7'⟩:=bare_kind h1
 have hkk:k=1∨k=2∨k=3∨k=4∨k=5∨k=6∨k=7:=by omega
 have hv1': ∀W',Below w.heap.size w W'→HoldsV W' W'.heap.size (.mk k1 b1 n1 t1 l1 o1) [.int .i64 k1,.bool b1,.int .i64 n1,.string t1,.slice la1 l1.length lc1,.slice oa1 o1.length oc1]:=fun W' hW=>HoldsV.more hW.size _ _ (hv1.below hW)
 have hv2': ∀W',Below w.heap.size w W'→HoldsV W' W'.heap.size (.mk k2 b2 n2 t2 l2 o2) [.int .i64 k2,.bool b2,.int .i64 n2,.string t2,.slice la2 l2.length lc2,.slice oa2 o2.length oc2]:=fun W' hW=>HoldsV.more hW.size _ _ (hv2.below hW)
 rcases hkk with rfl|rfl|rfl|rfl|rfl|rfl|rfl
 · rw[←wpost_write (O:= [(kKey,tv key),(kVal,.mk k2 b2 n2 t2 l2 o2)]) (nm:=nPut) (by simp[mutV,nameM])]
   exact write_1 _ _ _ _ _ _ _ _ _ _ _ _ _ _ _ _ _ _ _ g A R W F w hS hN (by simp) fun W' hW=>wval_calls _ key _ _ _ _ _ _ _ _ _ _ k2 b2 n2 t2 l2 o2 la2 oa2 lc2 oc2 _ W' (hv2' W' hW) (by omega)
 · rw[←wpost_write (O:= [(kKey,tv key)]) (nm:=nDel) (by simp[mutV,nameM])]
   exact write_2 _ _ _ _ _ _ _ _ _ _ _ _ _ _ _ _ _ _ _ g A R W F w hS hN (by simp) fun W' _=>wdel_calls _ key _ _ _ _ _ _ _ _ _ _ _ _ _ _ _ _ _ W'
 · rw[←wpost_write (O:= [(kBy,iv n),(kKey,tv key)]) (nm:=nInc) (by simp[mutV,nameM])]
   exact write_3 _ _ _ _ _ _ _ _ _ _ _ _ _ _ _ _ _ _ _ g A R W F w hS hN (by simp) fun W' _=>winc_calls _ key _ n _ _ _ _ _ _ _ _ _ _ _ _ _ _ _ W'
 · cases has with
   |false=>
    rw[←wpost_write (O:=guardO key had (.mk k1 b1 n1 t1 l1 o1)) (nm:=nCas) (by simp[mutV,nameM])]
    exact write_4 _ _ _ _ _ _ _ _ _ _ _ _ _ _ _ _ _ _ _ g A R W F w hS hN (by have:=guard_len key had (.mk k1 b1 n1 t1 l1 o1);omega) fun W' hW=>wcas_no _ key _ _ had k1 b1 n1 t1 l1 o1 la1 oa1 lc1 oc1 _ _ _ _ _ _ _ W' (hv1' W' hW) (by omega)
   |true=>
    rw[←wpost_write (O:=(kIs,.mk k2 b2 n2 t2 l2 o2)::guardO key had (.mk k1 b1 n1 t1 l1 o1)) (nm:=nCas) (by simp[mutV,nameM])]
    exact write_4 _ _ _ _ _ _ _ _ _ _ _ _ _ _ _ _ _ _ _ g A R W F w hS hN (by have:=guard_len key had (.mk k1 b1 n1 t1 l1 o1);simp;omega) fun W' hW=>wcas_yes _ key _ _ had k1 b1 n1 t1 l1 o1 la1 oa1 lc1 oc1 k2 b2 n2 t2 l2 o2 la2 oa2 lc2 oc2 _ W' (hv1' W' hW) (by omega) (hv2' W' hW) (by omega)
 · rw[←wpost_write (O:= [(kKey,tv key),(kVal,.mk k2 b2 n2 t2 l2 o2)]) (nm:=nApp) (by simp[mutV,nameM])]
   exact write_5 _ _ _ _ _ _ _ _ _ _ _ _ _ _ _ _ _ _ _ g A R W F w hS hN (by simp) fun W' hW=>wval_calls _ key _ _ _ _ _ _ _ _ _ _ k2 b2 n2 t2 l2 o2 la2 oa2 lc2 oc2 _ W' (hv2' W' hW) (by omega)
 · rw[←wpost_write (O:= [(kFrom,tv key),(kTo,tv dst)]) (nm:=nMove) (by simp[mutV,nameM])]
   exact write_6 _ _ _ _ _ _ _ _ _ _ _ _ _ _ _ _ _ _ _ g A R W F w hS hN (by simp) fun W' _=>wmove_calls _ key dst _ _ _ _ _ _ _ _ _ _ _ _ _ _ _ _ W'
 · rw[←wpost_write (O:=(kDo,lv (mutVs l))::(if key.toList.isEmpty then []else [(kIf,ov (guardO key had (.mk k1 b1 n1 t1 l1 o1)))])) (nm:=nSeq) (by simp[mutV,nameM])]
   refine write_7 _ _ _ _ _ _ _ _ _ _ _ _ _ _ _ _ _ _ _ g A R W F w hS hN (by split<;>simp) fun W' hW=>wseq_loop _ key _ _ had k1 b1 n1 t1 l1 o1 la1 oa1 lc1 oc1 _ _ _ _ _ _ _ l a c A W W' (hv1' W' hW) (by omega) ((hl.below hW).more hW.size) (by omega)
    (((hS.below hW).wr).cell 0) ((hS.below hW).wr.lt) fun x hx W2 cs2 hW2 hH2=> ?_
   have hbx:=bulkMs_mem hx
   have hS2:=(hS.below hW).below hW2
   have hN2:=(hN.below hW).below hW2
   have hmx:=mayMs_mem h6 x hx
   have hIH:=IH x hx
   obtain⟨k',key',dst',n',had',⟨k1',b1',n1',t1',l1',o1'⟩,has',⟨k2',b2',n2',t2',l2',o2'⟩,l'⟩:=x
   obtain⟨la1',lc1',oa1',oc1',la2',lc2',oa2',oc2',a',c',rfl,_,_,_⟩:=mut_cells hH2
   exact shapes8_calls _ _ _ _ _ _ _ _ _ _ _ _ _ _ _ _ _ _ _ _ A g W2 (hS2.all_.cell 0) hS2.all_.lt fun W3 hW3=>hIH _ (d+1) g A R W F W3 (hS2.below hW3) (hN2.below hW3) ((hH2.below hW3).more hW3.size) (by omega) hmx
end Go.Proofs.YtkkbplakgldlpaaGreatDoor

namespace Go.Proofs.YtkkbplakgldlpaaGreatDoor
def atB (k:ByteArray) (o:List (ByteArray×Val)):Nat:=match findO k o with
 |none=>0
 |some x=>1+k.size+x.bulk
theorem atB_hit (a:ByteArray) (x:Val) (r:List (ByteArray×Val)):atB a ((a,x)::r)=1+a.size+x.bulk:=by
 unfold atB findO
 rw[if_pos rfl]
theorem atB_miss {k a:ByteArray} (h:a≠k) (x:Val) (r:List (ByteArray×Val)):atB k ((a,x)::r)=atB k r:=by
 unfold atB
 rw[findO,if_neg h]
theorem sum_out {a:ByteArray} {x:Val} {r:List (ByteArray×Val)}: ∀{ks:List ByteArray},a ∉ ks→(ks.map fun k=>atB k ((a,x)::r)).sum=(ks.map fun k=>atB k r).sum
 | [],_=>rfl
 |k::ks,h=>by
  simp only[List.mem_cons,not_or]at h
  simp only[List.map_cons,List.sum_cons,atB_miss h.1,sum_out h.2]
theorem sum_in {a:ByteArray} {x:Val} {r:List (ByteArray×Val)}: ∀{ks:List ByteArray},ks.Nodup→(ks.map fun k=>atB k ((a,x)::r)).sum≤1+a.size+x.bulk+(ks.map fun k=>atB k r).sum
 | [],_=>by simp
 |k::ks,h=>by
  rw[List.nodup_cons]at h
  simp only[List.map_cons,List.sum_cons]
  by_cases e:a=k
  · subst e
    rw[atB_hit,sum_out h.1]
    omega
  · rw[atB_miss e]
    have:=sum_in (a:=a) (x:=x) (r:=r) h.2
    omega
theorem sum_at {ks:List ByteArray} (h:ks.Nodup): ∀o:List (ByteArray×Val),(ks.map fun k=>atB k o).sum≤bulkO o
 | []=>by
   have: ∀ks:List ByteArray,(ks.map fun k=>atB k []).sum=0:=by
    intro ks
    induction ks with
    |nil=>rfl
    |cons k r ih=>simp only[List.map_cons,List.sum_cons,ih];rfl
   rw[this]
   exact Nat.zero_le _
 |(a,x)::r=>by
  have h1:=sum_in (a:=a) (x:=x) (r:=r) h
  have h2:=sum_at h r
  simp only[bulkO]
  have h3:bulkP (a,x)=1+a.size+x.bulk:=rfl
  omega
theorem two_at {k1 k2:ByteArray} (h:k1≠k2) (o:List (ByteArray×Val)):atB k1 o+atB k2 o≤bulkO o:=by
 have:=sum_at (ks:= [k1,k2]) (by simp[h]) o
 simpa using this
theorem three_at {k1 k2 k3:ByteArray} (h:k1≠k2) (h':k1≠k3) (h'':k2≠k3) (o:List (ByteArray×Val)):atB k1 o+(atB k2 o+atB k3 o)≤bulkO o:=by
 have:=sum_at (ks:= [k1,k2,k3]) (by simp[h,h',h'']) o
 simpa using this
theorem atB_bulk (k:ByteArray) (o:List (ByteArray×Val)):(atO' k o).bulk≤atB k o+6:=by
 unfold atO' atB
 cases findO k o with
 |none=>show noV.bulk≤0+6;decide
 |some x=>show x.bulk≤_;simp only;omega
theorem atB_kind {k:ByteArray} {o:List (ByteArray×Val)} (h:kindV (atO' k o)≠0):1+k.size+(atO' k o).bulk≤atB k o:=by
 unfold atO' atB at*
 cases hf:findO k o with
 |none=>rw[hf]at h;exact absurd rfl h
 |some x=>exact Nat.le_refl _
theorem txt_bulk (v:Val):(txtV' v).size+6≤v.bulk:=by
 obtain⟨k,b,n,t,l,o⟩:=v
 simp only[Val.bulk]
 show t.size+6≤_
 omega
theorem obj_bulk (v:Val):bulkO (objV' v)+6≤v.bulk:=by
 obtain⟨k,b,n,t,l,o⟩:=v
 simp only[Val.bulk]
 show bulkO o+6≤_
 omega
theorem lst_bulk (v:Val):bulkL (lstV' v)+6≤v.bulk:=by
 obtain⟨k,b,n,t,l,o⟩:=v
 simp only[Val.bulk]
 show bulkL l+6≤_
 omega
theorem eachM_bulk {f:Val→Int×Mut} (hf: ∀x,(f x).1=0→bulkM (f x).2≤x.bulk): ∀{l:List Val},(eachM f l).1=0→bulkMs (eachM f l).2≤bulkL l
 | [],_=>Nat.le_refl _
 |v::l,h=>by
  unfold eachM at h ⊢
  by_cases h1:(f v).1≠0
  · rw[if_pos h1]at h;exact absurd h h1
  rw[if_neg h1]at h ⊢
  by_cases h2:(eachM f l).1≠0
  · rw[if_pos h2]at h;exact absurd h h2
  rw[if_neg h2]
  have i1:=hf v (by simpa using h1)
  have i2:=eachM_bulk hf (l:=l) (by simpa using h2)
  simp only[bulkMs,bulkL]
  omega
theorem noV_bulk:noV.bulk=6:=by decide
theorem argsM_bulk {f:Val→Int×Mut} (hf: ∀x,(f x).1=0→bulkM (f x).2≤x.bulk) {k:Int} (h1:1≤k) (h7:k≤7) {o:List (ByteArray×Val)} (h:(argsM f k o).1=0):bulkM (argsM f k o).2≤20+bulkO o:=by
 have z:=noV_bulk
 rcases(show(k=1∨k=5)∨k=2∨k=3∨k=4∨k=6∨k=7 by omega)with hk|rfl|rfl|rfl|rfl|rfl
 · rw[argsM_val f hk]at h ⊢
   split at h
   · cases h
   rename_i h4
   rw[if_neg h4]
   have a1:=atB_kind (k:=kKey) (o:=o) (by omega)
   have a2:=atB_bulk kVal o
   have a3:=txt_bulk (atO' kKey o)
   have a4:=two_at (k1:=kKey) (k2:=kVal) (by decide) o
   simp only[bulkM,bulkMs,z]
   have:nil0.size=0:=rfl
   omega
 · rw[argsM_del]at h ⊢
   split at h
   · cases h
   rename_i h4
   rw[if_neg h4]
   have a1:=atB_kind (k:=kKey) (o:=o) (by omega)
   have a3:=txt_bulk (atO' kKey o)
   have a4:=two_at (k1:=kKey) (k2:=kVal) (by decide) o
   simp only[bulkM,bulkMs,z]
   have:nil0.size=0:=rfl
   omega
 · rw[argsM_inc]at h ⊢
   split at h
   · cases h
   rename_i h3
   rw[if_neg h3]
   split at h
   · cases h
   rename_i h4
   rw[if_neg h4]
   have a1:=atB_kind (k:=kKey) (o:=o) (by omega)
   have a3:=txt_bulk (atO' kKey o)
   have a4:=two_at (k1:=kKey) (k2:=kVal) (by decide) o
   simp only[bulkM,bulkMs,z]
   have:nil0.size=0:=rfl
   omega
 · rw[argsM_cas]at h ⊢
   split at h
   · cases h
   rename_i h4
   rw[if_neg h4]
   have a1:=atB_kind (k:=kKey) (o:=o) (by omega)
   have a2:=atB_bulk kIs o
   have a2':=atB_bulk kWas o
   have a3:=txt_bulk (atO' kKey o)
   have a4:=three_at (k1:=kKey) (k2:=kIs) (k3:=kWas) (by decide) (by decide) (by decide) o
   simp only[bulkM,bulkMs]
   have:nil0.size=0:=rfl
   omega
 · rw[argsM_move]at h ⊢
   split at h
   · cases h
   rename_i h3
   rw[if_neg h3]
   split at h
   · cases h
   rename_i h4
   rw[if_neg h4]
   have a1:=atB_kind (k:=kFrom) (o:=o) (by omega)
   have a2:=atB_kind (k:=kTo) (o:=o) (by omega)
   have a3:=txt_bulk (atO' kFrom o)
   have a3':=txt_bulk (atO' kTo o)
   have a4:=two_at (k1:=kFrom) (k2:=kTo) (by decide) o
   simp only[bulkM,bulkMs,z]
   omega
 · rw[argsM_seq]at h ⊢
   split at h
   · cases h
   rename_i h5
   rw[if_neg h5]
   split at h
   · rename_i h2;exact absurd h h2
   rename_i h2
   rw[if_neg h2]
   have a1:=atB_kind (k:=kDo) (o:=o) (by omega)
   have a2:=lst_bulk (atO' kDo o)
   have a3:=eachM_bulk hf (l:=lstV' (atO' kDo o)) (by simpa using h2)
   have a4:=two_at (k1:=kDo) (k2:=kIf) (by decide) o
   have n0:nil0.size=0:=rfl
   cases hg:findO kIf o with
   |none=>
    simp only[bulkM,z]
    omega
   |some g=>
    rw[hg]at h
    simp only at h ⊢
    have a5:atB kIf o=1+kIf.size+g.bulk:=by unfold atB;rw[hg]
    unfold guardM at h ⊢
    split at h
    · cases h
    rename_i g1
    rw[if_neg g1]
    split at h
    · cases h
    rename_i g2
    rw[if_neg g2]
    split at h
    · cases h
    rename_i g3
    rw[if_neg g3]
    split at h
    · cases h
    rename_i g4
    rw[if_neg g4]
    have b1:=atB_kind (k:=kKey) (o:=objV' g) (by omega)
    have b2:=atB_bulk kWas (objV' g)
    have b3:=txt_bulk (atO' kKey (objV' g))
    have b4:=two_at (k1:=kKey) (k2:=kWas) (by decide) (objV' g)
    have b5:=obj_bulk g
    simp only[bulkM,z]
    omega
theorem readM_bulk: ∀(f:Nat) (v:Val),(readM f v).1=0→bulkM (readM f v).2≤v.bulk:=by
 intro f
 induction f with
 |zero=>intro v h;cases h
 |succ f IH=>
  intro v h
  rw[readM_readB]at h ⊢
  unfold readB at h ⊢
  split at h
  · cases h
  rename_i g1
  rw[if_neg g1]
  split at h
  · cases h
  rename_i g2
  rw[if_neg g2]
  split at h
  · cases h
  rename_i g3
  rw[if_neg g3]
  cases hk:kindOf (txtV' (atO' kName (objV' v)))with
  |none=>rw[hk]at h;cases h
  |some k=>
   rw[hk]at h
   simp only at h ⊢
   split at h
   · cases h
   rename_i g4
   rw[if_neg g4]
   split at h
   · cases h
   rename_i g5
   rw[if_neg g5]
   have hk7:1≤k∧k≤7:=by
    rcases kindOf_cases hk with⟨_,rfl⟩|⟨_,rfl⟩|⟨_,rfl⟩|⟨_,rfl⟩|⟨_,rfl⟩|⟨_,rfl⟩|⟨_,rfl⟩<;>omega
   have a1:=argsM_bulk IH hk7.1 hk7.2 h
   have a2:=atB_kind (k:=kArgs) (o:=objV' v) (by omega)
   have a3:=atB_kind (k:=kName) (o:=objV' v) (by omega)
   have a4:=two_at (k1:=kArgs) (k2:=kName) (by decide) (objV' v)
   have a5:=obj_bulk (atO' kArgs (objV' v))
   have a6:=txt_bulk (atO' kName (objV' v))
   have a7:=obj_bulk v
   have s1:kArgs.size=4:=rfl
   have s2:kName.size=4:=rfl
   omega
theorem in_at {k:ByteArray} {o:List (ByteArray×Val)} (h:inO o):inV (atO' k o):=by
 rcases at_cases k o with⟨_,e⟩|e
 · rw[e];simp[inV,inL,inO]
 · exact inO_mem h (findO_some e)
theorem in_obj {v:Val} (h:inV v):inO (objV' v):=by
 obtain⟨k,b,n,t,l,o⟩:=v
 exact h.2.2
theorem in_lst {v:Val} (h:inV v):inL (lstV' v):=by
 obtain⟨k,b,n,t,l,o⟩:=v
 exact h.2.1
theorem in_noM:inM noM:=by simp[inM,inMs,inV,inL,inO]
theorem in_nov:inV noV:=by simp[inV,inL,inO]
theorem eachM_in {f:Val→Int×Mut} (hf: ∀x,inV x→inM (f x).2): ∀{l:List Val},inL l→inMs (eachM f l).2
 | [],_=>trivial
 |v::l,h=>by
  unfold eachM
  split
  · trivial
  split
  · trivial
  · exact⟨hf v h.1,eachM_in hf h.2⟩
theorem argsM_in {f:Val→Int×Mut} (hf: ∀x,inV x→inM (f x).2) {k:Int} (h1:1≤k) (h7:k≤7) {o:List (ByteArray×Val)} (ho:inO o):inM (argsM f k o).2:=by
 have mk: ∀(k:Int) (key dst:ByteArray) (n:Int) (had:Bool) (was:Val) (has:Bool) (v:Val) (l:List Mut),(-9223372036854775808≤n∧n≤9223372036854775807)→inV was→inV v→inMs l→inM (.mk k key dst n had was has v l):=fun _ _ _ _ _ _ _ _ _ a b c d=>⟨a,b,c,d⟩
 rcases(show(k=1∨k=5)∨k=2∨k=3∨k=4∨k=6∨k=7 by omega)with hk|rfl|rfl|rfl|rfl|rfl
 · rw[argsM_val f hk]
   split
   · exact in_noM
   · exact mk _ _ _ _ _ _ _ _ _ (by omega) in_nov (in_at ho) trivial
 · rw[argsM_del]
   split
   · exact in_noM
   · exact mk _ _ _ _ _ _ _ _ _ (by omega) in_nov in_nov trivial
 · rw[argsM_inc]
   split
   · exact in_noM
   split
   · exact in_noM
   · have:=in_at (k:=kBy) ho
     refine mk _ _ _ _ _ _ _ _ _ ?_ in_nov in_nov trivial
     generalize atO' kBy o=z at this
     obtain⟨k,b,n,t,l,o⟩:=z
     exact this.1
 · rw[argsM_cas]
   split
   · exact in_noM
   · exact mk _ _ _ _ _ _ _ _ _ (by omega) (in_at ho) (in_at ho) trivial
 · rw[argsM_move]
   split
   · exact in_noM
   split
   · exact in_noM
   · exact mk _ _ _ _ _ _ _ _ _ (by omega) in_nov in_nov trivial
 · rw[argsM_seq]
   have hl:=eachM_in hf (in_lst (in_at (k:=kDo) ho))
   split
   · exact in_noM
   split
   · exact in_noM
   cases hg:findO kIf o with
   |none=>exact mk _ _ _ _ _ _ _ _ _ (by omega) in_nov in_nov hl
   |some g=>
    have hgi:inV g:=inO_mem ho (findO_some hg)
    show inM (guardM g _).2
    unfold guardM
    split
    · exact in_noM
    split
    · exact in_noM
    split
    · exact in_noM
    split
    · exact in_noM
    · exact mk _ _ _ _ _ _ _ _ _ (by omega) (in_at (in_obj hgi)) in_nov hl
theorem readM_in: ∀(f:Nat) (v:Val),inV v→inM (readM f v).2:=by
 intro f
 induction f with
 |zero=>intro v _;exact in_noM
 |succ f IH=>
  intro v h
  rw[readM_readB]
  unfold readB
  split
  · exact in_noM
  split
  · exact in_noM
  split
  · exact in_noM
  cases hk:kindOf (txtV' (atO' kName (objV' v)))with
  |none=>exact in_noM
  |some k=>
   dsimp only
   split
   · exact in_noM
   split
   · exact in_noM
   have hk7:1≤k∧k≤7:=by
    rcases kindOf_cases hk with⟨_,rfl⟩|⟨_,rfl⟩|⟨_,rfl⟩|⟨_,rfl⟩|⟨_,rfl⟩|⟨_,rfl⟩|⟨_,rfl⟩<;>omega
   exact argsM_in IH hk7.1 hk7.2 (in_obj (in_at (in_obj h)))
end Go.Proofs.YtkkbplakgldlpaaGreatDoor
