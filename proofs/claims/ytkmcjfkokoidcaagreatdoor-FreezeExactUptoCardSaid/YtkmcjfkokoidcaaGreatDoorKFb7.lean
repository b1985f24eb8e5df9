/- Parts: utf.Quote: the walk. Condition: a text shorter than 10^9. -/
import Derived.Lib.MapLaws
import Derived.Lib.TrimUEq
import Derived.LoopIn
import Derived.LoopNIn
import Derived.Lib.OthersKept
import Derived.Lib.FrozenHead2
import Derived.Shelf.Strings.BuilderK
import Derived.Lib.RuneBytes
import Derived.Test.YtkmcjfkokoidcaaGreatDoorKFb2
import Derived.Test.YtkmcjfkokoidcaaGreatDoorKFb4
set_option maxHeartbeats 20000000
set_option maxRecDepth 100000
namespace Go.Proofs.YtkmcjfkokoidcaaGreatDoor
open Go.RowKit
attribute [local go_sem] Oper.semAt_some
def As:Nat->List UInt8->Nat->List (Nat×Nat)
 |0,_,_=> []
 |n+1,l,p=>if l= []then []else if(Lib.decodeL l).1=65533/\(Lib.decodeL l).2=1 then []else(p,(Lib.decodeL l).1)::As n (l.drop (Lib.decodeL l).2) (p+(Lib.decodeL l).2)
def Cf (s:ByteArray):List (Nat×Nat):=As s.size s.data.toList 0
theorem O6 (s:ByteArray) (k:Nat) (h:k<s.size):(if(s.extract k s.size).size=0 then(65533,0)else Utf8.decode (s.extract k s.size) 0)=Lib.decodeL (s.data.toList.drop k):=by
 have e:(s.extract k s.size)=⟨(s.data.toList.drop k).toArray⟩:=by
  apply ByteArray.ext;apply Array.ext';rw[Lib.extract_data];dsimp only;rw[List.take_of_length_le (by rw[List.length_drop,<-Lib.size_eq];omega)]
 rw[if_neg (by rw[ByteArray.size_extract];omega),e];rfl
theorem O2 (s:ByteArray) (w:World):
 Calls Tryz.prog 242 #[.string s] w fun e w'=>e=.returned (.func (.func 282) #[] #[.pointer (some ⟨w.heap.size,0,none⟩)])/\w.alloc (.cells #[.string s] 9)=w':=by
 go_enter Tryz.func242,Tryz.ntmps242;go_wp2;go_ret;exact⟨rfl,rfl⟩
theorem Vj (s:ByteArray) (b:Nat) (hs:s.size<=1000000000):
 Adr Tryz.prog 282 #[.pointer (some ⟨b,0,none⟩)] (fun x:Nat×Nat=> #[.int .i64 x.1,.int .i32 x.2]) (Cf s) (fun A=>A.cell? ⟨b,0,none⟩=some (.string s)/\B3 A):=by
 intro n l J W hJn hJb hY h0;refine callsIn_of_wp Tryz.func282 rfl trivial ?_ rfl;simp only[Tryz.ntmps282,List.size_toArray,List.length_cons,List.length_nil,Nat.reduceAdd,Nat.reduceSub,Array.replicate_succ,Array.replicate_zero,List.push_toArray,List.append_toArray,List.nil_append,List.cons_append]
 gi_wp2
 gi_loopw [3] (fun i wr=> ∃(pre:List (Nat×Nat)) (f k:Nat),i=.int .i64 k/\k<=s.size/\s.size - k<=f/\Hid (Cf s=pre++As f (s.data.toList.drop k) k)/\J pre wr) (fun i _=>s.size - (intOf i).toNat)
 case atStart=>exact⟨[],s.size,0,rfl,Nat.zero_le _,by omega,rfl,h0⟩
 case round=>
  obtain⟨pre,f,k,rfl,hk,hf,hr,hJ⟩:=hrel;have hcr:wr.cell? ⟨b,0,none⟩=some (.string s):=(hJb _ _ hJ).1;have hTr:B3 wr:=(hJb _ _ hJ).2;by_cases hlt:k<s.size
  . have hne:s.data.toList.drop k≠ []:=by
     intro e;have:=congrArg List.length e;rw[List.length_drop,<-Lib.size_eq]at this;simp at this;omega
    obtain⟨f,rfl⟩: ∃f',f=f'+1:=⟨f - 1,by omega⟩;have cD:=Tryz.utf8_DecodeRuneInString (s.extract k s.size) wr hTr.2.1;have hdc:Lib.decodeGo (s.extract k s.size)=Lib.decodeL (s.data.toList.drop k):=O6 s k hlt;have hw1:=Lib.decodeL_width (s.data.toList.drop k);have hw2:=Lib.decodeL_le _ hne;have hw3:=Lib.decodeL_rune (s.data.toList.drop k);rw[List.length_drop,<-Lib.size_eq]at hw2;have hr':=hr.out;simp only[As]at hr';rw[if_neg hne,List.drop_drop]at hr';rw[hdc]at cD;generalize Lib.decodeL (s.data.toList.drop k)=D at cD hw1 hw2 hw3 hr';obtain⟨r,z⟩:=D;simp only at cD hw1 hw2 hw3 hr';have CD:=qz cD;clear cD hdc hne hr;by_cases hbad:r=65533/\z=1
    . rw[if_pos hbad,List.append_nil]at hr';have Hr:=qz hr';obtain⟨hr1,hz1⟩:=hbad;have e1:((r:Int)==65533)=true:=by simp;omega
      have e2:((z:Int)==1)=true:=by simp;omega
      clear hr' hr1 hz1
      gi_wp2_with (refine⟨trivial, ?_⟩;gi_at_call 283;refine(callsIn_wide.2 CD.out).mono ?_;rintro e w2 ⟨rfl,hb2⟩;have hJ2:=hJn _ _ _ hJ hb2)
      refine bodyPost_ret (results_none rfl _ _ _) rfl ?_;exact⟨⟨_,rfl⟩,by rw[Hr.out];exact hJ2⟩
    . rw[if_neg hbad]at hr';have Hr:=qz hr';have Hr2:Hid (Cf s=(pre++ [(k,r)])++As f (s.data.toList.drop (k+z)) (k+z)):=by
       show Cf s=_;rw[hr'];simp
      clear hr';rcases(by omega:r≠65533\/(r=65533/\z≠1))with h1|⟨h1,h2⟩
      . have e1:((r:Int)==65533)=false:=by simp;omega
        clear h1 hbad
        gi_wp2_with (refine⟨trivial, ?_⟩;gi_at_call 283;refine(callsIn_wide.2 CD.out).mono ?_;rintro e w2 ⟨rfl,hb2⟩;obtain⟨fn,tmps,assign,body,hy,hR⟩:=hY pre (k,r) _ w2 Hr.out (hJn _ _ _ hJ hb2);dsimp only at hy)
        refine hR.mono ?_;rintro e W3 ⟨rfl,hJ3⟩;clear hy hR
        gi_wp2
        go_roundw
        case rel=>exact⟨pre++ [(k,r)],f,k+z,by go_num,by omega,by omega,Hr2,hJ3⟩
        case measure=>simp[intOf];omega
      . have e1:((r:Int)==65533)=true:=by simp;omega
        have e2:((z:Int)==1)=false:=by simp;omega
        clear h1 h2 hbad
        gi_wp2_with (refine⟨trivial, ?_⟩;gi_at_call 283;refine(callsIn_wide.2 CD.out).mono ?_;rintro e w2 ⟨rfl,hb2⟩;obtain⟨fn,tmps,assign,body,hy,hR⟩:=hY pre (k,r) _ w2 Hr.out (hJn _ _ _ hJ hb2);dsimp only at hy)
        refine hR.mono ?_;rintro e W3 ⟨rfl,hJ3⟩;clear hy hR
        gi_wp2
        go_roundw
        case rel=>exact⟨pre++ [(k,r)],f,k+z,by go_num,by omega,by omega,Hr2,hJ3⟩
        case measure=>simp[intOf];omega
  . obtain rfl:k=s.size:=by omega
    have hr':=hr.out;rw[List.drop_eq_nil_of_le (by rw[<-Lib.size_eq];omega)]at hr';have hz:As f [] s.size= []:=by cases f<;>simp[As]
    rw[hz,List.append_nil]at hr';have Hr:=qz hr';clear hr hr'
    gi_wp2
    go_end0
    exact⟨⟨_,rfl⟩,by rw[Hr.out];exact hJ⟩
end Go.Proofs.YtkmcjfkokoidcaaGreatDoor
namespace Go.Proofs.YtkmcjfkokoidcaaGreatDoor
open Go.RowKit Go.Shelf
def Mr (w:World) (B g o:Nat) (t:TypeId) (cs:Array Value) (bs:List UInt8):Prop:=
 B<=g/\w.heap[g]? =some (.cells cs t (0,0))/\t≠5/\o+1<cs.size/\(cs[o]? =some (.pointer none)\/cs[o]? =some (.pointer (some ⟨g,o,none⟩)))/\
  ∃v,cs[o+1]? =some v/\w.ownsRow B 5 1 v bs.length (Lib.byteCells bs)
def L6 (g o:Nat) (cs:Array Value) (v:Value):Array Value:=(cs.setIfInBounds o (.pointer (some ⟨g,o,none⟩))).setIfInBounds (o+1) v
theorem Mr.lt {w:World} {B g o:Nat} {t:TypeId} {cs:Array Value} {bs:List UInt8} (h:Mr w B g o t cs bs):g<w.heap.size:=by
 rcases Nat.lt_or_ge g w.heap.size with h'|h'
 . exact h'
 . have:=h.2.1;simp[Array.getElem?_eq_none h']at this
abbrev Eo (g:Nat) (w w':World):Prop:=Lib.OthersKept 5 (some g) w w'
theorem Cc {w:World} {g i:Nat} {cs:Array Value} {t:TypeId} (h:w.heap[g]? =some (.cells cs t (0,0))) (u:Value):(w.setCell ⟨g,i,none⟩ u).heap[g]? =some (.cells (cs.setIfInBounds i u) t (0,0)):=by
 simp[World.setCell,Array.getElem?_modify,h]
theorem Mr.used {w:World} {B g o:Nat} {t:TypeId} {cs:Array Value} {bs:List UInt8} (h:Mr w B g o t cs bs):
 Mr (w.setCell ⟨g,o,none⟩ (.pointer (some ⟨g,o,none⟩))) B g o t (cs.setIfInBounds o (.pointer (some ⟨g,o,none⟩))) bs:=by
 obtain⟨hB,hb,ht,hs,h0,v,h1,hown⟩:=h;refine⟨hB,Cc hb _,ht,by simpa using hs,.inr (by rw[Array.getElem?_setIfInBounds_self_of_lt (by omega)]),v,by rw[Array.getElem?_setIfInBounds,if_neg (by omega)];exact h1, ?_⟩;exact hown.kept (row:=some g) ⟨rfl,rfl,rfl,by simp[World.setCell],fun k _ hk=>Below.heap_setCell _ _ _ _ (fun e=>hk (by simp[e]))⟩ (Or.inr (Lib.ownBlock_ne hown hb ht))
theorem Gt (B g o:Nat) (t:TypeId) (cs:Array Value) (bs:List UInt8) (w:World) (h:Mr w B g o t cs bs) (hl:liesAt Tryz.prog Tryz.prog.depth t (cs.size / Tryz.prog.cellsOf t) o 133 1=true):
 Calls Tryz.prog 236 #[.pointer (some ⟨g,o,none⟩)] w fun e w'=>e=.returned (.tuple #[])/\Mr w' B g o t (cs.setIfInBounds o (.pointer (some ⟨g,o,none⟩))) bs/\Below B w w'/\Eo g w w':=by
 have hu:=h.used;obtain⟨hB,hb,ht,hs,h0,v,h1,hown⟩:=h;obtain⟨j,hj,hj2⟩: ∃j,Tryz.prog.info? 133=some j/\j.size=2:=by
  have:(Tryz.prog.info? 133).map (·.size)=some 2:=by kernel_rfl
  cases hq:Tryz.prog.info? 133 with
  |none=>simp[hq]at this
  |some j=>exact⟨j,rfl,by simpa[hq]using this⟩
 have hsh:w.shape? g=some (t,cs.size):=by simp[World.shape?,hb]
 rcases h0 with h0|h0
 . have c0:w.cell? ⟨g,o,none⟩=some (.pointer none):=by rw[Lib.cell_of_heap hb];exact h0
   have f0:w.frozen? ⟨g,o,none⟩=false:=Lib.frozen_of_heap hb o;go_enter Tryz.func236,Tryz.ntmps236;go_wp2;rw[Lib.run_to_unsafe (P:=Tryz.prog) w (src:=130) (dst:=268) (t:=133) ⟨g,o,none⟩ Tryz.underlying130 Tryz.underlying268 hj (by omega) hsh (by show o<cs.size;omega)];simp only[Result.andThen];rw[Oper.upon_value];go_wp2;rw[run_callFunc_extern Tryz.func277 (by kernel_rfl) (by kernel_rfl) (by kernel_rfl) (e:=Extern.AbiNoEscape.same) (by kernel_rfl)];rw[Lib.run_noEscape];simp only[Result.andThen];rw[Oper.upon_value];go_wp2;rw[Lib.run_from_unsafe (P:=Tryz.prog) w (src:=268) (dst:=130) (u:=133) ⟨g,o,none⟩ Tryz.underlying268 Tryz.underlying130 hj hsh hl];simp only[Result.andThen];rw[Oper.upon_value];go_wp2
   go_end0
   exact⟨rfl,hu,(Below.refl B w).setCell (p:=⟨g,o,none⟩) hB _,(Lib.OthersKept.refl _ _ w).setCell ⟨g,o,none⟩ rfl _⟩
 . have c0:w.cell? ⟨g,o,none⟩=some (.pointer (some ⟨g,o,none⟩)):=by rw[Lib.cell_of_heap hb];exact h0
   have hself:cs.setIfInBounds o (.pointer (some ⟨g,o,none⟩))=cs:=by
    apply Array.ext_getElem?
    intro i;rw[Array.getElem?_setIfInBounds]
    split
    . rename_i h;subst h;rw[if_pos (by omega),h0]
    . rfl
   have neq:=Lib.run_neq_ptr_same (P:=Tryz.prog) w (tp:=130) (te:=133) ⟨g,o,none⟩ Tryz.underlying130 hj;go_enter Tryz.func236,Tryz.ntmps236;go_wp2
   go_end0
   exact⟨rfl,by rw[hself];exact⟨hB,hb,ht,hs,.inr h0,v,h1,hown⟩,Below.refl _ _,Lib.OthersKept.refl _ _ _⟩
theorem infoByte:(Tryz.prog.info? 5).map (fun i=>(i.zero,i.size,i.bytes))=some (some (.int .u8 0),1,1):=by kernel_rfl
theorem Mr.put {w1 w2:World} {B g o:Nat} {t:TypeId} {cs:Array Value} {bs bs':List UInt8} (h:Mr w1 B g o t (cs.setIfInBounds o (.pointer (some ⟨g,o,none⟩))) bs) (hos:o+1<cs.size)
 (hb2:w2.heap[g]? =some (.cells (cs.setIfInBounds o (.pointer (some ⟨g,o,none⟩))) t (0,0))) {v':Value} (hown':w2.ownsRow B 5 1 v' bs'.length (Lib.byteCells bs')):
 Mr (w2.setCell ⟨g,o+1,none⟩ v') B g o t (L6 g o cs v') bs':=by
 obtain⟨hB,_,ht,hs,h0,_⟩:=h;refine⟨hB,Cc hb2 _,ht,by simpa[L6]using hs,.inr ?_,v', ?_, ?_⟩
 . unfold L6;rw[Array.getElem?_setIfInBounds,if_neg (by omega),Array.getElem?_setIfInBounds_self_of_lt (by omega)]
 . unfold L6;rw[Array.getElem?_setIfInBounds_self_of_lt (by simpa using hs)]
 . exact hown'.kept (row:=some g) ⟨rfl,rfl,rfl,by simp[World.setCell],fun k _ hk=>Below.heap_setCell _ _ _ _ (fun e=>hk (by simp[e]))⟩ (Or.inr (Lib.ownBlock_ne hown' hb2 ht))
theorem Ha {w:World} {B:Nat} {e:TypeId} {v:Value} {n:Nat} {xs:List Value} (h:w.ownsRow B e 1 v n xs): ∀g,v.ownBlock=some g-> ∃c fz,w.heap[g]? =some (.cells c e fz):=by
 intro g hg;rcases h.2 with⟨rfl,_⟩|⟨g',cap,cur,rfl,_,hgg,_⟩
 . simp[Value.ownBlock]at hg
 . simp[Value.ownBlock]at hg;subst hg;exact⟨cur,_,hgg⟩
theorem Gc (a b:List UInt8):Lib.byteCells (a++b)=Lib.byteCells a++Lib.byteCells b:=by simp[Lib.byteCells]
theorem Ip (B g o:Nat) (t:TypeId) (cs:Array Value) (bs:List UInt8) (s:ByteArray) (w:World) (h:Mr w B g o t cs bs) (hl:liesAt Tryz.prog Tryz.prog.depth t (cs.size / Tryz.prog.cellsOf t) o 133 1=true)
 (hlen:bs.length+s.size<=140737488355328) (hBw:B<=w.heap.size):
 Calls Tryz.prog 193 #[.pointer (some ⟨g,o,none⟩),.string s] w fun e w'=>e=.returned (.tuple #[.int .i64 s.size,.nilIface])/\
  (∃v,Mr w' B g o t (L6 g o cs v) (bs++s.data.toList))/\Below B w w'/\Eo g w w':=by
 obtain⟨i0,hi,hz0,hz1,hz2⟩:=info_parts infoByte;have hos:o+1<cs.size:=h.2.2.2.1;go_enter Tryz.func193,Tryz.ntmps193;go_wp2_with (go_at_call 236;refine(Gt B g o t cs bs _ h hl).mono ?_);rintro e w1 ⟨rfl,h1,hb1,hk1⟩;have h1':=h1;obtain⟨hB,hbk,ht,hs,h0,v,hv,hown⟩:=h1;have c1:w1.cell? ⟨g,o+1,none⟩=some v:=by rw[Lib.cell_of_heap hbk];exact hv
 clear h hv h0;go_wp2_with (at_builtin;refine Lib.wpList_append_own_string _ rfl _ _ 131 9 rfl B 5 i0 Tryz.underlying131 Tryz.underlying9 hi hz0 hz1 hz2 _ _ _ rfl hown s rfl ?c3 ?c4 ?c5 ?_)
 case c3=>unfold maxLen;omega
 case c4=>omega
 case c5=>have:=hb1.size;omega
 intro v' w2 hown' hgrow _;have hne:=Lib.ownBlock_ne hown hbk ht;have hlt:g<w1.heap.size:=h1'.lt;have hb2:w2.heap[g]? =some (.cells (cs.setIfInBounds o (.pointer (some ⟨g,o,none⟩))) t (0,0)):=by
  rw[hgrow.block g hlt (fun e=>hne e.symm)];exact hbk
 have d1:w2.cell? ⟨g,o+1,none⟩=some v:=by rw[Lib.cell_of_heap hb2,<-Lib.cell_of_heap hbk];exact c1
 have f1:w2.frozen? ⟨g,o+1,none⟩=false:=Lib.frozen_of_heap hb2 _;have hk2:=hk1.grown hgrow (Ha hown);have hbw2:=hb1.grown hgrow (by have:=hb1.size;omega) (fun k hk=>(hown.lt k hk).1);obtain⟨ao,n',cap,rfl⟩: ∃ao n' cap,v'=.slice ao n' cap:=by
  rcases hown'.2 with⟨hv,_⟩|⟨g,cap,cur,hv,_⟩
  . exact⟨_,_,_,hv⟩
  . exact⟨_,_,_,hv⟩
 have hfin:=Mr.put h1' hos hb2 (bs':=bs++s.data.toList) (v':=.slice ao n' cap) (by
  rw[Gc,List.length_append];have e:s.data.toList.length=s.size:=by rw[<-Lib.size_eq]
  rw[e];exact hown')
 clear hown hown' hgrow c1 hbk hb2 h1' hb1 hk1 hne;go_wp2;go_ret2;exact⟨rfl,⟨_,hfin⟩,hbw2.setCell (p:=⟨g,o+1,none⟩) hB _,hk2.setCell ⟨g,o+1,none⟩ rfl _⟩
theorem P6 (B g o:Nat) (t:TypeId) (cs:Array Value) (bs:List UInt8) (c:Int) (hc0:0<=c) (hc1:c<256) (w:World) (h:Mr w B g o t cs bs) (hl:liesAt Tryz.prog Tryz.prog.depth t (cs.size / Tryz.prog.cellsOf t) o 133 1=true)
 (hlen:bs.length+1<=140737488355328) (hBw:B<=w.heap.size):
 Calls Tryz.prog 241 #[.pointer (some ⟨g,o,none⟩),.int .u8 c] w fun e w'=>e=.returned .nilIface/\
  (∃v,Mr w' B g o t (L6 g o cs v) (bs++ [UInt8.ofNat c.toNat]))/\Below B w w'/\Eo g w w':=by
 obtain⟨i0,hi,hz0,hz1,hz2⟩:=info_parts infoByte;have hos:o+1<cs.size:=h.2.2.2.1;go_enter Tryz.func241,Tryz.ntmps241;go_wp2_with (go_at_call 236;refine(Gt B g o t cs bs _ h hl).mono ?_);rintro e w1 ⟨rfl,h1,hb1,hk1⟩;have h1':=h1;obtain⟨hB,hbk,ht,hs,h0,v,hv,hown⟩:=h1;have c1:w1.cell? ⟨g,o+1,none⟩=some v:=by rw[Lib.cell_of_heap hbk];exact hv
 clear h hv h0;go_wp2_with (at_builtin;refine wpList_append_own _ rfl _ _ 131 rfl B 5 i0 (.int .u8 0) 1 1 Tryz.underlying131 hi hz0 hz1 hz2 rfl (by decide) _ _ _ rfl (hown.alloc _) ⟨w1.heap.size,0,none⟩ 1 1 [.int .u8 c] rfl rfl ?c1 ?c2 ?c3 ?c4 ?c5 ?_)
 case c1=>
  intro j u hj
  match j,hj with
  |0,hj=>simp at hj;subst hj;simp[Addr.add]
 case c2=>intro u hu;simp at hu;subst hu;rfl
 case c3=>unfold maxLen;omega
 case c4=>omega
 case c5=>have:=hb1.size;simp;omega
 intro v' w2 hown' hgrow _;have hne:=Lib.ownBlock_ne hown hbk ht;have hlt:g<w1.heap.size:=h1'.lt;have hb2:w2.heap[g]? =some (.cells (cs.setIfInBounds o (.pointer (some ⟨g,o,none⟩))) t (0,0)):=by
  rw[hgrow.block g (by simp;omega) (fun e=>hne e.symm),Lib.alloc_old w1 _ g hlt];exact hbk
 have d1:w2.cell? ⟨g,o+1,none⟩=some v:=by rw[Lib.cell_of_heap hb2,<-Lib.cell_of_heap hbk];exact c1
 have f1:w2.frozen? ⟨g,o+1,none⟩=false:=Lib.frozen_of_heap hb2 _;have hk2:=(hk1.alloc _).grown hgrow (Ha (hown.alloc _));have hbw2:=(hb1.alloc (by have:=hb1.size;omega) _).grown hgrow (by have:=hb1.size;simp;omega) (fun k hk=>(hown.lt k hk).1);obtain⟨ao,n',cap,rfl⟩: ∃ao n' cap,v'=.slice ao n' cap:=by
  rcases hown'.2 with⟨hv,_⟩|⟨g,cap,cur,hv,_⟩
  . exact⟨_,_,_,hv⟩
  . exact⟨_,_,_,hv⟩
 have hfin:=Mr.put h1' hos hb2 (bs':=bs++ [UInt8.ofNat c.toNat]) (v':=.slice ao n' cap) (by
  rw[Gc,List.length_append];have e:Lib.byteCells [UInt8.ofNat c.toNat]= [.int .u8 c]:=by
   simp[Lib.byteCells];omega
  rw[e];exact hown')
 clear hown hown' hgrow c1 hbk hb2 h1' hb1 hk1 hne;go_wp2;go_ret;exact⟨rfl,⟨_,hfin⟩,hbw2.setCell (p:=⟨g,o+1,none⟩) hB _,hk2.setCell ⟨g,o+1,none⟩ rfl _⟩
theorem Qg (r:Int):Lib.runeCells r=Lib.byteCells (Lib.encodeRune r):=(Lib.byteCells_encodeRune r).symm
theorem P7 (B g o:Nat) (t:TypeId) (cs:Array Value) (bs:List UInt8) (r:Int) (hr0: -2147483648<=r) (hr1:r<=2147483647) (w:World) (h:Mr w B g o t cs bs) (hl:liesAt Tryz.prog Tryz.prog.depth t (cs.size / Tryz.prog.cellsOf t) o 133 1=true)
 (hlen:bs.length+4<=140737488355328) (hBw:B<=w.heap.size):
 Calls Tryz.prog 244 #[.pointer (some ⟨g,o,none⟩),.int .i32 r] w fun e w'=>(∃k:Int,e=.returned (.tuple #[.int .i64 k,.nilIface]))/\
  (∃v,Mr w' B g o t (L6 g o cs v) (bs++Lib.encodeRune r))/\Below B w w'/\Eo g w w':=by
 have hos:o+1<cs.size:=h.2.2.2.1;go_enter Tryz.func244,Tryz.ntmps244;go_wp2_with (go_at_call 236;refine(Gt B g o t cs bs _ h hl).mono ?_);rintro e w1 ⟨rfl,h1,hb1,hk1⟩;have h1':=h1;obtain⟨hB,hbk,ht,hs,h0,v,hv,hown⟩:=h1;have c1:w1.cell? ⟨g,o+1,none⟩=some v:=by rw[Lib.cell_of_heap hbk];exact hv
 clear h hv h0;obtain⟨ao,n0,cap,rfl⟩: ∃ao n' cap,v=.slice ao n' cap:=by
  rcases hown.2 with⟨hv,_⟩|⟨g,cap,cur,hv,_⟩
  . exact⟨_,_,_,hv⟩
  . exact⟨_,_,_,hv⟩
 go_wp2_with (go_at_call 284;refine(Tryz.utf8_AppendRune_plain B _ _ _ r hr0 hr1 _ hown (by omega) (by have:=hb1.size;omega)).mono ?_);rintro e w2 ⟨v',rfl,hown',ob,hgrow⟩;have hne:=Lib.ownBlock_ne hown hbk ht;have hlt:g<w1.heap.size:=h1'.lt;have hb2:w2.heap[g]? =some (.cells (cs.setIfInBounds o (.pointer (some ⟨g,o,none⟩))) t (0,0)):=by
  rw[hgrow.block g (by simp;omega) (fun e=>hne e.symm),Lib.alloc_old w1 _ g hlt];exact hbk
 have d1:w2.cell? ⟨g,o+1,none⟩=some (.slice ao n0 cap):=by rw[Lib.cell_of_heap hb2,<-Lib.cell_of_heap hbk];exact c1
 have f1:w2.frozen? ⟨g,o+1,none⟩=false:=Lib.frozen_of_heap hb2 _;have hk2:=(hk1.alloc ob).grown hgrow (Ha (hown.alloc _));have hbw2:=(hb1.alloc (by have:=hb1.size;omega) ob).grown hgrow (by have:=hb1.size;simp;omega) (fun k hk=>(hown.lt k hk).1);obtain⟨ao',n',cap',rfl⟩: ∃ao n' cap,v'=.slice ao n' cap:=by
  rcases hown'.2 with⟨hv,_⟩|⟨g,cap,cur,hv,_⟩
  . exact⟨_,_,_,hv⟩
  . exact⟨_,_,_,hv⟩
 have hfin:=Mr.put h1' hos hb2 (bs':=bs++Lib.encodeRune r) (v':=.slice ao' n' cap') (by
  rw[Gc,List.length_append];rw[Qg]at hown';simpa[Lib.byteCells]using hown')
 have e1:(w2.setCell ⟨g,o+1,none⟩ (.slice ao' n' cap')).cell? ⟨g,o+1,none⟩=some (.slice ao' n' cap'):=World.cell?_setCell_same' _ _ _ (by rw[d1];rfl);clear hown hown' hgrow c1 hbk hb2 h1' hb1 hk1 hne;go_wp2;go_ret2;exact⟨⟨_,rfl⟩,⟨_,hfin⟩,hbw2.setCell (p:=⟨g,o+1,none⟩) hB _,hk2.setCell ⟨g,o+1,none⟩ rfl _⟩
theorem Mz (B g o:Nat) (t:TypeId) (cs:Array Value) (l:List UInt8) (w:World) (h:Mr w B g o t cs l) (hl0:l≠ []):
 Calls Tryz.prog 75 #[.pointer (some ⟨g,o,none⟩)] w fun e w'=>e=.returned (.string ⟨l.toArray⟩)/\Below B w w'/\Eo g w w':=by
 obtain⟨hB,hbk,ht,hs,h0,v,hv,hown⟩:=h;have hl1:l.length≠0:=by simpa using hl0
 obtain⟨gg,cap,cur,rfl,hbg,hg,hnc,hcm,hcs,htake⟩: ∃gg cap cur,v=.slice (some ⟨gg,0,none⟩) l.length cap/\B<=gg/\w.heap[gg]? =some (.cells cur 5 (0,0))/\l.length<=cap/\cap<=maxLen/\cur.size=cap*1/\cur.toList.take (l.length*1)=Lib.byteCells l:=by
  rcases hown.2 with⟨_,hz⟩|⟨gg,cap,cur,hv,r⟩
  . exact absurd hz hl1
  . exact⟨gg,cap,cur,hv,r⟩
 have c1:w.drew.cell? ⟨g,o+1,none⟩=some (.slice (some ⟨gg,0,none⟩) l.length cap):=by
  have:w.drew.heap[g]? =some (.cells cs t (0,0)):=hbk;rw[Lib.cell_of_heap this];exact hv
 have hSD:(Builtin.unsafeSliceData_ #[131] 201 #[.slice (some ⟨gg,0,none⟩) l.length cap]).run Tryz.prog w.drew=.ok (.pointer (some ⟨gg,0,none⟩)) w.drew:=
  Lib.run_unsafeSliceData_row _ _ _ _ _ _ (by omega)
 have hUS:(Builtin.unsafeString_ #[201,3] 9 #[.pointer (some ⟨gg,0,none⟩),.int .i64 l.length]).run Tryz.prog w.drew=.ok (.string ⟨l.toArray⟩) (w.drew.freeze ⟨gg,0,none⟩ l.length):=by
  refine Lib.run_unsafeString_row w.drew 201 3 9 5 Tryz.underlying201 (by kernel_rfl) gg cur.size (by have hg':w.drew.heap[gg]? =some (.cells cur 5 (0,0)):=hg;simp[World.shape?,hg']) l hl0 (by omega) (by unfold maxLen at hcm;omega) ?_;intro j x hx;have:=hown.cells (g:=gg) rfl j (.int .u8 x.toNat) (by simp[Lib.byteCells,hx]);exact this
 clear hv h0;go_enter Tryz.func75,Tryz.ntmps75;go_wp2;go_region
 all_goals(go_wp2;go_ret;exact⟨rfl,Lib.below_freeze (Below.drew (Below.refl B w)) (p:=⟨gg,0,none⟩) hbg _,((Lib.OthersKept.refl _ _ w).drew).freeze ⟨gg,0,none⟩ _ ⟨cur,_,hg⟩⟩)
end Go.Proofs.YtkmcjfkokoidcaaGreatDoor
namespace Go.Proofs.YtkmcjfkokoidcaaGreatDoor
open Go.RowKit
attribute [local go_sem] Oper.semAt_some
def Bk:List (Int×Int):= [(34,34),(92,92),(8,98),(9,116),(10,110),(12,102),(13,114)]
def Gv:List (Int×Int)->Nat->List MapEntry
 | [],_=> []
 |(k,v)::r,i=>{key:=.int .i32 k,val:=.int .i32 v,born:=i}::Gv r (i+1)
def F9 (w:World) (kv:List (Int×Int)):World:=w.alloc (.map (Gv kv 0).toArray kv.length)
def Dc (a:Int):List (Int×Int)->Option Int
 | []=>none
 |(k,v)::r=>if a=k then some v else Dc a r
theorem Jv (a:Int): ∀(kv:List (Int×Int)) (i j:Nat),∃q,Instr.findNow (.int .i32) (.int .i32 a) (Gv kv i) j=some q/\q.map (·.2)=(Dc a kv).map (Value.int .i32)
 | [],_,_=>⟨none,rfl,rfl⟩
 |(k,v)::r,i,j=>by
  by_cases h:a=k
  . subst h;exact⟨some (j,.int .i32 v),by simp[Gv,Instr.findNow,Instr.sameNow],by simp[Dc]⟩
  . obtain⟨q,h1,h2⟩:=Jv a r (i+1) (j+1);refine⟨q, ?_,by rw[h2];simp[Dc,h]⟩;have:(a==k)=false:=by simpa using h
    simp[Gv,Instr.findNow,Instr.sameNow,this,h1]
theorem O9: ∀(kv:List (Int×Int)) (i:Nat) (k v:Int),Gv (kv++ [(k,v)]) i=Gv kv i++ [{key:=.int .i32 k,val:=.int .i32 v,born:=i+kv.length}]
 | [],i,k,v=>by simp[Gv]
 |(a,b)::r,i,k,v=>by
  simp only[List.cons_append,Gv,O9 r,List.length_cons];rw[show i+1+r.length=i+(r.length+1)from by omega]
theorem Abr (w:World) (x y:Obj):(w.alloc x).heap.setIfInBounds w.heap.size y=(w.alloc y).heap:=by
 show(w.heap.push x).setIfInBounds w.heap.size y=w.heap.push y;apply Array.ext
 . simp
 . intro i h1 h2;rw[Array.getElem_setIfInBounds (by simpa using h1)];rw[Array.getElem_push,Array.getElem_push];by_cases hi:w.heap.size=i
   . subst hi;simp
   . rw[if_neg hi];have:i<w.heap.size:=by simp at h1;omega
     simp[this]
theorem Ac0 (e:Bool) (k:Int) (n:Nat) (w:World):(Instr.checkKey e (n+1) 21 (.int .i32 k)).run Tryz.prog w=.ok () w:=by
 simp[Instr.checkKey,run_underlying Tryz.underlying21]
theorem Pr (e:Bool) (k:Int) (w:World):(Instr.checkKey e 10000 21 (.int .i32 k)).run Tryz.prog w=.ok () w:=Ac0 e k 9999 w
theorem Cd (w:World) (kv:List (Int×Int)) (k v:Int) (h:Dc k kv=none):
 (Instr.mapUpdate 296 (.map (some w.heap.size)) (.int .i32 k) (.int .i32 v)).run Tryz.prog (F9 w kv)=.ok () (F9 w (kv++ [(k,v)])):=by
 have hb:(F9 w kv).heap[w.heap.size]? =some (.map (Gv kv 0).toArray kv.length):=heap_alloc_new _ _;obtain⟨q,h1,h2⟩:=Jv k kv 0 0;rw[h]at h2;have hq:q=none:=by cases q<;>simp_all
 subst hq;have hck:=Pr false k (F9 w kv);have hfk:(Instr.findKey 21 (.int .i32 k) (Gv kv 0)).run Tryz.prog (F9 w kv)=.ok none (F9 w kv):=by
  simp[Instr.findKey,Sem.run_bind,run_underlying Tryz.underlying21,h1]
 unfold Instr.mapUpdate;simp only[Sem.run_bind,run_underlying Tryz.underlying296,Result.andThen,getObj,Sem.run,hb,hck,hfk,setObj];simp only[F9,O9,List.length_append,List.length_cons,List.length_nil,Nat.zero_add];rw[Abr,List.push_toArray];rfl
theorem R4 (w:World) (b:Nat) (kv:List (Int×Int)) (k:Int) (hb:w.heap[b]? =some (.map (Gv kv 0).toArray kv.length)):
 (Instr.lookup 296 (.map (some b)) (.int .i32 k) true).run Tryz.prog w=.ok (.tuple #[.int .i32 ((Dc k kv).getD 0),.bool (Dc k kv).isSome]) w:=by
 obtain⟨q,h1,h2⟩:=Jv k kv 0 0;have hck:=fun e=>Pr e k w;have hfk:(Instr.findKey 21 (.int .i32 k) (Gv kv 0)).run Tryz.prog w=.ok q w:=by
  simp[Instr.findKey,Sem.run_bind,run_underlying Tryz.underlying21,h1]
 unfold Instr.lookup;simp only[Sem.run_bind,run_underlying Tryz.underlying296,Result.andThen,getObj,Sem.run,hb]
 cases q with
 |none=>
  have:Dc k kv=none:=by cases hq:Dc k kv<;>simp_all
  rw[this];have hz:(zeroValue 21).run Tryz.prog w=.ok (.int .i32 0) w:=Tryz.zeroValue21 w;simp[hck,hfk,hz,Result.andThen]
 |some p=>
  obtain⟨i,v⟩:=p;obtain⟨u,hu⟩: ∃u,Dc k kv=some u:=by cases hq:Dc k kv<;>simp_all
  rw[hu]at h2 ⊢;simp at h2;subst h2;simp[hck,hfk]
theorem Sg (w:World):
 Calls Tryz.prog 245 #[] w fun e w'=>e=.returned (.map (some w.heap.size))/\F9 w Bk=w':=by
 have hmm:(Instr.makeMap 296 none).run Tryz.prog w=.ok (.map (some w.heap.size)) (F9 w []):=run_makeMap _ w;have u1:=Cd w [] 34 34 rfl;have u2:=Cd w [(34,34)] 92 92 rfl;have u3:=Cd w [(34,34),(92,92)] 8 98 rfl;have u4:=Cd w [(34,34),(92,92),(8,98)] 9 116 rfl;have u5:=Cd w [(34,34),(92,92),(8,98),(9,116)] 10 110 rfl;have u6:=Cd w [(34,34),(92,92),(8,98),(9,116),(10,110)] 12 102 rfl;have u7:=Cd w [(34,34),(92,92),(8,98),(9,116),(10,110),(12,102)] 13 114 rfl;simp only[List.nil_append,List.cons_append]at u1 u2 u3 u4 u5 u6 u7;go_enter Tryz.func245,Tryz.ntmps245;go_wp2;go_ret;exact⟨rfl,rfl⟩
attribute [local go_sem] Oper.semAt_some
def Jw (n:Nat):UInt8:=if n<10 then UInt8.ofNat (48+n)else UInt8.ofNat (87+n)
def B6 (r:Nat):List UInt8:=
 if 32<=r/\r≠34/\r≠92 then Lib.encodeRune r
 else match Dc r Bk with
  |some c=> [92,UInt8.ofNat c.toNat]
  |none=> [92,117,48,48,Jw (r / 16),Jw (r % 16)]
def Ap (l:List (Nat×Nat)):List UInt8:=l.flatMap fun x=>B6 x.2
theorem Qh (r:Int) (w:World):Calls Tryz.prog 243 #[.int .i32 r] w fun e w'=>e=.returned (.bool (decide (32<=r/\r≠34/\r≠92)))/\w=w':=by
 go_enter Tryz.func243,Tryz.ntmps243;go_wp2
 all_goals go_ret
 all_goals refine⟨X9 ?_,rfl⟩
 all_goals first|(simp_all;done)|(simp_all;omega)|(rw[Bool.eq_iff_iff];simp_all)
theorem Cq {r:Int} {B:Bool} (h:decide (32<=r/\r≠34/\r≠92)=B) (w:World):Calls Tryz.prog 243 #[.int .i32 r] w fun e w'=>e=.returned (.bool B)/\w=w':=by
 subst h;exact Qh _ _
theorem Kp (w:World):
 Calls Tryz.prog 245 #[] w fun e w'=>e=.returned (.map (some w.heap.size))/\w.alloc (.map (Gv Bk 0).toArray Bk.length)=w':=Sg w
def Aax (W:World) (lb D:Nat) (m:Option Nat):Prop:=
 W.heap[lb]? =some (.cells #[.map m] 296 (0,0))/\ ∀mb,m=some mb->D+1<mb/\W.heap[mb]? =some (.map (Gv Bk 0).toArray Bk.length)
theorem Aew:liesAt Tryz.prog Tryz.prog.depth 133 (2 / Tryz.prog.cellsOf 133) 0 133 1=true:=by kernel_rfl
def BB (w:World) (B g:Nat) (bs:List UInt8):Prop:= ∃p v,Mr w B g 0 133 #[p,v] bs
theorem Mr.keep {A W:World} {B g o:Nat} {t:TypeId} {cs:Array Value} {bs:List UInt8} (h:Mr A B g o t cs bs) {row:Option Nat} (hg:A.grownBy W row) (hr: ∀k,row=some k-> ∃ob:Obj,A.heap[k]? =some ob/\ob.isCells=false):Mr W B g o t cs bs:=by
 obtain⟨hB,hb,ht,hs,h0,v,h1,hown⟩:=h;refine⟨hB,(grownBy_keeps_cells hg hr hb rfl).trans hb,ht,hs,h0,v,h1,hown.kept hg ?_⟩
 cases hv:v.ownBlock with
 |none=>exact .inl rfl
 |some k=>
  refine .inr fun e=> ?_;obtain⟨ob,ho,hc⟩:=hr k e.symm;obtain⟨c,fz,hk⟩:=Ha hown k hv;rw[hk]at ho
  cases ho
  cases hc
theorem Iq {A W:World} (h:Below A.heap.size A W):A.grownBy W none:=⟨h.os,h.tape,h.output,h.size,fun i hi _=>h.block i hi⟩
theorem BB.below {A W:World} {B g:Nat} {bs:List UInt8} (h:BB A B g bs) (hb:Below A.heap.size A W):BB W B g bs:=by
 obtain⟨p,v,h⟩:=h;exact⟨p,v,h.keep (Iq hb) (fun k e=>by cases e)⟩
theorem BB.put {A:World} {B g k:Nat} {bs:List UInt8} {o o':Obj} (h:BB A B g bs) (ho:A.heap[k]? =some o) (hc:o.isCells=false):BB (A.putObj k o') B g bs:=by
 obtain⟨p,v,h⟩:=h;exact⟨p,v,h.keep (grownBy_putObj' A k o') (fun j e=>by cases e;exact⟨o,ho,hc⟩)⟩
theorem BB.lt {A:World} {B g:Nat} {bs:List UInt8} (h:BB A B g bs):g<A.heap.size:=by
 obtain⟨p,v,h⟩:=h;exact h.lt
theorem BB.base {A:World} {B g:Nat} {bs:List UInt8} (h:BB A B g bs):B<=g:=by
 obtain⟨p,v,h⟩:=h;exact h.1
theorem BB.store {A:World} {B g k:Nat} {bs:List UInt8} {cs:Array Value} {t:TypeId} (h:BB A B g bs) (hk:A.heap[k]? =some (.cells cs t (0,0))) (ht:t≠5) (hne:k≠g) (i:Nat) (u:Value):BB (A.setCell ⟨k,i,none⟩ u) B g bs:=by
 obtain⟨p,v,hB,hb,ht',hs,h0,v',h1,hown⟩:=h;refine⟨p,v,hB,(Below.heap_setCell _ _ _ _ (fun e=>hne e.symm)).trans hb,ht',hs,h0,v',h1, ?_⟩;exact hown.kept (row:=some k) ⟨rfl,rfl,rfl,by simp[World.setCell],fun j _ hj=>Below.heap_setCell _ _ _ _ (fun e=>hj (by simp[e]))⟩ (Or.inr (Lib.ownBlock_ne hown hk ht))
theorem Fx {B g:Nat} {bs:List UInt8} (c:Int) (hc0:0<=c) (hc1:c<256) {w:World} (h:BB w B g bs) (hlen:bs.length<=100000000000):
 Calls Tryz.prog 241 #[.pointer (some ⟨g,0,none⟩),.int .u8 c] w fun e w'=>e=.returned .nilIface/\BB w' B g (bs++ [UInt8.ofNat c.toNat])/\Below B w w'/\Eo g w w':=by
 obtain⟨p,v,h⟩:=h;refine(P6 B g 0 _ _ bs c hc0 hc1 w h Aew (by omega) (by have:=h.lt;have:=h.1;omega)).mono ?_;rintro e w' ⟨rfl,⟨v',h'⟩,hb,hk⟩;exact⟨rfl,⟨_,v',h'⟩,hb,hk⟩
theorem K5 {B g:Nat} {bs:List UInt8} (u:UInt8) {w:World} (h:BB w B g bs) (hlen:bs.length<=100000000000):
 Calls Tryz.prog 241 #[.pointer (some ⟨g,0,none⟩),.int .u8 u.toNat] w fun e w'=>e=.returned .nilIface/\BB w' B g (bs++ [u])/\Below B w w'/\Eo g w w':=by
 have hu:=u.toNat_lt;have h1:=Fx (u.toNat:Int) (by omega) (by omega) h hlen;have e:UInt8.ofNat (Int.toNat (u.toNat:Int))=u:=by rw[Int.toNat_natCast];simp
 rwa [e]at h1
theorem Qp: ∀n:Fin 16,(⟨#[48,49,50,51,52,53,54,55,56,57,97,98,99,100,101,102]⟩:ByteArray)[n.val]'(by simp[ByteArray.size])=Jw n.val:=by decide
theorem Agm: ∀n:Fin 32,bits .and .i32 ((n.val:Nat):Int) 15=((n.val:Nat):Int) % 16:=by decide
theorem G6 {B g:Nat} {bs:List UInt8} (r:Int) (hr0:0<=r) (hr1:r<=2147483647) {w:World} (h:BB w B g bs) (hlen:bs.length<=100000000000):
 Calls Tryz.prog 244 #[.pointer (some ⟨g,0,none⟩),.int .i32 r] w fun e w'=>(∃k:Int,e=.returned (.tuple #[.int .i64 k,.nilIface]))/\BB w' B g (bs++Lib.encodeRune r)/\Below B w w'/\Eo g w w':=by
 obtain⟨p,v,h⟩:=h;refine(P7 B g 0 _ _ bs r (by omega) hr1 w h Aew (by omega) (by have:=h.lt;have:=h.1;omega)).mono ?_;rintro e w' ⟨hk0,⟨v',h'⟩,hb,hk⟩;exact⟨hk0,⟨_,v',h'⟩,hb,hk⟩
theorem H8 {B g:Nat} {bs:List UInt8} (s:ByteArray) {w:World} (h:BB w B g bs) (hlen:bs.length+s.size<=100000000000):
 Calls Tryz.prog 193 #[.pointer (some ⟨g,0,none⟩),.string s] w fun e w'=>e=.returned (.tuple #[.int .i64 s.size,.nilIface])/\BB w' B g (bs++s.data.toList)/\Below B w w'/\Eo g w w':=by
 obtain⟨p,v,h⟩:=h;refine(Ip B g 0 _ _ bs s w h Aew (by omega) (by have:=h.lt;have:=h.1;omega)).mono ?_;rintro e w' ⟨rfl,⟨v',h'⟩,hb,hk⟩;exact⟨rfl,⟨_,v',h'⟩,hb,hk⟩
theorem Abs {B g:Nat} {bs:List UInt8} {w:World} (h:BB w B g bs) (h0:bs≠ []):
 Calls Tryz.prog 75 #[.pointer (some ⟨g,0,none⟩)] w fun e w'=>e=.returned (.string ⟨bs.toArray⟩)/\Below B w w'/\Eo g w w':=by
 obtain⟨p,v,h⟩:=h;exact Mz B g 0 _ _ bs w h h0
theorem Ly {a c:Int} (h:Dc a Bk=some c):34<=c/\c<128:=by
 simp only[Bk,Dc]at h
 repeat' split at h
 all_goals first|(cases h;done)|(simp at h;omega)
theorem Na {c:Int} (h0:0<=c) (h1:c<128):Lib.encodeRune c= [UInt8.ofNat c.toNat]:=by
 unfold Lib.encodeRune;rw[Lib.encodeRuneZ_one h0 (by omega)];rfl
theorem Ni {r:Nat} (h:Dc r Bk=none) (h2: ¬(32<=r/\r≠34/\r≠92)):r<32:=by
 simp only[Bk,Dc]at h
 repeat' split at h
 all_goals first|(cases h;done)|omega
theorem Sk (r:Nat):(B6 r).length<=6:=by
 unfold B6
 split
 . unfold Lib.encodeRune Lib.encodeRuneZ
   repeat' split
   all_goals simp
 . split<;>simp
theorem F4 (l:List (Nat×Nat)):(Ap l).length<=6*l.length:=by
 unfold Ap
 induction l with
 |nil=>simp
 |cons x r ih=>simp only[List.flatMap_cons,List.length_append,List.length_cons];have:=Sk x.2;omega
theorem Fd: ∀(n:Nat) (l:List UInt8) (p:Nat),(As n l p).length<=n
 |0,_,_=>by simp[As]
 |n+1,l,p=>by
  simp only[As]
  split
  . simp
  . split
    . simp
    . simp only[List.length_cons];have:=Fd n (l.drop (Lib.decodeL l).2) (p+(Lib.decodeL l).2);omega
theorem Ns: ∀(n:Nat) (l:List UInt8) (p:Nat),∀x ∈ As n l p,x.2<=1114111
 |0,_,_,x,h=>by simp[As]at h
 |n+1,l,p,x,h=>by
  simp only[As]at h
  split at h
  . simp at h
  . split at h
    . simp at h
    . rcases List.mem_cons.1 h with rfl|h
      . exact Lib.decodeL_rune l
      . exact Ns n _ _ x h
end Go.Proofs.YtkmcjfkokoidcaaGreatDoor
