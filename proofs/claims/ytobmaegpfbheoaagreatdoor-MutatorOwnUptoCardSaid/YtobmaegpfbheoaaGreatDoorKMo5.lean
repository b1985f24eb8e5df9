/- Parts: utf.Quote: the walk. Condition: a text shorter than 10^9. -/
import Derived.Lib.MapLaws
import Derived.Lib.TrimUEq
import Derived.LoopIn
import Derived.LoopNIn
import Derived.Lib.OthersKept
import Derived.Lib.FrozenHead2
import Derived.Shelf.Strings.BuilderK
import Derived.Test.YtobmaegpfbheoaaGreatDoorKMo2
import Derived.Test.YtobmaegpfbheoaaGreatDoorKMo3
set_option maxHeartbeats 20000000
set_option maxRecDepth 100000
namespace Go.Proofs.YtobmaegpfbheoaaGreatDoor
open Go.RowKit
attribute [local go_sem] Oper.semAt_some
def A9:Nat->List UInt8->Nat->List (Nat×Nat)
 |0,_,_=> []
 |n+1,l,p=>if l= []then []else if(Lib.decodeL l).1=65533/\(Lib.decodeL l).2=1 then []else(p,(Lib.decodeL l).1)::A9 n (l.drop (Lib.decodeL l).2) (p+(Lib.decodeL l).2)
def Cr (s:ByteArray):List (Nat×Nat):=A9 s.size s.data.toList 0
theorem Qm (s:ByteArray) (k:Nat) (h:k<s.size):(if(s.extract k s.size).size=0 then(65533,0)else Utf8.decode (s.extract k s.size) 0)=Lib.decodeL (s.data.toList.drop k):=by
 have e:(s.extract k s.size)=⟨(s.data.toList.drop k).toArray⟩:=by
  apply ByteArray.ext;apply Array.ext';rw[Lib.extract_data];dsimp only;rw[List.take_of_length_le (by rw[List.length_drop,<-Lib.size_eq];omega)]
 rw[if_neg (by rw[ByteArray.size_extract];omega),e];rfl
theorem Qj (s:ByteArray) (w:World):
 Calls Tryz.prog 202 #[.string s] w fun e w'=>e=.returned (.func (.func 228) #[] #[.pointer (some ⟨w.heap.size,0,none⟩)])/\w.alloc (.cells #[.string s] 9)=w':=by
 go_enter Tryz.func202,Tryz.ntmps202;go_wp2;go_ret;exact⟨rfl,rfl⟩
theorem Xc (s:ByteArray) (b:Nat) (hs:s.size<=1000000000):
 Afe Tryz.prog 228 #[.pointer (some ⟨b,0,none⟩)] (fun x:Nat×Nat=> #[.int .i64 x.1,.int .i32 x.2]) (Cr s) (fun A=>A.cell? ⟨b,0,none⟩=some (.string s)/\Cl A):=by
 intro n l J W hJn hJb hY h0;refine callsIn_of_wp Tryz.func228 rfl trivial ?_ rfl;simp only[Tryz.ntmps228,List.size_toArray,List.length_cons,List.length_nil,Nat.reduceAdd,Nat.reduceSub,Array.replicate_succ,Array.replicate_zero,List.push_toArray,List.append_toArray,List.nil_append,List.cons_append]
 gi_wp2
 gi_loopw [3] (fun i wr=> ∃(pre:List (Nat×Nat)) (f k:Nat),i=.int .i64 k/\k<=s.size/\s.size - k<=f/\Hid (Cr s=pre++A9 f (s.data.toList.drop k) k)/\J pre wr) (fun i _=>s.size - (intOf i).toNat)
 case atStart=>exact⟨[],s.size,0,rfl,Nat.zero_le _,by omega,rfl,h0⟩
 case round=>
  obtain⟨pre,f,k,rfl,hk,hf,hr,hJ⟩:=hrel;have hcr:wr.cell? ⟨b,0,none⟩=some (.string s):=(hJb _ _ hJ).1;have hTr:Cl wr:=(hJb _ _ hJ).2;by_cases hlt:k<s.size
  . have hne:s.data.toList.drop k≠ []:=by
     intro e;have:=congrArg List.length e;rw[List.length_drop,<-Lib.size_eq]at this;simp at this;omega
    obtain⟨f,rfl⟩: ∃f',f=f'+1:=⟨f - 1,by omega⟩;have cD:=Tryz.utf8_DecodeRuneInString (s.extract k s.size) wr hTr.2.1;have hdc:Lib.decodeGo (s.extract k s.size)=Lib.decodeL (s.data.toList.drop k):=Qm s k hlt;have hw1:=Lib.decodeL_width (s.data.toList.drop k);have hw2:=Lib.decodeL_le _ hne;have hw3:=Lib.decodeL_rune (s.data.toList.drop k);rw[List.length_drop,<-Lib.size_eq]at hw2;have hr':=hr.out;simp only[A9]at hr';rw[if_neg hne,List.drop_drop]at hr';rw[hdc]at cD;generalize Lib.decodeL (s.data.toList.drop k)=D at cD hw1 hw2 hw3 hr';obtain⟨r,z⟩:=D;simp only at cD hw1 hw2 hw3 hr';have CD:=qz cD;clear cD hdc hne hr;by_cases hbad:r=65533/\z=1
    . rw[if_pos hbad,List.append_nil]at hr';have Hr:=qz hr';obtain⟨hr1,hz1⟩:=hbad;have e1:((r:Int)==65533)=true:=by simp;omega
      have e2:((z:Int)==1)=true:=by simp;omega
      clear hr' hr1 hz1
      gi_wp2_with (refine⟨trivial, ?_⟩;gi_at_call 229;refine(callsIn_wide.2 CD.out).mono ?_;rintro e w2 ⟨rfl,hb2⟩;have hJ2:=hJn _ _ _ hJ hb2)
      refine bodyPost_ret (results_none rfl _ _ _) rfl ?_;exact⟨⟨_,rfl⟩,by rw[Hr.out];exact hJ2⟩
    . rw[if_neg hbad]at hr';have Hr:=qz hr';have Hr2:Hid (Cr s=(pre++ [(k,r)])++A9 f (s.data.toList.drop (k+z)) (k+z)):=by
       show Cr s=_;rw[hr'];simp
      clear hr';rcases(by omega:r≠65533\/(r=65533/\z≠1))with h1|⟨h1,h2⟩
      . have e1:((r:Int)==65533)=false:=by simp;omega
        clear h1 hbad
        gi_wp2_with (refine⟨trivial, ?_⟩;gi_at_call 229;refine(callsIn_wide.2 CD.out).mono ?_;rintro e w2 ⟨rfl,hb2⟩;obtain⟨fn,tmps,assign,body,hy,hR⟩:=hY pre (k,r) _ w2 Hr.out (hJn _ _ _ hJ hb2);dsimp only at hy)
        refine hR.mono ?_;rintro e W3 ⟨rfl,hJ3⟩;clear hy hR
        gi_wp2
        go_roundw
        case rel=>exact⟨pre++ [(k,r)],f,k+z,by go_num,by omega,by omega,Hr2,hJ3⟩
        case measure=>simp[intOf];omega
      . have e1:((r:Int)==65533)=true:=by simp;omega
        have e2:((z:Int)==1)=false:=by simp;omega
        clear h1 h2 hbad
        gi_wp2_with (refine⟨trivial, ?_⟩;gi_at_call 229;refine(callsIn_wide.2 CD.out).mono ?_;rintro e w2 ⟨rfl,hb2⟩;obtain⟨fn,tmps,assign,body,hy,hR⟩:=hY pre (k,r) _ w2 Hr.out (hJn _ _ _ hJ hb2);dsimp only at hy)
        refine hR.mono ?_;rintro e W3 ⟨rfl,hJ3⟩;clear hy hR
        gi_wp2
        go_roundw
        case rel=>exact⟨pre++ [(k,r)],f,k+z,by go_num,by omega,by omega,Hr2,hJ3⟩
        case measure=>simp[intOf];omega
  . obtain rfl:k=s.size:=by omega
    have hr':=hr.out;rw[List.drop_eq_nil_of_le (by rw[<-Lib.size_eq];omega)]at hr';have hz:A9 f [] s.size= []:=by cases f<;>simp[A9]
    rw[hz,List.append_nil]at hr';have Hr:=qz hr';clear hr hr'
    gi_wp2
    go_end0
    exact⟨⟨_,rfl⟩,by rw[Hr.out];exact hJ⟩
end Go.Proofs.YtobmaegpfbheoaaGreatDoor
namespace Go.Proofs.YtobmaegpfbheoaaGreatDoor
open Go.RowKit Go.Shelf
def Om (w:World) (B g o:Nat) (t:TypeId) (cs:Array Value) (bs:List UInt8):Prop:=
 B<=g/\w.heap[g]? =some (.cells cs t (0,0))/\t≠5/\o+1<cs.size/\(cs[o]? =some (.pointer none)\/cs[o]? =some (.pointer (some ⟨g,o,none⟩)))/\
  ∃v,cs[o+1]? =some v/\w.ownsRow B 5 1 v bs.length (Lib.byteCells bs)
def N5 (g o:Nat) (cs:Array Value) (v:Value):Array Value:=(cs.setIfInBounds o (.pointer (some ⟨g,o,none⟩))).setIfInBounds (o+1) v
theorem Om.lt {w:World} {B g o:Nat} {t:TypeId} {cs:Array Value} {bs:List UInt8} (h:Om w B g o t cs bs):g<w.heap.size:=by
 rcases Nat.lt_or_ge g w.heap.size with h'|h'
 . exact h'
 . have:=h.2.1;simp[Array.getElem?_eq_none h']at this
abbrev Fu (g:Nat) (w w':World):Prop:=Lib.OthersKept 5 (some g) w w'
theorem J2 {w:World} {g i:Nat} {cs:Array Value} {t:TypeId} (h:w.heap[g]? =some (.cells cs t (0,0))) (u:Value):(w.setCell ⟨g,i,none⟩ u).heap[g]? =some (.cells (cs.setIfInBounds i u) t (0,0)):=by
 simp[World.setCell,Array.getElem?_modify,h]
theorem Om.used {w:World} {B g o:Nat} {t:TypeId} {cs:Array Value} {bs:List UInt8} (h:Om w B g o t cs bs):
 Om (w.setCell ⟨g,o,none⟩ (.pointer (some ⟨g,o,none⟩))) B g o t (cs.setIfInBounds o (.pointer (some ⟨g,o,none⟩))) bs:=by
 obtain⟨hB,hb,ht,hs,h0,v,h1,hown⟩:=h;refine⟨hB,J2 hb _,ht,by simpa using hs,.inr (by rw[Array.getElem?_setIfInBounds_self_of_lt (by omega)]),v,by rw[Array.getElem?_setIfInBounds,if_neg (by omega)];exact h1, ?_⟩;exact hown.kept (row:=some g) ⟨rfl,rfl,rfl,by simp[World.setCell],fun k _ hk=>Below.heap_setCell _ _ _ _ (fun e=>hk (by simp[e]))⟩ (Or.inr (Lib.ownBlock_ne hown hb ht))
theorem Jn (B g o:Nat) (t:TypeId) (cs:Array Value) (bs:List UInt8) (w:World) (h:Om w B g o t cs bs) (hl:liesAt Tryz.prog Tryz.prog.depth t (cs.size / Tryz.prog.cellsOf t) o 98 1=true):
 Calls Tryz.prog 196 #[.pointer (some ⟨g,o,none⟩)] w fun e w'=>e=.returned (.tuple #[])/\Om w' B g o t (cs.setIfInBounds o (.pointer (some ⟨g,o,none⟩))) bs/\Below B w w'/\Fu g w w':=by
 have hu:=h.used;obtain⟨hB,hb,ht,hs,h0,v,h1,hown⟩:=h;obtain⟨j,hj,hj2⟩: ∃j,Tryz.prog.info? 98=some j/\j.size=2:=by
  have:(Tryz.prog.info? 98).map (·.size)=some 2:=by kernel_rfl
  cases hq:Tryz.prog.info? 98 with
  |none=>simp[hq]at this
  |some j=>exact⟨j,rfl,by simpa[hq]using this⟩
 have hsh:w.shape? g=some (t,cs.size):=by simp[World.shape?,hb]
 rcases h0 with h0|h0
 . have c0:w.cell? ⟨g,o,none⟩=some (.pointer none):=by rw[Lib.cell_of_heap hb];exact h0
   have f0:w.frozen? ⟨g,o,none⟩=false:=Lib.frozen_of_heap hb o;go_enter Tryz.func196,Tryz.ntmps196;go_wp2;rw[Lib.run_to_unsafe (P:=Tryz.prog) w (src:=96) (dst:=191) (t:=98) ⟨g,o,none⟩ Tryz.underlying96 Tryz.underlying191 hj (by omega) hsh (by show o<cs.size;omega)];simp only[Result.andThen];rw[Oper.upon_value];go_wp2;rw[run_callFunc_extern Tryz.func223 (by kernel_rfl) (by kernel_rfl) (by kernel_rfl) (e:=Extern.AbiNoEscape.same) (by kernel_rfl)];rw[Lib.run_noEscape];simp only[Result.andThen];rw[Oper.upon_value];go_wp2;rw[Lib.run_from_unsafe (P:=Tryz.prog) w (src:=191) (dst:=96) (u:=98) ⟨g,o,none⟩ Tryz.underlying191 Tryz.underlying96 hj hsh hl];simp only[Result.andThen];rw[Oper.upon_value];go_wp2
   go_end0
   exact⟨rfl,hu,(Below.refl B w).setCell (p:=⟨g,o,none⟩) hB _,(Lib.OthersKept.refl _ _ w).setCell ⟨g,o,none⟩ rfl _⟩
 . have c0:w.cell? ⟨g,o,none⟩=some (.pointer (some ⟨g,o,none⟩)):=by rw[Lib.cell_of_heap hb];exact h0
   have hself:cs.setIfInBounds o (.pointer (some ⟨g,o,none⟩))=cs:=by
    apply Array.ext_getElem?
    intro i;rw[Array.getElem?_setIfInBounds]
    split
    . rename_i h;subst h;rw[if_pos (by omega),h0]
    . rfl
   have neq:=Lib.run_neq_ptr_same (P:=Tryz.prog) w (tp:=96) (te:=98) ⟨g,o,none⟩ Tryz.underlying96 hj;go_enter Tryz.func196,Tryz.ntmps196;go_wp2
   go_end0
   exact⟨rfl,by rw[hself];exact⟨hB,hb,ht,hs,.inr h0,v,h1,hown⟩,Below.refl _ _,Lib.OthersKept.refl _ _ _⟩
theorem infoByte:(Tryz.prog.info? 5).map (fun i=>(i.zero,i.size,i.bytes))=some (some (.int .u8 0),1,1):=by kernel_rfl
theorem Om.put {w1 w2:World} {B g o:Nat} {t:TypeId} {cs:Array Value} {bs bs':List UInt8} (h:Om w1 B g o t (cs.setIfInBounds o (.pointer (some ⟨g,o,none⟩))) bs) (hos:o+1<cs.size)
 (hb2:w2.heap[g]? =some (.cells (cs.setIfInBounds o (.pointer (some ⟨g,o,none⟩))) t (0,0))) {v':Value} (hown':w2.ownsRow B 5 1 v' bs'.length (Lib.byteCells bs')):
 Om (w2.setCell ⟨g,o+1,none⟩ v') B g o t (N5 g o cs v') bs':=by
 obtain⟨hB,_,ht,hs,h0,_⟩:=h;refine⟨hB,J2 hb2 _,ht,by simpa[N5]using hs,.inr ?_,v', ?_, ?_⟩
 . unfold N5;rw[Array.getElem?_setIfInBounds,if_neg (by omega),Array.getElem?_setIfInBounds_self_of_lt (by omega)]
 . unfold N5;rw[Array.getElem?_setIfInBounds_self_of_lt (by simpa using hs)]
 . exact hown'.kept (row:=some g) ⟨rfl,rfl,rfl,by simp[World.setCell],fun k _ hk=>Below.heap_setCell _ _ _ _ (fun e=>hk (by simp[e]))⟩ (Or.inr (Lib.ownBlock_ne hown' hb2 ht))
theorem J1 {w:World} {B:Nat} {e:TypeId} {v:Value} {n:Nat} {xs:List Value} (h:w.ownsRow B e 1 v n xs): ∀g,v.ownBlock=some g-> ∃c fz,w.heap[g]? =some (.cells c e fz):=by
 intro g hg;rcases h.2 with⟨rfl,_⟩|⟨g',cap,cur,rfl,_,hgg,_⟩
 . simp[Value.ownBlock]at hg
 . simp[Value.ownBlock]at hg;subst hg;exact⟨cur,_,hgg⟩
theorem Ip (a b:List UInt8):Lib.byteCells (a++b)=Lib.byteCells a++Lib.byteCells b:=by simp[Lib.byteCells]
theorem Kh (B g o:Nat) (t:TypeId) (cs:Array Value) (bs:List UInt8) (s:ByteArray) (w:World) (h:Om w B g o t cs bs) (hl:liesAt Tryz.prog Tryz.prog.depth t (cs.size / Tryz.prog.cellsOf t) o 98 1=true)
 (hlen:bs.length+s.size<=140737488355328) (hBw:B<=w.heap.size):
 Calls Tryz.prog 151 #[.pointer (some ⟨g,o,none⟩),.string s] w fun e w'=>e=.returned (.tuple #[.int .i64 s.size,.nilIface])/\
  (∃v,Om w' B g o t (N5 g o cs v) (bs++s.data.toList))/\Below B w w'/\Fu g w w':=by
 obtain⟨i0,hi,hz0,hz1,hz2⟩:=info_parts infoByte;have hos:o+1<cs.size:=h.2.2.2.1;go_enter Tryz.func151,Tryz.ntmps151;go_wp2_with (go_at_call 196;refine(Jn B g o t cs bs _ h hl).mono ?_);rintro e w1 ⟨rfl,h1,hb1,hk1⟩;have h1':=h1;obtain⟨hB,hbk,ht,hs,h0,v,hv,hown⟩:=h1;have c1:w1.cell? ⟨g,o+1,none⟩=some v:=by rw[Lib.cell_of_heap hbk];exact hv
 clear h hv h0;go_wp2_with (at_builtin;refine Lib.wpList_append_own_string _ rfl _ _ 26 9 rfl B 5 i0 Tryz.underlying26 Tryz.underlying9 hi hz0 hz1 hz2 _ _ _ rfl hown s rfl ?c3 ?c4 ?c5 ?_)
 case c3=>unfold maxLen;omega
 case c4=>omega
 case c5=>have:=hb1.size;omega
 intro v' w2 hown' hgrow _;have hne:=Lib.ownBlock_ne hown hbk ht;have hlt:g<w1.heap.size:=h1'.lt;have hb2:w2.heap[g]? =some (.cells (cs.setIfInBounds o (.pointer (some ⟨g,o,none⟩))) t (0,0)):=by
  rw[hgrow.block g hlt (fun e=>hne e.symm)];exact hbk
 have d1:w2.cell? ⟨g,o+1,none⟩=some v:=by rw[Lib.cell_of_heap hb2,<-Lib.cell_of_heap hbk];exact c1
 have f1:w2.frozen? ⟨g,o+1,none⟩=false:=Lib.frozen_of_heap hb2 _;have hk2:=hk1.grown hgrow (J1 hown);have hbw2:=hb1.grown hgrow (by have:=hb1.size;omega) (fun k hk=>(hown.lt k hk).1);obtain⟨ao,n',cap,rfl⟩: ∃ao n' cap,v'=.slice ao n' cap:=by
  rcases hown'.2 with⟨hv,_⟩|⟨g,cap,cur,hv,_⟩
  . exact⟨_,_,_,hv⟩
  . exact⟨_,_,_,hv⟩
 have hfin:=Om.put h1' hos hb2 (bs':=bs++s.data.toList) (v':=.slice ao n' cap) (by
  rw[Ip,List.length_append];have e:s.data.toList.length=s.size:=by rw[<-Lib.size_eq]
  rw[e];exact hown')
 clear hown hown' hgrow c1 hbk hb2 h1' hb1 hk1 hne;go_wp2;go_ret2;exact⟨rfl,⟨_,hfin⟩,hbw2.setCell (p:=⟨g,o+1,none⟩) hB _,hk2.setCell ⟨g,o+1,none⟩ rfl _⟩
theorem Ra (B g o:Nat) (t:TypeId) (cs:Array Value) (bs:List UInt8) (c:Int) (hc0:0<=c) (hc1:c<256) (w:World) (h:Om w B g o t cs bs) (hl:liesAt Tryz.prog Tryz.prog.depth t (cs.size / Tryz.prog.cellsOf t) o 98 1=true)
 (hlen:bs.length+1<=140737488355328) (hBw:B<=w.heap.size):
 Calls Tryz.prog 201 #[.pointer (some ⟨g,o,none⟩),.int .u8 c] w fun e w'=>e=.returned .nilIface/\
  (∃v,Om w' B g o t (N5 g o cs v) (bs++ [UInt8.ofNat c.toNat]))/\Below B w w'/\Fu g w w':=by
 obtain⟨i0,hi,hz0,hz1,hz2⟩:=info_parts infoByte;have hos:o+1<cs.size:=h.2.2.2.1;go_enter Tryz.func201,Tryz.ntmps201;go_wp2_with (go_at_call 196;refine(Jn B g o t cs bs _ h hl).mono ?_);rintro e w1 ⟨rfl,h1,hb1,hk1⟩;have h1':=h1;obtain⟨hB,hbk,ht,hs,h0,v,hv,hown⟩:=h1;have c1:w1.cell? ⟨g,o+1,none⟩=some v:=by rw[Lib.cell_of_heap hbk];exact hv
 clear h hv h0;go_wp2_with (at_builtin;refine wpList_append_own _ rfl _ _ 26 rfl B 5 i0 (.int .u8 0) 1 1 Tryz.underlying26 hi hz0 hz1 hz2 rfl (by decide) _ _ _ rfl (hown.alloc _) ⟨w1.heap.size,0,none⟩ 1 1 [.int .u8 c] rfl rfl ?c1 ?c2 ?c3 ?c4 ?c5 ?_)
 case c1=>
  intro j u hj
  match j,hj with
  |0,hj=>simp at hj;subst hj;simp[Addr.add]
 case c2=>intro u hu;simp at hu;subst hu;rfl
 case c3=>unfold maxLen;omega
 case c4=>omega
 case c5=>have:=hb1.size;simp;omega
 intro v' w2 hown' hgrow _;have hne:=Lib.ownBlock_ne hown hbk ht;have hlt:g<w1.heap.size:=h1'.lt;have hb2:w2.heap[g]? =some (.cells (cs.setIfInBounds o (.pointer (some ⟨g,o,none⟩))) t (0,0)):=by
  rw[hgrow.block g (by simp;omega) (fun e=>hne e.symm),Lib.alloc_old w1 _ g hlt];exact hbk
 have d1:w2.cell? ⟨g,o+1,none⟩=some v:=by rw[Lib.cell_of_heap hb2,<-Lib.cell_of_heap hbk];exact c1
 have f1:w2.frozen? ⟨g,o+1,none⟩=false:=Lib.frozen_of_heap hb2 _;have hk2:=(hk1.alloc _).grown hgrow (J1 (hown.alloc _));have hbw2:=(hb1.alloc (by have:=hb1.size;omega) _).grown hgrow (by have:=hb1.size;simp;omega) (fun k hk=>(hown.lt k hk).1);obtain⟨ao,n',cap,rfl⟩: ∃ao n' cap,v'=.slice ao n' cap:=by
  rcases hown'.2 with⟨hv,_⟩|⟨g,cap,cur,hv,_⟩
  . exact⟨_,_,_,hv⟩
  . exact⟨_,_,_,hv⟩
 have hfin:=Om.put h1' hos hb2 (bs':=bs++ [UInt8.ofNat c.toNat]) (v':=.slice ao n' cap) (by
  rw[Ip,List.length_append];have e:Lib.byteCells [UInt8.ofNat c.toNat]= [.int .u8 c]:=by
   simp[Lib.byteCells];omega
  rw[e];exact hown')
 clear hown hown' hgrow c1 hbk hb2 h1' hb1 hk1 hne;go_wp2;go_ret;exact⟨rfl,⟨_,hfin⟩,hbw2.setCell (p:=⟨g,o+1,none⟩) hB _,hk2.setCell ⟨g,o+1,none⟩ rfl _⟩
theorem Rk (r:Int):Lib.runeCells r=Lib.byteCells (Lib.encodeRune r):=(Lib.byteCells_encodeRune r).symm
theorem Rb (B g o:Nat) (t:TypeId) (cs:Array Value) (bs:List UInt8) (r:Int) (hr0: -2147483648<=r) (hr1:r<=2147483647) (w:World) (h:Om w B g o t cs bs) (hl:liesAt Tryz.prog Tryz.prog.depth t (cs.size / Tryz.prog.cellsOf t) o 98 1=true)
 (hlen:bs.length+4<=140737488355328) (hBw:B<=w.heap.size):
 Calls Tryz.prog 204 #[.pointer (some ⟨g,o,none⟩),.int .i32 r] w fun e w'=>(∃k:Int,e=.returned (.tuple #[.int .i64 k,.nilIface]))/\
  (∃v,Om w' B g o t (N5 g o cs v) (bs++Lib.encodeRune r))/\Below B w w'/\Fu g w w':=by
 have hos:o+1<cs.size:=h.2.2.2.1;go_enter Tryz.func204,Tryz.ntmps204;go_wp2_with (go_at_call 196;refine(Jn B g o t cs bs _ h hl).mono ?_);rintro e w1 ⟨rfl,h1,hb1,hk1⟩;have h1':=h1;obtain⟨hB,hbk,ht,hs,h0,v,hv,hown⟩:=h1;have c1:w1.cell? ⟨g,o+1,none⟩=some v:=by rw[Lib.cell_of_heap hbk];exact hv
 clear h hv h0;obtain⟨ao,n0,cap,rfl⟩: ∃ao n' cap,v=.slice ao n' cap:=by
  rcases hown.2 with⟨hv,_⟩|⟨g,cap,cur,hv,_⟩
  . exact⟨_,_,_,hv⟩
  . exact⟨_,_,_,hv⟩
 go_wp2_with (go_at_call 230;refine(Tryz.utf8_AppendRune_plain B _ _ _ r hr0 hr1 _ hown (by omega) (by have:=hb1.size;omega)).mono ?_);rintro e w2 ⟨v',rfl,hown',ob,hgrow⟩;have hne:=Lib.ownBlock_ne hown hbk ht;have hlt:g<w1.heap.size:=h1'.lt;have hb2:w2.heap[g]? =some (.cells (cs.setIfInBounds o (.pointer (some ⟨g,o,none⟩))) t (0,0)):=by
  rw[hgrow.block g (by simp;omega) (fun e=>hne e.symm),Lib.alloc_old w1 _ g hlt];exact hbk
 have d1:w2.cell? ⟨g,o+1,none⟩=some (.slice ao n0 cap):=by rw[Lib.cell_of_heap hb2,<-Lib.cell_of_heap hbk];exact c1
 have f1:w2.frozen? ⟨g,o+1,none⟩=false:=Lib.frozen_of_heap hb2 _;have hk2:=(hk1.alloc ob).grown hgrow (J1 (hown.alloc _));have hbw2:=(hb1.alloc (by have:=hb1.size;omega) ob).grown hgrow (by have:=hb1.size;simp;omega) (fun k hk=>(hown.lt k hk).1);obtain⟨ao',n',cap',rfl⟩: ∃ao n' cap,v'=.slice ao n' cap:=by
  rcases hown'.2 with⟨hv,_⟩|⟨g,cap,cur,hv,_⟩
  . exact⟨_,_,_,hv⟩
  . exact⟨_,_,_,hv⟩
 have hfin:=Om.put h1' hos hb2 (bs':=bs++Lib.encodeRune r) (v':=.slice ao' n' cap') (by
  rw[Ip,List.length_append];rw[Rk]at hown';simpa[Lib.byteCells]using hown')
 have e1:(w2.setCell ⟨g,o+1,none⟩ (.slice ao' n' cap')).cell? ⟨g,o+1,none⟩=some (.slice ao' n' cap'):=World.cell?_setCell_same' _ _ _ (by rw[d1];rfl);clear hown hown' hgrow c1 hbk hb2 h1' hb1 hk1 hne;go_wp2;go_ret2;exact⟨⟨_,rfl⟩,⟨_,hfin⟩,hbw2.setCell (p:=⟨g,o+1,none⟩) hB _,hk2.setCell ⟨g,o+1,none⟩ rfl _⟩
theorem Ot (B g o:Nat) (t:TypeId) (cs:Array Value) (l:List UInt8) (w:World) (h:Om w B g o t cs l) (hl0:l≠ []):
 Calls Tryz.prog 54 #[.pointer (some ⟨g,o,none⟩)] w fun e w'=>e=.returned (.string ⟨l.toArray⟩)/\Below B w w'/\Fu g w w':=by
 obtain⟨hB,hbk,ht,hs,h0,v,hv,hown⟩:=h;have hl1:l.length≠0:=by simpa using hl0
 obtain⟨gg,cap,cur,rfl,hbg,hg,hnc,hcm,hcs,htake⟩: ∃gg cap cur,v=.slice (some ⟨gg,0,none⟩) l.length cap/\B<=gg/\w.heap[gg]? =some (.cells cur 5 (0,0))/\l.length<=cap/\cap<=maxLen/\cur.size=cap*1/\cur.toList.take (l.length*1)=Lib.byteCells l:=by
  rcases hown.2 with⟨_,hz⟩|⟨gg,cap,cur,hv,r⟩
  . exact absurd hz hl1
  . exact⟨gg,cap,cur,hv,r⟩
 have c1:w.drew.cell? ⟨g,o+1,none⟩=some (.slice (some ⟨gg,0,none⟩) l.length cap):=by
  have:w.drew.heap[g]? =some (.cells cs t (0,0)):=hbk;rw[Lib.cell_of_heap this];exact hv
 have hSD:(Builtin.unsafeSliceData_ #[26] 163 #[.slice (some ⟨gg,0,none⟩) l.length cap]).run Tryz.prog w.drew=.ok (.pointer (some ⟨gg,0,none⟩)) w.drew:=
  Lib.run_unsafeSliceData_row _ _ _ _ _ _ (by omega)
 have hUS:(Builtin.unsafeString_ #[163,3] 9 #[.pointer (some ⟨gg,0,none⟩),.int .i64 l.length]).run Tryz.prog w.drew=.ok (.string ⟨l.toArray⟩) (w.drew.freeze ⟨gg,0,none⟩ l.length):=by
  refine Lib.run_unsafeString_row w.drew 163 3 9 5 Tryz.underlying163 (by kernel_rfl) gg cur.size (by have hg':w.drew.heap[gg]? =some (.cells cur 5 (0,0)):=hg;simp[World.shape?,hg']) l hl0 (by omega) (by unfold maxLen at hcm;omega) ?_;intro j x hx;have:=hown.cells (g:=gg) rfl j (.int .u8 x.toNat) (by simp[Lib.byteCells,hx]);exact this
 clear hv h0;go_enter Tryz.func54,Tryz.ntmps54;go_wp2;go_region
 all_goals(go_wp2;go_ret;exact⟨rfl,Lib.below_freeze (Below.drew (Below.refl B w)) (p:=⟨gg,0,none⟩) hbg _,((Lib.OthersKept.refl _ _ w).drew).freeze ⟨gg,0,none⟩ _ ⟨cur,_,hg⟩⟩)
end Go.Proofs.YtobmaegpfbheoaaGreatDoor
namespace Go.Proofs.YtobmaegpfbheoaaGreatDoor
open Go.RowKit
attribute [local go_sem] Oper.semAt_some
def Bt:List (Int×Int):= [(34,34),(92,92),(8,98),(9,116),(10,110),(12,102),(13,114)]
def Jp:List (Int×Int)->Nat->List MapEntry
 | [],_=> []
 |(k,v)::r,i=>{key:=.int .i32 k,val:=.int .i32 v,born:=i}::Jp r (i+1)
def Ik (w:World) (kv:List (Int×Int)):World:=w.alloc (.map (Jp kv 0).toArray kv.length)
def Eb (a:Int):List (Int×Int)->Option Int
 | []=>none
 |(k,v)::r=>if a=k then some v else Eb a r
theorem Lo (a:Int): ∀(kv:List (Int×Int)) (i j:Nat),∃q,Instr.findNow (.int .i32) (.int .i32 a) (Jp kv i) j=some q/\q.map (·.2)=(Eb a kv).map (Value.int .i32)
 | [],_,_=>⟨none,rfl,rfl⟩
 |(k,v)::r,i,j=>by
  by_cases h:a=k
  . subst h;exact⟨some (j,.int .i32 v),by simp[Jp,Instr.findNow,Instr.sameNow],by simp[Eb]⟩
  . obtain⟨q,h1,h2⟩:=Lo a r (i+1) (j+1);refine⟨q, ?_,by rw[h2];simp[Eb,h]⟩;have:(a==k)=false:=by simpa using h
    simp[Jp,Instr.findNow,Instr.sameNow,this,h1]
theorem Qn: ∀(kv:List (Int×Int)) (i:Nat) (k v:Int),Jp (kv++ [(k,v)]) i=Jp kv i++ [{key:=.int .i32 k,val:=.int .i32 v,born:=i+kv.length}]
 | [],i,k,v=>by simp[Jp]
 |(a,b)::r,i,k,v=>by
  simp only[List.cons_append,Jp,Qn r,List.length_cons];rw[show i+1+r.length=i+(r.length+1)from by omega]
theorem Adl (w:World) (x y:Obj):(w.alloc x).heap.setIfInBounds w.heap.size y=(w.alloc y).heap:=by
 show(w.heap.push x).setIfInBounds w.heap.size y=w.heap.push y;apply Array.ext
 . simp
 . intro i h1 h2;rw[Array.getElem_setIfInBounds (by simpa using h1)];rw[Array.getElem_push,Array.getElem_push];by_cases hi:w.heap.size=i
   . subst hi;simp
   . rw[if_neg hi];have:i<w.heap.size:=by simp at h1;omega
     simp[this]
theorem Aen (e:Bool) (k:Int) (n:Nat) (w:World):(Instr.checkKey e (n+1) 21 (.int .i32 k)).run Tryz.prog w=.ok () w:=by
 simp[Instr.checkKey,run_underlying Tryz.underlying21]
theorem Q1 (e:Bool) (k:Int) (w:World):(Instr.checkKey e 10000 21 (.int .i32 k)).run Tryz.prog w=.ok () w:=Aen e k 9999 w
theorem Cm (w:World) (kv:List (Int×Int)) (k v:Int) (h:Eb k kv=none):
 (Instr.mapUpdate 246 (.map (some w.heap.size)) (.int .i32 k) (.int .i32 v)).run Tryz.prog (Ik w kv)=.ok () (Ik w (kv++ [(k,v)])):=by
 have hb:(Ik w kv).heap[w.heap.size]? =some (.map (Jp kv 0).toArray kv.length):=heap_alloc_new _ _;obtain⟨q,h1,h2⟩:=Lo k kv 0 0;rw[h]at h2;have hq:q=none:=by cases q<;>simp_all
 subst hq;have hck:=Q1 false k (Ik w kv);have hfk:(Instr.findKey 21 (.int .i32 k) (Jp kv 0)).run Tryz.prog (Ik w kv)=.ok none (Ik w kv):=by
  simp[Instr.findKey,Sem.run_bind,run_underlying Tryz.underlying21,h1]
 unfold Instr.mapUpdate;simp only[Sem.run_bind,run_underlying Tryz.underlying246,Result.andThen,getObj,Sem.run,hb,hck,hfk,setObj];simp only[Ik,Qn,List.length_append,List.length_cons,List.length_nil,Nat.zero_add];rw[Adl,List.push_toArray];rfl
theorem S2 (w:World) (b:Nat) (kv:List (Int×Int)) (k:Int) (hb:w.heap[b]? =some (.map (Jp kv 0).toArray kv.length)):
 (Instr.lookup 246 (.map (some b)) (.int .i32 k) true).run Tryz.prog w=.ok (.tuple #[.int .i32 ((Eb k kv).getD 0),.bool (Eb k kv).isSome]) w:=by
 obtain⟨q,h1,h2⟩:=Lo k kv 0 0;have hck:=fun e=>Q1 e k w;have hfk:(Instr.findKey 21 (.int .i32 k) (Jp kv 0)).run Tryz.prog w=.ok q w:=by
  simp[Instr.findKey,Sem.run_bind,run_underlying Tryz.underlying21,h1]
 unfold Instr.lookup;simp only[Sem.run_bind,run_underlying Tryz.underlying246,Result.andThen,getObj,Sem.run,hb]
 cases q with
 |none=>
  have:Eb k kv=none:=by cases hq:Eb k kv<;>simp_all
  rw[this];have hz:(zeroValue 21).run Tryz.prog w=.ok (.int .i32 0) w:=Tryz.zeroValue21 w;simp[hck,hfk,hz,Result.andThen]
 |some p=>
  obtain⟨i,v⟩:=p;obtain⟨u,hu⟩: ∃u,Eb k kv=some u:=by cases hq:Eb k kv<;>simp_all
  rw[hu]at h2 ⊢;simp at h2;subst h2;simp[hck,hfk]
theorem Tq (w:World):
 Calls Tryz.prog 205 #[] w fun e w'=>e=.returned (.map (some w.heap.size))/\Ik w Bt=w':=by
 have hmm:(Instr.makeMap 246 none).run Tryz.prog w=.ok (.map (some w.heap.size)) (Ik w []):=run_makeMap _ w;have u1:=Cm w [] 34 34 rfl;have u2:=Cm w [(34,34)] 92 92 rfl;have u3:=Cm w [(34,34),(92,92)] 8 98 rfl;have u4:=Cm w [(34,34),(92,92),(8,98)] 9 116 rfl;have u5:=Cm w [(34,34),(92,92),(8,98),(9,116)] 10 110 rfl;have u6:=Cm w [(34,34),(92,92),(8,98),(9,116),(10,110)] 12 102 rfl;have u7:=Cm w [(34,34),(92,92),(8,98),(9,116),(10,110),(12,102)] 13 114 rfl;simp only[List.nil_append,List.cons_append]at u1 u2 u3 u4 u5 u6 u7;go_enter Tryz.func205,Tryz.ntmps205;go_wp2;go_ret;exact⟨rfl,rfl⟩
attribute [local go_sem] Oper.semAt_some
def Lr (n:Nat):UInt8:=if n<10 then UInt8.ofNat (48+n)else UInt8.ofNat (87+n)
def Cc (r:Nat):List UInt8:=
 if 32<=r/\r≠34/\r≠92 then Lib.encodeRune r
 else match Eb r Bt with
  |some c=> [92,UInt8.ofNat c.toNat]
  |none=> [92,117,48,48,Lr (r / 16),Lr (r % 16)]
def A5 (l:List (Nat×Nat)):List UInt8:=l.flatMap fun x=>Cc x.2
theorem Rl (r:Int) (w:World):Calls Tryz.prog 203 #[.int .i32 r] w fun e w'=>e=.returned (.bool (decide (32<=r/\r≠34/\r≠92)))/\w=w':=by
 go_enter Tryz.func203,Tryz.ntmps203;go_wp2
 all_goals go_ret
 all_goals refine⟨Zn ?_,rfl⟩
 all_goals first|(simp_all;done)|(simp_all;omega)|(rw[Bool.eq_iff_iff];simp_all)
theorem Dd {r:Int} {B:Bool} (h:decide (32<=r/\r≠34/\r≠92)=B) (w:World):Calls Tryz.prog 203 #[.int .i32 r] w fun e w'=>e=.returned (.bool B)/\w=w':=by
 subst h;exact Rl _ _
theorem Mk (w:World):
 Calls Tryz.prog 205 #[] w fun e w'=>e=.returned (.map (some w.heap.size))/\w.alloc (.map (Jp Bt 0).toArray Bt.length)=w':=Tq w
def Acq (W:World) (lb D:Nat) (m:Option Nat):Prop:=
 W.heap[lb]? =some (.cells #[.map m] 246 (0,0))/\ ∀mb,m=some mb->D+1<mb/\W.heap[mb]? =some (.map (Jp Bt 0).toArray Bt.length)
theorem Agj:liesAt Tryz.prog Tryz.prog.depth 98 (2 / Tryz.prog.cellsOf 98) 0 98 1=true:=by kernel_rfl
def BB (w:World) (B g:Nat) (bs:List UInt8):Prop:= ∃p v,Om w B g 0 98 #[p,v] bs
theorem Om.keep {A W:World} {B g o:Nat} {t:TypeId} {cs:Array Value} {bs:List UInt8} (h:Om A B g o t cs bs) {row:Option Nat} (hg:A.grownBy W row) (hr: ∀k,row=some k-> ∃ob:Obj,A.heap[k]? =some ob/\ob.isCells=false):Om W B g o t cs bs:=by
 obtain⟨hB,hb,ht,hs,h0,v,h1,hown⟩:=h;refine⟨hB,(grownBy_keeps_cells hg hr hb rfl).trans hb,ht,hs,h0,v,h1,hown.kept hg ?_⟩
 cases hv:v.ownBlock with
 |none=>exact .inl rfl
 |some k=>
  refine .inr fun e=> ?_;obtain⟨ob,ho,hc⟩:=hr k e.symm;obtain⟨c,fz,hk⟩:=J1 hown k hv;rw[hk]at ho
  cases ho
  cases hc
theorem Qk {A W:World} (h:Below A.heap.size A W):A.grownBy W none:=⟨h.os,h.tape,h.output,h.size,fun i hi _=>h.block i hi⟩
theorem BB.below {A W:World} {B g:Nat} {bs:List UInt8} (h:BB A B g bs) (hb:Below A.heap.size A W):BB W B g bs:=by
 obtain⟨p,v,h⟩:=h;exact⟨p,v,h.keep (Qk hb) (fun k e=>by cases e)⟩
theorem BB.put {A:World} {B g k:Nat} {bs:List UInt8} {o o':Obj} (h:BB A B g bs) (ho:A.heap[k]? =some o) (hc:o.isCells=false):BB (A.putObj k o') B g bs:=by
 obtain⟨p,v,h⟩:=h;exact⟨p,v,h.keep (grownBy_putObj' A k o') (fun j e=>by cases e;exact⟨o,ho,hc⟩)⟩
theorem BB.lt {A:World} {B g:Nat} {bs:List UInt8} (h:BB A B g bs):g<A.heap.size:=by
 obtain⟨p,v,h⟩:=h;exact h.lt
theorem BB.base {A:World} {B g:Nat} {bs:List UInt8} (h:BB A B g bs):B<=g:=by
 obtain⟨p,v,h⟩:=h;exact h.1
theorem BB.store {A:World} {B g k:Nat} {bs:List UInt8} {cs:Array Value} {t:TypeId} (h:BB A B g bs) (hk:A.heap[k]? =some (.cells cs t (0,0))) (ht:t≠5) (hne:k≠g) (i:Nat) (u:Value):BB (A.setCell ⟨k,i,none⟩ u) B g bs:=by
 obtain⟨p,v,hB,hb,ht',hs,h0,v',h1,hown⟩:=h;refine⟨p,v,hB,(Below.heap_setCell _ _ _ _ (fun e=>hne e.symm)).trans hb,ht',hs,h0,v',h1, ?_⟩;exact hown.kept (row:=some k) ⟨rfl,rfl,rfl,by simp[World.setCell],fun j _ hj=>Below.heap_setCell _ _ _ _ (fun e=>hj (by simp[e]))⟩ (Or.inr (Lib.ownBlock_ne hown hk ht))
theorem Hy {B g:Nat} {bs:List UInt8} (c:Int) (hc0:0<=c) (hc1:c<256) {w:World} (h:BB w B g bs) (hlen:bs.length<=100000000000):
 Calls Tryz.prog 201 #[.pointer (some ⟨g,0,none⟩),.int .u8 c] w fun e w'=>e=.returned .nilIface/\BB w' B g (bs++ [UInt8.ofNat c.toNat])/\Below B w w'/\Fu g w w':=by
 obtain⟨p,v,h⟩:=h;refine(Ra B g 0 _ _ bs c hc0 hc1 w h Agj (by omega) (by have:=h.lt;have:=h.1;omega)).mono ?_;rintro e w' ⟨rfl,⟨v',h'⟩,hb,hk⟩;exact⟨rfl,⟨_,v',h'⟩,hb,hk⟩
theorem M0 {B g:Nat} {bs:List UInt8} (u:UInt8) {w:World} (h:BB w B g bs) (hlen:bs.length<=100000000000):
 Calls Tryz.prog 201 #[.pointer (some ⟨g,0,none⟩),.int .u8 u.toNat] w fun e w'=>e=.returned .nilIface/\BB w' B g (bs++ [u])/\Below B w w'/\Fu g w w':=by
 have hu:=u.toNat_lt;have h1:=Hy (u.toNat:Int) (by omega) (by omega) h hlen;have e:UInt8.ofNat (Int.toNat (u.toNat:Int))=u:=by rw[Int.toNat_natCast];simp
 rwa [e]at h1
theorem Ro: ∀n:Fin 16,(⟨#[48,49,50,51,52,53,54,55,56,57,97,98,99,100,101,102]⟩:ByteArray)[n.val]'(by simp[ByteArray.size])=Lr n.val:=by decide
theorem Ai7: ∀n:Fin 32,bits .and .i32 ((n.val:Nat):Int) 15=((n.val:Nat):Int) % 16:=by decide
theorem Jv {B g:Nat} {bs:List UInt8} (r:Int) (hr0:0<=r) (hr1:r<=2147483647) {w:World} (h:BB w B g bs) (hlen:bs.length<=100000000000):
 Calls Tryz.prog 204 #[.pointer (some ⟨g,0,none⟩),.int .i32 r] w fun e w'=>(∃k:Int,e=.returned (.tuple #[.int .i64 k,.nilIface]))/\BB w' B g (bs++Lib.encodeRune r)/\Below B w w'/\Fu g w w':=by
 obtain⟨p,v,h⟩:=h;refine(Rb B g 0 _ _ bs r (by omega) hr1 w h Agj (by omega) (by have:=h.lt;have:=h.1;omega)).mono ?_;rintro e w' ⟨hk0,⟨v',h'⟩,hb,hk⟩;exact⟨hk0,⟨_,v',h'⟩,hb,hk⟩
theorem J5 {B g:Nat} {bs:List UInt8} (s:ByteArray) {w:World} (h:BB w B g bs) (hlen:bs.length+s.size<=100000000000):
 Calls Tryz.prog 151 #[.pointer (some ⟨g,0,none⟩),.string s] w fun e w'=>e=.returned (.tuple #[.int .i64 s.size,.nilIface])/\BB w' B g (bs++s.data.toList)/\Below B w w'/\Fu g w w':=by
 obtain⟨p,v,h⟩:=h;refine(Kh B g 0 _ _ bs s w h Agj (by omega) (by have:=h.lt;have:=h.1;omega)).mono ?_;rintro e w' ⟨rfl,⟨v',h'⟩,hb,hk⟩;exact⟨rfl,⟨_,v',h'⟩,hb,hk⟩
theorem Adn {B g:Nat} {bs:List UInt8} {w:World} (h:BB w B g bs) (h0:bs≠ []):
 Calls Tryz.prog 54 #[.pointer (some ⟨g,0,none⟩)] w fun e w'=>e=.returned (.string ⟨bs.toArray⟩)/\Below B w w'/\Fu g w w':=by
 obtain⟨p,v,h⟩:=h;exact Ot B g 0 _ _ bs w h h0
theorem Nw {a c:Int} (h:Eb a Bt=some c):34<=c/\c<128:=by
 simp only[Bt,Eb]at h
 repeat' split at h
 all_goals first|(cases h;done)|(simp at h;omega)
theorem O2 {c:Int} (h0:0<=c) (h1:c<128):Lib.encodeRune c= [UInt8.ofNat c.toNat]:=by
 unfold Lib.encodeRune;rw[Lib.encodeRuneZ_one h0 (by omega)];rfl
theorem O6 {r:Nat} (h:Eb r Bt=none) (h2: ¬(32<=r/\r≠34/\r≠92)):r<32:=by
 simp only[Bt,Eb]at h
 repeat' split at h
 all_goals first|(cases h;done)|omega
theorem Ty (r:Nat):(Cc r).length<=6:=by
 unfold Cc
 split
 . unfold Lib.encodeRune Lib.encodeRuneZ
   repeat' split
   all_goals simp
 . split<;>simp
theorem Ic (l:List (Nat×Nat)):(A5 l).length<=6*l.length:=by
 unfold A5
 induction l with
 |nil=>simp
 |cons x r ih=>simp only[List.flatMap_cons,List.length_append,List.length_cons];have:=Ty x.2;omega
theorem Gn: ∀(n:Nat) (l:List UInt8) (p:Nat),(A9 n l p).length<=n
 |0,_,_=>by simp[A9]
 |n+1,l,p=>by
  simp only[A9]
  split
  . simp
  . split
    . simp
    . simp only[List.length_cons];have:=Gn n (l.drop (Lib.decodeL l).2) (p+(Lib.decodeL l).2);omega
theorem Pe: ∀(n:Nat) (l:List UInt8) (p:Nat),∀x ∈ A9 n l p,x.2<=1114111
 |0,_,_,x,h=>by simp[A9]at h
 |n+1,l,p,x,h=>by
  simp only[A9]at h
  split at h
  . simp at h
  . split at h
    . simp at h
    . rcases List.mem_cons.1 h with rfl|h
      . exact Lib.decodeL_rune l
      . exact Pe n _ _ x h
attribute [local go_sem] Oper.semAt_some
def QI (w:World) (g lb d:Nat) (pre:List (Nat×Nat)) (W:World):Prop:=
 Below w.heap.size w W/\BB W w.heap.size g (34::A5 pre)/\ ∃m,Acq W lb d m
theorem Xm (s:ByteArray) (w:World) (hT:Cl w) (hs:s.size<=1000000000) (hv:Az s=true):
 Calls Tryz.prog 154 #[.string s] w fun e w'=>e=.returned (.tuple #[.string ⟨(34::A5 (Cr s)++ [34]).toArray⟩,.int .i64 0])/\Below w.heap.size w w':=by
 refine(callsIn_wide (n:=12)).1 ?_;refine callsIn_of_wp_marks Tryz.func154 rfl trivial ?_ rfl;simp only[Tryz.ntmps154,List.size_toArray,List.length_cons,List.length_nil,Nat.reduceAdd,Nat.reduceSub,Array.replicate_succ,Array.replicate_zero,List.push_toArray,List.append_toArray,List.nil_append,List.cons_append]
 gi_wp2_with (refine⟨trivial, ?_⟩;gi_at_call 150;refine(callsIn_wide.2 (Bw hv _ (by omega) hT)).mono ?_;rintro e w1 ⟨rfl,hb1⟩)
 have hz1:=hb1.size;have hB1:BB ((w1.alloc (.cells #[.map none] 246)).alloc (.cells #[.pointer none,.slice none 0 0] 98)) w.heap.size (w1.heap.size+1) []:=
  ⟨_,_,by omega,by rw[<-World.size_alloc w1 (.cells #[.map none] 246)];exact heap_alloc_new _ _,by decide,by simp,.inl rfl,.slice none 0 0,rfl,World.ownsRow_nil _ _ _ _⟩
 have hL1:((w1.alloc (.cells #[.map none] 246)).alloc (.cells #[.pointer none,.slice none 0 0] 98)).heap[w1.heap.size]? =some (.cells #[.map none] 246 (0,0)):=
  (Below.heap_alloc _ _ _ (by simp)).trans (heap_alloc_new _ _)
 have hbx:Below w.heap.size w ((w1.alloc (.cells #[.map none] 246)).alloc (.cells #[.pointer none,.slice none 0 0] 98)):=(hb1.alloc hz1 _).alloc (by simp;omega) _
 gi_wp2_with (first|(refine⟨trivial, ?_⟩;gi_at_call 201;refine(callsIn_wide.2 (Hy 34 (by omega) (by omega) hB1 (by simp))).mono ?_;rintro e w2 ⟨rfl,hB2,hb2,hk2⟩)|(refine⟨trivial, ?_⟩;gi_at_call 202;refine(callsIn_wide.2 (Qj _ _)).mono ?_;rintro e w3 ⟨rfl,rfl⟩))
 have hz2:=hb2.size;simp only[World.size_alloc]at hz2;have hL2:w2.heap[w1.heap.size]? =some (.cells #[.map none] 246 (0,0)):=hk2 _ _ hL1 (by simp) (fun c fz e=>by cases e);have hbw2:Below w.heap.size w w2:=hbx.trans hb2;clear hB1 hL1 hb1 hk2 hb2 hbx;have hnew:=heap_alloc_new w2 (.cells #[.string s] 9);have hT3:Cl (w2.alloc (.cells #[.string s] 9)):=hT.below (hbw2.alloc (by omega) _);have hyld:=Xc s w2.heap.size hs;have hB3:BB (w2.alloc (.cells #[.string s] 9)) w.heap.size (w1.heap.size+1) (34::A5 []):=hB2.below ((Below.refl _ _).alloc (Nat.le_refl _) _);have hL3:=(Below.heap_alloc w2 (.cells #[.string s] 9) w1.heap.size (by omega)).trans hL2;have hbw3:Below w.heap.size w (w2.alloc (.cells #[.string s] 9)):=hbw2.alloc (by omega) _;have hz3:w2.heap.size+1=(w2.alloc (.cells #[.string s] 9)).heap.size:=by simp
 generalize w2.alloc (.cells #[.string s] 9)=w3 at*
 refine Xi (n:=10) (gf:=228) (lb:= #[.pointer (some ⟨w2.heap.size,0,none⟩)]) rfl (enters_of Tryz.func228 (by kernel_rfl) rfl) hyld (fun _=>rfl)
  (fun pre W=>QI w (w1.heap.size+1) w1.heap.size w3.heap.size pre W/\W.heap[w2.heap.size]? =some (.cells #[.string s] 9 (0,0))) ?hIn ?hIp ?hIb ?h0 ?a1 ?assign ?body ?done
 case assign=>
  intro l x W K hK
  gi_wp2
  exact hK
 case h0=>exact⟨⟨hbw3,hB3,none,hL3,fun _ h=>by cases h⟩,hnew⟩
 case hIb=>
  rintro pre A ⟨⟨h1,h2,h3⟩,h4⟩;exact⟨(Lib.cell_of_heap h4 0).trans rfl,hT.below h1⟩
 case hIn=>
  rintro pre A B ⟨⟨h1,h2,m,h3,h5⟩,h4⟩ hb;refine⟨⟨h1.trans (hb.mono h1.size),h2.below hb,m,(hb.block _ (Array.getElem?_eq_some_iff.1 h3).1).trans h3,fun mb e=>⟨(h5 mb e).1,(hb.block _ (Array.getElem?_eq_some_iff.1 (h5 mb e).2).1).trans (h5 mb e).2⟩⟩,(hb.block _ (Array.getElem?_eq_some_iff.1 h4).1).trans h4⟩
 case hIp=>
  rintro pre A k o o' ⟨⟨h1,h2,m,h3,h5⟩,h4⟩ ho hc hk;have hkw:w.heap.size<=k:=by omega
  have hk1:k<A.heap.size:=(Array.getElem?_eq_some_iff.1 ho).1;refine⟨⟨h1.grown (grownBy_putObj' A k o') (by omega) (fun j e=>by cases e;exact hkw),h2.put ho hc,m, ?_,fun mb e=>⟨(h5 mb e).1, ?_⟩⟩, ?_⟩
  . rw[World.putObj_heap_other (by omega)];exact h3
  . have:=(h5 mb e).1;rw[World.putObj_heap_other (by omega)];exact(h5 mb e).2
  . rw[World.putObj_heap_other (by omega)];exact h4
 case body=>
  rintro l pre x rest W hx ⟨⟨h1,h2,m,h3,h5⟩,h4⟩ ⟨ds,hds⟩ ⟨rc,hrc⟩;have hlen:(A5 pre).length<=6000000000:=by
   have e1:=Ic pre;have e2:=congrArg List.length hx;have e3:=Gn s.size s.data.toList 0;simp only[List.length_append,List.length_cons]at e2;unfold Cr at e2;omega
  have hr:x.2<=1114111:=Pe s.size s.data.toList 0 x (by show x ∈ Cr s;rw[hx];simp);have hsn:A5 (pre++ [x])=A5 pre++Cc x.2:=by simp[A5]
  obtain⟨p,r⟩:=x;simp only at hr hsn;have hz:=h1.size;have hDm:w3.heap.size+1<W.heap.size:=(Array.getElem?_eq_some_iff.1 hrc).1;have hdt:w1.heap.size+1<w3.heap.size:=by omega
  have hsb:w2.heap.size<w3.heap.size:=by omega
  have hsa:w1.heap.size+1<w2.heap.size:=by omega
  have fin: ∀(a:Act) (X:World) (bs:List UInt8),BB X w.heap.size (w1.heap.size+1) bs->bs=34::A5 (pre++ [(p,r)])->Below w.heap.size w X->(∃m,Acq X w1.heap.size w3.heap.size m)->
   X.heap[w3.heap.size]? =some (.deferred ds)->X.heap[w3.heap.size+1]? =some (.loop rc)->X.heap[w2.heap.size]? =some (.cells #[.string s] 9 (0,0))->
   Aba (fun X=>QI w (w1.heap.size+1) w1.heap.size w3.heap.size (pre++ [(p,r)]) X/\X.heap[w2.heap.size]? =some (.cells #[.string s] 9 (0,0))) w3.heap.size W .normal a X:=by
   intro a X bs hb e hbw hl hd hr2 hbox;subst e;exact⟨hd.trans hds.symm,hr2.trans hrc.symm,⟨hbw,hb,hl⟩,hbox⟩
  have Fin:=qz fin;clear fin;by_cases hst:32<=r/\r≠34/\r≠92
  . have hq:Cc r=Lib.encodeRune r:=by unfold Cc;rw[if_pos hst]
    have hB:decide (32<=(r:Int)/\(r:Int)≠34/\(r:Int)≠92)=true:=by simp;omega
    have Hq:Hid ((34::A5 pre)++Lib.encodeRune r=34::A5 (pre++ [(p,r)])):=by
     show _=_;rw[hsn,hq];rfl
    clear hsn hq hst hx
    gi_wp2_with (first|(refine⟨trivial, ?_⟩;gi_at_call 203;refine(CallsIn.inRound l (callsIn_wide.2 (Dd hB _))).mono ?_;rintro e wx ⟨rfl,rfl⟩)|(refine⟨trivial, ?_⟩;gi_at_call 204;refine(CallsIn.inRound l (callsIn_wide.2 (Jv (r:Int) (by omega) (by omega) h2 (by simp;omega)))).mono ?_;rintro e w4 ⟨⟨kk,rfl⟩,hB4,hb4,hk4⟩))
    exact Fin.out _ _ _ hB4 Hq.out (h1.trans hb4) ⟨m,hk4 _ _ h3 (by simp) (fun c fz e=>by cases e),fun mb e=>⟨(h5 mb e).1,hk4 _ _ (h5 mb e).2 (by have:=(h5 mb e).1;simp;omega) (fun c fz e=>by cases e)⟩⟩
     (hk4 _ _ hds (by simp;omega) (fun c fz e=>by cases e)) (hk4 _ _ hrc (by simp;omega) (fun c fz e=>by cases e)) (hk4 _ _ h4 (by simp;omega) (fun c fz e=>by cases e))
  . have hB:decide (32<=(r:Int)/\(r:Int)≠34/\(r:Int)≠92)=false:=by simp;omega
    have hnil:=fun(wx:World) (m0:Option Nat)=>run_eql_map_nil (P:=Tryz.prog) wx 246 _ _ m0 Tryz.underlying246;rcases m with _|mb
    ·
     obtain⟨X,hX⟩: ∃X,(W.setCell ⟨w1.heap.size,0,none⟩ (.map (some W.heap.size))).alloc (.map (Jp Bt 0).toArray Bt.length)=X:=⟨_,rfl⟩;have hsz:(W.setCell ⟨w1.heap.size,0,none⟩ (.map (some W.heap.size))).heap.size=W.heap.size:=by simp[World.setCell]
     have hXk: ∀k,k≠w1.heap.size->k<W.heap.size->X.heap[k]? =W.heap[k]? :=fun k hk hk'=>by
      rw[<-hX,Below.heap_alloc _ _ _ (by omega),Below.heap_setCell _ _ _ _ hk]
     have hXB:BB X w.heap.size (w1.heap.size+1) (34::A5 pre):=by
      rw[<-hX];exact(h2.store h3 (by decide) (by omega) 0 _).below ((Below.refl _ _).alloc (Nat.le_refl _) _)
     have hXw:Below w.heap.size w X:=by
      rw[<-hX];exact(h1.setCell (p:=⟨w1.heap.size,0,none⟩) hz1 _).alloc (by omega) _
     have hXl:X.heap[w1.heap.size]? =some (.cells #[.map (some W.heap.size)] 246 (0,0)):=by
      rw[<-hX,Below.heap_alloc _ _ _ (by omega)];exact J2 h3 _
     have hXm:X.heap[W.heap.size]? =some (.map (Jp Bt 0).toArray Bt.length):=by
      rw[<-hX];have:=heap_alloc_new (W.setCell ⟨w1.heap.size,0,none⟩ (.map (some W.heap.size))) (.map (Jp Bt 0).toArray Bt.length)
      rwa [hsz]at this
     have hXd:=(hXk _ (by omega) (by omega)).trans hds;have hXr:=(hXk _ (by omega) (by omega)).trans hrc;have hX4:=(hXk _ (by omega) (by omega)).trans h4;have c3:W.cell? ⟨w1.heap.size,0,none⟩=some (.map none):=(Lib.cell_of_heap h3 0).trans rfl;have f3:W.frozen? ⟨w1.heap.size,0,none⟩=false:=Lib.frozen_of_heap h3 0;have hlb:w1.heap.size<W.heap.size:=by omega
     have hlk:=S2 X W.heap.size Bt r hXm;have hmb:w3.heap.size+1<W.heap.size:=hDm;subst hX
     cases hf:Eb (r:Int) Bt with
     |some c=>
      rw[hf]at hlk;simp only[Option.getD_some,Option.isSome_some]at hlk;have hc:=Nw hf;have hc0:=hc.1;have hc1:=hc.2;have hq:Cc r= [92,UInt8.ofNat c.toNat]:=by unfold Cc;rw[if_neg hst,hf]
      have Hq:Hid (((34::A5 pre)++ [UInt8.ofNat (Int.toNat 92)])++Lib.encodeRune c=34::A5 (pre++ [(p,r)])):=by
       show _=_;rw[hsn,hq,O2 (by omega) hc1];simp
      clear hsn hq hst hx hf hc h5 h2
      gi_wp2_with (first|(refine⟨trivial, ?_⟩;gi_at_call 203;refine(CallsIn.inRound l (callsIn_wide.2 (Dd hB _))).mono ?_;rintro e wx ⟨rfl,rfl⟩)|(refine⟨trivial, ?_⟩;gi_at_call 205;refine(CallsIn.inRound l (callsIn_wide.2 (Mk _))).mono ?_;rintro e wx ⟨rfl,rfl⟩)|(refine⟨trivial, ?_⟩;gi_at_call 201;refine(CallsIn.inRound l (callsIn_wide.2 (Hy 92 (by omega) (by omega) hXB (by simp;omega)))).mono ?_;rintro e w4 ⟨rfl,hB4,hb4,hk4⟩)|(refine⟨trivial, ?_⟩;gi_at_call 204;refine(CallsIn.inRound l (callsIn_wide.2 (Jv c (by omega) (by omega) hB4 (by simp;omega)))).mono ?_;rintro e w5 ⟨⟨kk,rfl⟩,hB5,hb5,hk5⟩))
      have hkk:=hk4.trans hk5;exact Fin.out _ _ _ hB5 Hq.out ((hXw.trans hb4).trans hb5) ⟨some W.heap.size,hkk _ _ hXl (by simp) (fun c fz e=>by cases e),fun m' e=>by cases e;exact⟨hmb,hkk _ _ hXm (by simp;omega) (fun c fz e=>by cases e)⟩⟩
       (hkk _ _ hXd (by simp;omega) (fun c fz e=>by cases e)) (hkk _ _ hXr (by simp;omega) (fun c fz e=>by cases e)) (hkk _ _ hX4 (by simp;omega) (fun c fz e=>by cases e))
     |none=>
      rw[hf]at hlk;simp only[Option.getD_none,Option.isSome_none]at hlk;have hr32:=O6 hf hst;have hq:Cc r= [92,117,48,48,Lr (r / 16),Lr (r % 16)]:=by unfold Cc;rw[if_neg hst,hf]
      gi_wp2_with (first|(refine⟨trivial, ?_⟩;gi_at_call 203;refine(CallsIn.inRound l (callsIn_wide.2 (Dd hB _))).mono ?_;rintro e wx ⟨rfl,rfl⟩)|(refine⟨trivial, ?_⟩;gi_at_call 205;refine(CallsIn.inRound l (callsIn_wide.2 (Mk _))).mono ?_;rintro e wx ⟨rfl,rfl⟩)|(refine⟨trivial, ?_⟩;gi_at_call 151;refine(CallsIn.inRound l (callsIn_wide.2 (J5 ⟨#[92,117,48,48]⟩ hXB (by simp[ByteArray.size];omega)))).mono ?_;rintro e w4 ⟨rfl,hB4,hb4,hk4⟩))
      refine⟨trivial, ?_⟩;refine(CallsIn.inRound l (callsIn_wide.2 (M0 _ hB4 (by simp;omega)))).mono ?_;rintro e w5 ⟨rfl,hB5,hb5,hk5⟩;rw[Ro ⟨r / 16,by omega⟩]at hB5;have hand:=Ai7 ⟨r,hr32⟩;dsimp only at hand;have hm0:0<=(r:Int) % 16:=by omega
      have hm1:(r:Int) % 16<16:=by omega
      have hm2:r % 16<16:=by omega
      gi_wp2_with fail
      refine⟨trivial, ?_⟩;refine(CallsIn.inRound l (callsIn_wide.2 (M0 _ hB5 (by simp;omega)))).mono ?_;rintro e w6 ⟨rfl,hB6,hb6,hk6⟩;rw[Ro ⟨r % 16,by omega⟩]at hB6
      gi_wp2_with fail
      have hkk:=(hk4.trans hk5).trans hk6;have Hq:(((34::A5 pre)++ [92,117,48,48])++ [Lr (r / 16)])++ [Lr (r % 16)]=34::A5 (pre++ [(p,r)]):=by
       rw[hsn,hq];simp
      exact Fin.out _ _ _ hB6 Hq (((hXw.trans hb4).trans hb5).trans hb6) ⟨some W.heap.size,hkk _ _ hXl (by simp) (fun c fz e=>by cases e),fun m' e=>by cases e;exact⟨hmb,hkk _ _ hXm (by simp;omega) (fun c fz e=>by cases e)⟩⟩
       (hkk _ _ hXd (by simp;omega) (fun c fz e=>by cases e)) (hkk _ _ hXr (by simp;omega) (fun c fz e=>by cases e)) (hkk _ _ hX4 (by simp;omega) (fun c fz e=>by cases e))
    ·
     have hXm:=(h5 mb rfl).2;have hmb:=(h5 mb rfl).1;have c3:W.cell? ⟨w1.heap.size,0,none⟩=some (.map (some mb)):=(Lib.cell_of_heap h3 0).trans rfl;have hlk:=S2 W mb Bt r hXm;have hXB:=h2;have hXw:=h1;have hXl:=h3;have hXd:=hds;have hXr:=hrc;have hX4:=h4
     cases hf:Eb (r:Int) Bt with
     |some c=>
      rw[hf]at hlk;simp only[Option.getD_some,Option.isSome_some]at hlk;have hc:=Nw hf;have hc0:=hc.1;have hc1:=hc.2;have hq:Cc r= [92,UInt8.ofNat c.toNat]:=by unfold Cc;rw[if_neg hst,hf]
      have Hq:Hid (((34::A5 pre)++ [UInt8.ofNat (Int.toNat 92)])++Lib.encodeRune c=34::A5 (pre++ [(p,r)])):=by
       show _=_;rw[hsn,hq,O2 (by omega) hc1];simp
      clear hsn hq hst hx hf hc h5 h2
      gi_wp2_with (first|(refine⟨trivial, ?_⟩;gi_at_call 203;refine(CallsIn.inRound l (callsIn_wide.2 (Dd hB _))).mono ?_;rintro e wx ⟨rfl,rfl⟩)|(refine⟨trivial, ?_⟩;gi_at_call 201;refine(CallsIn.inRound l (callsIn_wide.2 (Hy 92 (by omega) (by omega) hXB (by simp;omega)))).mono ?_;rintro e w4 ⟨rfl,hB4,hb4,hk4⟩)|(refine⟨trivial, ?_⟩;gi_at_call 204;refine(CallsIn.inRound l (callsIn_wide.2 (Jv c (by omega) (by omega) hB4 (by simp;omega)))).mono ?_;rintro e w5 ⟨⟨kk,rfl⟩,hB5,hb5,hk5⟩))
      have hkk:=hk4.trans hk5;exact Fin.out _ _ _ hB5 Hq.out ((hXw.trans hb4).trans hb5) ⟨some mb,hkk _ _ hXl (by simp) (fun c fz e=>by cases e),fun m' e=>by cases e;exact⟨hmb,hkk _ _ hXm (by simp;omega) (fun c fz e=>by cases e)⟩⟩
       (hkk _ _ hXd (by simp;omega) (fun c fz e=>by cases e)) (hkk _ _ hXr (by simp;omega) (fun c fz e=>by cases e)) (hkk _ _ hX4 (by simp;omega) (fun c fz e=>by cases e))
     |none=>
      rw[hf]at hlk;simp only[Option.getD_none,Option.isSome_none]at hlk;have hr32:=O6 hf hst;have hq:Cc r= [92,117,48,48,Lr (r / 16),Lr (r % 16)]:=by unfold Cc;rw[if_neg hst,hf]
      gi_wp2_with (first|(refine⟨trivial, ?_⟩;gi_at_call 203;refine(CallsIn.inRound l (callsIn_wide.2 (Dd hB _))).mono ?_;rintro e wx ⟨rfl,rfl⟩)|(refine⟨trivial, ?_⟩;gi_at_call 151;refine(CallsIn.inRound l (callsIn_wide.2 (J5 ⟨#[92,117,48,48]⟩ hXB (by simp[ByteArray.size];omega)))).mono ?_;rintro e w4 ⟨rfl,hB4,hb4,hk4⟩))
      refine⟨trivial, ?_⟩;refine(CallsIn.inRound l (callsIn_wide.2 (M0 _ hB4 (by simp;omega)))).mono ?_;rintro e w5 ⟨rfl,hB5,hb5,hk5⟩;rw[Ro ⟨r / 16,by omega⟩]at hB5;have hand:=Ai7 ⟨r,hr32⟩;dsimp only at hand;have hm0:0<=(r:Int) % 16:=by omega
      have hm1:(r:Int) % 16<16:=by omega
      have hm2:r % 16<16:=by omega
      gi_wp2_with fail
      refine⟨trivial, ?_⟩;refine(CallsIn.inRound l (callsIn_wide.2 (M0 _ hB5 (by simp;omega)))).mono ?_;rintro e w6 ⟨rfl,hB6,hb6,hk6⟩;rw[Ro ⟨r % 16,by omega⟩]at hB6
      gi_wp2_with fail
      have hkk:=(hk4.trans hk5).trans hk6;have Hq:(((34::A5 pre)++ [92,117,48,48])++ [Lr (r / 16)])++ [Lr (r % 16)]=34::A5 (pre++ [(p,r)]):=by
       rw[hsn,hq];simp
      exact Fin.out _ _ _ hB6 Hq (((hXw.trans hb4).trans hb5).trans hb6) ⟨some mb,hkk _ _ hXl (by simp) (fun c fz e=>by cases e),fun m' e=>by cases e;exact⟨hmb,hkk _ _ hXm (by simp;omega) (fun c fz e=>by cases e)⟩⟩
       (hkk _ _ hXd (by simp;omega) (fun c fz e=>by cases e)) (hkk _ _ hXr (by simp;omega) (fun c fz e=>by cases e)) (hkk _ _ hX4 (by simp;omega) (fun c fz e=>by cases e))
 case done=>
  rintro W ⟨⟨h1,h2,m,h3,h5⟩,h4⟩ hds;have hdt:w1.heap.size+1<w3.heap.size:=by omega
  have hlen:(A5 (Cr s)).length<=6000000000:=by
   have e1:=Ic (Cr s);have e3:=Gn s.size s.data.toList 0;unfold Cr at e1 ⊢;omega
  gi_wp2_with (first|(refine⟨trivial, ?_⟩;gi_at_call 201;refine(callsIn_wide.2 (Hy 34 (by omega) (by omega) h2 (by simp;omega))).mono ?_;rintro e w4 ⟨rfl,hB4,hb4,hk4⟩)|(refine⟨trivial, ?_⟩;gi_at_call 54;refine(callsIn_wide.2 (Adn hB4 (by simp))).mono ?_;rintro e w5 ⟨rfl,hb5,hk5⟩))
  have hd4:=hk4 _ _ hds (by simp;omega) (fun c fz e=>by cases e);have hd5:=hk5 _ _ hd4 (by simp;omega) (fun c fz e=>by cases e);refine⟨by simp,.inl ⟨_,_,rfl,run_takeDeferred hd5, ?_⟩⟩;have hbw5:Below w.heap.size w w5:=(h1.trans hb4).trans hb5;refine⟨_,results_tmp2 rfl _ _ _,rfl,hbw5.grown (grownBy_putObj' w5 _ _) hbw5.size (fun k e=>by cases e;omega)⟩
end Go.Proofs.YtobmaegpfbheoaaGreatDoor
