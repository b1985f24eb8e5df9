/- Parts, joined: commonplaceref01.Quote: the quote of a text. Condition: a text of at most 10^9 bytes. Why a value may not be: the reference's function. Condition: a bulk of at most 10^9. Why a value may not be: the reference's function, over an object's members. Condition: a bulk of at most 10^9. Rows that a call builds by append, whose data may share old memory. Plain. No condition. append of one datum to a row that the call builds: the law that the walks use. No condition. -/
import Derived.Test.YtkkbplakgldlpaaGreatDoorProg
import Derived.Deep.QuietTactic
import Derived.Test.YtkkbplakgldlpaaGreatDoorKMu6
import Derived.Test.YtkkbplakgldlpaaGreatDoorKMu7
import Derived.Test.YtkkbplakgldlpaaGreatDoorKMu10
namespace Go.Proofs.YtkkbplakgldlpaaGreatDoor
open Go.RowKit
theorem encodeRune_len4 (r:Int):(Lib.encodeRune r).length≤4:=by
 unfold Lib.encodeRune Lib.encodeRuneZ
 repeat' split
 all_goals simp
set_option maxRecDepth 100000 in
set_option maxHeartbeats 4000000 in
theorem RQuote_calls (s:ByteArray) (w:World) (hs:s.size≤1000000000) (hv:validB s=true):
 Calls Tryz.prog 45 #[.string s] w fun e w'=>e=.returned (.tuple #[.string ⟨(quoteB s).toArray⟩,.int .i64 0])∧Below w.heap.size w w':=by
 have cV:=RValid_calls s w hs
 rw[hv]at cV
 have cR:=RRunes_calls s w hs
 have hlr:(runes s).length≤s.size:=runesFrom_len _ _ _
 have hsc: ∀x ∈ runes s,scalar x.2:=runesFrom_scalar _ _ _
 unfold quoteB
 generalize runes s=L at*
 have HV:=Lib.hid cV
 have HR:=Lib.hid cR
 have HS:=Lib.hid hsc
 clear cV cR hsc hv
 go_enter Tryz.func45,Tryz.ntmps45
 go_wp2_with (fail)
 with_reducible refine HV.out.mono ?_
 rintro e w' ⟨rfl,rfl⟩
 clear HV
 go_wp2_with (fail)
 with_reducible refine HR.out.mono ?_
 rintro e w1 ⟨⟨v1,v2,rfl,hown⟩,hb1⟩
 clear HR
 obtain⟨la,lc,rfl,hcells⟩: ∃la lc,v1=.slice la L.length lc∧Hid (∀(k:Nat) (x:Nat×Nat),L[k]? =some x→ ∃g off,la=some ⟨g,off,none⟩∧g<w1.heap.size∧w1.cell? ⟨g,off+k,none⟩=some (.int .i64 x.2)):=by
  rcases hown.2 with⟨hv,hz⟩|⟨g,cap,cur,rfl,hbg,hg,hnc,hcm,hcs,htake⟩
  · have hL:L= []:=List.length_eq_zero_iff.1 hz
    subst hL
    exact⟨none,0,hv,fun k x hx=>by simp at hx⟩
  · refine⟨some ⟨g,0,none⟩,cap,rfl,fun k x hx=>⟨g,0,rfl,(Array.getElem?_eq_some_iff.1 hg).1, ?_⟩⟩
    have:=hown.cells (g:=g) rfl k (.int .i64 x.2) (by simp[hx])
    rw[Go.WideShapes.add_plain,Nat.zero_add]at this
    rw[Nat.zero_add]
    exact this
 have hb1':=Lib.hid hb1
 have H0:Hid ((⟨#[34]⟩:ByteArray).data.toList=34::quoteRunes (L.take 0)):=by show _=_;simp[quoteRunes]
 clear hown hb1
 go_wp2_with (fail)
 go_loopw [4,8] (fun o i wr=> ∃(T:ByteArray) (k:Nat),o=.string T∧i=.int .i64 k∧k≤L.length∧Hid (T.data.toList=34::quoteRunes (L.take k))∧Hid (Below w1.heap.size w1 wr)) (fun _ i _=>L.length - (intOf i).toNat)
 case atStart=>exact⟨_,0,rfl,rfl,Nat.zero_le _,H0,Below.refl _ _⟩
 case round=>
  obtain⟨T,k,rfl,rfl,hk,hT,hbw⟩:=hrel
  clear H0
  obtain⟨wo,rfl⟩: ∃wo:World,wo=wr:=⟨_,rfl⟩
  have hTs:T.size≤6*L.length+1:=by
   have h1:=congrArg List.length hT.out
   have h2:=quoteRunes_len (L.take k)
   have h3:(L.take k).length≤L.length:=by rw[List.length_take];omega
   have h4:T.data.toList.length=T.size:=by rw[Array.length_toList];rfl
   simp only[List.length_cons]at h1
   omega
  by_cases hlt:k<L.length
  · obtain⟨⟨p,r⟩,hx⟩: ∃v,L[k]? =some v:=⟨_,List.getElem?_eq_getElem hlt⟩
    obtain⟨g,off,rfl,hg,hc0⟩:=hcells.out k _ hx
    have hc:wo.cell? ⟨g,off+k,none⟩=some (.int .i64 r):=(hbw.out.cell (p:=⟨g,off+k,none⟩) hg).trans hc0
    have hsc:=HS.out _ (List.mem_of_getElem? hx)
    unfold scalar at hsc
    simp only at hsc
    obtain⟨hsc1,hsc2⟩:=hsc
    have htk:L.take (k+1)=L.take k++ [(p,r)]:=by rw[List.take_add_one,hx];rfl
    have hsn:Hid (34::quoteRunes (L.take (k+1))=T.data.toList++quoteRune r):=by
     show _=_
     rw[htk,hT.out];simp[quoteRunes]
    have Hsc:=Lib.hid hsc2
    have hB0:Hid (Below w1.heap.size w1 wo):=hbw
    have hN0:Hid (NoLet r 0):=fun i hi=>by omega
    clear hT htk hx hc0 hsc2 hbw
    go_wp2_with (fail)
    go_loopw [10] (fun j wr=> ∃n:Nat,j=.int .i64 n∧n≤8∧Hid (NoLet r n)∧Hid (Below w1.heap.size w1 wr)) (fun j _=>8 - (intOf j).toNat)
    case atStart=>exact⟨0,rfl,by omega,hN0,hB0⟩
    case round=>
     obtain⟨n,rfl,hn,hno,hbw⟩:=hrel
     clear hN0 hB0
     rcases(by omega:n=2∨(n≠2∧n<8)∨n=8)with rfl|⟨hn2,hn8⟩|rfl
     · have hno':=Lib.hid (hno.out.step (.inl rfl))
       clear hno hsn hc
       go_wp2_with (fail)
       go_roundw
       case rel=>exact⟨2+1,rfl,by omega,hno',hbw⟩
       case measure=>simp[intOf]
     · obtain⟨c,hcc⟩: ∃c,codeTab[n]? =some c:=⟨_,List.getElem?_eq_getElem hn8⟩
       have hcd:codeTab.getD n 0=c:=by simp[List.getD,hcc]
       have cC:=Lib.hid (RCode_calls n c hcc wr)
       have hn2':((n:Int)==2)=false:=by simp;omega
       by_cases hcr:c=(r:Int)
       · have hq:quoteRune r= [92,letTab.getD n 0]:=by
          have:=quoteRune_let ⟨n,hn8⟩ hn2
          simp only[hcd,hcr,Int.toNat_natCast]at this
          exact this
         rw[hq]at hsn
         subst hcr
         have hlet:=fun w=>run_let n hn8 w
         generalize letTab.getD n 0=c8 at hsn hlet
         have hT':Hid ((T++⟨#[92]⟩++⟨#[c8]⟩).data.toList=34::quoteRunes (L.take (k+1))):=by
          show _=_
          rw[hsn.out,ByteArray.data_append,Array.toList_append,ByteArray.data_append,Array.toList_append]
          simp
         clear hno hsn hcc hcd hc hq
         go_wp2_with (fail)
         with_reducible refine cC.out.mono ?_
         rintro e w2 ⟨rfl,hb2⟩
         have hbw2:=Lib.hid (hbw.out.trans (hb2.mono hbw.out.size))
         clear hb2 hbw cC
         have hl2:=hlet w2
         clear hlet
         go_wp2
         go_roundw
         case rel=>exact⟨_,k+1,rfl,by go_num,by omega,hT',hbw2⟩
         case measure=>simp only[intOf];omega
       · have hno':=Lib.hid (hno.out.step (.inr (by rw[hcd];exact hcr)))
         have hcr1:(c==(r:Int))=false:=by simpa using hcr
         have hcr2:(c != (r:Int))=true:=by simpa using hcr
         clear hno hsn hcc hcd hc hcr
         go_wp2_with (fail)
         with_reducible refine cC.out.mono ?_
         rintro e w2 ⟨rfl,hb2⟩
         have hbw2:=Lib.hid (hbw.out.trans (hb2.mono hbw.out.size))
         clear hb2 hbw cC
         go_wp2
         go_roundw
         case rel=>exact⟨n+1,by go_num,by omega,hno',hbw2⟩
         case measure=>simp only[intOf];omega
     · have hq:=quoteRune_no hno.out
       rw[hq]at hsn
       clear hno hc hq
       by_cases h32:r<32
       · rw[if_pos h32]at hsn
         have hT':Hid ((T++⟨#[92,117,48,48]⟩++⟨#[hexd (r / 16)]⟩++⟨#[hexd (r % 16)]⟩).data.toList=34::quoteRunes (L.take (k+1))):=by
          show _=_
          rw[hsn.out,ByteArray.data_append,Array.toList_append,ByteArray.data_append,Array.toList_append,ByteArray.data_append,Array.toList_append]
          simp
         have hx1:=fun w=>run_hex (r / 16) (by omega) w
         have hx2:=fun w=>run_hex (r % 16) (by omega) w
         have hq16:(r:Int) / 16=((r / 16:Nat):Int):=by omega
         have hm16:(r:Int) % 16=((r % 16:Nat):Int):=by omega
         have hq16':(r:Int).tdiv 16=((r / 16:Nat):Int):=by rw[Int.tdiv_eq_ediv_of_nonneg (by omega)];omega
         have hm16':(r:Int).tmod 16=((r % 16:Nat):Int):=by rw[Int.tmod_eq_emod_of_nonneg (by omega)];omega
         have hql:r / 16<2:=by omega
         have hml:r % 16<16:=by omega
         generalize hexd (r / 16)=e1 at*
         generalize hexd (r % 16)=e2 at*
         generalize r / 16=q at*
         generalize r % 16=m at*
         have hw1:IntKind.i64.wrap ((q:Int)+1)=(q:Int)+1:=IntWalk.i64_in _ (by omega)
         have hw2:IntKind.i64.wrap ((m:Int)+1)=(m:Int)+1:=IntWalk.i64_in _ (by omega)
         clear hsn
         go_wp2_with (fail)
         go_quiet (fail)
         have hbw2:=Lib.hid (below_drewN hbw.out nq)
         clear hx1 hx2 hq16 hm16 hq16' hm16' hw1 hw2 hbw
         go_wp2
         go_roundw
         case rel=>exact⟨_,k+1,rfl,by go_num,by omega,hT',hbw2⟩
         case measure=>simp only[intOf];omega
       · rw[if_neg h32]at hsn
         have cB:=Lib.hid (RBytes_calls r (by omega) (by omega) (by have:=Hsc.out;omega) wr)
         have hel:(Lib.encodeRune (r:Int)).length≤4:=encodeRune_len4 r
         obtain⟨X,hX⟩: ∃X:ByteArray,(⟨(Lib.encodeRune (r:Int)).toArray⟩:ByteArray)=X:=⟨_,rfl⟩
         have hXs:X.size≤4:=by rw[←hX];exact hel
         have hT':Hid ((T++X).data.toList=34::quoteRunes (L.take (k+1))):=by
          show _=_
          rw[hsn.out,ByteArray.data_append,Array.toList_append,←hX]
         rw[hX]at cB
         clear hsn hel hX
         go_wp2_with (fail)
         with_reducible refine cB.out.mono ?_
         rintro e w2 ⟨rfl,hb2⟩
         have hbw2:=Lib.hid (hbw.out.trans (hb2.mono hbw.out.size))
         clear hb2 hbw cB
         go_wp2
         go_roundw
         case rel=>exact⟨_,k+1,rfl,by go_num,by omega,hT',hbw2⟩
         case measure=>simp only[intOf];omega
  · obtain rfl:k=L.length:=by omega
    have hT':=hT.out
    rw[List.take_length]at hT'
    have hE:(⟨(34::(quoteRunes L++ [34])).toArray⟩:ByteArray)=T++⟨#[34]⟩:=by
     apply ByteArray.ext
     rw[ByteArray.data_append]
     apply Array.ext'
     rw[Array.toList_append,hT']
     simp
    have HE:=Lib.hid hE
    clear hT hT' hE
    go_wp2
    go_ret2
    exact⟨by rw[HE.out];rfl,hb1'.out.trans (hbw.out.mono hb1'.out.size)⟩
end Go.Proofs.YtkkbplakgldlpaaGreatDoor

namespace Go.Proofs.YtkkbplakgldlpaaGreatDoor
open Go.RowKit
theorem bare_calls2 {k:Int} {b:Bool} {n:Int} {t:ByteArray} {la oa:Option Addr} {ln lc on oc:Nat} {B:Bool} (h:oddB k b n t ln on=B) (w:World):
 Calls Tryz.prog 189 #[.agg #[.int .i64 k,.bool b,.int .i64 n,.string t,.slice la ln lc,.slice oa on oc]] w fun e w'=>e=.returned (.bool (!B))∧Below w.heap.size w w':=by
 subst h
 exact bare_calls _ _ _ _ _ _ _ _ _ _ _
theorem RValid_calls2 {s:ByteArray} {B:Bool} (h:validB s=B) (w:World) (hs:s.size≤1000000000):
 Calls Tryz.prog 84 #[.string s] w fun e w'=>e=.returned (.bool B)∧w=w':=by
 subst h
 exact RValid_calls _ _ hs
def MayRC (v:Val):Prop:= ∀(cs:List Value) (d:Int) (w:World),HoldsV w w.heap.size v cs→v.bulk≤1000000000→0≤d→d≤65→
    Calls Tryz.prog 161 #[.agg cs.toArray,.int .i64 d] w fun e w'=>e=.returned (.int .i64 (mayV v d))∧Below w.heap.size w w'
set_option maxHeartbeats 2000000 in
theorem mayR_list (k:Int) (b:Bool) (n:Int) (t:ByteArray) (l:List Val) (la oa:Option Addr) (lc oc:Nat) (d:Int) (w:World) (g off:Nat) (hla:l= []∨(la=some ⟨g,off,none⟩∧g<w.heap.size∧HoldsL w w.heap.size l g off))
 (hb:bulkL l+t.size≤1000000000) (h0:0≤d) (h64:d≤64) (IH: ∀v ∈ l,MayRC v) (hodd:oddB k b n t l.length 0=false) (hval:validB t=true):
 Calls Tryz.prog 161 #[.agg #[.int .i64 k,.bool b,.int .i64 n,.string t,.slice la l.length lc,.slice oa 0 oc],.int .i64 d] w fun e w'=>e=.returned (.int .i64 (mayL l (d+1)))∧Below w.heap.size w w':=by
 have hlen:l.length≤1000000000:=by have:=bulkL_len l;omega
 have h64': ¬(64<d):=by omega
 have H:Hid (mayL (l.drop 0) (d+1)=mayL l (d+1)):=by rw[List.drop_zero];exact rfl
 go_enter Tryz.func161,Tryz.ntmps161
 go_wp2_with (first|(go_at_call 189;refine(bare_calls2 hodd _).mono ?_;rintro e w1 ⟨rfl,hb1⟩;obtain⟨hc1,hf1⟩:=bcell hb1;have hz1:=hb1.size;simp only[World.size_alloc]at hz1;have hbw1:Below w.heap.size w w1:=((Below.refl _ _).alloc (Nat.le_refl _) _).trans (hb1.mono (by simp));have hbox1:w1.heap[w.heap.size]? =some (.cells #[.int .i64 k,.bool b,.int .i64 n,.string t,.slice la l.length lc,.slice oa 0 oc] 27 (0,0)):=(hb1.block _ (by simp)).trans (heap_alloc_new _ _))|(go_at_call 84;refine(RValid_calls2 hval _ (by omega)).mono ?_;rintro e w2 ⟨rfl,rfl⟩))
 clear hb1 hodd hc1 hf1 hz1
 go_loopw [5] (fun i wr=> ∃j:Nat,j≤l.length∧i=.int .i64 j∧Hid (mayL (l.drop j) (d+1)=mayL l (d+1))∧Below w.heap.size w wr∧wr.heap[w.heap.size]? =some (.cells #[.int .i64 k,.bool b,.int .i64 n,.string t,.slice la l.length lc,.slice oa 0 oc] 27 (0,0))) (fun i _=>l.length - (intOf i).toNat)
 case atStart=>exact⟨0,Nat.zero_le _,rfl,H,hbw1,hbox1⟩
 case round=>
  obtain⟨j,hj,rfl,hm,hbw,hbox⟩:=hrel
  clear H hbw1 hbox1
  have hbx:w.heap.size<wr.heap.size:=(Array.getElem?_eq_some_iff.1 hbox).1
  have b4:wr.cell? ⟨w.heap.size,4,none⟩=some (.slice la l.length lc):=by rw[Lib.cell_of_heap hbox];rfl
  have b5:wr.cell? ⟨w.heap.size,5,none⟩=some (.slice oa 0 oc):=by rw[Lib.cell_of_heap hbox];rfl
  by_cases hlt:j<l.length
  · obtain⟨rfl,hg,hL⟩:la=some ⟨g,off,none⟩∧g<w.heap.size∧HoldsL w w.heap.size l g off:=by
     rcases hla with rfl|h
     · simp at hlt
     · exact h
    obtain⟨v,hv⟩: ∃v,l[j]? =some v:=⟨_,List.getElem?_eq_getElem hlt⟩
    have hdrop:l.drop j=v::l.drop (j+1):=drop_of_get hv
    have hmem:v ∈ l:=List.mem_of_getElem? hv
    have hbv:=bulkL_mem hmem
    have IHv:=Lib.hid (IH v hmem)
    have hm':=hm.out
    rw[hdrop]at hm'
    simp only[mayL]at hm'
    clear hm hdrop hmem IH
    obtain⟨m,hmv⟩: ∃m,mayV v (d+1)=m:=⟨_,rfl⟩
    rw[hmv]at hm'
    have Hmv:=Lib.hid hmv
    clear hmv
    obtain⟨k',b',n',t',l',o'⟩:=v
    obtain⟨la',lc',oa',oc',hvs,c0,c1,c2,c3,c4,c5⟩:=(hL.below hg hbw).six hv
    clear hla hL hv
    have hz:=hbw.size
    by_cases hm0:m=0
    · rw[if_pos hm0]at hm'
      subst hm0
      have Hk:=Lib.hid hm'
      clear hm'
      go_wp2_with (go_at_call 161;refine(IHv.out _ (d+1) _ (HoldsV.more (by omega) _ _ hvs) (by omega) (by omega) (by omega)).mono ?_;rintro e w2 ⟨he,hb2⟩;rw[Hmv.out]at he;subst he;have hbw2:Below w.heap.size w w2:=hbw.trans (hb2.mono hz);have hbox2:=(hb2.block _ hbx).trans hbox)
      go_roundw
      case rel=>exact⟨j+1,by omega,by go_num,Hk,hbw2,hbox2⟩
      case measure=>simp[intOf];omega
    · rw[if_neg hm0]at hm'
      have Hk:=Lib.hid hm'
      clear hm'
      have hm1:(m==0)=false:=by simpa using hm0
      have hm2:(m != 0)=true:=by simpa using hm0
      go_wp2_with (go_at_call 161;refine(IHv.out _ (d+1) _ (HoldsV.more (by omega) _ _ hvs) (by omega) (by omega) (by omega)).mono ?_;rintro e w2 ⟨he,hb2⟩;rw[Hmv.out]at he;subst he;have hbw2:Below w.heap.size w w2:=hbw.trans (hb2.mono hz))
      go_ret
      exact⟨by rw[←Hk.out];rfl,hbw2⟩
  · obtain rfl:j=l.length:=by omega
    have hm':=hm.out
    rw[List.drop_length]at hm'
    have Hm:=Lib.hid hm'
    clear hm hm'
    go_wp2
    go_loopw [8] (fun i wx=>i=.int .i64 0∧wx=wr) (fun _ _=>0)
    case atStart=>exact⟨rfl,rfl⟩
    case round=>
     obtain⟨rfl,rfl⟩:=hrel
     go_wp2
     go_ret
     exact⟨by rw[←Hm.out];rfl,hbw⟩
end Go.Proofs.YtkkbplakgldlpaaGreatDoor

namespace Go.Proofs.YtkkbplakgldlpaaGreatDoor
open Go.RowKit
set_option maxHeartbeats 4000000 in
theorem mayR_obj (k:Int) (b:Bool) (n:Int) (t:ByteArray) (o:List (ByteArray×Val)) (la oa:Option Addr) (lc oc:Nat) (d:Int) (w:World) (g off:Nat) (hoa:o= []∨(oa=some ⟨g,off,none⟩∧g<w.heap.size∧HoldsO w w.heap.size o g off))
 (hb:bulkO o+t.size≤1000000000) (h0:0≤d) (h64:d≤64) (IH: ∀m ∈ o,MayRC m.2) (hodd:oddB k b n t 0 o.length=false) (hval:validB t=true):
 Calls Tryz.prog 161 #[.agg #[.int .i64 k,.bool b,.int .i64 n,.string t,.slice la 0 lc,.slice oa o.length oc],.int .i64 d] w fun e w'=>e=.returned (.int .i64 (mayO o none (d+1)))∧Below w.heap.size w w':=by
 have hlen:o.length≤1000000000:=by have:=bulkO_len o;omega
 have h64': ¬(64<d):=by omega
 have H:Hid (mayO (o.drop 0) (lastKey o 0) (d+1)=mayO o none (d+1)):=by rw[List.drop_zero];exact rfl
 go_enter Tryz.func161,Tryz.ntmps161
 go_wp2_with (first|(go_at_call 189;refine(bare_calls2 hodd _).mono ?_;rintro e w1 ⟨rfl,hb1⟩;obtain⟨hc1,hf1⟩:=bcell hb1;have hz1:=hb1.size;simp only[World.size_alloc]at hz1;have hbw1:Below w.heap.size w w1:=((Below.refl _ _).alloc (Nat.le_refl _) _).trans (hb1.mono (by simp));have hbox1:w1.heap[w.heap.size]? =some (.cells #[.int .i64 k,.bool b,.int .i64 n,.string t,.slice la 0 lc,.slice oa o.length oc] 27 (0,0)):=(hb1.block _ (by simp)).trans (heap_alloc_new _ _))|(go_at_call 84;refine(RValid_calls2 hval _ (by omega)).mono ?_;rintro e w2 ⟨rfl,rfl⟩))
 clear hb1 hodd hc1 hf1 hz1
 go_loopw [5] (fun i wx=>i=.int .i64 0∧wx=w1) (fun _ _=>0)
 case atStart=>exact⟨rfl,rfl⟩
 case round=>
  obtain⟨rfl,rfl⟩:=hrel
  have hbx0:w.heap.size<wr.heap.size:=(Array.getElem?_eq_some_iff.1 hbox1).1
  have b40:wr.cell? ⟨w.heap.size,4,none⟩=some (.slice la 0 lc):=by rw[Lib.cell_of_heap hbox1];rfl
  go_wp2
  clear b40 hbx0
  rename World=>w1
  go_loopw [7,8] (fun q i wr=> ∃j:Nat,∃lk:ByteArray,j≤o.length∧i=.int .i64 j∧q=.string lk∧(0<j→lastKey o j=some lk)∧Hid (mayO (o.drop j) (lastKey o j) (d+1)=mayO o none (d+1))∧Below w.heap.size w wr∧wr.heap[w.heap.size]? =some (.cells #[.int .i64 k,.bool b,.int .i64 n,.string t,.slice la 0 lc,.slice oa o.length oc] 27 (0,0))) (fun _ i _=>o.length - (intOf i).toNat)
  case atStart=>exact⟨0,ByteArray.empty,Nat.zero_le _,rfl,rfl,fun h=>absurd h (by omega),H,hbw1,hbox1⟩
  case round=>
   obtain⟨j,q,hj,rfl,rfl,hlk,hm,hbw,hbox⟩:=hrel
   clear H hbw1 hbox1
   have hbx:w.heap.size<wr.heap.size:=(Array.getElem?_eq_some_iff.1 hbox).1
   have b5:wr.cell? ⟨w.heap.size,5,none⟩=some (.slice oa o.length oc):=by rw[Lib.cell_of_heap hbox];rfl
   have hz:=hbw.size
   by_cases hlt:j<o.length
   · obtain⟨rfl,hg,hL⟩:oa=some ⟨g,off,none⟩∧g<w.heap.size∧HoldsO w w.heap.size o g off:=by
      rcases hoa with rfl|h
      · simp at hlt
      · exact h
     obtain⟨⟨key,v⟩,hv⟩: ∃v,o[j]? =some v:=⟨_,List.getElem?_eq_getElem hlt⟩
     have hdrop:o.drop j=(key,v)::o.drop (j+1):=drop_of_get hv
     have hmem:(key,v) ∈ o:=List.mem_of_getElem? hv
     have hbv:=bulkO_mem hmem
     simp only at hbv
     have IHv:=Lib.hid (IH (key,v) hmem)
     have hlast:lastKey o (j+1)=some key:=by simp[lastKey,hv]
     have Hlast:=Lib.hid hlast
     have hm':=hm.out
     rw[hdrop]at hm'
     simp only[mayO,mayP,←hlast]at hm'
     clear hm hdrop hmem IH hlast
     have hLr:=hL.below hg hbw
     have hgr:g<wr.heap.size:=by omega
     obtain⟨k',b',n',t',l',o'⟩:=v
     obtain⟨la',lc',oa',oc',hvs,c0,c1,c2,c3,c4,c5,c6⟩:=hLr.seven hv
     clear hL hLr hv hoa
     by_cases hval2:validB key=true
     · rw[hval2]at hm'
       simp only[if_true]at hm'
       by_cases hjp:0<j
       · rw[hlk hjp]at hm'
         simp only at hm'
         have hgd:decide (0<j)=true:=by simpa using hjp
         clear hlk
         by_cases hle:leB key q=true
         · rw[if_pos hle]at hm'
           unfold leB at hle
           have Hm:=Lib.hid hm'
           clear hm'
           go_wp2_with (go_at_call 84;refine(RValid_calls2 hval2 _ (by omega)).mono ?_;rintro e wv ⟨rfl,rfl⟩)
           go_ret
           exact⟨by rw[←Hm.out];rfl,hbw⟩
         · rw[if_neg hle]at hm'
           have hle':(Op.bytesLess key.toList q.toList||key.toList==q.toList)=false:=by simpa[leB]using hle
           clear hle
           obtain⟨m,hmv⟩: ∃m,mayV (.mk k' b' n' t' l' o') (d+1)=m:=⟨_,rfl⟩
           rw[hmv]at hm'
           have Hmv:=Lib.hid hmv
           clear hmv
           by_cases hm0:m=0
           · rw[if_pos hm0]at hm'
             subst hm0
             have Hm:=Lib.hid hm'
             clear hm'
             go_wp2_with (first|(go_at_call 84;refine(RValid_calls2 hval2 _ (by omega)).mono ?_;rintro e wv ⟨rfl,rfl⟩)|(go_at_call 161;refine(IHv.out _ (d+1) _ (HoldsV.more (by omega) _ _ hvs) (by omega) (by omega) (by omega)).mono ?_;rintro e w3 ⟨he,hb3⟩;rw[Hmv.out]at he;subst he;have hbw3:Below w.heap.size w w3:=hbw.trans (hb3.mono hz);have hbox3:=(hb3.block _ hbx).trans hbox))
             go_roundw
             case rel=>exact⟨j+1,key,by omega,by go_num,rfl,fun _=>Hlast.out,Hm,hbw3,hbox3⟩
             case measure=>simp[intOf];omega
           · rw[if_neg hm0]at hm'
             have hm1:(m==0)=false:=by simpa using hm0
             have hm2:(m != 0)=true:=by simpa using hm0
             have Hm:=Lib.hid hm'
             clear hm'
             go_wp2_with (first|(go_at_call 84;refine(RValid_calls2 hval2 _ (by omega)).mono ?_;rintro e wv ⟨rfl,rfl⟩)|(go_at_call 161;refine(IHv.out _ (d+1) _ (HoldsV.more (by omega) _ _ hvs) (by omega) (by omega) (by omega)).mono ?_;rintro e w3 ⟨he,hb3⟩;rw[Hmv.out]at he;subst he;have hbw3:Below w.heap.size w w3:=hbw.trans (hb3.mono hz);have hbox3:=(hb3.block _ hbx).trans hbox))
             go_ret
             exact⟨by rw[←Hm.out];rfl,hbw3⟩
       · have hlk0:lastKey o j=none:=by
          obtain rfl:j=0:=by omega
          rfl
         rw[hlk0]at hm'
         simp only at hm'
         have hgd:decide (0<j)=false:=by simpa using hjp
         have hk0:j≤0:=by omega
         clear hlk hlk0
         obtain⟨m,hmv⟩: ∃m,mayV (.mk k' b' n' t' l' o') (d+1)=m:=⟨_,rfl⟩
         rw[hmv]at hm'
         have Hmv:=Lib.hid hmv
         clear hmv
         by_cases hm0:m=0
         · rw[if_pos hm0]at hm'
           subst hm0
           have Hm:=Lib.hid hm'
           clear hm'
           go_wp2_with (first|(go_at_call 84;refine(RValid_calls2 hval2 _ (by omega)).mono ?_;rintro e wv ⟨rfl,rfl⟩)|(go_at_call 161;refine(IHv.out _ (d+1) _ (HoldsV.more (by omega) _ _ hvs) (by omega) (by omega) (by omega)).mono ?_;rintro e w3 ⟨he,hb3⟩;rw[Hmv.out]at he;subst he;have hbw3:Below w.heap.size w w3:=hbw.trans (hb3.mono hz);have hbox3:=(hb3.block _ hbx).trans hbox))
           go_roundw
           case rel=>exact⟨j+1,key,by omega,by go_num,rfl,fun _=>Hlast.out,Hm,hbw3,hbox3⟩
           case measure=>simp[intOf];omega
         · rw[if_neg hm0]at hm'
           have hm1:(m==0)=false:=by simpa using hm0
           have hm2:(m != 0)=true:=by simpa using hm0
           have Hm:=Lib.hid hm'
           clear hm'
           go_wp2_with (first|(go_at_call 84;refine(RValid_calls2 hval2 _ (by omega)).mono ?_;rintro e wv ⟨rfl,rfl⟩)|(go_at_call 161;refine(IHv.out _ (d+1) _ (HoldsV.more (by omega) _ _ hvs) (by omega) (by omega) (by omega)).mono ?_;rintro e w3 ⟨he,hb3⟩;rw[Hmv.out]at he;subst he;have hbw3:Below w.heap.size w w3:=hbw.trans (hb3.mono hz);have hbox3:=(hb3.block _ hbx).trans hbox))
           go_ret
           exact⟨by rw[←Hm.out];rfl,hbw3⟩
     · have hvf:validB key=false:=by simpa using hval2
       rw[hvf]at hm'
       have Hm:=Lib.hid hm'
       clear hm' hval2 hlk
       go_wp2_with (go_at_call 84;refine(RValid_calls2 hvf _ (by omega)).mono ?_;rintro e wv ⟨rfl,rfl⟩)
       go_ret
       exact⟨by rw[←Hm.out];simp,hbw⟩
   · obtain rfl:j=o.length:=by omega
     have hm':=hm.out
     rw[List.drop_length]at hm'
     have Hm:=Lib.hid hm'
     clear hm hm' hlk hoa IH
     go_wp2
     go_ret
     exact⟨by rw[←Hm.out];rfl,hbw⟩
end Go.Proofs.YtkkbplakgldlpaaGreatDoor

namespace Go.Proofs.YtkkbplakgldlpaaGreatDoor
open Go Go.RowKit
def HoldsIn (S:Nat→Prop) (w:World) (d:D) (cs:List Value):Prop:=
 ∀w'':World,w.heap.size≤w''.heap.size→(∀p:Addr,S p.block→p.block<w.heap.size→w''.cell? p=w.cell? p)→Holds w'' w.heap.size d cs
def HoldsInA (S:Nat→Prop) (w:World) (l:List D) (cs:List Value):Prop:=
 ∀w'':World,w.heap.size≤w''.heap.size→(∀p:Addr,S p.block→p.block<w.heap.size→w''.cell? p=w.cell? p)→HoldsA w'' w.heap.size l cs
theorem HoldsIn.now {S:Nat→Prop} {w:World} {d:D} {cs:List Value} (h:HoldsIn S w d cs):Holds w w.heap.size d cs:=h w (Nat.le_refl _) fun _ _ _=>rfl
theorem HoldsInA.now {S:Nat→Prop} {w:World} {l:List D} {cs:List Value} (h:HoldsInA S w l cs):HoldsA w w.heap.size l cs:=h w (Nat.le_refl _) fun _ _ _=>rfl
theorem HoldsIn.mono {S T:Nat→Prop} {w:World} {d:D} {cs:List Value} (h:HoldsIn S w d cs) (hST: ∀i,i<w.heap.size→S i→T i):HoldsIn T w d cs:=
 fun w'' h1 h2=>h w'' h1 fun p p1 p2=>h2 p (hST _ p2 p1) p2
theorem HoldsIn.of_fresh {b:Nat} {w:World} {d:D} {cs:List Value} (h:Fresh b w d cs):HoldsIn (fun i=>b≤i) w d cs:=h
theorem HoldsIn.of_old {B:Nat} {w w':World} {d:D} {cs:List Value} (h:Holds w B d cs) (hB:B≤w.heap.size) (hb:Below B w w'):HoldsIn (fun i=>i<B) w' d cs:=fun _ _ h2=>
 (h.keep (fun p hp=>(h2 p hp (Nat.lt_of_lt_of_le hp (Nat.le_trans hB hb.size))).trans (hb.cell hp))).more (Nat.le_trans hB hb.size)
theorem HoldsIn.later {S:Nat→Prop} {w w':World} {d:D} {cs:List Value} (h:HoldsIn S w d cs) (hs:w.heap.size≤w'.heap.size) (hk: ∀p:Addr,S p.block→p.block<w.heap.size→w'.cell? p=w.cell? p):HoldsIn S w' d cs:=fun w'' h1 h2=>
 (h w'' (Nat.le_trans hs h1) fun p p1 p2=>(h2 p p1 (Nat.lt_of_lt_of_le p2 hs)).trans (hk p p1 p2)).more hs
theorem HoldsIn.below {S:Nat→Prop} {w w':World} {d:D} {cs:List Value} (h:HoldsIn S w d cs) (hb:Below w.heap.size w w'):HoldsIn S w' d cs:=h.later hb.size fun _ _ p2=>hb.cell p2
theorem HoldsInA.one {S:Nat→Prop} {w:World} {d:D} {cs:List Value} (h:HoldsIn S w d cs):HoldsInA S w [d] cs:=fun w'' h1 h2=>HoldsA.one (h w'' h1 h2)
theorem HoldsInA.app {S:Nat→Prop} {w:World} {l r:List D} {cs es:List Value} (h:HoldsInA S w l cs) (k:HoldsInA S w r es):HoldsInA S w (l++r) (cs++es):=fun w'' h1 h2=>(h w'' h1 h2).app (k w'' h1 h2)
theorem HoldsIn.blk {S:Nat→Prop} {w:World} {g:Nat} {t:TypeId} {cs:Array Value} {l:List D} {s n c:Nat} (h:Blk w g t cs) (hS:S g) (hs: ∀d ∈ l,d.cells=s) (hA:HoldsInA S w l cs.toList) (hn:n=l.length):HoldsIn S w (.row s l) [.slice (some ⟨g,0,none⟩) n c]:=by
 subst hn
 intro w'' h1 h2
 exact⟨_,c,rfl,hs,cs.toList,hA w'' h1 h2,.inr ⟨g,0,rfl,h.lt,fun j u hu=>by
  rw[Nat.zero_add,h2 ⟨g,j,none⟩ hS h.lt]
  exact(h.cell j).trans (by rw[←Array.getElem?_toList];exact hu)⟩⟩
def RowX (S0:Nat→Prop) (b:Nat) (t:TypeId) (s:Nat) (wr:World) (l:List D) (V:Value):Prop:=
 ∃ns,wr.ownsRow b t s V l.length ns∧(∀d ∈ l,d.cells=s)∧HoldsInA (fun i=>S0 i∧V.ownBlock≠some i) wr l ns
theorem RowX.nil (S0:Nat→Prop) (b:Nat) (t:TypeId) (s:Nat) (wr:World):RowX S0 b t s wr [] (.slice none 0 0):=⟨[],World.ownsRow_nil _ _ _ _,fun d hd=>(by cases hd),fun _ _ _=>rfl⟩
theorem RowX.base {S0:Nat→Prop} {b:Nat} {t:TypeId} {s:Nat} {wr:World} {l:List D} {V:Value} (h:RowX S0 b t s wr l V): ∀g,V.ownBlock=some g→b≤g∧g<wr.heap.size:=by
 obtain⟨ns,h1,_⟩:=h
 exact h1.lt
theorem RowX.keep {S0:Nat→Prop} {b:Nat} {t:TypeId} {s:Nat} {wr w':World} {l:List D} {V:Value} (h:RowX S0 b t s wr l V) (hs:wr.heap.size≤w'.heap.size) (hk: ∀i,i<wr.heap.size→w'.heap[i]? =wr.heap[i]?):RowX S0 b t s w' l V:=by
 obtain⟨ns,h1,h2,h3⟩:=h
 refine⟨ns,⟨h1.1, ?_⟩,h2,fun w'' k1 k2=>HoldsA.more (h3 w'' (by omega) (fun p p1 p2=>(k2 p p1 (by omega)).trans (World.cell?_of_block (hk p.block p2)))) hs⟩
 rcases h1.2 with⟨rfl,h0⟩|⟨g,cap,cur,rfl,hbg,hg,h5⟩
 · exact .inl ⟨rfl,h0⟩
 · exact .inr ⟨g,cap,cur,rfl,hbg,(hk g (Array.getElem?_eq_some_iff.1 hg).1).trans hg,h5⟩
theorem RowX.below {S0:Nat→Prop} {b:Nat} {t:TypeId} {s:Nat} {wr w':World} {l:List D} {V:Value} (h:RowX S0 b t s wr l V) (hb:Below wr.heap.size wr w'):RowX S0 b t s w' l V:=h.keep hb.size fun i hi=>hb.block i hi
theorem RowX.slice {S0:Nat→Prop} {b:Nat} {t:TypeId} {s:Nat} {wr:World} {l:List D} {V:Value} (h:RowX S0 b t s wr l V): ∃a c,V=.slice a l.length c:=by
 obtain⟨ns,h1,_⟩:=h
 rcases h1.2 with⟨rfl,h0⟩|⟨g,cap,cur,rfl,_⟩
 · exact⟨_,_,by rw[h0]⟩
 · exact⟨_,_,rfl⟩
theorem RowX.slice_n {S0:Nat→Prop} {b:Nat} {t:TypeId} {s n:Nat} {wr:World} {l:List D} {V:Value} (h:RowX S0 b t s wr l V) (hn:l.length=n): ∃a c,V=.slice a n c:=by
 subst hn;exact h.slice
theorem RowX.close {S0:Nat→Prop} {b:Nat} {t:TypeId} {s:Nat} {wr:World} {l:List D} {a:Option Addr} {n c:Nat} (h:RowX S0 b t s wr l (.slice a n c)):Holds wr wr.heap.size (.row s l) [.slice a n c]:=by
 obtain⟨ns,h1,h2,h3⟩:=h
 have h1':=h1
 rcases h1.2 with⟨e,h0⟩|⟨g,cap,cur,e,hbg,hg,hnc,_⟩
 · cases e
   have hl:l= []:=List.eq_nil_of_length_eq_zero h0
   subst hl
   exact⟨none,0,rfl,h2, [],rfl,.inl rfl⟩
 · cases e
   have hgl:=(Array.getElem?_eq_some_iff.1 hg).1
   refine⟨_,_,rfl,h2,ns,h3.now,.inr ⟨g,0,rfl,hgl,fun j u hu=> ?_⟩⟩
   have h5:=h1'.cells (g:=g) rfl j u hu
   rwa [add_plain']at h5
theorem RowX.closeIn {S0:Nat→Prop} {b:Nat} {t:TypeId} {s:Nat} {wr:World} {l:List D} {a:Option Addr} {n c:Nat} (h:RowX S0 b t s wr l (.slice a n c)):HoldsIn (fun i=>S0 i∨(Value.slice a n c).ownBlock=some i) wr (.row s l) [.slice a n c]:=by
 obtain⟨ns,h1,h2,h3⟩:=h
 have h1':=h1
 intro w'' k1 k2
 have hA:=h3 w'' k1 fun p p1 p2=>k2 p (.inl p1.1) p2
 rcases h1.2 with⟨e,h0⟩|⟨g,cap,cur,e,hbg,hg,hnc,_⟩
 · cases e
   have hl:l= []:=List.eq_nil_of_length_eq_zero h0
   subst hl
   exact⟨none,0,rfl,h2, [],rfl,.inl rfl⟩
 · cases e
   have hgl:=(Array.getElem?_eq_some_iff.1 hg).1
   refine⟨_,_,rfl,h2,ns,hA,.inr ⟨g,0,rfl,hgl,fun j u hu=> ?_⟩⟩
   have h5:=h1'.cells (g:=g) rfl j u hu
   rw[add_plain']at h5
   exact(k2 ⟨g,0+j,none⟩ (.inr rfl) hgl).trans h5
section
variable {P:Program}
theorem run_append_X {t ty e:TypeId} {i:TypeInfo} {z:Value} {sz bytes:Nat} (ht:P.underlying t=some (.slice e)) (hi:P.info? e=some i) (hz:i.zero=some z) (hsize:i.size=sz) (hby:i.bytes=bytes) (hzs:z.cells.size=sz) (hsz:0<sz)
 {S0:Nat→Prop} {b:Nat} {w:World} {l:List D} {V:Value} (hrow:RowX S0 b e sz w l V) (hbw:b≤w.heap.size) {d:D} {cs:List Value} (hd:d.cells=sz) (hx:HoldsIn (fun i=>S0 i∧V.ownBlock≠some i) w d cs)
 {B:Nat} {A:Option Addr} {c:Nat} (hr:Reads w B sz A 1 cs) (h63:l.length+1≤maxLen) (hbytes:(l.length+1)*bytes≤140737488355328):
 ∃V' w6,(Builtin.append_ #[t,t] ty #[V,.slice A 1 c]).run P w=.ok V' w6∧RowX S0 b e sz w6 (l++ [d]) V'∧w.grownBy w6 V.ownBlock∧(V'.ownBlock=V.ownBlock∨V'.ownBlock=some w.heap.size):=by
 obtain⟨ns,h1,h2,h3⟩:=hrow
 obtain⟨V',w6,hrun,g1,g2,g3⟩:=run_append_any (P:=P) w b t ty e i z sz bytes ht hi hz hsize hby hzs hsz V l.length ns h1 B A 1 c cs hr hx.now.len.2 h63 hbytes hbw
 refine⟨V',w6,hrun,⟨ns++cs,by rw[List.length_append];exact g1, ?_, ?_⟩,g2,g3⟩
 · intro x hx'
   rcases List.mem_append.1 hx' with hx'|hx'
   · exact h2 x hx'
   · simp only[List.mem_cons,List.not_mem_nil,or_false]at hx'
     rw[hx'];exact hd
 · have key: ∀p:Addr,V.ownBlock≠some p.block→p.block<w.heap.size→V'.ownBlock≠some p.block:=by
    intro p p1 p2
    rcases g3 with e3|e3
    · rw[e3];exact p1
    · rw[e3];intro e4;have:=Option.some.inj e4;omega
   have hag: ∀w'':World,w6.heap.size≤w''.heap.size→(∀p:Addr,S0 p.block∧V'.ownBlock≠some p.block→p.block<w6.heap.size→w''.cell? p=w6.cell? p)→ ∀p:Addr,S0 p.block∧V.ownBlock≠some p.block→p.block<w.heap.size→w''.cell? p=w.cell? p:=by
    intro w'' k1 k2 p p1 p2
    rw[k2 p ⟨p1.1,key p p1.2 p2⟩ (Nat.lt_of_lt_of_le p2 g2.size)]
    exact World.cell?_of_block (g2.block p.block p2 (fun e=>p1.2 e.symm))
   intro w'' k1 k2
   have a1:=HoldsA.more (h3 w'' (Nat.le_trans g2.size k1) (hag w'' k1 k2)) g2.size
   have a2:=Holds.more (hx w'' (Nat.le_trans g2.size k1) (hag w'' k1 k2)) g2.size
   exact a1.snoc a2
theorem wp_append_X {o:Oper} {a:Act} {w:World} {K:Act→World→Prop} {Q:Exit→Act→World→Prop} (s x:Operand) (t:TypeId) {e:TypeId}
 (ho:o.op=.call {callee:=.builtin .append,args:= #[s,x],argTypes:= #[t,t]}) {i:TypeInfo} {z:Value} {sz bytes:Nat} (ht:P.underlying t=some (.slice e)) (hi:P.info? e=some i) (hz:i.zero=some z) (hsize:i.size=sz) (hby:i.bytes=bytes) (hzs:z.cells.size=sz) (hsz:0<sz)
 {S0:Nat→Prop} {b:Nat} {l:List D} {V:Value} (hs:a.eval s=V) (hrow:RowX S0 b e sz w l V) (hbw:b≤w.heap.size) {d:D} {cs:List Value} (hd:d.cells=sz) (hf:HoldsIn (fun i=>S0 i∧V.ownBlock≠some i) w d cs)
 {B:Nat} {A:Option Addr} {c:Nat} (hx:a.eval x=.slice A 1 c) (hr:Reads w B sz A 1 cs) (h63:l.length+1≤maxLen) (hbytes:(l.length+1)*bytes≤140737488355328)
 (h: ∀V' w6,RowX S0 b e sz w6 (l++ [d]) V'→w.grownBy w6 V.ownBlock→(V'.ownBlock=V.ownBlock∨V'.ownBlock=some w.heap.size)→K (a.put o.dst V') w6):o.wp P a w K Q:=by
 obtain⟨V',w6,hrun,g1,g2,g3⟩:=run_append_X (ty:=o.type) (c:=c) ht hi hz hsize hby hzs hsz hrow hbw hd hf hr h63 hbytes
 unfold Oper.wp execOp
 simp only[ho,resolve,invoke,builtin,Sem.run_bind,Sem.run_pure,Result.andThen_ok,List.map_toArray,List.map_cons,List.map_nil,hs,hx,hrun]
 exact h V' w6 g1 g2 g3
theorem wpList_append_X {ops:Array Oper} {rest:List Oper} {o:Oper} {a:Act} {w:World} {Q:Exit→Act→World→Prop} (hgd:o.guard=none) (s x:Operand) (t:TypeId) {e:TypeId}
 (ho:o.op=.call {callee:=.builtin .append,args:= #[s,x],argTypes:= #[t,t]}) {i:TypeInfo} {z:Value} {sz bytes:Nat} (ht:P.underlying t=some (.slice e)) (hi:P.info? e=some i) (hz:i.zero=some z) (hsize:i.size=sz) (hby:i.bytes=bytes) (hzs:z.cells.size=sz) (hsz:0<sz)
 {S0:Nat→Prop} {b:Nat} {l:List D} {V:Value} (hs:a.eval s=V) (hrow:RowX S0 b e sz w l V) (hbw:b≤w.heap.size) {d:D} {cs:List Value} (hd:d.cells=sz) (hf:HoldsIn (fun i=>S0 i∧V.ownBlock≠some i) w d cs)
 {B:Nat} {A:Option Addr} {c:Nat} (hx:a.eval x=.slice A 1 c) (hr:Reads w B sz A 1 cs) (h63:l.length+1≤maxLen) (hbytes:(l.length+1)*bytes≤140737488355328)
 (h: ∀V' w6,RowX S0 b e sz w6 (l++ [d]) V'→w.grownBy w6 V.ownBlock→(V'.ownBlock=V.ownBlock∨V'.ownBlock=some w.heap.size)→wpList P ops Q rest (a.put o.dst V') w6):wpList P ops Q (o::rest) a w:=
 wpList_plain hgd fun _ hK=>wp_append_X s x t ho ht hi hz hsize hby hzs hsz hs hrow hbw hd hf hx hr h63 hbytes fun V' w6 h2 h3 h4=>hK _ _ (h V' w6 h2 h3 h4)
end
end Go.Proofs.YtkkbplakgldlpaaGreatDoor

namespace Go.Proofs.YtkkbplakgldlpaaGreatDoor
open Go Go.RowKit
theorem reads_one {w:World} {g:Nat} {t:TypeId} {cs:Array Value} (h:Blk w g t cs):Reads w (g+1) cs.size (some ⟨g,0,none⟩) 1 cs.toList:=by
 refine⟨by simp,fun _=>⟨_,rfl,by simp,fun j u hu=> ?_⟩⟩
 rw[add_plain',Nat.zero_add]
 exact(h.cell j).trans (by rw[←Array.getElem?_toList];exact hu)
theorem RowD.lit {b:Nat} {t:TypeId} {w:World} {d:D} {cs:Array Value} (hb:b≤w.heap.size) (hd:d.cells=cs.size) (h: ∀w'' B,Holds w'' B d cs.toList):
 RowD b t cs.size (w.alloc (.cells cs t)) [d] (.slice (some ⟨w.heap.size,0,none⟩) 1 1):=
 ⟨cs.toList,World.ownsRow_lit w cs 1 hb (by simp[maxLen]) (by simp),fun x hx=>by simp at hx;rw[hx];exact hd,fun w'' _ _=>HoldsA.one (h w'' _)⟩
theorem RowD.slice {b:Nat} {t:TypeId} {s:Nat} {wr:World} {l:List D} {V:Value} (h:RowD b t s wr l V): ∃a c,V=.slice a l.length c:=by
 obtain⟨ns,h1,_⟩:=h
 rcases h1.2 with⟨rfl,h0⟩|⟨g,cap,cur,rfl,_⟩
 · exact⟨_,_,by rw[h0]⟩
 · exact⟨_,_,rfl⟩
theorem RowD.now {b:Nat} {t:TypeId} {s:Nat} {wr:World} {l:List D} {a:Option Addr} {n c:Nat} (h:RowD b t s wr l (.slice a n c)):Holds wr wr.heap.size (.row s l) [.slice a n c]:=by
 obtain⟨a',c',e,_,hf,_⟩:=h.close
 cases e
 exact hf.now
section
variable {P:Program}
theorem run_append_D {t ty e:TypeId} {i:TypeInfo} {z:Value} {sz bytes:Nat} (ht:P.underlying t=some (.slice e)) (hi:P.info? e=some i) (hz:i.zero=some z) (hsize:i.size=sz) (hby:i.bytes=bytes) (hzs:z.cells.size=sz) (hsz:0<sz)
 {b:Nat} {wr w:World} {l:List D} {V:Value} (hrow:RowD b e sz wr l V) (hbw:b≤wr.heap.size) (hbe:Below wr.heap.size wr w) {d:D} {cs:List Value} (hd:d.cells=sz) (hx:Fresh wr.heap.size w d cs)
 {B:Nat} {A:Option Addr} {c:Nat} (hr:Reads w B sz A 1 cs) (h63:l.length+1≤maxLen) (hbytes:(l.length+1)*bytes≤140737488355328):
 ∃V' w6,(Builtin.append_ #[t,t] ty #[V,.slice A 1 c]).run P w=.ok V' w6∧RowD b e sz w6 (l++ [d]) V'∧w.grownBy w6 V.ownBlock∧(V'.ownBlock=V.ownBlock∨V'.ownBlock=some w.heap.size):=by
 obtain⟨ns,h1,h2,h3⟩:=hrow.below hbe
 have h1r:=hrow
 obtain⟨ns0,k1,k2,k3⟩:=h1r
 have hown:w.ownsRow b e sz V l.length ns0:=by
  refine k1.kept (row:=none) ⟨hbe.os,hbe.tape,hbe.output,hbe.size,fun j hj _=>hbe.block j hj⟩ ?_
  cases hv:V.ownBlock<;>simp
 obtain⟨V',w6,hrun,g1,g2,g3⟩:=run_append_any (P:=P) w b t ty e i z sz bytes ht hi hz hsize hby hzs hsz V l.length ns0 hown B A 1 c cs hr hx.now.len.2 h63 hbytes (Nat.le_trans hbw hbe.size)
 refine⟨V',w6,hrun, ?_,g2,g3⟩
 refine RowD.step hbw k3 k2 hd hx (fun g hg=>(k1.lt g hg).2) g1 ?_ hbe.size g2.size (fun p _ p2=>hbe.cell p2) (fun p _ p2 p3=>World.cell?_of_block (g2.block p.block p2 (fun e=>p3 e.symm)))
 rcases g3 with g3|g3
 · exact .inl g3
 · exact .inr ⟨_,g3,Nat.le_refl _⟩
theorem wp_append_D {o:Oper} {a:Act} {K:Act→World→Prop} {Q:Exit→Act→World→Prop} (s x:Operand) (t:TypeId) {e:TypeId}
 (ho:o.op=.call {callee:=.builtin .append,args:= #[s,x],argTypes:= #[t,t]}) {i:TypeInfo} {z:Value} {sz bytes:Nat} (ht:P.underlying t=some (.slice e)) (hi:P.info? e=some i) (hz:i.zero=some z) (hsize:i.size=sz) (hby:i.bytes=bytes) (hzs:z.cells.size=sz) (hsz:0<sz)
 {b:Nat} {wr w:World} {l:List D} {V:Value} (hs:a.eval s=V) (hrow:RowD b e sz wr l V) (hbw:b≤wr.heap.size) (hbe:Below wr.heap.size wr w) {d:D} {cs:List Value} (hd:d.cells=sz) (hf:Fresh wr.heap.size w d cs)
 {B:Nat} {A:Option Addr} {c:Nat} (hx:a.eval x=.slice A 1 c) (hr:Reads w B sz A 1 cs) (h63:l.length+1≤maxLen) (hbytes:(l.length+1)*bytes≤140737488355328)
 (h: ∀V' w6,RowD b e sz w6 (l++ [d]) V'→w.grownBy w6 V.ownBlock→(V'.ownBlock=V.ownBlock∨V'.ownBlock=some w.heap.size)→K (a.put o.dst V') w6):o.wp P a w K Q:=by
 obtain⟨V',w6,hrun,g1,g2,g3⟩:=run_append_D (ty:=o.type) (c:=c) ht hi hz hsize hby hzs hsz hrow hbw hbe hd hf hr h63 hbytes
 unfold Oper.wp execOp
 simp only[ho,resolve,invoke,builtin,Sem.run_bind,Sem.run_pure,Result.andThen_ok,List.map_toArray,List.map_cons,List.map_nil,hs,hx,hrun]
 exact h V' w6 g1 g2 g3
theorem step_append_D {ops:Array Oper} {o:Oper} {a:Act} {K:Act→World→Prop} {Q:Exit→Act→World→Prop} {E:Prop} (hgd:o.guard=none) (s x:Operand) (t:TypeId) {e:TypeId}
 (ho:o.op=.call {callee:=.builtin .append,args:= #[s,x],argTypes:= #[t,t]}) {i:TypeInfo} {z:Value} {sz bytes:Nat} (ht:P.underlying t=some (.slice e)) (hi:P.info? e=some i) (hz:i.zero=some z) (hsize:i.size=sz) (hby:i.bytes=bytes) (hzs:z.cells.size=sz) (hsz:0<sz)
 {b:Nat} {wr w:World} {l:List D} {V:Value} (hs:a.eval s=V) (hrow:RowD b e sz wr l V) (hbw:b≤wr.heap.size) (hbe:Below wr.heap.size wr w) {d:D} {cs:List Value} (hd:d.cells=sz) (hf:Fresh wr.heap.size w d cs)
 {B:Nat} {A:Option Addr} {c:Nat} (hx:a.eval x=.slice A 1 c) (hr:Reads w B sz A 1 cs) (h63:l.length+1≤maxLen) (hbytes:(l.length+1)*bytes≤140737488355328)
 (h: ∀V' w6,RowD b e sz w6 (l++ [d]) V'→w.grownBy w6 V.ownBlock→(V'.ownBlock=V.ownBlock∨V'.ownBlock=some w.heap.size)→K (a.put o.dst V') w6):
 if Region.wanted o (yielded ops a.tmps)=true then Oper.wp P o a w K Q else E:=by
 have hw:Region.wanted o (yielded ops a.tmps)=true:=by simp[Region.wanted,hgd]
 rw[if_pos hw]
 exact wp_append_D s x t ho ht hi hz hsize hby hzs hsz hs hrow hbw hbe hd hf hx hr h63 hbytes h
end
end Go.Proofs.YtkkbplakgldlpaaGreatDoor
