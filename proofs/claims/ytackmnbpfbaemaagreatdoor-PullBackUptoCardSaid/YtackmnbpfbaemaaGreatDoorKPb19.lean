/- Parts, joined: encode.bytes: how many bytes a value's text has. Condition: a bulk of at most 10^9. commonplaceref01.Quote: the quote of a text. Condition: a text of at most 10^9 bytes. commonplaceref03.Text: the text of a value that may be. Condition: a bulk of at most 10^8. Why a value may not be: the reference's function, of every value. Condition: a bulk of at most 10^9. A value parameter in its box, and the calls on it. Condition: a bulk of at most 10^8. encode.Fits and the reference's. Condition: a bulk of at most 10^8. A patch's ops as data, and why a list of them may not be a patch. Plain. No condition. A value that may be may stand deeper, as long as it is not too deep. Plain. No condition. patch.zero, patch.follows, patch.strange. No condition. parse.reader: comes, word, null, no, yes. Condition: a text of at most 10^9 bytes. -/
import Derived.Test.YtackmnbpfbaemaaGreatDoorProg
import Derived.Deep.QuietTactic
import Derived.Deep.RegionWith
import Derived.WalkKit
import Derived.Lib.Hide
import Derived.Test.YtackmnbpfbaemaaGreatDoorZShelf
import Derived.Test.YtackmnbpfbaemaaGreatDoorKPb4
import Derived.Test.YtackmnbpfbaemaaGreatDoorKPb9
import Derived.Test.YtackmnbpfbaemaaGreatDoorKPb10
import Derived.Test.YtackmnbpfbaemaaGreatDoorKPb11
import Derived.Test.YtackmnbpfbaemaaGreatDoorKPb12
import Derived.Test.YtackmnbpfbaemaaGreatDoorKPb14
import Derived.Test.YtackmnbpfbaemaaGreatDoorKPb16
import Derived.Test.YtackmnbpfbaemaaGreatDoorKPb17
namespace Go.Proofs.YtackmnbpfbaemaaGreatDoor
open Go.RowKit
set_option maxHeartbeats 2000000 in
theorem bytes_calls (v:Val) (cs:List Value) (w:World) (hT:Tabs w) (hV:HoldsV w w.heap.size v cs) (hb:v.bulk≤1000000000) (hok:okV v):
 Calls Tryz.prog 136 #[.agg cs.toArray] w fun e w'=>e= .returned (.int .i64 (textV v).length)∧Below w.heap.size w w':=by
 have hV':=hV
 obtain⟨k,b,n,t,l,o⟩:=v
 simp only[HoldsV]at hV'
 obtain⟨la,lc,oa,oc,rfl,_,_⟩:=hV'
 obtain⟨w1,hw1⟩: ∃w1,w.alloc (.cells (cells6 k b n t la l.length lc oa o.length oc).toArray 39)=w1:=⟨_,rfl⟩
 have hb1:Below w.heap.size w w1:=hw1▸(Below.refl _ _).alloc (Nat.le_refl _) _
 have hz1:w1.heap.size=w.heap.size+1:=by rw[←hw1];simp
 have hc:=writer_calls k b n t l o la oa lc oc false w1 (hT.below hb1) (HoldsV.more hb1.size _ _ (hV.below hb1)) hb hok
 have hown:=fun w=>own_calls k b n t la oa l.length lc o.length oc w
 rw[hz1]at hc
 generalize textV (.mk k b n t l o)=L at*
 have ent:=enters_ownF
 have HC:=Lib.hid hc
 have HO:=Lib.hid hown
 have HAB:=Lib.hid hb1
 subst hw1
 clear hc hown hV hb hok hT hz1 hb1
 go_enter Tryz.func136,Tryz.ntmps136
 go_wp2_with (first|(go_at_call 74;refine(HO.out _).mono ?_;rintro e w2 ⟨rfl,rfl⟩)|(go_at_fn (ownF k);refine(HC.out).mono ?_;rintro e w4 ⟨rfl,h6,h7⟩;have hW4:=h6;obtain⟨pp,vv,hbld⟩:=hW4;have g3:w4.cell? ⟨w.heap.size+1,3,none⟩=some (.int .i64 (L.length:Int)):=by(rw[Lib.cell_of_heap hbld.2.1];rfl)))
 go_ret
 exact⟨rfl,HAB.out.trans (h7.mono (by simp))⟩
end Go.Proofs.YtackmnbpfbaemaaGreatDoor

namespace Go.Proofs.YtackmnbpfbaemaaGreatDoor
open Go.RowKit
theorem encodeRune_len4 (r:Int):(Lib.encodeRune r).length≤4:=by
 unfold Lib.encodeRune Lib.encodeRuneZ
 repeat' split
 all_goals simp
set_option maxRecDepth 100000 in
set_option maxHeartbeats 4000000 in
theorem RQuote_calls (s:ByteArray) (w:World) (hs:s.size≤1000000000) (hv:validB s=true):
 Calls Tryz.prog 54 #[.string s] w fun e w'=>e= .returned (.tuple #[.string ⟨(quoteB s).toArray⟩, .int .i64 0])∧Below w.heap.size w w':=by
 have cV:=RValid_calls s w hs
 rw[hv]at cV
 have cR:=RRunes_calls s w hs
 have hlr:(runes s).length≤s.size:=runesFrom_len _ _ _
 have hsc: ∀x ∈ runes s,scalar x.2:=runesFrom_scalar _ _ _
 unfold quoteB
 generalize runes s=L at*
 have HV:=Lib.hid cV
 have HR:=Lib.hid cR
 have HS:=Lib.hid hsc
 clear cV cR hsc hv
 go_enter Tryz.func54,Tryz.ntmps54
 go_wp2_with (fail)
 with_reducible refine HV.out.mono ?_
 rintro e w' ⟨rfl,rfl⟩
 clear HV
 go_wp2_with (fail)
 with_reducible refine HR.out.mono ?_
 rintro e w1 ⟨⟨v1,v2,rfl,hown⟩,hb1⟩
 clear HR
 obtain⟨la,lc,rfl,hcells⟩: ∃la lc,v1= .slice la L.length lc∧Hid (∀(k:Nat) (x:Nat×Nat),L[k]? =some x→ ∃g off,la=some ⟨g,off,none⟩∧g<w1.heap.size∧w1.cell? ⟨g,off+k,none⟩=some (.int .i64 x.2)):=by
  rcases hown.2 with⟨hv,hz⟩|⟨g,cap,cur,rfl,hbg,hg,hnc,hcm,hcs,htake⟩
  · have hL:L= []:=List.length_eq_zero_iff.1 hz
    subst hL
    exact⟨none,0,hv,fun k x hx=>by simp at hx⟩
  · refine⟨some ⟨g,0,none⟩,cap,rfl,fun k x hx=>⟨g,0,rfl,(Array.getElem?_eq_some_iff.1 hg).1, ?_⟩⟩
    have:=hown.cells (g:=g) rfl k (.int .i64 x.2) (by simp[hx])
    rw[Go.WideShapes.add_plain,Nat.zero_add]at this
    rw[Nat.zero_add]
    exact this
 have hb1':=Lib.hid hb1
 have H0:Hid ((⟨#[34]⟩:ByteArray).data.toList=34::quoteRunes (L.take 0)):=by show _=_;simp[quoteRunes]
 clear hown hb1
 go_wp2_with (fail)
 go_loopw [4,8] (fun o i wr=> ∃(T:ByteArray) (k:Nat),o= .string T∧i= .int .i64 k∧k≤L.length∧Hid (T.data.toList=34::quoteRunes (L.take k))∧Hid (Below w1.heap.size w1 wr)) (fun _ i _=>L.length - (intOf i).toNat)
 case atStart=>exact⟨_,0,rfl,rfl,Nat.zero_le _,H0,Below.refl _ _⟩
 case round=>
  obtain⟨T,k,rfl,rfl,hk,hT,hbw⟩:=hrel
  clear H0
  obtain⟨wo,rfl⟩: ∃wo:World,wo=wr:=⟨_,rfl⟩
  have hTs:T.size≤6*L.length+1:=by
   have h1:=congrArg List.length hT.out
   have h2:=quoteRunes_len (L.take k)
   have h3:(L.take k).length≤L.length:=by rw[List.length_take];omega
   have h4:T.data.toList.length=T.size:=by rw[Array.length_toList];rfl
   simp only[List.length_cons]at h1
   omega
  by_cases hlt:k<L.length
  · obtain⟨⟨p,r⟩,hx⟩: ∃v,L[k]? =some v:=⟨_,List.getElem?_eq_getElem hlt⟩
    obtain⟨g,off,rfl,hg,hc0⟩:=hcells.out k _ hx
    have hc:wo.cell? ⟨g,off+k,none⟩=some (.int .i64 r):=(hbw.out.cell (p:=⟨g,off+k,none⟩) hg).trans hc0
    have hsc:=HS.out _ (List.mem_of_getElem? hx)
    unfold scalar at hsc
    simp only at hsc
    obtain⟨hsc1,hsc2⟩:=hsc
    have htk:L.take (k+1)=L.take k++ [(p,r)]:=by rw[List.take_add_one,hx];rfl
    have hsn:Hid (34::quoteRunes (L.take (k+1))=T.data.toList++quoteRune r):=by
     show _=_
     rw[htk,hT.out];simp[quoteRunes]
    have Hsc:=Lib.hid hsc2
    have hB0:Hid (Below w1.heap.size w1 wo):=hbw
    have hN0:Hid (NoLet r 0):=fun i hi=>by omega
    clear hT htk hx hc0 hsc2 hbw
    go_wp2_with (fail)
    go_loopw [10] (fun j wr=> ∃n:Nat,j= .int .i64 n∧n≤8∧Hid (NoLet r n)∧Hid (Below w1.heap.size w1 wr)) (fun j _=>8 - (intOf j).toNat)
    case atStart=>exact⟨0,rfl,by omega,hN0,hB0⟩
    case round=>
     obtain⟨n,rfl,hn,hno,hbw⟩:=hrel
     clear hN0 hB0
     rcases(by omega:n=2∨(n≠2∧n<8)∨n=8)with rfl|⟨hn2,hn8⟩|rfl
     · have hno':=Lib.hid (hno.out.step (.inl rfl))
       clear hno hsn hc
       go_wp2_with (fail)
       go_roundw
       case rel=>exact⟨2+1,rfl,by omega,hno',hbw⟩
       case measure=>simp[intOf]
     · obtain⟨c,hcc⟩: ∃c,codeTab[n]? =some c:=⟨_,List.getElem?_eq_getElem hn8⟩
       have hcd:codeTab.getD n 0=c:=by simp[List.getD,hcc]
       have cC:=Lib.hid (RCode_calls n c hcc wr)
       have hn2':((n:Int)==2)=false:=by simp;omega
       by_cases hcr:c=(r:Int)
       · have hq:quoteRune r= [92,letTab.getD n 0]:=by
          have:=quoteRune_let ⟨n,hn8⟩ hn2
          simp only[hcd,hcr,Int.toNat_natCast]at this
          exact this
         rw[hq]at hsn
         subst hcr
         have hlet:=fun w=>run_let n hn8 w
         generalize letTab.getD n 0=c8 at hsn hlet
         have hT':Hid ((T++⟨#[92]⟩++⟨#[c8]⟩).data.toList=34::quoteRunes (L.take (k+1))):=by
          show _=_
          rw[hsn.out,ByteArray.data_append,Array.toList_append,ByteArray.data_append,Array.toList_append]
          simp
         clear hno hsn hcc hcd hc hq
         go_wp2_with (fail)
         with_reducible refine cC.out.mono ?_
         rintro e w2 ⟨rfl,hb2⟩
         have hbw2:=Lib.hid (hbw.out.trans (hb2.mono hbw.out.size))
         clear hb2 hbw cC
         have hl2:=hlet w2
         clear hlet
         go_wp2
         go_roundw
         case rel=>exact⟨_,k+1,rfl,by go_num,by omega,hT',hbw2⟩
         case measure=>simp only[intOf];omega
       · have hno':=Lib.hid (hno.out.step (.inr (by rw[hcd];exact hcr)))
         have hcr1:(c==(r:Int))=false:=by simpa using hcr
         have hcr2:(c != (r:Int))=true:=by simpa using hcr
         clear hno hsn hcc hcd hc hcr
         go_wp2_with (fail)
         with_reducible refine cC.out.mono ?_
         rintro e w2 ⟨rfl,hb2⟩
         have hbw2:=Lib.hid (hbw.out.trans (hb2.mono hbw.out.size))
         clear hb2 hbw cC
         go_wp2
         go_roundw
         case rel=>exact⟨n+1,by go_num,by omega,hno',hbw2⟩
         case measure=>simp only[intOf];omega
     · have hq:=quoteRune_no hno.out
       rw[hq]at hsn
       clear hno hc hq
       by_cases h32:r<32
       · rw[if_pos h32]at hsn
         have hT':Hid ((T++⟨#[92,117,48,48]⟩++⟨#[hexd (r / 16)]⟩++⟨#[hexd (r % 16)]⟩).data.toList=34::quoteRunes (L.take (k+1))):=by
          show _=_
          rw[hsn.out,ByteArray.data_append,Array.toList_append,ByteArray.data_append,Array.toList_append,ByteArray.data_append,Array.toList_append]
          simp
         have hx1:=fun w=>run_hex (r / 16) (by omega) w
         have hx2:=fun w=>run_hex (r % 16) (by omega) w
         have hq16:(r:Int) / 16=((r / 16:Nat):Int):=by omega
         have hm16:(r:Int) % 16=((r % 16:Nat):Int):=by omega
         have hq16':(r:Int).tdiv 16=((r / 16:Nat):Int):=by rw[Int.tdiv_eq_ediv_of_nonneg (by omega)];omega
         have hm16':(r:Int).tmod 16=((r % 16:Nat):Int):=by rw[Int.tmod_eq_emod_of_nonneg (by omega)];omega
         have hql:r / 16<2:=by omega
         have hml:r % 16<16:=by omega
         generalize hexd (r / 16)=e1 at*
         generalize hexd (r % 16)=e2 at*
         generalize r / 16=q at*
         generalize r % 16=m at*
         have hw1:IntKind.i64.wrap ((q:Int)+1)=(q:Int)+1:=IntWalk.i64_in _ (by omega)
         have hw2:IntKind.i64.wrap ((m:Int)+1)=(m:Int)+1:=IntWalk.i64_in _ (by omega)
         clear hsn
         go_wp2_with (fail)
         go_quiet (fail)
         have hbw2:=Lib.hid (below_drewN hbw.out nq)
         clear hx1 hx2 hq16 hm16 hq16' hm16' hw1 hw2 hbw
         go_wp2
         go_roundw
         case rel=>exact⟨_,k+1,rfl,by go_num,by omega,hT',hbw2⟩
         case measure=>simp only[intOf];omega
       · rw[if_neg h32]at hsn
         have cB:=Lib.hid (RBytes_calls r (by omega) (by omega) (by have:=Hsc.out;omega) wr)
         have hel:(Lib.encodeRune (r:Int)).length≤4:=encodeRune_len4 r
         obtain⟨X,hX⟩: ∃X:ByteArray,(⟨(Lib.encodeRune (r:Int)).toArray⟩:ByteArray)=X:=⟨_,rfl⟩
         have hXs:X.size≤4:=by rw[←hX];exact hel
         have hT':Hid ((T++X).data.toList=34::quoteRunes (L.take (k+1))):=by
          show _=_
          rw[hsn.out,ByteArray.data_append,Array.toList_append,←hX]
         rw[hX]at cB
         clear hsn hel hX
         go_wp2_with (fail)
         with_reducible refine cB.out.mono ?_
         rintro e w2 ⟨rfl,hb2⟩
         have hbw2:=Lib.hid (hbw.out.trans (hb2.mono hbw.out.size))
         clear hb2 hbw cB
         go_wp2
         go_roundw
         case rel=>exact⟨_,k+1,rfl,by go_num,by omega,hT',hbw2⟩
         case measure=>simp only[intOf];omega
  · obtain rfl:k=L.length:=by omega
    have hT':=hT.out
    rw[List.take_length]at hT'
    have hE:(⟨(34::(quoteRunes L++ [34])).toArray⟩:ByteArray)=T++⟨#[34]⟩:=by
     apply ByteArray.ext
     rw[ByteArray.data_append]
     apply Array.ext'
     rw[Array.toList_append,hT']
     simp
    have HE:=Lib.hid hE
    clear hT hT' hE
    go_wp2
    go_ret2
    exact⟨by rw[HE.out];rfl,hb1'.out.trans (hbw.out.mono hb1'.out.size)⟩
end Go.Proofs.YtackmnbpfbaemaaGreatDoor

namespace Go.Proofs.YtackmnbpfbaemaaGreatDoor
open Go.RowKit
def RTextC (v:Val):Prop:= ∀(cs:List Value) (w:World) (d:Int),HoldsV w w.heap.size v cs→v.bulk≤100000000→mayV v d=0→inV v→
    Calls Tryz.prog 30 #[.agg cs.toArray] w fun e w'=>e= .returned (.string ⟨(textV v).toArray⟩)∧Below w.heap.size w w'
theorem bytes_eq {T:ByteArray} {l:List UInt8} (h:T.data.toList=l):(⟨l.toArray⟩:ByteArray)=T:=by
 subst h
 rfl
theorem app_list (a b:ByteArray):(a++b).data.toList=a.data.toList++b.data.toList:=by
 rw[ByteArray.data_append,Array.toList_append]
set_option maxRecDepth 100000 in
set_option maxHeartbeats 2000000 in
theorem rtext_list (b:Bool) (n:Int) (t:ByteArray) (l:List Val) (IH: ∀v ∈ l,RTextC v) (la oa:Option Addr) (oc lc:Nat) (w:World) (d:Int) (hl:l= []∨ ∃g off,la=some ⟨g,off,none⟩∧g<w.heap.size∧HoldsL w w.heap.size l g off)
 (hb:bulkL l≤100000000) (hm:mayL l d=0) (hi:inL l) (hlen:(textL l true).length≤700000000):
 Calls Tryz.prog 30 #[.agg #[.int .i64 5, .bool b, .int .i64 n, .string t, .slice la l.length lc, .slice oa 0 oc]] w fun e w'=>e= .returned (.string ⟨(91::(textL l true++ [93])).toArray⟩)∧Below w.heap.size w w':=by
 have hln:=bulkL_len l
 have H0:Hid ((⟨#[91]⟩:ByteArray).data.toList=91::textL (l.take 0) true):=by show _=_;simp[textL]
 have HI:=Lib.hid IH
 have HM:=Lib.hid (mayL_all hm)
 have Hi:=Lib.hid (fun x hx=>inL_mem hi (x:=x) hx)
 clear IH hm hi
 go_enter Tryz.func30,Tryz.ntmps30
 go_wp2_with (fail)
 have hb1:Below w.heap.size w (w.alloc (.cells #[.int .i64 5, .bool b, .int .i64 n, .string t, .slice la l.length lc, .slice oa 0 oc] 39)):=(Below.refl _ _).alloc (Nat.le_refl _) _
 have hbx1:(w.alloc (.cells #[.int .i64 5, .bool b, .int .i64 n, .string t, .slice la l.length lc, .slice oa 0 oc] 39)).heap[w.heap.size]? =some (.cells #[.int .i64 5, .bool b, .int .i64 n, .string t, .slice la l.length lc, .slice oa 0 oc] 39 (0,0)):=heap_alloc_new _ _
 have HB1:=Lib.hid hb1
 have HX1:=Lib.hid hbx1
 clear hb1 hbx1
 go_loopw [5,6] (fun o i wr=> ∃(T:ByteArray) (k:Nat),o= .string T∧i= .int .i64 k∧k≤l.length∧Hid (T.data.toList=91::textL (l.take k) true)∧Hid (Below w.heap.size w wr)∧Hid (wr.heap[w.heap.size]? =some (.cells #[.int .i64 5, .bool b, .int .i64 n, .string t, .slice la l.length lc, .slice oa 0 oc] 39 (0,0)))) (fun _ i _=>l.length - (intOf i).toNat)
 case atStart=>exact⟨_,0,rfl,rfl,Nat.zero_le _,H0,HB1,HX1⟩
 case round=>
  obtain⟨T,k,rfl,rfl,hk,hT,hbw,hbx⟩:=hrel
  clear H0 HB1 HX1
  have hTs:T.size≤700000001:=by
   have h1:=congrArg List.length hT.out
   have h2:=textL_take_len l k true
   have h3:=size_list T
   simp only[List.length_cons]at h1
   omega
  have b4:wr.cell? ⟨w.heap.size,4,none⟩=some (.slice la l.length lc):=by rw[Lib.cell_of_heap hbx.out];rfl
  have hz:w.heap.size<wr.heap.size:=(Array.getElem?_eq_some_iff.1 hbx.out).1
  by_cases hlt:k<l.length
  · obtain⟨g,off,rfl,hg,hL⟩: ∃g off,la=some ⟨g,off,none⟩∧g<w.heap.size∧HoldsL w w.heap.size l g off:=by
     rcases hl with rfl|h
     · simp at hlt
     · exact h
    obtain⟨x,hx⟩: ∃v,l[k]? =some v:=⟨_,List.getElem?_eq_getElem hlt⟩
    have hmem:x ∈ l:=List.mem_of_getElem? hx
    have hmx:=HM.out x hmem
    have hix:=Hi.out x hmem
    have hbv:=bulkL_mem hmem
    have htk:l.take (k+1)=l.take k++ [x]:=by rw[List.take_add_one,hx];rfl
    have hsn:=textL_snoc x (l.take k) true
    rw[←htk]at hsn
    have hXl:(textV x).length≤700000000:=by
     have h1:=congrArg List.length hsn
     have h2:=textL_take_len l (k+1) true
     simp only[List.length_append]at h1
     omega
    have IHx:=HI.out x hmem
    obtain⟨X,hX⟩: ∃X:ByteArray,(⟨(textV x).toArray⟩:ByteArray)=X:=⟨_,rfl⟩
    have hXs:X.size≤700000000:=by rw[←hX,size_mk];exact hXl
    have hXd:X.data.toList=textV x:=by rw[←hX]
    obtain⟨k',b',n',t',l',o'⟩:=x
    obtain⟨la',lc',oa',oc',hvs,c0,c1,c2,c3,c4,c5⟩:=(hL.below hg hbw.out).six hx
    have CT:=IHx _ wr d (HoldsV.more (by omega) _ _ hvs) (by omega) hmx hix
    rw[hX]at CT
    have hTd:Hid (T.data.toList++((if true&&(l.take k).isEmpty then []else [44])++X.data.toList)=91::textL (l.take (k+1)) true):=by
     show _=_
     rw[hsn,hT.out,hXd];rfl
    have hCT:=Lib.hid CT
    clear CT hX hXd hXl hsn htk hmx hix hbv hmem hx hL hg IHx hvs
    have hne:k≠0→(l.take k).isEmpty=false:=by
     intro h
     rw[List.isEmpty_eq_false_iff]
     intro e
     have:=congrArg List.length e
     rw[List.length_take,List.length_nil]at this
     omega
    by_cases hk0:k=0
    · subst hk0
      simp only[Nat.zero_mul,Nat.add_zero]at c0 c1 c2 c3 c4 c5
      have hTd':Hid ((T++X).data.toList=91::textL (l.take (0+1)) true):=by
       have:=hTd.out
       show _=_
       rw[app_list,←this]
       simp
      clear hTd hT hne
      go_wp2_with (fail)
      with_reducible refine hCT.out.mono ?_
      rintro e w4 ⟨rfl,hb4⟩
      have hbw4:=Lib.hid (hbw.out.trans (hb4.mono (by omega)))
      have hbx4:=Lib.hid ((hb4.block _ hz).trans hbx.out)
      clear hb4 hbw hbx
      go_wp2
      go_roundw
      case rel=>exact⟨_,0+1,rfl,by go_num,by omega,hTd',hbw4,hbx4⟩
      case measure=>simp only[intOf];omega
    · have hTd':Hid ((T++⟨#[44]⟩++X).data.toList=91::textL (l.take (k+1)) true):=by
       have:=hTd.out
       show _=_
       rw[app_list,app_list,←this,hne hk0]
       simp
      clear hTd hT hne
      have hkp:0<k:=by omega
      go_wp2_with (fail)
      with_reducible refine hCT.out.mono ?_
      rintro e w4 ⟨rfl,hb4⟩
      have hbw4:=Lib.hid (hbw.out.trans (hb4.mono (by omega)))
      have hbx4:=Lib.hid ((hb4.block _ hz).trans hbx.out)
      clear hb4 hbw hbx
      go_wp2
      go_roundw
      case rel=>exact⟨_,k+1,rfl,by go_num,by omega,hTd',hbw4,hbx4⟩
      case measure=>simp only[intOf];omega
  · obtain rfl:k=l.length:=by omega
    have hT':=hT.out
    rw[List.take_length]at hT'
    have hE:(⟨(91::(textL l true++ [93])).toArray⟩:ByteArray)=T++⟨#[93]⟩:=bytes_eq (by rw[app_list,hT'];simp)
    have HE:=Lib.hid hE
    clear hE hT hT' hl
    go_wp2
    go_ret
    exact⟨by rw[HE.out];rfl,hbw.out⟩
set_option maxRecDepth 100000 in
set_option maxHeartbeats 4000000 in
theorem rtext_obj (b:Bool) (n:Int) (t:ByteArray) (l:List (ByteArray×Val)) (IH: ∀m ∈ l,RTextC m.2) (la oa:Option Addr) (oc lc:Nat) (w:World) (d:Int) (hl:l= []∨ ∃g off,oa=some ⟨g,off,none⟩∧g<w.heap.size∧HoldsO w w.heap.size l g off)
 (hb:bulkO l≤100000000) (last:Option ByteArray) (hm:mayO l last d=0) (hi:inO l) (hlen:(textO l true).length≤700000000):
 Calls Tryz.prog 30 #[.agg #[.int .i64 6, .bool b, .int .i64 n, .string t, .slice la 0 lc, .slice oa l.length oc]] w fun e w'=>e= .returned (.string ⟨(123::(textO l true++ [125])).toArray⟩)∧Below w.heap.size w w':=by
 have hln:=bulkO_len l
 have H0:Hid ((⟨#[123]⟩:ByteArray).data.toList=123::textO (l.take 0) true):=by show _=_;simp[textO]
 have HI:=Lib.hid IH
 have HM:=Lib.hid (mayO_all hm)
 have Hi:=Lib.hid (fun x hx=>inO_mem hi (x:=x) hx)
 clear IH hm hi
 go_enter Tryz.func30,Tryz.ntmps30
 go_wp2_with (fail)
 have hb1:Below w.heap.size w (w.alloc (.cells #[.int .i64 6, .bool b, .int .i64 n, .string t, .slice la 0 lc, .slice oa l.length oc] 39)):=(Below.refl _ _).alloc (Nat.le_refl _) _
 have hbx1:(w.alloc (.cells #[.int .i64 6, .bool b, .int .i64 n, .string t, .slice la 0 lc, .slice oa l.length oc] 39)).heap[w.heap.size]? =some (.cells #[.int .i64 6, .bool b, .int .i64 n, .string t, .slice la 0 lc, .slice oa l.length oc] 39 (0,0)):=heap_alloc_new _ _
 have HB1:=Lib.hid hb1
 have HX1:=Lib.hid hbx1
 clear hb1 hbx1
 go_loopw [7,8] (fun o i wr=> ∃(T:ByteArray) (k:Nat),o= .string T∧i= .int .i64 k∧k≤l.length∧Hid (T.data.toList=123::textO (l.take k) true)∧Hid (Below w.heap.size w wr)∧Hid (wr.heap[w.heap.size]? =some (.cells #[.int .i64 6, .bool b, .int .i64 n, .string t, .slice la 0 lc, .slice oa l.length oc] 39 (0,0)))) (fun _ i _=>l.length - (intOf i).toNat)
 case atStart=>exact⟨_,0,rfl,rfl,Nat.zero_le _,H0,HB1,HX1⟩
 case round=>
  obtain⟨T,k,rfl,rfl,hk,hT,hbw,hbx⟩:=hrel
  clear H0 HB1 HX1
  have hTs:T.size≤700000001:=by
   have h1:=congrArg List.length hT.out
   have h2:=textO_take_len l k true
   have h3:=size_list T
   simp only[List.length_cons]at h1
   omega
  have b4:wr.cell? ⟨w.heap.size,5,none⟩=some (.slice oa l.length oc):=by rw[Lib.cell_of_heap hbx.out];rfl
  have hz:w.heap.size<wr.heap.size:=(Array.getElem?_eq_some_iff.1 hbx.out).1
  by_cases hlt:k<l.length
  · obtain⟨g,off,rfl,hg,hL⟩: ∃g off,oa=some ⟨g,off,none⟩∧g<w.heap.size∧HoldsO w w.heap.size l g off:=by
     rcases hl with rfl|h
     · simp at hlt
     · exact h
    obtain⟨⟨key,x⟩,hx⟩: ∃v,l[k]? =some v:=⟨_,List.getElem?_eq_getElem hlt⟩
    have hmem:(key,x) ∈ l:=List.mem_of_getElem? hx
    obtain⟨hkv,hmx⟩:=HM.out _ hmem
    have hix:=Hi.out _ hmem
    have hbv:=bulkO_mem hmem
    simp only at hkv hmx hix hbv
    have htk:l.take (k+1)=l.take k++ [(key,x)]:=by rw[List.take_add_one,hx];rfl
    have hsn:=textO_snoc (key,x) (l.take k) true
    rw[←htk]at hsn
    simp only[textP]at hsn
    have hXl:(textV x).length≤700000000∧(quoteB key).length≤700000000:=by
     have h1:=congrArg List.length hsn
     have h2:=textO_take_len l (k+1) true
     simp only[List.length_append,List.length_cons]at h1
     omega
    have IHx:=HI.out _ hmem
    obtain⟨X,hX⟩: ∃X:ByteArray,(⟨(textV x).toArray⟩:ByteArray)=X:=⟨_,rfl⟩
    have hXs:X.size≤700000000:=by rw[←hX,size_mk];exact hXl.1
    have hXd:X.data.toList=textV x:=by rw[←hX]
    obtain⟨Q,hQ⟩: ∃Q:ByteArray,(⟨(quoteB key).toArray⟩:ByteArray)=Q:=⟨_,rfl⟩
    have hQs:Q.size≤700000000:=by rw[←hQ,size_mk];exact hXl.2
    have hQd:Q.data.toList=quoteB key:=by rw[←hQ]
    have c0:=((hL.below hg hbw.out).at_ hx).1
    simp only at c0
    have CQ:=RQuote_calls key wr (by omega) hkv
    rw[hQ]at CQ
    have hTd:Hid (T.data.toList++((if true&&(l.take k).isEmpty then []else [44])++(Q.data.toList++(58::X.data.toList)))=123::textO (l.take (k+1)) true):=by
     show _=_
     rw[hsn,hT.out,hXd,hQd];rfl
    have hCT:Hid (∀w',Below w.heap.size w w'→ ∀(k':Int) (b':Bool) (n':Int) (t':ByteArray) (l':List Val) (o':List (ByteArray×Val)) (la' oa':Option Addr) (lc' oc':Nat),x= .mk k' b' n' t' l' o'→HoldsV w' w.heap.size x (cells6 k' b' n' t' la' l'.length lc' oa' o'.length oc')→
     Calls Tryz.prog 30 #[.agg #[.int .i64 k', .bool b', .int .i64 n', .string t', .slice la' l'.length lc', .slice oa' o'.length oc']] w' fun e w''=>e= .returned (.string X)∧Below w'.heap.size w' w''):=by
     intro w' hw' k' b' n' t' l' o' la' oa' lc' oc' _ hvs
     have:=IHx _ w' d (HoldsV.more hw'.size _ _ hvs) (show x.bulk≤100000000 from by omega) hmx hix
     rw[hX]at this
     exact this
    have hCQ:=Lib.hid CQ
    have HL:Hid (∀w',Below w.heap.size w w'→HoldsO w' w.heap.size l g off):=fun w' h=>hL.below hg h
    have HXx:=Lib.hid hx
    clear CQ hX hXd hQ hQd hXl hsn htk hmx hix hbv hmem hx hL hg IHx hkv
    have hne:k≠0→(l.take k).isEmpty=false:=by
     intro h
     rw[List.isEmpty_eq_false_iff]
     intro e
     have:=congrArg List.length e
     rw[List.length_take,List.length_nil]at this
     omega
    obtain⟨k',b',n',t',l',o'⟩:=x
    by_cases hk0:k=0
    · subst hk0
      simp only[Nat.zero_mul,Nat.add_zero]at c0
      have hTd':Hid ((T++Q++⟨#[58]⟩++X).data.toList=123::textO (l.take (0+1)) true):=by
       have:=hTd.out
       show _=_
       rw[app_list,app_list,app_list,←this]
       simp
      clear hTd hT hne
      go_wp2_with (fail)
      with_reducible refine hCQ.out.mono ?_
      rintro e w4 ⟨rfl,hb4⟩
      have hbw4:=Lib.hid (hbw.out.trans (hb4.mono (by omega)))
      have hbx4:=Lib.hid ((hb4.block _ hz).trans hbx.out)
      have hz4:w.heap.size<w4.heap.size:=(Array.getElem?_eq_some_iff.1 hbx4.out).1
      have b4':w4.cell? ⟨w.heap.size,5,none⟩=some (.slice (some ⟨g,off,none⟩) l.length oc):=by rw[Lib.cell_of_heap hbx4.out];rfl
      obtain⟨la',lc',oa',oc',hvs,_,e1,e2,e3,e4,e5,e6⟩:=(HL.out _ hbw4.out).seven HXx.out
      simp only[Nat.zero_mul,Nat.add_zero]at e1 e2 e3 e4 e5 e6
      have hCT4:=Lib.hid (hCT.out _ hbw4.out _ _ _ _ _ _ la' oa' lc' oc' rfl hvs)
      clear hb4 hbw hbx b4 c0 hvs hCT HL HXx hCQ
      go_wp2_with (fail)
      with_reducible refine hCT4.out.mono ?_
      rintro e w5 ⟨rfl,hb5⟩
      have hbw5:=Lib.hid (hbw4.out.trans (hb5.mono (by omega)))
      have hbx5:=Lib.hid ((hb5.block _ hz4).trans hbx4.out)
      clear hb5 hbw4 hbx4 hCT4
      go_wp2
      go_roundw
      case rel=>exact⟨_,0+1,rfl,by go_num,by omega,hTd',hbw5,hbx5⟩
      case measure=>simp only[intOf];omega
    · have hTd':Hid ((T++⟨#[44]⟩++Q++⟨#[58]⟩++X).data.toList=123::textO (l.take (k+1)) true):=by
       have:=hTd.out
       show _=_
       rw[app_list,app_list,app_list,app_list,←this,hne hk0]
       simp
      clear hTd hT hne
      have hkp:0<k:=by omega
      go_wp2_with (fail)
      with_reducible refine hCQ.out.mono ?_
      rintro e w4 ⟨rfl,hb4⟩
      have hbw4:=Lib.hid (hbw.out.trans (hb4.mono (by omega)))
      have hbx4:=Lib.hid ((hb4.block _ hz).trans hbx.out)
      have hz4:w.heap.size<w4.heap.size:=(Array.getElem?_eq_some_iff.1 hbx4.out).1
      have b4':w4.cell? ⟨w.heap.size,5,none⟩=some (.slice (some ⟨g,off,none⟩) l.length oc):=by rw[Lib.cell_of_heap hbx4.out];rfl
      obtain⟨la',lc',oa',oc',hvs,_,e1,e2,e3,e4,e5,e6⟩:=(HL.out _ hbw4.out).seven HXx.out
      have hCT4:=Lib.hid (hCT.out _ hbw4.out _ _ _ _ _ _ la' oa' lc' oc' rfl hvs)
      clear hb4 hbw hbx b4 c0 hvs hCT HL HXx hCQ
      go_wp2_with (fail)
      with_reducible refine hCT4.out.mono ?_
      rintro e w5 ⟨rfl,hb5⟩
      have hbw5:=Lib.hid (hbw4.out.trans (hb5.mono (by omega)))
      have hbx5:=Lib.hid ((hb5.block _ hz4).trans hbx4.out)
      clear hb5 hbw4 hbx4 hCT4
      go_wp2
      go_roundw
      case rel=>exact⟨_,k+1,rfl,by go_num,by omega,hTd',hbw5,hbx5⟩
      case measure=>simp only[intOf];omega
  · obtain rfl:k=l.length:=by omega
    have hT':=hT.out
    rw[List.take_length]at hT'
    have hE:(⟨(123::(textO l true++ [125])).toArray⟩:ByteArray)=T++⟨#[125]⟩:=bytes_eq (by rw[app_list,hT'];simp)
    have HE:=Lib.hid hE
    clear hE hT hT' hl
    go_wp2
    go_ret
    exact⟨by rw[HE.out];rfl,hbw.out⟩
set_option maxRecDepth 100000 in
set_option maxHeartbeats 2000000 in
theorem rtext_plain (k:Int) (b:Bool) (n:Int) (t:ByteArray) (l:List Val) (o:List (ByteArray×Val)) (la oa:Option Addr) (oc lc:Nat) (w:World) (h5:k≠5) (h6:k≠6) (hk:k=1∨k=2∨k=3∨k=4) (hs:t.size≤1000000000) (hv:validB t=true)
 (h1: -9223372036854775808≤n) (h2:n≤9223372036854775807):
 Calls Tryz.prog 30 #[.agg #[.int .i64 k, .bool b, .int .i64 n, .string t, .slice la l.length lc, .slice oa o.length oc]] w fun e w'=>e= .returned (.string ⟨(textV (.mk k b n t l o)).toArray⟩)∧Below w.heap.size w w':=by
 simp only[textV]
 rcases hk with rfl|rfl|rfl|rfl
 · rw[if_neg (by decide),if_neg (by decide),if_neg (by decide),if_neg (by decide),if_neg (by decide)]
   go_enter Tryz.func30,Tryz.ntmps30
   go_wp2
   go_ret
   exact⟨rfl,(Below.refl _ _).alloc (Nat.le_refl _) _⟩
 · rw[if_pos rfl]
   cases b
   · go_enter Tryz.func30,Tryz.ntmps30
     go_wp2
     go_ret
     exact⟨rfl,(Below.refl _ _).alloc (Nat.le_refl _) _⟩
   · go_enter Tryz.func30,Tryz.ntmps30
     go_wp2
     go_ret
     exact⟨rfl,(Below.refl _ _).alloc (Nat.le_refl _) _⟩
 · rw[if_neg (by decide),if_pos rfl]
   have cD:=fun w=>Lib.hid (digits_calls n h1 h2 w)
   have HD:=Lib.hid cD
   clear cD
   go_enter Tryz.func30,Tryz.ntmps30
   go_wp2_with (fail)
   with_reducible refine(HD.out _).out.mono ?_
   rintro e w' ⟨rfl,rfl⟩
   go_wp2
   go_ret
   exact⟨rfl,(Below.refl _ _).alloc (Nat.le_refl _) _⟩
 · rw[if_neg (by decide),if_neg (by decide),if_pos rfl]
   have cD:=fun w=>Lib.hid (RQuote_calls t w hs hv)
   have HD:=Lib.hid cD
   clear cD
   go_enter Tryz.func30,Tryz.ntmps30
   go_wp2_with (fail)
   with_reducible refine(HD.out _).out.mono ?_
   rintro e w' ⟨rfl,hb⟩
   go_wp2
   go_ret
   exact⟨rfl,((Below.refl _ _).alloc (Nat.le_refl _) _).trans (hb.mono (by simp))⟩
theorem rtext_calls: ∀v,RTextC v:=by
 refine Val.ind ?_
 intro k b n t l o IHl IHo cs w d hV hb hm hi
 have hok:=okV_of _ d hm hi
 have hlen:=textV_len _ hok
 obtain⟨hodd,_,hvt,hmL,hmO⟩:=mayV_parts hm
 simp only[HoldsV]at hV
 obtain⟨la,lc,oa,oc,rfl,hla,hoa⟩:=hV
 simp only[inV]at hi
 simp only[Val.bulk]at hb hlen
 by_cases h5:k=5
 · subst h5
   have ho:o= []:=by
    have:o.length=0:=by
     unfold oddB at hodd
     simp at hodd
     simp[hodd]
    exact List.length_eq_zero_iff.1 this
   subst ho
   have ht:textV (.mk 5 b n t l [])=91::(textL l true++ [93]):=by simp[textV]
   rw[ht]at hlen ⊢
   simp only[List.length_cons,List.length_append,List.length_nil]at hlen
   exact rtext_list b n t l IHl la oa oc lc w (d+1) hla (by omega) hmL hi.2.1 (by omega)
 by_cases h6:k=6
 · subst h6
   have hl:l= []:=by
    have:l.length=0:=by
     unfold oddB at hodd
     simp at hodd
     simp[hodd]
    exact List.length_eq_zero_iff.1 this
   subst hl
   have ht:textV (.mk 6 b n t [] o)=123::(textO o true++ [125]):=by simp[textV]
   rw[ht]at hlen ⊢
   simp only[List.length_cons,List.length_append,List.length_nil]at hlen
   exact rtext_obj b n t o IHo la oa oc lc w (d+1) hoa (by omega) none hmO hi.2.2 (by omega)
 have hk:k=1∨k=2∨k=3∨k=4:=by
  unfold oddB at hodd
  by_cases a1:k=1
  · exact .inl a1
  by_cases a2:k=2
  · exact .inr (.inl a2)
  by_cases a3:k=3
  · exact .inr (.inr (.inl a3))
  by_cases a4:k=4
  · exact .inr (.inr (.inr a4))
  simp[a1,a2,a3,a4,h5,h6]at hodd
 exact rtext_plain k b n t l o la oa oc lc w h5 h6 hk (by omega) hvt hi.1.1 hi.1.2
end Go.Proofs.YtackmnbpfbaemaaGreatDoor

namespace Go.Proofs.YtackmnbpfbaemaaGreatDoor
open Go.RowKit
set_option maxHeartbeats 2000000 in
theorem mayR_calls: ∀(v:Val),MayRC v:=by
 refine Val.ind ?_
 intro k b n t l o ihl iho cs d w hV hb h0 h65
 simp only[HoldsV]at hV
 obtain⟨la,lc,oa,oc,rfl,hL,hO⟩:=hV
 simp only[Val.bulk]at hb
 by_cases hodd:oddB k b n t l.length o.length=true
 · have hm:mayV (.mk k b n t l o) d=9:=by simp only[mayV,hodd,if_true]
   rw[hm]
   clear hm ihl iho hL hO
   go_enter Tryz.func97,Tryz.ntmps97
   go_wp2_with (go_at_call 137;refine(bare_calls2 hodd _).mono ?_;rintro e w' ⟨rfl,hb1⟩)
   go_ret
   exact⟨rfl,((Below.refl _ _).alloc (Nat.le_refl _) _).trans (hb1.mono (by simp))⟩
 have hodd':oddB k b n t l.length o.length=false:=by simpa using hodd
 clear hodd
 by_cases h64:64<d
 · have hm:mayV (.mk k b n t l o) d=5:=by simp only[mayV,hodd',Bool.false_eq_true,if_false,h64,if_true]
   rw[hm]
   clear hm ihl iho hL hO
   go_enter Tryz.func97,Tryz.ntmps97
   go_wp2_with (go_at_call 137;refine(bare_calls2 hodd' _).mono ?_;rintro e w' ⟨rfl,hb1⟩)
   go_ret
   exact⟨rfl,((Below.refl _ _).alloc (Nat.le_refl _) _).trans (hb1.mono (by simp))⟩
 by_cases hval:validB t=true
 · obtain⟨hk,ht,hl,ho⟩:=odd_parts hodd'
   by_cases hl0:l= []
   · subst hl0
     have hm:mayV (.mk k b n t [] o) d=mayO o none (d+1):=by
      simp only[mayV,hodd',Bool.false_eq_true,if_false,h64,hval,if_true,mayL]
     rw[hm]
     rcases hO with rfl|⟨g,off,rfl,hg,hO⟩
     · exact mayR_obj k b n t [] la oa lc oc d w 0 0 (.inl rfl) (by simp only[bulkO]at hb ⊢;omega) h0 (by omega) iho hodd' hval
     · exact mayR_obj k b n t o la _ lc oc d w g off (.inr ⟨rfl,hg,hO⟩) (by omega) h0 (by omega) iho hodd' hval
   · have hl1:0<l.length:=List.length_pos_iff.2 hl0
     obtain rfl:o= []:=List.eq_nil_of_length_eq_zero (by omega)
     have hm:mayV (.mk k b n t l []) d=mayL l (d+1):=by
      simp only[mayV,hodd',Bool.false_eq_true,if_false,h64,hval,if_true,mayO]
      split<;>simp_all
     rw[hm]
     rcases hL with rfl|⟨g,off,rfl,hg,hL⟩
     · exact absurd rfl hl0
     · exact mayR_list k b n t l _ oa lc oc d w g off (.inr ⟨rfl,hg,hL⟩) (by omega) h0 (by omega) ihl hodd' hval
 · have hval':validB t=false:=by simpa using hval
   have hm:mayV (.mk k b n t l o) d=3:=by simp only[mayV,hodd',Bool.false_eq_true,if_false,h64,hval']
   rw[hm]
   clear hm ihl iho hL hO hval
   go_enter Tryz.func97,Tryz.ntmps97
   go_wp2_with (first|(go_at_call 137;refine(bare_calls2 hodd' _).mono ?_;rintro e w1 ⟨rfl,hb1⟩;obtain⟨hc1,hf1⟩:=bcell hb1;have hz1:=hb1.size;simp only[World.size_alloc]at hz1;have hbw1:Below w.heap.size w w1:=((Below.refl _ _).alloc (Nat.le_refl _) _).trans (hb1.mono (by simp)))|(go_at_call 85;refine(RValid_calls2 hval' _ (by omega)).mono ?_;rintro e w2 ⟨rfl,rfl⟩))
   go_ret
   exact⟨rfl,hbw1⟩
theorem RMay_calls (v:Val) (cs:List Value) (w:World) (hV:HoldsV w w.heap.size v cs) (hb:v.bulk≤1000000000):
 Calls Tryz.prog 63 #[.agg cs.toArray] w fun e w'=>e= .returned (.int .i64 (mayV v 1))∧Below w.heap.size w w':=by
 have hV':=hV
 obtain⟨k,b,n,t,l,o⟩:=v
 simp only[HoldsV]at hV'
 obtain⟨la,lc,oa,oc,rfl,_,_⟩:=hV'
 have hc:=mayR_calls _ _ 1 (w.alloc (.cells #[.int .i64 k, .bool b, .int .i64 n, .string t, .slice la l.length lc, .slice oa o.length oc] 39)) (HoldsV.more (by simp) _ _ (hV.below ((Below.refl _ _).alloc (Nat.le_refl _) _))) hb (by omega) (by omega)
 generalize mayV _ _=m at hc ⊢
 have H:=Lib.hid hc
 clear hc hV
 go_enter Tryz.func63,Tryz.ntmps63
 go_wp2_with (go_at_call 97;refine(H.out).mono ?_;rintro e w' ⟨rfl,hb1⟩)
 go_ret
 exact⟨rfl,((Below.refl _ _).alloc (Nat.le_refl _) _).trans (hb1.mono (by simp))⟩
end Go.Proofs.YtackmnbpfbaemaaGreatDoor

namespace Go.Proofs.YtackmnbpfbaemaaGreatDoor
open Go.RowKit
def Boxd (w:World) (g:Nat) (v:Val) (c:List Value) (w':World):Prop:=
 Below w.heap.size w w'∧w'.heap[g]? =some (.cells c.toArray 39 (0,0))∧Tabs w'∧HoldsV w' w'.heap.size v c
theorem Boxd.step {w w' w'':World} {g:Nat} {v:Val} {c:List Value} (h:Boxd w g v c w') (hb:Below w'.heap.size w' w''):Boxd w g v c w'':=by
 obtain⟨h1,h2,h3,h4⟩:=h
 exact⟨h1.trans (hb.mono h1.size),(hb.block _ (Array.getElem?_eq_some_iff.1 h2).1).trans h2,h3.below hb,HoldsV.more hb.size _ _ (h4.below hb)⟩
theorem Boxd.start {w:World} {v:Val} {c:List Value} (hT:Tabs w) (hV:HoldsV w w.heap.size v c):Boxd w w.heap.size v c (w.alloc (.cells c.toArray 39)):=by
 have hb:Below w.heap.size w (w.alloc (.cells c.toArray 39)):=(Below.refl _ _).alloc (Nat.le_refl _) _
 exact⟨hb,heap_alloc_new _ _,hT.below hb,HoldsV.more hb.size _ _ (hV.below hb)⟩
theorem Boxd.cells {w w':World} {g:Nat} {v:Val} {k:Int} {b:Bool} {n:Int} {t:ByteArray} {x y:Value} (h:Boxd w g v [.int .i64 k, .bool b, .int .i64 n, .string t,x,y] w'):
 w'.cell? ⟨g,0,none⟩=some (.int .i64 k)∧w'.cell? ⟨g,1,none⟩=some (.bool b)∧w'.cell? ⟨g,2,none⟩=some (.int .i64 n)∧w'.cell? ⟨g,3,none⟩=some (.string t)∧w'.cell? ⟨g,4,none⟩=some x∧w'.cell? ⟨g,5,none⟩=some y:=
 box_cells h.2.1
theorem Boxd.tabs {w w':World} {g:Nat} {v:Val} {c:List Value} (h:Boxd w g v c w'):Tabs w':=h.2.2.1
theorem Boxd.below {w w':World} {g:Nat} {v:Val} {c:List Value} (h:Boxd w g v c w'):Below w.heap.size w w':=h.1
end Go.Proofs.YtackmnbpfbaemaaGreatDoor

namespace Go.Proofs.YtackmnbpfbaemaaGreatDoor
open Go.RowKit
def fitsV (v:Val):Int:=if mayV v 1=0 then(if 16<deepV v then 5 else if 1024<(textV v).length then 6 else 0)else mayV v 1
set_option maxRecDepth 100000 in
set_option maxHeartbeats 2000000 in
theorem Fits_calls (v:Val) (cs:List Value) (w:World) (hT:Tabs w) (hV:HoldsV w w.heap.size v cs) (hb:v.bulk≤100000000) (hi:inV v):
 Calls Tryz.prog 96 #[.agg cs.toArray] w fun e w'=>e= .returned (.int .i64 (fitsV v))∧Below w.heap.size w w':=by
 have hV':=hV
 obtain⟨k,b,n,t,l,o⟩:=v
 simp only[HoldsV]at hV'
 obtain⟨la,lc,oa,oc,rfl,_,_⟩:=hV'
 have H1:=Lib.hid (Boxd.start hT hV)
 obtain⟨v,hv⟩: ∃v,Val.mk k b n t l o=v:=⟨_,rfl⟩
 rw[hv]at hi hb H1 ⊢
 have CM:=fun w' (h:Boxd w w.heap.size v (cells6 k b n t la l.length lc oa o.length oc) w')=>May_calls v _ w' h.tabs h.2.2.2 (by omega)
 unfold fitsV
 by_cases hm:mayV v 1=0
 · have hok:=okV_of v 1 hm hi
   have CB:=fun w' (h:Boxd w w.heap.size v (cells6 k b n t la l.length lc oa o.length oc) w')=>bytes_calls v _ w' h.tabs h.2.2.2 (by omega) hok
   have CD:=fun w' (h:Boxd w w.heap.size v (cells6 k b n t la l.length lc oa o.length oc) w')=>deep_calls v _ w' h.2.2.2 (by omega)
   rw[if_pos hm]
   rw[hm]at CM
   generalize (textV v).length=L at CB ⊢
   generalize deepV v=D at CD ⊢
   have HB:=Lib.hid CB
   have HD:=Lib.hid CD
   have HM:=Lib.hid CM
   clear CB CM CD hm hi hb hT hV hv hok
   by_cases hd:16<D
   · rw[if_pos hd]
     go_enter Tryz.func96,Tryz.ntmps96
     go_wp2_with (fail)
     with_reducible refine(HM.out _ H1.out).mono ?_
     rintro e w2 ⟨rfl,hb2⟩
     have H2:=Lib.hid (H1.out.step hb2)
     obtain⟨d0,d1,d2,d3,d4,d5⟩:=H2.out.cells
     clear hb2 H1
     go_wp2_with (fail)
     with_reducible refine(HD.out _ H2.out).mono ?_
     rintro e w3 ⟨rfl,hb3⟩
     have H3:=Lib.hid (H2.out.step hb3)
     clear d0 d1 d2 d3 d4 d5 hb3 H2
     go_wp2
     go_ret
     exact⟨rfl,H3.out.below⟩
   · rw[if_neg hd]
     by_cases hl:1024<L
     all_goals
      (first|rw[if_pos hl]|rw[if_neg hl])
      go_enter Tryz.func96,Tryz.ntmps96
      go_wp2_with (fail)
      with_reducible refine(HM.out _ H1.out).mono ?_
      rintro e w2 ⟨rfl,hb2⟩
      have H2:=Lib.hid (H1.out.step hb2)
      obtain⟨d0,d1,d2,d3,d4,d5⟩:=H2.out.cells
      clear hb2 H1
      go_wp2_with (fail)
      with_reducible refine(HD.out _ H2.out).mono ?_
      rintro e w3 ⟨rfl,hb3⟩
      have H3:=Lib.hid (H2.out.step hb3)
      clear d0 d1 d2 d3 d4 d5 hb3 H2
      obtain⟨d0,d1,d2,d3,d4,d5⟩:=H3.out.cells
      go_wp2_with (fail)
      with_reducible refine(HB.out _ H3.out).mono ?_
      rintro e w4 ⟨rfl,hb4⟩
      have H4:=Lib.hid (H3.out.step hb4)
      clear d0 d1 d2 d3 d4 d5 hb4 H3
      go_wp2
      go_ret
      exact⟨rfl,H4.out.below⟩
 · rw[if_neg hm]
   have hmb:(mayV v 1==0)=false:=by simpa using hm
   have hmn:(mayV v 1 != 0)=true:=by simpa using hm
   generalize mayV v 1=m at*
   have HM:=Lib.hid CM
   clear CM hm hi hb hT hV hv
   go_enter Tryz.func96,Tryz.ntmps96
   go_wp2_with (fail)
   with_reducible refine(HM.out _ H1.out).mono ?_
   rintro e w2 ⟨rfl,hb2⟩
   have H2:=Lib.hid (H1.out.step hb2)
   clear hb2 H1
   go_wp2
   go_ret
   exact⟨rfl,H2.out.below⟩
set_option maxRecDepth 100000 in
set_option maxHeartbeats 2000000 in
theorem RFits_calls (v:Val) (cs:List Value) (w:World) (hT:Tabs w) (hV:HoldsV w w.heap.size v cs) (hb:v.bulk≤100000000) (hi:inV v):
 Calls Tryz.prog 67 #[.agg cs.toArray] w fun e w'=>e= .returned (.int .i64 (fitsV v))∧Below w.heap.size w w':=by
 have hV':=hV
 obtain⟨k,b,n,t,l,o⟩:=v
 simp only[HoldsV]at hV'
 obtain⟨la,lc,oa,oc,rfl,_,_⟩:=hV'
 have H1:=Lib.hid (Boxd.start hT hV)
 obtain⟨v,hv⟩: ∃v,Val.mk k b n t l o=v:=⟨_,rfl⟩
 rw[hv]at hi hb H1 ⊢
 have CM:=fun w' (h:Boxd w w.heap.size v (cells6 k b n t la l.length lc oa o.length oc) w')=>RMay_calls v _ w' h.2.2.2 (by omega)
 unfold fitsV
 by_cases hm:mayV v 1=0
 · have CB:=fun w' (h:Boxd w w.heap.size v (cells6 k b n t la l.length lc oa o.length oc) w')=>rtext_calls v _ w' 1 h.2.2.2 (by omega) hm hi
   have CD:=fun w' (h:Boxd w w.heap.size v (cells6 k b n t la l.length lc oa o.length oc) w')=>rdeep_calls v _ w' h.2.2.2 (by omega)
   obtain⟨S,hS⟩: ∃S:ByteArray,(⟨(textV v).toArray⟩:ByteArray)=S:=⟨_,rfl⟩
   have hL:(textV v).length=S.size:=by rw[←hS,size_mk]
   rw[if_pos hm,hL]
   rw[hm]at CM
   rw[hS]at CB
   generalize deepV v=D at CD ⊢
   have HB:=Lib.hid CB
   have HD:=Lib.hid CD
   have HM:=Lib.hid CM
   clear CB CM CD hm hi hb hT hV hv hS hL
   by_cases hd:16<D
   · rw[if_pos hd]
     go_enter Tryz.func67,Tryz.ntmps67
     go_wp2_with (fail)
     with_reducible refine(HM.out _ H1.out).mono ?_
     rintro e w2 ⟨rfl,hb2⟩
     have H2:=Lib.hid (H1.out.step hb2)
     obtain⟨d0,d1,d2,d3,d4,d5⟩:=H2.out.cells
     clear hb2 H1
     go_wp2_with (fail)
     with_reducible refine(HD.out _ H2.out).mono ?_
     rintro e w3 ⟨rfl,hb3⟩
     have H3:=Lib.hid (H2.out.step hb3)
     clear d0 d1 d2 d3 d4 d5 hb3 H2
     go_wp2
     go_ret
     exact⟨rfl,H3.out.below⟩
   · rw[if_neg hd]
     by_cases hl:1024<S.size
     all_goals
      (first|rw[if_pos hl]|rw[if_neg hl])
      go_enter Tryz.func67,Tryz.ntmps67
      go_wp2_with (fail)
      with_reducible refine(HM.out _ H1.out).mono ?_
      rintro e w2 ⟨rfl,hb2⟩
      have H2:=Lib.hid (H1.out.step hb2)
      obtain⟨d0,d1,d2,d3,d4,d5⟩:=H2.out.cells
      clear hb2 H1
      go_wp2_with (fail)
      with_reducible refine(HD.out _ H2.out).mono ?_
      rintro e w3 ⟨rfl,hb3⟩
      have H3:=Lib.hid (H2.out.step hb3)
      clear d0 d1 d2 d3 d4 d5 hb3 H2
      obtain⟨d0,d1,d2,d3,d4,d5⟩:=H3.out.cells
      go_wp2_with (fail)
      with_reducible refine(HB.out _ H3.out).mono ?_
      rintro e w4 ⟨rfl,hb4⟩
      have H4:=Lib.hid (H3.out.step hb4)
      clear d0 d1 d2 d3 d4 d5 hb4 H3
      go_wp2
      go_ret
      exact⟨rfl,H4.out.below⟩
 · rw[if_neg hm]
   have hmb:(mayV v 1==0)=false:=by simpa using hm
   have hmn:(mayV v 1 != 0)=true:=by simpa using hm
   generalize mayV v 1=m at*
   have HM:=Lib.hid CM
   clear CM hm hi hb hT hV hv
   go_enter Tryz.func67,Tryz.ntmps67
   go_wp2_with (fail)
   with_reducible refine(HM.out _ H1.out).mono ?_
   rintro e w2 ⟨rfl,hb2⟩
   have H2:=Lib.hid (H1.out.step hb2)
   clear hb2 H1
   go_wp2
   go_ret
   exact⟨rfl,H2.out.below⟩
end Go.Proofs.YtackmnbpfbaemaaGreatDoor

namespace Go.Proofs.YtackmnbpfbaemaaGreatDoor
open Go.RowKit
structure POp where
 k:Int
 key:ByteArray
 v:Val
def dQ (p:POp):D:= .agg [.leaf (.int .i64 p.k), .leaf (.string p.key),dV p.v]
theorem dQ_cells (p:POp):(dQ p).cells=8:=by simp only[dQ,D.cells,cellsA,dV_cells]
def dQs (l:List POp):List D:=l.map dQ
theorem dQs_cells (l:List POp): ∀d ∈ dQs l,d.cells=8:=by
 intro d hd
 obtain⟨v,_,rfl⟩:=List.mem_map.1 hd
 exact dQ_cells v
theorem dQs_len (l:List POp):(dQs l).length=l.length:=List.length_map ..
def bulkQ:List POp→Nat
 | []=>0
 |p::r=>2+p.key.size+p.v.bulk+bulkQ r
theorem bulkQ_mem {l:List POp} {p:POp} (h:p ∈ l):2+p.key.size+p.v.bulk≤bulkQ l:=by
 induction l with
 |nil=>cases h
 |cons x r ih=>
  simp only[bulkQ]
  rcases List.mem_cons.1 h with rfl|h
  · omega
  · have:=ih h;omega
theorem bulkQ_len (l:List POp):8*l.length≤bulkQ l:=by
 induction l with
 |nil=>simp[bulkQ]
 |cons x r ih=>simp only[bulkQ,List.length_cons];have:=x.v.bulk_pos;omega
def inQ (l:List POp):Prop:= ∀p ∈ l,inV p.v
def keyB (k:ByteArray):Bool:= !k.toList.isEmpty&&(decide (k.size≤64)&&validB k)
def keyE (k:ByteArray):Int:=if k.toList.isEmpty then 8 else if 64<k.size then 6 else if validB k then 0 else 3
theorem keyE_zero (k:ByteArray):keyE k=0 ↔ keyB k=true:=by
 unfold keyE keyB
 cases k.toList.isEmpty<;>by_cases h:64<k.size<;>cases validB k<;>simp[h]<;>omega
def zeroB:Val→Bool
 | .mk k b n t l o=>zero6B k b n t l.length o.length
def strangeB (p:POp):Bool:=if p.k=1 then false else if p.k=2 then !zeroB p.v else if p.k=3 then !p.key.toList.isEmpty|| !zeroB p.v else true
def followsB (q p:POp):Bool:=decide (p.k≠3)&&(decide (q.k=3)||Op.bytesLess q.key.toList p.key.toList)
def mayOps:Option POp→List POp→Int
 |_, []=>0
 |prev,p::r=>
  if strangeB p||prev.any (fun q=> !followsB q p)then 2
  else if p.k=3 then mayOps (some p) r
  else if keyB p.key=false then 8
  else if p.k=2 then mayOps (some p) r
  else if fitsV p.v=0 then mayOps (some p) r else fitsV p.v
end Go.Proofs.YtackmnbpfbaemaaGreatDoor

namespace Go.Proofs.YtackmnbpfbaemaaGreatDoor
open Go.RowKit
theorem mayL_deeper: ∀{l:List Val},(∀v ∈ l,∀d d':Int,mayV v d'=0→d+deepV v≤65→mayV v d=0)→ ∀{d d':Int},mayL l d'=0→(l= []∨d+deepL l≤65)→mayL l d=0
 | [],_,_,_,_,_=>by simp[mayL]
 |v::r,ih,d,d',h,hd=>by
  have hd:=hd.resolve_left (by simp)
  simp only[deepL]at hd
  simp only[mayL]at h ⊢
  by_cases h0:mayV v d'=0
  · rw[if_pos h0]at h
    rw[if_pos (ih v (by simp) d d' h0 (by omega))]
    exact mayL_deeper (fun x hx=>ih x (by simp[hx])) h (.inr (by omega))
  · rw[if_neg h0]at h
    exact absurd h h0
theorem mayO_deeper: ∀{l:List (ByteArray×Val)},(∀m ∈ l,∀d d':Int,mayV m.2 d'=0→d+deepV m.2≤65→mayV m.2 d=0)→ ∀{last:Option ByteArray} {d d':Int},mayO l last d'=0→(l= []∨d+deepO l≤65)→mayO l last d=0
 | [],_,_,_,_,_,_=>by simp[mayO]
 |(key,v)::r,ih,last,d,d',h,hd=>by
  have hd:=hd.resolve_left (by simp)
  simp only[deepO,deepP]at hd
  simp only[mayO]at h ⊢
  by_cases h0:mayP (key,v) last d'=0
  · rw[if_pos h0]at h
    have h1:mayP (key,v) last d=0:=by
     simp only[mayP]at h0 ⊢
     by_cases hv:validB key=true
     · rw[if_pos hv]at h0 ⊢
       cases last with
       |none=>exact ih (key,v) (by simp) d d' h0 (by simp only;omega)
       |some q=>
        simp only at h0 ⊢
        by_cases hl:leB key q=true
        · rw[if_pos hl]at h0;cases h0
        · rw[if_neg hl]at h0 ⊢
          exact ih (key,v) (by simp) d d' h0 (by simp only;omega)
     · rw[if_neg hv]at h0;cases h0
    rw[if_pos h1]
    exact mayO_deeper (fun x hx=>ih x (by simp[hx])) h (.inr (by omega))
  · rw[if_neg h0]at h
    exact absurd h h0
theorem mayV_deeper: ∀(v:Val) (d d':Int),mayV v d'=0→d+deepV v≤65→mayV v d=0:=by
 refine Val.ind ?_
 intro k b n t l o hl ho d d' h hd
 obtain⟨h1,_,h3,h4,h5⟩:=mayV_parts h
 obtain⟨_,_,k5,k6⟩:=odd_parts h1
 simp only[deepV]at hd
 have hL:mayL l (d+1)=0:=by
  refine mayL_deeper hl h4 ?_
  rcases k5 with e|e
  · rw[if_pos e]at hd;exact .inr (by omega)
  · exact .inl (List.length_eq_zero_iff.1 e)
 have hO:mayO o none (d+1)=0:=by
  refine mayO_deeper ho h5 ?_
  rcases k6 with e|e
  · rw[if_neg (by omega),if_pos e]at hd;exact .inr (by omega)
  · exact .inl (List.length_eq_zero_iff.1 e)
 have h64: ¬64<d:=by
  have:0≤(if k=5 then deepL l else if k=6 then deepO o else 0):=Nat.zero_le _
  omega
 simp only[mayV]
 rw[if_neg (by rw[h1];simp),if_neg h64,if_pos h3,if_pos hL,hO]
end Go.Proofs.YtackmnbpfbaemaaGreatDoor

namespace Go.Proofs.YtackmnbpfbaemaaGreatDoor
open Go.RowKit
set_option maxRecDepth 100000 in
theorem zero_calls (k:Int) (b:Bool) (n:Int) (t:ByteArray) (la oa:Option Addr) (ln lc on oc:Nat) (B:Bool) (w:World) (h:zero6B k b n t ln on=B):
 Calls Tryz.prog 133 #[.agg #[.int .i64 k, .bool b, .int .i64 n, .string t, .slice la ln lc, .slice oa on oc]] w fun e w'=>e= .returned (.bool B)∧Below w.heap.size w w':=by
 have fin: ∀X:Bool,X=zero6B k b n t ln on→Ending.returned (.bool X)= .returned (.bool B):=fun X hX=>by rw[hX,h]
 have Fin:=Lib.hid fin
 clear fin h
 go_enter Tryz.func133,Tryz.ntmps133
 go_wp2
 all_goals(go_ret;refine⟨Fin.out _ ?_,alloc_below _ _⟩;simp_all[zero6B,beq_cast])
set_option maxRecDepth 100000 in
theorem follows_calls (k k':Int) (s s':ByteArray) (a0 a1 a2 a3 a4 a5 b0 b1 b2 b3 b4 b5:Value) (B:Bool) (w:World) (h:(decide (k'≠3)&&(decide (k=3)||Op.bytesLess s.toList s'.toList))=B):
 Calls Tryz.prog 94 #[.agg #[.int .i64 k, .string s,a0,a1,a2,a3,a4,a5], .agg #[.int .i64 k', .string s',b0,b1,b2,b3,b4,b5]] w fun e w'=>e= .returned (.bool B)∧Below w.heap.size w w':=by
 have fin: ∀X:Bool,X=(decide (k'≠3)&&(decide (k=3)||Op.bytesLess s.toList s'.toList))→Ending.returned (.bool X)= .returned (.bool B):=fun X hX=>by rw[hX,h]
 have Fin:=Lib.hid fin
 clear fin h
 go_enter Tryz.func94,Tryz.ntmps94
 go_wp2
 all_goals(go_ret;refine⟨Fin.out _ ?_,(alloc_below _ _).alloc (by simp) _⟩;first|(simp_all;done)|(simp only[bne_dec,beq_dec]))
set_option maxRecDepth 100000 in
theorem strange_calls (k:Int) (s:ByteArray) (k':Int) (b:Bool) (n:Int) (t:ByteArray) (la oa:Option Addr) (ln lc on oc:Nat) (B:Bool) (w:World)
 (h:(if k=1 then false else if k=2 then !zero6B k' b n t ln on else if k=3 then !s.toList.isEmpty|| !zero6B k' b n t ln on else true)=B):
 Calls Tryz.prog 93 #[.agg #[.int .i64 k, .string s, .int .i64 k', .bool b, .int .i64 n, .string t, .slice la ln lc, .slice oa on oc]] w fun e w'=>e= .returned (.bool B)∧Below w.heap.size w w':=by
 obtain⟨Z,hZ⟩: ∃Z,zero6B k' b n t ln on=Z:=⟨_,rfl⟩
 rw[hZ]at h
 have fin: ∀X:Bool,X=(if k=1 then false else if k=2 then !Z else if k=3 then !s.toList.isEmpty|| !Z else true)→Ending.returned (.bool X)= .returned (.bool B):=fun X hX=>by rw[hX,h]
 have hcz:=fun W=>zero_calls k' b n t la oa ln lc on oc Z W hZ
 have Fin:=Lib.hid fin
 have Hcz:=Lib.hid hcz
 clear fin hcz
 clear hZ h
 go_enter Tryz.func93,Tryz.ntmps93
 go_wp2_with (go_at_call 133;refine(Hcz.out _).mono ?_;rintro e w1 ⟨rfl,hb1⟩)
 all_goals first
  |(go_ret;refine⟨Fin.out _ ?_,alloc_below _ _⟩;(by_cases e1:k=1<;>by_cases e2:k=2<;>by_cases e3:k=3<;>cases Z<;>simp_all))
  |(go_ret;refine⟨Fin.out _ ?_,(alloc_below _ _).trans (hb1.mono (by simp))⟩;(by_cases e1:k=1<;>by_cases e2:k=2<;>by_cases e3:k=3<;>cases Z<;>simp_all))
end Go.Proofs.YtackmnbpfbaemaaGreatDoor

namespace Go.Proofs.YtackmnbpfbaemaaGreatDoor
open Go Go.RowKit
def UPost (R g:Nat) (s:ByteArray) (w:World) (r:Rd Val) (e:Ending) (w':World):Prop:=match r with
 | .ok _ q=>e= .returned (.tuple #[])∧RdTo R g s q w w'
 | .bad c q=>e=faultE c q∧w.grownBy w' (some R)
set_option maxRecDepth 100000 in
set_option maxHeartbeats 4000000 in
theorem word_calls (R g:Nat) (s t:ByteArray) (k:Nat) (v:Val) (w:World) (hs:s.size≤1000000000) (hk:k≤s.size) (ht:t.size≤100) (h:RdB w R g s k):
 Calls Tryz.prog 200 #[.pointer (some ⟨R,0,none⟩), .string t] w (UPost R g s w (wordAt s.data.toList k t.data.toList v)):=by
 have hext:(s.extract k s.size).data.toList=s.data.toList.drop k:=by
  rw[Lib.extract_data]
  exact List.take_of_length_le (by rw[List.length_drop,size_toList];omega)
 have hH:=fun W=>Tryz.strings_HasPrefix (s.extract k s.size) t W
 rw[hext]at hH
 have hB:Lib.hasPrefix (s.data.toList.drop k) t.data.toList=t.data.toList.isPrefixOf (s.data.toList.drop k):=rfl
 rw[hB]at hH
 clear hB hext
 have i0:(0:Int)≤(k:Int):=by omega
 have i1:(k:Int)≤(s.size:Int):=by omega
 obtain⟨c0,c1,_,f1,hR⟩:=h.cells
 have H:=Lib.hid h
 clear h
 unfold wordAt
 cases hp:t.data.toList.isPrefixOf (s.data.toList.drop k)with
 |true=>
  rw[hp]at hH
  rw[if_pos rfl,size_toList]
  have hle:k+t.size≤s.size:=by
   have:=(List.isPrefixOf_iff_prefix.1 hp).length_le
   rw[List.length_drop,size_toList,size_toList]at this;omega
  clear hp
  have HH:=Lib.hid hH
  clear hH
  go_enter Tryz.func200,Tryz.ntmps200
  go_wp2
  go_quiet ((go_at_call 223;exact Calls.quiet_of_same (HH.out _)))
  go_wp2
  go_end0
  exact⟨rfl,((RdTo.refl H.out).drewN _).set _⟩
 |false=>
  rw[hp]at hH
  rw[if_neg (by decide)]
  clear hp
  have hW:=fun W=>wrong_calls (.pointer (some ⟨R,0,none⟩)) 4 k W
  have HH:=Lib.hid hH
  have HW:=Lib.hid hW
  clear hH hW
  go_enter Tryz.func200,Tryz.ntmps200
  go_wp2
  go_quiet ((go_at_call 223;exact Calls.quiet_of_same (HH.out _)))
  go_wp2_with (fail)
  with_reducible refine(HW.out _).mono ?_
  rintro e w1 ⟨rfl,rfl⟩
  exact⟨rfl,rfl,grownBy_drewN (World.grownBy.refl _ _) _⟩
end Go.Proofs.YtackmnbpfbaemaaGreatDoor
