/- Parts, joined: Pulls and answers: why they may not be, their objects' members. Plain. No condition. Whether a pull may be: the program's word and the reference's. No condition. commonplaceref18.MayRequest: whether a pull may be. No condition. The tables and the two errors that the rows list: a world for the witnesses. No condition. Digits, and what strconv.ParseInt says of them. Plain. No condition. parse.reader.number. Condition: a text of at most 10^8 bytes. Maps by what they answer: an entry stored in a region that draws its order, an entry looked up. Plain. No condition. Sealed bytes, spoilt once, are none; what is sealed. Plain. No condition. What was sealed, and a frame's body, or why it has none. Plain. No condition. What a reader of a whole text hands back, and the variable that holds its result. No condition. Values that may be and have the same text are the same, the values. Plain. No condition. commonplaceref02.Copy: what its contract says. No condition. -/
import Derived.Test.YtackmnbpfbaemaaGreatDoorProg
import Derived.WalkKit
import Derived.Lib.Hide
import Derived.Test.YtackmnbpfbaemaaGreatDoorChecked
import Derived.Test.YtackmnbpfbaemaaGreatDoorRows
import Derived.Lay
import Derived.Lib.LaidIn
import Derived.Lib.LaidU8T
import Derived.LaidSub
import Derived.Lib.ItoaNum
import Derived.Deep.DeepHandedRow
import Derived.ProofKit
import Derived.Lib.ParseIntBCases
import Derived.Lib.SmallJoins
import Derived.Deep.RegionHeld3
import Derived.Test.YtackmnbpfbaemaaGreatDoorKPb1
import Derived.Test.YtackmnbpfbaemaaGreatDoorKPb3
import Derived.Test.YtackmnbpfbaemaaGreatDoorKPb8
import Derived.Test.YtackmnbpfbaemaaGreatDoorKPb16
import Derived.Test.YtackmnbpfbaemaaGreatDoorKPb17
import Derived.Test.YtackmnbpfbaemaaGreatDoorKPb21
import Derived.Test.YtackmnbpfbaemaaGreatDoorKPb23
namespace Go.Proofs.YtackmnbpfbaemaaGreatDoor
def mayReq (c k:Int):Int:=if 0<c∧c≤4611686018427387903∧k≤4611686018427387903 then 0 else 2
def mayResp (c b k s:Int) (l:List POp):Int:=if 0<c∧c≤4611686018427387903∧b≤4611686018427387903∧k≤4611686018427387903∧s≤4611686018427387903 then mayOps none l else 2
abbrev kClient:ByteArray:=⟨#[99,108,105,101,110,116]⟩
abbrev kCookie:ByteArray:=⟨#[99,111,111,107,105,101]⟩
abbrev kBase:ByteArray:=⟨#[98,97,115,101]⟩
abbrev kLast:ByteArray:=⟨#[108,97,115,116]⟩
abbrev kPatch:ByteArray:=⟨#[112,97,116,99,104]⟩
def reqO (c k:Int):List (ByteArray×Val):= [(kClient,iv c),(kCookie,iv k)]
def respO (c b k s:Int) (l:List POp):List (ByteArray×Val):= [(kBase,iv b),(kClient,iv c),(kCookie,iv k),(kLast,iv s),(kPatch,listQ l)]
end Go.Proofs.YtackmnbpfbaemaaGreatDoor

namespace Go.Proofs.YtackmnbpfbaemaaGreatDoor
open Go.RowKit
theorem isClient_calls (n:Int) (B:Bool) (w:World) (h:(decide (0<n)&&decide (n≤4611686018427387903))=B):Calls Tryz.prog 45 #[.int .u64 n] w fun e w'=>e= .returned (.bool B)∧w=w':=by
 by_cases h1:0<n
 · by_cases h2:n≤4611686018427387903
   · obtain rfl:true=B:=by rw[←h];simp[h1,h2]
     clear h
     go_enter Tryz.func45,Tryz.ntmps45
     go_wp2
     go_ret
     exact⟨rfl,rfl⟩
   · obtain rfl:false=B:=by rw[←h];simp[h1,h2]
     clear h
     have h3:4611686018427387903<n:=by omega
     go_enter Tryz.func45,Tryz.ntmps45
     go_wp2
     go_ret
     exact⟨rfl,rfl⟩
 · obtain rfl:false=B:=by rw[←h];simp[h1]
   clear h
   have h2:n≤0:=by omega
   go_enter Tryz.func45,Tryz.ntmps45
   go_wp2
   go_ret
   exact⟨rfl,rfl⟩
theorem MayRequest_calls (c k:Int) (w:World):Calls Tryz.prog 23 #[.agg #[.int .u64 c, .int .u64 k]] w fun e w'=>e= .returned (.int .i64 (mayReq c k))∧Below w.heap.size w w':=by
 by_cases h1:0<c∧c≤4611686018427387903
 · obtain⟨h1,h2⟩:=h1
   have hC:=fun W=>isClient_calls c true W (by simp[h1,h2])
   by_cases h3:k≤4611686018427387903
   · have hm:mayReq c k=0:=by unfold mayReq;rw[if_pos ⟨h1,h2,h3⟩]
     have HC:=Lib.hid hC
     have Hm:=Lib.hid hm
     clear hC hm
     go_enter Tryz.func23,Tryz.ntmps23
     go_wp2_with (fail)
     with_reducible refine(HC.out _).mono ?_
     rintro e w' ⟨rfl,rfl⟩
     go_wp2
     go_ret
     exact⟨by rw[Hm.out];rfl,(Below.refl _ _).alloc (Nat.le_refl _) _⟩
   · have hm:mayReq c k=2:=by unfold mayReq;rw[if_neg (by omega)]
     have h4:4611686018427387903<k:=by omega
     have HC:=Lib.hid hC
     have Hm:=Lib.hid hm
     clear hC hm
     clear h3
     go_enter Tryz.func23,Tryz.ntmps23
     go_wp2_with (fail)
     with_reducible refine(HC.out _).mono ?_
     rintro e w' ⟨rfl,rfl⟩
     go_wp2
     go_ret
     exact⟨by rw[Hm.out];rfl,(Below.refl _ _).alloc (Nat.le_refl _) _⟩
 · have hC:=fun W=>isClient_calls c false W (by simp;omega)
   have hm:mayReq c k=2:=by unfold mayReq;rw[if_neg (by omega)]
   have HC:=Lib.hid hC
   have Hm:=Lib.hid hm
   clear hC hm
   clear h1
   go_enter Tryz.func23,Tryz.ntmps23
   go_wp2_with (fail)
   with_reducible refine(HC.out _).mono ?_
   rintro e w' ⟨rfl,rfl⟩
   go_wp2
   go_ret
   exact⟨by rw[Hm.out];rfl,(Below.refl _ _).alloc (Nat.le_refl _) _⟩
end Go.Proofs.YtackmnbpfbaemaaGreatDoor

namespace Go.Proofs.YtackmnbpfbaemaaGreatDoor
open Go Go.RowKit
end Go.Proofs.YtackmnbpfbaemaaGreatDoor

namespace Go.Proofs.YtackmnbpfbaemaaGreatDoor
open Go.RowKit Go.ChangeShapes Go.WideShapes Go.ChangeAt
theorem own_knob:ownKnob Tryz.prog.godebug=none:=by kernel_rfl
noncomputable def laidWorld (os:Os):World:=World.laidAll Tryz.prog os Rows.pullReadsRow.laid
theorem laid_first:Rows.laid_unicode_utf8_first=Lib.firstData:=by kernel_rfl
theorem laid_accept:Rows.laid_unicode_utf8_acceptRanges (H:=Unit)=Lib.acceptData:=by kernel_rfl
theorem laid_pow10:Rows.laid_internal_strconv_uint64pow10 (H:=Unit)=Lib.tabData .u64 Lib.pow10Tab:=by kernel_rfl
theorem laid_met (os:Os) (args:Array Value):laidMet Tryz.prog Rows.pullReadsRow.laid ((laidWorld os).forCall (fun _ _=>0) ⟨#[],args, []⟩).memory:=
 laidMet_laidAll _ (by kernel_rfl) (by kernel_rfl)
end Go.Proofs.YtackmnbpfbaemaaGreatDoor

namespace Go.Proofs.YtackmnbpfbaemaaGreatDoor
open Go Go.RowKit
def digF (acc:Nat) (l:List UInt8):Nat:=l.foldl (fun a c=>a*10+(c.toNat - 48)) acc
theorem digF_ge: ∀(l:List UInt8) (a:Nat),a≤digF a l
 | [],a=>Nat.le_refl a
 |c::r,a=>by
  have:=digF_ge r (a*10+(c.toNat - 48))
  show a≤digF (a*10+(c.toNat - 48)) r
  omega
theorem uintM_digits: ∀(l:List UInt8) (acc:Nat),(∀c ∈ l,isDig c=true)→Lib.parseUintM 18446744073709551615 acc l=if 18446744073709551615<digF acc l∧l≠ []then .range else .ok (digF acc l)
 | [],acc,_=>by simp[Lib.parseUintM,digF]
 |c::r,acc,h=>by
  have hc:=h c (by simp)
  unfold isDig at hc
  rw[decide_eq_true_iff]at hc
  have ih:=uintM_digits r (acc*10+(c.toNat - 48)) (fun x hx=>h x (by simp[hx]))
  have e:digF acc (c::r)=digF (acc*10+(c.toNat - 48)) r:=rfl
  have hg:=digF_ge r (acc*10+(c.toNat - 48))
  unfold Lib.parseUintM
  rw[if_pos hc,e]
  by_cases h1:1844674407370955162≤acc
  · rw[if_pos h1,if_pos ⟨by omega,by simp⟩]
  · rw[if_neg h1]
    by_cases h2:18446744073709551615<acc*10+(c.toNat - 48)
    · rw[if_pos h2,if_pos ⟨by omega,by simp⟩]
    · rw[if_neg h2,ih]
      by_cases hr:r= []
      · subst hr
        rw[if_neg (by simp)]
        have:digF (acc*10+(c.toNat - 48)) []=acc*10+(c.toNat - 48):=rfl
        rw[if_neg (by rw[this];omega)]
      · by_cases h3:18446744073709551615<digF (acc*10+(c.toNat - 48)) r
        · rw[if_pos ⟨h3,hr⟩,if_pos ⟨h3,by simp⟩]
        · rw[if_neg (fun q=>h3 q.1),if_neg (fun q=>h3 q.1)]
theorem uintB_digits {l:List UInt8} (h: ∀c ∈ l,isDig c=true) (hl:l≠ []):Lib.parseUintB 64 l=if 18446744073709551615<digV l then .range else .ok (digV l):=by
 unfold Lib.parseUintB
 rw[if_neg hl]
 have:=uintM_digits l 0 h
 have e:digF 0 l=digV l:=rfl
 rw[e]at this
 show Lib.parseUintM 18446744073709551615 0 l=_
 rw[this]
 by_cases h3:18446744073709551615<digV l
 · rw[if_pos ⟨h3,hl⟩,if_pos h3]
 · rw[if_neg (fun q=>h3 q.1),if_neg h3]
theorem intB_pos {l:List UInt8} (h: ∀c ∈ l,isDig c=true) (hl:l≠ []):Lib.parseIntB 64 l=if 9223372036854775807<digV l then .range else .ok (digV l:Int):=by
 obtain⟨c,r,rfl⟩: ∃c r,l=c::r:=by cases l with|nil=>exact absurd rfl hl|cons c r=>exact⟨c,r,rfl⟩
 have hc:=h c (by simp)
 unfold isDig at hc
 rw[decide_eq_true_iff]at hc
 unfold Lib.parseIntB
 simp only
 rw[if_neg (show ¬(c.toNat=43∨c.toNat=45)by omega),uintB_digits h hl]
 have hn: ¬(c.toNat=45):=by omega
 by_cases h1:18446744073709551615<digV (c::r)
 · rw[if_pos h1,if_pos (by omega)]
 · rw[if_neg h1]
   by_cases h2:9223372036854775807<digV (c::r)
   · simp only[hn,not_false_eq_true,true_and,false_and,if_false]
     rw[if_pos h2,if_pos (by show 9223372036854775808≤_;omega)]
   · simp only[hn,not_false_eq_true,true_and,false_and,if_false]
     rw[if_neg h2,if_neg (by show ¬(9223372036854775808≤_);omega)]
theorem intB_neg {l:List UInt8} (h: ∀c ∈ l,isDig c=true) (hl:l≠ []):Lib.parseIntB 64 (45::l)=if 9223372036854775808<digV l then .range else .ok (-(digV l:Int)):=by
 unfold Lib.parseIntB
 simp only
 rw[if_pos (by decide),uintB_digits h hl]
 by_cases h1:18446744073709551615<digV l
 · rw[if_pos h1,if_pos (by omega)]
 · rw[if_neg h1]
   have hn:(45:UInt8).toNat=45:=by decide
   by_cases h2:9223372036854775808<digV l
   · simp only[hn,not_true_eq_false,true_and,false_and,if_false]
     rw[if_pos h2,if_pos (by show 9223372036854775808<_;omega)]
   · simp only[hn,not_true_eq_false,true_and,false_and,if_false,if_true]
theorem digits_of (s:List UInt8) (f:Nat): ∀c ∈ (s.drop f).take (digEnd s f - f),isDig c=true:=by
 intro c hc
 obtain⟨i,hi⟩:=List.mem_iff_getElem?.1 hc
 have hlt:i<digEnd s f - f:=by
  by_cases h:i<digEnd s f - f
  · exact h
  · rw[List.getElem?_take_eq_none (by omega)]at hi;cases hi
 rw[List.getElem?_take_of_lt hlt,List.getElem?_drop]at hi
 exact digEnd_dig s f (f+i) c (by omega) (by omega) hi
theorem digV_first {s:List UInt8} {f e:Nat} {x:UInt8} (hx:s[f]? =some x) (hz: ¬x=48) (hf:f<digEnd s f) (he:digEnd s f=e):digV ((s.drop f).take (e - f))≠0:=by
 subst he
 have hd:=digEnd_dig s f f x (Nat.le_refl _) hf hx
 unfold isDig at hd
 rw[decide_eq_true_iff]at hd
 have hx48:x.toNat≠48:=fun q=>hz (UInt8.toNat_inj.1 q)
 obtain⟨n,hn⟩: ∃n,digEnd s f - f=n+1:=⟨digEnd s f - f - 1,by omega⟩
 rw[hn,drop_at hx,List.take_succ_cons]
 have h1:=digF_ge ((s.drop (f+1)).take n) (0*10+(x.toNat - 48))
 have e:digV (x::(s.drop (f+1)).take n)=digF (0*10+(x.toNat - 48)) ((s.drop (f+1)).take n):=rfl
 rw[e]
 omega
end Go.Proofs.YtackmnbpfbaemaaGreatDoor

namespace Go.Proofs.YtackmnbpfbaemaaGreatDoor
open Go Go.RowKit
def NumT (w:World):Prop:= ∃te pe,w.cell? ⟨8,0,none⟩=some (.iface te pe)
structure NRd (w wr:World) (R g:Nat) (s:ByteArray) (j:Nat):Prop where
 went:RdTo R g s j w wr
 res:Blk wr w.heap.size 39 zero6
set_option maxRecDepth 100000 in
set_option maxHeartbeats 8000000 in
theorem rdnum_calls (R g:Nat) (s:ByteArray) (k:Nat) (d:Int) (w:World) (hN: ∀W,w.grownBy W (some R)→NumT W) (hs:s.size≤100000000) (hk:k<s.size) (h:RdB w R g s k):
 Calls Tryz.prog 172 #[.pointer (some ⟨R,0,none⟩), .int .i64 d] w (RVPost R g s w ((numberAt s.data.toList k).map intV)):=by
 have hR:R<w.heap.size:=Blk.lt h
 obtain⟨c,hc⟩: ∃c,s[k]=c:=⟨_,rfl⟩
 have hg:s.data.toList[k]? =some c:=by rw[get_byte s hk,hc]
 have hcl:=byte_lt c
 obtain⟨F,hF⟩: ∃F,(if s.data.toList[k]? =some 45 then k+1 else k)=F:=⟨_,rfl⟩
 obtain⟨RES,hRES⟩: ∃r,(numberAt s.data.toList k).map intV=r:=⟨_,rfl⟩
 rw[hRES]
 unfold numberAt at hRES
 rw[hF]at hRES
 have hFk:k≤F∧F≤k+1:=by rw[←hF];split<;>omega
 have hI0:NRd w (w.alloc (.cells zero6 39)) R g s k:=⟨(RdTo.refl h).alloc _,Blk.new _ _ _⟩
 have hb45:((c.toNat:Int)==45)=decide (c=45):=by rw[show(45:Int)=((45:Nat):Int)from rfl,byte_eq (by decide)];rfl
 obtain⟨c0,c1,_,f1,_⟩:=h.cells
 have i0:(0:Int)≤(k:Int):=by omega
 have i1:(k:Int)<(s.size:Int):=by omega
 have HI0:=Lib.hid hI0
 have HN:=Lib.hid hN
 have H:=Lib.hid h
 have HRES:=Lib.hid hRES
 have Hg:=Lib.hid hg
 have HF:=Lib.hid hF
 clear hI0 hN h hRES hg hF
 go_enter Tryz.func172,Tryz.ntmps172
 go_wp2
 go_quiet (fail)
 go_upto_if 22 with(fail)
 go_cut [] (fun wx=>Hid (NRd w wx R g s F))
 case first=>
  by_cases h45:c=45
  · have e45:decide (c=45)=true:=decide_eq_true h45
    have eF:F=k+1:=by rw[←HF.out,Hg.out,h45,if_pos rfl]
    go_wp2
    go_meet
    rw[eF]
    exact⟨(HI0.out.went.drewN _).set _,HI0.out.res.far (by simp;omega) _⟩
  · have e45:decide (c=45)=false:=decide_eq_false h45
    have eF:F=k:=by rw[←HF.out,Hg.out,if_neg (by simpa using h45)]
    go_wp2
    go_meet
    rw[eF]
    exact⟨HI0.out.went.drewN _,HI0.out.res⟩
 have hd0:=digEnd_ge s.data.toList F
 have hd1:=digEnd_le (s:=s.data.toList) (p:=F) (by rw[size_toList];omega)
 rw[size_toList]at hd1
 have HI1:=hcut
 obtain⟨E,hE⟩: ∃E,digEnd s.data.toList F=E:=⟨_,rfl⟩
 rw[hE]at hd0 hd1
 clear hcut HI0 c0 c1 f1 i0 i1
 obtain⟨a0,a1,_,f1,_⟩:=HI1.out.went.2.cells
 have HE:=Lib.hid hE
 clear hE
 go_upto_block 0 with(fail)
 go_cut [] (fun wx=>Hid (NRd w wx R g s E))
 case first=>
  go_wp2_with (fail)
  go_loopg [] (s.size - F) (fun n wr=> ∃j:Nat,F≤j∧j≤s.size∧n=s.size - j∧Hid (digEnd s.data.toList j=E∧NRd w wr R g s j))
  case atStart=>exact⟨F,Nat.le_refl _,by omega,rfl,HE.out,HI1.out⟩
  case round=>
   obtain⟨j,hjF,hj,rfl,hh⟩:=hrel
   obtain⟨z0,z1,_,z3,_⟩:=hh.out.2.went.2.cells
   clear HI1 a0 a1 f1
   have j0:(0:Int)≤(j:Int):=by omega
   by_cases hlt:j<s.size
   · obtain⟨x,hx⟩: ∃x,s[j]=x:=⟨_,rfl⟩
     have hxg:s.data.toList[j]? =some x:=by rw[get_byte s hlt,hx]
     have hxl:=byte_lt x
     have j1:decide ((j:Int)<(s.size:Int))=true:=decide_eq_true (by omega)
     have j2:(j:Int)<(s.size:Int):=by omega
     by_cases hdg:isDig x=true
     · have HN':Hid (digEnd s.data.toList (j+1)=E∧ ∀nq,NRd w ((wr.drewN nq).setCell ⟨R,1,none⟩ (.int .i64 ((j+1:Nat):Int))) R g s (j+1)):=⟨by rw[←digEnd_step hxg hdg];exact hh.out.1,fun nq=>⟨(hh.out.2.went.drewN nq).set _,hh.out.2.res.far (by simp;omega) _⟩⟩
       unfold isDig at hdg
       rw[decide_eq_true_iff]at hdg
       have l1:decide ((48:Int)≤(x.toNat:Int))=true:=decide_eq_true (by omega)
       have l2:decide ((x.toNat:Int)≤57)=true:=decide_eq_true (by omega)
       clear hxg hh hdg
       go_wp2
       go_quiet (fail)
       go_wp2
       go_roundg (s.size - (j+1))
       case measure=>omega
       case rel=>exact⟨j+1,by omega,by omega,rfl,HN'.out.1,HN'.out.2 _⟩
     · have HN':Hid (j=E∧ ∀nq,NRd w (wr.drewN nq) R g s j):=⟨by rw[←hh.out.1,digEnd_stop hxg (by simpa using hdg)],fun nq=>⟨hh.out.2.went.drewN nq,hh.out.2.res⟩⟩
       unfold isDig at hdg
       rw[decide_eq_true_iff]at hdg
       clear hxg hh
       by_cases h48:48≤x.toNat
       · have l1:decide ((48:Int)≤(x.toNat:Int))=true:=decide_eq_true (by omega)
         have l2:decide ((x.toNat:Int)≤57)=false:=decide_eq_false (by omega)
         go_wp2
         go_quiet (fail)
         go_wp2
         go_meet
         have:=HN'.out.2
         rw[HN'.out.1]at this
         exact this _
       · have l1:decide ((48:Int)≤(x.toNat:Int))=false:=decide_eq_false (by omega)
         go_wp2
         go_quiet (fail)
         go_wp2
         go_meet
         have:=HN'.out.2
         rw[HN'.out.1]at this
         exact this _
   · have HN':Hid (j=E∧ ∀nq,NRd w (wr.drewN nq) R g s j):=⟨by rw[←hh.out.1,digEnd_end (by rw[size_toList];omega)],fun nq=>⟨hh.out.2.went.drewN nq,hh.out.2.res⟩⟩
     have j1:decide ((j:Int)<(s.size:Int))=false:=decide_eq_false (by omega)
     clear hh
     go_wp2
     go_quiet (fail)
     go_wp2
     go_meet
     have:=HN'.out.2
     rw[HN'.out.1]at this
     exact this _
 have HI2:=hcut
 clear hcut HI1 a0 a1 f1
 obtain⟨a0,a1,_,f1,_⟩:=HI2.out.went.2.cells
 go_upto_block 2 with(fail)
 go_cut [] (fun wx=>Hid (NRd w wx R g s E∧F<E∧(F=k+1→digV ((s.data.toList.drop F).take (E - F))≠0)∧(numRes (decide (s.data.toList[k]? =some 45)) (digV ((s.data.toList.drop F).take (E - F))) k E).map intV=RES))
 case first=>
  have hres:=HRES.out
  unfold numFrom at hres
  rw[HE.out]at hres
  have F0:(0:Int)≤(F:Int):=by omega
  by_cases hEF:E=F
  · rw[if_pos hEF]at hres
    subst hres
    subst hEF
    have e1:((E:Int)==(E:Int))=true:=by simp
    have hW:=wrong_calls (.pointer (some ⟨R,0,none⟩)) 4 (E:Nat) wc
    have HW:=Lib.hid hW
    clear hW
    go_wp2_with (fail)
    with_reducible refine(HW.out).mono ?_
    rintro e w10 ⟨rfl,rfl⟩
    exact⟨rfl,rfl,HI2.out.went.1⟩
  · rw[if_neg hEF]at hres
    have e1:((E:Int)==(F:Int))=false:=by rw[beq_eq_false_iff_ne];omega
    have hFs:F<s.size:=by omega
    have F1:(F:Int)<(s.size:Int):=by omega
    obtain⟨x,hx⟩: ∃x,s[F]=x:=⟨_,rfl⟩
    have hxg:s.data.toList[F]? =some x:=by rw[get_byte s hFs,hx]
    have hxl:=byte_lt x
    rw[hxg]at hres
    have hx48:((x.toNat:Int)==48)=decide (x=48):=by rw[show(48:Int)=((48:Nat):Int)from rfl,byte_eq (by decide)];rfl
    by_cases hz:x=48
    · have e48:decide (x=48)=true:=decide_eq_true hz
      rw[e48]at hx48
      by_cases hm:F+1<E
      · rw[if_pos ⟨by rw[hz],hm⟩]at hres
        subst hres
        have e2:decide ((F:Int)+1<(E:Int))=true:=decide_eq_true (by omega)
        have e3:(F:Int)+1<(E:Int):=by omega
        have hW:=wrong_calls (.pointer (some ⟨R,0,none⟩)) 4 ((F:Int)+1) wc
        have HW:=Lib.hid hW
        clear hW
        go_wp2_with (fail)
        with_reducible refine(HW.out).mono ?_
        rintro e w10 ⟨rfl,rfl⟩
        exact⟨rfl,by simp[faultE],HI2.out.went.1⟩
      · rw[if_neg (fun q=>hm q.2)]at hres
        have e2:decide ((F:Int)+1<(E:Int))=false:=decide_eq_false (by omega)
        have e3: ¬((F:Int)+1<(E:Int)):=by omega
        have hEF1:E=F+1:=by omega
        have hds:(s.data.toList.drop F).take (E - F)= [48]:=by rw[hEF1,Nat.add_sub_cancel_left,drop_at hxg,hz];rfl
        by_cases hn:F=k+1
        · have h45:s.data.toList[k]? =some 45:=by
           by_cases q:s.data.toList[k]? =some 45
           · exact q
           · have:=HF.out;rw[if_neg q]at this;omega
          have e4:decide ((k:Int)<(F:Int))=true:=decide_eq_true (by omega)
          have e5:(k:Int)<(F:Int):=by omega
          have hr7:numRes (decide (s.data.toList[k]? =some 45)) (digV ((s.data.toList.drop F).take (E - F))) k E= .bad 7 k:=by
           rw[hds,decide_eq_true h45];rfl
          rw[hr7]at hres
          subst hres
          have hW:=wrong_calls (.pointer (some ⟨R,0,none⟩)) 7 (k:Nat) wc
          have HW:=Lib.hid hW
          have Hds:=Lib.hid hds
          have Hr7:=Lib.hid hr7
          clear hW hds hr7
          clear h45 hn hEF1
          go_wp2_with (fail)
          with_reducible refine(HW.out).mono ?_
          rintro e w10 ⟨rfl,rfl⟩
          exact⟨rfl,rfl,HI2.out.went.1⟩
        · have e4:decide ((k:Int)<(F:Int))=false:=decide_eq_false (by omega)
          have e5: ¬((k:Int)<(F:Int)):=by omega
          have HJ:Hid (NRd w wc R g s E∧F<E∧(F=k+1→digV ((s.data.toList.drop F).take (E - F))≠0)∧(numRes (decide (s.data.toList[k]? =some 45)) (digV ((s.data.toList.drop F).take (E - F))) k E).map intV=RES):=⟨HI2.out,by omega,fun q=>absurd q hn,hres⟩
          clear hres hds
          go_wp2
          go_meet
          exact HJ
    · have e48:decide (x=48)=false:=decide_eq_false hz
      rw[e48]at hx48
      rw[if_neg (fun q=>hz (by simpa using q.1))]at hres
      have HJ:Hid (NRd w wc R g s E∧F<E∧(F=k+1→digV ((s.data.toList.drop F).take (E - F))≠0)∧(numRes (decide (s.data.toList[k]? =some 45)) (digV ((s.data.toList.drop F).take (E - F))) k E).map intV=RES):=⟨HI2.out,by omega,fun _=>digV_first hxg hz (by rw[HE.out];omega) HE.out,hres⟩
      clear hres
      go_wp2
      go_meet
      exact HJ
 obtain⟨hI3,hFE,hnz,hres⟩:=hcut.out
 clear hcut HI2 a0 a1 f1
 obtain⟨a0,a1,_,f1,_⟩:=hI3.went.2.cells
 have k0:(0:Int)≤(k:Int):=by omega
 have k1:(k:Int)≤(E:Int):=by omega
 have k2:(E:Int)≤(s.size:Int):=by omega
 have hT:(s.extract k E).data.toList=(s.data.toList.drop k).take (E - k):=by rw[Lib.extract_data]
 have hTs:(s.extract k E).size≤100000000:=by simp only[ByteArray.size_extract];omega
 have hdig:=digits_of s.data.toList F
 rw[HE.out]at hdig
 have hne:(s.data.toList.drop F).take (E - F)≠ []:=by
  intro e
  have:=congrArg List.length e
  rw[List.length_take,List.length_drop,size_toList]at this
  simp at this;omega
 obtain⟨m,hm⟩: ∃m,digV ((s.data.toList.drop F).take (E - F))=m:=⟨_,rfl⟩
 rw[hm]at hres hnz
 have hPI:Lib.parseIntB 64 (s.extract k E).data.toList=match numRes (decide (s.data.toList[k]? =some 45)) m k E with| .ok v _=> .ok v| .bad _ _=> .range:=by
  rw[hT]
  by_cases h45:s.data.toList[k]? =some 45
  · have eF:F=k+1:=by rw[←HF.out,if_pos h45]
    have e1:(s.data.toList.drop k).take (E - k)=45::(s.data.toList.drop F).take (E - F):=by
     rw[drop_at h45,show E - k=(E - F)+1 by omega,List.take_succ_cons,eF]
    rw[e1,intB_neg hdig hne,hm,decide_eq_true h45]
    unfold numRes
    rw[if_pos rfl]
    have:=hnz eF
    by_cases hb:9223372036854775808<m
    · rw[if_pos hb,if_pos (.inr hb)]
    · rw[if_neg hb,if_neg (by rintro(q|q);exact this q;exact hb q)]
  · have eF:F=k:=by rw[←HF.out,if_neg h45]
    rw[eF]at hdig hne hm
    rw[intB_pos hdig hne,hm,decide_eq_false h45]
    unfold numRes
    rw[if_neg (show ¬((false:Bool)=true)by decide)]
    by_cases hb:9223372036854775807<m
    · rw[if_pos hb,if_pos hb]
    · rw[if_neg hb,if_neg hb]
 have hform:(∃v,numRes (decide (s.data.toList[k]? =some 45)) m k E= .ok v E)∨numRes (decide (s.data.toList[k]? =some 45)) m k E= .bad 7 k:=by
  unfold numRes
  split
  · split
    · exact .inr rfl
    · exact .inl ⟨_,rfl⟩
  · split
    · exact .inr rfl
    · exact .inl ⟨_,rfl⟩
 clear hT hdig hne hm hnz
 rcases hform with⟨v,hv⟩|hv
 · rw[hv]at hPI hres
   simp only at hPI
   subst hres
   have hPc: ∀W:World,Calls Tryz.prog 207 #[.string (s.extract k E), .int .i64 10, .int .i64 64] W fun e w'=>e= .returned (.tuple #[.int .i64 v, .nilIface])∧Below W.heap.size W w':=fun W=>
    (Tryz.strconv_ParseInt_ok (s.extract k E) (by omega) v hPI W).mono fun e w' ⟨he,hw⟩=>⟨he,by
      rcases hw with rfl|⟨t,rfl⟩
      · exact Below.refl _ _
      · exact Go.Joins.below_bytesWorld _ _ _ _ (Nat.le_refl _)⟩
   have hlt3:=hI3.went.2.cells.2.2.2.2
   have HPc:=Lib.hid hPc
   have HI3:=Lib.hid hI3
   have HPI:=Lib.hid hPI
   have Hv:=Lib.hid hv
   clear hPc hI3 hPI hv
   go_wp2
   go_region_held3 (fun W=>W.cell? ⟨R,0,none⟩=some (.string s)∧W.cell? ⟨R,1,none⟩=some (.int .i64 E)) (go_keep) (first|(go_at_call 207;refine(HPc.out _).mono ?_;rintro e w1 ⟨rfl,hb1⟩;have hbr1:Below wc.heap.size wc w1:=(Below.drew (Below.refl _ _)).trans hb1;obtain⟨hc1,hf1⟩:=bcellM hbr1))
   all_goals
    have hI4:NRd w w1 R g s E:=⟨HI3.out.went.below hbr1,HI3.out.res.below hbr1 HI3.out.res.lt⟩
    obtain⟨r0,r1,r2,r3,r4,r5⟩:=vcell hI4.res
    have fz:=hI4.res.frozen
    have hlt4:=hI4.res.lt
    clear hc1 hf1 hb1 hbr1
    have HI4:=Lib.hid hI4
    clear hI4
    go_wp2
    have hxf:=((((((HI4.out.res.set_ 0 (.int .i64 3)).set_ 1 (.bool false)).set_ 2 (.int .i64 v)).set_ 3 (.string ⟨#[]⟩)).set_ 4 (.slice none 0 0)).set_ 5 (.slice none 0 0))
    exact bodyPost_ret (results_cell6 rfl rfl hxf) rfl ⟨⟨_,rfl,fresh_leafs 3 false v _⟩,RdTo.many (Nat.le_refl _) hR [.int .i64 3, .bool false, .int .i64 v, .string ⟨#[]⟩, .slice none 0 0, .slice none 0 0] 0 HI4.out.went⟩
 · rw[hv]at hPI hres
   simp only at hPI
   subst hres
   have hPc: ∀W:World,Below wc.heap.size wc W→Calls Tryz.prog 207 #[.string (s.extract k E), .int .i64 10, .int .i64 64] W fun e w'=>(∃n te pe,e= .returned (.tuple #[.int .i64 n, .iface te pe]))∧Below W.heap.size W w':=fun W hW=>by
    obtain⟨te,pe,hte⟩:=HN.out W (grownBy_below hI3.went.1 hW)
    exact(Tryz.strconv_ParseInt_range (s.extract k E) (by omega) hPI _ W hte (.inr ⟨te,pe,rfl⟩)).mono fun e w' ⟨N,he,_,_,hb⟩=>⟨⟨_,_,_,he⟩,hb⟩
   have hlt3:=hI3.went.2.cells.2.2.2.2
   have HPc:=Lib.hid hPc
   have HI3:=Lib.hid hI3
   have HPI:=Lib.hid hPI
   have Hv:=Lib.hid hv
   clear hPc hI3 hPI hv
   go_wp2
   go_region_held3 (fun W=>W.cell? ⟨R,0,none⟩=some (.string s)∧W.cell? ⟨R,1,none⟩=some (.int .i64 E)) (go_keep) (first|(go_at_call 207;refine(HPc.out _ (Below.drew (Below.refl _ _))).mono ?_;rintro e w1 ⟨⟨n,te,pe,rfl⟩,hb1⟩;have hbr1:Below wc.heap.size wc w1:=(Below.drew (Below.refl _ _)).trans hb1;obtain⟨hc1,hf1⟩:=bcellM hbr1))
   all_goals
    have hW:=wrong_calls (.pointer (some ⟨R,0,none⟩)) 7 (k:Nat) w1
    have hgb:=grownBy_below HI3.out.went.1 hbr1
    clear hc1 hf1 hb1 hbr1
    have HW:=Lib.hid hW
    have Hgb:=Lib.hid hgb
    clear hW hgb
    go_wp2_with (fail)
    with_reducible refine(HW.out).mono ?_
    rintro e w10 ⟨rfl,rfl⟩
    exact⟨rfl,rfl,Hgb.out⟩
end Go.Proofs.YtackmnbpfbaemaaGreatDoor

namespace Go.Proofs.YtackmnbpfbaemaaGreatDoor
open Go Go.RowKit
theorem mkey_str:MKey Tryz.prog 9 Value.string:=mkey_string Tryz.underlying9
theorem findM_app (a k:ByteArray) (v:Value): ∀kv:List (ByteArray×Value),findM k kv=none→findM a (kv++ [(k,v)])=if a=k then some v else findM a kv
 | [],_=>by simp[findM]
 |(c,u)::r,h=>by
  have hc:k≠c:=by
   intro e
   simp[findM,e]at h
  have hr:findM k r=none:=by simpa[findM,hc]using h
  simp only[List.cons_append,findM]
  by_cases e:a=c
  · subst e
    rw[if_pos rfl,if_neg (Ne.symm hc),if_pos rfl]
  · rw[if_neg e,if_neg e,findM_app a k v r hr]
def LookIs (w:World) (g n:Nat) (F:ByteArray→Option Value):Prop:= ∃kv,MapAt Value.string w g kv∧kv.length=n∧ ∀k,findM k kv=F k
variable {w w':World} {g n:Nat} {F:ByteArray→Option Value} {P:Program}
theorem LookIs.lt (h:LookIs w g n F):g<w.heap.size:=by
 obtain⟨kv,h,_⟩:=h
 exact h.lt
theorem LookIs.keep (h:LookIs w g n F) (hk:w'.heap[g]? =w.heap[g]?):LookIs w' g n F:=by
 obtain⟨kv,h1,h2⟩:=h
 exact⟨kv,h1.keep hk,h2⟩
theorem LookIs.below {B:Nat} (h:LookIs w g n F) (hb:Below B w w') (hg:g<B):LookIs w' g n F:=h.keep (hb.block g hg)
theorem LookIs.new (w:World):LookIs (w.alloc (.map #[] 0)) w.heap.size 0 fun _=>none:=⟨[],MapAt.new w,rfl,fun _=>rfl⟩
theorem LookIs.ext {G:ByteArray→Option Value} (h:LookIs w g n F) (e: ∀k,F k=G k):LookIs w g n G:=by
 obtain⟨kv,h1,h2,h3⟩:=h
 exact⟨kv,h1,h2,fun k=>(h3 k).trans (e k)⟩
theorem oper_insertL {kt et t:TypeId} {o:Oper} {a:Act} {K:Act→World→Prop} {Q:Exit→Act→World→Prop} {m x u:Operand} (hop:o.op=Op.insert t m x u)
 (hP:MKey P kt Value.string) (ht:P.underlying t=some (.map kt et)) (hm:a.eval m= .map (some g)) (h:LookIs w g n F) {k:ByteArray} {v:Value} (hx:a.eval x= .string k) (hv:a.eval u=v) (hn:F k=none)
 (hK: ∀w',LookIs w' g (n+1) (fun b=>if b=k then some v else F b)→w.grownBy w' (some g)→w'.heap.size=w.heap.size→K (a.put o.dst undef) w'):Oper.wp P o a w K Q:=by
 obtain⟨kv,h1,h2,h3⟩:=h
 have hn':findM k kv=none:=(h3 k).trans hn
 obtain⟨w',hrun,r1,r2,r3⟩:=run_insertM hP ht h1 hn' v
 unfold Oper.wp
 simp[execOp,hop,hm,hx,hv,hrun,Result.andThen]
 refine hK w' ⟨_,r1,by simp[h2],fun b=> ?_⟩ r2 r3
 rw[findM_app b k v kv hn',h3 b]
theorem run_lookL {kt et t:TypeId} (hP:MKey P kt Value.string) (ht:P.underlying t=some (.map kt et)) (h:LookIs w g n F) (a:ByteArray) {z:Value} (hz: ∀w,(zeroValue et).run P w= .ok z w) (c:Bool):
 (Instr.lookup t (.map (some g)) (.string a) c).run P w= .ok (if c then .tuple #[(F a).getD z, .bool (F a).isSome]else(F a).getD z) w:=by
 obtain⟨kv,h1,_,h3⟩:=h
 have:=run_lookM hP ht h1 a hz c
 rw[h3 a]at this
 exact this
def anyOrder (md:Region.Mode) (ops:Array Oper) (E:Array Bool):Nat→Array Bool→List Nat→Bool
 |0,l,rs=>decide (rs= [])&&decide (l=E)
 |n+1,l,rs=>decide (rs≠ [])&&decide (Region.ready md ops l=rs)&&rs.all fun i=>anyOrder md ops E n (l.setIfInBounds i true) (rs.erase i)
theorem inserts_any {md:Region.Mode} {ops:Array Oper} {Q:Exit→Act→World→Prop} {E:Array Bool} {a:Act} {kt et t:TypeId} {w0:World} {fuel:Nat} (hP:MKey P kt Value.string) (ht:P.underlying t=some (.map kt et))
 (key:Nat→ByteArray) (val:Nat→Value) (rs0:List Nat) (hg:w0.heap.size≤g)
 (hop: ∀i ∈ rs0,∃o m x u,ops[i]? =some o∧(∀y,Region.wanted o y=true)∧a.put o.dst undef=a∧o.op=Op.insert t m x u∧a.eval m= .map (some g)∧a.eval x= .string (key i)∧a.eval u=val i)
 (hinj: ∀i ∈ rs0,∀j ∈ rs0,key i=key j→i=j)
 (G:ByteArray→Option Value) (m0:Nat)
 (hend: ∀W,LookIs W g m0 G→Below w0.heap.size w0 W→wpAnyH P md ops Q (fun _=>True) fuel E a W):
 ∀(n:Nat) (rs:List Nat) (l:Array Bool) (F:ByteArray→Option Value) (m:Nat) (W:World),(∀i ∈ rs,i ∈ rs0)→rs.Nodup→anyOrder md ops E n l rs=true→m+n=m0→LookIs W g m F→
  (∀i ∈ rs,F (key i)=none)→(∀i ∈ rs,G (key i)=some (val i))→(∀k,(∀i ∈ rs,k≠key i)→F k=G k)→Below w0.heap.size w0 W→wpAnyH P md ops Q (fun _=>True) (fuel+n) l a W
 |0,rs,l,F,m,W,_,_,ho,hm,hL,_,_,hF,hB=>by
  simp only[anyOrder,Bool.and_eq_true,decide_eq_true_eq]at ho
  obtain⟨rfl,rfl⟩:=ho
  subst hm
  exact hend W (hL.ext fun k=>hF k (fun i hi=>by cases hi)) hB
 |n+1,rs,l,F,m,W,hin,hnd,ho,hm,hL,hn,hv,hF,hB=>by
  simp only[anyOrder,Bool.and_eq_true,decide_eq_true_eq]at ho
  obtain⟨⟨hne,hr⟩,hall⟩:=ho
  refine wpAnyH_ready (rs:=rs) hr hne ?_
  intro i hi
  obtain⟨o,mm,x,u,h1,h2,h3,h4,h5,h6,h7⟩:=hop i (hin i hi)
  refine wpOp_step h1 (fun K' hK=> ?_)
  rw[if_pos (h2 _)]
  refine oper_insertL h4 hP ht h5 hL h6 h7 (hn i hi) ?_
  intro w' hL' hgr _
  refine hK _ _ ⟨trivial, ?_⟩
  rw[h3]
  have hrest:=List.all_eq_true.1 hall i hi
  have hni: ∀j ∈ rs.erase i,j ∈ rs∧j≠i:=fun j hj=>⟨List.mem_of_mem_erase hj,fun e=>by subst e;exact hnd.not_mem_erase hj⟩
  have hkey: ∀j ∈ rs.erase i,key j≠key i:=fun j hj e=>(hni j hj).2 (hinj j (hin j (hni j hj).1) i (hin i hi) e)
  refine inserts_any hP ht key val rs0 hg hop hinj G m0 hend n (rs.erase i) _ _ (m+1) w' (fun j hj=>hin j (hni j hj).1) (hnd.erase i) hrest (by omega) hL' (fun j hj=> ?_) (fun j hj=>hv j (hni j hj).1) (fun k hk=> ?_) (hB.grown hgr hB.size fun q e=>by cases e;exact hg)
  · show(if key j=key i then some (val i)else F (key j))=none
    rw[if_neg (hkey j hj)]
    exact hn j (hni j hj).1
  · show(if k=key i then some (val i)else F k)=G k
    by_cases e:k=key i
    · rw[if_pos e,e,hv i hi]
    · rw[if_neg e]
      refine hF k fun j hj=> ?_
      by_cases hji:j=i
      · rw[hji];exact e
      · exact hk j ((List.mem_erase_of_ne hji).2 hj)
end Go.Proofs.YtackmnbpfbaemaaGreatDoor

namespace Go.Proofs.YtackmnbpfbaemaaGreatDoor
def leSum:List UInt8→Nat
 | []=>0
 |x::r=>x.toNat+256*leSum r
theorem leSum_sumBytes {s:Nat} (h:s<4294967296):leSum (sumBytes s)=s:=by
 have e: ∀n,n<256→(UInt8.ofNat n).toNat=n:=fun n hn=>by
  rw[UInt8.toNat_ofNat'];exact Nat.mod_eq_of_lt (by omega)
 simp only[sumBytes,leSum]
 rw[e _ (by omega),e _ (by omega),e _ (by omega),e _ (by omega)]
 omega
def sealedB (b:List UInt8):Bool:=decide (4≤b.length)&&decide (crcMore 0 (b.take (b.length - 4))=leSum (b.drop (b.length - 4)))
theorem sealedB_seal (l:List UInt8):sealedB (sealL l)=true:=by
 have h4:(sumBytes (crcMore 0 l)).length=4:=rfl
 have hl:(sealL l).length - 4=l.length:=by unfold sealL;rw[List.length_append,h4];omega
 unfold sealedB
 rw[hl]
 unfold sealL
 rw[List.take_left',List.drop_left' rfl,leSum_sumBytes (crcMore_lt 0 l),List.length_append,h4]
 simp
 rfl
theorem sealedB_of {b:List UInt8} (h:sealedB b=true):b=sealL (b.take (b.length - 4)):=by
 unfold sealedB at h
 simp only[Bool.and_eq_true,decide_eq_true_eq]at h
 obtain⟨h1,h2⟩:=h
 have hl:(b.drop (b.length - 4)).length=4:=by rw[List.length_drop];omega
 conv=>lhs;rw[←List.take_append_drop (b.length - 4) b]
 unfold sealL
 congr 1
 rw[h2]
 match hq:b.drop (b.length - 4),hl with
 | [p,q,r,s],_=>
   have hp:=p.toNat_lt
   have hq:=q.toNat_lt
   have hr:=r.toNat_lt
   have hs:=s.toNat_lt
   simp only[leSum,sumBytes]
   have e1:(p.toNat+256*(q.toNat+256*(r.toNat+256*(s.toNat+256*0)))) % 256=p.toNat:=by omega
   have e2:(p.toNat+256*(q.toNat+256*(r.toNat+256*(s.toNat+256*0)))) / 256 % 256=q.toNat:=by omega
   have e3:(p.toNat+256*(q.toNat+256*(r.toNat+256*(s.toNat+256*0)))) / 65536 % 256=r.toNat:=by omega
   have e4:(p.toNat+256*(q.toNat+256*(r.toNat+256*(s.toNat+256*0)))) / 16777216 % 256=s.toNat:=by omega
   rw[e1,e2,e3,e4]
   simp
end Go.Proofs.YtackmnbpfbaemaaGreatDoor

namespace Go.Proofs.YtackmnbpfbaemaaGreatDoor
def openL (b:List UInt8):Option (List UInt8):=if sealedB b then some (b.take (b.length - 4))else none
theorem sealL_len (l:List UInt8):(sealL l).length=l.length+4:=by
 have h4:(sumBytes (crcMore 0 l)).length=4:=rfl
 unfold sealL
 rw[List.length_append,h4]
theorem sealL_take (l:List UInt8):(sealL l).take ((sealL l).length - 4)=l:=by
 rw[sealL_len,Nat.add_sub_cancel]
 unfold sealL
 exact List.take_left' rfl
theorem openL_seal (l:List UInt8):openL (sealL l)=some l:=by
 unfold openL
 rw[if_pos (sealedB_seal l),sealL_take]
theorem openL_some {b l:List UInt8} (h:openL b=some l):b=sealL l:=by
 unfold openL at h
 split at h
 · rename_i hs
   rw[←Option.some.inj h]
   exact sealedB_of hs
 · cases h
def bodyE (k:UInt8) (b:List UInt8):Int:=match openL b with
 |none=>11
 |some []=>11
 |some (x::_)=>if x=0 then 2 else if x=k then 0 else 13
def bodyB (b:List UInt8):List UInt8:=((openL b).getD []).drop 1
theorem bodyB_seal (k:UInt8) (l:List UInt8):bodyB (sealL (k::l))=l:=by
 unfold bodyB
 rw[openL_seal]
 rfl
theorem bodyE_seal {k:UInt8} (hk:k≠0) (l:List UInt8):bodyE k (sealL (k::l))=0:=by
 unfold bodyE
 rw[openL_seal]
 show(if k=0 then(2:Int)else if k=k then 0 else 13)=0
 rw[if_neg hk,if_pos rfl]
theorem bodyE_other {k j:UInt8} (hk:k≠0) (hj:k≠j) (l:List UInt8):bodyE j (sealL (k::l))=13:=by
 unfold bodyE
 rw[openL_seal]
 simp only
 rw[if_neg hk,if_neg hj]
theorem bodyE_zero {k:UInt8} {b:List UInt8} (h:bodyE k b=0):b=sealL (k::bodyB b):=by
 unfold bodyE at h
 split at h
 · cases h
 · cases h
 · rename_i x r ho
   split at h
   · cases h
   · split at h
     · rename_i _ e
       subst e
       have hb:=openL_some ho
       have:bodyB b=r:=by
        unfold bodyB
        rw[ho]
        rfl
       rw[this]
       exact hb
     · cases h
theorem bodyB_len (b:List UInt8):(bodyB b).length≤b.length:=by
 unfold bodyB openL
 split
 · simp
   omega
 · simp
end Go.Proofs.YtackmnbpfbaemaaGreatDoor

namespace Go.Proofs.YtackmnbpfbaemaaGreatDoor
open Go Go.RowKit
structure RBx (w W:World) (cs:Array Value):Prop where
 below:Below w.heap.size w W
 blk:Blk W w.heap.size 39 cs
theorem RBx.start (w:World):RBx w (w.alloc (.cells zero6 39)) zero6:=⟨alloc_below w _,Blk.new _ _ _⟩
theorem RBx.later {w W W':World} {cs:Array Value} (h:RBx w W cs) (t:Below W.heap.size W W'):RBx w W' cs:=⟨h.below.trans (t.mono h.below.size),h.blk.below t h.blk.lt⟩
theorem RBx.many {w W:World} {b0 b1 b2 b3 b4 b5:Value} (h:RBx w W #[b0,b1,b2,b3,b4,b5]) (a0 a1 a2 a3 a4 a5:Value):RBx w (setMany W w.heap.size 0 [a0,a1,a2,a3,a4,a5]) #[a0,a1,a2,a3,a4,a5]:=
 ⟨setMany_below _ h.below (Nat.le_refl _),((((((h.blk.set_ 0 a0).set_ 1 a1).set_ 2 a2).set_ 3 a3).set_ 4 a4).set_ 5 a5)⟩
def RefOut (w:World) (RES:Rd Val) (e:Ending) (w':World):Prop:=Below w.heap.size w w'∧match RES with
 | .ok v q=> ∃cs:List Value,e= .returned (.tuple #[.agg cs.toArray, .int .i64 (q:Nat), .int .i64 0])∧Fresh w.heap.size w' (dV v) cs
 | .bad c q=>e= .returned (.tuple #[.agg zero6, .int .i64 (q:Nat), .int .i64 c])
end Go.Proofs.YtackmnbpfbaemaaGreatDoor

namespace Go.Proofs.YtackmnbpfbaemaaGreatDoor
open Go.RowKit
theorem odd_bn {k:Int} {b:Bool} {n:Int} {t:ByteArray} {ln on:Nat} (h:oddB k b n t ln on=false):(k=2∨b=false)∧(k=3∨n=0):=by
 unfold oddB at h
 by_cases h1:k=1
 · subst h1;simp at h;exact⟨.inr h.1.1.1.1, .inr h.1.1.1.2⟩
 by_cases h2:k=2
 · subst h2;simp at h;exact⟨.inl rfl, .inr h.1.1.1⟩
 by_cases h3:k=3
 · subst h3;simp at h;exact⟨.inr h.1.1.1, .inl rfl⟩
 by_cases h4:k=4
 · subst h4;simp at h;exact⟨.inr h.1.1.1, .inr h.1.1.2⟩
 by_cases h5:k=5
 · subst h5;simp at h;exact⟨.inr h.1.1.1, .inr h.1.1.2⟩
 by_cases h6:k=6
 · subst h6;simp at h;exact⟨.inr h.1.1.1, .inr h.1.1.2⟩
 simp[h1,h2,h3,h4,h5,h6]at h
theorem digs_range (u:Nat): ∀c ∈ digs u,48≤c.toNat∧c.toNat≤57:=by
 induction u using Nat.strongRecOn with
 |_ u ih=>
  intro c hc
  by_cases h:u=0
  · subst h
    rw[digs_zero]at hc
    cases hc
  · rw[digs_pos h]at hc
    rcases List.mem_append.1 hc with hc|hc
    · exact ih (u / 10) (by omega) c hc
    · simp only[List.mem_singleton]at hc
      subst hc
      have: ∀d:Fin 10,48≤(dgt d.val).toNat∧(dgt d.val).toNat≤57:=by decide
      exact this ⟨u % 10,by omega⟩
def numD (l:List UInt8):Nat:=l.foldl (fun a c=>a*10+(c.toNat - 48)) 0
theorem numD_digs (u:Nat):numD (digs u)=u:=by
 induction u using Nat.strongRecOn with
 |_ u ih=>
  by_cases h:u=0
  · subst h;rw[digs_zero];rfl
  · rw[digs_pos h]
    unfold numD
    rw[List.foldl_append]
    have:=ih (u / 10) (by omega)
    unfold numD at this
    rw[this]
    have hd: ∀d:Fin 10,(dgt d.val).toNat - 48=d.val:=by decide
    have:=hd ⟨u % 10,by omega⟩
    simp only[List.foldl_cons,List.foldl_nil]
    simp only at this
    omega
theorem itoa_range (n:Int): ∀c ∈ Lib.itoa n,c.toNat=45∨(48≤c.toNat∧c.toNat≤57):=by
 intro c hc
 by_cases h:n<0
 · have e:Lib.itoa n=45::digs n.natAbs:=by rw[Lib.itoa,if_pos h,digs_dec _ (by omega)]
   rw[e]at hc
   rcases List.mem_cons.1 hc with rfl|hc
   · exact .inl rfl
   · exact .inr (digs_range _ c hc)
 · by_cases h0:n=0
   · subst h0
     have e:Lib.itoa 0= [48]:=by
      rw[Lib.itoa,if_neg (by omega)]
      exact Lib.decDigits_one (i:=0) (by omega)
     rw[e]at hc
     simp only[List.mem_singleton]at hc
     subst hc
     exact .inr (by decide)
   · have e:Lib.itoa n=digs n.toNat:=by rw[Lib.itoa,if_neg h,digs_dec _ (by omega)]
     rw[e]at hc
     exact .inr (digs_range _ c hc)
end Go.Proofs.YtackmnbpfbaemaaGreatDoor

namespace Go.Proofs.YtackmnbpfbaemaaGreatDoor
open Go.RowKit
def CopyC (v:Val):Prop:= ∀(cs:List Value) (w:World),HoldsV w w.heap.size v cs→v.bulk≤100000000→
    Calls Tryz.prog 44 #[.agg cs.toArray] w fun e w'=>(∃cs',e= .returned (.agg (cs':List Value).toArray)∧cs'.length=6∧FreshV w w' v cs')∧Below w.heap.size w w'
end Go.Proofs.YtackmnbpfbaemaaGreatDoor
