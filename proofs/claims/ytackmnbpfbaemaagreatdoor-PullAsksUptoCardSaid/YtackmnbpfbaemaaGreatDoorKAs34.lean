/- Parts, joined: Whether a pull may be: the program's word and the reference's. No condition. The reference's keys and its zero value. Condition: a bulk of at most 10^8. commonplaceref18.MayRequest: whether a pull may be. No condition. Digits, and what strconv.ParseInt says of them. Plain. No condition. parse.reader.number. Condition: a text of at most 10^8 bytes. What was sealed, and a frame's body, or why it has none. Plain. No condition. What a reader of a whole text hands back, and the variable that holds its result. No condition. A value's own text is read as that value. Plain. No condition. A value's parts; a value that may be is what its Kind says. Plain. No condition. What a list of ops is read of, or why of none. Plain. No condition. -/
import Derived.Test.YtackmnbpfbaemaaGreatDoorProg
import Derived.WalkKit
import Derived.Lib.Hide
import Derived.WalkLawsBesides
import Derived.Lib.ParseIntBCases
import Derived.Lib.SmallJoins
import Derived.Test.YtackmnbpfbaemaaGreatDoorKAs1
import Derived.Test.YtackmnbpfbaemaaGreatDoorKAs15
import Derived.Test.YtackmnbpfbaemaaGreatDoorKAs18
import Derived.Test.YtackmnbpfbaemaaGreatDoorKAs24
import Derived.Test.YtackmnbpfbaemaaGreatDoorKAs29
import Derived.Test.YtackmnbpfbaemaaGreatDoorKAs31
namespace Go.Proofs.YtackmnbpfbaemaaGreatDoor
open Go.RowKit
theorem isClient_calls (n:Int) (B:Bool) (w:World) (h:(decide (0<n)&&decide (n≤4611686018427387903))=B):Calls Tryz.prog 45 #[.int .u64 n] w fun e w'=>e= .returned (.bool B)∧w=w':=by
 by_cases h1:0<n
 · by_cases h2:n≤4611686018427387903
   · obtain rfl:true=B:=by rw[←h];simp[h1,h2]
     clear h
     go_enter Tryz.func45,Tryz.ntmps45
     go_wp2
     go_ret
     exact⟨rfl,rfl⟩
   · obtain rfl:false=B:=by rw[←h];simp[h1,h2]
     clear h
     have h3:4611686018427387903<n:=by omega
     go_enter Tryz.func45,Tryz.ntmps45
     go_wp2
     go_ret
     exact⟨rfl,rfl⟩
 · obtain rfl:false=B:=by rw[←h];simp[h1]
   clear h
   have h2:n≤0:=by omega
   go_enter Tryz.func45,Tryz.ntmps45
   go_wp2
   go_ret
   exact⟨rfl,rfl⟩
theorem MayRequest_calls (c k:Int) (w:World):Calls Tryz.prog 23 #[.agg #[.int .u64 c, .int .u64 k]] w fun e w'=>e= .returned (.int .i64 (mayReq c k))∧Below w.heap.size w w':=by
 by_cases h1:0<c∧c≤4611686018427387903
 · obtain⟨h1,h2⟩:=h1
   have hC:=fun W=>isClient_calls c true W (by simp[h1,h2])
   by_cases h3:k≤4611686018427387903
   · have hm:mayReq c k=0:=by unfold mayReq;rw[if_pos ⟨h1,h2,h3⟩]
     have HC:=Lib.hid hC
     have Hm:=Lib.hid hm
     clear hC hm
     go_enter Tryz.func23,Tryz.ntmps23
     go_wp2_with (fail)
     with_reducible refine(HC.out _).mono ?_
     rintro e w' ⟨rfl,rfl⟩
     go_wp2
     go_ret
     exact⟨by rw[Hm.out];rfl,(Below.refl _ _).alloc (Nat.le_refl _) _⟩
   · have hm:mayReq c k=2:=by unfold mayReq;rw[if_neg (by omega)]
     have h4:4611686018427387903<k:=by omega
     have HC:=Lib.hid hC
     have Hm:=Lib.hid hm
     clear hC hm
     clear h3
     go_enter Tryz.func23,Tryz.ntmps23
     go_wp2_with (fail)
     with_reducible refine(HC.out _).mono ?_
     rintro e w' ⟨rfl,rfl⟩
     go_wp2
     go_ret
     exact⟨by rw[Hm.out];rfl,(Below.refl _ _).alloc (Nat.le_refl _) _⟩
 · have hC:=fun W=>isClient_calls c false W (by simp;omega)
   have hm:mayReq c k=2:=by unfold mayReq;rw[if_neg (by omega)]
   have HC:=Lib.hid hC
   have Hm:=Lib.hid hm
   clear hC hm
   clear h1
   go_enter Tryz.func23,Tryz.ntmps23
   go_wp2_with (fail)
   with_reducible refine(HC.out _).mono ?_
   rintro e w' ⟨rfl,rfl⟩
   go_wp2
   go_ret
   exact⟨by rw[Hm.out];rfl,(Below.refl _ _).alloc (Nat.le_refl _) _⟩
end Go.Proofs.YtackmnbpfbaemaaGreatDoor

namespace Go.Proofs.YtackmnbpfbaemaaGreatDoor
open Go.RowKit
abbrev zeroV:Val:= .mk 0 false 0 ⟨#[]⟩ [] []
theorem holds_zero (w:World) (B:Nat):HoldsV w B zeroV [.int .i64 0, .bool false, .int .i64 0, .string ⟨#[]⟩, .slice none 0 0, .slice none 0 0]:=by
 simp only[HoldsV]
 exact⟨none,0,none,0,rfl,by simp,by simp⟩
end Go.Proofs.YtackmnbpfbaemaaGreatDoor

namespace Go.Proofs.YtackmnbpfbaemaaGreatDoor
open Go Go.RowKit
theorem RMayRequest_calls (c k:Int) (w:World) (h0:0≤c):Calls Tryz.prog 8 #[.agg #[.int .u64 c, .int .u64 k]] w fun e w'=>e= .returned (.int .i64 (mayReq c k))∧Below w.heap.size w w':=by
 have hw:Below w.heap.size w (w.alloc (.cells #[.int .u64 c, .int .u64 k] 24)):=(Below.refl _ _).alloc (Nat.le_refl _) _
 by_cases hc:c=0
 · subst hc
   have hm:mayReq 0 k=2:=by unfold mayReq;rw[if_neg (by omega)]
   have Hm:=Lib.hid hm
   have Hw:=Lib.hid hw
   clear hm hw
   go_enter Tryz.func8,Tryz.ntmps8
   go_wp2
   go_ret
   exact⟨by rw[Hm.out];rfl,Hw.out⟩
 have e0:(c==0)=false:=by simpa using hc
 by_cases h2:c≤4611686018427387903
 · by_cases h3:k≤4611686018427387903
   · have hm:mayReq c k=0:=by unfold mayReq;rw[if_pos ⟨by omega,h2,h3⟩]
     have Hm:=Lib.hid hm
     have Hw:=Lib.hid hw
     clear hm hw
     go_enter Tryz.func8,Tryz.ntmps8
     go_wp2
     go_ret
     exact⟨by rw[Hm.out];rfl,Hw.out⟩
   · have hm:mayReq c k=2:=by unfold mayReq;rw[if_neg (by omega)]
     have h4:4611686018427387903<k:=by omega
     have Hm:=Lib.hid hm
     have Hw:=Lib.hid hw
     clear hm hw
     clear h3
     go_enter Tryz.func8,Tryz.ntmps8
     go_wp2
     go_ret
     exact⟨by rw[Hm.out];rfl,Hw.out⟩
 · have hm:mayReq c k=2:=by unfold mayReq;rw[if_neg (by omega)]
   have h4:4611686018427387903<c:=by omega
   have Hm:=Lib.hid hm
   have Hw:=Lib.hid hw
   clear hm hw
   clear h2
   go_enter Tryz.func8,Tryz.ntmps8
   go_wp2
   go_ret
   exact⟨by rw[Hm.out];rfl,Hw.out⟩
end Go.Proofs.YtackmnbpfbaemaaGreatDoor

namespace Go.Proofs.YtackmnbpfbaemaaGreatDoor
open Go Go.RowKit
def digF (acc:Nat) (l:List UInt8):Nat:=l.foldl (fun a c=>a*10+(c.toNat - 48)) acc
theorem digF_ge: ∀(l:List UInt8) (a:Nat),a≤digF a l
 | [],a=>Nat.le_refl a
 |c::r,a=>by
  have:=digF_ge r (a*10+(c.toNat - 48))
  show a≤digF (a*10+(c.toNat - 48)) r
  omega
theorem uintM_digits: ∀(l:List UInt8) (acc:Nat),(∀c ∈ l,isDig c=true)→Lib.parseUintM 18446744073709551615 acc l=if 18446744073709551615<digF acc l∧l≠ []then .range else .ok (digF acc l)
 | [],acc,_=>by simp[Lib.parseUintM,digF]
 |c::r,acc,h=>by
  have hc:=h c (by simp)
  unfold isDig at hc
  rw[decide_eq_true_iff]at hc
  have ih:=uintM_digits r (acc*10+(c.toNat - 48)) (fun x hx=>h x (by simp[hx]))
  have e:digF acc (c::r)=digF (acc*10+(c.toNat - 48)) r:=rfl
  have hg:=digF_ge r (acc*10+(c.toNat - 48))
  unfold Lib.parseUintM
  rw[if_pos hc,e]
  by_cases h1:1844674407370955162≤acc
  · rw[if_pos h1,if_pos ⟨by omega,by simp⟩]
  · rw[if_neg h1]
    by_cases h2:18446744073709551615<acc*10+(c.toNat - 48)
    · rw[if_pos h2,if_pos ⟨by omega,by simp⟩]
    · rw[if_neg h2,ih]
      by_cases hr:r= []
      · subst hr
        rw[if_neg (by simp)]
        have:digF (acc*10+(c.toNat - 48)) []=acc*10+(c.toNat - 48):=rfl
        rw[if_neg (by rw[this];omega)]
      · by_cases h3:18446744073709551615<digF (acc*10+(c.toNat - 48)) r
        · rw[if_pos ⟨h3,hr⟩,if_pos ⟨h3,by simp⟩]
        · rw[if_neg (fun q=>h3 q.1),if_neg (fun q=>h3 q.1)]
theorem uintB_digits {l:List UInt8} (h: ∀c ∈ l,isDig c=true) (hl:l≠ []):Lib.parseUintB 64 l=if 18446744073709551615<digV l then .range else .ok (digV l):=by
 unfold Lib.parseUintB
 rw[if_neg hl]
 have:=uintM_digits l 0 h
 have e:digF 0 l=digV l:=rfl
 rw[e]at this
 show Lib.parseUintM 18446744073709551615 0 l=_
 rw[this]
 by_cases h3:18446744073709551615<digV l
 · rw[if_pos ⟨h3,hl⟩,if_pos h3]
 · rw[if_neg (fun q=>h3 q.1),if_neg h3]
theorem intB_pos {l:List UInt8} (h: ∀c ∈ l,isDig c=true) (hl:l≠ []):Lib.parseIntB 64 l=if 9223372036854775807<digV l then .range else .ok (digV l:Int):=by
 obtain⟨c,r,rfl⟩: ∃c r,l=c::r:=by cases l with|nil=>exact absurd rfl hl|cons c r=>exact⟨c,r,rfl⟩
 have hc:=h c (by simp)
 unfold isDig at hc
 rw[decide_eq_true_iff]at hc
 unfold Lib.parseIntB
 simp only
 rw[if_neg (show ¬(c.toNat=43∨c.toNat=45)by omega),uintB_digits h hl]
 have hn: ¬(c.toNat=45):=by omega
 by_cases h1:18446744073709551615<digV (c::r)
 · rw[if_pos h1,if_pos (by omega)]
 · rw[if_neg h1]
   by_cases h2:9223372036854775807<digV (c::r)
   · simp only[hn,not_false_eq_true,true_and,false_and,if_false]
     rw[if_pos h2,if_pos (by show 9223372036854775808≤_;omega)]
   · simp only[hn,not_false_eq_true,true_and,false_and,if_false]
     rw[if_neg h2,if_neg (by show ¬(9223372036854775808≤_);omega)]
theorem intB_neg {l:List UInt8} (h: ∀c ∈ l,isDig c=true) (hl:l≠ []):Lib.parseIntB 64 (45::l)=if 9223372036854775808<digV l then .range else .ok (-(digV l:Int)):=by
 unfold Lib.parseIntB
 simp only
 rw[if_pos (by decide),uintB_digits h hl]
 by_cases h1:18446744073709551615<digV l
 · rw[if_pos h1,if_pos (by omega)]
 · rw[if_neg h1]
   have hn:(45:UInt8).toNat=45:=by decide
   by_cases h2:9223372036854775808<digV l
   · simp only[hn,not_true_eq_false,true_and,false_and,if_false]
     rw[if_pos h2,if_pos (by show 9223372036854775808<_;omega)]
   · simp only[hn,not_true_eq_false,true_and,false_and,if_false,if_true]
theorem digits_of (s:List UInt8) (f:Nat): ∀c ∈ (s.drop f).take (digEnd s f - f),isDig c=true:=by
 intro c hc
 obtain⟨i,hi⟩:=List.mem_iff_getElem?.1 hc
 have hlt:i<digEnd s f - f:=by
  by_cases h:i<digEnd s f - f
  · exact h
  · rw[List.getElem?_take_eq_none (by omega)]at hi;cases hi
 rw[List.getElem?_take_of_lt hlt,List.getElem?_drop]at hi
 exact digEnd_dig s f (f+i) c (by omega) (by omega) hi
theorem digV_first {s:List UInt8} {f e:Nat} {x:UInt8} (hx:s[f]? =some x) (hz: ¬x=48) (hf:f<digEnd s f) (he:digEnd s f=e):digV ((s.drop f).take (e - f))≠0:=by
 subst he
 have hd:=digEnd_dig s f f x (Nat.le_refl _) hf hx
 unfold isDig at hd
 rw[decide_eq_true_iff]at hd
 have hx48:x.toNat≠48:=fun q=>hz (UInt8.toNat_inj.1 q)
 obtain⟨n,hn⟩: ∃n,digEnd s f - f=n+1:=⟨digEnd s f - f - 1,by omega⟩
 rw[hn,drop_at hx,List.take_succ_cons]
 have h1:=digF_ge ((s.drop (f+1)).take n) (0*10+(x.toNat - 48))
 have e:digV (x::(s.drop (f+1)).take n)=digF (0*10+(x.toNat - 48)) ((s.drop (f+1)).take n):=rfl
 rw[e]
 omega
end Go.Proofs.YtackmnbpfbaemaaGreatDoor

namespace Go.Proofs.YtackmnbpfbaemaaGreatDoor
open Go Go.RowKit
def NumT (w:World):Prop:= ∃te pe,w.cell? ⟨8,0,none⟩=some (.iface te pe)
structure NRd (w wr:World) (R g:Nat) (s:ByteArray) (j:Nat):Prop where
 went:RdTo R g s j w wr
 res:Blk wr w.heap.size 39 zero6
set_option maxRecDepth 100000 in
set_option maxHeartbeats 8000000 in
theorem rdnum_calls (R g:Nat) (s:ByteArray) (k:Nat) (d:Int) (w:World) (hN: ∀W,w.grownBy W (some R)→NumT W) (hs:s.size≤100000000) (hk:k<s.size) (h:RdB w R g s k):
 Calls Tryz.prog 172 #[.pointer (some ⟨R,0,none⟩), .int .i64 d] w (RVPost R g s w ((numberAt s.data.toList k).map intV)):=by
 have hR:R<w.heap.size:=Blk.lt h
 obtain⟨c,hc⟩: ∃c,s[k]=c:=⟨_,rfl⟩
 have hg:s.data.toList[k]? =some c:=by rw[get_byte s hk,hc]
 have hcl:=byte_lt c
 obtain⟨F,hF⟩: ∃F,(if s.data.toList[k]? =some 45 then k+1 else k)=F:=⟨_,rfl⟩
 obtain⟨RES,hRES⟩: ∃r,(numberAt s.data.toList k).map intV=r:=⟨_,rfl⟩
 rw[hRES]
 unfold numberAt at hRES
 rw[hF]at hRES
 have hFk:k≤F∧F≤k+1:=by rw[←hF];split<;>omega
 have hI0:NRd w (w.alloc (.cells zero6 39)) R g s k:=⟨(RdTo.refl h).alloc _,Blk.new _ _ _⟩
 have hb45:((c.toNat:Int)==45)=decide (c=45):=by rw[show(45:Int)=((45:Nat):Int)from rfl,byte_eq (by decide)];rfl
 obtain⟨c0,c1,_,f1,_⟩:=h.cells
 have i0:(0:Int)≤(k:Int):=by omega
 have i1:(k:Int)<(s.size:Int):=by omega
 have HI0:=Lib.hid hI0
 have HN:=Lib.hid hN
 have H:=Lib.hid h
 have HRES:=Lib.hid hRES
 have Hg:=Lib.hid hg
 have HF:=Lib.hid hF
 clear hI0 hN h hRES hg hF
 go_enter Tryz.func172,Tryz.ntmps172
 go_wp2
 go_quiet (fail)
 go_upto_if 22 with(fail)
 go_cut [] (fun wx=>Hid (NRd w wx R g s F))
 case first=>
  by_cases h45:c=45
  · have e45:decide (c=45)=true:=decide_eq_true h45
    have eF:F=k+1:=by rw[←HF.out,Hg.out,h45,if_pos rfl]
    go_wp2
    go_meet
    rw[eF]
    exact⟨(HI0.out.went.drewN _).set _,HI0.out.res.far (by simp;omega) _⟩
  · have e45:decide (c=45)=false:=decide_eq_false h45
    have eF:F=k:=by rw[←HF.out,Hg.out,if_neg (by simpa using h45)]
    go_wp2
    go_meet
    rw[eF]
    exact⟨HI0.out.went.drewN _,HI0.out.res⟩
 have hd0:=digEnd_ge s.data.toList F
 have hd1:=digEnd_le (s:=s.data.toList) (p:=F) (by rw[size_toList];omega)
 rw[size_toList]at hd1
 have HI1:=hcut
 obtain⟨E,hE⟩: ∃E,digEnd s.data.toList F=E:=⟨_,rfl⟩
 rw[hE]at hd0 hd1
 clear hcut HI0 c0 c1 f1 i0 i1
 obtain⟨a0,a1,_,f1,_⟩:=HI1.out.went.2.cells
 have HE:=Lib.hid hE
 clear hE
 go_upto_block 0 with(fail)
 go_cut [] (fun wx=>Hid (NRd w wx R g s E))
 case first=>
  go_wp2_with (fail)
  go_loopg [] (s.size - F) (fun n wr=> ∃j:Nat,F≤j∧j≤s.size∧n=s.size - j∧Hid (digEnd s.data.toList j=E∧NRd w wr R g s j))
  case atStart=>exact⟨F,Nat.le_refl _,by omega,rfl,HE.out,HI1.out⟩
  case round=>
   obtain⟨j,hjF,hj,rfl,hh⟩:=hrel
   obtain⟨z0,z1,_,z3,_⟩:=hh.out.2.went.2.cells
   clear HI1 a0 a1 f1
   have j0:(0:Int)≤(j:Int):=by omega
   by_cases hlt:j<s.size
   · obtain⟨x,hx⟩: ∃x,s[j]=x:=⟨_,rfl⟩
     have hxg:s.data.toList[j]? =some x:=by rw[get_byte s hlt,hx]
     have hxl:=byte_lt x
     have j1:decide ((j:Int)<(s.size:Int))=true:=decide_eq_true (by omega)
     have j2:(j:Int)<(s.size:Int):=by omega
     by_cases hdg:isDig x=true
     · have HN':Hid (digEnd s.data.toList (j+1)=E∧ ∀nq,NRd w ((wr.drewN nq).setCell ⟨R,1,none⟩ (.int .i64 ((j+1:Nat):Int))) R g s (j+1)):=⟨by rw[←digEnd_step hxg hdg];exact hh.out.1,fun nq=>⟨(hh.out.2.went.drewN nq).set _,hh.out.2.res.far (by simp;omega) _⟩⟩
       unfold isDig at hdg
       rw[decide_eq_true_iff]at hdg
       have l1:decide ((48:Int)≤(x.toNat:Int))=true:=decide_eq_true (by omega)
       have l2:decide ((x.toNat:Int)≤57)=true:=decide_eq_true (by omega)
       clear hxg hh hdg
       go_wp2
       go_quiet (fail)
       go_wp2
       go_roundg (s.size - (j+1))
       case measure=>omega
       case rel=>exact⟨j+1,by omega,by omega,rfl,HN'.out.1,HN'.out.2 _⟩
     · have HN':Hid (j=E∧ ∀nq,NRd w (wr.drewN nq) R g s j):=⟨by rw[←hh.out.1,digEnd_stop hxg (by simpa using hdg)],fun nq=>⟨hh.out.2.went.drewN nq,hh.out.2.res⟩⟩
       unfold isDig at hdg
       rw[decide_eq_true_iff]at hdg
       clear hxg hh
       by_cases h48:48≤x.toNat
       · have l1:decide ((48:Int)≤(x.toNat:Int))=true:=decide_eq_true (by omega)
         have l2:decide ((x.toNat:Int)≤57)=false:=decide_eq_false (by omega)
         go_wp2
         go_quiet (fail)
         go_wp2
         go_meet
         have:=HN'.out.2
         rw[HN'.out.1]at this
         exact this _
       · have l1:decide ((48:Int)≤(x.toNat:Int))=false:=decide_eq_false (by omega)
         go_wp2
         go_quiet (fail)
         go_wp2
         go_meet
         have:=HN'.out.2
         rw[HN'.out.1]at this
         exact this _
   · have HN':Hid (j=E∧ ∀nq,NRd w (wr.drewN nq) R g s j):=⟨by rw[←hh.out.1,digEnd_end (by rw[size_toList];omega)],fun nq=>⟨hh.out.2.went.drewN nq,hh.out.2.res⟩⟩
     have j1:decide ((j:Int)<(s.size:Int))=false:=decide_eq_false (by omega)
     clear hh
     go_wp2
     go_quiet (fail)
     go_wp2
     go_meet
     have:=HN'.out.2
     rw[HN'.out.1]at this
     exact this _
 have HI2:=hcut
 clear hcut HI1 a0 a1 f1
 obtain⟨a0,a1,_,f1,_⟩:=HI2.out.went.2.cells
 go_upto_block 2 with(fail)
 go_cut [] (fun wx=>Hid (NRd w wx R g s E∧F<E∧(F=k+1→digV ((s.data.toList.drop F).take (E - F))≠0)∧(numRes (decide (s.data.toList[k]? =some 45)) (digV ((s.data.toList.drop F).take (E - F))) k E).map intV=RES))
 case first=>
  have hres:=HRES.out
  unfold numFrom at hres
  rw[HE.out]at hres
  have F0:(0:Int)≤(F:Int):=by omega
  by_cases hEF:E=F
  · rw[if_pos hEF]at hres
    subst hres
    subst hEF
    have e1:((E:Int)==(E:Int))=true:=by simp
    have hW:=wrong_calls (.pointer (some ⟨R,0,none⟩)) 4 (E:Nat) wc
    have HW:=Lib.hid hW
    clear hW
    go_wp2_with (fail)
    with_reducible refine(HW.out).mono ?_
    rintro e w10 ⟨rfl,rfl⟩
    exact⟨rfl,rfl,HI2.out.went.1⟩
  · rw[if_neg hEF]at hres
    have e1:((E:Int)==(F:Int))=false:=by rw[beq_eq_false_iff_ne];omega
    have hFs:F<s.size:=by omega
    have F1:(F:Int)<(s.size:Int):=by omega
    obtain⟨x,hx⟩: ∃x,s[F]=x:=⟨_,rfl⟩
    have hxg:s.data.toList[F]? =some x:=by rw[get_byte s hFs,hx]
    have hxl:=byte_lt x
    rw[hxg]at hres
    have hx48:((x.toNat:Int)==48)=decide (x=48):=by rw[show(48:Int)=((48:Nat):Int)from rfl,byte_eq (by decide)];rfl
    by_cases hz:x=48
    · have e48:decide (x=48)=true:=decide_eq_true hz
      rw[e48]at hx48
      by_cases hm:F+1<E
      · rw[if_pos ⟨by rw[hz],hm⟩]at hres
        subst hres
        have e2:decide ((F:Int)+1<(E:Int))=true:=decide_eq_true (by omega)
        have e3:(F:Int)+1<(E:Int):=by omega
        have hW:=wrong_calls (.pointer (some ⟨R,0,none⟩)) 4 ((F:Int)+1) wc
        have HW:=Lib.hid hW
        clear hW
        go_wp2_with (fail)
        with_reducible refine(HW.out).mono ?_
        rintro e w10 ⟨rfl,rfl⟩
        exact⟨rfl,by simp[faultE],HI2.out.went.1⟩
      · rw[if_neg (fun q=>hm q.2)]at hres
        have e2:decide ((F:Int)+1<(E:Int))=false:=decide_eq_false (by omega)
        have e3: ¬((F:Int)+1<(E:Int)):=by omega
        have hEF1:E=F+1:=by omega
        have hds:(s.data.toList.drop F).take (E - F)= [48]:=by rw[hEF1,Nat.add_sub_cancel_left,drop_at hxg,hz];rfl
        by_cases hn:F=k+1
        · have h45:s.data.toList[k]? =some 45:=by
           by_cases q:s.data.toList[k]? =some 45
           · exact q
           · have:=HF.out;rw[if_neg q]at this;omega
          have e4:decide ((k:Int)<(F:Int))=true:=decide_eq_true (by omega)
          have e5:(k:Int)<(F:Int):=by omega
          have hr7:numRes (decide (s.data.toList[k]? =some 45)) (digV ((s.data.toList.drop F).take (E - F))) k E= .bad 7 k:=by
           rw[hds,decide_eq_true h45];rfl
          rw[hr7]at hres
          subst hres
          have hW:=wrong_calls (.pointer (some ⟨R,0,none⟩)) 7 (k:Nat) wc
          have HW:=Lib.hid hW
          have Hds:=Lib.hid hds
          have Hr7:=Lib.hid hr7
          clear hW hds hr7
          clear h45 hn hEF1
          go_wp2_with (fail)
          with_reducible refine(HW.out).mono ?_
          rintro e w10 ⟨rfl,rfl⟩
          exact⟨rfl,rfl,HI2.out.went.1⟩
        · have e4:decide ((k:Int)<(F:Int))=false:=decide_eq_false (by omega)
          have e5: ¬((k:Int)<(F:Int)):=by omega
          have HJ:Hid (NRd w wc R g s E∧F<E∧(F=k+1→digV ((s.data.toList.drop F).take (E - F))≠0)∧(numRes (decide (s.data.toList[k]? =some 45)) (digV ((s.data.toList.drop F).take (E - F))) k E).map intV=RES):=⟨HI2.out,by omega,fun q=>absurd q hn,hres⟩
          clear hres hds
          go_wp2
          go_meet
          exact HJ
    · have e48:decide (x=48)=false:=decide_eq_false hz
      rw[e48]at hx48
      rw[if_neg (fun q=>hz (by simpa using q.1))]at hres
      have HJ:Hid (NRd w wc R g s E∧F<E∧(F=k+1→digV ((s.data.toList.drop F).take (E - F))≠0)∧(numRes (decide (s.data.toList[k]? =some 45)) (digV ((s.data.toList.drop F).take (E - F))) k E).map intV=RES):=⟨HI2.out,by omega,fun _=>digV_first hxg hz (by rw[HE.out];omega) HE.out,hres⟩
      clear hres
      go_wp2
      go_meet
      exact HJ
 obtain⟨hI3,hFE,hnz,hres⟩:=hcut.out
 clear hcut HI2 a0 a1 f1
 obtain⟨a0,a1,_,f1,_⟩:=hI3.went.2.cells
 have k0:(0:Int)≤(k:Int):=by omega
 have k1:(k:Int)≤(E:Int):=by omega
 have k2:(E:Int)≤(s.size:Int):=by omega
 have hT:(s.extract k E).data.toList=(s.data.toList.drop k).take (E - k):=by rw[Lib.extract_data]
 have hTs:(s.extract k E).size≤100000000:=by simp only[ByteArray.size_extract];omega
 have hdig:=digits_of s.data.toList F
 rw[HE.out]at hdig
 have hne:(s.data.toList.drop F).take (E - F)≠ []:=by
  intro e
  have:=congrArg List.length e
  rw[List.length_take,List.length_drop,size_toList]at this
  simp at this;omega
 obtain⟨m,hm⟩: ∃m,digV ((s.data.toList.drop F).take (E - F))=m:=⟨_,rfl⟩
 rw[hm]at hres hnz
 have hPI:Lib.parseIntB 64 (s.extract k E).data.toList=match numRes (decide (s.data.toList[k]? =some 45)) m k E with| .ok v _=> .ok v| .bad _ _=> .range:=by
  rw[hT]
  by_cases h45:s.data.toList[k]? =some 45
  · have eF:F=k+1:=by rw[←HF.out,if_pos h45]
    have e1:(s.data.toList.drop k).take (E - k)=45::(s.data.toList.drop F).take (E - F):=by
     rw[drop_at h45,show E - k=(E - F)+1 by omega,List.take_succ_cons,eF]
    rw[e1,intB_neg hdig hne,hm,decide_eq_true h45]
    unfold numRes
    rw[if_pos rfl]
    have:=hnz eF
    by_cases hb:9223372036854775808<m
    · rw[if_pos hb,if_pos (.inr hb)]
    · rw[if_neg hb,if_neg (by rintro(q|q);exact this q;exact hb q)]
  · have eF:F=k:=by rw[←HF.out,if_neg h45]
    rw[eF]at hdig hne hm
    rw[intB_pos hdig hne,hm,decide_eq_false h45]
    unfold numRes
    rw[if_neg (show ¬((false:Bool)=true)by decide)]
    by_cases hb:9223372036854775807<m
    · rw[if_pos hb,if_pos hb]
    · rw[if_neg hb,if_neg hb]
 have hform:(∃v,numRes (decide (s.data.toList[k]? =some 45)) m k E= .ok v E)∨numRes (decide (s.data.toList[k]? =some 45)) m k E= .bad 7 k:=by
  unfold numRes
  split
  · split
    · exact .inr rfl
    · exact .inl ⟨_,rfl⟩
  · split
    · exact .inr rfl
    · exact .inl ⟨_,rfl⟩
 clear hT hdig hne hm hnz
 rcases hform with⟨v,hv⟩|hv
 · rw[hv]at hPI hres
   simp only at hPI
   subst hres
   have hPc: ∀W:World,Calls Tryz.prog 207 #[.string (s.extract k E), .int .i64 10, .int .i64 64] W fun e w'=>e= .returned (.tuple #[.int .i64 v, .nilIface])∧Below W.heap.size W w':=fun W=>
    (Tryz.strconv_ParseInt_ok (s.extract k E) (by omega) v hPI W).mono fun e w' ⟨he,hw⟩=>⟨he,by
      rcases hw with rfl|⟨t,rfl⟩
      · exact Below.refl _ _
      · exact Go.Joins.below_bytesWorld _ _ _ _ (Nat.le_refl _)⟩
   have hlt3:=hI3.went.2.cells.2.2.2.2
   have HPc:=Lib.hid hPc
   have HI3:=Lib.hid hI3
   have HPI:=Lib.hid hPI
   have Hv:=Lib.hid hv
   clear hPc hI3 hPI hv
   go_wp2
   go_region_held3 (fun W=>W.cell? ⟨R,0,none⟩=some (.string s)∧W.cell? ⟨R,1,none⟩=some (.int .i64 E)) (go_keep) (first|(go_at_call 207;refine(HPc.out _).mono ?_;rintro e w1 ⟨rfl,hb1⟩;have hbr1:Below wc.heap.size wc w1:=(Below.drew (Below.refl _ _)).trans hb1;obtain⟨hc1,hf1⟩:=bcellM hbr1))
   all_goals
    have hI4:NRd w w1 R g s E:=⟨HI3.out.went.below hbr1,HI3.out.res.below hbr1 HI3.out.res.lt⟩
    obtain⟨r0,r1,r2,r3,r4,r5⟩:=vcell hI4.res
    have fz:=hI4.res.frozen
    have hlt4:=hI4.res.lt
    clear hc1 hf1 hb1 hbr1
    have HI4:=Lib.hid hI4
    clear hI4
    go_wp2
    have hxf:=((((((HI4.out.res.set_ 0 (.int .i64 3)).set_ 1 (.bool false)).set_ 2 (.int .i64 v)).set_ 3 (.string ⟨#[]⟩)).set_ 4 (.slice none 0 0)).set_ 5 (.slice none 0 0))
    exact bodyPost_ret (results_cell6 rfl rfl hxf) rfl ⟨⟨_,rfl,fresh_leafs 3 false v _⟩,RdTo.many (Nat.le_refl _) hR [.int .i64 3, .bool false, .int .i64 v, .string ⟨#[]⟩, .slice none 0 0, .slice none 0 0] 0 HI4.out.went⟩
 · rw[hv]at hPI hres
   simp only at hPI
   subst hres
   have hPc: ∀W:World,Below wc.heap.size wc W→Calls Tryz.prog 207 #[.string (s.extract k E), .int .i64 10, .int .i64 64] W fun e w'=>(∃n te pe,e= .returned (.tuple #[.int .i64 n, .iface te pe]))∧Below W.heap.size W w':=fun W hW=>by
    obtain⟨te,pe,hte⟩:=HN.out W (grownBy_below hI3.went.1 hW)
    exact(Tryz.strconv_ParseInt_range (s.extract k E) (by omega) hPI _ W hte (.inr ⟨te,pe,rfl⟩)).mono fun e w' ⟨N,he,_,_,hb⟩=>⟨⟨_,_,_,he⟩,hb⟩
   have hlt3:=hI3.went.2.cells.2.2.2.2
   have HPc:=Lib.hid hPc
   have HI3:=Lib.hid hI3
   have HPI:=Lib.hid hPI
   have Hv:=Lib.hid hv
   clear hPc hI3 hPI hv
   go_wp2
   go_region_held3 (fun W=>W.cell? ⟨R,0,none⟩=some (.string s)∧W.cell? ⟨R,1,none⟩=some (.int .i64 E)) (go_keep) (first|(go_at_call 207;refine(HPc.out _ (Below.drew (Below.refl _ _))).mono ?_;rintro e w1 ⟨⟨n,te,pe,rfl⟩,hb1⟩;have hbr1:Below wc.heap.size wc w1:=(Below.drew (Below.refl _ _)).trans hb1;obtain⟨hc1,hf1⟩:=bcellM hbr1))
   all_goals
    have hW:=wrong_calls (.pointer (some ⟨R,0,none⟩)) 7 (k:Nat) w1
    have hgb:=grownBy_below HI3.out.went.1 hbr1
    clear hc1 hf1 hb1 hbr1
    have HW:=Lib.hid hW
    have Hgb:=Lib.hid hgb
    clear hW hgb
    go_wp2_with (fail)
    with_reducible refine(HW.out).mono ?_
    rintro e w10 ⟨rfl,rfl⟩
    exact⟨rfl,rfl,Hgb.out⟩
end Go.Proofs.YtackmnbpfbaemaaGreatDoor

namespace Go.Proofs.YtackmnbpfbaemaaGreatDoor
def openL (b:List UInt8):Option (List UInt8):=if sealedB b then some (b.take (b.length - 4))else none
theorem sealL_len (l:List UInt8):(sealL l).length=l.length+4:=by
 have h4:(sumBytes (crcMore 0 l)).length=4:=rfl
 unfold sealL
 rw[List.length_append,h4]
theorem sealL_take (l:List UInt8):(sealL l).take ((sealL l).length - 4)=l:=by
 rw[sealL_len,Nat.add_sub_cancel]
 unfold sealL
 exact List.take_left' rfl
theorem openL_seal (l:List UInt8):openL (sealL l)=some l:=by
 unfold openL
 rw[if_pos (sealedB_seal l),sealL_take]
def bodyE (k:UInt8) (b:List UInt8):Int:=match openL b with
 |none=>11
 |some []=>11
 |some (x::_)=>if x=0 then 2 else if x=k then 0 else 13
def bodyB (b:List UInt8):List UInt8:=((openL b).getD []).drop 1
theorem bodyB_seal (k:UInt8) (l:List UInt8):bodyB (sealL (k::l))=l:=by
 unfold bodyB
 rw[openL_seal]
 rfl
theorem bodyE_seal {k:UInt8} (hk:k≠0) (l:List UInt8):bodyE k (sealL (k::l))=0:=by
 unfold bodyE
 rw[openL_seal]
 show(if k=0 then(2:Int)else if k=k then 0 else 13)=0
 rw[if_neg hk,if_pos rfl]
theorem bodyB_len (b:List UInt8):(bodyB b).length≤b.length:=by
 unfold bodyB openL
 split
 · simp
   omega
 · simp
end Go.Proofs.YtackmnbpfbaemaaGreatDoor

namespace Go.Proofs.YtackmnbpfbaemaaGreatDoor
open Go Go.RowKit
structure RBx (w W:World) (cs:Array Value):Prop where
 below:Below w.heap.size w W
 blk:Blk W w.heap.size 39 cs
theorem RBx.start (w:World):RBx w (w.alloc (.cells zero6 39)) zero6:=⟨alloc_below w _,Blk.new _ _ _⟩
theorem RBx.later {w W W':World} {cs:Array Value} (h:RBx w W cs) (t:Below W.heap.size W W'):RBx w W' cs:=⟨h.below.trans (t.mono h.below.size),h.blk.below t h.blk.lt⟩
theorem RBx.many {w W:World} {b0 b1 b2 b3 b4 b5:Value} (h:RBx w W #[b0,b1,b2,b3,b4,b5]) (a0 a1 a2 a3 a4 a5:Value):RBx w (setMany W w.heap.size 0 [a0,a1,a2,a3,a4,a5]) #[a0,a1,a2,a3,a4,a5]:=
 ⟨setMany_below _ h.below (Nat.le_refl _),((((((h.blk.set_ 0 a0).set_ 1 a1).set_ 2 a2).set_ 3 a3).set_ 4 a4).set_ 5 a5)⟩
def RefOut (w:World) (RES:Rd Val) (e:Ending) (w':World):Prop:=Below w.heap.size w w'∧match RES with
 | .ok v q=> ∃cs:List Value,e= .returned (.tuple #[.agg cs.toArray, .int .i64 (q:Nat), .int .i64 0])∧Fresh w.heap.size w' (dV v) cs
 | .bad c q=>e= .returned (.tuple #[.agg zero6, .int .i64 (q:Nat), .int .i64 c])
end Go.Proofs.YtackmnbpfbaemaaGreatDoor

namespace Go.Proofs.YtackmnbpfbaemaaGreatDoor
open Go.RowKit
theorem mayO_rise: ∀{l:List (ByteArray×Val)} {last:Option ByteArray} {d:Int},mayO l last d=0→ascO l∧ ∀q,last=some q→ ∀m ∈ l,ltB q m.1=true
 | [],_,_,_=>⟨List.Pairwise.nil,fun q _ m hm=>by cases hm⟩
 |(k,v)::r,last,d,h=>by
  simp only[mayO]at h
  by_cases hP:mayP (k,v) last d=0
  · rw[if_pos hP]at h
    obtain⟨h1,h2⟩:=mayO_rise h
    refine⟨List.pairwise_cons.2 ⟨fun m hm=>h2 k rfl m hm,h1⟩,fun q hq m hm=> ?_⟩
    subst hq
    have hqk:ltB q k=true:=by
     simp only[mayP]at hP
     split at hP
     · split at hP
       · cases hP
       · rename_i hle
         unfold leB at hle
         simp only[Bool.or_eq_true,not_or]at hle
         rcases ltB_tri q k with t|t|t
         · exact t
         · subst t;exact absurd (by simp) hle.2
         · exact absurd t hle.1
     · cases hP
    rcases List.mem_cons.1 hm with rfl|hm
    · exact hqk
    · exact ltB_trans hqk (h2 k rfl m hm)
  · rw[if_neg hP]at h;exact absurd h hP
theorem textL_join: ∀(l:List Val),textL l true=joinC (l.map textV)
 | []=>rfl
 | [v]=>by simp[textL,joinC]
 |v::u::r=>by
  have ih:=textL_join (u::r)
  simp only[textL,if_true,List.nil_append,List.map_cons,joinC]at ih ⊢
  rw[←ih]
  simp
theorem textO_join: ∀(l:List (ByteArray×Val)),textO l true=joinC (l.map textP)
 | []=>rfl
 | [v]=>by simp[textO,joinC]
 |v::u::r=>by
  have ih:=textO_join (u::r)
  simp only[textO,if_true,List.nil_append,List.map_cons,joinC]at ih ⊢
  rw[←ih]
  simp
def memOf (m:ByteArray×Val):Mem:=⟨[], [],textV m.2,m.1,m.2⟩
theorem memOf_text (m:ByteArray×Val):(memOf m).text=textP m:=by
 obtain⟨k,v⟩:=m
 simp[memOf,Mem.text,textP]
theorem memOf_pair (l:List (ByteArray×Val)):(l.map memOf).map Mem.pair=l:=by
 rw[List.map_map]
 conv=>rhs;rw[←List.map_id l]
 exact List.map_congr_left fun x _=>rfl
theorem memOf_texts (l:List (ByteArray×Val)):(l.map memOf).map Mem.text=l.map textP:=by
 rw[List.map_map]
 exact List.map_congr_left fun x _=>memOf_text x
theorem sortO_self {l:List (ByteArray×Val)} (h:ascO l):sortO l=l:=by
 unfold sortO
 rw[objAll_sorted (List.Perm.refl l) h];rfl
theorem blanks_nil:Blanks []:=fun c h=>by cases h
theorem read_text: ∀(v:Val) (d:Int),mayV v d=0→inV v→ReadsV (textV v) v d:=by
 refine Val.ind ?_
 intro k b n t l o hl ho d h hi
 obtain⟨h1,hd,hv,h4,h5⟩:=mayV_parts h
 obtain⟨hk,ht,hln,hon⟩:=odd_parts h1
 obtain⟨hb,hn⟩:=odd_bn h1
 simp only[inV]at hi
 have e1:k≠5→l= []:=fun e=>List.eq_nil_of_length_eq_zero (hln.resolve_left e)
 have e2:k≠6→o= []:=fun e=>List.eq_nil_of_length_eq_zero (hon.resolve_left e)
 have e3:k≠4→t=emptyB:=fun e=>ht.resolve_left e
 have e4:k≠2→b=false:=fun e=>hb.resolve_left e
 have e5:k≠3→n=0:=fun e=>hn.resolve_left e
 rcases hk with rfl|rfl|rfl|rfl|rfl|rfl
 · rw[e1 (by decide),e2 (by decide),e3 (by decide),e4 (by decide),e5 (by decide)]
   have e:textV (.mk 1 false 0 emptyB [] [])= [110,117,108,108]:=by simp[textV]
   rw[e]
   exact read_null hd
 · rw[e1 (by decide),e2 (by decide),e3 (by decide),e5 (by decide)]
   cases b
   · exact read_false hd
   · exact read_true hd
 · rw[e1 (by decide),e2 (by decide),e3 (by decide),e4 (by decide)]
   have e:textV (.mk 3 false n emptyB [] [])=Lib.itoa n:=by simp[textV]
   rw[e]
   exact read_int hi.1 hd
 · rw[e1 (by decide),e2 (by decide),e4 (by decide),e5 (by decide)]
   have e:textV (.mk 4 false 0 t [] [])=quoteB t:=by simp[textV]
   rw[e]
   exact read_txt hv hd
 · rw[e2 (by decide),e3 (by decide),e4 (by decide),e5 (by decide)]
   have e:textV (.mk 5 false 0 emptyB l [])=91::([]++joinC ((l.map fun v=>(textV v,v)).map (·.1))++ [93]):=by
    simp only[textV,textL_join,List.map_map,List.nil_append]
    rfl
   rw[e]
   have key:=read_list hd (l:=l.map fun v=>(textV v,v)) (fun y hy=>by
    obtain⟨v,hv,rfl⟩:=List.mem_map.1 hy
    exact hl v hv (d+1) (mayL_all h4 v hv) (inL_mem hi.2.1 hv)) blanks_nil (fun _=>rfl)
   have e6:(l.map fun v=>(textV v,v)).map (·.2)=l:=by
    rw[List.map_map]
    conv=>rhs;rw[←List.map_id l]
    exact List.map_congr_left fun x _=>rfl
   rw[e6]at key
   exact key
 · rw[e1 (by decide),e3 (by decide),e4 (by decide),e5 (by decide)]
   have hr:=(mayO_rise h5).1
   have e:textV (.mk 6 false 0 emptyB [] o)=123::([]++joinC ((o.map memOf).map Mem.text)++ [125]):=by
    rw[memOf_texts,←textO_join]
    simp[textV]
   rw[e]
   have key:=read_obj hd (l:=o.map memOf) (fun m hm=>by
    obtain⟨x,hx,rfl⟩:=List.mem_map.1 hm
    obtain⟨k1,k2⟩:=mayO_all h5 x hx
    exact⟨blanks_nil,blanks_nil,k1,ho x hx (d+1) k2 (inO_mem hi.2.2 hx)⟩) (by rw[memOf_pair];exact asc_keys hr) blanks_nil (fun _=>rfl)
   rw[memOf_pair,sortO_self hr]at key
   exact key
theorem parse_reads {t:List UInt8} {v:Val} (h:ReadsV t v 1):parseL t= .ok v t.length:=by
 obtain⟨q,h1,h2⟩:=h (4*t.length+4) t 0 [] (Nat.zero_le _) (by simp) StopD.nil (by omega)
 unfold parseL
 rw[h1]
 simp only
 rw[h2,Nat.zero_add,past_end (Nat.le_refl _),if_neg (by omega)]
theorem parse_text {v:Val} (h:mayV v 1=0) (hi:inV v):parseL (textV v)= .ok v (textV v).length:=parse_reads (read_text v 1 h hi)
end Go.Proofs.YtackmnbpfbaemaaGreatDoor

namespace Go.Proofs.YtackmnbpfbaemaaGreatDoor
def kindV:Val→Int
 | .mk k _ _ _ _ _=>k
def intV':Val→Int
 | .mk _ _ n _ _ _=>n
def objV':Val→List (ByteArray×Val)
 | .mk _ _ _ _ _ o=>o
end Go.Proofs.YtackmnbpfbaemaaGreatDoor

namespace Go.Proofs.YtackmnbpfbaemaaGreatDoor
end Go.Proofs.YtackmnbpfbaemaaGreatDoor
