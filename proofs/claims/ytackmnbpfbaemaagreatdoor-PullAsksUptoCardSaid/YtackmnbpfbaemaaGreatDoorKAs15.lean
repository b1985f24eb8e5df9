/- Parts, joined: append of one datum to a row that the call builds: the law that the walks use. No condition. commonplaceref01.Quote: the quote of a text. Condition: a text of at most 10^9 bytes. A reader of values, byte by byte: what stands at a place of a text, and where that ends, or what is wrong, and where. Plain. No condition. parse.newReader: a reader at the beginning of a text. No condition. Printed by mknewr.py. -/
import Derived.Test.YtackmnbpfbaemaaGreatDoorProg
import Derived.Deep.QuietTactic
import Derived.LoopTactic
import Derived.Test.YtackmnbpfbaemaaGreatDoorKAs2
import Derived.Test.YtackmnbpfbaemaaGreatDoorKAs11
import Derived.Test.YtackmnbpfbaemaaGreatDoorKAs13
namespace Go.Proofs.YtackmnbpfbaemaaGreatDoor
open Go Go.RowKit
theorem reads_one {w:World} {g:Nat} {t:TypeId} {cs:Array Value} (h:Blk w g t cs):Reads w (g+1) cs.size (some ⟨g,0,none⟩) 1 cs.toList:=by
 refine⟨by simp,fun _=>⟨_,rfl,by simp,fun j u hu=> ?_⟩⟩
 rw[add_plain',Nat.zero_add]
 exact(h.cell j).trans (by rw[←Array.getElem?_toList];exact hu)
theorem RowD.lit {b:Nat} {t:TypeId} {w:World} {d:D} {cs:Array Value} (hb:b≤w.heap.size) (hd:d.cells=cs.size) (h: ∀w'' B,Holds w'' B d cs.toList):
 RowD b t cs.size (w.alloc (.cells cs t)) [d] (.slice (some ⟨w.heap.size,0,none⟩) 1 1):=
 ⟨cs.toList,World.ownsRow_lit w cs 1 hb (by simp[maxLen]) (by simp),fun x hx=>by simp at hx;rw[hx];exact hd,fun w'' _ _=>HoldsA.one (h w'' _)⟩
theorem RowD.slice {b:Nat} {t:TypeId} {s:Nat} {wr:World} {l:List D} {V:Value} (h:RowD b t s wr l V): ∃a c,V= .slice a l.length c:=by
 obtain⟨ns,h1,_⟩:=h
 rcases h1.2 with⟨rfl,h0⟩|⟨g,cap,cur,rfl,_⟩
 · exact⟨_,_,by rw[h0]⟩
 · exact⟨_,_,rfl⟩
theorem RowD.now {b:Nat} {t:TypeId} {s:Nat} {wr:World} {l:List D} {a:Option Addr} {n c:Nat} (h:RowD b t s wr l (.slice a n c)):Holds wr wr.heap.size (.row s l) [.slice a n c]:=by
 obtain⟨a',c',e,_,hf,_⟩:=h.close
 cases e
 exact hf.now
section
variable {P:Program}
theorem run_append_D {t ty e:TypeId} {i:TypeInfo} {z:Value} {sz bytes:Nat} (ht:P.underlying t=some (.slice e)) (hi:P.info? e=some i) (hz:i.zero=some z) (hsize:i.size=sz) (hby:i.bytes=bytes) (hzs:z.cells.size=sz) (hsz:0<sz)
 {b:Nat} {wr w:World} {l:List D} {V:Value} (hrow:RowD b e sz wr l V) (hbw:b≤wr.heap.size) (hbe:Below wr.heap.size wr w) {d:D} {cs:List Value} (hd:d.cells=sz) (hx:Fresh wr.heap.size w d cs)
 {B:Nat} {A:Option Addr} {c:Nat} (hr:Reads w B sz A 1 cs) (h63:l.length+1≤maxLen) (hbytes:(l.length+1)*bytes≤140737488355328):
 ∃V' w6,(Builtin.append_ #[t,t] ty #[V, .slice A 1 c]).run P w= .ok V' w6∧RowD b e sz w6 (l++ [d]) V'∧w.grownBy w6 V.ownBlock∧(V'.ownBlock=V.ownBlock∨V'.ownBlock=some w.heap.size):=by
 obtain⟨ns,h1,h2,h3⟩:=hrow.below hbe
 have h1r:=hrow
 obtain⟨ns0,k1,k2,k3⟩:=h1r
 have hown:w.ownsRow b e sz V l.length ns0:=by
  refine k1.kept (row:=none) ⟨hbe.os,hbe.tape,hbe.output,hbe.size,fun j hj _=>hbe.block j hj⟩ ?_
  cases hv:V.ownBlock<;>simp
 obtain⟨V',w6,hrun,g1,g2,g3⟩:=run_append_any (P:=P) w b t ty e i z sz bytes ht hi hz hsize hby hzs hsz V l.length ns0 hown B A 1 c cs hr hx.now.len.2 h63 hbytes (Nat.le_trans hbw hbe.size)
 refine⟨V',w6,hrun, ?_,g2,g3⟩
 refine RowD.step hbw k3 k2 hd hx (fun g hg=>(k1.lt g hg).2) g1 ?_ hbe.size g2.size (fun p _ p2=>hbe.cell p2) (fun p _ p2 p3=>World.cell?_of_block (g2.block p.block p2 (fun e=>p3 e.symm)))
 rcases g3 with g3|g3
 · exact .inl g3
 · exact .inr ⟨_,g3,Nat.le_refl _⟩
theorem wp_append_D {o:Oper} {a:Act} {K:Act→World→Prop} {Q:Exit→Act→World→Prop} (s x:Operand) (t:TypeId) {e:TypeId}
 (ho:o.op= .call {callee:= .builtin .append,args:= #[s,x],argTypes:= #[t,t]}) {i:TypeInfo} {z:Value} {sz bytes:Nat} (ht:P.underlying t=some (.slice e)) (hi:P.info? e=some i) (hz:i.zero=some z) (hsize:i.size=sz) (hby:i.bytes=bytes) (hzs:z.cells.size=sz) (hsz:0<sz)
 {b:Nat} {wr w:World} {l:List D} {V:Value} (hs:a.eval s=V) (hrow:RowD b e sz wr l V) (hbw:b≤wr.heap.size) (hbe:Below wr.heap.size wr w) {d:D} {cs:List Value} (hd:d.cells=sz) (hf:Fresh wr.heap.size w d cs)
 {B:Nat} {A:Option Addr} {c:Nat} (hx:a.eval x= .slice A 1 c) (hr:Reads w B sz A 1 cs) (h63:l.length+1≤maxLen) (hbytes:(l.length+1)*bytes≤140737488355328)
 (h: ∀V' w6,RowD b e sz w6 (l++ [d]) V'→w.grownBy w6 V.ownBlock→(V'.ownBlock=V.ownBlock∨V'.ownBlock=some w.heap.size)→K (a.put o.dst V') w6):o.wp P a w K Q:=by
 obtain⟨V',w6,hrun,g1,g2,g3⟩:=run_append_D (ty:=o.type) (c:=c) ht hi hz hsize hby hzs hsz hrow hbw hbe hd hf hr h63 hbytes
 unfold Oper.wp execOp
 simp only[ho,resolve,invoke,builtin,Sem.run_bind,Sem.run_pure,Result.andThen_ok,List.map_toArray,List.map_cons,List.map_nil,hs,hx,hrun]
 exact h V' w6 g1 g2 g3
theorem wpList_append_D {ops:Array Oper} {rest:List Oper} {o:Oper} {a:Act} {Q:Exit→Act→World→Prop} (hgd:o.guard=none) (s x:Operand) (t:TypeId) {e:TypeId}
 (ho:o.op= .call {callee:= .builtin .append,args:= #[s,x],argTypes:= #[t,t]}) {i:TypeInfo} {z:Value} {sz bytes:Nat} (ht:P.underlying t=some (.slice e)) (hi:P.info? e=some i) (hz:i.zero=some z) (hsize:i.size=sz) (hby:i.bytes=bytes) (hzs:z.cells.size=sz) (hsz:0<sz)
 {b:Nat} {wr w:World} {l:List D} {V:Value} (hs:a.eval s=V) (hrow:RowD b e sz wr l V) (hbw:b≤wr.heap.size) (hbe:Below wr.heap.size wr w) {d:D} {cs:List Value} (hd:d.cells=sz) (hf:Fresh wr.heap.size w d cs)
 {B:Nat} {A:Option Addr} {c:Nat} (hx:a.eval x= .slice A 1 c) (hr:Reads w B sz A 1 cs) (h63:l.length+1≤maxLen) (hbytes:(l.length+1)*bytes≤140737488355328)
 (h: ∀V' w6,RowD b e sz w6 (l++ [d]) V'→w.grownBy w6 V.ownBlock→(V'.ownBlock=V.ownBlock∨V'.ownBlock=some w.heap.size)→wpList P ops Q rest (a.put o.dst V') w6):wpList P ops Q (o::rest) a w:=
 wpList_plain hgd fun _ hK=>wp_append_D s x t ho ht hi hz hsize hby hzs hsz hs hrow hbw hbe hd hf hx hr h63 hbytes fun V' w6 h2 h3 h4=>hK _ _ (h V' w6 h2 h3 h4)
theorem step_append_D {ops:Array Oper} {o:Oper} {a:Act} {K:Act→World→Prop} {Q:Exit→Act→World→Prop} {E:Prop} (hgd:o.guard=none) (s x:Operand) (t:TypeId) {e:TypeId}
 (ho:o.op= .call {callee:= .builtin .append,args:= #[s,x],argTypes:= #[t,t]}) {i:TypeInfo} {z:Value} {sz bytes:Nat} (ht:P.underlying t=some (.slice e)) (hi:P.info? e=some i) (hz:i.zero=some z) (hsize:i.size=sz) (hby:i.bytes=bytes) (hzs:z.cells.size=sz) (hsz:0<sz)
 {b:Nat} {wr w:World} {l:List D} {V:Value} (hs:a.eval s=V) (hrow:RowD b e sz wr l V) (hbw:b≤wr.heap.size) (hbe:Below wr.heap.size wr w) {d:D} {cs:List Value} (hd:d.cells=sz) (hf:Fresh wr.heap.size w d cs)
 {B:Nat} {A:Option Addr} {c:Nat} (hx:a.eval x= .slice A 1 c) (hr:Reads w B sz A 1 cs) (h63:l.length+1≤maxLen) (hbytes:(l.length+1)*bytes≤140737488355328)
 (h: ∀V' w6,RowD b e sz w6 (l++ [d]) V'→w.grownBy w6 V.ownBlock→(V'.ownBlock=V.ownBlock∨V'.ownBlock=some w.heap.size)→K (a.put o.dst V') w6):
 if Region.wanted o (yielded ops a.tmps)=true then Oper.wp P o a w K Q else E:=by
 have hw:Region.wanted o (yielded ops a.tmps)=true:=by simp[Region.wanted,hgd]
 rw[if_pos hw]
 exact wp_append_D s x t ho ht hi hz hsize hby hzs hsz hs hrow hbw hbe hd hf hx hr h63 hbytes h
end
end Go.Proofs.YtackmnbpfbaemaaGreatDoor

namespace Go.Proofs.YtackmnbpfbaemaaGreatDoor
open Go.RowKit
theorem encodeRune_len4 (r:Int):(Lib.encodeRune r).length≤4:=by
 unfold Lib.encodeRune Lib.encodeRuneZ
 repeat' split
 all_goals simp
set_option maxRecDepth 100000 in
set_option maxHeartbeats 4000000 in
theorem RQuote_calls (s:ByteArray) (w:World) (hs:s.size≤1000000000) (hv:validB s=true):
 Calls Tryz.prog 54 #[.string s] w fun e w'=>e= .returned (.tuple #[.string ⟨(quoteB s).toArray⟩, .int .i64 0])∧Below w.heap.size w w':=by
 have cV:=RValid_calls s w hs
 rw[hv]at cV
 have cR:=RRunes_calls s w hs
 have hlr:(runes s).length≤s.size:=runesFrom_len _ _ _
 have hsc: ∀x ∈ runes s,scalar x.2:=runesFrom_scalar _ _ _
 unfold quoteB
 generalize runes s=L at*
 have HV:=Lib.hid cV
 have HR:=Lib.hid cR
 have HS:=Lib.hid hsc
 clear cV cR hsc hv
 go_enter Tryz.func54,Tryz.ntmps54
 go_wp2_with (fail)
 with_reducible refine HV.out.mono ?_
 rintro e w' ⟨rfl,rfl⟩
 clear HV
 go_wp2_with (fail)
 with_reducible refine HR.out.mono ?_
 rintro e w1 ⟨⟨v1,v2,rfl,hown⟩,hb1⟩
 clear HR
 obtain⟨la,lc,rfl,hcells⟩: ∃la lc,v1= .slice la L.length lc∧Hid (∀(k:Nat) (x:Nat×Nat),L[k]? =some x→ ∃g off,la=some ⟨g,off,none⟩∧g<w1.heap.size∧w1.cell? ⟨g,off+k,none⟩=some (.int .i64 x.2)):=by
  rcases hown.2 with⟨hv,hz⟩|⟨g,cap,cur,rfl,hbg,hg,hnc,hcm,hcs,htake⟩
  · have hL:L= []:=List.length_eq_zero_iff.1 hz
    subst hL
    exact⟨none,0,hv,fun k x hx=>by simp at hx⟩
  · refine⟨some ⟨g,0,none⟩,cap,rfl,fun k x hx=>⟨g,0,rfl,(Array.getElem?_eq_some_iff.1 hg).1, ?_⟩⟩
    have:=hown.cells (g:=g) rfl k (.int .i64 x.2) (by simp[hx])
    rw[Go.WideShapes.add_plain,Nat.zero_add]at this
    rw[Nat.zero_add]
    exact this
 have hb1':=Lib.hid hb1
 have H0:Hid ((⟨#[34]⟩:ByteArray).data.toList=34::quoteRunes (L.take 0)):=by show _=_;simp[quoteRunes]
 clear hown hb1
 go_wp2_with (fail)
 go_loopw [4,8] (fun o i wr=> ∃(T:ByteArray) (k:Nat),o= .string T∧i= .int .i64 k∧k≤L.length∧Hid (T.data.toList=34::quoteRunes (L.take k))∧Hid (Below w1.heap.size w1 wr)) (fun _ i _=>L.length - (intOf i).toNat)
 case atStart=>exact⟨_,0,rfl,rfl,Nat.zero_le _,H0,Below.refl _ _⟩
 case round=>
  obtain⟨T,k,rfl,rfl,hk,hT,hbw⟩:=hrel
  clear H0
  obtain⟨wo,rfl⟩: ∃wo:World,wo=wr:=⟨_,rfl⟩
  have hTs:T.size≤6*L.length+1:=by
   have h1:=congrArg List.length hT.out
   have h2:=quoteRunes_len (L.take k)
   have h3:(L.take k).length≤L.length:=by rw[List.length_take];omega
   have h4:T.data.toList.length=T.size:=by rw[Array.length_toList];rfl
   simp only[List.length_cons]at h1
   omega
  by_cases hlt:k<L.length
  · obtain⟨⟨p,r⟩,hx⟩: ∃v,L[k]? =some v:=⟨_,List.getElem?_eq_getElem hlt⟩
    obtain⟨g,off,rfl,hg,hc0⟩:=hcells.out k _ hx
    have hc:wo.cell? ⟨g,off+k,none⟩=some (.int .i64 r):=(hbw.out.cell (p:=⟨g,off+k,none⟩) hg).trans hc0
    have hsc:=HS.out _ (List.mem_of_getElem? hx)
    unfold scalar at hsc
    simp only at hsc
    obtain⟨hsc1,hsc2⟩:=hsc
    have htk:L.take (k+1)=L.take k++ [(p,r)]:=by rw[List.take_add_one,hx];rfl
    have hsn:Hid (34::quoteRunes (L.take (k+1))=T.data.toList++quoteRune r):=by
     show _=_
     rw[htk,hT.out];simp[quoteRunes]
    have Hsc:=Lib.hid hsc2
    have hB0:Hid (Below w1.heap.size w1 wo):=hbw
    have hN0:Hid (NoLet r 0):=fun i hi=>by omega
    clear hT htk hx hc0 hsc2 hbw
    go_wp2_with (fail)
    go_loopw [10] (fun j wr=> ∃n:Nat,j= .int .i64 n∧n≤8∧Hid (NoLet r n)∧Hid (Below w1.heap.size w1 wr)) (fun j _=>8 - (intOf j).toNat)
    case atStart=>exact⟨0,rfl,by omega,hN0,hB0⟩
    case round=>
     obtain⟨n,rfl,hn,hno,hbw⟩:=hrel
     clear hN0 hB0
     rcases(by omega:n=2∨(n≠2∧n<8)∨n=8)with rfl|⟨hn2,hn8⟩|rfl
     · have hno':=Lib.hid (hno.out.step (.inl rfl))
       clear hno hsn hc
       go_wp2_with (fail)
       go_roundw
       case rel=>exact⟨2+1,rfl,by omega,hno',hbw⟩
       case measure=>simp[intOf]
     · obtain⟨c,hcc⟩: ∃c,codeTab[n]? =some c:=⟨_,List.getElem?_eq_getElem hn8⟩
       have hcd:codeTab.getD n 0=c:=by simp[List.getD,hcc]
       have cC:=Lib.hid (RCode_calls n c hcc wr)
       have hn2':((n:Int)==2)=false:=by simp;omega
       by_cases hcr:c=(r:Int)
       · have hq:quoteRune r= [92,letTab.getD n 0]:=by
          have:=quoteRune_let ⟨n,hn8⟩ hn2
          simp only[hcd,hcr,Int.toNat_natCast]at this
          exact this
         rw[hq]at hsn
         subst hcr
         have hlet:=fun w=>run_let n hn8 w
         generalize letTab.getD n 0=c8 at hsn hlet
         have hT':Hid ((T++⟨#[92]⟩++⟨#[c8]⟩).data.toList=34::quoteRunes (L.take (k+1))):=by
          show _=_
          rw[hsn.out,ByteArray.data_append,Array.toList_append,ByteArray.data_append,Array.toList_append]
          simp
         clear hno hsn hcc hcd hc hq
         go_wp2_with (fail)
         with_reducible refine cC.out.mono ?_
         rintro e w2 ⟨rfl,hb2⟩
         have hbw2:=Lib.hid (hbw.out.trans (hb2.mono hbw.out.size))
         clear hb2 hbw cC
         have hl2:=hlet w2
         clear hlet
         go_wp2
         go_roundw
         case rel=>exact⟨_,k+1,rfl,by go_num,by omega,hT',hbw2⟩
         case measure=>simp only[intOf];omega
       · have hno':=Lib.hid (hno.out.step (.inr (by rw[hcd];exact hcr)))
         have hcr1:(c==(r:Int))=false:=by simpa using hcr
         have hcr2:(c != (r:Int))=true:=by simpa using hcr
         clear hno hsn hcc hcd hc hcr
         go_wp2_with (fail)
         with_reducible refine cC.out.mono ?_
         rintro e w2 ⟨rfl,hb2⟩
         have hbw2:=Lib.hid (hbw.out.trans (hb2.mono hbw.out.size))
         clear hb2 hbw cC
         go_wp2
         go_roundw
         case rel=>exact⟨n+1,by go_num,by omega,hno',hbw2⟩
         case measure=>simp only[intOf];omega
     · have hq:=quoteRune_no hno.out
       rw[hq]at hsn
       clear hno hc hq
       by_cases h32:r<32
       · rw[if_pos h32]at hsn
         have hT':Hid ((T++⟨#[92,117,48,48]⟩++⟨#[hexd (r / 16)]⟩++⟨#[hexd (r % 16)]⟩).data.toList=34::quoteRunes (L.take (k+1))):=by
          show _=_
          rw[hsn.out,ByteArray.data_append,Array.toList_append,ByteArray.data_append,Array.toList_append,ByteArray.data_append,Array.toList_append]
          simp
         have hx1:=fun w=>run_hex (r / 16) (by omega) w
         have hx2:=fun w=>run_hex (r % 16) (by omega) w
         have hq16:(r:Int) / 16=((r / 16:Nat):Int):=by omega
         have hm16:(r:Int) % 16=((r % 16:Nat):Int):=by omega
         have hq16':(r:Int).tdiv 16=((r / 16:Nat):Int):=by rw[Int.tdiv_eq_ediv_of_nonneg (by omega)];omega
         have hm16':(r:Int).tmod 16=((r % 16:Nat):Int):=by rw[Int.tmod_eq_emod_of_nonneg (by omega)];omega
         have hql:r / 16<2:=by omega
         have hml:r % 16<16:=by omega
         generalize hexd (r / 16)=e1 at*
         generalize hexd (r % 16)=e2 at*
         generalize r / 16=q at*
         generalize r % 16=m at*
         have hw1:IntKind.i64.wrap ((q:Int)+1)=(q:Int)+1:=IntWalk.i64_in _ (by omega)
         have hw2:IntKind.i64.wrap ((m:Int)+1)=(m:Int)+1:=IntWalk.i64_in _ (by omega)
         clear hsn
         go_wp2_with (fail)
         go_quiet (fail)
         have hbw2:=Lib.hid (below_drewN hbw.out nq)
         clear hx1 hx2 hq16 hm16 hq16' hm16' hw1 hw2 hbw
         go_wp2
         go_roundw
         case rel=>exact⟨_,k+1,rfl,by go_num,by omega,hT',hbw2⟩
         case measure=>simp only[intOf];omega
       · rw[if_neg h32]at hsn
         have cB:=Lib.hid (RBytes_calls r (by omega) (by omega) (by have:=Hsc.out;omega) wr)
         have hel:(Lib.encodeRune (r:Int)).length≤4:=encodeRune_len4 r
         obtain⟨X,hX⟩: ∃X:ByteArray,(⟨(Lib.encodeRune (r:Int)).toArray⟩:ByteArray)=X:=⟨_,rfl⟩
         have hXs:X.size≤4:=by rw[←hX];exact hel
         have hT':Hid ((T++X).data.toList=34::quoteRunes (L.take (k+1))):=by
          show _=_
          rw[hsn.out,ByteArray.data_append,Array.toList_append,←hX]
         rw[hX]at cB
         clear hsn hel hX
         go_wp2_with (fail)
         with_reducible refine cB.out.mono ?_
         rintro e w2 ⟨rfl,hb2⟩
         have hbw2:=Lib.hid (hbw.out.trans (hb2.mono hbw.out.size))
         clear hb2 hbw cB
         go_wp2
         go_roundw
         case rel=>exact⟨_,k+1,rfl,by go_num,by omega,hT',hbw2⟩
         case measure=>simp only[intOf];omega
  · obtain rfl:k=L.length:=by omega
    have hT':=hT.out
    rw[List.take_length]at hT'
    have hE:(⟨(34::(quoteRunes L++ [34])).toArray⟩:ByteArray)=T++⟨#[34]⟩:=by
     apply ByteArray.ext
     rw[ByteArray.data_append]
     apply Array.ext'
     rw[Array.toList_append,hT']
     simp
    have HE:=Lib.hid hE
    clear hT hT' hE
    go_wp2
    go_ret2
    exact⟨by rw[HE.out];rfl,hb1'.out.trans (hbw.out.mono hb1'.out.size)⟩
end Go.Proofs.YtackmnbpfbaemaaGreatDoor

namespace Go.Proofs.YtackmnbpfbaemaaGreatDoor
open Go.RowKit
def emptyB:ByteArray:=⟨#[]⟩
def nullV:Val:= .mk 1 false 0 emptyB [] []
def boolV (b:Bool):Val:= .mk 2 b 0 emptyB [] []
def intV (n:Int):Val:= .mk 3 false n emptyB [] []
def txtV (l:List UInt8):Val:= .mk 4 false 0 ⟨l.toArray⟩ [] []
def lstV (l:List Val):Val:= .mk 5 false 0 emptyB l []
def objV (o:List (ByteArray×Val)):Val:= .mk 6 false 0 emptyB [] o
def Rd.map {α β:Type} (g:α→β):Rd α→Rd β
 | .ok a q=> .ok (g a) q
 | .bad e q=> .bad e q
def wordAt (s:List UInt8) (p:Nat) (w:List UInt8) (v:Val):Rd Val:=if w.isPrefixOf (s.drop p)=true then .ok v (p+w.length)else .bad 4 p
def sortO (l:List (ByteArray×Val)):List (ByteArray×Val):=(objAll l []).getD []
def hasK (k:ByteArray) (l:List (ByteArray×Val)):Bool:=l.any fun m=>decide (m.1=k)
def startsV (c:UInt8):Bool:=isDig c||c==45||c==34||c==91||c==123||c==110||c==116||c==102
mutual
def valueF:Nat→List UInt8→Nat→Int→Rd Val
 |0,s,p,_=> .bad 4 (past s p)
 |f+1,s,p,d=>match s[past s p]? with
  |none=> .bad 4 (past s p)
  |some c=>
   if startsV c=false then .bad 4 (past s p)
   else if 64<d then .bad 5 (past s p)
   else if c=91 then listF f s (past s p) d
   else if c=123 then objF f s (past s p) d
   else if c=34 then(unqAt s (past s p)).map txtV
   else if c=110 then wordAt s (past s p) [110,117,108,108] nullV
   else if c=116 then wordAt s (past s p) [116,114,117,101] (boolV true)
   else if c=102 then wordAt s (past s p) [102,97,108,115,101] (boolV false)
   else(numberAt s (past s p)).map intV
def listF:Nat→List UInt8→Nat→Int→Rd Val
 |0,s,p,_=> .bad 4 (past s (p+1))
 |f+1,s,p,d=>if s[past s (p+1)]? =some 93 then .ok (lstV []) (past s (p+1)+1)else itemsF f s (past s (p+1)) d []
def objF:Nat→List UInt8→Nat→Int→Rd Val
 |0,s,p,_=> .bad 4 (past s (p+1))
 |f+1,s,p,d=>if s[past s (p+1)]? =some 125 then .ok (objV []) (past s (p+1)+1)else membersF f s (past s (p+1)) d []
def itemsF:Nat→List UInt8→Nat→Int→List Val→Rd Val
 |0,s,p,_,_=> .bad 4 (past s p)
 |f+1,s,p,d,acc=>match valueF f s p (d+1)with
  | .bad e q=> .bad e q
  | .ok v q=>if s[past s q]? =some 44 then itemsF f s (past s q+1) d (acc++ [v])else if s[past s q]? =some 93 then .ok (lstV (acc++ [v])) (past s q+1)else .bad 4 (past s q)
def membersF:Nat→List UInt8→Nat→Int→List (ByteArray×Val)→Rd Val
 |0,s,p,_,_=> .bad 4 (past s p)
 |f+1,s,p,d,acc=>match unqAt s (past s p)with
  | .bad e q=> .bad e q
  | .ok k q=>if hasK ⟨k.toArray⟩ acc=true then .bad 8 (past s p)
    else if s[past s q]? =some 58 then memberF f s (past s q+1) d acc ⟨k.toArray⟩
    else .bad 4 (past s q)
def memberF:Nat→List UInt8→Nat→Int→List (ByteArray×Val)→ByteArray→Rd Val
 |0,s,p,_,_,_=> .bad 4 (past s p)
 |f+1,s,p,d,acc,k=>match valueF f s p (d+1)with
  | .bad e q=> .bad e q
  | .ok v q=>if s[past s q]? =some 44 then membersF f s (past s q+1) d (acc++ [(k,v)])else if s[past s q]? =some 125 then .ok (objV (sortO (acc++ [(k,v)]))) (past s q+1)else .bad 4 (past s q)
end
def parseL (s:List UInt8):Rd Val:=match valueF (4*s.length+4) s 0 1 with
 | .bad e q=> .bad e q
 | .ok v q=>if past s q<s.length then .bad 4 (past s q)else .ok v (past s q)
theorem Rd.within.from {α:Type} {p p' n:Nat} {r:Rd α} (h:r.within p' n) (hp:p≤p'):r.within p n:=by
 cases r with
 |ok a q=>exact⟨by have:=h.1;omega,h.2⟩
 |bad e q=>exact⟨by have:=h.1;omega,h.2⟩
theorem Rd.within.map {α β:Type} {g:α→β} {p n:Nat} {r:Rd α} (h:r.within p n):(r.map g).within p n:=by
 cases r<;>exact h
theorem wordAt_within {s:List UInt8} {p:Nat} (h:p<s.length) {w:List UInt8} (hw:w≠ []) (v:Val):(wordAt s p w v).within p s.length:=by
 unfold wordAt
 split
 · rename_i hp
   have hp':=(List.isPrefixOf_iff_prefix.1 hp).length_le
   rw[List.length_drop]at hp'
   have:0<w.length:=List.length_pos_iff.2 hw
   exact⟨by omega,by omega⟩
 · exact⟨Nat.le_refl _,by omega,by decide,by decide⟩
theorem bad_past {α:Type} {s:List UInt8} {p:Nat} (h:p≤s.length) (e:Int) (h1:1≤e) (h2:e≤18):(Rd.bad e (past s p):Rd α).within p s.length:=⟨past_ge s p,past_le h,h1,h2⟩
theorem within_all: ∀(f:Nat),(∀s p d,p≤s.length→(valueF f s p d).within p s.length)∧(∀s p d,p<s.length→(listF f s p d).within p s.length)∧(∀s p d,p<s.length→(objF f s p d).within p s.length)∧
 (∀s p d acc,p≤s.length→(itemsF f s p d acc).within p s.length)∧(∀s p d acc,p≤s.length→(membersF f s p d acc).within p s.length)∧(∀s p d acc k,p≤s.length→(memberF f s p d acc k).within p s.length):=by
 intro f
 induction f with
 |zero=>
  refine⟨fun s p d h=> ?_,fun s p d h=> ?_,fun s p d h=> ?_,fun s p d acc h=> ?_,fun s p d acc h=> ?_,fun s p d acc k h=> ?_⟩
  · unfold valueF;exact bad_past h _ (by decide) (by decide)
  · unfold listF;exact(bad_past (p:=p+1) h _ (by decide) (by decide)).from (by omega)
  · unfold objF;exact(bad_past (p:=p+1) h _ (by decide) (by decide)).from (by omega)
  · unfold itemsF;exact bad_past h _ (by decide) (by decide)
  · unfold membersF;exact bad_past h _ (by decide) (by decide)
  · unfold memberF;exact bad_past h _ (by decide) (by decide)
 |succ f ih=>
  obtain⟨iv,il,io,ii,im,ik⟩:=ih
  refine⟨fun s p d h=> ?_,fun s p d h=> ?_,fun s p d h=> ?_,fun s p d acc h=> ?_,fun s p d acc h=> ?_,fun s p d acc k h=> ?_⟩
  · unfold valueF
    have hp:=past_le h
    have hg:=past_ge s p
    cases hc:s[past s p]? with
    |none=>exact bad_past h _ (by decide) (by decide)
    |some c=>
     have hl:=get_lt hc
     simp only
     split
     · exact bad_past h _ (by decide) (by decide)
     split
     · exact bad_past h _ (by decide) (by decide)
     split
     · exact(il s _ d hl).from hg
     split
     · exact(io s _ d hl).from hg
     split
     · exact((unqAt_within hp).map).from hg
     split
     · exact(wordAt_within hl (by simp) _).from hg
     split
     · exact(wordAt_within hl (by simp) _).from hg
     split
     · exact(wordAt_within hl (by simp) _).from hg
     · exact((numberAt_within hl).map).from hg
  · unfold listF
    have hp:=past_le (s:=s) (p:=p+1) h
    have hg:=past_ge s (p+1)
    split
    · rename_i hc
      exact⟨by omega,by have:=get_lt hc;omega⟩
    · exact(ii s _ d [] hp).from (by omega)
  · unfold objF
    have hp:=past_le (s:=s) (p:=p+1) h
    have hg:=past_ge s (p+1)
    split
    · rename_i hc
      exact⟨by omega,by have:=get_lt hc;omega⟩
    · exact(im s _ d [] hp).from (by omega)
  · unfold itemsF
    have hv:=iv s p (d+1) h
    cases hr:valueF f s p (d+1)with
    |bad e q=>rw[hr]at hv;exact hv
    |ok v q=>
     rw[hr]at hv
     obtain⟨h1,h2⟩:=hv
     have hp:=past_le h2
     have hg:=past_ge s q
     simp only
     split
     · rename_i hc
       exact(ii s _ d _ (get_lt hc)).from (by omega)
     split
     · rename_i hc
       exact⟨by omega,get_lt hc⟩
     · exact(bad_past h2 _ (by decide) (by decide)).from (by omega)
  · unfold membersF
    have hp0:=past_le h
    have hg0:=past_ge s p
    have hv:=unqAt_within hp0
    cases hr:unqAt s (past s p)with
    |bad e q=>rw[hr]at hv;exact hv.from hg0
    |ok k q=>
     rw[hr]at hv
     obtain⟨h1,h2⟩:=hv
     have hp:=past_le h2
     have hg:=past_ge s q
     simp only
     split
     · exact bad_past h _ (by decide) (by decide)
     split
     · rename_i hc
       exact(ik s _ d _ _ (get_lt hc)).from (by omega)
     · exact(bad_past h2 _ (by decide) (by decide)).from (by omega)
  · unfold memberF
    have hv:=iv s p (d+1) h
    cases hr:valueF f s p (d+1)with
    |bad e q=>rw[hr]at hv;exact hv
    |ok v q=>
     rw[hr]at hv
     obtain⟨h1,h2⟩:=hv
     have hp:=past_le h2
     have hg:=past_ge s q
     simp only
     split
     · rename_i hc
       exact(im s _ d _ (get_lt hc)).from (by omega)
     split
     · rename_i hc
       exact⟨by omega,get_lt hc⟩
     · exact(bad_past h2 _ (by decide) (by decide)).from (by omega)
end Go.Proofs.YtackmnbpfbaemaaGreatDoor

namespace Go.Proofs.YtackmnbpfbaemaaGreatDoor
open Go Go.RowKit
abbrev Tkinds:TypeId:=199
theorem mkey_kinds:MKey Tryz.prog 5 (Value.int .u8):=mkey_int Tryz.underlying5
section
variable {α:Type} [DecidableEq α] {f:α→Value} {P:Program} {kt et t:TypeId} {w w':World} {g:Nat} {kv:List (α×Value)}
theorem findM_not {a k:α} {v:Value} {r:List (α×Value)} (h:a≠k) (hr:findM a r=none):findM a ((k,v)::r)=none:=by
 simp only[findM,if_neg h];exact hr
end
structure NR (s:ByteArray) (w wr:World) (m:Option Nat) (kv:List (Int×Value)):Prop where
 below:Below w.heap.size w wr
 map:MapAt (Value.int .u8) wr (w.heap.size+1) kv
 blk:Blk wr w.heap.size 201 #[.string s, .int .i64 0, .map m]
theorem NR.ins {s:ByteArray} {w wr w':World} {m:Option Nat} {kv kv':List (Int×Value)} (h:NR s w wr m kv) (hM:MapAt (Value.int .u8) w' (w.heap.size+1) kv') (hg:wr.grownBy w' (some (w.heap.size+1))):NR s w w' m kv':=
 ⟨h.below.grown hg h.below.size fun k e=>by have:=Option.some.inj e;omega,hM,h.blk.grown hg (by intro e;have:=Option.some.inj e;omega)⟩
theorem NR.set {s:ByteArray} {w wr:World} {m:Option Nat} {kv:List (Int×Value)} (h:NR s w wr m kv):NR s w (wr.setCell ⟨w.heap.size,2,none⟩ (.map (some (w.heap.size+1)))) (some (w.heap.size+1)) kv:=
 ⟨h.below.setCell (Nat.le_refl _) _,h.map.setCell (by show w.heap.size+1≠w.heap.size;omega) _,by have:=h.blk.set_ 2 (.map (some (w.heap.size+1)));exact this⟩
theorem KV_next (R:Nat): ∀j:Nat,j<10→findM (48+(j:Int)) ((KV R).take (7+j))=none∧(KV R).take (7+j)++ [(48+(j:Int),Value.func (.func 172) #[.pointer (some ⟨R,0,none⟩)] #[])]=(KV R).take (7+(j+1)):=by
 intro j hj
 match j,hj with
 |0,_|1,_|2,_|3,_|4,_|5,_|6,_|7,_|8,_|9,_=>exact⟨by simp[KV,findM],rfl⟩
set_option maxRecDepth 100000 in
set_option maxHeartbeats 8000000 in
theorem newReader_calls (s:ByteArray) (w:World):Calls Tryz.prog 122 #[.string s] w fun e w'=>e= .returned (.pointer (some ⟨w.heap.size,0,none⟩))∧NR s w w' (some (w.heap.size+1)) (KV w.heap.size):=by
 have hmm:=fun W=>run_makeMap (P:=Tryz.prog) Tkinds W
 have hS0:NR s w ((w.alloc (.cells #[.string s, .int .i64 0, .map none] 201)).alloc (.map #[] 0)) none []:=by
  have:=MapAt.new (f:=Value.int .u8) (w.alloc (.cells #[.string s, .int .i64 0, .map none] 201))
  rw[World.size_alloc]at this
  exact⟨((Below.refl _ _).alloc (Nat.le_refl _) _).alloc (by simp) _,this,(Blk.new _ _ _).alloc _⟩
 have HS0:=Lib.hid hS0
 clear hS0
 go_enter Tryz.func122,Tryz.ntmps122
 go_upto_region 2 with(fail)
 go_upto_region 3 with(first
  |(((with_reducible refine wpList_insertM rfl (.tmp 9) _ _ Tkinds rfl mkey_kinds Tryz.underlying199 rfl HS0.out.map (k:=110) rfl rfl rfl ?_));intro w1 hM hg hs;have HS1:=Lib.hid (HS0.out.ins hM hg);(have r2:=HS1.out.blk.cell 2);(have f2:=HS1.out.blk.frozen 2);(have hlt:=HS1.out.blk.lt);clear hM hg hs HS0)
  |(((with_reducible refine wpList_insertM rfl (.tmp 9) _ _ Tkinds rfl mkey_kinds Tryz.underlying199 rfl HS1.out.map (k:=102) rfl rfl (findM_not (by decide) rfl) ?_));intro w2 hM hg hs;have HS2:=Lib.hid (HS1.out.ins hM hg);(have r2:=HS2.out.blk.cell 2);(have f2:=HS2.out.blk.frozen 2);(have hlt:=HS2.out.blk.lt);clear hM hg hs HS1)
  |(((with_reducible refine wpList_insertM rfl (.tmp 9) _ _ Tkinds rfl mkey_kinds Tryz.underlying199 rfl HS2.out.map (k:=116) rfl rfl (findM_not (by decide) (findM_not (by decide) rfl)) ?_));intro w3 hM hg hs;have HS3:=Lib.hid (HS2.out.ins hM hg);(have r2:=HS3.out.blk.cell 2);(have f2:=HS3.out.blk.frozen 2);(have hlt:=HS3.out.blk.lt);clear hM hg hs HS2)
  |(((with_reducible refine wpList_insertM rfl (.tmp 9) _ _ Tkinds rfl mkey_kinds Tryz.underlying199 rfl HS3.out.map (k:=34) rfl rfl (findM_not (by decide) (findM_not (by decide) (findM_not (by decide) rfl))) ?_));intro w4 hM hg hs;have HS4:=Lib.hid (HS3.out.ins hM hg);(have r2:=HS4.out.blk.cell 2);(have f2:=HS4.out.blk.frozen 2);(have hlt:=HS4.out.blk.lt);clear hM hg hs HS3)
  |(((with_reducible refine wpList_insertM rfl (.tmp 9) _ _ Tkinds rfl mkey_kinds Tryz.underlying199 rfl HS4.out.map (k:=91) rfl rfl (findM_not (by decide) (findM_not (by decide) (findM_not (by decide) (findM_not (by decide) rfl)))) ?_));intro w5 hM hg hs;have HS5:=Lib.hid (HS4.out.ins hM hg);(have r2:=HS5.out.blk.cell 2);(have f2:=HS5.out.blk.frozen 2);(have hlt:=HS5.out.blk.lt);clear hM hg hs HS4)
  |(((with_reducible refine wpList_insertM rfl (.tmp 9) _ _ Tkinds rfl mkey_kinds Tryz.underlying199 rfl HS5.out.map (k:=123) rfl rfl (findM_not (by decide) (findM_not (by decide) (findM_not (by decide) (findM_not (by decide) (findM_not (by decide) rfl))))) ?_));intro w6 hM hg hs;have HS6:=Lib.hid (HS5.out.ins hM hg);(have r2:=HS6.out.blk.cell 2);(have f2:=HS6.out.blk.frozen 2);(have hlt:=HS6.out.blk.lt);clear hM hg hs HS5)
  |(((with_reducible refine wpList_insertM rfl (.tmp 9) _ _ Tkinds rfl mkey_kinds Tryz.underlying199 rfl HS6.out.map (k:=45) rfl rfl (findM_not (by decide) (findM_not (by decide) (findM_not (by decide) (findM_not (by decide) (findM_not (by decide) (findM_not (by decide) rfl)))))) ?_));intro w7 hM hg hs;have HS7:=Lib.hid (HS6.out.ins hM hg);(have r2:=HS7.out.blk.cell 2);(have f2:=HS7.out.blk.frozen 2);(have hlt:=HS7.out.blk.lt);clear hM hg hs HS6))
 have h0:NR s w (w7.setCell ⟨w.heap.size,2,none⟩ (.map (some (w.heap.size+1)))) (some (w.heap.size+1)) ((KV w.heap.size).take (7+0)):=HS7.out.set
 generalize w7.setCell ⟨w.heap.size,2,none⟩ (.map (some (w.heap.size+1)))=w8 at h0 ⊢
 clear r2 f2 hlt HS7
 have H0:=Lib.hid h0
 clear h0
 go_wp2
 go_loopw [4] (fun i wr=> ∃j:Nat,i= .int .u8 (48+(j:Int))∧j≤10∧Hid (NR s w wr (some (w.heap.size+1)) ((KV w.heap.size).take (7+j)))) (fun i _=>58 - (intOf i).toNat)
 case atStart=>exact⟨0,rfl,by omega,H0⟩
 case round=>
  obtain⟨j,rfl,hj,hh⟩:=hrel
  clear H0
  have c2:=hh.out.blk.cell 2
  have hlt:=hh.out.blk.lt
  by_cases hlt':j<10
  · obtain⟨hn,hk⟩:=KV_next w.heap.size j hlt'
    have l1:decide ((48:Int)+(j:Int)≤57)=true:=decide_eq_true (by omega)
    obtain⟨w9,hrun,hM,hg,_⟩:=run_insertM mkey_kinds Tryz.underlying199 hh.out.map hn (Value.func (.func 172) #[.pointer (some ⟨w.heap.size,0,none⟩)] #[])
    rw[hk]at hM
    have HN:=Lib.hid (hh.out.ins hM hg)
    clear hM hg hh hn hk
    go_wp2
    go_roundw
    case rel=>exact⟨j+1,by go_num,by omega,HN⟩
    case measure=>simp[intOf];omega
  · obtain rfl:j=10:=by omega
    go_wp2
    go_ret
    exact⟨rfl,hh.out⟩
end Go.Proofs.YtackmnbpfbaemaaGreatDoor
