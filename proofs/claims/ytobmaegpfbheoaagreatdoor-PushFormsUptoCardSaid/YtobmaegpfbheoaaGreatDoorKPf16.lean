/- Parts: Why a value may not be: the reference's function, of every value. Condition: a bulk of at most 10^9. -/
import Derived.Test.YtobmaegpfbheoaaGreatDoorKPf11
import Derived.Test.YtobmaegpfbheoaaGreatDoorKPf14
set_option maxHeartbeats 20000000
set_option maxRecDepth 100000
namespace Go.Proofs.YtobmaegpfbheoaaGreatDoor
open Go.RowKit
def Nz:List UInt8:= [34,92,47,98,102,110,114,116]
theorem Pe: ∀j:Fin 8,j.val≠2->Bq ((Gy.getD j.val 0).toNat)= [92,Nz.getD j.val 0]:=by decide
def L0 (r:Nat) (j:Nat):Prop:= ∀i:Nat,i<j->i≠2->Gy.getD i 0≠(r:Int)
theorem L0.all {r:Nat} (h:L0 r 8):r≠34/\r≠92/\r≠8/\r≠12/\r≠10/\r≠13/\r≠9:=by
 have h0:=h 0 (by omega) (by omega);have h1:=h 1 (by omega) (by omega);have h3:=h 3 (by omega) (by omega);have h4:=h 4 (by omega) (by omega);have h5:=h 5 (by omega) (by omega);have h6:=h 6 (by omega) (by omega);have h7:=h 7 (by omega) (by omega);simp[Gy]at h0 h1 h3 h4 h5 h6 h7;omega
theorem Ra {r:Nat} (h:L0 r 8):Bq r=if r<32 then [92,117,48,48,G1 (r / 16),G1 (r % 16)]else Lib.encodeRune r:=by
 obtain⟨a1,a2,a3,a4,a5,a6,a7⟩:=h.all;unfold Bq;by_cases h32:r<32
 . rw[if_neg (by omega),if_pos h32];have:C2 (r:Int) Be=none:=by
    simp only[Be,C2]
    repeat rw[if_neg (by omega)]
   rw[this]
 . rw[if_pos (by omega),if_neg h32]
theorem L0.step {r j:Nat} (h:L0 r j) (hj:j=2\/Gy.getD j 0≠(r:Int)):L0 r (j+1):=by
 intro i hi h2;by_cases he:i=j
 . subst he;rcases hj with hj|hj
   . exact absurd hj h2
   . exact hj
 . exact h i (by omega) h2
def Rj (r:Nat):Prop:=r<=1114111/\ ¬(55296<=r/\r<57344)
theorem R1 (F:Option Int) (n:Nat) (least:Int):(Ce F n least).2=0\/((Ce F n least).1<=1114111/\ ¬(55296<=(Ce F n least).1/\(Ce F n least).1<57344)):=by
 unfold Ce
 split
 . simp
 . split
   . simp
   . rename_i h
     right
     simp only;omega
theorem Gu (rest:List UInt8) (n:Nat) (r0 least:Int):(Bn rest n r0 least).2=0\/((Bn rest n r0 least).1<=1114111/\ ¬(55296<=(Bn rest n r0 least).1/\(Bn rest n r0 least).1<57344)):=by
 unfold Bn
 split
 . exact .inl rfl
 . exact R1 _ _ _
theorem Qq (l:List UInt8):(Ea l).2=0\/((Ea l).1<=1114111/\ ¬(55296<=(Ea l).1/\(Ea l).1<57344)):=by
 cases l with
 |nil=>exact .inl rfl
 |cons c rest=>
  rw[Ei];by_cases h1:(c.toNat:Int)<128
  . rw[if_pos h1]
    right
    simp only;omega
  rw[if_neg h1]
  split
  . exact Gu _ _ _ _
  split
  . exact Gu _ _ _ _
  split
  . exact Gu _ _ _ _
  . exact .inl rfl
theorem Gq: ∀(n:Nat) (l:List UInt8) (p:Nat),∀x ∈ A7 n l p,Rj x.2
 |0,_,_,x,hx=>by simp[A7]at hx
 |n+1,l,p,x,hx=>by
  by_cases h:l= []
  . subst h;simp[A7]at hx
  . rcases Ii h n p with⟨_,e⟩|⟨m,r,hn,h1,_,e⟩
    . rw[e]at hx
      cases hx
    . rw[e]at hx;rcases List.mem_cons.1 hx with rfl|hx
      . have:=Qq l;rw[hn]at this;unfold Rj;simp only at this ⊢;omega
      . exact Gq n _ _ x hx
theorem Xb (d:Nat) (hd:d<16) (w:World):(Instr.slice 9 (.string ⟨#[48,49,50,51,52,53,54,55,56,57,97,98,99,100,101,102]⟩) (some (.int .i64 d)) (some (.int .i64 ((d:Int)+1))) none).run Tryz.prog w=.ok (.string ⟨#[G1 d]⟩) w:=by
 have:=Rg ⟨#[48,49,50,51,52,53,54,55,56,57,97,98,99,100,101,102]⟩ d (d+1) (by omega) (by show d+1<=16;omega) w;have e: ∀d:Fin 16,(⟨#[48,49,50,51,52,53,54,55,56,57,97,98,99,100,101,102]⟩:ByteArray).extract d.val (d.val+1)=⟨#[G1 d.val]⟩:=by decide
 rw[e ⟨d,hd⟩]at this;exact this
theorem Aaz (d:Nat) (hd:d<8) (w:World):(Instr.slice 9 (.string ⟨#[34,92,47,98,102,110,114,116]⟩) (some (.int .i64 d)) (some (.int .i64 ((d:Int)+1))) none).run Tryz.prog w=.ok (.string ⟨#[Nz.getD d 0]⟩) w:=by
 have:=Rg ⟨#[34,92,47,98,102,110,114,116]⟩ d (d+1) (by omega) (by show d+1<=8;omega) w;have e: ∀d:Fin 8,(⟨#[34,92,47,98,102,110,114,116]⟩:ByteArray).extract d.val (d.val+1)=⟨#[Nz.getD d.val 0]⟩:=by decide
 rw[e ⟨d,hd⟩]at this;exact this
theorem Ms (r:Int):(Lib.encodeRune r).length<=4:=by
 unfold Lib.encodeRune Lib.encodeRuneZ
 repeat' split
 all_goals simp
theorem J3 (s:ByteArray) (w:World) (hs:s.size<=1000000000) (hv:Al s=true):
 Calls Tryz.prog 61 #[.string s] w fun e w'=>e=.returned (.tuple #[.string ⟨(Cp s).toArray⟩,.int .i64 0])/\Below w.heap.size w w':=by
 have cV:=J4 s w hs;rw[hv]at cV;have HR:=qz (Qn s w hs);have hlr:(D7 s).length<=s.size:=D8 _ _ _;have HS:Hid (∀x ∈ D7 s,Rj x.2):=Gq _ _ _;unfold Cp;generalize D7 s=L at*
 have HV:=qz cV;clear cV hv;go_enter Tryz.func61,Tryz.ntmps61;go_wp2_with (fail);(with_reducible refine HV.out.mono ?_);rintro e w' ⟨rfl,rfl⟩;clear HV;go_wp2_with (fail);(with_reducible refine HR.out.mono ?_);rintro e w1 ⟨⟨v1,v2,rfl,hown⟩,hb1⟩;clear HR;obtain⟨la,lc,rfl,hcells⟩: ∃la lc,v1=.slice la L.length lc/\Hid (∀(k:Nat) (x:Nat×Nat),L[k]? =some x-> ∃g off,la=some ⟨g,off,none⟩/\g<w1.heap.size/\w1.cell? ⟨g,off+k,none⟩=some (.int .i64 x.2)):=by
  rcases hown.2 with⟨hv,hz⟩|⟨g,cap,cur,rfl,hbg,hg,hnc,hcm,hcs,htake⟩
  . have hL:L= []:=List.length_eq_zero_iff.1 hz;subst hL;exact⟨none,0,hv,fun k x hx=>by simp at hx⟩
  . refine⟨some ⟨g,0,none⟩,cap,rfl,fun k x hx=>⟨g,0,rfl,(Array.getElem?_eq_some_iff.1 hg).1, ?_⟩⟩;have:=hown.cells (g:=g) rfl k (.int .i64 x.2) (by simp[hx]);rw[Go.WideShapes.add_plain,Nat.zero_add]at this;rw[Nat.zero_add];exact this
 have hb1':=qz hb1;have H0:Hid ((⟨#[34]⟩:ByteArray).data.toList=34::Ar (L.take 0)):=by show _=_;simp[Ar]
 clear hown hb1;go_wp2_with (fail);go_loopw [4,8] (fun o i wr=> ∃(T:ByteArray) (k:Nat),o=.string T/\i=.int .i64 k/\k<=L.length/\Hid (T.data.toList=34::Ar (L.take k))/\Hid (Below w1.heap.size w1 wr)) (fun _ i _=>L.length - (intOf i).toNat)
 case atStart=>exact⟨_,0,rfl,rfl,Nat.zero_le _,H0,Below.refl _ _⟩
 case round=>
  obtain⟨T,k,rfl,rfl,hk,hT,hbw⟩:=hrel;clear H0;obtain⟨wo,rfl⟩: ∃wo:World,wo=wr:=⟨_,rfl⟩;have hTs:T.size<=6*L.length+1:=by
   have h1:=congrArg List.length hT.out;have h2:=Et (L.take k);have h3:(L.take k).length<=L.length:=by rw[List.length_take];omega
   have h4:T.data.toList.length=T.size:=by rw[Array.length_toList];rfl
   simp only[List.length_cons]at h1;omega
  by_cases hlt:k<L.length
  . obtain⟨⟨p,r⟩,hx⟩: ∃v,L[k]? =some v:=⟨_,List.getElem?_eq_getElem hlt⟩;obtain⟨g,off,rfl,hg,hc0⟩:=hcells.out k _ hx;have hc:wo.cell? ⟨g,off+k,none⟩=some (.int .i64 r):=(hbw.out.cell (p:=⟨g,off+k,none⟩) hg).trans hc0;have hsc:=HS.out _ (List.mem_of_getElem? hx);unfold Rj at hsc;simp only at hsc;obtain⟨hsc1,hsc2⟩:=hsc;have htk:L.take (k+1)=L.take k++ [(p,r)]:=by rw[List.take_add_one,hx];rfl
    have hsn:Hid (34::Ar (L.take (k+1))=T.data.toList++Bq r):=by
     show _=_;rw[htk,hT.out];simp[Ar]
    have Hsc:=qz hsc2;have hB0:Hid (Below w1.heap.size w1 wo):=hbw;have hN0:Hid (L0 r 0):=fun i hi=>by omega
    clear hT htk hx hc0 hsc2 hbw;go_wp2_with (fail);go_loopw [10] (fun j wr=> ∃n:Nat,j=.int .i64 n/\n<=8/\Hid (L0 r n)/\Hid (Below w1.heap.size w1 wr)) (fun j _=>8 - (intOf j).toNat)
    case atStart=>exact⟨0,rfl,by omega,hN0,hB0⟩
    case round=>
     obtain⟨n,rfl,hn,hno,hbw⟩:=hrel;clear hN0 hB0;rcases(by omega:n=2\/(n≠2/\n<8)\/n=8)with rfl|⟨hn2,hn8⟩|rfl
     . have hno':=qz (hno.out.step (.inl rfl));clear hno hsn hc;go_wp2_with (fail);go_roundw
       case rel=>exact⟨2+1,rfl,by omega,hno',hbw⟩
       case measure=>simp[intOf]
     . obtain⟨c,hcc⟩: ∃c,Gy[n]? =some c:=⟨_,List.getElem?_eq_getElem hn8⟩;have hcd:Gy.getD n 0=c:=by simp[List.getD,hcc]
       have cC:=qz (Ry n c hcc wr);have hn2':((n:Int)==2)=false:=by simp;omega
       by_cases hcr:c=(r:Int)
       . have hq:Bq r= [92,Nz.getD n 0]:=by
          have:=Pe ⟨n,hn8⟩ hn2;simp only[hcd,hcr,Int.toNat_natCast]at this;exact this
         rw[hq]at hsn;subst hcr;have hlet:=fun w=>Aaz n hn8 w;generalize Nz.getD n 0=c8 at hsn hlet;have hT':Hid ((T++⟨#[92]⟩++⟨#[c8]⟩).data.toList=34::Ar (L.take (k+1))):=by
          show _=_;rw[hsn.out,ByteArray.data_append,Array.toList_append,ByteArray.data_append,Array.toList_append];simp
         clear hno hsn hcc hcd hc hq;go_wp2_with (fail);(with_reducible refine cC.out.mono ?_);rintro e w2 ⟨rfl,hb2⟩;have hbw2:=qz (hbw.out.trans (hb2.mono hbw.out.size));clear hb2 hbw cC;have hl2:=hlet w2;clear hlet;go_wp2;go_roundw
         case rel=>exact⟨_,k+1,rfl,by go_num,by omega,hT',hbw2⟩
         case measure=>simp only[intOf];omega
       . have hno':=qz (hno.out.step (.inr (by rw[hcd];exact hcr)));have hcr1:(c==(r:Int))=false:=by simpa using hcr
         have hcr2:(c != (r:Int))=true:=by simpa using hcr
         clear hno hsn hcc hcd hc hcr;go_wp2_with (fail);(with_reducible refine cC.out.mono ?_);rintro e w2 ⟨rfl,hb2⟩;have hbw2:=qz (hbw.out.trans (hb2.mono hbw.out.size));clear hb2 hbw cC;go_wp2;go_roundw
         case rel=>exact⟨n+1,by go_num,by omega,hno',hbw2⟩
         case measure=>simp only[intOf];omega
     . have hq:=Ra hno.out;rw[hq]at hsn;clear hno hc hq;by_cases h32:r<32
       . rw[if_pos h32]at hsn;have hT':Hid ((T++⟨#[92,117,48,48]⟩++⟨#[G1 (r / 16)]⟩++⟨#[G1 (r % 16)]⟩).data.toList=34::Ar (L.take (k+1))):=by
          show _=_;rw[hsn.out,ByteArray.data_append,Array.toList_append,ByteArray.data_append,Array.toList_append,ByteArray.data_append,Array.toList_append];simp
         have hx1:=fun w=>Xb (r / 16) (by omega) w;have hx2:=fun w=>Xb (r % 16) (by omega) w;have hq16:(r:Int) / 16=((r / 16:Nat):Int):=by omega
         have hm16:(r:Int) % 16=((r % 16:Nat):Int):=by omega
         have hq16':(r:Int).tdiv 16=((r / 16:Nat):Int):=by rw[Int.tdiv_eq_ediv_of_nonneg (by omega)];omega
         have hm16':(r:Int).tmod 16=((r % 16:Nat):Int):=by rw[Int.tmod_eq_emod_of_nonneg (by omega)];omega
         have hql:r / 16<2:=by omega
         have hml:r % 16<16:=by omega
         generalize G1 (r / 16)=e1 at*
         generalize G1 (r % 16)=e2 at*
         generalize r / 16=q at*
         generalize r % 16=m at*
         have hw1:IntKind.i64.wrap ((q:Int)+1)=(q:Int)+1:=IntWalk.i64_in _ (by omega);have hw2:IntKind.i64.wrap ((m:Int)+1)=(m:Int)+1:=IntWalk.i64_in _ (by omega);clear hsn;go_wp2_with (fail);go_quiet (fail);have hbw2:=qz (Bu hbw.out nq);clear hx1 hx2 hq16 hm16 hq16' hm16' hw1 hw2 hbw;go_wp2;go_roundw
         case rel=>exact⟨_,k+1,rfl,by go_num,by omega,hT',hbw2⟩
         case measure=>simp only[intOf];omega
       . rw[if_neg h32]at hsn;have cB:=qz (Qm r (by omega) (by omega) (by have:=Hsc.out;omega) wr);have hel:(Lib.encodeRune (r:Int)).length<=4:=Ms r;obtain⟨X,hX⟩: ∃X:ByteArray,(⟨(Lib.encodeRune (r:Int)).toArray⟩:ByteArray)=X:=⟨_,rfl⟩;have hXs:X.size<=4:=by rw[<-hX];exact hel
         have hT':Hid ((T++X).data.toList=34::Ar (L.take (k+1))):=by
          show _=_;rw[hsn.out,ByteArray.data_append,Array.toList_append,<-hX]
         rw[hX]at cB;clear hsn hel hX;go_wp2_with (fail);(with_reducible refine cB.out.mono ?_);rintro e w2 ⟨rfl,hb2⟩;have hbw2:=qz (hbw.out.trans (hb2.mono hbw.out.size));clear hb2 hbw cB;go_wp2;go_roundw
         case rel=>exact⟨_,k+1,rfl,by go_num,by omega,hT',hbw2⟩
         case measure=>simp only[intOf];omega
  . obtain rfl:k=L.length:=by omega
    have hT':=hT.out;rw[List.take_length]at hT';have hE:(⟨(34::(Ar L++ [34])).toArray⟩:ByteArray)=T++⟨#[34]⟩:=by
     apply ByteArray.ext;rw[ByteArray.data_append];apply Array.ext';rw[Array.toList_append,hT'];simp
    have HE:=qz hE;clear hT hT' hE;go_wp2;go_ret2;exact⟨by rw[HE.out];rfl,hb1'.out.trans (hbw.out.mono hb1'.out.size)⟩
def Up (v:Val):Prop:= ∀(cs:List Value) (w:World) (d:Int),Ab w w.heap.size v cs->v.bulk<=100000000->A9 v d=0->Jg v->
    Calls Tryz.prog 31 #[.agg cs.toArray] w fun e w'=>e=.returned (.string ⟨(Bd v).toArray⟩)/\Below w.heap.size w w'
theorem Sd {T:ByteArray} {l:List UInt8} (h:T.data.toList=l):(⟨l.toArray⟩:ByteArray)=T:=by
 subst h;rfl
theorem Di (a b:ByteArray):(a++b).data.toList=a.data.toList++b.data.toList:=by
 rw[ByteArray.data_append,Array.toList_append]
theorem We (b:Bool) (n:Int) (t:ByteArray) (l:List Val) (IH: ∀v ∈ l,Up v) (la oa:Option Addr) (oc lc:Nat) (w:World) (d:Int) (hl:l= []\/ ∃g off,la=some ⟨g,off,none⟩/\g<w.heap.size/\Aq w w.heap.size l g off)
 (hb:A0 l<=100000000) (hm:Cy l d=0) (hi:Oz l) (hlen:(Cb l true).length<=700000000):
 Calls Tryz.prog 31 #[.agg #[.int .i64 5,.bool b,.int .i64 n,.string t,.slice la l.length lc,.slice oa 0 oc]] w fun e w'=>e=.returned (.string ⟨(91::(Cb l true++ [93])).toArray⟩)/\Below w.heap.size w w':=by
 have hln:=Dy l;have H0:Hid ((⟨#[91]⟩:ByteArray).data.toList=91::Cb (l.take 0) true):=by show _=_;simp[Cb]
 have HI:=qz IH;have HM:=qz (S5 hm);have Hi:=qz (fun x hx=>Aao hi (x:=x) hx);clear IH hm hi;go_enter Tryz.func31,Tryz.ntmps31;go_wp2_with (fail);have HB1:Hid (Below w.heap.size w (w.alloc (.cells #[.int .i64 5,.bool b,.int .i64 n,.string t,.slice la l.length lc,.slice oa 0 oc] 42))):=(Below.refl _ _).alloc (Nat.le_refl _) _;have HX1:Hid ((w.alloc (.cells #[.int .i64 5,.bool b,.int .i64 n,.string t,.slice la l.length lc,.slice oa 0 oc] 42)).heap[w.heap.size]? =some (.cells #[.int .i64 5,.bool b,.int .i64 n,.string t,.slice la l.length lc,.slice oa 0 oc] 42 (0,0))):=heap_alloc_new _ _;go_loopw [5,6] (fun o i wr=> ∃(T:ByteArray) (k:Nat),o=.string T/\i=.int .i64 k/\k<=l.length/\Hid (T.data.toList=91::Cb (l.take k) true)/\Hid (Below w.heap.size w wr)/\Hid (wr.heap[w.heap.size]? =some (.cells #[.int .i64 5,.bool b,.int .i64 n,.string t,.slice la l.length lc,.slice oa 0 oc] 42 (0,0)))) (fun _ i _=>l.length - (intOf i).toNat)
 case atStart=>exact⟨_,0,rfl,rfl,Nat.zero_le _,H0,HB1,HX1⟩
 case round=>
  obtain⟨T,k,rfl,rfl,hk,hT,hbw,hbx⟩:=hrel;clear H0 HB1 HX1;have hTs:T.size<=700000001:=by
   have h1:=congrArg List.length hT.out;have h2:=Ik l k true;have h3:=Qe T;simp only[List.length_cons]at h1;omega
  have b4:wr.cell? ⟨w.heap.size,4,none⟩=some (.slice la l.length lc):=by rw[Lib.cell_of_heap hbx.out];rfl
  have hz:w.heap.size<wr.heap.size:=(Array.getElem?_eq_some_iff.1 hbx.out).1;by_cases hlt:k<l.length
  . obtain⟨g,off,rfl,hg,hL⟩: ∃g off,la=some ⟨g,off,none⟩/\g<w.heap.size/\Aq w w.heap.size l g off:=by
     rcases hl with rfl|h
     . simp at hlt
     . exact h
    obtain⟨x,hx⟩: ∃v,l[k]? =some v:=⟨_,List.getElem?_eq_getElem hlt⟩;have hmem:x ∈ l:=List.mem_of_getElem? hx;have hmx:=HM.out x hmem;have hix:=Hi.out x hmem;have hbv:=Ej hmem;have htk:l.take (k+1)=l.take k++ [x]:=by rw[List.take_add_one,hx];rfl
    have hsn:=Jz x (l.take k) true;rw[<-htk]at hsn;have hXl:(Bd x).length<=700000000:=by
     have h1:=congrArg List.length hsn;have h2:=Ik l (k+1) true;simp only[List.length_append]at h1;omega
    have IHx:=HI.out x hmem;obtain⟨X,hX⟩: ∃X:ByteArray,(⟨(Bd x).toArray⟩:ByteArray)=X:=⟨_,rfl⟩;have hXs:X.size<=700000000:=by rw[<-hX,M7];exact hXl
    have hXd:X.data.toList=Bd x:=by rw[<-hX]
    obtain⟨k',b',n',t',l',o'⟩:=x;obtain⟨la',lc',oa',oc',hvs,c0,c1,c2,c3,c4,c5⟩:=(hL.below hg hbw.out).six hx;have CT:=IHx _ wr d (Ab.more (by omega) _ _ hvs) (by omega) hmx hix;rw[hX]at CT;have hTd:Hid (T.data.toList++((if true&&(l.take k).isEmpty then []else [44])++X.data.toList)=91::Cb (l.take (k+1)) true):=by
     show _=_;rw[hsn,hT.out,hXd];rfl
    have hCT:=qz CT;clear CT hX hXd hXl hsn htk hmx hix hbv hmem hx hL hg IHx hvs;have hne:k≠0->(l.take k).isEmpty=false:=by
     intro h;rw[List.isEmpty_eq_false_iff];intro e;have:=congrArg List.length e;rw[List.length_take,List.length_nil]at this;omega
    by_cases hk0:k=0
    . subst hk0;simp only[Nat.zero_mul,Nat.add_zero]at c0 c1 c2 c3 c4 c5;have hTd':Hid ((T++X).data.toList=91::Cb (l.take (0+1)) true):=by
       have:=hTd.out;show _=_;rw[Di,<-this];simp
      clear hTd hT hne;go_wp2_with (fail);(with_reducible refine hCT.out.mono ?_);rintro e w4 ⟨rfl,hb4⟩;have hbw4:=qz (hbw.out.trans (hb4.mono (by omega)));have hbx4:=qz ((hb4.block _ hz).trans hbx.out);clear hb4 hbw hbx;go_wp2;go_roundw
      case rel=>exact⟨_,0+1,rfl,by go_num,by omega,hTd',hbw4,hbx4⟩
      case measure=>simp only[intOf];omega
    . have hTd':Hid ((T++⟨#[44]⟩++X).data.toList=91::Cb (l.take (k+1)) true):=by
       have:=hTd.out;show _=_;rw[Di,Di,<-this,hne hk0];simp
      clear hTd hT hne;have hkp:0<k:=by omega
      go_wp2_with (fail);(with_reducible refine hCT.out.mono ?_);rintro e w4 ⟨rfl,hb4⟩;have hbw4:=qz (hbw.out.trans (hb4.mono (by omega)));have hbx4:=qz ((hb4.block _ hz).trans hbx.out);clear hb4 hbw hbx;go_wp2;go_roundw
      case rel=>exact⟨_,k+1,rfl,by go_num,by omega,hTd',hbw4,hbx4⟩
      case measure=>simp only[intOf];omega
  . obtain rfl:k=l.length:=by omega
    have hT':=hT.out;rw[List.take_length]at hT';have HE:Hid ((⟨(91::(Cb l true++ [93])).toArray⟩:ByteArray)=T++⟨#[93]⟩):=Sd (by rw[Di,hT'];simp);clear hT hT' hl;go_wp2;go_ret;exact⟨by rw[HE.out];rfl,hbw.out⟩
theorem X7 (b:Bool) (n:Int) (t:ByteArray) (l:List (ByteArray×Val)) (IH: ∀m ∈ l,Up m.2) (la oa:Option Addr) (oc lc:Nat) (w:World) (d:Int) (hl:l= []\/ ∃g off,oa=some ⟨g,off,none⟩/\g<w.heap.size/\As w w.heap.size l g off)
 (hb:Av l<=100000000) (last:Option ByteArray) (hm:Cf l last d=0) (hi:P2 l) (hlen:(Cc l true).length<=700000000):
 Calls Tryz.prog 31 #[.agg #[.int .i64 6,.bool b,.int .i64 n,.string t,.slice la 0 lc,.slice oa l.length oc]] w fun e w'=>e=.returned (.string ⟨(123::(Cc l true++ [125])).toArray⟩)/\Below w.heap.size w w':=by
 have hln:=Do l;have H0:Hid ((⟨#[123]⟩:ByteArray).data.toList=123::Cc (l.take 0) true):=by show _=_;simp[Cc]
 have HI:=qz IH;have HM:=qz (S7 hm);have Hi:=qz (fun x hx=>Aap hi (x:=x) hx);clear IH hm hi;go_enter Tryz.func31,Tryz.ntmps31;go_wp2_with (fail);have HB1:Hid (Below w.heap.size w (w.alloc (.cells #[.int .i64 6,.bool b,.int .i64 n,.string t,.slice la 0 lc,.slice oa l.length oc] 42))):=(Below.refl _ _).alloc (Nat.le_refl _) _;have HX1:Hid ((w.alloc (.cells #[.int .i64 6,.bool b,.int .i64 n,.string t,.slice la 0 lc,.slice oa l.length oc] 42)).heap[w.heap.size]? =some (.cells #[.int .i64 6,.bool b,.int .i64 n,.string t,.slice la 0 lc,.slice oa l.length oc] 42 (0,0))):=heap_alloc_new _ _;go_loopw [7,8] (fun o i wr=> ∃(T:ByteArray) (k:Nat),o=.string T/\i=.int .i64 k/\k<=l.length/\Hid (T.data.toList=123::Cc (l.take k) true)/\Hid (Below w.heap.size w wr)/\Hid (wr.heap[w.heap.size]? =some (.cells #[.int .i64 6,.bool b,.int .i64 n,.string t,.slice la 0 lc,.slice oa l.length oc] 42 (0,0)))) (fun _ i _=>l.length - (intOf i).toNat)
 case atStart=>exact⟨_,0,rfl,rfl,Nat.zero_le _,H0,HB1,HX1⟩
 case round=>
  obtain⟨T,k,rfl,rfl,hk,hT,hbw,hbx⟩:=hrel;clear H0 HB1 HX1;have hTs:T.size<=700000001:=by
   have h1:=congrArg List.length hT.out;have h2:=Il l k true;have h3:=Qe T;simp only[List.length_cons]at h1;omega
  have b4:wr.cell? ⟨w.heap.size,5,none⟩=some (.slice oa l.length oc):=by rw[Lib.cell_of_heap hbx.out];rfl
  have hz:w.heap.size<wr.heap.size:=(Array.getElem?_eq_some_iff.1 hbx.out).1;by_cases hlt:k<l.length
  . obtain⟨g,off,rfl,hg,hL⟩: ∃g off,oa=some ⟨g,off,none⟩/\g<w.heap.size/\As w w.heap.size l g off:=by
     rcases hl with rfl|h
     . simp at hlt
     . exact h
    obtain⟨⟨key,x⟩,hx⟩: ∃v,l[k]? =some v:=⟨_,List.getElem?_eq_getElem hlt⟩;have hmem:(key,x) ∈ l:=List.mem_of_getElem? hx;obtain⟨hkv,hmx⟩:=HM.out _ hmem;have hix:=Hi.out _ hmem;have hbv:=E5 hmem;simp only at hkv hmx hix hbv;have htk:l.take (k+1)=l.take k++ [(key,x)]:=by rw[List.take_add_one,hx];rfl
    have hsn:=J0 (key,x) (l.take k) true;rw[<-htk]at hsn;simp only[T3]at hsn;have hXl:(Bd x).length<=700000000/\(Cp key).length<=700000000:=by
     have h1:=congrArg List.length hsn;have h2:=Il l (k+1) true;simp only[List.length_append,List.length_cons]at h1;omega
    have IHx:=HI.out _ hmem;obtain⟨X,hX⟩: ∃X:ByteArray,(⟨(Bd x).toArray⟩:ByteArray)=X:=⟨_,rfl⟩;have hXs:X.size<=700000000:=by rw[<-hX,M7];exact hXl.1
    have hXd:X.data.toList=Bd x:=by rw[<-hX]
    obtain⟨Q,hQ⟩: ∃Q:ByteArray,(⟨(Cp key).toArray⟩:ByteArray)=Q:=⟨_,rfl⟩;have hQs:Q.size<=700000000:=by rw[<-hQ,M7];exact hXl.2
    have hQd:Q.data.toList=Cp key:=by rw[<-hQ]
    have c0:=((hL.below hg hbw.out).at_ hx).1;simp only at c0;have CQ:=J3 key wr (by omega) hkv;rw[hQ]at CQ;have hTd:Hid (T.data.toList++((if true&&(l.take k).isEmpty then []else [44])++(Q.data.toList++(58::X.data.toList)))=123::Cc (l.take (k+1)) true):=by
     show _=_;rw[hsn,hT.out,hXd,hQd];rfl
    have hCT:Hid (∀w',Below w.heap.size w w'-> ∀(k':Int) (b':Bool) (n':Int) (t':ByteArray) (l':List Val) (o':List (ByteArray×Val)) (la' oa':Option Addr) (lc' oc':Nat),x=.mk k' b' n' t' l' o'->Ab w' w.heap.size x (Df k' b' n' t' la' l'.length lc' oa' o'.length oc')->
     Calls Tryz.prog 31 #[.agg #[.int .i64 k',.bool b',.int .i64 n',.string t',.slice la' l'.length lc',.slice oa' o'.length oc']] w' fun e w''=>e=.returned (.string X)/\Below w'.heap.size w' w''):=by
     intro w' hw' k' b' n' t' l' o' la' oa' lc' oc' _ hvs;have:=IHx _ w' d (Ab.more hw'.size _ _ hvs) (show x.bulk<=100000000 from by omega) hmx hix;rw[hX]at this;exact this
    have hCQ:=qz CQ;have HL:Hid (∀w',Below w.heap.size w w'->As w' w.heap.size l g off):=fun w' h=>hL.below hg h;have HXx:=qz hx;clear CQ hX hXd hQ hQd hXl hsn htk hmx hix hbv hmem hx hL hg IHx hkv;have hne:k≠0->(l.take k).isEmpty=false:=by
     intro h;rw[List.isEmpty_eq_false_iff];intro e;have:=congrArg List.length e;rw[List.length_take,List.length_nil]at this;omega
    obtain⟨k',b',n',t',l',o'⟩:=x;by_cases hk0:k=0
    . subst hk0;simp only[Nat.zero_mul,Nat.add_zero]at c0;have hTd':Hid ((T++Q++⟨#[58]⟩++X).data.toList=123::Cc (l.take (0+1)) true):=by
       have:=hTd.out;show _=_;rw[Di,Di,Di,<-this];simp
      clear hTd hT hne;go_wp2_with (fail);(with_reducible refine hCQ.out.mono ?_);rintro e w4 ⟨rfl,hb4⟩;have hbw4:=qz (hbw.out.trans (hb4.mono (by omega)));have hbx4:=qz ((hb4.block _ hz).trans hbx.out);have hz4:w.heap.size<w4.heap.size:=(Array.getElem?_eq_some_iff.1 hbx4.out).1;have b4':w4.cell? ⟨w.heap.size,5,none⟩=some (.slice (some ⟨g,off,none⟩) l.length oc):=by rw[Lib.cell_of_heap hbx4.out];rfl
      obtain⟨la',lc',oa',oc',hvs,_,e1,e2,e3,e4,e5,e6⟩:=(HL.out _ hbw4.out).seven HXx.out;simp only[Nat.zero_mul,Nat.add_zero]at e1 e2 e3 e4 e5 e6;have hCT4:=qz (hCT.out _ hbw4.out _ _ _ _ _ _ la' oa' lc' oc' rfl hvs);clear hb4 hbw hbx b4 c0 hvs hCT HL HXx hCQ;go_wp2_with (fail);(with_reducible refine hCT4.out.mono ?_);rintro e w5 ⟨rfl,hb5⟩;have hbw5:=qz (hbw4.out.trans (hb5.mono (by omega)));have hbx5:=qz ((hb5.block _ hz4).trans hbx4.out);clear hb5 hbw4 hbx4 hCT4;go_wp2;go_roundw
      case rel=>exact⟨_,0+1,rfl,by go_num,by omega,hTd',hbw5,hbx5⟩
      case measure=>simp only[intOf];omega
    . have hTd':Hid ((T++⟨#[44]⟩++Q++⟨#[58]⟩++X).data.toList=123::Cc (l.take (k+1)) true):=by
       have:=hTd.out;show _=_;rw[Di,Di,Di,Di,<-this,hne hk0];simp
      clear hTd hT hne;have hkp:0<k:=by omega
      go_wp2_with (fail);(with_reducible refine hCQ.out.mono ?_);rintro e w4 ⟨rfl,hb4⟩;have hbw4:=qz (hbw.out.trans (hb4.mono (by omega)));have hbx4:=qz ((hb4.block _ hz).trans hbx.out);have hz4:w.heap.size<w4.heap.size:=(Array.getElem?_eq_some_iff.1 hbx4.out).1;have b4':w4.cell? ⟨w.heap.size,5,none⟩=some (.slice (some ⟨g,off,none⟩) l.length oc):=by rw[Lib.cell_of_heap hbx4.out];rfl
      obtain⟨la',lc',oa',oc',hvs,_,e1,e2,e3,e4,e5,e6⟩:=(HL.out _ hbw4.out).seven HXx.out;have hCT4:=qz (hCT.out _ hbw4.out _ _ _ _ _ _ la' oa' lc' oc' rfl hvs);clear hb4 hbw hbx b4 c0 hvs hCT HL HXx hCQ;go_wp2_with (fail);(with_reducible refine hCT4.out.mono ?_);rintro e w5 ⟨rfl,hb5⟩;have hbw5:=qz (hbw4.out.trans (hb5.mono (by omega)));have hbx5:=qz ((hb5.block _ hz4).trans hbx4.out);clear hb5 hbw4 hbx4 hCT4;go_wp2;go_roundw
      case rel=>exact⟨_,k+1,rfl,by go_num,by omega,hTd',hbw5,hbx5⟩
      case measure=>simp only[intOf];omega
  . obtain rfl:k=l.length:=by omega
    have hT':=hT.out;rw[List.take_length]at hT';have HE:Hid ((⟨(123::(Cc l true++ [125])).toArray⟩:ByteArray)=T++⟨#[125]⟩):=Sd (by rw[Di,hT'];simp);clear hT hT' hl;go_wp2;go_ret;exact⟨by rw[HE.out];rfl,hbw.out⟩
theorem Ts (k:Int) (b:Bool) (n:Int) (t:ByteArray) (l:List Val) (o:List (ByteArray×Val)) (la oa:Option Addr) (oc lc:Nat) (w:World) (h5:k≠5) (h6:k≠6) (hk:k=1\/k=2\/k=3\/k=4) (hs:t.size<=1000000000) (hv:Al t=true)
 (h1: -9223372036854775808<=n) (h2:n<=9223372036854775807):
 Calls Tryz.prog 31 #[.agg #[.int .i64 k,.bool b,.int .i64 n,.string t,.slice la l.length lc,.slice oa o.length oc]] w fun e w'=>e=.returned (.string ⟨(Bd (.mk k b n t l o)).toArray⟩)/\Below w.heap.size w w':=by
 simp only[Bd];rcases hk with rfl|rfl|rfl|rfl
 . rw[if_neg (by decide),if_neg (by decide),if_neg (by decide),if_neg (by decide),if_neg (by decide)];go_enter Tryz.func31,Tryz.ntmps31;go_wp2;go_ret;exact⟨rfl,(Below.refl _ _).alloc (Nat.le_refl _) _⟩
 . rw[if_pos rfl]
   cases b
   . go_enter Tryz.func31,Tryz.ntmps31;go_wp2;go_ret;exact⟨rfl,(Below.refl _ _).alloc (Nat.le_refl _) _⟩
   . go_enter Tryz.func31,Tryz.ntmps31;go_wp2;go_ret;exact⟨rfl,(Below.refl _ _).alloc (Nat.le_refl _) _⟩
 . rw[if_neg (by decide),if_pos rfl];have HD:=qz (fun w=>qz (Qw n h1 h2 w));go_enter Tryz.func31,Tryz.ntmps31;go_wp2_with (fail);(with_reducible refine(HD.out _).out.mono ?_);rintro e w' ⟨rfl,rfl⟩;go_wp2;go_ret;exact⟨rfl,(Below.refl _ _).alloc (Nat.le_refl _) _⟩
 . rw[if_neg (by decide),if_neg (by decide),if_pos rfl];have HD:=qz (fun w=>qz (J3 t w hs hv));go_enter Tryz.func31,Tryz.ntmps31;go_wp2_with (fail);(with_reducible refine(HD.out _).out.mono ?_);rintro e w' ⟨rfl,hb⟩;go_wp2;go_ret;exact⟨rfl,((Below.refl _ _).alloc (Nat.le_refl _) _).trans (hb.mono (by simp))⟩
theorem Mk: ∀v,Up v:=by
 refine Val.ind ?_;intro k b n t l o IHl IHo cs w d hV hb hm hi;have hok:=Oc _ d hm hi;have hlen:=Fd _ hok;obtain⟨hodd,_,hvt,hmL,hmO⟩:=N4 hm;simp only[Ab]at hV;obtain⟨la,lc,oa,oc,rfl,hla,hoa⟩:=hV;simp only[Jg]at hi;simp only[Val.bulk]at hb hlen;by_cases h5:k=5
 . subst h5;have ho:o= []:=by
    have:o.length=0:=by
     unfold Ec at hodd;simp at hodd;simp[hodd]
    exact List.length_eq_zero_iff.1 this
   subst ho;have ht:Bd (.mk 5 b n t l [])=91::(Cb l true++ [93]):=by simp[Bd]
   rw[ht]at hlen ⊢;simp only[List.length_cons,List.length_append,List.length_nil]at hlen;exact We b n t l IHl la oa oc lc w (d+1) hla (by omega) hmL hi.2.1 (by omega)
 by_cases h6:k=6
 . subst h6;have hl:l= []:=by
    have:l.length=0:=by
     unfold Ec at hodd;simp at hodd;simp[hodd]
    exact List.length_eq_zero_iff.1 this
   subst hl;have ht:Bd (.mk 6 b n t [] o)=123::(Cc o true++ [125]):=by simp[Bd]
   rw[ht]at hlen ⊢;simp only[List.length_cons,List.length_append,List.length_nil]at hlen;exact X7 b n t o IHo la oa oc lc w (d+1) hoa (by omega) none hmO hi.2.2 (by omega)
 have hk:k=1\/k=2\/k=3\/k=4:=by
  unfold Ec at hodd;by_cases a1:k=1
  . exact .inl a1
  by_cases a2:k=2
  . exact .inr (.inl a2)
  by_cases a3:k=3
  . exact .inr (.inr (.inl a3))
  by_cases a4:k=4
  . exact .inr (.inr (.inr a4))
  simp[a1,a2,a3,a4,h5,h6]at hodd
 exact Ts k b n t l o la oa oc lc w h5 h6 hk (by omega) hvt hi.1.1 hi.1.2
theorem Vw: ∀(v:Val),Yp v:=by
 refine Val.ind ?_;intro k b n t l o ihl iho cs d w hV hb h0 h65;simp only[Ab]at hV;obtain⟨la,lc,oa,oc,rfl,hL,hO⟩:=hV;simp only[Val.bulk]at hb;by_cases hodd:Ec k b n t l.length o.length=true
 . have hm:A9 (.mk k b n t l o) d=9:=by simp only[A9,hodd,if_true]
   rw[hm];clear hm ihl iho hL hO;go_enter Tryz.func166,Tryz.ntmps166;go_wp2_with (go_at_call 209;refine(Fg hodd _).mono ?_;rintro e w' ⟨rfl,hb1⟩);go_ret;exact⟨rfl,((Below.refl _ _).alloc (Nat.le_refl _) _).trans (hb1.mono (by simp))⟩
 have hodd':Ec k b n t l.length o.length=false:=by simpa using hodd
 clear hodd;by_cases h64:64<d
 . have hm:A9 (.mk k b n t l o) d=5:=by simp only[A9,hodd',Bool.false_eq_true,if_false,h64,if_true]
   rw[hm];clear hm ihl iho hL hO;go_enter Tryz.func166,Tryz.ntmps166;go_wp2_with (go_at_call 209;refine(Fg hodd' _).mono ?_;rintro e w' ⟨rfl,hb1⟩);go_ret;exact⟨rfl,((Below.refl _ _).alloc (Nat.le_refl _) _).trans (hb1.mono (by simp))⟩
 by_cases hval:Al t=true
 . obtain⟨hk,ht,hl,ho⟩:=Lu hodd';by_cases hl0:l= []
   . subst hl0;have hm:A9 (.mk k b n t [] o) d=Cf o none (d+1):=by
      simp only[A9,hodd',Bool.false_eq_true,if_false,h64,hval,if_true,Cy]
     rw[hm];rcases hO with rfl|⟨g,off,rfl,hg,hO⟩
     . exact S8 k b n t [] la oa lc oc d w 0 0 (.inl rfl) (by simp only[Av]at hb ⊢;omega) h0 (by omega) iho hodd' hval
     . exact S8 k b n t o la _ lc oc d w g off (.inr ⟨rfl,hg,hO⟩) (by omega) h0 (by omega) iho hodd' hval
   . have hl1:0<l.length:=List.length_pos_iff.2 hl0;obtain rfl:o= []:=List.eq_nil_of_length_eq_zero (by omega);have hm:A9 (.mk k b n t l []) d=Cy l (d+1):=by
      simp only[A9,hodd',Bool.false_eq_true,if_false,h64,hval,if_true,Cf]
      split<;>simp_all
     rw[hm];rcases hL with rfl|⟨g,off,rfl,hg,hL⟩
     . exact absurd rfl hl0
     . exact Xs k b n t l _ oa lc oc d w g off (.inr ⟨rfl,hg,hL⟩) (by omega) h0 (by omega) ihl hodd' hval
 . have hval':Al t=false:=by simpa using hval
   have hm:A9 (.mk k b n t l o) d=3:=by simp only[A9,hodd',Bool.false_eq_true,if_false,h64,hval']
   rw[hm];clear hm ihl iho hL hO hval;go_enter Tryz.func166,Tryz.ntmps166;go_wp2_with (first|(go_at_call 209;refine(Fg hodd' _).mono ?_;rintro e w1 ⟨rfl,hb1⟩;obtain⟨hc1,hf1⟩:=Em hb1;have hz1:=hb1.size;simp only[World.size_alloc]at hz1;have hbw1:Below w.heap.size w w1:=((Below.refl _ _).alloc (Nat.le_refl _) _).trans (hb1.mono (by simp)))|(go_at_call 111;refine(By hval' _ (by omega)).mono ?_;rintro e w2 ⟨rfl,rfl⟩));go_ret;exact⟨rfl,hbw1⟩
theorem Un (v:Val) (cs:List Value) (w:World) (hV:Ab w w.heap.size v cs) (hb:v.bulk<=1000000000):
 Calls Tryz.prog 132 #[.agg cs.toArray] w fun e w'=>e=.returned (.int .i64 (A9 v 1))/\Below w.heap.size w w':=by
 have hV':=hV;obtain⟨k,b,n,t,l,o⟩:=v;simp only[Ab]at hV';obtain⟨la,lc,oa,oc,rfl,_,_⟩:=hV';have hc:=Vw _ _ 1 (w.alloc (.cells #[.int .i64 k,.bool b,.int .i64 n,.string t,.slice la l.length lc,.slice oa o.length oc] 42)) (Ab.more (by simp) _ _ (hV.below ((Below.refl _ _).alloc (Nat.le_refl _) _))) hb (by omega) (by omega);generalize A9 _ _=m at hc ⊢;have H:=qz hc;clear hc hV;go_enter Tryz.func132,Tryz.ntmps132;go_wp2_with (go_at_call 166;refine(H.out).mono ?_;rintro e w' ⟨rfl,hb1⟩);go_ret;exact⟨rfl,((Below.refl _ _).alloc (Nat.le_refl _) _).trans (hb1.mono (by simp))⟩
end Go.Proofs.YtobmaegpfbheoaaGreatDoor
