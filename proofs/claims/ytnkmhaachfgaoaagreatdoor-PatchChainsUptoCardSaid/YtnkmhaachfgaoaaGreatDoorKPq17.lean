/- Parts: slices.Delete of one element, a node, in a slice of the call's own. Condition: at most 1000 elements. Printed by mkdel.py. -/
import Derived.Deep.RegionLaw
import Derived.Lib.SliceRun
import Derived.Test.YtnkmhaachfgaoaaGreatDoorKPq12
import Derived.Test.YtnkmhaachfgaoaaGreatDoorKPq14
import Derived.Test.YtnkmhaachfgaoaaGreatDoorKPq15
set_option maxHeartbeats 20000000
set_option maxRecDepth 100000
namespace Go.Proofs.YtnkmhaachfgaoaaGreatDoor
open Go.RowKit
theorem Wx (v:Val) (cs:List Value) (w:World) (hT:Cr w) (hV:Ab w w.heap.size v cs) (hb:v.bulk<=1000000000) (hok:Ze v):
 Calls Tryz.prog 106 #[.agg cs.toArray] w fun e w'=>e=.returned (.int .i64 (Cg v).length)/\Below w.heap.size w w':=by
 have hV':=hV;obtain⟨k,b,n,t,l,o⟩:=v;simp only[Ab]at hV';obtain⟨la,lc,oa,oc,rfl,_,_⟩:=hV';obtain⟨w1,hw1⟩: ∃w1,w.alloc (.cells (Dk k b n t la l.length lc oa o.length oc).toArray 40)=w1:=⟨_,rfl⟩;have hb1:Below w.heap.size w w1:=hw1▸(Below.refl _ _).alloc (Nat.le_refl _) _;have hz1:w1.heap.size=w.heap.size+1:=by rw[<-hw1];simp
 have hc:=Oj k b n t l o la oa lc oc false w1 (hT.below hb1) (Ab.more hb1.size _ _ (hV.below hb1)) hb hok;have HO:=qz (fun w=>L1 k b n t la oa l.length lc o.length oc w);rw[hz1]at hc;generalize Cg (.mk k b n t l o)=L at*
 have ent:=I6;obtain⟨HC,HAB⟩:=hid2 hc hb1;subst hw1;clear hc hV hb hok hT hz1 hb1;go_enter Tryz.func106,Tryz.ntmps106;go_wp2_with (first|(go_at_call 79;refine(HO.out _).mono ?_;rintro e w2 ⟨rfl,rfl⟩)|(go_at_fn (L9 k);refine(HC.out).mono ?_;rintro e w4 ⟨rfl,h6,h7⟩;have hW4:=h6;obtain⟨pp,vv,hbld⟩:=hW4;have g3:w4.cell? ⟨w.heap.size+1,3,none⟩=some (.int .i64 (L.length:Int)):=by(rw[Lib.cell_of_heap hbld.2.1];rfl)));go_ret;exact⟨rfl,HAB.out.trans (h7.mono (by simp))⟩
def Rc:List UInt8:= [34,92,47,98,102,110,114,116]
theorem St: ∀j:Fin 8,j.val≠2->Bx ((Ke.getD j.val 0).toNat)= [92,Rc.getD j.val 0]:=by decide
def O5 (r:Nat) (j:Nat):Prop:= ∀i:Nat,i<j->i≠2->Ke.getD i 0≠(r:Int)
theorem O5.all {r:Nat} (h:O5 r 8):r≠34/\r≠92/\r≠8/\r≠12/\r≠10/\r≠13/\r≠9:=by
 have h0:=h 0 (by omega) (by omega);have h1:=h 1 (by omega) (by omega);have h3:=h 3 (by omega) (by omega);have h4:=h 4 (by omega) (by omega);have h5:=h 5 (by omega) (by omega);have h6:=h 6 (by omega) (by omega);have h7:=h 7 (by omega) (by omega);simp[Ke]at h0 h1 h3 h4 h5 h6 h7;omega
theorem Vl {r:Nat} (h:O5 r 8):Bx r=if r<32 then [92,117,48,48,Ki (r / 16),Ki (r % 16)]else Lib.encodeRune r:=by
 obtain⟨a1,a2,a3,a4,a5,a6,a7⟩:=h.all;unfold Bx;by_cases h32:r<32
 . rw[if_neg (by omega),if_pos h32];have:Dt (r:Int) Bf=none:=by
    simp only[Bf,Dt]
    repeat rw[if_neg (by omega)]
   rw[this]
 . rw[if_pos (by omega),if_neg h32]
theorem O5.step {r j:Nat} (h:O5 r j) (hj:j=2\/Ke.getD j 0≠(r:Int)):O5 r (j+1):=by
 intro i hi h2;by_cases he:i=j
 . subst he;rcases hj with hj|hj
   . exact absurd hj h2
   . exact hj
 . exact h i (by omega) h2
def Vs (r:Nat):Prop:=r<=1114111/\ ¬(55296<=r/\r<57344)
theorem Wm (F:Option Int) (n:Nat) (least:Int):(Cz F n least).2=0\/((Cz F n least).1<=1114111/\ ¬(55296<=(Cz F n least).1/\(Cz F n least).1<57344)):=by
 unfold Cz
 split
 . simp
 . split
   . simp
   . rename_i h
     right
     simp only;omega
theorem J9 (rest:List UInt8) (n:Nat) (r0 least:Int):(Br rest n r0 least).2=0\/((Br rest n r0 least).1<=1114111/\ ¬(55296<=(Br rest n r0 least).1/\(Br rest n r0 least).1<57344)):=by
 unfold Br
 split
 . exact .inl rfl
 . exact Wm _ _ _
theorem Ul (l:List UInt8):(Ff l).2=0\/((Ff l).1<=1114111/\ ¬(55296<=(Ff l).1/\(Ff l).1<57344)):=by
 cases l with
 |nil=>exact .inl rfl
 |cons c rest=>
  rw[Fo];by_cases h1:(c.toNat:Int)<128
  . rw[if_pos h1]
    right
    simp only;omega
  rw[if_neg h1]
  split
  . exact J9 _ _ _ _
  split
  . exact J9 _ _ _ _
  split
  . exact J9 _ _ _ _
  . exact .inl rfl
theorem Jz: ∀(n:Nat) (l:List UInt8) (p:Nat),∀x ∈ Bd n l p,Vs x.2
 |0,_,_,x,hx=>by simp[Bd]at hx
 |n+1,l,p,x,hx=>by
  by_cases h:l= []
  . subst h;simp[Bd]at hx
  . rcases Lj h n p with⟨_,e⟩|⟨m,r,hn,h1,_,e⟩
    . rw[e]at hx
      cases hx
    . rw[e]at hx;rcases List.mem_cons.1 hx with rfl|hx
      . have:=Ul l;rw[hn]at this;unfold Vs;simp only at this ⊢;omega
      . exact Jz n _ _ x hx
theorem Ab9 (d:Nat) (hd:d<16) (w:World):(Instr.slice 9 (.string ⟨#[48,49,50,51,52,53,54,55,56,57,97,98,99,100,101,102]⟩) (some (.int .i64 d)) (some (.int .i64 ((d:Int)+1))) none).run Tryz.prog w=.ok (.string ⟨#[Ki d]⟩) w:=by
 have:=Vq ⟨#[48,49,50,51,52,53,54,55,56,57,97,98,99,100,101,102]⟩ d (d+1) (by omega) (by show d+1<=16;omega) w;have e: ∀d:Fin 16,(⟨#[48,49,50,51,52,53,54,55,56,57,97,98,99,100,101,102]⟩:ByteArray).extract d.val (d.val+1)=⟨#[Ki d.val]⟩:=by decide
 rw[e ⟨d,hd⟩]at this;exact this
theorem Aho (d:Nat) (hd:d<8) (w:World):(Instr.slice 9 (.string ⟨#[34,92,47,98,102,110,114,116]⟩) (some (.int .i64 d)) (some (.int .i64 ((d:Int)+1))) none).run Tryz.prog w=.ok (.string ⟨#[Rc.getD d 0]⟩) w:=by
 have:=Vq ⟨#[34,92,47,98,102,110,114,116]⟩ d (d+1) (by omega) (by show d+1<=8;omega) w;have e: ∀d:Fin 8,(⟨#[34,92,47,98,102,110,114,116]⟩:ByteArray).extract d.val (d.val+1)=⟨#[Rc.getD d.val 0]⟩:=by decide
 rw[e ⟨d,hd⟩]at this;exact this
theorem P7 (r:Int):(Lib.encodeRune r).length<=4:=by
 unfold Lib.encodeRune Lib.encodeRuneZ
 repeat' split
 all_goals simp
theorem Nk (s:ByteArray) (w:World) (hs:s.size<=1000000000) (hv:A4 s=true):
 Calls Tryz.prog 85 #[.string s] w fun e w'=>e=.returned (.tuple #[.string ⟨(Df s).toArray⟩,.int .i64 0])/\Below w.heap.size w w':=by
 have cV:=Nm s w hs;rw[hv]at cV;have HR:=qz (Ug s w hs);have hlr:(E4 s).length<=s.size:=E5 _ _ _;have HS:Hid (∀x ∈ E4 s,Vs x.2):=Jz _ _ _;unfold Df;generalize E4 s=L at*
 have HV:=qz cV;clear cV hv;go_enter Tryz.func85,Tryz.ntmps85;go_wp2_with (fail);(with_reducible refine HV.out.mono ?_);rintro e w' ⟨rfl,rfl⟩;clear HV;go_wp2_with (fail);(with_reducible refine HR.out.mono ?_);rintro e w1 ⟨⟨v1,v2,rfl,hown⟩,hb1⟩;clear HR;obtain⟨la,lc,rfl,hcells⟩: ∃la lc,v1=.slice la L.length lc/\Hid (∀(k:Nat) (x:Nat×Nat),L[k]? =some x-> ∃g off,la=some ⟨g,off,none⟩/\g<w1.heap.size/\w1.cell? ⟨g,off+k,none⟩=some (.int .i64 x.2)):=by
  rcases hown.2 with⟨hv,hz⟩|⟨g,cap,cur,rfl,hbg,hg,hnc,hcm,hcs,htake⟩
  . have hL:L= []:=List.length_eq_zero_iff.1 hz;subst hL;exact⟨none,0,hv,fun k x hx=>by simp at hx⟩
  . refine⟨some ⟨g,0,none⟩,cap,rfl,fun k x hx=>⟨g,0,rfl,(Array.getElem?_eq_some_iff.1 hg).1, ?_⟩⟩;have:=hown.cells (g:=g) rfl k (.int .i64 x.2) (by simp[hx]);rw[Go.WideShapes.add_plain,Nat.zero_add]at this;rw[Nat.zero_add];exact this
 have hb1':=qz hb1;have H0:Hid ((⟨#[34]⟩:ByteArray).data.toList=34::As (L.take 0)):=by show _=_;simp[As]
 clear hown hb1;go_wp2_with (fail);go_loopw [4,8] (fun o i wr=> ∃(T:ByteArray) (k:Nat),o=.string T/\i=.int .i64 k/\k<=L.length/\Hid (T.data.toList=34::As (L.take k))/\Hid (Below w1.heap.size w1 wr)) (fun _ i _=>L.length - (intOf i).toNat)
 case atStart=>exact⟨_,0,rfl,rfl,Nat.zero_le _,H0,Below.refl _ _⟩
 case round=>
  obtain⟨T,k,rfl,rfl,hk,hT,hbw⟩:=hrel;clear H0;obtain⟨wo,rfl⟩: ∃wo:World,wo=wr:=⟨_,rfl⟩;have hTs:T.size<=6*L.length+1:=by
   have h1:=congrArg List.length hT.out;have h2:=F8 (L.take k);have h3:(L.take k).length<=L.length:=by rw[List.length_take];omega
   have h4:T.data.toList.length=T.size:=by rw[Array.length_toList];rfl
   simp only[List.length_cons]at h1;omega
  by_cases hlt:k<L.length
  . obtain⟨⟨p,r⟩,hx⟩: ∃v,L[k]? =some v:=⟨_,List.getElem?_eq_getElem hlt⟩;obtain⟨g,off,rfl,hg,hc0⟩:=hcells.out k _ hx;have hc:wo.cell? ⟨g,off+k,none⟩=some (.int .i64 r):=(hbw.out.cell (p:=⟨g,off+k,none⟩) hg).trans hc0;have hsc:=HS.out _ (List.mem_of_getElem? hx);unfold Vs at hsc;simp only at hsc;obtain⟨hsc1,hsc2⟩:=hsc;have htk:L.take (k+1)=L.take k++ [(p,r)]:=by rw[List.take_add_one,hx];rfl
    have hsn:Hid (34::As (L.take (k+1))=T.data.toList++Bx r):=by
     show _=_;rw[htk,hT.out];simp[As]
    have Hsc:=qz hsc2;have hB0:Hid (Below w1.heap.size w1 wo):=hbw;have hN0:Hid (O5 r 0):=fun i hi=>by omega
    clear hT htk hx hc0 hsc2 hbw;go_wp2_with (fail);go_loopw [10] (fun j wr=> ∃n:Nat,j=.int .i64 n/\n<=8/\Hid (O5 r n)/\Hid (Below w1.heap.size w1 wr)) (fun j _=>8 - (intOf j).toNat)
    case atStart=>exact⟨0,rfl,by omega,hN0,hB0⟩
    case round=>
     obtain⟨n,rfl,hn,hno,hbw⟩:=hrel;clear hN0 hB0;rcases(by omega:n=2\/(n≠2/\n<8)\/n=8)with rfl|⟨hn2,hn8⟩|rfl
     . have hno':=qz (hno.out.step (.inl rfl));clear hno hsn hc;go_wp2_with (fail);go_roundw
       case rel=>exact⟨2+1,rfl,by omega,hno',hbw⟩
       case measure=>simp[intOf]
     . obtain⟨c,hcc⟩: ∃c,Ke[n]? =some c:=⟨_,List.getElem?_eq_getElem hn8⟩;have hcd:Ke.getD n 0=c:=by simp[List.getD,hcc]
       have cC:=qz (Wi n c hcc wr);have hn2':((n:Int)==2)=false:=by simp;omega
       by_cases hcr:c=(r:Int)
       . have hq:Bx r= [92,Rc.getD n 0]:=by
          have:=St ⟨n,hn8⟩ hn2;simp only[hcd,hcr,Int.toNat_natCast]at this;exact this
         rw[hq]at hsn;subst hcr;have hlet:=fun w=>Aho n hn8 w;generalize Rc.getD n 0=c8 at hsn hlet;have hT':Hid ((T++⟨#[92]⟩++⟨#[c8]⟩).data.toList=34::As (L.take (k+1))):=by
          show _=_;rw[hsn.out,ByteArray.data_append,Array.toList_append,ByteArray.data_append,Array.toList_append];simp
         clear hno hsn hcc hcd hc hq;go_wp2_with (fail);(with_reducible refine cC.out.mono ?_);rintro e w2 ⟨rfl,hb2⟩;have hbw2:=qz (hbw.out.trans (hb2.mono hbw.out.size));clear hb2 hbw cC;have hl2:=hlet w2;clear hlet;go_wp2;go_roundw
         case rel=>exact⟨_,k+1,rfl,by go_num,by omega,hT',hbw2⟩
         case measure=>simp only[intOf];omega
       . have hno':=qz (hno.out.step (.inr (by rw[hcd];exact hcr)));have hcr1:(c==(r:Int))=false:=by simpa using hcr
         have hcr2:(c != (r:Int))=true:=by simpa using hcr
         clear hno hsn hcc hcd hc hcr;go_wp2_with (fail);(with_reducible refine cC.out.mono ?_);rintro e w2 ⟨rfl,hb2⟩;have hbw2:=qz (hbw.out.trans (hb2.mono hbw.out.size));clear hb2 hbw cC;go_wp2;go_roundw
         case rel=>exact⟨n+1,by go_num,by omega,hno',hbw2⟩
         case measure=>simp only[intOf];omega
     . have hq:=Vl hno.out;rw[hq]at hsn;clear hno hc hq;by_cases h32:r<32
       . rw[if_pos h32]at hsn;have hT':Hid ((T++⟨#[92,117,48,48]⟩++⟨#[Ki (r / 16)]⟩++⟨#[Ki (r % 16)]⟩).data.toList=34::As (L.take (k+1))):=by
          show _=_;rw[hsn.out,ByteArray.data_append,Array.toList_append,ByteArray.data_append,Array.toList_append,ByteArray.data_append,Array.toList_append];simp
         have hx1:=fun w=>Ab9 (r / 16) (by omega) w;have hx2:=fun w=>Ab9 (r % 16) (by omega) w;have hq16:(r:Int) / 16=((r / 16:Nat):Int):=by omega
         have hm16:(r:Int) % 16=((r % 16:Nat):Int):=by omega
         have hq16':(r:Int).tdiv 16=((r / 16:Nat):Int):=by rw[Int.tdiv_eq_ediv_of_nonneg (by omega)];omega
         have hm16':(r:Int).tmod 16=((r % 16:Nat):Int):=by rw[Int.tmod_eq_emod_of_nonneg (by omega)];omega
         have hql:r / 16<2:=by omega
         have hml:r % 16<16:=by omega
         generalize Ki (r / 16)=e1 at*
         generalize Ki (r % 16)=e2 at*
         generalize r / 16=q at*
         generalize r % 16=m at*
         have hw1:IntKind.i64.wrap ((q:Int)+1)=(q:Int)+1:=IntWalk.i64_in _ (by omega);have hw2:IntKind.i64.wrap ((m:Int)+1)=(m:Int)+1:=IntWalk.i64_in _ (by omega);clear hsn;go_wp2_with (fail);go_quiet (fail);have hbw2:=qz (Be hbw.out nq);clear hx1 hx2 hq16 hm16 hq16' hm16' hw1 hw2 hbw;go_wp2;go_roundw
         case rel=>exact⟨_,k+1,rfl,by go_num,by omega,hT',hbw2⟩
         case measure=>simp only[intOf];omega
       . rw[if_neg h32]at hsn;have cB:=qz (Uf r (by omega) (by omega) (by have:=Hsc.out;omega) wr);have hel:(Lib.encodeRune (r:Int)).length<=4:=P7 r;obtain⟨X,hX⟩: ∃X:ByteArray,(⟨(Lib.encodeRune (r:Int)).toArray⟩:ByteArray)=X:=⟨_,rfl⟩;have hXs:X.size<=4:=by rw[<-hX];exact hel
         have hT':Hid ((T++X).data.toList=34::As (L.take (k+1))):=by
          show _=_;rw[hsn.out,ByteArray.data_append,Array.toList_append,<-hX]
         rw[hX]at cB;clear hsn hel hX;go_wp2_with (fail);(with_reducible refine cB.out.mono ?_);rintro e w2 ⟨rfl,hb2⟩;have hbw2:=qz (hbw.out.trans (hb2.mono hbw.out.size));clear hb2 hbw cB;go_wp2;go_roundw
         case rel=>exact⟨_,k+1,rfl,by go_num,by omega,hT',hbw2⟩
         case measure=>simp only[intOf];omega
  . obtain rfl:k=L.length:=by omega
    have hT':=hT.out;rw[List.take_length]at hT';have hE:(⟨(34::(As L++ [34])).toArray⟩:ByteArray)=T++⟨#[34]⟩:=by
     apply ByteArray.ext;rw[ByteArray.data_append];apply Array.ext';rw[Array.toList_append,hT'];simp
    have HE:=qz hE;clear hT hT' hE;go_wp2;go_ret2;exact⟨by rw[HE.out];rfl,hb1'.out.trans (hbw.out.mono hb1'.out.size)⟩
def Zk (v:Val):Prop:= ∀(cs:List Value) (w:World) (d:Int),Ab w w.heap.size v cs->v.bulk<=100000000->Bb v d=0->M4 v->
    Calls Tryz.prog 55 #[.agg cs.toArray] w fun e w'=>e=.returned (.string ⟨(Cg v).toArray⟩)/\Below w.heap.size w w'
theorem Wy {T:ByteArray} {l:List UInt8} (h:T.data.toList=l):(⟨l.toArray⟩:ByteArray)=T:=by
 subst h;rfl
theorem D9 (a b:ByteArray):(a++b).data.toList=a.data.toList++b.data.toList:=by
 rw[ByteArray.data_append,Array.toList_append]
theorem Aa3 (b:Bool) (n:Int) (t:ByteArray) (l:List Val) (IH: ∀v ∈ l,Zk v) (la oa:Option Addr) (oc lc:Nat) (w:World) (d:Int) (hl:l= []\/ ∃g off,la=some ⟨g,off,none⟩/\g<w.heap.size/\Aj w w.heap.size l g off)
 (hb:Bc l<=100000000) (hm:Dd l d=0) (hi:U0 l) (hlen:(Cw l true).length<=700000000):
 Calls Tryz.prog 55 #[.agg #[.int .i64 5,.bool b,.int .i64 n,.string t,.slice la l.length lc,.slice oa 0 oc]] w fun e w'=>e=.returned (.string ⟨(91::(Cw l true++ [93])).toArray⟩)/\Below w.heap.size w w':=by
 have hln:=Ct l;have H0:Hid ((⟨#[91]⟩:ByteArray).data.toList=91::Cw (l.take 0) true):=by show _=_;simp[Cw]
 have HI:=qz IH;have HM:=qz (X1 hm);have Hi:=qz (fun x hx=>Ag2 hi (x:=x) hx);clear IH hm hi;go_enter Tryz.func55,Tryz.ntmps55;go_wp2_with (fail);have HB1:Hid (Below w.heap.size w (w.alloc (.cells #[.int .i64 5,.bool b,.int .i64 n,.string t,.slice la l.length lc,.slice oa 0 oc] 40))):=(Below.refl _ _).alloc (Nat.le_refl _) _;have HX1:Hid ((w.alloc (.cells #[.int .i64 5,.bool b,.int .i64 n,.string t,.slice la l.length lc,.slice oa 0 oc] 40)).heap[w.heap.size]? =some (.cells #[.int .i64 5,.bool b,.int .i64 n,.string t,.slice la l.length lc,.slice oa 0 oc] 40 (0,0))):=heap_alloc_new _ _;go_loopw [5,6] (fun o i wr=> ∃(T:ByteArray) (k:Nat),o=.string T/\i=.int .i64 k/\k<=l.length/\Hid (T.data.toList=91::Cw (l.take k) true)/\Hid (Below w.heap.size w wr)/\Hid (wr.heap[w.heap.size]? =some (.cells #[.int .i64 5,.bool b,.int .i64 n,.string t,.slice la l.length lc,.slice oa 0 oc] 40 (0,0)))) (fun _ i _=>l.length - (intOf i).toNat)
 case atStart=>exact⟨_,0,rfl,rfl,Nat.zero_le _,H0,HB1,HX1⟩
 case round=>
  obtain⟨T,k,rfl,rfl,hk,hT,hbw,hbx⟩:=hrel;clear H0 HB1 HX1;have hTs:T.size<=700000001:=by
   have h1:=congrArg List.length hT.out;have h2:=Lm l k true;have h3:=T6 T;simp only[List.length_cons]at h1;omega
  have b4:wr.cell? ⟨w.heap.size,4,none⟩=some (.slice la l.length lc):=by rw[Lib.cell_of_heap hbx.out];rfl
  have hz:w.heap.size<wr.heap.size:=(Array.getElem?_eq_some_iff.1 hbx.out).1;by_cases hlt:k<l.length
  . obtain⟨g,off,rfl,hg,hL⟩: ∃g off,la=some ⟨g,off,none⟩/\g<w.heap.size/\Aj w w.heap.size l g off:=by
     rcases hl with rfl|h
     . simp at hlt
     . exact h
    obtain⟨x,hx⟩: ∃v,l[k]? =some v:=⟨_,List.getElem?_eq_getElem hlt⟩;have hmem:x ∈ l:=List.mem_of_getElem? hx;have hmx:=HM.out x hmem;have hix:=Hi.out x hmem;have hbv:=Da hmem;have htk:l.take (k+1)=l.take k++ [x]:=by rw[List.take_add_one,hx];rfl
    have hsn:=Na x (l.take k) true;rw[<-htk]at hsn;have hXl:(Cg x).length<=700000000:=by
     have h1:=congrArg List.length hsn;have h2:=Lm l (k+1) true;simp only[List.length_append]at h1;omega
    have IHx:=HI.out x hmem;obtain⟨X,hX⟩: ∃X:ByteArray,(⟨(Cg x).toArray⟩:ByteArray)=X:=⟨_,rfl⟩;have hXs:X.size<=700000000:=by rw[<-hX,Qi];exact hXl
    have hXd:X.data.toList=Cg x:=by rw[<-hX]
    obtain⟨k',b',n',t',l',o'⟩:=x;obtain⟨la',lc',oa',oc',hvs,c0,c1,c2,c3,c4,c5⟩:=(hL.below hg hbw.out).six hx;have CT:=IHx _ wr d (Ab.more (by omega) _ _ hvs) (by omega) hmx hix;rw[hX]at CT;have hTd:Hid (T.data.toList++((if true&&(l.take k).isEmpty then []else [44])++X.data.toList)=91::Cw (l.take (k+1)) true):=by
     show _=_;rw[hsn,hT.out,hXd];rfl
    have hCT:=qz CT;clear CT hX hXd hXl hsn htk hmx hix hbv hmem hx hL hg IHx hvs;have hne:k≠0->(l.take k).isEmpty=false:=by
     intro h;rw[List.isEmpty_eq_false_iff];intro e;have:=congrArg List.length e;rw[List.length_take,List.length_nil]at this;omega
    by_cases hk0:k=0
    . subst hk0;simp only[Nat.zero_mul,Nat.add_zero]at c0 c1 c2 c3 c4 c5;have hTd':Hid ((T++X).data.toList=91::Cw (l.take (0+1)) true):=by
       have:=hTd.out;show _=_;rw[D9,<-this];simp
      clear hTd hT hne;go_wp2_with (fail);(with_reducible refine hCT.out.mono ?_);rintro e w4 ⟨rfl,hb4⟩;have hbw4:=qz (hbw.out.trans (hb4.mono (by omega)));have hbx4:=qz ((hb4.block _ hz).trans hbx.out);clear hb4 hbw hbx;go_wp2;go_roundw
      case rel=>exact⟨_,0+1,rfl,by go_num,by omega,hTd',hbw4,hbx4⟩
      case measure=>simp only[intOf];omega
    . have hTd':Hid ((T++⟨#[44]⟩++X).data.toList=91::Cw (l.take (k+1)) true):=by
       have:=hTd.out;show _=_;rw[D9,D9,<-this,hne hk0];simp
      clear hTd hT hne;have hkp:0<k:=by omega
      go_wp2_with (fail);(with_reducible refine hCT.out.mono ?_);rintro e w4 ⟨rfl,hb4⟩;have hbw4:=qz (hbw.out.trans (hb4.mono (by omega)));have hbx4:=qz ((hb4.block _ hz).trans hbx.out);clear hb4 hbw hbx;go_wp2;go_roundw
      case rel=>exact⟨_,k+1,rfl,by go_num,by omega,hTd',hbw4,hbx4⟩
      case measure=>simp only[intOf];omega
  . obtain rfl:k=l.length:=by omega
    have hT':=hT.out;rw[List.take_length]at hT';have HE:Hid ((⟨(91::(Cw l true++ [93])).toArray⟩:ByteArray)=T++⟨#[93]⟩):=Wy (by rw[D9,hT'];simp);clear hT hT' hl;go_wp2;go_ret;exact⟨by rw[HE.out];rfl,hbw.out⟩
theorem Adi (b:Bool) (n:Int) (t:ByteArray) (l:List (ByteArray×Val)) (IH: ∀m ∈ l,Zk m.2) (la oa:Option Addr) (oc lc:Nat) (w:World) (d:Int) (hl:l= []\/ ∃g off,oa=some ⟨g,off,none⟩/\g<w.heap.size/\Ak w w.heap.size l g off)
 (hb:Ac l<=100000000) (last:Option ByteArray) (hm:Dx l last d=0) (hi:J2 l) (hlen:(Cx l true).length<=700000000):
 Calls Tryz.prog 55 #[.agg #[.int .i64 6,.bool b,.int .i64 n,.string t,.slice la 0 lc,.slice oa l.length oc]] w fun e w'=>e=.returned (.string ⟨(123::(Cx l true++ [125])).toArray⟩)/\Below w.heap.size w w':=by
 have hln:=Aw l;have H0:Hid ((⟨#[123]⟩:ByteArray).data.toList=123::Cx (l.take 0) true):=by show _=_;simp[Cx]
 have HI:=qz IH;have HM:=qz (N3 hm);have Hi:=qz (fun x hx=>I9 hi (x:=x) hx);clear IH hm hi;go_enter Tryz.func55,Tryz.ntmps55;go_wp2_with (fail);have HB1:Hid (Below w.heap.size w (w.alloc (.cells #[.int .i64 6,.bool b,.int .i64 n,.string t,.slice la 0 lc,.slice oa l.length oc] 40))):=(Below.refl _ _).alloc (Nat.le_refl _) _;have HX1:Hid ((w.alloc (.cells #[.int .i64 6,.bool b,.int .i64 n,.string t,.slice la 0 lc,.slice oa l.length oc] 40)).heap[w.heap.size]? =some (.cells #[.int .i64 6,.bool b,.int .i64 n,.string t,.slice la 0 lc,.slice oa l.length oc] 40 (0,0))):=heap_alloc_new _ _;go_loopw [7,8] (fun o i wr=> ∃(T:ByteArray) (k:Nat),o=.string T/\i=.int .i64 k/\k<=l.length/\Hid (T.data.toList=123::Cx (l.take k) true)/\Hid (Below w.heap.size w wr)/\Hid (wr.heap[w.heap.size]? =some (.cells #[.int .i64 6,.bool b,.int .i64 n,.string t,.slice la 0 lc,.slice oa l.length oc] 40 (0,0)))) (fun _ i _=>l.length - (intOf i).toNat)
 case atStart=>exact⟨_,0,rfl,rfl,Nat.zero_le _,H0,HB1,HX1⟩
 case round=>
  obtain⟨T,k,rfl,rfl,hk,hT,hbw,hbx⟩:=hrel;clear H0 HB1 HX1;have hTs:T.size<=700000001:=by
   have h1:=congrArg List.length hT.out;have h2:=Ln l k true;have h3:=T6 T;simp only[List.length_cons]at h1;omega
  have b4:wr.cell? ⟨w.heap.size,5,none⟩=some (.slice oa l.length oc):=by rw[Lib.cell_of_heap hbx.out];rfl
  have hz:w.heap.size<wr.heap.size:=(Array.getElem?_eq_some_iff.1 hbx.out).1;by_cases hlt:k<l.length
  . obtain⟨g,off,rfl,hg,hL⟩: ∃g off,oa=some ⟨g,off,none⟩/\g<w.heap.size/\Ak w w.heap.size l g off:=by
     rcases hl with rfl|h
     . simp at hlt
     . exact h
    obtain⟨⟨key,x⟩,hx⟩: ∃v,l[k]? =some v:=⟨_,List.getElem?_eq_getElem hlt⟩;have hmem:(key,x) ∈ l:=List.mem_of_getElem? hx;obtain⟨hkv,hmx⟩:=HM.out _ hmem;have hix:=Hi.out _ hmem;have hbv:=B4 hmem;simp only at hkv hmx hix hbv;have htk:l.take (k+1)=l.take k++ [(key,x)]:=by rw[List.take_add_one,hx];rfl
    have hsn:=Nb (key,x) (l.take k) true;rw[<-htk]at hsn;simp only[Yy]at hsn;have hXl:(Cg x).length<=700000000/\(Df key).length<=700000000:=by
     have h1:=congrArg List.length hsn;have h2:=Ln l (k+1) true;simp only[List.length_append,List.length_cons]at h1;omega
    have IHx:=HI.out _ hmem;obtain⟨X,hX⟩: ∃X:ByteArray,(⟨(Cg x).toArray⟩:ByteArray)=X:=⟨_,rfl⟩;have hXs:X.size<=700000000:=by rw[<-hX,Qi];exact hXl.1
    have hXd:X.data.toList=Cg x:=by rw[<-hX]
    obtain⟨Q,hQ⟩: ∃Q:ByteArray,(⟨(Df key).toArray⟩:ByteArray)=Q:=⟨_,rfl⟩;have hQs:Q.size<=700000000:=by rw[<-hQ,Qi];exact hXl.2
    have hQd:Q.data.toList=Df key:=by rw[<-hQ]
    have c0:=((hL.below hg hbw.out).at_ hx).1;simp only at c0;have CQ:=Nk key wr (by omega) hkv;rw[hQ]at CQ;have hTd:Hid (T.data.toList++((if true&&(l.take k).isEmpty then []else [44])++(Q.data.toList++(58::X.data.toList)))=123::Cx (l.take (k+1)) true):=by
     show _=_;rw[hsn,hT.out,hXd,hQd];rfl
    have hCT:Hid (∀w',Below w.heap.size w w'-> ∀(k':Int) (b':Bool) (n':Int) (t':ByteArray) (l':List Val) (o':List (ByteArray×Val)) (la' oa':Option Addr) (lc' oc':Nat),x=.mk k' b' n' t' l' o'->Ab w' w.heap.size x (Dk k' b' n' t' la' l'.length lc' oa' o'.length oc')->
     Calls Tryz.prog 55 #[.agg #[.int .i64 k',.bool b',.int .i64 n',.string t',.slice la' l'.length lc',.slice oa' o'.length oc']] w' fun e w''=>e=.returned (.string X)/\Below w'.heap.size w' w''):=by
     intro w' hw' k' b' n' t' l' o' la' oa' lc' oc' _ hvs;have:=IHx _ w' d (Ab.more hw'.size _ _ hvs) (show x.bulk<=100000000 from by omega) hmx hix;rw[hX]at this;exact this
    have hCQ:=qz CQ;have HL:Hid (∀w',Below w.heap.size w w'->Ak w' w.heap.size l g off):=fun w' h=>hL.below hg h;have HXx:=qz hx;clear CQ hX hXd hQ hQd hXl hsn htk hmx hix hbv hmem hx hL hg IHx hkv;have hne:k≠0->(l.take k).isEmpty=false:=by
     intro h;rw[List.isEmpty_eq_false_iff];intro e;have:=congrArg List.length e;rw[List.length_take,List.length_nil]at this;omega
    obtain⟨k',b',n',t',l',o'⟩:=x;by_cases hk0:k=0
    . subst hk0;simp only[Nat.zero_mul,Nat.add_zero]at c0;have hTd':Hid ((T++Q++⟨#[58]⟩++X).data.toList=123::Cx (l.take (0+1)) true):=by
       have:=hTd.out;show _=_;rw[D9,D9,D9,<-this];simp
      clear hTd hT hne;go_wp2_with (fail);(with_reducible refine hCQ.out.mono ?_);rintro e w4 ⟨rfl,hb4⟩;have hbw4:=qz (hbw.out.trans (hb4.mono (by omega)));have hbx4:=qz ((hb4.block _ hz).trans hbx.out);have hz4:w.heap.size<w4.heap.size:=(Array.getElem?_eq_some_iff.1 hbx4.out).1;have b4':w4.cell? ⟨w.heap.size,5,none⟩=some (.slice (some ⟨g,off,none⟩) l.length oc):=by rw[Lib.cell_of_heap hbx4.out];rfl
      obtain⟨la',lc',oa',oc',hvs,_,e1,e2,e3,e4,e5,e6⟩:=(HL.out _ hbw4.out).seven HXx.out;simp only[Nat.zero_mul,Nat.add_zero]at e1 e2 e3 e4 e5 e6;have hCT4:=qz (hCT.out _ hbw4.out _ _ _ _ _ _ la' oa' lc' oc' rfl hvs);clear hb4 hbw hbx b4 c0 hvs hCT HL HXx hCQ;go_wp2_with (fail);(with_reducible refine hCT4.out.mono ?_);rintro e w5 ⟨rfl,hb5⟩;have hbw5:=qz (hbw4.out.trans (hb5.mono (by omega)));have hbx5:=qz ((hb5.block _ hz4).trans hbx4.out);clear hb5 hbw4 hbx4 hCT4;go_wp2;go_roundw
      case rel=>exact⟨_,0+1,rfl,by go_num,by omega,hTd',hbw5,hbx5⟩
      case measure=>simp only[intOf];omega
    . have hTd':Hid ((T++⟨#[44]⟩++Q++⟨#[58]⟩++X).data.toList=123::Cx (l.take (k+1)) true):=by
       have:=hTd.out;show _=_;rw[D9,D9,D9,D9,<-this,hne hk0];simp
      clear hTd hT hne;have hkp:0<k:=by omega
      go_wp2_with (fail);(with_reducible refine hCQ.out.mono ?_);rintro e w4 ⟨rfl,hb4⟩;have hbw4:=qz (hbw.out.trans (hb4.mono (by omega)));have hbx4:=qz ((hb4.block _ hz).trans hbx.out);have hz4:w.heap.size<w4.heap.size:=(Array.getElem?_eq_some_iff.1 hbx4.out).1;have b4':w4.cell? ⟨w.heap.size,5,none⟩=some (.slice (some ⟨g,off,none⟩) l.length oc):=by rw[Lib.cell_of_heap hbx4.out];rfl
      obtain⟨la',lc',oa',oc',hvs,_,e1,e2,e3,e4,e5,e6⟩:=(HL.out _ hbw4.out).seven HXx.out;have hCT4:=qz (hCT.out _ hbw4.out _ _ _ _ _ _ la' oa' lc' oc' rfl hvs);clear hb4 hbw hbx b4 c0 hvs hCT HL HXx hCQ;go_wp2_with (fail);(with_reducible refine hCT4.out.mono ?_);rintro e w5 ⟨rfl,hb5⟩;have hbw5:=qz (hbw4.out.trans (hb5.mono (by omega)));have hbx5:=qz ((hb5.block _ hz4).trans hbx4.out);clear hb5 hbw4 hbx4 hCT4;go_wp2;go_roundw
      case rel=>exact⟨_,k+1,rfl,by go_num,by omega,hTd',hbw5,hbx5⟩
      case measure=>simp only[intOf];omega
  . obtain rfl:k=l.length:=by omega
    have hT':=hT.out;rw[List.take_length]at hT';have HE:Hid ((⟨(123::(Cx l true++ [125])).toArray⟩:ByteArray)=T++⟨#[125]⟩):=Wy (by rw[D9,hT'];simp);clear hT hT' hl;go_wp2;go_ret;exact⟨by rw[HE.out];rfl,hbw.out⟩
theorem Ys (k:Int) (b:Bool) (n:Int) (t:ByteArray) (l:List Val) (o:List (ByteArray×Val)) (la oa:Option Addr) (oc lc:Nat) (w:World) (h5:k≠5) (h6:k≠6) (hk:k=1\/k=2\/k=3\/k=4) (hs:t.size<=1000000000) (hv:A4 t=true)
 (h1: -9223372036854775808<=n) (h2:n<=9223372036854775807):
 Calls Tryz.prog 55 #[.agg #[.int .i64 k,.bool b,.int .i64 n,.string t,.slice la l.length lc,.slice oa o.length oc]] w fun e w'=>e=.returned (.string ⟨(Cg (.mk k b n t l o)).toArray⟩)/\Below w.heap.size w w':=by
 simp only[Cg];rcases hk with rfl|rfl|rfl|rfl
 . rw[if_neg (by decide),if_neg (by decide),if_neg (by decide),if_neg (by decide),if_neg (by decide)];go_enter Tryz.func55,Tryz.ntmps55;go_wp2;go_ret;exact⟨rfl,(Below.refl _ _).alloc (Nat.le_refl _) _⟩
 . rw[if_pos rfl]
   cases b
   . go_enter Tryz.func55,Tryz.ntmps55;go_wp2;go_ret;exact⟨rfl,(Below.refl _ _).alloc (Nat.le_refl _) _⟩
   . go_enter Tryz.func55,Tryz.ntmps55;go_wp2;go_ret;exact⟨rfl,(Below.refl _ _).alloc (Nat.le_refl _) _⟩
 . rw[if_neg (by decide),if_pos rfl];have HD:=qz (fun w=>qz (Ut n h1 h2 w));go_enter Tryz.func55,Tryz.ntmps55;go_wp2_with (fail);(with_reducible refine(HD.out _).out.mono ?_);rintro e w' ⟨rfl,rfl⟩;go_wp2;go_ret;exact⟨rfl,(Below.refl _ _).alloc (Nat.le_refl _) _⟩
 . rw[if_neg (by decide),if_neg (by decide),if_pos rfl];have HD:=qz (fun w=>qz (Nk t w hs hv));go_enter Tryz.func55,Tryz.ntmps55;go_wp2_with (fail);(with_reducible refine(HD.out _).out.mono ?_);rintro e w' ⟨rfl,hb⟩;go_wp2;go_ret;exact⟨rfl,((Below.refl _ _).alloc (Nat.le_refl _) _).trans (hb.mono (by simp))⟩
theorem Yr: ∀v,Zk v:=by
 refine Val.ind ?_;intro k b n t l o IHl IHo cs w d hV hb hm hi;have hok:=Aau _ d hm hi;have hlen:=J1 _ hok;obtain⟨hodd,_,hvt,hmL,hmO⟩:=Kj hm;simp only[Ab]at hV;obtain⟨la,lc,oa,oc,rfl,hla,hoa⟩:=hV;simp only[M4]at hi;simp only[Val.bulk]at hb hlen;by_cases h5:k=5
 . subst h5;have ho:o= []:=by
    have:o.length=0:=by
     unfold Fg at hodd;simp at hodd;simp[hodd]
    exact List.length_eq_zero_iff.1 this
   subst ho;have ht:Cg (.mk 5 b n t l [])=91::(Cw l true++ [93]):=by simp[Cg]
   rw[ht]at hlen ⊢;simp only[List.length_cons,List.length_append,List.length_nil]at hlen;exact Aa3 b n t l IHl la oa oc lc w (d+1) hla (by omega) hmL hi.2.1 (by omega)
 by_cases h6:k=6
 . subst h6;have hl:l= []:=by
    have:l.length=0:=by
     unfold Fg at hodd;simp at hodd;simp[hodd]
    exact List.length_eq_zero_iff.1 this
   subst hl;have ht:Cg (.mk 6 b n t [] o)=123::(Cx o true++ [125]):=by simp[Cg]
   rw[ht]at hlen ⊢;simp only[List.length_cons,List.length_append,List.length_nil]at hlen;exact Adi b n t o IHo la oa oc lc w (d+1) hoa (by omega) none hmO hi.2.2 (by omega)
 have hk:k=1\/k=2\/k=3\/k=4:=by
  unfold Fg at hodd;by_cases a1:k=1
  . exact .inl a1
  by_cases a2:k=2
  . exact .inr (.inl a2)
  by_cases a3:k=3
  . exact .inr (.inr (.inl a3))
  by_cases a4:k=4
  . exact .inr (.inr (.inr a4))
  simp[a1,a2,a3,a4,h5,h6]at hodd
 exact Ys k b n t l o la oa oc lc w h5 h6 hk (by omega) hvt hi.1.1 hi.1.2
theorem Ab.len6 {w:World} {B:Nat} {v:Val} {cs:List Value} (h:Ab w B v cs):cs.length=6:=by
 obtain⟨k,b,n,t,l,o⟩:=v;simp only[Ab]at h;obtain⟨la,lc,oa,oc,rfl,_⟩:=h;rfl
theorem R4 {w:World} {g off:Nat} {cs cs':List Value} (hl:cs.length=cs'.length) (h: ∀j u,cs[j]? =some u->w.cell? ⟨g,off+j,none⟩=some u) (h': ∀j u,cs'[j]? =some u->w.cell? ⟨g,off+j,none⟩=some u):cs=cs':=by
 refine List.ext_getElem hl fun j h1 h2=> ?_;have e1:=h j _ (List.getElem?_eq_getElem h1);have e2:=h' j _ (List.getElem?_eq_getElem h2);rw[e1]at e2;exact Option.some.inj e2
theorem Aj.inj {w:World} {B B':Nat}: ∀{l l':List Val},(∀v ∈ l,∀cs v',Ab w B v cs->Ab w B' v' cs->v=v')->l.length=l'.length-> ∀{g off},Aj w B l g off->Aj w B' l' g off->l=l'
 | [], [],_,_,_,_,_,_=>rfl
 | [],_::_,_,hl,_,_,_,_=>by simp at hl
 |_::_, [],_,hl,_,_,_,_=>by simp at hl
 |v::r,v'::r',ih,hl,g,off,h,h'=>by
  simp only[Aj]at h h';obtain⟨⟨cs,h1,hc⟩,h2⟩:=h;obtain⟨⟨cs',h1',hc'⟩,h2'⟩:=h';have e:cs=cs':=R4 (by rw[h1.len6,h1'.len6]) hc hc';subst e;rw[ih v (by simp) cs v' h1 h1',Aj.inj (fun x hx=>ih x (by simp[hx])) (by simpa using hl) h2 h2']
theorem Ak.inj {w:World} {B B':Nat}: ∀{l l':List (ByteArray×Val)},(∀m ∈ l,∀cs v',Ab w B m.2 cs->Ab w B' v' cs->m.2=v')->l.length=l'.length-> ∀{g off},Ak w B l g off->Ak w B' l' g off->l=l'
 | [], [],_,_,_,_,_,_=>rfl
 | [],_::_,_,hl,_,_,_,_=>by simp at hl
 |_::_, [],_,hl,_,_,_,_=>by simp at hl
 |(key,v)::r,(key',v')::r',ih,hl,g,off,h,h'=>by
  simp only[Ak,J5]at h h';obtain⟨⟨h0,cs,h1,hc⟩,h2⟩:=h;obtain⟨⟨h0',cs',h1',hc'⟩,h2'⟩:=h';have e:cs=cs':=R4 (by rw[h1.len6,h1'.len6]) hc hc';subst e;rw[h0]at h0';simp only[Option.some.injEq,Value.string.injEq]at h0';have e1:v=v':=ih (key,v) (by simp) cs v' h1 h1';rw[e1,h0',Ak.inj (fun x hx=>ih x (by simp[hx])) (by simpa using hl) h2 h2']
theorem Ab.inj {w:World} {B B':Nat}: ∀(v:Val) (cs:List Value) (v':Val),Ab w B v cs->Ab w B' v' cs->v=v':=by
 refine Val.ind ?_;intro k b n t l o hl ho cs v' h h';obtain⟨k',b',n',t',l',o'⟩:=v';simp only[Ab]at h h';obtain⟨la,lc,oa,oc,rfl,h1,h2⟩:=h;obtain⟨la',lc',oa',oc',e,h1',h2'⟩:=h';simp only[Dk,List.cons.injEq,Value.int.injEq,Value.bool.injEq,Value.string.injEq,Value.slice.injEq,true_and,and_true]at e;obtain⟨rfl,rfl,rfl,rfl,⟨rfl,el,rfl⟩,⟨rfl,eo,rfl⟩⟩:=e;have e1:l=l':=by
  rcases h1 with rfl|⟨g,off,ea,_,h1⟩
  . exact(List.eq_nil_of_length_eq_zero (by simpa using el.symm)).symm
  . rcases h1' with rfl|⟨g',off',ea',_,h1'⟩
    . exact List.eq_nil_of_length_eq_zero (by simpa using el)
    . rw[ea]at ea'
      cases ea'
      exact Aj.inj hl el h1 h1'
 have e2:o=o':=by
  rcases h2 with rfl|⟨g,off,ea,_,h2⟩
  . exact(List.eq_nil_of_length_eq_zero (by simpa using eo.symm)).symm
  . rcases h2' with rfl|⟨g',off',ea',_,h2'⟩
    . exact List.eq_nil_of_length_eq_zero (by simpa using eo)
    . rw[ea]at ea'
      cases ea'
      exact Ak.inj ho eo h2 h2'
 rw[e1,e2]
theorem Af8 {w:World} {B B':Nat} {l l':List Ax} {a:Option Addr} {n c:Nat} (h:Ae w B (.row 7 (dO l)) [.slice a n c]) (h':Ae w B' (.row 7 (dO l')) [.slice a n c]):l=l':=by
 have e1:=h.row_len;have e2:=h'.row_len;rw[At]at e1 e2;obtain⟨a1,c1,e,_,ns,h1,h2⟩:=h;obtain⟨a2,c2,e',_,ns',h1',h2'⟩:=h';simp only[List.cons.injEq,Value.slice.injEq,and_true]at e e';obtain⟨rfl,_,rfl⟩:=e;obtain⟨rfl,_,rfl⟩:=e';have key:l≠ []->l=l':=fun hne=>by
  rcases h2 with h2|⟨g,off,ea,_,hc⟩
  . cases l with
    |nil=>exact absurd rfl hne
    |cons x r=>simp[dO]at h2
  rcases h2' with h2'|⟨g',off',ea',_,hc'⟩
  . cases l' with
    |nil=>exact List.eq_nil_of_length_eq_zero (by simpa using(e1.symm.trans e2))
    |cons x r=>simp[dO]at h2'
  rw[ea]at ea'
  cases ea'
  exact Ak.inj (fun m _ cs v' hv hv'=>Ab.inj m.2 cs v' hv hv') (by omega) (Af.toO (fun m _ cs=>Bp m.2 cs) h1 hc) (Af.toO (fun m _ cs=>Bp m.2 cs) h1' hc')
 by_cases hne:l= []
 . subst hne;exact(List.eq_nil_of_length_eq_zero (by simpa using(e2.symm.trans e1))).symm
 . exact key hne
theorem Af7 {w:World} {B B':Nat} {l l':List Nat} {a:Option Addr} {n c:Nat} (h:Ae w B (.row 1 (Ar l)) [.slice a n c]) (h':Ae w B' (.row 1 (Ar l')) [.slice a n c]):l=l':=by
 have e1:=h.row_len;have e2:=h'.row_len;rw[Av]at e1 e2;refine List.ext_getElem (by omega) fun i h1 h2=> ?_;obtain⟨g,off,ea,_,cs,k1,_,k3⟩:=h.at_ (i:=i) (d:=Se l[i]) (by simp[Ar,h1]);obtain⟨g',off',ea',_,cs',k1',_,k3'⟩:=h'.at_ (i:=i) (d:=Se l'[i]) (by simp[Ar,h2]);rw[ea]at ea'
 cases ea'
 obtain⟨rfl,_⟩:=k1;obtain⟨rfl,_⟩:=k1';have q1:=k3 0 _ rfl;have q2:=k3' 0 _ rfl;rw[q1]at q2;simpa using q2
theorem Ay.inj {w:World} {B B':Nat}: ∀{ks ks':List Nd},(∀k ∈ ks,∀b k',By w B k b->By w B' k' b->k=k')-> ∀{bs},Ay w B ks bs->Ay w B' ks' bs->ks=ks'
 | [], [],_,_,_,_=>rfl
 | [],k::r,_,bs,h,h'=>by
   simp only[Ay]at h h';obtain⟨b,t,e,_⟩:=h';rw[h]at e;cases e
 |k::r, [],_,bs,h,h'=>by
  simp only[Ay]at h h';obtain⟨b,t,e,_⟩:=h;rw[h']at e;cases e
 |k::r,k'::r',ih,bs,h,h'=>by
  simp only[Ay]at h h';obtain⟨b,t,rfl,h1,h2⟩:=h;obtain⟨b',t',e,h1',h2'⟩:=h'
  cases e
  rw[ih k (by simp) b k' h1 h1',Ay.inj (fun x hx=>ih x (by simp[hx])) h2 h2']
theorem By.inj {w:World} {B B':Nat}: ∀(n:Nd) (b:Nat) (n':Nd),By w B n b->By w B' n' b->n=n':=by
 refine Nd.ind ?_ ?_
 . intro es b n' h h'
   cases n' with
   |leaf es'=>
    simp only[By]at h h';obtain⟨_,a,c,h1,h2⟩:=h;obtain⟨_,a',c',h1',h2'⟩:=h';have e:=h2.symm.trans h2';simp only[Option.some.injEq,Obj.cells.injEq,Array.mk.injEq,List.cons.injEq,Value.slice.injEq,true_and,and_true]at e;obtain⟨⟨rfl,e1,rfl⟩,_⟩:=e;rw[e1]at h1;rw[Af8 h1 h1']
   |inner ks'=>
    simp only[By]at h h';obtain⟨_,a,c,h1,h2⟩:=h;obtain⟨_,bs,a',c',h1',h2',_⟩:=h';have e:=h2.symm.trans h2';simp only[Option.some.injEq,Obj.cells.injEq,Array.mk.injEq,List.cons.injEq,Value.int.injEq,true_and,I8]at e;omega
 . intro ks ih b n' h h'
   cases n' with
   |leaf es'=>
    simp only[By]at h h';obtain⟨_,bs,a,c,h1,h2,_⟩:=h;obtain⟨_,a',c',h1',h2'⟩:=h';have e:=h2.symm.trans h2';simp only[Option.some.injEq,Obj.cells.injEq,Array.mk.injEq,List.cons.injEq,Value.int.injEq,true_and,I8]at e;omega
   |inner ks'=>
    simp only[By]at h h';obtain⟨_,bs,a,c,h1,h2,h3⟩:=h;obtain⟨_,bs',a',c',h1',h2',h3'⟩:=h';have e:=h2.symm.trans h2';simp only[Option.some.injEq,Obj.cells.injEq,Array.mk.injEq,List.cons.injEq,Value.slice.injEq,true_and,and_true]at e;obtain⟨⟨rfl,e1,rfl⟩,_⟩:=e;rw[e1]at h1;have eb:=Af7 h1 h1';subst eb;rw[Ay.inj (fun k hk b k' hb hb'=>ih k hk b k' hb hb') h3 h3']
theorem Abh (k:Int) (b:Bool) (n:Int) (t:ByteArray) (la oa:Option Addr) (ln lc on oc:Nat) (B:Bool) (w:World) (h:Jk k b n t ln on=B):
 Calls Tryz.prog 103 #[.agg #[.int .i64 k,.bool b,.int .i64 n,.string t,.slice la ln lc,.slice oa on oc]] w fun e w'=>e=.returned (.bool B)/\Below w.heap.size w w':=by
 have Fin:Hid (∀X:Bool,X=Jk k b n t ln on->Ending.returned (.bool X)=.returned (.bool B)):=fun X hX=>by rw[hX,h]
 clear h;go_enter Tryz.func103,Tryz.ntmps103;go_wp2
 all_goals(go_ret;refine⟨Fin.out _ ?_,Aa _ _⟩;simp_all[Jk,Aed])
theorem Sg (k k':Int) (s s':ByteArray) (a0 a1 a2 a3 a4 a5 b0 b1 b2 b3 b4 b5:Value) (B:Bool) (w:World) (h:(decide (k'≠3)&&(decide (k=3)||Op.bytesLess s.toList s'.toList))=B):
 Calls Tryz.prog 62 #[.agg #[.int .i64 k,.string s,a0,a1,a2,a3,a4,a5],.agg #[.int .i64 k',.string s',b0,b1,b2,b3,b4,b5]] w fun e w'=>e=.returned (.bool B)/\Below w.heap.size w w':=by
 have Fin:Hid (∀X:Bool,X=(decide (k'≠3)&&(decide (k=3)||Op.bytesLess s.toList s'.toList))->Ending.returned (.bool X)=.returned (.bool B)):=fun X hX=>by rw[hX,h]
 clear h;go_enter Tryz.func62,Tryz.ntmps62;go_wp2
 all_goals(go_ret;refine⟨Fin.out _ ?_,(Aa _ _).alloc (by simp) _⟩;first|(simp_all;done)|(simp only[Agt,Ags]))
theorem Sz (k:Int) (s:ByteArray) (k':Int) (b:Bool) (n:Int) (t:ByteArray) (la oa:Option Addr) (ln lc on oc:Nat) (B:Bool) (w:World)
 (h:(if k=1 then false else if k=2 then !Jk k' b n t ln on else if k=3 then !s.toList.isEmpty|| !Jk k' b n t ln on else true)=B):
 Calls Tryz.prog 61 #[.agg #[.int .i64 k,.string s,.int .i64 k',.bool b,.int .i64 n,.string t,.slice la ln lc,.slice oa on oc]] w fun e w'=>e=.returned (.bool B)/\Below w.heap.size w w':=by
 obtain⟨Z,hZ⟩: ∃Z,Jk k' b n t ln on=Z:=⟨_,rfl⟩;rw[hZ]at h;have Fin:Hid (∀X:Bool,X=(if k=1 then false else if k=2 then !Z else if k=3 then !s.toList.isEmpty|| !Z else true)->Ending.returned (.bool X)=.returned (.bool B)):=fun X hX=>by rw[hX,h]
 have Hcz:=qz (fun W=>Abh k' b n t la oa ln lc on oc Z W hZ);clear hZ h;go_enter Tryz.func61,Tryz.ntmps61;go_wp2_with (go_at_call 103;refine(Hcz.out _).mono ?_;rintro e w1 ⟨rfl,hb1⟩)
 all_goals first
  |(go_ret;refine⟨Fin.out _ ?_,Aa _ _⟩;(by_cases e1:k=1<;>by_cases e2:k=2<;>by_cases e3:k=3<;>cases Z<;>simp_all))
  |(go_ret;refine⟨Fin.out _ ?_,(Aa _ _).trans (hb1.mono (by simp))⟩;(by_cases e1:k=1<;>by_cases e2:k=2<;>by_cases e3:k=3<;>cases Z<;>simp_all))
theorem E9 (s:ByteArray) (w:World):Calls Tryz.prog 173 #[.string s] w fun e w'=>e=.returned (.agg #[.int .i64 4,.bool false,.int .i64 0,.string s,.slice none 0 0,.slice none 0 0])/\Below w.heap.size w w':=by
 go_enter Tryz.func173,Tryz.ntmps173;go_wp2;exact bodyPost_ret (v:=.agg #[.int .i64 4,.bool false,.int .i64 0,.string s,.slice none 0 0,.slice none 0 0]) (by simp[results,Tryz.results173,go_sem]) rfl ⟨rfl,(Below.refl _ _).alloc (Nat.le_refl _) _⟩
theorem Z4 (S0:Nat->Prop) (b g n c i M:Nat) (l:List D) (w:World) (h:Al S0 b 25 1 w l (.slice (some ⟨g,0,none⟩) n c)) (hl:l.length=M+1) (hi:i<=M) (hM:M<=1000):
 Calls Tryz.prog 165 #[.slice (some ⟨g,0,none⟩) n c,.int .i64 i,.int .i64 ((i:Int)+1)] w fun e w'=>e=.returned (.slice (some ⟨g,0,none⟩) M c)/\Al S0 b 25 1 w' (l.take i++l.drop (i+1)) (.slice (some ⟨g,0,none⟩) M c)/\KB (fun k=>k=g) w w':=by
 obtain⟨PO,hPO⟩: ∃P:Ending->World->Prop,(fun e w'=>e=.returned (.slice (some ⟨g,0,none⟩) M c)/\Al S0 b 25 1 w' (l.take i++l.drop (i+1)) (.slice (some ⟨g,0,none⟩) M c)/\KB (fun k=>k=g) w w')=P:=⟨_,rfl⟩;rw[hPO];obtain⟨i0,hi0,hz0,hzs,hzb⟩:=info_parts Abu;have hdw:Below w.heap.size w w.drew:=Below.drew (Below.refl _ w);obtain⟨cur,news,rfl,hnc,hcm,hcs,hg,k1,k2,k3,k4,k5,k6⟩:=(h.below hdw).del (i:=i) (j:=i+1) (by omega) (by omega) (z:= [.pointer none]) (by rw[show i+1 - i=1 from by omega];rfl);rw[hl]at hnc k1 k4 k5 k6 ⊢;have em:i+(M+1 - (i+1))=M:=by omega
 have em2:M+1 - (i+1)=M - i:=by omega
 rw[em2]at k1;rw[em]at k6;obtain⟨W1,hW1⟩: ∃W,A8 w.drew g (i) news=W:=⟨_,rfl⟩;simp only[Nat.mul_one]at k1 k2 k4 k5 k6;rw[hW1]at k5 k6;have hc63:c<=9223372036854775807:=by simp only[maxLen]at hcm;omega
 have hst:=run_storeCells_cells (P:=Tryz.prog) g (M) [.pointer none] 0 W1 (fun j hj=>by rw[Nat.add_zero];exact(k5 (M+j) (by simp only[List.length_cons,List.length_nil]at hj;omega)).1) (fun j hj=>by rw[Nat.add_zero];exact(k5 (M+j) (by simp only[List.length_cons,List.length_nil]at hj;omega)).2) (by simp[Value.oneCell']);simp only[Nat.add_zero]at hst;have hzc:(Builtin.zeroCells (.pointer none:Value).cells 1).toList= [.pointer none]:=by kernel_rfl
 have hcl: ∀ty cc,(Builtin.clear_ #[111] ty #[.slice (some ⟨g,M,none⟩) 1 cc]).run Tryz.prog W1=.ok (.tuple #[]) (W1.setCells g (M) [.pointer none]):=fun ty cc=>by
  simp[Builtin.clear_,run_underlying Tryz.underlying111,hzc,hst]
 have HP:Hid (PO (.returned (.slice (some ⟨g,0,none⟩) M c)) (W1.setCells g (M) [.pointer none])):=by
  show PO _ _;rw[<-hPO,E6];refine⟨rfl,k6, ?_⟩;rw[<-hW1];exact((KB.of_below hdw).trans ((KB.many (S:=fun k=>k=g) w.drew g (i) rfl news).trans (KB.many (S:=fun k=>k=g) _ g (M) rfl [.pointer none]) fun _ _ h=>h) fun _ _ h=>h)
 have hs:Hid (∀j,j<news.length->(w.drew.cell? ⟨g,0+i*1+j,none⟩).isSome=true/\w.drew.frozen? ⟨g,0+i*1+j,none⟩=false):=fun j hj=>by
  rw[Nat.zero_add,Nat.mul_one];exact k4 _ (by omega)
 obtain⟨A,hA,hsrc⟩: ∃A:Addr,(if c=i+1 then some (⟨g,0,none⟩:Addr)else some ⟨g,(i+1),none⟩)=some A/\Hid (∀j u,news[j]? =some u->w.drew.cell? (A.add j)=some u):=by
  by_cases h:c=i+1
  . refine⟨⟨g,0,none⟩,by rw[if_pos h],fun j u hu=> ?_⟩;have:=(List.getElem?_eq_some_iff.1 hu).1;omega
  . exact⟨⟨g,(i+1),none⟩,by rw[if_neg h],fun j u hu=>by rw[A9];exact k2 j u hu⟩
 have hW1':w.drew.setCells g (0+i*1) news=W1:=by rw[E6,Nat.zero_add,Nat.mul_one];exact hW1
 have y1:((M+1:Nat):Int)=(M:Int)+1:=by omega
 have y2:(i:Int)<=(M:Int):=by omega
 have y3: ¬c=M:=by omega
 have y4:M+1 - M=1:=by omega
 have y5:i<=c:=by omega
 have y6:i+1<=c:=by omega
 have y7:M+1<=c:=by omega
 have y8:i<=M+1:=by omega
 have y9: ¬((i:Int)=(i:Int)+1):=by omega
 have y10:(0:Int)<=(i:Int)+1:=by omega
 obtain⟨K1,K3,Hi0,Hzs,HW1',HPO⟩:=hid6 k1 k3 hi0 hzs hW1' hPO;clear k1 k3 hi0 hzs hW1' hPO;clear h k2 k4 k5 k6 hcm hcs hg hz0 hzb hst hzc hdw hW1;go_enter Tryz.func165,Tryz.ntmps165;go_upto_region 5 with(fail);refine wp_region_held_drew (S:=fun _=>True) (by kernel_rfl) trivial (fun hHeld=> ?_);refine tkH 0 hHeld ?_;refine tkH 1 hHeld ?_;refine tkH 2 hHeld ?_;refine tkH 3 hHeld ?_;refine tkH 4 hHeld ?_;refine tkH 5 hHeld ?_;refine C4 6 fun K hK=> ?_;refine step_append_room rfl (.tmp 22) (.tmp 25) 111 rfl 25 i0 1 Tryz.underlying111 Hi0.out Hzs.out g 0 i c (by simp[Act.eval]) A (M - i) (c - (i+1)) news (by simp[Act.eval]) (by rw[Nat.mul_one];exact K1.out) hsrc.out K3.out (by omega) hs.out ?_;rw[HW1'.out];refine hK.out _ _ trivial (fun hHeld=> ?_);clear hK K
 try simp only[Act.put,tk1,tk2,tk3,tk4,tk5,tk6]
 refine tkH 7 hHeld ?_;refine wpAnyH_done (by kernel_rfl) ?_ _;clear hHeld;go_wp2;exact HP.out
end Go.Proofs.YtnkmhaachfgaoaaGreatDoor
