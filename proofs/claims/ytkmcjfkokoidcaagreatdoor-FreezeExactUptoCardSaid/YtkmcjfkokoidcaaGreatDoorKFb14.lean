/- Parts: utf.Runes: the iterator over a text's runes and their places, by rounds that may end it. Condition: a text shorter than 10^9. -/
import Derived.Shelf.Spec.SlicesInsertGrow
import Derived.Test.YtkmcjfkokoidcaaGreatDoorKFb10
import Derived.Test.YtkmcjfkokoidcaaGreatDoorKFb11
import Derived.Test.YtkmcjfkokoidcaaGreatDoorKFb12
import Derived.Test.YtkmcjfkokoidcaaGreatDoorKFb13
set_option maxHeartbeats 20000000
set_option maxRecDepth 100000
namespace Go.Proofs.YtkmcjfkokoidcaaGreatDoor
open Go Go.RowKit
theorem Bz.blk {w:World} {B:Nat} {n:Nd} {b:Nat} (h:Bz w B n b): ∃ea en ec ka kn kc,Aj w b Y4 #[.slice ea en ec,.slice ka kn kc,.int .i64 (Rk n),.int .i64 (Cw n).length,.string (Av n),.string (Dw n),.bool false]/\en+kn=E5 n:=by
 cases n with
 |leaf es=>
  simp only[Bz]at h;obtain⟨_,a,c,_,hx⟩:=h;exact⟨a,es.length,c,none,0,0,by simpa[Rk,Cw]using hx,by simp[E5]⟩
 |inner ks=>
  simp only[Bz]at h;obtain⟨_,bs,a,c,_,hx,_⟩:=h;exact⟨none,0,0,a,ks.length,c,by simpa[Cw]using hx,by simp[E5]⟩
theorem Fc {w:World} {B:Nat} {n:Nd} {b:Nat} (h:Bz w B n b):Calls Tryz.prog 96 #[.pointer (some ⟨b,0,none⟩)] w fun e w'=>e=.returned (.int .i64 (Rk n))/\w=w':=by
 obtain⟨ea,en,ec,ka,kn,kc,hx,_⟩:=h.blk;have c2:=hx.cell 2;have hl:=hx.lt;clear hx h;go_enter Tryz.func96,Tryz.ntmps96;go_wp2;go_ret;exact⟨rfl,rfl⟩
theorem Pg (w:World):Calls Tryz.prog 96 #[.pointer none] w fun e w'=>e=.returned (.int .i64 0)/\w=w':=by
 go_enter Tryz.func96,Tryz.ntmps96;go_wp2;go_ret;exact⟨rfl,rfl⟩
theorem J3 {w:World} {B:Nat} {n:Nd} {b:Nat} (h:Bz w B n b):Calls Tryz.prog 58 #[.pointer (some ⟨b,0,none⟩)] w fun e w'=>e=.returned (.int .i64 (Cw n).length)/\w=w':=by
 obtain⟨ea,en,ec,ka,kn,kc,hx,_⟩:=h.blk;have c3:=hx.cell 3;have hl:=hx.lt;clear hx h;go_enter Tryz.func58,Tryz.ntmps58;go_wp2;go_ret;exact⟨rfl,rfl⟩
theorem Zz (w:World):Calls Tryz.prog 58 #[.pointer none] w fun e w'=>e=.returned (.int .i64 0)/\w=w':=by
 go_enter Tryz.func58,Tryz.ntmps58;go_wp2;go_ret;exact⟨rfl,rfl⟩
theorem Nm {w:World} {B:Nat} {n:Nd} {b:Nat} (h:Bz w B n b):Calls Tryz.prog 166 #[.pointer (some ⟨b,0,none⟩)] w fun e w'=>e=.returned (.string (Av n))/\w=w':=by
 obtain⟨ea,en,ec,ka,kn,kc,hx,_⟩:=h.blk;have c4:=hx.cell 4;have hl:=hx.lt;clear hx h;go_enter Tryz.func166,Tryz.ntmps166;go_wp2;go_ret;exact⟨rfl,rfl⟩
theorem Xp {w:World} {B:Nat} {n:Nd} {b:Nat} (h:Bz w B n b):Calls Tryz.prog 202 #[.pointer (some ⟨b,0,none⟩)] w fun e w'=>e=.returned (.string (Dw n))/\w=w':=by
 obtain⟨ea,en,ec,ka,kn,kc,hx,_⟩:=h.blk;have c5:=hx.cell 5;have hl:=hx.lt;clear hx h;go_enter Tryz.func202,Tryz.ntmps202;go_wp2;go_ret;exact⟨rfl,rfl⟩
theorem Kr {w:World} {B:Nat} {n:Nd} {b:Nat} (h:Bz w B n b) (hs:E5 n<=100):Calls Tryz.prog 106 #[.pointer (some ⟨b,0,none⟩)] w fun e w'=>e=.returned (.int .i64 (E5 n))/\Below w.heap.size w w':=by
 obtain⟨ea,en,ec,ka,kn,kc,hx,he⟩:=h.blk;have hSS:(fun Y:World=>Y.cell? ⟨b,0,none⟩=some (.slice ea en ec)/\Y.cell? ⟨b,1,none⟩=some (.slice ka kn kc)) w.drew:=⟨hx.cell 0,hx.cell 1⟩;have hb:=Below.drew (Below.refl w.heap.size w);have e1:((E5 n:Nat):Int)=(en:Int)+(kn:Int):=by omega
 have e2:IntKind.i64.wrap ((en:Int)+(kn:Int))=(en:Int)+(kn:Int):=IntWalk.i64_in _ (by omega);rw[e1];clear hx h e1 he hs;go_enter Tryz.func106,Tryz.ntmps106;go_upto_region 3 with(fail);refine wp_region_held_drew (S:=fun Y:World=>Y.cell? ⟨b,0,none⟩=some (.slice ea en ec)/\Y.cell? ⟨b,1,none⟩=some (.slice ka kn kc)) (by kernel_rfl) hSS (fun hHeld=> ?_);refine tkH 0 hHeld ?_;refine tkH 1 hHeld ?_;refine tkH 2 hHeld ?_;refine tkH 3 hHeld ?_;refine tkH 4 hHeld ?_;refine tkH 5 hHeld ?_;refine tkH 6 hHeld ?_;refine tkH 7 hHeld ?_;refine tkH 8 hHeld ?_;refine tkH 9 hHeld ?_;refine tkH 10 hHeld ?_;refine tkH 11 hHeld ?_;refine wpAnyH_done (by kernel_rfl) ?_ _;clear hHeld hSS;go_wp2;go_ret;exact⟨rfl,hb⟩
theorem U3 {w:World} {B:Nat} {n:Nd} {b:Nat} (h:Bz w B n b) (hs:E5 n<=100):Calls Tryz.prog 169 #[.pointer (some ⟨b,0,none⟩),.bool false] w fun e w'=>e=.returned (.bool (decide (4<=E5 n)))/\Below w.heap.size w w':=by
 have HZ:=qz (Kr h hs);obtain⟨ea,en,ec,ka,kn,kc,hx,he⟩:=h.blk;have c6:=hx.cell 6;have hl:=hx.lt;clear hx h;go_enter Tryz.func169,Tryz.ntmps169;go_wp2_with (fail);(with_reducible refine(HZ.out).mono ?_);rintro e w1 ⟨rfl,hb1⟩;go_wp2;go_ret;refine⟨?_,hb1⟩;show Ending.returned (.bool (decide ((4:Int)<=(E5 n:Nat))))=_;rw[show decide ((4:Int)<=(E5 n:Nat))=decide (4<=E5 n)from by rw[decide_eq_decide];omega]
def Fk:List UInt8:= [34,92,47,98,102,110,114,116]
theorem Sl: ∀j:Fin 8,j.val≠2->B6 ((Fz.getD j.val 0).toNat)= [92,Fk.getD j.val 0]:=by decide
def O0 (r:Nat) (j:Nat):Prop:= ∀i:Nat,i<j->i≠2->Fz.getD i 0≠(r:Int)
theorem O0.all {r:Nat} (h:O0 r 8):r≠34/\r≠92/\r≠8/\r≠12/\r≠10/\r≠13/\r≠9:=by
 have h0:=h 0 (by omega) (by omega);have h1:=h 1 (by omega) (by omega);have h3:=h 3 (by omega) (by omega);have h4:=h 4 (by omega) (by omega);have h5:=h 5 (by omega) (by omega);have h6:=h 6 (by omega) (by omega);have h7:=h 7 (by omega) (by omega);simp[Fz]at h0 h1 h3 h4 h5 h6 h7;omega
theorem U7 {r:Nat} (h:O0 r 8):B6 r=if r<32 then [92,117,48,48,Jw (r / 16),Jw (r % 16)]else Lib.encodeRune r:=by
 obtain⟨a1,a2,a3,a4,a5,a6,a7⟩:=h.all;unfold B6;by_cases h32:r<32
 . rw[if_neg (by omega),if_pos h32];have:Dc (r:Int) Bk=none:=by
    simp only[Bk,Dc]
    repeat rw[if_neg (by omega)]
   rw[this]
 . rw[if_pos (by omega),if_neg h32]
theorem O0.step {r j:Nat} (h:O0 r j) (hj:j=2\/Fz.getD j 0≠(r:Int)):O0 r (j+1):=by
 intro i hi h2;by_cases he:i=j
 . subst he;rcases hj with hj|hj
   . exact absurd hj h2
   . exact hj
 . exact h i (by omega) h2
def El (r:Nat):Prop:=r<=1114111/\ ¬(55296<=r/\r<57344)
theorem V9 (F:Option Int) (n:Nat) (least:Int):(C1 F n least).2=0\/((C1 F n least).1<=1114111/\ ¬(55296<=(C1 F n least).1/\(C1 F n least).1<57344)):=by
 unfold C1
 split
 . simp
 . split
   . simp
   . rename_i h
     right
     simp only;omega
theorem Jr (rest:List UInt8) (n:Nat) (r0 least:Int):(Bt rest n r0 least).2=0\/((Bt rest n r0 least).1<=1114111/\ ¬(55296<=(Bt rest n r0 least).1/\(Bt rest n r0 least).1<57344)):=by
 unfold Bt
 split
 . exact .inl rfl
 . exact V9 _ _ _
theorem M0 (l:List UInt8):(Fg l).2=0\/((Fg l).1<=1114111/\ ¬(55296<=(Fg l).1/\(Fg l).1<57344)):=by
 cases l with
 |nil=>exact .inl rfl
 |cons c rest=>
  rw[Fq];by_cases h1:(c.toNat:Int)<128
  . rw[if_pos h1]
    right
    simp only;omega
  rw[if_neg h1]
  split
  . exact Jr _ _ _ _
  split
  . exact Jr _ _ _ _
  split
  . exact Jr _ _ _ _
  . exact .inl rfl
theorem Gf: ∀(n:Nat) (l:List UInt8) (p:Nat),∀x ∈ As n l p,El x.2
 |0,_,_,x,hx=>by simp[As]at hx
 |n+1,l,p,x,hx=>by
  by_cases h:l= []
  . subst h;simp[As]at hx
  . rcases Ku h n p with⟨_,e⟩|⟨m,r,hn,h1,_,e⟩
    . rw[e]at hx
      cases hx
    . rw[e]at hx;rcases List.mem_cons.1 hx with rfl|hx
      . have:=M0 l;rw[hn]at this;unfold El;simp only at this ⊢;omega
      . exact Gf n _ _ x hx
theorem Abm (d:Nat) (hd:d<16) (w:World):(Instr.slice 9 (.string ⟨#[48,49,50,51,52,53,54,55,56,57,97,98,99,100,101,102]⟩) (some (.int .i64 d)) (some (.int .i64 ((d:Int)+1))) none).run Tryz.prog w=.ok (.string ⟨#[Jw d]⟩) w:=by
 have:=Vg ⟨#[48,49,50,51,52,53,54,55,56,57,97,98,99,100,101,102]⟩ d (d+1) (by omega) (by show d+1<=16;omega) w;have e: ∀d:Fin 16,(⟨#[48,49,50,51,52,53,54,55,56,57,97,98,99,100,101,102]⟩:ByteArray).extract d.val (d.val+1)=⟨#[Jw d.val]⟩:=by decide
 rw[e ⟨d,hd⟩]at this;exact this
theorem Agh (d:Nat) (hd:d<8) (w:World):(Instr.slice 9 (.string ⟨#[34,92,47,98,102,110,114,116]⟩) (some (.int .i64 d)) (some (.int .i64 ((d:Int)+1))) none).run Tryz.prog w=.ok (.string ⟨#[Fk.getD d 0]⟩) w:=by
 have:=Vg ⟨#[34,92,47,98,102,110,114,116]⟩ d (d+1) (by omega) (by show d+1<=8;omega) w;have e: ∀d:Fin 8,(⟨#[34,92,47,98,102,110,114,116]⟩:ByteArray).extract d.val (d.val+1)=⟨#[Fk.getD d.val 0]⟩:=by decide
 rw[e ⟨d,hd⟩]at this;exact this
theorem Qa (r:Int):(Lib.encodeRune r).length<=4:=by
 unfold Lib.encodeRune Lib.encodeRuneZ
 repeat' split
 all_goals simp
theorem Mx (s:ByteArray) (w:World) (hs:s.size<=1000000000) (hv:A8 s=true):
 Calls Tryz.prog 82 #[.string s] w fun e w'=>e=.returned (.tuple #[.string ⟨(Dd s).toArray⟩,.int .i64 0])/\Below w.heap.size w w':=by
 have cV:=My s w hs;rw[hv]at cV;have HR:=qz (T8 s w hs);have hlr:(Cf s).length<=s.size:=Fd _ _ _;have HS:Hid (∀x ∈ Cf s,El x.2):=Gf _ _ _;unfold Dd;generalize Cf s=L at*
 have HV:=qz cV;clear cV hv;go_enter Tryz.func82,Tryz.ntmps82;go_wp2_with (fail);(with_reducible refine HV.out.mono ?_);rintro e w' ⟨rfl,rfl⟩;clear HV;go_wp2_with (fail);(with_reducible refine HR.out.mono ?_);rintro e w1 ⟨⟨v1,v2,rfl,hown⟩,hb1⟩;clear HR;obtain⟨la,lc,rfl,hcells⟩: ∃la lc,v1=.slice la L.length lc/\Hid (∀(k:Nat) (x:Nat×Nat),L[k]? =some x-> ∃g off,la=some ⟨g,off,none⟩/\g<w1.heap.size/\w1.cell? ⟨g,off+k,none⟩=some (.int .i64 x.2)):=by
  rcases hown.2 with⟨hv,hz⟩|⟨g,cap,cur,rfl,hbg,hg,hnc,hcm,hcs,htake⟩
  . have hL:L= []:=List.length_eq_zero_iff.1 hz;subst hL;exact⟨none,0,hv,fun k x hx=>by simp at hx⟩
  . refine⟨some ⟨g,0,none⟩,cap,rfl,fun k x hx=>⟨g,0,rfl,(Array.getElem?_eq_some_iff.1 hg).1, ?_⟩⟩;have:=hown.cells (g:=g) rfl k (.int .i64 x.2) (by simp[hx]);rw[Go.WideShapes.add_plain,Nat.zero_add]at this;rw[Nat.zero_add];exact this
 have hb1':=qz hb1;have H0:Hid ((⟨#[34]⟩:ByteArray).data.toList=34::Ap (L.take 0)):=by show _=_;simp[Ap]
 clear hown hb1;go_wp2_with (fail);go_loopw [4,8] (fun o i wr=> ∃(T:ByteArray) (k:Nat),o=.string T/\i=.int .i64 k/\k<=L.length/\Hid (T.data.toList=34::Ap (L.take k))/\Hid (Below w1.heap.size w1 wr)) (fun _ i _=>L.length - (intOf i).toNat)
 case atStart=>exact⟨_,0,rfl,rfl,Nat.zero_le _,H0,Below.refl _ _⟩
 case round=>
  obtain⟨T,k,rfl,rfl,hk,hT,hbw⟩:=hrel;clear H0;obtain⟨wo,rfl⟩: ∃wo:World,wo=wr:=⟨_,rfl⟩;have hTs:T.size<=6*L.length+1:=by
   have h1:=congrArg List.length hT.out;have h2:=F4 (L.take k);have h3:(L.take k).length<=L.length:=by rw[List.length_take];omega
   have h4:T.data.toList.length=T.size:=by rw[Array.length_toList];rfl
   simp only[List.length_cons]at h1;omega
  by_cases hlt:k<L.length
  . obtain⟨⟨p,r⟩,hx⟩: ∃v,L[k]? =some v:=⟨_,List.getElem?_eq_getElem hlt⟩;obtain⟨g,off,rfl,hg,hc0⟩:=hcells.out k _ hx;have hc:wo.cell? ⟨g,off+k,none⟩=some (.int .i64 r):=(hbw.out.cell (p:=⟨g,off+k,none⟩) hg).trans hc0;have hsc:=HS.out _ (List.mem_of_getElem? hx);unfold El at hsc;simp only at hsc;obtain⟨hsc1,hsc2⟩:=hsc;have htk:L.take (k+1)=L.take k++ [(p,r)]:=by rw[List.take_add_one,hx];rfl
    have hsn:Hid (34::Ap (L.take (k+1))=T.data.toList++B6 r):=by
     show _=_;rw[htk,hT.out];simp[Ap]
    have Hsc:=qz hsc2;have hB0:Hid (Below w1.heap.size w1 wo):=hbw;have hN0:Hid (O0 r 0):=fun i hi=>by omega
    clear hT htk hx hc0 hsc2 hbw;go_wp2_with (fail);go_loopw [10] (fun j wr=> ∃n:Nat,j=.int .i64 n/\n<=8/\Hid (O0 r n)/\Hid (Below w1.heap.size w1 wr)) (fun j _=>8 - (intOf j).toNat)
    case atStart=>exact⟨0,rfl,by omega,hN0,hB0⟩
    case round=>
     obtain⟨n,rfl,hn,hno,hbw⟩:=hrel;clear hN0 hB0;rcases(by omega:n=2\/(n≠2/\n<8)\/n=8)with rfl|⟨hn2,hn8⟩|rfl
     . have hno':=qz (hno.out.step (.inl rfl));clear hno hsn hc;go_wp2_with (fail);go_roundw
       case rel=>exact⟨2+1,rfl,by omega,hno',hbw⟩
       case measure=>simp[intOf]
     . obtain⟨c,hcc⟩: ∃c,Fz[n]? =some c:=⟨_,List.getElem?_eq_getElem hn8⟩;have hcd:Fz.getD n 0=c:=by simp[List.getD,hcc]
       have cC:=qz (O1 n c hcc wr);have hn2':((n:Int)==2)=false:=by simp;omega
       by_cases hcr:c=(r:Int)
       . have hq:B6 r= [92,Fk.getD n 0]:=by
          have:=Sl ⟨n,hn8⟩ hn2;simp only[hcd,hcr,Int.toNat_natCast]at this;exact this
         rw[hq]at hsn;subst hcr;have hlet:=fun w=>Agh n hn8 w;generalize Fk.getD n 0=c8 at hsn hlet;have hT':Hid ((T++⟨#[92]⟩++⟨#[c8]⟩).data.toList=34::Ap (L.take (k+1))):=by
          show _=_;rw[hsn.out,ByteArray.data_append,Array.toList_append,ByteArray.data_append,Array.toList_append];simp
         clear hno hsn hcc hcd hc hq;go_wp2_with (fail);(with_reducible refine cC.out.mono ?_);rintro e w2 ⟨rfl,hb2⟩;have hbw2:=qz (hbw.out.trans (hb2.mono hbw.out.size));clear hb2 hbw cC;have hl2:=hlet w2;clear hlet;go_wp2;go_roundw
         case rel=>exact⟨_,k+1,rfl,by go_num,by omega,hT',hbw2⟩
         case measure=>simp only[intOf];omega
       . have hno':=qz (hno.out.step (.inr (by rw[hcd];exact hcr)));have hcr1:(c==(r:Int))=false:=by simpa using hcr
         have hcr2:(c != (r:Int))=true:=by simpa using hcr
         clear hno hsn hcc hcd hc hcr;go_wp2_with (fail);(with_reducible refine cC.out.mono ?_);rintro e w2 ⟨rfl,hb2⟩;have hbw2:=qz (hbw.out.trans (hb2.mono hbw.out.size));clear hb2 hbw cC;go_wp2;go_roundw
         case rel=>exact⟨n+1,by go_num,by omega,hno',hbw2⟩
         case measure=>simp only[intOf];omega
     . have hq:=U7 hno.out;rw[hq]at hsn;clear hno hc hq;by_cases h32:r<32
       . rw[if_pos h32]at hsn;have hT':Hid ((T++⟨#[92,117,48,48]⟩++⟨#[Jw (r / 16)]⟩++⟨#[Jw (r % 16)]⟩).data.toList=34::Ap (L.take (k+1))):=by
          show _=_;rw[hsn.out,ByteArray.data_append,Array.toList_append,ByteArray.data_append,Array.toList_append,ByteArray.data_append,Array.toList_append];simp
         have hx1:=fun w=>Abm (r / 16) (by omega) w;have hx2:=fun w=>Abm (r % 16) (by omega) w;have hq16:(r:Int) / 16=((r / 16:Nat):Int):=by omega
         have hm16:(r:Int) % 16=((r % 16:Nat):Int):=by omega
         have hq16':(r:Int).tdiv 16=((r / 16:Nat):Int):=by rw[Int.tdiv_eq_ediv_of_nonneg (by omega)];omega
         have hm16':(r:Int).tmod 16=((r % 16:Nat):Int):=by rw[Int.tmod_eq_emod_of_nonneg (by omega)];omega
         have hql:r / 16<2:=by omega
         have hml:r % 16<16:=by omega
         generalize Jw (r / 16)=e1 at*
         generalize Jw (r % 16)=e2 at*
         generalize r / 16=q at*
         generalize r % 16=m at*
         have hw1:IntKind.i64.wrap ((q:Int)+1)=(q:Int)+1:=IntWalk.i64_in _ (by omega);have hw2:IntKind.i64.wrap ((m:Int)+1)=(m:Int)+1:=IntWalk.i64_in _ (by omega);clear hsn;go_wp2_with (fail);go_quiet (fail);have hbw2:=qz (A4 hbw.out nq);clear hx1 hx2 hq16 hm16 hq16' hm16' hw1 hw2 hbw;go_wp2;go_roundw
         case rel=>exact⟨_,k+1,rfl,by go_num,by omega,hT',hbw2⟩
         case measure=>simp only[intOf];omega
       . rw[if_neg h32]at hsn;have cB:=qz (Jo r (by omega) (by omega) (by have:=Hsc.out;omega) wr);have hel:(Lib.encodeRune (r:Int)).length<=4:=Qa r;obtain⟨X,hX⟩: ∃X:ByteArray,(⟨(Lib.encodeRune (r:Int)).toArray⟩:ByteArray)=X:=⟨_,rfl⟩;have hXs:X.size<=4:=by rw[<-hX];exact hel
         have hT':Hid ((T++X).data.toList=34::Ap (L.take (k+1))):=by
          show _=_;rw[hsn.out,ByteArray.data_append,Array.toList_append,<-hX]
         rw[hX]at cB;clear hsn hel hX;go_wp2_with (fail);(with_reducible refine cB.out.mono ?_);rintro e w2 ⟨rfl,hb2⟩;have hbw2:=qz (hbw.out.trans (hb2.mono hbw.out.size));clear hb2 hbw cB;go_wp2;go_roundw
         case rel=>exact⟨_,k+1,rfl,by go_num,by omega,hT',hbw2⟩
         case measure=>simp only[intOf];omega
  . obtain rfl:k=L.length:=by omega
    have hT':=hT.out;rw[List.take_length]at hT';have hE:(⟨(34::(Ap L++ [34])).toArray⟩:ByteArray)=T++⟨#[34]⟩:=by
     apply ByteArray.ext;rw[ByteArray.data_append];apply Array.ext';rw[Array.toList_append,hT'];simp
    have HE:=qz hE;clear hT hT' hE;go_wp2;go_ret2;exact⟨by rw[HE.out];rfl,hb1'.out.trans (hbw.out.mono hb1'.out.size)⟩
theorem Gl {k:Int} {b:Bool} {n:Int} {t:ByteArray} {la oa:Option Addr} {ln lc on oc:Nat} {B:Bool} (h:Fl k b n t ln on=B) (w:World):
 Calls Tryz.prog 160 #[.agg #[.int .i64 k,.bool b,.int .i64 n,.string t,.slice la ln lc,.slice oa on oc]] w fun e w'=>e=.returned (.bool (!B))/\Below w.heap.size w w':=by
 subst h;exact Y7 _ _ _ _ _ _ _ _ _ _ _
theorem Ci {s:ByteArray} {B:Bool} (h:A8 s=B) (w:World) (hs:s.size<=1000000000):
 Calls Tryz.prog 112 #[.string s] w fun e w'=>e=.returned (.bool B)/\w=w':=by
 subst h;exact My _ _ hs
def Adm (v:Val):Prop:= ∀(cs:List Value) (d:Int) (w:World),Ac w w.heap.size v cs->v.bulk<=1000000000->0<=d->d<=65->
    Calls Tryz.prog 95 #[.agg cs.toArray,.int .i64 d] w fun e w'=>e=.returned (.int .i64 (Aw v d))/\Below w.heap.size w w'
theorem Aco (k:Int) (b:Bool) (n:Int) (t:ByteArray) (l:List Val) (la oa:Option Addr) (lc oc:Nat) (d:Int) (w:World) (g off:Nat) (hla:l= []\/(la=some ⟨g,off,none⟩/\g<w.heap.size/\Ao w w.heap.size l g off))
 (hb:Bg l+t.size<=1000000000) (h0:0<=d) (h64:d<=64) (IH: ∀v ∈ l,Adm v) (hodd:Fl k b n t l.length 0=false) (hval:A8 t=true):
 Calls Tryz.prog 95 #[.agg #[.int .i64 k,.bool b,.int .i64 n,.string t,.slice la l.length lc,.slice oa 0 oc],.int .i64 d] w fun e w'=>e=.returned (.int .i64 (Dj l (d+1)))/\Below w.heap.size w w':=by
 have hlen:l.length<=1000000000:=by have:=Dr l;omega
 have h64': ¬(64<d):=by omega
 have H:Hid (Dj (l.drop 0) (d+1)=Dj l (d+1)):=by rw[List.drop_zero];exact rfl
 go_enter Tryz.func95,Tryz.ntmps95;go_wp2_with (first|(go_at_call 160;refine(Gl hodd _).mono ?_;rintro e w1 ⟨rfl,hb1⟩;obtain⟨hc1,hf1⟩:=Fy hb1;have hz1:=hb1.size;simp only[World.size_alloc]at hz1;have hbw1:Below w.heap.size w w1:=((Below.refl _ _).alloc (Nat.le_refl _) _).trans (hb1.mono (by simp));have hbox1:w1.heap[w.heap.size]? =some (.cells #[.int .i64 k,.bool b,.int .i64 n,.string t,.slice la l.length lc,.slice oa 0 oc] 37 (0,0)):=(hb1.block _ (by simp)).trans (heap_alloc_new _ _))|(go_at_call 112;refine(Ci hval _ (by omega)).mono ?_;rintro e w2 ⟨rfl,rfl⟩));clear hb1 hodd hc1 hf1 hz1;go_loopw [5] (fun i wr=> ∃j:Nat,j<=l.length/\i=.int .i64 j/\Hid (Dj (l.drop j) (d+1)=Dj l (d+1))/\Below w.heap.size w wr/\wr.heap[w.heap.size]? =some (.cells #[.int .i64 k,.bool b,.int .i64 n,.string t,.slice la l.length lc,.slice oa 0 oc] 37 (0,0))) (fun i _=>l.length - (intOf i).toNat)
 case atStart=>exact⟨0,Nat.zero_le _,rfl,H,hbw1,hbox1⟩
 case round=>
  obtain⟨j,hj,rfl,hm,hbw,hbox⟩:=hrel;clear H hbw1 hbox1;have hbx:w.heap.size<wr.heap.size:=(Array.getElem?_eq_some_iff.1 hbox).1;have b4:wr.cell? ⟨w.heap.size,4,none⟩=some (.slice la l.length lc):=by rw[Lib.cell_of_heap hbox];rfl
  have b5:wr.cell? ⟨w.heap.size,5,none⟩=some (.slice oa 0 oc):=by rw[Lib.cell_of_heap hbox];rfl
  by_cases hlt:j<l.length
  . obtain⟨rfl,hg,hL⟩:la=some ⟨g,off,none⟩/\g<w.heap.size/\Ao w w.heap.size l g off:=by
     rcases hla with rfl|h
     . simp at hlt
     . exact h
    obtain⟨v,hv⟩: ∃v,l[j]? =some v:=⟨_,List.getElem?_eq_getElem hlt⟩;have hdrop:l.drop j=v::l.drop (j+1):=C3 hv;have hmem:v ∈ l:=List.mem_of_getElem? hv;have hbv:=Ew hmem;have IHv:=qz (IH v hmem);have hm':=hm.out;rw[hdrop]at hm';simp only[Dj]at hm';clear hm hdrop hmem IH;obtain⟨m,hmv⟩: ∃m,Aw v (d+1)=m:=⟨_,rfl⟩;rw[hmv]at hm';have Hmv:=qz hmv;clear hmv;obtain⟨k',b',n',t',l',o'⟩:=v;obtain⟨la',lc',oa',oc',hvs,c0,c1,c2,c3,c4,c5⟩:=(hL.below hg hbw).six hv;clear hla hL hv;have hz:=hbw.size;by_cases hm0:m=0
    . rw[if_pos hm0]at hm';subst hm0;have Hk:=qz hm';clear hm';go_wp2_with (go_at_call 95;refine(IHv.out _ (d+1) _ (Ac.more (by omega) _ _ hvs) (by omega) (by omega) (by omega)).mono ?_;rintro e w2 ⟨he,hb2⟩;rw[Hmv.out]at he;subst he;have hbw2:Below w.heap.size w w2:=hbw.trans (hb2.mono hz);have hbox2:=(hb2.block _ hbx).trans hbox);go_roundw
      case rel=>exact⟨j+1,by omega,by go_num,Hk,hbw2,hbox2⟩
      case measure=>simp[intOf];omega
    . rw[if_neg hm0]at hm';have Hk:=qz hm';clear hm';have hm1:(m==0)=false:=by simpa using hm0
      have hm2:(m != 0)=true:=by simpa using hm0
      go_wp2_with (go_at_call 95;refine(IHv.out _ (d+1) _ (Ac.more (by omega) _ _ hvs) (by omega) (by omega) (by omega)).mono ?_;rintro e w2 ⟨he,hb2⟩;rw[Hmv.out]at he;subst he;have hbw2:Below w.heap.size w w2:=hbw.trans (hb2.mono hz));go_ret;exact⟨by rw[<-Hk.out];rfl,hbw2⟩
  . obtain rfl:j=l.length:=by omega
    have hm':=hm.out;rw[List.drop_length]at hm';have Hm:=qz hm';clear hm hm';go_wp2;go_loopw [8] (fun i wx=>i=.int .i64 0/\wx=wr) (fun _ _=>0)
    case atStart=>exact⟨rfl,rfl⟩
    case round=>
     obtain⟨rfl,rfl⟩:=hrel;go_wp2;go_ret;exact⟨by rw[<-Hm.out];rfl,hbw⟩
end Go.Proofs.YtkmcjfkokoidcaaGreatDoor
namespace Go.Proofs.YtkmcjfkokoidcaaGreatDoor
open Go Go.RowKit Go.Lib
theorem Ago:(Tryz.prog.info? 63).map (fun i=>(i.zero,i.size,i.bytes))=some (some (.agg #[.string ⟨#[]⟩,.int .i64 0,.bool false,.int .i64 0,.string ⟨#[]⟩,.slice none 0 0,.slice none 0 0]),7,104):=by kernel_rfl
theorem Xc (b:Nat) (w:World) (V:Value) (n:Nat) (xs:List Value) (hV:w.ownsRow b 63 7 V n xs) (hb:b<=w.heap.size) (hn:n<=1000) (vb:Nat) (ys:List Value) (hl:ys.length=7) (hvs: ∀j v,ys[j]? =some v->w.cell? ⟨vb,j,none⟩=some v) (h1: ∀u ∈ ys,u.oneCell'=true):
 Calls Tryz.prog 98 #[V,.int .i64 n,.slice (some ⟨vb,0,none⟩) 1 1] w fun e w'=> ∃V',e=.returned V'/\w'.ownsRow b 63 7 V' (n+1) (xs++ys)/\w.grownBy w' V.ownBlock/\(V'.ownBlock=V.ownBlock\/V'.ownBlock=some w.heap.size):=by
 obtain⟨i0,hi0,hz0,hzs,hzb⟩:=info_parts Ago;obtain⟨V',w',hrun,k1,k2,_,k3⟩:=run_append_own_at (P:=Tryz.prog) (w:=w) b 22 22 63 i0 _ 7 104 Tryz.underlying22 hi0 hz0 hzs hzb rfl (by omega) V n xs hV ⟨vb,0,none⟩ 1 1 ys (by omega) (fun j u hj=>by rw[Bf,Nat.zero_add];exact hvs j u hj) h1 (by simp only[maxLen];omega) (by omega) hb;have hV':=hV;rcases hV'.2 with⟨rfl,rfl⟩|⟨g,cap,cur,rfl,hbg,hg,hnc,hcm,_⟩
 . have hP: ∃V2,Ending.returned V'=.returned V2/\w'.ownsRow b 63 7 V2 (0+1) (xs++ys)/\w.grownBy w' (Value.slice none 0 0).ownBlock/\(V2.ownBlock=(Value.slice none 0 0).ownBlock\/V2.ownBlock=some w.heap.size):=⟨V',rfl,k1,k2,k3⟩;have HP:=qz hP;clear hV hV' k1 k2 k3 hP hvs h1;go_enter Tryz.func98,Tryz.ntmps98;go_wp2_with (at_builtin;refine Lib.wpList_append_run _ rfl _ _ _ _ rfl _ _ rfl rfl _ _ hrun ?_);go_ret;exact HP.out
 . have hP: ∃V2,Ending.returned V'=.returned V2/\w'.ownsRow b 63 7 V2 (n+1) (xs++ys)/\w.grownBy w' (Value.slice (some ⟨g,0,none⟩) n cap).ownBlock/\(V2.ownBlock=(Value.slice (some ⟨g,0,none⟩) n cap).ownBlock\/V2.ownBlock=some w.heap.size):=⟨V',rfl,k1,k2,k3⟩;have HP:=qz hP;have hc63:cap<=9223372036854775807:=by simp only[maxLen]at hcm;omega
   clear hV hV' k1 k2 k3 hP hvs h1 hg hcm;go_enter Tryz.func98,Tryz.ntmps98;go_wp2_with (at_builtin;refine Lib.wpList_append_run _ rfl _ _ _ _ rfl _ _ rfl rfl _ _ hrun ?_)
   all_goals(go_ret;exact HP.out)
theorem Acf (b:Nat) (w:World) (g n i:Nat) (cur:Array Value) (xs:List Value) (hb:b<=w.heap.size) (hg:w.heap[g]? =some (.cells cur 63 (0,0))) (hcs:cur.size=n*7) (hx:cur.toList.take (n*7)=xs) (hi:i<n) (hn:n<=1000) (h1x: ∀u ∈ xs,u.oneCell'=true)
 (vb:Nat) (ys:List Value) (hl:ys.length=7) (hvs: ∀j v,ys[j]? =some v->w.cell? ⟨vb,j,none⟩=some v) (h1: ∀u ∈ ys,u.oneCell'=true):
 Calls Tryz.prog 98 #[.slice (some ⟨g,0,none⟩) n n,.int .i64 i,.slice (some ⟨vb,0,none⟩) 1 1] w fun e w'=> ∃V',e=.returned V'/\w'.ownsRow b 63 7 V' (n+1) (xs.take (i*7)++ys++xs.drop (i*7))/\Below w.heap.size w w'/\V'.ownBlock=some w.heap.size:=by
 obtain⟨i0,hi0,hz0,hzs,hzb⟩:=info_parts Ago;have hxl:xs.length=n*7:=by rw[<-hx,List.length_take,Array.length_toList,hcs];omega
 have hcl:cur.toList=xs:=by rw[<-hx,List.take_of_length_le];rw[Array.length_toList,hcs];exact Nat.le_refl _
 have hgw:g<w.heap.size:=(Array.getElem?_eq_some_iff.1 hg).1;have hvw:vb<w.heap.size:=World.block_lt_of_cell? w _ (hvs 0 _ (List.getElem?_eq_getElem (by omega)));have hxc: ∀(W:World),W.heap[g]? =w.heap[g]? -> ∀j u,xs[j]? =some u->W.cell? ⟨g,j,none⟩=some u:=fun W hW j u hu=>by
  refine(cell_of_row _ _ _ _ _ _ (hW.trans hg)).trans ?_;rw[<-Array.getElem?_toList,hcl];exact hu
 have hsz:(Tryz.prog.info? 63).map (·.size)=some 7:=by rw[hi0];simp[hzs]
 have hz2: ¬((i:Int)=(n:Int)):=by omega
 have hz3:(n:Int)<(n:Int)+1:=by omega
 have hkk:(n:Int)+1 - (i:Int)=((n+1 - i:Nat):Int):=by omega
 have hik:i+(n+1 - i)=n+1:=by omega
 have hold:(Builtin.firstCells i0.size i (.slice (some ⟨g,0,none⟩) i n)).run Tryz.prog w.drew=.ok (xs.take (i*7)).toArray w.drew:=by
  rw[hzs];refine run_firstCells_some w.drew 7 i ⟨g,0,none⟩ i n (xs.take (i*7)) (by rw[List.length_take];omega) (fun j v hj=> ?_);rw[Bf,Nat.zero_add];rw[List.getElem?_take]at hj
  split at hj
  . exact hxc w.drew rfl j v hj
  . cases hj
 have hrz: ∀ty,(Builtin.append_ #[22,3] ty #[.slice (some ⟨g,0,none⟩) i n,.int .i64 ((n:Int)+1 - (i:Int))]).run Tryz.prog w=.ok (.slice (some ⟨w.heap.size,0,none⟩) (n+1) (grownCap w (n+1) n 63)) (w.drew.alloc (.cells ((xs.take (i*7)).toArray++Builtin.zeroCells (Value.cells (.agg #[.string ⟨#[]⟩,.int .i64 0,.bool false,.int .i64 0,.string ⟨#[]⟩,.slice none 0 0,.slice none 0 0])) (n+1 - i)++Builtin.zeroCells (Value.cells (.agg #[.string ⟨#[]⟩,.int .i64 0,.bool false,.int .i64 0,.string ⟨#[]⟩,.slice none 0 0,.slice none 0 0])) (grownCap w (n+1) n 63 - (n+1))) 63)):=fun ty=>by
  have h:=Lib.run_append_grow_zeros (P:=Tryz.prog) w 22 3 ty 63 i0 _ .i64 .i64 Tryz.underlying22 Tryz.underlying3 hi0 hz0 (some ⟨g,0,none⟩) i n (xs.take (i*7)) hold (n+1 - i) (by omega) (by omega) (by omega) (by omega) (by rw[hzb];omega) (by rw[hzb,hik];exact growslice_fits (by omega) (by omega));rw[hik]at h;rw[hkk];exact h
 obtain⟨G,hG⟩: ∃G,G=grownCap w (n+1) n 63:=⟨_,rfl⟩;have hGn:n+1<=G:=by rw[hG];exact grownCap_ge w _ _ _
 have hG63:G<=maxLen:=by rw[hG];exact grownCap_le_maxLen w (n+1) n 63 (by unfold maxLen;omega)
 have hGm:G<=9223372036854775807:=by simp only[maxLen]at hG63;omega
 rw[<-hG]at hrz;obtain⟨MM,hMM⟩: ∃MM:List Value,(Builtin.zeroCells (Value.cells (.agg #[.string ⟨#[]⟩,.int .i64 0,.bool false,.int .i64 0,.string ⟨#[]⟩,.slice none 0 0,.slice none 0 0])) (n+1 - i)).toList=MM:=⟨_,rfl⟩;obtain⟨ZZ,hZZ⟩: ∃ZZ:List Value,(Builtin.zeroCells (Value.cells (.agg #[.string ⟨#[]⟩,.int .i64 0,.bool false,.int .i64 0,.string ⟨#[]⟩,.slice none 0 0,.slice none 0 0])) (G - (n+1))).toList=ZZ:=⟨_,rfl⟩;have hMl:MM.length=(n+1 - i)*7:=by rw[<-hMM];simp[Builtin.zeroCells,Value.cells];try omega
 have hZl:ZZ.length=(G - (n+1))*7:=by rw[<-hZZ];simp[Builtin.zeroCells,Value.cells];try omega
 have hROW:(xs.take (i*7)).toArray++Builtin.zeroCells (Value.cells (.agg #[.string ⟨#[]⟩,.int .i64 0,.bool false,.int .i64 0,.string ⟨#[]⟩,.slice none 0 0,.slice none 0 0])) (n+1 - i)++Builtin.zeroCells (Value.cells (.agg #[.string ⟨#[]⟩,.int .i64 0,.bool false,.int .i64 0,.string ⟨#[]⟩,.slice none 0 0,.slice none 0 0])) (G - (n+1))=(xs.take (i*7)++MM++ZZ).toArray:=by
  apply Array.ext';simp[<-hMM,<-hZZ]
 rw[hROW]at hrz;obtain⟨R0,hR0⟩: ∃R:List Value,xs.take (i*7)++MM++ZZ=R:=⟨_,rfl⟩;rw[hR0]at hrz;have hRl:R0.length=G*7:=by
  rw[<-hR0,List.length_append,List.length_append,List.length_take,hMl,hZl,hxl];omega
 obtain⟨R1,hR1⟩: ∃R:List Value,R0.take (i*7)++ys++R0.drop (i*7+ys.length)=R:=⟨_,rfl⟩;obtain⟨R2,hR2⟩: ∃R:List Value,R1.take ((i+1)*7)++xs.drop (i*7)++R1.drop ((i+1)*7+(xs.drop (i*7)).length)=R:=⟨_,rfl⟩;have hR1l:R1.length=G*7:=by
  rw[<-hR1,List.length_append,List.length_append,List.length_take,List.length_drop,hRl,hl];omega
 have hRes:R2=xs.take (i*7)++ys++xs.drop (i*7)++ZZ:=by
  rw[<-hR2,<-hR1,<-hR0];exact R3 _ _ _ ys (xs.drop (i*7)) (i*7) ((i+1)*7) (by rw[List.length_take,hxl];omega) (by rw[hMl,hl,List.length_drop,hxl];omega) (by rw[hl];omega)
 have hR2l:R2.length=G*7:=by
  rw[<-hR2,List.length_append,List.length_append,List.length_take,List.length_drop,List.length_drop,hR1l,hxl];omega
 have hcA: ∀(W:World),W.heap[w.heap.size]? =some (.cells R0.toArray 63 (0,0))->(∀j,j<w.heap.size->W.heap[j]? =w.heap[j]?)-> ∀ty o dl dc,o=i*7->dl=n+1 - i->(Builtin.copy_ #[22,22] ty #[.slice (some ⟨w.heap.size,o,none⟩) dl dc,.slice (some ⟨vb,0,none⟩) 1 1]).run Tryz.prog W=.ok (goInt 1) (W.setRow w.heap.size R1.toArray):=fun W hW hk ty o dl dc ho hd=>by
  subst ho hd;have hmin:Nat.min 1 (n+1 - i)=1:=by show min 1 (n+1 - i)=1;omega
  have:=Eg (P:=Tryz.prog) W 22 22 ty 63 7 w.heap.size (i*7) (n+1 - i) dc ⟨vb,0,none⟩ 1 1 R0.toArray 63 ys Tryz.underlying22 hsz hW (by rw[hl,hmin]) (fun j v hj=>by rw[Bf,Nat.zero_add];exact(World.cell?_of_block (hk vb hvw)).trans (hvs j v hj)) (by rw[hl];simp only[List.size_toArray,hRl];omega) h1;rw[hmin]at this;refine this.trans ?_;rw[<-hR1];rfl
 have hcB: ∀(W:World),W.heap[w.heap.size]? =some (.cells R1.toArray 63 (0,0))->(∀j,j<w.heap.size->W.heap[j]? =w.heap[j]?)-> ∀ty o so dl dc sl sc,o=(i+1)*7->so=i*7->dl=n - i->sl=n - i->(Builtin.copy_ #[22,22] ty #[.slice (some ⟨w.heap.size,o,none⟩) dl dc,.slice (some ⟨g,so,none⟩) sl sc]).run Tryz.prog W=.ok (goInt (n - i:Nat)) (W.setRow w.heap.size R2.toArray):=fun W hW hk ty o so dl dc sl sc ho hso hd hs=>by
  subst ho hso hd hs;have hmin:Nat.min (n - i) (n - i)=n - i:=Nat.min_self _;have:=Eg (P:=Tryz.prog) W 22 22 ty 63 7 w.heap.size ((i+1)*7) (n - i) dc ⟨g,i*7,none⟩ (n - i) sc R1.toArray 63 (xs.drop (i*7)) Tryz.underlying22 hsz hW (by rw[List.length_drop,hxl,hmin];omega) (fun j v hj=>by rw[Bf];exact hxc W (hk g hgw) _ v (by rwa [List.getElem?_drop]at hj)) (by rw[List.length_drop,hxl];simp only[List.size_toArray,hR1l];omega) (fun v hv=>h1x v (List.mem_of_mem_drop hv));rw[hmin]at this;refine this.trans ?_;rw[<-hR2]
 have hP: ∀W:World,Below w.heap.size w W->W.heap[w.heap.size]? =some (.cells R2.toArray 63 (0,0))-> ∃V',Ending.returned (.slice (some ⟨w.heap.size,0,none⟩) (n+1) G)=.returned V'/\W.ownsRow b 63 7 V' (n+1) (xs.take (i*7)++ys++xs.drop (i*7))/\Below w.heap.size w W/\V'.ownBlock=some w.heap.size:=fun W hB hW=>
  ⟨_,rfl,Mi hb hW hGn hG63 (by simpa using hR2l) (by
    show List.take _ R2=_;rw[hRes,List.take_left'];rw[List.length_append,List.length_append,List.length_take,List.length_drop,hxl,hl];omega),hB,rfl⟩
 have hGi: ¬(G=i):=by omega
 have hGim: ¬(G=i+1):=by omega
 have hci: ¬(n=i):=by omega
 have hw1:IntKind.i64.wrap ((i:Int)+1)=(i:Int)+1:=by rw[IntKind.wrap_i64];omega
 have hb1:(0:Int)<=(i:Int)+1:=by omega
 have hin:i<=n:=by omega
 have htn:((i:Int)+1).toNat=i+1:=by omega
 have hb3:(i:Int)<=(n:Int):=by omega
 obtain⟨W0,hW0⟩: ∃W:World,(w.alloc (.cells R0.toArray 63)).drew=W:=⟨_,rfl⟩;have hB0:Below w.heap.size w W0:=hW0▸Below.drew ((Below.refl _ _).alloc (Nat.le_refl _) _);have hR0h:W0.heap[w.heap.size]? =some (.cells R0.toArray 63 (0,0)):=hW0▸heap_alloc_new w _;have hcA1:=fun ty dc=>hcA W0 hR0h (fun j hj=>hB0.block j hj) ty _ _ dc rfl rfl;obtain⟨W1,hW1⟩: ∃W:World,W0.setRow w.heap.size R1.toArray=W:=⟨_,rfl⟩;rw[hW1]at hcA1;have hB1:Below w.heap.size w W1.drew:=hW1▸Below.drew (K8 hB0 (Nat.le_refl _) _);have hR1h:W1.drew.heap[w.heap.size]? =some (.cells R1.toArray 63 (0,0)):=hW1▸setRow_heap W0 _ _ _ _ _ hR0h;have hcB1:=fun ty dc sc=>hcB W1.drew hR1h (fun j hj=>hB1.block j hj) ty _ _ _ dc _ sc rfl rfl rfl rfl;have HPf:=qz (hP (W1.drew.setRow w.heap.size R2.toArray) (K8 hB1 (Nat.le_refl _) _) (setRow_heap W1.drew _ _ _ _ _ hR1h));skip;clear hcA hcB hP hold hRes hR2 hR1 hR0 hROW hMM hZZ hMl hZl hxc hcl hx hg hvs h1 h1x hi0 hz0 hzs hzb hRl hR1l hR2l hG hsz hkk hik hxl hcs hG63 hB0 hR0h hB1 hR1h hW1;go_enter Tryz.func98,Tryz.ntmps98;go_wp2_with (at_builtin;refine Lib.wpList_append_run _ rfl _ _ _ _ rfl _ _ rfl rfl _ _ (hrz _) ?_);refine wp_region_held_drew (S:=fun _=>True) (by kernel_rfl) trivial (fun hHeld=> ?_);refine tkH 0 hHeld ?_;refine tkH 1 hHeld ?_;refine tkH 2 hHeld ?_;refine tkH 3 hHeld ?_;refine tkH 4 hHeld ?_;refine tkH 5 hHeld ?_;refine tkH 6 hHeld ?_;refine tkH 7 hHeld ?_;refine Ie 8 fun K hK=> ?_;go_simp;refine hK.out _ _ trivial (fun hHeld=> ?_);clear hK K;refine wpAnyH_done (by kernel_rfl) ?_ _;clear hHeld;go_wp2;go_ret;exact HPf.out
end Go.Proofs.YtkmcjfkokoidcaaGreatDoor
namespace Go.Proofs.YtkmcjfkokoidcaaGreatDoor
open Go.RowKit
attribute [local go_sem] Oper.semAt_some
theorem Yd (s:ByteArray) (b:Nat) (hs:s.size<=1000000000):
 Aa1 Tryz.prog 282 #[.pointer (some ⟨b,0,none⟩)] (fun x:Nat×Nat=> #[.int .i64 x.1,.int .i32 x.2]) (Cf s) (fun A=>A.cell? ⟨b,0,none⟩=some (.string s)/\B3 A):=by
 intro n l J Jx W hJn hJx hJb hY h0;refine callsIn_of_wp Tryz.func282 rfl trivial ?_ rfl;simp only[Tryz.ntmps282,List.size_toArray,List.length_cons,List.length_nil,Nat.reduceAdd,Nat.reduceSub,Array.replicate_succ,Array.replicate_zero,List.push_toArray,List.append_toArray,List.nil_append,List.cons_append]
 gi_wp2
 gi_loopw [3] (fun i wr=> ∃(pre:List (Nat×Nat)) (f k:Nat),i=.int .i64 k/\k<=s.size/\s.size - k<=f/\Hid (Cf s=pre++As f (s.data.toList.drop k) k)/\J pre wr) (fun i _=>s.size - (intOf i).toNat)
 case atStart=>exact⟨[],s.size,0,rfl,Nat.zero_le _,by omega,rfl,h0⟩
 case round=>
  obtain⟨pre,f,k,rfl,hk,hf,hr,hJ⟩:=hrel;have hcr:wr.cell? ⟨b,0,none⟩=some (.string s):=(hJb _ _ hJ).1;have hTr:B3 wr:=(hJb _ _ hJ).2;by_cases hlt:k<s.size
  . have hne:s.data.toList.drop k≠ []:=by
     intro e;have:=congrArg List.length e;rw[List.length_drop,<-Lib.size_eq]at this;simp at this;omega
    obtain⟨f,rfl⟩: ∃f',f=f'+1:=⟨f - 1,by omega⟩;have cD:=Tryz.utf8_DecodeRuneInString (s.extract k s.size) wr hTr.2.1;have hdc:Lib.decodeGo (s.extract k s.size)=Lib.decodeL (s.data.toList.drop k):=O6 s k hlt;have hw1:=Lib.decodeL_width (s.data.toList.drop k);have hw2:=Lib.decodeL_le _ hne;have hw3:=Lib.decodeL_rune (s.data.toList.drop k);rw[List.length_drop,<-Lib.size_eq]at hw2;have hr':=hr.out;simp only[As]at hr';rw[if_neg hne,List.drop_drop]at hr';rw[hdc]at cD;generalize Lib.decodeL (s.data.toList.drop k)=D at cD hw1 hw2 hw3 hr';obtain⟨r,z⟩:=D;simp only at cD hw1 hw2 hw3 hr';have CD:=qz cD;clear cD hdc hne hr;by_cases hbad:r=65533/\z=1
    . rw[if_pos hbad,List.append_nil]at hr';have Hr:=qz hr';obtain⟨hr1,hz1⟩:=hbad;have e1:((r:Int)==65533)=true:=by simp;omega
      have e2:((z:Int)==1)=true:=by simp;omega
      clear hr' hr1 hz1
      gi_wp2_with (refine⟨trivial, ?_⟩;gi_at_call 283;refine(callsIn_wide.2 CD.out).mono ?_;rintro e w2 ⟨rfl,hb2⟩;have hJ2:=hJn _ _ _ hJ hb2)
      refine bodyPost_ret (results_none rfl _ _ _) rfl ?_;exact⟨⟨_,rfl⟩,.inl (by rw[Hr.out];exact hJ2)⟩
    . rw[if_neg hbad]at hr';have Hr:=qz hr';have Hr2:Hid (Cf s=(pre++ [(k,r)])++As f (s.data.toList.drop (k+z)) (k+z)):=by
       show Cf s=_;rw[hr'];simp
      clear hr';rcases(by omega:r≠65533\/(r=65533/\z≠1))with h1|⟨h1,h2⟩
      . have e1:((r:Int)==65533)=false:=by simp;omega
        clear h1 hbad
        gi_wp2_with (refine⟨trivial, ?_⟩;gi_at_call 283;refine(callsIn_wide.2 CD.out).mono ?_;rintro e w2 ⟨rfl,hb2⟩;obtain⟨fn,tmps,assign,body,hy,hR⟩:=hY pre (k,r) _ w2 Hr.out (hJn _ _ _ hJ hb2);dsimp only at hy)
        refine hR.mono ?_;rintro e W3 (⟨rfl,hJ3⟩|⟨rfl,hJ3⟩);rotate_left
        . clear hy hR
          gi_wp2
          refine bodyPost_ret (results_none rfl _ _ _) rfl ?_;exact⟨⟨_,rfl⟩,.inr hJ3⟩
        clear hy hR
        gi_wp2
        go_roundw
        case rel=>exact⟨pre++ [(k,r)],f,k+z,by go_num,by omega,by omega,Hr2,hJ3⟩
        case measure=>simp[intOf];omega
      . have e1:((r:Int)==65533)=true:=by simp;omega
        have e2:((z:Int)==1)=false:=by simp;omega
        clear h1 h2 hbad
        gi_wp2_with (refine⟨trivial, ?_⟩;gi_at_call 283;refine(callsIn_wide.2 CD.out).mono ?_;rintro e w2 ⟨rfl,hb2⟩;obtain⟨fn,tmps,assign,body,hy,hR⟩:=hY pre (k,r) _ w2 Hr.out (hJn _ _ _ hJ hb2);dsimp only at hy)
        refine hR.mono ?_;rintro e W3 (⟨rfl,hJ3⟩|⟨rfl,hJ3⟩);rotate_left
        . clear hy hR
          gi_wp2
          refine bodyPost_ret (results_none rfl _ _ _) rfl ?_;exact⟨⟨_,rfl⟩,.inr hJ3⟩
        clear hy hR
        gi_wp2
        go_roundw
        case rel=>exact⟨pre++ [(k,r)],f,k+z,by go_num,by omega,by omega,Hr2,hJ3⟩
        case measure=>simp[intOf];omega
  . obtain rfl:k=s.size:=by omega
    have hr':=hr.out;rw[List.drop_eq_nil_of_le (by rw[<-Lib.size_eq];omega)]at hr';have hz:As f [] s.size= []:=by cases f<;>simp[As]
    rw[hz,List.append_nil]at hr';have Hr:=qz hr';clear hr hr'
    gi_wp2
    go_end0
    exact⟨⟨_,rfl⟩,.inl (by rw[Hr.out];exact hJ)⟩
end Go.Proofs.YtkmcjfkokoidcaaGreatDoor
