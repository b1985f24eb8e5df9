/- Parts: slices.Insert of one element, an entry, in a slice of the call's own. Condition: at most 1000 elements. Printed by mkins.py. -/
import Derived.Shelf.Spec.SlicesInsertGrow
import Derived.Test.YtkmcjfkokoidcaaGreatDoorKFa15
set_option maxHeartbeats 20000000
set_option maxRecDepth 100000
namespace Go.Proofs.YtkmcjfkokoidcaaGreatDoor
open Go.RowKit
theorem St (r:Int):(Lib.encodeRune r).length<=4:=by
 unfold Lib.encodeRune Lib.encodeRuneZ
 repeat' split
 all_goals simp
theorem Pr (s:ByteArray) (w:World) (hs:s.size<=1000000000) (hv:A9 s=true):
 Calls Tryz.prog 82 #[.string s] w fun e w'=>e=.returned (.tuple #[.string ⟨(Bl s).toArray⟩,.int .i64 0])/\Below w.heap.size w w':=by
 have cV:=Ps s w hs;rw[hv]at cV;have HR:=qz (Ym s w hs);have hlr:(Bw s).length<=s.size:=Gd _ _ _;have HS:Hid (∀x ∈ Bw s,Dc x.2):=Dw _ _ _;unfold Bl;generalize Bw s=L at*
 have HV:=qz cV;clear cV hv;go_enter Tryz.func82,Tryz.ntmps82;go_wp2_with (fail);(with_reducible refine HV.out.mono ?_);rintro e w' ⟨rfl,rfl⟩;clear HV;go_wp2_with (fail);(with_reducible refine HR.out.mono ?_);rintro e w1 ⟨⟨v1,v2,rfl,hown⟩,hb1⟩;clear HR;obtain⟨la,lc,rfl,hcells⟩: ∃la lc,v1=.slice la L.length lc/\Hid (∀(k:Nat) (x:Nat×Nat),L[k]? =some x-> ∃g off,la=some ⟨g,off,none⟩/\g<w1.heap.size/\w1.cell? ⟨g,off+k,none⟩=some (.int .i64 x.2)):=by
  rcases hown.2 with⟨hv,hz⟩|⟨g,cap,cur,rfl,hbg,hg,hnc,hcm,hcs,htake⟩
  . have hL:L= []:=List.length_eq_zero_iff.1 hz;subst hL;exact⟨none,0,hv,fun k x hx=>by simp at hx⟩
  . refine⟨some ⟨g,0,none⟩,cap,rfl,fun k x hx=>⟨g,0,rfl,(Array.getElem?_eq_some_iff.1 hg).1, ?_⟩⟩;have:=hown.cells (g:=g) rfl k (.int .i64 x.2) (by simp[hx]);rw[Go.WideShapes.add_plain,Nat.zero_add]at this;rw[Nat.zero_add];exact this
 have hb1':=qz hb1;have H0:Hid ((⟨#[34]⟩:ByteArray).data.toList=34::Ae (L.take 0)):=by show _=_;simp[Ae]
 clear hown hb1;go_wp2_with (fail);go_loopw [4,8] (fun o i wr=> ∃(T:ByteArray) (k:Nat),o=.string T/\i=.int .i64 k/\k<=L.length/\Hid (T.data.toList=34::Ae (L.take k))/\Hid (Below w1.heap.size w1 wr)) (fun _ i _=>L.length - (intOf i).toNat)
 case atStart=>exact⟨_,0,rfl,rfl,Nat.zero_le _,H0,Below.refl _ _⟩
 case round=>
  obtain⟨T,k,rfl,rfl,hk,hT,hbw⟩:=hrel;clear H0;obtain⟨wo,rfl⟩: ∃wo:World,wo=wr:=⟨_,rfl⟩;have hTs:T.size<=6*L.length+1:=by
   have h1:=congrArg List.length hT.out;have h2:=G5 (L.take k);have h3:(L.take k).length<=L.length:=by rw[List.length_take];omega
   have h4:T.data.toList.length=T.size:=by rw[Array.length_toList];rfl
   simp only[List.length_cons]at h1;omega
  by_cases hlt:k<L.length
  . obtain⟨⟨p,r⟩,hx⟩: ∃v,L[k]? =some v:=⟨_,List.getElem?_eq_getElem hlt⟩;obtain⟨g,off,rfl,hg,hc0⟩:=hcells.out k _ hx;have hc:wo.cell? ⟨g,off+k,none⟩=some (.int .i64 r):=(hbw.out.cell (p:=⟨g,off+k,none⟩) hg).trans hc0;have hsc:=HS.out _ (List.mem_of_getElem? hx);unfold Dc at hsc;simp only at hsc;obtain⟨hsc1,hsc2⟩:=hsc;have htk:L.take (k+1)=L.take k++ [(p,r)]:=by rw[List.take_add_one,hx];rfl
    have hsn:Hid (34::Ae (L.take (k+1))=T.data.toList++Ai r):=by
     show _=_;rw[htk,hT.out];simp[Ae]
    have Hsc:=qz hsc2;have hB0:Hid (Below w1.heap.size w1 wo):=hbw;have hN0:Hid (Rn r 0):=fun i hi=>by omega
    clear hT htk hx hc0 hsc2 hbw;go_wp2_with (fail);go_loopw [10] (fun j wr=> ∃n:Nat,j=.int .i64 n/\n<=8/\Hid (Rn r n)/\Hid (Below w1.heap.size w1 wr)) (fun j _=>8 - (intOf j).toNat)
    case atStart=>exact⟨0,rfl,by omega,hN0,hB0⟩
    case round=>
     obtain⟨n,rfl,hn,hno,hbw⟩:=hrel;clear hN0 hB0;rcases(by omega:n=2\/(n≠2/\n<8)\/n=8)with rfl|⟨hn2,hn8⟩|rfl
     . have hno':=qz (hno.out.step (.inl rfl));clear hno hsn hc;go_wp2_with (fail);go_roundw
       case rel=>exact⟨2+1,rfl,by omega,hno',hbw⟩
       case measure=>simp[intOf]
     . obtain⟨c,hcc⟩: ∃c,L6[n]? =some c:=⟨_,List.getElem?_eq_getElem hn8⟩;have hcd:L6.getD n 0=c:=by simp[List.getD,hcc]
       have cC:=qz (Aao n c hcc wr);have hn2':((n:Int)==2)=false:=by simp;omega
       by_cases hcr:c=(r:Int)
       . have hq:Ai r= [92,Ud.getD n 0]:=by
          have:=Vx ⟨n,hn8⟩ hn2;simp only[hcd,hcr,Int.toNat_natCast]at this;exact this
         rw[hq]at hsn;subst hcr;have hlet:=fun w=>Ana n hn8 w;generalize Ud.getD n 0=c8 at hsn hlet;have hT':Hid ((T++⟨#[92]⟩++⟨#[c8]⟩).data.toList=34::Ae (L.take (k+1))):=by
          show _=_;rw[hsn.out,ByteArray.data_append,Array.toList_append,ByteArray.data_append,Array.toList_append];simp
         clear hno hsn hcc hcd hc hq;go_wp2_with (fail);(with_reducible refine cC.out.mono ?_);rintro e w2 ⟨rfl,hb2⟩;have hbw2:=qz (hbw.out.trans (hb2.mono hbw.out.size));clear hb2 hbw cC;have hl2:=hlet w2;clear hlet;go_wp2;go_roundw
         case rel=>exact⟨_,k+1,rfl,by go_num,by omega,hT',hbw2⟩
         case measure=>simp only[intOf];omega
       . have hno':=qz (hno.out.step (.inr (by rw[hcd];exact hcr)));have hcr1:(c==(r:Int))=false:=by simpa using hcr
         have hcr2:(c != (r:Int))=true:=by simpa using hcr
         clear hno hsn hcc hcd hc hcr;go_wp2_with (fail);(with_reducible refine cC.out.mono ?_);rintro e w2 ⟨rfl,hb2⟩;have hbw2:=qz (hbw.out.trans (hb2.mono hbw.out.size));clear hb2 hbw cC;go_wp2;go_roundw
         case rel=>exact⟨n+1,by go_num,by omega,hno',hbw2⟩
         case measure=>simp only[intOf];omega
     . have hq:=Zy hno.out;rw[hq]at hsn;clear hno hc hq;by_cases h32:r<32
       . rw[if_pos h32]at hsn;have hT':Hid ((T++⟨#[92,117,48,48]⟩++⟨#[Mb (r / 16)]⟩++⟨#[Mb (r % 16)]⟩).data.toList=34::Ae (L.take (k+1))):=by
          show _=_;rw[hsn.out,ByteArray.data_append,Array.toList_append,ByteArray.data_append,Array.toList_append,ByteArray.data_append,Array.toList_append];simp
         have hx1:=fun w=>Agy (r / 16) (by omega) w;have hx2:=fun w=>Agy (r % 16) (by omega) w;have hq16:(r:Int) / 16=((r / 16:Nat):Int):=by omega
         have hm16:(r:Int) % 16=((r % 16:Nat):Int):=by omega
         have hq16':(r:Int).tdiv 16=((r / 16:Nat):Int):=by rw[Int.tdiv_eq_ediv_of_nonneg (by omega)];omega
         have hm16':(r:Int).tmod 16=((r % 16:Nat):Int):=by rw[Int.tmod_eq_emod_of_nonneg (by omega)];omega
         have hql:r / 16<2:=by omega
         have hml:r % 16<16:=by omega
         generalize Mb (r / 16)=e1 at*
         generalize Mb (r % 16)=e2 at*
         generalize r / 16=q at*
         generalize r % 16=m at*
         have hw1:IntKind.i64.wrap ((q:Int)+1)=(q:Int)+1:=IntWalk.i64_in _ (by omega);have hw2:IntKind.i64.wrap ((m:Int)+1)=(m:Int)+1:=IntWalk.i64_in _ (by omega);clear hsn;go_wp2_with (fail);go_quiet (fail);have hbw2:=qz (Bx hbw.out nq);clear hx1 hx2 hq16 hm16 hq16' hm16' hw1 hw2 hbw;go_wp2;go_roundw
         case rel=>exact⟨_,k+1,rfl,by go_num,by omega,hT',hbw2⟩
         case measure=>simp only[intOf];omega
       . rw[if_neg h32]at hsn;have cB:=qz (Yl r (by omega) (by omega) (by have:=Hsc.out;omega) wr);have hel:(Lib.encodeRune (r:Int)).length<=4:=St r;obtain⟨X,hX⟩: ∃X:ByteArray,(⟨(Lib.encodeRune (r:Int)).toArray⟩:ByteArray)=X:=⟨_,rfl⟩;have hXs:X.size<=4:=by rw[<-hX];exact hel
         have hT':Hid ((T++X).data.toList=34::Ae (L.take (k+1))):=by
          show _=_;rw[hsn.out,ByteArray.data_append,Array.toList_append,<-hX]
         rw[hX]at cB;clear hsn hel hX;go_wp2_with (fail);(with_reducible refine cB.out.mono ?_);rintro e w2 ⟨rfl,hb2⟩;have hbw2:=qz (hbw.out.trans (hb2.mono hbw.out.size));clear hb2 hbw cB;go_wp2;go_roundw
         case rel=>exact⟨_,k+1,rfl,by go_num,by omega,hT',hbw2⟩
         case measure=>simp only[intOf];omega
  . obtain rfl:k=L.length:=by omega
    have hT':=hT.out;rw[List.take_length]at hT';have hE:(⟨(34::(Ae L++ [34])).toArray⟩:ByteArray)=T++⟨#[34]⟩:=by
     apply ByteArray.ext;rw[ByteArray.data_append];apply Array.ext';rw[Array.toList_append,hT'];simp
    have HE:=qz hE;clear hT hT' hE;go_wp2;go_ret2;exact⟨by rw[HE.out];rfl,hb1'.out.trans (hbw.out.mono hb1'.out.size)⟩
theorem Xp {w:World} {B m:Nat} {v:Value} {ns:List Value} (h:w.ownsRow B 37 6 v m ns):
 ∃la lc,v=.slice la m lc/\(m=0\/ ∃g,la=some ⟨g,0,none⟩/\B<=g/\g<w.heap.size/\ ∀j u,ns[j]? =some u->w.cell? ⟨g,0+j,none⟩=some u):=by
 rcases h.2 with⟨rfl,hz⟩|⟨g,cap,cur,rfl,hbg,hg,_,_,_,_⟩
 . subst hz;exact⟨none,0,rfl,.inl rfl⟩
 . refine⟨_,cap,rfl,.inr ⟨g,rfl,hbg,(Array.getElem?_eq_some_iff.1 hg).1,fun j u hu=> ?_⟩⟩;have:=h.cells (g:=g) rfl j u hu;rw[Go.WideShapes.add_plain]at this;exact this
def Ly (w:World) (v:Val) (e:Ending) (w':World):Prop:=
 (∃la lc,e=.returned (.slice la (within v).length lc)/\(within v= []\/ ∃g off,la=some ⟨g,off,none⟩/\g<w'.heap.size/\Ao w' w'.heap.size (within v) g off))/\Below w.heap.size w w'
theorem Adk (b:Bool) (n:Int) (t:ByteArray) (l:List Val) (o:List (ByteArray×Val)) (la oa:Option Addr) (oc lc:Nat) (w:World) (hl:l= []\/ ∃g off,la=some ⟨g,off,none⟩/\g<w.heap.size/\Ao w w.heap.size l g off)
 (hb:Bf l<=100000000):
 Calls Tryz.prog 183 #[.agg #[.int .i64 5,.bool b,.int .i64 n,.string t,.slice la l.length lc,.slice oa o.length oc]] w (Ly w (.mk 5 b n t l o)):=by
 have hln:=Dt l;have hw:within (.mk 5 b n t l o)=l:=by simp[within]
 by_cases h0:l= []
 . subst h0;clear hl;go_enter Tryz.func183,Tryz.ntmps183;have Hw:=qz hw;clear hw
   cases la
   . go_wp2;go_ret;exact⟨⟨none,0,by rw[Hw.out];rfl,.inl Hw.out⟩,(Below.refl _ _).alloc (Nat.le_refl _) _⟩
   . go_wp2;go_ret;exact⟨⟨none,0,by rw[Hw.out];rfl,.inl Hw.out⟩,(Below.refl _ _).alloc (Nat.le_refl _) _⟩
 . obtain⟨g,off,rfl,hg,hL⟩:=hl.resolve_left h0;obtain⟨i0,hi,hz0,hz1,hz2⟩:=info_parts T9;obtain⟨ns,hrow,hcells⟩:=Ao.row hL;obtain⟨hnl,hno⟩:=hrow.len;obtain⟨HI,HZ0,HZ1,HZ2,Hrow,Hcells,Hw,HN,HO⟩:=hid9 hi hz0 hz1 hz2 hrow hcells hw hnl hno;clear hi hz0 hz1 hz2 hrow hcells hw hnl hno hl hL;obtain⟨w1,hw1⟩: ∃w1,w.alloc (.cells #[.int .i64 5,.bool b,.int .i64 n,.string t,.slice (some ⟨g,off,none⟩) l.length lc,.slice oa o.length oc] 37)=w1:=⟨_,rfl⟩;have HB1:Hid (Below w.heap.size w w1):=hw1▸(Below.refl _ _).alloc (Nat.le_refl _) _;have HX1:=qz (show w1.heap[w.heap.size]? =some (.cells #[.int .i64 5,.bool b,.int .i64 n,.string t,.slice (some ⟨g,off,none⟩) l.length lc,.slice oa o.length oc] 37 (0,0))from by rw[<-hw1];exact heap_alloc_new _ _);have HS1:=qz (show w1.heap.size=w.heap.size+1 from by rw[<-hw1];simp);have Hown:Hid (w1.ownsRow (w.heap.size+1) 37 6 (.slice none 0 0) 0 []):=World.ownsRow_nil _ _ _ _;subst hw1;go_enter Tryz.func183,Tryz.ntmps183;go_wp2_with (at_builtin;refine wpList_append_own _ rfl (.tmp 8) (.tmp 10) 34 rfl (w.heap.size+1) 37 i0 (.agg #[.int .i64 0,.bool false,.int .i64 0,.string ⟨#[]⟩,.slice none 0 0,.slice none 0 0]) 6 88 Tryz.underlying34 HI.out HZ0.out HZ1.out HZ2.out rfl (by decide) (.slice none 0 0) 0 [] rfl Hown.out ⟨g,off,none⟩ l.length lc ns rfl HN.out ?c1 ?c2 ?c3 ?c4 ?c5 ?_)
   case c1=>
    intro j u hj;rw[Go.WideShapes.add_plain];exact(HB1.out.cell (p:=⟨g,off+j,none⟩) hg).trans (Hcells.out j u hj)
   case c2=>exact HO.out
   case c3=>unfold maxLen;omega
   case c4=>omega
   case c5=>simp
   intro v' w2 hown' hgrow _;obtain⟨la',lc',rfl,hsl⟩:=Xp hown';have HbA:=qz ((HB1.out).grown hgrow (by rw[HS1.out];omega) (fun k hk=>by simp[Value.ownBlock]at hk));have hbox2:w2.heap[w.heap.size]? =some (.cells #[.int .i64 5,.bool b,.int .i64 n,.string t,.slice (some ⟨g,off,none⟩) l.length lc,.slice oa o.length oc] 37 (0,0)):=(hgrow.block _ (by rw[HS1.out];omega) (by simp[Value.ownBlock])).trans HX1.out;have d0:w2.cell? ⟨w.heap.size,0,none⟩=some (.int .i64 5):=by rw[Lib.cell_of_heap hbox2];rfl
   have Hsl:=qz hsl;clear hown' hgrow hsl hbox2;go_wp2;go_ret;refine⟨⟨la',lc',by rw[Hw.out];rfl, ?_⟩,HbA.out⟩;rw[Hw.out];refine .inr ?_;rcases Hsl.out with h|⟨g',rfl,_,hg',hc'⟩
   . exact absurd (List.length_eq_zero_iff.1 h) h0
   . exact⟨g',0,rfl,hg',Hrow.out.holds (fun v cs h=>Ac.more HbA.out.size _ _ (h.below HbA.out)) hc'⟩
theorem Afy (b:Bool) (n:Int) (t:ByteArray) (l:List Val) (o:List (ByteArray×Val)) (la oa:Option Addr) (oc lc:Nat) (w:World) (hl:o= []\/ ∃g off,oa=some ⟨g,off,none⟩/\g<w.heap.size/\Ap w w.heap.size o g off)
 (hb:Ab o<=100000000):
 Calls Tryz.prog 183 #[.agg #[.int .i64 6,.bool b,.int .i64 n,.string t,.slice la l.length lc,.slice oa o.length oc]] w (Ly w (.mk 6 b n t l o)):=by
 have hln:=Bc o;have Hw:=qz (show within (.mk 6 b n t l o)=o.map (·.2)from by simp[within]);obtain⟨i0,hi,hz0,hz1,hz2⟩:=info_parts T9;obtain⟨HI,HZ0,HZ1,HZ2⟩:=hid4 hi hz0 hz1 hz2;clear hi hz0 hz1 hz2;obtain⟨w1,hw1⟩: ∃w1,w.alloc (.cells #[.int .i64 6,.bool b,.int .i64 n,.string t,.slice la l.length lc,.slice oa o.length oc] 37)=w1:=⟨_,rfl⟩;have HB1:Hid (Below w.heap.size w w1):=hw1▸(Below.refl _ _).alloc (Nat.le_refl _) _;have HX1:=qz (show w1.heap[w.heap.size]? =some (.cells #[.int .i64 6,.bool b,.int .i64 n,.string t,.slice la l.length lc,.slice oa o.length oc] 37 (0,0))from by rw[<-hw1];exact heap_alloc_new _ _);have Hown:Hid (w1.ownsRow (w.heap.size+1) 37 6 (.slice none 0 0) 0 []):=World.ownsRow_nil _ _ _ _;have HR0:Hid (Mq w w.heap.size ((o.take 0).map (·.2)) []):=rfl;subst hw1;go_enter Tryz.func183,Tryz.ntmps183;go_wp2_with (fail);go_loopw [3,4] (fun v1 i wr=> ∃(k:Nat) (ns:List Value),i=.int .i64 k/\k<=o.length/\Hid (wr.ownsRow (w.heap.size+1) 37 6 v1 k ns)/\Hid (Mq w w.heap.size ((o.take k).map (·.2)) ns)/\Hid (Below w.heap.size w wr)/\
  Hid (wr.heap[w.heap.size]? =some (.cells #[.int .i64 6,.bool b,.int .i64 n,.string t,.slice la l.length lc,.slice oa o.length oc] 37 (0,0)))) (fun _ i _=>o.length - (intOf i).toNat)
 case atStart=>exact⟨0, [],rfl,Nat.zero_le _,Hown,HR0,HB1,HX1⟩
 case round=>
  obtain⟨k,ns,rfl,hk,hown,hrow,hbw,hbx⟩:=hrel;clear Hown HR0 HB1 HX1;have b5:wr.cell? ⟨w.heap.size,5,none⟩=some (.slice oa o.length oc):=by rw[Lib.cell_of_heap hbx.out];rfl
  have hz:w.heap.size<wr.heap.size:=(Array.getElem?_eq_some_iff.1 hbx.out).1;by_cases hlt:k<o.length
  . obtain⟨g,off,rfl,hg,hL⟩: ∃g off,oa=some ⟨g,off,none⟩/\g<w.heap.size/\Ap w w.heap.size o g off:=by
     rcases hl with rfl|h
     . simp at hlt
     . exact h
    obtain⟨⟨key,x⟩,hx⟩: ∃v,o[k]? =some v:=⟨_,List.getElem?_eq_getElem hlt⟩;have htk:(o.take (k+1)).map (·.2)=(o.take k).map (·.2)++ [x]:=by rw[List.take_add_one,hx];simp
    obtain⟨k',b',n',t',l',o'⟩:=x;obtain⟨la',lc',oa',oc',hvs,_,e1,e2,e3,e4,e5,e6⟩:=hL.seven hx;have cc:=fun j (u:Value) (h:w.cell? ⟨g,j,none⟩=some u)=>(hbw.out.cell (p:=⟨g,j,none⟩) hg).trans h;have c1:=cc _ _ e1;have c2:=cc _ _ e2;have c3:=cc _ _ e3;have c4:=cc _ _ e4;have c5:=cc _ _ e5;have c6:=cc _ _ e6;have hrow':=hrow.out.snoc hvs;rw[<-htk]at hrow';have Hrow:=qz hrow';have hno:=qz hvs.len.2;clear hrow' hrow htk hx hL hg e1 e2 e3 e4 e5 e6 cc hvs;go_wp2_with (at_builtin;refine wpList_append_own _ rfl (.tmp 22) (.tmp 29) 34 rfl (w.heap.size+1) 37 i0 (.agg #[.int .i64 0,.bool false,.int .i64 0,.string ⟨#[]⟩,.slice none 0 0,.slice none 0 0]) 6 88 Tryz.underlying34 HI.out HZ0.out HZ1.out HZ2.out rfl (by decide) u3 k ns rfl (hown.out.alloc _) ⟨wr.heap.size,0,none⟩ 1 1 (Ei k' b' n' t' la' l'.length lc' oa' o'.length oc') rfl rfl ?c1 ?c2 ?c3 ?c4 ?c5 ?_)
    case c1=>
     intro j u hj;rw[Go.WideShapes.add_plain];rw[Lib.cell_of_heap (heap_alloc_new wr (.cells #[.int .i64 k',.bool b',.int .i64 n',.string t',.slice la' l'.length lc',.slice oa' o'.length oc'] 37)),Nat.zero_add];simpa using hj
    case c2=>exact hno.out
    case c3=>unfold maxLen;omega
    case c4=>omega
    case c5=>simp;omega
    intro v' w2 hown' hgrow _;have ho':=qz hown';have hbA:=qz ((hbw.out.alloc (by omega) (.cells #[.int .i64 k',.bool b',.int .i64 n',.string t',.slice la' l'.length lc',.slice oa' o'.length oc'] 37)).grown hgrow (by simp;omega) (fun q hq=>by have:=(hown.out.lt q hq).1;omega));have hbx2:Hid (w2.heap[w.heap.size]? =some (.cells #[.int .i64 6,.bool b,.int .i64 n,.string t,.slice la l.length lc,.slice (some ⟨g,off,none⟩) o.length oc] 37 (0,0))):=by
     show _=_;rw[hgrow.block _ (by simp;omega) (fun e=>by have:=(hown.out.lt _ e.symm).1;omega),Lib.alloc_old wr _ _ hz];exact hbx.out
    clear hown' hgrow hown hbw hbx b5 c1 c2 c3 c4 c5 c6 hno;go_wp2;go_roundw
    case rel=>exact⟨k+1,_,by go_num,by omega,ho',Hrow,hbA,hbx2⟩
    case measure=>simp only[intOf];omega
  . obtain rfl:k=o.length:=by omega
    have hr':=hrow.out;rw[List.take_length]at hr';obtain⟨la',lc',rfl,hsl⟩:=Xp hown.out;obtain⟨Hsl,HR⟩:=hid2 hsl hr';have Hlm:Hid (o.length=(o.map (·.2)).length):=by show _=_;simp
    clear hr' hrow hsl hown hl;go_wp2;go_ret;refine⟨⟨la',lc',by rw[Hw.out,<-Hlm.out];rfl, ?_⟩,hbw.out⟩;rw[Hw.out];rcases Hsl.out with h|⟨g',rfl,_,hg',hc'⟩
    . exact .inl (by rw[List.length_eq_zero_iff.1 h];rfl)
    . exact .inr ⟨g',0,rfl,hg',HR.out.holds (fun v cs h=>Ac.more hbw.out.size _ _ (h.below hbw.out)) hc'⟩
theorem Vg (v:Val) (cs:List Value) (w:World) (hV:Ac w w.heap.size v cs) (hb:v.bulk<=100000000):
 Calls Tryz.prog 183 #[.agg cs.toArray] w (Ly w v):=by
 obtain⟨k,b,n,t,l,o⟩:=v;simp only[Ac]at hV;obtain⟨la,lc,oa,oc,rfl,hla,hoa⟩:=hV;simp only[Val.bulk]at hb;by_cases h5:k=5
 . subst h5;exact Adk b n t l o la oa oc lc w hla (by omega)
 by_cases h6:k=6
 . subst h6;exact Afy b n t l o la oa oc lc w hoa (by omega)
 have Hw:=qz (show within (.mk k b n t l o)= []from by simp[within,h5,h6]);have e5:(k==5)=false:=by simpa using h5
 have e6:(k==6)=false:=by simpa using h6
 clear hla hoa hb h5 h6;go_enter Tryz.func183,Tryz.ntmps183;go_wp2;go_ret;exact⟨⟨none,0,by rw[Hw.out];rfl,.inl Hw.out⟩,(Below.refl _ _).alloc (Nat.le_refl _) _⟩
theorem Ww: ∀o:List (ByteArray×Val),I9 o=E7 (o.map (·.2))
 | []=>rfl
 |(k,v)::r=>by simp only[I9,Abd,List.map_cons,E7,Ww r]
theorem Yx (v:Val):Ev v=1+E7 (within v):=by
 obtain⟨k,b,n,t,l,o⟩:=v;simp only[Ev,within];by_cases h5:k=5
 . simp[h5]
 by_cases h6:k=6
 . simp[h6,Ww]
 . simp[h5,h6,E7]
theorem Wu: ∀o:List (ByteArray×Val),Bf (o.map (·.2))<=Ab o
 | []=>by simp[Bf]
 |(k,v)::r=>by
  have:=Wu r;simp only[List.map_cons,Bf,Ab,Ib];omega
theorem Adj (v:Val):Bf (within v)<=v.bulk:=by
 obtain⟨k,b,n,t,l,o⟩:=v;have:=Wu o;simp only[within,Val.bulk]
 split
 . omega
 split
 . omega
 . simp[Bf]
def Adt (v:Val):Prop:= ∀(cs:List Value) (w:World),Ac w w.heap.size v cs->v.bulk<=100000000->
    Calls Tryz.prog 113 #[.agg cs.toArray] w fun e w'=>e=.returned (.int .i64 (Ev v))/\Below w.heap.size w w'
theorem Afi (v:Val) (IH: ∀x ∈ within v,Adt x):Adt v:=by
 intro cs w hV hb;have hV':=hV;have hbw:=Adj v;have hlw:=Dt (within v);have hdw:=P2 (within v) (fun x _=>Lg x);have hW0:=fun w' (h:Below w.heap.size w w')=>Vg v cs w' (Ac.more h.size _ _ (hV.below h)) hb;rw[Yx];unfold Ly at hW0;generalize within v=L at*
 obtain⟨k,b,n,t,l,o⟩:=v;simp only[Ac]at hV';obtain⟨la,lc,oa,oc,rfl,_,_⟩:=hV';obtain⟨HI,HW⟩:=hid2 IH hW0;obtain⟨M,hM⟩: ∃M,E7 L=M:=⟨_,rfl⟩;rw[hM]at hdw ⊢;have H0:Hid (max 0 (E7 (L.drop 0))=M):=by show _=_;rw[List.drop_zero,hM];simp
 have HB1:Hid (Below w.heap.size w (w.alloc (.cells (Ei k b n t la l.length lc oa o.length oc).toArray 37))):=(Below.refl _ _).alloc (Nat.le_refl _) _;clear IH hW0 hM hV;go_enter Tryz.func113,Tryz.ntmps113;go_wp2_with (fail);(with_reducible refine(HW.out _ HB1.out).mono ?_);rintro e w2 ⟨⟨la',lc',rfl,hsl⟩,hb2⟩;have Hsl:=qz hsl;have HB2:=qz (HB1.out.trans (hb2.mono HB1.out.size));clear hsl hb2 HB1 HW;go_wp2_with (fail);have HBr:Hid (Below w2.heap.size w2 w2):=Below.refl _ _;go_loopw [3,5] (fun m i wr=> ∃D k:Nat,m=.int .i64 D/\i=.int .i64 k/\k<=L.length/\Hid (max D (E7 (L.drop k))=M)/\D<=M/\Hid (Below w2.heap.size w2 wr)) (fun _ i _=>L.length - (intOf i).toNat)
 case atStart=>exact⟨0,0,rfl,rfl,Nat.zero_le _,H0,Nat.zero_le _,HBr⟩
 case round=>
  obtain⟨D,k,rfl,rfl,hk,hD,hDM,hbw⟩:=hrel;clear H0 HBr;by_cases hlt:k<L.length
  . obtain⟨g,off,rfl,hg,hL⟩: ∃g off,la'=some ⟨g,off,none⟩/\g<w2.heap.size/\Ao w2 w2.heap.size L g off:=by
     rcases Hsl.out with h|h
     . rw[h]at hlt;simp at hlt
     . exact h
    obtain⟨x,hx⟩: ∃v,L[k]? =some v:=⟨_,List.getElem?_eq_getElem hlt⟩;have hmem:x ∈ L:=List.mem_of_getElem? hx;have hbv:=D9 hmem;have hdv:=Lg x;have hdrop:L.drop k=x::L.drop (k+1):=Ds hx;have hD':=hD.out;rw[hdrop]at hD';simp only[E7]at hD';have IHx:=HI.out x hmem;have hz:=hbw.out.size;obtain⟨m,hm⟩: ∃m,Ev x=m:=⟨_,rfl⟩;obtain⟨k',b',n',t',l',o'⟩:=x;obtain⟨la',lc',oa',oc',hvs,c0,c1,c2,c3,c4,c5⟩:=(hL.below hg hbw.out).six hx;have CT:=IHx _ wr (Ac.more hz _ _ hvs) (by omega);rw[hm]at CT hD' hdv;have hCT:=qz CT;have Hn:Hid (max (max D m) (E7 (L.drop (k+1)))=M):=by show _=_;omega
    have hmM:max D m<=M:=by omega
    clear CT hD hD' hdrop IHx hm hvs hx hmem hL hg hdv hbv;by_cases hgt:D<m
    . have e1:max D m=m:=by omega
      rw[e1]at Hn hmM;clear e1;go_wp2_with (fail);(with_reducible refine hCT.out.mono ?_);rintro e w4 ⟨rfl,hb4⟩;have hbw4:=qz (hbw.out.trans (hb4.mono hz));clear hb4 hbw hCT;go_wp2;go_roundw
      case rel=>exact⟨m,k+1,rfl,by go_num,by omega,Hn,hmM,hbw4⟩
      case measure=>simp only[intOf];omega
    . have e1:max D m=D:=by omega
      rw[e1]at Hn hmM;clear e1;go_wp2_with (fail);(with_reducible refine hCT.out.mono ?_);rintro e w4 ⟨rfl,hb4⟩;have hbw4:=qz (hbw.out.trans (hb4.mono hz));clear hb4 hbw hCT;go_wp2;go_roundw
      case rel=>exact⟨D,k+1,rfl,by go_num,by omega,Hn,hmM,hbw4⟩
      case measure=>simp only[intOf];omega
  . obtain rfl:k=L.length:=by omega
    have hD':=hD.out;rw[List.drop_length]at hD';simp only[E7]at hD';obtain rfl:D=M:=by omega
    have Hc:=qz (show(D:Int)+1=((1+D:Nat):Int)from by omega);clear hD hD';go_wp2;go_ret;exact⟨by rw[<-Hc.out];rfl,HB2.out.trans (hbw.out.mono HB2.out.size)⟩
theorem Acw: ∀v,Adt v:=by
 refine Val.ind ?_;intro k b n t l o IHl IHo;refine Afi _ (fun x hx=> ?_);simp only[within]at hx
 split at hx
 . exact IHl x hx
 split at hx
 . obtain⟨m,hm,rfl⟩:=List.mem_map.1 hx;exact IHo m hm
 . cases hx
theorem At.lit {S0:Nat->Prop} {b:Nat} {t:TypeId} {w:World} {d:D} {cs:Array Value} (hb:b<=w.heap.size) (hd:d.cells=cs.size) (h:Ah (fun i=>S0 i/\i≠w.heap.size) (w.alloc (.cells cs t)) d cs.toList):
 At S0 b t cs.size (w.alloc (.cells cs t)) [d] (.slice (some ⟨w.heap.size,0,none⟩) 1 1):=by
 refine⟨cs.toList,⟨by simp,.inr ⟨w.heap.size,1,cs,rfl,hb,heap_alloc_new w _,Nat.le_refl _,by unfold maxLen;omega,by simp, ?_⟩⟩,fun x hx=> ?_,Aw.one (h.mono fun i _ hi=>⟨hi.1,fun e=>hi.2 (Option.some.inj (e:some w.heap.size=some i)).symm⟩)⟩
 . simp only[List.length_cons,List.length_nil,Nat.zero_add,Nat.one_mul];rw[<-Array.length_toList,List.take_length]
 . simp only[List.mem_cons,List.not_mem_nil,or_false]at hx;rw[hx];exact hd
section
variable {P:Program}
theorem Z3 {t ty e:TypeId} {i:TypeInfo} {z:Value} {sz bytes:Nat} (ht:P.underlying t=some (.slice e)) (hi:P.info? e=some i) (hz:i.zero=some z) (hsize:i.size=sz) (hby:i.bytes=bytes) (hzs:z.cells.size=sz) (hsz:0<sz)
 {S0:Nat->Prop} {b:Nat} {w:World} {l:List D} {V:Value} (hrow:At S0 b e sz w l V) (hbw:b<=w.heap.size) {dl:List D} {cs:List Value} (hd: ∀d ∈ dl,d.cells=sz) (hx:Aw (fun i=>S0 i/\V.ownBlock≠some i) w dl cs)
 {B:Nat} {A:Option Addr} {n c:Nat} (hr:Bu w B sz A n cs) (hn:n=dl.length) (h63:l.length+n<=maxLen) (hbytes:(l.length+n)*bytes<=140737488355328):
 ∃V' w6,(Builtin.append_ #[t,t] ty #[V,.slice A n c]).run P w=.ok V' w6/\At S0 b e sz w6 (l++dl) V'/\w.grownBy w6 V.ownBlock/\(V'.ownBlock=V.ownBlock\/V'.ownBlock=some w.heap.size):=by
 subst hn;obtain⟨ns,h1,h2,h3⟩:=hrow;obtain⟨V',w6,hrun,g1,g2,g3⟩:=Kf (P:=P) w b t ty e i z sz bytes ht hi hz hsize hby hzs hsz V l.length ns h1 B A dl.length c cs hr hx.now.len.2 h63 hbytes hbw;refine⟨V',w6,hrun,⟨ns++cs,by rw[List.length_append];exact g1, ?_, ?_⟩,g2,g3⟩
 . intro x hx';rcases List.mem_append.1 hx' with hx'|hx'
   . exact h2 x hx'
   . exact hd x hx'
 . have key: ∀p:Addr,V.ownBlock≠some p.block->p.block<w.heap.size->V'.ownBlock≠some p.block:=by
    intro p p1 p2;rcases g3 with e3|e3
    . rw[e3];exact p1
    . rw[e3];intro e4;have:=Option.some.inj e4;omega
   have hag: ∀w'':World,w6.heap.size<=w''.heap.size->(∀p:Addr,S0 p.block/\V'.ownBlock≠some p.block->p.block<w6.heap.size->w''.cell? p=w6.cell? p)-> ∀p:Addr,S0 p.block/\V.ownBlock≠some p.block->p.block<w.heap.size->w''.cell? p=w.cell? p:=by
    intro w'' k1 k2 p p1 p2;rw[k2 p ⟨p1.1,key p p1.2 p2⟩ (Nat.lt_of_lt_of_le p2 g2.size)];exact World.cell?_of_block (g2.block p.block p2 (fun e=>p1.2 e.symm))
   intro w'' k1 k2;have a1:=Af.more (h3 w'' (Nat.le_trans g2.size k1) (hag w'' k1 k2)) g2.size;have a2:=Af.more (hx w'' (Nat.le_trans g2.size k1) (hag w'' k1 k2)) g2.size;exact a1.app a2
theorem Adm {o:Oper} {a:Act} {w:World} {K:Act->World->Prop} {Q:Exit->Act->World->Prop} (s x:Operand) (t:TypeId) {e:TypeId}
 (ho:o.op=.call {callee:=.builtin .append,args:= #[s,x],argTypes:= #[t,t]}) {i:TypeInfo} {z:Value} {sz bytes:Nat} (ht:P.underlying t=some (.slice e)) (hi:P.info? e=some i) (hz:i.zero=some z) (hsize:i.size=sz) (hby:i.bytes=bytes) (hzs:z.cells.size=sz) (hsz:0<sz)
 {S0:Nat->Prop} {b:Nat} {l:List D} {V:Value} (hs:a.eval s=V) (hrow:At S0 b e sz w l V) (hbw:b<=w.heap.size) {dl:List D} {cs:List Value} (hd: ∀d ∈ dl,d.cells=sz) (hf:Aw (fun i=>S0 i/\V.ownBlock≠some i) w dl cs)
 {B:Nat} {A:Option Addr} {n c:Nat} (hx:a.eval x=.slice A n c) (hr:Bu w B sz A n cs) (hn:n=dl.length) (h63:l.length+n<=maxLen) (hbytes:(l.length+n)*bytes<=140737488355328)
 (h: ∀V' w6,At S0 b e sz w6 (l++dl) V'->w.grownBy w6 V.ownBlock->(V'.ownBlock=V.ownBlock\/V'.ownBlock=some w.heap.size)->K (a.put o.dst V') w6):o.wp P a w K Q:=by
 obtain⟨V',w6,hrun,g1,g2,g3⟩:=Z3 (ty:=o.type) (c:=c) ht hi hz hsize hby hzs hsz hrow hbw hd hf hr hn h63 hbytes;unfold Oper.wp execOp;simp only[ho,resolve,invoke,builtin,Sem.run_bind,Sem.run_pure,Result.andThen_ok,List.map_toArray,List.map_cons,List.map_nil,hs,hx,hrun];exact h V' w6 g1 g2 g3
theorem C4 {ops:Array Oper} {rest:List Oper} {o:Oper} {a:Act} {w:World} {Q:Exit->Act->World->Prop} (hgd:o.guard=none) (s x:Operand) (t:TypeId) {e:TypeId}
 (ho:o.op=.call {callee:=.builtin .append,args:= #[s,x],argTypes:= #[t,t]}) {i:TypeInfo} {z:Value} {sz bytes:Nat} (ht:P.underlying t=some (.slice e)) (hi:P.info? e=some i) (hz:i.zero=some z) (hsize:i.size=sz) (hby:i.bytes=bytes) (hzs:z.cells.size=sz) (hsz:0<sz)
 {S0:Nat->Prop} {b:Nat} {l:List D} {V:Value} (hs:a.eval s=V) (hrow:At S0 b e sz w l V) (hbw:b<=w.heap.size) {dl:List D} {cs:List Value} (hd: ∀d ∈ dl,d.cells=sz) (hf:Aw (fun i=>S0 i/\V.ownBlock≠some i) w dl cs)
 {B:Nat} {A:Option Addr} {n c:Nat} (hx:a.eval x=.slice A n c) (hr:Bu w B sz A n cs) (hn:n=dl.length) (h63:l.length+n<=maxLen) (hbytes:(l.length+n)*bytes<=140737488355328)
 (h: ∀V' w6,At S0 b e sz w6 (l++dl) V'->w.grownBy w6 V.ownBlock->(V'.ownBlock=V.ownBlock\/V'.ownBlock=some w.heap.size)->wpList P ops Q rest (a.put o.dst V') w6):wpList P ops Q (o::rest) a w:=
 wpList_plain hgd fun _ hK=>Adm s x t ho ht hi hz hsize hby hzs hsz hs hrow hbw hd hf hx hr hn h63 hbytes fun V' w6 h2 h3 h4=>hK _ _ (h V' w6 h2 h3 h4)
end
end Go.Proofs.YtkmcjfkokoidcaaGreatDoor
namespace Go.Proofs.YtkmcjfkokoidcaaGreatDoor
open Go Go.RowKit Go.Lib
theorem Abw:(Tryz.prog.info? 63).map (fun i=>(i.zero,i.size,i.bytes))=some (some (.agg #[.string ⟨#[]⟩,.int .i64 0,.bool false,.int .i64 0,.string ⟨#[]⟩,.slice none 0 0,.slice none 0 0]),7,104):=by kernel_rfl
theorem Abx (b:Nat) (w:World) (V:Value) (n:Nat) (xs:List Value) (hV:w.ownsRow b 63 7 V n xs) (hb:b<=w.heap.size) (hn:n<=1000) (vb:Nat) (ys:List Value) (hl:ys.length=7) (hvs: ∀j v,ys[j]? =some v->w.cell? ⟨vb,j,none⟩=some v) (h1: ∀u ∈ ys,u.oneCell'=true):
 Calls Tryz.prog 98 #[V,.int .i64 n,.slice (some ⟨vb,0,none⟩) 1 1] w fun e w'=> ∃V',e=.returned V'/\w'.ownsRow b 63 7 V' (n+1) (xs++ys)/\w.grownBy w' V.ownBlock/\(V'.ownBlock=V.ownBlock\/V'.ownBlock=some w.heap.size):=by
 obtain⟨i0,hi0,hz0,hzs,hzb⟩:=info_parts Abw;obtain⟨V',w',hrun,k1,k2,_,k3⟩:=run_append_own_at (P:=Tryz.prog) (w:=w) b 22 22 63 i0 _ 7 104 Tryz.underlying22 hi0 hz0 hzs hzb rfl (by omega) V n xs hV ⟨vb,0,none⟩ 1 1 ys (by omega) (fun j u hj=>by rw[Bn,Nat.zero_add];exact hvs j u hj) h1 (by simp only[maxLen];omega) (by omega) hb;have hV':=hV;rcases hV'.2 with⟨rfl,rfl⟩|⟨g,cap,cur,rfl,hbg,hg,hnc,hcm,_⟩
 . have hP: ∃V2,Ending.returned V'=.returned V2/\w'.ownsRow b 63 7 V2 (0+1) (xs++ys)/\w.grownBy w' (Value.slice none 0 0).ownBlock/\(V2.ownBlock=(Value.slice none 0 0).ownBlock\/V2.ownBlock=some w.heap.size):=⟨V',rfl,k1,k2,k3⟩;have HP:=qz hP;clear hV hV' k1 k2 k3 hP hvs h1;go_enter Tryz.func98,Tryz.ntmps98;go_wp2_with (at_builtin;refine Lib.wpList_append_run _ rfl _ _ _ _ rfl _ _ rfl rfl _ _ hrun ?_);go_ret;exact HP.out
 . have hP: ∃V2,Ending.returned V'=.returned V2/\w'.ownsRow b 63 7 V2 (n+1) (xs++ys)/\w.grownBy w' (Value.slice (some ⟨g,0,none⟩) n cap).ownBlock/\(V2.ownBlock=(Value.slice (some ⟨g,0,none⟩) n cap).ownBlock\/V2.ownBlock=some w.heap.size):=⟨V',rfl,k1,k2,k3⟩;have HP:=qz hP;have hc63:cap<=9223372036854775807:=by simp only[maxLen]at hcm;omega
   clear hV hV' k1 k2 k3 hP hvs h1 hg hcm;go_enter Tryz.func98,Tryz.ntmps98;go_wp2_with (at_builtin;refine Lib.wpList_append_run _ rfl _ _ _ _ rfl _ _ rfl rfl _ _ hrun ?_)
   all_goals(go_ret;exact HP.out)
theorem Ah0 (b:Nat) (w:World) (g n i:Nat) (cur:Array Value) (xs:List Value) (hb:b<=w.heap.size) (hg:w.heap[g]? =some (.cells cur 63 (0,0))) (hcs:cur.size=n*7) (hx:cur.toList.take (n*7)=xs) (hi:i<n) (hn:n<=1000) (h1x: ∀u ∈ xs,u.oneCell'=true)
 (vb:Nat) (ys:List Value) (hl:ys.length=7) (hvs: ∀j v,ys[j]? =some v->w.cell? ⟨vb,j,none⟩=some v) (h1: ∀u ∈ ys,u.oneCell'=true):
 Calls Tryz.prog 98 #[.slice (some ⟨g,0,none⟩) n n,.int .i64 i,.slice (some ⟨vb,0,none⟩) 1 1] w fun e w'=> ∃V',e=.returned V'/\w'.ownsRow b 63 7 V' (n+1) (xs.take (i*7)++ys++xs.drop (i*7))/\Below w.heap.size w w'/\V'.ownBlock=some w.heap.size:=by
 obtain⟨i0,hi0,hz0,hzs,hzb⟩:=info_parts Abw;have hxl:xs.length=n*7:=by rw[<-hx,List.length_take,Array.length_toList,hcs];omega
 have hcl:cur.toList=xs:=by rw[<-hx,List.take_of_length_le];rw[Array.length_toList,hcs];exact Nat.le_refl _
 have hgw:g<w.heap.size:=(Array.getElem?_eq_some_iff.1 hg).1;have hvw:vb<w.heap.size:=World.block_lt_of_cell? w _ (hvs 0 _ (List.getElem?_eq_getElem (by omega)));have hxc: ∀(W:World),W.heap[g]? =w.heap[g]? -> ∀j u,xs[j]? =some u->W.cell? ⟨g,j,none⟩=some u:=fun W hW j u hu=>by
  refine(cell_of_row _ _ _ _ _ _ (hW.trans hg)).trans ?_;rw[<-Array.getElem?_toList,hcl];exact hu
 have hsz:(Tryz.prog.info? 63).map (·.size)=some 7:=by rw[hi0];simp[hzs]
 have hz2: ¬((i:Int)=(n:Int)):=by omega
 have hz3:(n:Int)<(n:Int)+1:=by omega
 have hkk:(n:Int)+1 - (i:Int)=((n+1 - i:Nat):Int):=by omega
 have hik:i+(n+1 - i)=n+1:=by omega
 have hold:(Builtin.firstCells i0.size i (.slice (some ⟨g,0,none⟩) i n)).run Tryz.prog w.drew=.ok (xs.take (i*7)).toArray w.drew:=by
  rw[hzs];refine run_firstCells_some w.drew 7 i ⟨g,0,none⟩ i n (xs.take (i*7)) (by rw[List.length_take];omega) (fun j v hj=> ?_);rw[Bn,Nat.zero_add];rw[List.getElem?_take]at hj
  split at hj
  . exact hxc w.drew rfl j v hj
  . cases hj
 have hrz: ∀ty,(Builtin.append_ #[22,3] ty #[.slice (some ⟨g,0,none⟩) i n,.int .i64 ((n:Int)+1 - (i:Int))]).run Tryz.prog w=.ok (.slice (some ⟨w.heap.size,0,none⟩) (n+1) (grownCap w (n+1) n 63)) (w.drew.alloc (.cells ((xs.take (i*7)).toArray++Builtin.zeroCells (Value.cells (.agg #[.string ⟨#[]⟩,.int .i64 0,.bool false,.int .i64 0,.string ⟨#[]⟩,.slice none 0 0,.slice none 0 0])) (n+1 - i)++Builtin.zeroCells (Value.cells (.agg #[.string ⟨#[]⟩,.int .i64 0,.bool false,.int .i64 0,.string ⟨#[]⟩,.slice none 0 0,.slice none 0 0])) (grownCap w (n+1) n 63 - (n+1))) 63)):=fun ty=>by
  have h:=Lib.run_append_grow_zeros (P:=Tryz.prog) w 22 3 ty 63 i0 _ .i64 .i64 Tryz.underlying22 Tryz.underlying3 hi0 hz0 (some ⟨g,0,none⟩) i n (xs.take (i*7)) hold (n+1 - i) (by omega) (by omega) (by omega) (by omega) (by rw[hzb];omega) (by rw[hzb,hik];exact growslice_fits (by omega) (by omega));rw[hik]at h;rw[hkk];exact h
 obtain⟨G,hG⟩: ∃G,G=grownCap w (n+1) n 63:=⟨_,rfl⟩;have hGn:n+1<=G:=by rw[hG];exact grownCap_ge w _ _ _
 have hG63:G<=maxLen:=by rw[hG];exact grownCap_le_maxLen w (n+1) n 63 (by unfold maxLen;omega)
 have hGm:G<=9223372036854775807:=by simp only[maxLen]at hG63;omega
 rw[<-hG]at hrz;obtain⟨MM,hMM⟩: ∃MM:List Value,(Builtin.zeroCells (Value.cells (.agg #[.string ⟨#[]⟩,.int .i64 0,.bool false,.int .i64 0,.string ⟨#[]⟩,.slice none 0 0,.slice none 0 0])) (n+1 - i)).toList=MM:=⟨_,rfl⟩;obtain⟨ZZ,hZZ⟩: ∃ZZ:List Value,(Builtin.zeroCells (Value.cells (.agg #[.string ⟨#[]⟩,.int .i64 0,.bool false,.int .i64 0,.string ⟨#[]⟩,.slice none 0 0,.slice none 0 0])) (G - (n+1))).toList=ZZ:=⟨_,rfl⟩;have hMl:MM.length=(n+1 - i)*7:=by rw[<-hMM];simp[Builtin.zeroCells,Value.cells];try omega
 have hZl:ZZ.length=(G - (n+1))*7:=by rw[<-hZZ];simp[Builtin.zeroCells,Value.cells];try omega
 have hROW:(xs.take (i*7)).toArray++Builtin.zeroCells (Value.cells (.agg #[.string ⟨#[]⟩,.int .i64 0,.bool false,.int .i64 0,.string ⟨#[]⟩,.slice none 0 0,.slice none 0 0])) (n+1 - i)++Builtin.zeroCells (Value.cells (.agg #[.string ⟨#[]⟩,.int .i64 0,.bool false,.int .i64 0,.string ⟨#[]⟩,.slice none 0 0,.slice none 0 0])) (G - (n+1))=(xs.take (i*7)++MM++ZZ).toArray:=by
  apply Array.ext';simp[<-hMM,<-hZZ]
 rw[hROW]at hrz;obtain⟨R0,hR0⟩: ∃R:List Value,xs.take (i*7)++MM++ZZ=R:=⟨_,rfl⟩;rw[hR0]at hrz;have hRl:R0.length=G*7:=by
  rw[<-hR0,List.length_append,List.length_append,List.length_take,hMl,hZl,hxl];omega
 obtain⟨R1,hR1⟩: ∃R:List Value,R0.take (i*7)++ys++R0.drop (i*7+ys.length)=R:=⟨_,rfl⟩;obtain⟨R2,hR2⟩: ∃R:List Value,R1.take ((i+1)*7)++xs.drop (i*7)++R1.drop ((i+1)*7+(xs.drop (i*7)).length)=R:=⟨_,rfl⟩;have hR1l:R1.length=G*7:=by
  rw[<-hR1,List.length_append,List.length_append,List.length_take,List.length_drop,hRl,hl];omega
 have hRes:R2=xs.take (i*7)++ys++xs.drop (i*7)++ZZ:=by
  rw[<-hR2,<-hR1,<-hR0];exact U1 _ _ _ ys (xs.drop (i*7)) (i*7) ((i+1)*7) (by rw[List.length_take,hxl];omega) (by rw[hMl,hl,List.length_drop,hxl];omega) (by rw[hl];omega)
 have hR2l:R2.length=G*7:=by
  rw[<-hR2,List.length_append,List.length_append,List.length_take,List.length_drop,List.length_drop,hR1l,hxl];omega
 have hcA: ∀(W:World),W.heap[w.heap.size]? =some (.cells R0.toArray 63 (0,0))->(∀j,j<w.heap.size->W.heap[j]? =w.heap[j]?)-> ∀ty o dl dc,o=i*7->dl=n+1 - i->(Builtin.copy_ #[22,22] ty #[.slice (some ⟨w.heap.size,o,none⟩) dl dc,.slice (some ⟨vb,0,none⟩) 1 1]).run Tryz.prog W=.ok (goInt 1) (W.setRow w.heap.size R1.toArray):=fun W hW hk ty o dl dc ho hd=>by
  subst ho hd;have hmin:Nat.min 1 (n+1 - i)=1:=by show min 1 (n+1 - i)=1;omega
  have:=Fc (P:=Tryz.prog) W 22 22 ty 63 7 w.heap.size (i*7) (n+1 - i) dc ⟨vb,0,none⟩ 1 1 R0.toArray 63 ys Tryz.underlying22 hsz hW (by rw[hl,hmin]) (fun j v hj=>by rw[Bn,Nat.zero_add];exact(World.cell?_of_block (hk vb hvw)).trans (hvs j v hj)) (by rw[hl];simp only[List.size_toArray,hRl];omega) h1;rw[hmin]at this;refine this.trans ?_;rw[<-hR1];rfl
 have hcB: ∀(W:World),W.heap[w.heap.size]? =some (.cells R1.toArray 63 (0,0))->(∀j,j<w.heap.size->W.heap[j]? =w.heap[j]?)-> ∀ty o so dl dc sl sc,o=(i+1)*7->so=i*7->dl=n - i->sl=n - i->(Builtin.copy_ #[22,22] ty #[.slice (some ⟨w.heap.size,o,none⟩) dl dc,.slice (some ⟨g,so,none⟩) sl sc]).run Tryz.prog W=.ok (goInt (n - i:Nat)) (W.setRow w.heap.size R2.toArray):=fun W hW hk ty o so dl dc sl sc ho hso hd hs=>by
  subst ho hso hd hs;have hmin:Nat.min (n - i) (n - i)=n - i:=Nat.min_self _;have:=Fc (P:=Tryz.prog) W 22 22 ty 63 7 w.heap.size ((i+1)*7) (n - i) dc ⟨g,i*7,none⟩ (n - i) sc R1.toArray 63 (xs.drop (i*7)) Tryz.underlying22 hsz hW (by rw[List.length_drop,hxl,hmin];omega) (fun j v hj=>by rw[Bn];exact hxc W (hk g hgw) _ v (by rwa [List.getElem?_drop]at hj)) (by rw[List.length_drop,hxl];simp only[List.size_toArray,hR1l];omega) (fun v hv=>h1x v (List.mem_of_mem_drop hv));rw[hmin]at this;refine this.trans ?_;rw[<-hR2]
 have hP: ∀W:World,Below w.heap.size w W->W.heap[w.heap.size]? =some (.cells R2.toArray 63 (0,0))-> ∃V',Ending.returned (.slice (some ⟨w.heap.size,0,none⟩) (n+1) G)=.returned V'/\W.ownsRow b 63 7 V' (n+1) (xs.take (i*7)++ys++xs.drop (i*7))/\Below w.heap.size w W/\V'.ownBlock=some w.heap.size:=fun W hB hW=>
  ⟨_,rfl,Pd hb hW hGn hG63 (by simpa using hR2l) (by
    show List.take _ R2=_;rw[hRes,List.take_left'];rw[List.length_append,List.length_append,List.length_take,List.length_drop,hxl,hl];omega),hB,rfl⟩
 have hGi: ¬(G=i):=by omega
 have hGim: ¬(G=i+1):=by omega
 have hci: ¬(n=i):=by omega
 have hw1:IntKind.i64.wrap ((i:Int)+1)=(i:Int)+1:=by rw[IntKind.wrap_i64];omega
 have hb1:(0:Int)<=(i:Int)+1:=by omega
 have hin:i<=n:=by omega
 have htn:((i:Int)+1).toNat=i+1:=by omega
 have hb3:(i:Int)<=(n:Int):=by omega
 obtain⟨W0,hW0⟩: ∃W:World,(w.alloc (.cells R0.toArray 63)).drew=W:=⟨_,rfl⟩;have hB0:Below w.heap.size w W0:=hW0▸Below.drew ((Below.refl _ _).alloc (Nat.le_refl _) _);have hR0h:W0.heap[w.heap.size]? =some (.cells R0.toArray 63 (0,0)):=hW0▸heap_alloc_new w _;have hcA1:=fun ty dc=>hcA W0 hR0h (fun j hj=>hB0.block j hj) ty _ _ dc rfl rfl;obtain⟨W1,hW1⟩: ∃W:World,W0.setRow w.heap.size R1.toArray=W:=⟨_,rfl⟩;rw[hW1]at hcA1;have hB1:Below w.heap.size w W1.drew:=hW1▸Below.drew (Nv hB0 (Nat.le_refl _) _);have hR1h:W1.drew.heap[w.heap.size]? =some (.cells R1.toArray 63 (0,0)):=hW1▸setRow_heap W0 _ _ _ _ _ hR0h;have hcB1:=fun ty dc sc=>hcB W1.drew hR1h (fun j hj=>hB1.block j hj) ty _ _ _ dc _ sc rfl rfl rfl rfl;have HPf:=qz (hP (W1.drew.setRow w.heap.size R2.toArray) (Nv hB1 (Nat.le_refl _) _) (setRow_heap W1.drew _ _ _ _ _ hR1h));skip;clear hcA hcB hP hold hRes hR2 hR1 hR0 hROW hMM hZZ hMl hZl hxc hcl hx hg hvs h1 h1x hi0 hz0 hzs hzb hRl hR1l hR2l hG hsz hkk hik hxl hcs hG63 hB0 hR0h hB1 hR1h hW1;go_enter Tryz.func98,Tryz.ntmps98;go_wp2_with (at_builtin;refine Lib.wpList_append_run _ rfl _ _ _ _ rfl _ _ rfl rfl _ _ (hrz _) ?_);refine wp_region_held_drew (S:=fun _=>True) (by kernel_rfl) trivial (fun hHeld=> ?_);refine tkH 0 hHeld ?_;refine tkH 1 hHeld ?_;refine tkH 2 hHeld ?_;refine tkH 3 hHeld ?_;refine tkH 4 hHeld ?_;refine tkH 5 hHeld ?_;refine tkH 6 hHeld ?_;refine tkH 7 hHeld ?_;refine Ee 8 fun K hK=> ?_;go_simp;refine hK.out _ _ trivial (fun hHeld=> ?_);clear hK K;refine wpAnyH_done (by kernel_rfl) ?_ _;clear hHeld;go_wp2;go_ret;exact HPf.out
end Go.Proofs.YtkmcjfkokoidcaaGreatDoor
