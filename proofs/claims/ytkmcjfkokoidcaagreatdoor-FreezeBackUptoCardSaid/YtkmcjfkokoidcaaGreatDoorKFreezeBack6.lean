/- Parts: slices.EqualFunc over entries, with tree.Same's function. Condition: bulks of at most 10^8. -/
import Derived.Test.YtkmcjfkokoidcaaGreatDoorKFa17
import Derived.Test.YtkmcjfkokoidcaaGreatDoorKFa26
import Derived.Test.YtkmcjfkokoidcaaGreatDoorKFreezeBack1
import Derived.Test.YtkmcjfkokoidcaaGreatDoorKFreezeBack5
set_option maxHeartbeats 20000000
set_option maxRecDepth 100000
namespace Go.Proofs.YtkmcjfkokoidcaaGreatDoor
open Go Go.RowKit
theorem Ac5 (key1 key2:ByteArray) (v v':Val) (k1:Int) (b1:Bool) (n1:Int) (t1:ByteArray) (la1:Option Addr) (ln1 lc1:Nat) (oa1:Option Addr) (on1 oc1:Nat) (k2:Int) (b2:Bool) (n2:Int) (t2:ByteArray) (la2:Option Addr) (ln2 lc2:Nat) (oa2:Option Addr) (on2 oc2:Nat) (w:World)
 (hv:Ag w w.heap.size (dV v) [.int .i64 k1,.bool b1,.int .i64 n1,.string t1,.slice la1 ln1 lc1,.slice oa1 on1 oc1]) (hv':Ag w w.heap.size (dV v') [.int .i64 k2,.bool b2,.int .i64 n2,.string t2,.slice la2 ln2 lc2,.slice oa2 on2 oc2]) (hb:v.bulk<=100000000) (hb':v'.bulk<=100000000):
 Calls Tryz.prog 61 #[.agg #[.string key1,.int .i64 k1,.bool b1,.int .i64 n1,.string t1,.slice la1 ln1 lc1,.slice oa1 on1 oc1],.agg #[.string key2,.int .i64 k2,.bool b2,.int .i64 n2,.string t2,.slice la2 ln2 lc2,.slice oa2 on2 oc2]] w (Bt (Lo (key1,v) (key2,v')=true) w):=by
 obtain⟨PO,hPO⟩: ∃P:Ending->World->Prop,Bt (Lo (key1,v) (key2,v')=true) w=P:=⟨_,rfl⟩;rw[hPO];have hC:=fun(W:World) (hB:Below w.heap.size w W)=>Adh v v' [.int .i64 k1,.bool b1,.int .i64 n1,.string t1,.slice la1 ln1 lc1,.slice oa1 on1 oc1] [.int .i64 k2,.bool b2,.int .i64 n2,.string t2,.slice la2 ln2 lc2,.slice oa2 on2 oc2] W (Ac.more hB.size _ _ ((Cg _ _ hv).below hB)) (Ac.more hB.size _ _ ((Cg _ _ hv').below hB)) hb hb';obtain⟨w2,hw2⟩: ∃w2,(w.alloc (.cells #[.string key1,.int .i64 k1,.bool b1,.int .i64 n1,.string t1,.slice la1 ln1 lc1,.slice oa1 on1 oc1] 63)).alloc (.cells #[.string key2,.int .i64 k2,.bool b2,.int .i64 n2,.string t2,.slice la2 ln2 lc2,.slice oa2 on2 oc2] 63)=w2:=⟨_,rfl⟩;have hb2:Below w.heap.size w w2:=hw2▸Ct _ _ _;have hx2:Aj w2 w.heap.size 63 #[.string key1,.int .i64 k1,.bool b1,.int .i64 n1,.string t1,.slice la1 ln1 lc1,.slice oa1 on1 oc1]:=hw2▸(Aj.new _ _ _).alloc _;have hy2:Aj w2 (w.heap.size+1) 63 #[.string key2,.int .i64 k2,.bool b2,.int .i64 n2,.string t2,.slice la2 ln2 lc2,.slice oa2 on2 oc2]:=hw2▸Aj.nxt _ _ _ _;have e0:=hx2.cell 0;have f0:=hy2.cell 0;have e1:=hx2.cell 1;have f1:=hy2.cell 1;have e2:=hx2.cell 2;have f2:=hy2.cell 2;have e3:=hx2.cell 3;have f3:=hy2.cell 3;have e4:=hx2.cell 4;have f4:=hy2.cell 4;have e5:=hx2.cell 5;have f5:=hy2.cell 5;have e6:=hx2.cell 6;have f6:=hy2.cell 6;have e7:=hx2.lt;have f7:=hy2.lt;clear hx2 hy2;by_cases hk:key1=key2
 . subst hk;obtain⟨y1,y2,y3,y4⟩:=Akq key1;have hS:Lo (key1,v) (key1,v')=Dj v v':=by simp[Lo]
   rw[hS]at hPO;generalize Dj v v'=B at hC hPO;have HC2:=qz (hC w2 hb2);obtain⟨HPO,Hb2⟩:=hid2 hPO hb2;clear hPO hb2;clear hC hv hv' hS;go_enter Tryz.func61,Tryz.ntmps61;go_wp2_with (fail);(with_reducible refine(HC2.out).mono ?_);rintro e w3 ⟨c,rfl,hc,hb3⟩;have HP:Hid (PO (.returned (.bool c)) w3):=by
    show PO _ _;rw[<-HPO.out];exact⟨c,rfl,hc,Hb2.out.trans (hb3.mono Hb2.out.size)⟩
   clear hc hb3 hw2;go_wp2;exact HP.out
 . obtain⟨y1,y2,y3,y4⟩:=Akr hk;have HP:Hid (PO (.returned (.bool false)) w2):=by
    show PO _ _;rw[<-hPO];exact Bt.no (by simp[Lo,hk]) hb2
   clear hC hv hv' hk hPO hb2;go_enter Tryz.func61,Tryz.ntmps61;go_wp2;exact HP.out
theorem Ahn (l l':List A5) (a a':Option Addr) (n c n' c':Nat) (w:World) (h:Ag w w.heap.size (.row 7 (dO l)) [.slice a n c]) (h':Ag w w.heap.size (.row 7 (dO l')) [.slice a' n' c']) (hb:Ab l<=100000000) (hb':Ab l'<=100000000):
 Calls Tryz.prog 60 #[.slice a n c,.slice a' n' c',.func (.func 61) #[] #[]] w (Bt (En l l'=true) w):=by
 obtain⟨PO,hPO⟩: ∃P:Ending->World->Prop,Bt (En l l'=true) w=P:=⟨_,rfl⟩;rw[hPO];have hls:=Bc l;have hn:=h.row_len;have hn':=h'.row_len;rw[Av]at hn hn';subst hn;subst hn';by_cases hln:l.length=l'.length;rotate_left
 . have f1:((l.length:Int) != (l'.length:Int))=true:=by simp;omega
   have hno: ¬En l l'=true:=fun e=>hln (Gu.1 e).1;have HP:Hid (PO (.returned (.bool false)) w):=by
    show PO _ _;rw[<-hPO];exact Bt.no hno (Below.refl _ _)
   clear hln hno h h' hPO;go_enter Tryz.func60,Tryz.ntmps60;go_wp2;exact HP.out
 have H00:Hid (∀(j:Nat) x y,j<0->l[j]? =some x->l'[j]? =some y->Lo x y=true):=fun _ _ _ e=>absurd e (Nat.not_lt_zero _);rw[<-hln];have H0:=qz (Below.refl w.heap.size w);obtain⟨H,H',Hln,HPO⟩:=hid4 h h' hln hPO;clear h h' hln hPO;go_enter Tryz.func60,Tryz.ntmps60;go_wp2_with (fail);go_loopw [17] (fun i wr=> ∃q:Nat,i=.int .i64 q/\q<=l.length/\Hid (∀(j:Nat) x y,j<q->l[j]? =some x->l'[j]? =some y->Lo x y=true)/\Hid (Below w.heap.size w wr)) (fun i _=>l.length - (intOf i).toNat)
 case atStart=>exact⟨0,rfl,Nat.zero_le _,H00,H0⟩
 case round=>
  obtain⟨q,rfl,hq,htk,hea⟩:=hrel;clear H00 H0;have z6:(0:Int)<=q:=by omega
  by_cases hlt:q<l.length
  . have hlt':q<l'.length:=by have:=Hln.out;omega
    obtain⟨⟨key1,⟨ak,ab,an,at1,al,ao⟩⟩,hx⟩: ∃v,l[q]? =some v:=⟨_,List.getElem?_eq_getElem hlt⟩;obtain⟨⟨key2,⟨bk,bb,bn,bt,bl,bo⟩⟩,hx'⟩: ∃v,l'[q]? =some v:=⟨_,List.getElem?_eq_getElem hlt'⟩;have hbv:=Bz (List.mem_of_getElem? hx);have hbv':=Bz (List.mem_of_getElem? hx');have hbw:=hea.out;have hz:=hbw.size;have hT:=fun(e:Lo (key1,.mk ak ab an at1 al ao) (key2,.mk bk bb bn bt bl bo)=true)=>(fun j y y' hj h1 h2=>by
     rcases Nat.lt_succ_iff_lt_or_eq.1 hj with hj|rfl
     . exact htk.out j y y' hj h1 h2
     . rw[hx]at h1;rw[hx']at h2;rw[<-Option.some.inj h1,<-Option.some.inj h2];exact e: ∀(j:Nat) y y',j<q+1->l[j]? =some y->l'[j]? =some y'->Lo y y'=true)
    have hNo: ∀W,Below wr.heap.size wr W-> ¬Lo (key1,.mk ak ab an at1 al ao) (key2,.mk bk bb bn bt bl bo)=true->PO (.returned (.bool false)) W:=fun W hW e=>by
     rw[<-HPO.out];exact Bt.no (fun h=>e ((Gu.1 h).2 q _ _ hx hx')) (hbw.trans (hW.mono hz))
    simp only at hbv hbv';obtain⟨g,off,rfl,hg,ala,alc,aoa,aoc,hv,c0,c1,c2,c3,c4,c5,c6⟩:=Fp (Ah.of_old H.out (Nat.le_refl _) hbw) hx;obtain⟨g',off',rfl,hg',bla,blc,boa,boc,hv',d0,d1,d2,d3,d4,d5,d6⟩:=Fp (Ah.of_old H'.out (Nat.le_refl _) hbw) hx';obtain⟨w1,hw1⟩: ∃w1,wr.alloc (.cells #[.string key1,.int .i64 ak,.bool ab,.int .i64 an,.string at1,.slice ala al.length alc,.slice aoa ao.length aoc] 63)=w1:=⟨_,rfl⟩;have hb1:Below wr.heap.size wr w1:=hw1▸Aa _ _;have hx1:Aj w1 wr.heap.size 63 #[.string key1,.int .i64 ak,.bool ab,.int .i64 an,.string at1,.slice ala al.length alc,.slice aoa ao.length aoc]:=hw1▸Aj.new _ _ _;obtain⟨w2,hw2⟩: ∃w2,w1.alloc (.cells #[.string key2,.int .i64 bk,.bool bb,.int .i64 bn,.string bt,.slice bla bl.length blc,.slice boa bo.length boc] 63)=w2:=⟨_,rfl⟩;have hb12:Below w1.heap.size w1 w2:=hw2▸Aa _ _;have hy2:Aj w2 w1.heap.size 63 #[.string key2,.int .i64 bk,.bool bb,.int .i64 bn,.string bt,.slice bla bl.length blc,.slice boa bo.length boc]:=hw2▸Aj.new _ _ _;have hx2:=hx1.below hb12 hx1.lt;have hb2:=hb1.trans (hb12.mono hb1.size);have HC:=qz (Ac5 key1 key2 (.mk ak ab an at1 al ao) (.mk bk bb bn bt bl bo) _ _ _ _ _ _ _ _ _ _ _ _ _ _ _ _ _ _ _ _ w2 ((hv.below hb2).now) ((hv'.below hb2).now) (by omega) (by omega));have z1:g<wr.heap.size:=hg;have z2:g'<wr.heap.size:=hg';have z3:=hb1.size;have z5:(q:Int)<(l.length:Int):=by omega
    obtain⟨d0,d1,d2,d3,d4,d5,d6⟩:w1.cell? ⟨g',off'+q*7,none⟩=some (.string key2)/\w1.cell? ⟨g',off'+q*7+1,none⟩=some (.int .i64 bk)/\w1.cell? ⟨g',off'+q*7+2,none⟩=some (.bool bb)/\w1.cell? ⟨g',off'+q*7+3,none⟩=some (.int .i64 bn)/\w1.cell? ⟨g',off'+q*7+4,none⟩=some (.string bt)/\w1.cell? ⟨g',off'+q*7+5,none⟩=some (.slice bla bl.length blc)/\w1.cell? ⟨g',off'+q*7+6,none⟩=some (.slice boa bo.length boc):=⟨(hb1.cell hg').trans d0,(hb1.cell hg').trans d1,(hb1.cell hg').trans d2,(hb1.cell hg').trans d3,(hb1.cell hg').trans d4,(hb1.cell hg').trans d5,(hb1.cell hg').trans d6⟩;have e0:=hx2.cell 0;have e1:=hx2.cell 1;have e2:=hx2.cell 2;have e3:=hx2.cell 3;have e4:=hx2.cell 4;have e5:=hx2.cell 5;have e6:=hx2.cell 6;have e7:=hx2.lt;have f0:=hy2.cell 0;have f1:=hy2.cell 1;have f2:=hy2.cell 2;have f3:=hy2.cell 3;have f4:=hy2.cell 4;have f5:=hy2.cell 5;have f6:=hy2.cell 6;have f7:=hy2.lt;obtain⟨HT,HNo,Hb2⟩:=hid3 hT hNo hb2;clear hT hNo hb2;clear hbw htk hx hx' hv hv' hx1 hx2 hy2 hb1 hb12;go_wp2_with (fail);(with_reducible refine(HC.out).mono ?_);rintro e w4 ⟨B,rfl,hB,hb4⟩;have hw4:=Hb2.out.trans (hb4.mono Hb2.out.size)
    cases B with
    |true=>
     have HN:=qz (HT.out (hB.1 rfl));have HW:=qz (hea.out.trans (hw4.mono hz));clear hB hb4 hw4 HT HNo HC hea;go_wp2;go_roundw
     case rel=>exact⟨q+1,by go_num,by omega,HN,HW⟩
     case measure=>simp only[intOf];omega
    |false=>
     have HP:Hid (PO (.returned (.bool false)) w4):=HNo.out _ hw4 fun e=>by have:=hB.2 e;cases this
     clear hB hb4 hw4 HT HNo HC hea;go_wp2;exact HP.out
  . obtain rfl:q=l.length:=by omega
    have HP:Hid (PO (.returned (.bool true)) wr):=by
     show PO _ _;rw[<-HPO.out];exact Bt.yes (Gu.2 ⟨Hln.out,fun j x y hx hy=>htk.out j x y (List.getElem?_eq_some_iff.1 hx).1 hx hy⟩) hea.out
    have z5: ¬(l.length:Int)<(l.length:Int):=by omega
    clear htk hea;go_wp2;exact HP.out
end Go.Proofs.YtkmcjfkokoidcaaGreatDoor
