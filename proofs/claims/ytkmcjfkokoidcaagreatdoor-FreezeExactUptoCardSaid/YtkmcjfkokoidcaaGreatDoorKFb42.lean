/- Parts: commonplaceref06.SameEntries of any two lists. Condition: bulks of at most 10^8. -/
import Derived.Test.YtkmcjfkokoidcaaGreatDoorKFb18
import Derived.Test.YtkmcjfkokoidcaaGreatDoorKFb39
set_option maxHeartbeats 20000000
set_option maxRecDepth 100000
namespace Go.Proofs.YtkmcjfkokoidcaaGreatDoor
open Go Go.RowKit
theorem Ps (l l':List Bj) (a a':Option Addr) (n c n' c':Nat) (w:World) (h:Ah w w.heap.size (.row 7 (dO l)) [.slice a n c]) (h':Ah w w.heap.size (.row 7 (dO l')) [.slice a' n' c']) (hb:Ae l<=100000000) (hb':Ae l'<=100000000):
 Calls Tryz.prog 22 #[.slice a n c,.slice a' n' c'] w (Jl (Jg l l'=true) w):=by
 obtain⟨PO,hPO⟩: ∃P:Ending->World->Prop,Jl (Jg l l'=true) w=P:=⟨_,rfl⟩;rw[hPO];have hls:=Ba l;have hn:=h.row_len;have hn':=h'.row_len;rw[Ax]at hn hn';subst hn;subst hn';by_cases hln:l.length=l'.length;rotate_left
 . have e:((l.length:Int) != (l'.length:Int))=true:=by simp;omega
   have hno: ¬Jg l l'=true:=fun e=>hln (Lm.1 e).1;have HP:Hid (PO (.returned (.bool false)) w):=by
    show PO _ _;rw[<-hPO];exact Jl.no hno (Below.refl _ _)
   clear hln hno h h' hPO;go_enter Tryz.func22,Tryz.ntmps22;go_wp2;exact HP.out
 . have h00: ∀(j:Nat) x y,j<0->l[j]? =some x->l'[j]? =some y->Sv x y=true:=fun _ _ _ e=>absurd e (Nat.not_lt_zero _);rw[<-hln];have H0:=qz (Below.refl w.heap.size w);obtain⟨H,H',Hln,H00,HPO⟩:=hid5 h h' hln h00 hPO;clear h h' hln h00 hPO;go_enter Tryz.func22,Tryz.ntmps22;go_wp2_with (fail);go_loopw [5] (fun i wr=> ∃q:Nat,i=.int .i64 q/\q<=l.length/\Hid (∀(j:Nat) x y,j<q->l[j]? =some x->l'[j]? =some y->Sv x y=true)/\Hid (Below w.heap.size w wr)) (fun i _=>l.length - (intOf i).toNat)
   case atStart=>exact⟨0,rfl,Nat.zero_le _,H00,H0⟩
   case round=>
    obtain⟨q,rfl,hq,htk,hea⟩:=hrel;clear H00 H0;have z6:(0:Int)<=q:=by omega
    by_cases hlt:q<l.length
    . have hlt':q<l'.length:=by have:=Hln.out;omega
      obtain⟨⟨key1,⟨ak,ab,an,at1,al,ao⟩⟩,hx⟩: ∃v,l[q]? =some v:=⟨_,List.getElem?_eq_getElem hlt⟩;obtain⟨⟨key2,⟨bk,bb,bn,bt,bl,bo⟩⟩,hx'⟩: ∃v,l'[q]? =some v:=⟨_,List.getElem?_eq_getElem hlt'⟩;have hbv:=Ck (List.mem_of_getElem? hx);have hbv':=Ck (List.mem_of_getElem? hx');have hbw:=hea.out;have hz:=hbw.size;have hT:=fun(e:Sv (key1,.mk ak ab an at1 al ao) (key2,.mk bk bb bn bt bl bo)=true)=>(fun j y y' hj h1 h2=>by
       rcases Nat.lt_succ_iff_lt_or_eq.1 hj with hj|rfl
       . exact htk.out j y y' hj h1 h2
       . rw[hx]at h1;rw[hx']at h2;rw[<-Option.some.inj h1,<-Option.some.inj h2];exact e: ∀(j:Nat) y y',j<q+1->l[j]? =some y->l'[j]? =some y'->Sv y y'=true)
      have hNo: ∀W,Below wr.heap.size wr W-> ¬Sv (key1,.mk ak ab an at1 al ao) (key2,.mk bk bb bn bt bl bo)=true->PO (.returned (.bool false)) W:=fun W hW e=>by
       rw[<-HPO.out];exact Jl.no (fun h=>e ((Lm.1 h).2 q _ _ hx hx')) (hbw.trans (hW.mono hz))
      simp only at hbv hbv';obtain⟨g,off,rfl,hg,ala,alc,aoa,aoc,hv,c0,c1,c2,c3,c4,c5,c6⟩:=Jc (Ai.of_old H.out (Nat.le_refl _) hbw) hx;obtain⟨g',off',rfl,hg',bla,blc,boa,boc,hv',d0,d1,d2,d3,d4,d5,d6⟩:=Jc (Ai.of_old H'.out (Nat.le_refl _) hbw) hx';have hC: ∀W,Below wr.heap.size wr W->Calls Tryz.prog 50 #[.agg #[.int .i64 ak,.bool ab,.int .i64 an,.string at1,.slice ala al.length alc,.slice aoa ao.length aoc],.agg #[.int .i64 bk,.bool bb,.int .i64 bn,.string bt,.slice bla bl.length blc,.slice boa bo.length boc]] W (By (Ft (.mk ak ab an at1 al ao) (.mk bk bb bn bt bl bo)=true) W):=fun W hW=>
       Ac2 _ _ [.int .i64 ak,.bool ab,.int .i64 an,.string at1,.slice ala al.length alc,.slice aoa ao.length aoc] [.int .i64 bk,.bool bb,.int .i64 bn,.string bt,.slice bla bl.length blc,.slice boa bo.length boc] W (Cb _ _ ((hv.below hW).now)) (Cb _ _ ((hv'.below hW).now)) (by omega) (by omega)
      have z5:(q:Int)<(l.length:Int):=by omega
      have Hkeep:Hid (∀W,Below wr.heap.size wr W->(W.cell? ⟨g,off+q*7,none⟩=some (.string key1)/\W.cell? ⟨g,off+q*7+1,none⟩=some (.int .i64 ak)/\W.cell? ⟨g,off+q*7+2,none⟩=some (.bool ab)/\W.cell? ⟨g,off+q*7+3,none⟩=some (.int .i64 an)/\W.cell? ⟨g,off+q*7+4,none⟩=some (.string at1)/\W.cell? ⟨g,off+q*7+5,none⟩=some (.slice ala al.length alc)/\W.cell? ⟨g,off+q*7+6,none⟩=some (.slice aoa ao.length aoc)/\W.cell? ⟨g',off'+q*7,none⟩=some (.string key2)/\W.cell? ⟨g',off'+q*7+1,none⟩=some (.int .i64 bk)/\W.cell? ⟨g',off'+q*7+2,none⟩=some (.bool bb)/\W.cell? ⟨g',off'+q*7+3,none⟩=some (.int .i64 bn)/\W.cell? ⟨g',off'+q*7+4,none⟩=some (.string bt)/\W.cell? ⟨g',off'+q*7+5,none⟩=some (.slice bla bl.length blc)/\W.cell? ⟨g',off'+q*7+6,none⟩=some (.slice boa bo.length boc))):=fun W hW=>⟨(hW.cell hg).trans c0,(hW.cell hg).trans c1,(hW.cell hg).trans c2,(hW.cell hg).trans c3,(hW.cell hg).trans c4,(hW.cell hg).trans c5,(hW.cell hg).trans c6,(hW.cell hg').trans d0,(hW.cell hg').trans d1,(hW.cell hg').trans d2,(hW.cell hg').trans d3,(hW.cell hg').trans d4,(hW.cell hg').trans d5,(hW.cell hg').trans d6⟩;obtain⟨HC,HT,HNo,Hx,Hx',Hv,Hv'⟩:=hid7 hC hT hNo hx hx' hv hv';clear hC hT hNo hx hx' hv hv';clear hbw htk c0 c1 c2 c3 c4 c5 c6 d0 d1 d2 d3 d4 d5 d6;go_upto_region 6 with(fail);by_cases hy:key1=key2;rotate_left
      . obtain⟨y1,y2,y3,y4⟩:=Ahf hy;have HP:Hid (PO (.returned (.bool false)) wr.drew):=HNo.out _ (Below.drew (Below.refl _ _)) (by simp[Sv,hy]);clear hy HC HT HNo;refine wp_region_held_drew (S:=fun W=>W.cell? ⟨g,off+q*7,none⟩=some (.string key1)/\W.cell? ⟨g',off'+q*7,none⟩=some (.string key2)) (by kernel_rfl) ⟨(Hkeep.out _ (Below.drew (Below.refl _ _))).1,(Hkeep.out _ (Below.drew (Below.refl _ _))).2.2.2.2.2.2.2.1⟩ (fun hHeld=> ?_);refine tkH 0 hHeld ?_;refine tkH 1 hHeld ?_;refine tkH 2 hHeld ?_;refine tkH 3 hHeld ?_;refine tkH 4 hHeld ?_;refine tkH 5 hHeld ?_;refine tkH 6 hHeld ?_;refine tkH 7 hHeld ?_;refine tkH 8 hHeld ?_;refine tkH 9 hHeld ?_;refine tkH 10 hHeld ?_;refine tkH 11 hHeld ?_;refine tkN 12 hHeld ?_;refine tkN 13 hHeld ?_;refine tkN 14 hHeld ?_;refine tkN 15 hHeld ?_;refine tkN 16 hHeld ?_;refine tkN 17 hHeld ?_;refine tkN 18 hHeld ?_;refine tkN 19 hHeld ?_;refine tkN 20 hHeld ?_;refine tkN 21 hHeld ?_;refine tkN 22 hHeld ?_;refine tkN 23 hHeld ?_;refine tkH 24 hHeld ?_;refine wpAnyH_done (by kernel_rfl) ?_ _;clear hHeld;go_wp2;exact HP.out
      . subst hy;obtain⟨y1,y2,y3,y4⟩:=Ahe key1;refine wp_region_held_drew (S:=fun W=>(W.cell? ⟨g,off+q*7,none⟩=some (.string key1)/\W.cell? ⟨g,off+q*7+1,none⟩=some (.int .i64 ak)/\W.cell? ⟨g,off+q*7+2,none⟩=some (.bool ab)/\W.cell? ⟨g,off+q*7+3,none⟩=some (.int .i64 an)/\W.cell? ⟨g,off+q*7+4,none⟩=some (.string at1)/\W.cell? ⟨g,off+q*7+5,none⟩=some (.slice ala al.length alc)/\W.cell? ⟨g,off+q*7+6,none⟩=some (.slice aoa ao.length aoc)/\W.cell? ⟨g',off'+q*7,none⟩=some (.string key1)/\W.cell? ⟨g',off'+q*7+1,none⟩=some (.int .i64 bk)/\W.cell? ⟨g',off'+q*7+2,none⟩=some (.bool bb)/\W.cell? ⟨g',off'+q*7+3,none⟩=some (.int .i64 bn)/\W.cell? ⟨g',off'+q*7+4,none⟩=some (.string bt)/\W.cell? ⟨g',off'+q*7+5,none⟩=some (.slice bla bl.length blc)/\W.cell? ⟨g',off'+q*7+6,none⟩=some (.slice boa bo.length boc))) (by kernel_rfl) (Hkeep.out _ (Below.drew (Below.refl _ _))) (fun hHeld=> ?_);refine tkH 0 hHeld ?_;refine tkH 1 hHeld ?_;refine tkH 2 hHeld ?_;refine tkH 3 hHeld ?_;refine tkH 4 hHeld ?_;refine tkH 5 hHeld ?_;refine tkH 6 hHeld ?_;refine tkH 7 hHeld ?_;refine tkH 8 hHeld ?_;refine tkH 9 hHeld ?_;refine tkH 10 hHeld ?_;refine tkH 11 hHeld ?_;refine tkH 12 hHeld ?_;refine tkH 13 hHeld ?_;refine tkH 14 hHeld ?_;refine tkH 15 hHeld ?_;refine tkH 16 hHeld ?_;refine tkH 17 hHeld ?_;refine tkH 18 hHeld ?_;refine tkH 19 hHeld ?_;refine tkH 20 hHeld ?_;refine tkH 21 hHeld ?_;refine Ie 22 fun K hK=> ?_;go_simp;(with_reducible refine(HC.out _ (Below.drew (Below.refl _ _))).mono ?_);rintro e w7 ⟨C,rfl,hB,hb7⟩;have hw7:Below wr.heap.size wr w7:=(Below.drew (Below.refl _ _)).trans hb7;refine hK.out _ _ (Hkeep.out _ hw7) (fun hHeld=> ?_);clear hK K
        try simp only[Act.put,tk1,tk2,tk3,tk4,tk5,tk6]
        by_cases hC0:C=0
        . have hS:=hB.1 hC0;subst hC0;have HN:=qz (HT.out (by simp[Sv,hS]));have HW:=qz (hea.out.trans (hw7.mono hea.out.size));clear hB hS hb7 hw7 HC HT HNo;refine tkH 23 hHeld ?_;refine tkH 24 hHeld ?_;refine wpAnyH_done (by kernel_rfl) ?_ _;clear hHeld;go_wp2;go_roundw
          case rel=>exact⟨q+1,by go_num,by omega,HN,HW⟩
          case measure=>simp only[intOf];omega
        . have hne:(C != 0)=true:=by simpa using hC0
          have HP:Hid (PO (.returned (.bool false)) w7):=HNo.out _ hw7 (by
           intro e;have e2:=(Bool.and_eq_true _ _▸e:_/\_).2;exact hC0 (hB.2 e2))
          clear hB hb7 hw7 HC HT HNo hC0;refine tkH 23 hHeld ?_;refine tkH 24 hHeld ?_;refine wpAnyH_done (by kernel_rfl) ?_ _;clear hHeld;go_wp2;exact HP.out
    . obtain rfl:q=l.length:=by omega
      have HP:Hid (PO (.returned (.bool true)) wr):=by
       show PO _ _;rw[<-HPO.out];exact Jl.yes (Lm.2 ⟨Hln.out,fun j x y hx hy=>htk.out j x y (List.getElem?_eq_some_iff.1 hx).1 hx hy⟩) hea.out
      have z5: ¬(l.length:Int)<(l.length:Int):=by omega
      clear htk hea;go_wp2;exact HP.out
end Go.Proofs.YtkmcjfkokoidcaaGreatDoor
