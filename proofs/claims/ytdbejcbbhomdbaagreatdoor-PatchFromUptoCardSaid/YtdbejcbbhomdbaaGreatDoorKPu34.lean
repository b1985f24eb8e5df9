/- Parts: commonplaceref14.Same, commonplaceref18.Same: yes of an answer and itself alone. Condition: bulks of at most 10^8. -/
import Derived.Test.YtdbejcbbhomdbaaGreatDoorKPu31
set_option maxHeartbeats 20000000
set_option maxRecDepth 100000
namespace Go.Proofs.YtdbejcbbhomdbaaGreatDoor
open Go Go.RowKit
theorem Abb {a b:ByteArray} (h:a≠b):(a==b)=false/\(a != b)=true/\(a.toList==b.toList)=false/\(a.toList != b.toList)=true:=by
 have h1:(a==b)=false:=by
  obtain⟨a⟩:=a;obtain⟨b⟩:=b;have e:((⟨a⟩:ByteArray)==⟨b⟩)=(a==b):=rfl;rw[e];simpa using h
 have h2:(a.toList==b.toList)=false:=by
  rw[ByteArray.toList_eq,ByteArray.toList_eq,beq_eq_false_iff_ne];intro e;exact h (by
   obtain⟨⟨a⟩⟩:=a;obtain⟨⟨b⟩⟩:=b;simpa using e)
 exact⟨h1,by rw[bne,h1];rfl,h2,by rw[bne,h2];rfl⟩
theorem Aba (a:ByteArray):(a==a)=true/\(a != a)=false/\(a.toList==a.toList)=true/\(a.toList != a.toList)=false:=by
 have h1:(a==a)=true:=by
  obtain⟨a⟩:=a;have e:((⟨a⟩:ByteArray)==⟨a⟩)=(a==a):=rfl;rw[e];simp
 exact⟨h1,by rw[bne,h1];rfl,by simp,by simp⟩
theorem Ll (l l':List POp) (a a':Option Addr) (n c n' c':Nat) (w:World) (h:Ai w w.heap.size (.row 8 (D0 l)) [.slice a n c]) (h':Ai w w.heap.size (.row 8 (D0 l')) [.slice a' n' c']) (hb:Cq l<=100000000) (hb':Cq l'<=100000000):
 Calls Tryz.prog 22 #[.slice a n c,.slice a' n' c'] w (Bp (l=l') w):=by
 have hls:=Il l;have hn:=h.row_len;have hn':=h'.row_len;rw[C7]at hn hn';subst hn;subst hn';by_cases hln:l.length=l'.length;rotate_left
 . have e:((l.length:Int) != (l'.length:Int))=true:=by simp;omega
   have Hno:Hid (¬l=l'):=fun e=>hln (congrArg List.length e);obtain⟨H,H'⟩:=hid2 h h';clear h h';clear hln;go_enter Tryz.func22,Tryz.ntmps22;go_wp2;go_ret;exact Bp.no Hno.out (Below.refl _ _)
 . have h00:l.take 0=l'.take 0:=by simp
   rw[<-hln];have H0:=qz (Below.refl w.heap.size w);obtain⟨H,H',Hln,H00⟩:=hid4 h h' hln h00;clear h h' hln h00;go_enter Tryz.func22,Tryz.ntmps22;go_wp2_with (fail);go_loopw [5] (fun i wr=> ∃q:Nat,i=.int .i64 q/\q<=l.length/\Hid (l.take q=l'.take q)/\Hid (Below w.heap.size w wr)) (fun i _=>l.length - (intOf i).toNat)
   case atStart=>exact⟨0,rfl,Nat.zero_le _,H00,H0⟩
   case round=>
    obtain⟨q,rfl,hq,htk,hea⟩:=hrel;clear H00 H0;have z6:(0:Int)<=q:=by omega
    by_cases hlt:q<l.length
    . have hlt':q<l'.length:=by have:=Hln.out;omega
      obtain⟨x,hx⟩: ∃v,l[q]? =some v:=⟨_,List.getElem?_eq_getElem hlt⟩;obtain⟨x',hx'⟩: ∃v,l'[q]? =some v:=⟨_,List.getElem?_eq_getElem hlt'⟩;have hbv:=Im (List.mem_of_getElem? hx);have hbv':=Im (List.mem_of_getElem? hx');have hbw:=hea.out;have hz:=hbw.size;have HTt:=qz (fun e=>Jt htk.out hx hx' e);have HNe:=qz (fun e=>Mz hx hx' e);obtain⟨k1,key1,⟨ak,ab,an,at1,al,ao⟩⟩:=x;obtain⟨k2,key2,⟨bk,bb,bn,bt,bl,bo⟩⟩:=x';simp only at hbv hbv';obtain⟨g,off,rfl,hg,ala,alc,aoa,aoc,hv,c0,c1,c2,c3,c4,c5,c6,c7⟩:=M6 (H.out.below hbw) hx;obtain⟨g',off',rfl,hg',bla,blc,boa,boc,hv',d0,d1,d2,d3,d4,d5,d6,d7⟩:=M6 (H'.out.below hbw) hx';have hC: ∀W,Below wr.heap.size wr W->Calls Tryz.prog 17 #[.agg #[.int .i64 ak,.bool ab,.int .i64 an,.string at1,.slice ala al.length alc,.slice aoa ao.length aoc],.agg #[.int .i64 bk,.bool bb,.int .i64 bn,.string bt,.slice bla bl.length blc,.slice boa bo.length boc]] W (Bp (Val.mk ak ab an at1 al ao=.mk bk bb bn bt bl bo) W):=fun W hW=>
       Wm _ _ [.int .i64 ak,.bool ab,.int .i64 an,.string at1,.slice ala al.length alc,.slice aoa ao.length aoc] [.int .i64 bk,.bool bb,.int .i64 bn,.string bt,.slice bla bl.length blc,.slice boa bo.length boc] W (Ae.more (Nat.le_trans hz hW.size) _ _ (hv.below (hW.mono hz))) (Ae.more (Nat.le_trans hz hW.size) _ _ (hv'.below (hW.mono hz))) (by omega) (by omega)
      have z1:g<wr.heap.size:=by omega
      have z2:g'<wr.heap.size:=by omega
      have z5:(q:Int)<(l.length:Int):=by omega
      obtain⟨HC,Hx,Hx',Hv,Hv'⟩:=hid5 hC hx hx' hv hv';clear hC hx hx' hv hv';clear hbw htk;go_upto_region 6 with(fail);have hkeep: ∀W,Below wr.heap.size wr W->(W.cell? ⟨g,off+q*8,none⟩=some (.int .i64 k1)/\W.cell? ⟨g,off+q*8+1,none⟩=some (.string key1)/\W.cell? ⟨g,off+q*8+2,none⟩=some (.int .i64 ak)/\W.cell? ⟨g,off+q*8+3,none⟩=some (.bool ab)/\W.cell? ⟨g,off+q*8+4,none⟩=some (.int .i64 an)/\W.cell? ⟨g,off+q*8+5,none⟩=some (.string at1)/\W.cell? ⟨g,off+q*8+6,none⟩=some (.slice ala al.length alc)/\W.cell? ⟨g,off+q*8+7,none⟩=some (.slice aoa ao.length aoc)/\W.cell? ⟨g',off'+q*8,none⟩=some (.int .i64 k2)/\W.cell? ⟨g',off'+q*8+1,none⟩=some (.string key2)/\W.cell? ⟨g',off'+q*8+2,none⟩=some (.int .i64 bk)/\W.cell? ⟨g',off'+q*8+3,none⟩=some (.bool bb)/\W.cell? ⟨g',off'+q*8+4,none⟩=some (.int .i64 bn)/\W.cell? ⟨g',off'+q*8+5,none⟩=some (.string bt)/\W.cell? ⟨g',off'+q*8+6,none⟩=some (.slice bla bl.length blc)/\W.cell? ⟨g',off'+q*8+7,none⟩=some (.slice boa bo.length boc)):=fun W hW=>⟨(hW.cell (p:=⟨g,off+q*8,none⟩) z1).trans c0,(hW.cell (p:=⟨g,off+q*8+1,none⟩) z1).trans c1,(hW.cell (p:=⟨g,off+q*8+2,none⟩) z1).trans c2,(hW.cell (p:=⟨g,off+q*8+3,none⟩) z1).trans c3,(hW.cell (p:=⟨g,off+q*8+4,none⟩) z1).trans c4,(hW.cell (p:=⟨g,off+q*8+5,none⟩) z1).trans c5,(hW.cell (p:=⟨g,off+q*8+6,none⟩) z1).trans c6,(hW.cell (p:=⟨g,off+q*8+7,none⟩) z1).trans c7,(hW.cell (p:=⟨g',off'+q*8,none⟩) z2).trans d0,(hW.cell (p:=⟨g',off'+q*8+1,none⟩) z2).trans d1,(hW.cell (p:=⟨g',off'+q*8+2,none⟩) z2).trans d2,(hW.cell (p:=⟨g',off'+q*8+3,none⟩) z2).trans d3,(hW.cell (p:=⟨g',off'+q*8+4,none⟩) z2).trans d4,(hW.cell (p:=⟨g',off'+q*8+5,none⟩) z2).trans d5,(hW.cell (p:=⟨g',off'+q*8+6,none⟩) z2).trans d6,(hW.cell (p:=⟨g',off'+q*8+7,none⟩) z2).trans d7⟩;by_cases hk:k1=k2;rotate_left
      . have e1:(k1 != k2)=true:=by simpa using hk
        have HP:=qz (fun W hW=>Bp.no (w:=w) (w':=W) (HNe.out (fun e=>hk (by cases e;rfl))) hW);have Hkeep:=qz hkeep;clear hkeep;clear hk c0 d0 c1 d1 c2 d2 c3 d3 c4 d4 c5 d5 c6 d6 c7 d7;refine wp_region_held_drew (S:=fun W=>W.cell? ⟨g,off+q*8,none⟩=some (.int .i64 k1)/\W.cell? ⟨g,off+q*8+1,none⟩=some (.string key1)/\W.cell? ⟨g,off+q*8+2,none⟩=some (.int .i64 ak)/\W.cell? ⟨g,off+q*8+3,none⟩=some (.bool ab)/\W.cell? ⟨g,off+q*8+4,none⟩=some (.int .i64 an)/\W.cell? ⟨g,off+q*8+5,none⟩=some (.string at1)/\W.cell? ⟨g,off+q*8+6,none⟩=some (.slice ala al.length alc)/\W.cell? ⟨g,off+q*8+7,none⟩=some (.slice aoa ao.length aoc)/\W.cell? ⟨g',off'+q*8,none⟩=some (.int .i64 k2)/\W.cell? ⟨g',off'+q*8+1,none⟩=some (.string key2)/\W.cell? ⟨g',off'+q*8+2,none⟩=some (.int .i64 bk)/\W.cell? ⟨g',off'+q*8+3,none⟩=some (.bool bb)/\W.cell? ⟨g',off'+q*8+4,none⟩=some (.int .i64 bn)/\W.cell? ⟨g',off'+q*8+5,none⟩=some (.string bt)/\W.cell? ⟨g',off'+q*8+6,none⟩=some (.slice bla bl.length blc)/\W.cell? ⟨g',off'+q*8+7,none⟩=some (.slice boa bo.length boc)) (by kernel_rfl) (Hkeep.out _ (Below.drew (Below.refl _ _))) (fun hHeld=> ?_);refine tkH 0 hHeld ?_;refine tkH 1 hHeld ?_;refine tkH 2 hHeld ?_;refine tkH 3 hHeld ?_;refine tkH 4 hHeld ?_;refine tkH 5 hHeld ?_;refine tkH 6 hHeld ?_;refine tkH 7 hHeld ?_;refine tkH 8 hHeld ?_;refine tkH 9 hHeld ?_;refine tkH 10 hHeld ?_;refine tkH 11 hHeld ?_;refine wpAnyH_take (i:=12) (v:=undef) rfl (by kernel_rfl) (by kernel_rfl) (by kernel_rfl) (fun _ _ _ h=>h) (Or.inr ⟨by kernel_rfl,rfl⟩) hHeld ?_
        try simp only[Act.put,tk1,tk2,tk3,tk4,tk5,tk6]
        refine wpAnyH_take (i:=13) (v:=undef) rfl (by kernel_rfl) (by kernel_rfl) (by kernel_rfl) (fun _ _ _ h=>h) (Or.inr ⟨by kernel_rfl,rfl⟩) hHeld ?_
        try simp only[Act.put,tk1,tk2,tk3,tk4,tk5,tk6]
        refine wpAnyH_take (i:=14) (v:=undef) rfl (by kernel_rfl) (by kernel_rfl) (by kernel_rfl) (fun _ _ _ h=>h) (Or.inr ⟨by kernel_rfl,rfl⟩) hHeld ?_
        try simp only[Act.put,tk1,tk2,tk3,tk4,tk5,tk6]
        refine wpAnyH_take (i:=15) (v:=undef) rfl (by kernel_rfl) (by kernel_rfl) (by kernel_rfl) (fun _ _ _ h=>h) (Or.inr ⟨by kernel_rfl,rfl⟩) hHeld ?_
        try simp only[Act.put,tk1,tk2,tk3,tk4,tk5,tk6]
        refine wpAnyH_take (i:=16) (v:=undef) rfl (by kernel_rfl) (by kernel_rfl) (by kernel_rfl) (fun _ _ _ h=>h) (Or.inr ⟨by kernel_rfl,rfl⟩) hHeld ?_
        try simp only[Act.put,tk1,tk2,tk3,tk4,tk5,tk6]
        refine wpAnyH_take (i:=17) (v:=undef) rfl (by kernel_rfl) (by kernel_rfl) (by kernel_rfl) (fun _ _ _ h=>h) (Or.inr ⟨by kernel_rfl,rfl⟩) hHeld ?_
        try simp only[Act.put,tk1,tk2,tk3,tk4,tk5,tk6]
        refine wpAnyH_take (i:=18) (v:=undef) rfl (by kernel_rfl) (by kernel_rfl) (by kernel_rfl) (fun _ _ _ h=>h) (Or.inr ⟨by kernel_rfl,rfl⟩) hHeld ?_
        try simp only[Act.put,tk1,tk2,tk3,tk4,tk5,tk6]
        refine wpAnyH_take (i:=19) (v:=undef) rfl (by kernel_rfl) (by kernel_rfl) (by kernel_rfl) (fun _ _ _ h=>h) (Or.inr ⟨by kernel_rfl,rfl⟩) hHeld ?_
        try simp only[Act.put,tk1,tk2,tk3,tk4,tk5,tk6]
        refine wpAnyH_take (i:=20) (v:=undef) rfl (by kernel_rfl) (by kernel_rfl) (by kernel_rfl) (fun _ _ _ h=>h) (Or.inr ⟨by kernel_rfl,rfl⟩) hHeld ?_
        try simp only[Act.put,tk1,tk2,tk3,tk4,tk5,tk6]
        refine wpAnyH_take (i:=21) (v:=undef) rfl (by kernel_rfl) (by kernel_rfl) (by kernel_rfl) (fun _ _ _ h=>h) (Or.inr ⟨by kernel_rfl,rfl⟩) hHeld ?_
        try simp only[Act.put,tk1,tk2,tk3,tk4,tk5,tk6]
        refine wpAnyH_take (i:=22) (v:=undef) rfl (by kernel_rfl) (by kernel_rfl) (by kernel_rfl) (fun _ _ _ h=>h) (Or.inr ⟨by kernel_rfl,rfl⟩) hHeld ?_
        try simp only[Act.put,tk1,tk2,tk3,tk4,tk5,tk6]
        refine tkH 23 hHeld ?_;refine tkH 24 hHeld ?_;refine wpAnyH_take (i:=25) (v:=undef) rfl (by kernel_rfl) (by kernel_rfl) (by kernel_rfl) (fun _ _ _ h=>h) (Or.inr ⟨by kernel_rfl,rfl⟩) hHeld ?_
        try simp only[Act.put,tk1,tk2,tk3,tk4,tk5,tk6]
        refine wpAnyH_take (i:=26) (v:=undef) rfl (by kernel_rfl) (by kernel_rfl) (by kernel_rfl) (fun _ _ _ h=>h) (Or.inr ⟨by kernel_rfl,rfl⟩) hHeld ?_
        try simp only[Act.put,tk1,tk2,tk3,tk4,tk5,tk6]
        refine wpAnyH_take (i:=27) (v:=undef) rfl (by kernel_rfl) (by kernel_rfl) (by kernel_rfl) (fun _ _ _ h=>h) (Or.inr ⟨by kernel_rfl,rfl⟩) hHeld ?_
        try simp only[Act.put,tk1,tk2,tk3,tk4,tk5,tk6]
        refine wpAnyH_take (i:=28) (v:=undef) rfl (by kernel_rfl) (by kernel_rfl) (by kernel_rfl) (fun _ _ _ h=>h) (Or.inr ⟨by kernel_rfl,rfl⟩) hHeld ?_
        try simp only[Act.put,tk1,tk2,tk3,tk4,tk5,tk6]
        refine wpAnyH_take (i:=29) (v:=undef) rfl (by kernel_rfl) (by kernel_rfl) (by kernel_rfl) (fun _ _ _ h=>h) (Or.inr ⟨by kernel_rfl,rfl⟩) hHeld ?_
        try simp only[Act.put,tk1,tk2,tk3,tk4,tk5,tk6]
        refine wpAnyH_take (i:=30) (v:=undef) rfl (by kernel_rfl) (by kernel_rfl) (by kernel_rfl) (fun _ _ _ h=>h) (Or.inr ⟨by kernel_rfl,rfl⟩) hHeld ?_
        try simp only[Act.put,tk1,tk2,tk3,tk4,tk5,tk6]
        refine wpAnyH_take (i:=31) (v:=undef) rfl (by kernel_rfl) (by kernel_rfl) (by kernel_rfl) (fun _ _ _ h=>h) (Or.inr ⟨by kernel_rfl,rfl⟩) hHeld ?_
        try simp only[Act.put,tk1,tk2,tk3,tk4,tk5,tk6]
        refine wpAnyH_take (i:=32) (v:=undef) rfl (by kernel_rfl) (by kernel_rfl) (by kernel_rfl) (fun _ _ _ h=>h) (Or.inr ⟨by kernel_rfl,rfl⟩) hHeld ?_
        try simp only[Act.put,tk1,tk2,tk3,tk4,tk5,tk6]
        refine wpAnyH_take (i:=33) (v:=undef) rfl (by kernel_rfl) (by kernel_rfl) (by kernel_rfl) (fun _ _ _ h=>h) (Or.inr ⟨by kernel_rfl,rfl⟩) hHeld ?_
        try simp only[Act.put,tk1,tk2,tk3,tk4,tk5,tk6]
        refine wpAnyH_take (i:=34) (v:=undef) rfl (by kernel_rfl) (by kernel_rfl) (by kernel_rfl) (fun _ _ _ h=>h) (Or.inr ⟨by kernel_rfl,rfl⟩) hHeld ?_
        try simp only[Act.put,tk1,tk2,tk3,tk4,tk5,tk6]
        refine wpAnyH_take (i:=35) (v:=undef) rfl (by kernel_rfl) (by kernel_rfl) (by kernel_rfl) (fun _ _ _ h=>h) (Or.inr ⟨by kernel_rfl,rfl⟩) hHeld ?_
        try simp only[Act.put,tk1,tk2,tk3,tk4,tk5,tk6]
        refine wpAnyH_take (i:=36) (v:=undef) rfl (by kernel_rfl) (by kernel_rfl) (by kernel_rfl) (fun _ _ _ h=>h) (Or.inr ⟨by kernel_rfl,rfl⟩) hHeld ?_
        try simp only[Act.put,tk1,tk2,tk3,tk4,tk5,tk6]
        refine tkH 37 hHeld ?_;refine wpAnyH_done (by kernel_rfl) ?_ _;clear hHeld;go_wp2;go_ret;exact HP.out _ (hea.out.trans (Below.drew (Below.refl _ _)))
      subst hk;have e1:(k1 != k1)=false:=by simp
      by_cases hy:key1=key2;rotate_left
      . obtain⟨y1,y2,y3,y4⟩:=Abb hy;have HP:=qz (fun W hW=>Bp.no (w:=w) (w':=W) (HNe.out (fun e=>hy (by cases e;rfl))) hW);have Hkeep:=qz hkeep;clear hkeep;clear hy c0 d0 c1 d1 c2 d2 c3 d3 c4 d4 c5 d5 c6 d6 c7 d7;refine wp_region_held_drew (S:=fun W=>W.cell? ⟨g,off+q*8,none⟩=some (.int .i64 k1)/\W.cell? ⟨g,off+q*8+1,none⟩=some (.string key1)/\W.cell? ⟨g,off+q*8+2,none⟩=some (.int .i64 ak)/\W.cell? ⟨g,off+q*8+3,none⟩=some (.bool ab)/\W.cell? ⟨g,off+q*8+4,none⟩=some (.int .i64 an)/\W.cell? ⟨g,off+q*8+5,none⟩=some (.string at1)/\W.cell? ⟨g,off+q*8+6,none⟩=some (.slice ala al.length alc)/\W.cell? ⟨g,off+q*8+7,none⟩=some (.slice aoa ao.length aoc)/\W.cell? ⟨g',off'+q*8,none⟩=some (.int .i64 k1)/\W.cell? ⟨g',off'+q*8+1,none⟩=some (.string key2)/\W.cell? ⟨g',off'+q*8+2,none⟩=some (.int .i64 bk)/\W.cell? ⟨g',off'+q*8+3,none⟩=some (.bool bb)/\W.cell? ⟨g',off'+q*8+4,none⟩=some (.int .i64 bn)/\W.cell? ⟨g',off'+q*8+5,none⟩=some (.string bt)/\W.cell? ⟨g',off'+q*8+6,none⟩=some (.slice bla bl.length blc)/\W.cell? ⟨g',off'+q*8+7,none⟩=some (.slice boa bo.length boc)) (by kernel_rfl) (Hkeep.out _ (Below.drew (Below.refl _ _))) (fun hHeld=> ?_);refine tkH 0 hHeld ?_;refine tkH 1 hHeld ?_;refine tkH 2 hHeld ?_;refine tkH 3 hHeld ?_;refine tkH 4 hHeld ?_;refine tkH 5 hHeld ?_;refine tkH 6 hHeld ?_;refine tkH 7 hHeld ?_;refine tkH 8 hHeld ?_;refine tkH 9 hHeld ?_;refine tkH 10 hHeld ?_;refine tkH 11 hHeld ?_;refine tkH 12 hHeld ?_;refine tkH 13 hHeld ?_;refine tkH 14 hHeld ?_;refine tkH 15 hHeld ?_;refine tkH 16 hHeld ?_;refine tkH 17 hHeld ?_;refine tkH 18 hHeld ?_;refine tkH 19 hHeld ?_;refine tkH 20 hHeld ?_;refine tkH 21 hHeld ?_;refine tkH 22 hHeld ?_;refine tkH 23 hHeld ?_;refine tkH 24 hHeld ?_;refine wpAnyH_take (i:=25) (v:=undef) rfl (by kernel_rfl) (by kernel_rfl) (by kernel_rfl) (fun _ _ _ h=>h) (Or.inr ⟨by kernel_rfl,rfl⟩) hHeld ?_
        try simp only[Act.put,tk1,tk2,tk3,tk4,tk5,tk6]
        refine wpAnyH_take (i:=26) (v:=undef) rfl (by kernel_rfl) (by kernel_rfl) (by kernel_rfl) (fun _ _ _ h=>h) (Or.inr ⟨by kernel_rfl,rfl⟩) hHeld ?_
        try simp only[Act.put,tk1,tk2,tk3,tk4,tk5,tk6]
        refine wpAnyH_take (i:=27) (v:=undef) rfl (by kernel_rfl) (by kernel_rfl) (by kernel_rfl) (fun _ _ _ h=>h) (Or.inr ⟨by kernel_rfl,rfl⟩) hHeld ?_
        try simp only[Act.put,tk1,tk2,tk3,tk4,tk5,tk6]
        refine wpAnyH_take (i:=28) (v:=undef) rfl (by kernel_rfl) (by kernel_rfl) (by kernel_rfl) (fun _ _ _ h=>h) (Or.inr ⟨by kernel_rfl,rfl⟩) hHeld ?_
        try simp only[Act.put,tk1,tk2,tk3,tk4,tk5,tk6]
        refine wpAnyH_take (i:=29) (v:=undef) rfl (by kernel_rfl) (by kernel_rfl) (by kernel_rfl) (fun _ _ _ h=>h) (Or.inr ⟨by kernel_rfl,rfl⟩) hHeld ?_
        try simp only[Act.put,tk1,tk2,tk3,tk4,tk5,tk6]
        refine wpAnyH_take (i:=30) (v:=undef) rfl (by kernel_rfl) (by kernel_rfl) (by kernel_rfl) (fun _ _ _ h=>h) (Or.inr ⟨by kernel_rfl,rfl⟩) hHeld ?_
        try simp only[Act.put,tk1,tk2,tk3,tk4,tk5,tk6]
        refine wpAnyH_take (i:=31) (v:=undef) rfl (by kernel_rfl) (by kernel_rfl) (by kernel_rfl) (fun _ _ _ h=>h) (Or.inr ⟨by kernel_rfl,rfl⟩) hHeld ?_
        try simp only[Act.put,tk1,tk2,tk3,tk4,tk5,tk6]
        refine wpAnyH_take (i:=32) (v:=undef) rfl (by kernel_rfl) (by kernel_rfl) (by kernel_rfl) (fun _ _ _ h=>h) (Or.inr ⟨by kernel_rfl,rfl⟩) hHeld ?_
        try simp only[Act.put,tk1,tk2,tk3,tk4,tk5,tk6]
        refine wpAnyH_take (i:=33) (v:=undef) rfl (by kernel_rfl) (by kernel_rfl) (by kernel_rfl) (fun _ _ _ h=>h) (Or.inr ⟨by kernel_rfl,rfl⟩) hHeld ?_
        try simp only[Act.put,tk1,tk2,tk3,tk4,tk5,tk6]
        refine wpAnyH_take (i:=34) (v:=undef) rfl (by kernel_rfl) (by kernel_rfl) (by kernel_rfl) (fun _ _ _ h=>h) (Or.inr ⟨by kernel_rfl,rfl⟩) hHeld ?_
        try simp only[Act.put,tk1,tk2,tk3,tk4,tk5,tk6]
        refine wpAnyH_take (i:=35) (v:=undef) rfl (by kernel_rfl) (by kernel_rfl) (by kernel_rfl) (fun _ _ _ h=>h) (Or.inr ⟨by kernel_rfl,rfl⟩) hHeld ?_
        try simp only[Act.put,tk1,tk2,tk3,tk4,tk5,tk6]
        refine wpAnyH_take (i:=36) (v:=undef) rfl (by kernel_rfl) (by kernel_rfl) (by kernel_rfl) (fun _ _ _ h=>h) (Or.inr ⟨by kernel_rfl,rfl⟩) hHeld ?_
        try simp only[Act.put,tk1,tk2,tk3,tk4,tk5,tk6]
        refine tkH 37 hHeld ?_;refine wpAnyH_done (by kernel_rfl) ?_ _;clear hHeld;go_wp2;go_ret;exact HP.out _ (hea.out.trans (Below.drew (Below.refl _ _)))
      subst hy;obtain⟨y1,y2,y3,y4⟩:=Aba key1;have Hkeep:=qz hkeep;clear hkeep;clear c0 d0 c1 d1 c2 d2 c3 d3 c4 d4 c5 d5 c6 d6 c7 d7;refine wp_region_held_drew (S:=fun W=>W.cell? ⟨g,off+q*8,none⟩=some (.int .i64 k1)/\W.cell? ⟨g,off+q*8+1,none⟩=some (.string key1)/\W.cell? ⟨g,off+q*8+2,none⟩=some (.int .i64 ak)/\W.cell? ⟨g,off+q*8+3,none⟩=some (.bool ab)/\W.cell? ⟨g,off+q*8+4,none⟩=some (.int .i64 an)/\W.cell? ⟨g,off+q*8+5,none⟩=some (.string at1)/\W.cell? ⟨g,off+q*8+6,none⟩=some (.slice ala al.length alc)/\W.cell? ⟨g,off+q*8+7,none⟩=some (.slice aoa ao.length aoc)/\W.cell? ⟨g',off'+q*8,none⟩=some (.int .i64 k1)/\W.cell? ⟨g',off'+q*8+1,none⟩=some (.string key1)/\W.cell? ⟨g',off'+q*8+2,none⟩=some (.int .i64 bk)/\W.cell? ⟨g',off'+q*8+3,none⟩=some (.bool bb)/\W.cell? ⟨g',off'+q*8+4,none⟩=some (.int .i64 bn)/\W.cell? ⟨g',off'+q*8+5,none⟩=some (.string bt)/\W.cell? ⟨g',off'+q*8+6,none⟩=some (.slice bla bl.length blc)/\W.cell? ⟨g',off'+q*8+7,none⟩=some (.slice boa bo.length boc)) (by kernel_rfl) (Hkeep.out _ (Below.drew (Below.refl _ _))) (fun hHeld=> ?_);refine tkH 0 hHeld ?_;refine tkH 1 hHeld ?_;refine tkH 2 hHeld ?_;refine tkH 3 hHeld ?_;refine tkH 4 hHeld ?_;refine tkH 5 hHeld ?_;refine tkH 6 hHeld ?_;refine tkH 7 hHeld ?_;refine tkH 8 hHeld ?_;refine tkH 9 hHeld ?_;refine tkH 10 hHeld ?_;refine tkH 11 hHeld ?_;refine tkH 12 hHeld ?_;refine tkH 13 hHeld ?_;refine tkH 14 hHeld ?_;refine tkH 15 hHeld ?_;refine tkH 16 hHeld ?_;refine tkH 17 hHeld ?_;refine tkH 18 hHeld ?_;refine tkH 19 hHeld ?_;refine tkH 20 hHeld ?_;refine tkH 21 hHeld ?_;refine tkH 22 hHeld ?_;refine tkH 23 hHeld ?_;refine tkH 24 hHeld ?_;refine tkH 25 hHeld ?_;refine tkH 26 hHeld ?_;refine tkH 27 hHeld ?_;refine tkH 28 hHeld ?_;refine tkH 29 hHeld ?_;refine tkH 30 hHeld ?_;refine tkH 31 hHeld ?_;refine tkH 32 hHeld ?_;refine tkH 33 hHeld ?_;refine tkH 34 hHeld ?_;refine wpAnyH_ready (rs:= [35]) (by kernel_rfl) (by simp) ?_;refine AllReadyH.cons rfl (fun K hK=> ?_) AllReadyH.nil;go_simp;(with_reducible refine(HC.out _ (Below.drew (Below.refl _ _))).mono ?_);rintro e w7 ⟨B,rfl,hB,hb7⟩;have hw7:Below wr.heap.size wr w7:=(Below.drew (Below.refl _ _)).trans hb7;refine hK.out _ _ (Hkeep.out _ hw7) (fun hHeld=> ?_);clear hK K
      try simp only[Act.put,tk1,tk2,tk3,tk4,tk5,tk6]
      refine tkH 36 hHeld ?_;refine tkH 37 hHeld ?_;refine wpAnyH_done (by kernel_rfl) ?_ _;clear hHeld;have hwf:=hea.out.trans (hw7.mono hea.out.size)
      cases B with
      |true=>
       have he:(⟨k1,key1,.mk ak ab an at1 al ao⟩:POp)=⟨k1,key1,.mk bk bb bn bt bl bo⟩:=by rw[hB.1 rfl]
       have Htk':=qz (HTt.out he);have Hwf:=qz hwf;clear hwf;clear hb7 hw7 hB he;go_wp2;go_roundw
       case rel=>exact⟨q+1,by go_num,by omega,Htk',Hwf⟩
       case measure=>simp only[intOf];omega
      |false=>
       have hP:=Bp.no (w:=w) (w':=w7) (HNe.out (fun e=>by
        have:Val.mk ak ab an at1 al ao=.mk bk bb bn bt bl bo:=by injection e
        have:=hB.2 this
        cases this)) hwf
       have HP:=qz hP;clear hP;clear hb7 hw7 hB hwf;go_wp2;go_ret;exact HP.out
    . obtain rfl:q=l.length:=by omega
      have he:l=l':=by
       have:=htk.out
       rwa [List.take_length,Hln.out,List.take_length]at this
      go_wp2;go_ret;exact Bp.yes he hea.out
end Go.Proofs.YtdbejcbbhomdbaaGreatDoor
