/- Parts: commonplaceref18.Same: yes of an answer and itself alone. Condition: bulks of at most 10^8. -/
import Derived.Deep.DeepCutAuto
import Derived.Test.YtackmnbpfbaemaaGreatDoorKPr15
import Derived.Test.YtackmnbpfbaemaaGreatDoorKPr22
set_option maxHeartbeats 20000000
namespace Go.Proofs.YtackmnbpfbaemaaGreatDoor
open Go.RowKit
theorem Oy {w:World} {B n c:Nat} {l:List POp} {a:Option Addr} (h:Ae w B (.row 8 (Je l)) [.slice a n c]) {q:Nat} {k:Int} {key:ByteArray} {k':Int} {b':Bool} {n':Int} {t':ByteArray} {l':List Val} {o':List (ByteArray×Val)} (hi:l[q]? =some ⟨k,key,.mk k' b' n' t' l' o'⟩):
 ∃g off,a=some ⟨g,off,none⟩/\g<B/\ ∃la lc oa oc,Ac w B (.mk k' b' n' t' l' o') [.int .i64 k',.bool b',.int .i64 n',.string t',.slice la l'.length lc,.slice oa o'.length oc]/\
  w.cell? ⟨g,off+q*8,none⟩=some (.int .i64 k)/\w.cell? ⟨g,off+q*8+1,none⟩=some (.string key)/\w.cell? ⟨g,off+q*8+2,none⟩=some (.int .i64 k')/\w.cell? ⟨g,off+q*8+3,none⟩=some (.bool b')/\
  w.cell? ⟨g,off+q*8+4,none⟩=some (.int .i64 n')/\w.cell? ⟨g,off+q*8+5,none⟩=some (.string t')/\w.cell? ⟨g,off+q*8+6,none⟩=some (.slice la l'.length lc)/\w.cell? ⟨g,off+q*8+7,none⟩=some (.slice oa o'.length oc):=by
 obtain⟨g,off,ea,hg,cs,h1,_,h3⟩:=h.at_ (i:=q) (d:=dQ ⟨k,key,.mk k' b' n' t' l' o'⟩) (by unfold Je;rw[List.getElem?_map,hi];rfl);unfold dQ at h1;simp only[Ae]at h1;obtain⟨_,_,rfl,⟨rfl,_⟩,_,_,rfl,⟨rfl,_⟩,cv,_,rfl,h4,rfl⟩:=h1;have h5:=Bv _ _ h4;have h6:=h5;simp only[Ac]at h6;obtain⟨la,lc,oa,oc,rfl,_,_⟩:=h6;exact⟨g,off,ea,hg,la,lc,oa,oc,h5,h3 0 _ rfl,h3 1 _ rfl,h3 2 _ rfl,h3 3 _ rfl,h3 4 _ rfl,h3 5 _ rfl,h3 6 _ rfl,h3 7 _ rfl⟩
theorem E5 {w:World} {g:Nat} {t:TypeId} {a0 a1 a2 a3 a4 a5 a6 a7:Value} (h:An w g t #[a0,a1,a2,a3,a4,a5,a6,a7]):
 w.cell? ⟨g,0,none⟩=some a0/\w.cell? ⟨g,1,none⟩=some a1/\w.cell? ⟨g,2,none⟩=some a2/\w.cell? ⟨g,3,none⟩=some a3/\w.cell? ⟨g,4,none⟩=some a4/\w.cell? ⟨g,5,none⟩=some a5/\w.cell? ⟨g,6,none⟩=some a6/\w.cell? ⟨g,7,none⟩=some a7:=
 ⟨h.cell 0,h.cell 1,h.cell 2,h.cell 3,h.cell 4,h.cell 5,h.cell 6,h.cell 7⟩
def Ja (l:List POp):Nat->Option POp
 |0=>none
 |q+1=>l[q]?
theorem Aew (k:Int) (key:ByteArray) (k':Int) (b':Bool) (n':Int) (t':ByteArray) (l':List Val) (o':List (ByteArray×Val)):
 (if k=1 then false else if k=2 then !Jk k' b' n' t' l'.length o'.length else if k=3 then !key.toList.isEmpty|| !Jk k' b' n' t' l'.length o'.length else true)=Ci ⟨k,key,.mk k' b' n' t' l' o'⟩:=rfl
set_option maxRecDepth 100000 in
theorem L6 (l:List POp) (a:Option Addr) (n c:Nat) (w:World) (hT:Cf w) (h:Ae w w.heap.size (.row 8 (Je l)) [.slice a n c]) (hb:D5 l<=100000000) (hin:inQ l):
 Calls Tryz.prog 61 #[.slice a n c] w fun e w'=>e=.returned (.int .i64 (Bm none l))/\Below w.heap.size w w':=by
 have hlq:=Lb l;have hn:=h.row_len;rw[Kq]at hn;subst hn;have hm0:Bm (Ja l 0) (l.drop 0)=Bm none l:=by rw[List.drop_zero];rfl
 have hw0:Below w.heap.size w w:=Below.refl _ _;obtain⟨H,Hm0,Hw0,HT,Hin⟩:=hid5 h hm0 hw0 hT hin;clear h hm0 hw0 hT hin;go_enter Tryz.func61,Tryz.ntmps61;go_wp2_with (fail);go_loopw [8] (fun i wr=> ∃q:Nat,i=.int .i64 q/\q<=l.length/\Hid (Bm (Ja l q) (l.drop q)=Bm none l)/\Hid (Below w.heap.size w wr)) (fun i _=>l.length - (intOf i).toNat)
 case atStart=>exact⟨0,rfl,Nat.zero_le _,Hm0,Hw0⟩
 case round=>
  obtain⟨q,rfl,hq,hm,hbw⟩:=hrel;clear Hm0 Hw0;by_cases hlt:q<l.length
  . obtain⟨p,hp⟩: ∃p,l[q]? =some p:=⟨_,List.getElem?_eq_getElem hlt⟩;have hdr:=C3 hp;have hmem:=List.mem_of_getElem? hp;have hbq:=Lc hmem;have hiq:=Hin.out p hmem;have hpv:Ja l (q+1)=some p:=hp;have hm':=hm.out;rw[hdr]at hm';simp only[Bm]at hm';rw[<-hpv]at hm';obtain⟨R,hR⟩: ∃R,(Ci p||(Ja l q).any fun x=> !G4 x p)=R:=⟨_,rfl⟩;rw[hR]at hm';obtain⟨k,key,⟨k',b',n',t',l',o'⟩⟩:=p;simp only at hbq hiq hm';have hz:=hbw.out.size;obtain⟨g,off,rfl,hg,la',lc',oa',oc',hv,c0,c1,c2,c3,c4,c5,c6,c7⟩:=Oy ((H.out.below hbw.out).more hz) hp;have hgr:g<wr.heap.size:=hg;obtain⟨wi,hwi⟩: ∃wi,wr.alloc (.cells #[.int .i64 k,.string key,.int .i64 k',.bool b',.int .i64 n',.string t',.slice la' l'.length lc',.slice oa' o'.length oc'] 67)=wi:=⟨_,rfl⟩;have hbi:Below wr.heap.size wr wi:=hwi▸Aa _ _;have hxi:An wi wr.heap.size 67 #[.int .i64 k,.string key,.int .i64 k',.bool b',.int .i64 n',.string t',.slice la' l'.length lc',.slice oa' o'.length oc']:=by rw[<-hwi];exact An.new _ _ _
    have hq1:(q:Int)<(l.length:Int):=by omega
    obtain⟨Hm',HR,Hp,Hiq,Hv,Hbi,Hxi,Hbw⟩:=hid8 hm' hR hp hiq hv hbi hxi hbw;clear hm' hR hp hiq hv hbi hxi hbw;clear hm hdr hmem hpv;go_upto_region 4 with(fail);clear hwi;go_cut [28] (fun s wx=>s=.bool R/\Hid (Below wi.heap.size wi wx))
    case first=>
     have hS:=fun W=>Vy k key k' b' n' t' la' oa' l'.length lc' o'.length oc' _ W (Aew k key k' b' n' t' l' o');obtain⟨o0,o1,o2,o3,o4,o5,o6,o7⟩:=E5 Hxi.out;have hlt':wr.heap.size<wi.heap.size:=Hxi.out.lt;have hR':=HR.out;generalize hs0:Ci ⟨k,key,.mk k' b' n' t' l' o'⟩=B0 at hS hR'
     cases B0 with
     |true=>
      obtain rfl:true=R:=by simpa using hR'
      have HS:=Lib.hid hS;clear hS;clear hR' hs0 c0 c1 c2 c3 c4 c5 c6 c7 HR Hm' Hv;refine wp_region_held_drew (S:=fun W=>W.cell? ⟨wr.heap.size,0,none⟩=some (.int .i64 k)/\W.cell? ⟨wr.heap.size,1,none⟩=some (.string key)/\W.cell? ⟨wr.heap.size,2,none⟩=some (.int .i64 k')/\W.cell? ⟨wr.heap.size,3,none⟩=some (.bool b')/\W.cell? ⟨wr.heap.size,4,none⟩=some (.int .i64 n')/\W.cell? ⟨wr.heap.size,5,none⟩=some (.string t')/\W.cell? ⟨wr.heap.size,6,none⟩=some (.slice la' l'.length lc')/\W.cell? ⟨wr.heap.size,7,none⟩=some (.slice oa' o'.length oc')) (by kernel_rfl) ?_ (fun hHeld=> ?_)
      . (try dsimp only)
        go_keep
      refine wpAnyH_take (i:=0) (v:= ?_) rfl (by kernel_rfl) (by kernel_rfl) (by kernel_rfl) (fun _ _ _ h=>h) (Or.inl ⟨by kernel_rfl, ?_⟩) (by assumption) ?_;rotate_left
      . intro w hSw
        (try dsimp only at hSw)
        first|(go_simp;done)|(go_simp;with_reducible rfl)
      try simp only[Act.put,tk4]
      refine wpAnyH_ready (rs:= [1]) (by kernel_rfl) (by simp) ?_;refine AllReadyH.cons rfl (fun K hK=> ?_) AllReadyH.nil;go_simp;go_at_call 93;refine(HS.out _).mono ?_;rintro e w4 ⟨rfl,hb4⟩;have hbr:Below wi.heap.size wi w4:=((Below.drew (Below.refl _ _)).trans (hb4.mono (by simp)));obtain⟨hc4,hf4⟩:=Dy hbr;refine hK.out _ _ ?_ (fun hHeld=> ?_)
      . (try dsimp only)
        go_keep
      clear hK K
      try simp only[Act.put,tk4,tk5,tk6]
      refine wpAnyH_take (i:=2) (oi:={dst:=some 15,op:=Op.move (Operand.tmp 14),type:=4,pos:= "patch.go:17",after:= #[{on:=1,ground:=Ground.data},{on:=1,ground:=Ground.chain}],guard:=none}) (v:= ?_) rfl (by kernel_rfl) (by kernel_rfl) (by kernel_rfl) (fun _ _ _ h=>h) (Or.inl ⟨by kernel_rfl, ?_⟩) (by assumption) ?_;rotate_left
      . intro w hSw
        (try dsimp only at hSw)
        first|(go_simp;done)|(go_simp;with_reducible rfl)
      try simp only[Act.put,tk4,tk5,tk6]
      refine wpAnyH_take (i:=3) (oi:={dst:=some 16,op:=Op.move (Operand.tmp 3),type:=3,pos:= "patch.go:17",after:= #[{on:=2,ground:=Ground.guard}],guard:=some (2,false)}) (v:=undef) rfl (by kernel_rfl) (by kernel_rfl) (by kernel_rfl) (fun _ _ _ h=>h) (Or.inr ⟨by kernel_rfl,rfl⟩) (by assumption) ?_
      try simp only[Act.put,tk4,tk5,tk6]
      refine wpAnyH_take (i:=4) (oi:={dst:=some 17,op:=Op.binOp BinOp.gtr 3 (Operand.tmp 16) (Operand.const (Value.int IntKind.i64 0)) 3,type:=4,pos:= "patch.go:17",after:= #[{on:=3,ground:=Ground.data},{on:=2,ground:=Ground.guard}],guard:=some (2,false)}) (v:=undef) rfl (by kernel_rfl) (by kernel_rfl) (by kernel_rfl) (fun _ _ _ h=>h) (Or.inr ⟨by kernel_rfl,rfl⟩) (by assumption) ?_
      try simp only[Act.put,tk4,tk5,tk6]
      refine wpAnyH_take (i:=5) (oi:={dst:=some 18,op:=Op.move (Operand.tmp 17),type:=4,pos:= "patch.go:17",after:= #[{on:=4,ground:=Ground.data},{on:=2,ground:=Ground.chain},{on:=2,ground:=Ground.guard}],guard:=some (2,false)}) (v:=undef) rfl (by kernel_rfl) (by kernel_rfl) (by kernel_rfl) (fun _ _ _ h=>h) (Or.inr ⟨by kernel_rfl,rfl⟩) (by assumption) ?_
      try simp only[Act.put,tk4,tk5,tk6]
      refine wpAnyH_take (i:=6) (oi:={dst:=some 19,op:=Op.move (Operand.tmp 0),type:=45,pos:= "patch.go:17",after:= #[{on:=5,ground:=Ground.guard}],guard:=some (5,true)}) (v:=undef) rfl (by kernel_rfl) (by kernel_rfl) (by kernel_rfl) (fun _ _ _ h=>h) (Or.inr ⟨by kernel_rfl,rfl⟩) (by assumption) ?_
      try simp only[Act.put,tk4,tk5,tk6]
      refine wpAnyH_take (i:=7) (oi:={dst:=some 20,op:=Op.move (Operand.tmp 3),type:=3,pos:= "patch.go:17",after:= #[{on:=5,ground:=Ground.guard}],guard:=some (5,true)}) (v:=undef) rfl (by kernel_rfl) (by kernel_rfl) (by kernel_rfl) (fun _ _ _ h=>h) (Or.inr ⟨by kernel_rfl,rfl⟩) (by assumption) ?_
      try simp only[Act.put,tk4,tk5,tk6]
      refine wpAnyH_take (i:=8) (oi:={dst:=some 21,op:=Op.binOp BinOp.sub 3 (Operand.tmp 20) (Operand.const (Value.int IntKind.i64 1)) 3,type:=3,pos:= "patch.go:17",after:= #[{on:=7,ground:=Ground.data},{on:=5,ground:=Ground.guard}],guard:=some (5,true)}) (v:=undef) rfl (by kernel_rfl) (by kernel_rfl) (by kernel_rfl) (fun _ _ _ h=>h) (Or.inr ⟨by kernel_rfl,rfl⟩) (by assumption) ?_
      try simp only[Act.put,tk4,tk5,tk6]
      refine wpAnyH_take (i:=9) (oi:={dst:=some 22,op:=Op.indexAddr 45 (Operand.tmp 19) (Operand.tmp 21),type:=0,pos:= "patch.go:17",after:= #[{on:=6,ground:=Ground.data},{on:=8,ground:=Ground.data},{on:=5,ground:=Ground.guard}],guard:=some (5,true)}) (v:=undef) rfl (by kernel_rfl) (by kernel_rfl) (by kernel_rfl) (fun _ _ _ h=>h) (Or.inr ⟨by kernel_rfl,rfl⟩) (by assumption) ?_
      try simp only[Act.put,tk4,tk5,tk6]
      refine wpAnyH_take (i:=10) (oi:={dst:=some 23,op:=Op.load 67 (Operand.tmp 22),type:=67,pos:= "patch.go:17",after:= #[{on:=9,ground:=Ground.data},{on:=5,ground:=Ground.guard}],guard:=some (5,true)}) (v:=undef) rfl (by kernel_rfl) (by kernel_rfl) (by kernel_rfl) (fun _ _ _ h=>h) (Or.inr ⟨by kernel_rfl,rfl⟩) (by assumption) ?_
      try simp only[Act.put,tk4,tk5,tk6]
      refine wpAnyH_take (i:=11) (oi:={dst:=some 24,op:=Op.load 67 (Operand.tmp 4),type:=67,pos:= "patch.go:17",after:= #[{on:=5,ground:=Ground.guard}],guard:=some (5,true)}) (v:=undef) rfl (by kernel_rfl) (by kernel_rfl) (by kernel_rfl) (fun _ _ _ h=>h) (Or.inr ⟨by kernel_rfl,rfl⟩) (by assumption) ?_
      try simp only[Act.put,tk4,tk5,tk6]
      refine wpAnyH_take (i:=12) (oi:={dst:=some 25,op:=Op.call {callee:=Callee.value (Operand.func 94),args:= #[Operand.tmp 23,Operand.tmp 24],argTypes:= #[67,67]},type:=4,pos:= "patch.go:17",after:= #[{on:=10,ground:=Ground.data},{on:=11,ground:=Ground.data},{on:=5,ground:=Ground.chain},{on:=5,ground:=Ground.guard}],guard:=some (5,true)}) (v:=undef) rfl (by kernel_rfl) (by kernel_rfl) (by kernel_rfl) (fun _ _ _ h=>h) (Or.inr ⟨by kernel_rfl,rfl⟩) (by assumption) ?_
      try simp only[Act.put,tk4,tk5,tk6]
      refine wpAnyH_take (i:=13) (oi:={dst:=some 26,op:=Op.unOp UnOp.not 4 (Operand.tmp 25),type:=4,pos:= "patch.go:17",after:= #[{on:=12,ground:=Ground.data},{on:=5,ground:=Ground.guard}],guard:=some (5,true)}) (v:=undef) rfl (by kernel_rfl) (by kernel_rfl) (by kernel_rfl) (fun _ _ _ h=>h) (Or.inr ⟨by kernel_rfl,rfl⟩) (by assumption) ?_
      try simp only[Act.put,tk4,tk5,tk6]
      refine wpAnyH_take (i:=14) (oi:={dst:=some 27,op:=Op.pick (Operand.tmp 18) (Operand.tmp 26) (Operand.const (Value.bool false)),type:=4,pos:= "patch.go:17",after:= #[{on:=5,ground:=Ground.data},{on:=13,ground:=Ground.data},{on:=2,ground:=Ground.guard}],guard:=some (2,false)}) (v:=undef) rfl (by kernel_rfl) (by kernel_rfl) (by kernel_rfl) (fun _ _ _ h=>h) (Or.inr ⟨by kernel_rfl,rfl⟩) (by assumption) ?_
      try simp only[Act.put,tk4,tk5,tk6]
      refine wpAnyH_take (i:=15) (oi:={dst:=some 28,op:=Op.pick (Operand.tmp 15) (Operand.const (Value.bool true)) (Operand.tmp 27),type:=4,pos:= "patch.go:17",after:= #[{on:=2,ground:=Ground.data},{on:=14,ground:=Ground.data}],guard:=none}) (v:= ?_) rfl (by kernel_rfl) (by kernel_rfl) (by kernel_rfl) (fun _ _ _ h=>h) (Or.inl ⟨by kernel_rfl, ?_⟩) (by assumption) ?_;rotate_left
      . intro w hSw
        (try dsimp only at hSw)
        first|(go_simp;done)|(go_simp;with_reducible rfl)
      try simp only[Act.put,tk4,tk5,tk6]
      refine wpAnyH_done (by kernel_rfl) ?_ _
      all_goals
       have HB:=Lib.hid hbr;clear hb4 hbr hc4 hf4;go_wp2;go_meet;exact⟨rfl,HB⟩
     |false=>
      rcases q with _|j
      . obtain rfl:false=R:=by simpa[Ja]using hR'
        have HS:=Lib.hid hS;clear hS;clear hR' hs0 c0 c1 c2 c3 c4 c5 c6 c7 HR Hm' Hv;refine wp_region_held_drew (S:=fun W=>W.cell? ⟨wr.heap.size,0,none⟩=some (.int .i64 k)/\W.cell? ⟨wr.heap.size,1,none⟩=some (.string key)/\W.cell? ⟨wr.heap.size,2,none⟩=some (.int .i64 k')/\W.cell? ⟨wr.heap.size,3,none⟩=some (.bool b')/\W.cell? ⟨wr.heap.size,4,none⟩=some (.int .i64 n')/\W.cell? ⟨wr.heap.size,5,none⟩=some (.string t')/\W.cell? ⟨wr.heap.size,6,none⟩=some (.slice la' l'.length lc')/\W.cell? ⟨wr.heap.size,7,none⟩=some (.slice oa' o'.length oc')) (by kernel_rfl) ?_ (fun hHeld=> ?_)
        . (try dsimp only)
          go_keep
        refine wpAnyH_take (i:=0) (v:= ?_) rfl (by kernel_rfl) (by kernel_rfl) (by kernel_rfl) (fun _ _ _ h=>h) (Or.inl ⟨by kernel_rfl, ?_⟩) (by assumption) ?_;rotate_left
        . intro w hSw
          (try dsimp only at hSw)
          first|(go_simp;done)|(go_simp;with_reducible rfl)
        try simp only[Act.put,tk4]
        refine wpAnyH_ready (rs:= [1]) (by kernel_rfl) (by simp) ?_;refine AllReadyH.cons rfl (fun K hK=> ?_) AllReadyH.nil;go_simp;go_at_call 93;refine(HS.out _).mono ?_;rintro e w4 ⟨rfl,hb4⟩;have hbr:Below wi.heap.size wi w4:=((Below.drew (Below.refl _ _)).trans (hb4.mono (by simp)));obtain⟨hc4,hf4⟩:=Dy hbr;refine hK.out _ _ ?_ (fun hHeld=> ?_)
        . (try dsimp only)
          go_keep
        clear hK K
        try simp only[Act.put,tk4,tk5,tk6]
        refine wpAnyH_take (i:=2) (oi:={dst:=some 15,op:=Op.move (Operand.tmp 14),type:=4,pos:= "patch.go:17",after:= #[{on:=1,ground:=Ground.data},{on:=1,ground:=Ground.chain}],guard:=none}) (v:= ?_) rfl (by kernel_rfl) (by kernel_rfl) (by kernel_rfl) (fun _ _ _ h=>h) (Or.inl ⟨by kernel_rfl, ?_⟩) (by assumption) ?_;rotate_left
        . intro w hSw
          (try dsimp only at hSw)
          first|(go_simp;done)|(go_simp;with_reducible rfl)
        try simp only[Act.put,tk4,tk5,tk6]
        refine wpAnyH_take (i:=3) (oi:={dst:=some 16,op:=Op.move (Operand.tmp 3),type:=3,pos:= "patch.go:17",after:= #[{on:=2,ground:=Ground.guard}],guard:=some (2,false)}) (v:= ?_) rfl (by kernel_rfl) (by kernel_rfl) (by kernel_rfl) (fun _ _ _ h=>h) (Or.inl ⟨by kernel_rfl, ?_⟩) (by assumption) ?_;rotate_left
        . intro w hSw
          (try dsimp only at hSw)
          first|(go_simp;done)|(go_simp;with_reducible rfl)
        try simp only[Act.put,tk4,tk5,tk6]
        refine wpAnyH_take (i:=4) (oi:={dst:=some 17,op:=Op.binOp BinOp.gtr 3 (Operand.tmp 16) (Operand.const (Value.int IntKind.i64 0)) 3,type:=4,pos:= "patch.go:17",after:= #[{on:=3,ground:=Ground.data},{on:=2,ground:=Ground.guard}],guard:=some (2,false)}) (v:= ?_) rfl (by kernel_rfl) (by kernel_rfl) (by kernel_rfl) (fun _ _ _ h=>h) (Or.inl ⟨by kernel_rfl, ?_⟩) (by assumption) ?_;rotate_left
        . intro w hSw
          (try dsimp only at hSw)
          first|(go_simp;done)|(go_simp;with_reducible rfl)
        try simp only[Act.put,tk4,tk5,tk6]
        refine wpAnyH_take (i:=5) (oi:={dst:=some 18,op:=Op.move (Operand.tmp 17),type:=4,pos:= "patch.go:17",after:= #[{on:=4,ground:=Ground.data},{on:=2,ground:=Ground.chain},{on:=2,ground:=Ground.guard}],guard:=some (2,false)}) (v:= ?_) rfl (by kernel_rfl) (by kernel_rfl) (by kernel_rfl) (fun _ _ _ h=>h) (Or.inl ⟨by kernel_rfl, ?_⟩) (by assumption) ?_;rotate_left
        . intro w hSw
          (try dsimp only at hSw)
          first|(go_simp;done)|(go_simp;with_reducible rfl)
        try simp only[Act.put,tk4,tk5,tk6]
        refine wpAnyH_take (i:=6) (oi:={dst:=some 19,op:=Op.move (Operand.tmp 0),type:=45,pos:= "patch.go:17",after:= #[{on:=5,ground:=Ground.guard}],guard:=some (5,true)}) (v:=undef) rfl (by kernel_rfl) (by kernel_rfl) (by kernel_rfl) (fun _ _ _ h=>h) (Or.inr ⟨by kernel_rfl,rfl⟩) (by assumption) ?_
        try simp only[Act.put,tk4,tk5,tk6]
        refine wpAnyH_take (i:=7) (oi:={dst:=some 20,op:=Op.move (Operand.tmp 3),type:=3,pos:= "patch.go:17",after:= #[{on:=5,ground:=Ground.guard}],guard:=some (5,true)}) (v:=undef) rfl (by kernel_rfl) (by kernel_rfl) (by kernel_rfl) (fun _ _ _ h=>h) (Or.inr ⟨by kernel_rfl,rfl⟩) (by assumption) ?_
        try simp only[Act.put,tk4,tk5,tk6]
        refine wpAnyH_take (i:=8) (oi:={dst:=some 21,op:=Op.binOp BinOp.sub 3 (Operand.tmp 20) (Operand.const (Value.int IntKind.i64 1)) 3,type:=3,pos:= "patch.go:17",after:= #[{on:=7,ground:=Ground.data},{on:=5,ground:=Ground.guard}],guard:=some (5,true)}) (v:=undef) rfl (by kernel_rfl) (by kernel_rfl) (by kernel_rfl) (fun _ _ _ h=>h) (Or.inr ⟨by kernel_rfl,rfl⟩) (by assumption) ?_
        try simp only[Act.put,tk4,tk5,tk6]
        refine wpAnyH_take (i:=9) (oi:={dst:=some 22,op:=Op.indexAddr 45 (Operand.tmp 19) (Operand.tmp 21),type:=0,pos:= "patch.go:17",after:= #[{on:=6,ground:=Ground.data},{on:=8,ground:=Ground.data},{on:=5,ground:=Ground.guard}],guard:=some (5,true)}) (v:=undef) rfl (by kernel_rfl) (by kernel_rfl) (by kernel_rfl) (fun _ _ _ h=>h) (Or.inr ⟨by kernel_rfl,rfl⟩) (by assumption) ?_
        try simp only[Act.put,tk4,tk5,tk6]
        refine wpAnyH_take (i:=10) (oi:={dst:=some 23,op:=Op.load 67 (Operand.tmp 22),type:=67,pos:= "patch.go:17",after:= #[{on:=9,ground:=Ground.data},{on:=5,ground:=Ground.guard}],guard:=some (5,true)}) (v:=undef) rfl (by kernel_rfl) (by kernel_rfl) (by kernel_rfl) (fun _ _ _ h=>h) (Or.inr ⟨by kernel_rfl,rfl⟩) (by assumption) ?_
        try simp only[Act.put,tk4,tk5,tk6]
        refine wpAnyH_take (i:=11) (oi:={dst:=some 24,op:=Op.load 67 (Operand.tmp 4),type:=67,pos:= "patch.go:17",after:= #[{on:=5,ground:=Ground.guard}],guard:=some (5,true)}) (v:=undef) rfl (by kernel_rfl) (by kernel_rfl) (by kernel_rfl) (fun _ _ _ h=>h) (Or.inr ⟨by kernel_rfl,rfl⟩) (by assumption) ?_
        try simp only[Act.put,tk4,tk5,tk6]
        refine wpAnyH_take (i:=12) (oi:={dst:=some 25,op:=Op.call {callee:=Callee.value (Operand.func 94),args:= #[Operand.tmp 23,Operand.tmp 24],argTypes:= #[67,67]},type:=4,pos:= "patch.go:17",after:= #[{on:=10,ground:=Ground.data},{on:=11,ground:=Ground.data},{on:=5,ground:=Ground.chain},{on:=5,ground:=Ground.guard}],guard:=some (5,true)}) (v:=undef) rfl (by kernel_rfl) (by kernel_rfl) (by kernel_rfl) (fun _ _ _ h=>h) (Or.inr ⟨by kernel_rfl,rfl⟩) (by assumption) ?_
        try simp only[Act.put,tk4,tk5,tk6]
        refine wpAnyH_take (i:=13) (oi:={dst:=some 26,op:=Op.unOp UnOp.not 4 (Operand.tmp 25),type:=4,pos:= "patch.go:17",after:= #[{on:=12,ground:=Ground.data},{on:=5,ground:=Ground.guard}],guard:=some (5,true)}) (v:=undef) rfl (by kernel_rfl) (by kernel_rfl) (by kernel_rfl) (fun _ _ _ h=>h) (Or.inr ⟨by kernel_rfl,rfl⟩) (by assumption) ?_
        try simp only[Act.put,tk4,tk5,tk6]
        refine wpAnyH_take (i:=14) (oi:={dst:=some 27,op:=Op.pick (Operand.tmp 18) (Operand.tmp 26) (Operand.const (Value.bool false)),type:=4,pos:= "patch.go:17",after:= #[{on:=5,ground:=Ground.data},{on:=13,ground:=Ground.data},{on:=2,ground:=Ground.guard}],guard:=some (2,false)}) (v:= ?_) rfl (by kernel_rfl) (by kernel_rfl) (by kernel_rfl) (fun _ _ _ h=>h) (Or.inl ⟨by kernel_rfl, ?_⟩) (by assumption) ?_;rotate_left
        . intro w hSw
          (try dsimp only at hSw)
          first|(go_simp;done)|(go_simp;with_reducible rfl)
        try simp only[Act.put,tk4,tk5,tk6]
        refine wpAnyH_take (i:=15) (oi:={dst:=some 28,op:=Op.pick (Operand.tmp 15) (Operand.const (Value.bool true)) (Operand.tmp 27),type:=4,pos:= "patch.go:17",after:= #[{on:=2,ground:=Ground.data},{on:=14,ground:=Ground.data}],guard:=none}) (v:= ?_) rfl (by kernel_rfl) (by kernel_rfl) (by kernel_rfl) (fun _ _ _ h=>h) (Or.inl ⟨by kernel_rfl, ?_⟩) (by assumption) ?_;rotate_left
        . intro w hSw
          (try dsimp only at hSw)
          first|(go_simp;done)|(go_simp;with_reducible rfl)
        try simp only[Act.put,tk4,tk5,tk6]
        refine wpAnyH_done (by kernel_rfl) ?_ _
        all_goals
         have HB:=Lib.hid hbr;clear hb4 hbr hc4 hf4;go_wp2;go_meet;exact⟨rfl,HB⟩
      . obtain⟨pj,hpj⟩: ∃pj,l[j]? =some pj:=⟨_,List.getElem?_eq_getElem (by omega)⟩;have hR2:(!G4 pj ⟨k,key,.mk k' b' n' t' l' o'⟩)=R:=by simpa[Ja,hpj]using hR'
        obtain⟨kp,keyp,⟨kp',bp',np',tp',lp',op'⟩⟩:=pj;obtain⟨g2,off2,e2,hg2,lap,lcp,oap,ocp,_,d0,d1,d2,d3,d4,d5,d6,d7⟩:=Oy ((H.out.below Hbw.out).more hz) hpj;obtain⟨rfl,rfl⟩:g=g2/\off=off2:=by simpa using e2
        have hF:=fun W=>Va kp k keyp key (.int .i64 kp') (.bool bp') (.int .i64 np') (.string tp') (.slice lap lp'.length lcp) (.slice oap op'.length ocp) (.int .i64 k') (.bool b') (.int .i64 n') (.string t') (.slice la' l'.length lc') (.slice oa' o'.length oc') _ W rfl;have hF2:(decide (k≠3)&&(decide (kp=3)||Op.bytesLess keyp.toList key.toList))= !R:=by rw[<-hR2];simp[G4]
        rw[hF2]at hF;have q1:(1:Int)<=j+1:=by omega
        have q2:IntKind.i64.wrap ((j:Int)+1 - 1)=j:=by rw[Int.add_sub_cancel];exact IntWalk.i64_in _ (by omega)
        have q3:IntKind.i64.wrap (j:Int)=j:=IntWalk.i64_in _ (by omega);have q4:IntKind.i64.wrap (((j+1:Nat):Int) - 1)=j:=IntWalk.i64_in _ (by omega) |>.trans (by omega)
        have q5:(0:Int)<=j:=by omega
        have q6:(j:Int)<(l.length:Int):=by omega
        have q7:(1:Int)<=((j+1:Nat):Int):=by omega
        have q8:(0:Int)<(j:Int)+1:=by omega
        obtain⟨bc,_⟩:=Dy Hbi.out;have d0':=(bc g (off+j*8) hgr).trans d0;have d1':=(bc g (off+j*8+1) hgr).trans d1;have d2':=(bc g (off+j*8+2) hgr).trans d2;have d3':=(bc g (off+j*8+3) hgr).trans d3;have d4':=(bc g (off+j*8+4) hgr).trans d4;have d5':=(bc g (off+j*8+5) hgr).trans d5;have d6':=(bc g (off+j*8+6) hgr).trans d6;have d7':=(bc g (off+j*8+7) hgr).trans d7;have hgi:g<wi.heap.size:=by omega
        have hjl:j<l.length:=by omega
        obtain⟨HS,HF⟩:=hid2 hS hF;clear hS hF;clear hF2 hR' hR2 hs0 c0 c1 c2 c3 c4 c5 c6 c7 d0 d1 d2 d3 d4 d5 d6 d7 bc HR Hm' Hv hpj
        go_region_held3 (fun W=>W.cell? ⟨wr.heap.size,0,none⟩=some (.int .i64 k)/\W.cell? ⟨wr.heap.size,1,none⟩=some (.string key)/\W.cell? ⟨wr.heap.size,2,none⟩=some (.int .i64 k')/\W.cell? ⟨wr.heap.size,3,none⟩=some (.bool b')/\W.cell? ⟨wr.heap.size,4,none⟩=some (.int .i64 n')/\W.cell? ⟨wr.heap.size,5,none⟩=some (.string t')/\W.cell? ⟨wr.heap.size,6,none⟩=some (.slice la' l'.length lc')/\W.cell? ⟨wr.heap.size,7,none⟩=some (.slice oa' o'.length oc')/\W.cell? ⟨g,off+j*8,none⟩=some (.int .i64 kp)/\W.cell? ⟨g,off+j*8+1,none⟩=some (.string keyp)/\W.cell? ⟨g,off+j*8+2,none⟩=some (.int .i64 kp')/\W.cell? ⟨g,off+j*8+3,none⟩=some (.bool bp')/\W.cell? ⟨g,off+j*8+4,none⟩=some (.int .i64 np')/\W.cell? ⟨g,off+j*8+5,none⟩=some (.string tp')/\W.cell? ⟨g,off+j*8+6,none⟩=some (.slice lap lp'.length lcp)/\W.cell? ⟨g,off+j*8+7,none⟩=some (.slice oap op'.length ocp)) (go_keep) (first|(go_at_call 93;refine(HS.out _).mono ?_;rintro e w4 ⟨rfl,hb4⟩;have hbr:Below wi.heap.size wi w4:=((Below.drew (Below.refl _ _)).trans (hb4.mono (by simp)));obtain⟨hc4,hf4⟩:=Dy hbr)|(go_at_call 94;refine(HF.out _).mono ?_;rintro e w5 ⟨rfl,hb5⟩;have hbs:Below wi.heap.size wi w5:=(hbr.trans (hb5.mono (by have:=hbr.size;simpa using this)));obtain⟨hc5,hf5⟩:=Dy hbs))
        all_goals
         have HB:=Lib.hid hbs;clear hb4 hbr hc4 hf4 hb5 hbs hc5 hf5;go_wp2;go_meet;exact⟨by simp,HB⟩
    case rest=>
     obtain⟨rfl,hbx⟩:=hcut;have hBw:Below w.heap.size w wc:=Hbw.out.out.trans ((Hbi.out.trans (hbx.out.mono Hbi.out.size)).mono hz);obtain⟨o0,o1,o2,o3,o4,o5,o6,o7⟩:=E5 (Hxi.out.below hbx.out Hxi.out.lt);have hTc:=HT.out.below hBw;have hvc:=(Hv.out.below (Hbi.out.trans (hbx.out.mono Hbi.out.size))).more (Nat.le_trans Hbi.out.size hbx.out.size);have hks:key.size<=9223372036854775807:=by omega
     have hm:=Hm'.out;have hq9:q+1<=l.length:=by omega
     clear c0 c1 c2 c3 c4 c5 c6 c7
     cases R with
     |true=>
      rw[if_pos rfl]at hm;obtain⟨HBw,HTc,Hvc,Hm⟩:=hid4 hBw hTc hvc hm;clear hBw hTc hvc hm;go_wp2;go_ret;exact⟨by rw[<-Hm.out];rfl,HBw.out⟩
     |false=>
      rw[if_neg (by simp)]at hm;by_cases e3:k=3
      . rw[if_pos e3]at hm;have t3:(k==3)=true:=by simpa using e3
        obtain⟨HBw,HTc,Hvc,Hm⟩:=hid4 hBw hTc hvc hm;clear hBw hTc hvc hm;clear e3;go_wp2;go_roundw
        case rel=>exact⟨q+1,by go_num,hq9,Hm,HBw⟩
        case measure=>simp[intOf];omega
      rw[if_neg e3]at hm;have t3:(k==3)=false:=by simpa using e3
      have hC:=Vb key wc hTc hks;by_cases hkb:Qt key=false
      . rw[if_pos hkb]at hm;have tE:(Px key != 0)=true:=by
         simp only[bne_iff_ne,ne_eq];intro e;rw[(Ni key).1 e]at hkb
         cases hkb
        obtain⟨HBw,HTc,Hvc,Hm,HC⟩:=hid5 hBw hTc hvc hm hC;clear hBw hTc hvc hm hC;clear e3 hkb;go_wp2_with (go_at_call 95;(with_reducible refine(HC.out).mono ?_);rintro e wk ⟨rfl,hbk⟩);go_ret;exact⟨by rw[<-Hm.out];rfl,HBw.out.trans (hbk.mono HBw.out.size)⟩
      rw[if_neg hkb]at hm;have hk0:Px key=0:=(Ni key).2 (by simpa using hkb);have tE:(Px key != 0)=false:=by rw[hk0];rfl
      have hfit: ∀wk,Below wc.heap.size wc wk->Calls Tryz.prog 96 #[.agg #[.int .i64 k',.bool b',.int .i64 n',.string t',.slice la' l'.length lc',.slice oa' o'.length oc']] wk fun e w'=>e=.returned (.int .i64 (Ia (.mk k' b' n' t' l' o')))/\Below wk.heap.size wk w':=
       fun wk hbk=>Aci _ _ wk (hTc.below hbk) ((hvc.below hbk).more hbk.size) (by omega) Hiq.out
      have hlx:wr.heap.size<wc.heap.size:=(Hxi.out.below hbx.out Hxi.out.lt).lt;by_cases e2:k=2
      . rw[if_pos e2]at hm;have t2:(k==2)=true:=by simpa using e2
        obtain⟨HBw,HTc,Hvc,Hm,HC,Hk0⟩:=hid6 hBw hTc hvc hm hC hk0;clear hBw hTc hvc hm hC hk0;clear e3 hkb e2 hfit;go_wp2_with (go_at_call 95;(with_reducible refine(HC.out).mono ?_);rintro e wk ⟨rfl,hbk⟩;obtain⟨hck,hfk⟩:=Dy hbk);have HBk:=Lib.hid (HBw.out.trans (hbk.mono HBw.out.size));go_roundw
        case rel=>exact⟨q+1,by go_num,hq9,Hm,HBk⟩
        case measure=>simp[intOf];omega
      rw[if_neg e2]at hm;have t2:(k==2)=false:=by simpa using e2
      by_cases hf:Ia (.mk k' b' n' t' l' o')=0
      . rw[if_pos hf]at hm;have tF:(Ia (.mk k' b' n' t' l' o') != 0)=false:=by rw[hf];rfl
        obtain⟨HBw,HTc,Hvc,Hm,HC,Hk0,Hfit,Hf⟩:=hid8 hBw hTc hvc hm hC hk0 hfit hf;clear hBw hTc hvc hm hC hk0 hfit hf;clear e3 hkb e2;go_wp2_with (first
         |(go_at_call 95;(with_reducible refine(HC.out).mono ?_);rintro e wk ⟨rfl,hbk⟩;obtain⟨hck,hfk⟩:=Dy hbk)
         |(go_at_call 96;(with_reducible refine(Hfit.out _ hbk).mono ?_);rintro e wf ⟨rfl,hbf⟩))
        have HBk:=Lib.hid ((HBw.out.trans (hbk.mono HBw.out.size)).trans (hbf.mono (Nat.le_trans HBw.out.size hbk.size)));go_roundw
        case rel=>exact⟨q+1,by go_num,hq9,Hm,HBk⟩
        case measure=>simp[intOf];omega
      . rw[if_neg hf]at hm;have tF:(Ia (.mk k' b' n' t' l' o') != 0)=true:=by simpa using hf
        obtain⟨HBw,HTc,Hvc,Hm,HC,Hk0,Hfit⟩:=hid7 hBw hTc hvc hm hC hk0 hfit;clear hBw hTc hvc hm hC hk0 hfit;clear e3 hkb e2 hf;go_wp2_with (first
         |(go_at_call 95;(with_reducible refine(HC.out).mono ?_);rintro e wk ⟨rfl,hbk⟩;obtain⟨hck,hfk⟩:=Dy hbk)
         |(go_at_call 96;(with_reducible refine(Hfit.out _ hbk).mono ?_);rintro e wf ⟨rfl,hbf⟩))
        go_ret;exact⟨by rw[<-Hm.out];rfl,(HBw.out.trans (hbk.mono HBw.out.size)).trans (hbf.mono (Nat.le_trans HBw.out.size hbk.size))⟩
  . obtain rfl:q=l.length:=by omega
    have hm':=hm.out;rw[List.drop_length]at hm';have e0:Bm (Ja l l.length) []=0:=by simp[Bm]
    rw[e0]at hm';have Hm':=Lib.hid hm';clear hm';clear hm e0;go_wp2;go_ret;exact⟨by rw[<-Hm'.out];rfl,hbw.out⟩
set_option maxRecDepth 100000 in
theorem N3 (l:List POp) (a:Option Addr) (n c:Nat) (w:World) (hT:Cf w) (h:Ae w w.heap.size (.row 8 (Je l)) [.slice a n c]) (hb:D5 l<=100000000) (hin:inQ l):
 Calls Tryz.prog 42 #[.slice a n c] w fun e w'=>e=.returned (.int .i64 (Bm none l))/\Below w.heap.size w w':=by
 have hlq:=Lb l;have hn:=h.row_len;rw[Kq]at hn;subst hn;have hm0:Bm (Ja l 0) (l.drop 0)=Bm none l:=by rw[List.drop_zero];rfl
 have hw0:Below w.heap.size w w:=Below.refl _ _;obtain⟨H,Hm0,Hw0,HT,Hin⟩:=hid5 h hm0 hw0 hT hin;clear h hm0 hw0 hT hin;go_enter Tryz.func42,Tryz.ntmps42;go_wp2_with (fail);go_loopw [3] (fun i wr=> ∃q:Nat,i=.int .i64 q/\q<=l.length/\Hid (Bm (Ja l q) (l.drop q)=Bm none l)/\Hid (Below w.heap.size w wr)) (fun i _=>l.length - (intOf i).toNat)
 case atStart=>exact⟨0,rfl,Nat.zero_le _,Hm0,Hw0⟩
 case round=>
  obtain⟨q,rfl,hq,hm,hbw⟩:=hrel;clear Hm0 Hw0;by_cases hlt:q<l.length
  . obtain⟨p,hp⟩: ∃p,l[q]? =some p:=⟨_,List.getElem?_eq_getElem hlt⟩;have hdr:=C3 hp;have hmem:=List.mem_of_getElem? hp;have hbq:=Lc hmem;have hiq:=Hin.out p hmem;have hpv:Ja l (q+1)=some p:=hp;have hm':=hm.out;rw[hdr]at hm';simp only[Bm]at hm';rw[<-hpv]at hm';obtain⟨k,key,⟨k',b',n',t',l',o'⟩⟩:=p;simp only at hbq hiq hm';have hz:=hbw.out.size;obtain⟨g,off,rfl,hg,la',lc',oa',oc',hv,c0,c1,c2,c3,c4,c5,c6,c7⟩:=Oy ((H.out.below hbw.out).more hz) hp;have hgr:g<wr.heap.size:=hg;have hq1:(q:Int)<(l.length:Int):=by omega
    have hq0:(0:Int)<=q:=by omega
    have hTr:=HT.out.below hbw.out;by_cases hk13:1<=k/\k<=3;rotate_left
    . have hs:Ci ⟨k,key,.mk k' b' n' t' l' o'⟩=true:=by
       unfold Ci;rw[if_neg (by simp only;omega),if_neg (by simp only;omega),if_neg (by simp only;omega)]
      rw[hs,Bool.true_or,if_pos rfl]at hm';have hkk:k<1\/3<k:=by omega
      obtain⟨Hm',Hp,Hiq,Hv,Hbw,HTr⟩:=hid6 hm' hp hiq hv hbw hTr;clear hm' hp hiq hv hbw hTr;clear hm hdr hmem hpv hs hk13 c2 c3 c4 c5 c6 c7;rcases hkk with hk1|hk3
      . go_wp2;go_ret;exact⟨by rw[<-Hm'.out];rfl,Hbw.out.out⟩
      . have hk1:1<=k:=by omega
        go_wp2;go_ret;exact⟨by rw[<-Hm'.out];rfl,Hbw.out.out⟩
    obtain⟨hk1,hk3⟩:=hk13;obtain⟨Z,hZ⟩: ∃Z,U2 (.mk k' b' n' t' l' o')=Z:=⟨_,rfl⟩;have hEq:=fun(W:World) hB=>Abu (.mk k' b' n' t' l' o') _ W ((hv.below (w':=W) hB).more hB.size) (by omega) hZ;obtain⟨S,hS⟩: ∃S,(decide (k≠1)&& !Z)=S:=⟨_,rfl⟩;have hst:Ci ⟨k,key,.mk k' b' n' t' l' o'⟩=(S||decide (k=3)&& !key.toList.isEmpty):=by
     unfold Ci;simp only[hZ,<-hS];rcases(by omega:k=1\/k=2\/k=3)with rfl|rfl|rfl
     . simp
     . simp
     . cases Z<;>cases key.toList.isEmpty<;>simp
    obtain⟨Hm',Hp,Hiq,Hv,Hbw,HTr,HEq,Hst,HS,HZ⟩:=hid10 hm' hp hiq hv hbw hTr hEq hst hS hZ;clear hm' hp hiq hv hbw hTr hEq hst hS hZ;clear hm hdr hmem hpv;go_upto_region 5 with(fail);go_cut [36] (fun s wx=>s=.bool S/\Hid (Below wr.heap.size wr wx))
    case first=>
     by_cases hk:k=1
     . subst hk;have eS:S=false:=by rw[<-HS.out];simp
       subst eS;go_wp2;go_meet;exact⟨rfl,Below.refl _ _⟩
     . have eS:S= !Z:=by rw[<-HS.out];simp[hk]
       subst eS;have tk:(k != 1)=true:=by simpa using hk
       clear hk;go_wp2_with (go_at_call 65;(with_reducible refine(HEq.out _ (Below.refl _ _)).mono ?_);rintro e w4 ⟨rfl,hb4⟩);go_meet;exact⟨by rw[decide_eq_false (by omega),decide_eq_false (by omega)];rfl,hb4⟩
    case rest=>
     obtain⟨rfl,hbx⟩:=hcut;obtain⟨wo,rfl⟩: ∃wo:World,wo=wc:=⟨_,rfl⟩;obtain⟨hco,hfo⟩:=Dy hbx.out;have hBo:Below w.heap.size w wo:=Hbw.out.out.trans (hbx.out.mono hz);have hlx:wr.heap.size<=wo.heap.size:=hbx.out.size;have hm:=Hm'.out;rw[Hst.out]at hm
     cases S with
     |true=>
      rw[Bool.true_or,Bool.true_or,if_pos rfl]at hm;obtain⟨Hm,HBo⟩:=hid2 hm hBo;clear hm hBo;go_wp2;go_ret;exact⟨by rw[<-Hm.out];rfl,HBo.out⟩
     |false=>
      rw[Bool.false_or]at hm;by_cases e3:k=3
      . subst e3;by_cases hC:0<q\/key.toList≠ []
        . have hm2:Bm none l=2:=by
           rw[<-hm,if_pos];rcases hC with hC|hC
           . obtain⟨j,rfl⟩: ∃j,q=j+1:=⟨q - 1,by omega⟩;obtain⟨pj,hpj⟩: ∃pj,l[j]? =some pj:=⟨_,List.getElem?_eq_getElem (by omega)⟩;simp[Ja,hpj,G4]
           . simp[hC]
          obtain⟨Hm2,HBo⟩:=hid2 hm2 hBo;clear hm2 hBo;clear hm;by_cases hq3:0<q
          . have tq:(0:Int)<q:=by omega
            clear hC hq3;go_wp2;go_ret;exact⟨by rw[Hm2.out];rfl,HBo.out⟩
          . obtain rfl:q=0:=by omega
            have hke:key.toList≠ []:=by simpa using hC
            have tk:(!key.toList.isEmpty)=true:=by simpa using hke
            have tk2: ¬key.toList= []:=hke;clear hC hq3 hke;go_wp2;go_ret;exact⟨by rw[Hm2.out];rfl,HBo.out⟩
        . obtain rfl:q=0:=by omega
          have hke:key.toList= []:=by simpa using hC
          have hm2:Bm (Ja l (0+1)) (l.drop (0+1))=Bm none l:=by
           rw[<-hm,if_neg (by simp[Ja,hke]),if_pos rfl]
          have tk:key.toList.isEmpty=true:=by simp[hke]
          obtain⟨hke2,Hm2,HBo⟩:=hid3 hke hm2 hBo;clear hm2 hBo;clear hm hC hke;go_wp2;go_roundw
          case rel=>exact⟨0+1,by go_num,by omega,Hm2,HBo⟩
          case measure=>simp[intOf];omega
      have t3:(k==3)=false:=by simpa using e3
      rw[decide_eq_false e3,Bool.false_and,Bool.false_or,if_neg e3]at hm;obtain⟨C,hC⟩: ∃C,((Ja l q).any fun x=> !G4 x ⟨k,key,.mk k' b' n' t' l' o'⟩)=C:=⟨_,rfl⟩;rw[hC]at hm;have hTo:=HT.out.below hBo;have hvo:=(Hv.out.below hbx.out).more hlx;obtain⟨Hm,HBo,HTo,Hvo,HC⟩:=hid5 hm hBo hTo hvo hC;clear hm hBo hTo hvo hC;go_upto_region 10 with(fail);go_cut [73] (fun s wx=>s=.bool C/\Hid (Below wo.heap.size wo wx))
      case first=>
       have c0':=(hco g (off+q*8) hgr).trans c0;have c1':=(hco g (off+q*8+1) hgr).trans c1;have hC':=HC.out;clear hco hfo c0 c1 c2 c3 c4 c5 c6 c7;rcases q with _|j
       . obtain rfl:false=C:=by simpa[Ja]using hC'
         clear hC';go_quiet (fail);go_wp2;go_meet;exact⟨rfl,Jz (Below.refl _ _) _⟩
       . obtain⟨pj,hpj⟩: ∃pj,l[j]? =some pj:=⟨_,List.getElem?_eq_getElem (by omega)⟩;have hC2:(!G4 pj ⟨k,key,.mk k' b' n' t' l' o'⟩)=C:=by simpa[Ja,hpj]using hC'
         obtain⟨kp,keyp,⟨kp',bp',np',tp',lp',op'⟩⟩:=pj;obtain⟨g2,off2,ee2,hg2,lap,lcp,oap,ocp,_,d0,d1,d2,d3,d4,d5,d6,d7⟩:=Oy ((H.out.below HBo.out).more HBo.out.size) hpj;obtain⟨rfl,rfl⟩:g=g2/\off=off2:=by simpa using ee2
         have hC3:(decide (kp≠3)&& !Op.bytesLess keyp.toList key.toList)=C:=by
          rw[<-hC2];simp[G4,e3]
         have q1:(1:Int)<=j+1:=by omega
         have q2:IntKind.i64.wrap ((j:Int)+1 - 1)=j:=by rw[Int.add_sub_cancel];exact IntWalk.i64_in _ (by omega)
         have q3:IntKind.i64.wrap (j:Int)=j:=IntWalk.i64_in _ (by omega);have q5:(0:Int)<=j:=by omega
         have q6:(j:Int)<(l.length:Int):=by omega
         have q8:(0:Int)<(j:Int)+1:=by omega
         have q9:decide ((0:Int)<(j:Int)+1)=true:=decide_eq_true q8;have hjl:j<l.length:=by omega
         clear hC' hC2 d2 d3 d4 d5 d6 d7 hpj e3;by_cases e3p:kp=3
         . subst e3p;obtain rfl:false=C:=by simpa using hC3
           clear hC3;go_quiet (fail);go_wp2;go_meet;exact⟨rfl,Jz (Below.refl _ _) _⟩
         . have t3p:(kp != 3)=true:=by simpa using e3p
           obtain rfl:C= !Op.bytesLess keyp.toList key.toList:=by rw[<-hC3];simp[e3p]
           clear hC3 e3p;go_quiet (fail);go_wp2;go_meet;exact⟨by rw[Anl],Jz (Below.refl _ _) _⟩
      case rest=>
       obtain⟨rfl,hby⟩:=hcut;have hBw:Below w.heap.size w wc:=HBo.out.trans (hby.out.mono HBo.out.size);have hks:key.size<=1000000000:=by omega
       have hm:=Hm.out;have hq9:q+1<=l.length:=by omega
       have hgo:g<wo.heap.size:=by omega
       obtain⟨hcy,hfy⟩:=Dy hby.out;have hTc:=HTo.out.below hby.out;have hvc:=(Hvo.out.below hby.out).more hby.out.size;have hfit: ∀wk,Below wc.heap.size wc wk->Calls Tryz.prog 67 #[.agg #[.int .i64 k',.bool b',.int .i64 n',.string t',.slice la' l'.length lc',.slice oa' o'.length oc']] wk fun e w'=>e=.returned (.int .i64 (Ia (.mk k' b' n' t' l' o')))/\Below wk.heap.size wk w':=
        fun wk hbk=>Zp _ _ wk (hTc.below hbk) ((hvc.below hbk).more hbk.size) (by omega) Hiq.out
       cases C with
       |true=>
        rw[if_pos rfl]at hm;obtain⟨Hm,HBw,HTc,Hvc,Hfit⟩:=hid5 hm hBw hTc hvc hfit;clear hm hBw hTc hvc hfit;go_wp2;go_ret;exact⟨by rw[<-Hm.out];rfl,HBw.out⟩
       |false=>
        rw[if_neg (by simp)]at hm;have hC:=Aej key wc hks;by_cases hkb:Qt key=false
        . rw[if_pos hkb]at hm;have tE:(Px key != 0)=true:=by
           simp only[bne_iff_ne,ne_eq];intro e;rw[(Ni key).1 e]at hkb
           cases hkb
          obtain⟨HBw,HTc,Hvc,Hm,HC,Hfit⟩:=hid6 hBw hTc hvc hm hC hfit;clear hBw hTc hvc hm hC hfit;clear e3 hkb;go_wp2_with (go_at_call 66;(with_reducible refine(HC.out).mono ?_);rintro e wk ⟨rfl,rfl⟩);go_ret;exact⟨by rw[<-Hm.out];rfl,HBw.out⟩
        rw[if_neg hkb]at hm;have hk0:Px key=0:=(Ni key).2 (by simpa using hkb);have tE:(Px key != 0)=false:=by rw[hk0];rfl
        by_cases e2:k=2
        . rw[if_pos e2]at hm;have t2:(k==1)=false:=by rw[e2];rfl
          obtain⟨HBw,HTc,Hvc,Hm,HC,Hk0,Hfit⟩:=hid7 hBw hTc hvc hm hC hk0 hfit;clear hBw hTc hvc hm hC hk0 hfit;clear e3 hkb e2;go_wp2_with (go_at_call 66;(with_reducible refine(HC.out).mono ?_);rintro e wk ⟨rfl,rfl⟩);go_roundw
          case rel=>exact⟨q+1,by go_num,hq9,Hm,HBw⟩
          case measure=>simp[intOf];omega
        rw[if_neg e2]at hm;have t2:(k==1)=true:=by rw[beq_iff_eq];omega
        by_cases hf:Ia (.mk k' b' n' t' l' o')=0
        . rw[if_pos hf]at hm;have tF:(Ia (.mk k' b' n' t' l' o') != 0)=false:=by rw[hf];rfl
          obtain⟨HBw,HTc,Hvc,Hm,HC,Hk0,Hfit,Hf⟩:=hid8 hBw hTc hvc hm hC hk0 hfit hf;clear hBw hTc hvc hm hC hk0 hfit hf;clear e3 hkb e2;go_wp2_with (first
           |(go_at_call 66;(with_reducible refine(HC.out).mono ?_);rintro e wk ⟨rfl,rfl⟩)
           |(go_at_call 67;(with_reducible refine(Hfit.out _ (Below.refl _ _)).mono ?_);rintro e wf ⟨rfl,hbf⟩))
          have HBk:=Lib.hid (HBw.out.trans (hbf.mono HBw.out.size));go_roundw
          case rel=>exact⟨q+1,by go_num,hq9,Hm,HBk⟩
          case measure=>simp[intOf];omega
        . rw[if_neg hf]at hm;have tF:(Ia (.mk k' b' n' t' l' o') != 0)=true:=by simpa using hf
          obtain⟨HBw,HTc,Hvc,Hm,HC,Hk0,Hfit⟩:=hid7 hBw hTc hvc hm hC hk0 hfit;clear hBw hTc hvc hm hC hk0 hfit;clear e3 hkb e2 hf;go_wp2_with (first
           |(go_at_call 66;(with_reducible refine(HC.out).mono ?_);rintro e wk ⟨rfl,rfl⟩)
           |(go_at_call 67;(with_reducible refine(Hfit.out _ (Below.refl _ _)).mono ?_);rintro e wf ⟨rfl,hbf⟩))
          go_ret;exact⟨by rw[<-Hm.out];rfl,HBw.out.trans (hbf.mono HBw.out.size)⟩
  . obtain rfl:q=l.length:=by omega
    have hm':=hm.out;rw[List.drop_length]at hm';have e0:Bm (Ja l l.length) []=0:=by simp[Bm]
    rw[e0]at hm';have Hm':=Lib.hid hm';clear hm';clear hm e0;go_wp2;go_ret;exact⟨by rw[<-Hm'.out];rfl,hbw.out⟩
set_option maxRecDepth 100000 in
theorem Kj (c b k s:Int) (l:List POp) (a:Option Addr) (n cc:Nat) (w:World) (hT:Cf w) (h:Ae w w.heap.size (.row 8 (Je l)) [.slice a n cc]) (hb:D5 l<=100000000) (hin:inQ l):
 Calls Tryz.prog 38 #[.agg #[.int .u64 c,.int .u64 b,.int .u64 k,.int .u64 s,.slice a n cc]] w fun e w'=>e=.returned (.int .i64 (Bu c b k s l))/\Below w.heap.size w w':=by
 have hb0:=fun o=>Aa w o;have hM:=fun(W:World) hB=>L6 l a n cc W (hT.below (w':=W) hB) ((h.below hB).more hB.size) hb hin;by_cases h1:0<c/\c<=4611686018427387903
 . obtain⟨h1,h2⟩:=h1;have hC:=fun W=>G5 c true W (by simp[h1,h2]);by_cases h3:b<=4611686018427387903/\k<=4611686018427387903/\s<=4611686018427387903
   . have hm:Bu c b k s l=Bm none l:=by unfold Bu;rw[if_pos ⟨h1,h2,h3⟩]
     obtain⟨h3,h4,h5⟩:=h3;have h6:max (max b k) s<=4611686018427387903:=by omega
     obtain⟨HC,Hm,HM,H,HT,Hb0⟩:=hid6 hC hm hM h hT hb0;clear hC hm hM h hT hb0;go_enter Tryz.func38,Tryz.ntmps38;go_wp2_with (first
      |(go_at_call 45;(with_reducible refine(HC.out _).mono ?_);rintro e w' ⟨rfl,rfl⟩)
      |(go_at_call 61;(with_reducible refine(HM.out _ (Hb0.out _)).mono ?_);rintro e w2 ⟨rfl,hb2⟩))
     all_goals(go_ret;exact⟨by rw[Hm.out];rfl,(Hb0.out _).trans (hb2.mono (by simp))⟩)
   . have hm:Bu c b k s l=2:=by unfold Bu;rw[if_neg (by omega)]
     have h6:4611686018427387903<max (max b k) s:=by omega
     obtain⟨HC,Hm,HM,H,HT,Hb0⟩:=hid6 hC hm hM h hT hb0;clear hC hm hM h hT hb0;clear h3;go_enter Tryz.func38,Tryz.ntmps38;go_wp2_with (first
      |(go_at_call 45;(with_reducible refine(HC.out _).mono ?_);rintro e w' ⟨rfl,rfl⟩))
     all_goals first|(go_ret;exact⟨by rw[Hm.out];rfl,Hb0.out _⟩)|(exfalso;omega)
 . have hC:=fun W=>G5 c false W (by simp;omega);have hm:Bu c b k s l=2:=by unfold Bu;rw[if_neg (by omega)]
   obtain⟨HC,Hm,HM,H,HT,Hb0⟩:=hid6 hC hm hM h hT hb0;clear hC hm hM h hT hb0;clear h1;go_enter Tryz.func38,Tryz.ntmps38;go_wp2_with (first
    |(go_at_call 45;(with_reducible refine(HC.out _).mono ?_);rintro e w' ⟨rfl,rfl⟩))
   go_ret;exact⟨by rw[Hm.out];rfl,Hb0.out _⟩
set_option maxRecDepth 100000 in
theorem Oa (c b k s:Int) (h0:0<=c) (l:List POp) (a:Option Addr) (n cc:Nat) (w:World) (hT:Cf w) (h:Ae w w.heap.size (.row 8 (Je l)) [.slice a n cc]) (hb:D5 l<=100000000) (hin:inQ l):
 Calls Tryz.prog 20 #[.agg #[.int .u64 c,.int .u64 b,.int .u64 k,.int .u64 s,.slice a n cc]] w fun e w'=>e=.returned (.int .i64 (Bu c b k s l))/\Below w.heap.size w w':=by
 have hb0:=fun o=>Aa w o;have hM:=fun(W:World) hB=>N3 l a n cc W (hT.below (w':=W) hB) ((h.below hB).more hB.size) hb hin;by_cases h1:c=0
 . subst h1;have hm:Bu 0 b k s l=2:=by unfold Bu;rw[if_neg (by omega)]
   obtain⟨Hm,HM,H,HT,Hb0⟩:=hid5 hm hM h hT hb0;clear hm hM h hT hb0;go_enter Tryz.func20,Tryz.ntmps20;go_wp2;go_ret;exact⟨by rw[Hm.out];rfl,Hb0.out _⟩
 have e0:(c==0)=false:=by simpa using h1
 by_cases h2:c<=4611686018427387903/\b<=4611686018427387903/\k<=4611686018427387903/\s<=4611686018427387903
 . have hm:Bu c b k s l=Bm none l:=by unfold Bu;rw[if_pos ⟨by omega,h2⟩]
   obtain⟨h2,h3,h4,h5⟩:=h2;obtain⟨Hm,HM,H,HT,Hb0⟩:=hid5 hm hM h hT hb0;clear hm hM h hT hb0;clear h1;go_enter Tryz.func20,Tryz.ntmps20;go_wp2_with (first
    |(go_at_call 42;(with_reducible refine(HM.out _ (Hb0.out _)).mono ?_);rintro e w2 ⟨rfl,hb2⟩))
   go_ret;exact⟨by rw[Hm.out];rfl,(Hb0.out _).trans (hb2.mono (by simp))⟩
 . have hm:Bu c b k s l=2:=by unfold Bu;rw[if_neg (by omega)]
   obtain⟨Hm,HM,H,HT,Hb0⟩:=hid5 hm hM h hT hb0;clear hm hM h hT hb0;clear h1;go_enter Tryz.func20,Tryz.ntmps20;go_wp2
   all_goals first|(go_ret;exact⟨by rw[Hm.out];rfl,Hb0.out _⟩)|(exfalso;omega)
theorem Anj {a b:ByteArray} (h:a≠b):(a==b)=false/\(a != b)=true/\(a.toList==b.toList)=false/\(a.toList != b.toList)=true:=by
 have h1:(a==b)=false:=by
  obtain⟨a⟩:=a;obtain⟨b⟩:=b;have e:((⟨a⟩:ByteArray)==⟨b⟩)=(a==b):=rfl;rw[e];simpa using h
 have h2:(a.toList==b.toList)=false:=by
  rw[ByteArray.toList_eq,ByteArray.toList_eq,beq_eq_false_iff_ne];intro e;exact h (by
   obtain⟨⟨a⟩⟩:=a;obtain⟨⟨b⟩⟩:=b;simpa using e)
 exact⟨h1,by rw[bne,h1];rfl,h2,by rw[bne,h2];rfl⟩
theorem Anh (a:ByteArray):(a==a)=true/\(a != a)=false/\(a.toList==a.toList)=true/\(a.toList != a.toList)=false:=by
 have h1:(a==a)=true:=by
  obtain⟨a⟩:=a;have e:((⟨a⟩:ByteArray)==⟨a⟩)=(a==a):=rfl;rw[e];simp
 exact⟨h1,by rw[bne,h1];rfl,by simp,by simp⟩
set_option maxRecDepth 100000 in
theorem Abv (l l':List POp) (a a':Option Addr) (n c n' c':Nat) (w:World) (h:Ae w w.heap.size (.row 8 (Je l)) [.slice a n c]) (h':Ae w w.heap.size (.row 8 (Je l')) [.slice a' n' c']) (hb:D5 l<=100000000) (hb':D5 l'<=100000000):
 Calls Tryz.prog 41 #[.slice a n c,.slice a' n' c'] w (Cq (l=l') w):=by
 have hls:=Lb l;have hn:=h.row_len;have hn':=h'.row_len;rw[Kq]at hn hn';subst hn;subst hn';by_cases hln:l.length=l'.length;rotate_left
 . have e:((l.length:Int) != (l'.length:Int))=true:=by simp;omega
   have hno: ¬l=l':=fun e=>hln (congrArg List.length e);obtain⟨Hno,H,H'⟩:=hid3 hno h h';clear hno h h';clear hln;go_enter Tryz.func41,Tryz.ntmps41;go_wp2;go_ret;exact Cq.no Hno.out (Below.refl _ _)
 . have h00:l.take 0=l'.take 0:=by simp
   rw[<-hln];have h0:=Below.refl w.heap.size w;obtain⟨H,H',Hln,H00,H0⟩:=hid5 h h' hln h00 h0;clear h h' hln h00 h0;go_enter Tryz.func41,Tryz.ntmps41;go_wp2_with (fail);go_loopw [5] (fun i wr=> ∃q:Nat,i=.int .i64 q/\q<=l.length/\Hid (l.take q=l'.take q)/\Hid (Below w.heap.size w wr)) (fun i _=>l.length - (intOf i).toNat)
   case atStart=>exact⟨0,rfl,Nat.zero_le _,H00,H0⟩
   case round=>
    obtain⟨q,rfl,hq,htk,hea⟩:=hrel;clear H00 H0;have z6:(0:Int)<=q:=by omega
    by_cases hlt:q<l.length
    . have hlt':q<l'.length:=by have:=Hln.out;omega
      obtain⟨x,hx⟩: ∃v,l[q]? =some v:=⟨_,List.getElem?_eq_getElem hlt⟩;obtain⟨x',hx'⟩: ∃v,l'[q]? =some v:=⟨_,List.getElem?_eq_getElem hlt'⟩;have hbv:=Lc (List.mem_of_getElem? hx);have hbv':=Lc (List.mem_of_getElem? hx');have hbw:=hea.out;have hz:=hbw.size;have hTt:=fun e=>O4 htk.out hx hx' e;have hNe:=fun e=>Ug hx hx' e;obtain⟨k1,key1,⟨ak,ab,an,at1,al,ao⟩⟩:=x;obtain⟨k2,key2,⟨bk,bb,bn,bt,bl,bo⟩⟩:=x';simp only at hbv hbv';obtain⟨g,off,rfl,hg,ala,alc,aoa,aoc,hv,c0,c1,c2,c3,c4,c5,c6,c7⟩:=Oy (H.out.below hbw) hx;obtain⟨g',off',rfl,hg',bla,blc,boa,boc,hv',d0,d1,d2,d3,d4,d5,d6,d7⟩:=Oy (H'.out.below hbw) hx';have hC: ∀W,Below wr.heap.size wr W->Calls Tryz.prog 65 #[.agg #[.int .i64 ak,.bool ab,.int .i64 an,.string at1,.slice ala al.length alc,.slice aoa ao.length aoc],.agg #[.int .i64 bk,.bool bb,.int .i64 bn,.string bt,.slice bla bl.length blc,.slice boa bo.length boc]] W (Cq (Val.mk ak ab an at1 al ao=.mk bk bb bn bt bl bo) W):=fun W hW=>
       Xc _ _ [.int .i64 ak,.bool ab,.int .i64 an,.string at1,.slice ala al.length alc,.slice aoa ao.length aoc] [.int .i64 bk,.bool bb,.int .i64 bn,.string bt,.slice bla bl.length blc,.slice boa bo.length boc] W (Ac.more (Nat.le_trans hz hW.size) _ _ (hv.below (hW.mono hz))) (Ac.more (Nat.le_trans hz hW.size) _ _ (hv'.below (hW.mono hz))) (by omega) (by omega)
      have z1:g<wr.heap.size:=by omega
      have z2:g'<wr.heap.size:=by omega
      have z5:(q:Int)<(l.length:Int):=by omega
      obtain⟨HC,HTt,HNe,Hx,Hx',Hv,Hv'⟩:=hid7 hC hTt hNe hx hx' hv hv';clear hC hTt hNe hx hx' hv hv';clear hbw htk;go_upto_region 6 with(fail);have hkeep: ∀W,Below wr.heap.size wr W->(W.cell? ⟨g,off+q*8,none⟩=some (.int .i64 k1)/\W.cell? ⟨g,off+q*8+1,none⟩=some (.string key1)/\W.cell? ⟨g,off+q*8+2,none⟩=some (.int .i64 ak)/\W.cell? ⟨g,off+q*8+3,none⟩=some (.bool ab)/\W.cell? ⟨g,off+q*8+4,none⟩=some (.int .i64 an)/\W.cell? ⟨g,off+q*8+5,none⟩=some (.string at1)/\W.cell? ⟨g,off+q*8+6,none⟩=some (.slice ala al.length alc)/\W.cell? ⟨g,off+q*8+7,none⟩=some (.slice aoa ao.length aoc)/\W.cell? ⟨g',off'+q*8,none⟩=some (.int .i64 k2)/\W.cell? ⟨g',off'+q*8+1,none⟩=some (.string key2)/\W.cell? ⟨g',off'+q*8+2,none⟩=some (.int .i64 bk)/\W.cell? ⟨g',off'+q*8+3,none⟩=some (.bool bb)/\W.cell? ⟨g',off'+q*8+4,none⟩=some (.int .i64 bn)/\W.cell? ⟨g',off'+q*8+5,none⟩=some (.string bt)/\W.cell? ⟨g',off'+q*8+6,none⟩=some (.slice bla bl.length blc)/\W.cell? ⟨g',off'+q*8+7,none⟩=some (.slice boa bo.length boc)):=fun W hW=>⟨(hW.cell (p:=⟨g,off+q*8,none⟩) z1).trans c0,(hW.cell (p:=⟨g,off+q*8+1,none⟩) z1).trans c1,(hW.cell (p:=⟨g,off+q*8+2,none⟩) z1).trans c2,(hW.cell (p:=⟨g,off+q*8+3,none⟩) z1).trans c3,(hW.cell (p:=⟨g,off+q*8+4,none⟩) z1).trans c4,(hW.cell (p:=⟨g,off+q*8+5,none⟩) z1).trans c5,(hW.cell (p:=⟨g,off+q*8+6,none⟩) z1).trans c6,(hW.cell (p:=⟨g,off+q*8+7,none⟩) z1).trans c7,(hW.cell (p:=⟨g',off'+q*8,none⟩) z2).trans d0,(hW.cell (p:=⟨g',off'+q*8+1,none⟩) z2).trans d1,(hW.cell (p:=⟨g',off'+q*8+2,none⟩) z2).trans d2,(hW.cell (p:=⟨g',off'+q*8+3,none⟩) z2).trans d3,(hW.cell (p:=⟨g',off'+q*8+4,none⟩) z2).trans d4,(hW.cell (p:=⟨g',off'+q*8+5,none⟩) z2).trans d5,(hW.cell (p:=⟨g',off'+q*8+6,none⟩) z2).trans d6,(hW.cell (p:=⟨g',off'+q*8+7,none⟩) z2).trans d7⟩;by_cases hk:k1=k2;rotate_left
      . have e1:(k1 != k2)=true:=by simpa using hk
        have hP:=fun W hW=>Cq.no (w:=w) (w':=W) (HNe.out (fun e=>hk (by cases e;rfl))) hW;obtain⟨HP,Hkeep⟩:=hid2 hP hkeep;clear hP hkeep;clear hk c0 d0 c1 d1 c2 d2 c3 d3 c4 d4 c5 d5 c6 d6 c7 d7;refine wp_region_held_drew (S:=fun W=>W.cell? ⟨g,off+q*8,none⟩=some (.int .i64 k1)/\W.cell? ⟨g,off+q*8+1,none⟩=some (.string key1)/\W.cell? ⟨g,off+q*8+2,none⟩=some (.int .i64 ak)/\W.cell? ⟨g,off+q*8+3,none⟩=some (.bool ab)/\W.cell? ⟨g,off+q*8+4,none⟩=some (.int .i64 an)/\W.cell? ⟨g,off+q*8+5,none⟩=some (.string at1)/\W.cell? ⟨g,off+q*8+6,none⟩=some (.slice ala al.length alc)/\W.cell? ⟨g,off+q*8+7,none⟩=some (.slice aoa ao.length aoc)/\W.cell? ⟨g',off'+q*8,none⟩=some (.int .i64 k2)/\W.cell? ⟨g',off'+q*8+1,none⟩=some (.string key2)/\W.cell? ⟨g',off'+q*8+2,none⟩=some (.int .i64 bk)/\W.cell? ⟨g',off'+q*8+3,none⟩=some (.bool bb)/\W.cell? ⟨g',off'+q*8+4,none⟩=some (.int .i64 bn)/\W.cell? ⟨g',off'+q*8+5,none⟩=some (.string bt)/\W.cell? ⟨g',off'+q*8+6,none⟩=some (.slice bla bl.length blc)/\W.cell? ⟨g',off'+q*8+7,none⟩=some (.slice boa bo.length boc)) (by kernel_rfl) (Hkeep.out _ (Below.drew (Below.refl _ _))) (fun hHeld=> ?_);refine tkH 0 hHeld ?_;refine tkH 1 hHeld ?_;refine tkH 2 hHeld ?_;refine tkH 3 hHeld ?_;refine tkH 4 hHeld ?_;refine tkH 5 hHeld ?_;refine tkH 6 hHeld ?_;refine tkH 7 hHeld ?_;refine tkH 8 hHeld ?_;refine tkH 9 hHeld ?_;refine tkH 10 hHeld ?_;refine tkH 11 hHeld ?_;refine wpAnyH_take (i:=12) (v:=undef) rfl (by kernel_rfl) (by kernel_rfl) (by kernel_rfl) (fun _ _ _ h=>h) (Or.inr ⟨by kernel_rfl,rfl⟩) hHeld ?_
        try simp only[Act.put,tk1,tk2,tk3,tk4,tk5,tk6]
        refine wpAnyH_take (i:=13) (v:=undef) rfl (by kernel_rfl) (by kernel_rfl) (by kernel_rfl) (fun _ _ _ h=>h) (Or.inr ⟨by kernel_rfl,rfl⟩) hHeld ?_
        try simp only[Act.put,tk1,tk2,tk3,tk4,tk5,tk6]
        refine wpAnyH_take (i:=14) (v:=undef) rfl (by kernel_rfl) (by kernel_rfl) (by kernel_rfl) (fun _ _ _ h=>h) (Or.inr ⟨by kernel_rfl,rfl⟩) hHeld ?_
        try simp only[Act.put,tk1,tk2,tk3,tk4,tk5,tk6]
        refine wpAnyH_take (i:=15) (v:=undef) rfl (by kernel_rfl) (by kernel_rfl) (by kernel_rfl) (fun _ _ _ h=>h) (Or.inr ⟨by kernel_rfl,rfl⟩) hHeld ?_
        try simp only[Act.put,tk1,tk2,tk3,tk4,tk5,tk6]
        refine wpAnyH_take (i:=16) (v:=undef) rfl (by kernel_rfl) (by kernel_rfl) (by kernel_rfl) (fun _ _ _ h=>h) (Or.inr ⟨by kernel_rfl,rfl⟩) hHeld ?_
        try simp only[Act.put,tk1,tk2,tk3,tk4,tk5,tk6]
        refine wpAnyH_take (i:=17) (v:=undef) rfl (by kernel_rfl) (by kernel_rfl) (by kernel_rfl) (fun _ _ _ h=>h) (Or.inr ⟨by kernel_rfl,rfl⟩) hHeld ?_
        try simp only[Act.put,tk1,tk2,tk3,tk4,tk5,tk6]
        refine wpAnyH_take (i:=18) (v:=undef) rfl (by kernel_rfl) (by kernel_rfl) (by kernel_rfl) (fun _ _ _ h=>h) (Or.inr ⟨by kernel_rfl,rfl⟩) hHeld ?_
        try simp only[Act.put,tk1,tk2,tk3,tk4,tk5,tk6]
        refine wpAnyH_take (i:=19) (v:=undef) rfl (by kernel_rfl) (by kernel_rfl) (by kernel_rfl) (fun _ _ _ h=>h) (Or.inr ⟨by kernel_rfl,rfl⟩) hHeld ?_
        try simp only[Act.put,tk1,tk2,tk3,tk4,tk5,tk6]
        refine wpAnyH_take (i:=20) (v:=undef) rfl (by kernel_rfl) (by kernel_rfl) (by kernel_rfl) (fun _ _ _ h=>h) (Or.inr ⟨by kernel_rfl,rfl⟩) hHeld ?_
        try simp only[Act.put,tk1,tk2,tk3,tk4,tk5,tk6]
        refine wpAnyH_take (i:=21) (v:=undef) rfl (by kernel_rfl) (by kernel_rfl) (by kernel_rfl) (fun _ _ _ h=>h) (Or.inr ⟨by kernel_rfl,rfl⟩) hHeld ?_
        try simp only[Act.put,tk1,tk2,tk3,tk4,tk5,tk6]
        refine wpAnyH_take (i:=22) (v:=undef) rfl (by kernel_rfl) (by kernel_rfl) (by kernel_rfl) (fun _ _ _ h=>h) (Or.inr ⟨by kernel_rfl,rfl⟩) hHeld ?_
        try simp only[Act.put,tk1,tk2,tk3,tk4,tk5,tk6]
        refine tkH 23 hHeld ?_;refine tkH 24 hHeld ?_;refine wpAnyH_take (i:=25) (v:=undef) rfl (by kernel_rfl) (by kernel_rfl) (by kernel_rfl) (fun _ _ _ h=>h) (Or.inr ⟨by kernel_rfl,rfl⟩) hHeld ?_
        try simp only[Act.put,tk1,tk2,tk3,tk4,tk5,tk6]
        refine wpAnyH_take (i:=26) (v:=undef) rfl (by kernel_rfl) (by kernel_rfl) (by kernel_rfl) (fun _ _ _ h=>h) (Or.inr ⟨by kernel_rfl,rfl⟩) hHeld ?_
        try simp only[Act.put,tk1,tk2,tk3,tk4,tk5,tk6]
        refine wpAnyH_take (i:=27) (v:=undef) rfl (by kernel_rfl) (by kernel_rfl) (by kernel_rfl) (fun _ _ _ h=>h) (Or.inr ⟨by kernel_rfl,rfl⟩) hHeld ?_
        try simp only[Act.put,tk1,tk2,tk3,tk4,tk5,tk6]
        refine wpAnyH_take (i:=28) (v:=undef) rfl (by kernel_rfl) (by kernel_rfl) (by kernel_rfl) (fun _ _ _ h=>h) (Or.inr ⟨by kernel_rfl,rfl⟩) hHeld ?_
        try simp only[Act.put,tk1,tk2,tk3,tk4,tk5,tk6]
        refine wpAnyH_take (i:=29) (v:=undef) rfl (by kernel_rfl) (by kernel_rfl) (by kernel_rfl) (fun _ _ _ h=>h) (Or.inr ⟨by kernel_rfl,rfl⟩) hHeld ?_
        try simp only[Act.put,tk1,tk2,tk3,tk4,tk5,tk6]
        refine wpAnyH_take (i:=30) (v:=undef) rfl (by kernel_rfl) (by kernel_rfl) (by kernel_rfl) (fun _ _ _ h=>h) (Or.inr ⟨by kernel_rfl,rfl⟩) hHeld ?_
        try simp only[Act.put,tk1,tk2,tk3,tk4,tk5,tk6]
        refine wpAnyH_take (i:=31) (v:=undef) rfl (by kernel_rfl) (by kernel_rfl) (by kernel_rfl) (fun _ _ _ h=>h) (Or.inr ⟨by kernel_rfl,rfl⟩) hHeld ?_
        try simp only[Act.put,tk1,tk2,tk3,tk4,tk5,tk6]
        refine wpAnyH_take (i:=32) (v:=undef) rfl (by kernel_rfl) (by kernel_rfl) (by kernel_rfl) (fun _ _ _ h=>h) (Or.inr ⟨by kernel_rfl,rfl⟩) hHeld ?_
        try simp only[Act.put,tk1,tk2,tk3,tk4,tk5,tk6]
        refine wpAnyH_take (i:=33) (v:=undef) rfl (by kernel_rfl) (by kernel_rfl) (by kernel_rfl) (fun _ _ _ h=>h) (Or.inr ⟨by kernel_rfl,rfl⟩) hHeld ?_
        try simp only[Act.put,tk1,tk2,tk3,tk4,tk5,tk6]
        refine wpAnyH_take (i:=34) (v:=undef) rfl (by kernel_rfl) (by kernel_rfl) (by kernel_rfl) (fun _ _ _ h=>h) (Or.inr ⟨by kernel_rfl,rfl⟩) hHeld ?_
        try simp only[Act.put,tk1,tk2,tk3,tk4,tk5,tk6]
        refine wpAnyH_take (i:=35) (v:=undef) rfl (by kernel_rfl) (by kernel_rfl) (by kernel_rfl) (fun _ _ _ h=>h) (Or.inr ⟨by kernel_rfl,rfl⟩) hHeld ?_
        try simp only[Act.put,tk1,tk2,tk3,tk4,tk5,tk6]
        refine wpAnyH_take (i:=36) (v:=undef) rfl (by kernel_rfl) (by kernel_rfl) (by kernel_rfl) (fun _ _ _ h=>h) (Or.inr ⟨by kernel_rfl,rfl⟩) hHeld ?_
        try simp only[Act.put,tk1,tk2,tk3,tk4,tk5,tk6]
        refine tkH 37 hHeld ?_;refine wpAnyH_done (by kernel_rfl) ?_ _;clear hHeld;go_wp2;go_ret;exact HP.out _ (hea.out.trans (Below.drew (Below.refl _ _)))
      subst hk;have e1:(k1 != k1)=false:=by simp
      by_cases hy:key1=key2;rotate_left
      . obtain⟨y1,y2,y3,y4⟩:=Anj hy;have hP:=fun W hW=>Cq.no (w:=w) (w':=W) (HNe.out (fun e=>hy (by cases e;rfl))) hW;obtain⟨HP,Hkeep⟩:=hid2 hP hkeep;clear hP hkeep;clear hy c0 d0 c1 d1 c2 d2 c3 d3 c4 d4 c5 d5 c6 d6 c7 d7;refine wp_region_held_drew (S:=fun W=>W.cell? ⟨g,off+q*8,none⟩=some (.int .i64 k1)/\W.cell? ⟨g,off+q*8+1,none⟩=some (.string key1)/\W.cell? ⟨g,off+q*8+2,none⟩=some (.int .i64 ak)/\W.cell? ⟨g,off+q*8+3,none⟩=some (.bool ab)/\W.cell? ⟨g,off+q*8+4,none⟩=some (.int .i64 an)/\W.cell? ⟨g,off+q*8+5,none⟩=some (.string at1)/\W.cell? ⟨g,off+q*8+6,none⟩=some (.slice ala al.length alc)/\W.cell? ⟨g,off+q*8+7,none⟩=some (.slice aoa ao.length aoc)/\W.cell? ⟨g',off'+q*8,none⟩=some (.int .i64 k1)/\W.cell? ⟨g',off'+q*8+1,none⟩=some (.string key2)/\W.cell? ⟨g',off'+q*8+2,none⟩=some (.int .i64 bk)/\W.cell? ⟨g',off'+q*8+3,none⟩=some (.bool bb)/\W.cell? ⟨g',off'+q*8+4,none⟩=some (.int .i64 bn)/\W.cell? ⟨g',off'+q*8+5,none⟩=some (.string bt)/\W.cell? ⟨g',off'+q*8+6,none⟩=some (.slice bla bl.length blc)/\W.cell? ⟨g',off'+q*8+7,none⟩=some (.slice boa bo.length boc)) (by kernel_rfl) (Hkeep.out _ (Below.drew (Below.refl _ _))) (fun hHeld=> ?_);refine tkH 0 hHeld ?_;refine tkH 1 hHeld ?_;refine tkH 2 hHeld ?_;refine tkH 3 hHeld ?_;refine tkH 4 hHeld ?_;refine tkH 5 hHeld ?_;refine tkH 6 hHeld ?_;refine tkH 7 hHeld ?_;refine tkH 8 hHeld ?_;refine tkH 9 hHeld ?_;refine tkH 10 hHeld ?_;refine tkH 11 hHeld ?_;refine tkH 12 hHeld ?_;refine tkH 13 hHeld ?_;refine tkH 14 hHeld ?_;refine tkH 15 hHeld ?_;refine tkH 16 hHeld ?_;refine tkH 17 hHeld ?_;refine tkH 18 hHeld ?_;refine tkH 19 hHeld ?_;refine tkH 20 hHeld ?_;refine tkH 21 hHeld ?_;refine tkH 22 hHeld ?_;refine tkH 23 hHeld ?_;refine tkH 24 hHeld ?_;refine wpAnyH_take (i:=25) (v:=undef) rfl (by kernel_rfl) (by kernel_rfl) (by kernel_rfl) (fun _ _ _ h=>h) (Or.inr ⟨by kernel_rfl,rfl⟩) hHeld ?_
        try simp only[Act.put,tk1,tk2,tk3,tk4,tk5,tk6]
        refine wpAnyH_take (i:=26) (v:=undef) rfl (by kernel_rfl) (by kernel_rfl) (by kernel_rfl) (fun _ _ _ h=>h) (Or.inr ⟨by kernel_rfl,rfl⟩) hHeld ?_
        try simp only[Act.put,tk1,tk2,tk3,tk4,tk5,tk6]
        refine wpAnyH_take (i:=27) (v:=undef) rfl (by kernel_rfl) (by kernel_rfl) (by kernel_rfl) (fun _ _ _ h=>h) (Or.inr ⟨by kernel_rfl,rfl⟩) hHeld ?_
        try simp only[Act.put,tk1,tk2,tk3,tk4,tk5,tk6]
        refine wpAnyH_take (i:=28) (v:=undef) rfl (by kernel_rfl) (by kernel_rfl) (by kernel_rfl) (fun _ _ _ h=>h) (Or.inr ⟨by kernel_rfl,rfl⟩) hHeld ?_
        try simp only[Act.put,tk1,tk2,tk3,tk4,tk5,tk6]
        refine wpAnyH_take (i:=29) (v:=undef) rfl (by kernel_rfl) (by kernel_rfl) (by kernel_rfl) (fun _ _ _ h=>h) (Or.inr ⟨by kernel_rfl,rfl⟩) hHeld ?_
        try simp only[Act.put,tk1,tk2,tk3,tk4,tk5,tk6]
        refine wpAnyH_take (i:=30) (v:=undef) rfl (by kernel_rfl) (by kernel_rfl) (by kernel_rfl) (fun _ _ _ h=>h) (Or.inr ⟨by kernel_rfl,rfl⟩) hHeld ?_
        try simp only[Act.put,tk1,tk2,tk3,tk4,tk5,tk6]
        refine wpAnyH_take (i:=31) (v:=undef) rfl (by kernel_rfl) (by kernel_rfl) (by kernel_rfl) (fun _ _ _ h=>h) (Or.inr ⟨by kernel_rfl,rfl⟩) hHeld ?_
        try simp only[Act.put,tk1,tk2,tk3,tk4,tk5,tk6]
        refine wpAnyH_take (i:=32) (v:=undef) rfl (by kernel_rfl) (by kernel_rfl) (by kernel_rfl) (fun _ _ _ h=>h) (Or.inr ⟨by kernel_rfl,rfl⟩) hHeld ?_
        try simp only[Act.put,tk1,tk2,tk3,tk4,tk5,tk6]
        refine wpAnyH_take (i:=33) (v:=undef) rfl (by kernel_rfl) (by kernel_rfl) (by kernel_rfl) (fun _ _ _ h=>h) (Or.inr ⟨by kernel_rfl,rfl⟩) hHeld ?_
        try simp only[Act.put,tk1,tk2,tk3,tk4,tk5,tk6]
        refine wpAnyH_take (i:=34) (v:=undef) rfl (by kernel_rfl) (by kernel_rfl) (by kernel_rfl) (fun _ _ _ h=>h) (Or.inr ⟨by kernel_rfl,rfl⟩) hHeld ?_
        try simp only[Act.put,tk1,tk2,tk3,tk4,tk5,tk6]
        refine wpAnyH_take (i:=35) (v:=undef) rfl (by kernel_rfl) (by kernel_rfl) (by kernel_rfl) (fun _ _ _ h=>h) (Or.inr ⟨by kernel_rfl,rfl⟩) hHeld ?_
        try simp only[Act.put,tk1,tk2,tk3,tk4,tk5,tk6]
        refine wpAnyH_take (i:=36) (v:=undef) rfl (by kernel_rfl) (by kernel_rfl) (by kernel_rfl) (fun _ _ _ h=>h) (Or.inr ⟨by kernel_rfl,rfl⟩) hHeld ?_
        try simp only[Act.put,tk1,tk2,tk3,tk4,tk5,tk6]
        refine tkH 37 hHeld ?_;refine wpAnyH_done (by kernel_rfl) ?_ _;clear hHeld;go_wp2;go_ret;exact HP.out _ (hea.out.trans (Below.drew (Below.refl _ _)))
      subst hy;obtain⟨y1,y2,y3,y4⟩:=Anh key1;have Hkeep:=Lib.hid hkeep;clear hkeep;clear c0 d0 c1 d1 c2 d2 c3 d3 c4 d4 c5 d5 c6 d6 c7 d7;refine wp_region_held_drew (S:=fun W=>W.cell? ⟨g,off+q*8,none⟩=some (.int .i64 k1)/\W.cell? ⟨g,off+q*8+1,none⟩=some (.string key1)/\W.cell? ⟨g,off+q*8+2,none⟩=some (.int .i64 ak)/\W.cell? ⟨g,off+q*8+3,none⟩=some (.bool ab)/\W.cell? ⟨g,off+q*8+4,none⟩=some (.int .i64 an)/\W.cell? ⟨g,off+q*8+5,none⟩=some (.string at1)/\W.cell? ⟨g,off+q*8+6,none⟩=some (.slice ala al.length alc)/\W.cell? ⟨g,off+q*8+7,none⟩=some (.slice aoa ao.length aoc)/\W.cell? ⟨g',off'+q*8,none⟩=some (.int .i64 k1)/\W.cell? ⟨g',off'+q*8+1,none⟩=some (.string key1)/\W.cell? ⟨g',off'+q*8+2,none⟩=some (.int .i64 bk)/\W.cell? ⟨g',off'+q*8+3,none⟩=some (.bool bb)/\W.cell? ⟨g',off'+q*8+4,none⟩=some (.int .i64 bn)/\W.cell? ⟨g',off'+q*8+5,none⟩=some (.string bt)/\W.cell? ⟨g',off'+q*8+6,none⟩=some (.slice bla bl.length blc)/\W.cell? ⟨g',off'+q*8+7,none⟩=some (.slice boa bo.length boc)) (by kernel_rfl) (Hkeep.out _ (Below.drew (Below.refl _ _))) (fun hHeld=> ?_);refine tkH 0 hHeld ?_;refine tkH 1 hHeld ?_;refine tkH 2 hHeld ?_;refine tkH 3 hHeld ?_;refine tkH 4 hHeld ?_;refine tkH 5 hHeld ?_;refine tkH 6 hHeld ?_;refine tkH 7 hHeld ?_;refine tkH 8 hHeld ?_;refine tkH 9 hHeld ?_;refine tkH 10 hHeld ?_;refine tkH 11 hHeld ?_;refine tkH 12 hHeld ?_;refine tkH 13 hHeld ?_;refine tkH 14 hHeld ?_;refine tkH 15 hHeld ?_;refine tkH 16 hHeld ?_;refine tkH 17 hHeld ?_;refine tkH 18 hHeld ?_;refine tkH 19 hHeld ?_;refine tkH 20 hHeld ?_;refine tkH 21 hHeld ?_;refine tkH 22 hHeld ?_;refine tkH 23 hHeld ?_;refine tkH 24 hHeld ?_;refine tkH 25 hHeld ?_;refine tkH 26 hHeld ?_;refine tkH 27 hHeld ?_;refine tkH 28 hHeld ?_;refine tkH 29 hHeld ?_;refine tkH 30 hHeld ?_;refine tkH 31 hHeld ?_;refine tkH 32 hHeld ?_;refine tkH 33 hHeld ?_;refine tkH 34 hHeld ?_;refine wpAnyH_ready (rs:= [35]) (by kernel_rfl) (by simp) ?_;refine AllReadyH.cons rfl (fun K hK=> ?_) AllReadyH.nil;go_simp;(with_reducible refine(HC.out _ (Below.drew (Below.refl _ _))).mono ?_);rintro e w7 ⟨B,rfl,hB,hb7⟩;have hw7:Below wr.heap.size wr w7:=(Below.drew (Below.refl _ _)).trans hb7;refine hK.out _ _ (Hkeep.out _ hw7) (fun hHeld=> ?_);clear hK K
      try simp only[Act.put,tk1,tk2,tk3,tk4,tk5,tk6]
      refine tkH 36 hHeld ?_;refine tkH 37 hHeld ?_;refine wpAnyH_done (by kernel_rfl) ?_ _;clear hHeld;have hwf:=hea.out.trans (hw7.mono hea.out.size)
      cases B with
      |true=>
       have he:(⟨k1,key1,.mk ak ab an at1 al ao⟩:POp)=⟨k1,key1,.mk bk bb bn bt bl bo⟩:=by rw[hB.1 rfl]
       have htk':=HTt.out he;obtain⟨Htk',Hwf⟩:=hid2 htk' hwf;clear htk' hwf;clear hb7 hw7 hB he;go_wp2;go_roundw
       case rel=>exact⟨q+1,by go_num,by omega,Htk',Hwf⟩
       case measure=>simp only[intOf];omega
      |false=>
       have hP:=Cq.no (w:=w) (w':=w7) (HNe.out (fun e=>by
        have:Val.mk ak ab an at1 al ao=.mk bk bb bn bt bl bo:=by injection e
        have:=hB.2 this
        cases this)) hwf
       have HP:=Lib.hid hP;clear hP;clear hb7 hw7 hB hwf;go_wp2;go_ret;exact HP.out
    . obtain rfl:q=l.length:=by omega
      have he:l=l':=by
       have:=htk.out
       rwa [List.take_length,Hln.out,List.take_length]at this
      go_wp2;go_ret;exact Cq.yes he hea.out
set_option maxRecDepth 100000 in
theorem Si (c b k s c' b' k' s':Int) (l l':List POp) (a a':Option Addr) (n cc n' cc':Nat) (w:World) (h:Ae w w.heap.size (.row 8 (Je l)) [.slice a n cc]) (h':Ae w w.heap.size (.row 8 (Je l')) [.slice a' n' cc']) (hb:D5 l<=100000000) (hb':D5 l'<=100000000):
 Calls Tryz.prog 18 #[.agg #[.int .u64 c,.int .u64 b,.int .u64 k,.int .u64 s,.slice a n cc],.agg #[.int .u64 c',.int .u64 b',.int .u64 k',.int .u64 s',.slice a' n' cc']] w (Cq (c=c'/\b=b'/\k=k'/\s=s'/\l=l') w):=by
 have hL:=fun(W:World) (hB:Below w.heap.size w W)=>Abv l l' a a' n cc n' cc' W ((h.below hB).more hB.size) ((h'.below hB).more hB.size) hb hb';obtain⟨H,H'⟩:=hid2 h h';clear h h';by_cases h1:c=c';rotate_left
 . have e:(c==c')=false:=by simpa using h1
   have hno: ¬(c=c'/\b=b'/\k=k'/\s=s'/\l=l'):=fun x=>h1 x.1;obtain⟨Hno,HL⟩:=hid2 hno hL;clear hno hL;clear h1;go_enter Tryz.func18,Tryz.ntmps18;go_wp2;go_ret;exact Cq.no (by simpa using Hno.out) (D4 _ _ _)
 subst h1;have e1:(c==c)=true:=by simp
 by_cases h2:b=b';rotate_left
 . have e:(b==b')=false:=by simpa using h2
   have hno: ¬(c=c/\b=b'/\k=k'/\s=s'/\l=l'):=fun x=>h2 x.2.1;obtain⟨Hno,HL⟩:=hid2 hno hL;clear hno hL;clear h2;go_enter Tryz.func18,Tryz.ntmps18;go_wp2;go_ret;exact Cq.no (by simpa using Hno.out) (D4 _ _ _)
 subst h2;have e2:(b==b)=true:=by simp
 by_cases h3:k=k';rotate_left
 . have e:(k==k')=false:=by simpa using h3
   have hno: ¬(c=c/\b=b/\k=k'/\s=s'/\l=l'):=fun x=>h3 x.2.2.1;obtain⟨Hno,HL⟩:=hid2 hno hL;clear hno hL;clear h3;go_enter Tryz.func18,Tryz.ntmps18;go_wp2;go_ret;exact Cq.no (by simpa using Hno.out) (D4 _ _ _)
 subst h3;have e3:(k==k)=true:=by simp
 by_cases h4:s=s';rotate_left
 . have e:(s==s')=false:=by simpa using h4
   have hno: ¬(c=c/\b=b/\k=k/\s=s'/\l=l'):=fun x=>h4 x.2.2.2.1;obtain⟨Hno,HL⟩:=hid2 hno hL;clear hno hL;clear h4;go_enter Tryz.func18,Tryz.ntmps18;go_wp2;go_ret;exact Cq.no (by simpa using Hno.out) (D4 _ _ _)
 subst h4;have e4:(s==s)=true:=by simp
 have HL:=Lib.hid hL;clear hL;go_enter Tryz.func18,Tryz.ntmps18;go_wp2_with (fail);have hbw:=D4 w (.cells #[.int .u64 c,.int .u64 b,.int .u64 k,.int .u64 s,.slice a n cc] 47) (.cells #[.int .u64 c,.int .u64 b,.int .u64 k,.int .u64 s,.slice a' n' cc'] 47);(with_reducible refine(HL.out _ hbw).mono ?_);rintro e w1 ⟨B,rfl,hB,hb1⟩;have hw1:=hbw.trans (hb1.mono hbw.size);obtain⟨Hb1,Hbw,Hw1,HB⟩:=hid4 hb1 hbw hw1 hB;clear hb1 hbw hw1 hB;go_wp2;go_ret;exact⟨B,rfl,by simpa using HB.out,Hw1.out⟩
end Go.Proofs.YtackmnbpfbaemaaGreatDoor
