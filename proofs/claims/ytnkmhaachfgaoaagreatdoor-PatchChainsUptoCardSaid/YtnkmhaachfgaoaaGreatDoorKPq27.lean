/- Parts: patch.May: why ops may not be a patch. Condition: a bulk of at most 10^8. -/
import Derived.Deep.DeepCutAuto
import Derived.Test.YtnkmhaachfgaoaaGreatDoorKPq22
set_option maxHeartbeats 20000000
set_option maxRecDepth 100000
namespace Go.Proofs.YtnkmhaachfgaoaaGreatDoor
open Go.RowKit
theorem Kp {w:World} {B n c:Nat} {l:List POp} {a:Option Addr} (h:Ae w B (.row 8 (Ex l)) [.slice a n c]) {q:Nat} {k:Int} {key:ByteArray} {k':Int} {b':Bool} {n':Int} {t':ByteArray} {l':List Val} {o':List (ByteArray×Val)} (hi:l[q]? =some ⟨k,key,.mk k' b' n' t' l' o'⟩):
 ∃g off,a=some ⟨g,off,none⟩/\g<B/\ ∃la lc oa oc,Ab w B (.mk k' b' n' t' l' o') [.int .i64 k',.bool b',.int .i64 n',.string t',.slice la l'.length lc,.slice oa o'.length oc]/\
  w.cell? ⟨g,off+q*8,none⟩=some (.int .i64 k)/\w.cell? ⟨g,off+q*8+1,none⟩=some (.string key)/\w.cell? ⟨g,off+q*8+2,none⟩=some (.int .i64 k')/\w.cell? ⟨g,off+q*8+3,none⟩=some (.bool b')/\
  w.cell? ⟨g,off+q*8+4,none⟩=some (.int .i64 n')/\w.cell? ⟨g,off+q*8+5,none⟩=some (.string t')/\w.cell? ⟨g,off+q*8+6,none⟩=some (.slice la l'.length lc)/\w.cell? ⟨g,off+q*8+7,none⟩=some (.slice oa o'.length oc):=by
 obtain⟨g,off,ea,hg,cs,h1,_,h3⟩:=h.at_ (i:=q) (d:=dQ ⟨k,key,.mk k' b' n' t' l' o'⟩) (by unfold Ex;rw[List.getElem?_map,hi];rfl);unfold dQ at h1;simp only[Ae]at h1;obtain⟨_,_,rfl,⟨rfl,_⟩,_,_,rfl,⟨rfl,_⟩,cv,_,rfl,h4,rfl⟩:=h1;have h5:=Bp _ _ h4;have h6:=h5;simp only[Ab]at h6;obtain⟨la,lc,oa,oc,rfl,_,_⟩:=h6;exact⟨g,off,ea,hg,la,lc,oa,oc,h5,h3 0 _ rfl,h3 1 _ rfl,h3 2 _ rfl,h3 3 _ rfl,h3 4 _ rfl,h3 5 _ rfl,h3 6 _ rfl,h3 7 _ rfl⟩
theorem Ab2 {w:World} {g:Nat} {t:TypeId} {a0 a1 a2 a3 a4 a5 a6 a7:Value} (h:Ah w g t #[a0,a1,a2,a3,a4,a5,a6,a7]):
 w.cell? ⟨g,0,none⟩=some a0/\w.cell? ⟨g,1,none⟩=some a1/\w.cell? ⟨g,2,none⟩=some a2/\w.cell? ⟨g,3,none⟩=some a3/\w.cell? ⟨g,4,none⟩=some a4/\w.cell? ⟨g,5,none⟩=some a5/\w.cell? ⟨g,6,none⟩=some a6/\w.cell? ⟨g,7,none⟩=some a7:=
 ⟨h.cell 0,h.cell 1,h.cell 2,h.cell 3,h.cell 4,h.cell 5,h.cell 6,h.cell 7⟩
def Gy (l:List POp):Nat->Option POp
 |0=>none
 |q+1=>l[q]?
theorem Aa6 (k:Int) (key:ByteArray) (k':Int) (b':Bool) (n':Int) (t':ByteArray) (l':List Val) (o':List (ByteArray×Val)):
 (if k=1 then false else if k=2 then !Jk k' b' n' t' l'.length o'.length else if k=3 then !key.toList.isEmpty|| !Jk k' b' n' t' l'.length o'.length else true)=Cq ⟨k,key,.mk k' b' n' t' l' o'⟩:=rfl
theorem Kq (l:List POp) (a:Option Addr) (n c:Nat) (w:World) (hT:Cr w) (h:Ae w w.heap.size (.row 8 (Ex l)) [.slice a n c]) (hb:Bo l<=100000000) (hin:inQ l):
 Calls Tryz.prog 34 #[.slice a n c] w fun e w'=>e=.returned (.int .i64 (Aq none l))/\Below w.heap.size w w':=by
 have hlq:=Em l;have hn:=h.row_len;rw[Ee]at hn;subst hn;have Hm0:=qz (show Aq (Gy l 0) (l.drop 0)=Aq none l from by rw[List.drop_zero];rfl);have Hw0:Hid (Below w.heap.size w w):=Below.refl _ _;obtain⟨H,HT,Hin⟩:=hid3 h hT hin;clear h hT hin;go_enter Tryz.func34,Tryz.ntmps34;go_wp2_with (fail);go_loopw [8] (fun i wr=> ∃q:Nat,i=.int .i64 q/\q<=l.length/\Hid (Aq (Gy l q) (l.drop q)=Aq none l)/\Hid (Below w.heap.size w wr)) (fun i _=>l.length - (intOf i).toNat)
 case atStart=>exact⟨0,rfl,Nat.zero_le _,Hm0,Hw0⟩
 case round=>
  obtain⟨q,rfl,hq,hm,hbw⟩:=hrel;clear Hm0 Hw0;by_cases hlt:q<l.length
  . obtain⟨p,hp⟩: ∃p,l[q]? =some p:=⟨_,List.getElem?_eq_getElem hlt⟩;have hdr:=Ch hp;have hmem:=List.mem_of_getElem? hp;have hbq:=Lv hmem;have hiq:=Hin.out p hmem;have hpv:Gy l (q+1)=some p:=hp;have hm':=hm.out;rw[hdr]at hm';simp only[Aq]at hm';rw[<-hpv]at hm';obtain⟨R,hR⟩: ∃R,(Cq p||(Gy l q).any fun x=> !Di x p)=R:=⟨_,rfl⟩;rw[hR]at hm';obtain⟨k,key,⟨k',b',n',t',l',o'⟩⟩:=p;simp only at hbq hiq hm';have hz:=hbw.out.size;obtain⟨g,off,rfl,hg,la',lc',oa',oc',hv,c0,c1,c2,c3,c4,c5,c6,c7⟩:=Kp ((H.out.below hbw.out).more hz) hp;have hgr:g<wr.heap.size:=hg;obtain⟨wi,hwi⟩: ∃wi,wr.alloc (.cells #[.int .i64 k,.string key,.int .i64 k',.bool b',.int .i64 n',.string t',.slice la' l'.length lc',.slice oa' o'.length oc'] 42)=wi:=⟨_,rfl⟩;have Hbi:Hid (Below wr.heap.size wr wi):=hwi▸Aa _ _;have Hxi:=qz (show Ah wi wr.heap.size 42 #[.int .i64 k,.string key,.int .i64 k',.bool b',.int .i64 n',.string t',.slice la' l'.length lc',.slice oa' o'.length oc']from by rw[<-hwi];exact Ah.new _ _ _);have hq1:(q:Int)<(l.length:Int):=by omega
    obtain⟨Hm',HR,Hp,Hiq,Hv,Hbw⟩:=hid6 hm' hR hp hiq hv hbw;clear hm' hR hp hiq hv hbw;clear hm hdr hmem hpv;go_upto_region 4 with(fail);clear hwi;go_cut [28] (fun s wx=>s=.bool R/\Hid (Below wi.heap.size wi wx))
    case first=>
     have hS:=fun W=>Sz k key k' b' n' t' la' oa' l'.length lc' o'.length oc' _ W (Aa6 k key k' b' n' t' l' o');obtain⟨o0,o1,o2,o3,o4,o5,o6,o7⟩:=Ab2 Hxi.out;have hlt':wr.heap.size<wi.heap.size:=Hxi.out.lt;have hR':=HR.out;generalize hs0:Cq ⟨k,key,.mk k' b' n' t' l' o'⟩=B0 at hS hR'
     cases B0 with
     |true=>
      obtain rfl:true=R:=by simpa using hR'
      have HS:=qz hS;clear hS;clear hR' hs0 c0 c1 c2 c3 c4 c5 c6 c7 HR Hm' Hv;refine wp_region_held_drew (S:=fun W=>W.cell? ⟨wr.heap.size,0,none⟩=some (.int .i64 k)/\W.cell? ⟨wr.heap.size,1,none⟩=some (.string key)/\W.cell? ⟨wr.heap.size,2,none⟩=some (.int .i64 k')/\W.cell? ⟨wr.heap.size,3,none⟩=some (.bool b')/\W.cell? ⟨wr.heap.size,4,none⟩=some (.int .i64 n')/\W.cell? ⟨wr.heap.size,5,none⟩=some (.string t')/\W.cell? ⟨wr.heap.size,6,none⟩=some (.slice la' l'.length lc')/\W.cell? ⟨wr.heap.size,7,none⟩=some (.slice oa' o'.length oc')) (by kernel_rfl) ?_ (fun hHeld=> ?_)
      . (try dsimp only)
        go_keep
      refine wpAnyH_take (i:=0) (v:= ?_) rfl (by kernel_rfl) (by kernel_rfl) (by kernel_rfl) (fun _ _ _ h=>h) (Or.inl ⟨by kernel_rfl, ?_⟩) (by assumption) ?_;rotate_left
      . intro w hSw
        (try dsimp only at hSw)
        first|(go_simp;done)|(go_simp;with_reducible rfl)
      try simp only[Act.put,tk4]
      refine wpAnyH_ready (rs:= [1]) (by kernel_rfl) (by simp) ?_;refine AllReadyH.cons rfl (fun K hK=> ?_) AllReadyH.nil;go_simp;go_at_call 61;refine(HS.out _).mono ?_;rintro e w4 ⟨rfl,hb4⟩;have hbr:Below wi.heap.size wi w4:=((Below.drew (Below.refl _ _)).trans (hb4.mono (by simp)));obtain⟨hc4,hf4⟩:=Gi hbr;refine hK.out _ _ ?_ (fun hHeld=> ?_)
      . (try dsimp only)
        go_keep
      clear hK K
      try simp only[Act.put,tk4,tk5,tk6]
      refine wpAnyH_take (i:=2) (oi:={dst:=some 15,op:=Op.move (Operand.tmp 14),type:=4,pos:= "patch.go:17",after:= #[{on:=1,ground:=Ground.data},{on:=1,ground:=Ground.chain}],guard:=none}) (v:= ?_) rfl (by kernel_rfl) (by kernel_rfl) (by kernel_rfl) (fun _ _ _ h=>h) (Or.inl ⟨by kernel_rfl, ?_⟩) (by assumption) ?_;rotate_left
      . intro w hSw
        (try dsimp only at hSw)
        first|(go_simp;done)|(go_simp;with_reducible rfl)
      try simp only[Act.put,tk4,tk5,tk6]
      refine wpAnyH_take (i:=3) (oi:={dst:=some 16,op:=Op.move (Operand.tmp 3),type:=3,pos:= "patch.go:17",after:= #[{on:=2,ground:=Ground.guard}],guard:=some (2,false)}) (v:=undef) rfl (by kernel_rfl) (by kernel_rfl) (by kernel_rfl) (fun _ _ _ h=>h) (Or.inr ⟨by kernel_rfl,rfl⟩) (by assumption) ?_
      try simp only[Act.put,tk4,tk5,tk6]
      refine wpAnyH_take (i:=4) (oi:={dst:=some 17,op:=Op.binOp BinOp.gtr 3 (Operand.tmp 16) (Operand.const (Value.int IntKind.i64 0)) 3,type:=4,pos:= "patch.go:17",after:= #[{on:=3,ground:=Ground.data},{on:=2,ground:=Ground.guard}],guard:=some (2,false)}) (v:=undef) rfl (by kernel_rfl) (by kernel_rfl) (by kernel_rfl) (fun _ _ _ h=>h) (Or.inr ⟨by kernel_rfl,rfl⟩) (by assumption) ?_
      try simp only[Act.put,tk4,tk5,tk6]
      refine wpAnyH_take (i:=5) (oi:={dst:=some 18,op:=Op.move (Operand.tmp 17),type:=4,pos:= "patch.go:17",after:= #[{on:=4,ground:=Ground.data},{on:=2,ground:=Ground.chain},{on:=2,ground:=Ground.guard}],guard:=some (2,false)}) (v:=undef) rfl (by kernel_rfl) (by kernel_rfl) (by kernel_rfl) (fun _ _ _ h=>h) (Or.inr ⟨by kernel_rfl,rfl⟩) (by assumption) ?_
      try simp only[Act.put,tk4,tk5,tk6]
      refine wpAnyH_take (i:=6) (oi:={dst:=some 19,op:=Op.move (Operand.tmp 0),type:=23,pos:= "patch.go:17",after:= #[{on:=5,ground:=Ground.guard}],guard:=some (5,true)}) (v:=undef) rfl (by kernel_rfl) (by kernel_rfl) (by kernel_rfl) (fun _ _ _ h=>h) (Or.inr ⟨by kernel_rfl,rfl⟩) (by assumption) ?_
      try simp only[Act.put,tk4,tk5,tk6]
      refine wpAnyH_take (i:=7) (oi:={dst:=some 20,op:=Op.move (Operand.tmp 3),type:=3,pos:= "patch.go:17",after:= #[{on:=5,ground:=Ground.guard}],guard:=some (5,true)}) (v:=undef) rfl (by kernel_rfl) (by kernel_rfl) (by kernel_rfl) (fun _ _ _ h=>h) (Or.inr ⟨by kernel_rfl,rfl⟩) (by assumption) ?_
      try simp only[Act.put,tk4,tk5,tk6]
      refine wpAnyH_take (i:=8) (oi:={dst:=some 21,op:=Op.binOp BinOp.sub 3 (Operand.tmp 20) (Operand.const (Value.int IntKind.i64 1)) 3,type:=3,pos:= "patch.go:17",after:= #[{on:=7,ground:=Ground.data},{on:=5,ground:=Ground.guard}],guard:=some (5,true)}) (v:=undef) rfl (by kernel_rfl) (by kernel_rfl) (by kernel_rfl) (fun _ _ _ h=>h) (Or.inr ⟨by kernel_rfl,rfl⟩) (by assumption) ?_
      try simp only[Act.put,tk4,tk5,tk6]
      refine wpAnyH_take (i:=9) (oi:={dst:=some 22,op:=Op.indexAddr 23 (Operand.tmp 19) (Operand.tmp 21),type:=0,pos:= "patch.go:17",after:= #[{on:=6,ground:=Ground.data},{on:=8,ground:=Ground.data},{on:=5,ground:=Ground.guard}],guard:=some (5,true)}) (v:=undef) rfl (by kernel_rfl) (by kernel_rfl) (by kernel_rfl) (fun _ _ _ h=>h) (Or.inr ⟨by kernel_rfl,rfl⟩) (by assumption) ?_
      try simp only[Act.put,tk4,tk5,tk6]
      refine wpAnyH_take (i:=10) (oi:={dst:=some 23,op:=Op.load 42 (Operand.tmp 22),type:=42,pos:= "patch.go:17",after:= #[{on:=9,ground:=Ground.data},{on:=5,ground:=Ground.guard}],guard:=some (5,true)}) (v:=undef) rfl (by kernel_rfl) (by kernel_rfl) (by kernel_rfl) (fun _ _ _ h=>h) (Or.inr ⟨by kernel_rfl,rfl⟩) (by assumption) ?_
      try simp only[Act.put,tk4,tk5,tk6]
      refine wpAnyH_take (i:=11) (oi:={dst:=some 24,op:=Op.load 42 (Operand.tmp 4),type:=42,pos:= "patch.go:17",after:= #[{on:=5,ground:=Ground.guard}],guard:=some (5,true)}) (v:=undef) rfl (by kernel_rfl) (by kernel_rfl) (by kernel_rfl) (fun _ _ _ h=>h) (Or.inr ⟨by kernel_rfl,rfl⟩) (by assumption) ?_
      try simp only[Act.put,tk4,tk5,tk6]
      refine wpAnyH_take (i:=12) (oi:={dst:=some 25,op:=Op.call {callee:=Callee.value (Operand.func 62),args:= #[Operand.tmp 23,Operand.tmp 24],argTypes:= #[42,42]},type:=4,pos:= "patch.go:17",after:= #[{on:=10,ground:=Ground.data},{on:=11,ground:=Ground.data},{on:=5,ground:=Ground.chain},{on:=5,ground:=Ground.guard}],guard:=some (5,true)}) (v:=undef) rfl (by kernel_rfl) (by kernel_rfl) (by kernel_rfl) (fun _ _ _ h=>h) (Or.inr ⟨by kernel_rfl,rfl⟩) (by assumption) ?_
      try simp only[Act.put,tk4,tk5,tk6]
      refine wpAnyH_take (i:=13) (oi:={dst:=some 26,op:=Op.unOp UnOp.not 4 (Operand.tmp 25),type:=4,pos:= "patch.go:17",after:= #[{on:=12,ground:=Ground.data},{on:=5,ground:=Ground.guard}],guard:=some (5,true)}) (v:=undef) rfl (by kernel_rfl) (by kernel_rfl) (by kernel_rfl) (fun _ _ _ h=>h) (Or.inr ⟨by kernel_rfl,rfl⟩) (by assumption) ?_
      try simp only[Act.put,tk4,tk5,tk6]
      refine wpAnyH_take (i:=14) (oi:={dst:=some 27,op:=Op.pick (Operand.tmp 18) (Operand.tmp 26) (Operand.const (Value.bool false)),type:=4,pos:= "patch.go:17",after:= #[{on:=5,ground:=Ground.data},{on:=13,ground:=Ground.data},{on:=2,ground:=Ground.guard}],guard:=some (2,false)}) (v:=undef) rfl (by kernel_rfl) (by kernel_rfl) (by kernel_rfl) (fun _ _ _ h=>h) (Or.inr ⟨by kernel_rfl,rfl⟩) (by assumption) ?_
      try simp only[Act.put,tk4,tk5,tk6]
      refine wpAnyH_take (i:=15) (oi:={dst:=some 28,op:=Op.pick (Operand.tmp 15) (Operand.const (Value.bool true)) (Operand.tmp 27),type:=4,pos:= "patch.go:17",after:= #[{on:=2,ground:=Ground.data},{on:=14,ground:=Ground.data}],guard:=none}) (v:= ?_) rfl (by kernel_rfl) (by kernel_rfl) (by kernel_rfl) (fun _ _ _ h=>h) (Or.inl ⟨by kernel_rfl, ?_⟩) (by assumption) ?_;rotate_left
      . intro w hSw
        (try dsimp only at hSw)
        first|(go_simp;done)|(go_simp;with_reducible rfl)
      try simp only[Act.put,tk4,tk5,tk6]
      refine wpAnyH_done (by kernel_rfl) ?_ _
      all_goals
       have HB:=qz hbr;clear hb4 hbr hc4 hf4;go_wp2;go_meet;exact⟨rfl,HB⟩
     |false=>
      rcases q with _|j
      . obtain rfl:false=R:=by simpa[Gy]using hR'
        have HS:=qz hS;clear hS;clear hR' hs0 c0 c1 c2 c3 c4 c5 c6 c7 HR Hm' Hv;refine wp_region_held_drew (S:=fun W=>W.cell? ⟨wr.heap.size,0,none⟩=some (.int .i64 k)/\W.cell? ⟨wr.heap.size,1,none⟩=some (.string key)/\W.cell? ⟨wr.heap.size,2,none⟩=some (.int .i64 k')/\W.cell? ⟨wr.heap.size,3,none⟩=some (.bool b')/\W.cell? ⟨wr.heap.size,4,none⟩=some (.int .i64 n')/\W.cell? ⟨wr.heap.size,5,none⟩=some (.string t')/\W.cell? ⟨wr.heap.size,6,none⟩=some (.slice la' l'.length lc')/\W.cell? ⟨wr.heap.size,7,none⟩=some (.slice oa' o'.length oc')) (by kernel_rfl) ?_ (fun hHeld=> ?_)
        . (try dsimp only)
          go_keep
        refine wpAnyH_take (i:=0) (v:= ?_) rfl (by kernel_rfl) (by kernel_rfl) (by kernel_rfl) (fun _ _ _ h=>h) (Or.inl ⟨by kernel_rfl, ?_⟩) (by assumption) ?_;rotate_left
        . intro w hSw
          (try dsimp only at hSw)
          first|(go_simp;done)|(go_simp;with_reducible rfl)
        try simp only[Act.put,tk4]
        refine wpAnyH_ready (rs:= [1]) (by kernel_rfl) (by simp) ?_;refine AllReadyH.cons rfl (fun K hK=> ?_) AllReadyH.nil;go_simp;go_at_call 61;refine(HS.out _).mono ?_;rintro e w4 ⟨rfl,hb4⟩;have hbr:Below wi.heap.size wi w4:=((Below.drew (Below.refl _ _)).trans (hb4.mono (by simp)));obtain⟨hc4,hf4⟩:=Gi hbr;refine hK.out _ _ ?_ (fun hHeld=> ?_)
        . (try dsimp only)
          go_keep
        clear hK K
        try simp only[Act.put,tk4,tk5,tk6]
        refine wpAnyH_take (i:=2) (oi:={dst:=some 15,op:=Op.move (Operand.tmp 14),type:=4,pos:= "patch.go:17",after:= #[{on:=1,ground:=Ground.data},{on:=1,ground:=Ground.chain}],guard:=none}) (v:= ?_) rfl (by kernel_rfl) (by kernel_rfl) (by kernel_rfl) (fun _ _ _ h=>h) (Or.inl ⟨by kernel_rfl, ?_⟩) (by assumption) ?_;rotate_left
        . intro w hSw
          (try dsimp only at hSw)
          first|(go_simp;done)|(go_simp;with_reducible rfl)
        try simp only[Act.put,tk4,tk5,tk6]
        refine wpAnyH_take (i:=3) (oi:={dst:=some 16,op:=Op.move (Operand.tmp 3),type:=3,pos:= "patch.go:17",after:= #[{on:=2,ground:=Ground.guard}],guard:=some (2,false)}) (v:= ?_) rfl (by kernel_rfl) (by kernel_rfl) (by kernel_rfl) (fun _ _ _ h=>h) (Or.inl ⟨by kernel_rfl, ?_⟩) (by assumption) ?_;rotate_left
        . intro w hSw
          (try dsimp only at hSw)
          first|(go_simp;done)|(go_simp;with_reducible rfl)
        try simp only[Act.put,tk4,tk5,tk6]
        refine wpAnyH_take (i:=4) (oi:={dst:=some 17,op:=Op.binOp BinOp.gtr 3 (Operand.tmp 16) (Operand.const (Value.int IntKind.i64 0)) 3,type:=4,pos:= "patch.go:17",after:= #[{on:=3,ground:=Ground.data},{on:=2,ground:=Ground.guard}],guard:=some (2,false)}) (v:= ?_) rfl (by kernel_rfl) (by kernel_rfl) (by kernel_rfl) (fun _ _ _ h=>h) (Or.inl ⟨by kernel_rfl, ?_⟩) (by assumption) ?_;rotate_left
        . intro w hSw
          (try dsimp only at hSw)
          first|(go_simp;done)|(go_simp;with_reducible rfl)
        try simp only[Act.put,tk4,tk5,tk6]
        refine wpAnyH_take (i:=5) (oi:={dst:=some 18,op:=Op.move (Operand.tmp 17),type:=4,pos:= "patch.go:17",after:= #[{on:=4,ground:=Ground.data},{on:=2,ground:=Ground.chain},{on:=2,ground:=Ground.guard}],guard:=some (2,false)}) (v:= ?_) rfl (by kernel_rfl) (by kernel_rfl) (by kernel_rfl) (fun _ _ _ h=>h) (Or.inl ⟨by kernel_rfl, ?_⟩) (by assumption) ?_;rotate_left
        . intro w hSw
          (try dsimp only at hSw)
          first|(go_simp;done)|(go_simp;with_reducible rfl)
        try simp only[Act.put,tk4,tk5,tk6]
        refine wpAnyH_take (i:=6) (oi:={dst:=some 19,op:=Op.move (Operand.tmp 0),type:=23,pos:= "patch.go:17",after:= #[{on:=5,ground:=Ground.guard}],guard:=some (5,true)}) (v:=undef) rfl (by kernel_rfl) (by kernel_rfl) (by kernel_rfl) (fun _ _ _ h=>h) (Or.inr ⟨by kernel_rfl,rfl⟩) (by assumption) ?_
        try simp only[Act.put,tk4,tk5,tk6]
        refine wpAnyH_take (i:=7) (oi:={dst:=some 20,op:=Op.move (Operand.tmp 3),type:=3,pos:= "patch.go:17",after:= #[{on:=5,ground:=Ground.guard}],guard:=some (5,true)}) (v:=undef) rfl (by kernel_rfl) (by kernel_rfl) (by kernel_rfl) (fun _ _ _ h=>h) (Or.inr ⟨by kernel_rfl,rfl⟩) (by assumption) ?_
        try simp only[Act.put,tk4,tk5,tk6]
        refine wpAnyH_take (i:=8) (oi:={dst:=some 21,op:=Op.binOp BinOp.sub 3 (Operand.tmp 20) (Operand.const (Value.int IntKind.i64 1)) 3,type:=3,pos:= "patch.go:17",after:= #[{on:=7,ground:=Ground.data},{on:=5,ground:=Ground.guard}],guard:=some (5,true)}) (v:=undef) rfl (by kernel_rfl) (by kernel_rfl) (by kernel_rfl) (fun _ _ _ h=>h) (Or.inr ⟨by kernel_rfl,rfl⟩) (by assumption) ?_
        try simp only[Act.put,tk4,tk5,tk6]
        refine wpAnyH_take (i:=9) (oi:={dst:=some 22,op:=Op.indexAddr 23 (Operand.tmp 19) (Operand.tmp 21),type:=0,pos:= "patch.go:17",after:= #[{on:=6,ground:=Ground.data},{on:=8,ground:=Ground.data},{on:=5,ground:=Ground.guard}],guard:=some (5,true)}) (v:=undef) rfl (by kernel_rfl) (by kernel_rfl) (by kernel_rfl) (fun _ _ _ h=>h) (Or.inr ⟨by kernel_rfl,rfl⟩) (by assumption) ?_
        try simp only[Act.put,tk4,tk5,tk6]
        refine wpAnyH_take (i:=10) (oi:={dst:=some 23,op:=Op.load 42 (Operand.tmp 22),type:=42,pos:= "patch.go:17",after:= #[{on:=9,ground:=Ground.data},{on:=5,ground:=Ground.guard}],guard:=some (5,true)}) (v:=undef) rfl (by kernel_rfl) (by kernel_rfl) (by kernel_rfl) (fun _ _ _ h=>h) (Or.inr ⟨by kernel_rfl,rfl⟩) (by assumption) ?_
        try simp only[Act.put,tk4,tk5,tk6]
        refine wpAnyH_take (i:=11) (oi:={dst:=some 24,op:=Op.load 42 (Operand.tmp 4),type:=42,pos:= "patch.go:17",after:= #[{on:=5,ground:=Ground.guard}],guard:=some (5,true)}) (v:=undef) rfl (by kernel_rfl) (by kernel_rfl) (by kernel_rfl) (fun _ _ _ h=>h) (Or.inr ⟨by kernel_rfl,rfl⟩) (by assumption) ?_
        try simp only[Act.put,tk4,tk5,tk6]
        refine wpAnyH_take (i:=12) (oi:={dst:=some 25,op:=Op.call {callee:=Callee.value (Operand.func 62),args:= #[Operand.tmp 23,Operand.tmp 24],argTypes:= #[42,42]},type:=4,pos:= "patch.go:17",after:= #[{on:=10,ground:=Ground.data},{on:=11,ground:=Ground.data},{on:=5,ground:=Ground.chain},{on:=5,ground:=Ground.guard}],guard:=some (5,true)}) (v:=undef) rfl (by kernel_rfl) (by kernel_rfl) (by kernel_rfl) (fun _ _ _ h=>h) (Or.inr ⟨by kernel_rfl,rfl⟩) (by assumption) ?_
        try simp only[Act.put,tk4,tk5,tk6]
        refine wpAnyH_take (i:=13) (oi:={dst:=some 26,op:=Op.unOp UnOp.not 4 (Operand.tmp 25),type:=4,pos:= "patch.go:17",after:= #[{on:=12,ground:=Ground.data},{on:=5,ground:=Ground.guard}],guard:=some (5,true)}) (v:=undef) rfl (by kernel_rfl) (by kernel_rfl) (by kernel_rfl) (fun _ _ _ h=>h) (Or.inr ⟨by kernel_rfl,rfl⟩) (by assumption) ?_
        try simp only[Act.put,tk4,tk5,tk6]
        refine wpAnyH_take (i:=14) (oi:={dst:=some 27,op:=Op.pick (Operand.tmp 18) (Operand.tmp 26) (Operand.const (Value.bool false)),type:=4,pos:= "patch.go:17",after:= #[{on:=5,ground:=Ground.data},{on:=13,ground:=Ground.data},{on:=2,ground:=Ground.guard}],guard:=some (2,false)}) (v:= ?_) rfl (by kernel_rfl) (by kernel_rfl) (by kernel_rfl) (fun _ _ _ h=>h) (Or.inl ⟨by kernel_rfl, ?_⟩) (by assumption) ?_;rotate_left
        . intro w hSw
          (try dsimp only at hSw)
          first|(go_simp;done)|(go_simp;with_reducible rfl)
        try simp only[Act.put,tk4,tk5,tk6]
        refine wpAnyH_take (i:=15) (oi:={dst:=some 28,op:=Op.pick (Operand.tmp 15) (Operand.const (Value.bool true)) (Operand.tmp 27),type:=4,pos:= "patch.go:17",after:= #[{on:=2,ground:=Ground.data},{on:=14,ground:=Ground.data}],guard:=none}) (v:= ?_) rfl (by kernel_rfl) (by kernel_rfl) (by kernel_rfl) (fun _ _ _ h=>h) (Or.inl ⟨by kernel_rfl, ?_⟩) (by assumption) ?_;rotate_left
        . intro w hSw
          (try dsimp only at hSw)
          first|(go_simp;done)|(go_simp;with_reducible rfl)
        try simp only[Act.put,tk4,tk5,tk6]
        refine wpAnyH_done (by kernel_rfl) ?_ _
        all_goals
         have HB:=qz hbr;clear hb4 hbr hc4 hf4;go_wp2;go_meet;exact⟨rfl,HB⟩
      . obtain⟨pj,hpj⟩: ∃pj,l[j]? =some pj:=⟨_,List.getElem?_eq_getElem (by omega)⟩;have hR2:(!Di pj ⟨k,key,.mk k' b' n' t' l' o'⟩)=R:=by simpa[Gy,hpj]using hR'
        obtain⟨kp,keyp,⟨kp',bp',np',tp',lp',op'⟩⟩:=pj;obtain⟨g2,off2,e2,hg2,lap,lcp,oap,ocp,_,d0,d1,d2,d3,d4,d5,d6,d7⟩:=Kp ((H.out.below Hbw.out).more hz) hpj;obtain⟨rfl,rfl⟩:g=g2/\off=off2:=by simpa using e2
        have hF:=fun W=>Sg kp k keyp key (.int .i64 kp') (.bool bp') (.int .i64 np') (.string tp') (.slice lap lp'.length lcp) (.slice oap op'.length ocp) (.int .i64 k') (.bool b') (.int .i64 n') (.string t') (.slice la' l'.length lc') (.slice oa' o'.length oc') _ W rfl;have hF2:(decide (k≠3)&&(decide (kp=3)||Op.bytesLess keyp.toList key.toList))= !R:=by rw[<-hR2];simp[Di]
        rw[hF2]at hF;have q1:(1:Int)<=j+1:=by omega
        have q2:IntKind.i64.wrap ((j:Int)+1 - 1)=j:=by rw[Int.add_sub_cancel];exact IntWalk.i64_in _ (by omega)
        have q3:IntKind.i64.wrap (j:Int)=j:=IntWalk.i64_in _ (by omega);have q4:IntKind.i64.wrap (((j+1:Nat):Int) - 1)=j:=IntWalk.i64_in _ (by omega) |>.trans (by omega)
        have q5:(0:Int)<=j:=by omega
        have q6:(j:Int)<(l.length:Int):=by omega
        have q7:(1:Int)<=((j+1:Nat):Int):=by omega
        have q8:(0:Int)<(j:Int)+1:=by omega
        obtain⟨bc,_⟩:=Gi Hbi.out;have d0':=(bc g (off+j*8) hgr).trans d0;have d1':=(bc g (off+j*8+1) hgr).trans d1;have d2':=(bc g (off+j*8+2) hgr).trans d2;have d3':=(bc g (off+j*8+3) hgr).trans d3;have d4':=(bc g (off+j*8+4) hgr).trans d4;have d5':=(bc g (off+j*8+5) hgr).trans d5;have d6':=(bc g (off+j*8+6) hgr).trans d6;have d7':=(bc g (off+j*8+7) hgr).trans d7;have hgi:g<wi.heap.size:=by omega
        have hjl:j<l.length:=by omega
        obtain⟨HS,HF⟩:=hid2 hS hF;clear hS hF;clear hF2 hR' hR2 hs0 c0 c1 c2 c3 c4 c5 c6 c7 d0 d1 d2 d3 d4 d5 d6 d7 bc HR Hm' Hv hpj
        go_region_held3 (fun W=>W.cell? ⟨wr.heap.size,0,none⟩=some (.int .i64 k)/\W.cell? ⟨wr.heap.size,1,none⟩=some (.string key)/\W.cell? ⟨wr.heap.size,2,none⟩=some (.int .i64 k')/\W.cell? ⟨wr.heap.size,3,none⟩=some (.bool b')/\W.cell? ⟨wr.heap.size,4,none⟩=some (.int .i64 n')/\W.cell? ⟨wr.heap.size,5,none⟩=some (.string t')/\W.cell? ⟨wr.heap.size,6,none⟩=some (.slice la' l'.length lc')/\W.cell? ⟨wr.heap.size,7,none⟩=some (.slice oa' o'.length oc')/\W.cell? ⟨g,off+j*8,none⟩=some (.int .i64 kp)/\W.cell? ⟨g,off+j*8+1,none⟩=some (.string keyp)/\W.cell? ⟨g,off+j*8+2,none⟩=some (.int .i64 kp')/\W.cell? ⟨g,off+j*8+3,none⟩=some (.bool bp')/\W.cell? ⟨g,off+j*8+4,none⟩=some (.int .i64 np')/\W.cell? ⟨g,off+j*8+5,none⟩=some (.string tp')/\W.cell? ⟨g,off+j*8+6,none⟩=some (.slice lap lp'.length lcp)/\W.cell? ⟨g,off+j*8+7,none⟩=some (.slice oap op'.length ocp)) (go_keep) (first|(go_at_call 61;refine(HS.out _).mono ?_;rintro e w4 ⟨rfl,hb4⟩;have hbr:Below wi.heap.size wi w4:=((Below.drew (Below.refl _ _)).trans (hb4.mono (by simp)));obtain⟨hc4,hf4⟩:=Gi hbr)|(go_at_call 62;refine(HF.out _).mono ?_;rintro e w5 ⟨rfl,hb5⟩;have hbs:Below wi.heap.size wi w5:=(hbr.trans (hb5.mono (by have:=hbr.size;simpa using this)));obtain⟨hc5,hf5⟩:=Gi hbs))
        all_goals
         have HB:=qz hbs;clear hb4 hbr hc4 hf4 hb5 hbs hc5 hf5;go_wp2;go_meet;exact⟨by simp,HB⟩
    case rest=>
     obtain⟨rfl,hbx⟩:=hcut;have hBw:Below w.heap.size w wc:=Hbw.out.out.trans ((Hbi.out.trans (hbx.out.mono Hbi.out.size)).mono hz);obtain⟨o0,o1,o2,o3,o4,o5,o6,o7⟩:=Ab2 (Hxi.out.below hbx.out Hxi.out.lt);have hTc:=HT.out.below hBw;have hvc:=(Hv.out.below (Hbi.out.trans (hbx.out.mono Hbi.out.size))).more (Nat.le_trans Hbi.out.size hbx.out.size);have hks:key.size<=9223372036854775807:=by omega
     have hm:=Hm'.out;have hq9:q+1<=l.length:=by omega
     clear c0 c1 c2 c3 c4 c5 c6 c7
     cases R with
     |true=>
      rw[if_pos rfl]at hm;obtain⟨HBw,HTc,Hvc,Hm⟩:=hid4 hBw hTc hvc hm;clear hBw hTc hvc hm;go_wp2;go_ret;exact⟨by rw[<-Hm.out];rfl,HBw.out⟩
     |false=>
      rw[if_neg (by simp)]at hm;by_cases e3:k=3
      . rw[if_pos e3]at hm;have t3:(k==3)=true:=by simpa using e3
        obtain⟨HBw,HTc,Hvc,Hm⟩:=hid4 hBw hTc hvc hm;clear hBw hTc hvc hm;clear e3;go_wp2;go_roundw
        case rel=>exact⟨q+1,by go_num,hq9,Hm,HBw⟩
        case measure=>simp[intOf];omega
      rw[if_neg e3]at hm;have t3:(k==3)=false:=by simpa using e3
      have hC:=Si key wc hTc hks;by_cases hkb:Iv key=false
      . rw[if_pos hkb]at hm;have tE:(Ju key != 0)=true:=by
         simp only[bne_iff_ne,ne_eq];intro e;rw[(Ib key).1 e]at hkb
         cases hkb
        obtain⟨HBw,HTc,Hvc,Hm,HC⟩:=hid5 hBw hTc hvc hm hC;clear hBw hTc hvc hm hC;clear e3 hkb;go_wp2_with (go_at_call 63;(with_reducible refine(HC.out).mono ?_);rintro e wk ⟨rfl,hbk⟩);go_ret;exact⟨by rw[<-Hm.out];rfl,HBw.out.trans (hbk.mono HBw.out.size)⟩
      rw[if_neg hkb]at hm;have hk0:Ju key=0:=(Ib key).2 (by simpa using hkb);have tE:(Ju key != 0)=false:=by rw[hk0];rfl
      have hfit: ∀wk,Below wc.heap.size wc wk->Calls Tryz.prog 64 #[.agg #[.int .i64 k',.bool b',.int .i64 n',.string t',.slice la' l'.length lc',.slice oa' o'.length oc']] wk fun e w'=>e=.returned (.int .i64 (C6 (.mk k' b' n' t' l' o')))/\Below wk.heap.size wk w':=
       fun wk hbk=>Zh _ _ wk (hTc.below hbk) ((hvc.below hbk).more hbk.size) (by omega) Hiq.out
      have hlx:wr.heap.size<wc.heap.size:=(Hxi.out.below hbx.out Hxi.out.lt).lt;by_cases e2:k=2
      . rw[if_pos e2]at hm;have t2:(k==2)=true:=by simpa using e2
        obtain⟨HBw,HTc,Hvc,Hm,HC,Hk0⟩:=hid6 hBw hTc hvc hm hC hk0;clear hBw hTc hvc hm hC hk0;clear e3 hkb e2 hfit;go_wp2_with (go_at_call 63;(with_reducible refine(HC.out).mono ?_);rintro e wk ⟨rfl,hbk⟩;obtain⟨hck,hfk⟩:=Gi hbk);have HBk:=qz (HBw.out.trans (hbk.mono HBw.out.size));go_roundw
        case rel=>exact⟨q+1,by go_num,hq9,Hm,HBk⟩
        case measure=>simp[intOf];omega
      rw[if_neg e2]at hm;have t2:(k==2)=false:=by simpa using e2
      by_cases hf:C6 (.mk k' b' n' t' l' o')=0
      . rw[if_pos hf]at hm;have tF:(C6 (.mk k' b' n' t' l' o') != 0)=false:=by rw[hf];rfl
        obtain⟨HBw,HTc,Hvc,Hm,HC,Hk0,Hfit,Hf⟩:=hid8 hBw hTc hvc hm hC hk0 hfit hf;clear hBw hTc hvc hm hC hk0 hfit hf;clear e3 hkb e2;go_wp2_with (first
         |(go_at_call 63;(with_reducible refine(HC.out).mono ?_);rintro e wk ⟨rfl,hbk⟩;obtain⟨hck,hfk⟩:=Gi hbk)
         |(go_at_call 64;(with_reducible refine(Hfit.out _ hbk).mono ?_);rintro e wf ⟨rfl,hbf⟩))
        have HBk:=qz ((HBw.out.trans (hbk.mono HBw.out.size)).trans (hbf.mono (Nat.le_trans HBw.out.size hbk.size)));go_roundw
        case rel=>exact⟨q+1,by go_num,hq9,Hm,HBk⟩
        case measure=>simp[intOf];omega
      . rw[if_neg hf]at hm;have tF:(C6 (.mk k' b' n' t' l' o') != 0)=true:=by simpa using hf
        obtain⟨HBw,HTc,Hvc,Hm,HC,Hk0,Hfit⟩:=hid7 hBw hTc hvc hm hC hk0 hfit;clear hBw hTc hvc hm hC hk0 hfit;clear e3 hkb e2 hf;go_wp2_with (first
         |(go_at_call 63;(with_reducible refine(HC.out).mono ?_);rintro e wk ⟨rfl,hbk⟩;obtain⟨hck,hfk⟩:=Gi hbk)
         |(go_at_call 64;(with_reducible refine(Hfit.out _ hbk).mono ?_);rintro e wf ⟨rfl,hbf⟩))
        go_ret;exact⟨by rw[<-Hm.out];rfl,(HBw.out.trans (hbk.mono HBw.out.size)).trans (hbf.mono (Nat.le_trans HBw.out.size hbk.size))⟩
  . obtain rfl:q=l.length:=by omega
    have hm':=hm.out;rw[List.drop_length]at hm';have e0:Aq (Gy l l.length) []=0:=by simp[Aq]
    rw[e0]at hm';have Hm':=qz hm';clear hm';clear hm e0;go_wp2;go_ret;exact⟨by rw[<-Hm'.out];rfl,hbw.out⟩
end Go.Proofs.YtnkmhaachfgaoaaGreatDoor
