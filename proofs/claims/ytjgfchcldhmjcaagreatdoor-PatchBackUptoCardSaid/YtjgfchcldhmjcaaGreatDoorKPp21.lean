/- Parts: commonplaceref14.Same, commonplaceref18.Same: yes of an answer and itself alone. Condition: bulks of at most 10^8. -/
import Derived.Deep.DeepCutAuto
import Derived.Test.YtjgfchcldhmjcaaGreatDoorKPp17
import Derived.Test.YtjgfchcldhmjcaaGreatDoorKPp18
set_option maxHeartbeats 20000000
set_option maxRecDepth 100000
namespace Go.Proofs.YtjgfchcldhmjcaaGreatDoor
open Go.RowKit
theorem Ma {w:World} {B n c:Nat} {l:List POp} {a:Option Addr} (h:Ag w B (.row 8 (Eo l)) [.slice a n c]) {q:Nat} {k:Int} {key:ByteArray} {f:Int} {b':Bool} {j:Int} {m:ByteArray} {l':List Val} {o':List (ByteArray×Val)} (z:l[q]? =some ⟨k,key,.mk f b' j m l' o'⟩):
 ∃g b,a=some ⟨g,b,none⟩/\g<B/\ ∃o p r oc,Ab w B (.mk f b' j m l' o') [.int .i64 f,.bool b',.int .i64 j,.string m,.slice o l'.length p,.slice r o'.length oc]/\
  w.cell? ⟨g,b+q*8,none⟩=some (.int .i64 k)/\w.cell? ⟨g,b+q*8+1,none⟩=some (.string key)/\w.cell? ⟨g,b+q*8+2,none⟩=some (.int .i64 f)/\w.cell? ⟨g,b+q*8+3,none⟩=some (.bool b')/\
  w.cell? ⟨g,b+q*8+4,none⟩=some (.int .i64 j)/\w.cell? ⟨g,b+q*8+5,none⟩=some (.string m)/\w.cell? ⟨g,b+q*8+6,none⟩=some (.slice o l'.length p)/\w.cell? ⟨g,b+q*8+7,none⟩=some (.slice r o'.length oc):=by
 obtain⟨g,b,v,y,cs,s,_,e⟩:=h.at_ (i:=q) (d:=dQ ⟨k,key,.mk f b' j m l' o'⟩) (by unfold Eo;rw[List.getElem?_map,z];rfl);unfold dQ at s;simp only[Ag]at s;obtain⟨_,_,rfl,⟨rfl,_⟩,_,_,rfl,⟨rfl,_⟩,A,_,rfl,x,rfl⟩:=s;have t:=Be _ _ x;have u:=t;simp only[Ab]at u;obtain⟨o,p,r,oc,rfl,_,_⟩:=u;exact⟨g,b,v,y,o,p,r,oc,t,e 0 _ rfl,e 1 _ rfl,e 2 _ rfl,e 3 _ rfl,e 4 _ rfl,e 5 _ rfl,e 6 _ rfl,e 7 _ rfl⟩
theorem Fa {w:World} {g:Nat} {t:TypeId} {a a1 b c d e f i:Value} (h:Ap w g t #[a,a1,b,c,d,e,f,i]):
 w.cell? ⟨g,0,none⟩=some a/\w.cell? ⟨g,1,none⟩=some a1/\w.cell? ⟨g,2,none⟩=some b/\w.cell? ⟨g,3,none⟩=some c/\w.cell? ⟨g,4,none⟩=some d/\w.cell? ⟨g,5,none⟩=some e/\w.cell? ⟨g,6,none⟩=some f/\w.cell? ⟨g,7,none⟩=some i:=
 ⟨h.cell 0,h.cell 1,h.cell 2,h.cell 3,h.cell 4,h.cell 5,h.cell 6,h.cell 7⟩
def Iu (l:List POp):Nat->Option POp
 |0=>none
 |q+1=>l[q]?
theorem Ad0 (k:Int) (key:ByteArray) (a:Int) (b':Bool) (b:Int) (c:ByteArray) (l':List Val) (o':List (ByteArray×Val)):
 (if k=1 then false else if k=2 then !I8 a b' b c l'.length o'.length else if k=3 then !key.toList.isEmpty|| !I8 a b' b c l'.length o'.length else true)=Cy ⟨k,key,.mk a b' b c l' o'⟩:=rfl
theorem Li (l:List POp) (a:Option Addr) (n c:Nat) (w:World) (hT:Cj w) (h:Ag w w.heap.size (.row 8 (Eo l)) [.slice a n c]) (hb:Da l<=100000000) (a2:inQ l):
 Calls Tryz.prog 35 #[.slice a n c] w fun e w'=>e=.returned (.int .i64 (A8 none l))/\Below w.heap.size w w':=by
 have bz:=Gp l;have hn:=h.row_len;rw[E8]at hn;subst hn;have ar:=qz (show A8 (Iu l 0) (l.drop 0)=A8 none l from by rw[List.drop_zero];rfl);have au:Hid (Below w.heap.size w w):=Below.refl _ _;obtain⟨H,HT,bf⟩:=hid3 h hT a2;clear h hT a2;go_enter Tryz.func35,Tryz.ntmps35;go_wp2_with (fail);go_loopw [8] (fun i wr=> ∃q:Nat,i=.int .i64 q/\q<=l.length/\Hid (A8 (Iu l q) (l.drop q)=A8 none l)/\Hid (Below w.heap.size w wr)) (fun i _=>l.length - (intOf i).toNat)
 case atStart=>exact⟨0,rfl,Nat.zero_le _,ar,au⟩
 case round=>
  obtain⟨q,rfl,hq,t,ab⟩:=hrel;clear ar au;by_cases bl:q<l.length
  . obtain⟨p,hp⟩: ∃p,l[q]? =some p:=⟨_,List.getElem?_eq_getElem bl⟩;have a0:=Cr hp;have af:=List.mem_of_getElem? hp;have bh:=Jn af;have ak:=bf.out p af;have a3:Iu l (q+1)=some p:=hp;have z:=t.out;rw[a0]at z;simp only[A8]at z;rw[<-a3]at z;obtain⟨R,hR⟩: ∃R,(Cy p||(Iu l q).any fun x=> !G3 x p)=R:=⟨_,rfl⟩;rw[hR]at z;obtain⟨k,key,⟨O,b',P,Q,l',o'⟩⟩:=p;simp only at bh ak z;have hz:=ab.out.size;obtain⟨g,m,rfl,hg,E,F,G,I,hv,c0,c1,c2,c3,c4,c5,c6,c7⟩:=Ma ((H.out.below ab.out).more hz) hp;have D:g<wr.heap.size:=hg;obtain⟨J,ao⟩: ∃J,wr.alloc (.cells #[.int .i64 k,.string key,.int .i64 O,.bool b',.int .i64 P,.string Q,.slice E l'.length F,.slice G o'.length I] 80)=J:=⟨_,rfl⟩;have T:Hid (Below wr.heap.size wr J):=ao▸Aa _ _;have V:=qz (show Ap J wr.heap.size 80 #[.int .i64 k,.string key,.int .i64 O,.bool b',.int .i64 P,.string Q,.slice E l'.length F,.slice G o'.length I]from by rw[<-ao];exact Ap.new _ _ _);have b1:(q:Int)<(l.length:Int):=by omega
    obtain⟨U,HR,Hp,bg,Hv,ap⟩:=hid6 z hR hp ak hv ab;clear z hR hp ak hv ab;clear t a0 af a3;go_upto_region 4 with(fail);clear ao;go_cut [28] (fun s wx=>s=.bool R/\Hid (Below J.heap.size J wx))
    case first=>
     have hS:=fun W=>Ve k key O b' P Q E G l'.length F o'.length I _ W (Ad0 k key O b' P Q l' o');obtain⟨o0,o1,o2,o3,o4,o5,o6,o7⟩:=Fa V.out;have bm:wr.heap.size<J.heap.size:=V.out.lt;have M:=HR.out;generalize an:Cy ⟨k,key,.mk O b' P Q l' o'⟩=B0 at hS M
     cases B0 with
     |true=>
      obtain rfl:true=R:=by simpa using M
      have HS:=qz hS;clear hS;clear M an c0 c1 c2 c3 c4 c5 c6 c7 HR U Hv;refine wp_region_held_drew (S:=fun W=>W.cell? ⟨wr.heap.size,0,none⟩=some (.int .i64 k)/\W.cell? ⟨wr.heap.size,1,none⟩=some (.string key)/\W.cell? ⟨wr.heap.size,2,none⟩=some (.int .i64 O)/\W.cell? ⟨wr.heap.size,3,none⟩=some (.bool b')/\W.cell? ⟨wr.heap.size,4,none⟩=some (.int .i64 P)/\W.cell? ⟨wr.heap.size,5,none⟩=some (.string Q)/\W.cell? ⟨wr.heap.size,6,none⟩=some (.slice E l'.length F)/\W.cell? ⟨wr.heap.size,7,none⟩=some (.slice G o'.length I)) (by kernel_rfl) ?_ (fun L=> ?_)
      . (try dsimp only)
        go_keep
      refine wpAnyH_take (i:=0) (v:= ?_) rfl (by kernel_rfl) (by kernel_rfl) (by kernel_rfl) (fun _ _ _ h=>h) (Or.inl ⟨by kernel_rfl, ?_⟩) (by assumption) ?_;rotate_left
      . intro w b
        (try dsimp only at b)
        first|(go_simp;done)|(go_simp;with_reducible rfl)
      try simp only[Act.put,tk4]
      refine wpAnyH_ready (rs:= [1]) (by kernel_rfl) (by simp) ?_;refine AllReadyH.cons rfl (fun K hK=> ?_) AllReadyH.nil;go_simp;go_at_call 70;refine(HS.out _).mono ?_;rintro e w4 ⟨rfl,B⟩;have y:Below J.heap.size J w4:=((Below.drew (Below.refl _ _)).trans (B.mono (by simp)));obtain⟨ad,ae⟩:=E4 y;refine hK.out _ _ ?_ (fun L=> ?_)
      . (try dsimp only)
        go_keep
      clear hK K
      try simp only[Act.put,tk4,tk5,tk6]
      refine wpAnyH_take (i:=2) (oi:={dst:=some 15,op:=Op.move (Operand.tmp 14),type:=4,pos:= "patch.go:17",after:= #[{on:=1,ground:=Ground.data},{on:=1,ground:=Ground.chain}],guard:=none}) (v:= ?_) rfl (by kernel_rfl) (by kernel_rfl) (by kernel_rfl) (fun _ _ _ h=>h) (Or.inl ⟨by kernel_rfl, ?_⟩) (by assumption) ?_;rotate_left
      . intro w b
        (try dsimp only at b)
        first|(go_simp;done)|(go_simp;with_reducible rfl)
      try simp only[Act.put,tk4,tk5,tk6]
      refine wpAnyH_take (i:=3) (oi:={dst:=some 16,op:=Op.move (Operand.tmp 3),type:=3,pos:= "patch.go:17",after:= #[{on:=2,ground:=Ground.guard}],guard:=some (2,false)}) (v:=undef) rfl (by kernel_rfl) (by kernel_rfl) (by kernel_rfl) (fun _ _ _ h=>h) (Or.inr ⟨by kernel_rfl,rfl⟩) (by assumption) ?_
      try simp only[Act.put,tk4,tk5,tk6]
      refine wpAnyH_take (i:=4) (oi:={dst:=some 17,op:=Op.binOp BinOp.gtr 3 (Operand.tmp 16) (Operand.const (Value.int IntKind.i64 0)) 3,type:=4,pos:= "patch.go:17",after:= #[{on:=3,ground:=Ground.data},{on:=2,ground:=Ground.guard}],guard:=some (2,false)}) (v:=undef) rfl (by kernel_rfl) (by kernel_rfl) (by kernel_rfl) (fun _ _ _ h=>h) (Or.inr ⟨by kernel_rfl,rfl⟩) (by assumption) ?_
      try simp only[Act.put,tk4,tk5,tk6]
      refine wpAnyH_take (i:=5) (oi:={dst:=some 18,op:=Op.move (Operand.tmp 17),type:=4,pos:= "patch.go:17",after:= #[{on:=4,ground:=Ground.data},{on:=2,ground:=Ground.chain},{on:=2,ground:=Ground.guard}],guard:=some (2,false)}) (v:=undef) rfl (by kernel_rfl) (by kernel_rfl) (by kernel_rfl) (fun _ _ _ h=>h) (Or.inr ⟨by kernel_rfl,rfl⟩) (by assumption) ?_
      try simp only[Act.put,tk4,tk5,tk6]
      refine wpAnyH_take (i:=6) (oi:={dst:=some 19,op:=Op.move (Operand.tmp 0),type:=50,pos:= "patch.go:17",after:= #[{on:=5,ground:=Ground.guard}],guard:=some (5,true)}) (v:=undef) rfl (by kernel_rfl) (by kernel_rfl) (by kernel_rfl) (fun _ _ _ h=>h) (Or.inr ⟨by kernel_rfl,rfl⟩) (by assumption) ?_
      try simp only[Act.put,tk4,tk5,tk6]
      refine wpAnyH_take (i:=7) (oi:={dst:=some 20,op:=Op.move (Operand.tmp 3),type:=3,pos:= "patch.go:17",after:= #[{on:=5,ground:=Ground.guard}],guard:=some (5,true)}) (v:=undef) rfl (by kernel_rfl) (by kernel_rfl) (by kernel_rfl) (fun _ _ _ h=>h) (Or.inr ⟨by kernel_rfl,rfl⟩) (by assumption) ?_
      try simp only[Act.put,tk4,tk5,tk6]
      refine wpAnyH_take (i:=8) (oi:={dst:=some 21,op:=Op.binOp BinOp.sub 3 (Operand.tmp 20) (Operand.const (Value.int IntKind.i64 1)) 3,type:=3,pos:= "patch.go:17",after:= #[{on:=7,ground:=Ground.data},{on:=5,ground:=Ground.guard}],guard:=some (5,true)}) (v:=undef) rfl (by kernel_rfl) (by kernel_rfl) (by kernel_rfl) (fun _ _ _ h=>h) (Or.inr ⟨by kernel_rfl,rfl⟩) (by assumption) ?_
      try simp only[Act.put,tk4,tk5,tk6]
      refine wpAnyH_take (i:=9) (oi:={dst:=some 22,op:=Op.indexAddr 50 (Operand.tmp 19) (Operand.tmp 21),type:=0,pos:= "patch.go:17",after:= #[{on:=6,ground:=Ground.data},{on:=8,ground:=Ground.data},{on:=5,ground:=Ground.guard}],guard:=some (5,true)}) (v:=undef) rfl (by kernel_rfl) (by kernel_rfl) (by kernel_rfl) (fun _ _ _ h=>h) (Or.inr ⟨by kernel_rfl,rfl⟩) (by assumption) ?_
      try simp only[Act.put,tk4,tk5,tk6]
      refine wpAnyH_take (i:=10) (oi:={dst:=some 23,op:=Op.load 80 (Operand.tmp 22),type:=80,pos:= "patch.go:17",after:= #[{on:=9,ground:=Ground.data},{on:=5,ground:=Ground.guard}],guard:=some (5,true)}) (v:=undef) rfl (by kernel_rfl) (by kernel_rfl) (by kernel_rfl) (fun _ _ _ h=>h) (Or.inr ⟨by kernel_rfl,rfl⟩) (by assumption) ?_
      try simp only[Act.put,tk4,tk5,tk6]
      refine wpAnyH_take (i:=11) (oi:={dst:=some 24,op:=Op.load 80 (Operand.tmp 4),type:=80,pos:= "patch.go:17",after:= #[{on:=5,ground:=Ground.guard}],guard:=some (5,true)}) (v:=undef) rfl (by kernel_rfl) (by kernel_rfl) (by kernel_rfl) (fun _ _ _ h=>h) (Or.inr ⟨by kernel_rfl,rfl⟩) (by assumption) ?_
      try simp only[Act.put,tk4,tk5,tk6]
      refine wpAnyH_take (i:=12) (oi:={dst:=some 25,op:=Op.call {callee:=Callee.value (Operand.func 71),args:= #[Operand.tmp 23,Operand.tmp 24],argTypes:= #[80,80]},type:=4,pos:= "patch.go:17",after:= #[{on:=10,ground:=Ground.data},{on:=11,ground:=Ground.data},{on:=5,ground:=Ground.chain},{on:=5,ground:=Ground.guard}],guard:=some (5,true)}) (v:=undef) rfl (by kernel_rfl) (by kernel_rfl) (by kernel_rfl) (fun _ _ _ h=>h) (Or.inr ⟨by kernel_rfl,rfl⟩) (by assumption) ?_
      try simp only[Act.put,tk4,tk5,tk6]
      refine wpAnyH_take (i:=13) (oi:={dst:=some 26,op:=Op.unOp UnOp.not 4 (Operand.tmp 25),type:=4,pos:= "patch.go:17",after:= #[{on:=12,ground:=Ground.data},{on:=5,ground:=Ground.guard}],guard:=some (5,true)}) (v:=undef) rfl (by kernel_rfl) (by kernel_rfl) (by kernel_rfl) (fun _ _ _ h=>h) (Or.inr ⟨by kernel_rfl,rfl⟩) (by assumption) ?_
      try simp only[Act.put,tk4,tk5,tk6]
      refine wpAnyH_take (i:=14) (oi:={dst:=some 27,op:=Op.pick (Operand.tmp 18) (Operand.tmp 26) (Operand.const (Value.bool false)),type:=4,pos:= "patch.go:17",after:= #[{on:=5,ground:=Ground.data},{on:=13,ground:=Ground.data},{on:=2,ground:=Ground.guard}],guard:=some (2,false)}) (v:=undef) rfl (by kernel_rfl) (by kernel_rfl) (by kernel_rfl) (fun _ _ _ h=>h) (Or.inr ⟨by kernel_rfl,rfl⟩) (by assumption) ?_
      try simp only[Act.put,tk4,tk5,tk6]
      refine wpAnyH_take (i:=15) (oi:={dst:=some 28,op:=Op.pick (Operand.tmp 15) (Operand.const (Value.bool true)) (Operand.tmp 27),type:=4,pos:= "patch.go:17",after:= #[{on:=2,ground:=Ground.data},{on:=14,ground:=Ground.data}],guard:=none}) (v:= ?_) rfl (by kernel_rfl) (by kernel_rfl) (by kernel_rfl) (fun _ _ _ h=>h) (Or.inl ⟨by kernel_rfl, ?_⟩) (by assumption) ?_;rotate_left
      . intro w b
        (try dsimp only at b)
        first|(go_simp;done)|(go_simp;with_reducible rfl)
      try simp only[Act.put,tk4,tk5,tk6]
      refine wpAnyH_done (by kernel_rfl) ?_ _
      all_goals
       have HB:=qz y;clear B y ad ae;go_wp2;go_meet;exact⟨rfl,HB⟩
     |false=>
      rcases q with _|j
      . obtain rfl:false=R:=by simpa[Iu]using M
        have HS:=qz hS;clear hS;clear M an c0 c1 c2 c3 c4 c5 c6 c7 HR U Hv;refine wp_region_held_drew (S:=fun W=>W.cell? ⟨wr.heap.size,0,none⟩=some (.int .i64 k)/\W.cell? ⟨wr.heap.size,1,none⟩=some (.string key)/\W.cell? ⟨wr.heap.size,2,none⟩=some (.int .i64 O)/\W.cell? ⟨wr.heap.size,3,none⟩=some (.bool b')/\W.cell? ⟨wr.heap.size,4,none⟩=some (.int .i64 P)/\W.cell? ⟨wr.heap.size,5,none⟩=some (.string Q)/\W.cell? ⟨wr.heap.size,6,none⟩=some (.slice E l'.length F)/\W.cell? ⟨wr.heap.size,7,none⟩=some (.slice G o'.length I)) (by kernel_rfl) ?_ (fun L=> ?_)
        . (try dsimp only)
          go_keep
        refine wpAnyH_take (i:=0) (v:= ?_) rfl (by kernel_rfl) (by kernel_rfl) (by kernel_rfl) (fun _ _ _ h=>h) (Or.inl ⟨by kernel_rfl, ?_⟩) (by assumption) ?_;rotate_left
        . intro w b
          (try dsimp only at b)
          first|(go_simp;done)|(go_simp;with_reducible rfl)
        try simp only[Act.put,tk4]
        refine wpAnyH_ready (rs:= [1]) (by kernel_rfl) (by simp) ?_;refine AllReadyH.cons rfl (fun K hK=> ?_) AllReadyH.nil;go_simp;go_at_call 70;refine(HS.out _).mono ?_;rintro e w4 ⟨rfl,B⟩;have y:Below J.heap.size J w4:=((Below.drew (Below.refl _ _)).trans (B.mono (by simp)));obtain⟨ad,ae⟩:=E4 y;refine hK.out _ _ ?_ (fun L=> ?_)
        . (try dsimp only)
          go_keep
        clear hK K
        try simp only[Act.put,tk4,tk5,tk6]
        refine wpAnyH_take (i:=2) (oi:={dst:=some 15,op:=Op.move (Operand.tmp 14),type:=4,pos:= "patch.go:17",after:= #[{on:=1,ground:=Ground.data},{on:=1,ground:=Ground.chain}],guard:=none}) (v:= ?_) rfl (by kernel_rfl) (by kernel_rfl) (by kernel_rfl) (fun _ _ _ h=>h) (Or.inl ⟨by kernel_rfl, ?_⟩) (by assumption) ?_;rotate_left
        . intro w b
          (try dsimp only at b)
          first|(go_simp;done)|(go_simp;with_reducible rfl)
        try simp only[Act.put,tk4,tk5,tk6]
        refine wpAnyH_take (i:=3) (oi:={dst:=some 16,op:=Op.move (Operand.tmp 3),type:=3,pos:= "patch.go:17",after:= #[{on:=2,ground:=Ground.guard}],guard:=some (2,false)}) (v:= ?_) rfl (by kernel_rfl) (by kernel_rfl) (by kernel_rfl) (fun _ _ _ h=>h) (Or.inl ⟨by kernel_rfl, ?_⟩) (by assumption) ?_;rotate_left
        . intro w b
          (try dsimp only at b)
          first|(go_simp;done)|(go_simp;with_reducible rfl)
        try simp only[Act.put,tk4,tk5,tk6]
        refine wpAnyH_take (i:=4) (oi:={dst:=some 17,op:=Op.binOp BinOp.gtr 3 (Operand.tmp 16) (Operand.const (Value.int IntKind.i64 0)) 3,type:=4,pos:= "patch.go:17",after:= #[{on:=3,ground:=Ground.data},{on:=2,ground:=Ground.guard}],guard:=some (2,false)}) (v:= ?_) rfl (by kernel_rfl) (by kernel_rfl) (by kernel_rfl) (fun _ _ _ h=>h) (Or.inl ⟨by kernel_rfl, ?_⟩) (by assumption) ?_;rotate_left
        . intro w b
          (try dsimp only at b)
          first|(go_simp;done)|(go_simp;with_reducible rfl)
        try simp only[Act.put,tk4,tk5,tk6]
        refine wpAnyH_take (i:=5) (oi:={dst:=some 18,op:=Op.move (Operand.tmp 17),type:=4,pos:= "patch.go:17",after:= #[{on:=4,ground:=Ground.data},{on:=2,ground:=Ground.chain},{on:=2,ground:=Ground.guard}],guard:=some (2,false)}) (v:= ?_) rfl (by kernel_rfl) (by kernel_rfl) (by kernel_rfl) (fun _ _ _ h=>h) (Or.inl ⟨by kernel_rfl, ?_⟩) (by assumption) ?_;rotate_left
        . intro w b
          (try dsimp only at b)
          first|(go_simp;done)|(go_simp;with_reducible rfl)
        try simp only[Act.put,tk4,tk5,tk6]
        refine wpAnyH_take (i:=6) (oi:={dst:=some 19,op:=Op.move (Operand.tmp 0),type:=50,pos:= "patch.go:17",after:= #[{on:=5,ground:=Ground.guard}],guard:=some (5,true)}) (v:=undef) rfl (by kernel_rfl) (by kernel_rfl) (by kernel_rfl) (fun _ _ _ h=>h) (Or.inr ⟨by kernel_rfl,rfl⟩) (by assumption) ?_
        try simp only[Act.put,tk4,tk5,tk6]
        refine wpAnyH_take (i:=7) (oi:={dst:=some 20,op:=Op.move (Operand.tmp 3),type:=3,pos:= "patch.go:17",after:= #[{on:=5,ground:=Ground.guard}],guard:=some (5,true)}) (v:=undef) rfl (by kernel_rfl) (by kernel_rfl) (by kernel_rfl) (fun _ _ _ h=>h) (Or.inr ⟨by kernel_rfl,rfl⟩) (by assumption) ?_
        try simp only[Act.put,tk4,tk5,tk6]
        refine wpAnyH_take (i:=8) (oi:={dst:=some 21,op:=Op.binOp BinOp.sub 3 (Operand.tmp 20) (Operand.const (Value.int IntKind.i64 1)) 3,type:=3,pos:= "patch.go:17",after:= #[{on:=7,ground:=Ground.data},{on:=5,ground:=Ground.guard}],guard:=some (5,true)}) (v:=undef) rfl (by kernel_rfl) (by kernel_rfl) (by kernel_rfl) (fun _ _ _ h=>h) (Or.inr ⟨by kernel_rfl,rfl⟩) (by assumption) ?_
        try simp only[Act.put,tk4,tk5,tk6]
        refine wpAnyH_take (i:=9) (oi:={dst:=some 22,op:=Op.indexAddr 50 (Operand.tmp 19) (Operand.tmp 21),type:=0,pos:= "patch.go:17",after:= #[{on:=6,ground:=Ground.data},{on:=8,ground:=Ground.data},{on:=5,ground:=Ground.guard}],guard:=some (5,true)}) (v:=undef) rfl (by kernel_rfl) (by kernel_rfl) (by kernel_rfl) (fun _ _ _ h=>h) (Or.inr ⟨by kernel_rfl,rfl⟩) (by assumption) ?_
        try simp only[Act.put,tk4,tk5,tk6]
        refine wpAnyH_take (i:=10) (oi:={dst:=some 23,op:=Op.load 80 (Operand.tmp 22),type:=80,pos:= "patch.go:17",after:= #[{on:=9,ground:=Ground.data},{on:=5,ground:=Ground.guard}],guard:=some (5,true)}) (v:=undef) rfl (by kernel_rfl) (by kernel_rfl) (by kernel_rfl) (fun _ _ _ h=>h) (Or.inr ⟨by kernel_rfl,rfl⟩) (by assumption) ?_
        try simp only[Act.put,tk4,tk5,tk6]
        refine wpAnyH_take (i:=11) (oi:={dst:=some 24,op:=Op.load 80 (Operand.tmp 4),type:=80,pos:= "patch.go:17",after:= #[{on:=5,ground:=Ground.guard}],guard:=some (5,true)}) (v:=undef) rfl (by kernel_rfl) (by kernel_rfl) (by kernel_rfl) (fun _ _ _ h=>h) (Or.inr ⟨by kernel_rfl,rfl⟩) (by assumption) ?_
        try simp only[Act.put,tk4,tk5,tk6]
        refine wpAnyH_take (i:=12) (oi:={dst:=some 25,op:=Op.call {callee:=Callee.value (Operand.func 71),args:= #[Operand.tmp 23,Operand.tmp 24],argTypes:= #[80,80]},type:=4,pos:= "patch.go:17",after:= #[{on:=10,ground:=Ground.data},{on:=11,ground:=Ground.data},{on:=5,ground:=Ground.chain},{on:=5,ground:=Ground.guard}],guard:=some (5,true)}) (v:=undef) rfl (by kernel_rfl) (by kernel_rfl) (by kernel_rfl) (fun _ _ _ h=>h) (Or.inr ⟨by kernel_rfl,rfl⟩) (by assumption) ?_
        try simp only[Act.put,tk4,tk5,tk6]
        refine wpAnyH_take (i:=13) (oi:={dst:=some 26,op:=Op.unOp UnOp.not 4 (Operand.tmp 25),type:=4,pos:= "patch.go:17",after:= #[{on:=12,ground:=Ground.data},{on:=5,ground:=Ground.guard}],guard:=some (5,true)}) (v:=undef) rfl (by kernel_rfl) (by kernel_rfl) (by kernel_rfl) (fun _ _ _ h=>h) (Or.inr ⟨by kernel_rfl,rfl⟩) (by assumption) ?_
        try simp only[Act.put,tk4,tk5,tk6]
        refine wpAnyH_take (i:=14) (oi:={dst:=some 27,op:=Op.pick (Operand.tmp 18) (Operand.tmp 26) (Operand.const (Value.bool false)),type:=4,pos:= "patch.go:17",after:= #[{on:=5,ground:=Ground.data},{on:=13,ground:=Ground.data},{on:=2,ground:=Ground.guard}],guard:=some (2,false)}) (v:= ?_) rfl (by kernel_rfl) (by kernel_rfl) (by kernel_rfl) (fun _ _ _ h=>h) (Or.inl ⟨by kernel_rfl, ?_⟩) (by assumption) ?_;rotate_left
        . intro w b
          (try dsimp only at b)
          first|(go_simp;done)|(go_simp;with_reducible rfl)
        try simp only[Act.put,tk4,tk5,tk6]
        refine wpAnyH_take (i:=15) (oi:={dst:=some 28,op:=Op.pick (Operand.tmp 15) (Operand.const (Value.bool true)) (Operand.tmp 27),type:=4,pos:= "patch.go:17",after:= #[{on:=2,ground:=Ground.data},{on:=14,ground:=Ground.data}],guard:=none}) (v:= ?_) rfl (by kernel_rfl) (by kernel_rfl) (by kernel_rfl) (fun _ _ _ h=>h) (Or.inl ⟨by kernel_rfl, ?_⟩) (by assumption) ?_;rotate_left
        . intro w b
          (try dsimp only at b)
          first|(go_simp;done)|(go_simp;with_reducible rfl)
        try simp only[Act.put,tk4,tk5,tk6]
        refine wpAnyH_done (by kernel_rfl) ?_ _
        all_goals
         have HB:=qz y;clear B y ad ae;go_wp2;go_meet;exact⟨rfl,HB⟩
      . obtain⟨pj,al⟩: ∃pj,l[j]? =some pj:=⟨_,List.getElem?_eq_getElem (by omega)⟩;have ax:(!G3 pj ⟨k,key,.mk O b' P Q l' o'⟩)=R:=by simpa[Iu,al]using M
        obtain⟨kp,ag,⟨a4,av,a8,be,a7,bd⟩⟩:=pj;obtain⟨g2,bb,e2,bv,a5,a6,a9,ba,_,d0,d1,d2,d3,d4,d5,d6,d7⟩:=Ma ((H.out.below ap.out).more hz) al;obtain⟨rfl,rfl⟩:g=g2/\m=bb:=by simpa using e2
        have hF:=fun W=>Uu kp k ag key (.int .i64 a4) (.bool av) (.int .i64 a8) (.string be) (.slice a5 a7.length a6) (.slice a9 bd.length ba) (.int .i64 O) (.bool b') (.int .i64 P) (.string Q) (.slice E l'.length F) (.slice G o'.length I) _ W rfl;have aw:(decide (k≠3)&&(decide (kp=3)||Op.bytesLess ag.toList key.toList))= !R:=by rw[<-ax];simp[G3]
        rw[aw]at hF;have q1:(1:Int)<=j+1:=by omega
        have q2:IntKind.i64.wrap ((j:Int)+1 - 1)=j:=by rw[Int.add_sub_cancel];exact IntWalk.i64_in _ (by omega)
        have q3:IntKind.i64.wrap (j:Int)=j:=IntWalk.i64_in _ (by omega);have q4:IntKind.i64.wrap (((j+1:Nat):Int) - 1)=j:=IntWalk.i64_in _ (by omega) |>.trans (by omega)
        have q5:(0:Int)<=j:=by omega
        have q6:(j:Int)<(l.length:Int):=by omega
        have q7:(1:Int)<=((j+1:Nat):Int):=by omega
        have q8:(0:Int)<(j:Int)+1:=by omega
        obtain⟨bc,_⟩:=E4 T.out;have bn:=(bc g (m+j*8) D).trans d0;have bo:=(bc g (m+j*8+1) D).trans d1;have bp:=(bc g (m+j*8+2) D).trans d2;have bq:=(bc g (m+j*8+3) D).trans d3;have br:=(bc g (m+j*8+4) D).trans d4;have bs:=(bc g (m+j*8+5) D).trans d5;have bt:=(bc g (m+j*8+6) D).trans d6;have bu:=(bc g (m+j*8+7) D).trans d7;have bw:g<J.heap.size:=by omega
        have bx:j<l.length:=by omega
        obtain⟨HS,HF⟩:=hid2 hS hF;clear hS hF;clear aw M ax an c0 c1 c2 c3 c4 c5 c6 c7 d0 d1 d2 d3 d4 d5 d6 d7 bc HR U Hv al
        go_region_held3 (fun W=>W.cell? ⟨wr.heap.size,0,none⟩=some (.int .i64 k)/\W.cell? ⟨wr.heap.size,1,none⟩=some (.string key)/\W.cell? ⟨wr.heap.size,2,none⟩=some (.int .i64 O)/\W.cell? ⟨wr.heap.size,3,none⟩=some (.bool b')/\W.cell? ⟨wr.heap.size,4,none⟩=some (.int .i64 P)/\W.cell? ⟨wr.heap.size,5,none⟩=some (.string Q)/\W.cell? ⟨wr.heap.size,6,none⟩=some (.slice E l'.length F)/\W.cell? ⟨wr.heap.size,7,none⟩=some (.slice G o'.length I)/\W.cell? ⟨g,m+j*8,none⟩=some (.int .i64 kp)/\W.cell? ⟨g,m+j*8+1,none⟩=some (.string ag)/\W.cell? ⟨g,m+j*8+2,none⟩=some (.int .i64 a4)/\W.cell? ⟨g,m+j*8+3,none⟩=some (.bool av)/\W.cell? ⟨g,m+j*8+4,none⟩=some (.int .i64 a8)/\W.cell? ⟨g,m+j*8+5,none⟩=some (.string be)/\W.cell? ⟨g,m+j*8+6,none⟩=some (.slice a5 a7.length a6)/\W.cell? ⟨g,m+j*8+7,none⟩=some (.slice a9 bd.length ba)) (go_keep) (first|(go_at_call 70;refine(HS.out _).mono ?_;rintro e w4 ⟨rfl,B⟩;have y:Below J.heap.size J w4:=((Below.drew (Below.refl _ _)).trans (B.mono (by simp)));obtain⟨ad,ae⟩:=E4 y)|(go_at_call 71;refine(HF.out _).mono ?_;rintro e w5 ⟨rfl,ay⟩;have aj:Below J.heap.size J w5:=(y.trans (ay.mono (by have:=y.size;simpa using this)));obtain⟨bi,bj⟩:=E4 aj))
        all_goals
         have HB:=qz aj;clear B y ad ae ay aj bi bj;go_wp2;go_meet;exact⟨by simp,HB⟩
    case rest=>
     obtain⟨rfl,ac⟩:=hcut;have r:Below w.heap.size w wc:=ap.out.out.trans ((T.out.trans (ac.out.mono T.out.size)).mono hz);obtain⟨o0,o1,o2,o3,o4,o5,o6,o7⟩:=Fa (V.out.below ac.out V.out.lt);have o:=HT.out.below r;have u:=(Hv.out.below (T.out.trans (ac.out.mono T.out.size))).more (Nat.le_trans T.out.size ac.out.size);have bk:key.size<=9223372036854775807:=by omega
     have t:=U.out;have am:q+1<=l.length:=by omega
     clear c0 c1 c2 c3 c4 c5 c6 c7
     cases R with
     |true=>
      rw[if_pos rfl]at t;obtain⟨f,X,aa,Z⟩:=hid4 r o u t;clear r o u t;go_wp2;go_ret;exact⟨by rw[<-Z.out];rfl,f.out⟩
     |false=>
      rw[if_neg (by simp)]at t;by_cases e3:k=3
      . rw[if_pos e3]at t;have t3:(k==3)=true:=by simpa using e3
        obtain⟨f,X,aa,Z⟩:=hid4 r o u t;clear r o u t;clear e3;go_wp2;go_roundw
        case rel=>exact⟨q+1,by go_num,am,Z,f⟩
        case measure=>simp[intOf];omega
      rw[if_neg e3]at t;have t3:(k==3)=false:=by simpa using e3
      have hC:=Uw key wc o bk;by_cases A:O8 key=false
      . rw[if_pos A]at t;have tE:(O9 key != 0)=true:=by
         simp only[bne_iff_ne,ne_eq];intro e;rw[(Mv key).1 e]at A
         cases A
        obtain⟨f,X,aa,Z,HC⟩:=hid5 r o u t hC;clear r o u t hC;clear e3 A;go_wp2_with (go_at_call 72;(with_reducible refine(HC.out).mono ?_);rintro e wk ⟨rfl,d⟩);go_ret;exact⟨by rw[<-Z.out];rfl,f.out.trans (d.mono f.out.size)⟩
      rw[if_neg A]at t;have N:O9 key=0:=(Mv key).2 (by simpa using A);have tE:(O9 key != 0)=false:=by rw[N];rfl
      have C: ∀wk,Below wc.heap.size wc wk->Calls Tryz.prog 73 #[.agg #[.int .i64 O,.bool b',.int .i64 P,.string Q,.slice E l'.length F,.slice G o'.length I]] wk fun e w'=>e=.returned (.int .i64 (Fz (.mk O b' P Q l' o')))/\Below wk.heap.size wk w':=
       fun wk d=>Aby _ _ wk (o.below d) ((u.below d).more d.size) (by omega) bg.out
      have b0:wr.heap.size<wc.heap.size:=(V.out.below ac.out V.out.lt).lt;by_cases e2:k=2
      . rw[if_pos e2]at t;have t2:(k==2)=true:=by simpa using e2
        obtain⟨f,X,aa,Z,HC,aq⟩:=hid6 r o u t hC N;clear r o u t hC N;clear e3 A e2 C;go_wp2_with (go_at_call 72;(with_reducible refine(HC.out).mono ?_);rintro e wk ⟨rfl,d⟩;obtain⟨az,a1⟩:=E4 d);have ah:=qz (f.out.trans (d.mono f.out.size));go_roundw
        case rel=>exact⟨q+1,by go_num,am,Z,ah⟩
        case measure=>simp[intOf];omega
      rw[if_neg e2]at t;have t2:(k==2)=false:=by simpa using e2
      by_cases hf:Fz (.mk O b' P Q l' o')=0
      . rw[if_pos hf]at t;have tF:(Fz (.mk O b' P Q l' o') != 0)=false:=by rw[hf];rfl
        obtain⟨f,X,aa,Z,HC,aq,Y,Hf⟩:=hid8 r o u t hC N C hf;clear r o u t hC N C hf;clear e3 A e2;go_wp2_with (first
         |(go_at_call 72;(with_reducible refine(HC.out).mono ?_);rintro e wk ⟨rfl,d⟩;obtain⟨az,a1⟩:=E4 d)
         |(go_at_call 73;(with_reducible refine(Y.out _ d).mono ?_);rintro e wf ⟨rfl,ai⟩))
        have ah:=qz ((f.out.trans (d.mono f.out.size)).trans (ai.mono (Nat.le_trans f.out.size d.size)));go_roundw
        case rel=>exact⟨q+1,by go_num,am,Z,ah⟩
        case measure=>simp[intOf];omega
      . rw[if_neg hf]at t;have tF:(Fz (.mk O b' P Q l' o') != 0)=true:=by simpa using hf
        obtain⟨f,X,aa,Z,HC,aq,Y⟩:=hid7 r o u t hC N C;clear r o u t hC N C;clear e3 A e2 hf;go_wp2_with (first
         |(go_at_call 72;(with_reducible refine(HC.out).mono ?_);rintro e wk ⟨rfl,d⟩;obtain⟨az,a1⟩:=E4 d)
         |(go_at_call 73;(with_reducible refine(Y.out _ d).mono ?_);rintro e wf ⟨rfl,ai⟩))
        go_ret;exact⟨by rw[<-Z.out];rfl,(f.out.trans (d.mono f.out.size)).trans (ai.mono (Nat.le_trans f.out.size d.size))⟩
  . obtain rfl:q=l.length:=by omega
    have z:=t.out;rw[List.drop_length]at z;have e0:A8 (Iu l l.length) []=0:=by simp[A8]
    rw[e0]at z;have U:=qz z;clear z;clear t e0;go_wp2;go_ret;exact⟨by rw[<-U.out];rfl,ab.out⟩
theorem No (l:List POp) (a:Option Addr) (n c:Nat) (w:World) (hT:Cj w) (h:Ag w w.heap.size (.row 8 (Eo l)) [.slice a n c]) (hb:Da l<=100000000) (av:inQ l):
 Calls Tryz.prog 13 #[.slice a n c] w fun e w'=>e=.returned (.int .i64 (A8 none l))/\Below w.heap.size w w':=by
 have bu:=Gp l;have hn:=h.row_len;rw[E8]at hn;subst hn;have ap:=qz (show A8 (Iu l 0) (l.drop 0)=A8 none l from by rw[List.drop_zero];rfl);have aq:Hid (Below w.heap.size w w):=Below.refl _ _;obtain⟨H,HT,a5⟩:=hid3 h hT av;clear h hT av;go_enter Tryz.func13,Tryz.ntmps13;go_wp2_with (fail);go_loopw [3] (fun i wr=> ∃q:Nat,i=.int .i64 q/\q<=l.length/\Hid (A8 (Iu l q) (l.drop q)=A8 none l)/\Hid (Below w.heap.size w wr)) (fun i _=>l.length - (intOf i).toNat)
 case atStart=>exact⟨0,rfl,Nat.zero_le _,ap,aq⟩
 case round=>
  obtain⟨q,rfl,hq,b,B⟩:=hrel;clear ap aq;by_cases bf:q<l.length
  . obtain⟨p,hp⟩: ∃p,l[q]? =some p:=⟨_,List.getElem?_eq_getElem bf⟩;have ak:=Cr hp;have F:=List.mem_of_getElem? hp;have ba:=Jn F;have K:=a5.out p F;have al:Iu l (q+1)=some p:=hp;have f:=b.out;rw[ak]at f;simp only[A8]at f;rw[<-al]at f;obtain⟨k,key,⟨N,b',O,P,l',o'⟩⟩:=p;simp only at ba K f;have hz:=B.out.size;obtain⟨g,am,rfl,hg,bh,bi,bj,bk,hv,c0,c1,c2,c3,c4,c5,c6,c7⟩:=Ma ((H.out.below B.out).more hz) hp;have au:g<wr.heap.size:=hg;have bw:(q:Int)<(l.length:Int):=by omega
    have bv:(0:Int)<=q:=by omega
    have ad:=HT.out.below B.out;by_cases af:1<=k/\k<=3;rotate_left
    . have hs:Cy ⟨k,key,.mk N b' O P l' o'⟩=true:=by
       unfold Cy;rw[if_neg (by simp only;omega),if_neg (by simp only;omega),if_neg (by simp only;omega)]
      rw[hs,Bool.true_or,if_pos rfl]at f;have bd:k<1\/3<k:=by omega
      obtain⟨I,Hp,an,Hv,V,a4⟩:=hid6 f hp K hv B ad;clear f hp K hv B ad;clear b ak F al hs af c2 c3 c4 c5 c6 c7;rcases bd with aw|bc
      . go_wp2;go_ret;exact⟨by rw[<-I.out];rfl,V.out.out⟩
      . have aw:1<=k:=by omega
        go_wp2;go_ret;exact⟨by rw[<-I.out];rfl,V.out.out⟩
    obtain⟨aw,bc⟩:=af;obtain⟨Z,hZ⟩: ∃Z,Pu (.mk N b' O P l' o')=Z:=⟨_,rfl⟩;have a2:=qz (fun(W:World) hB=>Abc (.mk N b' O P l' o') _ W ((hv.below (w':=W) hB).more hB.size) (by omega) hZ);obtain⟨S,hS⟩: ∃S,(decide (k≠1)&& !Z)=S:=⟨_,rfl⟩;have az:Cy ⟨k,key,.mk N b' O P l' o'⟩=(S||decide (k=3)&& !key.toList.isEmpty):=by
     unfold Cy;simp only[hZ,<-hS];rcases(by omega:k=1\/k=2\/k=3)with rfl|rfl|rfl
     . simp
     . simp
     . cases Z<;>cases key.toList.isEmpty<;>simp
    obtain⟨I,Hp,an,Hv,V,a4,a6,HS,HZ⟩:=hid9 f hp K hv B ad az hS hZ;clear f hp K hv B ad az hS hZ;clear b ak F al;go_upto_region 5 with(fail);go_cut [36] (fun s wx=>s=.bool S/\Hid (Below wr.heap.size wr wx))
    case first=>
     by_cases hk:k=1
     . subst hk;have eS:S=false:=by rw[<-HS.out];simp
       subst eS;go_wp2;go_meet;exact⟨rfl,Below.refl _ _⟩
     . have eS:S= !Z:=by rw[<-HS.out];simp[hk]
       subst eS;have tk:(k != 1)=true:=by simpa using hk
       clear hk;go_wp2_with (go_at_call 32;(with_reducible refine(a2.out _ (Below.refl _ _)).mono ?_);rintro e w4 ⟨rfl,a9⟩);go_meet;exact⟨by rw[decide_eq_false (by omega),decide_eq_false (by omega)];rfl,a9⟩
    case rest=>
     obtain⟨rfl,ae⟩:=hcut;obtain⟨wo,rfl⟩: ∃wo:World,wo=wc:=⟨_,rfl⟩;obtain⟨aj,bb⟩:=E4 ae.out;have z:Below w.heap.size w wo:=V.out.out.trans (ae.out.mono hz);have bg:wr.heap.size<=wo.heap.size:=ae.out.size;have b:=I.out;rw[a6.out]at b
     cases S with
     |true=>
      rw[Bool.true_or,Bool.true_or,if_pos rfl]at b;obtain⟨G,m⟩:=hid2 b z;clear b z;go_wp2;go_ret;exact⟨by rw[<-G.out];rfl,m.out⟩
     |false=>
      rw[Bool.false_or]at b;by_cases Q:k=3
      . subst Q;by_cases u:0<q\/key.toList≠ []
        . have L:A8 none l=2:=by
           rw[<-b,if_pos];rcases u with u|u
           . obtain⟨j,rfl⟩: ∃j,q=j+1:=⟨q - 1,by omega⟩;obtain⟨pj,M⟩: ∃pj,l[j]? =some pj:=⟨_,List.getElem?_eq_getElem (by omega)⟩;simp[Iu,M,G3]
           . simp[u]
          obtain⟨X,m⟩:=hid2 L z;clear L z;clear b;by_cases ax:0<q
          . have tq:(0:Int)<q:=by omega
            clear u ax;go_wp2;go_ret;exact⟨by rw[X.out];rfl,m.out⟩
          . obtain rfl:q=0:=by omega
            have D:key.toList≠ []:=by simpa using u
            have tk:(!key.toList.isEmpty)=true:=by simpa using D
            have tk2: ¬key.toList= []:=D;clear u ax D;go_wp2;go_ret;exact⟨by rw[X.out];rfl,m.out⟩
        . obtain rfl:q=0:=by omega
          have D:key.toList= []:=by simpa using u
          have L:A8 (Iu l (0+1)) (l.drop (0+1))=A8 none l:=by
           rw[<-b,if_neg (by simp[Iu,D]),if_pos rfl]
          have tk:key.toList.isEmpty=true:=by simp[D]
          obtain⟨bl,X,m⟩:=hid3 D L z;clear L z;clear b u D;go_wp2;go_roundw
          case rel=>exact⟨0+1,by go_num,by omega,X,m⟩
          case measure=>simp[intOf];omega
      have t3:(k==3)=false:=by simpa using Q
      rw[decide_eq_false Q,Bool.false_and,Bool.false_or,if_neg Q]at b;obtain⟨C,u⟩: ∃C,((Iu l q).any fun x=> !G3 x ⟨k,key,.mk N b' O P l' o'⟩)=C:=⟨_,rfl⟩;rw[u]at b;have a3:=qz (HT.out.below z);have a7:=qz ((Hv.out.below ae.out).more bg);obtain⟨G,m,T⟩:=hid3 b z u;clear b z u;go_upto_region 10 with(fail);go_cut [73] (fun s wx=>s=.bool C/\Hid (Below wo.heap.size wo wx))
      case first=>
       have bn:=(aj g (am+q*8) au).trans c0;have bo:=(aj g (am+q*8+1) au).trans c1;have ab:=T.out;clear aj bb c0 c1 c2 c3 c4 c5 c6 c7;rcases q with _|j
       . obtain rfl:false=C:=by simpa[Iu]using ab
         clear ab;go_quiet (fail);go_wp2;go_meet;exact⟨rfl,Jl (Below.refl _ _) _⟩
       . obtain⟨pj,M⟩: ∃pj,l[j]? =some pj:=⟨_,List.getElem?_eq_getElem (by omega)⟩;have ar:(!G3 pj ⟨k,key,.mk N b' O P l' o'⟩)=C:=by simpa[Iu,M]using ab
         obtain⟨kp,ag,⟨bx,bm,b2,b7,b1,b5⟩⟩:=pj;obtain⟨g2,a0,a8,br,bz,b0,b3,b4,_,d0,d1,d2,d3,d4,d5,d6,d7⟩:=Ma ((H.out.below m.out).more m.out.size) M;obtain⟨rfl,rfl⟩:g=g2/\am=a0:=by simpa using a8
         have ac:(decide (kp≠3)&& !Op.bytesLess ag.toList key.toList)=C:=by
          rw[<-ar];simp[G3,Q]
         have q1:(1:Int)<=j+1:=by omega
         have q2:IntKind.i64.wrap ((j:Int)+1 - 1)=j:=by rw[Int.add_sub_cancel];exact IntWalk.i64_in _ (by omega)
         have q3:IntKind.i64.wrap (j:Int)=j:=IntWalk.i64_in _ (by omega);have q5:(0:Int)<=j:=by omega
         have q6:(j:Int)<(l.length:Int):=by omega
         have q8:(0:Int)<(j:Int)+1:=by omega
         have q9:decide ((0:Int)<(j:Int)+1)=true:=decide_eq_true q8;have bt:j<l.length:=by omega
         clear ab ar d2 d3 d4 d5 d6 d7 M Q;by_cases aa:kp=3
         . subst aa;obtain rfl:false=C:=by simpa using ac
           clear ac;go_quiet (fail);go_wp2;go_meet;exact⟨rfl,Jl (Below.refl _ _) _⟩
         . have b6:(kp != 3)=true:=by simpa using aa
           obtain rfl:C= !Op.bytesLess ag.toList key.toList:=by rw[<-ac];simp[aa]
           clear ac aa;go_quiet (fail);go_wp2;go_meet;exact⟨by rw[Amr],Jl (Below.refl _ _) _⟩
      case rest=>
       obtain⟨rfl,J⟩:=hcut;have v:Below w.heap.size w wc:=m.out.trans (J.out.mono m.out.size);have be:key.size<=1000000000:=by omega
       have b:=G.out;have ay:q+1<=l.length:=by omega
       have bs:g<wo.heap.size:=by omega
       obtain⟨bp,bq⟩:=E4 J.out;have r:=a3.out.below J.out;have t:=(a7.out.below J.out).more J.out.size;have d: ∀R,Below wc.heap.size wc R->Calls Tryz.prog 34 #[.agg #[.int .i64 N,.bool b',.int .i64 O,.string P,.slice bh l'.length bi,.slice bj o'.length bk]] R fun e w'=>e=.returned (.int .i64 (Fz (.mk N b' O P l' o')))/\Below R.heap.size R w':=
        fun R ai=>Yy _ _ R (r.below ai) ((t.below ai).more ai.size) (by omega) an.out
       cases C with
       |true=>
        rw[if_pos rfl]at b;obtain⟨G,o,U,Y,y⟩:=hid5 b v r t d;clear b v r t d;go_wp2;go_ret;exact⟨by rw[<-G.out];rfl,o.out⟩
       |false=>
        rw[if_neg (by simp)]at b;have u:=Ado key wc be;by_cases A:O8 key=false
        . rw[if_pos A]at b;have tE:(O9 key != 0)=true:=by
           simp only[bne_iff_ne,ne_eq];intro e;rw[(Mv key).1 e]at A
           cases A
          obtain⟨o,U,Y,G,T,y⟩:=hid6 v r t b u d;clear v r t b u d;clear Q A;go_wp2_with (go_at_call 33;(with_reducible refine(T.out).mono ?_);rintro e R ⟨rfl,rfl⟩);go_ret;exact⟨by rw[<-G.out];rfl,o.out⟩
        rw[if_neg A]at b;have E:O9 key=0:=(Mv key).2 (by simpa using A);have tE:(O9 key != 0)=false:=by rw[E];rfl
        by_cases e2:k=2
        . rw[if_pos e2]at b;have t2:(k==1)=false:=by rw[e2];rfl
          obtain⟨o,U,Y,G,T,ao,y⟩:=hid7 v r t b u E d;clear v r t b u E d;clear Q A e2;go_wp2_with (go_at_call 33;(with_reducible refine(T.out).mono ?_);rintro e R ⟨rfl,rfl⟩);go_roundw
          case rel=>exact⟨q+1,by go_num,ay,G,o⟩
          case measure=>simp[intOf];omega
        rw[if_neg e2]at b;have t2:(k==1)=true:=by rw[beq_iff_eq];omega
        by_cases hf:Fz (.mk N b' O P l' o')=0
        . rw[if_pos hf]at b;have tF:(Fz (.mk N b' O P l' o') != 0)=false:=by rw[hf];rfl
          obtain⟨o,U,Y,G,T,ao,y,Hf⟩:=hid8 v r t b u E d hf;clear v r t b u E d hf;clear Q A e2;go_wp2_with (first
           |(go_at_call 33;(with_reducible refine(T.out).mono ?_);rintro e R ⟨rfl,rfl⟩)
           |(go_at_call 34;(with_reducible refine(y.out _ (Below.refl _ _)).mono ?_);rintro e wf ⟨rfl,ah⟩))
          have a1:=qz (o.out.trans (ah.mono o.out.size));go_roundw
          case rel=>exact⟨q+1,by go_num,ay,G,a1⟩
          case measure=>simp[intOf];omega
        . rw[if_neg hf]at b;have tF:(Fz (.mk N b' O P l' o') != 0)=true:=by simpa using hf
          obtain⟨o,U,Y,G,T,ao,y⟩:=hid7 v r t b u E d;clear v r t b u E d;clear Q A e2 hf;go_wp2_with (first
           |(go_at_call 33;(with_reducible refine(T.out).mono ?_);rintro e R ⟨rfl,rfl⟩)
           |(go_at_call 34;(with_reducible refine(y.out _ (Below.refl _ _)).mono ?_);rintro e wf ⟨rfl,ah⟩))
          go_ret;exact⟨by rw[<-G.out];rfl,o.out.trans (ah.mono o.out.size)⟩
  . obtain rfl:q=l.length:=by omega
    have f:=b.out;rw[List.drop_length]at f;have e0:A8 (Iu l l.length) []=0:=by simp[A8]
    rw[e0]at f;have I:=qz f;clear f;clear b e0;go_wp2;go_ret;exact⟨by rw[<-I.out];rfl,B.out⟩
theorem Mi (l l':List POp) (a a':Option Addr) (n c n' c':Nat) (w:World) (h:Ag w w.heap.size (.row 8 (Eo l)) [.slice a n c]) (h':Ag w w.heap.size (.row 8 (Eo l')) [.slice a' n' c']) (hb:Da l<=100000000) (a1:Da l'<=100000000):
 Calls Tryz.prog 19 #[.slice a n c,.slice a' n' c'] w (Cn (l=l') w):=by
 have a3:=Gp l;have hn:=h.row_len;have ar:=h'.row_len;rw[E8]at hn ar;subst hn;subst ar;by_cases L:l.length=l'.length;rotate_left
 . have e:((l.length:Int) != (l'.length:Int))=true:=by simp;omega
   have av:Hid (¬l=l'):=fun e=>L (congrArg List.length e);obtain⟨H,H'⟩:=hid2 h h';clear h h';clear L;go_enter Tryz.func19,Tryz.ntmps19;go_wp2;go_ret;exact Cn.no av.out (Below.refl _ _)
 . have am:l.take 0=l'.take 0:=by simp
   rw[<-L];have H0:=qz (Below.refl w.heap.size w);obtain⟨H,H',ai,ah⟩:=hid4 h h' L am;clear h h' L am;go_enter Tryz.func19,Tryz.ntmps19;go_wp2_with (fail);go_loopw [5] (fun i wr=> ∃q:Nat,i=.int .i64 q/\q<=l.length/\Hid (l.take q=l'.take q)/\Hid (Below w.heap.size w wr)) (fun i _=>l.length - (intOf i).toNat)
   case atStart=>exact⟨0,rfl,Nat.zero_le _,ah,H0⟩
   case round=>
    obtain⟨q,rfl,hq,af,G⟩:=hrel;clear ah H0;have z6:(0:Int)<=q:=by omega
    by_cases ay:q<l.length
    . have aq:q<l'.length:=by have:=ai.out;omega
      obtain⟨x,hx⟩: ∃v,l[q]? =some v:=⟨_,List.getElem?_eq_getElem ay⟩;obtain⟨x',I⟩: ∃v,l'[q]? =some v:=⟨_,List.getElem?_eq_getElem aq⟩;have ax:=Jn (List.mem_of_getElem? hx);have ap:=Jn (List.mem_of_getElem? I);have Z:=G.out;have hz:=Z.size;have au:=qz (fun e=>Oh af.out hx I e);have ad:=qz (fun e=>Tt hx I e);obtain⟨J,k,⟨N,M,P,s,O,Q⟩⟩:=x;obtain⟨k2,t,⟨T,R,V,Y,U,X⟩⟩:=x';simp only at ax ap;obtain⟨g,f,rfl,hg,u,y,z,A,hv,c0,c1,c2,c3,c4,c5,c6,c7⟩:=Ma (H.out.below Z) hx;obtain⟨j,d,rfl,a2,C,D,E,F,ag,d0,d1,d2,d3,d4,d5,d6,d7⟩:=Ma (H'.out.below Z) I;have hC: ∀W,Below wr.heap.size wr W->Calls Tryz.prog 32 #[.agg #[.int .i64 N,.bool M,.int .i64 P,.string s,.slice u O.length y,.slice z Q.length A],.agg #[.int .i64 T,.bool R,.int .i64 V,.string Y,.slice C U.length D,.slice E X.length F]] W (Cn (Val.mk N M P s O Q=.mk T R V Y U X) W):=fun W r=>
       Wk _ _ [.int .i64 N,.bool M,.int .i64 P,.string s,.slice u O.length y,.slice z Q.length A] [.int .i64 T,.bool R,.int .i64 V,.string Y,.slice C U.length D,.slice E X.length F] W (Ab.more (Nat.le_trans hz r.size) _ _ (hv.below (r.mono hz))) (Ab.more (Nat.le_trans hz r.size) _ _ (ag.below (r.mono hz))) (by omega) (by omega)
      have z1:g<wr.heap.size:=by omega
      have z2:j<wr.heap.size:=by omega
      have z5:(q:Int)<(l.length:Int):=by omega
      obtain⟨HC,Hx,a0,Hv,az⟩:=hid5 hC hx I hv ag;clear hC hx I hv ag;clear Z af;go_upto_region 6 with(fail);have o: ∀W,Below wr.heap.size wr W->(W.cell? ⟨g,f+q*8,none⟩=some (.int .i64 J)/\W.cell? ⟨g,f+q*8+1,none⟩=some (.string k)/\W.cell? ⟨g,f+q*8+2,none⟩=some (.int .i64 N)/\W.cell? ⟨g,f+q*8+3,none⟩=some (.bool M)/\W.cell? ⟨g,f+q*8+4,none⟩=some (.int .i64 P)/\W.cell? ⟨g,f+q*8+5,none⟩=some (.string s)/\W.cell? ⟨g,f+q*8+6,none⟩=some (.slice u O.length y)/\W.cell? ⟨g,f+q*8+7,none⟩=some (.slice z Q.length A)/\W.cell? ⟨j,d+q*8,none⟩=some (.int .i64 k2)/\W.cell? ⟨j,d+q*8+1,none⟩=some (.string t)/\W.cell? ⟨j,d+q*8+2,none⟩=some (.int .i64 T)/\W.cell? ⟨j,d+q*8+3,none⟩=some (.bool R)/\W.cell? ⟨j,d+q*8+4,none⟩=some (.int .i64 V)/\W.cell? ⟨j,d+q*8+5,none⟩=some (.string Y)/\W.cell? ⟨j,d+q*8+6,none⟩=some (.slice C U.length D)/\W.cell? ⟨j,d+q*8+7,none⟩=some (.slice E X.length F)):=fun W r=>⟨(r.cell (p:=⟨g,f+q*8,none⟩) z1).trans c0,(r.cell (p:=⟨g,f+q*8+1,none⟩) z1).trans c1,(r.cell (p:=⟨g,f+q*8+2,none⟩) z1).trans c2,(r.cell (p:=⟨g,f+q*8+3,none⟩) z1).trans c3,(r.cell (p:=⟨g,f+q*8+4,none⟩) z1).trans c4,(r.cell (p:=⟨g,f+q*8+5,none⟩) z1).trans c5,(r.cell (p:=⟨g,f+q*8+6,none⟩) z1).trans c6,(r.cell (p:=⟨g,f+q*8+7,none⟩) z1).trans c7,(r.cell (p:=⟨j,d+q*8,none⟩) z2).trans d0,(r.cell (p:=⟨j,d+q*8+1,none⟩) z2).trans d1,(r.cell (p:=⟨j,d+q*8+2,none⟩) z2).trans d2,(r.cell (p:=⟨j,d+q*8+3,none⟩) z2).trans d3,(r.cell (p:=⟨j,d+q*8+4,none⟩) z2).trans d4,(r.cell (p:=⟨j,d+q*8+5,none⟩) z2).trans d5,(r.cell (p:=⟨j,d+q*8+6,none⟩) z2).trans d6,(r.cell (p:=⟨j,d+q*8+7,none⟩) z2).trans d7⟩;by_cases hk:J=k2;rotate_left
      . have e1:(J != k2)=true:=by simpa using hk
        have HP:=qz (fun W r=>Cn.no (w:=w) (w':=W) (ad.out (fun e=>hk (by cases e;rfl))) r);have m:=qz o;clear o;clear hk c0 d0 c1 d1 c2 d2 c3 d3 c4 d4 c5 d5 c6 d6 c7 d7;refine wp_region_held_drew (S:=fun W=>W.cell? ⟨g,f+q*8,none⟩=some (.int .i64 J)/\W.cell? ⟨g,f+q*8+1,none⟩=some (.string k)/\W.cell? ⟨g,f+q*8+2,none⟩=some (.int .i64 N)/\W.cell? ⟨g,f+q*8+3,none⟩=some (.bool M)/\W.cell? ⟨g,f+q*8+4,none⟩=some (.int .i64 P)/\W.cell? ⟨g,f+q*8+5,none⟩=some (.string s)/\W.cell? ⟨g,f+q*8+6,none⟩=some (.slice u O.length y)/\W.cell? ⟨g,f+q*8+7,none⟩=some (.slice z Q.length A)/\W.cell? ⟨j,d+q*8,none⟩=some (.int .i64 k2)/\W.cell? ⟨j,d+q*8+1,none⟩=some (.string t)/\W.cell? ⟨j,d+q*8+2,none⟩=some (.int .i64 T)/\W.cell? ⟨j,d+q*8+3,none⟩=some (.bool R)/\W.cell? ⟨j,d+q*8+4,none⟩=some (.int .i64 V)/\W.cell? ⟨j,d+q*8+5,none⟩=some (.string Y)/\W.cell? ⟨j,d+q*8+6,none⟩=some (.slice C U.length D)/\W.cell? ⟨j,d+q*8+7,none⟩=some (.slice E X.length F)) (by kernel_rfl) (m.out _ (Below.drew (Below.refl _ _))) (fun b=> ?_);refine tkH 0 b ?_;refine tkH 1 b ?_;refine tkH 2 b ?_;refine tkH 3 b ?_;refine tkH 4 b ?_;refine tkH 5 b ?_;refine tkH 6 b ?_;refine tkH 7 b ?_;refine tkH 8 b ?_;refine tkH 9 b ?_;refine tkH 10 b ?_;refine tkH 11 b ?_;refine wpAnyH_take (i:=12) (v:=undef) rfl (by kernel_rfl) (by kernel_rfl) (by kernel_rfl) (fun _ _ _ h=>h) (Or.inr ⟨by kernel_rfl,rfl⟩) b ?_
        try simp only[Act.put,tk1,tk2,tk3,tk4,tk5,tk6]
        refine wpAnyH_take (i:=13) (v:=undef) rfl (by kernel_rfl) (by kernel_rfl) (by kernel_rfl) (fun _ _ _ h=>h) (Or.inr ⟨by kernel_rfl,rfl⟩) b ?_
        try simp only[Act.put,tk1,tk2,tk3,tk4,tk5,tk6]
        refine wpAnyH_take (i:=14) (v:=undef) rfl (by kernel_rfl) (by kernel_rfl) (by kernel_rfl) (fun _ _ _ h=>h) (Or.inr ⟨by kernel_rfl,rfl⟩) b ?_
        try simp only[Act.put,tk1,tk2,tk3,tk4,tk5,tk6]
        refine wpAnyH_take (i:=15) (v:=undef) rfl (by kernel_rfl) (by kernel_rfl) (by kernel_rfl) (fun _ _ _ h=>h) (Or.inr ⟨by kernel_rfl,rfl⟩) b ?_
        try simp only[Act.put,tk1,tk2,tk3,tk4,tk5,tk6]
        refine wpAnyH_take (i:=16) (v:=undef) rfl (by kernel_rfl) (by kernel_rfl) (by kernel_rfl) (fun _ _ _ h=>h) (Or.inr ⟨by kernel_rfl,rfl⟩) b ?_
        try simp only[Act.put,tk1,tk2,tk3,tk4,tk5,tk6]
        refine wpAnyH_take (i:=17) (v:=undef) rfl (by kernel_rfl) (by kernel_rfl) (by kernel_rfl) (fun _ _ _ h=>h) (Or.inr ⟨by kernel_rfl,rfl⟩) b ?_
        try simp only[Act.put,tk1,tk2,tk3,tk4,tk5,tk6]
        refine wpAnyH_take (i:=18) (v:=undef) rfl (by kernel_rfl) (by kernel_rfl) (by kernel_rfl) (fun _ _ _ h=>h) (Or.inr ⟨by kernel_rfl,rfl⟩) b ?_
        try simp only[Act.put,tk1,tk2,tk3,tk4,tk5,tk6]
        refine wpAnyH_take (i:=19) (v:=undef) rfl (by kernel_rfl) (by kernel_rfl) (by kernel_rfl) (fun _ _ _ h=>h) (Or.inr ⟨by kernel_rfl,rfl⟩) b ?_
        try simp only[Act.put,tk1,tk2,tk3,tk4,tk5,tk6]
        refine wpAnyH_take (i:=20) (v:=undef) rfl (by kernel_rfl) (by kernel_rfl) (by kernel_rfl) (fun _ _ _ h=>h) (Or.inr ⟨by kernel_rfl,rfl⟩) b ?_
        try simp only[Act.put,tk1,tk2,tk3,tk4,tk5,tk6]
        refine wpAnyH_take (i:=21) (v:=undef) rfl (by kernel_rfl) (by kernel_rfl) (by kernel_rfl) (fun _ _ _ h=>h) (Or.inr ⟨by kernel_rfl,rfl⟩) b ?_
        try simp only[Act.put,tk1,tk2,tk3,tk4,tk5,tk6]
        refine wpAnyH_take (i:=22) (v:=undef) rfl (by kernel_rfl) (by kernel_rfl) (by kernel_rfl) (fun _ _ _ h=>h) (Or.inr ⟨by kernel_rfl,rfl⟩) b ?_
        try simp only[Act.put,tk1,tk2,tk3,tk4,tk5,tk6]
        refine tkH 23 b ?_;refine tkH 24 b ?_;refine wpAnyH_take (i:=25) (v:=undef) rfl (by kernel_rfl) (by kernel_rfl) (by kernel_rfl) (fun _ _ _ h=>h) (Or.inr ⟨by kernel_rfl,rfl⟩) b ?_
        try simp only[Act.put,tk1,tk2,tk3,tk4,tk5,tk6]
        refine wpAnyH_take (i:=26) (v:=undef) rfl (by kernel_rfl) (by kernel_rfl) (by kernel_rfl) (fun _ _ _ h=>h) (Or.inr ⟨by kernel_rfl,rfl⟩) b ?_
        try simp only[Act.put,tk1,tk2,tk3,tk4,tk5,tk6]
        refine wpAnyH_take (i:=27) (v:=undef) rfl (by kernel_rfl) (by kernel_rfl) (by kernel_rfl) (fun _ _ _ h=>h) (Or.inr ⟨by kernel_rfl,rfl⟩) b ?_
        try simp only[Act.put,tk1,tk2,tk3,tk4,tk5,tk6]
        refine wpAnyH_take (i:=28) (v:=undef) rfl (by kernel_rfl) (by kernel_rfl) (by kernel_rfl) (fun _ _ _ h=>h) (Or.inr ⟨by kernel_rfl,rfl⟩) b ?_
        try simp only[Act.put,tk1,tk2,tk3,tk4,tk5,tk6]
        refine wpAnyH_take (i:=29) (v:=undef) rfl (by kernel_rfl) (by kernel_rfl) (by kernel_rfl) (fun _ _ _ h=>h) (Or.inr ⟨by kernel_rfl,rfl⟩) b ?_
        try simp only[Act.put,tk1,tk2,tk3,tk4,tk5,tk6]
        refine wpAnyH_take (i:=30) (v:=undef) rfl (by kernel_rfl) (by kernel_rfl) (by kernel_rfl) (fun _ _ _ h=>h) (Or.inr ⟨by kernel_rfl,rfl⟩) b ?_
        try simp only[Act.put,tk1,tk2,tk3,tk4,tk5,tk6]
        refine wpAnyH_take (i:=31) (v:=undef) rfl (by kernel_rfl) (by kernel_rfl) (by kernel_rfl) (fun _ _ _ h=>h) (Or.inr ⟨by kernel_rfl,rfl⟩) b ?_
        try simp only[Act.put,tk1,tk2,tk3,tk4,tk5,tk6]
        refine wpAnyH_take (i:=32) (v:=undef) rfl (by kernel_rfl) (by kernel_rfl) (by kernel_rfl) (fun _ _ _ h=>h) (Or.inr ⟨by kernel_rfl,rfl⟩) b ?_
        try simp only[Act.put,tk1,tk2,tk3,tk4,tk5,tk6]
        refine wpAnyH_take (i:=33) (v:=undef) rfl (by kernel_rfl) (by kernel_rfl) (by kernel_rfl) (fun _ _ _ h=>h) (Or.inr ⟨by kernel_rfl,rfl⟩) b ?_
        try simp only[Act.put,tk1,tk2,tk3,tk4,tk5,tk6]
        refine wpAnyH_take (i:=34) (v:=undef) rfl (by kernel_rfl) (by kernel_rfl) (by kernel_rfl) (fun _ _ _ h=>h) (Or.inr ⟨by kernel_rfl,rfl⟩) b ?_
        try simp only[Act.put,tk1,tk2,tk3,tk4,tk5,tk6]
        refine wpAnyH_take (i:=35) (v:=undef) rfl (by kernel_rfl) (by kernel_rfl) (by kernel_rfl) (fun _ _ _ h=>h) (Or.inr ⟨by kernel_rfl,rfl⟩) b ?_
        try simp only[Act.put,tk1,tk2,tk3,tk4,tk5,tk6]
        refine wpAnyH_take (i:=36) (v:=undef) rfl (by kernel_rfl) (by kernel_rfl) (by kernel_rfl) (fun _ _ _ h=>h) (Or.inr ⟨by kernel_rfl,rfl⟩) b ?_
        try simp only[Act.put,tk1,tk2,tk3,tk4,tk5,tk6]
        refine tkH 37 b ?_;refine wpAnyH_done (by kernel_rfl) ?_ _;clear b;go_wp2;go_ret;exact HP.out _ (G.out.trans (Below.drew (Below.refl _ _)))
      subst hk;have e1:(J != J)=false:=by simp
      by_cases hy:k=t;rotate_left
      . obtain⟨y1,y2,y3,y4⟩:=Amp hy;have HP:=qz (fun W r=>Cn.no (w:=w) (w':=W) (ad.out (fun e=>hy (by cases e;rfl))) r);have m:=qz o;clear o;clear hy c0 d0 c1 d1 c2 d2 c3 d3 c4 d4 c5 d5 c6 d6 c7 d7;refine wp_region_held_drew (S:=fun W=>W.cell? ⟨g,f+q*8,none⟩=some (.int .i64 J)/\W.cell? ⟨g,f+q*8+1,none⟩=some (.string k)/\W.cell? ⟨g,f+q*8+2,none⟩=some (.int .i64 N)/\W.cell? ⟨g,f+q*8+3,none⟩=some (.bool M)/\W.cell? ⟨g,f+q*8+4,none⟩=some (.int .i64 P)/\W.cell? ⟨g,f+q*8+5,none⟩=some (.string s)/\W.cell? ⟨g,f+q*8+6,none⟩=some (.slice u O.length y)/\W.cell? ⟨g,f+q*8+7,none⟩=some (.slice z Q.length A)/\W.cell? ⟨j,d+q*8,none⟩=some (.int .i64 J)/\W.cell? ⟨j,d+q*8+1,none⟩=some (.string t)/\W.cell? ⟨j,d+q*8+2,none⟩=some (.int .i64 T)/\W.cell? ⟨j,d+q*8+3,none⟩=some (.bool R)/\W.cell? ⟨j,d+q*8+4,none⟩=some (.int .i64 V)/\W.cell? ⟨j,d+q*8+5,none⟩=some (.string Y)/\W.cell? ⟨j,d+q*8+6,none⟩=some (.slice C U.length D)/\W.cell? ⟨j,d+q*8+7,none⟩=some (.slice E X.length F)) (by kernel_rfl) (m.out _ (Below.drew (Below.refl _ _))) (fun b=> ?_);refine tkH 0 b ?_;refine tkH 1 b ?_;refine tkH 2 b ?_;refine tkH 3 b ?_;refine tkH 4 b ?_;refine tkH 5 b ?_;refine tkH 6 b ?_;refine tkH 7 b ?_;refine tkH 8 b ?_;refine tkH 9 b ?_;refine tkH 10 b ?_;refine tkH 11 b ?_;refine tkH 12 b ?_;refine tkH 13 b ?_;refine tkH 14 b ?_;refine tkH 15 b ?_;refine tkH 16 b ?_;refine tkH 17 b ?_;refine tkH 18 b ?_;refine tkH 19 b ?_;refine tkH 20 b ?_;refine tkH 21 b ?_;refine tkH 22 b ?_;refine tkH 23 b ?_;refine tkH 24 b ?_;refine wpAnyH_take (i:=25) (v:=undef) rfl (by kernel_rfl) (by kernel_rfl) (by kernel_rfl) (fun _ _ _ h=>h) (Or.inr ⟨by kernel_rfl,rfl⟩) b ?_
        try simp only[Act.put,tk1,tk2,tk3,tk4,tk5,tk6]
        refine wpAnyH_take (i:=26) (v:=undef) rfl (by kernel_rfl) (by kernel_rfl) (by kernel_rfl) (fun _ _ _ h=>h) (Or.inr ⟨by kernel_rfl,rfl⟩) b ?_
        try simp only[Act.put,tk1,tk2,tk3,tk4,tk5,tk6]
        refine wpAnyH_take (i:=27) (v:=undef) rfl (by kernel_rfl) (by kernel_rfl) (by kernel_rfl) (fun _ _ _ h=>h) (Or.inr ⟨by kernel_rfl,rfl⟩) b ?_
        try simp only[Act.put,tk1,tk2,tk3,tk4,tk5,tk6]
        refine wpAnyH_take (i:=28) (v:=undef) rfl (by kernel_rfl) (by kernel_rfl) (by kernel_rfl) (fun _ _ _ h=>h) (Or.inr ⟨by kernel_rfl,rfl⟩) b ?_
        try simp only[Act.put,tk1,tk2,tk3,tk4,tk5,tk6]
        refine wpAnyH_take (i:=29) (v:=undef) rfl (by kernel_rfl) (by kernel_rfl) (by kernel_rfl) (fun _ _ _ h=>h) (Or.inr ⟨by kernel_rfl,rfl⟩) b ?_
        try simp only[Act.put,tk1,tk2,tk3,tk4,tk5,tk6]
        refine wpAnyH_take (i:=30) (v:=undef) rfl (by kernel_rfl) (by kernel_rfl) (by kernel_rfl) (fun _ _ _ h=>h) (Or.inr ⟨by kernel_rfl,rfl⟩) b ?_
        try simp only[Act.put,tk1,tk2,tk3,tk4,tk5,tk6]
        refine wpAnyH_take (i:=31) (v:=undef) rfl (by kernel_rfl) (by kernel_rfl) (by kernel_rfl) (fun _ _ _ h=>h) (Or.inr ⟨by kernel_rfl,rfl⟩) b ?_
        try simp only[Act.put,tk1,tk2,tk3,tk4,tk5,tk6]
        refine wpAnyH_take (i:=32) (v:=undef) rfl (by kernel_rfl) (by kernel_rfl) (by kernel_rfl) (fun _ _ _ h=>h) (Or.inr ⟨by kernel_rfl,rfl⟩) b ?_
        try simp only[Act.put,tk1,tk2,tk3,tk4,tk5,tk6]
        refine wpAnyH_take (i:=33) (v:=undef) rfl (by kernel_rfl) (by kernel_rfl) (by kernel_rfl) (fun _ _ _ h=>h) (Or.inr ⟨by kernel_rfl,rfl⟩) b ?_
        try simp only[Act.put,tk1,tk2,tk3,tk4,tk5,tk6]
        refine wpAnyH_take (i:=34) (v:=undef) rfl (by kernel_rfl) (by kernel_rfl) (by kernel_rfl) (fun _ _ _ h=>h) (Or.inr ⟨by kernel_rfl,rfl⟩) b ?_
        try simp only[Act.put,tk1,tk2,tk3,tk4,tk5,tk6]
        refine wpAnyH_take (i:=35) (v:=undef) rfl (by kernel_rfl) (by kernel_rfl) (by kernel_rfl) (fun _ _ _ h=>h) (Or.inr ⟨by kernel_rfl,rfl⟩) b ?_
        try simp only[Act.put,tk1,tk2,tk3,tk4,tk5,tk6]
        refine wpAnyH_take (i:=36) (v:=undef) rfl (by kernel_rfl) (by kernel_rfl) (by kernel_rfl) (fun _ _ _ h=>h) (Or.inr ⟨by kernel_rfl,rfl⟩) b ?_
        try simp only[Act.put,tk1,tk2,tk3,tk4,tk5,tk6]
        refine tkH 37 b ?_;refine wpAnyH_done (by kernel_rfl) ?_ _;clear b;go_wp2;go_ret;exact HP.out _ (G.out.trans (Below.drew (Below.refl _ _)))
      subst hy;obtain⟨y1,y2,y3,y4⟩:=Amo k;have m:=qz o;clear o;clear c0 d0 c1 d1 c2 d2 c3 d3 c4 d4 c5 d5 c6 d6 c7 d7;refine wp_region_held_drew (S:=fun W=>W.cell? ⟨g,f+q*8,none⟩=some (.int .i64 J)/\W.cell? ⟨g,f+q*8+1,none⟩=some (.string k)/\W.cell? ⟨g,f+q*8+2,none⟩=some (.int .i64 N)/\W.cell? ⟨g,f+q*8+3,none⟩=some (.bool M)/\W.cell? ⟨g,f+q*8+4,none⟩=some (.int .i64 P)/\W.cell? ⟨g,f+q*8+5,none⟩=some (.string s)/\W.cell? ⟨g,f+q*8+6,none⟩=some (.slice u O.length y)/\W.cell? ⟨g,f+q*8+7,none⟩=some (.slice z Q.length A)/\W.cell? ⟨j,d+q*8,none⟩=some (.int .i64 J)/\W.cell? ⟨j,d+q*8+1,none⟩=some (.string k)/\W.cell? ⟨j,d+q*8+2,none⟩=some (.int .i64 T)/\W.cell? ⟨j,d+q*8+3,none⟩=some (.bool R)/\W.cell? ⟨j,d+q*8+4,none⟩=some (.int .i64 V)/\W.cell? ⟨j,d+q*8+5,none⟩=some (.string Y)/\W.cell? ⟨j,d+q*8+6,none⟩=some (.slice C U.length D)/\W.cell? ⟨j,d+q*8+7,none⟩=some (.slice E X.length F)) (by kernel_rfl) (m.out _ (Below.drew (Below.refl _ _))) (fun b=> ?_);refine tkH 0 b ?_;refine tkH 1 b ?_;refine tkH 2 b ?_;refine tkH 3 b ?_;refine tkH 4 b ?_;refine tkH 5 b ?_;refine tkH 6 b ?_;refine tkH 7 b ?_;refine tkH 8 b ?_;refine tkH 9 b ?_;refine tkH 10 b ?_;refine tkH 11 b ?_;refine tkH 12 b ?_;refine tkH 13 b ?_;refine tkH 14 b ?_;refine tkH 15 b ?_;refine tkH 16 b ?_;refine tkH 17 b ?_;refine tkH 18 b ?_;refine tkH 19 b ?_;refine tkH 20 b ?_;refine tkH 21 b ?_;refine tkH 22 b ?_;refine tkH 23 b ?_;refine tkH 24 b ?_;refine tkH 25 b ?_;refine tkH 26 b ?_;refine tkH 27 b ?_;refine tkH 28 b ?_;refine tkH 29 b ?_;refine tkH 30 b ?_;refine tkH 31 b ?_;refine tkH 32 b ?_;refine tkH 33 b ?_;refine tkH 34 b ?_;refine wpAnyH_ready (rs:= [35]) (by kernel_rfl) (by simp) ?_;refine AllReadyH.cons rfl (fun K hK=> ?_) AllReadyH.nil;go_simp;(with_reducible refine(HC.out _ (Below.drew (Below.refl _ _))).mono ?_);rintro e w7 ⟨B,rfl,hB,ae⟩;have aa:Below wr.heap.size wr w7:=(Below.drew (Below.refl _ _)).trans ae;refine hK.out _ _ (m.out _ aa) (fun b=> ?_);clear hK K
      try simp only[Act.put,tk1,tk2,tk3,tk4,tk5,tk6]
      refine tkH 36 b ?_;refine tkH 37 b ?_;refine wpAnyH_done (by kernel_rfl) ?_ _;clear b;have ac:=G.out.trans (aa.mono G.out.size)
      cases B with
      |true=>
       have he:(⟨J,k,.mk N M P s O Q⟩:POp)=⟨J,k,.mk T R V Y U X⟩:=by rw[hB.1 rfl]
       have aj:=qz (au.out he);have aw:=qz ac;clear ac;clear ae aa hB he;go_wp2;go_roundw
       case rel=>exact⟨q+1,by go_num,by omega,aj,aw⟩
       case measure=>simp only[intOf];omega
      |false=>
       have hP:=Cn.no (w:=w) (w':=w7) (ad.out (fun e=>by
        have:Val.mk N M P s O Q=.mk T R V Y U X:=by injection e
        have:=hB.2 this
        cases this)) ac
       have HP:=qz hP;clear hP;clear ae aa hB ac;go_wp2;go_ret;exact HP.out
    . obtain rfl:q=l.length:=by omega
      have he:l=l':=by
       have:=af.out
       rwa [List.take_length,ai.out,List.take_length]at this
      go_wp2;go_ret;exact Cn.yes he G.out
end Go.Proofs.YtjgfchcldhmjcaaGreatDoor
