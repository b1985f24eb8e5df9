/- Parts: Plain Lean, no program: the reference's runes are the decoder's. -/
import Derived.Lib.ValidU
import Derived.Test.YtdbejcbbhomdbaaGreatDoorKPt8
set_option maxHeartbeats 20000000
set_option maxRecDepth 100000
namespace Go.Proofs.YtdbejcbbhomdbaaGreatDoor
open Go.RowKit
def Wr (W:World) (B g:Nat) (keeps:Bool) (acc:List UInt8):Prop:=
 ∃p v,Lo W B g 1 131 #[.bool keeps,p,v,.int .i64 (acc.length:Int)] (if keeps then acc else [])
theorem Agb:liesAt Tryz.prog Tryz.prog.depth 131 (4 / Tryz.prog.cellsOf 131) 1 129 1=true:=by kernel_rfl
theorem Lo.other {w:World} {B g o:Nat} {t:TypeId} {cs:Array Value} {bs:List UInt8} (h:Lo w B g o t cs bs) (i:Nat) (hi:i≠o) (hi2:i≠o+1) (u:Value):
 Lo (w.setCell ⟨g,i,none⟩ u) B g o t (cs.setIfInBounds i u) bs:=by
 obtain⟨hB,hb,ht,hs,h0,v,h1,hown⟩:=h;refine⟨hB,Br hb _,ht,by simpa using hs, ?_,v,by rw[Array.getElem?_setIfInBounds,if_neg hi2];exact h1, ?_⟩
 . rw[Array.getElem?_setIfInBounds,if_neg hi];exact h0
 . exact hown.kept (row:=some g) ⟨rfl,rfl,rfl,by simp[World.setCell],fun k _ hk=>Below.heap_setCell _ _ _ _ (fun e=>hk (by simp[e]))⟩ (Or.inr (Lib.ownBlock_ne hown hb ht))
theorem Wr.below {A W:World} {B g:Nat} {k:Bool} {acc:List UInt8} (h:Wr A B g k acc) (hb:Below A.heap.size A W):Wr W B g k acc:=by
 obtain⟨p,v,h⟩:=h;exact⟨p,v,h.keep (Gu hb) (fun k e=>by cases e)⟩
theorem Wr.put {A:World} {B g k:Nat} {b:Bool} {acc:List UInt8} {o o':Obj} (h:Wr A B g b acc) (ho:A.heap[k]? =some o) (hc:o.isCells=false):Wr (A.putObj k o') B g b acc:=by
 obtain⟨p,v,h⟩:=h;exact⟨p,v,h.keep (grownBy_putObj' A k o') (fun j e=>by cases e;exact⟨o,ho,hc⟩)⟩
theorem Wr.lt {A:World} {B g:Nat} {k:Bool} {acc:List UInt8} (h:Wr A B g k acc):g<A.heap.size:=by
 obtain⟨p,v,h⟩:=h;exact h.lt
theorem Wr.base {A:World} {B g:Nat} {k:Bool} {acc:List UInt8} (h:Wr A B g k acc):B<=g:=by
 obtain⟨p,v,h⟩:=h;exact h.1
def Dz (ss:List ByteArray):List UInt8:=ss.flatMap fun s=>s.data.toList
theorem Zr (ss:List ByteArray) (s:ByteArray):Dz (ss++ [s])=Dz ss++s.data.toList:=by simp[Dz]
theorem Xj (B g:Nat) (keeps:Bool) (acc:List UInt8) (ss:List ByteArray) (b c:Nat) (w:World) (h:Wr w B g keeps acc) (hp:w.heap[b]? =some (.cells (ss.map Value.string).toArray 9 (0,0))) (hbg:b≠g)
 (hlen:acc.length+(Dz ss).length<=50000000000) (hn:ss.length<=1000):
 Calls Tryz.prog 115 #[.pointer (some ⟨g,0,none⟩),.slice (some ⟨b,0,none⟩) ss.length c] w fun e w'=>e=.returned (.tuple #[])/\Wr w' B g keeps (acc++Dz ss)/\Below B w w'/\Dw g w w':=by
 go_enter Tryz.func115,Tryz.ntmps115;go_wp2;go_loopw [8] (fun i wr=> ∃k:Nat,k<=ss.length/\i=.int .i64 k/\Wr wr B g keeps (acc++Dz (ss.take k))/\Below B w wr/\Dw g w wr) (fun i _=>ss.length - (intOf i).toNat)
 case atStart=>exact⟨0,Nat.zero_le _,rfl,by simpa[Dz]using h,Below.refl _ _,Lib.OthersKept.refl _ _ _⟩
 case round=>
  obtain⟨k,hk,rfl,hw,hb,hkp⟩:=hrel;by_cases hlt:k<ss.length
  . obtain⟨s,hs⟩: ∃s,ss[k]? =some s:=⟨_,List.getElem?_eq_getElem hlt⟩;have htk:ss.take (k+1)=ss.take k++ [s]:=by rw[List.take_add_one,hs];rfl
    have hfl:(Dz ss).length=(Dz (ss.take k)).length+s.size+(Dz (ss.drop (k+1))).length:=by
     have:ss=ss.take k++ [s]++ss.drop (k+1):=by rw[<-htk,List.take_append_drop]
     have h2:=congrArg (fun l=>(Dz l).length) this;simp only[Dz,List.flatMap_append,List.length_append,List.flatMap_cons,List.flatMap_nil,List.append_nil]at h2 ⊢;rw[h2,Lib.size_eq]
    have hpr:=hkp _ _ hp (by simpa using hbg) (fun c fz e=>by cases e);have cp:wr.cell? ⟨b,k,none⟩=some (.string s):=by rw[Lib.cell_of_heap hpr];simp[hs]
    obtain⟨p,v,hbl⟩:=hw;have hbl':=hbl;obtain⟨hB,hbk,ht,_,_,_⟩:=hbl';have g0:wr.cell? ⟨g,0,none⟩=some (.bool keeps):=by rw[Lib.cell_of_heap hbk];rfl
    have g3:wr.cell? ⟨g,3,none⟩=some (.int .i64 ((acc++Dz (ss.take k)).length:Int)):=by rw[Lib.cell_of_heap hbk];rfl
    have f3:wr.frozen? ⟨g,3,none⟩=false:=Lib.frozen_of_heap hbk 3;have hln:(acc++Dz (ss.take k)).length<=50000000000:=by rw[List.length_append];omega
    have hln2:(acc++Dz (ss.take k)).length+s.size<=50000000000:=by rw[List.length_append];omega
    have hz:=hbl.lt;have hfin:acc++Dz (ss.take (k+1))=(acc++Dz (ss.take k))++s.data.toList:=by rw[htk,Zr,List.append_assoc]
    generalize acc++Dz (ss.take k)=L at*
    have Hfin:=qz hfin;have He:=qz (show((L.length:Int)+(s.size:Int))=((L++s.data.toList).length:Int)from by rw[List.length_append,<-Lib.size_eq];omega);clear hfin hbk htk hfl
    cases keeps
    . have hbs:Lo (wr.setCell ⟨g,3,none⟩ (.int .i64 ((L.length:Int)+(s.size:Int)))) B g 1 131 #[.bool false,p,v,.int .i64 ((L.length:Int)+(s.size:Int))] []:=hbl.other 3 (by omega) (by omega) _;go_wp2;go_roundw
      case rel=>
       refine⟨k+1,by omega,by go_num, ?_,hb.setCell (p:=⟨g,3,none⟩) hB _,hkp.setCell ⟨g,3,none⟩ rfl _⟩;rw[Hfin.out];rw[He.out]at hbs ⊢;exact⟨p,v,hbs⟩
      case measure=>simp[intOf];omega
    . have hbs:Lo (wr.setCell ⟨g,3,none⟩ (.int .i64 ((L.length:Int)+(s.size:Int)))) B g 1 131 #[.bool true,p,v,.int .i64 ((L.length:Int)+(s.size:Int))] L:=hbl.other 3 (by omega) (by omega) _;go_wp2_with (go_at_call 164;refine(Gt B g 1 _ _ L s _ hbs Agb (by omega) (by simp[World.setCell];omega)).mono ?_;rintro e w2 ⟨rfl,⟨v',hb2⟩,hbw2,hk2⟩);go_roundw
      case rel=>
       refine⟨k+1,by omega,by go_num, ?_,(hb.setCell (p:=⟨g,3,none⟩) hB _).trans hbw2,(hkp.setCell ⟨g,3,none⟩ rfl _).trans hk2⟩;rw[Hfin.out];rw[He.out]at hb2;exact⟨_,v',hb2⟩
      case measure=>simp[intOf];omega
  . obtain rfl:k=ss.length:=by omega
    rw[List.take_length]at hw;have Hw:=qz hw;clear hw;go_wp2
    go_end0
    exact⟨rfl,Hw.out,hb,hkp⟩
def B8:List UInt8->Nat->Int->Option Int
 |_,0,r=>some r
 | [],_+1,_=>none
 |d::l,n+1,r=>if(d.toNat:Int)<128\/192<=(d.toNat:Int)then none else B8 l n (64*r+d.toNat - 128)
def Cl (F:Option Int) (n:Nat) (least:Int):Int×Int:=
 match F with
 |none=>(0,0)
 |some r=>if r<least\/1114111<r\/(55296<=r/\r<57344)then(0,0)else(r,n)
def Bj (rest:List UInt8) (n:Nat) (r0 least:Int):Int×Int:=
 if rest.length+1<n then(0,0)else Cl (B8 rest (n - 1) r0) n least
def Ek:List UInt8->Int×Int
 | []=>(0,0)
 |c::rest=>
  if(c.toNat:Int)<128 then(c.toNat,1)
  else if 192<=(c.toNat:Int)/\(c.toNat:Int)<224 then Bj rest 2 (c.toNat - 192) 128
  else if 224<=(c.toNat:Int)/\(c.toNat:Int)<240 then Bj rest 3 (c.toNat - 224) 2048
  else if 240<=(c.toNat:Int)/\(c.toNat:Int)<248 then Bj rest 4 (c.toNat - 240) 65536
  else(0,0)
theorem J9 (s:ByteArray) (a:Nat) (h:a<s.size):s.data.toList.drop a=s[a]::s.data.toList.drop (a+1):=by
 rw[List.drop_eq_getElem_cons (by rw[<-Lib.size_eq];exact h)];rfl
theorem Be (d:UInt8) (l:List UInt8) (n:Nat) (r:Int):B8 (d::l) (n+1) r=if(d.toNat:Int)<128\/192<=(d.toNat:Int)then none else B8 l n (64*r+d.toNat - 128):=rfl
theorem Eo (c:UInt8) (rest:List UInt8):Ek (c::rest)=
 (if(c.toNat:Int)<128 then((c.toNat:Int),(1:Int))
 else if 192<=(c.toNat:Int)/\(c.toNat:Int)<224 then Bj rest 2 (c.toNat - 192) 128
 else if 224<=(c.toNat:Int)/\(c.toNat:Int)<240 then Bj rest 3 (c.toNat - 224) 2048
 else if 240<=(c.toNat:Int)/\(c.toNat:Int)<248 then Bj rest 4 (c.toNat - 240) 65536
 else(0,0)):=rfl
set_option maxRecDepth 1000000 in
theorem Aey (s:ByteArray) (a:Nat) (w:World) (hs:s.size<=4611686018427387904) (h:a<s.size) (x:UInt8) (hx:s[a]=x) (h1:192<=(x.toNat:Int)) (h2:(x.toNat:Int)<224) (h3:a+2<=s.size):
 Calls Tryz.prog 109 #[.string s,.int .i64 a] w fun e w'=>e=.returned (.tuple #[.int .i64 (Bj (s.data.toList.drop (a+1)) 2 (x.toNat - 192) 128).1,.int .i64 (Bj (s.data.toList.drop (a+1)) 2 (x.toNat - 192) 128).2])/\w=w':=by
 have hlen: ¬(s.data.toList.drop (a+1)).length+1<2:=by
  rw[List.length_drop,<-Lib.size_eq];omega
 obtain⟨F,hF⟩: ∃F,B8 (s.data.toList.drop (a+1)) (2 - 1) (x.toNat - 192)=F:=⟨_,rfl⟩;have hat:Bj (s.data.toList.drop (a+1)) 2 (x.toNat - 192) 128=Cl F 2 128:=by
  unfold Bj Cl;rw[if_neg hlen,hF]
 rw[hat];have H0:=qz hF;clear hat hlen hF;have e1:decide (s.size<=a)=false:=by simp;omega
 have e2:decide ((x.toNat:Int)<128)=false:=by simp;omega
 have e3:(a:Int)+2<=(s.size:Int):=by omega
 go_enter Tryz.func109,Tryz.ntmps109;go_wp2
 go_loop [8,10] (fun r i=> ∃k:Nat,∃rr:Int,1<=k/\k<=2/\i=.int .i64 k/\r=.int .i64 rr/\0<=rr/\(k<=1->rr<=31)/\(k<=2->rr<=2047)/\(k<=3->rr<=131071)/\rr<=8388607/\Hid (B8 (s.data.toList.drop (a+k)) (2 - k) rr=F)) (fun _ i=>2 - (intOf i).toNat)
 case atStart=>exact⟨1,(x.toNat:Int) - 192,by omega,by omega,rfl,rfl,by omega,by omega,by omega,by omega,by omega,H0⟩
 case round=>
  obtain⟨k,rr,hk1,hk2,rfl,rfl,hr0,hr1,hr2,hr3,hr4,hf⟩:=hrel;clear H0;by_cases hlt:k<2
  . obtain rfl:k=1:=by omega
    have hak:a+1<s.size:=by omega
    obtain⟨y,hy⟩: ∃y,s[a+1]=y:=⟨_,rfl⟩;have hyl:(y.toNat:Int)<256:=by have:=y.toNat_lt;omega
    have hf':=hf.out;rw[J9 s (a+1) hak,hy,show 2 - 1=(2 - (1+1))+1 from by omega]at hf';rw[Be]at hf';by_cases hc:(y.toNat:Int)<128\/192<=(y.toNat:Int)
    . rw[if_pos hc]at hf';subst hf';clear hf;rcases hc with hc|hc
      all_goals
       go_wp2
       all_goals go_ret2
       all_goals exact⟨rfl,rfl⟩
    . rw[if_neg hc]at hf';have Hf:=qz hf';clear hf hf';have hc1:128<=(y.toNat:Int):=by omega
      have hc2:(y.toNat:Int)<192:=by omega
      clear hc;go_wp2
      go_round
      case rel=>exact⟨1+1,64*rr+y.toNat - 128,by omega,by omega,by go_num,rfl,by omega,by omega,by omega,by omega,by omega,Hf⟩
      case measure=>first|(simp[intOf];done)|(simp[intOf];omega)
  . obtain rfl:k=2:=by omega
    have hf':=hf.out;rw[Nat.sub_self]at hf';rw[show B8 (s.data.toList.drop (a+2)) 0 rr=some rr from by cases (s.data.toList.drop (a+2))<;>rfl]at hf';subst hf';clear hf;by_cases hbad:rr<128\/1114111<rr\/(55296<=rr/\rr<57344)
    . have hv:Cl (some rr) 2 128=(0,0):=by unfold Cl;simp only;rw[if_pos hbad]
      have Hv:=qz hv;clear hv;have hb:(rr<128)\/(¬rr<128/\1114111<rr)\/(¬rr<128/\ ¬1114111<rr/\55296<=rr/\rr<57344):=by omega
      clear hbad;rcases hb with b1|⟨b1,b2⟩|⟨b1,b2,b3,b4⟩
      all_goals
       go_wp2
       all_goals go_ret2
       all_goals exact⟨by rw[Hv.out];rfl,rfl⟩
    . have hv:Cl (some rr) 2 128=(rr,2):=by unfold Cl;simp only;rw[if_neg hbad];rfl
      have Hv:=qz hv;clear hv;have hb:(¬rr<128/\ ¬1114111<rr/\rr<55296)\/(¬rr<128/\ ¬1114111<rr/\55296<=rr/\ ¬rr<57344):=by omega
      clear hbad;rcases hb with⟨b1,b2,b3⟩|⟨b1,b2,b3,b4⟩
      all_goals
       go_wp2
       all_goals go_ret2
       all_goals exact⟨by rw[Hv.out];rfl,rfl⟩
set_option maxRecDepth 1000000 in
theorem Aaz (s:ByteArray) (a:Nat) (w:World) (hs:s.size<=4611686018427387904) (h:a<s.size) (x:UInt8) (hx:s[a]=x) (h1:224<=(x.toNat:Int)) (h2:(x.toNat:Int)<240) (h3:a+3<=s.size):
 Calls Tryz.prog 109 #[.string s,.int .i64 a] w fun e w'=>e=.returned (.tuple #[.int .i64 (Bj (s.data.toList.drop (a+1)) 3 (x.toNat - 224) 2048).1,.int .i64 (Bj (s.data.toList.drop (a+1)) 3 (x.toNat - 224) 2048).2])/\w=w':=by
 have hlen: ¬(s.data.toList.drop (a+1)).length+1<3:=by
  rw[List.length_drop,<-Lib.size_eq];omega
 obtain⟨F,hF⟩: ∃F,B8 (s.data.toList.drop (a+1)) (3 - 1) (x.toNat - 224)=F:=⟨_,rfl⟩;have hat:Bj (s.data.toList.drop (a+1)) 3 (x.toNat - 224) 2048=Cl F 3 2048:=by
  unfold Bj Cl;rw[if_neg hlen,hF]
 rw[hat];have H0:=qz hF;clear hat hlen hF;have e1:decide (s.size<=a)=false:=by simp;omega
 have e2:decide ((x.toNat:Int)<128)=false:=by simp;omega
 have e3:(a:Int)+3<=(s.size:Int):=by omega
 go_enter Tryz.func109,Tryz.ntmps109;go_wp2
 go_loop [8,10] (fun r i=> ∃k:Nat,∃rr:Int,1<=k/\k<=3/\i=.int .i64 k/\r=.int .i64 rr/\0<=rr/\(k<=1->rr<=31)/\(k<=2->rr<=2047)/\(k<=3->rr<=131071)/\rr<=8388607/\Hid (B8 (s.data.toList.drop (a+k)) (3 - k) rr=F)) (fun _ i=>3 - (intOf i).toNat)
 case atStart=>exact⟨1,(x.toNat:Int) - 224,by omega,by omega,rfl,rfl,by omega,by omega,by omega,by omega,by omega,H0⟩
 case round=>
  obtain⟨k,rr,hk1,hk2,rfl,rfl,hr0,hr1,hr2,hr3,hr4,hf⟩:=hrel;clear H0;by_cases hlt:k<3
  . have hak:a+k<s.size:=by omega
    obtain⟨y,hy⟩: ∃y,s[a+k]=y:=⟨_,rfl⟩;have hyl:(y.toNat:Int)<256:=by have:=y.toNat_lt;omega
    have hf':=hf.out;rw[J9 s (a+k) hak,hy,show 3 - k=(3 - (k+1))+1 from by omega]at hf';rw[Be]at hf';by_cases hc:(y.toNat:Int)<128\/192<=(y.toNat:Int)
    . rw[if_pos hc]at hf';subst hf';clear hf;rcases hc with hc|hc
      all_goals
       go_wp2
       all_goals go_ret2
       all_goals exact⟨rfl,rfl⟩
    . rw[if_neg hc]at hf';have Hf:=qz hf';clear hf hf';have hc1:128<=(y.toNat:Int):=by omega
      have hc2:(y.toNat:Int)<192:=by omega
      clear hc;go_wp2
      go_round
      case rel=>exact⟨k+1,64*rr+y.toNat - 128,by omega,by omega,by go_num,rfl,by omega,by omega,by omega,by omega,by omega,Hf⟩
      case measure=>first|(simp[intOf];done)|(simp[intOf];omega)
  . obtain rfl:k=3:=by omega
    have hf':=hf.out;rw[Nat.sub_self]at hf';rw[show B8 (s.data.toList.drop (a+3)) 0 rr=some rr from by cases (s.data.toList.drop (a+3))<;>rfl]at hf';subst hf';clear hf;by_cases hbad:rr<2048\/1114111<rr\/(55296<=rr/\rr<57344)
    . have hv:Cl (some rr) 3 2048=(0,0):=by unfold Cl;simp only;rw[if_pos hbad]
      have Hv:=qz hv;clear hv;have hb:(rr<2048)\/(¬rr<2048/\1114111<rr)\/(¬rr<2048/\ ¬1114111<rr/\55296<=rr/\rr<57344):=by omega
      clear hbad;rcases hb with b1|⟨b1,b2⟩|⟨b1,b2,b3,b4⟩
      all_goals
       go_wp2
       all_goals go_ret2
       all_goals exact⟨by rw[Hv.out];rfl,rfl⟩
    . have hv:Cl (some rr) 3 2048=(rr,3):=by unfold Cl;simp only;rw[if_neg hbad];rfl
      have Hv:=qz hv;clear hv;have hb:(¬rr<2048/\ ¬1114111<rr/\rr<55296)\/(¬rr<2048/\ ¬1114111<rr/\55296<=rr/\ ¬rr<57344):=by omega
      clear hbad;rcases hb with⟨b1,b2,b3⟩|⟨b1,b2,b3,b4⟩
      all_goals
       go_wp2
       all_goals go_ret2
       all_goals exact⟨by rw[Hv.out];rfl,rfl⟩
set_option maxRecDepth 1000000 in
theorem Adf (s:ByteArray) (a:Nat) (w:World) (hs:s.size<=4611686018427387904) (h:a<s.size) (x:UInt8) (hx:s[a]=x) (h1:240<=(x.toNat:Int)) (h2:(x.toNat:Int)<248) (h3:a+4<=s.size):
 Calls Tryz.prog 109 #[.string s,.int .i64 a] w fun e w'=>e=.returned (.tuple #[.int .i64 (Bj (s.data.toList.drop (a+1)) 4 (x.toNat - 240) 65536).1,.int .i64 (Bj (s.data.toList.drop (a+1)) 4 (x.toNat - 240) 65536).2])/\w=w':=by
 have hlen: ¬(s.data.toList.drop (a+1)).length+1<4:=by
  rw[List.length_drop,<-Lib.size_eq];omega
 obtain⟨F,hF⟩: ∃F,B8 (s.data.toList.drop (a+1)) (4 - 1) (x.toNat - 240)=F:=⟨_,rfl⟩;have hat:Bj (s.data.toList.drop (a+1)) 4 (x.toNat - 240) 65536=Cl F 4 65536:=by
  unfold Bj Cl;rw[if_neg hlen,hF]
 rw[hat];have H0:=qz hF;clear hat hlen hF;have e1:decide (s.size<=a)=false:=by simp;omega
 have e2:decide ((x.toNat:Int)<128)=false:=by simp;omega
 have e3:(a:Int)+4<=(s.size:Int):=by omega
 go_enter Tryz.func109,Tryz.ntmps109;go_wp2
 go_loop [8,10] (fun r i=> ∃k:Nat,∃rr:Int,1<=k/\k<=4/\i=.int .i64 k/\r=.int .i64 rr/\0<=rr/\(k<=1->rr<=31)/\(k<=2->rr<=2047)/\(k<=3->rr<=131071)/\rr<=8388607/\Hid (B8 (s.data.toList.drop (a+k)) (4 - k) rr=F)) (fun _ i=>4 - (intOf i).toNat)
 case atStart=>exact⟨1,(x.toNat:Int) - 240,by omega,by omega,rfl,rfl,by omega,by omega,by omega,by omega,by omega,H0⟩
 case round=>
  obtain⟨k,rr,hk1,hk2,rfl,rfl,hr0,hr1,hr2,hr3,hr4,hf⟩:=hrel;clear H0;by_cases hlt:k<4
  . have hak:a+k<s.size:=by omega
    obtain⟨y,hy⟩: ∃y,s[a+k]=y:=⟨_,rfl⟩;have hyl:(y.toNat:Int)<256:=by have:=y.toNat_lt;omega
    have hf':=hf.out;rw[J9 s (a+k) hak,hy,show 4 - k=(4 - (k+1))+1 from by omega]at hf';rw[Be]at hf';by_cases hc:(y.toNat:Int)<128\/192<=(y.toNat:Int)
    . rw[if_pos hc]at hf';subst hf';clear hf;rcases hc with hc|hc
      all_goals
       go_wp2
       all_goals go_ret2
       all_goals exact⟨rfl,rfl⟩
    . rw[if_neg hc]at hf';have Hf:=qz hf';clear hf hf';have hc1:128<=(y.toNat:Int):=by omega
      have hc2:(y.toNat:Int)<192:=by omega
      clear hc;go_wp2
      go_round
      case rel=>exact⟨k+1,64*rr+y.toNat - 128,by omega,by omega,by go_num,rfl,by omega,by omega,by omega,by omega,by omega,Hf⟩
      case measure=>first|(simp[intOf];done)|(simp[intOf];omega)
  . obtain rfl:k=4:=by omega
    have hf':=hf.out;rw[Nat.sub_self]at hf';rw[show B8 (s.data.toList.drop (a+4)) 0 rr=some rr from by cases (s.data.toList.drop (a+4))<;>rfl]at hf';subst hf';clear hf;by_cases hbad:rr<65536\/1114111<rr\/(55296<=rr/\rr<57344)
    . have hv:Cl (some rr) 4 65536=(0,0):=by unfold Cl;simp only;rw[if_pos hbad]
      have Hv:=qz hv;clear hv;have hb:(rr<65536)\/(¬rr<65536/\1114111<rr)\/(¬rr<65536/\ ¬1114111<rr/\55296<=rr/\rr<57344):=by omega
      clear hbad;rcases hb with b1|⟨b1,b2⟩|⟨b1,b2,b3,b4⟩
      all_goals
       go_wp2
       all_goals go_ret2
       all_goals exact⟨by rw[Hv.out];rfl,rfl⟩
    . have hv:Cl (some rr) 4 65536=(rr,4):=by unfold Cl;simp only;rw[if_neg hbad];rfl
      have Hv:=qz hv;clear hv;have hb:(¬rr<65536/\ ¬1114111<rr/\rr<55296)\/(¬rr<65536/\ ¬1114111<rr/\55296<=rr/\ ¬rr<57344):=by omega
      clear hbad;rcases hb with⟨b1,b2,b3⟩|⟨b1,b2,b3,b4⟩
      all_goals
       go_wp2
       all_goals go_ret2
       all_goals exact⟨by rw[Hv.out];rfl,rfl⟩
set_option maxRecDepth 1000000 in
theorem Adg (s:ByteArray) (a:Nat) (w:World) (_hs:s.size<=4611686018427387904) (_ha:a<=4611686018427387904) (h:s.size<=a):
 Calls Tryz.prog 109 #[.string s,.int .i64 a] w fun e w'=>e=.returned (.tuple #[.int .i64 0,.int .i64 0])/\w=w':=by
 have e1:(s.size:Int)<=a:=by omega
 have e2:decide (s.size<=a)=true:=by simpa using h
 go_enter Tryz.func109,Tryz.ntmps109;go_wp2
 all_goals go_ret2
 all_goals exact⟨rfl,rfl⟩
set_option maxRecDepth 1000000 in
theorem Aex (s:ByteArray) (a:Nat) (w:World) (_hs:s.size<=4611686018427387904) (h:a<s.size) (x:UInt8) (hx:s[a]=x) (h1:(x.toNat:Int)<128):
 Calls Tryz.prog 109 #[.string s,.int .i64 a] w fun e w'=>e=.returned (.tuple #[.int .i64 x.toNat,.int .i64 1])/\w=w':=by
 go_enter Tryz.func109,Tryz.ntmps109;go_wp2
 all_goals go_ret2
 all_goals exact⟨rfl,rfl⟩
set_option maxRecDepth 1000000 in
theorem R9 (s:ByteArray) (a:Nat) (w:World) (hs:s.size<=4611686018427387904) (h:a<s.size) (x:UInt8) (hx:s[a]=x) (h0:128<=(x.toNat:Int))
 (h1:(x.toNat:Int)<192\/248<=(x.toNat:Int)\/(192<=(x.toNat:Int)/\(x.toNat:Int)<224/\s.size<a+2)\/(224<=(x.toNat:Int)/\(x.toNat:Int)<240/\s.size<a+3)\/(240<=(x.toNat:Int)/\(x.toNat:Int)<248/\s.size<a+4)):
 Calls Tryz.prog 109 #[.string s,.int .i64 a] w fun e w'=>e=.returned (.tuple #[.int .i64 0,.int .i64 0])/\w=w':=by
 have hxl:(x.toNat:Int)<256:=by have:=x.toNat_lt;omega
 rcases h1 with h1|h1|⟨h1,h2,h3⟩|⟨h1,h2,h3⟩|⟨h1,h2,h3⟩
 . go_enter Tryz.func109,Tryz.ntmps109;go_wp2
   all_goals go_ret2
   all_goals exact⟨rfl,rfl⟩
 . have g1:192<=(x.toNat:Int):=by omega
   have g2: ¬((x.toNat:Int)<224):=by omega
   have g3:224<=(x.toNat:Int):=by omega
   have g4: ¬((x.toNat:Int)<240):=by omega
   have g5:240<=(x.toNat:Int):=by omega
   have g6: ¬((x.toNat:Int)<248):=by omega
   go_enter Tryz.func109,Tryz.ntmps109;go_wp2
   all_goals go_ret2
   all_goals exact⟨rfl,rfl⟩
 . have h4:(s.size:Int)<(a:Int)+2:=by omega
   go_enter Tryz.func109,Tryz.ntmps109;go_wp2
   all_goals go_ret2
   all_goals exact⟨rfl,rfl⟩
 . have h4:(s.size:Int)<(a:Int)+3:=by omega
   go_enter Tryz.func109,Tryz.ntmps109;go_wp2
   all_goals go_ret2
   all_goals exact⟨rfl,rfl⟩
 . have h4:(s.size:Int)<(a:Int)+4:=by omega
   go_enter Tryz.func109,Tryz.ntmps109;go_wp2
   all_goals go_ret2
   all_goals exact⟨rfl,rfl⟩
theorem Tx (s:ByteArray) (a:Nat) (w:World) (hs:s.size<=4611686018427387904) (ha:a<=4611686018427387904):
 Calls Tryz.prog 109 #[.string s,.int .i64 a] w fun e w'=>e=.returned (.tuple #[.int .i64 (Ek (s.data.toList.drop a)).1,.int .i64 (Ek (s.data.toList.drop a)).2])/\w=w':=by
 by_cases h:a<s.size
 . rw[J9 s a h];obtain⟨x,hx⟩: ∃x,s[a]=x:=⟨_,rfl⟩;rw[hx];have hl:(s.data.toList.drop (a+1)).length=s.size - (a+1):=by rw[List.length_drop,<-Lib.size_eq]
   have hxl:=x.toNat_lt;rw[Eo];by_cases h1:(x.toNat:Int)<128
   . rw[if_pos h1];exact Aex s a w hs h x hx h1
   rw[if_neg h1];by_cases h2:192<=(x.toNat:Int)/\(x.toNat:Int)<224
   . rw[if_pos h2];by_cases h3:a+2<=s.size
     . exact Aey s a w hs h x hx h2.1 h2.2 h3
     . unfold Bj;rw[if_pos (by omega)];exact R9 s a w hs h x hx (by omega) (by omega)
   rw[if_neg h2];by_cases h2:224<=(x.toNat:Int)/\(x.toNat:Int)<240
   . rw[if_pos h2];by_cases h3:a+3<=s.size
     . exact Aaz s a w hs h x hx h2.1 h2.2 h3
     . unfold Bj;rw[if_pos (by omega)];exact R9 s a w hs h x hx (by omega) (by omega)
   rw[if_neg h2];by_cases h2:240<=(x.toNat:Int)/\(x.toNat:Int)<248
   . rw[if_pos h2];by_cases h3:a+4<=s.size
     . exact Adf s a w hs h x hx h2.1 h2.2 h3
     . unfold Bj;rw[if_pos (by omega)];exact R9 s a w hs h x hx (by omega) (by omega)
   rw[if_neg h2];exact R9 s a w hs h x hx (by omega) (by omega)
 . rw[List.drop_eq_nil_of_le (by rw[<-Lib.size_eq];omega)];exact Adg s a w hs ha (by omega)
end Go.Proofs.YtdbejcbbhomdbaaGreatDoor
namespace Go.Proofs.YtdbejcbbhomdbaaGreatDoor
theorem Afc (l:List UInt8) (k:Nat):((ByteArray.mk l.toArray).get! k)=l.getD k 0:=by
 show l.toArray[k]! =l.getD k 0;rw[getElem!_def];simp only[List.getElem?_toArray,List.getD_eq_getElem?_getD]
 cases l[k]? <;>rfl
theorem It (l:List UInt8):Lib.decodeL l=Lib.decodeN l.length (l.getD 0 0).toNat (l.getD 1 0).toNat (l.getD 2 0).toNat (l.getD 3 0).toNat:=by
 unfold Lib.decodeL;rw[Lib.decode_at];simp only[Nat.sub_zero,Nat.zero_add,Afc];rfl
theorem Dn (l:List UInt8) (r:Int):B8 l 0 r=some r:=by cases l<;>rfl
def Gk (l:List UInt8):Prop:=
 Ek l=if(Lib.decodeL l).1=65533/\(Lib.decodeL l).2=1 then(0,0)else(((Lib.decodeL l).1:Int),((Lib.decodeL l).2:Int))
theorem Kf {a b c d:Int} (h:a=c) (k:b=d):(a,b)=(c,d):=by rw[h,k]
theorem T5 (a:UInt8):Gk [a]:=by
 unfold Gk;rw[It];have ha:=a.toNat_lt;simp only[Eo,Bj,List.length_nil,List.length_cons,List.getD_cons_zero,Nat.zero_add];generalize a.toNat=x at ha ⊢;unfold Lib.decodeN;simp only[Nat.lt_irrefl,false_and,and_false,if_false]
 repeat' split
 all_goals first|rfl|(exfalso;omega)|(simp_all;done)|(simp_all;omega)
theorem T6 (a b:UInt8):Gk [a,b]:=by
 unfold Gk;rw[It];have ha:=a.toNat_lt;have hb:=b.toNat_lt;simp only[Eo,Bj,List.length_nil,List.length_cons,List.getD_cons_zero,List.getD_cons_succ,Nat.zero_add,Nat.reduceAdd,Nat.reduceLT,if_false,if_true,Nat.reduceSub];rw[show B8 [b] 1 ((a.toNat:Int) - 192)=_ from Be b [] 0 _,Dn];generalize a.toNat=x at ha ⊢;generalize b.toNat=y at hb ⊢;unfold Lib.decodeN Cl;simp only[Nat.lt_irrefl,false_and,and_false,if_false]
 repeat' split
 all_goals first|rfl|(exfalso;omega)|(apply Kf<;>omega)|(simp_all;done)|(simp_all;omega)
theorem T7 (a b c:UInt8):Gk [a,b,c]:=by
 unfold Gk;rw[It];have ha:=a.toNat_lt;have hb:=b.toNat_lt;have hc:=c.toNat_lt;simp only[Eo,Bj,List.length_nil,List.length_cons,List.getD_cons_zero,List.getD_cons_succ,Nat.zero_add,Nat.reduceAdd,Nat.reduceLT,if_false,if_true,Nat.reduceSub];rw[show B8 [b,c] 1 ((a.toNat:Int) - 192)=_ from Be b [c] 0 _,Dn,
  show B8 [b,c] 2 ((a.toNat:Int) - 224)=_ from Be b [c] 1 _,show B8 [c] 1 (64*((a.toNat:Int) - 224)+b.toNat - 128)=_ from Be c [] 0 _,Dn]
 generalize a.toNat=x at ha ⊢;generalize b.toNat=y at hb ⊢;generalize c.toNat=z at hc ⊢;unfold Lib.decodeN Cl;simp only[Nat.lt_irrefl,false_and,and_false,if_false]
 repeat' split
 all_goals first|rfl|(exfalso;omega)|(apply Kf<;>omega)|(simp_all;done)|(simp_all;omega)
theorem T8 (a b c d:UInt8) (r:List UInt8):Gk (a::b::c::d::r):=by
 unfold Gk;rw[It];have ha:=a.toNat_lt;have hb:=b.toNat_lt;have hc:=c.toNat_lt;have hd:=d.toNat_lt;rw[Eo];have l2: ¬(b::c::d::r).length+1<2:=by simp
 have l3: ¬(b::c::d::r).length+1<3:=by simp
 have l4: ¬(b::c::d::r).length+1<4:=by simp
 have e2:Bj (b::c::d::r) 2 ((a.toNat:Int) - 192) 128=Cl (if(b.toNat:Int)<128\/192<=(b.toNat:Int)then none else some (64*((a.toNat:Int) - 192)+b.toNat - 128)) 2 128:=by
  unfold Bj;rw[if_neg l2,show(2 - 1:Nat)=0+1 from rfl,Be,Dn]
 have e3:Bj (b::c::d::r) 3 ((a.toNat:Int) - 224) 2048=Cl (if(b.toNat:Int)<128\/192<=(b.toNat:Int)then none else if(c.toNat:Int)<128\/192<=(c.toNat:Int)then none else some (64*(64*((a.toNat:Int) - 224)+b.toNat - 128)+c.toNat - 128)) 3 2048:=by
  unfold Bj;rw[if_neg l3,show(3 - 1:Nat)=1+1 from rfl,Be,show(1:Nat)=0+1 from rfl,Be,Dn]
 have e4:Bj (b::c::d::r) 4 ((a.toNat:Int) - 240) 65536=Cl (if(b.toNat:Int)<128\/192<=(b.toNat:Int)then none else if(c.toNat:Int)<128\/192<=(c.toNat:Int)then none else if(d.toNat:Int)<128\/192<=(d.toNat:Int)then none else some (64*(64*(64*((a.toNat:Int) - 240)+b.toNat - 128)+c.toNat - 128)+d.toNat - 128)) 4 65536:=by
  unfold Bj;rw[if_neg l4,show(4 - 1:Nat)=2+1 from rfl,Be,show(2:Nat)=1+1 from rfl,Be,show(1:Nat)=0+1 from rfl,Be,Dn]
 rw[e2,e3,e4];clear e2 e3 e4 l2 l3 l4;have hl:3<(a::b::c::d::r).length:=by simp
 generalize (a::b::c::d::r).length=n at hl;simp only[List.getD_cons_zero,List.getD_cons_succ];generalize a.toNat=x at ha ⊢;generalize b.toNat=y at hb ⊢;generalize c.toNat=z at hc ⊢;generalize d.toNat=u at hd ⊢;unfold Lib.decodeN;by_cases b1:(y:Int)<128\/192<=(y:Int)
 . simp only[if_pos b1];unfold Cl
   repeat' split
   all_goals first|rfl|(exfalso;omega)|(apply Kf<;>omega)|(simp_all;done)|(simp_all;omega)
 simp only[if_neg b1];by_cases b2:(z:Int)<128\/192<=(z:Int)
 . simp only[if_pos b2];unfold Cl
   repeat' split
   all_goals first|rfl|(exfalso;omega)|(apply Kf<;>omega)|(simp_all;done)|(simp_all;omega)
 simp only[if_neg b2];by_cases b3:(u:Int)<128\/192<=(u:Int)
 . simp only[if_pos b3];unfold Cl
   repeat' split
   all_goals first|rfl|(exfalso;omega)|(apply Kf<;>omega)|(simp_all;done)|(simp_all;omega)
 simp only[if_neg b3];unfold Cl
 repeat' split
 all_goals first|rfl|(exfalso;omega)|(apply Kf<;>omega)|(simp_all;done)|(simp_all;omega)
theorem O3 (l:List UInt8) (h:l≠ []):Gk l:=
 match l,h with
 | [a],_=>T5 a
 | [a,b],_=>T6 a b
 | [a,b,c],_=>T7 a b c
 |a::b::c::d::r,_=>T8 a b c d r
end Go.Proofs.YtdbejcbbhomdbaaGreatDoor
