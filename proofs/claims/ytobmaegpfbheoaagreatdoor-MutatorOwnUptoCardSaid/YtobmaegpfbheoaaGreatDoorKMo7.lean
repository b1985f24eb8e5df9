/- Parts: parse.reader: its world, and its small functions: wrong, skip, comes. Condition: a text of at most 10^9 bytes. -/
import Derived.Lib.ValidU
import Derived.Deep.LoopGhost
import Derived.Test.YtobmaegpfbheoaaGreatDoorKMo3
import Derived.Test.YtobmaegpfbheoaaGreatDoorKMo4
set_option maxHeartbeats 20000000
set_option maxRecDepth 100000
namespace Go.Proofs.YtobmaegpfbheoaaGreatDoor
open Go.RowKit
def C8:List UInt8->Nat->Int->Option Int
 |_,0,r=>some r
 | [],_+1,_=>none
 |d::l,n+1,r=>if(d.toNat:Int)<128\/192<=(d.toNat:Int)then none else C8 l n (64*r+d.toNat - 128)
def Dr (F:Option Int) (n:Nat) (least:Int):Int×Int:=
 match F with
 |none=>(0,0)
 |some r=>if r<least\/1114111<r\/(55296<=r/\r<57344)then(0,0)else(r,n)
def B7 (rest:List UInt8) (n:Nat) (r0 least:Int):Int×Int:=
 if rest.length+1<n then(0,0)else Dr (C8 rest (n - 1) r0) n least
def Gv:List UInt8->Int×Int
 | []=>(0,0)
 |c::rest=>
  if(c.toNat:Int)<128 then(c.toNat,1)
  else if 192<=(c.toNat:Int)/\(c.toNat:Int)<224 then B7 rest 2 (c.toNat - 192) 128
  else if 224<=(c.toNat:Int)/\(c.toNat:Int)<240 then B7 rest 3 (c.toNat - 224) 2048
  else if 240<=(c.toNat:Int)/\(c.toNat:Int)<248 then B7 rest 4 (c.toNat - 240) 65536
  else(0,0)
theorem M7 (s:ByteArray) (a:Nat) (h:a<s.size):s.data.toList.drop a=s[a]::s.data.toList.drop (a+1):=by
 rw[List.drop_eq_getElem_cons (by rw[<-Lib.size_eq];exact h)];rfl
theorem Bx (d:UInt8) (l:List UInt8) (n:Nat) (r:Int):C8 (d::l) (n+1) r=if(d.toNat:Int)<128\/192<=(d.toNat:Int)then none else C8 l n (64*r+d.toNat - 128):=rfl
theorem G5 (c:UInt8) (rest:List UInt8):Gv (c::rest)=
 (if(c.toNat:Int)<128 then((c.toNat:Int),(1:Int))
 else if 192<=(c.toNat:Int)/\(c.toNat:Int)<224 then B7 rest 2 (c.toNat - 192) 128
 else if 224<=(c.toNat:Int)/\(c.toNat:Int)<240 then B7 rest 3 (c.toNat - 224) 2048
 else if 240<=(c.toNat:Int)/\(c.toNat:Int)<248 then B7 rest 4 (c.toNat - 240) 65536
 else(0,0)):=rfl
set_option maxRecDepth 1000000 in
theorem Ajb (s:ByteArray) (a:Nat) (w:World) (hs:s.size<=4611686018427387904) (h:a<s.size) (x:UInt8) (hx:s[a]=x) (h1:192<=(x.toNat:Int)) (h2:(x.toNat:Int)<224) (h3:a+2<=s.size):
 Calls Tryz.prog 158 #[.string s,.int .i64 a] w fun e w'=>e=.returned (.tuple #[.int .i64 (B7 (s.data.toList.drop (a+1)) 2 (x.toNat - 192) 128).1,.int .i64 (B7 (s.data.toList.drop (a+1)) 2 (x.toNat - 192) 128).2])/\w=w':=by
 have hlen: ¬(s.data.toList.drop (a+1)).length+1<2:=by
  rw[List.length_drop,<-Lib.size_eq];omega
 obtain⟨F,hF⟩: ∃F,C8 (s.data.toList.drop (a+1)) (2 - 1) (x.toNat - 192)=F:=⟨_,rfl⟩;have hat:B7 (s.data.toList.drop (a+1)) 2 (x.toNat - 192) 128=Dr F 2 128:=by
  unfold B7 Dr;rw[if_neg hlen,hF]
 rw[hat];have H0:=qz hF;clear hat hlen hF;have e1:decide (s.size<=a)=false:=by simp;omega
 have e2:decide ((x.toNat:Int)<128)=false:=by simp;omega
 have e3:(a:Int)+2<=(s.size:Int):=by omega
 go_enter Tryz.func158,Tryz.ntmps158;go_wp2
 go_loop [8,10] (fun r i=> ∃k:Nat,∃rr:Int,1<=k/\k<=2/\i=.int .i64 k/\r=.int .i64 rr/\0<=rr/\(k<=1->rr<=31)/\(k<=2->rr<=2047)/\(k<=3->rr<=131071)/\rr<=8388607/\Hid (C8 (s.data.toList.drop (a+k)) (2 - k) rr=F)) (fun _ i=>2 - (intOf i).toNat)
 case atStart=>exact⟨1,(x.toNat:Int) - 192,by omega,by omega,rfl,rfl,by omega,by omega,by omega,by omega,by omega,H0⟩
 case round=>
  obtain⟨k,rr,hk1,hk2,rfl,rfl,hr0,hr1,hr2,hr3,hr4,hf⟩:=hrel;clear H0;by_cases hlt:k<2
  . obtain rfl:k=1:=by omega
    have hak:a+1<s.size:=by omega
    obtain⟨y,hy⟩: ∃y,s[a+1]=y:=⟨_,rfl⟩;have hyl:(y.toNat:Int)<256:=by have:=y.toNat_lt;omega
    have hf':=hf.out;rw[M7 s (a+1) hak,hy,show 2 - 1=(2 - (1+1))+1 from by omega]at hf';rw[Bx]at hf';by_cases hc:(y.toNat:Int)<128\/192<=(y.toNat:Int)
    . rw[if_pos hc]at hf';subst hf';clear hf;rcases hc with hc|hc
      all_goals
       go_wp2
       all_goals go_ret2
       all_goals exact⟨rfl,rfl⟩
    . rw[if_neg hc]at hf';have Hf:=qz hf';clear hf hf';have hc1:128<=(y.toNat:Int):=by omega
      have hc2:(y.toNat:Int)<192:=by omega
      clear hc;go_wp2
      go_round
      case rel=>exact⟨1+1,64*rr+y.toNat - 128,by omega,by omega,by go_num,rfl,by omega,by omega,by omega,by omega,by omega,Hf⟩
      case measure=>first|(simp[intOf];done)|(simp[intOf];omega)
  . obtain rfl:k=2:=by omega
    have hf':=hf.out;rw[Nat.sub_self]at hf';rw[show C8 (s.data.toList.drop (a+2)) 0 rr=some rr from by cases (s.data.toList.drop (a+2))<;>rfl]at hf';subst hf';clear hf;by_cases hbad:rr<128\/1114111<rr\/(55296<=rr/\rr<57344)
    . have hv:Dr (some rr) 2 128=(0,0):=by unfold Dr;simp only;rw[if_pos hbad]
      have Hv:=qz hv;clear hv;have hb:(rr<128)\/(¬rr<128/\1114111<rr)\/(¬rr<128/\ ¬1114111<rr/\55296<=rr/\rr<57344):=by omega
      clear hbad;rcases hb with b1|⟨b1,b2⟩|⟨b1,b2,b3,b4⟩
      all_goals
       go_wp2
       all_goals go_ret2
       all_goals exact⟨by rw[Hv.out];rfl,rfl⟩
    . have hv:Dr (some rr) 2 128=(rr,2):=by unfold Dr;simp only;rw[if_neg hbad];rfl
      have Hv:=qz hv;clear hv;have hb:(¬rr<128/\ ¬1114111<rr/\rr<55296)\/(¬rr<128/\ ¬1114111<rr/\55296<=rr/\ ¬rr<57344):=by omega
      clear hbad;rcases hb with⟨b1,b2,b3⟩|⟨b1,b2,b3,b4⟩
      all_goals
       go_wp2
       all_goals go_ret2
       all_goals exact⟨by rw[Hv.out];rfl,rfl⟩
set_option maxRecDepth 1000000 in
theorem Ae5 (s:ByteArray) (a:Nat) (w:World) (hs:s.size<=4611686018427387904) (h:a<s.size) (x:UInt8) (hx:s[a]=x) (h1:224<=(x.toNat:Int)) (h2:(x.toNat:Int)<240) (h3:a+3<=s.size):
 Calls Tryz.prog 158 #[.string s,.int .i64 a] w fun e w'=>e=.returned (.tuple #[.int .i64 (B7 (s.data.toList.drop (a+1)) 3 (x.toNat - 224) 2048).1,.int .i64 (B7 (s.data.toList.drop (a+1)) 3 (x.toNat - 224) 2048).2])/\w=w':=by
 have hlen: ¬(s.data.toList.drop (a+1)).length+1<3:=by
  rw[List.length_drop,<-Lib.size_eq];omega
 obtain⟨F,hF⟩: ∃F,C8 (s.data.toList.drop (a+1)) (3 - 1) (x.toNat - 224)=F:=⟨_,rfl⟩;have hat:B7 (s.data.toList.drop (a+1)) 3 (x.toNat - 224) 2048=Dr F 3 2048:=by
  unfold B7 Dr;rw[if_neg hlen,hF]
 rw[hat];have H0:=qz hF;clear hat hlen hF;have e1:decide (s.size<=a)=false:=by simp;omega
 have e2:decide ((x.toNat:Int)<128)=false:=by simp;omega
 have e3:(a:Int)+3<=(s.size:Int):=by omega
 go_enter Tryz.func158,Tryz.ntmps158;go_wp2
 go_loop [8,10] (fun r i=> ∃k:Nat,∃rr:Int,1<=k/\k<=3/\i=.int .i64 k/\r=.int .i64 rr/\0<=rr/\(k<=1->rr<=31)/\(k<=2->rr<=2047)/\(k<=3->rr<=131071)/\rr<=8388607/\Hid (C8 (s.data.toList.drop (a+k)) (3 - k) rr=F)) (fun _ i=>3 - (intOf i).toNat)
 case atStart=>exact⟨1,(x.toNat:Int) - 224,by omega,by omega,rfl,rfl,by omega,by omega,by omega,by omega,by omega,H0⟩
 case round=>
  obtain⟨k,rr,hk1,hk2,rfl,rfl,hr0,hr1,hr2,hr3,hr4,hf⟩:=hrel;clear H0;by_cases hlt:k<3
  . have hak:a+k<s.size:=by omega
    obtain⟨y,hy⟩: ∃y,s[a+k]=y:=⟨_,rfl⟩;have hyl:(y.toNat:Int)<256:=by have:=y.toNat_lt;omega
    have hf':=hf.out;rw[M7 s (a+k) hak,hy,show 3 - k=(3 - (k+1))+1 from by omega]at hf';rw[Bx]at hf';by_cases hc:(y.toNat:Int)<128\/192<=(y.toNat:Int)
    . rw[if_pos hc]at hf';subst hf';clear hf;rcases hc with hc|hc
      all_goals
       go_wp2
       all_goals go_ret2
       all_goals exact⟨rfl,rfl⟩
    . rw[if_neg hc]at hf';have Hf:=qz hf';clear hf hf';have hc1:128<=(y.toNat:Int):=by omega
      have hc2:(y.toNat:Int)<192:=by omega
      clear hc;go_wp2
      go_round
      case rel=>exact⟨k+1,64*rr+y.toNat - 128,by omega,by omega,by go_num,rfl,by omega,by omega,by omega,by omega,by omega,Hf⟩
      case measure=>first|(simp[intOf];done)|(simp[intOf];omega)
  . obtain rfl:k=3:=by omega
    have hf':=hf.out;rw[Nat.sub_self]at hf';rw[show C8 (s.data.toList.drop (a+3)) 0 rr=some rr from by cases (s.data.toList.drop (a+3))<;>rfl]at hf';subst hf';clear hf;by_cases hbad:rr<2048\/1114111<rr\/(55296<=rr/\rr<57344)
    . have hv:Dr (some rr) 3 2048=(0,0):=by unfold Dr;simp only;rw[if_pos hbad]
      have Hv:=qz hv;clear hv;have hb:(rr<2048)\/(¬rr<2048/\1114111<rr)\/(¬rr<2048/\ ¬1114111<rr/\55296<=rr/\rr<57344):=by omega
      clear hbad;rcases hb with b1|⟨b1,b2⟩|⟨b1,b2,b3,b4⟩
      all_goals
       go_wp2
       all_goals go_ret2
       all_goals exact⟨by rw[Hv.out];rfl,rfl⟩
    . have hv:Dr (some rr) 3 2048=(rr,3):=by unfold Dr;simp only;rw[if_neg hbad];rfl
      have Hv:=qz hv;clear hv;have hb:(¬rr<2048/\ ¬1114111<rr/\rr<55296)\/(¬rr<2048/\ ¬1114111<rr/\55296<=rr/\ ¬rr<57344):=by omega
      clear hbad;rcases hb with⟨b1,b2,b3⟩|⟨b1,b2,b3,b4⟩
      all_goals
       go_wp2
       all_goals go_ret2
       all_goals exact⟨by rw[Hv.out];rfl,rfl⟩
set_option maxRecDepth 1000000 in
theorem Ahj (s:ByteArray) (a:Nat) (w:World) (hs:s.size<=4611686018427387904) (h:a<s.size) (x:UInt8) (hx:s[a]=x) (h1:240<=(x.toNat:Int)) (h2:(x.toNat:Int)<248) (h3:a+4<=s.size):
 Calls Tryz.prog 158 #[.string s,.int .i64 a] w fun e w'=>e=.returned (.tuple #[.int .i64 (B7 (s.data.toList.drop (a+1)) 4 (x.toNat - 240) 65536).1,.int .i64 (B7 (s.data.toList.drop (a+1)) 4 (x.toNat - 240) 65536).2])/\w=w':=by
 have hlen: ¬(s.data.toList.drop (a+1)).length+1<4:=by
  rw[List.length_drop,<-Lib.size_eq];omega
 obtain⟨F,hF⟩: ∃F,C8 (s.data.toList.drop (a+1)) (4 - 1) (x.toNat - 240)=F:=⟨_,rfl⟩;have hat:B7 (s.data.toList.drop (a+1)) 4 (x.toNat - 240) 65536=Dr F 4 65536:=by
  unfold B7 Dr;rw[if_neg hlen,hF]
 rw[hat];have H0:=qz hF;clear hat hlen hF;have e1:decide (s.size<=a)=false:=by simp;omega
 have e2:decide ((x.toNat:Int)<128)=false:=by simp;omega
 have e3:(a:Int)+4<=(s.size:Int):=by omega
 go_enter Tryz.func158,Tryz.ntmps158;go_wp2
 go_loop [8,10] (fun r i=> ∃k:Nat,∃rr:Int,1<=k/\k<=4/\i=.int .i64 k/\r=.int .i64 rr/\0<=rr/\(k<=1->rr<=31)/\(k<=2->rr<=2047)/\(k<=3->rr<=131071)/\rr<=8388607/\Hid (C8 (s.data.toList.drop (a+k)) (4 - k) rr=F)) (fun _ i=>4 - (intOf i).toNat)
 case atStart=>exact⟨1,(x.toNat:Int) - 240,by omega,by omega,rfl,rfl,by omega,by omega,by omega,by omega,by omega,H0⟩
 case round=>
  obtain⟨k,rr,hk1,hk2,rfl,rfl,hr0,hr1,hr2,hr3,hr4,hf⟩:=hrel;clear H0;by_cases hlt:k<4
  . have hak:a+k<s.size:=by omega
    obtain⟨y,hy⟩: ∃y,s[a+k]=y:=⟨_,rfl⟩;have hyl:(y.toNat:Int)<256:=by have:=y.toNat_lt;omega
    have hf':=hf.out;rw[M7 s (a+k) hak,hy,show 4 - k=(4 - (k+1))+1 from by omega]at hf';rw[Bx]at hf';by_cases hc:(y.toNat:Int)<128\/192<=(y.toNat:Int)
    . rw[if_pos hc]at hf';subst hf';clear hf;rcases hc with hc|hc
      all_goals
       go_wp2
       all_goals go_ret2
       all_goals exact⟨rfl,rfl⟩
    . rw[if_neg hc]at hf';have Hf:=qz hf';clear hf hf';have hc1:128<=(y.toNat:Int):=by omega
      have hc2:(y.toNat:Int)<192:=by omega
      clear hc;go_wp2
      go_round
      case rel=>exact⟨k+1,64*rr+y.toNat - 128,by omega,by omega,by go_num,rfl,by omega,by omega,by omega,by omega,by omega,Hf⟩
      case measure=>first|(simp[intOf];done)|(simp[intOf];omega)
  . obtain rfl:k=4:=by omega
    have hf':=hf.out;rw[Nat.sub_self]at hf';rw[show C8 (s.data.toList.drop (a+4)) 0 rr=some rr from by cases (s.data.toList.drop (a+4))<;>rfl]at hf';subst hf';clear hf;by_cases hbad:rr<65536\/1114111<rr\/(55296<=rr/\rr<57344)
    . have hv:Dr (some rr) 4 65536=(0,0):=by unfold Dr;simp only;rw[if_pos hbad]
      have Hv:=qz hv;clear hv;have hb:(rr<65536)\/(¬rr<65536/\1114111<rr)\/(¬rr<65536/\ ¬1114111<rr/\55296<=rr/\rr<57344):=by omega
      clear hbad;rcases hb with b1|⟨b1,b2⟩|⟨b1,b2,b3,b4⟩
      all_goals
       go_wp2
       all_goals go_ret2
       all_goals exact⟨by rw[Hv.out];rfl,rfl⟩
    . have hv:Dr (some rr) 4 65536=(rr,4):=by unfold Dr;simp only;rw[if_neg hbad];rfl
      have Hv:=qz hv;clear hv;have hb:(¬rr<65536/\ ¬1114111<rr/\rr<55296)\/(¬rr<65536/\ ¬1114111<rr/\55296<=rr/\ ¬rr<57344):=by omega
      clear hbad;rcases hb with⟨b1,b2,b3⟩|⟨b1,b2,b3,b4⟩
      all_goals
       go_wp2
       all_goals go_ret2
       all_goals exact⟨by rw[Hv.out];rfl,rfl⟩
set_option maxRecDepth 1000000 in
theorem Ahk (s:ByteArray) (a:Nat) (w:World) (_hs:s.size<=4611686018427387904) (_ha:a<=4611686018427387904) (h:s.size<=a):
 Calls Tryz.prog 158 #[.string s,.int .i64 a] w fun e w'=>e=.returned (.tuple #[.int .i64 0,.int .i64 0])/\w=w':=by
 have e1:(s.size:Int)<=a:=by omega
 have e2:decide (s.size<=a)=true:=by simpa using h
 go_enter Tryz.func158,Tryz.ntmps158;go_wp2
 all_goals go_ret2
 all_goals exact⟨rfl,rfl⟩
set_option maxRecDepth 1000000 in
theorem Aja (s:ByteArray) (a:Nat) (w:World) (_hs:s.size<=4611686018427387904) (h:a<s.size) (x:UInt8) (hx:s[a]=x) (h1:(x.toNat:Int)<128):
 Calls Tryz.prog 158 #[.string s,.int .i64 a] w fun e w'=>e=.returned (.tuple #[.int .i64 x.toNat,.int .i64 1])/\w=w':=by
 go_enter Tryz.func158,Tryz.ntmps158;go_wp2
 all_goals go_ret2
 all_goals exact⟨rfl,rfl⟩
set_option maxRecDepth 1000000 in
theorem Vo (s:ByteArray) (a:Nat) (w:World) (hs:s.size<=4611686018427387904) (h:a<s.size) (x:UInt8) (hx:s[a]=x) (h0:128<=(x.toNat:Int))
 (h1:(x.toNat:Int)<192\/248<=(x.toNat:Int)\/(192<=(x.toNat:Int)/\(x.toNat:Int)<224/\s.size<a+2)\/(224<=(x.toNat:Int)/\(x.toNat:Int)<240/\s.size<a+3)\/(240<=(x.toNat:Int)/\(x.toNat:Int)<248/\s.size<a+4)):
 Calls Tryz.prog 158 #[.string s,.int .i64 a] w fun e w'=>e=.returned (.tuple #[.int .i64 0,.int .i64 0])/\w=w':=by
 have hxl:(x.toNat:Int)<256:=by have:=x.toNat_lt;omega
 rcases h1 with h1|h1|⟨h1,h2,h3⟩|⟨h1,h2,h3⟩|⟨h1,h2,h3⟩
 . go_enter Tryz.func158,Tryz.ntmps158;go_wp2
   all_goals go_ret2
   all_goals exact⟨rfl,rfl⟩
 . have g1:192<=(x.toNat:Int):=by omega
   have g2: ¬((x.toNat:Int)<224):=by omega
   have g3:224<=(x.toNat:Int):=by omega
   have g4: ¬((x.toNat:Int)<240):=by omega
   have g5:240<=(x.toNat:Int):=by omega
   have g6: ¬((x.toNat:Int)<248):=by omega
   go_enter Tryz.func158,Tryz.ntmps158;go_wp2
   all_goals go_ret2
   all_goals exact⟨rfl,rfl⟩
 . have h4:(s.size:Int)<(a:Int)+2:=by omega
   go_enter Tryz.func158,Tryz.ntmps158;go_wp2
   all_goals go_ret2
   all_goals exact⟨rfl,rfl⟩
 . have h4:(s.size:Int)<(a:Int)+3:=by omega
   go_enter Tryz.func158,Tryz.ntmps158;go_wp2
   all_goals go_ret2
   all_goals exact⟨rfl,rfl⟩
 . have h4:(s.size:Int)<(a:Int)+4:=by omega
   go_enter Tryz.func158,Tryz.ntmps158;go_wp2
   all_goals go_ret2
   all_goals exact⟨rfl,rfl⟩
theorem Xk (s:ByteArray) (a:Nat) (w:World) (hs:s.size<=4611686018427387904) (ha:a<=4611686018427387904):
 Calls Tryz.prog 158 #[.string s,.int .i64 a] w fun e w'=>e=.returned (.tuple #[.int .i64 (Gv (s.data.toList.drop a)).1,.int .i64 (Gv (s.data.toList.drop a)).2])/\w=w':=by
 by_cases h:a<s.size
 . rw[M7 s a h];obtain⟨x,hx⟩: ∃x,s[a]=x:=⟨_,rfl⟩;rw[hx];have hl:(s.data.toList.drop (a+1)).length=s.size - (a+1):=by rw[List.length_drop,<-Lib.size_eq]
   have hxl:=x.toNat_lt;rw[G5];by_cases h1:(x.toNat:Int)<128
   . rw[if_pos h1];exact Aja s a w hs h x hx h1
   rw[if_neg h1];by_cases h2:192<=(x.toNat:Int)/\(x.toNat:Int)<224
   . rw[if_pos h2];by_cases h3:a+2<=s.size
     . exact Ajb s a w hs h x hx h2.1 h2.2 h3
     . unfold B7;rw[if_pos (by omega)];exact Vo s a w hs h x hx (by omega) (by omega)
   rw[if_neg h2];by_cases h2:224<=(x.toNat:Int)/\(x.toNat:Int)<240
   . rw[if_pos h2];by_cases h3:a+3<=s.size
     . exact Ae5 s a w hs h x hx h2.1 h2.2 h3
     . unfold B7;rw[if_pos (by omega)];exact Vo s a w hs h x hx (by omega) (by omega)
   rw[if_neg h2];by_cases h2:240<=(x.toNat:Int)/\(x.toNat:Int)<248
   . rw[if_pos h2];by_cases h3:a+4<=s.size
     . exact Ahj s a w hs h x hx h2.1 h2.2 h3
     . unfold B7;rw[if_pos (by omega)];exact Vo s a w hs h x hx (by omega) (by omega)
   rw[if_neg h2];exact Vo s a w hs h x hx (by omega) (by omega)
 . rw[List.drop_eq_nil_of_le (by rw[<-Lib.size_eq];omega)];exact Ahk s a w hs ha (by omega)
end Go.Proofs.YtobmaegpfbheoaaGreatDoor
namespace Go.Proofs.YtobmaegpfbheoaaGreatDoor
theorem Ajq (l:List UInt8) (k:Nat):((ByteArray.mk l.toArray).get! k)=l.getD k 0:=by
 show l.toArray[k]! =l.getD k 0;rw[getElem!_def];simp only[List.getElem?_toArray,List.getD_eq_getElem?_getD]
 cases l[k]? <;>rfl
theorem Fc (l:List UInt8):Lib.decodeL l=Lib.decodeN l.length (l.getD 0 0).toNat (l.getD 1 0).toNat (l.getD 2 0).toNat (l.getD 3 0).toNat:=by
 unfold Lib.decodeL;rw[Lib.decode_at];simp only[Nat.sub_zero,Nat.zero_add,Ajq];rfl
theorem Fm (l:List UInt8) (r:Int):C8 l 0 r=some r:=by cases l<;>rfl
def J8 (l:List UInt8):Prop:=
 Gv l=if(Lib.decodeL l).1=65533/\(Lib.decodeL l).2=1 then(0,0)else(((Lib.decodeL l).1:Int),((Lib.decodeL l).2:Int))
theorem Nf {a b c d:Int} (h:a=c) (k:b=d):(a,b)=(c,d):=by rw[h,k]
theorem Xq (a:UInt8):J8 [a]:=by
 unfold J8;rw[Fc];have ha:=a.toNat_lt;simp only[G5,B7,List.length_nil,List.length_cons,List.getD_cons_zero,Nat.zero_add];generalize a.toNat=x at ha ⊢;unfold Lib.decodeN;simp only[Nat.lt_irrefl,false_and,and_false,if_false]
 repeat' split
 all_goals first|rfl|(exfalso;omega)|(simp_all;done)|(simp_all;omega)
theorem Xr (a b:UInt8):J8 [a,b]:=by
 unfold J8;rw[Fc];have ha:=a.toNat_lt;have hb:=b.toNat_lt;simp only[G5,B7,List.length_nil,List.length_cons,List.getD_cons_zero,List.getD_cons_succ,Nat.zero_add,Nat.reduceAdd,Nat.reduceLT,if_false,if_true,Nat.reduceSub];rw[show C8 [b] 1 ((a.toNat:Int) - 192)=_ from Bx b [] 0 _,Fm];generalize a.toNat=x at ha ⊢;generalize b.toNat=y at hb ⊢;unfold Lib.decodeN Dr;simp only[Nat.lt_irrefl,false_and,and_false,if_false]
 repeat' split
 all_goals first|rfl|(exfalso;omega)|(apply Nf<;>omega)|(simp_all;done)|(simp_all;omega)
theorem Xs (a b c:UInt8):J8 [a,b,c]:=by
 unfold J8;rw[Fc];have ha:=a.toNat_lt;have hb:=b.toNat_lt;have hc:=c.toNat_lt;simp only[G5,B7,List.length_nil,List.length_cons,List.getD_cons_zero,List.getD_cons_succ,Nat.zero_add,Nat.reduceAdd,Nat.reduceLT,if_false,if_true,Nat.reduceSub];rw[show C8 [b,c] 1 ((a.toNat:Int) - 192)=_ from Bx b [c] 0 _,Fm,
  show C8 [b,c] 2 ((a.toNat:Int) - 224)=_ from Bx b [c] 1 _,show C8 [c] 1 (64*((a.toNat:Int) - 224)+b.toNat - 128)=_ from Bx c [] 0 _,Fm]
 generalize a.toNat=x at ha ⊢;generalize b.toNat=y at hb ⊢;generalize c.toNat=z at hc ⊢;unfold Lib.decodeN Dr;simp only[Nat.lt_irrefl,false_and,and_false,if_false]
 repeat' split
 all_goals first|rfl|(exfalso;omega)|(apply Nf<;>omega)|(simp_all;done)|(simp_all;omega)
theorem Xt (a b c d:UInt8) (r:List UInt8):J8 (a::b::c::d::r):=by
 unfold J8;rw[Fc];have ha:=a.toNat_lt;have hb:=b.toNat_lt;have hc:=c.toNat_lt;have hd:=d.toNat_lt;rw[G5];have l2: ¬(b::c::d::r).length+1<2:=by simp
 have l3: ¬(b::c::d::r).length+1<3:=by simp
 have l4: ¬(b::c::d::r).length+1<4:=by simp
 have e2:B7 (b::c::d::r) 2 ((a.toNat:Int) - 192) 128=Dr (if(b.toNat:Int)<128\/192<=(b.toNat:Int)then none else some (64*((a.toNat:Int) - 192)+b.toNat - 128)) 2 128:=by
  unfold B7;rw[if_neg l2,show(2 - 1:Nat)=0+1 from rfl,Bx,Fm]
 have e3:B7 (b::c::d::r) 3 ((a.toNat:Int) - 224) 2048=Dr (if(b.toNat:Int)<128\/192<=(b.toNat:Int)then none else if(c.toNat:Int)<128\/192<=(c.toNat:Int)then none else some (64*(64*((a.toNat:Int) - 224)+b.toNat - 128)+c.toNat - 128)) 3 2048:=by
  unfold B7;rw[if_neg l3,show(3 - 1:Nat)=1+1 from rfl,Bx,show(1:Nat)=0+1 from rfl,Bx,Fm]
 have e4:B7 (b::c::d::r) 4 ((a.toNat:Int) - 240) 65536=Dr (if(b.toNat:Int)<128\/192<=(b.toNat:Int)then none else if(c.toNat:Int)<128\/192<=(c.toNat:Int)then none else if(d.toNat:Int)<128\/192<=(d.toNat:Int)then none else some (64*(64*(64*((a.toNat:Int) - 240)+b.toNat - 128)+c.toNat - 128)+d.toNat - 128)) 4 65536:=by
  unfold B7;rw[if_neg l4,show(4 - 1:Nat)=2+1 from rfl,Bx,show(2:Nat)=1+1 from rfl,Bx,show(1:Nat)=0+1 from rfl,Bx,Fm]
 rw[e2,e3,e4];clear e2 e3 e4 l2 l3 l4;have hl:3<(a::b::c::d::r).length:=by simp
 generalize (a::b::c::d::r).length=n at hl;simp only[List.getD_cons_zero,List.getD_cons_succ];generalize a.toNat=x at ha ⊢;generalize b.toNat=y at hb ⊢;generalize c.toNat=z at hc ⊢;generalize d.toNat=u at hd ⊢;unfold Lib.decodeN;by_cases b1:(y:Int)<128\/192<=(y:Int)
 . simp only[if_pos b1];unfold Dr
   repeat' split
   all_goals first|rfl|(exfalso;omega)|(apply Nf<;>omega)|(simp_all;done)|(simp_all;omega)
 simp only[if_neg b1];by_cases b2:(z:Int)<128\/192<=(z:Int)
 . simp only[if_pos b2];unfold Dr
   repeat' split
   all_goals first|rfl|(exfalso;omega)|(apply Nf<;>omega)|(simp_all;done)|(simp_all;omega)
 simp only[if_neg b2];by_cases b3:(u:Int)<128\/192<=(u:Int)
 . simp only[if_pos b3];unfold Dr
   repeat' split
   all_goals first|rfl|(exfalso;omega)|(apply Nf<;>omega)|(simp_all;done)|(simp_all;omega)
 simp only[if_neg b3];unfold Dr
 repeat' split
 all_goals first|rfl|(exfalso;omega)|(apply Nf<;>omega)|(simp_all;done)|(simp_all;omega)
theorem N4 (l:List UInt8) (h:l≠ []):J8 l:=
 match l,h with
 | [a],_=>Xq a
 | [a,b],_=>Xr a b
 | [a,b,c],_=>Xs a b c
 |a::b::c::d::r,_=>Xt a b c d r
end Go.Proofs.YtobmaegpfbheoaaGreatDoor
namespace Go.Proofs.YtobmaegpfbheoaaGreatDoor
open Go Go.RowKit
theorem Fw (g off i:Nat):(⟨g,off,none⟩:Addr).add i=⟨g,off+i,none⟩:=Go.WideShapes.add_plain g off i
theorem Ai.reads {w:World} {B s:Nat} {l:List D} {a:Option Addr} {n c:Nat} (h:Ai w B (.row s l) [.slice a n c]): ∃ns,B5 w B s a n ns/\Ah w B l ns/\ ∀u ∈ ns,u.oneCell'=true:=by
 have hn:=h.row_len;obtain⟨a',c',e,hs,ns,h1,h2⟩:=h;simp only[List.cons.injEq,Value.slice.injEq,and_true]at e;obtain⟨rfl,rfl,rfl⟩:=e;refine⟨ns,⟨by rw[h1.len.1,Lj hs],fun h0=> ?_⟩,h1,h1.len.2⟩;rcases h2 with rfl|⟨g,off,e,hg,hc⟩
 . simp at h0
 . exact⟨_,e,hg,fun j u hu=>by rw[Fw];exact hc j u hu⟩
def Ej (b:Nat) (t:TypeId) (s:Nat) (wr:World) (l:List D) (V:Value):Prop:=
 ∃ns,wr.ownsRow b t s V l.length ns/\(∀d ∈ l,d.cells=s)/\ ∀w'':World,wr.heap.size<=w''.heap.size->
  (∀p:Addr,b<=p.block->p.block<wr.heap.size->V.ownBlock≠some p.block->w''.cell? p=wr.cell? p)->Ah w'' wr.heap.size l ns
theorem Ej.nil (b:Nat) (t:TypeId) (s:Nat) (wr:World):Ej b t s wr [] (.slice none 0 0):=⟨[],World.ownsRow_nil _ _ _ _,fun d hd=>(by cases hd),fun _ _ _=>rfl⟩
theorem Ej.base {b:Nat} {t:TypeId} {s:Nat} {wr:World} {l:List D} {V:Value} (h:Ej b t s wr l V): ∀g,V.ownBlock=some g->b<=g/\g<wr.heap.size:=by
 obtain⟨ns,h1,_⟩:=h;exact h1.lt
theorem Ej.keep {b:Nat} {t:TypeId} {s:Nat} {wr w':World} {l:List D} {V:Value} (h:Ej b t s wr l V) (hs:wr.heap.size<=w'.heap.size) (hk: ∀i,b<=i->i<wr.heap.size->w'.heap[i]? =wr.heap[i]?):Ej b t s w' l V:=by
 obtain⟨ns,h1,h2,h3⟩:=h;refine⟨ns,⟨h1.1, ?_⟩,h2,fun w'' k1 k2=>Ah.more (h3 w'' (by omega) (fun p p1 p2 p3=>(k2 p p1 (by omega) p3).trans (World.cell?_of_block (hk p.block p1 p2)))) hs⟩;rcases h1.2 with⟨rfl,h0⟩|⟨g,cap,cur,rfl,hbg,hg,h5⟩
 . exact .inl ⟨rfl,h0⟩
 . exact .inr ⟨g,cap,cur,rfl,hbg,(hk g hbg (Array.getElem?_eq_some_iff.1 hg).1).trans hg,h5⟩
theorem Ej.below {b:Nat} {t:TypeId} {s:Nat} {wr w':World} {l:List D} {V:Value} (h:Ej b t s wr l V) (hb:Below wr.heap.size wr w'):Ej b t s w' l V:=h.keep hb.size fun i _ hi=>hb.block i hi
theorem Ej.step {b:Nat} {t:TypeId} {s:Nat} {wr w4 w6:World} {l:List D} {V V':Value} {d:D} {cs ns:List Value} (hbw:b<=wr.heap.size)
 (hns: ∀w'':World,wr.heap.size<=w''.heap.size->(∀p:Addr,b<=p.block->p.block<wr.heap.size->V.ownBlock≠some p.block->w''.cell? p=wr.cell? p)->Ah w'' wr.heap.size l ns)
 (hall: ∀d ∈ l,d.cells=s) (hd:d.cells=s) (hx:An wr.heap.size w4 d cs) (hlt: ∀g,V.ownBlock=some g->g<wr.heap.size)
 (hown:w6.ownsRow b t s V' (l.length+1) (ns++cs)) (hV:V'.ownBlock=V.ownBlock\/ ∃N,V'.ownBlock=some N/\w4.heap.size<=N)
 (hs4:wr.heap.size<=w4.heap.size) (hs6:w4.heap.size<=w6.heap.size) (h4: ∀p:Addr,b<=p.block->p.block<wr.heap.size->w4.cell? p=wr.cell? p)
 (h6: ∀p:Addr,b<=p.block->p.block<w4.heap.size->V.ownBlock≠some p.block->w6.cell? p=w4.cell? p):Ej b t s w6 (l++ [d]) V':=by
 refine⟨ns++cs,by rw[List.length_append];exact hown, ?_,fun w'' hsz hag=> ?_⟩
 . intro x hx';rcases List.mem_append.1 hx' with hx'|hx'
   . exact hall x hx'
   . simp only[List.mem_cons,List.not_mem_nil,or_false]at hx';rw[hx'];exact hd
 . have hnew: ∀p:Addr,p.block<w4.heap.size->V.ownBlock≠some p.block->V'.ownBlock≠some p.block:=by
    intro p p2 p3;rcases hV with e|⟨N,e,hN⟩
    . rw[e];exact p3
    . rw[e];intro e2;have:=Option.some.inj e2;omega
   have a1:Ah w'' w6.heap.size l ns:=Ah.more (hns w'' (by omega) (fun p p1 p2 p3=>by
    rw[hag p p1 (by omega) (hnew p (by omega) p3),h6 p p1 (by omega) p3,h4 p p1 p2])) (by omega)
   have a2:Ai w'' w6.heap.size d cs:=Ai.more (hx w'' (by omega) (fun p p1 p2=>by
    have p3:V.ownBlock≠some p.block:=fun e=>by have:=hlt _ e;omega
    rw[hag p (by omega) (by omega) (hnew p p2 p3),h6 p (by omega) p2 p3])) hs6
   exact a1.snoc a2
theorem Ej.close {b:Nat} {t:TypeId} {s:Nat} {wr:World} {l:List D} {V:Value} (h:Ej b t s wr l V):
 ∃a c,V=.slice a l.length c/\l.length<=c/\An b wr (.row s l) [.slice a l.length c]/\((l= []/\a=none/\c=0)\/ ∃g,a=some ⟨g,0,none⟩/\b<=g/\g<wr.heap.size):=by
 obtain⟨ns,h1,h2,h3⟩:=h;have h1':=h1;rcases h1.2 with⟨rfl,h0⟩|⟨g,cap,cur,rfl,hbg,hg,hnc,_⟩
 . have hl:l= []:=List.eq_nil_of_length_eq_zero h0;subst hl;exact⟨none,0,rfl,Nat.le_refl _,fun _ _ _=>⟨none,0,rfl,h2, [],rfl,.inl rfl⟩,.inl ⟨rfl,rfl,rfl⟩⟩
 . have hgl:=(Array.getElem?_eq_some_iff.1 hg).1;refine⟨_,cap,rfl,hnc,fun w'' k1 k2=>⟨_,cap,rfl,h2,ns,h3 w'' k1 (fun p p1 p2 _=>k2 p p1 p2),.inr ⟨g,0,rfl,hgl,fun j u hu=> ?_⟩⟩,.inr ⟨g,rfl,hbg,hgl⟩⟩;have h5:=h1'.cells (g:=g) rfl j u hu;rw[Fw]at h5;exact(k2 _ hbg hgl).trans h5
def Ln (e q:Int):Ending:=.panicked [{v:=.iface 219 (.agg #[.int .i64 e,.int .i64 q]),recovered:=false}]
def KV (R:Nat):List (Int×Value):=
 let f:=fun n:Nat=>Value.func (.func n) #[.pointer (some ⟨R,0,none⟩)] #[]
 [(110,f 210),(102,f 211),(116,f 212),(34,f 213),(91,f 214),(123,f 215),(45,f 216),
  (48,f 216),(49,f 216),(50,f 216),(51,f 216),(52,f 216),(53,f 216),(54,f 216),(55,f 216),(56,f 216),(57,f 216)]
def Ue (w:World) (R g:Nat) (s:ByteArray) (k:Nat):Prop:=Aj w R 225 #[.string s,.int .i64 k,.map (some g)]
def Bn (R g:Nat) (s:ByteArray) (k':Nat) (w w':World):Prop:=w.grownBy w' (some R)/\Ue w' R g s k'
theorem Bj {w w1 w2:World} {r:Option Nat} (h:w.grownBy w1 r) (k:w1.grownBy w2 r):w.grownBy w2 r:=
 ⟨k.os.trans h.os,k.tape.trans h.tape,k.output.trans h.output,Nat.le_trans h.size k.size,fun i hi hn=>(k.block i (Nat.lt_of_lt_of_le hi h.size) hn).trans (h.block i hi hn)⟩
theorem Gk {w w1:World} {r:Option Nat} (h:w.grownBy w1 r) (n:Nat):w.grownBy (w1.drewN n) r:=⟨h.os,h.tape,h.output,h.size,h.block⟩
theorem En {w w1:World} {r:Option Nat} (h:w.grownBy w1 r) (o:Obj):w.grownBy (w1.alloc o) r:=
 ⟨h.os,h.tape,h.output,Nat.le_trans h.size (by simp),fun i hi hne=>(Below.heap_alloc w1 o i (Nat.lt_of_lt_of_le hi h.size)).trans (h.block i hi hne)⟩
theorem Kq {w w1 w2:World} {r:Option Nat} (h:w.grownBy w1 r) (k:Below w1.heap.size w1 w2):w.grownBy w2 r:=
 ⟨k.os.trans h.os,k.tape.trans h.tape,k.output.trans h.output,Nat.le_trans h.size k.size,fun i hi hn=>(k.block i (Nat.lt_of_lt_of_le hi h.size)).trans (h.block i hi hn)⟩
theorem F6 {w w1:World} {r:Nat} (h:w.grownBy w1 (some r)) (p:Addr) (hp:p.block=r\/w.heap.size<=p.block) (u:Value):w.grownBy (w1.setCell p u) (some r):=
 ⟨h.os,h.tape,h.output,by simpa[World.setCell]using h.size,fun i hi hne=>(Below.heap_setCell w1 p u i (by
   rintro rfl;rcases hp with hp|hp
   . exact hne (by rw[hp])
   . omega)).trans (h.block i hi hne)⟩
theorem Ir {w w1:World} (r:Option Nat) (k:Below w.heap.size w w1):w.grownBy w1 r:=⟨k.os,k.tape,k.output,k.size,fun i hi _=>k.block i hi⟩
theorem Bn.refl {w:World} {R g k:Nat} {s:ByteArray} (h:Ue w R g s k):Bn R g s k w w:=⟨World.grownBy.refl _ _,h⟩
theorem Bn.trans {w w1 w2:World} {R g k k':Nat} {s:ByteArray} (h:Bn R g s k w w1) (h':Bn R g s k' w1 w2):Bn R g s k' w w2:=⟨Bj h.1 h'.1,h'.2⟩
theorem Bn.drewN {w w1:World} {R g k:Nat} {s:ByteArray} (h:Bn R g s k w w1) (n:Nat):Bn R g s k w (w1.drewN n):=⟨Gk h.1 n,h.2⟩
theorem Bn.drew {w w1:World} {R g k:Nat} {s:ByteArray} (h:Bn R g s k w w1):Bn R g s k w w1.drew:=⟨⟨h.1.os,h.1.tape,h.1.output,h.1.size,h.1.block⟩,h.2⟩
theorem Bn.alloc {w w1:World} {R g k:Nat} {s:ByteArray} (h:Bn R g s k w w1) (o:Obj):Bn R g s k w (w1.alloc o):=⟨En h.1 o,Aj.alloc h.2 o⟩
theorem Bn.below {w w1 w2:World} {R g k:Nat} {s:ByteArray} (h:Bn R g s k w w1) (hb:Below w1.heap.size w1 w2):Bn R g s k w w2:=⟨Kq h.1 hb,Aj.below h.2 hb (Aj.lt h.2)⟩
theorem Bn.set {w w1:World} {R g k:Nat} {s:ByteArray} (h:Bn R g s k w w1) (k':Nat):Bn R g s k' w (w1.setCell ⟨R,1,none⟩ (.int .i64 k')):=
 ⟨F6 h.1 _ (.inl rfl) _,by have:=Aj.set_ h.2 1 (.int .i64 k');exact this⟩
theorem Ue.cells {w:World} {R g k:Nat} {s:ByteArray} (h:Ue w R g s k):w.cell? ⟨R,0,none⟩=some (.string s)/\w.cell? ⟨R,1,none⟩=some (.int .i64 k)/\w.cell? ⟨R,2,none⟩=some (.map (some g))/\w.frozen? ⟨R,1,none⟩=false/\R<w.heap.size:=
 ⟨Aj.cell h 0,Aj.cell h 1,Aj.cell h 2,Aj.frozen h 1,Aj.lt h⟩
theorem D6 (s:ByteArray) {a:Nat} (h:a<s.size):s.data.toList[a]? =some s[a]:=by
 rw[List.getElem?_eq_getElem (by rw[<-Lib.size_eq];exact h)];rfl
theorem Du (c:UInt8):(c.toNat:Int)<256:=by have:=c.toNat_lt;omega
theorem Oz {c:UInt8} {n:Nat} (hn:n<256):((c.toNat:Int)==(n:Int))=(c==UInt8.ofNat n):=by
 rw[Bool.eq_iff_iff];simp only[beq_iff_eq];constructor
 . intro h;have:c.toNat=n:=by omega
   subst this;simp
 . rintro rfl;simp[UInt8.toNat_ofNat',Nat.mod_eq_of_lt hn]
theorem Ch (p:Value) (e q:Int) (w:World):Calls Tryz.prog 172 #[p,.int .i64 e,.int .i64 q] w fun r w'=>r=Ln e q/\w'=w:=by
 go_enter Tryz.func172,Tryz.ntmps172;go_wp2;exact⟨rfl,rfl,rfl⟩
theorem G0 (R g:Nat) (s:ByteArray) (k:Nat) (w:World) (hs:s.size<=1000000000) (hk:k<=s.size) (h:Ue w R g s k):
 Calls Tryz.prog 171 #[.pointer (some ⟨R,0,none⟩)] w fun e w'=>e=.returned (.tuple #[])/\Bn R g s (Ay s.data.toList k) w w':=by
 obtain⟨P,hP⟩: ∃P,Ay s.data.toList k=P:=⟨_,rfl⟩;have H0:=qz (And.intro hP (Bn.refl h));rw[hP];clear h hP;go_enter Tryz.func171,Tryz.ntmps171;go_wp2
 go_loopg [] (s.size - k) (fun n wr=> ∃j:Nat,j<=s.size/\n=s.size - j/\Hid (Ay s.data.toList j=P/\Bn R g s j w wr))
 case atStart=>exact⟨k,hk,rfl,H0⟩
 case round=>
  obtain⟨j,hj,rfl,hh⟩:=hrel;clear H0;obtain⟨c0,c1,_,f1,hR⟩:=hh.out.2.2.cells;by_cases hlt:j<s.size
  . obtain⟨c,hc⟩: ∃c,s[j]=c:=⟨_,rfl⟩;have hg:s.data.toList[j]? =some c:=by rw[D6 s hlt,hc]
    have hcl:=Du c;have i1:(j:Int)<(s.size:Int):=by omega
    have i0:(0:Int)<=(j:Int):=by omega
    by_cases hbl:I9 c=true
    . have HN:Hid (Ay s.data.toList (j+1)=P/\ ∀nq,Bn R g s (j+1) w ((wr.drewN nq).setCell ⟨R,1,none⟩ (.int .i64 ((j+1:Nat):Int)))):=
       ⟨by rw[<-Va hg hbl];exact hh.out.1,fun nq=>(hh.out.2.drewN nq).set _⟩
      unfold I9 at hbl;simp only[Bool.or_eq_true,beq_iff_eq]at hbl;clear hg hh;rcases hbl with((hbl|hbl)|hbl)|hbl
      all_goals
       subst hbl;go_wp2;go_quiet (fail);go_wp2;go_quiet (fail);go_wp2
       go_roundg (s.size - (j+1))
       case measure=>omega
       case rel=>exact⟨j+1,by omega,rfl,HN.out.1,HN.out.2 _⟩
    . have HN:Hid (j=P/\ ∀nq,Bn R g s j w (wr.drewN nq)):=⟨by rw[<-hh.out.1,Vb hg (by simpa using hbl)],fun nq=>hh.out.2.drewN nq⟩;unfold I9 at hbl;simp only[Bool.or_eq_true,beq_iff_eq,not_or]at hbl;obtain⟨⟨⟨h9,h10⟩,h13⟩,h32⟩:=hbl;have ne: ∀n:Nat,n<256->c≠UInt8.ofNat n->((c.toNat:Int)==(n:Int))=false:=fun n hn h=>by rw[Oz hn];simpa using h
      have e9:((c.toNat:Int)==9)=false:=ne 9 (by decide) h9;have e10:((c.toNat:Int)==10)=false:=ne 10 (by decide) h10;have e13:((c.toNat:Int)==13)=false:=ne 13 (by decide) h13;have e32:((c.toNat:Int)==32)=false:=ne 32 (by decide) h32;clear ne h9 h10 h13 h32 hg hh;go_wp2;go_quiet (fail);go_wp2;go_quiet (fail);go_wp2;refine bodyPost_ret (results_none rfl _ _ _) rfl ?_;refine⟨rfl, ?_⟩;rw[<-HN.out.1];exact HN.out.2 _
  . have HN:Hid (j=P/\ ∀nq,Bn R g s j w (wr.drewN nq)):=⟨by rw[<-hh.out.1,Zd (by rw[<-Lib.size_eq];omega)],fun nq=>hh.out.2.drewN nq⟩;have i1: ¬((j:Int)<(s.size:Int)):=by omega
    clear hh;go_wp2;go_quiet (fail);go_wp2
    go_end0
    refine⟨rfl, ?_⟩;rw[<-HN.out.1];exact HN.out.2 _
theorem Am (s:ByteArray):s.data.toList.length=s.size:=by rw[Array.length_toList];rfl
theorem D1 {s:ByteArray} {k:Nat} (hk:k<=s.size):Ay s.data.toList k<=s.size:=by
 have:=Ft (s:=s.data.toList) (p:=k) (by rw[Am];exact hk)
 rwa [Am]at this
theorem Adr (R g:Nat) (s:ByteArray) (k:Nat) (c:UInt8) (w:World) (hs:s.size<=1000000000) (hk:k<=s.size) (h:Ue w R g s k) (hc:s.data.toList[Ay s.data.toList k]? =some c):
 Calls Tryz.prog 238 #[.pointer (some ⟨R,0,none⟩),.int .u8 c.toNat] w fun e w'=>e=.returned (.bool true)/\Bn R g s (Ay s.data.toList k+1) w w':=by
 have hS:=G0 R g s k w hs hk h;have hP:=D1 hk;generalize Ay s.data.toList k=P at hS hP hc ⊢;have hlt:P<s.size:=by have:=Em hc;rwa [Am]at this
 have hx:s[P]=c:=by rw[D6 s hlt]at hc;exact Option.some.inj hc
 have hcl:=Du c;have i0:(0:Int)<=(P:Int):=by omega
 have i1:(P:Int)<(s.size:Int):=by omega
 have e1:((P:Int)==(s.size:Int))=false:=by rw[beq_eq_false_iff_ne];omega
 clear hc h;have HS:=qz hS;clear hS;go_enter Tryz.func238,Tryz.ntmps238;go_wp2_with (fail);(with_reducible refine(HS.out).mono ?_);rintro e w1 ⟨rfl,h1⟩;obtain⟨c0,c1,_,f1,hR⟩:=h1.2.cells;have H1:=qz h1;clear h1;go_wp2;go_quiet (fail);go_wp2;go_ret;exact⟨rfl,(H1.out.drewN _).set _⟩
theorem Afs (R g:Nat) (s:ByteArray) (k:Nat) (c:UInt8) (w:World) (hs:s.size<=1000000000) (hk:k<=s.size) (h:Ue w R g s k) (hc: ¬(s.data.toList[Ay s.data.toList k]? =some c)):
 Calls Tryz.prog 238 #[.pointer (some ⟨R,0,none⟩),.int .u8 c.toNat] w fun e w'=>e=.returned (.bool false)/\Bn R g s (Ay s.data.toList k) w w':=by
 have hS:=G0 R g s k w hs hk h;have hP:=D1 hk;generalize Ay s.data.toList k=P at hS hP hc ⊢;have i0:(0:Int)<=(P:Int):=by omega
 by_cases hlt:P<s.size
 . obtain⟨x,hx⟩: ∃x,s[P]=x:=⟨_,rfl⟩;have hne:((x.toNat:Int)==(c.toNat:Int))=false:=by
    rw[D6 s hlt,hx]at hc;rw[beq_eq_false_iff_ne];intro e;exact hc (by rw[UInt8.toNat_inj.1 (by omega:x.toNat=c.toNat)])
   have hne2:((x.toNat:Int) != (c.toNat:Int))=true:=by unfold bne;rw[hne];rfl
   have hcl:=Du c;have hxl:=Du x;have i1:(P:Int)<(s.size:Int):=by omega
   have e1:((P:Int)==(s.size:Int))=false:=by rw[beq_eq_false_iff_ne];omega
   clear hc h;have HS:=qz hS;clear hS;go_enter Tryz.func238,Tryz.ntmps238;go_wp2_with (fail);(with_reducible refine(HS.out).mono ?_);rintro e w1 ⟨rfl,h1⟩;obtain⟨c0,c1,_,f1,hR⟩:=h1.2.cells;have H1:=qz h1;clear h1;go_wp2;go_quiet (fail);go_wp2;go_ret;exact⟨rfl,H1.out.drewN _⟩
 . obtain rfl:P=s.size:=by omega
   have e1:((s.size:Int)==(s.size:Int))=true:=by simp
   clear hc h;have HS:=qz hS;clear hS;go_enter Tryz.func238,Tryz.ntmps238;go_wp2_with (fail);(with_reducible refine(HS.out).mono ?_);rintro e w1 ⟨rfl,h1⟩;obtain⟨c0,c1,_,f1,hR⟩:=h1.2.cells;have H1:=qz h1;clear h1;go_wp2;go_quiet (fail);go_wp2;go_ret;exact⟨rfl,H1.out.drewN _⟩
theorem X3 (R g:Nat) (s:ByteArray) (k:Nat) (c:UInt8) {B:Bool} (w:World) (hs:s.size<=1000000000) (hk:k<=s.size) (h:Ue w R g s k) (hB:decide (s.data.toList[Ay s.data.toList k]? =some c)=B):
 Calls Tryz.prog 238 #[.pointer (some ⟨R,0,none⟩),.int .u8 c.toNat] w fun e w'=>e=.returned (.bool B)/\Bn R g s (if B=true then Ay s.data.toList k+1 else Ay s.data.toList k) w w':=by
 subst hB;by_cases hc:s.data.toList[Ay s.data.toList k]? =some c
 . rw[decide_eq_true hc,if_pos rfl];exact Adr R g s k c w hs hk h hc
 . rw[decide_eq_false hc,if_neg (by decide)];exact Afs R g s k c w hs hk h hc
end Go.Proofs.YtobmaegpfbheoaaGreatDoor
