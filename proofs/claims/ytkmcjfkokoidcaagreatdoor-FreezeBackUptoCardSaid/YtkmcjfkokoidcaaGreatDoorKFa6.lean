/- Parts: slices.Insert of one element, a node, in a slice of the call's own. Condition: at most 1000 elements. Printed by mkins.py. -/
import Derived.Shelf.Spec.SlicesInsertGrow
import Derived.Test.YtkmcjfkokoidcaaGreatDoorKFa3
import Derived.Test.YtkmcjfkokoidcaaGreatDoorKFa4
set_option maxHeartbeats 20000000
set_option maxRecDepth 100000
namespace Go.Proofs.YtkmcjfkokoidcaaGreatDoor
open Go.RowKit
def C6:List UInt8->Nat->Int->Option Int
 |_,0,r=>some r
 | [],_+1,_=>none
 |d::l,n+1,r=>if(d.toNat:Int)<128\/192<=(d.toNat:Int)then none else C6 l n (64*r+d.toNat - 128)
def Dq (F:Option Int) (n:Nat) (least:Int):Int×Int:=
 match F with
 |none=>(0,0)
 |some r=>if r<least\/1114111<r\/(55296<=r/\r<57344)then(0,0)else(r,n)
def Ci (rest:List UInt8) (n:Nat) (r0 least:Int):Int×Int:=
 if rest.length+1<n then(0,0)else Dq (C6 rest (n - 1) r0) n least
def Gl:List UInt8->Int×Int
 | []=>(0,0)
 |c::rest=>
  if(c.toNat:Int)<128 then(c.toNat,1)
  else if 192<=(c.toNat:Int)/\(c.toNat:Int)<224 then Ci rest 2 (c.toNat - 192) 128
  else if 224<=(c.toNat:Int)/\(c.toNat:Int)<240 then Ci rest 3 (c.toNat - 224) 2048
  else if 240<=(c.toNat:Int)/\(c.toNat:Int)<248 then Ci rest 4 (c.toNat - 240) 65536
  else(0,0)
theorem Nw (s:ByteArray) (a:Nat) (h:a<s.size):s.data.toList.drop a=s[a]::s.data.toList.drop (a+1):=by
 rw[List.drop_eq_getElem_cons (by rw[<-Lib.size_eq];exact h)];rfl
theorem Ce (d:UInt8) (l:List UInt8) (n:Nat) (r:Int):C6 (d::l) (n+1) r=if(d.toNat:Int)<128\/192<=(d.toNat:Int)then none else C6 l n (64*r+d.toNat - 128):=rfl
theorem Gt (c:UInt8) (rest:List UInt8):Gl (c::rest)=
 (if(c.toNat:Int)<128 then((c.toNat:Int),(1:Int))
 else if 192<=(c.toNat:Int)/\(c.toNat:Int)<224 then Ci rest 2 (c.toNat - 192) 128
 else if 224<=(c.toNat:Int)/\(c.toNat:Int)<240 then Ci rest 3 (c.toNat - 224) 2048
 else if 240<=(c.toNat:Int)/\(c.toNat:Int)<248 then Ci rest 4 (c.toNat - 240) 65536
 else(0,0)):=rfl
set_option maxRecDepth 1000000 in
theorem Ann (s:ByteArray) (a:Nat) (w:World) (hs:s.size<=4611686018427387904) (h:a<s.size) (x:UInt8) (hx:s[a]=x) (h1:192<=(x.toNat:Int)) (h2:(x.toNat:Int)<224) (h3:a+2<=s.size):
 Calls Tryz.prog 182 #[.string s,.int .i64 a] w fun e w'=>e=.returned (.tuple #[.int .i64 (Ci (s.data.toList.drop (a+1)) 2 (x.toNat - 192) 128).1,.int .i64 (Ci (s.data.toList.drop (a+1)) 2 (x.toNat - 192) 128).2])/\w=w':=by
 have hlen: ¬(s.data.toList.drop (a+1)).length+1<2:=by
  rw[List.length_drop,<-Lib.size_eq];omega
 obtain⟨F,hF⟩: ∃F,C6 (s.data.toList.drop (a+1)) (2 - 1) (x.toNat - 192)=F:=⟨_,rfl⟩;have hat:Ci (s.data.toList.drop (a+1)) 2 (x.toNat - 192) 128=Dq F 2 128:=by
  unfold Ci Dq;rw[if_neg hlen,hF]
 rw[hat];have H0:=qz hF;clear hat hlen hF;have e1:decide (s.size<=a)=false:=by simp;omega
 have e2:decide ((x.toNat:Int)<128)=false:=by simp;omega
 have e3:(a:Int)+2<=(s.size:Int):=by omega
 go_enter Tryz.func182,Tryz.ntmps182;go_wp2
 go_loop [8,10] (fun r i=> ∃k:Nat,∃rr:Int,1<=k/\k<=2/\i=.int .i64 k/\r=.int .i64 rr/\0<=rr/\(k<=1->rr<=31)/\(k<=2->rr<=2047)/\(k<=3->rr<=131071)/\rr<=8388607/\Hid (C6 (s.data.toList.drop (a+k)) (2 - k) rr=F)) (fun _ i=>2 - (intOf i).toNat)
 case atStart=>exact⟨1,(x.toNat:Int) - 192,by omega,by omega,rfl,rfl,by omega,by omega,by omega,by omega,by omega,H0⟩
 case round=>
  obtain⟨k,rr,hk1,hk2,rfl,rfl,hr0,hr1,hr2,hr3,hr4,hf⟩:=hrel;clear H0;by_cases hlt:k<2
  . obtain rfl:k=1:=by omega
    have hak:a+1<s.size:=by omega
    obtain⟨y,hy⟩: ∃y,s[a+1]=y:=⟨_,rfl⟩;have hyl:(y.toNat:Int)<256:=by have:=y.toNat_lt;omega
    have hf':=hf.out;rw[Nw s (a+1) hak,hy,show 2 - 1=(2 - (1+1))+1 from by omega]at hf';rw[Ce]at hf';by_cases hc:(y.toNat:Int)<128\/192<=(y.toNat:Int)
    . rw[if_pos hc]at hf';subst hf';clear hf;rcases hc with hc|hc
      all_goals
       go_wp2
       all_goals go_ret2
       all_goals exact⟨rfl,rfl⟩
    . rw[if_neg hc]at hf';have Hf:=qz hf';clear hf hf';have hc1:128<=(y.toNat:Int):=by omega
      have hc2:(y.toNat:Int)<192:=by omega
      clear hc;go_wp2
      go_round
      case rel=>exact⟨1+1,64*rr+y.toNat - 128,by omega,by omega,by go_num,rfl,by omega,by omega,by omega,by omega,by omega,Hf⟩
      case measure=>first|(simp[intOf];done)|(simp[intOf];omega)
  . obtain rfl:k=2:=by omega
    have hf':=hf.out;rw[Nat.sub_self]at hf';rw[show C6 (s.data.toList.drop (a+2)) 0 rr=some rr from by cases (s.data.toList.drop (a+2))<;>rfl]at hf';subst hf';clear hf;by_cases hbad:rr<128\/1114111<rr\/(55296<=rr/\rr<57344)
    . have hv:Dq (some rr) 2 128=(0,0):=by unfold Dq;simp only;rw[if_pos hbad]
      have Hv:=qz hv;clear hv;have hb:(rr<128)\/(¬rr<128/\1114111<rr)\/(¬rr<128/\ ¬1114111<rr/\55296<=rr/\rr<57344):=by omega
      clear hbad;rcases hb with b1|⟨b1,b2⟩|⟨b1,b2,b3,b4⟩
      all_goals
       go_wp2
       all_goals go_ret2
       all_goals exact⟨by rw[Hv.out];rfl,rfl⟩
    . have hv:Dq (some rr) 2 128=(rr,2):=by unfold Dq;simp only;rw[if_neg hbad];rfl
      have Hv:=qz hv;clear hv;have hb:(¬rr<128/\ ¬1114111<rr/\rr<55296)\/(¬rr<128/\ ¬1114111<rr/\55296<=rr/\ ¬rr<57344):=by omega
      clear hbad;rcases hb with⟨b1,b2,b3⟩|⟨b1,b2,b3,b4⟩
      all_goals
       go_wp2
       all_goals go_ret2
       all_goals exact⟨by rw[Hv.out];rfl,rfl⟩
set_option maxRecDepth 1000000 in
theorem Aja (s:ByteArray) (a:Nat) (w:World) (hs:s.size<=4611686018427387904) (h:a<s.size) (x:UInt8) (hx:s[a]=x) (h1:224<=(x.toNat:Int)) (h2:(x.toNat:Int)<240) (h3:a+3<=s.size):
 Calls Tryz.prog 182 #[.string s,.int .i64 a] w fun e w'=>e=.returned (.tuple #[.int .i64 (Ci (s.data.toList.drop (a+1)) 3 (x.toNat - 224) 2048).1,.int .i64 (Ci (s.data.toList.drop (a+1)) 3 (x.toNat - 224) 2048).2])/\w=w':=by
 have hlen: ¬(s.data.toList.drop (a+1)).length+1<3:=by
  rw[List.length_drop,<-Lib.size_eq];omega
 obtain⟨F,hF⟩: ∃F,C6 (s.data.toList.drop (a+1)) (3 - 1) (x.toNat - 224)=F:=⟨_,rfl⟩;have hat:Ci (s.data.toList.drop (a+1)) 3 (x.toNat - 224) 2048=Dq F 3 2048:=by
  unfold Ci Dq;rw[if_neg hlen,hF]
 rw[hat];have H0:=qz hF;clear hat hlen hF;have e1:decide (s.size<=a)=false:=by simp;omega
 have e2:decide ((x.toNat:Int)<128)=false:=by simp;omega
 have e3:(a:Int)+3<=(s.size:Int):=by omega
 go_enter Tryz.func182,Tryz.ntmps182;go_wp2
 go_loop [8,10] (fun r i=> ∃k:Nat,∃rr:Int,1<=k/\k<=3/\i=.int .i64 k/\r=.int .i64 rr/\0<=rr/\(k<=1->rr<=31)/\(k<=2->rr<=2047)/\(k<=3->rr<=131071)/\rr<=8388607/\Hid (C6 (s.data.toList.drop (a+k)) (3 - k) rr=F)) (fun _ i=>3 - (intOf i).toNat)
 case atStart=>exact⟨1,(x.toNat:Int) - 224,by omega,by omega,rfl,rfl,by omega,by omega,by omega,by omega,by omega,H0⟩
 case round=>
  obtain⟨k,rr,hk1,hk2,rfl,rfl,hr0,hr1,hr2,hr3,hr4,hf⟩:=hrel;clear H0;by_cases hlt:k<3
  . have hak:a+k<s.size:=by omega
    obtain⟨y,hy⟩: ∃y,s[a+k]=y:=⟨_,rfl⟩;have hyl:(y.toNat:Int)<256:=by have:=y.toNat_lt;omega
    have hf':=hf.out;rw[Nw s (a+k) hak,hy,show 3 - k=(3 - (k+1))+1 from by omega]at hf';rw[Ce]at hf';by_cases hc:(y.toNat:Int)<128\/192<=(y.toNat:Int)
    . rw[if_pos hc]at hf';subst hf';clear hf;rcases hc with hc|hc
      all_goals
       go_wp2
       all_goals go_ret2
       all_goals exact⟨rfl,rfl⟩
    . rw[if_neg hc]at hf';have Hf:=qz hf';clear hf hf';have hc1:128<=(y.toNat:Int):=by omega
      have hc2:(y.toNat:Int)<192:=by omega
      clear hc;go_wp2
      go_round
      case rel=>exact⟨k+1,64*rr+y.toNat - 128,by omega,by omega,by go_num,rfl,by omega,by omega,by omega,by omega,by omega,Hf⟩
      case measure=>first|(simp[intOf];done)|(simp[intOf];omega)
  . obtain rfl:k=3:=by omega
    have hf':=hf.out;rw[Nat.sub_self]at hf';rw[show C6 (s.data.toList.drop (a+3)) 0 rr=some rr from by cases (s.data.toList.drop (a+3))<;>rfl]at hf';subst hf';clear hf;by_cases hbad:rr<2048\/1114111<rr\/(55296<=rr/\rr<57344)
    . have hv:Dq (some rr) 3 2048=(0,0):=by unfold Dq;simp only;rw[if_pos hbad]
      have Hv:=qz hv;clear hv;have hb:(rr<2048)\/(¬rr<2048/\1114111<rr)\/(¬rr<2048/\ ¬1114111<rr/\55296<=rr/\rr<57344):=by omega
      clear hbad;rcases hb with b1|⟨b1,b2⟩|⟨b1,b2,b3,b4⟩
      all_goals
       go_wp2
       all_goals go_ret2
       all_goals exact⟨by rw[Hv.out];rfl,rfl⟩
    . have hv:Dq (some rr) 3 2048=(rr,3):=by unfold Dq;simp only;rw[if_neg hbad];rfl
      have Hv:=qz hv;clear hv;have hb:(¬rr<2048/\ ¬1114111<rr/\rr<55296)\/(¬rr<2048/\ ¬1114111<rr/\55296<=rr/\ ¬rr<57344):=by omega
      clear hbad;rcases hb with⟨b1,b2,b3⟩|⟨b1,b2,b3,b4⟩
      all_goals
       go_wp2
       all_goals go_ret2
       all_goals exact⟨by rw[Hv.out];rfl,rfl⟩
set_option maxRecDepth 1000000 in
theorem Al3 (s:ByteArray) (a:Nat) (w:World) (hs:s.size<=4611686018427387904) (h:a<s.size) (x:UInt8) (hx:s[a]=x) (h1:240<=(x.toNat:Int)) (h2:(x.toNat:Int)<248) (h3:a+4<=s.size):
 Calls Tryz.prog 182 #[.string s,.int .i64 a] w fun e w'=>e=.returned (.tuple #[.int .i64 (Ci (s.data.toList.drop (a+1)) 4 (x.toNat - 240) 65536).1,.int .i64 (Ci (s.data.toList.drop (a+1)) 4 (x.toNat - 240) 65536).2])/\w=w':=by
 have hlen: ¬(s.data.toList.drop (a+1)).length+1<4:=by
  rw[List.length_drop,<-Lib.size_eq];omega
 obtain⟨F,hF⟩: ∃F,C6 (s.data.toList.drop (a+1)) (4 - 1) (x.toNat - 240)=F:=⟨_,rfl⟩;have hat:Ci (s.data.toList.drop (a+1)) 4 (x.toNat - 240) 65536=Dq F 4 65536:=by
  unfold Ci Dq;rw[if_neg hlen,hF]
 rw[hat];have H0:=qz hF;clear hat hlen hF;have e1:decide (s.size<=a)=false:=by simp;omega
 have e2:decide ((x.toNat:Int)<128)=false:=by simp;omega
 have e3:(a:Int)+4<=(s.size:Int):=by omega
 go_enter Tryz.func182,Tryz.ntmps182;go_wp2
 go_loop [8,10] (fun r i=> ∃k:Nat,∃rr:Int,1<=k/\k<=4/\i=.int .i64 k/\r=.int .i64 rr/\0<=rr/\(k<=1->rr<=31)/\(k<=2->rr<=2047)/\(k<=3->rr<=131071)/\rr<=8388607/\Hid (C6 (s.data.toList.drop (a+k)) (4 - k) rr=F)) (fun _ i=>4 - (intOf i).toNat)
 case atStart=>exact⟨1,(x.toNat:Int) - 240,by omega,by omega,rfl,rfl,by omega,by omega,by omega,by omega,by omega,H0⟩
 case round=>
  obtain⟨k,rr,hk1,hk2,rfl,rfl,hr0,hr1,hr2,hr3,hr4,hf⟩:=hrel;clear H0;by_cases hlt:k<4
  . have hak:a+k<s.size:=by omega
    obtain⟨y,hy⟩: ∃y,s[a+k]=y:=⟨_,rfl⟩;have hyl:(y.toNat:Int)<256:=by have:=y.toNat_lt;omega
    have hf':=hf.out;rw[Nw s (a+k) hak,hy,show 4 - k=(4 - (k+1))+1 from by omega]at hf';rw[Ce]at hf';by_cases hc:(y.toNat:Int)<128\/192<=(y.toNat:Int)
    . rw[if_pos hc]at hf';subst hf';clear hf;rcases hc with hc|hc
      all_goals
       go_wp2
       all_goals go_ret2
       all_goals exact⟨rfl,rfl⟩
    . rw[if_neg hc]at hf';have Hf:=qz hf';clear hf hf';have hc1:128<=(y.toNat:Int):=by omega
      have hc2:(y.toNat:Int)<192:=by omega
      clear hc;go_wp2
      go_round
      case rel=>exact⟨k+1,64*rr+y.toNat - 128,by omega,by omega,by go_num,rfl,by omega,by omega,by omega,by omega,by omega,Hf⟩
      case measure=>first|(simp[intOf];done)|(simp[intOf];omega)
  . obtain rfl:k=4:=by omega
    have hf':=hf.out;rw[Nat.sub_self]at hf';rw[show C6 (s.data.toList.drop (a+4)) 0 rr=some rr from by cases (s.data.toList.drop (a+4))<;>rfl]at hf';subst hf';clear hf;by_cases hbad:rr<65536\/1114111<rr\/(55296<=rr/\rr<57344)
    . have hv:Dq (some rr) 4 65536=(0,0):=by unfold Dq;simp only;rw[if_pos hbad]
      have Hv:=qz hv;clear hv;have hb:(rr<65536)\/(¬rr<65536/\1114111<rr)\/(¬rr<65536/\ ¬1114111<rr/\55296<=rr/\rr<57344):=by omega
      clear hbad;rcases hb with b1|⟨b1,b2⟩|⟨b1,b2,b3,b4⟩
      all_goals
       go_wp2
       all_goals go_ret2
       all_goals exact⟨by rw[Hv.out];rfl,rfl⟩
    . have hv:Dq (some rr) 4 65536=(rr,4):=by unfold Dq;simp only;rw[if_neg hbad];rfl
      have Hv:=qz hv;clear hv;have hb:(¬rr<65536/\ ¬1114111<rr/\rr<55296)\/(¬rr<65536/\ ¬1114111<rr/\55296<=rr/\ ¬rr<57344):=by omega
      clear hbad;rcases hb with⟨b1,b2,b3⟩|⟨b1,b2,b3,b4⟩
      all_goals
       go_wp2
       all_goals go_ret2
       all_goals exact⟨by rw[Hv.out];rfl,rfl⟩
set_option maxRecDepth 1000000 in
theorem Al4 (s:ByteArray) (a:Nat) (w:World) (_hs:s.size<=4611686018427387904) (_ha:a<=4611686018427387904) (h:s.size<=a):
 Calls Tryz.prog 182 #[.string s,.int .i64 a] w fun e w'=>e=.returned (.tuple #[.int .i64 0,.int .i64 0])/\w=w':=by
 have e1:(s.size:Int)<=a:=by omega
 have e2:decide (s.size<=a)=true:=by simpa using h
 go_enter Tryz.func182,Tryz.ntmps182;go_wp2
 all_goals go_ret2
 all_goals exact⟨rfl,rfl⟩
set_option maxRecDepth 1000000 in
theorem Anm (s:ByteArray) (a:Nat) (w:World) (_hs:s.size<=4611686018427387904) (h:a<s.size) (x:UInt8) (hx:s[a]=x) (h1:(x.toNat:Int)<128):
 Calls Tryz.prog 182 #[.string s,.int .i64 a] w fun e w'=>e=.returned (.tuple #[.int .i64 x.toNat,.int .i64 1])/\w=w':=by
 go_enter Tryz.func182,Tryz.ntmps182;go_wp2
 all_goals go_ret2
 all_goals exact⟨rfl,rfl⟩
set_option maxRecDepth 1000000 in
theorem Yh (s:ByteArray) (a:Nat) (w:World) (hs:s.size<=4611686018427387904) (h:a<s.size) (x:UInt8) (hx:s[a]=x) (h0:128<=(x.toNat:Int))
 (h1:(x.toNat:Int)<192\/248<=(x.toNat:Int)\/(192<=(x.toNat:Int)/\(x.toNat:Int)<224/\s.size<a+2)\/(224<=(x.toNat:Int)/\(x.toNat:Int)<240/\s.size<a+3)\/(240<=(x.toNat:Int)/\(x.toNat:Int)<248/\s.size<a+4)):
 Calls Tryz.prog 182 #[.string s,.int .i64 a] w fun e w'=>e=.returned (.tuple #[.int .i64 0,.int .i64 0])/\w=w':=by
 have hxl:(x.toNat:Int)<256:=by have:=x.toNat_lt;omega
 rcases h1 with h1|h1|⟨h1,h2,h3⟩|⟨h1,h2,h3⟩|⟨h1,h2,h3⟩
 . go_enter Tryz.func182,Tryz.ntmps182;go_wp2
   all_goals go_ret2
   all_goals exact⟨rfl,rfl⟩
 . have g1:192<=(x.toNat:Int):=by omega
   have g2: ¬((x.toNat:Int)<224):=by omega
   have g3:224<=(x.toNat:Int):=by omega
   have g4: ¬((x.toNat:Int)<240):=by omega
   have g5:240<=(x.toNat:Int):=by omega
   have g6: ¬((x.toNat:Int)<248):=by omega
   go_enter Tryz.func182,Tryz.ntmps182;go_wp2
   all_goals go_ret2
   all_goals exact⟨rfl,rfl⟩
 . have h4:(s.size:Int)<(a:Int)+2:=by omega
   go_enter Tryz.func182,Tryz.ntmps182;go_wp2
   all_goals go_ret2
   all_goals exact⟨rfl,rfl⟩
 . have h4:(s.size:Int)<(a:Int)+3:=by omega
   go_enter Tryz.func182,Tryz.ntmps182;go_wp2
   all_goals go_ret2
   all_goals exact⟨rfl,rfl⟩
 . have h4:(s.size:Int)<(a:Int)+4:=by omega
   go_enter Tryz.func182,Tryz.ntmps182;go_wp2
   all_goals go_ret2
   all_goals exact⟨rfl,rfl⟩
theorem Aaj (s:ByteArray) (a:Nat) (w:World) (hs:s.size<=4611686018427387904) (ha:a<=4611686018427387904):
 Calls Tryz.prog 182 #[.string s,.int .i64 a] w fun e w'=>e=.returned (.tuple #[.int .i64 (Gl (s.data.toList.drop a)).1,.int .i64 (Gl (s.data.toList.drop a)).2])/\w=w':=by
 by_cases h:a<s.size
 . rw[Nw s a h];obtain⟨x,hx⟩: ∃x,s[a]=x:=⟨_,rfl⟩;rw[hx];have hl:(s.data.toList.drop (a+1)).length=s.size - (a+1):=by rw[List.length_drop,<-Lib.size_eq]
   have hxl:=x.toNat_lt;rw[Gt];by_cases h1:(x.toNat:Int)<128
   . rw[if_pos h1];exact Anm s a w hs h x hx h1
   rw[if_neg h1];by_cases h2:192<=(x.toNat:Int)/\(x.toNat:Int)<224
   . rw[if_pos h2];by_cases h3:a+2<=s.size
     . exact Ann s a w hs h x hx h2.1 h2.2 h3
     . unfold Ci;rw[if_pos (by omega)];exact Yh s a w hs h x hx (by omega) (by omega)
   rw[if_neg h2];by_cases h2:224<=(x.toNat:Int)/\(x.toNat:Int)<240
   . rw[if_pos h2];by_cases h3:a+3<=s.size
     . exact Aja s a w hs h x hx h2.1 h2.2 h3
     . unfold Ci;rw[if_pos (by omega)];exact Yh s a w hs h x hx (by omega) (by omega)
   rw[if_neg h2];by_cases h2:240<=(x.toNat:Int)/\(x.toNat:Int)<248
   . rw[if_pos h2];by_cases h3:a+4<=s.size
     . exact Al3 s a w hs h x hx h2.1 h2.2 h3
     . unfold Ci;rw[if_pos (by omega)];exact Yh s a w hs h x hx (by omega) (by omega)
   rw[if_neg h2];exact Yh s a w hs h x hx (by omega) (by omega)
 . rw[List.drop_eq_nil_of_le (by rw[<-Lib.size_eq];omega)];exact Al4 s a w hs ha (by omega)
end Go.Proofs.YtkmcjfkokoidcaaGreatDoor
namespace Go.Proofs.YtkmcjfkokoidcaaGreatDoor
open Go Go.RowKit Go.Lib
theorem Agk:(Tryz.prog.info? 24).map (fun i=>(i.zero,i.size,i.bytes))=some (some (.pointer none),1,8):=by kernel_rfl
theorem Akj (b:Nat) (w:World) (V:Value) (n:Nat) (xs:List Value) (hV:w.ownsRow b 24 1 V n xs) (hb:b<=w.heap.size) (hn:n<=1000) (vb:Nat) (ys:List Value) (hl:ys.length=1) (hvs: ∀j v,ys[j]? =some v->w.cell? ⟨vb,j,none⟩=some v) (h1: ∀u ∈ ys,u.oneCell'=true):
 Calls Tryz.prog 102 #[V,.int .i64 n,.slice (some ⟨vb,0,none⟩) 1 1] w fun e w'=> ∃V',e=.returned V'/\w'.ownsRow b 24 1 V' (n+1) (xs++ys)/\w.grownBy w' V.ownBlock/\(V'.ownBlock=V.ownBlock\/V'.ownBlock=some w.heap.size):=by
 obtain⟨i0,hi0,hz0,hzs,hzb⟩:=info_parts Agk;obtain⟨V',w',hrun,k1,k2,_,k3⟩:=run_append_own_at (P:=Tryz.prog) (w:=w) b 108 108 24 i0 _ 1 8 Tryz.underlying108 hi0 hz0 hzs hzb rfl (by omega) V n xs hV ⟨vb,0,none⟩ 1 1 ys (by omega) (fun j u hj=>by rw[Bn,Nat.zero_add];exact hvs j u hj) h1 (by simp only[maxLen];omega) (by omega) hb;have hV':=hV;rcases hV'.2 with⟨rfl,rfl⟩|⟨g,cap,cur,rfl,hbg,hg,hnc,hcm,_⟩
 . have hP: ∃V2,Ending.returned V'=.returned V2/\w'.ownsRow b 24 1 V2 (0+1) (xs++ys)/\w.grownBy w' (Value.slice none 0 0).ownBlock/\(V2.ownBlock=(Value.slice none 0 0).ownBlock\/V2.ownBlock=some w.heap.size):=⟨V',rfl,k1,k2,k3⟩;have HP:=qz hP;clear hV hV' k1 k2 k3 hP hvs h1;go_enter Tryz.func102,Tryz.ntmps102;go_wp2_with (at_builtin;refine Lib.wpList_append_run _ rfl _ _ _ _ rfl _ _ rfl rfl _ _ hrun ?_);go_ret;exact HP.out
 . have hP: ∃V2,Ending.returned V'=.returned V2/\w'.ownsRow b 24 1 V2 (n+1) (xs++ys)/\w.grownBy w' (Value.slice (some ⟨g,0,none⟩) n cap).ownBlock/\(V2.ownBlock=(Value.slice (some ⟨g,0,none⟩) n cap).ownBlock\/V2.ownBlock=some w.heap.size):=⟨V',rfl,k1,k2,k3⟩;have HP:=qz hP;have hc63:cap<=9223372036854775807:=by simp only[maxLen]at hcm;omega
   clear hV hV' k1 k2 k3 hP hvs h1 hg hcm;go_enter Tryz.func102,Tryz.ntmps102;go_wp2_with (at_builtin;refine Lib.wpList_append_run _ rfl _ _ _ _ rfl _ _ rfl rfl _ _ hrun ?_)
   all_goals(go_ret;exact HP.out)
theorem Ah0 (b:Nat) (w:World) (g n i:Nat) (cur:Array Value) (xs:List Value) (hb:b<=w.heap.size) (hg:w.heap[g]? =some (.cells cur 24 (0,0))) (hcs:cur.size=n*1) (hx:cur.toList.take (n*1)=xs) (hi:i<n) (hn:n<=1000) (h1x: ∀u ∈ xs,u.oneCell'=true)
 (vb:Nat) (ys:List Value) (hl:ys.length=1) (hvs: ∀j v,ys[j]? =some v->w.cell? ⟨vb,j,none⟩=some v) (h1: ∀u ∈ ys,u.oneCell'=true):
 Calls Tryz.prog 102 #[.slice (some ⟨g,0,none⟩) n n,.int .i64 i,.slice (some ⟨vb,0,none⟩) 1 1] w fun e w'=> ∃V',e=.returned V'/\w'.ownsRow b 24 1 V' (n+1) (xs.take (i*1)++ys++xs.drop (i*1))/\Below w.heap.size w w'/\V'.ownBlock=some w.heap.size:=by
 obtain⟨i0,hi0,hz0,hzs,hzb⟩:=info_parts Agk;have hxl:xs.length=n*1:=by rw[<-hx,List.length_take,Array.length_toList,hcs];omega
 have hcl:cur.toList=xs:=by rw[<-hx,List.take_of_length_le];rw[Array.length_toList,hcs];exact Nat.le_refl _
 have hgw:g<w.heap.size:=(Array.getElem?_eq_some_iff.1 hg).1;have hvw:vb<w.heap.size:=World.block_lt_of_cell? w _ (hvs 0 _ (List.getElem?_eq_getElem (by omega)));have hxc: ∀(W:World),W.heap[g]? =w.heap[g]? -> ∀j u,xs[j]? =some u->W.cell? ⟨g,j,none⟩=some u:=fun W hW j u hu=>by
  refine(cell_of_row _ _ _ _ _ _ (hW.trans hg)).trans ?_;rw[<-Array.getElem?_toList,hcl];exact hu
 have hsz:(Tryz.prog.info? 24).map (·.size)=some 1:=by rw[hi0];simp[hzs]
 have hz2: ¬((i:Int)=(n:Int)):=by omega
 have hz3:(n:Int)<(n:Int)+1:=by omega
 have hkk:(n:Int)+1 - (i:Int)=((n+1 - i:Nat):Int):=by omega
 have hik:i+(n+1 - i)=n+1:=by omega
 have hold:(Builtin.firstCells i0.size i (.slice (some ⟨g,0,none⟩) i n)).run Tryz.prog w.drew=.ok (xs.take (i*1)).toArray w.drew:=by
  rw[hzs];refine run_firstCells_some w.drew 1 i ⟨g,0,none⟩ i n (xs.take (i*1)) (by rw[List.length_take];omega) (fun j v hj=> ?_);rw[Bn,Nat.zero_add];rw[List.getElem?_take]at hj
  split at hj
  . exact hxc w.drew rfl j v hj
  . cases hj
 have hrz: ∀ty,(Builtin.append_ #[108,3] ty #[.slice (some ⟨g,0,none⟩) i n,.int .i64 ((n:Int)+1 - (i:Int))]).run Tryz.prog w=.ok (.slice (some ⟨w.heap.size,0,none⟩) (n+1) (grownCap w (n+1) n 24)) (w.drew.alloc (.cells ((xs.take (i*1)).toArray++Builtin.zeroCells (Value.cells (.pointer none)) (n+1 - i)++Builtin.zeroCells (Value.cells (.pointer none)) (grownCap w (n+1) n 24 - (n+1))) 24)):=fun ty=>by
  have h:=Lib.run_append_grow_zeros (P:=Tryz.prog) w 108 3 ty 24 i0 _ .i64 .i64 Tryz.underlying108 Tryz.underlying3 hi0 hz0 (some ⟨g,0,none⟩) i n (xs.take (i*1)) hold (n+1 - i) (by omega) (by omega) (by omega) (by omega) (by rw[hzb];omega) (by rw[hzb,hik];exact growslice_fits (by omega) (by omega));rw[hik]at h;rw[hkk];exact h
 obtain⟨G,hG⟩: ∃G,G=grownCap w (n+1) n 24:=⟨_,rfl⟩;have hGn:n+1<=G:=by rw[hG];exact grownCap_ge w _ _ _
 have hG63:G<=maxLen:=by rw[hG];exact grownCap_le_maxLen w (n+1) n 24 (by unfold maxLen;omega)
 have hGm:G<=9223372036854775807:=by simp only[maxLen]at hG63;omega
 rw[<-hG]at hrz;obtain⟨MM,hMM⟩: ∃MM:List Value,(Builtin.zeroCells (Value.cells (.pointer none)) (n+1 - i)).toList=MM:=⟨_,rfl⟩;obtain⟨ZZ,hZZ⟩: ∃ZZ:List Value,(Builtin.zeroCells (Value.cells (.pointer none)) (G - (n+1))).toList=ZZ:=⟨_,rfl⟩;have hMl:MM.length=(n+1 - i)*1:=by rw[<-hMM];simp[Builtin.zeroCells,Value.cells];try omega
 have hZl:ZZ.length=(G - (n+1))*1:=by rw[<-hZZ];simp[Builtin.zeroCells,Value.cells];try omega
 have hROW:(xs.take (i*1)).toArray++Builtin.zeroCells (Value.cells (.pointer none)) (n+1 - i)++Builtin.zeroCells (Value.cells (.pointer none)) (G - (n+1))=(xs.take (i*1)++MM++ZZ).toArray:=by
  apply Array.ext';simp[<-hMM,<-hZZ]
 rw[hROW]at hrz;obtain⟨R0,hR0⟩: ∃R:List Value,xs.take (i*1)++MM++ZZ=R:=⟨_,rfl⟩;rw[hR0]at hrz;have hRl:R0.length=G*1:=by
  rw[<-hR0,List.length_append,List.length_append,List.length_take,hMl,hZl,hxl];omega
 obtain⟨R1,hR1⟩: ∃R:List Value,R0.take (i*1)++ys++R0.drop (i*1+ys.length)=R:=⟨_,rfl⟩;obtain⟨R2,hR2⟩: ∃R:List Value,R1.take ((i+1)*1)++xs.drop (i*1)++R1.drop ((i+1)*1+(xs.drop (i*1)).length)=R:=⟨_,rfl⟩;have hR1l:R1.length=G*1:=by
  rw[<-hR1,List.length_append,List.length_append,List.length_take,List.length_drop,hRl,hl];omega
 have hRes:R2=xs.take (i*1)++ys++xs.drop (i*1)++ZZ:=by
  rw[<-hR2,<-hR1,<-hR0];exact U0 _ _ _ ys (xs.drop (i*1)) (i*1) ((i+1)*1) (by rw[List.length_take,hxl];omega) (by rw[hMl,hl,List.length_drop,hxl];omega) (by rw[hl];omega)
 have hR2l:R2.length=G*1:=by
  rw[<-hR2,List.length_append,List.length_append,List.length_take,List.length_drop,List.length_drop,hR1l,hxl];omega
 have hcA: ∀(W:World),W.heap[w.heap.size]? =some (.cells R0.toArray 24 (0,0))->(∀j,j<w.heap.size->W.heap[j]? =w.heap[j]?)-> ∀ty o dl dc,o=i*1->dl=n+1 - i->(Builtin.copy_ #[108,108] ty #[.slice (some ⟨w.heap.size,o,none⟩) dl dc,.slice (some ⟨vb,0,none⟩) 1 1]).run Tryz.prog W=.ok (goInt 1) (W.setRow w.heap.size R1.toArray):=fun W hW hk ty o dl dc ho hd=>by
  subst ho hd;have hmin:Nat.min 1 (n+1 - i)=1:=by show min 1 (n+1 - i)=1;omega
  have:=Fc (P:=Tryz.prog) W 108 108 ty 24 1 w.heap.size (i*1) (n+1 - i) dc ⟨vb,0,none⟩ 1 1 R0.toArray 24 ys Tryz.underlying108 hsz hW (by rw[hl,hmin]) (fun j v hj=>by rw[Bn,Nat.zero_add];exact(World.cell?_of_block (hk vb hvw)).trans (hvs j v hj)) (by rw[hl];simp only[List.size_toArray,hRl];omega) h1;rw[hmin]at this;refine this.trans ?_;rw[<-hR1];rfl
 have hcB: ∀(W:World),W.heap[w.heap.size]? =some (.cells R1.toArray 24 (0,0))->(∀j,j<w.heap.size->W.heap[j]? =w.heap[j]?)-> ∀ty o so dl dc sl sc,o=(i+1)*1->so=i*1->dl=n - i->sl=n - i->(Builtin.copy_ #[108,108] ty #[.slice (some ⟨w.heap.size,o,none⟩) dl dc,.slice (some ⟨g,so,none⟩) sl sc]).run Tryz.prog W=.ok (goInt (n - i:Nat)) (W.setRow w.heap.size R2.toArray):=fun W hW hk ty o so dl dc sl sc ho hso hd hs=>by
  subst ho hso hd hs;have hmin:Nat.min (n - i) (n - i)=n - i:=Nat.min_self _;have:=Fc (P:=Tryz.prog) W 108 108 ty 24 1 w.heap.size ((i+1)*1) (n - i) dc ⟨g,i*1,none⟩ (n - i) sc R1.toArray 24 (xs.drop (i*1)) Tryz.underlying108 hsz hW (by rw[List.length_drop,hxl,hmin];omega) (fun j v hj=>by rw[Bn];exact hxc W (hk g hgw) _ v (by rwa [List.getElem?_drop]at hj)) (by rw[List.length_drop,hxl];simp only[List.size_toArray,hR1l];omega) (fun v hv=>h1x v (List.mem_of_mem_drop hv));rw[hmin]at this;refine this.trans ?_;rw[<-hR2]
 have hP: ∀W:World,Below w.heap.size w W->W.heap[w.heap.size]? =some (.cells R2.toArray 24 (0,0))-> ∃V',Ending.returned (.slice (some ⟨w.heap.size,0,none⟩) (n+1) G)=.returned V'/\W.ownsRow b 24 1 V' (n+1) (xs.take (i*1)++ys++xs.drop (i*1))/\Below w.heap.size w W/\V'.ownBlock=some w.heap.size:=fun W hB hW=>
  ⟨_,rfl,Pc hb hW hGn hG63 (by simpa using hR2l) (by
    show List.take _ R2=_;rw[hRes,List.take_left'];rw[List.length_append,List.length_append,List.length_take,List.length_drop,hxl,hl];omega),hB,rfl⟩
 have hGi: ¬(G=i):=by omega
 have hGim: ¬(G=i+1):=by omega
 have hci: ¬(n=i):=by omega
 have hw1:IntKind.i64.wrap ((i:Int)+1)=(i:Int)+1:=by rw[IntKind.wrap_i64];omega
 have hb1:(0:Int)<=(i:Int)+1:=by omega
 have hin:i<=n:=by omega
 have htn:((i:Int)+1).toNat=i+1:=by omega
 have hb3:(i:Int)<=(n:Int):=by omega
 obtain⟨W0,hW0⟩: ∃W:World,(w.alloc (.cells R0.toArray 24)).drew=W:=⟨_,rfl⟩;have hB0:Below w.heap.size w W0:=hW0▸Below.drew ((Below.refl _ _).alloc (Nat.le_refl _) _);have hR0h:W0.heap[w.heap.size]? =some (.cells R0.toArray 24 (0,0)):=hW0▸heap_alloc_new w _;have hcA1:=fun ty dc=>hcA W0 hR0h (fun j hj=>hB0.block j hj) ty _ _ dc rfl rfl;obtain⟨W1,hW1⟩: ∃W:World,W0.setRow w.heap.size R1.toArray=W:=⟨_,rfl⟩;rw[hW1]at hcA1;have hB1:Below w.heap.size w W1.drew:=hW1▸Below.drew (Nu hB0 (Nat.le_refl _) _);have hR1h:W1.drew.heap[w.heap.size]? =some (.cells R1.toArray 24 (0,0)):=hW1▸setRow_heap W0 _ _ _ _ _ hR0h;have hcB1:=fun ty dc sc=>hcB W1.drew hR1h (fun j hj=>hB1.block j hj) ty _ _ _ dc _ sc rfl rfl rfl rfl;have HPf:=qz (hP (W1.drew.setRow w.heap.size R2.toArray) (Nu hB1 (Nat.le_refl _) _) (setRow_heap W1.drew _ _ _ _ _ hR1h));simp only[Nat.mul_one]at hcA1 hcB1;clear hcA hcB hP hold hRes hR2 hR1 hR0 hROW hMM hZZ hMl hZl hxc hcl hx hg hvs h1 h1x hi0 hz0 hzs hzb hRl hR1l hR2l hG hsz hkk hik hxl hcs hG63 hB0 hR0h hB1 hR1h hW1;go_enter Tryz.func102,Tryz.ntmps102;go_wp2_with (at_builtin;refine Lib.wpList_append_run _ rfl _ _ _ _ rfl _ _ rfl rfl _ _ (hrz _) ?_);refine wp_region_held_drew (S:=fun _=>True) (by kernel_rfl) trivial (fun hHeld=> ?_);refine tkH 0 hHeld ?_;refine tkH 1 hHeld ?_;refine tkH 2 hHeld ?_;refine tkH 3 hHeld ?_;refine tkH 4 hHeld ?_;refine tkH 5 hHeld ?_;refine tkH 6 hHeld ?_;refine tkH 7 hHeld ?_;refine Ee 8 fun K hK=> ?_;go_simp;refine hK.out _ _ trivial (fun hHeld=> ?_);clear hK K;refine wpAnyH_done (by kernel_rfl) ?_ _;clear hHeld;go_wp2;go_ret;exact HPf.out
theorem Ah1 (b:Nat) (w:World) (g n cap i:Nat) (cur:Array Value) (xs:List Value) (hbg:b<=g) (hg:w.heap[g]? =some (.cells cur 24 (0,0))) (hcs:cur.size=cap*1) (hx:cur.toList.take (n*1)=xs) (hi:i<n) (hnc:n+1<=cap) (hcm:cap<=maxLen) (hn:n<=1000) (h1x: ∀u ∈ xs,u.oneCell'=true)
 (vb:Nat) (y:Value) (hvb:Aj w vb 24 #[y]) (hne:vb≠g) (h1:y.oneCell'=true):
 Calls Tryz.prog 102 #[.slice (some ⟨g,0,none⟩) n cap,.int .i64 i,.slice (some ⟨vb,0,none⟩) 1 1] w fun e w'=> ∃V',e=.returned V'/\w'.ownsRow b 24 1 V' (n+1) (xs.take i++ [y]++xs.drop i)/\w.grownBy w' (some g)/\V'.ownBlock=some g:=by
 obtain⟨i0,hi0,hz0,hzs,hzb⟩:=info_parts Agk;have hxl:xs.length=n:=by rw[<-hx,List.length_take,Array.length_toList,hcs];omega
 have hsz:(Tryz.prog.info? 24).map (·.size)=some 1:=by rw[hi0];simp[hzs]
 have hz2: ¬((i:Int)=(n:Int)):=by omega
 have hcl:cur.toList=xs.take i++xs.drop i++cur.toList.drop n:=by rw[List.take_append_drop,<-hx,Nat.mul_one,List.take_append_drop]
 have hxc: ∀(W:World),W.heap[g]? =w.heap[g]? -> ∀j u,xs[j]? =some u->W.cell? ⟨g,j,none⟩=some u:=fun W hW j u hu=>by
  refine(cell_of_row _ _ _ _ _ _ (hW.trans hg)).trans ?_;rw[<-Array.getElem?_toList];rw[<-hx,List.getElem?_take]at hu
  split at hu
  . exact hu
  . cases hu
 have hov: ∀lb cb,(callFunc 167 #[.slice (some ⟨vb,0,none⟩) 1 1,.slice (some ⟨g,i+1,none⟩) lb cb]).run Tryz.prog w=.ok (.value (.bool false)) w:=fun lb cb=>by
  rw[run_callFunc_extern Tryz.func167 (by kernel_rfl) (by kernel_rfl) (by kernel_rfl) (e:=Extern.SlicesOverlaps.overlaps #[108,108] #[4]) (by kernel_rfl),
   Lib.run_overlaps_apart w 108 4 24 Tryz.underlying108 1 (fun _=>by kernel_rfl) ⟨vb,0,none⟩ ⟨g,i+1,none⟩ 1 1 lb cb hne 24 24 1 cap (by simp[World.shape?,show w.heap[vb]? =_ from hvb]) (by simp[World.shape?,hg,hcs]) (by omega) (hvb.frozen 0) (hvb.frozen 1)]
  rfl
 obtain⟨R1,hR1⟩: ∃R:List Value,cur.toList.take (i+1)++xs.drop i++cur.toList.drop (i+1+(xs.drop i).length)=R:=⟨_,rfl⟩;obtain⟨R2,hR2⟩: ∃R:List Value,R1.take i++ [y]++R1.drop (i+1)=R:=⟨_,rfl⟩;have hcl1:cur.toList.length=cap:=by rw[Array.length_toList,hcs,Nat.mul_one]
 have hR1l:R1.length=cap:=by rw[<-hR1,List.length_append,List.length_append,List.length_take,List.length_drop,List.length_drop,hcl1,hxl];omega
 have hRes:R2.take (n+1)=xs.take i++ [y]++xs.drop i:=by
  have e1:R1.take i=xs.take i:=by
   rw[<-hR1,List.append_assoc,List.take_append_of_le_length (by rw[List.length_take,hcl1];omega),List.take_take,Nat.min_eq_left (by omega),<-hx,List.take_take,Nat.min_eq_left (by omega)]
  have e2:R1.drop (i+1)=xs.drop i++cur.toList.drop (i+1+(xs.drop i).length):=by
   rw[<-hR1,List.append_assoc,List.drop_left'];rw[List.length_take,hcl1];omega
  rw[<-hR2,e1,e2,<-List.append_assoc,List.take_left'];rw[List.length_append,List.length_append,List.length_take,List.length_drop,hxl];simp;omega
 have hR2l:R2.length=cap:=by rw[<-hR2,List.length_append,List.length_append,List.length_take,List.length_drop,hR1l];simp;omega
 have hgw:g<w.heap.size:=(Array.getElem?_eq_some_iff.1 hg).1;have hcA1: ∀ty dc sc,(Builtin.copy_ #[108,108] ty #[.slice (some ⟨g,i+1,none⟩) (n - i) dc,.slice (some ⟨g,i,none⟩) (n+1 - i) sc]).run Tryz.prog w.drew=.ok (goInt (n - i:Nat)) (w.drew.setRow g R1.toArray):=fun ty dc sc=>by
  have hmin:Nat.min (n+1 - i) (n - i)=n - i:=Nat.min_eq_right (by omega);have:=Fc (P:=Tryz.prog) w.drew 108 108 ty 24 1 g (i+1) (n - i) dc ⟨g,i,none⟩ (n+1 - i) sc cur 24 (xs.drop i) Tryz.underlying108 hsz hg (by rw[List.length_drop,hxl,hmin];omega) (fun j v hj=>by rw[Bn];exact hxc w.drew rfl _ v (by rwa [List.getElem?_drop]at hj)) (by rw[List.length_drop,hxl,hcs];omega) (fun v hv=>h1x v (List.mem_of_mem_drop hv));rw[hmin]at this;refine this.trans ?_;rw[<-hR1]
 have hB0:w.grownBy w.drew (some g):=Jc (Below.drew (Below.refl _ _));obtain⟨W1,hW1⟩: ∃W:World,w.drew.setRow g R1.toArray=W:=⟨_,rfl⟩;rw[hW1]at hcA1;have hB1:w.grownBy W1 (some g):=hW1▸Rw hB0 (Xb _);have hR1h:W1.heap[g]? =some (.cells R1.toArray 24 (0,0)):=hW1▸setRow_heap w.drew _ _ _ _ _ hg;have hcB1: ∀ty dl dc,dl=n+1 - i->(Builtin.copy_ #[108,108] ty #[.slice (some ⟨g,i,none⟩) dl dc,.slice (some ⟨vb,0,none⟩) 1 1]).run Tryz.prog W1=.ok (goInt (1:Nat)) (W1.setRow g R2.toArray):=fun ty dl dc hd=>by
  subst hd;have hmin:Nat.min 1 (n+1 - i)=1:=by show min 1 (n+1 - i)=1;omega
  have:=Fc (P:=Tryz.prog) W1 108 108 ty 24 1 g i (n+1 - i) dc ⟨vb,0,none⟩ 1 1 R1.toArray 24 [y] Tryz.underlying108 hsz hR1h (by rw[hmin];rfl) (fun j v hj=>by
   rw[Bn,Nat.zero_add];refine(World.cell?_of_block (hB1.block vb hvb.lt (fun e=>hne (Option.some.inj e)))).trans ((hvb.cell j).trans ?_);simpa using hj) (by simp[hR1l];omega) (by simpa using h1)
  rw[hmin]at this;refine this.trans ?_;rw[<-hR2];rfl
 have hPf: ∃V',Ending.returned (.slice (some ⟨g,0,none⟩) (n+1) cap)=.returned V'/\(W1.setRow g R2.toArray).ownsRow b 24 1 V' (n+1) (xs.take i++ [y]++xs.drop i)/\w.grownBy (W1.setRow g R2.toArray) (some g)/\V'.ownBlock=some g:=
  ⟨_,rfl,Pc hbg (setRow_heap W1 _ _ _ _ _ hR1h) hnc hcm (by simpa using hR2l) (by simpa using hRes),Rw hB1 (Xb _),rfl⟩
 have hcm':cap<=9223372036854775807:=by simp only[maxLen]at hcm;omega
 have hw1:IntKind.i64.wrap ((i:Int)+1)=(i:Int)+1:=by rw[IntKind.wrap_i64];omega
 have hb1:(0:Int)<=(i:Int)+1:=by omega
 have hin:i<=n:=by omega
 have htn:((i:Int)+1).toNat=i+1:=by omega
 have hb2: ¬(cap=i+1):=by omega
 have hb3:(i:Int)<=(n:Int)+1:=by omega
 have hb4: ¬(cap=i):=by omega
 have hb5: ¬((cap:Int)<(n:Int)+1):=by omega
 have hsub:n+1 - (i+1)=n - i:=by omega
 have hcB2:=fun ty dc=>hcB1 ty _ dc rfl;have HPf:=qz hPf;clear hPf;clear hcB1 hxc hcl hR1 hR2 hcl1 hR1l hRes hR2l hx hcs hg h1x h1 hi0 hz0 hzs hzb hsz hxl hB0 hW1 hB1 hR1h hcm hvb;go_enter Tryz.func102,Tryz.ntmps102;go_wp2_with (simp only[hov]);refine wp_region_held_drew (S:=fun _=>True) (by kernel_rfl) trivial (fun hHeld=> ?_);refine tkH 0 hHeld ?_;refine tkH 1 hHeld ?_;refine tkH 2 hHeld ?_;refine tkH 3 hHeld ?_;refine tkH 4 hHeld ?_;refine tkH 5 hHeld ?_;refine tkH 6 hHeld ?_;refine tkH 7 hHeld ?_;refine Ee 8 fun K hK=> ?_;go_simp;refine hK.out _ _ trivial (fun hHeld=> ?_);clear hK K;refine wpAnyH_done (by kernel_rfl) ?_ _;clear hHeld;go_wp2;go_ret;exact HPf.out
end Go.Proofs.YtkmcjfkokoidcaaGreatDoor
