/- Parts: Slices of the call's own, whatever their elements' size: a copy into one; one made. Plain. No condition. -/
import Derived.Lib.ValidU
import Derived.Laws.IdiomStrings
import Derived.Laws.CopyRow
import Derived.Test.YtkmcjfkokoidcaaGreatDoorKFa4
import Derived.Test.YtkmcjfkokoidcaaGreatDoorKFa5
set_option maxHeartbeats 20000000
namespace Go.Proofs.YtkmcjfkokoidcaaGreatDoor
open Go.RowKit
def C6:List UInt8->Nat->Int->Option Int
 |_,0,r=>some r
 | [],_+1,_=>none
 |d::l,n+1,r=>if(d.toNat:Int)<128\/192<=(d.toNat:Int)then none else C6 l n (64*r+d.toNat - 128)
def Dq (F:Option Int) (n:Nat) (least:Int):Int×Int:=
 match F with
 |none=>(0,0)
 |some r=>if r<least\/1114111<r\/(55296<=r/\r<57344)then(0,0)else(r,n)
def Ci (rest:List UInt8) (n:Nat) (r0 least:Int):Int×Int:=
 if rest.length+1<n then(0,0)else Dq (C6 rest (n - 1) r0) n least
def Gk:List UInt8->Int×Int
 | []=>(0,0)
 |c::rest=>
  if(c.toNat:Int)<128 then(c.toNat,1)
  else if 192<=(c.toNat:Int)/\(c.toNat:Int)<224 then Ci rest 2 (c.toNat - 192) 128
  else if 224<=(c.toNat:Int)/\(c.toNat:Int)<240 then Ci rest 3 (c.toNat - 224) 2048
  else if 240<=(c.toNat:Int)/\(c.toNat:Int)<248 then Ci rest 4 (c.toNat - 240) 65536
  else(0,0)
theorem Nx (s:ByteArray) (a:Nat) (h:a<s.size):s.data.toList.drop a=s[a]::s.data.toList.drop (a+1):=by
 rw[List.drop_eq_getElem_cons (by rw[<-Lib.size_eq];exact h)];rfl
theorem Ce (d:UInt8) (l:List UInt8) (n:Nat) (r:Int):C6 (d::l) (n+1) r=if(d.toNat:Int)<128\/192<=(d.toNat:Int)then none else C6 l n (64*r+d.toNat - 128):=rfl
theorem Gs (c:UInt8) (rest:List UInt8):Gk (c::rest)=
 (if(c.toNat:Int)<128 then((c.toNat:Int),(1:Int))
 else if 192<=(c.toNat:Int)/\(c.toNat:Int)<224 then Ci rest 2 (c.toNat - 192) 128
 else if 224<=(c.toNat:Int)/\(c.toNat:Int)<240 then Ci rest 3 (c.toNat - 224) 2048
 else if 240<=(c.toNat:Int)/\(c.toNat:Int)<248 then Ci rest 4 (c.toNat - 240) 65536
 else(0,0)):=rfl
set_option maxRecDepth 1000000 in
theorem Ano (s:ByteArray) (a:Nat) (w:World) (hs:s.size<=4611686018427387904) (h:a<s.size) (x:UInt8) (hx:s[a]=x) (h1:192<=(x.toNat:Int)) (h2:(x.toNat:Int)<224) (h3:a+2<=s.size):
 Calls Tryz.prog 182 #[.string s,.int .i64 a] w fun e w'=>e=.returned (.tuple #[.int .i64 (Ci (s.data.toList.drop (a+1)) 2 (x.toNat - 192) 128).1,.int .i64 (Ci (s.data.toList.drop (a+1)) 2 (x.toNat - 192) 128).2])/\w=w':=by
 have hlen: ¬(s.data.toList.drop (a+1)).length+1<2:=by
  rw[List.length_drop,<-Lib.size_eq];omega
 obtain⟨F,hF⟩: ∃F,C6 (s.data.toList.drop (a+1)) (2 - 1) (x.toNat - 192)=F:=⟨_,rfl⟩;have hat:Ci (s.data.toList.drop (a+1)) 2 (x.toNat - 192) 128=Dq F 2 128:=by
  unfold Ci Dq;rw[if_neg hlen,hF]
 rw[hat];have H0:=qz hF;clear hat hlen hF;have e1:decide (s.size<=a)=false:=by simp;omega
 have e2:decide ((x.toNat:Int)<128)=false:=by simp;omega
 have e3:(a:Int)+2<=(s.size:Int):=by omega
 go_enter Tryz.func182,Tryz.ntmps182;go_wp2
 go_loop [8,10] (fun r i=> ∃k:Nat,∃rr:Int,1<=k/\k<=2/\i=.int .i64 k/\r=.int .i64 rr/\0<=rr/\(k<=1->rr<=31)/\(k<=2->rr<=2047)/\(k<=3->rr<=131071)/\rr<=8388607/\Hid (C6 (s.data.toList.drop (a+k)) (2 - k) rr=F)) (fun _ i=>2 - (intOf i).toNat)
 case atStart=>exact⟨1,(x.toNat:Int) - 192,by omega,by omega,rfl,rfl,by omega,by omega,by omega,by omega,by omega,H0⟩
 case round=>
  obtain⟨k,rr,hk1,hk2,rfl,rfl,hr0,hr1,hr2,hr3,hr4,hf⟩:=hrel;clear H0;by_cases hlt:k<2
  . obtain rfl:k=1:=by omega
    have hak:a+1<s.size:=by omega
    obtain⟨y,hy⟩: ∃y,s[a+1]=y:=⟨_,rfl⟩;have hyl:(y.toNat:Int)<256:=by have:=y.toNat_lt;omega
    have hf':=hf.out;rw[Nx s (a+1) hak,hy,show 2 - 1=(2 - (1+1))+1 from by omega]at hf';rw[Ce]at hf';by_cases hc:(y.toNat:Int)<128\/192<=(y.toNat:Int)
    . rw[if_pos hc]at hf';subst hf';clear hf;rcases hc with hc|hc
      all_goals
       go_wp2
       all_goals go_ret2
       all_goals exact⟨rfl,rfl⟩
    . rw[if_neg hc]at hf';have Hf:=qz hf';clear hf hf';have hc1:128<=(y.toNat:Int):=by omega
      have hc2:(y.toNat:Int)<192:=by omega
      clear hc;go_wp2
      go_round
      case rel=>exact⟨1+1,64*rr+y.toNat - 128,by omega,by omega,by go_num,rfl,by omega,by omega,by omega,by omega,by omega,Hf⟩
      case measure=>first|(simp[intOf];done)|(simp[intOf];omega)
  . obtain rfl:k=2:=by omega
    have hf':=hf.out;rw[Nat.sub_self]at hf';rw[show C6 (s.data.toList.drop (a+2)) 0 rr=some rr from by cases (s.data.toList.drop (a+2))<;>rfl]at hf';subst hf';clear hf;by_cases hbad:rr<128\/1114111<rr\/(55296<=rr/\rr<57344)
    . have hv:Dq (some rr) 2 128=(0,0):=by unfold Dq;simp only;rw[if_pos hbad]
      have Hv:=qz hv;clear hv;have hb:(rr<128)\/(¬rr<128/\1114111<rr)\/(¬rr<128/\ ¬1114111<rr/\55296<=rr/\rr<57344):=by omega
      clear hbad;rcases hb with b1|⟨b1,b2⟩|⟨b1,b2,b3,b4⟩
      all_goals
       go_wp2
       all_goals go_ret2
       all_goals exact⟨by rw[Hv.out];rfl,rfl⟩
    . have hv:Dq (some rr) 2 128=(rr,2):=by unfold Dq;simp only;rw[if_neg hbad];rfl
      have Hv:=qz hv;clear hv;have hb:(¬rr<128/\ ¬1114111<rr/\rr<55296)\/(¬rr<128/\ ¬1114111<rr/\55296<=rr/\ ¬rr<57344):=by omega
      clear hbad;rcases hb with⟨b1,b2,b3⟩|⟨b1,b2,b3,b4⟩
      all_goals
       go_wp2
       all_goals go_ret2
       all_goals exact⟨by rw[Hv.out];rfl,rfl⟩
set_option maxRecDepth 1000000 in
theorem Ajb (s:ByteArray) (a:Nat) (w:World) (hs:s.size<=4611686018427387904) (h:a<s.size) (x:UInt8) (hx:s[a]=x) (h1:224<=(x.toNat:Int)) (h2:(x.toNat:Int)<240) (h3:a+3<=s.size):
 Calls Tryz.prog 182 #[.string s,.int .i64 a] w fun e w'=>e=.returned (.tuple #[.int .i64 (Ci (s.data.toList.drop (a+1)) 3 (x.toNat - 224) 2048).1,.int .i64 (Ci (s.data.toList.drop (a+1)) 3 (x.toNat - 224) 2048).2])/\w=w':=by
 have hlen: ¬(s.data.toList.drop (a+1)).length+1<3:=by
  rw[List.length_drop,<-Lib.size_eq];omega
 obtain⟨F,hF⟩: ∃F,C6 (s.data.toList.drop (a+1)) (3 - 1) (x.toNat - 224)=F:=⟨_,rfl⟩;have hat:Ci (s.data.toList.drop (a+1)) 3 (x.toNat - 224) 2048=Dq F 3 2048:=by
  unfold Ci Dq;rw[if_neg hlen,hF]
 rw[hat];have H0:=qz hF;clear hat hlen hF;have e1:decide (s.size<=a)=false:=by simp;omega
 have e2:decide ((x.toNat:Int)<128)=false:=by simp;omega
 have e3:(a:Int)+3<=(s.size:Int):=by omega
 go_enter Tryz.func182,Tryz.ntmps182;go_wp2
 go_loop [8,10] (fun r i=> ∃k:Nat,∃rr:Int,1<=k/\k<=3/\i=.int .i64 k/\r=.int .i64 rr/\0<=rr/\(k<=1->rr<=31)/\(k<=2->rr<=2047)/\(k<=3->rr<=131071)/\rr<=8388607/\Hid (C6 (s.data.toList.drop (a+k)) (3 - k) rr=F)) (fun _ i=>3 - (intOf i).toNat)
 case atStart=>exact⟨1,(x.toNat:Int) - 224,by omega,by omega,rfl,rfl,by omega,by omega,by omega,by omega,by omega,H0⟩
 case round=>
  obtain⟨k,rr,hk1,hk2,rfl,rfl,hr0,hr1,hr2,hr3,hr4,hf⟩:=hrel;clear H0;by_cases hlt:k<3
  . have hak:a+k<s.size:=by omega
    obtain⟨y,hy⟩: ∃y,s[a+k]=y:=⟨_,rfl⟩;have hyl:(y.toNat:Int)<256:=by have:=y.toNat_lt;omega
    have hf':=hf.out;rw[Nx s (a+k) hak,hy,show 3 - k=(3 - (k+1))+1 from by omega]at hf';rw[Ce]at hf';by_cases hc:(y.toNat:Int)<128\/192<=(y.toNat:Int)
    . rw[if_pos hc]at hf';subst hf';clear hf;rcases hc with hc|hc
      all_goals
       go_wp2
       all_goals go_ret2
       all_goals exact⟨rfl,rfl⟩
    . rw[if_neg hc]at hf';have Hf:=qz hf';clear hf hf';have hc1:128<=(y.toNat:Int):=by omega
      have hc2:(y.toNat:Int)<192:=by omega
      clear hc;go_wp2
      go_round
      case rel=>exact⟨k+1,64*rr+y.toNat - 128,by omega,by omega,by go_num,rfl,by omega,by omega,by omega,by omega,by omega,Hf⟩
      case measure=>first|(simp[intOf];done)|(simp[intOf];omega)
  . obtain rfl:k=3:=by omega
    have hf':=hf.out;rw[Nat.sub_self]at hf';rw[show C6 (s.data.toList.drop (a+3)) 0 rr=some rr from by cases (s.data.toList.drop (a+3))<;>rfl]at hf';subst hf';clear hf;by_cases hbad:rr<2048\/1114111<rr\/(55296<=rr/\rr<57344)
    . have hv:Dq (some rr) 3 2048=(0,0):=by unfold Dq;simp only;rw[if_pos hbad]
      have Hv:=qz hv;clear hv;have hb:(rr<2048)\/(¬rr<2048/\1114111<rr)\/(¬rr<2048/\ ¬1114111<rr/\55296<=rr/\rr<57344):=by omega
      clear hbad;rcases hb with b1|⟨b1,b2⟩|⟨b1,b2,b3,b4⟩
      all_goals
       go_wp2
       all_goals go_ret2
       all_goals exact⟨by rw[Hv.out];rfl,rfl⟩
    . have hv:Dq (some rr) 3 2048=(rr,3):=by unfold Dq;simp only;rw[if_neg hbad];rfl
      have Hv:=qz hv;clear hv;have hb:(¬rr<2048/\ ¬1114111<rr/\rr<55296)\/(¬rr<2048/\ ¬1114111<rr/\55296<=rr/\ ¬rr<57344):=by omega
      clear hbad;rcases hb with⟨b1,b2,b3⟩|⟨b1,b2,b3,b4⟩
      all_goals
       go_wp2
       all_goals go_ret2
       all_goals exact⟨by rw[Hv.out];rfl,rfl⟩
set_option maxRecDepth 1000000 in
theorem Al4 (s:ByteArray) (a:Nat) (w:World) (hs:s.size<=4611686018427387904) (h:a<s.size) (x:UInt8) (hx:s[a]=x) (h1:240<=(x.toNat:Int)) (h2:(x.toNat:Int)<248) (h3:a+4<=s.size):
 Calls Tryz.prog 182 #[.string s,.int .i64 a] w fun e w'=>e=.returned (.tuple #[.int .i64 (Ci (s.data.toList.drop (a+1)) 4 (x.toNat - 240) 65536).1,.int .i64 (Ci (s.data.toList.drop (a+1)) 4 (x.toNat - 240) 65536).2])/\w=w':=by
 have hlen: ¬(s.data.toList.drop (a+1)).length+1<4:=by
  rw[List.length_drop,<-Lib.size_eq];omega
 obtain⟨F,hF⟩: ∃F,C6 (s.data.toList.drop (a+1)) (4 - 1) (x.toNat - 240)=F:=⟨_,rfl⟩;have hat:Ci (s.data.toList.drop (a+1)) 4 (x.toNat - 240) 65536=Dq F 4 65536:=by
  unfold Ci Dq;rw[if_neg hlen,hF]
 rw[hat];have H0:=qz hF;clear hat hlen hF;have e1:decide (s.size<=a)=false:=by simp;omega
 have e2:decide ((x.toNat:Int)<128)=false:=by simp;omega
 have e3:(a:Int)+4<=(s.size:Int):=by omega
 go_enter Tryz.func182,Tryz.ntmps182;go_wp2
 go_loop [8,10] (fun r i=> ∃k:Nat,∃rr:Int,1<=k/\k<=4/\i=.int .i64 k/\r=.int .i64 rr/\0<=rr/\(k<=1->rr<=31)/\(k<=2->rr<=2047)/\(k<=3->rr<=131071)/\rr<=8388607/\Hid (C6 (s.data.toList.drop (a+k)) (4 - k) rr=F)) (fun _ i=>4 - (intOf i).toNat)
 case atStart=>exact⟨1,(x.toNat:Int) - 240,by omega,by omega,rfl,rfl,by omega,by omega,by omega,by omega,by omega,H0⟩
 case round=>
  obtain⟨k,rr,hk1,hk2,rfl,rfl,hr0,hr1,hr2,hr3,hr4,hf⟩:=hrel;clear H0;by_cases hlt:k<4
  . have hak:a+k<s.size:=by omega
    obtain⟨y,hy⟩: ∃y,s[a+k]=y:=⟨_,rfl⟩;have hyl:(y.toNat:Int)<256:=by have:=y.toNat_lt;omega
    have hf':=hf.out;rw[Nx s (a+k) hak,hy,show 4 - k=(4 - (k+1))+1 from by omega]at hf';rw[Ce]at hf';by_cases hc:(y.toNat:Int)<128\/192<=(y.toNat:Int)
    . rw[if_pos hc]at hf';subst hf';clear hf;rcases hc with hc|hc
      all_goals
       go_wp2
       all_goals go_ret2
       all_goals exact⟨rfl,rfl⟩
    . rw[if_neg hc]at hf';have Hf:=qz hf';clear hf hf';have hc1:128<=(y.toNat:Int):=by omega
      have hc2:(y.toNat:Int)<192:=by omega
      clear hc;go_wp2
      go_round
      case rel=>exact⟨k+1,64*rr+y.toNat - 128,by omega,by omega,by go_num,rfl,by omega,by omega,by omega,by omega,by omega,Hf⟩
      case measure=>first|(simp[intOf];done)|(simp[intOf];omega)
  . obtain rfl:k=4:=by omega
    have hf':=hf.out;rw[Nat.sub_self]at hf';rw[show C6 (s.data.toList.drop (a+4)) 0 rr=some rr from by cases (s.data.toList.drop (a+4))<;>rfl]at hf';subst hf';clear hf;by_cases hbad:rr<65536\/1114111<rr\/(55296<=rr/\rr<57344)
    . have hv:Dq (some rr) 4 65536=(0,0):=by unfold Dq;simp only;rw[if_pos hbad]
      have Hv:=qz hv;clear hv;have hb:(rr<65536)\/(¬rr<65536/\1114111<rr)\/(¬rr<65536/\ ¬1114111<rr/\55296<=rr/\rr<57344):=by omega
      clear hbad;rcases hb with b1|⟨b1,b2⟩|⟨b1,b2,b3,b4⟩
      all_goals
       go_wp2
       all_goals go_ret2
       all_goals exact⟨by rw[Hv.out];rfl,rfl⟩
    . have hv:Dq (some rr) 4 65536=(rr,4):=by unfold Dq;simp only;rw[if_neg hbad];rfl
      have Hv:=qz hv;clear hv;have hb:(¬rr<65536/\ ¬1114111<rr/\rr<55296)\/(¬rr<65536/\ ¬1114111<rr/\55296<=rr/\ ¬rr<57344):=by omega
      clear hbad;rcases hb with⟨b1,b2,b3⟩|⟨b1,b2,b3,b4⟩
      all_goals
       go_wp2
       all_goals go_ret2
       all_goals exact⟨by rw[Hv.out];rfl,rfl⟩
set_option maxRecDepth 1000000 in
theorem Al5 (s:ByteArray) (a:Nat) (w:World) (_hs:s.size<=4611686018427387904) (_ha:a<=4611686018427387904) (h:s.size<=a):
 Calls Tryz.prog 182 #[.string s,.int .i64 a] w fun e w'=>e=.returned (.tuple #[.int .i64 0,.int .i64 0])/\w=w':=by
 have e1:(s.size:Int)<=a:=by omega
 have e2:decide (s.size<=a)=true:=by simpa using h
 go_enter Tryz.func182,Tryz.ntmps182;go_wp2
 all_goals go_ret2
 all_goals exact⟨rfl,rfl⟩
set_option maxRecDepth 1000000 in
theorem Ann (s:ByteArray) (a:Nat) (w:World) (_hs:s.size<=4611686018427387904) (h:a<s.size) (x:UInt8) (hx:s[a]=x) (h1:(x.toNat:Int)<128):
 Calls Tryz.prog 182 #[.string s,.int .i64 a] w fun e w'=>e=.returned (.tuple #[.int .i64 x.toNat,.int .i64 1])/\w=w':=by
 go_enter Tryz.func182,Tryz.ntmps182;go_wp2
 all_goals go_ret2
 all_goals exact⟨rfl,rfl⟩
set_option maxRecDepth 1000000 in
theorem Yi (s:ByteArray) (a:Nat) (w:World) (hs:s.size<=4611686018427387904) (h:a<s.size) (x:UInt8) (hx:s[a]=x) (h0:128<=(x.toNat:Int))
 (h1:(x.toNat:Int)<192\/248<=(x.toNat:Int)\/(192<=(x.toNat:Int)/\(x.toNat:Int)<224/\s.size<a+2)\/(224<=(x.toNat:Int)/\(x.toNat:Int)<240/\s.size<a+3)\/(240<=(x.toNat:Int)/\(x.toNat:Int)<248/\s.size<a+4)):
 Calls Tryz.prog 182 #[.string s,.int .i64 a] w fun e w'=>e=.returned (.tuple #[.int .i64 0,.int .i64 0])/\w=w':=by
 have hxl:(x.toNat:Int)<256:=by have:=x.toNat_lt;omega
 rcases h1 with h1|h1|⟨h1,h2,h3⟩|⟨h1,h2,h3⟩|⟨h1,h2,h3⟩
 . go_enter Tryz.func182,Tryz.ntmps182;go_wp2
   all_goals go_ret2
   all_goals exact⟨rfl,rfl⟩
 . have g1:192<=(x.toNat:Int):=by omega
   have g2: ¬((x.toNat:Int)<224):=by omega
   have g3:224<=(x.toNat:Int):=by omega
   have g4: ¬((x.toNat:Int)<240):=by omega
   have g5:240<=(x.toNat:Int):=by omega
   have g6: ¬((x.toNat:Int)<248):=by omega
   go_enter Tryz.func182,Tryz.ntmps182;go_wp2
   all_goals go_ret2
   all_goals exact⟨rfl,rfl⟩
 . have h4:(s.size:Int)<(a:Int)+2:=by omega
   go_enter Tryz.func182,Tryz.ntmps182;go_wp2
   all_goals go_ret2
   all_goals exact⟨rfl,rfl⟩
 . have h4:(s.size:Int)<(a:Int)+3:=by omega
   go_enter Tryz.func182,Tryz.ntmps182;go_wp2
   all_goals go_ret2
   all_goals exact⟨rfl,rfl⟩
 . have h4:(s.size:Int)<(a:Int)+4:=by omega
   go_enter Tryz.func182,Tryz.ntmps182;go_wp2
   all_goals go_ret2
   all_goals exact⟨rfl,rfl⟩
theorem Aak (s:ByteArray) (a:Nat) (w:World) (hs:s.size<=4611686018427387904) (ha:a<=4611686018427387904):
 Calls Tryz.prog 182 #[.string s,.int .i64 a] w fun e w'=>e=.returned (.tuple #[.int .i64 (Gk (s.data.toList.drop a)).1,.int .i64 (Gk (s.data.toList.drop a)).2])/\w=w':=by
 by_cases h:a<s.size
 . rw[Nx s a h];obtain⟨x,hx⟩: ∃x,s[a]=x:=⟨_,rfl⟩;rw[hx];have hl:(s.data.toList.drop (a+1)).length=s.size - (a+1):=by rw[List.length_drop,<-Lib.size_eq]
   have hxl:=x.toNat_lt;rw[Gs];by_cases h1:(x.toNat:Int)<128
   . rw[if_pos h1];exact Ann s a w hs h x hx h1
   rw[if_neg h1];by_cases h2:192<=(x.toNat:Int)/\(x.toNat:Int)<224
   . rw[if_pos h2];by_cases h3:a+2<=s.size
     . exact Ano s a w hs h x hx h2.1 h2.2 h3
     . unfold Ci;rw[if_pos (by omega)];exact Yi s a w hs h x hx (by omega) (by omega)
   rw[if_neg h2];by_cases h2:224<=(x.toNat:Int)/\(x.toNat:Int)<240
   . rw[if_pos h2];by_cases h3:a+3<=s.size
     . exact Ajb s a w hs h x hx h2.1 h2.2 h3
     . unfold Ci;rw[if_pos (by omega)];exact Yi s a w hs h x hx (by omega) (by omega)
   rw[if_neg h2];by_cases h2:240<=(x.toNat:Int)/\(x.toNat:Int)<248
   . rw[if_pos h2];by_cases h3:a+4<=s.size
     . exact Al4 s a w hs h x hx h2.1 h2.2 h3
     . unfold Ci;rw[if_pos (by omega)];exact Yi s a w hs h x hx (by omega) (by omega)
   rw[if_neg h2];exact Yi s a w hs h x hx (by omega) (by omega)
 . rw[List.drop_eq_nil_of_le (by rw[<-Lib.size_eq];omega)];exact Al5 s a w hs ha (by omega)
end Go.Proofs.YtkmcjfkokoidcaaGreatDoor
namespace Go.Proofs.YtkmcjfkokoidcaaGreatDoor
theorem An5 (l:List UInt8) (k:Nat):((ByteArray.mk l.toArray).get! k)=l.getD k 0:=by
 show l.toArray[k]! =l.getD k 0;rw[getElem!_def];simp only[List.getElem?_toArray,List.getD_eq_getElem?_getD]
 cases l[k]? <;>rfl
theorem Db (l:List UInt8):Lib.decodeL l=Lib.decodeN l.length (l.getD 0 0).toNat (l.getD 1 0).toNat (l.getD 2 0).toNat (l.getD 3 0).toNat:=by
 unfold Lib.decodeL;rw[Lib.decode_at];simp only[Nat.sub_zero,Nat.zero_add,An5];rfl
theorem E9 (l:List UInt8) (r:Int):C6 l 0 r=some r:=by cases l<;>rfl
def J7 (l:List UInt8):Prop:=
 Gk l=if(Lib.decodeL l).1=65533/\(Lib.decodeL l).2=1 then(0,0)else(((Lib.decodeL l).1:Int),((Lib.decodeL l).2:Int))
theorem Oa {a b c d:Int} (h:a=c) (k:b=d):(a,b)=(c,d):=by rw[h,k]
theorem Aau (a:UInt8):J7 [a]:=by
 unfold J7;rw[Db];have ha:=a.toNat_lt;simp only[Gs,Ci,List.length_nil,List.length_cons,List.getD_cons_zero,Nat.zero_add];generalize a.toNat=x at ha ⊢;unfold Lib.decodeN;simp only[Nat.lt_irrefl,false_and,and_false,if_false]
 repeat' split
 all_goals first|rfl|(exfalso;omega)|(simp_all;done)|(simp_all;omega)
theorem Aav (a b:UInt8):J7 [a,b]:=by
 unfold J7;rw[Db];have ha:=a.toNat_lt;have hb:=b.toNat_lt;simp only[Gs,Ci,List.length_nil,List.length_cons,List.getD_cons_zero,List.getD_cons_succ,Nat.zero_add,Nat.reduceAdd,Nat.reduceLT,if_false,if_true,Nat.reduceSub];rw[show C6 [b] 1 ((a.toNat:Int) - 192)=_ from Ce b [] 0 _,E9];generalize a.toNat=x at ha ⊢;generalize b.toNat=y at hb ⊢;unfold Lib.decodeN Dq;simp only[Nat.lt_irrefl,false_and,and_false,if_false]
 repeat' split
 all_goals first|rfl|(exfalso;omega)|(apply Oa<;>omega)|(simp_all;done)|(simp_all;omega)
theorem Aaw (a b c:UInt8):J7 [a,b,c]:=by
 unfold J7;rw[Db];have ha:=a.toNat_lt;have hb:=b.toNat_lt;have hc:=c.toNat_lt;simp only[Gs,Ci,List.length_nil,List.length_cons,List.getD_cons_zero,List.getD_cons_succ,Nat.zero_add,Nat.reduceAdd,Nat.reduceLT,if_false,if_true,Nat.reduceSub];rw[show C6 [b,c] 1 ((a.toNat:Int) - 192)=_ from Ce b [c] 0 _,E9,
  show C6 [b,c] 2 ((a.toNat:Int) - 224)=_ from Ce b [c] 1 _,show C6 [c] 1 (64*((a.toNat:Int) - 224)+b.toNat - 128)=_ from Ce c [] 0 _,E9]
 generalize a.toNat=x at ha ⊢;generalize b.toNat=y at hb ⊢;generalize c.toNat=z at hc ⊢;unfold Lib.decodeN Dq;simp only[Nat.lt_irrefl,false_and,and_false,if_false]
 repeat' split
 all_goals first|rfl|(exfalso;omega)|(apply Oa<;>omega)|(simp_all;done)|(simp_all;omega)
theorem Aax (a b c d:UInt8) (r:List UInt8):J7 (a::b::c::d::r):=by
 unfold J7;rw[Db];have ha:=a.toNat_lt;have hb:=b.toNat_lt;have hc:=c.toNat_lt;have hd:=d.toNat_lt;rw[Gs];have l2: ¬(b::c::d::r).length+1<2:=by simp
 have l3: ¬(b::c::d::r).length+1<3:=by simp
 have l4: ¬(b::c::d::r).length+1<4:=by simp
 have e2:Ci (b::c::d::r) 2 ((a.toNat:Int) - 192) 128=Dq (if(b.toNat:Int)<128\/192<=(b.toNat:Int)then none else some (64*((a.toNat:Int) - 192)+b.toNat - 128)) 2 128:=by
  unfold Ci;rw[if_neg l2,show(2 - 1:Nat)=0+1 from rfl,Ce,E9]
 have e3:Ci (b::c::d::r) 3 ((a.toNat:Int) - 224) 2048=Dq (if(b.toNat:Int)<128\/192<=(b.toNat:Int)then none else if(c.toNat:Int)<128\/192<=(c.toNat:Int)then none else some (64*(64*((a.toNat:Int) - 224)+b.toNat - 128)+c.toNat - 128)) 3 2048:=by
  unfold Ci;rw[if_neg l3,show(3 - 1:Nat)=1+1 from rfl,Ce,show(1:Nat)=0+1 from rfl,Ce,E9]
 have e4:Ci (b::c::d::r) 4 ((a.toNat:Int) - 240) 65536=Dq (if(b.toNat:Int)<128\/192<=(b.toNat:Int)then none else if(c.toNat:Int)<128\/192<=(c.toNat:Int)then none else if(d.toNat:Int)<128\/192<=(d.toNat:Int)then none else some (64*(64*(64*((a.toNat:Int) - 240)+b.toNat - 128)+c.toNat - 128)+d.toNat - 128)) 4 65536:=by
  unfold Ci;rw[if_neg l4,show(4 - 1:Nat)=2+1 from rfl,Ce,show(2:Nat)=1+1 from rfl,Ce,show(1:Nat)=0+1 from rfl,Ce,E9]
 rw[e2,e3,e4];clear e2 e3 e4 l2 l3 l4;have hl:3<(a::b::c::d::r).length:=by simp
 generalize (a::b::c::d::r).length=n at hl;simp only[List.getD_cons_zero,List.getD_cons_succ];generalize a.toNat=x at ha ⊢;generalize b.toNat=y at hb ⊢;generalize c.toNat=z at hc ⊢;generalize d.toNat=u at hd ⊢;unfold Lib.decodeN;by_cases b1:(y:Int)<128\/192<=(y:Int)
 . simp only[if_pos b1];unfold Dq
   repeat' split
   all_goals first|rfl|(exfalso;omega)|(apply Oa<;>omega)|(simp_all;done)|(simp_all;omega)
 simp only[if_neg b1];by_cases b2:(z:Int)<128\/192<=(z:Int)
 . simp only[if_pos b2];unfold Dq
   repeat' split
   all_goals first|rfl|(exfalso;omega)|(apply Oa<;>omega)|(simp_all;done)|(simp_all;omega)
 simp only[if_neg b2];by_cases b3:(u:Int)<128\/192<=(u:Int)
 . simp only[if_pos b3];unfold Dq
   repeat' split
   all_goals first|rfl|(exfalso;omega)|(apply Oa<;>omega)|(simp_all;done)|(simp_all;omega)
 simp only[if_neg b3];unfold Dq
 repeat' split
 all_goals first|rfl|(exfalso;omega)|(apply Oa<;>omega)|(simp_all;done)|(simp_all;omega)
theorem Oz (l:List UInt8) (h:l≠ []):J7 l:=
 match l,h with
 | [a],_=>Aau a
 | [a,b],_=>Aav a b
 | [a,b,c],_=>Aaw a b c
 |a::b::c::d::r,_=>Aax a b c d r
end Go.Proofs.YtkmcjfkokoidcaaGreatDoor
namespace Go.Proofs.YtkmcjfkokoidcaaGreatDoor
open Go.RowKit
theorem Ow: ∀(n m:Nat) (l:List UInt8),l.length<=n->l.length<=m->Lib.validGoD n l=Lib.validGoD m l
 |0,m,l,hn,hm=>by
  obtain rfl:l= []:=List.eq_nil_of_length_eq_zero (by omega)
  cases m<;>simp[Lib.validGoD]
 |n+1,0,l,hn,hm=>by
  obtain rfl:l= []:=List.eq_nil_of_length_eq_zero (by omega);simp[Lib.validGoD]
 |n+1,m+1,l,hn,hm=>by
  simp only[Lib.validGoD];by_cases h:l= []
  . simp[h]
  . rw[if_neg h,if_neg h]
    split
    . rfl
    . have hw:=Lib.decodeL_width l;have hl:0<l.length:=List.length_pos_iff.2 h;exact Ow n m _ (by rw[List.length_drop];omega) (by rw[List.length_drop];omega)
theorem Kx {l:List UInt8} (h:l≠ []):Lib.validD l=if(Lib.decodeL l).1=65533/\(Lib.decodeL l).2=1 then false else Lib.validD (l.drop (Lib.decodeL l).2):=by
 have hw:=Lib.decodeL_width l;have hl:0<l.length:=List.length_pos_iff.2 h;unfold Lib.validD;obtain⟨n,hn⟩: ∃n,l.length=n+1:=⟨l.length - 1,by omega⟩;rw[hn];simp only[Lib.validGoD];rw[if_neg h]
 split
 . rfl
 . exact Ow _ _ _ (by rw[List.length_drop];omega) (Nat.le_refl _)
theorem Ai5 {l:List UInt8} (h:l≠ []):((Gk l).2=0/\Lib.validD l=false)\/(∃n:Nat,(Gk l).2=(n:Int)/\1<=n/\n<=l.length/\Lib.validD l=Lib.validD (l.drop n)):=by
 have hg:=Oz l h;unfold J7 at hg;rw[Kx h];by_cases hb:(Lib.decodeL l).1=65533/\(Lib.decodeL l).2=1
 . rw[if_pos hb]at hg ⊢;rw[hg];exact .inl ⟨rfl,rfl⟩
 . rw[if_neg hb]at hg ⊢;rw[hg];have hw:=Lib.decodeL_width l;exact .inr ⟨(Lib.decodeL l).2,rfl,hw,Lib.decodeL_le l h,rfl⟩
theorem Ps (s:ByteArray) (w:World) (hs:s.size<=1000000000):
 Calls Tryz.prog 112 #[.string s] w fun e w'=>e=.returned (.bool (A9 s))/\w=w':=by
 obtain⟨V,hV⟩: ∃V,A9 s=V:=⟨_,rfl⟩;rw[hV];have H0:=qz hV;clear hV;go_enter Tryz.func112,Tryz.ntmps112;go_wp2
 go_loop [3] (fun i=> ∃k:Nat,k<=s.size/\i=.int .i64 k/\Hid (Lib.validD (s.data.toList.drop k)=V)) (fun i=>s.size - (intOf i).toNat)
 case atStart=>exact⟨0,Nat.zero_le _,rfl,H0⟩
 case round=>
  obtain⟨k,hk,rfl,hf⟩:=hrel;clear H0;by_cases hlt:k<s.size
  . have hne:s.data.toList.drop k≠ []:=by
     intro e;have:=congrArg List.length e;rw[List.length_drop,<-Lib.size_eq]at this;simp at this;omega
    have hA:=Aak s k w (by omega) (by omega);rcases Ai5 hne with⟨h0,hv⟩|⟨n,hn,hn1,hn2,hv⟩
    . have hf':=hf.out;rw[hv]at hf';subst hf';rw[h0]at hA;generalize (Gk (s.data.toList.drop k)).1=R at hA;have HA:=qz hA;clear hA h0 hv hne hf;go_wp2_with (go_at_call 182;refine(HA.out).mono ?_;rintro e w' ⟨rfl,rfl⟩);go_ret;exact⟨rfl,rfl⟩
    . have hf':=hf.out;rw[hv,List.drop_drop]at hf';have Hf:=qz hf';rw[hn]at hA;rw[List.length_drop,<-Lib.size_eq]at hn2;generalize (Gk (s.data.toList.drop k)).1=R at hA;have HA:=qz hA;clear hA hn hv hne hf hf';have e0:((n:Int)==0)=false:=by simp;omega
      go_wp2_with (go_at_call 182;refine(HA.out).mono ?_;rintro e w' ⟨rfl,rfl⟩)
      go_round
      case rel=>exact⟨k+n,by omega,by go_num,Hf⟩
      case measure=>simp[intOf];omega
  . obtain rfl:k=s.size:=by omega
    have hf':=hf.out;rw[List.drop_eq_nil_of_le (by rw[<-Lib.size_eq];omega)]at hf';have:V=true:=by rw[<-hf'];rfl
    subst this;clear hf hf';go_wp2;go_ret;exact⟨rfl,rfl⟩
theorem Ane {z:Int} (h0:0<=z) (h1:z<256):((z.toNat.toUInt8).toNat:Int)=z:=by
 have:z.toNat<256:=by omega
 simp[Nat.toUInt8,UInt8.toNat_ofNat',Nat.mod_eq_of_lt this];omega
theorem Ob (w:World) (zs:List Int) (hz: ∀z ∈ zs,0<=z/\z<256) (t:TypeId):
 (convert 131 9 (.slice (some ⟨w.heap.size,0,none⟩) zs.length zs.length)).run Tryz.prog (w.alloc (.cells (zs.map (Value.int .u8)).toArray t))=.ok (.string ⟨(zs.map fun z=>z.toNat.toUInt8).toArray⟩) (w.alloc (.cells (zs.map (Value.int .u8)).toArray t)):=by
 have:=run_convert_bytes_back (P:=Tryz.prog) (w.alloc (.cells (zs.map (Value.int .u8)).toArray t)) 131 9 5 ⟨w.heap.size,0,none⟩ zs.length (zs.map fun z=>z.toNat.toUInt8) Tryz.underlying131 Tryz.underlying5 Tryz.underlying9 (by
  intro j hj;rw[List.length_map]at hj;have hh:(w.alloc (.cells (zs.map (Value.int .u8)).toArray t)).heap[w.heap.size]? =some (.cells (zs.map (Value.int .u8)).toArray t (0,0)):=heap_alloc_new _ _;rw[show(⟨w.heap.size,0,none⟩:Addr).add j=⟨w.heap.size,j,none⟩from by unfold Addr.add;split<;>simp_all];rw[Lib.cell_of_heap hh];simp only[List.getElem?_toArray,List.getElem?_map,List.getElem?_eq_getElem hj,Option.map_some,List.getElem_map];rw[Ane (hz _ (List.getElem_mem hj)).1 (hz _ (List.getElem_mem hj)).2])
 rwa [List.length_map]at this
set_option maxRecDepth 20000 in
theorem Yl (r:Int) (h0:0<=r) (h1:r<=1114111) (hs: ¬(55296<=r/\r<57344)) (w:World):
 Calls Tryz.prog 143 #[.int .i64 r] w fun e w'=>e=.returned (.string ⟨(Lib.encodeRune r).toArray⟩)/\Below w.heap.size w w':=by
 by_cases c1:r<128
 . have e:Lib.encodeRune r= [r].map fun z=>z.toNat.toUInt8:=by unfold Lib.encodeRune;rw[Lib.encodeRuneZ_one h0 (by omega)]
   have hB:=Ob w [r] (by intro z hz;simp at hz;omega) 5;rw[e];simp only[List.map_cons,List.map_nil,List.length_cons,List.length_nil]at hB ⊢;go_enter Tryz.func143,Tryz.ntmps143;go_wp2;go_ret;exact⟨rfl,(Below.refl _ _).alloc (Nat.le_refl _) _⟩
 by_cases c2:r<2048
 . have e:Lib.encodeRune r= [192+r / 64,128+r % 64].map fun z=>z.toNat.toUInt8:=by unfold Lib.encodeRune;rw[Lib.encodeRuneZ_two (by omega) (by omega)]
   have hB:=Ob w [192+r / 64,128+r % 64] (by intro z hz;simp at hz;omega) 5;rw[e];have b1:0<=r / 64:=by omega
   have b2:r / 64<32:=by omega
   have b3:0<=r % 64:=by omega
   have b4:r % 64<64:=by omega
   simp only[List.map_cons,List.map_nil,List.length_cons,List.length_nil]at hB ⊢;obtain⟨z1,hz1⟩: ∃z,192+r / 64=z:=⟨_,rfl⟩;obtain⟨z2,hz2⟩: ∃z,128+r % 64=z:=⟨_,rfl⟩;have d1:0<=z1/\z1<256:=by omega
   have d2:0<=z2/\z2<256:=by omega
   rw[hz1,hz2]at hB ⊢;go_enter Tryz.func143,Tryz.ntmps143;go_wp2;go_ret;exact⟨rfl,(Below.refl _ _).alloc (Nat.le_refl _) _⟩
 by_cases c3:r<65536
 . have e:Lib.encodeRune r= [224+r / 4096,128+r / 64 % 64,128+r % 64].map fun z=>z.toNat.toUInt8:=by unfold Lib.encodeRune;rw[Lib.encodeRuneZ_three (by omega)]
   have hB:=Ob w [224+r / 4096,128+r / 64 % 64,128+r % 64] (by intro z hz;simp at hz;omega) 5;rw[e];have b1:0<=r / 4096:=by omega
   have b2:r / 4096<16:=by omega
   have b3:0<=r % 64:=by omega
   have b4:r % 64<64:=by omega
   have b5:0<=r / 64:=by omega
   have b6:0<=r / 64 % 64:=by omega
   have b7:r / 64 % 64<64:=by omega
   simp only[List.map_cons,List.map_nil,List.length_cons,List.length_nil]at hB ⊢;obtain⟨z1,hz1⟩: ∃z,224+r / 4096=z:=⟨_,rfl⟩;obtain⟨z2,hz2⟩: ∃z,128+r / 64 % 64=z:=⟨_,rfl⟩;obtain⟨z3,hz3⟩: ∃z,128+r % 64=z:=⟨_,rfl⟩;have d1:0<=z1/\z1<256:=by omega
   have d2:0<=z2/\z2<256:=by omega
   have d3:0<=z3/\z3<256:=by omega
   rw[hz1,hz2,hz3]at hB ⊢;go_enter Tryz.func143,Tryz.ntmps143;go_wp2;go_ret;exact⟨rfl,(Below.refl _ _).alloc (Nat.le_refl _) _⟩
 . have e:Lib.encodeRune r= [240+r / 262144,128+r / 4096 % 64,128+r / 64 % 64,128+r % 64].map fun z=>z.toNat.toUInt8:=by unfold Lib.encodeRune;rw[Lib.encodeRuneZ_four (by omega) (by omega)]
   have hB:=Ob w [240+r / 262144,128+r / 4096 % 64,128+r / 64 % 64,128+r % 64] (by intro z hz;simp at hz;omega) 5;rw[e];have b1:0<=r / 262144:=by omega
   have b2:r / 262144<8:=by omega
   have b3:0<=r % 64:=by omega
   have b4:r % 64<64:=by omega
   have b5:0<=r / 64:=by omega
   have b6:0<=r / 64 % 64:=by omega
   have b7:r / 64 % 64<64:=by omega
   have b8:0<=r / 4096:=by omega
   have b9:0<=r / 4096 % 64:=by omega
   have b10:r / 4096 % 64<64:=by omega
   simp only[List.map_cons,List.map_nil,List.length_cons,List.length_nil]at hB ⊢;obtain⟨z0,hz0⟩: ∃z,240+r / 262144=z:=⟨_,rfl⟩;obtain⟨z1,hz1⟩: ∃z,128+r / 4096 % 64=z:=⟨_,rfl⟩;obtain⟨z2,hz2⟩: ∃z,128+r / 64 % 64=z:=⟨_,rfl⟩;obtain⟨z3,hz3⟩: ∃z,128+r % 64=z:=⟨_,rfl⟩;have d0:0<=z0/\z0<256:=by omega
   have d1:0<=z1/\z1<256:=by omega
   have d2:0<=z2/\z2<256:=by omega
   have d3:0<=z3/\z3<256:=by omega
   rw[hz0,hz1,hz2,hz3]at hB ⊢;go_enter Tryz.func143,Tryz.ntmps143;go_wp2;go_ret;exact⟨rfl,(Below.refl _ _).alloc (Nat.le_refl _) _⟩
theorem I7 {k:Int} {b:Bool} {n:Int} {t:ByteArray} {la oa:Option Addr} {ln lc on oc:Nat} {B:Bool} (h:Gl k b n t ln on=B) (w:World):
 Calls Tryz.prog 160 #[.agg #[.int .i64 k,.bool b,.int .i64 n,.string t,.slice la ln lc,.slice oa on oc]] w fun e w'=>e=.returned (.bool (!B))/\Below w.heap.size w w':=by
 subst h;exact Ady _ _ _ _ _ _ _ _ _ _ _
theorem Cw {s:ByteArray} {B:Bool} (h:A9 s=B) (w:World) (hs:s.size<=1000000000):
 Calls Tryz.prog 112 #[.string s] w fun e w'=>e=.returned (.bool B)/\w=w':=by
 subst h;exact Ps _ _ hs
def Ajf (v:Val):Prop:= ∀(cs:List Value) (d:Int) (w:World),Ac w w.heap.size v cs->v.bulk<=1000000000->0<=d->d<=65->
    Calls Tryz.prog 95 #[.agg cs.toArray,.int .i64 d] w fun e w'=>e=.returned (.int .i64 (Au v d))/\Below w.heap.size w w'
theorem Ah8 (k:Int) (b:Bool) (n:Int) (t:ByteArray) (l:List Val) (la oa:Option Addr) (lc oc:Nat) (d:Int) (w:World) (g off:Nat) (hla:l= []\/(la=some ⟨g,off,none⟩/\g<w.heap.size/\Ao w w.heap.size l g off))
 (hb:Bf l+t.size<=1000000000) (h0:0<=d) (h64:d<=64) (IH: ∀v ∈ l,Ajf v) (hodd:Gl k b n t l.length 0=false) (hval:A9 t=true):
 Calls Tryz.prog 95 #[.agg #[.int .i64 k,.bool b,.int .i64 n,.string t,.slice la l.length lc,.slice oa 0 oc],.int .i64 d] w fun e w'=>e=.returned (.int .i64 (C2 l (d+1)))/\Below w.heap.size w w':=by
 have hlen:l.length<=1000000000:=by have:=Dt l;omega
 have h64': ¬(64<d):=by omega
 have H:Hid (C2 (l.drop 0) (d+1)=C2 l (d+1)):=by rw[List.drop_zero];exact rfl
 go_enter Tryz.func95,Tryz.ntmps95;go_wp2_with (first|(go_at_call 160;refine(I7 hodd _).mono ?_;rintro e w1 ⟨rfl,hb1⟩;obtain⟨hc1,hf1⟩:=Gx hb1;have hz1:=hb1.size;simp only[World.size_alloc]at hz1;have hbw1:Below w.heap.size w w1:=((Below.refl _ _).alloc (Nat.le_refl _) _).trans (hb1.mono (by simp));have hbox1:w1.heap[w.heap.size]? =some (.cells #[.int .i64 k,.bool b,.int .i64 n,.string t,.slice la l.length lc,.slice oa 0 oc] 37 (0,0)):=(hb1.block _ (by simp)).trans (heap_alloc_new _ _))|(go_at_call 112;refine(Cw hval _ (by omega)).mono ?_;rintro e w2 ⟨rfl,rfl⟩));clear hb1 hodd hc1 hf1 hz1;go_loopw [5] (fun i wr=> ∃j:Nat,j<=l.length/\i=.int .i64 j/\Hid (C2 (l.drop j) (d+1)=C2 l (d+1))/\Below w.heap.size w wr/\wr.heap[w.heap.size]? =some (.cells #[.int .i64 k,.bool b,.int .i64 n,.string t,.slice la l.length lc,.slice oa 0 oc] 37 (0,0))) (fun i _=>l.length - (intOf i).toNat)
 case atStart=>exact⟨0,Nat.zero_le _,rfl,H,hbw1,hbox1⟩
 case round=>
  obtain⟨j,hj,rfl,hm,hbw,hbox⟩:=hrel;clear H hbw1 hbox1;have hbx:w.heap.size<wr.heap.size:=(Array.getElem?_eq_some_iff.1 hbox).1;have b4:wr.cell? ⟨w.heap.size,4,none⟩=some (.slice la l.length lc):=by rw[Lib.cell_of_heap hbox];rfl
  have b5:wr.cell? ⟨w.heap.size,5,none⟩=some (.slice oa 0 oc):=by rw[Lib.cell_of_heap hbox];rfl
  by_cases hlt:j<l.length
  . obtain⟨rfl,hg,hL⟩:la=some ⟨g,off,none⟩/\g<w.heap.size/\Ao w w.heap.size l g off:=by
     rcases hla with rfl|h
     . simp at hlt
     . exact h
    obtain⟨v,hv⟩: ∃v,l[j]? =some v:=⟨_,List.getElem?_eq_getElem hlt⟩;have hdrop:l.drop j=v::l.drop (j+1):=Ds hv;have hmem:v ∈ l:=List.mem_of_getElem? hv;have hbv:=D9 hmem;have IHv:=qz (IH v hmem);have hm':=hm.out;rw[hdrop]at hm';simp only[C2]at hm';clear hm hdrop hmem IH;obtain⟨m,hmv⟩: ∃m,Au v (d+1)=m:=⟨_,rfl⟩;rw[hmv]at hm';have Hmv:=qz hmv;clear hmv;obtain⟨k',b',n',t',l',o'⟩:=v;obtain⟨la',lc',oa',oc',hvs,c0,c1,c2,c3,c4,c5⟩:=(hL.below hg hbw).six hv;clear hla hL hv;have hz:=hbw.size;by_cases hm0:m=0
    . rw[if_pos hm0]at hm';subst hm0;have Hk:=qz hm';clear hm';go_wp2_with (go_at_call 95;refine(IHv.out _ (d+1) _ (Ac.more (by omega) _ _ hvs) (by omega) (by omega) (by omega)).mono ?_;rintro e w2 ⟨he,hb2⟩;rw[Hmv.out]at he;subst he;have hbw2:Below w.heap.size w w2:=hbw.trans (hb2.mono hz);have hbox2:=(hb2.block _ hbx).trans hbox);go_roundw
      case rel=>exact⟨j+1,by omega,by go_num,Hk,hbw2,hbox2⟩
      case measure=>simp[intOf];omega
    . rw[if_neg hm0]at hm';have Hk:=qz hm';clear hm';have hm1:(m==0)=false:=by simpa using hm0
      have hm2:(m != 0)=true:=by simpa using hm0
      go_wp2_with (go_at_call 95;refine(IHv.out _ (d+1) _ (Ac.more (by omega) _ _ hvs) (by omega) (by omega) (by omega)).mono ?_;rintro e w2 ⟨he,hb2⟩;rw[Hmv.out]at he;subst he;have hbw2:Below w.heap.size w w2:=hbw.trans (hb2.mono hz));go_ret;exact⟨by rw[<-Hk.out];rfl,hbw2⟩
  . obtain rfl:j=l.length:=by omega
    have hm':=hm.out;rw[List.drop_length]at hm';have Hm:=qz hm';clear hm hm';go_wp2;go_loopw [8] (fun i wx=>i=.int .i64 0/\wx=wr) (fun _ _=>0)
    case atStart=>exact⟨rfl,rfl⟩
    case round=>
     obtain⟨rfl,rfl⟩:=hrel;go_wp2;go_ret;exact⟨by rw[<-Hm.out];rfl,hbw⟩
def Ah (S:Nat->Prop) (w:World) (d:D) (cs:List Value):Prop:=
 ∀w'':World,w.heap.size<=w''.heap.size->(∀p:Addr,S p.block->p.block<w.heap.size->w''.cell? p=w.cell? p)->Ag w'' w.heap.size d cs
def Aw (S:Nat->Prop) (w:World) (l:List D) (cs:List Value):Prop:=
 ∀w'':World,w.heap.size<=w''.heap.size->(∀p:Addr,S p.block->p.block<w.heap.size->w''.cell? p=w.cell? p)->Af w'' w.heap.size l cs
theorem Ah.now {S:Nat->Prop} {w:World} {d:D} {cs:List Value} (h:Ah S w d cs):Ag w w.heap.size d cs:=h w (Nat.le_refl _) fun _ _ _=>rfl
theorem Aw.now {S:Nat->Prop} {w:World} {l:List D} {cs:List Value} (h:Aw S w l cs):Af w w.heap.size l cs:=h w (Nat.le_refl _) fun _ _ _=>rfl
theorem Ah.mono {S T:Nat->Prop} {w:World} {d:D} {cs:List Value} (h:Ah S w d cs) (hST: ∀i,i<w.heap.size->S i->T i):Ah T w d cs:=
 fun w'' h1 h2=>h w'' h1 fun p p1 p2=>h2 p (hST _ p2 p1) p2
theorem Ah.of_old {B:Nat} {w w':World} {d:D} {cs:List Value} (h:Ag w B d cs) (hB:B<=w.heap.size) (hb:Below B w w'):Ah (fun i=>i<B) w' d cs:=fun _ _ h2=>
 (h.keep (fun p hp=>(h2 p hp (Nat.lt_of_lt_of_le hp (Nat.le_trans hB hb.size))).trans (hb.cell hp))).more (Nat.le_trans hB hb.size)
theorem Ah.later {S:Nat->Prop} {w w':World} {d:D} {cs:List Value} (h:Ah S w d cs) (hs:w.heap.size<=w'.heap.size) (hk: ∀p:Addr,S p.block->p.block<w.heap.size->w'.cell? p=w.cell? p):Ah S w' d cs:=fun w'' h1 h2=>
 (h w'' (Nat.le_trans hs h1) fun p p1 p2=>(h2 p p1 (Nat.lt_of_lt_of_le p2 hs)).trans (hk p p1 p2)).more hs
theorem Ah.below {S:Nat->Prop} {w w':World} {d:D} {cs:List Value} (h:Ah S w d cs) (hb:Below w.heap.size w w'):Ah S w' d cs:=h.later hb.size fun _ _ p2=>hb.cell p2
theorem Aw.one {S:Nat->Prop} {w:World} {d:D} {cs:List Value} (h:Ah S w d cs):Aw S w [d] cs:=fun w'' h1 h2=>Af.one (h w'' h1 h2)
theorem Aw.app {S:Nat->Prop} {w:World} {l r:List D} {cs es:List Value} (h:Aw S w l cs) (k:Aw S w r es):Aw S w (l++r) (cs++es):=fun w'' h1 h2=>(h w'' h1 h2).app (k w'' h1 h2)
theorem Ah.blk {S:Nat->Prop} {w:World} {g:Nat} {t:TypeId} {cs:Array Value} {l:List D} {s n c:Nat} (h:Aj w g t cs) (hS:S g) (hs: ∀d ∈ l,d.cells=s) (hA:Aw S w l cs.toList) (hn:n=l.length):Ah S w (.row s l) [.slice (some ⟨g,0,none⟩) n c]:=by
 subst hn;intro w'' h1 h2;exact⟨_,c,rfl,hs,cs.toList,hA w'' h1 h2,.inr ⟨g,0,rfl,h.lt,fun j u hu=>by
  rw[Nat.zero_add,h2 ⟨g,j,none⟩ hS h.lt];exact(h.cell j).trans (by rw[<-Array.getElem?_toList];exact hu)⟩⟩
def At (S0:Nat->Prop) (b:Nat) (t:TypeId) (s:Nat) (wr:World) (l:List D) (V:Value):Prop:=
 ∃ns,wr.ownsRow b t s V l.length ns/\(∀d ∈ l,d.cells=s)/\Aw (fun i=>S0 i/\V.ownBlock≠some i) wr l ns
theorem At.nil (S0:Nat->Prop) (b:Nat) (t:TypeId) (s:Nat) (wr:World):At S0 b t s wr [] (.slice none 0 0):=⟨[],World.ownsRow_nil _ _ _ _,fun d hd=>(by cases hd),fun _ _ _=>rfl⟩
theorem At.base {S0:Nat->Prop} {b:Nat} {t:TypeId} {s:Nat} {wr:World} {l:List D} {V:Value} (h:At S0 b t s wr l V): ∀g,V.ownBlock=some g->b<=g/\g<wr.heap.size:=by
 obtain⟨ns,h1,_⟩:=h;exact h1.lt
theorem At.keep {S0:Nat->Prop} {b:Nat} {t:TypeId} {s:Nat} {wr w':World} {l:List D} {V:Value} (h:At S0 b t s wr l V) (hs:wr.heap.size<=w'.heap.size) (hk: ∀i,i<wr.heap.size->w'.heap[i]? =wr.heap[i]?):At S0 b t s w' l V:=by
 obtain⟨ns,h1,h2,h3⟩:=h;refine⟨ns,⟨h1.1, ?_⟩,h2,fun w'' k1 k2=>Af.more (h3 w'' (by omega) (fun p p1 p2=>(k2 p p1 (by omega)).trans (World.cell?_of_block (hk p.block p2)))) hs⟩;rcases h1.2 with⟨rfl,h0⟩|⟨g,cap,cur,rfl,hbg,hg,h5⟩
 . exact .inl ⟨rfl,h0⟩
 . exact .inr ⟨g,cap,cur,rfl,hbg,(hk g (Array.getElem?_eq_some_iff.1 hg).1).trans hg,h5⟩
theorem At.below {S0:Nat->Prop} {b:Nat} {t:TypeId} {s:Nat} {wr w':World} {l:List D} {V:Value} (h:At S0 b t s wr l V) (hb:Below wr.heap.size wr w'):At S0 b t s w' l V:=h.keep hb.size fun i hi=>hb.block i hi
theorem At.slice {S0:Nat->Prop} {b:Nat} {t:TypeId} {s:Nat} {wr:World} {l:List D} {V:Value} (h:At S0 b t s wr l V): ∃a c,V=.slice a l.length c:=by
 obtain⟨ns,h1,_⟩:=h;rcases h1.2 with⟨rfl,h0⟩|⟨g,cap,cur,rfl,_⟩
 . exact⟨_,_,by rw[h0]⟩
 . exact⟨_,_,rfl⟩
theorem At.slice_n {S0:Nat->Prop} {b:Nat} {t:TypeId} {s n:Nat} {wr:World} {l:List D} {V:Value} (h:At S0 b t s wr l V) (hn:l.length=n): ∃a c,V=.slice a n c:=by
 subst hn;exact h.slice
theorem At.close {S0:Nat->Prop} {b:Nat} {t:TypeId} {s:Nat} {wr:World} {l:List D} {a:Option Addr} {n c:Nat} (h:At S0 b t s wr l (.slice a n c)):Ag wr wr.heap.size (.row s l) [.slice a n c]:=by
 obtain⟨ns,h1,h2,h3⟩:=h;have h1':=h1;rcases h1.2 with⟨e,h0⟩|⟨g,cap,cur,e,hbg,hg,hnc,_⟩
 . cases e
   have hl:l= []:=List.eq_nil_of_length_eq_zero h0;subst hl;exact⟨none,0,rfl,h2, [],rfl,.inl rfl⟩
 . cases e
   have hgl:=(Array.getElem?_eq_some_iff.1 hg).1;refine⟨_,_,rfl,h2,ns,h3.now,.inr ⟨g,0,rfl,hgl,fun j u hu=> ?_⟩⟩;have h5:=h1'.cells (g:=g) rfl j u hu
   rwa [Bn]at h5
theorem At.closeIn {S0:Nat->Prop} {b:Nat} {t:TypeId} {s:Nat} {wr:World} {l:List D} {a:Option Addr} {n c:Nat} (h:At S0 b t s wr l (.slice a n c)):Ah (fun i=>S0 i\/(Value.slice a n c).ownBlock=some i) wr (.row s l) [.slice a n c]:=by
 obtain⟨ns,h1,h2,h3⟩:=h;have h1':=h1;intro w'' k1 k2;have hA:=h3 w'' k1 fun p p1 p2=>k2 p (.inl p1.1) p2;rcases h1.2 with⟨e,h0⟩|⟨g,cap,cur,e,hbg,hg,hnc,_⟩
 . cases e
   have hl:l= []:=List.eq_nil_of_length_eq_zero h0;subst hl;exact⟨none,0,rfl,h2, [],rfl,.inl rfl⟩
 . cases e
   have hgl:=(Array.getElem?_eq_some_iff.1 hg).1;refine⟨_,_,rfl,h2,ns,hA,.inr ⟨g,0,rfl,hgl,fun j u hu=> ?_⟩⟩;have h5:=h1'.cells (g:=g) rfl j u hu;rw[Bn]at h5;exact(k2 ⟨g,0+j,none⟩ (.inr rfl) hgl).trans h5
section
variable {P:Program}
theorem Z4 {t ty e:TypeId} {i:TypeInfo} {z:Value} {sz bytes:Nat} (ht:P.underlying t=some (.slice e)) (hi:P.info? e=some i) (hz:i.zero=some z) (hsize:i.size=sz) (hby:i.bytes=bytes) (hzs:z.cells.size=sz) (hsz:0<sz)
 {S0:Nat->Prop} {b:Nat} {w:World} {l:List D} {V:Value} (hrow:At S0 b e sz w l V) (hbw:b<=w.heap.size) {d:D} {cs:List Value} (hd:d.cells=sz) (hx:Ah (fun i=>S0 i/\V.ownBlock≠some i) w d cs)
 {B:Nat} {A:Option Addr} {c:Nat} (hr:Bu w B sz A 1 cs) (h63:l.length+1<=maxLen) (hbytes:(l.length+1)*bytes<=140737488355328):
 ∃V' w6,(Builtin.append_ #[t,t] ty #[V,.slice A 1 c]).run P w=.ok V' w6/\At S0 b e sz w6 (l++ [d]) V'/\w.grownBy w6 V.ownBlock/\(V'.ownBlock=V.ownBlock\/V'.ownBlock=some w.heap.size):=by
 obtain⟨ns,h1,h2,h3⟩:=hrow;obtain⟨V',w6,hrun,g1,g2,g3⟩:=Kf (P:=P) w b t ty e i z sz bytes ht hi hz hsize hby hzs hsz V l.length ns h1 B A 1 c cs hr hx.now.len.2 h63 hbytes hbw;refine⟨V',w6,hrun,⟨ns++cs,by rw[List.length_append];exact g1, ?_, ?_⟩,g2,g3⟩
 . intro x hx';rcases List.mem_append.1 hx' with hx'|hx'
   . exact h2 x hx'
   . simp only[List.mem_cons,List.not_mem_nil,or_false]at hx';rw[hx'];exact hd
 . have key: ∀p:Addr,V.ownBlock≠some p.block->p.block<w.heap.size->V'.ownBlock≠some p.block:=by
    intro p p1 p2;rcases g3 with e3|e3
    . rw[e3];exact p1
    . rw[e3];intro e4;have:=Option.some.inj e4;omega
   have hag: ∀w'':World,w6.heap.size<=w''.heap.size->(∀p:Addr,S0 p.block/\V'.ownBlock≠some p.block->p.block<w6.heap.size->w''.cell? p=w6.cell? p)-> ∀p:Addr,S0 p.block/\V.ownBlock≠some p.block->p.block<w.heap.size->w''.cell? p=w.cell? p:=by
    intro w'' k1 k2 p p1 p2;rw[k2 p ⟨p1.1,key p p1.2 p2⟩ (Nat.lt_of_lt_of_le p2 g2.size)];exact World.cell?_of_block (g2.block p.block p2 (fun e=>p1.2 e.symm))
   intro w'' k1 k2;have a1:=Af.more (h3 w'' (Nat.le_trans g2.size k1) (hag w'' k1 k2)) g2.size;have a2:=Ag.more (hx w'' (Nat.le_trans g2.size k1) (hag w'' k1 k2)) g2.size;exact a1.snoc a2
theorem Sn {o:Oper} {a:Act} {w:World} {K:Act->World->Prop} {Q:Exit->Act->World->Prop} (s x:Operand) (t:TypeId) {e:TypeId}
 (ho:o.op=.call {callee:=.builtin .append,args:= #[s,x],argTypes:= #[t,t]}) {i:TypeInfo} {z:Value} {sz bytes:Nat} (ht:P.underlying t=some (.slice e)) (hi:P.info? e=some i) (hz:i.zero=some z) (hsize:i.size=sz) (hby:i.bytes=bytes) (hzs:z.cells.size=sz) (hsz:0<sz)
 {S0:Nat->Prop} {b:Nat} {l:List D} {V:Value} (hs:a.eval s=V) (hrow:At S0 b e sz w l V) (hbw:b<=w.heap.size) {d:D} {cs:List Value} (hd:d.cells=sz) (hf:Ah (fun i=>S0 i/\V.ownBlock≠some i) w d cs)
 {B:Nat} {A:Option Addr} {c:Nat} (hx:a.eval x=.slice A 1 c) (hr:Bu w B sz A 1 cs) (h63:l.length+1<=maxLen) (hbytes:(l.length+1)*bytes<=140737488355328)
 (h: ∀V' w6,At S0 b e sz w6 (l++ [d]) V'->w.grownBy w6 V.ownBlock->(V'.ownBlock=V.ownBlock\/V'.ownBlock=some w.heap.size)->K (a.put o.dst V') w6):o.wp P a w K Q:=by
 obtain⟨V',w6,hrun,g1,g2,g3⟩:=Z4 (ty:=o.type) (c:=c) ht hi hz hsize hby hzs hsz hrow hbw hd hf hr h63 hbytes;unfold Oper.wp execOp;simp only[ho,resolve,invoke,builtin,Sem.run_bind,Sem.run_pure,Result.andThen_ok,List.map_toArray,List.map_cons,List.map_nil,hs,hx,hrun];exact h V' w6 g1 g2 g3
theorem Jm {ops:Array Oper} {rest:List Oper} {o:Oper} {a:Act} {w:World} {Q:Exit->Act->World->Prop} (hgd:o.guard=none) (s x:Operand) (t:TypeId) {e:TypeId}
 (ho:o.op=.call {callee:=.builtin .append,args:= #[s,x],argTypes:= #[t,t]}) {i:TypeInfo} {z:Value} {sz bytes:Nat} (ht:P.underlying t=some (.slice e)) (hi:P.info? e=some i) (hz:i.zero=some z) (hsize:i.size=sz) (hby:i.bytes=bytes) (hzs:z.cells.size=sz) (hsz:0<sz)
 {S0:Nat->Prop} {b:Nat} {l:List D} {V:Value} (hs:a.eval s=V) (hrow:At S0 b e sz w l V) (hbw:b<=w.heap.size) {d:D} {cs:List Value} (hd:d.cells=sz) (hf:Ah (fun i=>S0 i/\V.ownBlock≠some i) w d cs)
 {B:Nat} {A:Option Addr} {c:Nat} (hx:a.eval x=.slice A 1 c) (hr:Bu w B sz A 1 cs) (h63:l.length+1<=maxLen) (hbytes:(l.length+1)*bytes<=140737488355328)
 (h: ∀V' w6,At S0 b e sz w6 (l++ [d]) V'->w.grownBy w6 V.ownBlock->(V'.ownBlock=V.ownBlock\/V'.ownBlock=some w.heap.size)->wpList P ops Q rest (a.put o.dst V') w6):wpList P ops Q (o::rest) a w:=
 wpList_plain hgd fun _ hK=>Sn s x t ho ht hi hz hsize hby hzs hsz hs hrow hbw hd hf hx hr h63 hbytes fun V' w6 h2 h3 h4=>hK _ _ (h V' w6 h2 h3 h4)
theorem Gg {ops:Array Oper} {o:Oper} {a:Act} {w:World} {K:Act->World->Prop} {Q:Exit->Act->World->Prop} {E:Prop} (hgd:o.guard=none) (s x:Operand) (t:TypeId) {e:TypeId}
 (ho:o.op=.call {callee:=.builtin .append,args:= #[s,x],argTypes:= #[t,t]}) {i:TypeInfo} {z:Value} {sz bytes:Nat} (ht:P.underlying t=some (.slice e)) (hi:P.info? e=some i) (hz:i.zero=some z) (hsize:i.size=sz) (hby:i.bytes=bytes) (hzs:z.cells.size=sz) (hsz:0<sz)
 {S0:Nat->Prop} {b:Nat} {l:List D} {V:Value} (hs:a.eval s=V) (hrow:At S0 b e sz w l V) (hbw:b<=w.heap.size) {d:D} {cs:List Value} (hd:d.cells=sz) (hf:Ah (fun i=>S0 i/\V.ownBlock≠some i) w d cs)
 {B:Nat} {A:Option Addr} {c:Nat} (hx:a.eval x=.slice A 1 c) (hr:Bu w B sz A 1 cs) (h63:l.length+1<=maxLen) (hbytes:(l.length+1)*bytes<=140737488355328)
 (h: ∀V' w6,At S0 b e sz w6 (l++ [d]) V'->w.grownBy w6 V.ownBlock->(V'.ownBlock=V.ownBlock\/V'.ownBlock=some w.heap.size)->K (a.put o.dst V') w6):
 if Region.wanted o (yielded ops a.tmps)=true then Oper.wp P o a w K Q else E:=by
 have hw:Region.wanted o (yielded ops a.tmps)=true:=by simp[Region.wanted,hgd]
 rw[if_pos hw];exact Sn s x t ho ht hi hz hsize hby hzs hsz hs hrow hbw hd hf hx hr h63 hbytes h
end
section
variable {P:Program}
theorem Fc (w:World) (dT sT ty elem:TypeId) (s g o dLen dCap:Nat) (a:Addr) (sLen sCap:Nat) (cur:Array Value) (t:TypeId) (cs:List Value)
 (hu:P.underlying dT=some (.slice elem)) (hs:(P.info? elem).map (·.size)=some s)
 (hg:w.heap[g]? =some (.cells cur t (0,0))) (hn:cs.length=Nat.min sLen dLen*s)
 (hsrc: ∀j v,cs[j]? =some v->w.cell? (a.add j)=some v) (hfit:o+cs.length<=cur.size) (h1: ∀v ∈ cs,v.oneCell'=true):
 (Builtin.copy_ #[dT,sT] ty #[.slice (some ⟨g,o,none⟩) dLen dCap,.slice (some a) sLen sCap]).run P w=
   .ok (goInt (Nat.min sLen dLen)) (w.setRow g (cur.toList.take o++cs++cur.toList.drop (o+cs.length)).toArray):=by
 have hl:=run_loadCells_list (P:=P) w a cs hsrc;have hst:=run_storeCells_at P g o t cs 0 cur w hg (by simpa using hfit) h1
 cases hq:P.info? elem with
 |none=>simp[hq]at hs
 |some i=>
  have hi:i.size=s:=by simpa[hq]using hs
  subst hi;simp only[Nat.add_zero]at hst;simp[Builtin.copy_,run_underlying hu,Builtin.lenOf,Builtin.firstCells,sizeOf,typeInfo,hq,<-hn,hl,hst]
end
theorem Pd {w:World} {b g n cap s:Nat} {e:TypeId} {cur:Array Value} {xs:List Value} (hb:b<=g) (hg:w.heap[g]? =some (.cells cur e (0,0))) (hnc:n<=cap) (hm:cap<=maxLen) (hs:cur.size=cap*s) (hx:cur.toList.take (n*s)=xs):w.ownsRow b e s (.slice (some ⟨g,0,none⟩) n cap) n xs:=by
 refine⟨?_,.inr ⟨g,cap,cur,rfl,hb,hg,hnc,hm,hs,hx⟩⟩;have:n*s<=cap*s:=Nat.mul_le_mul_right _ hnc;rw[<-hx,List.length_take,Array.length_toList,hs];omega
theorem Nv {B g:Nat} {w0 w:World} (h:Below B w0 w) (hg:B<=g) (cs:Array Value):Below B w0 (w.setRow g cs):=⟨h.os,h.tape,h.output,by rw[size_setRow];exact h.size,fun k hk=>(setRow_other _ _ _ _ (by omega)).trans (h.block k hk)⟩
theorem Xc {w:World} {g:Nat} (cur:Array Value):w.grownBy (w.setRow g cur) (some g):=⟨rfl,rfl,rfl,by simp,fun k _ h=>setRow_other _ _ _ _ fun e=>h (by rw[e])⟩
theorem Rx {w w1 w2:World} {r:Option Nat} (h:w.grownBy w1 r) (k:w1.grownBy w2 r):w.grownBy w2 r:=
 ⟨k.os.trans h.os,k.tape.trans h.tape,k.output.trans h.output,Nat.le_trans h.size k.size,fun i hi hr=>(k.block i (Nat.lt_of_lt_of_le hi h.size) hr).trans (h.block i hi hr)⟩
theorem Jb {w w1:World} {r:Option Nat} (h:Below w.heap.size w w1):w.grownBy w1 r:=⟨h.os,h.tape,h.output,h.size,fun i hi _=>h.block i hi⟩
theorem U1 {α:Type} (A M Z:List α) (y z:List α) (p q:Nat) (hA:A.length=p) (hM:M.length=y.length+z.length) (hq:q=p+y.length):
 (((A++M++Z).take p++y++(A++M++Z).drop (p+y.length)).take q++z++((A++M++Z).take p++y++(A++M++Z).drop (p+y.length)).drop (q+z.length))=A++y++z++Z:=by
 subst hA hq;have e1:(A++M++Z).take A.length=A:=by rw[List.append_assoc,List.take_left'];rfl
 have e2:(A++M++Z).drop (A.length+y.length)=M.drop y.length++Z:=by
  rw[List.append_assoc,List.drop_append,List.drop_eq_nil_of_le (by omega),List.nil_append,show A.length+y.length - A.length=y.length by omega,List.drop_append_of_le_length (by omega)]
 rw[e1,e2];have e3:(A++y++(M.drop y.length++Z)).take (A.length+y.length)=A++y:=by rw[List.take_left'];simp
 have e4:(A++y++(M.drop y.length++Z)).drop (A.length+y.length+z.length)=Z:=by
  rw[<-List.append_assoc,List.drop_left'];simp;omega
 rw[e3,e4]
end Go.Proofs.YtkmcjfkokoidcaaGreatDoor
