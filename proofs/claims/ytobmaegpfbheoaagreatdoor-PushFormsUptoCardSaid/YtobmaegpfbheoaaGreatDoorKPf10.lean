/- Parts: commonplaceref02.Deep: how deep a value is. Condition: a bulk of at most 10^8. -/
import Derived.Lib.ValidU
import Derived.Test.YtobmaegpfbheoaaGreatDoorKPf5
set_option maxHeartbeats 20000000
set_option maxRecDepth 100000
namespace Go.Proofs.YtobmaegpfbheoaaGreatDoor
open Go.RowKit
def B6:List UInt8->Nat->Int->Option Int
 |_,0,r=>some r
 | [],_+1,_=>none
 |d::l,n+1,r=>if(d.toNat:Int)<128\/192<=(d.toNat:Int)then none else B6 l n (64*r+d.toNat - 128)
def Ce (F:Option Int) (n:Nat) (least:Int):Int×Int:=
 match F with
 |none=>(0,0)
 |some r=>if r<least\/1114111<r\/(55296<=r/\r<57344)then(0,0)else(r,n)
def Bn (rest:List UInt8) (n:Nat) (r0 least:Int):Int×Int:=
 if rest.length+1<n then(0,0)else Ce (B6 rest (n - 1) r0) n least
def Ea:List UInt8->Int×Int
 | []=>(0,0)
 |c::rest=>
  if(c.toNat:Int)<128 then(c.toNat,1)
  else if 192<=(c.toNat:Int)/\(c.toNat:Int)<224 then Bn rest 2 (c.toNat - 192) 128
  else if 224<=(c.toNat:Int)/\(c.toNat:Int)<240 then Bn rest 3 (c.toNat - 224) 2048
  else if 240<=(c.toNat:Int)/\(c.toNat:Int)<248 then Bn rest 4 (c.toNat - 240) 65536
  else(0,0)
theorem Ix (s:ByteArray) (a:Nat) (h:a<s.size):s.data.toList.drop a=s[a]::s.data.toList.drop (a+1):=by
 rw[List.drop_eq_getElem_cons (by rw[<-Lib.size_eq];exact h)];rfl
theorem Bi (d:UInt8) (l:List UInt8) (n:Nat) (r:Int):B6 (d::l) (n+1) r=if(d.toNat:Int)<128\/192<=(d.toNat:Int)then none else B6 l n (64*r+d.toNat - 128):=rfl
theorem Ei (c:UInt8) (rest:List UInt8):Ea (c::rest)=
 (if(c.toNat:Int)<128 then((c.toNat:Int),(1:Int))
 else if 192<=(c.toNat:Int)/\(c.toNat:Int)<224 then Bn rest 2 (c.toNat - 192) 128
 else if 224<=(c.toNat:Int)/\(c.toNat:Int)<240 then Bn rest 3 (c.toNat - 224) 2048
 else if 240<=(c.toNat:Int)/\(c.toNat:Int)<248 then Bn rest 4 (c.toNat - 240) 65536
 else(0,0)):=rfl
set_option maxRecDepth 1000000 in
theorem Abr (s:ByteArray) (a:Nat) (w:World) (hs:s.size<=4611686018427387904) (h:a<s.size) (x:UInt8) (hx:s[a]=x) (h1:192<=(x.toNat:Int)) (h2:(x.toNat:Int)<224) (h3:a+2<=s.size):
 Calls Tryz.prog 158 #[.string s,.int .i64 a] w fun e w'=>e=.returned (.tuple #[.int .i64 (Bn (s.data.toList.drop (a+1)) 2 (x.toNat - 192) 128).1,.int .i64 (Bn (s.data.toList.drop (a+1)) 2 (x.toNat - 192) 128).2])/\w=w':=by
 have hlen: ¬(s.data.toList.drop (a+1)).length+1<2:=by
  rw[List.length_drop,<-Lib.size_eq];omega
 obtain⟨F,hF⟩: ∃F,B6 (s.data.toList.drop (a+1)) (2 - 1) (x.toNat - 192)=F:=⟨_,rfl⟩;have hat:Bn (s.data.toList.drop (a+1)) 2 (x.toNat - 192) 128=Ce F 2 128:=by
  unfold Bn Ce;rw[if_neg hlen,hF]
 rw[hat];have H0:=qz hF;clear hat hlen hF;have e1:decide (s.size<=a)=false:=by simp;omega
 have e2:decide ((x.toNat:Int)<128)=false:=by simp;omega
 have e3:(a:Int)+2<=(s.size:Int):=by omega
 go_enter Tryz.func158,Tryz.ntmps158;go_wp2
 go_loop [8,10] (fun r i=> ∃k:Nat,∃rr:Int,1<=k/\k<=2/\i=.int .i64 k/\r=.int .i64 rr/\0<=rr/\(k<=1->rr<=31)/\(k<=2->rr<=2047)/\(k<=3->rr<=131071)/\rr<=8388607/\Hid (B6 (s.data.toList.drop (a+k)) (2 - k) rr=F)) (fun _ i=>2 - (intOf i).toNat)
 case atStart=>exact⟨1,(x.toNat:Int) - 192,by omega,by omega,rfl,rfl,by omega,by omega,by omega,by omega,by omega,H0⟩
 case round=>
  obtain⟨k,rr,hk1,hk2,rfl,rfl,hr0,hr1,hr2,hr3,hr4,hf⟩:=hrel;clear H0;by_cases hlt:k<2
  . obtain rfl:k=1:=by omega
    have hak:a+1<s.size:=by omega
    obtain⟨y,hy⟩: ∃y,s[a+1]=y:=⟨_,rfl⟩;have hyl:(y.toNat:Int)<256:=by have:=y.toNat_lt;omega
    have hf':=hf.out;rw[Ix s (a+1) hak,hy,show 2 - 1=(2 - (1+1))+1 from by omega]at hf';rw[Bi]at hf';by_cases hc:(y.toNat:Int)<128\/192<=(y.toNat:Int)
    . rw[if_pos hc]at hf';subst hf';clear hf;rcases hc with hc|hc
      all_goals
       go_wp2
       all_goals go_ret2
       all_goals exact⟨rfl,rfl⟩
    . rw[if_neg hc]at hf';have Hf:=qz hf';clear hf hf';have hc1:128<=(y.toNat:Int):=by omega
      have hc2:(y.toNat:Int)<192:=by omega
      clear hc;go_wp2
      go_round
      case rel=>exact⟨1+1,64*rr+y.toNat - 128,by omega,by omega,by go_num,rfl,by omega,by omega,by omega,by omega,by omega,Hf⟩
      case measure=>first|(simp[intOf];done)|(simp[intOf];omega)
  . obtain rfl:k=2:=by omega
    have hf':=hf.out;rw[Nat.sub_self]at hf';rw[show B6 (s.data.toList.drop (a+2)) 0 rr=some rr from by cases (s.data.toList.drop (a+2))<;>rfl]at hf';subst hf';clear hf;by_cases hbad:rr<128\/1114111<rr\/(55296<=rr/\rr<57344)
    . have hv:Ce (some rr) 2 128=(0,0):=by unfold Ce;simp only;rw[if_pos hbad]
      have Hv:=qz hv;clear hv;have hb:(rr<128)\/(¬rr<128/\1114111<rr)\/(¬rr<128/\ ¬1114111<rr/\55296<=rr/\rr<57344):=by omega
      clear hbad;rcases hb with b1|⟨b1,b2⟩|⟨b1,b2,b3,b4⟩
      all_goals
       go_wp2
       all_goals go_ret2
       all_goals exact⟨by rw[Hv.out];rfl,rfl⟩
    . have hv:Ce (some rr) 2 128=(rr,2):=by unfold Ce;simp only;rw[if_neg hbad];rfl
      have Hv:=qz hv;clear hv;have hb:(¬rr<128/\ ¬1114111<rr/\rr<55296)\/(¬rr<128/\ ¬1114111<rr/\55296<=rr/\ ¬rr<57344):=by omega
      clear hbad;rcases hb with⟨b1,b2,b3⟩|⟨b1,b2,b3,b4⟩
      all_goals
       go_wp2
       all_goals go_ret2
       all_goals exact⟨by rw[Hv.out];rfl,rfl⟩
set_option maxRecDepth 1000000 in
theorem Ym (s:ByteArray) (a:Nat) (w:World) (hs:s.size<=4611686018427387904) (h:a<s.size) (x:UInt8) (hx:s[a]=x) (h1:224<=(x.toNat:Int)) (h2:(x.toNat:Int)<240) (h3:a+3<=s.size):
 Calls Tryz.prog 158 #[.string s,.int .i64 a] w fun e w'=>e=.returned (.tuple #[.int .i64 (Bn (s.data.toList.drop (a+1)) 3 (x.toNat - 224) 2048).1,.int .i64 (Bn (s.data.toList.drop (a+1)) 3 (x.toNat - 224) 2048).2])/\w=w':=by
 have hlen: ¬(s.data.toList.drop (a+1)).length+1<3:=by
  rw[List.length_drop,<-Lib.size_eq];omega
 obtain⟨F,hF⟩: ∃F,B6 (s.data.toList.drop (a+1)) (3 - 1) (x.toNat - 224)=F:=⟨_,rfl⟩;have hat:Bn (s.data.toList.drop (a+1)) 3 (x.toNat - 224) 2048=Ce F 3 2048:=by
  unfold Bn Ce;rw[if_neg hlen,hF]
 rw[hat];have H0:=qz hF;clear hat hlen hF;have e1:decide (s.size<=a)=false:=by simp;omega
 have e2:decide ((x.toNat:Int)<128)=false:=by simp;omega
 have e3:(a:Int)+3<=(s.size:Int):=by omega
 go_enter Tryz.func158,Tryz.ntmps158;go_wp2
 go_loop [8,10] (fun r i=> ∃k:Nat,∃rr:Int,1<=k/\k<=3/\i=.int .i64 k/\r=.int .i64 rr/\0<=rr/\(k<=1->rr<=31)/\(k<=2->rr<=2047)/\(k<=3->rr<=131071)/\rr<=8388607/\Hid (B6 (s.data.toList.drop (a+k)) (3 - k) rr=F)) (fun _ i=>3 - (intOf i).toNat)
 case atStart=>exact⟨1,(x.toNat:Int) - 224,by omega,by omega,rfl,rfl,by omega,by omega,by omega,by omega,by omega,H0⟩
 case round=>
  obtain⟨k,rr,hk1,hk2,rfl,rfl,hr0,hr1,hr2,hr3,hr4,hf⟩:=hrel;clear H0;by_cases hlt:k<3
  . have hak:a+k<s.size:=by omega
    obtain⟨y,hy⟩: ∃y,s[a+k]=y:=⟨_,rfl⟩;have hyl:(y.toNat:Int)<256:=by have:=y.toNat_lt;omega
    have hf':=hf.out;rw[Ix s (a+k) hak,hy,show 3 - k=(3 - (k+1))+1 from by omega]at hf';rw[Bi]at hf';by_cases hc:(y.toNat:Int)<128\/192<=(y.toNat:Int)
    . rw[if_pos hc]at hf';subst hf';clear hf;rcases hc with hc|hc
      all_goals
       go_wp2
       all_goals go_ret2
       all_goals exact⟨rfl,rfl⟩
    . rw[if_neg hc]at hf';have Hf:=qz hf';clear hf hf';have hc1:128<=(y.toNat:Int):=by omega
      have hc2:(y.toNat:Int)<192:=by omega
      clear hc;go_wp2
      go_round
      case rel=>exact⟨k+1,64*rr+y.toNat - 128,by omega,by omega,by go_num,rfl,by omega,by omega,by omega,by omega,by omega,Hf⟩
      case measure=>first|(simp[intOf];done)|(simp[intOf];omega)
  . obtain rfl:k=3:=by omega
    have hf':=hf.out;rw[Nat.sub_self]at hf';rw[show B6 (s.data.toList.drop (a+3)) 0 rr=some rr from by cases (s.data.toList.drop (a+3))<;>rfl]at hf';subst hf';clear hf;by_cases hbad:rr<2048\/1114111<rr\/(55296<=rr/\rr<57344)
    . have hv:Ce (some rr) 3 2048=(0,0):=by unfold Ce;simp only;rw[if_pos hbad]
      have Hv:=qz hv;clear hv;have hb:(rr<2048)\/(¬rr<2048/\1114111<rr)\/(¬rr<2048/\ ¬1114111<rr/\55296<=rr/\rr<57344):=by omega
      clear hbad;rcases hb with b1|⟨b1,b2⟩|⟨b1,b2,b3,b4⟩
      all_goals
       go_wp2
       all_goals go_ret2
       all_goals exact⟨by rw[Hv.out];rfl,rfl⟩
    . have hv:Ce (some rr) 3 2048=(rr,3):=by unfold Ce;simp only;rw[if_neg hbad];rfl
      have Hv:=qz hv;clear hv;have hb:(¬rr<2048/\ ¬1114111<rr/\rr<55296)\/(¬rr<2048/\ ¬1114111<rr/\55296<=rr/\ ¬rr<57344):=by omega
      clear hbad;rcases hb with⟨b1,b2,b3⟩|⟨b1,b2,b3,b4⟩
      all_goals
       go_wp2
       all_goals go_ret2
       all_goals exact⟨by rw[Hv.out];rfl,rfl⟩
set_option maxRecDepth 1000000 in
theorem Aad (s:ByteArray) (a:Nat) (w:World) (hs:s.size<=4611686018427387904) (h:a<s.size) (x:UInt8) (hx:s[a]=x) (h1:240<=(x.toNat:Int)) (h2:(x.toNat:Int)<248) (h3:a+4<=s.size):
 Calls Tryz.prog 158 #[.string s,.int .i64 a] w fun e w'=>e=.returned (.tuple #[.int .i64 (Bn (s.data.toList.drop (a+1)) 4 (x.toNat - 240) 65536).1,.int .i64 (Bn (s.data.toList.drop (a+1)) 4 (x.toNat - 240) 65536).2])/\w=w':=by
 have hlen: ¬(s.data.toList.drop (a+1)).length+1<4:=by
  rw[List.length_drop,<-Lib.size_eq];omega
 obtain⟨F,hF⟩: ∃F,B6 (s.data.toList.drop (a+1)) (4 - 1) (x.toNat - 240)=F:=⟨_,rfl⟩;have hat:Bn (s.data.toList.drop (a+1)) 4 (x.toNat - 240) 65536=Ce F 4 65536:=by
  unfold Bn Ce;rw[if_neg hlen,hF]
 rw[hat];have H0:=qz hF;clear hat hlen hF;have e1:decide (s.size<=a)=false:=by simp;omega
 have e2:decide ((x.toNat:Int)<128)=false:=by simp;omega
 have e3:(a:Int)+4<=(s.size:Int):=by omega
 go_enter Tryz.func158,Tryz.ntmps158;go_wp2
 go_loop [8,10] (fun r i=> ∃k:Nat,∃rr:Int,1<=k/\k<=4/\i=.int .i64 k/\r=.int .i64 rr/\0<=rr/\(k<=1->rr<=31)/\(k<=2->rr<=2047)/\(k<=3->rr<=131071)/\rr<=8388607/\Hid (B6 (s.data.toList.drop (a+k)) (4 - k) rr=F)) (fun _ i=>4 - (intOf i).toNat)
 case atStart=>exact⟨1,(x.toNat:Int) - 240,by omega,by omega,rfl,rfl,by omega,by omega,by omega,by omega,by omega,H0⟩
 case round=>
  obtain⟨k,rr,hk1,hk2,rfl,rfl,hr0,hr1,hr2,hr3,hr4,hf⟩:=hrel;clear H0;by_cases hlt:k<4
  . have hak:a+k<s.size:=by omega
    obtain⟨y,hy⟩: ∃y,s[a+k]=y:=⟨_,rfl⟩;have hyl:(y.toNat:Int)<256:=by have:=y.toNat_lt;omega
    have hf':=hf.out;rw[Ix s (a+k) hak,hy,show 4 - k=(4 - (k+1))+1 from by omega]at hf';rw[Bi]at hf';by_cases hc:(y.toNat:Int)<128\/192<=(y.toNat:Int)
    . rw[if_pos hc]at hf';subst hf';clear hf;rcases hc with hc|hc
      all_goals
       go_wp2
       all_goals go_ret2
       all_goals exact⟨rfl,rfl⟩
    . rw[if_neg hc]at hf';have Hf:=qz hf';clear hf hf';have hc1:128<=(y.toNat:Int):=by omega
      have hc2:(y.toNat:Int)<192:=by omega
      clear hc;go_wp2
      go_round
      case rel=>exact⟨k+1,64*rr+y.toNat - 128,by omega,by omega,by go_num,rfl,by omega,by omega,by omega,by omega,by omega,Hf⟩
      case measure=>first|(simp[intOf];done)|(simp[intOf];omega)
  . obtain rfl:k=4:=by omega
    have hf':=hf.out;rw[Nat.sub_self]at hf';rw[show B6 (s.data.toList.drop (a+4)) 0 rr=some rr from by cases (s.data.toList.drop (a+4))<;>rfl]at hf';subst hf';clear hf;by_cases hbad:rr<65536\/1114111<rr\/(55296<=rr/\rr<57344)
    . have hv:Ce (some rr) 4 65536=(0,0):=by unfold Ce;simp only;rw[if_pos hbad]
      have Hv:=qz hv;clear hv;have hb:(rr<65536)\/(¬rr<65536/\1114111<rr)\/(¬rr<65536/\ ¬1114111<rr/\55296<=rr/\rr<57344):=by omega
      clear hbad;rcases hb with b1|⟨b1,b2⟩|⟨b1,b2,b3,b4⟩
      all_goals
       go_wp2
       all_goals go_ret2
       all_goals exact⟨by rw[Hv.out];rfl,rfl⟩
    . have hv:Ce (some rr) 4 65536=(rr,4):=by unfold Ce;simp only;rw[if_neg hbad];rfl
      have Hv:=qz hv;clear hv;have hb:(¬rr<65536/\ ¬1114111<rr/\rr<55296)\/(¬rr<65536/\ ¬1114111<rr/\55296<=rr/\ ¬rr<57344):=by omega
      clear hbad;rcases hb with⟨b1,b2,b3⟩|⟨b1,b2,b3,b4⟩
      all_goals
       go_wp2
       all_goals go_ret2
       all_goals exact⟨by rw[Hv.out];rfl,rfl⟩
set_option maxRecDepth 1000000 in
theorem Aae (s:ByteArray) (a:Nat) (w:World) (_hs:s.size<=4611686018427387904) (_ha:a<=4611686018427387904) (h:s.size<=a):
 Calls Tryz.prog 158 #[.string s,.int .i64 a] w fun e w'=>e=.returned (.tuple #[.int .i64 0,.int .i64 0])/\w=w':=by
 have e1:(s.size:Int)<=a:=by omega
 have e2:decide (s.size<=a)=true:=by simpa using h
 go_enter Tryz.func158,Tryz.ntmps158;go_wp2
 all_goals go_ret2
 all_goals exact⟨rfl,rfl⟩
set_option maxRecDepth 1000000 in
theorem Abq (s:ByteArray) (a:Nat) (w:World) (_hs:s.size<=4611686018427387904) (h:a<s.size) (x:UInt8) (hx:s[a]=x) (h1:(x.toNat:Int)<128):
 Calls Tryz.prog 158 #[.string s,.int .i64 a] w fun e w'=>e=.returned (.tuple #[.int .i64 x.toNat,.int .i64 1])/\w=w':=by
 go_enter Tryz.func158,Tryz.ntmps158;go_wp2
 all_goals go_ret2
 all_goals exact⟨rfl,rfl⟩
set_option maxRecDepth 1000000 in
theorem Ql (s:ByteArray) (a:Nat) (w:World) (hs:s.size<=4611686018427387904) (h:a<s.size) (x:UInt8) (hx:s[a]=x) (h0:128<=(x.toNat:Int))
 (h1:(x.toNat:Int)<192\/248<=(x.toNat:Int)\/(192<=(x.toNat:Int)/\(x.toNat:Int)<224/\s.size<a+2)\/(224<=(x.toNat:Int)/\(x.toNat:Int)<240/\s.size<a+3)\/(240<=(x.toNat:Int)/\(x.toNat:Int)<248/\s.size<a+4)):
 Calls Tryz.prog 158 #[.string s,.int .i64 a] w fun e w'=>e=.returned (.tuple #[.int .i64 0,.int .i64 0])/\w=w':=by
 have hxl:(x.toNat:Int)<256:=by have:=x.toNat_lt;omega
 rcases h1 with h1|h1|⟨h1,h2,h3⟩|⟨h1,h2,h3⟩|⟨h1,h2,h3⟩
 . go_enter Tryz.func158,Tryz.ntmps158;go_wp2
   all_goals go_ret2
   all_goals exact⟨rfl,rfl⟩
 . have g1:192<=(x.toNat:Int):=by omega
   have g2: ¬((x.toNat:Int)<224):=by omega
   have g3:224<=(x.toNat:Int):=by omega
   have g4: ¬((x.toNat:Int)<240):=by omega
   have g5:240<=(x.toNat:Int):=by omega
   have g6: ¬((x.toNat:Int)<248):=by omega
   go_enter Tryz.func158,Tryz.ntmps158;go_wp2
   all_goals go_ret2
   all_goals exact⟨rfl,rfl⟩
 . have h4:(s.size:Int)<(a:Int)+2:=by omega
   go_enter Tryz.func158,Tryz.ntmps158;go_wp2
   all_goals go_ret2
   all_goals exact⟨rfl,rfl⟩
 . have h4:(s.size:Int)<(a:Int)+3:=by omega
   go_enter Tryz.func158,Tryz.ntmps158;go_wp2
   all_goals go_ret2
   all_goals exact⟨rfl,rfl⟩
 . have h4:(s.size:Int)<(a:Int)+4:=by omega
   go_enter Tryz.func158,Tryz.ntmps158;go_wp2
   all_goals go_ret2
   all_goals exact⟨rfl,rfl⟩
theorem Rs (s:ByteArray) (a:Nat) (w:World) (hs:s.size<=4611686018427387904) (ha:a<=4611686018427387904):
 Calls Tryz.prog 158 #[.string s,.int .i64 a] w fun e w'=>e=.returned (.tuple #[.int .i64 (Ea (s.data.toList.drop a)).1,.int .i64 (Ea (s.data.toList.drop a)).2])/\w=w':=by
 by_cases h:a<s.size
 . rw[Ix s a h];obtain⟨x,hx⟩: ∃x,s[a]=x:=⟨_,rfl⟩;rw[hx];have hl:(s.data.toList.drop (a+1)).length=s.size - (a+1):=by rw[List.length_drop,<-Lib.size_eq]
   have hxl:=x.toNat_lt;rw[Ei];by_cases h1:(x.toNat:Int)<128
   . rw[if_pos h1];exact Abq s a w hs h x hx h1
   rw[if_neg h1];by_cases h2:192<=(x.toNat:Int)/\(x.toNat:Int)<224
   . rw[if_pos h2];by_cases h3:a+2<=s.size
     . exact Abr s a w hs h x hx h2.1 h2.2 h3
     . unfold Bn;rw[if_pos (by omega)];exact Ql s a w hs h x hx (by omega) (by omega)
   rw[if_neg h2];by_cases h2:224<=(x.toNat:Int)/\(x.toNat:Int)<240
   . rw[if_pos h2];by_cases h3:a+3<=s.size
     . exact Ym s a w hs h x hx h2.1 h2.2 h3
     . unfold Bn;rw[if_pos (by omega)];exact Ql s a w hs h x hx (by omega) (by omega)
   rw[if_neg h2];by_cases h2:240<=(x.toNat:Int)/\(x.toNat:Int)<248
   . rw[if_pos h2];by_cases h3:a+4<=s.size
     . exact Aad s a w hs h x hx h2.1 h2.2 h3
     . unfold Bn;rw[if_pos (by omega)];exact Ql s a w hs h x hx (by omega) (by omega)
   rw[if_neg h2];exact Ql s a w hs h x hx (by omega) (by omega)
 . rw[List.drop_eq_nil_of_le (by rw[<-Lib.size_eq];omega)];exact Aae s a w hs ha (by omega)
end Go.Proofs.YtobmaegpfbheoaaGreatDoor
namespace Go.Proofs.YtobmaegpfbheoaaGreatDoor
theorem Ab0 (l:List UInt8) (k:Nat):((ByteArray.mk l.toArray).get! k)=l.getD k 0:=by
 show l.toArray[k]! =l.getD k 0;rw[getElem!_def];simp only[List.getElem?_toArray,List.getD_eq_getElem?_getD]
 cases l[k]? <;>rfl
theorem Gz (l:List UInt8):Lib.decodeL l=Lib.decodeN l.length (l.getD 0 0).toNat (l.getD 1 0).toNat (l.getD 2 0).toNat (l.getD 3 0).toNat:=by
 unfold Lib.decodeL;rw[Lib.decode_at];simp only[Nat.sub_zero,Nat.zero_add,Ab0];rfl
theorem Dp (l:List UInt8) (r:Int):B6 l 0 r=some r:=by cases l<;>rfl
def F0 (l:List UInt8):Prop:=
 Ea l=if(Lib.decodeL l).1=65533/\(Lib.decodeL l).2=1 then(0,0)else(((Lib.decodeL l).1:Int),((Lib.decodeL l).2:Int))
theorem I0 {a b c d:Int} (h:a=c) (k:b=d):(a,b)=(c,d):=by rw[h,k]
theorem R2 (a:UInt8):F0 [a]:=by
 unfold F0;rw[Gz];have ha:=a.toNat_lt;simp only[Ei,Bn,List.length_nil,List.length_cons,List.getD_cons_zero,Nat.zero_add];generalize a.toNat=x at ha ⊢;unfold Lib.decodeN;simp only[Nat.lt_irrefl,false_and,and_false,if_false]
 repeat' split
 all_goals first|rfl|(exfalso;omega)|(simp_all;done)|(simp_all;omega)
theorem R3 (a b:UInt8):F0 [a,b]:=by
 unfold F0;rw[Gz];have ha:=a.toNat_lt;have hb:=b.toNat_lt;simp only[Ei,Bn,List.length_nil,List.length_cons,List.getD_cons_zero,List.getD_cons_succ,Nat.zero_add,Nat.reduceAdd,Nat.reduceLT,if_false,if_true,Nat.reduceSub];rw[show B6 [b] 1 ((a.toNat:Int) - 192)=_ from Bi b [] 0 _,Dp];generalize a.toNat=x at ha ⊢;generalize b.toNat=y at hb ⊢;unfold Lib.decodeN Ce;simp only[Nat.lt_irrefl,false_and,and_false,if_false]
 repeat' split
 all_goals first|rfl|(exfalso;omega)|(apply I0<;>omega)|(simp_all;done)|(simp_all;omega)
theorem R4 (a b c:UInt8):F0 [a,b,c]:=by
 unfold F0;rw[Gz];have ha:=a.toNat_lt;have hb:=b.toNat_lt;have hc:=c.toNat_lt;simp only[Ei,Bn,List.length_nil,List.length_cons,List.getD_cons_zero,List.getD_cons_succ,Nat.zero_add,Nat.reduceAdd,Nat.reduceLT,if_false,if_true,Nat.reduceSub];rw[show B6 [b,c] 1 ((a.toNat:Int) - 192)=_ from Bi b [c] 0 _,Dp,
  show B6 [b,c] 2 ((a.toNat:Int) - 224)=_ from Bi b [c] 1 _,show B6 [c] 1 (64*((a.toNat:Int) - 224)+b.toNat - 128)=_ from Bi c [] 0 _,Dp]
 generalize a.toNat=x at ha ⊢;generalize b.toNat=y at hb ⊢;generalize c.toNat=z at hc ⊢;unfold Lib.decodeN Ce;simp only[Nat.lt_irrefl,false_and,and_false,if_false]
 repeat' split
 all_goals first|rfl|(exfalso;omega)|(apply I0<;>omega)|(simp_all;done)|(simp_all;omega)
theorem R5 (a b c d:UInt8) (r:List UInt8):F0 (a::b::c::d::r):=by
 unfold F0;rw[Gz];have ha:=a.toNat_lt;have hb:=b.toNat_lt;have hc:=c.toNat_lt;have hd:=d.toNat_lt;rw[Ei];have l2: ¬(b::c::d::r).length+1<2:=by simp
 have l3: ¬(b::c::d::r).length+1<3:=by simp
 have l4: ¬(b::c::d::r).length+1<4:=by simp
 have e2:Bn (b::c::d::r) 2 ((a.toNat:Int) - 192) 128=Ce (if(b.toNat:Int)<128\/192<=(b.toNat:Int)then none else some (64*((a.toNat:Int) - 192)+b.toNat - 128)) 2 128:=by
  unfold Bn;rw[if_neg l2,show(2 - 1:Nat)=0+1 from rfl,Bi,Dp]
 have e3:Bn (b::c::d::r) 3 ((a.toNat:Int) - 224) 2048=Ce (if(b.toNat:Int)<128\/192<=(b.toNat:Int)then none else if(c.toNat:Int)<128\/192<=(c.toNat:Int)then none else some (64*(64*((a.toNat:Int) - 224)+b.toNat - 128)+c.toNat - 128)) 3 2048:=by
  unfold Bn;rw[if_neg l3,show(3 - 1:Nat)=1+1 from rfl,Bi,show(1:Nat)=0+1 from rfl,Bi,Dp]
 have e4:Bn (b::c::d::r) 4 ((a.toNat:Int) - 240) 65536=Ce (if(b.toNat:Int)<128\/192<=(b.toNat:Int)then none else if(c.toNat:Int)<128\/192<=(c.toNat:Int)then none else if(d.toNat:Int)<128\/192<=(d.toNat:Int)then none else some (64*(64*(64*((a.toNat:Int) - 240)+b.toNat - 128)+c.toNat - 128)+d.toNat - 128)) 4 65536:=by
  unfold Bn;rw[if_neg l4,show(4 - 1:Nat)=2+1 from rfl,Bi,show(2:Nat)=1+1 from rfl,Bi,show(1:Nat)=0+1 from rfl,Bi,Dp]
 rw[e2,e3,e4];clear e2 e3 e4 l2 l3 l4;have hl:3<(a::b::c::d::r).length:=by simp
 generalize (a::b::c::d::r).length=n at hl;simp only[List.getD_cons_zero,List.getD_cons_succ];generalize a.toNat=x at ha ⊢;generalize b.toNat=y at hb ⊢;generalize c.toNat=z at hc ⊢;generalize d.toNat=u at hd ⊢;unfold Lib.decodeN;by_cases b1:(y:Int)<128\/192<=(y:Int)
 . simp only[if_pos b1];unfold Ce
   repeat' split
   all_goals first|rfl|(exfalso;omega)|(apply I0<;>omega)|(simp_all;done)|(simp_all;omega)
 simp only[if_neg b1];by_cases b2:(z:Int)<128\/192<=(z:Int)
 . simp only[if_pos b2];unfold Ce
   repeat' split
   all_goals first|rfl|(exfalso;omega)|(apply I0<;>omega)|(simp_all;done)|(simp_all;omega)
 simp only[if_neg b2];by_cases b3:(u:Int)<128\/192<=(u:Int)
 . simp only[if_pos b3];unfold Ce
   repeat' split
   all_goals first|rfl|(exfalso;omega)|(apply I0<;>omega)|(simp_all;done)|(simp_all;omega)
 simp only[if_neg b3];unfold Ce
 repeat' split
 all_goals first|rfl|(exfalso;omega)|(apply I0<;>omega)|(simp_all;done)|(simp_all;omega)
theorem Nc (l:List UInt8) (h:l≠ []):F0 l:=
 match l,h with
 | [a],_=>R2 a
 | [a,b],_=>R3 a b
 | [a,b,c],_=>R4 a b c
 |a::b::c::d::r,_=>R5 a b c d r
end Go.Proofs.YtobmaegpfbheoaaGreatDoor
namespace Go.Proofs.YtobmaegpfbheoaaGreatDoor
open Go.RowKit
theorem Qb {w:World} {B m:Nat} {v:Value} {ns:List Value} (h:w.ownsRow B 42 6 v m ns):
 ∃la lc,v=.slice la m lc/\(m=0\/ ∃g,la=some ⟨g,0,none⟩/\B<=g/\g<w.heap.size/\ ∀j u,ns[j]? =some u->w.cell? ⟨g,0+j,none⟩=some u):=by
 rcases h.2 with⟨rfl,hz⟩|⟨g,cap,cur,rfl,hbg,hg,_,_,_,_⟩
 . subst hz;exact⟨none,0,rfl,.inl rfl⟩
 . refine⟨_,cap,rfl,.inr ⟨g,rfl,hbg,(Array.getElem?_eq_some_iff.1 hg).1,fun j u hu=> ?_⟩⟩;have:=h.cells (g:=g) rfl j u hu;rw[Go.WideShapes.add_plain]at this;exact this
def Gs (w:World) (v:Val) (e:Ending) (w':World):Prop:=
 (∃la lc,e=.returned (.slice la (within v).length lc)/\(within v= []\/ ∃g off,la=some ⟨g,off,none⟩/\g<w'.heap.size/\Aq w' w'.heap.size (within v) g off))/\Below w.heap.size w w'
theorem T7 (b:Bool) (n:Int) (t:ByteArray) (l:List Val) (o:List (ByteArray×Val)) (la oa:Option Addr) (oc lc:Nat) (w:World) (hl:l= []\/ ∃g off,la=some ⟨g,off,none⟩/\g<w.heap.size/\Aq w w.heap.size l g off)
 (hb:A0 l<=100000000):
 Calls Tryz.prog 167 #[.agg #[.int .i64 5,.bool b,.int .i64 n,.string t,.slice la l.length lc,.slice oa o.length oc]] w (Gs w (.mk 5 b n t l o)):=by
 have hln:=Dy l;have hw:within (.mk 5 b n t l o)=l:=by simp[within]
 by_cases h0:l= []
 . subst h0;clear hl;go_enter Tryz.func167,Tryz.ntmps167;have Hw:=qz hw;clear hw
   cases la
   . go_wp2;go_ret;exact⟨⟨none,0,by rw[Hw.out];rfl,.inl Hw.out⟩,(Below.refl _ _).alloc (Nat.le_refl _) _⟩
   . go_wp2;go_ret;exact⟨⟨none,0,by rw[Hw.out];rfl,.inl Hw.out⟩,(Below.refl _ _).alloc (Nat.le_refl _) _⟩
 . obtain⟨g,off,rfl,hg,hL⟩:=hl.resolve_left h0;obtain⟨i0,hi,hz0,hz1,hz2⟩:=info_parts Nx;obtain⟨ns,hrow,hcells⟩:=Aq.row hL;obtain⟨hnl,hno⟩:=hrow.len;obtain⟨HI,HZ0,HZ1,HZ2,Hrow,Hcells,Hw,HN,HO⟩:=hid9 hi hz0 hz1 hz2 hrow hcells hw hnl hno;clear hi hz0 hz1 hz2 hrow hcells hw hnl hno hl hL;obtain⟨w1,hw1⟩: ∃w1,w.alloc (.cells #[.int .i64 5,.bool b,.int .i64 n,.string t,.slice (some ⟨g,off,none⟩) l.length lc,.slice oa o.length oc] 42)=w1:=⟨_,rfl⟩;have HB1:Hid (Below w.heap.size w w1):=hw1▸(Below.refl _ _).alloc (Nat.le_refl _) _;have HX1:=qz (show w1.heap[w.heap.size]? =some (.cells #[.int .i64 5,.bool b,.int .i64 n,.string t,.slice (some ⟨g,off,none⟩) l.length lc,.slice oa o.length oc] 42 (0,0))from by rw[<-hw1];exact heap_alloc_new _ _);have HS1:=qz (show w1.heap.size=w.heap.size+1 from by rw[<-hw1];simp);have Hown:Hid (w1.ownsRow (w.heap.size+1) 42 6 (.slice none 0 0) 0 []):=World.ownsRow_nil _ _ _ _;subst hw1;go_enter Tryz.func167,Tryz.ntmps167;go_wp2_with (at_builtin;refine wpList_append_own _ rfl (.tmp 8) (.tmp 10) 39 rfl (w.heap.size+1) 42 i0 (.agg #[.int .i64 0,.bool false,.int .i64 0,.string ⟨#[]⟩,.slice none 0 0,.slice none 0 0]) 6 88 Tryz.underlying39 HI.out HZ0.out HZ1.out HZ2.out rfl (by decide) (.slice none 0 0) 0 [] rfl Hown.out ⟨g,off,none⟩ l.length lc ns rfl HN.out ?c1 ?c2 ?c3 ?c4 ?c5 ?_)
   case c1=>
    intro j u hj;rw[Go.WideShapes.add_plain];exact(HB1.out.cell (p:=⟨g,off+j,none⟩) hg).trans (Hcells.out j u hj)
   case c2=>exact HO.out
   case c3=>unfold maxLen;omega
   case c4=>omega
   case c5=>simp
   intro v' w2 hown' hgrow _;obtain⟨la',lc',rfl,hsl⟩:=Qb hown';have HbA:=qz ((HB1.out).grown hgrow (by rw[HS1.out];omega) (fun k hk=>by simp[Value.ownBlock]at hk));have hbox2:w2.heap[w.heap.size]? =some (.cells #[.int .i64 5,.bool b,.int .i64 n,.string t,.slice (some ⟨g,off,none⟩) l.length lc,.slice oa o.length oc] 42 (0,0)):=(hgrow.block _ (by rw[HS1.out];omega) (by simp[Value.ownBlock])).trans HX1.out;have d0:w2.cell? ⟨w.heap.size,0,none⟩=some (.int .i64 5):=by rw[Lib.cell_of_heap hbox2];rfl
   have Hsl:=qz hsl;clear hown' hgrow hsl hbox2;go_wp2;go_ret;refine⟨⟨la',lc',by rw[Hw.out];rfl, ?_⟩,HbA.out⟩;rw[Hw.out];refine .inr ?_;rcases Hsl.out with h|⟨g',rfl,_,hg',hc'⟩
   . exact absurd (List.length_eq_zero_iff.1 h) h0
   . exact⟨g',0,rfl,hg',Hrow.out.holds (fun v cs h=>Ab.more HbA.out.size _ _ (h.below HbA.out)) hc'⟩
theorem Wp (b:Bool) (n:Int) (t:ByteArray) (l:List Val) (o:List (ByteArray×Val)) (la oa:Option Addr) (oc lc:Nat) (w:World) (hl:o= []\/ ∃g off,oa=some ⟨g,off,none⟩/\g<w.heap.size/\As w w.heap.size o g off)
 (hb:Av o<=100000000):
 Calls Tryz.prog 167 #[.agg #[.int .i64 6,.bool b,.int .i64 n,.string t,.slice la l.length lc,.slice oa o.length oc]] w (Gs w (.mk 6 b n t l o)):=by
 have hln:=Do o;have Hw:=qz (show within (.mk 6 b n t l o)=o.map (·.2)from by simp[within]);obtain⟨i0,hi,hz0,hz1,hz2⟩:=info_parts Nx;obtain⟨HI,HZ0,HZ1,HZ2⟩:=hid4 hi hz0 hz1 hz2;clear hi hz0 hz1 hz2;obtain⟨w1,hw1⟩: ∃w1,w.alloc (.cells #[.int .i64 6,.bool b,.int .i64 n,.string t,.slice la l.length lc,.slice oa o.length oc] 42)=w1:=⟨_,rfl⟩;have HB1:Hid (Below w.heap.size w w1):=hw1▸(Below.refl _ _).alloc (Nat.le_refl _) _;have HX1:=qz (show w1.heap[w.heap.size]? =some (.cells #[.int .i64 6,.bool b,.int .i64 n,.string t,.slice la l.length lc,.slice oa o.length oc] 42 (0,0))from by rw[<-hw1];exact heap_alloc_new _ _);have Hown:Hid (w1.ownsRow (w.heap.size+1) 42 6 (.slice none 0 0) 0 []):=World.ownsRow_nil _ _ _ _;have HR0:Hid (Ha w w.heap.size ((o.take 0).map (·.2)) []):=rfl;subst hw1;go_enter Tryz.func167,Tryz.ntmps167;go_wp2_with (fail);go_loopw [3,4] (fun v1 i wr=> ∃(k:Nat) (ns:List Value),i=.int .i64 k/\k<=o.length/\Hid (wr.ownsRow (w.heap.size+1) 42 6 v1 k ns)/\Hid (Ha w w.heap.size ((o.take k).map (·.2)) ns)/\Hid (Below w.heap.size w wr)/\
  Hid (wr.heap[w.heap.size]? =some (.cells #[.int .i64 6,.bool b,.int .i64 n,.string t,.slice la l.length lc,.slice oa o.length oc] 42 (0,0)))) (fun _ i _=>o.length - (intOf i).toNat)
 case atStart=>exact⟨0, [],rfl,Nat.zero_le _,Hown,HR0,HB1,HX1⟩
 case round=>
  obtain⟨k,ns,rfl,hk,hown,hrow,hbw,hbx⟩:=hrel;clear Hown HR0 HB1 HX1;have b5:wr.cell? ⟨w.heap.size,5,none⟩=some (.slice oa o.length oc):=by rw[Lib.cell_of_heap hbx.out];rfl
  have hz:w.heap.size<wr.heap.size:=(Array.getElem?_eq_some_iff.1 hbx.out).1;by_cases hlt:k<o.length
  . obtain⟨g,off,rfl,hg,hL⟩: ∃g off,oa=some ⟨g,off,none⟩/\g<w.heap.size/\As w w.heap.size o g off:=by
     rcases hl with rfl|h
     . simp at hlt
     . exact h
    obtain⟨⟨key,x⟩,hx⟩: ∃v,o[k]? =some v:=⟨_,List.getElem?_eq_getElem hlt⟩;have htk:(o.take (k+1)).map (·.2)=(o.take k).map (·.2)++ [x]:=by rw[List.take_add_one,hx];simp
    obtain⟨k',b',n',t',l',o'⟩:=x;obtain⟨la',lc',oa',oc',hvs,_,e1,e2,e3,e4,e5,e6⟩:=hL.seven hx;have cc:=fun j (u:Value) (h:w.cell? ⟨g,j,none⟩=some u)=>(hbw.out.cell (p:=⟨g,j,none⟩) hg).trans h;have c1:=cc _ _ e1;have c2:=cc _ _ e2;have c3:=cc _ _ e3;have c4:=cc _ _ e4;have c5:=cc _ _ e5;have c6:=cc _ _ e6;have hrow':=hrow.out.snoc hvs;rw[<-htk]at hrow';have Hrow:=qz hrow';have hno:=qz hvs.len.2;clear hrow' hrow htk hx hL hg e1 e2 e3 e4 e5 e6 cc hvs;go_wp2_with (at_builtin;refine wpList_append_own _ rfl (.tmp 22) (.tmp 29) 39 rfl (w.heap.size+1) 42 i0 (.agg #[.int .i64 0,.bool false,.int .i64 0,.string ⟨#[]⟩,.slice none 0 0,.slice none 0 0]) 6 88 Tryz.underlying39 HI.out HZ0.out HZ1.out HZ2.out rfl (by decide) u3 k ns rfl (hown.out.alloc _) ⟨wr.heap.size,0,none⟩ 1 1 (Df k' b' n' t' la' l'.length lc' oa' o'.length oc') rfl rfl ?c1 ?c2 ?c3 ?c4 ?c5 ?_)
    case c1=>
     intro j u hj;rw[Go.WideShapes.add_plain];rw[Lib.cell_of_heap (heap_alloc_new wr (.cells #[.int .i64 k',.bool b',.int .i64 n',.string t',.slice la' l'.length lc',.slice oa' o'.length oc'] 42)),Nat.zero_add];simpa using hj
    case c2=>exact hno.out
    case c3=>unfold maxLen;omega
    case c4=>omega
    case c5=>simp;omega
    intro v' w2 hown' hgrow _;have ho':=qz hown';have hbA:=qz ((hbw.out.alloc (by omega) (.cells #[.int .i64 k',.bool b',.int .i64 n',.string t',.slice la' l'.length lc',.slice oa' o'.length oc'] 42)).grown hgrow (by simp;omega) (fun q hq=>by have:=(hown.out.lt q hq).1;omega));have hbx2:Hid (w2.heap[w.heap.size]? =some (.cells #[.int .i64 6,.bool b,.int .i64 n,.string t,.slice la l.length lc,.slice (some ⟨g,off,none⟩) o.length oc] 42 (0,0))):=by
     show _=_;rw[hgrow.block _ (by simp;omega) (fun e=>by have:=(hown.out.lt _ e.symm).1;omega),Lib.alloc_old wr _ _ hz];exact hbx.out
    clear hown' hgrow hown hbw hbx b5 c1 c2 c3 c4 c5 c6 hno;go_wp2;go_roundw
    case rel=>exact⟨k+1,_,by go_num,by omega,ho',Hrow,hbA,hbx2⟩
    case measure=>simp only[intOf];omega
  . obtain rfl:k=o.length:=by omega
    have hr':=hrow.out;rw[List.take_length]at hr';obtain⟨la',lc',rfl,hsl⟩:=Qb hown.out;obtain⟨Hsl,HR⟩:=hid2 hsl hr';have Hlm:Hid (o.length=(o.map (·.2)).length):=by show _=_;simp
    clear hr' hrow hsl hown hl;go_wp2;go_ret;refine⟨⟨la',lc',by rw[Hw.out,<-Hlm.out];rfl, ?_⟩,hbw.out⟩;rw[Hw.out];rcases Hsl.out with h|⟨g',rfl,_,hg',hc'⟩
    . exact .inl (by rw[List.length_eq_zero_iff.1 h];rfl)
    . exact .inr ⟨g',0,rfl,hg',HR.out.holds (fun v cs h=>Ab.more hbw.out.size _ _ (h.below hbw.out)) hc'⟩
theorem Ov (v:Val) (cs:List Value) (w:World) (hV:Ab w w.heap.size v cs) (hb:v.bulk<=100000000):
 Calls Tryz.prog 167 #[.agg cs.toArray] w (Gs w v):=by
 obtain⟨k,b,n,t,l,o⟩:=v;simp only[Ab]at hV;obtain⟨la,lc,oa,oc,rfl,hla,hoa⟩:=hV;simp only[Val.bulk]at hb;by_cases h5:k=5
 . subst h5;exact T7 b n t l o la oa oc lc w hla (by omega)
 by_cases h6:k=6
 . subst h6;exact Wp b n t l o la oa oc lc w hoa (by omega)
 have Hw:=qz (show within (.mk k b n t l o)= []from by simp[within,h5,h6]);have e5:(k==5)=false:=by simpa using h5
 have e6:(k==6)=false:=by simpa using h6
 clear hla hoa hb h5 h6;go_enter Tryz.func167,Tryz.ntmps167;go_wp2;go_ret;exact⟨⟨none,0,by rw[Hw.out];rfl,.inl Hw.out⟩,(Below.refl _ _).alloc (Nat.le_refl _) _⟩
theorem Pz: ∀o:List (ByteArray×Val),Fh o=Dk (o.map (·.2))
 | []=>rfl
 |(k,v)::r=>by simp only[Fh,Sk,List.map_cons,Dk,Pz r]
theorem Qu (v:Val):Da v=1+Dk (within v):=by
 obtain⟨k,b,n,t,l,o⟩:=v;simp only[Da,within];by_cases h5:k=5
 . simp[h5]
 by_cases h6:k=6
 . simp[h6,Pz]
 . simp[h5,h6,Dk]
theorem Pu: ∀o:List (ByteArray×Val),A0 (o.map (·.2))<=Av o
 | []=>by simp[A0]
 |(k,v)::r=>by
  have:=Pu r;simp only[List.map_cons,A0,Av,Ds];omega
theorem T6 (v:Val):A0 (within v)<=v.bulk:=by
 obtain⟨k,b,n,t,l,o⟩:=v;have:=Pu o;simp only[within,Val.bulk]
 split
 . omega
 split
 . omega
 . simp[A0]
def Um (v:Val):Prop:= ∀(cs:List Value) (w:World),Ab w w.heap.size v cs->v.bulk<=100000000->
    Calls Tryz.prog 133 #[.agg cs.toArray] w fun e w'=>e=.returned (.int .i64 (Da v))/\Below w.heap.size w w'
theorem V9 (v:Val) (IH: ∀x ∈ within v,Um x):Um v:=by
 intro cs w hV hb;have hV':=hV;have hbw:=T6 v;have hlw:=Dy (within v);have hdw:=Kf (within v) (fun x _=>Gh x);have hW0:=fun w' (h:Below w.heap.size w w')=>Ov v cs w' (Ab.more h.size _ _ (hV.below h)) hb;rw[Qu];unfold Gs at hW0;generalize within v=L at*
 obtain⟨k,b,n,t,l,o⟩:=v;simp only[Ab]at hV';obtain⟨la,lc,oa,oc,rfl,_,_⟩:=hV';obtain⟨HI,HW⟩:=hid2 IH hW0;obtain⟨M,hM⟩: ∃M,Dk L=M:=⟨_,rfl⟩;rw[hM]at hdw ⊢;have H0:Hid (max 0 (Dk (L.drop 0))=M):=by show _=_;rw[List.drop_zero,hM];simp
 have HB1:Hid (Below w.heap.size w (w.alloc (.cells (Df k b n t la l.length lc oa o.length oc).toArray 42))):=(Below.refl _ _).alloc (Nat.le_refl _) _;clear IH hW0 hM hV;go_enter Tryz.func133,Tryz.ntmps133;go_wp2_with (fail);(with_reducible refine(HW.out _ HB1.out).mono ?_);rintro e w2 ⟨⟨la',lc',rfl,hsl⟩,hb2⟩;have Hsl:=qz hsl;have HB2:=qz (HB1.out.trans (hb2.mono HB1.out.size));clear hsl hb2 HB1 HW;go_wp2_with (fail);have HBr:Hid (Below w2.heap.size w2 w2):=Below.refl _ _;go_loopw [3,5] (fun m i wr=> ∃D k:Nat,m=.int .i64 D/\i=.int .i64 k/\k<=L.length/\Hid (max D (Dk (L.drop k))=M)/\D<=M/\Hid (Below w2.heap.size w2 wr)) (fun _ i _=>L.length - (intOf i).toNat)
 case atStart=>exact⟨0,0,rfl,rfl,Nat.zero_le _,H0,Nat.zero_le _,HBr⟩
 case round=>
  obtain⟨D,k,rfl,rfl,hk,hD,hDM,hbw⟩:=hrel;clear H0 HBr;by_cases hlt:k<L.length
  . obtain⟨g,off,rfl,hg,hL⟩: ∃g off,la'=some ⟨g,off,none⟩/\g<w2.heap.size/\Aq w2 w2.heap.size L g off:=by
     rcases Hsl.out with h|h
     . rw[h]at hlt;simp at hlt
     . exact h
    obtain⟨x,hx⟩: ∃v,L[k]? =some v:=⟨_,List.getElem?_eq_getElem hlt⟩;have hmem:x ∈ L:=List.mem_of_getElem? hx;have hbv:=Ej hmem;have hdv:=Gh x;have hdrop:L.drop k=x::L.drop (k+1):=Ch hx;have hD':=hD.out;rw[hdrop]at hD';simp only[Dk]at hD';have IHx:=HI.out x hmem;have hz:=hbw.out.size;obtain⟨m,hm⟩: ∃m,Da x=m:=⟨_,rfl⟩;obtain⟨k',b',n',t',l',o'⟩:=x;obtain⟨la',lc',oa',oc',hvs,c0,c1,c2,c3,c4,c5⟩:=(hL.below hg hbw.out).six hx;have CT:=IHx _ wr (Ab.more hz _ _ hvs) (by omega);rw[hm]at CT hD' hdv;have hCT:=qz CT;have Hn:Hid (max (max D m) (Dk (L.drop (k+1)))=M):=by show _=_;omega
    have hmM:max D m<=M:=by omega
    clear CT hD hD' hdrop IHx hm hvs hx hmem hL hg hdv hbv;by_cases hgt:D<m
    . have e1:max D m=m:=by omega
      rw[e1]at Hn hmM;clear e1;go_wp2_with (fail);(with_reducible refine hCT.out.mono ?_);rintro e w4 ⟨rfl,hb4⟩;have hbw4:=qz (hbw.out.trans (hb4.mono hz));clear hb4 hbw hCT;go_wp2;go_roundw
      case rel=>exact⟨m,k+1,rfl,by go_num,by omega,Hn,hmM,hbw4⟩
      case measure=>simp only[intOf];omega
    . have e1:max D m=D:=by omega
      rw[e1]at Hn hmM;clear e1;go_wp2_with (fail);(with_reducible refine hCT.out.mono ?_);rintro e w4 ⟨rfl,hb4⟩;have hbw4:=qz (hbw.out.trans (hb4.mono hz));clear hb4 hbw hCT;go_wp2;go_roundw
      case rel=>exact⟨D,k+1,rfl,by go_num,by omega,Hn,hmM,hbw4⟩
      case measure=>simp only[intOf];omega
  . obtain rfl:k=L.length:=by omega
    have hD':=hD.out;rw[List.drop_length]at hD';simp only[Dk]at hD';obtain rfl:D=M:=by omega
    have Hc:=qz (show(D:Int)+1=((1+D:Nat):Int)from by omega);clear hD hD';go_wp2;go_ret;exact⟨by rw[<-Hc.out];rfl,HB2.out.trans (hbw.out.mono HB2.out.size)⟩
theorem Tm: ∀v,Um v:=by
 refine Val.ind ?_;intro k b n t l o IHl IHo;refine V9 _ (fun x hx=> ?_);simp only[within]at hx
 split at hx
 . exact IHl x hx
 split at hx
 . obtain⟨m,hm,rfl⟩:=List.mem_map.1 hx;exact IHo m hm
 . cases hx
end Go.Proofs.YtobmaegpfbheoaaGreatDoor
