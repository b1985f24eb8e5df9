/- Parts, joined: The reference's runes: At, Valid. utf.Runes: the iterator over a text's runes and their places. Condition: a text shorter than 10^9. utf.Quote: the quote of a text. Condition: a text shorter than 10^9. utf.Quote: the walk. Condition: a text shorter than 10^9. -/
import Derived.Test.YtkkbplakgldlpaaGreatDoorProg
import Derived.Lib.MapLaws
import Derived.Lib.TrimUEq
import Derived.LoopIn
import Derived.LoopNIn
import Derived.Lib.RuneBytes
import Derived.Test.YtkkbplakgldlpaaGreatDoorKMu2
import Derived.Test.YtkkbplakgldlpaaGreatDoorKMu3
import Derived.Test.YtkkbplakgldlpaaGreatDoorKMu4
namespace Go.Proofs.YtkkbplakgldlpaaGreatDoor
open Go.RowKit
def contFold:List UInt8→Nat→Int→Option Int
 |_,0,r=>some r
 | [],_+1,_=>none
 |d::l,n+1,r=>if(d.toNat:Int)<128∨192≤(d.toNat:Int)then none else contFold l n (64*r+d.toNat - 128)
def atEnd (F:Option Int) (n:Nat) (least:Int):Int×Int:=
 match F with
 |none=>(0,0)
 |some r=>if r<least∨1114111<r∨(55296≤r∧r<57344)then(0,0)else(r,n)
def atTail (rest:List UInt8) (n:Nat) (r0 least:Int):Int×Int:=
 if rest.length+1<n then(0,0)else atEnd (contFold rest (n - 1) r0) n least
def atSpec:List UInt8→Int×Int
 | []=>(0,0)
 |c::rest=>
  if(c.toNat:Int)<128 then(c.toNat,1)
  else if 192≤(c.toNat:Int)∧(c.toNat:Int)<224 then atTail rest 2 (c.toNat - 192) 128
  else if 224≤(c.toNat:Int)∧(c.toNat:Int)<240 then atTail rest 3 (c.toNat - 224) 2048
  else if 240≤(c.toNat:Int)∧(c.toNat:Int)<248 then atTail rest 4 (c.toNat - 240) 65536
  else(0,0)
theorem drop_byte (s:ByteArray) (a:Nat) (h:a<s.size):s.data.toList.drop a=s[a]::s.data.toList.drop (a+1):=by
 rw[List.drop_eq_getElem_cons (by rw[←Lib.size_eq];exact h)]
 rfl
theorem contFold_cons (d:UInt8) (l:List UInt8) (n:Nat) (r:Int):contFold (d::l) (n+1) r=if(d.toNat:Int)<128∨192≤(d.toNat:Int)then none else contFold l n (64*r+d.toNat - 128):=rfl
theorem atSpec_cons (c:UInt8) (rest:List UInt8):atSpec (c::rest)=
 (if(c.toNat:Int)<128 then((c.toNat:Int),(1:Int))
 else if 192≤(c.toNat:Int)∧(c.toNat:Int)<224 then atTail rest 2 (c.toNat - 192) 128
 else if 224≤(c.toNat:Int)∧(c.toNat:Int)<240 then atTail rest 3 (c.toNat - 224) 2048
 else if 240≤(c.toNat:Int)∧(c.toNat:Int)<248 then atTail rest 4 (c.toNat - 240) 65536
 else(0,0)):=rfl
set_option maxRecDepth 1000000 in
set_option maxHeartbeats 2000000 in
theorem At_two (s:ByteArray) (a:Nat) (w:World) (hs:s.size≤4611686018427387904) (h:a<s.size) (x:UInt8) (hx:s[a]=x) (h1:192≤(x.toNat:Int)) (h2:(x.toNat:Int)<224) (h3:a+2≤s.size):
 Calls Tryz.prog 131 #[.string s,.int .i64 a] w fun e w'=>e=.returned (.tuple #[.int .i64 (atTail (s.data.toList.drop (a+1)) 2 (x.toNat - 192) 128).1,.int .i64 (atTail (s.data.toList.drop (a+1)) 2 (x.toNat - 192) 128).2])∧w=w':=by
 have hlen: ¬(s.data.toList.drop (a+1)).length+1<2:=by
  rw[List.length_drop,←Lib.size_eq];omega
 obtain⟨F,hF⟩: ∃F,contFold (s.data.toList.drop (a+1)) (2 - 1) (x.toNat - 192)=F:=⟨_,rfl⟩
 have hat:atTail (s.data.toList.drop (a+1)) 2 (x.toNat - 192) 128=atEnd F 2 128:=by
  unfold atTail atEnd
  rw[if_neg hlen,hF]
 rw[hat]
 have H0:=Lib.hid hF
 clear hat hlen hF
 have e1:decide (s.size≤a)=false:=by simp;omega
 have e2:decide ((x.toNat:Int)<128)=false:=by simp;omega
 have e3:(a:Int)+2≤(s.size:Int):=by omega
 go_enter Tryz.func131,Tryz.ntmps131
 go_wp2
 go_loop [8,10] (fun r i=> ∃k:Nat,∃rr:Int,1≤k∧k≤2∧i=.int .i64 k∧r=.int .i64 rr∧0≤rr∧(k≤1→rr≤31)∧(k≤2→rr≤2047)∧(k≤3→rr≤131071)∧rr≤8388607∧Hid (contFold (s.data.toList.drop (a+k)) (2 - k) rr=F)) (fun _ i=>2 - (intOf i).toNat)
 case atStart=>exact⟨1,(x.toNat:Int) - 192,by omega,by omega,rfl,rfl,by omega,by omega,by omega,by omega,by omega,H0⟩
 case round=>
  obtain⟨k,rr,hk1,hk2,rfl,rfl,hr0,hr1,hr2,hr3,hr4,hf⟩:=hrel
  clear H0
  by_cases hlt:k<2
  · obtain rfl:k=1:=by omega
    have hak:a+1<s.size:=by omega
    obtain⟨y,hy⟩: ∃y,s[a+1]=y:=⟨_,rfl⟩
    have hyl:(y.toNat:Int)<256:=by have:=y.toNat_lt;omega
    have hf':=hf.out
    rw[drop_byte s (a+1) hak,hy,show 2 - 1=(2 - (1+1))+1 from by omega]at hf'
    rw[contFold_cons]at hf'
    by_cases hc:(y.toNat:Int)<128∨192≤(y.toNat:Int)
    · rw[if_pos hc]at hf'
      subst hf'
      clear hf
      rcases hc with hc|hc
      all_goals
       go_wp2
       all_goals go_ret2
       all_goals exact⟨rfl,rfl⟩
    · rw[if_neg hc]at hf'
      have Hf:=Lib.hid hf'
      clear hf hf'
      have hc1:128≤(y.toNat:Int):=by omega
      have hc2:(y.toNat:Int)<192:=by omega
      clear hc
      go_wp2
      go_round
      case rel=>exact⟨1+1,64*rr+y.toNat - 128,by omega,by omega,by go_num,rfl,by omega,by omega,by omega,by omega,by omega,Hf⟩
      case measure=>first|(simp[intOf];done)|(simp[intOf];omega)
  · obtain rfl:k=2:=by omega
    have hf':=hf.out
    rw[Nat.sub_self]at hf'
    rw[show contFold (s.data.toList.drop (a+2)) 0 rr=some rr from by cases (s.data.toList.drop (a+2))<;>rfl]at hf'
    subst hf'
    clear hf
    by_cases hbad:rr<128∨1114111<rr∨(55296≤rr∧rr<57344)
    · have hv:atEnd (some rr) 2 128=(0,0):=by unfold atEnd;simp only;rw[if_pos hbad]
      have Hv:=Lib.hid hv
      clear hv
      have hb:(rr<128)∨(¬rr<128∧1114111<rr)∨(¬rr<128∧ ¬1114111<rr∧55296≤rr∧rr<57344):=by omega
      clear hbad
      rcases hb with b1|⟨b1,b2⟩|⟨b1,b2,b3,b4⟩
      all_goals
       go_wp2
       all_goals go_ret2
       all_goals exact⟨by rw[Hv.out];rfl,rfl⟩
    · have hv:atEnd (some rr) 2 128=(rr,2):=by unfold atEnd;simp only;rw[if_neg hbad];rfl
      have Hv:=Lib.hid hv
      clear hv
      have hb:(¬rr<128∧ ¬1114111<rr∧rr<55296)∨(¬rr<128∧ ¬1114111<rr∧55296≤rr∧ ¬rr<57344):=by omega
      clear hbad
      rcases hb with⟨b1,b2,b3⟩|⟨b1,b2,b3,b4⟩
      all_goals
       go_wp2
       all_goals go_ret2
       all_goals exact⟨by rw[Hv.out];rfl,rfl⟩
set_option maxRecDepth 1000000 in
set_option maxHeartbeats 2000000 in
theorem At_three (s:ByteArray) (a:Nat) (w:World) (hs:s.size≤4611686018427387904) (h:a<s.size) (x:UInt8) (hx:s[a]=x) (h1:224≤(x.toNat:Int)) (h2:(x.toNat:Int)<240) (h3:a+3≤s.size):
 Calls Tryz.prog 131 #[.string s,.int .i64 a] w fun e w'=>e=.returned (.tuple #[.int .i64 (atTail (s.data.toList.drop (a+1)) 3 (x.toNat - 224) 2048).1,.int .i64 (atTail (s.data.toList.drop (a+1)) 3 (x.toNat - 224) 2048).2])∧w=w':=by
 have hlen: ¬(s.data.toList.drop (a+1)).length+1<3:=by
  rw[List.length_drop,←Lib.size_eq];omega
 obtain⟨F,hF⟩: ∃F,contFold (s.data.toList.drop (a+1)) (3 - 1) (x.toNat - 224)=F:=⟨_,rfl⟩
 have hat:atTail (s.data.toList.drop (a+1)) 3 (x.toNat - 224) 2048=atEnd F 3 2048:=by
  unfold atTail atEnd
  rw[if_neg hlen,hF]
 rw[hat]
 have H0:=Lib.hid hF
 clear hat hlen hF
 have e1:decide (s.size≤a)=false:=by simp;omega
 have e2:decide ((x.toNat:Int)<128)=false:=by simp;omega
 have e3:(a:Int)+3≤(s.size:Int):=by omega
 go_enter Tryz.func131,Tryz.ntmps131
 go_wp2
 go_loop [8,10] (fun r i=> ∃k:Nat,∃rr:Int,1≤k∧k≤3∧i=.int .i64 k∧r=.int .i64 rr∧0≤rr∧(k≤1→rr≤31)∧(k≤2→rr≤2047)∧(k≤3→rr≤131071)∧rr≤8388607∧Hid (contFold (s.data.toList.drop (a+k)) (3 - k) rr=F)) (fun _ i=>3 - (intOf i).toNat)
 case atStart=>exact⟨1,(x.toNat:Int) - 224,by omega,by omega,rfl,rfl,by omega,by omega,by omega,by omega,by omega,H0⟩
 case round=>
  obtain⟨k,rr,hk1,hk2,rfl,rfl,hr0,hr1,hr2,hr3,hr4,hf⟩:=hrel
  clear H0
  by_cases hlt:k<3
  · have hak:a+k<s.size:=by omega
    obtain⟨y,hy⟩: ∃y,s[a+k]=y:=⟨_,rfl⟩
    have hyl:(y.toNat:Int)<256:=by have:=y.toNat_lt;omega
    have hf':=hf.out
    rw[drop_byte s (a+k) hak,hy,show 3 - k=(3 - (k+1))+1 from by omega]at hf'
    rw[contFold_cons]at hf'
    by_cases hc:(y.toNat:Int)<128∨192≤(y.toNat:Int)
    · rw[if_pos hc]at hf'
      subst hf'
      clear hf
      rcases hc with hc|hc
      all_goals
       go_wp2
       all_goals go_ret2
       all_goals exact⟨rfl,rfl⟩
    · rw[if_neg hc]at hf'
      have Hf:=Lib.hid hf'
      clear hf hf'
      have hc1:128≤(y.toNat:Int):=by omega
      have hc2:(y.toNat:Int)<192:=by omega
      clear hc
      go_wp2
      go_round
      case rel=>exact⟨k+1,64*rr+y.toNat - 128,by omega,by omega,by go_num,rfl,by omega,by omega,by omega,by omega,by omega,Hf⟩
      case measure=>first|(simp[intOf];done)|(simp[intOf];omega)
  · obtain rfl:k=3:=by omega
    have hf':=hf.out
    rw[Nat.sub_self]at hf'
    rw[show contFold (s.data.toList.drop (a+3)) 0 rr=some rr from by cases (s.data.toList.drop (a+3))<;>rfl]at hf'
    subst hf'
    clear hf
    by_cases hbad:rr<2048∨1114111<rr∨(55296≤rr∧rr<57344)
    · have hv:atEnd (some rr) 3 2048=(0,0):=by unfold atEnd;simp only;rw[if_pos hbad]
      have Hv:=Lib.hid hv
      clear hv
      have hb:(rr<2048)∨(¬rr<2048∧1114111<rr)∨(¬rr<2048∧ ¬1114111<rr∧55296≤rr∧rr<57344):=by omega
      clear hbad
      rcases hb with b1|⟨b1,b2⟩|⟨b1,b2,b3,b4⟩
      all_goals
       go_wp2
       all_goals go_ret2
       all_goals exact⟨by rw[Hv.out];rfl,rfl⟩
    · have hv:atEnd (some rr) 3 2048=(rr,3):=by unfold atEnd;simp only;rw[if_neg hbad];rfl
      have Hv:=Lib.hid hv
      clear hv
      have hb:(¬rr<2048∧ ¬1114111<rr∧rr<55296)∨(¬rr<2048∧ ¬1114111<rr∧55296≤rr∧ ¬rr<57344):=by omega
      clear hbad
      rcases hb with⟨b1,b2,b3⟩|⟨b1,b2,b3,b4⟩
      all_goals
       go_wp2
       all_goals go_ret2
       all_goals exact⟨by rw[Hv.out];rfl,rfl⟩
set_option maxRecDepth 1000000 in
set_option maxHeartbeats 2000000 in
theorem At_four (s:ByteArray) (a:Nat) (w:World) (hs:s.size≤4611686018427387904) (h:a<s.size) (x:UInt8) (hx:s[a]=x) (h1:240≤(x.toNat:Int)) (h2:(x.toNat:Int)<248) (h3:a+4≤s.size):
 Calls Tryz.prog 131 #[.string s,.int .i64 a] w fun e w'=>e=.returned (.tuple #[.int .i64 (atTail (s.data.toList.drop (a+1)) 4 (x.toNat - 240) 65536).1,.int .i64 (atTail (s.data.toList.drop (a+1)) 4 (x.toNat - 240) 65536).2])∧w=w':=by
 have hlen: ¬(s.data.toList.drop (a+1)).length+1<4:=by
  rw[List.length_drop,←Lib.size_eq];omega
 obtain⟨F,hF⟩: ∃F,contFold (s.data.toList.drop (a+1)) (4 - 1) (x.toNat - 240)=F:=⟨_,rfl⟩
 have hat:atTail (s.data.toList.drop (a+1)) 4 (x.toNat - 240) 65536=atEnd F 4 65536:=by
  unfold atTail atEnd
  rw[if_neg hlen,hF]
 rw[hat]
 have H0:=Lib.hid hF
 clear hat hlen hF
 have e1:decide (s.size≤a)=false:=by simp;omega
 have e2:decide ((x.toNat:Int)<128)=false:=by simp;omega
 have e3:(a:Int)+4≤(s.size:Int):=by omega
 go_enter Tryz.func131,Tryz.ntmps131
 go_wp2
 go_loop [8,10] (fun r i=> ∃k:Nat,∃rr:Int,1≤k∧k≤4∧i=.int .i64 k∧r=.int .i64 rr∧0≤rr∧(k≤1→rr≤31)∧(k≤2→rr≤2047)∧(k≤3→rr≤131071)∧rr≤8388607∧Hid (contFold (s.data.toList.drop (a+k)) (4 - k) rr=F)) (fun _ i=>4 - (intOf i).toNat)
 case atStart=>exact⟨1,(x.toNat:Int) - 240,by omega,by omega,rfl,rfl,by omega,by omega,by omega,by omega,by omega,H0⟩
 case round=>
  obtain⟨k,rr,hk1,hk2,rfl,rfl,hr0,hr1,hr2,hr3,hr4,hf⟩:=hrel
  clear H0
  by_cases hlt:k<4
  · have hak:a+k<s.size:=by omega
    obtain⟨y,hy⟩: ∃y,s[a+k]=y:=⟨_,rfl⟩
    have hyl:(y.toNat:Int)<256:=by have:=y.toNat_lt;omega
    have hf':=hf.out
    rw[drop_byte s (a+k) hak,hy,show 4 - k=(4 - (k+1))+1 from by omega]at hf'
    rw[contFold_cons]at hf'
    by_cases hc:(y.toNat:Int)<128∨192≤(y.toNat:Int)
    · rw[if_pos hc]at hf'
      subst hf'
      clear hf
      rcases hc with hc|hc
      all_goals
       go_wp2
       all_goals go_ret2
       all_goals exact⟨rfl,rfl⟩
    · rw[if_neg hc]at hf'
      have Hf:=Lib.hid hf'
      clear hf hf'
      have hc1:128≤(y.toNat:Int):=by omega
      have hc2:(y.toNat:Int)<192:=by omega
      clear hc
      go_wp2
      go_round
      case rel=>exact⟨k+1,64*rr+y.toNat - 128,by omega,by omega,by go_num,rfl,by omega,by omega,by omega,by omega,by omega,Hf⟩
      case measure=>first|(simp[intOf];done)|(simp[intOf];omega)
  · obtain rfl:k=4:=by omega
    have hf':=hf.out
    rw[Nat.sub_self]at hf'
    rw[show contFold (s.data.toList.drop (a+4)) 0 rr=some rr from by cases (s.data.toList.drop (a+4))<;>rfl]at hf'
    subst hf'
    clear hf
    by_cases hbad:rr<65536∨1114111<rr∨(55296≤rr∧rr<57344)
    · have hv:atEnd (some rr) 4 65536=(0,0):=by unfold atEnd;simp only;rw[if_pos hbad]
      have Hv:=Lib.hid hv
      clear hv
      have hb:(rr<65536)∨(¬rr<65536∧1114111<rr)∨(¬rr<65536∧ ¬1114111<rr∧55296≤rr∧rr<57344):=by omega
      clear hbad
      rcases hb with b1|⟨b1,b2⟩|⟨b1,b2,b3,b4⟩
      all_goals
       go_wp2
       all_goals go_ret2
       all_goals exact⟨by rw[Hv.out];rfl,rfl⟩
    · have hv:atEnd (some rr) 4 65536=(rr,4):=by unfold atEnd;simp only;rw[if_neg hbad];rfl
      have Hv:=Lib.hid hv
      clear hv
      have hb:(¬rr<65536∧ ¬1114111<rr∧rr<55296)∨(¬rr<65536∧ ¬1114111<rr∧55296≤rr∧ ¬rr<57344):=by omega
      clear hbad
      rcases hb with⟨b1,b2,b3⟩|⟨b1,b2,b3,b4⟩
      all_goals
       go_wp2
       all_goals go_ret2
       all_goals exact⟨by rw[Hv.out];rfl,rfl⟩
set_option maxRecDepth 1000000 in
set_option maxHeartbeats 2000000 in
theorem At_none (s:ByteArray) (a:Nat) (w:World) (_hs:s.size≤4611686018427387904) (_ha:a≤4611686018427387904) (h:s.size≤a):
 Calls Tryz.prog 131 #[.string s,.int .i64 a] w fun e w'=>e=.returned (.tuple #[.int .i64 0,.int .i64 0])∧w=w':=by
 have e1:(s.size:Int)≤a:=by omega
 have e2:decide (s.size≤a)=true:=by simpa using h
 go_enter Tryz.func131,Tryz.ntmps131
 go_wp2
 all_goals go_ret2
 all_goals exact⟨rfl,rfl⟩
set_option maxRecDepth 1000000 in
set_option maxHeartbeats 2000000 in
theorem At_one (s:ByteArray) (a:Nat) (w:World) (_hs:s.size≤4611686018427387904) (h:a<s.size) (x:UInt8) (hx:s[a]=x) (h1:(x.toNat:Int)<128):
 Calls Tryz.prog 131 #[.string s,.int .i64 a] w fun e w'=>e=.returned (.tuple #[.int .i64 x.toNat,.int .i64 1])∧w=w':=by
 go_enter Tryz.func131,Tryz.ntmps131
 go_wp2
 all_goals go_ret2
 all_goals exact⟨rfl,rfl⟩
set_option maxRecDepth 1000000 in
set_option maxHeartbeats 20000000 in
theorem At_bad (s:ByteArray) (a:Nat) (w:World) (hs:s.size≤4611686018427387904) (h:a<s.size) (x:UInt8) (hx:s[a]=x) (h0:128≤(x.toNat:Int))
 (h1:(x.toNat:Int)<192∨248≤(x.toNat:Int)∨(192≤(x.toNat:Int)∧(x.toNat:Int)<224∧s.size<a+2)∨(224≤(x.toNat:Int)∧(x.toNat:Int)<240∧s.size<a+3)∨(240≤(x.toNat:Int)∧(x.toNat:Int)<248∧s.size<a+4)):
 Calls Tryz.prog 131 #[.string s,.int .i64 a] w fun e w'=>e=.returned (.tuple #[.int .i64 0,.int .i64 0])∧w=w':=by
 have hxl:(x.toNat:Int)<256:=by have:=x.toNat_lt;omega
 rcases h1 with h1|h1|⟨h1,h2,h3⟩|⟨h1,h2,h3⟩|⟨h1,h2,h3⟩
 · go_enter Tryz.func131,Tryz.ntmps131
   go_wp2
   all_goals go_ret2
   all_goals exact⟨rfl,rfl⟩
 · have g1:192≤(x.toNat:Int):=by omega
   have g2: ¬((x.toNat:Int)<224):=by omega
   have g3:224≤(x.toNat:Int):=by omega
   have g4: ¬((x.toNat:Int)<240):=by omega
   have g5:240≤(x.toNat:Int):=by omega
   have g6: ¬((x.toNat:Int)<248):=by omega
   go_enter Tryz.func131,Tryz.ntmps131
   go_wp2
   all_goals go_ret2
   all_goals exact⟨rfl,rfl⟩
 · have h4:(s.size:Int)<(a:Int)+2:=by omega
   go_enter Tryz.func131,Tryz.ntmps131
   go_wp2
   all_goals go_ret2
   all_goals exact⟨rfl,rfl⟩
 · have h4:(s.size:Int)<(a:Int)+3:=by omega
   go_enter Tryz.func131,Tryz.ntmps131
   go_wp2
   all_goals go_ret2
   all_goals exact⟨rfl,rfl⟩
 · have h4:(s.size:Int)<(a:Int)+4:=by omega
   go_enter Tryz.func131,Tryz.ntmps131
   go_wp2
   all_goals go_ret2
   all_goals exact⟨rfl,rfl⟩
theorem At_calls (s:ByteArray) (a:Nat) (w:World) (hs:s.size≤4611686018427387904) (ha:a≤4611686018427387904):
 Calls Tryz.prog 131 #[.string s,.int .i64 a] w fun e w'=>e=.returned (.tuple #[.int .i64 (atSpec (s.data.toList.drop a)).1,.int .i64 (atSpec (s.data.toList.drop a)).2])∧w=w':=by
 by_cases h:a<s.size
 · rw[drop_byte s a h]
   obtain⟨x,hx⟩: ∃x,s[a]=x:=⟨_,rfl⟩
   rw[hx]
   have hl:(s.data.toList.drop (a+1)).length=s.size - (a+1):=by rw[List.length_drop,←Lib.size_eq]
   have hxl:=x.toNat_lt
   rw[atSpec_cons]
   by_cases h1:(x.toNat:Int)<128
   · rw[if_pos h1];exact At_one s a w hs h x hx h1
   rw[if_neg h1]
   by_cases h2:192≤(x.toNat:Int)∧(x.toNat:Int)<224
   · rw[if_pos h2]
     by_cases h3:a+2≤s.size
     · exact At_two s a w hs h x hx h2.1 h2.2 h3
     · unfold atTail;rw[if_pos (by omega)];exact At_bad s a w hs h x hx (by omega) (by omega)
   rw[if_neg h2]
   by_cases h2:224≤(x.toNat:Int)∧(x.toNat:Int)<240
   · rw[if_pos h2]
     by_cases h3:a+3≤s.size
     · exact At_three s a w hs h x hx h2.1 h2.2 h3
     · unfold atTail;rw[if_pos (by omega)];exact At_bad s a w hs h x hx (by omega) (by omega)
   rw[if_neg h2]
   by_cases h2:240≤(x.toNat:Int)∧(x.toNat:Int)<248
   · rw[if_pos h2]
     by_cases h3:a+4≤s.size
     · exact At_four s a w hs h x hx h2.1 h2.2 h3
     · unfold atTail;rw[if_pos (by omega)];exact At_bad s a w hs h x hx (by omega) (by omega)
   rw[if_neg h2]
   exact At_bad s a w hs h x hx (by omega) (by omega)
 · rw[List.drop_eq_nil_of_le (by rw[←Lib.size_eq];omega)]
   exact At_none s a w hs ha (by omega)
end Go.Proofs.YtkkbplakgldlpaaGreatDoor

namespace Go.Proofs.YtkkbplakgldlpaaGreatDoor
open Go.RowKit
attribute [local go_sem] Oper.semAt_some
def runesFrom:Nat→List UInt8→Nat→List (Nat×Nat)
 |0,_,_=> []
 |n+1,l,p=>if l= []then []else if(Lib.decodeL l).1=65533∧(Lib.decodeL l).2=1 then []else(p,(Lib.decodeL l).1)::runesFrom n (l.drop (Lib.decodeL l).2) (p+(Lib.decodeL l).2)
def runes (s:ByteArray):List (Nat×Nat):=runesFrom s.size s.data.toList 0
theorem decode_tail (s:ByteArray) (k:Nat) (h:k<s.size):(if(s.extract k s.size).size=0 then(65533,0)else Utf8.decode (s.extract k s.size) 0)=Lib.decodeL (s.data.toList.drop k):=by
 have e:(s.extract k s.size)=⟨(s.data.toList.drop k).toArray⟩:=by
  apply ByteArray.ext
  apply Array.ext'
  rw[Lib.extract_data]
  dsimp only
  rw[List.take_of_length_le (by rw[List.length_drop,←Lib.size_eq];omega)]
 rw[if_neg (by rw[ByteArray.size_extract];omega),e]
 rfl
theorem Runes_calls (s:ByteArray) (w:World):
 Calls Tryz.prog 196 #[.string s] w fun e w'=>e=.returned (.func (.func 214) #[] #[.pointer (some ⟨w.heap.size,0,none⟩)])∧w.alloc (.cells #[.string s] 9)=w':=by
 go_enter Tryz.func196,Tryz.ntmps196
 go_wp2
 go_ret
 exact⟨rfl,rfl⟩
set_option maxRecDepth 100000 in
set_option maxHeartbeats 2000000 in
theorem runes_yields (s:ByteArray) (b:Nat) (hs:s.size≤1000000000):
 Yields Tryz.prog 214 #[.pointer (some ⟨b,0,none⟩)] (fun x:Nat×Nat=> #[.int .i64 x.1,.int .i32 x.2]) (runes s) (fun A=>A.cell? ⟨b,0,none⟩=some (.string s)∧Tabs A):=by
 intro n l J W hJn hJb hY h0
 refine callsIn_of_wp Tryz.func214 rfl trivial ?_ rfl
 simp only[Tryz.ntmps214,List.size_toArray,List.length_cons,List.length_nil,Nat.reduceAdd,Nat.reduceSub,Array.replicate_succ,Array.replicate_zero,List.push_toArray,List.append_toArray,List.nil_append,List.cons_append]
 gi_wp2
 gi_loopw [3] (fun i wr=> ∃(pre:List (Nat×Nat)) (f k:Nat),i=.int .i64 k∧k≤s.size∧s.size - k≤f∧Hid (runes s=pre++runesFrom f (s.data.toList.drop k) k)∧J pre wr) (fun i _=>s.size - (intOf i).toNat)
 case atStart=>exact⟨[],s.size,0,rfl,Nat.zero_le _,by omega,rfl,h0⟩
 case round=>
  obtain⟨pre,f,k,rfl,hk,hf,hr,hJ⟩:=hrel
  have hcr:wr.cell? ⟨b,0,none⟩=some (.string s):=(hJb _ _ hJ).1
  have hTr:Tabs wr:=(hJb _ _ hJ).2
  by_cases hlt:k<s.size
  · have hne:s.data.toList.drop k≠ []:=by
     intro e
     have:=congrArg List.length e
     rw[List.length_drop,←Lib.size_eq]at this
     simp at this
     omega
    obtain⟨f,rfl⟩: ∃f',f=f'+1:=⟨f - 1,by omega⟩
    have cD:=Tryz.utf8_DecodeRuneInString (s.extract k s.size) wr hTr.2.1
    have hdc:Lib.decodeGo (s.extract k s.size)=Lib.decodeL (s.data.toList.drop k):=decode_tail s k hlt
    have hw1:=Lib.decodeL_width (s.data.toList.drop k)
    have hw2:=Lib.decodeL_le _ hne
    have hw3:=Lib.decodeL_rune (s.data.toList.drop k)
    rw[List.length_drop,←Lib.size_eq]at hw2
    have hr':=hr.out
    simp only[runesFrom]at hr'
    rw[if_neg hne,List.drop_drop]at hr'
    rw[hdc]at cD
    generalize Lib.decodeL (s.data.toList.drop k)=D at cD hw1 hw2 hw3 hr'
    obtain⟨r,z⟩:=D
    simp only at cD hw1 hw2 hw3 hr'
    have CD:=Lib.hid cD
    clear cD hdc hne hr
    by_cases hbad:r=65533∧z=1
    · rw[if_pos hbad,List.append_nil]at hr'
      have Hr:=Lib.hid hr'
      obtain⟨hr1,hz1⟩:=hbad
      have e1:((r:Int)==65533)=true:=by simp;omega
      have e2:((z:Int)==1)=true:=by simp;omega
      clear hr' hr1 hz1
      gi_wp2_with (refine⟨trivial, ?_⟩;gi_at_call 215;refine(callsIn_wide.2 CD.out).mono ?_;rintro e w2 ⟨rfl,hb2⟩;have hJ2:=hJn _ _ _ hJ hb2)
      refine bodyPost_ret (results_none rfl _ _ _) rfl ?_
      exact⟨⟨_,rfl⟩,by rw[Hr.out];exact hJ2⟩
    · rw[if_neg hbad]at hr'
      have Hr:=Lib.hid hr'
      have Hr2:Hid (runes s=(pre++ [(k,r)])++runesFrom f (s.data.toList.drop (k+z)) (k+z)):=by
       show runes s=_
       rw[hr'];simp
      clear hr'
      rcases(by omega:r≠65533∨(r=65533∧z≠1))with h1|⟨h1,h2⟩
      · have e1:((r:Int)==65533)=false:=by simp;omega
        clear h1 hbad
        gi_wp2_with (refine⟨trivial, ?_⟩;gi_at_call 215;refine(callsIn_wide.2 CD.out).mono ?_;rintro e w2 ⟨rfl,hb2⟩;obtain⟨fn,tmps,assign,body,hy,hR⟩:=hY pre (k,r) _ w2 Hr.out (hJn _ _ _ hJ hb2);dsimp only at hy)
        refine hR.mono ?_
        rintro e W3 ⟨rfl,hJ3⟩
        clear hy hR
        gi_wp2
        go_roundw
        case rel=>exact⟨pre++ [(k,r)],f,k+z,by go_num,by omega,by omega,Hr2,hJ3⟩
        case measure=>simp[intOf];omega
      · have e1:((r:Int)==65533)=true:=by simp;omega
        have e2:((z:Int)==1)=false:=by simp;omega
        clear h1 h2 hbad
        gi_wp2_with (refine⟨trivial, ?_⟩;gi_at_call 215;refine(callsIn_wide.2 CD.out).mono ?_;rintro e w2 ⟨rfl,hb2⟩;obtain⟨fn,tmps,assign,body,hy,hR⟩:=hY pre (k,r) _ w2 Hr.out (hJn _ _ _ hJ hb2);dsimp only at hy)
        refine hR.mono ?_
        rintro e W3 ⟨rfl,hJ3⟩
        clear hy hR
        gi_wp2
        go_roundw
        case rel=>exact⟨pre++ [(k,r)],f,k+z,by go_num,by omega,by omega,Hr2,hJ3⟩
        case measure=>simp[intOf];omega
  · obtain rfl:k=s.size:=by omega
    have hr':=hr.out
    rw[List.drop_eq_nil_of_le (by rw[←Lib.size_eq];omega)]at hr'
    have hz:runesFrom f [] s.size= []:=by cases f<;>simp[runesFrom]
    rw[hz,List.append_nil]at hr'
    have Hr:=Lib.hid hr'
    clear hr hr'
    gi_wp2
    go_end0
    exact⟨⟨_,rfl⟩,by rw[Hr.out];exact hJ⟩
end Go.Proofs.YtkkbplakgldlpaaGreatDoor

namespace Go.Proofs.YtkkbplakgldlpaaGreatDoor
open Go.RowKit
attribute [local go_sem] Oper.semAt_some
def letterTab:List (Int×Int):= [(34,34),(92,92),(8,98),(9,116),(10,110),(12,102),(13,114)]
def ents:List (Int×Int)→Nat→List MapEntry
 | [],_=> []
 |(k,v)::r,i=>{key:=.int .i32 k,val:=.int .i32 v,born:=i}::ents r (i+1)
def withMap (w:World) (kv:List (Int×Int)):World:=w.alloc (.map (ents kv 0).toArray kv.length)
def findKV (a:Int):List (Int×Int)→Option Int
 | []=>none
 |(k,v)::r=>if a=k then some v else findKV a r
theorem findNow_ents (a:Int): ∀(kv:List (Int×Int)) (i j:Nat),∃q,Instr.findNow (.int .i32) (.int .i32 a) (ents kv i) j=some q∧q.map (·.2)=(findKV a kv).map (Value.int .i32)
 | [],_,_=>⟨none,rfl,rfl⟩
 |(k,v)::r,i,j=>by
  by_cases h:a=k
  · subst h
    exact⟨some (j,.int .i32 v),by simp[ents,Instr.findNow,Instr.sameNow],by simp[findKV]⟩
  · obtain⟨q,h1,h2⟩:=findNow_ents a r (i+1) (j+1)
    refine⟨q, ?_,by rw[h2];simp[findKV,h]⟩
    have:(a==k)=false:=by simpa using h
    simp[ents,Instr.findNow,Instr.sameNow,this,h1]
theorem ents_append: ∀(kv:List (Int×Int)) (i:Nat) (k v:Int),ents (kv++ [(k,v)]) i=ents kv i++ [{key:=.int .i32 k,val:=.int .i32 v,born:=i+kv.length}]
 | [],i,k,v=>by simp[ents]
 |(a,b)::r,i,k,v=>by
  simp only[List.cons_append,ents,ents_append r,List.length_cons]
  rw[show i+1+r.length=i+(r.length+1)from by omega]
theorem alloc_set (w:World) (x y:Obj):(w.alloc x).heap.setIfInBounds w.heap.size y=(w.alloc y).heap:=by
 show(w.heap.push x).setIfInBounds w.heap.size y=w.heap.push y
 apply Array.ext
 · simp
 · intro i h1 h2
   rw[Array.getElem_setIfInBounds (by simpa using h1)]
   rw[Array.getElem_push,Array.getElem_push]
   by_cases hi:w.heap.size=i
   · subst hi
     simp
   · rw[if_neg hi]
     have:i<w.heap.size:=by simp at h1;omega
     simp[this]
theorem run_check (e:Bool) (k:Int) (n:Nat) (w:World):(Instr.checkKey e (n+1) 21 (.int .i32 k)).run Tryz.prog w=.ok () w:=by
 simp[Instr.checkKey,run_underlying Tryz.underlying21]
theorem run_check10 (e:Bool) (k:Int) (w:World):(Instr.checkKey e 10000 21 (.int .i32 k)).run Tryz.prog w=.ok () w:=run_check e k 9999 w
theorem run_insert (w:World) (kv:List (Int×Int)) (k v:Int) (h:findKV k kv=none):
 (Instr.mapUpdate 210 (.map (some w.heap.size)) (.int .i32 k) (.int .i32 v)).run Tryz.prog (withMap w kv)=.ok () (withMap w (kv++ [(k,v)])):=by
 have hb:(withMap w kv).heap[w.heap.size]? =some (.map (ents kv 0).toArray kv.length):=heap_alloc_new _ _
 obtain⟨q,h1,h2⟩:=findNow_ents k kv 0 0
 rw[h]at h2
 have hq:q=none:=by cases q<;>simp_all
 subst hq
 have hck:=run_check10 false k (withMap w kv)
 have hfk:(Instr.findKey 21 (.int .i32 k) (ents kv 0)).run Tryz.prog (withMap w kv)=.ok none (withMap w kv):=by
  simp[Instr.findKey,Sem.run_bind,run_underlying Tryz.underlying21,h1]
 unfold Instr.mapUpdate
 simp only[Sem.run_bind,run_underlying Tryz.underlying210,Result.andThen,getObj,Sem.run,hb,hck,hfk,setObj]
 simp only[withMap,ents_append,List.length_append,List.length_cons,List.length_nil,Nat.zero_add]
 rw[alloc_set,List.push_toArray]
 rfl
theorem run_look (w:World) (b:Nat) (kv:List (Int×Int)) (k:Int) (hb:w.heap[b]? =some (.map (ents kv 0).toArray kv.length)):
 (Instr.lookup 210 (.map (some b)) (.int .i32 k) true).run Tryz.prog w=.ok (.tuple #[.int .i32 ((findKV k kv).getD 0),.bool (findKV k kv).isSome]) w:=by
 obtain⟨q,h1,h2⟩:=findNow_ents k kv 0 0
 have hck:=fun e=>run_check10 e k w
 have hfk:(Instr.findKey 21 (.int .i32 k) (ents kv 0)).run Tryz.prog w=.ok q w:=by
  simp[Instr.findKey,Sem.run_bind,run_underlying Tryz.underlying21,h1]
 unfold Instr.lookup
 simp only[Sem.run_bind,run_underlying Tryz.underlying210,Result.andThen,getObj,Sem.run,hb]
 cases q with
 |none=>
  have:findKV k kv=none:=by cases hq:findKV k kv<;>simp_all
  rw[this]
  have hz:(zeroValue 21).run Tryz.prog w=.ok (.int .i32 0) w:=Tryz.zeroValue21 w
  simp[hck,hfk,hz,Result.andThen]
 |some p=>
  obtain⟨i,v⟩:=p
  obtain⟨u,hu⟩: ∃u,findKV k kv=some u:=by cases hq:findKV k kv<;>simp_all
  rw[hu]at h2 ⊢
  simp at h2
  subst h2
  simp[hck,hfk]
set_option maxHeartbeats 1000000 in
set_option maxRecDepth 100000 in
theorem letters_calls (w:World):
 Calls Tryz.prog 199 #[] w fun e w'=>e=.returned (.map (some w.heap.size))∧withMap w letterTab=w':=by
 have hmm:(Instr.makeMap 210 none).run Tryz.prog w=.ok (.map (some w.heap.size)) (withMap w []):=run_makeMap _ w
 have u1:=run_insert w [] 34 34 rfl
 have u2:=run_insert w [(34,34)] 92 92 rfl
 have u3:=run_insert w [(34,34),(92,92)] 8 98 rfl
 have u4:=run_insert w [(34,34),(92,92),(8,98)] 9 116 rfl
 have u5:=run_insert w [(34,34),(92,92),(8,98),(9,116)] 10 110 rfl
 have u6:=run_insert w [(34,34),(92,92),(8,98),(9,116),(10,110)] 12 102 rfl
 have u7:=run_insert w [(34,34),(92,92),(8,98),(9,116),(10,110),(12,102)] 13 114 rfl
 simp only[List.nil_append,List.cons_append]at u1 u2 u3 u4 u5 u6 u7
 go_enter Tryz.func199,Tryz.ntmps199
 go_wp2
 go_ret
 exact⟨rfl,rfl⟩
end Go.Proofs.YtkkbplakgldlpaaGreatDoor

namespace Go.Proofs.YtkkbplakgldlpaaGreatDoor
open Go.RowKit
attribute [local go_sem] Oper.semAt_some
def hexd (n:Nat):UInt8:=if n<10 then UInt8.ofNat (48+n)else UInt8.ofNat (87+n)
def quoteRune (r:Nat):List UInt8:=
 if 32≤r∧r≠34∧r≠92 then Lib.encodeRune r
 else match findKV r letterTab with
  |some c=> [92,UInt8.ofNat c.toNat]
  |none=> [92,117,48,48,hexd (r / 16),hexd (r % 16)]
def quoteRunes (l:List (Nat×Nat)):List UInt8:=l.flatMap fun x=>quoteRune x.2
theorem standsFor_calls (r:Int) (w:World):Calls Tryz.prog 197 #[.int .i32 r] w fun e w'=>e=.returned (.bool (decide (32≤r∧r≠34∧r≠92)))∧w=w':=by
 go_enter Tryz.func197,Tryz.ntmps197
 go_wp2
 all_goals go_ret
 all_goals refine⟨ret_bool ?_,rfl⟩
 all_goals first|(simp_all;done)|(simp_all;omega)|(rw[Bool.eq_iff_iff];simp_all)
theorem standsFor_calls2 {r:Int} {B:Bool} (h:decide (32≤r∧r≠34∧r≠92)=B) (w:World):Calls Tryz.prog 197 #[.int .i32 r] w fun e w'=>e=.returned (.bool B)∧w=w':=by
 subst h
 exact standsFor_calls _ _
theorem letters_calls2 (w:World):
 Calls Tryz.prog 199 #[] w fun e w'=>e=.returned (.map (some w.heap.size))∧w.alloc (.map (ents letterTab 0).toArray letterTab.length)=w':=letters_calls w
def Letters (W:World) (lb D:Nat) (m:Option Nat):Prop:=
 W.heap[lb]? =some (.cells #[.map m] 210 (0,0))∧ ∀mb,m=some mb→D+1<mb∧W.heap[mb]? =some (.map (ents letterTab 0).toArray letterTab.length)
theorem liesB:liesAt Tryz.prog Tryz.prog.depth 113 (2 / Tryz.prog.cellsOf 113) 0 113 1=true:=by kernel_rfl
def BB (w:World) (B g:Nat) (bs:List UInt8):Prop:= ∃p v,Bld w B g 0 113 #[p,v] bs
theorem Bld.keep {A W:World} {B g o:Nat} {t:TypeId} {cs:Array Value} {bs:List UInt8} (h:Bld A B g o t cs bs) {row:Option Nat} (hg:A.grownBy W row) (hr: ∀k,row=some k→ ∃ob:Obj,A.heap[k]? =some ob∧ob.isCells=false):Bld W B g o t cs bs:=by
 obtain⟨hB,hb,ht,hs,h0,v,h1,hown⟩:=h
 refine⟨hB,(grownBy_keeps_cells hg hr hb rfl).trans hb,ht,hs,h0,v,h1,hown.kept hg ?_⟩
 cases hv:v.ownBlock with
 |none=>exact .inl rfl
 |some k=>
  refine .inr fun e=> ?_
  obtain⟨ob,ho,hc⟩:=hr k e.symm
  obtain⟨c,fz,hk⟩:=ownsRow_kind hown k hv
  rw[hk]at ho
  cases ho
  cases hc
theorem below_grown {A W:World} (h:Below A.heap.size A W):A.grownBy W none:=⟨h.os,h.tape,h.output,h.size,fun i hi _=>h.block i hi⟩
theorem BB.below {A W:World} {B g:Nat} {bs:List UInt8} (h:BB A B g bs) (hb:Below A.heap.size A W):BB W B g bs:=by
 obtain⟨p,v,h⟩:=h
 exact⟨p,v,h.keep (below_grown hb) (fun k e=>by cases e)⟩
theorem BB.put {A:World} {B g k:Nat} {bs:List UInt8} {o o':Obj} (h:BB A B g bs) (ho:A.heap[k]? =some o) (hc:o.isCells=false):BB (A.putObj k o') B g bs:=by
 obtain⟨p,v,h⟩:=h
 exact⟨p,v,h.keep (grownBy_putObj' A k o') (fun j e=>by cases e;exact⟨o,ho,hc⟩)⟩
theorem BB.lt {A:World} {B g:Nat} {bs:List UInt8} (h:BB A B g bs):g<A.heap.size:=by
 obtain⟨p,v,h⟩:=h
 exact h.lt
theorem BB.base {A:World} {B g:Nat} {bs:List UInt8} (h:BB A B g bs):B≤g:=by
 obtain⟨p,v,h⟩:=h
 exact h.1
theorem BB.store {A:World} {B g k:Nat} {bs:List UInt8} {cs:Array Value} {t:TypeId} (h:BB A B g bs) (hk:A.heap[k]? =some (.cells cs t (0,0))) (ht:t≠5) (hne:k≠g) (i:Nat) (u:Value):BB (A.setCell ⟨k,i,none⟩ u) B g bs:=by
 obtain⟨p,v,hB,hb,ht',hs,h0,v',h1,hown⟩:=h
 refine⟨p,v,hB,(Below.heap_setCell _ _ _ _ (fun e=>hne e.symm)).trans hb,ht',hs,h0,v',h1, ?_⟩
 exact hown.kept (row:=some k) ⟨rfl,rfl,rfl,by simp[World.setCell],fun j _ hj=>Below.heap_setCell _ _ _ _ (fun e=>hj (by simp[e]))⟩ (Or.inr (Lib.ownBlock_ne hown hk ht))
theorem bb_WriteByte {B g:Nat} {bs:List UInt8} (c:Int) (hc0:0≤c) (hc1:c<256) {w:World} (h:BB w B g bs) (hlen:bs.length≤100000000000):
 Calls Tryz.prog 195 #[.pointer (some ⟨g,0,none⟩),.int .u8 c] w fun e w'=>e=.returned .nilIface∧BB w' B g (bs++ [UInt8.ofNat c.toNat])∧Below B w w'∧Kept g w w':=by
 obtain⟨p,v,h⟩:=h
 refine(WriteByte_calls B g 0 _ _ bs c hc0 hc1 w h liesB (by omega) (by have:=h.lt;have:=h.1;omega)).mono ?_
 rintro e w' ⟨rfl,⟨v',h'⟩,hb,hk⟩
 exact⟨rfl,⟨_,v',h'⟩,hb,hk⟩
theorem bb_WriteB {B g:Nat} {bs:List UInt8} (u:UInt8) {w:World} (h:BB w B g bs) (hlen:bs.length≤100000000000):
 Calls Tryz.prog 195 #[.pointer (some ⟨g,0,none⟩),.int .u8 u.toNat] w fun e w'=>e=.returned .nilIface∧BB w' B g (bs++ [u])∧Below B w w'∧Kept g w w':=by
 have hu:=u.toNat_lt
 have h1:=bb_WriteByte (u.toNat:Int) (by omega) (by omega) h hlen
 have e:UInt8.ofNat (Int.toNat (u.toNat:Int))=u:=by rw[Int.toNat_natCast];simp
 rwa [e]at h1
theorem hexd_at: ∀n:Fin 16,(⟨#[48,49,50,51,52,53,54,55,56,57,97,98,99,100,101,102]⟩:ByteArray)[n.val]'(by simp[ByteArray.size])=hexd n.val:=by decide
theorem and15: ∀n:Fin 32,bits .and .i32 ((n.val:Nat):Int) 15=((n.val:Nat):Int) % 16:=by decide
theorem bb_WriteRune {B g:Nat} {bs:List UInt8} (r:Int) (hr0:0≤r) (hr1:r≤2147483647) {w:World} (h:BB w B g bs) (hlen:bs.length≤100000000000):
 Calls Tryz.prog 198 #[.pointer (some ⟨g,0,none⟩),.int .i32 r] w fun e w'=>(∃k:Int,e=.returned (.tuple #[.int .i64 k,.nilIface]))∧BB w' B g (bs++Lib.encodeRune r)∧Below B w w'∧Kept g w w':=by
 obtain⟨p,v,h⟩:=h
 refine(WriteRune_calls B g 0 _ _ bs r (by omega) hr1 w h liesB (by omega) (by have:=h.lt;have:=h.1;omega)).mono ?_
 rintro e w' ⟨hk0,⟨v',h'⟩,hb,hk⟩
 exact⟨hk0,⟨_,v',h'⟩,hb,hk⟩
theorem bb_WriteString {B g:Nat} {bs:List UInt8} (s:ByteArray) {w:World} (h:BB w B g bs) (hlen:bs.length+s.size≤100000000000):
 Calls Tryz.prog 163 #[.pointer (some ⟨g,0,none⟩),.string s] w fun e w'=>e=.returned (.tuple #[.int .i64 s.size,.nilIface])∧BB w' B g (bs++s.data.toList)∧Below B w w'∧Kept g w w':=by
 obtain⟨p,v,h⟩:=h
 refine(WriteString_calls B g 0 _ _ bs s w h liesB (by omega) (by have:=h.lt;have:=h.1;omega)).mono ?_
 rintro e w' ⟨rfl,⟨v',h'⟩,hb,hk⟩
 exact⟨rfl,⟨_,v',h'⟩,hb,hk⟩
theorem bb_String {B g:Nat} {bs:List UInt8} {w:World} (h:BB w B g bs) (h0:bs≠ []):
 Calls Tryz.prog 83 #[.pointer (some ⟨g,0,none⟩)] w fun e w'=>e=.returned (.string ⟨bs.toArray⟩)∧Below B w w'∧Kept g w w':=by
 obtain⟨p,v,h⟩:=h
 exact String_calls B g 0 _ _ bs w h h0
theorem letters_range {a c:Int} (h:findKV a letterTab=some c):34≤c∧c<128:=by
 simp only[letterTab,findKV]at h
 repeat' split at h
 all_goals first|(cases h;done)|(simp at h;omega)
theorem encode_small {c:Int} (h0:0≤c) (h1:c<128):Lib.encodeRune c= [UInt8.ofNat c.toNat]:=by
 unfold Lib.encodeRune
 rw[Lib.encodeRuneZ_one h0 (by omega)]
 rfl
theorem letters_none {r:Nat} (h:findKV r letterTab=none) (h2: ¬(32≤r∧r≠34∧r≠92)):r<32:=by
 simp only[letterTab,findKV]at h
 repeat' split at h
 all_goals first|(cases h;done)|omega
theorem quoteRune_len (r:Nat):(quoteRune r).length≤6:=by
 unfold quoteRune
 split
 · unfold Lib.encodeRune Lib.encodeRuneZ
   repeat' split
   all_goals simp
 · split<;>simp
theorem quoteRunes_len (l:List (Nat×Nat)):(quoteRunes l).length≤6*l.length:=by
 unfold quoteRunes
 induction l with
 |nil=>simp
 |cons x r ih=>simp only[List.flatMap_cons,List.length_append,List.length_cons];have:=quoteRune_len x.2;omega
theorem runesFrom_len: ∀(n:Nat) (l:List UInt8) (p:Nat),(runesFrom n l p).length≤n
 |0,_,_=>by simp[runesFrom]
 |n+1,l,p=>by
  simp only[runesFrom]
  split
  · simp
  · split
    · simp
    · simp only[List.length_cons];have:=runesFrom_len n (l.drop (Lib.decodeL l).2) (p+(Lib.decodeL l).2);omega
theorem runesFrom_le: ∀(n:Nat) (l:List UInt8) (p:Nat),∀x ∈ runesFrom n l p,x.2≤1114111
 |0,_,_,x,h=>by simp[runesFrom]at h
 |n+1,l,p,x,h=>by
  simp only[runesFrom]at h
  split at h
  · simp at h
  · split at h
    · simp at h
    · rcases List.mem_cons.1 h with rfl|h
      · exact Lib.decodeL_rune l
      · exact runesFrom_le n _ _ x h
end Go.Proofs.YtkkbplakgldlpaaGreatDoor
