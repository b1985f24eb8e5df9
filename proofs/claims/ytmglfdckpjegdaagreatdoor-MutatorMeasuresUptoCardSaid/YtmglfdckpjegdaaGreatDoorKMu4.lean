/- Parts: Words for memory: slices that read as lists, blocks known whole, append of any source (the kit's own words, copied as its page says). No condition. -/
import Derived.Laws.AppendOwn
import Derived.Lib.ValidU
import Derived.Lib.MapLaws
import Derived.Lib.RuneBytes
import Derived.Laws.IdiomStrings
import Derived.Lib.Builder
import Derived.Laws.OwnMore
import Derived.Deep.AppendLies
import Derived.Deep.Draws
import Derived.Laws.Rows
import Derived.Maps.AppendAt
import Derived.RegionTactic
import Derived.OwnWalk
import Derived.Test.YtmglfdckpjegdaaGreatDoorKMu2
set_option maxHeartbeats 20000000
namespace Go.Proofs.YtmglfdckpjegdaaGreatDoor
open Go.RowKit
def Oh (w:World) (B:Nat):List Val->List Value->Prop
 | [],ns=>ns= []
 |v::r,ns=> ∃cs rest,ns=cs++rest/\Ab w B v cs/\Oh w B r rest
theorem Ab.len {w:World} {B:Nat} {v:Val} {cs:List Value} (h:Ab w B v cs):cs.length=6/\ ∀u ∈ cs,u.oneCell'=true:=by
 obtain⟨k,b,n,t,l,o⟩:=v;simp only[Ab]at h;obtain⟨la,lc,oa,oc,rfl,_,_⟩:=h;refine⟨rfl,fun u hu=> ?_⟩;simp only[List.mem_cons,List.not_mem_nil,or_false]at hu;rcases hu with rfl|rfl|rfl|rfl|rfl|rfl<;>rfl
theorem Oh.len {w:World} {B:Nat}: ∀{l:List Val} {ns:List Value},Oh w B l ns->ns.length=l.length*6/\ ∀u ∈ ns,u.oneCell'=true
 | [],ns,h=>by
   have:ns= []:=h;subst this;exact⟨rfl,fun u hu=>by cases hu⟩
 |v::r,ns,h=>by
  obtain⟨cs,rest,rfl,h1,h2⟩:=h;obtain⟨a1,a2⟩:=h1.len;obtain⟨b1,b2⟩:=Oh.len h2;refine⟨by rw[List.length_append,a1,b1,List.length_cons];omega,fun u hu=> ?_⟩;rcases List.mem_append.1 hu with hu|hu
  . exact a2 u hu
  . exact b2 u hu
theorem A1.row {w:World} {B:Nat}: ∀{l:List Val} {g off:Nat},A1 w B l g off-> ∃ns,Oh w B l ns/\ ∀j u,ns[j]? =some u->w.cell? ⟨g,off+j,none⟩=some u
 | [],_,_,_=>⟨[],rfl,fun j u h=>by simp at h⟩
 |v::r,g,off,h=>by
  simp only[A1]at h;obtain⟨⟨cs,h1,h2⟩,h3⟩:=h;obtain⟨ns,h4,h5⟩:=A1.row h3;refine⟨cs++ns,⟨cs,ns,rfl,h1,h4⟩,fun j u hu=> ?_⟩;have hl:=h1.len.1;by_cases hj:j<6
  . rw[List.getElem?_append_left (by omega)]at hu;exact h2 j u hu
  . rw[List.getElem?_append_right (by omega),hl]at hu;have:=h5 (j - 6) u hu
    rwa [show off+6+(j - 6)=off+j from by omega]at this
theorem Oh.holds {w w':World} {B B':Nat} (hk: ∀v cs,Ab w B v cs->Ab w' B' v cs) {g:Nat}: ∀{l:List Val} {ns:List Value} {off:Nat},Oh w B l ns->(∀j u,ns[j]? =some u->w'.cell? ⟨g,off+j,none⟩=some u)->A1 w' B' l g off
 | [],_,_,_,_=>by simp[A1]
 |v::r,ns,off,h,hc=>by
  obtain⟨cs,rest,rfl,h1,h2⟩:=h;have hl:=h1.len.1;simp only[A1];refine⟨⟨cs,hk v cs h1,fun j u hu=>hc j u ?_⟩,Oh.holds hk h2 (fun j u hu=> ?_)⟩
  . have:=(List.getElem?_eq_some_iff.1 hu).1;rw[List.getElem?_append_left this];exact hu
  . rw[show off+6+j=off+(6+j)from by omega];refine hc (6+j) u ?_;rw[List.getElem?_append_right (by omega),hl,show 6+j - 6=j from by omega];exact hu
theorem Oh.snoc {w:World} {B:Nat} {v:Val} {cs:List Value} (hv:Ab w B v cs): ∀{l:List Val} {ns:List Value},Oh w B l ns->Oh w B (l++ [v]) (ns++cs)
 | [],ns,h=>by
   have:ns= []:=h;subst this;exact⟨cs, [],by simp,hv,rfl⟩
 |x::r,ns,h=>by
  obtain⟨c1,rest,rfl,h1,h2⟩:=h;exact⟨c1,rest++cs,by simp,h1,Oh.snoc hv h2⟩
def within:Val->List Val
 | .mk k _ _ _ l o=>if k=5 then l else if k=6 then o.map (·.2)else []
def Dy:List UInt8->Nat->Int->Option Int
 |_,0,r=>some r
 | [],_+1,_=>none
 |d::l,n+1,r=>if(d.toNat:Int)<128\/192<=(d.toNat:Int)then none else Dy l n (64*r+d.toNat - 128)
def El (F:Option Int) (n:Nat) (least:Int):Int×Int:=
 match F with
 |none=>(0,0)
 |some r=>if r<least\/1114111<r\/(55296<=r/\r<57344)then(0,0)else(r,n)
def Cs (rest:List UInt8) (n:Nat) (r0 least:Int):Int×Int:=
 if rest.length+1<n then(0,0)else El (Dy rest (n - 1) r0) n least
def I6:List UInt8->Int×Int
 | []=>(0,0)
 |c::rest=>
  if(c.toNat:Int)<128 then(c.toNat,1)
  else if 192<=(c.toNat:Int)/\(c.toNat:Int)<224 then Cs rest 2 (c.toNat - 192) 128
  else if 224<=(c.toNat:Int)/\(c.toNat:Int)<240 then Cs rest 3 (c.toNat - 224) 2048
  else if 240<=(c.toNat:Int)/\(c.toNat:Int)<248 then Cs rest 4 (c.toNat - 240) 65536
  else(0,0)
theorem Pp (s:ByteArray) (a:Nat) (h:a<s.size):s.data.toList.drop a=s[a]::s.data.toList.drop (a+1):=by
 rw[List.drop_eq_getElem_cons (by rw[<-Lib.size_eq];exact h)];rfl
theorem Ci (d:UInt8) (l:List UInt8) (n:Nat) (r:Int):Dy (d::l) (n+1) r=if(d.toNat:Int)<128\/192<=(d.toNat:Int)then none else Dy l n (64*r+d.toNat - 128):=rfl
theorem Jd (c:UInt8) (rest:List UInt8):I6 (c::rest)=
 (if(c.toNat:Int)<128 then((c.toNat:Int),(1:Int))
 else if 192<=(c.toNat:Int)/\(c.toNat:Int)<224 then Cs rest 2 (c.toNat - 192) 128
 else if 224<=(c.toNat:Int)/\(c.toNat:Int)<240 then Cs rest 3 (c.toNat - 224) 2048
 else if 240<=(c.toNat:Int)/\(c.toNat:Int)<248 then Cs rest 4 (c.toNat - 240) 65536
 else(0,0)):=rfl
set_option maxRecDepth 1000000 in
theorem Apf (s:ByteArray) (a:Nat) (w:World) (hs:s.size<=4611686018427387904) (h:a<s.size) (x:UInt8) (hx:s[a]=x) (h1:192<=(x.toNat:Int)) (h2:(x.toNat:Int)<224) (h3:a+2<=s.size):
 Calls Tryz.prog 130 #[.string s,.int .i64 a] w fun e w'=>e=.returned (.tuple #[.int .i64 (Cs (s.data.toList.drop (a+1)) 2 (x.toNat - 192) 128).1,.int .i64 (Cs (s.data.toList.drop (a+1)) 2 (x.toNat - 192) 128).2])/\w=w':=by
 have hlen: ¬(s.data.toList.drop (a+1)).length+1<2:=by
  rw[List.length_drop,<-Lib.size_eq];omega
 obtain⟨F,hF⟩: ∃F,Dy (s.data.toList.drop (a+1)) (2 - 1) (x.toNat - 192)=F:=⟨_,rfl⟩;have hat:Cs (s.data.toList.drop (a+1)) 2 (x.toNat - 192) 128=El F 2 128:=by
  unfold Cs El;rw[if_neg hlen,hF]
 rw[hat];have H0:=Lib.hid hF;clear hat hlen hF;have e1:decide (s.size<=a)=false:=by simp;omega
 have e2:decide ((x.toNat:Int)<128)=false:=by simp;omega
 have e3:(a:Int)+2<=(s.size:Int):=by omega
 go_enter Tryz.func130,Tryz.ntmps130;go_wp2
 go_loop [8,10] (fun r i=> ∃k:Nat,∃rr:Int,1<=k/\k<=2/\i=.int .i64 k/\r=.int .i64 rr/\0<=rr/\(k<=1->rr<=31)/\(k<=2->rr<=2047)/\(k<=3->rr<=131071)/\rr<=8388607/\Hid (Dy (s.data.toList.drop (a+k)) (2 - k) rr=F)) (fun _ i=>2 - (intOf i).toNat)
 case atStart=>exact⟨1,(x.toNat:Int) - 192,by omega,by omega,rfl,rfl,by omega,by omega,by omega,by omega,by omega,H0⟩
 case round=>
  obtain⟨k,rr,hk1,hk2,rfl,rfl,hr0,hr1,hr2,hr3,hr4,hf⟩:=hrel;clear H0;by_cases hlt:k<2
  . obtain rfl:k=1:=by omega
    have hak:a+1<s.size:=by omega
    obtain⟨y,hy⟩: ∃y,s[a+1]=y:=⟨_,rfl⟩;have hyl:(y.toNat:Int)<256:=by have:=y.toNat_lt;omega
    have hf':=hf.out;rw[Pp s (a+1) hak,hy,show 2 - 1=(2 - (1+1))+1 from by omega]at hf';rw[Ci]at hf';by_cases hc:(y.toNat:Int)<128\/192<=(y.toNat:Int)
    . rw[if_pos hc]at hf';subst hf';clear hf;rcases hc with hc|hc
      all_goals
       go_wp2
       all_goals go_ret2
       all_goals exact⟨rfl,rfl⟩
    . rw[if_neg hc]at hf';have Hf:=Lib.hid hf';clear hf hf';have hc1:128<=(y.toNat:Int):=by omega
      have hc2:(y.toNat:Int)<192:=by omega
      clear hc;go_wp2
      go_round
      case rel=>exact⟨1+1,64*rr+y.toNat - 128,by omega,by omega,by go_num,rfl,by omega,by omega,by omega,by omega,by omega,Hf⟩
      case measure=>first|(simp[intOf];done)|(simp[intOf];omega)
  . obtain rfl:k=2:=by omega
    have hf':=hf.out;rw[Nat.sub_self]at hf';rw[show Dy (s.data.toList.drop (a+2)) 0 rr=some rr from by cases (s.data.toList.drop (a+2))<;>rfl]at hf';subst hf';clear hf;by_cases hbad:rr<128\/1114111<rr\/(55296<=rr/\rr<57344)
    . have hv:El (some rr) 2 128=(0,0):=by unfold El;simp only;rw[if_pos hbad]
      have Hv:=Lib.hid hv;clear hv;have hb:(rr<128)\/(¬rr<128/\1114111<rr)\/(¬rr<128/\ ¬1114111<rr/\55296<=rr/\rr<57344):=by omega
      clear hbad;rcases hb with b1|⟨b1,b2⟩|⟨b1,b2,b3,b4⟩
      all_goals
       go_wp2
       all_goals go_ret2
       all_goals exact⟨by rw[Hv.out];rfl,rfl⟩
    . have hv:El (some rr) 2 128=(rr,2):=by unfold El;simp only;rw[if_neg hbad];rfl
      have Hv:=Lib.hid hv;clear hv;have hb:(¬rr<128/\ ¬1114111<rr/\rr<55296)\/(¬rr<128/\ ¬1114111<rr/\55296<=rr/\ ¬rr<57344):=by omega
      clear hbad;rcases hb with⟨b1,b2,b3⟩|⟨b1,b2,b3,b4⟩
      all_goals
       go_wp2
       all_goals go_ret2
       all_goals exact⟨by rw[Hv.out];rfl,rfl⟩
set_option maxRecDepth 1000000 in
theorem Akb (s:ByteArray) (a:Nat) (w:World) (hs:s.size<=4611686018427387904) (h:a<s.size) (x:UInt8) (hx:s[a]=x) (h1:224<=(x.toNat:Int)) (h2:(x.toNat:Int)<240) (h3:a+3<=s.size):
 Calls Tryz.prog 130 #[.string s,.int .i64 a] w fun e w'=>e=.returned (.tuple #[.int .i64 (Cs (s.data.toList.drop (a+1)) 3 (x.toNat - 224) 2048).1,.int .i64 (Cs (s.data.toList.drop (a+1)) 3 (x.toNat - 224) 2048).2])/\w=w':=by
 have hlen: ¬(s.data.toList.drop (a+1)).length+1<3:=by
  rw[List.length_drop,<-Lib.size_eq];omega
 obtain⟨F,hF⟩: ∃F,Dy (s.data.toList.drop (a+1)) (3 - 1) (x.toNat - 224)=F:=⟨_,rfl⟩;have hat:Cs (s.data.toList.drop (a+1)) 3 (x.toNat - 224) 2048=El F 3 2048:=by
  unfold Cs El;rw[if_neg hlen,hF]
 rw[hat];have H0:=Lib.hid hF;clear hat hlen hF;have e1:decide (s.size<=a)=false:=by simp;omega
 have e2:decide ((x.toNat:Int)<128)=false:=by simp;omega
 have e3:(a:Int)+3<=(s.size:Int):=by omega
 go_enter Tryz.func130,Tryz.ntmps130;go_wp2
 go_loop [8,10] (fun r i=> ∃k:Nat,∃rr:Int,1<=k/\k<=3/\i=.int .i64 k/\r=.int .i64 rr/\0<=rr/\(k<=1->rr<=31)/\(k<=2->rr<=2047)/\(k<=3->rr<=131071)/\rr<=8388607/\Hid (Dy (s.data.toList.drop (a+k)) (3 - k) rr=F)) (fun _ i=>3 - (intOf i).toNat)
 case atStart=>exact⟨1,(x.toNat:Int) - 224,by omega,by omega,rfl,rfl,by omega,by omega,by omega,by omega,by omega,H0⟩
 case round=>
  obtain⟨k,rr,hk1,hk2,rfl,rfl,hr0,hr1,hr2,hr3,hr4,hf⟩:=hrel;clear H0;by_cases hlt:k<3
  . have hak:a+k<s.size:=by omega
    obtain⟨y,hy⟩: ∃y,s[a+k]=y:=⟨_,rfl⟩;have hyl:(y.toNat:Int)<256:=by have:=y.toNat_lt;omega
    have hf':=hf.out;rw[Pp s (a+k) hak,hy,show 3 - k=(3 - (k+1))+1 from by omega]at hf';rw[Ci]at hf';by_cases hc:(y.toNat:Int)<128\/192<=(y.toNat:Int)
    . rw[if_pos hc]at hf';subst hf';clear hf;rcases hc with hc|hc
      all_goals
       go_wp2
       all_goals go_ret2
       all_goals exact⟨rfl,rfl⟩
    . rw[if_neg hc]at hf';have Hf:=Lib.hid hf';clear hf hf';have hc1:128<=(y.toNat:Int):=by omega
      have hc2:(y.toNat:Int)<192:=by omega
      clear hc;go_wp2
      go_round
      case rel=>exact⟨k+1,64*rr+y.toNat - 128,by omega,by omega,by go_num,rfl,by omega,by omega,by omega,by omega,by omega,Hf⟩
      case measure=>first|(simp[intOf];done)|(simp[intOf];omega)
  . obtain rfl:k=3:=by omega
    have hf':=hf.out;rw[Nat.sub_self]at hf';rw[show Dy (s.data.toList.drop (a+3)) 0 rr=some rr from by cases (s.data.toList.drop (a+3))<;>rfl]at hf';subst hf';clear hf;by_cases hbad:rr<2048\/1114111<rr\/(55296<=rr/\rr<57344)
    . have hv:El (some rr) 3 2048=(0,0):=by unfold El;simp only;rw[if_pos hbad]
      have Hv:=Lib.hid hv;clear hv;have hb:(rr<2048)\/(¬rr<2048/\1114111<rr)\/(¬rr<2048/\ ¬1114111<rr/\55296<=rr/\rr<57344):=by omega
      clear hbad;rcases hb with b1|⟨b1,b2⟩|⟨b1,b2,b3,b4⟩
      all_goals
       go_wp2
       all_goals go_ret2
       all_goals exact⟨by rw[Hv.out];rfl,rfl⟩
    . have hv:El (some rr) 3 2048=(rr,3):=by unfold El;simp only;rw[if_neg hbad];rfl
      have Hv:=Lib.hid hv;clear hv;have hb:(¬rr<2048/\ ¬1114111<rr/\rr<55296)\/(¬rr<2048/\ ¬1114111<rr/\55296<=rr/\ ¬rr<57344):=by omega
      clear hbad;rcases hb with⟨b1,b2,b3⟩|⟨b1,b2,b3,b4⟩
      all_goals
       go_wp2
       all_goals go_ret2
       all_goals exact⟨by rw[Hv.out];rfl,rfl⟩
set_option maxRecDepth 1000000 in
theorem Ana (s:ByteArray) (a:Nat) (w:World) (hs:s.size<=4611686018427387904) (h:a<s.size) (x:UInt8) (hx:s[a]=x) (h1:240<=(x.toNat:Int)) (h2:(x.toNat:Int)<248) (h3:a+4<=s.size):
 Calls Tryz.prog 130 #[.string s,.int .i64 a] w fun e w'=>e=.returned (.tuple #[.int .i64 (Cs (s.data.toList.drop (a+1)) 4 (x.toNat - 240) 65536).1,.int .i64 (Cs (s.data.toList.drop (a+1)) 4 (x.toNat - 240) 65536).2])/\w=w':=by
 have hlen: ¬(s.data.toList.drop (a+1)).length+1<4:=by
  rw[List.length_drop,<-Lib.size_eq];omega
 obtain⟨F,hF⟩: ∃F,Dy (s.data.toList.drop (a+1)) (4 - 1) (x.toNat - 240)=F:=⟨_,rfl⟩;have hat:Cs (s.data.toList.drop (a+1)) 4 (x.toNat - 240) 65536=El F 4 65536:=by
  unfold Cs El;rw[if_neg hlen,hF]
 rw[hat];have H0:=Lib.hid hF;clear hat hlen hF;have e1:decide (s.size<=a)=false:=by simp;omega
 have e2:decide ((x.toNat:Int)<128)=false:=by simp;omega
 have e3:(a:Int)+4<=(s.size:Int):=by omega
 go_enter Tryz.func130,Tryz.ntmps130;go_wp2
 go_loop [8,10] (fun r i=> ∃k:Nat,∃rr:Int,1<=k/\k<=4/\i=.int .i64 k/\r=.int .i64 rr/\0<=rr/\(k<=1->rr<=31)/\(k<=2->rr<=2047)/\(k<=3->rr<=131071)/\rr<=8388607/\Hid (Dy (s.data.toList.drop (a+k)) (4 - k) rr=F)) (fun _ i=>4 - (intOf i).toNat)
 case atStart=>exact⟨1,(x.toNat:Int) - 240,by omega,by omega,rfl,rfl,by omega,by omega,by omega,by omega,by omega,H0⟩
 case round=>
  obtain⟨k,rr,hk1,hk2,rfl,rfl,hr0,hr1,hr2,hr3,hr4,hf⟩:=hrel;clear H0;by_cases hlt:k<4
  . have hak:a+k<s.size:=by omega
    obtain⟨y,hy⟩: ∃y,s[a+k]=y:=⟨_,rfl⟩;have hyl:(y.toNat:Int)<256:=by have:=y.toNat_lt;omega
    have hf':=hf.out;rw[Pp s (a+k) hak,hy,show 4 - k=(4 - (k+1))+1 from by omega]at hf';rw[Ci]at hf';by_cases hc:(y.toNat:Int)<128\/192<=(y.toNat:Int)
    . rw[if_pos hc]at hf';subst hf';clear hf;rcases hc with hc|hc
      all_goals
       go_wp2
       all_goals go_ret2
       all_goals exact⟨rfl,rfl⟩
    . rw[if_neg hc]at hf';have Hf:=Lib.hid hf';clear hf hf';have hc1:128<=(y.toNat:Int):=by omega
      have hc2:(y.toNat:Int)<192:=by omega
      clear hc;go_wp2
      go_round
      case rel=>exact⟨k+1,64*rr+y.toNat - 128,by omega,by omega,by go_num,rfl,by omega,by omega,by omega,by omega,by omega,Hf⟩
      case measure=>first|(simp[intOf];done)|(simp[intOf];omega)
  . obtain rfl:k=4:=by omega
    have hf':=hf.out;rw[Nat.sub_self]at hf';rw[show Dy (s.data.toList.drop (a+4)) 0 rr=some rr from by cases (s.data.toList.drop (a+4))<;>rfl]at hf';subst hf';clear hf;by_cases hbad:rr<65536\/1114111<rr\/(55296<=rr/\rr<57344)
    . have hv:El (some rr) 4 65536=(0,0):=by unfold El;simp only;rw[if_pos hbad]
      have Hv:=Lib.hid hv;clear hv;have hb:(rr<65536)\/(¬rr<65536/\1114111<rr)\/(¬rr<65536/\ ¬1114111<rr/\55296<=rr/\rr<57344):=by omega
      clear hbad;rcases hb with b1|⟨b1,b2⟩|⟨b1,b2,b3,b4⟩
      all_goals
       go_wp2
       all_goals go_ret2
       all_goals exact⟨by rw[Hv.out];rfl,rfl⟩
    . have hv:El (some rr) 4 65536=(rr,4):=by unfold El;simp only;rw[if_neg hbad];rfl
      have Hv:=Lib.hid hv;clear hv;have hb:(¬rr<65536/\ ¬1114111<rr/\rr<55296)\/(¬rr<65536/\ ¬1114111<rr/\55296<=rr/\ ¬rr<57344):=by omega
      clear hbad;rcases hb with⟨b1,b2,b3⟩|⟨b1,b2,b3,b4⟩
      all_goals
       go_wp2
       all_goals go_ret2
       all_goals exact⟨by rw[Hv.out];rfl,rfl⟩
set_option maxRecDepth 1000000 in
theorem Anb (s:ByteArray) (a:Nat) (w:World) (_hs:s.size<=4611686018427387904) (_ha:a<=4611686018427387904) (h:s.size<=a):
 Calls Tryz.prog 130 #[.string s,.int .i64 a] w fun e w'=>e=.returned (.tuple #[.int .i64 0,.int .i64 0])/\w=w':=by
 have e1:(s.size:Int)<=a:=by omega
 have e2:decide (s.size<=a)=true:=by simpa using h
 go_enter Tryz.func130,Tryz.ntmps130;go_wp2
 all_goals go_ret2
 all_goals exact⟨rfl,rfl⟩
set_option maxRecDepth 1000000 in
theorem Ape (s:ByteArray) (a:Nat) (w:World) (_hs:s.size<=4611686018427387904) (h:a<s.size) (x:UInt8) (hx:s[a]=x) (h1:(x.toNat:Int)<128):
 Calls Tryz.prog 130 #[.string s,.int .i64 a] w fun e w'=>e=.returned (.tuple #[.int .i64 x.toNat,.int .i64 1])/\w=w':=by
 go_enter Tryz.func130,Tryz.ntmps130;go_wp2
 all_goals go_ret2
 all_goals exact⟨rfl,rfl⟩
set_option maxRecDepth 1000000 in
theorem Z7 (s:ByteArray) (a:Nat) (w:World) (hs:s.size<=4611686018427387904) (h:a<s.size) (x:UInt8) (hx:s[a]=x) (h0:128<=(x.toNat:Int))
 (h1:(x.toNat:Int)<192\/248<=(x.toNat:Int)\/(192<=(x.toNat:Int)/\(x.toNat:Int)<224/\s.size<a+2)\/(224<=(x.toNat:Int)/\(x.toNat:Int)<240/\s.size<a+3)\/(240<=(x.toNat:Int)/\(x.toNat:Int)<248/\s.size<a+4)):
 Calls Tryz.prog 130 #[.string s,.int .i64 a] w fun e w'=>e=.returned (.tuple #[.int .i64 0,.int .i64 0])/\w=w':=by
 have hxl:(x.toNat:Int)<256:=by have:=x.toNat_lt;omega
 rcases h1 with h1|h1|⟨h1,h2,h3⟩|⟨h1,h2,h3⟩|⟨h1,h2,h3⟩
 . go_enter Tryz.func130,Tryz.ntmps130;go_wp2
   all_goals go_ret2
   all_goals exact⟨rfl,rfl⟩
 . have g1:192<=(x.toNat:Int):=by omega
   have g2: ¬((x.toNat:Int)<224):=by omega
   have g3:224<=(x.toNat:Int):=by omega
   have g4: ¬((x.toNat:Int)<240):=by omega
   have g5:240<=(x.toNat:Int):=by omega
   have g6: ¬((x.toNat:Int)<248):=by omega
   go_enter Tryz.func130,Tryz.ntmps130;go_wp2
   all_goals go_ret2
   all_goals exact⟨rfl,rfl⟩
 . have h4:(s.size:Int)<(a:Int)+2:=by omega
   go_enter Tryz.func130,Tryz.ntmps130;go_wp2
   all_goals go_ret2
   all_goals exact⟨rfl,rfl⟩
 . have h4:(s.size:Int)<(a:Int)+3:=by omega
   go_enter Tryz.func130,Tryz.ntmps130;go_wp2
   all_goals go_ret2
   all_goals exact⟨rfl,rfl⟩
 . have h4:(s.size:Int)<(a:Int)+4:=by omega
   go_enter Tryz.func130,Tryz.ntmps130;go_wp2
   all_goals go_ret2
   all_goals exact⟨rfl,rfl⟩
theorem Abr (s:ByteArray) (a:Nat) (w:World) (hs:s.size<=4611686018427387904) (ha:a<=4611686018427387904):
 Calls Tryz.prog 130 #[.string s,.int .i64 a] w fun e w'=>e=.returned (.tuple #[.int .i64 (I6 (s.data.toList.drop a)).1,.int .i64 (I6 (s.data.toList.drop a)).2])/\w=w':=by
 by_cases h:a<s.size
 . rw[Pp s a h];obtain⟨x,hx⟩: ∃x,s[a]=x:=⟨_,rfl⟩;rw[hx];have hl:(s.data.toList.drop (a+1)).length=s.size - (a+1):=by rw[List.length_drop,<-Lib.size_eq]
   have hxl:=x.toNat_lt;rw[Jd];by_cases h1:(x.toNat:Int)<128
   . rw[if_pos h1];exact Ape s a w hs h x hx h1
   rw[if_neg h1];by_cases h2:192<=(x.toNat:Int)/\(x.toNat:Int)<224
   . rw[if_pos h2];by_cases h3:a+2<=s.size
     . exact Apf s a w hs h x hx h2.1 h2.2 h3
     . unfold Cs;rw[if_pos (by omega)];exact Z7 s a w hs h x hx (by omega) (by omega)
   rw[if_neg h2];by_cases h2:224<=(x.toNat:Int)/\(x.toNat:Int)<240
   . rw[if_pos h2];by_cases h3:a+3<=s.size
     . exact Akb s a w hs h x hx h2.1 h2.2 h3
     . unfold Cs;rw[if_pos (by omega)];exact Z7 s a w hs h x hx (by omega) (by omega)
   rw[if_neg h2];by_cases h2:240<=(x.toNat:Int)/\(x.toNat:Int)<248
   . rw[if_pos h2];by_cases h3:a+4<=s.size
     . exact Ana s a w hs h x hx h2.1 h2.2 h3
     . unfold Cs;rw[if_pos (by omega)];exact Z7 s a w hs h x hx (by omega) (by omega)
   rw[if_neg h2];exact Z7 s a w hs h x hx (by omega) (by omega)
 . rw[List.drop_eq_nil_of_le (by rw[<-Lib.size_eq];omega)];exact Anb s a w hs ha (by omega)
end Go.Proofs.YtmglfdckpjegdaaGreatDoor
namespace Go.Proofs.YtmglfdckpjegdaaGreatDoor
theorem Apu (l:List UInt8) (k:Nat):((ByteArray.mk l.toArray).get! k)=l.getD k 0:=by
 show l.toArray[k]! =l.getD k 0;rw[getElem!_def];simp only[List.getElem?_toArray,List.getD_eq_getElem?_getD]
 cases l[k]? <;>rfl
theorem D2 (l:List UInt8):Lib.decodeL l=Lib.decodeN l.length (l.getD 0 0).toNat (l.getD 1 0).toNat (l.getD 2 0).toNat (l.getD 3 0).toNat:=by
 unfold Lib.decodeL;rw[Lib.decode_at];simp only[Nat.sub_zero,Nat.zero_add,Apu];rfl
theorem Gm (l:List UInt8) (r:Int):Dy l 0 r=some r:=by cases l<;>rfl
def L0 (l:List UInt8):Prop:=
 I6 l=if(Lib.decodeL l).1=65533/\(Lib.decodeL l).2=1 then(0,0)else(((Lib.decodeL l).1:Int),((Lib.decodeL l).2:Int))
theorem Pu {a b c d:Int} (h:a=c) (k:b=d):(a,b)=(c,d):=by rw[h,k]
theorem Aby (a:UInt8):L0 [a]:=by
 unfold L0;rw[D2];have ha:=a.toNat_lt;simp only[Jd,Cs,List.length_nil,List.length_cons,List.getD_cons_zero,Nat.zero_add];generalize a.toNat=x at ha ⊢;unfold Lib.decodeN;simp only[Nat.lt_irrefl,false_and,and_false,if_false]
 repeat' split
 all_goals first|rfl|(exfalso;omega)|(simp_all;done)|(simp_all;omega)
theorem Abz (a b:UInt8):L0 [a,b]:=by
 unfold L0;rw[D2];have ha:=a.toNat_lt;have hb:=b.toNat_lt;simp only[Jd,Cs,List.length_nil,List.length_cons,List.getD_cons_zero,List.getD_cons_succ,Nat.zero_add,Nat.reduceAdd,Nat.reduceLT,if_false,if_true,Nat.reduceSub];rw[show Dy [b] 1 ((a.toNat:Int) - 192)=_ from Ci b [] 0 _,Gm];generalize a.toNat=x at ha ⊢;generalize b.toNat=y at hb ⊢;unfold Lib.decodeN El;simp only[Nat.lt_irrefl,false_and,and_false,if_false]
 repeat' split
 all_goals first|rfl|(exfalso;omega)|(apply Pu<;>omega)|(simp_all;done)|(simp_all;omega)
theorem Ab0 (a b c:UInt8):L0 [a,b,c]:=by
 unfold L0;rw[D2];have ha:=a.toNat_lt;have hb:=b.toNat_lt;have hc:=c.toNat_lt;simp only[Jd,Cs,List.length_nil,List.length_cons,List.getD_cons_zero,List.getD_cons_succ,Nat.zero_add,Nat.reduceAdd,Nat.reduceLT,if_false,if_true,Nat.reduceSub];rw[show Dy [b,c] 1 ((a.toNat:Int) - 192)=_ from Ci b [c] 0 _,Gm,
  show Dy [b,c] 2 ((a.toNat:Int) - 224)=_ from Ci b [c] 1 _,show Dy [c] 1 (64*((a.toNat:Int) - 224)+b.toNat - 128)=_ from Ci c [] 0 _,Gm]
 generalize a.toNat=x at ha ⊢;generalize b.toNat=y at hb ⊢;generalize c.toNat=z at hc ⊢;unfold Lib.decodeN El;simp only[Nat.lt_irrefl,false_and,and_false,if_false]
 repeat' split
 all_goals first|rfl|(exfalso;omega)|(apply Pu<;>omega)|(simp_all;done)|(simp_all;omega)
theorem Ab1 (a b c d:UInt8) (r:List UInt8):L0 (a::b::c::d::r):=by
 unfold L0;rw[D2];have ha:=a.toNat_lt;have hb:=b.toNat_lt;have hc:=c.toNat_lt;have hd:=d.toNat_lt;rw[Jd];have l2: ¬(b::c::d::r).length+1<2:=by simp
 have l3: ¬(b::c::d::r).length+1<3:=by simp
 have l4: ¬(b::c::d::r).length+1<4:=by simp
 have e2:Cs (b::c::d::r) 2 ((a.toNat:Int) - 192) 128=El (if(b.toNat:Int)<128\/192<=(b.toNat:Int)then none else some (64*((a.toNat:Int) - 192)+b.toNat - 128)) 2 128:=by
  unfold Cs;rw[if_neg l2,show(2 - 1:Nat)=0+1 from rfl,Ci,Gm]
 have e3:Cs (b::c::d::r) 3 ((a.toNat:Int) - 224) 2048=El (if(b.toNat:Int)<128\/192<=(b.toNat:Int)then none else if(c.toNat:Int)<128\/192<=(c.toNat:Int)then none else some (64*(64*((a.toNat:Int) - 224)+b.toNat - 128)+c.toNat - 128)) 3 2048:=by
  unfold Cs;rw[if_neg l3,show(3 - 1:Nat)=1+1 from rfl,Ci,show(1:Nat)=0+1 from rfl,Ci,Gm]
 have e4:Cs (b::c::d::r) 4 ((a.toNat:Int) - 240) 65536=El (if(b.toNat:Int)<128\/192<=(b.toNat:Int)then none else if(c.toNat:Int)<128\/192<=(c.toNat:Int)then none else if(d.toNat:Int)<128\/192<=(d.toNat:Int)then none else some (64*(64*(64*((a.toNat:Int) - 240)+b.toNat - 128)+c.toNat - 128)+d.toNat - 128)) 4 65536:=by
  unfold Cs;rw[if_neg l4,show(4 - 1:Nat)=2+1 from rfl,Ci,show(2:Nat)=1+1 from rfl,Ci,show(1:Nat)=0+1 from rfl,Ci,Gm]
 rw[e2,e3,e4];clear e2 e3 e4 l2 l3 l4;have hl:3<(a::b::c::d::r).length:=by simp
 generalize (a::b::c::d::r).length=n at hl;simp only[List.getD_cons_zero,List.getD_cons_succ];generalize a.toNat=x at ha ⊢;generalize b.toNat=y at hb ⊢;generalize c.toNat=z at hc ⊢;generalize d.toNat=u at hd ⊢;unfold Lib.decodeN;by_cases b1:(y:Int)<128\/192<=(y:Int)
 . simp only[if_pos b1];unfold El
   repeat' split
   all_goals first|rfl|(exfalso;omega)|(apply Pu<;>omega)|(simp_all;done)|(simp_all;omega)
 simp only[if_neg b1];by_cases b2:(z:Int)<128\/192<=(z:Int)
 . simp only[if_pos b2];unfold El
   repeat' split
   all_goals first|rfl|(exfalso;omega)|(apply Pu<;>omega)|(simp_all;done)|(simp_all;omega)
 simp only[if_neg b2];by_cases b3:(u:Int)<128\/192<=(u:Int)
 . simp only[if_pos b3];unfold El
   repeat' split
   all_goals first|rfl|(exfalso;omega)|(apply Pu<;>omega)|(simp_all;done)|(simp_all;omega)
 simp only[if_neg b3];unfold El
 repeat' split
 all_goals first|rfl|(exfalso;omega)|(apply Pu<;>omega)|(simp_all;done)|(simp_all;omega)
theorem Qj (l:List UInt8) (h:l≠ []):L0 l:=
 match l,h with
 | [a],_=>Aby a
 | [a,b],_=>Abz a b
 | [a,b,c],_=>Ab0 a b c
 |a::b::c::d::r,_=>Ab1 a b c d r
end Go.Proofs.YtmglfdckpjegdaaGreatDoor
namespace Go.Proofs.YtmglfdckpjegdaaGreatDoor
open Go.RowKit
theorem Qf: ∀(n m:Nat) (l:List UInt8),l.length<=n->l.length<=m->Lib.validGoD n l=Lib.validGoD m l
 |0,m,l,hn,hm=>by
  obtain rfl:l= []:=List.eq_nil_of_length_eq_zero (by omega)
  cases m<;>simp[Lib.validGoD]
 |n+1,0,l,hn,hm=>by
  obtain rfl:l= []:=List.eq_nil_of_length_eq_zero (by omega);simp[Lib.validGoD]
 |n+1,m+1,l,hn,hm=>by
  simp only[Lib.validGoD];by_cases h:l= []
  . simp[h]
  . rw[if_neg h,if_neg h]
    split
    . rfl
    . have hw:=Lib.decodeL_width l;have hl:0<l.length:=List.length_pos_iff.2 h;exact Qf n m _ (by rw[List.length_drop];omega) (by rw[List.length_drop];omega)
theorem Mo {l:List UInt8} (h:l≠ []):Lib.validD l=if(Lib.decodeL l).1=65533/\(Lib.decodeL l).2=1 then false else Lib.validD (l.drop (Lib.decodeL l).2):=by
 have hw:=Lib.decodeL_width l;have hl:0<l.length:=List.length_pos_iff.2 h;unfold Lib.validD;obtain⟨n,hn⟩: ∃n,l.length=n+1:=⟨l.length - 1,by omega⟩;rw[hn];simp only[Lib.validGoD];rw[if_neg h]
 split
 . rfl
 . exact Qf _ _ _ (by rw[List.length_drop];omega) (Nat.le_refl _)
theorem Aj5 {l:List UInt8} (h:l≠ []):((I6 l).2=0/\Lib.validD l=false)\/(∃n:Nat,(I6 l).2=(n:Int)/\1<=n/\n<=l.length/\Lib.validD l=Lib.validD (l.drop n)):=by
 have hg:=Qj l h;unfold L0 at hg;rw[Mo h];by_cases hb:(Lib.decodeL l).1=65533/\(Lib.decodeL l).2=1
 . rw[if_pos hb]at hg ⊢;rw[hg];exact .inl ⟨rfl,rfl⟩
 . rw[if_neg hb]at hg ⊢;rw[hg];have hw:=Lib.decodeL_width l;exact .inr ⟨(Lib.decodeL l).2,rfl,hw,Lib.decodeL_le l h,rfl⟩
theorem Q7 (s:ByteArray) (w:World) (hs:s.size<=1000000000):
 Calls Tryz.prog 84 #[.string s] w fun e w'=>e=.returned (.bool (Aw s))/\w=w':=by
 obtain⟨V,hV⟩: ∃V,Aw s=V:=⟨_,rfl⟩;rw[hV];have H0:=Lib.hid hV;clear hV;go_enter Tryz.func84,Tryz.ntmps84;go_wp2
 go_loop [3] (fun i=> ∃k:Nat,k<=s.size/\i=.int .i64 k/\Hid (Lib.validD (s.data.toList.drop k)=V)) (fun i=>s.size - (intOf i).toNat)
 case atStart=>exact⟨0,Nat.zero_le _,rfl,H0⟩
 case round=>
  obtain⟨k,hk,rfl,hf⟩:=hrel;clear H0;by_cases hlt:k<s.size
  . have hne:s.data.toList.drop k≠ []:=by
     intro e;have:=congrArg List.length e;rw[List.length_drop,<-Lib.size_eq]at this;simp at this;omega
    have hA:=Abr s k w (by omega) (by omega);rcases Aj5 hne with⟨h0,hv⟩|⟨n,hn,hn1,hn2,hv⟩
    . have hf':=hf.out;rw[hv]at hf';subst hf';rw[h0]at hA;generalize (I6 (s.data.toList.drop k)).1=R at hA;have HA:=Lib.hid hA;clear hA h0 hv hne hf;go_wp2_with (go_at_call 130;refine(HA.out).mono ?_;rintro e w' ⟨rfl,rfl⟩);go_ret;exact⟨rfl,rfl⟩
    . have hf':=hf.out;rw[hv,List.drop_drop]at hf';have Hf:=Lib.hid hf';rw[hn]at hA;rw[List.length_drop,<-Lib.size_eq]at hn2;generalize (I6 (s.data.toList.drop k)).1=R at hA;have HA:=Lib.hid hA;clear hA hn hv hne hf hf';have e0:((n:Int)==0)=false:=by simp;omega
      go_wp2_with (go_at_call 130;refine(HA.out).mono ?_;rintro e w' ⟨rfl,rfl⟩)
      go_round
      case rel=>exact⟨k+n,by omega,by go_num,Hf⟩
      case measure=>simp[intOf];omega
  . obtain rfl:k=s.size:=by omega
    have hf':=hf.out;rw[List.drop_eq_nil_of_le (by rw[<-Lib.size_eq];omega)]at hf';have:V=true:=by rw[<-hf'];rfl
    subst this;clear hf hf';go_wp2;go_ret;exact⟨rfl,rfl⟩
theorem Aoz {z:Int} (h0:0<=z) (h1:z<256):((z.toNat.toUInt8).toNat:Int)=z:=by
 have:z.toNat<256:=by omega
 simp[Nat.toUInt8,UInt8.toNat_ofNat',Nat.mod_eq_of_lt this];omega
theorem Px (w:World) (zs:List Int) (hz: ∀z ∈ zs,0<=z/\z<256) (t:TypeId):
 (convert 112 9 (.slice (some ⟨w.heap.size,0,none⟩) zs.length zs.length)).run Tryz.prog (w.alloc (.cells (zs.map (Value.int .u8)).toArray t))=.ok (.string ⟨(zs.map fun z=>z.toNat.toUInt8).toArray⟩) (w.alloc (.cells (zs.map (Value.int .u8)).toArray t)):=by
 have:=run_convert_bytes_back (P:=Tryz.prog) (w.alloc (.cells (zs.map (Value.int .u8)).toArray t)) 112 9 5 ⟨w.heap.size,0,none⟩ zs.length (zs.map fun z=>z.toNat.toUInt8) Tryz.underlying112 Tryz.underlying5 Tryz.underlying9 (by
  intro j hj;rw[List.length_map]at hj;have hh:(w.alloc (.cells (zs.map (Value.int .u8)).toArray t)).heap[w.heap.size]? =some (.cells (zs.map (Value.int .u8)).toArray t (0,0)):=heap_alloc_new _ _;rw[show(⟨w.heap.size,0,none⟩:Addr).add j=⟨w.heap.size,j,none⟩from by unfold Addr.add;split<;>simp_all];rw[Lib.cell_of_heap hh];simp only[List.getElem?_toArray,List.getElem?_map,List.getElem?_eq_getElem hj,Option.map_some,List.getElem_map];rw[Aoz (hz _ (List.getElem_mem hj)).1 (hz _ (List.getElem_mem hj)).2])
 rwa [List.length_map]at this
set_option maxRecDepth 20000 in
theorem Z8 (r:Int) (h0:0<=r) (h1:r<=1114111) (hs: ¬(55296<=r/\r<57344)) (w:World):
 Calls Tryz.prog 87 #[.int .i64 r] w fun e w'=>e=.returned (.string ⟨(Lib.encodeRune r).toArray⟩)/\Below w.heap.size w w':=by
 by_cases c1:r<128
 . have e:Lib.encodeRune r= [r].map fun z=>z.toNat.toUInt8:=by unfold Lib.encodeRune;rw[Lib.encodeRuneZ_one h0 (by omega)]
   have hB:=Px w [r] (by intro z hz;simp at hz;omega) 5;rw[e];simp only[List.map_cons,List.map_nil,List.length_cons,List.length_nil]at hB ⊢;go_enter Tryz.func87,Tryz.ntmps87;go_wp2;go_ret;exact⟨rfl,(Below.refl _ _).alloc (Nat.le_refl _) _⟩
 by_cases c2:r<2048
 . have e:Lib.encodeRune r= [192+r / 64,128+r % 64].map fun z=>z.toNat.toUInt8:=by unfold Lib.encodeRune;rw[Lib.encodeRuneZ_two (by omega) (by omega)]
   have hB:=Px w [192+r / 64,128+r % 64] (by intro z hz;simp at hz;omega) 5;rw[e];have b1:0<=r / 64:=by omega
   have b2:r / 64<32:=by omega
   have b3:0<=r % 64:=by omega
   have b4:r % 64<64:=by omega
   simp only[List.map_cons,List.map_nil,List.length_cons,List.length_nil]at hB ⊢;obtain⟨z1,hz1⟩: ∃z,192+r / 64=z:=⟨_,rfl⟩;obtain⟨z2,hz2⟩: ∃z,128+r % 64=z:=⟨_,rfl⟩;have d1:0<=z1/\z1<256:=by omega
   have d2:0<=z2/\z2<256:=by omega
   rw[hz1,hz2]at hB ⊢;go_enter Tryz.func87,Tryz.ntmps87;go_wp2;go_ret;exact⟨rfl,(Below.refl _ _).alloc (Nat.le_refl _) _⟩
 by_cases c3:r<65536
 . have e:Lib.encodeRune r= [224+r / 4096,128+r / 64 % 64,128+r % 64].map fun z=>z.toNat.toUInt8:=by unfold Lib.encodeRune;rw[Lib.encodeRuneZ_three (by omega)]
   have hB:=Px w [224+r / 4096,128+r / 64 % 64,128+r % 64] (by intro z hz;simp at hz;omega) 5;rw[e];have b1:0<=r / 4096:=by omega
   have b2:r / 4096<16:=by omega
   have b3:0<=r % 64:=by omega
   have b4:r % 64<64:=by omega
   have b5:0<=r / 64:=by omega
   have b6:0<=r / 64 % 64:=by omega
   have b7:r / 64 % 64<64:=by omega
   simp only[List.map_cons,List.map_nil,List.length_cons,List.length_nil]at hB ⊢;obtain⟨z1,hz1⟩: ∃z,224+r / 4096=z:=⟨_,rfl⟩;obtain⟨z2,hz2⟩: ∃z,128+r / 64 % 64=z:=⟨_,rfl⟩;obtain⟨z3,hz3⟩: ∃z,128+r % 64=z:=⟨_,rfl⟩;have d1:0<=z1/\z1<256:=by omega
   have d2:0<=z2/\z2<256:=by omega
   have d3:0<=z3/\z3<256:=by omega
   rw[hz1,hz2,hz3]at hB ⊢;go_enter Tryz.func87,Tryz.ntmps87;go_wp2;go_ret;exact⟨rfl,(Below.refl _ _).alloc (Nat.le_refl _) _⟩
 . have e:Lib.encodeRune r= [240+r / 262144,128+r / 4096 % 64,128+r / 64 % 64,128+r % 64].map fun z=>z.toNat.toUInt8:=by unfold Lib.encodeRune;rw[Lib.encodeRuneZ_four (by omega) (by omega)]
   have hB:=Px w [240+r / 262144,128+r / 4096 % 64,128+r / 64 % 64,128+r % 64] (by intro z hz;simp at hz;omega) 5;rw[e];have b1:0<=r / 262144:=by omega
   have b2:r / 262144<8:=by omega
   have b3:0<=r % 64:=by omega
   have b4:r % 64<64:=by omega
   have b5:0<=r / 64:=by omega
   have b6:0<=r / 64 % 64:=by omega
   have b7:r / 64 % 64<64:=by omega
   have b8:0<=r / 4096:=by omega
   have b9:0<=r / 4096 % 64:=by omega
   have b10:r / 4096 % 64<64:=by omega
   simp only[List.map_cons,List.map_nil,List.length_cons,List.length_nil]at hB ⊢;obtain⟨z0,hz0⟩: ∃z,240+r / 262144=z:=⟨_,rfl⟩;obtain⟨z1,hz1⟩: ∃z,128+r / 4096 % 64=z:=⟨_,rfl⟩;obtain⟨z2,hz2⟩: ∃z,128+r / 64 % 64=z:=⟨_,rfl⟩;obtain⟨z3,hz3⟩: ∃z,128+r % 64=z:=⟨_,rfl⟩;have d0:0<=z0/\z0<256:=by omega
   have d1:0<=z1/\z1<256:=by omega
   have d2:0<=z2/\z2<256:=by omega
   have d3:0<=z3/\z3<256:=by omega
   rw[hz0,hz1,hz2,hz3]at hB ⊢;go_enter Tryz.func87,Tryz.ntmps87;go_wp2;go_ret;exact⟨rfl,(Below.refl _ _).alloc (Nat.le_refl _) _⟩
theorem Aai (a:Addr) (n:Nat):(a.add n).block=a.block:=by unfold Addr.add;split<;>rfl
def Cy (w:World) (B size:Nat) (A:Option Addr) (n:Nat) (xs:List Value):Prop:=
 xs.length=n*size/\(0<n-> ∃ad,A=some ad/\ad.block<B/\ ∀j u,xs[j]? =some u->w.cell? (ad.add j)=some u)
section
variable {w w':World} {B B' size n:Nat} {A:Option Addr} {xs:List Value}
theorem Cy.at_ {k:Nat} (h:Cy w B 1 A n xs) (hk:k<n): ∃ad u,A=some ad/\ad.block<B/\xs[k]? =some u/\w.cell? (ad.add k)=some u:=by
 obtain⟨ad,e,hb,hc⟩:=h.2 (by omega);have hl:k<xs.length:=by have:=h.1;omega
 exact⟨ad,xs[k],e,hb,List.getElem?_eq_getElem hl,hc k _ (List.getElem?_eq_getElem hl)⟩
theorem Cy.keep (h:Cy w B size A n xs) (hk: ∀p:Addr,p.block<B->w'.cell? p=w.cell? p):Cy w' B size A n xs:=
 ⟨h.1,fun hn=>by
   obtain⟨ad,e,hb,hc⟩:=h.2 hn;exact⟨ad,e,hb,fun j u hu=>(hk _ (by rw[Aai];exact hb)).trans (hc j u hu)⟩⟩
theorem Cy.more (h:Cy w B size A n xs) (hB:B<=B'):Cy w B' size A n xs:=
 ⟨h.1,fun hn=>by
   obtain⟨ad,e,hb,hc⟩:=h.2 hn;exact⟨ad,e,by omega,hc⟩⟩
theorem Cy.below (h:Cy w B size A n xs) (hb:Below B w w'):Cy w' B size A n xs:=h.keep fun _ hp=>hb.cell hp
theorem Cy.drew (h:Cy w B size A n xs):Cy w.drew B size A n xs:=h
theorem Cy.drewN (h:Cy w B size A n xs) (k:Nat):Cy (w.drewN k) B size A n xs:=h
theorem Cy.alloc (h:Cy w B size A n xs) (hB:B<=w.heap.size) (o:Obj):Cy (w.alloc o) B size A n xs:=h.keep fun p hp=>World.cell?_alloc_lt w o p (by omega)
theorem Cy.setCell (h:Cy w B size A n xs) {p:Addr} (hB:B<=p.block) (u:Value):Cy (w.setCell p u) B size A n xs:=
 h.keep fun q hq=>World.cell?_setCell_other w p q u (fun e=>by subst e;omega)
theorem Cy.grown (h:Cy w B size A n xs) {row:Option Nat} (hg:w.grownBy w' row) (hB:B<=w.heap.size) (hr: ∀g,row=some g->B<=g):Cy w' B size A n xs:=
 h.keep fun p hp=>World.cell?_of_block (hg.block p.block (by omega) (fun e=>by have:=hr _ e.symm;omega))
end
def Al (w:World) (g:Nat) (t:TypeId) (cs:Array Value):Prop:=w.heap[g]? =some (.cells cs t (0,0))
section
variable {w w':World} {g:Nat} {t:TypeId} {cs:Array Value}
theorem Al.lt (h:Al w g t cs):g<w.heap.size:=by
 rcases Nat.lt_or_ge g w.heap.size with hlt|hge
 . exact hlt
 . unfold Al at h;rw[Array.getElem?_eq_none hge]at h;cases h
theorem Al.cell (h:Al w g t cs) (i:Nat):w.cell? ⟨g,i,none⟩=cs[i]? :=cell_of_row w g i cs t (0,0) h
theorem Al.frozen (h:Al w g t cs) (i:Nat):w.frozen? ⟨g,i,none⟩=false:=by
 unfold Al at h;simp[World.frozen?,h]
theorem Al.new (w:World) (t:TypeId) (cs:Array Value):Al (w.alloc (.cells cs t)) w.heap.size t cs:=heap_alloc_new w _
theorem Al.drew (h:Al w g t cs):Al w.drew g t cs:=h
theorem Al.drewN (h:Al w g t cs) (n:Nat):Al (w.drewN n) g t cs:=h
theorem Al.alloc (h:Al w g t cs) (o:Obj):Al (w.alloc o) g t cs:=(Below.heap_alloc w o g h.lt).trans h
theorem Al.set_ (h:Al w g t cs) (i:Nat) (u:Value):Al (w.setCell ⟨g,i,none⟩ u) g t (cs.setIfInBounds i u):=by
 unfold Al at h ⊢;simp[World.setCell,Array.getElem?_modify,h]
theorem Al.far (h:Al w g t cs) {p:Addr} (hp:g≠p.block) (u:Value):Al (w.setCell p u) g t cs:=(Below.heap_setCell w p u g hp).trans h
theorem Al.below {B:Nat} (h:Al w g t cs) (hb:Below B w w') (hg:g<B):Al w' g t cs:=(hb.block g hg).trans h
theorem Al.grown {row:Option Nat} (h:Al w g t cs) (hb:w.grownBy w' row) (hg:some g≠row):Al w' g t cs:=(hb.block g h.lt hg).trans h
end
section
variable {P:Program} (w:World)
theorem Rz (base:Nat) (t ty e:TypeId) (i:TypeInfo) (size:Nat) (ht:P.underlying t=some (.slice e)) (hi:P.info? e=some i)
 (v:Value) (n:Nat) (xs:List Value) (hown:w.ownsRow base e size v n xs) (c:Nat):(Builtin.append_ #[t,t] ty #[v,.slice none 0 c]).run P w=.ok v w:=by
 rcases hown.2 with⟨rfl,rfl⟩|⟨g,cap,cur,rfl,_,_,hnc,_⟩
 . simp[Builtin.append_,run_underlying ht,sizeOf,typeInfo,hi,Builtin.lenOf,Builtin.firstCells]
 . simp[Builtin.append_,run_underlying ht,sizeOf,typeInfo,hi,Builtin.lenOf,Builtin.firstCells,hnc,storeCells]
theorem L8 (base:Nat) (t ty e:TypeId) (i:TypeInfo) (z:Value) (size bytes:Nat) (ht:P.underlying t=some (.slice e)) (hi:P.info? e=some i) (hz:i.zero=some z)
 (hsize:i.size=size) (hby:i.bytes=bytes) (hzs:z.cells.size=size) (hsz:0<size)
 (v:Value) (n:Nat) (xs:List Value) (hown:w.ownsRow base e size v n xs)
 (B:Nat) (A:Option Addr) (m c:Nat) (news:List Value) (hr:Cy w B size A m news) (h1: ∀u ∈ news,u.oneCell'=true)
 (h63:n+m<=maxLen) (hbytes:(n+m)*bytes<=140737488355328) (hbase:base<=w.heap.size):
 ∃v' w',(Builtin.append_ #[t,t] ty #[v,.slice A m c]).run P w=.ok v' w'/\w'.ownsRow base e size v' (n+m) (xs++news)/\w.grownBy w' v.ownBlock/\
  (v'.ownBlock=v.ownBlock\/v'.ownBlock=some w.heap.size):=by
 rcases A with _|ad
 . have hm:m=0:=by
    rcases Nat.eq_zero_or_pos m with h0|h0
    . exact h0
    . obtain⟨ad,h,_⟩:=hr.2 h0
      cases h
   subst hm;have hn:news= []:=List.eq_nil_of_length_eq_zero (by simpa using hr.1);subst hn;exact⟨v,w,Rz w base t ty e i size ht hi v n xs hown c,by simpa using hown,World.grownBy.refl w _,.inl rfl⟩
 . have hcells: ∀j u,news[j]? =some u->w.cell? (ad.add j)=some u:=by
    intro j u hu;rcases Nat.eq_zero_or_pos m with h0|h0
    . subst h0;have hn:news= []:=List.eq_nil_of_length_eq_zero (by simpa using hr.1);subst hn;simp at hu
    . obtain⟨ad',h,_,hc⟩:=hr.2 h0
      injection h with h
      subst h;exact hc j u hu
   obtain⟨v',w',hrun,h2,h3,_,h5⟩:=run_append_own_at (P:=P) w base t ty e i z size bytes ht hi hz hsize hby hzs hsz v n xs hown ad m c news hr.1 hcells h1 h63 hbytes hbase;exact⟨v',w',hrun,h2,h3,h5⟩
end
end Go.Proofs.YtmglfdckpjegdaaGreatDoor
