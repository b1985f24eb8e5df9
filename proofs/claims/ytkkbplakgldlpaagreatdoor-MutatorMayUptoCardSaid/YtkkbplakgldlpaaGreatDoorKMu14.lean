/- Parts, joined: Values as data of any make. Plain. No condition. What the reader reads: how big it is, that its Ints are of 64 bits, that it may be. Plain. No condition. Values that may be and have the same text are the same, the values. Plain. No condition. encode.bytes: how many bytes a value's text has. Condition: a bulk of at most 10^9. Why a value may not be: the reference's function, of every value. Condition: a bulk of at most 10^9. Small laws of worlds and of comparisons. Plain. No condition. Sums of bytes, bit by bit and four bits at once. Plain. No condition. -/
import Derived.Test.YtkkbplakgldlpaaGreatDoorProg
import Derived.WalkKit
import Derived.Below
import Derived.Lib.Hide
import Derived.Test.YtkkbplakgldlpaaGreatDoorKMu1
import Derived.Test.YtkkbplakgldlpaaGreatDoorKMu2
import Derived.Test.YtkkbplakgldlpaaGreatDoorKMu3
import Derived.Test.YtkkbplakgldlpaaGreatDoorKMu10
import Derived.Test.YtkkbplakgldlpaaGreatDoorKMu12
import Derived.Test.YtkkbplakgldlpaaGreatDoorKMu13
namespace Go.Proofs.YtkkbplakgldlpaaGreatDoor
open Go.RowKit
mutual
def dV:Val→D
 | .mk k b n t l o=> .agg [.leaf (.int .i64 k),.leaf (.bool b),.leaf (.int .i64 n),.leaf (.string t),.row 6 (dL l),.row 7 (dO o)]
def dL:List Val→List D
 | []=> []
 |v::r=>dV v::dL r
def dO:List (ByteArray×Val)→List D
 | []=> []
 |p::r=>dP p::dO r
def dP:ByteArray×Val→D
 |(key,v)=> .agg [.leaf (.string key),dV v]
end
theorem dL_map: ∀l,dL l=l.map dV
 | []=>rfl
 |v::r=>by simp[dL,dL_map r]
theorem dO_map: ∀l,dO l=l.map dP
 | []=>rfl
 |v::r=>by simp[dO,dO_map r]
theorem dV_cells (v:Val):(dV v).cells=6:=by
 obtain⟨k,b,n,t,l,o⟩:=v
 rfl
theorem dP_cells (p:ByteArray×Val):(dP p).cells=7:=by
 obtain⟨k,v⟩:=p
 simp only[dP,D.cells,cellsA,dV_cells]
theorem dL_cells (l:List Val): ∀d ∈ dL l,d.cells=6:=by
 rw[dL_map]
 intro d hd
 obtain⟨v,_,rfl⟩:=List.mem_map.1 hd
 exact dV_cells v
theorem dO_cells (l:List (ByteArray×Val)): ∀d ∈ dO l,d.cells=7:=by
 rw[dO_map]
 intro d hd
 obtain⟨v,_,rfl⟩:=List.mem_map.1 hd
 exact dP_cells v
theorem dL_len (l:List Val):(dL l).length=l.length:=by rw[dL_map,List.length_map]
theorem dO_len (l:List (ByteArray×Val)):(dO l).length=l.length:=by rw[dO_map,List.length_map]
theorem HoldsA.six {w:World} {B:Nat} {a b c d:Value} {e f:D} {cs:List Value}:
 HoldsA w B [.leaf a,.leaf b,.leaf c,.leaf d,e,f] cs ↔ ∃c4 c5,cs= [a,b,c,d]++(c4++c5)∧a.oneCell'=true∧b.oneCell'=true∧c.oneCell'=true∧d.oneCell'=true∧Holds w B e c4∧Holds w B f c5:=by
 constructor
 · rintro⟨_,_,rfl,⟨rfl,ha⟩,_,_,rfl,⟨rfl,hb⟩,_,_,rfl,⟨rfl,hc⟩,_,_,rfl,⟨rfl,hd⟩,c4,_,rfl,h4,c5,_,rfl,h5,rfl⟩
   exact⟨c4,c5,by simp,ha,hb,hc,hd,h4,h5⟩
 · rintro⟨c4,c5,rfl,ha,hb,hc,hd,h4,h5⟩
   exact⟨[a],_,rfl,⟨rfl,ha⟩, [b],_,rfl,⟨rfl,hb⟩, [c],_,rfl,⟨rfl,hc⟩, [d],_,rfl,⟨rfl,hd⟩,c4,_,rfl,h4,c5, [],by simp,h5,rfl⟩
theorem HoldsA.toL {w:World} {B:Nat} {g:Nat}: ∀{l:List Val},(∀v ∈ l,∀cs,Holds w B (dV v) cs→HoldsV w B v cs)→ ∀{ns:List Value} {off:Nat},HoldsA w B (dL l) ns→(∀j u,ns[j]? =some u→w.cell? ⟨g,off+j,none⟩=some u)→HoldsL w B l g off
 | [],_,_,_,_,_=>by simp[HoldsL]
 |v::r,ih,ns,off,h,hc=>by
  obtain⟨c1,c2,rfl,h1,h2⟩:=h
  have hl:c1.length=6:=h1.len.1.trans (dV_cells v)
  simp only[HoldsL]
  refine⟨⟨c1,ih v (by simp) c1 h1,fun j u hu=>hc j u (by rw[List.getElem?_append_left (List.getElem?_eq_some_iff.1 hu).1];exact hu)⟩,HoldsA.toL (fun x hx=>ih x (by simp[hx])) h2 (fun j u hu=> ?_)⟩
  rw[show off+6+j=off+(6+j)from by omega]
  refine hc (6+j) u ?_
  rw[List.getElem?_append_right (by omega),hl,show 6+j - 6=j from by omega]
  exact hu
theorem HoldsA.toO {w:World} {B:Nat} {g:Nat}: ∀{l:List (ByteArray×Val)},(∀m ∈ l,∀cs,Holds w B (dV m.2) cs→HoldsV w B m.2 cs)→ ∀{ns:List Value} {off:Nat},HoldsA w B (dO l) ns→(∀j u,ns[j]? =some u→w.cell? ⟨g,off+j,none⟩=some u)→HoldsO w B l g off
 | [],_,_,_,_,_=>by simp[HoldsO]
 |(key,v)::r,ih,ns,off,h,hc=>by
  obtain⟨c1,c2,rfl,h1,h2⟩:=h
  obtain⟨_,c3,rfl,⟨rfl,_⟩,cv,c4,rfl,h3,rfl⟩:=h1
  have hl:cv.length=6:=h3.len.1.trans (dV_cells v)
  simp only[HoldsO,HoldsP]
  refine⟨⟨by have:=hc 0 (.string key) rfl;simpa using this,cv,ih (key,v) (by simp) cv h3,fun j u hu=> ?_⟩,HoldsA.toO (fun x hx=>ih x (by simp[hx])) h2 (fun j u hu=> ?_)⟩
  · have h5:=(List.getElem?_eq_some_iff.1 hu).1
    rw[show off+1+j=off+(j+1)from by omega]
    refine hc (j+1) u ?_
    simp only[List.append_nil,List.cons_append,List.nil_append,List.getElem?_cons_succ]
    rw[List.getElem?_append_left h5];exact hu
  · rw[show off+7+j=off+(6+j+1)from by omega]
    refine hc (6+j+1) u ?_
    simp only[List.append_nil,List.cons_append,List.nil_append,List.getElem?_cons_succ]
    rw[List.getElem?_append_right (by omega),hl,show 6+j - 6=j from by omega]
    exact hu
theorem holdsV_of {w:World} {B:Nat}: ∀(v:Val) cs,Holds w B (dV v) cs→HoldsV w B v cs:=by
 refine Val.ind ?_
 intro k b n t l o hl ho cs h
 simp only[dV,Holds]at h
 obtain⟨c4,c5,rfl,_,_,_,_,⟨a4,n4,rfl,_,ns4,h4,i4⟩,⟨a5,n5,rfl,_,ns5,h5,i5⟩⟩:=HoldsA.six.1 h
 simp only[HoldsV]
 refine⟨a4,n4,a5,n5,by simp[cells6,dL_len,dO_len], ?_, ?_⟩
 · rcases i4 with e|⟨g,off,e,hg,hc⟩
   · refine .inl ?_
     cases l with
     |nil=>rfl
     |cons x r=>simp[dL]at e
   · exact .inr ⟨g,off,e,hg,HoldsA.toL hl h4 hc⟩
 · rcases i5 with e|⟨g,off,e,hg,hc⟩
   · refine .inl ?_
     cases o with
     |nil=>rfl
     |cons x r=>simp[dO]at e
   · exact .inr ⟨g,off,e,hg,HoldsA.toO ho h5 hc⟩
theorem HoldsA.ofL {w:World} {B:Nat} {g:Nat}: ∀{l:List Val},(∀v ∈ l,∀cs,HoldsV w B v cs→Holds w B (dV v) cs)→ ∀{off:Nat},HoldsL w B l g off→ ∃ns,HoldsA w B (dL l) ns∧ ∀j u,ns[j]? =some u→w.cell? ⟨g,off+j,none⟩=some u
 | [],_,_,_=>⟨[],rfl,fun j u h=>by simp at h⟩
 |v::r,ih,off,h=>by
  simp only[HoldsL]at h
  obtain⟨⟨cs,h1,hc⟩,h2⟩:=h
  have h1':=ih v (by simp) cs h1
  have hl:cs.length=6:=h1'.len.1.trans (dV_cells v)
  obtain⟨ns,h3,h4⟩:=HoldsA.ofL (fun x hx=>ih x (by simp[hx])) h2
  refine⟨cs++ns,⟨cs,ns,rfl,h1',h3⟩,fun j u hu=> ?_⟩
  by_cases hj:j<6
  · rw[List.getElem?_append_left (by omega)]at hu
    exact hc j u hu
  · rw[List.getElem?_append_right (by omega),hl]at hu
    have:=h4 (j - 6) u hu
    rwa [show off+6+(j - 6)=off+j from by omega]at this
theorem HoldsA.ofO {w:World} {B:Nat} {g:Nat}: ∀{l:List (ByteArray×Val)},(∀m ∈ l,∀cs,HoldsV w B m.2 cs→Holds w B (dV m.2) cs)→ ∀{off:Nat},HoldsO w B l g off→ ∃ns,HoldsA w B (dO l) ns∧ ∀j u,ns[j]? =some u→w.cell? ⟨g,off+j,none⟩=some u
 | [],_,_,_=>⟨[],rfl,fun j u h=>by simp at h⟩
 |(key,v)::r,ih,off,h=>by
  simp only[HoldsO,HoldsP]at h
  obtain⟨⟨h0,cs,h1,hc⟩,h2⟩:=h
  have h1':=ih (key,v) (by simp) cs h1
  have hl:cs.length=6:=h1'.len.1.trans (dV_cells v)
  obtain⟨ns,h3,h4⟩:=HoldsA.ofO (fun x hx=>ih x (by simp[hx])) h2
  refine⟨(.string key::cs)++ns,⟨.string key::cs,ns,rfl,⟨[.string key],cs,rfl,⟨rfl,rfl⟩,cs, [],by simp,h1',rfl⟩,h3⟩,fun j u hu=> ?_⟩
  match j,hu with
  |0,hu=>
   simp at hu
   subst hu
   exact h0
  |j+1,hu=>
   simp only[List.cons_append,List.getElem?_cons_succ]at hu
   by_cases hj:j<6
   · rw[List.getElem?_append_left (by omega)]at hu
     have:=hc j u hu
     rwa [show off+1+j=off+(j+1)from by omega]at this
   · rw[List.getElem?_append_right (by omega),hl]at hu
     have:=h4 (j - 6) u hu
     rwa [show off+7+(j - 6)=off+(j+1)from by omega]at this
theorem holds_of_V {w:World} {B:Nat}: ∀(v:Val) cs,HoldsV w B v cs→Holds w B (dV v) cs:=by
 refine Val.ind ?_
 intro k b n t l o hl ho cs h
 simp only[HoldsV]at h
 obtain⟨la,lc,oa,oc,rfl,h1,h2⟩:=h
 simp only[dV,Holds]
 refine HoldsA.six.2 ⟨[.slice la l.length lc], [.slice oa o.length oc],rfl,rfl,rfl,rfl,rfl, ?_, ?_⟩
 · rcases h1 with rfl|⟨g,off,e,hg,h1⟩
   · exact⟨la,lc,rfl,dL_cells _, [],rfl,.inl rfl⟩
   · obtain⟨ns,h3,h4⟩:=HoldsA.ofL hl h1
     exact⟨la,lc,by rw[dL_len],dL_cells _,ns,h3,.inr ⟨g,off,e,hg,h4⟩⟩
 · rcases h2 with rfl|⟨g,off,e,hg,h2⟩
   · exact⟨oa,oc,rfl,dO_cells _, [],rfl,.inl rfl⟩
   · obtain⟨ns,h3,h4⟩:=HoldsA.ofO ho h2
     exact⟨oa,oc,by rw[dO_len],dO_cells _,ns,h3,.inr ⟨g,off,e,hg,h4⟩⟩
end Go.Proofs.YtkkbplakgldlpaaGreatDoor

namespace Go.Proofs.YtkkbplakgldlpaaGreatDoor
open Go.RowKit
theorem enc_len (r:Int):(Lib.encodeRune r).length≤4:=by
 have:=(Lib.encodeRuneZ_length r).2
 unfold Lib.encodeRune
 rwa [List.length_map]
theorem enc_len1 {r:Int} (h0:0≤r) (h:r<128):(Lib.encodeRune r).length=1:=by
 unfold Lib.encodeRune
 rw[List.length_map,Lib.encodeRuneZ_one h0 (by omega)];rfl
theorem escL_len {l:List UInt8} {r n:Nat} (h:escL l=.ok r n):(Lib.encodeRune (r:Int)).length≤n:=by
 have h2:=(escL_ok h).2.2.1
 have h4:=enc_len (r:Int)
 by_cases hn:4≤n
 · omega
 have hr:r<128∨6≤n:=by
  unfold escL at h
  cases hu:unitL l with
  |some u=>
   rw[hu]at h
   simp only[pairL]at h
   split at h
   · simp only[Rd.ok.injEq]at h;omega
   split at h
   · cases h
   cases hm:unitL (l.drop 6)with
   |none=>rw[hm]at h;cases h
   |some m=>
    rw[hm]at h
    simp only at h
    split at h
    · cases h
    · simp only[Rd.ok.injEq]at h;omega
  |none=>
   rw[hu]at h
   simp only[letL]at h
   cases hc:l[1]? with
   |none=>rw[hc]at h;cases h
   |some c=>
    rw[hc]at h
    simp only at h
    cases he:escLet c with
    |none=>rw[he]at h;cases h
    |some x=>
     rw[he]at h
     simp only[Rd.ok.injEq]at h
     have:x≤92:=by
      unfold escLet at he
      repeat' split at he
      all_goals first|(simp at he;omega)|cases he
     omega
 rcases hr with hr|hr
 · have:=enc_len1 (r:=(r:Int)) (by omega) (by omega);omega
 · omega
def encAll (rs:List Nat):List UInt8:=rs.flatMap fun(r:Nat)=>Lib.encodeRune (r:Int)
theorem valid_all: ∀{rs:List Nat},(∀r ∈ rs,scalar r)→Lib.validD (encAll rs)=true
 | [],_=>rfl
 |r::rs,h=>by
  have e:encAll (r::rs)=Lib.encodeRune (r:Int)++encAll rs:=rfl
  rw[e,valid_rune (h r (by simp))]
  exact valid_all fun x hx=>h x (by simp[hx])
theorem dec_scalar {l:List UInt8} (hl:l≠ []) (h: ¬((Lib.decodeL l).1=65533∧(Lib.decodeL l).2=1)):scalar (Lib.decodeL l).1:=by
 have h1:=atSpec_range l
 rw[atSpec_dec l hl,if_neg h]at h1
 have:=Lib.decodeL_width l
 unfold scalar
 simp only at h1
 omega
theorem unqF_ok: ∀(f:Nat) (s:List UInt8) (i:Nat) (out a:List UInt8) (q:Nat),unqF f s i out=.ok a q→(∃rs,(∀r ∈ rs,scalar r)∧out=encAll rs)→(∃rs,(∀r ∈ rs,scalar r)∧a=encAll rs)∧a.length+i+1≤out.length+q
 |0,s,i,out,a,q,h,_=>by unfold unqF at h;cases h
 |f+1,s,i,out,a,q,h,ho=>by
  unfold unqF at h
  cases hc:s[i]? with
  |none=>rw[hc]at h;cases h
  |some c=>
   rw[hc]at h
   have hi:=get_lt hc
   have hne:s.drop i≠ []:=by rw[drop_at hc];simp
   simp only at h
   split at h
   · simp only[Rd.ok.injEq]at h
     obtain⟨rfl,rfl⟩:=h
     exact⟨ho,by omega⟩
   split at h
   · cases h
   obtain⟨rs,h1,h2⟩:=ho
   split at h
   · cases he:escL (s.drop i)with
     |bad e x=>rw[he]at h;cases h
     |ok r n=>
      rw[he]at h
      have hok:=escL_ok he
      have hlen:=escL_len he
      have hn:scalar r:=⟨hok.1,hok.2.1⟩
      obtain⟨k1,k2⟩:=unqF_ok f s _ _ _ _ h ⟨rs++ [r],fun x hx=>by
       rcases List.mem_append.1 hx with hx|hx
       · exact h1 x hx
       · simp only[List.mem_singleton]at hx;rw[hx];exact hn,by simp[encAll,h2]⟩
      rw[List.length_append]at k2
      exact⟨k1,by omega⟩
   split at h
   · cases h
   · rename_i hd
     have hn:=dec_scalar hne hd
     obtain⟨k1,k2⟩:=unqF_ok f s _ _ _ _ h ⟨rs++ [(Lib.decodeL (s.drop i)).1],fun x hx=>by
      rcases List.mem_append.1 hx with hx|hx
      · exact h1 x hx
      · simp only[List.mem_singleton]at hx;rw[hx];exact hn,by simp[encAll,h2,Lib.encode_decode _ hne hd]⟩
     rw[List.length_append,List.length_take]at k2
     exact⟨k1,by omega⟩
theorem unqAt_ok {s:List UInt8} {p q:Nat} {a:List UInt8} (h:unqAt s p=.ok a q):Lib.validD a=true∧a.length+p+2≤q:=by
 unfold unqAt at h
 split at h
 · obtain⟨⟨rs,h1,h2⟩,h3⟩:=unqF_ok _ _ _ _ _ _ h ⟨[],fun r hr=>(by cases hr),rfl⟩
   rw[h2]
   refine⟨valid_all h1, ?_⟩
   rw[←h2]
   simp only[List.length_nil]at h3;omega
 · cases h
theorem numberAt_in {s:List UInt8} {p q:Nat} {n:Int} (h:numberAt s p=.ok n q): -9223372036854775808≤n∧n≤9223372036854775807:=by
 unfold numberAt numFrom numRes at h
 repeat' split at h
 all_goals first|(simp only[Rd.ok.injEq]at h;omega)|cases h
theorem bulkL_app: ∀(a b:List Val),bulkL (a++b)=bulkL a+bulkL b
 | [],b=>by simp[bulkL]
 |x::r,b=>by simp only[List.cons_append,bulkL,bulkL_app r b];omega
theorem inL_app: ∀{a b:List Val},inL a→inL b→inL (a++b)
 | [],_,_,h=>h
 |x::r,b,h,h'=>by
  simp only[List.cons_append,inL]at h ⊢
  exact⟨h.1,inL_app h.2 h'⟩
theorem sortO_bulk (l:List (ByteArray×Val)):bulkO (sortO l)≤bulkO l:=by
 unfold sortO
 cases h:objAll l []with
 |none=>simp[bulkO]
 |some o=>have:=objAll_bulk h;simp only[bulkO]at this;simp only[Option.getD_some];omega
theorem sortO_in {l:List (ByteArray×Val)} (hi:inO l):inO (sortO l):=by
 unfold sortO
 cases h:objAll l []with
 |none=>simp[inO]
 |some o=>exact objAll_in h (by simp[inO]) hi
theorem eb:emptyB.size=0:=rfl
def Rd.sized (base p:Nat) (C:Nat):Rd Val→Prop
 | .ok v q=>v.bulk+base≤C+6*(q - p)∧p<q∧inV v
 | .bad _ _=>True
theorem sized_all: ∀(f:Nat),(∀s p d,p≤s.length→(valueF f s p d).sized 0 p 0)∧(∀s p d,p<s.length→(listF f s p d).sized 0 p 0)∧(∀s p d,p<s.length→(objF f s p d).sized 0 p 0)∧
 (∀s p d acc,p≤s.length→inL acc→(itemsF f s p d acc).sized 0 p (6+bulkL acc))∧(∀s p d acc,p≤s.length→inO acc→(membersF f s p d acc).sized 0 p (6+bulkO acc))∧
 (∀s p d acc k,p≤s.length→inO acc→(memberF f s p d acc k).sized 0 p (7+bulkO acc+k.size)):=by
 intro f
 induction f with
 |zero=>
  refine⟨fun s p d h=> ?_,fun s p d h=> ?_,fun s p d h=> ?_,fun s p d acc h _=> ?_,fun s p d acc h _=> ?_,fun s p d acc k h _=> ?_⟩
  · unfold valueF;trivial
  · unfold listF;trivial
  · unfold objF;trivial
  · unfold itemsF;trivial
  · unfold membersF;trivial
  · unfold memberF;trivial
 |succ f ih=>
  obtain⟨iv,il,io,ii,im,ik⟩:=ih
  have win:=within_all f
  have lift: ∀{p p' q:Nat} {r:Rd Val},p≤p'→r.sized 0 p' 0→r.sized 0 p 0:=by
   intro p p' q r hp hr
   cases r with
   |ok v q=>exact⟨by have:=hr.1;omega,by have:=hr.2.1;omega,hr.2.2⟩
   |bad e q=>trivial
  refine⟨fun s p d h=> ?_,fun s p d h=> ?_,fun s p d h=> ?_,fun s p d acc h hi=> ?_,fun s p d acc h hi=> ?_,fun s p d acc k h hi=> ?_⟩
  · unfold valueF
    have hp:=past_le h
    have hg:=past_ge s p
    cases hc:s[past s p]? with
    |none=>trivial
    |some c=>
     have hl:=get_lt hc
     simp only
     split
     · trivial
     split
     · trivial
     split
     · exact lift (q:=0) hg (il s _ d hl)
     split
     · exact lift (q:=0) hg (io s _ d hl)
     split
     · cases hu:unqAt s (past s p)with
       |bad e q=>trivial
       |ok a q=>
        obtain⟨_,h2⟩:=unqAt_ok hu
        refine⟨?_,by omega,by simp[txtV,inV,inL,inO]⟩
        simp only[txtV,Val.bulk,bulkL,bulkO,size_mk];omega
     split
     · unfold wordAt
       split
       · refine⟨?_,by simp only[List.length_cons,List.length_nil];omega,by simp[nullV,inV,inL,inO]⟩
         simp only[nullV,Val.bulk,bulkL,bulkO,eb,List.length_cons,List.length_nil];omega
       · trivial
     split
     · unfold wordAt
       split
       · refine⟨?_,by simp only[List.length_cons,List.length_nil];omega,by simp[boolV,inV,inL,inO]⟩
         simp only[boolV,Val.bulk,bulkL,bulkO,eb,List.length_cons,List.length_nil];omega
       · trivial
     split
     · unfold wordAt
       split
       · refine⟨?_,by simp only[List.length_cons,List.length_nil];omega,by simp[boolV,inV,inL,inO]⟩
         simp only[boolV,Val.bulk,bulkL,bulkO,eb,List.length_cons,List.length_nil];omega
       · trivial
     · have hw:=numberAt_within hl
       cases hu:numberAt s (past s p)with
       |bad e q=>trivial
       |ok n q=>
        have hn:=numberAt_in hu
        rw[hu]at hw
        have:=hw.1
        refine⟨?_,by omega,by simp only[intV,inV,inL,inO];exact⟨hn,trivial,trivial⟩⟩
        simp only[intV,Val.bulk,bulkL,bulkO,eb];omega
  · unfold listF
    have hp:=past_le (s:=s) (p:=p+1) h
    have hg:=past_ge s (p+1)
    split
    · refine⟨?_,by omega,by simp[lstV,inV,inL,inO]⟩
      simp only[lstV,Val.bulk,bulkL,bulkO,eb];omega
    · have:=ii s _ d [] hp (by simp[inL])
      cases hr:itemsF f s (past s (p+1)) d []with
      |bad e q=>trivial
      |ok v q=>
       rw[hr]at this
       obtain⟨h1,h2,h3⟩:=this
       simp only[bulkL]at h1
       exact⟨by omega,by omega,h3⟩
  · unfold objF
    have hp:=past_le (s:=s) (p:=p+1) h
    have hg:=past_ge s (p+1)
    split
    · refine⟨?_,by omega,by simp[objV,inV,inL,inO]⟩
      simp only[objV,Val.bulk,bulkL,bulkO,eb];omega
    · have:=im s _ d [] hp (by simp[inO])
      cases hr:membersF f s (past s (p+1)) d []with
      |bad e q=>trivial
      |ok v q=>
       rw[hr]at this
       obtain⟨h1,h2,h3⟩:=this
       simp only[bulkO]at h1
       exact⟨by omega,by omega,h3⟩
  · unfold itemsF
    have hv:=iv s p (d+1) h
    have hw:=win.1 s p (d+1) h
    cases hr:valueF f s p (d+1)with
    |bad e q=>trivial
    |ok v q=>
     rw[hr]at hv hw
     obtain⟨h1,h2⟩:=hw
     obtain⟨k1,_,k3⟩:=hv
     have hg:=past_ge s q
     have e1:bulkL (acc++ [v])=bulkL acc+v.bulk:=by rw[bulkL_app];simp[bulkL]
     have e2:inL (acc++ [v]):=inL_app hi ⟨k3,trivial⟩
     simp only
     split
     · rename_i hc
       have:=ii s _ d _ (get_lt hc) e2
       cases hr2:itemsF f s (past s q+1) d (acc++ [v])with
       |bad e q=>trivial
       |ok v' q'=>
        rw[hr2]at this
        obtain⟨a1,a2,a3⟩:=this
        exact⟨by omega,by omega,a3⟩
     split
     · refine⟨?_,by omega, ?_⟩
       · simp only[lstV,Val.bulk,bulkO,eb];omega
       · simp only[lstV,inV,inO];exact⟨by omega,e2,trivial⟩
     · trivial
  · unfold membersF
    have hp0:=past_le h
    have hg0:=past_ge s p
    have hw:=unqAt_within hp0
    cases hr:unqAt s (past s p)with
    |bad e q=>trivial
    |ok k q=>
     rw[hr]at hw
     have hu:=(unqAt_ok hr).2
     have hg:=past_ge s q
     simp only
     split
     · trivial
     split
     · rename_i hc
       have:=ik s _ d acc ⟨k.toArray⟩ (get_lt hc) hi
       cases hr2:memberF f s (past s q+1) d acc ⟨k.toArray⟩with
       |bad e q=>trivial
       |ok v' q'=>
        rw[hr2]at this
        obtain⟨a1,a2,a3⟩:=this
        rw[size_mk]at a1
        exact⟨by omega,by omega,a3⟩
     · trivial
  · unfold memberF
    have hv:=iv s p (d+1) h
    have hw:=win.1 s p (d+1) h
    cases hr:valueF f s p (d+1)with
    |bad e q=>trivial
    |ok v q=>
     rw[hr]at hv hw
     obtain⟨h1,h2⟩:=hw
     obtain⟨k1,_,k3⟩:=hv
     have hg:=past_ge s q
     have e1:bulkO (acc++ [(k,v)])=bulkO acc+(1+k.size+v.bulk):=by rw[bulkO_app];simp[bulkO,bulkP]
     have e2:inO (acc++ [(k,v)]):=inO_app hi ⟨k3,trivial⟩
     simp only
     split
     · rename_i hc
       have:=im s _ d _ (get_lt hc) e2
       cases hr2:membersF f s (past s q+1) d (acc++ [(k,v)])with
       |bad e q=>trivial
       |ok v' q'=>
        rw[hr2]at this
        obtain⟨a1,a2,a3⟩:=this
        exact⟨by omega,by omega,a3⟩
     split
     · have e3:=sortO_bulk (acc++ [(k,v)])
       refine⟨?_,by omega, ?_⟩
       · simp only[objV,Val.bulk,bulkL,eb];omega
       · simp only[objV,inV,inL];exact⟨by omega,trivial,sortO_in e2⟩
     · trivial
end Go.Proofs.YtkkbplakgldlpaaGreatDoor

namespace Go.Proofs.YtkkbplakgldlpaaGreatDoor
open Go.RowKit
end Go.Proofs.YtkkbplakgldlpaaGreatDoor

namespace Go.Proofs.YtkkbplakgldlpaaGreatDoor
open Go.RowKit
set_option maxHeartbeats 2000000 in
theorem bytes_calls (v:Val) (cs:List Value) (w:World) (hT:Tabs w) (hV:HoldsV w w.heap.size v cs) (hb:v.bulk≤1000000000) (hok:okV v):
 Calls Tryz.prog 47 #[.agg cs.toArray] w fun e w'=>e=.returned (.int .i64 (textV v).length)∧Below w.heap.size w w':=by
 have hV':=hV
 obtain⟨k,b,n,t,l,o⟩:=v
 simp only[HoldsV]at hV'
 obtain⟨la,lc,oa,oc,rfl,_,_⟩:=hV'
 obtain⟨w1,hw1⟩: ∃w1,w.alloc (.cells (cells6 k b n t la l.length lc oa o.length oc).toArray 27)=w1:=⟨_,rfl⟩
 have hb1:Below w.heap.size w w1:=hw1▸(Below.refl _ _).alloc (Nat.le_refl _) _
 have hz1:w1.heap.size=w.heap.size+1:=by rw[←hw1];simp
 have hc:=writer_calls k b n t l o la oa lc oc false w1 (hT.below hb1) (HoldsV.more hb1.size _ _ (hV.below hb1)) hb hok
 have hown:=fun w=>own_calls k b n t la oa l.length lc o.length oc w
 rw[hz1]at hc
 generalize textV (.mk k b n t l o)=L at*
 have ent:=enters_ownF
 have HC:=Lib.hid hc
 have HO:=Lib.hid hown
 have HAB:=Lib.hid hb1
 subst hw1
 clear hc hown hV hb hok hT hz1 hb1
 go_enter Tryz.func47,Tryz.ntmps47
 go_wp2_with (first|(go_at_call 82;refine(HO.out _).mono ?_;rintro e w2 ⟨rfl,rfl⟩)|(go_at_fn (ownF k);refine(HC.out).mono ?_;rintro e w4 ⟨rfl,h6,h7⟩;have hW4:=h6;obtain⟨pp,vv,hbld⟩:=hW4;have g3:w4.cell? ⟨w.heap.size+1,3,none⟩=some (.int .i64 (L.length:Int)):=by(rw[Lib.cell_of_heap hbld.2.1];rfl)))
 go_ret
 exact⟨rfl,HAB.out.trans (h7.mono (by simp))⟩
end Go.Proofs.YtkkbplakgldlpaaGreatDoor

namespace Go.Proofs.YtkkbplakgldlpaaGreatDoor
open Go.RowKit
set_option maxHeartbeats 2000000 in
theorem mayR_calls: ∀(v:Val),MayRC v:=by
 refine Val.ind ?_
 intro k b n t l o ihl iho cs d w hV hb h0 h65
 simp only[HoldsV]at hV
 obtain⟨la,lc,oa,oc,rfl,hL,hO⟩:=hV
 simp only[Val.bulk]at hb
 by_cases hodd:oddB k b n t l.length o.length=true
 · have hm:mayV (.mk k b n t l o) d=9:=by simp only[mayV,hodd,if_true]
   rw[hm]
   clear hm ihl iho hL hO
   go_enter Tryz.func161,Tryz.ntmps161
   go_wp2_with (go_at_call 189;refine(bare_calls2 hodd _).mono ?_;rintro e w' ⟨rfl,hb1⟩)
   go_ret
   exact⟨rfl,((Below.refl _ _).alloc (Nat.le_refl _) _).trans (hb1.mono (by simp))⟩
 have hodd':oddB k b n t l.length o.length=false:=by simpa using hodd
 clear hodd
 by_cases h64:64<d
 · have hm:mayV (.mk k b n t l o) d=5:=by simp only[mayV,hodd',Bool.false_eq_true,if_false,h64,if_true]
   rw[hm]
   clear hm ihl iho hL hO
   go_enter Tryz.func161,Tryz.ntmps161
   go_wp2_with (go_at_call 189;refine(bare_calls2 hodd' _).mono ?_;rintro e w' ⟨rfl,hb1⟩)
   go_ret
   exact⟨rfl,((Below.refl _ _).alloc (Nat.le_refl _) _).trans (hb1.mono (by simp))⟩
 by_cases hval:validB t=true
 · obtain⟨hk,ht,hl,ho⟩:=odd_parts hodd'
   by_cases hl0:l= []
   · subst hl0
     have hm:mayV (.mk k b n t [] o) d=mayO o none (d+1):=by
      simp only[mayV,hodd',Bool.false_eq_true,if_false,h64,hval,if_true,mayL]
     rw[hm]
     rcases hO with rfl|⟨g,off,rfl,hg,hO⟩
     · exact mayR_obj k b n t [] la oa lc oc d w 0 0 (.inl rfl) (by simp only[bulkO]at hb ⊢;omega) h0 (by omega) iho hodd' hval
     · exact mayR_obj k b n t o la _ lc oc d w g off (.inr ⟨rfl,hg,hO⟩) (by omega) h0 (by omega) iho hodd' hval
   · have hl1:0<l.length:=List.length_pos_iff.2 hl0
     obtain rfl:o= []:=List.eq_nil_of_length_eq_zero (by omega)
     have hm:mayV (.mk k b n t l []) d=mayL l (d+1):=by
      simp only[mayV,hodd',Bool.false_eq_true,if_false,h64,hval,if_true,mayO]
      split<;>simp_all
     rw[hm]
     rcases hL with rfl|⟨g,off,rfl,hg,hL⟩
     · exact absurd rfl hl0
     · exact mayR_list k b n t l _ oa lc oc d w g off (.inr ⟨rfl,hg,hL⟩) (by omega) h0 (by omega) ihl hodd' hval
 · have hval':validB t=false:=by simpa using hval
   have hm:mayV (.mk k b n t l o) d=3:=by simp only[mayV,hodd',Bool.false_eq_true,if_false,h64,hval']
   rw[hm]
   clear hm ihl iho hL hO hval
   go_enter Tryz.func161,Tryz.ntmps161
   go_wp2_with (first|(go_at_call 189;refine(bare_calls2 hodd' _).mono ?_;rintro e w1 ⟨rfl,hb1⟩;obtain⟨hc1,hf1⟩:=bcell hb1;have hz1:=hb1.size;simp only[World.size_alloc]at hz1;have hbw1:Below w.heap.size w w1:=((Below.refl _ _).alloc (Nat.le_refl _) _).trans (hb1.mono (by simp)))|(go_at_call 84;refine(RValid_calls2 hval' _ (by omega)).mono ?_;rintro e w2 ⟨rfl,rfl⟩))
   go_ret
   exact⟨rfl,hbw1⟩
theorem RMay_calls (v:Val) (cs:List Value) (w:World) (hV:HoldsV w w.heap.size v cs) (hb:v.bulk≤1000000000):
 Calls Tryz.prog 108 #[.agg cs.toArray] w fun e w'=>e=.returned (.int .i64 (mayV v 1))∧Below w.heap.size w w':=by
 have hV':=hV
 obtain⟨k,b,n,t,l,o⟩:=v
 simp only[HoldsV]at hV'
 obtain⟨la,lc,oa,oc,rfl,_,_⟩:=hV'
 have hc:=mayR_calls _ _ 1 (w.alloc (.cells #[.int .i64 k,.bool b,.int .i64 n,.string t,.slice la l.length lc,.slice oa o.length oc] 27)) (HoldsV.more (by simp) _ _ (hV.below ((Below.refl _ _).alloc (Nat.le_refl _) _))) hb (by omega) (by omega)
 generalize mayV _ _=m at hc ⊢
 have H:=Lib.hid hc
 clear hc hV
 go_enter Tryz.func108,Tryz.ntmps108
 go_wp2_with (go_at_call 161;refine(H.out).mono ?_;rintro e w' ⟨rfl,hb1⟩)
 go_ret
 exact⟨rfl,((Below.refl _ _).alloc (Nat.le_refl _) _).trans (hb1.mono (by simp))⟩
end Go.Proofs.YtkkbplakgldlpaaGreatDoor

namespace Go.Proofs.YtkkbplakgldlpaaGreatDoor
open Go.RowKit
theorem alloc_below (w:World) (o:Obj):Below w.heap.size w (w.alloc o):=(Below.refl _ _).alloc (Nat.le_refl _) _
theorem beq_cast (n:Nat):((n:Int)==0)=decide (n=0):=by rw[Bool.eq_iff_iff];simp
theorem beq_dec (a b:Int):(a==b)=decide (a=b):=by rw[Bool.eq_iff_iff];simp
theorem bcellM {W w1:World} (hb:Below W.heap.size W w1):(∀b o,b<W.heap.size→w1.cell? ⟨b,o,none⟩=W.cell? ⟨b,o,none⟩)∧(∀b o,b<W.heap.size→w1.frozen? ⟨b,o,none⟩=W.frozen? ⟨b,o,none⟩):=
 ⟨fun b o h=>hb.cell (p:=⟨b,o,none⟩) h,fun b o h=>hb.frozen (p:=⟨b,o,none⟩) h⟩
end Go.Proofs.YtkkbplakgldlpaaGreatDoor

namespace Go.Proofs.YtkkbplakgldlpaaGreatDoor
def poly:Nat:=3988292384
def st1 (r:Nat):Nat:=if r % 2=1 then(r / 2) ^^^ poly else r / 2
def stN:Nat→Nat→Nat
 |0,r=>r
 |n+1,r=>stN n (st1 r)
@[irreducible] def st8 (r:Nat):Nat:=stN 8 r
end Go.Proofs.YtkkbplakgldlpaaGreatDoor
