/- Parts, joined: A reader of values, byte by byte: what stands at a place of a text, and where that ends, or what is wrong, and where. Plain. No condition. What the reader reads: how big it is, that its Ints are of 64 bits, that it may be. Plain. No condition. -/
import Derived.Test.YtackmnbpfbaemaaGreatDoorProg
import Derived.Test.YtackmnbpfbaemaaGreatDoorKPb2
import Derived.Test.YtackmnbpfbaemaaGreatDoorKPb16
namespace Go.Proofs.YtackmnbpfbaemaaGreatDoor
open Go.RowKit
def emptyB:ByteArray:=⟨#[]⟩
def nullV:Val:= .mk 1 false 0 emptyB [] []
def boolV (b:Bool):Val:= .mk 2 b 0 emptyB [] []
def intV (n:Int):Val:= .mk 3 false n emptyB [] []
def txtV (l:List UInt8):Val:= .mk 4 false 0 ⟨l.toArray⟩ [] []
def lstV (l:List Val):Val:= .mk 5 false 0 emptyB l []
def objV (o:List (ByteArray×Val)):Val:= .mk 6 false 0 emptyB [] o
def Rd.map {α β:Type} (g:α→β):Rd α→Rd β
 | .ok a q=> .ok (g a) q
 | .bad e q=> .bad e q
def wordAt (s:List UInt8) (p:Nat) (w:List UInt8) (v:Val):Rd Val:=if w.isPrefixOf (s.drop p)=true then .ok v (p+w.length)else .bad 4 p
def sortO (l:List (ByteArray×Val)):List (ByteArray×Val):=(objAll l []).getD []
def hasK (k:ByteArray) (l:List (ByteArray×Val)):Bool:=l.any fun m=>decide (m.1=k)
def startsV (c:UInt8):Bool:=isDig c||c==45||c==34||c==91||c==123||c==110||c==116||c==102
mutual
def valueF:Nat→List UInt8→Nat→Int→Rd Val
 |0,s,p,_=> .bad 4 (past s p)
 |f+1,s,p,d=>match s[past s p]? with
  |none=> .bad 4 (past s p)
  |some c=>
   if startsV c=false then .bad 4 (past s p)
   else if 64<d then .bad 5 (past s p)
   else if c=91 then listF f s (past s p) d
   else if c=123 then objF f s (past s p) d
   else if c=34 then(unqAt s (past s p)).map txtV
   else if c=110 then wordAt s (past s p) [110,117,108,108] nullV
   else if c=116 then wordAt s (past s p) [116,114,117,101] (boolV true)
   else if c=102 then wordAt s (past s p) [102,97,108,115,101] (boolV false)
   else(numberAt s (past s p)).map intV
def listF:Nat→List UInt8→Nat→Int→Rd Val
 |0,s,p,_=> .bad 4 (past s (p+1))
 |f+1,s,p,d=>if s[past s (p+1)]? =some 93 then .ok (lstV []) (past s (p+1)+1)else itemsF f s (past s (p+1)) d []
def objF:Nat→List UInt8→Nat→Int→Rd Val
 |0,s,p,_=> .bad 4 (past s (p+1))
 |f+1,s,p,d=>if s[past s (p+1)]? =some 125 then .ok (objV []) (past s (p+1)+1)else membersF f s (past s (p+1)) d []
def itemsF:Nat→List UInt8→Nat→Int→List Val→Rd Val
 |0,s,p,_,_=> .bad 4 (past s p)
 |f+1,s,p,d,acc=>match valueF f s p (d+1)with
  | .bad e q=> .bad e q
  | .ok v q=>if s[past s q]? =some 44 then itemsF f s (past s q+1) d (acc++ [v])else if s[past s q]? =some 93 then .ok (lstV (acc++ [v])) (past s q+1)else .bad 4 (past s q)
def membersF:Nat→List UInt8→Nat→Int→List (ByteArray×Val)→Rd Val
 |0,s,p,_,_=> .bad 4 (past s p)
 |f+1,s,p,d,acc=>match unqAt s (past s p)with
  | .bad e q=> .bad e q
  | .ok k q=>if hasK ⟨k.toArray⟩ acc=true then .bad 8 (past s p)
    else if s[past s q]? =some 58 then memberF f s (past s q+1) d acc ⟨k.toArray⟩
    else .bad 4 (past s q)
def memberF:Nat→List UInt8→Nat→Int→List (ByteArray×Val)→ByteArray→Rd Val
 |0,s,p,_,_,_=> .bad 4 (past s p)
 |f+1,s,p,d,acc,k=>match valueF f s p (d+1)with
  | .bad e q=> .bad e q
  | .ok v q=>if s[past s q]? =some 44 then membersF f s (past s q+1) d (acc++ [(k,v)])else if s[past s q]? =some 125 then .ok (objV (sortO (acc++ [(k,v)]))) (past s q+1)else .bad 4 (past s q)
end
def parseL (s:List UInt8):Rd Val:=match valueF (4*s.length+4) s 0 1 with
 | .bad e q=> .bad e q
 | .ok v q=>if past s q<s.length then .bad 4 (past s q)else .ok v (past s q)
theorem Rd.within.from {α:Type} {p p' n:Nat} {r:Rd α} (h:r.within p' n) (hp:p≤p'):r.within p n:=by
 cases r with
 |ok a q=>exact⟨by have:=h.1;omega,h.2⟩
 |bad e q=>exact⟨by have:=h.1;omega,h.2⟩
theorem Rd.within.map {α β:Type} {g:α→β} {p n:Nat} {r:Rd α} (h:r.within p n):(r.map g).within p n:=by
 cases r<;>exact h
theorem wordAt_within {s:List UInt8} {p:Nat} (h:p<s.length) {w:List UInt8} (hw:w≠ []) (v:Val):(wordAt s p w v).within p s.length:=by
 unfold wordAt
 split
 · rename_i hp
   have hp':=(List.isPrefixOf_iff_prefix.1 hp).length_le
   rw[List.length_drop]at hp'
   have:0<w.length:=List.length_pos_iff.2 hw
   exact⟨by omega,by omega⟩
 · exact⟨Nat.le_refl _,by omega,by decide,by decide⟩
theorem bad_past {α:Type} {s:List UInt8} {p:Nat} (h:p≤s.length) (e:Int) (h1:1≤e) (h2:e≤18):(Rd.bad e (past s p):Rd α).within p s.length:=⟨past_ge s p,past_le h,h1,h2⟩
theorem within_all: ∀(f:Nat),(∀s p d,p≤s.length→(valueF f s p d).within p s.length)∧(∀s p d,p<s.length→(listF f s p d).within p s.length)∧(∀s p d,p<s.length→(objF f s p d).within p s.length)∧
 (∀s p d acc,p≤s.length→(itemsF f s p d acc).within p s.length)∧(∀s p d acc,p≤s.length→(membersF f s p d acc).within p s.length)∧(∀s p d acc k,p≤s.length→(memberF f s p d acc k).within p s.length):=by
 intro f
 induction f with
 |zero=>
  refine⟨fun s p d h=> ?_,fun s p d h=> ?_,fun s p d h=> ?_,fun s p d acc h=> ?_,fun s p d acc h=> ?_,fun s p d acc k h=> ?_⟩
  · unfold valueF;exact bad_past h _ (by decide) (by decide)
  · unfold listF;exact(bad_past (p:=p+1) h _ (by decide) (by decide)).from (by omega)
  · unfold objF;exact(bad_past (p:=p+1) h _ (by decide) (by decide)).from (by omega)
  · unfold itemsF;exact bad_past h _ (by decide) (by decide)
  · unfold membersF;exact bad_past h _ (by decide) (by decide)
  · unfold memberF;exact bad_past h _ (by decide) (by decide)
 |succ f ih=>
  obtain⟨iv,il,io,ii,im,ik⟩:=ih
  refine⟨fun s p d h=> ?_,fun s p d h=> ?_,fun s p d h=> ?_,fun s p d acc h=> ?_,fun s p d acc h=> ?_,fun s p d acc k h=> ?_⟩
  · unfold valueF
    have hp:=past_le h
    have hg:=past_ge s p
    cases hc:s[past s p]? with
    |none=>exact bad_past h _ (by decide) (by decide)
    |some c=>
     have hl:=get_lt hc
     simp only
     split
     · exact bad_past h _ (by decide) (by decide)
     split
     · exact bad_past h _ (by decide) (by decide)
     split
     · exact(il s _ d hl).from hg
     split
     · exact(io s _ d hl).from hg
     split
     · exact((unqAt_within hp).map).from hg
     split
     · exact(wordAt_within hl (by simp) _).from hg
     split
     · exact(wordAt_within hl (by simp) _).from hg
     split
     · exact(wordAt_within hl (by simp) _).from hg
     · exact((numberAt_within hl).map).from hg
  · unfold listF
    have hp:=past_le (s:=s) (p:=p+1) h
    have hg:=past_ge s (p+1)
    split
    · rename_i hc
      exact⟨by omega,by have:=get_lt hc;omega⟩
    · exact(ii s _ d [] hp).from (by omega)
  · unfold objF
    have hp:=past_le (s:=s) (p:=p+1) h
    have hg:=past_ge s (p+1)
    split
    · rename_i hc
      exact⟨by omega,by have:=get_lt hc;omega⟩
    · exact(im s _ d [] hp).from (by omega)
  · unfold itemsF
    have hv:=iv s p (d+1) h
    cases hr:valueF f s p (d+1)with
    |bad e q=>rw[hr]at hv;exact hv
    |ok v q=>
     rw[hr]at hv
     obtain⟨h1,h2⟩:=hv
     have hp:=past_le h2
     have hg:=past_ge s q
     simp only
     split
     · rename_i hc
       exact(ii s _ d _ (get_lt hc)).from (by omega)
     split
     · rename_i hc
       exact⟨by omega,get_lt hc⟩
     · exact(bad_past h2 _ (by decide) (by decide)).from (by omega)
  · unfold membersF
    have hp0:=past_le h
    have hg0:=past_ge s p
    have hv:=unqAt_within hp0
    cases hr:unqAt s (past s p)with
    |bad e q=>rw[hr]at hv;exact hv.from hg0
    |ok k q=>
     rw[hr]at hv
     obtain⟨h1,h2⟩:=hv
     have hp:=past_le h2
     have hg:=past_ge s q
     simp only
     split
     · exact bad_past h _ (by decide) (by decide)
     split
     · rename_i hc
       exact(ik s _ d _ _ (get_lt hc)).from (by omega)
     · exact(bad_past h2 _ (by decide) (by decide)).from (by omega)
  · unfold memberF
    have hv:=iv s p (d+1) h
    cases hr:valueF f s p (d+1)with
    |bad e q=>rw[hr]at hv;exact hv
    |ok v q=>
     rw[hr]at hv
     obtain⟨h1,h2⟩:=hv
     have hp:=past_le h2
     have hg:=past_ge s q
     simp only
     split
     · rename_i hc
       exact(im s _ d _ (get_lt hc)).from (by omega)
     split
     · rename_i hc
       exact⟨by omega,get_lt hc⟩
     · exact(bad_past h2 _ (by decide) (by decide)).from (by omega)
end Go.Proofs.YtackmnbpfbaemaaGreatDoor

namespace Go.Proofs.YtackmnbpfbaemaaGreatDoor
open Go.RowKit
theorem enc_len (r:Int):(Lib.encodeRune r).length≤4:=by
 have:=(Lib.encodeRuneZ_length r).2
 unfold Lib.encodeRune
 rwa [List.length_map]
theorem enc_len1 {r:Int} (h0:0≤r) (h:r<128):(Lib.encodeRune r).length=1:=by
 unfold Lib.encodeRune
 rw[List.length_map,Lib.encodeRuneZ_one h0 (by omega)];rfl
theorem escL_len {l:List UInt8} {r n:Nat} (h:escL l= .ok r n):(Lib.encodeRune (r:Int)).length≤n:=by
 have h2:=(escL_ok h).2.2.1
 have h4:=enc_len (r:Int)
 by_cases hn:4≤n
 · omega
 have hr:r<128∨6≤n:=by
  unfold escL at h
  cases hu:unitL l with
  |some u=>
   rw[hu]at h
   simp only[pairL]at h
   split at h
   · simp only[Rd.ok.injEq]at h;omega
   split at h
   · cases h
   cases hm:unitL (l.drop 6)with
   |none=>rw[hm]at h;cases h
   |some m=>
    rw[hm]at h
    simp only at h
    split at h
    · cases h
    · simp only[Rd.ok.injEq]at h;omega
  |none=>
   rw[hu]at h
   simp only[letL]at h
   cases hc:l[1]? with
   |none=>rw[hc]at h;cases h
   |some c=>
    rw[hc]at h
    simp only at h
    cases he:escLet c with
    |none=>rw[he]at h;cases h
    |some x=>
     rw[he]at h
     simp only[Rd.ok.injEq]at h
     have:x≤92:=by
      unfold escLet at he
      repeat' split at he
      all_goals first|(simp at he;omega)|cases he
     omega
 rcases hr with hr|hr
 · have:=enc_len1 (r:=(r:Int)) (by omega) (by omega);omega
 · omega
def encAll (rs:List Nat):List UInt8:=rs.flatMap fun(r:Nat)=>Lib.encodeRune (r:Int)
theorem valid_all: ∀{rs:List Nat},(∀r ∈ rs,scalar r)→Lib.validD (encAll rs)=true
 | [],_=>rfl
 |r::rs,h=>by
  have e:encAll (r::rs)=Lib.encodeRune (r:Int)++encAll rs:=rfl
  rw[e,valid_rune (h r (by simp))]
  exact valid_all fun x hx=>h x (by simp[hx])
theorem dec_scalar {l:List UInt8} (hl:l≠ []) (h: ¬((Lib.decodeL l).1=65533∧(Lib.decodeL l).2=1)):scalar (Lib.decodeL l).1:=by
 have h1:=atSpec_range l
 rw[atSpec_dec l hl,if_neg h]at h1
 have:=Lib.decodeL_width l
 unfold scalar
 simp only at h1
 omega
theorem unqF_ok: ∀(f:Nat) (s:List UInt8) (i:Nat) (out a:List UInt8) (q:Nat),unqF f s i out= .ok a q→(∃rs,(∀r ∈ rs,scalar r)∧out=encAll rs)→(∃rs,(∀r ∈ rs,scalar r)∧a=encAll rs)∧a.length+i+1≤out.length+q
 |0,s,i,out,a,q,h,_=>by unfold unqF at h;cases h
 |f+1,s,i,out,a,q,h,ho=>by
  unfold unqF at h
  cases hc:s[i]? with
  |none=>rw[hc]at h;cases h
  |some c=>
   rw[hc]at h
   have hi:=get_lt hc
   have hne:s.drop i≠ []:=by rw[drop_at hc];simp
   simp only at h
   split at h
   · simp only[Rd.ok.injEq]at h
     obtain⟨rfl,rfl⟩:=h
     exact⟨ho,by omega⟩
   split at h
   · cases h
   obtain⟨rs,h1,h2⟩:=ho
   split at h
   · cases he:escL (s.drop i)with
     |bad e x=>rw[he]at h;cases h
     |ok r n=>
      rw[he]at h
      have hok:=escL_ok he
      have hlen:=escL_len he
      have hn:scalar r:=⟨hok.1,hok.2.1⟩
      obtain⟨k1,k2⟩:=unqF_ok f s _ _ _ _ h ⟨rs++ [r],fun x hx=>by
       rcases List.mem_append.1 hx with hx|hx
       · exact h1 x hx
       · simp only[List.mem_singleton]at hx;rw[hx];exact hn,by simp[encAll,h2]⟩
      rw[List.length_append]at k2
      exact⟨k1,by omega⟩
   split at h
   · cases h
   · rename_i hd
     have hn:=dec_scalar hne hd
     obtain⟨k1,k2⟩:=unqF_ok f s _ _ _ _ h ⟨rs++ [(Lib.decodeL (s.drop i)).1],fun x hx=>by
      rcases List.mem_append.1 hx with hx|hx
      · exact h1 x hx
      · simp only[List.mem_singleton]at hx;rw[hx];exact hn,by simp[encAll,h2,Lib.encode_decode _ hne hd]⟩
     rw[List.length_append,List.length_take]at k2
     exact⟨k1,by omega⟩
theorem unqAt_ok {s:List UInt8} {p q:Nat} {a:List UInt8} (h:unqAt s p= .ok a q):Lib.validD a=true∧a.length+p+2≤q:=by
 unfold unqAt at h
 split at h
 · obtain⟨⟨rs,h1,h2⟩,h3⟩:=unqF_ok _ _ _ _ _ _ h ⟨[],fun r hr=>(by cases hr),rfl⟩
   rw[h2]
   refine⟨valid_all h1, ?_⟩
   rw[←h2]
   simp only[List.length_nil]at h3;omega
 · cases h
theorem numberAt_in {s:List UInt8} {p q:Nat} {n:Int} (h:numberAt s p= .ok n q): -9223372036854775808≤n∧n≤9223372036854775807:=by
 unfold numberAt numFrom numRes at h
 repeat' split at h
 all_goals first|(simp only[Rd.ok.injEq]at h;omega)|cases h
theorem bulkL_app: ∀(a b:List Val),bulkL (a++b)=bulkL a+bulkL b
 | [],b=>by simp[bulkL]
 |x::r,b=>by simp only[List.cons_append,bulkL,bulkL_app r b];omega
theorem inL_app: ∀{a b:List Val},inL a→inL b→inL (a++b)
 | [],_,_,h=>h
 |x::r,b,h,h'=>by
  simp only[List.cons_append,inL]at h ⊢
  exact⟨h.1,inL_app h.2 h'⟩
theorem sortO_bulk (l:List (ByteArray×Val)):bulkO (sortO l)≤bulkO l:=by
 unfold sortO
 cases h:objAll l []with
 |none=>simp[bulkO]
 |some o=>have:=objAll_bulk h;simp only[bulkO]at this;simp only[Option.getD_some];omega
theorem sortO_in {l:List (ByteArray×Val)} (hi:inO l):inO (sortO l):=by
 unfold sortO
 cases h:objAll l []with
 |none=>simp[inO]
 |some o=>exact objAll_in h (by simp[inO]) hi
theorem eb:emptyB.size=0:=rfl
def Rd.sized (base p:Nat) (C:Nat):Rd Val→Prop
 | .ok v q=>v.bulk+base≤C+6*(q - p)∧p<q∧inV v
 | .bad _ _=>True
theorem sized_all: ∀(f:Nat),(∀s p d,p≤s.length→(valueF f s p d).sized 0 p 0)∧(∀s p d,p<s.length→(listF f s p d).sized 0 p 0)∧(∀s p d,p<s.length→(objF f s p d).sized 0 p 0)∧
 (∀s p d acc,p≤s.length→inL acc→(itemsF f s p d acc).sized 0 p (6+bulkL acc))∧(∀s p d acc,p≤s.length→inO acc→(membersF f s p d acc).sized 0 p (6+bulkO acc))∧
 (∀s p d acc k,p≤s.length→inO acc→(memberF f s p d acc k).sized 0 p (7+bulkO acc+k.size)):=by
 intro f
 induction f with
 |zero=>
  refine⟨fun s p d h=> ?_,fun s p d h=> ?_,fun s p d h=> ?_,fun s p d acc h _=> ?_,fun s p d acc h _=> ?_,fun s p d acc k h _=> ?_⟩
  · unfold valueF;trivial
  · unfold listF;trivial
  · unfold objF;trivial
  · unfold itemsF;trivial
  · unfold membersF;trivial
  · unfold memberF;trivial
 |succ f ih=>
  obtain⟨iv,il,io,ii,im,ik⟩:=ih
  have win:=within_all f
  have lift: ∀{p p' q:Nat} {r:Rd Val},p≤p'→r.sized 0 p' 0→r.sized 0 p 0:=by
   intro p p' q r hp hr
   cases r with
   |ok v q=>exact⟨by have:=hr.1;omega,by have:=hr.2.1;omega,hr.2.2⟩
   |bad e q=>trivial
  refine⟨fun s p d h=> ?_,fun s p d h=> ?_,fun s p d h=> ?_,fun s p d acc h hi=> ?_,fun s p d acc h hi=> ?_,fun s p d acc k h hi=> ?_⟩
  · unfold valueF
    have hp:=past_le h
    have hg:=past_ge s p
    cases hc:s[past s p]? with
    |none=>trivial
    |some c=>
     have hl:=get_lt hc
     simp only
     split
     · trivial
     split
     · trivial
     split
     · exact lift (q:=0) hg (il s _ d hl)
     split
     · exact lift (q:=0) hg (io s _ d hl)
     split
     · cases hu:unqAt s (past s p)with
       |bad e q=>trivial
       |ok a q=>
        obtain⟨_,h2⟩:=unqAt_ok hu
        refine⟨?_,by omega,by simp[txtV,inV,inL,inO]⟩
        simp only[txtV,Val.bulk,bulkL,bulkO,size_mk];omega
     split
     · unfold wordAt
       split
       · refine⟨?_,by simp only[List.length_cons,List.length_nil];omega,by simp[nullV,inV,inL,inO]⟩
         simp only[nullV,Val.bulk,bulkL,bulkO,eb,List.length_cons,List.length_nil];omega
       · trivial
     split
     · unfold wordAt
       split
       · refine⟨?_,by simp only[List.length_cons,List.length_nil];omega,by simp[boolV,inV,inL,inO]⟩
         simp only[boolV,Val.bulk,bulkL,bulkO,eb,List.length_cons,List.length_nil];omega
       · trivial
     split
     · unfold wordAt
       split
       · refine⟨?_,by simp only[List.length_cons,List.length_nil];omega,by simp[boolV,inV,inL,inO]⟩
         simp only[boolV,Val.bulk,bulkL,bulkO,eb,List.length_cons,List.length_nil];omega
       · trivial
     · have hw:=numberAt_within hl
       cases hu:numberAt s (past s p)with
       |bad e q=>trivial
       |ok n q=>
        have hn:=numberAt_in hu
        rw[hu]at hw
        have:=hw.1
        refine⟨?_,by omega,by simp only[intV,inV,inL,inO];exact⟨hn,trivial,trivial⟩⟩
        simp only[intV,Val.bulk,bulkL,bulkO,eb];omega
  · unfold listF
    have hp:=past_le (s:=s) (p:=p+1) h
    have hg:=past_ge s (p+1)
    split
    · refine⟨?_,by omega,by simp[lstV,inV,inL,inO]⟩
      simp only[lstV,Val.bulk,bulkL,bulkO,eb];omega
    · have:=ii s _ d [] hp (by simp[inL])
      cases hr:itemsF f s (past s (p+1)) d []with
      |bad e q=>trivial
      |ok v q=>
       rw[hr]at this
       obtain⟨h1,h2,h3⟩:=this
       simp only[bulkL]at h1
       exact⟨by omega,by omega,h3⟩
  · unfold objF
    have hp:=past_le (s:=s) (p:=p+1) h
    have hg:=past_ge s (p+1)
    split
    · refine⟨?_,by omega,by simp[objV,inV,inL,inO]⟩
      simp only[objV,Val.bulk,bulkL,bulkO,eb];omega
    · have:=im s _ d [] hp (by simp[inO])
      cases hr:membersF f s (past s (p+1)) d []with
      |bad e q=>trivial
      |ok v q=>
       rw[hr]at this
       obtain⟨h1,h2,h3⟩:=this
       simp only[bulkO]at h1
       exact⟨by omega,by omega,h3⟩
  · unfold itemsF
    have hv:=iv s p (d+1) h
    have hw:=win.1 s p (d+1) h
    cases hr:valueF f s p (d+1)with
    |bad e q=>trivial
    |ok v q=>
     rw[hr]at hv hw
     obtain⟨h1,h2⟩:=hw
     obtain⟨k1,_,k3⟩:=hv
     have hg:=past_ge s q
     have e1:bulkL (acc++ [v])=bulkL acc+v.bulk:=by rw[bulkL_app];simp[bulkL]
     have e2:inL (acc++ [v]):=inL_app hi ⟨k3,trivial⟩
     simp only
     split
     · rename_i hc
       have:=ii s _ d _ (get_lt hc) e2
       cases hr2:itemsF f s (past s q+1) d (acc++ [v])with
       |bad e q=>trivial
       |ok v' q'=>
        rw[hr2]at this
        obtain⟨a1,a2,a3⟩:=this
        exact⟨by omega,by omega,a3⟩
     split
     · refine⟨?_,by omega, ?_⟩
       · simp only[lstV,Val.bulk,bulkO,eb];omega
       · simp only[lstV,inV,inO];exact⟨by omega,e2,trivial⟩
     · trivial
  · unfold membersF
    have hp0:=past_le h
    have hg0:=past_ge s p
    have hw:=unqAt_within hp0
    cases hr:unqAt s (past s p)with
    |bad e q=>trivial
    |ok k q=>
     rw[hr]at hw
     have hu:=(unqAt_ok hr).2
     have hg:=past_ge s q
     simp only
     split
     · trivial
     split
     · rename_i hc
       have:=ik s _ d acc ⟨k.toArray⟩ (get_lt hc) hi
       cases hr2:memberF f s (past s q+1) d acc ⟨k.toArray⟩with
       |bad e q=>trivial
       |ok v' q'=>
        rw[hr2]at this
        obtain⟨a1,a2,a3⟩:=this
        rw[size_mk]at a1
        exact⟨by omega,by omega,a3⟩
     · trivial
  · unfold memberF
    have hv:=iv s p (d+1) h
    have hw:=win.1 s p (d+1) h
    cases hr:valueF f s p (d+1)with
    |bad e q=>trivial
    |ok v q=>
     rw[hr]at hv hw
     obtain⟨h1,h2⟩:=hw
     obtain⟨k1,_,k3⟩:=hv
     have hg:=past_ge s q
     have e1:bulkO (acc++ [(k,v)])=bulkO acc+(1+k.size+v.bulk):=by rw[bulkO_app];simp[bulkO,bulkP]
     have e2:inO (acc++ [(k,v)]):=inO_app hi ⟨k3,trivial⟩
     simp only
     split
     · rename_i hc
       have:=im s _ d _ (get_lt hc) e2
       cases hr2:membersF f s (past s q+1) d (acc++ [(k,v)])with
       |bad e q=>trivial
       |ok v' q'=>
        rw[hr2]at this
        obtain⟨a1,a2,a3⟩:=this
        exact⟨by omega,by omega,a3⟩
     split
     · have e3:=sortO_bulk (acc++ [(k,v)])
       refine⟨?_,by omega, ?_⟩
       · simp only[objV,Val.bulk,bulkL,eb];omega
       · simp only[objV,inV,inL];exact⟨by omega,trivial,sortO_in e2⟩
     · trivial
end Go.Proofs.YtackmnbpfbaemaaGreatDoor
