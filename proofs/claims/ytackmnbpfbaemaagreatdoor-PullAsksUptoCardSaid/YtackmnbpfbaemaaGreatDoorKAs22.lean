/- Parts, joined: What the reader reads: how big it is, that its Ints are of 64 bits, that it may be. Plain. No condition. What the reader reads may be. Plain. No condition. -/
import Derived.Test.YtackmnbpfbaemaaGreatDoorProg
import Derived.Test.YtackmnbpfbaemaaGreatDoorKAs15
import Derived.Test.YtackmnbpfbaemaaGreatDoorKAs16
namespace Go.Proofs.YtackmnbpfbaemaaGreatDoor
open Go.RowKit
theorem enc_len (r:Int):(Lib.encodeRune r).length≤4:=by
 have:=(Lib.encodeRuneZ_length r).2
 unfold Lib.encodeRune
 rwa [List.length_map]
theorem enc_len1 {r:Int} (h0:0≤r) (h:r<128):(Lib.encodeRune r).length=1:=by
 unfold Lib.encodeRune
 rw[List.length_map,Lib.encodeRuneZ_one h0 (by omega)];rfl
theorem escL_len {l:List UInt8} {r n:Nat} (h:escL l= .ok r n):(Lib.encodeRune (r:Int)).length≤n:=by
 have h2:=(escL_ok h).2.2.1
 have h4:=enc_len (r:Int)
 by_cases hn:4≤n
 · omega
 have hr:r<128∨6≤n:=by
  unfold escL at h
  cases hu:unitL l with
  |some u=>
   rw[hu]at h
   simp only[pairL]at h
   split at h
   · simp only[Rd.ok.injEq]at h;omega
   split at h
   · cases h
   cases hm:unitL (l.drop 6)with
   |none=>rw[hm]at h;cases h
   |some m=>
    rw[hm]at h
    simp only at h
    split at h
    · cases h
    · simp only[Rd.ok.injEq]at h;omega
  |none=>
   rw[hu]at h
   simp only[letL]at h
   cases hc:l[1]? with
   |none=>rw[hc]at h;cases h
   |some c=>
    rw[hc]at h
    simp only at h
    cases he:escLet c with
    |none=>rw[he]at h;cases h
    |some x=>
     rw[he]at h
     simp only[Rd.ok.injEq]at h
     have:x≤92:=by
      unfold escLet at he
      repeat' split at he
      all_goals first|(simp at he;omega)|cases he
     omega
 rcases hr with hr|hr
 · have:=enc_len1 (r:=(r:Int)) (by omega) (by omega);omega
 · omega
def encAll (rs:List Nat):List UInt8:=rs.flatMap fun(r:Nat)=>Lib.encodeRune (r:Int)
theorem valid_all: ∀{rs:List Nat},(∀r ∈ rs,scalar r)→Lib.validD (encAll rs)=true
 | [],_=>rfl
 |r::rs,h=>by
  have e:encAll (r::rs)=Lib.encodeRune (r:Int)++encAll rs:=rfl
  rw[e,valid_rune (h r (by simp))]
  exact valid_all fun x hx=>h x (by simp[hx])
theorem dec_scalar {l:List UInt8} (hl:l≠ []) (h: ¬((Lib.decodeL l).1=65533∧(Lib.decodeL l).2=1)):scalar (Lib.decodeL l).1:=by
 have h1:=atSpec_range l
 rw[atSpec_dec l hl,if_neg h]at h1
 have:=Lib.decodeL_width l
 unfold scalar
 simp only at h1
 omega
theorem unqF_ok: ∀(f:Nat) (s:List UInt8) (i:Nat) (out a:List UInt8) (q:Nat),unqF f s i out= .ok a q→(∃rs,(∀r ∈ rs,scalar r)∧out=encAll rs)→(∃rs,(∀r ∈ rs,scalar r)∧a=encAll rs)∧a.length+i+1≤out.length+q
 |0,s,i,out,a,q,h,_=>by unfold unqF at h;cases h
 |f+1,s,i,out,a,q,h,ho=>by
  unfold unqF at h
  cases hc:s[i]? with
  |none=>rw[hc]at h;cases h
  |some c=>
   rw[hc]at h
   have hi:=get_lt hc
   have hne:s.drop i≠ []:=by rw[drop_at hc];simp
   simp only at h
   split at h
   · simp only[Rd.ok.injEq]at h
     obtain⟨rfl,rfl⟩:=h
     exact⟨ho,by omega⟩
   split at h
   · cases h
   obtain⟨rs,h1,h2⟩:=ho
   split at h
   · cases he:escL (s.drop i)with
     |bad e x=>rw[he]at h;cases h
     |ok r n=>
      rw[he]at h
      have hok:=escL_ok he
      have hlen:=escL_len he
      have hn:scalar r:=⟨hok.1,hok.2.1⟩
      obtain⟨k1,k2⟩:=unqF_ok f s _ _ _ _ h ⟨rs++ [r],fun x hx=>by
       rcases List.mem_append.1 hx with hx|hx
       · exact h1 x hx
       · simp only[List.mem_singleton]at hx;rw[hx];exact hn,by simp[encAll,h2]⟩
      rw[List.length_append]at k2
      exact⟨k1,by omega⟩
   split at h
   · cases h
   · rename_i hd
     have hn:=dec_scalar hne hd
     obtain⟨k1,k2⟩:=unqF_ok f s _ _ _ _ h ⟨rs++ [(Lib.decodeL (s.drop i)).1],fun x hx=>by
      rcases List.mem_append.1 hx with hx|hx
      · exact h1 x hx
      · simp only[List.mem_singleton]at hx;rw[hx];exact hn,by simp[encAll,h2,Lib.encode_decode _ hne hd]⟩
     rw[List.length_append,List.length_take]at k2
     exact⟨k1,by omega⟩
theorem unqAt_ok {s:List UInt8} {p q:Nat} {a:List UInt8} (h:unqAt s p= .ok a q):Lib.validD a=true∧a.length+p+2≤q:=by
 unfold unqAt at h
 split at h
 · obtain⟨⟨rs,h1,h2⟩,h3⟩:=unqF_ok _ _ _ _ _ _ h ⟨[],fun r hr=>(by cases hr),rfl⟩
   rw[h2]
   refine⟨valid_all h1, ?_⟩
   rw[←h2]
   simp only[List.length_nil]at h3;omega
 · cases h
theorem numberAt_in {s:List UInt8} {p q:Nat} {n:Int} (h:numberAt s p= .ok n q): -9223372036854775808≤n∧n≤9223372036854775807:=by
 unfold numberAt numFrom numRes at h
 repeat' split at h
 all_goals first|(simp only[Rd.ok.injEq]at h;omega)|cases h
theorem bulkL_app: ∀(a b:List Val),bulkL (a++b)=bulkL a+bulkL b
 | [],b=>by simp[bulkL]
 |x::r,b=>by simp only[List.cons_append,bulkL,bulkL_app r b];omega
theorem inL_app: ∀{a b:List Val},inL a→inL b→inL (a++b)
 | [],_,_,h=>h
 |x::r,b,h,h'=>by
  simp only[List.cons_append,inL]at h ⊢
  exact⟨h.1,inL_app h.2 h'⟩
theorem sortO_bulk (l:List (ByteArray×Val)):bulkO (sortO l)≤bulkO l:=by
 unfold sortO
 cases h:objAll l []with
 |none=>simp[bulkO]
 |some o=>have:=objAll_bulk h;simp only[bulkO]at this;simp only[Option.getD_some];omega
theorem sortO_in {l:List (ByteArray×Val)} (hi:inO l):inO (sortO l):=by
 unfold sortO
 cases h:objAll l []with
 |none=>simp[inO]
 |some o=>exact objAll_in h (by simp[inO]) hi
theorem eb:emptyB.size=0:=rfl
def Rd.sized (base p:Nat) (C:Nat):Rd Val→Prop
 | .ok v q=>v.bulk+base≤C+6*(q - p)∧p<q∧inV v
 | .bad _ _=>True
theorem sized_all: ∀(f:Nat),(∀s p d,p≤s.length→(valueF f s p d).sized 0 p 0)∧(∀s p d,p<s.length→(listF f s p d).sized 0 p 0)∧(∀s p d,p<s.length→(objF f s p d).sized 0 p 0)∧
 (∀s p d acc,p≤s.length→inL acc→(itemsF f s p d acc).sized 0 p (6+bulkL acc))∧(∀s p d acc,p≤s.length→inO acc→(membersF f s p d acc).sized 0 p (6+bulkO acc))∧
 (∀s p d acc k,p≤s.length→inO acc→(memberF f s p d acc k).sized 0 p (7+bulkO acc+k.size)):=by
 intro f
 induction f with
 |zero=>
  refine⟨fun s p d h=> ?_,fun s p d h=> ?_,fun s p d h=> ?_,fun s p d acc h _=> ?_,fun s p d acc h _=> ?_,fun s p d acc k h _=> ?_⟩
  · unfold valueF;trivial
  · unfold listF;trivial
  · unfold objF;trivial
  · unfold itemsF;trivial
  · unfold membersF;trivial
  · unfold memberF;trivial
 |succ f ih=>
  obtain⟨iv,il,io,ii,im,ik⟩:=ih
  have win:=within_all f
  have lift: ∀{p p' q:Nat} {r:Rd Val},p≤p'→r.sized 0 p' 0→r.sized 0 p 0:=by
   intro p p' q r hp hr
   cases r with
   |ok v q=>exact⟨by have:=hr.1;omega,by have:=hr.2.1;omega,hr.2.2⟩
   |bad e q=>trivial
  refine⟨fun s p d h=> ?_,fun s p d h=> ?_,fun s p d h=> ?_,fun s p d acc h hi=> ?_,fun s p d acc h hi=> ?_,fun s p d acc k h hi=> ?_⟩
  · unfold valueF
    have hp:=past_le h
    have hg:=past_ge s p
    cases hc:s[past s p]? with
    |none=>trivial
    |some c=>
     have hl:=get_lt hc
     simp only
     split
     · trivial
     split
     · trivial
     split
     · exact lift (q:=0) hg (il s _ d hl)
     split
     · exact lift (q:=0) hg (io s _ d hl)
     split
     · cases hu:unqAt s (past s p)with
       |bad e q=>trivial
       |ok a q=>
        obtain⟨_,h2⟩:=unqAt_ok hu
        refine⟨?_,by omega,by simp[txtV,inV,inL,inO]⟩
        simp only[txtV,Val.bulk,bulkL,bulkO,size_mk];omega
     split
     · unfold wordAt
       split
       · refine⟨?_,by simp only[List.length_cons,List.length_nil];omega,by simp[nullV,inV,inL,inO]⟩
         simp only[nullV,Val.bulk,bulkL,bulkO,eb,List.length_cons,List.length_nil];omega
       · trivial
     split
     · unfold wordAt
       split
       · refine⟨?_,by simp only[List.length_cons,List.length_nil];omega,by simp[boolV,inV,inL,inO]⟩
         simp only[boolV,Val.bulk,bulkL,bulkO,eb,List.length_cons,List.length_nil];omega
       · trivial
     split
     · unfold wordAt
       split
       · refine⟨?_,by simp only[List.length_cons,List.length_nil];omega,by simp[boolV,inV,inL,inO]⟩
         simp only[boolV,Val.bulk,bulkL,bulkO,eb,List.length_cons,List.length_nil];omega
       · trivial
     · have hw:=numberAt_within hl
       cases hu:numberAt s (past s p)with
       |bad e q=>trivial
       |ok n q=>
        have hn:=numberAt_in hu
        rw[hu]at hw
        have:=hw.1
        refine⟨?_,by omega,by simp only[intV,inV,inL,inO];exact⟨hn,trivial,trivial⟩⟩
        simp only[intV,Val.bulk,bulkL,bulkO,eb];omega
  · unfold listF
    have hp:=past_le (s:=s) (p:=p+1) h
    have hg:=past_ge s (p+1)
    split
    · refine⟨?_,by omega,by simp[lstV,inV,inL,inO]⟩
      simp only[lstV,Val.bulk,bulkL,bulkO,eb];omega
    · have:=ii s _ d [] hp (by simp[inL])
      cases hr:itemsF f s (past s (p+1)) d []with
      |bad e q=>trivial
      |ok v q=>
       rw[hr]at this
       obtain⟨h1,h2,h3⟩:=this
       simp only[bulkL]at h1
       exact⟨by omega,by omega,h3⟩
  · unfold objF
    have hp:=past_le (s:=s) (p:=p+1) h
    have hg:=past_ge s (p+1)
    split
    · refine⟨?_,by omega,by simp[objV,inV,inL,inO]⟩
      simp only[objV,Val.bulk,bulkL,bulkO,eb];omega
    · have:=im s _ d [] hp (by simp[inO])
      cases hr:membersF f s (past s (p+1)) d []with
      |bad e q=>trivial
      |ok v q=>
       rw[hr]at this
       obtain⟨h1,h2,h3⟩:=this
       simp only[bulkO]at h1
       exact⟨by omega,by omega,h3⟩
  · unfold itemsF
    have hv:=iv s p (d+1) h
    have hw:=win.1 s p (d+1) h
    cases hr:valueF f s p (d+1)with
    |bad e q=>trivial
    |ok v q=>
     rw[hr]at hv hw
     obtain⟨h1,h2⟩:=hw
     obtain⟨k1,_,k3⟩:=hv
     have hg:=past_ge s q
     have e1:bulkL (acc++ [v])=bulkL acc+v.bulk:=by rw[bulkL_app];simp[bulkL]
     have e2:inL (acc++ [v]):=inL_app hi ⟨k3,trivial⟩
     simp only
     split
     · rename_i hc
       have:=ii s _ d _ (get_lt hc) e2
       cases hr2:itemsF f s (past s q+1) d (acc++ [v])with
       |bad e q=>trivial
       |ok v' q'=>
        rw[hr2]at this
        obtain⟨a1,a2,a3⟩:=this
        exact⟨by omega,by omega,a3⟩
     split
     · refine⟨?_,by omega, ?_⟩
       · simp only[lstV,Val.bulk,bulkO,eb];omega
       · simp only[lstV,inV,inO];exact⟨by omega,e2,trivial⟩
     · trivial
  · unfold membersF
    have hp0:=past_le h
    have hg0:=past_ge s p
    have hw:=unqAt_within hp0
    cases hr:unqAt s (past s p)with
    |bad e q=>trivial
    |ok k q=>
     rw[hr]at hw
     have hu:=(unqAt_ok hr).2
     have hg:=past_ge s q
     simp only
     split
     · trivial
     split
     · rename_i hc
       have:=ik s _ d acc ⟨k.toArray⟩ (get_lt hc) hi
       cases hr2:memberF f s (past s q+1) d acc ⟨k.toArray⟩with
       |bad e q=>trivial
       |ok v' q'=>
        rw[hr2]at this
        obtain⟨a1,a2,a3⟩:=this
        rw[size_mk]at a1
        exact⟨by omega,by omega,a3⟩
     · trivial
  · unfold memberF
    have hv:=iv s p (d+1) h
    have hw:=win.1 s p (d+1) h
    cases hr:valueF f s p (d+1)with
    |bad e q=>trivial
    |ok v q=>
     rw[hr]at hv hw
     obtain⟨h1,h2⟩:=hw
     obtain⟨k1,_,k3⟩:=hv
     have hg:=past_ge s q
     have e1:bulkO (acc++ [(k,v)])=bulkO acc+(1+k.size+v.bulk):=by rw[bulkO_app];simp[bulkO,bulkP]
     have e2:inO (acc++ [(k,v)]):=inO_app hi ⟨k3,trivial⟩
     simp only
     split
     · rename_i hc
       have:=im s _ d _ (get_lt hc) e2
       cases hr2:membersF f s (past s q+1) d (acc++ [(k,v)])with
       |bad e q=>trivial
       |ok v' q'=>
        rw[hr2]at this
        obtain⟨a1,a2,a3⟩:=this
        exact⟨by omega,by omega,a3⟩
     split
     · have e3:=sortO_bulk (acc++ [(k,v)])
       refine⟨?_,by omega, ?_⟩
       · simp only[objV,Val.bulk,bulkL,eb];omega
       · simp only[objV,inV,inL];exact⟨by omega,trivial,sortO_in e2⟩
     · trivial
end Go.Proofs.YtackmnbpfbaemaaGreatDoor

namespace Go.Proofs.YtackmnbpfbaemaaGreatDoor
open Go.RowKit
theorem le_of_lt {a b:ByteArray} (h:ltB b a=true):leB a b=false:=by
 unfold leB
 have h1:=ltB_asym h
 unfold ltB at h1
 rw[h1,Bool.false_or]
 cases e:(a.toList==b.toList)with
 |false=>rfl
 |true=>
  have:a=b:=toList_inj (by simpa using e)
  subst this
  rw[ltB_irrefl]at h;cases h
theorem mayO_asc: ∀{l:List (ByteArray×Val)} {last:Option ByteArray} {d:Int},ascO l→(∀m ∈ l,validB m.1=true∧mayV m.2 d=0)→(∀q,last=some q→ ∀m ∈ l,ltB q m.1=true)→mayO l last d=0
 | [],_,_,_,_,_=>by simp[mayO]
 |(k,v)::r,last,d,ha,hm,hq=>by
  obtain⟨h1,h2⟩:=List.pairwise_cons.1 ha
  obtain⟨m1,m2⟩:=hm (k,v) (by simp)
  have hP:mayP (k,v) last d=0:=by
   simp only[mayP]
   rw[if_pos m1]
   cases last with
   |none=>exact m2
   |some q=>
    have:=le_of_lt (hq q rfl (k,v) (by simp))
    simp only at this ⊢
    rw[this,if_neg (by decide)]
    exact m2
  simp only[mayO]
  rw[if_pos hP]
  refine mayO_asc h2 (fun m hm'=>hm m (by simp[hm'])) (fun q hq' m hm'=> ?_)
  obtain rfl:=Option.some.inj hq'
  exact h1 m hm'
theorem mayL_of: ∀{l:List Val} {d:Int},(∀v ∈ l,mayV v d=0)→mayL l d=0
 | [],_,_=>by simp[mayL]
 |v::r,d,h=>by
  simp only[mayL]
  rw[if_pos (h v (by simp))]
  exact mayL_of fun x hx=>h x (by simp[hx])
theorem hasK_iff {k:ByteArray} {l:List (ByteArray×Val)}:hasK k l=true ↔ k ∈ l.map (·.1):=by
 unfold hasK
 simp[List.any_eq_true]
theorem sortO_some {l:List (ByteArray×Val)} (h:(l.map (·.1)).Nodup):objAll l []=some (sortO l)∧ascO (sortO l)∧(sortO l).Perm l:=by
 unfold sortO
 cases e:objAll l []with
 |none=>exact absurd (by rw[List.append_nil];exact h) (objAll_none e)
 |some o=>
  obtain⟨h1,h2⟩:=objAll_some e List.Pairwise.nil
  rw[List.append_nil]at h2
  exact⟨rfl,h1,h2⟩
theorem nodup_snoc {l:List (ByteArray×Val)} {k:ByteArray} {v:Val} (h:(l.map (·.1)).Nodup) (hk:hasK k l=false):((l++ [(k,v)]).map (·.1)).Nodup:=by
 rw[List.map_append,List.nodup_append]
 refine⟨h,by simp,fun a ha b hb=> ?_⟩
 simp only[List.map_cons,List.map_nil,List.mem_singleton]at hb
 subst hb
 intro e
 subst e
 rw[hasK_iff.2 ha]at hk;cases hk
theorem may_null {d:Int} (h:d≤64):mayV nullV d=0:=by
 simp only[nullV,mayV,List.length_nil]
 rw[if_neg (by decide+kernel),if_neg (by omega),if_pos (by decide+kernel)]
 simp[mayL,mayO]
theorem may_bool (b:Bool) {d:Int} (h:d≤64):mayV (boolV b) d=0:=by
 simp only[boolV,mayV,List.length_nil]
 rw[if_neg (by cases b<;>decide+kernel),if_neg (by omega),if_pos (by decide+kernel)]
 simp[mayL,mayO]
theorem may_int (n:Int) {d:Int} (h:d≤64):mayV (intV n) d=0:=by
 simp only[intV,mayV,List.length_nil]
 rw[if_neg (by simp[oddB,emptyB]),if_neg (by omega),if_pos (by decide+kernel)]
 simp[mayL,mayO]
theorem may_txt {a:List UInt8} (ha:Lib.validD a=true) {d:Int} (h:d≤64):mayV (txtV a) d=0:=by
 simp only[txtV,mayV,List.length_nil]
 rw[if_neg (by simp[oddB]),if_neg (by omega),if_pos (by exact ha)]
 simp[mayL,mayO]
theorem may_lst {l:List Val} {d:Int} (h:d≤64) (hl: ∀v ∈ l,mayV v (d+1)=0):mayV (lstV l) d=0:=by
 simp only[lstV,mayV,List.length_nil]
 rw[if_neg (by simp[oddB,emptyB]),if_neg (by omega),if_pos (by decide+kernel),if_pos (mayL_of hl)]
 simp[mayO]
theorem may_obj' {o:List (ByteArray×Val)} {d:Int} (h:d≤64) (ha:ascO o) (ho: ∀m ∈ o,validB m.1=true∧mayV m.2 (d+1)=0):mayV (objV o) d=0:=by
 simp only[objV,mayV,List.length_nil]
 rw[if_neg (by simp[oddB,emptyB]),if_neg (by omega),if_pos (by decide+kernel),if_pos (by simp[mayL])]
 exact mayO_asc ha ho (fun q hq=>by cases hq)
def Rd.mayIt (d:Int):Rd Val→Prop
 | .ok v _=>mayV v d=0
 | .bad _ _=>True
theorem may_all: ∀(f:Nat),(∀s p d,(valueF f s p d).mayIt d)∧(∀s p d,d≤64→(listF f s p d).mayIt d)∧(∀s p d,d≤64→(objF f s p d).mayIt d)∧
 (∀s p d acc,d≤64→(∀v ∈ acc,mayV v (d+1)=0)→(itemsF f s p d acc).mayIt d)∧
 (∀s p d acc,d≤64→(∀m ∈ acc,validB m.1=true∧mayV m.2 (d+1)=0)→(acc.map (·.1)).Nodup→(membersF f s p d acc).mayIt d)∧
 (∀s p d acc k,d≤64→(∀m ∈ acc,validB m.1=true∧mayV m.2 (d+1)=0)→(acc.map (·.1)).Nodup→hasK k acc=false→validB k=true→(memberF f s p d acc k).mayIt d):=by
 intro f
 induction f with
 |zero=>
  refine⟨fun s p d=> ?_,fun s p d _=> ?_,fun s p d _=> ?_,fun s p d acc _ _=> ?_,fun s p d acc _ _ _=> ?_,fun s p d acc k _ _ _ _ _=> ?_⟩
  · unfold valueF;trivial
  · unfold listF;trivial
  · unfold objF;trivial
  · unfold itemsF;trivial
  · unfold membersF;trivial
  · unfold memberF;trivial
 |succ f ih=>
  obtain⟨iv,il,io,ii,im,ik⟩:=ih
  refine⟨fun s p d=> ?_,fun s p d h=> ?_,fun s p d h=> ?_,fun s p d acc h hi=> ?_,fun s p d acc h hi hn=> ?_,fun s p d acc k h hi hn hk hv=> ?_⟩
  · unfold valueF
    cases hc:s[past s p]? with
    |none=>trivial
    |some c=>
     simp only
     split
     · trivial
     split
     · trivial
     rename_i hd
     have hd':d≤64:=by omega
     split
     · exact il s _ d hd'
     split
     · exact io s _ d hd'
     split
     · cases hu:unqAt s (past s p)with
       |bad e q=>trivial
       |ok a q=>exact may_txt (unqAt_ok hu).1 hd'
     split
     · unfold wordAt
       split
       · exact may_null hd'
       · trivial
     split
     · unfold wordAt
       split
       · exact may_bool true hd'
       · trivial
     split
     · unfold wordAt
       split
       · exact may_bool false hd'
       · trivial
     · cases hu:numberAt s (past s p)with
       |bad e q=>trivial
       |ok n q=>exact may_int n hd'
  · unfold listF
    split
    · exact may_lst h (fun v hv=>by cases hv)
    · exact ii s _ d [] h (fun v hv=>by cases hv)
  · unfold objF
    split
    · exact may_obj' h List.Pairwise.nil (fun v hv=>by cases hv)
    · exact im s _ d [] h (fun v hv=>by cases hv) (by simp)
  · unfold itemsF
    have hv:=iv s p (d+1)
    cases hr:valueF f s p (d+1)with
    |bad e q=>trivial
    |ok v q=>
     rw[hr]at hv
     have e2: ∀x ∈ acc++ [v],mayV x (d+1)=0:=by
      intro x hx
      rcases List.mem_append.1 hx with hx|hx
      · exact hi x hx
      · simp only[List.mem_singleton]at hx;rw[hx];exact hv
     simp only
     split
     · exact ii s _ d _ h e2
     split
     · exact may_lst h e2
     · trivial
  · unfold membersF
    cases hr:unqAt s (past s p)with
    |bad e q=>trivial
    |ok k q=>
     simp only
     split
     · trivial
     rename_i hk
     split
     · exact ik s _ d acc ⟨k.toArray⟩ h hi hn (by simpa using hk) (unqAt_ok hr).1
     · trivial
  · unfold memberF
    have hm:=iv s p (d+1)
    cases hr:valueF f s p (d+1)with
    |bad e q=>trivial
    |ok v q=>
     rw[hr]at hm
     have e2: ∀x ∈ acc++ [(k,v)],validB x.1=true∧mayV x.2 (d+1)=0:=by
      intro x hx
      rcases List.mem_append.1 hx with hx|hx
      · exact hi x hx
      · simp only[List.mem_singleton]at hx;rw[hx];exact⟨hv,hm⟩
     have e3:=nodup_snoc (v:=v) hn hk
     simp only
     split
     · exact im s _ d _ h e2 e3
     split
     · obtain⟨_,s2,s3⟩:=sortO_some e3
       exact may_obj' h s2 (fun m hm=>e2 m (s3.mem_iff.1 hm))
     · trivial
theorem value_may {f:Nat} {s:List UInt8} {p q:Nat} {d:Int} {v:Val} (h:valueF f s p d= .ok v q):mayV v d=0:=by
 have:=(may_all f).1 s p d
 rw[h]at this
 exact this
theorem parse_may {s:List UInt8} {v:Val} {q:Nat} (h:parseL s= .ok v q):mayV v 1=0∧q=s.length∧v.bulk≤6*s.length∧inV v:=by
 unfold parseL at h
 cases hr:valueF (4*s.length+4) s 0 1 with
 |bad e q=>rw[hr]at h;cases h
 |ok v' q'=>
  rw[hr]at h
  simp only at h
  have hw:=(within_all (4*s.length+4)).1 s 0 1 (Nat.zero_le _)
  have hs:=(sized_all (4*s.length+4)).1 s 0 1 (Nat.zero_le _)
  rw[hr]at hw hs
  have h2:=past_le hw.2
  split at h
  · cases h
  · simp only[Rd.ok.injEq]at h
    obtain⟨rfl,rfl⟩:=h
    have h3:=hs.1
    have h4:=hw.2
    exact⟨value_may hr,by omega,by omega,hs.2.2⟩
end Go.Proofs.YtackmnbpfbaemaaGreatDoor
