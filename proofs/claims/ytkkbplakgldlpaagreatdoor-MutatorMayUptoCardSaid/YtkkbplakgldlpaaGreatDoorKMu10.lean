/- Parts, joined: A reader of values, byte by byte: what stands at a place of a text, and where that ends, or what is wrong, and where. Plain. No condition. commonplaceref03.digits: an Int's digits. No condition. How the reference writes a rune, against how the program does. Plain. No condition. value.Deep: how deep a value is. Condition: a bulk of at most 10^8. utf.Runes: the iterator over a text's runes and their places, by rounds that may end it. Condition: a text shorter than 10^9. -/
import Derived.Test.YtkkbplakgldlpaaGreatDoorProg
import Derived.WalkKit
import Derived.Below
import Derived.Lib.ItoaLen
import Derived.Lib.Hide
import Derived.IntWalk
import Derived.Test.YtkkbplakgldlpaaGreatDoorKMu1
import Derived.Test.YtkkbplakgldlpaaGreatDoorKMu2
import Derived.Test.YtkkbplakgldlpaaGreatDoorKMu4
import Derived.Test.YtkkbplakgldlpaaGreatDoorKMu5
import Derived.Test.YtkkbplakgldlpaaGreatDoorKMu7
import Derived.Test.YtkkbplakgldlpaaGreatDoorKMu8
import Derived.Test.YtkkbplakgldlpaaGreatDoorKMu9
namespace Go.Proofs.YtkkbplakgldlpaaGreatDoor
open Go.RowKit
def emptyB:ByteArray:=⟨#[]⟩
def nullV:Val:=.mk 1 false 0 emptyB [] []
def boolV (b:Bool):Val:=.mk 2 b 0 emptyB [] []
def intV (n:Int):Val:=.mk 3 false n emptyB [] []
def txtV (l:List UInt8):Val:=.mk 4 false 0 ⟨l.toArray⟩ [] []
def lstV (l:List Val):Val:=.mk 5 false 0 emptyB l []
def objV (o:List (ByteArray×Val)):Val:=.mk 6 false 0 emptyB [] o
def Rd.map {α β:Type} (g:α→β):Rd α→Rd β
 | .ok a q=> .ok (g a) q
 | .bad e q=> .bad e q
def wordAt (s:List UInt8) (p:Nat) (w:List UInt8) (v:Val):Rd Val:=if w.isPrefixOf (s.drop p)=true then .ok v (p+w.length)else .bad 4 p
def sortO (l:List (ByteArray×Val)):List (ByteArray×Val):=(objAll l []).getD []
def hasK (k:ByteArray) (l:List (ByteArray×Val)):Bool:=l.any fun m=>decide (m.1=k)
def startsV (c:UInt8):Bool:=isDig c||c==45||c==34||c==91||c==123||c==110||c==116||c==102
mutual
def valueF:Nat→List UInt8→Nat→Int→Rd Val
 |0,s,p,_=> .bad 4 (past s p)
 |f+1,s,p,d=>match s[past s p]? with
  |none=> .bad 4 (past s p)
  |some c=>
   if startsV c=false then .bad 4 (past s p)
   else if 64<d then .bad 5 (past s p)
   else if c=91 then listF f s (past s p) d
   else if c=123 then objF f s (past s p) d
   else if c=34 then(unqAt s (past s p)).map txtV
   else if c=110 then wordAt s (past s p) [110,117,108,108] nullV
   else if c=116 then wordAt s (past s p) [116,114,117,101] (boolV true)
   else if c=102 then wordAt s (past s p) [102,97,108,115,101] (boolV false)
   else(numberAt s (past s p)).map intV
def listF:Nat→List UInt8→Nat→Int→Rd Val
 |0,s,p,_=> .bad 4 (past s (p+1))
 |f+1,s,p,d=>if s[past s (p+1)]? =some 93 then .ok (lstV []) (past s (p+1)+1)else itemsF f s (past s (p+1)) d []
def objF:Nat→List UInt8→Nat→Int→Rd Val
 |0,s,p,_=> .bad 4 (past s (p+1))
 |f+1,s,p,d=>if s[past s (p+1)]? =some 125 then .ok (objV []) (past s (p+1)+1)else membersF f s (past s (p+1)) d []
def itemsF:Nat→List UInt8→Nat→Int→List Val→Rd Val
 |0,s,p,_,_=> .bad 4 (past s p)
 |f+1,s,p,d,acc=>match valueF f s p (d+1)with
  | .bad e q=> .bad e q
  | .ok v q=>if s[past s q]? =some 44 then itemsF f s (past s q+1) d (acc++ [v])else if s[past s q]? =some 93 then .ok (lstV (acc++ [v])) (past s q+1)else .bad 4 (past s q)
def membersF:Nat→List UInt8→Nat→Int→List (ByteArray×Val)→Rd Val
 |0,s,p,_,_=> .bad 4 (past s p)
 |f+1,s,p,d,acc=>match unqAt s (past s p)with
  | .bad e q=> .bad e q
  | .ok k q=>if hasK ⟨k.toArray⟩ acc=true then .bad 8 (past s p)
    else if s[past s q]? =some 58 then memberF f s (past s q+1) d acc ⟨k.toArray⟩
    else .bad 4 (past s q)
def memberF:Nat→List UInt8→Nat→Int→List (ByteArray×Val)→ByteArray→Rd Val
 |0,s,p,_,_,_=> .bad 4 (past s p)
 |f+1,s,p,d,acc,k=>match valueF f s p (d+1)with
  | .bad e q=> .bad e q
  | .ok v q=>if s[past s q]? =some 44 then membersF f s (past s q+1) d (acc++ [(k,v)])else if s[past s q]? =some 125 then .ok (objV (sortO (acc++ [(k,v)]))) (past s q+1)else .bad 4 (past s q)
end
def parseL (s:List UInt8):Rd Val:=match valueF (4*s.length+4) s 0 1 with
 | .bad e q=> .bad e q
 | .ok v q=>if past s q<s.length then .bad 4 (past s q)else .ok v (past s q)
theorem Rd.within.from {α:Type} {p p' n:Nat} {r:Rd α} (h:r.within p' n) (hp:p≤p'):r.within p n:=by
 cases r with
 |ok a q=>exact⟨by have:=h.1;omega,h.2⟩
 |bad e q=>exact⟨by have:=h.1;omega,h.2⟩
theorem Rd.within.map {α β:Type} {g:α→β} {p n:Nat} {r:Rd α} (h:r.within p n):(r.map g).within p n:=by
 cases r<;>exact h
theorem wordAt_within {s:List UInt8} {p:Nat} (h:p<s.length) {w:List UInt8} (hw:w≠ []) (v:Val):(wordAt s p w v).within p s.length:=by
 unfold wordAt
 split
 · rename_i hp
   have hp':=(List.isPrefixOf_iff_prefix.1 hp).length_le
   rw[List.length_drop]at hp'
   have:0<w.length:=List.length_pos_iff.2 hw
   exact⟨by omega,by omega⟩
 · exact⟨Nat.le_refl _,by omega,by decide,by decide⟩
theorem bad_past {α:Type} {s:List UInt8} {p:Nat} (h:p≤s.length) (e:Int) (h1:1≤e) (h2:e≤18):(Rd.bad e (past s p):Rd α).within p s.length:=⟨past_ge s p,past_le h,h1,h2⟩
theorem within_all: ∀(f:Nat),(∀s p d,p≤s.length→(valueF f s p d).within p s.length)∧(∀s p d,p<s.length→(listF f s p d).within p s.length)∧(∀s p d,p<s.length→(objF f s p d).within p s.length)∧
 (∀s p d acc,p≤s.length→(itemsF f s p d acc).within p s.length)∧(∀s p d acc,p≤s.length→(membersF f s p d acc).within p s.length)∧(∀s p d acc k,p≤s.length→(memberF f s p d acc k).within p s.length):=by
 intro f
 induction f with
 |zero=>
  refine⟨fun s p d h=> ?_,fun s p d h=> ?_,fun s p d h=> ?_,fun s p d acc h=> ?_,fun s p d acc h=> ?_,fun s p d acc k h=> ?_⟩
  · unfold valueF;exact bad_past h _ (by decide) (by decide)
  · unfold listF;exact(bad_past (p:=p+1) h _ (by decide) (by decide)).from (by omega)
  · unfold objF;exact(bad_past (p:=p+1) h _ (by decide) (by decide)).from (by omega)
  · unfold itemsF;exact bad_past h _ (by decide) (by decide)
  · unfold membersF;exact bad_past h _ (by decide) (by decide)
  · unfold memberF;exact bad_past h _ (by decide) (by decide)
 |succ f ih=>
  obtain⟨iv,il,io,ii,im,ik⟩:=ih
  refine⟨fun s p d h=> ?_,fun s p d h=> ?_,fun s p d h=> ?_,fun s p d acc h=> ?_,fun s p d acc h=> ?_,fun s p d acc k h=> ?_⟩
  · unfold valueF
    have hp:=past_le h
    have hg:=past_ge s p
    cases hc:s[past s p]? with
    |none=>exact bad_past h _ (by decide) (by decide)
    |some c=>
     have hl:=get_lt hc
     simp only
     split
     · exact bad_past h _ (by decide) (by decide)
     split
     · exact bad_past h _ (by decide) (by decide)
     split
     · exact(il s _ d hl).from hg
     split
     · exact(io s _ d hl).from hg
     split
     · exact((unqAt_within hp).map).from hg
     split
     · exact(wordAt_within hl (by simp) _).from hg
     split
     · exact(wordAt_within hl (by simp) _).from hg
     split
     · exact(wordAt_within hl (by simp) _).from hg
     · exact((numberAt_within hl).map).from hg
  · unfold listF
    have hp:=past_le (s:=s) (p:=p+1) h
    have hg:=past_ge s (p+1)
    split
    · rename_i hc
      exact⟨by omega,by have:=get_lt hc;omega⟩
    · exact(ii s _ d [] hp).from (by omega)
  · unfold objF
    have hp:=past_le (s:=s) (p:=p+1) h
    have hg:=past_ge s (p+1)
    split
    · rename_i hc
      exact⟨by omega,by have:=get_lt hc;omega⟩
    · exact(im s _ d [] hp).from (by omega)
  · unfold itemsF
    have hv:=iv s p (d+1) h
    cases hr:valueF f s p (d+1)with
    |bad e q=>rw[hr]at hv;exact hv
    |ok v q=>
     rw[hr]at hv
     obtain⟨h1,h2⟩:=hv
     have hp:=past_le h2
     have hg:=past_ge s q
     simp only
     split
     · rename_i hc
       exact(ii s _ d _ (get_lt hc)).from (by omega)
     split
     · rename_i hc
       exact⟨by omega,get_lt hc⟩
     · exact(bad_past h2 _ (by decide) (by decide)).from (by omega)
  · unfold membersF
    have hp0:=past_le h
    have hg0:=past_ge s p
    have hv:=unqAt_within hp0
    cases hr:unqAt s (past s p)with
    |bad e q=>rw[hr]at hv;exact hv.from hg0
    |ok k q=>
     rw[hr]at hv
     obtain⟨h1,h2⟩:=hv
     have hp:=past_le h2
     have hg:=past_ge s q
     simp only
     split
     · exact bad_past h _ (by decide) (by decide)
     split
     · rename_i hc
       exact(ik s _ d _ _ (get_lt hc)).from (by omega)
     · exact(bad_past h2 _ (by decide) (by decide)).from (by omega)
  · unfold memberF
    have hv:=iv s p (d+1) h
    cases hr:valueF f s p (d+1)with
    |bad e q=>rw[hr]at hv;exact hv
    |ok v q=>
     rw[hr]at hv
     obtain⟨h1,h2⟩:=hv
     have hp:=past_le h2
     have hg:=past_ge s q
     simp only
     split
     · rename_i hc
       exact(im s _ d _ (get_lt hc)).from (by omega)
     split
     · rename_i hc
       exact⟨by omega,get_lt hc⟩
     · exact(bad_past h2 _ (by decide) (by decide)).from (by omega)
end Go.Proofs.YtkkbplakgldlpaaGreatDoor

namespace Go.Proofs.YtkkbplakgldlpaaGreatDoor
open Go.RowKit
def dgt (d:Nat):UInt8:=UInt8.ofNat (48+d)
def digs (u:Nat):List UInt8:=if _h:u=0 then []else digs (u / 10)++ [dgt (u % 10)]
termination_by u
decreasing_by omega
theorem digs_zero:digs 0= []:=by rw[digs,dif_pos rfl]
theorem digs_pos {u:Nat} (h:u≠0):digs u=digs (u / 10)++ [dgt (u % 10)]:=by rw[digs,dif_neg h]
theorem digs_dec (u:Nat):u≠0→digs u=Lib.decDigits u:=by
 induction u using Nat.strongRecOn with
 |_ u ih=>
  intro h
  rw[digs_pos h,Lib.decDigits]
  unfold dgt
  by_cases h10:u<10
  · rw[dif_pos h10,show u / 10=0 from by omega,digs_zero,show u % 10=u from by omega,List.nil_append]
  · rw[dif_neg h10,ih (u / 10) (by omega) (by omega)]
theorem digs_len {u:Nat} (h:(u:Int)≤9223372036854775808):(digs u).length≤30:=by
 by_cases h0:u=0
 · subst h0;rw[digs_zero];simp
 · rw[digs_dec u h0,Lib.decDigits_length]
   exact Nat.le_trans (Lib.nDigits_le20 u (by omega)) (by omega)
theorem run_cut (S:ByteArray) (d e:Nat) (hd:d≤e) (he:e≤S.size) (w:World):(Instr.slice 9 (.string S) (some (.int .i64 d)) (some (.int .i64 e)) none).run Tryz.prog w=.ok (.string (S.extract d e)) w:=by
 simp[Instr.slice,run_underlying Tryz.underlying9,Instr.sliceBounds,go_sem,hd,he]
theorem digit_at: ∀d:Fin 10,(⟨#[48,49,50,51,52,53,54,55,56,57]⟩:ByteArray).extract d.val (d.val+1)=⟨#[dgt d.val]⟩:=by decide
theorem run_digit (d:Nat) (hd:d<10) (w:World):(Instr.slice 9 (.string ⟨#[48,49,50,51,52,53,54,55,56,57]⟩) (some (.int .i64 d)) (some (.int .i64 ((d:Int)+1))) none).run Tryz.prog w=.ok (.string ⟨#[dgt d]⟩) w:=by
 have:=run_cut ⟨#[48,49,50,51,52,53,54,55,56,57]⟩ d (d+1) (by omega) (by show d+1≤10;omega) w
 rw[digit_at ⟨d,hd⟩]at this
 exact this
set_option maxRecDepth 20000 in
set_option maxHeartbeats 1000000 in
theorem digits_pos (a:Nat) (ha:a≠0) (hm:(a:Int)≤9223372036854775807) (w:World):
 Calls Tryz.prog 44 #[.int .i64 a] w fun e w'=>e=.returned (.string ⟨(Lib.itoa a).toArray⟩)∧w=w':=by
 have hi:Lib.itoa a=digs a:=by
  rw[digs_dec a ha,Lib.itoa,if_neg (by omega)];simp
 rw[hi]
 have hl:=digs_len (u:=a) (by omega)
 have H0:Hid (digs a++(⟨#[]⟩:ByteArray).data.toList=digs a):=by show _=_;simp
 clear hi
 go_enter Tryz.func44,Tryz.ntmps44
 have ha1:((a:Int)==0)=false:=by simp;omega
 go_wp2
 go_loop [3,4] (fun s m=> ∃(T:ByteArray) (u:Nat),s=.string T∧m=.int .i64 u∧u≤a∧Hid (digs u++T.data.toList=digs a)) (fun _ m=>(intOf m).toNat)
 case atStart=>exact⟨_,a,rfl,rfl,Nat.le_refl _,H0⟩
 case round=>
  obtain⟨T,u,rfl,rfl,hu,hT⟩:=hrel
  clear H0
  have hTs:T.size≤30:=by
   have h1:=congrArg List.length hT.out
   rw[List.length_append]at h1
   have h2:T.data.toList.length=T.size:=by rw[Array.length_toList];rfl
   omega
  by_cases hu0:u=0
  · subst hu0
    have hT':=hT.out
    rw[digs_zero,List.nil_append]at hT'
    have hE:(⟨(digs a).toArray⟩:ByteArray)=T:=by rw[←hT']
    have HE:=Lib.hid hE
    clear hT hT' hE ha1 hl
    have h0:((a:Int)<0)=False:=by simp
    go_wp2
    go_ret
    exact⟨by rw[HE.out];rfl,rfl⟩
  · have hu1:((u:Int)==0)=false:=by simp;omega
    have hT':Hid (digs (u / 10)++((⟨#[dgt (u % 10)]⟩:ByteArray)++T).data.toList=digs a):=by
     have:=hT.out
     rw[digs_pos hu0]at this
     show _=_
     rw[←this,ByteArray.data_append,Array.toList_append]
     simp
    have hd:=run_digit (u % 10) (by omega) w
    have hm10:(u:Int) % 10=((u % 10:Nat):Int):=by omega
    have hq10:(u:Int) / 10=((u / 10:Nat):Int):=by omega
    have hlt:u % 10<10:=by omega
    have hqu:u / 10<u:=by omega
    generalize u % 10=d at*
    generalize u / 10=q at*
    have hdn:decide ((d:Int)<0)=false:=by simp
    clear hT ha1 hl
    go_wp2
    go_round
    case rel=>exact⟨_,q,rfl,rfl,by omega,hT'⟩
    case measure=>simp[intOf];omega
set_option maxRecDepth 20000 in
set_option maxHeartbeats 1000000 in
theorem digits_neg (a:Nat) (ha:a≠0) (hm:(a:Int)≤9223372036854775808) (n:Int) (hn:n= -(a:Int)) (w:World):
 Calls Tryz.prog 44 #[.int .i64 n] w fun e w'=>e=.returned (.string ⟨(Lib.itoa n).toArray⟩)∧w=w':=by
 have hi:Lib.itoa n=45::digs a:=by
  rw[digs_dec a ha,Lib.itoa,if_pos (by omega),hn];simp
 rw[hi]
 have hl:=digs_len (u:=a) (by omega)
 have H0:Hid (digs a++(⟨#[]⟩:ByteArray).data.toList=digs a):=by show _=_;simp
 have Hn:=Lib.hid hn
 have hn1:(n==0)=false:=by simp;omega
 have hn2:n<0:=by omega
 clear hi hn
 go_enter Tryz.func44,Tryz.ntmps44
 go_wp2
 go_loop [3,4] (fun s m=> ∃(T:ByteArray) (M:Int) (u:Nat),s=.string T∧m=.int .i64 M∧Hid (M= -(u:Int))∧u≤a∧Hid (digs u++T.data.toList=digs a)) (fun _ m=>(-(intOf m)).toNat)
 case atStart=>exact⟨_,n,a,rfl,rfl,Hn,Nat.le_refl _,H0⟩
 case round=>
  obtain⟨T,M,u,rfl,rfl,hM,hu,hT⟩:=hrel
  clear H0
  have hTs:T.size≤30:=by
   have h1:=congrArg List.length hT.out
   rw[List.length_append]at h1
   have h2:T.data.toList.length=T.size:=by rw[Array.length_toList];rfl
   omega
  have hMu:=hM.out
  by_cases hu0:u=0
  · subst hu0
    obtain rfl:M=0:=by simpa using hMu
    have hT':=hT.out
    rw[digs_zero,List.nil_append]at hT'
    have hE:(⟨(45::digs a).toArray⟩:ByteArray)=⟨#[45]⟩++T:=by
     apply ByteArray.ext
     rw[ByteArray.data_append]
     apply Array.ext'
     rw[Array.toList_append,hT']
     simp
    have HE:=Lib.hid hE
    clear hT hT' hE hn1 hl hM hMu
    go_wp2
    go_ret
    exact⟨by rw[HE.out];rfl,rfl⟩
  · have hT':Hid (digs (u / 10)++((⟨#[dgt (u % 10)]⟩:ByteArray)++T).data.toList=digs a):=by
     have:=hT.out
     rw[digs_pos hu0]at this
     show _=_
     rw[←this,ByteArray.data_append,Array.toList_append]
     simp
    have hM1:(M==0)=false:=by simp;omega
    have hM2: -9223372036854775808≤M:=by omega
    have hM3:M<0:=by omega
    have hd:=run_digit (u % 10) (by omega) w
    obtain⟨D,hD⟩: ∃D,M.tmod 10=D:=⟨_,rfl⟩
    obtain⟨Q,hQ⟩: ∃Q,M.tdiv 10=Q:=⟨_,rfl⟩
    have hD':D= -((u % 10:Nat):Int):=by
     rw[←hD,hMu,Int.neg_tmod,Int.tmod_eq_emod_of_nonneg (by omega)];omega
    have hQ':Q= -((u / 10:Nat):Int):=by
     rw[←hQ,hMu,Int.neg_tdiv,Int.tdiv_eq_ediv_of_nonneg (by omega)];omega
    have hlt:u % 10<10:=by omega
    have hqu:u / 10<u:=by omega
    generalize u % 10=d at*
    generalize u / 10=q at*
    have HQ:=Lib.hid hQ'
    have hMQ:M<Q:=by omega
    have hQ1: -9223372036854775808≤Q:=by omega
    have hQ2:Q≤0:=by omega
    have hQ3:Q≤9223372036854775807:=by omega
    by_cases hd0:d=0
    · subst hd0
      obtain rfl:D=0:=by simpa using hD'
      have hd1:(Instr.slice 9 (.string ⟨#[48,49,50,51,52,53,54,55,56,57]⟩) (some (.int .i64 0)) (some (.int .i64 1)) none).run Tryz.prog w=.ok (.string ⟨#[dgt 0]⟩) w:=hd
      clear hT hn1 hl hM hD' hQ' hMu hd
      go_wp2
      go_round
      case rel=>exact⟨_,Q,q,rfl,rfl,HQ,by omega,hT'⟩
      case measure=>simp only[intOf];omega
    · have hDn:D<0:=by omega
      have hDb: -10<D:=by omega
      have hDd: -D=(d:Int):=by omega
      clear hT hn1 hl hM hD' hQ'
      clear hMu
      go_wp2
      go_round
      case rel=>exact⟨_,Q,q,rfl,rfl,HQ,by omega,hT'⟩
      case measure=>simp only[intOf];omega
theorem digits_calls (n:Int) (h1: -9223372036854775808≤n) (h2:n≤9223372036854775807) (w:World):
 Calls Tryz.prog 44 #[.int .i64 n] w fun e w'=>e=.returned (.string ⟨(Lib.itoa n).toArray⟩)∧w=w':=by
 by_cases h0:n=0
 · subst h0
   have e:(⟨(Lib.itoa 0).toArray⟩:ByteArray)=⟨#[48]⟩:=by
    have:Lib.itoa 0= [48]:=by
     rw[Lib.itoa,if_neg (by omega)]
     exact Lib.decDigits_one (i:=0) (by omega)
    rw[this]
   rw[e]
   go_enter Tryz.func44,Tryz.ntmps44
   go_wp2
   go_ret
   exact⟨rfl,rfl⟩
 · rcases Int.lt_or_le n 0 with h|h
   · exact digits_neg n.natAbs (by omega) (by omega) n (by omega) w
   · have:=digits_pos n.toNat (by omega) (by omega) w
     rwa [show((n.toNat:Nat):Int)=n from by omega]at this
end Go.Proofs.YtkkbplakgldlpaaGreatDoor

namespace Go.Proofs.YtkkbplakgldlpaaGreatDoor
open Go.RowKit
def letTab:List UInt8:= [34,92,47,98,102,110,114,116]
theorem quoteRune_let: ∀j:Fin 8,j.val≠2→quoteRune ((codeTab.getD j.val 0).toNat)= [92,letTab.getD j.val 0]:=by decide
def NoLet (r:Nat) (j:Nat):Prop:= ∀i:Nat,i<j→i≠2→codeTab.getD i 0≠(r:Int)
theorem NoLet.all {r:Nat} (h:NoLet r 8):r≠34∧r≠92∧r≠8∧r≠12∧r≠10∧r≠13∧r≠9:=by
 have h0:=h 0 (by omega) (by omega)
 have h1:=h 1 (by omega) (by omega)
 have h3:=h 3 (by omega) (by omega)
 have h4:=h 4 (by omega) (by omega)
 have h5:=h 5 (by omega) (by omega)
 have h6:=h 6 (by omega) (by omega)
 have h7:=h 7 (by omega) (by omega)
 simp[codeTab]at h0 h1 h3 h4 h5 h6 h7
 omega
theorem quoteRune_no {r:Nat} (h:NoLet r 8):quoteRune r=if r<32 then [92,117,48,48,hexd (r / 16),hexd (r % 16)]else Lib.encodeRune r:=by
 obtain⟨a1,a2,a3,a4,a5,a6,a7⟩:=h.all
 unfold quoteRune
 by_cases h32:r<32
 · rw[if_neg (by omega),if_pos h32]
   have:findKV (r:Int) letterTab=none:=by
    simp only[letterTab,findKV]
    repeat rw[if_neg (by omega)]
   rw[this]
 · rw[if_pos (by omega),if_neg h32]
theorem NoLet.step {r j:Nat} (h:NoLet r j) (hj:j=2∨codeTab.getD j 0≠(r:Int)):NoLet r (j+1):=by
 intro i hi h2
 by_cases he:i=j
 · subst he
   rcases hj with hj|hj
   · exact absurd hj h2
   · exact hj
 · exact h i (by omega) h2
def scalar (r:Nat):Prop:=r≤1114111∧ ¬(55296≤r∧r<57344)
theorem atEnd_range (F:Option Int) (n:Nat) (least:Int):(atEnd F n least).2=0∨((atEnd F n least).1≤1114111∧ ¬(55296≤(atEnd F n least).1∧(atEnd F n least).1<57344)):=by
 unfold atEnd
 split
 · simp
 · split
   · simp
   · rename_i h
     right
     simp only
     omega
theorem atTail_range (rest:List UInt8) (n:Nat) (r0 least:Int):(atTail rest n r0 least).2=0∨((atTail rest n r0 least).1≤1114111∧ ¬(55296≤(atTail rest n r0 least).1∧(atTail rest n r0 least).1<57344)):=by
 unfold atTail
 split
 · exact .inl rfl
 · exact atEnd_range _ _ _
theorem atSpec_range (l:List UInt8):(atSpec l).2=0∨((atSpec l).1≤1114111∧ ¬(55296≤(atSpec l).1∧(atSpec l).1<57344)):=by
 cases l with
 |nil=>exact .inl rfl
 |cons c rest=>
  rw[atSpec_cons]
  by_cases h1:(c.toNat:Int)<128
  · rw[if_pos h1]
    right
    simp only
    omega
  rw[if_neg h1]
  split
  · exact atTail_range _ _ _ _
  split
  · exact atTail_range _ _ _ _
  split
  · exact atTail_range _ _ _ _
  · exact .inl rfl
theorem runesFrom_scalar: ∀(n:Nat) (l:List UInt8) (p:Nat),∀x ∈ runesFrom n l p,scalar x.2
 |0,_,_,x,hx=>by simp[runesFrom]at hx
 |n+1,l,p,x,hx=>by
  by_cases h:l= []
  · subst h
    simp[runesFrom]at hx
  · rcases runesFrom_step h n p with⟨_,e⟩|⟨m,r,hn,h1,_,e⟩
    · rw[e]at hx
      cases hx
    · rw[e]at hx
      rcases List.mem_cons.1 hx with rfl|hx
      · have:=atSpec_range l
        rw[hn]at this
        unfold scalar
        simp only at this ⊢
        omega
      · exact runesFrom_scalar n _ _ x hx
theorem run_hex (d:Nat) (hd:d<16) (w:World):(Instr.slice 9 (.string ⟨#[48,49,50,51,52,53,54,55,56,57,97,98,99,100,101,102]⟩) (some (.int .i64 d)) (some (.int .i64 ((d:Int)+1))) none).run Tryz.prog w=.ok (.string ⟨#[hexd d]⟩) w:=by
 have:=run_cut ⟨#[48,49,50,51,52,53,54,55,56,57,97,98,99,100,101,102]⟩ d (d+1) (by omega) (by show d+1≤16;omega) w
 have e: ∀d:Fin 16,(⟨#[48,49,50,51,52,53,54,55,56,57,97,98,99,100,101,102]⟩:ByteArray).extract d.val (d.val+1)=⟨#[hexd d.val]⟩:=by decide
 rw[e ⟨d,hd⟩]at this
 exact this
theorem run_let (d:Nat) (hd:d<8) (w:World):(Instr.slice 9 (.string ⟨#[34,92,47,98,102,110,114,116]⟩) (some (.int .i64 d)) (some (.int .i64 ((d:Int)+1))) none).run Tryz.prog w=.ok (.string ⟨#[letTab.getD d 0]⟩) w:=by
 have:=run_cut ⟨#[34,92,47,98,102,110,114,116]⟩ d (d+1) (by omega) (by show d+1≤8;omega) w
 have e: ∀d:Fin 8,(⟨#[34,92,47,98,102,110,114,116]⟩:ByteArray).extract d.val (d.val+1)=⟨#[letTab.getD d.val 0]⟩:=by decide
 rw[e ⟨d,hd⟩]at this
 exact this
end Go.Proofs.YtkkbplakgldlpaaGreatDoor

namespace Go.Proofs.YtkkbplakgldlpaaGreatDoor
open Go.RowKit
mutual
def deepV:Val→Nat
 | .mk k _ _ _ l o=>1+(if k=5 then deepL l else if k=6 then deepO o else 0)
def deepL:List Val→Nat
 | []=>0
 |v::r=>max (deepV v) (deepL r)
def deepO:List (ByteArray×Val)→Nat
 | []=>0
 |p::r=>max (deepP p) (deepO r)
def deepP:ByteArray×Val→Nat
 |(_,v)=>deepV v
end
theorem deepL_le: ∀(l:List Val),(∀v ∈ l,deepV v≤v.bulk)→deepL l≤bulkL l
 | [],_=>by simp[deepL]
 |v::r,h=>by
  have h1:=h v (by simp)
  have h2:=deepL_le r (fun x hx=>h x (by simp[hx]))
  simp only[deepL,bulkL]
  omega
theorem deepO_le: ∀(l:List (ByteArray×Val)),(∀m ∈ l,deepV m.2≤m.2.bulk)→deepO l≤bulkO l
 | [],_=>by simp[deepO]
 |(k,v)::r,h=>by
  have h1:=h (k,v) (by simp)
  have h2:=deepO_le r (fun x hx=>h x (by simp[hx]))
  simp only[deepO,deepP,bulkO,bulkP]
  simp only at h1
  omega
theorem deepV_le: ∀v:Val,deepV v≤v.bulk:=by
 refine Val.ind ?_
 intro k b n t l o hl ho
 have h1:=deepL_le l hl
 have h2:=deepO_le o ho
 simp only[deepV,Val.bulk]
 split
 · omega
 split<;>omega
def DeepC (v:Val):Prop:= ∀(cs:List Value) (w:World),HoldsV w w.heap.size v cs→v.bulk≤100000000→
    Calls Tryz.prog 104 #[.agg cs.toArray] w fun e w'=>e=.returned (.int .i64 (deepV v))∧Below w.heap.size w w'
set_option maxRecDepth 100000 in
set_option maxHeartbeats 2000000 in
theorem deep_list (b:Bool) (n:Int) (t:ByteArray) (l:List Val) (on:Nat) (IH: ∀v ∈ l,DeepC v) (la oa:Option Addr) (oc lc:Nat) (w:World) (hl:l= []∨ ∃g off,la=some ⟨g,off,none⟩∧g<w.heap.size∧HoldsL w w.heap.size l g off)
 (hb:bulkL l≤100000000):
 Calls Tryz.prog 104 #[.agg #[.int .i64 5,.bool b,.int .i64 n,.string t,.slice la l.length lc,.slice oa on oc]] w fun e w'=>e=.returned (.int .i64 (1+(deepL l:Int)))∧Below w.heap.size w w':=by
 have hln:=bulkL_len l
 have hdl:=deepL_le l (fun v _=>deepV_le v)
 obtain⟨M,hM⟩: ∃M,deepL l=M:=⟨_,rfl⟩
 rw[hM]at hdl ⊢
 have H0:Hid (max 0 (deepL (l.drop 0))=M):=by show _=_;rw[List.drop_zero,hM];simp
 have HI:=Lib.hid IH
 clear IH hM
 go_enter Tryz.func104,Tryz.ntmps104
 go_wp2_with (fail)
 have HB1:Hid (Below w.heap.size w (w.alloc (.cells #[.int .i64 5,.bool b,.int .i64 n,.string t,.slice la l.length lc,.slice oa on oc] 27))):=(Below.refl _ _).alloc (Nat.le_refl _) _
 go_loopw [3,15] (fun m i wr=> ∃D k:Nat,m=.int .i64 D∧i=.int .i64 k∧k≤l.length∧Hid (max D (deepL (l.drop k))=M)∧D≤M∧Hid (Below w.heap.size w wr)) (fun _ i _=>l.length - (intOf i).toNat)
 case atStart=>exact⟨0,0,rfl,rfl,Nat.zero_le _,H0,Nat.zero_le _,HB1⟩
 case round=>
  obtain⟨D,k,rfl,rfl,hk,hD,hDM,hbw⟩:=hrel
  clear H0 HB1
  by_cases hlt:k<l.length
  · obtain⟨g,off,rfl,hg,hL⟩: ∃g off,la=some ⟨g,off,none⟩∧g<w.heap.size∧HoldsL w w.heap.size l g off:=by
     rcases hl with rfl|h
     · simp at hlt
     · exact h
    obtain⟨x,hx⟩: ∃v,l[k]? =some v:=⟨_,List.getElem?_eq_getElem hlt⟩
    have hmem:x ∈ l:=List.mem_of_getElem? hx
    have hbv:=bulkL_mem hmem
    have hdv:=deepV_le x
    have hdrop:l.drop k=x::l.drop (k+1):=drop_of_get hx
    have hD':=hD.out
    rw[hdrop]at hD'
    simp only[deepL]at hD'
    have IHx:=HI.out x hmem
    have hz:=hbw.out.size
    obtain⟨m,hm⟩: ∃m,deepV x=m:=⟨_,rfl⟩
    obtain⟨k',b',n',t',l',o'⟩:=x
    obtain⟨la',lc',oa',oc',hvs,c0,c1,c2,c3,c4,c5⟩:=(hL.below hg hbw.out).six hx
    have CT:=IHx _ (wr.alloc (.cells #[.int .i64 k',.bool b',.int .i64 n',.string t',.slice la' l'.length lc',.slice oa' o'.length oc'] 27)) (HoldsV.more (by simp;omega) _ _ (hvs.below ((Below.refl _ _).alloc hz _))) (by omega)
    rw[hm]at CT hD' hdv
    have hCT:=Lib.hid CT
    have Hn:Hid (max (max D m) (deepL (l.drop (k+1)))=M):=by show _=_;omega
    have hmM:max D m≤M:=by omega
    have hbA:Hid (Below w.heap.size w (wr.alloc (.cells #[.int .i64 k',.bool b',.int .i64 n',.string t',.slice la' l'.length lc',.slice oa' o'.length oc'] 27))):=hbw.out.alloc hz _
    clear CT hD hD' hdrop IHx hm hvs hx hmem hL hg hdv hbv
    by_cases hgt:D<m
    · have e1:max D m=m:=by omega
      rw[e1]at Hn hmM
      clear e1
      go_wp2_with (fail)
      with_reducible refine hCT.out.mono ?_
      rintro e w4 ⟨rfl,hb4⟩
      have hbw4:=Lib.hid (hbA.out.trans (hb4.mono hbA.out.size))
      clear hb4 hbw hbA hCT
      go_wp2
      go_roundw
      case rel=>exact⟨m,k+1,by congr 1;omega,by go_num,by omega,Hn,hmM,hbw4⟩
      case measure=>simp only[intOf];omega
    · have e1:max D m=D:=by omega
      rw[e1]at Hn hmM
      clear e1
      go_wp2_with (fail)
      with_reducible refine hCT.out.mono ?_
      rintro e w4 ⟨rfl,hb4⟩
      have hbw4:=Lib.hid (hbA.out.trans (hb4.mono hbA.out.size))
      clear hb4 hbw hbA hCT
      go_wp2
      go_roundw
      case rel=>exact⟨D,k+1,by congr 1;omega,by go_num,by omega,Hn,hmM,hbw4⟩
      case measure=>simp only[intOf];omega
  · obtain rfl:k=l.length:=by omega
    have hD':=hD.out
    rw[List.drop_length]at hD'
    simp only[deepL]at hD'
    obtain rfl:D=M:=by omega
    clear hD hD' hl
    go_wp2
    go_ret
    exact⟨rfl,hbw.out⟩
set_option maxRecDepth 100000 in
set_option maxHeartbeats 2000000 in
theorem deep_obj (b:Bool) (n:Int) (t:ByteArray) (l:List (ByteArray×Val)) (ln:Nat) (IH: ∀m ∈ l,DeepC m.2) (la oa:Option Addr) (oc lc:Nat) (w:World) (hl:l= []∨ ∃g off,oa=some ⟨g,off,none⟩∧g<w.heap.size∧HoldsO w w.heap.size l g off)
 (hb:bulkO l≤100000000):
 Calls Tryz.prog 104 #[.agg #[.int .i64 6,.bool b,.int .i64 n,.string t,.slice la ln lc,.slice oa l.length oc]] w fun e w'=>e=.returned (.int .i64 (1+(deepO l:Int)))∧Below w.heap.size w w':=by
 have hln:=bulkO_len l
 have hdl:=deepO_le l (fun m _=>deepV_le m.2)
 obtain⟨M,hM⟩: ∃M,deepO l=M:=⟨_,rfl⟩
 rw[hM]at hdl ⊢
 have H0:Hid (max 0 (deepO (l.drop 0))=M):=by show _=_;rw[List.drop_zero,hM];simp
 have HI:=Lib.hid IH
 clear IH hM
 go_enter Tryz.func104,Tryz.ntmps104
 go_wp2_with (fail)
 have HB1:Hid (Below w.heap.size w (w.alloc (.cells #[.int .i64 6,.bool b,.int .i64 n,.string t,.slice la ln lc,.slice oa l.length oc] 27))):=(Below.refl _ _).alloc (Nat.le_refl _) _
 go_loopw [3,29] (fun m i wr=> ∃D k:Nat,m=.int .i64 D∧i=.int .i64 k∧k≤l.length∧Hid (max D (deepO (l.drop k))=M)∧D≤M∧Hid (Below w.heap.size w wr)) (fun _ i _=>l.length - (intOf i).toNat)
 case atStart=>exact⟨0,0,rfl,rfl,Nat.zero_le _,H0,Nat.zero_le _,HB1⟩
 case round=>
  obtain⟨D,k,rfl,rfl,hk,hD,hDM,hbw⟩:=hrel
  clear H0 HB1
  by_cases hlt:k<l.length
  · obtain⟨g,off,rfl,hg,hL⟩: ∃g off,oa=some ⟨g,off,none⟩∧g<w.heap.size∧HoldsO w w.heap.size l g off:=by
     rcases hl with rfl|h
     · simp at hlt
     · exact h
    obtain⟨⟨key,x⟩,hx⟩: ∃v,l[k]? =some v:=⟨_,List.getElem?_eq_getElem hlt⟩
    have hmem:(key,x) ∈ l:=List.mem_of_getElem? hx
    have hbv:=bulkO_mem hmem
    simp only at hbv
    have hdv:=deepV_le x
    have hdrop:l.drop k=(key,x)::l.drop (k+1):=drop_of_get hx
    have hD':=hD.out
    rw[hdrop]at hD'
    simp only[deepO,deepP]at hD'
    have IHx:=HI.out _ hmem
    have hz:=hbw.out.size
    obtain⟨m,hm⟩: ∃m,deepV x=m:=⟨_,rfl⟩
    obtain⟨k',b',n',t',l',o'⟩:=x
    obtain⟨la',lc',oa',oc',hvs,c0,c1,c2,c3,c4,c5,c6⟩:=(hL.below hg hbw.out).seven hx
    have CT:=IHx _ (wr.alloc (.cells #[.string key,.int .i64 k',.bool b',.int .i64 n',.string t',.slice la' l'.length lc',.slice oa' o'.length oc'] 63)) (HoldsV.more (by simp;omega) _ _ (hvs.below ((Below.refl _ _).alloc hz _))) (show(Val.mk k' b' n' t' l' o').bulk≤100000000 from by omega)
    simp only[hm]at CT
    rw[hm]at hD' hdv
    have hCT:=Lib.hid CT
    have Hn:Hid (max (max D m) (deepO (l.drop (k+1)))=M):=by show _=_;omega
    have hmM:max D m≤M:=by omega
    have hbA:Hid (Below w.heap.size w (wr.alloc (.cells #[.string key,.int .i64 k',.bool b',.int .i64 n',.string t',.slice la' l'.length lc',.slice oa' o'.length oc'] 63))):=hbw.out.alloc hz _
    clear CT hD hD' hdrop IHx hm hvs hx hmem hL hg hdv hbv
    have hmx:max (D:Int) (m:Int)=((max D m:Nat):Int):=by omega
    generalize max D m=Dm at*
    have Hmx:=Lib.hid hmx
    clear hmx
    go_wp2_with (fail)
    with_reducible refine hCT.out.mono ?_
    rintro e w4 ⟨rfl,hb4⟩
    have hbw4:=Lib.hid (hbA.out.trans (hb4.mono hbA.out.size))
    clear hb4 hbw hbA hCT
    go_wp2
    go_roundw
    case rel=>exact⟨Dm,k+1,by rw[Hmx.out],by go_num,by omega,Hn,hmM,hbw4⟩
    case measure=>simp only[intOf];omega
  · obtain rfl:k=l.length:=by omega
    have hD':=hD.out
    rw[List.drop_length]at hD'
    simp only[deepO]at hD'
    obtain rfl:D=M:=by omega
    clear hD hD' hl
    go_wp2
    go_ret
    exact⟨rfl,hbw.out⟩
set_option maxRecDepth 100000 in
theorem deep_calls: ∀v,DeepC v:=by
 refine Val.ind ?_
 intro k b n t l o IHl IHo cs w hV hb
 simp only[HoldsV]at hV
 obtain⟨la,lc,oa,oc,rfl,hla,hoa⟩:=hV
 simp only[Val.bulk]at hb
 by_cases h5:k=5
 · subst h5
   have:=deep_list b n t l o.length IHl la oa oc lc w hla (by omega)
   simpa[deepV]using this
 by_cases h6:k=6
 · subst h6
   have:=deep_obj b n t o l.length IHo la oa oc lc w hoa (by omega)
   simpa[deepV]using this
 have e:deepV (.mk k b n t l o)=1:=by simp[deepV,h5,h6]
 rw[e]
 have e5:(k==5)=false:=by simpa using h5
 have e6:(k==6)=false:=by simpa using h6
 clear e IHl IHo hla hoa hb h5 h6
 go_enter Tryz.func104,Tryz.ntmps104
 go_wp2
 go_ret
 exact⟨rfl,(Below.refl _ _).alloc (Nat.le_refl _) _⟩
end Go.Proofs.YtkkbplakgldlpaaGreatDoor

namespace Go.Proofs.YtkkbplakgldlpaaGreatDoor
open Go.RowKit
attribute [local go_sem] Oper.semAt_some
set_option maxRecDepth 100000 in
set_option maxHeartbeats 2000000 in
theorem runes_stops (s:ByteArray) (b:Nat) (hs:s.size≤1000000000):
 YieldsS Tryz.prog 214 #[.pointer (some ⟨b,0,none⟩)] (fun x:Nat×Nat=> #[.int .i64 x.1,.int .i32 x.2]) (runes s) (fun A=>A.cell? ⟨b,0,none⟩=some (.string s)∧Tabs A):=by
 intro n l J Jx W hJn hJx hJb hY h0
 refine callsIn_of_wp Tryz.func214 rfl trivial ?_ rfl
 simp only[Tryz.ntmps214,List.size_toArray,List.length_cons,List.length_nil,Nat.reduceAdd,Nat.reduceSub,Array.replicate_succ,Array.replicate_zero,List.push_toArray,List.append_toArray,List.nil_append,List.cons_append]
 gi_wp2
 gi_loopw [3] (fun i wr=> ∃(pre:List (Nat×Nat)) (f k:Nat),i=.int .i64 k∧k≤s.size∧s.size - k≤f∧Hid (runes s=pre++runesFrom f (s.data.toList.drop k) k)∧J pre wr) (fun i _=>s.size - (intOf i).toNat)
 case atStart=>exact⟨[],s.size,0,rfl,Nat.zero_le _,by omega,rfl,h0⟩
 case round=>
  obtain⟨pre,f,k,rfl,hk,hf,hr,hJ⟩:=hrel
  have hcr:wr.cell? ⟨b,0,none⟩=some (.string s):=(hJb _ _ hJ).1
  have hTr:Tabs wr:=(hJb _ _ hJ).2
  by_cases hlt:k<s.size
  · have hne:s.data.toList.drop k≠ []:=by
     intro e
     have:=congrArg List.length e
     rw[List.length_drop,←Lib.size_eq]at this
     simp at this
     omega
    obtain⟨f,rfl⟩: ∃f',f=f'+1:=⟨f - 1,by omega⟩
    have cD:=Tryz.utf8_DecodeRuneInString (s.extract k s.size) wr hTr.2.1
    have hdc:Lib.decodeGo (s.extract k s.size)=Lib.decodeL (s.data.toList.drop k):=decode_tail s k hlt
    have hw1:=Lib.decodeL_width (s.data.toList.drop k)
    have hw2:=Lib.decodeL_le _ hne
    have hw3:=Lib.decodeL_rune (s.data.toList.drop k)
    rw[List.length_drop,←Lib.size_eq]at hw2
    have hr':=hr.out
    simp only[runesFrom]at hr'
    rw[if_neg hne,List.drop_drop]at hr'
    rw[hdc]at cD
    generalize Lib.decodeL (s.data.toList.drop k)=D at cD hw1 hw2 hw3 hr'
    obtain⟨r,z⟩:=D
    simp only at cD hw1 hw2 hw3 hr'
    have CD:=Lib.hid cD
    clear cD hdc hne hr
    by_cases hbad:r=65533∧z=1
    · rw[if_pos hbad,List.append_nil]at hr'
      have Hr:=Lib.hid hr'
      obtain⟨hr1,hz1⟩:=hbad
      have e1:((r:Int)==65533)=true:=by simp;omega
      have e2:((z:Int)==1)=true:=by simp;omega
      clear hr' hr1 hz1
      gi_wp2_with (refine⟨trivial, ?_⟩;gi_at_call 215;refine(callsIn_wide.2 CD.out).mono ?_;rintro e w2 ⟨rfl,hb2⟩;have hJ2:=hJn _ _ _ hJ hb2)
      refine bodyPost_ret (results_none rfl _ _ _) rfl ?_
      exact⟨⟨_,rfl⟩,.inl (by rw[Hr.out];exact hJ2)⟩
    · rw[if_neg hbad]at hr'
      have Hr:=Lib.hid hr'
      have Hr2:Hid (runes s=(pre++ [(k,r)])++runesFrom f (s.data.toList.drop (k+z)) (k+z)):=by
       show runes s=_
       rw[hr'];simp
      clear hr'
      rcases(by omega:r≠65533∨(r=65533∧z≠1))with h1|⟨h1,h2⟩
      · have e1:((r:Int)==65533)=false:=by simp;omega
        clear h1 hbad
        gi_wp2_with (refine⟨trivial, ?_⟩;gi_at_call 215;refine(callsIn_wide.2 CD.out).mono ?_;rintro e w2 ⟨rfl,hb2⟩;obtain⟨fn,tmps,assign,body,hy,hR⟩:=hY pre (k,r) _ w2 Hr.out (hJn _ _ _ hJ hb2);dsimp only at hy)
        refine hR.mono ?_
        rintro e W3 (⟨rfl,hJ3⟩|⟨rfl,hJ3⟩)
        rotate_left
        · clear hy hR
          gi_wp2
          refine bodyPost_ret (results_none rfl _ _ _) rfl ?_
          exact⟨⟨_,rfl⟩,.inr hJ3⟩
        clear hy hR
        gi_wp2
        go_roundw
        case rel=>exact⟨pre++ [(k,r)],f,k+z,by go_num,by omega,by omega,Hr2,hJ3⟩
        case measure=>simp[intOf];omega
      · have e1:((r:Int)==65533)=true:=by simp;omega
        have e2:((z:Int)==1)=false:=by simp;omega
        clear h1 h2 hbad
        gi_wp2_with (refine⟨trivial, ?_⟩;gi_at_call 215;refine(callsIn_wide.2 CD.out).mono ?_;rintro e w2 ⟨rfl,hb2⟩;obtain⟨fn,tmps,assign,body,hy,hR⟩:=hY pre (k,r) _ w2 Hr.out (hJn _ _ _ hJ hb2);dsimp only at hy)
        refine hR.mono ?_
        rintro e W3 (⟨rfl,hJ3⟩|⟨rfl,hJ3⟩)
        rotate_left
        · clear hy hR
          gi_wp2
          refine bodyPost_ret (results_none rfl _ _ _) rfl ?_
          exact⟨⟨_,rfl⟩,.inr hJ3⟩
        clear hy hR
        gi_wp2
        go_roundw
        case rel=>exact⟨pre++ [(k,r)],f,k+z,by go_num,by omega,by omega,Hr2,hJ3⟩
        case measure=>simp[intOf];omega
  · obtain rfl:k=s.size:=by omega
    have hr':=hr.out
    rw[List.drop_eq_nil_of_le (by rw[←Lib.size_eq];omega)]at hr'
    have hz:runesFrom f [] s.size= []:=by cases f<;>simp[runesFrom]
    rw[hz,List.append_nil]at hr'
    have Hr:=Lib.hid hr'
    clear hr hr'
    gi_wp2
    go_end0
    exact⟨⟨_,rfl⟩,.inl (by rw[Hr.out];exact hJ)⟩
end Go.Proofs.YtkkbplakgldlpaaGreatDoor
