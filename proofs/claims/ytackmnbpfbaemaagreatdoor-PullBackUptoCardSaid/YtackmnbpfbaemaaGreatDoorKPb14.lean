/- Parts, joined: commonplaceref01.Runes: a text's runes and their places. Condition: a text of at most 10^9 bytes. commonplaceref03.digits: an Int's digits. No condition. Why a value may not be: the reference's function, over an object's members. Condition: a bulk of at most 10^9. utf: digit, unit, paired, refused. Condition: a text of at most 10^9 bytes. -/
import Derived.Test.YtackmnbpfbaemaaGreatDoorProg
import Derived.Maps.AppendAt
import Derived.WalkKit
import Derived.Below
import Derived.Lib.ItoaLen
import Derived.Lib.Hide
import Derived.IntWalk
import Derived.Test.YtackmnbpfbaemaaGreatDoorKPb6
import Derived.Test.YtackmnbpfbaemaaGreatDoorKPb10
import Derived.Test.YtackmnbpfbaemaaGreatDoorKPb11
namespace Go.Proofs.YtackmnbpfbaemaaGreatDoor
open Go.RowKit
theorem runesFrom_step {l:List UInt8} (h:l≠ []) (f p:Nat):
 ((atSpec l).2=0∧runesFrom (f+1) l p= [])∨(∃n r:Nat,atSpec l=((r:Int),(n:Int))∧1≤n∧n≤l.length∧runesFrom (f+1) l p=(p,r)::runesFrom f (l.drop n) (p+n)):=by
 have hg:=atSpec_dec l h
 unfold goodAt at hg
 by_cases hb:(Lib.decodeL l).1=65533∧(Lib.decodeL l).2=1
 · rw[if_pos hb]at hg
   rw[hg]
   refine .inl ⟨rfl, ?_⟩
   simp only[runesFrom]
   rw[if_neg h,if_pos hb]
 · rw[if_neg hb]at hg
   have hw:=Lib.decodeL_width l
   refine .inr ⟨(Lib.decodeL l).2,(Lib.decodeL l).1,hg,hw,Lib.decodeL_le l h, ?_⟩
   simp only[runesFrom]
   rw[if_neg h,if_neg hb]
def Apart (v1 v2:Value):Prop:= ∀g,v1.ownBlock=some g→v2.ownBlock≠some g
theorem Apart.ne {v1 v2:Value} (h:Apart v1 v2):v1.ownBlock=none∨v1.ownBlock≠v2.ownBlock:=by
 cases e:v1.ownBlock with
 |none=>exact .inl rfl
 |some g=>exact .inr fun e'=>h g e (by rw[←e'])
theorem Apart.symm {v1 v2:Value} (h:Apart v1 v2):Apart v2 v1:=fun g e e'=>h g e' e
theorem Apart.step {v1 v1' v2:Value} {w:World} {B n N:Nat} {e:TypeId} {size:Nat} {xs:List Value} (h:Apart v1 v2) (h2:w.ownsRow B e size v2 n xs) (h4:v1'.ownBlock=v1.ownBlock∨v1'.ownBlock=some N) (hN:w.heap.size≤N):Apart v1' v2:=by
 intro g e1 e2
 rcases h4 with h4|h4
 · exact h g (by rw[←h4];exact e1) e2
 · rw[h4]at e1
   obtain rfl:=Option.some.inj e1
   have:=(h2.lt _ e2).2
   omega
theorem info_int:(Tryz.prog.info? 3).map (fun i=>(i.zero,i.size,i.bytes))=some (some (.int .i64 0),1,8):=by kernel_rfl
set_option maxRecDepth 20000 in
set_option maxHeartbeats 2000000 in
theorem RRunes_calls (s:ByteArray) (w:World) (hs:s.size≤1000000000):
 Calls Tryz.prog 86 #[.string s] w fun e w'=>(∃v1 v2,e= .returned (.tuple #[v1,v2])∧w'.ownsRow w.heap.size 3 1 v1 (runes s).length ((runes s).map fun x=>Value.int .i64 x.2))∧Below w.heap.size w w':=by
 obtain⟨i0,hi,hz0,hz1,hz2⟩:=info_parts info_int
 have HI:=Lib.hid hi
 have HZ0:=Lib.hid hz0
 have HZ1:=Lib.hid hz1
 have HZ2:=Lib.hid hz2
 clear hi hz0 hz1 hz2
 have Hown0:Hid (w.ownsRow w.heap.size 3 1 (.slice none 0 0) 0 []):=World.ownsRow_nil _ _ _ _
 have Hap0:Hid (Apart (.slice none 0 0) (.slice none 0 0)):=Lib.hid (fun g e=>by simp[Value.ownBlock]at e)
 go_enter Tryz.func86,Tryz.ntmps86
 go_wp2
 go_loopw [4,5,6] (fun v1 v2 i wr=> ∃(pre:List (Nat×Nat)) (f k:Nat),i= .int .i64 k∧k≤s.size∧s.size - k≤f∧Hid (runes s=pre++runesFrom f (s.data.toList.drop k) k)∧pre.length≤k∧
  Hid (wr.ownsRow w.heap.size 3 1 v1 pre.length (pre.map fun x=>Value.int .i64 x.2))∧Hid (wr.ownsRow w.heap.size 3 1 v2 pre.length (pre.map fun x=>Value.int .i64 x.1))∧Hid (Apart v1 v2)∧Hid (Below w.heap.size w wr)) (fun _ _ i _=>s.size - (intOf i).toNat)
 case atStart=>exact⟨[],s.size,0,rfl,Nat.zero_le _,by omega,rfl,Nat.le_refl _,Hown0,Hown0,Hap0,Below.refl _ _⟩
 case round=>
  obtain⟨pre,f,k,rfl,hk,hf,hr,hpk,ho1,ho2,hap,hbw⟩:=hrel
  clear Hown0 Hap0
  by_cases hlt:k<s.size
  · have hne:s.data.toList.drop k≠ []:=by
     intro e
     have:=congrArg List.length e
     rw[List.length_drop,←Lib.size_eq]at this
     simp at this
     omega
    obtain⟨f,rfl⟩: ∃f',f=f'+1:=⟨f - 1,by omega⟩
    have hA:=At_calls s k wr (by omega) (by omega)
    rcases runesFrom_step hne f k with⟨h0,hv⟩|⟨n,r,hn,hn1,hn2,hv⟩
    · have hr':=hr.out
      rw[hv,List.append_nil]at hr'
      rw[h0]at hA
      generalize (atSpec (s.data.toList.drop k)).1=R at hA
      have HA:=Lib.hid hA
      have HR:=Lib.hid hr'
      clear hA h0 hv hne hr hr'
      go_wp2_with (fail)
      with_reducible refine HA.out.mono ?_
      rintro e w' ⟨rfl,rfl⟩
      clear HA
      go_wp2
      go_ret2
      exact⟨⟨u4,u5,rfl,by rw[HR.out];exact ho1.out⟩,hbw.out⟩
    · have hr':=hr.out
      rw[hv,List.drop_drop]at hr'
      rw[hn]at hA
      rw[List.length_drop,←Lib.size_eq]at hn2
      have HA:=Lib.hid hA
      have HR:=Lib.hid hr'
      have hb1:w.heap.size≤wr.heap.size:=hbw.out.size
      clear hA hn hv hne hr hr'
      have e0:((n:Int)==0)=false:=by simp;omega
      go_wp2_with (fail)
      with_reducible refine HA.out.mono ?_
      rintro e w' ⟨rfl,rfl⟩
      clear HA
      go_wp2_with (at_builtin;refine wpList_append_own_at _ rfl (.tmp 21) (.tmp 23) 150 rfl w.heap.size 3 i0 (.int .i64 0) 1 8 Tryz.underlying150 HI.out HZ0.out HZ1.out HZ2.out rfl (by decide) u4 pre.length _ rfl (ho1.out.alloc _) ⟨wr.heap.size,0,none⟩ 1 1 [.int .i64 r] rfl rfl ?c1 ?c2 ?c3 ?c4 ?c5 ?_)
      case c1=>
       intro j u hj
       match j,hj with
       |0,hj=>simp at hj;subst hj;simp[Addr.add]
      case c2=>intro u hu;simp at hu;subst hu;rfl
      case c3=>unfold maxLen;omega
      case c4=>omega
      case c5=>simp;omega
      intro v1' w2 hown1 hgrow1 _ hat1
      have ho1':=Lib.hid hown1
      have ho2':=Lib.hid ((ho2.out.alloc (.cells #[.int .i64 r] 3)).kept hgrow1 hap.out.symm.ne)
      have hap':=Lib.hid (Apart.step hap.out ho2.out hat1 (by omega))
      have hbw2:=Lib.hid ((hbw.out.alloc hb1 (.cells #[.int .i64 r] 3)).grown hgrow1 (by simp;omega) (fun k hk=>(ho1.out.lt k hk).1))
      have hb2:w.heap.size≤w2.heap.size:=hbw2.out.size
      clear hown1 hgrow1 hat1 ho1 ho2 hap hbw hb1
      go_wp2_with (at_builtin;refine wpList_append_own_at _ rfl (.tmp 25) (.tmp 27) 150 rfl w.heap.size 3 i0 (.int .i64 0) 1 8 Tryz.underlying150 HI.out HZ0.out HZ1.out HZ2.out rfl (by decide) u5 pre.length _ rfl (ho2'.out.alloc _) ⟨w2.heap.size,0,none⟩ 1 1 [.int .i64 k] rfl rfl ?d1 ?d2 ?d3 ?d4 ?d5 ?_)
      case d1=>
       intro j u hj
       match j,hj with
       |0,hj=>simp at hj;subst hj;simp[Addr.add]
      case d2=>intro u hu;simp at hu;subst hu;rfl
      case d3=>unfold maxLen;omega
      case d4=>omega
      case d5=>simp;omega
      intro v2' w3 hown2 hgrow2 _ hat2
      have ho2'':=Lib.hid hown2
      have ho1'':=Lib.hid ((ho1'.out.alloc (.cells #[.int .i64 k] 3)).kept hgrow2 hap'.out.ne)
      have hap'':=Lib.hid (Apart.step hap'.out.symm ho1'.out hat2 (by omega)).symm
      have hbw3:=Lib.hid ((hbw2.out.alloc hb2 (.cells #[.int .i64 k] 3)).grown hgrow2 (by simp;omega) (fun k hk=>(ho2'.out.lt k hk).1))
      clear hown2 hgrow2 hat2 ho1' ho2' hap' hbw2 hb2
      go_wp2
      go_roundw
      case rel=>exact⟨pre++ [(k,r)],f,k+n,by go_num,by omega,by omega,Lib.hid (by rw[List.append_assoc];exact HR.out),by simp;omega,Lib.hid (by rw[List.length_append,List.map_append];exact ho1''.out),Lib.hid (by rw[List.length_append,List.map_append];exact ho2''.out),hap'',hbw3⟩
      case measure=>simp only[intOf];omega
  · obtain rfl:k=s.size:=by omega
    have hr':=hr.out
    have e:runesFrom f (s.data.toList.drop s.size) s.size= []:=by
     rw[List.drop_eq_nil_of_le (by rw[←Lib.size_eq];omega)]
     cases f<;>simp[runesFrom]
    rw[e,List.append_nil]at hr'
    have HR:=Lib.hid hr'
    clear hr hr' e
    go_wp2
    go_ret2
    exact⟨⟨u4,u5,rfl,by rw[HR.out];exact ho1.out⟩,hbw.out⟩
end Go.Proofs.YtackmnbpfbaemaaGreatDoor

namespace Go.Proofs.YtackmnbpfbaemaaGreatDoor
open Go.RowKit
def dgt (d:Nat):UInt8:=UInt8.ofNat (48+d)
def digs (u:Nat):List UInt8:=if _h:u=0 then []else digs (u / 10)++ [dgt (u % 10)]
termination_by u
decreasing_by omega
theorem digs_zero:digs 0= []:=by rw[digs,dif_pos rfl]
theorem digs_pos {u:Nat} (h:u≠0):digs u=digs (u / 10)++ [dgt (u % 10)]:=by rw[digs,dif_neg h]
theorem digs_dec (u:Nat):u≠0→digs u=Lib.decDigits u:=by
 induction u using Nat.strongRecOn with
 |_ u ih=>
  intro h
  rw[digs_pos h,Lib.decDigits]
  unfold dgt
  by_cases h10:u<10
  · rw[dif_pos h10,show u / 10=0 from by omega,digs_zero,show u % 10=u from by omega,List.nil_append]
  · rw[dif_neg h10,ih (u / 10) (by omega) (by omega)]
theorem digs_len {u:Nat} (h:(u:Int)≤9223372036854775808):(digs u).length≤30:=by
 by_cases h0:u=0
 · subst h0;rw[digs_zero];simp
 · rw[digs_dec u h0,Lib.decDigits_length]
   exact Nat.le_trans (Lib.nDigits_le20 u (by omega)) (by omega)
theorem run_cut (S:ByteArray) (d e:Nat) (hd:d≤e) (he:e≤S.size) (w:World):(Instr.slice 9 (.string S) (some (.int .i64 d)) (some (.int .i64 e)) none).run Tryz.prog w= .ok (.string (S.extract d e)) w:=by
 simp[Instr.slice,run_underlying Tryz.underlying9,Instr.sliceBounds,go_sem,hd,he]
theorem digit_at: ∀d:Fin 10,(⟨#[48,49,50,51,52,53,54,55,56,57]⟩:ByteArray).extract d.val (d.val+1)=⟨#[dgt d.val]⟩:=by decide
theorem run_digit (d:Nat) (hd:d<10) (w:World):(Instr.slice 9 (.string ⟨#[48,49,50,51,52,53,54,55,56,57]⟩) (some (.int .i64 d)) (some (.int .i64 ((d:Int)+1))) none).run Tryz.prog w= .ok (.string ⟨#[dgt d]⟩) w:=by
 have:=run_cut ⟨#[48,49,50,51,52,53,54,55,56,57]⟩ d (d+1) (by omega) (by show d+1≤10;omega) w
 rw[digit_at ⟨d,hd⟩]at this
 exact this
set_option maxRecDepth 20000 in
set_option maxHeartbeats 1000000 in
theorem digits_pos (a:Nat) (ha:a≠0) (hm:(a:Int)≤9223372036854775807) (w:World):
 Calls Tryz.prog 53 #[.int .i64 a] w fun e w'=>e= .returned (.string ⟨(Lib.itoa a).toArray⟩)∧w=w':=by
 have hi:Lib.itoa a=digs a:=by
  rw[digs_dec a ha,Lib.itoa,if_neg (by omega)];simp
 rw[hi]
 have hl:=digs_len (u:=a) (by omega)
 have H0:Hid (digs a++(⟨#[]⟩:ByteArray).data.toList=digs a):=by show _=_;simp
 clear hi
 go_enter Tryz.func53,Tryz.ntmps53
 have ha1:((a:Int)==0)=false:=by simp;omega
 go_wp2
 go_loop [3,4] (fun s m=> ∃(T:ByteArray) (u:Nat),s= .string T∧m= .int .i64 u∧u≤a∧Hid (digs u++T.data.toList=digs a)) (fun _ m=>(intOf m).toNat)
 case atStart=>exact⟨_,a,rfl,rfl,Nat.le_refl _,H0⟩
 case round=>
  obtain⟨T,u,rfl,rfl,hu,hT⟩:=hrel
  clear H0
  have hTs:T.size≤30:=by
   have h1:=congrArg List.length hT.out
   rw[List.length_append]at h1
   have h2:T.data.toList.length=T.size:=by rw[Array.length_toList];rfl
   omega
  by_cases hu0:u=0
  · subst hu0
    have hT':=hT.out
    rw[digs_zero,List.nil_append]at hT'
    have hE:(⟨(digs a).toArray⟩:ByteArray)=T:=by rw[←hT']
    have HE:=Lib.hid hE
    clear hT hT' hE ha1 hl
    have h0:((a:Int)<0)=False:=by simp
    go_wp2
    go_ret
    exact⟨by rw[HE.out];rfl,rfl⟩
  · have hu1:((u:Int)==0)=false:=by simp;omega
    have hT':Hid (digs (u / 10)++((⟨#[dgt (u % 10)]⟩:ByteArray)++T).data.toList=digs a):=by
     have:=hT.out
     rw[digs_pos hu0]at this
     show _=_
     rw[←this,ByteArray.data_append,Array.toList_append]
     simp
    have hd:=run_digit (u % 10) (by omega) w
    have hm10:(u:Int) % 10=((u % 10:Nat):Int):=by omega
    have hq10:(u:Int) / 10=((u / 10:Nat):Int):=by omega
    have hlt:u % 10<10:=by omega
    have hqu:u / 10<u:=by omega
    generalize u % 10=d at*
    generalize u / 10=q at*
    have hdn:decide ((d:Int)<0)=false:=by simp
    clear hT ha1 hl
    go_wp2
    go_round
    case rel=>exact⟨_,q,rfl,rfl,by omega,hT'⟩
    case measure=>simp[intOf];omega
set_option maxRecDepth 20000 in
set_option maxHeartbeats 1000000 in
theorem digits_neg (a:Nat) (ha:a≠0) (hm:(a:Int)≤9223372036854775808) (n:Int) (hn:n= -(a:Int)) (w:World):
 Calls Tryz.prog 53 #[.int .i64 n] w fun e w'=>e= .returned (.string ⟨(Lib.itoa n).toArray⟩)∧w=w':=by
 have hi:Lib.itoa n=45::digs a:=by
  rw[digs_dec a ha,Lib.itoa,if_pos (by omega),hn];simp
 rw[hi]
 have hl:=digs_len (u:=a) (by omega)
 have H0:Hid (digs a++(⟨#[]⟩:ByteArray).data.toList=digs a):=by show _=_;simp
 have Hn:=Lib.hid hn
 have hn1:(n==0)=false:=by simp;omega
 have hn2:n<0:=by omega
 clear hi hn
 go_enter Tryz.func53,Tryz.ntmps53
 go_wp2
 go_loop [3,4] (fun s m=> ∃(T:ByteArray) (M:Int) (u:Nat),s= .string T∧m= .int .i64 M∧Hid (M= -(u:Int))∧u≤a∧Hid (digs u++T.data.toList=digs a)) (fun _ m=>(-(intOf m)).toNat)
 case atStart=>exact⟨_,n,a,rfl,rfl,Hn,Nat.le_refl _,H0⟩
 case round=>
  obtain⟨T,M,u,rfl,rfl,hM,hu,hT⟩:=hrel
  clear H0
  have hTs:T.size≤30:=by
   have h1:=congrArg List.length hT.out
   rw[List.length_append]at h1
   have h2:T.data.toList.length=T.size:=by rw[Array.length_toList];rfl
   omega
  have hMu:=hM.out
  by_cases hu0:u=0
  · subst hu0
    obtain rfl:M=0:=by simpa using hMu
    have hT':=hT.out
    rw[digs_zero,List.nil_append]at hT'
    have hE:(⟨(45::digs a).toArray⟩:ByteArray)=⟨#[45]⟩++T:=by
     apply ByteArray.ext
     rw[ByteArray.data_append]
     apply Array.ext'
     rw[Array.toList_append,hT']
     simp
    have HE:=Lib.hid hE
    clear hT hT' hE hn1 hl hM hMu
    go_wp2
    go_ret
    exact⟨by rw[HE.out];rfl,rfl⟩
  · have hT':Hid (digs (u / 10)++((⟨#[dgt (u % 10)]⟩:ByteArray)++T).data.toList=digs a):=by
     have:=hT.out
     rw[digs_pos hu0]at this
     show _=_
     rw[←this,ByteArray.data_append,Array.toList_append]
     simp
    have hM1:(M==0)=false:=by simp;omega
    have hM2: -9223372036854775808≤M:=by omega
    have hM3:M<0:=by omega
    have hd:=run_digit (u % 10) (by omega) w
    obtain⟨D,hD⟩: ∃D,M.tmod 10=D:=⟨_,rfl⟩
    obtain⟨Q,hQ⟩: ∃Q,M.tdiv 10=Q:=⟨_,rfl⟩
    have hD':D= -((u % 10:Nat):Int):=by
     rw[←hD,hMu,Int.neg_tmod,Int.tmod_eq_emod_of_nonneg (by omega)];omega
    have hQ':Q= -((u / 10:Nat):Int):=by
     rw[←hQ,hMu,Int.neg_tdiv,Int.tdiv_eq_ediv_of_nonneg (by omega)];omega
    have hlt:u % 10<10:=by omega
    have hqu:u / 10<u:=by omega
    generalize u % 10=d at*
    generalize u / 10=q at*
    have HQ:=Lib.hid hQ'
    have hMQ:M<Q:=by omega
    have hQ1: -9223372036854775808≤Q:=by omega
    have hQ2:Q≤0:=by omega
    have hQ3:Q≤9223372036854775807:=by omega
    by_cases hd0:d=0
    · subst hd0
      obtain rfl:D=0:=by simpa using hD'
      have hd1:(Instr.slice 9 (.string ⟨#[48,49,50,51,52,53,54,55,56,57]⟩) (some (.int .i64 0)) (some (.int .i64 1)) none).run Tryz.prog w= .ok (.string ⟨#[dgt 0]⟩) w:=hd
      clear hT hn1 hl hM hD' hQ' hMu hd
      go_wp2
      go_round
      case rel=>exact⟨_,Q,q,rfl,rfl,HQ,by omega,hT'⟩
      case measure=>simp only[intOf];omega
    · have hDn:D<0:=by omega
      have hDb: -10<D:=by omega
      have hDd: -D=(d:Int):=by omega
      clear hT hn1 hl hM hD' hQ'
      clear hMu
      go_wp2
      go_round
      case rel=>exact⟨_,Q,q,rfl,rfl,HQ,by omega,hT'⟩
      case measure=>simp only[intOf];omega
theorem digits_calls (n:Int) (h1: -9223372036854775808≤n) (h2:n≤9223372036854775807) (w:World):
 Calls Tryz.prog 53 #[.int .i64 n] w fun e w'=>e= .returned (.string ⟨(Lib.itoa n).toArray⟩)∧w=w':=by
 by_cases h0:n=0
 · subst h0
   have e:(⟨(Lib.itoa 0).toArray⟩:ByteArray)=⟨#[48]⟩:=by
    have:Lib.itoa 0= [48]:=by
     rw[Lib.itoa,if_neg (by omega)]
     exact Lib.decDigits_one (i:=0) (by omega)
    rw[this]
   rw[e]
   go_enter Tryz.func53,Tryz.ntmps53
   go_wp2
   go_ret
   exact⟨rfl,rfl⟩
 · rcases Int.lt_or_le n 0 with h|h
   · exact digits_neg n.natAbs (by omega) (by omega) n (by omega) w
   · have:=digits_pos n.toNat (by omega) (by omega) w
     rwa [show((n.toNat:Nat):Int)=n from by omega]at this
end Go.Proofs.YtackmnbpfbaemaaGreatDoor

namespace Go.Proofs.YtackmnbpfbaemaaGreatDoor
open Go.RowKit
set_option maxHeartbeats 4000000 in
theorem mayR_obj (k:Int) (b:Bool) (n:Int) (t:ByteArray) (o:List (ByteArray×Val)) (la oa:Option Addr) (lc oc:Nat) (d:Int) (w:World) (g off:Nat) (hoa:o= []∨(oa=some ⟨g,off,none⟩∧g<w.heap.size∧HoldsO w w.heap.size o g off))
 (hb:bulkO o+t.size≤1000000000) (h0:0≤d) (h64:d≤64) (IH: ∀m ∈ o,MayRC m.2) (hodd:oddB k b n t 0 o.length=false) (hval:validB t=true):
 Calls Tryz.prog 97 #[.agg #[.int .i64 k, .bool b, .int .i64 n, .string t, .slice la 0 lc, .slice oa o.length oc], .int .i64 d] w fun e w'=>e= .returned (.int .i64 (mayO o none (d+1)))∧Below w.heap.size w w':=by
 have hlen:o.length≤1000000000:=by have:=bulkO_len o;omega
 have h64': ¬(64<d):=by omega
 have H:Hid (mayO (o.drop 0) (lastKey o 0) (d+1)=mayO o none (d+1)):=by rw[List.drop_zero];exact rfl
 go_enter Tryz.func97,Tryz.ntmps97
 go_wp2_with (first|(go_at_call 137;refine(bare_calls2 hodd _).mono ?_;rintro e w1 ⟨rfl,hb1⟩;obtain⟨hc1,hf1⟩:=bcell hb1;have hz1:=hb1.size;simp only[World.size_alloc]at hz1;have hbw1:Below w.heap.size w w1:=((Below.refl _ _).alloc (Nat.le_refl _) _).trans (hb1.mono (by simp));have hbox1:w1.heap[w.heap.size]? =some (.cells #[.int .i64 k, .bool b, .int .i64 n, .string t, .slice la 0 lc, .slice oa o.length oc] 39 (0,0)):=(hb1.block _ (by simp)).trans (heap_alloc_new _ _))|(go_at_call 85;refine(RValid_calls2 hval _ (by omega)).mono ?_;rintro e w2 ⟨rfl,rfl⟩))
 clear hb1 hodd hc1 hf1 hz1
 go_loopw [5] (fun i wx=>i= .int .i64 0∧wx=w1) (fun _ _=>0)
 case atStart=>exact⟨rfl,rfl⟩
 case round=>
  obtain⟨rfl,rfl⟩:=hrel
  have hbx0:w.heap.size<wr.heap.size:=(Array.getElem?_eq_some_iff.1 hbox1).1
  have b40:wr.cell? ⟨w.heap.size,4,none⟩=some (.slice la 0 lc):=by rw[Lib.cell_of_heap hbox1];rfl
  go_wp2
  clear b40 hbx0
  rename World=>w1
  go_loopw [7,8] (fun q i wr=> ∃j:Nat,∃lk:ByteArray,j≤o.length∧i= .int .i64 j∧q= .string lk∧(0<j→lastKey o j=some lk)∧Hid (mayO (o.drop j) (lastKey o j) (d+1)=mayO o none (d+1))∧Below w.heap.size w wr∧wr.heap[w.heap.size]? =some (.cells #[.int .i64 k, .bool b, .int .i64 n, .string t, .slice la 0 lc, .slice oa o.length oc] 39 (0,0))) (fun _ i _=>o.length - (intOf i).toNat)
  case atStart=>exact⟨0,ByteArray.empty,Nat.zero_le _,rfl,rfl,fun h=>absurd h (by omega),H,hbw1,hbox1⟩
  case round=>
   obtain⟨j,q,hj,rfl,rfl,hlk,hm,hbw,hbox⟩:=hrel
   clear H hbw1 hbox1
   have hbx:w.heap.size<wr.heap.size:=(Array.getElem?_eq_some_iff.1 hbox).1
   have b5:wr.cell? ⟨w.heap.size,5,none⟩=some (.slice oa o.length oc):=by rw[Lib.cell_of_heap hbox];rfl
   have hz:=hbw.size
   by_cases hlt:j<o.length
   · obtain⟨rfl,hg,hL⟩:oa=some ⟨g,off,none⟩∧g<w.heap.size∧HoldsO w w.heap.size o g off:=by
      rcases hoa with rfl|h
      · simp at hlt
      · exact h
     obtain⟨⟨key,v⟩,hv⟩: ∃v,o[j]? =some v:=⟨_,List.getElem?_eq_getElem hlt⟩
     have hdrop:o.drop j=(key,v)::o.drop (j+1):=drop_of_get hv
     have hmem:(key,v) ∈ o:=List.mem_of_getElem? hv
     have hbv:=bulkO_mem hmem
     simp only at hbv
     have IHv:=Lib.hid (IH (key,v) hmem)
     have hlast:lastKey o (j+1)=some key:=by simp[lastKey,hv]
     have Hlast:=Lib.hid hlast
     have hm':=hm.out
     rw[hdrop]at hm'
     simp only[mayO,mayP,←hlast]at hm'
     clear hm hdrop hmem IH hlast
     have hLr:=hL.below hg hbw
     have hgr:g<wr.heap.size:=by omega
     obtain⟨k',b',n',t',l',o'⟩:=v
     obtain⟨la',lc',oa',oc',hvs,c0,c1,c2,c3,c4,c5,c6⟩:=hLr.seven hv
     clear hL hLr hv hoa
     by_cases hval2:validB key=true
     · rw[hval2]at hm'
       simp only[if_true]at hm'
       by_cases hjp:0<j
       · rw[hlk hjp]at hm'
         simp only at hm'
         have hgd:decide (0<j)=true:=by simpa using hjp
         clear hlk
         by_cases hle:leB key q=true
         · rw[if_pos hle]at hm'
           unfold leB at hle
           have Hm:=Lib.hid hm'
           clear hm'
           go_wp2_with (go_at_call 85;refine(RValid_calls2 hval2 _ (by omega)).mono ?_;rintro e wv ⟨rfl,rfl⟩)
           go_ret
           exact⟨by rw[←Hm.out];rfl,hbw⟩
         · rw[if_neg hle]at hm'
           have hle':(Op.bytesLess key.toList q.toList||key.toList==q.toList)=false:=by simpa[leB]using hle
           clear hle
           obtain⟨m,hmv⟩: ∃m,mayV (.mk k' b' n' t' l' o') (d+1)=m:=⟨_,rfl⟩
           rw[hmv]at hm'
           have Hmv:=Lib.hid hmv
           clear hmv
           by_cases hm0:m=0
           · rw[if_pos hm0]at hm'
             subst hm0
             have Hm:=Lib.hid hm'
             clear hm'
             go_wp2_with (first|(go_at_call 85;refine(RValid_calls2 hval2 _ (by omega)).mono ?_;rintro e wv ⟨rfl,rfl⟩)|(go_at_call 97;refine(IHv.out _ (d+1) _ (HoldsV.more (by omega) _ _ hvs) (by omega) (by omega) (by omega)).mono ?_;rintro e w3 ⟨he,hb3⟩;rw[Hmv.out]at he;subst he;have hbw3:Below w.heap.size w w3:=hbw.trans (hb3.mono hz);have hbox3:=(hb3.block _ hbx).trans hbox))
             go_roundw
             case rel=>exact⟨j+1,key,by omega,by go_num,rfl,fun _=>Hlast.out,Hm,hbw3,hbox3⟩
             case measure=>simp[intOf];omega
           · rw[if_neg hm0]at hm'
             have hm1:(m==0)=false:=by simpa using hm0
             have hm2:(m != 0)=true:=by simpa using hm0
             have Hm:=Lib.hid hm'
             clear hm'
             go_wp2_with (first|(go_at_call 85;refine(RValid_calls2 hval2 _ (by omega)).mono ?_;rintro e wv ⟨rfl,rfl⟩)|(go_at_call 97;refine(IHv.out _ (d+1) _ (HoldsV.more (by omega) _ _ hvs) (by omega) (by omega) (by omega)).mono ?_;rintro e w3 ⟨he,hb3⟩;rw[Hmv.out]at he;subst he;have hbw3:Below w.heap.size w w3:=hbw.trans (hb3.mono hz);have hbox3:=(hb3.block _ hbx).trans hbox))
             go_ret
             exact⟨by rw[←Hm.out];rfl,hbw3⟩
       · have hlk0:lastKey o j=none:=by
          obtain rfl:j=0:=by omega
          rfl
         rw[hlk0]at hm'
         simp only at hm'
         have hgd:decide (0<j)=false:=by simpa using hjp
         have hk0:j≤0:=by omega
         clear hlk hlk0
         obtain⟨m,hmv⟩: ∃m,mayV (.mk k' b' n' t' l' o') (d+1)=m:=⟨_,rfl⟩
         rw[hmv]at hm'
         have Hmv:=Lib.hid hmv
         clear hmv
         by_cases hm0:m=0
         · rw[if_pos hm0]at hm'
           subst hm0
           have Hm:=Lib.hid hm'
           clear hm'
           go_wp2_with (first|(go_at_call 85;refine(RValid_calls2 hval2 _ (by omega)).mono ?_;rintro e wv ⟨rfl,rfl⟩)|(go_at_call 97;refine(IHv.out _ (d+1) _ (HoldsV.more (by omega) _ _ hvs) (by omega) (by omega) (by omega)).mono ?_;rintro e w3 ⟨he,hb3⟩;rw[Hmv.out]at he;subst he;have hbw3:Below w.heap.size w w3:=hbw.trans (hb3.mono hz);have hbox3:=(hb3.block _ hbx).trans hbox))
           go_roundw
           case rel=>exact⟨j+1,key,by omega,by go_num,rfl,fun _=>Hlast.out,Hm,hbw3,hbox3⟩
           case measure=>simp[intOf];omega
         · rw[if_neg hm0]at hm'
           have hm1:(m==0)=false:=by simpa using hm0
           have hm2:(m != 0)=true:=by simpa using hm0
           have Hm:=Lib.hid hm'
           clear hm'
           go_wp2_with (first|(go_at_call 85;refine(RValid_calls2 hval2 _ (by omega)).mono ?_;rintro e wv ⟨rfl,rfl⟩)|(go_at_call 97;refine(IHv.out _ (d+1) _ (HoldsV.more (by omega) _ _ hvs) (by omega) (by omega) (by omega)).mono ?_;rintro e w3 ⟨he,hb3⟩;rw[Hmv.out]at he;subst he;have hbw3:Below w.heap.size w w3:=hbw.trans (hb3.mono hz);have hbox3:=(hb3.block _ hbx).trans hbox))
           go_ret
           exact⟨by rw[←Hm.out];rfl,hbw3⟩
     · have hvf:validB key=false:=by simpa using hval2
       rw[hvf]at hm'
       have Hm:=Lib.hid hm'
       clear hm' hval2 hlk
       go_wp2_with (go_at_call 85;refine(RValid_calls2 hvf _ (by omega)).mono ?_;rintro e wv ⟨rfl,rfl⟩)
       go_ret
       exact⟨by rw[←Hm.out];simp,hbw⟩
   · obtain rfl:j=o.length:=by omega
     have hm':=hm.out
     rw[List.drop_length]at hm'
     have Hm:=Lib.hid hm'
     clear hm hm' hlk hoa IH
     go_wp2
     go_ret
     exact⟨by rw[←Hm.out];rfl,hbw⟩
end Go.Proofs.YtackmnbpfbaemaaGreatDoor

namespace Go.Proofs.YtackmnbpfbaemaaGreatDoor
open Go Go.RowKit
set_option maxRecDepth 100000 in
set_option maxHeartbeats 2000000 in
theorem dgt_yes {c:UInt8} {d:Nat} (h:hexD c=some d) (w:World):Calls Tryz.prog 265 #[.int .u8 c.toNat] w fun e w'=>e= .returned (.tuple #[.int .i32 d, .bool true])∧w=w':=by
 have hcl:=byte_lt c
 unfold hexD at h
 split at h
 · rename_i hr
   obtain⟨h1,h2⟩:=hr
   have e:(d:Int)=(c.toNat:Int) - 48:=by have:=Option.some.inj h;omega
   have l1:(48:Int)≤(c.toNat:Int):=by omega
   have l2:(c.toNat:Int)≤57:=by omega
   rw[e]
   clear h e h1 h2
   go_enter Tryz.func265,Tryz.ntmps265
   go_wp2
   go_ret2
   exact⟨rfl,rfl⟩
 split at h
 · rename_i hn hr
   obtain⟨h1,h2⟩:=hr
   have e:(d:Int)=(c.toNat:Int) - 97+10:=by have:=Option.some.inj h;omega
   have l0: ¬((c.toNat:Int)≤57):=by omega
   have l1:(97:Int)≤(c.toNat:Int):=by omega
   have l2:(c.toNat:Int)≤102:=by omega
   rw[e]
   clear h e h1 h2 hn
   go_enter Tryz.func265,Tryz.ntmps265
   go_wp2
   go_ret2
   exact⟨rfl,rfl⟩
 split at h
 · rename_i hn1 hn hr
   obtain⟨h1,h2⟩:=hr
   have e:(d:Int)=(c.toNat:Int) - 65+10:=by have:=Option.some.inj h;omega
   have l0: ¬((c.toNat:Int)≤57):=by omega
   have l3: ¬((97:Int)≤(c.toNat:Int)):=by omega
   have l1:(65:Int)≤(c.toNat:Int):=by omega
   have l2:(c.toNat:Int)≤70:=by omega
   rw[e]
   clear h e h1 h2 hn hn1
   go_enter Tryz.func265,Tryz.ntmps265
   go_wp2
   go_ret2
   exact⟨rfl,rfl⟩
 · cases h
set_option maxRecDepth 100000 in
set_option maxHeartbeats 2000000 in
theorem dgt_no {c:UInt8} (h:hexD c=none) (w:World):Calls Tryz.prog 265 #[.int .u8 c.toNat] w fun e w'=>e= .returned (.tuple #[.int .i32 0, .bool false])∧w=w':=by
 have hcl:=byte_lt c
 unfold hexD at h
 split at h
 · cases h
 split at h
 · cases h
 split at h
 · cases h
 rename_i h1 h2 h3
 by_cases a1:(48:Int)≤(c.toNat:Int)<;>by_cases a2:(c.toNat:Int)≤57<;>by_cases a3:(97:Int)≤(c.toNat:Int)<;>by_cases a4:(c.toNat:Int)≤102<;>by_cases a5:(65:Int)≤(c.toNat:Int)<;>by_cases a6:(c.toNat:Int)≤70
 all_goals first|(exfalso;omega)|(clear h h1 h2 h3;go_enter Tryz.func265,Tryz.ntmps265;go_wp2;go_ret2;exact⟨rfl,rfl⟩)
theorem refused_calls (c:UInt8) (w:World):Calls Tryz.prog 237 #[.int .u8 c.toNat] w fun e w'=>e= .returned (.int .i64 (if c.toNat<32 then 4 else 3))∧w=w':=by
 have hcl:=byte_lt c
 by_cases h:c.toNat<32
 · rw[if_pos h]
   have h':(c.toNat:Int)<32:=by omega
   clear h
   go_enter Tryz.func237,Tryz.ntmps237
   go_wp2
   go_ret
   exact⟨rfl,rfl⟩
 · rw[if_neg h]
   have h': ¬((c.toNat:Int)<32):=by omega
   clear h
   go_enter Tryz.func237,Tryz.ntmps237
   go_wp2
   go_ret
   exact⟨rfl,rfl⟩
theorem ofInt_i32 (a:Nat) (ha:a<2147483648):(BitVec.ofInt 32 (a:Int)).toNat=a:=by
 rw[BitVec.ofInt_natCast,BitVec.toNat_ofNat];exact Nat.mod_eq_of_lt (by omega)
theorem or16 {n d:Nat} (hn:n<4096) (hd:d<16):bits .or .i32 ((n:Int)*16) (d:Int)=((16*n+d:Nat):Int):=by
 have e:(n:Int)*16=((n*16:Nat):Int):=by omega
 have h:n*16 ||| d=n*16+d:=by
  have:=Nat.shiftLeft_add_eq_or_of_lt (i:=4) (b:=d) (by omega) n
  rw[Nat.shiftLeft_eq]at this
  exact this.symm
 rw[e]
 show IntKind.i32.wrap ((BitVec.ofInt 32 ((n*16:Nat):Int) ||| BitVec.ofInt 32 (d:Int)).toNat:Int)=_
 rw[BitVec.toNat_or,ofInt_i32 _ (by omega),ofInt_i32 _ (by omega),h,IntKind.wrap_i32]
 omega
def unitR (u:Option Nat):Value:=match u with
 |some n=> .tuple #[.int .i32 n, .bool true]
 |none=> .tuple #[.int .i32 0, .bool false]
set_option maxRecDepth 100000 in
set_option maxHeartbeats 4000000 in
theorem unit_calls (t:ByteArray) (w:World) (hs:t.size≤1000000000):Calls Tryz.prog 252 #[.string t] w fun e w'=>e= .returned (unitR (unitL t.data.toList))∧w=w':=by
 have hlen:=size_toList t
 by_cases h6:t.size<6
 · have e:unitL t.data.toList=none:=by unfold unitL;rw[if_pos (by omega)]
   rw[e]
   have l:(t.size:Int)<6:=by omega
   clear e hlen
   go_enter Tryz.func252,Tryz.ntmps252
   go_wp2
   go_ret2
   exact⟨rfl,rfl⟩
 have l6: ¬((t.size:Int)<6):=by omega
 have q0:0<t.size:=by omega
 have q1:1<t.size:=by omega
 obtain⟨a,ha⟩: ∃a,t[0]=a:=⟨_,rfl⟩
 obtain⟨b,hb⟩: ∃b,t[1]=b:=⟨_,rfl⟩
 have ga:t.data.toList[0]? =some a:=by rw[get_byte t q0,ha]
 have gb:t.data.toList[1]? =some b:=by rw[get_byte t q1,hb]
 have hal:=byte_lt a
 have hbl:=byte_lt b
 have ne: ∀(c:UInt8) (n:Nat),n<256→c≠UInt8.ofNat n→((c.toNat:Int)==(n:Int))=false:=fun c n hn h=>by rw[byte_eq hn];simpa using h
 by_cases h92:a=92
 rotate_left
 · have e:unitL t.data.toList=none:=by unfold unitL;rw[if_pos];right;left;rw[ga];simpa using h92
   have e1:=ne a 92 (by decide) h92
   rw[e]
   clear e hlen ga gb ne h92 h6
   go_enter Tryz.func252,Tryz.ntmps252
   go_wp2
   go_ret2
   exact⟨rfl,rfl⟩
 by_cases h117:b=117
 rotate_left
 · have e:unitL t.data.toList=none:=by unfold unitL;rw[if_pos];right;right;rw[gb];simpa using h117
   have e1:=ne b 117 (by decide) h117
   rw[e]
   subst h92
   clear e hlen ga gb ne h117 h6
   go_enter Tryz.func252,Tryz.ntmps252
   go_wp2
   go_ret2
   exact⟨rfl,rfl⟩
 subst h92 h117
 have e:unitL t.data.toList=hexF (t.data.toList.drop 2) 4 0:=by
  unfold unitL
  rw[if_neg]
  rw[ga,gb]
  simp;omega
 rw[e]
 obtain⟨F,hF⟩: ∃F,hexF (t.data.toList.drop 2) 4 0=F:=⟨_,rfl⟩
 rw[hF]
 have H0:=Lib.hid hF
 clear e hF ga gb ne hlen
 go_enter Tryz.func252,Tryz.ntmps252
 go_wp2
 go_loop [4,5] (fun x i=> ∃k n:Nat,2≤k∧k≤6∧i= .int .i64 k∧x= .int .i32 n∧n<16 ^ (k - 2)∧Hid (hexF (t.data.toList.drop k) (6 - k) n=F)) (fun _ i=>6 - (intOf i).toNat)
 case atStart=>exact⟨2,0,by omega,by omega,rfl,rfl,by decide,H0⟩
 case round=>
  obtain⟨k,n,hk2,hk6,rfl,rfl,hn,hf⟩:=hrel
  clear H0
  by_cases hlt:k<6
  · have hkt:k<t.size:=by omega
    obtain⟨c,hc⟩: ∃c,t[k]=c:=⟨_,rfl⟩
    have hg:t.data.toList[k]? =some c:=by rw[get_byte t hkt,hc]
    have hcl:=byte_lt c
    have hn':n<4096:=by
     have:16 ^ (k - 2)≤16 ^ 3:=Nat.pow_le_pow_right (by decide) (by omega)
     omega
    have hf':=hf.out
    rw[drop_at hg,show 6 - k=(6 - (k+1))+1 from by omega]at hf'
    simp only[hexF]at hf'
    cases hd:hexD c with
    |none=>
     rw[hd]at hf'
     subst hf'
     have hD:=fun W=>dgt_no hd W
     have HD:=Lib.hid hD
     clear hD
     clear hf hd hg
     go_wp2_with (fail)
     with_reducible refine(HD.out _).mono ?_
     rintro e w1 ⟨rfl,rfl⟩
     go_wp2
     go_ret2
     exact⟨rfl,rfl⟩
    |some d=>
     rw[hd]at hf'
     simp only at hf'
     have hD:=fun W=>dgt_yes hd W
     have hd16:=hexD_lt hd
     have HF:=Lib.hid hf'
     have hpow:16*n+d<16 ^ (k+1 - 2):=by
      rw[show k+1 - 2=(k - 2)+1 from by omega,Nat.pow_succ];omega
     have HP:=Lib.hid hpow
     have HD:=Lib.hid hD
     clear hD
     clear hf hd hg hf' hn hpow
     go_wp2_with (fail)
     with_reducible refine(HD.out _).mono ?_
     rintro e w1 ⟨rfl,rfl⟩
     go_wp2
     go_round
     case rel=>exact⟨k+1,16*n+d,by omega,by omega,by go_num,by rw[or16 (by omega) (by omega)],HP.out,HF⟩
     case measure=>simp[intOf];omega
  · obtain rfl:k=6:=by omega
    have hf':=hf.out
    have e:hexF (t.data.toList.drop 6) (6 - 6) n=some n:=by cases t.data.toList.drop 6<;>rfl
    rw[e]at hf'
    subst hf'
    clear hf e
    go_wp2
    go_ret2
    exact⟨rfl,rfl⟩
end Go.Proofs.YtackmnbpfbaemaaGreatDoor
