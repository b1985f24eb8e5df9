/- Parts: A key put into entries, by place; the kids of a node into which one is put. Plain. No condition. -/
import Derived.Test.YtkmcjfkokoidcaaGreatDoorKFa12
import Derived.Test.YtkmcjfkokoidcaaGreatDoorKFa13
set_option maxHeartbeats 20000000
set_option maxRecDepth 100000
namespace Go.Proofs.YtkmcjfkokoidcaaGreatDoor
open Go.RowKit
def dgt (d:Nat):UInt8:=UInt8.ofNat (48+d)
def Fi (u:Nat):List UInt8:=if _h:u=0 then []else Fi (u / 10)++ [dgt (u % 10)]
termination_by u
decreasing_by omega
theorem Im:Fi 0= []:=by rw[Fi,dif_pos rfl]
theorem Lh {u:Nat} (h:u≠0):Fi u=Fi (u / 10)++ [dgt (u % 10)]:=by rw[Fi,dif_neg h]
theorem Gz (u:Nat):u≠0->Fi u=Lib.decDigits u:=by
 induction u using Nat.strongRecOn with
 |_ u ih=>
  intro h;rw[Lh h,Lib.decDigits];unfold dgt;by_cases h10:u<10
  . rw[dif_pos h10,show u / 10=0 from by omega,Im,show u % 10=u from by omega,List.nil_append]
  . rw[dif_neg h10,ih (u / 10) (by omega) (by omega)]
theorem Abh {u:Nat} (h:(u:Int)<=9223372036854775808):(Fi u).length<=30:=by
 by_cases h0:u=0
 . subst h0;rw[Im];simp
 . rw[Gz u h0,Lib.decDigits_length];exact Nat.le_trans (Lib.nDigits_le20 u (by omega)) (by omega)
theorem Z4 (S:ByteArray) (d e:Nat) (hd:d<=e) (he:e<=S.size) (w:World):(Instr.slice 9 (.string S) (some (.int .i64 d)) (some (.int .i64 e)) none).run Tryz.prog w=.ok (.string (S.extract d e)) w:=by
 simp[Instr.slice,run_underlying Tryz.underlying9,Instr.sliceBounds,go_sem,hd,he]
theorem Aj5: ∀d:Fin 10,(⟨#[48,49,50,51,52,53,54,55,56,57]⟩:ByteArray).extract d.val (d.val+1)=⟨#[dgt d.val]⟩:=by decide
theorem Xx (d:Nat) (hd:d<10) (w:World):(Instr.slice 9 (.string ⟨#[48,49,50,51,52,53,54,55,56,57]⟩) (some (.int .i64 d)) (some (.int .i64 ((d:Int)+1))) none).run Tryz.prog w=.ok (.string ⟨#[dgt d]⟩) w:=by
 have:=Z4 ⟨#[48,49,50,51,52,53,54,55,56,57]⟩ d (d+1) (by omega) (by show d+1<=10;omega) w;rw[Aj5 ⟨d,hd⟩]at this;exact this
set_option maxRecDepth 20000 in
theorem Aee (a:Nat) (ha:a≠0) (hm:(a:Int)<=9223372036854775807) (w:World):
 Calls Tryz.prog 81 #[.int .i64 a] w fun e w'=>e=.returned (.string ⟨(Lib.itoa a).toArray⟩)/\w=w':=by
 have hi:Lib.itoa a=Fi a:=by
  rw[Gz a ha,Lib.itoa,if_neg (by omega)];simp
 rw[hi];have hl:=Abh (u:=a) (by omega);have H0:Hid (Fi a++(⟨#[]⟩:ByteArray).data.toList=Fi a):=by show _=_;simp
 clear hi;go_enter Tryz.func81,Tryz.ntmps81;have ha1:((a:Int)==0)=false:=by simp;omega
 go_wp2
 go_loop [3,4] (fun s m=> ∃(T:ByteArray) (u:Nat),s=.string T/\m=.int .i64 u/\u<=a/\Hid (Fi u++T.data.toList=Fi a)) (fun _ m=>(intOf m).toNat)
 case atStart=>exact⟨_,a,rfl,rfl,Nat.le_refl _,H0⟩
 case round=>
  obtain⟨T,u,rfl,rfl,hu,hT⟩:=hrel;clear H0;have hTs:T.size<=30:=by
   have h1:=congrArg List.length hT.out;rw[List.length_append]at h1;have h2:T.data.toList.length=T.size:=by rw[Array.length_toList];rfl
   omega
  by_cases hu0:u=0
  . subst hu0;have hT':=hT.out;rw[Im,List.nil_append]at hT';have HE:=qz (show(⟨(Fi a).toArray⟩:ByteArray)=T from by rw[<-hT']);clear hT hT' ha1 hl;have h0:((a:Int)<0)=False:=by simp
    go_wp2;go_ret;exact⟨by rw[HE.out];rfl,rfl⟩
  . have hu1:((u:Int)==0)=false:=by simp;omega
    have hT':Hid (Fi (u / 10)++((⟨#[dgt (u % 10)]⟩:ByteArray)++T).data.toList=Fi a):=by
     have:=hT.out;rw[Lh hu0]at this;show _=_;rw[<-this,ByteArray.data_append,Array.toList_append];simp
    have hd:=Xx (u % 10) (by omega) w;have hm10:(u:Int) % 10=((u % 10:Nat):Int):=by omega
    have hq10:(u:Int) / 10=((u / 10:Nat):Int):=by omega
    have hlt:u % 10<10:=by omega
    have hqu:u / 10<u:=by omega
    generalize u % 10=d at*
    generalize u / 10=q at*
    have hdn:decide ((d:Int)<0)=false:=by simp
    clear hT ha1 hl;go_wp2
    go_round
    case rel=>exact⟨_,q,rfl,rfl,by omega,hT'⟩
    case measure=>simp[intOf];omega
set_option maxRecDepth 20000 in
theorem Aed (a:Nat) (ha:a≠0) (hm:(a:Int)<=9223372036854775808) (n:Int) (hn:n= -(a:Int)) (w:World):
 Calls Tryz.prog 81 #[.int .i64 n] w fun e w'=>e=.returned (.string ⟨(Lib.itoa n).toArray⟩)/\w=w':=by
 have hi:Lib.itoa n=45::Fi a:=by
  rw[Gz a ha,Lib.itoa,if_pos (by omega),hn];simp
 rw[hi];have hl:=Abh (u:=a) (by omega);have H0:Hid (Fi a++(⟨#[]⟩:ByteArray).data.toList=Fi a):=by show _=_;simp
 have Hn:=qz hn;have hn1:(n==0)=false:=by simp;omega
 have hn2:n<0:=by omega
 clear hi hn;go_enter Tryz.func81,Tryz.ntmps81;go_wp2
 go_loop [3,4] (fun s m=> ∃(T:ByteArray) (M:Int) (u:Nat),s=.string T/\m=.int .i64 M/\Hid (M= -(u:Int))/\u<=a/\Hid (Fi u++T.data.toList=Fi a)) (fun _ m=>(-(intOf m)).toNat)
 case atStart=>exact⟨_,n,a,rfl,rfl,Hn,Nat.le_refl _,H0⟩
 case round=>
  obtain⟨T,M,u,rfl,rfl,hM,hu,hT⟩:=hrel;clear H0;have hTs:T.size<=30:=by
   have h1:=congrArg List.length hT.out;rw[List.length_append]at h1;have h2:T.data.toList.length=T.size:=by rw[Array.length_toList];rfl
   omega
  have hMu:=hM.out;by_cases hu0:u=0
  . subst hu0;obtain rfl:M=0:=by simpa using hMu
    have hT':=hT.out;rw[Im,List.nil_append]at hT';have hE:(⟨(45::Fi a).toArray⟩:ByteArray)=⟨#[45]⟩++T:=by
     apply ByteArray.ext;rw[ByteArray.data_append];apply Array.ext';rw[Array.toList_append,hT'];simp
    have HE:=qz hE;clear hT hT' hE hn1 hl hM hMu;go_wp2;go_ret;exact⟨by rw[HE.out];rfl,rfl⟩
  . have hT':Hid (Fi (u / 10)++((⟨#[dgt (u % 10)]⟩:ByteArray)++T).data.toList=Fi a):=by
     have:=hT.out;rw[Lh hu0]at this;show _=_;rw[<-this,ByteArray.data_append,Array.toList_append];simp
    have hM1:(M==0)=false:=by simp;omega
    have hM2: -9223372036854775808<=M:=by omega
    have hM3:M<0:=by omega
    have hd:=Xx (u % 10) (by omega) w;obtain⟨D,hD⟩: ∃D,M.tmod 10=D:=⟨_,rfl⟩;obtain⟨Q,hQ⟩: ∃Q,M.tdiv 10=Q:=⟨_,rfl⟩;have hD':D= -((u % 10:Nat):Int):=by
     rw[<-hD,hMu,Int.neg_tmod,Int.tmod_eq_emod_of_nonneg (by omega)];omega
    have hQ':Q= -((u / 10:Nat):Int):=by
     rw[<-hQ,hMu,Int.neg_tdiv,Int.tdiv_eq_ediv_of_nonneg (by omega)];omega
    have hlt:u % 10<10:=by omega
    have hqu:u / 10<u:=by omega
    generalize u % 10=d at*
    generalize u / 10=q at*
    have HQ:=qz hQ';have hMQ:M<Q:=by omega
    have hQ1: -9223372036854775808<=Q:=by omega
    have hQ2:Q<=0:=by omega
    have hQ3:Q<=9223372036854775807:=by omega
    by_cases hd0:d=0
    . subst hd0;obtain rfl:D=0:=by simpa using hD'
      have hd1:(Instr.slice 9 (.string ⟨#[48,49,50,51,52,53,54,55,56,57]⟩) (some (.int .i64 0)) (some (.int .i64 1)) none).run Tryz.prog w=.ok (.string ⟨#[dgt 0]⟩) w:=hd;clear hT hn1 hl hM hD' hQ' hMu hd;go_wp2
      go_round
      case rel=>exact⟨_,Q,q,rfl,rfl,HQ,by omega,hT'⟩
      case measure=>simp only[intOf];omega
    . have hDn:D<0:=by omega
      have hDb: -10<D:=by omega
      have hDd: -D=(d:Int):=by omega
      clear hT hn1 hl hM hD' hQ';clear hMu;go_wp2
      go_round
      case rel=>exact⟨_,Q,q,rfl,rfl,HQ,by omega,hT'⟩
      case measure=>simp only[intOf];omega
theorem Yy (n:Int) (h1: -9223372036854775808<=n) (h2:n<=9223372036854775807) (w:World):
 Calls Tryz.prog 81 #[.int .i64 n] w fun e w'=>e=.returned (.string ⟨(Lib.itoa n).toArray⟩)/\w=w':=by
 by_cases h0:n=0
 . subst h0;have e:(⟨(Lib.itoa 0).toArray⟩:ByteArray)=⟨#[48]⟩:=by
    have:Lib.itoa 0= [48]:=by
     rw[Lib.itoa,if_neg (by omega)];exact Lib.decDigits_one (i:=0) (by omega)
    rw[this]
   rw[e];go_enter Tryz.func81,Tryz.ntmps81;go_wp2;go_ret;exact⟨rfl,rfl⟩
 . rcases Int.lt_or_le n 0 with h|h
   . exact Aed n.natAbs (by omega) (by omega) n (by omega) w
   . have:=Aee n.toNat (by omega) (by omega) w
     rwa [show((n.toNat:Nat):Int)=n from by omega]at this
def Uc:List UInt8:= [34,92,47,98,102,110,114,116]
theorem Vw: ∀j:Fin 8,j.val≠2->Ai ((L6.getD j.val 0).toNat)= [92,Uc.getD j.val 0]:=by decide
def Rm (r:Nat) (j:Nat):Prop:= ∀i:Nat,i<j->i≠2->L6.getD i 0≠(r:Int)
theorem Rm.all {r:Nat} (h:Rm r 8):r≠34/\r≠92/\r≠8/\r≠12/\r≠10/\r≠13/\r≠9:=by
 have h0:=h 0 (by omega) (by omega);have h1:=h 1 (by omega) (by omega);have h3:=h 3 (by omega) (by omega);have h4:=h 4 (by omega) (by omega);have h5:=h 5 (by omega) (by omega);have h6:=h 6 (by omega) (by omega);have h7:=h 7 (by omega) (by omega);simp[L6]at h0 h1 h3 h4 h5 h6 h7;omega
theorem Zx {r:Nat} (h:Rm r 8):Ai r=if r<32 then [92,117,48,48,Mb (r / 16),Mb (r % 16)]else Lib.encodeRune r:=by
 obtain⟨a1,a2,a3,a4,a5,a6,a7⟩:=h.all;unfold Ai;by_cases h32:r<32
 . rw[if_neg (by omega),if_pos h32];have:D6 (r:Int) B3=none:=by
    simp only[B3,D6]
    repeat rw[if_neg (by omega)]
   rw[this]
 . rw[if_pos (by omega),if_neg h32]
theorem Rm.step {r j:Nat} (h:Rm r j) (hj:j=2\/L6.getD j 0≠(r:Int)):Rm r (j+1):=by
 intro i hi h2;by_cases he:i=j
 . subst he;rcases hj with hj|hj
   . exact absurd hj h2
   . exact hj
 . exact h i (by omega) h2
def Dc (r:Nat):Prop:=r<=1114111/\ ¬(55296<=r/\r<57344)
theorem Aas (F:Option Int) (n:Nat) (least:Int):(Dq F n least).2=0\/((Dq F n least).1<=1114111/\ ¬(55296<=(Dq F n least).1/\(Dq F n least).1<57344)):=by
 unfold Dq
 split
 . simp
 . split
   . simp
   . rename_i h
     right
     simp only;omega
theorem Lz (rest:List UInt8) (n:Nat) (r0 least:Int):(Ci rest n r0 least).2=0\/((Ci rest n r0 least).1<=1114111/\ ¬(55296<=(Ci rest n r0 least).1/\(Ci rest n r0 least).1<57344)):=by
 unfold Ci
 split
 . exact .inl rfl
 . exact Aas _ _ _
theorem Pt (l:List UInt8):(Gl l).2=0\/((Gl l).1<=1114111/\ ¬(55296<=(Gl l).1/\(Gl l).1<57344)):=by
 cases l with
 |nil=>exact .inl rfl
 |cons c rest=>
  rw[Gt];by_cases h1:(c.toNat:Int)<128
  . rw[if_pos h1]
    right
    simp only;omega
  rw[if_neg h1]
  split
  . exact Lz _ _ _ _
  split
  . exact Lz _ _ _ _
  split
  . exact Lz _ _ _ _
  . exact .inl rfl
theorem Dw: ∀(n:Nat) (l:List UInt8) (p:Nat),∀x ∈ Ax n l p,Dc x.2
 |0,_,_,x,hx=>by simp[Ax]at hx
 |n+1,l,p,x,hx=>by
  by_cases h:l= []
  . subst h;simp[Ax]at hx
  . rcases Nj h n p with⟨_,e⟩|⟨m,r,hn,h1,_,e⟩
    . rw[e]at hx
      cases hx
    . rw[e]at hx;rcases List.mem_cons.1 hx with rfl|hx
      . have:=Pt l;rw[hn]at this;unfold Dc;simp only at this ⊢;omega
      . exact Dw n _ _ x hx
theorem Agx (d:Nat) (hd:d<16) (w:World):(Instr.slice 9 (.string ⟨#[48,49,50,51,52,53,54,55,56,57,97,98,99,100,101,102]⟩) (some (.int .i64 d)) (some (.int .i64 ((d:Int)+1))) none).run Tryz.prog w=.ok (.string ⟨#[Mb d]⟩) w:=by
 have:=Z4 ⟨#[48,49,50,51,52,53,54,55,56,57,97,98,99,100,101,102]⟩ d (d+1) (by omega) (by show d+1<=16;omega) w;have e: ∀d:Fin 16,(⟨#[48,49,50,51,52,53,54,55,56,57,97,98,99,100,101,102]⟩:ByteArray).extract d.val (d.val+1)=⟨#[Mb d.val]⟩:=by decide
 rw[e ⟨d,hd⟩]at this;exact this
theorem Am9 (d:Nat) (hd:d<8) (w:World):(Instr.slice 9 (.string ⟨#[34,92,47,98,102,110,114,116]⟩) (some (.int .i64 d)) (some (.int .i64 ((d:Int)+1))) none).run Tryz.prog w=.ok (.string ⟨#[Uc.getD d 0]⟩) w:=by
 have:=Z4 ⟨#[34,92,47,98,102,110,114,116]⟩ d (d+1) (by omega) (by show d+1<=8;omega) w;have e: ∀d:Fin 8,(⟨#[34,92,47,98,102,110,114,116]⟩:ByteArray).extract d.val (d.val+1)=⟨#[Uc.getD d.val 0]⟩:=by decide
 rw[e ⟨d,hd⟩]at this;exact this
theorem Ss (r:Int):(Lib.encodeRune r).length<=4:=by
 unfold Lib.encodeRune Lib.encodeRuneZ
 repeat' split
 all_goals simp
theorem Pq (s:ByteArray) (w:World) (hs:s.size<=1000000000) (hv:A9 s=true):
 Calls Tryz.prog 82 #[.string s] w fun e w'=>e=.returned (.tuple #[.string ⟨(Bl s).toArray⟩,.int .i64 0])/\Below w.heap.size w w':=by
 have cV:=Pr s w hs;rw[hv]at cV;have HR:=qz (Yl s w hs);have hlr:(Bw s).length<=s.size:=Ge _ _ _;have HS:Hid (∀x ∈ Bw s,Dc x.2):=Dw _ _ _;unfold Bl;generalize Bw s=L at*
 have HV:=qz cV;clear cV hv;go_enter Tryz.func82,Tryz.ntmps82;go_wp2_with (fail);(with_reducible refine HV.out.mono ?_);rintro e w' ⟨rfl,rfl⟩;clear HV;go_wp2_with (fail);(with_reducible refine HR.out.mono ?_);rintro e w1 ⟨⟨v1,v2,rfl,hown⟩,hb1⟩;clear HR;obtain⟨la,lc,rfl,hcells⟩: ∃la lc,v1=.slice la L.length lc/\Hid (∀(k:Nat) (x:Nat×Nat),L[k]? =some x-> ∃g off,la=some ⟨g,off,none⟩/\g<w1.heap.size/\w1.cell? ⟨g,off+k,none⟩=some (.int .i64 x.2)):=by
  rcases hown.2 with⟨hv,hz⟩|⟨g,cap,cur,rfl,hbg,hg,hnc,hcm,hcs,htake⟩
  . have hL:L= []:=List.length_eq_zero_iff.1 hz;subst hL;exact⟨none,0,hv,fun k x hx=>by simp at hx⟩
  . refine⟨some ⟨g,0,none⟩,cap,rfl,fun k x hx=>⟨g,0,rfl,(Array.getElem?_eq_some_iff.1 hg).1, ?_⟩⟩;have:=hown.cells (g:=g) rfl k (.int .i64 x.2) (by simp[hx]);rw[Go.WideShapes.add_plain,Nat.zero_add]at this;rw[Nat.zero_add];exact this
 have hb1':=qz hb1;have H0:Hid ((⟨#[34]⟩:ByteArray).data.toList=34::Ae (L.take 0)):=by show _=_;simp[Ae]
 clear hown hb1;go_wp2_with (fail);go_loopw [4,8] (fun o i wr=> ∃(T:ByteArray) (k:Nat),o=.string T/\i=.int .i64 k/\k<=L.length/\Hid (T.data.toList=34::Ae (L.take k))/\Hid (Below w1.heap.size w1 wr)) (fun _ i _=>L.length - (intOf i).toNat)
 case atStart=>exact⟨_,0,rfl,rfl,Nat.zero_le _,H0,Below.refl _ _⟩
 case round=>
  obtain⟨T,k,rfl,rfl,hk,hT,hbw⟩:=hrel;clear H0;obtain⟨wo,rfl⟩: ∃wo:World,wo=wr:=⟨_,rfl⟩;have hTs:T.size<=6*L.length+1:=by
   have h1:=congrArg List.length hT.out;have h2:=G6 (L.take k);have h3:(L.take k).length<=L.length:=by rw[List.length_take];omega
   have h4:T.data.toList.length=T.size:=by rw[Array.length_toList];rfl
   simp only[List.length_cons]at h1;omega
  by_cases hlt:k<L.length
  . obtain⟨⟨p,r⟩,hx⟩: ∃v,L[k]? =some v:=⟨_,List.getElem?_eq_getElem hlt⟩;obtain⟨g,off,rfl,hg,hc0⟩:=hcells.out k _ hx;have hc:wo.cell? ⟨g,off+k,none⟩=some (.int .i64 r):=(hbw.out.cell (p:=⟨g,off+k,none⟩) hg).trans hc0;have hsc:=HS.out _ (List.mem_of_getElem? hx);unfold Dc at hsc;simp only at hsc;obtain⟨hsc1,hsc2⟩:=hsc;have htk:L.take (k+1)=L.take k++ [(p,r)]:=by rw[List.take_add_one,hx];rfl
    have hsn:Hid (34::Ae (L.take (k+1))=T.data.toList++Ai r):=by
     show _=_;rw[htk,hT.out];simp[Ae]
    have Hsc:=qz hsc2;have hB0:Hid (Below w1.heap.size w1 wo):=hbw;have hN0:Hid (Rm r 0):=fun i hi=>by omega
    clear hT htk hx hc0 hsc2 hbw;go_wp2_with (fail);go_loopw [10] (fun j wr=> ∃n:Nat,j=.int .i64 n/\n<=8/\Hid (Rm r n)/\Hid (Below w1.heap.size w1 wr)) (fun j _=>8 - (intOf j).toNat)
    case atStart=>exact⟨0,rfl,by omega,hN0,hB0⟩
    case round=>
     obtain⟨n,rfl,hn,hno,hbw⟩:=hrel;clear hN0 hB0;rcases(by omega:n=2\/(n≠2/\n<8)\/n=8)with rfl|⟨hn2,hn8⟩|rfl
     . have hno':=qz (hno.out.step (.inl rfl));clear hno hsn hc;go_wp2_with (fail);go_roundw
       case rel=>exact⟨2+1,rfl,by omega,hno',hbw⟩
       case measure=>simp[intOf]
     . obtain⟨c,hcc⟩: ∃c,L6[n]? =some c:=⟨_,List.getElem?_eq_getElem hn8⟩;have hcd:L6.getD n 0=c:=by simp[List.getD,hcc]
       have cC:=qz (Aan n c hcc wr);have hn2':((n:Int)==2)=false:=by simp;omega
       by_cases hcr:c=(r:Int)
       . have hq:Ai r= [92,Uc.getD n 0]:=by
          have:=Vw ⟨n,hn8⟩ hn2;simp only[hcd,hcr,Int.toNat_natCast]at this;exact this
         rw[hq]at hsn;subst hcr;have hlet:=fun w=>Am9 n hn8 w;generalize Uc.getD n 0=c8 at hsn hlet;have hT':Hid ((T++⟨#[92]⟩++⟨#[c8]⟩).data.toList=34::Ae (L.take (k+1))):=by
          show _=_;rw[hsn.out,ByteArray.data_append,Array.toList_append,ByteArray.data_append,Array.toList_append];simp
         clear hno hsn hcc hcd hc hq;go_wp2_with (fail);(with_reducible refine cC.out.mono ?_);rintro e w2 ⟨rfl,hb2⟩;have hbw2:=qz (hbw.out.trans (hb2.mono hbw.out.size));clear hb2 hbw cC;have hl2:=hlet w2;clear hlet;go_wp2;go_roundw
         case rel=>exact⟨_,k+1,rfl,by go_num,by omega,hT',hbw2⟩
         case measure=>simp only[intOf];omega
       . have hno':=qz (hno.out.step (.inr (by rw[hcd];exact hcr)));have hcr1:(c==(r:Int))=false:=by simpa using hcr
         have hcr2:(c != (r:Int))=true:=by simpa using hcr
         clear hno hsn hcc hcd hc hcr;go_wp2_with (fail);(with_reducible refine cC.out.mono ?_);rintro e w2 ⟨rfl,hb2⟩;have hbw2:=qz (hbw.out.trans (hb2.mono hbw.out.size));clear hb2 hbw cC;go_wp2;go_roundw
         case rel=>exact⟨n+1,by go_num,by omega,hno',hbw2⟩
         case measure=>simp only[intOf];omega
     . have hq:=Zx hno.out;rw[hq]at hsn;clear hno hc hq;by_cases h32:r<32
       . rw[if_pos h32]at hsn;have hT':Hid ((T++⟨#[92,117,48,48]⟩++⟨#[Mb (r / 16)]⟩++⟨#[Mb (r % 16)]⟩).data.toList=34::Ae (L.take (k+1))):=by
          show _=_;rw[hsn.out,ByteArray.data_append,Array.toList_append,ByteArray.data_append,Array.toList_append,ByteArray.data_append,Array.toList_append];simp
         have hx1:=fun w=>Agx (r / 16) (by omega) w;have hx2:=fun w=>Agx (r % 16) (by omega) w;have hq16:(r:Int) / 16=((r / 16:Nat):Int):=by omega
         have hm16:(r:Int) % 16=((r % 16:Nat):Int):=by omega
         have hq16':(r:Int).tdiv 16=((r / 16:Nat):Int):=by rw[Int.tdiv_eq_ediv_of_nonneg (by omega)];omega
         have hm16':(r:Int).tmod 16=((r % 16:Nat):Int):=by rw[Int.tmod_eq_emod_of_nonneg (by omega)];omega
         have hql:r / 16<2:=by omega
         have hml:r % 16<16:=by omega
         generalize Mb (r / 16)=e1 at*
         generalize Mb (r % 16)=e2 at*
         generalize r / 16=q at*
         generalize r % 16=m at*
         have hw1:IntKind.i64.wrap ((q:Int)+1)=(q:Int)+1:=IntWalk.i64_in _ (by omega);have hw2:IntKind.i64.wrap ((m:Int)+1)=(m:Int)+1:=IntWalk.i64_in _ (by omega);clear hsn;go_wp2_with (fail);go_quiet (fail);have hbw2:=qz (Bx hbw.out nq);clear hx1 hx2 hq16 hm16 hq16' hm16' hw1 hw2 hbw;go_wp2;go_roundw
         case rel=>exact⟨_,k+1,rfl,by go_num,by omega,hT',hbw2⟩
         case measure=>simp only[intOf];omega
       . rw[if_neg h32]at hsn;have cB:=qz (Yk r (by omega) (by omega) (by have:=Hsc.out;omega) wr);have hel:(Lib.encodeRune (r:Int)).length<=4:=Ss r;obtain⟨X,hX⟩: ∃X:ByteArray,(⟨(Lib.encodeRune (r:Int)).toArray⟩:ByteArray)=X:=⟨_,rfl⟩;have hXs:X.size<=4:=by rw[<-hX];exact hel
         have hT':Hid ((T++X).data.toList=34::Ae (L.take (k+1))):=by
          show _=_;rw[hsn.out,ByteArray.data_append,Array.toList_append,<-hX]
         rw[hX]at cB;clear hsn hel hX;go_wp2_with (fail);(with_reducible refine cB.out.mono ?_);rintro e w2 ⟨rfl,hb2⟩;have hbw2:=qz (hbw.out.trans (hb2.mono hbw.out.size));clear hb2 hbw cB;go_wp2;go_roundw
         case rel=>exact⟨_,k+1,rfl,by go_num,by omega,hT',hbw2⟩
         case measure=>simp only[intOf];omega
  . obtain rfl:k=L.length:=by omega
    have hT':=hT.out;rw[List.take_length]at hT';have hE:(⟨(34::(Ae L++ [34])).toArray⟩:ByteArray)=T++⟨#[34]⟩:=by
     apply ByteArray.ext;rw[ByteArray.data_append];apply Array.ext';rw[Array.toList_append,hT'];simp
    have HE:=qz hE;clear hT hT' hE;go_wp2;go_ret2;exact⟨by rw[HE.out];rfl,hb1'.out.trans (hbw.out.mono hb1'.out.size)⟩
mutual
def Ev:Val->Nat
 | .mk k _ _ _ l o=>1+(if k=5 then E7 l else if k=6 then Ja o else 0)
def E7:List Val->Nat
 | []=>0
 |v::r=>max (Ev v) (E7 r)
def Ja:List (ByteArray×Val)->Nat
 | []=>0
 |p::r=>max (Abc p) (Ja r)
def Abc:ByteArray×Val->Nat
 |(_,v)=>Ev v
end
theorem P1: ∀(l:List Val),(∀v ∈ l,Ev v<=v.bulk)->E7 l<=Bf l
 | [],_=>by simp[E7]
 |v::r,h=>by
  have h1:=h v (by simp);have h2:=P1 r (fun x hx=>h x (by simp[hx]));simp only[E7,Bf];omega
theorem Tp: ∀(l:List (ByteArray×Val)),(∀m ∈ l,Ev m.2<=m.2.bulk)->Ja l<=Ab l
 | [],_=>by simp[Ja]
 |(k,v)::r,h=>by
  have h1:=h (k,v) (by simp);have h2:=Tp r (fun x hx=>h x (by simp[hx]));simp only[Ja,Abc,Ab,Ic];simp only at h1;omega
theorem Lg: ∀v:Val,Ev v<=v.bulk:=by
 refine Val.ind ?_;intro k b n t l o hl ho;have h1:=P1 l hl;have h2:=Tp o ho;simp only[Ev,Val.bulk]
 split
 . omega
 split<;>omega
def Ajb (v:Val):Prop:= ∀(cs:List Value) (w:World),Ac w w.heap.size v cs->v.bulk<=100000000->
    Calls Tryz.prog 135 #[.agg cs.toArray] w fun e w'=>e=.returned (.int .i64 (Ev v))/\Below w.heap.size w w'
theorem Ahf (b:Bool) (n:Int) (t:ByteArray) (l:List Val) (on:Nat) (IH: ∀v ∈ l,Ajb v) (la oa:Option Addr) (oc lc:Nat) (w:World) (hl:l= []\/ ∃g off,la=some ⟨g,off,none⟩/\g<w.heap.size/\Ao w w.heap.size l g off)
 (hb:Bf l<=100000000):
 Calls Tryz.prog 135 #[.agg #[.int .i64 5,.bool b,.int .i64 n,.string t,.slice la l.length lc,.slice oa on oc]] w fun e w'=>e=.returned (.int .i64 (1+(E7 l:Int)))/\Below w.heap.size w w':=by
 have hln:=Dt l;have hdl:=P1 l (fun v _=>Lg v);obtain⟨M,hM⟩: ∃M,E7 l=M:=⟨_,rfl⟩;rw[hM]at hdl ⊢;have H0:Hid (max 0 (E7 (l.drop 0))=M):=by show _=_;rw[List.drop_zero,hM];simp
 have HI:=qz IH;clear IH hM;go_enter Tryz.func135,Tryz.ntmps135;go_wp2_with (fail);have HB1:Hid (Below w.heap.size w (w.alloc (.cells #[.int .i64 5,.bool b,.int .i64 n,.string t,.slice la l.length lc,.slice oa on oc] 37))):=(Below.refl _ _).alloc (Nat.le_refl _) _;go_loopw [3,15] (fun m i wr=> ∃D k:Nat,m=.int .i64 D/\i=.int .i64 k/\k<=l.length/\Hid (max D (E7 (l.drop k))=M)/\D<=M/\Hid (Below w.heap.size w wr)) (fun _ i _=>l.length - (intOf i).toNat)
 case atStart=>exact⟨0,0,rfl,rfl,Nat.zero_le _,H0,Nat.zero_le _,HB1⟩
 case round=>
  obtain⟨D,k,rfl,rfl,hk,hD,hDM,hbw⟩:=hrel;clear H0 HB1;by_cases hlt:k<l.length
  . obtain⟨g,off,rfl,hg,hL⟩: ∃g off,la=some ⟨g,off,none⟩/\g<w.heap.size/\Ao w w.heap.size l g off:=by
     rcases hl with rfl|h
     . simp at hlt
     . exact h
    obtain⟨x,hx⟩: ∃v,l[k]? =some v:=⟨_,List.getElem?_eq_getElem hlt⟩;have hmem:x ∈ l:=List.mem_of_getElem? hx;have hbv:=D9 hmem;have hdv:=Lg x;have hdrop:l.drop k=x::l.drop (k+1):=Ds hx;have hD':=hD.out;rw[hdrop]at hD';simp only[E7]at hD';have IHx:=HI.out x hmem;have hz:=hbw.out.size;obtain⟨m,hm⟩: ∃m,Ev x=m:=⟨_,rfl⟩;obtain⟨k',b',n',t',l',o'⟩:=x;obtain⟨la',lc',oa',oc',hvs,c0,c1,c2,c3,c4,c5⟩:=(hL.below hg hbw.out).six hx;have CT:=IHx _ (wr.alloc (.cells #[.int .i64 k',.bool b',.int .i64 n',.string t',.slice la' l'.length lc',.slice oa' o'.length oc'] 37)) (Ac.more (by simp;omega) _ _ (hvs.below ((Below.refl _ _).alloc hz _))) (by omega);rw[hm]at CT hD' hdv;have hCT:=qz CT;have Hn:Hid (max (max D m) (E7 (l.drop (k+1)))=M):=by show _=_;omega
    have hmM:max D m<=M:=by omega
    have hbA:Hid (Below w.heap.size w (wr.alloc (.cells #[.int .i64 k',.bool b',.int .i64 n',.string t',.slice la' l'.length lc',.slice oa' o'.length oc'] 37))):=hbw.out.alloc hz _;clear CT hD hD' hdrop IHx hm hvs hx hmem hL hg hdv hbv;by_cases hgt:D<m
    . have e1:max D m=m:=by omega
      rw[e1]at Hn hmM;clear e1;go_wp2_with (fail);(with_reducible refine hCT.out.mono ?_);rintro e w4 ⟨rfl,hb4⟩;have hbw4:=qz (hbA.out.trans (hb4.mono hbA.out.size));clear hb4 hbw hbA hCT;go_wp2;go_roundw
      case rel=>exact⟨m,k+1,by congr 1;omega,by go_num,by omega,Hn,hmM,hbw4⟩
      case measure=>simp only[intOf];omega
    . have e1:max D m=D:=by omega
      rw[e1]at Hn hmM;clear e1;go_wp2_with (fail);(with_reducible refine hCT.out.mono ?_);rintro e w4 ⟨rfl,hb4⟩;have hbw4:=qz (hbA.out.trans (hb4.mono hbA.out.size));clear hb4 hbw hbA hCT;go_wp2;go_roundw
      case rel=>exact⟨D,k+1,by congr 1;omega,by go_num,by omega,Hn,hmM,hbw4⟩
      case measure=>simp only[intOf];omega
  . obtain rfl:k=l.length:=by omega
    have hD':=hD.out;rw[List.drop_length]at hD';simp only[E7]at hD';obtain rfl:D=M:=by omega
    clear hD hD' hl;go_wp2;go_ret;exact⟨rfl,hbw.out⟩
theorem Aj2 (b:Bool) (n:Int) (t:ByteArray) (l:List (ByteArray×Val)) (ln:Nat) (IH: ∀m ∈ l,Ajb m.2) (la oa:Option Addr) (oc lc:Nat) (w:World) (hl:l= []\/ ∃g off,oa=some ⟨g,off,none⟩/\g<w.heap.size/\Ap w w.heap.size l g off)
 (hb:Ab l<=100000000):
 Calls Tryz.prog 135 #[.agg #[.int .i64 6,.bool b,.int .i64 n,.string t,.slice la ln lc,.slice oa l.length oc]] w fun e w'=>e=.returned (.int .i64 (1+(Ja l:Int)))/\Below w.heap.size w w':=by
 have hln:=Bc l;have hdl:=Tp l (fun m _=>Lg m.2);obtain⟨M,hM⟩: ∃M,Ja l=M:=⟨_,rfl⟩;rw[hM]at hdl ⊢;have H0:Hid (max 0 (Ja (l.drop 0))=M):=by show _=_;rw[List.drop_zero,hM];simp
 have HI:=qz IH;clear IH hM;go_enter Tryz.func135,Tryz.ntmps135;go_wp2_with (fail);have HB1:Hid (Below w.heap.size w (w.alloc (.cells #[.int .i64 6,.bool b,.int .i64 n,.string t,.slice la ln lc,.slice oa l.length oc] 37))):=(Below.refl _ _).alloc (Nat.le_refl _) _;go_loopw [3,29] (fun m i wr=> ∃D k:Nat,m=.int .i64 D/\i=.int .i64 k/\k<=l.length/\Hid (max D (Ja (l.drop k))=M)/\D<=M/\Hid (Below w.heap.size w wr)) (fun _ i _=>l.length - (intOf i).toNat)
 case atStart=>exact⟨0,0,rfl,rfl,Nat.zero_le _,H0,Nat.zero_le _,HB1⟩
 case round=>
  obtain⟨D,k,rfl,rfl,hk,hD,hDM,hbw⟩:=hrel;clear H0 HB1;by_cases hlt:k<l.length
  . obtain⟨g,off,rfl,hg,hL⟩: ∃g off,oa=some ⟨g,off,none⟩/\g<w.heap.size/\Ap w w.heap.size l g off:=by
     rcases hl with rfl|h
     . simp at hlt
     . exact h
    obtain⟨⟨key,x⟩,hx⟩: ∃v,l[k]? =some v:=⟨_,List.getElem?_eq_getElem hlt⟩;have hmem:(key,x) ∈ l:=List.mem_of_getElem? hx;have hbv:=Bz hmem;simp only at hbv;have hdv:=Lg x;have hdrop:l.drop k=(key,x)::l.drop (k+1):=Ds hx;have hD':=hD.out;rw[hdrop]at hD';simp only[Ja,Abc]at hD';have IHx:=HI.out _ hmem;have hz:=hbw.out.size;obtain⟨m,hm⟩: ∃m,Ev x=m:=⟨_,rfl⟩;obtain⟨k',b',n',t',l',o'⟩:=x;obtain⟨la',lc',oa',oc',hvs,c0,c1,c2,c3,c4,c5,c6⟩:=(hL.below hg hbw.out).seven hx;have CT:=IHx _ (wr.alloc (.cells #[.string key,.int .i64 k',.bool b',.int .i64 n',.string t',.slice la' l'.length lc',.slice oa' o'.length oc'] 94)) (Ac.more (by simp;omega) _ _ (hvs.below ((Below.refl _ _).alloc hz _))) (show(Val.mk k' b' n' t' l' o').bulk<=100000000 from by omega);simp only[hm]at CT;rw[hm]at hD' hdv;have hCT:=qz CT;have Hn:Hid (max (max D m) (Ja (l.drop (k+1)))=M):=by show _=_;omega
    have hmM:max D m<=M:=by omega
    have hbA:Hid (Below w.heap.size w (wr.alloc (.cells #[.string key,.int .i64 k',.bool b',.int .i64 n',.string t',.slice la' l'.length lc',.slice oa' o'.length oc'] 94))):=hbw.out.alloc hz _;clear CT hD hD' hdrop IHx hm hvs hx hmem hL hg hdv hbv;have Hmx:=qz (show max (D:Int) (m:Int)=((max D m:Nat):Int)from by omega);generalize max D m=Dm at*
    go_wp2_with (fail);(with_reducible refine hCT.out.mono ?_);rintro e w4 ⟨rfl,hb4⟩;have hbw4:=qz (hbA.out.trans (hb4.mono hbA.out.size));clear hb4 hbw hbA hCT;go_wp2;go_roundw
    case rel=>exact⟨Dm,k+1,by rw[Hmx.out],by go_num,by omega,Hn,hmM,hbw4⟩
    case measure=>simp only[intOf];omega
  . obtain rfl:k=l.length:=by omega
    have hD':=hD.out;rw[List.drop_length]at hD';simp only[Ja]at hD';obtain rfl:D=M:=by omega
    clear hD hD' hl;go_wp2;go_ret;exact⟨rfl,hbw.out⟩
theorem Ad8: ∀v,Ajb v:=by
 refine Val.ind ?_;intro k b n t l o IHl IHo cs w hV hb;simp only[Ac]at hV;obtain⟨la,lc,oa,oc,rfl,hla,hoa⟩:=hV;simp only[Val.bulk]at hb;by_cases h5:k=5
 . subst h5;have:=Ahf b n t l o.length IHl la oa oc lc w hla (by omega);simpa[Ev]using this
 by_cases h6:k=6
 . subst h6;have:=Aj2 b n t o l.length IHo la oa oc lc w hoa (by omega);simpa[Ev]using this
 have e:Ev (.mk k b n t l o)=1:=by simp[Ev,h5,h6]
 rw[e];have e5:(k==5)=false:=by simpa using h5
 have e6:(k==6)=false:=by simpa using h6
 clear e IHl IHo hla hoa hb h5 h6;go_enter Tryz.func135,Tryz.ntmps135;go_wp2;go_ret;exact⟨rfl,(Below.refl _ _).alloc (Nat.le_refl _) _⟩
end Go.Proofs.YtkmcjfkokoidcaaGreatDoor
namespace Go.Proofs.YtkmcjfkokoidcaaGreatDoor
theorem Qa {k a:ByteArray} {x:Val} {r:List A5} (h:Dp a k=true):Cb k ((a,x)::r)=Cb k r/\Do k ((a,x)::r)=Do k r+1:=by
 have e:Do k ((a,x)::r)=Do k r+1:=by simp only[Do,if_pos h]
 refine⟨?_,e⟩;unfold Cb;rw[e,List.getElem?_cons_succ]
theorem Qi (k:ByteArray) (v:Val): ∀l:List A5,Cf k v l=if Cb k l=true then l.set (Do k l) (k,v)else l.take (Do k l)++ [(k,v)]++l.drop (Do k l)
 | []=>by simp[Cf,Do,Cb]
 |(a,x)::r=>by
  simp only[Cf];by_cases h:Dp a k=true
  . obtain⟨e1,e2⟩:=Qa (x:=x) (r:=r) h;rw[if_pos h,Qi k v r,e1,e2];by_cases hh:Cb k r=true
    . rw[if_pos hh,if_pos hh,tk6]
    . rw[if_neg hh,if_neg hh];simp
  . have e:Do k ((a,x)::r)=0:=by simp only[Do,if_neg h]
    have eh:Cb k ((a,x)::r)=(a.toList==k.toList):=by unfold Cb;rw[e];rfl
    rw[if_neg h,e,eh];by_cases hk:a=k
    . subst hk;rw[if_pos rfl,if_pos (by simp)];rfl
    . rw[if_neg hk,if_neg fun e=>hk (Gr (by simpa using e))];rfl
theorem O0 (k:ByteArray) (v:Val): ∀l:List A5,Ab (Cf k v l)<=Ab l+Ab [(k,v)]
 | []=>by simp[Cf,Ab]
 |(a,x)::r=>by
  have ih:=O0 k v r;simp only[Cf]
  split
  . simp only[Ab]at ih ⊢;omega
  . split
    . simp only[Ab]at ih ⊢;omega
    . simp only[Ab]at ih ⊢;omega
def Jd (h:Nat) (ks:List Nd) (k:ByteArray) (v:Val):List Nd:=
 ks.take (An ks k)++(C8 h (ks.getD (An ks k) (.leaf [])) k v).1::((C8 h (ks.getD (An ks k) (.leaf [])) k v).2.toList++ks.drop (An ks k+1))
theorem Akt {h lo:Nat} {ks:List Nd} (k:ByteArray) (v:Val) (hlo:2<=lo) (hn:Co lo (h+1) (.inner ks)) (ha:Ay (Bg ks)):
 ∃x,ks[An ks k]? =some x/\ks.getD (An ks k) (.leaf [])=x/\Co 4 h x/\Ay (Bi x)/\(Bi x).length<=(Bg ks).length/\Ab (Bi x)<=Ab (Bg ks)/\
  Bg (Jd h ks k v)=Cf k v (Bg ks)/\(∀y ∈ Jd h ks k v,Co 4 h y)/\2<=(Jd h ks k v).length/\(Jd h ks k v).length<=9:=by
 simp only[Co]at hn;obtain⟨h2,h8,hk⟩:=hn;have hne:ks≠ []:=by intro e;rw[e]at h2;simp at h2;omega
 obtain⟨A,x,C,e,hA,hlow,hhi⟩:=H9 (k:=k) hne hk ha;have hx:Co 4 h x:=hk x (by rw[e];simp);have hax:Ay (Bi x):=by
  have ha':Ay (Bg ks):=ha;rw[e,Be]at ha';have:=(List.pairwise_append.1 ha').2.1;simp only[Bg]at this;exact(List.pairwise_append.1 this).1
 obtain⟨i1,i2,i3⟩:=Qs h (k:=k) (v:=v) (Nat.le_refl 4) (.inl (by omega)) (fun _=>by omega) hx hax;have eg:ks.getD (An ks k) (.leaf [])=x:=by rw[<-hA,e];simp
 have eq:ks[An ks k]? =some x:=by rw[<-hA,e];simp
 have et:ks.take (An ks k)=A:=by rw[<-hA,e];simp
 have ed:ks.drop (An ks k+1)=C:=by rw[<-hA,e];simp
 have hlen:ks.length=A.length+1+C.length:=by rw[e];simp;omega
 have hR:(C8 h x k v).2.toList.length<=1:=by cases (C8 h x k v).2<;>simp
 have hfl:Bg ks=Bg A++(Bi x++Bg C):=by rw[e,Be];simp[Bg]
 have hW:Jd h ks k v=A++(C8 h x k v).1::((C8 h x k v).2.toList++C):=by
  unfold Jd;rw[eg,et,ed]
 refine⟨x,eq,eg,hx,hax,by rw[hfl];simp;omega,by rw[hfl,Da,Da];omega, ?_,fun y hy=> ?_,by rw[hW];simp;omega,by rw[hW];simp;omega⟩
 . rw[hW,Be];simp only[Bg,Be];have i1':Bi (C8 h x k v).1++Bg (C8 h x k v).2.toList=Cf k v (Bi x):=i1;rw[<-List.append_assoc (Bi (C8 h x k v).1),i1',hfl,Qh hlow,Rg hhi]
 . rw[hW]at hy;rcases List.mem_append.1 hy with hy|hy
   . exact hk y (by rw[e];simp[hy])
   rcases List.mem_cons.1 hy with rfl|hy
   . exact i2
   rcases List.mem_append.1 hy with hy|hy
   . exact(i3 y (by simpa using hy)).2
   . exact hk y (by rw[e];simp[hy])
end Go.Proofs.YtkmcjfkokoidcaaGreatDoor
