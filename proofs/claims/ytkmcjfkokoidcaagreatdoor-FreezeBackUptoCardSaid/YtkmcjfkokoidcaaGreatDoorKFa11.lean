/- Parts: Digits, and what strconv.ParseInt says of them. Plain. No condition. -/
import Derived.Lib.ItoaLen
import Derived.Lib.ParseIntBCases
import Derived.Test.YtkmcjfkokoidcaaGreatDoorKFa5
import Derived.Test.YtkmcjfkokoidcaaGreatDoorKFa6
import Derived.Test.YtkmcjfkokoidcaaGreatDoorKFa7
set_option maxHeartbeats 20000000
set_option maxRecDepth 100000
namespace Go.Proofs.YtkmcjfkokoidcaaGreatDoor
open Go Go.RowKit
abbrev Bk:Array Value:= #[.int .i64 0,.bool false,.int .i64 0,.string ⟨#[]⟩,.slice none 0 0,.slice none 0 0]
theorem G7 {B:Nat} {w4:World} {k:Int} {b:Bool} {n:Int} {t:ByteArray} {l:List Val} {o:List (ByteArray×Val)} {cs:List Value} (h:Ch B w4 (dV (.mk k b n t l o)) cs): ∃la lc oa oc,cs= [.int .i64 k,.bool b,.int .i64 n,.string t,.slice la l.length lc,.slice oa o.length oc]:=by
 have h1:=Cg _ _ h.now;simp only[Ac]at h1;obtain⟨la,lc,oa,oc,e,_,_⟩:=h1;exact⟨la,lc,oa,oc,e⟩
theorem Bp {w:World} {g:Nat} {t:TypeId} {a0 a1 a2 a3 a4 a5:Value} (h:Aj w g t #[a0,a1,a2,a3,a4,a5]):
 w.cell? ⟨g,0,none⟩=some a0/\w.cell? ⟨g,1,none⟩=some a1/\w.cell? ⟨g,2,none⟩=some a2/\w.cell? ⟨g,3,none⟩=some a3/\w.cell? ⟨g,4,none⟩=some a4/\w.cell? ⟨g,5,none⟩=some a5:=
 ⟨h.cell 0,h.cell 1,h.cell 2,h.cell 3,h.cell 4,h.cell 5⟩
theorem Mz {B:Nat} {w:World} {key:ByteArray} {v:Val} {cs:List Value} (h:Ch B w (dV v) cs):Ch B w (dP (key,v)) (.string key::cs):=fun w'' h1 h2=>⟨[.string key],cs,rfl,⟨rfl,rfl⟩,cs, [],by simp,h w'' h1 h2,rfl⟩
theorem Ui:(Tryz.prog.info? 94).map (fun i=>(i.zero,i.size,i.bytes))=some (some (.agg #[.string ⟨#[]⟩,.int .i64 0,.bool false,.int .i64 0,.string ⟨#[]⟩,.slice none 0 0,.slice none 0 0]),7,104):=by kernel_rfl
theorem Cy {fn:Func} {t:Tmp} {tmps:Array Value} {W:World} {R:Nat} {a0 a1 a2 a3 a4 a5:Value} (h:fn.results= #[.cell t 37]) (hp:tmps.getD t undef=.pointer (some ⟨R,0,none⟩)) (hx:Aj W R 37 #[a0,a1,a2,a3,a4,a5]):
 (results fn tmps).run Tryz.prog W=.ok (.agg #[a0,a1,a2,a3,a4,a5]) W:=by
 obtain⟨c0,c1,c2,c3,c4,c5⟩:=Bp hx;clear hx;have hp':tmps[t]?.getD undef=.pointer (some ⟨R,0,none⟩):=by simpa using hp
 simp[results,h,hp',go_sem,c0,c1,c2,c3,c4,c5]
theorem E5.slice_n {b:Nat} {t:TypeId} {s n:Nat} {wr:World} {l:List D} {V:Value} (h:E5 b t s wr l V) (hn:l.length=n): ∃a c,V=.slice a n c:=by
 subst hn;exact h.slice
theorem Ff {w w6:World} {R b:Nat} {t e:TypeId} {sz:Nat} {l:List D} {V:Value} {cs:Array Value} {wr:World} (h:Aj w R t cs) (hg:w.grownBy w6 V.ownBlock) (hr:E5 b e sz wr l V) (hR:R<b):Aj w6 R t cs:=
 h.grown hg fun e=>by have:=(hr.base R e.symm).1;omega
theorem Ni (w:World) (a0 a1 a2 a3 a4 a5 a6:Value):Bu (w.alloc (.cells #[a0,a1,a2,a3,a4,a5,a6] 94)) (w.heap.size+1) 7 (some ⟨w.heap.size,0,none⟩) 1 [a0,a1,a2,a3,a4,a5,a6]:=F2 (Aj.new w 94 #[a0,a1,a2,a3,a4,a5,a6])
theorem Al0:(Tryz.prog.info? 37).map (fun i=>(i.zero,i.size,i.bytes))=some (some (.agg #[.int .i64 0,.bool false,.int .i64 0,.string ⟨#[]⟩,.slice none 0 0,.slice none 0 0]),6,88):=by kernel_rfl
theorem Rj (w:World) (a0 a1 a2 a3 a4 a5:Value):Bu (w.alloc (.cells #[a0,a1,a2,a3,a4,a5] 37)) (w.heap.size+1) 6 (some ⟨w.heap.size,0,none⟩) 1 [a0,a1,a2,a3,a4,a5]:=F2 (Aj.new w 37 #[a0,a1,a2,a3,a4,a5])
theorem C3 {fn:Func} {t u:Tmp} {tmps:Array Value} {W:World} {R:Nat} {a0 a1 a2 a3 a4 a5:Value} (h:fn.results= #[.cell t 37,.tmp u]) (hp:tmps.getD t undef=.pointer (some ⟨R,0,none⟩)) (hx:Aj W R 37 #[a0,a1,a2,a3,a4,a5]):
 (results fn tmps).run Tryz.prog W=.ok (.tuple #[.agg #[a0,a1,a2,a3,a4,a5],tmps.getD u undef]) W:=by
 obtain⟨c0,c1,c2,c3,c4,c5⟩:=Bp hx;clear hx;have hp':tmps[t]?.getD undef=.pointer (some ⟨R,0,none⟩):=by simpa using hp
 simp[results,h,hp',go_sem,c0,c1,c2,c3,c4,c5]
def Fl:ByteArray:=⟨#[]⟩
def Nb:Val:=.mk 1 false 0 Fl [] []
def Ia (b:Bool):Val:=.mk 2 b 0 Fl [] []
def Q5 (n:Int):Val:=.mk 3 false n Fl [] []
def Ade (l:List UInt8):Val:=.mk 4 false 0 ⟨l.toArray⟩ [] []
def Sv (l:List Val):Val:=.mk 5 false 0 Fl l []
def Rc (o:List (ByteArray×Val)):Val:=.mk 6 false 0 Fl [] o
def Rd.map {α β:Type} (g:α->β):Rd α->Rd β
 | .ok a q=> .ok (g a) q
 | .bad e q=> .bad e q
def Dh (s:List UInt8) (p:Nat) (w:List UInt8) (v:Val):Rd Val:=if w.isPrefixOf (s.drop p)=true then .ok v (p+w.length)else .bad 4 p
def G8 (l:List (ByteArray×Val)):List (ByteArray×Val):=(D8 l []).getD []
def Lj (k:ByteArray) (l:List (ByteArray×Val)):Bool:=l.any fun m=>decide (m.1=k)
def F3 (c:UInt8):Bool:=Dy c||c==45||c==34||c==91||c==123||c==110||c==116||c==102
mutual
def Cc:Nat->List UInt8->Nat->Int->Rd Val
 |0,s,p,_=> .bad 4 (Aq s p)
 |f+1,s,p,d=>match s[Aq s p]? with
  |none=> .bad 4 (Aq s p)
  |some c=>
   if F3 c=false then .bad 4 (Aq s p)
   else if 64<d then .bad 5 (Aq s p)
   else if c=91 then Ka f s (Aq s p) d
   else if c=123 then Oh f s (Aq s p) d
   else if c=34 then(Eg s (Aq s p)).map Ade
   else if c=110 then Dh s (Aq s p) [110,117,108,108] Nb
   else if c=116 then Dh s (Aq s p) [116,114,117,101] (Ia true)
   else if c=102 then Dh s (Aq s p) [102,97,108,115,101] (Ia false)
   else(Dg s (Aq s p)).map Q5
def Ka:Nat->List UInt8->Nat->Int->Rd Val
 |0,s,p,_=> .bad 4 (Aq s (p+1))
 |f+1,s,p,d=>if s[Aq s (p+1)]? =some 93 then .ok (Sv []) (Aq s (p+1)+1)else D7 f s (Aq s (p+1)) d []
def Oh:Nat->List UInt8->Nat->Int->Rd Val
 |0,s,p,_=> .bad 4 (Aq s (p+1))
 |f+1,s,p,d=>if s[Aq s (p+1)]? =some 125 then .ok (Rc []) (Aq s (p+1)+1)else By f s (Aq s (p+1)) d []
def D7:Nat->List UInt8->Nat->Int->List Val->Rd Val
 |0,s,p,_,_=> .bad 4 (Aq s p)
 |f+1,s,p,d,acc=>match Cc f s p (d+1)with
  | .bad e q=> .bad e q
  | .ok v q=>if s[Aq s q]? =some 44 then D7 f s (Aq s q+1) d (acc++ [v])else if s[Aq s q]? =some 93 then .ok (Sv (acc++ [v])) (Aq s q+1)else .bad 4 (Aq s q)
def By:Nat->List UInt8->Nat->Int->List (ByteArray×Val)->Rd Val
 |0,s,p,_,_=> .bad 4 (Aq s p)
 |f+1,s,p,d,acc=>match Eg s (Aq s p)with
  | .bad e q=> .bad e q
  | .ok k q=>if Lj ⟨k.toArray⟩ acc=true then .bad 8 (Aq s p)
    else if s[Aq s q]? =some 58 then Fy f s (Aq s q+1) d acc ⟨k.toArray⟩
    else .bad 4 (Aq s q)
def Fy:Nat->List UInt8->Nat->Int->List (ByteArray×Val)->ByteArray->Rd Val
 |0,s,p,_,_,_=> .bad 4 (Aq s p)
 |f+1,s,p,d,acc,k=>match Cc f s p (d+1)with
  | .bad e q=> .bad e q
  | .ok v q=>if s[Aq s q]? =some 44 then By f s (Aq s q+1) d (acc++ [(k,v)])else if s[Aq s q]? =some 125 then .ok (Rc (G8 (acc++ [(k,v)]))) (Aq s q+1)else .bad 4 (Aq s q)
end
def Fe (s:List UInt8):Rd Val:=match Cc (4*s.length+4) s 0 1 with
 | .bad e q=> .bad e q
 | .ok v q=>if Aq s q<s.length then .bad 4 (Aq s q)else .ok v (Aq s q)
theorem Rd.within.from {α:Type} {p p' n:Nat} {r:Rd α} (h:r.within p' n) (hp:p<=p'):r.within p n:=by
 cases r with
 |ok a q=>exact⟨by have:=h.1;omega,h.2⟩
 |bad e q=>exact⟨by have:=h.1;omega,h.2⟩
theorem Rd.within.map {α β:Type} {g:α->β} {p n:Nat} {r:Rd α} (h:r.within p n):(r.map g).within p n:=by
 cases r<;>exact h
theorem Ld {s:List UInt8} {p:Nat} (h:p<s.length) {w:List UInt8} (hw:w≠ []) (v:Val):(Dh s p w v).within p s.length:=by
 unfold Dh
 split
 . rename_i hp;have hp':=(List.isPrefixOf_iff_prefix.1 hp).length_le;rw[List.length_drop]at hp';have:0<w.length:=List.length_pos_iff.2 hw;exact⟨by omega,by omega⟩
 . exact⟨Nat.le_refl _,by omega,by decide,by decide⟩
theorem Er {α:Type} {s:List UInt8} {p:Nat} (h:p<=s.length) (e:Int) (h1:1<=e) (h2:e<=18):(Rd.bad e (Aq s p):Rd α).within p s.length:=⟨C5 s p,Fg h,h1,h2⟩
theorem It: ∀(f:Nat),(∀s p d,p<=s.length->(Cc f s p d).within p s.length)/\(∀s p d,p<s.length->(Ka f s p d).within p s.length)/\(∀s p d,p<s.length->(Oh f s p d).within p s.length)/\
 (∀s p d acc,p<=s.length->(D7 f s p d acc).within p s.length)/\(∀s p d acc,p<=s.length->(By f s p d acc).within p s.length)/\(∀s p d acc k,p<=s.length->(Fy f s p d acc k).within p s.length):=by
 intro f
 induction f with
 |zero=>
  refine⟨fun s p d h=> ?_,fun s p d h=> ?_,fun s p d h=> ?_,fun s p d acc h=> ?_,fun s p d acc h=> ?_,fun s p d acc k h=> ?_⟩
  . unfold Cc;exact Er h _ (by decide) (by decide)
  . unfold Ka;exact(Er (p:=p+1) h _ (by decide) (by decide)).from (by omega)
  . unfold Oh;exact(Er (p:=p+1) h _ (by decide) (by decide)).from (by omega)
  . unfold D7;exact Er h _ (by decide) (by decide)
  . unfold By;exact Er h _ (by decide) (by decide)
  . unfold Fy;exact Er h _ (by decide) (by decide)
 |succ f ih=>
  obtain⟨iv,il,io,ii,im,ik⟩:=ih;refine⟨fun s p d h=> ?_,fun s p d h=> ?_,fun s p d h=> ?_,fun s p d acc h=> ?_,fun s p d acc h=> ?_,fun s p d acc k h=> ?_⟩
  . unfold Cc;have hp:=Fg h;have hg:=C5 s p
    cases hc:s[Aq s p]? with
    |none=>exact Er h _ (by decide) (by decide)
    |some c=>
     have hl:=Cz hc;simp only
     split
     . exact Er h _ (by decide) (by decide)
     split
     . exact Er h _ (by decide) (by decide)
     split
     . exact(il s _ d hl).from hg
     split
     . exact(io s _ d hl).from hg
     split
     . exact((Hs hp).map).from hg
     split
     . exact(Ld hl (by simp) _).from hg
     split
     . exact(Ld hl (by simp) _).from hg
     split
     . exact(Ld hl (by simp) _).from hg
     . exact((Mo hl).map).from hg
  . unfold Ka;have hp:=Fg (s:=s) (p:=p+1) h;have hg:=C5 s (p+1)
    split
    . rename_i hc;exact⟨by omega,by have:=Cz hc;omega⟩
    . exact(ii s _ d [] hp).from (by omega)
  . unfold Oh;have hp:=Fg (s:=s) (p:=p+1) h;have hg:=C5 s (p+1)
    split
    . rename_i hc;exact⟨by omega,by have:=Cz hc;omega⟩
    . exact(im s _ d [] hp).from (by omega)
  . unfold D7;have hv:=iv s p (d+1) h
    cases hr:Cc f s p (d+1)with
    |bad e q=>rw[hr]at hv;exact hv
    |ok v q=>
     rw[hr]at hv;obtain⟨h1,h2⟩:=hv;have hp:=Fg h2;have hg:=C5 s q;simp only
     split
     . rename_i hc;exact(ii s _ d _ (Cz hc)).from (by omega)
     split
     . rename_i hc;exact⟨by omega,Cz hc⟩
     . exact(Er h2 _ (by decide) (by decide)).from (by omega)
  . unfold By;have hp0:=Fg h;have hg0:=C5 s p;have hv:=Hs hp0
    cases hr:Eg s (Aq s p)with
    |bad e q=>rw[hr]at hv;exact hv.from hg0
    |ok k q=>
     rw[hr]at hv;obtain⟨h1,h2⟩:=hv;have hp:=Fg h2;have hg:=C5 s q;simp only
     split
     . exact Er h _ (by decide) (by decide)
     split
     . rename_i hc;exact(ik s _ d _ _ (Cz hc)).from (by omega)
     . exact(Er h2 _ (by decide) (by decide)).from (by omega)
  . unfold Fy;have hv:=iv s p (d+1) h
    cases hr:Cc f s p (d+1)with
    |bad e q=>rw[hr]at hv;exact hv
    |ok v q=>
     rw[hr]at hv;obtain⟨h1,h2⟩:=hv;have hp:=Fg h2;have hg:=C5 s q;simp only
     split
     . rename_i hc;exact(im s _ d _ (Cz hc)).from (by omega)
     split
     . rename_i hc;exact⟨by omega,Cz hc⟩
     . exact(Er h2 _ (by decide) (by decide)).from (by omega)
def dgt (d:Nat):UInt8:=UInt8.ofNat (48+d)
def Fi (u:Nat):List UInt8:=if _h:u=0 then []else Fi (u / 10)++ [dgt (u % 10)]
termination_by u
decreasing_by omega
theorem Il:Fi 0= []:=by rw[Fi,dif_pos rfl]
theorem Lh {u:Nat} (h:u≠0):Fi u=Fi (u / 10)++ [dgt (u % 10)]:=by rw[Fi,dif_neg h]
theorem Gy (u:Nat):u≠0->Fi u=Lib.decDigits u:=by
 induction u using Nat.strongRecOn with
 |_ u ih=>
  intro h;rw[Lh h,Lib.decDigits];unfold dgt;by_cases h10:u<10
  . rw[dif_pos h10,show u / 10=0 from by omega,Il,show u % 10=u from by omega,List.nil_append]
  . rw[dif_neg h10,ih (u / 10) (by omega) (by omega)]
theorem Abi {u:Nat} (h:(u:Int)<=9223372036854775808):(Fi u).length<=30:=by
 by_cases h0:u=0
 . subst h0;rw[Il];simp
 . rw[Gy u h0,Lib.decDigits_length];exact Nat.le_trans (Lib.nDigits_le20 u (by omega)) (by omega)
theorem Z5 (S:ByteArray) (d e:Nat) (hd:d<=e) (he:e<=S.size) (w:World):(Instr.slice 9 (.string S) (some (.int .i64 d)) (some (.int .i64 e)) none).run Tryz.prog w=.ok (.string (S.extract d e)) w:=by
 simp[Instr.slice,run_underlying Tryz.underlying9,Instr.sliceBounds,go_sem,hd,he]
theorem Aj6: ∀d:Fin 10,(⟨#[48,49,50,51,52,53,54,55,56,57]⟩:ByteArray).extract d.val (d.val+1)=⟨#[dgt d.val]⟩:=by decide
theorem Xy (d:Nat) (hd:d<10) (w:World):(Instr.slice 9 (.string ⟨#[48,49,50,51,52,53,54,55,56,57]⟩) (some (.int .i64 d)) (some (.int .i64 ((d:Int)+1))) none).run Tryz.prog w=.ok (.string ⟨#[dgt d]⟩) w:=by
 have:=Z5 ⟨#[48,49,50,51,52,53,54,55,56,57]⟩ d (d+1) (by omega) (by show d+1<=10;omega) w;rw[Aj6 ⟨d,hd⟩]at this;exact this
set_option maxRecDepth 20000 in
theorem Aef (a:Nat) (ha:a≠0) (hm:(a:Int)<=9223372036854775807) (w:World):
 Calls Tryz.prog 81 #[.int .i64 a] w fun e w'=>e=.returned (.string ⟨(Lib.itoa a).toArray⟩)/\w=w':=by
 have hi:Lib.itoa a=Fi a:=by
  rw[Gy a ha,Lib.itoa,if_neg (by omega)];simp
 rw[hi];have hl:=Abi (u:=a) (by omega);have H0:Hid (Fi a++(⟨#[]⟩:ByteArray).data.toList=Fi a):=by show _=_;simp
 clear hi;go_enter Tryz.func81,Tryz.ntmps81;have ha1:((a:Int)==0)=false:=by simp;omega
 go_wp2
 go_loop [3,4] (fun s m=> ∃(T:ByteArray) (u:Nat),s=.string T/\m=.int .i64 u/\u<=a/\Hid (Fi u++T.data.toList=Fi a)) (fun _ m=>(intOf m).toNat)
 case atStart=>exact⟨_,a,rfl,rfl,Nat.le_refl _,H0⟩
 case round=>
  obtain⟨T,u,rfl,rfl,hu,hT⟩:=hrel;clear H0;have hTs:T.size<=30:=by
   have h1:=congrArg List.length hT.out;rw[List.length_append]at h1;have h2:T.data.toList.length=T.size:=by rw[Array.length_toList];rfl
   omega
  by_cases hu0:u=0
  . subst hu0;have hT':=hT.out;rw[Il,List.nil_append]at hT';have HE:=qz (show(⟨(Fi a).toArray⟩:ByteArray)=T from by rw[<-hT']);clear hT hT' ha1 hl;have h0:((a:Int)<0)=False:=by simp
    go_wp2;go_ret;exact⟨by rw[HE.out];rfl,rfl⟩
  . have hu1:((u:Int)==0)=false:=by simp;omega
    have hT':Hid (Fi (u / 10)++((⟨#[dgt (u % 10)]⟩:ByteArray)++T).data.toList=Fi a):=by
     have:=hT.out;rw[Lh hu0]at this;show _=_;rw[<-this,ByteArray.data_append,Array.toList_append];simp
    have hd:=Xy (u % 10) (by omega) w;have hm10:(u:Int) % 10=((u % 10:Nat):Int):=by omega
    have hq10:(u:Int) / 10=((u / 10:Nat):Int):=by omega
    have hlt:u % 10<10:=by omega
    have hqu:u / 10<u:=by omega
    generalize u % 10=d at*
    generalize u / 10=q at*
    have hdn:decide ((d:Int)<0)=false:=by simp
    clear hT ha1 hl;go_wp2
    go_round
    case rel=>exact⟨_,q,rfl,rfl,by omega,hT'⟩
    case measure=>simp[intOf];omega
set_option maxRecDepth 20000 in
theorem Aee (a:Nat) (ha:a≠0) (hm:(a:Int)<=9223372036854775808) (n:Int) (hn:n= -(a:Int)) (w:World):
 Calls Tryz.prog 81 #[.int .i64 n] w fun e w'=>e=.returned (.string ⟨(Lib.itoa n).toArray⟩)/\w=w':=by
 have hi:Lib.itoa n=45::Fi a:=by
  rw[Gy a ha,Lib.itoa,if_pos (by omega),hn];simp
 rw[hi];have hl:=Abi (u:=a) (by omega);have H0:Hid (Fi a++(⟨#[]⟩:ByteArray).data.toList=Fi a):=by show _=_;simp
 have Hn:=qz hn;have hn1:(n==0)=false:=by simp;omega
 have hn2:n<0:=by omega
 clear hi hn;go_enter Tryz.func81,Tryz.ntmps81;go_wp2
 go_loop [3,4] (fun s m=> ∃(T:ByteArray) (M:Int) (u:Nat),s=.string T/\m=.int .i64 M/\Hid (M= -(u:Int))/\u<=a/\Hid (Fi u++T.data.toList=Fi a)) (fun _ m=>(-(intOf m)).toNat)
 case atStart=>exact⟨_,n,a,rfl,rfl,Hn,Nat.le_refl _,H0⟩
 case round=>
  obtain⟨T,M,u,rfl,rfl,hM,hu,hT⟩:=hrel;clear H0;have hTs:T.size<=30:=by
   have h1:=congrArg List.length hT.out;rw[List.length_append]at h1;have h2:T.data.toList.length=T.size:=by rw[Array.length_toList];rfl
   omega
  have hMu:=hM.out;by_cases hu0:u=0
  . subst hu0;obtain rfl:M=0:=by simpa using hMu
    have hT':=hT.out;rw[Il,List.nil_append]at hT';have hE:(⟨(45::Fi a).toArray⟩:ByteArray)=⟨#[45]⟩++T:=by
     apply ByteArray.ext;rw[ByteArray.data_append];apply Array.ext';rw[Array.toList_append,hT'];simp
    have HE:=qz hE;clear hT hT' hE hn1 hl hM hMu;go_wp2;go_ret;exact⟨by rw[HE.out];rfl,rfl⟩
  . have hT':Hid (Fi (u / 10)++((⟨#[dgt (u % 10)]⟩:ByteArray)++T).data.toList=Fi a):=by
     have:=hT.out;rw[Lh hu0]at this;show _=_;rw[<-this,ByteArray.data_append,Array.toList_append];simp
    have hM1:(M==0)=false:=by simp;omega
    have hM2: -9223372036854775808<=M:=by omega
    have hM3:M<0:=by omega
    have hd:=Xy (u % 10) (by omega) w;obtain⟨D,hD⟩: ∃D,M.tmod 10=D:=⟨_,rfl⟩;obtain⟨Q,hQ⟩: ∃Q,M.tdiv 10=Q:=⟨_,rfl⟩;have hD':D= -((u % 10:Nat):Int):=by
     rw[<-hD,hMu,Int.neg_tmod,Int.tmod_eq_emod_of_nonneg (by omega)];omega
    have hQ':Q= -((u / 10:Nat):Int):=by
     rw[<-hQ,hMu,Int.neg_tdiv,Int.tdiv_eq_ediv_of_nonneg (by omega)];omega
    have hlt:u % 10<10:=by omega
    have hqu:u / 10<u:=by omega
    generalize u % 10=d at*
    generalize u / 10=q at*
    have HQ:=qz hQ';have hMQ:M<Q:=by omega
    have hQ1: -9223372036854775808<=Q:=by omega
    have hQ2:Q<=0:=by omega
    have hQ3:Q<=9223372036854775807:=by omega
    by_cases hd0:d=0
    . subst hd0;obtain rfl:D=0:=by simpa using hD'
      have hd1:(Instr.slice 9 (.string ⟨#[48,49,50,51,52,53,54,55,56,57]⟩) (some (.int .i64 0)) (some (.int .i64 1)) none).run Tryz.prog w=.ok (.string ⟨#[dgt 0]⟩) w:=hd;clear hT hn1 hl hM hD' hQ' hMu hd;go_wp2
      go_round
      case rel=>exact⟨_,Q,q,rfl,rfl,HQ,by omega,hT'⟩
      case measure=>simp only[intOf];omega
    . have hDn:D<0:=by omega
      have hDb: -10<D:=by omega
      have hDd: -D=(d:Int):=by omega
      clear hT hn1 hl hM hD' hQ';clear hMu;go_wp2
      go_round
      case rel=>exact⟨_,Q,q,rfl,rfl,HQ,by omega,hT'⟩
      case measure=>simp only[intOf];omega
theorem Yz (n:Int) (h1: -9223372036854775808<=n) (h2:n<=9223372036854775807) (w:World):
 Calls Tryz.prog 81 #[.int .i64 n] w fun e w'=>e=.returned (.string ⟨(Lib.itoa n).toArray⟩)/\w=w':=by
 by_cases h0:n=0
 . subst h0;have e:(⟨(Lib.itoa 0).toArray⟩:ByteArray)=⟨#[48]⟩:=by
    have:Lib.itoa 0= [48]:=by
     rw[Lib.itoa,if_neg (by omega)];exact Lib.decDigits_one (i:=0) (by omega)
    rw[this]
   rw[e];go_enter Tryz.func81,Tryz.ntmps81;go_wp2;go_ret;exact⟨rfl,rfl⟩
 . rcases Int.lt_or_le n 0 with h|h
   . exact Aee n.natAbs (by omega) (by omega) n (by omega) w
   . have:=Aef n.toNat (by omega) (by omega) w
     rwa [show((n.toNat:Nat):Int)=n from by omega]at this
mutual
def Ev:Val->Nat
 | .mk k _ _ _ l o=>1+(if k=5 then E7 l else if k=6 then I9 o else 0)
def E7:List Val->Nat
 | []=>0
 |v::r=>max (Ev v) (E7 r)
def I9:List (ByteArray×Val)->Nat
 | []=>0
 |p::r=>max (Abd p) (I9 r)
def Abd:ByteArray×Val->Nat
 |(_,v)=>Ev v
end
theorem P2: ∀(l:List Val),(∀v ∈ l,Ev v<=v.bulk)->E7 l<=Bf l
 | [],_=>by simp[E7]
 |v::r,h=>by
  have h1:=h v (by simp);have h2:=P2 r (fun x hx=>h x (by simp[hx]));simp only[E7,Bf];omega
theorem Tq: ∀(l:List (ByteArray×Val)),(∀m ∈ l,Ev m.2<=m.2.bulk)->I9 l<=Ab l
 | [],_=>by simp[I9]
 |(k,v)::r,h=>by
  have h1:=h (k,v) (by simp);have h2:=Tq r (fun x hx=>h x (by simp[hx]));simp only[I9,Abd,Ab,Ib];simp only at h1;omega
theorem Lg: ∀v:Val,Ev v<=v.bulk:=by
 refine Val.ind ?_;intro k b n t l o hl ho;have h1:=P2 l hl;have h2:=Tq o ho;simp only[Ev,Val.bulk]
 split
 . omega
 split<;>omega
def Ajc (v:Val):Prop:= ∀(cs:List Value) (w:World),Ac w w.heap.size v cs->v.bulk<=100000000->
    Calls Tryz.prog 135 #[.agg cs.toArray] w fun e w'=>e=.returned (.int .i64 (Ev v))/\Below w.heap.size w w'
theorem Ahg (b:Bool) (n:Int) (t:ByteArray) (l:List Val) (on:Nat) (IH: ∀v ∈ l,Ajc v) (la oa:Option Addr) (oc lc:Nat) (w:World) (hl:l= []\/ ∃g off,la=some ⟨g,off,none⟩/\g<w.heap.size/\Ao w w.heap.size l g off)
 (hb:Bf l<=100000000):
 Calls Tryz.prog 135 #[.agg #[.int .i64 5,.bool b,.int .i64 n,.string t,.slice la l.length lc,.slice oa on oc]] w fun e w'=>e=.returned (.int .i64 (1+(E7 l:Int)))/\Below w.heap.size w w':=by
 have hln:=Dt l;have hdl:=P2 l (fun v _=>Lg v);obtain⟨M,hM⟩: ∃M,E7 l=M:=⟨_,rfl⟩;rw[hM]at hdl ⊢;have H0:Hid (max 0 (E7 (l.drop 0))=M):=by show _=_;rw[List.drop_zero,hM];simp
 have HI:=qz IH;clear IH hM;go_enter Tryz.func135,Tryz.ntmps135;go_wp2_with (fail);have HB1:Hid (Below w.heap.size w (w.alloc (.cells #[.int .i64 5,.bool b,.int .i64 n,.string t,.slice la l.length lc,.slice oa on oc] 37))):=(Below.refl _ _).alloc (Nat.le_refl _) _;go_loopw [3,15] (fun m i wr=> ∃D k:Nat,m=.int .i64 D/\i=.int .i64 k/\k<=l.length/\Hid (max D (E7 (l.drop k))=M)/\D<=M/\Hid (Below w.heap.size w wr)) (fun _ i _=>l.length - (intOf i).toNat)
 case atStart=>exact⟨0,0,rfl,rfl,Nat.zero_le _,H0,Nat.zero_le _,HB1⟩
 case round=>
  obtain⟨D,k,rfl,rfl,hk,hD,hDM,hbw⟩:=hrel;clear H0 HB1;by_cases hlt:k<l.length
  . obtain⟨g,off,rfl,hg,hL⟩: ∃g off,la=some ⟨g,off,none⟩/\g<w.heap.size/\Ao w w.heap.size l g off:=by
     rcases hl with rfl|h
     . simp at hlt
     . exact h
    obtain⟨x,hx⟩: ∃v,l[k]? =some v:=⟨_,List.getElem?_eq_getElem hlt⟩;have hmem:x ∈ l:=List.mem_of_getElem? hx;have hbv:=D9 hmem;have hdv:=Lg x;have hdrop:l.drop k=x::l.drop (k+1):=Ds hx;have hD':=hD.out;rw[hdrop]at hD';simp only[E7]at hD';have IHx:=HI.out x hmem;have hz:=hbw.out.size;obtain⟨m,hm⟩: ∃m,Ev x=m:=⟨_,rfl⟩;obtain⟨k',b',n',t',l',o'⟩:=x;obtain⟨la',lc',oa',oc',hvs,c0,c1,c2,c3,c4,c5⟩:=(hL.below hg hbw.out).six hx;have CT:=IHx _ (wr.alloc (.cells #[.int .i64 k',.bool b',.int .i64 n',.string t',.slice la' l'.length lc',.slice oa' o'.length oc'] 37)) (Ac.more (by simp;omega) _ _ (hvs.below ((Below.refl _ _).alloc hz _))) (by omega);rw[hm]at CT hD' hdv;have hCT:=qz CT;have Hn:Hid (max (max D m) (E7 (l.drop (k+1)))=M):=by show _=_;omega
    have hmM:max D m<=M:=by omega
    have hbA:Hid (Below w.heap.size w (wr.alloc (.cells #[.int .i64 k',.bool b',.int .i64 n',.string t',.slice la' l'.length lc',.slice oa' o'.length oc'] 37))):=hbw.out.alloc hz _;clear CT hD hD' hdrop IHx hm hvs hx hmem hL hg hdv hbv;by_cases hgt:D<m
    . have e1:max D m=m:=by omega
      rw[e1]at Hn hmM;clear e1;go_wp2_with (fail);(with_reducible refine hCT.out.mono ?_);rintro e w4 ⟨rfl,hb4⟩;have hbw4:=qz (hbA.out.trans (hb4.mono hbA.out.size));clear hb4 hbw hbA hCT;go_wp2;go_roundw
      case rel=>exact⟨m,k+1,by congr 1;omega,by go_num,by omega,Hn,hmM,hbw4⟩
      case measure=>simp only[intOf];omega
    . have e1:max D m=D:=by omega
      rw[e1]at Hn hmM;clear e1;go_wp2_with (fail);(with_reducible refine hCT.out.mono ?_);rintro e w4 ⟨rfl,hb4⟩;have hbw4:=qz (hbA.out.trans (hb4.mono hbA.out.size));clear hb4 hbw hbA hCT;go_wp2;go_roundw
      case rel=>exact⟨D,k+1,by congr 1;omega,by go_num,by omega,Hn,hmM,hbw4⟩
      case measure=>simp only[intOf];omega
  . obtain rfl:k=l.length:=by omega
    have hD':=hD.out;rw[List.drop_length]at hD';simp only[E7]at hD';obtain rfl:D=M:=by omega
    clear hD hD' hl;go_wp2;go_ret;exact⟨rfl,hbw.out⟩
theorem Aj3 (b:Bool) (n:Int) (t:ByteArray) (l:List (ByteArray×Val)) (ln:Nat) (IH: ∀m ∈ l,Ajc m.2) (la oa:Option Addr) (oc lc:Nat) (w:World) (hl:l= []\/ ∃g off,oa=some ⟨g,off,none⟩/\g<w.heap.size/\Ap w w.heap.size l g off)
 (hb:Ab l<=100000000):
 Calls Tryz.prog 135 #[.agg #[.int .i64 6,.bool b,.int .i64 n,.string t,.slice la ln lc,.slice oa l.length oc]] w fun e w'=>e=.returned (.int .i64 (1+(I9 l:Int)))/\Below w.heap.size w w':=by
 have hln:=Bc l;have hdl:=Tq l (fun m _=>Lg m.2);obtain⟨M,hM⟩: ∃M,I9 l=M:=⟨_,rfl⟩;rw[hM]at hdl ⊢;have H0:Hid (max 0 (I9 (l.drop 0))=M):=by show _=_;rw[List.drop_zero,hM];simp
 have HI:=qz IH;clear IH hM;go_enter Tryz.func135,Tryz.ntmps135;go_wp2_with (fail);have HB1:Hid (Below w.heap.size w (w.alloc (.cells #[.int .i64 6,.bool b,.int .i64 n,.string t,.slice la ln lc,.slice oa l.length oc] 37))):=(Below.refl _ _).alloc (Nat.le_refl _) _;go_loopw [3,29] (fun m i wr=> ∃D k:Nat,m=.int .i64 D/\i=.int .i64 k/\k<=l.length/\Hid (max D (I9 (l.drop k))=M)/\D<=M/\Hid (Below w.heap.size w wr)) (fun _ i _=>l.length - (intOf i).toNat)
 case atStart=>exact⟨0,0,rfl,rfl,Nat.zero_le _,H0,Nat.zero_le _,HB1⟩
 case round=>
  obtain⟨D,k,rfl,rfl,hk,hD,hDM,hbw⟩:=hrel;clear H0 HB1;by_cases hlt:k<l.length
  . obtain⟨g,off,rfl,hg,hL⟩: ∃g off,oa=some ⟨g,off,none⟩/\g<w.heap.size/\Ap w w.heap.size l g off:=by
     rcases hl with rfl|h
     . simp at hlt
     . exact h
    obtain⟨⟨key,x⟩,hx⟩: ∃v,l[k]? =some v:=⟨_,List.getElem?_eq_getElem hlt⟩;have hmem:(key,x) ∈ l:=List.mem_of_getElem? hx;have hbv:=Bz hmem;simp only at hbv;have hdv:=Lg x;have hdrop:l.drop k=(key,x)::l.drop (k+1):=Ds hx;have hD':=hD.out;rw[hdrop]at hD';simp only[I9,Abd]at hD';have IHx:=HI.out _ hmem;have hz:=hbw.out.size;obtain⟨m,hm⟩: ∃m,Ev x=m:=⟨_,rfl⟩;obtain⟨k',b',n',t',l',o'⟩:=x;obtain⟨la',lc',oa',oc',hvs,c0,c1,c2,c3,c4,c5,c6⟩:=(hL.below hg hbw.out).seven hx;have CT:=IHx _ (wr.alloc (.cells #[.string key,.int .i64 k',.bool b',.int .i64 n',.string t',.slice la' l'.length lc',.slice oa' o'.length oc'] 94)) (Ac.more (by simp;omega) _ _ (hvs.below ((Below.refl _ _).alloc hz _))) (show(Val.mk k' b' n' t' l' o').bulk<=100000000 from by omega);simp only[hm]at CT;rw[hm]at hD' hdv;have hCT:=qz CT;have Hn:Hid (max (max D m) (I9 (l.drop (k+1)))=M):=by show _=_;omega
    have hmM:max D m<=M:=by omega
    have hbA:Hid (Below w.heap.size w (wr.alloc (.cells #[.string key,.int .i64 k',.bool b',.int .i64 n',.string t',.slice la' l'.length lc',.slice oa' o'.length oc'] 94))):=hbw.out.alloc hz _;clear CT hD hD' hdrop IHx hm hvs hx hmem hL hg hdv hbv;have Hmx:=qz (show max (D:Int) (m:Int)=((max D m:Nat):Int)from by omega);generalize max D m=Dm at*
    go_wp2_with (fail);(with_reducible refine hCT.out.mono ?_);rintro e w4 ⟨rfl,hb4⟩;have hbw4:=qz (hbA.out.trans (hb4.mono hbA.out.size));clear hb4 hbw hbA hCT;go_wp2;go_roundw
    case rel=>exact⟨Dm,k+1,by rw[Hmx.out],by go_num,by omega,Hn,hmM,hbw4⟩
    case measure=>simp only[intOf];omega
  . obtain rfl:k=l.length:=by omega
    have hD':=hD.out;rw[List.drop_length]at hD';simp only[I9]at hD';obtain rfl:D=M:=by omega
    clear hD hD' hl;go_wp2;go_ret;exact⟨rfl,hbw.out⟩
theorem Ad9: ∀v,Ajc v:=by
 refine Val.ind ?_;intro k b n t l o IHl IHo cs w hV hb;simp only[Ac]at hV;obtain⟨la,lc,oa,oc,rfl,hla,hoa⟩:=hV;simp only[Val.bulk]at hb;by_cases h5:k=5
 . subst h5;have:=Ahg b n t l o.length IHl la oa oc lc w hla (by omega);simpa[Ev]using this
 by_cases h6:k=6
 . subst h6;have:=Aj3 b n t o l.length IHo la oa oc lc w hoa (by omega);simpa[Ev]using this
 have e:Ev (.mk k b n t l o)=1:=by simp[Ev,h5,h6]
 rw[e];have e5:(k==5)=false:=by simpa using h5
 have e6:(k==6)=false:=by simpa using h6
 clear e IHl IHo hla hoa hb h5 h6;go_enter Tryz.func135,Tryz.ntmps135;go_wp2;go_ret;exact⟨rfl,(Below.refl _ _).alloc (Nat.le_refl _) _⟩
def Tt (acc:Nat) (l:List UInt8):Nat:=l.foldl (fun a c=>a*10+(c.toNat - 48)) acc
theorem Yy: ∀(l:List UInt8) (a:Nat),a<=Tt a l
 | [],a=>Nat.le_refl a
 |c::r,a=>by
  have:=Yy r (a*10+(c.toNat - 48));show a<=Tt (a*10+(c.toNat - 48)) r;omega
theorem Qp: ∀(l:List UInt8) (acc:Nat),(∀c ∈ l,Dy c=true)->Lib.parseUintM 18446744073709551615 acc l=if 18446744073709551615<Tt acc l/\l≠ []then .range else .ok (Tt acc l)
 | [],acc,_=>by simp[Lib.parseUintM,Tt]
 |c::r,acc,h=>by
  have hc:=h c (by simp);unfold Dy at hc;rw[decide_eq_true_iff]at hc;have ih:=Qp r (acc*10+(c.toNat - 48)) (fun x hx=>h x (by simp[hx]));have e:Tt acc (c::r)=Tt (acc*10+(c.toNat - 48)) r:=rfl;have hg:=Yy r (acc*10+(c.toNat - 48));unfold Lib.parseUintM;rw[if_pos hc,e];by_cases h1:1844674407370955162<=acc
  . rw[if_pos h1,if_pos ⟨by omega,by simp⟩]
  . rw[if_neg h1];by_cases h2:18446744073709551615<acc*10+(c.toNat - 48)
    . rw[if_pos h2,if_pos ⟨by omega,by simp⟩]
    . rw[if_neg h2,ih];by_cases hr:r= []
      . subst hr;rw[if_neg (by simp)];have:Tt (acc*10+(c.toNat - 48)) []=acc*10+(c.toNat - 48):=rfl;rw[if_neg (by rw[this];omega)]
      . by_cases h3:18446744073709551615<Tt (acc*10+(c.toNat - 48)) r
        . rw[if_pos ⟨h3,hr⟩,if_pos ⟨h3,by simp⟩]
        . rw[if_neg (fun q=>h3 q.1),if_neg (fun q=>h3 q.1)]
theorem Qo {l:List UInt8} (h: ∀c ∈ l,Dy c=true) (hl:l≠ []):Lib.parseUintB 64 l=if 18446744073709551615<Ik l then .range else .ok (Ik l):=by
 unfold Lib.parseUintB;rw[if_neg hl];have:=Qp l 0 h;have e:Tt 0 l=Ik l:=rfl;rw[e]at this;show Lib.parseUintM 18446744073709551615 0 l=_;rw[this];by_cases h3:18446744073709551615<Ik l
 . rw[if_pos ⟨h3,hl⟩,if_pos h3]
 . rw[if_neg (fun q=>h3 q.1),if_neg h3]
theorem Akm {l:List UInt8} (h: ∀c ∈ l,Dy c=true) (hl:l≠ []):Lib.parseIntB 64 l=if 9223372036854775807<Ik l then .range else .ok (Ik l:Int):=by
 obtain⟨c,r,rfl⟩: ∃c r,l=c::r:=by cases l with|nil=>exact absurd rfl hl|cons c r=>exact⟨c,r,rfl⟩
 have hc:=h c (by simp);unfold Dy at hc;rw[decide_eq_true_iff]at hc;unfold Lib.parseIntB;simp only;rw[if_neg (show ¬(c.toNat=43\/c.toNat=45)by omega),Qo h hl];have hn: ¬(c.toNat=45):=by omega
 by_cases h1:18446744073709551615<Ik (c::r)
 . rw[if_pos h1,if_pos (by omega)]
 . rw[if_neg h1];by_cases h2:9223372036854775807<Ik (c::r)
   . simp only[hn,not_false_eq_true,true_and,false_and,if_false];rw[if_pos h2,if_pos (by show 9223372036854775808<=_;omega)]
   . simp only[hn,not_false_eq_true,true_and,false_and,if_false];rw[if_neg h2,if_neg (by show ¬(9223372036854775808<=_);omega)]
theorem Akl {l:List UInt8} (h: ∀c ∈ l,Dy c=true) (hl:l≠ []):Lib.parseIntB 64 (45::l)=if 9223372036854775808<Ik l then .range else .ok (-(Ik l:Int)):=by
 unfold Lib.parseIntB;simp only;rw[if_pos (by decide),Qo h hl];by_cases h1:18446744073709551615<Ik l
 . rw[if_pos h1,if_pos (by omega)]
 . rw[if_neg h1];have hn:(45:UInt8).toNat=45:=by decide
   by_cases h2:9223372036854775808<Ik l
   . simp only[hn,not_true_eq_false,true_and,false_and,if_false];rw[if_pos h2,if_pos (by show 9223372036854775808<_;omega)]
   . simp only[hn,not_true_eq_false,true_and,false_and,if_false,if_true]
theorem Ahk (s:List UInt8) (f:Nat): ∀c ∈ (s.drop f).take (Cq s f - f),Dy c=true:=by
 intro c hc;obtain⟨i,hi⟩:=List.mem_iff_getElem?.1 hc;have hlt:i<Cq s f - f:=by
  by_cases h:i<Cq s f - f
  . exact h
  . rw[List.getElem?_take_eq_none (by omega)]at hi;cases hi
 rw[List.getElem?_take_of_lt hlt,List.getElem?_drop]at hi;exact Ts s f (f+i) c (by omega) (by omega) hi
theorem Aed {s:List UInt8} {f e:Nat} {x:UInt8} (hx:s[f]? =some x) (hz: ¬x=48) (hf:f<Cq s f) (he:Cq s f=e):Ik ((s.drop f).take (e - f))≠0:=by
 subst he;have hd:=Ts s f f x (Nat.le_refl _) hf hx;unfold Dy at hd;rw[decide_eq_true_iff]at hd;have hx48:x.toNat≠48:=fun q=>hz (UInt8.toNat_inj.1 q);obtain⟨n,hn⟩: ∃n,Cq s f - f=n+1:=⟨Cq s f - f - 1,by omega⟩;rw[hn,Iv hx,List.take_succ_cons];have h1:=Yy ((s.drop (f+1)).take n) (0*10+(x.toNat - 48));have e:Ik (x::(s.drop (f+1)).take n)=Tt (0*10+(x.toNat - 48)) ((s.drop (f+1)).take n):=rfl;rw[e];omega
end Go.Proofs.YtkmcjfkokoidcaaGreatDoor
