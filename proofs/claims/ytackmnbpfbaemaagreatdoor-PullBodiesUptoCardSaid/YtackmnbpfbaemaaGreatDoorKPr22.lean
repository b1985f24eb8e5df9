/- Parts: commonplaceref18.MayRequest: whether a pull may be. No condition. -/
import Derived.Test.YtackmnbpfbaemaaGreatDoorKPr17
import Derived.Test.YtackmnbpfbaemaaGreatDoorKPr18
set_option maxHeartbeats 20000000
namespace Go.Proofs.YtackmnbpfbaemaaGreatDoor
open Go.RowKit
theorem G5 (n:Int) (B:Bool) (w:World) (h:(decide (0<n)&&decide (n<=4611686018427387903))=B):Calls Tryz.prog 45 #[.int .u64 n] w fun e w'=>e=.returned (.bool B)/\w=w':=by
 by_cases h1:0<n
 . by_cases h2:n<=4611686018427387903
   . obtain rfl:true=B:=by rw[<-h];simp[h1,h2]
     clear h;go_enter Tryz.func45,Tryz.ntmps45;go_wp2;go_ret;exact⟨rfl,rfl⟩
   . obtain rfl:false=B:=by rw[<-h];simp[h1,h2]
     clear h;have h3:4611686018427387903<n:=by omega
     go_enter Tryz.func45,Tryz.ntmps45;go_wp2;go_ret;exact⟨rfl,rfl⟩
 . obtain rfl:false=B:=by rw[<-h];simp[h1]
   clear h;have h2:n<=0:=by omega
   go_enter Tryz.func45,Tryz.ntmps45;go_wp2;go_ret;exact⟨rfl,rfl⟩
theorem K6 (c k:Int) (w:World):Calls Tryz.prog 23 #[.agg #[.int .u64 c,.int .u64 k]] w fun e w'=>e=.returned (.int .i64 (Cv c k))/\Below w.heap.size w w':=by
 by_cases h1:0<c/\c<=4611686018427387903
 . obtain⟨h1,h2⟩:=h1;have hC:=fun W=>G5 c true W (by simp[h1,h2]);by_cases h3:k<=4611686018427387903
   . have hm:Cv c k=0:=by unfold Cv;rw[if_pos ⟨h1,h2,h3⟩]
     obtain⟨HC,Hm⟩:=hid2 hC hm;clear hC hm;go_enter Tryz.func23,Tryz.ntmps23;go_wp2_with (fail);(with_reducible refine(HC.out _).mono ?_);rintro e w' ⟨rfl,rfl⟩;go_wp2;go_ret;exact⟨by rw[Hm.out];rfl,(Below.refl _ _).alloc (Nat.le_refl _) _⟩
   . have hm:Cv c k=2:=by unfold Cv;rw[if_neg (by omega)]
     have h4:4611686018427387903<k:=by omega
     obtain⟨HC,Hm⟩:=hid2 hC hm;clear hC hm;clear h3;go_enter Tryz.func23,Tryz.ntmps23;go_wp2_with (fail);(with_reducible refine(HC.out _).mono ?_);rintro e w' ⟨rfl,rfl⟩;go_wp2;go_ret;exact⟨by rw[Hm.out];rfl,(Below.refl _ _).alloc (Nat.le_refl _) _⟩
 . have hC:=fun W=>G5 c false W (by simp;omega);have hm:Cv c k=2:=by unfold Cv;rw[if_neg (by omega)]
   obtain⟨HC,Hm⟩:=hid2 hC hm;clear hC hm;clear h1;go_enter Tryz.func23,Tryz.ntmps23;go_wp2_with (fail);(with_reducible refine(HC.out _).mono ?_);rintro e w' ⟨rfl,rfl⟩;go_wp2;go_ret;exact⟨by rw[Hm.out];rfl,(Below.refl _ _).alloc (Nat.le_refl _) _⟩
end Go.Proofs.YtackmnbpfbaemaaGreatDoor
namespace Go.Proofs.YtackmnbpfbaemaaGreatDoor
abbrev Ll:Val:=.mk 0 false 0 K4 [] []
abbrev Dr:POp:=⟨0,K4,Ll⟩
def C4 (v:Val):Int×POp:=
 if Av v≠6 then(9,Dr)else
 match Ax Cn (At v)with
 |none=>(10,Dr)
 |some nm=>
  if Av nm≠4 then(9,Dr)
  else if Ds nm=Dt then(if(At v).length=1 then(0,⟨3,K4,Ll⟩)else(10,Dr))
  else if Ds nm=Gt then
   (match At v with
   | [(a,x),(b,_),(c,y)]=>if a=A6/\b=Cn/\c=B5 then(if Av x=4 then(0,⟨1,Ds x,y⟩)else(9,Dr))else(10,Dr)
   |_=>(10,Dr))
  else if Ds nm=H9 then
   (match At v with
   | [(a,x),(b,_)]=>if a=A6/\b=Cn then(if Av x=4 then(0,⟨2,Ds x,Ll⟩)else(9,Dr))else(10,Dr)
   |_=>(10,Dr))
  else(12,Dr)
theorem Abi {v:Val} {d:Int} {p:POp} (hm:Ay v d=0) (h:C4 v=(0,p)):v=L5 p/\Ci p=false:=by
 unfold C4 at h
 split at h
 . cases h
 rename_i hk;have hk6:Av v=6:=by omega
 have hv:=Amr hm hk6;have hall: ∀m ∈ At v,Ay m.2 (d+1)=0:=by
  obtain⟨k,b,n,t,l,o⟩:=v;intro m hmm;exact(P4 (Ck hm).2.2.2.2 m hmm).2
 split at h
 . cases h
 rename_i nm hnm
 split at h
 . cases h
 rename_i hk4;have hmem:=Gf hnm;have hnt:nm=tv (Ds nm):=Akv (hall _ hmem) (show Av nm=4 by omega)
 split at h
 . rename_i e
   split at h
   . rename_i hl
     cases h
     obtain⟨q,hq⟩:=List.length_eq_one_iff.1 hl;rw[hq]at hmem;have:=List.mem_singleton.1 hmem;rw[hv,hq,<-this,hnt,e];exact⟨by kernel_rfl,by kernel_rfl⟩
   . cases h
 . rename_i ec
   split at h
   . rename_i e
     split at h
     . rename_i a x b z c y hq
       split at h
       . rename_i hn;obtain⟨rfl,rfl,rfl⟩:=hn
         split at h
         . rename_i hx
           cases h
           have hxt:x=tv (Ds x):=Akv (hall (A6,x) (by rw[hq];simp)) hx;have hz:z=nm:=by
            rw[hq]at hnm;exact Option.some.inj hnm
           rw[hv,hq,hz,hnt,e];refine⟨?_,rfl⟩;rw[hxt];rfl
         . cases h
       . cases h
     . cases h
   . rename_i ep
     split at h
     . rename_i e
       split at h
       . rename_i a x b z hq
         split at h
         . rename_i hn;obtain⟨rfl,rfl⟩:=hn
           split at h
           . rename_i hx
             cases h
             have hxt:x=tv (Ds x):=Akv (hall (A6,x) (by rw[hq];simp)) hx;have hz:z=nm:=by
              rw[hq]at hnm;exact Option.some.inj hnm
             rw[hv,hq,hz,hnt,e];refine⟨?_,by kernel_rfl⟩;rw[hxt];rfl
           . cases h
         . cases h
       . cases h
     . cases h
def Am:List Val->Int×List POp
 | []=>(0, [])
 |v::r=>if(C4 v).1≠0 then((C4 v).1, [])else if(Am r).1≠0 then((Am r).1, [])else(0,(C4 v).2::(Am r).2)
def Be (v:Val):Int×List POp:=
 if Ay v 1≠0 then(Ay v 1, [])else if Av v≠5 then(9, [])else if(Am (P0 v)).1≠0 then((Am (P0 v)).1, [])
 else if Bm none (Am (P0 v)).2=0 then(0,(Am (P0 v)).2)else(Bm none (Am (P0 v)).2, [])
theorem Qa: ∀{l:List Val} {d:Int} {r:List POp},(∀v ∈ l,Ay v d=0)->Am l=(0,r)->l=r.map L5
 | [],_,r,_,h=>by
   unfold Am at h
   cases h
   rfl
 |v::l,d,r,hm,h=>by
  unfold Am at h
  split at h
  . rename_i h1;exact absurd (congrArg Prod.fst h) h1
  . rename_i h1
    split at h
    . rename_i h2;exact absurd (congrArg Prod.fst h) h2
    . rename_i h2;have e:=congrArg Prod.snd h;simp only at e;rw[<-e,List.map_cons,<-Qa (fun x hx=>hm x (List.mem_cons_of_mem _ hx)) (Prod.ext (by simpa using h2) rfl)];rw[<-(Abi (hm v (List.mem_cons_self ..)) (Prod.ext (by simpa using h1) rfl)).1]
theorem Ns {v:Val} (h:U2 v=true):v=Ll:=by
 obtain⟨k,b,n,t,l,o⟩:=v;have h':Jk k b n t l.length o.length=true:=h;unfold Jk at h';simp only[Bool.and_eq_true,decide_eq_true_eq,Bool.not_eq_true',List.length_eq_zero_iff,List.isEmpty_iff]at h';obtain⟨⟨⟨⟨⟨rfl,rfl⟩,rfl⟩,ht⟩,rfl⟩,rfl⟩:=h';have:t=K4:=toList_inj (by rw[ht];simp[Lib.toList_data]);subst this;rfl
theorem P5: ∀{l:List POp} {prev:Option POp},Bm prev l=0-> ∀p ∈ l,Ci p=false
 | [],_,_,p,hp=>by cases hp
 |q::l,prev,h,p,hp=>by
  unfold Bm at h
  split at h
  . cases h
  rename_i h1;have hs:Ci q=false:=by
   cases hq:Ci q with
   |false=>rfl
   |true=>exact absurd (by rw[hq];simp) h1
  rcases List.mem_cons.1 hp with rfl|hp
  . exact hs
  have key:Bm (some q) l=0->Ci p=false:=fun hr=>P5 hr p hp
  split at h
  . exact key h
  . split at h
    . cases h
    . split at h
      . exact key h
      . split at h
        . exact key h
        . rename_i hf;exact absurd h hf
theorem Ad7 {v:Val} {r:List POp} (h:Be v=(0,r)):Ay v 1=0/\v=Ib r/\Bm none r=0:=by
 unfold Be at h
 split at h
 . rename_i h1;exact absurd (congrArg Prod.fst h) h1
 rename_i h1
 split at h
 . cases h
 rename_i h2
 split at h
 . rename_i h3;exact absurd (congrArg Prod.fst h) h3
 rename_i h3
 split at h
 . rename_i h4;have e:=congrArg Prod.snd h;simp only at e;have hm:Ay v 1=0:=by omega
   have hall: ∀x ∈ P0 v,Ay x 2=0:=by
    obtain⟨k,b,n,t,l,o⟩:=v;exact Lj (Ck hm).2.2.2.1
   have hl:=Qa hall (Prod.ext (by simpa using h3) rfl);refine⟨hm, ?_,by rw[<-e];exact h4⟩;rw[<-e];unfold Ib;rw[<-hl];exact Aob hm (by omega)
 . rename_i h4;exact absurd (congrArg Prod.fst h) h4
theorem Fm {k:ByteArray} {o:List (ByteArray×Val)}:(Ax k o).isSome=true ↔ k ∈ o.map (·.1):=by
 cases h:Ax k o with
 |none=>simp only[Option.isSome_none,Bool.false_eq_true,false_iff];exact Oj.1 h
 |some v=>
  simp only[Option.isSome_some,true_iff];exact List.mem_map.2 ⟨_,Gf h,rfl⟩
theorem Am3:Kz [A6,Cn,B5]:=by
 have h1:Md A6 Cn=true:=by decide+kernel
 have h2:Md A6 B5=true:=by decide+kernel
 have h3:Md Cn B5=true:=by decide+kernel
 simp only[Kz,List.pairwise_cons,List.mem_cons,List.not_mem_nil,or_false,forall_eq_or_imp,forall_eq,List.Pairwise.nil,and_true,false_imp_iff,implies_true];exact⟨⟨h1,h2⟩,h3⟩
theorem Am2:Kz [A6,Cn]:=by
 have h1:Md A6 Cn=true:=by decide+kernel
 simp only[Kz,List.pairwise_cons,List.mem_cons,List.not_mem_nil,or_false,forall_eq,List.Pairwise.nil,and_true,false_imp_iff,implies_true];exact h1
theorem Amq {o:List (ByteArray×Val)} (h:o.map (·.1)= [A6,Cn,B5]): ∃x z y,o= [(A6,x),(Cn,z),(B5,y)]:=by
 match o,h with
 | [(a,x),(b,z),(c,y)],h=>
   simp only[List.map_cons,List.map_nil,List.cons.injEq,and_true]at h;obtain⟨rfl,rfl,rfl⟩:=h;exact⟨x,z,y,rfl⟩
theorem Amp {o:List (ByteArray×Val)} (h:o.map (·.1)= [A6,Cn]): ∃x z,o= [(A6,x),(Cn,z)]:=by
 match o,h with
 | [(a,x),(b,z)],h=>
   simp only[List.map_cons,List.map_nil,List.cons.injEq,and_true]at h;obtain⟨rfl,rfl⟩:=h;exact⟨x,z,rfl⟩
theorem An7 {o:List (ByteArray×Val)} (ho:Ej o):(3=o.length/\(Ax A6 o).isSome=true/\(Ax Cn o).isSome=true/\(Ax B5 o).isSome=true) ↔ o.map (·.1)= [A6,Cn,B5]:=by
 rw[<-Qu ho Am3,Fm,Fm,Fm];simp
theorem An6 {o:List (ByteArray×Val)} (ho:Ej o):(2=o.length/\(Ax A6 o).isSome=true/\(Ax Cn o).isSome=true) ↔ o.map (·.1)= [A6,Cn]:=by
 rw[<-Qu ho Am2,Fm,Fm];simp
def Ks (s:ByteArray):Option (Int×Bool×Bool):=if s=Gt then some (1,true,true)else if s=H9 then some (2,true,false)else if s=Dt then some (3,false,false)else none
def D9 (v:Val):Int×POp:=
 if Av v≠6 then(9,Dr)else
 match Ax Cn (At v)with
 |none=>(10,Dr)
 |some nm=>if Av nm≠4 then(9,Dr)else
  match Ks (Ds nm)with
  |none=>(12,Dr)
  |some (k,fk,fv)=>
   if(Ax A6 (At v)).isSome≠fk\/(Ax B5 (At v)).isSome≠fv\/(At v).length≠1+(if fk then 1 else 0)+(if fv then 1 else 0)then(10,Dr)
   else if fk=true/\Av ((Ax A6 (At v)).getD Ll)≠4 then(9,Dr)
   else(0,⟨k,Ds ((Ax A6 (At v)).getD Ll),(Ax B5 (At v)).getD Ll⟩)
theorem Ahn:(Gt=Dt)=False:=eq_false (by decide)
theorem Agh:(H9=Dt)=False:=eq_false (by decide)
theorem Xa {v:Val} {d:Int} (hm:Ay v d=0):D9 v=C4 v:=by
 have ha:Ej (At v):=by
  obtain⟨k,b,n,t,l,o⟩:=v;exact(Lk (Ck hm).2.2.2.2).1
 unfold D9 C4;by_cases hk:Av v≠6
 . rw[if_pos hk,if_pos hk]
 rw[if_neg hk,if_neg hk];generalize At v=o at ha
 cases hnm:Ax Cn o with
 |none=>rfl
 |some nm=>
  simp only;by_cases h4:Av nm≠4
  . rw[if_pos h4,if_pos h4]
  rw[if_neg h4,if_neg h4];have hop:(Ax Cn o).isSome=true:=by rw[hnm];rfl
  unfold Ks;by_cases hp:Ds nm=Gt
  . simp only[hp,if_true,Ahn,if_false];by_cases hj:o.map (·.1)= [A6,Cn,B5]
    . obtain⟨x,z,y,rfl⟩:=Amq hj;have e1:Ax A6 [(A6,x),(Cn,z),(B5,y)]=some x:=by kernel_rfl
      have e2:Ax B5 [(A6,x),(Cn,z),(B5,y)]=some y:=by kernel_rfl
      rw[e1,e2];simp
    . have hc:(Ax A6 o).isSome≠true\/(Ax B5 o).isSome≠true\/o.length≠1+1+1:=by
       refine Classical.byContradiction fun hn=>hj ((An7 ha).1 ?_);simp only[not_or,Classical.not_not]at hn;exact⟨by omega,hn.1,hop,hn.2.1⟩
      rw[if_pos hc]
      split
      . rename_i a x b z c y;rw[if_neg];rintro⟨rfl,rfl,rfl⟩;exact hj rfl
      . rfl
  . simp only[hp,if_false];by_cases hd:Ds nm=H9
    . simp only[hd,if_true,Agh,if_false];by_cases hj:o.map (·.1)= [A6,Cn]
      . obtain⟨x,z,rfl⟩:=Amp hj;have e1:Ax A6 [(A6,x),(Cn,z)]=some x:=by kernel_rfl
        have e2:Ax B5 [(A6,x),(Cn,z)]=none:=by kernel_rfl
        rw[e1,e2];simp
      . have hc:(Ax A6 o).isSome≠true\/(Ax B5 o).isSome≠false\/o.length≠1+1+0:=by
         refine Classical.byContradiction fun hn=>hj ((An6 ha).1 ?_);simp only[not_or,Classical.not_not]at hn;exact⟨by omega,hn.1,hop⟩
        rw[if_pos (by simpa using hc)]
        split
        . rename_i a x b z;rw[if_neg];rintro⟨rfl,rfl⟩;exact hj rfl
        . rfl
    . simp only[hd,if_false];by_cases hcl:Ds nm=Dt
      . simp only[hcl,if_true];by_cases hl:o.length=1
        . rw[if_pos hl];obtain⟨q,rfl⟩:=List.length_eq_one_iff.1 hl;have hq:=List.mem_singleton.1 (Gf hnm);subst hq;have e1:Ax A6 [(Cn,nm)]=none:=by kernel_rfl
          have e2:Ax B5 [(Cn,nm)]=none:=by kernel_rfl
          rw[e1,e2];simp[Ll,Ds]
        . rw[if_neg hl,if_pos (Or.inr (Or.inr (by simpa using hl)))]
      . simp only[hcl,if_false]
end Go.Proofs.YtackmnbpfbaemaaGreatDoor
namespace Go.Proofs.YtackmnbpfbaemaaGreatDoor
open Go Go.RowKit
theorem Qq {a k:ByteArray} {v:Value} {r:List (ByteArray×Value)} (h:a≠k) (hr:Cy a r=none):Cy a ((k,v)::r)=none:=by
 simp only[Cy,if_neg h];exact hr
def Mp (s:ByteArray):Option Value:=(Ks s).map fun f=> .agg #[.int .i64 f.1,.bool f.2.1,.bool f.2.2]
set_option maxRecDepth 100000 in
theorem Yb (w:World):Calls Tryz.prog 91 #[] w fun e w'=> ∃g,e=.returned (.map (some g))/\w.heap.size<=g/\B9 w' g 3 Mp/\Below w.heap.size w w':=by
 have hmm:=fun W=>run_makeMap (P:=Tryz.prog) 159 W;have hB0:Below w.heap.size w (w.alloc (.map #[] 0)):=(Below.refl _ _).alloc (Nat.le_refl _) _;have hL0:=Cw.new (f:=Value.string) w;obtain⟨HB0,HL0⟩:=hid2 hB0 hL0;clear hB0 hL0;go_enter Tryz.func91,Tryz.ntmps91;go_wp2_with (first
  |((with_reducible refine Cd rfl (.tmp 1) _ _ 159 rfl Fg Tryz.underlying159 rfl HL0.out rfl rfl rfl ?_);intro w2 hM2 hg2 hs2;have HB2:=Lib.hid (HB0.out.grown hg2 HB0.out.size (fun k e=>(by cases e;exact Nat.le_refl _)));have HM2:=Lib.hid hM2;clear hM2 hg2 hs2 HL0 HB0)
  |((with_reducible refine Cd rfl (.tmp 1) _ _ 159 rfl Fg Tryz.underlying159 rfl HM2.out rfl rfl (Qq (by decide) rfl) ?_);intro w3 hM3 hg3 hs3;have HB3:=Lib.hid (HB2.out.grown hg3 HB2.out.size (fun k e=>(by cases e;exact Nat.le_refl _)));have HM3:=Lib.hid hM3;clear hM3 hg3 hs3 HM2 HB2)
  |((with_reducible refine Cd rfl (.tmp 1) _ _ 159 rfl Fg Tryz.underlying159 rfl HM3.out rfl rfl (Qq (by decide) (Qq (by decide) rfl)) ?_);intro w4 hM4 hg4 hs4;have HB4:=Lib.hid (HB3.out.grown hg4 HB3.out.size (fun k e=>(by cases e;exact Nat.le_refl _)));have HM4:=Lib.hid hM4;clear hM4 hg4 hs4 HM3 HB3))
 go_ret;refine⟨_,rfl,Nat.le_refl _,⟨_,HM4.out,rfl,fun k=> ?_⟩,HB4.out⟩;simp only[List.nil_append,List.cons_append,Cy,Mp,Ks];by_cases h0:k=Gt
 . rw[if_pos h0,if_pos h0];rfl
 rw[if_neg h0,if_neg h0];by_cases h1:k=H9
 . rw[if_pos h1,if_pos h1];rfl
 rw[if_neg h1,if_neg h1];by_cases h2:k=Dt
 . rw[if_pos h2,if_pos h2];rfl
 . rw[if_neg h2,if_neg h2];rfl
theorem T7 (k:Int) (fk fv:Bool) (w:World):Calls Tryz.prog 132 #[.agg #[.int .i64 k,.bool fk,.bool fv]] w fun e w'=>e=.returned (.int .i64 ((1+(if fk then 1 else 0)+(if fv then 1 else 0):Nat):Int))/\Below w.heap.size w w':=by
 have hb:=Aa w (.cells #[.int .i64 k,.bool fk,.bool fv] 209);have Hb:=Lib.hid hb;clear hb
 cases fk<;>cases fv
 all_goals
  go_enter Tryz.func132,Tryz.ntmps132;go_wp2;go_ret;exact⟨rfl,Hb.out⟩
abbrev Akg (Q:Nat):Value:=.func (.func 59) #[] #[.pointer (some ⟨Q,0,none⟩)]
theorem Vr (X:Nat) (w:World):Calls Tryz.prog 37 #[.pointer (some ⟨X,0,none⟩)] w fun e w'=> ∃g Q,e=.returned (.map (some g))/\w.heap.size<=g/\w.heap.size<=Q/\Q≠g/\An w' Q 111 #[.pointer (some ⟨X,0,none⟩)]/\B9 w' g 1 (fun k=>if k=A4 then some (Akg Q)else none)/\Below w.heap.size w w':=by
 have hmm:=fun W=>run_makeMap (P:=Tryz.prog) 103 W;have hB0:Below w.heap.size w ((w.alloc (.cells #[.pointer (some ⟨X,0,none⟩)] 111)).alloc (.map #[] 0)):=((Below.refl _ _).alloc (Nat.le_refl _) _).alloc (by simp) _;have hL0:=Cw.new (f:=Value.string) (w.alloc (.cells #[.pointer (some ⟨X,0,none⟩)] 111));have hQ0:An ((w.alloc (.cells #[.pointer (some ⟨X,0,none⟩)] 111)).alloc (.map #[] 0)) w.heap.size 111 #[.pointer (some ⟨X,0,none⟩)]:=(An.new _ _ _).alloc _;rw[World.size_alloc]at hL0;obtain⟨HB0,HL0,HQ0⟩:=hid3 hB0 hL0 hQ0;clear hB0 hL0 hQ0;go_enter Tryz.func37,Tryz.ntmps37;go_wp2_with ((with_reducible refine Cd rfl (.tmp 3) _ _ 103 rfl Fg Tryz.underlying103 rfl HL0.out rfl rfl rfl ?_);intro w2 hM2 hg2 hs2;have HQ2:=Lib.hid (HQ0.out.grown hg2 (by simp));have HB2:=Lib.hid (HB0.out.grown hg2 (by simp;omega) (fun k e=>(by cases e;exact Nat.le_succ _)));have HM2:=Lib.hid hM2;clear hM2 hg2 hs2 HL0 HB0 HQ0);go_ret;refine⟨_,_,rfl,Nat.le_succ _,Nat.le_refl _,by omega,HQ2.out,⟨_,HM2.out,rfl,fun k=> ?_⟩,HB2.out⟩;simp only[List.nil_append,Cy];rfl
set_option maxRecDepth 100000 in
theorem Vt (s:ByteArray) (k:Nat) (w:World) (hs:s.size<=1000000000) (hk:k<s.size):
 Calls Tryz.prog 174 #[.string s,.int .i64 k] w (Gv w ((Ei s.data.toList k).map Sw)):=by
 obtain⟨F,hF⟩: ∃F,(if s.data.toList[k]? =some 45 then k+1 else k)=F:=⟨_,rfl⟩;obtain⟨RES,hRES⟩: ∃r,(Ei s.data.toList k).map Sw=r:=⟨_,rfl⟩;rw[hRES];unfold Ei at hRES;rw[hF]at hRES;have hFk:k<=F/\F<=k+1:=by rw[<-hF];split<;>omega
 have hB0:=RBx.start w;have hIs: ∀W,Calls Tryz.prog 208 #[.string s,.int .i64 k,.int .u8 45] W fun e w'=>e=.returned (.bool (decide (s.data.toList[k]? =some 45)))/\W=w':=fun W=>Gs (s:=s) (k:=k) (c:=45) (B:=decide (s.data.toList[k]? =some 45)) rfl W hs (by omega);obtain⟨M,hM⟩: ∃M,decide (s.data.toList[k]? =some 45)=M:=⟨_,rfl⟩;rw[hM]at hIs;have hMF:F=if M=true then k+1 else k:=by rw[<-hF,<-hM];simp
 obtain⟨HB0,HRES,HF,HIs,HM,HMF⟩:=hid6 hB0 hRES hF hIs hM hMF;clear hB0 hRES hF hIs hM hMF;go_enter Tryz.func174,Tryz.ntmps174;go_wp2_with (fail);generalize w.alloc (.cells Aj 39)=wb at HB0 ⊢;(with_reducible refine(HIs.out _).mono ?_);rintro e w1 ⟨rfl,rfl⟩;go_upto_if 16 with(fail);go_cut [7] (fun x wx=>x=.int .i64 (F:Nat)/\wx=wb)
 case first=>
  cases M with
  |true=>
   have eF:(k:Int)+1=(F:Int):=by have:=HMF.out;rw[if_pos rfl]at this;omega
   go_wp2;go_meet;exact⟨by rw[<-eF],rfl⟩
  |false=>
   have eF:k=F:=by have:=HMF.out;rw[if_neg (by decide)]at this;omega
   go_wp2;go_meet;exact⟨by rw[eF],rfl⟩
 obtain⟨rfl,rfl⟩:=hcut;clear HIs;have hd0:=Qn s.data.toList F;have hd1:=Qo (s:=s.data.toList) (p:=F) (by rw[Ab];omega);rw[Ab]at hd1;obtain⟨E,hE⟩: ∃E,Cu s.data.toList F=E:=⟨_,rfl⟩;rw[hE]at hd0 hd1;have HE:=Lib.hid hE;clear hE
 go_upto_block 0 with(fail)
 go_cut [8] (fun x wx=>x=.int .i64 (E:Nat)/\wx=wc)
 case first=>
  go_wp2_with (fail)
  go_loop [8] (fun i=> ∃j:Nat,F<=j/\j<=s.size/\i=.int .i64 (j:Nat)/\Hid (Cu s.data.toList j=E)) (fun i=>s.size - (intOf i).toNat)
  case atStart=>exact⟨F,Nat.le_refl _,by omega,rfl,HE⟩
  case round=>
   obtain⟨j,hjF,hj,rfl,hh⟩:=hrel;have j0:(0:Int)<=(j:Int):=by omega
   by_cases hlt:j<s.size
   . obtain⟨x,hx⟩: ∃x,s[j]=x:=⟨_,rfl⟩;have hxg:s.data.toList[j]? =some x:=by rw[Bh s hlt,hx]
     have hxl:=Bn x;have j1:decide ((j:Int)<(s.size:Int))=true:=decide_eq_true (by omega);have j2:(j:Int)<(s.size:Int):=by omega
     by_cases hdg:Dj x=true
     . have HN:Hid (Cu s.data.toList (j+1)=E):=by rw[<-Rq hxg hdg];exact hh
       unfold Dj at hdg;rw[decide_eq_true_iff]at hdg;have l1:decide ((48:Int)<=(x.toNat:Int))=true:=decide_eq_true (by omega);have l2:decide ((x.toNat:Int)<=57)=true:=decide_eq_true (by omega);clear hxg hh hdg;go_wp2
       go_round
       case rel=>exact⟨j+1,by omega,by omega,by go_num,HN⟩
       case measure=>simp[intOf];omega
     . have HN:Hid (j=E):=by rw[<-hh.out,Rr hxg (by simpa using hdg)];exact rfl
       unfold Dj at hdg;rw[decide_eq_true_iff]at hdg;clear hxg hh;by_cases h48:48<=x.toNat
       . have l1:decide ((48:Int)<=(x.toNat:Int))=true:=decide_eq_true (by omega);have l2:decide ((x.toNat:Int)<=57)=false:=decide_eq_false (by omega);go_wp2;go_meet;exact⟨by rw[HN.out],rfl⟩
       . have l1:decide ((48:Int)<=(x.toNat:Int))=false:=decide_eq_false (by omega);go_wp2;go_meet;exact⟨by rw[HN.out],rfl⟩
   . have HN:Hid (j=E):=by rw[<-hh.out,Tw (by rw[Ab];omega)];exact rfl
     have j1:decide ((j:Int)<(s.size:Int))=false:=decide_eq_false (by omega);clear hh;go_wp2;go_meet;exact⟨by rw[HN.out],rfl⟩
 obtain⟨rfl,rfl⟩:=hcut;obtain⟨r0,r1,r2,r3,r4,r5⟩:=Ao HB0.out.blk;have fz:=HB0.out.blk.frozen;have hlb:=HB0.out.blk.lt;have hxz:=HB0.out.many (.int .i64 0) (.bool false) (.int .i64 0) (.string ⟨#[]⟩) (.slice none 0 0) (.slice none 0 0);have hres:=HRES.out;unfold P8 at hres;rw[HE.out,HM.out]at hres;by_cases hEF:E=F
 . rw[if_pos hEF]at hres;subst hres;subst hEF;have e1:((E:Int)==(E:Int))=true:=by simp
   have Hxz:=Lib.hid hxz;clear hxz;go_wp2;exact bodyPost_ret (Af rfl rfl Hxz.out.blk) rfl ⟨Hxz.out.below,rfl⟩
 rw[if_neg hEF]at hres;have e1:((E:Int)==(F:Int))=false:=by rw[beq_eq_false_iff_ne];omega
 have hFs:F<s.size:=by omega
 have F0:(0:Int)<=(F:Int):=by omega
 have F1:(F:Int)<(s.size:Int):=by omega
 obtain⟨x,hx⟩: ∃x,s[F]=x:=⟨_,rfl⟩;have hxg:s.data.toList[F]? =some x:=by rw[Bh s hFs,hx]
 have hxl:=Bn x;rw[hxg]at hres;have hx48:((x.toNat:Int)==48)=decide (x=48):=by rw[show(48:Int)=((48:Nat):Int)from rfl,Iq (by decide)];rfl
 obtain⟨Z,hZ⟩: ∃Z,decide (x=48/\F+1<E)=Z:=⟨_,rfl⟩;obtain⟨HZ,Hxz,Hres,Hxg⟩:=hid4 hZ hxz hres hxg;clear hxz hres hxg;go_upto_region 9 with(fail);go_cut [52] (fun b wx=>b=.bool Z/\wx=wc)
 case first=>
  have hZ':=HZ.out;clear hZ;by_cases hz:x=48
  . have e48:decide (x=48)=true:=decide_eq_true hz;rw[e48]at hx48;by_cases hm:F+1<E
    . have e2:decide ((F:Int)+1<(E:Int))=true:=decide_eq_true (by omega);have e3:(F:Int)+1<(E:Int):=by omega
      rw[decide_eq_true ⟨hz,hm⟩]at hZ';subst hZ';clear hz e48;go_wp2;go_meet;exact⟨by simp,rfl⟩
    . have e2:decide ((F:Int)+1<(E:Int))=false:=decide_eq_false (by omega);have e3: ¬((F:Int)+1<(E:Int)):=by omega
      rw[decide_eq_false (fun q=>hm q.2)]at hZ';subst hZ';clear hz e48;go_wp2;go_meet;exact⟨by simp,rfl⟩
  . have e48:decide (x=48)=false:=decide_eq_false hz;rw[e48]at hx48;rw[decide_eq_false (fun q=>hz q.1)]at hZ';subst hZ';clear hz e48;go_wp2;go_meet;exact⟨by simp,rfl⟩
 obtain⟨rfl,rfl⟩:=hcut;clear hx48 hxl hx
 cases Z with
 |true=>
  have hz:=HZ.out;have hres:=Hres.out;rw[decide_eq_true_iff]at hz;rw[if_pos ⟨by rw[hz.1],hz.2⟩]at hres;subst hres;clear hz hZ;go_wp2;exact bodyPost_ret (Af rfl rfl Hxz.out.blk) rfl ⟨Hxz.out.below,rfl⟩
 |false=>
  have hz:=HZ.out;have hres:=Hres.out;rw[decide_eq_false_iff_not]at hz;rw[if_neg (fun q=>hz ⟨by simpa using q.1,q.2⟩)]at hres;clear hz hZ HZ Hres Hxg;have Hres:=Lib.hid hres;clear hres;go_wp2
  go_loop [10,11] (fun n i=> ∃j D:Nat,F<=j/\j<=E/\i=.int .i64 (j:Nat)/\n=.int .i64 (-(D:Int))/\D<=9223372036854775808/\Hid (D=Sr s.data.toList F (j - F))) (fun _ i=>E - (intOf i).toNat)
  case atStart=>exact⟨F,0,Nat.le_refl _,by omega,rfl,rfl,by omega,by rw[Nat.sub_self,Agj];exact rfl⟩
  case round=>
   obtain⟨j,D,hjF,hj,rfl,rfl,hD,hh⟩:=hrel;have j0:(0:Int)<=(j:Int):=by omega
   by_cases hlt:j<E
   . have hls:j<s.size:=by omega
     obtain⟨x,hx⟩: ∃x,s[j]=x:=⟨_,rfl⟩;have hxg:s.data.toList[j]? =some x:=by rw[Bh s hls,hx]
     have hxl:=Bn x;have hdig:=Oh s.data.toList F j x hjF (by rw[HE.out];exact hlt) hxg;unfold Dj at hdig;rw[decide_eq_true_iff]at hdig;have j1:decide ((j:Int)<(E:Int))=true:=decide_eq_true (by omega);have j2:(j:Int)<(s.size:Int):=by omega
     obtain⟨d,hd⟩: ∃d,x.toNat - 48=d:=⟨_,rfl⟩;have hd9:d<=9:=by omega
     have c1:IntKind.i64.wrap ((x.toNat:Int) - 48)=(d:Int):=by rw[IntWalk.i64_in _ (by omega)];omega
     have c2:IntKind.i64.wrap (-9223372036854775808+(d:Int))= -9223372036854775808+(d:Int):=IntWalk.i64_in _ (by omega);by_cases hov:9223372036854775808<D*10+d
     . have t:=(Abr (D:=D) hd9).2 hov;have hr:=Hres.out;have hge:=Agi (s:=s.data.toList) (f:=F) (k:=j - F+1) (m:=E - F) (by omega);rw[Wj (c:=x) (by rw[show F+(j - F)=j by omega];exact hxg),<-hh.out,hd]at hge;have hbad:Fh M (F2 ((s.data.toList.drop F).take (E - F))) k E=.bad 7 k:=by
        unfold Sr at hge;unfold Fh
        split
        . rw[if_pos (.inr (by omega))]
        . rw[if_pos (by omega)]
       rw[hbad]at hr;subst hr;clear Hres hbad hge hh hxg hdig hd hov HRES;go_wp2;exact bodyPost_ret (Af rfl rfl Hxz.out.blk) rfl ⟨Hxz.out.below,rfl⟩
     . have t:Int.tdiv (-9223372036854775808+(d:Int)) 10<= -(D:Int):=Int.not_lt.1 fun q=>hov ((Abr hd9).1 q);have c4:wrap64 (10* -(D:Int))=10* -(D:Int):=by unfold wrap64;omega
       have c5:wrap64 (10* -(D:Int) - (d:Int))= -((D*10+d:Nat):Int):=by unfold wrap64;omega
       have HN:Hid (D*10+d=Sr s.data.toList F (j+1 - F)):=by
        show _=_;rw[show j+1 - F=j - F+1 by omega,Wj (c:=x) (by rw[show F+(j - F)=j by omega];exact hxg),<-hh.out,hd]
       clear hh hxg hdig hd;go_wp2
       go_round
       case rel=>exact⟨j+1,D*10+d,by omega,by omega,by go_num,by rw[show(10* -(D:Int) - (d:Int))= -((D*10+d:Nat):Int)by omega],by omega,HN⟩
       case measure=>simp[intOf];omega
   . obtain rfl:j=E:=by omega
     have j1:decide ((j:Int)<(j:Int))=false:=decide_eq_false (by omega);have hr:=Hres.out;rw[show F2 ((s.data.toList.drop F).take (j - F))=D from by have:=hh.out;unfold Sr at this;exact this.symm]at hr;have hmf:=HMF.out;clear Hres hh
     cases M with
     |true=>
      rw[if_pos rfl]at hmf;have e2:((F:Int)==(k:Int))=false:=by rw[beq_eq_false_iff_ne];omega
      unfold Fh at hr;rw[if_pos rfl]at hr;by_cases h0:D=0
      . subst h0;rw[if_pos (.inl rfl)]at hr;subst hr;clear hmf;go_wp2;exact bodyPost_ret (Af rfl rfl Hxz.out.blk) rfl ⟨Hxz.out.below,rfl⟩
      . rw[if_neg (by omega)]at hr;subst hr;have e3:(-(D:Int)==0)=false:=by rw[beq_eq_false_iff_ne];omega
        have hxf:=HB0.out.many (.int .i64 3) (.bool false) (.int .i64 (-(D:Int))) (.string ⟨#[]⟩) (.slice none 0 0) (.slice none 0 0);clear hmf;have Hxf:=Lib.hid hxf;clear hxf;go_wp2;exact bodyPost_ret (Af rfl rfl Hxf.out.blk) rfl ⟨Hxf.out.below,⟨_,rfl,Cb 3 false _ _⟩⟩
     |false=>
      rw[if_neg (by decide)]at hmf;have e2:((F:Int)==(k:Int))=true:=by rw[hmf];simp
      unfold Fh at hr;rw[if_neg (by decide)]at hr;by_cases h0:D=9223372036854775808
      . subst h0;rw[if_pos (by omega)]at hr;subst hr;clear hmf;go_wp2;exact bodyPost_ret (Af rfl rfl Hxz.out.blk) rfl ⟨Hxz.out.below,rfl⟩
      . rw[if_neg (by omega)]at hr;subst hr;have e3:(-(D:Int)== -9223372036854775808)=false:=by rw[beq_eq_false_iff_ne];omega
        have c6:IntKind.i64.wrap (- -(D:Int))=(D:Int):=by rw[IntWalk.i64_in _ (by omega)];omega
        have c7:wrap64 (- -(D:Int))=(D:Int):=by unfold wrap64;omega
        have c8:wrap64 (D:Int)=(D:Int):=by unfold wrap64;omega
        have hxf:=HB0.out.many (.int .i64 3) (.bool false) (.int .i64 (D:Int)) (.string ⟨#[]⟩) (.slice none 0 0) (.slice none 0 0);clear hmf;have Hxf:=Lib.hid hxf;clear hxf;go_wp2;exact bodyPost_ret (Af rfl rfl Hxf.out.blk) rfl ⟨Hxf.out.below,⟨_,rfl,Cb 3 false _ _⟩⟩
def Afa (s:ByteArray) (f:Nat):Prop:= ∀(w:World) (k:Nat) (d:Int),k<=s.size->4*(s.size - k)+1<=f->0<=d->d<=65->
    Calls Tryz.prog 129 #[.string s,.int .i64 k,.int .i64 d] w (Gv w (Bq f s.data.toList k d))
structure RB2 (w W:World) (V:Value):Prop where
 res:RBx w W Aj
 var:An W (w.heap.size+1) 39 #[.int .i64 5,.bool false,.int .i64 0,.string ⟨#[]⟩,V,.slice none 0 0]
theorem RB2.later {w W W':World} {V:Value} (h:RB2 w W V) (t:Below W.heap.size W W'):RB2 w W' V:=⟨h.res.later t,h.var.below t h.var.lt⟩
theorem RB2.grown {w W W':World} {V V0:Value} (h:RB2 w W V) (t:W.grownBy W' V0.ownBlock) (hV: ∀g,V0.ownBlock=some g->w.heap.size+2<=g):RB2 w W' V:=
 ⟨⟨h.res.below.grown t h.res.below.size (fun k hk=>by have:=hV k hk;omega),h.res.blk.grown t (fun e=>by have:=hV _ e.symm;omega)⟩,h.var.grown t (fun e=>by have:=hV _ e.symm;omega)⟩
theorem RB2.set {w W:World} {V:Value} (h:RB2 w W V) (V':Value):RB2 w (W.setCell ⟨w.heap.size+1,4,none⟩ V') V':=
 ⟨⟨h.res.below.setCell (by simp) _,h.res.blk.far (by simp) _⟩,h.var.set_ 4 V'⟩
structure LRf (w wr:World) (s:ByteArray) (d:Int) (RES:Rd Val) (f n j:Nat) (acc:List Val) (V:Value):Prop where
 all:RB2 w wr V
 row:C7 (w.heap.size+2) 39 6 wr (dL acc) V
 is:Fe n s.data.toList j d acc=RES
 fuel:4*(s.size - j)+2<=n
 lt:n<f
 few:acc.length<=j
set_option maxRecDepth 100000 in
theorem Abp (s:ByteArray) (f:Nat) (ih: ∀f',f'<f->Afa s f') (w:World) (k:Nat) (d:Int) (hs:s.size<=16000000) (hk:k<s.size) (hf:4*(s.size - k)<=f) (hd0:0<=d) (hd:d<=64):
 Calls Tryz.prog 175 #[.string s,.int .i64 ((k+1:Nat):Int),.int .i64 d] w (Gv w (Jm f s.data.toList k d)):=by
 obtain⟨j0,hj,hy0,hy1,hy2⟩:=info_parts Uy;obtain⟨f,rfl⟩: ∃n,f=n+1:=⟨f - 1,by omega⟩;have hP:=B3 (s:=s) (k:=k+1) (by omega);have hP1:=B6 s.data.toList (k+1);have hpast:=fun W=>Em s (k+1) W (by omega) (by omega);have hI0:RB2 w ((w.alloc (.cells Aj 39)).alloc (.cells #[.int .i64 5,.bool false,.int .i64 0,.string ⟨#[]⟩,.slice none 0 0,.slice none 0 0] 39)) (.slice none 0 0):=
  ⟨(RBx.start w).later (Aa _ _),by simpa using An.new (w.alloc (.cells Aj 39)) 39 #[.int .i64 5,.bool false,.int .i64 0,.string ⟨#[]⟩,.slice none 0 0,.slice none 0 0]⟩
 obtain⟨RES,hRES⟩: ∃r,Jm (f+1) s.data.toList k d=r:=⟨_,rfl⟩;rw[hRES];unfold Jm at hRES;have hBB: ∀B,decide (s.data.toList[Ar s.data.toList (k+1)]? =some 93)=B-> ∀W,Calls Tryz.prog 208 #[.string s,.int .i64 (Ar s.data.toList (k+1):Nat),.int .u8 93] W fun e w'=>e=.returned (.bool B)/\W=w':=fun B hB W=>Gs hB W (by omega) hP;obtain⟨k1,hk1⟩: ∃k1,k+1=k1:=⟨_,rfl⟩;rw[hk1]at hRES hP hP1 hpast hBB ⊢;have hk1':k+1<=k1:=by omega
 clear hk1;generalize Ar s.data.toList k1=p1 at hRES hP hP1 hpast hBB
 cases hB:decide (s.data.toList[p1]? =some 93)with
 |true=>
  have hIs:=hBB _ hB;have hc:=hB;rw[decide_eq_true_iff]at hc;rw[if_pos hc]at hRES;subst hRES;clear hc hBB hB;obtain⟨Hj,Hy0,Hy1,Hy2,Ih,HI0,Hpast,HIs⟩:=hid8 hj hy0 hy1 hy2 ih hI0 hpast hIs;clear hj hy0 hy1 hy2 ih hI0 hpast hIs;go_enter Tryz.func175,Tryz.ntmps175;go_wp2_with (fail);generalize (w.alloc (.cells Aj 39)).alloc (.cells #[.int .i64 5,.bool false,.int .i64 0,.string ⟨#[]⟩,.slice none 0 0,.slice none 0 0] 39)=wb at HI0 ⊢;(with_reducible refine(Hpast.out _).mono ?_);rintro e w1 ⟨rfl,rfl⟩;go_wp2_with (fail);(with_reducible refine(HIs.out _).mono ?_);rintro e w1 ⟨rfl,rfl⟩;obtain⟨y0,y1,y2,y3,y4,y5⟩:=Ao HI0.out.var;have fz:=HI0.out.res.blk.frozen;obtain⟨r0,r1,r2,r3,r4,r5⟩:=Ao HI0.out.res.blk;have hxf:=HI0.out.res.many (.int .i64 5) (.bool false) (.int .i64 0) (.string ⟨#[]⟩) (.slice none 0 0) (.slice none 0 0);have Hxf:=Lib.hid hxf;clear hxf;go_wp2;exact bodyPost_ret (Af rfl rfl Hxf.out.blk) rfl ⟨Hxf.out.below,⟨_,rfl,Cb 5 false 0 _⟩⟩
 |false=>
  have hIs:=hBB _ hB;have hc:=hB;rw[decide_eq_false_iff_not]at hc;rw[if_neg hc]at hRES;clear hc hBB hB;have HL0:Hid (∀wb,RB2 w wb (.slice none 0 0)->LRf w wb s d RES (f+1) f p1 [] (.slice none 0 0)):=fun wb hb=>⟨hb,by simpa[dL]using C7.nil _ _ _ _,hRES,by omega,by omega,by simp⟩;obtain⟨Hj,Hy0,Hy1,Hy2,Ih,HI0,Hpast,HIs⟩:=hid8 hj hy0 hy1 hy2 ih hI0 hpast hIs;clear hj hy0 hy1 hy2 ih hI0 hpast hIs;clear hRES;go_enter Tryz.func175,Tryz.ntmps175;go_wp2_with (fail);generalize (w.alloc (.cells Aj 39)).alloc (.cells #[.int .i64 5,.bool false,.int .i64 0,.string ⟨#[]⟩,.slice none 0 0,.slice none 0 0] 39)=wb at HI0 ⊢;(with_reducible refine(Hpast.out _).mono ?_);rintro e w1 ⟨rfl,rfl⟩;go_wp2_with (fail);(with_reducible refine(HIs.out _).mono ?_);rintro e w1 ⟨rfl,rfl⟩;go_wp2
  go_loopg [1] f (fun n a wr=> ∃m j acc V,m=n/\j<=s.size/\a=.int .i64 (j:Nat)/\Hid (LRf w wr s d RES (f+1) n j acc V))
  case atStart=>exact⟨f,p1, [],_,rfl,hP,rfl,HL0.out _ HI0.out⟩
  case round=>
   obtain⟨n,j,acc,V,rfl,hj,rfl,hh⟩:=hrel;clear HL0 hP hP1 HI0 Hpast HIs;have hn2:=hh.out.fuel;have hnf:=hh.out.lt;have hfw:=hh.out.few;obtain⟨n,rfl⟩: ∃m,n=m+1:=⟨n - 1,by omega⟩;have hI:=hh.out.all;have hrow:=hh.out.row;have his:=hh.out.is;obtain⟨aV,cV,rfl⟩:=hrow.slice;have hC:=Ih.out n (by omega) wr j (d+1) hj (by omega) (by omega) (by omega);have hw:=(Eb n).1 s.data.toList j (d+1) (by rw[Ab];exact hj);unfold Fe at his;have ewr:IntKind.i64.wrap (d+1)=d+1:=IntWalk.i64_in _ (by omega);have dl:(dL acc).length=acc.length:=Lz _
   cases hr:Bq n s.data.toList j (d+1)with
   |bad c q=>
    rw[hr]at hC his;simp only at his;subst his;have hc0:(c==0)=false:=by
     have:=(Eb n).1 s.data.toList j (d+1) (by rw[Ab];exact hj);rw[hr]at this;have:=this.2.2.1;rw[beq_eq_false_iff_ne];omega
    have hc1:(c != 0)=true:=by simp[bne,hc0]
    obtain⟨HC,HI,Dl,Hrow⟩:=hid4 hC hI dl hrow;clear hC hI dl hrow;clear hw hr hh;go_wp2_with (fail);(with_reducible refine(HC.out).mono ?_);rintro e w4 ⟨hb4,rfl⟩;have hI4:=HI.out.later hb4;have hxf:=(hI4.res.many (.int .i64 0) (.bool false) (.int .i64 0) (.string ⟨#[]⟩) (.slice none 0 0) (.slice none 0 0)).later (Aa _ (.cells Aj 39));obtain⟨r0,r1,r2,r3,r4,r5⟩:=Ao hI4.res.blk;have fz4:=hI4.res.blk.frozen;have hlt4:=hI4.res.blk.lt;obtain⟨Hxf,HI4⟩:=hid2 hxf hI4;clear hxf hI4;clear hb4;go_wp2;exact bodyPost_ret (Af rfl rfl Hxf.out.blk) rfl ⟨Hxf.out.below,rfl⟩
   |ok v q=>
    rw[hr]at hC his hw;simp only at his;obtain⟨hw1,hw2⟩:=hw;rw[Ab]at hw2;obtain⟨k',b',n',t',l',o'⟩:=v;have htk:dL acc++ [dV (.mk k' b' n' t' l' o')]=dL (acc++ [.mk k' b' n' t' l' o']):=by rw[Gz,Gz];simp
    have HLo:Hid ((dL acc).length+1<=maxLen/\((dL acc).length+1)*88<=140737488355328):=by rw[dl];exact⟨by simp only[maxLen];omega,by omega⟩
    have hq':Ar s.data.toList q<=s.size:=B3 hw2;have hq1:=B6 s.data.toList q;have hpast:=fun W=>Em s q W (by omega) hw2;have h93: ∀B,decide (s.data.toList[Ar s.data.toList q]? =some 93)=B-> ∀W,Calls Tryz.prog 208 #[.string s,.int .i64 (Ar s.data.toList q:Nat),.int .u8 93] W fun e w'=>e=.returned (.bool B)/\W=w':=fun B hB W=>Gs hB W (by omega) hq';have h44: ∀B,decide (s.data.toList[Ar s.data.toList q]? =some 44)=B-> ∀W,Calls Tryz.prog 208 #[.string s,.int .i64 (Ar s.data.toList q:Nat),.int .u8 44] W fun e w'=>e=.returned (.bool B)/\W=w':=fun B hB W=>Gs hB W (by omega) hq';generalize Ar s.data.toList q=pq at hq' hq1 hpast h93 h44 his;have hrs:=hI.var.lt;obtain⟨HC,HI,Dl,Htk,His,Hrow,Hpast,H93,H44⟩:=hid9 hC hI dl htk his hrow hpast h93 h44;clear hC hI dl htk his hrow hpast h93 h44;clear hh hr;go_wp2_with (fail);(with_reducible refine(HC.out).mono ?_);rintro e w4 ⟨hb4,cs,rfl,hf4⟩;obtain⟨la4,lc4,oa4,oc4,rfl⟩:=Ct hf4;have hI4:=HI.out.later hb4;obtain⟨y0,y1,y2,y3,y4,y5⟩:=Ao hI4.var;have hlt4:=hI4.var.lt;have hsz4:=hb4.size;have hbe:=(hb4.alloc hb4.size (.cells #[.int .i64 k',.bool b',.int .i64 n',.string t',.slice la4 l'.length lc4,.slice oa4 o'.length oc4] 39)).alloc (by simp;omega) (.cells #[.int .i64 k',.bool b',.int .i64 n',.string t',.slice la4 l'.length lc4,.slice oa4 o'.length oc4] 39);have hfe:=(hf4.later (Aa w4 (.cells #[.int .i64 k',.bool b',.int .i64 n',.string t',.slice la4 l'.length lc4,.slice oa4 o'.length oc4] 39))).later (Aa _ (.cells #[.int .i64 k',.bool b',.int .i64 n',.string t',.slice la4 l'.length lc4,.slice oa4 o'.length oc4] 39));have hI5:=(hI4.later (Aa w4 (.cells #[.int .i64 k',.bool b',.int .i64 n',.string t',.slice la4 l'.length lc4,.slice oa4 o'.length oc4] 39))).later (Aa _ (.cells #[.int .i64 k',.bool b',.int .i64 n',.string t',.slice la4 l'.length lc4,.slice oa4 o'.length oc4] 39));have hrd:Bt ((w4.alloc (.cells #[.int .i64 k',.bool b',.int .i64 n',.string t',.slice la4 l'.length lc4,.slice oa4 o'.length oc4] 39)).alloc (.cells #[.int .i64 k',.bool b',.int .i64 n',.string t',.slice la4 l'.length lc4,.slice oa4 o'.length oc4] 39)) (w4.heap.size+1+1) 6 (some ⟨w4.heap.size+1,0,none⟩) 1 [.int .i64 k',.bool b',.int .i64 n',.string t',.slice la4 l'.length lc4,.slice oa4 o'.length oc4]:=by simpa using Lo (w4.alloc (.cells #[.int .i64 k',.bool b',.int .i64 n',.string t',.slice la4 l'.length lc4,.slice oa4 o'.length oc4] 39)) (.int .i64 k') (.bool b') (.int .i64 n') (.string t') (.slice la4 l'.length lc4) (.slice oa4 o'.length oc4)
    obtain⟨Hbe,Hfe,HI5,Hrd,HI4,Hb4,Hf4⟩:=hid7 hbe hfe hI5 hrd hI4 hb4 hf4;clear hbe hfe hI5 hrd hI4 hb4 hf4;go_wp2_with (at_builtin;apply Shut.out);unfold Shut;refine Do (d:=dV (.mk k' b' n' t' l' o')) (V:=.slice aV (dL acc).length cV) rfl (.tmp 38) (.tmp 40) 36 rfl Tryz.underlying36 Hj.out Hy0.out Hy1.out Hy2.out rfl (by omega) rfl Hrow.out (by omega) Hbe.out (Eh _) Hfe.out rfl Hrd.out HLo.out.1 HLo.out.2 ?_;intro V6 w6 hrow6 hg6 hat6;have hI6:=HI5.out.grown hg6 (fun r e=>(Hrow.out.base r e).1);rw[Htk.out]at hrow6;obtain⟨a6,c6,rfl⟩:=hrow6.slice;have e6:=hI6.var.cell 4;have f6:=hI6.var.frozen 4;have hlt6:=hI6.var.lt;have hI7:=hI6.set (.slice a6 (dL (acc++ [Val.mk k' b' n' t' l' o'])).length c6);have hrow7:=hrow6.keep (w':=w6.setCell ⟨w.heap.size+1,4,none⟩ (.slice a6 (dL (acc++ [Val.mk k' b' n' t' l' o'])).length c6)) (by simp[World.setCell]) (fun i h1 _=>Below.heap_setCell _ _ _ _ (by simp;omega));obtain⟨HI6,Hrow6,HI7,Hrow7⟩:=hid4 hI6 hrow6 hI7 hrow7;clear hI6 hrow6 hI7 hrow7;clear hg6 hat6 Hbe Hfe HI5 Hrd HI4 Hb4 Hf4 y0 y1 y2 y3 y4 y5 hlt4 hsz4;go_wp2_with (fail);generalize w6.setCell ⟨w.heap.size+1,4,none⟩ (.slice a6 (dL (acc++ [Val.mk k' b' n' t' l' o'])).length c6)=w7 at HI7 Hrow7 ⊢;clear e6 f6 hlt6 HI6 Hrow6;(with_reducible refine(Hpast.out _).mono ?_);rintro e w8 ⟨rfl,rfl⟩;obtain⟨r0,r1,r2,r3,r4,r5⟩:=Ao HI7.out.res.blk;have fz7:=HI7.out.res.blk.frozen;have hlt7:=HI7.out.res.blk.lt
    cases hB:decide (s.data.toList[pq]? =some 93)with
    |true=>
     have hIs:=H93.out _ hB;have his:=His.out;rw[decide_eq_true_iff]at hB;rw[if_neg (by rw[hB];decide),if_pos hB]at his;subst his;obtain⟨y0,y1,y2,y3,y4,y5⟩:=Ao HI7.out.var;obtain⟨a',c',ee,_,hfr,_⟩:=Hrow7.out.close
     cases ee
     have hxf:=HI7.out.res.many (.int .i64 5) (.bool false) (.int .i64 0) (.string ⟨#[]⟩) (.slice a6 (dL (acc++ [Val.mk k' b' n' t' l' o'])).length c6) (.slice none 0 0);have hff:=Wp (hfr.keep (b':=w.heap.size) (w':=A1 w7 w.heap.size 0 [.int .i64 5,.bool false,.int .i64 0,.string ⟨#[]⟩,.slice a6 (dL (acc++ [Val.mk k' b' n' t' l' o'])).length c6,.slice none 0 0]) (by omega) (by rw[Ba];exact Nat.le_refl _) (fun p p1 p2=>World.cell?_of_block (Aw _ _ _ _ _ (by omega))));obtain⟨Hxf,Hff,HIs,Hfr⟩:=hid4 hxf hff hIs hfr;clear hxf hff hIs hfr;clear hB;go_wp2_with (fail);(with_reducible refine(HIs.out _).mono ?_);rintro e w8 ⟨rfl,rfl⟩;go_wp2;exact bodyPost_ret (Af rfl rfl Hxf.out.blk) rfl ⟨Hxf.out.below,⟨_,rfl,Hff.out⟩⟩
    |false=>
     have hIs:=H93.out _ hB;have his:=His.out;rw[decide_eq_false_iff_not]at hB;clear His
     cases hB4:decide (s.data.toList[pq]? =some 44)with
     |true=>
      have hIs4:=H44.out _ hB4;rw[decide_eq_true_iff]at hB4;rw[if_pos hB4]at his;have hlt:=De hB4;rw[Ab]at hlt;have HN:Hid (LRf w w7 s d RES (f+1) n (pq+1) (acc++ [Val.mk k' b' n' t' l' o']) (.slice a6 (dL (acc++ [Val.mk k' b' n' t' l' o'])).length c6)):=⟨HI7.out,Hrow7.out,his,by omega,by omega,by simp;omega⟩;obtain⟨HIs,HIs4⟩:=hid2 hIs hIs4;clear hIs hIs4;clear hB hB4 his;go_wp2_with (fail);(with_reducible refine(HIs.out _).mono ?_);rintro e w8 ⟨rfl,rfl⟩;go_wp2_with (fail);(with_reducible refine(HIs4.out _).mono ?_);rintro e w8 ⟨rfl,rfl⟩;go_wp2
      go_roundg n
      case measure=>omega
      case rel=>exact⟨n,_,_,_,rfl,by omega,by go_num,HN⟩
     |false=>
      have hIs4:=H44.out _ hB4;rw[decide_eq_false_iff_not]at hB4;rw[if_neg hB4,if_neg hB]at his;subst his;have hxf:=HI7.out.res.many (.int .i64 0) (.bool false) (.int .i64 0) (.string ⟨#[]⟩) (.slice none 0 0) (.slice none 0 0);obtain⟨HIs,HIs4,Hxf⟩:=hid3 hIs hIs4 hxf;clear hIs hIs4 hxf;clear hB hB4;go_wp2_with (fail);(with_reducible refine(HIs.out _).mono ?_);rintro e w8 ⟨rfl,rfl⟩;go_wp2_with (fail);(with_reducible refine(HIs4.out _).mono ?_);rintro e w8 ⟨rfl,rfl⟩;go_wp2;exact bodyPost_ret (Af rfl rfl Hxf.out.blk) rfl ⟨Hxf.out.below,rfl⟩
theorem Pb (c k:Int) (w:World) (h0:0<=c):Calls Tryz.prog 8 #[.agg #[.int .u64 c,.int .u64 k]] w fun e w'=>e=.returned (.int .i64 (Cv c k))/\Below w.heap.size w w':=by
 have hw:Below w.heap.size w (w.alloc (.cells #[.int .u64 c,.int .u64 k] 24)):=(Below.refl _ _).alloc (Nat.le_refl _) _;by_cases hc:c=0
 . subst hc;have hm:Cv 0 k=2:=by unfold Cv;rw[if_neg (by omega)]
   obtain⟨Hm,Hw⟩:=hid2 hm hw;clear hm hw;go_enter Tryz.func8,Tryz.ntmps8;go_wp2;go_ret;exact⟨by rw[Hm.out];rfl,Hw.out⟩
 have e0:(c==0)=false:=by simpa using hc
 by_cases h2:c<=4611686018427387903
 . by_cases h3:k<=4611686018427387903
   . have hm:Cv c k=0:=by unfold Cv;rw[if_pos ⟨by omega,h2,h3⟩]
     obtain⟨Hm,Hw⟩:=hid2 hm hw;clear hm hw;go_enter Tryz.func8,Tryz.ntmps8;go_wp2;go_ret;exact⟨by rw[Hm.out];rfl,Hw.out⟩
   . have hm:Cv c k=2:=by unfold Cv;rw[if_neg (by omega)]
     have h4:4611686018427387903<k:=by omega
     obtain⟨Hm,Hw⟩:=hid2 hm hw;clear hm hw;clear h3;go_enter Tryz.func8,Tryz.ntmps8;go_wp2;go_ret;exact⟨by rw[Hm.out];rfl,Hw.out⟩
 . have hm:Cv c k=2:=by unfold Cv;rw[if_neg (by omega)]
   have h4:4611686018427387903<c:=by omega
   obtain⟨Hm,Hw⟩:=hid2 hm hw;clear hm hw;clear h2;go_enter Tryz.func8,Tryz.ntmps8;go_wp2;go_ret;exact⟨by rw[Hm.out];rfl,Hw.out⟩
end Go.Proofs.YtackmnbpfbaemaaGreatDoor
