/- Parts, joined: value.Object: members in order, each once, or ErrKey. Condition: a bulk of at most 10^8. value.Object, walked: members in order, each once, or ErrKey. Condition: a bulk of at most 9 * 10^7. Objects of the call's own, given back: laws that all encoders use. Condition: a bulk of at most 9 * 10^7. The reference's own values: Int, Text, Object, List; rows that share old memory. No condition. -/
import Derived.Test.YtackmnbpfbaemaaGreatDoorProg
import Derived.IntWalk
import Derived.Test.YtackmnbpfbaemaaGreatDoorKAs15
import Derived.Test.YtackmnbpfbaemaaGreatDoorKAs18
import Derived.Test.YtackmnbpfbaemaaGreatDoorKAs23
import Derived.Test.YtackmnbpfbaemaaGreatDoorKAs24
import Derived.Test.YtackmnbpfbaemaaGreatDoorKAs26
import Derived.Test.YtackmnbpfbaemaaGreatDoorKAs27
namespace Go.Proofs.YtackmnbpfbaemaaGreatDoor
open Go.RowKit
theorem toMx {w:World} {B:Nat}: ∀{o:List (ByteArray×Val)} {ns:List Value},HoldsA w B (dO o) ns→ ∃d:List Mx,d.map memM=o∧ns=d.flatMap encM∧ ∀x ∈ d,Holds w B (dP (memM x)) (encM x)
 | [],ns,h=>by
   have:ns= []:=h
   subst this
   exact⟨[],rfl,rfl,fun x hx=>by cases hx⟩
 |(key,v)::r,ns,h=>by
  obtain⟨c1,c2,rfl,h1,h2⟩:=h
  obtain⟨d,e1,e2,e3⟩:=toMx h2
  have h1':=h1
  obtain⟨_,cv,rfl,⟨rfl,_⟩,c3,c4,rfl,h3,rfl⟩:=h1
  obtain⟨k,b,n,t,l,o⟩:=v
  have h4:=holdsV_of _ _ h3
  simp only[HoldsV]at h4
  obtain⟨la,lc,oa,oc,rfl,_,_⟩:=h4
  refine⟨(key, .mk k b n t l o,(la,lc),oa,oc)::d,by simp[memM,e1],by rw[e2];rfl,fun x hx=> ?_⟩
  rcases List.mem_cons.1 hx with rfl|hx
  · simp only[List.append_nil,List.cons_append,List.nil_append]at h1'
    exact h1'
  · exact e3 x hx
theorem ofMx {w:World} {B:Nat}: ∀{d:List Mx},(∀x ∈ d,Holds w B (dP (memM x)) (encM x))→HoldsA w B (dO (d.map memM)) (d.flatMap encM)
 | [],_=>rfl
 |x::d,h=>⟨encM x,d.flatMap encM,rfl,h x (by simp),ofMx fun y hy=>h y (by simp[hy])⟩
theorem flat_get: ∀(d:List Mx) (i j:Nat),i<d.length→j<7→(d.flatMap encM)[i*7+j]? =some (encM d[i]!)[j]!
 | [],i,j,hi,_=>by simp at hi
 |x::d,0,j,_,hj=>by
  have hl:=encM_len x
  rw[List.flatMap_cons,List.getElem?_append_left (by omega),Nat.zero_mul,Nat.zero_add,List.getElem?_eq_getElem (by omega)]
  simp[hl,hj]
 |x::d,i+1,j,hi,hj=>by
  have hl:=encM_len x
  rw[List.flatMap_cons,List.getElem?_append_right (by omega),hl,show(i+1)*7+j - 7=i*7+j from by omega,flat_get d i j (by simpa using hi) hj]
  simp
theorem flat_len (d:List Mx):(d.flatMap encM).length=d.length*7:=by
 induction d with
 |nil=>rfl
 |cons x d ih=>rw[List.flatMap_cons,List.length_append,encM_len,ih,List.length_cons];omega
theorem flat_cells {w:World} {g:Nat} {d:List Mx} (h: ∀i,i<d.length→ ∀j,j<7→w.cell? ⟨g,i*7+j,none⟩=some (encM d[i]!)[j]!): ∀(t:Nat) (u:Value),(d.flatMap encM)[t]? =some u→w.cell? ⟨g,t,none⟩=some u:=by
 intro t u hu
 have ht:=(List.getElem?_eq_some_iff.1 hu).1
 rw[flat_len]at ht
 have e:t=t / 7*7+t % 7:=by omega
 rw[e]at hu ⊢
 rw[flat_get d _ _ (by omega) (by omega)]at hu
 rw[h _ (by omega) _ (by omega)]
 exact hu
theorem own_form {w:World} {B m s:Nat} {t:TypeId} {v:Value} {ns:List Value} (h:w.ownsRow B t s v m ns):
 ∃a c,v= .slice a m c∧((m=0∧a=none∧c=0)∨ ∃g,a=some ⟨g,0,none⟩∧B≤g∧g<w.heap.size∧m≤c∧(∀(j:Nat) (u:Value),ns[j]? =some u→w.cell? ⟨g,j,none⟩=some u)∧ ∀j,w.frozen? ⟨g,j,none⟩=false):=by
 rcases h.2 with⟨rfl,hz⟩|⟨g,cap,cur,rfl,hbg,hg,hmc,_,_,_⟩
 · subst hz
   exact⟨none,0,rfl, .inl ⟨rfl,rfl,rfl⟩⟩
 · refine⟨_,cap,rfl, .inr ⟨g,rfl,hbg,(Array.getElem?_eq_some_iff.1 hg).1,hmc,fun j u hu=> ?_,fun j=>by simp[World.frozen?,hg]⟩⟩
   have:=h.cells (g:=g) rfl j u hu
   rwa [add_plain',Nat.zero_add]at this
def SDone (W:World) (a:Option Addr) (d:List Mx) (e:Ending) (w':World):Prop:=e= .returned (.tuple #[])∧ ∃d':List Mx,d'.length=d.length∧d'.Perm d∧(∀i j,i<j→j<d.length→ltM d'[j]! d'[i]! =false)∧
 (d.length=0∨ ∃g,a=some ⟨g,0,none⟩∧g<w'.heap.size∧ ∀i,i<d.length→ ∀j,j<7→w'.cell? ⟨g,i*7+j,none⟩=some (encM d'[i]!)[j]!)∧
 (∀b,b<W.heap.size→(∀g,a=some ⟨g,0,none⟩→b≠g)→w'.heap[b]? =W.heap[b]?)∧W.heap.size≤w'.heap.size∧w'.os=W.os∧w'.tape=W.tape∧w'.output=W.output
theorem sortM_any (a:Option Addr) (c Bs:Nat) (d:List Mx) (hsz:d.length<4611686018427387904) (W:World)
 (h:(d.length=0∧a=none)∨ ∃g,a=some ⟨g,0,none⟩∧g<W.heap.size∧Bs≠g∧(∀i,i<d.length→ ∀j,j<7→W.cell? ⟨g,i*7+j,none⟩=some (encM d[i]!)[j]!)∧ ∀j,W.frozen? ⟨g,j,none⟩=false)
 (hBs:W.cell? ⟨Bs,0,none⟩=some (.slice a d.length c)) (hB1:Bs<W.heap.size):
 Calls Tryz.prog 70 #[.iface 37 (.slice a d.length c), .func (.func 71) #[] #[.pointer (some ⟨Bs,0,none⟩)]] W (SDone W a d):=by
 by_cases h2:2≤d.length
 · rcases h with⟨h,_⟩|⟨g,rfl,hg,hne,hc,hf⟩
   · omega
   · have hH:Go.Sort.HoldsK encM 7 W g 0 d.toArray:=by
      intro j hj
      rw[Go.Sort.size_flatK,List.size_toArray]at hj
      rw[Go.Sort.get_flatK _ _ _ _ (by simpa using hj),Nat.zero_add]
      refine⟨?_,hf _⟩
      have:=hc (j / 7) (by omega) (j % 7) (by omega)
      rw[show j / 7*7+j % 7=j from by omega]at this
      rw[this]
      simp
     have hS:=sortM_many g c Bs d.toArray (by simpa using h2) (by simpa using hsz) W hH hg (by simpa using hBs) hB1 hne
     simp only[List.size_toArray]at hS
     refine hS.mono ?_
     rintro e w' ⟨rfl,d',s1,s2,s3,s4,s5,s6,s7⟩
     simp only[List.size_toArray]at s1 s3 s4
     refine⟨rfl,d'.toList,by simpa using s1,by simpa using s2,fun i j h1 h2=> ?_, .inr ⟨g,rfl,by omega,fun i hi j hj=> ?_⟩,fun b hb hne=>s5 b hb (hne g rfl),s6,s7⟩
     · simp only[Array.getElem!_toList]
       exact s3 i j (Nat.zero_le _) h1 h2
     · simp only[Array.getElem!_toList]
       exact s4 i hi j hj
 · refine(sortM_few a d.length c Bs (by omega) W).mono ?_
   rintro e w' ⟨rfl,hb⟩
   refine⟨rfl,d,rfl,List.Perm.refl _,fun i j h1 h3=>by omega, ?_,fun b hb1 _=>hb.block b hb1,hb.size,hb.os,hb.tape,hb.output⟩
   rcases h with⟨h,_⟩|⟨g,ea,hg,hne,hc,hf⟩
   · exact .inl h
   · exact .inr ⟨g,ea,by have:=hb.size;omega,fun i hi j hj=>(hb.cell (p:=⟨g,i*7+j,none⟩) hg).trans (hc i hi j hj)⟩
theorem asc_of {d:List Mx} (hs: ∀i j,i<j→j<d.length→ltM d[j]! d[i]! =false) (hn: ∀t,1≤t→t<d.length→(d[t]!).1≠(d[t - 1]!).1):ascO (d.map memM):=by
 have hadj: ∀t,t+1<d.length→ltM d[t]! d[t+1]! =true:=by
  intro t ht
  have h1:=hs t (t+1) (by omega) ht
  have h2:=hn (t+1) (by omega) ht
  rcases ltB_tri (d[t]!).1 (d[t+1]!).1 with p|p|p
  · exact p
  · exact absurd p.symm h2
  · unfold ltM at h1;rw[h1]at p;cases p
 have hlt: ∀k i,i+k+1<d.length→ltM d[i]! d[i+k+1]! =true:=by
  intro k
  induction k with
  |zero=>intro i hi;exact hadj i hi
  |succ k ih=>intro i hi;exact ltB_trans (ih i (by omega)) (hadj (i+k+1) (by omega))
 unfold ascO
 rw[List.pairwise_map,List.pairwise_iff_getElem]
 intro i j hi hj hij
 have:=hlt (j - i - 1) i (by omega)
 rw[show i+(j - i - 1)+1=j from by omega]at this
 simpa[ltM,memM,hi,hj]using this
end Go.Proofs.YtackmnbpfbaemaaGreatDoor

namespace Go.Proofs.YtackmnbpfbaemaaGreatDoor
open Go.RowKit
theorem below_dr {B:Nat} {a w:World} (h:Below B a w) (n:Nat):Below B a (w.drewN n):=⟨h.os,h.tape,h.output,h.size,h.block⟩
theorem not_nodup {d:List Mx} {q:Nat} (h1:1≤q) (hq:q<d.length) (e:(d[q]!).1=(d[q - 1]!).1): ¬((d.map memM).map (·.1)).Nodup:=by
 intro hn
 rw[List.map_map]at hn
 have h2:=List.pairwise_iff_getElem.1 hn (q - 1) q (by simp;omega) (by simpa using hq) (by omega)
 simp only[List.getElem_map,Function.comp,memM]at h2
 have hp:q - 1<d.length:=by omega
 apply h2
 have e1:d[q]! =d[q]:=by simp[hq]
 have e2:d[q - 1]! =d[q - 1]:=by simp[hp]
 rw[←e1,←e2]
 exact e.symm
def VObjPost (w:World) (o:List (ByteArray×Val)) (e:Ending) (w':World):Prop:=Below w.heap.size w w'∧
 ((objAll o []=none∧e= .returned (.tuple #[.agg zero6, .int .i64 8]))∨
  ∃o' cs,objAll o []=some o'∧e= .returned (.tuple #[.agg (cs:List Value).toArray, .int .i64 0])∧cs.length=6∧Fresh w.heap.size w' (dV (.mk 6 false 0 ⟨#[]⟩ [] o')) cs)
set_option maxRecDepth 100000 in
set_option maxHeartbeats 4000000 in
theorem vobj_calls (o:List (ByteArray×Val)) (a:Option Addr) (n c:Nat) (w:World) (h:Holds w w.heap.size (.row 7 (dO o)) [.slice a n c]) (hb:bulkO o≤90000000):
 Calls Tryz.prog 46 #[.slice a n c] w (VObjPost w o):=by
 have hln:=bulkO_len o
 have hn:=h.row_len
 rw[dO_len]at hn
 subst hn
 obtain⟨w0,hw0⟩: ∃w0,w.alloc (.cells zero6 39)=w0:=⟨_,rfl⟩
 have hb0:Below w.heap.size w w0:=hw0▸(Below.refl _ _).alloc (Nat.le_refl _) _
 have hx0:Blk w0 w.heap.size 39 zero6:=by rw[←hw0];exact Blk.new _ _ _
 have hs0:w0.heap.size=w.heap.size+1:=by rw[←hw0];simp
 have hCL:=clone_calls o a o.length c w0 (h.later hb0) (by omega)
 have hs0':w.heap.size<w0.heap.size:=by omega
 have hS0:=Lib.hid hs0
 have HCL:=Lib.hid hCL
 have Hb0:=Lib.hid hb0
 have Hx0:=Lib.hid hx0
 clear hCL hb0 hx0
 clear h hs0
 subst hw0
 go_enter Tryz.func46,Tryz.ntmps46
 go_wp2_with (fail)
 with_reducible refine HCL.out.mono ?_
 rintro e w1 ⟨V,ns,rfl,hown,hA,hb1⟩
 obtain⟨d,hd1,rfl,hd3⟩:=toMx hA
 obtain⟨a1,c1,rfl,hform⟩:=own_form hown
 have hdl:d.length=o.length:=by rw[←hd1,List.length_map]
 have hx1:=Hx0.out.below hb1 Hx0.out.lt
 have hs1:=hb1.size
 have hb1':=Hb0.out.trans (hb1.mono (Nat.le_of_lt hs0'))
 have Hown:=Lib.hid hown
 have HA:=Lib.hid hA
 have Hd1:=Lib.hid hd1
 have Hd3:=Lib.hid hd3
 have Hdl:=Lib.hid hdl
 have Hform:=Lib.hid hform
 have Hx1:=Lib.hid hx1
 have Hb1':=Lib.hid hb1'
 have Hb1:=Lib.hid hb1
 clear hown hA hd1 hd3 hdl hform hx1 hb1' hb1
 clear Hb0 Hx0
 have hbs:Below w1.heap.size w1 (w1.alloc (.cells #[.slice a1 o.length c1] 37)):=(Below.refl _ _).alloc (Nat.le_refl _) _
 have hsort:Calls Tryz.prog 70 #[.iface 37 (.slice a1 o.length c1), .func (.func 71) #[] #[.pointer (some ⟨w1.heap.size,0,none⟩)]] (w1.alloc (.cells #[.slice a1 o.length c1] 37)) (SDone (w1.alloc (.cells #[.slice a1 o.length c1] 37)) a1 d):=by
  have hBs:(w1.alloc (.cells #[.slice a1 o.length c1] 37)).cell? ⟨w1.heap.size,0,none⟩=some (.slice a1 d.length c1):=by
   rw[Hdl.out];exact(Blk.new w1 37 #[.slice a1 o.length c1]).cell 0
  have:=sortM_any a1 c1 w1.heap.size d (by have:=Hdl.out;omega) (w1.alloc (.cells #[.slice a1 o.length c1] 37)) ?_ hBs (by simp)
  · rwa [Hdl.out]at this
  · rcases Hform.out with⟨f1,f2,_⟩|⟨g,f1,f2,f3,f4,f5,f6⟩
    · exact .inl ⟨by rw[Hdl.out];exact f1,f2⟩
    · refine .inr ⟨g,f1,by simp;omega,by omega,fun i hi j hj=> ?_,fun j=> ?_⟩
      · rw[hbs.cell (p:=⟨g,i*7+j,none⟩) f3]
        exact f5 _ _ (flat_get d i j hi hj)
      · rw[hbs.frozen (p:=⟨g,j,none⟩) f3]
        exact f6 j
 have Hsort:=Lib.hid hsort
 have Hbs:=Lib.hid hbs
 clear hsort hbs
 go_wp2_with (fail)
 with_reducible refine Hsort.out.mono ?_
 rintro e w3 ⟨rfl,d',s1,s2,s3,s4,s5,s6,s7,s8,s9⟩
 have hg1: ∀g,a1=some ⟨g,0,none⟩→w.heap.size+1≤g∧g<w1.heap.size:=by
  intro g e
  rcases Hform.out with⟨_,f2,_⟩|⟨g',f1,f2,f3,_⟩
  · rw[f2]at e;cases e
  · rw[f1]at e
    simp only[Option.some.injEq,Addr.mk.injEq,and_true]at e
    have:=hS0.out
    omega
 have q1:w3.cell? ⟨w1.heap.size,0,none⟩=some (.slice a1 o.length c1):=by
  rw[World.cell?_of_block (s5 w1.heap.size (by simp) (fun g e=>by have:=hg1 g e;omega))]
  exact(Blk.new w1 37 #[.slice a1 o.length c1]).cell 0
 have hw1s:w.heap.size+1≤w1.heap.size:=by have:=hS0.out;omega
 have q2:Blk w3 w.heap.size 39 zero6:=by
  have h1:=s5 w.heap.size (by simp;omega) (fun g e=>by have:=hg1 g e;omega)
  exact h1.trans (Hx1.out.below Hbs.out (by omega))
 have q4:Below (w.alloc (.cells zero6 39)).heap.size (w.alloc (.cells zero6 39)) w3:=by
  have h0:=Hb1.out
  have hs:=hS0.out
  refine⟨s7.trans h0.os,s8.trans h0.tape,s9.trans h0.output,by simp at s6;omega,fun i hi=> ?_⟩
  rw[s5 i (by simp;omega) (fun g e=>by have:=hg1 g e;omega),Hbs.out.block i (by omega)]
  exact h0.block i hi
 have q3:Below w.heap.size w w3:=by
  have h0:=Hb1'.out
  refine⟨s7.trans h0.os,s8.trans h0.tape,s9.trans h0.output,by simp at s6;omega,fun i hi=> ?_⟩
  rw[s5 i (by simp;omega) (fun g e=>by have:=hg1 g e;omega),Hbs.out.block i (by omega)]
  exact h0.block i hi
 rw[Hdl.out]at s1 s3 s4
 have hsz3:w1.heap.size+1≤w3.heap.size:=by simpa using s6
 have hol:o.length<9000000000:=by omega
 have H0:Hid (∀t,1≤t→t<1→(d'[t]!).1≠(d'[t - 1]!).1):=fun t h1 h2=>absurd h2 (by omega)
 have S1:=Lib.hid s1
 have S2:=Lib.hid s2
 have S3:=Lib.hid s3
 have S4:=Lib.hid s4
 have Q2:=Lib.hid q2
 have Q3:=Lib.hid q3
 have Q4:=Lib.hid q4
 clear s1 s2 s3 s4 q2 q3 q4
 clear s5 s6 s7 s8 s9 Hsort hg1
 go_wp2_with (fail)
 go_loopw [5] (fun i wx=> ∃q m:Nat,i= .int .i64 q∧1≤q∧(q≤o.length∨q=1)∧Hid (∀t,1≤t→t<q→(d'[t]!).1≠(d'[t - 1]!).1)∧wx=w3.drewN m) (fun i _=>o.length - (intOf i).toNat)
 case atStart=>exact⟨1,0,rfl,Nat.le_refl _, .inr rfl,H0,rfl⟩
 case round=>
  obtain⟨q,m,rfl,hq1,hq2,hne,rfl⟩:=hrel
  clear H0
  by_cases hlt:q<o.length
  · obtain⟨g,rfl,hg,hc⟩:=S4.out.resolve_left (by omega)
    have cq:w3.cell? ⟨g,q*7,none⟩=some (.string (d'[q]!).1):=by
     have:=hc q hlt 0 (by omega)
     rwa [Nat.add_zero,encM_key]at this
    have cp:w3.cell? ⟨g,(q - 1)*7,none⟩=some (.string (d'[q - 1]!).1):=by
     have:=hc (q - 1) (by omega) 0 (by omega)
     rwa [Nat.add_zero,encM_key]at this
    obtain⟨K,hK⟩: ∃K,(d'[q]!).1=K:=⟨_,rfl⟩
    obtain⟨L,hL⟩: ∃L,(d'[q - 1]!).1=L:=⟨_,rfl⟩
    rw[hK]at cq
    rw[hL]at cp
    have HK:=Lib.hid hK
    have HL:=Lib.hid hL
    clear hK hL
    clear hc
    have x1:IntKind.i64.wrap ((q:Int) - 1)=(q:Int) - 1:=IntWalk.i64_in _ (by omega)
    have y1:(1:Int)≤(q:Int):=by omega
    have y2:(q:Int)<(o.length:Int):=by omega
    have y3:(q:Int)<(o.length:Int)+1:=by omega
    have y4:q<o.length+1:=by omega
    have y5:(q:Int) - 1<(o.length:Int):=by omega
    have y6:0≤(q:Int) - 1:=by omega
    have x2:((q:Int) - 1).toNat=q - 1:=by omega
    by_cases hkl:K.toList=L.toList
    · have hb1:(K.toList==L.toList)=true:=by simpa using hkl
      have Hkl:=Lib.hid hkl
      clear hkl
      go_wp2_with (fail)
      go_quiet (fail)
      clear x1 x2
      obtain⟨z0,z1,z2,z3,z4,z5⟩:=vcell Q2.out
      have zf:=fun i=>Q2.out.frozen i
      go_wp2
      refine bodyPost_ret (v:= .tuple #[.agg zero6, .int .i64 8]) (by simp[results,Tryz.results46,go_sem,z0,z1,z2,z3,z4,z5]) rfl ⟨?_, .inl ⟨?_,rfl⟩⟩
      · repeat (refine Below.setCell ?_ (by simp) _)
        first|exact below_dr Q3.out _|exact below_dr (below_dr Q3.out _) _
      · have hpm:=(S2.out.map memM).trans (by rw[Hd1.out])
        exact objAll_twice hpm (not_nodup hq1 (by rw[S1.out];exact hlt) (by rw[HK.out,HL.out];exact toList_inj Hkl.out))
    · have hb1:(K.toList==L.toList)=false:=by simpa using hkl
      have Hkl:=Lib.hid hkl
      clear hkl
      go_wp2_with (fail)
      go_quiet (fail)
      clear x1 x2
      have Hne:Hid (∀t,1≤t→t<q+1→(d'[t]!).1≠(d'[t - 1]!).1):=by
       intro t h1 h2
       by_cases ht:t=q
       · subst ht
         rw[HK.out,HL.out]
         intro e
         exact Hkl.out (by rw[e])
       · exact hne.out t h1 (by omega)
      clear hne
      go_wp2
      go_roundw
      case rel=>exact⟨q+1,_,by go_num,by omega, .inl (by omega),Hne,by first|rfl|exact World.drewN_drewN _ _ _⟩
      case measure=>simp only[intOf];omega
  · have hasc:ascO (d'.map memM):=asc_of (fun i j h1 h2=>S3.out i j h1 (by have:=S1.out;omega)) (fun t h1 h2=>hne.out t h1 (by have:=S1.out;omega))
    have hpm:(d'.map memM).Perm o:=(S2.out.map memM).trans (by rw[Hd1.out])
    have hall:=objAll_sorted hpm hasc
    have hlen:(d'.map memM).length=o.length:=by rw[List.length_map,S1.out]
    have hbk:=objAll_bulk hall
    simp only[bulkO,Nat.zero_add]at hbk
    have hWd:Below (w.alloc (.cells zero6 39)).heap.size (w.alloc (.cells zero6 39)) (w3.drewN m):=below_dr Q4.out m
    have hV:HoldsV (w3.drewN m) (w3.drewN m).heap.size (.mk 6 false 0 ⟨#[]⟩ [] (d'.map memM)) [.int .i64 6, .bool false, .int .i64 0, .string ⟨#[]⟩, .slice none 0 0, .slice a1 o.length c1]:=by
     simp only[HoldsV]
     refine⟨none,0,a1,c1,by rw[hlen];rfl, .inl trivial, ?_⟩
     rcases S4.out with h0|⟨g,rfl,hg,hc⟩
     · exact .inl (List.eq_nil_of_length_eq_zero (by rw[hlen];exact h0))
     · refine .inr ⟨g,0,rfl,hg,HoldsA.toO (fun m _=>holdsV_of m.2) (ofMx (d:=d') (fun x hx=> ?_)) (fun j u hj=> ?_)⟩
       · exact((Hd3.out x (S2.out.mem_iff.1 hx)).below hWd).more hWd.size
       · rw[Nat.zero_add]
         exact flat_cells (w:=w3) (fun i hi j hj=>hc i (by have:=S1.out;omega) j hj) j u hj
    have hCP:=vcopy_calls _ _ _ hV (by simp only[Val.bulk,bulkL,ByteArray.size];rw[hbk];simp;omega)
    have hsz4:w.heap.size<w3.heap.size:=Q2.out.lt
    obtain⟨z0,z1,z2,z3,z4,z5⟩:=vcell Q2.out
    have zf:=fun i=>Q2.out.frozen i
    obtain⟨O,hO⟩: ∃O,d'.map memM=O:=⟨_,rfl⟩
    rw[hO]at hCP hall
    have HCP:=Lib.hid hCP
    have Hall:=Lib.hid hall
    have Hsz4:=Lib.hid hsz4
    clear hCP hall hsz4
    clear hne hasc hpm hlen hbk hWd hV hO
    go_wp2_with (fail)
    with_reducible refine HCP.out.mono ?_
    rintro e w4 ⟨⟨cs,rfl,hl4,hf4⟩,hb4⟩
    obtain⟨la2,lc2,oa2,oc2,rfl⟩:=six_now hf4
    obtain⟨hc4,hz4⟩:=bcell' hb4
    have hg4:w.heap.size<w3.heap.size:=Hsz4.out
    have HB4:Hid (Below w.heap.size w w4):=(below_dr Q3.out m).trans (hb4.mono Q3.out.size)
    have HSz4:Hid (w3.heap.size≤w4.heap.size):=hb4.size
    have k0:w4.cell? ⟨w.heap.size,0,none⟩=some (.int .i64 0):=(hc4 w.heap.size 0 hg4).trans z0
    have k1:w4.cell? ⟨w.heap.size,1,none⟩=some (.bool false):=(hc4 w.heap.size 1 hg4).trans z1
    have k2:w4.cell? ⟨w.heap.size,2,none⟩=some (.int .i64 0):=(hc4 w.heap.size 2 hg4).trans z2
    have k3:w4.cell? ⟨w.heap.size,3,none⟩=some (.string ⟨#[]⟩):=(hc4 w.heap.size 3 hg4).trans z3
    have k4:w4.cell? ⟨w.heap.size,4,none⟩=some (.slice none 0 0):=(hc4 w.heap.size 4 hg4).trans z4
    have k5:w4.cell? ⟨w.heap.size,5,none⟩=some (.slice none 0 0):=(hc4 w.heap.size 5 hg4).trans z5
    have kf: ∀i,w4.frozen? ⟨w.heap.size,i,none⟩=false:=fun i=>(hz4 w.heap.size i hg4).trans (zf i)
    have hblk:w4.heap[w.heap.size]? =some (.cells zero6 39 (0,0)):=(hb4.block _ hg4).trans Q2.out
    have Hf4:=Lib.hid hf4
    have Hblk:=Lib.hid hblk
    clear hf4 hblk
    clear hb4 hc4 hz4 hl4 z0 z1 z2 z3 z4 z5 zf
    go_wp2
    obtain⟨W,hW⟩: ∃W,((((((w4.setCell ⟨w.heap.size,0,none⟩ (.int .i64 6)).setCell ⟨w.heap.size,1,none⟩ (.bool false)).setCell ⟨w.heap.size,2,none⟩ (.int .i64 0)).setCell ⟨w.heap.size,3,none⟩ (.string ⟨#[]⟩)).setCell ⟨w.heap.size,4,none⟩ (.slice la2 0 lc2)).setCell ⟨w.heap.size,5,none⟩ (.slice oa2 O.length oc2))=W:=⟨_,rfl⟩
    have hWh: ∀c,c≠w.heap.size→W.heap[c]? =w4.heap[c]? :=by
     intro c hc
     rw[←hW]
     simp only[setCell_far _ _ _ _ hc]
    have hWs:W.heap.size=w4.heap.size:=by rw[←hW];simp[World.setCell]
    have hWb:Below w.heap.size w W:=by
     rw[←hW]
     exact(((((HB4.out.setCell (by simp) _).setCell (by simp) _).setCell (by simp) _).setCell (by simp) _).setCell (by simp) _).setCell (by simp) _
    have hWr:Blk W w.heap.size 39 #[.int .i64 6, .bool false, .int .i64 0, .string ⟨#[]⟩, .slice la2 0 lc2, .slice oa2 O.length oc2]:=by
     have q3:Blk w4 w.heap.size 39 zero6:=Hblk.out
     rw[←hW]
     exact(((((q3.set_ 0 _).set_ 1 _).set_ 2 _).set_ 3 _).set_ 4 _).set_ 5 _
    obtain⟨s0,s1,s2,s3,s4,s5⟩:=vcell hWr
    have hFr:Fresh w.heap.size W (dV (.mk 6 false 0 ⟨#[]⟩ [] O)) [.int .i64 6, .bool false, .int .i64 0, .string ⟨#[]⟩, .slice la2 0 lc2, .slice oa2 O.length oc2]:=
     Hf4.out.keep (by show w.heap.size≤w3.heap.size;omega) (by omega) (fun p p1 p2=>World.cell?_of_block (hWh _ (by have p1':w3.heap.size≤p.block:=p1;omega)))
    rw[hW]
    exact bodyPost_ret (v:= .tuple #[.agg #[.int .i64 6, .bool false, .int .i64 0, .string ⟨#[]⟩, .slice la2 0 lc2, .slice oa2 O.length oc2], .int .i64 0]) (by simp[results,Tryz.results46,go_sem,s0,s1,s2,s3,s4,s5]) rfl ⟨hWb, .inr ⟨O,_,Hall.out,rfl,rfl,hFr⟩⟩
end Go.Proofs.YtackmnbpfbaemaaGreatDoor

namespace Go.Proofs.YtackmnbpfbaemaaGreatDoor
open Go Go.RowKit
theorem holds_tvP (w:World) (B:Nat) (key s:ByteArray):Holds w B (dP (key,tv s)) [.string key, .int .i64 4, .bool false, .int .i64 0, .string s, .slice none 0 0, .slice none 0 0]:=by
 have h1:HoldsV w B (tv s) [.int .i64 4, .bool false, .int .i64 0, .string s, .slice none 0 0, .slice none 0 0]:=by
  simp only[tv,HoldsV]
  exact⟨none,0,none,0,rfl,by simp,by simp⟩
 exact⟨[.string key],_,rfl,⟨rfl,rfl⟩,_, [],by simp,holds_of_V _ _ h1,rfl⟩
theorem holds_ivP (w:World) (B:Nat) (key:ByteArray) (n:Int):Holds w B (dP (key,iv n)) [.string key, .int .i64 3, .bool false, .int .i64 n, .string ⟨#[]⟩, .slice none 0 0, .slice none 0 0]:=by
 have h1:HoldsV w B (iv n) [.int .i64 3, .bool false, .int .i64 n, .string ⟨#[]⟩, .slice none 0 0, .slice none 0 0]:=by
  simp only[iv,HoldsV]
  exact⟨none,0,none,0,rfl,by simp,by simp⟩
 exact⟨[.string key],_,rfl,⟨rfl,rfl⟩,_, [],by simp,holds_of_V _ _ h1,rfl⟩
def MadePost (o:List (ByteArray×Val)) (w:World) (e:Ending) (w':World):Prop:=Below w.heap.size w w'∧
 ∃la lc oa oc,e= .returned (.agg #[.int .i64 6, .bool false, .int .i64 0, .string ⟨#[]⟩, .slice la 0 lc, .slice oa o.length oc])∧Fresh w.heap.size w' (dV (ov o)) [.int .i64 6, .bool false, .int .i64 0, .string ⟨#[]⟩, .slice la 0 lc, .slice oa o.length oc]
theorem vobj_ok (o o':List (ByteArray×Val)) (a:Option Addr) (n c:Nat) (w:World) (h:Holds w w.heap.size (.row 7 (dO o)) [.slice a n c]) (hb:bulkO o≤90000000) (ho:objAll o []=some o'):
 Calls Tryz.prog 46 #[.slice a n c] w fun e w'=>Below w.heap.size w w'∧ ∃la lc oa oc,e= .returned (.tuple #[.agg #[.int .i64 6, .bool false, .int .i64 0, .string ⟨#[]⟩, .slice la 0 lc, .slice oa o'.length oc], .int .i64 0])∧Fresh w.heap.size w' (dV (ov o')) [.int .i64 6, .bool false, .int .i64 0, .string ⟨#[]⟩, .slice la 0 lc, .slice oa o'.length oc]:=by
 refine(vobj_calls o a n c w h hb).mono ?_
 rintro e w' ⟨hb',⟨hn,_⟩|⟨o2,cs,h2,rfl,hl,hf⟩⟩
 · rw[ho]at hn;cases hn
 · rw[ho]at h2
   cases h2
   have hv:=holdsV_of (.mk 6 false 0 ⟨#[]⟩ [] o') _ hf.now
   simp only[HoldsV]at hv
   obtain⟨la,lc,oa,oc,rfl,_,_⟩:=hv
   exact⟨hb',la,lc,oa,oc,rfl,hf⟩
theorem fin_res {B R b':Nat} {w0 w2:World} {o:Obj} {d:D} {cs:List Value} (vs:List Value) (hb:Below B w0 w2) (hBw:B≤w2.heap.size) (hR:B≤R) (hRb:R<b') (hf:Fresh b' w2 d cs):
 Below B w0 ((setMany w2 R 0 vs).alloc o)∧Fresh B ((setMany w2 R 0 vs).alloc o) d cs:=by
 have h1:=setMany_below vs hb hR (o:=0)
 refine⟨h1.alloc (by rw[setMany_size];exact hBw) _, ?_⟩
 have h2:Fresh B (setMany w2 R 0 vs) d cs:=hf.keep (by omega) (by rw[setMany_size];exact Nat.le_refl _) fun p p1 p2=>World.cell?_of_block (setMany_far vs _ _ _ _ (by omega))
 exact h2.later (alloc_below _ _)
theorem size3 {w w1:World} {o o':Obj} (h:Below ((w.alloc o).alloc o').heap.size ((w.alloc o).alloc o') w1):w.heap.size<w1.heap.size∧w.heap.size+1<w1.heap.size:=by
 have:=h.size
 simp at this
 omega
theorem res_box {w w1 w2:World} {o o':Obj} (hb1:Below ((w.alloc o).alloc (.cells zero6 39)).heap.size ((w.alloc o).alloc (.cells zero6 39)) w1) (hb2:Below (w1.alloc o').heap.size (w1.alloc o') w2):Blk w2 (w.heap.size+1) 39 zero6:=by
 have h0:Blk ((w.alloc o).alloc (.cells zero6 39)) (w.heap.size+1) 39 zero6:=by
  have:=Blk.new (w.alloc o) 39 zero6
  rwa [World.size_alloc]at this
 have h1:=(h0.below hb1 h0.lt).alloc o'
 exact h1.below hb2 h1.lt
theorem op_row (W:World) (s:ByteArray):RowD W.heap.size 63 7 (W.alloc (.cells #[.string kOp, .int .i64 4, .bool false, .int .i64 0, .string s, .slice none 0 0, .slice none 0 0] 63)) (dO [(kOp,tv s)]) (.slice (some ⟨W.heap.size,0,none⟩) 1 1):=
 RowD.lit (Nat.le_refl _) rfl (fun w'' B=>holds_tvP w'' B kOp s)
theorem fresh_tvP (b:Nat) (w:World) (key s:ByteArray):Fresh b w (dP (key,tv s)) [.string key, .int .i64 4, .bool false, .int .i64 0, .string s, .slice none 0 0, .slice none 0 0]:=fun _ _ _=>holds_tvP _ _ _ _
theorem below_two (w:World) (o o':Obj):Below w.heap.size w ((w.alloc o).alloc o'):=((Below.refl w.heap.size w).alloc (Nat.le_refl _) _).alloc (by simp) _
theorem fresh_lv {b:Nat} {w:World} {vs:List Val} {a:Option Addr} {n c:Nat} (h:Fresh b w (.row 6 (dL vs)) [.slice a n c]):Fresh b w (dV (lv vs)) [.int .i64 5, .bool false, .int .i64 0, .string ⟨#[]⟩, .slice a n c, .slice none 0 0]:=fun w'' h1 h2=>by
 simp only[lv,dV,Holds]
 exact HoldsA.six.2 ⟨[.slice a n c], [.slice none 0 0],rfl,rfl,rfl,rfl,rfl,h w'' h1 h2,⟨none,0,rfl,by simp[dO], [],rfl,by simp[dO]⟩⟩
theorem last_none (k:ByteArray): ∀q,(none:Option ByteArray)=some q→leB k q=false:=fun _ e=>by cases e
theorem last_some {k p:ByteArray} (h:leB k p=false): ∀q,some p=some q→leB k q=false:=fun _ e=>by cases e;exact h
theorem in_iv {n:Int} (h0:0≤n) (h1:n≤4611686018427387903):inV (iv n):=by
 simp only[iv,inV,inL,inO]
 exact⟨by omega,trivial,trivial⟩
theorem bulk_iv (n:Int):(iv n).bulk=6:=rfl
theorem holds_blk {w:World} {g:Nat} {t:TypeId} {cs:Array Value} {l:List D} {s n c:Nat} (h:Blk w g t cs) (hs: ∀d ∈ l,d.cells=s) (hA:HoldsA w w.heap.size l cs.toList) (hn:n=l.length):Holds w w.heap.size (.row s l) [.slice (some ⟨g,0,none⟩) n c]:=by
 subst hn
 exact⟨_,c,rfl,hs,cs.toList,hA, .inr ⟨g,0,rfl,h.lt,fun j u hu=>by rw[Nat.zero_add];exact(h.cell j).trans (by rw[←Array.getElem?_toList];exact hu)⟩⟩
end Go.Proofs.YtackmnbpfbaemaaGreatDoor

namespace Go.Proofs.YtackmnbpfbaemaaGreatDoor
open Go Go.RowKit
theorem results_cell7 {fn:Func} {t:Tmp} {tmps:Array Value} {W:World} {R:Nat} {a0 a1 a2 a3 a4 a5 a6:Value} (h:fn.results= #[.cell t 63]) (hp:tmps.getD t undef= .pointer (some ⟨R,0,none⟩)) (hx:Blk W R 63 #[a0,a1,a2,a3,a4,a5,a6]):
 (results fn tmps).run Tryz.prog W= .ok (.agg #[a0,a1,a2,a3,a4,a5,a6]) W:=by
 have c0:=hx.cell 0
 have c1:=hx.cell 1
 have c2:=hx.cell 2
 have c3:=hx.cell 3
 have c4:=hx.cell 4
 have c5:=hx.cell 5
 have c6:=hx.cell 6
 clear hx
 have hp':tmps[t]?.getD undef= .pointer (some ⟨R,0,none⟩):=by simpa using hp
 simp[results,h,hp',go_sem]at c0 c1 c2 c3 c4 c5 c6 ⊢
 simp[c0,c1,c2,c3,c4,c5,c6]
abbrev zero7:Array Value:= #[.string ⟨#[]⟩, .int .i64 0, .bool false, .int .i64 0, .string ⟨#[]⟩, .slice none 0 0, .slice none 0 0]
theorem mcell {w:World} {g:Nat} {t:TypeId} {a0 a1 a2 a3 a4 a5 a6:Value} (h:Blk w g t #[a0,a1,a2,a3,a4,a5,a6]):
 w.cell? ⟨g,0,none⟩=some a0∧w.cell? ⟨g,1,none⟩=some a1∧w.cell? ⟨g,2,none⟩=some a2∧w.cell? ⟨g,3,none⟩=some a3∧w.cell? ⟨g,4,none⟩=some a4∧w.cell? ⟨g,5,none⟩=some a5∧w.cell? ⟨g,6,none⟩=some a6:=
 ⟨h.cell 0,h.cell 1,h.cell 2,h.cell 3,h.cell 4,h.cell 5,h.cell 6⟩
theorem holdsIn_ov {S:Nat→Prop} {w:World} {o:List (ByteArray×Val)} {a:Option Addr} {n c:Nat} (h:HoldsIn S w (.row 7 (dO o)) [.slice a n c]):HoldsIn S w (dV (ov o)) [.int .i64 6, .bool false, .int .i64 0, .string ⟨#[]⟩, .slice none 0 0, .slice a n c]:=fun w'' h1 h2=>by
 simp only[ov,dV,Holds]
 exact HoldsA.six.2 ⟨[.slice none 0 0], [.slice a n c],rfl,rfl,rfl,rfl,rfl,⟨none,0,rfl,by simp[dL], [],rfl,by simp[dL]⟩,h w'' h1 h2⟩
theorem holdsIn_ivP (S:Nat→Prop) (w:World) (key:ByteArray) (n:Int):HoldsIn S w (dP (key,iv n)) [.string key, .int .i64 3, .bool false, .int .i64 n, .string ⟨#[]⟩, .slice none 0 0, .slice none 0 0]:=fun _ _ _=>holds_ivP _ _ _ _
end Go.Proofs.YtackmnbpfbaemaaGreatDoor
