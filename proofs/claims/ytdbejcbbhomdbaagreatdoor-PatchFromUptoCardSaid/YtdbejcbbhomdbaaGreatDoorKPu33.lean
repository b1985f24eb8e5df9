/- Parts: (tree.Tree).Len. No condition. -/
import Derived.Test.YtdbejcbbhomdbaaGreatDoorKPu27
import Derived.Test.YtdbejcbbhomdbaaGreatDoorKPu28
import Derived.Test.YtdbejcbbhomdbaaGreatDoorKPu29
set_option maxHeartbeats 20000000
set_option maxRecDepth 100000
namespace Go.Proofs.YtdbejcbbhomdbaaGreatDoor
open Go Go.RowKit
theorem Tg (p q:Option Addr) (w:World):Calls Tryz.prog 54 #[.agg #[.pointer p],.agg #[.pointer q]] w fun e w'=>e=.returned (.func (.func 89) #[] #[.pointer (some ⟨w.heap.size,0,none⟩),.pointer (some ⟨w.heap.size+1,0,none⟩)])/\(w.alloc (.cells #[.pointer p] 45)).alloc (.cells #[.pointer q] 45)=w':=by
 go_enter Tryz.func54,Tryz.ntmps54;go_wp2;go_ret;exact⟨rfl,rfl⟩
theorem L7:(Tryz.prog.info? 64).map (fun i=>(i.zero,i.size,i.bytes))=some (some (.agg #[.int .i64 0,.string ⟨#[]⟩,.int .i64 0,.bool false,.int .i64 0,.string ⟨#[]⟩,.slice none 0 0,.slice none 0 0]),8,112):=by kernel_rfl
theorem Ach {w:World} {B:Nat}: ∀{o:List (ByteArray×Val)} {ns:List Value},Ah w B (dO o) ns-> ∃d:List Mx,d.map Iz=o/\ns=d.flatMap D8/\ ∀x ∈ d,Ai w B (dP (Iz x)) (D8 x)
 | [],ns,h=>by
   have:ns= []:=h;subst this;exact⟨[],rfl,rfl,fun x hx=>by cases hx⟩
 |(key,v)::r,ns,h=>by
  obtain⟨c1,c2,rfl,h1,h2⟩:=h;obtain⟨d,e1,e2,e3⟩:=Ach h2;have h1':=h1;obtain⟨_,cv,rfl,⟨rfl,_⟩,c3,c4,rfl,h3,rfl⟩:=h1;obtain⟨k,b,n,t,l,o⟩:=v;have h4:=Bj _ _ h3;simp only[Ae]at h4;obtain⟨la,lc,oa,oc,rfl,_,_⟩:=h4;refine⟨(key,.mk k b n t l o,(la,lc),oa,oc)::d,by simp[Iz,e1],by rw[e2];rfl,fun x hx=> ?_⟩;rcases List.mem_cons.1 hx with rfl|hx
  . simp only[List.append_nil,List.cons_append,List.nil_append]at h1';exact h1'
  . exact e3 x hx
theorem Acc {w:World} {B:Nat}: ∀{d:List Mx},(∀x ∈ d,Ai w B (dP (Iz x)) (D8 x))->Ah w B (dO (d.map Iz)) (d.flatMap D8)
 | [],_=>rfl
 |x::d,h=>⟨D8 x,d.flatMap D8,rfl,h x (by simp),Acc fun y hy=>h y (by simp[hy])⟩
theorem Ml: ∀(d:List Mx) (i j:Nat),i<d.length->j<7->(d.flatMap D8)[i*7+j]? =some (D8 d[i]!)[j]!
 | [],i,j,hi,_=>by simp at hi
 |x::d,0,j,_,hj=>by
  have hl:=J4 x;rw[List.flatMap_cons,List.getElem?_append_left (by omega),Nat.zero_mul,Nat.zero_add,List.getElem?_eq_getElem (by omega)];simp[hl,hj]
 |x::d,i+1,j,hi,hj=>by
  have hl:=J4 x;rw[List.flatMap_cons,List.getElem?_append_right (by omega),hl,show(i+1)*7+j - 7=i*7+j from by omega,Ml d i j (by simpa using hi) hj];simp
theorem X1 (d:List Mx):(d.flatMap D8).length=d.length*7:=by
 induction d with
 |nil=>rfl
 |cons x d ih=>rw[List.flatMap_cons,List.length_append,J4,ih,List.length_cons];omega
theorem Ti {w:World} {g:Nat} {d:List Mx} (h: ∀i,i<d.length-> ∀j,j<7->w.cell? ⟨g,i*7+j,none⟩=some (D8 d[i]!)[j]!): ∀(t:Nat) (u:Value),(d.flatMap D8)[t]? =some u->w.cell? ⟨g,t,none⟩=some u:=by
 intro t u hu;have ht:=(List.getElem?_eq_some_iff.1 hu).1;rw[X1]at ht;have e:t=t / 7*7+t % 7:=by omega
 rw[e]at hu ⊢;rw[Ml d _ _ (by omega) (by omega)]at hu;rw[h _ (by omega) _ (by omega)];exact hu
theorem Yz {w:World} {B m s:Nat} {t:TypeId} {v:Value} {ns:List Value} (h:w.ownsRow B t s v m ns):
 ∃a c,v=.slice a m c/\((m=0/\a=none/\c=0)\/ ∃g,a=some ⟨g,0,none⟩/\B<=g/\g<w.heap.size/\m<=c/\(∀(j:Nat) (u:Value),ns[j]? =some u->w.cell? ⟨g,j,none⟩=some u)/\ ∀j,w.frozen? ⟨g,j,none⟩=false):=by
 rcases h.2 with⟨rfl,hz⟩|⟨g,cap,cur,rfl,hbg,hg,hmc,_,_,_⟩
 . subst hz;exact⟨none,0,rfl,.inl ⟨rfl,rfl,rfl⟩⟩
 . refine⟨_,cap,rfl,.inr ⟨g,rfl,hbg,(Array.getElem?_eq_some_iff.1 hg).1,hmc,fun j u hu=> ?_,fun j=>by simp[World.frozen?,hg]⟩⟩;have:=h.cells (g:=g) rfl j u hu
   rwa [A5,Nat.zero_add]at this
def Aal (W:World) (a:Option Addr) (d:List Mx) (e:Ending) (w':World):Prop:=e=.returned (.tuple #[])/\ ∃d':List Mx,d'.length=d.length/\d'.Perm d/\(∀i j,i<j->j<d.length->Yp d'[j]! d'[i]! =false)/\
 (d.length=0\/ ∃g,a=some ⟨g,0,none⟩/\g<w'.heap.size/\ ∀i,i<d.length-> ∀j,j<7->w'.cell? ⟨g,i*7+j,none⟩=some (D8 d'[i]!)[j]!)/\
 (∀b,b<W.heap.size->(∀g,a=some ⟨g,0,none⟩->b≠g)->w'.heap[b]? =W.heap[b]?)/\W.heap.size<=w'.heap.size/\w'.os=W.os/\w'.tape=W.tape/\w'.output=W.output
theorem Wu (a:Option Addr) (c Bs:Nat) (d:List Mx) (hsz:d.length<4611686018427387904) (W:World)
 (h:(d.length=0/\a=none)\/ ∃g,a=some ⟨g,0,none⟩/\g<W.heap.size/\Bs≠g/\(∀i,i<d.length-> ∀j,j<7->W.cell? ⟨g,i*7+j,none⟩=some (D8 d[i]!)[j]!)/\ ∀j,W.frozen? ⟨g,j,none⟩=false)
 (hBs:W.cell? ⟨Bs,0,none⟩=some (.slice a d.length c)) (hB1:Bs<W.heap.size):
 Calls Tryz.prog 112 #[.iface 31 (.slice a d.length c),.func (.func 113) #[] #[.pointer (some ⟨Bs,0,none⟩)]] W (Aal W a d):=by
 by_cases h2:2<=d.length
 . rcases h with⟨h,_⟩|⟨g,rfl,hg,hne,hc,hf⟩
   . omega
   . have hH:Go.Sort.HoldsK D8 7 W g 0 d.toArray:=by
      intro j hj;rw[Go.Sort.size_flatK,List.size_toArray]at hj;rw[Go.Sort.get_flatK _ _ _ _ (by simpa using hj),Nat.zero_add];refine⟨?_,hf _⟩;have:=hc (j / 7) (by omega) (j % 7) (by omega);rw[show j / 7*7+j % 7=j from by omega]at this;rw[this];simp
     have hS:=Uc g c Bs d.toArray (by simpa using h2) (by simpa using hsz) W hH hg (by simpa using hBs) hB1 hne;simp only[List.size_toArray]at hS;refine hS.mono ?_;rintro e w' ⟨rfl,d',s1,s2,s3,s4,s5,s6,s7⟩;simp only[List.size_toArray]at s1 s3 s4;refine⟨rfl,d'.toList,by simpa using s1,by simpa using s2,fun i j h1 h2=> ?_,.inr ⟨g,rfl,by omega,fun i hi j hj=> ?_⟩,fun b hb hne=>s5 b hb (hne g rfl),s6,s7⟩
     . simp only[Array.getElem!_toList];exact s3 i j (Nat.zero_le _) h1 h2
     . simp only[Array.getElem!_toList];exact s4 i hi j hj
 . refine(Wv a d.length c Bs (by omega) W).mono ?_;rintro e w' ⟨rfl,hb⟩;refine⟨rfl,d,rfl,List.Perm.refl _,fun i j h1 h3=>by omega, ?_,fun b hb1 _=>hb.block b hb1,hb.size,hb.os,hb.tape,hb.output⟩;rcases h with⟨h,_⟩|⟨g,ea,hg,hne,hc,hf⟩
   . exact .inl h
   . exact .inr ⟨g,ea,by have:=hb.size;omega,fun i hi j hj=>(hb.cell (p:=⟨g,i*7+j,none⟩) hg).trans (hc i hi j hj)⟩
theorem Aa2 {d:List Mx} (hs: ∀i j,i<j->j<d.length->Yp d[j]! d[i]! =false) (hn: ∀t,1<=t->t<d.length->(d[t]!).1≠(d[t - 1]!).1):Bb (d.map Iz):=by
 have hadj: ∀t,t+1<d.length->Yp d[t]! d[t+1]! =true:=by
  intro t ht;have h1:=hs t (t+1) (by omega) ht;have h2:=hn (t+1) (by omega) ht;rcases D9 (d[t]!).1 (d[t+1]!).1 with p|p|p
  . exact p
  . exact absurd p.symm h2
  . unfold Yp at h1;rw[h1]at p;cases p
 have hlt: ∀k i,i+k+1<d.length->Yp d[i]! d[i+k+1]! =true:=by
  intro k
  induction k with
  |zero=>intro i hi;exact hadj i hi
  |succ k ih=>intro i hi;exact A9 (ih i (by omega)) (hadj (i+k+1) (by omega))
 unfold Bb;rw[List.pairwise_map,List.pairwise_iff_getElem];intro i j hi hj hij;have:=hlt (j - i - 1) i (by omega);rw[show i+(j - i - 1)+1=j from by omega]at this;simpa[Yp,Iz,hi,hj]using this
theorem G8 {B:Nat} {a w:World} (h:Below B a w) (n:Nat):Below B a (w.drewN n):=⟨h.os,h.tape,h.output,h.size,h.block⟩
theorem V1 {d:List Mx} {q:Nat} (h1:1<=q) (hq:q<d.length) (e:(d[q]!).1=(d[q - 1]!).1): ¬((d.map Iz).map (·.1)).Nodup:=by
 intro hn;rw[List.map_map]at hn;have h2:=List.pairwise_iff_getElem.1 hn (q - 1) q (by simp;omega) (by simpa using hq) (by omega);simp only[List.getElem_map,Function.comp,Iz]at h2;have hp:q - 1<d.length:=by omega
 apply h2;have e1:d[q]! =d[q]:=by simp[hq]
 have e2:d[q - 1]! =d[q - 1]:=by simp[hp]
 rw[<-e1,<-e2];exact e.symm
def Xe (w:World) (o:List (ByteArray×Val)) (e:Ending) (w':World):Prop:=Below w.heap.size w w'/\
 ((Cn o []=none/\e=.returned (.tuple #[.agg Cc,.int .i64 8]))\/
  ∃o' cs,Cn o []=some o'/\e=.returned (.tuple #[.agg (cs:List Value).toArray,.int .i64 0])/\cs.length=6/\Bk w.heap.size w' (dV (.mk 6 false 0 ⟨#[]⟩ [] o')) cs)
theorem Uj (o:List (ByteArray×Val)) (a:Option Addr) (n c:Nat) (w:World) (h:Ai w w.heap.size (.row 7 (dO o)) [.slice a n c]) (hb:Af o<=90000000):
 Calls Tryz.prog 80 #[.slice a n c] w (Xe w o):=by
 have hln:=Aw o;have hn:=h.row_len;rw[Az]at hn;subst hn;obtain⟨w0,hw0⟩: ∃w0,w.alloc (.cells Cc 33)=w0:=⟨_,rfl⟩;have hb0:Below w.heap.size w w0:=hw0▸(Below.refl _ _).alloc (Nat.le_refl _) _;have Hx0:=qz (show Ao w0 w.heap.size 33 Cc from by rw[<-hw0];exact Ao.new _ _ _);have hs0:w0.heap.size=w.heap.size+1:=by rw[<-hw0];simp
 have HCL:=qz (Q7 o a o.length c w0 (h.later hb0) (by omega));have hs0':w.heap.size<w0.heap.size:=by omega
 obtain⟨hS0,Hb0⟩:=hid2 hs0 hb0;clear hb0;clear h hs0;subst hw0;go_enter Tryz.func80,Tryz.ntmps80;go_wp2_with (fail);(with_reducible refine HCL.out.mono ?_);rintro e w1 ⟨V,ns,rfl,hown,hA,hb1⟩;obtain⟨d,hd1,rfl,hd3⟩:=Ach hA;obtain⟨a1,c1,rfl,hform⟩:=Yz hown;have Hdl:=qz (show d.length=o.length from by rw[<-hd1,List.length_map]);have Hx1:=qz (Hx0.out.below hb1 Hx0.out.lt);have hs1:=hb1.size;have Hb1':=qz (Hb0.out.trans (hb1.mono (Nat.le_of_lt hs0')));obtain⟨Hown,HA,Hd1,Hd3,Hform,Hb1⟩:=hid6 hown hA hd1 hd3 hform hb1;clear hown hA hd1 hd3 hform hb1;clear Hb0 Hx0;have hbs:Below w1.heap.size w1 (w1.alloc (.cells #[.slice a1 o.length c1] 31)):=(Below.refl _ _).alloc (Nat.le_refl _) _;have hsort:Calls Tryz.prog 112 #[.iface 31 (.slice a1 o.length c1),.func (.func 113) #[] #[.pointer (some ⟨w1.heap.size,0,none⟩)]] (w1.alloc (.cells #[.slice a1 o.length c1] 31)) (Aal (w1.alloc (.cells #[.slice a1 o.length c1] 31)) a1 d):=by
  have hBs:(w1.alloc (.cells #[.slice a1 o.length c1] 31)).cell? ⟨w1.heap.size,0,none⟩=some (.slice a1 d.length c1):=by
   rw[Hdl.out];exact(Ao.new w1 31 #[.slice a1 o.length c1]).cell 0
  have:=Wu a1 c1 w1.heap.size d (by have:=Hdl.out;omega) (w1.alloc (.cells #[.slice a1 o.length c1] 31)) ?_ hBs (by simp)
  . rwa [Hdl.out]at this
  . rcases Hform.out with⟨f1,f2,_⟩|⟨g,f1,f2,f3,f4,f5,f6⟩
    . exact .inl ⟨by rw[Hdl.out];exact f1,f2⟩
    . refine .inr ⟨g,f1,by simp;omega,by omega,fun i hi j hj=> ?_,fun j=> ?_⟩
      . rw[hbs.cell (p:=⟨g,i*7+j,none⟩) f3];exact f5 _ _ (Ml d i j hi hj)
      . rw[hbs.frozen (p:=⟨g,j,none⟩) f3];exact f6 j
 obtain⟨Hsort,Hbs⟩:=hid2 hsort hbs;clear hsort hbs;go_wp2_with (fail);(with_reducible refine Hsort.out.mono ?_);rintro e w3 ⟨rfl,d',s1,s2,s3,s4,s5,s6,s7,s8,s9⟩;have hg1: ∀g,a1=some ⟨g,0,none⟩->w.heap.size+1<=g/\g<w1.heap.size:=by
  intro g e;rcases Hform.out with⟨_,f2,_⟩|⟨g',f1,f2,f3,_⟩
  . rw[f2]at e;cases e
  . rw[f1]at e;simp only[Option.some.injEq,Addr.mk.injEq,and_true]at e;have:=hS0.out;omega
 have q1:w3.cell? ⟨w1.heap.size,0,none⟩=some (.slice a1 o.length c1):=by
  rw[World.cell?_of_block (s5 w1.heap.size (by simp) (fun g e=>by have:=hg1 g e;omega))];exact(Ao.new w1 31 #[.slice a1 o.length c1]).cell 0
 have hw1s:w.heap.size+1<=w1.heap.size:=by have:=hS0.out;omega
 have q2:Ao w3 w.heap.size 33 Cc:=by
  have h1:=s5 w.heap.size (by simp;omega) (fun g e=>by have:=hg1 g e;omega);exact h1.trans (Hx1.out.below Hbs.out (by omega))
 have q4:Below (w.alloc (.cells Cc 33)).heap.size (w.alloc (.cells Cc 33)) w3:=by
  have h0:=Hb1.out;have hs:=hS0.out;refine⟨s7.trans h0.os,s8.trans h0.tape,s9.trans h0.output,by simp at s6;omega,fun i hi=> ?_⟩;rw[s5 i (by simp;omega) (fun g e=>by have:=hg1 g e;omega),Hbs.out.block i (by omega)];exact h0.block i hi
 have q3:Below w.heap.size w w3:=by
  have h0:=Hb1'.out;refine⟨s7.trans h0.os,s8.trans h0.tape,s9.trans h0.output,by simp at s6;omega,fun i hi=> ?_⟩;rw[s5 i (by simp;omega) (fun g e=>by have:=hg1 g e;omega),Hbs.out.block i (by omega)];exact h0.block i hi
 rw[Hdl.out]at s1 s3 s4;have hsz3:w1.heap.size+1<=w3.heap.size:=by simpa using s6
 have hol:o.length<9000000000:=by omega
 have H0:Hid (∀t,1<=t->t<1->(d'[t]!).1≠(d'[t - 1]!).1):=fun t h1 h2=>absurd h2 (by omega);obtain⟨S1,S2,S3,S4,Q2,Q3,Q4⟩:=hid7 s1 s2 s3 s4 q2 q3 q4;clear s1 s2 s3 s4 q2 q3 q4;clear s5 s6 s7 s8 s9 Hsort hg1;go_wp2_with (fail);go_loopw [5] (fun i wx=> ∃q m:Nat,i=.int .i64 q/\1<=q/\(q<=o.length\/q=1)/\Hid (∀t,1<=t->t<q->(d'[t]!).1≠(d'[t - 1]!).1)/\wx=w3.drewN m) (fun i _=>o.length - (intOf i).toNat)
 case atStart=>exact⟨1,0,rfl,Nat.le_refl _,.inr rfl,H0,rfl⟩
 case round=>
  obtain⟨q,m,rfl,hq1,hq2,hne,rfl⟩:=hrel;clear H0;by_cases hlt:q<o.length
  . obtain⟨g,rfl,hg,hc⟩:=S4.out.resolve_left (by omega);have cq:w3.cell? ⟨g,q*7,none⟩=some (.string (d'[q]!).1):=by
     have:=hc q hlt 0 (by omega)
     rwa [Nat.add_zero,Mk]at this
    have cp:w3.cell? ⟨g,(q - 1)*7,none⟩=some (.string (d'[q - 1]!).1):=by
     have:=hc (q - 1) (by omega) 0 (by omega)
     rwa [Nat.add_zero,Mk]at this
    obtain⟨K,hK⟩: ∃K,(d'[q]!).1=K:=⟨_,rfl⟩;obtain⟨L,hL⟩: ∃L,(d'[q - 1]!).1=L:=⟨_,rfl⟩;rw[hK]at cq;rw[hL]at cp;obtain⟨HK,HL⟩:=hid2 hK hL;clear hK hL;clear hc;have x1:IntKind.i64.wrap ((q:Int) - 1)=(q:Int) - 1:=IntWalk.i64_in _ (by omega);have y1:(1:Int)<=(q:Int):=by omega
    have y2:(q:Int)<(o.length:Int):=by omega
    have y3:(q:Int)<(o.length:Int)+1:=by omega
    have y4:q<o.length+1:=by omega
    have y5:(q:Int) - 1<(o.length:Int):=by omega
    have y6:0<=(q:Int) - 1:=by omega
    have x2:((q:Int) - 1).toNat=q - 1:=by omega
    by_cases hkl:K.toList=L.toList
    . have hb1:(K.toList==L.toList)=true:=by simpa using hkl
      have Hkl:=qz hkl;clear hkl;go_wp2_with (fail);go_quiet (fail);clear x1 x2;obtain⟨z0,z1,z2,z3,z4,z5⟩:=Co Q2.out;have zf:=fun i=>Q2.out.frozen i;go_wp2;refine bodyPost_ret (v:=.tuple #[.agg Cc,.int .i64 8]) (by simp[results,Tryz.results80,go_sem,z0,z1,z2,z3,z4,z5]) rfl ⟨?_,.inl ⟨?_,rfl⟩⟩
      . repeat (refine Below.setCell ?_ (by simp) _)
        first|exact G8 Q3.out _|exact G8 (G8 Q3.out _) _
      . have hpm:=(S2.out.map Iz).trans (by rw[Hd1.out]);exact P9 hpm (V1 hq1 (by rw[S1.out];exact hlt) (by rw[HK.out,HL.out];exact Du Hkl.out))
    . have hb1:(K.toList==L.toList)=false:=by simpa using hkl
      have Hkl:=qz hkl;clear hkl;go_wp2_with (fail);go_quiet (fail);clear x1 x2;have Hne:Hid (∀t,1<=t->t<q+1->(d'[t]!).1≠(d'[t - 1]!).1):=by
       intro t h1 h2;by_cases ht:t=q
       . subst ht;rw[HK.out,HL.out];intro e;exact Hkl.out (by rw[e])
       . exact hne.out t h1 (by omega)
      clear hne;go_wp2;go_roundw
      case rel=>exact⟨q+1,_,by go_num,by omega,.inl (by omega),Hne,by first|rfl|exact World.drewN_drewN _ _ _⟩
      case measure=>simp only[intOf];omega
  . have hasc:Bb (d'.map Iz):=Aa2 (fun i j h1 h2=>S3.out i j h1 (by have:=S1.out;omega)) (fun t h1 h2=>hne.out t h1 (by have:=S1.out;omega));have hpm:(d'.map Iz).Perm o:=(S2.out.map Iz).trans (by rw[Hd1.out]);have hall:=Nx hpm hasc;have hlen:(d'.map Iz).length=o.length:=by rw[List.length_map,S1.out]
    have hbk:=Le hall;simp only[Af,Nat.zero_add]at hbk;have hWd:Below (w.alloc (.cells Cc 33)).heap.size (w.alloc (.cells Cc 33)) (w3.drewN m):=G8 Q4.out m;have hV:Ae (w3.drewN m) (w3.drewN m).heap.size (.mk 6 false 0 ⟨#[]⟩ [] (d'.map Iz)) [.int .i64 6,.bool false,.int .i64 0,.string ⟨#[]⟩,.slice none 0 0,.slice a1 o.length c1]:=by
     simp only[Ae];refine⟨none,0,a1,c1,by rw[hlen];rfl,.inl trivial, ?_⟩;rcases S4.out with h0|⟨g,rfl,hg,hc⟩
     . exact .inl (List.eq_nil_of_length_eq_zero (by rw[hlen];exact h0))
     . refine .inr ⟨g,0,rfl,hg,Ah.toO (fun m _=>Bj m.2) (Acc (d:=d') (fun x hx=> ?_)) (fun j u hj=> ?_)⟩
       . exact((Hd3.out x (S2.out.mem_iff.1 hx)).below hWd).more hWd.size
       . rw[Nat.zero_add];exact Ti (w:=w3) (fun i hi j hj=>hc i (by have:=S1.out;omega) j hj) j u hj
    have hCP:=Ie _ _ _ hV (by simp only[Val.bulk,Bd,ByteArray.size];rw[hbk];simp;omega);have Hsz4:Hid (w.heap.size<w3.heap.size):=Q2.out.lt;obtain⟨z0,z1,z2,z3,z4,z5⟩:=Co Q2.out;have zf:=fun i=>Q2.out.frozen i;obtain⟨O,hO⟩: ∃O,d'.map Iz=O:=⟨_,rfl⟩;rw[hO]at hCP hall;obtain⟨HCP,Hall⟩:=hid2 hCP hall;clear hCP hall;clear hne hasc hpm hlen hbk hWd hV hO;go_wp2_with (fail);(with_reducible refine HCP.out.mono ?_);rintro e w4 ⟨⟨cs,rfl,hl4,hf4⟩,hb4⟩;obtain⟨la2,lc2,oa2,oc2,rfl⟩:=L8 hf4;obtain⟨hc4,hz4⟩:=Pr hb4;have hg4:w.heap.size<w3.heap.size:=Hsz4.out;have HB4:Hid (Below w.heap.size w w4):=(G8 Q3.out m).trans (hb4.mono Q3.out.size);have HSz4:Hid (w3.heap.size<=w4.heap.size):=hb4.size;have k0:w4.cell? ⟨w.heap.size,0,none⟩=some (.int .i64 0):=(hc4 w.heap.size 0 hg4).trans z0;have k1:w4.cell? ⟨w.heap.size,1,none⟩=some (.bool false):=(hc4 w.heap.size 1 hg4).trans z1;have k2:w4.cell? ⟨w.heap.size,2,none⟩=some (.int .i64 0):=(hc4 w.heap.size 2 hg4).trans z2;have k3:w4.cell? ⟨w.heap.size,3,none⟩=some (.string ⟨#[]⟩):=(hc4 w.heap.size 3 hg4).trans z3;have k4:w4.cell? ⟨w.heap.size,4,none⟩=some (.slice none 0 0):=(hc4 w.heap.size 4 hg4).trans z4;have k5:w4.cell? ⟨w.heap.size,5,none⟩=some (.slice none 0 0):=(hc4 w.heap.size 5 hg4).trans z5;have kf: ∀i,w4.frozen? ⟨w.heap.size,i,none⟩=false:=fun i=>(hz4 w.heap.size i hg4).trans (zf i);have Hblk:Hid (w4.heap[w.heap.size]? =some (.cells Cc 33 (0,0))):=(hb4.block _ hg4).trans Q2.out;have Hf4:=qz hf4;clear hf4;clear hb4 hc4 hz4 hl4 z0 z1 z2 z3 z4 z5 zf;go_wp2;obtain⟨W,hW⟩: ∃W,((((((w4.setCell ⟨w.heap.size,0,none⟩ (.int .i64 6)).setCell ⟨w.heap.size,1,none⟩ (.bool false)).setCell ⟨w.heap.size,2,none⟩ (.int .i64 0)).setCell ⟨w.heap.size,3,none⟩ (.string ⟨#[]⟩)).setCell ⟨w.heap.size,4,none⟩ (.slice la2 0 lc2)).setCell ⟨w.heap.size,5,none⟩ (.slice oa2 O.length oc2))=W:=⟨_,rfl⟩;have hWh: ∀c,c≠w.heap.size->W.heap[c]? =w4.heap[c]? :=by
     intro c hc;rw[<-hW];simp only[Fx _ _ _ _ hc]
    have hWs:W.heap.size=w4.heap.size:=by rw[<-hW];simp[World.setCell]
    have hWb:Below w.heap.size w W:=by
     rw[<-hW];exact(((((HB4.out.setCell (by simp) _).setCell (by simp) _).setCell (by simp) _).setCell (by simp) _).setCell (by simp) _).setCell (by simp) _
    have hWr:Ao W w.heap.size 33 #[.int .i64 6,.bool false,.int .i64 0,.string ⟨#[]⟩,.slice la2 0 lc2,.slice oa2 O.length oc2]:=by
     have q3:Ao w4 w.heap.size 33 Cc:=Hblk.out;rw[<-hW];exact(((((q3.set_ 0 _).set_ 1 _).set_ 2 _).set_ 3 _).set_ 4 _).set_ 5 _
    obtain⟨s0,s1,s2,s3,s4,s5⟩:=Co hWr;have hFr:Bk w.heap.size W (dV (.mk 6 false 0 ⟨#[]⟩ [] O)) [.int .i64 6,.bool false,.int .i64 0,.string ⟨#[]⟩,.slice la2 0 lc2,.slice oa2 O.length oc2]:=
     Hf4.out.keep (by show w.heap.size<=w3.heap.size;omega) (by omega) (fun p p1 p2=>World.cell?_of_block (hWh _ (by have p1':w3.heap.size<=p.block:=p1;omega)))
    rw[hW];exact bodyPost_ret (v:=.tuple #[.agg #[.int .i64 6,.bool false,.int .i64 0,.string ⟨#[]⟩,.slice la2 0 lc2,.slice oa2 O.length oc2],.int .i64 0]) (by simp[results,Tryz.results80,go_sem,s0,s1,s2,s3,s4,s5]) rfl ⟨hWb,.inr ⟨O,_,Hall.out,rfl,rfl,hFr⟩⟩
theorem Ql (o o':List (ByteArray×Val)) (a:Option Addr) (n c:Nat) (w:World) (h:Ai w w.heap.size (.row 7 (dO o)) [.slice a n c]) (hb:Af o<=90000000) (ho:Cn o []=some o'):
 Calls Tryz.prog 80 #[.slice a n c] w fun e w'=>Below w.heap.size w w'/\ ∃la lc oa oc,e=.returned (.tuple #[.agg #[.int .i64 6,.bool false,.int .i64 0,.string ⟨#[]⟩,.slice la 0 lc,.slice oa o'.length oc],.int .i64 0])/\Bk w.heap.size w' (dV (ov o')) [.int .i64 6,.bool false,.int .i64 0,.string ⟨#[]⟩,.slice la 0 lc,.slice oa o'.length oc]:=by
 refine(Uj o a n c w h hb).mono ?_;rintro e w' ⟨hb',⟨hn,_⟩|⟨o2,cs,h2,rfl,hl,hf⟩⟩
 . rw[ho]at hn;cases hn
 . rw[ho]at h2
   cases h2
   have hv:=Bj (.mk 6 false 0 ⟨#[]⟩ [] o') _ hf.now;simp only[Ae]at hv;obtain⟨la,lc,oa,oc,rfl,_,_⟩:=hv;exact⟨hb',la,lc,oa,oc,rfl,hf⟩
theorem P0 {k a:ByteArray} {x:Val} {r:List A0} (h: ¬Bq a k=true):B6 k ((a,x)::r)=(a.toList==k.toList)/\Ct k ((a,x)::r)=0:=by
 have e:Ct k ((a,x)::r)=0:=by simp only[Ct,if_neg h]
 refine⟨?_,e⟩;unfold B6;rw[e];rfl
theorem Vv (k:ByteArray) (l:List A0) (M:Nat) (a:Option Addr) (n c:Nat) (w:World) (hM:w.cell? ⟨M,0,none⟩=some (.slice a n c)) (h:Ai w w.heap.size (.row 7 (dO l)) [.slice a n c]) (hl:l.length<=100000000):
 Calls Tryz.prog 88 #[.pointer (some ⟨M,0,none⟩),.string k] w fun e w'=>e=.returned (.tuple #[.int .i64 (Ct k l),.bool (B6 k l)])/\Below w.heap.size w w':=by
 obtain⟨PO,hPO⟩: ∃P:Ending->World->Prop,(fun e w'=>e=.returned (.tuple #[.int .i64 (Ct k l),.bool (B6 k l)])/\Below w.heap.size w w')=P:=⟨_,rfl⟩;rw[hPO];have hn:=h.row_len;rw[Az]at hn;subst hn;have lM:M<w.heap.size:=World.block_lt_of_cell? w _ hM;have H0:Hid (Ct k l=0+Ct k (l.drop 0)/\B6 k l=B6 k (l.drop 0)):=⟨by simp,by simp⟩;obtain⟨H,HPO⟩:=hid2 h hPO;clear h hPO;go_enter Tryz.func88,Tryz.ntmps88;go_wp2_with (fail);go_loopw [6] (fun i wr=> ∃q:Nat,i=.int .i64 q/\q<=l.length/\wr=w/\Hid (Ct k l=q+Ct k (l.drop q)/\B6 k l=B6 k (l.drop q))) (fun i _=>l.length - (intOf i).toNat)
 case atStart=>exact⟨0,rfl,Nat.zero_le _,rfl,H0⟩
 case round=>
  obtain⟨q,rfl,hq,hwr,hI⟩:=hrel;obtain rfl:=hwr.symm;clear H0;by_cases hlt:q<l.length
  . obtain⟨⟨key,v⟩,hx⟩: ∃v,l[q]? =some v:=⟨_,List.getElem?_eq_getElem hlt⟩;obtain⟨g,off,rfl,hg,u1,u2,u3,u4,u5,u6,_,r1⟩:=Bz H.out hx;have s0:=r1 0 _ rfl;simp only[Nat.add_zero]at s0;have hdr:l.drop q=(key,v)::l.drop (q+1):=by
     rw[List.drop_eq_getElem_cons hlt];have h:=List.getElem?_eq_getElem hlt;rw[hx]at h;rw[<-Option.some.inj h]
    have q1:(q:Int)<(l.length:Int):=by omega
    have q0:(0:Int)<=q:=by omega
    by_cases hk:Bq key k=true
    . have hk':Op.bytesLess key.toList k.toList=true:=hk;obtain⟨e1,e2⟩:=J6 (x:=v) (r:=l.drop (q+1)) hk;have HN:Hid (Ct k l=(q+1:Nat)+Ct k (l.drop (q+1))/\B6 k l=B6 k (l.drop (q+1))):=by
       obtain⟨i1,i2⟩:=hI.out;rw[hdr,e2]at i1;rw[hdr,e1]at i2;exact⟨by omega,i2⟩
      clear hI hdr e1 e2 r1;go_wp2;go_roundw
      case rel=>exact⟨q+1,by go_num,by omega,trivial,HN⟩
      case measure=>simp only[intOf];omega
    . have hk':Op.bytesLess key.toList k.toList=false:=Bool.eq_false_iff.2 hk;obtain⟨e1,e2⟩:=P0 (x:=v) (r:=l.drop (q+1)) hk;have HP:Hid (PO (.returned (.tuple #[.int .i64 q,.bool (key.toList==k.toList)])) w.drew):=by
       show PO _ _;rw[<-HPO.out];obtain⟨i1,i2⟩:=hI.out;rw[hdr,e2]at i1;rw[hdr,e1]at i2;rw[i1,i2];exact⟨rfl,Below.drew (Below.refl _ _)⟩
      clear hI hdr e1 e2 r1;go_upto_region 5 with(fail);refine wp_region_held_drew (S:=fun Y:World=>Y.cell? ⟨M,0,none⟩=some (.slice (some ⟨g,off,none⟩) l.length c)/\Y.cell? ⟨g,off+q*7,none⟩=some (.string key)) (by kernel_rfl) ⟨hM,s0⟩ (fun hHeld=> ?_);refine tkH 0 hHeld ?_;refine tkH 1 hHeld ?_;refine tkH 2 hHeld ?_;refine tkH 3 hHeld ?_;refine tkH 4 hHeld ?_;refine tkH 5 hHeld ?_;refine tkH 6 hHeld ?_;refine tkH 7 hHeld ?_;refine tkH 8 hHeld ?_;refine tkH 9 hHeld ?_;refine tkH 10 hHeld ?_;refine tkH 11 hHeld ?_;refine tkH 12 hHeld ?_;refine wpAnyH_done (by kernel_rfl) ?_ _;clear hHeld;go_wp2;exact HP.out
  . obtain rfl:q=l.length:=by omega
    have HP:Hid (PO (.returned (.tuple #[.int .i64 l.length,.bool false])) w):=by
     show PO _ _;rw[<-HPO.out];obtain⟨i1,i2⟩:=hI.out;rw[List.drop_length]at i1 i2;rw[i1,i2];exact⟨by simp[Ct,B6],Below.refl _ _⟩
    have q1: ¬(l.length:Int)<(l.length:Int):=by omega
    clear hI;go_wp2;exact HP.out
theorem Uf (S:Nat->Prop) (t:Option (Nat×Nd)) (p:Option Addr) (w:World) (ht:Ff S w t p):Calls Tryz.prog 35 #[.agg #[.pointer p]] w fun e w'=>e=.returned (.int .i64 (Cb t).length)/\Below w.heap.size w w':=by
 have hb:=Ac w (.cells #[.pointer p] 45);have hC:Calls Tryz.prog 71 #[.pointer p] (w.alloc (.cells #[.pointer p] 45)) fun e w'=>e=.returned (.int .i64 (Cb t).length)/\w.alloc (.cells #[.pointer p] 45)=w':=by
  cases t with
  |none=>
   cases ht
   exact Tz _
  |some t=>
   obtain⟨h,n⟩:=t;obtain⟨b,rfl,hb'⟩:=ht;exact Gq (hb'.below hb).now
 obtain⟨HC,Hb⟩:=hid2 hC hb;clear hC hb;clear ht;go_enter Tryz.func35,Tryz.ntmps35;go_wp2_with (fail);(with_reducible refine(HC.out).mono ?_);rintro e w1 ⟨rfl,rfl⟩;go_wp2;go_ret;exact⟨rfl,Hb.out⟩
end Go.Proofs.YtdbejcbbhomdbaaGreatDoor
