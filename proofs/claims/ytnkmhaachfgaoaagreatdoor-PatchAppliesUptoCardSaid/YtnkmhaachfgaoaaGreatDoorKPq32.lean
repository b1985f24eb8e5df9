/- Parts: Ops done to a tree, as data. Plain. No condition. -/
import Derived.Test.YtnkmhaachfgaoaaGreatDoorKPq28
import Derived.Test.YtnkmhaachfgaoaaGreatDoorKPq29
set_option maxHeartbeats 20000000
set_option maxRecDepth 100000
namespace Go.Proofs.YtnkmhaachfgaoaaGreatDoor
open Go Go.RowKit
theorem Z5 (p q:Option Addr) (w:World):Calls Tryz.prog 38 #[.agg #[.pointer p],.agg #[.pointer q]] w fun e w'=>e=.returned (.func (.func 68) #[] #[.pointer (some ⟨w.heap.size,0,none⟩),.pointer (some ⟨w.heap.size+1,0,none⟩)])/\(w.alloc (.cells #[.pointer p] 27)).alloc (.cells #[.pointer q] 27)=w':=by
 go_enter Tryz.func38,Tryz.ntmps38;go_wp2;go_ret;exact⟨rfl,rfl⟩
theorem Vb:(Tryz.prog.info? 42).map (fun i=>(i.zero,i.size,i.bytes))=some (some (.agg #[.int .i64 0,.string ⟨#[]⟩,.int .i64 0,.bool false,.int .i64 0,.string ⟨#[]⟩,.slice none 0 0,.slice none 0 0]),8,112):=by kernel_rfl
theorem Ym (w:World) (a0 a1 a2 a3 a4 a5 a6 a7:Value):A5 (w.alloc (.cells #[a0,a1,a2,a3,a4,a5,a6,a7] 42)) (w.heap.size+1) 8 (some ⟨w.heap.size,0,none⟩) 1 [a0,a1,a2,a3,a4,a5,a6,a7]:=Db (Ah.new w 42 #[a0,a1,a2,a3,a4,a5,a6,a7])
theorem Pb {w w':World} {v:Val} {cs:List Value} (h:Mo w w' v cs):Bv w.heap.size w' (dV v) cs:=fun w'' h1 h2=>D6 _ _ (h w'' h1 h2)
theorem Aes {B:Nat} {w:World} {k:Int} {key:ByteArray} {v:Val} {cs:List Value} (h:Bv B w (dV v) cs):Bv B w (dQ ⟨k,key,v⟩) (.int .i64 k:: .string key::cs):=fun w'' h1 h2=>⟨[.int .i64 k],.string key::cs,rfl,⟨rfl,rfl⟩, [.string key],cs,rfl,⟨rfl,rfl⟩,cs, [],by simp,h w'' h1 h2,rfl⟩
theorem K7 {B:Nat} {a w:World} (h:Below B a w) (n:Nat):Below B a (w.drewN n):=⟨h.os,h.tape,h.output,h.size,h.block⟩
theorem Ac5 {d:List Mx} {q:Nat} (h1:1<=q) (hq:q<d.length) (e:(d[q]!).1=(d[q - 1]!).1): ¬((d.map L7).map (·.1)).Nodup:=by
 intro hn;rw[List.map_map]at hn;have h2:=List.pairwise_iff_getElem.1 hn (q - 1) q (by simp;omega) (by simpa using hq) (by omega);simp only[List.getElem_map,Function.comp,L7]at h2;have hp:q - 1<d.length:=by omega
 apply h2;have e1:d[q]! =d[q]:=by simp[hq]
 have e2:d[q - 1]! =d[q - 1]:=by simp[hp]
 rw[<-e1,<-e2];exact e.symm
def Aea (w:World) (o:List (ByteArray×Val)) (e:Ending) (w':World):Prop:=Below w.heap.size w w'/\
 ((Dn o []=none/\e=.returned (.tuple #[.agg C9,.int .i64 8]))\/
  ∃o' cs,Dn o []=some o'/\e=.returned (.tuple #[.agg (cs:List Value).toArray,.int .i64 0])/\cs.length=6/\Bv w.heap.size w' (dV (.mk 6 false 0 ⟨#[]⟩ [] o')) cs)
theorem Abb (o:List (ByteArray×Val)) (a:Option Addr) (n c:Nat) (w:World) (h:Ae w w.heap.size (.row 7 (dO o)) [.slice a n c]) (hb:Ac o<=90000000):
 Calls Tryz.prog 174 #[.slice a n c] w (Aea w o):=by
 have hln:=Aw o;have hn:=h.row_len;rw[At]at hn;subst hn;obtain⟨w0,hw0⟩: ∃w0,w.alloc (.cells C9 40)=w0:=⟨_,rfl⟩;have hb0:Below w.heap.size w w0:=hw0▸(Below.refl _ _).alloc (Nat.le_refl _) _;have Hx0:=qz (show Ah w0 w.heap.size 40 C9 from by rw[<-hw0];exact Ah.new _ _ _);have hs0:w0.heap.size=w.heap.size+1:=by rw[<-hw0];simp
 have HCL:=qz (Wz o a o.length c w0 (h.later hb0) (by omega));have hs0':w.heap.size<w0.heap.size:=by omega
 obtain⟨hS0,Hb0⟩:=hid2 hs0 hb0;clear hb0;clear h hs0;subst hw0;go_enter Tryz.func174,Tryz.ntmps174;go_wp2_with (fail);(with_reducible refine HCL.out.mono ?_);rintro e w1 ⟨V,ns,rfl,hown,hA,hb1⟩;obtain⟨d,hd1,rfl,hd3⟩:=Ajr hA;obtain⟨a1,c1,rfl,hform⟩:=Afx hown;have Hdl:=qz (show d.length=o.length from by rw[<-hd1,List.length_map]);have Hx1:=qz (Hx0.out.below hb1 Hx0.out.lt);have hs1:=hb1.size;have Hb1':=qz (Hb0.out.trans (hb1.mono (Nat.le_of_lt hs0')));obtain⟨Hown,HA,Hd1,Hd3,Hform,Hb1⟩:=hid6 hown hA hd1 hd3 hform hb1;clear hown hA hd1 hd3 hform hb1;clear Hb0 Hx0;have hbs:Below w1.heap.size w1 (w1.alloc (.cells #[.slice a1 o.length c1] 38)):=(Below.refl _ _).alloc (Nat.le_refl _) _;have hsort:Calls Tryz.prog 201 #[.iface 38 (.slice a1 o.length c1),.func (.func 202) #[] #[.pointer (some ⟨w1.heap.size,0,none⟩)]] (w1.alloc (.cells #[.slice a1 o.length c1] 38)) (Ahu (w1.alloc (.cells #[.slice a1 o.length c1] 38)) a1 d):=by
  have hBs:(w1.alloc (.cells #[.slice a1 o.length c1] 38)).cell? ⟨w1.heap.size,0,none⟩=some (.slice a1 d.length c1):=by
   rw[Hdl.out];exact(Ah.new w1 38 #[.slice a1 o.length c1]).cell 0
  have:=Adm a1 c1 w1.heap.size d (by have:=Hdl.out;omega) (w1.alloc (.cells #[.slice a1 o.length c1] 38)) ?_ hBs (by simp)
  . rwa [Hdl.out]at this
  . rcases Hform.out with⟨f1,f2,_⟩|⟨g,f1,f2,f3,f4,f5,f6⟩
    . exact .inl ⟨by rw[Hdl.out];exact f1,f2⟩
    . refine .inr ⟨g,f1,by simp;omega,by omega,fun i hi j hj=> ?_,fun j=> ?_⟩
      . rw[hbs.cell (p:=⟨g,i*7+j,none⟩) f3];exact f5 _ _ (Q5 d i j hi hj)
      . rw[hbs.frozen (p:=⟨g,j,none⟩) f3];exact f6 j
 obtain⟨Hsort,Hbs⟩:=hid2 hsort hbs;clear hsort hbs;go_wp2_with (fail);(with_reducible refine Hsort.out.mono ?_);rintro e w3 ⟨rfl,d',s1,s2,s3,s4,s5,s6,s7,s8,s9⟩;have hg1: ∀g,a1=some ⟨g,0,none⟩->w.heap.size+1<=g/\g<w1.heap.size:=by
  intro g e;rcases Hform.out with⟨_,f2,_⟩|⟨g',f1,f2,f3,_⟩
  . rw[f2]at e;cases e
  . rw[f1]at e;simp only[Option.some.injEq,Addr.mk.injEq,and_true]at e;have:=hS0.out;omega
 have q1:w3.cell? ⟨w1.heap.size,0,none⟩=some (.slice a1 o.length c1):=by
  rw[World.cell?_of_block (s5 w1.heap.size (by simp) (fun g e=>by have:=hg1 g e;omega))];exact(Ah.new w1 38 #[.slice a1 o.length c1]).cell 0
 have hw1s:w.heap.size+1<=w1.heap.size:=by have:=hS0.out;omega
 have q2:Ah w3 w.heap.size 40 C9:=by
  have h1:=s5 w.heap.size (by simp;omega) (fun g e=>by have:=hg1 g e;omega);exact h1.trans (Hx1.out.below Hbs.out (by omega))
 have q4:Below (w.alloc (.cells C9 40)).heap.size (w.alloc (.cells C9 40)) w3:=by
  have h0:=Hb1.out;have hs:=hS0.out;refine⟨s7.trans h0.os,s8.trans h0.tape,s9.trans h0.output,by simp at s6;omega,fun i hi=> ?_⟩;rw[s5 i (by simp;omega) (fun g e=>by have:=hg1 g e;omega),Hbs.out.block i (by omega)];exact h0.block i hi
 have q3:Below w.heap.size w w3:=by
  have h0:=Hb1'.out;refine⟨s7.trans h0.os,s8.trans h0.tape,s9.trans h0.output,by simp at s6;omega,fun i hi=> ?_⟩;rw[s5 i (by simp;omega) (fun g e=>by have:=hg1 g e;omega),Hbs.out.block i (by omega)];exact h0.block i hi
 rw[Hdl.out]at s1 s3 s4;have hsz3:w1.heap.size+1<=w3.heap.size:=by simpa using s6
 have hol:o.length<9000000000:=by omega
 have H0:Hid (∀t,1<=t->t<1->(d'[t]!).1≠(d'[t - 1]!).1):=fun t h1 h2=>absurd h2 (by omega);obtain⟨S1,S2,S3,S4,Q2,Q3,Q4⟩:=hid7 s1 s2 s3 s4 q2 q3 q4;clear s1 s2 s3 s4 q2 q3 q4;clear s5 s6 s7 s8 s9 Hsort hg1;go_wp2_with (fail);go_loopw [5] (fun i wx=> ∃q m:Nat,i=.int .i64 q/\1<=q/\(q<=o.length\/q=1)/\Hid (∀t,1<=t->t<q->(d'[t]!).1≠(d'[t - 1]!).1)/\wx=w3.drewN m) (fun i _=>o.length - (intOf i).toNat)
 case atStart=>exact⟨1,0,rfl,Nat.le_refl _,.inr rfl,H0,rfl⟩
 case round=>
  obtain⟨q,m,rfl,hq1,hq2,hne,rfl⟩:=hrel;clear H0;by_cases hlt:q<o.length
  . obtain⟨g,rfl,hg,hc⟩:=S4.out.resolve_left (by omega);have cq:w3.cell? ⟨g,q*7,none⟩=some (.string (d'[q]!).1):=by
     have:=hc q hlt 0 (by omega)
     rwa [Nat.add_zero,Q1]at this
    have cp:w3.cell? ⟨g,(q - 1)*7,none⟩=some (.string (d'[q - 1]!).1):=by
     have:=hc (q - 1) (by omega) 0 (by omega)
     rwa [Nat.add_zero,Q1]at this
    obtain⟨K,hK⟩: ∃K,(d'[q]!).1=K:=⟨_,rfl⟩;obtain⟨L,hL⟩: ∃L,(d'[q - 1]!).1=L:=⟨_,rfl⟩;rw[hK]at cq;rw[hL]at cp;obtain⟨HK,HL⟩:=hid2 hK hL;clear hK hL;clear hc;have x1:IntKind.i64.wrap ((q:Int) - 1)=(q:Int) - 1:=IntWalk.i64_in _ (by omega);have y1:(1:Int)<=(q:Int):=by omega
    have y2:(q:Int)<(o.length:Int):=by omega
    have y3:(q:Int)<(o.length:Int)+1:=by omega
    have y4:q<o.length+1:=by omega
    have y5:(q:Int) - 1<(o.length:Int):=by omega
    have y6:0<=(q:Int) - 1:=by omega
    have x2:((q:Int) - 1).toNat=q - 1:=by omega
    by_cases hkl:K.toList=L.toList
    . have hb1:(K.toList==L.toList)=true:=by simpa using hkl
      have Hkl:=qz hkl;clear hkl;go_wp2_with (fail);go_quiet (fail);clear x1 x2;obtain⟨z0,z1,z2,z3,z4,z5⟩:=Dv Q2.out;have zf:=fun i=>Q2.out.frozen i;go_wp2;refine bodyPost_ret (v:=.tuple #[.agg C9,.int .i64 8]) (by simp[results,Tryz.results174,go_sem,z0,z1,z2,z3,z4,z5]) rfl ⟨?_,.inl ⟨?_,rfl⟩⟩
      . repeat (refine Below.setCell ?_ (by simp) _)
        first|exact K7 Q3.out _|exact K7 (K7 Q3.out _) _
      . have hpm:=(S2.out.map L7).trans (by rw[Hd1.out]);exact U9 hpm (Ac5 hq1 (by rw[S1.out];exact hlt) (by rw[HK.out,HL.out];exact Fk Hkl.out))
    . have hb1:(K.toList==L.toList)=false:=by simpa using hkl
      have Hkl:=qz hkl;clear hkl;go_wp2_with (fail);go_quiet (fail);clear x1 x2;have Hne:Hid (∀t,1<=t->t<q+1->(d'[t]!).1≠(d'[t - 1]!).1):=by
       intro t h1 h2;by_cases ht:t=q
       . subst ht;rw[HK.out,HL.out];intro e;exact Hkl.out (by rw[e])
       . exact hne.out t h1 (by omega)
      clear hne;go_wp2;go_roundw
      case rel=>exact⟨q+1,_,by go_num,by omega,.inl (by omega),Hne,by first|rfl|exact World.drewN_drewN _ _ _⟩
      case measure=>simp only[intOf];omega
  . have hasc:Az (d'.map L7):=Aib (fun i j h1 h2=>S3.out i j h1 (by have:=S1.out;omega)) (fun t h1 h2=>hne.out t h1 (by have:=S1.out;omega));have hpm:(d'.map L7).Perm o:=(S2.out.map L7).trans (by rw[Hd1.out]);have hall:=Sm hpm hasc;have hlen:(d'.map L7).length=o.length:=by rw[List.length_map,S1.out]
    have hbk:=Pi hall;simp only[Ac,Nat.zero_add]at hbk;have hWd:Below (w.alloc (.cells C9 40)).heap.size (w.alloc (.cells C9 40)) (w3.drewN m):=K7 Q4.out m;have hV:Ab (w3.drewN m) (w3.drewN m).heap.size (.mk 6 false 0 ⟨#[]⟩ [] (d'.map L7)) [.int .i64 6,.bool false,.int .i64 0,.string ⟨#[]⟩,.slice none 0 0,.slice a1 o.length c1]:=by
     simp only[Ab];refine⟨none,0,a1,c1,by rw[hlen];rfl,.inl trivial, ?_⟩;rcases S4.out with h0|⟨g,rfl,hg,hc⟩
     . exact .inl (List.eq_nil_of_length_eq_zero (by rw[hlen];exact h0))
     . refine .inr ⟨g,0,rfl,hg,Af.toO (fun m _=>Bp m.2) (Ajm (d:=d') (fun x hx=> ?_)) (fun j u hj=> ?_)⟩
       . exact((Hd3.out x (S2.out.mem_iff.1 hx)).below hWd).more hWd.size
       . rw[Nat.zero_add];exact Z8 (w:=w3) (fun i hi j hj=>hc i (by have:=S1.out;omega) j hj) j u hj
    have hCP:=Lp _ _ _ hV (by simp only[Val.bulk,Bc,ByteArray.size];rw[hbk];simp;omega);have Hsz4:Hid (w.heap.size<w3.heap.size):=Q2.out.lt;obtain⟨z0,z1,z2,z3,z4,z5⟩:=Dv Q2.out;have zf:=fun i=>Q2.out.frozen i;obtain⟨O,hO⟩: ∃O,d'.map L7=O:=⟨_,rfl⟩;rw[hO]at hCP hall;obtain⟨HCP,Hall⟩:=hid2 hCP hall;clear hCP hall;clear hne hasc hpm hlen hbk hWd hV hO;go_wp2_with (fail);(with_reducible refine HCP.out.mono ?_);rintro e w4 ⟨⟨cs,rfl,hl4,hf4⟩,hb4⟩;obtain⟨la2,lc2,oa2,oc2,rfl⟩:=Oe hf4;obtain⟨hc4,hz4⟩:=Un hb4;have hg4:w.heap.size<w3.heap.size:=Hsz4.out;have HB4:Hid (Below w.heap.size w w4):=(K7 Q3.out m).trans (hb4.mono Q3.out.size);have HSz4:Hid (w3.heap.size<=w4.heap.size):=hb4.size;have k0:w4.cell? ⟨w.heap.size,0,none⟩=some (.int .i64 0):=(hc4 w.heap.size 0 hg4).trans z0;have k1:w4.cell? ⟨w.heap.size,1,none⟩=some (.bool false):=(hc4 w.heap.size 1 hg4).trans z1;have k2:w4.cell? ⟨w.heap.size,2,none⟩=some (.int .i64 0):=(hc4 w.heap.size 2 hg4).trans z2;have k3:w4.cell? ⟨w.heap.size,3,none⟩=some (.string ⟨#[]⟩):=(hc4 w.heap.size 3 hg4).trans z3;have k4:w4.cell? ⟨w.heap.size,4,none⟩=some (.slice none 0 0):=(hc4 w.heap.size 4 hg4).trans z4;have k5:w4.cell? ⟨w.heap.size,5,none⟩=some (.slice none 0 0):=(hc4 w.heap.size 5 hg4).trans z5;have kf: ∀i,w4.frozen? ⟨w.heap.size,i,none⟩=false:=fun i=>(hz4 w.heap.size i hg4).trans (zf i);have Hblk:Hid (w4.heap[w.heap.size]? =some (.cells C9 40 (0,0))):=(hb4.block _ hg4).trans Q2.out;have Hf4:=qz hf4;clear hf4;clear hb4 hc4 hz4 hl4 z0 z1 z2 z3 z4 z5 zf;go_wp2;obtain⟨W,hW⟩: ∃W,((((((w4.setCell ⟨w.heap.size,0,none⟩ (.int .i64 6)).setCell ⟨w.heap.size,1,none⟩ (.bool false)).setCell ⟨w.heap.size,2,none⟩ (.int .i64 0)).setCell ⟨w.heap.size,3,none⟩ (.string ⟨#[]⟩)).setCell ⟨w.heap.size,4,none⟩ (.slice la2 0 lc2)).setCell ⟨w.heap.size,5,none⟩ (.slice oa2 O.length oc2))=W:=⟨_,rfl⟩;have hWh: ∀c,c≠w.heap.size->W.heap[c]? =w4.heap[c]? :=by
     intro c hc;rw[<-hW];simp only[Fx _ _ _ _ hc]
    have hWs:W.heap.size=w4.heap.size:=by rw[<-hW];simp[World.setCell]
    have hWb:Below w.heap.size w W:=by
     rw[<-hW];exact(((((HB4.out.setCell (by simp) _).setCell (by simp) _).setCell (by simp) _).setCell (by simp) _).setCell (by simp) _).setCell (by simp) _
    have hWr:Ah W w.heap.size 40 #[.int .i64 6,.bool false,.int .i64 0,.string ⟨#[]⟩,.slice la2 0 lc2,.slice oa2 O.length oc2]:=by
     have q3:Ah w4 w.heap.size 40 C9:=Hblk.out;rw[<-hW];exact(((((q3.set_ 0 _).set_ 1 _).set_ 2 _).set_ 3 _).set_ 4 _).set_ 5 _
    obtain⟨s0,s1,s2,s3,s4,s5⟩:=Dv hWr;have hFr:Bv w.heap.size W (dV (.mk 6 false 0 ⟨#[]⟩ [] O)) [.int .i64 6,.bool false,.int .i64 0,.string ⟨#[]⟩,.slice la2 0 lc2,.slice oa2 O.length oc2]:=
     Hf4.out.keep (by show w.heap.size<=w3.heap.size;omega) (by omega) (fun p p1 p2=>World.cell?_of_block (hWh _ (by have p1':w3.heap.size<=p.block:=p1;omega)))
    rw[hW];exact bodyPost_ret (v:=.tuple #[.agg #[.int .i64 6,.bool false,.int .i64 0,.string ⟨#[]⟩,.slice la2 0 lc2,.slice oa2 O.length oc2],.int .i64 0]) (by simp[results,Tryz.results174,go_sem,s0,s1,s2,s3,s4,s5]) rfl ⟨hWb,.inr ⟨O,_,Hall.out,rfl,rfl,hFr⟩⟩
theorem Vw (o o':List (ByteArray×Val)) (a:Option Addr) (n c:Nat) (w:World) (h:Ae w w.heap.size (.row 7 (dO o)) [.slice a n c]) (hb:Ac o<=90000000) (ho:Dn o []=some o'):
 Calls Tryz.prog 174 #[.slice a n c] w fun e w'=>Below w.heap.size w w'/\ ∃la lc oa oc,e=.returned (.tuple #[.agg #[.int .i64 6,.bool false,.int .i64 0,.string ⟨#[]⟩,.slice la 0 lc,.slice oa o'.length oc],.int .i64 0])/\Bv w.heap.size w' (dV (ov o')) [.int .i64 6,.bool false,.int .i64 0,.string ⟨#[]⟩,.slice la 0 lc,.slice oa o'.length oc]:=by
 refine(Abb o a n c w h hb).mono ?_;rintro e w' ⟨hb',⟨hn,_⟩|⟨o2,cs,h2,rfl,hl,hf⟩⟩
 . rw[ho]at hn;cases hn
 . rw[ho]at h2
   cases h2
   have hv:=Bp (.mk 6 false 0 ⟨#[]⟩ [] o') _ hf.now;simp only[Ab]at hv;obtain⟨la,lc,oa,oc,rfl,_,_⟩:=hv;exact⟨hb',la,lc,oa,oc,rfl,hf⟩
def Ol (t:Option (Nat×Nd)) (p:POp):Option (Nat×Nd):=if p.k=3 then none else if p.k=2 then(Kx t p.key).1 else Jy t p.key p.v
theorem Aiu {t:Option (Nat×Nd)} (p:POp) (h:M5 t):M5 (Ol t p)/\Ba (Ol t p)=Do (Ba t) p:=by
 unfold Ol Do;by_cases h3:p.k=3
 . rw[if_pos h3,if_pos h3];exact⟨trivial,rfl⟩
 rw[if_neg h3,if_neg h3];by_cases h2:p.k=2
 . rw[if_pos h2,if_pos h2];obtain⟨i1,i2,_⟩:=Ahh p.key h;exact⟨i2,i1⟩
 . rw[if_neg h2,if_neg h2];obtain⟨i1,i2⟩:=Ab7 p.key p.v h;exact⟨i2,i1⟩
theorem Ab5 (l:List Ax) (p:POp):(Do l p).length<=l.length+1/\Ac (Do l p)+1<=Ac l+(2+p.key.size+p.v.bulk):=by
 unfold Do;by_cases h3:p.k=3
 . rw[if_pos h3];exact⟨by simp,by simp only[Ac];omega⟩
 rw[if_neg h3];by_cases h2:p.k=2
 . rw[if_pos h2];have h1:=Qd p.key l;have h2:=Kb p.key l;exact⟨by omega,by omega⟩
 . rw[if_neg h2];have h1:=Im (k:=p.key) (v:=p.v) l;have h2:=Kc p.key p.v l;simp only[Ac,Dg]at h2;exact⟨by omega,by omega⟩
theorem Er: ∀(l:List POp) (t:Option (Nat×Nd)),M5 t->M5 (l.foldl Ol t)/\Ba (l.foldl Ol t)=l.foldl Do (Ba t)/\(Ba (l.foldl Ol t)).length<=(Ba t).length+l.length/\Ac (Ba (l.foldl Ol t))+l.length<=Ac (Ba t)+Bo l
 | [],t,h=>⟨h,rfl,by simp,by simp[Bo]⟩
 |p::r,t,h=>by
  obtain⟨p1,p2⟩:=Aiu p h;obtain⟨i1,i2,i3,i4⟩:=Er r (Ol t p) p1;obtain⟨j1,j2⟩:=Ab5 (Ba t) p;rw[p2]at i2 i3 i4;simp only[List.foldl_cons,List.length_cons,Bo];exact⟨i1,i2,by omega,by omega⟩
theorem Yh: ∀(l:List POp) (es:List Ax),(l.foldl Do es).length<=es.length+l.length/\Ac (l.foldl Do es)+l.length<=Ac es+Bo l
 | [],es=>⟨by simp,by simp[Bo]⟩
 |p::r,es=>by
  obtain⟨i1,i2⟩:=Yh r (Do es p);obtain⟨j1,j2⟩:=Ab5 es p;simp only[List.foldl_cons,List.length_cons,Bo];exact⟨by omega,by omega⟩
theorem Adr {es:List Ax} {l:List POp} {q:Nat} {p:POp} (h:l[q]? =some p):(l.take (q+1)).foldl Do es=Do ((l.take q).foldl Do es) p:=by
 rw[List.take_add_one,h,Option.toList_some,List.foldl_append];rfl
theorem Aa8 {t:Option (Nat×Nd)} {l:List POp} {q:Nat} {p:POp} (h:l[q]? =some p):(l.take (q+1)).foldl Ol t=Ol ((l.take q).foldl Ol t) p:=by
 rw[List.take_add_one,h,Option.toList_some,List.foldl_append];rfl
theorem Zs {l:List POp} {q:Nat} {p:POp} (h:l[q]? =some p):Bo (l.take q)+(2+p.key.size+p.v.bulk)<=Bo l:=by
 induction l generalizing q with
 |nil=>simp at h
 |cons x r ih=>
  cases q with
  |zero=>
   simp only[List.getElem?_cons_zero,Option.some.injEq]at h;subst h;simp only[List.take_zero,Bo];omega
  |succ q=>simp only[List.take_succ_cons,Bo];have:=ih (q:=q) (by simpa using h);omega
theorem Le: ∀{l:List POp} {prev:Option POp},Aq prev l=0-> ∀p ∈ l,p.k=1\/p.k=2\/p.k=3
 | [],_,_,p,hp=>by cases hp
 |q::r,prev,h,p,hp=>by
  have hk:q.k=1\/q.k=2\/q.k=3:=by
   by_cases h1:q.k=1
   . exact .inl h1
   by_cases h2:q.k=2
   . exact .inr (.inl h2)
   by_cases h3:q.k=3
   . exact .inr (.inr h3)
   . exfalso
     have:Cq q=true:=by unfold Cq;rw[if_neg h1,if_neg h2,if_neg h3]
     simp only[Aq,this,Bool.true_or,if_true]at h;omega
  rcases List.mem_cons.1 hp with rfl|hp
  . exact hk
  . have hr: ∃q',Aq q' r=0:=by
     simp only[Aq]at h
     split at h
     . omega
     split at h
     . exact⟨_,h⟩
     split at h
     . omega
     split at h
     . exact⟨_,h⟩
     split at h
     . exact⟨_,h⟩
     . rename_i hf;exact absurd h hf
    obtain⟨q',hr⟩:=hr;exact Le hr p hp
end Go.Proofs.YtnkmhaachfgaoaaGreatDoor
