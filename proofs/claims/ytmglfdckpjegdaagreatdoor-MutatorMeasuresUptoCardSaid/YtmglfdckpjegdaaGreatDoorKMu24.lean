/- Parts: The table of the mutators' names. Plain. No condition. -/
import Derived.Deep.RegionHeld
import Derived.Test.YtmglfdckpjegdaaGreatDoorKMu21
import Derived.Test.YtmglfdckpjegdaaGreatDoorKMu22
set_option maxHeartbeats 20000000
namespace Go.Proofs.YtmglfdckpjegdaaGreatDoor
def Cf:Val->Int
 | .mk k _ _ _ _ _=>k
def Ac0:Val->Int
 | .mk _ _ n _ _ _=>n
def Bu:Val->List (ByteArray×Val)
 | .mk _ _ _ _ _ o=>o
def Ep:Val->ByteArray
 | .mk _ _ _ t _ _=>t
def Im:Val->List Val
 | .mk _ _ _ _ l _=>l
theorem Aqo {v:Val} {d:Int} (h:Az v d=0) (hk:Cf v=3):v=iv (Ac0 v):=by
 obtain⟨k,b,n,t,l,o⟩:=v;have hk':k=3:=hk;subst hk';obtain⟨ho,_⟩:=Bv h;simp only[Fy]at ho;simp only[show((3:Int)==1)=false from rfl,show((3:Int)==2)=false from rfl,show((3:Int)==3)=true from rfl,if_true,Bool.false_eq_true,if_false,Bool.or_eq_false_iff,bne_eq_false_iff_eq,Bool.not_eq_false',List.length_eq_zero_iff,List.isEmpty_iff]at ho;obtain⟨⟨⟨hb,ht⟩,hl⟩,ho⟩:=ho;subst hb hl ho;have:t=Cp:=Fq (by rw[ht];simp[Lib.toList_data]);subst this;rfl
theorem Amk {v:Val} {d:Int} (h:Az v d=0) (hk:Cf v=6):v=ov (Bu v):=by
 obtain⟨k,b,n,t,l,o⟩:=v;have hk':k=6:=hk;subst hk';obtain⟨ho,_⟩:=Bv h;simp only[Fy]at ho;simp only[show((6:Int)==1)=false from rfl,show((6:Int)==2)=false from rfl,show((6:Int)==3)=false from rfl,show((6:Int)==4)=false from rfl,show((6:Int)==5)=false from rfl,show((6:Int)==6)=true from rfl,if_true,Bool.false_eq_true,if_false,Bool.or_eq_false_iff,bne_eq_false_iff_eq,Bool.not_eq_false',List.length_eq_zero_iff,List.isEmpty_iff]at ho;obtain⟨⟨⟨hb,hn⟩,ht⟩,hl⟩:=ho;subst hb hn hl;have:t=Cp:=Fq (by rw[ht];simp[Lib.toList_data]);subst this;rfl
theorem Aeh {v:Val} {d:Int} (h:Az v d=0) (hk:Cf v=4):v=tv (Ep v):=by
 obtain⟨k,b,n,t,l,o⟩:=v;have hk':k=4:=hk;subst hk';obtain⟨ho,_⟩:=Bv h;simp only[Fy]at ho;simp only[show((4:Int)==1)=false from rfl,show((4:Int)==2)=false from rfl,show((4:Int)==3)=false from rfl,show((4:Int)==4)=true from rfl,if_true,Bool.false_eq_true,if_false,Bool.or_eq_false_iff,bne_eq_false_iff_eq,List.length_eq_zero_iff]at ho;obtain⟨⟨⟨hb,hn⟩,hl⟩,ho⟩:=ho;subst hb hn hl ho;rfl
theorem Aqq {v:Val} {d:Int} (h:Az v d=0) (hk:Cf v=5):v=lv (Im v):=by
 obtain⟨k,b,n,t,l,o⟩:=v;have hk':k=5:=hk;subst hk';obtain⟨ho,_⟩:=Bv h;simp only[Fy]at ho;simp only[show((5:Int)==1)=false from rfl,show((5:Int)==2)=false from rfl,show((5:Int)==3)=false from rfl,show((5:Int)==4)=false from rfl,show((5:Int)==5)=true from rfl,if_true,Bool.false_eq_true,if_false,Bool.or_eq_false_iff,bne_eq_false_iff_eq,Bool.not_eq_false',List.length_eq_zero_iff,List.isEmpty_iff]at ho;obtain⟨⟨⟨hb,hn⟩,ht⟩,ho⟩:=ho;subst hb hn ho;have:t=Cp:=Fq (by rw[ht];simp[Lib.toList_data]);subst this;rfl
abbrev Jj:Val:=.mk 0 false 0 Cp [] []
theorem D5 {v:Val} (h:D0 v=true):v=Jj:=by
 obtain⟨k,b,n,t,l,o⟩:=v;have h':H8 k b n t l.length o.length=true:=h;unfold H8 at h';simp only[Bool.and_eq_true,decide_eq_true_eq,Bool.not_eq_true',List.length_eq_zero_iff,List.isEmpty_iff]at h';obtain⟨⟨⟨⟨⟨rfl,rfl⟩,rfl⟩,ht⟩,rfl⟩,rfl⟩:=h';have:t=Cp:=Fq (by rw[ht];simp[Lib.toList_data]);subst this;rfl
end Go.Proofs.YtmglfdckpjegdaaGreatDoor
namespace Go.Proofs.YtmglfdckpjegdaaGreatDoor
open Go Go.RowKit
theorem Afs {S:Nat->Prop} {s n c g off:Nat} {w:World} {l:List D} {q:Nat} {d:D} {u0 v1:Value} (h:Ae S w (.row s l) [.slice (some ⟨g,off,none⟩) n c]) (hi:l[q]? =some d) (hu: ∀(w:World) (B:Nat) cs,Holds w B d cs->cs[0]? =some u0) (hv:v1≠u0):
 S g/\ ∀cs:List Value,(∀j u,cs[j]? =some u->w.cell? ⟨g,off+q*s+j,none⟩=some u)->cs.length=s->Ae S w d cs:=by
 obtain⟨g',off',e,hg,cs0,h1,hl0,hc0⟩:=h.now.at_ hi
 cases e
 have hf:=hc0 0 u0 (hu _ _ _ h1);have hge:S g:=by
  refine Classical.byContradiction fun hlt=>hv ?_;obtain⟨g2,off2,e,_,cs1,h2,_,hc1⟩:=(h (w.setCell ⟨g,off+q*s+0,none⟩ v1) (by simp[World.setCell]) (fun p p1 p2=>World.cell?_setCell_far _ _ _ _ (by show g≠p.block;intro e;exact hlt (e▸p1)))).at_ hi
  cases e
  have:=hc1 0 u0 (hu _ _ _ h2);rw[World.cell?_setCell_same _ _ _ hf]at this;exact Option.some.inj this
 refine⟨hge,fun cs hcs hl w'' hs hk=> ?_⟩;obtain⟨g2,off2,e,_,cs2,h2,hl2,hc2⟩:=(h w'' hs hk).at_ hi
 cases e
 have:cs2=cs:=by
  refine List.ext_getElem? fun j=> ?_;by_cases hj:j<s
  . obtain⟨u,hu1⟩: ∃u,cs2[j]? =some u:=⟨_,List.getElem?_eq_getElem (by omega)⟩;obtain⟨u',hu2⟩: ∃u,cs[j]? =some u:=⟨_,List.getElem?_eq_getElem (by omega)⟩;have e1:=hc2 j u hu1;rw[hk _ hge hg,hcs j u' hu2]at e1;rw[hu1,hu2,Option.some.inj e1]
  . rw[List.getElem?_eq_none (by omega),List.getElem?_eq_none (by omega)]
 rw[<-this];exact h2
theorem Aat {S:Nat->Prop} {w:World} {k':Int} {b':Bool} {n':Int} {t':ByteArray} {l':List Val} {o':List (ByteArray×Val)} {x0 x1 x2 x3 x4 oa:Value} (h:Ae S w (dV (.mk k' b' n' t' l' o')) [x0,x1,x2,x3,x4,oa]):Ae S w (.row 7 (dO o')) [oa]:=fun w'' h1 h2=>Aop (h w'' h1 h2)
theorem An0 {S:Nat->Prop} {w:World} {k':Int} {b':Bool} {n':Int} {t':ByteArray} {l':List Val} {o':List (ByteArray×Val)} {x0 x1 x2 x3 la x5:Value} (h:Ae S w (dV (.mk k' b' n' t' l' o')) [x0,x1,x2,x3,la,x5]):Ae S w (.row 6 (dL l')) [la]:=fun w'' h1 h2=>Alw (h w'' h1 h2)
theorem Ak8 {k':Int} {b':Bool} {n':Int} {t':ByteArray} {l':List Val} {o':List (ByteArray×Val)} (w:World) (B:Nat) (cs:List Value) (h:Holds w B (dV (.mk k' b' n' t' l' o')) cs):cs[0]? =some (.int .i64 k'):=by
 have h6:=B8 _ _ h;simp only[Ab]at h6;obtain⟨la,lc,oa,oc,rfl,_,_⟩:=h6;rfl
theorem Ade {S:Nat->Prop} {w:World} {n c:Nat} {l:List (ByteArray×Val)} {a:Option Addr} (h:Ae S w (.row 7 (dO l)) [.slice a n c]) {q:Nat} {key:ByteArray} {k':Int} {b':Bool} {n':Int} {t':ByteArray} {l':List Val} {o':List (ByteArray×Val)} (hi:l[q]? =some (key,.mk k' b' n' t' l' o')):
 ∃g off,a=some ⟨g,off,none⟩/\g<w.heap.size/\ ∃la lc oa oc,Ae S w (dV (.mk k' b' n' t' l' o')) [.int .i64 k',.bool b',.int .i64 n',.string t',.slice la l'.length lc,.slice oa o'.length oc]/\
  w.cell? ⟨g,off+q*7,none⟩=some (.string key)/\w.cell? ⟨g,off+q*7+1,none⟩=some (.int .i64 k')/\w.cell? ⟨g,off+q*7+2,none⟩=some (.bool b')/\
  w.cell? ⟨g,off+q*7+3,none⟩=some (.int .i64 n')/\w.cell? ⟨g,off+q*7+4,none⟩=some (.string t')/\w.cell? ⟨g,off+q*7+5,none⟩=some (.slice la l'.length lc)/\w.cell? ⟨g,off+q*7+6,none⟩=some (.slice oa o'.length oc):=by
 obtain⟨g,off,rfl,hg,la,lc,oa,oc,_,c0,c1,c2,c3,c4,c5,c6⟩:=Aoi h.now hi;refine⟨g,off,rfl,hg,la,lc,oa,oc, ?_,c0,c1,c2,c3,c4,c5,c6⟩;have hm:=(Afs (v1:=.bool false) h (d:=dP (key,.mk k' b' n' t' l' o')) (by rw[Gb,List.getElem?_map,hi];rfl) Ak7 (by simp)).2 [.string key,.int .i64 k',.bool b',.int .i64 n',.string t',.slice la l'.length lc,.slice oa o'.length oc] (fun j u hj=>by
  match j with
  |0=>cases hj;exact c0
  |1=>cases hj;exact c1
  |2=>cases hj;exact c2
  |3=>cases hj;exact c3
  |4=>cases hj;exact c4
  |5=>cases hj;exact c5
  |6=>cases hj;exact c6
  |j+7=>simp at hj) rfl
 exact fun w'' h1 h2=>Apr (hm w'' h1 h2)
theorem Ans {S:Nat->Prop} {w:World} {n c:Nat} {l:List Val} {a:Option Addr} (h:Ae S w (.row 6 (dL l)) [.slice a n c]) {q:Nat} {k':Int} {b':Bool} {n':Int} {t':ByteArray} {l':List Val} {o':List (ByteArray×Val)} (hi:l[q]? =some (.mk k' b' n' t' l' o')):
 ∃g off,a=some ⟨g,off,none⟩/\g<w.heap.size/\ ∃la lc oa oc,Ae S w (dV (.mk k' b' n' t' l' o')) [.int .i64 k',.bool b',.int .i64 n',.string t',.slice la l'.length lc,.slice oa o'.length oc]/\
  w.cell? ⟨g,off+q*6,none⟩=some (.int .i64 k')/\w.cell? ⟨g,off+q*6+1,none⟩=some (.bool b')/\
  w.cell? ⟨g,off+q*6+2,none⟩=some (.int .i64 n')/\w.cell? ⟨g,off+q*6+3,none⟩=some (.string t')/\w.cell? ⟨g,off+q*6+4,none⟩=some (.slice la l'.length lc)/\w.cell? ⟨g,off+q*6+5,none⟩=some (.slice oa o'.length oc):=by
 obtain⟨g,off,ea,hg,cs,h1,_,h3⟩:=h.now.at_ (i:=q) (d:=dV (.mk k' b' n' t' l' o')) (by rw[Kc,List.getElem?_map,hi];rfl);have h6:=B8 _ _ h1;simp only[Ab]at h6;obtain⟨la,lc,oa,oc,rfl,_,_⟩:=h6;subst ea;have c0:=h3 0 _ rfl;have c1:=h3 1 _ rfl;have c2:=h3 2 _ rfl;have c3:=h3 3 _ rfl;have c4:=h3 4 _ rfl;have c5:=h3 5 _ rfl;refine⟨g,off,rfl,hg,la,lc,oa,oc, ?_,c0,c1,c2,c3,c4,c5⟩;exact(Afs (v1:=.bool false) h (d:=dV (.mk k' b' n' t' l' o')) (by rw[Kc,List.getElem?_map,hi];rfl) Ak8 (by simp)).2 _ (fun j u hj=>by
  match j with
  |0=>cases hj;exact c0
  |1=>cases hj;exact c1
  |2=>cases hj;exact c2
  |3=>cases hj;exact c3
  |4=>cases hj;exact c4
  |5=>cases hj;exact c5
  |j+6=>simp at hj) rfl
theorem Ae.base {S:Nat->Prop} {w0 w:World} {d:D} {cs:List Value} (h:Ae S w0 d cs) (hb:Below w0.heap.size w0 w):Ae (fun i=>S i/\i<w0.heap.size) w d cs:=fun w'' h1 h2=>
 (h w'' (Nat.le_trans hb.size h1) fun p p1 p2=>(h2 p ⟨p1,p2⟩ (Nat.lt_of_lt_of_le p2 hb.size)).trans (hb.cell p2)).more hb.size
theorem Ae.old_now {S:Nat->Prop} {w0 w:World} {d:D} {cs:List Value} (h:Ae S w0 d cs) (hb:Below w0.heap.size w0 w):Holds w w.heap.size d cs:=(h.below hb).now
theorem Aqg {S:Nat->Prop} {w4:World} {k:Int} {b:Bool} {n:Int} {t:ByteArray} {l:List Val} {o:List (ByteArray×Val)} {cs:List Value} (h:Ae S w4 (dV (.mk k b n t l o)) cs): ∃la lc oa oc,cs= [.int .i64 k,.bool b,.int .i64 n,.string t,.slice la l.length lc,.slice oa o.length oc]:=by
 have h1:=B8 _ _ h.now;simp only[Ab]at h1;obtain⟨la,lc,oa,oc,e,_,_⟩:=h1;exact⟨la,lc,oa,oc,e⟩
theorem Aft (S:Nat->Prop) (w:World):Ae S w (dV Jj) [.int .i64 0,.bool false,.int .i64 0,.string ⟨#[]⟩,.slice none 0 0,.slice none 0 0]:=fun w'' _ _=>by
 show Holds w'' w.heap.size (dV (.mk 0 false 0 ⟨#[]⟩ [] [])) _;simp only[dV,Holds];exact Aj.six.2 ⟨[.slice none 0 0], [.slice none 0 0],rfl,rfl,rfl,rfl,rfl,⟨none,0,rfl,by simp[dL], [],rfl,by simp[dL]⟩,⟨none,0,rfl,by simp[dO], [],rfl,by simp[dO]⟩⟩
theorem Apb {a b:ByteArray} (h:a≠b):(a.toList==b.toList)=false/\(a==b)=false:=by
 refine⟨?_,by rw[Ae7];simp[h]⟩
 cases e:(a.toList==b.toList)with
 |false=>rfl
 |true=>exact absurd (Fq (by simpa using e)) h
theorem Akt (a:ByteArray):(a.toList==a.toList)=true/\(a==a)=true:=⟨by simp,by rw[Ae7];simp⟩
def Nl (o:List (ByteArray×Val)) (key:ByteArray) (w:World) (e:Ending) (w':World):Prop:=Below w.heap.size w w'/\match As key o with
 |none=>e=.returned (.tuple #[.agg Ap,.bool false])
 |some x=> ∃cs:List Value,e=.returned (.tuple #[.agg cs.toArray,.bool true])/\Holds w w.heap.size (dV x) cs
def Akd (S:Nat->Prop) (w0:World) (o:List (ByteArray×Val)) (key:ByteArray) (w:World) (e:Ending) (w':World):Prop:=Below w.heap.size w w'/\match As key o with
 |none=>e=.returned (.tuple #[.agg Ap,.bool false])
 |some x=> ∃cs:List Value,e=.returned (.tuple #[.agg cs.toArray,.bool true])/\Ae S w0 (dV x) cs
structure FN (w wr:World):Prop where
 below:Below w.heap.size w wr
 res:Al wr w.heap.size 27 Ap
theorem FN.alloc {w wr:World} (h:FN w wr) (o:Obj):FN w (wr.alloc o):=⟨h.below.alloc h.below.size o,h.res.alloc o⟩
set_option maxRecDepth 100000 in
theorem Ow (S:Nat->Prop) (o:List (ByteArray×Val)) (a:Option Addr) (c:Nat) (key:ByteArray) (w0 w:World) (hw:Below w0.heap.size w0 w) (h:Ae S w0 (.row 7 (dO o)) [.slice a o.length c]) (hl:o.length<=100000000):
 Calls Tryz.prog 70 #[.slice a o.length c,.string key] w (Akd S w0 o key w):=by
 have hI0:FN w (w.alloc (.cells Ap 27)):=⟨(Below.refl _ _).alloc (Nat.le_refl _) _,Al.new w _ _⟩;obtain⟨wi,hwi⟩: ∃wi,w.alloc (.cells Ap 27)=wi:=⟨_,rfl⟩;rw[hwi]at hI0;have hs0: ∀p ∈ o.take 0,p.1≠key:=by simp
 obtain⟨HI0,H,Hs0,Hw⟩:=hid4 hI0 h hs0 hw;clear hI0 h hs0 hw;go_enter Tryz.func70,Tryz.ntmps70;go_upto_region 1 with(fail);clear hwi;go_wp2_with (fail);go_loopw [11] (fun i wr=> ∃q:Nat,i=.int .i64 q/\q<=o.length/\Hid (∀p ∈ o.take q,p.1≠key)/\Hid (FN w wr)) (fun i _=>o.length - (intOf i).toNat)
 case atStart=>exact⟨0,rfl,Nat.zero_le _,Hs0,HI0⟩
 case round=>
  obtain⟨q,rfl,hq,hin,hI⟩:=hrel;clear HI0 Hs0;have hq0:(0:Int)<=q:=by omega
  by_cases hlt:q<o.length
  . obtain⟨p,hp⟩: ∃p,o[q]? =some p:=⟨_,List.getElem?_eq_getElem (by omega)⟩;obtain⟨pkey,⟨pk,pb,pn,pt,pl,po⟩⟩:=p;have hz:=hI.out.below.size;have hbw:=Hw.out.trans (hI.out.below.mono Hw.out.size);obtain⟨g,off,rfl,hg,pla,plc,poa,poc,hv,d0,d1,d2,d3,d4,d5,d6⟩:=Ade H.out hp;have c0:=(hbw.cell (p:=⟨g,off+q*7,none⟩) hg).trans d0;have c1:=(hbw.cell (p:=⟨g,off+q*7+1,none⟩) hg).trans d1;have c2:=(hbw.cell (p:=⟨g,off+q*7+2,none⟩) hg).trans d2;have c3:=(hbw.cell (p:=⟨g,off+q*7+3,none⟩) hg).trans d3;have c4:=(hbw.cell (p:=⟨g,off+q*7+4,none⟩) hg).trans d4;have c5:=(hbw.cell (p:=⟨g,off+q*7+5,none⟩) hg).trans d5;have c6:=(hbw.cell (p:=⟨g,off+q*7+6,none⟩) hg).trans d6;clear d0 d1 d2 d3 d4 d5 d6;have hgr:g<wr.heap.size:=Nat.lt_of_lt_of_le hg hbw.size;have hq1:(q:Int)<(o.length:Int):=by omega
    have hIa:=hI.out.alloc (.cells #[.string pkey,.int .i64 pk,.bool pb,.int .i64 pn,.string pt,.slice pla pl.length plc,.slice poa po.length poc] 99);have hmb:=Al.new wr 99 #[.string pkey,.int .i64 pk,.bool pb,.int .i64 pn,.string pt,.slice pla pl.length plc,.slice poa po.length poc];have htk:o.take (q+1)=o.take q++ [(pkey,.mk pk pb pn pt pl po)]:=by rw[List.take_add_one,hp];simp
    by_cases hkk:pkey=key
    . subst hkk;obtain⟨e1,e2⟩:=Akt pkey;have hfind:=Vd (o:=o) hin.out hp rfl;have hlow:=hI.out.res.lt;obtain⟨Hv,Hp,Htk,Hfind⟩:=hid4 hv hp htk hfind;clear hv hp htk hfind;clear hI hin;go_upto_region 5 with(fail);clear c0 c1 c2 c3 c4 c5 c6;generalize wr.alloc (.cells #[.string pkey,.int .i64 pk,.bool pb,.int .i64 pn,.string pt,.slice pla pl.length plc,.slice poa po.length poc] 99)=wa at hIa hmb ⊢;obtain⟨r0,r1,r2,r3,r4,r5⟩:=Bo hIa.res;have fz:=hIa.res.frozen;have lt1:=hIa.res.lt;have m1:=hmb.cell 1;have m2:=hmb.cell 2;have m3:=hmb.cell 3;have m4:=hmb.cell 4;have m5:=hmb.cell 5;have m6:=hmb.cell 6;have ml:=hmb.lt;obtain⟨HIa,Hmb⟩:=hid2 hIa hmb;clear hIa hmb
      repeat go_step
      have hxf:=(((((HIa.out.res.set_ 0 (.int .i64 pk)).set_ 1 (.bool pb)).set_ 2 (.int .i64 pn)).set_ 3 (.string pt)).set_ 4 (.slice pla pl.length plc)).set_ 5 (.slice poa po.length poc);have hbf:=A7 [.int .i64 pk,.bool pb,.int .i64 pn,.string pt,.slice pla pl.length plc,.slice poa po.length poc] HIa.out.below (Nat.le_refl w.heap.size) (o:=0);refine bodyPost_ret (Du rfl rfl hxf) rfl ⟨hbf, ?_⟩;rw[Hfind.out];exact⟨_,rfl,Hv.out⟩
    . obtain⟨e1,e2⟩:=Apb hkk;have hin':Hid (∀p ∈ o.take (q+1),p.1≠key):=by
       refine Lib.hid ?_;rw[htk];intro p hp;rcases List.mem_append.1 hp with h|h
       . exact hin.out p h
       . obtain rfl:=List.mem_singleton.1 h;exact hkk
      obtain⟨HIa,Hmb,Hv,Hp,Htk⟩:=hid5 hIa hmb hv hp htk;clear hIa hmb hv hp htk;clear hI hin hkk;go_wp2;go_roundw
      case rel=>exact⟨q+1,by go_num,by omega,hin',HIa⟩
      case measure=>simp only[intOf];omega
  . obtain rfl:q=o.length:=by omega
    have hnone:=Ait (k:=key) (o:=o) (by
     have:=hin.out
     rwa [List.take_length]at this)
    have hI2:=hI.out.alloc (.cells Ap 27);have hnb:=Al.new wr 27 Ap;obtain⟨r0,r1,r2,r3,r4,r5⟩:=Bo hI2.res;have fz:=hI2.res.frozen;have lt1:=hI2.res.lt;obtain⟨Hnone,HI2,Hnb⟩:=hid3 hnone hI2 hnb;clear hnone hI2 hnb;clear hin;go_upto_region 8 with(fail)
    repeat go_step
    have hxf:=(((((HI2.out.res.set_ 0 (.int .i64 0)).set_ 1 (.bool false)).set_ 2 (.int .i64 0)).set_ 3 (.string ⟨#[]⟩)).set_ 4 (.slice none 0 0)).set_ 5 (.slice none 0 0);have hbf:=A7 [.int .i64 0,.bool false,.int .i64 0,.string ⟨#[]⟩,.slice none 0 0,.slice none 0 0] HI2.out.below (Nat.le_refl w.heap.size) (o:=0);refine bodyPost_ret (Du rfl rfl hxf) rfl ⟨hbf, ?_⟩;rw[Hnone.out];rfl
theorem K6 (o:List (ByteArray×Val)) (a:Option Addr) (c:Nat) (key:ByteArray) (w:World) (h:Holds w w.heap.size (.row 7 (dO o)) [.slice a o.length c]) (hl:o.length<=100000000):
 Calls Tryz.prog 70 #[.slice a o.length c,.string key] w (Nl o key w):=by
 refine(Ow (fun i=>i<w.heap.size) o a c key w w (Below.refl _ _) (Ae.of_old h (Nat.le_refl _) (Below.refl _ _)) hl).mono ?_;rintro e w' ⟨h1,h2⟩;refine⟨h1, ?_⟩
 split
 . rename_i e0;rw[e0]at h2;exact h2
 . rename_i x e0;rw[e0]at h2;obtain⟨cs,h3,h4⟩:=h2;exact⟨cs,h3,h4.now⟩
def Ly (k:ByteArray):List (ByteArray×Int)->Option Int
 | []=>none
 |(a,x)::r=>if a=k then some x else Ly k r
theorem Vb {k:ByteArray}: ∀{o:List (ByteArray×Int)} {q:Nat} {p:ByteArray×Int},(∀x ∈ o.take q,x.1≠k)->o[q]? =some p->p.1=k->Ly k o=some p.2
 | [],q,p,_,h,_=>by simp at h
 |x::r,0,p,_,h,e=>by
  simp only[List.getElem?_cons_zero,Option.some.injEq]at h;subst h;unfold Ly;rw[if_pos e]
 |x::r,q+1,p,ht,h,e=>by
  unfold Ly;rw[if_neg (ht x (by simp))];exact Vb (fun y hy=>ht y (by rw[List.take_succ_cons];exact List.mem_cons_of_mem _ hy)) (by simpa using h) e
theorem Yq {k:ByteArray}: ∀{o:List (ByteArray×Int)},(∀x ∈ o,x.1≠k)->Ly k o=none
 | [],_=>rfl
 |(a,x)::r,h=>by
  unfold Ly;rw[if_neg (h (a,x) (by simp)),Yq fun y hy=>h y (List.mem_cons_of_mem _ hy)]
structure Fld (w:World) (g off:Nat) (fs:List (ByteArray×Int)):Prop where
 lt:g<w.heap.size
 key: ∀j p,fs[j]? =some p->w.cell? ⟨g,off+j*2,none⟩=some (.string p.1)
 has: ∀j p,fs[j]? =some p->w.cell? ⟨g,off+j*2+1,none⟩=some (.int .i64 p.2)
theorem Fld.below {w w':World} {g off:Nat} {fs:List (ByteArray×Int)} (h:Fld w g off fs) (hb:Below w.heap.size w w'):Fld w' g off fs:=
 ⟨Nat.lt_of_lt_of_le h.lt hb.size,fun j p e=>(hb.cell (p:=⟨g,off+j*2,none⟩) h.lt).trans (h.key j p e),fun j p e=>(hb.cell (p:=⟨g,off+j*2+1,none⟩) h.lt).trans (h.has j p e)⟩
def Ane (fs:List (ByteArray×Int)) (key:ByteArray) (w:World) (e:Ending) (w':World):Prop:=Below w.heap.size w w'/\e=.returned (.tuple #[.int .i64 ((Ly key fs).getD 0),.bool (Ly key fs).isSome])
set_option maxRecDepth 100000 in
theorem Acq (fs:List (ByteArray×Int)) (g off c:Nat) (key:ByteArray) (w:World) (h:Fld w g off fs) (hl:fs.length<=100000000):
 Calls Tryz.prog 140 #[.slice (some ⟨g,off,none⟩) fs.length c,.string key] w (Ane fs key w):=by
 have hs0: ∀p ∈ fs.take 0,p.1≠key:=by simp
 have hI0:Below w.heap.size w w:=Below.refl _ _;obtain⟨HI0,H,Hs0⟩:=hid3 hI0 h hs0;clear hI0 h hs0;go_enter Tryz.func140,Tryz.ntmps140;go_upto_region 1 with(fail);go_wp2_with (fail);go_loopw [11] (fun i wr=> ∃q:Nat,i=.int .i64 q/\q<=fs.length/\Hid (∀p ∈ fs.take q,p.1≠key)/\Hid (Below w.heap.size w wr)) (fun i _=>fs.length - (intOf i).toNat)
 case atStart=>exact⟨0,rfl,Nat.zero_le _,Hs0,HI0⟩
 case round=>
  obtain⟨q,rfl,hq,hin,hI⟩:=hrel;clear HI0 Hs0;have hq0:(0:Int)<=q:=by omega
  by_cases hlt:q<fs.length
  . obtain⟨p,hp⟩: ∃p,fs[q]? =some p:=⟨_,List.getElem?_eq_getElem (by omega)⟩;obtain⟨pkey,pn⟩:=p;have hz:=hI.out.size;have hF:=H.out.below hI.out;have c0:=hF.key q _ hp;have c1:=hF.has q _ hp;have hgr:=hF.lt;have hq1:(q:Int)<(fs.length:Int):=by omega
    have hIa:=hI.out.alloc hz (.cells #[.string pkey,.int .i64 pn] 103);have htk:fs.take (q+1)=fs.take q++ [(pkey,pn)]:=by rw[List.take_add_one,hp];simp
    by_cases hkk:pkey=key
    . subst hkk;obtain⟨e1,e2⟩:=Akt pkey;have hfind:=Vb (o:=fs) hin.out hp rfl;obtain⟨HIa,Hp,Htk,Hfind,HF⟩:=hid5 hIa hp htk hfind hF;clear hIa hp htk hfind hF;clear hI hin;go_wp2;go_ret2;exact⟨HIa.out,by rw[Hfind.out];rfl⟩
    . obtain⟨e1,e2⟩:=Apb hkk;have hin':Hid (∀p ∈ fs.take (q+1),p.1≠key):=by
       refine Lib.hid ?_;rw[htk];intro p hp;rcases List.mem_append.1 hp with h|h
       . exact hin.out p h
       . obtain rfl:=List.mem_singleton.1 h;exact hkk
      obtain⟨HIa,Hp,Htk,HF⟩:=hid4 hIa hp htk hF;clear hIa hp htk hF;clear hI hin hkk;go_wp2;go_roundw
      case rel=>exact⟨q+1,by go_num,by omega,hin',HIa⟩
      case measure=>simp only[intOf];omega
  . obtain rfl:q=fs.length:=by omega
    have hnone:=Yq (k:=key) (o:=fs) (by
     have:=hin.out
     rwa [List.take_length]at this)
    have Hnone:=Lib.hid hnone;clear hnone;clear hin;go_wp2;go_ret2;exact⟨hI.out,by rw[Hnone.out];rfl⟩
abbrev Ai:ByteArray:=⟨#[97,114,103,115]⟩
abbrev An:ByteArray:=⟨#[110,97,109,101]⟩
abbrev Od:ByteArray:=⟨#[98,121]⟩
abbrev Ln:ByteArray:=⟨#[105,115]⟩
abbrev C4:ByteArray:=⟨#[119,97,115]⟩
abbrev Dn:ByteArray:=⟨#[102,114,111,109]⟩
abbrev Nj:ByteArray:=⟨#[116,111]⟩
abbrev Gu:ByteArray:=⟨#[100,111]⟩
abbrev Me:ByteArray:=⟨#[105,102]⟩
abbrev P8:ByteArray:=⟨#[112,117,116]⟩
abbrev P6:ByteArray:=⟨#[100,101,108]⟩
abbrev P7:ByteArray:=⟨#[105,110,99]⟩
abbrev O1:ByteArray:=⟨#[99,97,115]⟩
abbrev P5:ByteArray:=⟨#[97,112,112,101,110,100]⟩
abbrev Ll:ByteArray:=⟨#[109,111,118,101]⟩
abbrev Oj:ByteArray:=⟨#[115,101,113]⟩
def B9 (k:Int):ByteArray:=if k=1 then P8 else if k=2 then P6 else if k=3 then P7 else if k=4 then O1 else if k=5 then P5 else if k=6 then Ll else Oj
def Bf (key:ByteArray) (had:Bool) (was:Val):List (ByteArray×Val):=(Ar,tv key)::(if had then [(C4,was)]else [])
mutual
def Bb:Mut->Val
 | .mk k key dst n had was has v l=>ov [(Ai,ov (if k=1\/k=5 then [(Ar,tv key),(Fb,v)]else if k=2 then [(Ar,tv key)]else if k=3 then [(Od,iv n),(Ar,tv key)]
    else if k=4 then(if has then [(Ln,v)]else [])++Bf key had was
    else if k=6 then [(Dn,tv key),(Nj,tv dst)]
    else(Gu,lv (Be l))::(if key.toList.isEmpty then []else [(Me,ov (Bf key had was))]))),(An,tv (B9 k))]
def Be:List Mut->List Val
 | []=> []
 |m::r=>Bb m::Be r
end
theorem Nc: ∀l:List Mut,Be l=l.map Bb
 | []=>rfl
 |m::r=>by simp only[Be,List.map_cons,Nc r]
theorem Jh (l:List Mut):(Be l).length=l.length:=by rw[Nc,List.length_map]
theorem Af9 (k:Int):Aw (B9 k)=true:=by
 unfold B9
 split
 . decide
 split
 . decide
 split
 . decide
 split
 . decide
 split
 . decide
 split
 . decide
 . decide
theorem Lq (k:ByteArray): ∀q,(none:Option ByteArray)=some q->Vn k q=false:=fun _ e=>by cases e
theorem Qh {k p:ByteArray} (h:Vn k p=false): ∀q,some p=some q->Vn k q=false:=fun _ e=>by cases e;exact h
theorem Vq {v:Val} {d:Int} (h:Eg v=0) (hd:d<=48):Az v d=0:=by
 obtain⟨f1,f2,_⟩:=Nz h;exact Ada v _ 1 f1 (by omega)
theorem Tw {s:ByteArray} (h:Fe s=true):Aw s=true:=by
 unfold Fe at h;simp only[Bool.and_eq_true]at h;exact h.2
theorem E4 {k:Int} {key dst:ByteArray} {n:Int} {had:Bool} {was:Val} {has:Bool} {v:Val} {l:List Mut} {d:Int} (h:Dv (.mk k key dst n had was has v l) d=0):
 Ao k dst n had (D0 was) has (D0 v) l.length=true/\d<=6/\Dr k key dst had=true/\(had=true->Eg was=0)/\((has||decide (k=1)||decide (k=5))=true->Eg v=0)/\Gk l (d+1)=0:=by
 simp only[Dv]at h;by_cases h1:Ao k dst n had (D0 was) has (D0 v) l.length=false
 . rw[if_pos h1]at h;cases h
 rw[if_neg h1]at h;by_cases h2:6<d
 . rw[if_pos h2]at h;cases h
 rw[if_neg h2]at h;by_cases h3:Dr k key dst had=false
 . rw[if_pos h3]at h;cases h
 rw[if_neg h3]at h;by_cases h4:had=true/\Eg was≠0
 . rw[if_pos h4]at h;exact absurd h h4.2
 rw[if_neg h4]at h;by_cases h5:(has||decide (k=1)||decide (k=5))=true/\Eg v≠0
 . rw[if_pos h5]at h;exact absurd h h5.2
 rw[if_neg h5]at h;exact⟨by simpa using h1,by omega,by simpa using h3,fun e=>by by_cases e2:Eg was=0;exact e2;exact absurd ⟨e,e2⟩ h4,fun e=>by by_cases e2:Eg v=0;exact e2;exact absurd ⟨e,e2⟩ h5,h⟩
theorem Ic {l:List Mut} {d:Int} (h:Gk l d=0): ∀m ∈ l,Dv m d=0:=by
 induction l with
 |nil=>intro m hm;cases hm
 |cons x r ih=>
  simp only[Gk]at h;by_cases hx:Dv x d=0
  . rw[if_pos hx]at h;intro m hm;rcases List.mem_cons.1 hm with rfl|hm
    . exact hx
    . exact ih h m hm
  . rw[if_neg hx]at h;exact absurd h hx
theorem M4 {k:Int} {dst:ByteArray} {n:Int} {had wasZ has valZ:Bool} {ln:Nat} (h:Ao k dst n had wasZ has valZ ln=true):1<=k/\k<=7:=by
 unfold Ao at h;simp only[Bool.and_eq_true,decide_eq_true_eq]at h;exact⟨by omega,by omega⟩
theorem Sq {key:ByteArray} {had:Bool} {was:Val} {d:Int} (hk:Aw key=true) (hw:had=true->Eg was=0) (hd:d<=48) {last:Option ByteArray} (hl: ∀q,last=some q->Vn Ar q=false):Ds (Bf key had was) last d=0:=by
 have v1:Aw Ar=true:=by decide
 have v2:Aw C4=true:=by decide
 have l1:Vn C4 Ar=false:=by decide+kernel
 unfold Bf;refine Ei v1 (Qs hk (by omega)) hl ?_
 cases had with
 |false=>simp[Ds]
 |true=>simpa using Ei v2 (Vq (hw rfl) hd) (Qh l1) (by simp[Ds])
theorem Rp: ∀(m:Mut) (e d:Int),Dv m e=0->1<=e->d+3*(6 - e)<=40->Az (Bb m) d=0:=by
 refine Mut.ind ?_;intro k key dst n had was has v l IH e d h he hd;obtain⟨h1,h2,h3,h4,h5,h6⟩:=E4 h;obtain⟨k1,k7⟩:=M4 h1;have b1:Aw Ai=true:=by decide
 have b2:Aw An=true:=by decide
 have b3:Aw Ar=true:=by decide
 have b4:Aw Fb=true:=by decide
 have b5:Aw Od=true:=by decide
 have b6:Aw Ln=true:=by decide
 have b7:Aw Dn=true:=by decide
 have b8:Aw Nj=true:=by decide
 have b9:Aw Gu=true:=by decide
 have b10:Aw Me=true:=by decide
 have l1:Vn An Ai=false:=by decide+kernel
 have l2:Vn Fb Ar=false:=by decide+kernel
 have l3:Vn Ar Od=false:=by decide+kernel
 have l4:Vn Ar Ln=false:=by decide+kernel
 have l5:Vn Nj Dn=false:=by decide+kernel
 have l6:Vn Me Gu=false:=by decide+kernel
 simp only[Bb];refine Af4 (by omega) (Ei b1 (Af4 (by omega) ?_) (Lq _) (Ei b2 (Qs (Af9 k) (by omega)) (Qh l1) (by simp[Ds])));by_cases e1:k=1\/k=5
 . rw[if_pos e1];have hkey:Aw key=true:=L1 (by unfold Dr at h3;rwa [if_neg (by omega),if_neg (by rintro⟨rfl,_⟩;omega)]at h3);have hf:Eg v=0:=h5 (by rcases e1 with rfl|rfl<;>simp);exact Ei b3 (Qs hkey (by omega)) (Lq _) (Ei b4 (Vq hf (by omega)) (Qh l2) (by simp[Ds]))
 rw[if_neg e1];by_cases e2:k=2
 . rw[if_pos e2];have hkey:Aw key=true:=L1 (by unfold Dr at h3;rwa [if_neg (by omega),if_neg (by rintro⟨rfl,_⟩;omega)]at h3);exact Ei b3 (Qs hkey (by omega)) (Lq _) (by simp[Ds])
 rw[if_neg e2];by_cases e3:k=3
 . rw[if_pos e3];have hkey:Aw key=true:=L1 (by unfold Dr at h3;rwa [if_neg (by omega),if_neg (by rintro⟨rfl,_⟩;omega)]at h3);exact Ei b5 (Ap3 (by omega)) (Lq _) (Ei b3 (Qs hkey (by omega)) (Qh l3) (by simp[Ds]))
 rw[if_neg e3];by_cases e4:k=4
 . rw[if_pos e4];have hkey:Aw key=true:=L1 (by unfold Dr at h3;rwa [if_neg (by omega),if_neg (by rintro⟨rfl,_⟩;omega)]at h3)
   cases has with
   |false=>simpa using Sq hkey h4 (by omega) (Lq _)
   |true=>exact Ei b6 (Vq (h5 (by simp)) (by omega)) (Lq _) (Sq hkey h4 (by omega) (Qh l4))
 rw[if_neg e4];by_cases e6:k=6
 . rw[if_pos e6];unfold Dr at h3;rw[if_pos e6,Bool.and_eq_true]at h3;exact Ei b7 (Qs (Tw h3.1) (by omega)) (Lq _) (Ei b8 (Qs (Tw h3.2) (by omega)) (Qh l5) (by simp[Ds]))
 rw[if_neg e6];obtain rfl:k=7:=by omega
 have hdo: ∀f:Int,f=d+1+1->Az (lv (Be l)) f=0:=by
  rintro f rfl;refine Ap4 (by omega) ?_;rw[Nc];refine Al0 fun x hx=> ?_;obtain⟨m,hm,rfl⟩:=List.mem_map.1 hx;exact IH m hm (e+1) _ (Ic h6 m hm) (by omega) (by omega)
 refine Ei b9 (hdo _ rfl) (Lq _) ?_;by_cases hke:key.toList.isEmpty=true
 . rw[if_pos hke];simp[Ds]
 . rw[if_neg hke];have hkey:Aw key=true:=L1 (by unfold Dr at h3;rwa [if_neg (by omega),if_neg (by rintro⟨_,h⟩;exact hke h)]at h3);exact Ei b10 (Af4 (by omega) (Sq hkey h4 (by omega) (Lq _))) (Qh l6) (by simp[Ds])
theorem Td (s:ByteArray):Jg (tv s):=by simp only[tv,Jg,Mz,Jf];exact⟨by omega,trivial,trivial⟩
theorem Apv {n:Int} (h: -9223372036854775808<=n/\n<=9223372036854775807):Jg (iv n):=by simp only[iv,Jg,Mz,Jf];exact⟨h,trivial,trivial⟩
theorem Alm {o:List (ByteArray×Val)} (h:Jf o):Jg (ov o):=by simp only[ov,Jg,Mz];exact⟨by omega,trivial,h⟩
theorem Aqn {l:List Val} (h:Mz l):Jg (lv l):=by simp only[lv,Jg,Jf];exact⟨by omega,h,trivial⟩
theorem Vi (key:ByteArray) (had:Bool) {was:Val} (h:Jg was):Jf (Bf key had was):=by
 unfold Bf
 cases had with
 |false=>exact⟨Td key,trivial⟩
 |true=>exact⟨Td key,h,trivial⟩
theorem Ahm: ∀{l:List Mut},(∀m ∈ l,Jg (Bb m))->Mz (Be l)
 | [],_=>trivial
 |m::r,h=>⟨h m (by simp),Ahm fun x hx=>h x (by simp[hx])⟩
theorem Rl: ∀m:Mut,Mu m->Jg (Bb m):=by
 refine Mut.ind ?_;intro k key dst n had was has v l IH h;simp only[Mu]at h;obtain⟨h1,h2,h3,h4⟩:=h;simp only[Bb];refine Alm ⟨Alm ?_,Td (B9 k),trivial⟩
 split
 . exact⟨Td key,h3,trivial⟩
 split
 . exact⟨Td key,trivial⟩
 split
 . exact⟨Apv h1,Td key,trivial⟩
 split
 . cases has with
   |false=>exact Vi key had h2
   |true=>exact⟨h3,Vi key had h2⟩
 split
 . exact⟨Td key,Td dst,trivial⟩
 . refine⟨Aqn (Ahm fun m hm=>IH m hm (Vg hm h4)), ?_⟩
   split
   . trivial
   . exact⟨Alm (Vi key had h2),trivial⟩
theorem Afb (key:ByteArray) (had:Bool) (was:Val):Av (Bf key had was)<=20+key.size+was.bulk:=by
 have e1:(⟨#[]⟩:ByteArray).size=0:=rfl;have e2:Ar.size=3:=rfl;have e3:C4.size=3:=rfl;unfold Bf
 cases had with
 |false=>simp only[Bool.false_eq_true,if_false,Av,Gi,tv,Val.bulk,Bd,e2];omega
 |true=>simp only[if_true,Av,Gi,tv,Val.bulk,Bd,e2,e3];omega
theorem Aje (k:Int):(B9 k).size<=6:=by
 unfold B9
 split
 . decide
 split
 . decide
 split
 . decide
 split
 . decide
 split
 . decide
 split
 . decide
 . decide
theorem Pn: ∀m:Mut,(Bb m).bulk<=12*Bm m:=by
 refine Mut.ind ?_;intro k key dst n had was has v l IH;have hl:Bd (Be l)<=12*C3 l:=by
  induction l with
  |nil=>simp[Be,Bd]
  |cons m r ih=>
   have h1:=IH m (by simp);have h2:=ih fun x hx=>IH x (by simp[hx]);simp only[Be,Bd,C3];omega
 have hg:=Afb key had was;have hn:=Aje k;have e1:(⟨#[]⟩:ByteArray).size=0:=rfl;have c1:Ai.size=4:=rfl;have c2:An.size=4:=rfl;have c3:Ar.size=3:=rfl;have c4:Fb.size=5:=rfl;have c5:Od.size=2:=rfl;have c6:Ln.size=2:=rfl;have c7:Dn.size=4:=rfl;have c8:Nj.size=2:=rfl;have c9:Gu.size=2:=rfl;have c10:Me.size=2:=rfl;simp only[Bb,Bm]
 split
 . simp only[ov,tv,Val.bulk,Bd,Av,Gi,e1,c1,c2,c3,c4];omega
 split
 . simp only[ov,tv,Val.bulk,Bd,Av,Gi,e1,c1,c2,c3];omega
 split
 . simp only[ov,tv,iv,Val.bulk,Bd,Av,Gi,e1,c1,c2,c3,c5];omega
 split
 . cases has with
   |false=>simp only[Bool.false_eq_true,if_false,List.nil_append,ov,tv,Val.bulk,Bd,Av,Gi,e1,c1,c2];omega
   |true=>simp only[if_true,List.singleton_append,ov,tv,Val.bulk,Bd,Av,Gi,e1,c1,c2,c6];omega
 split
 . simp only[ov,tv,Val.bulk,Bd,Av,Gi,e1,c1,c2,c7,c8];omega
 . split
   . simp only[ov,lv,tv,Val.bulk,Bd,Av,Gi,e1,c1,c2,c9];omega
   . simp only[ov,lv,tv,Val.bulk,Bd,Av,Gi,e1,c1,c2,c9,c10];omega
end Go.Proofs.YtmglfdckpjegdaaGreatDoor
namespace Go.Proofs.YtmglfdckpjegdaaGreatDoor
def Aqz:Nat:=3988292384
def st1 (r:Nat):Nat:=if r % 2=1 then(r / 2) ^^^ Aqz else r / 2
def stN:Nat->Nat->Nat
 |0,r=>r
 |n+1,r=>stN n (st1 r)
@[irreducible] def st8 (r:Nat):Nat:=stN 8 r
end Go.Proofs.YtmglfdckpjegdaaGreatDoor
namespace Go.Proofs.YtmglfdckpjegdaaGreatDoor
open Go Go.RowKit
structure RBx (w W:World) (cs:Array Value):Prop where
 below:Below w.heap.size w W
 blk:Al W w.heap.size 27 cs
theorem RBx.start (w:World):RBx w (w.alloc (.cells Ap 27)) Ap:=⟨Aa w _,Al.new _ _ _⟩
theorem RBx.later {w W W':World} {cs:Array Value} (h:RBx w W cs) (t:Below W.heap.size W W'):RBx w W' cs:=⟨h.below.trans (t.mono h.below.size),h.blk.below t h.blk.lt⟩
theorem RBx.many {w W:World} {b0 b1 b2 b3 b4 b5:Value} (h:RBx w W #[b0,b1,b2,b3,b4,b5]) (a0 a1 a2 a3 a4 a5:Value):RBx w (Bi W w.heap.size 0 [a0,a1,a2,a3,a4,a5]) #[a0,a1,a2,a3,a4,a5]:=
 ⟨A7 _ h.below (Nat.le_refl _),((((((h.blk.set_ 0 a0).set_ 1 a1).set_ 2 a2).set_ 3 a3).set_ 4 a4).set_ 5 a5)⟩
def Apk (w:World) (RES:Rd Val) (e:Ending) (w':World):Prop:=Below w.heap.size w w'/\match RES with
 | .ok v q=> ∃cs:List Value,e=.returned (.tuple #[.agg cs.toArray,.int .i64 (q:Nat),.int .i64 0])/\Au w.heap.size w' (dV v) cs
 | .bad c q=>e=.returned (.tuple #[.agg Ap,.int .i64 (q:Nat),.int .i64 c])
end Go.Proofs.YtmglfdckpjegdaaGreatDoor
namespace Go.Proofs.YtmglfdckpjegdaaGreatDoor
theorem De {k:ByteArray} {o:List (ByteArray×Val)}:(As k o).isSome=true ↔ k ∈ o.map (·.1):=by
 cases h:As k o with
 |none=>simp only[Option.isSome_none,Bool.false_eq_true,false_iff];exact Qn.1 h
 |some v=>
  simp only[Option.isSome_some,true_iff];exact List.mem_map.2 ⟨_,E0 h,rfl⟩
end Go.Proofs.YtmglfdckpjegdaaGreatDoor
namespace Go.Proofs.YtmglfdckpjegdaaGreatDoor
open Go.RowKit
def E7 (k:Int) (dst:ByteArray) (n:Int) (had wasZ has valZ:Bool) (ln:Nat):Bool:=
 if(!had&& !wasZ)=true then true
 else if k=1\/k=5 then !(dst.toList.isEmpty&&decide (n=0)&& !had&&wasZ&& !has&&decide (ln=0))
 else if k=2 then !(dst.toList.isEmpty&&decide (n=0)&& !had&&wasZ&& !has&&valZ&&decide (ln=0))
 else if k=3 then !(dst.toList.isEmpty&& !had&&wasZ&& !has&&valZ&&decide (ln=0))
 else if k=4 then(!has&& !valZ)|| !(dst.toList.isEmpty&&decide (n=0)&&decide (ln=0))
 else if k=6 then !(decide (n=0)&& !had&&wasZ&& !has&&valZ&&decide (ln=0))
 else if k=7 then !(dst.toList.isEmpty&&decide (n=0)&& !has&&valZ)
 else true
theorem Abk (k:Int) (dst:ByteArray) (n:Int) (had wasZ has valZ:Bool) (ln:Nat):E7 k dst n had wasZ has valZ ln= !Ao k dst n had wasZ has valZ ln:=by
 unfold E7 Ao;generalize dst.toList.isEmpty=e;generalize hz:decide (n=0)=z;generalize hy:decide (ln=0)=y;by_cases h1:k=1
 . subst h1;simp;cases e<;>cases z<;>cases y<;>cases had<;>cases wasZ<;>cases has<;>cases valZ<;>rfl
 by_cases h5:k=5
 . subst h5;simp;cases e<;>cases z<;>cases y<;>cases had<;>cases wasZ<;>cases has<;>cases valZ<;>rfl
 by_cases h2:k=2
 . subst h2;simp;cases e<;>cases z<;>cases y<;>cases had<;>cases wasZ<;>cases has<;>cases valZ<;>rfl
 by_cases h3:k=3
 . subst h3;simp;cases e<;>cases z<;>cases y<;>cases had<;>cases wasZ<;>cases has<;>cases valZ<;>rfl
 by_cases h4:k=4
 . subst h4;simp;cases e<;>cases z<;>cases y<;>cases had<;>cases wasZ<;>cases has<;>cases valZ<;>rfl
 by_cases h6:k=6
 . subst h6;simp;cases e<;>cases z<;>cases y<;>cases had<;>cases wasZ<;>cases has<;>cases valZ<;>rfl
 by_cases h7:k=7
 . subst h7;simp;cases e<;>cases z<;>cases y<;>cases had<;>cases wasZ<;>cases has<;>cases valZ<;>rfl
 have:(decide (1<=k)&&decide (k<=7))=false:=by simp;omega
 simp[h1,h2,h3,h4,h5,h6,h7,this]
def Fs (w:World):Prop:=w.cell? ⟨0,1,none⟩=some (.string P8)/\w.cell? ⟨0,2,none⟩=some (.string P6)/\w.cell? ⟨0,3,none⟩=some (.string P7)/\w.cell? ⟨0,4,none⟩=some (.string O1)/\w.cell? ⟨0,5,none⟩=some (.string P5)/\w.cell? ⟨0,6,none⟩=some (.string Ll)/\w.cell? ⟨0,7,none⟩=some (.string Oj)/\0<w.heap.size
theorem Fs.below {w w':World} (h:Fs w) (hb:Below w.heap.size w w'):Fs w':=by
 obtain⟨h1,h2,h3,h4,h5,h6,h7,h8⟩:=h;exact⟨(hb.cell h8).trans h1,(hb.cell h8).trans h2,(hb.cell h8).trans h3,(hb.cell h8).trans h4,(hb.cell h8).trans h5,(hb.cell h8).trans h6,(hb.cell h8).trans h7,Nat.lt_of_lt_of_le h8 hb.size⟩
end Go.Proofs.YtmglfdckpjegdaaGreatDoor
