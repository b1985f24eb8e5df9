/- Parts: The reference's keys and its zero value. Condition: a bulk of at most 10^8. -/
import Derived.Deep.RegionHeld
import Derived.Deep.MidRow
import Derived.Test.YtobmaegpfbheoaaGreatDoorKMo17
import Derived.Test.YtobmaegpfbheoaaGreatDoorKMo18
set_option maxHeartbeats 20000000
set_option maxRecDepth 100000
namespace Go.Proofs.YtobmaegpfbheoaaGreatDoor
open Go.RowKit
abbrev Ec:ByteArray:=⟨#[]⟩
abbrev As:ByteArray:=⟨#[107,101,121]⟩
abbrev E3:ByteArray:=⟨#[118,97,108,117,101]⟩
def tv (s:ByteArray):Val:=.mk 4 false 0 s [] []
def iv (n:Int):Val:=.mk 3 false n Ec [] []
def lv (l:List Val):Val:=.mk 5 false 0 Ec l []
def ov (o:List (ByteArray×Val)):Val:=.mk 6 false 0 Ec [] o
theorem Oc:Az Ec=true:=by decide
theorem Aj3 (s:ByteArray):F8 4 false 0 s 0 0=false:=by simp[F8]
theorem Aj0 (n:Int):F8 3 false n Ec 0 0=false:=by simp[F8,Lib.toList_data]
theorem Aj1 (n:Nat):F8 5 false 0 Ec n 0=false:=by simp[F8,Lib.toList_data]
theorem Aj2 (n:Nat):F8 6 false 0 Ec 0 n=false:=by simp[F8,Lib.toList_data]
theorem Wm {k:Int} {b:Bool} {n:Int} {t:ByteArray} {l:List Val} {o:List (ByteArray×Val)} {d:Int} (h1:F8 k b n t l.length o.length=false) (h2:d<=64) (h3:Az t=true) (h4:Ds l (d+1)=0) (h5:C5 o none (d+1)=0):Bb (.mk k b n t l o) d=0:=by
 simp only[Bb];rw[if_neg (by rw[h1];simp),if_neg (by omega),if_pos h3,if_pos h4];exact h5
theorem Ob {s:ByteArray} {d:Int} (h:Az s=true) (hd:d<=64):Bb (tv s) d=0:=Wm (Aj3 s) hd h (by simp[Ds]) (by simp[C5])
theorem Ajy {n d:Int} (hd:d<=64):Bb (iv n) d=0:=Wm (Aj0 n) hd Oc (by simp[Ds]) (by simp[C5])
theorem Ajz {l:List Val} {d:Int} (hd:d<=64) (h:Ds l (d+1)=0):Bb (lv l) d=0:=Wm (Aj1 _) hd Oc h (by simp[C5])
theorem Abp {o:List (ByteArray×Val)} {d:Int} (hd:d<=64) (h:C5 o none (d+1)=0):Bb (ov o) d=0:=Wm (Aj2 _) hd Oc (by simp[Ds]) h
theorem Dn {key:ByteArray} {v:Val} {r:List (ByteArray×Val)} {d:Int} (hk:Az key=true) (hv:Bb v d=0) {last:Option ByteArray} (hl: ∀q,last=some q->Th key q=false) (hr:C5 r (some key) d=0):C5 ((key,v)::r) last d=0:=by
 have h1:P8 (key,v) last d=0:=by
  simp only[P8];rw[if_pos hk]
  cases last with
  |none=>exact hv
  |some q=>
   simp only;rw[if_neg (by rw[hl q rfl];simp)];exact hv
 simp only[C5];rw[if_pos h1];exact hr
theorem J9 {k:ByteArray} (h:Agg k=true):Az k=true:=by
 unfold Agg at h;simp only[Bool.and_eq_true]at h;exact h.2.2
theorem Aa9 {v:Val} (h:Ex v=0):Bb v 1=0/\E5 v<=16/\(Cs v).length<=1024:=by
 unfold Ex at h;by_cases h1:Bb v 1=0
 . rw[if_pos h1]at h;by_cases h2:16<E5 v
   . rw[if_pos h2]at h;cases h
   rw[if_neg h2]at h;by_cases h3:1024<(Cs v).length
   . rw[if_pos h3]at h;cases h
   exact⟨h1,by omega,by omega⟩
 . rw[if_neg h1]at h;exact absurd h h1
theorem Agm {l:List Val} {d:Int} (h: ∀v ∈ l,Bb v d=0):Ds l d=0:=by
 induction l with
 |nil=>simp[Ds]
 |cons v r ih=>
  simp only[Ds];rw[if_pos (h v (by simp))];exact ih fun x hx=>h x (by simp[hx])
end Go.Proofs.YtobmaegpfbheoaaGreatDoor
namespace Go.Proofs.YtobmaegpfbheoaaGreatDoor
def Cx:Val->Int
 | .mk k _ _ _ _ _=>k
def Ac6:Val->Int
 | .mk _ _ n _ _ _=>n
def B0:Val->List (ByteArray×Val)
 | .mk _ _ _ _ _ o=>o
def E1:Val->ByteArray
 | .mk _ _ _ t _ _=>t
def Jr:Val->List Val
 | .mk _ _ _ _ l _=>l
abbrev L9:Val:=.mk 0 false 0 Ec [] []
end Go.Proofs.YtobmaegpfbheoaaGreatDoor
namespace Go.Proofs.YtobmaegpfbheoaaGreatDoor
open Go Go.RowKit
theorem Abf {S:Nat->Prop} {s n c g off:Nat} {w:World} {l:List D} {q:Nat} {d:D} {u0 v1:Value} (h:Ab S w (.row s l) [.slice (some ⟨g,off,none⟩) n c]) (hi:l[q]? =some d) (hu: ∀(w:World) (B:Nat) cs,Ai w B d cs->cs[0]? =some u0) (hv:v1≠u0):
 S g/\ ∀cs:List Value,(∀j u,cs[j]? =some u->w.cell? ⟨g,off+q*s+j,none⟩=some u)->cs.length=s->Ab S w d cs:=by
 obtain⟨g',off',e,hg,cs0,h1,hl0,hc0⟩:=h.now.at_ hi
 cases e
 have hf:=hc0 0 u0 (hu _ _ _ h1);have hge:S g:=by
  refine Classical.byContradiction fun hlt=>hv ?_;obtain⟨g2,off2,e,_,cs1,h2,_,hc1⟩:=(h (w.setCell ⟨g,off+q*s+0,none⟩ v1) (by simp[World.setCell]) (fun p p1 p2=>World.cell?_setCell_far _ _ _ _ (by show g≠p.block;intro e;exact hlt (e▸p1)))).at_ hi
  cases e
  have:=hc1 0 u0 (hu _ _ _ h2);rw[World.cell?_setCell_same _ _ _ hf]at this;exact Option.some.inj this
 refine⟨hge,fun cs hcs hl w'' hs hk=> ?_⟩;obtain⟨g2,off2,e,_,cs2,h2,hl2,hc2⟩:=(h w'' hs hk).at_ hi
 cases e
 have:cs2=cs:=by
  refine List.ext_getElem? fun j=> ?_;by_cases hj:j<s
  . obtain⟨u,hu1⟩: ∃u,cs2[j]? =some u:=⟨_,List.getElem?_eq_getElem (by omega)⟩;obtain⟨u',hu2⟩: ∃u,cs[j]? =some u:=⟨_,List.getElem?_eq_getElem (by omega)⟩;have e1:=hc2 j u hu1;rw[hk _ hge hg,hcs j u' hu2]at e1;rw[hu1,hu2,Option.some.inj e1]
  . rw[List.getElem?_eq_none (by omega),List.getElem?_eq_none (by omega)]
 rw[<-this];exact h2
theorem Wh {S:Nat->Prop} {w:World} {k':Int} {b':Bool} {n':Int} {t':ByteArray} {l':List Val} {o':List (ByteArray×Val)} {x0 x1 x2 x3 x4 oa:Value} (h:Ab S w (dV (.mk k' b' n' t' l' o')) [x0,x1,x2,x3,x4,oa]):Ab S w (.row 7 (dO o')) [oa]:=fun w'' h1 h2=>Air (h w'' h1 h2)
theorem Ah5 {S:Nat->Prop} {w:World} {k':Int} {b':Bool} {n':Int} {t':ByteArray} {l':List Val} {o':List (ByteArray×Val)} {x0 x1 x2 x3 la x5:Value} (h:Ab S w (dV (.mk k' b' n' t' l' o')) [x0,x1,x2,x3,la,x5]):Ab S w (.row 6 (dL l')) [la]:=fun w'' h1 h2=>Agk (h w'' h1 h2)
theorem Afv {k':Int} {b':Bool} {n':Int} {t':ByteArray} {l':List Val} {o':List (ByteArray×Val)} (w:World) (B:Nat) (cs:List Value) (h:Ai w B (dV (.mk k' b' n' t' l' o')) cs):cs[0]? =some (.int .i64 k'):=by
 have h6:=Co _ _ h;simp only[Ac]at h6;obtain⟨la,lc,oa,oc,rfl,_,_⟩:=h6;rfl
theorem Yz {S:Nat->Prop} {w:World} {n c:Nat} {l:List (ByteArray×Val)} {a:Option Addr} (h:Ab S w (.row 7 (dO l)) [.slice a n c]) {q:Nat} {key:ByteArray} {k':Int} {b':Bool} {n':Int} {t':ByteArray} {l':List Val} {o':List (ByteArray×Val)} (hi:l[q]? =some (key,.mk k' b' n' t' l' o')):
 ∃g off,a=some ⟨g,off,none⟩/\g<w.heap.size/\ ∃la lc oa oc,Ab S w (dV (.mk k' b' n' t' l' o')) [.int .i64 k',.bool b',.int .i64 n',.string t',.slice la l'.length lc,.slice oa o'.length oc]/\
  w.cell? ⟨g,off+q*7,none⟩=some (.string key)/\w.cell? ⟨g,off+q*7+1,none⟩=some (.int .i64 k')/\w.cell? ⟨g,off+q*7+2,none⟩=some (.bool b')/\
  w.cell? ⟨g,off+q*7+3,none⟩=some (.int .i64 n')/\w.cell? ⟨g,off+q*7+4,none⟩=some (.string t')/\w.cell? ⟨g,off+q*7+5,none⟩=some (.slice la l'.length lc)/\w.cell? ⟨g,off+q*7+6,none⟩=some (.slice oa o'.length oc):=by
 obtain⟨g,off,rfl,hg,la,lc,oa,oc,_,c0,c1,c2,c3,c4,c5,c6⟩:=Aio h.now hi;refine⟨g,off,rfl,hg,la,lc,oa,oc, ?_,c0,c1,c2,c3,c4,c5,c6⟩;have hm:=(Abf (v1:=.bool false) h (d:=dP (key,.mk k' b' n' t' l' o')) (by rw[D4,List.getElem?_map,hi];rfl) Afu (by simp)).2 [.string key,.int .i64 k',.bool b',.int .i64 n',.string t',.slice la l'.length lc,.slice oa o'.length oc] (fun j u hj=>by
  match j with
  |0=>cases hj;exact c0
  |1=>cases hj;exact c1
  |2=>cases hj;exact c2
  |3=>cases hj;exact c3
  |4=>cases hj;exact c4
  |5=>cases hj;exact c5
  |6=>cases hj;exact c6
  |j+7=>simp at hj) rfl
 exact fun w'' h1 h2=>Ajn (hm w'' h1 h2)
theorem Ahx {S:Nat->Prop} {w:World} {n c:Nat} {l:List Val} {a:Option Addr} (h:Ab S w (.row 6 (dL l)) [.slice a n c]) {q:Nat} {k':Int} {b':Bool} {n':Int} {t':ByteArray} {l':List Val} {o':List (ByteArray×Val)} (hi:l[q]? =some (.mk k' b' n' t' l' o')):
 ∃g off,a=some ⟨g,off,none⟩/\g<w.heap.size/\ ∃la lc oa oc,Ab S w (dV (.mk k' b' n' t' l' o')) [.int .i64 k',.bool b',.int .i64 n',.string t',.slice la l'.length lc,.slice oa o'.length oc]/\
  w.cell? ⟨g,off+q*6,none⟩=some (.int .i64 k')/\w.cell? ⟨g,off+q*6+1,none⟩=some (.bool b')/\
  w.cell? ⟨g,off+q*6+2,none⟩=some (.int .i64 n')/\w.cell? ⟨g,off+q*6+3,none⟩=some (.string t')/\w.cell? ⟨g,off+q*6+4,none⟩=some (.slice la l'.length lc)/\w.cell? ⟨g,off+q*6+5,none⟩=some (.slice oa o'.length oc):=by
 obtain⟨g,off,ea,hg,cs,h1,_,h3⟩:=h.now.at_ (i:=q) (d:=dV (.mk k' b' n' t' l' o')) (by rw[Fx,List.getElem?_map,hi];rfl);have h6:=Co _ _ h1;simp only[Ac]at h6;obtain⟨la,lc,oa,oc,rfl,_,_⟩:=h6;subst ea;have c0:=h3 0 _ rfl;have c1:=h3 1 _ rfl;have c2:=h3 2 _ rfl;have c3:=h3 3 _ rfl;have c4:=h3 4 _ rfl;have c5:=h3 5 _ rfl;refine⟨g,off,rfl,hg,la,lc,oa,oc, ?_,c0,c1,c2,c3,c4,c5⟩;exact(Abf (v1:=.bool false) h (d:=dV (.mk k' b' n' t' l' o')) (by rw[Fx,List.getElem?_map,hi];rfl) Afv (by simp)).2 _ (fun j u hj=>by
  match j with
  |0=>cases hj;exact c0
  |1=>cases hj;exact c1
  |2=>cases hj;exact c2
  |3=>cases hj;exact c3
  |4=>cases hj;exact c4
  |5=>cases hj;exact c5
  |j+6=>simp at hj) rfl
theorem Ab.base {S:Nat->Prop} {w0 w:World} {d:D} {cs:List Value} (h:Ab S w0 d cs) (hb:Below w0.heap.size w0 w):Ab (fun i=>S i/\i<w0.heap.size) w d cs:=fun w'' h1 h2=>
 (h w'' (Nat.le_trans hb.size h1) fun p p1 p2=>(h2 p ⟨p1,p2⟩ (Nat.lt_of_lt_of_le p2 hb.size)).trans (hb.cell p2)).more hb.size
theorem Ab.old_now {S:Nat->Prop} {w0 w:World} {d:D} {cs:List Value} (h:Ab S w0 d cs) (hb:Below w0.heap.size w0 w):Ai w w.heap.size d cs:=(h.below hb).now
theorem Iy {S:Nat->Prop} {w4:World} {k:Int} {b:Bool} {n:Int} {t:ByteArray} {l:List Val} {o:List (ByteArray×Val)} {cs:List Value} (h:Ab S w4 (dV (.mk k b n t l o)) cs): ∃la lc oa oc,cs= [.int .i64 k,.bool b,.int .i64 n,.string t,.slice la l.length lc,.slice oa o.length oc]:=by
 have h1:=Co _ _ h.now;simp only[Ac]at h1;obtain⟨la,lc,oa,oc,e,_,_⟩:=h1;exact⟨la,lc,oa,oc,e⟩
theorem Ajt (S:Nat->Prop) (w:World):Ab S w (dV L9) [.int .i64 0,.bool false,.int .i64 0,.string ⟨#[]⟩,.slice none 0 0,.slice none 0 0]:=fun w'' _ _=>by
 show Ai w'' w.heap.size (dV (.mk 0 false 0 ⟨#[]⟩ [] [])) _;simp only[dV,Ai];exact Ah.six.2 ⟨[.slice none 0 0], [.slice none 0 0],rfl,rfl,rfl,rfl,rfl,⟨none,0,rfl,by simp[dL], [],rfl,by simp[dL]⟩,⟨none,0,rfl,by simp[dO], [],rfl,by simp[dO]⟩⟩
theorem Ai8 {a b:ByteArray} (h:a≠b):(a.toList==b.toList)=false/\(a==b)=false:=by
 refine⟨?_,by rw[Aas];simp[h]⟩
 cases e:(a.toList==b.toList)with
 |false=>rfl
 |true=>exact absurd (I0 (by simpa using e)) h
theorem Afj (a:ByteArray):(a.toList==a.toList)=true/\(a==a)=true:=⟨by simp,by rw[Aas];simp⟩
def Le (o:List (ByteArray×Val)) (key:ByteArray) (w:World) (e:Ending) (w':World):Prop:=Below w.heap.size w w'/\match Av key o with
 |none=>e=.returned (.tuple #[.agg Ak,.bool false])
 |some x=> ∃cs:List Value,e=.returned (.tuple #[.agg cs.toArray,.bool true])/\Ai w w.heap.size (dV x) cs
def Ae7 (S:Nat->Prop) (w0:World) (o:List (ByteArray×Val)) (key:ByteArray) (w:World) (e:Ending) (w':World):Prop:=Below w.heap.size w w'/\match Av key o with
 |none=>e=.returned (.tuple #[.agg Ak,.bool false])
 |some x=> ∃cs:List Value,e=.returned (.tuple #[.agg cs.toArray,.bool true])/\Ab S w0 (dV x) cs
structure FN (w wr:World):Prop where
 below:Below w.heap.size w wr
 res:Aj wr w.heap.size 42 Ak
theorem FN.alloc {w wr:World} (h:FN w wr) (o:Obj):FN w (wr.alloc o):=⟨h.below.alloc h.below.size o,h.res.alloc o⟩
theorem Mf (S:Nat->Prop) (o:List (ByteArray×Val)) (a:Option Addr) (c:Nat) (key:ByteArray) (w0 w:World) (hw:Below w0.heap.size w0 w) (h:Ab S w0 (.row 7 (dO o)) [.slice a o.length c]) (hl:o.length<=100000000):
 Calls Tryz.prog 73 #[.slice a o.length c,.string key] w (Ae7 S w0 o key w):=by
 have hI0:FN w (w.alloc (.cells Ak 42)):=⟨(Below.refl _ _).alloc (Nat.le_refl _) _,Aj.new w _ _⟩;obtain⟨wi,hwi⟩: ∃wi,w.alloc (.cells Ak 42)=wi:=⟨_,rfl⟩;rw[hwi]at hI0;have Hs0:=qz (show ∀p ∈ o.take 0,p.1≠key from by simp);obtain⟨HI0,H,Hw⟩:=hid3 hI0 h hw;clear hI0 h hw;go_enter Tryz.func73,Tryz.ntmps73;go_upto_region 1 with(fail);clear hwi;go_wp2_with (fail);go_loopw [11] (fun i wr=> ∃q:Nat,i=.int .i64 q/\q<=o.length/\Hid (∀p ∈ o.take q,p.1≠key)/\Hid (FN w wr)) (fun i _=>o.length - (intOf i).toNat)
 case atStart=>exact⟨0,rfl,Nat.zero_le _,Hs0,HI0⟩
 case round=>
  obtain⟨q,rfl,hq,hin,hI⟩:=hrel;clear HI0 Hs0;have hq0:(0:Int)<=q:=by omega
  by_cases hlt:q<o.length
  . obtain⟨p,hp⟩: ∃p,o[q]? =some p:=⟨_,List.getElem?_eq_getElem (by omega)⟩;obtain⟨pkey,⟨pk,pb,pn,pt,pl,po⟩⟩:=p;have hz:=hI.out.below.size;have hbw:=Hw.out.trans (hI.out.below.mono Hw.out.size);obtain⟨g,off,rfl,hg,pla,plc,poa,poc,hv,d0,d1,d2,d3,d4,d5,d6⟩:=Yz H.out hp;have c0:=(hbw.cell (p:=⟨g,off+q*7,none⟩) hg).trans d0;have c1:=(hbw.cell (p:=⟨g,off+q*7+1,none⟩) hg).trans d1;have c2:=(hbw.cell (p:=⟨g,off+q*7+2,none⟩) hg).trans d2;have c3:=(hbw.cell (p:=⟨g,off+q*7+3,none⟩) hg).trans d3;have c4:=(hbw.cell (p:=⟨g,off+q*7+4,none⟩) hg).trans d4;have c5:=(hbw.cell (p:=⟨g,off+q*7+5,none⟩) hg).trans d5;have c6:=(hbw.cell (p:=⟨g,off+q*7+6,none⟩) hg).trans d6;clear d0 d1 d2 d3 d4 d5 d6;have hgr:g<wr.heap.size:=Nat.lt_of_lt_of_le hg hbw.size;have hq1:(q:Int)<(o.length:Int):=by omega
    have hIa:=hI.out.alloc (.cells #[.string pkey,.int .i64 pk,.bool pb,.int .i64 pn,.string pt,.slice pla pl.length plc,.slice poa po.length poc] 131);have hmb:=Aj.new wr 131 #[.string pkey,.int .i64 pk,.bool pb,.int .i64 pn,.string pt,.slice pla pl.length plc,.slice poa po.length poc];have htk:o.take (q+1)=o.take q++ [(pkey,.mk pk pb pn pt pl po)]:=by rw[List.take_add_one,hp];simp
    by_cases hkk:pkey=key
    . subst hkk;obtain⟨e1,e2⟩:=Afj pkey;have Hfind:=qz (Sd (o:=o) hin.out hp rfl);have hlow:=hI.out.res.lt;obtain⟨Hv,Hp,Htk⟩:=hid3 hv hp htk;clear hv hp htk;clear hI hin;go_upto_region 5 with(fail);clear c0 c1 c2 c3 c4 c5 c6;generalize wr.alloc (.cells #[.string pkey,.int .i64 pk,.bool pb,.int .i64 pn,.string pt,.slice pla pl.length plc,.slice poa po.length poc] 131)=wa at hIa hmb ⊢;obtain⟨r0,r1,r2,r3,r4,r5⟩:=Bd hIa.res;have fz:=hIa.res.frozen;have lt1:=hIa.res.lt;have m1:=hmb.cell 1;have m2:=hmb.cell 2;have m3:=hmb.cell 3;have m4:=hmb.cell 4;have m5:=hmb.cell 5;have m6:=hmb.cell 6;have ml:=hmb.lt;obtain⟨HIa,Hmb⟩:=hid2 hIa hmb;clear hIa hmb
      repeat go_step
      have hxf:=(((((HIa.out.res.set_ 0 (.int .i64 pk)).set_ 1 (.bool pb)).set_ 2 (.int .i64 pn)).set_ 3 (.string pt)).set_ 4 (.slice pla pl.length plc)).set_ 5 (.slice poa po.length poc);have hbf:=At [.int .i64 pk,.bool pb,.int .i64 pn,.string pt,.slice pla pl.length plc,.slice poa po.length poc] HIa.out.below (Nat.le_refl w.heap.size) (o:=0);refine bodyPost_ret (Fl rfl rfl hxf) rfl ⟨hbf, ?_⟩;rw[Hfind.out];exact⟨_,rfl,Hv.out⟩
    . obtain⟨e1,e2⟩:=Ai8 hkk;have hin':Hid (∀p ∈ o.take (q+1),p.1≠key):=by
       refine qz ?_;rw[htk];intro p hp;rcases List.mem_append.1 hp with h|h
       . exact hin.out p h
       . obtain rfl:=List.mem_singleton.1 h;exact hkk
      obtain⟨HIa,Hmb,Hv,Hp,Htk⟩:=hid5 hIa hmb hv hp htk;clear hIa hmb hv hp htk;clear hI hin hkk;go_wp2;go_roundw
      case rel=>exact⟨q+1,by go_num,by omega,hin',HIa⟩
      case measure=>simp only[intOf];omega
  . obtain rfl:q=o.length:=by omega
    have hnone:=Adx (k:=key) (o:=o) (by
     have:=hin.out
     rwa [List.take_length]at this)
    have hI2:=hI.out.alloc (.cells Ak 42);have Hnb:=qz (Aj.new wr 42 Ak);obtain⟨r0,r1,r2,r3,r4,r5⟩:=Bd hI2.res;have fz:=hI2.res.frozen;have lt1:=hI2.res.lt;obtain⟨Hnone,HI2⟩:=hid2 hnone hI2;clear hnone hI2;clear hin;go_upto_region 8 with(fail)
    repeat go_step
    have hxf:=(((((HI2.out.res.set_ 0 (.int .i64 0)).set_ 1 (.bool false)).set_ 2 (.int .i64 0)).set_ 3 (.string ⟨#[]⟩)).set_ 4 (.slice none 0 0)).set_ 5 (.slice none 0 0);have hbf:=At [.int .i64 0,.bool false,.int .i64 0,.string ⟨#[]⟩,.slice none 0 0,.slice none 0 0] HI2.out.below (Nat.le_refl w.heap.size) (o:=0);refine bodyPost_ret (Fl rfl rfl hxf) rfl ⟨hbf, ?_⟩;rw[Hnone.out];rfl
theorem Ji (o:List (ByteArray×Val)) (a:Option Addr) (c:Nat) (key:ByteArray) (w:World) (h:Ai w w.heap.size (.row 7 (dO o)) [.slice a o.length c]) (hl:o.length<=100000000):
 Calls Tryz.prog 73 #[.slice a o.length c,.string key] w (Le o key w):=by
 refine(Mf (fun i=>i<w.heap.size) o a c key w w (Below.refl _ _) (Ab.of_old h (Nat.le_refl _) (Below.refl _ _)) hl).mono ?_;rintro e w' ⟨h1,h2⟩;refine⟨h1, ?_⟩
 split
 . rename_i e0;rw[e0]at h2;exact h2
 . rename_i x e0;rw[e0]at h2;obtain⟨cs,h3,h4⟩:=h2;exact⟨cs,h3,h4.now⟩
def J7 (k:ByteArray):List (ByteArray×Int)->Option Int
 | []=>none
 |(a,x)::r=>if a=k then some x else J7 k r
theorem Sa {k:ByteArray}: ∀{o:List (ByteArray×Int)} {q:Nat} {p:ByteArray×Int},(∀x ∈ o.take q,x.1≠k)->o[q]? =some p->p.1=k->J7 k o=some p.2
 | [],q,p,_,h,_=>by simp at h
 |x::r,0,p,_,h,e=>by
  simp only[List.getElem?_cons_zero,Option.some.injEq]at h;subst h;unfold J7;rw[if_pos e]
 |x::r,q+1,p,ht,h,e=>by
  unfold J7;rw[if_neg (ht x (by simp))];exact Sa (fun y hy=>ht y (by rw[List.take_succ_cons];exact List.mem_cons_of_mem _ hy)) (by simpa using h) e
theorem Uw {k:ByteArray}: ∀{o:List (ByteArray×Int)},(∀x ∈ o,x.1≠k)->J7 k o=none
 | [],_=>rfl
 |(a,x)::r,h=>by
  unfold J7;rw[if_neg (h (a,x) (by simp)),Uw fun y hy=>h y (List.mem_cons_of_mem _ hy)]
structure Fld (w:World) (g off:Nat) (fs:List (ByteArray×Int)):Prop where
 lt:g<w.heap.size
 key: ∀j p,fs[j]? =some p->w.cell? ⟨g,off+j*2,none⟩=some (.string p.1)
 has: ∀j p,fs[j]? =some p->w.cell? ⟨g,off+j*2+1,none⟩=some (.int .i64 p.2)
theorem Fld.below {w w':World} {g off:Nat} {fs:List (ByteArray×Int)} (h:Fld w g off fs) (hb:Below w.heap.size w w'):Fld w' g off fs:=
 ⟨Nat.lt_of_lt_of_le h.lt hb.size,fun j p e=>(hb.cell (p:=⟨g,off+j*2,none⟩) h.lt).trans (h.key j p e),fun j p e=>(hb.cell (p:=⟨g,off+j*2+1,none⟩) h.lt).trans (h.has j p e)⟩
def Ahm (fs:List (ByteArray×Int)) (key:ByteArray) (w:World) (e:Ending) (w':World):Prop:=Below w.heap.size w w'/\e=.returned (.tuple #[.int .i64 ((J7 key fs).getD 0),.bool (J7 key fs).isSome])
theorem Yf (fs:List (ByteArray×Int)) (g off c:Nat) (key:ByteArray) (w:World) (h:Fld w g off fs) (hl:fs.length<=100000000):
 Calls Tryz.prog 165 #[.slice (some ⟨g,off,none⟩) fs.length c,.string key] w (Ahm fs key w):=by
 have Hs0:=qz (show ∀p ∈ fs.take 0,p.1≠key from by simp);have HI0:Hid (Below w.heap.size w w):=Below.refl _ _;have H:=qz h;clear h;go_enter Tryz.func165,Tryz.ntmps165;go_upto_region 1 with(fail);go_wp2_with (fail);go_loopw [11] (fun i wr=> ∃q:Nat,i=.int .i64 q/\q<=fs.length/\Hid (∀p ∈ fs.take q,p.1≠key)/\Hid (Below w.heap.size w wr)) (fun i _=>fs.length - (intOf i).toNat)
 case atStart=>exact⟨0,rfl,Nat.zero_le _,Hs0,HI0⟩
 case round=>
  obtain⟨q,rfl,hq,hin,hI⟩:=hrel;clear HI0 Hs0;have hq0:(0:Int)<=q:=by omega
  by_cases hlt:q<fs.length
  . obtain⟨p,hp⟩: ∃p,fs[q]? =some p:=⟨_,List.getElem?_eq_getElem (by omega)⟩;obtain⟨pkey,pn⟩:=p;have hz:=hI.out.size;have hF:=H.out.below hI.out;have c0:=hF.key q _ hp;have c1:=hF.has q _ hp;have hgr:=hF.lt;have hq1:(q:Int)<(fs.length:Int):=by omega
    have hIa:=hI.out.alloc hz (.cells #[.string pkey,.int .i64 pn] 135);have htk:fs.take (q+1)=fs.take q++ [(pkey,pn)]:=by rw[List.take_add_one,hp];simp
    by_cases hkk:pkey=key
    . subst hkk;obtain⟨e1,e2⟩:=Afj pkey;have Hfind:=qz (Sa (o:=fs) hin.out hp rfl);obtain⟨HIa,Hp,Htk,HF⟩:=hid4 hIa hp htk hF;clear hIa hp htk hF;clear hI hin;go_wp2;go_ret2;exact⟨HIa.out,by rw[Hfind.out];rfl⟩
    . obtain⟨e1,e2⟩:=Ai8 hkk;have hin':Hid (∀p ∈ fs.take (q+1),p.1≠key):=by
       refine qz ?_;rw[htk];intro p hp;rcases List.mem_append.1 hp with h|h
       . exact hin.out p h
       . obtain rfl:=List.mem_singleton.1 h;exact hkk
      obtain⟨HIa,Hp,Htk,HF⟩:=hid4 hIa hp htk hF;clear hIa hp htk hF;clear hI hin hkk;go_wp2;go_roundw
      case rel=>exact⟨q+1,by go_num,by omega,hin',HIa⟩
      case measure=>simp only[intOf];omega
  . obtain rfl:q=fs.length:=by omega
    have hnone:=Uw (k:=key) (o:=fs) (by
     have:=hin.out
     rwa [List.take_length]at this)
    have Hnone:=qz hnone;clear hnone;clear hin;go_wp2;go_ret2;exact⟨hI.out,by rw[Hnone.out];rfl⟩
theorem Pg (w:World) (t:TypeId): ∀(vs:List Value) (cs:Array Value) (o:Nat),(w.alloc (.cells cs t)).setCells w.heap.size o vs=w.alloc (.cells (Ei cs o vs) t)
 | [],_,_=>rfl
 |v::r,cs,o=>by
  rw[World.setCells,World.setCell_alloc_at cs t _ o v rfl,Pg w t r];rfl
theorem B3 (cs0 cs:Array Value) (h:cs0.size=cs.size):Ei cs0 0 cs.toList=cs:=by
 refine Array.ext_getElem? fun i=> ?_;rw[Sy _ _ _ _ (by simp[h])];by_cases hi:i<cs.size
 . rw[if_pos (by simpa using hi)];simp
 . rw[if_neg (by simpa using hi),Array.getElem?_eq_none (by omega),Array.getElem?_eq_none (by omega)]
theorem Bf {w:World} {g:Nat} {t:TypeId} {cs:Array Value} (h:Aj w g t cs):w.rangeAt g 0 cs.toList:=fun j v hv=>by
 rw[Nat.zero_add];exact(h.cell j).trans (by rw[<-Array.getElem?_toList];exact hv)
section
variable {P:Program}
theorem Cz {op:Oper} {a:Act} {w:World} {K:Act->World->Prop} {Q:Exit->Act->World->Prop} (ty:TypeId) (x y:Operand) (ho:op.op=.store ty x y) {cs0:Array Value} {t:TypeId} (cs:Array Value)
 (hx:a.eval x=.pointer (some ⟨w.heap.size,0,none⟩)) (hy:a.eval y=.agg cs) (hs:cs0.size=cs.size) (hi:(P.info? ty).map (·.size)=some cs.size) (h1:cs.all (·.oneCell')=true)
 (h:K (a.put op.dst undef) (w.alloc (.cells cs t))):op.wp P a (w.alloc (.cells cs0 t)) K Q:=by
 refine wp_store_mid ty x y ho w.heap.size 0 cs hx hy (fun j hj=> ?_) hi h1 ?_
 . have hb:=Aj.new w t cs0;refine⟨?_,hb.frozen _⟩;rw[Nat.zero_add,hb.cell j,Array.getElem?_eq_getElem (by omega)];rfl
 . rw[Pg,B3 _ _ hs];exact h
theorem Ae {op:Oper} {a:Act} {w:World} {K:Act->World->Prop} {Q:Exit->Act->World->Prop} (ty:TypeId) (x:Operand) (ho:op.op=.load ty x) (g:Nat) {t:TypeId} (cs:Array Value) (hb:Aj w g t cs)
 (hx:a.eval x=.pointer (some ⟨g,0,none⟩)) (d:TypeDesc) (hu:P.underlying ty=some d) (hd:d.isRow=true) (hi:(P.info? ty).map (·.size)=some cs.size)
 (h:K (a.put op.dst (.agg cs)) w):op.wp P a w K Q:=by
 refine wp_load_mid ty x ho g 0 hx cs.toList d (Bf hb) hu hd (by simpa using hi) ?_;simpa using h
theorem Ku (b:Nat): ∀(vs:List Value) (o:Nat) (w:World),w.setCells b o vs=A7 w b o vs
 | [],_,_=>rfl
 |_::r,o,_=>by rw[World.setCells,A7,Ku b r]
theorem La (w:World) (b o:Nat) (ty:TypeId) (v:Value) (ht:w.there b o v.cells.size) (hi:(P.info? ty).map (·.size)=some v.cells.size) (h1: ∀u ∈ v.cells.toList,u.oneCell'=true):
 (storeVar ty ⟨b,o,none⟩ v).run P w=.ok () (w.setCells b o v.cells.toList):=by
 have:=run_storeCells_cells (P:=P) b o v.cells.toList 0 w (fun j hj=>by simpa using(ht j (by simpa using hj)).1) (fun j hj=>by simpa using(ht j (by simpa using hj)).2) h1
 cases hq:P.info? ty with
 |none=>simp[hq]at hi
 |some i=>
  have hs:v.cells.size=i.size:=by simp[hq]at hi;omega
  simp only[Nat.add_zero]at this;simp[storeVar,sizeOf,typeInfo,hq,hs,this]
theorem Ff {op:Oper} {a:Act} {w:World} {K:Act->World->Prop} {Q:Exit->Act->World->Prop} (ty:TypeId) (x y:Operand) (ho:op.op=.store ty x y) (g o:Nat) {t:TypeId} {cs:Array Value} (hb:Aj w g t cs) (v:Value)
 (hx:a.eval x=.pointer (some ⟨g,o,none⟩)) (hy:a.eval y=v) (hl:o+v.cells.size<=cs.size) (hi:(P.info? ty).map (·.size)=some v.cells.size) (h1: ∀u ∈ v.cells.toList,u.oneCell'=true)
 {B:Nat} {w0:World} (hB:Below B w0 w) (hg:B<=g) (h: ∀w',Aj w' g t (Ei cs o v.cells.toList)->Below B w0 w'->K (a.put op.dst undef) w'):op.wp P a w K Q:=by
 have ht:w.there g o v.cells.size:=fun j hj=>by
  refine⟨?_,hb.frozen _⟩;rw[hb.cell (o+j),Array.getElem?_eq_getElem (by omega)];rfl
 unfold Oper.wp execOp;simp only[ho,hx,hy,Instr.storeAt,Instr.sureAddr,Sem.run_bind,Sem.run_pure,Result.andThen_ok,La w g o ty v ht hi h1];rw[Ku];exact h _ (Lw _ hb) (At _ hB hg)
end
abbrev Ao:ByteArray:=⟨#[97,114,103,115]⟩
abbrev Ap:ByteArray:=⟨#[110,97,109,101]⟩
abbrev Na:ByteArray:=⟨#[98,121]⟩
abbrev Kg:ByteArray:=⟨#[105,115]⟩
abbrev Cp:ByteArray:=⟨#[119,97,115]⟩
abbrev De:ByteArray:=⟨#[102,114,111,109]⟩
abbrev L8:ByteArray:=⟨#[116,111]⟩
abbrev Ja:ByteArray:=⟨#[100,111]⟩
abbrev L7:ByteArray:=⟨#[105,102]⟩
abbrev Nr:ByteArray:=⟨#[112,117,116]⟩
abbrev Np:ByteArray:=⟨#[100,101,108]⟩
abbrev Nq:ByteArray:=⟨#[105,110,99]⟩
abbrev Mn:ByteArray:=⟨#[99,97,115]⟩
abbrev No:ByteArray:=⟨#[97,112,112,101,110,100]⟩
abbrev Jt:ByteArray:=⟨#[109,111,118,101]⟩
abbrev Ns:ByteArray:=⟨#[115,101,113]⟩
def Fs (k:Int):ByteArray:=if k=1 then Nr else if k=2 then Np else if k=3 then Nq else if k=4 then Mn else if k=5 then No else if k=6 then Jt else Ns
def Br (key:ByteArray) (had:Bool) (was:Val):List (ByteArray×Val):=(As,tv key)::(if had then [(Cp,was)]else [])
mutual
def Dt:Mut->Val
 | .mk k key dst n had was has v l=>ov [(Ao,ov (if k=1\/k=5 then [(As,tv key),(E3,v)]else if k=2 then [(As,tv key)]else if k=3 then [(Na,iv n),(As,tv key)]
    else if k=4 then(if has then [(Kg,v)]else [])++Br key had was
    else if k=6 then [(De,tv key),(L8,tv dst)]
    else(Ja,lv (Bq l))::(if key.toList.isEmpty then []else [(L7,ov (Br key had was))]))),(Ap,tv (Fs k))]
def Bq:List Mut->List Val
 | []=> []
 |m::r=>Dt m::Bq r
end
theorem K9: ∀l:List Mut,Bq l=l.map Dt
 | []=>rfl
 |m::r=>by simp only[Bq,List.map_cons,K9 r]
theorem G7 (l:List Mut):(Bq l).length=l.length:=by rw[K9,List.length_map]
theorem Abs (k:Int):Az (Fs k)=true:=by
 unfold Fs
 split
 . decide
 split
 . decide
 split
 . decide
 split
 . decide
 split
 . decide
 split
 . decide
 . decide
theorem Jz (k:ByteArray): ∀q,(none:Option ByteArray)=some q->Th k q=false:=fun _ e=>by cases e
theorem N3 {k p:ByteArray} (h:Th k p=false): ∀q,some p=some q->Th k q=false:=fun _ e=>by cases e;exact h
theorem Sp {v:Val} {d:Int} (h:Ex v=0) (hd:d<=48):Bb v d=0:=by
 obtain⟨f1,f2,_⟩:=Aa9 h;exact Yu v _ 1 f1 (by omega)
theorem Q4 {s:ByteArray} (h:Ee s=true):Az s=true:=by
 unfold Ee at h;simp only[Bool.and_eq_true]at h;exact h.2
theorem Oa {k:Int} {key dst:ByteArray} {n:Int} {had:Bool} {was:Val} {has:Bool} {v:Val} {l:List Mut} {d:Int} (h:Gi (.mk k key dst n had was has v l) d=0):
 Al k dst n had (Es was) has (Es v) l.length=true/\d<=6/\Dq k key dst had=true/\(had=true->Ex was=0)/\((has||decide (k=1)||decide (k=5))=true->Ex v=0)/\Ml l (d+1)=0:=by
 simp only[Gi]at h;by_cases h1:Al k dst n had (Es was) has (Es v) l.length=false
 . rw[if_pos h1]at h;cases h
 rw[if_neg h1]at h;by_cases h2:6<d
 . rw[if_pos h2]at h;cases h
 rw[if_neg h2]at h;by_cases h3:Dq k key dst had=false
 . rw[if_pos h3]at h;cases h
 rw[if_neg h3]at h;by_cases h4:had=true/\Ex was≠0
 . rw[if_pos h4]at h;exact absurd h h4.2
 rw[if_neg h4]at h;by_cases h5:(has||decide (k=1)||decide (k=5))=true/\Ex v≠0
 . rw[if_pos h5]at h;exact absurd h h5.2
 rw[if_neg h5]at h;exact⟨by simpa using h1,by omega,by simpa using h3,fun e=>by by_cases e2:Ex was=0;exact e2;exact absurd ⟨e,e2⟩ h4,fun e=>by by_cases e2:Ex v=0;exact e2;exact absurd ⟨e,e2⟩ h5,h⟩
theorem P7 {l:List Mut} {d:Int} (h:Ml l d=0): ∀m ∈ l,Gi m d=0:=by
 induction l with
 |nil=>intro m hm;cases hm
 |cons x r ih=>
  simp only[Ml]at h;by_cases hx:Gi x d=0
  . rw[if_pos hx]at h;intro m hm;rcases List.mem_cons.1 hm with rfl|hm
    . exact hx
    . exact ih h m hm
  . rw[if_neg hx]at h;exact absurd h hx
theorem Pv {k:Int} {dst:ByteArray} {n:Int} {had wasZ has valZ:Bool} {ln:Nat} (h:Al k dst n had wasZ has valZ ln=true):1<=k/\k<=7:=by
 unfold Al at h;simp only[Bool.and_eq_true,decide_eq_true_eq]at h;exact⟨by omega,by omega⟩
theorem P9 {key:ByteArray} {had:Bool} {was:Val} {d:Int} (hk:Az key=true) (hw:had=true->Ex was=0) (hd:d<=48) {last:Option ByteArray} (hl: ∀q,last=some q->Th As q=false):C5 (Br key had was) last d=0:=by
 have v1:Az As=true:=by decide
 have v2:Az Cp=true:=by decide
 have l1:Th Cp As=false:=by decide+kernel
 unfold Br;refine Dn v1 (Ob hk (by omega)) hl ?_
 cases had with
 |false=>simp[C5]
 |true=>simpa using Dn v2 (Sp (hw rfl) hd) (N3 l1) (by simp[C5])
theorem Agn: ∀(m:Mut) (e d:Int),Gi m e=0->1<=e->d+3*(6 - e)<=40->Bb (Dt m) d=0:=by
 refine Mut.ind ?_;intro k key dst n had was has v l IH e d h he hd;obtain⟨h1,h2,h3,h4,h5,h6⟩:=Oa h;obtain⟨k1,k7⟩:=Pv h1;have b1:Az Ao=true:=by decide
 have b2:Az Ap=true:=by decide
 have b3:Az As=true:=by decide
 have b4:Az E3=true:=by decide
 have b5:Az Na=true:=by decide
 have b6:Az Kg=true:=by decide
 have b7:Az De=true:=by decide
 have b8:Az L8=true:=by decide
 have b9:Az Ja=true:=by decide
 have b10:Az L7=true:=by decide
 have l1:Th Ap Ao=false:=by decide+kernel
 have l2:Th E3 As=false:=by decide+kernel
 have l3:Th As Na=false:=by decide+kernel
 have l4:Th As Kg=false:=by decide+kernel
 have l5:Th L8 De=false:=by decide+kernel
 have l6:Th L7 Ja=false:=by decide+kernel
 simp only[Dt];refine Abp (by omega) (Dn b1 (Abp (by omega) ?_) (Jz _) (Dn b2 (Ob (Abs k) (by omega)) (N3 l1) (by simp[C5])));by_cases e1:k=1\/k=5
 . rw[if_pos e1];have hkey:Az key=true:=J9 (by unfold Dq at h3;rwa [if_neg (by omega),if_neg (by rintro⟨rfl,_⟩;omega)]at h3);have hf:Ex v=0:=h5 (by rcases e1 with rfl|rfl<;>simp);exact Dn b3 (Ob hkey (by omega)) (Jz _) (Dn b4 (Sp hf (by omega)) (N3 l2) (by simp[C5]))
 rw[if_neg e1];by_cases e2:k=2
 . rw[if_pos e2];have hkey:Az key=true:=J9 (by unfold Dq at h3;rwa [if_neg (by omega),if_neg (by rintro⟨rfl,_⟩;omega)]at h3);exact Dn b3 (Ob hkey (by omega)) (Jz _) (by simp[C5])
 rw[if_neg e2];by_cases e3:k=3
 . rw[if_pos e3];have hkey:Az key=true:=J9 (by unfold Dq at h3;rwa [if_neg (by omega),if_neg (by rintro⟨rfl,_⟩;omega)]at h3);exact Dn b5 (Ajy (by omega)) (Jz _) (Dn b3 (Ob hkey (by omega)) (N3 l3) (by simp[C5]))
 rw[if_neg e3];by_cases e4:k=4
 . rw[if_pos e4];have hkey:Az key=true:=J9 (by unfold Dq at h3;rwa [if_neg (by omega),if_neg (by rintro⟨rfl,_⟩;omega)]at h3)
   cases has with
   |false=>simpa using P9 hkey h4 (by omega) (Jz _)
   |true=>exact Dn b6 (Sp (h5 (by simp)) (by omega)) (Jz _) (P9 hkey h4 (by omega) (N3 l4))
 rw[if_neg e4];by_cases e6:k=6
 . rw[if_pos e6];unfold Dq at h3;rw[if_pos e6,Bool.and_eq_true]at h3;exact Dn b7 (Ob (Q4 h3.1) (by omega)) (Jz _) (Dn b8 (Ob (Q4 h3.2) (by omega)) (N3 l5) (by simp[C5]))
 rw[if_neg e6];obtain rfl:k=7:=by omega
 have hdo: ∀f:Int,f=d+1+1->Bb (lv (Bq l)) f=0:=by
  rintro f rfl;refine Ajz (by omega) ?_;rw[K9];refine Agm fun x hx=> ?_;obtain⟨m,hm,rfl⟩:=List.mem_map.1 hx;exact IH m hm (e+1) _ (P7 h6 m hm) (by omega) (by omega)
 refine Dn b9 (hdo _ rfl) (Jz _) ?_;by_cases hke:key.toList.isEmpty=true
 . rw[if_pos hke];simp[C5]
 . rw[if_neg hke];have hkey:Az key=true:=J9 (by unfold Dq at h3;rwa [if_neg (by omega),if_neg (by rintro⟨_,h⟩;exact hke h)]at h3);exact Dn b10 (Abp (by omega) (P9 hkey h4 (by omega) (Jz _))) (N3 l6) (by simp[C5])
theorem Qo (s:ByteArray):It (tv s):=by simp only[tv,It,Lc,Hh];exact⟨by omega,trivial,trivial⟩
theorem Ajr {n:Int} (h: -9223372036854775808<=n/\n<=9223372036854775807):It (iv n):=by simp only[iv,It,Lc,Hh];exact⟨h,trivial,trivial⟩
theorem Agc {o:List (ByteArray×Val)} (h:Hh o):It (ov o):=by simp only[ov,It,Lc];exact⟨by omega,trivial,h⟩
theorem Akj {l:List Val} (h:Lc l):It (lv l):=by simp only[lv,It,Hh];exact⟨by omega,h,trivial⟩
theorem Si (key:ByteArray) (had:Bool) {was:Val} (h:It was):Hh (Br key had was):=by
 unfold Br
 cases had with
 |false=>exact⟨Qo key,trivial⟩
 |true=>exact⟨Qo key,h,trivial⟩
theorem Ac4: ∀{l:List Mut},(∀m ∈ l,It (Dt m))->Lc (Bq l)
 | [],_=>trivial
 |m::r,h=>⟨h m (by simp),Ac4 fun x hx=>h x (by simp[hx])⟩
theorem Ah7: ∀m:Mut,Nv m->It (Dt m):=by
 refine Mut.ind ?_;intro k key dst n had was has v l IH h;simp only[Nv]at h;obtain⟨h1,h2,h3,h4⟩:=h;simp only[Dt];refine Agc ⟨Agc ?_,Qo (Fs k),trivial⟩
 split
 . exact⟨Qo key,h3,trivial⟩
 split
 . exact⟨Qo key,trivial⟩
 split
 . exact⟨Ajr h1,Qo key,trivial⟩
 split
 . cases has with
   |false=>exact Si key had h2
   |true=>exact⟨h3,Si key had h2⟩
 split
 . exact⟨Qo key,Qo dst,trivial⟩
 . refine⟨Akj (Ac4 fun m hm=>IH m hm (Sg hm h4)), ?_⟩
   split
   . trivial
   . exact⟨Agc (Si key had h2),trivial⟩
theorem Aau (key:ByteArray) (had:Bool) (was:Val):Au (Br key had was)<=20+key.size+was.bulk:=by
 have e1:(⟨#[]⟩:ByteArray).size=0:=rfl;have e2:As.size=3:=rfl;have e3:Cp.size=3:=rfl;unfold Br
 cases had with
 |false=>simp only[Bool.false_eq_true,if_false,Au,Fi,tv,Val.bulk,Ba,e2];omega
 |true=>simp only[if_true,Au,Fi,tv,Val.bulk,Ba,e2,e3];omega
theorem Aed (k:Int):(Fs k).size<=6:=by
 unfold Fs
 split
 . decide
 split
 . decide
 split
 . decide
 split
 . decide
 split
 . decide
 split
 . decide
 . decide
theorem Un: ∀m:Mut,(Dt m).bulk<=12*Bm m:=by
 refine Mut.ind ?_;intro k key dst n had was has v l IH;have hl:Ba (Bq l)<=12*Db l:=by
  induction l with
  |nil=>simp[Bq,Ba]
  |cons m r ih=>
   have h1:=IH m (by simp);have h2:=ih fun x hx=>IH x (by simp[hx]);simp only[Bq,Ba,Db];omega
 have hg:=Aau key had was;have hn:=Aed k;have e1:(⟨#[]⟩:ByteArray).size=0:=rfl;have c1:Ao.size=4:=rfl;have c2:Ap.size=4:=rfl;have c3:As.size=3:=rfl;have c4:E3.size=5:=rfl;have c5:Na.size=2:=rfl;have c6:Kg.size=2:=rfl;have c7:De.size=4:=rfl;have c8:L8.size=2:=rfl;have c9:Ja.size=2:=rfl;have c10:L7.size=2:=rfl;simp only[Dt,Bm]
 split
 . simp only[ov,tv,Val.bulk,Ba,Au,Fi,e1,c1,c2,c3,c4];omega
 split
 . simp only[ov,tv,Val.bulk,Ba,Au,Fi,e1,c1,c2,c3];omega
 split
 . simp only[ov,tv,iv,Val.bulk,Ba,Au,Fi,e1,c1,c2,c3,c5];omega
 split
 . cases has with
   |false=>simp only[Bool.false_eq_true,if_false,List.nil_append,ov,tv,Val.bulk,Ba,Au,Fi,e1,c1,c2];omega
   |true=>simp only[if_true,List.singleton_append,ov,tv,Val.bulk,Ba,Au,Fi,e1,c1,c2,c6];omega
 split
 . simp only[ov,tv,Val.bulk,Ba,Au,Fi,e1,c1,c2,c7,c8];omega
 . split
   . simp only[ov,lv,tv,Val.bulk,Ba,Au,Fi,e1,c1,c2,c9];omega
   . simp only[ov,lv,tv,Val.bulk,Ba,Au,Fi,e1,c1,c2,c9,c10];omega
end Go.Proofs.YtobmaegpfbheoaaGreatDoor
namespace Go.Proofs.YtobmaegpfbheoaaGreatDoor
end Go.Proofs.YtobmaegpfbheoaaGreatDoor
namespace Go.Proofs.YtobmaegpfbheoaaGreatDoor
open Go Go.RowKit
structure RBx (w W:World) (cs:Array Value):Prop where
 below:Below w.heap.size w W
 blk:Aj W w.heap.size 42 cs
theorem RBx.start (w:World):RBx w (w.alloc (.cells Ak 42)) Ak:=⟨Aa w _,Aj.new _ _ _⟩
theorem RBx.later {w W W':World} {cs:Array Value} (h:RBx w W cs) (t:Below W.heap.size W W'):RBx w W' cs:=⟨h.below.trans (t.mono h.below.size),h.blk.below t h.blk.lt⟩
theorem RBx.many {w W:World} {b0 b1 b2 b3 b4 b5:Value} (h:RBx w W #[b0,b1,b2,b3,b4,b5]) (a0 a1 a2 a3 a4 a5:Value):RBx w (A7 W w.heap.size 0 [a0,a1,a2,a3,a4,a5]) #[a0,a1,a2,a3,a4,a5]:=
 ⟨At _ h.below (Nat.le_refl _),((((((h.blk.set_ 0 a0).set_ 1 a1).set_ 2 a2).set_ 3 a3).set_ 4 a4).set_ 5 a5)⟩
def Aje (w:World) (RES:Rd Val) (e:Ending) (w':World):Prop:=Below w.heap.size w w'/\match RES with
 | .ok v q=> ∃cs:List Value,e=.returned (.tuple #[.agg cs.toArray,.int .i64 (q:Nat),.int .i64 0])/\An w.heap.size w' (dV v) cs
 | .bad c q=>e=.returned (.tuple #[.agg Ak,.int .i64 (q:Nat),.int .i64 c])
end Go.Proofs.YtobmaegpfbheoaaGreatDoor
namespace Go.Proofs.YtobmaegpfbheoaaGreatDoor
end Go.Proofs.YtobmaegpfbheoaaGreatDoor
namespace Go.Proofs.YtobmaegpfbheoaaGreatDoor
open Go.RowKit
theorem Bl {w:World} {B:Nat} {k:Int} {key dst:ByteArray} {n:Int} {had:Bool} {k1:Int} {b1:Bool} {n1:Int} {t1:ByteArray} {l1:List Val} {o1:List (ByteArray×Val)} {has:Bool} {k2:Int} {b2:Bool} {n2:Int} {t2:ByteArray} {l2:List Val} {o2:List (ByteArray×Val)} {l:List Mut} {cs:List Value} (h:Ai w B (dM (Mut.mk k key dst n had (.mk k1 b1 n1 t1 l1 o1) has (.mk k2 b2 n2 t2 l2 o2) l)) cs):
 ∃la1 lc1 oa1 oc1 la2 lc2 oa2 oc2 a c,cs= [.int .i64 k,.string key,.string dst,.int .i64 n,.bool had,.int .i64 k1,.bool b1,.int .i64 n1,.string t1,.slice la1 l1.length lc1,.slice oa1 o1.length oc1,.bool has,.int .i64 k2,.bool b2,.int .i64 n2,.string t2,.slice la2 l2.length lc2,.slice oa2 o2.length oc2,.slice a l.length c]/\Ac w B (.mk k1 b1 n1 t1 l1 o1) [.int .i64 k1,.bool b1,.int .i64 n1,.string t1,.slice la1 l1.length lc1,.slice oa1 o1.length oc1]/\Ac w B (.mk k2 b2 n2 t2 l2 o2) [.int .i64 k2,.bool b2,.int .i64 n2,.string t2,.slice la2 l2.length lc2,.slice oa2 o2.length oc2]/\Ai w B (.row 19 (E2 l)) [.slice a l.length c]:=by
 simp only[dM,Ai]at h;obtain⟨_,_,rfl,⟨rfl,_⟩,_,_,rfl,⟨rfl,_⟩,_,_,rfl,⟨rfl,_⟩,_,_,rfl,⟨rfl,_⟩,_,_,rfl,⟨rfl,_⟩,x1,_,rfl,h1,_,_,rfl,⟨rfl,_⟩,x2,_,rfl,h2,x3,_,rfl,h3,rfl⟩:=h;have g1:=Co _ _ h1;have g2:=Co _ _ h2;have e1:=g1;have e2:=g2;simp only[Ac]at e1 e2;obtain⟨la1,lc1,oa1,oc1,rfl,_,_⟩:=e1;obtain⟨la2,lc2,oa2,oc2,rfl,_,_⟩:=e2;obtain⟨a,c,rfl,hs,hr⟩:=h3;rw[Gb];exact⟨la1,lc1,oa1,oc1,la2,lc2,oa2,oc2,a,c,rfl,g1,g2,a,c,by rw[Gb],hs,hr⟩
theorem Kt {w:World} {B n c:Nat} {l:List Mut} {a:Option Addr} (h:Ai w B (.row 19 (E2 l)) [.slice a n c]) {q:Nat} {m:Mut} (hi:l[q]? =some m):
 ∃g off,a=some ⟨g,off,none⟩/\g<B/\ ∃cs,Ai w B (dM m) cs/\cs.length=19/\ ∀j u,cs[j]? =some u->w.cell? ⟨g,off+q*19+j,none⟩=some u:=
 h.at_ (i:=q) (d:=dM m) (by rw[H8,List.getElem?_map,hi];rfl)
theorem Gr {w:World} {g:Nat} {t:TypeId} {a0 a1 a2 a3 a4 a5 a6 a7 a8 a9 a10 a11 a12 a13 a14 a15 a16 a17 a18:Value} (h:Aj w g t #[a0,a1,a2,a3,a4,a5,a6,a7,a8,a9,a10,a11,a12,a13,a14,a15,a16,a17,a18]):
 w.cell? ⟨g,0,none⟩=some a0/\w.cell? ⟨g,1,none⟩=some a1/\w.cell? ⟨g,2,none⟩=some a2/\w.cell? ⟨g,3,none⟩=some a3/\w.cell? ⟨g,4,none⟩=some a4/\w.cell? ⟨g,5,none⟩=some a5/\w.cell? ⟨g,6,none⟩=some a6/\w.cell? ⟨g,7,none⟩=some a7/\w.cell? ⟨g,8,none⟩=some a8/\w.cell? ⟨g,9,none⟩=some a9/\w.cell? ⟨g,10,none⟩=some a10/\w.cell? ⟨g,11,none⟩=some a11/\w.cell? ⟨g,12,none⟩=some a12/\w.cell? ⟨g,13,none⟩=some a13/\w.cell? ⟨g,14,none⟩=some a14/\w.cell? ⟨g,15,none⟩=some a15/\w.cell? ⟨g,16,none⟩=some a16/\w.cell? ⟨g,17,none⟩=some a17/\w.cell? ⟨g,18,none⟩=some a18:=⟨h.cell 0,h.cell 1,h.cell 2,h.cell 3,h.cell 4,h.cell 5,h.cell 6,h.cell 7,h.cell 8,h.cell 9,h.cell 10,h.cell 11,h.cell 12,h.cell 13,h.cell 14,h.cell 15,h.cell 16,h.cell 17,h.cell 18⟩
theorem Aip {w:World} {B:Nat} {m:Mut} {cs:List Value} (h:Ai w B (dM m) cs):cs.length=19:=h.len.1.trans (C9 m)
def D9 (k:Int) (dst:ByteArray) (n:Int) (had wasZ has valZ:Bool) (ln:Nat):Bool:=
 if(!had&& !wasZ)=true then true
 else if k=1\/k=5 then !(dst.toList.isEmpty&&decide (n=0)&& !had&&wasZ&& !has&&decide (ln=0))
 else if k=2 then !(dst.toList.isEmpty&&decide (n=0)&& !had&&wasZ&& !has&&valZ&&decide (ln=0))
 else if k=3 then !(dst.toList.isEmpty&& !had&&wasZ&& !has&&valZ&&decide (ln=0))
 else if k=4 then(!has&& !valZ)|| !(dst.toList.isEmpty&&decide (n=0)&&decide (ln=0))
 else if k=6 then !(decide (n=0)&& !had&&wasZ&& !has&&valZ&&decide (ln=0))
 else if k=7 then !(dst.toList.isEmpty&&decide (n=0)&& !has&&valZ)
 else true
theorem Xf (k:Int) (dst:ByteArray) (n:Int) (had wasZ has valZ:Bool) (ln:Nat):D9 k dst n had wasZ has valZ ln= !Al k dst n had wasZ has valZ ln:=by
 unfold D9 Al;generalize dst.toList.isEmpty=e;generalize hz:decide (n=0)=z;generalize hy:decide (ln=0)=y;by_cases h1:k=1
 . subst h1;simp;cases e<;>cases z<;>cases y<;>cases had<;>cases wasZ<;>cases has<;>cases valZ<;>rfl
 by_cases h5:k=5
 . subst h5;simp;cases e<;>cases z<;>cases y<;>cases had<;>cases wasZ<;>cases has<;>cases valZ<;>rfl
 by_cases h2:k=2
 . subst h2;simp;cases e<;>cases z<;>cases y<;>cases had<;>cases wasZ<;>cases has<;>cases valZ<;>rfl
 by_cases h3:k=3
 . subst h3;simp;cases e<;>cases z<;>cases y<;>cases had<;>cases wasZ<;>cases has<;>cases valZ<;>rfl
 by_cases h4:k=4
 . subst h4;simp;cases e<;>cases z<;>cases y<;>cases had<;>cases wasZ<;>cases has<;>cases valZ<;>rfl
 by_cases h6:k=6
 . subst h6;simp;cases e<;>cases z<;>cases y<;>cases had<;>cases wasZ<;>cases has<;>cases valZ<;>rfl
 by_cases h7:k=7
 . subst h7;simp;cases e<;>cases z<;>cases y<;>cases had<;>cases wasZ<;>cases has<;>cases valZ<;>rfl
 have:(decide (1<=k)&&decide (k<=7))=false:=by simp;omega
 simp[h1,h2,h3,h4,h5,h6,h7,this]
theorem Bo.lit {S0:Nat->Prop} {b:Nat} {t:TypeId} {w:World} {d:D} {cs:Array Value} (hb:b<=w.heap.size) (hd:d.cells=cs.size) (h:Ab (fun i=>S0 i/\i≠w.heap.size) (w.alloc (.cells cs t)) d cs.toList):
 Bo S0 b t cs.size (w.alloc (.cells cs t)) [d] (.slice (some ⟨w.heap.size,0,none⟩) 1 1):=by
 refine⟨cs.toList,⟨by simp,.inr ⟨w.heap.size,1,cs,rfl,hb,heap_alloc_new w _,Nat.le_refl _,by unfold maxLen;omega,by simp, ?_⟩⟩,fun x hx=> ?_,A6.one (h.mono fun i _ hi=>⟨hi.1,fun e=>hi.2 (Option.some.inj (e:some w.heap.size=some i)).symm⟩)⟩
 . simp only[List.length_cons,List.length_nil,Nat.zero_add,Nat.one_mul];rw[<-Array.length_toList,List.take_length]
 . simp only[List.mem_cons,List.not_mem_nil,or_false]at hx;rw[hx];exact hd
section
variable {P:Program}
theorem W7 {t ty e:TypeId} {i:TypeInfo} {z:Value} {sz bytes:Nat} (ht:P.underlying t=some (.slice e)) (hi:P.info? e=some i) (hz:i.zero=some z) (hsize:i.size=sz) (hby:i.bytes=bytes) (hzs:z.cells.size=sz) (hsz:0<sz)
 {S0:Nat->Prop} {b:Nat} {w:World} {l:List D} {V:Value} (hrow:Bo S0 b e sz w l V) (hbw:b<=w.heap.size) {dl:List D} {cs:List Value} (hd: ∀d ∈ dl,d.cells=sz) (hx:A6 (fun i=>S0 i/\V.ownBlock≠some i) w dl cs)
 {B:Nat} {A:Option Addr} {n c:Nat} (hr:B5 w B sz A n cs) (hn:n=dl.length) (h63:l.length+n<=maxLen) (hbytes:(l.length+n)*bytes<=140737488355328):
 ∃V' w6,(Builtin.append_ #[t,t] ty #[V,.slice A n c]).run P w=.ok V' w6/\Bo S0 b e sz w6 (l++dl) V'/\w.grownBy w6 V.ownBlock/\(V'.ownBlock=V.ownBlock\/V'.ownBlock=some w.heap.size):=by
 subst hn;obtain⟨ns,h1,h2,h3⟩:=hrow;obtain⟨V',w6,hrun,g1,g2,g3⟩:=Ig (P:=P) w b t ty e i z sz bytes ht hi hz hsize hby hzs hsz V l.length ns h1 B A dl.length c cs hr hx.now.len.2 h63 hbytes hbw;refine⟨V',w6,hrun,⟨ns++cs,by rw[List.length_append];exact g1, ?_, ?_⟩,g2,g3⟩
 . intro x hx';rcases List.mem_append.1 hx' with hx'|hx'
   . exact h2 x hx'
   . exact hd x hx'
 . have key: ∀p:Addr,V.ownBlock≠some p.block->p.block<w.heap.size->V'.ownBlock≠some p.block:=by
    intro p p1 p2;rcases g3 with e3|e3
    . rw[e3];exact p1
    . rw[e3];intro e4;have:=Option.some.inj e4;omega
   have hag: ∀w'':World,w6.heap.size<=w''.heap.size->(∀p:Addr,S0 p.block/\V'.ownBlock≠some p.block->p.block<w6.heap.size->w''.cell? p=w6.cell? p)-> ∀p:Addr,S0 p.block/\V.ownBlock≠some p.block->p.block<w.heap.size->w''.cell? p=w.cell? p:=by
    intro w'' k1 k2 p p1 p2;rw[k2 p ⟨p1.1,key p p1.2 p2⟩ (Nat.lt_of_lt_of_le p2 g2.size)];exact World.cell?_of_block (g2.block p.block p2 (fun e=>p1.2 e.symm))
   intro w'' k1 k2;have a1:=Ah.more (h3 w'' (Nat.le_trans g2.size k1) (hag w'' k1 k2)) g2.size;have a2:=Ah.more (hx w'' (Nat.le_trans g2.size k1) (hag w'' k1 k2)) g2.size;exact a1.app a2
theorem Z9 {o:Oper} {a:Act} {w:World} {K:Act->World->Prop} {Q:Exit->Act->World->Prop} (s x:Operand) (t:TypeId) {e:TypeId}
 (ho:o.op=.call {callee:=.builtin .append,args:= #[s,x],argTypes:= #[t,t]}) {i:TypeInfo} {z:Value} {sz bytes:Nat} (ht:P.underlying t=some (.slice e)) (hi:P.info? e=some i) (hz:i.zero=some z) (hsize:i.size=sz) (hby:i.bytes=bytes) (hzs:z.cells.size=sz) (hsz:0<sz)
 {S0:Nat->Prop} {b:Nat} {l:List D} {V:Value} (hs:a.eval s=V) (hrow:Bo S0 b e sz w l V) (hbw:b<=w.heap.size) {dl:List D} {cs:List Value} (hd: ∀d ∈ dl,d.cells=sz) (hf:A6 (fun i=>S0 i/\V.ownBlock≠some i) w dl cs)
 {B:Nat} {A:Option Addr} {n c:Nat} (hx:a.eval x=.slice A n c) (hr:B5 w B sz A n cs) (hn:n=dl.length) (h63:l.length+n<=maxLen) (hbytes:(l.length+n)*bytes<=140737488355328)
 (h: ∀V' w6,Bo S0 b e sz w6 (l++dl) V'->w.grownBy w6 V.ownBlock->(V'.ownBlock=V.ownBlock\/V'.ownBlock=some w.heap.size)->K (a.put o.dst V') w6):o.wp P a w K Q:=by
 obtain⟨V',w6,hrun,g1,g2,g3⟩:=W7 (ty:=o.type) (c:=c) ht hi hz hsize hby hzs hsz hrow hbw hd hf hr hn h63 hbytes;unfold Oper.wp execOp;simp only[ho,resolve,invoke,builtin,Sem.run_bind,Sem.run_pure,Result.andThen_ok,List.map_toArray,List.map_cons,List.map_nil,hs,hx,hrun];exact h V' w6 g1 g2 g3
theorem L3 {ops:Array Oper} {rest:List Oper} {o:Oper} {a:Act} {w:World} {Q:Exit->Act->World->Prop} (hgd:o.guard=none) (s x:Operand) (t:TypeId) {e:TypeId}
 (ho:o.op=.call {callee:=.builtin .append,args:= #[s,x],argTypes:= #[t,t]}) {i:TypeInfo} {z:Value} {sz bytes:Nat} (ht:P.underlying t=some (.slice e)) (hi:P.info? e=some i) (hz:i.zero=some z) (hsize:i.size=sz) (hby:i.bytes=bytes) (hzs:z.cells.size=sz) (hsz:0<sz)
 {S0:Nat->Prop} {b:Nat} {l:List D} {V:Value} (hs:a.eval s=V) (hrow:Bo S0 b e sz w l V) (hbw:b<=w.heap.size) {dl:List D} {cs:List Value} (hd: ∀d ∈ dl,d.cells=sz) (hf:A6 (fun i=>S0 i/\V.ownBlock≠some i) w dl cs)
 {B:Nat} {A:Option Addr} {n c:Nat} (hx:a.eval x=.slice A n c) (hr:B5 w B sz A n cs) (hn:n=dl.length) (h63:l.length+n<=maxLen) (hbytes:(l.length+n)*bytes<=140737488355328)
 (h: ∀V' w6,Bo S0 b e sz w6 (l++dl) V'->w.grownBy w6 V.ownBlock->(V'.ownBlock=V.ownBlock\/V'.ownBlock=some w.heap.size)->wpList P ops Q rest (a.put o.dst V') w6):wpList P ops Q (o::rest) a w:=
 wpList_plain hgd fun _ hK=>Z9 s x t ho ht hi hz hsize hby hzs hsz hs hrow hbw hd hf hx hr hn h63 hbytes fun V' w6 h2 h3 h4=>hK _ _ (h V' w6 h2 h3 h4)
end
def Fv (w:World):Prop:=w.cell? ⟨0,1,none⟩=some (.string Nr)/\w.cell? ⟨0,2,none⟩=some (.string Np)/\w.cell? ⟨0,3,none⟩=some (.string Nq)/\w.cell? ⟨0,4,none⟩=some (.string Mn)/\w.cell? ⟨0,5,none⟩=some (.string No)/\w.cell? ⟨0,6,none⟩=some (.string Jt)/\w.cell? ⟨0,7,none⟩=some (.string Ns)/\0<w.heap.size
theorem Fv.below {w w':World} (h:Fv w) (hb:Below w.heap.size w w'):Fv w':=by
 obtain⟨h1,h2,h3,h4,h5,h6,h7,h8⟩:=h;exact⟨(hb.cell h8).trans h1,(hb.cell h8).trans h2,(hb.cell h8).trans h3,(hb.cell h8).trans h4,(hb.cell h8).trans h5,(hb.cell h8).trans h6,(hb.cell h8).trans h7,Nat.lt_of_lt_of_le h8 hb.size⟩
theorem Ab7 (s:ByteArray) (w:World) (hs:s.size<=1000000000):Calls Tryz.prog 131 #[.string s] w fun e w'=>e=.returned (.int .i64 (Rh s))/\w=w':=by
 obtain⟨B,hB⟩: ∃B,Az s=B:=⟨_,rfl⟩;have HC:=qz (fun W=>Cj hB W hs);have e0:s.toList.isEmpty=decide (s.size=0):=by
  rw[Lib.toList_data,Lib.size_eq];cases s.data.toList<;>simp
 have hE:Rh s=if s.size=0 then 8 else if 64<s.size then 6 else if B then 0 else 3:=by
  unfold Rh;rw[e0,hB];simp
 clear hB e0;by_cases h0:s.size=0
 . rw[if_pos h0]at hE;have t0:((s.size:Int)==0)=true:=by rw[beq_iff_eq];omega
   have HE:=qz hE;clear hE;clear h0;go_enter Tryz.func131,Tryz.ntmps131;go_wp2;go_ret;exact⟨by rw[HE.out];rfl,rfl⟩
 rw[if_neg h0]at hE;have t0:((s.size:Int)==0)=false:=by rw[beq_eq_false_iff_ne];omega
 by_cases h1:64<s.size
 . rw[if_pos h1]at hE;have t1:(64:Int)<(s.size:Int):=by omega
   have HE:=qz hE;clear hE;clear h0 h1;go_enter Tryz.func131,Tryz.ntmps131;go_wp2;go_ret;exact⟨by rw[HE.out];rfl,rfl⟩
 rw[if_neg h1]at hE;have t1:(s.size:Int)<=64:=by omega
 have HE:=qz hE;clear hE;clear h0 h1
 cases B with
 |true=>
  go_enter Tryz.func131,Tryz.ntmps131;go_wp2_with (go_at_call 111;(with_reducible refine(HC.out _).mono ?_);rintro e w2 ⟨rfl,rfl⟩);go_ret;exact⟨by rw[HE.out];rfl,rfl⟩
 |false=>
  go_enter Tryz.func131,Tryz.ntmps131;go_wp2_with (go_at_call 111;(with_reducible refine(HC.out _).mono ?_);rintro e w2 ⟨rfl,rfl⟩);go_ret;exact⟨by rw[HE.out];rfl,rfl⟩
abbrev Ahi:Val:=.mk 0 false 0 ⟨#[]⟩ [] []
theorem Ae4 (v:Val):Es v=true ↔ v=Ahi:=by
 obtain⟨k,b,n,t,l,o⟩:=v;simp only[Es,G4,Bool.and_eq_true,decide_eq_true_eq,Bool.not_eq_true',List.length_eq_zero_iff,List.isEmpty_iff,Val.mk.injEq];constructor
 . rintro⟨⟨⟨⟨⟨rfl,rfl⟩,rfl⟩,ht⟩,rfl⟩,rfl⟩;refine⟨rfl,rfl,rfl, ?_,rfl,rfl⟩;rw[Lib.toList_data]at ht;exact ByteArray.ext (Array.ext' ht)
 . rintro⟨rfl,rfl,rfl,rfl,rfl,rfl⟩;exact⟨⟨⟨⟨⟨rfl,rfl⟩,rfl⟩,by rw[Lib.toList_data]⟩,rfl⟩,rfl⟩
theorem Abe (w:World) (B:Nat):Ac w B Ahi [.int .i64 0,.bool false,.int .i64 0,.string ⟨#[]⟩,.slice none 0 0,.slice none 0 0]:=by
 simp only[Ac];exact⟨none,0,none,0,rfl,by simp,by simp⟩
theorem Zu (v:Val) (cs:List Value) (w:World) (hV:Ac w w.heap.size v cs) (hb:v.bulk<=100000000) {B:Bool} (hB:Es v=B):
 Calls Tryz.prog 20 #[.agg cs.toArray,.agg #[.int .i64 0,.bool false,.int .i64 0,.string ⟨#[]⟩,.slice none 0 0,.slice none 0 0]] w fun e w'=>e=.returned (.bool B)/\Below w.heap.size w w':=by
 refine(Ni v Ahi cs _ w hV (Abe _ _) hb (by simp[Val.bulk,Ba,Au,ByteArray.size])).mono ?_;rintro e w' ⟨X,rfl,hX,hb'⟩;refine⟨?_,hb'⟩;rw[<-Ae4,hB]at hX
 cases X<;>cases B<;>simp_all
end Go.Proofs.YtobmaegpfbheoaaGreatDoor
