/- Parts: patch.Reset: a clear, and a put of each entry. Condition: a bulk of at most 5 * 10^7. -/
import Derived.Test.YtnkmhaachfgaoaaGreatDoorKPq39
import Derived.Test.YtnkmhaachfgaoaaGreatDoorKPatchLeads5
set_option maxHeartbeats 20000000
set_option maxRecDepth 100000
namespace Go.Proofs.YtnkmhaachfgaoaaGreatDoor
open Go Go.RowKit
def RsI (b g0 z2:Nat) (w3:World) (es:List Ax) (q:Nat) (wr:World) (V:Value):Prop:=
 KB (fun i=>i=g0) w3 wr/\Al (fun i=>z2<=i/\i<w3.heap.size) b 42 8 wr (Ex ((B5 es).take (q+1))) V/\(V.ownBlock=some g0\/ ∃g,V.ownBlock=some g/\w3.heap.size<=g)
theorem Yo (t:Option (Nat×Nd)) (p:Option Addr) (w:World) (ht:C5 (fun i=>i<w.heap.size) w t p) (ok:M5 t) (hb:Ac (Ba t)<=50000000):Calls Tryz.prog 22 #[.agg #[.pointer p]] w (J7 (B5 (Ba t)) w):=by
 obtain⟨PO,hPO⟩: ∃P:Ending->World->Prop,J7 (B5 (Ba t)) w=P:=⟨_,rfl⟩;rw[hPO];have hln:=Aw (Ba t);obtain⟨w1,hw1⟩: ∃w1,w.alloc (.cells #[.pointer p] 27)=w1:=⟨_,rfl⟩;have hb1:Below w.heap.size w w1:=hw1▸Aa _ _;have hx1:Ah w1 w.heap.size 27 #[.pointer p]:=hw1▸Ah.new _ _ _;obtain⟨w2,hw2⟩: ∃w2,w1.alloc (.cells #[.int .i64 3,.string ⟨#[]⟩,.int .i64 0,.bool false,.int .i64 0,.string ⟨#[]⟩,.slice none 0 0,.slice none 0 0] 42)=w2:=⟨_,rfl⟩;have hb2:Below w1.heap.size w1 w2:=hw2▸Aa _ _;have hW2:=hb1.trans (hb2.mono hb1.size);have HE:=qz (G0 t p w2 ((ht.below hW2).mono fun i hi _=>hi) ok (by omega));have hrow: ∀S0:Nat->Prop,Al S0 w.heap.size 42 8 w2 [dQ ⟨3,⟨#[]⟩,Fy⟩] (.slice (some ⟨w1.heap.size,0,none⟩) 1 1):=fun S0=>by
  rw[<-hw2];exact Al.lit (cs:= #[.int .i64 3,.string ⟨#[]⟩,.int .i64 0,.bool false,.int .i64 0,.string ⟨#[]⟩,.slice none 0 0,.slice none 0 0]) hb1.size (Jq _) (Uq (fun _ _ _=>Sa _ _))
 have c0:=(hx1.below hb2 hx1.lt).cell 0;have lx:=(hx1.below hb2 hx1.lt).lt;have hz0:=hb1.size;have hz1:w1.heap.size<w2.heap.size:=by rw[<-hw2];simp
 obtain⟨j0,hj,hy0,hy1,hy2⟩:=info_parts Vb;generalize Ba t=es at*
 obtain⟨HPO,HW2,Hrow,Hj,Hy0,Hy1,Hy2⟩:=hid7 hPO hW2 hrow hj hy0 hy1 hy2;clear hPO hW2 hrow hj hy0 hy1 hy2;clear ht hb1 hb2 hx1 ok;go_enter Tryz.func22,Tryz.ntmps22;go_wp2_with (fail);(with_reducible refine(HE.out).mono ?_);rintro e w3 ⟨hb3,VE,rfl,hRE⟩;obtain⟨aE,cE,rfl⟩:=hRE.slice_n (At es);have hT3:Ag (fun i=>w2.heap.size<=i/\i<w3.heap.size) w3 (.row 7 (dO es)) [.slice aE es.length cE]:=hRE.closeIn.mono fun i h1 h2=>⟨by
  rcases h2 with h2|h2
  . exact h2
  . exact(hRE.base i h2).1,h1⟩
 have HI0:Hid (RsI w.heap.size w1.heap.size w2.heap.size w3 es 0 w3 (.slice (some ⟨w1.heap.size,0,none⟩) 1 1)):=⟨KB.of_below (Below.refl _ _),(Hrow.out _).below hb3,.inl rfl⟩;have hz3:=hb3.size;have HW3:=qz (HW2.out.trans (hb3.mono HW2.out.size));have HT3:=qz hT3;clear hT3;clear hRE hb3 c0 lx hw1 hw2 HE Hrow;go_wp2_with (fail);go_loopw [3,11] (fun V i wr=> ∃q:Nat,i=.int .i64 q/\q<=es.length/\Hid (RsI w.heap.size w1.heap.size w2.heap.size w3 es q wr V)) (fun _ i _=>es.length - (intOf i).toNat)
 case atStart=>exact⟨0,rfl,Nat.zero_le _,HI0⟩
 case round=>
  obtain⟨q,rfl,hq,hI⟩:=hrel;clear HI0;obtain⟨i1,i2,i3⟩:=hI.out;have hsz:(Ex ((B5 es).take (q+1))).length=q+1:=by
   rw[Ee,List.length_take];simp[B5];omega
  obtain⟨aV,cV,rfl⟩:=i2.slice_n hsz;by_cases hlt:q<es.length
  . obtain⟨⟨key,⟨k',b',n',t',l',o'⟩⟩,hx⟩: ∃v,es[q]? =some v:=⟨_,List.getElem?_eq_getElem hlt⟩;have hTr:=HT3.out.later i1.size fun p p1 p2=>World.cell?_of_block (i1.block p.block p2 (by omega));obtain⟨g,off,rfl,hg,la,lc,oa,oc,hv,c0,c1,c2,c3,c4,c5,c6⟩:=F5 hTr hx;have htk:Ex ((B5 es).take (q+1))++ [dQ ⟨1,key,.mk k' b' n' t' l' o'⟩]=Ex ((B5 es).take (q+1+1)):=by
     unfold Ex;rw[List.take_add_one (i:=q+1)];simp[B5,hx]
    have hz:=i1.size;obtain⟨wi,hwi⟩: ∃wi,wr.alloc (.cells #[.string key,.int .i64 k',.bool b',.int .i64 n',.string t',.slice la l'.length lc,.slice oa o'.length oc] 71)=wi:=⟨_,rfl⟩;have hbi:Below wr.heap.size wr wi:=hwi▸Aa _ _;have hxi:Ah wi wr.heap.size 71 #[.string key,.int .i64 k',.bool b',.int .i64 n',.string t',.slice la l'.length lc,.slice oa o'.length oc]:=hwi▸Ah.new _ _ _;have f0:=hxi.cell 0;have f1:=hxi.cell 1;have f2:=hxi.cell 2;have f3:=hxi.cell 3;have f4:=hxi.cell 4;have f5:=hxi.cell 5;have f6:=hxi.cell 6;have lxi:=hxi.lt;have hob:(Value.slice aV (q+1) cV).ownBlock=some w1.heap.size\/ ∃g,(Value.slice aV (q+1) cV).ownBlock=some g/\w3.heap.size<=g:=i3;have hd:Ag (fun i=>(w2.heap.size<=i/\i<w3.heap.size)/\(Value.slice aV (q+1) cV).ownBlock≠some i) (wi.alloc (.cells #[.int .i64 1,.string key,.int .i64 k',.bool b',.int .i64 n',.string t',.slice la l'.length lc,.slice oa o'.length oc] 42)) (dQ ⟨1,key,.mk k' b' n' t' l' o'⟩) [.int .i64 1,.string key,.int .i64 k',.bool b',.int .i64 n',.string t',.slice la l'.length lc,.slice oa o'.length oc]:=
     (Uq ((hv.below hbi).below (Aa wi _))).mono fun i _ hi=>⟨hi,fun e=>by
       rcases hob with h|⟨g',h,h'⟩
       . rw[h]at e;have:=Option.some.inj e;omega
       . rw[h]at e;have:=Option.some.inj e;omega⟩
    have Hr2:=qz ((i2.below hbi).below (Aa wi (.cells #[.int .i64 1,.string key,.int .i64 k',.bool b',.int .i64 n',.string t',.slice la l'.length lc,.slice oa o'.length oc] 42)));have Hrd:=qz (Db (Ah.new wi 42 #[.int .i64 1,.string key,.int .i64 k',.bool b',.int .i64 n',.string t',.slice la l'.length lc,.slice oa o'.length oc]));have hbs:=hbi.size;have q1:(q:Int)<(es.length:Int):=by omega
    have q0:(0:Int)<=q:=by omega
    have lg:g<wr.heap.size:=hg;have hLo:Hid (w.heap.size<=(wi.alloc (.cells #[.int .i64 1,.string key,.int .i64 k',.bool b',.int .i64 n',.string t',.slice la l'.length lc,.slice oa o'.length oc] 42)).heap.size):=by
     show _<=_;have:=HW3.out.size;simp;omega
    obtain⟨Hd,Htk,Hsz,I1,Hob,Hbi⟩:=hid6 hd htk hsz i1 hob hbi;clear hd htk hsz i1 hob hbi;clear hI i2 i3 hv hTr hxi hx;go_wp2_with (at_builtin;apply Shut.out);unfold Shut;refine Fe (d:=dQ ⟨1,key,.mk k' b' n' t' l' o'⟩) rfl (.tmp 15) (.tmp 21) 23 rfl Tryz.underlying23 Hj.out Hy0.out Hy1.out Hy2.out rfl (by omega) rfl Hr2.out hLo.out (Jq _) Hd.out rfl Hrd.out (by rw[Hsz.out];simp only[maxLen];omega) (by rw[Hsz.out];omega) ?_;intro V6 w6 hr6 hg6 hat6;rw[Htk.out]at hr6;have HN:Hid (RsI w.heap.size w1.heap.size w2.heap.size w3 es (q+1) w6 V6):=by
     show RsI _ _ _ _ _ _ _ _;have hg6':(wi.alloc (.cells #[.int .i64 1,.string key,.int .i64 k',.bool b',.int .i64 n',.string t',.slice la l'.length lc,.slice oa o'.length oc] 42)).grownBy w6 (Value.slice aV (q+1) cV).ownBlock:=hg6;refine⟨(I1.out.trans (KB.of_below ((Hbi.out).trans ((Aa wi _).mono hbs))) fun _ _ h=>h).trans (KB.of_grown (S:=fun i=>i=w1.heap.size\/w3.heap.size<=i) hg6' fun k e=> ?_) fun k k1 k2=>by omega,hr6, ?_⟩
     . rcases Hob.out with h|⟨g',h,h'⟩
       . rw[h]at e;exact .inl (Option.some.inj e).symm
       . rw[h]at e;have:=Option.some.inj e;exact .inr (by omega)
     . rcases hat6 with e|e
       . have e':V6.ownBlock=(Value.slice aV (q+1) cV).ownBlock:=e;rw[e'];exact Hob.out
       . exact .inr ⟨_,e,by simp;omega⟩
    obtain⟨a6,c6,rfl⟩:=hr6.slice;clear hr6 hg6 hat6 Hd Hr2 Hrd;go_wp2;go_roundw
    case rel=>exact⟨q+1,by go_num,by omega,HN⟩
    case measure=>simp only[intOf];omega
  . obtain rfl:q=es.length:=by omega
    have htk:(B5 es).take (es.length+1)=B5 es:=by
     refine List.take_of_length_le ?_;simp[B5]
    have HP:Hid (PO (.returned (.slice aV (es.length+1) cV)) wr):=by
     show PO _ _;rw[<-HPO.out];rw[htk]at i2;exact⟨HW3.out.trans (i1.below (fun k h=>by subst h;omega) HW3.out.size),_,rfl,i2.mono fun _ _=>trivial⟩
    clear hI i1 i2 i3 hsz htk;have q1: ¬(es.length:Int)<(es.length:Int):=by omega
    go_wp2;exact HP.out
end Go.Proofs.YtnkmhaachfgaoaaGreatDoor
