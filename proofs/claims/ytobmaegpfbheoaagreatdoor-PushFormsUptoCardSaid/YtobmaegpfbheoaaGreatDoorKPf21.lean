/- Parts: commonplaceref02.Equal: has one value all that the other one has? Condition: a bulk of at most 10^8. -/
import Derived.Deep.RegionHeld3
import Derived.Test.YtobmaegpfbheoaaGreatDoorKPf17
set_option maxHeartbeats 20000000
set_option maxRecDepth 100000
namespace Go.Proofs.YtobmaegpfbheoaaGreatDoor
open Go.RowKit
def Ul (m:Mut):Prop:= ∀(cs:List Value) (w:World),Ag w w.heap.size (dM m) cs->Cg m<=100000000->
 Calls Tryz.prog 62 #[.agg cs.toArray] w fun e w'=>e=.returned (.int .i64 (B4 m))/\Below w.heap.size w w'
theorem Mn {l:List Mut} {q:Nat} {m:Mut} (h:l[q]? =some m):Bb (l.take (q+1))=Bb (l.take q)+B4 m:=by
 rw[List.take_add_one,h,Oj];simp[Bb]
theorem Ly: ∀(q:Nat) (l:List Mut),Bb (l.take q)<=Bb l
 |0,l=>by simp[Bb]
 |q+1, []=>by simp[Bb]
 |q+1,x::r=>by have:=Ly q r;simp only[List.take_succ_cons,Bb];omega
theorem V1 (k:Int) (key dst:ByteArray) (n:Int) (had:Bool) (k1:Int) (b1:Bool) (n1:Int) (t1:ByteArray) (l1:List Val) (o1:List (ByteArray×Val)) (has:Bool) (k2:Int) (b2:Bool) (n2:Int) (t2:ByteArray) (l2:List Val) (o2:List (ByteArray×Val)) (l:List Mut) (ih: ∀x ∈ l,Ul x):Ul (Mut.mk k key dst n had (.mk k1 b1 n1 t1 l1 o1) has (.mk k2 b2 n2 t2 l2 o2) l):=by
 intro cs w hM hb;obtain⟨la1,lc1,oa1,oc1,la2,lc2,oa2,oc2,a,c,rfl,hv1,hv2,hl⟩:=Bf hM;have hsz:=Fc (Mut.mk k key dst n had (.mk k1 b1 n1 t1 l1 o1) has (.mk k2 b2 n2 t2 l2 o2) l);have hls:=E3 l;simp only[Cg]at hb;simp only[Cg,B4]at hsz;have hI0:Hid (Below w.heap.size w (w.alloc (.cells #[.int .i64 k,.string key,.string dst,.int .i64 n,.bool had,.int .i64 k1,.bool b1,.int .i64 n1,.string t1,.slice la1 l1.length lc1,.slice oa1 o1.length oc1,.bool has,.int .i64 k2,.bool b2,.int .i64 n2,.string t2,.slice la2 l2.length lc2,.slice oa2 o2.length oc2,.slice a l.length c] 45))):=qz (Aa _ _);have Hxb:=qz (Aj.new w 45 #[.int .i64 k,.string key,.string dst,.int .i64 n,.bool had,.int .i64 k1,.bool b1,.int .i64 n1,.string t1,.slice la1 l1.length lc1,.slice oa1 o1.length oc1,.bool has,.int .i64 k2,.bool b2,.int .i64 n2,.string t2,.slice la2 l2.length lc2,.slice oa2 o2.length oc2,.slice a l.length c]);obtain⟨Ih,Hl⟩:=hid2 ih hl;clear ih hl;clear hM hv1 hv2;go_enter Tryz.func62,Tryz.ntmps62;go_wp2_with (fail);go_loopw [3,9] (fun s i wr=> ∃q:Nat,i=.int .i64 q/\q<=l.length/\s=.int .i64 (1+(Bb (l.take q):Nat))/\Hid (Below w.heap.size w wr)) (fun _ i _=>l.length - (intOf i).toNat)
 case atStart=>exact⟨0,rfl,Nat.zero_le _,by simp[Bb],hI0⟩
 case round=>
  obtain⟨q,rfl,hq,rfl,hbw⟩:=hrel;clear hI0;by_cases hlt:q<l.length
  . obtain⟨m,hm⟩: ∃p,l[q]? =some p:=⟨_,List.getElem?_eq_getElem hlt⟩;have hmem:=List.mem_of_getElem? hm;have htk:=Mn hm;have hbm:=E4 hmem;have hsm:=Fc m;have hst:Bb (l.take q)+B4 m<=Bb l:=by rw[<-htk];exact Ly _ _
    have hC:=Ih.out m hmem;obtain⟨k',key',dst',n',had',⟨k1',b1',n1',t1',l1',o1'⟩,has',⟨k2',b2',n2',t2',l2',o2'⟩,l'⟩:=m;have hz:=hbw.out.size;obtain⟨g,off,rfl,hg,cs',hcs,_,hcell⟩:=Lo (Hl.out.below hbw.out) hm;obtain⟨la1',lc1',oa1',oc1',la2',lc2',oa2',oc2',a',c',rfl,_,_,_⟩:=Bf hcs;have hrange:wr.rangeAt g (off+q*19) [.int .i64 k',.string key',.string dst',.int .i64 n',.bool had',.int .i64 k1',.bool b1',.int .i64 n1',.string t1',.slice la1' l1'.length lc1',.slice oa1' o1'.length oc1',.bool has',.int .i64 k2',.bool b2',.int .i64 n2',.string t2',.slice la2' l2'.length lc2',.slice oa2' o2'.length oc2',.slice a' l'.length c']:=hcell;have c0_:=hcell 0 _ rfl;have c1_:=hcell 1 _ rfl;have c2_:=hcell 2 _ rfl;have c3_:=hcell 3 _ rfl;have c4_:=hcell 4 _ rfl;have c5_:=hcell 5 _ rfl;have c6_:=hcell 6 _ rfl;have c7_:=hcell 7 _ rfl;have c8_:=hcell 8 _ rfl;have c9_:=hcell 9 _ rfl;have c10_:=hcell 10 _ rfl;have c11_:=hcell 11 _ rfl;have c12_:=hcell 12 _ rfl;have c13_:=hcell 13 _ rfl;have c14_:=hcell 14 _ rfl;have c15_:=hcell 15 _ rfl;have c16_:=hcell 16 _ rfl;have c17_:=hcell 17 _ rfl;have c18_:=hcell 18 _ rfl;rw[Nat.add_zero]at c0_;have hgr:g<wr.heap.size:=by omega
    have hq1:(q:Int)<(l.length:Int):=by omega
    have hq0:(0:Int)<=q:=by omega
    have hC': ∀W,Below wr.heap.size wr W->Calls Tryz.prog 62 #[.agg #[.int .i64 k',.string key',.string dst',.int .i64 n',.bool had',.int .i64 k1',.bool b1',.int .i64 n1',.string t1',.slice la1' l1'.length lc1',.slice oa1' o1'.length oc1',.bool has',.int .i64 k2',.bool b2',.int .i64 n2',.string t2',.slice la2' l2'.length lc2',.slice oa2' o2'.length oc2',.slice a' l'.length c']] W fun e w'=>e=.returned (.int .i64 (B4 (Mut.mk k' key' dst' n' had' (.mk k1' b1' n1' t1' l1' o1') has' (.mk k2' b2' n2' t2' l2' o2') l')))/\Below W.heap.size W w':=fun W hW=>hC _ W ((hcs.below (hW.mono hz)).more (Nat.le_trans hz hW.size)) (by omega);have i1:((Bb (l.take q):Nat):Int)+((B4 (Mut.mk k' key' dst' n' had' (.mk k1' b1' n1' t1' l1' o1') has' (.mk k2' b2' n2' t2' l2' o2') l'):Nat):Int)<=1000000000:=by omega
    have i2:(0:Int)<=((B4 (Mut.mk k' key' dst' n' had' (.mk k1' b1' n1' t1' l1' o1') has' (.mk k2' b2' n2' t2' l2' o2') l'):Nat):Int):=by omega
    have htk':((Bb (l.take (q+1)):Nat):Int)=((Bb (l.take q):Nat):Int)+((B4 (Mut.mk k' key' dst' n' had' (.mk k1' b1' n1' t1' l1' o1') has' (.mk k2' b2' n2' t2' l2' o2') l'):Nat):Int):=by rw[htk];simp
    have i3:(0:Int)<=((Bb (l.take q):Nat):Int):=by omega
    generalize ((B4 (Mut.mk k' key' dst' n' had' (.mk k1' b1' n1' t1' l1' o1') has' (.mk k2' b2' n2' t2' l2' o2') l'):Nat):Int)=S at hC' i1 i2 htk';generalize ((Bb (l.take q):Nat):Int)=T at i1 htk' i3 ⊢;obtain⟨HC',Hbw,Htk'⟩:=hid3 hC' hbw htk';clear hC' hbw htk';clear hC hcs hcell hmem htk hbm hsm hst hm;go_upto_region 4 with(fail);clear c0_ c1_ c2_ c3_ c4_ c5_ c6_ c7_ c8_ c9_ c10_ c11_ c12_ c13_ c14_ c15_ c16_ c17_ c18_
    iterate 5 go_step
    refine wp_load_mid 45 (.tmp 11) rfl g (off+q*19) rfl [.int .i64 k',.string key',.string dst',.int .i64 n',.bool had',.int .i64 k1',.bool b1',.int .i64 n1',.string t1',.slice la1' l1'.length lc1',.slice oa1' o1'.length oc1',.bool has',.int .i64 k2',.bool b2',.int .i64 n2',.string t2',.slice la2' l2'.length lc2',.slice oa2' o2'.length oc2',.slice a' l'.length c'] _ hrange Tryz.underlying45 rfl (by kernel_rfl) ?_
    iterate 5 go_step
    refine Dh 45 (.tmp 5) (.tmp 12) rfl #[.int .i64 k',.string key',.string dst',.int .i64 n',.bool had',.int .i64 k1',.bool b1',.int .i64 n1',.string t1',.slice la1' l1'.length lc1',.slice oa1' o1'.length oc1',.bool has',.int .i64 k2',.bool b2',.int .i64 n2',.string t2',.slice la2' l2'.length lc2',.slice oa2' o2'.length oc2',.slice a' l'.length c'] rfl rfl rfl (by kernel_rfl) (by simp[Value.oneCell']) ?_;go_upto_region 5 with(fail)
    iterate 5 go_step
    refine Ah 45 (.tmp 5) rfl wr.heap.size #[.int .i64 k',.string key',.string dst',.int .i64 n',.bool had',.int .i64 k1',.bool b1',.int .i64 n1',.string t1',.slice la1' l1'.length lc1',.slice oa1' o1'.length oc1',.bool has',.int .i64 k2',.bool b2',.int .i64 n2',.string t2',.slice la2' l2'.length lc2',.slice oa2' o2'.length oc2',.slice a' l'.length c'] (Aj.new _ _ _) rfl _ Tryz.underlying45 rfl (by kernel_rfl) ?_;go_wp2_with (go_at_call 62;(with_reducible refine(HC'.out _ (Aa _ _)).mono ?_);rintro e w1 ⟨rfl,hb1⟩);have HB:=qz ((Hbw.out.trans ((Aa wr (.cells #[.int .i64 k',.string key',.string dst',.int .i64 n',.bool had',.int .i64 k1',.bool b1',.int .i64 n1',.string t1',.slice la1' l1'.length lc1',.slice oa1' o1'.length oc1',.bool has',.int .i64 k2',.bool b2',.int .i64 n2',.string t2',.slice la2' l2'.length lc2',.slice oa2' o2'.length oc2',.slice a' l'.length c'] 45)).mono hz)).trans (hb1.mono (by simp;omega)));clear hb1;go_wp2;go_roundw
    case rel=>exact⟨q+1,by go_num,by omega,by rw[Htk'.out];go_num,HB⟩
    case measure=>simp only[intOf];omega
  . obtain rfl:q=l.length:=by omega
    have e1:Bb (l.take l.length)=Bb l:=by rw[List.take_length]
    rw[e1];have Hbw:=qz hbw;clear hbw;go_wp2;go_ret;exact⟨by simp[B4],Hbw.out⟩
theorem Te: ∀m,Ul m:=by
 refine Mut.ind ?_;intro k key dst n had was has v l IH;obtain⟨k1,b1,n1,t1,l1,o1⟩:=was;obtain⟨k2,b2,n2,t2,l2,o2⟩:=v;exact V1 k key dst n had k1 b1 n1 t1 l1 o1 has k2 b2 n2 t2 l2 o2 l IH
def Uo (m:Mut):Prop:= ∀(cs:List Value) (w:World),Ag w w.heap.size (dM m) cs->Cg m<=100000000->
 Calls Tryz.prog 38 #[.agg cs.toArray] w fun e w'=>e=.returned (.int .i64 (B4 m))/\Below w.heap.size w w'
theorem Wc (k:Int) (key dst:ByteArray) (n:Int) (had:Bool) (k1:Int) (b1:Bool) (n1:Int) (t1:ByteArray) (l1:List Val) (o1:List (ByteArray×Val)) (has:Bool) (k2:Int) (b2:Bool) (n2:Int) (t2:ByteArray) (l2:List Val) (o2:List (ByteArray×Val)) (l:List Mut) (ih: ∀x ∈ l,Uo x):Uo (Mut.mk k key dst n had (.mk k1 b1 n1 t1 l1 o1) has (.mk k2 b2 n2 t2 l2 o2) l):=by
 intro cs w hM hb;obtain⟨la1,lc1,oa1,oc1,la2,lc2,oa2,oc2,a,c,rfl,hv1,hv2,hl⟩:=Bf hM;have hsz:=Fc (Mut.mk k key dst n had (.mk k1 b1 n1 t1 l1 o1) has (.mk k2 b2 n2 t2 l2 o2) l);have hls:=E3 l;simp only[Cg]at hb;simp only[Cg,B4]at hsz;obtain⟨wi,hwi⟩: ∃wi,w.alloc (.cells #[.int .i64 k,.string key,.string dst,.int .i64 n,.bool had,.int .i64 k1,.bool b1,.int .i64 n1,.string t1,.slice la1 l1.length lc1,.slice oa1 o1.length oc1,.bool has,.int .i64 k2,.bool b2,.int .i64 n2,.string t2,.slice la2 l2.length lc2,.slice oa2 o2.length oc2,.slice a l.length c] 45)=wi:=⟨_,rfl⟩;have Hbi:Hid (Below w.heap.size w wi):=hwi▸Aa _ _;have hxb:Aj wi w.heap.size 45 #[.int .i64 k,.string key,.string dst,.int .i64 n,.bool had,.int .i64 k1,.bool b1,.int .i64 n1,.string t1,.slice la1 l1.length lc1,.slice oa1 o1.length oc1,.bool has,.int .i64 k2,.bool b2,.int .i64 n2,.string t2,.slice la2 l2.length lc2,.slice oa2 o2.length oc2,.slice a l.length c]:=hwi▸Aj.new _ _ _;have hI0:Hid (Below wi.heap.size wi wi):=qz (Below.refl _ _);have hgb:=hxb.lt;obtain⟨Ih,Hl,Hxb⟩:=hid3 ih hl hxb;clear ih hl hxb;clear hM hv1 hv2;go_enter Tryz.func38,Tryz.ntmps38;go_wp2_with (fail);clear hwi;go_loopw [3,4] (fun s i wr=> ∃q:Nat,i=.int .i64 q/\q<=l.length/\s=.int .i64 (1+(Bb (l.take q):Nat))/\Hid (Below wi.heap.size wi wr)) (fun _ i _=>l.length - (intOf i).toNat)
 case atStart=>exact⟨0,rfl,Nat.zero_le _,by simp[Bb],hI0⟩
 case round=>
  obtain⟨q,rfl,hq,rfl,hbr⟩:=hrel;clear hI0;have hbw:=Hbi.out.trans (hbr.out.mono Hbi.out.size);have y18:=(Hxb.out.below hbr.out Hxb.out.lt).cell 18;by_cases hlt:q<l.length
  . obtain⟨m,hm⟩: ∃p,l[q]? =some p:=⟨_,List.getElem?_eq_getElem hlt⟩;have hmem:=List.mem_of_getElem? hm;have htk:=Mn hm;have hbm:=E4 hmem;have hsm:=Fc m;have hst:Bb (l.take q)+B4 m<=Bb l:=by rw[<-htk];exact Ly _ _
    have hC:=Ih.out m hmem;obtain⟨k',key',dst',n',had',⟨k1',b1',n1',t1',l1',o1'⟩,has',⟨k2',b2',n2',t2',l2',o2'⟩,l'⟩:=m;have hz:=hbw.size;obtain⟨g,off,rfl,hg,cs',hcs,_,hcell⟩:=Lo (Hl.out.below hbw) hm;obtain⟨la1',lc1',oa1',oc1',la2',lc2',oa2',oc2',a',c',rfl,_,_,_⟩:=Bf hcs;have hrange:wr.rangeAt g (off+q*19) [.int .i64 k',.string key',.string dst',.int .i64 n',.bool had',.int .i64 k1',.bool b1',.int .i64 n1',.string t1',.slice la1' l1'.length lc1',.slice oa1' o1'.length oc1',.bool has',.int .i64 k2',.bool b2',.int .i64 n2',.string t2',.slice la2' l2'.length lc2',.slice oa2' o2'.length oc2',.slice a' l'.length c']:=hcell;have hgr:g<wr.heap.size:=by omega
    have hq1:(q:Int)<(l.length:Int):=by omega
    have hq0:(0:Int)<=q:=by omega
    have hC': ∀W,Below wr.heap.size wr W->Calls Tryz.prog 38 #[.agg #[.int .i64 k',.string key',.string dst',.int .i64 n',.bool had',.int .i64 k1',.bool b1',.int .i64 n1',.string t1',.slice la1' l1'.length lc1',.slice oa1' o1'.length oc1',.bool has',.int .i64 k2',.bool b2',.int .i64 n2',.string t2',.slice la2' l2'.length lc2',.slice oa2' o2'.length oc2',.slice a' l'.length c']] W fun e w'=>e=.returned (.int .i64 (B4 (Mut.mk k' key' dst' n' had' (.mk k1' b1' n1' t1' l1' o1') has' (.mk k2' b2' n2' t2' l2' o2') l')))/\Below W.heap.size W w':=fun W hW=>hC _ W ((hcs.below (hW.mono hz)).more (Nat.le_trans hz hW.size)) (by omega);have i1:((Bb (l.take q):Nat):Int)+((B4 (Mut.mk k' key' dst' n' had' (.mk k1' b1' n1' t1' l1' o1') has' (.mk k2' b2' n2' t2' l2' o2') l'):Nat):Int)<=1000000000:=by omega
    have i2:(0:Int)<=((B4 (Mut.mk k' key' dst' n' had' (.mk k1' b1' n1' t1' l1' o1') has' (.mk k2' b2' n2' t2' l2' o2') l'):Nat):Int):=by omega
    have htk':((Bb (l.take (q+1)):Nat):Int)=((Bb (l.take q):Nat):Int)+((B4 (Mut.mk k' key' dst' n' had' (.mk k1' b1' n1' t1' l1' o1') has' (.mk k2' b2' n2' t2' l2' o2') l'):Nat):Int):=by rw[htk];simp
    have i3:(0:Int)<=((Bb (l.take q):Nat):Int):=by omega
    generalize ((B4 (Mut.mk k' key' dst' n' had' (.mk k1' b1' n1' t1' l1' o1') has' (.mk k2' b2' n2' t2' l2' o2') l'):Nat):Int)=S at hC' i1 i2 htk';generalize ((Bb (l.take q):Nat):Int)=T at i1 htk' i3 ⊢;have HC1:=qz (hC' wr (Below.refl _ _));obtain⟨Hbw,Htk'⟩:=hid2 hbw htk';clear hbw htk';clear hC hC' hcs hcell hmem htk hbm hsm hst hm;go_upto_region 5 with(fail)
    iterate 17 go_step
    refine wp_load_mid 45 (.tmp 16) rfl g (off+q*19) rfl [.int .i64 k',.string key',.string dst',.int .i64 n',.bool had',.int .i64 k1',.bool b1',.int .i64 n1',.string t1',.slice la1' l1'.length lc1',.slice oa1' o1'.length oc1',.bool has',.int .i64 k2',.bool b2',.int .i64 n2',.string t2',.slice la2' l2'.length lc2',.slice oa2' o2'.length oc2',.slice a' l'.length c'] _ hrange Tryz.underlying45 rfl (by kernel_rfl) ?_;go_wp2_with (go_at_call 38;(with_reducible refine(HC1.out).mono ?_);rintro e w1 ⟨rfl,hb1⟩);have HB:=qz (hbr.out.trans (hb1.mono hbr.out.size));clear hb1;go_wp2;go_roundw
    case rel=>exact⟨q+1,by go_num,by omega,by rw[Htk'.out];go_num,HB⟩
    case measure=>simp only[intOf];omega
  . obtain rfl:q=l.length:=by omega
    have e1:Bb (l.take l.length)=Bb l:=by rw[List.take_length]
    rw[e1];have Hbw:=qz hbw;clear hbw;go_wp2;go_ret;exact⟨by simp[B4],Hbw.out⟩
theorem Tr: ∀m,Uo m:=by
 refine Mut.ind ?_;intro k key dst n had was has v l IH;obtain⟨k1,b1,n1,t1,l1,o1⟩:=was;obtain⟨k2,b2,n2,t2,l2,o2⟩:=v;exact Wc k key dst n had k1 b1 n1 t1 l1 o1 has k2 b2 n2 t2 l2 o2 l IH
def Dd (p:Prop) (w:World) (e:Ending) (w':World):Prop:= ∃B:Bool,e=.returned (.bool B)/\(B=true ↔ p)/\Below w.heap.size w w'
theorem Dd.no {p:Prop} {w w':World} (h: ¬p) (hb:Below w.heap.size w w'):Dd p w (.returned (.bool false)) w':=⟨false,rfl,by simp[h],hb⟩
theorem Dd.yes {p:Prop} {w w':World} (h:p) (hb:Below w.heap.size w w'):Dd p w (.returned (.bool true)) w':=⟨true,rfl,by simp[h],hb⟩
def EqC (a:Val):Prop:= ∀(b:Val) (cs cs':List Value) (w:World),Ab w w.heap.size a cs->Ab w w.heap.size b cs'->a.bulk<=100000000->b.bulk<=100000000->
    Calls Tryz.prog 20 #[.agg cs.toArray,.agg cs'.toArray] w (Dd (a=b) w)
theorem K9 {B:Nat} {a w:World} (h:Below B a w) (n:Nat):Below B a (w.drewN n):=⟨h.os,h.tape,h.output,h.size,h.block⟩
theorem Fe (w:World) (o o':Obj):Below w.heap.size w ((w.alloc o).alloc o'):=(Aa w o).alloc (by simp) _
theorem So {W w1:World} (hb:Below W.heap.size W w1):(∀b o,b<W.heap.size->w1.cell? ⟨b,o,none⟩=W.cell? ⟨b,o,none⟩)/\(∀b o,b<W.heap.size->w1.frozen? ⟨b,o,none⟩=W.frozen? ⟨b,o,none⟩):=
 ⟨fun b o h=>hb.cell (p:=⟨b,o,none⟩) h,fun b o h=>hb.frozen (p:=⟨b,o,none⟩) h⟩
theorem Aak (k k':Int) (b b':Bool) (n n':Int) (t t':ByteArray) (la oa la' oa':Option Addr) (ln lc on oc ln' lc' on' oc':Nat) (w:World) (p:Prop) (hp: ¬p) (h:k≠k'\/b≠b'\/n≠n'\/t≠t'\/ln≠ln'\/on≠on'):
 Calls Tryz.prog 20 #[.agg #[.int .i64 k,.bool b,.int .i64 n,.string t,.slice la ln lc,.slice oa on oc],.agg #[.int .i64 k',.bool b',.int .i64 n',.string t',.slice la' ln' lc',.slice oa' on' oc']] w (Dd p w):=by
 by_cases hk:k=k';rotate_left
 . have e:(k != k')=true:=by simpa using hk
   clear h hk;go_enter Tryz.func20,Tryz.ntmps20;go_wp2;go_ret;exact Dd.no hp (Fe _ _ _)
 subst hk;by_cases hb:b=b';rotate_left
 . clear h
   cases b<;>cases b'<;>first|exact absurd rfl hb|(clear hb;go_enter Tryz.func20,Tryz.ntmps20;go_wp2;go_ret;exact Dd.no hp (Fe _ _ _))
 subst hb;by_cases hn:n=n';rotate_left
 . have e:(n != n')=true:=by simpa using hn
   clear h hn;go_enter Tryz.func20,Tryz.ntmps20;go_wp2;go_ret;exact Dd.no hp (Fe _ _ _)
 subst hn;by_cases ht:t=t';rotate_left
 . have e:(t.toList != t'.toList)=true:=by simp only[bne_iff_ne];exact fun e=>ht (by rw[Lib.toList_data,Lib.toList_data]at e;exact ByteArray.ext (Array.ext' e))
   have e2:(t.toList==t'.toList)=false:=by simpa using e
   have e3: ¬t.toList=t'.toList:=by simpa using e
   clear h ht;go_enter Tryz.func20,Tryz.ntmps20;go_wp2;go_ret;exact Dd.no hp (Fe _ _ _)
 subst ht;by_cases hln:ln=ln';rotate_left
 . have e:((ln:Int) != (ln':Int))=true:=by simp;omega
   clear h hln;go_enter Tryz.func20,Tryz.ntmps20;go_wp2;go_ret;exact Dd.no hp (Fe _ _ _)
 subst hln;by_cases hon:on=on';rotate_left
 . have e:((on:Int) != (on':Int))=true:=by simp;omega
   clear h hon;go_enter Tryz.func20,Tryz.ntmps20;go_wp2;go_ret;exact Dd.no hp (Fe _ _ _)
 subst hon;simp at h
def EA (w:World) (b1 b2:Array Value) (wr:World):Prop:=Below w.heap.size w wr/\Aj wr w.heap.size 42 b1/\Aj wr (w.heap.size+1) 42 b2
theorem EA.step {w:World} {b1 b2:Array Value} {wr w4:World} (h:EA w b1 b2 wr) (hb:Below wr.heap.size wr w4):EA w b1 b2 w4:=⟨h.1.trans (hb.mono h.1.size),h.2.1.below hb h.2.1.lt,h.2.2.below hb h.2.2.lt⟩
theorem Om {α:Type} {l l':List α} {q:Nat} {x x':α} (h:l.take q=l'.take q) (hx:l[q]? =some x) (hx':l'[q]? =some x') (e:x=x'):l.take (q+1)=l'.take (q+1):=by
 rw[List.take_add_one,List.take_add_one,hx,hx',h,e]
theorem Th {α:Type} {l l':List α} {q:Nat} {x x':α} (hx:l[q]? =some x) (hx':l'[q]? =some x') (e:x≠x'):l≠l':=by
 rintro rfl;rw[hx]at hx';exact e (Option.some.inj hx')
theorem Aal (k:Int) (b:Bool) (n:Int) (t:ByteArray) (l l':List Val) (o o':List (ByteArray×Val)) (la oa la' oa':Option Addr) (lc oc lc' oc':Nat) (w:World) (IH: ∀v ∈ l,EqC v) (IHo: ∀m ∈ o,EqC m.2)
 (hln:l.length=l'.length) (hon:o.length=o'.length)
 (hl:l= []\/ ∃g off,la=some ⟨g,off,none⟩/\g<w.heap.size/\Aq w w.heap.size l g off) (hl':l'= []\/ ∃g off,la'=some ⟨g,off,none⟩/\g<w.heap.size/\Aq w w.heap.size l' g off)
 (ho:o= []\/ ∃g off,oa=some ⟨g,off,none⟩/\g<w.heap.size/\As w w.heap.size o g off) (ho':o'= []\/ ∃g off,oa'=some ⟨g,off,none⟩/\g<w.heap.size/\As w w.heap.size o' g off)
 (hbl:A0 l<=100000000) (hbl':A0 l'<=100000000) (hbo:Av o<=100000000) (hbo':Av o'<=100000000):
 Calls Tryz.prog 20 #[.agg #[.int .i64 k,.bool b,.int .i64 n,.string t,.slice la l.length lc,.slice oa o.length oc],.agg #[.int .i64 k,.bool b,.int .i64 n,.string t,.slice la' l.length lc',.slice oa' o.length oc']] w (Dd (l=l'/\o=o') w):=by
 have hlb:=Dy l;have hob:=Do o;have hA0:EA w #[.int .i64 k,.bool b,.int .i64 n,.string t,.slice la l.length lc,.slice oa o.length oc] #[.int .i64 k,.bool b,.int .i64 n,.string t,.slice la' l.length lc',.slice oa' o.length oc'] ((w.alloc (.cells #[.int .i64 k,.bool b,.int .i64 n,.string t,.slice la l.length lc,.slice oa o.length oc] 42)).alloc (.cells #[.int .i64 k,.bool b,.int .i64 n,.string t,.slice la' l.length lc',.slice oa' o.length oc'] 42)):=by
  refine⟨Fe _ _ _,(Aj.new w 42 #[.int .i64 k,.bool b,.int .i64 n,.string t,.slice la l.length lc,.slice oa o.length oc]).alloc _, ?_⟩;have:=Aj.new (w.alloc (.cells #[.int .i64 k,.bool b,.int .i64 n,.string t,.slice la l.length lc,.slice oa o.length oc] 42)) 42 #[.int .i64 k,.bool b,.int .i64 n,.string t,.slice la' l.length lc',.slice oa' o.length oc'];simpa using this
 have H00:=qz (show l.take 0=l'.take 0 from by simp);obtain⟨HIH,HIHo,HA0,Hln,Hon,Hl,Hl',Ho,Ho'⟩:=hid9 IH IHo hA0 hln hon hl hl' ho ho';clear hA0 hln hon hl hl' ho ho';clear IH IHo;go_enter Tryz.func20,Tryz.ntmps20;go_wp2_with (fail);obtain⟨w0,hw0⟩: ∃w0,(w.alloc (.cells #[.int .i64 k,.bool b,.int .i64 n,.string t,.slice la l.length lc,.slice oa o.length oc] 42)).alloc (.cells #[.int .i64 k,.bool b,.int .i64 n,.string t,.slice la' l.length lc',.slice oa' o.length oc'] 42)=w0:=⟨_,rfl⟩;rw[hw0]at HA0 ⊢;clear hw0;go_loopw [5] (fun i wr=> ∃q:Nat,i=.int .i64 q/\q<=l.length/\Hid (l.take q=l'.take q)/\Hid (EA w #[.int .i64 k,.bool b,.int .i64 n,.string t,.slice la l.length lc,.slice oa o.length oc] #[.int .i64 k,.bool b,.int .i64 n,.string t,.slice la' l.length lc',.slice oa' o.length oc'] wr)) (fun i _=>l.length - (intOf i).toNat)
 case atStart=>exact⟨0,rfl,Nat.zero_le _,H00,HA0⟩
 case round=>
  obtain⟨q,rfl,hq,htk,hea⟩:=hrel;clear H00 HA0;have m1:=hea.out.2.1.cell 4;have m2:=hea.out.2.2.cell 4;by_cases hlt:q<l.length
  . have hlt':q<l'.length:=by have:=Hln.out;omega
    obtain⟨g,off,rfl,hg,hLL⟩: ∃g off,la=some ⟨g,off,none⟩/\g<w.heap.size/\Aq w w.heap.size l g off:=Hl.out.resolve_left (by intro e;rw[e]at hlt;simp at hlt);obtain⟨g',off',rfl,hg',hLL'⟩: ∃g off,la'=some ⟨g,off,none⟩/\g<w.heap.size/\Aq w w.heap.size l' g off:=Hl'.out.resolve_left (by intro e;rw[e]at hlt';simp at hlt');obtain⟨x,hx⟩: ∃v,l[q]? =some v:=⟨_,List.getElem?_eq_getElem hlt⟩;obtain⟨x',hx'⟩: ∃v,l'[q]? =some v:=⟨_,List.getElem?_eq_getElem hlt'⟩;have IHx:=HIH.out _ (List.mem_of_getElem? hx);have hbv:=Ej (List.mem_of_getElem? hx);have hbv':=Ej (List.mem_of_getElem? hx');have:=trivial;have hbw:=hea.out.1;have hz:=hbw.size;have hT:=fun e=>Om htk.out hx hx' e;have hN:=fun e=>Th hx hx' e;obtain⟨xv,hxv⟩: ∃xv,x=xv:=⟨_,rfl⟩;obtain⟨xv',hxv'⟩: ∃xv,x'=xv:=⟨_,rfl⟩;obtain⟨k1,b1,n1,t1,l1,o1⟩:=x;obtain⟨k2,b2,n2,t2,l2,o2⟩:=x';obtain⟨la1,lc1,oa1,oc1,hv1,c0,c1,c2,c3,c4,c5⟩:=(hLL.below hg hbw).six hx;obtain⟨la2,lc2,oa2,oc2,hv2,d0,d1,d2,d3,d4,d5⟩:=(hLL'.below hg' hbw).six hx';have hC: ∀W,Below wr.heap.size wr W->Calls Tryz.prog 20 #[.agg #[.int .i64 k1,.bool b1,.int .i64 n1,.string t1,.slice la1 l1.length lc1,.slice oa1 o1.length oc1],.agg #[.int .i64 k2,.bool b2,.int .i64 n2,.string t2,.slice la2 l2.length lc2,.slice oa2 o2.length oc2]] W (Dd (xv=xv') W):=fun W hW=>by
     rw[<-hxv,<-hxv'];exact IHx _ _ _ W (Ab.more (Nat.le_trans hz hW.size) _ _ (hv1.below (hW.mono hz))) (Ab.more (Nat.le_trans hz hW.size) _ _ (hv2.below (hW.mono hz))) (by omega) (by omega)
    rw[hxv,hxv']at hT hN;have z1:g<wr.heap.size:=by omega
    have z2:g'<wr.heap.size:=by omega
    have z3:w.heap.size<wr.heap.size:=hea.out.2.1.lt;have z4:w.heap.size+1<wr.heap.size:=hea.out.2.2.lt;have z5:(q:Int)<(l.length:Int):=by omega
    obtain⟨HC,HT,HN⟩:=hid3 hC hT hN;clear hC hT hN;clear hbw hv1 hv2 hx hx' IHx hLL hLL' hxv hxv' htk;go_wp2_with (fail)
    go_region_held3 (fun W=>W.cell? ⟨w.heap.size,4,none⟩=some (.slice (some ⟨g,off,none⟩) l.length lc)/\W.cell? ⟨w.heap.size+1,4,none⟩=some (.slice (some ⟨g',off',none⟩) l.length lc')/\W.cell? ⟨g,off+q*6,none⟩=some (.int .i64 k1)/\W.cell? ⟨g,off+q*6+1,none⟩=some (.bool b1)/\W.cell? ⟨g,off+q*6+2,none⟩=some (.int .i64 n1)/\W.cell? ⟨g,off+q*6+3,none⟩=some (.string t1)/\W.cell? ⟨g,off+q*6+4,none⟩=some (.slice la1 l1.length lc1)/\W.cell? ⟨g,off+q*6+5,none⟩=some (.slice oa1 o1.length oc1)/\W.cell? ⟨g',off'+q*6,none⟩=some (.int .i64 k2)/\W.cell? ⟨g',off'+q*6+1,none⟩=some (.bool b2)/\W.cell? ⟨g',off'+q*6+2,none⟩=some (.int .i64 n2)/\W.cell? ⟨g',off'+q*6+3,none⟩=some (.string t2)/\W.cell? ⟨g',off'+q*6+4,none⟩=some (.slice la2 l2.length lc2)/\W.cell? ⟨g',off'+q*6+5,none⟩=some (.slice oa2 o2.length oc2)) (go_keep) (first|(go_at_call 20;refine(HC.out _ ?_).mono ?_;(exact(Below.drew (Below.refl _ _)));rintro e w4 ⟨B,rfl,hB,hb4⟩;have hbr:Below wr.heap.size wr w4:=((Below.drew (Below.refl _ _)).trans hb4);obtain⟨hc4,hf4⟩:=So hbr))
    all_goals
     have HE4:Hid (EA w #[.int .i64 k,.bool b,.int .i64 n,.string t,.slice (some ⟨g,off,none⟩) l.length lc,.slice oa o.length oc] #[.int .i64 k,.bool b,.int .i64 n,.string t,.slice (some ⟨g',off',none⟩) l.length lc',.slice oa' o.length oc'] w4):=hea.out.step hbr;clear hb4 hbr hc4 hf4 hea
     cases B with
     |true=>
      have HT':=qz (HT.out ((hB.1 rfl)));clear hB HT HN;go_wp2;go_roundw
      case rel=>exact⟨q+1,by go_num,by omega,HT',HE4⟩
      case measure=>simp only[intOf];omega
     |false=>
      have Hno:Hid (¬(l=l'/\o=o')):=fun h=>HN.out ((fun e=>by have:=hB.2 e;cases this)) h.1;clear hB HT HN;go_wp2;go_ret;exact Dd.no Hno.out HE4.out.1
  . obtain rfl:q=l.length:=by omega
    have hE:=htk.out;rw[List.take_length,Hln.out,List.take_length]at hE;have HE:=qz hE;clear hE;clear htk;have HE0:=HE;clear HE m1 m2;obtain⟨wo,hwo⟩: ∃wo:World,wo=wr:=⟨_,rfl⟩;subst hwo;have hb5:=hea.out.2.1.cell 5;have H01:=qz (show o.take 0=o'.take 0 from by simp);have m4:=hea.out.2.1.cell 4;go_wp2_with (fail);clear m4;go_loopw [6] (fun i wr=> ∃q:Nat,i=.int .i64 q/\q<=o.length/\Hid (o.take q=o'.take q)/\Hid (EA w #[.int .i64 k,.bool b,.int .i64 n,.string t,.slice la l.length lc,.slice oa o.length oc] #[.int .i64 k,.bool b,.int .i64 n,.string t,.slice la' l.length lc',.slice oa' o.length oc'] wr)) (fun i _=>o.length - (intOf i).toNat)
    case atStart=>exact⟨0,rfl,Nat.zero_le _,H01,hea⟩
    case round=>
     obtain⟨q,rfl,hq,htk,hea⟩:=hrel;clear H01;have m1:=hea.out.2.1.cell 5;have m2:=hea.out.2.2.cell 5;by_cases hlt:q<o.length
     . have hlt':q<o'.length:=by have:=Hon.out;omega
       obtain⟨g,off,rfl,hg,hLL⟩: ∃g off,oa=some ⟨g,off,none⟩/\g<w.heap.size/\As w w.heap.size o g off:=Ho.out.resolve_left (by intro e;rw[e]at hlt;simp at hlt);obtain⟨g',off',rfl,hg',hLL'⟩: ∃g off,oa'=some ⟨g,off,none⟩/\g<w.heap.size/\As w w.heap.size o' g off:=Ho'.out.resolve_left (by intro e;rw[e]at hlt';simp at hlt');obtain⟨⟨key,x⟩,hx⟩: ∃v,o[q]? =some v:=⟨_,List.getElem?_eq_getElem hlt⟩;obtain⟨⟨key',x'⟩,hx'⟩: ∃v,o'[q]? =some v:=⟨_,List.getElem?_eq_getElem hlt'⟩;have IHx:=HIHo.out _ (List.mem_of_getElem? hx);have hbv:=E5 (List.mem_of_getElem? hx);have hbv':=E5 (List.mem_of_getElem? hx');simp only at IHx hbv hbv';have hbw:=hea.out.1;have hz:=hbw.size;have hT:=fun e=>Om htk.out hx hx' e;have hN:=fun e=>Th hx hx' e;obtain⟨xv,hxv⟩: ∃xv,x=xv:=⟨_,rfl⟩;obtain⟨xv',hxv'⟩: ∃xv,x'=xv:=⟨_,rfl⟩;obtain⟨k1,b1,n1,t1,l1,o1⟩:=x;obtain⟨k2,b2,n2,t2,l2,o2⟩:=x';obtain⟨la1,lc1,oa1,oc1,hv1,c0,c1,c2,c3,c4,c5,c6⟩:=(hLL.below hg hbw).seven hx;obtain⟨la2,lc2,oa2,oc2,hv2,d0,d1,d2,d3,d4,d5,d6⟩:=(hLL'.below hg' hbw).seven hx';have hC: ∀W,Below wr.heap.size wr W->Calls Tryz.prog 20 #[.agg #[.int .i64 k1,.bool b1,.int .i64 n1,.string t1,.slice la1 l1.length lc1,.slice oa1 o1.length oc1],.agg #[.int .i64 k2,.bool b2,.int .i64 n2,.string t2,.slice la2 l2.length lc2,.slice oa2 o2.length oc2]] W (Dd (xv=xv') W):=fun W hW=>by
        rw[<-hxv,<-hxv'];exact IHx _ _ _ W (Ab.more (Nat.le_trans hz hW.size) _ _ (hv1.below (hW.mono hz))) (Ab.more (Nat.le_trans hz hW.size) _ _ (hv2.below (hW.mono hz))) (by omega) (by omega)
       rw[hxv,hxv']at hT hN;have z1:g<wr.heap.size:=by omega
       have z2:g'<wr.heap.size:=by omega
       have z3:w.heap.size<wr.heap.size:=hea.out.2.1.lt;have z4:w.heap.size+1<wr.heap.size:=hea.out.2.2.lt;have z5:(q:Int)<(o.length:Int):=by omega
       obtain⟨HC,HT,HN⟩:=hid3 hC hT hN;clear hC hT hN;clear hbw hv1 hv2 hx hx' IHx hLL hLL' hxv hxv' htk;by_cases hk:key.toList=key'.toList
       . have hkk:=F3 hk;subst hkk;have e1:(key.toList != key.toList)=false:=by simp
         clear hk;go_wp2_with (fail)
         go_region_held3 (fun W=>W.cell? ⟨w.heap.size,5,none⟩=some (.slice (some ⟨g,off,none⟩) o.length oc)/\W.cell? ⟨w.heap.size+1,5,none⟩=some (.slice (some ⟨g',off',none⟩) o.length oc')/\W.cell? ⟨g,off+q*7,none⟩=some (.string key)/\W.cell? ⟨g,off+q*7+1,none⟩=some (.int .i64 k1)/\W.cell? ⟨g,off+q*7+2,none⟩=some (.bool b1)/\W.cell? ⟨g,off+q*7+3,none⟩=some (.int .i64 n1)/\W.cell? ⟨g,off+q*7+4,none⟩=some (.string t1)/\W.cell? ⟨g,off+q*7+5,none⟩=some (.slice la1 l1.length lc1)/\W.cell? ⟨g,off+q*7+6,none⟩=some (.slice oa1 o1.length oc1)/\W.cell? ⟨g',off'+q*7,none⟩=some (.string key)/\W.cell? ⟨g',off'+q*7+1,none⟩=some (.int .i64 k2)/\W.cell? ⟨g',off'+q*7+2,none⟩=some (.bool b2)/\W.cell? ⟨g',off'+q*7+3,none⟩=some (.int .i64 n2)/\W.cell? ⟨g',off'+q*7+4,none⟩=some (.string t2)/\W.cell? ⟨g',off'+q*7+5,none⟩=some (.slice la2 l2.length lc2)/\W.cell? ⟨g',off'+q*7+6,none⟩=some (.slice oa2 o2.length oc2)) (go_keep) (first|(go_at_call 20;refine(HC.out _ ?_).mono ?_;(exact(Below.drew (Below.refl _ _)));rintro e w4 ⟨B,rfl,hB,hb4⟩;have hbr:Below wr.heap.size wr w4:=((Below.drew (Below.refl _ _)).trans hb4);obtain⟨hc4,hf4⟩:=So hbr))
         all_goals
          have HE4:Hid (EA w #[.int .i64 k,.bool b,.int .i64 n,.string t,.slice la l.length lc,.slice (some ⟨g,off,none⟩) o.length oc] #[.int .i64 k,.bool b,.int .i64 n,.string t,.slice la' l.length lc',.slice (some ⟨g',off',none⟩) o.length oc'] w4):=hea.out.step hbr;clear hb4 hbr hc4 hf4 hea
          cases B with
          |true=>
           have HT':=qz (HT.out (by rw[hB.1 rfl]));clear hB HT HN;go_wp2;go_roundw
           case rel=>exact⟨q+1,by go_num,by omega,HT',HE4⟩
           case measure=>simp only[intOf];omega
          |false=>
           have Hno:Hid (¬(l=l'/\o=o')):=fun h=>HN.out (fun e=>by have:=hB.2 (congrArg Prod.snd e);cases this) h.2;clear hB HT HN;go_wp2;go_ret;exact Dd.no Hno.out HE4.out.1
       . have e1:(key.toList != key'.toList)=true:=by simpa using hk
         have e2:(key.toList==key'.toList)=false:=by simpa using hk
         have Hno:Hid (¬(l=l'/\o=o')):=fun h=>HN.out (fun e=>hk (by have e5:=congrArg Prod.fst e;simp only at e5;rw[e5])) h.2;have Hk:=qz hk;clear hk;clear HC HT HN;go_wp2_with (fail);go_quiet (fail);go_wp2;go_ret;exact Dd.no Hno.out (by first|exact K9 hea.out.1 _|exact K9 (K9 hea.out.1 _) _)
     . obtain rfl:q=o.length:=by omega
       have hE:=htk.out;rw[List.take_length,Hon.out,List.take_length]at hE;have HE:=qz hE;clear hE;clear htk;go_wp2;go_ret;exact Dd.yes ⟨HE0.out,HE.out⟩ hea.out.1
theorem X5: ∀a,EqC a:=by
 refine Val.ind ?_;intro k b n t l o hl ho b' cs cs' w hV hV' hb hb';obtain⟨k',b',n',t',l',o'⟩:=b';simp only[Ab]at hV hV';obtain⟨la,lc,oa,oc,rfl,hla,hoa⟩:=hV;obtain⟨la',lc',oa',oc',rfl,hla',hoa'⟩:=hV';simp only[Val.bulk]at hb hb';by_cases hd:k≠k'\/b≠b'\/n≠n'\/t≠t'\/l.length≠l'.length\/o.length≠o'.length
 . exact Aak k k' b b' n n' t t' la oa la' oa' l.length lc o.length oc l'.length lc' o'.length oc' w _ (by rintro⟨⟩;simp at hd) hd
 . simp only[not_or,Decidable.not_not]at hd;obtain⟨rfl,rfl,rfl,rfl,e1,e2⟩:=hd;have:=Aal k b n t l l' o o' la oa la' oa' lc oc lc' oc' w hl ho e1 e2 hla hla' hoa hoa' (by omega) (by omega) (by omega) (by omega);rw[e1,e2]at this;refine(show Df k b n t la l.length lc oa o.length oc=_ by rw[e1,e2])▸this.mono ?_;rintro e w' ⟨B,rfl,hB,hb⟩;exact⟨B,rfl,by rw[hB];simp,hb⟩
end Go.Proofs.YtobmaegpfbheoaaGreatDoor
