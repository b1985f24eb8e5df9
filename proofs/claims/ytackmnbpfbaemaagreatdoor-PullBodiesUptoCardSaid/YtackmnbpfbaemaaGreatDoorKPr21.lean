/- Parts: The reference's own values: Int, Text, Object, List; rows that share old memory. No condition. -/
import Derived.Deep.DeepCutAuto
import Derived.Laws.MakeOwn
import Derived.Test.YtackmnbpfbaemaaGreatDoorKPr17
set_option maxHeartbeats 20000000
namespace Go.Proofs.YtackmnbpfbaemaaGreatDoor
open Go.RowKit
def La (w:World) (v:Val) (e:Ending) (w':World):Prop:=(∃cs',e=.returned (.agg (cs':List Value).toArray)/\cs'.length=6/\Ap w.heap.size w' (dV v) cs')/\Below w.heap.size w w'
def Acn (v:Val):Prop:= ∀(cs:List Value) (w:World),Ac w w.heap.size v cs->v.bulk<=100000000->Calls Tryz.prog 72 #[.agg cs.toArray] w (La w v)
theorem N4 {P:Program} (t e:TypeId) (i:TypeInfo) (z:Value) (ht:P.underlying t=some (.slice e)) (hi:P.info? e=some i) (hz:i.zero=some z)
 (n:Nat) (hbytes:i.bytes*n<=281474976710656) (h63:n<=9223372036854775807) (w:World):
 (Instr.makeSlice t (.int .i64 (n:Int)) (.int .i64 (n:Int))).run P w=.ok (.slice (some ⟨w.heap.size,0,none⟩) n n) (w.alloc (.cells (madeCells z.cells (n*i.size)) e)):=by
 have hb:(i.bytes:Int)*(n:Int)<=281474976710656:=by
  have h:((i.bytes*n:Nat):Int)<=281474976710656:=by omega
  rwa [Int.natCast_mul]at h
 have hr:=run_make (P:=P) w t e i z ht hi hz .i64 .i64 n n (by omega) (by omega) hb (by omega);simp only[Int.toNat_natCast]at hr;exact hr
def VA (w wx:World) (b1 z b3:Array Value) (wr:World):Prop:=
 Below w.heap.size w wr/\An wr w.heap.size 39 b1/\An wr (w.heap.size+1) 39 z/\An wr (w.heap.size+2) 39 b3/\(∀c,w.heap.size+3<=c->c<wx.heap.size->wr.heap[c]? =wx.heap[c]?)/\wx.heap.size<=wr.heap.size/\w.heap.size+3<=wx.heap.size
def Ml (w wx:World) (b1 z b3:Array Value) (g s N:Nat) (t:TypeId) (l:List D) (wr:World):Prop:=VA w wx b1 z b3 wr/\Gl wx.heap.size g t s N wr l
def VP (w wx:World) (b1 z b3:Array Value) (l:List D) (s:Nat) (V:Value) (wr:World):Prop:=VA w wx b1 z b3 wr/\Ap wx.heap.size wr (.row s l) [V]
theorem VP.nil {w wx wr:World} {b1 z b3:Array Value} (s:Nat) (h:VA w wx b1 z b3 wr) (a:Option Addr) (c:Nat):VP w wx b1 z b3 [] s (.slice a 0 c) wr:=
 ⟨h,fun _ _ _=>⟨a,c,rfl,fun d hd=>(by cases hd), [],rfl,.inl rfl⟩⟩
theorem Ml.step {w wx:World} {b1 z b3:Array Value} {g s N:Nat} {t:TypeId} {l:List D} {wr w4:World} {d:D} {cs:List Value} (h:Ml w wx b1 z b3 g s N t l wr) (h4:Below wr.heap.size wr w4) (hx:Ap wr.heap.size w4 d cs) (hl:l.length<N) (hd:d.cells=s):
 Ml w wx b1 z b3 g s N t (l++ [d]) (A1 w4 g (l.length*s) cs):=by
 obtain⟨⟨hb,x1,x2,x3,hk,hs,hw⟩,hf⟩:=h;have hg:=hf.1;have hs4:=h4.size;have hbl: ∀{i:Nat} {c:Array Value},i<w.heap.size+3->An wr i 39 c->An (A1 w4 g (l.length*s) cs) i 39 c:=fun hi hB=>(Aw cs w4 g _ _ (by omega)).trans (hB.below h4 hB.lt);exact⟨⟨Ak cs (hb.trans (h4.mono hb.size)) (by omega),hbl (by omega) x1,hbl (by omega) x2,hbl (by omega) x3,fun c h1 h2=>(Aw cs w4 g _ _ (by omega)).trans ((h4.block c (by omega)).trans (hk c h1 h2)),by rw[Ba];omega,hw⟩,hf.step hl hd hx h4⟩
theorem Ml.done {w wx:World} {b1 z b3:Array Value} {g s N:Nat} {t:TypeId} {l:List D} {wr:World} (h:Ml w wx b1 z b3 g s N t l wr) (hN:l.length=N) (c:Nat):VP w wx b1 z b3 l s (.slice (some ⟨g,0,none⟩) N c) wr:=by
 subst hN;exact⟨h.1,h.2.close c⟩
theorem Acs {W w1:World} (hb:Below W.heap.size W w1):(∀b o,b<W.heap.size->w1.cell? ⟨b,o,none⟩=W.cell? ⟨b,o,none⟩)/\(∀b o,b<W.heap.size->w1.frozen? ⟨b,o,none⟩=W.frozen? ⟨b,o,none⟩):=
 ⟨fun b o h=>hb.cell (p:=⟨b,o,none⟩) h,fun b o h=>hb.frozen (p:=⟨b,o,none⟩) h⟩
set_option maxRecDepth 100000 in
theorem Ae2 (k:Int) (b:Bool) (n:Int) (t:ByteArray) (l:List Val) (o:List (ByteArray×Val)) (la oa:Option Addr) (oc lc:Nat) (w:World) (IH: ∀v ∈ l,Acn v) (IHo: ∀m ∈ o,Acn m.2)
 (hl:l= []\/ ∃g off,la=some ⟨g,off,none⟩/\g<w.heap.size/\Az w w.heap.size l g off) (ho:o= []\/ ∃g off,oa=some ⟨g,off,none⟩/\g<w.heap.size/\Au w w.heap.size o g off) (hbl:Bc l<=100000000) (hbo:Al o<=100000000):
 Calls Tryz.prog 72 #[.agg #[.int .i64 k,.bool b,.int .i64 n,.string t,.slice la l.length lc,.slice oa o.length oc]] w (La w (.mk k b n t l o)):=by
 have hln:=D3 l;have hon:=Cg o;obtain⟨i0,hi,hz0,hz1,hz2⟩:=info_parts Pw;obtain⟨j0,hj,hy0,hy1,hy2⟩:=info_parts Pv;have hmk:=fun W=>N4 (P:=Tryz.prog) 36 39 i0 _ Tryz.underlying36 hi hz0 l.length (by rw[hz2];omega) (by omega) W;have hmo:=fun W=>N4 (P:=Tryz.prog) 37 63 j0 _ Tryz.underlying37 hj hy0 o.length (by rw[hy2];omega) (by omega) W;rw[hz1]at hmk;rw[hy1]at hmo;obtain⟨M1,hM1⟩: ∃M,madeCells (Value.cells (.agg #[.int .i64 0,.bool false,.int .i64 0,.string ⟨#[]⟩,.slice none 0 0,.slice none 0 0])) (l.length*6)=M:=⟨_,rfl⟩;obtain⟨M2,hM2⟩: ∃M,madeCells (Value.cells (.agg #[.string ⟨#[]⟩,.int .i64 0,.bool false,.int .i64 0,.string ⟨#[]⟩,.slice none 0 0,.slice none 0 0])) (o.length*7)=M:=⟨_,rfl⟩;simp only[hM1]at hmk;simp only[hM2]at hmo;have hS1:M1.size=l.length*6:=by rw[<-hM1,size_madeCells]
 have hS2:M2.size=o.length*7:=by rw[<-hM2,size_madeCells]
 obtain⟨HIH,HIHo,HL,HO,HS1,HS2⟩:=hid6 IH IHo hl ho hS1 hS2;clear IH IHo hl ho hS1 hS2 hM1 hM2 hi hz0 hz1 hz2 hj hy0 hy1 hy2;go_enter Tryz.func72,Tryz.ntmps72;go_upto_if 14 with(fail);obtain⟨w0,hw0⟩: ∃w0,((w.alloc (.cells #[.int .i64 k,.bool b,.int .i64 n,.string t,.slice la l.length lc,.slice oa o.length oc] 39)).alloc (.cells #[.int .i64 0,.bool false,.int .i64 0,.string ⟨#[]⟩,.slice none 0 0,.slice none 0 0] 39)).alloc (.cells #[.int .i64 k,.bool b,.int .i64 n,.string t,.slice none 0 0,.slice none 0 0] 39)=w0:=⟨_,rfl⟩;have hA0:VA w w0 #[.int .i64 k,.bool b,.int .i64 n,.string t,.slice la l.length lc,.slice oa o.length oc] #[.int .i64 0,.bool false,.int .i64 0,.string ⟨#[]⟩,.slice none 0 0,.slice none 0 0] #[.int .i64 k,.bool b,.int .i64 n,.string t,.slice none 0 0,.slice none 0 0] w0:=by
  rw[<-hw0];refine⟨(((Below.refl _ _).alloc (Nat.le_refl _) _).alloc (by simp) _).alloc (by simp;omega) _,((An.new w 39 #[.int .i64 k,.bool b,.int .i64 n,.string t,.slice la l.length lc,.slice oa o.length oc]).alloc (.cells #[.int .i64 0,.bool false,.int .i64 0,.string ⟨#[]⟩,.slice none 0 0,.slice none 0 0] 39)).alloc (.cells #[.int .i64 k,.bool b,.int .i64 n,.string t,.slice none 0 0,.slice none 0 0] 39), ?_, ?_,fun _ _ _=>rfl,Nat.le_refl _,by simp⟩
  . have:=(An.new (w.alloc (.cells #[.int .i64 k,.bool b,.int .i64 n,.string t,.slice la l.length lc,.slice oa o.length oc] 39)) 39 #[.int .i64 0,.bool false,.int .i64 0,.string ⟨#[]⟩,.slice none 0 0,.slice none 0 0]).alloc (.cells #[.int .i64 k,.bool b,.int .i64 n,.string t,.slice none 0 0,.slice none 0 0] 39);simpa using this
  . have:=An.new ((w.alloc (.cells #[.int .i64 k,.bool b,.int .i64 n,.string t,.slice la l.length lc,.slice oa o.length oc] 39)).alloc (.cells #[.int .i64 0,.bool false,.int .i64 0,.string ⟨#[]⟩,.slice none 0 0,.slice none 0 0] 39)) 39 #[.int .i64 k,.bool b,.int .i64 n,.string t,.slice none 0 0,.slice none 0 0];simpa using this
 rw[hw0];clear hw0;have hsl:w.heap.size+3<=w0.heap.size:=hA0.2.2.2.2.2.2;have HA0:=Lib.hid hA0;clear hA0;go_cut [] (fun wx=> ∃a c,Hid (VP w w0 #[.int .i64 k,.bool b,.int .i64 n,.string t,.slice la l.length lc,.slice oa o.length oc] #[.int .i64 0,.bool false,.int .i64 0,.string ⟨#[]⟩,.slice none 0 0,.slice none 0 0] #[.int .i64 k,.bool b,.int .i64 n,.string t,.slice a l.length c,.slice none 0 0] (dL l) 6 (.slice a l.length c) wx))
 case first=>
  by_cases h0:l= []
  . subst h0;go_wp2;go_meet;exact⟨none,0,VP.nil 6 HA0.out none 0⟩
  . have hpos:0<l.length:=List.length_pos_iff.2 h0;obtain⟨_,y1,y2,y3,_⟩:=HA0.out;obtain⟨b0,b1,b2,b3,b4,b5⟩:=Ao y1;obtain⟨e0,e1,e2,e3,e4,e5⟩:=Ao y3;have f3:=y3.frozen 4;have g0:w.heap.size<w0.heap.size:=by omega
    have g2:w.heap.size+2<w0.heap.size:=by omega
    obtain⟨Y1,Y2,Y3⟩:=hid3 y1 y2 y3;clear y1 y2 y3;go_wp2_with (fail);obtain⟨w1,hw1⟩: ∃w1,(w0.setCell ⟨w.heap.size+1+1,4,none⟩ (.slice (some ⟨w0.heap.size,0,none⟩) l.length l.length)).alloc (.cells M1 39)=w1:=⟨_,rfl⟩;have hV:Ml w w0 #[.int .i64 k,.bool b,.int .i64 n,.string t,.slice la l.length lc,.slice oa o.length oc] #[.int .i64 0,.bool false,.int .i64 0,.string ⟨#[]⟩,.slice none 0 0,.slice none 0 0] #[.int .i64 k,.bool b,.int .i64 n,.string t,.slice (some ⟨w0.heap.size,0,none⟩) l.length l.length,.slice none 0 0] w0.heap.size 6 l.length 39 (dL (l.take 0)) w1:=by
     rw[<-hw1];obtain⟨z1,z2,z3,z4,z5,z6,z7⟩:=HA0.out;refine⟨⟨(z1.setCell (by simp;omega) _).alloc (by simp;omega) _,(z2.far (by simp;omega) _).alloc _,(z3.far (by simp) _).alloc _,(z4.set_ 4 _).alloc _,fun c h1 h2=> ?_,by simp,z7⟩,Gl.start (Nat.le_refl _) ?_ HS1.out⟩
     . rw[Lib.alloc_old _ _ _ (by simp;omega),D7 _ _ _ _ (by omega)]
     . have:=heap_alloc_new (w0.setCell ⟨w.heap.size+1+1,4,none⟩ (.slice (some ⟨w0.heap.size,0,none⟩) l.length l.length)) (.cells M1 39);simpa using this
    have HV:=Lib.hid hV;rw[hw1];clear hw1 hV b0 b1 b2 b3 b4 b5 e0 e1 e2 e3 e4 e5 f3 HA0 Y1 Y2 Y3 HS1 HS2 hmk hmo;go_loopw [23] (fun i wr=> ∃q:Nat,i=.int .i64 q/\q<=l.length/\Hid (Ml w w0 #[.int .i64 k,.bool b,.int .i64 n,.string t,.slice la l.length lc,.slice oa o.length oc] #[.int .i64 0,.bool false,.int .i64 0,.string ⟨#[]⟩,.slice none 0 0,.slice none 0 0] #[.int .i64 k,.bool b,.int .i64 n,.string t,.slice (some ⟨w0.heap.size,0,none⟩) l.length l.length,.slice none 0 0] w0.heap.size 6 l.length 39 (dL (l.take q)) wr)) (fun i _=>l.length - (intOf i).toNat)
    case atStart=>exact⟨0,rfl,Nat.zero_le _,HV⟩
    case round=>
     obtain⟨q,rfl,hq,hv⟩:=hrel;clear HV;by_cases hlt:q<l.length
     . obtain⟨g,off,rfl,hg,hLL⟩: ∃g off,la=some ⟨g,off,none⟩/\g<w.heap.size/\Az w w.heap.size l g off:=HL.out.resolve_left h0;obtain⟨x,hx⟩: ∃v,l[q]? =some v:=⟨_,List.getElem?_eq_getElem hlt⟩;have hmem:=List.mem_of_getElem? hx;have IHx:=HIH.out _ hmem;have hbv:=Eg hmem;have:=trivial;have htk:dL (l.take (q+1))=dL (l.take q)++ [dV x]:=by rw[List.take_add_one,hx,Gz,Gz];simp
       have hqlen:(dL (l.take q)).length=q:=by rw[Lz,List.length_take];omega
       obtain⟨⟨hbw,x1,x2,x3,hk,hsx,hw3⟩,hF⟩:=hv.out;have hz:=hbw.size;have b4:=x3.cell 4;obtain⟨k',b',n',t',l',o'⟩:=x;obtain⟨la',lc',oa',oc',hvs,c0,c1,c2,c3,c4,c5⟩:=(hLL.below hg hbw).six hx;have hC: ∀W,Below wr.heap.size wr W->Calls Tryz.prog 72 #[.agg #[.int .i64 k',.bool b',.int .i64 n',.string t',.slice la' l'.length lc',.slice oa' o'.length oc']] W (La W (.mk k' b' n' t' l' o')):=fun W hW=>
        IHx _ W (Ac.more (Nat.le_trans hz hW.size) _ _ (hvs.below (hW.mono hz))) (by omega)
       have hgr:g<wr.heap.size:=by omega
       have hg2:w.heap.size+2<wr.heap.size:=x3.lt;have hgl:=hF.lt;have hcell: ∀W,Below wr.heap.size wr W->(∀j,j<6-> ∃u,W.cell? ⟨w0.heap.size,q*6+j,none⟩=some u)/\(∀j,W.frozen? ⟨w0.heap.size,j,none⟩=false):=fun W hW=>by
        have h1:=(hF.below hW).cell;exact⟨fun j hj=>h1.1 _ (by omega),h1.2⟩
       have y1:(q:Int)<(l.length:Int):=by omega
       have n1:w.heap.size+2≠w0.heap.size:=by omega
       have n2:wr.heap.size≠w0.heap.size:=by omega
       have n3:=n1.symm;have n4:=n2.symm;obtain⟨HC,Hcell,Htk,Hqlen⟩:=hid4 hC hcell htk hqlen;clear hC hcell htk hqlen;clear hbw x1 x2 x3 hF hvs hx hmem IHx hLL hk hsx hw3;go_wp2_with (fail)
       go_region_held3 (fun W=>W.cell? ⟨w.heap.size+2,4,none⟩=some (.slice (some ⟨w0.heap.size,0,none⟩) l.length l.length)/\W.cell? ⟨wr.heap.size,0,none⟩=some (.int .i64 k')/\W.cell? ⟨wr.heap.size,1,none⟩=some (.bool b')/\W.cell? ⟨wr.heap.size,2,none⟩=some (.int .i64 n')/\W.cell? ⟨wr.heap.size,3,none⟩=some (.string t')/\W.cell? ⟨wr.heap.size,4,none⟩=some (.slice la' l'.length lc')/\W.cell? ⟨wr.heap.size,5,none⟩=some (.slice oa' o'.length oc')) (go_keep) (first|(go_at_call 72;refine(HC.out _ ?_).mono ?_;(exact(Below.drew ((Below.refl _ _).alloc (Nat.le_refl _) _)));rintro e w4 ⟨⟨cs4,rfl,hl4,hf4⟩,hb4⟩;obtain⟨la2,lc2,oa2,oc2,rfl⟩:=Ct hf4;have hbr:Below wr.heap.size wr w4:=((Below.drew ((Below.refl _ _).alloc (Nat.le_refl _) _)).trans (hb4.mono (by simp)));obtain⟨hd,hfz⟩:=Hcell.out w4 hbr;obtain⟨v0,d0⟩:=hd 0 (by omega);obtain⟨v1,d1⟩:=hd 1 (by omega);obtain⟨v2,d2⟩:=hd 2 (by omega);obtain⟨v3,d3⟩:=hd 3 (by omega);obtain⟨v4,d4⟩:=hd 4 (by omega);obtain⟨v5,d5⟩:=hd 5 (by omega);rw[Nat.add_zero]at d0;obtain⟨hc4,hf4'⟩:=Acs hb4;have g3:=(hbr.cell (p:=⟨w.heap.size+2,4,none⟩) hg2).trans b4;clear hd))
       all_goals
        have hf5:Ap wr.heap.size w4 (dV (.mk k' b' n' t' l' o')) [.int .i64 k',.bool b',.int .i64 n',.string t',.slice la2 l'.length lc2,.slice oa2 o'.length oc2]:=hf4.keep (by simp) (Nat.le_refl _) (fun _ _ _=>rfl);have hN:=hv.out.step hbr hf5 (by rw[Hqlen.out];exact hlt) (Eh _);rw[Hqlen.out,<-Htk.out]at hN;have HN:Hid (Ml w w0 #[.int .i64 k,.bool b,.int .i64 n,.string t,.slice (some ⟨g,off,none⟩) l.length lc,.slice oa o.length oc] #[.int .i64 0,.bool false,.int .i64 0,.string ⟨#[]⟩,.slice none 0 0,.slice none 0 0] #[.int .i64 k,.bool b,.int .i64 n,.string t,.slice (some ⟨w0.heap.size,0,none⟩) l.length l.length,.slice none 0 0] w0.heap.size 6 l.length 39 (dL (l.take (q+1))) ((((((w4.setCell ⟨w0.heap.size,q*6,none⟩ (.int .i64 k')).setCell ⟨w0.heap.size,q*6+1,none⟩ (.bool b')).setCell ⟨w0.heap.size,q*6+2,none⟩ (.int .i64 n')).setCell ⟨w0.heap.size,q*6+3,none⟩ (.string t')).setCell ⟨w0.heap.size,q*6+4,none⟩ (.slice la2 l'.length lc2)).setCell ⟨w0.heap.size,q*6+5,none⟩ (.slice oa2 o'.length oc2))):=hN;clear hN hf5 hf4 hb4 hbr hfz hc4 hf4' g3 hv HC Hcell Htk Hqlen b4 c0 c1 c2 c3 c4 c5 d0 d1 d2 d3 d4 d5 n1 n2 n3 n4;go_wp2;go_roundw
        case rel=>exact⟨q+1,by go_num,by omega,HN⟩
        case measure=>simp only[intOf];omega
     . obtain rfl:q=l.length:=by omega
       have hv':=hv.out;rw[List.take_length]at hv';have HD:=Lib.hid (hv'.done (Lz _) l.length);clear hv hv';go_wp2;go_meet;exact⟨_,_,HD⟩
 case rest=>
 obtain⟨aL,cL,hP⟩:=hcut;obtain⟨wm,hwm⟩: ∃wm:World,wm=wc:=⟨_,rfl⟩;subst hwm;have hA1:VA w wm #[.int .i64 k,.bool b,.int .i64 n,.string t,.slice la l.length lc,.slice oa o.length oc] #[.int .i64 0,.bool false,.int .i64 0,.string ⟨#[]⟩,.slice none 0 0,.slice none 0 0] #[.int .i64 k,.bool b,.int .i64 n,.string t,.slice aL l.length cL,.slice none 0 0] wm:=by
  obtain⟨⟨z1,z2,z3,z4,z5,z6,z7⟩,_⟩:=hP.out;exact⟨z1,z2,z3,z4,fun _ _ _=>rfl,Nat.le_refl _,Nat.le_trans z7 z6⟩
 have hsm:w.heap.size+3<=wm.heap.size:=hA1.2.2.2.2.2.2;obtain⟨b0,b1,b2,b3,b4,b5⟩:=Ao hA1.2.1;have HA1:=Lib.hid hA1;clear hA1;clear HIH HL HA0 HS1 hmk;go_upto_if 38 with(fail);clear b0 b1 b2 b3 b4 b5;go_cut [] (fun wx=> ∃a c,Hid (VP w wm #[.int .i64 k,.bool b,.int .i64 n,.string t,.slice la l.length lc,.slice oa o.length oc] #[.int .i64 0,.bool false,.int .i64 0,.string ⟨#[]⟩,.slice none 0 0,.slice none 0 0] #[.int .i64 k,.bool b,.int .i64 n,.string t,.slice aL l.length cL,.slice a o.length c] (dO o) 7 (.slice a o.length c) wx))
 case first=>
  by_cases h0:o= []
  . subst h0;go_wp2;go_meet;exact⟨none,0,VP.nil 7 HA1.out none 0⟩
  . have hpos:0<o.length:=List.length_pos_iff.2 h0;obtain⟨_,y1,y2,y3,_⟩:=HA1.out;obtain⟨b0,b1,b2,b3,b4,b5⟩:=Ao y1;obtain⟨e0,e1,e2,e3,e4,e5⟩:=Ao y3;have f3:=y3.frozen 5;have g0:w.heap.size<wm.heap.size:=by omega
    have g2:w.heap.size+2<wm.heap.size:=by omega
    obtain⟨Y1,Y2,Y3⟩:=hid3 y1 y2 y3;clear y1 y2 y3;go_wp2_with (fail);obtain⟨w1,hw1⟩: ∃w1,(wm.setCell ⟨w.heap.size+1+1,5,none⟩ (.slice (some ⟨wm.heap.size,0,none⟩) o.length o.length)).alloc (.cells M2 63)=w1:=⟨_,rfl⟩;have hV:Ml w wm #[.int .i64 k,.bool b,.int .i64 n,.string t,.slice la l.length lc,.slice oa o.length oc] #[.int .i64 0,.bool false,.int .i64 0,.string ⟨#[]⟩,.slice none 0 0,.slice none 0 0] #[.int .i64 k,.bool b,.int .i64 n,.string t,.slice aL l.length cL,.slice (some ⟨wm.heap.size,0,none⟩) o.length o.length] wm.heap.size 7 o.length 63 (dO (o.take 0)) w1:=by
     rw[<-hw1];obtain⟨z1,z2,z3,z4,z5,z6,z7⟩:=HA1.out;refine⟨⟨(z1.setCell (by simp;omega) _).alloc (by simp;omega) _,(z2.far (by simp;omega) _).alloc _,(z3.far (by simp) _).alloc _,(z4.set_ 5 _).alloc _,fun c h1 h2=> ?_,by simp,z7⟩,Gl.start (Nat.le_refl _) ?_ HS2.out⟩
     . rw[Lib.alloc_old _ _ _ (by simp;omega),D7 _ _ _ _ (by omega)]
     . have:=heap_alloc_new (wm.setCell ⟨w.heap.size+1+1,5,none⟩ (.slice (some ⟨wm.heap.size,0,none⟩) o.length o.length)) (.cells M2 63);simpa using this
    have HV:=Lib.hid hV;rw[hw1];clear hw1 hV b0 b1 b2 b3 b4 b5 e0 e1 e2 e3 e4 e5 f3 HA1 Y1 Y2 Y3 HS2 hmo;go_loopw [47] (fun i wr=> ∃q:Nat,i=.int .i64 q/\q<=o.length/\Hid (Ml w wm #[.int .i64 k,.bool b,.int .i64 n,.string t,.slice la l.length lc,.slice oa o.length oc] #[.int .i64 0,.bool false,.int .i64 0,.string ⟨#[]⟩,.slice none 0 0,.slice none 0 0] #[.int .i64 k,.bool b,.int .i64 n,.string t,.slice aL l.length cL,.slice (some ⟨wm.heap.size,0,none⟩) o.length o.length] wm.heap.size 7 o.length 63 (dO (o.take q)) wr)) (fun i _=>o.length - (intOf i).toNat)
    case atStart=>exact⟨0,rfl,Nat.zero_le _,HV⟩
    case round=>
     obtain⟨q,rfl,hq,hv⟩:=hrel;clear HV;by_cases hlt:q<o.length
     . obtain⟨g,off,rfl,hg,hLL⟩: ∃g off,oa=some ⟨g,off,none⟩/\g<w.heap.size/\Au w w.heap.size o g off:=HO.out.resolve_left h0;obtain⟨⟨key,x⟩,hx⟩: ∃v,o[q]? =some v:=⟨_,List.getElem?_eq_getElem hlt⟩;have hmem:=List.mem_of_getElem? hx;have IHx:=HIHo.out _ hmem;have hbv:=C9 hmem;simp only at IHx hbv;have htk:dO (o.take (q+1))=dO (o.take q)++ [dP (key,x)]:=by rw[List.take_add_one,hx,Jd,Jd];simp
       have hqlen:(dO (o.take q)).length=q:=by rw[Ig,List.length_take];omega
       obtain⟨⟨hbw,x1,x2,x3,hk,hsx,hw3⟩,hF⟩:=hv.out;have hz:=hbw.size;have b4:=x3.cell 5;obtain⟨k',b',n',t',l',o'⟩:=x;obtain⟨la',lc',oa',oc',hvs,c0,c1,c2,c3,c4,c5,c6⟩:=(hLL.below hg hbw).seven hx;have hC: ∀W,Below wr.heap.size wr W->Calls Tryz.prog 72 #[.agg #[.int .i64 k',.bool b',.int .i64 n',.string t',.slice la' l'.length lc',.slice oa' o'.length oc']] W (La W (.mk k' b' n' t' l' o')):=fun W hW=>
        IHx _ W (Ac.more (Nat.le_trans hz hW.size) _ _ (hvs.below (hW.mono hz))) (by omega)
       have hgr:g<wr.heap.size:=by omega
       have hg2:w.heap.size+2<wr.heap.size:=x3.lt;have hgl:=hF.lt;have hcell: ∀W,Below wr.heap.size wr W->(∀j,j<7-> ∃u,W.cell? ⟨wm.heap.size,q*7+j,none⟩=some u)/\(∀j,W.frozen? ⟨wm.heap.size,j,none⟩=false):=fun W hW=>by
        have h1:=(hF.below hW).cell;exact⟨fun j hj=>h1.1 _ (by omega),h1.2⟩
       have y1:(q:Int)<(o.length:Int):=by omega
       have n1:w.heap.size+2≠wm.heap.size:=by omega
       have n2:wr.heap.size≠wm.heap.size:=by omega
       have n3:=n1.symm;have n4:=n2.symm;obtain⟨HC,Hcell,Htk,Hqlen⟩:=hid4 hC hcell htk hqlen;clear hC hcell htk hqlen;clear hbw x1 x2 x3 hF hvs hx hmem IHx hLL hk hsx hw3;go_wp2_with (fail)
       go_region_held3 (fun W=>W.cell? ⟨w.heap.size+2,5,none⟩=some (.slice (some ⟨wm.heap.size,0,none⟩) o.length o.length)/\W.cell? ⟨wr.heap.size,0,none⟩=some (.string key)/\W.cell? ⟨wr.heap.size,1,none⟩=some (.int .i64 k')/\W.cell? ⟨wr.heap.size,2,none⟩=some (.bool b')/\W.cell? ⟨wr.heap.size,3,none⟩=some (.int .i64 n')/\W.cell? ⟨wr.heap.size,4,none⟩=some (.string t')/\W.cell? ⟨wr.heap.size,5,none⟩=some (.slice la' l'.length lc')/\W.cell? ⟨wr.heap.size,6,none⟩=some (.slice oa' o'.length oc')) (go_keep) (first|(go_at_call 72;refine(HC.out _ ?_).mono ?_;(exact(Below.drew ((Below.refl _ _).alloc (Nat.le_refl _) _)));rintro e w4 ⟨⟨cs4,rfl,hl4,hf4⟩,hb4⟩;obtain⟨la2,lc2,oa2,oc2,rfl⟩:=Ct hf4;have hbr:Below wr.heap.size wr w4:=((Below.drew ((Below.refl _ _).alloc (Nat.le_refl _) _)).trans (hb4.mono (by simp)));obtain⟨hd,hfz⟩:=Hcell.out w4 hbr;obtain⟨v0,d0⟩:=hd 0 (by omega);obtain⟨v1,d1⟩:=hd 1 (by omega);obtain⟨v2,d2⟩:=hd 2 (by omega);obtain⟨v3,d3⟩:=hd 3 (by omega);obtain⟨v4,d4⟩:=hd 4 (by omega);obtain⟨v5,d5⟩:=hd 5 (by omega);obtain⟨v6,d6⟩:=hd 6 (by omega);rw[Nat.add_zero]at d0;obtain⟨hc4,hf4'⟩:=Acs hb4;have g3:=(hbr.cell (p:=⟨w.heap.size+2,5,none⟩) hg2).trans b4;clear hd))
       all_goals
        have hf5:Ap wr.heap.size w4 (dV (.mk k' b' n' t' l' o')) [.int .i64 k',.bool b',.int .i64 n',.string t',.slice la2 l'.length lc2,.slice oa2 o'.length oc2]:=hf4.keep (by simp) (Nat.le_refl _) (fun _ _ _=>rfl);have hN:=hv.out.step hbr (Le (key:=key) hf5) (by rw[Hqlen.out];exact hlt) (Fc _);rw[Hqlen.out,<-Htk.out]at hN;have HN:Hid (Ml w wm #[.int .i64 k,.bool b,.int .i64 n,.string t,.slice la l.length lc,.slice (some ⟨g,off,none⟩) o.length oc] #[.int .i64 0,.bool false,.int .i64 0,.string ⟨#[]⟩,.slice none 0 0,.slice none 0 0] #[.int .i64 k,.bool b,.int .i64 n,.string t,.slice aL l.length cL,.slice (some ⟨wm.heap.size,0,none⟩) o.length o.length] wm.heap.size 7 o.length 63 (dO (o.take (q+1))) (((((((w4.setCell ⟨wm.heap.size,q*7,none⟩ (.string key)).setCell ⟨wm.heap.size,q*7+1,none⟩ (.int .i64 k')).setCell ⟨wm.heap.size,q*7+2,none⟩ (.bool b')).setCell ⟨wm.heap.size,q*7+3,none⟩ (.int .i64 n')).setCell ⟨wm.heap.size,q*7+4,none⟩ (.string t')).setCell ⟨wm.heap.size,q*7+5,none⟩ (.slice la2 l'.length lc2)).setCell ⟨wm.heap.size,q*7+6,none⟩ (.slice oa2 o'.length oc2))):=hN;clear hN hf5 hf4 hb4 hbr hfz hc4 hf4' g3 hv HC Hcell Htk Hqlen b4 c0 c1 c2 c3 c4 c5 c6 d0 d1 d2 d3 d4 d5 d6 n1 n2 n3 n4;go_wp2;go_roundw
        case rel=>exact⟨q+1,by go_num,by omega,HN⟩
        case measure=>simp only[intOf];omega
     . obtain rfl:q=o.length:=by omega
       have hv':=hv.out;rw[List.take_length]at hv';have HD:=Lib.hid (hv'.done (Ig _) o.length);clear hv hv';go_wp2;go_meet;exact⟨_,_,HD⟩
 case rest=>
 obtain⟨aO,cO,hQ⟩:=hcut;obtain⟨⟨z1,z2,z3,z4,z5,z6,z7⟩,hF2⟩:=hQ.out;obtain⟨⟨_,_,_,_,_,k6,k7⟩,hF1⟩:=hP.out;obtain⟨e0,e1,e2,e3,e4,e5⟩:=Ao z4;obtain⟨r0,r1,r2,r3,r4,r5⟩:=Ao z3;have f2:=fun i=>z3.frozen i;have hz:=Lib.hid (And.intro z1 (And.intro z3 (And.intro z5 (And.intro hF1 hF2))));clear z1 z2 z3 z4 z5 hF1 hF2 hP hQ HIHo HO HA1 HS2 hmo;go_wp2;obtain⟨W,hW⟩: ∃W,((((((wc.setCell ⟨w.heap.size+1,0,none⟩ (.int .i64 k)).setCell ⟨w.heap.size+1,1,none⟩ (.bool b)).setCell ⟨w.heap.size+1,2,none⟩ (.int .i64 n)).setCell ⟨w.heap.size+1,3,none⟩ (.string t)).setCell ⟨w.heap.size+1,4,none⟩ (.slice aL l.length cL)).setCell ⟨w.heap.size+1,5,none⟩ (.slice aO o.length cO))=W:=⟨_,rfl⟩;obtain⟨q1,q3,q5,qF1,qF2⟩:=hz.out;have hWh: ∀c,c≠w.heap.size+1->W.heap[c]? =wc.heap[c]? :=by
  intro c hc;rw[<-hW];simp only[D7 _ _ _ _ hc]
 have hWs:W.heap.size=wc.heap.size:=by rw[<-hW];simp[World.setCell]
 have hWb:Below w.heap.size w W:=by
  rw[<-hW];exact(((((q1.setCell (by simp) _).setCell (by simp) _).setCell (by simp) _).setCell (by simp) _).setCell (by simp) _).setCell (by simp) _
 have hWr:An W (w.heap.size+1) 39 #[.int .i64 k,.bool b,.int .i64 n,.string t,.slice aL l.length cL,.slice aO o.length cO]:=by
  rw[<-hW];exact(((((q3.set_ 0 _).set_ 1 _).set_ 2 _).set_ 3 _).set_ 4 _).set_ 5 _
 obtain⟨s0,s1,s2,s3,s4,s5⟩:=Ao hWr;have hFr:Ap w.heap.size W (dV (.mk k b n t l o)) [.int .i64 k,.bool b,.int .i64 n,.string t,.slice aL l.length cL,.slice aO o.length cO]:=by
  have g1:=qF1.keep (b':=w.heap.size) (w':=W) (by omega) (by omega) (fun p p1 p2=>World.cell?_of_block ((hWh _ (by omega)).trans (q5 _ (by omega) p2)));have g2:=qF2.keep (b':=w.heap.size) (w':=W) (by omega) (by omega) (fun p p1 p2=>World.cell?_of_block (hWh _ (by omega)));intro w'' h1 h2;simp only[dV,Ae];exact Ag.six.2 ⟨[.slice aL l.length cL], [.slice aO o.length cO],rfl,rfl,rfl,rfl,rfl,g1 w'' h1 h2,g2 w'' h1 h2⟩
 rw[hW];exact bodyPost_ret (v:=.agg #[.int .i64 k,.bool b,.int .i64 n,.string t,.slice aL l.length cL,.slice aO o.length cO]) (by simp[results,Tryz.results72,go_sem,s0,s1,s2,s3,s4,s5]) rfl ⟨⟨_,rfl,rfl,hFr⟩,hWb⟩
theorem Ky: ∀v,Acn v:=by
 refine Val.ind ?_;intro k b n t l o hl ho cs w hV hb;simp only[Ac]at hV;obtain⟨la,lc,oa,oc,rfl,hla,hoa⟩:=hV;simp only[Val.bulk]at hb;exact Ae2 k b n t l o la oa oc lc w hl ho hla hoa (by omega) (by omega)
theorem Aoi {w:World} {B:Nat}: ∀{o:List (ByteArray×Val)} {ns:List Value},Ag w B (dO o) ns-> ∃d:List Mx,d.map Nt=o/\ns=d.flatMap G3/\ ∀x ∈ d,Ae w B (dP (Nt x)) (G3 x)
 | [],ns,h=>by
   have:ns= []:=h;subst this;exact⟨[],rfl,rfl,fun x hx=>by cases hx⟩
 |(key,v)::r,ns,h=>by
  obtain⟨c1,c2,rfl,h1,h2⟩:=h;obtain⟨d,e1,e2,e3⟩:=Aoi h2;have h1':=h1;obtain⟨_,cv,rfl,⟨rfl,_⟩,c3,c4,rfl,h3,rfl⟩:=h1;obtain⟨k,b,n,t,l,o⟩:=v;have h4:=Bv _ _ h3;simp only[Ac]at h4;obtain⟨la,lc,oa,oc,rfl,_,_⟩:=h4;refine⟨(key,.mk k b n t l o,(la,lc),oa,oc)::d,by simp[Nt,e1],by rw[e2];rfl,fun x hx=> ?_⟩;rcases List.mem_cons.1 hx with rfl|hx
  . simp only[List.append_nil,List.cons_append,List.nil_append]at h1';exact h1'
  . exact e3 x hx
theorem Aoc {w:World} {B:Nat}: ∀{d:List Mx},(∀x ∈ d,Ae w B (dP (Nt x)) (G3 x))->Ag w B (dO (d.map Nt)) (d.flatMap G3)
 | [],_=>rfl
 |x::d,h=>⟨G3 x,d.flatMap G3,rfl,h x (by simp),Aoc fun y hy=>h y (by simp[hy])⟩
theorem T6: ∀(d:List Mx) (i j:Nat),i<d.length->j<7->(d.flatMap G3)[i*7+j]? =some (G3 d[i]!)[j]!
 | [],i,j,hi,_=>by simp at hi
 |x::d,0,j,_,hj=>by
  have hl:=Pr x;rw[List.flatMap_cons,List.getElem?_append_left (by omega),Nat.zero_mul,Nat.zero_add,List.getElem?_eq_getElem (by omega)];simp[hl,hj]
 |x::d,i+1,j,hi,hj=>by
  have hl:=Pr x;rw[List.flatMap_cons,List.getElem?_append_right (by omega),hl,show(i+1)*7+j - 7=i*7+j from by omega,T6 d i j (by simpa using hi) hj];simp
theorem Ajc (d:List Mx):(d.flatMap G3).length=d.length*7:=by
 induction d with
 |nil=>rfl
 |cons x d ih=>rw[List.flatMap_cons,List.length_append,Pr,ih,List.length_cons];omega
theorem Adh {w:World} {g:Nat} {d:List Mx} (h: ∀i,i<d.length-> ∀j,j<7->w.cell? ⟨g,i*7+j,none⟩=some (G3 d[i]!)[j]!): ∀(t:Nat) (u:Value),(d.flatMap G3)[t]? =some u->w.cell? ⟨g,t,none⟩=some u:=by
 intro t u hu;have ht:=(List.getElem?_eq_some_iff.1 hu).1;rw[Ajc]at ht;have e:t=t / 7*7+t % 7:=by omega
 rw[e]at hu ⊢;rw[T6 d _ _ (by omega) (by omega)]at hu;rw[h _ (by omega) _ (by omega)];exact hu
theorem Akf {w:World} {B m s:Nat} {t:TypeId} {v:Value} {ns:List Value} (h:w.ownsRow B t s v m ns):
 ∃a c,v=.slice a m c/\((m=0/\a=none/\c=0)\/ ∃g,a=some ⟨g,0,none⟩/\B<=g/\g<w.heap.size/\m<=c/\(∀(j:Nat) (u:Value),ns[j]? =some u->w.cell? ⟨g,j,none⟩=some u)/\ ∀j,w.frozen? ⟨g,j,none⟩=false):=by
 rcases h.2 with⟨rfl,hz⟩|⟨g,cap,cur,rfl,hbg,hg,hmc,_,_,_⟩
 . subst hz;exact⟨none,0,rfl,.inl ⟨rfl,rfl,rfl⟩⟩
 . refine⟨_,cap,rfl,.inr ⟨g,rfl,hbg,(Array.getElem?_eq_some_iff.1 hg).1,hmc,fun j u hu=> ?_,fun j=>by simp[World.frozen?,hg]⟩⟩;have:=h.cells (g:=g) rfl j u hu
   rwa [En,Nat.zero_add]at this
def Amj (W:World) (a:Option Addr) (d:List Mx) (e:Ending) (w':World):Prop:=e=.returned (.tuple #[])/\ ∃d':List Mx,d'.length=d.length/\d'.Perm d/\(∀i j,i<j->j<d.length->ltM d'[j]! d'[i]! =false)/\
 (d.length=0\/ ∃g,a=some ⟨g,0,none⟩/\g<w'.heap.size/\ ∀i,i<d.length-> ∀j,j<7->w'.cell? ⟨g,i*7+j,none⟩=some (G3 d'[i]!)[j]!)/\
 (∀b,b<W.heap.size->(∀g,a=some ⟨g,0,none⟩->b≠g)->w'.heap[b]? =W.heap[b]?)/\W.heap.size<=w'.heap.size/\w'.os=W.os/\w'.tape=W.tape/\w'.output=W.output
theorem Ahz (a:Option Addr) (c Bs:Nat) (d:List Mx) (hsz:d.length<4611686018427387904) (W:World)
 (h:(d.length=0/\a=none)\/ ∃g,a=some ⟨g,0,none⟩/\g<W.heap.size/\Bs≠g/\(∀i,i<d.length-> ∀j,j<7->W.cell? ⟨g,i*7+j,none⟩=some (G3 d[i]!)[j]!)/\ ∀j,W.frozen? ⟨g,j,none⟩=false)
 (hBs:W.cell? ⟨Bs,0,none⟩=some (.slice a d.length c)) (hB1:Bs<W.heap.size):
 Calls Tryz.prog 70 #[.iface 37 (.slice a d.length c),.func (.func 71) #[] #[.pointer (some ⟨Bs,0,none⟩)]] W (Amj W a d):=by
 by_cases h2:2<=d.length
 . rcases h with⟨h,_⟩|⟨g,rfl,hg,hne,hc,hf⟩
   . omega
   . have hH:Go.Sort.HoldsK G3 7 W g 0 d.toArray:=by
      intro j hj;rw[Go.Sort.size_flatK,List.size_toArray]at hj;rw[Go.Sort.get_flatK _ _ _ _ (by simpa using hj),Nat.zero_add];refine⟨?_,hf _⟩;have:=hc (j / 7) (by omega) (j % 7) (by omega);rw[show j / 7*7+j % 7=j from by omega]at this;rw[this];simp
     have hS:=Aer g c Bs d.toArray (by simpa using h2) (by simpa using hsz) W hH hg (by simpa using hBs) hB1 hne;simp only[List.size_toArray]at hS;refine hS.mono ?_;rintro e w' ⟨rfl,d',s1,s2,s3,s4,s5,s6,s7⟩;simp only[List.size_toArray]at s1 s3 s4;refine⟨rfl,d'.toList,by simpa using s1,by simpa using s2,fun i j h1 h2=> ?_,.inr ⟨g,rfl,by omega,fun i hi j hj=> ?_⟩,fun b hb hne=>s5 b hb (hne g rfl),s6,s7⟩
     . simp only[Array.getElem!_toList];exact s3 i j (Nat.zero_le _) h1 h2
     . simp only[Array.getElem!_toList];exact s4 i hi j hj
 . refine(Ah0 a d.length c Bs (by omega) W).mono ?_;rintro e w' ⟨rfl,hb⟩;refine⟨rfl,d,rfl,List.Perm.refl _,fun i j h1 h3=>by omega, ?_,fun b hb1 _=>hb.block b hb1,hb.size,hb.os,hb.tape,hb.output⟩;rcases h with⟨h,_⟩|⟨g,ea,hg,hne,hc,hf⟩
   . exact .inl h
   . exact .inr ⟨g,ea,by have:=hb.size;omega,fun i hi j hj=>(hb.cell (p:=⟨g,i*7+j,none⟩) hg).trans (hc i hi j hj)⟩
theorem Am4 {d:List Mx} (hs: ∀i j,i<j->j<d.length->ltM d[j]! d[i]! =false) (hn: ∀t,1<=t->t<d.length->(d[t]!).1≠(d[t - 1]!).1):Ej (d.map Nt):=by
 have hadj: ∀t,t+1<d.length->ltM d[t]! d[t+1]! =true:=by
  intro t ht;have h1:=hs t (t+1) (by omega) ht;have h2:=hn (t+1) (by omega) ht;rcases Nj (d[t]!).1 (d[t+1]!).1 with p|p|p
  . exact p
  . exact absurd p.symm h2
  . unfold ltM at h1;rw[h1]at p;cases p
 have hlt: ∀k i,i+k+1<d.length->ltM d[i]! d[i+k+1]! =true:=by
  intro k
  induction k with
  |zero=>intro i hi;exact hadj i hi
  |succ k ih=>intro i hi;exact Fp (ih i (by omega)) (hadj (i+k+1) (by omega))
 unfold Ej;rw[List.pairwise_map,List.pairwise_iff_getElem];intro i j hi hj hij;have:=hlt (j - i - 1) i (by omega);rw[show i+(j - i - 1)+1=j from by omega]at this;simpa[ltM,Nt,hi,hj]using this
theorem Mm {B:Nat} {a w:World} (h:Below B a w) (n:Nat):Below B a (w.drewN n):=⟨h.os,h.tape,h.output,h.size,h.block⟩
theorem Ahc {d:List Mx} {q:Nat} (h1:1<=q) (hq:q<d.length) (e:(d[q]!).1=(d[q - 1]!).1): ¬((d.map Nt).map (·.1)).Nodup:=by
 intro hn;rw[List.map_map]at hn;have h2:=List.pairwise_iff_getElem.1 hn (q - 1) q (by simp;omega) (by simpa using hq) (by omega);simp only[List.getElem_map,Function.comp,Nt]at h2;have hp:q - 1<d.length:=by omega
 apply h2;have e1:d[q]! =d[q]:=by simp[hq]
 have e2:d[q - 1]! =d[q - 1]:=by simp[hp]
 rw[<-e1,<-e2];exact e.symm
def Ain (w:World) (o:List (ByteArray×Val)) (e:Ending) (w':World):Prop:=Below w.heap.size w w'/\
 ((Bg o []=none/\e=.returned (.tuple #[.agg Aj,.int .i64 8]))\/
  ∃o' cs,Bg o []=some o'/\e=.returned (.tuple #[.agg (cs:List Value).toArray,.int .i64 0])/\cs.length=6/\Ap w.heap.size w' (dV (.mk 6 false 0 ⟨#[]⟩ [] o')) cs)
set_option maxRecDepth 100000 in
theorem U0 (o:List (ByteArray×Val)) (a:Option Addr) (n c:Nat) (w:World) (h:Ae w w.heap.size (.row 7 (dO o)) [.slice a n c]) (hb:Al o<=90000000):
 Calls Tryz.prog 46 #[.slice a n c] w (Ain w o):=by
 have hln:=Cg o;have hn:=h.row_len;rw[Ig]at hn;subst hn;obtain⟨w0,hw0⟩: ∃w0,w.alloc (.cells Aj 39)=w0:=⟨_,rfl⟩;have hb0:Below w.heap.size w w0:=hw0▸(Below.refl _ _).alloc (Nat.le_refl _) _;have hx0:An w0 w.heap.size 39 Aj:=by rw[<-hw0];exact An.new _ _ _
 have hs0:w0.heap.size=w.heap.size+1:=by rw[<-hw0];simp
 have hCL:=Z4 o a o.length c w0 (h.later hb0) (by omega);have hs0':w.heap.size<w0.heap.size:=by omega
 obtain⟨hS0,HCL,Hb0,Hx0⟩:=hid4 hs0 hCL hb0 hx0;clear hCL hb0 hx0;clear h hs0;subst hw0;go_enter Tryz.func46,Tryz.ntmps46;go_wp2_with (fail);(with_reducible refine HCL.out.mono ?_);rintro e w1 ⟨V,ns,rfl,hown,hA,hb1⟩;obtain⟨d,hd1,rfl,hd3⟩:=Aoi hA;obtain⟨a1,c1,rfl,hform⟩:=Akf hown;have hdl:d.length=o.length:=by rw[<-hd1,List.length_map]
 have hx1:=Hx0.out.below hb1 Hx0.out.lt;have hs1:=hb1.size;have hb1':=Hb0.out.trans (hb1.mono (Nat.le_of_lt hs0'));obtain⟨Hown,HA,Hd1,Hd3,Hdl,Hform,Hx1,Hb1',Hb1⟩:=hid9 hown hA hd1 hd3 hdl hform hx1 hb1' hb1;clear hown hA hd1 hd3 hdl hform hx1 hb1' hb1;clear Hb0 Hx0;have hbs:Below w1.heap.size w1 (w1.alloc (.cells #[.slice a1 o.length c1] 37)):=(Below.refl _ _).alloc (Nat.le_refl _) _;have hsort:Calls Tryz.prog 70 #[.iface 37 (.slice a1 o.length c1),.func (.func 71) #[] #[.pointer (some ⟨w1.heap.size,0,none⟩)]] (w1.alloc (.cells #[.slice a1 o.length c1] 37)) (Amj (w1.alloc (.cells #[.slice a1 o.length c1] 37)) a1 d):=by
  have hBs:(w1.alloc (.cells #[.slice a1 o.length c1] 37)).cell? ⟨w1.heap.size,0,none⟩=some (.slice a1 d.length c1):=by
   rw[Hdl.out];exact(An.new w1 37 #[.slice a1 o.length c1]).cell 0
  have:=Ahz a1 c1 w1.heap.size d (by have:=Hdl.out;omega) (w1.alloc (.cells #[.slice a1 o.length c1] 37)) ?_ hBs (by simp)
  . rwa [Hdl.out]at this
  . rcases Hform.out with⟨f1,f2,_⟩|⟨g,f1,f2,f3,f4,f5,f6⟩
    . exact .inl ⟨by rw[Hdl.out];exact f1,f2⟩
    . refine .inr ⟨g,f1,by simp;omega,by omega,fun i hi j hj=> ?_,fun j=> ?_⟩
      . rw[hbs.cell (p:=⟨g,i*7+j,none⟩) f3];exact f5 _ _ (T6 d i j hi hj)
      . rw[hbs.frozen (p:=⟨g,j,none⟩) f3];exact f6 j
 obtain⟨Hsort,Hbs⟩:=hid2 hsort hbs;clear hsort hbs;go_wp2_with (fail);(with_reducible refine Hsort.out.mono ?_);rintro e w3 ⟨rfl,d',s1,s2,s3,s4,s5,s6,s7,s8,s9⟩;have hg1: ∀g,a1=some ⟨g,0,none⟩->w.heap.size+1<=g/\g<w1.heap.size:=by
  intro g e;rcases Hform.out with⟨_,f2,_⟩|⟨g',f1,f2,f3,_⟩
  . rw[f2]at e;cases e
  . rw[f1]at e;simp only[Option.some.injEq,Addr.mk.injEq,and_true]at e;have:=hS0.out;omega
 have q1:w3.cell? ⟨w1.heap.size,0,none⟩=some (.slice a1 o.length c1):=by
  rw[World.cell?_of_block (s5 w1.heap.size (by simp) (fun g e=>by have:=hg1 g e;omega))];exact(An.new w1 37 #[.slice a1 o.length c1]).cell 0
 have hw1s:w.heap.size+1<=w1.heap.size:=by have:=hS0.out;omega
 have q2:An w3 w.heap.size 39 Aj:=by
  have h1:=s5 w.heap.size (by simp;omega) (fun g e=>by have:=hg1 g e;omega);exact h1.trans (Hx1.out.below Hbs.out (by omega))
 have q4:Below (w.alloc (.cells Aj 39)).heap.size (w.alloc (.cells Aj 39)) w3:=by
  have h0:=Hb1.out;have hs:=hS0.out;refine⟨s7.trans h0.os,s8.trans h0.tape,s9.trans h0.output,by simp at s6;omega,fun i hi=> ?_⟩;rw[s5 i (by simp;omega) (fun g e=>by have:=hg1 g e;omega),Hbs.out.block i (by omega)];exact h0.block i hi
 have q3:Below w.heap.size w w3:=by
  have h0:=Hb1'.out;refine⟨s7.trans h0.os,s8.trans h0.tape,s9.trans h0.output,by simp at s6;omega,fun i hi=> ?_⟩;rw[s5 i (by simp;omega) (fun g e=>by have:=hg1 g e;omega),Hbs.out.block i (by omega)];exact h0.block i hi
 rw[Hdl.out]at s1 s3 s4;have hsz3:w1.heap.size+1<=w3.heap.size:=by simpa using s6
 have hol:o.length<9000000000:=by omega
 have H0:Hid (∀t,1<=t->t<1->(d'[t]!).1≠(d'[t - 1]!).1):=fun t h1 h2=>absurd h2 (by omega);obtain⟨S1,S2,S3,S4,Q2,Q3,Q4⟩:=hid7 s1 s2 s3 s4 q2 q3 q4;clear s1 s2 s3 s4 q2 q3 q4;clear s5 s6 s7 s8 s9 Hsort hg1;go_wp2_with (fail);go_loopw [5] (fun i wx=> ∃q m:Nat,i=.int .i64 q/\1<=q/\(q<=o.length\/q=1)/\Hid (∀t,1<=t->t<q->(d'[t]!).1≠(d'[t - 1]!).1)/\wx=w3.drewN m) (fun i _=>o.length - (intOf i).toNat)
 case atStart=>exact⟨1,0,rfl,Nat.le_refl _,.inr rfl,H0,rfl⟩
 case round=>
  obtain⟨q,m,rfl,hq1,hq2,hne,rfl⟩:=hrel;clear H0;by_cases hlt:q<o.length
  . obtain⟨g,rfl,hg,hc⟩:=S4.out.resolve_left (by omega);have cq:w3.cell? ⟨g,q*7,none⟩=some (.string (d'[q]!).1):=by
     have:=hc q hlt 0 (by omega)
     rwa [Nat.add_zero,Tz]at this
    have cp:w3.cell? ⟨g,(q - 1)*7,none⟩=some (.string (d'[q - 1]!).1):=by
     have:=hc (q - 1) (by omega) 0 (by omega)
     rwa [Nat.add_zero,Tz]at this
    obtain⟨K,hK⟩: ∃K,(d'[q]!).1=K:=⟨_,rfl⟩;obtain⟨L,hL⟩: ∃L,(d'[q - 1]!).1=L:=⟨_,rfl⟩;rw[hK]at cq;rw[hL]at cp;obtain⟨HK,HL⟩:=hid2 hK hL;clear hK hL;clear hc;have x1:IntKind.i64.wrap ((q:Int) - 1)=(q:Int) - 1:=IntWalk.i64_in _ (by omega);have y1:(1:Int)<=(q:Int):=by omega
    have y2:(q:Int)<(o.length:Int):=by omega
    have y3:(q:Int)<(o.length:Int)+1:=by omega
    have y4:q<o.length+1:=by omega
    have y5:(q:Int) - 1<(o.length:Int):=by omega
    have y6:0<=(q:Int) - 1:=by omega
    have x2:((q:Int) - 1).toNat=q - 1:=by omega
    by_cases hkl:K.toList=L.toList
    . have hb1:(K.toList==L.toList)=true:=by simpa using hkl
      have Hkl:=Lib.hid hkl;clear hkl;go_wp2_with (fail);go_quiet (fail);clear x1 x2;obtain⟨z0,z1,z2,z3,z4,z5⟩:=Ao Q2.out;have zf:=fun i=>Q2.out.frozen i;go_wp2;refine bodyPost_ret (v:=.tuple #[.agg Aj,.int .i64 8]) (by simp[results,Tryz.results46,go_sem,z0,z1,z2,z3,z4,z5]) rfl ⟨?_,.inl ⟨?_,rfl⟩⟩
      . repeat (refine Below.setCell ?_ (by simp) _)
        first|exact Mm Q3.out _|exact Mm (Mm Q3.out _) _
      . have hpm:=(S2.out.map Nt).trans (by rw[Hd1.out]);exact Yn hpm (Ahc hq1 (by rw[S1.out];exact hlt) (by rw[HK.out,HL.out];exact toList_inj Hkl.out))
    . have hb1:(K.toList==L.toList)=false:=by simpa using hkl
      have Hkl:=Lib.hid hkl;clear hkl;go_wp2_with (fail);go_quiet (fail);clear x1 x2;have Hne:Hid (∀t,1<=t->t<q+1->(d'[t]!).1≠(d'[t - 1]!).1):=by
       intro t h1 h2;by_cases ht:t=q
       . subst ht;rw[HK.out,HL.out];intro e;exact Hkl.out (by rw[e])
       . exact hne.out t h1 (by omega)
      clear hne;go_wp2;go_roundw
      case rel=>exact⟨q+1,_,by go_num,by omega,.inl (by omega),Hne,by first|rfl|exact World.drewN_drewN _ _ _⟩
      case measure=>simp only[intOf];omega
  . have hasc:Ej (d'.map Nt):=Am4 (fun i j h1 h2=>S3.out i j h1 (by have:=S1.out;omega)) (fun t h1 h2=>hne.out t h1 (by have:=S1.out;omega));have hpm:(d'.map Nt).Perm o:=(S2.out.map Nt).trans (by rw[Hd1.out]);have hall:=Vf hpm hasc;have hlen:(d'.map Nt).length=o.length:=by rw[List.length_map,S1.out]
    have hbk:=Ku hall;simp only[Al,Nat.zero_add]at hbk;have hWd:Below (w.alloc (.cells Aj 39)).heap.size (w.alloc (.cells Aj 39)) (w3.drewN m):=Mm Q4.out m;have hV:Ac (w3.drewN m) (w3.drewN m).heap.size (.mk 6 false 0 ⟨#[]⟩ [] (d'.map Nt)) [.int .i64 6,.bool false,.int .i64 0,.string ⟨#[]⟩,.slice none 0 0,.slice a1 o.length c1]:=by
     simp only[Ac];refine⟨none,0,a1,c1,by rw[hlen];rfl,.inl trivial, ?_⟩;rcases S4.out with h0|⟨g,rfl,hg,hc⟩
     . exact .inl (List.eq_nil_of_length_eq_zero (by rw[hlen];exact h0))
     . refine .inr ⟨g,0,rfl,hg,Ag.toO (fun m _=>Bv m.2) (Aoc (d:=d') (fun x hx=> ?_)) (fun j u hj=> ?_)⟩
       . exact((Hd3.out x (S2.out.mem_iff.1 hx)).below hWd).more hWd.size
       . rw[Nat.zero_add];exact Adh (w:=w3) (fun i hi j hj=>hc i (by have:=S1.out;omega) j hj) j u hj
    have hCP:=Ky _ _ _ hV (by simp only[Val.bulk,Bc,ByteArray.size];rw[hbk];simp;omega);have hsz4:w.heap.size<w3.heap.size:=Q2.out.lt;obtain⟨z0,z1,z2,z3,z4,z5⟩:=Ao Q2.out;have zf:=fun i=>Q2.out.frozen i;obtain⟨O,hO⟩: ∃O,d'.map Nt=O:=⟨_,rfl⟩;rw[hO]at hCP hall;obtain⟨HCP,Hall,Hsz4⟩:=hid3 hCP hall hsz4;clear hCP hall hsz4;clear hne hasc hpm hlen hbk hWd hV hO;go_wp2_with (fail);(with_reducible refine HCP.out.mono ?_);rintro e w4 ⟨⟨cs,rfl,hl4,hf4⟩,hb4⟩;obtain⟨la2,lc2,oa2,oc2,rfl⟩:=Ct hf4;obtain⟨hc4,hz4⟩:=Acs hb4;have hg4:w.heap.size<w3.heap.size:=Hsz4.out;have HB4:Hid (Below w.heap.size w w4):=(Mm Q3.out m).trans (hb4.mono Q3.out.size);have HSz4:Hid (w3.heap.size<=w4.heap.size):=hb4.size;have k0:w4.cell? ⟨w.heap.size,0,none⟩=some (.int .i64 0):=(hc4 w.heap.size 0 hg4).trans z0;have k1:w4.cell? ⟨w.heap.size,1,none⟩=some (.bool false):=(hc4 w.heap.size 1 hg4).trans z1;have k2:w4.cell? ⟨w.heap.size,2,none⟩=some (.int .i64 0):=(hc4 w.heap.size 2 hg4).trans z2;have k3:w4.cell? ⟨w.heap.size,3,none⟩=some (.string ⟨#[]⟩):=(hc4 w.heap.size 3 hg4).trans z3;have k4:w4.cell? ⟨w.heap.size,4,none⟩=some (.slice none 0 0):=(hc4 w.heap.size 4 hg4).trans z4;have k5:w4.cell? ⟨w.heap.size,5,none⟩=some (.slice none 0 0):=(hc4 w.heap.size 5 hg4).trans z5;have kf: ∀i,w4.frozen? ⟨w.heap.size,i,none⟩=false:=fun i=>(hz4 w.heap.size i hg4).trans (zf i);have hblk:w4.heap[w.heap.size]? =some (.cells Aj 39 (0,0)):=(hb4.block _ hg4).trans Q2.out;obtain⟨Hf4,Hblk⟩:=hid2 hf4 hblk;clear hf4 hblk;clear hb4 hc4 hz4 hl4 z0 z1 z2 z3 z4 z5 zf;go_wp2;obtain⟨W,hW⟩: ∃W,((((((w4.setCell ⟨w.heap.size,0,none⟩ (.int .i64 6)).setCell ⟨w.heap.size,1,none⟩ (.bool false)).setCell ⟨w.heap.size,2,none⟩ (.int .i64 0)).setCell ⟨w.heap.size,3,none⟩ (.string ⟨#[]⟩)).setCell ⟨w.heap.size,4,none⟩ (.slice la2 0 lc2)).setCell ⟨w.heap.size,5,none⟩ (.slice oa2 O.length oc2))=W:=⟨_,rfl⟩;have hWh: ∀c,c≠w.heap.size->W.heap[c]? =w4.heap[c]? :=by
     intro c hc;rw[<-hW];simp only[D7 _ _ _ _ hc]
    have hWs:W.heap.size=w4.heap.size:=by rw[<-hW];simp[World.setCell]
    have hWb:Below w.heap.size w W:=by
     rw[<-hW];exact(((((HB4.out.setCell (by simp) _).setCell (by simp) _).setCell (by simp) _).setCell (by simp) _).setCell (by simp) _).setCell (by simp) _
    have hWr:An W w.heap.size 39 #[.int .i64 6,.bool false,.int .i64 0,.string ⟨#[]⟩,.slice la2 0 lc2,.slice oa2 O.length oc2]:=by
     have q3:An w4 w.heap.size 39 Aj:=Hblk.out;rw[<-hW];exact(((((q3.set_ 0 _).set_ 1 _).set_ 2 _).set_ 3 _).set_ 4 _).set_ 5 _
    obtain⟨s0,s1,s2,s3,s4,s5⟩:=Ao hWr;have hFr:Ap w.heap.size W (dV (.mk 6 false 0 ⟨#[]⟩ [] O)) [.int .i64 6,.bool false,.int .i64 0,.string ⟨#[]⟩,.slice la2 0 lc2,.slice oa2 O.length oc2]:=
     Hf4.out.keep (by show w.heap.size<=w3.heap.size;omega) (by omega) (fun p p1 p2=>World.cell?_of_block (hWh _ (by have p1':w3.heap.size<=p.block:=p1;omega)))
    rw[hW];exact bodyPost_ret (v:=.tuple #[.agg #[.int .i64 6,.bool false,.int .i64 0,.string ⟨#[]⟩,.slice la2 0 lc2,.slice oa2 O.length oc2],.int .i64 0]) (by simp[results,Tryz.results46,go_sem,s0,s1,s2,s3,s4,s5]) rfl ⟨hWb,.inr ⟨O,_,Hall.out,rfl,rfl,hFr⟩⟩
theorem Ws (w:World) (B:Nat) (key s:ByteArray):Ae w B (dP (key,tv s)) [.string key,.int .i64 4,.bool false,.int .i64 0,.string s,.slice none 0 0,.slice none 0 0]:=by
 have h1:Ac w B (tv s) [.int .i64 4,.bool false,.int .i64 0,.string s,.slice none 0 0,.slice none 0 0]:=by
  simp only[tv,Ac];exact⟨none,0,none,0,rfl,by simp,by simp⟩
 exact⟨[.string key],_,rfl,⟨rfl,rfl⟩,_, [],by simp,Ik _ _ h1,rfl⟩
theorem J1 (w:World) (B:Nat) (key:ByteArray) (n:Int):Ae w B (dP (key,iv n)) [.string key,.int .i64 3,.bool false,.int .i64 n,.string ⟨#[]⟩,.slice none 0 0,.slice none 0 0]:=by
 have h1:Ac w B (iv n) [.int .i64 3,.bool false,.int .i64 n,.string ⟨#[]⟩,.slice none 0 0,.slice none 0 0]:=by
  simp only[iv,Ac];exact⟨none,0,none,0,rfl,by simp,by simp⟩
 exact⟨[.string key],_,rfl,⟨rfl,rfl⟩,_, [],by simp,Ik _ _ h1,rfl⟩
def Mi (o:List (ByteArray×Val)) (w:World) (e:Ending) (w':World):Prop:=Below w.heap.size w w'/\
 ∃la lc oa oc,e=.returned (.agg #[.int .i64 6,.bool false,.int .i64 0,.string ⟨#[]⟩,.slice la 0 lc,.slice oa o.length oc])/\Ap w.heap.size w' (dV (ov o)) [.int .i64 6,.bool false,.int .i64 0,.string ⟨#[]⟩,.slice la 0 lc,.slice oa o.length oc]
theorem Zm (o o':List (ByteArray×Val)) (a:Option Addr) (n c:Nat) (w:World) (h:Ae w w.heap.size (.row 7 (dO o)) [.slice a n c]) (hb:Al o<=90000000) (ho:Bg o []=some o'):
 Calls Tryz.prog 46 #[.slice a n c] w fun e w'=>Below w.heap.size w w'/\ ∃la lc oa oc,e=.returned (.tuple #[.agg #[.int .i64 6,.bool false,.int .i64 0,.string ⟨#[]⟩,.slice la 0 lc,.slice oa o'.length oc],.int .i64 0])/\Ap w.heap.size w' (dV (ov o')) [.int .i64 6,.bool false,.int .i64 0,.string ⟨#[]⟩,.slice la 0 lc,.slice oa o'.length oc]:=by
 refine(U0 o a n c w h hb).mono ?_;rintro e w' ⟨hb',⟨hn,_⟩|⟨o2,cs,h2,rfl,hl,hf⟩⟩
 . rw[ho]at hn;cases hn
 . rw[ho]at h2
   cases h2
   have hv:=Bv (.mk 6 false 0 ⟨#[]⟩ [] o') _ hf.now;simp only[Ac]at hv;obtain⟨la,lc,oa,oc,rfl,_,_⟩:=hv;exact⟨hb',la,lc,oa,oc,rfl,hf⟩
theorem Yc {B R b':Nat} {w0 w2:World} {o:Obj} {d:D} {cs:List Value} (vs:List Value) (hb:Below B w0 w2) (hBw:B<=w2.heap.size) (hR:B<=R) (hRb:R<b') (hf:Ap b' w2 d cs):
 Below B w0 ((A1 w2 R 0 vs).alloc o)/\Ap B ((A1 w2 R 0 vs).alloc o) d cs:=by
 have h1:=Ak vs hb hR (o:=0);refine⟨h1.alloc (by rw[Ba];exact hBw) _, ?_⟩;have h2:Ap B (A1 w2 R 0 vs) d cs:=hf.keep (by omega) (by rw[Ba];exact Nat.le_refl _) fun p p1 p2=>World.cell?_of_block (Aw vs _ _ _ _ (by omega));exact h2.later (Aa _ _)
theorem Akp {w w1:World} {o o':Obj} (h:Below ((w.alloc o).alloc o').heap.size ((w.alloc o).alloc o') w1):w.heap.size<w1.heap.size/\w.heap.size+1<w1.heap.size:=by
 have:=h.size;simp at this;omega
theorem Y4 {w w1 w2:World} {o o':Obj} (hb1:Below ((w.alloc o).alloc (.cells Aj 39)).heap.size ((w.alloc o).alloc (.cells Aj 39)) w1) (hb2:Below (w1.alloc o').heap.size (w1.alloc o') w2):An w2 (w.heap.size+1) 39 Aj:=by
 have h0:An ((w.alloc o).alloc (.cells Aj 39)) (w.heap.size+1) 39 Aj:=by
  have:=An.new (w.alloc o) 39 Aj
  rwa [World.size_alloc]at this
 have h1:=(h0.below hb1 h0.lt).alloc o';exact h1.below hb2 h1.lt
theorem Ad4 (W:World) (s:ByteArray):C7 W.heap.size 63 7 (W.alloc (.cells #[.string Cn,.int .i64 4,.bool false,.int .i64 0,.string s,.slice none 0 0,.slice none 0 0] 63)) (dO [(Cn,tv s)]) (.slice (some ⟨W.heap.size,0,none⟩) 1 1):=
 C7.lit (Nat.le_refl _) rfl (fun w'' B=>Ws w'' B Cn s)
theorem Wq (b:Nat) (w:World) (key s:ByteArray):Ap b w (dP (key,tv s)) [.string key,.int .i64 4,.bool false,.int .i64 0,.string s,.slice none 0 0,.slice none 0 0]:=fun _ _ _=>Ws _ _ _ _
theorem V5 (w:World) (o o':Obj):Below w.heap.size w ((w.alloc o).alloc o'):=((Below.refl w.heap.size w).alloc (Nat.le_refl _) _).alloc (by simp) _
theorem Ajd {b:Nat} {w:World} {vs:List Val} {a:Option Addr} {n c:Nat} (h:Ap b w (.row 6 (dL vs)) [.slice a n c]):Ap b w (dV (lv vs)) [.int .i64 5,.bool false,.int .i64 0,.string ⟨#[]⟩,.slice a n c,.slice none 0 0]:=fun w'' h1 h2=>by
 simp only[lv,dV,Ae];exact Ag.six.2 ⟨[.slice a n c], [.slice none 0 0],rfl,rfl,rfl,rfl,rfl,h w'' h1 h2,⟨none,0,rfl,by simp[dO], [],rfl,by simp[dO]⟩⟩
theorem Ww (k:ByteArray): ∀q,(none:Option ByteArray)=some q->U3 k q=false:=fun _ e=>by cases e
theorem Li {k p:ByteArray} (h:U3 k p=false): ∀q,some p=some q->U3 k q=false:=fun _ e=>by cases e;exact h
theorem Wt {n:Int} (h0:0<=n) (h1:n<=4611686018427387903):Ga (iv n):=by
 simp only[iv,Ga,Oq,Jj];exact⟨by omega,trivial,trivial⟩
theorem Aff (n:Int):(iv n).bulk=6:=rfl
theorem Qs {w:World} {g:Nat} {t:TypeId} {cs:Array Value} {l:List D} {s n c:Nat} (h:An w g t cs) (hs: ∀d ∈ l,d.cells=s) (hA:Ag w w.heap.size l cs.toList) (hn:n=l.length):Ae w w.heap.size (.row s l) [.slice (some ⟨g,0,none⟩) n c]:=by
 subst hn;exact⟨_,c,rfl,hs,cs.toList,hA,.inr ⟨g,0,rfl,h.lt,fun j u hu=>by rw[Nat.zero_add];exact(h.cell j).trans (by rw[<-Array.getElem?_toList];exact hu)⟩⟩
theorem Ais {S0:Nat->Prop} {w w6:World} {R b:Nat} {t e:TypeId} {sz:Nat} {l:List D} {V:Value} {cs:Array Value} {wr:World} (h:An w R t cs) (hg:w.grownBy w6 V.ownBlock) (hr:H8 S0 b e sz wr l V) (hR:R<b\/wr.heap.size<=R):An w6 R t cs:=
 h.grown hg fun e=>by have:=hr.base R e.symm;omega
theorem Acx {S0:Nat->Prop} {w w6:World} {B b:Nat} {e:TypeId} {sz:Nat} {l:List D} {V:Value} {w0 wr:World} (h:Below B w0 w) (hg:w.grownBy w6 V.ownBlock) (hr:H8 S0 b e sz wr l V) (hB:B<=b) (hBw:B<=w.heap.size):Below B w0 w6:=
 h.grown hg hBw fun k hk=>Nat.le_trans hB (hr.base k hk).1
end Go.Proofs.YtackmnbpfbaemaaGreatDoor
