/- Parts: node.copies: entries in new memory, a row of the call's own. Condition: a bulk of at most 10^8. -/
import Derived.Deep.DeepCutAuto
import Derived.Laws.MakeOwn
import Derived.Test.YtkmcjfkokoidcaaGreatDoorKFb10
import Derived.Test.YtkmcjfkokoidcaaGreatDoorKFb11
set_option maxHeartbeats 20000000
set_option maxRecDepth 100000
namespace Go.Proofs.YtkmcjfkokoidcaaGreatDoor
open Go.RowKit
def Hs (w:World) (v:Val) (e:Ending) (w':World):Prop:=(∃cs',e=.returned (.agg (cs':List Value).toArray)/\cs'.length=6/\Br w.heap.size w' (dV v) cs')/\Below w.heap.size w w'
def Y5 (v:Val):Prop:= ∀(cs:List Value) (w:World),Ac w w.heap.size v cs->v.bulk<=100000000->Calls Tryz.prog 117 #[.agg cs.toArray] w (Hs w v)
theorem I5 {P:Program} (t e:TypeId) (i:TypeInfo) (z:Value) (ht:P.underlying t=some (.slice e)) (hi:P.info? e=some i) (hz:i.zero=some z)
 (n:Nat) (hbytes:i.bytes*n<=281474976710656) (h63:n<=9223372036854775807) (w:World):
 (Instr.makeSlice t (.int .i64 (n:Int)) (.int .i64 (n:Int))).run P w=.ok (.slice (some ⟨w.heap.size,0,none⟩) n n) (w.alloc (.cells (madeCells z.cells (n*i.size)) e)):=by
 have hb:(i.bytes:Int)*(n:Int)<=281474976710656:=by
  have h:((i.bytes*n:Nat):Int)<=281474976710656:=by omega
  rwa [Int.natCast_mul]at h
 have hr:=run_make (P:=P) w t e i z ht hi hz .i64 .i64 n n (by omega) (by omega) hb (by omega);simp only[Int.toNat_natCast]at hr;exact hr
def VA (w wx:World) (b1 z b3:Array Value) (wr:World):Prop:=
 Below w.heap.size w wr/\Aj wr w.heap.size 37 b1/\Aj wr (w.heap.size+1) 37 z/\Aj wr (w.heap.size+2) 37 b3/\(∀c,w.heap.size+3<=c->c<wx.heap.size->wr.heap[c]? =wx.heap[c]?)/\wx.heap.size<=wr.heap.size/\w.heap.size+3<=wx.heap.size
def Ki (w wx:World) (b1 z b3:Array Value) (g s N:Nat) (t:TypeId) (l:List D) (wr:World):Prop:=VA w wx b1 z b3 wr/\D9 wx.heap.size g t s N wr l
def VP (w wx:World) (b1 z b3:Array Value) (l:List D) (s:Nat) (V:Value) (wr:World):Prop:=VA w wx b1 z b3 wr/\Br wx.heap.size wr (.row s l) [V]
theorem VP.nil {w wx wr:World} {b1 z b3:Array Value} (s:Nat) (h:VA w wx b1 z b3 wr) (a:Option Addr) (c:Nat):VP w wx b1 z b3 [] s (.slice a 0 c) wr:=
 ⟨h,fun _ _ _=>⟨a,c,rfl,fun d hd=>(by cases hd), [],rfl,.inl rfl⟩⟩
theorem Ki.step {w wx:World} {b1 z b3:Array Value} {g s N:Nat} {t:TypeId} {l:List D} {wr w4:World} {d:D} {cs:List Value} (h:Ki w wx b1 z b3 g s N t l wr) (h4:Below wr.heap.size wr w4) (hx:Br wr.heap.size w4 d cs) (hl:l.length<N) (hd:d.cells=s):
 Ki w wx b1 z b3 g s N t (l++ [d]) (An w4 g (l.length*s) cs):=by
 obtain⟨⟨hb,x1,x2,x3,hk,hs,hw⟩,hf⟩:=h;have hg:=hf.1;have hs4:=h4.size;have hbl: ∀{i:Nat} {c:Array Value},i<w.heap.size+3->Aj wr i 37 c->Aj (An w4 g (l.length*s) cs) i 37 c:=fun hi hB=>(Ar cs w4 g _ _ (by omega)).trans (hB.below h4 hB.lt);exact⟨⟨Bq cs (hb.trans (h4.mono hb.size)) (by omega),hbl (by omega) x1,hbl (by omega) x2,hbl (by omega) x3,fun c h1 h2=>(Ar cs w4 g _ _ (by omega)).trans ((h4.block c (by omega)).trans (hk c h1 h2)),by rw[Bb];omega,hw⟩,hf.step hl hd hx h4⟩
theorem Ki.done {w wx:World} {b1 z b3:Array Value} {g s N:Nat} {t:TypeId} {l:List D} {wr:World} (h:Ki w wx b1 z b3 g s N t l wr) (hN:l.length=N) (c:Nat):VP w wx b1 z b3 l s (.slice (some ⟨g,0,none⟩) N c) wr:=by
 subst hN;exact⟨h.1,h.2.close c⟩
theorem Y8 {W w1:World} (hb:Below W.heap.size W w1):(∀b o,b<W.heap.size->w1.cell? ⟨b,o,none⟩=W.cell? ⟨b,o,none⟩)/\(∀b o,b<W.heap.size->w1.frozen? ⟨b,o,none⟩=W.frozen? ⟨b,o,none⟩):=
 ⟨fun b o h=>hb.cell (p:=⟨b,o,none⟩) h,fun b o h=>hb.frozen (p:=⟨b,o,none⟩) h⟩
theorem Aaq (k:Int) (b:Bool) (n:Int) (t:ByteArray) (l:List Val) (o:List (ByteArray×Val)) (la oa:Option Addr) (oc lc:Nat) (w:World) (IH: ∀v ∈ l,Y5 v) (IHo: ∀m ∈ o,Y5 m.2)
 (hl:l= []\/ ∃g off,la=some ⟨g,off,none⟩/\g<w.heap.size/\Ao w w.heap.size l g off) (ho:o= []\/ ∃g off,oa=some ⟨g,off,none⟩/\g<w.heap.size/\Ak w w.heap.size o g off) (hbl:Bg l<=100000000) (hbo:Ae o<=100000000):
 Calls Tryz.prog 117 #[.agg #[.int .i64 k,.bool b,.int .i64 n,.string t,.slice la l.length lc,.slice oa o.length oc]] w (Hs w (.mk k b n t l o)):=by
 have hln:=Dr l;have hon:=Ba o;obtain⟨i0,hi,hz0,hz1,hz2⟩:=info_parts Nh;obtain⟨j0,hj,hy0,hy1,hy2⟩:=info_parts Rm;have hmk:=fun W=>I5 (P:=Tryz.prog) 34 37 i0 _ Tryz.underlying34 hi hz0 l.length (by rw[hz2];omega) (by omega) W;have hmo:=fun W=>I5 (P:=Tryz.prog) 35 94 j0 _ Tryz.underlying35 hj hy0 o.length (by rw[hy2];omega) (by omega) W;rw[hz1]at hmk;rw[hy1]at hmo;obtain⟨M1,hM1⟩: ∃M,madeCells (Value.cells (.agg #[.int .i64 0,.bool false,.int .i64 0,.string ⟨#[]⟩,.slice none 0 0,.slice none 0 0])) (l.length*6)=M:=⟨_,rfl⟩;obtain⟨M2,hM2⟩: ∃M,madeCells (Value.cells (.agg #[.string ⟨#[]⟩,.int .i64 0,.bool false,.int .i64 0,.string ⟨#[]⟩,.slice none 0 0,.slice none 0 0])) (o.length*7)=M:=⟨_,rfl⟩;simp only[hM1]at hmk;simp only[hM2]at hmo;have HS1:=qz (show M1.size=l.length*6 from by rw[<-hM1,size_madeCells]);have HS2:=qz (show M2.size=o.length*7 from by rw[<-hM2,size_madeCells]);obtain⟨HIH,HIHo,HL,HO⟩:=hid4 IH IHo hl ho;clear IH IHo hl ho hM1 hM2 hi hz0 hz1 hz2 hj hy0 hy1 hy2;go_enter Tryz.func117,Tryz.ntmps117;go_upto_if 14 with(fail);obtain⟨w0,hw0⟩: ∃w0,((w.alloc (.cells #[.int .i64 k,.bool b,.int .i64 n,.string t,.slice la l.length lc,.slice oa o.length oc] 37)).alloc (.cells #[.int .i64 0,.bool false,.int .i64 0,.string ⟨#[]⟩,.slice none 0 0,.slice none 0 0] 37)).alloc (.cells #[.int .i64 k,.bool b,.int .i64 n,.string t,.slice none 0 0,.slice none 0 0] 37)=w0:=⟨_,rfl⟩;have hA0:VA w w0 #[.int .i64 k,.bool b,.int .i64 n,.string t,.slice la l.length lc,.slice oa o.length oc] #[.int .i64 0,.bool false,.int .i64 0,.string ⟨#[]⟩,.slice none 0 0,.slice none 0 0] #[.int .i64 k,.bool b,.int .i64 n,.string t,.slice none 0 0,.slice none 0 0] w0:=by
  rw[<-hw0];refine⟨(((Below.refl _ _).alloc (Nat.le_refl _) _).alloc (by simp) _).alloc (by simp;omega) _,((Aj.new w 37 #[.int .i64 k,.bool b,.int .i64 n,.string t,.slice la l.length lc,.slice oa o.length oc]).alloc (.cells #[.int .i64 0,.bool false,.int .i64 0,.string ⟨#[]⟩,.slice none 0 0,.slice none 0 0] 37)).alloc (.cells #[.int .i64 k,.bool b,.int .i64 n,.string t,.slice none 0 0,.slice none 0 0] 37), ?_, ?_,fun _ _ _=>rfl,Nat.le_refl _,by simp⟩
  . have:=(Aj.new (w.alloc (.cells #[.int .i64 k,.bool b,.int .i64 n,.string t,.slice la l.length lc,.slice oa o.length oc] 37)) 37 #[.int .i64 0,.bool false,.int .i64 0,.string ⟨#[]⟩,.slice none 0 0,.slice none 0 0]).alloc (.cells #[.int .i64 k,.bool b,.int .i64 n,.string t,.slice none 0 0,.slice none 0 0] 37);simpa using this
  . have:=Aj.new ((w.alloc (.cells #[.int .i64 k,.bool b,.int .i64 n,.string t,.slice la l.length lc,.slice oa o.length oc] 37)).alloc (.cells #[.int .i64 0,.bool false,.int .i64 0,.string ⟨#[]⟩,.slice none 0 0,.slice none 0 0] 37)) 37 #[.int .i64 k,.bool b,.int .i64 n,.string t,.slice none 0 0,.slice none 0 0];simpa using this
 rw[hw0];clear hw0;have hsl:w.heap.size+3<=w0.heap.size:=hA0.2.2.2.2.2.2;have HA0:=qz hA0;clear hA0;go_cut [] (fun wx=> ∃a c,Hid (VP w w0 #[.int .i64 k,.bool b,.int .i64 n,.string t,.slice la l.length lc,.slice oa o.length oc] #[.int .i64 0,.bool false,.int .i64 0,.string ⟨#[]⟩,.slice none 0 0,.slice none 0 0] #[.int .i64 k,.bool b,.int .i64 n,.string t,.slice a l.length c,.slice none 0 0] (dL l) 6 (.slice a l.length c) wx))
 case first=>
  by_cases h0:l= []
  . subst h0;go_wp2;go_meet;exact⟨none,0,VP.nil 6 HA0.out none 0⟩
  . have hpos:0<l.length:=List.length_pos_iff.2 h0;obtain⟨_,y1,y2,y3,_⟩:=HA0.out;obtain⟨b0,b1,b2,b3,b4,b5⟩:=Az y1;obtain⟨e0,e1,e2,e3,e4,e5⟩:=Az y3;have f3:=y3.frozen 4;have g0:w.heap.size<w0.heap.size:=by omega
    have g2:w.heap.size+2<w0.heap.size:=by omega
    obtain⟨Y1,Y2,Y3⟩:=hid3 y1 y2 y3;clear y1 y2 y3;go_wp2_with (fail);obtain⟨w1,hw1⟩: ∃w1,(w0.setCell ⟨w.heap.size+1+1,4,none⟩ (.slice (some ⟨w0.heap.size,0,none⟩) l.length l.length)).alloc (.cells M1 37)=w1:=⟨_,rfl⟩;have hV:Ki w w0 #[.int .i64 k,.bool b,.int .i64 n,.string t,.slice la l.length lc,.slice oa o.length oc] #[.int .i64 0,.bool false,.int .i64 0,.string ⟨#[]⟩,.slice none 0 0,.slice none 0 0] #[.int .i64 k,.bool b,.int .i64 n,.string t,.slice (some ⟨w0.heap.size,0,none⟩) l.length l.length,.slice none 0 0] w0.heap.size 6 l.length 37 (dL (l.take 0)) w1:=by
     rw[<-hw1];obtain⟨z1,z2,z3,z4,z5,z6,z7⟩:=HA0.out;refine⟨⟨(z1.setCell (by simp;omega) _).alloc (by simp;omega) _,(z2.far (by simp;omega) _).alloc _,(z3.far (by simp) _).alloc _,(z4.set_ 4 _).alloc _,fun c h1 h2=> ?_,by simp,z7⟩,D9.start (Nat.le_refl _) ?_ HS1.out⟩
     . rw[Lib.alloc_old _ _ _ (by simp;omega),Dy _ _ _ _ (by omega)]
     . have:=heap_alloc_new (w0.setCell ⟨w.heap.size+1+1,4,none⟩ (.slice (some ⟨w0.heap.size,0,none⟩) l.length l.length)) (.cells M1 37);simpa using this
    have HV:=qz hV;rw[hw1];clear hw1 hV b0 b1 b2 b3 b4 b5 e0 e1 e2 e3 e4 e5 f3 HA0 Y1 Y2 Y3 HS1 HS2 hmk hmo;go_loopw [23] (fun i wr=> ∃q:Nat,i=.int .i64 q/\q<=l.length/\Hid (Ki w w0 #[.int .i64 k,.bool b,.int .i64 n,.string t,.slice la l.length lc,.slice oa o.length oc] #[.int .i64 0,.bool false,.int .i64 0,.string ⟨#[]⟩,.slice none 0 0,.slice none 0 0] #[.int .i64 k,.bool b,.int .i64 n,.string t,.slice (some ⟨w0.heap.size,0,none⟩) l.length l.length,.slice none 0 0] w0.heap.size 6 l.length 37 (dL (l.take q)) wr)) (fun i _=>l.length - (intOf i).toNat)
    case atStart=>exact⟨0,rfl,Nat.zero_le _,HV⟩
    case round=>
     obtain⟨q,rfl,hq,hv⟩:=hrel;clear HV;by_cases hlt:q<l.length
     . obtain⟨g,off,rfl,hg,hLL⟩: ∃g off,la=some ⟨g,off,none⟩/\g<w.heap.size/\Ao w w.heap.size l g off:=HL.out.resolve_left h0;obtain⟨x,hx⟩: ∃v,l[q]? =some v:=⟨_,List.getElem?_eq_getElem hlt⟩;have hmem:=List.mem_of_getElem? hx;have IHx:=HIH.out _ hmem;have hbv:=Ew hmem;have:=trivial;have htk:dL (l.take (q+1))=dL (l.take q)++ [dV x]:=by rw[List.take_add_one,hx,Jt,Jt];simp
       have hqlen:(dL (l.take q)).length=q:=by rw[L9,List.length_take];omega
       obtain⟨⟨hbw,x1,x2,x3,hk,hsx,hw3⟩,hF⟩:=hv.out;have hz:=hbw.size;have b4:=x3.cell 4;obtain⟨k',b',n',t',l',o'⟩:=x;obtain⟨la',lc',oa',oc',hvs,c0,c1,c2,c3,c4,c5⟩:=(hLL.below hg hbw).six hx;have hC: ∀W,Below wr.heap.size wr W->Calls Tryz.prog 117 #[.agg #[.int .i64 k',.bool b',.int .i64 n',.string t',.slice la' l'.length lc',.slice oa' o'.length oc']] W (Hs W (.mk k' b' n' t' l' o')):=fun W hW=>
        IHx _ W (Ac.more (Nat.le_trans hz hW.size) _ _ (hvs.below (hW.mono hz))) (by omega)
       have hgr:g<wr.heap.size:=by omega
       have hg2:w.heap.size+2<wr.heap.size:=x3.lt;have hgl:=hF.lt;have hcell: ∀W,Below wr.heap.size wr W->(∀j,j<6-> ∃u,W.cell? ⟨w0.heap.size,q*6+j,none⟩=some u)/\(∀j,W.frozen? ⟨w0.heap.size,j,none⟩=false):=fun W hW=>by
        have h1:=(hF.below hW).cell;exact⟨fun j hj=>h1.1 _ (by omega),h1.2⟩
       have y1:(q:Int)<(l.length:Int):=by omega
       have n1:w.heap.size+2≠w0.heap.size:=by omega
       have n2:wr.heap.size≠w0.heap.size:=by omega
       have n3:=n1.symm;have n4:=n2.symm;obtain⟨HC,Hcell,Htk,Hqlen⟩:=hid4 hC hcell htk hqlen;clear hC hcell htk hqlen;clear hbw x1 x2 x3 hF hvs hx hmem IHx hLL hk hsx hw3;go_wp2_with (fail)
       go_region_held3 (fun W=>W.cell? ⟨w.heap.size+2,4,none⟩=some (.slice (some ⟨w0.heap.size,0,none⟩) l.length l.length)/\W.cell? ⟨wr.heap.size,0,none⟩=some (.int .i64 k')/\W.cell? ⟨wr.heap.size,1,none⟩=some (.bool b')/\W.cell? ⟨wr.heap.size,2,none⟩=some (.int .i64 n')/\W.cell? ⟨wr.heap.size,3,none⟩=some (.string t')/\W.cell? ⟨wr.heap.size,4,none⟩=some (.slice la' l'.length lc')/\W.cell? ⟨wr.heap.size,5,none⟩=some (.slice oa' o'.length oc')) (go_keep) (first|(go_at_call 117;refine(HC.out _ ?_).mono ?_;(exact(Below.drew ((Below.refl _ _).alloc (Nat.le_refl _) _)));rintro e w4 ⟨⟨cs4,rfl,hl4,hf4⟩,hb4⟩;obtain⟨la2,lc2,oa2,oc2,rfl⟩:=Dp hf4;have hbr:Below wr.heap.size wr w4:=((Below.drew ((Below.refl _ _).alloc (Nat.le_refl _) _)).trans (hb4.mono (by simp)));obtain⟨hd,hfz⟩:=Hcell.out w4 hbr;obtain⟨v0,d0⟩:=hd 0 (by omega);obtain⟨v1,d1⟩:=hd 1 (by omega);obtain⟨v2,d2⟩:=hd 2 (by omega);obtain⟨v3,d3⟩:=hd 3 (by omega);obtain⟨v4,d4⟩:=hd 4 (by omega);obtain⟨v5,d5⟩:=hd 5 (by omega);rw[Nat.add_zero]at d0;obtain⟨hc4,hf4'⟩:=Y8 hb4;have g3:=(hbr.cell (p:=⟨w.heap.size+2,4,none⟩) hg2).trans b4;clear hd))
       all_goals
        have hf5:Br wr.heap.size w4 (dV (.mk k' b' n' t' l' o')) [.int .i64 k',.bool b',.int .i64 n',.string t',.slice la2 l'.length lc2,.slice oa2 o'.length oc2]:=hf4.keep (by simp) (Nat.le_refl _) (fun _ _ _=>rfl);have hN:=hv.out.step hbr hf5 (by rw[Hqlen.out];exact hlt) (Eb _);rw[Hqlen.out,<-Htk.out]at hN;have HN:Hid (Ki w w0 #[.int .i64 k,.bool b,.int .i64 n,.string t,.slice (some ⟨g,off,none⟩) l.length lc,.slice oa o.length oc] #[.int .i64 0,.bool false,.int .i64 0,.string ⟨#[]⟩,.slice none 0 0,.slice none 0 0] #[.int .i64 k,.bool b,.int .i64 n,.string t,.slice (some ⟨w0.heap.size,0,none⟩) l.length l.length,.slice none 0 0] w0.heap.size 6 l.length 37 (dL (l.take (q+1))) ((((((w4.setCell ⟨w0.heap.size,q*6,none⟩ (.int .i64 k')).setCell ⟨w0.heap.size,q*6+1,none⟩ (.bool b')).setCell ⟨w0.heap.size,q*6+2,none⟩ (.int .i64 n')).setCell ⟨w0.heap.size,q*6+3,none⟩ (.string t')).setCell ⟨w0.heap.size,q*6+4,none⟩ (.slice la2 l'.length lc2)).setCell ⟨w0.heap.size,q*6+5,none⟩ (.slice oa2 o'.length oc2))):=hN;clear hN hf5 hf4 hb4 hbr hfz hc4 hf4' g3 hv HC Hcell Htk Hqlen b4 c0 c1 c2 c3 c4 c5 d0 d1 d2 d3 d4 d5 n1 n2 n3 n4;go_wp2;go_roundw
        case rel=>exact⟨q+1,by go_num,by omega,HN⟩
        case measure=>simp only[intOf];omega
     . obtain rfl:q=l.length:=by omega
       have hv':=hv.out;rw[List.take_length]at hv';have HD:=qz (hv'.done (L9 _) l.length);clear hv hv';go_wp2;go_meet;exact⟨_,_,HD⟩
 case rest=>
 obtain⟨aL,cL,hP⟩:=hcut;obtain⟨wm,hwm⟩: ∃wm:World,wm=wc:=⟨_,rfl⟩;subst hwm;have hA1:VA w wm #[.int .i64 k,.bool b,.int .i64 n,.string t,.slice la l.length lc,.slice oa o.length oc] #[.int .i64 0,.bool false,.int .i64 0,.string ⟨#[]⟩,.slice none 0 0,.slice none 0 0] #[.int .i64 k,.bool b,.int .i64 n,.string t,.slice aL l.length cL,.slice none 0 0] wm:=by
  obtain⟨⟨z1,z2,z3,z4,z5,z6,z7⟩,_⟩:=hP.out;exact⟨z1,z2,z3,z4,fun _ _ _=>rfl,Nat.le_refl _,Nat.le_trans z7 z6⟩
 have hsm:w.heap.size+3<=wm.heap.size:=hA1.2.2.2.2.2.2;obtain⟨b0,b1,b2,b3,b4,b5⟩:=Az hA1.2.1;have HA1:=qz hA1;clear hA1;clear HIH HL HA0 HS1 hmk;go_upto_if 38 with(fail);clear b0 b1 b2 b3 b4 b5;go_cut [] (fun wx=> ∃a c,Hid (VP w wm #[.int .i64 k,.bool b,.int .i64 n,.string t,.slice la l.length lc,.slice oa o.length oc] #[.int .i64 0,.bool false,.int .i64 0,.string ⟨#[]⟩,.slice none 0 0,.slice none 0 0] #[.int .i64 k,.bool b,.int .i64 n,.string t,.slice aL l.length cL,.slice a o.length c] (dO o) 7 (.slice a o.length c) wx))
 case first=>
  by_cases h0:o= []
  . subst h0;go_wp2;go_meet;exact⟨none,0,VP.nil 7 HA1.out none 0⟩
  . have hpos:0<o.length:=List.length_pos_iff.2 h0;obtain⟨_,y1,y2,y3,_⟩:=HA1.out;obtain⟨b0,b1,b2,b3,b4,b5⟩:=Az y1;obtain⟨e0,e1,e2,e3,e4,e5⟩:=Az y3;have f3:=y3.frozen 5;have g0:w.heap.size<wm.heap.size:=by omega
    have g2:w.heap.size+2<wm.heap.size:=by omega
    obtain⟨Y1,Y2,Y3⟩:=hid3 y1 y2 y3;clear y1 y2 y3;go_wp2_with (fail);obtain⟨w1,hw1⟩: ∃w1,(wm.setCell ⟨w.heap.size+1+1,5,none⟩ (.slice (some ⟨wm.heap.size,0,none⟩) o.length o.length)).alloc (.cells M2 94)=w1:=⟨_,rfl⟩;have hV:Ki w wm #[.int .i64 k,.bool b,.int .i64 n,.string t,.slice la l.length lc,.slice oa o.length oc] #[.int .i64 0,.bool false,.int .i64 0,.string ⟨#[]⟩,.slice none 0 0,.slice none 0 0] #[.int .i64 k,.bool b,.int .i64 n,.string t,.slice aL l.length cL,.slice (some ⟨wm.heap.size,0,none⟩) o.length o.length] wm.heap.size 7 o.length 94 (dO (o.take 0)) w1:=by
     rw[<-hw1];obtain⟨z1,z2,z3,z4,z5,z6,z7⟩:=HA1.out;refine⟨⟨(z1.setCell (by simp;omega) _).alloc (by simp;omega) _,(z2.far (by simp;omega) _).alloc _,(z3.far (by simp) _).alloc _,(z4.set_ 5 _).alloc _,fun c h1 h2=> ?_,by simp,z7⟩,D9.start (Nat.le_refl _) ?_ HS2.out⟩
     . rw[Lib.alloc_old _ _ _ (by simp;omega),Dy _ _ _ _ (by omega)]
     . have:=heap_alloc_new (wm.setCell ⟨w.heap.size+1+1,5,none⟩ (.slice (some ⟨wm.heap.size,0,none⟩) o.length o.length)) (.cells M2 94);simpa using this
    have HV:=qz hV;rw[hw1];clear hw1 hV b0 b1 b2 b3 b4 b5 e0 e1 e2 e3 e4 e5 f3 HA1 Y1 Y2 Y3 HS2 hmo;go_loopw [47] (fun i wr=> ∃q:Nat,i=.int .i64 q/\q<=o.length/\Hid (Ki w wm #[.int .i64 k,.bool b,.int .i64 n,.string t,.slice la l.length lc,.slice oa o.length oc] #[.int .i64 0,.bool false,.int .i64 0,.string ⟨#[]⟩,.slice none 0 0,.slice none 0 0] #[.int .i64 k,.bool b,.int .i64 n,.string t,.slice aL l.length cL,.slice (some ⟨wm.heap.size,0,none⟩) o.length o.length] wm.heap.size 7 o.length 94 (dO (o.take q)) wr)) (fun i _=>o.length - (intOf i).toNat)
    case atStart=>exact⟨0,rfl,Nat.zero_le _,HV⟩
    case round=>
     obtain⟨q,rfl,hq,hv⟩:=hrel;clear HV;by_cases hlt:q<o.length
     . obtain⟨g,off,rfl,hg,hLL⟩: ∃g off,oa=some ⟨g,off,none⟩/\g<w.heap.size/\Ak w w.heap.size o g off:=HO.out.resolve_left h0;obtain⟨⟨key,x⟩,hx⟩: ∃v,o[q]? =some v:=⟨_,List.getElem?_eq_getElem hlt⟩;have hmem:=List.mem_of_getElem? hx;have IHx:=HIHo.out _ hmem;have hbv:=Ck hmem;simp only at IHx hbv;have htk:dO (o.take (q+1))=dO (o.take q)++ [dP (key,x)]:=by rw[List.take_add_one,hx,Bl,Bl];simp
       have hqlen:(dO (o.take q)).length=q:=by rw[Ax,List.length_take];omega
       obtain⟨⟨hbw,x1,x2,x3,hk,hsx,hw3⟩,hF⟩:=hv.out;have hz:=hbw.size;have b4:=x3.cell 5;obtain⟨k',b',n',t',l',o'⟩:=x;obtain⟨la',lc',oa',oc',hvs,c0,c1,c2,c3,c4,c5,c6⟩:=(hLL.below hg hbw).seven hx;have hC: ∀W,Below wr.heap.size wr W->Calls Tryz.prog 117 #[.agg #[.int .i64 k',.bool b',.int .i64 n',.string t',.slice la' l'.length lc',.slice oa' o'.length oc']] W (Hs W (.mk k' b' n' t' l' o')):=fun W hW=>
        IHx _ W (Ac.more (Nat.le_trans hz hW.size) _ _ (hvs.below (hW.mono hz))) (by omega)
       have hgr:g<wr.heap.size:=by omega
       have hg2:w.heap.size+2<wr.heap.size:=x3.lt;have hgl:=hF.lt;have hcell: ∀W,Below wr.heap.size wr W->(∀j,j<7-> ∃u,W.cell? ⟨wm.heap.size,q*7+j,none⟩=some u)/\(∀j,W.frozen? ⟨wm.heap.size,j,none⟩=false):=fun W hW=>by
        have h1:=(hF.below hW).cell;exact⟨fun j hj=>h1.1 _ (by omega),h1.2⟩
       have y1:(q:Int)<(o.length:Int):=by omega
       have n1:w.heap.size+2≠wm.heap.size:=by omega
       have n2:wr.heap.size≠wm.heap.size:=by omega
       have n3:=n1.symm;have n4:=n2.symm;obtain⟨HC,Hcell,Htk,Hqlen⟩:=hid4 hC hcell htk hqlen;clear hC hcell htk hqlen;clear hbw x1 x2 x3 hF hvs hx hmem IHx hLL hk hsx hw3;go_wp2_with (fail)
       go_region_held3 (fun W=>W.cell? ⟨w.heap.size+2,5,none⟩=some (.slice (some ⟨wm.heap.size,0,none⟩) o.length o.length)/\W.cell? ⟨wr.heap.size,0,none⟩=some (.string key)/\W.cell? ⟨wr.heap.size,1,none⟩=some (.int .i64 k')/\W.cell? ⟨wr.heap.size,2,none⟩=some (.bool b')/\W.cell? ⟨wr.heap.size,3,none⟩=some (.int .i64 n')/\W.cell? ⟨wr.heap.size,4,none⟩=some (.string t')/\W.cell? ⟨wr.heap.size,5,none⟩=some (.slice la' l'.length lc')/\W.cell? ⟨wr.heap.size,6,none⟩=some (.slice oa' o'.length oc')) (go_keep) (first|(go_at_call 117;refine(HC.out _ ?_).mono ?_;(exact(Below.drew ((Below.refl _ _).alloc (Nat.le_refl _) _)));rintro e w4 ⟨⟨cs4,rfl,hl4,hf4⟩,hb4⟩;obtain⟨la2,lc2,oa2,oc2,rfl⟩:=Dp hf4;have hbr:Below wr.heap.size wr w4:=((Below.drew ((Below.refl _ _).alloc (Nat.le_refl _) _)).trans (hb4.mono (by simp)));obtain⟨hd,hfz⟩:=Hcell.out w4 hbr;obtain⟨v0,d0⟩:=hd 0 (by omega);obtain⟨v1,d1⟩:=hd 1 (by omega);obtain⟨v2,d2⟩:=hd 2 (by omega);obtain⟨v3,d3⟩:=hd 3 (by omega);obtain⟨v4,d4⟩:=hd 4 (by omega);obtain⟨v5,d5⟩:=hd 5 (by omega);obtain⟨v6,d6⟩:=hd 6 (by omega);rw[Nat.add_zero]at d0;obtain⟨hc4,hf4'⟩:=Y8 hb4;have g3:=(hbr.cell (p:=⟨w.heap.size+2,5,none⟩) hg2).trans b4;clear hd))
       all_goals
        have hf5:Br wr.heap.size w4 (dV (.mk k' b' n' t' l' o')) [.int .i64 k',.bool b',.int .i64 n',.string t',.slice la2 l'.length lc2,.slice oa2 o'.length oc2]:=hf4.keep (by simp) (Nat.le_refl _) (fun _ _ _=>rfl);have hN:=hv.out.step hbr (I9 (key:=key) hf5) (by rw[Hqlen.out];exact hlt) (Cs _);rw[Hqlen.out,<-Htk.out]at hN;have HN:Hid (Ki w wm #[.int .i64 k,.bool b,.int .i64 n,.string t,.slice la l.length lc,.slice (some ⟨g,off,none⟩) o.length oc] #[.int .i64 0,.bool false,.int .i64 0,.string ⟨#[]⟩,.slice none 0 0,.slice none 0 0] #[.int .i64 k,.bool b,.int .i64 n,.string t,.slice aL l.length cL,.slice (some ⟨wm.heap.size,0,none⟩) o.length o.length] wm.heap.size 7 o.length 94 (dO (o.take (q+1))) (((((((w4.setCell ⟨wm.heap.size,q*7,none⟩ (.string key)).setCell ⟨wm.heap.size,q*7+1,none⟩ (.int .i64 k')).setCell ⟨wm.heap.size,q*7+2,none⟩ (.bool b')).setCell ⟨wm.heap.size,q*7+3,none⟩ (.int .i64 n')).setCell ⟨wm.heap.size,q*7+4,none⟩ (.string t')).setCell ⟨wm.heap.size,q*7+5,none⟩ (.slice la2 l'.length lc2)).setCell ⟨wm.heap.size,q*7+6,none⟩ (.slice oa2 o'.length oc2))):=hN;clear hN hf5 hf4 hb4 hbr hfz hc4 hf4' g3 hv HC Hcell Htk Hqlen b4 c0 c1 c2 c3 c4 c5 c6 d0 d1 d2 d3 d4 d5 d6 n1 n2 n3 n4;go_wp2;go_roundw
        case rel=>exact⟨q+1,by go_num,by omega,HN⟩
        case measure=>simp only[intOf];omega
     . obtain rfl:q=o.length:=by omega
       have hv':=hv.out;rw[List.take_length]at hv';have HD:=qz (hv'.done (Ax _) o.length);clear hv hv';go_wp2;go_meet;exact⟨_,_,HD⟩
 case rest=>
 obtain⟨aO,cO,hQ⟩:=hcut;obtain⟨⟨z1,z2,z3,z4,z5,z6,z7⟩,hF2⟩:=hQ.out;obtain⟨⟨_,_,_,_,_,k6,k7⟩,hF1⟩:=hP.out;obtain⟨e0,e1,e2,e3,e4,e5⟩:=Az z4;obtain⟨r0,r1,r2,r3,r4,r5⟩:=Az z3;have f2:=fun i=>z3.frozen i;have hz:=qz (And.intro z1 (And.intro z3 (And.intro z5 (And.intro hF1 hF2))));clear z1 z2 z3 z4 z5 hF1 hF2 hP hQ HIHo HO HA1 HS2 hmo;go_wp2;obtain⟨W,hW⟩: ∃W,((((((wc.setCell ⟨w.heap.size+1,0,none⟩ (.int .i64 k)).setCell ⟨w.heap.size+1,1,none⟩ (.bool b)).setCell ⟨w.heap.size+1,2,none⟩ (.int .i64 n)).setCell ⟨w.heap.size+1,3,none⟩ (.string t)).setCell ⟨w.heap.size+1,4,none⟩ (.slice aL l.length cL)).setCell ⟨w.heap.size+1,5,none⟩ (.slice aO o.length cO))=W:=⟨_,rfl⟩;obtain⟨q1,q3,q5,qF1,qF2⟩:=hz.out;have hWh: ∀c,c≠w.heap.size+1->W.heap[c]? =wc.heap[c]? :=by
  intro c hc;rw[<-hW];simp only[Dy _ _ _ _ hc]
 have hWs:W.heap.size=wc.heap.size:=by rw[<-hW];simp[World.setCell]
 have hWb:Below w.heap.size w W:=by
  rw[<-hW];exact(((((q1.setCell (by simp) _).setCell (by simp) _).setCell (by simp) _).setCell (by simp) _).setCell (by simp) _).setCell (by simp) _
 have hWr:Aj W (w.heap.size+1) 37 #[.int .i64 k,.bool b,.int .i64 n,.string t,.slice aL l.length cL,.slice aO o.length cO]:=by
  rw[<-hW];exact(((((q3.set_ 0 _).set_ 1 _).set_ 2 _).set_ 3 _).set_ 4 _).set_ 5 _
 obtain⟨s0,s1,s2,s3,s4,s5⟩:=Az hWr;have hFr:Br w.heap.size W (dV (.mk k b n t l o)) [.int .i64 k,.bool b,.int .i64 n,.string t,.slice aL l.length cL,.slice aO o.length cO]:=by
  have g1:=qF1.keep (b':=w.heap.size) (w':=W) (by omega) (by omega) (fun p p1 p2=>World.cell?_of_block ((hWh _ (by omega)).trans (q5 _ (by omega) p2)));have g2:=qF2.keep (b':=w.heap.size) (w':=W) (by omega) (by omega) (fun p p1 p2=>World.cell?_of_block (hWh _ (by omega)));intro w'' h1 h2;simp only[dV,Ah];exact Ag.six.2 ⟨[.slice aL l.length cL], [.slice aO o.length cO],rfl,rfl,rfl,rfl,rfl,g1 w'' h1 h2,g2 w'' h1 h2⟩
 rw[hW];exact bodyPost_ret (v:=.agg #[.int .i64 k,.bool b,.int .i64 n,.string t,.slice aL l.length cL,.slice aO o.length cO]) (by simp[results,Tryz.results117,go_sem,s0,s1,s2,s3,s4,s5]) rfl ⟨⟨_,rfl,rfl,hFr⟩,hWb⟩
theorem Pz: ∀v,Y5 v:=by
 refine Val.ind ?_;intro k b n t l o hl ho cs w hV hb;simp only[Ac]at hV;obtain⟨la,lc,oa,oc,rfl,hla,hoa⟩:=hV;simp only[Val.bulk]at hb;exact Aaq k b n t l o la oa oc lc w hl ho hla hoa (by omega) (by omega)
theorem H9:(Tryz.prog.info? 63).map (fun i=>(i.zero,i.size,i.bytes))=some (some (.agg #[.string ⟨#[]⟩,.int .i64 0,.bool false,.int .i64 0,.string ⟨#[]⟩,.slice none 0 0,.slice none 0 0]),7,104):=by kernel_rfl
theorem D9.rowX {b g:Nat} {t:TypeId} {s:Nat} {wr:World} {l:List D} (h:D9 b g t s l.length wr l) (hm:l.length<=maxLen):A0 (fun i=>b<=i) b t s wr l (.slice (some ⟨g,0,none⟩) l.length l.length):=by
 obtain⟨h1,h2,h3,cs,ns,h4,h5,h6,h7⟩:=h;have hA:=h7 wr (Nat.le_refl _) (fun _ _ _ _=>rfl);have hnl:ns.length=l.length*s:=by rw[hA.len.1,Fi h3]
 have e:cs.toList=ns:=by
  refine List.ext_getElem (by rw[Array.length_toList,h5,hnl]) fun j j1 j2=> ?_;have:=h6 j _ (List.getElem?_eq_getElem j2);rw[<-Array.getElem?_toList,List.getElem?_eq_getElem j1]at this;exact Option.some.inj this
 refine⟨ns,⟨hnl,.inr ⟨g,l.length,cs,rfl,h1,h4,Nat.le_refl _,hm,h5, ?_⟩⟩,h3,fun w'' k1 k2=>h7 w'' k1 fun p p1 p2 p3=>k2 p ⟨p1,fun e=>p3 (by simp only[Value.ownBlock,Option.some.injEq]at e;exact e.symm)⟩ p2⟩;rw[e,<-hnl,List.take_length]
def CL (w:World) (es:List Bj) (q:Nat) (wr:World):Prop:=Below w.heap.size w wr/\D9 w.heap.size w.heap.size 63 7 es.length wr (dO (es.take q))
def Mt (es:List Bj) (w:World) (e:Ending) (w':World):Prop:=Below w.heap.size w w'/\ ∃g,e=.returned (.slice (some ⟨g,0,none⟩) es.length es.length)/\A0 (fun i=>w.heap.size<=i) w.heap.size 63 7 w' (dO es) (.slice (some ⟨g,0,none⟩) es.length es.length)
theorem Lz (es:List Bj) (a:Option Addr) (n c:Nat) (w:World) (h:Ah w w.heap.size (.row 7 (dO es)) [.slice a n c]) (hb:Ae es<=100000000):Calls Tryz.prog 156 #[.slice a n c] w (Mt es w):=by
 have hn:=h.row_len;rw[Ax]at hn;subst hn;have hln:=Ba es;obtain⟨j0,hj,hy0,hy1,hy2⟩:=info_parts H9;have hmo:=fun W=>I5 (P:=Tryz.prog) 22 63 j0 _ Tryz.underlying22 hj hy0 es.length (by rw[hy2];omega) (by omega) W;rw[hy1]at hmo;obtain⟨M2,hM2⟩: ∃M,madeCells (Value.cells (.agg #[.string ⟨#[]⟩,.int .i64 0,.bool false,.int .i64 0,.string ⟨#[]⟩,.slice none 0 0,.slice none 0 0])) (es.length*7)=M:=⟨_,rfl⟩;simp only[hM2]at hmo;have hS2:M2.size=es.length*7:=by rw[<-hM2,size_madeCells]
 have HI0:Hid (CL w es 0 (w.alloc (.cells M2 63))):=⟨Aa _ _,D9.start (Nat.le_refl _) (heap_alloc_new _ _) hS2⟩;have H:=qz h;clear h;clear hM2 hS2 hj hy0 hy1 hy2;go_enter Tryz.func156,Tryz.ntmps156;go_wp2_with (fail);clear hmo;go_loopw [11] (fun i wr=> ∃q:Nat,i=.int .i64 q/\q<=es.length/\Hid (CL w es q wr)) (fun i _=>es.length - (intOf i).toNat)
 case atStart=>exact⟨0,rfl,Nat.zero_le _,HI0⟩
 case round=>
  obtain⟨q,rfl,hq,hv⟩:=hrel;clear HI0;by_cases hlt:q<es.length
  . obtain⟨⟨key,x⟩,hx⟩: ∃v,es[q]? =some v:=⟨_,List.getElem?_eq_getElem hlt⟩;have hmem:=List.mem_of_getElem? hx;have hbv:=Ck hmem;simp only at hbv;have htk:dO (es.take (q+1))=dO (es.take q)++ [dP (key,x)]:=by rw[List.take_add_one,hx,Bl,Bl];simp
    have hqlen:(dO (es.take q)).length=q:=by rw[Ax,List.length_take];omega
    obtain⟨hbw,hF⟩:=hv.out;have hz:=hbw.size;obtain⟨k',b',n',t',l',o'⟩:=x;obtain⟨g,off,rfl,hg,la',lc',oa',oc',hvs,c0,c1,c2,c3,c4,c5,c6⟩:=Abg ((H.out.below hbw).more hz) hx;have hC: ∀W,Below wr.heap.size wr W->Calls Tryz.prog 117 #[.agg #[.int .i64 k',.bool b',.int .i64 n',.string t',.slice la' l'.length lc',.slice oa' o'.length oc']] W (Hs W (.mk k' b' n' t' l' o')):=fun W hW=>
     Pz _ _ W (Cb _ _ ((hvs.below hW).more hW.size)) (by omega)
    have hgr:g<wr.heap.size:=hg;have hgl:=hF.lt;have hcell: ∀W,Below wr.heap.size wr W->(∀j,j<7-> ∃u,W.cell? ⟨w.heap.size,q*7+j,none⟩=some u)/\(∀j,W.frozen? ⟨w.heap.size,j,none⟩=false):=fun W hW=>by
     have h1:=(hF.below hW).cell;exact⟨fun j hj=>h1.1 _ (by omega),h1.2⟩
    have y1:(q:Int)<(es.length:Int):=by omega
    have n2:wr.heap.size≠w.heap.size:=by omega
    have n4:=n2.symm;obtain⟨HC,Hcell,Htk,Hqlen⟩:=hid4 hC hcell htk hqlen;clear hC hcell htk hqlen;clear hbw hF hvs hx hmem;go_wp2_with (fail)
    go_region_held3 (fun W=>W.cell? ⟨wr.heap.size,0,none⟩=some (.string key)/\W.cell? ⟨wr.heap.size,1,none⟩=some (.int .i64 k')/\W.cell? ⟨wr.heap.size,2,none⟩=some (.bool b')/\W.cell? ⟨wr.heap.size,3,none⟩=some (.int .i64 n')/\W.cell? ⟨wr.heap.size,4,none⟩=some (.string t')/\W.cell? ⟨wr.heap.size,5,none⟩=some (.slice la' l'.length lc')/\W.cell? ⟨wr.heap.size,6,none⟩=some (.slice oa' o'.length oc')) (go_keep) (first|(go_at_call 117;refine(HC.out _ ?_).mono ?_;(exact(Below.drew ((Below.refl _ _).alloc (Nat.le_refl _) _)));rintro e w4 ⟨⟨cs4,rfl,hl4,hf4⟩,hb4⟩;obtain⟨la2,lc2,oa2,oc2,rfl⟩:=Dp hf4;have hbr:Below wr.heap.size wr w4:=((Below.drew ((Below.refl _ _).alloc (Nat.le_refl _) _)).trans (hb4.mono (by simp)));obtain⟨hd,hfz⟩:=Hcell.out w4 hbr;obtain⟨v0,d0⟩:=hd 0 (by omega);obtain⟨v1,d1⟩:=hd 1 (by omega);obtain⟨v2,d2⟩:=hd 2 (by omega);obtain⟨v3,d3⟩:=hd 3 (by omega);obtain⟨v4,d4⟩:=hd 4 (by omega);obtain⟨v5,d5⟩:=hd 5 (by omega);obtain⟨v6,d6⟩:=hd 6 (by omega);rw[Nat.add_zero]at d0;obtain⟨hc4,hf4'⟩:=Y8 hb4;clear hd))
    all_goals
     have hf5:Br wr.heap.size w4 (dV (.mk k' b' n' t' l' o')) [.int .i64 k',.bool b',.int .i64 n',.string t',.slice la2 l'.length lc2,.slice oa2 o'.length oc2]:=hf4.keep (by simp) (Nat.le_refl _) (fun _ _ _=>rfl);have hN:=hv.out.2.step (by rw[Hqlen.out];exact hlt) (Cs _) (I9 (key:=key) hf5) hbr;rw[Hqlen.out,<-Htk.out]at hN;have HN:Hid (CL w es (q+1) (((((((w4.setCell ⟨w.heap.size,q*7,none⟩ (.string key)).setCell ⟨w.heap.size,q*7+1,none⟩ (.int .i64 k')).setCell ⟨w.heap.size,q*7+2,none⟩ (.bool b')).setCell ⟨w.heap.size,q*7+3,none⟩ (.int .i64 n')).setCell ⟨w.heap.size,q*7+4,none⟩ (.string t')).setCell ⟨w.heap.size,q*7+5,none⟩ (.slice la2 l'.length lc2)).setCell ⟨w.heap.size,q*7+6,none⟩ (.slice oa2 o'.length oc2))):=⟨Bq [.string key,.int .i64 k',.bool b',.int .i64 n',.string t',.slice la2 l'.length lc2,.slice oa2 o'.length oc2] (hv.out.1.trans (hbr.mono hz)) (Nat.le_refl _) (o:=q*7),hN⟩;clear hN hf5 hf4 hb4 hbr hfz hc4 hf4' hv HC Hcell Htk Hqlen c0 c1 c2 c3 c4 c5 c6 d0 d1 d2 d3 d4 d5 d6 n2 n4;go_wp2;go_roundw
     case rel=>exact⟨q+1,by go_num,by omega,HN⟩
     case measure=>simp only[intOf];omega
  . obtain rfl:q=es.length:=by omega
    obtain⟨hb',hF⟩:=hv.out;rw[List.take_length]at hF;have hF':D9 w.heap.size w.heap.size 63 7 (dO es).length wr (dO es):=by rw[Ax];exact hF
    have hR:=hF'.rowX (by rw[Ax];unfold maxLen;omega);rw[Ax]at hR;have HR:Hid (Mt es w (.returned (.slice (some ⟨w.heap.size,0,none⟩) es.length es.length)) wr):=⟨hb',_,rfl,hR⟩;clear hv hb' hF hF' hR;go_wp2;go_ret;exact HR.out
end Go.Proofs.YtkmcjfkokoidcaaGreatDoor
