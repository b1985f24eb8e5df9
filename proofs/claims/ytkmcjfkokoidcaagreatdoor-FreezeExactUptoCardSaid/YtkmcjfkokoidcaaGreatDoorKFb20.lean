/- Parts: A number, gathered below 0 digit by digit: the plain part. No condition. -/
import Derived.LoopTactic
import Derived.Deep.Cut
import Derived.Test.YtkmcjfkokoidcaaGreatDoorKFb17
set_option maxHeartbeats 20000000
set_option maxRecDepth 100000
namespace Go.Proofs.YtkmcjfkokoidcaaGreatDoor
open Go.RowKit
theorem Ahk {k:Int} {b:Bool} {n:Int} {t:ByteArray} {ln on:Nat} (h:Fl k b n t ln on=false):(k=2\/b=false)/\(k=3\/n=0):=by
 unfold Fl at h;by_cases h1:k=1
 . subst h1;simp at h;exact⟨.inr h.1.1.1.1,.inr h.1.1.1.2⟩
 by_cases h2:k=2
 . subst h2;simp at h;exact⟨.inl rfl,.inr h.1.1.1⟩
 by_cases h3:k=3
 . subst h3;simp at h;exact⟨.inr h.1.1.1,.inl rfl⟩
 by_cases h4:k=4
 . subst h4;simp at h;exact⟨.inr h.1.1.1,.inr h.1.1.2⟩
 by_cases h5:k=5
 . subst h5;simp at h;exact⟨.inr h.1.1.1,.inr h.1.1.2⟩
 by_cases h6:k=6
 . subst h6;simp at h;exact⟨.inr h.1.1.1,.inr h.1.1.2⟩
 simp[h1,h2,h3,h4,h5,h6]at h
theorem Wl (v:Val) (cs:List Value) (w:World) (hT:B3 w) (hV:Ac w w.heap.size v cs) (hb:v.bulk<=1000000000) (hok:Yt v):
 Calls Tryz.prog 136 #[.agg cs.toArray] w fun e w'=>e=.returned (.int .i64 (Bn v).length)/\Below w.heap.size w w':=by
 have hV':=hV;obtain⟨k,b,n,t,l,o⟩:=v;simp only[Ac]at hV';obtain⟨la,lc,oa,oc,rfl,_,_⟩:=hV';obtain⟨w1,hw1⟩: ∃w1,w.alloc (.cells (Ds k b n t la l.length lc oa o.length oc).toArray 37)=w1:=⟨_,rfl⟩;have hb1:Below w.heap.size w w1:=hw1▸(Below.refl _ _).alloc (Nat.le_refl _) _;have hz1:w1.heap.size=w.heap.size+1:=by rw[<-hw1];simp
 have hc:=N8 k b n t l o la oa lc oc false w1 (hT.below hb1) (Ac.more hb1.size _ _ (hV.below hb1)) hb hok;have HO:=qz (fun w=>Li k b n t la oa l.length lc o.length oc w);rw[hz1]at hc;generalize Bn (.mk k b n t l o)=L at*
 have ent:=It;obtain⟨HC,HAB⟩:=hid2 hc hb1;subst hw1;clear hc hV hb hok hT hz1 hb1;go_enter Tryz.func136,Tryz.ntmps136;go_wp2_with (first|(go_at_call 74;refine(HO.out _).mono ?_;rintro e w2 ⟨rfl,rfl⟩)|(go_at_fn (Lt k);refine(HC.out).mono ?_;rintro e w4 ⟨rfl,h6,h7⟩;have hW4:=h6;obtain⟨pp,vv,hbld⟩:=hW4;have g3:w4.cell? ⟨w.heap.size+1,3,none⟩=some (.int .i64 (L.length:Int)):=by(rw[Lib.cell_of_heap hbld.2.1];rfl)));go_ret;exact⟨rfl,HAB.out.trans (h7.mono (by simp))⟩
theorem Xi (k:Int) (b:Bool) (n:Int) (t:ByteArray) (o:List (ByteArray×Val)) (la oa:Option Addr) (lc oc:Nat) (d:Int) (w:World) (g off:Nat) (hoa:o= []\/(oa=some ⟨g,off,none⟩/\g<w.heap.size/\Ak w w.heap.size o g off))
 (hb:Ae o+t.size<=1000000000) (h0:0<=d) (h64:d<=64) (IH: ∀m ∈ o,Adm m.2) (hodd:Fl k b n t 0 o.length=false) (hval:A8 t=true):
 Calls Tryz.prog 95 #[.agg #[.int .i64 k,.bool b,.int .i64 n,.string t,.slice la 0 lc,.slice oa o.length oc],.int .i64 d] w fun e w'=>e=.returned (.int .i64 (Do o none (d+1)))/\Below w.heap.size w w':=by
 have hlen:o.length<=1000000000:=by have:=Ba o;omega
 have h64': ¬(64<d):=by omega
 have H:Hid (Do (o.drop 0) (Ey o 0) (d+1)=Do o none (d+1)):=by rw[List.drop_zero];exact rfl
 go_enter Tryz.func95,Tryz.ntmps95;go_wp2_with (first|(go_at_call 160;refine(Gl hodd _).mono ?_;rintro e w1 ⟨rfl,hb1⟩;obtain⟨hc1,hf1⟩:=Fy hb1;have hz1:=hb1.size;simp only[World.size_alloc]at hz1;have hbw1:Below w.heap.size w w1:=((Below.refl _ _).alloc (Nat.le_refl _) _).trans (hb1.mono (by simp));have hbox1:w1.heap[w.heap.size]? =some (.cells #[.int .i64 k,.bool b,.int .i64 n,.string t,.slice la 0 lc,.slice oa o.length oc] 37 (0,0)):=(hb1.block _ (by simp)).trans (heap_alloc_new _ _))|(go_at_call 112;refine(Ci hval _ (by omega)).mono ?_;rintro e w2 ⟨rfl,rfl⟩));clear hb1 hodd hc1 hf1 hz1;go_loopw [5] (fun i wx=>i=.int .i64 0/\wx=w1) (fun _ _=>0)
 case atStart=>exact⟨rfl,rfl⟩
 case round=>
  obtain⟨rfl,rfl⟩:=hrel;have hbx0:w.heap.size<wr.heap.size:=(Array.getElem?_eq_some_iff.1 hbox1).1;have b40:wr.cell? ⟨w.heap.size,4,none⟩=some (.slice la 0 lc):=by rw[Lib.cell_of_heap hbox1];rfl
  go_wp2;clear b40 hbx0
  rename World=>w1
  go_loopw [7,8] (fun q i wr=> ∃j:Nat,∃lk:ByteArray,j<=o.length/\i=.int .i64 j/\q=.string lk/\(0<j->Ey o j=some lk)/\Hid (Do (o.drop j) (Ey o j) (d+1)=Do o none (d+1))/\Below w.heap.size w wr/\wr.heap[w.heap.size]? =some (.cells #[.int .i64 k,.bool b,.int .i64 n,.string t,.slice la 0 lc,.slice oa o.length oc] 37 (0,0))) (fun _ i _=>o.length - (intOf i).toNat)
  case atStart=>exact⟨0,ByteArray.empty,Nat.zero_le _,rfl,rfl,fun h=>absurd h (by omega),H,hbw1,hbox1⟩
  case round=>
   obtain⟨j,q,hj,rfl,rfl,hlk,hm,hbw,hbox⟩:=hrel;clear H hbw1 hbox1;have hbx:w.heap.size<wr.heap.size:=(Array.getElem?_eq_some_iff.1 hbox).1;have b5:wr.cell? ⟨w.heap.size,5,none⟩=some (.slice oa o.length oc):=by rw[Lib.cell_of_heap hbox];rfl
   have hz:=hbw.size;by_cases hlt:j<o.length
   . obtain⟨rfl,hg,hL⟩:oa=some ⟨g,off,none⟩/\g<w.heap.size/\Ak w w.heap.size o g off:=by
      rcases hoa with rfl|h
      . simp at hlt
      . exact h
     obtain⟨⟨key,v⟩,hv⟩: ∃v,o[j]? =some v:=⟨_,List.getElem?_eq_getElem hlt⟩;have hdrop:o.drop j=(key,v)::o.drop (j+1):=C3 hv;have hmem:(key,v) ∈ o:=List.mem_of_getElem? hv;have hbv:=Ck hmem;simp only at hbv;have IHv:=qz (IH (key,v) hmem);have hlast:Ey o (j+1)=some key:=by simp[Ey,hv]
     have Hlast:=qz hlast;have hm':=hm.out;rw[hdrop]at hm';simp only[Do,Ol,<-hlast]at hm';clear hm hdrop hmem IH hlast;have hLr:=hL.below hg hbw;have hgr:g<wr.heap.size:=by omega
     obtain⟨k',b',n',t',l',o'⟩:=v;obtain⟨la',lc',oa',oc',hvs,c0,c1,c2,c3,c4,c5,c6⟩:=hLr.seven hv;clear hL hLr hv hoa;by_cases hval2:A8 key=true
     . rw[hval2]at hm';simp only[if_true]at hm';by_cases hjp:0<j
       . rw[hlk hjp]at hm';simp only at hm';have hgd:decide (0<j)=true:=by simpa using hjp
         clear hlk;by_cases hle:leB key q=true
         . rw[if_pos hle]at hm';unfold leB at hle;have Hm:=qz hm';clear hm';go_wp2_with (go_at_call 112;refine(Ci hval2 _ (by omega)).mono ?_;rintro e wv ⟨rfl,rfl⟩);go_ret;exact⟨by rw[<-Hm.out];rfl,hbw⟩
         . rw[if_neg hle]at hm';have hle':(Op.bytesLess key.toList q.toList||key.toList==q.toList)=false:=by simpa[leB]using hle
           clear hle;obtain⟨m,hmv⟩: ∃m,Aw (.mk k' b' n' t' l' o') (d+1)=m:=⟨_,rfl⟩;rw[hmv]at hm';have Hmv:=qz hmv;clear hmv;by_cases hm0:m=0
           . rw[if_pos hm0]at hm';subst hm0;have Hm:=qz hm';clear hm';go_wp2_with (first|(go_at_call 112;refine(Ci hval2 _ (by omega)).mono ?_;rintro e wv ⟨rfl,rfl⟩)|(go_at_call 95;refine(IHv.out _ (d+1) _ (Ac.more (by omega) _ _ hvs) (by omega) (by omega) (by omega)).mono ?_;rintro e w3 ⟨he,hb3⟩;rw[Hmv.out]at he;subst he;have hbw3:Below w.heap.size w w3:=hbw.trans (hb3.mono hz);have hbox3:=(hb3.block _ hbx).trans hbox));go_roundw
             case rel=>exact⟨j+1,key,by omega,by go_num,rfl,fun _=>Hlast.out,Hm,hbw3,hbox3⟩
             case measure=>simp[intOf];omega
           . rw[if_neg hm0]at hm';have hm1:(m==0)=false:=by simpa using hm0
             have hm2:(m != 0)=true:=by simpa using hm0
             have Hm:=qz hm';clear hm';go_wp2_with (first|(go_at_call 112;refine(Ci hval2 _ (by omega)).mono ?_;rintro e wv ⟨rfl,rfl⟩)|(go_at_call 95;refine(IHv.out _ (d+1) _ (Ac.more (by omega) _ _ hvs) (by omega) (by omega) (by omega)).mono ?_;rintro e w3 ⟨he,hb3⟩;rw[Hmv.out]at he;subst he;have hbw3:Below w.heap.size w w3:=hbw.trans (hb3.mono hz);have hbox3:=(hb3.block _ hbx).trans hbox));go_ret;exact⟨by rw[<-Hm.out];rfl,hbw3⟩
       . have hlk0:Ey o j=none:=by
          obtain rfl:j=0:=by omega
          rfl
         rw[hlk0]at hm';simp only at hm';have hgd:decide (0<j)=false:=by simpa using hjp
         have hk0:j<=0:=by omega
         clear hlk hlk0;obtain⟨m,hmv⟩: ∃m,Aw (.mk k' b' n' t' l' o') (d+1)=m:=⟨_,rfl⟩;rw[hmv]at hm';have Hmv:=qz hmv;clear hmv;by_cases hm0:m=0
         . rw[if_pos hm0]at hm';subst hm0;have Hm:=qz hm';clear hm';go_wp2_with (first|(go_at_call 112;refine(Ci hval2 _ (by omega)).mono ?_;rintro e wv ⟨rfl,rfl⟩)|(go_at_call 95;refine(IHv.out _ (d+1) _ (Ac.more (by omega) _ _ hvs) (by omega) (by omega) (by omega)).mono ?_;rintro e w3 ⟨he,hb3⟩;rw[Hmv.out]at he;subst he;have hbw3:Below w.heap.size w w3:=hbw.trans (hb3.mono hz);have hbox3:=(hb3.block _ hbx).trans hbox));go_roundw
           case rel=>exact⟨j+1,key,by omega,by go_num,rfl,fun _=>Hlast.out,Hm,hbw3,hbox3⟩
           case measure=>simp[intOf];omega
         . rw[if_neg hm0]at hm';have hm1:(m==0)=false:=by simpa using hm0
           have hm2:(m != 0)=true:=by simpa using hm0
           have Hm:=qz hm';clear hm';go_wp2_with (first|(go_at_call 112;refine(Ci hval2 _ (by omega)).mono ?_;rintro e wv ⟨rfl,rfl⟩)|(go_at_call 95;refine(IHv.out _ (d+1) _ (Ac.more (by omega) _ _ hvs) (by omega) (by omega) (by omega)).mono ?_;rintro e w3 ⟨he,hb3⟩;rw[Hmv.out]at he;subst he;have hbw3:Below w.heap.size w w3:=hbw.trans (hb3.mono hz);have hbox3:=(hb3.block _ hbx).trans hbox));go_ret;exact⟨by rw[<-Hm.out];rfl,hbw3⟩
     . have hvf:A8 key=false:=by simpa using hval2
       rw[hvf]at hm';have Hm:=qz hm';clear hm' hval2 hlk;go_wp2_with (go_at_call 112;refine(Ci hvf _ (by omega)).mono ?_;rintro e wv ⟨rfl,rfl⟩);go_ret;exact⟨by rw[<-Hm.out];simp,hbw⟩
   . obtain rfl:j=o.length:=by omega
     have hm':=hm.out;rw[List.drop_length]at hm';have Hm:=qz hm';clear hm hm' hlk hoa IH;go_wp2;go_ret;exact⟨by rw[<-Hm.out];rfl,hbw⟩
theorem Zv: ∀(v:Val),Adm v:=by
 refine Val.ind ?_;intro k b n t l o ihl iho cs d w hV hb h0 h65;simp only[Ac]at hV;obtain⟨la,lc,oa,oc,rfl,hL,hO⟩:=hV;simp only[Val.bulk]at hb;by_cases hodd:Fl k b n t l.length o.length=true
 . have hm:Aw (.mk k b n t l o) d=9:=by simp only[Aw,hodd,if_true]
   rw[hm];clear hm ihl iho hL hO;go_enter Tryz.func95,Tryz.ntmps95;go_wp2_with (go_at_call 160;refine(Gl hodd _).mono ?_;rintro e w' ⟨rfl,hb1⟩);go_ret;exact⟨rfl,((Below.refl _ _).alloc (Nat.le_refl _) _).trans (hb1.mono (by simp))⟩
 have hodd':Fl k b n t l.length o.length=false:=by simpa using hodd
 clear hodd;by_cases h64:64<d
 . have hm:Aw (.mk k b n t l o) d=5:=by simp only[Aw,hodd',Bool.false_eq_true,if_false,h64,if_true]
   rw[hm];clear hm ihl iho hL hO;go_enter Tryz.func95,Tryz.ntmps95;go_wp2_with (go_at_call 160;refine(Gl hodd' _).mono ?_;rintro e w' ⟨rfl,hb1⟩);go_ret;exact⟨rfl,((Below.refl _ _).alloc (Nat.le_refl _) _).trans (hb1.mono (by simp))⟩
 by_cases hval:A8 t=true
 . obtain⟨hk,ht,hl,ho⟩:=Lg hodd';by_cases hl0:l= []
   . subst hl0;have hm:Aw (.mk k b n t [] o) d=Do o none (d+1):=by
      simp only[Aw,hodd',Bool.false_eq_true,if_false,h64,hval,if_true,Dj]
     rw[hm];rcases hO with rfl|⟨g,off,rfl,hg,hO⟩
     . exact Xi k b n t [] la oa lc oc d w 0 0 (.inl rfl) (by simp only[Ae]at hb ⊢;omega) h0 (by omega) iho hodd' hval
     . exact Xi k b n t o la _ lc oc d w g off (.inr ⟨rfl,hg,hO⟩) (by omega) h0 (by omega) iho hodd' hval
   . have hl1:0<l.length:=List.length_pos_iff.2 hl0;obtain rfl:o= []:=List.eq_nil_of_length_eq_zero (by omega);have hm:Aw (.mk k b n t l []) d=Dj l (d+1):=by
      simp only[Aw,hodd',Bool.false_eq_true,if_false,h64,hval,if_true,Do]
      split<;>simp_all
     rw[hm];rcases hL with rfl|⟨g,off,rfl,hg,hL⟩
     . exact absurd rfl hl0
     . exact Aco k b n t l _ oa lc oc d w g off (.inr ⟨rfl,hg,hL⟩) (by omega) h0 (by omega) ihl hodd' hval
 . have hval':A8 t=false:=by simpa using hval
   have hm:Aw (.mk k b n t l o) d=3:=by simp only[Aw,hodd',Bool.false_eq_true,if_false,h64,hval']
   rw[hm];clear hm ihl iho hL hO hval;go_enter Tryz.func95,Tryz.ntmps95;go_wp2_with (first|(go_at_call 160;refine(Gl hodd' _).mono ?_;rintro e w1 ⟨rfl,hb1⟩;obtain⟨hc1,hf1⟩:=Fy hb1;have hz1:=hb1.size;simp only[World.size_alloc]at hz1;have hbw1:Below w.heap.size w w1:=((Below.refl _ _).alloc (Nat.le_refl _) _).trans (hb1.mono (by simp)))|(go_at_call 112;refine(Ci hval' _ (by omega)).mono ?_;rintro e w2 ⟨rfl,rfl⟩));go_ret;exact⟨rfl,hbw1⟩
theorem Qy (v:Val) (cs:List Value) (w:World) (hV:Ac w w.heap.size v cs) (hb:v.bulk<=1000000000):
 Calls Tryz.prog 53 #[.agg cs.toArray] w fun e w'=>e=.returned (.int .i64 (Aw v 1))/\Below w.heap.size w w':=by
 have hV':=hV;obtain⟨k,b,n,t,l,o⟩:=v;simp only[Ac]at hV';obtain⟨la,lc,oa,oc,rfl,_,_⟩:=hV';have hc:=Zv _ _ 1 (w.alloc (.cells #[.int .i64 k,.bool b,.int .i64 n,.string t,.slice la l.length lc,.slice oa o.length oc] 37)) (Ac.more (by simp) _ _ (hV.below ((Below.refl _ _).alloc (Nat.le_refl _) _))) hb (by omega) (by omega);generalize Aw _ _=m at hc ⊢;have H:=qz hc;clear hc hV;go_enter Tryz.func53,Tryz.ntmps53;go_wp2_with (go_at_call 95;refine(H.out).mono ?_;rintro e w' ⟨rfl,hb1⟩);go_ret;exact⟨rfl,((Below.refl _ _).alloc (Nat.le_refl _) _).trans (hb1.mono (by simp))⟩
theorem Pd: ∀{l:List Val},(∀v ∈ l,∀d d':Int,Aw v d'=0->d+Dv v<=65->Aw v d=0)-> ∀{d d':Int},Dj l d'=0->(l= []\/d+Ec l<=65)->Dj l d=0
 | [],_,_,_,_,_=>by simp[Dj]
 |v::r,ih,d,d',h,hd=>by
  have hd:=hd.resolve_left (by simp);simp only[Ec]at hd;simp only[Dj]at h ⊢;by_cases h0:Aw v d'=0
  . rw[if_pos h0]at h;rw[if_pos (ih v (by simp) d d' h0 (by omega))];exact Pd (fun x hx=>ih x (by simp[hx])) h (.inr (by omega))
  . rw[if_neg h0]at h;exact absurd h h0
theorem Pe: ∀{l:List (ByteArray×Val)},(∀m ∈ l,∀d d':Int,Aw m.2 d'=0->d+Dv m.2<=65->Aw m.2 d=0)-> ∀{last:Option ByteArray} {d d':Int},Do l last d'=0->(l= []\/d+Gn l<=65)->Do l last d=0
 | [],_,_,_,_,_,_=>by simp[Do]
 |(key,v)::r,ih,last,d,d',h,hd=>by
  have hd:=hd.resolve_left (by simp);simp only[Gn,Wv]at hd;simp only[Do]at h ⊢;by_cases h0:Ol (key,v) last d'=0
  . rw[if_pos h0]at h;have h1:Ol (key,v) last d=0:=by
     simp only[Ol]at h0 ⊢;by_cases hv:A8 key=true
     . rw[if_pos hv]at h0 ⊢
       cases last with
       |none=>exact ih (key,v) (by simp) d d' h0 (by simp only;omega)
       |some q=>
        simp only at h0 ⊢;by_cases hl:leB key q=true
        . rw[if_pos hl]at h0;cases h0
        . rw[if_neg hl]at h0 ⊢;exact ih (key,v) (by simp) d d' h0 (by simp only;omega)
     . rw[if_neg hv]at h0;cases h0
    rw[if_pos h1];exact Pe (fun x hx=>ih x (by simp[hx])) h (.inr (by omega))
  . rw[if_neg h0]at h;exact absurd h h0
theorem Xj: ∀(v:Val) (d d':Int),Aw v d'=0->d+Dv v<=65->Aw v d=0:=by
 refine Val.ind ?_;intro k b n t l o hl ho d d' h hd;obtain⟨h1,_,h3,h4,h5⟩:=J1 h;obtain⟨_,_,k5,k6⟩:=Lg h1;simp only[Dv]at hd;have hL:Dj l (d+1)=0:=by
  refine Pd hl h4 ?_;rcases k5 with e|e
  . rw[if_pos e]at hd;exact .inr (by omega)
  . exact .inl (List.length_eq_zero_iff.1 e)
 have hO:Do o none (d+1)=0:=by
  refine Pe ho h5 ?_;rcases k6 with e|e
  . rw[if_neg (by omega),if_pos e]at hd;exact .inr (by omega)
  . exact .inl (List.length_eq_zero_iff.1 e)
 have h64: ¬64<d:=by
  have:0<=(if k=5 then Ec l else if k=6 then Gn o else 0):=Nat.zero_le _;omega
 simp only[Aw];rw[if_neg (by rw[h1];simp),if_neg h64,if_pos h3,if_pos hL,hO]
section
variable {P:Program} {l n:Nat} {ops:Array Oper} {Q:Exit->Act->World->Prop}
theorem Acy {row:String} {args:Array Value} {w:World} {R:Value->World->Prop} (h:Rows P row args w R):RowsIn (Fence.wide.inRound l) n P row args w R:=fun c cs _=>
 let ⟨v,w',r,s⟩:=h c cs
 ⟨v,w',r,stepsIn_wide.2 s⟩
theorem Z7 {o:Oper} {a:Act} {w:World} {K:Act->World->Prop} (hd: ∀c,o.op≠ .defer c) (h:o.wp P a w K Q):o.wpIn (Fence.wide.inRound l) n P a w K Q:=by
 refine⟨fun _ _=>trivial, ?_⟩;rw[Oper.semAt_eq _ _ _ hd];unfold Oper.wp at h;generalize (execOp a.eval o).run P w=r at h
 cases r with
 |ok x w'=>cases x<;>simp only[Oper.upon,Oper.uponIn]at h ⊢ <;>first|exact h|exact⟨fun hh=>(by simp[Fence.wide]at hh),CallsIn.inRound l (callsIn_wide.2 h)⟩|exact⟨fun hh=>(by simp[Fence.wide]at hh),Acy h⟩|exact h.elim
 |halt x w'=>cases x<;>simp only[Oper.upon,Oper.uponIn]at h ⊢ <;>exact h
theorem Lh (hd: ∀(i:Nat) o,ops[i]? =some o-> ∀c,o.op≠ .defer c) (hQ: ¬LetsOut Q): ∀(is:List Nat) (a:Act) (w:World),wpOps P ops Q is a w->wpOpsIn (Fence.wide.inRound l) n P ops Q is a w
 | [],_,_,h=>h
 |i::rest,a,w,h=>by
  simp only[wpOps]at h;simp only[wpOpsIn]
  cases ho:ops[i]? with
  |none=>
   simp only[ho]at h ⊢;exact Lh hd hQ rest a w h
  |some o=>
   simp only[ho]at h ⊢;by_cases hw:Region.wanted o (yielded ops a.tmps)=true
   . simp only[hw,if_true]at h ⊢;rcases h with h|h
     . exact Z7 (hd i o ho) (Oper.wp_mono (fun a' w' h'=>Lh hd hQ rest a' w' h') h)
     . exact absurd h.2 hQ
   . simp only[hw]at h ⊢;exact⟨fun _ _=>trivial,Lh hd hQ rest _ w h⟩
theorem Qj {id:Nat} {a:Act} {w:World} {S:World->Prop} (hm:P.follows .mixedOrders=true) (hd:(ops.toList.all fun o=>match o.op with| .defer _=>false|_=>true)=true) (hQ: ¬LetsOut Q) (hS:S w.drew)
 (h:S w.drew->wpAnyH P .any ops Q S ops.size (Array.replicate ops.size false) a w.drew):(Code.region id ops true).wpIn (Fence.wide.inRound l) n P Q a w:=
 wpIn_region_draw fun t=>by
  simp only[Region.schedule,hm,Bool.true_or,if_true];refine Lh (fun i o ho c hc=> ?_) hQ _ _ _ (wpAny_sound ops.size t _ a _ (wpAny_of_held _ _ _ _ (h hS)));have h1:=List.all_eq_true.1 hd o (by rw[<-Array.getElem?_toList]at ho;exact List.mem_of_getElem? ho);rw[hc]at h1
  cases h1
def noP (Q:Exit->Act->World->Prop) (e:Exit) (a:Act) (w:World):Prop:=
 match e with
 | .panic _=>False
 | .normal=>Q .normal a w
 | .ret=>Q .ret a w
 | .exit i=>Q (.exit i) a w
 | .goto i=>Q (.goto i) a w
 | .outgrown=>Q .outgrown a w
theorem N6 {id:Nat} {a:Act} {w:World} {S:World->Prop} (hm:P.follows .mixedOrders=true) (hS:S w.drew) (h:S w.drew->wpAnyH P .any ops (noP Q) S ops.size (Array.replicate ops.size false) a w.drew):(Code.region id ops true).wpIn Fence.wide n P Q a w:=
 wpIn_mono (wpIn_wide.2 (wp_region_held_drew hm hS h)) fun e a w hq=>by
  cases e with
  |panic c=>exact hq.elim
  |normal=>exact hq
  |ret=>exact hq
  |exit i=>exact hq
  |goto i=>exact hq
  |outgrown=>exact hq
end
attribute [local go_sem] Oper.semAt_some
def Qb (r:Rd Nat):Value:=match r with
 | .ok r n=> .tuple #[.int .i32 r,.int .i64 n,.int .i64 0]
 | .bad e _=> .tuple #[.int .i32 0,.int .i64 0,.int .i64 e]
theorem Am {fn:Func} {t u v:Tmp} (h:fn.results= #[.tmp t,.tmp u,.tmp v]) (tmps:Array Value) (P:Program) (w:World):
 (results fn tmps).run P w=.ok (.tuple #[tmps.getD t undef,tmps.getD u undef,tmps.getD v undef]) w:=by simp[results,h]
theorem U6 (r:Nat) (t:ByteArray) (w:World) (hr:r<65536) (hs:t.size<=1000000000):Calls Tryz.prog 315 #[.int .i32 r,.string t] w fun e w'=>e=.returned (Qb (E4 r t.data.toList))/\w=w':=by
 have hU:=fun W=>R9 t W hs;by_cases h1:r<55296
 . have e:E4 r t.data.toList=.ok r 6:=by unfold E4;rw[if_pos (.inl h1)]
   rw[e];have l:(r:Int)<55296:=by omega
   clear e hU;go_enter Tryz.func315,Tryz.ntmps315;go_wp2;exact bodyPost_ret (Am rfl _ _ _) rfl ⟨rfl,rfl⟩
 have l1: ¬((r:Int)<55296):=by omega
 by_cases h2:57344<=r
 . have e:E4 r t.data.toList=.ok r 6:=by unfold E4;rw[if_pos (.inr h2)]
   rw[e];have l:(57344:Int)<=(r:Int):=by omega
   clear e hU;go_enter Tryz.func315,Tryz.ntmps315;go_wp2;exact bodyPost_ret (Am rfl _ _ _) rfl ⟨rfl,rfl⟩
 have l2: ¬((57344:Int)<=(r:Int)):=by omega
 by_cases h3:56320<=r
 . have e:E4 r t.data.toList=.bad 3 0:=by unfold E4;rw[if_neg (by omega),if_pos h3]
   rw[e];have l:(56320:Int)<=(r:Int):=by omega
   clear e hU;go_enter Tryz.func315,Tryz.ntmps315;go_wp2;exact bodyPost_ret (Am rfl _ _ _) rfl ⟨rfl,rfl⟩
 have l3: ¬((56320:Int)<=(r:Int)):=by omega
 have e0:E4 r t.data.toList=match C4 t.data.toList with
  |none=> .bad 3 0
  |some m=>if m<56320\/57344<=m then .bad 3 0 else .ok (65536+1024*(r - 55296)+(m - 56320)) 12:=by unfold E4;rw[if_neg (by omega),if_neg h3];rfl
 rw[e0];clear e0
 cases hu:C4 t.data.toList with
 |none=>
  simp only[hu,Yi]at hU;clear hu;have HU:=qz hU;clear hU;go_enter Tryz.func315,Tryz.ntmps315;go_wp2_with (fail);(with_reducible refine(HU.out _).mono ?_);rintro e w1 ⟨rfl,rfl⟩;go_wp2;exact bodyPost_ret (Am rfl _ _ _) rfl ⟨rfl,rfl⟩
 |some m=>
  have hm:=(Jj hu).1;simp only[hu,Yi]at hU;clear hu;have HU:=qz hU;clear hU;simp only;by_cases h4:m<56320
  . rw[if_pos (.inl h4)];have l:(m:Int)<56320:=by omega
    clear h4;go_enter Tryz.func315,Tryz.ntmps315;go_wp2_with (fail);(with_reducible refine(HU.out _).mono ?_);rintro e w1 ⟨rfl,rfl⟩;go_wp2;exact bodyPost_ret (Am rfl _ _ _) rfl ⟨rfl,rfl⟩
  have l4: ¬((m:Int)<56320):=by omega
  by_cases h5:57344<=m
  . rw[if_pos (.inr h5)];have l:(57344:Int)<=(m:Int):=by omega
    clear h5;go_enter Tryz.func315,Tryz.ntmps315;go_wp2_with (fail);(with_reducible refine(HU.out _).mono ?_);rintro e w1 ⟨rfl,rfl⟩;go_wp2;exact bodyPost_ret (Am rfl _ _ _) rfl ⟨rfl,rfl⟩
  have l5: ¬((57344:Int)<=(m:Int)):=by omega
  rw[if_neg (by omega)];have b1:(55296:Int)<=(r:Int):=by omega
  have b2:(r:Int)<56320:=by omega
  have b3:(56320:Int)<=(m:Int):=by omega
  have b4:(m:Int)<57344:=by omega
  have d4:decide ((m:Int)<56320)=false:=decide_eq_false (by omega);have d5:decide ((57344:Int)<=(m:Int))=false:=decide_eq_false (by omega);have eq:(((65536+1024*(r - 55296)+(m - 56320):Nat)):Int)=65536+1024*((r:Int) - 55296)+((m:Int) - 56320):=by omega
  simp only[Qb];rw[eq];clear eq h1 h2 h3 h4 h5 l4 l5;go_enter Tryz.func315,Tryz.ntmps315;go_wp2_with (fail);(with_reducible refine(HU.out _).mono ?_);rintro e w1 ⟨rfl,rfl⟩;go_wp2;exact bodyPost_ret (Am rfl _ _ _) rfl ⟨rfl,rfl⟩
def C9:List (Int×Int):= [(34,34),(92,92),(47,47),(98,8),(102,12),(110,10),(114,13),(116,9)]
theorem Vi (w:World):Calls Tryz.prog 287 #[] w fun e w'=>e=.returned (.map (some w.heap.size))/\F9 w C9=w':=by
 have hmm:(Instr.makeMap 296 none).run Tryz.prog w=.ok (.map (some w.heap.size)) (F9 w []):=run_makeMap _ w;have u1:=Cd w [] 34 34 rfl;have u2:=Cd w [(34,34)] 92 92 rfl;have u3:=Cd w [(34,34),(92,92)] 47 47 rfl;have u4:=Cd w [(34,34),(92,92),(47,47)] 98 8 rfl;have u5:=Cd w [(34,34),(92,92),(47,47),(98,8)] 102 12 rfl;have u6:=Cd w [(34,34),(92,92),(47,47),(98,8),(102,12)] 110 10 rfl;have u7:=Cd w [(34,34),(92,92),(47,47),(98,8),(102,12),(110,10)] 114 13 rfl;have u8:=Cd w [(34,34),(92,92),(47,47),(98,8),(102,12),(110,10),(114,13)] 116 9 rfl;simp only[List.nil_append,List.cons_append]at u1 u2 u3 u4 u5 u6 u7 u8;go_enter Tryz.func287,Tryz.ntmps287;go_wp2;go_ret;exact⟨rfl,rfl⟩
theorem Vh (c:UInt8):Dc (c.toNat:Int) C9=(Fj c).map (fun n:Nat=>(n:Int)):=by
 have: ∀c:Fin 256,Dc ((UInt8.ofNat c.val).toNat:Int) C9=(Fj (UInt8.ofNat c.val)).map (fun n:Nat=>(n:Int)):=by decide+kernel
 have h:=this ⟨c.toNat,c.toNat_lt⟩;simpa using h
theorem Un (t:ByteArray) (mb:Nat) (w:World) (hs:t.size<=1000000000) (hm:w.heap[mb]? =some (.map (Gv C9 0).toArray C9.length)):Calls Tryz.prog 288 #[.string t,.map (some mb)] w fun e w'=>e=.returned (Qb (Ex t.data.toList))/\w=w':=by
 have hU:=fun W=>R9 t W hs
 cases hu:C4 t.data.toList with
 |some r=>
  obtain⟨hr,h6⟩:=Jj hu;rw[Ab]at h6;have hext:(t.extract 6 t.size).data.toList=t.data.toList.drop 6:=by
   rw[Lib.extract_data];exact List.take_of_length_le (by rw[List.length_drop,Ab];omega)
  have hP:=fun W=>U6 r (t.extract 6 t.size) W hr (by rw[ByteArray.size_extract];omega);have e0:Ex t.data.toList=E4 r (t.data.toList.drop 6):=by unfold Ex;rw[hu]
  rw[e0];rw[hext]at hP;simp only[hu,Yi]at hU;have l6:(6:Int)<=(t.size:Int):=by omega
  clear hu hext e0;generalize E4 r (t.data.toList.drop 6)=X at hP ⊢
  cases X with
  |ok r' n'=>
   simp only[Qb]at hP ⊢;obtain⟨HU,HP⟩:=hid2 hU hP;clear hU hP;clear hm;go_enter Tryz.func288,Tryz.ntmps288;go_wp2_with (fail);(with_reducible refine(HU.out _).mono ?_);rintro e w1 ⟨rfl,rfl⟩;go_wp2_with (fail);(with_reducible refine(HP.out _).mono ?_);rintro e w1 ⟨rfl,rfl⟩;go_wp2;exact bodyPost_ret (Am rfl _ _ _) rfl ⟨rfl,rfl⟩
  |bad r' n'=>
   simp only[Qb]at hP ⊢;obtain⟨HU,HP⟩:=hid2 hU hP;clear hU hP;clear hm;go_enter Tryz.func288,Tryz.ntmps288;go_wp2_with (fail);(with_reducible refine(HU.out _).mono ?_);rintro e w1 ⟨rfl,rfl⟩;go_wp2_with (fail);(with_reducible refine(HP.out _).mono ?_);rintro e w1 ⟨rfl,rfl⟩;go_wp2;exact bodyPost_ret (Am rfl _ _ _) rfl ⟨rfl,rfl⟩
 |none=>
  have e0:Ex t.data.toList=Qd t.data.toList:=by unfold Ex;rw[hu]
  rw[e0];simp only[hu,Yi]at hU;clear hu e0;by_cases h1:1<t.size
  . obtain⟨c,hc⟩: ∃c,t[1]=c:=⟨_,rfl⟩;have hg:t.data.toList[1]? =some c:=by rw[A9 t h1,hc]
    have hcl:=Be c;have hlk:=R4 w mb C9 c.toNat hm;rw[Vh]at hlk;have l1:(1:Int)<(t.size:Int):=by omega
    unfold Qd;rw[hg];simp only
    cases he:Fj c with
    |none=>
     rw[he]at hlk;simp only[Option.map_none,Option.getD_none,Option.isSome_none,Qb]at hlk ⊢;clear he hg;have HU:=qz hU;clear hU;clear hm;go_enter Tryz.func288,Tryz.ntmps288;go_wp2_with (fail);(with_reducible refine(HU.out _).mono ?_);rintro e w1 ⟨rfl,rfl⟩;go_wp2;exact bodyPost_ret (Am rfl _ _ _) rfl ⟨rfl,rfl⟩
    |some x=>
     rw[he]at hlk;simp only[Option.map_some,Option.getD_some,Option.isSome_some,Qb]at hlk ⊢;clear he hg;have HU:=qz hU;clear hU;clear hm;go_enter Tryz.func288,Tryz.ntmps288;go_wp2_with (fail);(with_reducible refine(HU.out _).mono ?_);rintro e w1 ⟨rfl,rfl⟩;go_wp2;exact bodyPost_ret (Am rfl _ _ _) rfl ⟨rfl,rfl⟩
  . have e0:Qd t.data.toList=.bad 4 0:=by
     unfold Qd;rw[List.getElem?_eq_none (by rw[Ab];omega)]
    have l1: ¬((1:Int)<(t.size:Int)):=by omega
    rw[e0];simp only[Qb];clear e0;have HU:=qz hU;clear hU;clear hm;go_enter Tryz.func288,Tryz.ntmps288;go_wp2_with (fail);(with_reducible refine(HU.out _).mono ?_);rintro e w1 ⟨rfl,rfl⟩;go_wp2;exact bodyPost_ret (Am rfl _ _ _) rfl ⟨rfl,rfl⟩
def D7:Nat->List UInt8->Nat
 |0,_=>0
 |f+1,l=>if l= []then 0 else if(Lib.decodeL l).1=65533/\(Lib.decodeL l).2=1 then 0 else if 32<=(Lib.decodeL l).1/\(Lib.decodeL l).1≠34/\(Lib.decodeL l).1≠92 then(Lib.decodeL l).2+D7 f (l.drop (Lib.decodeL l).2)else 0
def Gk (r:Nat):Bool:=decide (32<=r/\r≠34/\r≠92)
def Fm (z:Nat):List (Nat×Nat)->Nat
 | []=>z
 |x::r=>if Gk x.2=true then Fm (x.1+(Lib.encodeRune (x.2:Int)).length) r else x.1
theorem Aaf {r:Nat} (h:El r):Lib.runeLen (r:Int)=((Lib.encodeRune (r:Int)).length:Nat):=by
 unfold El at h;unfold Lib.encodeRune Lib.runeLen;rw[List.length_map];by_cases h1:r<=127
 . rw[Lib.encodeRuneZ_one (by omega) (by omega),if_neg (by omega),if_pos (by omega)];rfl
 by_cases h2:r<=2047
 . rw[Lib.encodeRuneZ_two (by omega) (by omega),if_neg (by omega),if_neg (by omega),if_pos (by omega)];rfl
 by_cases h3:r<=65535
 . rw[Lib.encodeRuneZ_three (by omega),if_neg (by omega),if_neg (by omega),if_neg (by omega),if_neg (by omega),if_pos (by omega)];rfl
 . rw[Lib.encodeRuneZ_four (by omega) (by omega),if_neg (by omega),if_neg (by omega),if_neg (by omega),if_neg (by omega),if_neg (by omega),if_pos (by omega)];rfl
theorem Pm: ∀(n:Nat) (l:List UInt8) (p:Nat),Fm p (As n l p)=p+D7 n l
 |0,l,p=>by simp[As,Fm,D7]
 |n+1,l,p=>by
  simp only[As,D7];by_cases h1:l= []
  . rw[if_pos h1,if_pos h1];rfl
  rw[if_neg h1,if_neg h1];by_cases h2:(Lib.decodeL l).1=65533/\(Lib.decodeL l).2=1
  . rw[if_pos h2,if_pos h2];rfl
  rw[if_neg h2,if_neg h2];simp only[Fm];by_cases h3:32<=(Lib.decodeL l).1/\(Lib.decodeL l).1≠34/\(Lib.decodeL l).1≠92
  . have e:Gk (Lib.decodeL l).1=true:=by unfold Gk;exact decide_eq_true h3
    have hl:(Lib.encodeRune ((Lib.decodeL l).1:Int)).length=(Lib.decodeL l).2:=by
     rw[Lib.encode_decode l h1 h2,List.length_take];have:=Lib.decodeL_le l h1;omega
    rw[if_pos e,if_pos h3,hl,Pm n _ _];omega
  . have e:Gk (Lib.decodeL l).1=false:=by unfold Gk;exact decide_eq_false h3
    rw[e,if_neg (by decide),if_neg h3];rfl
theorem Tp: ∀(n:Nat) (l:List UInt8),D7 n l<=l.length
 |0,l=>Nat.zero_le _
 |n+1,l=>by
  simp only[D7]
  split
  . exact Nat.zero_le _
  rename_i h1
  split
  . exact Nat.zero_le _
  split
  . have:=Lib.decodeL_le l h1;have h2:=Tp n (l.drop (Lib.decodeL l).2);rw[List.length_drop]at h2;omega
  . exact Nat.zero_le _
def Vs:List (Nat×Nat)->Nat
 | []=>0
 |x::r=>match r with
  | []=>x.1+(Lib.encodeRune (x.2:Int)).length
  |y::r'=>Vs (y::r')
theorem Adc (l:List (Nat×Nat)) (x:Nat×Nat):Vs (l++ [x])=x.1+(Lib.encodeRune (x.2:Int)).length:=by
 induction l with
 |nil=>rfl
 |cons a l ih=>
  cases l with
  |nil=>rfl
  |cons b l=>exact ih
theorem Mj: ∀(l r:List (Nat×Nat)) (z:Nat),(∀x ∈ l,Gk x.2=true)->Fm z (l++r)=Fm (if l= []then z else Vs l) r
 | [],r,z,_=>by simp
 |a::l,r,z,h=>by
  rw[List.cons_append,Fm,if_pos (h a (by simp)),Mj l r _ (fun x hx=>h x (by simp[hx]))]
  cases l with
  |nil=>rfl
  |cons b l=>rfl
theorem Nt: ∀(n:Nat) (l:List UInt8) (p:Nat),∀x ∈ As n l p,x.1+(Lib.encodeRune (x.2:Int)).length<=p+l.length
 |0,_,_,x,hx=>by simp[As]at hx
 |n+1,l,p,x,hx=>by
  simp only[As]at hx
  split at hx
  . cases hx
  rename_i h1
  split at hx
  . cases hx
  rename_i h2;have hd:=Lib.decodeL_le l h1;rcases List.mem_cons.1 hx with rfl|hx
  . simp only;rw[Lib.encode_decode l h1 h2,List.length_take];omega
  . have:=Nt n _ _ x hx;rw[List.length_drop]at this;omega
def PI (s:ByteArray) (w:World) (d:Nat) (pre:List (Nat×Nat)) (W:World):Prop:=
 Below w.heap.size w W/\Aj W w.heap.size 3 #[.int .i64 0]/\Aj W (w.heap.size+1) 3 #[.int .i64 (Vs pre)]/\(∀x ∈ pre,Gk x.2=true)/\W.heap[d]? =some (.cells #[.string s] 9 (0,0))
def PX (w:World) (v:Nat) (W:World):Prop:=Below w.heap.size w W/\Aj W w.heap.size 3 #[.int .i64 v]
theorem M6 {A:World} {g k:Nat} {t:TypeId} {cs:Array Value} {o o':Obj} (h:Aj A g t cs) (ho:A.heap[k]? =some o) (hc:o.isCells=false):Aj (A.putObj k o') g t cs:=by
 by_cases e:g=k
 . subst e;unfold Aj at h;rw[h]at ho
   cases ho
   cases hc
 . exact(World.putObj_heap_other e).trans h
theorem K6 {B:Nat} {a A:World} {k:Nat} (h:Below B a A) (hB:B<=A.heap.size) (hk:B<=k) (o':Obj):Below B a (A.putObj k o'):=h.grown (grownBy_putObj' A k o') hB (fun j e=>by cases e;exact hk)
theorem Xw (s:ByteArray) (w:World) (hT:B3 w) (hs:s.size<=1000000000):
 Calls Tryz.prog 289 #[.string s] w fun e w'=>e=.returned (.int .i64 (D7 s.size s.data.toList:Nat))/\Below w.heap.size w w':=by
 have hfin:Fm 0 (Cf s)=D7 s.size s.data.toList:=by
  unfold Cf;rw[Pm];omega
 rw[<-hfin];have Hrs: ∀pre x rest,Cf s=pre++x::rest->El x.2/\x.1+(Lib.encodeRune (x.2:Int)).length<=s.size:=by
  intro pre x rest h;have hm:x ∈ As s.size s.data.toList 0:=by show x ∈ Cf s;rw[h];simp
  refine⟨Gf _ _ _ x hm, ?_⟩;have:=Nt s.size s.data.toList 0 x hm
  rwa [Ab,Nat.zero_add]at this
 refine(callsIn_wide (n:=12)).1 ?_;refine callsIn_of_wp_marks Tryz.func289 rfl trivial ?_ rfl;simp only[Tryz.ntmps289,List.size_toArray,List.length_cons,List.length_nil,Nat.reduceAdd,Nat.reduceSub,Array.replicate_succ,Array.replicate_zero,List.push_toArray,List.append_toArray,List.nil_append,List.cons_append];have Hx0:=qz (((Aj.new w 3 #[.int .i64 0]).alloc (.cells #[.int .i64 0] 3)).alloc (.cells #[.string s] 9));have hx1:=(Aj.new (w.alloc (.cells #[.int .i64 0] 3)) 3 #[.int .i64 0]).alloc (.cells #[.string s] 9);rw[World.size_alloc]at hx1;have Hbw:=qz ((((Below.refl w.heap.size w).alloc (Nat.le_refl _) (.cells #[.int .i64 0] 3)).alloc (by simp) (.cells #[.int .i64 0] 3)).alloc (by simp;omega) (.cells #[.string s] 9));have hnew:=heap_alloc_new ((w.alloc (.cells #[.int .i64 0] 3)).alloc (.cells #[.int .i64 0] 3)) (.cells #[.string s] 9);have hsz:((w.alloc (.cells #[.int .i64 0] 3)).alloc (.cells #[.int .i64 0] 3)).heap.size=w.heap.size+2:=by simp
 rw[hsz]at hnew;obtain⟨Hx1,Hfin,Hnew,Hsz⟩:=hid4 hx1 hfin hnew hsz;clear hx1 hfin hnew hsz
 gi_wp2_with (refine⟨trivial, ?_⟩;gi_at_call 242;refine(callsIn_wide.2 (O2 _ _)).mono ?_;rintro e w3 ⟨rfl,rfl⟩)
 have hz3:(((w.alloc (.cells #[.int .i64 0] 3)).alloc (.cells #[.int .i64 0] 3)).alloc (.cells #[.string s] 9)).heap.size=w.heap.size+3:=by simp
 generalize ((w.alloc (.cells #[.int .i64 0] 3)).alloc (.cells #[.int .i64 0] 3)).alloc (.cells #[.string s] 9)=w3 at*
 have hyld:=Yd s (w.heap.size+2) hs;refine S4 (n:=10) (gf:=282) (lb:= #[.pointer (some ⟨w.heap.size+2,0,none⟩)]) rfl (enters_of Tryz.func282 (by kernel_rfl) rfl) hyld (fun _=>rfl)
  (fun pre W=>PI s w (w.heap.size+2) pre W/\w.heap.size+3<=W.heap.size) (fun W=>PX w (Fm 0 (Cf s)) W/\w.heap.size+3<=W.heap.size) ?hIn ?hXn ?hXp ?hIp ?hIb ?h0 ?a1 ?assign ?body ?stop ?done
 case assign=>
  intro l x W K hK
  gi_wp2
  exact hK
 case h0=>exact⟨⟨Hbw.out,Hx0.out,Hx1.out,fun x hx=>(by cases hx),Hnew.out⟩,by omega⟩
 case hIb=>
  rintro pre A ⟨⟨h1,_,_,_,h4⟩,_⟩;exact⟨(Lib.cell_of_heap h4 0).trans rfl,hT.below h1⟩
 case hIn=>
  rintro pre A B ⟨⟨h1,h2,h3,h4,h5⟩,h6⟩ hb;exact⟨⟨h1.trans (hb.mono h1.size),h2.below hb h2.lt,h3.below hb h3.lt,h4,(hb.block _ (Array.getElem?_eq_some_iff.1 h5).1).trans h5⟩,Nat.le_trans h6 hb.size⟩
 case hXn=>
  rintro A B ⟨⟨h1,h2⟩,h6⟩ hb;exact⟨⟨h1.trans (hb.mono h1.size),h2.below hb h2.lt⟩,Nat.le_trans h6 hb.size⟩
 case hXp=>
  rintro A k o o' ⟨⟨h1,h2⟩,h6⟩ ho hc hk;exact⟨⟨K6 h1 h1.size (by omega) _,M6 h2 ho hc⟩,by simpa using h6⟩
 case hIp=>
  rintro pre A k o o' ⟨⟨h1,h2,h3,h4,h5⟩,h6⟩ ho hc hk;exact⟨⟨K6 h1 h1.size (by omega) _,M6 h2 ho hc,M6 h3 ho hc,h4,(World.putObj_heap_other (by omega)).trans h5⟩,by simpa using h6⟩
 case body=>
  rintro l pre ⟨p,r⟩ rest W hx ⟨⟨h1,h2,h3,h4,h5⟩,h6⟩ ⟨ds,hds⟩ ⟨rc,hrc⟩;obtain⟨hsc,hle⟩:=Hrs pre (p,r) rest hx;simp only at hsc hle;have c0:=h2.cell 0;have c1:=h3.cell 0;have f0:=h2.frozen 0;have f1:=h3.frozen 0;have hl0:=h2.lt;have hl1:=h3.lt
  cases hB:Gk r with
  |true=>
   have hB':decide (32<=(r:Int)/\(r:Int)≠34/\(r:Int)≠92)=true:=by
    unfold Gk at hB;rw[decide_eq_true_eq]at hB ⊢;omega
   have hRL:=fun W=>Tryz.utf8_RuneLen (r:Int) W;rw[Aaf hsc]at hRL;have hfinI: ∀(a:Act),Le (fun W=>PI s w (w.heap.size+2) (pre++ [(p,r)]) W/\w.heap.size+3<=W.heap.size) (fun W=>PX w (Fm 0 (Cf s)) W/\w.heap.size+3<=W.heap.size) w3.heap.size W .normal a (W.setCell ⟨w.heap.size+1,0,none⟩ (.int .i64 ((p:Int)+((Lib.encodeRune (r:Int)).length:Nat)))):=by
    intro a;refine⟨Below.heap_setCell _ _ _ _ (by show w3.heap.size≠w.heap.size+1;omega),Below.heap_setCell _ _ _ _ (by show w3.heap.size+1≠w.heap.size+1;omega),⟨h1.setCell (p:=⟨w.heap.size+1,0,none⟩) (by show w.heap.size<=w.heap.size+1;omega) _,h2.far (by show w.heap.size≠w.heap.size+1;omega) _, ?_, ?_,(Below.heap_setCell _ _ _ _ (by show w.heap.size+2≠w.heap.size+1;omega)).trans h5⟩,by simpa[World.setCell]using h6⟩
    . have:=h3.set_ 0 (.int .i64 ((p:Int)+((Lib.encodeRune (r:Int)).length:Nat)));rw[Adc];simpa using this
    . intro x hx';rcases List.mem_append.1 hx' with hx'|hx'
      . exact h4 x hx'
      . simp only[List.mem_singleton]at hx';rw[hx'];exact hB
   generalize (Lib.encodeRune (r:Int)).length=n at hRL hle hfinI;obtain⟨HRL,HfinI,H1,H2,H3,H4,H5,Hx,Hds,Hrc⟩:=hid10 hRL hfinI h1 h2 h3 h4 h5 hx hds hrc;clear hRL hfinI h1 h2 h3 h4 h5 hx hds hrc;clear hB
   gi_wp2_with (first|(refine⟨trivial, ?_⟩;gi_at_call 243;refine(CallsIn.inRound l (callsIn_wide.2 (Cq hB' _))).mono ?_;rintro e wx ⟨rfl,rfl⟩)|(refine⟨trivial, ?_⟩;gi_at_call 316;refine(CallsIn.inRound l (callsIn_wide.2 (HRL.out _))).mono ?_;rintro e wx ⟨rfl,rfl⟩))
   exact HfinI.out _
  |false=>
   have hB':decide (32<=(r:Int)/\(r:Int)≠34/\(r:Int)≠92)=false:=by
    unfold Gk at hB;rw[decide_eq_false_iff_not]at hB ⊢;omega
   have hval:Fm 0 (Cf s)=p:=by
    rw[hx,Mj _ _ _ h4,Fm,hB,if_neg (by decide)]
   have hfinX: ∀(a:Act),Le (fun W=>PI s w (w.heap.size+2) (pre++ [(p,r)]) W/\w.heap.size+3<=W.heap.size) (fun W=>PX w (Fm 0 (Cf s)) W/\w.heap.size+3<=W.heap.size) w3.heap.size W .ret a (W.setCell ⟨w.heap.size,0,none⟩ (.int .i64 (p:Int))):=by
    intro a;refine⟨Below.heap_setCell _ _ _ _ (by show w3.heap.size≠w.heap.size;omega),Below.heap_setCell _ _ _ _ (by show w3.heap.size+1≠w.heap.size;omega),⟨h1.setCell (p:=⟨w.heap.size,0,none⟩) (Nat.le_refl _) _, ?_⟩,by simpa[World.setCell]using h6⟩;have:=h2.set_ 0 (.int .i64 (p:Int));rw[hval];exact this
   obtain⟨HfinX,H1,H2,H3,H4,H5,Hx,Hds,Hrc,Hval⟩:=hid10 hfinX h1 h2 h3 h4 h5 hx hds hrc hval;clear hfinX h1 h2 h3 h4 h5 hx hds hrc hval;clear hB
   gi_wp2_with (refine⟨trivial, ?_⟩;gi_at_call 243;refine(CallsIn.inRound l (callsIn_wide.2 (Cq hB' _))).mono ?_;rintro e wx ⟨rfl,rfl⟩)
   exact HfinX.out _
 case stop=>
  rintro W ⟨⟨h1,h2⟩,h6⟩ hds;have h2':=M6 h2 hds rfl (o':=.deferred none);have c0:=h2'.cell 0;have Hb':=qz (K6 h1 h1.size (k:=w3.heap.size) (by omega) (.deferred none));obtain⟨H1,H2,H2'⟩:=hid3 h1 h2 h2';clear h1 h2 h2'
  gi_wp2
  refine⟨by simp,.inl ⟨_,_,rfl,run_takeDeferred hds, ?_⟩⟩;refine⟨.int .i64 (Fm 0 (Cf s):Nat), ?_,rfl,Hb'.out⟩;simp[results,Tryz.results289,go_sem,c0]
 case done=>
  rintro W ⟨⟨h1,h2,h3,h4,h5⟩,h6⟩ hds;have hval:Fm 0 (Cf s)=Vs (Cf s):=by
   have:=Mj (Cf s) [] 0 h4;rw[List.append_nil]at this;rw[this]
   split
   . rename_i e;rw[e];rfl
   . rfl
  have c0:=h2.cell 0;have c1:=h3.cell 0;have f0:=h2.frozen 0;have hl0:=h2.lt;have hds':=(Below.heap_setCell W ⟨w.heap.size,0,none⟩ (.int .i64 (Vs (Cf s):Nat)) w3.heap.size (by show w3.heap.size≠w.heap.size;omega)).trans hds;have h2':=M6 (h2.set_ 0 (.int .i64 (Vs (Cf s):Nat))) hds' rfl (o':=.deferred none);have c0':=h2'.cell 0;have Hb':=qz (K6 (h1.setCell (p:=⟨w.heap.size,0,none⟩) (Nat.le_refl _) (.int .i64 (Vs (Cf s):Nat))) (by simpa[World.setCell]using h1.size) (k:=w3.heap.size) (by omega) (.deferred none));obtain⟨H1,H2,H3,H4,H5,H2',Hval,Hds'⟩:=hid8 h1 h2 h3 h4 h5 h2' hval hds';clear h1 h2 h3 h4 h5 h2' hval hds'
  gi_wp2
  refine⟨by simp,.inl ⟨_,_,rfl,run_takeDeferred Hds'.out, ?_⟩⟩;refine⟨.int .i64 (Vs (Cf s):Nat), ?_,by rw[Hval.out],Hb'.out⟩;simp[results,Tryz.results289,go_sem,c0']
abbrev Kh:TypeId:=149
theorem C6:MKey Tryz.prog 5 (Value.int .u8):=Ae1 Tryz.underlying5
section
variable {α:Type} [DecidableEq α] {f:α->Value} {P:Program} {kt et t:TypeId} {w w':World} {g:Nat} {kv:List (α×Value)}
theorem Bh {a k:α} {v:Value} {r:List (α×Value)} (h:a≠k) (hr:Ed a r=none):Ed a ((k,v)::r)=none:=by
 simp only[Ed,if_neg h];exact hr
end
structure NR (s:ByteArray) (w wr:World) (m:Option Nat) (kv:List (Int×Value)):Prop where
 below:Below w.heap.size w wr
 map:Cr (Value.int .u8) wr (w.heap.size+1) kv
 blk:Aj wr w.heap.size 151 #[.string s,.int .i64 0,.map m]
theorem NR.ins {s:ByteArray} {w wr w':World} {m:Option Nat} {kv kv':List (Int×Value)} (h:NR s w wr m kv) (hM:Cr (Value.int .u8) w' (w.heap.size+1) kv') (hg:wr.grownBy w' (some (w.heap.size+1))):NR s w w' m kv':=
 ⟨h.below.grown hg h.below.size fun k e=>by have:=Option.some.inj e;omega,hM,h.blk.grown hg (by intro e;have:=Option.some.inj e;omega)⟩
theorem NR.set {s:ByteArray} {w wr:World} {m:Option Nat} {kv:List (Int×Value)} (h:NR s w wr m kv):NR s w (wr.setCell ⟨w.heap.size,2,none⟩ (.map (some (w.heap.size+1)))) (some (w.heap.size+1)) kv:=
 ⟨h.below.setCell (Nat.le_refl _) _,h.map.setCell (by show w.heap.size+1≠w.heap.size;omega) _,by have:=h.blk.set_ 2 (.map (some (w.heap.size+1)));exact this⟩
theorem Afm (R:Nat): ∀j:Nat,j<10->Ed (48+(j:Int)) ((KV R).take (7+j))=none/\(KV R).take (7+j)++ [(48+(j:Int),Value.func (.func 150) #[.pointer (some ⟨R,0,none⟩)] #[])]=(KV R).take (7+(j+1)):=by
 intro j hj
 match j,hj with
 |0,_|1,_|2,_|3,_|4,_|5,_|6,_|7,_|8,_|9,_=>exact⟨by simp[KV,Ed],rfl⟩
theorem Qe (s:ByteArray) (w:World):Calls Tryz.prog 84 #[.string s] w fun e w'=>e=.returned (.pointer (some ⟨w.heap.size,0,none⟩))/\NR s w w' (some (w.heap.size+1)) (KV w.heap.size):=by
 have hmm:=fun W=>run_makeMap (P:=Tryz.prog) Kh W;have hS0:NR s w ((w.alloc (.cells #[.string s,.int .i64 0,.map none] 151)).alloc (.map #[] 0)) none []:=by
  have:=Cr.new (f:=Value.int .u8) (w.alloc (.cells #[.string s,.int .i64 0,.map none] 151));rw[World.size_alloc]at this;exact⟨((Below.refl _ _).alloc (Nat.le_refl _) _).alloc (by simp) _,this,(Aj.new _ _ _).alloc _⟩
 have HS0:=qz hS0;clear hS0;go_enter Tryz.func84,Tryz.ntmps84;go_upto_region 2 with(fail);go_upto_region 3 with(first
  |(((with_reducible refine C7 rfl (.tmp 9) _ _ Kh rfl C6 Tryz.underlying149 rfl HS0.out.map (k:=110) rfl rfl rfl ?_));intro w1 hM hg hs;have HS1:=qz (HS0.out.ins hM hg);(have r2:=HS1.out.blk.cell 2);(have f2:=HS1.out.blk.frozen 2);(have hlt:=HS1.out.blk.lt);clear hM hg hs HS0)
  |(((with_reducible refine C7 rfl (.tmp 9) _ _ Kh rfl C6 Tryz.underlying149 rfl HS1.out.map (k:=102) rfl rfl (Bh (by decide) rfl) ?_));intro w2 hM hg hs;have HS2:=qz (HS1.out.ins hM hg);(have r2:=HS2.out.blk.cell 2);(have f2:=HS2.out.blk.frozen 2);(have hlt:=HS2.out.blk.lt);clear hM hg hs HS1)
  |(((with_reducible refine C7 rfl (.tmp 9) _ _ Kh rfl C6 Tryz.underlying149 rfl HS2.out.map (k:=116) rfl rfl (Bh (by decide) (Bh (by decide) rfl)) ?_));intro w3 hM hg hs;have HS3:=qz (HS2.out.ins hM hg);(have r2:=HS3.out.blk.cell 2);(have f2:=HS3.out.blk.frozen 2);(have hlt:=HS3.out.blk.lt);clear hM hg hs HS2)
  |(((with_reducible refine C7 rfl (.tmp 9) _ _ Kh rfl C6 Tryz.underlying149 rfl HS3.out.map (k:=34) rfl rfl (Bh (by decide) (Bh (by decide) (Bh (by decide) rfl))) ?_));intro w4 hM hg hs;have HS4:=qz (HS3.out.ins hM hg);(have r2:=HS4.out.blk.cell 2);(have f2:=HS4.out.blk.frozen 2);(have hlt:=HS4.out.blk.lt);clear hM hg hs HS3)
  |(((with_reducible refine C7 rfl (.tmp 9) _ _ Kh rfl C6 Tryz.underlying149 rfl HS4.out.map (k:=91) rfl rfl (Bh (by decide) (Bh (by decide) (Bh (by decide) (Bh (by decide) rfl)))) ?_));intro w5 hM hg hs;have HS5:=qz (HS4.out.ins hM hg);(have r2:=HS5.out.blk.cell 2);(have f2:=HS5.out.blk.frozen 2);(have hlt:=HS5.out.blk.lt);clear hM hg hs HS4)
  |(((with_reducible refine C7 rfl (.tmp 9) _ _ Kh rfl C6 Tryz.underlying149 rfl HS5.out.map (k:=123) rfl rfl (Bh (by decide) (Bh (by decide) (Bh (by decide) (Bh (by decide) (Bh (by decide) rfl))))) ?_));intro w6 hM hg hs;have HS6:=qz (HS5.out.ins hM hg);(have r2:=HS6.out.blk.cell 2);(have f2:=HS6.out.blk.frozen 2);(have hlt:=HS6.out.blk.lt);clear hM hg hs HS5)
  |(((with_reducible refine C7 rfl (.tmp 9) _ _ Kh rfl C6 Tryz.underlying149 rfl HS6.out.map (k:=45) rfl rfl (Bh (by decide) (Bh (by decide) (Bh (by decide) (Bh (by decide) (Bh (by decide) (Bh (by decide) rfl)))))) ?_));intro w7 hM hg hs;have HS7:=qz (HS6.out.ins hM hg);(have r2:=HS7.out.blk.cell 2);(have f2:=HS7.out.blk.frozen 2);(have hlt:=HS7.out.blk.lt);clear hM hg hs HS6))
 have h0:NR s w (w7.setCell ⟨w.heap.size,2,none⟩ (.map (some (w.heap.size+1)))) (some (w.heap.size+1)) ((KV w.heap.size).take (7+0)):=HS7.out.set;generalize w7.setCell ⟨w.heap.size,2,none⟩ (.map (some (w.heap.size+1)))=w8 at h0 ⊢;clear r2 f2 hlt HS7;have H0:=qz h0;clear h0;go_wp2;go_loopw [4] (fun i wr=> ∃j:Nat,i=.int .u8 (48+(j:Int))/\j<=10/\Hid (NR s w wr (some (w.heap.size+1)) ((KV w.heap.size).take (7+j)))) (fun i _=>58 - (intOf i).toNat)
 case atStart=>exact⟨0,rfl,by omega,H0⟩
 case round=>
  obtain⟨j,rfl,hj,hh⟩:=hrel;clear H0;have c2:=hh.out.blk.cell 2;have hlt:=hh.out.blk.lt;by_cases hlt':j<10
  . obtain⟨hn,hk⟩:=Afm w.heap.size j hlt';have l1:decide ((48:Int)+(j:Int)<=57)=true:=decide_eq_true (by omega);obtain⟨w9,hrun,hM,hg,_⟩:=Kt C6 Tryz.underlying149 hh.out.map hn (Value.func (.func 150) #[.pointer (some ⟨w.heap.size,0,none⟩)] #[]);rw[hk]at hM;have HN:=qz (hh.out.ins hM hg);clear hM hg hh hn hk;go_wp2;go_roundw
    case rel=>exact⟨j+1,by go_num,by omega,HN⟩
    case measure=>simp[intOf];omega
  . obtain rfl:j=10:=by omega
    go_wp2;go_ret;exact⟨rfl,hh.out⟩
def P9 (s:List UInt8) (f k:Nat):Nat:=E8 ((s.drop f).take k)
theorem Ab1 (s:List UInt8) (f:Nat):P9 s f 0=0:=by simp[P9,E8]
theorem Te {s:List UInt8} {f k:Nat} {c:UInt8} (h:s[f+k]? =some c):P9 s f (k+1)=P9 s f k*10+(c.toNat - 48):=by
 unfold P9;rw[List.take_add_one,List.getElem?_drop,h,Option.toList_some,Ab2]
theorem Ab0 {s:List UInt8} {f k m:Nat} (h:k<=m):P9 s f k<=P9 s f m:=by
 unfold P9;obtain⟨r,rfl⟩:=Nat.le.dest h;have:=Qm ((List.drop k (List.drop f s)).take r) (E8 ((List.drop f s).take k));unfold P8 at this;rw[List.take_add];unfold E8 at this ⊢;rw[List.foldl_append];exact this
theorem Yb {D d:Nat} (hd:d<=9):(-(D:Int)<Int.tdiv (-9223372036854775808+(d:Int)) 10) ↔ 9223372036854775808<D*10+d:=by
 have e:Int.tdiv (-9223372036854775808+(d:Int)) 10= -(((9223372036854775808 - d) / 10:Nat):Int):=by
  rw[show(-9223372036854775808+(d:Int))= -((9223372036854775808 - d:Nat):Int)from by omega,Int.neg_tdiv];rfl
 rw[e];omega
end Go.Proofs.YtkmcjfkokoidcaaGreatDoor
