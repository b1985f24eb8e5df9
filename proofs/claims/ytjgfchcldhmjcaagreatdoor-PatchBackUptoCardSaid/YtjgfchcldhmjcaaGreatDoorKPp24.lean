/- Parts: commonplaceref01: hex, Unquote. Condition: a text of at most 10^9 bytes. -/
import Derived.Deep.RegionLaw
import Derived.Test.YtjgfchcldhmjcaaGreatDoorKPp20
set_option maxHeartbeats 20000000
set_option maxRecDepth 100000
namespace Go.Proofs.YtjgfchcldhmjcaaGreatDoor
theorem Me: ∀{l r:List Val},(Am l).1≠0->Am (l++r)=((Am l).1, [])
 | [],_,h=>absurd rfl h
 |v::l,r,h=>by
  simp only[List.cons_append,Am]at h ⊢;by_cases a:(Ch v).1≠0
  . rw[if_pos a,if_pos a]
  . rw[if_neg a]at h ⊢;by_cases b:(Am l).1≠0
    . rw[Me b,if_pos b];simp only[a,if_false,b,not_false_eq_true,if_true,ne_eq]
    . rw[if_neg b]at h;exact absurd rfl h
theorem Md: ∀{l:List Val} {v:Val},(Am l).1=0->Am (l++ [v])=if(Ch v).1≠0 then((Ch v).1, [])else(0,(Am l).2++ [(Ch v).2])
 | [],v,_=>by
   simp only[List.nil_append,Am];by_cases a:(Ch v).1≠0
   . rw[if_pos a,if_pos a]
   . rw[if_neg a,if_neg a];rfl
 |x::l,v,h=>by
  simp only[List.cons_append,Am]at h ⊢;by_cases a:(Ch x).1≠0
  . rw[if_pos a]at h;exact absurd h a
  . rw[if_neg a]at h ⊢;by_cases b:(Am l).1≠0
    . rw[if_pos b]at h;exact absurd h b
    . have h0:(Am l).1=0:=by simpa using b
      rw[Md h0,if_neg a,if_neg b];by_cases c:(Ch v).1≠0
      . simp[c]
      . simp only[ne_eq,Decidable.not_not]at c;simp[c]
theorem Af1 {key:ByteArray} {o:List (ByteArray×Val)}:(Ea ((Av key o).getD Ls)).size<=Af o:=by
 cases h:Av key o with
 |none=>exact Nat.zero_le _
 |some x=>
  have a:=C4 (Ia h);obtain⟨k,b,n,t,l,r⟩:=x;simp only[Val.bulk]at a;show t.size<=_;omega
theorem Ail {key:ByteArray} {o:List (ByteArray×Val)}:((Av key o).getD Ls).bulk<=Af o+6:=by
 cases h:Av key o with
 |none=>show Ls.bulk<=_;have:Ls.bulk=6:=by decide
        omega
 |some x=>
  have a:=C4 (Ia h);simp only at a;show x.bulk<=_;omega
theorem Aep {key:ByteArray}: ∀{o:List (ByteArray×Val)},I6 o->I9 ((Av key o).getD Ls)
 | [],_=>⟨⟨by decide,by decide⟩,trivial,trivial⟩
 |(a,x)::r,h=>by
  unfold Av;by_cases e:a=key
  . rw[if_pos e];exact h.1
  . rw[if_neg e];exact Aep h.2
theorem Agj {v:Val} (p:I9 v) (h:(Ed v).1=0):2+(Ed v).2.key.size+(Ed v).2.v.bulk<=3*v.bulk/\I9 (Ed v).2.v:=by
 obtain⟨k,b,n,t,l,o⟩:=v;have j:=Af1 (key:=Aw) (o:=o);have m:=Ail (key:=Bu) (o:=o);have i:=Aep (key:=Bu) p.2.2;unfold Ed at h ⊢;by_cases a1:Bo (.mk k b n t l o)≠6
 . rw[if_pos a1]at h;exact absurd h (show ¬(9:Int)=0 by omega)
 rw[if_neg a1]at h ⊢
 cases a2:Av Cf (Bx (.mk k b n t l o))with
 |none=>rw[a2]at h;exact absurd h (show ¬(10:Int)=0 by omega)
 |some nm=>
 rw[a2]at h;simp only at h ⊢;by_cases c:Bo nm≠4
 . rw[if_pos c]at h;exact absurd h (show ¬(9:Int)=0 by omega)
 rw[if_neg c]at h ⊢
 cases a4:Ka (Ea nm)with
 |none=>rw[a4]at h;exact absurd h (show ¬(12:Int)=0 by omega)
 |some f=>
 obtain⟨q,a,g⟩:=f;rw[a4]at h;simp only at h ⊢;by_cases d:(Av Aw (Bx (.mk k b n t l o))).isSome≠a\/(Av Bu (Bx (.mk k b n t l o))).isSome≠g\/(Bx (.mk k b n t l o)).length≠1+(if a=true then 1 else 0)+(if g=true then 1 else 0)
 . rw[if_pos d]at h;exact absurd h (show ¬(10:Int)=0 by omega)
 rw[if_neg d]at h ⊢;by_cases e:a=true/\Bo ((Av Aw (Bx (.mk k b n t l o))).getD Ls)≠4
 . rw[if_pos e]at h;exact absurd h (show ¬(9:Int)=0 by omega)
 rw[if_neg e];simp only[Bx,Val.bulk]at j m i ⊢;exact⟨by omega,i⟩
end Go.Proofs.YtjgfchcldhmjcaaGreatDoor
namespace Go.Proofs.YtjgfchcldhmjcaaGreatDoor
open Go Go.RowKit
structure LRd (w wr:World) (R g:Nat) (s:ByteArray) (d:Int) (RES:Rd Val) (f n j:Nat) (acc:List Val) (V:Value):Prop where
 all:RdL w wr R g s j #[.int .i64 5,.bool false,.int .i64 0,.string ⟨#[]⟩,V,.slice none 0 0]
 row:C3 (w.heap.size+2) 42 6 wr (dL acc) V
 is:Dk n s.data.toList j d acc=RES
 fuel:4*(s.size - j)+2<=n
 lt:n<f
 few:acc.length<=j
theorem Yc (w0:World) (R g:Nat) (s:ByteArray) (f:Nat) (ih: ∀f',f'<f->Akh w0 R g s f') (w:World) (k:Nat) (d:Int) (h:RdI w0 w R g s k) (hs:s.size<=100000000) (hk:k<s.size) (hf:4*(s.size - k)<=f) (bz:0<=d) (hd:d<=64):
 Calls Tryz.prog 138 #[.pointer (some ⟨R,0,none⟩),.int .i64 d] w (Gu R g s w (Hd f s.data.toList k d)):=by
 obtain⟨j0,hj,a8,a9,ba⟩:=info_parts Ui;have X:R<w.heap.size:=Ap.lt h.rd;obtain⟨f,rfl⟩: ∃n,f=n+1:=⟨f - 1,by omega⟩;have hP:=Bq (s:=s) (k:=k+1) (by omega);have bm:=Bv s.data.toList (k+1);have a2:RdL w (((w.setCell ⟨R,1,none⟩ (.int .i64 ((k+1:Nat):Int))).alloc (.cells Al 42)).alloc (.cells #[.int .i64 5,.bool false,.int .i64 0,.string ⟨#[]⟩,.slice none 0 0,.slice none 0 0] 42)) R g s (k+1) #[.int .i64 5,.bool false,.int .i64 0,.string ⟨#[]⟩,.slice none 0 0,.slice none 0 0]:=by
  refine⟨(((Bj.refl h.rd).set _).alloc _).alloc _, ?_, ?_⟩
  . have:=(Ap.new (w.setCell ⟨R,1,none⟩ (.int .i64 ((k+1:Nat):Int))) 42 Al).alloc (.cells #[.int .i64 5,.bool false,.int .i64 0,.string ⟨#[]⟩,.slice none 0 0,.slice none 0 0] 42);simpa[World.setCell]using this
  . have:=Ap.new ((w.setCell ⟨R,1,none⟩ (.int .i64 ((k+1:Nat):Int))).alloc (.cells Al 42)) 42 #[.int .i64 5,.bool false,.int .i64 0,.string ⟨#[]⟩,.slice none 0 0,.slice none 0 0];simpa[World.setCell]using this
 obtain⟨c0,c1,_,f1,_⟩:=h.rd.cells;have ek:((k:Int)+1)=((k+1:Nat):Int):=by omega
 obtain⟨bh,L⟩: ∃r,Hd (f+1) s.data.toList k d=r:=⟨_,rfl⟩;rw[L];unfold Hd at L
 cases hB:decide (s.data.toList[Ak s.data.toList (k+1)]? =some 93)with
 |true=>
  have G:=hB;rw[decide_eq_true_iff]at G;rw[if_pos G]at L;subst L;clear G;obtain⟨Hj,az,a0,a1,Ih,H,N,Ek,HB⟩:=hid9 hj a8 a9 ba ih h a2 ek hB;clear hj a8 a9 ba ih h a2 ek hB;go_enter Tryz.func138,Tryz.ntmps138;go_wp2
  go_step3
  go_wp2_with (fail);rw[Ek.out];generalize ((w.setCell ⟨R,1,none⟩ (.int .i64 ((k+1:Nat):Int))).alloc (.cells Al 42)).alloc (.cells #[.int .i64 5,.bool false,.int .i64 0,.string ⟨#[]⟩,.slice none 0 0,.slice none 0 0] 42)=w1 at N ⊢;have hC:=D5 R g s (k+1) 93 93 (by decide) w1 (by omega) (by omega) N.out.went.2 HB.out;rw[if_pos rfl]at hC;(with_reducible refine hC.mono ?_);rintro e w2 ⟨rfl,h2⟩;have T:=N.out.to_ X h2;obtain⟨y0,y1,y2,y3,y4,y5⟩:=At T.var;obtain⟨r0,r1,r2,r3,r4,r5⟩:=At T.res;have fz:=T.res.frozen;have bq:=qz T;clear T;clear hC c0 c1 f1 h2 N;dsimp only
  repeat go_step
  obtain⟨a7,a4⟩:=bq.out.leave X (.int .i64 5) (.bool false) (.int .i64 0) (.string ⟨#[]⟩) (.slice none 0 0) (.slice none 0 0);rw[Exit.noGoto_ret];exact bodyPost_ret (Br rfl rfl a7) rfl ⟨⟨_,rfl,Bz 5 false 0 _⟩,a4⟩
 |false=>
  have G:=hB;rw[decide_eq_false_iff_not]at G;rw[if_neg G]at L;clear G;obtain⟨Hj,az,a0,a1,Ih,H,N,Ek,HB,bb⟩:=hid10 hj a8 a9 ba ih h a2 ek hB L;clear hj a8 a9 ba ih h a2 ek hB L;go_enter Tryz.func138,Tryz.ntmps138;go_wp2
  go_step3
  go_wp2_with (fail);rw[Ek.out];generalize ((w.setCell ⟨R,1,none⟩ (.int .i64 ((k+1:Nat):Int))).alloc (.cells Al 42)).alloc (.cells #[.int .i64 5,.bool false,.int .i64 0,.string ⟨#[]⟩,.slice none 0 0,.slice none 0 0] 42)=w1 at N ⊢;have hC:=D5 R g s (k+1) 93 93 (by decide) w1 (by omega) (by omega) N.out.went.2 HB.out;rw[if_neg (by decide)]at hC;(with_reducible refine hC.mono ?_);rintro e w2 ⟨rfl,h2⟩;have T:=N.out.to_ X h2;have bf:Hid (LRd w w2 R g s d bh (f+1) f (Ak s.data.toList (k+1)) [] (.slice none 0 0)):=⟨T,by simpa[dL]using C3.nil _ _ _ _,bb.out,by omega,by omega,by simp⟩;clear hC c0 c1 f1 h2 N bb T HB;generalize Ak s.data.toList (k+1)=p1 at bf hP bm;go_wp2
  go_step3
  go_wp2
  go_loopg [] f (fun n wr=> ∃m j acc V,m=n/\j<=s.size/\Hid (LRd w wr R g s d bh (f+1) n j acc V))
  case atStart=>exact⟨f,p1, [],_,rfl,hP,bf⟩
  case round=>
   obtain⟨n,j,acc,V,rfl,hj,hh⟩:=hrel;clear bf hP bm p1;have b2:=hh.out.fuel;have b3:=hh.out.lt;have b0:=hh.out.few;obtain⟨n,rfl⟩: ∃m,n=m+1:=⟨n - 1,by omega⟩;have hI:=hh.out.all;have ac:=hh.out.row;have ab:=hh.out.is;obtain⟨aV,cV,rfl⟩:=ac.slice;have bi:=H.out.to hI.went;have hC: ∀W,Below wr.heap.size wr W->Calls Tryz.prog 81 #[.pointer (some ⟨R,0,none⟩),.int .i64 (d+1)] W (Gu R g s W (Bb n s.data.toList j (d+1))):=fun W hW=>Ih.out n (by omega) W j (d+1) (bi.later hW) hj (by omega) (by omega) (by omega);have hw:=(Ee n).1 s.data.toList j (d+1) (by rw[Ac];exact hj);unfold Dk at ab;have bw:IntKind.i64.wrap (d+1)=d+1:=IntWalk.i64_in _ (by omega);have y4:=hI.var.cell 4;have b1:=hI.var.lt;have dl:(dL acc).length=acc.length:=K8 _
   cases hr:Bb n s.data.toList j (d+1)with
   |bad c q=>
    rw[hr]at hC ab;simp only at ab;subst ab;have ay:=qz hI.var.drew;have ak:=qz ac;have av:=qz (show R<wr.heap.size by have:=hI.went.1.size;omega);obtain⟨HC,HI,Dl⟩:=hid3 hC hI dl;clear hC hI dl;clear hw hr hh bi y4 ac;go_upto_region 5 with(fail);refine wp_region_held_drew (S:=fun _=>True) (by kernel_rfl) trivial (fun a=> ?_);refine tkH 0 a ?_;refine tkH 2 a ?_;refine tkH 3 a ?_;refine tkH 4 a ?_;refine wpAnyH_ready (rs:= [1,5]) (by kernel_rfl) (by simp) ?_;refine AllReadyH.cons rfl (fun K o=> ?_) (AllReadyH.cons rfl (fun K o=> ?_) AllReadyH.nil)
    . skip;have e4:=ay.out.cell 4;go_simp;refine o.out _ _ trivial (fun a=> ?_);clear o K e4
      try simp only[Act.put,tk4,tk5,tk6]
      refine wpAnyH_ready (rs:= [5]) (by kernel_rfl) (by simp) ?_;refine AllReadyH.cons rfl (fun K o=> ?_) AllReadyH.nil;go_simp;(with_reducible refine(HC.out _ (Below.drew (Below.refl _ _))).mono ?_);rintro e w4 ⟨rfl,hg⟩;exact⟨rfl,rfl,B2 HI.out.went.1 ⟨hg.os,hg.tape,hg.output,hg.size,hg.block⟩⟩
    . skip;go_simp;(with_reducible refine(HC.out _ (Below.drew (Below.refl _ _))).mono ?_);rintro e w4 ⟨rfl,hg⟩;exact⟨rfl,rfl,B2 HI.out.went.1 ⟨hg.os,hg.tape,hg.output,hg.size,hg.block⟩⟩
   |ok v q=>
    rw[hr]at hC ab hw;simp only at ab;obtain⟨b5,a5⟩:=hw;rw[Ac]at a5;obtain⟨D,b',E,F,l',o'⟩:=v;have bp:dL acc++ [dV (.mk D b' E F l' o')]=dL (acc++ [.mk D b' E F l' o']):=by rw[Gz,Gz];simp
    have af:Hid ((dL acc).length+1<=maxLen/\((dL acc).length+1)*88<=140737488355328):=by rw[dl];exact⟨by simp only[maxLen];omega,by omega⟩
    have ay:=qz hI.var.drew;have ak:=qz ac;have av:=qz (show R<wr.heap.size by have:=hI.went.1.size;omega);obtain⟨HC,HI,Dl,ax,bk⟩:=hid5 hC hI dl bp ab;clear hC hI dl bp ab;clear hr hh bi y4 ac;go_upto_region 5 with(fail);go_cut [] (fun wx=>Hid (∃V,RdL w wx R g s q #[.int .i64 5,.bool false,.int .i64 0,.string ⟨#[]⟩,V,.slice none 0 0]/\C3 (w.heap.size+2) 42 6 wx (dL (acc++ [.mk D b' E F l' o'])) V))
    case first=>
     refine wp_region_held_drew (S:=fun _=>True) (by kernel_rfl) trivial (fun a=> ?_);refine tkH 0 a ?_;refine tkH 2 a ?_;refine tkH 3 a ?_;refine tkH 4 a ?_;refine wpAnyH_ready (rs:= [1,5]) (by kernel_rfl) (by simp) ?_;refine AllReadyH.cons rfl (fun K o=> ?_) (AllReadyH.cons rfl (fun K o=> ?_) AllReadyH.nil)
     . skip;have e4:=ay.out.cell 4;go_simp;refine o.out _ _ trivial (fun a=> ?_);clear o K e4
       try simp only[Act.put,tk4,tk5,tk6]
       refine wpAnyH_ready (rs:= [5]) (by kernel_rfl) (by simp) ?_;refine AllReadyH.cons rfl (fun K o=> ?_) AllReadyH.nil;go_simp;(with_reducible refine(HC.out _ (Below.drew (Below.refl _ _))).mono ?_);rintro e w4 ⟨⟨cs,rfl,ai⟩,h4⟩;obtain⟨t,u,x,y,rfl⟩:=Dc ai;obtain⟨wm,aq,ar,au⟩:=Ii av.out h4.undrew.1;have ah:=HI.out.to_ X h4.undrew;have b:=qz (ak.out.keep (by rw[aq];exact Nat.le_refl _) (fun i h1 _=>ar i (by omega)));have aw:Hid (A7 wm.heap.size w4 (dV (.mk D b' E F l' o')) [.int .i64 D,.bool b',.int .i64 E,.string F,.slice t l'.length u,.slice x o'.length y]):=by rw[aq];exact ai
       have ap:=qz ah.var;obtain⟨ag,ae⟩:=hid2 au ah;clear au ah;clear ai h4 ar;refine o.out _ _ trivial (fun a=> ?_);clear o K
       try simp only[Act.put,tk4,tk5,tk6]
       refine wpAnyH_ready (rs:= [6]) (by kernel_rfl) (by simp) ?_;refine AllReadyH.cons rfl (fun K o=> ?_) AllReadyH.nil;go_simp;have al:=qz (ap.out.alloc (.cells #[.int .i64 D,.bool b',.int .i64 E,.string F,.slice t l'.length u,.slice x o'.length y] 42));refine o.out _ _ trivial (fun a=> ?_);clear o K
       try simp only[Act.put,tk4,tk5,tk6]
       refine wpAnyH_ready (rs:= [7]) (by kernel_rfl) (by simp) ?_;refine AllReadyH.cons rfl (fun K o=> ?_) AllReadyH.nil;have Z:=ag.out.alloc ag.out.size (.cells #[.int .i64 D,.bool b',.int .i64 E,.string F,.slice t l'.length u,.slice x o'.length y] 42);have aa:=aw.out.later (Aa w4 (.cells #[.int .i64 D,.bool b',.int .i64 E,.string F,.slice t l'.length u,.slice x o'.length y] 42));refine Do (d:=dV (.mk D b' E F l' o')) (V:=.slice aV (dL acc).length cV) (by rfl) (.tmp 18) (.tmp 23) 39 (by rfl) Tryz.underlying39 Hj.out az.out a0.out a1.out rfl (by omega) (by rfl) b.out (by omega) Z (D7 _) aa (by rfl) (Kr w4 _ _ _ _ _ _) af.out.1 af.out.2 ?_;intro V6 w6 l A Y;have ad:=Bj.app (ae.out.went.alloc (.cells #[.int .i64 D,.bool b',.int .i64 E,.string F,.slice t l'.length u,.slice x o'.length y] 42)) A b.out (by omega) X;have M:=C8 (ae.out.res.alloc (.cells #[.int .i64 D,.bool b',.int .i64 E,.string F,.slice t l'.length u,.slice x o'.length y] 42)) A b.out (by omega);have B:=C8 al.out A b.out (by omega);rw[ax.out]at l;refine o.out _ _ trivial (fun a=> ?_);clear o K A Y aa Z
       try simp only[Act.put,tk4]
       refine tkH 8 a ?_;refine wpAnyH_ready (rs:= [9]) (by kernel_rfl) (by simp) ?_;refine AllReadyH.cons rfl (fun K o=> ?_) AllReadyH.nil;have e6:=B.cell 4;have f6:=B.frozen 4;have bc:=B.lt;obtain⟨a6,c6,rfl⟩:=l.slice;go_simp;refine o.out _ _ trivial (fun a=> ?_);clear o K
       try simp only[Act.put,tk4,tk5,tk6]
       refine wpAnyH_done (by kernel_rfl) ?_ _;go_wp2;go_meet;exact⟨_,⟨ad.setN _ (by simp) X _,M.far (by simp) _,B.set_ 4 _⟩,l.keep (by simp[World.setCell]) (fun i h1 _=>Below.heap_setCell _ _ _ _ (by simp;omega))⟩
     . skip;go_simp;(with_reducible refine(HC.out _ (Below.drew (Below.refl _ _))).mono ?_);rintro e w4 ⟨⟨cs,rfl,ai⟩,h4⟩;obtain⟨t,u,x,y,rfl⟩:=Dc ai;obtain⟨wm,aq,ar,au⟩:=Ii av.out h4.undrew.1;have ah:=HI.out.to_ X h4.undrew;have b:=qz (ak.out.keep (by rw[aq];exact Nat.le_refl _) (fun i h1 _=>ar i (by omega)));have aw:Hid (A7 wm.heap.size w4 (dV (.mk D b' E F l' o')) [.int .i64 D,.bool b',.int .i64 E,.string F,.slice t l'.length u,.slice x o'.length y]):=by rw[aq];exact ai
       have ap:=qz ah.var;obtain⟨ag,ae⟩:=hid2 au ah;clear au ah;clear ai h4 ar;refine o.out _ _ trivial (fun a=> ?_);clear o K
       try simp only[Act.put,tk4,tk5,tk6]
       refine wpAnyH_ready (rs:= [1,6]) (by kernel_rfl) (by simp) ?_;refine AllReadyH.cons rfl (fun K o=> ?_) (AllReadyH.cons rfl (fun K o=> ?_) AllReadyH.nil)
       . skip;have e4:=ap.out.cell 4;go_simp;refine o.out _ _ trivial (fun a=> ?_);clear o K e4
         try simp only[Act.put,tk4,tk5,tk6]
         refine wpAnyH_ready (rs:= [6]) (by kernel_rfl) (by simp) ?_;refine AllReadyH.cons rfl (fun K o=> ?_) AllReadyH.nil;go_simp;have al:=qz (ap.out.alloc (.cells #[.int .i64 D,.bool b',.int .i64 E,.string F,.slice t l'.length u,.slice x o'.length y] 42));refine o.out _ _ trivial (fun a=> ?_);clear o K
         try simp only[Act.put,tk4,tk5,tk6]
         refine wpAnyH_ready (rs:= [7]) (by kernel_rfl) (by simp) ?_;refine AllReadyH.cons rfl (fun K o=> ?_) AllReadyH.nil;have Z:=ag.out.alloc ag.out.size (.cells #[.int .i64 D,.bool b',.int .i64 E,.string F,.slice t l'.length u,.slice x o'.length y] 42);have aa:=aw.out.later (Aa w4 (.cells #[.int .i64 D,.bool b',.int .i64 E,.string F,.slice t l'.length u,.slice x o'.length y] 42));refine Do (d:=dV (.mk D b' E F l' o')) (V:=.slice aV (dL acc).length cV) (by rfl) (.tmp 18) (.tmp 23) 39 (by rfl) Tryz.underlying39 Hj.out az.out a0.out a1.out rfl (by omega) (by rfl) b.out (by omega) Z (D7 _) aa (by rfl) (Kr w4 _ _ _ _ _ _) af.out.1 af.out.2 ?_;intro V6 w6 l A Y;have ad:=Bj.app (ae.out.went.alloc (.cells #[.int .i64 D,.bool b',.int .i64 E,.string F,.slice t l'.length u,.slice x o'.length y] 42)) A b.out (by omega) X;have M:=C8 (ae.out.res.alloc (.cells #[.int .i64 D,.bool b',.int .i64 E,.string F,.slice t l'.length u,.slice x o'.length y] 42)) A b.out (by omega);have B:=C8 al.out A b.out (by omega);rw[ax.out]at l;refine o.out _ _ trivial (fun a=> ?_);clear o K A Y aa Z
         try simp only[Act.put,tk4]
         refine tkH 8 a ?_;refine wpAnyH_ready (rs:= [9]) (by kernel_rfl) (by simp) ?_;refine AllReadyH.cons rfl (fun K o=> ?_) AllReadyH.nil;have e6:=B.cell 4;have f6:=B.frozen 4;have bc:=B.lt;obtain⟨a6,c6,rfl⟩:=l.slice;go_simp;refine o.out _ _ trivial (fun a=> ?_);clear o K
         try simp only[Act.put,tk4,tk5,tk6]
         refine wpAnyH_done (by kernel_rfl) ?_ _;go_wp2;go_meet;exact⟨_,⟨ad.setN _ (by simp) X _,M.far (by simp) _,B.set_ 4 _⟩,l.keep (by simp[World.setCell]) (fun i h1 _=>Below.heap_setCell _ _ _ _ (by simp;omega))⟩
       . skip;go_simp;have al:=qz (ap.out.alloc (.cells #[.int .i64 D,.bool b',.int .i64 E,.string F,.slice t l'.length u,.slice x o'.length y] 42));refine o.out _ _ trivial (fun a=> ?_);clear o K
         try simp only[Act.put,tk4,tk5,tk6]
         refine wpAnyH_ready (rs:= [1]) (by kernel_rfl) (by simp) ?_;refine AllReadyH.cons rfl (fun K o=> ?_) AllReadyH.nil;have e4:=al.out.cell 4;go_simp;refine o.out _ _ trivial (fun a=> ?_);clear o K e4
         try simp only[Act.put,tk4,tk5,tk6]
         refine wpAnyH_ready (rs:= [7]) (by kernel_rfl) (by simp) ?_;refine AllReadyH.cons rfl (fun K o=> ?_) AllReadyH.nil;have Z:=ag.out.alloc ag.out.size (.cells #[.int .i64 D,.bool b',.int .i64 E,.string F,.slice t l'.length u,.slice x o'.length y] 42);have aa:=aw.out.later (Aa w4 (.cells #[.int .i64 D,.bool b',.int .i64 E,.string F,.slice t l'.length u,.slice x o'.length y] 42));refine Do (d:=dV (.mk D b' E F l' o')) (V:=.slice aV (dL acc).length cV) (by rfl) (.tmp 18) (.tmp 23) 39 (by rfl) Tryz.underlying39 Hj.out az.out a0.out a1.out rfl (by omega) (by rfl) b.out (by omega) Z (D7 _) aa (by rfl) (Kr w4 _ _ _ _ _ _) af.out.1 af.out.2 ?_;intro V6 w6 l A Y;have ad:=Bj.app (ae.out.went.alloc (.cells #[.int .i64 D,.bool b',.int .i64 E,.string F,.slice t l'.length u,.slice x o'.length y] 42)) A b.out (by omega) X;have M:=C8 (ae.out.res.alloc (.cells #[.int .i64 D,.bool b',.int .i64 E,.string F,.slice t l'.length u,.slice x o'.length y] 42)) A b.out (by omega);have B:=C8 al.out A b.out (by omega);rw[ax.out]at l;refine o.out _ _ trivial (fun a=> ?_);clear o K A Y aa Z
         try simp only[Act.put,tk4]
         refine tkH 8 a ?_;refine wpAnyH_ready (rs:= [9]) (by kernel_rfl) (by simp) ?_;refine AllReadyH.cons rfl (fun K o=> ?_) AllReadyH.nil;have e6:=B.cell 4;have f6:=B.frozen 4;have bc:=B.lt;obtain⟨a6,c6,rfl⟩:=l.slice;go_simp;refine o.out _ _ trivial (fun a=> ?_);clear o K
         try simp only[Act.put,tk4,tk5,tk6]
         refine wpAnyH_done (by kernel_rfl) ?_ _;go_wp2;go_meet;exact⟨_,⟨ad.setN _ (by simp) X _,M.far (by simp) _,B.set_ 4 _⟩,l.keep (by simp[World.setCell]) (fun i h1 _=>Below.heap_setCell _ _ _ _ (by simp;omega))⟩
    obtain⟨V',U,C⟩:=hcut.out;have bo:Ak s.data.toList q<=s.size:=Bq a5;have b4:=Bv s.data.toList q;clear hcut HC HI Dl ax ay ak av af bw
    cases h44:decide (s.data.toList[Ak s.data.toList q]? =some 44)with
    |true=>
     have z:=D5 R g s q 44 44 (by decide) wc (by omega) a5 U.went.2 h44;rw[if_pos rfl]at z;have G:=h44;rw[decide_eq_true_iff]at G;have P:=bk.out;rw[if_pos G]at P;have bn:=B7 G;rw[Ac]at bn;clear G h44;obtain⟨ao,O,Q,bs⟩:=hid4 U C z P;clear U C z P;go_wp2_with (fail);(with_reducible refine(Q.out).mono ?_);rintro e w8 ⟨rfl,h8⟩;have HN:Hid (LRd w w8 R g s d bh (f+1) n (Ak s.data.toList q+1) (acc++ [.mk D b' E F l' o']) V'):=⟨ao.out.to_ X h8,O.out.keep h8.1.size (fun i h1 h2=>h8.1.block i h2 (by intro e;have:=Option.some.inj e;omega)),bs.out,by omega,by omega,by simp;omega⟩;clear h8;go_wp2
     go_roundg n
     case measure=>omega
     case rel=>exact⟨n,_,_,_,rfl,by omega,HN⟩
    |false=>
     have z:=D5 R g s q 44 44 (by decide) wc (by omega) a5 U.went.2 h44;rw[if_neg (by decide)]at z;have G:=h44;rw[decide_eq_false_iff_not]at G;have P:=bk.out;rw[if_neg G]at P;clear G h44
     cases h93:decide (s.data.toList[Ak s.data.toList q]? =some 93)with
     |true=>
      have G:=h93;rw[decide_eq_true_iff]at G;rw[if_pos G]at P;clear G;subst P;obtain⟨ao,O,Q,bd⟩:=hid4 U C z h93;clear U C z h93;go_wp2_with (fail);(with_reducible refine(Q.out).mono ?_);rintro e w8 ⟨rfl,h8⟩;have I:=bd.out;rw[<-D2]at I;have J:=D5 R g s (Ak s.data.toList q) 93 93 (by decide) w8 (by omega) bo h8.2 I;rw[if_pos rfl,D2]at J;have bl:=ao.out.to_ X h8;have bg:=qz (O.out.keep h8.1.size (fun i h1 h2=>h8.1.block i h2 (by intro e;have:=Option.some.inj e;omega)));clear h8 I;obtain⟨be,an⟩:=hid2 bl J;clear bl J;go_wp2_with (fail);(with_reducible refine(an.out).mono ?_);rintro e w9 ⟨rfl,h9⟩;have am:=be.out.to_ X h9;have aj:=bg.out.keep h9.1.size (fun i h1 h2=>h9.1.block i h2 (by intro e;have:=Option.some.inj e;omega));clear h9;obtain⟨y0,y1,y2,y3,y4,y5⟩:=At am.var;obtain⟨r0,r1,r2,r3,r4,r5⟩:=At am.res;have fz:=am.res.frozen;obtain⟨a',c',rfl,_,a3,_⟩:=aj.close;have el:(dL (acc++ [Val.mk D b' E F l' o'])).length=acc.length+1:=by rw[K8];simp
      rw[el]at a3 y4;obtain⟨a7,a4⟩:=am.leave X (.int .i64 5) (.bool false) (.int .i64 0) (.string ⟨#[]⟩) (.slice a' (acc.length+1) c') (.slice none 0 0);have br:=qz (V1 (a3.keep (b':=w.heap.size) (w':=A4 w9 w.heap.size 0 [.int .i64 5,.bool false,.int .i64 0,.string ⟨#[]⟩,.slice a' (acc.length+1) c',.slice none 0 0]) (by omega) (by rw[Ba];exact Nat.le_refl _) (fun p p1 p2=>World.cell?_of_block (Ay _ _ _ _ _ (by omega)))));obtain⟨bj,bt,bv,bu,bx⟩:=hid5 am aj a7 a4 a3;clear am aj a7 a4 a3;go_upto_region 9 with(fail);go_wp2;rw[Exit.noGoto_ret];exact bodyPost_ret (Br rfl rfl bv.out) rfl ⟨⟨_,rfl,br.out⟩,bu.out⟩
     |false=>
      have G:=h93;rw[decide_eq_false_iff_not]at G;rw[if_neg G]at P;clear G;subst P;obtain⟨ao,O,Q,bd⟩:=hid4 U C z h93;clear U C z h93;go_wp2_with (fail);(with_reducible refine(Q.out).mono ?_);rintro e w8 ⟨rfl,h8⟩;have I:=bd.out;rw[<-D2]at I;have J:=D5 R g s (Ak s.data.toList q) 93 93 (by decide) w8 (by omega) bo h8.2 I;rw[if_neg (by decide),D2]at J;have be:=qz (ao.out.to_ X h8);clear h8 I;have an:=qz J;clear J;go_wp2_with (fail);(with_reducible refine(an.out).mono ?_);rintro e w9 ⟨rfl,h9⟩;have bj:=qz (be.out.to_ X h9);obtain⟨z0,z1,_,_,_⟩:=h9.2.cells;clear h9;have HW:=qz (Cc (.pointer (some ⟨R,0,none⟩)) 4 (Ak s.data.toList q:Nat) w9);go_wp2_with (fail);(with_reducible refine(HW.out).mono ?_);rintro e b6 ⟨rfl,rfl⟩;exact⟨rfl,rfl,bj.out.went.1⟩
theorem El (s:ByteArray) (k:Nat) (w:World) (D:s.size<=1000000000) (z:k<=s.size):
 Calls Tryz.prog 85 #[.string s,.int .i64 k] w fun e w'=>e=.returned (.int .i64 (Ak s.data.toList k:Nat))/\w=w':=by
 obtain⟨P,o⟩: ∃P,Ak s.data.toList k=P:=⟨_,rfl⟩;have q:=qz o;rw[o];clear o;go_enter Tryz.func85,Tryz.ntmps85;go_wp2
 go_loop [1] (fun i=> ∃j:Nat,j<=s.size/\i=.int .i64 j/\Hid (Ak s.data.toList j=P)) (fun i=>s.size - (intOf i).toNat)
 case atStart=>exact⟨k,z,rfl,q⟩
 case round=>
  obtain⟨j,C,rfl,b⟩:=hrel;clear q;by_cases p:j<s.size
  . obtain⟨c,x⟩: ∃c,s[j]=c:=⟨_,rfl⟩;have m:s.data.toList[j]? =some c:=by rw[Bc s p,x]
    have y:=Bl c;by_cases a:Ef c=true
    . have d:Hid (Ak s.data.toList (j+1)=P):=by rw[<-Qg m a];exact b.out
      unfold Ef at a;simp only[Bool.or_eq_true,beq_iff_eq]at a;clear m b;rcases a with((a|a)|a)|a
      all_goals
       subst a;go_wp2
       go_round
       case rel=>exact⟨j+1,by omega,by go_num,d⟩
       case measure=>simp[intOf];omega
    . have d:Hid (j=P):=by rw[<-b.out,Dr m (by simpa using a)];exact rfl
      unfold Ef at a;simp only[Bool.or_eq_true,beq_iff_eq,not_or]at a;obtain⟨⟨⟨r,f⟩,g⟩,l⟩:=a;have ne: ∀n:Nat,n<256->c≠UInt8.ofNat n->((c.toNat:Int)==(n:Int))=false:=fun n A h=>by rw[Ie A];simpa using h
      have B:((c.toNat:Int)==9)=false:=ne 9 (by decide) r;have t:((c.toNat:Int)==10)=false:=ne 10 (by decide) f;have u:((c.toNat:Int)==13)=false:=ne 13 (by decide) g;have v:((c.toNat:Int)==32)=false:=ne 32 (by decide) l;clear ne r f g l m b;go_wp2;go_ret;exact⟨by rw[<-d.out];rfl,rfl⟩
  . have d:Hid (j=P):=by rw[<-b.out,Ph (by rw[<-Lib.size_eq];omega)];exact rfl
    clear b;go_wp2;go_ret;exact⟨by rw[<-d.out];rfl,rfl⟩
theorem Alh {s:ByteArray} {k:Nat} {c:UInt8} (h:s.data.toList[k]? =some c) (w:World) (_hs:s.size<=1000000000):
 Calls Tryz.prog 207 #[.string s,.int .i64 k,.int .u8 c.toNat] w fun e w'=>e=.returned (.bool true)/\w=w':=by
 have a:k<s.size:=by have:=B7 h;rwa [<-Lib.size_eq]at this
 have d:s[k]=c:=by rw[Bc s a]at h;exact Option.some.inj h
 have b:=Bl c;clear h;go_enter Tryz.func207,Tryz.ntmps207;go_wp2;go_ret;exact⟨rfl,rfl⟩
theorem Am2 {s:ByteArray} {k:Nat} {c:UInt8} (h: ¬(s.data.toList[k]? =some c)) (w:World) (_hs:s.size<=1000000000) (_hk:k<=s.size):
 Calls Tryz.prog 207 #[.string s,.int .i64 k,.int .u8 c.toNat] w fun e w'=>e=.returned (.bool false)/\w=w':=by
 have b:=Bl c;by_cases a:k<s.size
 . obtain⟨x,f⟩: ∃x,s[k]=x:=⟨_,rfl⟩;have d:((x.toNat:Int)==(c.toNat:Int))=false:=by
    rw[Bc s a,f]at h;rw[beq_eq_false_iff_ne];intro e;exact h (by rw[UInt8.toNat_inj.1 (by omega:x.toNat=c.toNat)])
   have g:=Bl x;clear h;go_enter Tryz.func207,Tryz.ntmps207;go_wp2;go_ret;exact⟨rfl,rfl⟩
 . clear h;go_enter Tryz.func207,Tryz.ntmps207;go_wp2;go_ret;exact⟨rfl,rfl⟩
theorem Gq {s:ByteArray} {k:Nat} {c:UInt8} {B:Bool} (h:decide (s.data.toList[k]? =some c)=B) (w:World) (b:s.size<=1000000000) (d:k<=s.size):
 Calls Tryz.prog 207 #[.string s,.int .i64 k,.int .u8 c.toNat] w fun e w'=>e=.returned (.bool B)/\w=w':=by
 subst h;by_cases a:s.data.toList[k]? =some c
 . rw[decide_eq_true a];exact Alh a w b
 . rw[decide_eq_false a];exact Am2 a w b d
def Af4 (u:Option Nat):Int:=match u with
 |some n=>n
 |none=> -1
theorem Ag4 {s:ByteArray} {p:Nat} (h:p+6<=s.size) (a:s[p]=92) (b:s[p+1]=117):Dd (s.data.toList.drop p)=Jf (s.data.toList.drop (p+2)) 4 0:=by
 have c:(s.data.toList.drop p)[0]? =some 92:=by rw[List.getElem?_drop,Nat.add_zero,Bc s (by omega),a]
 have d:(s.data.toList.drop p)[1]? =some 117:=by rw[List.getElem?_drop,Bc s (by omega),b]
 unfold Dd;rw[if_neg,List.drop_drop];rw[c,d,List.length_drop,Ac];simp;omega
theorem T5 (s:ByteArray) (p:Nat) (w:World) (hs:s.size<=1000000000) (hp:p<=s.size+6):Calls Tryz.prog 209 #[.string s,.int .i64 p] w fun e w'=>e=.returned (.int .i64 (Af4 (Dd (s.data.toList.drop p))))/\w=w':=by
 have m:=Ac s;by_cases P:s.size<p+6
 . have e:Dd (s.data.toList.drop p)=none:=by unfold Dd;rw[if_pos (.inl (by rw[List.length_drop];omega))]
   rw[e];have l:(s.size:Int)<(p:Int)+6:=by omega
   clear e m;go_enter Tryz.func209,Tryz.ntmps209;go_wp2;go_ret;exact⟨rfl,rfl⟩
 have l6: ¬((s.size:Int)<(p:Int)+6):=by omega
 have q0:p<s.size:=by omega
 have q1:p+1<s.size:=by omega
 obtain⟨a,J⟩: ∃a,s[p]=a:=⟨_,rfl⟩;obtain⟨b,K⟩: ∃b,s[p+1]=b:=⟨_,rfl⟩;have U:=Bl a;have V:=Bl b;have ne: ∀(c:UInt8) (n:Nat),n<256->c≠UInt8.ofNat n->((c.toNat:Int)==(n:Int))=false:=fun c n M h=>by rw[Ie M];simpa using h
 have D:(s.data.toList.drop p)[0]? =some a:=by rw[List.getElem?_drop,Nat.add_zero,Bc s q0,J]
 have E:(s.data.toList.drop p)[1]? =some b:=by rw[List.getElem?_drop,Bc s q1,K]
 by_cases o:a=92;rotate_left
 . have e:Dd (s.data.toList.drop p)=none:=by unfold Dd;rw[if_pos];right;left;rw[D];simpa using o
   have T:=ne a 92 (by decide) o;rw[e];clear e m D E ne o P;go_enter Tryz.func209,Tryz.ntmps209;go_wp2;go_ret;exact⟨rfl,rfl⟩
 by_cases j:b=117;rotate_left
 . have e:Dd (s.data.toList.drop p)=none:=by unfold Dd;rw[if_pos];right;right;rw[E];simpa using j
   have T:=ne b 117 (by decide) j;rw[e];subst o;clear e m D E ne j P;go_enter Tryz.func209,Tryz.ntmps209;go_wp2;go_ret;exact⟨rfl,rfl⟩
 subst o j;rw[Ag4 (by omega) J K];obtain⟨F,C⟩: ∃F,Jf (s.data.toList.drop (p+2)) 4 0=F:=⟨_,rfl⟩;rw[C];have O:=qz C;clear C D E ne m;go_enter Tryz.func209,Tryz.ntmps209;go_wp2
 go_loop [5,6] (fun x i=> ∃k n:Nat,2<=k/\k<=6/\i=.int .i64 k/\x=.int .i64 n/\n<16 ^ (k - 2)/\Hid (Jf (s.data.toList.drop (p+k)) (6 - k) n=F)) (fun _ i=>6 - (intOf i).toNat)
 case atStart=>exact⟨2,0,by omega,by omega,rfl,rfl,by decide,O⟩
 case round=>
  obtain⟨k,n,Z,aa,rfl,rfl,M,H⟩:=hrel;clear O J K;by_cases ab:k<6
  . have L:p+k<s.size:=by omega
    obtain⟨c,W⟩: ∃c,s[p+k]=c:=⟨_,rfl⟩;have Q:s.data.toList[p+k]? =some c:=by rw[Bc s L,W]
    have Y:=Bl c;have X:(0:Int)<=(c.toNat:Int):=by omega
    have ac:n<4096:=by
     have:16 ^ (k - 2)<=16 ^ 3:=Nat.pow_le_pow_right (by decide) (by omega);omega
    have f:=H.out;rw[Ep Q,show 6 - k=(6 - (k+1))+1 from by omega]at f;simp only[Jf]at f;have g: ∀d,M9 c=some d->16*n+d<16 ^ (k+1 - 2)/\Jf (s.data.toList.drop (p+(k+1))) (6 - (k+1)) (16*n+d)=F:=by
     intro d G;rw[G]at f;refine⟨?_,f⟩;have:=Xr G;rw[show k+1 - 2=(k - 2)+1 from by omega,Nat.pow_succ];omega
    have q:M9 c=none->none=F:=by
     intro G;rw[G]at f;exact f
    clear H Q f M;by_cases u:48<=c.toNat/\c.toNat<=57
    . obtain⟨r,t⟩:=g (c.toNat - 48) (by unfold M9;rw[if_pos u]);have R:(48:Int)<=(c.toNat:Int):=by omega
      have S:(c.toNat:Int)<58:=by omega
      have z:=qz (show(16*(n:Int)+(c.toNat:Int) - 48)=((16*n+(c.toNat - 48):Nat):Int)from by omega);obtain⟨A,B⟩:=hid2 r t;clear r t;clear g q u;go_wp2
      go_round
      case rel=>exact⟨k+1,_,by omega,by omega,by go_num,by rw[z.out],A.out,B⟩
      case measure=>simp[intOf];omega
    have v: ¬((48:Int)<=(c.toNat:Int))\/ ¬((c.toNat:Int)<58):=by omega
    by_cases y:97<=c.toNat/\c.toNat<=102
    . obtain⟨r,t⟩:=g (c.toNat - 87) (by unfold M9;rw[if_neg u,if_pos y]);have N: ¬((c.toNat:Int)<58):=by omega
      have R:(97:Int)<=(c.toNat:Int):=by omega
      have S:(c.toNat:Int)<103:=by omega
      have z:=qz (show(16*(n:Int)+(c.toNat:Int) - 87)=((16*n+(c.toNat - 87):Nat):Int)from by omega);obtain⟨A,B⟩:=hid2 r t;clear r t;clear g q u y v;go_wp2
      go_round
      case rel=>exact⟨k+1,_,by omega,by omega,by go_num,by rw[z.out],A.out,B⟩
      case measure=>simp[intOf];omega
    by_cases I:65<=c.toNat/\c.toNat<=70
    . obtain⟨r,t⟩:=g (c.toNat - 55) (by unfold M9;rw[if_neg u,if_neg y,if_pos I]);have N: ¬((c.toNat:Int)<58):=by omega
      have ad: ¬((97:Int)<=(c.toNat:Int)):=by omega
      have R:(65:Int)<=(c.toNat:Int):=by omega
      have S:(c.toNat:Int)<71:=by omega
      have z:=qz (show(16*(n:Int)+(c.toNat:Int) - 55)=((16*n+(c.toNat - 55):Nat):Int)from by omega);obtain⟨A,B⟩:=hid2 r t;clear r t;clear g q u y I v;go_wp2
      go_round
      case rel=>exact⟨k+1,_,by omega,by omega,by go_num,by rw[z.out],A.out,B⟩
      case measure=>simp[intOf];omega
    have C:=q (by unfold M9;rw[if_neg u,if_neg y,if_neg I]);subst C;clear g q;by_cases a1:(48:Int)<=(c.toNat:Int)<;>by_cases a2:(c.toNat:Int)<58<;>by_cases a3:(97:Int)<=(c.toNat:Int)<;>by_cases a4:(c.toNat:Int)<103<;>by_cases a5:(65:Int)<=(c.toNat:Int)<;>by_cases a6:(c.toNat:Int)<71
    all_goals first|(exfalso;omega)|(clear u y I v;go_wp2;go_ret;exact⟨rfl,rfl⟩)
  . obtain rfl:k=6:=by omega
    have f:=H.out;have e:Jf (s.data.toList.drop (p+6)) (6 - 6) n=some n:=by cases s.data.toList.drop (p+6)<;>rfl
    rw[e]at f;subst f;clear H e;go_wp2;go_ret;exact⟨rfl,rfl⟩
end Go.Proofs.YtjgfchcldhmjcaaGreatDoor
