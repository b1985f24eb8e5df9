/- Parts: commonplaceref04: begins, value. Condition: a text of at most 1.6*10^7 bytes. -/
import Derived.Test.YtkmcjfkokoidcaaGreatDoorKFb28
import Derived.Test.YtkmcjfkokoidcaaGreatDoorKFb33
import Derived.Test.YtkmcjfkokoidcaaGreatDoorKFb34
set_option maxHeartbeats 20000000
set_option maxRecDepth 100000
namespace Go.Proofs.YtkmcjfkokoidcaaGreatDoor
open Go Go.RowKit
theorem Aca {k:ByteArray} {acc:List (ByteArray×Val)} (h:Gx k acc=false) (hn:(acc.map (·.1)).Nodup) (v:Val):((acc++ [(k,v)]).map (·.1)).Nodup:=by
 rw[List.map_append,List.nodup_append];refine⟨hn,by simp,fun a ha b hb=> ?_⟩;simp only[List.map_cons,List.map_nil,List.mem_cons,List.not_mem_nil,or_false]at hb;subst hb;rintro rfl;obtain⟨m,hm,rfl⟩:=List.mem_map.1 ha;have:Gx m.1 acc=true:=by
  unfold Gx;rw[List.any_eq_true];exact⟨m,hm,by simp⟩
 rw[this]at h;cases h
theorem Vb {w:World} {B:Nat} {o:List (ByteArray×Val)} {a:Option Addr} {n c:Nat} (h:Ah w B (.row 7 (dO o)) [.slice a n c]):o= []\/ ∃g off,a=some ⟨g,off,none⟩/\g<B/\Ak w B o g off:=by
 obtain⟨a',c',e,_,ns,h1,h2⟩:=h;simp only[List.cons.injEq,Value.slice.injEq,and_true]at e;obtain⟨rfl,_,rfl⟩:=e
 cases o with
 |nil=>exact .inl rfl
 |cons m r=>
  rcases h2 with e|⟨g,off,e,hg,hc⟩
  . simp[dO]at e
  . exact .inr ⟨g,off,e,hg,h1.toO (fun _ _ _ q=>Cb _ _ q) hc⟩
theorem Up {w w':World} {o:List (ByteArray×Val)} {oa:Option Addr} {oc:Nat} (h:o= []\/ ∃g,oa=some ⟨g,0,none⟩/\w.heap.size<=g/\g<w'.heap.size/\ ∀w'':World,w'.heap.size<=w''.heap.size->(∀p:Addr,w.heap.size<=p.block->p.block<w'.heap.size->w''.cell? p=w'.cell? p)->Ak w'' w'.heap.size o g 0):
 Br w.heap.size w' (dV (Qf o)) [.int .i64 6,.bool false,.int .i64 0,.string ⟨#[]⟩,.slice none 0 0,.slice oa o.length oc]:=fun w'' h1 h2=>by
 refine D3 _ _ ?_;unfold Qf;simp only[Ac];refine⟨none,0,oa,oc,rfl,by simp, ?_⟩;rcases h with rfl|⟨g,e,_,hg,hh⟩
 . exact .inl rfl
 . exact .inr ⟨g,0,e,hg,hh w'' h1 h2⟩
theorem RBx.grown {w W W':World} {cs:Array Value} {V0:Value} (h:RBx w W cs) (t:W.grownBy W' V0.ownBlock) (hV: ∀g,V0.ownBlock=some g->w.heap.size+1<=g):RBx w W' cs:=
 ⟨h.below.grown t h.below.size (fun k hk=>by have:=hV k hk;omega),h.blk.grown t (fun e=>by have:=hV _ e.symm;omega)⟩
theorem Q5: ∀(l:List (ByteArray×Val)) (m:ByteArray×Val),Ae (l++ [m])=Ae l+Gm m
 | [],m=>by simp[Ae]
 |x::r,m=>by simp only[List.cons_append,Ae,Q5 r m];omega
theorem Afv (l:List (ByteArray×Val)) (m:ByteArray×Val):dO l++ [dP m]=dO (l++ [m]):=by rw[Bl,Bl];simp
structure ORf (w wr:World) (s:ByteArray) (d:Int) (RES:Rd Val) (f n j:Nat) (acc:List (ByteArray×Val)) (V:Value):Prop where
 res:RBx w wr A5
 row:Dg (w.heap.size+1) 94 7 wr (dO acc) V
 nod:(acc.map (·.1)).Nodup
 is:Cu n s.data.toList j d acc=RES
 fuel:4*(s.size - j)+2<=n
 lt:n<f
 few:acc.length<=j
 size:Ae acc<=6*j
theorem Aac (HCo: ∀v,Ms v) (s:ByteArray) (f:Nat) (ih: ∀f',f'<f->Aay s f') (w:World) (k:Nat) (d:Int) (hs:s.size<=16000000) (hk:k<s.size) (hf:4*(s.size - k)<=f) (hd0:0<=d) (hd:d<=64):
 Calls Tryz.prog 153 #[.string s,.int .i64 ((k+1:Nat):Int),.int .i64 d] w (Fw w (Ls f s.data.toList k d)):=by
 obtain⟨j0,hj,hy0,hy1,hy2⟩:=info_parts Nj;obtain⟨f,rfl⟩: ∃n,f=n+1:=⟨f - 1,by omega⟩;have hP:=Bp (s:=s) (k:=k+1) (by omega);have hP1:=Bs s.data.toList (k+1);have hpast:=fun W=>Dx s (k+1) W (by omega) (by omega);have hI0:=RBx.start w;obtain⟨RES,hRES⟩: ∃r,Ls (f+1) s.data.toList k d=r:=⟨_,rfl⟩;rw[hRES];unfold Ls at hRES;have hBB: ∀B,decide (s.data.toList[Al s.data.toList (k+1)]? =some 125)=B-> ∀W,Calls Tryz.prog 211 #[.string s,.int .i64 (Al s.data.toList (k+1):Nat),.int .u8 125] W fun e w'=>e=.returned (.bool B)/\W=w':=fun B hB W=>Fs hB W (by omega) hP;obtain⟨k1,hk1⟩: ∃k1,k+1=k1:=⟨_,rfl⟩;rw[hk1]at hRES hP hP1 hpast hBB ⊢;have hk1':k+1<=k1:=by omega
 clear hk1;generalize Al s.data.toList k1=p1 at hRES hP hP1 hpast hBB
 cases hB:decide (s.data.toList[p1]? =some 125)with
 |true=>
  have HIs:=qz (hBB _ hB);have hc:=hB;rw[decide_eq_true_iff]at hc;rw[if_pos hc]at hRES;subst hRES;clear hc hBB hB;obtain⟨Hj,Hy0,Hy1,Hy2,Ih,HI0,Hpast⟩:=hid7 hj hy0 hy1 hy2 ih hI0 hpast;clear hj hy0 hy1 hy2 ih hI0 hpast;go_enter Tryz.func153,Tryz.ntmps153;go_wp2_with (fail);generalize w.alloc (.cells A5 37)=wb at HI0 ⊢;(with_reducible refine(Hpast.out _).mono ?_);rintro e w1 ⟨rfl,rfl⟩;go_wp2_with (fail);(with_reducible refine(HIs.out _).mono ?_);rintro e w1 ⟨rfl,rfl⟩;have fz:=HI0.out.blk.frozen;have hlb:=HI0.out.blk.lt;obtain⟨r0,r1,r2,r3,r4,r5⟩:=Az HI0.out.blk;have Hxf:=qz (HI0.out.many (.int .i64 6) (.bool false) (.int .i64 0) (.string ⟨#[]⟩) (.slice none 0 0) (.slice none 0 0));go_wp2;exact bodyPost_ret (Af rfl rfl Hxf.out.blk) rfl ⟨Hxf.out.below,⟨_,rfl,Bu 6 false 0 _⟩⟩
 |false=>
  have hIs:=hBB _ hB;have hc:=hB;rw[decide_eq_false_iff_not]at hc;rw[if_neg hc]at hRES;clear hc hBB hB;have HL0:Hid (∀wb,RBx w wb A5->ORf w wb s d RES (f+1) f p1 [] (.slice none 0 0)):=fun wb hb=>⟨hb,by simpa[dO]using Dg.nil _ _ _ _,List.nodup_nil,hRES,by omega,by omega,by simp,by simp[Ae]⟩;obtain⟨Hj,Hy0,Hy1,Hy2,Ih,HI0,Hpast,HIs⟩:=hid8 hj hy0 hy1 hy2 ih hI0 hpast hIs;clear hj hy0 hy1 hy2 ih hI0 hpast hIs;clear hRES;go_enter Tryz.func153,Tryz.ntmps153;go_wp2_with (fail);generalize w.alloc (.cells A5 37)=wb at HI0 ⊢;(with_reducible refine(Hpast.out _).mono ?_);rintro e w1 ⟨rfl,rfl⟩;go_wp2_with (fail);(with_reducible refine(HIs.out _).mono ?_);rintro e w1 ⟨rfl,rfl⟩;go_wp2
  go_loopg [1,9] f (fun n a V wr=> ∃m j acc,m=n/\j<=s.size/\a=.int .i64 (j:Nat)/\Hid (ORf w wr s d RES (f+1) n j acc V))
  case atStart=>exact⟨f,p1, [],rfl,hP,rfl,HL0.out _ HI0.out⟩
  case round=>
   obtain⟨n,j,acc,rfl,hj,rfl,hh⟩:=hrel;clear HL0 hP hP1 HI0 Hpast HIs;have hn2:=hh.out.fuel;have hnf:=hh.out.lt;have hfw:=hh.out.few;have hsz:=hh.out.size;obtain⟨n,rfl⟩: ∃m,n=m+1:=⟨n - 1,by omega⟩;have hI:=hh.out.res;have hrow:=hh.out.row;have his:=hh.out.is;have hnod:=hh.out.nod;have dl:(dO acc).length=acc.length:=Ax _;obtain⟨aV,cV,rfl⟩:=hrow.slice_n dl;have hRow:=Vb hrow.now;have hP2:=Bp (s:=s) (k:=j) hj;have hP3:=Bs s.data.toList j;have hpast:=fun W=>Dx s j W (by omega) hj;unfold Cu at his;generalize Al s.data.toList j=p at his hP2 hP3 hpast;have hU:=fun W=>R5 s p W (by omega) hP2;obtain⟨r0,r1,r2,r3,r4,r5⟩:=Az hI.blk;have fz:=hI.blk.frozen;have hlr:=hI.blk.lt;have hw:=D8 (s:=s.data.toList) (p:=p) (by rw[Ab];exact hP2)
   cases hr:Cv s.data.toList p with
   |bad c q=>
    rw[hr]at hU his hw;simp only at his;subst his;have hc1:(c != 0)=true:=by have:=hw.2.2.1;simp only[bne_iff_ne,ne_eq];omega
    have HI2:Hid (∀W',Below wr.heap.size wr W'->RBx w W' A5):=fun _ h=>hI.later h;simp only[Ox]at hU;obtain⟨HU,HI,Hrow,Hpast,HRow,Hnod⟩:=hid6 hU hI hrow hpast hRow hnod;clear hU hI hrow hpast hRow hnod;clear hw hr hh r0 r1 r2 r3 r4 r5 fz hlr;go_wp2_with (fail);(with_reducible refine(Hpast.out _).mono ?_);rintro e w1 ⟨rfl,rfl⟩;go_wp2_with (fail);(with_reducible refine(HU.out _).mono ?_);rintro e w4 ⟨rfl,hb4⟩;have hI4:=HI2.out w4 hb4;have Hxf:=qz (hI4.many (.int .i64 0) (.bool false) (.int .i64 0) (.string ⟨#[]⟩) (.slice none 0 0) (.slice none 0 0));obtain⟨r0,r1,r2,r3,r4,r5⟩:=Az hI4.blk;have fz4:=hI4.blk.frozen;have hlt4:=hI4.blk.lt;have HI4:=qz hI4;clear hI4;clear hb4;go_wp2;exact bodyPost_ret (Af rfl rfl Hxf.out.blk) rfl ⟨Hxf.out.below,rfl⟩
   |ok kl q=>
    rw[hr]at hU his hw;simp only at his;simp only[Ox]at hU;obtain⟨hw1,hw2⟩:=hw;rw[Ab]at hw2;have hkl:=(Kz hr).2;obtain⟨KK,hKK⟩: ∃K:ByteArray,(⟨kl.toArray⟩:ByteArray)=K:=⟨_,rfl⟩;have hKs:KK.size=kl.length:=by rw[<-hKK];rfl
    rw[hKK]at hU his;obtain⟨HU,HI,Hrow,Hpast,HRow,Hnod,His⟩:=hid7 hU hI hrow hpast hRow hnod his;clear hU hI hrow hpast hRow hnod his;clear hr hh r0 r1 r2 r3 r4 r5 fz hlr;go_wp2_with (fail);(with_reducible refine(Hpast.out _).mono ?_);rintro e w1 ⟨rfl,rfl⟩;go_wp2_with (fail);(with_reducible refine(HU.out _).mono ?_);rintro e w2 ⟨rfl,hb2⟩;have HI2:=qz (HI.out.later hb2);have hrow2:=Hrow.out.below hb2;have hbs:=hb2.size;have HO2:Hid (acc= []\/ ∃g off,aV=some ⟨g,off,none⟩/\g<w2.heap.size/\Ak w2 w2.heap.size acc g off):=Vb hrow2.now;have Hrow2:=qz hrow2;clear hrow2;clear hb2
    go_upto_block 2 with(fail)
    go_cut [] (fun wx=>Hid (Gx KK acc=false)/\wx=w2)
    case first=>
     go_wp2_with (fail)
     go_loop [13] (fun i=> ∃x:Nat,x<=acc.length/\i=.int .i64 (x:Nat)/\Hid (Gx KK (acc.take x)=false)) (fun i=>acc.length - (intOf i).toNat)
     case atStart=>exact⟨0,Nat.zero_le _,rfl,qz (by simp[Gx])⟩
     case round=>
      obtain⟨x,hx,rfl,hh⟩:=hrel;have x0:(0:Int)<=(x:Int):=by omega
      by_cases hlt:x<acc.length
      . obtain⟨m,hm⟩: ∃m,acc[x]? =some m:=⟨_,List.getElem?_eq_getElem hlt⟩;obtain⟨g,off,rfl,hg,hO⟩: ∃g off,aV=some ⟨g,off,none⟩/\g<w2.heap.size/\Ak w2 w2.heap.size acc g off:=by
         rcases HO2.out with h0|h
         . rw[h0]at hlt;simp at hlt
         . exact h
        have ck:=(hO.at_ hm).1;have x1:(x:Int)<(acc.length:Int):=by omega
        have x2:decide ((x:Int)<(acc.length:Int))=true:=decide_eq_true x1;have htk:Gx KK (acc.take (x+1))=(Gx KK (acc.take x)||decide (m.1=KK)):=by
         unfold Gx;rw[List.take_add_one,hm,Option.toList_some,List.any_append];simp
        rw[hh.out,Bool.false_or]at htk;by_cases he:m.1=KK
        . rw[decide_eq_true he]at htk;have hall:Gx KK acc=true:=by
           unfold Gx at htk ⊢;rw[List.any_eq_true]at htk ⊢;obtain⟨y,hy,e⟩:=htk;exact⟨y,List.mem_of_mem_take hy,e⟩
          have his:=His.out;rw[if_pos hall]at his;subst his;rw[he]at ck;obtain⟨r0,r1,r2,r3,r4,r5⟩:=Az HI2.out.blk;have fz4:=HI2.out.blk.frozen;have hlt4:=HI2.out.blk.lt;have Hxf:=qz (HI2.out.many (.int .i64 0) (.bool false) (.int .i64 0) (.string ⟨#[]⟩) (.slice none 0 0) (.slice none 0 0));have HO:=qz hO;clear hO;clear htk hall hh hm he;go_wp2;exact bodyPost_ret (Af rfl rfl Hxf.out.blk) rfl ⟨Hxf.out.below,rfl⟩
        . rw[decide_eq_false he]at htk;have hnl:(m.1.toList==KK.toList)=false:=by
           rw[beq_eq_false_iff_ne,ByteArray.toList_eq,ByteArray.toList_eq];intro e;exact he (ByteArray.ext (Array.toList_inj.1 e))
          obtain⟨HN,HO,He⟩:=hid3 htk hO he;clear hO he;clear htk hh hm;go_wp2
          go_round
          case rel=>exact⟨x+1,by omega,by go_num,HN⟩
          case measure=>simp[intOf];omega
      . obtain rfl:x=acc.length:=by omega
        have hfin:=hh.out;rw[List.take_length]at hfin;have x2:decide ((acc.length:Int)<(acc.length:Int))=false:=decide_eq_false (by omega);have Hfin:=qz hfin;clear hfin;clear hh;go_wp2;go_meet;exact⟨Hfin,rfl⟩
    obtain⟨hnk,rfl⟩:=hcut;have his:=His.out;rw[if_neg (by rw[hnk.out];decide)]at his;have hP4:=Bp hw2;have hP5:=Bs s.data.toList q;have hpast:=fun W=>Dx s q W (by omega) hw2;generalize Al s.data.toList q=pq at his hP4 hP5 hpast;have h58: ∀B,decide (s.data.toList[pq]? =some 58)=B-> ∀W,Calls Tryz.prog 211 #[.string s,.int .i64 (pq:Nat),.int .u8 58] W fun e w'=>e=.returned (.bool B)/\W=w':=fun B hB W=>Fs hB W (by omega) hP4;clear His HU Hpast HO2 HI Hrow HRow;have Hpast:=qz hpast;clear hpast
    cases hB:decide (s.data.toList[pq]? =some 58)with
    |false=>
     have HIs:=qz (h58 _ hB);rw[decide_eq_false_iff_not]at hB;rw[if_neg hB]at his;subst his;obtain⟨r0,r1,r2,r3,r4,r5⟩:=Az HI2.out.blk;have fz4:=HI2.out.blk.frozen;have hlt4:=HI2.out.blk.lt;have Hxf:=qz (HI2.out.many (.int .i64 0) (.bool false) (.int .i64 0) (.string ⟨#[]⟩) (.slice none 0 0) (.slice none 0 0));clear h58 hB;go_wp2_with (fail);(with_reducible refine(Hpast.out _).mono ?_);rintro e w3 ⟨rfl,rfl⟩;go_wp2_with (fail);(with_reducible refine(HIs.out _).mono ?_);rintro e w3 ⟨rfl,rfl⟩;go_wp2;exact bodyPost_ret (Af rfl rfl Hxf.out.blk) rfl ⟨Hxf.out.below,rfl⟩
    |true=>
     have hIs:=h58 _ hB;rw[decide_eq_true_iff]at hB;rw[if_pos hB]at his;have hlt:=Ct hB;rw[Ab]at hlt;obtain⟨m,rfl⟩: ∃m,n=m+1:=⟨n - 1,by omega⟩;unfold Ez at his;have hC: ∀W,Calls Tryz.prog 88 #[.string s,.int .i64 ((pq:Int)+1),.int .i64 (d+1)] W (Fw W (Bi m s.data.toList (pq+1) (d+1))):=fun W=>by
      have:=Ih.out m (by omega) W (pq+1) (d+1) (by omega) (by omega) (by omega) (by omega)
      rwa [show((pq+1:Nat):Int)=(pq:Int)+1 by omega]at this
     have hw:=(Dn m).1 s.data.toList (pq+1) (d+1) (by rw[Ab];omega);have hsd:=(Tx m).1 s.data.toList (pq+1) (d+1) (by rw[Ab];omega);have ewr:IntKind.i64.wrap (d+1)=d+1:=IntWalk.i64_in _ (by omega);clear h58 hB
     cases hr:Bi m s.data.toList (pq+1) (d+1)with
     |bad c q2=>
      rw[hr]at hC his hw;simp only at his;subst his;have hc1:(c != 0)=true:=by have:=hw.2.2.1;simp only[bne_iff_ne,ne_eq];omega
      obtain⟨HC,HIs⟩:=hid2 hC hIs;clear hC hIs;clear hw hr hsd;go_wp2_with (fail);(with_reducible refine(Hpast.out _).mono ?_);rintro e w3 ⟨rfl,rfl⟩;go_wp2_with (fail);(with_reducible refine(HIs.out _).mono ?_);rintro e w3 ⟨rfl,rfl⟩;go_wp2_with (fail);(with_reducible refine(HC.out _).mono ?_);rintro e w4 ⟨hb4,rfl⟩;have hI4:=HI2.out.later hb4;have Hxf:=qz ((hI4.many (.int .i64 0) (.bool false) (.int .i64 0) (.string ⟨#[]⟩) (.slice none 0 0) (.slice none 0 0)).later (Aa _ (.cells A5 37)));obtain⟨r0,r1,r2,r3,r4,r5⟩:=Az hI4.blk;have fz4:=hI4.blk.frozen;have hlt4:=hI4.blk.lt;have HI4:=qz hI4;clear hI4;clear hb4;go_wp2;exact bodyPost_ret (Af rfl rfl Hxf.out.blk) rfl ⟨Hxf.out.below,rfl⟩
     |ok v q2=>
      rw[hr]at hC his hw hsd;simp only at his;obtain⟨hv1,hv2⟩:=hw;rw[Ab]at hv2;have hsd:=hsd.1;obtain⟨k',b',n',t',l',o'⟩:=v;have htk:=Afv acc (KK,.mk k' b' n' t' l' o');have HLo:Hid ((dO acc).length+1<=maxLen/\((dO acc).length+1)*104<=140737488355328):=by rw[dl];exact⟨by simp only[maxLen];omega,by omega⟩
      have hP6:=Bp hv2;have hP7:=Bs s.data.toList q2;have hpast2:=fun W=>Dx s q2 W (by omega) hv2;generalize Al s.data.toList q2=p2 at hP6 hP7 hpast2 his;have H125:Hid (∀B,decide (s.data.toList[p2]? =some 125)=B-> ∀W,Calls Tryz.prog 211 #[.string s,.int .i64 (p2:Nat),.int .u8 125] W fun e w'=>e=.returned (.bool B)/\W=w'):=fun B hB W=>Fs hB W (by omega) hP6;have H44:Hid (∀B,decide (s.data.toList[p2]? =some 44)=B-> ∀W,Calls Tryz.prog 211 #[.string s,.int .i64 (p2:Nat),.int .u8 44] W fun e w'=>e=.returned (.bool B)/\W=w'):=fun B hB W=>Fs hB W (by omega) hP6;have Hbk:=qz (show Ae (acc++ [(KK,Val.mk k' b' n' t' l' o')])<=6*p2 from by rw[Q5];simp only[Gm];omega);have Hnd:=qz (Aca hnk.out Hnod.out (.mk k' b' n' t' l' o'));have hrs:=HI2.out.blk.lt;have hbl:=HI2.out.below.size;obtain⟨HC,HIs,Htk,His,Hpast2⟩:=hid5 hC hIs htk his hpast2;clear hC hIs htk his hpast2;clear hr hsd;go_wp2_with (fail);(with_reducible refine(Hpast.out _).mono ?_);rintro e w3 ⟨rfl,rfl⟩;go_wp2_with (fail);(with_reducible refine(HIs.out _).mono ?_);rintro e w3 ⟨rfl,rfl⟩;go_wp2_with (fail);(with_reducible refine(HC.out _).mono ?_);rintro e w4 ⟨hb4,cs,rfl,hf4⟩;obtain⟨la4,lc4,oa4,oc4,rfl⟩:=Dp hf4;have hI4:=HI2.out.later hb4;have hsz4:=hb4.size;have Hbe:=qz ((hb4.alloc hb4.size (.cells #[.int .i64 k',.bool b',.int .i64 n',.string t',.slice la4 l'.length lc4,.slice oa4 o'.length oc4] 37)).alloc (by simp;omega) (.cells #[.string KK,.int .i64 k',.bool b',.int .i64 n',.string t',.slice la4 l'.length lc4,.slice oa4 o'.length oc4] 94));have Hfe:=qz (((I9 (key:=KK) hf4).later (Aa w4 (.cells #[.int .i64 k',.bool b',.int .i64 n',.string t',.slice la4 l'.length lc4,.slice oa4 o'.length oc4] 37))).later (Aa _ (.cells #[.string KK,.int .i64 k',.bool b',.int .i64 n',.string t',.slice la4 l'.length lc4,.slice oa4 o'.length oc4] 94)));have HI5:=qz ((hI4.later (Aa w4 (.cells #[.int .i64 k',.bool b',.int .i64 n',.string t',.slice la4 l'.length lc4,.slice oa4 o'.length oc4] 37))).later (Aa _ (.cells #[.string KK,.int .i64 k',.bool b',.int .i64 n',.string t',.slice la4 l'.length lc4,.slice oa4 o'.length oc4] 94)));have Hrd:=qz (show A7 ((w4.alloc (.cells #[.int .i64 k',.bool b',.int .i64 n',.string t',.slice la4 l'.length lc4,.slice oa4 o'.length oc4] 37)).alloc (.cells #[.string KK,.int .i64 k',.bool b',.int .i64 n',.string t',.slice la4 l'.length lc4,.slice oa4 o'.length oc4] 94)) (w4.heap.size+1+1) 7 (some ⟨w4.heap.size+1,0,none⟩) 1 [.string KK,.int .i64 k',.bool b',.int .i64 n',.string t',.slice la4 l'.length lc4,.slice oa4 o'.length oc4]from by simpa using Iv (w4.alloc (.cells #[.int .i64 k',.bool b',.int .i64 n',.string t',.slice la4 l'.length lc4,.slice oa4 o'.length oc4] 37)) (.string KK) (.int .i64 k') (.bool b') (.int .i64 n') (.string t') (.slice la4 l'.length lc4) (.slice oa4 o'.length oc4));obtain⟨HI4,Hb4,Hf4⟩:=hid3 hI4 hb4 hf4;clear hI4 hb4 hf4;go_wp2_with (at_builtin;apply Shut.out);unfold Shut;refine Kb (d:=dP (KK,.mk k' b' n' t' l' o')) (V:=.slice aV acc.length cV) rfl (.tmp 82) (.tmp 86) 35 rfl Tryz.underlying35 Hj.out Hy0.out Hy1.out Hy2.out rfl (by omega) rfl Hrow2.out (by omega) Hbe.out (Cs _) Hfe.out rfl Hrd.out HLo.out.1 HLo.out.2 ?_;intro V6 w6 hrow6 hg6 hat6;have HI6:=qz (HI5.out.grown hg6 (fun r e=>(Hrow2.out.base r e).1));rw[Htk.out]at hrow6;have dl6:(dO (acc++ [(KK,Val.mk k' b' n' t' l' o')])).length=(acc++ [(KK,Val.mk k' b' n' t' l' o')]).length:=Ax _;obtain⟨a6,c6,rfl⟩:=hrow6.slice_n dl6;obtain⟨NL,hNL⟩: ∃NL,(acc++ [(KK,Val.mk k' b' n' t' l' o')]).length=NL:=⟨_,rfl⟩;have HNL1:=qz (show NL=acc.length+1 from by rw[<-hNL];simp);rw[hNL]at hrow6 ⊢;obtain⟨HNL,Hrow6⟩:=hid2 hNL hrow6;clear hrow6;clear hg6 hat6 Hbe Hfe HI5 Hrd HI4 Hb4 Hf4 hsz4 dl6 hNL;go_wp2_with (fail);(with_reducible refine(Hpast2.out _).mono ?_);rintro e w8 ⟨rfl,rfl⟩;have fz6:=HI6.out.blk.frozen;have hlt6:=HI6.out.blk.lt;obtain⟨r0,r1,r2,r3,r4,r5⟩:=Az HI6.out.blk
      cases hB:decide (s.data.toList[p2]? =some 125)with
      |true=>
       have hIs:=H125.out _ hB;have his:=His.out;rw[decide_eq_true_iff]at hB;rw[if_neg (by rw[hB];decide),if_pos hB]at his;subst his;have hO:=U4 HCo (acc++ [(KK,Val.mk k' b' n' t' l' o')]) a6 c6 w6 (Vb Hrow6.out.now) (by have:=Hbk.out;omega);rw[HNL.out]at hO;obtain⟨hs1,_,_⟩:=Mn Hnd.out;obtain⟨HIs,HO,Hs1⟩:=hid3 hIs hO hs1;clear hIs hO hs1;clear hB;go_wp2_with (fail);(with_reducible refine(HIs.out _).mono ?_);rintro e w8 ⟨rfl,rfl⟩;go_wp2_with (fail);(with_reducible refine(HO.out).mono ?_);rintro e w9 ⟨hb9,⟨hn9,_⟩|⟨o9,oa9,oc9,ho9,rfl,hm9⟩⟩
       . exact absurd (hn9.symm.trans Hs1.out) (by simp)
       . have Ho9:Hid (o9=Ig (acc++ [(KK,Val.mk k' b' n' t' l' o')])):=Option.some.inj (ho9.symm.trans Hs1.out);have hI9:=HI6.out.later hb9;have fz9:=hI9.blk.frozen;have hlt9:=hI9.blk.lt;obtain⟨z0,z1,z2,z3,z4,z5⟩:=Az hI9.blk;have Hxf:=qz ((hI9.many (.int .i64 6) (.bool false) (.int .i64 0) (.string ⟨#[]⟩) (.slice none 0 0) (.slice oa9 o9.length oc9)).later (Aa _ (.cells #[.int .i64 6,.bool false,.int .i64 0,.string ⟨#[]⟩,.slice none 0 0,.slice oa9 o9.length oc9] 37)));have Hff:=qz (((Up (oc:=oc9) hm9).keep (b':=w.heap.size) (w':=An w9 w.heap.size 0 [.int .i64 6,.bool false,.int .i64 0,.string ⟨#[]⟩,.slice none 0 0,.slice oa9 o9.length oc9]) (by omega) (by rw[Bb];exact Nat.le_refl _) (fun p p1 p2=>World.cell?_of_block (Ar _ _ _ _ _ (by have p1':w6.heap.size<=p.block:=p1;omega)))).later (Aa _ (.cells #[.int .i64 6,.bool false,.int .i64 0,.string ⟨#[]⟩,.slice none 0 0,.slice oa9 o9.length oc9] 37)));have HI9:=qz hI9;clear hI9;clear hb9 ho9 hm9 r0 r1 r2 r3 r4 r5 fz6;go_wp2;exact bodyPost_ret (Af rfl rfl Hxf.out.blk) rfl ⟨Hxf.out.below,⟨_,rfl,by rw[<-Ho9.out];exact Hff.out⟩⟩
      |false=>
       have hIs:=H125.out _ hB;have his:=His.out;rw[decide_eq_false_iff_not]at hB;clear His
       cases hB4:decide (s.data.toList[p2]? =some 44)with
       |true=>
        have hIs4:=H44.out _ hB4;rw[decide_eq_true_iff]at hB4;rw[if_pos hB4]at his;have hlt:=Ct hB4;rw[Ab]at hlt;have HN:Hid (ORf w w6 s d RES (f+1) m (p2+1) (acc++ [(KK,Val.mk k' b' n' t' l' o')]) (.slice a6 NL c6)):=⟨HI6.out,Hrow6.out,Hnd.out,his,by omega,by omega,by rw[HNL.out,HNL1.out];omega,by have:=Hbk.out;omega⟩;obtain⟨HIs,HIs4⟩:=hid2 hIs hIs4;clear hIs hIs4;clear hB hB4 his;go_wp2_with (fail);(with_reducible refine(HIs.out _).mono ?_);rintro e w8 ⟨rfl,rfl⟩;go_wp2_with (fail);(with_reducible refine(HIs4.out _).mono ?_);rintro e w8 ⟨rfl,rfl⟩;go_wp2
        go_roundg m
        case measure=>omega
        case rel=>exact⟨m,_,_,rfl,by omega,by go_num,HN⟩
       |false=>
        have HIs4:=qz (H44.out _ hB4);rw[decide_eq_false_iff_not]at hB4;rw[if_neg hB4,if_neg hB]at his;subst his;have Hxf:=qz (HI6.out.many (.int .i64 0) (.bool false) (.int .i64 0) (.string ⟨#[]⟩) (.slice none 0 0) (.slice none 0 0));have HIs:=qz hIs;clear hIs;clear hB hB4;go_wp2_with (fail);(with_reducible refine(HIs.out _).mono ?_);rintro e w8 ⟨rfl,rfl⟩;go_wp2_with (fail);(with_reducible refine(HIs4.out _).mono ?_);rintro e w8 ⟨rfl,rfl⟩;go_wp2;exact bodyPost_ret (Af rfl rfl Hxf.out.blk) rfl ⟨Hxf.out.below,rfl⟩
theorem Z9 {s t:ByteArray} {k:Nat} (_h:k+t.size<=s.size):((s.extract k (k+t.size)).toList==t.toList)=t.data.toList.isPrefixOf (s.data.toList.drop k):=by
 have e1:(s.extract k (k+t.size)).toList=(s.data.toList.drop k).take t.data.toList.length:=by
  rw[ByteArray.toList_eq,Lib.extract_data,Ab,Nat.add_sub_cancel_left]
 rw[e1,ByteArray.toList_eq,Bool.eq_iff_iff,beq_iff_eq,List.isPrefixOf_iff_prefix];constructor
 . intro e;rw[<-e];exact List.take_prefix _ _
 . intro e;exact(List.prefix_iff_eq_take.1 e).symm
theorem Xx {s t:ByteArray} {k:Nat} (h: ¬(k+t.size<=s.size)) (hk:k<=s.size):t.data.toList.isPrefixOf (s.data.toList.drop k)=false:=by
 rw[Bool.eq_false_iff];intro e;have:=(List.isPrefixOf_iff_prefix.1 e).length_le;rw[List.length_drop,Ab,Ab]at this;omega
theorem Bc {s t:ByteArray} {k:Nat} {B:Bool} (h:t.data.toList.isPrefixOf (s.data.toList.drop k)=B) (w:World) (hs:s.size<=1000000000) (hk:k<=s.size) (ht:t.size<=100):
 Calls Tryz.prog 155 #[.string s,.int .i64 k,.string t] w fun e w'=>e=.returned (.bool B)/\w=w':=by
 have i0:(0:Int)<=(k:Int):=by omega
 have i1:(k:Int)<=(s.size:Int):=by omega
 by_cases hle:k+t.size<=s.size
 . rw[<-Z9 hle]at h;have w1:IntKind.i64.wrap ((k:Int)+(t.size:Int))=(k:Int)+(t.size:Int):=IntWalk.i64_in _ (by omega);have w2:IntKind.i64.wrap ((s.size:Int) - (k:Int))=(s.size:Int) - (k:Int):=IntWalk.i64_in _ (by omega);have d1:decide ((t.size:Int)<=(s.size:Int) - (k:Int))=true:=decide_eq_true (by omega);have i2:(k:Int)<=(k:Int)+(t.size:Int):=by omega
   have i3:(k:Int)+(t.size:Int)<=(s.size:Int):=by omega
   have n1:((k:Int)+(t.size:Int)).toNat=k+t.size:=by omega
   clear hle;go_enter Tryz.func155,Tryz.ntmps155;go_wp2;go_ret;exact⟨rfl,rfl⟩
 . have hp:=Xx hle hk;rw[hp]at h;subst h;have w2:IntKind.i64.wrap ((s.size:Int) - (k:Int))=(s.size:Int) - (k:Int):=IntWalk.i64_in _ (by omega);have d1:decide ((t.size:Int)<=(s.size:Int) - (k:Int))=false:=decide_eq_false (by omega);have i2: ¬((t.size:Int)<=(s.size:Int) - (k:Int)):=by omega
   clear hle hp;go_enter Tryz.func155,Tryz.ntmps155;go_wp2;go_ret;exact⟨rfl,rfl⟩
theorem Fw.up {w wb w':World} {RES:Rd Val} {e:Ending} (hB:RBx w wb A5) (h:Fw wb RES e w'): ∃(k:Int) (b:Bool) (n:Int) (t:ByteArray) (la:Option Addr) (ln lc:Nat) (oa:Option Addr) (on oc:Nat) (q c:Int),
 e=.returned (.tuple #[.agg #[.int .i64 k,.bool b,.int .i64 n,.string t,.slice la ln lc,.slice oa on oc],.int .i64 q,.int .i64 c])/\RBx w w' A5/\
 Aj (An w' w.heap.size 0 [.int .i64 k,.bool b,.int .i64 n,.string t,.slice la ln lc,.slice oa on oc]) w.heap.size 37 #[.int .i64 k,.bool b,.int .i64 n,.string t,.slice la ln lc,.slice oa on oc]/\
 Fw w RES (.returned (.tuple #[.agg #[.int .i64 k,.bool b,.int .i64 n,.string t,.slice la ln lc,.slice oa on oc],.int .i64 q,.int .i64 c])) (An w' w.heap.size 0 [.int .i64 k,.bool b,.int .i64 n,.string t,.slice la ln lc,.slice oa on oc]):=by
 obtain⟨hb,h⟩:=h;have hB':=hB.later hb;have hlt:=hB.blk.lt;have hbs:=hB.below.size
 cases RES with
 |bad c q=>
  subst h;have hm:=hB'.many (.int .i64 0) (.bool false) (.int .i64 0) (.string ⟨#[]⟩) (.slice none 0 0) (.slice none 0 0);exact⟨0,false,0,⟨#[]⟩,none,0,0,none,0,0,q,c,rfl,hB',hm.blk,hm.below,rfl⟩
 |ok v q=>
  obtain⟨cs,rfl,hf⟩:=h;obtain⟨k',b',n',t',l',o'⟩:=v;obtain⟨la,lc,oa,oc,rfl⟩:=Dp hf;have hm:=hB'.many (.int .i64 k') (.bool b') (.int .i64 n') (.string t') (.slice la l'.length lc) (.slice oa o'.length oc);exact⟨k',b',n',t',la,l'.length,lc,oa,o'.length,oc,q,0,rfl,hB',hm.blk,hm.below,_,rfl,hf.keep (b':=w.heap.size) (by omega) (by rw[Bb];exact Nat.le_refl _) (fun p p1 p2=>World.cell?_of_block (Ar _ _ _ _ _ (by have p1':wb.heap.size<=p.block:=p1;omega)))⟩
theorem Aag (HC: ∀v,Ms v) (s:ByteArray) (hs:s.size<=16000000): ∀f,Aay s f:=by
 intro f
 induction f using Nat.strongRecOn with
 |_ f ih=>
  intro w k d hk hf hd0 hd;obtain⟨f,rfl⟩: ∃n,f=n+1:=⟨f - 1,by omega⟩;have ih': ∀f',f'<f->Aay s f':=fun f' h'=>ih f' (by omega);have hP:=Bp hk;have hP1:=Bs s.data.toList k;have hpast:=fun W=>Dx s k W (by omega) hk;have hB0:=RBx.start w;obtain⟨RES,hRES⟩: ∃r,Bi (f+1) s.data.toList k d=r:=⟨_,rfl⟩;rw[hRES];unfold Bi at hRES;generalize Al s.data.toList k=p at hRES hP hP1 hpast;have p0:(0:Int)<=(p:Int):=by omega
  cases hc:s.data.toList[p]? with
  |none=>
   rw[hc]at hRES;simp only at hRES;subst hRES;have hp:p=s.size:=by rw[List.getElem?_eq_none_iff,Ab]at hc;omega
   have e1:((p:Int)==(s.size:Int))=true:=by rw[hp];simp
   clear ih ih' hc;obtain⟨Hpast,HB0,Hp⟩:=hid3 hpast hB0 hp;clear hpast hB0 hp;go_enter Tryz.func88,Tryz.ntmps88;go_wp2_with (fail);generalize w.alloc (.cells A5 37)=wb at HB0 ⊢;(with_reducible refine(Hpast.out _).mono ?_);rintro e w1 ⟨rfl,rfl⟩;obtain⟨r0,r1,r2,r3,r4,r5⟩:=Az HB0.out.blk;have fz:=HB0.out.blk.frozen;have hlb:=HB0.out.blk.lt;have Hxz:=qz (HB0.out.many (.int .i64 0) (.bool false) (.int .i64 0) (.string ⟨#[]⟩) (.slice none 0 0) (.slice none 0 0));go_wp2;exact bodyPost_ret (Af rfl rfl Hxz.out.blk) rfl ⟨Hxz.out.below,rfl⟩
  |some c=>
   rw[hc]at hRES;simp only at hRES;have hlt:p<s.size:=by have:=Ct hc;rwa [Ab]at this
   have hx:s[p]=c:=by rw[A9 s hlt]at hc;exact Option.some.inj hc
   have hcl:=Be c;have p1:(p:Int)<(s.size:Int):=by omega
   have e1:((p:Int)==(s.size:Int))=false:=by rw[beq_eq_false_iff_ne];omega
   obtain⟨M,hM⟩: ∃M,(c==45||Cx c)=M:=⟨_,rfl⟩;obtain⟨Z,hZ⟩: ∃Z,(!E3 c)=Z:=⟨_,rfl⟩;have q: ∀n:Nat,n<256->((c.toNat:Int)==(n:Int))=(c==UInt8.ofNat n):=fun n hn=>Gg hn;have q45:((c.toNat:Int)==45)=(c==45):=q 45 (by decide);have q34:((c.toNat:Int)==34)=(c==34):=q 34 (by decide);have q91:((c.toNat:Int)==91)=(c==91):=q 91 (by decide);have q123:((c.toNat:Int)==123)=(c==123):=q 123 (by decide);have q110:((c.toNat:Int)==110)=(c==110):=q 110 (by decide);have q116:((c.toNat:Int)==116)=(c==116):=q 116 (by decide);have q102:((c.toNat:Int)==102)=(c==102):=q 102 (by decide);clear q;obtain⟨HM,HZ,Hpast,HB0,HRES,Ih,Ih',Hc⟩:=hid8 hM hZ hpast hB0 hRES ih ih' hc;clear hpast hB0 hRES ih ih' hc;go_enter Tryz.func88,Tryz.ntmps88;go_wp2_with (fail);generalize w.alloc (.cells A5 37)=wb at HB0 ⊢;(with_reducible refine(Hpast.out _).mono ?_);rintro e w1 ⟨rfl,rfl⟩;clear hM hZ;go_upto_region 5 with(fail);go_cut [10] (fun x wx=>x=.bool M/\wx=wb)
   case first=>
    have hM:=HM.out
    cases h45:(c==45)with
    |true=>
     rw[h45]at q45 hM;simp only[Bool.true_or]at hM;subst hM;go_wp2;go_meet;exact⟨rfl,rfl⟩
    |false=>
     rw[h45]at q45 hM;simp only[Bool.false_or]at hM;unfold Cx at hM;by_cases h48:48<=c.toNat
     . have l1:decide ((48:Int)<=(c.toNat:Int))=true:=decide_eq_true (by omega);by_cases h57:c.toNat<=57
       . have l2:decide ((c.toNat:Int)<=57)=true:=decide_eq_true (by omega);rw[decide_eq_true ⟨h48,h57⟩]at hM;subst hM;go_wp2;go_meet;exact⟨rfl,rfl⟩
       . have l2:decide ((c.toNat:Int)<=57)=false:=decide_eq_false (by omega);rw[decide_eq_false (fun q=>h57 q.2)]at hM;subst hM;go_wp2;go_meet;exact⟨rfl,rfl⟩
     . have l1:decide ((48:Int)<=(c.toNat:Int))=false:=decide_eq_false (by omega);rw[decide_eq_false (fun q=>h48 q.1)]at hM;subst hM;go_wp2;go_meet;exact⟨rfl,rfl⟩
   obtain⟨rfl,rfl⟩:=hcut;go_upto_region 6 with(fail);go_cut [61] (fun x wx=>x=.bool Z/\wx=wc)
   case first=>
    have hZ:=HZ.out;have hM:=HM.out;unfold E3 at hZ
    cases M with
    |true=>
     have hst:(Cx c||c==45)=true:=by rw[Bool.or_comm];exact hM
     rw[hst]at hZ;simp only[Bool.true_or,Bool.not_true]at hZ;subst hZ;clear hst hM;go_wp2;go_meet;exact⟨rfl,rfl⟩
    |false=>
     have hst:(Cx c||c==45)=false:=by rw[Bool.or_comm];exact hM
     rw[hst]at hZ;simp only[Bool.false_or]at hZ;clear hst hM
     cases h34:(c==34)with
     |true=>
      rw[h34]at hZ;simp only[Bool.true_or,Bool.not_true]at hZ;subst hZ;obtain rfl:c=34:=by simpa using h34
      clear q45 q34 q91 q123 q110 q116 q102;go_wp2;go_meet;exact⟨rfl,rfl⟩
     |false=>
      rw[h34]at q34 hZ;simp only[Bool.false_or]at hZ
      cases h91:(c==91)with
      |true=>
       rw[h91]at hZ;simp only[Bool.true_or,Bool.not_true]at hZ;subst hZ;obtain rfl:c=91:=by simpa using h91
       clear q45 q34 q91 q123 q110 q116 q102;go_wp2;go_meet;exact⟨rfl,rfl⟩
      |false=>
       rw[h91]at q91 hZ;simp only[Bool.false_or]at hZ
       cases h123:(c==123)with
       |true=>
        rw[h123]at hZ;simp only[Bool.true_or,Bool.not_true]at hZ;subst hZ;obtain rfl:c=123:=by simpa using h123
        clear q45 q34 q91 q123 q110 q116 q102;go_wp2;go_meet;exact⟨rfl,rfl⟩
       |false=>
        rw[h123]at q123 hZ;simp only[Bool.false_or]at hZ
        cases h110:(c==110)with
        |true=>
         rw[h110]at hZ;simp only[Bool.true_or,Bool.not_true]at hZ;subst hZ;obtain rfl:c=110:=by simpa using h110
         clear q45 q34 q91 q123 q110 q116 q102;go_wp2;go_meet;exact⟨rfl,rfl⟩
        |false=>
         rw[h110]at q110 hZ;simp only[Bool.false_or]at hZ
         cases h116:(c==116)with
         |true=>
          rw[h116]at hZ;simp only[Bool.true_or,Bool.not_true]at hZ;subst hZ;obtain rfl:c=116:=by simpa using h116
          clear q45 q34 q91 q123 q110 q116 q102;go_wp2;go_meet;exact⟨rfl,rfl⟩
         |false=>
          rw[h116]at q116 hZ;simp only[Bool.false_or]at hZ
          cases h102:(c==102)with
          |true=>
           rw[h102]at hZ;simp only[Bool.not_true]at hZ;subst hZ;obtain rfl:c=102:=by simpa using h102
           clear q45 q34 q91 q123 q110 q116 q102;go_wp2;go_meet;exact⟨rfl,rfl⟩
          |false=>
           rw[h102]at q102 hZ;simp only[Bool.not_false]at hZ;subst hZ;have m34:((c.toNat:Int) != 34)=true:=by rw[bne,q34];rfl
           have k34: ¬((c.toNat:Int)=34):=by have:=q34;rw[beq_eq_false_iff_ne]at this;exact this
           have j34: ¬(c.toNat=34):=by omega
           have m91:((c.toNat:Int) != 91)=true:=by rw[bne,q91];rfl
           have k91: ¬((c.toNat:Int)=91):=by have:=q91;rw[beq_eq_false_iff_ne]at this;exact this
           have j91: ¬(c.toNat=91):=by omega
           have m123:((c.toNat:Int) != 123)=true:=by rw[bne,q123];rfl
           have k123: ¬((c.toNat:Int)=123):=by have:=q123;rw[beq_eq_false_iff_ne]at this;exact this
           have j123: ¬(c.toNat=123):=by omega
           have m110:((c.toNat:Int) != 110)=true:=by rw[bne,q110];rfl
           have k110: ¬((c.toNat:Int)=110):=by have:=q110;rw[beq_eq_false_iff_ne]at this;exact this
           have j110: ¬(c.toNat=110):=by omega
           have m116:((c.toNat:Int) != 116)=true:=by rw[bne,q116];rfl
           have k116: ¬((c.toNat:Int)=116):=by have:=q116;rw[beq_eq_false_iff_ne]at this;exact this
           have j116: ¬(c.toNat=116):=by omega
           have m102:((c.toNat:Int) != 102)=true:=by rw[bne,q102];rfl
           have k102: ¬((c.toNat:Int)=102):=by have:=q102;rw[beq_eq_false_iff_ne]at this;exact this
           have j102: ¬(c.toNat=102):=by omega
           go_wp2;go_meet;exact⟨rfl,rfl⟩
   obtain⟨rfl,rfl⟩:=hcut;obtain⟨r0,r1,r2,r3,r4,r5⟩:=Az HB0.out.blk;have fz:=HB0.out.blk.frozen;have hlb:=HB0.out.blk.lt;have Hxz:=qz (HB0.out.many (.int .i64 0) (.bool false) (.int .i64 0) (.string ⟨#[]⟩) (.slice none 0 0) (.slice none 0 0));have hRES:=HRES.out;have hZ:=HZ.out;clear q45 q34 q91 q123 q110 q116 q102 HRES
   cases Z with
   |true=>
    rw[if_pos (by simpa using hZ)]at hRES;subst hRES;clear hZ HZ HM;go_wp2;exact bodyPost_ret (Af rfl rfl Hxz.out.blk) rfl ⟨Hxz.out.below,rfl⟩
   |false=>
    have hst:E3 c=true:=by simpa using hZ
    rw[if_neg (by rw[hst];decide)]at hRES;clear hZ HZ;by_cases hdp:64<d
    . rw[if_pos hdp]at hRES;subst hRES;have l64:decide (64<d)=true:=decide_eq_true hdp;clear hst HM;go_wp2;exact bodyPost_ret (Af rfl rfl Hxz.out.blk) rfl ⟨Hxz.out.below,rfl⟩
    rw[if_neg hdp]at hRES;have l64:decide (64<d)=false:=decide_eq_false hdp;have hd64:d<=64:=by omega
    have hlt':=hlt
    cases M with
    |true=>
     have hM:=HM.out;have hnum:Cx c=true\/c=45:=by simp only[Bool.or_eq_true,beq_iff_eq]at hM;exact hM.symm
     obtain⟨_,_,n1,n2,n3,n4,n5,n6⟩:=Aaj hnum;rw[if_neg n1,if_neg n2,if_neg n3,if_neg n4,if_neg n5,if_neg n6]at hRES;have hCa:=St s p wc (by omega) hlt;rw[hRES]at hCa;clear hM hnum n1 n2 n3 n4 n5 n6 hst hRES HM;have HCa:=qz hCa;clear hCa;go_wp2_with (fail);(with_reducible refine(HCa.out).mono ?_);rintro e w4 hh;obtain⟨k',b',n',t',la,ln,lc,oa,on,oc,qq,cc,rfl,hB4,hblk,hRo⟩:=Fw.up HB0.out hh;obtain⟨z0,z1,z2,z3,z4,z5⟩:=Az hB4.blk;have fz4:=hB4.blk.frozen;have hlt4:=hB4.blk.lt;obtain⟨HB4,Hblk,HRo⟩:=hid3 hB4 hblk hRo;clear hB4 hblk hRo;clear hh r0 r1 r2 r3 r4 r5 fz;go_wp2;exact bodyPost_ret (Af rfl rfl Hblk.out) rfl HRo.out
    |false=>
     have hM:=HM.out;have hc6:c=91\/c=123\/c=34\/c=110\/c=116\/c=102:=by
      unfold E3 at hst;rw[show(Cx c||c==45)=false by rw[Bool.or_comm];exact hM]at hst;simp only[Bool.false_or,Bool.or_eq_true,beq_iff_eq]at hst;rcases hst with((((h|h)|h)|h)|h)|h
      . exact Or.inr (Or.inr (Or.inl h))
      . exact Or.inl h
      . exact Or.inr (Or.inl h)
      . exact Or.inr (Or.inr (Or.inr (Or.inl h)))
      . exact Or.inr (Or.inr (Or.inr (Or.inr (Or.inl h))))
      . exact Or.inr (Or.inr (Or.inr (Or.inr (Or.inr (h)))))
     clear hM hst HM;rcases hc6 with rfl|rfl|rfl|rfl|rfl|rfl
     . rw[if_pos rfl]at hRES;have hCa:=Ya s f Ih'.out wc p d hs hlt (by omega) hd0 hd64;rw[hRES,show((p+1:Nat):Int)=(p:Int)+1 by omega]at hCa;clear hRES;have HCa:=qz hCa;clear hCa;go_wp2_with (fail);(with_reducible refine(HCa.out).mono ?_);rintro e w4 hh;obtain⟨k',b',n',t',la,ln,lc,oa,on,oc,qq,cc,rfl,hB4,hblk,hRo⟩:=Fw.up HB0.out hh;obtain⟨z0,z1,z2,z3,z4,z5⟩:=Az hB4.blk;have fz4:=hB4.blk.frozen;have hlt4:=hB4.blk.lt;obtain⟨HB4,Hblk,HRo⟩:=hid3 hB4 hblk hRo;clear hB4 hblk hRo;clear hh r0 r1 r2 r3 r4 r5 fz;go_wp2;exact bodyPost_ret (Af rfl rfl Hblk.out) rfl HRo.out
     . rw[if_neg (by decide),if_pos rfl]at hRES;have hCa:=Aac HC s f Ih'.out wc p d hs hlt (by omega) hd0 hd64;rw[hRES,show((p+1:Nat):Int)=(p:Int)+1 by omega]at hCa;clear hRES;have HCa:=qz hCa;clear hCa;go_wp2_with (fail);(with_reducible refine(HCa.out).mono ?_);rintro e w4 hh;obtain⟨k',b',n',t',la,ln,lc,oa,on,oc,qq,cc,rfl,hB4,hblk,hRo⟩:=Fw.up HB0.out hh;obtain⟨z0,z1,z2,z3,z4,z5⟩:=Az hB4.blk;have fz4:=hB4.blk.frozen;have hlt4:=hB4.blk.lt;obtain⟨HB4,Hblk,HRo⟩:=hid3 hB4 hblk hRo;clear hB4 hblk hRo;clear hh r0 r1 r2 r3 r4 r5 fz;go_wp2;exact bodyPost_ret (Af rfl rfl Hblk.out) rfl HRo.out
     . rw[if_neg (by decide),if_neg (by decide),if_pos rfl]at hRES;have hU:=R5 s p wc (by omega) (by omega);have hw:=D8 (s:=s.data.toList) (p:=p) (by rw[Ab];omega)
       cases hr:Cv s.data.toList p with
       |bad c2 q2=>
        rw[hr]at hU hRES hw;simp only[Ox]at hU;simp only[Rd.map]at hRES;subst hRES;have hc1:(c2 != 0)=true:=by have:=hw.2.2.1;simp only[bne_iff_ne,ne_eq];omega
        clear hr hw;have HU:=qz hU;clear hU;go_wp2_with (fail);(with_reducible refine(HU.out).mono ?_);rintro e w4 ⟨rfl,hb4⟩;have hB4:=HB0.out.later hb4;obtain⟨z0,z1,z2,z3,z4,z5⟩:=Az hB4.blk;have fz4:=hB4.blk.frozen;have hlt4:=hB4.blk.lt;have Hxf:=qz (hB4.many (.int .i64 0) (.bool false) (.int .i64 0) (.string ⟨#[]⟩) (.slice none 0 0) (.slice none 0 0));have HB4:=qz hB4;clear hB4;clear hb4 r0 r1 r2 r3 r4 r5 fz;go_wp2;exact bodyPost_ret (Af rfl rfl Hxf.out.blk) rfl ⟨Hxf.out.below,rfl⟩
       |ok a q2=>
        rw[hr]at hU hRES;simp only[Ox]at hU;simp only[Rd.map]at hRES;subst hRES;clear hr hw;have HU:=qz hU;clear hU;go_wp2_with (fail);(with_reducible refine(HU.out).mono ?_);rintro e w4 ⟨rfl,hb4⟩;have hB4:=HB0.out.later hb4;obtain⟨z0,z1,z2,z3,z4,z5⟩:=Az hB4.blk;have fz4:=hB4.blk.frozen;have hlt4:=hB4.blk.lt;have Hxf:=qz (hB4.many (.int .i64 4) (.bool false) (.int .i64 0) (.string ⟨a.toArray⟩) (.slice none 0 0) (.slice none 0 0));have HB4:=qz hB4;clear hB4;clear hb4 r0 r1 r2 r3 r4 r5 fz;go_wp2;exact bodyPost_ret (Af rfl rfl Hxf.out.blk) rfl ⟨Hxf.out.below,⟨_,rfl,Bu 4 false 0 _⟩⟩
     . rw[if_neg (by decide),if_neg (by decide),if_neg (by decide),if_pos rfl]at hRES;have hdr:=D0 Hc.out;unfold C2 at hRES
       cases hp:List.isPrefixOf ([110,117,108,108]:List UInt8) (s.data.toList.drop p)with
       |true=>
        rw[hp]at hRES;rw[if_pos rfl]at hRES;subst hRES;have Hth:Hid (∀W,Calls Tryz.prog 155 #[.string s,.int .i64 (p:Nat),.string ⟨#[110,117,108,108]⟩] W fun e w'=>e=.returned (.bool true)/\W=w'):=fun W=>Bc (t:=⟨#[110,117,108,108]⟩) hp W (by omega) (by omega) (by decide);clear hdr hp;go_wp2_with (fail);(with_reducible refine(Hth.out _).mono ?_);rintro e w4 ⟨rfl,rfl⟩;have Hxf:=qz (HB0.out.many (.int .i64 1) (.bool false) (.int .i64 0) (.string ⟨#[]⟩) (.slice none 0 0) (.slice none 0 0));go_wp2;exact bodyPost_ret (Af rfl rfl Hxf.out.blk) rfl ⟨Hxf.out.below,⟨_,rfl,Bu 1 false 0 _⟩⟩
       |false=>
        rw[hp]at hRES;rw[if_neg (by decide)]at hRES;subst hRES;have Hth:Hid (∀W,Calls Tryz.prog 155 #[.string s,.int .i64 (p:Nat),.string ⟨#[110,117,108,108]⟩] W fun e w'=>e=.returned (.bool false)/\W=w'):=fun W=>Bc (t:=⟨#[110,117,108,108]⟩) hp W (by omega) (by omega) (by decide);have Hdtrue:Hid (∀W,Calls Tryz.prog 155 #[.string s,.int .i64 (p:Nat),.string ⟨#[116,114,117,101]⟩] W fun e w'=>e=.returned (.bool false)/\W=w'):=fun W=>Bc (t:=⟨#[116,114,117,101]⟩) (by rw[hdr];rfl) W (by omega) (by omega) (by decide);have Hdfalse:Hid (∀W,Calls Tryz.prog 155 #[.string s,.int .i64 (p:Nat),.string ⟨#[102,97,108,115,101]⟩] W fun e w'=>e=.returned (.bool false)/\W=w'):=fun W=>Bc (t:=⟨#[102,97,108,115,101]⟩) (by rw[hdr];rfl) W (by omega) (by omega) (by decide);clear hdr hp;go_wp2_with (fail);(with_reducible refine(Hth.out _).mono ?_);rintro e w4 ⟨rfl,rfl⟩;go_wp2_with (fail);(with_reducible refine(Hdtrue.out _).mono ?_);rintro e w4 ⟨rfl,rfl⟩;go_wp2_with (fail);(with_reducible refine(Hdfalse.out _).mono ?_);rintro e w4 ⟨rfl,rfl⟩;go_wp2;exact bodyPost_ret (Af rfl rfl Hxz.out.blk) rfl ⟨Hxz.out.below,rfl⟩
     . rw[if_neg (by decide),if_neg (by decide),if_neg (by decide),if_neg (by decide),if_pos rfl]at hRES;have hdr:=D0 Hc.out;unfold C2 at hRES
       cases hp:List.isPrefixOf ([116,114,117,101]:List UInt8) (s.data.toList.drop p)with
       |true=>
        rw[hp]at hRES;rw[if_pos rfl]at hRES;subst hRES;have Hdnull:Hid (∀W,Calls Tryz.prog 155 #[.string s,.int .i64 (p:Nat),.string ⟨#[110,117,108,108]⟩] W fun e w'=>e=.returned (.bool false)/\W=w'):=fun W=>Bc (t:=⟨#[110,117,108,108]⟩) (by rw[hdr];rfl) W (by omega) (by omega) (by decide);have Hth:Hid (∀W,Calls Tryz.prog 155 #[.string s,.int .i64 (p:Nat),.string ⟨#[116,114,117,101]⟩] W fun e w'=>e=.returned (.bool true)/\W=w'):=fun W=>Bc (t:=⟨#[116,114,117,101]⟩) hp W (by omega) (by omega) (by decide);clear hdr hp;go_wp2_with (fail);(with_reducible refine(Hdnull.out _).mono ?_);rintro e w4 ⟨rfl,rfl⟩;go_wp2_with (fail);(with_reducible refine(Hth.out _).mono ?_);rintro e w4 ⟨rfl,rfl⟩;have Hxf:=qz (HB0.out.many (.int .i64 2) (.bool true) (.int .i64 0) (.string ⟨#[]⟩) (.slice none 0 0) (.slice none 0 0));go_wp2;exact bodyPost_ret (Af rfl rfl Hxf.out.blk) rfl ⟨Hxf.out.below,⟨_,rfl,Bu 2 true 0 _⟩⟩
       |false=>
        rw[hp]at hRES;rw[if_neg (by decide)]at hRES;subst hRES;have Hdnull:Hid (∀W,Calls Tryz.prog 155 #[.string s,.int .i64 (p:Nat),.string ⟨#[110,117,108,108]⟩] W fun e w'=>e=.returned (.bool false)/\W=w'):=fun W=>Bc (t:=⟨#[110,117,108,108]⟩) (by rw[hdr];rfl) W (by omega) (by omega) (by decide);have Hth:Hid (∀W,Calls Tryz.prog 155 #[.string s,.int .i64 (p:Nat),.string ⟨#[116,114,117,101]⟩] W fun e w'=>e=.returned (.bool false)/\W=w'):=fun W=>Bc (t:=⟨#[116,114,117,101]⟩) hp W (by omega) (by omega) (by decide);have Hdfalse:Hid (∀W,Calls Tryz.prog 155 #[.string s,.int .i64 (p:Nat),.string ⟨#[102,97,108,115,101]⟩] W fun e w'=>e=.returned (.bool false)/\W=w'):=fun W=>Bc (t:=⟨#[102,97,108,115,101]⟩) (by rw[hdr];rfl) W (by omega) (by omega) (by decide);clear hdr hp;go_wp2_with (fail);(with_reducible refine(Hdnull.out _).mono ?_);rintro e w4 ⟨rfl,rfl⟩;go_wp2_with (fail);(with_reducible refine(Hth.out _).mono ?_);rintro e w4 ⟨rfl,rfl⟩;go_wp2_with (fail);(with_reducible refine(Hdfalse.out _).mono ?_);rintro e w4 ⟨rfl,rfl⟩;go_wp2;exact bodyPost_ret (Af rfl rfl Hxz.out.blk) rfl ⟨Hxz.out.below,rfl⟩
     . rw[if_neg (by decide),if_neg (by decide),if_neg (by decide),if_neg (by decide),if_neg (by decide),if_pos rfl]at hRES;have hdr:=D0 Hc.out;unfold C2 at hRES
       cases hp:List.isPrefixOf ([102,97,108,115,101]:List UInt8) (s.data.toList.drop p)with
       |true=>
        rw[hp]at hRES;rw[if_pos rfl]at hRES;subst hRES;have Hdnull:Hid (∀W,Calls Tryz.prog 155 #[.string s,.int .i64 (p:Nat),.string ⟨#[110,117,108,108]⟩] W fun e w'=>e=.returned (.bool false)/\W=w'):=fun W=>Bc (t:=⟨#[110,117,108,108]⟩) (by rw[hdr];rfl) W (by omega) (by omega) (by decide);have Hdtrue:Hid (∀W,Calls Tryz.prog 155 #[.string s,.int .i64 (p:Nat),.string ⟨#[116,114,117,101]⟩] W fun e w'=>e=.returned (.bool false)/\W=w'):=fun W=>Bc (t:=⟨#[116,114,117,101]⟩) (by rw[hdr];rfl) W (by omega) (by omega) (by decide);have Hth:Hid (∀W,Calls Tryz.prog 155 #[.string s,.int .i64 (p:Nat),.string ⟨#[102,97,108,115,101]⟩] W fun e w'=>e=.returned (.bool true)/\W=w'):=fun W=>Bc (t:=⟨#[102,97,108,115,101]⟩) hp W (by omega) (by omega) (by decide);clear hdr hp;go_wp2_with (fail);(with_reducible refine(Hdnull.out _).mono ?_);rintro e w4 ⟨rfl,rfl⟩;go_wp2_with (fail);(with_reducible refine(Hdtrue.out _).mono ?_);rintro e w4 ⟨rfl,rfl⟩;go_wp2_with (fail);(with_reducible refine(Hth.out _).mono ?_);rintro e w4 ⟨rfl,rfl⟩;have Hxf:=qz (HB0.out.many (.int .i64 2) (.bool false) (.int .i64 0) (.string ⟨#[]⟩) (.slice none 0 0) (.slice none 0 0));go_wp2;exact bodyPost_ret (Af rfl rfl Hxf.out.blk) rfl ⟨Hxf.out.below,⟨_,rfl,Bu 2 false 0 _⟩⟩
       |false=>
        rw[hp]at hRES;rw[if_neg (by decide)]at hRES;subst hRES;have Hdnull:Hid (∀W,Calls Tryz.prog 155 #[.string s,.int .i64 (p:Nat),.string ⟨#[110,117,108,108]⟩] W fun e w'=>e=.returned (.bool false)/\W=w'):=fun W=>Bc (t:=⟨#[110,117,108,108]⟩) (by rw[hdr];rfl) W (by omega) (by omega) (by decide);have Hdtrue:Hid (∀W,Calls Tryz.prog 155 #[.string s,.int .i64 (p:Nat),.string ⟨#[116,114,117,101]⟩] W fun e w'=>e=.returned (.bool false)/\W=w'):=fun W=>Bc (t:=⟨#[116,114,117,101]⟩) (by rw[hdr];rfl) W (by omega) (by omega) (by decide);have Hth:Hid (∀W,Calls Tryz.prog 155 #[.string s,.int .i64 (p:Nat),.string ⟨#[102,97,108,115,101]⟩] W fun e w'=>e=.returned (.bool false)/\W=w'):=fun W=>Bc (t:=⟨#[102,97,108,115,101]⟩) hp W (by omega) (by omega) (by decide);clear hdr hp;go_wp2_with (fail);(with_reducible refine(Hdnull.out _).mono ?_);rintro e w4 ⟨rfl,rfl⟩;go_wp2_with (fail);(with_reducible refine(Hdtrue.out _).mono ?_);rintro e w4 ⟨rfl,rfl⟩;go_wp2_with (fail);(with_reducible refine(Hth.out _).mono ?_);rintro e w4 ⟨rfl,rfl⟩;go_wp2;exact bodyPost_ret (Af rfl rfl Hxz.out.blk) rfl ⟨Hxz.out.below,rfl⟩
end Go.Proofs.YtkmcjfkokoidcaaGreatDoor
