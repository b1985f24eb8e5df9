/- Parts: The reference's word why a push may not be. Condition: a bulk of at most 10^8. -/
import Derived.Test.YtobmaegpfbheoaaGreatDoorKPf36
set_option maxHeartbeats 20000000
set_option maxRecDepth 100000
namespace Go.Proofs.YtobmaegpfbheoaaGreatDoor
open Go.RowKit
theorem Ig (c:Int) (l:List Num) (a:Option Addr) (n cc:Nat) (w:World) (hc:0<=c) (hT:B7 w) (h:Ag w w.heap.size (.row 20 (Si l)) [.slice a n cc]) (hb:Dj l<=100000000) (hin:Xq l):
 Calls Tryz.prog 8 #[.agg #[.int .u64 c,.slice a n cc]] w fun e w'=>e=.returned (.int .i64 (B9 c l))/\Below w.heap.size w w':=by
 have hn:=h.row_len;rw[Iv]at hn;subst hn;have hlq:=Ir l;have hE:B9 c l=B9 c l:=rfl
 conv at hE=>rhs;unfold B9
 generalize B9 c l=X at hE ⊢;by_cases h0:c=0
 . subst h0;rw[if_pos (by omega)]at hE;have HE:=qz hE;clear hE;clear h hT;go_enter Tryz.func8,Tryz.ntmps8;go_wp2;go_ret;exact⟨by rw[HE.out];rfl,Aa _ _⟩
 have t0:(c==0)=false:=by simpa using h0
 by_cases h1:4611686018427387903<c
 . rw[if_pos (by omega)]at hE;have HE:=qz hE;clear hE;clear h hT h0;go_enter Tryz.func8,Tryz.ntmps8;go_wp2;go_ret;exact⟨by rw[HE.out];rfl,Aa _ _⟩
 rw[if_neg (by omega)]at hE;have t1:c<=4611686018427387903:=by omega
 by_cases h2:64<l.length
 . rw[if_pos h2]at hE;have t2:(64:Int)<(l.length:Int):=by omega
   have HE:=qz hE;clear hE;clear h hT h0 h1;go_enter Tryz.func8,Tryz.ntmps8;go_wp2;go_ret;exact⟨by rw[HE.out];rfl,Aa _ _⟩
 rw[if_neg h2]at hE;have t2:(l.length:Int)<=64:=by omega
 obtain⟨wi,hwi⟩: ∃wi,w.alloc (.cells #[.int .u64 c,.slice a l.length cc] 25)=wi:=⟨_,rfl⟩;have Hbi:Hid (Below w.heap.size w wi):=hwi▸Aa _ _;have hxb:Aj wi w.heap.size 25 #[.int .u64 c,.slice a l.length cc]:=hwi▸Aj.new _ _ _;have hI0:Hid (Below wi.heap.size wi wi):=qz (Below.refl _ _);have hX0:Hid (Fq (l.drop 0)=X):=qz (by rw[List.drop_zero];exact hE.symm);have y0:=hxb.cell 0;have y1:=hxb.cell 1;have hgb:=hxb.lt;obtain⟨H,HT,Hin,Hxb⟩:=hid4 h hT hin hxb;clear h hT hin hxb;clear hE h0 h1;go_enter Tryz.func8,Tryz.ntmps8;go_wp2_with (fail);clear hwi;go_loopw [3] (fun i wr=> ∃q:Nat,i=.int .i64 q/\q<=l.length/\Hid (Fq (l.drop q)=X)/\Hid (Below wi.heap.size wi wr)) (fun i _=>l.length - (intOf i).toNat)
 case atStart=>exact⟨0,rfl,Nat.zero_le _,hX0,hI0⟩
 case round=>
  obtain⟨q,rfl,hq,hX,hbr⟩:=hrel;clear hX0 hI0 y0 y1;have hbw:=Hbi.out.trans (hbr.out.mono Hbi.out.size);have y1:=(Hxb.out.below hbr.out Hxb.out.lt).cell 1;have hgr0:=Nat.lt_of_lt_of_le Hxb.out.lt hbr.out.size;by_cases hlt:q<l.length
  . obtain⟨p,hp⟩: ∃p,l[q]? =some p:=⟨_,List.getElem?_eq_getElem hlt⟩;have hmem:=List.mem_of_getElem? hp;have hbm:=It hmem;obtain⟨hid0,hin'⟩:=Hin.out p hmem;have hXd:=hX.out;rw[N2 hp]at hXd;obtain⟨id,k',key',dst',n',had',⟨k1',b1',n1',t1',l1',o1'⟩,has',⟨k2',b2',n2',t2',l2',o2'⟩,l'⟩:=p;have hz:=hbw.size;obtain⟨g,off,rfl,hg,cs',hcs,_,hc0,hcell⟩:=Q7 (H.out.below hbw) hp;obtain⟨la1',lc1',oa1',oc1',la2',lc2',oa2',oc2',a',c',rfl,_,_,_⟩:=Bf hcs;simp only at hXd hbm hin' hc0 hid0;have hrange:wr.rangeAt g (off+q*20+1) [.int .i64 k',.string key',.string dst',.int .i64 n',.bool had',.int .i64 k1',.bool b1',.int .i64 n1',.string t1',.slice la1' l1'.length lc1',.slice oa1' o1'.length oc1',.bool has',.int .i64 k2',.bool b2',.int .i64 n2',.string t2',.slice la2' l2'.length lc2',.slice oa2' o2'.length oc2',.slice a' l'.length c']:=hcell;have hgr:g<wr.heap.size:=by omega
    have hq1:(q:Int)<(l.length:Int):=by omega
    have hq0:(0:Int)<=q:=by omega
    have hM:Calls Tryz.prog 18 #[.agg #[.int .i64 k',.string key',.string dst',.int .i64 n',.bool had',.int .i64 k1',.bool b1',.int .i64 n1',.string t1',.slice la1' l1'.length lc1',.slice oa1' o1'.length oc1',.bool has',.int .i64 k2',.bool b2',.int .i64 n2',.string t2',.slice la2' l2'.length lc2',.slice oa2' o2'.length oc2',.slice a' l'.length c']] wr fun e w'=>e=.returned (.int .i64 (D2 (Mut.mk k' key' dst' n' had' (.mk k1' b1' n1' t1' l1' o1') has' (.mk k2' b2' n2' t2' l2' o2') l')))/\Below wr.heap.size wr w':=Pj _ _ wr (HT.out.below hbw) (hcs.more hz) (by omega) hin';generalize D2 (Mut.mk k' key' dst' n' had' (.mk k1' b1' n1' t1' l1' o1') has' (.mk k2' b2' n2' t2' l2' o2') l')=Y at hM hXd;by_cases i0:id=0
    . subst i0;rw[if_pos (by omega)]at hXd;obtain⟨HXd,Hbw⟩:=hid2 hXd hbw;clear hXd hbw;clear hcs hcell hmem hbm hp hX hin' hM;go_wp2;go_ret;exact⟨by rw[<-HXd.out];rfl,Hbw.out⟩
    have ti0:(id==0)=false:=by simpa using i0
    by_cases i1:4611686018427387903<id
    . rw[if_pos (by omega)]at hXd;obtain⟨HXd,Hbw⟩:=hid2 hXd hbw;clear hXd hbw;clear hcs hcell hmem hbm hp hX hin' hM i0;go_wp2;go_ret;exact⟨by rw[<-HXd.out];rfl,Hbw.out⟩
    rw[if_neg (by omega)]at hXd;have ti1:id<=4611686018427387903:=by omega
    obtain⟨HM,Hbw⟩:=hid2 hM hbw;clear hM hbw;clear hcs hcell hmem hbm hp hX hin' i0 i1;go_upto_region 10 with(fail)
    iterate 17 go_step
    refine wp_load_mid 45 (.tmp 44) rfl g (off+q*20+1) rfl [.int .i64 k',.string key',.string dst',.int .i64 n',.bool had',.int .i64 k1',.bool b1',.int .i64 n1',.string t1',.slice la1' l1'.length lc1',.slice oa1' o1'.length oc1',.bool has',.int .i64 k2',.bool b2',.int .i64 n2',.string t2',.slice la2' l2'.length lc2',.slice oa2' o2'.length oc2',.slice a' l'.length c'] _ hrange Tryz.underlying45 rfl (by kernel_rfl) ?_;go_wp2_with (fail);(with_reducible refine(HM.out).mono ?_);rintro e w3 ⟨rfl,hb3⟩;have hbf:=hbr.out.trans (hb3.mono hbr.out.size);by_cases hY:Y=0
    . subst hY;rw[if_pos rfl]at hXd;obtain⟨HXd,Hbf⟩:=hid2 hXd hbf;clear hXd hbf;clear hb3;go_wp2;go_roundw
      case rel=>exact⟨q+1,by go_num,by omega,HXd,Hbf⟩
      case measure=>simp only[intOf];omega
    . rw[if_neg hY]at hXd;have tY:(Y != 0)=true:=by simpa using hY
      obtain⟨HXd,Hbf⟩:=hid2 hXd hbf;clear hXd hbf;clear hb3;go_wp2;go_ret;exact⟨by rw[<-HXd.out];rfl,Hbi.out.trans (Hbf.out.mono Hbi.out.size)⟩
  . obtain rfl:q=l.length:=by omega
    have hE:=hX.out;rw[List.drop_length]at hE;have hE':X=0:=hE.symm;subst hE';have Hbw:=qz hbw;clear hbw;clear hX hE;go_wp2;go_ret;exact⟨rfl,Hbw.out⟩
end Go.Proofs.YtobmaegpfbheoaaGreatDoor
