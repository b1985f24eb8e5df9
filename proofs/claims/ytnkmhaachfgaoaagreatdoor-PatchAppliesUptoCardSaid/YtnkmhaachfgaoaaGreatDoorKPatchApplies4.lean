/- Parts: commonplacelaw14.own: a list of ops in memory of its own. Condition: a bulk of at most 10^8. -/
import Derived.Test.YtnkmhaachfgaoaaGreatDoorKPq35
set_option maxHeartbeats 20000000
set_option maxRecDepth 100000
namespace Go.Proofs.YtnkmhaachfgaoaaGreatDoor
open Go Go.RowKit
structure LO (w:World) (l:List POp) (q:Nat) (wr:World) (V:Value):Prop where
 below:Below w.heap.size w wr
 row:Dq w.heap.size 42 8 wr (Ex (l.take q)) V
def Abl (l:List POp) (w:World) (e:Ending) (w':World):Prop:=Below w.heap.size w w'/\ ∃a' c',e=.returned (.slice a' l.length c')/\Bv w.heap.size w' (.row 8 (Ex l)) [.slice a' l.length c']
theorem Pk (l:List POp) (a:Option Addr) (n cc:Nat) (w:World) (h:Ae w w.heap.size (.row 8 (Ex l)) [.slice a n cc]) (hb:Bo l<=100000000):
 Calls Tryz.prog 12 #[.slice a n cc] w (Abl l w):=by
 obtain⟨PO,hPO⟩: ∃P:Ending->World->Prop,Abl l w=P:=⟨_,rfl⟩;rw[hPO];have hlq:=Em l;have hn:=h.row_len;rw[Ee]at hn;subst hn;obtain⟨j0,hj,hy0,hy1,hy2⟩:=info_parts Vb;have HI0:Hid (LO w l 0 w (.slice none 0 0)):=⟨Below.refl _ _,by simpa[Ex]using Dq.nil _ _ _ _⟩;obtain⟨H,Hj,Hy0,Hy1,Hy2,HPO⟩:=hid6 h hj hy0 hy1 hy2 hPO;clear h hj hy0 hy1 hy2 hPO;go_enter Tryz.func12,Tryz.ntmps12;go_wp2_with (fail);go_loopw [3,4] (fun V i wr=> ∃q:Nat,i=.int .i64 q/\q<=l.length/\Hid (LO w l q wr V)) (fun _ i _=>l.length - (intOf i).toNat)
 case atStart=>exact⟨0,rfl,Nat.zero_le _,HI0⟩
 case round=>
  obtain⟨q,rfl,hq,hI⟩:=hrel;clear HI0;by_cases hlt:q<l.length
  . obtain⟨p,hp⟩: ∃p,l[q]? =some p:=⟨_,List.getElem?_eq_getElem hlt⟩;have hmem:=List.mem_of_getElem? hp;have hbq:=Lv hmem;have htk:Ex (l.take q)++ [dQ p]=Ex (l.take (q+1)):=by
     unfold Ex;rw[List.take_add_one,hp];simp
    obtain⟨kk,key,⟨k',b',n',t',l',o'⟩⟩:=p;simp only at hbq;have hbw:=hI.out.below;have hz:=hbw.size;obtain⟨gl,off,rfl,hgl,la',lc',oa',oc',hv,c0,c1,c2,c3,c4,c5,c6,c7⟩:=Kp H.out hp;have hdl:(Ex (l.take q)).length=q:=by rw[Ee,List.length_take];omega
    have hLo:Hid ((Ex (l.take q)).length+1<=maxLen/\((Ex (l.take q)).length+1)*112<=140737488355328):=by rw[hdl];exact⟨by simp only[maxLen];omega,by omega⟩
    have hq1:(q:Int)<(l.length:Int):=by omega
    have hq0:(0:Int)<=q:=by omega
    have hC: ∀W,Below wr.heap.size wr W->Calls Tryz.prog 35 #[.agg #[.int .i64 k',.bool b',.int .i64 n',.string t',.slice la' l'.length lc',.slice oa' o'.length oc']] W fun e w'=>(∃cs',e=.returned (.agg (cs':List Value).toArray)/\cs'.length=6/\Mo W w' (.mk k' b' n' t' l' o') cs')/\Below W.heap.size W w':=
     fun W hW=>Zy _ _ W (Ab.more (Nat.le_trans hz hW.size) _ _ (hv.below (hbw.trans (hW.mono hz)))) (by omega)
    obtain⟨aV,cV,rfl⟩:=hI.out.row.slice;have hrow:=hI.out.row;have hgl2:gl<wr.heap.size:=by omega
    obtain⟨hcr,hfr⟩:=Gi hbw;obtain⟨HC,Hp,Hv,Hbw,Htk,Hrow⟩:=hid6 hC hp hv hbw htk hrow;clear hC hp hv hbw htk hrow;clear hmem hdl;go_upto_region 5 with(fail)
    go_region_held3 (fun W=>W.cell? ⟨gl,off+q*8,none⟩=some (.int .i64 kk)/\W.cell? ⟨gl,off+q*8+1,none⟩=some (.string key)/\W.cell? ⟨gl,off+q*8+2,none⟩=some (.int .i64 k')/\W.cell? ⟨gl,off+q*8+3,none⟩=some (.bool b')/\W.cell? ⟨gl,off+q*8+4,none⟩=some (.int .i64 n')/\W.cell? ⟨gl,off+q*8+5,none⟩=some (.string t')/\W.cell? ⟨gl,off+q*8+6,none⟩=some (.slice la' l'.length lc')/\W.cell? ⟨gl,off+q*8+7,none⟩=some (.slice oa' o'.length oc')) (go_keep) (first
     |(refine Mi (d:=dQ ⟨kk,key,.mk k' b' n' t' l' o'⟩) (V:=(.slice aV (Ex (l.take q)).length cV)) (by rfl) (.tmp 11) (.tmp 29) 23 (by rfl) Tryz.underlying23 Hj.out Hy0.out Hy1.out Hy2.out rfl (by omega) (by rfl) Hrow.out (by have:=Hbw.out.size;omega) Hbe.out (Jq _) Hfe.out (by rfl) (Ym w4 _ _ _ _ _ _ _ _) hLo.out.1 hLo.out.2 ?_;intro V6 w6 hrow6 hg6 hat6;have hw6:=Jm Hw4.out hg6 Hrow.out (by omega) Hw4.out.size;obtain⟨hc6,hf6⟩:=Gi hw6;rw[Htk.out]at hrow6;have HG6:=qz (And.intro hrow6 hw6);clear hrow6 hg6 hat6 hw6)
     |(go_at_call 35;refine(HC.out _ ?_).mono ?_;(exact(Below.drew (Below.refl _ _)));rintro e w4 ⟨⟨cs4,rfl,hl4,hf4⟩,hb4⟩;obtain⟨la2,lc2,oa2,oc2,rfl⟩:=Oe (Pb hf4);have hbr4:Below wr.heap.size wr w4:=((Below.drew (Below.refl _ _)).trans hb4);have hwb4:=Hbw.out.trans (hbr4.mono Hbw.out.size);obtain⟨hc4,hg4⟩:=Gi hwb4;have Hw4:=qz ((Hbw.out.trans (hbr4.mono Hbw.out.size)).alloc (Nat.le_trans Hbw.out.size hbr4.size) (.cells #[.int .i64 kk,.string key,.int .i64 k',.bool b',.int .i64 n',.string t',.slice la2 l'.length lc2,.slice oa2 o'.length oc2] 42));have Hbe:=qz (hbr4.alloc hbr4.size (.cells #[.int .i64 kk,.string key,.int .i64 k',.bool b',.int .i64 n',.string t',.slice la2 l'.length lc2,.slice oa2 o'.length oc2] 42));have hfe:Bv wr.heap.size (w4.alloc (.cells #[.int .i64 kk,.string key,.int .i64 k',.bool b',.int .i64 n',.string t',.slice la2 l'.length lc2,.slice oa2 o'.length oc2] 42)) (dQ ⟨kk,key,.mk k' b' n' t' l' o'⟩) [.int .i64 kk,.string key,.int .i64 k',.bool b',.int .i64 n',.string t',.slice la2 l'.length lc2,.slice oa2 o'.length oc2]:=(Aes (Pb hf4)).later (Aa _ _);have Hfe:=qz hfe;clear hfe hf4 hb4))
    all_goals
     obtain⟨k1,k2⟩:=HG6.out;have HN:Hid (LO w l (q+1) w6 V6):=⟨k2,k1⟩;clear k1 k2 HG6 Hfe Hbe Hw4 hc4 hg4 hbr4 hc6 hf6 hwb4;go_wp2;go_roundw
     case rel=>exact⟨q+1,by go_num,by omega,HN⟩
     case measure=>simp only[intOf];omega
  . obtain rfl:q=l.length:=by omega
    have hln:(Ex (l.take l.length)).length=l.length:=by rw[Ee,List.take_length]
    obtain⟨aV,cV,rfl⟩:=hI.out.row.slice_n hln;obtain⟨i1,i4⟩:=hI.out;have hq:=i4.close;have HP:Hid (PO (.returned (.slice aV l.length cV)) wr):=by
     show PO _ _;rw[<-HPO.out];obtain⟨a',c',e',_,hf,_⟩:=hq;rw[hln]at e' hf;rw[List.take_length]at hf;obtain⟨rfl,rfl⟩:aV=a'/\cV=c':=by simpa using e'
     exact⟨i1,_,_,rfl,hf⟩
    clear hI i1 i4 hq hln;go_wp2;exact HP.out
end Go.Proofs.YtnkmhaachfgaoaaGreatDoor
