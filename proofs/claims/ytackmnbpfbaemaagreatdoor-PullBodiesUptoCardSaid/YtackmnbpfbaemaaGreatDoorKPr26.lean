/- Parts: commonplaceref04.object, where 'value' keeps its promise at a smaller fuel. Condition: a text of at most 1.6*10^7 bytes. -/
import Derived.Deep.DeepCutAuto
import Derived.Deep.CutBlock
import Derived.Test.YtackmnbpfbaemaaGreatDoorKPr22
set_option maxHeartbeats 20000000
namespace Go.Proofs.YtackmnbpfbaemaaGreatDoor
open Go.RowKit
def Ak5 (w:World) (l:List (ByteArray×Val)) (e:Ending) (w':World):Prop:=Below w.heap.size w w'/\
 ((Bg l []=none/\e=.returned (.tuple #[.agg #[.int .i64 0,.bool false,.int .i64 0,.string ⟨#[]⟩,.slice none 0 0,.slice none 0 0],.int .i64 8]))\/
  ∃o oa oc,Bg l []=some o/\e=.returned (.tuple #[.agg #[.int .i64 6,.bool false,.int .i64 0,.string ⟨#[]⟩,.slice none 0 0,.slice oa o.length oc],.int .i64 0])/\
   (o= []\/ ∃g,oa=some ⟨g,0,none⟩/\g<w'.heap.size/\Au w' w'.heap.size o g 0))
def Tj (w:World) (l:List (ByteArray×Val)) (e:Ending) (w':World):Prop:=Below w.heap.size w w'/\
 ((Bg l []=none/\e=.returned (.tuple #[.agg #[.int .i64 0,.bool false,.int .i64 0,.string ⟨#[]⟩,.slice none 0 0,.slice none 0 0],.int .i64 8]))\/
  ∃o oa oc,Bg l []=some o/\e=.returned (.tuple #[.agg #[.int .i64 6,.bool false,.int .i64 0,.string ⟨#[]⟩,.slice none 0 0,.slice oa o.length oc],.int .i64 0])/\
   (o= []\/ ∃g,oa=some ⟨g,0,none⟩/\w.heap.size<=g/\g<w'.heap.size/\ ∀w'':World,w'.heap.size<=w''.heap.size->(∀p:Addr,w.heap.size<=p.block->p.block<w'.heap.size->w''.cell? p=w'.cell? p)->Au w'' w'.heap.size o g 0))
theorem Tj.now {w:World} {l:List (ByteArray×Val)} {e:Ending} {w':World} (h:Tj w l e w'):Ak5 w l e w':=by
 obtain⟨hb,h|⟨o,oa,oc,h1,h2,h3⟩⟩:=h
 . exact⟨hb,.inl h⟩
 . refine⟨hb,.inr ⟨o,oa,oc,h1,h2, ?_⟩⟩;rcases h3 with h3|⟨g,e1,_,e3,e4⟩
   . exact .inl h3
   . exact .inr ⟨g,e1,e3,e4 w' (Nat.le_refl _) fun _ _ _=>rfl⟩
def FrR (b:Nat) (wr:World) (acc:List (ByteArray×Val)) (ns:List Value):Prop:=
 ∀w'':World,wr.heap.size<=w''.heap.size->(∀p:Addr,b<=p.block->p.block<wr.heap.size->w''.cell? p=wr.cell? p)->Fa w'' wr.heap.size acc ns
theorem FrR.keep {b:Nat} {wr w':World} {acc:List (ByteArray×Val)} {ns:List Value} (h:FrR b wr acc ns) (hs:wr.heap.size<=w'.heap.size)
 (hk: ∀p:Addr,b<=p.block->p.block<wr.heap.size->w'.cell? p=wr.cell? p):FrR b w' acc ns:=fun w'' h1 h2=>
 Fa.more hs (h w'' (Nat.le_trans hs h1) (fun p p1 p2=>(h2 p p1 (Nat.lt_of_lt_of_le p2 hs)).trans (hk p p1 p2)))
def FrO (b:Nat) (wr:World) (acc:List (ByteArray×Val)) (oa:Option Addr) (oc:Nat) (ns:List Value):Prop:=
 FrR b wr acc ns/\((acc= []/\oa=none/\oc=0)\/ ∃g,oa=some ⟨g,0,none⟩/\b<=g/\g<wr.heap.size/\acc.length<=oc/\ ∀j u,ns[j]? =some u->wr.cell? ⟨g,j,none⟩=some u)
theorem FrO.reads {b:Nat} {wr:World} {acc:List (ByteArray×Val)} {oa:Option Addr} {oc:Nat} {ns:List Value} (h:FrO b wr acc oa oc ns):Bt wr wr.heap.size 7 oa acc.length ns/\ ∀u ∈ ns,u.oneCell'=true:=by
 have hl:=(h.1 wr (Nat.le_refl _) (fun _ _ _=>rfl)).len;refine⟨⟨hl.1,fun hn=> ?_⟩,hl.2⟩;rcases h.2 with⟨e,_,_⟩|⟨g,e,_,hg,_,hc⟩
 . rw[e]at hn;simp at hn
 . refine⟨_,e,hg,fun j u hu=> ?_⟩;rw[Go.WideShapes.add_plain,Nat.zero_add];exact hc j u hu
theorem Bt.take_ {w:World} {B size n k:Nat} {A:Option Addr} {xs:List Value} (h:Bt w B size A n xs) (hk:k<=n):Bt w B size A k (xs.take (k*size)):=by
 refine⟨by rw[List.length_take,h.1];have:=Nat.mul_le_mul_right size hk;omega,fun hn=> ?_⟩;obtain⟨ad,e,hb,hc⟩:=h.2 (by omega);refine⟨ad,e,hb,fun j u hu=>hc j u ?_⟩;rw[List.getElem?_take]at hu
 split at hu
 . exact hu
 . cases hu
theorem FrR.put {b:Nat} {wo w1 w4 w6:World} {acc:List (ByteArray×Val)} {ns cs:List Value} {key:ByteArray} {x:Val} (h:FrR b wo acc ns) (hx:Ql w1 w4 x cs) (hb:b<=wo.heap.size) (hs1:wo.heap.size<=w1.heap.size) (hs4:w1.heap.size<=w4.heap.size) (hs6:w4.heap.size<=w6.heap.size)
 (k1: ∀p:Addr,b<=p.block->p.block<wo.heap.size->w6.cell? p=wo.cell? p) (k4: ∀p:Addr,w1.heap.size<=p.block->p.block<w4.heap.size->w6.cell? p=w4.cell? p):
 FrR b w6 (Kb (key,x) acc) (ns.take (O9 key acc*7)++((.string key::cs)++ns.drop (O9 key acc*7))):=by
 intro w'' h1 h2;have a1:=Fa.more (B':=w6.heap.size) (by omega) (h w'' (by omega) (fun p p1 p2=>(h2 p p1 (by omega)).trans (k1 p p1 p2)));have a2:=Ac.more hs6 _ _ (hx w'' (by omega) (fun p p1 p2=>(h2 p (by omega) (by omega)).trans (k4 p p1 p2)));obtain⟨s1,s2⟩:=Fa.split (O9 key acc) a1;exact s1.app (Fa.app (a:= [(key,x)]) ⟨cs, [],by simp,a2,rfl⟩ s2)
theorem Aj0 {α:Type} {l:List α} {k:Nat} {P:α->Prop} (h: ∀u ∈ l,P u): ∀u ∈ l.take k,P u:=fun u hu=>h u (List.mem_of_mem_take hu)
theorem Ajz {α:Type} {l:List α} {k:Nat} {P:α->Prop} (h: ∀u ∈ l,P u): ∀u ∈ l.drop k,P u:=fun u hu=>h u (List.mem_of_mem_drop hu)
theorem Aa8 {w:World} {B m:Nat} {v:Value} {ns:List Value} (h:w.ownsRow B 63 7 v m ns):
 ∃la lc,v=.slice la m lc/\((m=0/\la=none/\lc=0)\/ ∃g,la=some ⟨g,0,none⟩/\B<=g/\g<w.heap.size/\m<=lc/\ ∀j u,ns[j]? =some u->w.cell? ⟨g,j,none⟩=some u):=by
 rcases h.2 with⟨rfl,hz⟩|⟨g,cap,cur,rfl,hbg,hg,hmc,_,_,_⟩
 . subst hz;exact⟨none,0,rfl,.inl ⟨rfl,rfl,rfl⟩⟩
 . refine⟨_,cap,rfl,.inr ⟨g,rfl,hbg,(Array.getElem?_eq_some_iff.1 hg).1,hmc,fun j u hu=> ?_⟩⟩;have:=h.cells (g:=g) rfl j u hu
   rwa [Go.WideShapes.add_plain,Nat.zero_add]at this
theorem Fj {w:World} {g i:Nat} {cs:Array Value} {t:TypeId} (h:w.heap[g]? =some (.cells cs t (0,0))) (u:Value):(w.setCell ⟨g,i,none⟩ u).heap[g]? =some (.cells (cs.setIfInBounds i u) t (0,0)):=by
 simp[World.setCell,Array.getElem?_modify,h]
theorem Pj {B:Nat} {a w:World} (h:Below B a w) (n:Nat):Below B a (w.drewN n):=⟨h.os,h.tape,h.output,h.size,h.block⟩
theorem X5 {α:Type} {l:List α} {k:Nat} {v:α} (h:l[k]? =some v):l.drop k=v::l.drop (k+1):=by
 obtain⟨hlt,rfl⟩:=List.getElem?_eq_some_iff.1 h;exact List.drop_eq_getElem_cons hlt
set_option maxRecDepth 100000 in
theorem Yo (HC: ∀v,Mb v) (l:List (ByteArray×Val)) (la:Option Addr) (lc:Nat) (w:World) (hl:l= []\/ ∃g off,la=some ⟨g,off,none⟩/\g<w.heap.size/\Au w w.heap.size l g off) (hb:Al l<=100000000):
 Calls Tryz.prog 209 #[.slice la l.length lc] w (Tj w l):=by
 have hln:=Cg l;obtain⟨HCC,HL⟩:=hid2 HC hl;clear HC hl;go_enter Tryz.func209,Tryz.ntmps209;go_wp2_with (fail);obtain⟨w0,hw0⟩: ∃w0,(w.alloc (.cells #[.int .i64 0,.bool false,.int .i64 0,.string ⟨#[]⟩,.slice none 0 0,.slice none 0 0] 39)).alloc (.cells #[.int .i64 6,.bool false,.int .i64 0,.string ⟨#[]⟩,.slice none 0 0,.slice none 0 0] 39)=w0:=⟨_,rfl⟩;have Hbw0:Hid (Below w.heap.size w w0):=by
  show Below _ _ _;rw[<-hw0];exact((Below.refl _ _).alloc (Nat.le_refl _) _).alloc (by simp) _
 have Hx10:Hid (w0.heap[w.heap.size]? =some (.cells #[.int .i64 0,.bool false,.int .i64 0,.string ⟨#[]⟩,.slice none 0 0,.slice none 0 0] 39 (0,0))):=by
  show _=_;rw[<-hw0,Lib.alloc_old _ _ _ (by simp)];exact heap_alloc_new _ _
 have Hx20:Hid (w0.heap[w.heap.size+1]? =some (.cells #[.int .i64 6,.bool false,.int .i64 0,.string ⟨#[]⟩,.slice none 0 0,.slice none 0 0] 39 (0,0))):=by
  show _=_;rw[<-hw0];have:=heap_alloc_new (w.alloc (.cells #[.int .i64 0,.bool false,.int .i64 0,.string ⟨#[]⟩,.slice none 0 0,.slice none 0 0] 39)) (.cells #[.int .i64 6,.bool false,.int .i64 0,.string ⟨#[]⟩,.slice none 0 0,.slice none 0 0] 39);simpa using this
 have Hs0:w.heap.size+2<=w0.heap.size:=by rw[<-hw0];simp
 have Hfr0:Hid (FrO (w.heap.size+2) w0 [] none 0 []):=⟨fun _ _ _=>rfl,.inl ⟨rfl,rfl,rfl⟩⟩;have Hob0:Hid (Bg (l.drop 0) []=Bg l []):=rfl;have Hbk0:Al []+Al (l.drop 0)<=100000000:=by simp only[Al,List.drop_zero];omega
 rw[hw0];clear hw0;go_loopw [5] (fun i wr=> ∃(q:Nat) (acc:List (ByteArray×Val)) (oa:Option Addr) (oc:Nat) (ns:List Value),i=.int .i64 q/\q<=l.length/\Hid (Bg (l.drop q) acc=Bg l [])/\Hid (Below w.heap.size w wr)/\
  Hid (wr.heap[w.heap.size]? =some (.cells #[.int .i64 0,.bool false,.int .i64 0,.string ⟨#[]⟩,.slice none 0 0,.slice none 0 0] 39 (0,0)))/\
  Hid (wr.heap[w.heap.size+1]? =some (.cells #[.int .i64 6,.bool false,.int .i64 0,.string ⟨#[]⟩,.slice none 0 0,.slice oa acc.length oc] 39 (0,0)))/\
  Hid (FrO (w.heap.size+2) wr acc oa oc ns)/\w.heap.size+2<=wr.heap.size/\Al acc+Al (l.drop q)<=100000000) (fun i _=>l.length - (intOf i).toNat)
 case atStart=>exact⟨0, [],none,0, [],rfl,Nat.zero_le _,Hob0,Hbw0,Hx10,Hx20,Hfr0,Hs0,Hbk0⟩
 case round=>
  obtain⟨q,acc,oa,oc,ns,rfl,hq,hob,hbw,hx1,hx2,hfr,hs,hbk⟩:=hrel;clear Hob0 Hbw0 Hx10 Hx20 Hfr0 Hs0 Hbk0;have hal:=Cg acc;have b1:wr.cell? ⟨w.heap.size+1,5,none⟩=some (.slice oa acc.length oc):=by rw[Lib.cell_of_heap hx2.out];rfl
  by_cases hlt:q<l.length
  . obtain⟨g,off,rfl,hg,hL⟩: ∃g off,la=some ⟨g,off,none⟩/\g<w.heap.size/\Au w w.heap.size l g off:=by
     rcases HL.out with h0|h
     . rw[h0]at hlt;simp at hlt
     . exact h
    obtain⟨⟨key,x⟩,hx⟩: ∃v,l[q]? =some v:=⟨_,List.getElem?_eq_getElem hlt⟩;have hdr:=X5 hx;have hob':=hob.out;rw[hdr]at hob' hbk;simp only[Bg,Al,Ec]at hob' hbk;obtain⟨AT,hAT⟩: ∃AT,O9 key acc=AT:=⟨_,rfl⟩;have hATl:=Acq key acc;have hal2:acc.length<=100000000:=by omega
    rw[hAT]at hATl;have c0:wr.cell? ⟨g,off+q*7,none⟩=some (.string key):=((hL.below hg hbw.out).at_ hx).1;have hkeyc: ∀j p,acc[j]? =some p-> ∃g1,oa=some ⟨g1,0,none⟩/\wr.cell? ⟨g1,j*7,none⟩=some (.string p.1):=by
     intro j p hp;rcases hfr.out.2 with⟨e,_,_⟩|⟨g1,e,_,_,_,hc⟩
     . rw[e]at hp;simp at hp
     . have hR:=hfr.out.1 wr (Nat.le_refl _) (fun _ _ _=>rfl);have hH:Au wr wr.heap.size acc g1 0:=hR.holds (fun j u hu=>by rw[Nat.zero_add];exact hc j u hu);refine⟨g1,e, ?_⟩;have:=(hH.at_ hp).1
       rwa [Nat.zero_add]at this
    obtain⟨Hkc,HAT,Hob,HX,HLq⟩:=hid5 hkeyc hAT hob' hx hL;obtain⟨wo,hwo⟩: ∃wo:World,wo=wr:=⟨_,rfl⟩;subst hwo;clear hkeyc hAT hob' hob hx hdr hL
    go_upto_block 2 with(fail)
    go_cut [6] (fun a wx=> ∃n,a=.int .i64 AT/\wx=wo.drewN n)
    case first=>
     clear hx1 hx2 hbw Hob HX HLq hbk HCC HL;go_wp2_with (fail);go_loopw [6] (fun a wx=> ∃j n,a=.int .i64 (j:Nat)/\j<=AT/\wx=wo.drewN n) (fun a _=>AT - (intOf a).toNat)
     case atStart=>exact⟨0,0,rfl,Nat.zero_le _,rfl⟩
     case round=>
      obtain⟨j,n,rfl,hj,rfl⟩:=hrel;by_cases hjt:j<AT
      . obtain⟨p,hp⟩: ∃p,acc[j]? =some p:=⟨_,List.getElem?_eq_getElem (by omega)⟩;obtain⟨g1,rfl,cj⟩:=Hkc.out j p hp;have hlt':Op.bytesLess p.1.toList key.toList=true:=Aiq key (by rw[HAT.out];exact hjt) hp;have hgd:decide ((j:Int)<(acc.length:Int))=true:=by simp;omega
        have hgd2:decide (j<acc.length)=true:=by simp;omega
        clear hp;have y1:(j:Int)<(acc.length:Int):=by omega
        have y2:j<acc.length:=by omega
        have y3:(q:Int)<(l.length:Int):=by omega
        go_wp2_with (fail);go_quiet (fail);go_wp2;go_roundw
        case rel=>exact⟨j+1,_,by go_num,by omega,by first|rfl|exact World.drewN_drewN _ _ _⟩
        case measure=>simp only[intOf];omega
      . obtain rfl:j=AT:=by omega
        by_cases hend:j<acc.length
        . obtain⟨p,hp⟩: ∃p,acc[j]? =some p:=⟨_,List.getElem?_eq_getElem (by omega)⟩;obtain⟨g1,rfl,cj⟩:=Hkc.out j p hp;have hlt':Op.bytesLess p.1.toList key.toList=false:=by
           have h1:=HAT.out;rw[<-h1]at hp;exact Aip key hp
          have hgd:decide ((j:Int)<(acc.length:Int))=true:=by simp;omega
          have hgd2:decide (j<acc.length)=true:=by simp;omega
          clear hp;have y1:(j:Int)<(acc.length:Int):=by omega
          have y3:(q:Int)<(l.length:Int):=by omega
          go_wp2_with (fail);go_quiet (fail);go_wp2;go_meet;exact⟨_,rfl,by first|rfl|exact World.drewN_drewN _ _ _⟩
        . obtain rfl:j=acc.length:=by omega
          go_wp2_with (fail);go_quiet (fail);go_wp2;go_meet;exact⟨_,rfl,by first|rfl|exact World.drewN_drewN _ _ _⟩
    case rest=>
     obtain⟨n,rfl,rfl⟩:=hcut;go_upto_region 8 with(fail);go_cut [54] (fun c wx=>c=.bool (Mg key acc)/\ ∃n,wx=wo.drewN n)
     case first=>
      clear hx1 hx2 hbw Hob HX HLq hbk HCC HL;by_cases hend:AT<acc.length
      . obtain⟨p,hp⟩: ∃p,acc[AT]? =some p:=⟨_,List.getElem?_eq_getElem hend⟩;obtain⟨g1,rfl,cj⟩:=Hkc.out AT p hp;have hgd:decide ((AT:Int)<(acc.length:Int))=true:=by simp;omega
        have hgd2:decide (AT<acc.length)=true:=by simp;omega
        obtain⟨B,hB⟩: ∃B,(p.1.toList==key.toList)=B:=⟨_,rfl⟩;have hH:Hid (Mg key acc=B):=by
         show _=_;unfold Mg;rw[HAT.out,hp];exact hB
        clear hp;have y1:(AT:Int)<(acc.length:Int):=by omega
        have y3:(q:Int)<(l.length:Int):=by omega
        go_wp2_with (fail);go_quiet (fail);go_wp2;go_meet;exact⟨by rw[hH.out],_,by first|rfl|exact World.drewN_drewN _ _ _⟩
      . obtain rfl:AT=acc.length:=by omega
        have hH:Hid (Mg key acc=false):=by
         show _=_;unfold Mg;rw[HAT.out];simp
        go_wp2_with (fail);go_quiet (fail);go_wp2;go_meet;exact⟨by rw[hH.out],_,by first|rfl|exact World.drewN_drewN _ _ _⟩
     case rest=>
      obtain⟨rfl,n',rfl⟩:=hcut;obtain⟨HB,hHB⟩: ∃HB,Mg key acc=HB:=⟨_,rfl⟩;rw[hHB];have Hob1:=Hob.out;rw[hHB]at Hob1
      cases HB
      . have Hob2:Hid (Bg (l.drop (q+1)) (Kb (key,x) acc)=Bg l []):=by
         show _=_;rw[<-Hob1];simp
        clear Hob1 Hob;obtain⟨j0,hj,hy0,hy1,hy2⟩:=info_parts Pv;obtain⟨HJ,HY0,HY1,HY2⟩:=hid4 hj hy0 hy1 hy2;clear hj hy0 hy1 hy2;obtain⟨hrd,hone⟩:=hfr.out.reads;obtain⟨HRD,HON⟩:=hid2 hrd hone;have hoc:acc.length<=oc:=by
         rcases hfr.out.2 with⟨e,_,e2⟩|⟨_,_,_,_,h,_⟩
         . rw[e];simp
         . exact h
        have hoc1:AT<=oc:=by omega
        have hoc2:(AT:Int)<=(oc:Int):=by omega
        clear hrd hone;go_wp2_with (at_builtin;refine E7 _ rfl (.tmp 56) (.tmp 60) 37 rfl wo.heap.size 63 j0 (.agg #[.string ⟨#[]⟩,.int .i64 0,.bool false,.int .i64 0,.string ⟨#[]⟩,.slice none 0 0,.slice none 0 0]) 7 104 Tryz.underlying37 HJ.out HY0.out HY1.out HY2.out rfl (by omega) (.slice none 0 0) 0 [] rfl (World.ownsRow_nil _ _ _ _) wo.heap.size _ AT _ (ns.take (AT*7)) rfl ?c0 ?c1 ?c2 ?c3 ?c4 ?_)
        case c0=>exact(HRD.out.take_ hATl).drewN n'
        case c1=>exact Aj0 HON.out
        case c2=>unfold maxLen;omega
        case c3=>omega
        case c4=>exact Nat.le_refl _
        intro v1 w1 hown1 hgrow1 hat1;have hb1:Below wo.heap.size wo w1:=(Pj (Below.refl _ _) n').grown hgrow1 (by simp) (by simp[Value.ownBlock]);have hat1': ∀g1,v1.ownBlock=some g1->g1=wo.heap.size:=by
         intro g1 e;rcases hat1 with h|h
         . rw[h]at e;simp[Value.ownBlock]at e
         . rw[h]at e;simpa using e.symm
        obtain⟨Hown1,Hb1,Hat1⟩:=hid3 hown1 hb1 hat1';have hs1:=hb1.size;obtain⟨k',b',m',t',l',o'⟩:=x;obtain⟨la',lc',oa',oc',hvs,_,c1,c2,c3,c4,c5,c6⟩:=(HLq.out.below hg (hbw.out.trans (hb1.mono (by omega)))).seven HX.out;have c0':=(hb1.cell (p:=⟨g,off+q*7,none⟩) (show g<_ by omega)).trans c0;have b1':=(hb1.cell (p:=⟨w.heap.size+1,5,none⟩) (show w.heap.size+1<_ by omega)).trans b1;have CC:=HCC.out _ _ w1.drew (Ac.more (show w.heap.size<=w1.drew.heap.size from(by show _<=w1.heap.size;omega)) _ _ (hvs.below (Below.drew (Below.refl _ _)))) (by omega);have HC:=Lib.hid CC;have Hown4:Hid (∀w4:World,Below w1.drew.heap.size w1.drew w4->w4.ownsRow wo.heap.size 63 7 v1 AT (ns.take (AT*7))):=by
         intro w4 h4;have h5:Below w1.heap.size w1 w4:=(Below.drew (Below.refl _ _)).trans h4;refine Hown1.out.kept (row:=none) ⟨h5.os,h5.tape,h5.output,h5.size,fun i hi _=>h5.block i hi⟩ ?_
         cases v1.ownBlock with
         |none=>exact .inl rfl
         |some g=>exact .inr (by simp)
        have hgx:g<w1.heap.size:=by omega
        clear hb1 hat1 hat1' hown1 hgrow1 hvs CC c0 b1 HLq HX;go_wp2_with (fail)
        go_region_law (first|(refine step_append_lies _ (by rfl) (.tmp 62) (.tmp 75) 37 (by rfl) wo.heap.size 63 j0 (.agg #[.string ⟨#[]⟩,.int .i64 0,.bool false,.int .i64 0,.string ⟨#[]⟩,.slice none 0 0,.slice none 0 0]) 7 104 Tryz.underlying37 HJ.out HY0.out HY1.out HY2.out rfl (by omega) v1 AT (ns.take (AT*7)) (by rfl) ((Hown4.out _ Hb4.out).alloc _) ⟨w4.heap.size,0,none⟩ 1 1 [.string key,a0,a1,a2,a3,a4,a5] (by rfl) (by rfl) (World.news_of_block (cs:= #[.string key,a0,a1,a2,a3,a4,a5]) (t:=63) (fr:=(0,0)) (heap_alloc_new w4 _)) Hone.out (by omega) (by unfold maxLen;omega) (by omega) Hsz.out (w4.heap.size+1) (by simp) ?_;intro gg cap w5 hown5 hgrow5 hat5 hlt5;have Hown5:=Lib.hid hown5;have Hgrow5:=Lib.hid hgrow5;have Hat5:=Lib.hid hat5;clear hown5 hgrow5 hat5)|(go_simp;go_at_call 44;refine(HC.out).mono ?_;rintro e w4 ⟨⟨cs4,rfl,hl4,hfr4⟩,hb4⟩;obtain⟨a0,a1,a2,a3,a4,a5,rfl⟩:=Ut hl4;have Hfr4:=Lib.hid hfr4;have Hb4:=Lib.hid hb4;have g0:w4.cell? ⟨g,off+q*7,none⟩=some (.string key):=(hb4.cell (p:=⟨g,off+q*7,none⟩) hgx).trans c0';have Hone:Hid (∀u ∈ [.string key,a0,a1,a2,a3,a4,a5],u.oneCell'=true):=(Afw key (hfr4 w4 (Nat.le_refl _) (fun _ _ _=>rfl)).len.2);have Hsz:Hid (wo.heap.size<=(w4.alloc (.cells #[.string key,a0,a1,a2,a3,a4,a5] 63)).heap.size):=(by show _<=_;have h1:=hb4.size;have h3:w1.drew.heap.size=w1.heap.size:=rfl;simp;omega);clear hfr4 hb4 hl4))
        all_goals
         have hb4:Below w1.heap.size w1 w4:=(Below.drew (Below.refl _ _)).trans Hb4.out;have hs4:=hb4.size;have hb5:Below wo.heap.size wo w5:=((Hb1.out.trans (hb4.mono hs1)).alloc (by omega) (.cells #[.string key,a0,a1,a2,a3,a4,a5] 63)).grown Hgrow5.out (by simp;omega) (fun c hc=>by have:=Hat1.out c hc;omega);have hs5:w4.heap.size+1<=w5.heap.size:=by have:=Hgrow5.out.size;simpa using this
         have hgg:=(Hown5.out.lt gg rfl).1;have hx5:w5.heap[w.heap.size+1]? =some (.cells #[.int .i64 6,.bool false,.int .i64 0,.string ⟨#[]⟩,.slice none 0 0,.slice oa acc.length oc] 39 (0,0)):=(hb5.block _ (by omega)).trans hx2.out;have b5:w5.cell? ⟨w.heap.size+1,5,none⟩=some (.slice oa acc.length oc):=by rw[Lib.cell_of_heap hx5];rfl
         obtain⟨HB5,HX5,HB4⟩:=hid3 hb5 hx5 hb4;clear hb4 hb5 hx5;by_cases hcap:oc=AT
         all_goals
          go_wp2_with (at_builtin;refine E7 _ rfl (.tmp 77) (.tmp 81) 37 rfl wo.heap.size 63 j0 (.agg #[.string ⟨#[]⟩,.int .i64 0,.bool false,.int .i64 0,.string ⟨#[]⟩,.slice none 0 0,.slice none 0 0]) 7 104 Tryz.underlying37 HJ.out HY0.out HY1.out HY2.out rfl (by omega) (.slice (some ⟨gg,0,none⟩) (AT+1) cap) (AT+1) _ rfl Hown5.out wo.heap.size _ (acc.length - AT) _ (ns.drop (AT*7)) rfl ?d0 ?d1 ?d2 ?d3 ?d4 ?_)
          case d0=>
           have h:=(HRD.out.below HB5.out).cut hATl hoc
           first|(rw[if_pos hcap]at h;exact h)|(rw[if_neg hcap]at h;exact h)
          case d1=>exact Ajz HON.out
          case d2=>unfold maxLen;omega
          case d3=>omega
          case d4=>omega
          intro v3 w6 hown6 hgrow6 hat6;have hpl:=Aki (key,.mk k' b' m' t' l' o') acc;rw[show AT+1+(acc.length - AT)=(Kb (key,.mk k' b' m' t' l' o') acc).length from by omega]at hown6;obtain⟨oa3,oc3,rfl,hm3⟩:=Aa8 hown6;have hb6:Below wo.heap.size wo w6:=HB5.out.grown hgrow6 (by omega) (fun c hc=>by simp[Value.ownBlock]at hc;omega);have hs6:=hgrow6.size;have hx6:=(hb6.block (w.heap.size+1) (by omega)).trans hx2.out;have f6:=Lib.frozen_of_heap hx6 5;have b6:w6.cell? ⟨w.heap.size+1,5,none⟩=some (.slice oa acc.length oc):=by rw[Lib.cell_of_heap hx6];rfl
          have hfar: ∀p:Addr,p.block≠w.heap.size+1->(w6.setCell ⟨w.heap.size+1,5,none⟩ (.slice oa3 (Kb (key,.mk k' b' m' t' l' o') acc).length oc3)).cell? p=w6.cell? p:=fun p hp=>World.cell?_of_block (D7 _ _ _ _ hp);have hgl:=Hown1.out.lt;have Hob3:=Hob2;have Hb':Hid (Below w.heap.size w (w6.setCell ⟨w.heap.size+1,5,none⟩ (.slice oa3 (Kb (key,.mk k' b' m' t' l' o') acc).length oc3))):=((hbw.out.trans (hb6.mono (by omega))).setCell (by simp) _);have Hx1':Hid ((w6.setCell ⟨w.heap.size+1,5,none⟩ (.slice oa3 (Kb (key,.mk k' b' m' t' l' o') acc).length oc3)).heap[w.heap.size]? =some (.cells #[.int .i64 0,.bool false,.int .i64 0,.string ⟨#[]⟩,.slice none 0 0,.slice none 0 0] 39 (0,0))):=by
           show _=_;rw[D7 _ _ _ _ (by omega),hb6.block _ (by omega)];exact hx1.out
          have Hx2':Hid ((w6.setCell ⟨w.heap.size+1,5,none⟩ (.slice oa3 (Kb (key,.mk k' b' m' t' l' o') acc).length oc3)).heap[w.heap.size+1]? =some (.cells #[.int .i64 6,.bool false,.int .i64 0,.string ⟨#[]⟩,.slice none 0 0,.slice oa3 (Kb (key,.mk k' b' m' t' l' o') acc).length oc3] 39 (0,0))):=by
           show _=_;rw[Fj hx6];rfl
          have hsz7:(w6.setCell ⟨w.heap.size+1,5,none⟩ (.slice oa3 (Kb (key,.mk k' b' m' t' l' o') acc).length oc3)).heap.size=w6.heap.size:=by simp[World.setCell]
          have hR:=FrR.put (key:=key) (b:=w.heap.size+2) (wo:=wo) (w1:=w1.drew) (w4:=w4) (w6:=(w6.setCell ⟨w.heap.size+1,5,none⟩ (.slice oa3 (Kb (key,.mk k' b' m' t' l' o') acc).length oc3))) hfr.out.1 Hfr4.out (by omega) hs1 hs4 (by omega)
           (fun p p1 p2=>(hfar p (by omega)).trans (hb6.cell p2))
           (fun p p1 p2=>by
             have p1':w1.heap.size<=p.block:=p1;have n1:v1.ownBlock≠some p.block:=fun e=>by have:=(hgl _ e).2;omega
             have n2:gg≠p.block:=fun e=>by
              rcases Hat5.out with h|h
              . exact n1 (by rw[<-e,h])
              . omega
             rw[hfar p (by omega)];refine World.cell?_of_block ?_;rw[hgrow6.block p.block (by omega) (by simp[Value.ownBlock];omega),Hgrow5.out.block p.block (by simp;omega) (fun e=>n1 e.symm),Lib.alloc_old w4 _ _ p2])
          rw[HAT.out]at hR;have Hfr':Hid (FrO (w.heap.size+2) (w6.setCell ⟨w.heap.size+1,5,none⟩ (.slice oa3 (Kb (key,.mk k' b' m' t' l' o') acc).length oc3)) (Kb (key,.mk k' b' m' t' l' o') acc) oa3 oc3 (ns.take (AT*7)++([.string key,a0,a1,a2,a3,a4,a5]++ns.drop (AT*7)))):=by
           refine⟨hR, ?_⟩;rcases hm3 with⟨h0,_,_⟩|⟨g3,e3,hg3,hg3',hle3,hc3⟩
           . omega
           . exact .inr ⟨g3,e3,by omega,by omega,hle3,fun j u hu=>(hfar _ (by show g3≠_;omega)).trans (hc3 j u hu)⟩
          have hs7:w.heap.size+2<=(w6.setCell ⟨w.heap.size+1,5,none⟩ (.slice oa3 (Kb (key,.mk k' b' m' t' l' o') acc).length oc3)).heap.size:=by omega
          have hbk':Al (Kb (key,.mk k' b' m' t' l' o') acc)+Al (l.drop (q+1))<=100000000:=by
           rw[Wd];simp only[Ec];omega
          clear hpl hR hm3 hown6 hgrow6 hat6 hfar hgl hsz7 hb6 hx6 Hown5 Hgrow5 Hat5 HB5 HX5 HB4 Hfr4 Hb4 Hown1 Hb1 Hat1 HC Hown4 hfr hbw hx1 hx2 HRD HON b5;go_wp2;go_roundw
          case rel=>exact⟨q+1,_,_,_,_,by go_num,by omega,Hob3,Hb',Hx1',Hx2',Hfr',hs7,hbk'⟩
          case measure=>simp only[intOf];omega
      . have Hob2:Hid (Bg l []=none):=by
         show _=_;rw[<-Hob1];simp
        have f1:=Lib.frozen_of_heap hx1.out;obtain⟨d0,d1,d2,d3,d4,d5⟩:=Gd hx1.out;clear Hob1 Hob;go_wp2;refine bodyPost_ret (v:=.tuple #[.agg #[.int .i64 0,.bool false,.int .i64 0,.string ⟨#[]⟩,.slice none 0 0,.slice none 0 0],.int .i64 8]) (by simp[results,Tryz.results209,go_sem,d0,d1,d2,d3,d4,d5]) rfl ⟨?_,.inl ⟨Hob2.out,rfl⟩⟩
        repeat (refine Below.setCell ?_ (by simp) _)
        exact Pj hbw.out n'
  . obtain rfl:q=l.length:=by omega
    have hob':=hob.out;rw[List.drop_length]at hob';have Hob1:Hid (Bg l []=some acc):=hob'.symm;have hrow:=hfr.out;have f1:=Lib.frozen_of_heap hx1.out;obtain⟨d0,d1,d2,d3,d4,d5⟩:=Gd hx1.out;obtain⟨e0,e1,e2,e3,e4,e5⟩:=Gd hx2.out;have HR:=Lib.hid hrow;clear hob hob' hrow hfr HCC HL b1;go_wp2;obtain⟨W,hW⟩: ∃W,((((((wr.setCell ⟨w.heap.size,0,none⟩ (.int .i64 6)).setCell ⟨w.heap.size,1,none⟩ (.bool false)).setCell ⟨w.heap.size,2,none⟩ (.int .i64 0)).setCell ⟨w.heap.size,3,none⟩ (.string ⟨#[]⟩)).setCell ⟨w.heap.size,4,none⟩ (.slice none 0 0)).setCell ⟨w.heap.size,5,none⟩ (.slice oa acc.length oc))=W:=⟨_,rfl⟩;have hWh: ∀c,c≠w.heap.size->W.heap[c]? =wr.heap[c]? :=by
     intro c hc;rw[<-hW];simp only[D7 _ _ _ _ hc]
    have hWs:W.heap.size=wr.heap.size:=by rw[<-hW];simp[World.setCell]
    have hWb:Below w.heap.size w W:=by
     rw[<-hW];exact(((((hbw.out.setCell (by simp) _).setCell (by simp) _).setCell (by simp) _).setCell (by simp) _).setCell (by simp) _).setCell (by simp) _
    have hWr:W.heap[w.heap.size]? =some (.cells #[.int .i64 6,.bool false,.int .i64 0,.string ⟨#[]⟩,.slice none 0 0,.slice oa acc.length oc] 39 (0,0)):=by
     rw[<-hW];exact Fj (Fj (Fj (Fj (Fj (Fj hx1.out _) _) _) _) _) _
    obtain⟨y0,y1,y2,y3,y4,y5⟩:=Gd hWr;have hfin:acc= []\/ ∃g,oa=some ⟨g,0,none⟩/\w.heap.size<=g/\g<W.heap.size/\ ∀w'':World,W.heap.size<=w''.heap.size->(∀p:Addr,w.heap.size<=p.block->p.block<W.heap.size->w''.cell? p=W.cell? p)->Au w'' W.heap.size acc g 0:=by
     rcases HR.out.2 with⟨e,_,_⟩|⟨g,e,hg,hg',_,hc⟩
     . exact .inl e
     . refine .inr ⟨g,e,by omega,by omega,fun w'' q1 q2=> ?_⟩;have hR:=HR.out.1 w'' (by omega) (fun p p1 p2=>(q2 p (by omega) (by omega)).trans (World.cell?_of_block (hWh p.block (by omega))));refine(Fa.more (by omega) hR).holds (fun j u hu=> ?_);rw[Nat.zero_add];exact(q2 ⟨g,j,none⟩ (by show w.heap.size<=g;omega) (by show g<_;omega)).trans ((World.cell?_of_block (hWh g (by omega))).trans (hc j u hu))
    rw[hW];exact bodyPost_ret (v:=.tuple #[.agg #[.int .i64 6,.bool false,.int .i64 0,.string ⟨#[]⟩,.slice none 0 0,.slice oa acc.length oc],.int .i64 0]) (by simp[results,Tryz.results209,go_sem,y0,y1,y2,y3,y4,y5]) rfl ⟨hWb,.inr ⟨acc,oa,oc,Hob1.out,rfl,hfin⟩⟩
theorem Ag1 {k:ByteArray} {acc:List (ByteArray×Val)} (h:Ji k acc=false) (hn:(acc.map (·.1)).Nodup) (v:Val):((acc++ [(k,v)]).map (·.1)).Nodup:=by
 rw[List.map_append,List.nodup_append];refine⟨hn,by simp,fun a ha b hb=> ?_⟩;simp only[List.map_cons,List.map_nil,List.mem_cons,List.not_mem_nil,or_false]at hb;subst hb;rintro rfl;obtain⟨m,hm,rfl⟩:=List.mem_map.1 ha;have:Ji m.1 acc=true:=by
  unfold Ji;rw[List.any_eq_true];exact⟨m,hm,by simp⟩
 rw[this]at h;cases h
theorem Y7 {w:World} {B:Nat} {o:List (ByteArray×Val)} {a:Option Addr} {n c:Nat} (h:Ae w B (.row 7 (dO o)) [.slice a n c]):o= []\/ ∃g off,a=some ⟨g,off,none⟩/\g<B/\Au w B o g off:=by
 obtain⟨a',c',e,_,ns,h1,h2⟩:=h;simp only[List.cons.injEq,Value.slice.injEq,and_true]at e;obtain⟨rfl,_,rfl⟩:=e
 cases o with
 |nil=>exact .inl rfl
 |cons m r=>
  rcases h2 with e|⟨g,off,e,hg,hc⟩
  . simp[dO]at e
  . exact .inr ⟨g,off,e,hg,h1.toO (fun _ _ _ q=>Bv _ _ q) hc⟩
theorem Yd {w w':World} {o:List (ByteArray×Val)} {oa:Option Addr} {oc:Nat} (h:o= []\/ ∃g,oa=some ⟨g,0,none⟩/\w.heap.size<=g/\g<w'.heap.size/\ ∀w'':World,w'.heap.size<=w''.heap.size->(∀p:Addr,w.heap.size<=p.block->p.block<w'.heap.size->w''.cell? p=w'.cell? p)->Au w'' w'.heap.size o g 0):
 Ap w.heap.size w' (dV (Sz o)) [.int .i64 6,.bool false,.int .i64 0,.string ⟨#[]⟩,.slice none 0 0,.slice oa o.length oc]:=fun w'' h1 h2=>by
 refine Ik _ _ ?_;unfold Sz;simp only[Ac];refine⟨none,0,oa,oc,rfl,by simp, ?_⟩;rcases h with rfl|⟨g,e,_,hg,hh⟩
 . exact .inl rfl
 . exact .inr ⟨g,0,e,hg,hh w'' h1 h2⟩
theorem RBx.grown {w W W':World} {cs:Array Value} {V0:Value} (h:RBx w W cs) (t:W.grownBy W' V0.ownBlock) (hV: ∀g,V0.ownBlock=some g->w.heap.size+1<=g):RBx w W' cs:=
 ⟨h.below.grown t h.below.size (fun k hk=>by have:=hV k hk;omega),h.blk.grown t (fun e=>by have:=hV _ e.symm;omega)⟩
theorem Tq: ∀(l:List (ByteArray×Val)) (m:ByteArray×Val),Al (l++ [m])=Al l+Ec m
 | [],m=>by simp[Al]
 |x::r,m=>by simp only[List.cons_append,Al,Tq r m];omega
theorem Alc (l:List (ByteArray×Val)) (m:ByteArray×Val):dO l++ [dP m]=dO (l++ [m]):=by rw[Jd,Jd];simp
structure ORf (w wr:World) (s:ByteArray) (d:Int) (RES:Rd Val) (f n j:Nat) (acc:List (ByteArray×Val)) (V:Value):Prop where
 res:RBx w wr Aj
 row:C7 (w.heap.size+1) 63 7 wr (dO acc) V
 nod:(acc.map (·.1)).Nodup
 is:Dg n s.data.toList j d acc=RES
 fuel:4*(s.size - j)+2<=n
 lt:n<f
 few:acc.length<=j
 size:Al acc<=6*j
set_option maxRecDepth 100000 in
theorem Aek (HCo: ∀v,Mb v) (s:ByteArray) (f:Nat) (ih: ∀f',f'<f->Afa s f') (w:World) (k:Nat) (d:Int) (hs:s.size<=16000000) (hk:k<s.size) (hf:4*(s.size - k)<=f) (hd0:0<=d) (hd:d<=64):
 Calls Tryz.prog 176 #[.string s,.int .i64 ((k+1:Nat):Int),.int .i64 d] w (Gv w (Nu f s.data.toList k d)):=by
 obtain⟨j0,hj,hy0,hy1,hy2⟩:=info_parts P6;obtain⟨f,rfl⟩: ∃n,f=n+1:=⟨f - 1,by omega⟩;have hP:=B3 (s:=s) (k:=k+1) (by omega);have hP1:=B6 s.data.toList (k+1);have hpast:=fun W=>Em s (k+1) W (by omega) (by omega);have hI0:=RBx.start w;obtain⟨RES,hRES⟩: ∃r,Nu (f+1) s.data.toList k d=r:=⟨_,rfl⟩;rw[hRES];unfold Nu at hRES;have hBB: ∀B,decide (s.data.toList[Ar s.data.toList (k+1)]? =some 125)=B-> ∀W,Calls Tryz.prog 208 #[.string s,.int .i64 (Ar s.data.toList (k+1):Nat),.int .u8 125] W fun e w'=>e=.returned (.bool B)/\W=w':=fun B hB W=>Gs hB W (by omega) hP;obtain⟨k1,hk1⟩: ∃k1,k+1=k1:=⟨_,rfl⟩;rw[hk1]at hRES hP hP1 hpast hBB ⊢;have hk1':k+1<=k1:=by omega
 clear hk1;generalize Ar s.data.toList k1=p1 at hRES hP hP1 hpast hBB
 cases hB:decide (s.data.toList[p1]? =some 125)with
 |true=>
  have hIs:=hBB _ hB;have hc:=hB;rw[decide_eq_true_iff]at hc;rw[if_pos hc]at hRES;subst hRES;clear hc hBB hB;obtain⟨Hj,Hy0,Hy1,Hy2,Ih,HI0,Hpast,HIs⟩:=hid8 hj hy0 hy1 hy2 ih hI0 hpast hIs;clear hj hy0 hy1 hy2 ih hI0 hpast hIs;go_enter Tryz.func176,Tryz.ntmps176;go_wp2_with (fail);generalize w.alloc (.cells Aj 39)=wb at HI0 ⊢;(with_reducible refine(Hpast.out _).mono ?_);rintro e w1 ⟨rfl,rfl⟩;go_wp2_with (fail);(with_reducible refine(HIs.out _).mono ?_);rintro e w1 ⟨rfl,rfl⟩;have fz:=HI0.out.blk.frozen;have hlb:=HI0.out.blk.lt;obtain⟨r0,r1,r2,r3,r4,r5⟩:=Ao HI0.out.blk;have hxf:=HI0.out.many (.int .i64 6) (.bool false) (.int .i64 0) (.string ⟨#[]⟩) (.slice none 0 0) (.slice none 0 0);have Hxf:=Lib.hid hxf;clear hxf;go_wp2;exact bodyPost_ret (Af rfl rfl Hxf.out.blk) rfl ⟨Hxf.out.below,⟨_,rfl,Cb 6 false 0 _⟩⟩
 |false=>
  have hIs:=hBB _ hB;have hc:=hB;rw[decide_eq_false_iff_not]at hc;rw[if_neg hc]at hRES;clear hc hBB hB;have HL0:Hid (∀wb,RBx w wb Aj->ORf w wb s d RES (f+1) f p1 [] (.slice none 0 0)):=fun wb hb=>⟨hb,by simpa[dO]using C7.nil _ _ _ _,List.nodup_nil,hRES,by omega,by omega,by simp,by simp[Al]⟩;obtain⟨Hj,Hy0,Hy1,Hy2,Ih,HI0,Hpast,HIs⟩:=hid8 hj hy0 hy1 hy2 ih hI0 hpast hIs;clear hj hy0 hy1 hy2 ih hI0 hpast hIs;clear hRES;go_enter Tryz.func176,Tryz.ntmps176;go_wp2_with (fail);generalize w.alloc (.cells Aj 39)=wb at HI0 ⊢;(with_reducible refine(Hpast.out _).mono ?_);rintro e w1 ⟨rfl,rfl⟩;go_wp2_with (fail);(with_reducible refine(HIs.out _).mono ?_);rintro e w1 ⟨rfl,rfl⟩;go_wp2
  go_loopg [1,9] f (fun n a V wr=> ∃m j acc,m=n/\j<=s.size/\a=.int .i64 (j:Nat)/\Hid (ORf w wr s d RES (f+1) n j acc V))
  case atStart=>exact⟨f,p1, [],rfl,hP,rfl,HL0.out _ HI0.out⟩
  case round=>
   obtain⟨n,j,acc,rfl,hj,rfl,hh⟩:=hrel;clear HL0 hP hP1 HI0 Hpast HIs;have hn2:=hh.out.fuel;have hnf:=hh.out.lt;have hfw:=hh.out.few;have hsz:=hh.out.size;obtain⟨n,rfl⟩: ∃m,n=m+1:=⟨n - 1,by omega⟩;have hI:=hh.out.res;have hrow:=hh.out.row;have his:=hh.out.is;have hnod:=hh.out.nod;have dl:(dO acc).length=acc.length:=Ig _;obtain⟨aV,cV,rfl⟩:=hrow.slice_n dl;have hRow:=Y7 hrow.now;have hP2:=B3 (s:=s) (k:=j) hj;have hP3:=B6 s.data.toList j;have hpast:=fun W=>Em s j W (by omega) hj;unfold Dg at his;generalize Ar s.data.toList j=p at his hP2 hP3 hpast;have hU:=fun W=>Uq s p W (by omega) hP2;obtain⟨r0,r1,r2,r3,r4,r5⟩:=Ao hI.blk;have fz:=hI.blk.frozen;have hlr:=hI.blk.lt;have hw:=Ex (s:=s.data.toList) (p:=p) (by rw[Ab];exact hP2)
   cases hr:Di s.data.toList p with
   |bad c q=>
    rw[hr]at hU his hw;simp only at his;subst his;have hc1:(c != 0)=true:=by have:=hw.2.2.1;simp only[bne_iff_ne,ne_eq];omega
    have hI2: ∀W',Below wr.heap.size wr W'->RBx w W' Aj:=fun _ h=>hI.later h;simp only[Rf]at hU;obtain⟨HU,HI,Hrow,Hpast,HRow,Hnod,HI2⟩:=hid7 hU hI hrow hpast hRow hnod hI2;clear hU hI hrow hpast hRow hnod hI2;clear hw hr hh r0 r1 r2 r3 r4 r5 fz hlr;go_wp2_with (fail);(with_reducible refine(Hpast.out _).mono ?_);rintro e w1 ⟨rfl,rfl⟩;go_wp2_with (fail);(with_reducible refine(HU.out _).mono ?_);rintro e w4 ⟨rfl,hb4⟩;have hI4:=HI2.out w4 hb4;have hxf:=hI4.many (.int .i64 0) (.bool false) (.int .i64 0) (.string ⟨#[]⟩) (.slice none 0 0) (.slice none 0 0);obtain⟨r0,r1,r2,r3,r4,r5⟩:=Ao hI4.blk;have fz4:=hI4.blk.frozen;have hlt4:=hI4.blk.lt;obtain⟨Hxf,HI4⟩:=hid2 hxf hI4;clear hxf hI4;clear hb4;go_wp2;exact bodyPost_ret (Af rfl rfl Hxf.out.blk) rfl ⟨Hxf.out.below,rfl⟩
   |ok kl q=>
    rw[hr]at hU his hw;simp only at his;simp only[Rf]at hU;obtain⟨hw1,hw2⟩:=hw;rw[Ab]at hw2;have hkl:=(M7 hr).2;obtain⟨KK,hKK⟩: ∃K:ByteArray,(⟨kl.toArray⟩:ByteArray)=K:=⟨_,rfl⟩;have hKs:KK.size=kl.length:=by rw[<-hKK];rfl
    rw[hKK]at hU his;obtain⟨HU,HI,Hrow,Hpast,HRow,Hnod,His⟩:=hid7 hU hI hrow hpast hRow hnod his;clear hU hI hrow hpast hRow hnod his;clear hr hh r0 r1 r2 r3 r4 r5 fz hlr;go_wp2_with (fail);(with_reducible refine(Hpast.out _).mono ?_);rintro e w1 ⟨rfl,rfl⟩;go_wp2_with (fail);(with_reducible refine(HU.out _).mono ?_);rintro e w2 ⟨rfl,hb2⟩;have hI2:=HI.out.later hb2;have hrow2:=Hrow.out.below hb2;have hbs:=hb2.size;have hO2:acc= []\/ ∃g off,aV=some ⟨g,off,none⟩/\g<w2.heap.size/\Au w2 w2.heap.size acc g off:=Y7 hrow2.now;obtain⟨HI2,Hrow2,HO2⟩:=hid3 hI2 hrow2 hO2;clear hI2 hrow2 hO2;clear hb2
    go_upto_block 2 with(fail)
    go_cut [] (fun wx=>Hid (Ji KK acc=false)/\wx=w2)
    case first=>
     go_wp2_with (fail)
     go_loop [13] (fun i=> ∃x:Nat,x<=acc.length/\i=.int .i64 (x:Nat)/\Hid (Ji KK (acc.take x)=false)) (fun i=>acc.length - (intOf i).toNat)
     case atStart=>exact⟨0,Nat.zero_le _,rfl,Lib.hid (by simp[Ji])⟩
     case round=>
      obtain⟨x,hx,rfl,hh⟩:=hrel;have x0:(0:Int)<=(x:Int):=by omega
      by_cases hlt:x<acc.length
      . obtain⟨m,hm⟩: ∃m,acc[x]? =some m:=⟨_,List.getElem?_eq_getElem hlt⟩;obtain⟨g,off,rfl,hg,hO⟩: ∃g off,aV=some ⟨g,off,none⟩/\g<w2.heap.size/\Au w2 w2.heap.size acc g off:=by
         rcases HO2.out with h0|h
         . rw[h0]at hlt;simp at hlt
         . exact h
        have ck:=(hO.at_ hm).1;have x1:(x:Int)<(acc.length:Int):=by omega
        have x2:decide ((x:Int)<(acc.length:Int))=true:=decide_eq_true x1;have htk:Ji KK (acc.take (x+1))=(Ji KK (acc.take x)||decide (m.1=KK)):=by
         unfold Ji;rw[List.take_add_one,hm,Option.toList_some,List.any_append];simp
        rw[hh.out,Bool.false_or]at htk;by_cases he:m.1=KK
        . rw[decide_eq_true he]at htk;have hall:Ji KK acc=true:=by
           unfold Ji at htk ⊢;rw[List.any_eq_true]at htk ⊢;obtain⟨y,hy,e⟩:=htk;exact⟨y,List.mem_of_mem_take hy,e⟩
          have his:=His.out;rw[if_pos hall]at his;subst his;rw[he]at ck;obtain⟨r0,r1,r2,r3,r4,r5⟩:=Ao HI2.out.blk;have fz4:=HI2.out.blk.frozen;have hlt4:=HI2.out.blk.lt;have hxf:=HI2.out.many (.int .i64 0) (.bool false) (.int .i64 0) (.string ⟨#[]⟩) (.slice none 0 0) (.slice none 0 0);obtain⟨Hxf,HO⟩:=hid2 hxf hO;clear hxf hO;clear htk hall hh hm he;go_wp2;exact bodyPost_ret (Af rfl rfl Hxf.out.blk) rfl ⟨Hxf.out.below,rfl⟩
        . rw[decide_eq_false he]at htk;have hnl:(m.1.toList==KK.toList)=false:=by
           rw[beq_eq_false_iff_ne,ByteArray.toList_eq,ByteArray.toList_eq];intro e;exact he (ByteArray.ext (Array.toList_inj.1 e))
          obtain⟨HN,HO,He⟩:=hid3 htk hO he;clear hO he;clear htk hh hm;go_wp2
          go_round
          case rel=>exact⟨x+1,by omega,by go_num,HN⟩
          case measure=>simp[intOf];omega
      . obtain rfl:x=acc.length:=by omega
        have hfin:=hh.out;rw[List.take_length]at hfin;have x2:decide ((acc.length:Int)<(acc.length:Int))=false:=decide_eq_false (by omega);have Hfin:=Lib.hid hfin;clear hfin;clear hh;go_wp2;go_meet;exact⟨Hfin,rfl⟩
    obtain⟨hnk,rfl⟩:=hcut;have his:=His.out;rw[if_neg (by rw[hnk.out];decide)]at his;have hP4:=B3 hw2;have hP5:=B6 s.data.toList q;have hpast:=fun W=>Em s q W (by omega) hw2;generalize Ar s.data.toList q=pq at his hP4 hP5 hpast;have h58: ∀B,decide (s.data.toList[pq]? =some 58)=B-> ∀W,Calls Tryz.prog 208 #[.string s,.int .i64 (pq:Nat),.int .u8 58] W fun e w'=>e=.returned (.bool B)/\W=w':=fun B hB W=>Gs hB W (by omega) hP4;clear His HU Hpast HO2 HI Hrow HRow;have Hpast:=Lib.hid hpast;clear hpast
    cases hB:decide (s.data.toList[pq]? =some 58)with
    |false=>
     have hIs:=h58 _ hB;rw[decide_eq_false_iff_not]at hB;rw[if_neg hB]at his;subst his;obtain⟨r0,r1,r2,r3,r4,r5⟩:=Ao HI2.out.blk;have fz4:=HI2.out.blk.frozen;have hlt4:=HI2.out.blk.lt;have hxf:=HI2.out.many (.int .i64 0) (.bool false) (.int .i64 0) (.string ⟨#[]⟩) (.slice none 0 0) (.slice none 0 0);obtain⟨Hxf,HIs⟩:=hid2 hxf hIs;clear hxf hIs;clear h58 hB;go_wp2_with (fail);(with_reducible refine(Hpast.out _).mono ?_);rintro e w3 ⟨rfl,rfl⟩;go_wp2_with (fail);(with_reducible refine(HIs.out _).mono ?_);rintro e w3 ⟨rfl,rfl⟩;go_wp2;exact bodyPost_ret (Af rfl rfl Hxf.out.blk) rfl ⟨Hxf.out.below,rfl⟩
    |true=>
     have hIs:=h58 _ hB;rw[decide_eq_true_iff]at hB;rw[if_pos hB]at his;have hlt:=De hB;rw[Ab]at hlt;obtain⟨m,rfl⟩: ∃m,n=m+1:=⟨n - 1,by omega⟩;unfold Fq at his;have hC: ∀W,Calls Tryz.prog 129 #[.string s,.int .i64 ((pq:Int)+1),.int .i64 (d+1)] W (Gv W (Bq m s.data.toList (pq+1) (d+1))):=fun W=>by
      have:=Ih.out m (by omega) W (pq+1) (d+1) (by omega) (by omega) (by omega) (by omega)
      rwa [show((pq+1:Nat):Int)=(pq:Int)+1 by omega]at this
     have hw:=(Eb m).1 s.data.toList (pq+1) (d+1) (by rw[Ab];omega);have hsd:=(Xg m).1 s.data.toList (pq+1) (d+1) (by rw[Ab];omega);have ewr:IntKind.i64.wrap (d+1)=d+1:=IntWalk.i64_in _ (by omega);clear h58 hB
     cases hr:Bq m s.data.toList (pq+1) (d+1)with
     |bad c q2=>
      rw[hr]at hC his hw;simp only at his;subst his;have hc1:(c != 0)=true:=by have:=hw.2.2.1;simp only[bne_iff_ne,ne_eq];omega
      obtain⟨HC,HIs⟩:=hid2 hC hIs;clear hC hIs;clear hw hr hsd;go_wp2_with (fail);(with_reducible refine(Hpast.out _).mono ?_);rintro e w3 ⟨rfl,rfl⟩;go_wp2_with (fail);(with_reducible refine(HIs.out _).mono ?_);rintro e w3 ⟨rfl,rfl⟩;go_wp2_with (fail);(with_reducible refine(HC.out _).mono ?_);rintro e w4 ⟨hb4,rfl⟩;have hI4:=HI2.out.later hb4;have hxf:=(hI4.many (.int .i64 0) (.bool false) (.int .i64 0) (.string ⟨#[]⟩) (.slice none 0 0) (.slice none 0 0)).later (Aa _ (.cells Aj 39));obtain⟨r0,r1,r2,r3,r4,r5⟩:=Ao hI4.blk;have fz4:=hI4.blk.frozen;have hlt4:=hI4.blk.lt;obtain⟨Hxf,HI4⟩:=hid2 hxf hI4;clear hxf hI4;clear hb4;go_wp2;exact bodyPost_ret (Af rfl rfl Hxf.out.blk) rfl ⟨Hxf.out.below,rfl⟩
     |ok v q2=>
      rw[hr]at hC his hw hsd;simp only at his;obtain⟨hv1,hv2⟩:=hw;rw[Ab]at hv2;have hsd:=hsd.1;obtain⟨k',b',n',t',l',o'⟩:=v;have htk:=Alc acc (KK,.mk k' b' n' t' l' o');have HLo:Hid ((dO acc).length+1<=maxLen/\((dO acc).length+1)*104<=140737488355328):=by rw[dl];exact⟨by simp only[maxLen];omega,by omega⟩
      have hP6:=B3 hv2;have hP7:=B6 s.data.toList q2;have hpast2:=fun W=>Em s q2 W (by omega) hv2;generalize Ar s.data.toList q2=p2 at hP6 hP7 hpast2 his;have h125: ∀B,decide (s.data.toList[p2]? =some 125)=B-> ∀W,Calls Tryz.prog 208 #[.string s,.int .i64 (p2:Nat),.int .u8 125] W fun e w'=>e=.returned (.bool B)/\W=w':=fun B hB W=>Gs hB W (by omega) hP6;have h44: ∀B,decide (s.data.toList[p2]? =some 44)=B-> ∀W,Calls Tryz.prog 208 #[.string s,.int .i64 (p2:Nat),.int .u8 44] W fun e w'=>e=.returned (.bool B)/\W=w':=fun B hB W=>Gs hB W (by omega) hP6;have hbk:Al (acc++ [(KK,Val.mk k' b' n' t' l' o')])<=6*p2:=by rw[Tq];simp only[Ec];omega
      have hnd:=Ag1 hnk.out Hnod.out (.mk k' b' n' t' l' o');have hrs:=HI2.out.blk.lt;have hbl:=HI2.out.below.size;obtain⟨HC,HIs,Htk,His,Hpast2,H125,H44,Hbk,Hnd⟩:=hid9 hC hIs htk his hpast2 h125 h44 hbk hnd;clear hC hIs htk his hpast2 h125 h44 hbk hnd;clear hr hsd;go_wp2_with (fail);(with_reducible refine(Hpast.out _).mono ?_);rintro e w3 ⟨rfl,rfl⟩;go_wp2_with (fail);(with_reducible refine(HIs.out _).mono ?_);rintro e w3 ⟨rfl,rfl⟩;go_wp2_with (fail);(with_reducible refine(HC.out _).mono ?_);rintro e w4 ⟨hb4,cs,rfl,hf4⟩;obtain⟨la4,lc4,oa4,oc4,rfl⟩:=Ct hf4;have hI4:=HI2.out.later hb4;have hsz4:=hb4.size;have hbe:=(hb4.alloc hb4.size (.cells #[.int .i64 k',.bool b',.int .i64 n',.string t',.slice la4 l'.length lc4,.slice oa4 o'.length oc4] 39)).alloc (by simp;omega) (.cells #[.string KK,.int .i64 k',.bool b',.int .i64 n',.string t',.slice la4 l'.length lc4,.slice oa4 o'.length oc4] 63);have hfe:=((Le (key:=KK) hf4).later (Aa w4 (.cells #[.int .i64 k',.bool b',.int .i64 n',.string t',.slice la4 l'.length lc4,.slice oa4 o'.length oc4] 39))).later (Aa _ (.cells #[.string KK,.int .i64 k',.bool b',.int .i64 n',.string t',.slice la4 l'.length lc4,.slice oa4 o'.length oc4] 63));have hI5:=(hI4.later (Aa w4 (.cells #[.int .i64 k',.bool b',.int .i64 n',.string t',.slice la4 l'.length lc4,.slice oa4 o'.length oc4] 39))).later (Aa _ (.cells #[.string KK,.int .i64 k',.bool b',.int .i64 n',.string t',.slice la4 l'.length lc4,.slice oa4 o'.length oc4] 63));have hrd:Bt ((w4.alloc (.cells #[.int .i64 k',.bool b',.int .i64 n',.string t',.slice la4 l'.length lc4,.slice oa4 o'.length oc4] 39)).alloc (.cells #[.string KK,.int .i64 k',.bool b',.int .i64 n',.string t',.slice la4 l'.length lc4,.slice oa4 o'.length oc4] 63)) (w4.heap.size+1+1) 7 (some ⟨w4.heap.size+1,0,none⟩) 1 [.string KK,.int .i64 k',.bool b',.int .i64 n',.string t',.slice la4 l'.length lc4,.slice oa4 o'.length oc4]:=by simpa using Fi (w4.alloc (.cells #[.int .i64 k',.bool b',.int .i64 n',.string t',.slice la4 l'.length lc4,.slice oa4 o'.length oc4] 39)) (.string KK) (.int .i64 k') (.bool b') (.int .i64 n') (.string t') (.slice la4 l'.length lc4) (.slice oa4 o'.length oc4)
      obtain⟨Hbe,Hfe,HI5,Hrd,HI4,Hb4,Hf4⟩:=hid7 hbe hfe hI5 hrd hI4 hb4 hf4;clear hbe hfe hI5 hrd hI4 hb4 hf4;go_wp2_with (at_builtin;apply Shut.out);unfold Shut;refine Do (d:=dP (KK,.mk k' b' n' t' l' o')) (V:=.slice aV acc.length cV) rfl (.tmp 82) (.tmp 86) 37 rfl Tryz.underlying37 Hj.out Hy0.out Hy1.out Hy2.out rfl (by omega) rfl Hrow2.out (by omega) Hbe.out (Fc _) Hfe.out rfl Hrd.out HLo.out.1 HLo.out.2 ?_;intro V6 w6 hrow6 hg6 hat6;have hI6:=HI5.out.grown hg6 (fun r e=>(Hrow2.out.base r e).1);rw[Htk.out]at hrow6;have dl6:(dO (acc++ [(KK,Val.mk k' b' n' t' l' o')])).length=(acc++ [(KK,Val.mk k' b' n' t' l' o')]).length:=Ig _;obtain⟨a6,c6,rfl⟩:=hrow6.slice_n dl6;obtain⟨NL,hNL⟩: ∃NL,(acc++ [(KK,Val.mk k' b' n' t' l' o')]).length=NL:=⟨_,rfl⟩;have hnl1:NL=acc.length+1:=by rw[<-hNL];simp
      rw[hNL]at hrow6 ⊢;obtain⟨HNL,HNL1,HI6,Hrow6⟩:=hid4 hNL hnl1 hI6 hrow6;clear hI6 hrow6;clear hg6 hat6 Hbe Hfe HI5 Hrd HI4 Hb4 Hf4 hsz4 dl6 hNL hnl1;go_wp2_with (fail);(with_reducible refine(Hpast2.out _).mono ?_);rintro e w8 ⟨rfl,rfl⟩;have fz6:=HI6.out.blk.frozen;have hlt6:=HI6.out.blk.lt;obtain⟨r0,r1,r2,r3,r4,r5⟩:=Ao HI6.out.blk
      cases hB:decide (s.data.toList[p2]? =some 125)with
      |true=>
       have hIs:=H125.out _ hB;have his:=His.out;rw[decide_eq_true_iff]at hB;rw[if_neg (by rw[hB];decide),if_pos hB]at his;subst his;have hO:=Yo HCo (acc++ [(KK,Val.mk k' b' n' t' l' o')]) a6 c6 w6 (Y7 Hrow6.out.now) (by have:=Hbk.out;omega);rw[HNL.out]at hO;obtain⟨hs1,_,_⟩:=O3 Hnd.out;obtain⟨HIs,HO,Hs1⟩:=hid3 hIs hO hs1;clear hIs hO hs1;clear hB;go_wp2_with (fail);(with_reducible refine(HIs.out _).mono ?_);rintro e w8 ⟨rfl,rfl⟩;go_wp2_with (fail);(with_reducible refine(HO.out).mono ?_);rintro e w9 ⟨hb9,⟨hn9,_⟩|⟨o9,oa9,oc9,ho9,rfl,hm9⟩⟩
       . exact absurd (hn9.symm.trans Hs1.out) (by simp)
       . have Ho9:Hid (o9=Kf (acc++ [(KK,Val.mk k' b' n' t' l' o')])):=Option.some.inj (ho9.symm.trans Hs1.out);have hI9:=HI6.out.later hb9;have fz9:=hI9.blk.frozen;have hlt9:=hI9.blk.lt;obtain⟨z0,z1,z2,z3,z4,z5⟩:=Ao hI9.blk;have hxf:=(hI9.many (.int .i64 6) (.bool false) (.int .i64 0) (.string ⟨#[]⟩) (.slice none 0 0) (.slice oa9 o9.length oc9)).later (Aa _ (.cells #[.int .i64 6,.bool false,.int .i64 0,.string ⟨#[]⟩,.slice none 0 0,.slice oa9 o9.length oc9] 39));have hff:=((Yd (oc:=oc9) hm9).keep (b':=w.heap.size) (w':=A1 w9 w.heap.size 0 [.int .i64 6,.bool false,.int .i64 0,.string ⟨#[]⟩,.slice none 0 0,.slice oa9 o9.length oc9]) (by omega) (by rw[Ba];exact Nat.le_refl _) (fun p p1 p2=>World.cell?_of_block (Aw _ _ _ _ _ (by have p1':w6.heap.size<=p.block:=p1;omega)))).later (Aa _ (.cells #[.int .i64 6,.bool false,.int .i64 0,.string ⟨#[]⟩,.slice none 0 0,.slice oa9 o9.length oc9] 39));obtain⟨HI9,Hxf,Hff⟩:=hid3 hI9 hxf hff;clear hI9 hxf hff;clear hb9 ho9 hm9 r0 r1 r2 r3 r4 r5 fz6;go_wp2;exact bodyPost_ret (Af rfl rfl Hxf.out.blk) rfl ⟨Hxf.out.below,⟨_,rfl,by rw[<-Ho9.out];exact Hff.out⟩⟩
      |false=>
       have hIs:=H125.out _ hB;have his:=His.out;rw[decide_eq_false_iff_not]at hB;clear His
       cases hB4:decide (s.data.toList[p2]? =some 44)with
       |true=>
        have hIs4:=H44.out _ hB4;rw[decide_eq_true_iff]at hB4;rw[if_pos hB4]at his;have hlt:=De hB4;rw[Ab]at hlt;have HN:Hid (ORf w w6 s d RES (f+1) m (p2+1) (acc++ [(KK,Val.mk k' b' n' t' l' o')]) (.slice a6 NL c6)):=⟨HI6.out,Hrow6.out,Hnd.out,his,by omega,by omega,by rw[HNL.out,HNL1.out];omega,by have:=Hbk.out;omega⟩;obtain⟨HIs,HIs4⟩:=hid2 hIs hIs4;clear hIs hIs4;clear hB hB4 his;go_wp2_with (fail);(with_reducible refine(HIs.out _).mono ?_);rintro e w8 ⟨rfl,rfl⟩;go_wp2_with (fail);(with_reducible refine(HIs4.out _).mono ?_);rintro e w8 ⟨rfl,rfl⟩;go_wp2
        go_roundg m
        case measure=>omega
        case rel=>exact⟨m,_,_,rfl,by omega,by go_num,HN⟩
       |false=>
        have hIs4:=H44.out _ hB4;rw[decide_eq_false_iff_not]at hB4;rw[if_neg hB4,if_neg hB]at his;subst his;have hxf:=HI6.out.many (.int .i64 0) (.bool false) (.int .i64 0) (.string ⟨#[]⟩) (.slice none 0 0) (.slice none 0 0);obtain⟨HIs,HIs4,Hxf⟩:=hid3 hIs hIs4 hxf;clear hIs hIs4 hxf;clear hB hB4;go_wp2_with (fail);(with_reducible refine(HIs.out _).mono ?_);rintro e w8 ⟨rfl,rfl⟩;go_wp2_with (fail);(with_reducible refine(HIs4.out _).mono ?_);rintro e w8 ⟨rfl,rfl⟩;go_wp2;exact bodyPost_ret (Af rfl rfl Hxf.out.blk) rfl ⟨Hxf.out.below,rfl⟩
end Go.Proofs.YtackmnbpfbaemaaGreatDoor
