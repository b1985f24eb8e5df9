/- Parts: commonplaceref02.Object: members put where they belong, each once. Condition: a bulk of at most 10^8. -/
import Derived.Deep.DeepCutAuto
import Derived.Deep.CutBlock
import Derived.Test.YtkmcjfkokoidcaaGreatDoorKFb23
set_option maxHeartbeats 20000000
set_option maxRecDepth 100000
namespace Go.Proofs.YtkmcjfkokoidcaaGreatDoor
open Go.RowKit
def Afn (w:World) (l:List (ByteArray×Val)) (e:Ending) (w':World):Prop:=Below w.heap.size w w'/\
 ((B9 l []=none/\e=.returned (.tuple #[.agg #[.int .i64 0,.bool false,.int .i64 0,.string ⟨#[]⟩,.slice none 0 0,.slice none 0 0],.int .i64 8]))\/
  ∃o oa oc,B9 l []=some o/\e=.returned (.tuple #[.agg #[.int .i64 6,.bool false,.int .i64 0,.string ⟨#[]⟩,.slice none 0 0,.slice oa o.length oc],.int .i64 0])/\
   (o= []\/ ∃g,oa=some ⟨g,0,none⟩/\g<w'.heap.size/\Ak w' w'.heap.size o g 0))
def Qw (w:World) (l:List (ByteArray×Val)) (e:Ending) (w':World):Prop:=Below w.heap.size w w'/\
 ((B9 l []=none/\e=.returned (.tuple #[.agg #[.int .i64 0,.bool false,.int .i64 0,.string ⟨#[]⟩,.slice none 0 0,.slice none 0 0],.int .i64 8]))\/
  ∃o oa oc,B9 l []=some o/\e=.returned (.tuple #[.agg #[.int .i64 6,.bool false,.int .i64 0,.string ⟨#[]⟩,.slice none 0 0,.slice oa o.length oc],.int .i64 0])/\
   (o= []\/ ∃g,oa=some ⟨g,0,none⟩/\w.heap.size<=g/\g<w'.heap.size/\ ∀w'':World,w'.heap.size<=w''.heap.size->(∀p:Addr,w.heap.size<=p.block->p.block<w'.heap.size->w''.cell? p=w'.cell? p)->Ak w'' w'.heap.size o g 0))
theorem Qw.now {w:World} {l:List (ByteArray×Val)} {e:Ending} {w':World} (h:Qw w l e w'):Afn w l e w':=by
 obtain⟨hb,h|⟨o,oa,oc,h1,h2,h3⟩⟩:=h
 . exact⟨hb,.inl h⟩
 . refine⟨hb,.inr ⟨o,oa,oc,h1,h2, ?_⟩⟩;rcases h3 with h3|⟨g,e1,_,e3,e4⟩
   . exact .inl h3
   . exact .inr ⟨g,e1,e3,e4 w' (Nat.le_refl _) fun _ _ _=>rfl⟩
def FrR (b:Nat) (wr:World) (acc:List (ByteArray×Val)) (ns:List Value):Prop:=
 ∀w'':World,wr.heap.size<=w''.heap.size->(∀p:Addr,b<=p.block->p.block<wr.heap.size->w''.cell? p=wr.cell? p)->Ep w'' wr.heap.size acc ns
theorem FrR.keep {b:Nat} {wr w':World} {acc:List (ByteArray×Val)} {ns:List Value} (h:FrR b wr acc ns) (hs:wr.heap.size<=w'.heap.size)
 (hk: ∀p:Addr,b<=p.block->p.block<wr.heap.size->w'.cell? p=wr.cell? p):FrR b w' acc ns:=fun w'' h1 h2=>
 Ep.more hs (h w'' (Nat.le_trans hs h1) (fun p p1 p2=>(h2 p p1 (Nat.lt_of_lt_of_le p2 hs)).trans (hk p p1 p2)))
def FrO (b:Nat) (wr:World) (acc:List (ByteArray×Val)) (oa:Option Addr) (oc:Nat) (ns:List Value):Prop:=
 FrR b wr acc ns/\((acc= []/\oa=none/\oc=0)\/ ∃g,oa=some ⟨g,0,none⟩/\b<=g/\g<wr.heap.size/\acc.length<=oc/\ ∀j u,ns[j]? =some u->wr.cell? ⟨g,j,none⟩=some u)
theorem FrO.reads {b:Nat} {wr:World} {acc:List (ByteArray×Val)} {oa:Option Addr} {oc:Nat} {ns:List Value} (h:FrO b wr acc oa oc ns):A7 wr wr.heap.size 7 oa acc.length ns/\ ∀u ∈ ns,u.oneCell'=true:=by
 have hl:=(h.1 wr (Nat.le_refl _) (fun _ _ _=>rfl)).len;refine⟨⟨hl.1,fun hn=> ?_⟩,hl.2⟩;rcases h.2 with⟨e,_,_⟩|⟨g,e,_,hg,_,hc⟩
 . rw[e]at hn;simp at hn
 . refine⟨_,e,hg,fun j u hu=> ?_⟩;rw[Go.WideShapes.add_plain,Nat.zero_add];exact hc j u hu
theorem A7.take_ {w:World} {B size n k:Nat} {A:Option Addr} {xs:List Value} (h:A7 w B size A n xs) (hk:k<=n):A7 w B size A k (xs.take (k*size)):=by
 refine⟨by rw[List.length_take,h.1];have:=Nat.mul_le_mul_right size hk;omega,fun hn=> ?_⟩;obtain⟨ad,e,hb,hc⟩:=h.2 (by omega);refine⟨ad,e,hb,fun j u hu=>hc j u ?_⟩;rw[List.getElem?_take]at hu
 split at hu
 . exact hu
 . cases hu
theorem FrR.put {b:Nat} {wo w1 w4 w6:World} {acc:List (ByteArray×Val)} {ns cs:List Value} {key:ByteArray} {x:Val} (h:FrR b wo acc ns) (hx:N9 w1 w4 x cs) (hb:b<=wo.heap.size) (hs1:wo.heap.size<=w1.heap.size) (hs4:w1.heap.size<=w4.heap.size) (hs6:w4.heap.size<=w6.heap.size)
 (k1: ∀p:Addr,b<=p.block->p.block<wo.heap.size->w6.cell? p=wo.cell? p) (k4: ∀p:Addr,w1.heap.size<=p.block->p.block<w4.heap.size->w6.cell? p=w4.cell? p):
 FrR b w6 (Ib (key,x) acc) (ns.take (Da key acc*7)++((.string key::cs)++ns.drop (Da key acc*7))):=by
 intro w'' h1 h2;have a1:=Ep.more (B':=w6.heap.size) (by omega) (h w'' (by omega) (fun p p1 p2=>(h2 p p1 (by omega)).trans (k1 p p1 p2)));have a2:=Ac.more hs6 _ _ (hx w'' (by omega) (fun p p1 p2=>(h2 p (by omega) (by omega)).trans (k4 p p1 p2)));obtain⟨s1,s2⟩:=Ep.split (Da key acc) a1;exact s1.app (Ep.app (a:= [(key,x)]) ⟨cs, [],by simp,a2,rfl⟩ s2)
theorem Ae0 {α:Type} {l:List α} {k:Nat} {P:α->Prop} (h: ∀u ∈ l,P u): ∀u ∈ l.take k,P u:=fun u hu=>h u (List.mem_of_mem_take hu)
theorem Aez {α:Type} {l:List α} {k:Nat} {P:α->Prop} (h: ∀u ∈ l,P u): ∀u ∈ l.drop k,P u:=fun u hu=>h u (List.mem_of_mem_drop hu)
theorem Xt {w:World} {B m:Nat} {v:Value} {ns:List Value} (h:w.ownsRow B 94 7 v m ns):
 ∃la lc,v=.slice la m lc/\((m=0/\la=none/\lc=0)\/ ∃g,la=some ⟨g,0,none⟩/\B<=g/\g<w.heap.size/\m<=lc/\ ∀j u,ns[j]? =some u->w.cell? ⟨g,j,none⟩=some u):=by
 rcases h.2 with⟨rfl,hz⟩|⟨g,cap,cur,rfl,hbg,hg,hmc,_,_,_⟩
 . subst hz;exact⟨none,0,rfl,.inl ⟨rfl,rfl,rfl⟩⟩
 . refine⟨_,cap,rfl,.inr ⟨g,rfl,hbg,(Array.getElem?_eq_some_iff.1 hg).1,hmc,fun j u hu=> ?_⟩⟩;have:=h.cells (g:=g) rfl j u hu
   rwa [Go.WideShapes.add_plain,Nat.zero_add]at this
theorem Eu {w:World} {g i:Nat} {cs:Array Value} {t:TypeId} (h:w.heap[g]? =some (.cells cs t (0,0))) (u:Value):(w.setCell ⟨g,i,none⟩ u).heap[g]? =some (.cells (cs.setIfInBounds i u) t (0,0)):=by
 simp[World.setCell,Array.getElem?_modify,h]
theorem M4 {B:Nat} {a w:World} (h:Below B a w) (n:Nat):Below B a (w.drewN n):=⟨h.os,h.tape,h.output,h.size,h.block⟩
theorem Uj {α:Type} {l:List α} {k:Nat} {v:α} (h:l[k]? =some v):l.drop k=v::l.drop (k+1):=by
 obtain⟨hlt,rfl⟩:=List.getElem?_eq_some_iff.1 h;exact List.drop_eq_getElem_cons hlt
theorem U4 (HC: ∀v,Ms v) (l:List (ByteArray×Val)) (la:Option Addr) (lc:Nat) (w:World) (hl:l= []\/ ∃g off,la=some ⟨g,off,none⟩/\g<w.heap.size/\Ak w w.heap.size l g off) (hb:Ae l<=100000000):
 Calls Tryz.prog 212 #[.slice la l.length lc] w (Qw w l):=by
 have hln:=Ba l;obtain⟨HCC,HL⟩:=hid2 HC hl;clear HC hl;go_enter Tryz.func212,Tryz.ntmps212;go_wp2_with (fail);obtain⟨w0,hw0⟩: ∃w0,(w.alloc (.cells #[.int .i64 0,.bool false,.int .i64 0,.string ⟨#[]⟩,.slice none 0 0,.slice none 0 0] 37)).alloc (.cells #[.int .i64 6,.bool false,.int .i64 0,.string ⟨#[]⟩,.slice none 0 0,.slice none 0 0] 37)=w0:=⟨_,rfl⟩;have Hbw0:Hid (Below w.heap.size w w0):=by
  show Below _ _ _;rw[<-hw0];exact((Below.refl _ _).alloc (Nat.le_refl _) _).alloc (by simp) _
 have Hx10:Hid (w0.heap[w.heap.size]? =some (.cells #[.int .i64 0,.bool false,.int .i64 0,.string ⟨#[]⟩,.slice none 0 0,.slice none 0 0] 37 (0,0))):=by
  show _=_;rw[<-hw0,Lib.alloc_old _ _ _ (by simp)];exact heap_alloc_new _ _
 have Hx20:Hid (w0.heap[w.heap.size+1]? =some (.cells #[.int .i64 6,.bool false,.int .i64 0,.string ⟨#[]⟩,.slice none 0 0,.slice none 0 0] 37 (0,0))):=by
  show _=_;rw[<-hw0];have:=heap_alloc_new (w.alloc (.cells #[.int .i64 0,.bool false,.int .i64 0,.string ⟨#[]⟩,.slice none 0 0,.slice none 0 0] 37)) (.cells #[.int .i64 6,.bool false,.int .i64 0,.string ⟨#[]⟩,.slice none 0 0,.slice none 0 0] 37);simpa using this
 have Hs0:w.heap.size+2<=w0.heap.size:=by rw[<-hw0];simp
 have Hfr0:Hid (FrO (w.heap.size+2) w0 [] none 0 []):=⟨fun _ _ _=>rfl,.inl ⟨rfl,rfl,rfl⟩⟩;have Hob0:Hid (B9 (l.drop 0) []=B9 l []):=rfl;have Hbk0:Ae []+Ae (l.drop 0)<=100000000:=by simp only[Ae,List.drop_zero];omega
 rw[hw0];clear hw0;go_loopw [5] (fun i wr=> ∃(q:Nat) (acc:List (ByteArray×Val)) (oa:Option Addr) (oc:Nat) (ns:List Value),i=.int .i64 q/\q<=l.length/\Hid (B9 (l.drop q) acc=B9 l [])/\Hid (Below w.heap.size w wr)/\
  Hid (wr.heap[w.heap.size]? =some (.cells #[.int .i64 0,.bool false,.int .i64 0,.string ⟨#[]⟩,.slice none 0 0,.slice none 0 0] 37 (0,0)))/\
  Hid (wr.heap[w.heap.size+1]? =some (.cells #[.int .i64 6,.bool false,.int .i64 0,.string ⟨#[]⟩,.slice none 0 0,.slice oa acc.length oc] 37 (0,0)))/\
  Hid (FrO (w.heap.size+2) wr acc oa oc ns)/\w.heap.size+2<=wr.heap.size/\Ae acc+Ae (l.drop q)<=100000000) (fun i _=>l.length - (intOf i).toNat)
 case atStart=>exact⟨0, [],none,0, [],rfl,Nat.zero_le _,Hob0,Hbw0,Hx10,Hx20,Hfr0,Hs0,Hbk0⟩
 case round=>
  obtain⟨q,acc,oa,oc,ns,rfl,hq,hob,hbw,hx1,hx2,hfr,hs,hbk⟩:=hrel;clear Hob0 Hbw0 Hx10 Hx20 Hfr0 Hs0 Hbk0;have hal:=Ba acc;have b1:wr.cell? ⟨w.heap.size+1,5,none⟩=some (.slice oa acc.length oc):=by rw[Lib.cell_of_heap hx2.out];rfl
  by_cases hlt:q<l.length
  . obtain⟨g,off,rfl,hg,hL⟩: ∃g off,la=some ⟨g,off,none⟩/\g<w.heap.size/\Ak w w.heap.size l g off:=by
     rcases HL.out with h0|h
     . rw[h0]at hlt;simp at hlt
     . exact h
    obtain⟨⟨key,x⟩,hx⟩: ∃v,l[q]? =some v:=⟨_,List.getElem?_eq_getElem hlt⟩;have hdr:=Uj hx;have hob':=hob.out;rw[hdr]at hob' hbk;simp only[B9,Ae,Gm]at hob' hbk;obtain⟨AT,hAT⟩: ∃AT,Da key acc=AT:=⟨_,rfl⟩;have hATl:=Ob key acc;have hal2:acc.length<=100000000:=by omega
    rw[hAT]at hATl;have c0:wr.cell? ⟨g,off+q*7,none⟩=some (.string key):=((hL.below hg hbw.out).at_ hx).1;have hkeyc: ∀j p,acc[j]? =some p-> ∃g1,oa=some ⟨g1,0,none⟩/\wr.cell? ⟨g1,j*7,none⟩=some (.string p.1):=by
     intro j p hp;rcases hfr.out.2 with⟨e,_,_⟩|⟨g1,e,_,_,_,hc⟩
     . rw[e]at hp;simp at hp
     . have hR:=hfr.out.1 wr (Nat.le_refl _) (fun _ _ _=>rfl);have hH:Ak wr wr.heap.size acc g1 0:=hR.holds (fun j u hu=>by rw[Nat.zero_add];exact hc j u hu);refine⟨g1,e, ?_⟩;have:=(hH.at_ hp).1
       rwa [Nat.zero_add]at this
    obtain⟨Hkc,HAT,Hob,HX,HLq⟩:=hid5 hkeyc hAT hob' hx hL;obtain⟨wo,hwo⟩: ∃wo:World,wo=wr:=⟨_,rfl⟩;subst hwo;clear hkeyc hAT hob' hob hx hdr hL
    go_upto_block 2 with(fail)
    go_cut [6] (fun a wx=> ∃n,a=.int .i64 AT/\wx=wo.drewN n)
    case first=>
     clear hx1 hx2 hbw Hob HX HLq hbk HCC HL;go_wp2_with (fail);go_loopw [6] (fun a wx=> ∃j n,a=.int .i64 (j:Nat)/\j<=AT/\wx=wo.drewN n) (fun a _=>AT - (intOf a).toNat)
     case atStart=>exact⟨0,0,rfl,Nat.zero_le _,rfl⟩
     case round=>
      obtain⟨j,n,rfl,hj,rfl⟩:=hrel;by_cases hjt:j<AT
      . obtain⟨p,hp⟩: ∃p,acc[j]? =some p:=⟨_,List.getElem?_eq_getElem (by omega)⟩;obtain⟨g1,rfl,cj⟩:=Hkc.out j p hp;have hlt':Op.bytesLess p.1.toList key.toList=true:=Adu key (by rw[HAT.out];exact hjt) hp;have hgd:decide ((j:Int)<(acc.length:Int))=true:=by simp;omega
        have hgd2:decide (j<acc.length)=true:=by simp;omega
        clear hp;have y1:(j:Int)<(acc.length:Int):=by omega
        have y2:j<acc.length:=by omega
        have y3:(q:Int)<(l.length:Int):=by omega
        go_wp2_with (fail);go_quiet (fail);go_wp2;go_roundw
        case rel=>exact⟨j+1,_,by go_num,by omega,by first|rfl|exact World.drewN_drewN _ _ _⟩
        case measure=>simp only[intOf];omega
      . obtain rfl:j=AT:=by omega
        by_cases hend:j<acc.length
        . obtain⟨p,hp⟩: ∃p,acc[j]? =some p:=⟨_,List.getElem?_eq_getElem (by omega)⟩;obtain⟨g1,rfl,cj⟩:=Hkc.out j p hp;have hlt':Op.bytesLess p.1.toList key.toList=false:=by
           have h1:=HAT.out;rw[<-h1]at hp;exact Adt key hp
          have hgd:decide ((j:Int)<(acc.length:Int))=true:=by simp;omega
          have hgd2:decide (j<acc.length)=true:=by simp;omega
          clear hp;have y1:(j:Int)<(acc.length:Int):=by omega
          have y3:(q:Int)<(l.length:Int):=by omega
          go_wp2_with (fail);go_quiet (fail);go_wp2;go_meet;exact⟨_,rfl,by first|rfl|exact World.drewN_drewN _ _ _⟩
        . obtain rfl:j=acc.length:=by omega
          go_wp2_with (fail);go_quiet (fail);go_wp2;go_meet;exact⟨_,rfl,by first|rfl|exact World.drewN_drewN _ _ _⟩
    case rest=>
     obtain⟨n,rfl,rfl⟩:=hcut;go_upto_region 8 with(fail);go_cut [54] (fun c wx=>c=.bool (Cl key acc)/\ ∃n,wx=wo.drewN n)
     case first=>
      clear hx1 hx2 hbw Hob HX HLq hbk HCC HL;by_cases hend:AT<acc.length
      . obtain⟨p,hp⟩: ∃p,acc[AT]? =some p:=⟨_,List.getElem?_eq_getElem hend⟩;obtain⟨g1,rfl,cj⟩:=Hkc.out AT p hp;have hgd:decide ((AT:Int)<(acc.length:Int))=true:=by simp;omega
        have hgd2:decide (AT<acc.length)=true:=by simp;omega
        obtain⟨B,hB⟩: ∃B,(p.1.toList==key.toList)=B:=⟨_,rfl⟩;have hH:Hid (Cl key acc=B):=by
         show _=_;unfold Cl;rw[HAT.out,hp];exact hB
        clear hp;have y1:(AT:Int)<(acc.length:Int):=by omega
        have y3:(q:Int)<(l.length:Int):=by omega
        go_wp2_with (fail);go_quiet (fail);go_wp2;go_meet;exact⟨by rw[hH.out],_,by first|rfl|exact World.drewN_drewN _ _ _⟩
      . obtain rfl:AT=acc.length:=by omega
        have hH:Hid (Cl key acc=false):=by
         show _=_;unfold Cl;rw[HAT.out];simp
        go_wp2_with (fail);go_quiet (fail);go_wp2;go_meet;exact⟨by rw[hH.out],_,by first|rfl|exact World.drewN_drewN _ _ _⟩
     case rest=>
      obtain⟨rfl,n',rfl⟩:=hcut;obtain⟨HB,hHB⟩: ∃HB,Cl key acc=HB:=⟨_,rfl⟩;rw[hHB];have Hob1:=Hob.out;rw[hHB]at Hob1
      cases HB
      . have Hob2:Hid (B9 (l.drop (q+1)) (Ib (key,x) acc)=B9 l []):=by
         show _=_;rw[<-Hob1];simp
        clear Hob1 Hob;obtain⟨j0,hj,hy0,hy1,hy2⟩:=info_parts Rm;obtain⟨HJ,HY0,HY1,HY2⟩:=hid4 hj hy0 hy1 hy2;clear hj hy0 hy1 hy2;obtain⟨hrd,hone⟩:=hfr.out.reads;obtain⟨HRD,HON⟩:=hid2 hrd hone;have hoc:acc.length<=oc:=by
         rcases hfr.out.2 with⟨e,_,e2⟩|⟨_,_,_,_,h,_⟩
         . rw[e];simp
         . exact h
        have hoc1:AT<=oc:=by omega
        have hoc2:(AT:Int)<=(oc:Int):=by omega
        clear hrd hone;go_wp2_with (at_builtin;refine Iw _ rfl (.tmp 56) (.tmp 60) 35 rfl wo.heap.size 94 j0 (.agg #[.string ⟨#[]⟩,.int .i64 0,.bool false,.int .i64 0,.string ⟨#[]⟩,.slice none 0 0,.slice none 0 0]) 7 104 Tryz.underlying35 HJ.out HY0.out HY1.out HY2.out rfl (by omega) (.slice none 0 0) 0 [] rfl (World.ownsRow_nil _ _ _ _) wo.heap.size _ AT _ (ns.take (AT*7)) rfl ?c0 ?c1 ?c2 ?c3 ?c4 ?_)
        case c0=>exact(HRD.out.take_ hATl).drewN n'
        case c1=>exact Ae0 HON.out
        case c2=>unfold maxLen;omega
        case c3=>omega
        case c4=>exact Nat.le_refl _
        intro v1 w1 hown1 hgrow1 hat1;have hb1:Below wo.heap.size wo w1:=(M4 (Below.refl _ _) n').grown hgrow1 (by simp) (by simp[Value.ownBlock]);have hat1': ∀g1,v1.ownBlock=some g1->g1=wo.heap.size:=by
         intro g1 e;rcases hat1 with h|h
         . rw[h]at e;simp[Value.ownBlock]at e
         . rw[h]at e;simpa using e.symm
        obtain⟨Hown1,Hb1,Hat1⟩:=hid3 hown1 hb1 hat1';have hs1:=hb1.size;obtain⟨k',b',m',t',l',o'⟩:=x;obtain⟨la',lc',oa',oc',hvs,_,c1,c2,c3,c4,c5,c6⟩:=(HLq.out.below hg (hbw.out.trans (hb1.mono (by omega)))).seven HX.out;have c0':=(hb1.cell (p:=⟨g,off+q*7,none⟩) (show g<_ by omega)).trans c0;have b1':=(hb1.cell (p:=⟨w.heap.size+1,5,none⟩) (show w.heap.size+1<_ by omega)).trans b1;have HC:=qz (HCC.out _ _ w1.drew (Ac.more (show w.heap.size<=w1.drew.heap.size from(by show _<=w1.heap.size;omega)) _ _ (hvs.below (Below.drew (Below.refl _ _)))) (by omega));have Hown4:Hid (∀w4:World,Below w1.drew.heap.size w1.drew w4->w4.ownsRow wo.heap.size 94 7 v1 AT (ns.take (AT*7))):=by
         intro w4 h4;have h5:Below w1.heap.size w1 w4:=(Below.drew (Below.refl _ _)).trans h4;refine Hown1.out.kept (row:=none) ⟨h5.os,h5.tape,h5.output,h5.size,fun i hi _=>h5.block i hi⟩ ?_
         cases v1.ownBlock with
         |none=>exact .inl rfl
         |some g=>exact .inr (by simp)
        have hgx:g<w1.heap.size:=by omega
        clear hb1 hat1 hat1' hown1 hgrow1 hvs c0 b1 HLq HX;go_wp2_with (fail)
        go_region_law (first|(refine step_append_lies _ (by rfl) (.tmp 62) (.tmp 75) 35 (by rfl) wo.heap.size 94 j0 (.agg #[.string ⟨#[]⟩,.int .i64 0,.bool false,.int .i64 0,.string ⟨#[]⟩,.slice none 0 0,.slice none 0 0]) 7 104 Tryz.underlying35 HJ.out HY0.out HY1.out HY2.out rfl (by omega) v1 AT (ns.take (AT*7)) (by rfl) ((Hown4.out _ Hb4.out).alloc _) ⟨w4.heap.size,0,none⟩ 1 1 [.string key,a0,a1,a2,a3,a4,a5] (by rfl) (by rfl) (World.news_of_block (cs:= #[.string key,a0,a1,a2,a3,a4,a5]) (t:=94) (fr:=(0,0)) (heap_alloc_new w4 _)) Hone.out (by omega) (by unfold maxLen;omega) (by omega) Hsz.out (w4.heap.size+1) (by simp) ?_;intro gg cap w5 hown5 hgrow5 hat5 hlt5;have Hown5:=qz hown5;have Hgrow5:=qz hgrow5;have Hat5:=qz hat5;clear hown5 hgrow5 hat5)|(go_simp;go_at_call 67;refine(HC.out).mono ?_;rintro e w4 ⟨⟨cs4,rfl,hl4,hfr4⟩,hb4⟩;obtain⟨a0,a1,a2,a3,a4,a5,rfl⟩:=R8 hl4;have Hfr4:=qz hfr4;have Hb4:=qz hb4;have g0:w4.cell? ⟨g,off+q*7,none⟩=some (.string key):=(hb4.cell (p:=⟨g,off+q*7,none⟩) hgx).trans c0';have Hone:Hid (∀u ∈ [.string key,a0,a1,a2,a3,a4,a5],u.oneCell'=true):=(Abk key (hfr4 w4 (Nat.le_refl _) (fun _ _ _=>rfl)).len.2);have Hsz:Hid (wo.heap.size<=(w4.alloc (.cells #[.string key,a0,a1,a2,a3,a4,a5] 94)).heap.size):=(by show _<=_;have h1:=hb4.size;have h3:w1.drew.heap.size=w1.heap.size:=rfl;simp;omega);clear hfr4 hb4 hl4))
        all_goals
         have hb4:Below w1.heap.size w1 w4:=(Below.drew (Below.refl _ _)).trans Hb4.out;have hs4:=hb4.size;have hb5:Below wo.heap.size wo w5:=((Hb1.out.trans (hb4.mono hs1)).alloc (by omega) (.cells #[.string key,a0,a1,a2,a3,a4,a5] 94)).grown Hgrow5.out (by simp;omega) (fun c hc=>by have:=Hat1.out c hc;omega);have hs5:w4.heap.size+1<=w5.heap.size:=by have:=Hgrow5.out.size;simpa using this
         have hgg:=(Hown5.out.lt gg rfl).1;have hx5:w5.heap[w.heap.size+1]? =some (.cells #[.int .i64 6,.bool false,.int .i64 0,.string ⟨#[]⟩,.slice none 0 0,.slice oa acc.length oc] 37 (0,0)):=(hb5.block _ (by omega)).trans hx2.out;have b5:w5.cell? ⟨w.heap.size+1,5,none⟩=some (.slice oa acc.length oc):=by rw[Lib.cell_of_heap hx5];rfl
         obtain⟨HB5,HX5,HB4⟩:=hid3 hb5 hx5 hb4;clear hb4 hb5 hx5;by_cases hcap:oc=AT
         all_goals
          go_wp2_with (at_builtin;refine Iw _ rfl (.tmp 77) (.tmp 81) 35 rfl wo.heap.size 94 j0 (.agg #[.string ⟨#[]⟩,.int .i64 0,.bool false,.int .i64 0,.string ⟨#[]⟩,.slice none 0 0,.slice none 0 0]) 7 104 Tryz.underlying35 HJ.out HY0.out HY1.out HY2.out rfl (by omega) (.slice (some ⟨gg,0,none⟩) (AT+1) cap) (AT+1) _ rfl Hown5.out wo.heap.size _ (acc.length - AT) _ (ns.drop (AT*7)) rfl ?d0 ?d1 ?d2 ?d3 ?d4 ?_)
          case d0=>
           have h:=(HRD.out.below HB5.out).cut hATl hoc
           first|(rw[if_pos hcap]at h;exact h)|(rw[if_neg hcap]at h;exact h)
          case d1=>exact Aez HON.out
          case d2=>unfold maxLen;omega
          case d3=>omega
          case d4=>omega
          intro v3 w6 hown6 hgrow6 hat6;have hpl:=Ae9 (key,.mk k' b' m' t' l' o') acc;rw[show AT+1+(acc.length - AT)=(Ib (key,.mk k' b' m' t' l' o') acc).length from by omega]at hown6;obtain⟨oa3,oc3,rfl,hm3⟩:=Xt hown6;have hb6:Below wo.heap.size wo w6:=HB5.out.grown hgrow6 (by omega) (fun c hc=>by simp[Value.ownBlock]at hc;omega);have hs6:=hgrow6.size;have hx6:=(hb6.block (w.heap.size+1) (by omega)).trans hx2.out;have f6:=Lib.frozen_of_heap hx6 5;have b6:w6.cell? ⟨w.heap.size+1,5,none⟩=some (.slice oa acc.length oc):=by rw[Lib.cell_of_heap hx6];rfl
          have hfar: ∀p:Addr,p.block≠w.heap.size+1->(w6.setCell ⟨w.heap.size+1,5,none⟩ (.slice oa3 (Ib (key,.mk k' b' m' t' l' o') acc).length oc3)).cell? p=w6.cell? p:=fun p hp=>World.cell?_of_block (Dy _ _ _ _ hp);have hgl:=Hown1.out.lt;have Hob3:=Hob2;have Hb':Hid (Below w.heap.size w (w6.setCell ⟨w.heap.size+1,5,none⟩ (.slice oa3 (Ib (key,.mk k' b' m' t' l' o') acc).length oc3))):=((hbw.out.trans (hb6.mono (by omega))).setCell (by simp) _);have Hx1':Hid ((w6.setCell ⟨w.heap.size+1,5,none⟩ (.slice oa3 (Ib (key,.mk k' b' m' t' l' o') acc).length oc3)).heap[w.heap.size]? =some (.cells #[.int .i64 0,.bool false,.int .i64 0,.string ⟨#[]⟩,.slice none 0 0,.slice none 0 0] 37 (0,0))):=by
           show _=_;rw[Dy _ _ _ _ (by omega),hb6.block _ (by omega)];exact hx1.out
          have Hx2':Hid ((w6.setCell ⟨w.heap.size+1,5,none⟩ (.slice oa3 (Ib (key,.mk k' b' m' t' l' o') acc).length oc3)).heap[w.heap.size+1]? =some (.cells #[.int .i64 6,.bool false,.int .i64 0,.string ⟨#[]⟩,.slice none 0 0,.slice oa3 (Ib (key,.mk k' b' m' t' l' o') acc).length oc3] 37 (0,0))):=by
           show _=_;rw[Eu hx6];rfl
          have hsz7:(w6.setCell ⟨w.heap.size+1,5,none⟩ (.slice oa3 (Ib (key,.mk k' b' m' t' l' o') acc).length oc3)).heap.size=w6.heap.size:=by simp[World.setCell]
          have hR:=FrR.put (key:=key) (b:=w.heap.size+2) (wo:=wo) (w1:=w1.drew) (w4:=w4) (w6:=(w6.setCell ⟨w.heap.size+1,5,none⟩ (.slice oa3 (Ib (key,.mk k' b' m' t' l' o') acc).length oc3))) hfr.out.1 Hfr4.out (by omega) hs1 hs4 (by omega)
           (fun p p1 p2=>(hfar p (by omega)).trans (hb6.cell p2))
           (fun p p1 p2=>by
             have p1':w1.heap.size<=p.block:=p1;have n1:v1.ownBlock≠some p.block:=fun e=>by have:=(hgl _ e).2;omega
             have n2:gg≠p.block:=fun e=>by
              rcases Hat5.out with h|h
              . exact n1 (by rw[<-e,h])
              . omega
             rw[hfar p (by omega)];refine World.cell?_of_block ?_;rw[hgrow6.block p.block (by omega) (by simp[Value.ownBlock];omega),Hgrow5.out.block p.block (by simp;omega) (fun e=>n1 e.symm),Lib.alloc_old w4 _ _ p2])
          rw[HAT.out]at hR;have Hfr':Hid (FrO (w.heap.size+2) (w6.setCell ⟨w.heap.size+1,5,none⟩ (.slice oa3 (Ib (key,.mk k' b' m' t' l' o') acc).length oc3)) (Ib (key,.mk k' b' m' t' l' o') acc) oa3 oc3 (ns.take (AT*7)++([.string key,a0,a1,a2,a3,a4,a5]++ns.drop (AT*7)))):=by
           refine⟨hR, ?_⟩;rcases hm3 with⟨h0,_,_⟩|⟨g3,e3,hg3,hg3',hle3,hc3⟩
           . omega
           . exact .inr ⟨g3,e3,by omega,by omega,hle3,fun j u hu=>(hfar _ (by show g3≠_;omega)).trans (hc3 j u hu)⟩
          have hs7:w.heap.size+2<=(w6.setCell ⟨w.heap.size+1,5,none⟩ (.slice oa3 (Ib (key,.mk k' b' m' t' l' o') acc).length oc3)).heap.size:=by omega
          have hbk':Ae (Ib (key,.mk k' b' m' t' l' o') acc)+Ae (l.drop (q+1))<=100000000:=by
           rw[Tc];simp only[Gm];omega
          clear hpl hR hm3 hown6 hgrow6 hat6 hfar hgl hsz7 hb6 hx6 Hown5 Hgrow5 Hat5 HB5 HX5 HB4 Hfr4 Hb4 Hown1 Hb1 Hat1 HC Hown4 hfr hbw hx1 hx2 HRD HON b5;go_wp2;go_roundw
          case rel=>exact⟨q+1,_,_,_,_,by go_num,by omega,Hob3,Hb',Hx1',Hx2',Hfr',hs7,hbk'⟩
          case measure=>simp only[intOf];omega
      . have Hob2:Hid (B9 l []=none):=by
         show _=_;rw[<-Hob1];simp
        have f1:=Lib.frozen_of_heap hx1.out;obtain⟨d0,d1,d2,d3,d4,d5⟩:=Fh hx1.out;clear Hob1 Hob;go_wp2;refine bodyPost_ret (v:=.tuple #[.agg #[.int .i64 0,.bool false,.int .i64 0,.string ⟨#[]⟩,.slice none 0 0,.slice none 0 0],.int .i64 8]) (by simp[results,Tryz.results212,go_sem,d0,d1,d2,d3,d4,d5]) rfl ⟨?_,.inl ⟨Hob2.out,rfl⟩⟩
        repeat (refine Below.setCell ?_ (by simp) _)
        exact M4 hbw.out n'
  . obtain rfl:q=l.length:=by omega
    have hob':=hob.out;rw[List.drop_length]at hob';have Hob1:Hid (B9 l []=some acc):=hob'.symm;have HR:=qz hfr.out;have f1:=Lib.frozen_of_heap hx1.out;obtain⟨d0,d1,d2,d3,d4,d5⟩:=Fh hx1.out;obtain⟨e0,e1,e2,e3,e4,e5⟩:=Fh hx2.out;clear hob hob' hfr HCC HL b1;go_wp2;obtain⟨W,hW⟩: ∃W,((((((wr.setCell ⟨w.heap.size,0,none⟩ (.int .i64 6)).setCell ⟨w.heap.size,1,none⟩ (.bool false)).setCell ⟨w.heap.size,2,none⟩ (.int .i64 0)).setCell ⟨w.heap.size,3,none⟩ (.string ⟨#[]⟩)).setCell ⟨w.heap.size,4,none⟩ (.slice none 0 0)).setCell ⟨w.heap.size,5,none⟩ (.slice oa acc.length oc))=W:=⟨_,rfl⟩;have hWh: ∀c,c≠w.heap.size->W.heap[c]? =wr.heap[c]? :=by
     intro c hc;rw[<-hW];simp only[Dy _ _ _ _ hc]
    have hWs:W.heap.size=wr.heap.size:=by rw[<-hW];simp[World.setCell]
    have hWb:Below w.heap.size w W:=by
     rw[<-hW];exact(((((hbw.out.setCell (by simp) _).setCell (by simp) _).setCell (by simp) _).setCell (by simp) _).setCell (by simp) _).setCell (by simp) _
    have hWr:W.heap[w.heap.size]? =some (.cells #[.int .i64 6,.bool false,.int .i64 0,.string ⟨#[]⟩,.slice none 0 0,.slice oa acc.length oc] 37 (0,0)):=by
     rw[<-hW];exact Eu (Eu (Eu (Eu (Eu (Eu hx1.out _) _) _) _) _) _
    obtain⟨y0,y1,y2,y3,y4,y5⟩:=Fh hWr;have hfin:acc= []\/ ∃g,oa=some ⟨g,0,none⟩/\w.heap.size<=g/\g<W.heap.size/\ ∀w'':World,W.heap.size<=w''.heap.size->(∀p:Addr,w.heap.size<=p.block->p.block<W.heap.size->w''.cell? p=W.cell? p)->Ak w'' W.heap.size acc g 0:=by
     rcases HR.out.2 with⟨e,_,_⟩|⟨g,e,hg,hg',_,hc⟩
     . exact .inl e
     . refine .inr ⟨g,e,by omega,by omega,fun w'' q1 q2=> ?_⟩;have hR:=HR.out.1 w'' (by omega) (fun p p1 p2=>(q2 p (by omega) (by omega)).trans (World.cell?_of_block (hWh p.block (by omega))));refine(Ep.more (by omega) hR).holds (fun j u hu=> ?_);rw[Nat.zero_add];exact(q2 ⟨g,j,none⟩ (by show w.heap.size<=g;omega) (by show g<_;omega)).trans ((World.cell?_of_block (hWh g (by omega))).trans (hc j u hu))
    rw[hW];exact bodyPost_ret (v:=.tuple #[.agg #[.int .i64 6,.bool false,.int .i64 0,.string ⟨#[]⟩,.slice none 0 0,.slice oa acc.length oc],.int .i64 0]) (by simp[results,Tryz.results212,go_sem,y0,y1,y2,y3,y4,y5]) rfl ⟨hWb,.inr ⟨acc,oa,oc,Hob1.out,rfl,hfin⟩⟩
end Go.Proofs.YtkmcjfkokoidcaaGreatDoor
