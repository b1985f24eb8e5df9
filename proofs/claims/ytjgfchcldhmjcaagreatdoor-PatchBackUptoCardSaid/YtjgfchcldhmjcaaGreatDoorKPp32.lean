/- Parts: commonplaceref04: Parse. Condition: a text of at most 1.6*10^7 bytes. -/
import Derived.Deep.DeepCutAuto
import Derived.Deep.CutBlock
import Derived.Test.YtjgfchcldhmjcaaGreatDoorKPp27
import Derived.Test.YtjgfchcldhmjcaaGreatDoorKPp28
set_option maxHeartbeats 20000000
set_option maxRecDepth 100000
namespace Go.Proofs.YtjgfchcldhmjcaaGreatDoor
open Go.RowKit
def Akf (w:World) (l:List (ByteArray×Val)) (e:Ending) (w':World):Prop:=Below w.heap.size w w'/\
 ((Bg l []=none/\e=.returned (.tuple #[.agg #[.int .i64 0,.bool false,.int .i64 0,.string ⟨#[]⟩,.slice none 0 0,.slice none 0 0],.int .i64 8]))\/
  ∃o oa oc,Bg l []=some o/\e=.returned (.tuple #[.agg #[.int .i64 6,.bool false,.int .i64 0,.string ⟨#[]⟩,.slice none 0 0,.slice oa o.length oc],.int .i64 0])/\
   (o= []\/ ∃g,oa=some ⟨g,0,none⟩/\g<w'.heap.size/\An w' w'.heap.size o g 0))
def Sk (w:World) (l:List (ByteArray×Val)) (e:Ending) (w':World):Prop:=Below w.heap.size w w'/\
 ((Bg l []=none/\e=.returned (.tuple #[.agg #[.int .i64 0,.bool false,.int .i64 0,.string ⟨#[]⟩,.slice none 0 0,.slice none 0 0],.int .i64 8]))\/
  ∃o oa oc,Bg l []=some o/\e=.returned (.tuple #[.agg #[.int .i64 6,.bool false,.int .i64 0,.string ⟨#[]⟩,.slice none 0 0,.slice oa o.length oc],.int .i64 0])/\
   (o= []\/ ∃g,oa=some ⟨g,0,none⟩/\w.heap.size<=g/\g<w'.heap.size/\ ∀w'':World,w'.heap.size<=w''.heap.size->(∀p:Addr,w.heap.size<=p.block->p.block<w'.heap.size->w''.cell? p=w'.cell? p)->An w'' w'.heap.size o g 0))
theorem Sk.now {w:World} {l:List (ByteArray×Val)} {e:Ending} {w':World} (h:Sk w l e w'):Akf w l e w':=by
 obtain⟨b,h|⟨o,k,oc,i,j,a⟩⟩:=h
 . exact⟨b,.inl h⟩
 . refine⟨b,.inr ⟨o,k,oc,i,j, ?_⟩⟩;rcases a with a|⟨g,c,_,d,f⟩
   . exact .inl a
   . exact .inr ⟨g,c,d,f w' (Nat.le_refl _) fun _ _ _=>rfl⟩
def FrR (b:Nat) (wr:World) (acc:List (ByteArray×Val)) (ns:List Value):Prop:=
 ∀w'':World,wr.heap.size<=w''.heap.size->(∀p:Addr,b<=p.block->p.block<wr.heap.size->w''.cell? p=wr.cell? p)->Fe w'' wr.heap.size acc ns
theorem FrR.keep {b:Nat} {wr w':World} {acc:List (ByteArray×Val)} {ns:List Value} (h:FrR b wr acc ns) (a:wr.heap.size<=w'.heap.size)
 (i: ∀p:Addr,b<=p.block->p.block<wr.heap.size->w'.cell? p=wr.cell? p):FrR b w' acc ns:=fun c f g=>
 Fe.more a (h c (Nat.le_trans a f) (fun p d e=>(g p d (Nat.lt_of_lt_of_le e a)).trans (i p d e)))
def FrO (b:Nat) (wr:World) (acc:List (ByteArray×Val)) (oa:Option Addr) (oc:Nat) (ns:List Value):Prop:=
 FrR b wr acc ns/\((acc= []/\oa=none/\oc=0)\/ ∃g,oa=some ⟨g,0,none⟩/\b<=g/\g<wr.heap.size/\acc.length<=oc/\ ∀j u,ns[j]? =some u->wr.cell? ⟨g,j,none⟩=some u)
theorem FrO.reads {b:Nat} {wr:World} {acc:List (ByteArray×Val)} {d:Option Addr} {oc:Nat} {ns:List Value} (h:FrO b wr acc d oc ns):Bt wr wr.heap.size 7 d acc.length ns/\ ∀u ∈ ns,u.oneCell'=true:=by
 have a:=(h.1 wr (Nat.le_refl _) (fun _ _ _=>rfl)).len;refine⟨⟨a.1,fun c=> ?_⟩,a.2⟩;rcases h.2 with⟨e,_,_⟩|⟨g,e,_,hg,_,hc⟩
 . rw[e]at c;simp at c
 . refine⟨_,e,hg,fun j u f=> ?_⟩;rw[Go.WideShapes.add_plain,Nat.zero_add];exact hc j u f
theorem Bt.take_ {w:World} {B size n k:Nat} {A:Option Addr} {xs:List Value} (h:Bt w B size A n xs) (f:k<=n):Bt w B size A k (xs.take (k*size)):=by
 refine⟨by rw[List.length_take,h.1];have:=Nat.mul_le_mul_right size f;omega,fun g=> ?_⟩;obtain⟨b,e,c,d⟩:=h.2 (by omega);refine⟨b,e,c,fun j u a=>d j u ?_⟩;rw[List.getElem?_take]at a
 split at a
 . exact a
 . cases a
theorem FrR.put {b:Nat} {wo w1 w4 w6:World} {acc:List (ByteArray×Val)} {ns cs:List Value} {key:ByteArray} {x:Val} (h:FrR b wo acc ns) (l:Lu w1 w4 x cs) (s:b<=wo.heap.size) (j:wo.heap.size<=w1.heap.size) (k:w1.heap.size<=w4.heap.size) (e:w4.heap.size<=w6.heap.size)
 (m: ∀p:Addr,b<=p.block->p.block<wo.heap.size->w6.cell? p=wo.cell? p) (n: ∀p:Addr,w1.heap.size<=p.block->p.block<w4.heap.size->w6.cell? p=w4.cell? p):
 FrR b w6 (Jw (key,x) acc) (ns.take (F9 key acc*7)++((.string key::cs)++ns.drop (F9 key acc*7))):=by
 intro c r g;have a1:=Fe.more (B':=w6.heap.size) (by omega) (h c (by omega) (fun p d f=>(g p d (by omega)).trans (m p d f)));have i:=Ab.more e _ _ (l c (by omega) (fun p d f=>(g p (by omega) (by omega)).trans (n p d f)));obtain⟨o,q⟩:=Fe.split (F9 key acc) a1;exact o.app (Fe.app (a:= [(key,x)]) ⟨cs, [],by simp,i,rfl⟩ q)
theorem Ai9 {a:Type} {l:List a} {k:Nat} {P:a->Prop} (h: ∀u ∈ l,P u): ∀u ∈ l.take k,P u:=fun u b=>h u (List.mem_of_mem_take b)
theorem Ai8 {a:Type} {l:List a} {k:Nat} {P:a->Prop} (h: ∀u ∈ l,P u): ∀u ∈ l.drop k,P u:=fun u b=>h u (List.mem_of_mem_drop b)
theorem Aaq {w:World} {B m:Nat} {v:Value} {ns:List Value} (h:w.ownsRow B 111 7 v m ns):
 ∃a b,v=.slice a m b/\((m=0/\a=none/\b=0)\/ ∃g,a=some ⟨g,0,none⟩/\B<=g/\g<w.heap.size/\m<=b/\ ∀j u,ns[j]? =some u->w.cell? ⟨g,j,none⟩=some u):=by
 rcases h.2 with⟨rfl,hz⟩|⟨g,cap,cur,rfl,hbg,hg,hmc,_,_,_⟩
 . subst hz;exact⟨none,0,rfl,.inl ⟨rfl,rfl,rfl⟩⟩
 . refine⟨_,cap,rfl,.inr ⟨g,rfl,hbg,(Array.getElem?_eq_some_iff.1 hg).1,hmc,fun j u c=> ?_⟩⟩;have:=h.cells (g:=g) rfl j u c
   rwa [Go.WideShapes.add_plain,Nat.zero_add]at this
theorem Ft {w:World} {g i:Nat} {cs:Array Value} {t:TypeId} (h:w.heap[g]? =some (.cells cs t (0,0))) (u:Value):(w.setCell ⟨g,i,none⟩ u).heap[g]? =some (.cells (cs.setIfInBounds i u) t (0,0)):=by
 simp[World.setCell,Array.getElem?_modify,h]
theorem Ox {B:Nat} {a w:World} (h:Below B a w) (n:Nat):Below B a (w.drewN n):=⟨h.os,h.tape,h.output,h.size,h.block⟩
theorem Xh {b:Type} {l:List b} {k:Nat} {v:b} (h:l[k]? =some v):l.drop k=v::l.drop (k+1):=by
 obtain⟨a,rfl⟩:=List.getElem?_eq_some_iff.1 h;exact List.drop_eq_getElem_cons a
theorem X5 (HC: ∀v,Qp v) (l:List (ByteArray×Val)) (la:Option Addr) (lc:Nat) (w:World) (hl:l= []\/ ∃g y,la=some ⟨g,y,none⟩/\g<w.heap.size/\An w w.heap.size l g y) (hb:Af l<=100000000):
 Calls Tryz.prog 208 #[.slice la l.length lc] w (Sk w l):=by
 have da:=B5 l;obtain⟨ag,HL⟩:=hid2 HC hl;clear HC hl;go_enter Tryz.func208,Tryz.ntmps208;go_wp2_with (fail);obtain⟨w0,N⟩: ∃w0,(w.alloc (.cells #[.int .i64 0,.bool false,.int .i64 0,.string ⟨#[]⟩,.slice none 0 0,.slice none 0 0] 42)).alloc (.cells #[.int .i64 6,.bool false,.int .i64 0,.string ⟨#[]⟩,.slice none 0 0,.slice none 0 0] 42)=w0:=⟨_,rfl⟩;have ao:Hid (Below w.heap.size w w0):=by
  show Below _ _ _;rw[<-N];exact((Below.refl _ _).alloc (Nat.le_refl _) _).alloc (by simp) _
 have au:Hid (w0.heap[w.heap.size]? =some (.cells #[.int .i64 0,.bool false,.int .i64 0,.string ⟨#[]⟩,.slice none 0 0,.slice none 0 0] 42 (0,0))):=by
  show _=_;rw[<-N,Lib.alloc_old _ _ _ (by simp)];exact heap_alloc_new _ _
 have av:Hid (w0.heap[w.heap.size+1]? =some (.cells #[.int .i64 6,.bool false,.int .i64 0,.string ⟨#[]⟩,.slice none 0 0,.slice none 0 0] 42 (0,0))):=by
  show _=_;rw[<-N];have:=heap_alloc_new (w.alloc (.cells #[.int .i64 0,.bool false,.int .i64 0,.string ⟨#[]⟩,.slice none 0 0,.slice none 0 0] 42)) (.cells #[.int .i64 6,.bool false,.int .i64 0,.string ⟨#[]⟩,.slice none 0 0,.slice none 0 0] 42);simpa using this
 have bo:w.heap.size+2<=w0.heap.size:=by rw[<-N];simp
 have ap:Hid (FrO (w.heap.size+2) w0 [] none 0 []):=⟨fun _ _ _=>rfl,.inl ⟨rfl,rfl,rfl⟩⟩;have ar:Hid (Bg (l.drop 0) []=Bg l []):=rfl;have an:Af []+Af (l.drop 0)<=100000000:=by simp only[Af,List.drop_zero];omega
 rw[N];clear N;go_loopw [5] (fun i wr=> ∃(q:Nat) (acc:List (ByteArray×Val)) (Q:Option Addr) (oc:Nat) (ns:List Value),i=.int .i64 q/\q<=l.length/\Hid (Bg (l.drop q) acc=Bg l [])/\Hid (Below w.heap.size w wr)/\
  Hid (wr.heap[w.heap.size]? =some (.cells #[.int .i64 0,.bool false,.int .i64 0,.string ⟨#[]⟩,.slice none 0 0,.slice none 0 0] 42 (0,0)))/\
  Hid (wr.heap[w.heap.size+1]? =some (.cells #[.int .i64 6,.bool false,.int .i64 0,.string ⟨#[]⟩,.slice none 0 0,.slice Q acc.length oc] 42 (0,0)))/\
  Hid (FrO (w.heap.size+2) wr acc Q oc ns)/\w.heap.size+2<=wr.heap.size/\Af acc+Af (l.drop q)<=100000000) (fun i _=>l.length - (intOf i).toNat)
 case atStart=>exact⟨0, [],none,0, [],rfl,Nat.zero_le _,ar,ao,au,av,ap,bo,an⟩
 case round=>
  obtain⟨q,acc,Q,oc,ns,rfl,hq,aj,D,A,I,E,hs,ai⟩:=hrel;clear ar ao au av ap bo an;have c8:=B5 acc;have b1:wr.cell? ⟨w.heap.size+1,5,none⟩=some (.slice Q acc.length oc):=by rw[Lib.cell_of_heap I.out];rfl
  by_cases bi:q<l.length
  . obtain⟨g,y,rfl,hg,hL⟩: ∃g y,la=some ⟨g,y,none⟩/\g<w.heap.size/\An w w.heap.size l g y:=by
     rcases HL.out with h0|h
     . rw[h0]at bi;simp at bi
     . exact h
    obtain⟨⟨key,x⟩,hx⟩: ∃v,l[q]? =some v:=⟨_,List.getElem?_eq_getElem bi⟩;have bv:=Xh hx;have f:=aj.out;rw[bv]at f ai;simp only[Bg,Af,E7]at f ai;obtain⟨d,bg⟩: ∃d,F9 key acc=d:=⟨_,rfl⟩;have Y:=Sp key acc;have cu:acc.length<=100000000:=by omega
    rw[bg]at Y;have c0:wr.cell? ⟨g,y+q*7,none⟩=some (.string key):=((hL.below hg D.out).at_ hx).1;have ac: ∀j p,acc[j]? =some p-> ∃S,Q=some ⟨S,0,none⟩/\wr.cell? ⟨S,j*7,none⟩=some (.string p.1):=by
     intro j p C;rcases E.out.2 with⟨e,_,_⟩|⟨S,e,_,_,_,hc⟩
     . rw[e]at C;simp at C
     . have hR:=E.out.1 wr (Nat.le_refl _) (fun _ _ _=>rfl);have hH:An wr wr.heap.size acc S 0:=hR.holds (fun j u hu=>by rw[Nat.zero_add];exact hc j u hu);refine⟨S,e, ?_⟩;have:=(hH.at_ C).1
       rwa [Nat.zero_add]at this
    obtain⟨bf,T,U,HX,ah⟩:=hid5 ac bg f hx hL;obtain⟨wo,ct⟩: ∃wo:World,wo=wr:=⟨_,rfl⟩;subst ct;clear ac bg f aj hx bv hL
    go_upto_block 2 with(fail)
    go_cut [6] (fun a wx=> ∃n,a=.int .i64 d/\wx=wo.drewN n)
    case first=>
     clear A I D U HX ah ai ag HL;go_wp2_with (fail);go_loopw [6] (fun a wx=> ∃j n,a=.int .i64 (j:Nat)/\j<=d/\wx=wo.drewN n) (fun a _=>d - (intOf a).toNat)
     case atStart=>exact⟨0,0,rfl,Nat.zero_le _,rfl⟩
     case round=>
      obtain⟨j,n,rfl,hj,rfl⟩:=hrel;by_cases cn:j<d
      . obtain⟨p,C⟩: ∃p,acc[j]? =some p:=⟨_,List.getElem?_eq_getElem (by omega)⟩;obtain⟨S,rfl,cj⟩:=bf.out j p C;have b2:Op.bytesLess p.1.toList key.toList=true:=Aht key (by rw[T.out];exact cn) C;have bx:decide ((j:Int)<(acc.length:Int))=true:=by simp;omega
        have a6:decide (j<acc.length)=true:=by simp;omega
        clear C;have y1:(j:Int)<(acc.length:Int):=by omega
        have y2:j<acc.length:=by omega
        have y3:(q:Int)<(l.length:Int):=by omega
        go_wp2_with (fail);go_quiet (fail);go_wp2;go_roundw
        case rel=>exact⟨j+1,_,by go_num,by omega,by first|rfl|exact World.drewN_drewN _ _ _⟩
        case measure=>simp only[intOf];omega
      . obtain rfl:j=d:=by omega
        by_cases az:j<acc.length
        . obtain⟨p,C⟩: ∃p,acc[j]? =some p:=⟨_,List.getElem?_eq_getElem (by omega)⟩;obtain⟨S,rfl,cj⟩:=bf.out j p C;have b2:Op.bytesLess p.1.toList key.toList=false:=by
           have h1:=T.out;rw[<-h1]at C;exact Ahs key C
          have bx:decide ((j:Int)<(acc.length:Int))=true:=by simp;omega
          have a6:decide (j<acc.length)=true:=by simp;omega
          clear C;have y1:(j:Int)<(acc.length:Int):=by omega
          have y3:(q:Int)<(l.length:Int):=by omega
          go_wp2_with (fail);go_quiet (fail);go_wp2;go_meet;exact⟨_,rfl,by first|rfl|exact World.drewN_drewN _ _ _⟩
        . obtain rfl:j=acc.length:=by omega
          go_wp2_with (fail);go_quiet (fail);go_wp2;go_meet;exact⟨_,rfl,by first|rfl|exact World.drewN_drewN _ _ _⟩
    case rest=>
     obtain⟨n,rfl,rfl⟩:=hcut;go_upto_region 8 with(fail);go_cut [54] (fun c wx=>c=.bool (E6 key acc)/\ ∃n,wx=wo.drewN n)
     case first=>
      clear A I D U HX ah ai ag HL;by_cases az:d<acc.length
      . obtain⟨p,C⟩: ∃p,acc[d]? =some p:=⟨_,List.getElem?_eq_getElem az⟩;obtain⟨S,rfl,cj⟩:=bf.out d p C;have bx:decide ((d:Int)<(acc.length:Int))=true:=by simp;omega
        have a6:decide (d<acc.length)=true:=by simp;omega
        obtain⟨B,hB⟩: ∃B,(p.1.toList==key.toList)=B:=⟨_,rfl⟩;have hH:Hid (E6 key acc=B):=by
         show _=_;unfold E6;rw[T.out,C];exact hB
        clear C;have y1:(d:Int)<(acc.length:Int):=by omega
        have y3:(q:Int)<(l.length:Int):=by omega
        go_wp2_with (fail);go_quiet (fail);go_wp2;go_meet;exact⟨by rw[hH.out],_,by first|rfl|exact World.drewN_drewN _ _ _⟩
      . obtain rfl:d=acc.length:=by omega
        have hH:Hid (E6 key acc=false):=by
         show _=_;unfold E6;rw[T.out];simp
        go_wp2_with (fail);go_quiet (fail);go_wp2;go_meet;exact⟨by rw[hH.out],_,by first|rfl|exact World.drewN_drewN _ _ _⟩
     case rest=>
      obtain⟨rfl,n',rfl⟩:=hcut;obtain⟨HB,br⟩: ∃HB,E6 key acc=HB:=⟨_,rfl⟩;rw[br];have o:=U.out;rw[br]at o
      cases HB
      . have V:Hid (Bg (l.drop (q+1)) (Jw (key,x) acc)=Bg l []):=by
         show _=_;rw[<-o];simp
        clear o U;obtain⟨j0,hj,ca,cb,cc⟩:=info_parts O6;obtain⟨HJ,bb,bc,bd⟩:=hid4 hj ca cb cc;clear hj ca cb cc;obtain⟨b4,a7⟩:=E.out.reads;obtain⟨ba,a9⟩:=hid2 b4 a7;have co:acc.length<=oc:=by
         rcases E.out.2 with⟨e,_,e2⟩|⟨_,_,_,_,h,_⟩
         . rw[e];simp
         . exact h
        have cw:d<=oc:=by omega
        have cx:(d:Int)<=(oc:Int):=by omega
        clear b4 a7;go_wp2_with (at_builtin;refine Fc _ rfl (.tmp 56) (.tmp 60) 40 rfl wo.heap.size 111 j0 (.agg #[.string ⟨#[]⟩,.int .i64 0,.bool false,.int .i64 0,.string ⟨#[]⟩,.slice none 0 0,.slice none 0 0]) 7 104 Tryz.underlying40 HJ.out bb.out bc.out bd.out rfl (by omega) (.slice none 0 0) 0 [] rfl (World.ownsRow_nil _ _ _ _) wo.heap.size _ d _ (ns.take (d*7)) rfl ?c0 ?c1 ?c2 ?c3 ?c4 ?_)
        case c0=>exact(ba.out.take_ Y).drewN n'
        case c1=>exact Ai9 a9.out
        case c2=>unfold maxLen;omega
        case c3=>omega
        case c4=>exact Nat.le_refl _
        intro v1 w1 ad K aw;have M:Below wo.heap.size wo w1:=(Ox (Below.refl _ _) n').grown K (by simp) (by simp[Value.ownBlock]);have Z: ∀S,v1.ownBlock=some S->S=wo.heap.size:=by
         intro S e;rcases aw with h|h
         . rw[h]at e;simp[Value.ownBlock]at e
         . rw[h]at e;simpa using e.symm
        obtain⟨F,bk,al⟩:=hid3 ad M Z;have b7:=M.size;obtain⟨O,b',P,R,l',o'⟩:=x;obtain⟨dd,de,df,dg,b9,_,c1,c2,c3,c4,c5,c6⟩:=(ah.out.below hg (D.out.trans (M.mono (by omega)))).seven HX.out;have ch:=(M.cell (p:=⟨g,y+q*7,none⟩) (show g<_ by omega)).trans c0;have cy:=(M.cell (p:=⟨w.heap.size+1,5,none⟩) (show w.heap.size+1<_ by omega)).trans b1;have HC:=qz (ag.out _ _ w1.drew (Ab.more (show w.heap.size<=w1.drew.heap.size from(by show _<=w1.heap.size;omega)) _ _ (b9.below (Below.drew (Below.refl _ _)))) (by omega));have X:Hid (∀w4:World,Below w1.drew.heap.size w1.drew w4->w4.ownsRow wo.heap.size 111 7 v1 d (ns.take (d*7))):=by
         intro w4 h4;have h5:Below w1.heap.size w1 w4:=(Below.drew (Below.refl _ _)).trans h4;refine F.out.kept (row:=none) ⟨h5.os,h5.tape,h5.output,h5.size,fun i hi _=>h5.block i hi⟩ ?_
         cases v1.ownBlock with
         |none=>exact .inl rfl
         |some g=>exact .inr (by simp)
        have cm:g<w1.heap.size:=by omega
        clear M aw Z ad K b9 c0 b1 ah HX;go_wp2_with (fail)
        go_region_law (first|(refine step_append_lies _ (by rfl) (.tmp 62) (.tmp 75) 40 (by rfl) wo.heap.size 111 j0 (.agg #[.string ⟨#[]⟩,.int .i64 0,.bool false,.int .i64 0,.string ⟨#[]⟩,.slice none 0 0,.slice none 0 0]) 7 104 Tryz.underlying40 HJ.out bb.out bc.out bd.out rfl (by omega) v1 d (ns.take (d*7)) (by rfl) ((X.out _ be.out).alloc _) ⟨w4.heap.size,0,none⟩ 1 1 [.string key,a0,a1,a2,a3,a4,a5] (by rfl) (by rfl) (World.news_of_block (cs:= #[.string key,a0,a1,a2,a3,a4,a5]) (t:=111) (fr:=(0,0)) (heap_alloc_new w4 _)) bn.out (by omega) (by unfold maxLen;omega) (by omega) cg.out (w4.heap.size+1) (by simp) ?_;intro gg ci w5 ae L ax cv;have G:=qz ae;have k:=qz L;have am:=qz ax;clear ae L ax)|(go_simp;go_at_call 31;refine(HC.out).mono ?_;rintro e w4 ⟨⟨cz,rfl,b0,ab⟩,z⟩;obtain⟨a0,a1,a2,a3,a4,a5,rfl⟩:=Uc b0;have aq:=qz ab;have be:=qz z;have g0:w4.cell? ⟨g,y+q*7,none⟩=some (.string key):=(z.cell (p:=⟨g,y+q*7,none⟩) cm).trans ch;have bn:Hid (∀u ∈ [.string key,a0,a1,a2,a3,a4,a5],u.oneCell'=true):=(Ae4 key (ab w4 (Nat.le_refl _) (fun _ _ _=>rfl)).len.2);have cg:Hid (wo.heap.size<=(w4.alloc (.cells #[.string key,a0,a1,a2,a3,a4,a5] 111)).heap.size):=(by show _<=_;have h1:=z.size;have h3:w1.drew.heap.size=w1.heap.size:=rfl;simp;omega);clear ab z b0))
        all_goals
         have z:Below w1.heap.size w1 w4:=(Below.drew (Below.refl _ _)).trans be.out;have cq:=z.size;have bh:Below wo.heap.size wo w5:=((bk.out.trans (z.mono b7)).alloc (by omega) (.cells #[.string key,a0,a1,a2,a3,a4,a5] 111)).grown k.out (by simp;omega) (fun c hc=>by have:=al.out c hc;omega);have db:w4.heap.size+1<=w5.heap.size:=by have:=k.out.size;simpa using this
         have c9:=(G.out.lt gg rfl).1;have bj:w5.heap[w.heap.size+1]? =some (.cells #[.int .i64 6,.bool false,.int .i64 0,.string ⟨#[]⟩,.slice none 0 0,.slice Q acc.length oc] 42 (0,0)):=(bh.block _ (by omega)).trans I.out;have b5:w5.cell? ⟨w.heap.size+1,5,none⟩=some (.slice Q acc.length oc):=by rw[Lib.cell_of_heap bj];rfl
         obtain⟨a8,ce,cd⟩:=hid3 bh bj z;clear z bh bj;by_cases ay:oc=d
         all_goals
          go_wp2_with (at_builtin;refine Fc _ rfl (.tmp 77) (.tmp 81) 40 rfl wo.heap.size 111 j0 (.agg #[.string ⟨#[]⟩,.int .i64 0,.bool false,.int .i64 0,.string ⟨#[]⟩,.slice none 0 0,.slice none 0 0]) 7 104 Tryz.underlying40 HJ.out bb.out bc.out bd.out rfl (by omega) (.slice (some ⟨gg,0,none⟩) (d+1) ci) (d+1) _ rfl G.out wo.heap.size _ (acc.length - d) _ (ns.drop (d*7)) rfl ?d0 ?d1 ?d2 ?d3 ?d4 ?_)
          case d0=>
           have h:=(ba.out.below a8.out).cut Y co
           first|(rw[if_pos ay]at h;exact h)|(rw[if_neg ay]at h;exact h)
          case d1=>exact Ai8 a9.out
          case d2=>unfold maxLen;omega
          case d3=>omega
          case d4=>omega
          intro v3 w6 H m bt;have cp:=Ajt (key,.mk O b' P R l' o') acc;rw[show d+1+(acc.length - d)=(Jw (key,.mk O b' P R l' o') acc).length from by omega]at H;obtain⟨r,s,rfl,b3⟩:=Aaq H;have aa:Below wo.heap.size wo w6:=a8.out.grown m (by omega) (fun c hc=>by simp[Value.ownBlock]at hc;omega);have dc:=m.size;have ak:=(aa.block (w.heap.size+1) (by omega)).trans I.out;have f6:=Lib.frozen_of_heap ak 5;have b6:w6.cell? ⟨w.heap.size+1,5,none⟩=some (.slice Q acc.length oc):=by rw[Lib.cell_of_heap ak];rfl
          have J: ∀p:Addr,p.block≠w.heap.size+1->(w6.setCell ⟨w.heap.size+1,5,none⟩ (.slice r (Jw (key,.mk O b' P R l' o') acc).length s)).cell? p=w6.cell? p:=fun p C=>World.cell?_of_block (D8 _ _ _ _ C);have bz:=F.out.lt;have bm:=V;have cf:Hid (Below w.heap.size w (w6.setCell ⟨w.heap.size+1,5,none⟩ (.slice r (Jw (key,.mk O b' P R l' o') acc).length s))):=((D.out.trans (aa.mono (by omega))).setCell (by simp) _);have bp:Hid ((w6.setCell ⟨w.heap.size+1,5,none⟩ (.slice r (Jw (key,.mk O b' P R l' o') acc).length s)).heap[w.heap.size]? =some (.cells #[.int .i64 0,.bool false,.int .i64 0,.string ⟨#[]⟩,.slice none 0 0,.slice none 0 0] 42 (0,0))):=by
           show _=_;rw[D8 _ _ _ _ (by omega),aa.block _ (by omega)];exact A.out
          have bq:Hid ((w6.setCell ⟨w.heap.size+1,5,none⟩ (.slice r (Jw (key,.mk O b' P R l' o') acc).length s)).heap[w.heap.size+1]? =some (.cells #[.int .i64 6,.bool false,.int .i64 0,.string ⟨#[]⟩,.slice none 0 0,.slice r (Jw (key,.mk O b' P R l' o') acc).length s] 42 (0,0))):=by
           show _=_;rw[Ft ak];rfl
          have b8:(w6.setCell ⟨w.heap.size+1,5,none⟩ (.slice r (Jw (key,.mk O b' P R l' o') acc).length s)).heap.size=w6.heap.size:=by simp[World.setCell]
          have hR:=FrR.put (key:=key) (b:=w.heap.size+2) (wo:=wo) (w1:=w1.drew) (w4:=w4) (w6:=(w6.setCell ⟨w.heap.size+1,5,none⟩ (.slice r (Jw (key,.mk O b' P R l' o') acc).length s))) E.out.1 aq.out (by omega) b7 cq (by omega)
           (fun p p1 p2=>(J p (by omega)).trans (aa.cell p2))
           (fun p p1 p2=>by
             have dh:w1.heap.size<=p.block:=p1;have n1:v1.ownBlock≠some p.block:=fun e=>by have:=(bz _ e).2;omega
             have n2:gg≠p.block:=fun e=>by
              rcases am.out with h|h
              . exact n1 (by rw[<-e,h])
              . omega
             rw[J p (by omega)];refine World.cell?_of_block ?_;rw[m.block p.block (by omega) (by simp[Value.ownBlock];omega),k.out.block p.block (by simp;omega) (fun e=>n1 e.symm),Lib.alloc_old w4 _ _ p2])
          rw[T.out]at hR;have bl:Hid (FrO (w.heap.size+2) (w6.setCell ⟨w.heap.size+1,5,none⟩ (.slice r (Jw (key,.mk O b' P R l' o') acc).length s)) (Jw (key,.mk O b' P R l' o') acc) r s (ns.take (d*7)++([.string key,a0,a1,a2,a3,a4,a5]++ns.drop (d*7)))):=by
           refine⟨hR, ?_⟩;rcases b3 with⟨h0,_,_⟩|⟨g3,e3,hg3,hg3',hle3,hc3⟩
           . omega
           . exact .inr ⟨g3,e3,by omega,by omega,hle3,fun j u hu=>(J _ (by show g3≠_;omega)).trans (hc3 j u hu)⟩
          have cr:w.heap.size+2<=(w6.setCell ⟨w.heap.size+1,5,none⟩ (.slice r (Jw (key,.mk O b' P R l' o') acc).length s)).heap.size:=by omega
          have bu:Af (Jw (key,.mk O b' P R l' o') acc)+Af (l.drop (q+1))<=100000000:=by
           rw[Vt];simp only[E7];omega
          clear cp hR b3 H m bt J bz b8 aa ak G k am a8 ce cd aq be F bk al HC X E D A I ba a9 b5;go_wp2;go_roundw
          case rel=>exact⟨q+1,_,_,_,_,by go_num,by omega,bm,cf,bp,bq,bl,cr,bu⟩
          case measure=>simp only[intOf];omega
      . have V:Hid (Bg l []=none):=by
         show _=_;rw[<-o];simp
        have f1:=Lib.frozen_of_heap A.out;obtain⟨d0,d1,d2,d3,d4,d5⟩:=Gd A.out;clear o U;go_wp2;refine bodyPost_ret (v:=.tuple #[.agg #[.int .i64 0,.bool false,.int .i64 0,.string ⟨#[]⟩,.slice none 0 0,.slice none 0 0],.int .i64 8]) (by simp[results,Tryz.results208,go_sem,d0,d1,d2,d3,d4,d5]) rfl ⟨?_,.inl ⟨V.out,rfl⟩⟩
        repeat (refine Below.setCell ?_ (by simp) _)
        exact Ox D.out n'
  . obtain rfl:q=l.length:=by omega
    have f:=aj.out;rw[List.drop_length]at f;have o:Hid (Bg l []=some acc):=f.symm;have HR:=qz E.out;have f1:=Lib.frozen_of_heap A.out;obtain⟨d0,d1,d2,d3,d4,d5⟩:=Gd A.out;obtain⟨e0,e1,e2,e3,e4,e5⟩:=Gd I.out;clear aj f E ag HL b1;go_wp2;obtain⟨W,hW⟩: ∃W,((((((wr.setCell ⟨w.heap.size,0,none⟩ (.int .i64 6)).setCell ⟨w.heap.size,1,none⟩ (.bool false)).setCell ⟨w.heap.size,2,none⟩ (.int .i64 0)).setCell ⟨w.heap.size,3,none⟩ (.string ⟨#[]⟩)).setCell ⟨w.heap.size,4,none⟩ (.slice none 0 0)).setCell ⟨w.heap.size,5,none⟩ (.slice Q acc.length oc))=W:=⟨_,rfl⟩;have bs: ∀c,c≠w.heap.size->W.heap[c]? =wr.heap[c]? :=by
     intro c hc;rw[<-hW];simp only[D8 _ _ _ _ hc]
    have c7:W.heap.size=wr.heap.size:=by rw[<-hW];simp[World.setCell]
    have ck:Below w.heap.size w W:=by
     rw[<-hW];exact(((((D.out.setCell (by simp) _).setCell (by simp) _).setCell (by simp) _).setCell (by simp) _).setCell (by simp) _).setCell (by simp) _
    have cl:W.heap[w.heap.size]? =some (.cells #[.int .i64 6,.bool false,.int .i64 0,.string ⟨#[]⟩,.slice none 0 0,.slice Q acc.length oc] 42 (0,0)):=by
     rw[<-hW];exact Ft (Ft (Ft (Ft (Ft (Ft A.out _) _) _) _) _) _
    obtain⟨y0,y1,y2,y3,y4,y5⟩:=Gd cl;have bw:acc= []\/ ∃g,Q=some ⟨g,0,none⟩/\w.heap.size<=g/\g<W.heap.size/\ ∀af:World,W.heap.size<=af.heap.size->(∀p:Addr,w.heap.size<=p.block->p.block<W.heap.size->af.cell? p=W.cell? p)->An af W.heap.size acc g 0:=by
     rcases HR.out.2 with⟨e,_,_⟩|⟨g,e,hg,hg',_,hc⟩
     . exact .inl e
     . refine .inr ⟨g,e,by omega,by omega,fun af q1 q2=> ?_⟩;have hR:=HR.out.1 af (by omega) (fun p p1 p2=>(q2 p (by omega) (by omega)).trans (World.cell?_of_block (bs p.block (by omega))));refine(Fe.more (by omega) hR).holds (fun j u hu=> ?_);rw[Nat.zero_add];exact(q2 ⟨g,j,none⟩ (by show w.heap.size<=g;omega) (by show g<_;omega)).trans ((World.cell?_of_block (bs g (by omega))).trans (hc j u hu))
    rw[hW];exact bodyPost_ret (v:=.tuple #[.agg #[.int .i64 6,.bool false,.int .i64 0,.string ⟨#[]⟩,.slice none 0 0,.slice Q acc.length oc],.int .i64 0]) (by simp[results,Tryz.results208,go_sem,y0,y1,y2,y3,y4,y5]) rfl ⟨ck,.inr ⟨acc,Q,oc,o.out,rfl,bw⟩⟩
theorem Af3 {k:ByteArray} {acc:List (ByteArray×Val)} (h:Gf k acc=false) (f:(acc.map (·.1)).Nodup) (v:Val):((acc++ [(k,v)]).map (·.1)).Nodup:=by
 rw[List.map_append,List.nodup_append];refine⟨f,by simp,fun a d b c=> ?_⟩;simp only[List.map_cons,List.map_nil,List.mem_cons,List.not_mem_nil,or_false]at c;subst c;rintro rfl;obtain⟨m,e,rfl⟩:=List.mem_map.1 d;have:Gf m.1 acc=true:=by
  unfold Gf;rw[List.any_eq_true];exact⟨m,e,by simp⟩
 rw[this]at h;cases h
theorem Yf {w:World} {B:Nat} {o:List (ByteArray×Val)} {a:Option Addr} {n c:Nat} (h:Ag w B (.row 7 (dO o)) [.slice a n c]):o= []\/ ∃g b,a=some ⟨g,b,none⟩/\g<B/\An w B o g b:=by
 obtain⟨k,l,e,_,ns,d,f⟩:=h;simp only[List.cons.injEq,Value.slice.injEq,and_true]at e;obtain⟨rfl,_,rfl⟩:=e
 cases o with
 |nil=>exact .inl rfl
 |cons m r=>
  rcases f with e|⟨g,b,e,j,i⟩
  . simp[dO]at e
  . exact .inr ⟨g,b,e,j,d.toO (fun _ _ _ q=>Be _ _ q) i⟩
theorem Xo {w w':World} {o:List (ByteArray×Val)} {b:Option Addr} {oc:Nat} (h:o= []\/ ∃g,b=some ⟨g,0,none⟩/\w.heap.size<=g/\g<w'.heap.size/\ ∀a:World,w'.heap.size<=a.heap.size->(∀p:Addr,w.heap.size<=p.block->p.block<w'.heap.size->a.cell? p=w'.cell? p)->An a w'.heap.size o g 0):
 A7 w.heap.size w' (dV (Oc o)) [.int .i64 6,.bool false,.int .i64 0,.string ⟨#[]⟩,.slice none 0 0,.slice b o.length oc]:=fun a c d=>by
 refine Fl _ _ ?_;unfold Oc;simp only[Ab];refine⟨none,0,b,oc,rfl,by simp, ?_⟩;rcases h with rfl|⟨g,e,_,f,i⟩
 . exact .inl rfl
 . exact .inr ⟨g,0,e,f,i a c d⟩
theorem RBx.grown {w W b:World} {cs:Array Value} {a:Value} (h:RBx w W cs) (t:W.grownBy b a.ownBlock) (c: ∀g,a.ownBlock=some g->w.heap.size+1<=g):RBx w b cs:=
 ⟨h.below.grown t h.below.size (fun k d=>by have:=c k d;omega),h.blk.grown t (fun e=>by have:=c _ e.symm;omega)⟩
theorem Ss: ∀(l:List (ByteArray×Val)) (m:ByteArray×Val),Af (l++ [m])=Af l+E7 m
 | [],m=>by simp[Af]
 |x::r,m=>by simp only[List.cons_append,Af,Ss r m];omega
theorem Akp (l:List (ByteArray×Val)) (m:ByteArray×Val):dO l++ [dP m]=dO (l++ [m]):=by rw[Dx,Dx];simp
structure ORf (w wr:World) (s:ByteArray) (d:Int) (RES:Rd Val) (f n j:Nat) (acc:List (ByteArray×Val)) (V:Value):Prop where
 res:RBx w wr Al
 row:C3 (w.heap.size+1) 111 7 wr (dO acc) V
 nod:(acc.map (·.1)).Nodup
 is:Bi n s.data.toList j d acc=RES
 fuel:4*(s.size - j)+2<=n
 lt:n<f
 few:acc.length<=j
 size:Af acc<=6*j
theorem Adp (b9: ∀v,Qp v) (s:ByteArray) (f:Nat) (ih: ∀f',f'<f->Aeh s f') (w:World) (k:Nat) (d:Int) (hs:s.size<=16000000) (hk:k<s.size) (hf:4*(s.size - k)<=f) (cw:0<=d) (hd:d<=64):
 Calls Tryz.prog 143 #[.string s,.int .i64 ((k+1:Nat):Int),.int .i64 d] w (Gv w (Lh f s.data.toList k d)):=by
 obtain⟨j0,hj,aw,ax,ay⟩:=info_parts Pc;obtain⟨f,rfl⟩: ∃n,f=n+1:=⟨f - 1,by omega⟩;have hP:=Bq (s:=s) (k:=k+1) (by omega);have a9:=Bv s.data.toList (k+1);have l:=fun W=>El s (k+1) W (by omega) (by omega);have aq:=RBx.start w;obtain⟨a7,E⟩: ∃r,Lh (f+1) s.data.toList k d=r:=⟨_,rfl⟩;rw[E];unfold Lh at E;have ad: ∀B,decide (s.data.toList[Ak s.data.toList (k+1)]? =some 125)=B-> ∀W,Calls Tryz.prog 207 #[.string s,.int .i64 (Ak s.data.toList (k+1):Nat),.int .u8 125] W fun e w'=>e=.returned (.bool B)/\W=w':=fun B u W=>Gq u W (by omega) hP;obtain⟨k1,b2⟩: ∃k1,k+1=k1:=⟨_,rfl⟩;rw[b2]at E hP a9 l ad ⊢;have cm:k+1<=k1:=by omega
 clear b2;generalize Ak s.data.toList k1=p1 at E hP a9 l ad
 cases u:decide (s.data.toList[p1]? =some 125)with
 |true=>
  have A:=qz (ad _ u);have hc:=u;rw[decide_eq_true_iff]at hc;rw[if_pos hc]at E;subst E;clear hc ad u;obtain⟨Hj,bs,bt,bu,Ih,S,o⟩:=hid7 hj aw ax ay ih aq l;clear hj aw ax ay ih aq l;go_enter Tryz.func143,Tryz.ntmps143;go_wp2_with (fail);generalize w.alloc (.cells Al 42)=wb at S ⊢;(with_reducible refine(o.out _).mono ?_);rintro e w1 ⟨rfl,rfl⟩;go_wp2_with (fail);(with_reducible refine(A.out _).mono ?_);rintro e w1 ⟨rfl,rfl⟩;have fz:=S.out.blk.frozen;have cz:=S.out.blk.lt;obtain⟨r0,r1,r2,r3,r4,r5⟩:=At S.out.blk;have t:=qz (S.out.many (.int .i64 6) (.bool false) (.int .i64 0) (.string ⟨#[]⟩) (.slice none 0 0) (.slice none 0 0));go_wp2;exact bodyPost_ret (Ae rfl rfl t.out.blk) rfl ⟨t.out.below,⟨_,rfl,Bz 6 false 0 _⟩⟩
 |false=>
  have C:=ad _ u;have hc:=u;rw[decide_eq_false_iff_not]at hc;rw[if_neg hc]at E;clear hc ad u;have bg:Hid (∀wb,RBx w wb Al->ORf w wb s d a7 (f+1) f p1 [] (.slice none 0 0)):=fun wb hb=>⟨hb,by simpa[dO]using C3.nil _ _ _ _,List.nodup_nil,E,by omega,by omega,by simp,by simp[Af]⟩;obtain⟨Hj,bs,bt,bu,Ih,S,o,A⟩:=hid8 hj aw ax ay ih aq l C;clear hj aw ax ay ih aq l C;clear E;go_enter Tryz.func143,Tryz.ntmps143;go_wp2_with (fail);generalize w.alloc (.cells Al 42)=wb at S ⊢;(with_reducible refine(o.out _).mono ?_);rintro e w1 ⟨rfl,rfl⟩;go_wp2_with (fail);(with_reducible refine(A.out _).mono ?_);rintro e w1 ⟨rfl,rfl⟩;go_wp2
  go_loopg [1,9] f (fun n a V wr=> ∃m j acc,m=n/\j<=s.size/\a=.int .i64 (j:Nat)/\Hid (ORf w wr s d a7 (f+1) n j acc V))
  case atStart=>exact⟨f,p1, [],rfl,hP,rfl,bg.out _ S.out⟩
  case round=>
   obtain⟨n,j,acc,rfl,hj,rfl,U⟩:=hrel;clear bg hP a9 S o A;have c0:=U.out.fuel;have c1:=U.out.lt;have cx:=U.out.few;have c4:=U.out.size;obtain⟨n,rfl⟩: ∃m,n=m+1:=⟨n - 1,by omega⟩;have hI:=U.out.res;have R:=U.out.row;have b:=U.out.is;have ab:=U.out.nod;have dl:(dO acc).length=acc.length:=Cb _;obtain⟨aV,cV,rfl⟩:=R.slice_n dl;have aa:=Yf R.now;have ba:=Bq (s:=s) (k:=j) hj;have cg:=Bv s.data.toList j;have l:=fun W=>El s j W (by omega) hj;unfold Bi at b;generalize Ak s.data.toList j=p at b ba cg l;have hU:=fun W=>T9 s p W (by omega) ba;obtain⟨r0,r1,r2,r3,r4,r5⟩:=At hI.blk;have fz:=hI.blk.frozen;have b3:=hI.blk.lt;have hw:=Eu (s:=s.data.toList) (p:=p) (by rw[Ac];exact ba)
   cases hr:Cs s.data.toList p with
   |bad c q=>
    rw[hr]at hU b hw;simp only at b;subst b;have cj:(c != 0)=true:=by have:=hw.2.2.1;simp only[bne_iff_ne,ne_eq];omega
    have D:Hid (∀W',Below wr.heap.size wr W'->RBx w W' Al):=fun _ h=>hI.later h;simp only[Ql]at hU;obtain⟨HU,HI,ah,o,a1,a2⟩:=hid6 hU hI R l aa ab;clear hU hI R l aa ab;clear hw hr U r0 r1 r2 r3 r4 r5 fz b3;go_wp2_with (fail);(with_reducible refine(o.out _).mono ?_);rintro e w1 ⟨rfl,rfl⟩;go_wp2_with (fail);(with_reducible refine(HU.out _).mono ?_);rintro e w4 ⟨rfl,G⟩;have z:=D.out w4 G;have t:=qz (z.many (.int .i64 0) (.bool false) (.int .i64 0) (.string ⟨#[]⟩) (.slice none 0 0) (.slice none 0 0));obtain⟨r0,r1,r2,r3,r4,r5⟩:=At z.blk;have a8:=z.blk.frozen;have al:=z.blk.lt;have a5:=qz z;clear z;clear G;go_wp2;exact bodyPost_ret (Ae rfl rfl t.out.blk) rfl ⟨t.out.below,rfl⟩
   |ok kl q=>
    rw[hr]at hU b hw;simp only at b;simp only[Ql]at hU;obtain⟨c7,bd⟩:=hw;rw[Ac]at bd;have cy:=(Mm hr).2;obtain⟨F,bw⟩: ∃K:ByteArray,(⟨kl.toArray⟩:ByteArray)=K:=⟨_,rfl⟩;have ct:F.size=kl.length:=by rw[<-bw];rfl
    rw[bw]at hU b;obtain⟨HU,HI,ah,o,a1,a2,X⟩:=hid7 hU hI R l aa ab b;clear hU hI R l aa ab b;clear hr U r0 r1 r2 r3 r4 r5 fz b3;go_wp2_with (fail);(with_reducible refine(o.out _).mono ?_);rintro e w1 ⟨rfl,rfl⟩;go_wp2_with (fail);(with_reducible refine(HU.out _).mono ?_);rintro e w2 ⟨rfl,au⟩;have D:=qz (HI.out.later au);have Z:=ah.out.below au;have cv:=au.size;have bk:Hid (acc= []\/ ∃g af,aV=some ⟨g,af,none⟩/\g<w2.heap.size/\An w2 w2.heap.size acc g af):=Yf Z.now;have ai:=qz Z;clear Z;clear au
    go_upto_block 2 with(fail)
    go_cut [] (fun wx=>Hid (Gf F acc=false)/\wx=w2)
    case first=>
     go_wp2_with (fail)
     go_loop [13] (fun i=> ∃x:Nat,x<=acc.length/\i=.int .i64 (x:Nat)/\Hid (Gf F (acc.take x)=false)) (fun i=>acc.length - (intOf i).toNat)
     case atStart=>exact⟨0,Nat.zero_le _,rfl,qz (by simp[Gf])⟩
     case round=>
      obtain⟨x,hx,rfl,U⟩:=hrel;have x0:(0:Int)<=(x:Int):=by omega
      by_cases Y:x<acc.length
      . obtain⟨m,hm⟩: ∃m,acc[x]? =some m:=⟨_,List.getElem?_eq_getElem Y⟩;obtain⟨g,af,rfl,hg,hO⟩: ∃g af,aV=some ⟨g,af,none⟩/\g<w2.heap.size/\An w2 w2.heap.size acc g af:=by
         rcases bk.out with h0|h
         . rw[h0]at Y;simp at Y
         . exact h
        have ck:=(hO.at_ hm).1;have x1:(x:Int)<(acc.length:Int):=by omega
        have x2:decide ((x:Int)<(acc.length:Int))=true:=decide_eq_true x1;have H:Gf F (acc.take (x+1))=(Gf F (acc.take x)||decide (m.1=F)):=by
         unfold Gf;rw[List.take_add_one,hm,Option.toList_some,List.any_append];simp
        rw[U.out,Bool.false_or]at H;by_cases he:m.1=F
        . rw[decide_eq_true he]at H;have a4:Gf F acc=true:=by
           unfold Gf at H ⊢;rw[List.any_eq_true]at H ⊢;obtain⟨y,hy,e⟩:=H;exact⟨y,List.mem_of_mem_take hy,e⟩
          have b:=X.out;rw[if_pos a4]at b;subst b;rw[he]at ck;obtain⟨r0,r1,r2,r3,r4,r5⟩:=At D.out.blk;have a8:=D.out.blk.frozen;have al:=D.out.blk.lt;have t:=qz (D.out.many (.int .i64 0) (.bool false) (.int .i64 0) (.string ⟨#[]⟩) (.slice none 0 0) (.slice none 0 0));have HO:=qz hO;clear hO;clear H a4 U hm he;go_wp2;exact bodyPost_ret (Ae rfl rfl t.out.blk) rfl ⟨t.out.below,rfl⟩
        . rw[decide_eq_false he]at H;have c2:(m.1.toList==F.toList)=false:=by
           rw[beq_eq_false_iff_ne,ByteArray.toList_eq,ByteArray.toList_eq];intro e;exact he (ByteArray.ext (Array.toList_inj.1 e))
          obtain⟨HN,HO,He⟩:=hid3 H hO he;clear hO he;clear H U hm;go_wp2
          go_round
          case rel=>exact⟨x+1,by omega,by go_num,HN⟩
          case measure=>simp[intOf];omega
      . obtain rfl:x=acc.length:=by omega
        have ak:=U.out;rw[List.take_length]at ak;have x2:decide ((acc.length:Int)<(acc.length:Int))=false:=decide_eq_false (by omega);have bo:=qz ak;clear ak;clear U;go_wp2;go_meet;exact⟨bo,rfl⟩
    obtain⟨b5,rfl⟩:=hcut;have b:=X.out;rw[if_neg (by rw[b5.out];decide)]at b;have bx:=Bq bd;have ch:=Bv s.data.toList q;have l:=fun W=>El s q W (by omega) bd;generalize Ak s.data.toList q=pq at b bx ch l;have ap: ∀B,decide (s.data.toList[pq]? =some 58)=B-> ∀W,Calls Tryz.prog 207 #[.string s,.int .i64 (pq:Nat),.int .u8 58] W fun e w'=>e=.returned (.bool B)/\W=w':=fun B u W=>Gq u W (by omega) bx;clear X HU o bk HI ah a1;have o:=qz l;clear l
    cases u:decide (s.data.toList[pq]? =some 58)with
    |false=>
     have A:=qz (ap _ u);rw[decide_eq_false_iff_not]at u;rw[if_neg u]at b;subst b;obtain⟨r0,r1,r2,r3,r4,r5⟩:=At D.out.blk;have a8:=D.out.blk.frozen;have al:=D.out.blk.lt;have t:=qz (D.out.many (.int .i64 0) (.bool false) (.int .i64 0) (.string ⟨#[]⟩) (.slice none 0 0) (.slice none 0 0));clear ap u;go_wp2_with (fail);(with_reducible refine(o.out _).mono ?_);rintro e w3 ⟨rfl,rfl⟩;go_wp2_with (fail);(with_reducible refine(A.out _).mono ?_);rintro e w3 ⟨rfl,rfl⟩;go_wp2;exact bodyPost_ret (Ae rfl rfl t.out.blk) rfl ⟨t.out.below,rfl⟩
    |true=>
     have C:=ap _ u;rw[decide_eq_true_iff]at u;rw[if_pos u]at b;have Y:=B7 u;rw[Ac]at Y;obtain⟨m,rfl⟩: ∃m,n=m+1:=⟨n - 1,by omega⟩;unfold E9 at b;have hC: ∀W,Calls Tryz.prog 84 #[.string s,.int .i64 ((pq:Int)+1),.int .i64 (d+1)] W (Gv W (Bb m s.data.toList (pq+1) (d+1))):=fun W=>by
      have:=Ih.out m (by omega) W (pq+1) (d+1) (by omega) (by omega) (by omega) (by omega)
      rwa [show((pq+1:Nat):Int)=(pq:Int)+1 by omega]at this
     have hw:=(Ee m).1 s.data.toList (pq+1) (d+1) (by rw[Ac];omega);have am:=(Wo m).1 s.data.toList (pq+1) (d+1) (by rw[Ac];omega);have cq:IntKind.i64.wrap (d+1)=d+1:=IntWalk.i64_in _ (by omega);clear ap u
     cases hr:Bb m s.data.toList (pq+1) (d+1)with
     |bad c q2=>
      rw[hr]at hC b hw;simp only at b;subst b;have cj:(c != 0)=true:=by have:=hw.2.2.1;simp only[bne_iff_ne,ne_eq];omega
      obtain⟨HC,A⟩:=hid2 hC C;clear hC C;clear hw hr am;go_wp2_with (fail);(with_reducible refine(o.out _).mono ?_);rintro e w3 ⟨rfl,rfl⟩;go_wp2_with (fail);(with_reducible refine(A.out _).mono ?_);rintro e w3 ⟨rfl,rfl⟩;go_wp2_with (fail);(with_reducible refine(HC.out _).mono ?_);rintro e w4 ⟨G,rfl⟩;have z:=D.out.later G;have t:=qz ((z.many (.int .i64 0) (.bool false) (.int .i64 0) (.string ⟨#[]⟩) (.slice none 0 0) (.slice none 0 0)).later (Aa _ (.cells Al 42)));obtain⟨r0,r1,r2,r3,r4,r5⟩:=At z.blk;have a8:=z.blk.frozen;have al:=z.blk.lt;have a5:=qz z;clear z;clear G;go_wp2;exact bodyPost_ret (Ae rfl rfl t.out.blk) rfl ⟨t.out.below,rfl⟩
     |ok v q2=>
      rw[hr]at hC b hw am;simp only at b;obtain⟨c5,bc⟩:=hw;rw[Ac]at bc;have am:=am.1;obtain⟨O,b',P,Q,l',o'⟩:=v;have H:=Akp acc (F,.mk O b' P Q l' o');have bh:Hid ((dO acc).length+1<=maxLen/\((dO acc).length+1)*104<=140737488355328):=by rw[dl];exact⟨by simp only[maxLen];omega,by omega⟩
      have bb:=Bq bc;have ci:=Bv s.data.toList q2;have T:=fun W=>El s q2 W (by omega) bc;generalize Ak s.data.toList q2=p2 at bb ci T b;have a0:Hid (∀B,decide (s.data.toList[p2]? =some 125)=B-> ∀W,Calls Tryz.prog 207 #[.string s,.int .i64 (p2:Nat),.int .u8 125] W fun e w'=>e=.returned (.bool B)/\W=w'):=fun B u W=>Gq u W (by omega) bb;have be:Hid (∀B,decide (s.data.toList[p2]? =some 44)=B-> ∀W,Calls Tryz.prog 207 #[.string s,.int .i64 (p2:Nat),.int .u8 44] W fun e w'=>e=.returned (.bool B)/\W=w'):=fun B u W=>Gq u W (by omega) bb;have bm:=qz (show Af (acc++ [(F,Val.mk O b' P Q l' o')])<=6*p2 from by rw[Ss];simp only[E7];omega);have bp:=qz (Af3 b5.out a2.out (.mk O b' P Q l' o'));have c3:=D.out.blk.lt;have cu:=D.out.below.size;obtain⟨HC,A,ce,X,ao⟩:=hid5 hC C H b T;clear hC C H b T;clear hr am;go_wp2_with (fail);(with_reducible refine(o.out _).mono ?_);rintro e w3 ⟨rfl,rfl⟩;go_wp2_with (fail);(with_reducible refine(A.out _).mono ?_);rintro e w3 ⟨rfl,rfl⟩;go_wp2_with (fail);(with_reducible refine(HC.out _).mono ?_);rintro e w4 ⟨G,cs,rfl,av⟩;obtain⟨J,L,M,N,rfl⟩:=Dc av;have z:=D.out.later G;have b8:=G.size;have bl:=qz ((G.alloc G.size (.cells #[.int .i64 O,.bool b',.int .i64 P,.string Q,.slice J l'.length L,.slice M o'.length N] 42)).alloc (by simp;omega) (.cells #[.string F,.int .i64 O,.bool b',.int .i64 P,.string Q,.slice J l'.length L,.slice M o'.length N] 111));have bn:=qz (((Js (key:=F) av).later (Aa w4 (.cells #[.int .i64 O,.bool b',.int .i64 P,.string Q,.slice J l'.length L,.slice M o'.length N] 42))).later (Aa _ (.cells #[.string F,.int .i64 O,.bool b',.int .i64 P,.string Q,.slice J l'.length L,.slice M o'.length N] 111)));have bf:=qz ((z.later (Aa w4 (.cells #[.int .i64 O,.bool b',.int .i64 P,.string Q,.slice J l'.length L,.slice M o'.length N] 42))).later (Aa _ (.cells #[.string F,.int .i64 O,.bool b',.int .i64 P,.string Q,.slice J l'.length L,.slice M o'.length N] 111)));have bq:=qz (show Bt ((w4.alloc (.cells #[.int .i64 O,.bool b',.int .i64 P,.string Q,.slice J l'.length L,.slice M o'.length N] 42)).alloc (.cells #[.string F,.int .i64 O,.bool b',.int .i64 P,.string Q,.slice J l'.length L,.slice M o'.length N] 111)) (w4.heap.size+1+1) 7 (some ⟨w4.heap.size+1,0,none⟩) 1 [.string F,.int .i64 O,.bool b',.int .i64 P,.string Q,.slice J l'.length L,.slice M o'.length N]from by simpa using Fr (w4.alloc (.cells #[.int .i64 O,.bool b',.int .i64 P,.string Q,.slice J l'.length L,.slice M o'.length N] 42)) (.string F) (.int .i64 O) (.bool b') (.int .i64 P) (.string Q) (.slice J l'.length L) (.slice M o'.length N));obtain⟨a5,ca,cb⟩:=hid3 z G av;clear z G av;go_wp2_with (at_builtin;apply Shut.out);unfold Shut;refine D4 (d:=dP (F,.mk O b' P Q l' o')) (V:=.slice aV acc.length cV) rfl (.tmp 82) (.tmp 86) 40 rfl Tryz.underlying40 Hj.out bs.out bt.out bu.out rfl (by omega) rfl ai.out (by omega) bl.out (D6 _) bn.out rfl bq.out bh.out.1 bh.out.2 ?_;intro V6 w6 I b1 bz;have ac:=qz (bf.out.grown b1 (fun r e=>(ai.out.base r e).1));rw[ce.out]at I;have bv:(dO (acc++ [(F,Val.mk O b' P Q l' o')])).length=(acc++ [(F,Val.mk O b' P Q l' o')]).length:=Cb _;obtain⟨a6,c6,rfl⟩:=I.slice_n bv;obtain⟨NL,ar⟩: ∃NL,(acc++ [(F,Val.mk O b' P Q l' o')]).length=NL:=⟨_,rfl⟩;have bj:=qz (show NL=acc.length+1 from by rw[<-ar];simp);rw[ar]at I ⊢;obtain⟨bi,aj⟩:=hid2 ar I;clear I;clear b1 bz bl bn bf bq a5 ca cb b8 bv ar;go_wp2_with (fail);(with_reducible refine(ao.out _).mono ?_);rintro e w8 ⟨rfl,rfl⟩;have cf:=ac.out.blk.frozen;have cn:=ac.out.blk.lt;obtain⟨r0,r1,r2,r3,r4,r5⟩:=At ac.out.blk
      cases u:decide (s.data.toList[p2]? =some 125)with
      |true=>
       have C:=a0.out _ u;have b:=X.out;rw[decide_eq_true_iff]at u;rw[if_neg (by rw[u];decide),if_pos u]at b;subst b;have hO:=X5 b9 (acc++ [(F,Val.mk O b' P Q l' o')]) a6 c6 w6 (Yf aj.out.now) (by have:=bm.out;omega);rw[bi.out]at hO;obtain⟨b7,_,_⟩:=Og bp.out;obtain⟨A,HO,br⟩:=hid3 C hO b7;clear C hO b7;clear u;go_wp2_with (fail);(with_reducible refine(A.out _).mono ?_);rintro e w8 ⟨rfl,rfl⟩;go_wp2_with (fail);(with_reducible refine(HO.out).mono ?_);rintro e w9 ⟨b0,⟨cl,_⟩|⟨o9,az,an,b6,rfl,b4⟩⟩
       . exact absurd (cl.symm.trans br.out) (by simp)
       . have cd:Hid (o9=Gr (acc++ [(F,Val.mk O b' P Q l' o')])):=Option.some.inj (b6.symm.trans br.out);have ae:=ac.out.later b0;have cr:=ae.blk.frozen;have co:=ae.blk.lt;obtain⟨z0,z1,z2,z3,z4,z5⟩:=At ae.blk;have t:=qz ((ae.many (.int .i64 6) (.bool false) (.int .i64 0) (.string ⟨#[]⟩) (.slice none 0 0) (.slice az o9.length an)).later (Aa _ (.cells #[.int .i64 6,.bool false,.int .i64 0,.string ⟨#[]⟩,.slice none 0 0,.slice az o9.length an] 42)));have cc:=qz (((Xo (oc:=an) b4).keep (b':=w.heap.size) (w':=A4 w9 w.heap.size 0 [.int .i64 6,.bool false,.int .i64 0,.string ⟨#[]⟩,.slice none 0 0,.slice az o9.length an]) (by omega) (by rw[Ba];exact Nat.le_refl _) (fun p p1 p2=>World.cell?_of_block (Ay _ _ _ _ _ (by have c8:w6.heap.size<=p.block:=p1;omega)))).later (Aa _ (.cells #[.int .i64 6,.bool false,.int .i64 0,.string ⟨#[]⟩,.slice none 0 0,.slice az o9.length an] 42)));have cp:=qz ae;clear ae;clear b0 b6 b4 r0 r1 r2 r3 r4 r5 cf;go_wp2;exact bodyPost_ret (Ae rfl rfl t.out.blk) rfl ⟨t.out.below,⟨_,rfl,by rw[<-cd.out];exact cc.out⟩⟩
      |false=>
       have C:=a0.out _ u;have b:=X.out;rw[decide_eq_false_iff_not]at u;clear X
       cases hB4:decide (s.data.toList[p2]? =some 44)with
       |true=>
        have a3:=be.out _ hB4;rw[decide_eq_true_iff]at hB4;rw[if_pos hB4]at b;have Y:=B7 hB4;rw[Ac]at Y;have HN:Hid (ORf w w6 s d a7 (f+1) m (p2+1) (acc++ [(F,Val.mk O b' P Q l' o')]) (.slice a6 NL c6)):=⟨ac.out,aj.out,bp.out,b,by omega,by omega,by rw[bi.out,bj.out];omega,by have:=bm.out;omega⟩;obtain⟨A,ag⟩:=hid2 C a3;clear C a3;clear u hB4 b;go_wp2_with (fail);(with_reducible refine(A.out _).mono ?_);rintro e w8 ⟨rfl,rfl⟩;go_wp2_with (fail);(with_reducible refine(ag.out _).mono ?_);rintro e w8 ⟨rfl,rfl⟩;go_wp2
        go_roundg m
        case measure=>omega
        case rel=>exact⟨m,_,_,rfl,by omega,by go_num,HN⟩
       |false=>
        have ag:=qz (be.out _ hB4);rw[decide_eq_false_iff_not]at hB4;rw[if_neg hB4,if_neg u]at b;subst b;have t:=qz (ac.out.many (.int .i64 0) (.bool false) (.int .i64 0) (.string ⟨#[]⟩) (.slice none 0 0) (.slice none 0 0));have A:=qz C;clear C;clear u hB4;go_wp2_with (fail);(with_reducible refine(A.out _).mono ?_);rintro e w8 ⟨rfl,rfl⟩;go_wp2_with (fail);(with_reducible refine(ag.out _).mono ?_);rintro e w8 ⟨rfl,rfl⟩;go_wp2;exact bodyPost_ret (Ae rfl rfl t.out.blk) rfl ⟨t.out.below,rfl⟩
theorem Adf {s t:ByteArray} {k:Nat} (_h:k+t.size<=s.size):((s.extract k (k+t.size)).toList==t.toList)=t.data.toList.isPrefixOf (s.data.toList.drop k):=by
 have a:(s.extract k (k+t.size)).toList=(s.data.toList.drop k).take t.data.toList.length:=by
  rw[ByteArray.toList_eq,Lib.extract_data,Ac,Nat.add_sub_cancel_left]
 rw[a,ByteArray.toList_eq,Bool.eq_iff_iff,beq_iff_eq,List.isPrefixOf_iff_prefix];constructor
 . intro e;rw[<-e];exact List.take_prefix _ _
 . intro e;exact(List.prefix_iff_eq_take.1 e).symm
theorem Aav {s t:ByteArray} {k:Nat} (h: ¬(k+t.size<=s.size)) (a:k<=s.size):t.data.toList.isPrefixOf (s.data.toList.drop k)=false:=by
 rw[Bool.eq_false_iff];intro e;have:=(List.isPrefixOf_iff_prefix.1 e).length_le;rw[List.length_drop,Ac,Ac]at this;omega
theorem Bh {s t:ByteArray} {k:Nat} {B:Bool} (h:t.data.toList.isPrefixOf (s.data.toList.drop k)=B) (w:World) (g:s.size<=1000000000) (c:k<=s.size) (i:t.size<=100):
 Calls Tryz.prog 145 #[.string s,.int .i64 k,.string t] w fun e w'=>e=.returned (.bool B)/\w=w':=by
 have j:(0:Int)<=(k:Int):=by omega
 have l:(k:Int)<=(s.size:Int):=by omega
 by_cases a:k+t.size<=s.size
 . rw[<-Adf a]at h;have w1:IntKind.i64.wrap ((k:Int)+(t.size:Int))=(k:Int)+(t.size:Int):=IntWalk.i64_in _ (by omega);have f:IntKind.i64.wrap ((s.size:Int) - (k:Int))=(s.size:Int) - (k:Int):=IntWalk.i64_in _ (by omega);have d1:decide ((t.size:Int)<=(s.size:Int) - (k:Int))=true:=decide_eq_true (by omega);have d:(k:Int)<=(k:Int)+(t.size:Int):=by omega
   have m:(k:Int)+(t.size:Int)<=(s.size:Int):=by omega
   have n:((k:Int)+(t.size:Int)).toNat=k+t.size:=by omega
   clear a;go_enter Tryz.func145,Tryz.ntmps145;go_wp2;go_ret;exact⟨rfl,rfl⟩
 . have b:=Aav a c;rw[b]at h;subst h;have f:IntKind.i64.wrap ((s.size:Int) - (k:Int))=(s.size:Int) - (k:Int):=IntWalk.i64_in _ (by omega);have d1:decide ((t.size:Int)<=(s.size:Int) - (k:Int))=false:=decide_eq_false (by omega);have d: ¬((t.size:Int)<=(s.size:Int) - (k:Int)):=by omega
   clear a b;go_enter Tryz.func145,Tryz.ntmps145;go_wp2;go_ret;exact⟨rfl,rfl⟩
theorem Gv.up {w m w':World} {i:Rd Val} {e:Ending} (l:RBx w m Al) (h:Gv m i e w'): ∃(k:Int) (b:Bool) (n:Int) (t:ByteArray) (d:Option Addr) (ln f:Nat) (g:Option Addr) (on oc:Nat) (q c:Int),
 e=.returned (.tuple #[.agg #[.int .i64 k,.bool b,.int .i64 n,.string t,.slice d ln f,.slice g on oc],.int .i64 q,.int .i64 c])/\RBx w w' Al/\
 Ap (A4 w' w.heap.size 0 [.int .i64 k,.bool b,.int .i64 n,.string t,.slice d ln f,.slice g on oc]) w.heap.size 42 #[.int .i64 k,.bool b,.int .i64 n,.string t,.slice d ln f,.slice g on oc]/\
 Gv w i (.returned (.tuple #[.agg #[.int .i64 k,.bool b,.int .i64 n,.string t,.slice d ln f,.slice g on oc],.int .i64 q,.int .i64 c])) (A4 w' w.heap.size 0 [.int .i64 k,.bool b,.int .i64 n,.string t,.slice d ln f,.slice g on oc]):=by
 obtain⟨x,h⟩:=h;have a:=l.later x;have z:=l.blk.lt;have y:=l.below.size
 cases i with
 |bad c q=>
  subst h;have j:=a.many (.int .i64 0) (.bool false) (.int .i64 0) (.string ⟨#[]⟩) (.slice none 0 0) (.slice none 0 0);exact⟨0,false,0,⟨#[]⟩,none,0,0,none,0,0,q,c,rfl,a,j.blk,j.below,rfl⟩
 |ok v q=>
  obtain⟨cs,rfl,o⟩:=h;obtain⟨r,b',s,u,l',o'⟩:=v;obtain⟨d,f,g,oc,rfl⟩:=Dc o;have j:=a.many (.int .i64 r) (.bool b') (.int .i64 s) (.string u) (.slice d l'.length f) (.slice g o'.length oc);exact⟨r,b',s,u,d,l'.length,f,g,o'.length,oc,q,0,rfl,a,j.blk,j.below,_,rfl,o.keep (b':=w.heap.size) (by omega) (by rw[Ba];exact Nat.le_refl _) (fun p A C=>World.cell?_of_block (Ay _ _ _ _ _ (by have B:m.heap.size<=p.block:=A;omega)))⟩
theorem Adv (HC: ∀v,Qp v) (s:ByteArray) (hs:s.size<=16000000): ∀f,Aeh s f:=by
 intro f
 induction f using Nat.strongRecOn with
 |_ f ih=>
  intro w k d hk hf ak hd;obtain⟨f,rfl⟩: ∃n,f=n+1:=⟨f - 1,by omega⟩;have ag: ∀f',f'<f->Aeh s f':=fun f' h'=>ih f' (by omega);have hP:=Bq hk;have al:=Bv s.data.toList k;have K:=fun W=>El s k W (by omega) hk;have ab:=RBx.start w;obtain⟨a4,b⟩: ∃r,Bb (f+1) s.data.toList k d=r:=⟨_,rfl⟩;rw[b];unfold Bb at b;generalize Ak s.data.toList k=p at b hP al K;have p0:(0:Int)<=(p:Int):=by omega
  cases hc:s.data.toList[p]? with
  |none=>
   rw[hc]at b;simp only at b;subst b;have G:p=s.size:=by rw[List.getElem?_eq_none_iff,Ac]at hc;omega
   have e1:((p:Int)==(s.size:Int))=true:=by rw[G];simp
   clear ih ag hc;obtain⟨R,j,Hp⟩:=hid3 K ab G;clear K ab G;go_enter Tryz.func84,Tryz.ntmps84;go_wp2_with (fail);generalize w.alloc (.cells Al 42)=wb at j ⊢;(with_reducible refine(R.out _).mono ?_);rintro e w1 ⟨rfl,rfl⟩;obtain⟨r0,r1,r2,r3,r4,r5⟩:=At j.out.blk;have fz:=j.out.blk.frozen;have an:=j.out.blk.lt;have D:=qz (j.out.many (.int .i64 0) (.bool false) (.int .i64 0) (.string ⟨#[]⟩) (.slice none 0 0) (.slice none 0 0));go_wp2;exact bodyPost_ret (Ae rfl rfl D.out.blk) rfl ⟨D.out.below,rfl⟩
  |some c=>
   rw[hc]at b;simp only at b;have X:p<s.size:=by have:=B7 hc;rwa [Ac]at this
   have hx:s[p]=c:=by rw[Bc s X]at hc;exact Option.some.inj hc
   have a6:=Bl c;have p1:(p:Int)<(s.size:Int):=by omega
   have e1:((p:Int)==(s.size:Int))=false:=by rw[beq_eq_false_iff_ne];omega
   obtain⟨M,E⟩: ∃M,(c==45||Ck c)=M:=⟨_,rfl⟩;obtain⟨Z,i⟩: ∃Z,(!D9 c)=Z:=⟨_,rfl⟩;have q: ∀n:Nat,n<256->((c.toNat:Int)==(n:Int))=(c==UInt8.ofNat n):=fun n hn=>Ie hn;have O:((c.toNat:Int)==45)=(c==45):=q 45 (by decide);have L:((c.toNat:Int)==34)=(c==34):=q 34 (by decide);have N:((c.toNat:Int)==91)=(c==91):=q 91 (by decide);have z:((c.toNat:Int)==123)=(c==123):=q 123 (by decide);have u:((c.toNat:Int)==110)=(c==110):=q 110 (by decide);have y:((c.toNat:Int)==116)=(c==116):=q 116 (by decide);have o:((c.toNat:Int)==102)=(c==102):=q 102 (by decide);clear q;obtain⟨HM,HZ,R,j,ad,Ih,ah,Hc⟩:=hid8 E i K ab b ih ag hc;clear K ab b ih ag hc;go_enter Tryz.func84,Tryz.ntmps84;go_wp2_with (fail);generalize w.alloc (.cells Al 42)=wb at j ⊢;(with_reducible refine(R.out _).mono ?_);rintro e w1 ⟨rfl,rfl⟩;clear E i;go_upto_region 5 with(fail);go_cut [10] (fun x wx=>x=.bool M/\wx=wb)
   case first=>
    have E:=HM.out
    cases h45:(c==45)with
    |true=>
     rw[h45]at O E;simp only[Bool.true_or]at E;subst E;go_wp2;go_meet;exact⟨rfl,rfl⟩
    |false=>
     rw[h45]at O E;simp only[Bool.false_or]at E;unfold Ck at E;by_cases ai:48<=c.toNat
     . have l1:decide ((48:Int)<=(c.toNat:Int))=true:=decide_eq_true (by omega);by_cases aj:c.toNat<=57
       . have l2:decide ((c.toNat:Int)<=57)=true:=decide_eq_true (by omega);rw[decide_eq_true ⟨ai,aj⟩]at E;subst E;go_wp2;go_meet;exact⟨rfl,rfl⟩
       . have l2:decide ((c.toNat:Int)<=57)=false:=decide_eq_false (by omega);rw[decide_eq_false (fun q=>aj q.2)]at E;subst E;go_wp2;go_meet;exact⟨rfl,rfl⟩
     . have l1:decide ((48:Int)<=(c.toNat:Int))=false:=decide_eq_false (by omega);rw[decide_eq_false (fun q=>ai q.1)]at E;subst E;go_wp2;go_meet;exact⟨rfl,rfl⟩
   obtain⟨rfl,rfl⟩:=hcut;go_upto_region 6 with(fail);go_cut [61] (fun x wx=>x=.bool Z/\wx=wc)
   case first=>
    have i:=HZ.out;have E:=HM.out;unfold D9 at i
    cases M with
    |true=>
     have C:(Ck c||c==45)=true:=by rw[Bool.or_comm];exact E
     rw[C]at i;simp only[Bool.true_or,Bool.not_true]at i;subst i;clear C E;go_wp2;go_meet;exact⟨rfl,rfl⟩
    |false=>
     have C:(Ck c||c==45)=false:=by rw[Bool.or_comm];exact E
     rw[C]at i;simp only[Bool.false_or]at i;clear C E
     cases h34:(c==34)with
     |true=>
      rw[h34]at i;simp only[Bool.true_or,Bool.not_true]at i;subst i;obtain rfl:c=34:=by simpa using h34
      clear O L N z u y o;go_wp2;go_meet;exact⟨rfl,rfl⟩
     |false=>
      rw[h34]at L i;simp only[Bool.false_or]at i
      cases h91:(c==91)with
      |true=>
       rw[h91]at i;simp only[Bool.true_or,Bool.not_true]at i;subst i;obtain rfl:c=91:=by simpa using h91
       clear O L N z u y o;go_wp2;go_meet;exact⟨rfl,rfl⟩
      |false=>
       rw[h91]at N i;simp only[Bool.false_or]at i
       cases h123:(c==123)with
       |true=>
        rw[h123]at i;simp only[Bool.true_or,Bool.not_true]at i;subst i;obtain rfl:c=123:=by simpa using h123
        clear O L N z u y o;go_wp2;go_meet;exact⟨rfl,rfl⟩
       |false=>
        rw[h123]at z i;simp only[Bool.false_or]at i
        cases h110:(c==110)with
        |true=>
         rw[h110]at i;simp only[Bool.true_or,Bool.not_true]at i;subst i;obtain rfl:c=110:=by simpa using h110
         clear O L N z u y o;go_wp2;go_meet;exact⟨rfl,rfl⟩
        |false=>
         rw[h110]at u i;simp only[Bool.false_or]at i
         cases h116:(c==116)with
         |true=>
          rw[h116]at i;simp only[Bool.true_or,Bool.not_true]at i;subst i;obtain rfl:c=116:=by simpa using h116
          clear O L N z u y o;go_wp2;go_meet;exact⟨rfl,rfl⟩
         |false=>
          rw[h116]at y i;simp only[Bool.false_or]at i
          cases h102:(c==102)with
          |true=>
           rw[h102]at i;simp only[Bool.not_true]at i;subst i;obtain rfl:c=102:=by simpa using h102
           clear O L N z u y o;go_wp2;go_meet;exact⟨rfl,rfl⟩
          |false=>
           rw[h102]at o i;simp only[Bool.not_false]at i;subst i;have bb:((c.toNat:Int) != 34)=true:=by rw[bne,L];rfl
           have a9: ¬((c.toNat:Int)=34):=by have:=L;rw[beq_eq_false_iff_ne]at this;exact this
           have a7: ¬(c.toNat=34):=by omega
           have bc:((c.toNat:Int) != 91)=true:=by rw[bne,N];rfl
           have ba: ¬((c.toNat:Int)=91):=by have:=N;rw[beq_eq_false_iff_ne]at this;exact this
           have a8: ¬(c.toNat=91):=by omega
           have a3:((c.toNat:Int) != 123)=true:=by rw[bne,z];rfl
           have az: ¬((c.toNat:Int)=123):=by have:=z;rw[beq_eq_false_iff_ne]at this;exact this
           have av: ¬(c.toNat=123):=by omega
           have a1:((c.toNat:Int) != 110)=true:=by rw[bne,u];rfl
           have ax: ¬((c.toNat:Int)=110):=by have:=u;rw[beq_eq_false_iff_ne]at this;exact this
           have ar: ¬(c.toNat=110):=by omega
           have a2:((c.toNat:Int) != 116)=true:=by rw[bne,y];rfl
           have ay: ¬((c.toNat:Int)=116):=by have:=y;rw[beq_eq_false_iff_ne]at this;exact this
           have au: ¬(c.toNat=116):=by omega
           have a0:((c.toNat:Int) != 102)=true:=by rw[bne,o];rfl
           have aw: ¬((c.toNat:Int)=102):=by have:=o;rw[beq_eq_false_iff_ne]at this;exact this
           have aq: ¬(c.toNat=102):=by omega
           go_wp2;go_meet;exact⟨rfl,rfl⟩
   obtain⟨rfl,rfl⟩:=hcut;obtain⟨r0,r1,r2,r3,r4,r5⟩:=At j.out.blk;have fz:=j.out.blk.frozen;have an:=j.out.blk.lt;have D:=qz (j.out.many (.int .i64 0) (.bool false) (.int .i64 0) (.string ⟨#[]⟩) (.slice none 0 0) (.slice none 0 0));have b:=ad.out;have i:=HZ.out;clear O L N z u y o ad
   cases Z with
   |true=>
    rw[if_pos (by simpa using i)]at b;subst b;clear i HZ HM;go_wp2;exact bodyPost_ret (Ae rfl rfl D.out.blk) rfl ⟨D.out.below,rfl⟩
   |false=>
    have C:D9 c=true:=by simpa using i
    rw[if_neg (by rw[C];decide)]at b;clear i HZ;by_cases ac:64<d
    . rw[if_pos ac]at b;subst b;have ao:decide (64<d)=true:=decide_eq_true ac;clear C HM;go_wp2;exact bodyPost_ret (Ae rfl rfl D.out.blk) rfl ⟨D.out.below,rfl⟩
    rw[if_neg ac]at b;have ao:decide (64<d)=false:=decide_eq_false ac;have ae:d<=64:=by omega
    have ap:=X
    cases M with
    |true=>
     have E:=HM.out;have af:Ck c=true\/c=45:=by simp only[Bool.or_eq_true,beq_iff_eq]at E;exact E.symm
     obtain⟨_,_,n1,n2,n3,n4,n5,n6⟩:=Ud af;rw[if_neg n1,if_neg n2,if_neg n3,if_neg n4,if_neg n5,if_neg n6]at b;have J:=Vc s p wc (by omega) X;rw[b]at J;clear E af n1 n2 n3 n4 n5 n6 C b HM;have T:=qz J;clear J;go_wp2_with (fail);(with_reducible refine(T.out).mono ?_);rintro e w4 hh;obtain⟨k',b',n',t',la,ln,lc,oa,on,oc,qq,cc,rfl,g,F,Q⟩:=Gv.up j.out hh;obtain⟨z0,z1,z2,z3,z4,z5⟩:=At g.blk;have aa:=g.blk.frozen;have S:=g.blk.lt;obtain⟨Y,P,U⟩:=hid3 g F Q;clear g F Q;clear hh r0 r1 r2 r3 r4 r5 fz;go_wp2;exact bodyPost_ret (Ae rfl rfl P.out) rfl U.out
    |false=>
     have E:=HM.out;have am:c=91\/c=123\/c=34\/c=110\/c=116\/c=102:=by
      unfold D9 at C;rw[show(Ck c||c==45)=false by rw[Bool.or_comm];exact E]at C;simp only[Bool.false_or,Bool.or_eq_true,beq_iff_eq]at C;rcases C with((((h|h)|h)|h)|h)|h
      . exact Or.inr (Or.inr (Or.inl h))
      . exact Or.inl h
      . exact Or.inr (Or.inl h)
      . exact Or.inr (Or.inr (Or.inr (Or.inl h)))
      . exact Or.inr (Or.inr (Or.inr (Or.inr (Or.inl h))))
      . exact Or.inr (Or.inr (Or.inr (Or.inr (Or.inr (h)))))
     clear E C HM;rcases am with rfl|rfl|rfl|rfl|rfl|rfl
     . rw[if_pos rfl]at b;have J:=Aa7 s f ah.out wc p d hs X (by omega) ak ae;rw[b,show((p+1:Nat):Int)=(p:Int)+1 by omega]at J;clear b;have T:=qz J;clear J;go_wp2_with (fail);(with_reducible refine(T.out).mono ?_);rintro e w4 hh;obtain⟨k',b',n',t',la,ln,lc,oa,on,oc,qq,cc,rfl,g,F,Q⟩:=Gv.up j.out hh;obtain⟨z0,z1,z2,z3,z4,z5⟩:=At g.blk;have aa:=g.blk.frozen;have S:=g.blk.lt;obtain⟨Y,P,U⟩:=hid3 g F Q;clear g F Q;clear hh r0 r1 r2 r3 r4 r5 fz;go_wp2;exact bodyPost_ret (Ae rfl rfl P.out) rfl U.out
     . rw[if_neg (by decide),if_pos rfl]at b;have J:=Adp HC s f ah.out wc p d hs X (by omega) ak ae;rw[b,show((p+1:Nat):Int)=(p:Int)+1 by omega]at J;clear b;have T:=qz J;clear J;go_wp2_with (fail);(with_reducible refine(T.out).mono ?_);rintro e w4 hh;obtain⟨k',b',n',t',la,ln,lc,oa,on,oc,qq,cc,rfl,g,F,Q⟩:=Gv.up j.out hh;obtain⟨z0,z1,z2,z3,z4,z5⟩:=At g.blk;have aa:=g.blk.frozen;have S:=g.blk.lt;obtain⟨Y,P,U⟩:=hid3 g F Q;clear g F Q;clear hh r0 r1 r2 r3 r4 r5 fz;go_wp2;exact bodyPost_ret (Ae rfl rfl P.out) rfl U.out
     . rw[if_neg (by decide),if_neg (by decide),if_pos rfl]at b;have hU:=T9 s p wc (by omega) (by omega);have hw:=Eu (s:=s.data.toList) (p:=p) (by rw[Ac];omega)
       cases hr:Cs s.data.toList p with
       |bad c2 q2=>
        rw[hr]at hU b hw;simp only[Ql]at hU;simp only[Rd.map]at b;subst b;have a5:(c2 != 0)=true:=by have:=hw.2.2.1;simp only[bne_iff_ne,ne_eq];omega
        clear hr hw;have HU:=qz hU;clear hU;go_wp2_with (fail);(with_reducible refine(HU.out).mono ?_);rintro e w4 ⟨rfl,V⟩;have g:=j.out.later V;obtain⟨z0,z1,z2,z3,z4,z5⟩:=At g.blk;have aa:=g.blk.frozen;have S:=g.blk.lt;have B:=qz (g.many (.int .i64 0) (.bool false) (.int .i64 0) (.string ⟨#[]⟩) (.slice none 0 0) (.slice none 0 0));have Y:=qz g;clear g;clear V r0 r1 r2 r3 r4 r5 fz;go_wp2;exact bodyPost_ret (Ae rfl rfl B.out.blk) rfl ⟨B.out.below,rfl⟩
       |ok a q2=>
        rw[hr]at hU b;simp only[Ql]at hU;simp only[Rd.map]at b;subst b;clear hr hw;have HU:=qz hU;clear hU;go_wp2_with (fail);(with_reducible refine(HU.out).mono ?_);rintro e w4 ⟨rfl,V⟩;have g:=j.out.later V;obtain⟨z0,z1,z2,z3,z4,z5⟩:=At g.blk;have aa:=g.blk.frozen;have S:=g.blk.lt;have B:=qz (g.many (.int .i64 4) (.bool false) (.int .i64 0) (.string ⟨a.toArray⟩) (.slice none 0 0) (.slice none 0 0));have Y:=qz g;clear g;clear V r0 r1 r2 r3 r4 r5 fz;go_wp2;exact bodyPost_ret (Ae rfl rfl B.out.blk) rfl ⟨B.out.below,⟨_,rfl,Bz 4 false 0 _⟩⟩
     . rw[if_neg (by decide),if_neg (by decide),if_neg (by decide),if_pos rfl]at b;have m:=Ep Hc.out;unfold Cp at b
       cases G:List.isPrefixOf ([110,117,108,108]:List UInt8) (s.data.toList.drop p)with
       |true=>
        rw[G]at b;rw[if_pos rfl]at b;subst b;have I:Hid (∀W,Calls Tryz.prog 145 #[.string s,.int .i64 (p:Nat),.string ⟨#[110,117,108,108]⟩] W fun e w'=>e=.returned (.bool true)/\W=w'):=fun W=>Bh (t:=⟨#[110,117,108,108]⟩) G W (by omega) (by omega) (by decide);clear m G;go_wp2_with (fail);(with_reducible refine(I.out _).mono ?_);rintro e w4 ⟨rfl,rfl⟩;have B:=qz (j.out.many (.int .i64 1) (.bool false) (.int .i64 0) (.string ⟨#[]⟩) (.slice none 0 0) (.slice none 0 0));go_wp2;exact bodyPost_ret (Ae rfl rfl B.out.blk) rfl ⟨B.out.below,⟨_,rfl,Bz 1 false 0 _⟩⟩
       |false=>
        rw[G]at b;rw[if_neg (by decide)]at b;subst b;have I:Hid (∀W,Calls Tryz.prog 145 #[.string s,.int .i64 (p:Nat),.string ⟨#[110,117,108,108]⟩] W fun e w'=>e=.returned (.bool false)/\W=w'):=fun W=>Bh (t:=⟨#[110,117,108,108]⟩) G W (by omega) (by omega) (by decide);have A:Hid (∀W,Calls Tryz.prog 145 #[.string s,.int .i64 (p:Nat),.string ⟨#[116,114,117,101]⟩] W fun e w'=>e=.returned (.bool false)/\W=w'):=fun W=>Bh (t:=⟨#[116,114,117,101]⟩) (by rw[m];rfl) W (by omega) (by omega) (by decide);have H:Hid (∀W,Calls Tryz.prog 145 #[.string s,.int .i64 (p:Nat),.string ⟨#[102,97,108,115,101]⟩] W fun e w'=>e=.returned (.bool false)/\W=w'):=fun W=>Bh (t:=⟨#[102,97,108,115,101]⟩) (by rw[m];rfl) W (by omega) (by omega) (by decide);clear m G;go_wp2_with (fail);(with_reducible refine(I.out _).mono ?_);rintro e w4 ⟨rfl,rfl⟩;go_wp2_with (fail);(with_reducible refine(A.out _).mono ?_);rintro e w4 ⟨rfl,rfl⟩;go_wp2_with (fail);(with_reducible refine(H.out _).mono ?_);rintro e w4 ⟨rfl,rfl⟩;go_wp2;exact bodyPost_ret (Ae rfl rfl D.out.blk) rfl ⟨D.out.below,rfl⟩
     . rw[if_neg (by decide),if_neg (by decide),if_neg (by decide),if_neg (by decide),if_pos rfl]at b;have m:=Ep Hc.out;unfold Cp at b
       cases G:List.isPrefixOf ([116,114,117,101]:List UInt8) (s.data.toList.drop p)with
       |true=>
        rw[G]at b;rw[if_pos rfl]at b;subst b;have l:Hid (∀W,Calls Tryz.prog 145 #[.string s,.int .i64 (p:Nat),.string ⟨#[110,117,108,108]⟩] W fun e w'=>e=.returned (.bool false)/\W=w'):=fun W=>Bh (t:=⟨#[110,117,108,108]⟩) (by rw[m];rfl) W (by omega) (by omega) (by decide);have I:Hid (∀W,Calls Tryz.prog 145 #[.string s,.int .i64 (p:Nat),.string ⟨#[116,114,117,101]⟩] W fun e w'=>e=.returned (.bool true)/\W=w'):=fun W=>Bh (t:=⟨#[116,114,117,101]⟩) G W (by omega) (by omega) (by decide);clear m G;go_wp2_with (fail);(with_reducible refine(l.out _).mono ?_);rintro e w4 ⟨rfl,rfl⟩;go_wp2_with (fail);(with_reducible refine(I.out _).mono ?_);rintro e w4 ⟨rfl,rfl⟩;have B:=qz (j.out.many (.int .i64 2) (.bool true) (.int .i64 0) (.string ⟨#[]⟩) (.slice none 0 0) (.slice none 0 0));go_wp2;exact bodyPost_ret (Ae rfl rfl B.out.blk) rfl ⟨B.out.below,⟨_,rfl,Bz 2 true 0 _⟩⟩
       |false=>
        rw[G]at b;rw[if_neg (by decide)]at b;subst b;have l:Hid (∀W,Calls Tryz.prog 145 #[.string s,.int .i64 (p:Nat),.string ⟨#[110,117,108,108]⟩] W fun e w'=>e=.returned (.bool false)/\W=w'):=fun W=>Bh (t:=⟨#[110,117,108,108]⟩) (by rw[m];rfl) W (by omega) (by omega) (by decide);have I:Hid (∀W,Calls Tryz.prog 145 #[.string s,.int .i64 (p:Nat),.string ⟨#[116,114,117,101]⟩] W fun e w'=>e=.returned (.bool false)/\W=w'):=fun W=>Bh (t:=⟨#[116,114,117,101]⟩) G W (by omega) (by omega) (by decide);have H:Hid (∀W,Calls Tryz.prog 145 #[.string s,.int .i64 (p:Nat),.string ⟨#[102,97,108,115,101]⟩] W fun e w'=>e=.returned (.bool false)/\W=w'):=fun W=>Bh (t:=⟨#[102,97,108,115,101]⟩) (by rw[m];rfl) W (by omega) (by omega) (by decide);clear m G;go_wp2_with (fail);(with_reducible refine(l.out _).mono ?_);rintro e w4 ⟨rfl,rfl⟩;go_wp2_with (fail);(with_reducible refine(I.out _).mono ?_);rintro e w4 ⟨rfl,rfl⟩;go_wp2_with (fail);(with_reducible refine(H.out _).mono ?_);rintro e w4 ⟨rfl,rfl⟩;go_wp2;exact bodyPost_ret (Ae rfl rfl D.out.blk) rfl ⟨D.out.below,rfl⟩
     . rw[if_neg (by decide),if_neg (by decide),if_neg (by decide),if_neg (by decide),if_neg (by decide),if_pos rfl]at b;have m:=Ep Hc.out;unfold Cp at b
       cases G:List.isPrefixOf ([102,97,108,115,101]:List UInt8) (s.data.toList.drop p)with
       |true=>
        rw[G]at b;rw[if_pos rfl]at b;subst b;have l:Hid (∀W,Calls Tryz.prog 145 #[.string s,.int .i64 (p:Nat),.string ⟨#[110,117,108,108]⟩] W fun e w'=>e=.returned (.bool false)/\W=w'):=fun W=>Bh (t:=⟨#[110,117,108,108]⟩) (by rw[m];rfl) W (by omega) (by omega) (by decide);have A:Hid (∀W,Calls Tryz.prog 145 #[.string s,.int .i64 (p:Nat),.string ⟨#[116,114,117,101]⟩] W fun e w'=>e=.returned (.bool false)/\W=w'):=fun W=>Bh (t:=⟨#[116,114,117,101]⟩) (by rw[m];rfl) W (by omega) (by omega) (by decide);have I:Hid (∀W,Calls Tryz.prog 145 #[.string s,.int .i64 (p:Nat),.string ⟨#[102,97,108,115,101]⟩] W fun e w'=>e=.returned (.bool true)/\W=w'):=fun W=>Bh (t:=⟨#[102,97,108,115,101]⟩) G W (by omega) (by omega) (by decide);clear m G;go_wp2_with (fail);(with_reducible refine(l.out _).mono ?_);rintro e w4 ⟨rfl,rfl⟩;go_wp2_with (fail);(with_reducible refine(A.out _).mono ?_);rintro e w4 ⟨rfl,rfl⟩;go_wp2_with (fail);(with_reducible refine(I.out _).mono ?_);rintro e w4 ⟨rfl,rfl⟩;have B:=qz (j.out.many (.int .i64 2) (.bool false) (.int .i64 0) (.string ⟨#[]⟩) (.slice none 0 0) (.slice none 0 0));go_wp2;exact bodyPost_ret (Ae rfl rfl B.out.blk) rfl ⟨B.out.below,⟨_,rfl,Bz 2 false 0 _⟩⟩
       |false=>
        rw[G]at b;rw[if_neg (by decide)]at b;subst b;have l:Hid (∀W,Calls Tryz.prog 145 #[.string s,.int .i64 (p:Nat),.string ⟨#[110,117,108,108]⟩] W fun e w'=>e=.returned (.bool false)/\W=w'):=fun W=>Bh (t:=⟨#[110,117,108,108]⟩) (by rw[m];rfl) W (by omega) (by omega) (by decide);have A:Hid (∀W,Calls Tryz.prog 145 #[.string s,.int .i64 (p:Nat),.string ⟨#[116,114,117,101]⟩] W fun e w'=>e=.returned (.bool false)/\W=w'):=fun W=>Bh (t:=⟨#[116,114,117,101]⟩) (by rw[m];rfl) W (by omega) (by omega) (by decide);have I:Hid (∀W,Calls Tryz.prog 145 #[.string s,.int .i64 (p:Nat),.string ⟨#[102,97,108,115,101]⟩] W fun e w'=>e=.returned (.bool false)/\W=w'):=fun W=>Bh (t:=⟨#[102,97,108,115,101]⟩) G W (by omega) (by omega) (by decide);clear m G;go_wp2_with (fail);(with_reducible refine(l.out _).mono ?_);rintro e w4 ⟨rfl,rfl⟩;go_wp2_with (fail);(with_reducible refine(A.out _).mono ?_);rintro e w4 ⟨rfl,rfl⟩;go_wp2_with (fail);(with_reducible refine(I.out _).mono ?_);rintro e w4 ⟨rfl,rfl⟩;go_wp2;exact bodyPost_ret (Ae rfl rfl D.out.blk) rfl ⟨D.out.below,rfl⟩
theorem Yg (K: ∀v,Qp v) (s:ByteArray) (w:World) (Q:s.size<=16000000):
 Calls Tryz.prog 41 #[.string s] w (Gv w (Eh s.data.toList)):=by
 obtain⟨L,a⟩: ∃r,Eh s.data.toList=r:=⟨_,rfl⟩;rw[a];unfold Eh at a;have z:Calls Tryz.prog 84 #[.string s,.int .i64 0,.int .i64 1] (w.alloc (.cells Al 42)) (Gv (w.alloc (.cells Al 42)) (Bb (4*s.data.toList.length+4) s.data.toList 0 1)):=by
  have:=Adv K s Q (4*s.data.toList.length+4) (w.alloc (.cells Al 42)) 0 1 (Nat.zero_le _) (by rw[Ac];omega) (by omega) (by omega);simpa using this
 have m:=RBx.start w;have h:=(Ee (4*s.data.toList.length+4)).1 s.data.toList 0 1 (Nat.zero_le _)
 cases hr:Bb (4*s.data.toList.length+4) s.data.toList 0 1 with
 |bad c q=>
  rw[hr]at a z h;simp only at a;subst a;have O:(c != 0)=true:=by have:=h.2.2.1;simp only[bne_iff_ne,ne_eq];omega
  clear h hr;obtain⟨F,o⟩:=hid2 z m;clear z m;go_enter Tryz.func41,Tryz.ntmps41;go_wp2_with (fail);(with_reducible refine(F.out).mono ?_);rintro e w4 ⟨g,rfl⟩;have b:=o.out.later g;have d:=qz ((b.many (.int .i64 0) (.bool false) (.int .i64 0) (.string ⟨#[]⟩) (.slice none 0 0) (.slice none 0 0)).later (Aa _ (.cells Al 42)));obtain⟨U,V,X,Y,Z,r5⟩:=At b.blk;have I:=b.blk.frozen;have B:=b.blk.lt;have t:=qz b;clear b;clear g;go_wp2;exact bodyPost_ret (Ae rfl rfl d.out.blk) rfl ⟨d.out.below,rfl⟩
 |ok v q=>
  rw[hr]at a z h;simp only at a;obtain⟨R,y⟩:=h;rw[Ac]at y;have P:=Bq y;have f:=fun W=>El s q W (by omega) y;generalize Ak s.data.toList q=p at a P f;obtain⟨C,b',D,E,l',o'⟩:=v;rw[Ac]at a;clear hr;obtain⟨F,o,n,u⟩:=hid4 z m a f;clear z m a f;go_enter Tryz.func41,Tryz.ntmps41;go_wp2_with (fail);(with_reducible refine(F.out).mono ?_);rintro e w4 ⟨g,cs,rfl,x⟩;obtain⟨i,j,k,l,rfl⟩:=Dc x;have b:=o.out.later g;obtain⟨U,V,X,Y,Z,r5⟩:=At b.blk;have I:=b.blk.frozen;have B:=b.blk.lt;have S:=g.size;have a:=n.out;obtain⟨t,G⟩:=hid2 b x;clear b x;clear g n;go_wp2_with (fail);(with_reducible refine(u.out _).mono ?_);rintro e w5 ⟨rfl,rfl⟩;by_cases A:p<s.size
  . rw[if_pos A]at a;subst a;have M:decide ((p:Int)<(s.size:Int))=true:=decide_eq_true (by omega);have N:(p:Int)<(s.size:Int):=by omega
    have d:=qz ((t.out.many (.int .i64 0) (.bool false) (.int .i64 0) (.string ⟨#[]⟩) (.slice none 0 0) (.slice none 0 0)).later (Aa _ (.cells #[.int .i64 C,.bool b',.int .i64 D,.string E,.slice i l'.length j,.slice k o'.length l] 42)));go_wp2;exact bodyPost_ret (Ae rfl rfl d.out.blk) rfl ⟨d.out.below,rfl⟩
  . rw[if_neg A]at a;subst a;have M:decide ((p:Int)<(s.size:Int))=false:=decide_eq_false (by omega);have N: ¬((p:Int)<(s.size:Int)):=by omega
    have d:=qz ((t.out.many (.int .i64 C) (.bool b') (.int .i64 D) (.string E) (.slice i l'.length j) (.slice k o'.length l)).later (Aa _ (.cells #[.int .i64 C,.bool b',.int .i64 D,.string E,.slice i l'.length j,.slice k o'.length l] 42)));have H:=qz ((G.out.keep (b':=w.heap.size) (w':=A4 w4 w.heap.size 0 [.int .i64 C,.bool b',.int .i64 D,.string E,.slice i l'.length j,.slice k o'.length l]) (by simp) (by rw[Ba];exact Nat.le_refl _) (fun p T p2=>World.cell?_of_block (Ay _ _ _ _ _ (by have J:(w.alloc (.cells Al 42)).heap.size<=p.block:=T;simp at J;omega)))).later (Aa _ (.cells #[.int .i64 C,.bool b',.int .i64 D,.string E,.slice i l'.length j,.slice k o'.length l] 42)));go_wp2;exact bodyPost_ret (Ae rfl rfl d.out.blk) rfl ⟨d.out.below,⟨_,rfl,H.out⟩⟩
end Go.Proofs.YtjgfchcldhmjcaaGreatDoor
