/- Parts: parse.newReader: a reader at the beginning of a text. No condition. Printed by mknewr.py. -/
import Derived.Deep.RegionHeld3
import Derived.LoopTactic
import Derived.Deep.Cut
import Derived.Test.YtobmaegpfbheoaaGreatDoorKMo11
set_option maxHeartbeats 20000000
set_option maxRecDepth 100000
namespace Go.Proofs.YtobmaegpfbheoaaGreatDoor
open Go Go.RowKit
section
variable {P:Program} {md:Region.Mode} {ops:Array Oper} {Q:Exit->Act->World->Prop} {S:World->Prop}
theorem tkH (i:Nat) {oi:Oper} {v:Value} {fuel:Nat} {listed:Array Bool} {a a':Act} {w:World} (hS:S w) (h:wpAnyH P md ops Q S fuel (listed.setIfInBounds i true) a' w)
 (hi:ops[i]? =some oi:=by rfl) (hs:Region.noSelect ops=true:=by kernel_rfl) (hf:Region.free md ops listed i=true:=by kernel_rfl) (hr:(Region.ready md ops listed).contains i=true:=by kernel_rfl)
 (hQ: ∀c a w,Q (.panic c) (a.put oi.dst v) w->Q (.panic c) a w:=by exact fun _ _ _ h=>h) (hw:Region.wanted oi (yielded ops a.tmps)=true:=by kernel_rfl)
 (hy: ∀w,S w->(execOp a.eval oi).run P w=.ok (.value v) w:=by(intro X hSw;(repeat (obtain⟨_,hSw⟩:=hSw));first|(go_simp;done)|(go_simp;with_reducible rfl)))
 (hn:a.put oi.dst v=a':=by((try simp only[Act.put,List.getElem_toArray,List.getElem_cons_succ,List.getElem_cons_zero,List.setIfInBounds_toArray,List.set_cons_zero,List.set_cons_succ]);exact rfl)):wpAnyH P md ops Q S (fuel+1) listed a w:=
 wpAnyH_take hi hs hf hr hQ (Or.inl ⟨hw,hy⟩) hS (hn▸h)
end
theorem Tj (v:Val) (cs:List Value) (w:World) (hV:Ac w w.heap.size v cs) (hb:v.bulk<=100000000):
 Calls Tryz.prog 167 #[.agg cs.toArray] w (Lg w v):=by
 obtain⟨k,b,n,t,l,o⟩:=v;simp only[Ac]at hV;obtain⟨la,lc,oa,oc,rfl,hla,hoa⟩:=hV;simp only[Val.bulk]at hb;by_cases h5:k=5
 . subst h5;exact Z6 b n t l o la oa oc lc w hla (by omega)
 by_cases h6:k=6
 . subst h6;exact Acn b n t l o la oa oc lc w hoa (by omega)
 have Hw:=qz (show within (.mk k b n t l o)= []from by simp[within,h5,h6]);have e5:(k==5)=false:=by simpa using h5
 have e6:(k==6)=false:=by simpa using h6
 clear hla hoa hb h5 h6;go_enter Tryz.func167,Tryz.ntmps167;go_wp2;go_ret;exact⟨⟨none,0,by rw[Hw.out];rfl,.inl Hw.out⟩,(Below.refl _ _).alloc (Nat.le_refl _) _⟩
theorem Ur: ∀o:List (ByteArray×Val),Jh o=Fj (o.map (·.2))
 | []=>rfl
 |(k,v)::r=>by simp only[Jh,X5,List.map_cons,Fj,Ur r]
theorem V2 (v:Val):E5 v=1+Fj (within v):=by
 obtain⟨k,b,n,t,l,o⟩:=v;simp only[E5,within];by_cases h5:k=5
 . simp[h5]
 by_cases h6:k=6
 . simp[h6,Ur]
 . simp[h5,h6,Fj]
theorem Ul: ∀o:List (ByteArray×Val),Ba (o.map (·.2))<=Au o
 | []=>by simp[Ba]
 |(k,v)::r=>by
  have:=Ul r;simp only[List.map_cons,Ba,Au,Fi];omega
theorem Z5 (v:Val):Ba (within v)<=v.bulk:=by
 obtain⟨k,b,n,t,l,o⟩:=v;have:=Ul o;simp only[within,Val.bulk]
 split
 . omega
 split
 . omega
 . simp[Ba]
def Aaj (v:Val):Prop:= ∀(cs:List Value) (w:World),Ac w w.heap.size v cs->v.bulk<=100000000->
    Calls Tryz.prog 133 #[.agg cs.toArray] w fun e w'=>e=.returned (.int .i64 (E5 v))/\Below w.heap.size w w'
theorem Ab2 (v:Val) (IH: ∀x ∈ within v,Aaj x):Aaj v:=by
 intro cs w hV hb;have hV':=hV;have hbw:=Z5 v;have hlw:=Dx (within v);have hdw:=O0 (within v) (fun x _=>K3 x);have hW0:=fun w' (h:Below w.heap.size w w')=>Tj v cs w' (Ac.more h.size _ _ (hV.below h)) hb;rw[V2];unfold Lg at hW0;generalize within v=L at*
 obtain⟨k,b,n,t,l,o⟩:=v;simp only[Ac]at hV';obtain⟨la,lc,oa,oc,rfl,_,_⟩:=hV';obtain⟨HI,HW⟩:=hid2 IH hW0;obtain⟨M,hM⟩: ∃M,Fj L=M:=⟨_,rfl⟩;rw[hM]at hdw ⊢;have H0:Hid (max 0 (Fj (L.drop 0))=M):=by show _=_;rw[List.drop_zero,hM];simp
 have HB1:Hid (Below w.heap.size w (w.alloc (.cells (Fb k b n t la l.length lc oa o.length oc).toArray 42))):=(Below.refl _ _).alloc (Nat.le_refl _) _;clear IH hW0 hM hV;go_enter Tryz.func133,Tryz.ntmps133;go_wp2_with (fail);(with_reducible refine(HW.out _ HB1.out).mono ?_);rintro e w2 ⟨⟨la',lc',rfl,hsl⟩,hb2⟩;have Hsl:=qz hsl;have HB2:=qz (HB1.out.trans (hb2.mono HB1.out.size));clear hsl hb2 HB1 HW;go_wp2_with (fail);have HBr:Hid (Below w2.heap.size w2 w2):=Below.refl _ _;go_loopw [3,5] (fun m i wr=> ∃D k:Nat,m=.int .i64 D/\i=.int .i64 k/\k<=L.length/\Hid (max D (Fj (L.drop k))=M)/\D<=M/\Hid (Below w2.heap.size w2 wr)) (fun _ i _=>L.length - (intOf i).toNat)
 case atStart=>exact⟨0,0,rfl,rfl,Nat.zero_le _,H0,Nat.zero_le _,HBr⟩
 case round=>
  obtain⟨D,k,rfl,rfl,hk,hD,hDM,hbw⟩:=hrel;clear H0 HBr;by_cases hlt:k<L.length
  . obtain⟨g,off,rfl,hg,hL⟩: ∃g off,la'=some ⟨g,off,none⟩/\g<w2.heap.size/\Ax w2 w2.heap.size L g off:=by
     rcases Hsl.out with h|h
     . rw[h]at hlt;simp at hlt
     . exact h
    obtain⟨x,hx⟩: ∃v,L[k]? =some v:=⟨_,List.getElem?_eq_getElem hlt⟩;have hmem:x ∈ L:=List.mem_of_getElem? hx;have hbv:=Ew hmem;have hdv:=K3 x;have hdrop:L.drop k=x::L.drop (k+1):=Dw hx;have hD':=hD.out;rw[hdrop]at hD';simp only[Fj]at hD';have IHx:=HI.out x hmem;have hz:=hbw.out.size;obtain⟨m,hm⟩: ∃m,E5 x=m:=⟨_,rfl⟩;obtain⟨k',b',n',t',l',o'⟩:=x;obtain⟨la',lc',oa',oc',hvs,c0,c1,c2,c3,c4,c5⟩:=(hL.below hg hbw.out).six hx;have CT:=IHx _ wr (Ac.more hz _ _ hvs) (by omega);rw[hm]at CT hD' hdv;have hCT:=qz CT;have Hn:Hid (max (max D m) (Fj (L.drop (k+1)))=M):=by show _=_;omega
    have hmM:max D m<=M:=by omega
    clear CT hD hD' hdrop IHx hm hvs hx hmem hL hg hdv hbv;by_cases hgt:D<m
    . have e1:max D m=m:=by omega
      rw[e1]at Hn hmM;clear e1;go_wp2_with (fail);(with_reducible refine hCT.out.mono ?_);rintro e w4 ⟨rfl,hb4⟩;have hbw4:=qz (hbw.out.trans (hb4.mono hz));clear hb4 hbw hCT;go_wp2;go_roundw
      case rel=>exact⟨m,k+1,rfl,by go_num,by omega,Hn,hmM,hbw4⟩
      case measure=>simp only[intOf];omega
    . have e1:max D m=D:=by omega
      rw[e1]at Hn hmM;clear e1;go_wp2_with (fail);(with_reducible refine hCT.out.mono ?_);rintro e w4 ⟨rfl,hb4⟩;have hbw4:=qz (hbw.out.trans (hb4.mono hz));clear hb4 hbw hCT;go_wp2;go_roundw
      case rel=>exact⟨D,k+1,rfl,by go_num,by omega,Hn,hmM,hbw4⟩
      case measure=>simp only[intOf];omega
  . obtain rfl:k=L.length:=by omega
    have hD':=hD.out;rw[List.drop_length]at hD';simp only[Fj]at hD';obtain rfl:D=M:=by omega
    have Hc:=qz (show(D:Int)+1=((1+D:Nat):Int)from by omega);clear hD hD';go_wp2;go_ret;exact⟨by rw[<-Hc.out];rfl,HB2.out.trans (hbw.out.mono HB2.out.size)⟩
theorem Zi: ∀v,Aaj v:=by
 refine Val.ind ?_;intro k b n t l o IHl IHo;refine Ab2 _ (fun x hx=> ?_);simp only[within]at hx
 split at hx
 . exact IHl x hx
 split at hx
 . obtain⟨m,hm,rfl⟩:=List.mem_map.1 hx;exact IHo m hm
 . cases hx
theorem Qq: ∀{l:List Val},(∀v ∈ l,∀d d':Int,Bb v d'=0->d+E5 v<=65->Bb v d=0)-> ∀{d d':Int},Ds l d'=0->(l= []\/d+Fj l<=65)->Ds l d=0
 | [],_,_,_,_,_=>by simp[Ds]
 |v::r,ih,d,d',h,hd=>by
  have hd:=hd.resolve_left (by simp);simp only[Fj]at hd;simp only[Ds]at h ⊢;by_cases h0:Bb v d'=0
  . rw[if_pos h0]at h;rw[if_pos (ih v (by simp) d d' h0 (by omega))];exact Qq (fun x hx=>ih x (by simp[hx])) h (.inr (by omega))
  . rw[if_neg h0]at h;exact absurd h h0
theorem Qr: ∀{l:List (ByteArray×Val)},(∀m ∈ l,∀d d':Int,Bb m.2 d'=0->d+E5 m.2<=65->Bb m.2 d=0)-> ∀{last:Option ByteArray} {d d':Int},C5 l last d'=0->(l= []\/d+Jh l<=65)->C5 l last d=0
 | [],_,_,_,_,_,_=>by simp[C5]
 |(key,v)::r,ih,last,d,d',h,hd=>by
  have hd:=hd.resolve_left (by simp);simp only[Jh,X5]at hd;simp only[C5]at h ⊢;by_cases h0:P8 (key,v) last d'=0
  . rw[if_pos h0]at h;have h1:P8 (key,v) last d=0:=by
     simp only[P8]at h0 ⊢;by_cases hv:Az key=true
     . rw[if_pos hv]at h0 ⊢
       cases last with
       |none=>exact ih (key,v) (by simp) d d' h0 (by simp only;omega)
       |some q=>
        simp only at h0 ⊢;by_cases hl:Th key q=true
        . rw[if_pos hl]at h0;cases h0
        . rw[if_neg hl]at h0 ⊢;exact ih (key,v) (by simp) d d' h0 (by simp only;omega)
     . rw[if_neg hv]at h0;cases h0
    rw[if_pos h1];exact Qr (fun x hx=>ih x (by simp[hx])) h (.inr (by omega))
  . rw[if_neg h0]at h;exact absurd h h0
theorem Yu: ∀(v:Val) (d d':Int),Bb v d'=0->d+E5 v<=65->Bb v d=0:=by
 refine Val.ind ?_;intro k b n t l o hl ho d d' h hd;obtain⟨h1,_,h3,h4,h5⟩:=Gx h;obtain⟨_,_,k5,k6⟩:=Qc h1;simp only[E5]at hd;have hL:Ds l (d+1)=0:=by
  refine Qq hl h4 ?_;rcases k5 with e|e
  . rw[if_pos e]at hd;exact .inr (by omega)
  . exact .inl (List.length_eq_zero_iff.1 e)
 have hO:C5 o none (d+1)=0:=by
  refine Qr ho h5 ?_;rcases k6 with e|e
  . rw[if_neg (by omega),if_pos e]at hd;exact .inr (by omega)
  . exact .inl (List.length_eq_zero_iff.1 e)
 have h64: ¬64<d:=by
  have:0<=(if k=5 then Fj l else if k=6 then Jh o else 0):=Nat.zero_le _;omega
 simp only[Bb];rw[if_neg (by rw[h1];simp),if_neg h64,if_pos h3,if_pos hL,hO]
def A7 (w:World) (g o:Nat):List Value->World
 | []=>w
 |v::r=>A7 (w.setCell ⟨g,o,none⟩ v) g (o+1) r
def Ei (cs:Array Value) (o:Nat):List Value->Array Value
 | []=>cs
 |v::r=>Ei (cs.setIfInBounds o v) (o+1) r
theorem Aw: ∀(vs:List Value) (w:World) (g o:Nat),(A7 w g o vs).heap.size=w.heap.size
 | [],_,_,_=>rfl
 |v::r,w,g,o=>by simp only[A7];rw[Aw r];simp[World.setCell]
theorem Ar: ∀(vs:List Value) (w:World) (g o c:Nat),c≠g->(A7 w g o vs).heap[c]? =w.heap[c]?
 | [],_,_,_,_,_=>rfl
 |v::r,w,g,o,c,h=>by
  simp only[A7];rw[Ar r _ _ _ _ h];simp only[World.setCell,Array.getElem?_modify];rw[if_neg (fun e=>h e.symm)]
theorem Lw: ∀(vs:List Value) {w:World} {g o:Nat} {cs:Array Value} {t:TypeId},w.heap[g]? =some (.cells cs t (0,0))->(A7 w g o vs).heap[g]? =some (.cells (Ei cs o vs) t (0,0))
 | [],_,_,_,_,_,h=>h
 |v::r,w,g,o,cs,t,h=>by
  simp only[A7,Ei];exact Lw r (by simp[World.setCell,Array.getElem?_modify,h])
theorem At {B:Nat} {a:World}: ∀(vs:List Value) {w:World} {g o:Nat},Below B a w->B<=g->Below B a (A7 w g o vs)
 | [],_,_,_,h,_=>h
 |v::r,w,g,o,h,hg=>by
  simp only[A7];exact At r (h.setCell hg _) hg
theorem Nc: ∀(vs:List Value) (cs:Array Value) (o:Nat),(Ei cs o vs).size=cs.size
 | [],_,_=>rfl
 |v::r,cs,o=>by simp only[Ei];rw[Nc r];simp
theorem Sy: ∀(vs:List Value) (cs:Array Value) (o i:Nat),o+vs.length<=cs.size->(Ei cs o vs)[i]? =if o<=i/\i<o+vs.length then vs[i - o]? else cs[i]?
 | [],cs,o,i,_=>by
   simp only[Ei,List.length_nil];rw[if_neg (by omega)]
 |v::r,cs,o,i,h=>by
  simp only[List.length_cons]at h;simp only[Ei];rw[Sy r _ _ _ (by simp;omega)];by_cases h1:o+1<=i/\i<o+1+r.length
  . rw[if_pos h1,if_pos ⟨by omega,by simp only[List.length_cons];omega⟩,show i - o=(i - (o+1))+1 from by omega,List.getElem?_cons_succ]
  . rw[if_neg h1];by_cases h2:i=o
    . subst h2;rw[if_pos ⟨Nat.le_refl _,by simp⟩];simp only[Nat.sub_self,List.getElem?_cons_zero];rw[Array.getElem?_setIfInBounds_self_of_lt (by omega)]
    . rw[if_neg (by simp only[List.length_cons];omega),Array.getElem?_setIfInBounds_ne (by omega)]
def Gg (b g:Nat) (t:TypeId) (s N:Nat) (wr:World) (l:List D):Prop:=
 b<=g/\l.length<=N/\(∀d ∈ l,d.cells=s)/\ ∃(cs:Array Value) (ns:List Value),wr.heap[g]? =some (.cells cs t (0,0))/\cs.size=N*s/\(∀(j:Nat) (u:Value),ns[j]? =some u->cs[j]? =some u)/\
  ∀w'':World,wr.heap.size<=w''.heap.size->(∀p:Addr,b<=p.block->p.block<wr.heap.size->p.block≠g->w''.cell? p=wr.cell? p)->Ah w'' wr.heap.size l ns
theorem Gg.start {b g:Nat} {t:TypeId} {s N:Nat} {wr:World} {cs:Array Value} (hb:b<=g) (hg:wr.heap[g]? =some (.cells cs t (0,0))) (hs:cs.size=N*s):Gg b g t s N wr []:=
 ⟨hb,Nat.zero_le _,fun d hd=>(by cases hd),cs, [],hg,hs,fun j u h=>(by simp at h),fun _ _ _=>rfl⟩
theorem Gg.lt {b g:Nat} {t:TypeId} {s N:Nat} {wr:World} {l:List D} (h:Gg b g t s N wr l):g<wr.heap.size:=by
 obtain⟨_,_,_,cs,ns,h4,_⟩:=h;exact(Array.getElem?_eq_some_iff.1 h4).1
theorem Gg.cell {b g:Nat} {t:TypeId} {s N:Nat} {wr:World} {l:List D} (h:Gg b g t s N wr l):(∀j,j<N*s-> ∃u,wr.cell? ⟨g,j,none⟩=some u)/\ ∀j,wr.frozen? ⟨g,j,none⟩=false:=by
 obtain⟨_,_,_,cs,ns,h4,h5,_⟩:=h;refine⟨fun j hj=> ?_,fun j=> ?_⟩
 . exact⟨cs[j],by rw[cell_of_row wr g j cs t (0,0) h4];exact Array.getElem?_eq_getElem (by omega)⟩
 . simp[World.frozen?,h4]
theorem Gg.keep {b g:Nat} {t:TypeId} {s N:Nat} {wr w':World} {l:List D} (h:Gg b g t s N wr l) (hs:wr.heap.size<=w'.heap.size) (hk: ∀i,b<=i->i<wr.heap.size->w'.heap[i]? =wr.heap[i]?):Gg b g t s N w' l:=by
 have hlt:=h.lt;obtain⟨h1,h2,h3,cs,ns,h4,h5,h6,h7⟩:=h;exact⟨h1,h2,h3,cs,ns,(hk g h1 hlt).trans h4,h5,h6,fun w'' k1 k2=>Ah.more (h7 w'' (by omega) (fun p p1 p2 p3=>(k2 p p1 (by omega) p3).trans (World.cell?_of_block (hk p.block p1 p2)))) hs⟩
theorem Gg.below {b g:Nat} {t:TypeId} {s N:Nat} {wr w':World} {l:List D} (h:Gg b g t s N wr l) (hb:Below wr.heap.size wr w'):Gg b g t s N w' l:=h.keep hb.size fun i _ hi=>hb.block i hi
theorem Gg.step {b g:Nat} {t:TypeId} {s N:Nat} {wr w4:World} {l:List D} {d:D} {cs':List Value} (h:Gg b g t s N wr l) (hl:l.length<N) (hd:d.cells=s) (hx:An wr.heap.size w4 d cs') (h4:Below wr.heap.size wr w4):
 Gg b g t s N (A7 w4 g (l.length*s) cs') (l++ [d]):=by
 have hlt:=h.lt;have h':=h.below h4;obtain⟨h1,h2,h3,cs,ns,k4,h5,h6,h7⟩:=h';have hcl:cs'.length=s:=hx.now.len.1.trans hd;have hnl:ns.length=l.length*s:=by
  have hA:=h7 w4 (Nat.le_refl _) (fun _ _ _ _=>rfl);rw[hA.len.1,Lj h3]
 have hN:l.length*s+s<=N*s:=by
  have:=Nat.mul_le_mul_right s (show l.length+1<=N by omega);rw[Nat.add_mul,Nat.one_mul]at this;exact this
 have hsz:=h4.size;refine⟨h1,by rw[List.length_append,List.length_cons,List.length_nil];omega, ?_,Ei cs (l.length*s) cs',ns++cs',Lw cs' k4,by rw[Nc];exact h5, ?_, ?_⟩
 . intro x hx';rcases List.mem_append.1 hx' with hx'|hx'
   . exact h3 x hx'
   . simp only[List.mem_cons,List.not_mem_nil,or_false]at hx';rw[hx'];exact hd
 . intro j u hj;rw[Sy cs' cs (l.length*s) j (by omega)];by_cases hjn:j<ns.length
   . rw[List.getElem?_append_left hjn]at hj;rw[if_neg (by omega)];exact h6 j u hj
   . rw[List.getElem?_append_right (by omega)]at hj;have:=(List.getElem?_eq_some_iff.1 hj).1;rw[if_pos ⟨by omega,by omega⟩,<-hnl];exact hj
 . intro w'' k1 k2;rw[Aw]at k1 k2 ⊢;have hfar: ∀p:Addr,b<=p.block->p.block<w4.heap.size->p.block≠g->w''.cell? p=w4.cell? p:=fun p p1 p2 p3=>(k2 p p1 p2 p3).trans (World.cell?_of_block (Ar cs' w4 g _ _ p3));exact(h7 w'' k1 hfar).snoc (hx w'' k1 (fun p p1 p2=>hfar p (by omega) p2 (by omega)))
theorem Gg.close {b g:Nat} {t:TypeId} {s:Nat} {wr:World} {l:List D} (h:Gg b g t s l.length wr l) (c:Nat):An b wr (.row s l) [.slice (some ⟨g,0,none⟩) l.length c]:=by
 have hlt:=h.lt;obtain⟨h1,h2,h3,cs,ns,h4,h5,h6,h7⟩:=h;intro w'' k1 k2;refine⟨_,c,rfl,h3,ns,h7 w'' k1 (fun p p1 p2 _=>k2 p p1 p2),.inr ⟨g,0,rfl,hlt,fun j u hu=> ?_⟩⟩;rw[k2 _ h1 hlt,Nat.zero_add,cell_of_row wr g j cs t (0,0) h4];exact h6 j u hu
theorem Aa (w:World) (o:Obj):Below w.heap.size w (w.alloc o):=(Below.refl _ _).alloc (Nat.le_refl _) _
theorem Afh (n:Nat):((n:Int)==0)=decide (n=0):=by rw[Bool.eq_iff_iff];simp
theorem Ox (a b:Int):(a==b)=decide (a=b):=by rw[Bool.eq_iff_iff];simp
theorem A8 {W w1:World} (hb:Below W.heap.size W w1):(∀b o,b<W.heap.size->w1.cell? ⟨b,o,none⟩=W.cell? ⟨b,o,none⟩)/\(∀b o,b<W.heap.size->w1.frozen? ⟨b,o,none⟩=W.frozen? ⟨b,o,none⟩):=
 ⟨fun b o h=>hb.cell (p:=⟨b,o,none⟩) h,fun b o h=>hb.frozen (p:=⟨b,o,none⟩) h⟩
end Go.Proofs.YtobmaegpfbheoaaGreatDoor
namespace Go.Proofs.YtobmaegpfbheoaaGreatDoor
def Aku:Nat:=3988292384
def st1 (r:Nat):Nat:=if r % 2=1 then(r / 2) ^^^ Aku else r / 2
def stN:Nat->Nat->Nat
 |0,r=>r
 |n+1,r=>stN n (st1 r)
@[irreducible] def st8 (r:Nat):Nat:=stN 8 r
end Go.Proofs.YtobmaegpfbheoaaGreatDoor
namespace Go.Proofs.YtobmaegpfbheoaaGreatDoor
open Go Go.RowKit
abbrev Mc:TypeId:=223
theorem D8:MKey Tryz.prog 5 (Value.int .u8):=Agr Tryz.underlying5
section
variable {α:Type} [DecidableEq α] {f:α->Value} {P:Program} {kt et t:TypeId} {w w':World} {g:Nat} {kv:List (α×Value)}
theorem Bp {a k:α} {v:Value} {r:List (α×Value)} (h:a≠k) (hr:C4 a r=none):C4 a ((k,v)::r)=none:=by
 simp only[C4,if_neg h];exact hr
end
structure NR (s:ByteArray) (w wr:World) (m:Option Nat) (kv:List (Int×Value)):Prop where
 below:Below w.heap.size w wr
 map:Ci (Value.int .u8) wr (w.heap.size+1) kv
 blk:Aj wr w.heap.size 225 #[.string s,.int .i64 0,.map m]
theorem NR.ins {s:ByteArray} {w wr w':World} {m:Option Nat} {kv kv':List (Int×Value)} (h:NR s w wr m kv) (hM:Ci (Value.int .u8) w' (w.heap.size+1) kv') (hg:wr.grownBy w' (some (w.heap.size+1))):NR s w w' m kv':=
 ⟨h.below.grown hg h.below.size fun k e=>by have:=Option.some.inj e;omega,hM,h.blk.grown hg (by intro e;have:=Option.some.inj e;omega)⟩
theorem NR.set {s:ByteArray} {w wr:World} {m:Option Nat} {kv:List (Int×Value)} (h:NR s w wr m kv):NR s w (wr.setCell ⟨w.heap.size,2,none⟩ (.map (some (w.heap.size+1)))) (some (w.heap.size+1)) kv:=
 ⟨h.below.setCell (Nat.le_refl _) _,h.map.setCell (by show w.heap.size+1≠w.heap.size;omega) _,by have:=h.blk.set_ 2 (.map (some (w.heap.size+1)));exact this⟩
theorem Ahn (R:Nat): ∀j:Nat,j<10->C4 (48+(j:Int)) ((KV R).take (7+j))=none/\(KV R).take (7+j)++ [(48+(j:Int),Value.func (.func 216) #[.pointer (some ⟨R,0,none⟩)] #[])]=(KV R).take (7+(j+1)):=by
 intro j hj
 match j,hj with
 |0,_|1,_|2,_|3,_|4,_|5,_|6,_|7,_|8,_|9,_=>exact⟨by simp[KV,C4],rfl⟩
theorem Rj (s:ByteArray) (w:World):Calls Tryz.prog 169 #[.string s] w fun e w'=>e=.returned (.pointer (some ⟨w.heap.size,0,none⟩))/\NR s w w' (some (w.heap.size+1)) (KV w.heap.size):=by
 have hmm:=fun W=>run_makeMap (P:=Tryz.prog) Mc W;have hS0:NR s w ((w.alloc (.cells #[.string s,.int .i64 0,.map none] 225)).alloc (.map #[] 0)) none []:=by
  have:=Ci.new (f:=Value.int .u8) (w.alloc (.cells #[.string s,.int .i64 0,.map none] 225));rw[World.size_alloc]at this;exact⟨((Below.refl _ _).alloc (Nat.le_refl _) _).alloc (by simp) _,this,(Aj.new _ _ _).alloc _⟩
 have HS0:=qz hS0;clear hS0;go_enter Tryz.func169,Tryz.ntmps169;go_upto_region 2 with(fail);go_upto_region 3 with(first
  |(((with_reducible refine Bh rfl (.tmp 9) _ _ Mc rfl D8 Tryz.underlying223 rfl HS0.out.map (k:=110) rfl rfl rfl ?_));intro w1 hM hg hs;have HS1:=qz (HS0.out.ins hM hg);(have r2:=HS1.out.blk.cell 2);(have f2:=HS1.out.blk.frozen 2);(have hlt:=HS1.out.blk.lt);clear hM hg hs HS0)
  |(((with_reducible refine Bh rfl (.tmp 9) _ _ Mc rfl D8 Tryz.underlying223 rfl HS1.out.map (k:=102) rfl rfl (Bp (by decide) rfl) ?_));intro w2 hM hg hs;have HS2:=qz (HS1.out.ins hM hg);(have r2:=HS2.out.blk.cell 2);(have f2:=HS2.out.blk.frozen 2);(have hlt:=HS2.out.blk.lt);clear hM hg hs HS1)
  |(((with_reducible refine Bh rfl (.tmp 9) _ _ Mc rfl D8 Tryz.underlying223 rfl HS2.out.map (k:=116) rfl rfl (Bp (by decide) (Bp (by decide) rfl)) ?_));intro w3 hM hg hs;have HS3:=qz (HS2.out.ins hM hg);(have r2:=HS3.out.blk.cell 2);(have f2:=HS3.out.blk.frozen 2);(have hlt:=HS3.out.blk.lt);clear hM hg hs HS2)
  |(((with_reducible refine Bh rfl (.tmp 9) _ _ Mc rfl D8 Tryz.underlying223 rfl HS3.out.map (k:=34) rfl rfl (Bp (by decide) (Bp (by decide) (Bp (by decide) rfl))) ?_));intro w4 hM hg hs;have HS4:=qz (HS3.out.ins hM hg);(have r2:=HS4.out.blk.cell 2);(have f2:=HS4.out.blk.frozen 2);(have hlt:=HS4.out.blk.lt);clear hM hg hs HS3)
  |(((with_reducible refine Bh rfl (.tmp 9) _ _ Mc rfl D8 Tryz.underlying223 rfl HS4.out.map (k:=91) rfl rfl (Bp (by decide) (Bp (by decide) (Bp (by decide) (Bp (by decide) rfl)))) ?_));intro w5 hM hg hs;have HS5:=qz (HS4.out.ins hM hg);(have r2:=HS5.out.blk.cell 2);(have f2:=HS5.out.blk.frozen 2);(have hlt:=HS5.out.blk.lt);clear hM hg hs HS4)
  |(((with_reducible refine Bh rfl (.tmp 9) _ _ Mc rfl D8 Tryz.underlying223 rfl HS5.out.map (k:=123) rfl rfl (Bp (by decide) (Bp (by decide) (Bp (by decide) (Bp (by decide) (Bp (by decide) rfl))))) ?_));intro w6 hM hg hs;have HS6:=qz (HS5.out.ins hM hg);(have r2:=HS6.out.blk.cell 2);(have f2:=HS6.out.blk.frozen 2);(have hlt:=HS6.out.blk.lt);clear hM hg hs HS5)
  |(((with_reducible refine Bh rfl (.tmp 9) _ _ Mc rfl D8 Tryz.underlying223 rfl HS6.out.map (k:=45) rfl rfl (Bp (by decide) (Bp (by decide) (Bp (by decide) (Bp (by decide) (Bp (by decide) (Bp (by decide) rfl)))))) ?_));intro w7 hM hg hs;have HS7:=qz (HS6.out.ins hM hg);(have r2:=HS7.out.blk.cell 2);(have f2:=HS7.out.blk.frozen 2);(have hlt:=HS7.out.blk.lt);clear hM hg hs HS6))
 have h0:NR s w (w7.setCell ⟨w.heap.size,2,none⟩ (.map (some (w.heap.size+1)))) (some (w.heap.size+1)) ((KV w.heap.size).take (7+0)):=HS7.out.set;generalize w7.setCell ⟨w.heap.size,2,none⟩ (.map (some (w.heap.size+1)))=w8 at h0 ⊢;clear r2 f2 hlt HS7;have H0:=qz h0;clear h0;go_wp2;go_loopw [4] (fun i wr=> ∃j:Nat,i=.int .u8 (48+(j:Int))/\j<=10/\Hid (NR s w wr (some (w.heap.size+1)) ((KV w.heap.size).take (7+j)))) (fun i _=>58 - (intOf i).toNat)
 case atStart=>exact⟨0,rfl,by omega,H0⟩
 case round=>
  obtain⟨j,rfl,hj,hh⟩:=hrel;clear H0;have c2:=hh.out.blk.cell 2;have hlt:=hh.out.blk.lt;by_cases hlt':j<10
  . obtain⟨hn,hk⟩:=Ahn w.heap.size j hlt';have l1:decide ((48:Int)+(j:Int)<=57)=true:=decide_eq_true (by omega);obtain⟨w9,hrun,hM,hg,_⟩:=Mp D8 Tryz.underlying223 hh.out.map hn (Value.func (.func 216) #[.pointer (some ⟨w.heap.size,0,none⟩)] #[]);rw[hk]at hM;have HN:=qz (hh.out.ins hM hg);clear hM hg hh hn hk;go_wp2;go_roundw
    case rel=>exact⟨j+1,by go_num,by omega,HN⟩
    case measure=>simp[intOf];omega
  . obtain rfl:j=10:=by omega
    go_wp2;go_ret;exact⟨rfl,hh.out⟩
end Go.Proofs.YtobmaegpfbheoaaGreatDoor
