/- Parts: A mutator's shape by its cells, and rows built by append whose cells are known. Plain. No condition. -/
import Derived.Test.YtobmaegpfbheoaaGreatDoorKMo27
set_option maxHeartbeats 20000000
set_option maxRecDepth 100000
namespace Go.Proofs.YtobmaegpfbheoaaGreatDoor
open Go Go.RowKit
structure KB (S:Nat->Prop) (w w':World):Prop where
 os:w'.os=w.os
 tape:w'.tape=w.tape
 output:w'.output=w.output
 size:w.heap.size<=w'.heap.size
 block: ∀k,k<w.heap.size-> ¬S k->w'.heap[k]? =w.heap[k]?
theorem KB.trans {S T:Nat->Prop} {w w1 w2:World} (h:KB S w w1) (h':KB T w1 w2) (hT: ∀k,k<w.heap.size->T k->S k):KB S w w2:=
 ⟨h'.os.trans h.os,h'.tape.trans h.tape,h'.output.trans h.output,Nat.le_trans h.size h'.size,fun k h1 h2=>(h'.block k (Nat.lt_of_lt_of_le h1 h.size) fun h3=>h2 (hT k h1 h3)).trans (h.block k h1 h2)⟩
theorem KB.of_below {S:Nat->Prop} {w w':World} (h:Below w.heap.size w w'):KB S w w':=⟨h.os,h.tape,h.output,h.size,fun k h1 _=>h.block k h1⟩
theorem KB.set {S:Nat->Prop} (w:World) (p:Addr) (hp:S p.block) (v:Value):KB S w (w.setCell p v):=⟨rfl,rfl,rfl,by simp[World.setCell],fun k _ h2=>Below.heap_setCell _ _ _ _ (fun e=>h2 (e▸hp))⟩
theorem KB.below {S:Nat->Prop} {w w':World} {B:Nat} (h:KB S w w') (hS: ∀k,S k->B<=k) (hB:B<=w.heap.size):Below B w w':=⟨h.os,h.tape,h.output,h.size,fun k h1=>h.block k (Nat.lt_of_lt_of_le h1 hB) fun h2=>Nat.lt_irrefl _ (Nat.lt_of_lt_of_le h1 (hS k h2))⟩
structure SpT (S:Nat->Prop) (w w':World):Prop where
 os:w'.os=w.os
 tape:w'.tape=w.tape
 output:w'.output=w.output
 size:w'.heap.size=w.heap.size
 out: ∀k, ¬S k->w'.heap[k]? =w.heap[k]?
 cells: ∀k t cs,Aj w k t cs-> ∃cs',Aj w' k t cs'/\cs'.size=cs.size/\(t=Af-> ∀j:Nat,j % 19≠1->cs'[j]? =cs[j]?)
theorem SpT.refl (S:Nat->Prop) (w:World):SpT S w w:=⟨rfl,rfl,rfl,rfl,fun _ _=>rfl,fun _ _ cs h=>⟨cs,h,rfl,fun _ _ _=>rfl⟩⟩
theorem SpT.trans {S:Nat->Prop} {w w1 w2:World} (h:SpT S w w1) (k:SpT S w1 w2):SpT S w w2:=by
 refine⟨k.os.trans h.os,k.tape.trans h.tape,k.output.trans h.output,k.size.trans h.size,fun i hi=>(k.out i hi).trans (h.out i hi),fun i t cs hx=> ?_⟩;obtain⟨c1,h1,h2,h3⟩:=h.cells i t cs hx;obtain⟨c2,k1,k2,k3⟩:=k.cells i t c1 h1;exact⟨c2,k1,k2.trans h2,fun e j hj=>(k3 e j hj).trans (h3 e j hj)⟩
theorem SpT.one {S:Nat->Prop} {w w':World} {g:Nat} {t:TypeId} {cs cs':Array Value} (hx:Aj w g t cs) (hx':Aj w' g t cs') (hS:S g) (hb:Below 0 w w') (hs:w'.heap.size=w.heap.size) (ho: ∀i,i≠g->w'.heap[i]? =w.heap[i]?) (hz:cs'.size=cs.size) (hm:t=Af-> ∀j:Nat,j % 19≠1->cs'[j]? =cs[j]?):SpT S w w':=by
 refine⟨hb.os,hb.tape,hb.output,hs,fun k hk=>ho k fun e=>hk (e▸hS),fun k u c h=> ?_⟩;by_cases e:k=g
 . subst e;have:=h.symm.trans hx;simp only[Option.some.injEq,Obj.cells.injEq]at this;obtain⟨rfl,rfl,_⟩:=this;exact⟨cs',hx',hz,hm⟩
 . exact⟨c,(ho k e).trans h,rfl,fun _ _ _=>rfl⟩
def Tf (S:Nat->Prop) (w:World) (t:TypeId) (s n:Nat) (V:Value):Prop:= ∃a c,V=.slice a n c/\(n=0\/ ∃g cs,a=some ⟨g,0,none⟩/\S g/\Aj w g t cs/\n*s<=cs.size)
theorem Tf.later {S S':Nat->Prop} {w w':World} {t:TypeId} {s n:Nat} {V:Value} (h:Tf S w t s n V) (k:SpT S' w w'):Tf S w' t s n V:=by
 obtain⟨a,c,rfl,h⟩:=h;refine⟨a,c,rfl,h.imp id ?_⟩;rintro⟨g,cs,rfl,hS,hx,hn⟩;obtain⟨cs',k1,k2,_⟩:=k.cells g t cs hx;exact⟨g,cs',rfl,hS,k1,by omega⟩
def Val.objs:Val->List (ByteArray×Val)| .mk _ _ _ _ _ o=>o
def Val.lst:Val->List Val| .mk _ _ _ _ l _=>l
mutual
def SpM (S:Nat->Prop) (w:World):Mut->Nat->Nat->Prop
 | .mk _ _ _ _ _ was _ v l,g,o=> ∃ca x10 x16 a c,Aj w g Af ca/\o % 19=0/\o+19<=ca.size/\ca[o+10]? =some x10/\ca[o+16]? =some x16/\ca[o+18]? =some (.slice a l.length c)/\
   Tf S w 74 7 was.objs.length x10/\Tf S w 42 6 v.lst.length x16/\(l= []\/ ∃gl,a=some ⟨gl,0,none⟩/\S gl/\L6 S w l gl 0)
def L6 (S:Nat->Prop) (w:World):List Mut->Nat->Nat->Prop
 | [],_,_=>True
 |m::r,g,i=>SpM S w m g (i*19)/\L6 S w r g (i+1)
end
theorem L6.at_ {S:Nat->Prop} {w:World} {g:Nat}: ∀{l:List Mut} {i q:Nat} {m:Mut},L6 S w l g i->l[q]? =some m->SpM S w m g ((i+q)*19)
 | [],_,_,_,_,e=>by simp at e
 |x::r,i,0,m,h,e=>by
  simp only[List.getElem?_cons_zero,Option.some.injEq]at e;subst e;unfold L6 at h;exact h.1
 |x::r,i,q+1,m,h,e=>by
  simp only[List.getElem?_cons_succ]at e;unfold L6 at h;have:=L6.at_ h.2 e
  rwa [show i+1+q=i+(q+1)by omega]at this
def Acv (m:Mut):Prop:= ∀(S S':Nat->Prop) (w w':World) (g o:Nat),SpM S w m g o->SpT S' w w'->SpM S w' m g o
theorem L6.later {S S':Nat->Prop} {w w':World} (k:SpT S' w w'): ∀{l:List Mut} {g i:Nat},(∀m ∈ l,Acv m)->L6 S w l g i->L6 S w' l g i
 | [],_,_,_,_=>by unfold L6;trivial
 |x::r,g,i,ih,h=>by
  unfold L6 at h ⊢;exact⟨ih x (by simp) S S' w w' g (i*19) h.1 k,L6.later k (fun m hm=>ih m (by simp[hm])) h.2⟩
theorem SpM.later: ∀m,Acv m:=by
 refine Mut.ind ?_;intro k key dst n had was has v l IH S S' w w' g o h hk;unfold SpM at h ⊢;obtain⟨ca,x10,x16,a,c,h1,h2,h3,h4,h5,h6,h7,h8,h9⟩:=h;obtain⟨cb,k1,k2,k3⟩:=hk.cells g _ ca h1;refine⟨cb,x10,x16,a,c,k1,h2,by omega,(k3 rfl _ (by omega)).trans h4,(k3 rfl _ (by omega)).trans h5,(k3 rfl _ (by omega)).trans h6,h7.later hk,h8.later hk,h9.imp id ?_⟩;rintro⟨gl,e,hS,hm⟩;exact⟨gl,e,hS,L6.later hk IH hm⟩
abbrev Ac8:ByteArray:=⟨#[115,112,111,105,108,116]⟩
def Ajg (m:Mut):Prop:= ∀(S:Nat->Prop) (w:World) (g o:Nat),SpM S w m g o->Bm m<=100000000->Calls Tryz.prog 16 #[.pointer (some ⟨g,o,none⟩)] w fun e w'=>e=.returned (.tuple #[])/\SpT S w w'
theorem Adj {k:Int} {b:Bool} {n:Int} {t:ByteArray} {l:List Val} {o:List (ByteArray×Val)} (h:(Val.mk k b n t l o).bulk<=100000000):l.length<=100000000/\o.length<=100000000:=by
 simp only[Val.bulk]at h;have h1:=Dx l;have h2:=C3 o;omega
theorem Ace (k:Int) (key dst:ByteArray) (n:Int) (had:Bool) (k1:Int) (b1:Bool) (n1:Int) (t1:ByteArray) (l1:List Val) (o1:List (ByteArray×Val)) (has:Bool) (k2:Int) (b2:Bool) (n2:Int) (t2:ByteArray) (l2:List Val) (o2:List (ByteArray×Val)) (l:List Mut) (ih: ∀x ∈ l,Ajg x):Ajg (Mut.mk k key dst n had (.mk k1 b1 n1 t1 l1 o1) has (.mk k2 b2 n2 t2 l2 o2) l):=by
 intro S w g o h hb;have hlt:=SpM.later (Mut.mk k key dst n had (.mk k1 b1 n1 t1 l1 o1) has (.mk k2 b2 n2 t2 l2 o2) l) S S w;simp only[Bm]at hb;have hln:=El l;obtain⟨_,ho1⟩:=Adj (k:=k1) (b:=b1) (n:=n1) (t:=t1) (l:=l1) (o:=o1) (by omega);obtain⟨hl2,_⟩:=Adj (k:=k2) (b:=b2) (n:=n2) (t:=t2) (l:=l2) (o:=o2) (by omega);have Hs0:=qz (SpT.refl S w);have HM:Hid (∀W,SpT S w W->SpM S W (Mut.mk k key dst n had (.mk k1 b1 n1 t1 l1 o1) has (.mk k2 b2 n2 t2 l2 o2) l) g o):=fun W hW=>hlt W g o h hW;obtain⟨PO,hPO⟩: ∃P:Ending->World->Prop,(fun e w'=>e=.returned (.tuple #[])/\SpT S w w')=P:=⟨_,rfl⟩;rw[hPO];obtain⟨HPO,Ih⟩:=hid2 hPO ih;clear hPO ih;clear h hlt;go_enter Tryz.func16,Tryz.ntmps16;go_wp2_with (fail);go_loopw [2] (fun i wr=> ∃q:Nat,i=.int .i64 q/\q<=l.length/\Hid (SpT S w wr)) (fun i _=>l.length - (intOf i).toNat)
 case atStart=>exact⟨0,rfl,Nat.zero_le _,Hs0⟩
 case round=>
  obtain⟨q,rfl,hq,hT⟩:=hrel;clear Hs0;have hN:=HM.out wr hT.out;unfold SpM at hN;obtain⟨ca,x10,x16,a,c,h1,h2,h3,h4,h5,h6,h7,h8,h9⟩:=hN;have c18:=(h1.cell (o+18)).trans h6;have gl0:=h1.lt;by_cases hlq:q<l.length
  . obtain⟨m,hm⟩: ∃p,l[q]? =some p:=⟨_,List.getElem?_eq_getElem hlq⟩;have hmem:=List.mem_of_getElem? hm;have hbm:=D3 hmem;obtain⟨gl,rfl,hS,hms⟩: ∃gl,a=some ⟨gl,0,none⟩/\S gl/\L6 S wr l gl 0:=h9.resolve_left (fun e=>by rw[e]at hlq;simp at hlq);have hx:=hms.at_ hm;rw[Nat.zero_add]at hx;have hC:=Ih.out m hmem S wr gl (q*19) hx (by omega);have z5:(q:Int)<(l.length:Int):=by omega
    have z6:(0:Int)<=q:=by omega
    obtain⟨HC,Hx⟩:=hid2 hC hx;clear hC hx;clear h4 h5 h7 h8 h9 hm hmem hms;go_wp2_with (fail);(with_reducible refine(HC.out).mono ?_);rintro e w4 ⟨rfl,hT4⟩;have HT5:=qz (hT.out.trans hT4);have hx4:=SpM.later m S S wr w4 gl (q*19) Hx.out hT4;have e18:=(hT4.cells g _ ca h1);obtain⟨cb2,j1,_,j3⟩:=e18;have d18:w4.cell? ⟨g,o+18,none⟩=some (.slice (some ⟨gl,0,none⟩) l.length c):=(j1.cell (o+18)).trans ((j3 rfl _ (by omega)).trans h6);obtain⟨k',key',dst',n',had',⟨k1',b1',n1',t1',l1',o1'⟩,has',⟨k2',b2',n2',t2',l2',o2'⟩,l'⟩:=m;unfold SpM at hx4;obtain⟨cc,_,_,_,_,g1,g2,g3,_⟩:=hx4;have gl4:g<w4.heap.size:=by rw[hT4.size];exact gl0
    have gll:=g1.lt;have G1:=qz g1;clear g1;clear HC hT hT4 Hx j1 j3 h1 h2 h3 h6 c18 gl0;dsimp only;go_upto_region 4 with(fail)
    iterate 23 go_step
    refine Ag 9 (.tmp 27) _ rfl gl (q*19+1) G1.out (.string Ac8) rfl rfl (by show q*19+1+1<=_;omega) (by kernel_rfl) (by simp[Value.cells,Value.oneCell']) (Below.refl 0 w4) (Nat.zero_le _) ?_;intro w5 hx5 hb5 hs5 ho5;simp only[Ei,Value.cells]at hx5;have HT5':Hid (SpT S w w5):=HT5.out.trans (SpT.one G1.out hx5 hS hb5 hs5 ho5 (by simp) (fun _ j hj=>by
     have:j≠q*19+1:=by omega
     simp[Ne.symm this]))
    clear hx5 hb5 hs5 ho5 G1 HT5;go_wp2;go_roundw
    case rel=>exact⟨q+1,by go_num,by omega,HT5'⟩
    case measure=>simp only[intOf];omega
  . obtain rfl:q=l.length:=by omega
    obtain⟨wa,hwa⟩: ∃x,x=wr:=⟨wr,rfl⟩;subst hwa;obtain⟨a2,c2,rfl,_⟩:=h8;have HTa:=hT;clear hT h2 h3 h4 h5 h7 h9;go_wp2_with (fail);clear c18 gl0 h1 h6;go_loopw [3] (fun i wr=> ∃q:Nat,i=.int .i64 q/\q<=l2.length/\Hid (SpT S w wr)) (fun i _=>l2.length - (intOf i).toNat)
    case atStart=>exact⟨0,rfl,Nat.zero_le _,HTa⟩
    case round=>
     obtain⟨q2,rfl,hq2,hT⟩:=hrel;clear HTa;have hN:=HM.out wr hT.out;unfold SpM at hN;obtain⟨cb,y10,y16,a3,c3,h1,h2,h3,h4,h5,h6,h7,h8,h9⟩:=hN;have c16:=(h1.cell (o+16)).trans h5;have gl0:=h1.lt;obtain⟨a4,c4,rfl,h8'⟩:=h8;simp only[Val.lst]at h8' c16;by_cases hlq2:q2<l2.length
     . obtain⟨gv,cv,rfl,hS,hxv,hnv⟩:=h8'.resolve_left (by omega);have z5:(q2:Int)<(l2.length:Int):=by omega
       have z6:(0:Int)<=q2:=by omega
       have gvl:=hxv.lt;have Hxv:=qz hxv;clear hxv;clear h1 h2 h3 h4 h5 h6 h7 h9;go_upto_region 8 with(fail)
       iterate 26 go_step
       refine Ag 42 (.tmp 45) (.tmp 44) rfl gv (q2*6) Hxv.out (.agg #[.int .i64 9,.bool false,.int .i64 0,.string ⟨#[]⟩,.slice none 0 0,.slice none 0 0]) rfl rfl (by show q2*6+6<=_;omega) (by kernel_rfl) (by simp[Value.cells,Value.oneCell']) (Below.refl 0 wr) (Nat.zero_le _) ?_;intro w5 hx5 hb5 hs5 ho5;have HT5:Hid (SpT S w w5):=hT.out.trans (SpT.one Hxv.out hx5 hS hb5 hs5 ho5 (Nc _ _ _) (fun e=>absurd e (by decide)));clear hx5 hb5 hs5 ho5 Hxv hT c16;go_wp2;go_roundw
       case rel=>exact⟨q2+1,by go_num,by omega,HT5⟩
       case measure=>simp only[intOf];omega
     . obtain rfl:q2=l2.length:=by omega
       obtain⟨wb,hwb⟩: ∃x,x=wr:=⟨wr,rfl⟩;subst hwb;have HTa:=hT;clear hT h2 h3 h4 h5 h6 h7 h9 h8';go_wp2_with (fail);clear c16 gl0 h1;go_loopw [4] (fun i wr=> ∃q:Nat,i=.int .i64 q/\q<=o1.length/\Hid (SpT S w wr)) (fun i _=>o1.length - (intOf i).toNat)
       case atStart=>exact⟨0,rfl,Nat.zero_le _,HTa⟩
       case round=>
        obtain⟨q3,rfl,hq3,hT⟩:=hrel;clear HTa;have hN:=HM.out wr hT.out;unfold SpM at hN;obtain⟨cb,y10,y16,a5,c5,h1,h2,h3,h4,h5,h6,h7,h8,h9⟩:=hN;have c10:=(h1.cell (o+10)).trans h4;have gl0:=h1.lt;obtain⟨a6,c6,rfl,h7'⟩:=h7;simp only[Val.objs]at h7' c10;by_cases hlq3:q3<o1.length
        . obtain⟨gv,cv,rfl,hS,hxv,hnv⟩:=h7'.resolve_left (by omega);have z5:(q3:Int)<(o1.length:Int):=by omega
          have z6:(0:Int)<=q3:=by omega
          have gvl:=hxv.lt;have Hxv:=qz hxv;clear hxv;clear h1 h2 h3 h4 h5 h6 h8 h9;go_upto_region 12 with(fail)
          iterate 26 go_step
          refine Ag 74 (.tmp 63) (.tmp 62) rfl gv (q3*7) Hxv.out (.agg #[.string Ac8,.int .i64 0,.bool false,.int .i64 0,.string ⟨#[]⟩,.slice none 0 0,.slice none 0 0]) rfl rfl (by show q3*7+7<=_;omega) (by kernel_rfl) (by simp[Value.cells,Value.oneCell']) (Below.refl 0 wr) (Nat.zero_le _) ?_;intro w5 hx5 hb5 hs5 ho5;have HT5:Hid (SpT S w w5):=hT.out.trans (SpT.one Hxv.out hx5 hS hb5 hs5 ho5 (Nc _ _ _) (fun e=>absurd e (by decide)));clear hx5 hb5 hs5 ho5 Hxv hT c10;go_wp2;go_roundw
          case rel=>exact⟨q3+1,by go_num,by omega,HT5⟩
          case measure=>simp only[intOf];omega
        . obtain rfl:q3=o1.length:=by omega
          clear h1 h2 h3 h4 h5 h6 h8 h9 h7';go_wp2;rw[<-HPO.out];exact⟨rfl,_,results_none rfl _ _ _,rfl,hT.out⟩
theorem Zx: ∀m,Ajg m:=by
 refine Mut.ind ?_;intro k key dst n had was has v l IH;obtain⟨k1,b1,n1,t1,l1,o1⟩:=was;obtain⟨k2,b2,n2,t2,l2,o2⟩:=v;exact Ace k key dst n had k1 b1 n1 t1 l1 o1 has k2 b2 n2 t2 l2 o2 l IH
def Pu (b:Nat) (t:TypeId) (s n:Nat) (w:World) (V:Value):Prop:= ∃a c,V=.slice a n c/\(n=0\/ ∃g cs,a=some ⟨g,0,none⟩/\b<=g/\Aj w g t cs/\n*s<=cs.size)
theorem Pu.keep {b b':Nat} {t:TypeId} {s n:Nat} {w w':World} {V:Value} (h:Pu b t s n w V) (hb:b'<=b) (hk: ∀g,b<=g->g<w.heap.size->w'.heap[g]? =w.heap[g]?):Pu b' t s n w' V:=by
 obtain⟨a,c,rfl,h⟩:=h;refine⟨a,c,rfl,h.imp id ?_⟩;rintro⟨g,cs,rfl,h1,h2,h3⟩;exact⟨g,cs,rfl,by omega,(hk g h1 h2.lt).trans h2,h3⟩
def VPT (t:TypeId) (w wx:World) (b1 z b3:Array Value) (l:List D) (s:Nat) (V:Value) (wr:World):Prop:=VP w wx b1 z b3 l s V wr/\Pu wx.heap.size t s l.length wr V
theorem VPT.nil {t:TypeId} {w wx wr:World} {b1 z b3:Array Value} (s:Nat) (h:VA w wx b1 z b3 wr) (a:Option Addr) (c:Nat):VPT t w wx b1 z b3 [] s (.slice a 0 c) wr:=⟨VP.nil s h a c,a,c,rfl,.inl rfl⟩
theorem Hu.doneT {w wx:World} {b1 z b3:Array Value} {g s N:Nat} {t:TypeId} {l:List D} {wr:World} (h:Hu w wx b1 z b3 g s N t l wr) (hN:l.length=N) (c:Nat):VPT t w wx b1 z b3 l s (.slice (some ⟨g,0,none⟩) N c) wr:=by
 refine⟨h.done hN c,some ⟨g,0,none⟩,c,by rw[hN],.inr ?_⟩;obtain⟨h1,_,_,cs,_,h4,h5,_⟩:=h.2;exact⟨g,cs,rfl,h1,h4,by rw[h5,hN];exact Nat.le_refl _⟩
def Gu (w:World) (v:Val) (e:Ending) (w':World):Prop:=match v with
 | .mk k b n t l o=>(∃x4 x5,e=.returned (.agg #[.int .i64 k,.bool b,.int .i64 n,.string t,x4,x5])/\An w.heap.size w' (dV (.mk k b n t l o)) [.int .i64 k,.bool b,.int .i64 n,.string t,x4,x5]/\Pu w.heap.size 42 6 l.length w' x4/\Pu w.heap.size 74 7 o.length w' x5)/\Below w.heap.size w w'
theorem Z4 (k:Int) (b:Bool) (n:Int) (t:ByteArray) (l:List Val) (o:List (ByteArray×Val)) (la oa:Option Addr) (oc lc:Nat) (w:World) (IH: ∀v ∈ l,Rw v) (IHo: ∀m ∈ o,Rw m.2)
 (hl:l= []\/ ∃g off,la=some ⟨g,off,none⟩/\g<w.heap.size/\Ax w w.heap.size l g off) (ho:o= []\/ ∃g off,oa=some ⟨g,off,none⟩/\g<w.heap.size/\A4 w w.heap.size o g off) (hbl:Ba l<=100000000) (hbo:Au o<=100000000):
 Calls Tryz.prog 34 #[.agg #[.int .i64 k,.bool b,.int .i64 n,.string t,.slice la l.length lc,.slice oa o.length oc]] w (Gu w (.mk k b n t l o)):=by
 have hln:=Dx l;have hon:=C3 o;obtain⟨i0,hi,hz0,hz1,hz2⟩:=info_parts O5;obtain⟨j0,hj,hy0,hy1,hy2⟩:=info_parts Yn;have hmk:=fun W=>Jd (P:=Tryz.prog) 39 42 i0 _ Tryz.underlying39 hi hz0 l.length (by rw[hz2];omega) (by omega) W;have hmo:=fun W=>Jd (P:=Tryz.prog) 40 74 j0 _ Tryz.underlying40 hj hy0 o.length (by rw[hy2];omega) (by omega) W;rw[hz1]at hmk;rw[hy1]at hmo;obtain⟨M1,hM1⟩: ∃M,madeCells (Value.cells (.agg #[.int .i64 0,.bool false,.int .i64 0,.string ⟨#[]⟩,.slice none 0 0,.slice none 0 0])) (l.length*6)=M:=⟨_,rfl⟩;obtain⟨M2,hM2⟩: ∃M,madeCells (Value.cells (.agg #[.string ⟨#[]⟩,.int .i64 0,.bool false,.int .i64 0,.string ⟨#[]⟩,.slice none 0 0,.slice none 0 0])) (o.length*7)=M:=⟨_,rfl⟩;simp only[hM1]at hmk;simp only[hM2]at hmo;have HS1:=qz (show M1.size=l.length*6 from by rw[<-hM1,size_madeCells]);have HS2:=qz (show M2.size=o.length*7 from by rw[<-hM2,size_madeCells]);obtain⟨HIH,HIHo,HL,HO⟩:=hid4 IH IHo hl ho;clear IH IHo hl ho hM1 hM2 hi hz0 hz1 hz2 hj hy0 hy1 hy2;go_enter Tryz.func34,Tryz.ntmps34;go_upto_if 14 with(fail);obtain⟨w0,hw0⟩: ∃w0,((w.alloc (.cells #[.int .i64 k,.bool b,.int .i64 n,.string t,.slice la l.length lc,.slice oa o.length oc] 42)).alloc (.cells #[.int .i64 0,.bool false,.int .i64 0,.string ⟨#[]⟩,.slice none 0 0,.slice none 0 0] 42)).alloc (.cells #[.int .i64 k,.bool b,.int .i64 n,.string t,.slice none 0 0,.slice none 0 0] 42)=w0:=⟨_,rfl⟩;have hA0:VA w w0 #[.int .i64 k,.bool b,.int .i64 n,.string t,.slice la l.length lc,.slice oa o.length oc] #[.int .i64 0,.bool false,.int .i64 0,.string ⟨#[]⟩,.slice none 0 0,.slice none 0 0] #[.int .i64 k,.bool b,.int .i64 n,.string t,.slice none 0 0,.slice none 0 0] w0:=by
  rw[<-hw0];refine⟨(((Below.refl _ _).alloc (Nat.le_refl _) _).alloc (by simp) _).alloc (by simp;omega) _,((Aj.new w 42 #[.int .i64 k,.bool b,.int .i64 n,.string t,.slice la l.length lc,.slice oa o.length oc]).alloc (.cells #[.int .i64 0,.bool false,.int .i64 0,.string ⟨#[]⟩,.slice none 0 0,.slice none 0 0] 42)).alloc (.cells #[.int .i64 k,.bool b,.int .i64 n,.string t,.slice none 0 0,.slice none 0 0] 42), ?_, ?_,fun _ _ _=>rfl,Nat.le_refl _,by simp⟩
  . have:=(Aj.new (w.alloc (.cells #[.int .i64 k,.bool b,.int .i64 n,.string t,.slice la l.length lc,.slice oa o.length oc] 42)) 42 #[.int .i64 0,.bool false,.int .i64 0,.string ⟨#[]⟩,.slice none 0 0,.slice none 0 0]).alloc (.cells #[.int .i64 k,.bool b,.int .i64 n,.string t,.slice none 0 0,.slice none 0 0] 42);simpa using this
  . have:=Aj.new ((w.alloc (.cells #[.int .i64 k,.bool b,.int .i64 n,.string t,.slice la l.length lc,.slice oa o.length oc] 42)).alloc (.cells #[.int .i64 0,.bool false,.int .i64 0,.string ⟨#[]⟩,.slice none 0 0,.slice none 0 0] 42)) 42 #[.int .i64 k,.bool b,.int .i64 n,.string t,.slice none 0 0,.slice none 0 0];simpa using this
 rw[hw0];clear hw0;have hsl:w.heap.size+3<=w0.heap.size:=hA0.2.2.2.2.2.2;have HA0:=qz hA0;clear hA0;go_cut [] (fun wx=> ∃a c,Hid (VPT 42 w w0 #[.int .i64 k,.bool b,.int .i64 n,.string t,.slice la l.length lc,.slice oa o.length oc] #[.int .i64 0,.bool false,.int .i64 0,.string ⟨#[]⟩,.slice none 0 0,.slice none 0 0] #[.int .i64 k,.bool b,.int .i64 n,.string t,.slice a l.length c,.slice none 0 0] (dL l) 6 (.slice a l.length c) wx))
 case first=>
  by_cases h0:l= []
  . subst h0;go_wp2;go_meet;exact⟨none,0,VPT.nil 6 HA0.out none 0⟩
  . have hpos:0<l.length:=List.length_pos_iff.2 h0;obtain⟨_,y1,y2,y3,_⟩:=HA0.out;obtain⟨b0,b1,b2,b3,b4,b5⟩:=Bd y1;obtain⟨e0,e1,e2,e3,e4,e5⟩:=Bd y3;have f3:=y3.frozen 4;have g0:w.heap.size<w0.heap.size:=by omega
    have g2:w.heap.size+2<w0.heap.size:=by omega
    obtain⟨Y1,Y2,Y3⟩:=hid3 y1 y2 y3;clear y1 y2 y3;go_wp2_with (fail);obtain⟨w1,hw1⟩: ∃w1,(w0.setCell ⟨w.heap.size+1+1,4,none⟩ (.slice (some ⟨w0.heap.size,0,none⟩) l.length l.length)).alloc (.cells M1 42)=w1:=⟨_,rfl⟩;have hV:Hu w w0 #[.int .i64 k,.bool b,.int .i64 n,.string t,.slice la l.length lc,.slice oa o.length oc] #[.int .i64 0,.bool false,.int .i64 0,.string ⟨#[]⟩,.slice none 0 0,.slice none 0 0] #[.int .i64 k,.bool b,.int .i64 n,.string t,.slice (some ⟨w0.heap.size,0,none⟩) l.length l.length,.slice none 0 0] w0.heap.size 6 l.length 42 (dL (l.take 0)) w1:=by
     rw[<-hw1];obtain⟨z1,z2,z3,z4,z5,z6,z7⟩:=HA0.out;refine⟨⟨(z1.setCell (by simp;omega) _).alloc (by simp;omega) _,(z2.far (by simp;omega) _).alloc _,(z3.far (by simp) _).alloc _,(z4.set_ 4 _).alloc _,fun c h1 h2=> ?_,by simp,z7⟩,Gg.start (Nat.le_refl _) ?_ HS1.out⟩
     . rw[Lib.alloc_old _ _ _ (by simp;omega),G9 _ _ _ _ (by omega)]
     . have:=heap_alloc_new (w0.setCell ⟨w.heap.size+1+1,4,none⟩ (.slice (some ⟨w0.heap.size,0,none⟩) l.length l.length)) (.cells M1 42);simpa using this
    have HV:=qz hV;rw[hw1];clear hw1 hV b0 b1 b2 b3 b4 b5 e0 e1 e2 e3 e4 e5 f3 HA0 Y1 Y2 Y3 HS1 HS2 hmk hmo;go_loopw [23] (fun i wr=> ∃q:Nat,i=.int .i64 q/\q<=l.length/\Hid (Hu w w0 #[.int .i64 k,.bool b,.int .i64 n,.string t,.slice la l.length lc,.slice oa o.length oc] #[.int .i64 0,.bool false,.int .i64 0,.string ⟨#[]⟩,.slice none 0 0,.slice none 0 0] #[.int .i64 k,.bool b,.int .i64 n,.string t,.slice (some ⟨w0.heap.size,0,none⟩) l.length l.length,.slice none 0 0] w0.heap.size 6 l.length 42 (dL (l.take q)) wr)) (fun i _=>l.length - (intOf i).toNat)
    case atStart=>exact⟨0,rfl,Nat.zero_le _,HV⟩
    case round=>
     obtain⟨q,rfl,hq,hv⟩:=hrel;clear HV;by_cases hlt:q<l.length
     . obtain⟨g,off,rfl,hg,hLL⟩: ∃g off,la=some ⟨g,off,none⟩/\g<w.heap.size/\Ax w w.heap.size l g off:=HL.out.resolve_left h0;obtain⟨x,hx⟩: ∃v,l[q]? =some v:=⟨_,List.getElem?_eq_getElem hlt⟩;have hmem:=List.mem_of_getElem? hx;have IHx:=HIH.out _ hmem;have hbv:=Ew hmem;have:=trivial;have htk:dL (l.take (q+1))=dL (l.take q)++ [dV x]:=by rw[List.take_add_one,hx,Fx,Fx];simp
       have hqlen:(dL (l.take q)).length=q:=by rw[Gh,List.length_take];omega
       obtain⟨⟨hbw,x1,x2,x3,hk,hsx,hw3⟩,hF⟩:=hv.out;have hz:=hbw.size;have b4:=x3.cell 4;obtain⟨k',b',n',t',l',o'⟩:=x;obtain⟨la',lc',oa',oc',hvs,c0,c1,c2,c3,c4,c5⟩:=(hLL.below hg hbw).six hx;have hC: ∀W,Below wr.heap.size wr W->Calls Tryz.prog 34 #[.agg #[.int .i64 k',.bool b',.int .i64 n',.string t',.slice la' l'.length lc',.slice oa' o'.length oc']] W (Ga W (.mk k' b' n' t' l' o')):=fun W hW=>
        IHx _ W (Ac.more (Nat.le_trans hz hW.size) _ _ (hvs.below (hW.mono hz))) (by omega)
       have hgr:g<wr.heap.size:=by omega
       have hg2:w.heap.size+2<wr.heap.size:=x3.lt;have hgl:=hF.lt;have hcell: ∀W,Below wr.heap.size wr W->(∀j,j<6-> ∃u,W.cell? ⟨w0.heap.size,q*6+j,none⟩=some u)/\(∀j,W.frozen? ⟨w0.heap.size,j,none⟩=false):=fun W hW=>by
        have h1:=(hF.below hW).cell;exact⟨fun j hj=>h1.1 _ (by omega),h1.2⟩
       have y1:(q:Int)<(l.length:Int):=by omega
       have n1:w.heap.size+2≠w0.heap.size:=by omega
       have n2:wr.heap.size≠w0.heap.size:=by omega
       have n3:=n1.symm;have n4:=n2.symm;obtain⟨HC,Hcell,Htk,Hqlen⟩:=hid4 hC hcell htk hqlen;clear hC hcell htk hqlen;clear hbw x1 x2 x3 hF hvs hx hmem IHx hLL hk hsx hw3;go_wp2_with (fail)
       go_region_held3 (fun W=>W.cell? ⟨w.heap.size+2,4,none⟩=some (.slice (some ⟨w0.heap.size,0,none⟩) l.length l.length)/\W.cell? ⟨wr.heap.size,0,none⟩=some (.int .i64 k')/\W.cell? ⟨wr.heap.size,1,none⟩=some (.bool b')/\W.cell? ⟨wr.heap.size,2,none⟩=some (.int .i64 n')/\W.cell? ⟨wr.heap.size,3,none⟩=some (.string t')/\W.cell? ⟨wr.heap.size,4,none⟩=some (.slice la' l'.length lc')/\W.cell? ⟨wr.heap.size,5,none⟩=some (.slice oa' o'.length oc')) (go_keep) (first|(go_at_call 34;refine(HC.out _ ?_).mono ?_;(exact(Below.drew ((Below.refl _ _).alloc (Nat.le_refl _) _)));rintro e w4 ⟨⟨cs4,rfl,hl4,hf4⟩,hb4⟩;obtain⟨la2,lc2,oa2,oc2,rfl⟩:=Eu hf4;have hbr:Below wr.heap.size wr w4:=((Below.drew ((Below.refl _ _).alloc (Nat.le_refl _) _)).trans (hb4.mono (by simp)));obtain⟨hd,hfz⟩:=Hcell.out w4 hbr;obtain⟨v0,d0⟩:=hd 0 (by omega);obtain⟨v1,d1⟩:=hd 1 (by omega);obtain⟨v2,d2⟩:=hd 2 (by omega);obtain⟨v3,d3⟩:=hd 3 (by omega);obtain⟨v4,d4⟩:=hd 4 (by omega);obtain⟨v5,d5⟩:=hd 5 (by omega);rw[Nat.add_zero]at d0;obtain⟨hc4,hf4'⟩:=Vx hb4;have g3:=(hbr.cell (p:=⟨w.heap.size+2,4,none⟩) hg2).trans b4;clear hd))
       all_goals
        have hf5:An wr.heap.size w4 (dV (.mk k' b' n' t' l' o')) [.int .i64 k',.bool b',.int .i64 n',.string t',.slice la2 l'.length lc2,.slice oa2 o'.length oc2]:=hf4.keep (by simp) (Nat.le_refl _) (fun _ _ _=>rfl);have hN:=hv.out.step hbr hf5 (by rw[Hqlen.out];exact hlt) (Cw _);rw[Hqlen.out,<-Htk.out]at hN;have HN:Hid (Hu w w0 #[.int .i64 k,.bool b,.int .i64 n,.string t,.slice (some ⟨g,off,none⟩) l.length lc,.slice oa o.length oc] #[.int .i64 0,.bool false,.int .i64 0,.string ⟨#[]⟩,.slice none 0 0,.slice none 0 0] #[.int .i64 k,.bool b,.int .i64 n,.string t,.slice (some ⟨w0.heap.size,0,none⟩) l.length l.length,.slice none 0 0] w0.heap.size 6 l.length 42 (dL (l.take (q+1))) ((((((w4.setCell ⟨w0.heap.size,q*6,none⟩ (.int .i64 k')).setCell ⟨w0.heap.size,q*6+1,none⟩ (.bool b')).setCell ⟨w0.heap.size,q*6+2,none⟩ (.int .i64 n')).setCell ⟨w0.heap.size,q*6+3,none⟩ (.string t')).setCell ⟨w0.heap.size,q*6+4,none⟩ (.slice la2 l'.length lc2)).setCell ⟨w0.heap.size,q*6+5,none⟩ (.slice oa2 o'.length oc2))):=hN;clear hN hf5 hf4 hb4 hbr hfz hc4 hf4' g3 hv HC Hcell Htk Hqlen b4 c0 c1 c2 c3 c4 c5 d0 d1 d2 d3 d4 d5 n1 n2 n3 n4;go_wp2;go_roundw
        case rel=>exact⟨q+1,by go_num,by omega,HN⟩
        case measure=>simp only[intOf];omega
     . obtain rfl:q=l.length:=by omega
       have hv':=hv.out;rw[List.take_length]at hv';have HD:=qz (hv'.doneT (Gh _) l.length);clear hv hv';go_wp2;go_meet;exact⟨_,_,HD⟩
 case rest=>
 obtain⟨aL,cL,hP⟩:=hcut;obtain⟨wm,hwm⟩: ∃wm:World,wm=wc:=⟨_,rfl⟩;subst hwm;have hA1:VA w wm #[.int .i64 k,.bool b,.int .i64 n,.string t,.slice la l.length lc,.slice oa o.length oc] #[.int .i64 0,.bool false,.int .i64 0,.string ⟨#[]⟩,.slice none 0 0,.slice none 0 0] #[.int .i64 k,.bool b,.int .i64 n,.string t,.slice aL l.length cL,.slice none 0 0] wm:=by
  obtain⟨⟨z1,z2,z3,z4,z5,z6,z7⟩,_⟩:=hP.out.1;exact⟨z1,z2,z3,z4,fun _ _ _=>rfl,Nat.le_refl _,Nat.le_trans z7 z6⟩
 have hsm:w.heap.size+3<=wm.heap.size:=hA1.2.2.2.2.2.2;obtain⟨b0,b1,b2,b3,b4,b5⟩:=Bd hA1.2.1;have HA1:=qz hA1;clear hA1;clear HIH HL HA0 HS1 hmk;go_upto_if 38 with(fail);clear b0 b1 b2 b3 b4 b5;go_cut [] (fun wx=> ∃a c,Hid (VPT 74 w wm #[.int .i64 k,.bool b,.int .i64 n,.string t,.slice la l.length lc,.slice oa o.length oc] #[.int .i64 0,.bool false,.int .i64 0,.string ⟨#[]⟩,.slice none 0 0,.slice none 0 0] #[.int .i64 k,.bool b,.int .i64 n,.string t,.slice aL l.length cL,.slice a o.length c] (dO o) 7 (.slice a o.length c) wx))
 case first=>
  by_cases h0:o= []
  . subst h0;go_wp2;go_meet;exact⟨none,0,VPT.nil 7 HA1.out none 0⟩
  . have hpos:0<o.length:=List.length_pos_iff.2 h0;obtain⟨_,y1,y2,y3,_⟩:=HA1.out;obtain⟨b0,b1,b2,b3,b4,b5⟩:=Bd y1;obtain⟨e0,e1,e2,e3,e4,e5⟩:=Bd y3;have f3:=y3.frozen 5;have g0:w.heap.size<wm.heap.size:=by omega
    have g2:w.heap.size+2<wm.heap.size:=by omega
    obtain⟨Y1,Y2,Y3⟩:=hid3 y1 y2 y3;clear y1 y2 y3;go_wp2_with (fail);obtain⟨w1,hw1⟩: ∃w1,(wm.setCell ⟨w.heap.size+1+1,5,none⟩ (.slice (some ⟨wm.heap.size,0,none⟩) o.length o.length)).alloc (.cells M2 74)=w1:=⟨_,rfl⟩;have hV:Hu w wm #[.int .i64 k,.bool b,.int .i64 n,.string t,.slice la l.length lc,.slice oa o.length oc] #[.int .i64 0,.bool false,.int .i64 0,.string ⟨#[]⟩,.slice none 0 0,.slice none 0 0] #[.int .i64 k,.bool b,.int .i64 n,.string t,.slice aL l.length cL,.slice (some ⟨wm.heap.size,0,none⟩) o.length o.length] wm.heap.size 7 o.length 74 (dO (o.take 0)) w1:=by
     rw[<-hw1];obtain⟨z1,z2,z3,z4,z5,z6,z7⟩:=HA1.out;refine⟨⟨(z1.setCell (by simp;omega) _).alloc (by simp;omega) _,(z2.far (by simp;omega) _).alloc _,(z3.far (by simp) _).alloc _,(z4.set_ 5 _).alloc _,fun c h1 h2=> ?_,by simp,z7⟩,Gg.start (Nat.le_refl _) ?_ HS2.out⟩
     . rw[Lib.alloc_old _ _ _ (by simp;omega),G9 _ _ _ _ (by omega)]
     . have:=heap_alloc_new (wm.setCell ⟨w.heap.size+1+1,5,none⟩ (.slice (some ⟨wm.heap.size,0,none⟩) o.length o.length)) (.cells M2 74);simpa using this
    have HV:=qz hV;rw[hw1];clear hw1 hV b0 b1 b2 b3 b4 b5 e0 e1 e2 e3 e4 e5 f3 HA1 Y1 Y2 Y3 HS2 hmo;go_loopw [47] (fun i wr=> ∃q:Nat,i=.int .i64 q/\q<=o.length/\Hid (Hu w wm #[.int .i64 k,.bool b,.int .i64 n,.string t,.slice la l.length lc,.slice oa o.length oc] #[.int .i64 0,.bool false,.int .i64 0,.string ⟨#[]⟩,.slice none 0 0,.slice none 0 0] #[.int .i64 k,.bool b,.int .i64 n,.string t,.slice aL l.length cL,.slice (some ⟨wm.heap.size,0,none⟩) o.length o.length] wm.heap.size 7 o.length 74 (dO (o.take q)) wr)) (fun i _=>o.length - (intOf i).toNat)
    case atStart=>exact⟨0,rfl,Nat.zero_le _,HV⟩
    case round=>
     obtain⟨q,rfl,hq,hv⟩:=hrel;clear HV;by_cases hlt:q<o.length
     . obtain⟨g,off,rfl,hg,hLL⟩: ∃g off,oa=some ⟨g,off,none⟩/\g<w.heap.size/\A4 w w.heap.size o g off:=HO.out.resolve_left h0;obtain⟨⟨key,x⟩,hx⟩: ∃v,o[q]? =some v:=⟨_,List.getElem?_eq_getElem hlt⟩;have hmem:=List.mem_of_getElem? hx;have IHx:=HIHo.out _ hmem;have hbv:=Ef hmem;simp only at IHx hbv;have htk:dO (o.take (q+1))=dO (o.take q)++ [dP (key,x)]:=by rw[List.take_add_one,hx,D4,D4];simp
       have hqlen:(dO (o.take q)).length=q:=by rw[Dg,List.length_take];omega
       obtain⟨⟨hbw,x1,x2,x3,hk,hsx,hw3⟩,hF⟩:=hv.out;have hz:=hbw.size;have b4:=x3.cell 5;obtain⟨k',b',n',t',l',o'⟩:=x;obtain⟨la',lc',oa',oc',hvs,c0,c1,c2,c3,c4,c5,c6⟩:=(hLL.below hg hbw).seven hx;have hC: ∀W,Below wr.heap.size wr W->Calls Tryz.prog 34 #[.agg #[.int .i64 k',.bool b',.int .i64 n',.string t',.slice la' l'.length lc',.slice oa' o'.length oc']] W (Ga W (.mk k' b' n' t' l' o')):=fun W hW=>
        IHx _ W (Ac.more (Nat.le_trans hz hW.size) _ _ (hvs.below (hW.mono hz))) (by omega)
       have hgr:g<wr.heap.size:=by omega
       have hg2:w.heap.size+2<wr.heap.size:=x3.lt;have hgl:=hF.lt;have hcell: ∀W,Below wr.heap.size wr W->(∀j,j<7-> ∃u,W.cell? ⟨wm.heap.size,q*7+j,none⟩=some u)/\(∀j,W.frozen? ⟨wm.heap.size,j,none⟩=false):=fun W hW=>by
        have h1:=(hF.below hW).cell;exact⟨fun j hj=>h1.1 _ (by omega),h1.2⟩
       have y1:(q:Int)<(o.length:Int):=by omega
       have n1:w.heap.size+2≠wm.heap.size:=by omega
       have n2:wr.heap.size≠wm.heap.size:=by omega
       have n3:=n1.symm;have n4:=n2.symm;obtain⟨HC,Hcell,Htk,Hqlen⟩:=hid4 hC hcell htk hqlen;clear hC hcell htk hqlen;clear hbw x1 x2 x3 hF hvs hx hmem IHx hLL hk hsx hw3;go_wp2_with (fail)
       go_region_held3 (fun W=>W.cell? ⟨w.heap.size+2,5,none⟩=some (.slice (some ⟨wm.heap.size,0,none⟩) o.length o.length)/\W.cell? ⟨wr.heap.size,0,none⟩=some (.string key)/\W.cell? ⟨wr.heap.size,1,none⟩=some (.int .i64 k')/\W.cell? ⟨wr.heap.size,2,none⟩=some (.bool b')/\W.cell? ⟨wr.heap.size,3,none⟩=some (.int .i64 n')/\W.cell? ⟨wr.heap.size,4,none⟩=some (.string t')/\W.cell? ⟨wr.heap.size,5,none⟩=some (.slice la' l'.length lc')/\W.cell? ⟨wr.heap.size,6,none⟩=some (.slice oa' o'.length oc')) (go_keep) (first|(go_at_call 34;refine(HC.out _ ?_).mono ?_;(exact(Below.drew ((Below.refl _ _).alloc (Nat.le_refl _) _)));rintro e w4 ⟨⟨cs4,rfl,hl4,hf4⟩,hb4⟩;obtain⟨la2,lc2,oa2,oc2,rfl⟩:=Eu hf4;have hbr:Below wr.heap.size wr w4:=((Below.drew ((Below.refl _ _).alloc (Nat.le_refl _) _)).trans (hb4.mono (by simp)));obtain⟨hd,hfz⟩:=Hcell.out w4 hbr;obtain⟨v0,d0⟩:=hd 0 (by omega);obtain⟨v1,d1⟩:=hd 1 (by omega);obtain⟨v2,d2⟩:=hd 2 (by omega);obtain⟨v3,d3⟩:=hd 3 (by omega);obtain⟨v4,d4⟩:=hd 4 (by omega);obtain⟨v5,d5⟩:=hd 5 (by omega);obtain⟨v6,d6⟩:=hd 6 (by omega);rw[Nat.add_zero]at d0;obtain⟨hc4,hf4'⟩:=Vx hb4;have g3:=(hbr.cell (p:=⟨w.heap.size+2,5,none⟩) hg2).trans b4;clear hd))
       all_goals
        have hf5:An wr.heap.size w4 (dV (.mk k' b' n' t' l' o')) [.int .i64 k',.bool b',.int .i64 n',.string t',.slice la2 l'.length lc2,.slice oa2 o'.length oc2]:=hf4.keep (by simp) (Nat.le_refl _) (fun _ _ _=>rfl);have hN:=hv.out.step hbr (Da (key:=key) hf5) (by rw[Hqlen.out];exact hlt) (Cv _);rw[Hqlen.out,<-Htk.out]at hN;have HN:Hid (Hu w wm #[.int .i64 k,.bool b,.int .i64 n,.string t,.slice la l.length lc,.slice (some ⟨g,off,none⟩) o.length oc] #[.int .i64 0,.bool false,.int .i64 0,.string ⟨#[]⟩,.slice none 0 0,.slice none 0 0] #[.int .i64 k,.bool b,.int .i64 n,.string t,.slice aL l.length cL,.slice (some ⟨wm.heap.size,0,none⟩) o.length o.length] wm.heap.size 7 o.length 74 (dO (o.take (q+1))) (((((((w4.setCell ⟨wm.heap.size,q*7,none⟩ (.string key)).setCell ⟨wm.heap.size,q*7+1,none⟩ (.int .i64 k')).setCell ⟨wm.heap.size,q*7+2,none⟩ (.bool b')).setCell ⟨wm.heap.size,q*7+3,none⟩ (.int .i64 n')).setCell ⟨wm.heap.size,q*7+4,none⟩ (.string t')).setCell ⟨wm.heap.size,q*7+5,none⟩ (.slice la2 l'.length lc2)).setCell ⟨wm.heap.size,q*7+6,none⟩ (.slice oa2 o'.length oc2))):=hN;clear hN hf5 hf4 hb4 hbr hfz hc4 hf4' g3 hv HC Hcell Htk Hqlen b4 c0 c1 c2 c3 c4 c5 c6 d0 d1 d2 d3 d4 d5 d6 n1 n2 n3 n4;go_wp2;go_roundw
        case rel=>exact⟨q+1,by go_num,by omega,HN⟩
        case measure=>simp only[intOf];omega
     . obtain rfl:q=o.length:=by omega
       have hv':=hv.out;rw[List.take_length]at hv';have HD:=qz (hv'.doneT (Dg _) o.length);clear hv hv';go_wp2;go_meet;exact⟨_,_,HD⟩
 case rest=>
 obtain⟨aO,cO,hQ⟩:=hcut;obtain⟨⟨z1,z2,z3,z4,z5,z6,z7⟩,hF2⟩:=hQ.out.1;have hT2:=hQ.out.2;obtain⟨⟨_,_,_,_,_,k6,k7⟩,hF1⟩:=hP.out.1;have hT1:=hP.out.2;obtain⟨e0,e1,e2,e3,e4,e5⟩:=Bd z4;obtain⟨r0,r1,r2,r3,r4,r5⟩:=Bd z3;have f2:=fun i=>z3.frozen i;have hz:=qz (And.intro z1 (And.intro z3 (And.intro z5 (And.intro hF1 (And.intro hF2 (And.intro hT1 hT2))))));clear z1 z2 z3 z4 z5 hF1 hF2 hT1 hT2 hP hQ HIHo HO HA1 HS2 hmo;go_wp2;obtain⟨W,hW⟩: ∃W,((((((wc.setCell ⟨w.heap.size+1,0,none⟩ (.int .i64 k)).setCell ⟨w.heap.size+1,1,none⟩ (.bool b)).setCell ⟨w.heap.size+1,2,none⟩ (.int .i64 n)).setCell ⟨w.heap.size+1,3,none⟩ (.string t)).setCell ⟨w.heap.size+1,4,none⟩ (.slice aL l.length cL)).setCell ⟨w.heap.size+1,5,none⟩ (.slice aO o.length cO))=W:=⟨_,rfl⟩;obtain⟨q1,q3,q5,qF1,qF2,qT1,qT2⟩:=hz.out;have hWh: ∀c,c≠w.heap.size+1->W.heap[c]? =wc.heap[c]? :=by
  intro c hc;rw[<-hW];simp only[G9 _ _ _ _ hc]
 have hWs:W.heap.size=wc.heap.size:=by rw[<-hW];simp[World.setCell]
 have hWb:Below w.heap.size w W:=by
  rw[<-hW];exact(((((q1.setCell (by simp) _).setCell (by simp) _).setCell (by simp) _).setCell (by simp) _).setCell (by simp) _).setCell (by simp) _
 have hWr:Aj W (w.heap.size+1) 42 #[.int .i64 k,.bool b,.int .i64 n,.string t,.slice aL l.length cL,.slice aO o.length cO]:=by
  rw[<-hW];exact(((((q3.set_ 0 _).set_ 1 _).set_ 2 _).set_ 3 _).set_ 4 _).set_ 5 _
 obtain⟨s0,s1,s2,s3,s4,s5⟩:=Bd hWr;have hFr:An w.heap.size W (dV (.mk k b n t l o)) [.int .i64 k,.bool b,.int .i64 n,.string t,.slice aL l.length cL,.slice aO o.length cO]:=by
  have g1:=qF1.keep (b':=w.heap.size) (w':=W) (by omega) (by omega) (fun p p1 p2=>World.cell?_of_block ((hWh _ (by omega)).trans (q5 _ (by omega) p2)));have g2:=qF2.keep (b':=w.heap.size) (w':=W) (by omega) (by omega) (fun p p1 p2=>World.cell?_of_block (hWh _ (by omega)));intro w'' h1 h2;simp only[dV,Ai];exact Ah.six.2 ⟨[.slice aL l.length cL], [.slice aO o.length cO],rfl,rfl,rfl,rfl,rfl,g1 w'' h1 h2,g2 w'' h1 h2⟩
 have hR1:Pu w.heap.size 42 6 l.length W (.slice aL l.length cL):=by
  rw[Gh]at qT1;exact qT1.keep (by omega) fun g h1 h2=>(hWh _ (by omega)).trans (q5 _ (by omega) h2)
 have hR2:Pu w.heap.size 74 7 o.length W (.slice aO o.length cO):=by
  rw[Dg]at qT2;exact qT2.keep (by omega) fun g h1 h2=>hWh _ (by omega)
 rw[hW];exact bodyPost_ret (v:=.agg #[.int .i64 k,.bool b,.int .i64 n,.string t,.slice aL l.length cL,.slice aO o.length cO]) (by simp[results,Tryz.results34,go_sem,s0,s1,s2,s3,s4,s5]) rfl ⟨⟨_,_,rfl,hFr,hR1,hR2⟩,hWb⟩
theorem Pq (v:Val) (cs:List Value) (w:World) (hV:Ac w w.heap.size v cs) (hb:v.bulk<=100000000):Calls Tryz.prog 34 #[.agg cs.toArray] w (Gu w v):=by
 obtain⟨k,b,n,t,l,o⟩:=v;simp only[Ac]at hV;obtain⟨la,lc,oa,oc,rfl,hla,hoa⟩:=hV;simp only[Val.bulk]at hb;exact Z4 k b n t l o la oa oc lc w (fun v _=>Hd v) (fun m _=>Hd m.2) hla hoa (by omega) (by omega)
mutual
def On (S:Nat->Prop) (w:World):Mut->List Value->Prop
 | .mk _ _ _ _ _ was _ v l,cs=> ∃x10 x16 a c,cs[10]? =some x10/\cs[16]? =some x16/\cs[18]? =some (.slice a l.length c)/\
   Tf S w 74 7 was.objs.length x10/\Tf S w 42 6 v.lst.length x16/\(l= []\/ ∃gl ca,a=some ⟨gl,0,none⟩/\S gl/\Aj w gl Af ca/\l.length*19<=ca.size/\Fa S w l ca.toList)
def Fa (S:Nat->Prop) (w:World):List Mut->List Value->Prop
 | [],_=>True
 |m::r,cs=>On S w m (cs.take 19)/\Fa S w r (cs.drop 19)
end
theorem Tf.keep {S T:Nat->Prop} {w w':World} {t:TypeId} {s n:Nat} {V:Value} (h:Tf S w t s n V) (hST: ∀i,i<w.heap.size->S i->T i) (hk: ∀g,S g->g<w.heap.size->w'.heap[g]? =w.heap[g]?):Tf T w' t s n V:=by
 obtain⟨a,c,rfl,h⟩:=h;refine⟨a,c,rfl,h.imp id ?_⟩;rintro⟨g,cs,rfl,hS,hx,hn⟩;exact⟨g,cs,rfl,hST g hx.lt hS,(hk g hS hx.lt).trans hx,hn⟩
theorem Tf.of_T {b:Nat} {t:TypeId} {s n:Nat} {w:World} {V:Value} (h:Pu b t s n w V):Tf (fun i=>b<=i) w t s n V:=by
 obtain⟨a,c,rfl,h⟩:=h;refine⟨a,c,rfl,h.imp id ?_⟩;rintro⟨g,cs,rfl,h1,h2,h3⟩;exact⟨g,cs,rfl,h1,h2,h3⟩
def Ai6 (m:Mut):Prop:= ∀(S T:Nat->Prop) (w w':World) (cs:List Value),(∀i,i<w.heap.size->S i->T i)->(∀g,S g->g<w.heap.size->w'.heap[g]? =w.heap[g]?)->On S w m cs->On T w' m cs
theorem Fa.keep_of {S T:Nat->Prop} {w w':World} (hST: ∀i,i<w.heap.size->S i->T i) (hk: ∀g,S g->g<w.heap.size->w'.heap[g]? =w.heap[g]?): ∀{l:List Mut} {cs:List Value},(∀m ∈ l,Ai6 m)->Fa S w l cs->Fa T w' l cs
 | [],_,_,_=>by unfold Fa;trivial
 |x::r,cs,ih,h=>by
  unfold Fa at h ⊢;exact⟨ih x (by simp) S T w w' _ hST hk h.1,Fa.keep_of hST hk (fun m hm=>ih m (by simp[hm])) h.2⟩
theorem On.keep: ∀m,Ai6 m:=by
 refine Mut.ind ?_;intro k key dst n had was has v l IH S T w w' cs hST hk h;unfold On at h ⊢;obtain⟨x10,x16,a,c,h4,h5,h6,h7,h8,h9⟩:=h;refine⟨x10,x16,a,c,h4,h5,h6,h7.keep hST hk,h8.keep hST hk,h9.imp id ?_⟩;rintro⟨gl,ca,e,hS,hx,hn,hm⟩;exact⟨gl,ca,e,hST gl hx.lt hS,(hk gl hS hx.lt).trans hx,hn,Fa.keep_of hST hk IH hm⟩
theorem Fa.keep {S T:Nat->Prop} {w w':World} {l:List Mut} {cs:List Value} (h:Fa S w l cs) (hST: ∀i,i<w.heap.size->S i->T i) (hk: ∀g,S g->g<w.heap.size->w'.heap[g]? =w.heap[g]?):Fa T w' l cs:=Fa.keep_of hST hk (fun m _=>On.keep m) h
theorem Fa.snoc {S:Nat->Prop} {w:World} {m:Mut} {es:List Value} (hm:On S w m es) (he:es.length=19): ∀{l:List Mut} {cs:List Value},Fa S w l cs->cs.length=l.length*19->Fa S w (l++ [m]) (cs++es)
 | [],cs,_,hc=>by
   have:cs= []:=List.eq_nil_of_length_eq_zero (by simpa using hc);subst this;simp only[List.nil_append];unfold Fa;refine⟨?_,by unfold Fa;trivial⟩
   rwa [List.take_of_length_le (by omega)]
 |x::r,cs,h,hc=>by
  simp only[List.length_cons]at hc;rw[List.cons_append];unfold Fa at h ⊢;refine⟨?_, ?_⟩
  . rw[List.take_append_of_le_length (by omega)];exact h.1
  . rw[List.drop_append_of_le_length (by omega)];exact Fa.snoc hm he h.2 (by rw[List.length_drop];omega)
theorem Fa.more {S:Nat->Prop} {w:World} {es:List Value}: ∀{l:List Mut} {cs:List Value},Fa S w l cs->l.length*19<=cs.length->Fa S w l (cs++es)
 | [],_,_,_=>by unfold Fa;trivial
 |x::r,cs,h,hc=>by
  simp only[List.length_cons]at hc;unfold Fa at h ⊢;refine⟨?_, ?_⟩
  . rw[List.take_append_of_le_length (by omega)];exact h.1
  . rw[List.drop_append_of_le_length (by omega)];exact Fa.more h.2 (by rw[List.length_drop];omega)
def Ake (m:Mut):Prop:= ∀(S:Nat->Prop) (w:World) (g o:Nat) (ca:Array Value),Aj w g Af ca->o % 19=0->o+19<=ca.size->On S w m ((ca.toList.drop o).take 19)->SpM S w m g o
theorem Ahc {S:Nat->Prop} {w:World} {g:Nat} {ca:Array Value} (hx:Aj w g Af ca): ∀{l:List Mut} {i:Nat},(∀m ∈ l,Ake m)->(i+l.length)*19<=ca.size->Fa S w l (ca.toList.drop (i*19))->L6 S w l g i
 | [],_,_,_,_=>by unfold L6;trivial
 |x::r,i,ih,hs,h=>by
  simp only[List.length_cons]at hs;unfold Fa at h;unfold L6;refine⟨ih x (by simp) S w g (i*19) ca hx (by omega) (by omega) h.1,Ahc hx (fun m hm=>ih m (by simp[hm])) (by omega) ?_⟩;have:=h.2;rw[List.drop_drop]at this
  rwa [show(i+1)*19=i*19+19 by omega]
theorem Akb: ∀m,Ake m:=by
 refine Mut.ind ?_;intro k key dst n had was has v l IH S w g o ca hx ho hs h;unfold On at h;unfold SpM;obtain⟨x10,x16,a,c,h4,h5,h6,h7,h8,h9⟩:=h;have hc: ∀(j:Nat) (u:Value),j<19->((ca.toList.drop o).take 19)[j]? =some u->ca[o+j]? =some u:=fun j u hj e=>by
  rw[List.getElem?_take_of_lt hj,List.getElem?_drop]at e
  rwa [<-Array.getElem?_toList]
 refine⟨ca,x10,x16,a,c,hx,ho,hs,hc 10 _ (by omega) h4,hc 16 _ (by omega) h5,hc 18 _ (by omega) h6,h7,h8,h9.imp id ?_⟩;rintro⟨gl,cb,e,hS,hb,hn,hm⟩;exact⟨gl,e,hS,Ahc hb IH (by omega) (by simpa using hm)⟩
def Kz (S0:Nat->Prop) (b:Nat) (t:TypeId) (s:Nat) (wr:World) (l:List D) (V:Value) (ns:List Value):Prop:=
 wr.ownsRow b t s V l.length ns/\(∀d ∈ l,d.cells=s)/\A6 (fun i=>S0 i/\V.ownBlock≠some i) wr l ns
theorem Kz.toX {S0:Nat->Prop} {b:Nat} {t:TypeId} {s:Nat} {wr:World} {l:List D} {V:Value} {ns:List Value} (h:Kz S0 b t s wr l V ns):Bo S0 b t s wr l V:=⟨ns,h⟩
theorem Kz.nil (S0:Nat->Prop) (b:Nat) (t:TypeId) (s:Nat) (wr:World):Kz S0 b t s wr [] (.slice none 0 0) []:=⟨World.ownsRow_nil _ _ _ _,fun d hd=>(by cases hd),fun _ _ _=>rfl⟩
theorem Kz.keep {S0:Nat->Prop} {b:Nat} {t:TypeId} {s:Nat} {wr w':World} {l:List D} {V:Value} {ns:List Value} (h:Kz S0 b t s wr l V ns) (hs:wr.heap.size<=w'.heap.size) (hk: ∀i,i<wr.heap.size->w'.heap[i]? =wr.heap[i]?):Kz S0 b t s w' l V ns:=by
 obtain⟨h1,h2,h3⟩:=h;refine⟨⟨h1.1, ?_⟩,h2,fun w'' k1 k2=>Ah.more (h3 w'' (by omega) (fun p p1 p2=>(k2 p p1 (by omega)).trans (World.cell?_of_block (hk p.block p2)))) hs⟩;rcases h1.2 with⟨rfl,h0⟩|⟨g,cap,cur,rfl,hbg,hg,h5⟩
 . exact .inl ⟨rfl,h0⟩
 . exact .inr ⟨g,cap,cur,rfl,hbg,(hk g (Array.getElem?_eq_some_iff.1 hg).1).trans hg,h5⟩
theorem Kz.below {S0:Nat->Prop} {b:Nat} {t:TypeId} {s:Nat} {wr w':World} {l:List D} {V:Value} {ns:List Value} (h:Kz S0 b t s wr l V ns) (hb:Below wr.heap.size wr w'):Kz S0 b t s w' l V ns:=h.keep hb.size fun i hi=>hb.block i hi
section
variable {P:Program}
theorem L4 {ops:Array Oper} {rest:List Oper} {o:Oper} {a:Act} {w:World} {Q:Exit->Act->World->Prop} (hgd:o.guard=none) (s x:Operand) (t:TypeId) {e:TypeId}
 (ho:o.op=.call {callee:=.builtin .append,args:= #[s,x],argTypes:= #[t,t]}) {i:TypeInfo} {z:Value} {sz bytes:Nat} (ht:P.underlying t=some (.slice e)) (hi:P.info? e=some i) (hz:i.zero=some z) (hsize:i.size=sz) (hby:i.bytes=bytes) (hzs:z.cells.size=sz) (hsz:0<sz)
 {S0:Nat->Prop} {b:Nat} {l:List D} {V:Value} {ns:List Value} (hs:a.eval s=V) (hrow:Kz S0 b e sz w l V ns) (hbw:b<=w.heap.size) {d:D} {cs:List Value} (hd:d.cells=sz) (hf:Ab (fun i=>S0 i/\V.ownBlock≠some i) w d cs)
 {B:Nat} {A:Option Addr} {c:Nat} (hx:a.eval x=.slice A 1 c) (hr:B5 w B sz A 1 cs) (h63:l.length+1<=maxLen) (hbytes:(l.length+1)*bytes<=140737488355328)
 (h: ∀V' w6,Kz S0 b e sz w6 (l++ [d]) V' (ns++cs)->w.grownBy w6 V.ownBlock->(V'.ownBlock=V.ownBlock\/V'.ownBlock=some w.heap.size)->wpList P ops Q rest (a.put o.dst V') w6):wpList P ops Q (o::rest) a w:=by
 refine wpList_plain hgd fun K hK=> ?_;obtain⟨h1,h2,h3⟩:=hrow;obtain⟨V',w6,hrun,g1,g2,g3⟩:=Ig (P:=P) w b t o.type e i z sz bytes ht hi hz hsize hby hzs hsz V l.length ns h1 B A 1 c cs hr hf.now.len.2 h63 hbytes hbw;have hN:Kz S0 b e sz w6 (l++ [d]) V' (ns++cs):=by
  refine⟨by rw[List.length_append];exact g1, ?_, ?_⟩
  . intro x hx';rcases List.mem_append.1 hx' with hx'|hx'
    . exact h2 x hx'
    . simp only[List.mem_cons,List.not_mem_nil,or_false]at hx';rw[hx'];exact hd
  . have key: ∀p:Addr,V.ownBlock≠some p.block->p.block<w.heap.size->V'.ownBlock≠some p.block:=by
     intro p p1 p2;rcases g3 with e3|e3
     . rw[e3];exact p1
     . rw[e3];intro e4;have:=Option.some.inj e4;omega
    have hag: ∀w'':World,w6.heap.size<=w''.heap.size->(∀p:Addr,S0 p.block/\V'.ownBlock≠some p.block->p.block<w6.heap.size->w''.cell? p=w6.cell? p)-> ∀p:Addr,S0 p.block/\V.ownBlock≠some p.block->p.block<w.heap.size->w''.cell? p=w.cell? p:=by
     intro w'' k1 k2 p p1 p2;rw[k2 p ⟨p1.1,key p p1.2 p2⟩ (Nat.lt_of_lt_of_le p2 g2.size)];exact World.cell?_of_block (g2.block p.block p2 (fun e=>p1.2 e.symm))
    intro w'' k1 k2;have a1:=Ah.more (h3 w'' (Nat.le_trans g2.size k1) (hag w'' k1 k2)) g2.size;have a2:=Ai.more (hf w'' (Nat.le_trans g2.size k1) (hag w'' k1 k2)) g2.size;exact a1.snoc a2
 unfold Oper.wp execOp;simp only[ho,resolve,invoke,builtin,Sem.run_bind,Sem.run_pure,Result.andThen_ok,List.map_toArray,List.map_cons,List.map_nil,hs,hx,hrun];exact hK _ _ (h V' w6 hN g2 g3)
end
end Go.Proofs.YtobmaegpfbheoaaGreatDoor
