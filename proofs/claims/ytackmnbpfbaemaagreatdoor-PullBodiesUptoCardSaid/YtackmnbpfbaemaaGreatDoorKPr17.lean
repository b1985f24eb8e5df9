/- Parts: commonplaceref01.Unquote: the text that is quoted from a place on. Condition: a text of at most 10^9 bytes. -/
import Derived.Shelf.SlSortFuncK.WholeK
import Derived.Shelf.GgSortFunc.Tiny
import Derived.Test.YtackmnbpfbaemaaGreatDoorKPr14
set_option maxHeartbeats 20000000
namespace Go.Proofs.YtackmnbpfbaemaaGreatDoor
open Go.RowKit
abbrev Mx:Type:=ByteArray×(Val×((Option Addr×Nat)×(Option Addr×Nat)))
instance:Inhabited Val:=⟨.mk 0 false 0 ⟨#[]⟩ [] []⟩
def G3:Mx->List Value
 |(key,(.mk k b n t l o,((la,lc),(oa,oc))))=> [.string key,.int .i64 k,.bool b,.int .i64 n,.string t,.slice la l.length lc,.slice oa o.length oc]
def Nt (x:Mx):ByteArray×Val:=(x.1,x.2.1)
theorem Pr (x:Mx):(G3 x).length=7:=by
 obtain⟨key,⟨k,b,n,t,l,o⟩,⟨la,lc⟩,oa,oc⟩:=x;rfl
theorem Ai8 (x:Mx): ∀v ∈ G3 x,v.oneCell'=true:=by
 obtain⟨key,⟨k,b,n,t,l,o⟩,⟨la,lc⟩,oa,oc⟩:=x;intro v hv;simp only[G3,List.mem_cons,List.not_mem_nil,or_false]at hv;rcases hv with rfl|rfl|rfl|rfl|rfl|rfl|rfl<;>rfl
theorem Tz (x:Mx):(G3 x)[0]! =.string x.1:=by
 obtain⟨key,⟨k,b,n,t,l,o⟩,⟨la,lc⟩,oa,oc⟩:=x;rfl
def ltM (x y:Mx):Bool:=Md x.1 y.1
theorem Aop:Go.Sort.SWO ltM where
 irrefl x:=Ff _
 trans x y z h k:=Fp h k
 ntrans x y z h k:=by
  unfold ltM at*
  cases e:Md x.1 z.1 with
  |false=>rfl
  |true=>
   rcases Nj x.1 y.1 with p|p|p
   . rw[h]at p;cases p
   . rw[p]at e;rw[k]at e;cases e
   . have:=Fp p e;rw[k]at this;cases this
theorem An9 (blk off c Bs size:Nat) (W:World) (G:Nat->ByteArray) (hs:W.cell? ⟨Bs,0,none⟩=some (.slice (some ⟨blk,off,none⟩) size c))
 (hc: ∀t,t<size->W.cell? ⟨blk,off+t*7,none⟩=some (.string (G t))) (i j:Nat) (hi:i<size) (hj:j<size) (_hsz:size<4611686018427387904):
 Calls Tryz.prog 71 #[.int .i64 i,.int .i64 j,.pointer (some ⟨Bs,0,none⟩)] W fun e w'=>e=.returned (.bool (Md (G i) (G j)))/\ ∃q,w'=W.drewN q:=by
 have ci:=hc i hi;have cj:=hc j hj;clear hc;have i1:(i:Int)<(size:Int):=by omega
 have j1:(j:Int)<(size:Int):=by omega
 go_enter Tryz.func71,Tryz.ntmps71;go_wp2;go_quiet (fail);go_wp2;go_ret;exact⟨rfl,nq,rfl⟩
noncomputable def Ams:TypeInfo:=(Tryz.prog.info? 37).get (by kernel_rfl)
noncomputable def Xh:TypeInfo:=(Tryz.prog.info? 63).get (by kernel_rfl)
theorem Aog (n:Nat) (h2:2<=n):Lib.swapperK n Xh 25=9:=by
 have a:Xh.hasPointers=true:=by kernel_rfl
 have b:Xh.bytes=104:=by kernel_rfl
 have c:(n==0)=false:=by simp;omega
 have d:(n==1)=false:=by simp;omega
 simp[Lib.swapperK,a,b,c,d]
def Aim (w:World) (blk:Nat) (d:Array Mx) (e:Ending) (w':World):Prop:=e=.returned (.tuple #[])/\ ∃d':Array Mx,d'.size=d.size/\d'.toList.Perm d.toList/\Go.Sort.SortedIn ltM 0 d.size d'/\
 (∀i,i<d.size-> ∀j,j<7->w'.cell? ⟨blk,i*7+j,none⟩=some (G3 d'[i]!)[j]!)/\(∀b,b<w.heap.size->b≠blk->w'.heap[b]? =w.heap[b]?)/\w.heap.size<=w'.heap.size/\w'.os=w.os/\w'.tape=w.tape/\w'.output=w.output
theorem Aer (blk c Bs:Nat) (d:Array Mx) (h2:2<=d.size) (hsz:d.size<4611686018427387904) (w:World) (hH:Go.Sort.HoldsK G3 7 w blk 0 d) (hblk:blk<w.heap.size)
 (hBs:w.cell? ⟨Bs,0,none⟩=some (.slice (some ⟨blk,0,none⟩) d.size c)) (hB1:Bs<w.heap.size) (hB2:Bs≠blk):
 Calls Tryz.prog 70 #[.iface 37 (.slice (some ⟨blk,0,none⟩) d.size c),.func (.func 71) #[] #[.pointer (some ⟨Bs,0,none⟩)]] w (Aim w blk d):=by
 have hless:LessReadsK Tryz.prog 71 #[.pointer (some ⟨Bs,0,none⟩)] G3 7 ltM blk 0 d.size w:=by
  intro m os dk hs i j hi hj;have e:sortWorldK G3 7 w blk 0 m dk os=Go.Sort.putRowK G3 7 (Go.Sort.grow (Go.Sort.ahead w m) os) blk 0 dk:=by
   unfold sortWorldK;rw[Go.Sort.putRowK_grow _ _ (Go.Sort.ahead w m) _ blk 0 _ hblk]
  have hHg:Go.Sort.HoldsK G3 7 (Go.Sort.grow (Go.Sort.ahead w m) os) blk 0 d:=Go.Sort.holdsK_grow _ _ _ _ blk 0 d hblk (Go.Sort.holdsK_ahead _ _ _ _ _ _ _ hH);refine An9 blk 0 c Bs d.size _ (fun t=>dk[t]!.1) ?_ (fun t ht=> ?_) i j hi hj (by omega)
  . rw[e,Go.Sort.cell?_putRowK_other _ _ _ blk 0 dk _ (by exact hB2),Go.Sort.cell?_grow _ _ _ (by exact hB1)];exact hBs
  . rw[e,<-Tz];exact((Go.Sort.holdsK_putRowK _ _ _ blk 0 d dk hHg hs).cell (i:=t) (c:=0) (by omega) (by omega)).1
 have hS:=Any.sort_Slice_cells_sorted Tryz.sortSlice_lays 37 63 Ams Xh (by kernel_rfl) (by kernel_rfl) (by kernel_rfl) (by kernel_rfl) 25 (fun _=>by kernel_rfl) G3 7 Pr (by kernel_rfl) (fun _=>by kernel_rfl)
  Ai8 ltM Aop 71 _
  (enters_of Tryz.func71 (by kernel_rfl) rfl) blk 0 c d h2 hsz 147 (by rw[Aog _ h2];kernel_rfl) false
  (fun args W=>run_callFunc_extern Tryz.func147 (by kernel_rfl) (by kernel_rfl) (by kernel_rfl) (e:=Extern.ReflectliteSwapper.swap false) (by kernel_rfl) args W) w hless hH hblk
 change Calls Tryz.prog 70 _ _ _ at hS;refine hS.mono ?_;rintro e w' ⟨rfl,d',n,os,⟨hs',_,hp⟩,hso,rfl⟩;have hp':d'.toList.Perm d.toList:=by
  have e1:d'.extract 0 d.size=d':=by rw[<-hs'];simp
  have e2:d.extract 0 d.size=d:=by simp
  rwa [e1,e2]at hp
 have hH2:Go.Sort.HoldsK G3 7 (Go.Sort.putRowK G3 7 (Go.Sort.ahead w n) blk 0 d') blk 0 d':=Go.Sort.holdsK_putRowK _ _ _ blk 0 d d' (Go.Sort.holdsK_ahead _ _ _ _ _ _ _ hH) hs';have hsize:(Go.Sort.putRowK G3 7 (Go.Sort.ahead w n) blk 0 d').heap.size=w.heap.size:=by
  simp[Go.Sort.putRowK,Go.Sort.putRow,Go.Sort.mapBlock,Go.Sort.ahead]
 refine⟨rfl,d',hs',hp',hso,fun i hi j hj=> ?_,fun b hb hne=> ?_,by rw[Go.Sort.size_grow,hsize];omega,rfl,rfl,rfl⟩
 . rw[Go.Sort.cell?_grow _ _ _ (by show blk<_;rw[hsize];exact hblk)];have:=(hH2.cell (i:=i) (c:=j) (by omega) hj).1
   rwa [Nat.zero_add]at this
 . show((Go.Sort.putRowK G3 7 (Go.Sort.ahead w n) blk 0 d').heap++os)[b]? =_;rw[Array.getElem?_append_left (by rw[hsize];exact hb)];simp only[Go.Sort.putRowK,Go.Sort.putRow,Go.Sort.mapBlock,Go.Sort.ahead,Array.getElem?_modify];rw[if_neg (fun e=>hne e.symm)]
theorem Ah0 (p:Option Addr) (n c Bs:Nat) (h1:n<=1) (w:World):
 Calls Tryz.prog 70 #[.iface 37 (.slice p n c),.func (.func 71) #[] #[.pointer (some ⟨Bs,0,none⟩)]] w fun e w'=>e=.returned (.tuple #[])/\Below w.heap.size w w':=by
 have key: ∀f,Tryz.prog.funcs.findIdx? (·.name== "internal/reflectlite" ++ ".Swapper$" ++toString (Lib.swapperK n Xh 25))=some f->
  Calls Tryz.prog 70 #[.iface 37 (.slice p n c),.func (.func 71) #[] #[.pointer (some ⟨Bs,0,none⟩)]] w fun e w'=>e=.returned (.tuple #[])/\Below w.heap.size w w':=by
  intro f hf;have hS:=Any.sort_Slice_tiny Tryz.sortSlice_lays 37 63 Ams Xh (by kernel_rfl) (by kernel_rfl) (by kernel_rfl) (by kernel_rfl) 25 (fun _=>by kernel_rfl) p n c h1 f hf (.func 71) #[] #[.pointer (some ⟨Bs,0,none⟩)] w;change Calls Tryz.prog 70 _ _ _ at hS;refine hS.mono ?_;rintro e w' ⟨rfl,os,rfl⟩;refine⟨rfl,⟨rfl,rfl,rfl,by rw[Go.Sort.size_grow];omega,fun i hi=> ?_⟩⟩;show(w.heap++os)[i]? =_;exact Array.getElem?_append_left hi
 rcases Nat.eq_zero_or_pos n with rfl|h0
 . exact key 139 (by kernel_rfl)
 . obtain rfl:n=1:=by omega
   exact key 140 (by kernel_rfl)
def O0 (X:Nat) (k:ByteArray):Option Value:=
 if k=Cc then some (.pointer (some ⟨X,1,none⟩))else if k=Ah then some (.pointer (some ⟨X,0,none⟩))else if k=Ai then some (.pointer (some ⟨X,2,none⟩))else if k=B8 then some (.pointer (some ⟨X,3,none⟩))else none
theorem Aht (X:Nat) {k:ByteArray} (h:k ∉ [Cc,Ah,Ai,B8]):O0 X k=none:=by
 simp only[List.mem_cons,List.not_mem_nil,or_false,not_or]at h;unfold O0;simp only[h,if_false]
def Anu:Nat->ByteArray:=fun i=>if i=4 then Cc else if i=8 then Ah else if i=12 then Ai else B8
def Anv (X:Nat):Nat->Value:=fun i=>if i=4 then .pointer (some ⟨X,1,none⟩)else if i=8 then .pointer (some ⟨X,0,none⟩)else if i=12 then .pointer (some ⟨X,2,none⟩)else .pointer (some ⟨X,3,none⟩)
set_option maxRecDepth 100000 in
theorem Abm (X:Nat) (w:World):Calls Tryz.prog 36 #[.pointer (some ⟨X,0,none⟩)] w fun e w'=> ∃g,e=.returned (.map (some g))/\w.heap.size<=g/\B9 w' g 4 (O0 X)/\Below w.heap.size w w':=by
 have hmm:=fun W=>run_makeMap (P:=Tryz.prog) 101 W;go_enter Tryz.func36,Tryz.ntmps36;go_wp2_with (fail);refine wp_region_held_drew (S:=fun _=>True) (by kernel_rfl) trivial (fun hHeld=> ?_);refine tkH 1 hHeld ?_;refine tkH 2 hHeld ?_;refine tkH 3 hHeld ?_;refine tkH 5 hHeld ?_;refine tkH 6 hHeld ?_;refine tkH 7 hHeld ?_;refine tkH 9 hHeld ?_;refine tkH 10 hHeld ?_;refine tkH 11 hHeld ?_;refine tkH 13 hHeld ?_;refine tkH 14 hHeld ?_;refine tkH 15 hHeld ?_;refine wpAnyH_ready (rs:= [0]) (by kernel_rfl) (by simp) ?_;refine AllReadyH.cons rfl (fun K hK=> ?_) AllReadyH.nil;go_simp;refine hK.out _ _ trivial (fun hHeld=> ?_);clear hK K hmm
 try simp only[Act.put,tk4,tk5,tk6]
 have hB0:Below w.heap.size w (w.alloc (.map #[] 0)).drew:=Below.drew ((Below.refl _ _).alloc (Nat.le_refl _) _);have hL0:B9 (w.alloc (.map #[] 0)).drew w.heap.size 0 fun _=>none:=(B9.new w).keep rfl;generalize (w.alloc (.map #[] 0)).drew=W0 at hB0 hL0 ⊢;change wpAnyH _ _ _ _ _ (2+4) #[true,true,true,true,false,true,true,true,false,true,true,true,false,true,true,true,false,false,false] _ _;refine Mt (E:= #[true,true,true,true,true,true,true,true,true,true,true,true,true,true,true,true,true,false,false]) (w0:=w) (fuel:=2) Fg Tryz.underlying101 Anu (Anv X) [4,8,12,16] (Nat.le_refl _) ?_ (by decide+kernel) (O0 X) 4 ?_ 4 [4,8,12,16] _ _ 0 W0 (fun _ h=>h) (by decide) ?_ rfl hL0 (fun _ _=>rfl) ?_ ?_ hB0
 . intro i hi;simp only[List.mem_cons,List.not_mem_nil,or_false]at hi;rcases hi with rfl|rfl|rfl|rfl
   all_goals exact⟨_,_,_,_,rfl,fun _=>rfl,rfl,rfl,rfl,rfl,rfl⟩
 . intro W hL hB;obtain⟨HL,HB⟩:=hid2 hL hB;clear hL hB;refine tkH 17 hHeld ?_;refine tkH 18 hHeld ?_;refine wpAnyH_done (by kernel_rfl) ?_ _;clear hHeld;go_wp2;go_ret;exact⟨_,rfl,Nat.le_refl _,HL.out,HB.out⟩
 . kernel_rfl
 . intro i hi;simp only[List.mem_cons,List.not_mem_nil,or_false]at hi;rcases hi with rfl|rfl|rfl|rfl
   all_goals kernel_rfl
 . intro k hk;refine(Aht X ?_).symm;simp only[List.mem_cons,List.not_mem_nil,or_false,not_or];exact⟨hk 4 (by simp),hk 8 (by simp),hk 12 (by simp),hk 16 (by simp)⟩
def Aq (S:Nat->Prop) (w:World) (d:D) (cs:List Value):Prop:=
 ∀w'':World,w.heap.size<=w''.heap.size->(∀p:Addr,S p.block->p.block<w.heap.size->w''.cell? p=w.cell? p)->Ae w'' w.heap.size d cs
def Fz (S:Nat->Prop) (w:World) (l:List D) (cs:List Value):Prop:=
 ∀w'':World,w.heap.size<=w''.heap.size->(∀p:Addr,S p.block->p.block<w.heap.size->w''.cell? p=w.cell? p)->Ag w'' w.heap.size l cs
theorem Aq.now {S:Nat->Prop} {w:World} {d:D} {cs:List Value} (h:Aq S w d cs):Ae w w.heap.size d cs:=h w (Nat.le_refl _) fun _ _ _=>rfl
theorem Fz.now {S:Nat->Prop} {w:World} {l:List D} {cs:List Value} (h:Fz S w l cs):Ag w w.heap.size l cs:=h w (Nat.le_refl _) fun _ _ _=>rfl
theorem Aq.mono {S T:Nat->Prop} {w:World} {d:D} {cs:List Value} (h:Aq S w d cs) (hST: ∀i,i<w.heap.size->S i->T i):Aq T w d cs:=
 fun w'' h1 h2=>h w'' h1 fun p p1 p2=>h2 p (hST _ p2 p1) p2
theorem Aq.of_fresh {b:Nat} {w:World} {d:D} {cs:List Value} (h:Ap b w d cs):Aq (fun i=>b<=i) w d cs:=h
theorem Aq.later {S:Nat->Prop} {w w':World} {d:D} {cs:List Value} (h:Aq S w d cs) (hs:w.heap.size<=w'.heap.size) (hk: ∀p:Addr,S p.block->p.block<w.heap.size->w'.cell? p=w.cell? p):Aq S w' d cs:=fun w'' h1 h2=>
 (h w'' (Nat.le_trans hs h1) fun p p1 p2=>(h2 p p1 (Nat.lt_of_lt_of_le p2 hs)).trans (hk p p1 p2)).more hs
theorem Aq.below {S:Nat->Prop} {w w':World} {d:D} {cs:List Value} (h:Aq S w d cs) (hb:Below w.heap.size w w'):Aq S w' d cs:=h.later hb.size fun _ _ p2=>hb.cell p2
theorem Fz.one {S:Nat->Prop} {w:World} {d:D} {cs:List Value} (h:Aq S w d cs):Fz S w [d] cs:=fun w'' h1 h2=>Ag.one (h w'' h1 h2)
theorem Fz.app {S:Nat->Prop} {w:World} {l r:List D} {cs es:List Value} (h:Fz S w l cs) (k:Fz S w r es):Fz S w (l++r) (cs++es):=fun w'' h1 h2=>(h w'' h1 h2).app (k w'' h1 h2)
theorem Aq.blk {S:Nat->Prop} {w:World} {g:Nat} {t:TypeId} {cs:Array Value} {l:List D} {s n c:Nat} (h:An w g t cs) (hS:S g) (hs: ∀d ∈ l,d.cells=s) (hA:Fz S w l cs.toList) (hn:n=l.length):Aq S w (.row s l) [.slice (some ⟨g,0,none⟩) n c]:=by
 subst hn;intro w'' h1 h2;exact⟨_,c,rfl,hs,cs.toList,hA w'' h1 h2,.inr ⟨g,0,rfl,h.lt,fun j u hu=>by
  rw[Nat.zero_add,h2 ⟨g,j,none⟩ hS h.lt];exact(h.cell j).trans (by rw[<-Array.getElem?_toList];exact hu)⟩⟩
def H8 (S0:Nat->Prop) (b:Nat) (t:TypeId) (s:Nat) (wr:World) (l:List D) (V:Value):Prop:=
 ∃ns,wr.ownsRow b t s V l.length ns/\(∀d ∈ l,d.cells=s)/\Fz (fun i=>S0 i/\V.ownBlock≠some i) wr l ns
theorem H8.nil (S0:Nat->Prop) (b:Nat) (t:TypeId) (s:Nat) (wr:World):H8 S0 b t s wr [] (.slice none 0 0):=⟨[],World.ownsRow_nil _ _ _ _,fun d hd=>(by cases hd),fun _ _ _=>rfl⟩
theorem H8.base {S0:Nat->Prop} {b:Nat} {t:TypeId} {s:Nat} {wr:World} {l:List D} {V:Value} (h:H8 S0 b t s wr l V): ∀g,V.ownBlock=some g->b<=g/\g<wr.heap.size:=by
 obtain⟨ns,h1,_⟩:=h;exact h1.lt
theorem H8.keep {S0:Nat->Prop} {b:Nat} {t:TypeId} {s:Nat} {wr w':World} {l:List D} {V:Value} (h:H8 S0 b t s wr l V) (hs:wr.heap.size<=w'.heap.size) (hk: ∀i,i<wr.heap.size->w'.heap[i]? =wr.heap[i]?):H8 S0 b t s w' l V:=by
 obtain⟨ns,h1,h2,h3⟩:=h;refine⟨ns,⟨h1.1, ?_⟩,h2,fun w'' k1 k2=>Ag.more (h3 w'' (by omega) (fun p p1 p2=>(k2 p p1 (by omega)).trans (World.cell?_of_block (hk p.block p2)))) hs⟩;rcases h1.2 with⟨rfl,h0⟩|⟨g,cap,cur,rfl,hbg,hg,h5⟩
 . exact .inl ⟨rfl,h0⟩
 . exact .inr ⟨g,cap,cur,rfl,hbg,(hk g (Array.getElem?_eq_some_iff.1 hg).1).trans hg,h5⟩
theorem H8.below {S0:Nat->Prop} {b:Nat} {t:TypeId} {s:Nat} {wr w':World} {l:List D} {V:Value} (h:H8 S0 b t s wr l V) (hb:Below wr.heap.size wr w'):H8 S0 b t s w' l V:=h.keep hb.size fun i hi=>hb.block i hi
theorem H8.slice {S0:Nat->Prop} {b:Nat} {t:TypeId} {s:Nat} {wr:World} {l:List D} {V:Value} (h:H8 S0 b t s wr l V): ∃a c,V=.slice a l.length c:=by
 obtain⟨ns,h1,_⟩:=h;rcases h1.2 with⟨rfl,h0⟩|⟨g,cap,cur,rfl,_⟩
 . exact⟨_,_,by rw[h0]⟩
 . exact⟨_,_,rfl⟩
theorem H8.slice_n {S0:Nat->Prop} {b:Nat} {t:TypeId} {s n:Nat} {wr:World} {l:List D} {V:Value} (h:H8 S0 b t s wr l V) (hn:l.length=n): ∃a c,V=.slice a n c:=by
 subst hn;exact h.slice
theorem H8.close {S0:Nat->Prop} {b:Nat} {t:TypeId} {s:Nat} {wr:World} {l:List D} {a:Option Addr} {n c:Nat} (h:H8 S0 b t s wr l (.slice a n c)):Ae wr wr.heap.size (.row s l) [.slice a n c]:=by
 obtain⟨ns,h1,h2,h3⟩:=h;have h1':=h1;rcases h1.2 with⟨e,h0⟩|⟨g,cap,cur,e,hbg,hg,hnc,_⟩
 . cases e
   have hl:l= []:=List.eq_nil_of_length_eq_zero h0;subst hl;exact⟨none,0,rfl,h2, [],rfl,.inl rfl⟩
 . cases e
   have hgl:=(Array.getElem?_eq_some_iff.1 hg).1;refine⟨_,_,rfl,h2,ns,h3.now,.inr ⟨g,0,rfl,hgl,fun j u hu=> ?_⟩⟩;have h5:=h1'.cells (g:=g) rfl j u hu
   rwa [En]at h5
theorem H8.closeIn {S0:Nat->Prop} {b:Nat} {t:TypeId} {s:Nat} {wr:World} {l:List D} {a:Option Addr} {n c:Nat} (h:H8 S0 b t s wr l (.slice a n c)):Aq (fun i=>S0 i\/(Value.slice a n c).ownBlock=some i) wr (.row s l) [.slice a n c]:=by
 obtain⟨ns,h1,h2,h3⟩:=h;have h1':=h1;intro w'' k1 k2;have hA:=h3 w'' k1 fun p p1 p2=>k2 p (.inl p1.1) p2;rcases h1.2 with⟨e,h0⟩|⟨g,cap,cur,e,hbg,hg,hnc,_⟩
 . cases e
   have hl:l= []:=List.eq_nil_of_length_eq_zero h0;subst hl;exact⟨none,0,rfl,h2, [],rfl,.inl rfl⟩
 . cases e
   have hgl:=(Array.getElem?_eq_some_iff.1 hg).1;refine⟨_,_,rfl,h2,ns,hA,.inr ⟨g,0,rfl,hgl,fun j u hu=> ?_⟩⟩;have h5:=h1'.cells (g:=g) rfl j u hu;rw[En]at h5;exact(k2 ⟨g,0+j,none⟩ (.inr rfl) hgl).trans h5
section
variable {P:Program}
theorem Za {t ty e:TypeId} {i:TypeInfo} {z:Value} {sz bytes:Nat} (ht:P.underlying t=some (.slice e)) (hi:P.info? e=some i) (hz:i.zero=some z) (hsize:i.size=sz) (hby:i.bytes=bytes) (hzs:z.cells.size=sz) (hsz:0<sz)
 {S0:Nat->Prop} {b:Nat} {w:World} {l:List D} {V:Value} (hrow:H8 S0 b e sz w l V) (hbw:b<=w.heap.size) {d:D} {cs:List Value} (hd:d.cells=sz) (hx:Aq (fun i=>S0 i/\V.ownBlock≠some i) w d cs)
 {B:Nat} {A:Option Addr} {c:Nat} (hr:Bt w B sz A 1 cs) (h63:l.length+1<=maxLen) (hbytes:(l.length+1)*bytes<=140737488355328):
 ∃V' w6,(Builtin.append_ #[t,t] ty #[V,.slice A 1 c]).run P w=.ok V' w6/\H8 S0 b e sz w6 (l++ [d]) V'/\w.grownBy w6 V.ownBlock/\(V'.ownBlock=V.ownBlock\/V'.ownBlock=some w.heap.size):=by
 obtain⟨ns,h1,h2,h3⟩:=hrow;obtain⟨V',w6,hrun,g1,g2,g3⟩:=G7 (P:=P) w b t ty e i z sz bytes ht hi hz hsize hby hzs hsz V l.length ns h1 B A 1 c cs hr hx.now.len.2 h63 hbytes hbw;refine⟨V',w6,hrun,⟨ns++cs,by rw[List.length_append];exact g1, ?_, ?_⟩,g2,g3⟩
 . intro x hx';rcases List.mem_append.1 hx' with hx'|hx'
   . exact h2 x hx'
   . simp only[List.mem_cons,List.not_mem_nil,or_false]at hx';rw[hx'];exact hd
 . have key: ∀p:Addr,V.ownBlock≠some p.block->p.block<w.heap.size->V'.ownBlock≠some p.block:=by
    intro p p1 p2;rcases g3 with e3|e3
    . rw[e3];exact p1
    . rw[e3];intro e4;have:=Option.some.inj e4;omega
   have hag: ∀w'':World,w6.heap.size<=w''.heap.size->(∀p:Addr,S0 p.block/\V'.ownBlock≠some p.block->p.block<w6.heap.size->w''.cell? p=w6.cell? p)-> ∀p:Addr,S0 p.block/\V.ownBlock≠some p.block->p.block<w.heap.size->w''.cell? p=w.cell? p:=by
    intro w'' k1 k2 p p1 p2;rw[k2 p ⟨p1.1,key p p1.2 p2⟩ (Nat.lt_of_lt_of_le p2 g2.size)];exact World.cell?_of_block (g2.block p.block p2 (fun e=>p1.2 e.symm))
   intro w'' k1 k2;have a1:=Ag.more (h3 w'' (Nat.le_trans g2.size k1) (hag w'' k1 k2)) g2.size;have a2:=Ae.more (hx w'' (Nat.le_trans g2.size k1) (hag w'' k1 k2)) g2.size;exact a1.snoc a2
theorem Ab8 {o:Oper} {a:Act} {w:World} {K:Act->World->Prop} {Q:Exit->Act->World->Prop} (s x:Operand) (t:TypeId) {e:TypeId}
 (ho:o.op=.call {callee:=.builtin .append,args:= #[s,x],argTypes:= #[t,t]}) {i:TypeInfo} {z:Value} {sz bytes:Nat} (ht:P.underlying t=some (.slice e)) (hi:P.info? e=some i) (hz:i.zero=some z) (hsize:i.size=sz) (hby:i.bytes=bytes) (hzs:z.cells.size=sz) (hsz:0<sz)
 {S0:Nat->Prop} {b:Nat} {l:List D} {V:Value} (hs:a.eval s=V) (hrow:H8 S0 b e sz w l V) (hbw:b<=w.heap.size) {d:D} {cs:List Value} (hd:d.cells=sz) (hf:Aq (fun i=>S0 i/\V.ownBlock≠some i) w d cs)
 {B:Nat} {A:Option Addr} {c:Nat} (hx:a.eval x=.slice A 1 c) (hr:Bt w B sz A 1 cs) (h63:l.length+1<=maxLen) (hbytes:(l.length+1)*bytes<=140737488355328)
 (h: ∀V' w6,H8 S0 b e sz w6 (l++ [d]) V'->w.grownBy w6 V.ownBlock->(V'.ownBlock=V.ownBlock\/V'.ownBlock=some w.heap.size)->K (a.put o.dst V') w6):o.wp P a w K Q:=by
 obtain⟨V',w6,hrun,g1,g2,g3⟩:=Za (ty:=o.type) (c:=c) ht hi hz hsize hby hzs hsz hrow hbw hd hf hr h63 hbytes;unfold Oper.wp execOp;simp only[ho,resolve,invoke,builtin,Sem.run_bind,Sem.run_pure,Result.andThen_ok,List.map_toArray,List.map_cons,List.map_nil,hs,hx,hrun];exact h V' w6 g1 g2 g3
theorem Ta {ops:Array Oper} {rest:List Oper} {o:Oper} {a:Act} {w:World} {Q:Exit->Act->World->Prop} (hgd:o.guard=none) (s x:Operand) (t:TypeId) {e:TypeId}
 (ho:o.op=.call {callee:=.builtin .append,args:= #[s,x],argTypes:= #[t,t]}) {i:TypeInfo} {z:Value} {sz bytes:Nat} (ht:P.underlying t=some (.slice e)) (hi:P.info? e=some i) (hz:i.zero=some z) (hsize:i.size=sz) (hby:i.bytes=bytes) (hzs:z.cells.size=sz) (hsz:0<sz)
 {S0:Nat->Prop} {b:Nat} {l:List D} {V:Value} (hs:a.eval s=V) (hrow:H8 S0 b e sz w l V) (hbw:b<=w.heap.size) {d:D} {cs:List Value} (hd:d.cells=sz) (hf:Aq (fun i=>S0 i/\V.ownBlock≠some i) w d cs)
 {B:Nat} {A:Option Addr} {c:Nat} (hx:a.eval x=.slice A 1 c) (hr:Bt w B sz A 1 cs) (h63:l.length+1<=maxLen) (hbytes:(l.length+1)*bytes<=140737488355328)
 (h: ∀V' w6,H8 S0 b e sz w6 (l++ [d]) V'->w.grownBy w6 V.ownBlock->(V'.ownBlock=V.ownBlock\/V'.ownBlock=some w.heap.size)->wpList P ops Q rest (a.put o.dst V') w6):wpList P ops Q (o::rest) a w:=
 wpList_plain hgd fun _ hK=>Ab8 s x t ho ht hi hz hsize hby hzs hsz hs hrow hbw hd hf hx hr h63 hbytes fun V' w6 h2 h3 h4=>hK _ _ (h V' w6 h2 h3 h4)
end
set_option maxRecDepth 100000 in
theorem Em (s:ByteArray) (k:Nat) (w:World) (hs:s.size<=1000000000) (hk:k<=s.size):
 Calls Tryz.prog 130 #[.string s,.int .i64 k] w fun e w'=>e=.returned (.int .i64 (Ar s.data.toList k:Nat))/\w=w':=by
 obtain⟨P,hP⟩: ∃P,Ar s.data.toList k=P:=⟨_,rfl⟩;have H0:=Lib.hid hP;rw[hP];clear hP;go_enter Tryz.func130,Tryz.ntmps130;go_wp2
 go_loop [1] (fun i=> ∃j:Nat,j<=s.size/\i=.int .i64 j/\Hid (Ar s.data.toList j=P)) (fun i=>s.size - (intOf i).toNat)
 case atStart=>exact⟨k,hk,rfl,H0⟩
 case round=>
  obtain⟨j,hj,rfl,hh⟩:=hrel;clear H0;by_cases hlt:j<s.size
  . obtain⟨c,hc⟩: ∃c,s[j]=c:=⟨_,rfl⟩;have hg:s.data.toList[j]? =some c:=by rw[Bh s hlt,hc]
    have hcl:=Bn c;by_cases hbl:Es c=true
    . have HN:Hid (Ar s.data.toList (j+1)=P):=by rw[<-Q5 hg hbl];exact hh.out
      unfold Es at hbl;simp only[Bool.or_eq_true,beq_iff_eq]at hbl;clear hg hh;rcases hbl with((hbl|hbl)|hbl)|hbl
      all_goals
       subst hbl;go_wp2
       go_round
       case rel=>exact⟨j+1,by omega,by go_num,HN⟩
       case measure=>simp[intOf];omega
    . have HN:Hid (j=P):=by rw[<-hh.out,Q6 hg (by simpa using hbl)];exact rfl
      unfold Es at hbl;simp only[Bool.or_eq_true,beq_iff_eq,not_or]at hbl;obtain⟨⟨⟨h9,h10⟩,h13⟩,h32⟩:=hbl;have ne: ∀n:Nat,n<256->c≠UInt8.ofNat n->((c.toNat:Int)==(n:Int))=false:=fun n hn h=>by rw[Iq hn];simpa using h
      have e9:((c.toNat:Int)==9)=false:=ne 9 (by decide) h9;have e10:((c.toNat:Int)==10)=false:=ne 10 (by decide) h10;have e13:((c.toNat:Int)==13)=false:=ne 13 (by decide) h13;have e32:((c.toNat:Int)==32)=false:=ne 32 (by decide) h32;clear ne h9 h10 h13 h32 hg hh;go_wp2;go_ret;exact⟨by rw[<-HN.out];rfl,rfl⟩
  . have HN:Hid (j=P):=by rw[<-hh.out,Uk (by rw[<-Lib.size_eq];omega)];exact rfl
    clear hh;go_wp2;go_ret;exact⟨by rw[<-HN.out];rfl,rfl⟩
theorem Ama {s:ByteArray} {k:Nat} {c:UInt8} (h:s.data.toList[k]? =some c) (w:World) (_hs:s.size<=1000000000):
 Calls Tryz.prog 208 #[.string s,.int .i64 k,.int .u8 c.toNat] w fun e w'=>e=.returned (.bool true)/\w=w':=by
 have hlt:k<s.size:=by have:=De h;rwa [<-Lib.size_eq]at this
 have hc:s[k]=c:=by rw[Bh s hlt]at h;exact Option.some.inj h
 have hcl:=Bn c;clear h;go_enter Tryz.func208,Tryz.ntmps208;go_wp2;go_ret;exact⟨rfl,rfl⟩
theorem Anw {s:ByteArray} {k:Nat} {c:UInt8} (h: ¬(s.data.toList[k]? =some c)) (w:World) (_hs:s.size<=1000000000) (_hk:k<=s.size):
 Calls Tryz.prog 208 #[.string s,.int .i64 k,.int .u8 c.toNat] w fun e w'=>e=.returned (.bool false)/\w=w':=by
 have hcl:=Bn c;by_cases hlt:k<s.size
 . obtain⟨x,hx⟩: ∃x,s[k]=x:=⟨_,rfl⟩;have hne:((x.toNat:Int)==(c.toNat:Int))=false:=by
    rw[Bh s hlt,hx]at h;rw[beq_eq_false_iff_ne];intro e;exact h (by rw[UInt8.toNat_inj.1 (by omega:x.toNat=c.toNat)])
   have hxl:=Bn x;clear h;go_enter Tryz.func208,Tryz.ntmps208;go_wp2;go_ret;exact⟨rfl,rfl⟩
 . clear h;go_enter Tryz.func208,Tryz.ntmps208;go_wp2;go_ret;exact⟨rfl,rfl⟩
theorem Gs {s:ByteArray} {k:Nat} {c:UInt8} {B:Bool} (h:decide (s.data.toList[k]? =some c)=B) (w:World) (hs:s.size<=1000000000) (hk:k<=s.size):
 Calls Tryz.prog 208 #[.string s,.int .i64 k,.int .u8 c.toNat] w fun e w'=>e=.returned (.bool B)/\w=w':=by
 subst h;by_cases hy:s.data.toList[k]? =some c
 . rw[decide_eq_true hy];exact Ama hy w hs
 . rw[decide_eq_false hy];exact Anw hy w hs hk
def Ag2 (u:Option Nat):Int:=match u with
 |some n=>n
 |none=> -1
theorem Ah6 {s:ByteArray} {p:Nat} (h:p+6<=s.size) (a:s[p]=92) (b:s[p+1]=117):Dw (s.data.toList.drop p)=Mr (s.data.toList.drop (p+2)) 4 0:=by
 have ga:(s.data.toList.drop p)[0]? =some 92:=by rw[List.getElem?_drop,Nat.add_zero,Bh s (by omega),a]
 have gb:(s.data.toList.drop p)[1]? =some 117:=by rw[List.getElem?_drop,Bh s (by omega),b]
 unfold Dw;rw[if_neg,List.drop_drop];rw[ga,gb,List.length_drop,Ab];simp;omega
set_option maxRecDepth 100000 in
theorem Un (s:ByteArray) (p:Nat) (w:World) (hs:s.size<=1000000000) (hp:p<=s.size+6):Calls Tryz.prog 210 #[.string s,.int .i64 p] w fun e w'=>e=.returned (.int .i64 (Ag2 (Dw (s.data.toList.drop p))))/\w=w':=by
 have hlen:=Ab s;by_cases h6:s.size<p+6
 . have e:Dw (s.data.toList.drop p)=none:=by unfold Dw;rw[if_pos (.inl (by rw[List.length_drop];omega))]
   rw[e];have l:(s.size:Int)<(p:Int)+6:=by omega
   clear e hlen;go_enter Tryz.func210,Tryz.ntmps210;go_wp2;go_ret;exact⟨rfl,rfl⟩
 have l6: ¬((s.size:Int)<(p:Int)+6):=by omega
 have q0:p<s.size:=by omega
 have q1:p+1<s.size:=by omega
 obtain⟨a,ha⟩: ∃a,s[p]=a:=⟨_,rfl⟩;obtain⟨b,hb⟩: ∃b,s[p+1]=b:=⟨_,rfl⟩;have hal:=Bn a;have hbl:=Bn b;have ne: ∀(c:UInt8) (n:Nat),n<256->c≠UInt8.ofNat n->((c.toNat:Int)==(n:Int))=false:=fun c n hn h=>by rw[Iq hn];simpa using h
 have ga:(s.data.toList.drop p)[0]? =some a:=by rw[List.getElem?_drop,Nat.add_zero,Bh s q0,ha]
 have gb:(s.data.toList.drop p)[1]? =some b:=by rw[List.getElem?_drop,Bh s q1,hb]
 by_cases h92:a=92;rotate_left
 . have e:Dw (s.data.toList.drop p)=none:=by unfold Dw;rw[if_pos];right;left;rw[ga];simpa using h92
   have e1:=ne a 92 (by decide) h92;rw[e];clear e hlen ga gb ne h92 h6;go_enter Tryz.func210,Tryz.ntmps210;go_wp2;go_ret;exact⟨rfl,rfl⟩
 by_cases h117:b=117;rotate_left
 . have e:Dw (s.data.toList.drop p)=none:=by unfold Dw;rw[if_pos];right;right;rw[gb];simpa using h117
   have e1:=ne b 117 (by decide) h117;rw[e];subst h92;clear e hlen ga gb ne h117 h6;go_enter Tryz.func210,Tryz.ntmps210;go_wp2;go_ret;exact⟨rfl,rfl⟩
 subst h92 h117;rw[Ah6 (by omega) ha hb];obtain⟨F,hF⟩: ∃F,Mr (s.data.toList.drop (p+2)) 4 0=F:=⟨_,rfl⟩;rw[hF];have H0:=Lib.hid hF;clear hF ga gb ne hlen;go_enter Tryz.func210,Tryz.ntmps210;go_wp2
 go_loop [5,6] (fun x i=> ∃k n:Nat,2<=k/\k<=6/\i=.int .i64 k/\x=.int .i64 n/\n<16 ^ (k - 2)/\Hid (Mr (s.data.toList.drop (p+k)) (6 - k) n=F)) (fun _ i=>6 - (intOf i).toNat)
 case atStart=>exact⟨2,0,by omega,by omega,rfl,rfl,by decide,H0⟩
 case round=>
  obtain⟨k,n,hk2,hk6,rfl,rfl,hn,hf⟩:=hrel;clear H0 ha hb;by_cases hlt:k<6
  . have hkt:p+k<s.size:=by omega
    obtain⟨c,hc⟩: ∃c,s[p+k]=c:=⟨_,rfl⟩;have hg:s.data.toList[p+k]? =some c:=by rw[Bh s hkt,hc]
    have hcl:=Bn c;have hc0:(0:Int)<=(c.toNat:Int):=by omega
    have hn':n<4096:=by
     have:16 ^ (k - 2)<=16 ^ 3:=Nat.pow_le_pow_right (by decide) (by omega);omega
    have hf':=hf.out;rw[Er hg,show 6 - k=(6 - (k+1))+1 from by omega]at hf';simp only[Mr]at hf';have hst: ∀d,On c=some d->16*n+d<16 ^ (k+1 - 2)/\Mr (s.data.toList.drop (p+(k+1))) (6 - (k+1)) (16*n+d)=F:=by
     intro d hd;rw[hd]at hf';refine⟨?_,hf'⟩;have:=Yg hd;rw[show k+1 - 2=(k - 2)+1 from by omega,Nat.pow_succ];omega
    have hno:On c=none->none=F:=by
     intro hd;rw[hd]at hf';exact hf'
    clear hf hg hf' hn;by_cases r1:48<=c.toNat/\c.toNat<=57
    . obtain⟨g1,g2⟩:=hst (c.toNat - 48) (by unfold On;rw[if_pos r1]);have l1:(48:Int)<=(c.toNat:Int):=by omega
      have l2:(c.toNat:Int)<58:=by omega
      have ev:(16*(n:Int)+(c.toNat:Int) - 48)=((16*n+(c.toNat - 48):Nat):Int):=by omega
      obtain⟨G1,G2,Ev⟩:=hid3 g1 g2 ev;clear g1 g2 ev;clear hst hno r1;go_wp2
      go_round
      case rel=>exact⟨k+1,_,by omega,by omega,by go_num,by rw[Ev.out],G1.out,G2⟩
      case measure=>simp[intOf];omega
    have l12: ¬((48:Int)<=(c.toNat:Int))\/ ¬((c.toNat:Int)<58):=by omega
    by_cases r2:97<=c.toNat/\c.toNat<=102
    . obtain⟨g1,g2⟩:=hst (c.toNat - 87) (by unfold On;rw[if_neg r1,if_pos r2]);have l2': ¬((c.toNat:Int)<58):=by omega
      have l1:(97:Int)<=(c.toNat:Int):=by omega
      have l2:(c.toNat:Int)<103:=by omega
      have ev:(16*(n:Int)+(c.toNat:Int) - 87)=((16*n+(c.toNat - 87):Nat):Int):=by omega
      obtain⟨G1,G2,Ev⟩:=hid3 g1 g2 ev;clear g1 g2 ev;clear hst hno r1 r2 l12;go_wp2
      go_round
      case rel=>exact⟨k+1,_,by omega,by omega,by go_num,by rw[Ev.out],G1.out,G2⟩
      case measure=>simp[intOf];omega
    by_cases r3:65<=c.toNat/\c.toNat<=70
    . obtain⟨g1,g2⟩:=hst (c.toNat - 55) (by unfold On;rw[if_neg r1,if_neg r2,if_pos r3]);have l2': ¬((c.toNat:Int)<58):=by omega
      have l97: ¬((97:Int)<=(c.toNat:Int)):=by omega
      have l1:(65:Int)<=(c.toNat:Int):=by omega
      have l2:(c.toNat:Int)<71:=by omega
      have ev:(16*(n:Int)+(c.toNat:Int) - 55)=((16*n+(c.toNat - 55):Nat):Int):=by omega
      obtain⟨G1,G2,Ev⟩:=hid3 g1 g2 ev;clear g1 g2 ev;clear hst hno r1 r2 r3 l12;go_wp2
      go_round
      case rel=>exact⟨k+1,_,by omega,by omega,by go_num,by rw[Ev.out],G1.out,G2⟩
      case measure=>simp[intOf];omega
    have hF:=hno (by unfold On;rw[if_neg r1,if_neg r2,if_neg r3]);subst hF;clear hst hno;by_cases a1:(48:Int)<=(c.toNat:Int)<;>by_cases a2:(c.toNat:Int)<58<;>by_cases a3:(97:Int)<=(c.toNat:Int)<;>by_cases a4:(c.toNat:Int)<103<;>by_cases a5:(65:Int)<=(c.toNat:Int)<;>by_cases a6:(c.toNat:Int)<71
    all_goals first|(exfalso;omega)|(clear r1 r2 r3 l12;go_wp2;go_ret;exact⟨rfl,rfl⟩)
  . obtain rfl:k=6:=by omega
    have hf':=hf.out;have e:Mr (s.data.toList.drop (p+6)) (6 - 6) n=some n:=by cases s.data.toList.drop (p+6)<;>rfl
    rw[e]at hf';subst hf';clear hf e;go_wp2;go_ret;exact⟨rfl,rfl⟩
def J9 (c:UInt8):Nat:=Gh.findIdx (fun x=>x==c)
theorem Ag7: ∀c:Fin 256,J9 (UInt8.ofNat c.val)<=8/\(J9 (UInt8.ofNat c.val)=8->Ge (UInt8.ofNat c.val)=none)/\(J9 (UInt8.ofNat c.val)<8->(Ge (UInt8.ofNat c.val)).map (fun n:Nat=>(n:Int))=Gx[J9 (UInt8.ofNat c.val)]?)/\
 (∀k:Fin 8,(k.val<J9 (UInt8.ofNat c.val)->((UInt8.ofNat c.val).toNat==(Gh.getD k.val 0).toNat)=false)/\(k.val=J9 (UInt8.ofNat c.val)->((UInt8.ofNat c.val).toNat==(Gh.getD k.val 0).toNat)=true)):=by decide+kernel
theorem Anm (c:UInt8):J9 c<=8/\(J9 c=8->Ge c=none)/\(J9 c<8->(Ge c).map (fun n:Nat=>(n:Int))=Gx[J9 c]?)/\
 (∀k,k<8->(k<J9 c->(c.toNat==(Gh.getD k 0).toNat)=false)/\(k=J9 c->(c.toNat==(Gh.getD k 0).toNat)=true)):=by
 have h:=Ag7 ⟨c.toNat,c.toNat_lt⟩;simp only[UInt8.ofNat_toNat]at h;exact⟨h.1,h.2.1,h.2.2.1,fun k hk=>h.2.2.2 ⟨k,hk⟩⟩
theorem Zq (T:ByteArray) (l:List UInt8):(T++(⟨l.toArray⟩:ByteArray)).size=T.size+l.length:=by rw[ByteArray.size_append];rfl
theorem Af1 (T:ByteArray) (l:List UInt8):(T++(⟨l.toArray⟩:ByteArray)).data.toList=T.data.toList++l:=by rw[ByteArray.data_append,Array.toList_append]
def RUI (s:ByteArray) (w:World) (RES:Rd (List UInt8)) (j:Nat) (T:ByteArray) (wr:World):Prop:=
 Below w.heap.size w wr/\T.size<=j/\ ∃f,Fw f s.data.toList j T.data.toList=RES/\s.size - j<f
theorem Ak7 (T:ByteArray):(⟨T.data.toList.toArray⟩:ByteArray)=T:=by
 apply ByteArray.ext;simp
theorem Below.drewN' {B n:Nat} {a w w1:World} (h:Below B a w) (hb:Below (w.drewN n).heap.size (w.drewN n) w1) (hB:B<=w.heap.size):Below B a w1:=(Bi h n).trans (hb.mono hB)
set_option maxRecDepth 100000 in
theorem Uq (s:ByteArray) (k:Nat) (w:World) (hs:s.size<=1000000000) (hk:k<=s.size):
 Calls Tryz.prog 177 #[.string s,.int .i64 k] w fun e w'=>e=.returned (Rf (Di s.data.toList k))/\Below w.heap.size w w':=by
 have hlen:=Ab s;have d0:decide ((k:Int)<0)=false:=decide_eq_false (by omega);have d1:decide (s.size<k)=false:=decide_eq_false (by omega);by_cases hlt:k<s.size;rotate_left
 . obtain rfl:k=s.size:=by omega
   have e:Di s.data.toList s.size=.bad 4 s.size:=by unfold Di;rw[if_neg (by rw[List.getElem?_eq_none (by omega)];simp)]
   rw[e];simp only[Rf];clear e hlen hlt;go_enter Tryz.func177,Tryz.ntmps177;go_wp2;exact bodyPost_ret (As rfl _ _ _) rfl ⟨rfl,Below.refl _ _⟩
 obtain⟨c,hc⟩: ∃c,s[k]=c:=⟨_,rfl⟩;have hg:s.data.toList[k]? =some c:=by rw[Bh s hlt,hc]
 have hcl:=Bn c;have ne: ∀(c:UInt8) (n:Nat),n<256->c≠UInt8.ofNat n->((c.toNat:Int)==(n:Int))=false:=fun c n hn h=>by rw[Iq hn];simpa using h
 have e1:((k:Int)==(s.size:Int))=false:=by rw[beq_eq_false_iff_ne];omega
 by_cases h34:c=34;rotate_left
 . have e:Di s.data.toList k=.bad 4 k:=by unfold Di;rw[if_neg (by rw[hg];simpa using h34)]
   rw[e];have e2:=ne c 34 (by decide) h34;simp only[Rf];clear e hlen hg ne h34;go_enter Tryz.func177,Tryz.ntmps177;go_wp2;exact bodyPost_ret (As rfl _ _ _) rfl ⟨rfl,Below.refl _ _⟩
 subst h34;obtain⟨RES,hRES⟩: ∃R,Di s.data.toList k=R:=⟨_,rfl⟩;rw[hRES];have hF:Fw (s.data.toList.length - k) s.data.toList (k+1) []=RES:=by
  rw[<-hRES];unfold Di;rw[if_pos hg]
 have H0:Hid (RUI s w RES (k+1) ⟨#[]⟩ w):=⟨Below.refl _ _,Nat.zero_le _,_,hF,by omega⟩;clear hRES hF hg hlen;have Ne:=Lib.hid ne;clear ne;go_enter Tryz.func177,Tryz.ntmps177;go_wp2;go_loopw [7,8] (fun o i wr=> ∃(T:ByteArray) (j:Nat),o=.string T/\i=.int .i64 j/\j<=s.size/\Hid (RUI s w RES j T wr)) (fun _ i _=>s.size - (intOf i).toNat)
 case atStart=>exact⟨⟨#[]⟩,k+1,rfl,by go_num,by omega,H0⟩
 case round=>
  obtain⟨T,j,rfl,rfl,hj,hI⟩:=hrel;clear H0 e1 d0 d1 hc;clear hlt hk;obtain⟨wo,rfl⟩: ∃wo:World,wo=wr:=⟨_,rfl⟩;obtain⟨h1,h2,f,h3,h4⟩:=hI.out;obtain⟨f,rfl⟩: ∃g,f=g+1:=⟨f - 1,by omega⟩;clear hI;by_cases hlt:j<s.size;rotate_left
  . obtain rfl:j=s.size:=by omega
    have hR:RES=.bad 4 s.size:=by
     rw[<-h3];unfold Fw;rw[List.getElem?_eq_none (by rw[Ab];exact Nat.le_refl _)]
    obtain⟨H1,H3,HR⟩:=hid3 h1 h3 hR;clear h1 h3 hR;go_wp2;exact bodyPost_ret (As rfl _ _ _) rfl ⟨by rw[HR.out];rfl,H1.out⟩
  obtain⟨c,hc⟩: ∃c,s[j]=c:=⟨_,rfl⟩;have hg:s.data.toList[j]? =some c:=by rw[Bh s hlt,hc]
  have hcl:=Bn c;have hge: ¬((s.size:Int)<=(j:Int)):=by omega
  by_cases h34:c=34
  . subst h34;have hR:RES=.ok T.data.toList (j+1):=by
     rw[<-h3];unfold Fw;rw[hg];simp
    obtain⟨H1,H3,HR⟩:=hid3 h1 h3 hR;clear h1 h3 hR;clear hg;go_wp2;exact bodyPost_ret (As rfl _ _ _) rfl ⟨by rw[HR.out];simp only[Rf,Ak7];rfl,H1.out⟩
  have e34:=Ne.out c 34 (by decide) h34;by_cases h32:c.toNat<32
  . have hR:RES=.bad 4 j:=by
     rw[<-h3];unfold Fw;rw[hg];simp only;rw[if_neg h34,if_pos h32]
    have l32:(c.toNat:Int)<32:=by omega
    obtain⟨H1,H3,HR⟩:=hid3 h1 h3 hR;clear h1 h3 hR;clear hg h32 h34;go_wp2;exact bodyPost_ret (As rfl _ _ _) rfl ⟨by rw[HR.out];rfl,H1.out⟩
  have l32: ¬((c.toNat:Int)<32):=by omega
  by_cases h92:c=92;rotate_left
  . have e92:=Ne.out c 92 (by decide) h92;have hA:=fun W=>Ti s j W (by omega) (by omega);have hne:s.data.toList.drop j≠ []:=by rw[Er hg];simp
    have hgood:=Lv _ hne;unfold Jh at hgood;rw[hgood]at hA;have hR:RES=if(Lib.decodeL (s.data.toList.drop j)).1=65533/\(Lib.decodeL (s.data.toList.drop j)).2=1 then .bad 3 j else Fw f s.data.toList (j+(Lib.decodeL (s.data.toList.drop j)).2) (T.data.toList++(s.data.toList.drop j).take (Lib.decodeL (s.data.toList.drop j)).2):=by
     rw[<-h3]
     conv=>lhs;unfold Fw
     rw[hg];simp only;rw[if_neg h34,if_neg h32,if_neg h92]
    by_cases hbad:(Lib.decodeL (s.data.toList.drop j)).1=65533/\(Lib.decodeL (s.data.toList.drop j)).2=1
    . rw[if_pos hbad]at hR hA;obtain⟨H1,H3,HR,HA⟩:=hid4 h1 h3 hR hA;clear h1 h3 hR hA;clear hg h32 h34 h92 hne hgood hbad;go_wp2_with (fail);(with_reducible refine(HA.out _).mono ?_);rintro e w2 ⟨rfl,rfl⟩;go_wp2;exact bodyPost_ret (As rfl _ _ _) rfl ⟨by rw[HR.out];rfl,H1.out⟩
    . rw[if_neg hbad]at hR hA;have hsc:=Og hne hbad;have hw:=Lib.decodeL_width (s.data.toList.drop j);have hle:=Ac6 (by rw[Ab];exact hlt:j<s.data.toList.length);rw[Ab]at hle;have henc:=Lib.encode_decode _ hne hbad;obtain⟨sc1,sc2⟩:(Lib.decodeL (s.data.toList.drop j)).1<=1114111/\ ¬(55296<=(Lib.decodeL (s.data.toList.drop j)).1/\(Lib.decodeL (s.data.toList.drop j)).1<57344):=hsc;have hB:=fun W=>Lt ((Lib.decodeL (s.data.toList.drop j)).1:Int) (by omega) (by omega) (by omega) W;rw[henc]at hB;have hlt2:((s.data.toList.drop j).take (Lib.decodeL (s.data.toList.drop j)).2).length<=(Lib.decodeL (s.data.toList.drop j)).2:=by rw[List.length_take];omega
      generalize (s.data.toList.drop j).take (Lib.decodeL (s.data.toList.drop j)).2=X at hB hR hlt2;generalize Lib.decodeL (s.data.toList.drop j)=D at hA hB hR hw hle hlt2;obtain⟨r,n⟩:=D;simp only at hA hB hR hw hle hlt2;have hnext: ∀W',Below wo.heap.size wo W'->RUI s w RES (j+n) (T++⟨X.toArray⟩) W':=fun W' a1=>
       ⟨h1.trans (a1.mono h1.size),by rw[Zq];omega,f,by rw[Af1];exact hR.symm,by omega⟩
      have n0:((n:Int)==0)=false:=by rw[beq_eq_false_iff_ne];omega
      obtain⟨H1,H3,HR,HA,HB,Hnext⟩:=hid6 h1 h3 hR hA hB hnext;clear h1 h3 hR hA hB hnext;clear hg h32 h34 h92 hne hgood hbad sc1 sc2 henc;go_wp2_with (fail);(with_reducible refine(HA.out _).mono ?_);rintro e w2 ⟨rfl,rfl⟩;go_wp2_with (fail);(with_reducible refine(HB.out _).mono ?_);rintro e w2 ⟨rfl,hb2⟩;have HU2:=Lib.hid (Hnext.out w2 hb2);clear hb2;go_wp2;go_roundw
      case rel=>exact⟨_,j+n,rfl,by go_num,by omega,HU2⟩
      case measure=>simp[intOf];omega
  . subst h92;have hX:=fun W=>Un s j W hs (by omega);have hR:RES=match Fl (s.data.toList.drop j)with
     | .bad e _=> .bad e j
     | .ok r n=>Fw f s.data.toList (j+n) (T.data.toList++Lib.encodeRune (r:Int)):=by
     rw[<-h3]
     conv=>lhs;unfold Fw
     rw[hg];simp only;rw[if_neg (by decide),if_neg (by decide),if_pos trivial];rfl
    have hnext: ∀(r n:Nat) (W':World),Fl (s.data.toList.drop j)=.ok r n->Below wo.heap.size wo W'->RUI s w RES (j+n) (T++⟨(Lib.encodeRune (r:Int)).toArray⟩) W'/\j+n<=s.size/\2<=n:=fun r n W' e a1=>by
     have a2:=Nh e;have a3:=T0 e;rw[List.length_drop,Ab]at a2;rw[e]at hR;exact⟨⟨h1.trans (a1.mono h1.size),by rw[Zq];omega,f,by rw[Af1];exact hR.symm,by omega⟩,by omega,a2.2.2.1⟩
    have hBy: ∀(r n:Nat) (W:World),Fl (s.data.toList.drop j)=.ok r n->Calls Tryz.prog 88 #[.int .i64 r] W fun e w'=>e=.returned (.string ⟨(Lib.encodeRune r).toArray⟩)/\Below W.heap.size W w':=fun r n W e=>by
     have a2:=Nh e;exact Lt (r:Int) (by omega) (by omega) (by omega) W
    cases hu:Dw (s.data.toList.drop j)with
    |none=>
     have he:Fl (s.data.toList.drop j)=Sx (s.data.toList.drop j):=by unfold Fl;rw[hu]
     rw[hu]at hX;simp only[Ag2]at hX;have hg1:(s.data.toList.drop j)[1]? =s.data.toList[j+1]? :=by rw[List.getElem?_drop]
     have hb0:Hid (Below wo.heap.size wo wo):=Below.refl _ _;by_cases hin:j+1<s.size
     . obtain⟨x,hx⟩: ∃x,s[j+1]=x:=⟨_,rfl⟩;have hgx:s.data.toList[j+1]? =some x:=by rw[Bh s hin,hx]
       have hxl:=Bn x;obtain⟨t1,t2,t3,t4⟩:=Anm x;have he':Fl (s.data.toList.drop j)=match Ge x with
        |none=> .bad 4 0
        |some r=> .ok r 2:=by
        rw[he];unfold Sx;rw[hg1,hgx];rfl
       have hcmp: ∀q,q<8->(q<J9 x->((x.toNat:Int)==((Gh.getD q 0).toNat:Int))=false)/\(q=J9 x->((x.toNat:Int)==((Gh.getD q 0).toNat:Int))=true):=by
        intro q hq;have key:((x.toNat:Int)==((Gh.getD q 0).toNat:Int))=(x.toNat==(Gh.getD q 0).toNat):=by
         rw[Bool.eq_iff_iff];simp only[beq_iff_eq];omega
        rw[key];exact t4 q hq
       have i0:(0:Int)<=(j:Int)+1:=by omega
       have i1:(j:Int)+1<(s.size:Int):=by omega
       have i2:decide ((s.size:Int)<=(j:Int)+1)=false:=decide_eq_false (by omega);have hc0:=(hcmp 0 (by omega));have hc1:=(hcmp 1 (by omega));have hc2:=(hcmp 2 (by omega));have hc3:=(hcmp 3 (by omega));have hc4:=(hcmp 4 (by omega));have hc5:=(hcmp 5 (by omega));have hc6:=(hcmp 6 (by omega));have hc7:=(hcmp 7 (by omega));simp only[Gh,List.getD_cons_zero,List.getD_cons_succ]at hc0 hc1 hc2 hc3 hc4 hc5 hc6 hc7;clear hcmp t4;generalize J9 x=L at hc0 hc1 hc2 hc3 hc4 hc5 hc6 hc7 t1 t2 t3;obtain⟨H1,H3,HR,HX,Hnext,HBy,Hc0,Hc1,Hc2,Hc3,Hc4,Hc5,Hc6,Hc7,T2,T3⟩:=hid16 h1 h3 hR hX hnext hBy hc0 hc1 hc2 hc3 hc4 hc5 hc6 hc7 t2 t3;have He':=Lib.hid he';clear h1 h3 hR hX hnext hBy hc0 hc1 hc2 hc3 hc4 hc5 hc6 hc7 t2 t3 he';clear hg h32 h34 he hu hg1 hgx;go_wp2_with (fail);(with_reducible refine(HX.out _).mono ?_);rintro e w2 ⟨rfl,rfl⟩;go_wp2;go_loopw [13] (fun kk wr=> ∃q:Nat,kk=.int .i64 q/\q<=L/\Hid (Below wo.heap.size wo wr)) (fun kk _=>8 - (intOf kk).toNat)
       case atStart=>exact⟨0,rfl,Nat.zero_le _,hb0⟩
       case round=>
        obtain⟨q,rfl,hq,hb⟩:=hrel;clear hb0;by_cases hql:q<L
        . have hnx: ∀(n:Nat),Hid (Below wo.heap.size wo (wr.drewN n)):=fun n=>Bi hb.out n;rcases(by omega:q=0\/q=1\/q=2\/q=3\/q=4\/q=5\/q=6\/q=7)with rfl|rfl|rfl|rfl|rfl|rfl|rfl|rfl
          . have g0:(⟨#[34,92,47,98,102,110,114,116]⟩:ByteArray)[0]'(by decide)=34:=rfl;have f0:=Hc0.out.1 hql;have f1:((x.toNat:Int) != 34)=true:=by unfold bne;rw[show((x.toNat:Int)==34)=false from f0];rfl
            go_wp2;go_quiet (fail);go_wp2;go_roundw
            case rel=>exact⟨0+1,by first|rfl|go_num,by omega,hnx _⟩
            case measure=>simp[intOf]
          . have g0:(⟨#[34,92,47,98,102,110,114,116]⟩:ByteArray)[1]'(by decide)=92:=rfl;have f0:=Hc1.out.1 hql;have f1:((x.toNat:Int) != 92)=true:=by unfold bne;rw[show((x.toNat:Int)==92)=false from f0];rfl
            go_wp2;go_quiet (fail);go_wp2;go_roundw
            case rel=>exact⟨1+1,by first|rfl|go_num,by omega,hnx _⟩
            case measure=>simp[intOf]
          . have g0:(⟨#[34,92,47,98,102,110,114,116]⟩:ByteArray)[2]'(by decide)=47:=rfl;have f0:=Hc2.out.1 hql;have f1:((x.toNat:Int) != 47)=true:=by unfold bne;rw[show((x.toNat:Int)==47)=false from f0];rfl
            go_wp2;go_quiet (fail);go_wp2;go_roundw
            case rel=>exact⟨2+1,by first|rfl|go_num,by omega,hnx _⟩
            case measure=>simp[intOf]
          . have g0:(⟨#[34,92,47,98,102,110,114,116]⟩:ByteArray)[3]'(by decide)=98:=rfl;have f0:=Hc3.out.1 hql;have f1:((x.toNat:Int) != 98)=true:=by unfold bne;rw[show((x.toNat:Int)==98)=false from f0];rfl
            go_wp2;go_quiet (fail);go_wp2;go_roundw
            case rel=>exact⟨3+1,by first|rfl|go_num,by omega,hnx _⟩
            case measure=>simp[intOf]
          . have g0:(⟨#[34,92,47,98,102,110,114,116]⟩:ByteArray)[4]'(by decide)=102:=rfl;have f0:=Hc4.out.1 hql;have f1:((x.toNat:Int) != 102)=true:=by unfold bne;rw[show((x.toNat:Int)==102)=false from f0];rfl
            go_wp2;go_quiet (fail);go_wp2;go_roundw
            case rel=>exact⟨4+1,by first|rfl|go_num,by omega,hnx _⟩
            case measure=>simp[intOf]
          . have g0:(⟨#[34,92,47,98,102,110,114,116]⟩:ByteArray)[5]'(by decide)=110:=rfl;have f0:=Hc5.out.1 hql;have f1:((x.toNat:Int) != 110)=true:=by unfold bne;rw[show((x.toNat:Int)==110)=false from f0];rfl
            go_wp2;go_quiet (fail);go_wp2;go_roundw
            case rel=>exact⟨5+1,by first|rfl|go_num,by omega,hnx _⟩
            case measure=>simp[intOf]
          . have g0:(⟨#[34,92,47,98,102,110,114,116]⟩:ByteArray)[6]'(by decide)=114:=rfl;have f0:=Hc6.out.1 hql;have f1:((x.toNat:Int) != 114)=true:=by unfold bne;rw[show((x.toNat:Int)==114)=false from f0];rfl
            go_wp2;go_quiet (fail);go_wp2;go_roundw
            case rel=>exact⟨6+1,by first|rfl|go_num,by omega,hnx _⟩
            case measure=>simp[intOf]
          . have g0:(⟨#[34,92,47,98,102,110,114,116]⟩:ByteArray)[7]'(by decide)=116:=rfl;have f0:=Hc7.out.1 hql;have f1:((x.toNat:Int) != 116)=true:=by unfold bne;rw[show((x.toNat:Int)==116)=false from f0];rfl
            go_wp2;go_quiet (fail);go_wp2;go_roundw
            case rel=>exact⟨7+1,by first|rfl|go_num,by omega,hnx _⟩
            case measure=>simp[intOf]
        . obtain rfl:q=L:=by omega
          clear hql hq;by_cases h8:q=8
          . subst h8;have hR':RES=.bad 4 j:=by
             have:=HR.out;rw[He'.out,T2.out rfl]at this;exact this
            have hnx: ∀(n:Nat),Hid (Below w.heap.size w (wr.drewN n)):=fun n=>H1.out.trans ((Bi hb.out n).mono H1.out.size);have HR':=Lib.hid hR';clear hR';go_wp2;go_quiet (fail);go_wp2;exact bodyPost_ret (As rfl _ _ _) rfl ⟨by rw[HR'.out];rfl,hnx _⟩
          . obtain⟨r,hr,hcd⟩: ∃r:Nat,Ge x=some r/\Gx[q]? =some (r:Int):=by
             have hq8:q<8:=by omega
             have h:=T3.out hq8;have hcs: ∃c,Gx[q]? =some c:=⟨_,List.getElem?_eq_getElem hq8⟩;obtain⟨c,hcs⟩:=hcs;rw[hcs]at h
             cases hE:Ge x with
             |none=>rw[hE]at h;cases h
             |some r=>rw[hE]at h;exact⟨r,rfl,by rw[hcs,<-h];rfl⟩
            have he2:Fl (s.data.toList.drop j)=.ok r 2:=by rw[He'.out,hr]
            have hBy':=fun W=>HBy.out r 2 W he2;have hnext':=fun W'=>Hnext.out r 2 W' he2;have hCd:=fun W=>Rj q (r:Int) hcd W;have hX4:=Tc (r:Int);have hq8:q<8:=by omega
            generalize Lib.encodeRune (r:Int)=X at hBy' hnext' hX4;have hj2:=(hnext' wo (Below.refl _ _)).2.1;obtain⟨HBy',Hnext',HCd⟩:=hid3 hBy' hnext' hCd;clear hBy' hnext' hCd;clear he2 hr hcd;rcases(by omega:q=0\/q=1\/q=2\/q=3\/q=4\/q=5\/q=6\/q=7)with rfl|rfl|rfl|rfl|rfl|rfl|rfl|rfl
            . have g0:(⟨#[34,92,47,98,102,110,114,116]⟩:ByteArray)[0]'(by decide)=34:=rfl;have hcq: ∀W,Calls Tryz.prog 87 #[.int .i64 0] W (fun e w'=>e=.returned (.int .i64 (r:Int))/\Below W.heap.size W w'):=HCd.out;have HCq:=Lib.hid hcq;clear hcq;have f0:=Hc0.out.2 rfl;have f1:((x.toNat:Int) != 34)=false:=by unfold bne;rw[show((x.toNat:Int)==34)=true from f0];rfl
              go_wp2;go_quiet (fail);go_wp2_with (fail);(with_reducible refine(HCq.out _).mono ?_);rintro e w2 ⟨rfl,hb2⟩;have HB2:=Lib.hid (Below.drewN' hb.out hb2 hb.out.size);clear hb2;go_wp2_with (fail);(with_reducible refine(HBy'.out _).mono ?_);rintro e w3 ⟨rfl,hb3⟩;have HU2:=Lib.hid (Hnext'.out w3 (HB2.out.trans (hb3.mono HB2.out.size))).1;clear hb3;go_wp2;go_roundw
              case rel=>exact⟨_,j+2,rfl,by go_num,by omega,HU2⟩
              case measure=>simp[intOf];omega
            . have g0:(⟨#[34,92,47,98,102,110,114,116]⟩:ByteArray)[1]'(by decide)=92:=rfl;have hcq: ∀W,Calls Tryz.prog 87 #[.int .i64 1] W (fun e w'=>e=.returned (.int .i64 (r:Int))/\Below W.heap.size W w'):=HCd.out;have HCq:=Lib.hid hcq;clear hcq;have f0:=Hc1.out.2 rfl;have f1:((x.toNat:Int) != 92)=false:=by unfold bne;rw[show((x.toNat:Int)==92)=true from f0];rfl
              go_wp2;go_quiet (fail);go_wp2_with (fail);(with_reducible refine(HCq.out _).mono ?_);rintro e w2 ⟨rfl,hb2⟩;have HB2:=Lib.hid (Below.drewN' hb.out hb2 hb.out.size);clear hb2;go_wp2_with (fail);(with_reducible refine(HBy'.out _).mono ?_);rintro e w3 ⟨rfl,hb3⟩;have HU2:=Lib.hid (Hnext'.out w3 (HB2.out.trans (hb3.mono HB2.out.size))).1;clear hb3;go_wp2;go_roundw
              case rel=>exact⟨_,j+2,rfl,by go_num,by omega,HU2⟩
              case measure=>simp[intOf];omega
            . have g0:(⟨#[34,92,47,98,102,110,114,116]⟩:ByteArray)[2]'(by decide)=47:=rfl;have hcq: ∀W,Calls Tryz.prog 87 #[.int .i64 2] W (fun e w'=>e=.returned (.int .i64 (r:Int))/\Below W.heap.size W w'):=HCd.out;have HCq:=Lib.hid hcq;clear hcq;have f0:=Hc2.out.2 rfl;have f1:((x.toNat:Int) != 47)=false:=by unfold bne;rw[show((x.toNat:Int)==47)=true from f0];rfl
              go_wp2;go_quiet (fail);go_wp2_with (fail);(with_reducible refine(HCq.out _).mono ?_);rintro e w2 ⟨rfl,hb2⟩;have HB2:=Lib.hid (Below.drewN' hb.out hb2 hb.out.size);clear hb2;go_wp2_with (fail);(with_reducible refine(HBy'.out _).mono ?_);rintro e w3 ⟨rfl,hb3⟩;have HU2:=Lib.hid (Hnext'.out w3 (HB2.out.trans (hb3.mono HB2.out.size))).1;clear hb3;go_wp2;go_roundw
              case rel=>exact⟨_,j+2,rfl,by go_num,by omega,HU2⟩
              case measure=>simp[intOf];omega
            . have g0:(⟨#[34,92,47,98,102,110,114,116]⟩:ByteArray)[3]'(by decide)=98:=rfl;have hcq: ∀W,Calls Tryz.prog 87 #[.int .i64 3] W (fun e w'=>e=.returned (.int .i64 (r:Int))/\Below W.heap.size W w'):=HCd.out;have HCq:=Lib.hid hcq;clear hcq;have f0:=Hc3.out.2 rfl;have f1:((x.toNat:Int) != 98)=false:=by unfold bne;rw[show((x.toNat:Int)==98)=true from f0];rfl
              go_wp2;go_quiet (fail);go_wp2_with (fail);(with_reducible refine(HCq.out _).mono ?_);rintro e w2 ⟨rfl,hb2⟩;have HB2:=Lib.hid (Below.drewN' hb.out hb2 hb.out.size);clear hb2;go_wp2_with (fail);(with_reducible refine(HBy'.out _).mono ?_);rintro e w3 ⟨rfl,hb3⟩;have HU2:=Lib.hid (Hnext'.out w3 (HB2.out.trans (hb3.mono HB2.out.size))).1;clear hb3;go_wp2;go_roundw
              case rel=>exact⟨_,j+2,rfl,by go_num,by omega,HU2⟩
              case measure=>simp[intOf];omega
            . have g0:(⟨#[34,92,47,98,102,110,114,116]⟩:ByteArray)[4]'(by decide)=102:=rfl;have hcq: ∀W,Calls Tryz.prog 87 #[.int .i64 4] W (fun e w'=>e=.returned (.int .i64 (r:Int))/\Below W.heap.size W w'):=HCd.out;have HCq:=Lib.hid hcq;clear hcq;have f0:=Hc4.out.2 rfl;have f1:((x.toNat:Int) != 102)=false:=by unfold bne;rw[show((x.toNat:Int)==102)=true from f0];rfl
              go_wp2;go_quiet (fail);go_wp2_with (fail);(with_reducible refine(HCq.out _).mono ?_);rintro e w2 ⟨rfl,hb2⟩;have HB2:=Lib.hid (Below.drewN' hb.out hb2 hb.out.size);clear hb2;go_wp2_with (fail);(with_reducible refine(HBy'.out _).mono ?_);rintro e w3 ⟨rfl,hb3⟩;have HU2:=Lib.hid (Hnext'.out w3 (HB2.out.trans (hb3.mono HB2.out.size))).1;clear hb3;go_wp2;go_roundw
              case rel=>exact⟨_,j+2,rfl,by go_num,by omega,HU2⟩
              case measure=>simp[intOf];omega
            . have g0:(⟨#[34,92,47,98,102,110,114,116]⟩:ByteArray)[5]'(by decide)=110:=rfl;have hcq: ∀W,Calls Tryz.prog 87 #[.int .i64 5] W (fun e w'=>e=.returned (.int .i64 (r:Int))/\Below W.heap.size W w'):=HCd.out;have HCq:=Lib.hid hcq;clear hcq;have f0:=Hc5.out.2 rfl;have f1:((x.toNat:Int) != 110)=false:=by unfold bne;rw[show((x.toNat:Int)==110)=true from f0];rfl
              go_wp2;go_quiet (fail);go_wp2_with (fail);(with_reducible refine(HCq.out _).mono ?_);rintro e w2 ⟨rfl,hb2⟩;have HB2:=Lib.hid (Below.drewN' hb.out hb2 hb.out.size);clear hb2;go_wp2_with (fail);(with_reducible refine(HBy'.out _).mono ?_);rintro e w3 ⟨rfl,hb3⟩;have HU2:=Lib.hid (Hnext'.out w3 (HB2.out.trans (hb3.mono HB2.out.size))).1;clear hb3;go_wp2;go_roundw
              case rel=>exact⟨_,j+2,rfl,by go_num,by omega,HU2⟩
              case measure=>simp[intOf];omega
            . have g0:(⟨#[34,92,47,98,102,110,114,116]⟩:ByteArray)[6]'(by decide)=114:=rfl;have hcq: ∀W,Calls Tryz.prog 87 #[.int .i64 6] W (fun e w'=>e=.returned (.int .i64 (r:Int))/\Below W.heap.size W w'):=HCd.out;have HCq:=Lib.hid hcq;clear hcq;have f0:=Hc6.out.2 rfl;have f1:((x.toNat:Int) != 114)=false:=by unfold bne;rw[show((x.toNat:Int)==114)=true from f0];rfl
              go_wp2;go_quiet (fail);go_wp2_with (fail);(with_reducible refine(HCq.out _).mono ?_);rintro e w2 ⟨rfl,hb2⟩;have HB2:=Lib.hid (Below.drewN' hb.out hb2 hb.out.size);clear hb2;go_wp2_with (fail);(with_reducible refine(HBy'.out _).mono ?_);rintro e w3 ⟨rfl,hb3⟩;have HU2:=Lib.hid (Hnext'.out w3 (HB2.out.trans (hb3.mono HB2.out.size))).1;clear hb3;go_wp2;go_roundw
              case rel=>exact⟨_,j+2,rfl,by go_num,by omega,HU2⟩
              case measure=>simp[intOf];omega
            . have g0:(⟨#[34,92,47,98,102,110,114,116]⟩:ByteArray)[7]'(by decide)=116:=rfl;have hcq: ∀W,Calls Tryz.prog 87 #[.int .i64 7] W (fun e w'=>e=.returned (.int .i64 (r:Int))/\Below W.heap.size W w'):=HCd.out;have HCq:=Lib.hid hcq;clear hcq;have f0:=Hc7.out.2 rfl;have f1:((x.toNat:Int) != 116)=false:=by unfold bne;rw[show((x.toNat:Int)==116)=true from f0];rfl
              go_wp2;go_quiet (fail);go_wp2_with (fail);(with_reducible refine(HCq.out _).mono ?_);rintro e w2 ⟨rfl,hb2⟩;have HB2:=Lib.hid (Below.drewN' hb.out hb2 hb.out.size);clear hb2;go_wp2_with (fail);(with_reducible refine(HBy'.out _).mono ?_);rintro e w3 ⟨rfl,hb3⟩;have HU2:=Lib.hid (Hnext'.out w3 (HB2.out.trans (hb3.mono HB2.out.size))).1;clear hb3;go_wp2;go_roundw
              case rel=>exact⟨_,j+2,rfl,by go_num,by omega,HU2⟩
              case measure=>simp[intOf];omega
     . have he':Fl (s.data.toList.drop j)=.bad 4 0:=by
        rw[he];unfold Sx;rw[hg1,List.getElem?_eq_none (by rw[Ab];omega)]
       rw[he']at hR;simp only at hR;have i2:decide ((s.size:Int)<=(j:Int)+1)=true:=decide_eq_true (by omega);obtain⟨H1,H3,HR,HX,Hnext,HBy⟩:=hid6 h1 h3 hR hX hnext hBy;clear h1 h3 hR hX hnext hBy;clear hg h32 h34 he he' hu hg1 hin;go_wp2_with (fail);(with_reducible refine(HX.out _).mono ?_);rintro e w2 ⟨rfl,rfl⟩;go_wp2;go_loopw [13] (fun kk wr=> ∃q:Nat,kk=.int .i64 q/\q<=8/\Hid (Below wo.heap.size wo wr)) (fun kk _=>8 - (intOf kk).toNat)
       case atStart=>exact⟨0,rfl,Nat.zero_le _,hb0⟩
       case round=>
        obtain⟨q,rfl,hq,hb⟩:=hrel;clear hb0;by_cases hql:q<8
        . have hnx: ∀(n:Nat),Hid (Below wo.heap.size wo (wr.drewN n)):=fun n=>Bi hb.out n;have l8:decide ((q:Int)<8)=true:=decide_eq_true (by omega);go_wp2;go_quiet (fail);go_wp2;go_roundw
          case rel=>exact⟨q+1,by go_num,by omega,hnx _⟩
          case measure=>simp[intOf];omega
        . obtain rfl:q=8:=by omega
          have hnx: ∀(n:Nat),Hid (Below w.heap.size w (wr.drewN n)):=fun n=>H1.out.trans ((Bi hb.out n).mono H1.out.size);clear hql;go_wp2;go_quiet (fail);go_wp2;exact bodyPost_ret (As rfl _ _ _) rfl ⟨by rw[HR.out];rfl,hnx _⟩
    |some u=>
     obtain⟨hu1,hu2⟩:=Lp hu;rw[List.length_drop,Ab]at hu2;have he:Fl (s.data.toList.drop j)=Fu u (s.data.toList.drop (j+6)):=by unfold Fl;rw[hu];simp only[List.drop_drop]
     rw[hu]at hX;simp only[Ag2]at hX;by_cases hs1:55296<=u/\u<57344
     . obtain⟨s1,s2⟩:=hs1;have l1:decide ((55296:Int)<=(u:Int))=true:=decide_eq_true (by omega);have l2:decide ((u:Int)<57344)=true:=decide_eq_true (by omega);have hX2:=fun W=>Un s (j+6) W hs (by omega);have ej:((j+6:Nat):Int)=(j:Int)+6:=by omega
       rw[ej]at hX2;clear ej;by_cases hs2:56320<=u
       . have he2:Fl (s.data.toList.drop j)=.bad 3 0:=by rw[he];unfold Fu;rw[if_neg (by omega),if_pos hs2]
         rw[he2]at hR;simp only at hR;have l3:decide ((56320:Int)<=(u:Int))=true:=decide_eq_true (by omega);generalize Ag2 (Dw (s.data.toList.drop (j+6)))=M at hX2;obtain⟨H1,H3,HR,HX,HX2,Hnext,HBy⟩:=hid7 h1 h3 hR hX hX2 hnext hBy;clear h1 h3 hR hX hX2 hnext hBy;clear hg h32 h34 he he2 hu;go_wp2_with (fail);(with_reducible refine(HX.out _).mono ?_);rintro e w2 ⟨rfl,rfl⟩;go_wp2_with (fail);(with_reducible refine(HX2.out _).mono ?_);rintro e w2 ⟨rfl,rfl⟩;go_wp2;exact bodyPost_ret (As rfl _ _ _) rfl ⟨by rw[HR.out];rfl,H1.out⟩
       have l3:decide ((56320:Int)<=(u:Int))=false:=decide_eq_false (by omega)
       cases hm:Dw (s.data.toList.drop (j+6))with
       |none=>
        have he2:Fl (s.data.toList.drop j)=.bad 3 0:=by rw[he];unfold Fu;rw[if_neg (by omega),if_neg hs2,hm]
        rw[he2]at hR;simp only at hR;rw[hm]at hX2;simp only[Ag2]at hX2;obtain⟨H1,H3,HR,HX,HX2,Hnext,HBy⟩:=hid7 h1 h3 hR hX hX2 hnext hBy;clear h1 h3 hR hX hX2 hnext hBy;clear hg h32 h34 he he2 hu hm;go_wp2_with (fail);(with_reducible refine(HX.out _).mono ?_);rintro e w2 ⟨rfl,rfl⟩;go_wp2_with (fail);(with_reducible refine(HX2.out _).mono ?_);rintro e w2 ⟨rfl,rfl⟩;go_wp2;exact bodyPost_ret (As rfl _ _ _) rfl ⟨by rw[HR.out];rfl,H1.out⟩
       |some m=>
        obtain⟨hm1,hm2⟩:=Lp hm;rw[hm]at hX2;simp only[Ag2]at hX2;by_cases hs3:m<56320\/57344<=m
        . have he2:Fl (s.data.toList.drop j)=.bad 3 0:=by rw[he];unfold Fu;rw[if_neg (by omega),if_neg hs2,hm];simp only;rw[if_pos hs3]
          rw[he2]at hR;simp only at hR;obtain⟨H1,H3,HR,HX,HX2,Hnext,HBy⟩:=hid7 h1 h3 hR hX hX2 hnext hBy;clear h1 h3 hR hX hX2 hnext hBy;clear hg h32 h34 he he2 hu hm;rcases hs3 with hs3|hs3
          . have l4:decide ((m:Int)<56320)=true:=decide_eq_true (by omega);clear hs3;go_wp2_with (fail);(with_reducible refine(HX.out _).mono ?_);rintro e w2 ⟨rfl,rfl⟩;go_wp2_with (fail);(with_reducible refine(HX2.out _).mono ?_);rintro e w2 ⟨rfl,rfl⟩;go_wp2;exact bodyPost_ret (As rfl _ _ _) rfl ⟨by rw[HR.out];rfl,H1.out⟩
          . have l4:decide ((m:Int)<56320)=false:=decide_eq_false (by omega);have l5:decide ((57344:Int)<=(m:Int))=true:=decide_eq_true (by omega);clear hs3;go_wp2_with (fail);(with_reducible refine(HX.out _).mono ?_);rintro e w2 ⟨rfl,rfl⟩;go_wp2_with (fail);(with_reducible refine(HX2.out _).mono ?_);rintro e w2 ⟨rfl,rfl⟩;go_wp2;exact bodyPost_ret (As rfl _ _ _) rfl ⟨by rw[HR.out];rfl,H1.out⟩
        . have he2:Fl (s.data.toList.drop j)=.ok (65536+1024*(u - 55296)+(m - 56320)) 12:=by rw[he];unfold Fu;rw[if_neg (by omega),if_neg hs2,hm];simp only;rw[if_neg hs3]
          have l4:decide ((m:Int)<56320)=false:=decide_eq_false (by omega);have l5:decide ((57344:Int)<=(m:Int))=false:=decide_eq_false (by omega);have hBy':=fun W=>hBy _ _ W he2;have hnext':=fun W'=>hnext _ _ W' he2;have eq:(((65536+1024*(u - 55296)+(m - 56320):Nat)):Int)=65536+1024*((u:Int) - 55296)+(m:Int) - 56320:=by omega
          rw[eq]at hBy' hnext';have hX4:=Tc (65536+1024*((u:Int) - 55296)+(m:Int) - 56320);generalize Lib.encodeRune (65536+1024*((u:Int) - 55296)+(m:Int) - 56320)=X at hBy' hnext' hX4;have hj12:=(hnext' wo (Below.refl _ _)).2.1;obtain⟨H1,H3,HR,HX,HX2,Hnext,HBy,HBy',Hnext'⟩:=hid9 h1 h3 hR hX hX2 hnext hBy hBy' hnext';clear h1 h3 hR hX hX2 hnext hBy hBy' hnext';clear hg h32 h34 he he2 hu hm hs3 hs2 eq;go_wp2_with (fail);(with_reducible refine(HX.out _).mono ?_);rintro e w2 ⟨rfl,rfl⟩;go_wp2_with (fail);(with_reducible refine(HX2.out _).mono ?_);rintro e w2 ⟨rfl,rfl⟩;go_wp2_with (fail);(with_reducible refine(HBy'.out _).mono ?_);rintro e w2 ⟨rfl,hb2⟩;have HU2:=Lib.hid (Hnext'.out w2 hb2).1;clear hb2;go_wp2;go_roundw
          case rel=>exact⟨_,j+12,rfl,by go_num,by omega,HU2⟩
          case measure=>simp[intOf];omega
     . have he2:Fl (s.data.toList.drop j)=.ok u 6:=by rw[he];unfold Fu;rw[if_pos (by omega)]
       have hBy':=fun W=>hBy _ _ W he2;have hnext':=fun W'=>hnext _ _ W' he2;have l0:decide ((0:Int)<=(u:Int))=true:=decide_eq_true (by omega);have hX4:=Tc (u:Int);generalize Lib.encodeRune (u:Int)=X at hBy' hnext' hX4;obtain⟨H1,H3,HR,HX,Hnext,HBy,HBy',Hnext'⟩:=hid8 h1 h3 hR hX hnext hBy hBy' hnext';clear h1 h3 hR hX hnext hBy hBy' hnext';clear hg h32 h34 he he2 hu;rcases(by omega:u<55296\/(55296<=u/\57344<=u))with hs3|⟨hs3,hs4⟩
       . have l1:decide ((55296:Int)<=(u:Int))=false:=decide_eq_false (by omega);clear hs1 hs3;go_wp2_with (fail);(with_reducible refine(HX.out _).mono ?_);rintro e w2 ⟨rfl,rfl⟩;go_wp2_with (fail);(with_reducible refine(HBy'.out _).mono ?_);rintro e w2 ⟨rfl,hb2⟩;have HU2:=Lib.hid (Hnext'.out w2 hb2).1;clear hb2;go_wp2;go_roundw
         case rel=>exact⟨_,j+6,rfl,by go_num,by omega,HU2⟩
         case measure=>simp[intOf];omega
       . have l1:decide ((55296:Int)<=(u:Int))=true:=decide_eq_true (by omega);have l2:decide ((u:Int)<57344)=false:=decide_eq_false (by omega);clear hs1 hs3 hs4;go_wp2_with (fail);(with_reducible refine(HX.out _).mono ?_);rintro e w2 ⟨rfl,rfl⟩;go_wp2_with (fail);(with_reducible refine(HBy'.out _).mono ?_);rintro e w2 ⟨rfl,hb2⟩;have HU2:=Lib.hid (Hnext'.out w2 hb2).1;clear hb2;go_wp2;go_roundw
         case rel=>exact⟨_,j+6,rfl,by go_num,by omega,HU2⟩
         case measure=>simp[intOf];omega
end Go.Proofs.YtackmnbpfbaemaaGreatDoor
