/- Parts, joined: Rows that a call makes and fills, of data of any make. Plain. No condition. sort.Slice of members by their keys, as value.Object calls it. Condition: fewer than 2^62 of them. utf.Unquote: the text that is quoted from a place on. Condition: a text of at most 10^9 bytes. -/
import Derived.Test.YtackmnbpfbaemaaGreatDoorProg
import Derived.Test.YtackmnbpfbaemaaGreatDoorZShelf
import Derived.Shelf.SlSortFuncK.WholeK
import Derived.Shelf.GgSortFunc.Tiny
import Derived.Deep.QuietTactic
import Derived.BigQuiet
import Derived.Test.YtackmnbpfbaemaaGreatDoorKAs6
import Derived.Test.YtackmnbpfbaemaaGreatDoorKAs11
import Derived.Test.YtackmnbpfbaemaaGreatDoorKAs13
import Derived.Test.YtackmnbpfbaemaaGreatDoorKAs18
import Derived.Test.YtackmnbpfbaemaaGreatDoorKAs21
import Derived.Test.YtackmnbpfbaemaaGreatDoorKAs22
namespace Go.Proofs.YtackmnbpfbaemaaGreatDoor
open Go Go.RowKit
def setMany (w:World) (g o:Nat):List Value→World
 | []=>w
 |v::r=>setMany (w.setCell ⟨g,o,none⟩ v) g (o+1) r
def over (cs:Array Value) (o:Nat):List Value→Array Value
 | []=>cs
 |v::r=>over (cs.setIfInBounds o v) (o+1) r
theorem setMany_size: ∀(vs:List Value) (w:World) (g o:Nat),(setMany w g o vs).heap.size=w.heap.size
 | [],_,_,_=>rfl
 |v::r,w,g,o=>by simp only[setMany];rw[setMany_size r];simp[World.setCell]
theorem setMany_far: ∀(vs:List Value) (w:World) (g o c:Nat),c≠g→(setMany w g o vs).heap[c]? =w.heap[c]?
 | [],_,_,_,_,_=>rfl
 |v::r,w,g,o,c,h=>by
  simp only[setMany]
  rw[setMany_far r _ _ _ _ h]
  simp only[World.setCell,Array.getElem?_modify]
  rw[if_neg (fun e=>h e.symm)]
theorem setMany_at: ∀(vs:List Value) {w:World} {g o:Nat} {cs:Array Value} {t:TypeId},w.heap[g]? =some (.cells cs t (0,0))→(setMany w g o vs).heap[g]? =some (.cells (over cs o vs) t (0,0))
 | [],_,_,_,_,_,h=>h
 |v::r,w,g,o,cs,t,h=>by
  simp only[setMany,over]
  exact setMany_at r (by simp[World.setCell,Array.getElem?_modify,h])
theorem setMany_below {B:Nat} {a:World}: ∀(vs:List Value) {w:World} {g o:Nat},Below B a w→B≤g→Below B a (setMany w g o vs)
 | [],_,_,_,h,_=>h
 |v::r,w,g,o,h,hg=>by
  simp only[setMany]
  exact setMany_below r (h.setCell hg _) hg
theorem over_size: ∀(vs:List Value) (cs:Array Value) (o:Nat),(over cs o vs).size=cs.size
 | [],_,_=>rfl
 |v::r,cs,o=>by simp only[over];rw[over_size r];simp
theorem over_get: ∀(vs:List Value) (cs:Array Value) (o i:Nat),o+vs.length≤cs.size→(over cs o vs)[i]? =if o≤i∧i<o+vs.length then vs[i - o]? else cs[i]?
 | [],cs,o,i,_=>by
   simp only[over,List.length_nil]
   rw[if_neg (by omega)]
 |v::r,cs,o,i,h=>by
  simp only[List.length_cons]at h
  simp only[over]
  rw[over_get r _ _ _ (by simp;omega)]
  by_cases h1:o+1≤i∧i<o+1+r.length
  · rw[if_pos h1,if_pos ⟨by omega,by simp only[List.length_cons];omega⟩,show i - o=(i - (o+1))+1 from by omega,List.getElem?_cons_succ]
  · rw[if_neg h1]
    by_cases h2:i=o
    · subst h2
      rw[if_pos ⟨Nat.le_refl _,by simp⟩]
      simp only[Nat.sub_self,List.getElem?_cons_zero]
      rw[Array.getElem?_setIfInBounds_self_of_lt (by omega)]
    · rw[if_neg (by simp only[List.length_cons];omega),Array.getElem?_setIfInBounds_ne (by omega)]
def FillD (b g:Nat) (t:TypeId) (s N:Nat) (wr:World) (l:List D):Prop:=
 b≤g∧l.length≤N∧(∀d ∈ l,d.cells=s)∧ ∃(cs:Array Value) (ns:List Value),wr.heap[g]? =some (.cells cs t (0,0))∧cs.size=N*s∧(∀(j:Nat) (u:Value),ns[j]? =some u→cs[j]? =some u)∧
  ∀w'':World,wr.heap.size≤w''.heap.size→(∀p:Addr,b≤p.block→p.block<wr.heap.size→p.block≠g→w''.cell? p=wr.cell? p)→HoldsA w'' wr.heap.size l ns
theorem FillD.start {b g:Nat} {t:TypeId} {s N:Nat} {wr:World} {cs:Array Value} (hb:b≤g) (hg:wr.heap[g]? =some (.cells cs t (0,0))) (hs:cs.size=N*s):FillD b g t s N wr []:=
 ⟨hb,Nat.zero_le _,fun d hd=>(by cases hd),cs, [],hg,hs,fun j u h=>(by simp at h),fun _ _ _=>rfl⟩
theorem FillD.lt {b g:Nat} {t:TypeId} {s N:Nat} {wr:World} {l:List D} (h:FillD b g t s N wr l):g<wr.heap.size:=by
 obtain⟨_,_,_,cs,ns,h4,_⟩:=h
 exact(Array.getElem?_eq_some_iff.1 h4).1
theorem FillD.cell {b g:Nat} {t:TypeId} {s N:Nat} {wr:World} {l:List D} (h:FillD b g t s N wr l):(∀j,j<N*s→ ∃u,wr.cell? ⟨g,j,none⟩=some u)∧ ∀j,wr.frozen? ⟨g,j,none⟩=false:=by
 obtain⟨_,_,_,cs,ns,h4,h5,_⟩:=h
 refine⟨fun j hj=> ?_,fun j=> ?_⟩
 · exact⟨cs[j],by rw[cell_of_row wr g j cs t (0,0) h4];exact Array.getElem?_eq_getElem (by omega)⟩
 · simp[World.frozen?,h4]
theorem FillD.keep {b g:Nat} {t:TypeId} {s N:Nat} {wr w':World} {l:List D} (h:FillD b g t s N wr l) (hs:wr.heap.size≤w'.heap.size) (hk: ∀i,b≤i→i<wr.heap.size→w'.heap[i]? =wr.heap[i]?):FillD b g t s N w' l:=by
 have hlt:=h.lt
 obtain⟨h1,h2,h3,cs,ns,h4,h5,h6,h7⟩:=h
 exact⟨h1,h2,h3,cs,ns,(hk g h1 hlt).trans h4,h5,h6,fun w'' k1 k2=>HoldsA.more (h7 w'' (by omega) (fun p p1 p2 p3=>(k2 p p1 (by omega) p3).trans (World.cell?_of_block (hk p.block p1 p2)))) hs⟩
theorem FillD.below {b g:Nat} {t:TypeId} {s N:Nat} {wr w':World} {l:List D} (h:FillD b g t s N wr l) (hb:Below wr.heap.size wr w'):FillD b g t s N w' l:=h.keep hb.size fun i _ hi=>hb.block i hi
theorem FillD.step {b g:Nat} {t:TypeId} {s N:Nat} {wr w4:World} {l:List D} {d:D} {cs':List Value} (h:FillD b g t s N wr l) (hl:l.length<N) (hd:d.cells=s) (hx:Fresh wr.heap.size w4 d cs') (h4:Below wr.heap.size wr w4):
 FillD b g t s N (setMany w4 g (l.length*s) cs') (l++ [d]):=by
 have hlt:=h.lt
 have h':=h.below h4
 obtain⟨h1,h2,h3,cs,ns,k4,h5,h6,h7⟩:=h'
 have hcl:cs'.length=s:=hx.now.len.1.trans hd
 have hnl:ns.length=l.length*s:=by
  have hA:=h7 w4 (Nat.le_refl _) (fun _ _ _ _=>rfl)
  rw[hA.len.1,cellsA_all h3]
 have hN:l.length*s+s≤N*s:=by
  have:=Nat.mul_le_mul_right s (show l.length+1≤N by omega)
  rw[Nat.add_mul,Nat.one_mul]at this
  exact this
 have hsz:=h4.size
 refine⟨h1,by rw[List.length_append,List.length_cons,List.length_nil];omega, ?_,over cs (l.length*s) cs',ns++cs',setMany_at cs' k4,by rw[over_size];exact h5, ?_, ?_⟩
 · intro x hx'
   rcases List.mem_append.1 hx' with hx'|hx'
   · exact h3 x hx'
   · simp only[List.mem_cons,List.not_mem_nil,or_false]at hx'
     rw[hx'];exact hd
 · intro j u hj
   rw[over_get cs' cs (l.length*s) j (by omega)]
   by_cases hjn:j<ns.length
   · rw[List.getElem?_append_left hjn]at hj
     rw[if_neg (by omega)]
     exact h6 j u hj
   · rw[List.getElem?_append_right (by omega)]at hj
     have:=(List.getElem?_eq_some_iff.1 hj).1
     rw[if_pos ⟨by omega,by omega⟩,←hnl]
     exact hj
 · intro w'' k1 k2
   rw[setMany_size]at k1 k2 ⊢
   have hfar: ∀p:Addr,b≤p.block→p.block<w4.heap.size→p.block≠g→w''.cell? p=w4.cell? p:=fun p p1 p2 p3=>(k2 p p1 p2 p3).trans (World.cell?_of_block (setMany_far cs' w4 g _ _ p3))
   exact(h7 w'' k1 hfar).snoc (hx w'' k1 (fun p p1 p2=>hfar p (by omega) p2 (by omega)))
theorem FillD.close {b g:Nat} {t:TypeId} {s:Nat} {wr:World} {l:List D} (h:FillD b g t s l.length wr l) (c:Nat):Fresh b wr (.row s l) [.slice (some ⟨g,0,none⟩) l.length c]:=by
 have hlt:=h.lt
 obtain⟨h1,h2,h3,cs,ns,h4,h5,h6,h7⟩:=h
 intro w'' k1 k2
 refine⟨_,c,rfl,h3,ns,h7 w'' k1 (fun p p1 p2 _=>k2 p p1 p2), .inr ⟨g,0,rfl,hlt,fun j u hu=> ?_⟩⟩
 rw[k2 _ h1 hlt,Nat.zero_add,cell_of_row wr g j cs t (0,0) h4]
 exact h6 j u hu
end Go.Proofs.YtackmnbpfbaemaaGreatDoor

namespace Go.Proofs.YtackmnbpfbaemaaGreatDoor
open Go.RowKit
abbrev Mx:Type:=ByteArray×(Val×((Option Addr×Nat)×(Option Addr×Nat)))
instance:Inhabited Val:=⟨.mk 0 false 0 ⟨#[]⟩ [] []⟩
def encM:Mx→List Value
 |(key,(.mk k b n t l o,((la,lc),(oa,oc))))=> [.string key, .int .i64 k, .bool b, .int .i64 n, .string t, .slice la l.length lc, .slice oa o.length oc]
def memM (x:Mx):ByteArray×Val:=(x.1,x.2.1)
theorem encM_len (x:Mx):(encM x).length=7:=by
 obtain⟨key,⟨k,b,n,t,l,o⟩,⟨la,lc⟩,oa,oc⟩:=x
 rfl
theorem encM_one (x:Mx): ∀v ∈ encM x,v.oneCell'=true:=by
 obtain⟨key,⟨k,b,n,t,l,o⟩,⟨la,lc⟩,oa,oc⟩:=x
 intro v hv
 simp only[encM,List.mem_cons,List.not_mem_nil,or_false]at hv
 rcases hv with rfl|rfl|rfl|rfl|rfl|rfl|rfl<;>rfl
theorem encM_key (x:Mx):(encM x)[0]! = .string x.1:=by
 obtain⟨key,⟨k,b,n,t,l,o⟩,⟨la,lc⟩,oa,oc⟩:=x
 rfl
def ltM (x y:Mx):Bool:=ltB x.1 y.1
theorem swoM:Go.Sort.SWO ltM where
 irrefl x:=ltB_irrefl _
 trans x y z h k:=ltB_trans h k
 ntrans x y z h k:=by
  unfold ltM at*
  cases e:ltB x.1 z.1 with
  |false=>rfl
  |true=>
   rcases ltB_tri x.1 y.1 with p|p|p
   · rw[h]at p;cases p
   · rw[p]at e;rw[k]at e;cases e
   · have:=ltB_trans p e;rw[k]at this;cases this
theorem lessM (blk off c Bs size:Nat) (W:World) (G:Nat→ByteArray) (hs:W.cell? ⟨Bs,0,none⟩=some (.slice (some ⟨blk,off,none⟩) size c))
 (hc: ∀t,t<size→W.cell? ⟨blk,off+t*7,none⟩=some (.string (G t))) (i j:Nat) (hi:i<size) (hj:j<size) (_hsz:size<4611686018427387904):
 Calls Tryz.prog 71 #[.int .i64 i, .int .i64 j, .pointer (some ⟨Bs,0,none⟩)] W fun e w'=>e= .returned (.bool (ltB (G i) (G j)))∧ ∃q,w'=W.drewN q:=by
 have ci:=hc i hi
 have cj:=hc j hj
 clear hc
 have i1:(i:Int)<(size:Int):=by omega
 have j1:(j:Int)<(size:Int):=by omega
 go_enter Tryz.func71,Tryz.ntmps71
 go_wp2
 go_quiet (fail)
 go_wp2
 go_ret
 exact⟨rfl,nq,rfl⟩
noncomputable def sortT:TypeInfo:=(Tryz.prog.info? 37).get (by kernel_rfl)
noncomputable def sortE:TypeInfo:=(Tryz.prog.info? 63).get (by kernel_rfl)
theorem sortK (n:Nat) (h2:2≤n):Lib.swapperK n sortE 25=9:=by
 have a:sortE.hasPointers=true:=by kernel_rfl
 have b:sortE.bytes=104:=by kernel_rfl
 have c:(n==0)=false:=by simp;omega
 have d:(n==1)=false:=by simp;omega
 simp[Lib.swapperK,a,b,c,d]
def SortPost (w:World) (blk:Nat) (d:Array Mx) (e:Ending) (w':World):Prop:=e= .returned (.tuple #[])∧ ∃d':Array Mx,d'.size=d.size∧d'.toList.Perm d.toList∧Go.Sort.SortedIn ltM 0 d.size d'∧
 (∀i,i<d.size→ ∀j,j<7→w'.cell? ⟨blk,i*7+j,none⟩=some (encM d'[i]!)[j]!)∧(∀b,b<w.heap.size→b≠blk→w'.heap[b]? =w.heap[b]?)∧w.heap.size≤w'.heap.size∧w'.os=w.os∧w'.tape=w.tape∧w'.output=w.output
theorem sortM_many (blk c Bs:Nat) (d:Array Mx) (h2:2≤d.size) (hsz:d.size<4611686018427387904) (w:World) (hH:Go.Sort.HoldsK encM 7 w blk 0 d) (hblk:blk<w.heap.size)
 (hBs:w.cell? ⟨Bs,0,none⟩=some (.slice (some ⟨blk,0,none⟩) d.size c)) (hB1:Bs<w.heap.size) (hB2:Bs≠blk):
 Calls Tryz.prog 70 #[.iface 37 (.slice (some ⟨blk,0,none⟩) d.size c), .func (.func 71) #[] #[.pointer (some ⟨Bs,0,none⟩)]] w (SortPost w blk d):=by
 have hless:LessReadsK Tryz.prog 71 #[.pointer (some ⟨Bs,0,none⟩)] encM 7 ltM blk 0 d.size w:=by
  intro m os dk hs i j hi hj
  have e:sortWorldK encM 7 w blk 0 m dk os=Go.Sort.putRowK encM 7 (Go.Sort.grow (Go.Sort.ahead w m) os) blk 0 dk:=by
   unfold sortWorldK;rw[Go.Sort.putRowK_grow _ _ (Go.Sort.ahead w m) _ blk 0 _ hblk]
  have hHg:Go.Sort.HoldsK encM 7 (Go.Sort.grow (Go.Sort.ahead w m) os) blk 0 d:=Go.Sort.holdsK_grow _ _ _ _ blk 0 d hblk (Go.Sort.holdsK_ahead _ _ _ _ _ _ _ hH)
  refine lessM blk 0 c Bs d.size _ (fun t=>dk[t]!.1) ?_ (fun t ht=> ?_) i j hi hj (by omega)
  · rw[e,Go.Sort.cell?_putRowK_other _ _ _ blk 0 dk _ (by exact hB2),Go.Sort.cell?_grow _ _ _ (by exact hB1)];exact hBs
  · rw[e,←encM_key];exact((Go.Sort.holdsK_putRowK _ _ _ blk 0 d dk hHg hs).cell (i:=t) (c:=0) (by omega) (by omega)).1
 have hS:=Any.sort_Slice_cells_sorted Tryz.sortSlice_lays 37 63 sortT sortE (by kernel_rfl) (by kernel_rfl) (by kernel_rfl) (by kernel_rfl) 25 (fun _=>by kernel_rfl) encM 7 encM_len (by kernel_rfl) (fun _=>by kernel_rfl)
  encM_one ltM swoM 71 _
  (enters_of Tryz.func71 (by kernel_rfl) rfl) blk 0 c d h2 hsz 147 (by rw[sortK _ h2];kernel_rfl) false
  (fun args W=>run_callFunc_extern Tryz.func147 (by kernel_rfl) (by kernel_rfl) (by kernel_rfl) (e:=Extern.ReflectliteSwapper.swap false) (by kernel_rfl) args W) w hless hH hblk
 change Calls Tryz.prog 70 _ _ _ at hS
 refine hS.mono ?_
 rintro e w' ⟨rfl,d',n,os,⟨hs',_,hp⟩,hso,rfl⟩
 have hp':d'.toList.Perm d.toList:=by
  have e1:d'.extract 0 d.size=d':=by rw[←hs'];simp
  have e2:d.extract 0 d.size=d:=by simp
  rwa [e1,e2]at hp
 have hH2:Go.Sort.HoldsK encM 7 (Go.Sort.putRowK encM 7 (Go.Sort.ahead w n) blk 0 d') blk 0 d':=Go.Sort.holdsK_putRowK _ _ _ blk 0 d d' (Go.Sort.holdsK_ahead _ _ _ _ _ _ _ hH) hs'
 have hsize:(Go.Sort.putRowK encM 7 (Go.Sort.ahead w n) blk 0 d').heap.size=w.heap.size:=by
  simp[Go.Sort.putRowK,Go.Sort.putRow,Go.Sort.mapBlock,Go.Sort.ahead]
 refine⟨rfl,d',hs',hp',hso,fun i hi j hj=> ?_,fun b hb hne=> ?_,by rw[Go.Sort.size_grow,hsize];omega,rfl,rfl,rfl⟩
 · rw[Go.Sort.cell?_grow _ _ _ (by show blk<_;rw[hsize];exact hblk)]
   have:=(hH2.cell (i:=i) (c:=j) (by omega) hj).1
   rwa [Nat.zero_add]at this
 · show((Go.Sort.putRowK encM 7 (Go.Sort.ahead w n) blk 0 d').heap++os)[b]? =_
   rw[Array.getElem?_append_left (by rw[hsize];exact hb)]
   simp only[Go.Sort.putRowK,Go.Sort.putRow,Go.Sort.mapBlock,Go.Sort.ahead,Array.getElem?_modify]
   rw[if_neg (fun e=>hne e.symm)]
theorem sortM_few (p:Option Addr) (n c Bs:Nat) (h1:n≤1) (w:World):
 Calls Tryz.prog 70 #[.iface 37 (.slice p n c), .func (.func 71) #[] #[.pointer (some ⟨Bs,0,none⟩)]] w fun e w'=>e= .returned (.tuple #[])∧Below w.heap.size w w':=by
 have key: ∀f,Tryz.prog.funcs.findIdx? (·.name== "internal/reflectlite" ++ ".Swapper$" ++toString (Lib.swapperK n sortE 25))=some f→
  Calls Tryz.prog 70 #[.iface 37 (.slice p n c), .func (.func 71) #[] #[.pointer (some ⟨Bs,0,none⟩)]] w fun e w'=>e= .returned (.tuple #[])∧Below w.heap.size w w':=by
  intro f hf
  have hS:=Any.sort_Slice_tiny Tryz.sortSlice_lays 37 63 sortT sortE (by kernel_rfl) (by kernel_rfl) (by kernel_rfl) (by kernel_rfl) 25 (fun _=>by kernel_rfl) p n c h1 f hf (.func 71) #[] #[.pointer (some ⟨Bs,0,none⟩)] w
  change Calls Tryz.prog 70 _ _ _ at hS
  refine hS.mono ?_
  rintro e w' ⟨rfl,os,rfl⟩
  refine⟨rfl,⟨rfl,rfl,rfl,by rw[Go.Sort.size_grow];omega,fun i hi=> ?_⟩⟩
  show(w.heap++os)[i]? =_
  exact Array.getElem?_append_left hi
 rcases Nat.eq_zero_or_pos n with rfl|h0
 · exact key 139 (by kernel_rfl)
 · obtain rfl:n=1:=by omega
   exact key 140 (by kernel_rfl)
end Go.Proofs.YtackmnbpfbaemaaGreatDoor

namespace Go.Proofs.YtackmnbpfbaemaaGreatDoor
open Go Go.RowKit
theorem dec_small {c:UInt8} (h:c.toNat<128) (l:List UInt8):Lib.decodeL (c::l)=(c.toNat,1):=by
 rw[decodeL_eq]
 unfold Lib.decodeN
 rw[if_pos (by simpa using h)]
 simp
theorem stands_byte {c:UInt8} {l:List UInt8} (hd: ¬((Lib.decodeL (c::l)).1=65533∧(Lib.decodeL (c::l)).2=1)):(32≤(Lib.decodeL (c::l)).1∧(Lib.decodeL (c::l)).1≠34∧(Lib.decodeL (c::l)).1≠92) ↔ (¬c.toNat<32∧c≠34∧c≠92):=by
 by_cases h:c.toNat<128
 · rw[dec_small h]
   have e34:c=34 ↔ c.toNat=34:=⟨fun e=>by rw[e];rfl,fun e=>UInt8.toNat_inj.1 e⟩
   have e92:c=92 ↔ c.toNat=92:=⟨fun e=>by rw[e];rfl,fun e=>UInt8.toNat_inj.1 e⟩
   simp only[ne_eq,e34,e92]
   omega
 · have hr:128≤(Lib.decodeL (c::l)).1:=by
    have he:=Lib.encode_decode (c::l) (by simp) hd
    have hs:=dec_scalar (l:=c::l) (by simp) hd
    have hw:=Lib.decodeL_width (c::l)
    have hc:c ∈ Lib.encodeRune ((Lib.decodeL (c::l)).1:Int):=by
     rw[he]
     obtain⟨n,hn⟩: ∃n,(Lib.decodeL (c::l)).2=n+1:=⟨(Lib.decodeL (c::l)).2 - 1,by omega⟩
     rw[hn];simp
    have:=encode_bytes hs c hc
    omega
   have n34:c≠34:=by rintro rfl;exact h (by decide)
   have n92:c≠92:=by rintro rfl;exact h (by decide)
   exact⟨fun _=>⟨by omega,n34,n92⟩,fun _=>⟨by omega,by omega,by omega⟩⟩
theorem cons_of_lt {s:List UInt8} {i:Nat} (h:i<s.length): ∃c,s[i]? =some c∧s.drop i=c::s.drop (i+1):=by
 refine⟨s[i],List.getElem?_eq_getElem h,List.drop_eq_getElem_cons h⟩
theorem plain_unq: ∀(n f:Nat) (s:List UInt8) (i:Nat) (out:List UInt8),i≤s.length→s.length - i<f→
 ∃f',s.length - (i+plainF n (s.drop i))<f'∧unqF f s i out=unqF f' s (i+plainF n (s.drop i)) (out++(s.drop i).take (plainF n (s.drop i)))
 |0,f,s,i,out,hi,hf=>⟨f,by simpa[plainF]using hf,by simp[plainF]⟩
 |n+1,f,s,i,out,hi,hf=>by
  by_cases hlt:i<s.length
  rotate_left
  · have e:s.drop i= []:=List.drop_eq_nil_of_le (by omega)
    refine⟨f, ?_, ?_⟩<;>simp[plainF,e]
    omega
  obtain⟨c,hc,hd⟩:=cons_of_lt hlt
  have hne:s.drop i≠ []:=by rw[hd];simp
  simp only[plainF]
  rw[if_neg hne]
  by_cases h2:(Lib.decodeL (s.drop i)).1=65533∧(Lib.decodeL (s.drop i)).2=1
  · rw[if_pos h2]
    exact⟨f,by simpa using hf,by simp⟩
  rw[if_neg h2]
  by_cases h3:32≤(Lib.decodeL (s.drop i)).1∧(Lib.decodeL (s.drop i)).1≠34∧(Lib.decodeL (s.drop i)).1≠92
  rotate_left
  · rw[if_neg h3]
    exact⟨f,by simpa using hf,by simp⟩
  rw[if_pos h3]
  have hb:=h3
  rw[hd]at hb h2
  have hb':=(stands_byte h2).1 hb
  rw[←hd]at h2
  obtain⟨f,rfl⟩: ∃g,f=g+1:=⟨f - 1,by omega⟩
  have hw:=Lib.decodeL_width (s.drop i)
  have hle:=dec_le hlt
  have e1:unqF (f+1) s i out=unqF f s (i+(Lib.decodeL (s.drop i)).2) (out++(s.drop i).take (Lib.decodeL (s.drop i)).2):=by
   conv=>lhs;unfold unqF
   rw[hc]
   simp only
   rw[if_neg hb'.2.1,if_neg hb'.1,if_neg hb'.2.2,if_neg h2]
  obtain⟨f',h4,h5⟩:=plain_unq n f s (i+(Lib.decodeL (s.drop i)).2) (out++(s.drop i).take (Lib.decodeL (s.drop i)).2) hle (by omega)
  rw[←List.drop_drop]at h4 h5
  refine⟨f',by rw[←Nat.add_assoc];exact h4, ?_⟩
  rw[e1,h5,←Nat.add_assoc,List.append_assoc,List.take_add]
theorem plain_none {n f:Nat} {s:List UInt8} {i:Nat} {out:List UInt8} {c:UInt8} (hc:s[i]? =some c) (h34:c≠34) (h92:c≠92) (hp:plainF (n+1) (s.drop i)=0):unqF (f+1) s i out= .bad (if c.toNat<32 then 4 else 3) i:=by
 have hd:=drop_at hc
 have hne:s.drop i≠ []:=by rw[hd];simp
 simp only[plainF]at hp
 rw[if_neg hne]at hp
 unfold unqF
 rw[hc]
 simp only
 rw[if_neg h34]
 by_cases h32:c.toNat<32
 · rw[if_pos h32,if_pos h32]
 rw[if_neg h32,if_neg h92,if_neg h32]
 by_cases h2:(Lib.decodeL (s.drop i)).1=65533∧(Lib.decodeL (s.drop i)).2=1
 · rw[if_pos h2]
 rw[if_neg h2]at hp
 have h2':=h2
 rw[hd]at h2'
 have h3:=(stands_byte h2').2 ⟨h32,h34,h92⟩
 rw[←hd]at h3
 rw[if_pos h3]at hp
 have:=Lib.decodeL_width (s.drop i)
 omega
theorem escL_bad {l:List UInt8} {e:Int} {q:Nat} (h:escL l= .bad e q):e=3∨e=4:=by
 unfold escL pairL letL at h
 repeat' split at h
 all_goals first|(simp only[Rd.bad.injEq]at h;omega)|cases h
def unqR (r:Rd (List UInt8)):Value:=match r with
 | .ok a q=> .tuple #[.string ⟨a.toArray⟩, .int .i64 (q:Nat), .int .i64 0]
 | .bad e q=> .tuple #[.string ⟨#[]⟩, .int .i64 (q:Nat), .int .i64 e]
theorem bb_String_any {B g:Nat} {bs:List UInt8} {w:World} (h:BB w B g bs):Calls Tryz.prog 75 #[.pointer (some ⟨g,0,none⟩)] w fun e w'=>e= .returned (.string ⟨bs.toArray⟩)∧Below B w w':=by
 obtain⟨p,v,hB,hb,ht,_,h0,v',h1,hown⟩:=h
 simp only[Nat.zero_add]at h1
 have hv:v'=v:=by simpa using h1.symm
 subst hv
 have hlt:g<w.heap.size:=(Array.getElem?_eq_some_iff.1 hb).1
 refine Tryz.Builder_String_any B g bs w ?_ (by omega)
 have hne:=Lib.ownBlock_ne hown hb ht
 have hat: ∀p',p=p'→Lib.BuilderAt 128 5 B g p' (Lib.byteCells bs) w:=fun p' e=>by
  subst e
  exact⟨hB,v',hb,by have:=hown;simpa[Lib.byteCells]using this,hne⟩
 rcases h0 with h0|h0
 · exact .inl (hat _ (by simpa using h0))
 · exact .inr (hat _ (by simpa using h0))
def RunesM (W:World) (b:Nat) (m:Option Nat):Prop:= ∀mb,m=some mb→b<mb∧W.heap[mb]? =some (.map (ents runeTab 0).toArray runeTab.length)
def UI (s:ByteArray) (w:World) (RES:Rd (List UInt8)) (i:Nat) (m:Option Nat) (wr:World):Prop:=
 ∃out f,Below w.heap.size w wr∧BB wr w.heap.size w.heap.size out∧RunesM wr w.heap.size m∧unqF f s.data.toList i out=RES∧s.size - i<f∧out.length≤i
theorem ext_drop {s:ByteArray} (i:Nat):(s.extract i s.size).data.toList=s.data.toList.drop i:=by
 rw[Lib.extract_data]
 exact List.take_of_length_le (by rw[List.length_drop,size_toList];omega)
set_option maxRecDepth 100000 in
set_option maxHeartbeats 8000000 in
theorem unq_calls (s:ByteArray) (k:Nat) (w:World) (hT:Tabs w) (hs:s.size≤1000000000) (hk:k≤s.size):
 Calls Tryz.prog 224 #[.string s, .int .i64 k] w fun e w'=>e= .returned (unqR (unqAt s.data.toList k))∧Below w.heap.size w w':=by
 have hlen:=size_toList s
 have n0: ¬((k:Int)<0):=by omega
 have n1: ¬((s.size:Int)<(k:Int)):=by omega
 by_cases hlt:k<s.size
 rotate_left
 · obtain rfl:k=s.size:=by omega
   have e:unqAt s.data.toList s.size= .bad 4 s.size:=by unfold unqAt;rw[if_neg (by rw[List.getElem?_eq_none (by omega)];simp)]
   rw[e]
   simp only[unqR]
   clear e hlen
   have HT:=Lib.hid hT
   clear hT n1 hlt
   go_enter Tryz.func224,Tryz.ntmps224
   go_wp2
   go_step3
   go_wp2
   rw[Exit.noGoto_ret]
   exact bodyPost_ret (results_tmp3 rfl _ _ _) rfl ⟨rfl,Below.refl _ _⟩
 obtain⟨c,hc⟩: ∃c,s[k]=c:=⟨_,rfl⟩
 have hg:s.data.toList[k]? =some c:=by rw[get_byte s hlt,hc]
 have hcl:=byte_lt c
 have ne: ∀(c:UInt8) (n:Nat),n<256→c≠UInt8.ofNat n→((c.toNat:Int)==(n:Int))=false:=fun c n hn h=>by rw[byte_eq hn];simpa using h
 have e1:((k:Int)==(s.size:Int))=false:=by rw[beq_eq_false_iff_ne];omega
 by_cases h34:c=34
 rotate_left
 · have e:unqAt s.data.toList k= .bad 4 k:=by unfold unqAt;rw[if_neg (by rw[hg];simpa using h34)]
   rw[e]
   have e2:=ne c 34 (by decide) h34
   simp only[unqR]
   clear e hlen hg ne h34
   have HT:=Lib.hid hT
   clear hT
   go_enter Tryz.func224,Tryz.ntmps224
   go_wp2
   go_step3
   go_wp2
   rw[Exit.noGoto_ret]
   exact bodyPost_ret (results_tmp3 rfl _ _ _) rfl ⟨rfl,Below.refl _ _⟩
 subst h34
 obtain⟨RES,hRES⟩: ∃R,unqAt s.data.toList k=R:=⟨_,rfl⟩
 rw[hRES]
 have hF:unqF (s.data.toList.length - k) s.data.toList (k+1) []=RES:=by
  rw[←hRES];unfold unqAt;rw[if_pos hg]
 have hB0:BB (w.alloc (.cells #[.pointer none, .slice none 0 0] 128)) w.heap.size w.heap.size []:=
  ⟨_,_,Nat.le_refl _,heap_alloc_new _ _,by decide,by simp, .inl rfl, .slice none 0 0,rfl,World.ownsRow_nil _ _ _ _⟩
 have H0:Hid (UI s w RES (k+1) none (w.alloc (.cells #[.pointer none, .slice none 0 0] 128))):=⟨[],_,alloc_below _ _,hB0,fun mb e=>(by cases e),hF,by omega,by simp⟩
 clear hRES hF hB0 hg hlen
 have d0:decide ((k:Int)<0)=false:=decide_eq_false (by omega)
 have d1:decide (s.size<k)=false:=decide_eq_false (by omega)
 clear n0 n1
 have HT:=Lib.hid hT
 have Ne:=Lib.hid ne
 clear hT ne
 go_enter Tryz.func224,Tryz.ntmps224
 go_wp2
 go_step3
 go_wp2
 go_step3
 go_wp2
 go_loopw [7,9] (fun m i wr=> ∃(j:Nat) (mm:Option Nat),m= .map mm∧i= .int .i64 j∧j≤s.size∧Hid (UI s w RES j mm wr)) (fun _ i _=>s.size - (intOf i).toNat)
 case atStart=>exact⟨k+1,none,rfl,by go_num,by omega,H0⟩
 case round=>
  obtain⟨j,mm,rfl,rfl,hj,hI⟩:=hrel
  clear H0 e1 hc d0 d1
  clear hlt hk
  by_cases hlt:j<s.size
  · obtain⟨c,hc⟩: ∃c,s[j]=c:=⟨_,rfl⟩
    have hg:s.data.toList[j]? =some c:=by rw[get_byte s hlt,hc]
    have hcl:=byte_lt c
    have e1:((j:Int)==(s.size:Int))=false:=by rw[beq_eq_false_iff_ne];omega
    by_cases h34:c=34
    · subst h34
      obtain⟨out,f,h1,h2,h3,h4,h5,h6⟩:=hI.out
      obtain⟨f,rfl⟩: ∃g,f=g+1:=⟨f - 1,by omega⟩
      have hR:RES= .ok out (j+1):=by
       rw[←h4]
       unfold unqF
       rw[hg]
       simp
      have hS:=bb_String_any h2
      have HS:=Lib.hid hS
      have H1:=Lib.hid h1
      have H2:=Lib.hid h2
      have H3:=Lib.hid h3
      have H4:=Lib.hid h4
      have HR:=Lib.hid hR
      clear hS h1 h2 h3 h4 hR
      clear hI hg
      go_wp2_with (fail)
      with_reducible refine(HS.out).mono ?_
      rintro e w2 ⟨rfl,hb2⟩
      have hB:=Lib.hid (H1.out.trans hb2)
      clear hb2
      go_wp2
      try rw[Exit.noGoto_ret]
      exact bodyPost_ret (results_tmp3 rfl _ _ _) rfl ⟨by rw[HR.out];rfl,hB.out⟩
    have e34:=Ne.out c 34 (by decide) h34
    by_cases h92:c=92
    · subst h92
      obtain⟨out,f,h1,h2,h3,h4,h5,h6⟩:=hI.out
      obtain⟨f,rfl⟩: ∃g,f=g+1:=⟨f - 1,by omega⟩
      have hR:RES=match escL (s.data.toList.drop j)with
       | .bad e _=> .bad e j
       | .ok r n=>unqF f s.data.toList (j+n) (out++Lib.encodeRune (r:Int)):=by
       rw[←h4]
       conv=>lhs;unfold unqF
       rw[hg]
       simp only
       rw[if_neg (by decide),if_neg (by decide),if_pos trivial]
       rfl
      have hext:=ext_drop (s:=s) j
      have hes:(s.extract j s.size).size≤1000000000:=by rw[ByteArray.size_extract];omega
      have hE:=fun(mb:Nat) (W:World) hm=>escape_calls (s.extract j s.size) mb W hes hm
      rw[hext]at hE
      have hok: ∀r n,escL (s.data.toList.drop j)= .ok r n→r≤1114111∧2≤n∧j+n≤s.size∧(Lib.encodeRune (r:Int)).length≤n:=fun r n e=>by
       have a1:=escL_ok e
       have a2:=escL_len e
       rw[List.length_drop,size_toList]at a1
       exact⟨a1.1,a1.2.2.1,by omega,a2⟩
      have hbad: ∀e q,escL (s.data.toList.drop j)= .bad e q→e=3∨e=4:=fun e q h=>escL_bad h
      clear hext hes hg h34
      generalize escL (s.data.toList.drop j)=X at hE hR hok hbad
      have hnil:=fun(wx:World) (m0:Option Nat)=>run_eql_map_nil (P:=Tryz.prog) wx 253 _ _ m0 Tryz.underlying253
      have key: ∀(W:World) (mb:Nat),Below w.heap.size w W→BB W w.heap.size w.heap.size out→w.heap.size<mb→W.heap[mb]? =some (.map (ents runeTab 0).toArray runeTab.length)→ ∀r n,X= .ok r n→
       Calls Tryz.prog 235 #[.string (s.extract j s.size), .map (some mb)] W (fun e W'=>e= .returned (escR X)∧W=W')∧
       (Calls Tryz.prog 196 #[.pointer (some ⟨w.heap.size,0,none⟩), .int .i32 r] W fun e W'=>(∃k:Int,e= .returned (.tuple #[.int .i64 k, .nilIface]))∧UI s w RES (j+n) (some mb) W'):=by
       intro W mb a1 a2 a3 a4 r n e
       refine⟨hE mb W a4, ?_⟩
       obtain⟨b1,b2,b3,b4⟩:=hok r n e
       refine(bb_WriteRune (r:Int) (by omega) (by omega) a2 (by omega)).mono ?_
       rintro e' W' ⟨hk',hB',hb',hkp⟩
       refine⟨hk',out++Lib.encodeRune (r:Int),f,a1.trans hb',hB',fun mb' e2=> ?_, ?_,by omega,by rw[List.length_append];omega⟩
       · cases e2
         exact⟨a3,hkp _ _ a4 (by simp;omega) (fun c fz e=>by cases e)⟩
       · rw[hR,e]
      have hU: ∀W,Calls Tryz.prog 234 #[] W fun e w'=>e= .returned (.map (some W.heap.size))∧W.alloc (.map (ents runeTab 0).toArray runeTab.length)=w':=fun W=>runesL_calls W
      have hz1:=h1.size
      cases X with
      |bad e0 q0=>
       simp only[escR]at hE hR
       have hn0:(e0 != 0)=true:=by
        rcases hbad e0 q0 rfl with rfl|rfl<;>decide
       rcases mm with _|mb
       · have hm:=heap_alloc_new wr (.map (ents runeTab 0).toArray runeTab.length)
         have hE':=hE wr.heap.size _ hm
         have hbw:=h1.alloc hz1 (.map (ents runeTab 0).toArray runeTab.length)
         have HE':=Lib.hid hE'
         have HU:=Lib.hid hU
         have H1:=Lib.hid h1
         have H2:=Lib.hid h2
         have H3:=Lib.hid h3
         have H4:=Lib.hid h4
         have HR:=Lib.hid hR
         have Key:=Lib.hid key
         have Hok:=Lib.hid hok
         have Hbw:=Lib.hid hbw
         have Hm:=Lib.hid hm
         have Hbad:=Lib.hid hbad
         clear hE' hU h1 h2 h3 h4 hR key hok hbw hm hbad
         clear hI hE
         go_wp2_with (fail)
         with_reducible refine(HU.out _).mono ?_
         rintro e w2 ⟨rfl,rfl⟩
         go_wp2_with (fail)
         with_reducible refine(HE'.out).mono ?_
         rintro e w2 ⟨rfl,rfl⟩
         go_wp2
         try rw[Exit.noGoto_ret]
         exact bodyPost_ret (results_tmp3 rfl _ _ _) rfl ⟨by rw[HR.out];rfl,Hbw.out⟩
       · have hE':=hE mb _ (h3 mb rfl).2
         have HE':=Lib.hid hE'
         have HU:=Lib.hid hU
         have H1:=Lib.hid h1
         have H2:=Lib.hid h2
         have H3:=Lib.hid h3
         have H4:=Lib.hid h4
         have HR:=Lib.hid hR
         have Key:=Lib.hid key
         have Hok:=Lib.hid hok
         have Hbad:=Lib.hid hbad
         clear hE' hU h1 h2 h3 h4 hR key hok hbad
         clear hI hE
         go_wp2_with (fail)
         with_reducible refine(HE'.out).mono ?_
         rintro e w2 ⟨rfl,rfl⟩
         go_wp2
         try rw[Exit.noGoto_ret]
         exact bodyPost_ret (results_tmp3 rfl _ _ _) rfl ⟨by rw[HR.out];rfl,H1.out⟩
      |ok r n=>
       obtain⟨b1,b2,b3,b4⟩:=hok r n rfl
       rcases mm with _|mb
       · obtain⟨k1,k2⟩:=key (wr.alloc (.map (ents runeTab 0).toArray runeTab.length)) wr.heap.size (h1.alloc hz1 _) (h2.below (alloc_below _ _)) h2.lt (heap_alloc_new wr _) r n rfl
         simp only[escR]at k1
         have HU:=Lib.hid hU
         have H1:=Lib.hid h1
         have H2:=Lib.hid h2
         have H3:=Lib.hid h3
         have H4:=Lib.hid h4
         have HR:=Lib.hid hR
         have Key:=Lib.hid key
         have Hok:=Lib.hid hok
         have K1:=Lib.hid k1
         have K2:=Lib.hid k2
         have Hbad:=Lib.hid hbad
         clear hU h1 h2 h3 h4 hR key hok k1 k2 hbad
         clear hI hE
         go_wp2_with (fail)
         with_reducible refine(HU.out _).mono ?_
         rintro e w2 ⟨rfl,rfl⟩
         go_wp2_with (fail)
         with_reducible refine(K1.out).mono ?_
         rintro e w2 ⟨rfl,rfl⟩
         go_wp2_with (fail)
         with_reducible refine(K2.out).mono ?_
         rintro e w2 ⟨⟨z,rfl⟩,hu2⟩
         have HU2:=Lib.hid hu2
         clear hu2
         go_wp2
         go_roundw
         case rel=>exact⟨j+n,_,rfl,by go_num,by omega,HU2⟩
         case measure=>simp[intOf];omega
       · obtain⟨k1,k2⟩:=key wr mb h1 h2 (h3 mb rfl).1 (h3 mb rfl).2 r n rfl
         simp only[escR]at k1
         have HU:=Lib.hid hU
         have H1:=Lib.hid h1
         have H2:=Lib.hid h2
         have H3:=Lib.hid h3
         have H4:=Lib.hid h4
         have HR:=Lib.hid hR
         have Key:=Lib.hid key
         have Hok:=Lib.hid hok
         have K1:=Lib.hid k1
         have K2:=Lib.hid k2
         have Hbad:=Lib.hid hbad
         clear hU h1 h2 h3 h4 hR key hok k1 k2 hbad
         clear hI hE
         go_wp2_with (fail)
         with_reducible refine(K1.out).mono ?_
         rintro e w2 ⟨rfl,rfl⟩
         go_wp2_with (fail)
         with_reducible refine(K2.out).mono ?_
         rintro e w2 ⟨⟨z,rfl⟩,hu2⟩
         have HU2:=Lib.hid hu2
         clear hu2
         go_wp2
         go_roundw
         case rel=>exact⟨j+n,_,rfl,by go_num,by omega,HU2⟩
         case measure=>simp[intOf];omega
    ·
     have e92:=Ne.out c 92 (by decide) h92
     obtain⟨out,f,h1,h2,h3,h4,h5,h6⟩:=hI.out
     have hext:=ext_drop (s:=s) j
     have hsz:(s.extract j s.size).size=s.size - j:=by rw[ByteArray.size_extract];omega
     have hP:=plain_calls (s.extract j s.size) wr (HT.out.below h1) (by omega)
     rw[hext,hsz]at hP
     obtain⟨nn,hnn⟩: ∃nn,s.size - j=nn+1:=⟨s.size - j - 1,by omega⟩
     have hle:=plainF_le (s.size - j) (s.data.toList.drop j)
     rw[List.length_drop,size_toList]at hle
     obtain⟨f',q1,q2⟩:=plain_unq (s.size - j) f s.data.toList j out (by rw[size_toList];omega) (by rw[size_toList];omega)
     rw[size_toList]at q1
     have hnone:plainF (s.size - j) (s.data.toList.drop j)=0→RES= .bad (if c.toNat<32 then 4 else 3) j:=fun e=>by
      obtain⟨g,rfl⟩: ∃g,f=g+1:=⟨f - 1,by omega⟩
      rw[hnn]at e
      rw[←h4,plain_none hg h34 h92 e]
     generalize hpl:plainF (s.size - j) (s.data.toList.drop j)=p at hP hle q1 q2 hnone
     clear hext hsz hnn hg h34 h92 hI hpl
     by_cases hp0:p=0
     · subst hp0
       have hR:=hnone rfl
       have hW:=fun W=>refused_calls c W
       have t0:((0:Int)==0)=true:=rfl
       generalize (if c.toNat<32 then(4:Int)else 3)=E at hW hR
       have HP:=Lib.hid hP
       have H1:=Lib.hid h1
       have H2:=Lib.hid h2
       have H3:=Lib.hid h3
       have H4:=Lib.hid h4
       have HR:=Lib.hid hR
       have HW:=Lib.hid hW
       have Q2:=Lib.hid q2
       have Hnone:=Lib.hid hnone
       clear hP h1 h2 h3 h4 hR hW q2 hnone
       go_wp2_with (fail)
       with_reducible refine(HP.out).mono ?_
       rintro e w2 ⟨rfl,hb2⟩
       have hB:=Lib.hid (H1.out.trans (hb2.mono H1.out.size))
       clear hb2
       go_wp2_with (fail)
       with_reducible refine(HW.out _).mono ?_
       rintro e w3 ⟨rfl,rfl⟩
       go_wp2
       try rw[Exit.noGoto_ret]
       exact bodyPost_ret (results_tmp3 rfl _ _ _) rfl ⟨by rw[HR.out];rfl,hB.out⟩
     · have t0:((p:Int)==0)=false:=by rw[beq_eq_false_iff_ne];omega
       have hex:(s.extract j (j+p)).data.toList=(s.data.toList.drop j).take p:=by rw[Lib.extract_data];congr 1;omega
       have hsx:(s.extract j (j+p)).size=p:=by rw[ByteArray.size_extract];omega
       have hnext: ∀W W',Below wr.heap.size wr W→BB W' w.heap.size w.heap.size (out++(s.extract j (j+p)).data.toList)→Below w.heap.size W W'→Kept w.heap.size W W'→UI s w RES (j+p) mm W':=by
        intro W W' a1 a2 a3 a4
        refine⟨_,f',(h1.trans (a1.mono h1.size)).trans a3,a2,fun mb e=> ?_,by rw[hex,←q2];exact h4,q1,by rw[List.length_append,hex,List.length_take,List.length_drop];omega⟩
        obtain⟨b1,b2⟩:=h3 mb e
        have hlm:mb<wr.heap.size:=(Array.getElem?_eq_some_iff.1 b2).1
        exact⟨b1,a4 _ _ ((a1.block mb hlm).trans b2) (by simp;omega) (fun c fz e=>by cases e)⟩
       have hWS: ∀W,Below wr.heap.size wr W→Calls Tryz.prog 160 #[.pointer (some ⟨w.heap.size,0,none⟩), .string (s.extract j (j+p))] W (fun e W'=>e= .returned (.tuple #[.int .i64 p, .nilIface])∧UI s w RES (j+p) mm W'):=by
        intro W a1
        refine(bb_WriteString (s.extract j (j+p)) (h2.below a1) (by omega)).mono ?_
        rintro e W' ⟨rfl,b1,b2,b3⟩
        rw[hsx]
        exact⟨rfl,hnext W W' a1 b1 b2 b3⟩
       have HP:=Lib.hid hP
       have H1:=Lib.hid h1
       have H2:=Lib.hid h2
       have H3:=Lib.hid h3
       have H4:=Lib.hid h4
       have Q2:=Lib.hid q2
       have Hnone:=Lib.hid hnone
       have HWS:=Lib.hid hWS
       have Hnext:=Lib.hid hnext
       clear hP h1 h2 h3 h4 q2 hnone hWS hnext
       clear hex hsx
       go_wp2_with (fail)
       with_reducible refine(HP.out).mono ?_
       rintro e w2 ⟨rfl,hb2⟩
       have hW2:=HWS.out w2 hb2
       have HW2:=Lib.hid hW2
       have Hb2:=Lib.hid hb2
       clear hW2 hb2
       go_wp2_with (fail)
       with_reducible refine(HW2.out).mono ?_
       rintro e w3 ⟨rfl,hu2⟩
       have HU2:=Lib.hid hu2
       clear hu2
       go_wp2
       go_roundw
       case rel=>exact⟨j+p,_,rfl,by go_num,by omega,HU2⟩
       case measure=>simp[intOf];omega
  · obtain rfl:j=s.size:=by omega
    obtain⟨out,f,h1,h2,h3,h4,h5,h6⟩:=hI.out
    obtain⟨f,rfl⟩: ∃g,f=g+1:=⟨f - 1,by omega⟩
    have hR:RES= .bad 4 s.size:=by
     rw[←h4]
     unfold unqF
     rw[List.getElem?_eq_none (by rw[size_toList];exact Nat.le_refl _)]
    have H1:=Lib.hid h1
    have H2:=Lib.hid h2
    have H3:=Lib.hid h3
    have H4:=Lib.hid h4
    have HR:=Lib.hid hR
    clear h1 h2 h3 h4 hR
    clear hI
    go_wp2
    try rw[Exit.noGoto_ret]
    exact bodyPost_ret (results_tmp3 rfl _ _ _) rfl ⟨by rw[HR.out];rfl,H1.out⟩
end Go.Proofs.YtackmnbpfbaemaaGreatDoor
