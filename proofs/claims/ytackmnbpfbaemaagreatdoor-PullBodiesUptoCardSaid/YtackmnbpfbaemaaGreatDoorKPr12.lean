/- Parts: A row of members sorted by their keys, by slices.SortFunc. Condition: no key twice. -/
import Derived.LoopTactic
import Derived.Test.YtackmnbpfbaemaaGreatDoorZShelfS
import Derived.Shelf.SlSortCmp.WholeK
import Derived.Test.YtackmnbpfbaemaaGreatDoorKPr10
import Derived.Test.YtackmnbpfbaemaaGreatDoorKPr11
set_option maxHeartbeats 20000000
namespace Go.Proofs.YtackmnbpfbaemaaGreatDoor
open Go Go.RowKit
def A1 (w:World) (g o:Nat):List Value->World
 | []=>w
 |v::r=>A1 (w.setCell ⟨g,o,none⟩ v) g (o+1) r
def Yu (cs:Array Value) (o:Nat):List Value->Array Value
 | []=>cs
 |v::r=>Yu (cs.setIfInBounds o v) (o+1) r
theorem Ba: ∀(vs:List Value) (w:World) (g o:Nat),(A1 w g o vs).heap.size=w.heap.size
 | [],_,_,_=>rfl
 |v::r,w,g,o=>by simp only[A1];rw[Ba r];simp[World.setCell]
theorem Aw: ∀(vs:List Value) (w:World) (g o c:Nat),c≠g->(A1 w g o vs).heap[c]? =w.heap[c]?
 | [],_,_,_,_,_=>rfl
 |v::r,w,g,o,c,h=>by
  simp only[A1];rw[Aw r _ _ _ _ h];simp only[World.setCell,Array.getElem?_modify];rw[if_neg (fun e=>h e.symm)]
theorem Us: ∀(vs:List Value) {w:World} {g o:Nat} {cs:Array Value} {t:TypeId},w.heap[g]? =some (.cells cs t (0,0))->(A1 w g o vs).heap[g]? =some (.cells (Yu cs o vs) t (0,0))
 | [],_,_,_,_,_,h=>h
 |v::r,w,g,o,cs,t,h=>by
  simp only[A1,Yu];exact Us r (by simp[World.setCell,Array.getElem?_modify,h])
theorem Ak {B:Nat} {a:World}: ∀(vs:List Value) {w:World} {g o:Nat},Below B a w->B<=g->Below B a (A1 w g o vs)
 | [],_,_,_,h,_=>h
 |v::r,w,g,o,h,hg=>by
  simp only[A1];exact Ak r (h.setCell hg _) hg
theorem W7: ∀(vs:List Value) (cs:Array Value) (o:Nat),(Yu cs o vs).size=cs.size
 | [],_,_=>rfl
 |v::r,cs,o=>by simp only[Yu];rw[W7 r];simp
theorem Aa5: ∀(vs:List Value) (cs:Array Value) (o i:Nat),o+vs.length<=cs.size->(Yu cs o vs)[i]? =if o<=i/\i<o+vs.length then vs[i - o]? else cs[i]?
 | [],cs,o,i,_=>by
   simp only[Yu,List.length_nil];rw[if_neg (by omega)]
 |v::r,cs,o,i,h=>by
  simp only[List.length_cons]at h;simp only[Yu];rw[Aa5 r _ _ _ (by simp;omega)];by_cases h1:o+1<=i/\i<o+1+r.length
  . rw[if_pos h1,if_pos ⟨by omega,by simp only[List.length_cons];omega⟩,show i - o=(i - (o+1))+1 from by omega,List.getElem?_cons_succ]
  . rw[if_neg h1];by_cases h2:i=o
    . subst h2;rw[if_pos ⟨Nat.le_refl _,by simp⟩];simp only[Nat.sub_self,List.getElem?_cons_zero];rw[Array.getElem?_setIfInBounds_self_of_lt (by omega)]
    . rw[if_neg (by simp only[List.length_cons];omega),Array.getElem?_setIfInBounds_ne (by omega)]
def Gl (b g:Nat) (t:TypeId) (s N:Nat) (wr:World) (l:List D):Prop:=
 b<=g/\l.length<=N/\(∀d ∈ l,d.cells=s)/\ ∃(cs:Array Value) (ns:List Value),wr.heap[g]? =some (.cells cs t (0,0))/\cs.size=N*s/\(∀(j:Nat) (u:Value),ns[j]? =some u->cs[j]? =some u)/\
  ∀w'':World,wr.heap.size<=w''.heap.size->(∀p:Addr,b<=p.block->p.block<wr.heap.size->p.block≠g->w''.cell? p=wr.cell? p)->Ag w'' wr.heap.size l ns
theorem Gl.start {b g:Nat} {t:TypeId} {s N:Nat} {wr:World} {cs:Array Value} (hb:b<=g) (hg:wr.heap[g]? =some (.cells cs t (0,0))) (hs:cs.size=N*s):Gl b g t s N wr []:=
 ⟨hb,Nat.zero_le _,fun d hd=>(by cases hd),cs, [],hg,hs,fun j u h=>(by simp at h),fun _ _ _=>rfl⟩
theorem Gl.lt {b g:Nat} {t:TypeId} {s N:Nat} {wr:World} {l:List D} (h:Gl b g t s N wr l):g<wr.heap.size:=by
 obtain⟨_,_,_,cs,ns,h4,_⟩:=h;exact(Array.getElem?_eq_some_iff.1 h4).1
theorem Gl.cell {b g:Nat} {t:TypeId} {s N:Nat} {wr:World} {l:List D} (h:Gl b g t s N wr l):(∀j,j<N*s-> ∃u,wr.cell? ⟨g,j,none⟩=some u)/\ ∀j,wr.frozen? ⟨g,j,none⟩=false:=by
 obtain⟨_,_,_,cs,ns,h4,h5,_⟩:=h;refine⟨fun j hj=> ?_,fun j=> ?_⟩
 . exact⟨cs[j],by rw[cell_of_row wr g j cs t (0,0) h4];exact Array.getElem?_eq_getElem (by omega)⟩
 . simp[World.frozen?,h4]
theorem Gl.keep {b g:Nat} {t:TypeId} {s N:Nat} {wr w':World} {l:List D} (h:Gl b g t s N wr l) (hs:wr.heap.size<=w'.heap.size) (hk: ∀i,b<=i->i<wr.heap.size->w'.heap[i]? =wr.heap[i]?):Gl b g t s N w' l:=by
 have hlt:=h.lt;obtain⟨h1,h2,h3,cs,ns,h4,h5,h6,h7⟩:=h;exact⟨h1,h2,h3,cs,ns,(hk g h1 hlt).trans h4,h5,h6,fun w'' k1 k2=>Ag.more (h7 w'' (by omega) (fun p p1 p2 p3=>(k2 p p1 (by omega) p3).trans (World.cell?_of_block (hk p.block p1 p2)))) hs⟩
theorem Gl.below {b g:Nat} {t:TypeId} {s N:Nat} {wr w':World} {l:List D} (h:Gl b g t s N wr l) (hb:Below wr.heap.size wr w'):Gl b g t s N w' l:=h.keep hb.size fun i _ hi=>hb.block i hi
theorem Gl.step {b g:Nat} {t:TypeId} {s N:Nat} {wr w4:World} {l:List D} {d:D} {cs':List Value} (h:Gl b g t s N wr l) (hl:l.length<N) (hd:d.cells=s) (hx:Ap wr.heap.size w4 d cs') (h4:Below wr.heap.size wr w4):
 Gl b g t s N (A1 w4 g (l.length*s) cs') (l++ [d]):=by
 have hlt:=h.lt;have h':=h.below h4;obtain⟨h1,h2,h3,cs,ns,k4,h5,h6,h7⟩:=h';have hcl:cs'.length=s:=hx.now.len.1.trans hd;have hnl:ns.length=l.length*s:=by
  have hA:=h7 w4 (Nat.le_refl _) (fun _ _ _ _=>rfl);rw[hA.len.1,Od h3]
 have hN:l.length*s+s<=N*s:=by
  have:=Nat.mul_le_mul_right s (show l.length+1<=N by omega);rw[Nat.add_mul,Nat.one_mul]at this;exact this
 have hsz:=h4.size;refine⟨h1,by rw[List.length_append,List.length_cons,List.length_nil];omega, ?_,Yu cs (l.length*s) cs',ns++cs',Us cs' k4,by rw[W7];exact h5, ?_, ?_⟩
 . intro x hx';rcases List.mem_append.1 hx' with hx'|hx'
   . exact h3 x hx'
   . simp only[List.mem_cons,List.not_mem_nil,or_false]at hx';rw[hx'];exact hd
 . intro j u hj;rw[Aa5 cs' cs (l.length*s) j (by omega)];by_cases hjn:j<ns.length
   . rw[List.getElem?_append_left hjn]at hj;rw[if_neg (by omega)];exact h6 j u hj
   . rw[List.getElem?_append_right (by omega)]at hj;have:=(List.getElem?_eq_some_iff.1 hj).1;rw[if_pos ⟨by omega,by omega⟩,<-hnl];exact hj
 . intro w'' k1 k2;rw[Ba]at k1 k2 ⊢;have hfar: ∀p:Addr,b<=p.block->p.block<w4.heap.size->p.block≠g->w''.cell? p=w4.cell? p:=fun p p1 p2 p3=>(k2 p p1 p2 p3).trans (World.cell?_of_block (Aw cs' w4 g _ _ p3));exact(h7 w'' k1 hfar).snoc (hx w'' k1 (fun p p1 p2=>hfar p (by omega) p2 (by omega)))
theorem Gl.close {b g:Nat} {t:TypeId} {s:Nat} {wr:World} {l:List D} (h:Gl b g t s l.length wr l) (c:Nat):Ap b wr (.row s l) [.slice (some ⟨g,0,none⟩) l.length c]:=by
 have hlt:=h.lt;obtain⟨h1,h2,h3,cs,ns,h4,h5,h6,h7⟩:=h;intro w'' k1 k2;refine⟨_,c,rfl,h3,ns,h7 w'' k1 (fun p p1 p2 _=>k2 p p1 p2),.inr ⟨g,0,rfl,hlt,fun j u hu=> ?_⟩⟩;rw[k2 _ h1 hlt,Nat.zero_add,cell_of_row wr g j cs t (0,0) h4];exact h6 j u hu
attribute [local go_sem] Oper.semAt_some
def Su (r:Rd Nat):Value:=match r with
 | .ok r n=> .tuple #[.int .i32 r,.int .i64 n,.int .i64 0]
 | .bad e _=> .tuple #[.int .i32 0,.int .i64 0,.int .i64 e]
theorem As {fn:Func} {t u v:Tmp} (h:fn.results= #[.tmp t,.tmp u,.tmp v]) (tmps:Array Value) (P:Program) (w:World):
 (results fn tmps).run P w=.ok (.tuple #[tmps.getD t undef,tmps.getD u undef,tmps.getD v undef]) w:=by simp[results,h]
set_option maxRecDepth 100000 in
theorem Yv (r:Nat) (t:ByteArray) (w:World) (hr:r<65536) (hs:t.size<=1000000000):Calls Tryz.prog 253 #[.int .i32 r,.string t] w fun e w'=>e=.returned (Su (Fu r t.data.toList))/\w=w':=by
 have hU:=fun W=>Uw t W hs;by_cases h1:r<55296
 . have e:Fu r t.data.toList=.ok r 6:=by unfold Fu;rw[if_pos (.inl h1)]
   rw[e];have l:(r:Int)<55296:=by omega
   clear e hU;go_enter Tryz.func253,Tryz.ntmps253;go_wp2;exact bodyPost_ret (As rfl _ _ _) rfl ⟨rfl,rfl⟩
 have l1: ¬((r:Int)<55296):=by omega
 by_cases h2:57344<=r
 . have e:Fu r t.data.toList=.ok r 6:=by unfold Fu;rw[if_pos (.inr h2)]
   rw[e];have l:(57344:Int)<=(r:Int):=by omega
   clear e hU;go_enter Tryz.func253,Tryz.ntmps253;go_wp2;exact bodyPost_ret (As rfl _ _ _) rfl ⟨rfl,rfl⟩
 have l2: ¬((57344:Int)<=(r:Int)):=by omega
 by_cases h3:56320<=r
 . have e:Fu r t.data.toList=.bad 3 0:=by unfold Fu;rw[if_neg (by omega),if_pos h3]
   rw[e];have l:(56320:Int)<=(r:Int):=by omega
   clear e hU;go_enter Tryz.func253,Tryz.ntmps253;go_wp2;exact bodyPost_ret (As rfl _ _ _) rfl ⟨rfl,rfl⟩
 have l3: ¬((56320:Int)<=(r:Int)):=by omega
 have e0:Fu r t.data.toList=match Dw t.data.toList with
  |none=> .bad 3 0
  |some m=>if m<56320\/57344<=m then .bad 3 0 else .ok (65536+1024*(r - 55296)+(m - 56320)) 12:=by unfold Fu;rw[if_neg (by omega),if_neg h3];rfl
 rw[e0];clear e0
 cases hu:Dw t.data.toList with
 |none=>
  simp only[hu,Ab4]at hU;clear hu;have HU:=Lib.hid hU;clear hU;go_enter Tryz.func253,Tryz.ntmps253;go_wp2_with (fail);(with_reducible refine(HU.out _).mono ?_);rintro e w1 ⟨rfl,rfl⟩;go_wp2;exact bodyPost_ret (As rfl _ _ _) rfl ⟨rfl,rfl⟩
 |some m=>
  have hm:=(Lp hu).1;simp only[hu,Ab4]at hU;clear hu;have HU:=Lib.hid hU;clear hU;simp only;by_cases h4:m<56320
  . rw[if_pos (.inl h4)];have l:(m:Int)<56320:=by omega
    clear h4;go_enter Tryz.func253,Tryz.ntmps253;go_wp2_with (fail);(with_reducible refine(HU.out _).mono ?_);rintro e w1 ⟨rfl,rfl⟩;go_wp2;exact bodyPost_ret (As rfl _ _ _) rfl ⟨rfl,rfl⟩
  have l4: ¬((m:Int)<56320):=by omega
  by_cases h5:57344<=m
  . rw[if_pos (.inr h5)];have l:(57344:Int)<=(m:Int):=by omega
    clear h5;go_enter Tryz.func253,Tryz.ntmps253;go_wp2_with (fail);(with_reducible refine(HU.out _).mono ?_);rintro e w1 ⟨rfl,rfl⟩;go_wp2;exact bodyPost_ret (As rfl _ _ _) rfl ⟨rfl,rfl⟩
  have l5: ¬((57344:Int)<=(m:Int)):=by omega
  rw[if_neg (by omega)];have b1:(55296:Int)<=(r:Int):=by omega
  have b2:(r:Int)<56320:=by omega
  have b3:(56320:Int)<=(m:Int):=by omega
  have b4:(m:Int)<57344:=by omega
  have d4:decide ((m:Int)<56320)=false:=decide_eq_false (by omega);have d5:decide ((57344:Int)<=(m:Int))=false:=decide_eq_false (by omega);have eq:(((65536+1024*(r - 55296)+(m - 56320):Nat)):Int)=65536+1024*((r:Int) - 55296)+((m:Int) - 56320):=by omega
  simp only[Su];rw[eq];clear eq h1 h2 h3 h4 h5 l4 l5;go_enter Tryz.func253,Tryz.ntmps253;go_wp2_with (fail);(with_reducible refine(HU.out _).mono ?_);rintro e w1 ⟨rfl,rfl⟩;go_wp2;exact bodyPost_ret (As rfl _ _ _) rfl ⟨rfl,rfl⟩
def D0:List (Int×Int):= [(34,34),(92,92),(47,47),(98,8),(102,12),(110,10),(114,13),(116,9)]
set_option maxRecDepth 100000 in
theorem Ze (w:World):Calls Tryz.prog 234 #[] w fun e w'=>e=.returned (.map (some w.heap.size))/\Hu w D0=w':=by
 have hmm:(Instr.makeMap 253 none).run Tryz.prog w=.ok (.map (some w.heap.size)) (Hu w []):=run_makeMap _ w;have u1:=Cr w [] 34 34 rfl;have u2:=Cr w [(34,34)] 92 92 rfl;have u3:=Cr w [(34,34),(92,92)] 47 47 rfl;have u4:=Cr w [(34,34),(92,92),(47,47)] 98 8 rfl;have u5:=Cr w [(34,34),(92,92),(47,47),(98,8)] 102 12 rfl;have u6:=Cr w [(34,34),(92,92),(47,47),(98,8),(102,12)] 110 10 rfl;have u7:=Cr w [(34,34),(92,92),(47,47),(98,8),(102,12),(110,10)] 114 13 rfl;have u8:=Cr w [(34,34),(92,92),(47,47),(98,8),(102,12),(110,10),(114,13)] 116 9 rfl;simp only[List.nil_append,List.cons_append]at u1 u2 u3 u4 u5 u6 u7 u8;go_enter Tryz.func234,Tryz.ntmps234;go_wp2;go_ret;exact⟨rfl,rfl⟩
theorem Zd (c:UInt8):D1 (c.toNat:Int) D0=(Ge c).map (fun n:Nat=>(n:Int)):=by
 have: ∀c:Fin 256,D1 ((UInt8.ofNat c.val).toNat:Int) D0=(Ge (UInt8.ofNat c.val)).map (fun n:Nat=>(n:Int)):=by decide+kernel
 have h:=this ⟨c.toNat,c.toNat_lt⟩;simpa using h
set_option maxRecDepth 100000 in
theorem Ya (t:ByteArray) (mb:Nat) (w:World) (hs:t.size<=1000000000) (hm:w.heap[mb]? =some (.map (Jg D0 0).toArray D0.length)):Calls Tryz.prog 235 #[.string t,.map (some mb)] w fun e w'=>e=.returned (Su (Fl t.data.toList))/\w=w':=by
 have hU:=fun W=>Uw t W hs
 cases hu:Dw t.data.toList with
 |some r=>
  obtain⟨hr,h6⟩:=Lp hu;rw[Ab]at h6;have hext:(t.extract 6 t.size).data.toList=t.data.toList.drop 6:=by
   rw[Lib.extract_data];exact List.take_of_length_le (by rw[List.length_drop,Ab];omega)
  have hP:=fun W=>Yv r (t.extract 6 t.size) W hr (by rw[ByteArray.size_extract];omega);have e0:Fl t.data.toList=Fu r (t.data.toList.drop 6):=by unfold Fl;rw[hu]
  rw[e0];rw[hext]at hP;simp only[hu,Ab4]at hU;have l6:(6:Int)<=(t.size:Int):=by omega
  clear hu hext e0;generalize Fu r (t.data.toList.drop 6)=X at hP ⊢
  cases X with
  |ok r' n'=>
   simp only[Su]at hP ⊢;obtain⟨HU,HP⟩:=hid2 hU hP;clear hU hP;clear hm;go_enter Tryz.func235,Tryz.ntmps235;go_wp2_with (fail);(with_reducible refine(HU.out _).mono ?_);rintro e w1 ⟨rfl,rfl⟩;go_wp2_with (fail);(with_reducible refine(HP.out _).mono ?_);rintro e w1 ⟨rfl,rfl⟩;go_wp2;exact bodyPost_ret (As rfl _ _ _) rfl ⟨rfl,rfl⟩
  |bad r' n'=>
   simp only[Su]at hP ⊢;obtain⟨HU,HP⟩:=hid2 hU hP;clear hU hP;clear hm;go_enter Tryz.func235,Tryz.ntmps235;go_wp2_with (fail);(with_reducible refine(HU.out _).mono ?_);rintro e w1 ⟨rfl,rfl⟩;go_wp2_with (fail);(with_reducible refine(HP.out _).mono ?_);rintro e w1 ⟨rfl,rfl⟩;go_wp2;exact bodyPost_ret (As rfl _ _ _) rfl ⟨rfl,rfl⟩
 |none=>
  have e0:Fl t.data.toList=Sx t.data.toList:=by unfold Fl;rw[hu]
  rw[e0];simp only[hu,Ab4]at hU;clear hu e0;by_cases h1:1<t.size
  . obtain⟨c,hc⟩: ∃c,t[1]=c:=⟨_,rfl⟩;have hg:t.data.toList[1]? =some c:=by rw[Bh t h1,hc]
    have hcl:=Bn c;have hlk:=Up w mb D0 c.toNat hm;rw[Zd]at hlk;have l1:(1:Int)<(t.size:Int):=by omega
    unfold Sx;rw[hg];simp only
    cases he:Ge c with
    |none=>
     rw[he]at hlk;simp only[Option.map_none,Option.getD_none,Option.isSome_none,Su]at hlk ⊢;clear he hg;have HU:=Lib.hid hU;clear hU;clear hm;go_enter Tryz.func235,Tryz.ntmps235;go_wp2_with (fail);(with_reducible refine(HU.out _).mono ?_);rintro e w1 ⟨rfl,rfl⟩;go_wp2;exact bodyPost_ret (As rfl _ _ _) rfl ⟨rfl,rfl⟩
    |some x=>
     rw[he]at hlk;simp only[Option.map_some,Option.getD_some,Option.isSome_some,Su]at hlk ⊢;clear he hg;have HU:=Lib.hid hU;clear hU;clear hm;go_enter Tryz.func235,Tryz.ntmps235;go_wp2_with (fail);(with_reducible refine(HU.out _).mono ?_);rintro e w1 ⟨rfl,rfl⟩;go_wp2;exact bodyPost_ret (As rfl _ _ _) rfl ⟨rfl,rfl⟩
  . have e0:Sx t.data.toList=.bad 4 0:=by
     unfold Sx;rw[List.getElem?_eq_none (by rw[Ab];omega)]
    have l1: ¬((1:Int)<(t.size:Int)):=by omega
    rw[e0];simp only[Su];clear e0;have HU:=Lib.hid hU;clear hU;clear hm;go_enter Tryz.func235,Tryz.ntmps235;go_wp2_with (fail);(with_reducible refine(HU.out _).mono ?_);rintro e w1 ⟨rfl,rfl⟩;go_wp2;exact bodyPost_ret (As rfl _ _ _) rfl ⟨rfl,rfl⟩
def Ew:Nat->List UInt8->Nat
 |0,_=>0
 |f+1,l=>if l= []then 0 else if(Lib.decodeL l).1=65533/\(Lib.decodeL l).2=1 then 0 else if 32<=(Lib.decodeL l).1/\(Lib.decodeL l).1≠34/\(Lib.decodeL l).1≠92 then(Lib.decodeL l).2+Ew f (l.drop (Lib.decodeL l).2)else 0
def Iw (r:Nat):Bool:=decide (32<=r/\r≠34/\r≠92)
def Gi (z:Nat):List (Nat×Nat)->Nat
 | []=>z
 |x::r=>if Iw x.2=true then Gi (x.1+(Lib.encodeRune (x.2:Int)).length) r else x.1
theorem Aeo {r:Nat} (h:E4 r):Lib.runeLen (r:Int)=((Lib.encodeRune (r:Int)).length:Nat):=by
 unfold E4 at h;unfold Lib.encodeRune Lib.runeLen;rw[List.length_map];by_cases h1:r<=127
 . rw[Lib.encodeRuneZ_one (by omega) (by omega),if_neg (by omega),if_pos (by omega)];rfl
 by_cases h2:r<=2047
 . rw[Lib.encodeRuneZ_two (by omega) (by omega),if_neg (by omega),if_neg (by omega),if_pos (by omega)];rfl
 by_cases h3:r<=65535
 . rw[Lib.encodeRuneZ_three (by omega),if_neg (by omega),if_neg (by omega),if_neg (by omega),if_neg (by omega),if_pos (by omega)];rfl
 . rw[Lib.encodeRuneZ_four (by omega) (by omega),if_neg (by omega),if_neg (by omega),if_neg (by omega),if_neg (by omega),if_neg (by omega),if_pos (by omega)];rfl
theorem R3: ∀(n:Nat) (l:List UInt8) (p:Nat),Gi p (A5 n l p)=p+Ew n l
 |0,l,p=>by simp[A5,Gi,Ew]
 |n+1,l,p=>by
  simp only[A5,Ew];by_cases h1:l= []
  . rw[if_pos h1,if_pos h1];rfl
  rw[if_neg h1,if_neg h1];by_cases h2:(Lib.decodeL l).1=65533/\(Lib.decodeL l).2=1
  . rw[if_pos h2,if_pos h2];rfl
  rw[if_neg h2,if_neg h2];simp only[Gi];by_cases h3:32<=(Lib.decodeL l).1/\(Lib.decodeL l).1≠34/\(Lib.decodeL l).1≠92
  . have e:Iw (Lib.decodeL l).1=true:=by unfold Iw;exact decide_eq_true h3
    have hl:(Lib.encodeRune ((Lib.decodeL l).1:Int)).length=(Lib.decodeL l).2:=by
     rw[Lib.encode_decode l h1 h2,List.length_take];have:=Lib.decodeL_le l h1;omega
    rw[if_pos e,if_pos h3,hl,R3 n _ _];omega
  . have e:Iw (Lib.decodeL l).1=false:=by unfold Iw;exact decide_eq_false h3
    rw[e,if_neg (by decide),if_neg h3];rfl
theorem W8: ∀(n:Nat) (l:List UInt8),Ew n l<=l.length
 |0,l=>Nat.zero_le _
 |n+1,l=>by
  simp only[Ew]
  split
  . exact Nat.zero_le _
  rename_i h1
  split
  . exact Nat.zero_le _
  split
  . have:=Lib.decodeL_le l h1;have h2:=W8 n (l.drop (Lib.decodeL l).2);rw[List.length_drop]at h2;omega
  . exact Nat.zero_le _
def Zl:List (Nat×Nat)->Nat
 | []=>0
 |x::r=>match r with
  | []=>x.1+(Lib.encodeRune (x.2:Int)).length
  |y::r'=>Zl (y::r')
theorem Ah9 (l:List (Nat×Nat)) (x:Nat×Nat):Zl (l++ [x])=x.1+(Lib.encodeRune (x.2:Int)).length:=by
 induction l with
 |nil=>rfl
 |cons a l ih=>
  cases l with
  |nil=>rfl
  |cons b l=>exact ih
theorem Oz: ∀(l r:List (Nat×Nat)) (z:Nat),(∀x ∈ l,Iw x.2=true)->Gi z (l++r)=Gi (if l= []then z else Zl l) r
 | [],r,z,_=>by simp
 |a::l,r,z,h=>by
  rw[List.cons_append,Gi,if_pos (h a (by simp)),Oz l r _ (fun x hx=>h x (by simp[hx]))]
  cases l with
  |nil=>rfl
  |cons b l=>rfl
theorem Qd: ∀(n:Nat) (l:List UInt8) (p:Nat),∀x ∈ A5 n l p,x.1+(Lib.encodeRune (x.2:Int)).length<=p+l.length
 |0,_,_,x,hx=>by simp[A5]at hx
 |n+1,l,p,x,hx=>by
  simp only[A5]at hx
  split at hx
  . cases hx
  rename_i h1
  split at hx
  . cases hx
  rename_i h2;have hd:=Lib.decodeL_le l h1;rcases List.mem_cons.1 hx with rfl|hx
  . simp only;rw[Lib.encode_decode l h1 h2,List.length_take];omega
  . have:=Qd n _ _ x hx;rw[List.length_drop]at this;omega
def PI (s:ByteArray) (w:World) (d:Nat) (pre:List (Nat×Nat)) (W:World):Prop:=
 Below w.heap.size w W/\An W w.heap.size 3 #[.int .i64 0]/\An W (w.heap.size+1) 3 #[.int .i64 (Zl pre)]/\(∀x ∈ pre,Iw x.2=true)/\W.heap[d]? =some (.cells #[.string s] 9 (0,0))
def PX (w:World) (v:Nat) (W:World):Prop:=Below w.heap.size w W/\An W w.heap.size 3 #[.int .i64 v]
theorem Pl {A:World} {g k:Nat} {t:TypeId} {cs:Array Value} {o o':Obj} (h:An A g t cs) (ho:A.heap[k]? =some o) (hc:o.isCells=false):An (A.putObj k o') g t cs:=by
 by_cases e:g=k
 . subst e;unfold An at h;rw[h]at ho
   cases ho
   cases hc
 . exact(World.putObj_heap_other e).trans h
theorem Nb {B:Nat} {a A:World} {k:Nat} (h:Below B a A) (hB:B<=A.heap.size) (hk:B<=k) (o':Obj):Below B a (A.putObj k o'):=h.grown (grownBy_putObj' A k o') hB (fun j e=>by cases e;exact hk)
set_option maxRecDepth 100000 in
theorem Abb (s:ByteArray) (w:World) (hT:Cf w) (hs:s.size<=1000000000):
 Calls Tryz.prog 236 #[.string s] w fun e w'=>e=.returned (.int .i64 (Ew s.size s.data.toList:Nat))/\Below w.heap.size w w':=by
 have hfin:Gi 0 (Cs s)=Ew s.size s.data.toList:=by
  unfold Cs;rw[R3];omega
 rw[<-hfin];have Hrs: ∀pre x rest,Cs s=pre++x::rest->E4 x.2/\x.1+(Lib.encodeRune (x.2:Int)).length<=s.size:=by
  intro pre x rest h;have hm:x ∈ A5 s.size s.data.toList 0:=by show x ∈ Cs s;rw[h];simp
  refine⟨Im _ _ _ x hm, ?_⟩;have:=Qd s.size s.data.toList 0 x hm
  rwa [Ab,Nat.zero_add]at this
 refine(callsIn_wide (n:=12)).1 ?_;refine callsIn_of_wp_marks Tryz.func236 rfl trivial ?_ rfl;simp only[Tryz.ntmps236,List.size_toArray,List.length_cons,List.length_nil,Nat.reduceAdd,Nat.reduceSub,Array.replicate_succ,Array.replicate_zero,List.push_toArray,List.append_toArray,List.nil_append,List.cons_append];have hx0:=((An.new w 3 #[.int .i64 0]).alloc (.cells #[.int .i64 0] 3)).alloc (.cells #[.string s] 9);have hx1:=(An.new (w.alloc (.cells #[.int .i64 0] 3)) 3 #[.int .i64 0]).alloc (.cells #[.string s] 9);rw[World.size_alloc]at hx1;have hbw:=(((Below.refl w.heap.size w).alloc (Nat.le_refl _) (.cells #[.int .i64 0] 3)).alloc (by simp) (.cells #[.int .i64 0] 3)).alloc (by simp;omega) (.cells #[.string s] 9);have hnew:=heap_alloc_new ((w.alloc (.cells #[.int .i64 0] 3)).alloc (.cells #[.int .i64 0] 3)) (.cells #[.string s] 9);have hsz:((w.alloc (.cells #[.int .i64 0] 3)).alloc (.cells #[.int .i64 0] 3)).heap.size=w.heap.size+2:=by simp
 rw[hsz]at hnew;obtain⟨Hx0,Hx1,Hbw,Hfin,Hnew,Hsz⟩:=hid6 hx0 hx1 hbw hfin hnew hsz;clear hx0 hx1 hbw hfin hnew hsz
 gi_wp2_with (refine⟨trivial, ?_⟩;gi_at_call 194;refine(callsIn_wide.2 (Rk _ _)).mono ?_;rintro e w3 ⟨rfl,rfl⟩)
 have hz3:(((w.alloc (.cells #[.int .i64 0] 3)).alloc (.cells #[.int .i64 0] 3)).alloc (.cells #[.string s] 9)).heap.size=w.heap.size+3:=by simp
 generalize ((w.alloc (.cells #[.int .i64 0] 3)).alloc (.cells #[.int .i64 0] 3)).alloc (.cells #[.string s] 9)=w3 at*
 have hyld:=Abt s (w.heap.size+2) hs;refine V2 (n:=10) (gf:=218) (lb:= #[.pointer (some ⟨w.heap.size+2,0,none⟩)]) rfl (enters_of Tryz.func218 (by kernel_rfl) rfl) hyld (fun _=>rfl)
  (fun pre W=>PI s w (w.heap.size+2) pre W/\w.heap.size+3<=W.heap.size) (fun W=>PX w (Gi 0 (Cs s)) W/\w.heap.size+3<=W.heap.size) ?hIn ?hXn ?hXp ?hIp ?hIb ?h0 ?a1 ?assign ?body ?stop ?done
 case assign=>
  intro l x W K hK
  gi_wp2
  exact hK
 case h0=>exact⟨⟨Hbw.out,Hx0.out,Hx1.out,fun x hx=>(by cases hx),Hnew.out⟩,by omega⟩
 case hIb=>
  rintro pre A ⟨⟨h1,_,_,_,h4⟩,_⟩;exact⟨(Lib.cell_of_heap h4 0).trans rfl,hT.below h1⟩
 case hIn=>
  rintro pre A B ⟨⟨h1,h2,h3,h4,h5⟩,h6⟩ hb;exact⟨⟨h1.trans (hb.mono h1.size),h2.below hb h2.lt,h3.below hb h3.lt,h4,(hb.block _ (Array.getElem?_eq_some_iff.1 h5).1).trans h5⟩,Nat.le_trans h6 hb.size⟩
 case hXn=>
  rintro A B ⟨⟨h1,h2⟩,h6⟩ hb;exact⟨⟨h1.trans (hb.mono h1.size),h2.below hb h2.lt⟩,Nat.le_trans h6 hb.size⟩
 case hXp=>
  rintro A k o o' ⟨⟨h1,h2⟩,h6⟩ ho hc hk;exact⟨⟨Nb h1 h1.size (by omega) _,Pl h2 ho hc⟩,by simpa using h6⟩
 case hIp=>
  rintro pre A k o o' ⟨⟨h1,h2,h3,h4,h5⟩,h6⟩ ho hc hk;exact⟨⟨Nb h1 h1.size (by omega) _,Pl h2 ho hc,Pl h3 ho hc,h4,(World.putObj_heap_other (by omega)).trans h5⟩,by simpa using h6⟩
 case body=>
  rintro l pre ⟨p,r⟩ rest W hx ⟨⟨h1,h2,h3,h4,h5⟩,h6⟩ ⟨ds,hds⟩ ⟨rc,hrc⟩;obtain⟨hsc,hle⟩:=Hrs pre (p,r) rest hx;simp only at hsc hle;have c0:=h2.cell 0;have c1:=h3.cell 0;have f0:=h2.frozen 0;have f1:=h3.frozen 0;have hl0:=h2.lt;have hl1:=h3.lt
  cases hB:Iw r with
  |true=>
   have hB':decide (32<=(r:Int)/\(r:Int)≠34/\(r:Int)≠92)=true:=by
    unfold Iw at hB;rw[decide_eq_true_eq]at hB ⊢;omega
   have hRL:=fun W=>Tryz.utf8_RuneLen (r:Int) W;rw[Aeo hsc]at hRL;have hfinI: ∀(a:Act),Yf (fun W=>PI s w (w.heap.size+2) (pre++ [(p,r)]) W/\w.heap.size+3<=W.heap.size) (fun W=>PX w (Gi 0 (Cs s)) W/\w.heap.size+3<=W.heap.size) w3.heap.size W .normal a (W.setCell ⟨w.heap.size+1,0,none⟩ (.int .i64 ((p:Int)+((Lib.encodeRune (r:Int)).length:Nat)))):=by
    intro a;refine⟨Below.heap_setCell _ _ _ _ (by show w3.heap.size≠w.heap.size+1;omega),Below.heap_setCell _ _ _ _ (by show w3.heap.size+1≠w.heap.size+1;omega),⟨h1.setCell (p:=⟨w.heap.size+1,0,none⟩) (by show w.heap.size<=w.heap.size+1;omega) _,h2.far (by show w.heap.size≠w.heap.size+1;omega) _, ?_, ?_,(Below.heap_setCell _ _ _ _ (by show w.heap.size+2≠w.heap.size+1;omega)).trans h5⟩,by simpa[World.setCell]using h6⟩
    . have:=h3.set_ 0 (.int .i64 ((p:Int)+((Lib.encodeRune (r:Int)).length:Nat)));rw[Ah9];simpa using this
    . intro x hx';rcases List.mem_append.1 hx' with hx'|hx'
      . exact h4 x hx'
      . simp only[List.mem_singleton]at hx';rw[hx'];exact hB
   generalize (Lib.encodeRune (r:Int)).length=n at hRL hle hfinI;obtain⟨HRL,HfinI,H1,H2,H3,H4,H5,Hx,Hds,Hrc⟩:=hid10 hRL hfinI h1 h2 h3 h4 h5 hx hds hrc;clear hRL hfinI h1 h2 h3 h4 h5 hx hds hrc;clear hB
   gi_wp2_with (first|(refine⟨trivial, ?_⟩;gi_at_call 195;refine(CallsIn.inRound l (callsIn_wide.2 (Db hB' _))).mono ?_;rintro e wx ⟨rfl,rfl⟩)|(refine⟨trivial, ?_⟩;gi_at_call 254;refine(CallsIn.inRound l (callsIn_wide.2 (HRL.out _))).mono ?_;rintro e wx ⟨rfl,rfl⟩))
   exact HfinI.out _
  |false=>
   have hB':decide (32<=(r:Int)/\(r:Int)≠34/\(r:Int)≠92)=false:=by
    unfold Iw at hB;rw[decide_eq_false_iff_not]at hB ⊢;omega
   have hval:Gi 0 (Cs s)=p:=by
    rw[hx,Oz _ _ _ h4,Gi,hB,if_neg (by decide)]
   have hfinX: ∀(a:Act),Yf (fun W=>PI s w (w.heap.size+2) (pre++ [(p,r)]) W/\w.heap.size+3<=W.heap.size) (fun W=>PX w (Gi 0 (Cs s)) W/\w.heap.size+3<=W.heap.size) w3.heap.size W .ret a (W.setCell ⟨w.heap.size,0,none⟩ (.int .i64 (p:Int))):=by
    intro a;refine⟨Below.heap_setCell _ _ _ _ (by show w3.heap.size≠w.heap.size;omega),Below.heap_setCell _ _ _ _ (by show w3.heap.size+1≠w.heap.size;omega),⟨h1.setCell (p:=⟨w.heap.size,0,none⟩) (Nat.le_refl _) _, ?_⟩,by simpa[World.setCell]using h6⟩;have:=h2.set_ 0 (.int .i64 (p:Int));rw[hval];exact this
   obtain⟨HfinX,H1,H2,H3,H4,H5,Hx,Hds,Hrc,Hval⟩:=hid10 hfinX h1 h2 h3 h4 h5 hx hds hrc hval;clear hfinX h1 h2 h3 h4 h5 hx hds hrc hval;clear hB
   gi_wp2_with (refine⟨trivial, ?_⟩;gi_at_call 195;refine(CallsIn.inRound l (callsIn_wide.2 (Db hB' _))).mono ?_;rintro e wx ⟨rfl,rfl⟩)
   exact HfinX.out _
 case stop=>
  rintro W ⟨⟨h1,h2⟩,h6⟩ hds;have h2':=Pl h2 hds rfl (o':=.deferred none);have c0:=h2'.cell 0;have hb':=Nb h1 h1.size (k:=w3.heap.size) (by omega) (.deferred none);obtain⟨H1,H2,H2',Hb'⟩:=hid4 h1 h2 h2' hb';clear h1 h2 h2' hb'
  gi_wp2
  refine⟨by simp,.inl ⟨_,_,rfl,run_takeDeferred hds, ?_⟩⟩;refine⟨.int .i64 (Gi 0 (Cs s):Nat), ?_,rfl,Hb'.out⟩;simp[results,Tryz.results236,go_sem,c0]
 case done=>
  rintro W ⟨⟨h1,h2,h3,h4,h5⟩,h6⟩ hds;have hval:Gi 0 (Cs s)=Zl (Cs s):=by
   have:=Oz (Cs s) [] 0 h4;rw[List.append_nil]at this;rw[this]
   split
   . rename_i e;rw[e];rfl
   . rfl
  have c0:=h2.cell 0;have c1:=h3.cell 0;have f0:=h2.frozen 0;have hl0:=h2.lt;have hds':=(Below.heap_setCell W ⟨w.heap.size,0,none⟩ (.int .i64 (Zl (Cs s):Nat)) w3.heap.size (by show w3.heap.size≠w.heap.size;omega)).trans hds;have h2':=Pl (h2.set_ 0 (.int .i64 (Zl (Cs s):Nat))) hds' rfl (o':=.deferred none);have c0':=h2'.cell 0;have hb':=Nb (h1.setCell (p:=⟨w.heap.size,0,none⟩) (Nat.le_refl _) (.int .i64 (Zl (Cs s):Nat))) (by simpa[World.setCell]using h1.size) (k:=w3.heap.size) (by omega) (.deferred none);obtain⟨H1,H2,H3,H4,H5,H2',Hb',Hval,Hds'⟩:=hid9 h1 h2 h3 h4 h5 h2' hb' hval hds';clear h1 h2 h3 h4 h5 h2' hb' hval hds'
  gi_wp2
  refine⟨by simp,.inl ⟨_,_,rfl,run_takeDeferred Hds'.out, ?_⟩⟩;refine⟨.int .i64 (Zl (Cs s):Nat), ?_,by rw[Hval.out],Hb'.out⟩;simp[results,Tryz.results236,go_sem,c0']
theorem Agf {c:UInt8} (h:c.toNat<128) (l:List UInt8):Lib.decodeL (c::l)=(c.toNat,1):=by
 rw[Ep];unfold Lib.decodeN;rw[if_pos (by simpa using h)];simp
theorem Sj {c:UInt8} {l:List UInt8} (hd: ¬((Lib.decodeL (c::l)).1=65533/\(Lib.decodeL (c::l)).2=1)):(32<=(Lib.decodeL (c::l)).1/\(Lib.decodeL (c::l)).1≠34/\(Lib.decodeL (c::l)).1≠92) ↔ (¬c.toNat<32/\c≠34/\c≠92):=by
 by_cases h:c.toNat<128
 . rw[Agf h];have e34:c=34 ↔ c.toNat=34:=⟨fun e=>by rw[e];rfl,fun e=>UInt8.toNat_inj.1 e⟩;have e92:c=92 ↔ c.toNat=92:=⟨fun e=>by rw[e];rfl,fun e=>UInt8.toNat_inj.1 e⟩;simp only[ne_eq,e34,e92];omega
 . have hr:128<=(Lib.decodeL (c::l)).1:=by
    have he:=Lib.encode_decode (c::l) (by simp) hd;have hs:=Og (l:=c::l) (by simp) hd;have hw:=Lib.decodeL_width (c::l);have hc:c ∈ Lib.encodeRune ((Lib.decodeL (c::l)).1:Int):=by
     rw[he];obtain⟨n,hn⟩: ∃n,(Lib.decodeL (c::l)).2=n+1:=⟨(Lib.decodeL (c::l)).2 - 1,by omega⟩;rw[hn];simp
    have:=Ps hs c hc;omega
   have n34:c≠34:=by rintro rfl;exact h (by decide)
   have n92:c≠92:=by rintro rfl;exact h (by decide)
   exact⟨fun _=>⟨by omega,n34,n92⟩,fun _=>⟨by omega,by omega,by omega⟩⟩
theorem Ac1 {s:List UInt8} {i:Nat} (h:i<s.length): ∃c,s[i]? =some c/\s.drop i=c::s.drop (i+1):=by
 refine⟨s[i],List.getElem?_eq_getElem h,List.drop_eq_getElem_cons h⟩
theorem W9: ∀(n f:Nat) (s:List UInt8) (i:Nat) (out:List UInt8),i<=s.length->s.length - i<f->
 ∃f',s.length - (i+Ew n (s.drop i))<f'/\Fw f s i out=Fw f' s (i+Ew n (s.drop i)) (out++(s.drop i).take (Ew n (s.drop i)))
 |0,f,s,i,out,hi,hf=>⟨f,by simpa[Ew]using hf,by simp[Ew]⟩
 |n+1,f,s,i,out,hi,hf=>by
  by_cases hlt:i<s.length;rotate_left
  . have e:s.drop i= []:=List.drop_eq_nil_of_le (by omega);refine⟨f, ?_, ?_⟩<;>simp[Ew,e]
    omega
  obtain⟨c,hc,hd⟩:=Ac1 hlt;have hne:s.drop i≠ []:=by rw[hd];simp
  simp only[Ew];rw[if_neg hne];by_cases h2:(Lib.decodeL (s.drop i)).1=65533/\(Lib.decodeL (s.drop i)).2=1
  . rw[if_pos h2];exact⟨f,by simpa using hf,by simp⟩
  rw[if_neg h2];by_cases h3:32<=(Lib.decodeL (s.drop i)).1/\(Lib.decodeL (s.drop i)).1≠34/\(Lib.decodeL (s.drop i)).1≠92;rotate_left
  . rw[if_neg h3];exact⟨f,by simpa using hf,by simp⟩
  rw[if_pos h3];have hb:=h3;rw[hd]at hb h2;have hb':=(Sj h2).1 hb;rw[<-hd]at h2;obtain⟨f,rfl⟩: ∃g,f=g+1:=⟨f - 1,by omega⟩;have hw:=Lib.decodeL_width (s.drop i);have hle:=Ac6 hlt;have e1:Fw (f+1) s i out=Fw f s (i+(Lib.decodeL (s.drop i)).2) (out++(s.drop i).take (Lib.decodeL (s.drop i)).2):=by
   conv=>lhs;unfold Fw
   rw[hc];simp only;rw[if_neg hb'.2.1,if_neg hb'.1,if_neg hb'.2.2,if_neg h2]
  obtain⟨f',h4,h5⟩:=W9 n f s (i+(Lib.decodeL (s.drop i)).2) (out++(s.drop i).take (Lib.decodeL (s.drop i)).2) hle (by omega);rw[<-List.drop_drop]at h4 h5;refine⟨f',by rw[<-Nat.add_assoc];exact h4, ?_⟩;rw[e1,h5,<-Nat.add_assoc,List.append_assoc,List.take_add]
theorem Ad9 {n f:Nat} {s:List UInt8} {i:Nat} {out:List UInt8} {c:UInt8} (hc:s[i]? =some c) (h34:c≠34) (h92:c≠92) (hp:Ew (n+1) (s.drop i)=0):Fw (f+1) s i out=.bad (if c.toNat<32 then 4 else 3) i:=by
 have hd:=Er hc;have hne:s.drop i≠ []:=by rw[hd];simp
 simp only[Ew]at hp;rw[if_neg hne]at hp;unfold Fw;rw[hc];simp only;rw[if_neg h34];by_cases h32:c.toNat<32
 . rw[if_pos h32,if_pos h32]
 rw[if_neg h32,if_neg h92,if_neg h32];by_cases h2:(Lib.decodeL (s.drop i)).1=65533/\(Lib.decodeL (s.drop i)).2=1
 . rw[if_pos h2]
 rw[if_neg h2]at hp;have h2':=h2;rw[hd]at h2';have h3:=(Sj h2').2 ⟨h32,h34,h92⟩;rw[<-hd]at h3;rw[if_pos h3]at hp;have:=Lib.decodeL_width (s.drop i);omega
theorem Ajb {l:List UInt8} {e:Int} {q:Nat} (h:Fl l=.bad e q):e=3\/e=4:=by
 unfold Fl Fu Sx at h
 repeat' split at h
 all_goals first|(simp only[Rd.bad.injEq]at h;omega)|cases h
def Rf (r:Rd (List UInt8)):Value:=match r with
 | .ok a q=> .tuple #[.string ⟨a.toArray⟩,.int .i64 (q:Nat),.int .i64 0]
 | .bad e q=> .tuple #[.string ⟨#[]⟩,.int .i64 (q:Nat),.int .i64 e]
theorem U6 {B g:Nat} {bs:List UInt8} {w:World} (h:BB w B g bs):Calls Tryz.prog 75 #[.pointer (some ⟨g,0,none⟩)] w fun e w'=>e=.returned (.string ⟨bs.toArray⟩)/\Below B w w':=by
 obtain⟨p,v,hB,hb,ht,_,h0,v',h1,hown⟩:=h;simp only[Nat.zero_add]at h1;have hv:v'=v:=by simpa using h1.symm
 subst hv;have hlt:g<w.heap.size:=(Array.getElem?_eq_some_iff.1 hb).1;refine Tryz.Builder_String_any B g bs w ?_ (by omega);have hne:=Lib.ownBlock_ne hown hb ht;have hat: ∀p',p=p'->Lib.BuilderAt 128 5 B g p' (Lib.byteCells bs) w:=fun p' e=>by
  subst e;exact⟨hB,v',hb,by have:=hown;simpa[Lib.byteCells]using this,hne⟩
 rcases h0 with h0|h0
 . exact .inl (hat _ (by simpa using h0))
 . exact .inr (hat _ (by simpa using h0))
def Am0 (W:World) (b:Nat) (m:Option Nat):Prop:= ∀mb,m=some mb->b<mb/\W.heap[mb]? =some (.map (Jg D0 0).toArray D0.length)
def UI (s:ByteArray) (w:World) (RES:Rd (List UInt8)) (i:Nat) (m:Option Nat) (wr:World):Prop:=
 ∃out f,Below w.heap.size w wr/\BB wr w.heap.size w.heap.size out/\Am0 wr w.heap.size m/\Fw f s.data.toList i out=RES/\s.size - i<f/\out.length<=i
theorem Aag {s:ByteArray} (i:Nat):(s.extract i s.size).data.toList=s.data.toList.drop i:=by
 rw[Lib.extract_data];exact List.take_of_length_le (by rw[List.length_drop,Ab];omega)
set_option maxRecDepth 100000 in
theorem Ah8 (s:ByteArray) (k:Nat) (w:World) (hT:Cf w) (hs:s.size<=1000000000) (hk:k<=s.size):
 Calls Tryz.prog 224 #[.string s,.int .i64 k] w fun e w'=>e=.returned (Rf (Di s.data.toList k))/\Below w.heap.size w w':=by
 have hlen:=Ab s;have n0: ¬((k:Int)<0):=by omega
 have n1: ¬((s.size:Int)<(k:Int)):=by omega
 by_cases hlt:k<s.size;rotate_left
 . obtain rfl:k=s.size:=by omega
   have e:Di s.data.toList s.size=.bad 4 s.size:=by unfold Di;rw[if_neg (by rw[List.getElem?_eq_none (by omega)];simp)]
   rw[e];simp only[Rf];clear e hlen;have HT:=Lib.hid hT;clear hT n1 hlt;go_enter Tryz.func224,Tryz.ntmps224;go_wp2
   go_step3
   go_wp2;rw[Exit.noGoto_ret];exact bodyPost_ret (As rfl _ _ _) rfl ⟨rfl,Below.refl _ _⟩
 obtain⟨c,hc⟩: ∃c,s[k]=c:=⟨_,rfl⟩;have hg:s.data.toList[k]? =some c:=by rw[Bh s hlt,hc]
 have hcl:=Bn c;have ne: ∀(c:UInt8) (n:Nat),n<256->c≠UInt8.ofNat n->((c.toNat:Int)==(n:Int))=false:=fun c n hn h=>by rw[Iq hn];simpa using h
 have e1:((k:Int)==(s.size:Int))=false:=by rw[beq_eq_false_iff_ne];omega
 by_cases h34:c=34;rotate_left
 . have e:Di s.data.toList k=.bad 4 k:=by unfold Di;rw[if_neg (by rw[hg];simpa using h34)]
   rw[e];have e2:=ne c 34 (by decide) h34;simp only[Rf];clear e hlen hg ne h34;have HT:=Lib.hid hT;clear hT;go_enter Tryz.func224,Tryz.ntmps224;go_wp2
   go_step3
   go_wp2;rw[Exit.noGoto_ret];exact bodyPost_ret (As rfl _ _ _) rfl ⟨rfl,Below.refl _ _⟩
 subst h34;obtain⟨RES,hRES⟩: ∃R,Di s.data.toList k=R:=⟨_,rfl⟩;rw[hRES];have hF:Fw (s.data.toList.length - k) s.data.toList (k+1) []=RES:=by
  rw[<-hRES];unfold Di;rw[if_pos hg]
 have hB0:BB (w.alloc (.cells #[.pointer none,.slice none 0 0] 128)) w.heap.size w.heap.size []:=
  ⟨_,_,Nat.le_refl _,heap_alloc_new _ _,by decide,by simp,.inl rfl,.slice none 0 0,rfl,World.ownsRow_nil _ _ _ _⟩
 have H0:Hid (UI s w RES (k+1) none (w.alloc (.cells #[.pointer none,.slice none 0 0] 128))):=⟨[],_,Aa _ _,hB0,fun mb e=>(by cases e),hF,by omega,by simp⟩;clear hRES hF hB0 hg hlen;have d0:decide ((k:Int)<0)=false:=decide_eq_false (by omega);have d1:decide (s.size<k)=false:=decide_eq_false (by omega);clear n0 n1;obtain⟨HT,Ne⟩:=hid2 hT ne;clear hT ne;go_enter Tryz.func224,Tryz.ntmps224;go_wp2
 go_step3
 go_wp2
 go_step3
 go_wp2;go_loopw [7,9] (fun m i wr=> ∃(j:Nat) (mm:Option Nat),m=.map mm/\i=.int .i64 j/\j<=s.size/\Hid (UI s w RES j mm wr)) (fun _ i _=>s.size - (intOf i).toNat)
 case atStart=>exact⟨k+1,none,rfl,by go_num,by omega,H0⟩
 case round=>
  obtain⟨j,mm,rfl,rfl,hj,hI⟩:=hrel;clear H0 e1 hc d0 d1;clear hlt hk;by_cases hlt:j<s.size
  . obtain⟨c,hc⟩: ∃c,s[j]=c:=⟨_,rfl⟩;have hg:s.data.toList[j]? =some c:=by rw[Bh s hlt,hc]
    have hcl:=Bn c;have e1:((j:Int)==(s.size:Int))=false:=by rw[beq_eq_false_iff_ne];omega
    by_cases h34:c=34
    . subst h34;obtain⟨out,f,h1,h2,h3,h4,h5,h6⟩:=hI.out;obtain⟨f,rfl⟩: ∃g,f=g+1:=⟨f - 1,by omega⟩;have hR:RES=.ok out (j+1):=by
       rw[<-h4];unfold Fw;rw[hg];simp
      have hS:=U6 h2;obtain⟨HS,H1,H2,H3,H4,HR⟩:=hid6 hS h1 h2 h3 h4 hR;clear hS h1 h2 h3 h4 hR;clear hI hg;go_wp2_with (fail);(with_reducible refine(HS.out).mono ?_);rintro e w2 ⟨rfl,hb2⟩;have hB:=Lib.hid (H1.out.trans hb2);clear hb2;go_wp2
      try rw[Exit.noGoto_ret]
      exact bodyPost_ret (As rfl _ _ _) rfl ⟨by rw[HR.out];rfl,hB.out⟩
    have e34:=Ne.out c 34 (by decide) h34;by_cases h92:c=92
    . subst h92;obtain⟨out,f,h1,h2,h3,h4,h5,h6⟩:=hI.out;obtain⟨f,rfl⟩: ∃g,f=g+1:=⟨f - 1,by omega⟩;have hR:RES=match Fl (s.data.toList.drop j)with
       | .bad e _=> .bad e j
       | .ok r n=>Fw f s.data.toList (j+n) (out++Lib.encodeRune (r:Int)):=by
       rw[<-h4]
       conv=>lhs;unfold Fw
       rw[hg];simp only;rw[if_neg (by decide),if_neg (by decide),if_pos trivial];rfl
      have hext:=Aag (s:=s) j;have hes:(s.extract j s.size).size<=1000000000:=by rw[ByteArray.size_extract];omega
      have hE:=fun(mb:Nat) (W:World) hm=>Ya (s.extract j s.size) mb W hes hm;rw[hext]at hE;have hok: ∀r n,Fl (s.data.toList.drop j)=.ok r n->r<=1114111/\2<=n/\j+n<=s.size/\(Lib.encodeRune (r:Int)).length<=n:=fun r n e=>by
       have a1:=Nh e;have a2:=T0 e;rw[List.length_drop,Ab]at a1;exact⟨a1.1,a1.2.2.1,by omega,a2⟩
      have hbad: ∀e q,Fl (s.data.toList.drop j)=.bad e q->e=3\/e=4:=fun e q h=>Ajb h;clear hext hes hg h34;generalize Fl (s.data.toList.drop j)=X at hE hR hok hbad;have hnil:=fun(wx:World) (m0:Option Nat)=>run_eql_map_nil (P:=Tryz.prog) wx 253 _ _ m0 Tryz.underlying253;have key: ∀(W:World) (mb:Nat),Below w.heap.size w W->BB W w.heap.size w.heap.size out->w.heap.size<mb->W.heap[mb]? =some (.map (Jg D0 0).toArray D0.length)-> ∀r n,X=.ok r n->
       Calls Tryz.prog 235 #[.string (s.extract j s.size),.map (some mb)] W (fun e W'=>e=.returned (Su X)/\W=W')/\
       (Calls Tryz.prog 196 #[.pointer (some ⟨w.heap.size,0,none⟩),.int .i32 r] W fun e W'=>(∃k:Int,e=.returned (.tuple #[.int .i64 k,.nilIface]))/\UI s w RES (j+n) (some mb) W'):=by
       intro W mb a1 a2 a3 a4 r n e;refine⟨hE mb W a4, ?_⟩;obtain⟨b1,b2,b3,b4⟩:=hok r n e;refine(Jq (r:Int) (by omega) (by omega) a2 (by omega)).mono ?_;rintro e' W' ⟨hk',hB',hb',hkp⟩;refine⟨hk',out++Lib.encodeRune (r:Int),f,a1.trans hb',hB',fun mb' e2=> ?_, ?_,by omega,by rw[List.length_append];omega⟩
       . cases e2
         exact⟨a3,hkp _ _ a4 (by simp;omega) (fun c fz e=>by cases e)⟩
       . rw[hR,e]
      have hU: ∀W,Calls Tryz.prog 234 #[] W fun e w'=>e=.returned (.map (some W.heap.size))/\W.alloc (.map (Jg D0 0).toArray D0.length)=w':=fun W=>Ze W;have hz1:=h1.size
      cases X with
      |bad e0 q0=>
       simp only[Su]at hE hR;have hn0:(e0 != 0)=true:=by
        rcases hbad e0 q0 rfl with rfl|rfl<;>decide
       rcases mm with _|mb
       . have hm:=heap_alloc_new wr (.map (Jg D0 0).toArray D0.length);have hE':=hE wr.heap.size _ hm;have hbw:=h1.alloc hz1 (.map (Jg D0 0).toArray D0.length);obtain⟨HE',HU,H1,H2,H3,H4,HR,Key,Hok,Hbw,Hm,Hbad⟩:=hid12 hE' hU h1 h2 h3 h4 hR key hok hbw hm hbad;clear hE' hU h1 h2 h3 h4 hR key hok hbw hm hbad;clear hI hE;go_wp2_with (fail);(with_reducible refine(HU.out _).mono ?_);rintro e w2 ⟨rfl,rfl⟩;go_wp2_with (fail);(with_reducible refine(HE'.out).mono ?_);rintro e w2 ⟨rfl,rfl⟩;go_wp2
         try rw[Exit.noGoto_ret]
         exact bodyPost_ret (As rfl _ _ _) rfl ⟨by rw[HR.out];rfl,Hbw.out⟩
       . have hE':=hE mb _ (h3 mb rfl).2;obtain⟨HE',HU,H1,H2,H3,H4,HR,Key,Hok,Hbad⟩:=hid10 hE' hU h1 h2 h3 h4 hR key hok hbad;clear hE' hU h1 h2 h3 h4 hR key hok hbad;clear hI hE;go_wp2_with (fail);(with_reducible refine(HE'.out).mono ?_);rintro e w2 ⟨rfl,rfl⟩;go_wp2
         try rw[Exit.noGoto_ret]
         exact bodyPost_ret (As rfl _ _ _) rfl ⟨by rw[HR.out];rfl,H1.out⟩
      |ok r n=>
       obtain⟨b1,b2,b3,b4⟩:=hok r n rfl;rcases mm with _|mb
       . obtain⟨k1,k2⟩:=key (wr.alloc (.map (Jg D0 0).toArray D0.length)) wr.heap.size (h1.alloc hz1 _) (h2.below (Aa _ _)) h2.lt (heap_alloc_new wr _) r n rfl;simp only[Su]at k1;obtain⟨HU,H1,H2,H3,H4,HR,Key,Hok,K1,K2,Hbad⟩:=hid11 hU h1 h2 h3 h4 hR key hok k1 k2 hbad;clear hU h1 h2 h3 h4 hR key hok k1 k2 hbad;clear hI hE;go_wp2_with (fail);(with_reducible refine(HU.out _).mono ?_);rintro e w2 ⟨rfl,rfl⟩;go_wp2_with (fail);(with_reducible refine(K1.out).mono ?_);rintro e w2 ⟨rfl,rfl⟩;go_wp2_with (fail);(with_reducible refine(K2.out).mono ?_);rintro e w2 ⟨⟨z,rfl⟩,hu2⟩;have HU2:=Lib.hid hu2;clear hu2;go_wp2;go_roundw
         case rel=>exact⟨j+n,_,rfl,by go_num,by omega,HU2⟩
         case measure=>simp[intOf];omega
       . obtain⟨k1,k2⟩:=key wr mb h1 h2 (h3 mb rfl).1 (h3 mb rfl).2 r n rfl;simp only[Su]at k1;obtain⟨HU,H1,H2,H3,H4,HR,Key,Hok,K1,K2,Hbad⟩:=hid11 hU h1 h2 h3 h4 hR key hok k1 k2 hbad;clear hU h1 h2 h3 h4 hR key hok k1 k2 hbad;clear hI hE;go_wp2_with (fail);(with_reducible refine(K1.out).mono ?_);rintro e w2 ⟨rfl,rfl⟩;go_wp2_with (fail);(with_reducible refine(K2.out).mono ?_);rintro e w2 ⟨⟨z,rfl⟩,hu2⟩;have HU2:=Lib.hid hu2;clear hu2;go_wp2;go_roundw
         case rel=>exact⟨j+n,_,rfl,by go_num,by omega,HU2⟩
         case measure=>simp[intOf];omega
    ·
     have e92:=Ne.out c 92 (by decide) h92;obtain⟨out,f,h1,h2,h3,h4,h5,h6⟩:=hI.out;have hext:=Aag (s:=s) j;have hsz:(s.extract j s.size).size=s.size - j:=by rw[ByteArray.size_extract];omega
     have hP:=Abb (s.extract j s.size) wr (HT.out.below h1) (by omega);rw[hext,hsz]at hP;obtain⟨nn,hnn⟩: ∃nn,s.size - j=nn+1:=⟨s.size - j - 1,by omega⟩;have hle:=W8 (s.size - j) (s.data.toList.drop j);rw[List.length_drop,Ab]at hle;obtain⟨f',q1,q2⟩:=W9 (s.size - j) f s.data.toList j out (by rw[Ab];omega) (by rw[Ab];omega);rw[Ab]at q1;have hnone:Ew (s.size - j) (s.data.toList.drop j)=0->RES=.bad (if c.toNat<32 then 4 else 3) j:=fun e=>by
      obtain⟨g,rfl⟩: ∃g,f=g+1:=⟨f - 1,by omega⟩;rw[hnn]at e;rw[<-h4,Ad9 hg h34 h92 e]
     generalize hpl:Ew (s.size - j) (s.data.toList.drop j)=p at hP hle q1 q2 hnone;clear hext hsz hnn hg h34 h92 hI hpl;by_cases hp0:p=0
     . subst hp0;have hR:=hnone rfl;have hW:=fun W=>Vq c W;have t0:((0:Int)==0)=true:=rfl;generalize (if c.toNat<32 then(4:Int)else 3)=E at hW hR;obtain⟨HP,H1,H2,H3,H4,HR,HW,Q2,Hnone⟩:=hid9 hP h1 h2 h3 h4 hR hW q2 hnone;clear hP h1 h2 h3 h4 hR hW q2 hnone;go_wp2_with (fail);(with_reducible refine(HP.out).mono ?_);rintro e w2 ⟨rfl,hb2⟩;have hB:=Lib.hid (H1.out.trans (hb2.mono H1.out.size));clear hb2;go_wp2_with (fail);(with_reducible refine(HW.out _).mono ?_);rintro e w3 ⟨rfl,rfl⟩;go_wp2
       try rw[Exit.noGoto_ret]
       exact bodyPost_ret (As rfl _ _ _) rfl ⟨by rw[HR.out];rfl,hB.out⟩
     . have t0:((p:Int)==0)=false:=by rw[beq_eq_false_iff_ne];omega
       have hex:(s.extract j (j+p)).data.toList=(s.data.toList.drop j).take p:=by rw[Lib.extract_data];congr 1;omega
       have hsx:(s.extract j (j+p)).size=p:=by rw[ByteArray.size_extract];omega
       have hnext: ∀W W',Below wr.heap.size wr W->BB W' w.heap.size w.heap.size (out++(s.extract j (j+p)).data.toList)->Below w.heap.size W W'->E8 w.heap.size W W'->UI s w RES (j+p) mm W':=by
        intro W W' a1 a2 a3 a4;refine⟨_,f',(h1.trans (a1.mono h1.size)).trans a3,a2,fun mb e=> ?_,by rw[hex,<-q2];exact h4,q1,by rw[List.length_append,hex,List.length_take,List.length_drop];omega⟩;obtain⟨b1,b2⟩:=h3 mb e;have hlm:mb<wr.heap.size:=(Array.getElem?_eq_some_iff.1 b2).1;exact⟨b1,a4 _ _ ((a1.block mb hlm).trans b2) (by simp;omega) (fun c fz e=>by cases e)⟩
       have hWS: ∀W,Below wr.heap.size wr W->Calls Tryz.prog 160 #[.pointer (some ⟨w.heap.size,0,none⟩),.string (s.extract j (j+p))] W (fun e W'=>e=.returned (.tuple #[.int .i64 p,.nilIface])/\UI s w RES (j+p) mm W'):=by
        intro W a1;refine(J7 (s.extract j (j+p)) (h2.below a1) (by omega)).mono ?_;rintro e W' ⟨rfl,b1,b2,b3⟩;rw[hsx];exact⟨rfl,hnext W W' a1 b1 b2 b3⟩
       obtain⟨HP,H1,H2,H3,H4,Q2,Hnone,HWS,Hnext⟩:=hid9 hP h1 h2 h3 h4 q2 hnone hWS hnext;clear hP h1 h2 h3 h4 q2 hnone hWS hnext;clear hex hsx;go_wp2_with (fail);(with_reducible refine(HP.out).mono ?_);rintro e w2 ⟨rfl,hb2⟩;have hW2:=HWS.out w2 hb2;obtain⟨HW2,Hb2⟩:=hid2 hW2 hb2;clear hW2 hb2;go_wp2_with (fail);(with_reducible refine(HW2.out).mono ?_);rintro e w3 ⟨rfl,hu2⟩;have HU2:=Lib.hid hu2;clear hu2;go_wp2;go_roundw
       case rel=>exact⟨j+p,_,rfl,by go_num,by omega,HU2⟩
       case measure=>simp[intOf];omega
  . obtain rfl:j=s.size:=by omega
    obtain⟨out,f,h1,h2,h3,h4,h5,h6⟩:=hI.out;obtain⟨f,rfl⟩: ∃g,f=g+1:=⟨f - 1,by omega⟩;have hR:RES=.bad 4 s.size:=by
     rw[<-h4];unfold Fw;rw[List.getElem?_eq_none (by rw[Ab];exact Nat.le_refl _)]
    obtain⟨H1,H2,H3,H4,HR⟩:=hid5 h1 h2 h3 h4 hR;clear h1 h2 h3 h4 hR;clear hI;go_wp2
    try rw[Exit.noGoto_ret]
    exact bodyPost_ret (As rfl _ _ _) rfl ⟨by rw[HR.out];rfl,H1.out⟩
abbrev Mk:TypeId:=199
theorem Dz:MKey Tryz.prog 5 (Value.int .u8):=Aj1 Tryz.underlying5
section
variable {α:Type} [DecidableEq α] {f:α->Value} {P:Program} {kt et t:TypeId} {w w':World} {g:Nat} {kv:List (α×Value)}
theorem Bp {a k:α} {v:Value} {r:List (α×Value)} (h:a≠k) (hr:Cy a r=none):Cy a ((k,v)::r)=none:=by
 simp only[Cy,if_neg h];exact hr
end
structure NR (s:ByteArray) (w wr:World) (m:Option Nat) (kv:List (Int×Value)):Prop where
 below:Below w.heap.size w wr
 map:Cw (Value.int .u8) wr (w.heap.size+1) kv
 blk:An wr w.heap.size 201 #[.string s,.int .i64 0,.map m]
theorem NR.ins {s:ByteArray} {w wr w':World} {m:Option Nat} {kv kv':List (Int×Value)} (h:NR s w wr m kv) (hM:Cw (Value.int .u8) w' (w.heap.size+1) kv') (hg:wr.grownBy w' (some (w.heap.size+1))):NR s w w' m kv':=
 ⟨h.below.grown hg h.below.size fun k e=>by have:=Option.some.inj e;omega,hM,h.blk.grown hg (by intro e;have:=Option.some.inj e;omega)⟩
theorem NR.set {s:ByteArray} {w wr:World} {m:Option Nat} {kv:List (Int×Value)} (h:NR s w wr m kv):NR s w (wr.setCell ⟨w.heap.size,2,none⟩ (.map (some (w.heap.size+1)))) (some (w.heap.size+1)) kv:=
 ⟨h.below.setCell (Nat.le_refl _) _,h.map.setCell (by show w.heap.size+1≠w.heap.size;omega) _,by have:=h.blk.set_ 2 (.map (some (w.heap.size+1)));exact this⟩
theorem Ak4 (R:Nat): ∀j:Nat,j<10->Cy (48+(j:Int)) ((KV R).take (7+j))=none/\(KV R).take (7+j)++ [(48+(j:Int),Value.func (.func 172) #[.pointer (some ⟨R,0,none⟩)] #[])]=(KV R).take (7+(j+1)):=by
 intro j hj
 match j,hj with
 |0,_|1,_|2,_|3,_|4,_|5,_|6,_|7,_|8,_|9,_=>exact⟨by simp[KV,Cy],rfl⟩
set_option maxRecDepth 100000 in
theorem Sy (s:ByteArray) (w:World):Calls Tryz.prog 122 #[.string s] w fun e w'=>e=.returned (.pointer (some ⟨w.heap.size,0,none⟩))/\NR s w w' (some (w.heap.size+1)) (KV w.heap.size):=by
 have hmm:=fun W=>run_makeMap (P:=Tryz.prog) Mk W;have hS0:NR s w ((w.alloc (.cells #[.string s,.int .i64 0,.map none] 201)).alloc (.map #[] 0)) none []:=by
  have:=Cw.new (f:=Value.int .u8) (w.alloc (.cells #[.string s,.int .i64 0,.map none] 201));rw[World.size_alloc]at this;exact⟨((Below.refl _ _).alloc (Nat.le_refl _) _).alloc (by simp) _,this,(An.new _ _ _).alloc _⟩
 have HS0:=Lib.hid hS0;clear hS0;go_enter Tryz.func122,Tryz.ntmps122;go_upto_region 2 with(fail);go_upto_region 3 with(first
  |(((with_reducible refine Cd rfl (.tmp 9) _ _ Mk rfl Dz Tryz.underlying199 rfl HS0.out.map (k:=110) rfl rfl rfl ?_));intro w1 hM hg hs;have HS1:=Lib.hid (HS0.out.ins hM hg);(have r2:=HS1.out.blk.cell 2);(have f2:=HS1.out.blk.frozen 2);(have hlt:=HS1.out.blk.lt);clear hM hg hs HS0)
  |(((with_reducible refine Cd rfl (.tmp 9) _ _ Mk rfl Dz Tryz.underlying199 rfl HS1.out.map (k:=102) rfl rfl (Bp (by decide) rfl) ?_));intro w2 hM hg hs;have HS2:=Lib.hid (HS1.out.ins hM hg);(have r2:=HS2.out.blk.cell 2);(have f2:=HS2.out.blk.frozen 2);(have hlt:=HS2.out.blk.lt);clear hM hg hs HS1)
  |(((with_reducible refine Cd rfl (.tmp 9) _ _ Mk rfl Dz Tryz.underlying199 rfl HS2.out.map (k:=116) rfl rfl (Bp (by decide) (Bp (by decide) rfl)) ?_));intro w3 hM hg hs;have HS3:=Lib.hid (HS2.out.ins hM hg);(have r2:=HS3.out.blk.cell 2);(have f2:=HS3.out.blk.frozen 2);(have hlt:=HS3.out.blk.lt);clear hM hg hs HS2)
  |(((with_reducible refine Cd rfl (.tmp 9) _ _ Mk rfl Dz Tryz.underlying199 rfl HS3.out.map (k:=34) rfl rfl (Bp (by decide) (Bp (by decide) (Bp (by decide) rfl))) ?_));intro w4 hM hg hs;have HS4:=Lib.hid (HS3.out.ins hM hg);(have r2:=HS4.out.blk.cell 2);(have f2:=HS4.out.blk.frozen 2);(have hlt:=HS4.out.blk.lt);clear hM hg hs HS3)
  |(((with_reducible refine Cd rfl (.tmp 9) _ _ Mk rfl Dz Tryz.underlying199 rfl HS4.out.map (k:=91) rfl rfl (Bp (by decide) (Bp (by decide) (Bp (by decide) (Bp (by decide) rfl)))) ?_));intro w5 hM hg hs;have HS5:=Lib.hid (HS4.out.ins hM hg);(have r2:=HS5.out.blk.cell 2);(have f2:=HS5.out.blk.frozen 2);(have hlt:=HS5.out.blk.lt);clear hM hg hs HS4)
  |(((with_reducible refine Cd rfl (.tmp 9) _ _ Mk rfl Dz Tryz.underlying199 rfl HS5.out.map (k:=123) rfl rfl (Bp (by decide) (Bp (by decide) (Bp (by decide) (Bp (by decide) (Bp (by decide) rfl))))) ?_));intro w6 hM hg hs;have HS6:=Lib.hid (HS5.out.ins hM hg);(have r2:=HS6.out.blk.cell 2);(have f2:=HS6.out.blk.frozen 2);(have hlt:=HS6.out.blk.lt);clear hM hg hs HS5)
  |(((with_reducible refine Cd rfl (.tmp 9) _ _ Mk rfl Dz Tryz.underlying199 rfl HS6.out.map (k:=45) rfl rfl (Bp (by decide) (Bp (by decide) (Bp (by decide) (Bp (by decide) (Bp (by decide) (Bp (by decide) rfl)))))) ?_));intro w7 hM hg hs;have HS7:=Lib.hid (HS6.out.ins hM hg);(have r2:=HS7.out.blk.cell 2);(have f2:=HS7.out.blk.frozen 2);(have hlt:=HS7.out.blk.lt);clear hM hg hs HS6))
 have h0:NR s w (w7.setCell ⟨w.heap.size,2,none⟩ (.map (some (w.heap.size+1)))) (some (w.heap.size+1)) ((KV w.heap.size).take (7+0)):=HS7.out.set;generalize w7.setCell ⟨w.heap.size,2,none⟩ (.map (some (w.heap.size+1)))=w8 at h0 ⊢;clear r2 f2 hlt HS7;have H0:=Lib.hid h0;clear h0;go_wp2;go_loopw [4] (fun i wr=> ∃j:Nat,i=.int .u8 (48+(j:Int))/\j<=10/\Hid (NR s w wr (some (w.heap.size+1)) ((KV w.heap.size).take (7+j)))) (fun i _=>58 - (intOf i).toNat)
 case atStart=>exact⟨0,rfl,by omega,H0⟩
 case round=>
  obtain⟨j,rfl,hj,hh⟩:=hrel;clear H0;have c2:=hh.out.blk.cell 2;have hlt:=hh.out.blk.lt;by_cases hlt':j<10
  . obtain⟨hn,hk⟩:=Ak4 w.heap.size j hlt';have l1:decide ((48:Int)+(j:Int)<=57)=true:=decide_eq_true (by omega);obtain⟨w9,hrun,hM,hg,_⟩:=Kx Dz Tryz.underlying199 hh.out.map hn (Value.func (.func 172) #[.pointer (some ⟨w.heap.size,0,none⟩)] #[]);rw[hk]at hM;have HN:=Lib.hid (hh.out.ins hM hg);clear hM hg hh hn hk;go_wp2;go_roundw
    case rel=>exact⟨j+1,by go_num,by omega,HN⟩
    case measure=>simp[intOf];omega
  . obtain rfl:j=10:=by omega
    go_wp2;go_ret;exact⟨rfl,hh.out⟩
theorem Rm: ∀a b:List UInt8,Lib.compareBytes a b<0 ↔ Op.bytesLess a b=true
 | [], []=>by decide
 | [],_::_=>by simp[Lib.compareBytes,Op.bytesLess]
 |_::_, []=>by simp[Lib.compareBytes,Op.bytesLess]
 |a::x,b::y=>by
  have ih:=Rm x y;have e1:Lib.compareBytes (a::x) (b::y)=if a<b then -1 else if b<a then 1 else Lib.compareBytes x y:=rfl;have e2:Op.bytesLess (a::x) (b::y)=(decide (a<b)||(a==b&&Op.bytesLess x y)):=rfl;rw[e1,e2];by_cases h:a<b
  . rw[if_pos h];simp[h]
  . rw[if_neg h];by_cases h':b<a
    . rw[if_pos h'];have hne:(a==b)=false:=by rw[beq_eq_false_iff_ne];rintro rfl;exact absurd h' h
      simp[h,hne]
    . rw[if_neg h',ih];have hab:a=b:=UInt8.toNat_inj.1 (by rw[UInt8.lt_iff_toNat_lt]at h h';omega);subst hab;simp[h]
theorem Ala (a b:List UInt8):decide (Lib.compareBytes a b<0)=Op.bytesLess a b:=by
 rw[Bool.eq_iff_iff,decide_eq_true_iff];exact Rm a b
structure MC where
 key:ByteArray
 val:Val
 cs:List Value
 len:cs.length=6
 one: ∀v ∈ cs,v.oneCell'=true
instance:Inhabited MC:=⟨⟨Jf,P7, [.int .i64 0,.int .i64 0,.int .i64 0,.int .i64 0,.int .i64 0,.int .i64 0],rfl,by simp[Value.oneCell']⟩⟩
def MC.enc (x:MC):List Value:=.string x.key::x.cs
def MC.pair (x:MC):ByteArray×Val:=(x.key,x.val)
def cfM (x y:MC):Int:=Lib.compareBytes x.key.data.toList y.key.data.toList
theorem Alt (x y:MC):ltOf cfM x y=Md x.key y.key:=by
 unfold ltOf cfM Md;rw[Ala,Lib.toList_data,Lib.toList_data]
theorem Aoh:Sort.SWO (ltOf cfM) where
 irrefl x:=by rw[Alt];exact Ff _
 trans x y z:=by simp only[Alt];exact Fp
 ntrans x y z:=by
  simp only[Alt];intro h1 h2
  cases h3:Md x.key z.key with
  |false=>rfl
  |true=>
   exfalso
   rcases Nj y.key x.key with h|h|h
   . have:=Fp h h3;rw[h2]at this;cases this
   . rw[<-h]at h3;rw[h2]at h3;cases h3
   . rw[h1]at h;cases h
theorem Ng (x:MC):x.enc.length=7:=by simp[MC.enc,x.len]
theorem Agn (x:MC): ∀v ∈ x.enc,v.oneCell'=true:=by
 intro v hv;rcases List.mem_cons.1 hv with rfl|hv
 . rfl
 . exact x.one v hv
theorem Abx {l:List Value} (h:l.length=6): ∃a b c d e f,l= [a,b,c,d,e,f]:=by
 match l,h with
 | [a,b,c,d,e,f],_=>exact⟨a,b,c,d,e,f,rfl⟩
set_option maxRecDepth 100000 in
theorem Am6 (x y:MC) (W:World):Calls Tryz.prog 205 #[.agg x.enc.toArray,.agg y.enc.toArray] W fun e w'=>e=.returned (.int .i64 (cfM x y))/\ ∃q os,w'=Sort.grow (W.drewN q) os:=by
 obtain⟨kx,vx,cx,lx,ox⟩:=x;obtain⟨ky,vy,cy,ly,oy⟩:=y;obtain⟨a0,a1,a2,a3,a4,a5,rfl⟩:=Abx lx;obtain⟨b0,b1,b2,b3,b4,b5,rfl⟩:=Abx ly;have hC:=fun W=>Tryz.strings_Compare kx ky W;have hA:=Sort.alloc_eq_grow;simp only[MC.enc,cfM];generalize Lib.compareBytes kx.data.toList ky.data.toList=r at hC ⊢;have n0:=ox a0 (by simp);have n1:=ox a1 (by simp);have n2:=ox a2 (by simp);have n3:=ox a3 (by simp);have n4:=ox a4 (by simp);have n5:=ox a5 (by simp);have m0:=oy b0 (by simp);have m1:=oy b1 (by simp);have m2:=oy b2 (by simp);have m3:=oy b3 (by simp);have m4:=oy b4 (by simp);have m5:=oy b5 (by simp);obtain⟨HC,HA⟩:=hid2 hC hA;clear hC hA;go_enter Tryz.func205,Tryz.ntmps205;go_wp2_with (fail);(with_reducible refine(HC.out _).mono ?_);rintro e w2 ⟨rfl,rfl⟩;go_wp2;go_ret;refine⟨rfl,0, #[.cells #[.string kx,a0,a1,a2,a3,a4,a5] 63,.cells #[.string ky,b0,b1,b2,b3,b4,b5] 63], ?_⟩;rw[HA.out,HA.out,Sort.grow_grow];rfl
theorem Afj (k:Nat) (hk:0<k): ∀(l:List MC) (t:Nat),(∀x ∈ l,x.enc.length=k)->(l.flatMap MC.enc)[t]? =(l[t / k]?).bind fun x=>x.enc[t % k]?
 | [],t,_=>by simp
 |x::r,t,h=>by
  have hx:=h x (by simp);rw[List.flatMap_cons];by_cases ht:t<k
  . rw[List.getElem?_append_left (by omega),Nat.div_eq_of_lt ht,Nat.mod_eq_of_lt ht];simp
  . rw[List.getElem?_append_right (by omega),hx,Afj k hk r (t - k) (fun y hy=>h y (by simp[hy]))];have h1:t / k=(t - k) / k+1:=by rw[Nat.div_eq_sub_div hk (by omega)]
    have h2:t % k=(t - k) % k:=Nat.mod_eq_sub_mod (by omega);rw[h1,h2,List.getElem?_cons_succ]
theorem Om: ∀l:List MC,(l.flatMap MC.enc).length=l.length*7
 | []=>rfl
 |x::r=>by rw[List.flatMap_cons,List.length_append,Om r,Ng,List.length_cons];omega
theorem Aak (l:List MC):Sort.flatK MC.enc 7 l.toArray=(l.flatMap MC.enc).toArray:=by
 apply Array.ext
 . rw[Sort.size_flatK,List.size_toArray,List.size_toArray,Om]
 . intro t h1 h2;rw[Sort.size_flatK,List.size_toArray]at h1;have e1:=Sort.get_flatK MC.enc 7 l.toArray t (by simpa using h1);have e2:=Afj 7 (by decide) l t (fun x _=>Ng x);have hd:t / 7<l.length:=by omega
   have hm:t % 7<(l[t / 7]).enc.length:=by rw[Ng];omega
   rw[List.getElem?_eq_getElem hd,Option.bind_some,List.getElem?_eq_getElem hm]at e2;have e3:(l.flatMap MC.enc)[t]'(by simpa using h2)=(l[t / 7]).enc[t % 7]:=by
    rw[List.getElem?_eq_getElem (by simpa using h2)]at e2;exact Option.some.inj e2
   rw[getElem!_pos _ t (by rw[Sort.size_flatK];simpa using h1)]at e1;rw[e1,tk1,e3];have e4:(l.toArray)[t / 7]! =l[t / 7]:=by rw[getElem!_pos _ _ (by simpa using hd)];simp
   rw[e4,getElem!_pos (l[t / 7]).enc (t % 7) hm]
theorem Z3 {F:World->Prop} {B:Nat}: ∀(acc:List (ByteArray×Val)) (ns:List Value),(∃w,F w)->(∀w'',F w''->Ag w'' B (dO acc) ns)->
 ∃d:List MC,d.map MC.pair=acc/\ns=d.flatMap MC.enc/\ ∀w'',F w''-> ∀x ∈ d,Ae w'' B (dP x.pair) x.enc
 | [],ns,⟨w,hw⟩,h=>⟨[],rfl,h w hw,by simp⟩
 |m::r,ns,⟨w,hw⟩,h=>by
  have h0:=h w hw;simp only[dO,Ag]at h0;obtain⟨c1,c2,rfl,h1,h2⟩:=h0;have l1:=h1.len;rw[Fc]at l1;have h1':=h1;obtain⟨k,v⟩:=m;simp only[dP,Ae,Ag]at h1';obtain⟨e1,e2,rfl,⟨rfl,_⟩,e3,e4,rfl,hV,rfl⟩:=h1';rw[List.append_nil]at*
  have l6:e3.length=6:=by have:=l1.1;simp at this;omega
  have key: ∀w'',F w''->Ae w'' B (dP (k,v)) (.string k::e3)/\Ag w'' B (dO r) c2:=by
   intro w'' hw'';have h3:=h w'' hw'';simp only[dO,Ag]at h3;obtain⟨f1,f2,e,g1,g2⟩:=h3;have l2:=g1.len.1;rw[Fc]at l2;obtain⟨rfl,rfl⟩:=List.append_inj e (by rw[l2];simpa using l6);exact⟨g1,g2⟩
  obtain⟨d,d1,d2,d3⟩:=Z3 r c2 ⟨w,hw⟩ (fun w'' hw''=>(key w'' hw'').2);refine⟨⟨k,v,e3,l6,fun u hu=>l1.2 u (by simp[hu])⟩::d,by simp[MC.pair,d1],by simp[MC.enc,d2],fun w'' hw'' x hx=> ?_⟩;rcases List.mem_cons.1 hx with rfl|hx
  . exact(key w'' hw'').1
  . exact d3 w'' hw'' x hx
theorem Ms {w:World} {B:Nat}: ∀(d:List MC),(∀x ∈ d,Ae w B (dP x.pair) x.enc)->Ag w B (dO (d.map MC.pair)) (d.flatMap MC.enc)
 | [],_=>rfl
 |x::r,h=>by
  simp only[List.map_cons,dO,List.flatMap_cons,Ag];exact⟨x.enc,_,rfl,h x (by simp),Ms r (fun y hy=>h y (by simp[hy]))⟩
theorem Zh {d d':List MC} (hp:d'.Perm d) (hn:((d.map MC.pair).map (·.1)).Nodup) (hs: ∀i j,(hij:i<j)->(h:j<d'.length)->Md (d'[j]).key (d'[i]'(by omega)).key=false):d'.map MC.pair=Kf (d.map MC.pair):=by
 obtain⟨_,s2,s3⟩:=O3 hn;refine Ob ?_ s2 ((hp.map MC.pair).trans s3.symm);have hn':((d'.map MC.pair).map (·.1)).Nodup:=(((hp.map MC.pair).map (·.1)).nodup_iff).2 hn;unfold Ej;rw[List.pairwise_iff_getElem];intro i j hi hj hij;simp only[List.length_map]at hi hj;simp only[List.getElem_map,MC.pair];rcases Nj (d'[i]).key (d'[j]).key with h|h|h
 . exact h
 . rw[List.map_map,List.nodup_iff_pairwise_ne,List.pairwise_iff_getElem]at hn';exact absurd (by rw[List.getElem_map,List.getElem_map];exact h) (hn' i j (by simpa using hi) (by simpa using hj) hij)
 . rw[hs i j hij hj]at h;cases h
theorem Akj {w:World} {g n:Nat} {os:Array Obj} {cur F:Array Value} {e:TypeId} {fr:Nat×Nat} (hb:w.heap[g]? =some (.cells cur e fr)):
 (Sort.grow (Sort.putRow id (Sort.ahead w n) g 0 F) os).heap[g]? =some (.cells (Sort.putCells id 0 F cur) e fr):=by
 have hg:g<w.heap.size:=(Array.getElem?_eq_some_iff.1 hb).1;rw[Sort.heap_grow_old _ _ (by simpa using hg)];simp[Sort.putRow,Sort.mapBlock,Sort.ahead,Array.getElem?_modify,hb,Sort.onCells]
theorem Abd {w:World} {g n:Nat} {os:Array Obj} (F:Array Value):w.grownBy (Sort.grow (Sort.putRow id (Sort.ahead w n) g 0 F) os) (some g):=by
 refine⟨rfl,rfl,rfl,by simp,fun k hk hne=> ?_⟩;rw[Sort.heap_grow_old _ _ (by simpa using hk)];have:g≠k:=fun e=>hne (by rw[e]);simp[Sort.putRow,Sort.mapBlock,Sort.ahead,Array.getElem?_modify,this]
theorem Vx {b:Nat} {w:World} {acc:List (ByteArray×Val)} {V:Value} (hr:C7 b 63 7 w (dO acc) V) (hb:b<=w.heap.size) (hn:(acc.map (·.1)).Nodup) (hlen:acc.length<=1000000000):
 Calls Tryz.prog 204 #[V,.func (.func 205) #[] #[]] w fun e w'=>e=.returned (.tuple #[])/\w.grownBy w' V.ownBlock/\Ap b w' (.row 7 (dO (Kf acc))) [V]:=by
 have hr0:=hr;obtain⟨ns,h1,h2,h3⟩:=hr;rcases h1.2 with⟨rfl,h0⟩|⟨g,cap,cur,rfl,hbg,hg,hnc,_,hsz,htk⟩
 . have hl:acc= []:=by rw[Ig]at h0;exact List.eq_nil_of_length_eq_zero h0
   subst hl;refine(AnyF.slices_SortFunc_none Tryz.sortFunc none 0 (.func (.func 205) #[] #[]) w).mono ?_;rintro e w' ⟨rfl,rfl⟩;exact⟨rfl,World.grownBy.refl _ _,fun _ _ _=>⟨none,0,rfl,by simp[Kf,Bg,dO], [],rfl,by simp[Kf,Bg,dO]⟩⟩
 . have hgl:=(Array.getElem?_eq_some_iff.1 hg).1;obtain⟨d,rfl,rfl,d3⟩:=Z3 (F:=fun w''=>w.heap.size<=w''.heap.size/\ ∀p:Addr,b<=p.block->p.block<w.heap.size->(Value.slice (some ⟨g,0,none⟩) (dO acc).length cap).ownBlock≠some p.block->w''.cell? p=w.cell? p) acc ns ⟨w,Nat.le_refl _,fun _ _ _ _=>rfl⟩ (fun w'' hw=>h3 w'' hw.1 hw.2);have hdl:(dO (d.map MC.pair)).length=d.toArray.size:=by rw[Ig];simp
   have hH:Sort.HoldsK MC.enc 7 w g 0 d.toArray:=by
    unfold Sort.HoldsK;rw[Aak];intro j hj;have hj':j<(d.flatMap MC.enc).length:=by simpa using hj
    have h5:=h1.cells (g:=g) rfl j ((d.flatMap MC.enc)[j]) (List.getElem?_eq_getElem hj');rw[En]at h5;rw[getElem!_pos _ j hj];exact⟨h5,(show An w g 63 cur from hg).frozen _⟩
   have eg: ∀args w,(callFunc 205 args).run Tryz.prog w=.ok (.enter 205 args) w:=enters_of Tryz.func205 (by kernel_rfl) rfl;have hC:CmpLays Tryz.prog 205 #[] MC.enc 7 cfM g 0 d.toArray.size w:=fun m os dk _ x y=>Am6 x y _;have hS:=AnyQ.slices_SortFunc Tryz.sortFunc 7 (fun w=>by kernel_rfl) (fun w=>by kernel_rfl) MC.enc Ng Agn cfM Aoh 205 #[] g 0 cap d.toArray w eg hC hH hgl (by simp at hlen ⊢;omega);rw[hdl];refine hS.mono ?_;rintro e w' ⟨rfl,d',n,os,hp,hso,rfl⟩;obtain⟨p1,_,p3⟩:=hp;rw[Array.extract_size,<-p1,Array.extract_size]at p3;have hpe:d'.toList.Perm d:=by simpa using p3
   have hsp:=Zh hpe hn (fun i j hij hj=>by
    have:=hso i j (Nat.zero_le _) hij (by rw[<-p1];simpa using hj);rw[Alt,getElem!_pos d' j (by simpa using hj),getElem!_pos d' i (by have:j<d'.size:=(by simpa using hj);omega)]at this;simpa using this)
   have hF:Sort.flatK MC.enc 7 d'=(d'.toList.flatMap MC.enc).toArray:=by rw[<-Aak]
   have hgb:w.grownBy (sortWorldK MC.enc 7 w g 0 n d' os) (some g):=Abd _;refine⟨rfl,hgb,fun w'' k1 k2=> ?_⟩;have hsl:(Kf (d.map MC.pair)).length=d.toArray.size:=by rw[<-hsp,List.length_map,Array.length_toList,p1]
   refine⟨_,cap,by rw[Ig,hsl],Mo _,d'.toList.flatMap MC.enc, ?_,.inr ⟨g,0,rfl,Nat.lt_of_lt_of_le hgl hgb.size,fun j u hu=> ?_⟩⟩
   . rw[<-hsp];refine Ms _ fun x hx=> ?_;have hxd:x ∈ d:=hpe.mem_iff.1 hx;refine Ae.more (d3 w'' ⟨Nat.le_trans hgb.size k1,fun p q1 q2 q3=> ?_⟩ x hxd) hgb.size;exact(k2 p q1 (Nat.lt_of_lt_of_le q2 hgb.size)).trans (World.cell?_of_block (hgb.block p.block q2 (fun e=>q3 e.symm)))
   . rw[Nat.zero_add];have hj:j<(d'.toList.flatMap MC.enc).length:=(List.getElem?_eq_some_iff.1 hu).1;have hjs:j<cur.size:=by
      rw[Om,Array.length_toList,p1]at hj;rw[hsz];have:d.toArray.size<=cap:=by rw[<-hdl];exact hnc
      have:=Nat.mul_le_mul_right 7 this;omega
     refine(k2 ⟨g,j,none⟩ hbg (Nat.lt_of_lt_of_le hgl hgb.size)).trans ?_;have hh:=Akj (n:=n) (os:=os) (F:=Sort.flatK MC.enc 7 d') hg;have hc:=(show An (Sort.grow (Sort.putRow id (Sort.ahead w n) g 0 (Sort.flatK MC.enc 7 d')) os) g 63 _ from hh).cell j;refine hc.trans ?_;rw[hF];have hjl:j<(d'.toList.map fun a=>a.enc.length).sum:=by rw[<-List.length_flatMap];exact hj
     simp[Sort.putCells,hjs,hjl];exact(List.getElem?_eq_some_iff.1 hu).2
end Go.Proofs.YtackmnbpfbaemaaGreatDoor
