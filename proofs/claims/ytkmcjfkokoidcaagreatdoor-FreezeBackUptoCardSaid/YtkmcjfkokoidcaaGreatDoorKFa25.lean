/- Parts: utf.Unquote: the text that is quoted from a place on. Condition: a text of at most 10^9 bytes. -/
import Derived.Test.YtkmcjfkokoidcaaGreatDoorKFa16
import Derived.Test.YtkmcjfkokoidcaaGreatDoorKFa19
set_option maxHeartbeats 20000000
set_option maxRecDepth 100000
namespace Go.Proofs.YtkmcjfkokoidcaaGreatDoor
open Go Go.RowKit
attribute [local go_sem] Oper.semAt_some
def St (r:Rd Nat):Value:=match r with
 | .ok r n=> .tuple #[.int .i32 r,.int .i64 n,.int .i64 0]
 | .bad e _=> .tuple #[.int .i32 0,.int .i64 0,.int .i64 e]
theorem Bj {fn:Func} {t u v:Tmp} (h:fn.results= #[.tmp t,.tmp u,.tmp v]) (tmps:Array Value) (P:Program) (w:World):
 (results fn tmps).run P w=.ok (.tuple #[tmps.getD t undef,tmps.getD u undef,tmps.getD v undef]) w:=by simp[results,h]
theorem Zw (r:Nat) (t:ByteArray) (w:World) (hr:r<65536) (hs:t.size<=1000000000):Calls Tryz.prog 315 #[.int .i32 r,.string t] w fun e w'=>e=.returned (St (Jh r t.data.toList))/\w=w':=by
 have hU:=fun W=>Vb t W hs;by_cases h1:r<55296
 . have e:Jh r t.data.toList=.ok r 6:=by unfold Jh;rw[if_pos (.inl h1)]
   rw[e];have l:(r:Int)<55296:=by omega
   clear e hU;go_enter Tryz.func315,Tryz.ntmps315;go_wp2;exact bodyPost_ret (Bj rfl _ _ _) rfl ⟨rfl,rfl⟩
 have l1: ¬((r:Int)<55296):=by omega
 by_cases h2:57344<=r
 . have e:Jh r t.data.toList=.ok r 6:=by unfold Jh;rw[if_pos (.inr h2)]
   rw[e];have l:(57344:Int)<=(r:Int):=by omega
   clear e hU;go_enter Tryz.func315,Tryz.ntmps315;go_wp2;exact bodyPost_ret (Bj rfl _ _ _) rfl ⟨rfl,rfl⟩
 have l2: ¬((57344:Int)<=(r:Int)):=by omega
 by_cases h3:56320<=r
 . have e:Jh r t.data.toList=.bad 3 0:=by unfold Jh;rw[if_neg (by omega),if_pos h3]
   rw[e];have l:(56320:Int)<=(r:Int):=by omega
   clear e hU;go_enter Tryz.func315,Tryz.ntmps315;go_wp2;exact bodyPost_ret (Bj rfl _ _ _) rfl ⟨rfl,rfl⟩
 have l3: ¬((56320:Int)<=(r:Int)):=by omega
 have e0:Jh r t.data.toList=match F6 t.data.toList with
  |none=> .bad 3 0
  |some m=>if m<56320\/57344<=m then .bad 3 0 else .ok (65536+1024*(r - 55296)+(m - 56320)) 12:=by unfold Jh;rw[if_neg (by omega),if_neg h3];rfl
 rw[e0];clear e0
 cases hu:F6 t.data.toList with
 |none=>
  simp only[hu,Ade]at hU;clear hu;have HU:=qz hU;clear hU;go_enter Tryz.func315,Tryz.ntmps315;go_wp2_with (fail);(with_reducible refine(HU.out _).mono ?_);rintro e w1 ⟨rfl,rfl⟩;go_wp2;exact bodyPost_ret (Bj rfl _ _ _) rfl ⟨rfl,rfl⟩
 |some m=>
  have hm:=(Qp hu).1;simp only[hu,Ade]at hU;clear hu;have HU:=qz hU;clear hU;simp only;by_cases h4:m<56320
  . rw[if_pos (.inl h4)];have l:(m:Int)<56320:=by omega
    clear h4;go_enter Tryz.func315,Tryz.ntmps315;go_wp2_with (fail);(with_reducible refine(HU.out _).mono ?_);rintro e w1 ⟨rfl,rfl⟩;go_wp2;exact bodyPost_ret (Bj rfl _ _ _) rfl ⟨rfl,rfl⟩
  have l4: ¬((m:Int)<56320):=by omega
  by_cases h5:57344<=m
  . rw[if_pos (.inr h5)];have l:(57344:Int)<=(m:Int):=by omega
    clear h5;go_enter Tryz.func315,Tryz.ntmps315;go_wp2_with (fail);(with_reducible refine(HU.out _).mono ?_);rintro e w1 ⟨rfl,rfl⟩;go_wp2;exact bodyPost_ret (Bj rfl _ _ _) rfl ⟨rfl,rfl⟩
  have l5: ¬((57344:Int)<=(m:Int)):=by omega
  rw[if_neg (by omega)];have b1:(55296:Int)<=(r:Int):=by omega
  have b2:(r:Int)<56320:=by omega
  have b3:(56320:Int)<=(m:Int):=by omega
  have b4:(m:Int)<57344:=by omega
  have d4:decide ((m:Int)<56320)=false:=decide_eq_false (by omega);have d5:decide ((57344:Int)<=(m:Int))=false:=decide_eq_false (by omega);have eq:(((65536+1024*(r - 55296)+(m - 56320):Nat)):Int)=65536+1024*((r:Int) - 55296)+((m:Int) - 56320):=by omega
  simp only[St];rw[eq];clear eq h1 h2 h3 h4 h5 l4 l5;go_enter Tryz.func315,Tryz.ntmps315;go_wp2_with (fail);(with_reducible refine(HU.out _).mono ?_);rintro e w1 ⟨rfl,rfl⟩;go_wp2;exact bodyPost_ret (Bj rfl _ _ _) rfl ⟨rfl,rfl⟩
def D5:List (Int×Int):= [(34,34),(92,92),(47,47),(98,8),(102,12),(110,10),(114,13),(116,9)]
theorem Z6 (w:World):Calls Tryz.prog 287 #[] w fun e w'=>e=.returned (.map (some w.heap.size))/\Ia w D5=w':=by
 have hmm:(Instr.makeMap 296 none).run Tryz.prog w=.ok (.map (some w.heap.size)) (Ia w []):=run_makeMap _ w;have u1:=Cr w [] 34 34 rfl;have u2:=Cr w [(34,34)] 92 92 rfl;have u3:=Cr w [(34,34),(92,92)] 47 47 rfl;have u4:=Cr w [(34,34),(92,92),(47,47)] 98 8 rfl;have u5:=Cr w [(34,34),(92,92),(47,47),(98,8)] 102 12 rfl;have u6:=Cr w [(34,34),(92,92),(47,47),(98,8),(102,12)] 110 10 rfl;have u7:=Cr w [(34,34),(92,92),(47,47),(98,8),(102,12),(110,10)] 114 13 rfl;have u8:=Cr w [(34,34),(92,92),(47,47),(98,8),(102,12),(110,10),(114,13)] 116 9 rfl;simp only[List.nil_append,List.cons_append]at u1 u2 u3 u4 u5 u6 u7 u8;go_enter Tryz.func287,Tryz.ntmps287;go_wp2;go_ret;exact⟨rfl,rfl⟩
theorem Z5 (c:UInt8):D6 (c.toNat:Int) D5=(K5 c).map (fun n:Nat=>(n:Int)):=by
 have: ∀c:Fin 256,D6 ((UInt8.ofNat c.val).toNat:Int) D5=(K5 (UInt8.ofNat c.val)).map (fun n:Nat=>(n:Int)):=by decide+kernel
 have h:=this ⟨c.toNat,c.toNat_lt⟩;simpa using h
theorem Y6 (t:ByteArray) (mb:Nat) (w:World) (hs:t.size<=1000000000) (hm:w.heap[mb]? =some (.map (Jl D5 0).toArray D5.length)):Calls Tryz.prog 288 #[.string t,.map (some mb)] w fun e w'=>e=.returned (St (Km t.data.toList))/\w=w':=by
 have hU:=fun W=>Vb t W hs
 cases hu:F6 t.data.toList with
 |some r=>
  obtain⟨hr,h6⟩:=Qp hu;rw[Al]at h6;have hext:(t.extract 6 t.size).data.toList=t.data.toList.drop 6:=by
   rw[Lib.extract_data];exact List.take_of_length_le (by rw[List.length_drop,Al];omega)
  have hP:=fun W=>Zw r (t.extract 6 t.size) W hr (by rw[ByteArray.size_extract];omega);have e0:Km t.data.toList=Jh r (t.data.toList.drop 6):=by unfold Km;rw[hu]
  rw[e0];rw[hext]at hP;simp only[hu,Ade]at hU;have l6:(6:Int)<=(t.size:Int):=by omega
  clear hu hext e0;generalize Jh r (t.data.toList.drop 6)=X at hP ⊢
  cases X with
  |ok r' n'=>
   simp only[St]at hP ⊢;obtain⟨HU,HP⟩:=hid2 hU hP;clear hU hP;clear hm;go_enter Tryz.func288,Tryz.ntmps288;go_wp2_with (fail);(with_reducible refine(HU.out _).mono ?_);rintro e w1 ⟨rfl,rfl⟩;go_wp2_with (fail);(with_reducible refine(HP.out _).mono ?_);rintro e w1 ⟨rfl,rfl⟩;go_wp2;exact bodyPost_ret (Bj rfl _ _ _) rfl ⟨rfl,rfl⟩
  |bad r' n'=>
   simp only[St]at hP ⊢;obtain⟨HU,HP⟩:=hid2 hU hP;clear hU hP;clear hm;go_enter Tryz.func288,Tryz.ntmps288;go_wp2_with (fail);(with_reducible refine(HU.out _).mono ?_);rintro e w1 ⟨rfl,rfl⟩;go_wp2_with (fail);(with_reducible refine(HP.out _).mono ?_);rintro e w1 ⟨rfl,rfl⟩;go_wp2;exact bodyPost_ret (Bj rfl _ _ _) rfl ⟨rfl,rfl⟩
 |none=>
  have e0:Km t.data.toList=Vm t.data.toList:=by unfold Km;rw[hu]
  rw[e0];simp only[hu,Ade]at hU;clear hu e0;by_cases h1:1<t.size
  . obtain⟨c,hc⟩: ∃c,t[1]=c:=⟨_,rfl⟩;have hg:t.data.toList[1]? =some c:=by rw[Dx t h1,hc]
    have hcl:=Dr c;have hlk:=U1 w mb D5 c.toNat hm;rw[Z5]at hlk;have l1:(1:Int)<(t.size:Int):=by omega
    unfold Vm;rw[hg];simp only
    cases he:K5 c with
    |none=>
     rw[he]at hlk;simp only[Option.map_none,Option.getD_none,Option.isSome_none,St]at hlk ⊢;clear he hg;have HU:=qz hU;clear hU;clear hm;go_enter Tryz.func288,Tryz.ntmps288;go_wp2_with (fail);(with_reducible refine(HU.out _).mono ?_);rintro e w1 ⟨rfl,rfl⟩;go_wp2;exact bodyPost_ret (Bj rfl _ _ _) rfl ⟨rfl,rfl⟩
    |some x=>
     rw[he]at hlk;simp only[Option.map_some,Option.getD_some,Option.isSome_some,St]at hlk ⊢;clear he hg;have HU:=qz hU;clear hU;clear hm;go_enter Tryz.func288,Tryz.ntmps288;go_wp2_with (fail);(with_reducible refine(HU.out _).mono ?_);rintro e w1 ⟨rfl,rfl⟩;go_wp2;exact bodyPost_ret (Bj rfl _ _ _) rfl ⟨rfl,rfl⟩
  . have e0:Vm t.data.toList=.bad 4 0:=by
     unfold Vm;rw[List.getElem?_eq_none (by rw[Al];omega)]
    have l1: ¬((1:Int)<(t.size:Int)):=by omega
    rw[e0];simp only[St];clear e0;have HU:=qz hU;clear hU;clear hm;go_enter Tryz.func288,Tryz.ntmps288;go_wp2_with (fail);(with_reducible refine(HU.out _).mono ?_);rintro e w1 ⟨rfl,rfl⟩;go_wp2;exact bodyPost_ret (Bj rfl _ _ _) rfl ⟨rfl,rfl⟩
def E0:Nat->List UInt8->Nat
 |0,_=>0
 |f+1,l=>if l= []then 0 else if(Lib.decodeL l).1=65533/\(Lib.decodeL l).2=1 then 0 else if 32<=(Lib.decodeL l).1/\(Lib.decodeL l).1≠34/\(Lib.decodeL l).1≠92 then(Lib.decodeL l).2+E0 f (l.drop (Lib.decodeL l).2)else 0
def I5 (r:Nat):Bool:=decide (32<=r/\r≠34/\r≠92)
def Gn (z:Nat):List (Nat×Nat)->Nat
 | []=>z
 |x::r=>if I5 x.2=true then Gn (x.1+(Lib.encodeRune (x.2:Int)).length) r else x.1
theorem Afm {r:Nat} (h:Dc r):Lib.runeLen (r:Int)=((Lib.encodeRune (r:Int)).length:Nat):=by
 unfold Dc at h;unfold Lib.encodeRune Lib.runeLen;rw[List.length_map];by_cases h1:r<=127
 . rw[Lib.encodeRuneZ_one (by omega) (by omega),if_neg (by omega),if_pos (by omega)];rfl
 by_cases h2:r<=2047
 . rw[Lib.encodeRuneZ_two (by omega) (by omega),if_neg (by omega),if_neg (by omega),if_pos (by omega)];rfl
 by_cases h3:r<=65535
 . rw[Lib.encodeRuneZ_three (by omega),if_neg (by omega),if_neg (by omega),if_neg (by omega),if_neg (by omega),if_pos (by omega)];rfl
 . rw[Lib.encodeRuneZ_four (by omega) (by omega),if_neg (by omega),if_neg (by omega),if_neg (by omega),if_neg (by omega),if_neg (by omega),if_pos (by omega)];rfl
theorem R6: ∀(n:Nat) (l:List UInt8) (p:Nat),Gn p (Ax n l p)=p+E0 n l
 |0,l,p=>by simp[Ax,Gn,E0]
 |n+1,l,p=>by
  simp only[Ax,E0];by_cases h1:l= []
  . rw[if_pos h1,if_pos h1];rfl
  rw[if_neg h1,if_neg h1];by_cases h2:(Lib.decodeL l).1=65533/\(Lib.decodeL l).2=1
  . rw[if_pos h2,if_pos h2];rfl
  rw[if_neg h2,if_neg h2];simp only[Gn];by_cases h3:32<=(Lib.decodeL l).1/\(Lib.decodeL l).1≠34/\(Lib.decodeL l).1≠92
  . have e:I5 (Lib.decodeL l).1=true:=by unfold I5;exact decide_eq_true h3
    have hl:(Lib.encodeRune ((Lib.decodeL l).1:Int)).length=(Lib.decodeL l).2:=by
     rw[Lib.encode_decode l h1 h2,List.length_take];have:=Lib.decodeL_le l h1;omega
    rw[if_pos e,if_pos h3,hl,R6 n _ _];omega
  . have e:I5 (Lib.decodeL l).1=false:=by unfold I5;exact decide_eq_false h3
    rw[e,if_neg (by decide),if_neg h3];rfl
theorem Xr: ∀(n:Nat) (l:List UInt8),E0 n l<=l.length
 |0,l=>Nat.zero_le _
 |n+1,l=>by
  simp only[E0]
  split
  . exact Nat.zero_le _
  rename_i h1
  split
  . exact Nat.zero_le _
  split
  . have:=Lib.decodeL_le l h1;have h2:=Xr n (l.drop (Lib.decodeL l).2);rw[List.length_drop]at h2;omega
  . exact Nat.zero_le _
def Aae:List (Nat×Nat)->Nat
 | []=>0
 |x::r=>match r with
  | []=>x.1+(Lib.encodeRune (x.2:Int)).length
  |y::r'=>Aae (y::r')
theorem Ai3 (l:List (Nat×Nat)) (x:Nat×Nat):Aae (l++ [x])=x.1+(Lib.encodeRune (x.2:Int)).length:=by
 induction l with
 |nil=>rfl
 |cons a l ih=>
  cases l with
  |nil=>rfl
  |cons b l=>exact ih
theorem Pd: ∀(l r:List (Nat×Nat)) (z:Nat),(∀x ∈ l,I5 x.2=true)->Gn z (l++r)=Gn (if l= []then z else Aae l) r
 | [],r,z,_=>by simp
 |a::l,r,z,h=>by
  rw[List.cons_append,Gn,if_pos (h a (by simp)),Pd l r _ (fun x hx=>h x (by simp[hx]))]
  cases l with
  |nil=>rfl
  |cons b l=>rfl
theorem Ql: ∀(n:Nat) (l:List UInt8) (p:Nat),∀x ∈ Ax n l p,x.1+(Lib.encodeRune (x.2:Int)).length<=p+l.length
 |0,_,_,x,hx=>by simp[Ax]at hx
 |n+1,l,p,x,hx=>by
  simp only[Ax]at hx
  split at hx
  . cases hx
  rename_i h1
  split at hx
  . cases hx
  rename_i h2;have hd:=Lib.decodeL_le l h1;rcases List.mem_cons.1 hx with rfl|hx
  . simp only;rw[Lib.encode_decode l h1 h2,List.length_take];omega
  . have:=Ql n _ _ x hx;rw[List.length_drop]at this;omega
def PI (s:ByteArray) (w:World) (d:Nat) (pre:List (Nat×Nat)) (W:World):Prop:=
 Below w.heap.size w W/\Aj W w.heap.size 3 #[.int .i64 0]/\Aj W (w.heap.size+1) 3 #[.int .i64 (Aae pre)]/\(∀x ∈ pre,I5 x.2=true)/\W.heap[d]? =some (.cells #[.string s] 9 (0,0))
def PX (w:World) (v:Nat) (W:World):Prop:=Below w.heap.size w W/\Aj W w.heap.size 3 #[.int .i64 v]
theorem Pv {A:World} {g k:Nat} {t:TypeId} {cs:Array Value} {o o':Obj} (h:Aj A g t cs) (ho:A.heap[k]? =some o) (hc:o.isCells=false):Aj (A.putObj k o') g t cs:=by
 by_cases e:g=k
 . subst e;unfold Aj at h;rw[h]at ho
   cases ho
   cases hc
 . exact(World.putObj_heap_other e).trans h
theorem Nt {B:Nat} {a A:World} {k:Nat} (h:Below B a A) (hB:B<=A.heap.size) (hk:B<=k) (o':Obj):Below B a (A.putObj k o'):=h.grown (grownBy_putObj' A k o') hB (fun j e=>by cases e;exact hk)
theorem Acp (s:ByteArray) (w:World) (hT:Cm w) (hs:s.size<=1000000000):
 Calls Tryz.prog 289 #[.string s] w fun e w'=>e=.returned (.int .i64 (E0 s.size s.data.toList:Nat))/\Below w.heap.size w w':=by
 have hfin:Gn 0 (Bw s)=E0 s.size s.data.toList:=by
  unfold Bw;rw[R6];omega
 rw[<-hfin];have Hrs: ∀pre x rest,Bw s=pre++x::rest->Dc x.2/\x.1+(Lib.encodeRune (x.2:Int)).length<=s.size:=by
  intro pre x rest h;have hm:x ∈ Ax s.size s.data.toList 0:=by show x ∈ Bw s;rw[h];simp
  refine⟨Dw _ _ _ x hm, ?_⟩;have:=Ql s.size s.data.toList 0 x hm
  rwa [Al,Nat.zero_add]at this
 refine(callsIn_wide (n:=12)).1 ?_;refine callsIn_of_wp_marks Tryz.func289 rfl trivial ?_ rfl;simp only[Tryz.ntmps289,List.size_toArray,List.length_cons,List.length_nil,Nat.reduceAdd,Nat.reduceSub,Array.replicate_succ,Array.replicate_zero,List.push_toArray,List.append_toArray,List.nil_append,List.cons_append];have Hx0:=qz (((Aj.new w 3 #[.int .i64 0]).alloc (.cells #[.int .i64 0] 3)).alloc (.cells #[.string s] 9));have hx1:=(Aj.new (w.alloc (.cells #[.int .i64 0] 3)) 3 #[.int .i64 0]).alloc (.cells #[.string s] 9);rw[World.size_alloc]at hx1;have Hbw:=qz ((((Below.refl w.heap.size w).alloc (Nat.le_refl _) (.cells #[.int .i64 0] 3)).alloc (by simp) (.cells #[.int .i64 0] 3)).alloc (by simp;omega) (.cells #[.string s] 9));have hnew:=heap_alloc_new ((w.alloc (.cells #[.int .i64 0] 3)).alloc (.cells #[.int .i64 0] 3)) (.cells #[.string s] 9);have hsz:((w.alloc (.cells #[.int .i64 0] 3)).alloc (.cells #[.int .i64 0] 3)).heap.size=w.heap.size+2:=by simp
 rw[hsz]at hnew;obtain⟨Hx1,Hfin,Hnew,Hsz⟩:=hid4 hx1 hfin hnew hsz;clear hx1 hfin hnew hsz
 gi_wp2_with (refine⟨trivial, ?_⟩;gi_at_call 242;refine(callsIn_wide.2 (Rn _ _)).mono ?_;rintro e w3 ⟨rfl,rfl⟩)
 have hz3:(((w.alloc (.cells #[.int .i64 0] 3)).alloc (.cells #[.int .i64 0] 3)).alloc (.cells #[.string s] 9)).heap.size=w.heap.size+3:=by simp
 generalize ((w.alloc (.cells #[.int .i64 0] 3)).alloc (.cells #[.int .i64 0] 3)).alloc (.cells #[.string s] 9)=w3 at*
 have hyld:=Ac2 s (w.heap.size+2) hs;refine Wi (n:=10) (gf:=282) (lb:= #[.pointer (some ⟨w.heap.size+2,0,none⟩)]) rfl (enters_of Tryz.func282 (by kernel_rfl) rfl) hyld (fun _=>rfl)
  (fun pre W=>PI s w (w.heap.size+2) pre W/\w.heap.size+3<=W.heap.size) (fun W=>PX w (Gn 0 (Bw s)) W/\w.heap.size+3<=W.heap.size) ?hIn ?hXn ?hXp ?hIp ?hIb ?h0 ?a1 ?assign ?body ?stop ?done
 case assign=>
  intro l x W K hK
  gi_wp2
  exact hK
 case h0=>exact⟨⟨Hbw.out,Hx0.out,Hx1.out,fun x hx=>(by cases hx),Hnew.out⟩,by omega⟩
 case hIb=>
  rintro pre A ⟨⟨h1,_,_,_,h4⟩,_⟩;exact⟨(Lib.cell_of_heap h4 0).trans rfl,hT.below h1⟩
 case hIn=>
  rintro pre A B ⟨⟨h1,h2,h3,h4,h5⟩,h6⟩ hb;exact⟨⟨h1.trans (hb.mono h1.size),h2.below hb h2.lt,h3.below hb h3.lt,h4,(hb.block _ (Array.getElem?_eq_some_iff.1 h5).1).trans h5⟩,Nat.le_trans h6 hb.size⟩
 case hXn=>
  rintro A B ⟨⟨h1,h2⟩,h6⟩ hb;exact⟨⟨h1.trans (hb.mono h1.size),h2.below hb h2.lt⟩,Nat.le_trans h6 hb.size⟩
 case hXp=>
  rintro A k o o' ⟨⟨h1,h2⟩,h6⟩ ho hc hk;exact⟨⟨Nt h1 h1.size (by omega) _,Pv h2 ho hc⟩,by simpa using h6⟩
 case hIp=>
  rintro pre A k o o' ⟨⟨h1,h2,h3,h4,h5⟩,h6⟩ ho hc hk;exact⟨⟨Nt h1 h1.size (by omega) _,Pv h2 ho hc,Pv h3 ho hc,h4,(World.putObj_heap_other (by omega)).trans h5⟩,by simpa using h6⟩
 case body=>
  rintro l pre ⟨p,r⟩ rest W hx ⟨⟨h1,h2,h3,h4,h5⟩,h6⟩ ⟨ds,hds⟩ ⟨rc,hrc⟩;obtain⟨hsc,hle⟩:=Hrs pre (p,r) rest hx;simp only at hsc hle;have c0:=h2.cell 0;have c1:=h3.cell 0;have f0:=h2.frozen 0;have f1:=h3.frozen 0;have hl0:=h2.lt;have hl1:=h3.lt
  cases hB:I5 r with
  |true=>
   have hB':decide (32<=(r:Int)/\(r:Int)≠34/\(r:Int)≠92)=true:=by
    unfold I5 at hB;rw[decide_eq_true_eq]at hB ⊢;omega
   have hRL:=fun W=>Tryz.utf8_RuneLen (r:Int) W;rw[Afm hsc]at hRL;have hfinI: ∀(a:Act),N3 (fun W=>PI s w (w.heap.size+2) (pre++ [(p,r)]) W/\w.heap.size+3<=W.heap.size) (fun W=>PX w (Gn 0 (Bw s)) W/\w.heap.size+3<=W.heap.size) w3.heap.size W .normal a (W.setCell ⟨w.heap.size+1,0,none⟩ (.int .i64 ((p:Int)+((Lib.encodeRune (r:Int)).length:Nat)))):=by
    intro a;refine⟨Below.heap_setCell _ _ _ _ (by show w3.heap.size≠w.heap.size+1;omega),Below.heap_setCell _ _ _ _ (by show w3.heap.size+1≠w.heap.size+1;omega),⟨h1.setCell (p:=⟨w.heap.size+1,0,none⟩) (by show w.heap.size<=w.heap.size+1;omega) _,h2.far (by show w.heap.size≠w.heap.size+1;omega) _, ?_, ?_,(Below.heap_setCell _ _ _ _ (by show w.heap.size+2≠w.heap.size+1;omega)).trans h5⟩,by simpa[World.setCell]using h6⟩
    . have:=h3.set_ 0 (.int .i64 ((p:Int)+((Lib.encodeRune (r:Int)).length:Nat)));rw[Ai3];simpa using this
    . intro x hx';rcases List.mem_append.1 hx' with hx'|hx'
      . exact h4 x hx'
      . simp only[List.mem_singleton]at hx';rw[hx'];exact hB
   generalize (Lib.encodeRune (r:Int)).length=n at hRL hle hfinI;obtain⟨HRL,HfinI,H1,H2,H3,H4,H5,Hx,Hds,Hrc⟩:=hid10 hRL hfinI h1 h2 h3 h4 h5 hx hds hrc;clear hRL hfinI h1 h2 h3 h4 h5 hx hds hrc;clear hB
   gi_wp2_with (first|(refine⟨trivial, ?_⟩;gi_at_call 243;refine(CallsIn.inRound l (callsIn_wide.2 (Dd hB' _))).mono ?_;rintro e wx ⟨rfl,rfl⟩)|(refine⟨trivial, ?_⟩;gi_at_call 316;refine(CallsIn.inRound l (callsIn_wide.2 (HRL.out _))).mono ?_;rintro e wx ⟨rfl,rfl⟩))
   exact HfinI.out _
  |false=>
   have hB':decide (32<=(r:Int)/\(r:Int)≠34/\(r:Int)≠92)=false:=by
    unfold I5 at hB;rw[decide_eq_false_iff_not]at hB ⊢;omega
   have hval:Gn 0 (Bw s)=p:=by
    rw[hx,Pd _ _ _ h4,Gn,hB,if_neg (by decide)]
   have hfinX: ∀(a:Act),N3 (fun W=>PI s w (w.heap.size+2) (pre++ [(p,r)]) W/\w.heap.size+3<=W.heap.size) (fun W=>PX w (Gn 0 (Bw s)) W/\w.heap.size+3<=W.heap.size) w3.heap.size W .ret a (W.setCell ⟨w.heap.size,0,none⟩ (.int .i64 (p:Int))):=by
    intro a;refine⟨Below.heap_setCell _ _ _ _ (by show w3.heap.size≠w.heap.size;omega),Below.heap_setCell _ _ _ _ (by show w3.heap.size+1≠w.heap.size;omega),⟨h1.setCell (p:=⟨w.heap.size,0,none⟩) (Nat.le_refl _) _, ?_⟩,by simpa[World.setCell]using h6⟩;have:=h2.set_ 0 (.int .i64 (p:Int));rw[hval];exact this
   obtain⟨HfinX,H1,H2,H3,H4,H5,Hx,Hds,Hrc,Hval⟩:=hid10 hfinX h1 h2 h3 h4 h5 hx hds hrc hval;clear hfinX h1 h2 h3 h4 h5 hx hds hrc hval;clear hB
   gi_wp2_with (refine⟨trivial, ?_⟩;gi_at_call 243;refine(CallsIn.inRound l (callsIn_wide.2 (Dd hB' _))).mono ?_;rintro e wx ⟨rfl,rfl⟩)
   exact HfinX.out _
 case stop=>
  rintro W ⟨⟨h1,h2⟩,h6⟩ hds;have h2':=Pv h2 hds rfl (o':=.deferred none);have c0:=h2'.cell 0;have Hb':=qz (Nt h1 h1.size (k:=w3.heap.size) (by omega) (.deferred none));obtain⟨H1,H2,H2'⟩:=hid3 h1 h2 h2';clear h1 h2 h2'
  gi_wp2
  refine⟨by simp,.inl ⟨_,_,rfl,run_takeDeferred hds, ?_⟩⟩;refine⟨.int .i64 (Gn 0 (Bw s):Nat), ?_,rfl,Hb'.out⟩;simp[results,Tryz.results289,go_sem,c0]
 case done=>
  rintro W ⟨⟨h1,h2,h3,h4,h5⟩,h6⟩ hds;have hval:Gn 0 (Bw s)=Aae (Bw s):=by
   have:=Pd (Bw s) [] 0 h4;rw[List.append_nil]at this;rw[this]
   split
   . rename_i e;rw[e];rfl
   . rfl
  have c0:=h2.cell 0;have c1:=h3.cell 0;have f0:=h2.frozen 0;have hl0:=h2.lt;have hds':=(Below.heap_setCell W ⟨w.heap.size,0,none⟩ (.int .i64 (Aae (Bw s):Nat)) w3.heap.size (by show w3.heap.size≠w.heap.size;omega)).trans hds;have h2':=Pv (h2.set_ 0 (.int .i64 (Aae (Bw s):Nat))) hds' rfl (o':=.deferred none);have c0':=h2'.cell 0;have Hb':=qz (Nt (h1.setCell (p:=⟨w.heap.size,0,none⟩) (Nat.le_refl _) (.int .i64 (Aae (Bw s):Nat))) (by simpa[World.setCell]using h1.size) (k:=w3.heap.size) (by omega) (.deferred none));obtain⟨H1,H2,H3,H4,H5,H2',Hval,Hds'⟩:=hid8 h1 h2 h3 h4 h5 h2' hval hds';clear h1 h2 h3 h4 h5 h2' hval hds'
  gi_wp2
  refine⟨by simp,.inl ⟨_,_,rfl,run_takeDeferred Hds'.out, ?_⟩⟩;refine⟨.int .i64 (Aae (Bw s):Nat), ?_,by rw[Hval.out],Hb'.out⟩;simp[results,Tryz.results289,go_sem,c0']
theorem Ahe {c:UInt8} (h:c.toNat<128) (l:List UInt8):Lib.decodeL (c::l)=(c.toNat,1):=by
 rw[Db];unfold Lib.decodeN;rw[if_pos (by simpa using h)];simp
theorem Se {c:UInt8} {l:List UInt8} (hd: ¬((Lib.decodeL (c::l)).1=65533/\(Lib.decodeL (c::l)).2=1)):(32<=(Lib.decodeL (c::l)).1/\(Lib.decodeL (c::l)).1≠34/\(Lib.decodeL (c::l)).1≠92) ↔ (¬c.toNat<32/\c≠34/\c≠92):=by
 by_cases h:c.toNat<128
 . rw[Ahe h];have e34:c=34 ↔ c.toNat=34:=⟨fun e=>by rw[e];rfl,fun e=>UInt8.toNat_inj.1 e⟩;have e92:c=92 ↔ c.toNat=92:=⟨fun e=>by rw[e];rfl,fun e=>UInt8.toNat_inj.1 e⟩;simp only[ne_eq,e34,e92];omega
 . have hr:128<=(Lib.decodeL (c::l)).1:=by
    have he:=Lib.encode_decode (c::l) (by simp) hd;have hs:=To (l:=c::l) (by simp) hd;have hw:=Lib.decodeL_width (c::l);have hc:c ∈ Lib.encodeRune ((Lib.decodeL (c::l)).1:Int):=by
     rw[he];obtain⟨n,hn⟩: ∃n,(Lib.decodeL (c::l)).2=n+1:=⟨(Lib.decodeL (c::l)).2 - 1,by omega⟩;rw[hn];simp
    have:=G0 hs c hc;omega
   have n34:c≠34:=by rintro rfl;exact h (by decide)
   have n92:c≠92:=by rintro rfl;exact h (by decide)
   exact⟨fun _=>⟨by omega,n34,n92⟩,fun _=>⟨by omega,by omega,by omega⟩⟩
theorem Ad6 {s:List UInt8} {i:Nat} (h:i<s.length): ∃c,s[i]? =some c/\s.drop i=c::s.drop (i+1):=by
 refine⟨s[i],List.getElem?_eq_getElem h,List.drop_eq_getElem_cons h⟩
theorem Xs: ∀(n f:Nat) (s:List UInt8) (i:Nat) (out:List UInt8),i<=s.length->s.length - i<f->
 ∃f',s.length - (i+E0 n (s.drop i))<f'/\It f s i out=It f' s (i+E0 n (s.drop i)) (out++(s.drop i).take (E0 n (s.drop i)))
 |0,f,s,i,out,hi,hf=>⟨f,by simpa[E0]using hf,by simp[E0]⟩
 |n+1,f,s,i,out,hi,hf=>by
  by_cases hlt:i<s.length;rotate_left
  . have e:s.drop i= []:=List.drop_eq_nil_of_le (by omega);refine⟨f, ?_, ?_⟩<;>simp[E0,e]
    omega
  obtain⟨c,hc,hd⟩:=Ad6 hlt;have hne:s.drop i≠ []:=by rw[hd];simp
  simp only[E0];rw[if_neg hne];by_cases h2:(Lib.decodeL (s.drop i)).1=65533/\(Lib.decodeL (s.drop i)).2=1
  . rw[if_pos h2];exact⟨f,by simpa using hf,by simp⟩
  rw[if_neg h2];by_cases h3:32<=(Lib.decodeL (s.drop i)).1/\(Lib.decodeL (s.drop i)).1≠34/\(Lib.decodeL (s.drop i)).1≠92;rotate_left
  . rw[if_neg h3];exact⟨f,by simpa using hf,by simp⟩
  rw[if_pos h3];have hb:=h3;rw[hd]at hb h2;have hb':=(Se h2).1 hb;rw[<-hd]at h2;obtain⟨f,rfl⟩: ∃g,f=g+1:=⟨f - 1,by omega⟩;have hw:=Lib.decodeL_width (s.drop i);have hle:=Aj1 hlt;have e1:It (f+1) s i out=It f s (i+(Lib.decodeL (s.drop i)).2) (out++(s.drop i).take (Lib.decodeL (s.drop i)).2):=by
   conv=>lhs;unfold It
   rw[hc];simp only;rw[if_neg hb'.2.1,if_neg hb'.1,if_neg hb'.2.2,if_neg h2]
  obtain⟨f',h4,h5⟩:=Xs n f s (i+(Lib.decodeL (s.drop i)).2) (out++(s.drop i).take (Lib.decodeL (s.drop i)).2) hle (by omega);rw[<-List.drop_drop]at h4 h5;refine⟨f',by rw[<-Nat.add_assoc];exact h4, ?_⟩;rw[e1,h5,<-Nat.add_assoc,List.append_assoc,List.take_add]
theorem Afd {n f:Nat} {s:List UInt8} {i:Nat} {out:List UInt8} {c:UInt8} (hc:s[i]? =some c) (h34:c≠34) (h92:c≠92) (hp:E0 (n+1) (s.drop i)=0):It (f+1) s i out=.bad (if c.toNat<32 then 4 else 3) i:=by
 have hd:=Iw hc;have hne:s.drop i≠ []:=by rw[hd];simp
 simp only[E0]at hp;rw[if_neg hne]at hp;unfold It;rw[hc];simp only;rw[if_neg h34];by_cases h32:c.toNat<32
 . rw[if_pos h32,if_pos h32]
 rw[if_neg h32,if_neg h92,if_neg h32];by_cases h2:(Lib.decodeL (s.drop i)).1=65533/\(Lib.decodeL (s.drop i)).2=1
 . rw[if_pos h2]
 rw[if_neg h2]at hp;have h2':=h2;rw[hd]at h2';have h3:=(Se h2').2 ⟨h32,h34,h92⟩;rw[<-hd]at h3;rw[if_pos h3]at hp;have:=Lib.decodeL_width (s.drop i);omega
theorem Aj8 {l:List UInt8} {e:Int} {q:Nat} (h:Km l=.bad e q):e=3\/e=4:=by
 unfold Km Jh Vm at h
 repeat' split at h
 all_goals first|(simp only[Rd.bad.injEq]at h;omega)|cases h
def Aly (r:Rd (List UInt8)):Value:=match r with
 | .ok a q=> .tuple #[.string ⟨a.toArray⟩,.int .i64 (q:Nat),.int .i64 0]
 | .bad e q=> .tuple #[.string ⟨#[]⟩,.int .i64 (q:Nat),.int .i64 e]
theorem Vh {B g:Nat} {bs:List UInt8} {w:World} (h:BB w B g bs):Calls Tryz.prog 75 #[.pointer (some ⟨g,0,none⟩)] w fun e w'=>e=.returned (.string ⟨bs.toArray⟩)/\Below B w w':=by
 obtain⟨p,v,hB,hb,ht,_,h0,v',h1,hown⟩:=h;simp only[Nat.zero_add]at h1;have hv:v'=v:=by simpa using h1.symm
 subst hv;have hlt:g<w.heap.size:=(Array.getElem?_eq_some_iff.1 hb).1;refine Tryz.Builder_String_any B g bs w ?_ (by omega);have hne:=Lib.ownBlock_ne hown hb ht;have hat: ∀p',p=p'->Lib.BuilderAt 133 5 B g p' (Lib.byteCells bs) w:=fun p' e=>by
  subst e;exact⟨hB,v',hb,by have:=hown;simpa[Lib.byteCells]using this,hne⟩
 rcases h0 with h0|h0
 . exact .inl (hat _ (by simpa using h0))
 . exact .inr (hat _ (by simpa using h0))
def Anr (W:World) (b:Nat) (m:Option Nat):Prop:= ∀mb,m=some mb->b<mb/\W.heap[mb]? =some (.map (Jl D5 0).toArray D5.length)
def UI (s:ByteArray) (w:World) (RES:Rd (List UInt8)) (i:Nat) (m:Option Nat) (wr:World):Prop:=
 ∃out f,Below w.heap.size w wr/\BB wr w.heap.size w.heap.size out/\Anr wr w.heap.size m/\It f s.data.toList i out=RES/\s.size - i<f/\out.length<=i
theorem Abk {s:ByteArray} (i:Nat):(s.extract i s.size).data.toList=s.data.toList.drop i:=by
 rw[Lib.extract_data];exact List.take_of_length_le (by rw[List.length_drop,Al];omega)
theorem Ai2 (s:ByteArray) (k:Nat) (w:World) (hT:Cm w) (hs:s.size<=1000000000) (hk:k<=s.size):
 Calls Tryz.prog 248 #[.string s,.int .i64 k] w fun e w'=>e=.returned (Aly (Eg s.data.toList k))/\Below w.heap.size w w':=by
 have hlen:=Al s;have n0: ¬((k:Int)<0):=by omega
 have n1: ¬((s.size:Int)<(k:Int)):=by omega
 by_cases hlt:k<s.size;rotate_left
 . obtain rfl:k=s.size:=by omega
   have e:Eg s.data.toList s.size=.bad 4 s.size:=by unfold Eg;rw[if_neg (by rw[List.getElem?_eq_none (by omega)];simp)]
   rw[e];simp only[Aly];clear e hlen;have HT:=qz hT;clear hT n1 hlt;go_enter Tryz.func248,Tryz.ntmps248;go_wp2
   go_step3
   go_wp2;rw[Exit.noGoto_ret];exact bodyPost_ret (Bj rfl _ _ _) rfl ⟨rfl,Below.refl _ _⟩
 obtain⟨c,hc⟩: ∃c,s[k]=c:=⟨_,rfl⟩;have hg:s.data.toList[k]? =some c:=by rw[Dx s hlt,hc]
 have hcl:=Dr c;have ne: ∀(c:UInt8) (n:Nat),n<256->c≠UInt8.ofNat n->((c.toNat:Int)==(n:Int))=false:=fun c n hn h=>by rw[Py hn];simpa using h
 have e1:((k:Int)==(s.size:Int))=false:=by rw[beq_eq_false_iff_ne];omega
 by_cases h34:c=34;rotate_left
 . have e:Eg s.data.toList k=.bad 4 k:=by unfold Eg;rw[if_neg (by rw[hg];simpa using h34)]
   rw[e];have e2:=ne c 34 (by decide) h34;simp only[Aly];clear e hlen hg ne h34;have HT:=qz hT;clear hT;go_enter Tryz.func248,Tryz.ntmps248;go_wp2
   go_step3
   go_wp2;rw[Exit.noGoto_ret];exact bodyPost_ret (Bj rfl _ _ _) rfl ⟨rfl,Below.refl _ _⟩
 subst h34;obtain⟨RES,hRES⟩: ∃R,Eg s.data.toList k=R:=⟨_,rfl⟩;rw[hRES];have hF:It (s.data.toList.length - k) s.data.toList (k+1) []=RES:=by
  rw[<-hRES];unfold Eg;rw[if_pos hg]
 have hB0:BB (w.alloc (.cells #[.pointer none,.slice none 0 0] 133)) w.heap.size w.heap.size []:=
  ⟨_,_,Nat.le_refl _,heap_alloc_new _ _,by decide,by simp,.inl rfl,.slice none 0 0,rfl,World.ownsRow_nil _ _ _ _⟩
 have H0:Hid (UI s w RES (k+1) none (w.alloc (.cells #[.pointer none,.slice none 0 0] 133))):=⟨[],_,Aa _ _,hB0,fun mb e=>(by cases e),hF,by omega,by simp⟩;clear hRES hF hB0 hg hlen;have d0:decide ((k:Int)<0)=false:=decide_eq_false (by omega);have d1:decide (s.size<k)=false:=decide_eq_false (by omega);clear n0 n1;obtain⟨HT,Ne⟩:=hid2 hT ne;clear hT ne;go_enter Tryz.func248,Tryz.ntmps248;go_wp2
 go_step3
 go_wp2
 go_step3
 go_wp2;go_loopw [7,9] (fun m i wr=> ∃(j:Nat) (mm:Option Nat),m=.map mm/\i=.int .i64 j/\j<=s.size/\Hid (UI s w RES j mm wr)) (fun _ i _=>s.size - (intOf i).toNat)
 case atStart=>exact⟨k+1,none,rfl,by go_num,by omega,H0⟩
 case round=>
  obtain⟨j,mm,rfl,rfl,hj,hI⟩:=hrel;clear H0 e1 hc d0 d1;clear hlt hk;by_cases hlt:j<s.size
  . obtain⟨c,hc⟩: ∃c,s[j]=c:=⟨_,rfl⟩;have hg:s.data.toList[j]? =some c:=by rw[Dx s hlt,hc]
    have hcl:=Dr c;have e1:((j:Int)==(s.size:Int))=false:=by rw[beq_eq_false_iff_ne];omega
    by_cases h34:c=34
    . subst h34;obtain⟨out,f,h1,h2,h3,h4,h5,h6⟩:=hI.out;obtain⟨f,rfl⟩: ∃g,f=g+1:=⟨f - 1,by omega⟩;have hR:RES=.ok out (j+1):=by
       rw[<-h4];unfold It;rw[hg];simp
      have HS:=qz (Vh h2);obtain⟨H1,H2,H3,H4,HR⟩:=hid5 h1 h2 h3 h4 hR;clear h1 h2 h3 h4 hR;clear hI hg;go_wp2_with (fail);(with_reducible refine(HS.out).mono ?_);rintro e w2 ⟨rfl,hb2⟩;have hB:=qz (H1.out.trans hb2);clear hb2;go_wp2
      try rw[Exit.noGoto_ret]
      exact bodyPost_ret (Bj rfl _ _ _) rfl ⟨by rw[HR.out];rfl,hB.out⟩
    have e34:=Ne.out c 34 (by decide) h34;by_cases h92:c=92
    . subst h92;obtain⟨out,f,h1,h2,h3,h4,h5,h6⟩:=hI.out;obtain⟨f,rfl⟩: ∃g,f=g+1:=⟨f - 1,by omega⟩;have hR:RES=match Km (s.data.toList.drop j)with
       | .bad e _=> .bad e j
       | .ok r n=>It f s.data.toList (j+n) (out++Lib.encodeRune (r:Int)):=by
       rw[<-h4]
       conv=>lhs;unfold It
       rw[hg];simp only;rw[if_neg (by decide),if_neg (by decide),if_pos trivial];rfl
      have hext:=Abk (s:=s) j;have hes:(s.extract j s.size).size<=1000000000:=by rw[ByteArray.size_extract];omega
      have hE:=fun(mb:Nat) (W:World) hm=>Y6 (s.extract j s.size) mb W hes hm;rw[hext]at hE;have hok: ∀r n,Km (s.data.toList.drop j)=.ok r n->r<=1114111/\2<=n/\j+n<=s.size/\(Lib.encodeRune (r:Int)).length<=n:=fun r n e=>by
       have a1:=Ta e;have a2:=Abj e;rw[List.length_drop,Al]at a1;exact⟨a1.1,a1.2.2.1,by omega,a2⟩
      have hbad: ∀e q,Km (s.data.toList.drop j)=.bad e q->e=3\/e=4:=fun e q h=>Aj8 h;clear hext hes hg h34;generalize Km (s.data.toList.drop j)=X at hE hR hok hbad;have hnil:=fun(wx:World) (m0:Option Nat)=>run_eql_map_nil (P:=Tryz.prog) wx 296 _ _ m0 Tryz.underlying296;have key: ∀(W:World) (mb:Nat),Below w.heap.size w W->BB W w.heap.size w.heap.size out->w.heap.size<mb->W.heap[mb]? =some (.map (Jl D5 0).toArray D5.length)-> ∀r n,X=.ok r n->
       Calls Tryz.prog 288 #[.string (s.extract j s.size),.map (some mb)] W (fun e W'=>e=.returned (St X)/\W=W')/\
       (Calls Tryz.prog 244 #[.pointer (some ⟨w.heap.size,0,none⟩),.int .i32 r] W fun e W'=>(∃k:Int,e=.returned (.tuple #[.int .i64 k,.nilIface]))/\UI s w RES (j+n) (some mb) W'):=by
       intro W mb a1 a2 a3 a4 r n e;refine⟨hE mb W a4, ?_⟩;obtain⟨b1,b2,b3,b4⟩:=hok r n e;refine(Jp (r:Int) (by omega) (by omega) a2 (by omega)).mono ?_;rintro e' W' ⟨hk',hB',hb',hkp⟩;refine⟨hk',out++Lib.encodeRune (r:Int),f,a1.trans hb',hB',fun mb' e2=> ?_, ?_,by omega,by rw[List.length_append];omega⟩
       . cases e2
         exact⟨a3,hkp _ _ a4 (by simp;omega) (fun c fz e=>by cases e)⟩
       . rw[hR,e]
      have hU: ∀W,Calls Tryz.prog 287 #[] W fun e w'=>e=.returned (.map (some W.heap.size))/\W.alloc (.map (Jl D5 0).toArray D5.length)=w':=fun W=>Z6 W;have hz1:=h1.size
      cases X with
      |bad e0 q0=>
       simp only[St]at hE hR;have hn0:(e0 != 0)=true:=by
        rcases hbad e0 q0 rfl with rfl|rfl<;>decide
       rcases mm with _|mb
       . have hm:=heap_alloc_new wr (.map (Jl D5 0).toArray D5.length);have HE':=qz (hE wr.heap.size _ hm);have Hbw:=qz (h1.alloc hz1 (.map (Jl D5 0).toArray D5.length));obtain⟨HU,H1,H2,H3,H4,HR,Key,Hok,Hm,Hbad⟩:=hid10 hU h1 h2 h3 h4 hR key hok hm hbad;clear hU h1 h2 h3 h4 hR key hok hm hbad;clear hI hE;go_wp2_with (fail);(with_reducible refine(HU.out _).mono ?_);rintro e w2 ⟨rfl,rfl⟩;go_wp2_with (fail);(with_reducible refine(HE'.out).mono ?_);rintro e w2 ⟨rfl,rfl⟩;go_wp2
         try rw[Exit.noGoto_ret]
         exact bodyPost_ret (Bj rfl _ _ _) rfl ⟨by rw[HR.out];rfl,Hbw.out⟩
       . have hE':=hE mb _ (h3 mb rfl).2;obtain⟨HE',HU,H1,H2,H3,H4,HR,Key,Hok,Hbad⟩:=hid10 hE' hU h1 h2 h3 h4 hR key hok hbad;clear hE' hU h1 h2 h3 h4 hR key hok hbad;clear hI hE;go_wp2_with (fail);(with_reducible refine(HE'.out).mono ?_);rintro e w2 ⟨rfl,rfl⟩;go_wp2
         try rw[Exit.noGoto_ret]
         exact bodyPost_ret (Bj rfl _ _ _) rfl ⟨by rw[HR.out];rfl,H1.out⟩
      |ok r n=>
       obtain⟨b1,b2,b3,b4⟩:=hok r n rfl;rcases mm with _|mb
       . obtain⟨k1,k2⟩:=key (wr.alloc (.map (Jl D5 0).toArray D5.length)) wr.heap.size (h1.alloc hz1 _) (h2.below (Aa _ _)) h2.lt (heap_alloc_new wr _) r n rfl;simp only[St]at k1;obtain⟨HU,H1,H2,H3,H4,HR,Key,Hok,K1,K2,Hbad⟩:=hid11 hU h1 h2 h3 h4 hR key hok k1 k2 hbad;clear hU h1 h2 h3 h4 hR key hok k1 k2 hbad;clear hI hE;go_wp2_with (fail);(with_reducible refine(HU.out _).mono ?_);rintro e w2 ⟨rfl,rfl⟩;go_wp2_with (fail);(with_reducible refine(K1.out).mono ?_);rintro e w2 ⟨rfl,rfl⟩;go_wp2_with (fail);(with_reducible refine(K2.out).mono ?_);rintro e w2 ⟨⟨z,rfl⟩,hu2⟩;have HU2:=qz hu2;clear hu2;go_wp2;go_roundw
         case rel=>exact⟨j+n,_,rfl,by go_num,by omega,HU2⟩
         case measure=>simp[intOf];omega
       . obtain⟨k1,k2⟩:=key wr mb h1 h2 (h3 mb rfl).1 (h3 mb rfl).2 r n rfl;simp only[St]at k1;obtain⟨HU,H1,H2,H3,H4,HR,Key,Hok,K1,K2,Hbad⟩:=hid11 hU h1 h2 h3 h4 hR key hok k1 k2 hbad;clear hU h1 h2 h3 h4 hR key hok k1 k2 hbad;clear hI hE;go_wp2_with (fail);(with_reducible refine(K1.out).mono ?_);rintro e w2 ⟨rfl,rfl⟩;go_wp2_with (fail);(with_reducible refine(K2.out).mono ?_);rintro e w2 ⟨⟨z,rfl⟩,hu2⟩;have HU2:=qz hu2;clear hu2;go_wp2;go_roundw
         case rel=>exact⟨j+n,_,rfl,by go_num,by omega,HU2⟩
         case measure=>simp[intOf];omega
    ·
     have e92:=Ne.out c 92 (by decide) h92;obtain⟨out,f,h1,h2,h3,h4,h5,h6⟩:=hI.out;have hext:=Abk (s:=s) j;have hsz:(s.extract j s.size).size=s.size - j:=by rw[ByteArray.size_extract];omega
     have hP:=Acp (s.extract j s.size) wr (HT.out.below h1) (by omega);rw[hext,hsz]at hP;obtain⟨nn,hnn⟩: ∃nn,s.size - j=nn+1:=⟨s.size - j - 1,by omega⟩;have hle:=Xr (s.size - j) (s.data.toList.drop j);rw[List.length_drop,Al]at hle;obtain⟨f',q1,q2⟩:=Xs (s.size - j) f s.data.toList j out (by rw[Al];omega) (by rw[Al];omega);rw[Al]at q1;have hnone:E0 (s.size - j) (s.data.toList.drop j)=0->RES=.bad (if c.toNat<32 then 4 else 3) j:=fun e=>by
      obtain⟨g,rfl⟩: ∃g,f=g+1:=⟨f - 1,by omega⟩;rw[hnn]at e;rw[<-h4,Afd hg h34 h92 e]
     generalize hpl:E0 (s.size - j) (s.data.toList.drop j)=p at hP hle q1 q2 hnone;clear hext hsz hnn hg h34 h92 hI hpl;by_cases hp0:p=0
     . subst hp0;have hR:=hnone rfl;have hW:=fun W=>V9 c W;have t0:((0:Int)==0)=true:=rfl;generalize (if c.toNat<32 then(4:Int)else 3)=E at hW hR;obtain⟨HP,H1,H2,H3,H4,HR,HW,Q2,Hnone⟩:=hid9 hP h1 h2 h3 h4 hR hW q2 hnone;clear hP h1 h2 h3 h4 hR hW q2 hnone;go_wp2_with (fail);(with_reducible refine(HP.out).mono ?_);rintro e w2 ⟨rfl,hb2⟩;have hB:=qz (H1.out.trans (hb2.mono H1.out.size));clear hb2;go_wp2_with (fail);(with_reducible refine(HW.out _).mono ?_);rintro e w3 ⟨rfl,rfl⟩;go_wp2
       try rw[Exit.noGoto_ret]
       exact bodyPost_ret (Bj rfl _ _ _) rfl ⟨by rw[HR.out];rfl,hB.out⟩
     . have t0:((p:Int)==0)=false:=by rw[beq_eq_false_iff_ne];omega
       have hex:(s.extract j (j+p)).data.toList=(s.data.toList.drop j).take p:=by rw[Lib.extract_data];congr 1;omega
       have hsx:(s.extract j (j+p)).size=p:=by rw[ByteArray.size_extract];omega
       have hnext: ∀W W',Below wr.heap.size wr W->BB W' w.heap.size w.heap.size (out++(s.extract j (j+p)).data.toList)->Below w.heap.size W W'->Fh w.heap.size W W'->UI s w RES (j+p) mm W':=by
        intro W W' a1 a2 a3 a4;refine⟨_,f',(h1.trans (a1.mono h1.size)).trans a3,a2,fun mb e=> ?_,by rw[hex,<-q2];exact h4,q1,by rw[List.length_append,hex,List.length_take,List.length_drop];omega⟩;obtain⟨b1,b2⟩:=h3 mb e;have hlm:mb<wr.heap.size:=(Array.getElem?_eq_some_iff.1 b2).1;exact⟨b1,a4 _ _ ((a1.block mb hlm).trans b2) (by simp;omega) (fun c fz e=>by cases e)⟩
       have hWS: ∀W,Below wr.heap.size wr W->Calls Tryz.prog 193 #[.pointer (some ⟨w.heap.size,0,none⟩),.string (s.extract j (j+p))] W (fun e W'=>e=.returned (.tuple #[.int .i64 p,.nilIface])/\UI s w RES (j+p) mm W'):=by
        intro W a1;refine(J4 (s.extract j (j+p)) (h2.below a1) (by omega)).mono ?_;rintro e W' ⟨rfl,b1,b2,b3⟩;rw[hsx];exact⟨rfl,hnext W W' a1 b1 b2 b3⟩
       obtain⟨HP,H1,H2,H3,H4,Q2,Hnone,HWS,Hnext⟩:=hid9 hP h1 h2 h3 h4 q2 hnone hWS hnext;clear hP h1 h2 h3 h4 q2 hnone hWS hnext;clear hex hsx;go_wp2_with (fail);(with_reducible refine(HP.out).mono ?_);rintro e w2 ⟨rfl,hb2⟩;have HW2:=qz (HWS.out w2 hb2);have Hb2:=qz hb2;clear hb2;go_wp2_with (fail);(with_reducible refine(HW2.out).mono ?_);rintro e w3 ⟨rfl,hu2⟩;have HU2:=qz hu2;clear hu2;go_wp2;go_roundw
       case rel=>exact⟨j+p,_,rfl,by go_num,by omega,HU2⟩
       case measure=>simp[intOf];omega
  . obtain rfl:j=s.size:=by omega
    obtain⟨out,f,h1,h2,h3,h4,h5,h6⟩:=hI.out;obtain⟨f,rfl⟩: ∃g,f=g+1:=⟨f - 1,by omega⟩;have hR:RES=.bad 4 s.size:=by
     rw[<-h4];unfold It;rw[List.getElem?_eq_none (by rw[Al];exact Nat.le_refl _)]
    obtain⟨H1,H2,H3,H4,HR⟩:=hid5 h1 h2 h3 h4 hR;clear h1 h2 h3 h4 hR;clear hI;go_wp2
    try rw[Exit.noGoto_ret]
    exact bodyPost_ret (Bj rfl _ _ _) rfl ⟨by rw[HR.out];rfl,H1.out⟩
end Go.Proofs.YtkmcjfkokoidcaaGreatDoor
