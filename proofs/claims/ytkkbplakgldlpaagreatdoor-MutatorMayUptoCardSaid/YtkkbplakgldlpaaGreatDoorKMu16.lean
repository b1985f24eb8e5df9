/- Parts, joined: utf: paired, escape, runesByLetters, plain. Condition: a text of at most 10^9 bytes. -/
import Derived.Test.YtkkbplakgldlpaaGreatDoorProg
import Derived.Test.YtkkbplakgldlpaaGreatDoorKMu5
import Derived.Test.YtkkbplakgldlpaaGreatDoorKMu9
import Derived.Test.YtkkbplakgldlpaaGreatDoorKMu10
import Derived.Test.YtkkbplakgldlpaaGreatDoorKMu12
namespace Go.Proofs.YtkkbplakgldlpaaGreatDoor
open Go Go.RowKit
attribute [local go_sem] Oper.semAt_some
def escR (r:Rd Nat):Value:=match r with
 | .ok r n=> .tuple #[.int .i32 r,.int .i64 n,.int .i64 0]
 | .bad e _=> .tuple #[.int .i32 0,.int .i64 0,.int .i64 e]
theorem results_tmp3 {fn:Func} {t u v:Tmp} (h:fn.results= #[.tmp t,.tmp u,.tmp v]) (tmps:Array Value) (P:Program) (w:World):
 (results fn tmps).run P w=.ok (.tuple #[tmps.getD t undef,tmps.getD u undef,tmps.getD v undef]) w:=by simp[results,h]
set_option maxRecDepth 100000 in
set_option maxHeartbeats 4000000 in
theorem paired_calls (r:Nat) (t:ByteArray) (w:World) (hr:r<65536) (hs:t.size≤1000000000):Calls Tryz.prog 240 #[.int .i32 r,.string t] w fun e w'=>e=.returned (escR (pairL r t.data.toList))∧w=w':=by
 have hU:=fun W=>unit_calls t W hs
 by_cases h1:r<55296
 · have e:pairL r t.data.toList=.ok r 6:=by unfold pairL;rw[if_pos (.inl h1)]
   rw[e]
   have l:(r:Int)<55296:=by omega
   clear e hU
   go_enter Tryz.func240,Tryz.ntmps240
   go_wp2
   exact bodyPost_ret (results_tmp3 rfl _ _ _) rfl ⟨rfl,rfl⟩
 have l1: ¬((r:Int)<55296):=by omega
 by_cases h2:57344≤r
 · have e:pairL r t.data.toList=.ok r 6:=by unfold pairL;rw[if_pos (.inr h2)]
   rw[e]
   have l:(57344:Int)≤(r:Int):=by omega
   clear e hU
   go_enter Tryz.func240,Tryz.ntmps240
   go_wp2
   exact bodyPost_ret (results_tmp3 rfl _ _ _) rfl ⟨rfl,rfl⟩
 have l2: ¬((57344:Int)≤(r:Int)):=by omega
 by_cases h3:56320≤r
 · have e:pairL r t.data.toList=.bad 3 0:=by unfold pairL;rw[if_neg (by omega),if_pos h3]
   rw[e]
   have l:(56320:Int)≤(r:Int):=by omega
   clear e hU
   go_enter Tryz.func240,Tryz.ntmps240
   go_wp2
   exact bodyPost_ret (results_tmp3 rfl _ _ _) rfl ⟨rfl,rfl⟩
 have l3: ¬((56320:Int)≤(r:Int)):=by omega
 have e0:pairL r t.data.toList=match unitL t.data.toList with
  |none=> .bad 3 0
  |some m=>if m<56320∨57344≤m then .bad 3 0 else .ok (65536+1024*(r - 55296)+(m - 56320)) 12:=by unfold pairL;rw[if_neg (by omega),if_neg h3];rfl
 rw[e0]
 clear e0
 cases hu:unitL t.data.toList with
 |none=>
  simp only[hu,unitR]at hU
  clear hu
  have HU:=Lib.hid hU
  clear hU
  go_enter Tryz.func240,Tryz.ntmps240
  go_wp2_with (fail)
  with_reducible refine(HU.out _).mono ?_
  rintro e w1 ⟨rfl,rfl⟩
  go_wp2
  exact bodyPost_ret (results_tmp3 rfl _ _ _) rfl ⟨rfl,rfl⟩
 |some m=>
  have hm:=(unitL_lt hu).1
  simp only[hu,unitR]at hU
  clear hu
  have HU:=Lib.hid hU
  clear hU
  simp only
  by_cases h4:m<56320
  · rw[if_pos (.inl h4)]
    have l:(m:Int)<56320:=by omega
    clear h4
    go_enter Tryz.func240,Tryz.ntmps240
    go_wp2_with (fail)
    with_reducible refine(HU.out _).mono ?_
    rintro e w1 ⟨rfl,rfl⟩
    go_wp2
    exact bodyPost_ret (results_tmp3 rfl _ _ _) rfl ⟨rfl,rfl⟩
  have l4: ¬((m:Int)<56320):=by omega
  by_cases h5:57344≤m
  · rw[if_pos (.inr h5)]
    have l:(57344:Int)≤(m:Int):=by omega
    clear h5
    go_enter Tryz.func240,Tryz.ntmps240
    go_wp2_with (fail)
    with_reducible refine(HU.out _).mono ?_
    rintro e w1 ⟨rfl,rfl⟩
    go_wp2
    exact bodyPost_ret (results_tmp3 rfl _ _ _) rfl ⟨rfl,rfl⟩
  have l5: ¬((57344:Int)≤(m:Int)):=by omega
  rw[if_neg (by omega)]
  have b1:(55296:Int)≤(r:Int):=by omega
  have b2:(r:Int)<56320:=by omega
  have b3:(56320:Int)≤(m:Int):=by omega
  have b4:(m:Int)<57344:=by omega
  have d4:decide ((m:Int)<56320)=false:=decide_eq_false (by omega)
  have d5:decide ((57344:Int)≤(m:Int))=false:=decide_eq_false (by omega)
  have eq:(((65536+1024*(r - 55296)+(m - 56320):Nat)):Int)=65536+1024*((r:Int) - 55296)+((m:Int) - 56320):=by omega
  simp only[escR]
  rw[eq]
  clear eq h1 h2 h3 h4 h5 l4 l5
  go_enter Tryz.func240,Tryz.ntmps240
  go_wp2_with (fail)
  with_reducible refine(HU.out _).mono ?_
  rintro e w1 ⟨rfl,rfl⟩
  go_wp2
  exact bodyPost_ret (results_tmp3 rfl _ _ _) rfl ⟨rfl,rfl⟩
def runeTab:List (Int×Int):= [(34,34),(92,92),(47,47),(98,8),(102,12),(110,10),(114,13),(116,9)]
set_option maxHeartbeats 1000000 in
set_option maxRecDepth 100000 in
theorem runesL_calls (w:World):Calls Tryz.prog 218 #[] w fun e w'=>e=.returned (.map (some w.heap.size))∧withMap w runeTab=w':=by
 have hmm:(Instr.makeMap 210 none).run Tryz.prog w=.ok (.map (some w.heap.size)) (withMap w []):=run_makeMap _ w
 have u1:=run_insert w [] 34 34 rfl
 have u2:=run_insert w [(34,34)] 92 92 rfl
 have u3:=run_insert w [(34,34),(92,92)] 47 47 rfl
 have u4:=run_insert w [(34,34),(92,92),(47,47)] 98 8 rfl
 have u5:=run_insert w [(34,34),(92,92),(47,47),(98,8)] 102 12 rfl
 have u6:=run_insert w [(34,34),(92,92),(47,47),(98,8),(102,12)] 110 10 rfl
 have u7:=run_insert w [(34,34),(92,92),(47,47),(98,8),(102,12),(110,10)] 114 13 rfl
 have u8:=run_insert w [(34,34),(92,92),(47,47),(98,8),(102,12),(110,10),(114,13)] 116 9 rfl
 simp only[List.nil_append,List.cons_append]at u1 u2 u3 u4 u5 u6 u7 u8
 go_enter Tryz.func218,Tryz.ntmps218
 go_wp2
 go_ret
 exact⟨rfl,rfl⟩
theorem runeTab_find (c:UInt8):findKV (c.toNat:Int) runeTab=(escLet c).map (fun n:Nat=>(n:Int)):=by
 have: ∀c:Fin 256,findKV ((UInt8.ofNat c.val).toNat:Int) runeTab=(escLet (UInt8.ofNat c.val)).map (fun n:Nat=>(n:Int)):=by decide+kernel
 have h:=this ⟨c.toNat,c.toNat_lt⟩
 simpa using h
set_option maxRecDepth 100000 in
set_option maxHeartbeats 4000000 in
theorem escape_calls (t:ByteArray) (mb:Nat) (w:World) (hs:t.size≤1000000000) (hm:w.heap[mb]? =some (.map (ents runeTab 0).toArray runeTab.length)):Calls Tryz.prog 219 #[.string t,.map (some mb)] w fun e w'=>e=.returned (escR (escL t.data.toList))∧w=w':=by
 have hU:=fun W=>unit_calls t W hs
 cases hu:unitL t.data.toList with
 |some r=>
  obtain⟨hr,h6⟩:=unitL_lt hu
  rw[size_toList]at h6
  have hext:(t.extract 6 t.size).data.toList=t.data.toList.drop 6:=by
   rw[Lib.extract_data]
   exact List.take_of_length_le (by rw[List.length_drop,size_toList];omega)
  have hP:=fun W=>paired_calls r (t.extract 6 t.size) W hr (by rw[ByteArray.size_extract];omega)
  have e0:escL t.data.toList=pairL r (t.data.toList.drop 6):=by unfold escL;rw[hu]
  rw[e0]
  rw[hext]at hP
  simp only[hu,unitR]at hU
  have l6:(6:Int)≤(t.size:Int):=by omega
  clear hu hext e0
  generalize pairL r (t.data.toList.drop 6)=X at hP ⊢
  cases X with
  |ok r' n'=>
   simp only[escR]at hP ⊢
   have HU:=Lib.hid hU
   have HP:=Lib.hid hP
   clear hU hP
   clear hm
   go_enter Tryz.func219,Tryz.ntmps219
   go_wp2_with (fail)
   with_reducible refine(HU.out _).mono ?_
   rintro e w1 ⟨rfl,rfl⟩
   go_wp2_with (fail)
   with_reducible refine(HP.out _).mono ?_
   rintro e w1 ⟨rfl,rfl⟩
   go_wp2
   exact bodyPost_ret (results_tmp3 rfl _ _ _) rfl ⟨rfl,rfl⟩
  |bad r' n'=>
   simp only[escR]at hP ⊢
   have HU:=Lib.hid hU
   have HP:=Lib.hid hP
   clear hU hP
   clear hm
   go_enter Tryz.func219,Tryz.ntmps219
   go_wp2_with (fail)
   with_reducible refine(HU.out _).mono ?_
   rintro e w1 ⟨rfl,rfl⟩
   go_wp2_with (fail)
   with_reducible refine(HP.out _).mono ?_
   rintro e w1 ⟨rfl,rfl⟩
   go_wp2
   exact bodyPost_ret (results_tmp3 rfl _ _ _) rfl ⟨rfl,rfl⟩
 |none=>
  have e0:escL t.data.toList=letL t.data.toList:=by unfold escL;rw[hu]
  rw[e0]
  simp only[hu,unitR]at hU
  clear hu e0
  by_cases h1:1<t.size
  · obtain⟨c,hc⟩: ∃c,t[1]=c:=⟨_,rfl⟩
    have hg:t.data.toList[1]? =some c:=by rw[get_byte t h1,hc]
    have hcl:=byte_lt c
    have hlk:=run_look w mb runeTab c.toNat hm
    rw[runeTab_find]at hlk
    have l1:(1:Int)<(t.size:Int):=by omega
    unfold letL
    rw[hg]
    simp only
    cases he:escLet c with
    |none=>
     rw[he]at hlk
     simp only[Option.map_none,Option.getD_none,Option.isSome_none,escR]at hlk ⊢
     clear he hg
     have HU:=Lib.hid hU
     clear hU
     clear hm
     go_enter Tryz.func219,Tryz.ntmps219
     go_wp2_with (fail)
     with_reducible refine(HU.out _).mono ?_
     rintro e w1 ⟨rfl,rfl⟩
     go_wp2
     exact bodyPost_ret (results_tmp3 rfl _ _ _) rfl ⟨rfl,rfl⟩
    |some x=>
     rw[he]at hlk
     simp only[Option.map_some,Option.getD_some,Option.isSome_some,escR]at hlk ⊢
     clear he hg
     have HU:=Lib.hid hU
     clear hU
     clear hm
     go_enter Tryz.func219,Tryz.ntmps219
     go_wp2_with (fail)
     with_reducible refine(HU.out _).mono ?_
     rintro e w1 ⟨rfl,rfl⟩
     go_wp2
     exact bodyPost_ret (results_tmp3 rfl _ _ _) rfl ⟨rfl,rfl⟩
  · have e0:letL t.data.toList=.bad 4 0:=by
     unfold letL
     rw[List.getElem?_eq_none (by rw[size_toList];omega)]
    have l1: ¬((1:Int)<(t.size:Int)):=by omega
    rw[e0]
    simp only[escR]
    clear e0
    have HU:=Lib.hid hU
    clear hU
    clear hm
    go_enter Tryz.func219,Tryz.ntmps219
    go_wp2_with (fail)
    with_reducible refine(HU.out _).mono ?_
    rintro e w1 ⟨rfl,rfl⟩
    go_wp2
    exact bodyPost_ret (results_tmp3 rfl _ _ _) rfl ⟨rfl,rfl⟩
def plainF:Nat→List UInt8→Nat
 |0,_=>0
 |f+1,l=>if l= []then 0 else if(Lib.decodeL l).1=65533∧(Lib.decodeL l).2=1 then 0 else if 32≤(Lib.decodeL l).1∧(Lib.decodeL l).1≠34∧(Lib.decodeL l).1≠92 then(Lib.decodeL l).2+plainF f (l.drop (Lib.decodeL l).2)else 0
def standsB (r:Nat):Bool:=decide (32≤r∧r≠34∧r≠92)
def plainL (z:Nat):List (Nat×Nat)→Nat
 | []=>z
 |x::r=>if standsB x.2=true then plainL (x.1+(Lib.encodeRune (x.2:Int)).length) r else x.1
theorem runeLen_eq {r:Nat} (h:scalar r):Lib.runeLen (r:Int)=((Lib.encodeRune (r:Int)).length:Nat):=by
 unfold scalar at h
 unfold Lib.encodeRune Lib.runeLen
 rw[List.length_map]
 by_cases h1:r≤127
 · rw[Lib.encodeRuneZ_one (by omega) (by omega),if_neg (by omega),if_pos (by omega)];rfl
 by_cases h2:r≤2047
 · rw[Lib.encodeRuneZ_two (by omega) (by omega),if_neg (by omega),if_neg (by omega),if_pos (by omega)];rfl
 by_cases h3:r≤65535
 · rw[Lib.encodeRuneZ_three (by omega),if_neg (by omega),if_neg (by omega),if_neg (by omega),if_neg (by omega),if_pos (by omega)];rfl
 · rw[Lib.encodeRuneZ_four (by omega) (by omega),if_neg (by omega),if_neg (by omega),if_neg (by omega),if_neg (by omega),if_neg (by omega),if_pos (by omega)];rfl
theorem plain_runes: ∀(n:Nat) (l:List UInt8) (p:Nat),plainL p (runesFrom n l p)=p+plainF n l
 |0,l,p=>by simp[runesFrom,plainL,plainF]
 |n+1,l,p=>by
  simp only[runesFrom,plainF]
  by_cases h1:l= []
  · rw[if_pos h1,if_pos h1];rfl
  rw[if_neg h1,if_neg h1]
  by_cases h2:(Lib.decodeL l).1=65533∧(Lib.decodeL l).2=1
  · rw[if_pos h2,if_pos h2];rfl
  rw[if_neg h2,if_neg h2]
  simp only[plainL]
  by_cases h3:32≤(Lib.decodeL l).1∧(Lib.decodeL l).1≠34∧(Lib.decodeL l).1≠92
  · have e:standsB (Lib.decodeL l).1=true:=by unfold standsB;exact decide_eq_true h3
    have hl:(Lib.encodeRune ((Lib.decodeL l).1:Int)).length=(Lib.decodeL l).2:=by
     rw[Lib.encode_decode l h1 h2,List.length_take]
     have:=Lib.decodeL_le l h1;omega
    rw[if_pos e,if_pos h3,hl,plain_runes n _ _];omega
  · have e:standsB (Lib.decodeL l).1=false:=by unfold standsB;exact decide_eq_false h3
    rw[e,if_neg (by decide),if_neg h3];rfl
theorem plainF_le: ∀(n:Nat) (l:List UInt8),plainF n l≤l.length
 |0,l=>Nat.zero_le _
 |n+1,l=>by
  simp only[plainF]
  split
  · exact Nat.zero_le _
  rename_i h1
  split
  · exact Nat.zero_le _
  split
  · have:=Lib.decodeL_le l h1
    have h2:=plainF_le n (l.drop (Lib.decodeL l).2)
    rw[List.length_drop]at h2;omega
  · exact Nat.zero_le _
def upTo:List (Nat×Nat)→Nat
 | []=>0
 |x::r=>match r with
  | []=>x.1+(Lib.encodeRune (x.2:Int)).length
  |y::r'=>upTo (y::r')
theorem upTo_snoc (l:List (Nat×Nat)) (x:Nat×Nat):upTo (l++ [x])=x.1+(Lib.encodeRune (x.2:Int)).length:=by
 induction l with
 |nil=>rfl
 |cons a l ih=>
  cases l with
  |nil=>rfl
  |cons b l=>exact ih
theorem plainL_app: ∀(l r:List (Nat×Nat)) (z:Nat),(∀x ∈ l,standsB x.2=true)→plainL z (l++r)=plainL (if l= []then z else upTo l) r
 | [],r,z,_=>by simp
 |a::l,r,z,h=>by
  rw[List.cons_append,plainL,if_pos (h a (by simp)),plainL_app l r _ (fun x hx=>h x (by simp[hx]))]
  cases l with
  |nil=>rfl
  |cons b l=>rfl
theorem runes_within: ∀(n:Nat) (l:List UInt8) (p:Nat),∀x ∈ runesFrom n l p,x.1+(Lib.encodeRune (x.2:Int)).length≤p+l.length
 |0,_,_,x,hx=>by simp[runesFrom]at hx
 |n+1,l,p,x,hx=>by
  simp only[runesFrom]at hx
  split at hx
  · cases hx
  rename_i h1
  split at hx
  · cases hx
  rename_i h2
  have hd:=Lib.decodeL_le l h1
  rcases List.mem_cons.1 hx with rfl|hx
  · simp only
    rw[Lib.encode_decode l h1 h2,List.length_take];omega
  · have:=runes_within n _ _ x hx
    rw[List.length_drop]at this;omega
def PI (s:ByteArray) (w:World) (d:Nat) (pre:List (Nat×Nat)) (W:World):Prop:=
 Below w.heap.size w W∧Blk W w.heap.size 3 #[.int .i64 0]∧Blk W (w.heap.size+1) 3 #[.int .i64 (upTo pre)]∧(∀x ∈ pre,standsB x.2=true)∧W.heap[d]? =some (.cells #[.string s] 9 (0,0))
def PX (w:World) (v:Nat) (W:World):Prop:=Below w.heap.size w W∧Blk W w.heap.size 3 #[.int .i64 v]
theorem blk_put {A:World} {g k:Nat} {t:TypeId} {cs:Array Value} {o o':Obj} (h:Blk A g t cs) (ho:A.heap[k]? =some o) (hc:o.isCells=false):Blk (A.putObj k o') g t cs:=by
 by_cases e:g=k
 · subst e
   unfold Blk at h
   rw[h]at ho
   cases ho
   cases hc
 · exact(World.putObj_heap_other e).trans h
theorem below_put {B:Nat} {a A:World} {k:Nat} (h:Below B a A) (hB:B≤A.heap.size) (hk:B≤k) (o':Obj):Below B a (A.putObj k o'):=h.grown (grownBy_putObj' A k o') hB (fun j e=>by cases e;exact hk)
set_option maxRecDepth 100000 in
set_option maxHeartbeats 4000000 in
theorem plain_calls (s:ByteArray) (w:World) (hT:Tabs w) (hs:s.size≤1000000000):
 Calls Tryz.prog 220 #[.string s] w fun e w'=>e=.returned (.int .i64 (plainF s.size s.data.toList:Nat))∧Below w.heap.size w w':=by
 have hfin:plainL 0 (runes s)=plainF s.size s.data.toList:=by
  unfold runes;rw[plain_runes];omega
 rw[←hfin]
 have Hrs: ∀pre x rest,runes s=pre++x::rest→scalar x.2∧x.1+(Lib.encodeRune (x.2:Int)).length≤s.size:=by
  intro pre x rest h
  have hm:x ∈ runesFrom s.size s.data.toList 0:=by show x ∈ runes s;rw[h];simp
  refine⟨runesFrom_scalar _ _ _ x hm, ?_⟩
  have:=runes_within s.size s.data.toList 0 x hm
  rwa [size_toList,Nat.zero_add]at this
 refine(callsIn_wide (n:=12)).1 ?_
 refine callsIn_of_wp_marks Tryz.func220 rfl trivial ?_ rfl
 simp only[Tryz.ntmps220,List.size_toArray,List.length_cons,List.length_nil,Nat.reduceAdd,Nat.reduceSub,Array.replicate_succ,Array.replicate_zero,List.push_toArray,List.append_toArray,List.nil_append,List.cons_append]
 have hx0:=((Blk.new w 3 #[.int .i64 0]).alloc (.cells #[.int .i64 0] 3)).alloc (.cells #[.string s] 9)
 have hx1:=(Blk.new (w.alloc (.cells #[.int .i64 0] 3)) 3 #[.int .i64 0]).alloc (.cells #[.string s] 9)
 rw[World.size_alloc]at hx1
 have hbw:=(((Below.refl w.heap.size w).alloc (Nat.le_refl _) (.cells #[.int .i64 0] 3)).alloc (by simp) (.cells #[.int .i64 0] 3)).alloc (by simp;omega) (.cells #[.string s] 9)
 have hnew:=heap_alloc_new ((w.alloc (.cells #[.int .i64 0] 3)).alloc (.cells #[.int .i64 0] 3)) (.cells #[.string s] 9)
 have hsz:((w.alloc (.cells #[.int .i64 0] 3)).alloc (.cells #[.int .i64 0] 3)).heap.size=w.heap.size+2:=by simp
 rw[hsz]at hnew
 have Hx0:=Lib.hid hx0
 have Hx1:=Lib.hid hx1
 have Hbw:=Lib.hid hbw
 have Hfin:=Lib.hid hfin
 have Hnew:=Lib.hid hnew
 have Hsz:=Lib.hid hsz
 clear hx0 hx1 hbw hfin hnew hsz
 gi_wp2_with (refine⟨trivial, ?_⟩;gi_at_call 196;refine(callsIn_wide.2 (Runes_calls _ _)).mono ?_;rintro e w3 ⟨rfl,rfl⟩)
 have hz3:(((w.alloc (.cells #[.int .i64 0] 3)).alloc (.cells #[.int .i64 0] 3)).alloc (.cells #[.string s] 9)).heap.size=w.heap.size+3:=by simp
 generalize ((w.alloc (.cells #[.int .i64 0] 3)).alloc (.cells #[.int .i64 0] 3)).alloc (.cells #[.string s] 9)=w3 at*
 have hyld:=runes_stops s (w.heap.size+2) hs
 refine wp_range_stop (n:=10) (gf:=214) (lb:= #[.pointer (some ⟨w.heap.size+2,0,none⟩)]) rfl (enters_of Tryz.func214 (by kernel_rfl) rfl) hyld (fun _=>rfl)
  (fun pre W=>PI s w (w.heap.size+2) pre W∧w.heap.size+3≤W.heap.size) (fun W=>PX w (plainL 0 (runes s)) W∧w.heap.size+3≤W.heap.size) ?hIn ?hXn ?hXp ?hIp ?hIb ?h0 ?a1 ?assign ?body ?stop ?done
 case assign=>
  intro l x W K hK
  gi_wp2
  exact hK
 case h0=>exact⟨⟨Hbw.out,Hx0.out,Hx1.out,fun x hx=>(by cases hx),Hnew.out⟩,by omega⟩
 case hIb=>
  rintro pre A ⟨⟨h1,_,_,_,h4⟩,_⟩
  exact⟨(Lib.cell_of_heap h4 0).trans rfl,hT.below h1⟩
 case hIn=>
  rintro pre A B ⟨⟨h1,h2,h3,h4,h5⟩,h6⟩ hb
  exact⟨⟨h1.trans (hb.mono h1.size),h2.below hb h2.lt,h3.below hb h3.lt,h4,(hb.block _ (Array.getElem?_eq_some_iff.1 h5).1).trans h5⟩,Nat.le_trans h6 hb.size⟩
 case hXn=>
  rintro A B ⟨⟨h1,h2⟩,h6⟩ hb
  exact⟨⟨h1.trans (hb.mono h1.size),h2.below hb h2.lt⟩,Nat.le_trans h6 hb.size⟩
 case hXp=>
  rintro A k o o' ⟨⟨h1,h2⟩,h6⟩ ho hc hk
  exact⟨⟨below_put h1 h1.size (by omega) _,blk_put h2 ho hc⟩,by simpa using h6⟩
 case hIp=>
  rintro pre A k o o' ⟨⟨h1,h2,h3,h4,h5⟩,h6⟩ ho hc hk
  exact⟨⟨below_put h1 h1.size (by omega) _,blk_put h2 ho hc,blk_put h3 ho hc,h4,(World.putObj_heap_other (by omega)).trans h5⟩,by simpa using h6⟩
 case body=>
  rintro l pre ⟨p,r⟩ rest W hx ⟨⟨h1,h2,h3,h4,h5⟩,h6⟩ ⟨ds,hds⟩ ⟨rc,hrc⟩
  obtain⟨hsc,hle⟩:=Hrs pre (p,r) rest hx
  simp only at hsc hle
  have c0:=h2.cell 0
  have c1:=h3.cell 0
  have f0:=h2.frozen 0
  have f1:=h3.frozen 0
  have hl0:=h2.lt
  have hl1:=h3.lt
  cases hB:standsB r with
  |true=>
   have hB':decide (32≤(r:Int)∧(r:Int)≠34∧(r:Int)≠92)=true:=by
    unfold standsB at hB
    rw[decide_eq_true_eq]at hB ⊢;omega
   have hRL:=fun W=>Tryz.utf8_RuneLen (r:Int) W
   rw[runeLen_eq hsc]at hRL
   have hfinI: ∀(a:Act),goesOnS (fun W=>PI s w (w.heap.size+2) (pre++ [(p,r)]) W∧w.heap.size+3≤W.heap.size) (fun W=>PX w (plainL 0 (runes s)) W∧w.heap.size+3≤W.heap.size) w3.heap.size W .normal a (W.setCell ⟨w.heap.size+1,0,none⟩ (.int .i64 ((p:Int)+((Lib.encodeRune (r:Int)).length:Nat)))):=by
    intro a
    refine⟨Below.heap_setCell _ _ _ _ (by show w3.heap.size≠w.heap.size+1;omega),Below.heap_setCell _ _ _ _ (by show w3.heap.size+1≠w.heap.size+1;omega),⟨h1.setCell (p:=⟨w.heap.size+1,0,none⟩) (by show w.heap.size≤w.heap.size+1;omega) _,h2.far (by show w.heap.size≠w.heap.size+1;omega) _, ?_, ?_,(Below.heap_setCell _ _ _ _ (by show w.heap.size+2≠w.heap.size+1;omega)).trans h5⟩,by simpa[World.setCell]using h6⟩
    · have:=h3.set_ 0 (.int .i64 ((p:Int)+((Lib.encodeRune (r:Int)).length:Nat)))
      rw[upTo_snoc]
      simpa using this
    · intro x hx'
      rcases List.mem_append.1 hx' with hx'|hx'
      · exact h4 x hx'
      · simp only[List.mem_singleton]at hx';rw[hx'];exact hB
   generalize (Lib.encodeRune (r:Int)).length=n at hRL hle hfinI
   have HRL:=Lib.hid hRL
   have HfinI:=Lib.hid hfinI
   have H1:=Lib.hid h1
   have H2:=Lib.hid h2
   have H3:=Lib.hid h3
   have H4:=Lib.hid h4
   have H5:=Lib.hid h5
   have Hx:=Lib.hid hx
   have Hds:=Lib.hid hds
   have Hrc:=Lib.hid hrc
   clear hRL hfinI h1 h2 h3 h4 h5 hx hds hrc
   clear hB
   gi_wp2_with (first|(refine⟨trivial, ?_⟩;gi_at_call 197;refine(CallsIn.inRound l (callsIn_wide.2 (standsFor_calls2 hB' _))).mono ?_;rintro e wx ⟨rfl,rfl⟩)|(refine⟨trivial, ?_⟩;gi_at_call 241;refine(CallsIn.inRound l (callsIn_wide.2 (HRL.out _))).mono ?_;rintro e wx ⟨rfl,rfl⟩))
   exact HfinI.out _
  |false=>
   have hB':decide (32≤(r:Int)∧(r:Int)≠34∧(r:Int)≠92)=false:=by
    unfold standsB at hB
    rw[decide_eq_false_iff_not]at hB ⊢;omega
   have hval:plainL 0 (runes s)=p:=by
    rw[hx,plainL_app _ _ _ h4,plainL,hB,if_neg (by decide)]
   have hfinX: ∀(a:Act),goesOnS (fun W=>PI s w (w.heap.size+2) (pre++ [(p,r)]) W∧w.heap.size+3≤W.heap.size) (fun W=>PX w (plainL 0 (runes s)) W∧w.heap.size+3≤W.heap.size) w3.heap.size W .ret a (W.setCell ⟨w.heap.size,0,none⟩ (.int .i64 (p:Int))):=by
    intro a
    refine⟨Below.heap_setCell _ _ _ _ (by show w3.heap.size≠w.heap.size;omega),Below.heap_setCell _ _ _ _ (by show w3.heap.size+1≠w.heap.size;omega),⟨h1.setCell (p:=⟨w.heap.size,0,none⟩) (Nat.le_refl _) _, ?_⟩,by simpa[World.setCell]using h6⟩
    have:=h2.set_ 0 (.int .i64 (p:Int))
    rw[hval]
    exact this
   have HfinX:=Lib.hid hfinX
   have H1:=Lib.hid h1
   have H2:=Lib.hid h2
   have H3:=Lib.hid h3
   have H4:=Lib.hid h4
   have H5:=Lib.hid h5
   have Hx:=Lib.hid hx
   have Hds:=Lib.hid hds
   have Hrc:=Lib.hid hrc
   have Hval:=Lib.hid hval
   clear hfinX h1 h2 h3 h4 h5 hx hds hrc hval
   clear hB
   gi_wp2_with (refine⟨trivial, ?_⟩;gi_at_call 197;refine(CallsIn.inRound l (callsIn_wide.2 (standsFor_calls2 hB' _))).mono ?_;rintro e wx ⟨rfl,rfl⟩)
   exact HfinX.out _
 case stop=>
  rintro W ⟨⟨h1,h2⟩,h6⟩ hds
  have h2':=blk_put h2 hds rfl (o':=.deferred none)
  have c0:=h2'.cell 0
  have hb':=below_put h1 h1.size (k:=w3.heap.size) (by omega) (.deferred none)
  have H1:=Lib.hid h1
  have H2:=Lib.hid h2
  have H2':=Lib.hid h2'
  have Hb':=Lib.hid hb'
  clear h1 h2 h2' hb'
  gi_wp2
  refine⟨by simp,.inl ⟨_,_,rfl,run_takeDeferred hds, ?_⟩⟩
  refine⟨.int .i64 (plainL 0 (runes s):Nat), ?_,rfl,Hb'.out⟩
  simp[results,Tryz.results220,go_sem,c0]
 case done=>
  rintro W ⟨⟨h1,h2,h3,h4,h5⟩,h6⟩ hds
  have hval:plainL 0 (runes s)=upTo (runes s):=by
   have:=plainL_app (runes s) [] 0 h4
   rw[List.append_nil]at this
   rw[this]
   split
   · rename_i e;rw[e];rfl
   · rfl
  have c0:=h2.cell 0
  have c1:=h3.cell 0
  have f0:=h2.frozen 0
  have hl0:=h2.lt
  have hds':=(Below.heap_setCell W ⟨w.heap.size,0,none⟩ (.int .i64 (upTo (runes s):Nat)) w3.heap.size (by show w3.heap.size≠w.heap.size;omega)).trans hds
  have h2':=blk_put (h2.set_ 0 (.int .i64 (upTo (runes s):Nat))) hds' rfl (o':=.deferred none)
  have c0':=h2'.cell 0
  have hb':=below_put (h1.setCell (p:=⟨w.heap.size,0,none⟩) (Nat.le_refl _) (.int .i64 (upTo (runes s):Nat))) (by simpa[World.setCell]using h1.size) (k:=w3.heap.size) (by omega) (.deferred none)
  have H1:=Lib.hid h1
  have H2:=Lib.hid h2
  have H3:=Lib.hid h3
  have H4:=Lib.hid h4
  have H5:=Lib.hid h5
  have H2':=Lib.hid h2'
  have Hb':=Lib.hid hb'
  have Hval:=Lib.hid hval
  have Hds':=Lib.hid hds'
  clear h1 h2 h3 h4 h5 h2' hb' hval hds'
  gi_wp2
  refine⟨by simp,.inl ⟨_,_,rfl,run_takeDeferred Hds'.out, ?_⟩⟩
  refine⟨.int .i64 (upTo (runes s):Nat), ?_,by rw[Hval.out],Hb'.out⟩
  simp[results,Tryz.results220,go_sem,c0']
end Go.Proofs.YtkkbplakgldlpaaGreatDoor
