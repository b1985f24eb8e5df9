/- Parts: utf.Unquote: the text that is quoted from a place on. Condition: a text of at most 10^9 bytes. -/
import Derived.Test.YtjgfchcldhmjcaaGreatDoorKPp11
import Derived.Test.YtjgfchcldhmjcaaGreatDoorKPp12
set_option maxHeartbeats 20000000
set_option maxRecDepth 100000
namespace Go.Proofs.YtjgfchcldhmjcaaGreatDoor
open Go Go.RowKit
attribute [local go_sem] Oper.semAt_some
def Rx (r:Rd Nat):Value:=match r with
 | .ok r n=> .tuple #[.int .i32 r,.int .i64 n,.int .i64 0]
 | .bad e _=> .tuple #[.int .i32 0,.int .i64 0,.int .i64 e]
theorem Ar {fn:Func} {t u v:Tmp} (h:fn.results= #[.tmp t,.tmp u,.tmp v]) (tmps:Array Value) (P:Program) (w:World):
 (results fn tmps).run P w=.ok (.tuple #[tmps.getD t undef,tmps.getD u undef,tmps.getD v undef]) w:=by simp[results,h]
theorem X9 (r:Nat) (t:ByteArray) (w:World) (x:r<65536) (k:t.size<=1000000000):Calls Tryz.prog 348 #[.int .i32 r,.string t] w fun e w'=>e=.returned (Rx (Fp r t.data.toList))/\w=w':=by
 have a:=fun W=>Ug t W k;by_cases i:r<55296
 . have e:Fp r t.data.toList=.ok r 6:=by unfold Fp;rw[if_pos (.inl i)]
   rw[e];have l:(r:Int)<55296:=by omega
   clear e a;go_enter Tryz.func348,Tryz.ntmps348;go_wp2;exact bodyPost_ret (Ar rfl _ _ _) rfl ⟨rfl,rfl⟩
 have y: ¬((r:Int)<55296):=by omega
 by_cases j:57344<=r
 . have e:Fp r t.data.toList=.ok r 6:=by unfold Fp;rw[if_pos (.inr j)]
   rw[e];have l:(57344:Int)<=(r:Int):=by omega
   clear e a;go_enter Tryz.func348,Tryz.ntmps348;go_wp2;exact bodyPost_ret (Ar rfl _ _ _) rfl ⟨rfl,rfl⟩
 have z: ¬((57344:Int)<=(r:Int)):=by omega
 by_cases c:56320<=r
 . have e:Fp r t.data.toList=.bad 3 0:=by unfold Fp;rw[if_neg (by omega),if_pos c]
   rw[e];have l:(56320:Int)<=(r:Int):=by omega
   clear e a;go_enter Tryz.func348,Tryz.ntmps348;go_wp2;exact bodyPost_ret (Ar rfl _ _ _) rfl ⟨rfl,rfl⟩
 have A: ¬((56320:Int)<=(r:Int)):=by omega
 have g:Fp r t.data.toList=match Dd t.data.toList with
  |none=> .bad 3 0
  |some m=>if m<56320\/57344<=m then .bad 3 0 else .ok (65536+1024*(r - 55296)+(m - 56320)) 12:=by unfold Fp;rw[if_neg (by omega),if_neg c];rfl
 rw[g];clear g
 cases hu:Dd t.data.toList with
 |none=>
  simp only[hu,Abl]at a;clear hu;have b:=qz a;clear a;go_enter Tryz.func348,Tryz.ntmps348;go_wp2_with (fail);(with_reducible refine(b.out _).mono ?_);rintro e w1 ⟨rfl,rfl⟩;go_wp2;exact bodyPost_ret (Ar rfl _ _ _) rfl ⟨rfl,rfl⟩
 |some m=>
  have v:=(Ks hu).1;simp only[hu,Abl]at a;clear hu;have b:=qz a;clear a;simp only;by_cases d:m<56320
  . rw[if_pos (.inl d)];have l:(m:Int)<56320:=by omega
    clear d;go_enter Tryz.func348,Tryz.ntmps348;go_wp2_with (fail);(with_reducible refine(b.out _).mono ?_);rintro e w1 ⟨rfl,rfl⟩;go_wp2;exact bodyPost_ret (Ar rfl _ _ _) rfl ⟨rfl,rfl⟩
  have n: ¬((m:Int)<56320):=by omega
  by_cases f:57344<=m
  . rw[if_pos (.inr f)];have l:(57344:Int)<=(m:Int):=by omega
    clear f;go_enter Tryz.func348,Tryz.ntmps348;go_wp2_with (fail);(with_reducible refine(b.out _).mono ?_);rintro e w1 ⟨rfl,rfl⟩;go_wp2;exact bodyPost_ret (Ar rfl _ _ _) rfl ⟨rfl,rfl⟩
  have o: ¬((57344:Int)<=(m:Int)):=by omega
  rw[if_neg (by omega)];have p:(55296:Int)<=(r:Int):=by omega
  have q:(r:Int)<56320:=by omega
  have s:(56320:Int)<=(m:Int):=by omega
  have u:(m:Int)<57344:=by omega
  have d4:decide ((m:Int)<56320)=false:=decide_eq_false (by omega);have d5:decide ((57344:Int)<=(m:Int))=false:=decide_eq_false (by omega);have h:(((65536+1024*(r - 55296)+(m - 56320):Nat)):Int)=65536+1024*((r:Int) - 55296)+((m:Int) - 56320):=by omega
  simp only[Rx];rw[h];clear h i j c d f n o;go_enter Tryz.func348,Tryz.ntmps348;go_wp2_with (fail);(with_reducible refine(b.out _).mono ?_);rintro e w1 ⟨rfl,rfl⟩;go_wp2;exact bodyPost_ret (Ar rfl _ _ _) rfl ⟨rfl,rfl⟩
def Dv:List (Int×Int):= [(34,34),(92,92),(47,47),(98,8),(102,12),(110,10),(114,13),(116,9)]
theorem Yk (w:World):Calls Tryz.prog 317 #[] w fun e w'=>e=.returned (.map (some w.heap.size))/\G8 w Dv=w':=by
 have a:(Instr.makeMap 336 none).run Tryz.prog w=.ok (.map (some w.heap.size)) (G8 w []):=run_makeMap _ w;have b:=Ci w [] 34 34 rfl;have c:=Ci w [(34,34)] 92 92 rfl;have d:=Ci w [(34,34),(92,92)] 47 47 rfl;have f:=Ci w [(34,34),(92,92),(47,47)] 98 8 rfl;have g:=Ci w [(34,34),(92,92),(47,47),(98,8)] 102 12 rfl;have h:=Ci w [(34,34),(92,92),(47,47),(98,8),(102,12)] 110 10 rfl;have i:=Ci w [(34,34),(92,92),(47,47),(98,8),(102,12),(110,10)] 114 13 rfl;have u8:=Ci w [(34,34),(92,92),(47,47),(98,8),(102,12),(110,10),(114,13)] 116 9 rfl;simp only[List.nil_append,List.cons_append]at b c d f g h i u8;go_enter Tryz.func317,Tryz.ntmps317;go_wp2;go_ret;exact⟨rfl,rfl⟩
theorem Yj (c:UInt8):Dy (c.toNat:Int) Dv=(Fj c).map (fun n:Nat=>(n:Int)):=by
 have: ∀c:Fin 256,Dy ((UInt8.ofNat c.val).toNat:Int) Dv=(Fj (UInt8.ofNat c.val)).map (fun n:Nat=>(n:Int)):=by decide+kernel
 have h:=this ⟨c.toNat,c.toNat_lt⟩;simpa using h
theorem Xl (t:ByteArray) (l:Nat) (w:World) (s:t.size<=1000000000) (i:w.heap[l]? =some (.map (Iz Dv 0).toArray Dv.length)):Calls Tryz.prog 318 #[.string t,.map (some l)] w fun e w'=>e=.returned (Rx (E5 t.data.toList))/\w=w':=by
 have a:=fun W=>Ug t W s
 cases hu:Dd t.data.toList with
 |some r=>
  obtain⟨q,n⟩:=Ks hu;rw[Ac]at n;have h:(t.extract 6 t.size).data.toList=t.data.toList.drop 6:=by
   rw[Lib.extract_data];exact List.take_of_length_le (by rw[List.length_drop,Ac];omega)
  have g:=fun W=>X9 r (t.extract 6 t.size) W q (by rw[ByteArray.size_extract];omega);have f:E5 t.data.toList=Fp r (t.data.toList.drop 6):=by unfold E5;rw[hu]
  rw[f];rw[h]at g;simp only[hu,Abl]at a;have v:(6:Int)<=(t.size:Int):=by omega
  clear hu h f;generalize Fp r (t.data.toList.drop 6)=X at g ⊢
  cases X with
  |ok r' n'=>
   simp only[Rx]at g ⊢;obtain⟨d,j⟩:=hid2 a g;clear a g;clear i;go_enter Tryz.func318,Tryz.ntmps318;go_wp2_with (fail);(with_reducible refine(d.out _).mono ?_);rintro e w1 ⟨rfl,rfl⟩;go_wp2_with (fail);(with_reducible refine(j.out _).mono ?_);rintro e w1 ⟨rfl,rfl⟩;go_wp2;exact bodyPost_ret (Ar rfl _ _ _) rfl ⟨rfl,rfl⟩
  |bad r' n'=>
   simp only[Rx]at g ⊢;obtain⟨d,j⟩:=hid2 a g;clear a g;clear i;go_enter Tryz.func318,Tryz.ntmps318;go_wp2_with (fail);(with_reducible refine(d.out _).mono ?_);rintro e w1 ⟨rfl,rfl⟩;go_wp2_with (fail);(with_reducible refine(j.out _).mono ?_);rintro e w1 ⟨rfl,rfl⟩;go_wp2;exact bodyPost_ret (Ar rfl _ _ _) rfl ⟨rfl,rfl⟩
 |none=>
  have f:E5 t.data.toList=Qb t.data.toList:=by unfold E5;rw[hu]
  rw[f];simp only[hu,Abl]at a;clear hu f;by_cases m:1<t.size
  . obtain⟨c,o⟩: ∃c,t[1]=c:=⟨_,rfl⟩;have k:t.data.toList[1]? =some c:=by rw[Bc t m,o]
    have p:=Bl c;have b:=T7 w l Dv c.toNat i;rw[Yj]at b;have u:(1:Int)<(t.size:Int):=by omega
    unfold Qb;rw[k];simp only
    cases he:Fj c with
    |none=>
     rw[he]at b;simp only[Option.map_none,Option.getD_none,Option.isSome_none,Rx]at b ⊢;clear he k;have d:=qz a;clear a;clear i;go_enter Tryz.func318,Tryz.ntmps318;go_wp2_with (fail);(with_reducible refine(d.out _).mono ?_);rintro e w1 ⟨rfl,rfl⟩;go_wp2;exact bodyPost_ret (Ar rfl _ _ _) rfl ⟨rfl,rfl⟩
    |some x=>
     rw[he]at b;simp only[Option.map_some,Option.getD_some,Option.isSome_some,Rx]at b ⊢;clear he k;have d:=qz a;clear a;clear i;go_enter Tryz.func318,Tryz.ntmps318;go_wp2_with (fail);(with_reducible refine(d.out _).mono ?_);rintro e w1 ⟨rfl,rfl⟩;go_wp2;exact bodyPost_ret (Ar rfl _ _ _) rfl ⟨rfl,rfl⟩
  . have f:Qb t.data.toList=.bad 4 0:=by
     unfold Qb;rw[List.getElem?_eq_none (by rw[Ac];omega)]
    have u: ¬((1:Int)<(t.size:Int)):=by omega
    rw[f];simp only[Rx];clear f;have d:=qz a;clear a;clear i;go_enter Tryz.func318,Tryz.ntmps318;go_wp2_with (fail);(with_reducible refine(d.out _).mono ?_);rintro e w1 ⟨rfl,rfl⟩;go_wp2;exact bodyPost_ret (Ar rfl _ _ _) rfl ⟨rfl,rfl⟩
def Et:Nat->List UInt8->Nat
 |0,_=>0
 |f+1,l=>if l= []then 0 else if(Lib.decodeL l).1=65533/\(Lib.decodeL l).2=1 then 0 else if 32<=(Lib.decodeL l).1/\(Lib.decodeL l).1≠34/\(Lib.decodeL l).1≠92 then(Lib.decodeL l).2+Et f (l.drop (Lib.decodeL l).2)else 0
def Ik (r:Nat):Bool:=decide (32<=r/\r≠34/\r≠92)
def Gi (z:Nat):List (Nat×Nat)->Nat
 | []=>z
 |x::r=>if Ik x.2=true then Gi (x.1+(Lib.encodeRune (x.2:Int)).length) r else x.1
theorem Adu {r:Nat} (h:D0 r):Lib.runeLen (r:Int)=((Lib.encodeRune (r:Int)).length:Nat):=by
 unfold D0 at h;unfold Lib.encodeRune Lib.runeLen;rw[List.length_map];by_cases a:r<=127
 . rw[Lib.encodeRuneZ_one (by omega) (by omega),if_neg (by omega),if_pos (by omega)];rfl
 by_cases b:r<=2047
 . rw[Lib.encodeRuneZ_two (by omega) (by omega),if_neg (by omega),if_neg (by omega),if_pos (by omega)];rfl
 by_cases c:r<=65535
 . rw[Lib.encodeRuneZ_three (by omega),if_neg (by omega),if_neg (by omega),if_neg (by omega),if_neg (by omega),if_pos (by omega)];rfl
 . rw[Lib.encodeRuneZ_four (by omega) (by omega),if_neg (by omega),if_neg (by omega),if_neg (by omega),if_neg (by omega),if_neg (by omega),if_pos (by omega)];rfl
theorem Re: ∀(n:Nat) (l:List UInt8) (p:Nat),Gi p (Au n l p)=p+Et n l
 |0,l,p=>by simp[Au,Gi,Et]
 |n+1,l,p=>by
  simp only[Au,Et];by_cases a:l= []
  . rw[if_pos a,if_pos a];rfl
  rw[if_neg a,if_neg a];by_cases b:(Lib.decodeL l).1=65533/\(Lib.decodeL l).2=1
  . rw[if_pos b,if_pos b];rfl
  rw[if_neg b,if_neg b];simp only[Gi];by_cases c:32<=(Lib.decodeL l).1/\(Lib.decodeL l).1≠34/\(Lib.decodeL l).1≠92
  . have e:Ik (Lib.decodeL l).1=true:=by unfold Ik;exact decide_eq_true c
    have d:(Lib.encodeRune ((Lib.decodeL l).1:Int)).length=(Lib.decodeL l).2:=by
     rw[Lib.encode_decode l a b,List.length_take];have:=Lib.decodeL_le l a;omega
    rw[if_pos e,if_pos c,d,Re n _ _];omega
  . have e:Ik (Lib.decodeL l).1=false:=by unfold Ik;exact decide_eq_false c
    rw[e,if_neg (by decide),if_neg c];rfl
theorem Wg: ∀(n:Nat) (l:List UInt8),Et n l<=l.length
 |0,l=>Nat.zero_le _
 |n+1,l=>by
  simp only[Et]
  split
  . exact Nat.zero_le _
  rename_i a
  split
  . exact Nat.zero_le _
  split
  . have:=Lib.decodeL_le l a;have b:=Wg n (l.drop (Lib.decodeL l).2);rw[List.length_drop]at b;omega
  . exact Nat.zero_le _
def Yr:List (Nat×Nat)->Nat
 | []=>0
 |x::r=>match r with
  | []=>x.1+(Lib.encodeRune (x.2:Int)).length
  |y::r'=>Yr (y::r')
theorem Ag7 (l:List (Nat×Nat)) (x:Nat×Nat):Yr (l++ [x])=x.1+(Lib.encodeRune (x.2:Int)).length:=by
 induction l with
 |nil=>rfl
 |cons a l ih=>
  cases l with
  |nil=>rfl
  |cons b l=>exact ih
theorem Od: ∀(l r:List (Nat×Nat)) (z:Nat),(∀x ∈ l,Ik x.2=true)->Gi z (l++r)=Gi (if l= []then z else Yr l) r
 | [],r,z,_=>by simp
 |a::l,r,z,h=>by
  rw[List.cons_append,Gi,if_pos (h a (by simp)),Od l r _ (fun x c=>h x (by simp[c]))]
  cases l with
  |nil=>rfl
  |cons b l=>rfl
theorem Pn: ∀(n:Nat) (l:List UInt8) (p:Nat),∀x ∈ Au n l p,x.1+(Lib.encodeRune (x.2:Int)).length<=p+l.length
 |0,_,_,x,a=>by simp[Au]at a
 |n+1,l,p,x,a=>by
  simp only[Au]at a
  split at a
  . cases a
  rename_i b
  split at a
  . cases a
  rename_i c;have d:=Lib.decodeL_le l b;rcases List.mem_cons.1 a with rfl|a
  . simp only;rw[Lib.encode_decode l b c,List.length_take];omega
  . have:=Pn n _ _ x a;rw[List.length_drop]at this;omega
def PI (s:ByteArray) (w:World) (d:Nat) (pre:List (Nat×Nat)) (W:World):Prop:=
 Below w.heap.size w W/\Ap W w.heap.size 3 #[.int .i64 0]/\Ap W (w.heap.size+1) 3 #[.int .i64 (Yr pre)]/\(∀x ∈ pre,Ik x.2=true)/\W.heap[d]? =some (.cells #[.string s] 9 (0,0))
def PX (w:World) (v:Nat) (W:World):Prop:=Below w.heap.size w W/\Ap W w.heap.size 3 #[.int .i64 v]
theorem Oz {A:World} {g k:Nat} {t:TypeId} {cs:Array Value} {o o':Obj} (h:Ap A g t cs) (a:A.heap[k]? =some o) (b:o.isCells=false):Ap (A.putObj k o') g t cs:=by
 by_cases e:g=k
 . subst e;unfold Ap at h;rw[h]at a
   cases a
   cases b
 . exact(World.putObj_heap_other e).trans h
theorem Mp {B:Nat} {a A:World} {k:Nat} (h:Below B a A) (b:B<=A.heap.size) (c:B<=k) (o':Obj):Below B a (A.putObj k o'):=h.grown (grownBy_putObj' A k o') b (fun j e=>by cases e;exact c)
theorem Aau (s:ByteArray) (w:World) (hT:Cj w) (hs:s.size<=1000000000):
 Calls Tryz.prog 319 #[.string s] w fun e w'=>e=.returned (.int .i64 (Et s.size s.data.toList:Nat))/\Below w.heap.size w w':=by
 have y:Gi 0 (Bw s)=Et s.size s.data.toList:=by
  unfold Bw;rw[Re];omega
 rw[<-y];have af: ∀pre x rest,Bw s=pre++x::rest->D0 x.2/\x.1+(Lib.encodeRune (x.2:Int)).length<=s.size:=by
  intro pre x rest h;have hm:x ∈ Au s.size s.data.toList 0:=by show x ∈ Bw s;rw[h];simp
  refine⟨Fw _ _ _ x hm, ?_⟩;have:=Pn s.size s.data.toList 0 x hm
  rwa [Ac,Nat.zero_add]at this
 refine(callsIn_wide (n:=12)).1 ?_;refine callsIn_of_wp_marks Tryz.func319 rfl trivial ?_ rfl;simp only[Tryz.ntmps319,List.size_toArray,List.length_cons,List.length_nil,Nat.reduceAdd,Nat.reduceSub,Array.replicate_succ,Array.replicate_zero,List.push_toArray,List.append_toArray,List.nil_append,List.cons_append];have ag:=qz (((Ap.new w 3 #[.int .i64 0]).alloc (.cells #[.int .i64 0] 3)).alloc (.cells #[.string s] 9));have P:=(Ap.new (w.alloc (.cells #[.int .i64 0] 3)) 3 #[.int .i64 0]).alloc (.cells #[.string s] 9);rw[World.size_alloc]at P;have ac:=qz ((((Below.refl w.heap.size w).alloc (Nat.le_refl _) (.cells #[.int .i64 0] 3)).alloc (by simp) (.cells #[.int .i64 0] 3)).alloc (by simp;omega) (.cells #[.string s] 9));have C:=heap_alloc_new ((w.alloc (.cells #[.int .i64 0] 3)).alloc (.cells #[.int .i64 0] 3)) (.cells #[.string s] 9);have O:((w.alloc (.cells #[.int .i64 0] 3)).alloc (.cells #[.int .i64 0] 3)).heap.size=w.heap.size+2:=by simp
 rw[O]at C;obtain⟨ah,ak,R,al⟩:=hid4 P y C O;clear P y C O
 gi_wp2_with (refine⟨trivial, ?_⟩;gi_at_call 267;refine(callsIn_wide.2 (Qs _ _)).mono ?_;rintro e D ⟨rfl,rfl⟩)
 have an:(((w.alloc (.cells #[.int .i64 0] 3)).alloc (.cells #[.int .i64 0] 3)).alloc (.cells #[.string s] 9)).heap.size=w.heap.size+3:=by simp
 generalize ((w.alloc (.cells #[.int .i64 0] 3)).alloc (.cells #[.int .i64 0] 3)).alloc (.cells #[.string s] 9)=D at*
 have U:=Abb s (w.heap.size+2) hs;refine Vi (n:=10) (gf:=311) (lb:= #[.pointer (some ⟨w.heap.size+2,0,none⟩)]) rfl (enters_of Tryz.func311 (by kernel_rfl) rfl) U (fun _=>rfl)
  (fun pre W=>PI s w (w.heap.size+2) pre W/\w.heap.size+3<=W.heap.size) (fun W=>PX w (Gi 0 (Bw s)) W/\w.heap.size+3<=W.heap.size) ?hIn ?hXn ?hXp ?hIp ?hIb ?h0 ?a1 ?assign ?body ?stop ?done
 case assign=>
  intro l x W K hK
  gi_wp2
  exact hK
 case h0=>exact⟨⟨ac.out,ag.out,ah.out,fun x I=>(by cases I),R.out⟩,by omega⟩
 case hIb=>
  rintro pre A ⟨⟨b,_,_,_,i⟩,_⟩;exact⟨(Lib.cell_of_heap i 0).trans rfl,hT.below b⟩
 case hIn=>
  rintro pre A B ⟨⟨b,c,g,i,q⟩,u⟩ F;exact⟨⟨b.trans (F.mono b.size),c.below F c.lt,g.below F g.lt,i,(F.block _ (Array.getElem?_eq_some_iff.1 q).1).trans q⟩,Nat.le_trans u F.size⟩
 case hXn=>
  rintro A B ⟨⟨b,c⟩,u⟩ F;exact⟨⟨b.trans (F.mono b.size),c.below F c.lt⟩,Nat.le_trans u F.size⟩
 case hXp=>
  rintro A k o o' ⟨⟨b,c⟩,u⟩ X V hk;exact⟨⟨Mp b b.size (by omega) _,Oz c X V⟩,by simpa using u⟩
 case hIp=>
  rintro pre A k o o' ⟨⟨b,c,g,i,q⟩,u⟩ X V hk;exact⟨⟨Mp b b.size (by omega) _,Oz c X V,Oz g X V,i,(World.putObj_heap_other (by omega)).trans q⟩,by simpa using u⟩
 case body=>
  rintro l pre ⟨p,r⟩ rest W I ⟨⟨b,c,g,i,q⟩,u⟩ ⟨ds,f⟩ ⟨rc,G⟩;obtain⟨T,S⟩:=af pre (p,r) rest I;simp only at T S;have c0:=c.cell 0;have c1:=g.cell 0;have f0:=c.frozen 0;have f1:=g.frozen 0;have aj:=c.lt;have am:=g.lt
  cases hB:Ik r with
  |true=>
   have N:decide (32<=(r:Int)/\(r:Int)≠34/\(r:Int)≠92)=true:=by
    unfold Ik at hB;rw[decide_eq_true_eq]at hB ⊢;omega
   have E:=fun W=>Tryz.utf8_RuneLen (r:Int) W;rw[Adu T]at E;have m: ∀(a:Act),Xq (fun W=>PI s w (w.heap.size+2) (pre++ [(p,r)]) W/\w.heap.size+3<=W.heap.size) (fun W=>PX w (Gi 0 (Bw s)) W/\w.heap.size+3<=W.heap.size) D.heap.size W .normal a (W.setCell ⟨w.heap.size+1,0,none⟩ (.int .i64 ((p:Int)+((Lib.encodeRune (r:Int)).length:Nat)))):=by
    intro a;refine⟨Below.heap_setCell _ _ _ _ (by show D.heap.size≠w.heap.size+1;omega),Below.heap_setCell _ _ _ _ (by show D.heap.size+1≠w.heap.size+1;omega),⟨b.setCell (p:=⟨w.heap.size+1,0,none⟩) (by show w.heap.size<=w.heap.size+1;omega) _,c.far (by show w.heap.size≠w.heap.size+1;omega) _, ?_, ?_,(Below.heap_setCell _ _ _ _ (by show w.heap.size+2≠w.heap.size+1;omega)).trans q⟩,by simpa[World.setCell]using u⟩
    . have:=g.set_ 0 (.int .i64 ((p:Int)+((Lib.encodeRune (r:Int)).length:Nat)));rw[Ag7];simpa using this
    . intro x t;rcases List.mem_append.1 t with t|t
      . exact i x t
      . simp only[List.mem_singleton]at t;rw[t];exact hB
   generalize (Lib.encodeRune (r:Int)).length=n at E S m;obtain⟨ab,L,Y,Z,H3,H4,H5,Hx,ad,ae⟩:=hid10 E m b c g i q I f G;clear E m b c g i q I f G;clear hB
   gi_wp2_with (first|(refine⟨trivial, ?_⟩;gi_at_call 268;refine(CallsIn.inRound l (callsIn_wide.2 (C6 N _))).mono ?_;rintro e wx ⟨rfl,rfl⟩)|(refine⟨trivial, ?_⟩;gi_at_call 349;refine(CallsIn.inRound l (callsIn_wide.2 (ab.out _))).mono ?_;rintro e wx ⟨rfl,rfl⟩))
   exact L.out _
  |false=>
   have N:decide (32<=(r:Int)/\(r:Int)≠34/\(r:Int)≠92)=false:=by
    unfold Ik at hB;rw[decide_eq_false_iff_not]at hB ⊢;omega
   have d:Gi 0 (Bw s)=p:=by
    rw[I,Od _ _ _ i,Gi,hB,if_neg (by decide)]
   have z: ∀(a:Act),Xq (fun W=>PI s w (w.heap.size+2) (pre++ [(p,r)]) W/\w.heap.size+3<=W.heap.size) (fun W=>PX w (Gi 0 (Bw s)) W/\w.heap.size+3<=W.heap.size) D.heap.size W .ret a (W.setCell ⟨w.heap.size,0,none⟩ (.int .i64 (p:Int))):=by
    intro a;refine⟨Below.heap_setCell _ _ _ _ (by show D.heap.size≠w.heap.size;omega),Below.heap_setCell _ _ _ _ (by show D.heap.size+1≠w.heap.size;omega),⟨b.setCell (p:=⟨w.heap.size,0,none⟩) (Nat.le_refl _) _, ?_⟩,by simpa[World.setCell]using u⟩;have:=c.set_ 0 (.int .i64 (p:Int));rw[d];exact this
   obtain⟨M,Y,Z,H3,H4,H5,Hx,ad,ae,H⟩:=hid10 z b c g i q I f G d;clear z b c g i q I f G d;clear hB
   gi_wp2_with (refine⟨trivial, ?_⟩;gi_at_call 268;refine(CallsIn.inRound l (callsIn_wide.2 (C6 N _))).mono ?_;rintro e wx ⟨rfl,rfl⟩)
   exact M.out _
 case stop=>
  rintro W ⟨⟨b,c⟩,u⟩ f;have j:=Oz c f rfl (o':=.deferred none);have c0:=j.cell 0;have J:=qz (Mp b b.size (k:=D.heap.size) (by omega) (.deferred none));obtain⟨Y,Z,aa⟩:=hid3 b c j;clear b c j
  gi_wp2
  refine⟨by simp,.inl ⟨_,_,rfl,run_takeDeferred f, ?_⟩⟩;refine⟨.int .i64 (Gi 0 (Bw s):Nat), ?_,rfl,J.out⟩;simp[results,Tryz.results319,go_sem,c0]
 case done=>
  rintro W ⟨⟨b,c,g,i,q⟩,u⟩ f;have d:Gi 0 (Bw s)=Yr (Bw s):=by
   have:=Od (Bw s) [] 0 i;rw[List.append_nil]at this;rw[this]
   split
   . rename_i e;rw[e];rfl
   . rfl
  have c0:=c.cell 0;have c1:=g.cell 0;have f0:=c.frozen 0;have aj:=c.lt;have v:=(Below.heap_setCell W ⟨w.heap.size,0,none⟩ (.int .i64 (Yr (Bw s):Nat)) D.heap.size (by show D.heap.size≠w.heap.size;omega)).trans f;have j:=Oz (c.set_ 0 (.int .i64 (Yr (Bw s):Nat))) v rfl (o':=.deferred none);have ai:=j.cell 0;have J:=qz (Mp (b.setCell (p:=⟨w.heap.size,0,none⟩) (Nat.le_refl _) (.int .i64 (Yr (Bw s):Nat))) (by simpa[World.setCell]using b.size) (k:=D.heap.size) (by omega) (.deferred none));obtain⟨Y,Z,H3,H4,H5,aa,H,Q⟩:=hid8 b c g i q j d v;clear b c g i q j d v
  gi_wp2
  refine⟨by simp,.inl ⟨_,_,rfl,run_takeDeferred Q.out, ?_⟩⟩;refine⟨.int .i64 (Yr (Bw s):Nat), ?_,by rw[H.out],J.out⟩;simp[results,Tryz.results319,go_sem,ai]
theorem Afh {c:UInt8} (h:c.toNat<128) (l:List UInt8):Lib.decodeL (c::l)=(c.toNat,1):=by
 rw[C5];unfold Lib.decodeN;rw[if_pos (by simpa using h)];simp
theorem Rn {c:UInt8} {l:List UInt8} (g: ¬((Lib.decodeL (c::l)).1=65533/\(Lib.decodeL (c::l)).2=1)):(32<=(Lib.decodeL (c::l)).1/\(Lib.decodeL (c::l)).1≠34/\(Lib.decodeL (c::l)).1≠92) ↔ (¬c.toNat<32/\c≠34/\c≠92):=by
 by_cases h:c.toNat<128
 . rw[Afh h];have a:c=34 ↔ c.toNat=34:=⟨fun e=>by rw[e];rfl,fun e=>UInt8.toNat_inj.1 e⟩;have b:c=92 ↔ c.toNat=92:=⟨fun e=>by rw[e];rfl,fun e=>UInt8.toNat_inj.1 e⟩;simp only[ne_eq,a,b];omega
 . have o:128<=(Lib.decodeL (c::l)).1:=by
    have j:=Lib.encode_decode (c::l) (by simp) g;have m:=N0 (l:=c::l) (by simp) g;have p:=Lib.decodeL_width (c::l);have i:c ∈ Lib.encodeRune ((Lib.decodeL (c::l)).1:Int):=by
     rw[j];obtain⟨n,k⟩: ∃n,(Lib.decodeL (c::l)).2=n+1:=⟨(Lib.decodeL (c::l)).2 - 1,by omega⟩;rw[k];simp
    have:=Je m c i;omega
   have d:c≠34:=by rintro rfl;exact h (by decide)
   have f:c≠92:=by rintro rfl;exact h (by decide)
   exact⟨fun _=>⟨by omega,d,f⟩,fun _=>⟨by omega,by omega,by omega⟩⟩
theorem Acb {s:List UInt8} {i:Nat} (h:i<s.length): ∃c,s[i]? =some c/\s.drop i=c::s.drop (i+1):=by
 refine⟨s[i],List.getElem?_eq_getElem h,List.drop_eq_getElem_cons h⟩
theorem Wh: ∀(n f:Nat) (s:List UInt8) (i:Nat) (out:List UInt8),i<=s.length->s.length - i<f->
 ∃h,s.length - (i+Et n (s.drop i))<h/\Fg f s i out=Fg h s (i+Et n (s.drop i)) (out++(s.drop i).take (Et n (s.drop i)))
 |0,f,s,i,out,hi,hf=>⟨f,by simpa[Et]using hf,by simp[Et]⟩
 |n+1,f,s,i,out,hi,hf=>by
  by_cases d:i<s.length;rotate_left
  . have e:s.drop i= []:=List.drop_eq_nil_of_le (by omega);refine⟨f, ?_, ?_⟩<;>simp[Et,e]
    omega
  obtain⟨c,t,k⟩:=Acb d;have m:s.drop i≠ []:=by rw[k];simp
  simp only[Et];rw[if_neg m];by_cases b:(Lib.decodeL (s.drop i)).1=65533/\(Lib.decodeL (s.drop i)).2=1
  . rw[if_pos b];exact⟨f,by simpa using hf,by simp⟩
  rw[if_neg b];by_cases j:32<=(Lib.decodeL (s.drop i)).1/\(Lib.decodeL (s.drop i)).1≠34/\(Lib.decodeL (s.drop i)).1≠92;rotate_left
  . rw[if_neg j];exact⟨f,by simpa using hf,by simp⟩
  rw[if_pos j];have q:=j;rw[k]at q b;have a:=(Rn b).1 q;rw[<-k]at b;obtain⟨f,rfl⟩: ∃g,f=g+1:=⟨f - 1,by omega⟩;have u:=Lib.decodeL_width (s.drop i);have l:=Acd d;have r:Fg (f+1) s i out=Fg f s (i+(Lib.decodeL (s.drop i)).2) (out++(s.drop i).take (Lib.decodeL (s.drop i)).2):=by
   conv=>lhs;unfold Fg
   rw[t];simp only;rw[if_neg a.2.1,if_neg a.1,if_neg a.2.2,if_neg b]
  obtain⟨h,o,p⟩:=Wh n f s (i+(Lib.decodeL (s.drop i)).2) (out++(s.drop i).take (Lib.decodeL (s.drop i)).2) l (by omega);rw[<-List.drop_drop]at o p;refine⟨h,by rw[<-Nat.add_assoc];exact o, ?_⟩;rw[r,p,<-Nat.add_assoc,List.append_assoc,List.take_add]
theorem Ade {n f:Nat} {s:List UInt8} {i:Nat} {out:List UInt8} {c:UInt8} (m:s[i]? =some c) (d:c≠34) (e:c≠92) (g:Et (n+1) (s.drop i)=0):Fg (f+1) s i out=.bad (if c.toNat<32 then 4 else 3) i:=by
 have j:=Ep m;have k:s.drop i≠ []:=by rw[j];simp
 simp only[Et]at g;rw[if_neg k]at g;unfold Fg;rw[m];simp only;rw[if_neg d];by_cases a:c.toNat<32
 . rw[if_pos a,if_pos a]
 rw[if_neg a,if_neg e,if_neg a];by_cases h:(Lib.decodeL (s.drop i)).1=65533/\(Lib.decodeL (s.drop i)).2=1
 . rw[if_pos h]
 rw[if_neg h]at g;have b:=h;rw[j]at b;have l:=(Rn b).2 ⟨a,d,e⟩;rw[<-j]at l;rw[if_pos l]at g;have:=Lib.decodeL_width (s.drop i);omega
theorem Aig {l:List UInt8} {e:Int} {q:Nat} (h:E5 l=.bad e q):e=3\/e=4:=by
 unfold E5 Fp Qb at h
 repeat' split at h
 all_goals first|(simp only[Rd.bad.injEq]at h;omega)|cases h
def Ql (r:Rd (List UInt8)):Value:=match r with
 | .ok a q=> .tuple #[.string ⟨a.toArray⟩,.int .i64 (q:Nat),.int .i64 0]
 | .bad e q=> .tuple #[.string ⟨#[]⟩,.int .i64 (q:Nat),.int .i64 e]
theorem Uq {B g:Nat} {c:List UInt8} {w:World} (h:BB w B g c):Calls Tryz.prog 54 #[.pointer (some ⟨g,0,none⟩)] w fun e w'=>e=.returned (.string ⟨c.toArray⟩)/\Below B w w':=by
 obtain⟨p,v,k,d,m,_,h0,v',j,a⟩:=h;simp only[Nat.zero_add]at j;have n:v'=v:=by simpa using j.symm
 subst n;have l:g<w.heap.size:=(Array.getElem?_eq_some_iff.1 d).1;refine Tryz.Builder_String_any B g c w ?_ (by omega);have f:=Lib.ownBlock_ne a d m;have b: ∀i,p=i->Lib.BuilderAt 114 5 B g i (Lib.byteCells c) w:=fun i e=>by
  subst e;exact⟨k,v',d,by have:=a;simpa[Lib.byteCells]using this,f⟩
 rcases h0 with h0|h0
 . exact .inl (b _ (by simpa using h0))
 . exact .inr (b _ (by simpa using h0))
def Al6 (W:World) (b:Nat) (m:Option Nat):Prop:= ∀mb,m=some mb->b<mb/\W.heap[mb]? =some (.map (Iz Dv 0).toArray Dv.length)
def UI (s:ByteArray) (w:World) (RES:Rd (List UInt8)) (i:Nat) (m:Option Nat) (wr:World):Prop:=
 ∃out f,Below w.heap.size w wr/\BB wr w.heap.size w.heap.size out/\Al6 wr w.heap.size m/\Fg f s.data.toList i out=RES/\s.size - i<f/\out.length<=i
theorem Zu {s:ByteArray} (i:Nat):(s.extract i s.size).data.toList=s.data.toList.drop i:=by
 rw[Lib.extract_data];exact List.take_of_length_le (by rw[List.length_drop,Ac];omega)
theorem Ag6 (s:ByteArray) (k:Nat) (w:World) (hT:Cj w) (hs:s.size<=1000000000) (hk:k<=s.size):
 Calls Tryz.prog 277 #[.string s,.int .i64 k] w fun e w'=>e=.returned (Ql (Cs s.data.toList k))/\Below w.heap.size w w':=by
 have O:=Ac s;have n0: ¬((k:Int)<0):=by omega
 have n1: ¬((s.size:Int)<(k:Int)):=by omega
 by_cases Q:k<s.size;rotate_left
 . obtain rfl:k=s.size:=by omega
   have e:Cs s.data.toList s.size=.bad 4 s.size:=by unfold Cs;rw[if_neg (by rw[List.getElem?_eq_none (by omega)];simp)]
   rw[e];simp only[Ql];clear e O;have HT:=qz hT;clear hT n1 Q;go_enter Tryz.func277,Tryz.ntmps277;go_wp2
   go_step3
   go_wp2;rw[Exit.noGoto_ret];exact bodyPost_ret (Ar rfl _ _ _) rfl ⟨rfl,Below.refl _ _⟩
 obtain⟨c,hc⟩: ∃c,s[k]=c:=⟨_,rfl⟩;have N:s.data.toList[k]? =some c:=by rw[Bc s Q,hc]
 have aw:=Bl c;have ne: ∀(c:UInt8) (n:Nat),n<256->c≠UInt8.ofNat n->((c.toNat:Int)==(n:Int))=false:=fun c n hn h=>by rw[Ie hn];simpa using h
 have e1:((k:Int)==(s.size:Int))=false:=by rw[beq_eq_false_iff_ne];omega
 by_cases x:c=34;rotate_left
 . have e:Cs s.data.toList k=.bad 4 k:=by unfold Cs;rw[if_neg (by rw[N];simpa using x)]
   rw[e];have e2:=ne c 34 (by decide) x;simp only[Ql];clear e O N ne x;have HT:=qz hT;clear hT;go_enter Tryz.func277,Tryz.ntmps277;go_wp2
   go_step3
   go_wp2;rw[Exit.noGoto_ret];exact bodyPost_ret (Ar rfl _ _ _) rfl ⟨rfl,Below.refl _ _⟩
 subst x;obtain⟨v,M⟩: ∃R,Cs s.data.toList k=R:=⟨_,rfl⟩;rw[M];have hF:Fg (s.data.toList.length - k) s.data.toList (k+1) []=v:=by
  rw[<-M];unfold Cs;rw[if_pos N]
 have af:BB (w.alloc (.cells #[.pointer none,.slice none 0 0] 114)) w.heap.size w.heap.size []:=
  ⟨_,_,Nat.le_refl _,heap_alloc_new _ _,by decide,by simp,.inl rfl,.slice none 0 0,rfl,World.ownsRow_nil _ _ _ _⟩
 have H0:Hid (UI s w v (k+1) none (w.alloc (.cells #[.pointer none,.slice none 0 0] 114))):=⟨[],_,Aa _ _,af,fun A e=>(by cases e),hF,by omega,by simp⟩;clear M hF af N O;have d0:decide ((k:Int)<0)=false:=decide_eq_false (by omega);have d1:decide (s.size<k)=false:=decide_eq_false (by omega);clear n0 n1;obtain⟨HT,Ne⟩:=hid2 hT ne;clear hT ne;go_enter Tryz.func277,Tryz.ntmps277;go_wp2
 go_step3
 go_wp2
 go_step3
 go_wp2;go_loopw [7,9] (fun m i wr=> ∃(j:Nat) (mm:Option Nat),m=.map mm/\i=.int .i64 j/\j<=s.size/\Hid (UI s w v j mm wr)) (fun _ i _=>s.size - (intOf i).toNat)
 case atStart=>exact⟨k+1,none,rfl,by go_num,by omega,H0⟩
 case round=>
  obtain⟨j,mm,rfl,rfl,hj,L⟩:=hrel;clear H0 e1 hc d0 d1;clear Q hk;by_cases Q:j<s.size
  . obtain⟨c,hc⟩: ∃c,s[j]=c:=⟨_,rfl⟩;have N:s.data.toList[j]? =some c:=by rw[Bc s Q,hc]
    have aw:=Bl c;have e1:((j:Int)==(s.size:Int))=false:=by rw[beq_eq_false_iff_ne];omega
    by_cases x:c=34
    . subst x;obtain⟨out,f,d,l,t,o,h5,h6⟩:=L.out;obtain⟨f,rfl⟩: ∃g,f=g+1:=⟨f - 1,by omega⟩;have y:v=.ok out (j+1):=by
       rw[<-o];unfold Fg;rw[N];simp
      have HS:=qz (Uq l);obtain⟨H,Y,Z,H4,I⟩:=hid5 d l t o y;clear d l t o y;clear L N;go_wp2_with (fail);(with_reducible refine(HS.out).mono ?_);rintro e S ⟨rfl,B⟩;have hB:=qz (H.out.trans B);clear B;go_wp2
      try rw[Exit.noGoto_ret]
      exact bodyPost_ret (Ar rfl _ _ _) rfl ⟨by rw[I.out];rfl,hB.out⟩
    have a8:=Ne.out c 34 (by decide) x;by_cases U:c=92
    . subst U;obtain⟨out,f,d,l,t,o,h5,h6⟩:=L.out;obtain⟨f,rfl⟩: ∃g,f=g+1:=⟨f - 1,by omega⟩;have y:v=match E5 (s.data.toList.drop j)with
       | .bad e _=> .bad e j
       | .ok r n=>Fg f s.data.toList (j+n) (out++Lib.encodeRune (r:Int)):=by
       rw[<-o]
       conv=>lhs;unfold Fg
       rw[N];simp only;rw[if_neg (by decide),if_neg (by decide),if_pos trivial];rfl
      have C:=Zu (s:=s) j;have ai:(s.extract j s.size).size<=1000000000:=by rw[ByteArray.size_extract];omega
      have T:=fun(A:Nat) (W:World) hm=>Xl (s.extract j s.size) A W ai hm;rw[C]at T;have u: ∀r n,E5 (s.data.toList.drop j)=.ok r n->r<=1114111/\2<=n/\j+n<=s.size/\(Lib.encodeRune (r:Int)).length<=n:=fun r n e=>by
       have a1:=Ms e;have a2:=S8 e;rw[List.length_drop,Ac]at a1;exact⟨a1.1,a1.2.2.1,by omega,a2⟩
      have a: ∀e q,E5 (s.data.toList.drop j)=.bad e q->e=3\/e=4:=fun e q h=>Aig h;clear C ai N x;generalize E5 (s.data.toList.drop j)=X at T y u a;have a6:=fun(wx:World) (m0:Option Nat)=>run_eql_map_nil (P:=Tryz.prog) wx 336 _ _ m0 Tryz.underlying336;have key: ∀(W:World) (A:Nat),Below w.heap.size w W->BB W w.heap.size w.heap.size out->w.heap.size<A->W.heap[A]? =some (.map (Iz Dv 0).toArray Dv.length)-> ∀r n,X=.ok r n->
       Calls Tryz.prog 318 #[.string (s.extract j s.size),.map (some A)] W (fun e G=>e=.returned (Rx X)/\W=G)/\
       (Calls Tryz.prog 269 #[.pointer (some ⟨w.heap.size,0,none⟩),.int .i32 r] W fun e G=>(∃k:Int,e=.returned (.tuple #[.int .i64 k,.nilIface]))/\UI s w v (j+n) (some A) G):=by
       intro W A a1 a2 a3 a4 r n e;refine⟨T A W a4, ?_⟩;obtain⟨b1,b2,b3,b4⟩:=u r n e;refine(Jd (r:Int) (by omega) (by omega) a2 (by omega)).mono ?_;rintro e' G ⟨ax,au,av,ay⟩;refine⟨ax,out++Lib.encodeRune (r:Int),f,a1.trans av,au,fun bb e2=> ?_, ?_,by omega,by rw[List.length_append];omega⟩
       . cases e2
         exact⟨a3,ay _ _ a4 (by simp;omega) (fun c fz e=>by cases e)⟩
       . rw[y,e]
      have V: ∀W,Calls Tryz.prog 317 #[] W fun e w'=>e=.returned (.map (some W.heap.size))/\W.alloc (.map (Iz Dv 0).toArray Dv.length)=w':=fun W=>Yk W;have an:=d.size
      cases X with
      |bad e0 q0=>
       simp only[Rx]at T y;have ba:(e0 != 0)=true:=by
        rcases a e0 q0 rfl with rfl|rfl<;>decide
       rcases mm with _|A
       . have hm:=heap_alloc_new wr (.map (Iz Dv 0).toArray Dv.length);have aa:=qz (T wr.heap.size _ hm);have aq:=qz (d.alloc an (.map (Iz Dv 0).toArray Dv.length));obtain⟨HU,H,Y,Z,H4,I,ad,ac,Hm,K⟩:=hid10 V d l t o y key u hm a;clear V d l t o y key u hm a;clear L T;go_wp2_with (fail);(with_reducible refine(HU.out _).mono ?_);rintro e S ⟨rfl,rfl⟩;go_wp2_with (fail);(with_reducible refine(aa.out).mono ?_);rintro e S ⟨rfl,rfl⟩;go_wp2
         try rw[Exit.noGoto_ret]
         exact bodyPost_ret (Ar rfl _ _ _) rfl ⟨by rw[I.out];rfl,aq.out⟩
       . have ag:=T A _ (t A rfl).2;obtain⟨aa,HU,H,Y,Z,H4,I,ad,ac,K⟩:=hid10 ag V d l t o y key u a;clear ag V d l t o y key u a;clear L T;go_wp2_with (fail);(with_reducible refine(aa.out).mono ?_);rintro e S ⟨rfl,rfl⟩;go_wp2
         try rw[Exit.noGoto_ret]
         exact bodyPost_ret (Ar rfl _ _ _) rfl ⟨by rw[I.out];rfl,H.out⟩
      |ok r n=>
       obtain⟨b1,b2,b3,b4⟩:=u r n rfl;rcases mm with _|A
       . obtain⟨k1,k2⟩:=key (wr.alloc (.map (Iz Dv 0).toArray Dv.length)) wr.heap.size (d.alloc an _) (l.below (Aa _ _)) l.lt (heap_alloc_new wr _) r n rfl;simp only[Rx]at k1;obtain⟨HU,H,Y,Z,H4,I,ad,ac,K1,K2,K⟩:=hid11 V d l t o y key u k1 k2 a;clear V d l t o y key u k1 k2 a;clear L T;go_wp2_with (fail);(with_reducible refine(HU.out _).mono ?_);rintro e S ⟨rfl,rfl⟩;go_wp2_with (fail);(with_reducible refine(K1.out).mono ?_);rintro e S ⟨rfl,rfl⟩;go_wp2_with (fail);(with_reducible refine(K2.out).mono ?_);rintro e S ⟨⟨z,rfl⟩,D⟩;have J:=qz D;clear D;go_wp2;go_roundw
         case rel=>exact⟨j+n,_,rfl,by go_num,by omega,J⟩
         case measure=>simp[intOf];omega
       . obtain⟨k1,k2⟩:=key wr A d l (t A rfl).1 (t A rfl).2 r n rfl;simp only[Rx]at k1;obtain⟨HU,H,Y,Z,H4,I,ad,ac,K1,K2,K⟩:=hid11 V d l t o y key u k1 k2 a;clear V d l t o y key u k1 k2 a;clear L T;go_wp2_with (fail);(with_reducible refine(K1.out).mono ?_);rintro e S ⟨rfl,rfl⟩;go_wp2_with (fail);(with_reducible refine(K2.out).mono ?_);rintro e S ⟨⟨z,rfl⟩,D⟩;have J:=qz D;clear D;go_wp2;go_roundw
         case rel=>exact⟨j+n,_,rfl,by go_num,by omega,J⟩
         case measure=>simp[intOf];omega
    ·
     have a9:=Ne.out c 92 (by decide) U;obtain⟨out,f,d,l,t,o,h5,h6⟩:=L.out;have C:=Zu (s:=s) j;have am:(s.extract j s.size).size=s.size - j:=by rw[ByteArray.size_extract];omega
     have hP:=Aau (s.extract j s.size) wr (HT.out.below d) (by omega);rw[C,am]at hP;obtain⟨nn,ak⟩: ∃nn,s.size - j=nn+1:=⟨s.size - j - 1,by omega⟩;have aj:=Wg (s.size - j) (s.data.toList.drop j);rw[List.length_drop,Ac]at aj;obtain⟨f',q1,q2⟩:=Wh (s.size - j) f s.data.toList j out (by rw[Ac];omega) (by rw[Ac];omega);rw[Ac]at q1;have b:Et (s.size - j) (s.data.toList.drop j)=0->v=.bad (if c.toNat<32 then 4 else 3) j:=fun e=>by
      obtain⟨g,rfl⟩: ∃g,f=g+1:=⟨f - 1,by omega⟩;rw[ak]at e;rw[<-o,Ade N x U e]
     generalize a5:Et (s.size - j) (s.data.toList.drop j)=p at hP aj q1 q2 b;clear C am ak N x U L a5;by_cases a0:p=0
     . subst a0;have y:=b rfl;have hW:=fun W=>Va c W;have t0:((0:Int)==0)=true:=rfl;generalize (if c.toNat<32 then(4:Int)else 3)=E at hW y;obtain⟨HP,H,Y,Z,H4,I,HW,Q2,ab⟩:=hid9 hP d l t o y hW q2 b;clear hP d l t o y hW q2 b;go_wp2_with (fail);(with_reducible refine(HP.out).mono ?_);rintro e S ⟨rfl,B⟩;have hB:=qz (H.out.trans (B.mono H.out.size));clear B;go_wp2_with (fail);(with_reducible refine(HW.out _).mono ?_);rintro e w3 ⟨rfl,rfl⟩;go_wp2
       try rw[Exit.noGoto_ret]
       exact bodyPost_ret (Ar rfl _ _ _) rfl ⟨by rw[I.out];rfl,hB.out⟩
     . have t0:((p:Int)==0)=false:=by rw[beq_eq_false_iff_ne];omega
       have ae:(s.extract j (j+p)).data.toList=(s.data.toList.drop j).take p:=by rw[Lib.extract_data];congr 1;omega
       have al:(s.extract j (j+p)).size=p:=by rw[ByteArray.size_extract];omega
       have F: ∀W G,Below wr.heap.size wr W->BB G w.heap.size w.heap.size (out++(s.extract j (j+p)).data.toList)->Below w.heap.size W G->Fd w.heap.size W G->UI s w v (j+p) mm G:=by
        intro W G a1 a2 a3 a4;refine⟨_,f',(d.trans (a1.mono d.size)).trans a3,a2,fun A e=> ?_,by rw[ae,<-q2];exact o,q1,by rw[List.length_append,ae,List.length_take,List.length_drop];omega⟩;obtain⟨b1,b2⟩:=t A e;have az:A<wr.heap.size:=(Array.getElem?_eq_some_iff.1 b2).1;exact⟨b1,a4 _ _ ((a1.block A az).trans b2) (by simp;omega) (fun c fz e=>by cases e)⟩
       have ah: ∀W,Below wr.heap.size wr W->Calls Tryz.prog 181 #[.pointer (some ⟨w.heap.size,0,none⟩),.string (s.extract j (j+p))] W (fun e G=>e=.returned (.tuple #[.int .i64 p,.nilIface])/\UI s w v (j+p) mm G):=by
        intro W a1;refine(Jr (s.extract j (j+p)) (l.below a1) (by omega)).mono ?_;rintro e G ⟨rfl,b1,b2,b3⟩;rw[al];exact⟨rfl,F W G a1 b1 b2 b3⟩
       obtain⟨HP,H,Y,Z,H4,Q2,ab,ap,ar⟩:=hid9 hP d l t o q2 b ah F;clear hP d l t o q2 b ah F;clear ae al;go_wp2_with (fail);(with_reducible refine(HP.out).mono ?_);rintro e S ⟨rfl,B⟩;have ao:=qz (ap.out S B);have a7:=qz B;clear B;go_wp2_with (fail);(with_reducible refine(ao.out).mono ?_);rintro e w3 ⟨rfl,D⟩;have J:=qz D;clear D;go_wp2;go_roundw
       case rel=>exact⟨j+p,_,rfl,by go_num,by omega,J⟩
       case measure=>simp[intOf];omega
  . obtain rfl:j=s.size:=by omega
    obtain⟨out,f,d,l,t,o,h5,h6⟩:=L.out;obtain⟨f,rfl⟩: ∃g,f=g+1:=⟨f - 1,by omega⟩;have y:v=.bad 4 s.size:=by
     rw[<-o];unfold Fg;rw[List.getElem?_eq_none (by rw[Ac];exact Nat.le_refl _)]
    obtain⟨H,Y,Z,H4,I⟩:=hid5 d l t o y;clear d l t o y;clear L;go_wp2
    try rw[Exit.noGoto_ret]
    exact bodyPost_ret (Ar rfl _ _ _) rfl ⟨by rw[I.out];rfl,H.out⟩
end Go.Proofs.YtjgfchcldhmjcaaGreatDoor
