/- Parts: utf.Quote: the walk. Condition: a text shorter than 10^9. -/
import Derived.Lib.TrimUEq
import Derived.LoopIn
import Derived.LoopNIn
import Derived.Test.YtdbejcbbhomdbaaGreatDoorKPu5
import Derived.Test.YtdbejcbbhomdbaaGreatDoorKPu6
import Derived.Test.YtdbejcbbhomdbaaGreatDoorKPu7
set_option maxHeartbeats 20000000
set_option maxRecDepth 100000
namespace Go.Proofs.YtdbejcbbhomdbaaGreatDoor
open Go.RowKit
attribute [local go_sem] Oper.semAt_some
def Cd:Nat->List UInt8->Nat->List (Nat×Nat)
 |0,_,_=> []
 |n+1,l,p=>if l= []then []else if(Lib.decodeL l).1=65533/\(Lib.decodeL l).2=1 then []else(p,(Lib.decodeL l).1)::Cd n (l.drop (Lib.decodeL l).2) (p+(Lib.decodeL l).2)
def Fo (s:ByteArray):List (Nat×Nat):=Cd s.size s.data.toList 0
theorem Re (s:ByteArray) (k:Nat) (h:k<s.size):(if(s.extract k s.size).size=0 then(65533,0)else Utf8.decode (s.extract k s.size) 0)=Lib.decodeL (s.data.toList.drop k):=by
 have e:(s.extract k s.size)=⟨(s.data.toList.drop k).toArray⟩:=by
  apply ByteArray.ext;apply Array.ext';rw[Lib.extract_data];dsimp only;rw[List.take_of_length_le (by rw[List.length_drop,<-Lib.size_eq];omega)]
 rw[if_neg (by rw[ByteArray.size_extract];omega),e];rfl
theorem Qu (s:ByteArray) (w:World):
 Calls Tryz.prog 216 #[.string s] w fun e w'=>e=.returned (.func (.func 237) #[] #[.pointer (some ⟨w.heap.size,0,none⟩)])/\w.alloc (.cells #[.string s] 9)=w':=by
 go_enter Tryz.func216,Tryz.ntmps216;go_wp2;go_ret;exact⟨rfl,rfl⟩
theorem Qg (s:ByteArray) (b:Nat) (hs:s.size<=1000000000):
 Xf Tryz.prog 237 #[.pointer (some ⟨b,0,none⟩)] (fun x:Nat×Nat=> #[.int .i64 x.1,.int .i32 x.2]) (Fo s) (fun A=>A.cell? ⟨b,0,none⟩=some (.string s)/\Cl A):=by
 intro n l J W hJn hJb hY h0;refine callsIn_of_wp Tryz.func237 rfl trivial ?_ rfl;simp only[Tryz.ntmps237,List.size_toArray,List.length_cons,List.length_nil,Nat.reduceAdd,Nat.reduceSub,Array.replicate_succ,Array.replicate_zero,List.push_toArray,List.append_toArray,List.nil_append,List.cons_append]
 gi_wp2
 gi_loopw [3] (fun i wr=> ∃(pre:List (Nat×Nat)) (f k:Nat),i=.int .i64 k/\k<=s.size/\s.size - k<=f/\Hid (Fo s=pre++Cd f (s.data.toList.drop k) k)/\J pre wr) (fun i _=>s.size - (intOf i).toNat)
 case atStart=>exact⟨[],s.size,0,rfl,Nat.zero_le _,by omega,rfl,h0⟩
 case round=>
  obtain⟨pre,f,k,rfl,hk,hf,hr,hJ⟩:=hrel;have hcr:wr.cell? ⟨b,0,none⟩=some (.string s):=(hJb _ _ hJ).1;have hTr:Cl wr:=(hJb _ _ hJ).2;by_cases hlt:k<s.size
  . have hne:s.data.toList.drop k≠ []:=by
     intro e;have:=congrArg List.length e;rw[List.length_drop,<-Lib.size_eq]at this;simp at this;omega
    obtain⟨f,rfl⟩: ∃f',f=f'+1:=⟨f - 1,by omega⟩;have cD:=Tryz.utf8_DecodeRuneInString (s.extract k s.size) wr hTr.2.1;have hdc:Lib.decodeGo (s.extract k s.size)=Lib.decodeL (s.data.toList.drop k):=Re s k hlt;have hw1:=Lib.decodeL_width (s.data.toList.drop k);have hw2:=Lib.decodeL_le _ hne;have hw3:=Lib.decodeL_rune (s.data.toList.drop k);rw[List.length_drop,<-Lib.size_eq]at hw2;have hr':=hr.out;simp only[Cd]at hr';rw[if_neg hne,List.drop_drop]at hr';rw[hdc]at cD;generalize Lib.decodeL (s.data.toList.drop k)=D at cD hw1 hw2 hw3 hr';obtain⟨r,z⟩:=D;simp only at cD hw1 hw2 hw3 hr';have CD:=qz cD;clear cD hdc hne hr;by_cases hbad:r=65533/\z=1
    . rw[if_pos hbad,List.append_nil]at hr';have Hr:=qz hr';obtain⟨hr1,hz1⟩:=hbad;have e1:((r:Int)==65533)=true:=by simp;omega
      have e2:((z:Int)==1)=true:=by simp;omega
      clear hr' hr1 hz1
      gi_wp2_with (refine⟨trivial, ?_⟩;gi_at_call 238;refine(callsIn_wide.2 CD.out).mono ?_;rintro e w2 ⟨rfl,hb2⟩;have hJ2:=hJn _ _ _ hJ hb2)
      refine bodyPost_ret (results_none rfl _ _ _) rfl ?_;exact⟨⟨_,rfl⟩,by rw[Hr.out];exact hJ2⟩
    . rw[if_neg hbad]at hr';have Hr:=qz hr';have Hr2:Hid (Fo s=(pre++ [(k,r)])++Cd f (s.data.toList.drop (k+z)) (k+z)):=by
       show Fo s=_;rw[hr'];simp
      clear hr';rcases(by omega:r≠65533\/(r=65533/\z≠1))with h1|⟨h1,h2⟩
      . have e1:((r:Int)==65533)=false:=by simp;omega
        clear h1 hbad
        gi_wp2_with (refine⟨trivial, ?_⟩;gi_at_call 238;refine(callsIn_wide.2 CD.out).mono ?_;rintro e w2 ⟨rfl,hb2⟩;obtain⟨fn,tmps,assign,body,hy,hR⟩:=hY pre (k,r) _ w2 Hr.out (hJn _ _ _ hJ hb2);dsimp only at hy)
        refine hR.mono ?_;rintro e W3 ⟨rfl,hJ3⟩;clear hy hR
        gi_wp2
        go_roundw
        case rel=>exact⟨pre++ [(k,r)],f,k+z,by go_num,by omega,by omega,Hr2,hJ3⟩
        case measure=>simp[intOf];omega
      . have e1:((r:Int)==65533)=true:=by simp;omega
        have e2:((z:Int)==1)=false:=by simp;omega
        clear h1 h2 hbad
        gi_wp2_with (refine⟨trivial, ?_⟩;gi_at_call 238;refine(callsIn_wide.2 CD.out).mono ?_;rintro e w2 ⟨rfl,hb2⟩;obtain⟨fn,tmps,assign,body,hy,hR⟩:=hY pre (k,r) _ w2 Hr.out (hJn _ _ _ hJ hb2);dsimp only at hy)
        refine hR.mono ?_;rintro e W3 ⟨rfl,hJ3⟩;clear hy hR
        gi_wp2
        go_roundw
        case rel=>exact⟨pre++ [(k,r)],f,k+z,by go_num,by omega,by omega,Hr2,hJ3⟩
        case measure=>simp[intOf];omega
  . obtain rfl:k=s.size:=by omega
    have hr':=hr.out;rw[List.drop_eq_nil_of_le (by rw[<-Lib.size_eq];omega)]at hr';have hz:Cd f [] s.size= []:=by cases f<;>simp[Cd]
    rw[hz,List.append_nil]at hr';have Hr:=qz hr';clear hr hr'
    gi_wp2
    go_end0
    exact⟨⟨_,rfl⟩,by rw[Hr.out];exact hJ⟩
attribute [local go_sem] Oper.semAt_some
def Be:List (Int×Int):= [(34,34),(92,92),(8,98),(9,116),(10,110),(12,102),(13,114)]
def Gz:List (Int×Int)->Nat->List MapEntry
 | [],_=> []
 |(k,v)::r,i=>{key:=.int .i32 k,val:=.int .i32 v,born:=i}::Gz r (i+1)
def Fa (w:World) (kv:List (Int×Int)):World:=w.alloc (.map (Gz kv 0).toArray kv.length)
def C6 (a:Int):List (Int×Int)->Option Int
 | []=>none
 |(k,v)::r=>if a=k then some v else C6 a r
theorem Gk (a:Int): ∀(kv:List (Int×Int)) (i j:Nat),∃q,Instr.findNow (.int .i32) (.int .i32 a) (Gz kv i) j=some q/\q.map (·.2)=(C6 a kv).map (Value.int .i32)
 | [],_,_=>⟨none,rfl,rfl⟩
 |(k,v)::r,i,j=>by
  by_cases h:a=k
  . subst h;exact⟨some (j,.int .i32 v),by simp[Gz,Instr.findNow,Instr.sameNow],by simp[C6]⟩
  . obtain⟨q,h1,h2⟩:=Gk a r (i+1) (j+1);refine⟨q, ?_,by rw[h2];simp[C6,h]⟩;have:(a==k)=false:=by simpa using h
    simp[Gz,Instr.findNow,Instr.sameNow,this,h1]
theorem K8: ∀(kv:List (Int×Int)) (i:Nat) (k v:Int),Gz (kv++ [(k,v)]) i=Gz kv i++ [{key:=.int .i32 k,val:=.int .i32 v,born:=i+kv.length}]
 | [],i,k,v=>by simp[Gz]
 |(a,b)::r,i,k,v=>by
  simp only[List.cons_append,Gz,K8 r,List.length_cons];rw[show i+1+r.length=i+(r.length+1)from by omega]
theorem Vg (w:World) (x y:Obj):(w.alloc x).heap.setIfInBounds w.heap.size y=(w.alloc y).heap:=by
 show(w.heap.push x).setIfInBounds w.heap.size y=w.heap.push y;apply Array.ext
 . simp
 . intro i h1 h2;rw[Array.getElem_setIfInBounds (by simpa using h1)];rw[Array.getElem_push,Array.getElem_push];by_cases hi:w.heap.size=i
   . subst hi;simp
   . rw[if_neg hi];have:i<w.heap.size:=by simp at h1;omega
     simp[this]
theorem Wo (e:Bool) (k:Int) (n:Nat) (w:World):(Instr.checkKey e (n+1) 21 (.int .i32 k)).run Tryz.prog w=.ok () w:=by
 simp[Instr.checkKey,run_underlying Tryz.underlying21]
theorem Lk (e:Bool) (k:Int) (w:World):(Instr.checkKey e 10000 21 (.int .i32 k)).run Tryz.prog w=.ok () w:=Wo e k 9999 w
theorem Dt (w:World) (kv:List (Int×Int)) (k v:Int) (h:C6 k kv=none):
 (Instr.mapUpdate 272 (.map (some w.heap.size)) (.int .i32 k) (.int .i32 v)).run Tryz.prog (Fa w kv)=.ok () (Fa w (kv++ [(k,v)])):=by
 have hb:(Fa w kv).heap[w.heap.size]? =some (.map (Gz kv 0).toArray kv.length):=heap_alloc_new _ _;obtain⟨q,h1,h2⟩:=Gk k kv 0 0;rw[h]at h2;have hq:q=none:=by cases q<;>simp_all
 subst hq;have hck:=Lk false k (Fa w kv);have hfk:(Instr.findKey 21 (.int .i32 k) (Gz kv 0)).run Tryz.prog (Fa w kv)=.ok none (Fa w kv):=by
  simp[Instr.findKey,Sem.run_bind,run_underlying Tryz.underlying21,h1]
 unfold Instr.mapUpdate;simp only[Sem.run_bind,run_underlying Tryz.underlying272,Result.andThen,getObj,Sem.run,hb,hck,hfk,setObj];simp only[Fa,K8,List.length_append,List.length_cons,List.length_nil,Nat.zero_add];rw[Vg,List.push_toArray];rfl
theorem Si (w:World) (b:Nat) (kv:List (Int×Int)) (k:Int) (hb:w.heap[b]? =some (.map (Gz kv 0).toArray kv.length)):
 (Instr.lookup 272 (.map (some b)) (.int .i32 k) true).run Tryz.prog w=.ok (.tuple #[.int .i32 ((C6 k kv).getD 0),.bool (C6 k kv).isSome]) w:=by
 obtain⟨q,h1,h2⟩:=Gk k kv 0 0;have hck:=fun e=>Lk e k w;have hfk:(Instr.findKey 21 (.int .i32 k) (Gz kv 0)).run Tryz.prog w=.ok q w:=by
  simp[Instr.findKey,Sem.run_bind,run_underlying Tryz.underlying21,h1]
 unfold Instr.lookup;simp only[Sem.run_bind,run_underlying Tryz.underlying272,Result.andThen,getObj,Sem.run,hb]
 cases q with
 |none=>
  have:C6 k kv=none:=by cases hq:C6 k kv<;>simp_all
  rw[this];have hz:(zeroValue 21).run Tryz.prog w=.ok (.int .i32 0) w:=Tryz.zeroValue21 w;simp[hck,hfk,hz,Result.andThen]
 |some p=>
  obtain⟨i,v⟩:=p;obtain⟨u,hu⟩: ∃u,C6 k kv=some u:=by cases hq:C6 k kv<;>simp_all
  rw[hu]at h2 ⊢;simp at h2;subst h2;simp[hck,hfk]
theorem Nu (w:World):
 Calls Tryz.prog 219 #[] w fun e w'=>e=.returned (.map (some w.heap.size))/\Fa w Be=w':=by
 have hmm:(Instr.makeMap 272 none).run Tryz.prog w=.ok (.map (some w.heap.size)) (Fa w []):=run_makeMap _ w;have u1:=Dt w [] 34 34 rfl;have u2:=Dt w [(34,34)] 92 92 rfl;have u3:=Dt w [(34,34),(92,92)] 8 98 rfl;have u4:=Dt w [(34,34),(92,92),(8,98)] 9 116 rfl;have u5:=Dt w [(34,34),(92,92),(8,98),(9,116)] 10 110 rfl;have u6:=Dt w [(34,34),(92,92),(8,98),(9,116),(10,110)] 12 102 rfl;have u7:=Dt w [(34,34),(92,92),(8,98),(9,116),(10,110),(12,102)] 13 114 rfl;simp only[List.nil_append,List.cons_append]at u1 u2 u3 u4 u5 u6 u7;go_enter Tryz.func219,Tryz.ntmps219;go_wp2;go_ret;exact⟨rfl,rfl⟩
attribute [local go_sem] Oper.semAt_some
def Mq (n:Nat):UInt8:=if n<10 then UInt8.ofNat (48+n)else UInt8.ofNat (87+n)
def B4 (r:Nat):List UInt8:=
 if 32<=r/\r≠34/\r≠92 then Lib.encodeRune r
 else match C6 r Be with
  |some c=> [92,UInt8.ofNat c.toNat]
  |none=> [92,117,48,48,Mq (r / 16),Mq (r % 16)]
def Au (l:List (Nat×Nat)):List UInt8:=l.flatMap fun x=>B4 x.2
theorem L1 (r:Int) (w:World):Calls Tryz.prog 217 #[.int .i32 r] w fun e w'=>e=.returned (.bool (decide (32<=r/\r≠34/\r≠92)))/\w=w':=by
 go_enter Tryz.func217,Tryz.ntmps217;go_wp2
 all_goals go_ret
 all_goals refine⟨Zb ?_,rfl⟩
 all_goals first|(simp_all;done)|(simp_all;omega)|(rw[Bool.eq_iff_iff];simp_all)
theorem Cs {r:Int} {B:Bool} (h:decide (32<=r/\r≠34/\r≠92)=B) (w:World):Calls Tryz.prog 217 #[.int .i32 r] w fun e w'=>e=.returned (.bool B)/\w=w':=by
 subst h;exact L1 _ _
theorem Hs (w:World):
 Calls Tryz.prog 219 #[] w fun e w'=>e=.returned (.map (some w.heap.size))/\w.alloc (.map (Gz Be 0).toArray Be.length)=w':=Nu w
def Uq (W:World) (lb D:Nat) (m:Option Nat):Prop:=
 W.heap[lb]? =some (.cells #[.map m] 272 (0,0))/\ ∀mb,m=some mb->D+1<mb/\W.heap[mb]? =some (.map (Gz Be 0).toArray Be.length)
theorem Yo:liesAt Tryz.prog Tryz.prog.depth 129 (2 / Tryz.prog.cellsOf 129) 0 129 1=true:=by kernel_rfl
def BB (w:World) (B g:Nat) (bs:List UInt8):Prop:= ∃p v,Jw w B g 0 129 #[p,v] bs
theorem Jw.keep {A W:World} {B g o:Nat} {t:TypeId} {cs:Array Value} {bs:List UInt8} (h:Jw A B g o t cs bs) {row:Option Nat} (hg:A.grownBy W row) (hr: ∀k,row=some k-> ∃ob:Obj,A.heap[k]? =some ob/\ob.isCells=false):Jw W B g o t cs bs:=by
 obtain⟨hB,hb,ht,hs,h0,v,h1,hown⟩:=h;refine⟨hB,(grownBy_keeps_cells hg hr hb rfl).trans hb,ht,hs,h0,v,h1,hown.kept hg ?_⟩
 cases hv:v.ownBlock with
 |none=>exact .inl rfl
 |some k=>
  refine .inr fun e=> ?_;obtain⟨ob,ho,hc⟩:=hr k e.symm;obtain⟨c,fz,hk⟩:=E6 hown k hv;rw[hk]at ho
  cases ho
  cases hc
theorem K7 {A W:World} (h:Below A.heap.size A W):A.grownBy W none:=⟨h.os,h.tape,h.output,h.size,fun i hi _=>h.block i hi⟩
theorem BB.below {A W:World} {B g:Nat} {bs:List UInt8} (h:BB A B g bs) (hb:Below A.heap.size A W):BB W B g bs:=by
 obtain⟨p,v,h⟩:=h;exact⟨p,v,h.keep (K7 hb) (fun k e=>by cases e)⟩
theorem BB.put {A:World} {B g k:Nat} {bs:List UInt8} {o o':Obj} (h:BB A B g bs) (ho:A.heap[k]? =some o) (hc:o.isCells=false):BB (A.putObj k o') B g bs:=by
 obtain⟨p,v,h⟩:=h;exact⟨p,v,h.keep (grownBy_putObj' A k o') (fun j e=>by cases e;exact⟨o,ho,hc⟩)⟩
theorem BB.lt {A:World} {B g:Nat} {bs:List UInt8} (h:BB A B g bs):g<A.heap.size:=by
 obtain⟨p,v,h⟩:=h;exact h.lt
theorem BB.base {A:World} {B g:Nat} {bs:List UInt8} (h:BB A B g bs):B<=g:=by
 obtain⟨p,v,h⟩:=h;exact h.1
theorem BB.store {A:World} {B g k:Nat} {bs:List UInt8} {cs:Array Value} {t:TypeId} (h:BB A B g bs) (hk:A.heap[k]? =some (.cells cs t (0,0))) (ht:t≠5) (hne:k≠g) (i:Nat) (u:Value):BB (A.setCell ⟨k,i,none⟩ u) B g bs:=by
 obtain⟨p,v,hB,hb,ht',hs,h0,v',h1,hown⟩:=h;refine⟨p,v,hB,(Below.heap_setCell _ _ _ _ (fun e=>hne e.symm)).trans hb,ht',hs,h0,v',h1, ?_⟩;exact hown.kept (row:=some k) ⟨rfl,rfl,rfl,by simp[World.setCell],fun j _ hj=>Below.heap_setCell _ _ _ _ (fun e=>hj (by simp[e]))⟩ (Or.inr (Lib.ownBlock_ne hown hk ht))
theorem D5 {B g:Nat} {bs:List UInt8} (c:Int) (hc0:0<=c) (hc1:c<256) {w:World} (h:BB w B g bs) (hlen:bs.length<=100000000000):
 Calls Tryz.prog 215 #[.pointer (some ⟨g,0,none⟩),.int .u8 c] w fun e w'=>e=.returned .nilIface/\BB w' B g (bs++ [UInt8.ofNat c.toNat])/\Below B w w'/\C9 g w w':=by
 obtain⟨p,v,h⟩:=h;refine(Lw B g 0 _ _ bs c hc0 hc1 w h Yo (by omega) (by have:=h.lt;have:=h.1;omega)).mono ?_;rintro e w' ⟨rfl,⟨v',h'⟩,hb,hk⟩;exact⟨rfl,⟨_,v',h'⟩,hb,hk⟩
theorem Ih {B g:Nat} {bs:List UInt8} (u:UInt8) {w:World} (h:BB w B g bs) (hlen:bs.length<=100000000000):
 Calls Tryz.prog 215 #[.pointer (some ⟨g,0,none⟩),.int .u8 u.toNat] w fun e w'=>e=.returned .nilIface/\BB w' B g (bs++ [u])/\Below B w w'/\C9 g w w':=by
 have hu:=u.toNat_lt;have h1:=D5 (u.toNat:Int) (by omega) (by omega) h hlen;have e:UInt8.ofNat (Int.toNat (u.toNat:Int))=u:=by rw[Int.toNat_natCast];simp
 rwa [e]at h1
theorem L5: ∀n:Fin 16,(⟨#[48,49,50,51,52,53,54,55,56,57,97,98,99,100,101,102]⟩:ByteArray)[n.val]'(by simp[ByteArray.size])=Mq n.val:=by decide
theorem Aam: ∀n:Fin 32,bits .and .i32 ((n.val:Nat):Int) 15=((n.val:Nat):Int) % 16:=by decide
theorem Gi {B g:Nat} {bs:List UInt8} (r:Int) (hr0:0<=r) (hr1:r<=2147483647) {w:World} (h:BB w B g bs) (hlen:bs.length<=100000000000):
 Calls Tryz.prog 218 #[.pointer (some ⟨g,0,none⟩),.int .i32 r] w fun e w'=>(∃k:Int,e=.returned (.tuple #[.int .i64 k,.nilIface]))/\BB w' B g (bs++Lib.encodeRune r)/\Below B w w'/\C9 g w w':=by
 obtain⟨p,v,h⟩:=h;refine(Lx B g 0 _ _ bs r (by omega) hr1 w h Yo (by omega) (by have:=h.lt;have:=h.1;omega)).mono ?_;rintro e w' ⟨hk0,⟨v',h'⟩,hb,hk⟩;exact⟨hk0,⟨_,v',h'⟩,hb,hk⟩
theorem G6 {B g:Nat} {bs:List UInt8} (s:ByteArray) {w:World} (h:BB w B g bs) (hlen:bs.length+s.size<=100000000000):
 Calls Tryz.prog 164 #[.pointer (some ⟨g,0,none⟩),.string s] w fun e w'=>e=.returned (.tuple #[.int .i64 s.size,.nilIface])/\BB w' B g (bs++s.data.toList)/\Below B w w'/\C9 g w w':=by
 obtain⟨p,v,h⟩:=h;refine(Fs B g 0 _ _ bs s w h Yo (by omega) (by have:=h.lt;have:=h.1;omega)).mono ?_;rintro e w' ⟨rfl,⟨v',h'⟩,hb,hk⟩;exact⟨rfl,⟨_,v',h'⟩,hb,hk⟩
theorem Vh {B g:Nat} {bs:List UInt8} {w:World} (h:BB w B g bs) (h0:bs≠ []):
 Calls Tryz.prog 82 #[.pointer (some ⟨g,0,none⟩)] w fun e w'=>e=.returned (.string ⟨bs.toArray⟩)/\Below B w w'/\C9 g w w':=by
 obtain⟨p,v,h⟩:=h;exact J0 B g 0 _ _ bs w h h0
theorem I9 {a c:Int} (h:C6 a Be=some c):34<=c/\c<128:=by
 simp only[Be,C6]at h
 repeat' split at h
 all_goals first|(cases h;done)|(simp at h;omega)
theorem J5 {c:Int} (h0:0<=c) (h1:c<128):Lib.encodeRune c= [UInt8.ofNat c.toNat]:=by
 unfold Lib.encodeRune;rw[Lib.encodeRuneZ_one h0 (by omega)];rfl
theorem J7 {r:Nat} (h:C6 r Be=none) (h2: ¬(32<=r/\r≠34/\r≠92)):r<32:=by
 simp only[Be,C6]at h
 repeat' split at h
 all_goals first|(cases h;done)|omega
theorem N6 (r:Nat):(B4 r).length<=6:=by
 unfold B4
 split
 . unfold Lib.encodeRune Lib.encodeRuneZ
   repeat' split
   all_goals simp
 . split<;>simp
theorem Fm (l:List (Nat×Nat)):(Au l).length<=6*l.length:=by
 unfold Au
 induction l with
 |nil=>simp
 |cons x r ih=>simp only[List.flatMap_cons,List.length_append,List.length_cons];have:=N6 x.2;omega
theorem Ek: ∀(n:Nat) (l:List UInt8) (p:Nat),(Cd n l p).length<=n
 |0,_,_=>by simp[Cd]
 |n+1,l,p=>by
  simp only[Cd]
  split
  . simp
  . split
    . simp
    . simp only[List.length_cons];have:=Ek n (l.drop (Lib.decodeL l).2) (p+(Lib.decodeL l).2);omega
theorem Ki: ∀(n:Nat) (l:List UInt8) (p:Nat),∀x ∈ Cd n l p,x.2<=1114111
 |0,_,_,x,h=>by simp[Cd]at h
 |n+1,l,p,x,h=>by
  simp only[Cd]at h
  split at h
  . simp at h
  . split at h
    . simp at h
    . rcases List.mem_cons.1 h with rfl|h
      . exact Lib.decodeL_rune l
      . exact Ki n _ _ x h
end Go.Proofs.YtdbejcbbhomdbaaGreatDoor
