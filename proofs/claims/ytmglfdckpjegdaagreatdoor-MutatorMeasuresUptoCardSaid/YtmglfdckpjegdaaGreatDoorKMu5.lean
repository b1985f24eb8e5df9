/- Parts: Maps cell by cell, whatever their elements: an entry stored, an entry looked up. Plain. No condition. -/
import Derived.Lib.MapLaws
import Derived.Lib.TrimUEq
import Derived.LoopIn
import Derived.LoopNIn
import Derived.Lib.RuneBytes
import Derived.Lib.ItoaLen
import Derived.Maps.OwnSet
import Derived.Laws.OwnMore
import Derived.Test.YtmglfdckpjegdaaGreatDoorKMu2
import Derived.Test.YtmglfdckpjegdaaGreatDoorKMu3
set_option maxHeartbeats 20000000
namespace Go.Proofs.YtmglfdckpjegdaaGreatDoor
open Go.RowKit
attribute [local go_sem] Oper.semAt_some
def A8:Nat->List UInt8->Nat->List (Nat×Nat)
 |0,_,_=> []
 |n+1,l,p=>if l= []then []else if(Lib.decodeL l).1=65533/\(Lib.decodeL l).2=1 then []else(p,(Lib.decodeL l).1)::A8 n (l.drop (Lib.decodeL l).2) (p+(Lib.decodeL l).2)
def Ca (s:ByteArray):List (Nat×Nat):=A8 s.size s.data.toList 0
theorem S8 (s:ByteArray) (k:Nat) (h:k<s.size):(if(s.extract k s.size).size=0 then(65533,0)else Utf8.decode (s.extract k s.size) 0)=Lib.decodeL (s.data.toList.drop k):=by
 have e:(s.extract k s.size)=⟨(s.data.toList.drop k).toArray⟩:=by
  apply ByteArray.ext;apply Array.ext';rw[Lib.extract_data];dsimp only;rw[List.take_of_length_le (by rw[List.length_drop,<-Lib.size_eq];omega)]
 rw[if_neg (by rw[ByteArray.size_extract];omega),e];rfl
theorem S4 (s:ByteArray) (w:World):
 Calls Tryz.prog 196 #[.string s] w fun e w'=>e=.returned (.func (.func 218) #[] #[.pointer (some ⟨w.heap.size,0,none⟩)])/\w.alloc (.cells #[.string s] 9)=w':=by
 go_enter Tryz.func196,Tryz.ntmps196;go_wp2;go_ret;exact⟨rfl,rfl⟩
set_option maxRecDepth 100000 in
theorem Abi (s:ByteArray) (b:Nat) (hs:s.size<=1000000000):
 Akm Tryz.prog 218 #[.pointer (some ⟨b,0,none⟩)] (fun x:Nat×Nat=> #[.int .i64 x.1,.int .i32 x.2]) (Ca s) (fun A=>A.cell? ⟨b,0,none⟩=some (.string s)/\Cq A):=by
 intro n l J W hJn hJb hY h0;refine callsIn_of_wp Tryz.func218 rfl trivial ?_ rfl;simp only[Tryz.ntmps218,List.size_toArray,List.length_cons,List.length_nil,Nat.reduceAdd,Nat.reduceSub,Array.replicate_succ,Array.replicate_zero,List.push_toArray,List.append_toArray,List.nil_append,List.cons_append]
 gi_wp2
 gi_loopw [3] (fun i wr=> ∃(pre:List (Nat×Nat)) (f k:Nat),i=.int .i64 k/\k<=s.size/\s.size - k<=f/\Hid (Ca s=pre++A8 f (s.data.toList.drop k) k)/\J pre wr) (fun i _=>s.size - (intOf i).toNat)
 case atStart=>exact⟨[],s.size,0,rfl,Nat.zero_le _,by omega,rfl,h0⟩
 case round=>
  obtain⟨pre,f,k,rfl,hk,hf,hr,hJ⟩:=hrel;have hcr:wr.cell? ⟨b,0,none⟩=some (.string s):=(hJb _ _ hJ).1;have hTr:Cq wr:=(hJb _ _ hJ).2;by_cases hlt:k<s.size
  . have hne:s.data.toList.drop k≠ []:=by
     intro e;have:=congrArg List.length e;rw[List.length_drop,<-Lib.size_eq]at this;simp at this;omega
    obtain⟨f,rfl⟩: ∃f',f=f'+1:=⟨f - 1,by omega⟩;have cD:=Tryz.utf8_DecodeRuneInString (s.extract k s.size) wr hTr.2.1;have hdc:Lib.decodeGo (s.extract k s.size)=Lib.decodeL (s.data.toList.drop k):=S8 s k hlt;have hw1:=Lib.decodeL_width (s.data.toList.drop k);have hw2:=Lib.decodeL_le _ hne;have hw3:=Lib.decodeL_rune (s.data.toList.drop k);rw[List.length_drop,<-Lib.size_eq]at hw2;have hr':=hr.out;simp only[A8]at hr';rw[if_neg hne,List.drop_drop]at hr';rw[hdc]at cD;generalize Lib.decodeL (s.data.toList.drop k)=D at cD hw1 hw2 hw3 hr';obtain⟨r,z⟩:=D;simp only at cD hw1 hw2 hw3 hr';have CD:=Lib.hid cD;clear cD hdc hne hr;by_cases hbad:r=65533/\z=1
    . rw[if_pos hbad,List.append_nil]at hr';have Hr:=Lib.hid hr';obtain⟨hr1,hz1⟩:=hbad;have e1:((r:Int)==65533)=true:=by simp;omega
      have e2:((z:Int)==1)=true:=by simp;omega
      clear hr' hr1 hz1
      gi_wp2_with (refine⟨trivial, ?_⟩;gi_at_call 219;refine(callsIn_wide.2 CD.out).mono ?_;rintro e w2 ⟨rfl,hb2⟩;have hJ2:=hJn _ _ _ hJ hb2)
      refine bodyPost_ret (results_none rfl _ _ _) rfl ?_;exact⟨⟨_,rfl⟩,by rw[Hr.out];exact hJ2⟩
    . rw[if_neg hbad]at hr';have Hr:=Lib.hid hr';have Hr2:Hid (Ca s=(pre++ [(k,r)])++A8 f (s.data.toList.drop (k+z)) (k+z)):=by
       show Ca s=_;rw[hr'];simp
      clear hr';rcases(by omega:r≠65533\/(r=65533/\z≠1))with h1|⟨h1,h2⟩
      . have e1:((r:Int)==65533)=false:=by simp;omega
        clear h1 hbad
        gi_wp2_with (refine⟨trivial, ?_⟩;gi_at_call 219;refine(callsIn_wide.2 CD.out).mono ?_;rintro e w2 ⟨rfl,hb2⟩;obtain⟨fn,tmps,assign,body,hy,hR⟩:=hY pre (k,r) _ w2 Hr.out (hJn _ _ _ hJ hb2);dsimp only at hy)
        refine hR.mono ?_;rintro e W3 ⟨rfl,hJ3⟩;clear hy hR
        gi_wp2
        go_roundw
        case rel=>exact⟨pre++ [(k,r)],f,k+z,by go_num,by omega,by omega,Hr2,hJ3⟩
        case measure=>simp[intOf];omega
      . have e1:((r:Int)==65533)=true:=by simp;omega
        have e2:((z:Int)==1)=false:=by simp;omega
        clear h1 h2 hbad
        gi_wp2_with (refine⟨trivial, ?_⟩;gi_at_call 219;refine(callsIn_wide.2 CD.out).mono ?_;rintro e w2 ⟨rfl,hb2⟩;obtain⟨fn,tmps,assign,body,hy,hR⟩:=hY pre (k,r) _ w2 Hr.out (hJn _ _ _ hJ hb2);dsimp only at hy)
        refine hR.mono ?_;rintro e W3 ⟨rfl,hJ3⟩;clear hy hR
        gi_wp2
        go_roundw
        case rel=>exact⟨pre++ [(k,r)],f,k+z,by go_num,by omega,by omega,Hr2,hJ3⟩
        case measure=>simp[intOf];omega
  . obtain rfl:k=s.size:=by omega
    have hr':=hr.out;rw[List.drop_eq_nil_of_le (by rw[<-Lib.size_eq];omega)]at hr';have hz:A8 f [] s.size= []:=by cases f<;>simp[A8]
    rw[hz,List.append_nil]at hr';have Hr:=Lib.hid hr';clear hr hr'
    gi_wp2
    go_end0
    exact⟨⟨_,rfl⟩,by rw[Hr.out];exact hJ⟩
attribute [local go_sem] Oper.semAt_some
def Ce:List (Int×Int):= [(34,34),(92,92),(8,98),(9,116),(10,110),(12,102),(13,114)]
def Lg:List (Int×Int)->Nat->List MapEntry
 | [],_=> []
 |(k,v)::r,i=>{key:=.int .i32 k,val:=.int .i32 v,born:=i}::Lg r (i+1)
def J4 (w:World) (kv:List (Int×Int)):World:=w.alloc (.map (Lg kv 0).toArray kv.length)
def E9 (a:Int):List (Int×Int)->Option Int
 | []=>none
 |(k,v)::r=>if a=k then some v else E9 a r
theorem Ny (a:Int): ∀(kv:List (Int×Int)) (i j:Nat),∃q,Instr.findNow (.int .i32) (.int .i32 a) (Lg kv i) j=some q/\q.map (·.2)=(E9 a kv).map (Value.int .i32)
 | [],_,_=>⟨none,rfl,rfl⟩
 |(k,v)::r,i,j=>by
  by_cases h:a=k
  . subst h;exact⟨some (j,.int .i32 v),by simp[Lg,Instr.findNow,Instr.sameNow],by simp[E9]⟩
  . obtain⟨q,h1,h2⟩:=Ny a r (i+1) (j+1);refine⟨q, ?_,by rw[h2];simp[E9,h]⟩;have:(a==k)=false:=by simpa using h
    simp[Lg,Instr.findNow,Instr.sameNow,this,h1]
theorem Tc: ∀(kv:List (Int×Int)) (i:Nat) (k v:Int),Lg (kv++ [(k,v)]) i=Lg kv i++ [{key:=.int .i32 k,val:=.int .i32 v,born:=i+kv.length}]
 | [],i,k,v=>by simp[Lg]
 |(a,b)::r,i,k,v=>by
  simp only[List.cons_append,Lg,Tc r,List.length_cons];rw[show i+1+r.length=i+(r.length+1)from by omega]
theorem Aia (w:World) (x y:Obj):(w.alloc x).heap.setIfInBounds w.heap.size y=(w.alloc y).heap:=by
 show(w.heap.push x).setIfInBounds w.heap.size y=w.heap.push y;apply Array.ext
 . simp
 . intro i h1 h2;rw[Array.getElem_setIfInBounds (by simpa using h1)];rw[Array.getElem_push,Array.getElem_push];by_cases hi:w.heap.size=i
   . subst hi;simp
   . rw[if_neg hi];have:i<w.heap.size:=by simp at h1;omega
     simp[this]
theorem Ajs (e:Bool) (k:Int) (n:Nat) (w:World):(Instr.checkKey e (n+1) 21 (.int .i32 k)).run Tryz.prog w=.ok () w:=by
 simp[Instr.checkKey,run_underlying Tryz.underlying21]
theorem Tt (e:Bool) (k:Int) (w:World):(Instr.checkKey e 10000 21 (.int .i32 k)).run Tryz.prog w=.ok () w:=Ajs e k 9999 w
theorem Dh (w:World) (kv:List (Int×Int)) (k v:Int) (h:E9 k kv=none):
 (Instr.mapUpdate 213 (.map (some w.heap.size)) (.int .i32 k) (.int .i32 v)).run Tryz.prog (J4 w kv)=.ok () (J4 w (kv++ [(k,v)])):=by
 have hb:(J4 w kv).heap[w.heap.size]? =some (.map (Lg kv 0).toArray kv.length):=heap_alloc_new _ _;obtain⟨q,h1,h2⟩:=Ny k kv 0 0;rw[h]at h2;have hq:q=none:=by cases q<;>simp_all
 subst hq;have hck:=Tt false k (J4 w kv);have hfk:(Instr.findKey 21 (.int .i32 k) (Lg kv 0)).run Tryz.prog (J4 w kv)=.ok none (J4 w kv):=by
  simp[Instr.findKey,Sem.run_bind,run_underlying Tryz.underlying21,h1]
 unfold Instr.mapUpdate;simp only[Sem.run_bind,run_underlying Tryz.underlying213,Result.andThen,getObj,Sem.run,hb,hck,hfk,setObj];simp only[J4,Tc,List.length_append,List.length_cons,List.length_nil,Nat.zero_add];rw[Aia,List.push_toArray];rfl
theorem Wf (w:World) (b:Nat) (kv:List (Int×Int)) (k:Int) (hb:w.heap[b]? =some (.map (Lg kv 0).toArray kv.length)):
 (Instr.lookup 213 (.map (some b)) (.int .i32 k) true).run Tryz.prog w=.ok (.tuple #[.int .i32 ((E9 k kv).getD 0),.bool (E9 k kv).isSome]) w:=by
 obtain⟨q,h1,h2⟩:=Ny k kv 0 0;have hck:=fun e=>Tt e k w;have hfk:(Instr.findKey 21 (.int .i32 k) (Lg kv 0)).run Tryz.prog w=.ok q w:=by
  simp[Instr.findKey,Sem.run_bind,run_underlying Tryz.underlying21,h1]
 unfold Instr.lookup;simp only[Sem.run_bind,run_underlying Tryz.underlying213,Result.andThen,getObj,Sem.run,hb]
 cases q with
 |none=>
  have:E9 k kv=none:=by cases hq:E9 k kv<;>simp_all
  rw[this];have hz:(zeroValue 21).run Tryz.prog w=.ok (.int .i32 0) w:=Tryz.zeroValue21 w;simp[hck,hfk,hz,Result.andThen]
 |some p=>
  obtain⟨i,v⟩:=p;obtain⟨u,hu⟩: ∃u,E9 k kv=some u:=by cases hq:E9 k kv<;>simp_all
  rw[hu]at h2 ⊢;simp at h2;subst h2;simp[hck,hfk]
set_option maxRecDepth 100000 in
theorem Xk (w:World):
 Calls Tryz.prog 199 #[] w fun e w'=>e=.returned (.map (some w.heap.size))/\J4 w Ce=w':=by
 have hmm:(Instr.makeMap 213 none).run Tryz.prog w=.ok (.map (some w.heap.size)) (J4 w []):=run_makeMap _ w;have u1:=Dh w [] 34 34 rfl;have u2:=Dh w [(34,34)] 92 92 rfl;have u3:=Dh w [(34,34),(92,92)] 8 98 rfl;have u4:=Dh w [(34,34),(92,92),(8,98)] 9 116 rfl;have u5:=Dh w [(34,34),(92,92),(8,98),(9,116)] 10 110 rfl;have u6:=Dh w [(34,34),(92,92),(8,98),(9,116),(10,110)] 12 102 rfl;have u7:=Dh w [(34,34),(92,92),(8,98),(9,116),(10,110),(12,102)] 13 114 rfl;simp only[List.nil_append,List.cons_append]at u1 u2 u3 u4 u5 u6 u7;go_enter Tryz.func199,Tryz.ntmps199;go_wp2;go_ret;exact⟨rfl,rfl⟩
attribute [local go_sem] Oper.semAt_some
def N1 (n:Nat):UInt8:=if n<10 then UInt8.ofNat (48+n)else UInt8.ofNat (87+n)
def Am (r:Nat):List UInt8:=
 if 32<=r/\r≠34/\r≠92 then Lib.encodeRune r
 else match E9 r Ce with
  |some c=> [92,UInt8.ofNat c.toNat]
  |none=> [92,117,48,48,N1 (r / 16),N1 (r % 16)]
def Af (l:List (Nat×Nat)):List UInt8:=l.flatMap fun x=>Am x.2
theorem Uh (r:Int) (w:World):Calls Tryz.prog 197 #[.int .i32 r] w fun e w'=>e=.returned (.bool (decide (32<=r/\r≠34/\r≠92)))/\w=w':=by
 go_enter Tryz.func197,Tryz.ntmps197;go_wp2
 all_goals go_ret
 all_goals refine⟨Ad6 ?_,rfl⟩
 all_goals first|(simp_all;done)|(simp_all;omega)|(rw[Bool.eq_iff_iff];simp_all)
theorem D4 {r:Int} {B:Bool} (h:decide (32<=r/\r≠34/\r≠92)=B) (w:World):Calls Tryz.prog 197 #[.int .i32 r] w fun e w'=>e=.returned (.bool B)/\w=w':=by
 subst h;exact Uh _ _
theorem O0 (w:World):
 Calls Tryz.prog 199 #[] w fun e w'=>e=.returned (.map (some w.heap.size))/\w.alloc (.map (Lg Ce 0).toArray Ce.length)=w':=Xk w
def Aha (W:World) (lb D:Nat) (m:Option Nat):Prop:=
 W.heap[lb]? =some (.cells #[.map m] 213 (0,0))/\ ∀mb,m=some mb->D+1<mb/\W.heap[mb]? =some (.map (Lg Ce 0).toArray Ce.length)
theorem Alv:liesAt Tryz.prog Tryz.prog.depth 114 (2 / Tryz.prog.cellsOf 114) 0 114 1=true:=by kernel_rfl
def BB (w:World) (B g:Nat) (bs:List UInt8):Prop:= ∃p v,Q3 w B g 0 114 #[p,v] bs
theorem Q3.keep {A W:World} {B g o:Nat} {t:TypeId} {cs:Array Value} {bs:List UInt8} (h:Q3 A B g o t cs bs) {row:Option Nat} (hg:A.grownBy W row) (hr: ∀k,row=some k-> ∃ob:Obj,A.heap[k]? =some ob/\ob.isCells=false):Q3 W B g o t cs bs:=by
 obtain⟨hB,hb,ht,hs,h0,v,h1,hown⟩:=h;refine⟨hB,(grownBy_keeps_cells hg hr hb rfl).trans hb,ht,hs,h0,v,h1,hown.kept hg ?_⟩
 cases hv:v.ownBlock with
 |none=>exact .inl rfl
 |some k=>
  refine .inr fun e=> ?_;obtain⟨ob,ho,hc⟩:=hr k e.symm;obtain⟨c,fz,hk⟩:=Ls hown k hv;rw[hk]at ho
  cases ho
  cases hc
theorem S5 {A W:World} (h:Below A.heap.size A W):A.grownBy W none:=⟨h.os,h.tape,h.output,h.size,fun i hi _=>h.block i hi⟩
theorem BB.below {A W:World} {B g:Nat} {bs:List UInt8} (h:BB A B g bs) (hb:Below A.heap.size A W):BB W B g bs:=by
 obtain⟨p,v,h⟩:=h;exact⟨p,v,h.keep (S5 hb) (fun k e=>by cases e)⟩
theorem BB.put {A:World} {B g k:Nat} {bs:List UInt8} {o o':Obj} (h:BB A B g bs) (ho:A.heap[k]? =some o) (hc:o.isCells=false):BB (A.putObj k o') B g bs:=by
 obtain⟨p,v,h⟩:=h;exact⟨p,v,h.keep (grownBy_putObj' A k o') (fun j e=>by cases e;exact⟨o,ho,hc⟩)⟩
theorem BB.lt {A:World} {B g:Nat} {bs:List UInt8} (h:BB A B g bs):g<A.heap.size:=by
 obtain⟨p,v,h⟩:=h;exact h.lt
theorem BB.base {A:World} {B g:Nat} {bs:List UInt8} (h:BB A B g bs):B<=g:=by
 obtain⟨p,v,h⟩:=h;exact h.1
theorem BB.store {A:World} {B g k:Nat} {bs:List UInt8} {cs:Array Value} {t:TypeId} (h:BB A B g bs) (hk:A.heap[k]? =some (.cells cs t (0,0))) (ht:t≠5) (hne:k≠g) (i:Nat) (u:Value):BB (A.setCell ⟨k,i,none⟩ u) B g bs:=by
 obtain⟨p,v,hB,hb,ht',hs,h0,v',h1,hown⟩:=h;refine⟨p,v,hB,(Below.heap_setCell _ _ _ _ (fun e=>hne e.symm)).trans hb,ht',hs,h0,v',h1, ?_⟩;exact hown.kept (row:=some k) ⟨rfl,rfl,rfl,by simp[World.setCell],fun j _ hj=>Below.heap_setCell _ _ _ _ (fun e=>hj (by simp[e]))⟩ (Or.inr (Lib.ownBlock_ne hown hk ht))
theorem Jl {B g:Nat} {bs:List UInt8} (c:Int) (hc0:0<=c) (hc1:c<256) {w:World} (h:BB w B g bs) (hlen:bs.length<=100000000000):
 Calls Tryz.prog 195 #[.pointer (some ⟨g,0,none⟩),.int .u8 c] w fun e w'=>e=.returned .nilIface/\BB w' B g (bs++ [UInt8.ofNat c.toNat])/\Below B w w'/\Gs g w w':=by
 obtain⟨p,v,h⟩:=h;refine(T6 B g 0 _ _ bs c hc0 hc1 w h Alv (by omega) (by have:=h.lt;have:=h.1;omega)).mono ?_;rintro e w' ⟨rfl,⟨v',h'⟩,hb,hk⟩;exact⟨rfl,⟨_,v',h'⟩,hb,hk⟩
theorem Pk {B g:Nat} {bs:List UInt8} (u:UInt8) {w:World} (h:BB w B g bs) (hlen:bs.length<=100000000000):
 Calls Tryz.prog 195 #[.pointer (some ⟨g,0,none⟩),.int .u8 u.toNat] w fun e w'=>e=.returned .nilIface/\BB w' B g (bs++ [u])/\Below B w w'/\Gs g w w':=by
 have hu:=u.toNat_lt;have h1:=Jl (u.toNat:Int) (by omega) (by omega) h hlen;have e:UInt8.ofNat (Int.toNat (u.toNat:Int))=u:=by rw[Int.toNat_natCast];simp
 rwa [e]at h1
theorem Um: ∀n:Fin 16,(⟨#[48,49,50,51,52,53,54,55,56,57,97,98,99,100,101,102]⟩:ByteArray)[n.val]'(by simp[ByteArray.size])=N1 n.val:=by decide
theorem Apa: ∀n:Fin 32,bits .and .i32 ((n.val:Nat):Int) 15=((n.val:Nat):Int) % 16:=by decide
theorem Lm {B g:Nat} {bs:List UInt8} (r:Int) (hr0:0<=r) (hr1:r<=2147483647) {w:World} (h:BB w B g bs) (hlen:bs.length<=100000000000):
 Calls Tryz.prog 198 #[.pointer (some ⟨g,0,none⟩),.int .i32 r] w fun e w'=>(∃k:Int,e=.returned (.tuple #[.int .i64 k,.nilIface]))/\BB w' B g (bs++Lib.encodeRune r)/\Below B w w'/\Gs g w w':=by
 obtain⟨p,v,h⟩:=h;refine(T7 B g 0 _ _ bs r (by omega) hr1 w h Alv (by omega) (by have:=h.lt;have:=h.1;omega)).mono ?_;rintro e w' ⟨hk0,⟨v',h'⟩,hb,hk⟩;exact⟨hk0,⟨_,v',h'⟩,hb,hk⟩
theorem Lx {B g:Nat} {bs:List UInt8} (s:ByteArray) {w:World} (h:BB w B g bs) (hlen:bs.length+s.size<=100000000000):
 Calls Tryz.prog 164 #[.pointer (some ⟨g,0,none⟩),.string s] w fun e w'=>e=.returned (.tuple #[.int .i64 s.size,.nilIface])/\BB w' B g (bs++s.data.toList)/\Below B w w'/\Gs g w w':=by
 obtain⟨p,v,h⟩:=h;refine(Mg B g 0 _ _ bs s w h Alv (by omega) (by have:=h.lt;have:=h.1;omega)).mono ?_;rintro e w' ⟨rfl,⟨v',h'⟩,hb,hk⟩;exact⟨rfl,⟨_,v',h'⟩,hb,hk⟩
theorem Aid {B g:Nat} {bs:List UInt8} {w:World} (h:BB w B g bs) (h0:bs≠ []):
 Calls Tryz.prog 80 #[.pointer (some ⟨g,0,none⟩)] w fun e w'=>e=.returned (.string ⟨bs.toArray⟩)/\Below B w w'/\Gs g w w':=by
 obtain⟨p,v,h⟩:=h;exact Q8 B g 0 _ _ bs w h h0
theorem Qc {a c:Int} (h:E9 a Ce=some c):34<=c/\c<128:=by
 simp only[Ce,E9]at h
 repeat' split at h
 all_goals first|(cases h;done)|(simp at h;omega)
theorem Nw {c:Int} (h0:0<=c) (h1:c<128):Lib.encodeRune c= [UInt8.ofNat c.toNat]:=by
 unfold Lib.encodeRune;rw[Lib.encodeRuneZ_one h0 (by omega)];rfl
theorem Rn {r:Nat} (h:E9 r Ce=none) (h2: ¬(32<=r/\r≠34/\r≠92)):r<32:=by
 simp only[Ce,E9]at h
 repeat' split at h
 all_goals first|(cases h;done)|omega
theorem Xs (r:Nat):(Am r).length<=6:=by
 unfold Am
 split
 . unfold Lib.encodeRune Lib.encodeRuneZ
   repeat' split
   all_goals simp
 . split<;>simp
theorem Jw (l:List (Nat×Nat)):(Af l).length<=6*l.length:=by
 unfold Af
 induction l with
 |nil=>simp
 |cons x r ih=>simp only[List.flatMap_cons,List.length_append,List.length_cons];have:=Xs x.2;omega
theorem Iy: ∀(n:Nat) (l:List UInt8) (p:Nat),(A8 n l p).length<=n
 |0,_,_=>by simp[A8]
 |n+1,l,p=>by
  simp only[A8]
  split
  . simp
  . split
    . simp
    . simp only[List.length_cons];have:=Iy n (l.drop (Lib.decodeL l).2) (p+(Lib.decodeL l).2);omega
theorem R0: ∀(n:Nat) (l:List UInt8) (p:Nat),∀x ∈ A8 n l p,x.2<=1114111
 |0,_,_,x,h=>by simp[A8]at h
 |n+1,l,p,x,h=>by
  simp only[A8]at h
  split at h
  . simp at h
  . split at h
    . simp at h
    . rcases List.mem_cons.1 h with rfl|h
      . exact Lib.decodeL_rune l
      . exact R0 n _ _ x h
def Wr (W:World) (B g:Nat) (keeps:Bool) (acc:List UInt8):Prop:=
 ∃p v,Q3 W B g 1 116 #[.bool keeps,p,v,.int .i64 (acc.length:Int)] (if keeps then acc else [])
theorem Aqp:liesAt Tryz.prog Tryz.prog.depth 116 (4 / Tryz.prog.cellsOf 116) 1 114 1=true:=by kernel_rfl
theorem Q3.other {w:World} {B g o:Nat} {t:TypeId} {cs:Array Value} {bs:List UInt8} (h:Q3 w B g o t cs bs) (i:Nat) (hi:i≠o) (hi2:i≠o+1) (u:Value):
 Q3 (w.setCell ⟨g,i,none⟩ u) B g o t (cs.setIfInBounds i u) bs:=by
 obtain⟨hB,hb,ht,hs,h0,v,h1,hown⟩:=h;refine⟨hB,Lt hb _,ht,by simpa using hs, ?_,v,by rw[Array.getElem?_setIfInBounds,if_neg hi2];exact h1, ?_⟩
 . rw[Array.getElem?_setIfInBounds,if_neg hi];exact h0
 . exact hown.kept (row:=some g) ⟨rfl,rfl,rfl,by simp[World.setCell],fun k _ hk=>Below.heap_setCell _ _ _ _ (fun e=>hk (by simp[e]))⟩ (Or.inr (Lib.ownBlock_ne hown hb ht))
theorem Wr.below {A W:World} {B g:Nat} {k:Bool} {acc:List UInt8} (h:Wr A B g k acc) (hb:Below A.heap.size A W):Wr W B g k acc:=by
 obtain⟨p,v,h⟩:=h;exact⟨p,v,h.keep (S5 hb) (fun k e=>by cases e)⟩
theorem Wr.put {A:World} {B g k:Nat} {b:Bool} {acc:List UInt8} {o o':Obj} (h:Wr A B g b acc) (ho:A.heap[k]? =some o) (hc:o.isCells=false):Wr (A.putObj k o') B g b acc:=by
 obtain⟨p,v,h⟩:=h;exact⟨p,v,h.keep (grownBy_putObj' A k o') (fun j e=>by cases e;exact⟨o,ho,hc⟩)⟩
theorem Wr.lt {A:World} {B g:Nat} {k:Bool} {acc:List UInt8} (h:Wr A B g k acc):g<A.heap.size:=by
 obtain⟨p,v,h⟩:=h;exact h.lt
theorem Wr.base {A:World} {B g:Nat} {k:Bool} {acc:List UInt8} (h:Wr A B g k acc):B<=g:=by
 obtain⟨p,v,h⟩:=h;exact h.1
def Gz (ss:List ByteArray):List UInt8:=ss.flatMap fun s=>s.data.toList
theorem Aiw (ss:List ByteArray) (s:ByteArray):Gz (ss++ [s])=Gz ss++s.data.toList:=by simp[Gz]
set_option maxRecDepth 100000 in
theorem Afv (B g:Nat) (keeps:Bool) (acc:List UInt8) (ss:List ByteArray) (b c:Nat) (w:World) (h:Wr w B g keeps acc) (hp:w.heap[b]? =some (.cells (ss.map Value.string).toArray 9 (0,0))) (hbg:b≠g)
 (hlen:acc.length+(Gz ss).length<=50000000000) (hn:ss.length<=1000):
 Calls Tryz.prog 114 #[.pointer (some ⟨g,0,none⟩),.slice (some ⟨b,0,none⟩) ss.length c] w fun e w'=>e=.returned (.tuple #[])/\Wr w' B g keeps (acc++Gz ss)/\Below B w w'/\Gs g w w':=by
 go_enter Tryz.func114,Tryz.ntmps114;go_wp2;go_loopw [8] (fun i wr=> ∃k:Nat,k<=ss.length/\i=.int .i64 k/\Wr wr B g keeps (acc++Gz (ss.take k))/\Below B w wr/\Gs g w wr) (fun i _=>ss.length - (intOf i).toNat)
 case atStart=>exact⟨0,Nat.zero_le _,rfl,by simpa[Gz]using h,Below.refl _ _,Lib.OthersKept.refl _ _ _⟩
 case round=>
  obtain⟨k,hk,rfl,hw,hb,hkp⟩:=hrel;by_cases hlt:k<ss.length
  . obtain⟨s,hs⟩: ∃s,ss[k]? =some s:=⟨_,List.getElem?_eq_getElem hlt⟩;have htk:ss.take (k+1)=ss.take k++ [s]:=by rw[List.take_add_one,hs];rfl
    have hfl:(Gz ss).length=(Gz (ss.take k)).length+s.size+(Gz (ss.drop (k+1))).length:=by
     have:ss=ss.take k++ [s]++ss.drop (k+1):=by rw[<-htk,List.take_append_drop]
     have h2:=congrArg (fun l=>(Gz l).length) this;simp only[Gz,List.flatMap_append,List.length_append,List.flatMap_cons,List.flatMap_nil,List.append_nil]at h2 ⊢;rw[h2,Lib.size_eq]
    have hpr:=hkp _ _ hp (by simpa using hbg) (fun c fz e=>by cases e);have cp:wr.cell? ⟨b,k,none⟩=some (.string s):=by rw[Lib.cell_of_heap hpr];simp[hs]
    obtain⟨p,v,hbl⟩:=hw;have hbl':=hbl;obtain⟨hB,hbk,ht,_,_,_⟩:=hbl';have g0:wr.cell? ⟨g,0,none⟩=some (.bool keeps):=by rw[Lib.cell_of_heap hbk];rfl
    have g3:wr.cell? ⟨g,3,none⟩=some (.int .i64 ((acc++Gz (ss.take k)).length:Int)):=by rw[Lib.cell_of_heap hbk];rfl
    have f3:wr.frozen? ⟨g,3,none⟩=false:=Lib.frozen_of_heap hbk 3;have hln:(acc++Gz (ss.take k)).length<=50000000000:=by rw[List.length_append];omega
    have hln2:(acc++Gz (ss.take k)).length+s.size<=50000000000:=by rw[List.length_append];omega
    have hz:=hbl.lt;have hfin:acc++Gz (ss.take (k+1))=(acc++Gz (ss.take k))++s.data.toList:=by rw[htk,Aiw,List.append_assoc]
    generalize acc++Gz (ss.take k)=L at*
    have Hfin:=Lib.hid hfin;have he:((L.length:Int)+(s.size:Int))=((L++s.data.toList).length:Int):=by rw[List.length_append,<-Lib.size_eq];omega
    have He:=Lib.hid he;clear hfin he hbk htk hfl
    cases keeps
    . have hbs:Q3 (wr.setCell ⟨g,3,none⟩ (.int .i64 ((L.length:Int)+(s.size:Int)))) B g 1 116 #[.bool false,p,v,.int .i64 ((L.length:Int)+(s.size:Int))] []:=hbl.other 3 (by omega) (by omega) _;go_wp2;go_roundw
      case rel=>
       refine⟨k+1,by omega,by go_num, ?_,hb.setCell (p:=⟨g,3,none⟩) hB _,hkp.setCell ⟨g,3,none⟩ rfl _⟩;rw[Hfin.out];rw[He.out]at hbs ⊢;exact⟨p,v,hbs⟩
      case measure=>simp[intOf];omega
    . have hbs:Q3 (wr.setCell ⟨g,3,none⟩ (.int .i64 ((L.length:Int)+(s.size:Int)))) B g 1 116 #[.bool true,p,v,.int .i64 ((L.length:Int)+(s.size:Int))] L:=hbl.other 3 (by omega) (by omega) _;go_wp2_with (go_at_call 164;refine(Mg B g 1 _ _ L s _ hbs Aqp (by omega) (by simp[World.setCell];omega)).mono ?_;rintro e w2 ⟨rfl,⟨v',hb2⟩,hbw2,hk2⟩);go_roundw
      case rel=>
       refine⟨k+1,by omega,by go_num, ?_,(hb.setCell (p:=⟨g,3,none⟩) hB _).trans hbw2,(hkp.setCell ⟨g,3,none⟩ rfl _).trans hk2⟩;rw[Hfin.out];rw[He.out]at hb2;exact⟨_,v',hb2⟩
      case measure=>simp[intOf];omega
  . obtain rfl:k=ss.length:=by omega
    rw[List.take_length]at hw;have Hw:=Lib.hid hw;clear hw;go_wp2
    go_end0
    exact⟨rfl,Hw.out,hb,hkp⟩
attribute [local go_sem] Oper.semAt_some
def QI (w:World) (g lb d:Nat) (pre:List (Nat×Nat)) (W:World):Prop:=
 Below w.heap.size w W/\BB W w.heap.size g (34::Af pre)/\ ∃m,Aha W lb d m
set_option maxRecDepth 100000 in
theorem Abt (s:ByteArray) (w:World) (hT:Cq w) (hs:s.size<=1000000000) (hv:Aw s=true):
 Calls Tryz.prog 167 #[.string s] w fun e w'=>e=.returned (.tuple #[.string ⟨(34::Af (Ca s)++ [34]).toArray⟩,.int .i64 0])/\Below w.heap.size w w':=by
 refine(callsIn_wide (n:=12)).1 ?_;refine callsIn_of_wp_marks Tryz.func167 rfl trivial ?_ rfl;simp only[Tryz.ntmps167,List.size_toArray,List.length_cons,List.length_nil,Nat.reduceAdd,Nat.reduceSub,Array.replicate_succ,Array.replicate_zero,List.push_toArray,List.append_toArray,List.nil_append,List.cons_append]
 gi_wp2_with (refine⟨trivial, ?_⟩;gi_at_call 132;refine(callsIn_wide.2 (Cg hv _ (by omega) hT)).mono ?_;rintro e w1 ⟨rfl,hb1⟩)
 have hz1:=hb1.size;have hB1:BB ((w1.alloc (.cells #[.map none] 213)).alloc (.cells #[.pointer none,.slice none 0 0] 114)) w.heap.size (w1.heap.size+1) []:=
  ⟨_,_,by omega,by rw[<-World.size_alloc w1 (.cells #[.map none] 213)];exact heap_alloc_new _ _,by decide,by simp,.inl rfl,.slice none 0 0,rfl,World.ownsRow_nil _ _ _ _⟩
 have hL1:((w1.alloc (.cells #[.map none] 213)).alloc (.cells #[.pointer none,.slice none 0 0] 114)).heap[w1.heap.size]? =some (.cells #[.map none] 213 (0,0)):=
  (Below.heap_alloc _ _ _ (by simp)).trans (heap_alloc_new _ _)
 have hbx:Below w.heap.size w ((w1.alloc (.cells #[.map none] 213)).alloc (.cells #[.pointer none,.slice none 0 0] 114)):=(hb1.alloc hz1 _).alloc (by simp;omega) _
 gi_wp2_with (first|(refine⟨trivial, ?_⟩;gi_at_call 195;refine(callsIn_wide.2 (Jl 34 (by omega) (by omega) hB1 (by simp))).mono ?_;rintro e w2 ⟨rfl,hB2,hb2,hk2⟩)|(refine⟨trivial, ?_⟩;gi_at_call 196;refine(callsIn_wide.2 (S4 _ _)).mono ?_;rintro e w3 ⟨rfl,rfl⟩))
 have hz2:=hb2.size;simp only[World.size_alloc]at hz2;have hL2:w2.heap[w1.heap.size]? =some (.cells #[.map none] 213 (0,0)):=hk2 _ _ hL1 (by simp) (fun c fz e=>by cases e);have hbw2:Below w.heap.size w w2:=hbx.trans hb2;clear hB1 hL1 hb1 hk2 hb2 hbx;have hnew:=heap_alloc_new w2 (.cells #[.string s] 9);have hT3:Cq (w2.alloc (.cells #[.string s] 9)):=hT.below (hbw2.alloc (by omega) _);have hyld:=Abi s w2.heap.size hs;have hB3:BB (w2.alloc (.cells #[.string s] 9)) w.heap.size (w1.heap.size+1) (34::Af []):=hB2.below ((Below.refl _ _).alloc (Nat.le_refl _) _);have hL3:=(Below.heap_alloc w2 (.cells #[.string s] 9) w1.heap.size (by omega)).trans hL2;have hbw3:Below w.heap.size w (w2.alloc (.cells #[.string s] 9)):=hbw2.alloc (by omega) _;have hz3:w2.heap.size+1=(w2.alloc (.cells #[.string s] 9)).heap.size:=by simp
 generalize w2.alloc (.cells #[.string s] 9)=w3 at*
 refine Abp (n:=10) (gf:=218) (lb:= #[.pointer (some ⟨w2.heap.size,0,none⟩)]) rfl (enters_of Tryz.func218 (by kernel_rfl) rfl) hyld (fun _=>rfl)
  (fun pre W=>QI w (w1.heap.size+1) w1.heap.size w3.heap.size pre W/\W.heap[w2.heap.size]? =some (.cells #[.string s] 9 (0,0))) ?hIn ?hIp ?hIb ?h0 ?a1 ?assign ?body ?done
 case assign=>
  intro l x W K hK
  gi_wp2
  exact hK
 case h0=>exact⟨⟨hbw3,hB3,none,hL3,fun _ h=>by cases h⟩,hnew⟩
 case hIb=>
  rintro pre A ⟨⟨h1,h2,h3⟩,h4⟩;exact⟨(Lib.cell_of_heap h4 0).trans rfl,hT.below h1⟩
 case hIn=>
  rintro pre A B ⟨⟨h1,h2,m,h3,h5⟩,h4⟩ hb;refine⟨⟨h1.trans (hb.mono h1.size),h2.below hb,m,(hb.block _ (Array.getElem?_eq_some_iff.1 h3).1).trans h3,fun mb e=>⟨(h5 mb e).1,(hb.block _ (Array.getElem?_eq_some_iff.1 (h5 mb e).2).1).trans (h5 mb e).2⟩⟩,(hb.block _ (Array.getElem?_eq_some_iff.1 h4).1).trans h4⟩
 case hIp=>
  rintro pre A k o o' ⟨⟨h1,h2,m,h3,h5⟩,h4⟩ ho hc hk;have hkw:w.heap.size<=k:=by omega
  have hk1:k<A.heap.size:=(Array.getElem?_eq_some_iff.1 ho).1;refine⟨⟨h1.grown (grownBy_putObj' A k o') (by omega) (fun j e=>by cases e;exact hkw),h2.put ho hc,m, ?_,fun mb e=>⟨(h5 mb e).1, ?_⟩⟩, ?_⟩
  . rw[World.putObj_heap_other (by omega)];exact h3
  . have:=(h5 mb e).1;rw[World.putObj_heap_other (by omega)];exact(h5 mb e).2
  . rw[World.putObj_heap_other (by omega)];exact h4
 case body=>
  rintro l pre x rest W hx ⟨⟨h1,h2,m,h3,h5⟩,h4⟩ ⟨ds,hds⟩ ⟨rc,hrc⟩;have hlen:(Af pre).length<=6000000000:=by
   have e1:=Jw pre;have e2:=congrArg List.length hx;have e3:=Iy s.size s.data.toList 0;simp only[List.length_append,List.length_cons]at e2;unfold Ca at e2;omega
  have hr:x.2<=1114111:=R0 s.size s.data.toList 0 x (by show x ∈ Ca s;rw[hx];simp);have hsn:Af (pre++ [x])=Af pre++Am x.2:=by simp[Af]
  obtain⟨p,r⟩:=x;simp only at hr hsn;have hz:=h1.size;have hDm:w3.heap.size+1<W.heap.size:=(Array.getElem?_eq_some_iff.1 hrc).1;have hdt:w1.heap.size+1<w3.heap.size:=by omega
  have hsb:w2.heap.size<w3.heap.size:=by omega
  have hsa:w1.heap.size+1<w2.heap.size:=by omega
  have fin: ∀(a:Act) (X:World) (bs:List UInt8),BB X w.heap.size (w1.heap.size+1) bs->bs=34::Af (pre++ [(p,r)])->Below w.heap.size w X->(∃m,Aha X w1.heap.size w3.heap.size m)->
   X.heap[w3.heap.size]? =some (.deferred ds)->X.heap[w3.heap.size+1]? =some (.loop rc)->X.heap[w2.heap.size]? =some (.cells #[.string s] 9 (0,0))->
   Afn (fun X=>QI w (w1.heap.size+1) w1.heap.size w3.heap.size (pre++ [(p,r)]) X/\X.heap[w2.heap.size]? =some (.cells #[.string s] 9 (0,0))) w3.heap.size W .normal a X:=by
   intro a X bs hb e hbw hl hd hr2 hbox;subst e;exact⟨hd.trans hds.symm,hr2.trans hrc.symm,⟨hbw,hb,hl⟩,hbox⟩
  have Fin:=Lib.hid fin;clear fin;by_cases hst:32<=r/\r≠34/\r≠92
  . have hq:Am r=Lib.encodeRune r:=by unfold Am;rw[if_pos hst]
    have hB:decide (32<=(r:Int)/\(r:Int)≠34/\(r:Int)≠92)=true:=by simp;omega
    have Hq:Hid ((34::Af pre)++Lib.encodeRune r=34::Af (pre++ [(p,r)])):=by
     show _=_;rw[hsn,hq];rfl
    clear hsn hq hst hx
    gi_wp2_with (first|(refine⟨trivial, ?_⟩;gi_at_call 197;refine(CallsIn.inRound l (callsIn_wide.2 (D4 hB _))).mono ?_;rintro e wx ⟨rfl,rfl⟩)|(refine⟨trivial, ?_⟩;gi_at_call 198;refine(CallsIn.inRound l (callsIn_wide.2 (Lm (r:Int) (by omega) (by omega) h2 (by simp;omega)))).mono ?_;rintro e w4 ⟨⟨kk,rfl⟩,hB4,hb4,hk4⟩))
    exact Fin.out _ _ _ hB4 Hq.out (h1.trans hb4) ⟨m,hk4 _ _ h3 (by simp) (fun c fz e=>by cases e),fun mb e=>⟨(h5 mb e).1,hk4 _ _ (h5 mb e).2 (by have:=(h5 mb e).1;simp;omega) (fun c fz e=>by cases e)⟩⟩
     (hk4 _ _ hds (by simp;omega) (fun c fz e=>by cases e)) (hk4 _ _ hrc (by simp;omega) (fun c fz e=>by cases e)) (hk4 _ _ h4 (by simp;omega) (fun c fz e=>by cases e))
  . have hB:decide (32<=(r:Int)/\(r:Int)≠34/\(r:Int)≠92)=false:=by simp;omega
    have hnil:=fun(wx:World) (m0:Option Nat)=>run_eql_map_nil (P:=Tryz.prog) wx 213 _ _ m0 Tryz.underlying213;rcases m with _|mb
    ·
     obtain⟨X,hX⟩: ∃X,(W.setCell ⟨w1.heap.size,0,none⟩ (.map (some W.heap.size))).alloc (.map (Lg Ce 0).toArray Ce.length)=X:=⟨_,rfl⟩;have hsz:(W.setCell ⟨w1.heap.size,0,none⟩ (.map (some W.heap.size))).heap.size=W.heap.size:=by simp[World.setCell]
     have hXk: ∀k,k≠w1.heap.size->k<W.heap.size->X.heap[k]? =W.heap[k]? :=fun k hk hk'=>by
      rw[<-hX,Below.heap_alloc _ _ _ (by omega),Below.heap_setCell _ _ _ _ hk]
     have hXB:BB X w.heap.size (w1.heap.size+1) (34::Af pre):=by
      rw[<-hX];exact(h2.store h3 (by decide) (by omega) 0 _).below ((Below.refl _ _).alloc (Nat.le_refl _) _)
     have hXw:Below w.heap.size w X:=by
      rw[<-hX];exact(h1.setCell (p:=⟨w1.heap.size,0,none⟩) hz1 _).alloc (by omega) _
     have hXl:X.heap[w1.heap.size]? =some (.cells #[.map (some W.heap.size)] 213 (0,0)):=by
      rw[<-hX,Below.heap_alloc _ _ _ (by omega)];exact Lt h3 _
     have hXm:X.heap[W.heap.size]? =some (.map (Lg Ce 0).toArray Ce.length):=by
      rw[<-hX];have:=heap_alloc_new (W.setCell ⟨w1.heap.size,0,none⟩ (.map (some W.heap.size))) (.map (Lg Ce 0).toArray Ce.length)
      rwa [hsz]at this
     have hXd:=(hXk _ (by omega) (by omega)).trans hds;have hXr:=(hXk _ (by omega) (by omega)).trans hrc;have hX4:=(hXk _ (by omega) (by omega)).trans h4;have c3:W.cell? ⟨w1.heap.size,0,none⟩=some (.map none):=(Lib.cell_of_heap h3 0).trans rfl;have f3:W.frozen? ⟨w1.heap.size,0,none⟩=false:=Lib.frozen_of_heap h3 0;have hlb:w1.heap.size<W.heap.size:=by omega
     have hlk:=Wf X W.heap.size Ce r hXm;have hmb:w3.heap.size+1<W.heap.size:=hDm;subst hX
     cases hf:E9 (r:Int) Ce with
     |some c=>
      rw[hf]at hlk;simp only[Option.getD_some,Option.isSome_some]at hlk;have hc:=Qc hf;have hc0:=hc.1;have hc1:=hc.2;have hq:Am r= [92,UInt8.ofNat c.toNat]:=by unfold Am;rw[if_neg hst,hf]
      have Hq:Hid (((34::Af pre)++ [UInt8.ofNat (Int.toNat 92)])++Lib.encodeRune c=34::Af (pre++ [(p,r)])):=by
       show _=_;rw[hsn,hq,Nw (by omega) hc1];simp
      clear hsn hq hst hx hf hc h5 h2
      gi_wp2_with (first|(refine⟨trivial, ?_⟩;gi_at_call 197;refine(CallsIn.inRound l (callsIn_wide.2 (D4 hB _))).mono ?_;rintro e wx ⟨rfl,rfl⟩)|(refine⟨trivial, ?_⟩;gi_at_call 199;refine(CallsIn.inRound l (callsIn_wide.2 (O0 _))).mono ?_;rintro e wx ⟨rfl,rfl⟩)|(refine⟨trivial, ?_⟩;gi_at_call 195;refine(CallsIn.inRound l (callsIn_wide.2 (Jl 92 (by omega) (by omega) hXB (by simp;omega)))).mono ?_;rintro e w4 ⟨rfl,hB4,hb4,hk4⟩)|(refine⟨trivial, ?_⟩;gi_at_call 198;refine(CallsIn.inRound l (callsIn_wide.2 (Lm c (by omega) (by omega) hB4 (by simp;omega)))).mono ?_;rintro e w5 ⟨⟨kk,rfl⟩,hB5,hb5,hk5⟩))
      have hkk:=hk4.trans hk5;exact Fin.out _ _ _ hB5 Hq.out ((hXw.trans hb4).trans hb5) ⟨some W.heap.size,hkk _ _ hXl (by simp) (fun c fz e=>by cases e),fun m' e=>by cases e;exact⟨hmb,hkk _ _ hXm (by simp;omega) (fun c fz e=>by cases e)⟩⟩
       (hkk _ _ hXd (by simp;omega) (fun c fz e=>by cases e)) (hkk _ _ hXr (by simp;omega) (fun c fz e=>by cases e)) (hkk _ _ hX4 (by simp;omega) (fun c fz e=>by cases e))
     |none=>
      rw[hf]at hlk;simp only[Option.getD_none,Option.isSome_none]at hlk;have hr32:=Rn hf hst;have hq:Am r= [92,117,48,48,N1 (r / 16),N1 (r % 16)]:=by unfold Am;rw[if_neg hst,hf]
      gi_wp2_with (first|(refine⟨trivial, ?_⟩;gi_at_call 197;refine(CallsIn.inRound l (callsIn_wide.2 (D4 hB _))).mono ?_;rintro e wx ⟨rfl,rfl⟩)|(refine⟨trivial, ?_⟩;gi_at_call 199;refine(CallsIn.inRound l (callsIn_wide.2 (O0 _))).mono ?_;rintro e wx ⟨rfl,rfl⟩)|(refine⟨trivial, ?_⟩;gi_at_call 164;refine(CallsIn.inRound l (callsIn_wide.2 (Lx ⟨#[92,117,48,48]⟩ hXB (by simp[ByteArray.size];omega)))).mono ?_;rintro e w4 ⟨rfl,hB4,hb4,hk4⟩))
      refine⟨trivial, ?_⟩;refine(CallsIn.inRound l (callsIn_wide.2 (Pk _ hB4 (by simp;omega)))).mono ?_;rintro e w5 ⟨rfl,hB5,hb5,hk5⟩;rw[Um ⟨r / 16,by omega⟩]at hB5;have hand:=Apa ⟨r,hr32⟩;dsimp only at hand;have hm0:0<=(r:Int) % 16:=by omega
      have hm1:(r:Int) % 16<16:=by omega
      have hm2:r % 16<16:=by omega
      gi_wp2_with fail
      refine⟨trivial, ?_⟩;refine(CallsIn.inRound l (callsIn_wide.2 (Pk _ hB5 (by simp;omega)))).mono ?_;rintro e w6 ⟨rfl,hB6,hb6,hk6⟩;rw[Um ⟨r % 16,by omega⟩]at hB6
      gi_wp2_with fail
      have hkk:=(hk4.trans hk5).trans hk6;have Hq:(((34::Af pre)++ [92,117,48,48])++ [N1 (r / 16)])++ [N1 (r % 16)]=34::Af (pre++ [(p,r)]):=by
       rw[hsn,hq];simp
      exact Fin.out _ _ _ hB6 Hq (((hXw.trans hb4).trans hb5).trans hb6) ⟨some W.heap.size,hkk _ _ hXl (by simp) (fun c fz e=>by cases e),fun m' e=>by cases e;exact⟨hmb,hkk _ _ hXm (by simp;omega) (fun c fz e=>by cases e)⟩⟩
       (hkk _ _ hXd (by simp;omega) (fun c fz e=>by cases e)) (hkk _ _ hXr (by simp;omega) (fun c fz e=>by cases e)) (hkk _ _ hX4 (by simp;omega) (fun c fz e=>by cases e))
    ·
     have hXm:=(h5 mb rfl).2;have hmb:=(h5 mb rfl).1;have c3:W.cell? ⟨w1.heap.size,0,none⟩=some (.map (some mb)):=(Lib.cell_of_heap h3 0).trans rfl;have hlk:=Wf W mb Ce r hXm;have hXB:=h2;have hXw:=h1;have hXl:=h3;have hXd:=hds;have hXr:=hrc;have hX4:=h4
     cases hf:E9 (r:Int) Ce with
     |some c=>
      rw[hf]at hlk;simp only[Option.getD_some,Option.isSome_some]at hlk;have hc:=Qc hf;have hc0:=hc.1;have hc1:=hc.2;have hq:Am r= [92,UInt8.ofNat c.toNat]:=by unfold Am;rw[if_neg hst,hf]
      have Hq:Hid (((34::Af pre)++ [UInt8.ofNat (Int.toNat 92)])++Lib.encodeRune c=34::Af (pre++ [(p,r)])):=by
       show _=_;rw[hsn,hq,Nw (by omega) hc1];simp
      clear hsn hq hst hx hf hc h5 h2
      gi_wp2_with (first|(refine⟨trivial, ?_⟩;gi_at_call 197;refine(CallsIn.inRound l (callsIn_wide.2 (D4 hB _))).mono ?_;rintro e wx ⟨rfl,rfl⟩)|(refine⟨trivial, ?_⟩;gi_at_call 195;refine(CallsIn.inRound l (callsIn_wide.2 (Jl 92 (by omega) (by omega) hXB (by simp;omega)))).mono ?_;rintro e w4 ⟨rfl,hB4,hb4,hk4⟩)|(refine⟨trivial, ?_⟩;gi_at_call 198;refine(CallsIn.inRound l (callsIn_wide.2 (Lm c (by omega) (by omega) hB4 (by simp;omega)))).mono ?_;rintro e w5 ⟨⟨kk,rfl⟩,hB5,hb5,hk5⟩))
      have hkk:=hk4.trans hk5;exact Fin.out _ _ _ hB5 Hq.out ((hXw.trans hb4).trans hb5) ⟨some mb,hkk _ _ hXl (by simp) (fun c fz e=>by cases e),fun m' e=>by cases e;exact⟨hmb,hkk _ _ hXm (by simp;omega) (fun c fz e=>by cases e)⟩⟩
       (hkk _ _ hXd (by simp;omega) (fun c fz e=>by cases e)) (hkk _ _ hXr (by simp;omega) (fun c fz e=>by cases e)) (hkk _ _ hX4 (by simp;omega) (fun c fz e=>by cases e))
     |none=>
      rw[hf]at hlk;simp only[Option.getD_none,Option.isSome_none]at hlk;have hr32:=Rn hf hst;have hq:Am r= [92,117,48,48,N1 (r / 16),N1 (r % 16)]:=by unfold Am;rw[if_neg hst,hf]
      gi_wp2_with (first|(refine⟨trivial, ?_⟩;gi_at_call 197;refine(CallsIn.inRound l (callsIn_wide.2 (D4 hB _))).mono ?_;rintro e wx ⟨rfl,rfl⟩)|(refine⟨trivial, ?_⟩;gi_at_call 164;refine(CallsIn.inRound l (callsIn_wide.2 (Lx ⟨#[92,117,48,48]⟩ hXB (by simp[ByteArray.size];omega)))).mono ?_;rintro e w4 ⟨rfl,hB4,hb4,hk4⟩))
      refine⟨trivial, ?_⟩;refine(CallsIn.inRound l (callsIn_wide.2 (Pk _ hB4 (by simp;omega)))).mono ?_;rintro e w5 ⟨rfl,hB5,hb5,hk5⟩;rw[Um ⟨r / 16,by omega⟩]at hB5;have hand:=Apa ⟨r,hr32⟩;dsimp only at hand;have hm0:0<=(r:Int) % 16:=by omega
      have hm1:(r:Int) % 16<16:=by omega
      have hm2:r % 16<16:=by omega
      gi_wp2_with fail
      refine⟨trivial, ?_⟩;refine(CallsIn.inRound l (callsIn_wide.2 (Pk _ hB5 (by simp;omega)))).mono ?_;rintro e w6 ⟨rfl,hB6,hb6,hk6⟩;rw[Um ⟨r % 16,by omega⟩]at hB6
      gi_wp2_with fail
      have hkk:=(hk4.trans hk5).trans hk6;have Hq:(((34::Af pre)++ [92,117,48,48])++ [N1 (r / 16)])++ [N1 (r % 16)]=34::Af (pre++ [(p,r)]):=by
       rw[hsn,hq];simp
      exact Fin.out _ _ _ hB6 Hq (((hXw.trans hb4).trans hb5).trans hb6) ⟨some mb,hkk _ _ hXl (by simp) (fun c fz e=>by cases e),fun m' e=>by cases e;exact⟨hmb,hkk _ _ hXm (by simp;omega) (fun c fz e=>by cases e)⟩⟩
       (hkk _ _ hXd (by simp;omega) (fun c fz e=>by cases e)) (hkk _ _ hXr (by simp;omega) (fun c fz e=>by cases e)) (hkk _ _ hX4 (by simp;omega) (fun c fz e=>by cases e))
 case done=>
  rintro W ⟨⟨h1,h2,m,h3,h5⟩,h4⟩ hds;have hdt:w1.heap.size+1<w3.heap.size:=by omega
  have hlen:(Af (Ca s)).length<=6000000000:=by
   have e1:=Jw (Ca s);have e3:=Iy s.size s.data.toList 0;unfold Ca at e1 ⊢;omega
  gi_wp2_with (first|(refine⟨trivial, ?_⟩;gi_at_call 195;refine(callsIn_wide.2 (Jl 34 (by omega) (by omega) h2 (by simp;omega))).mono ?_;rintro e w4 ⟨rfl,hB4,hb4,hk4⟩)|(refine⟨trivial, ?_⟩;gi_at_call 80;refine(callsIn_wide.2 (Aid hB4 (by simp))).mono ?_;rintro e w5 ⟨rfl,hb5,hk5⟩))
  have hd4:=hk4 _ _ hds (by simp;omega) (fun c fz e=>by cases e);have hd5:=hk5 _ _ hd4 (by simp;omega) (fun c fz e=>by cases e);refine⟨by simp,.inl ⟨_,_,rfl,run_takeDeferred hd5, ?_⟩⟩;have hbw5:Below w.heap.size w w5:=(h1.trans hb4).trans hb5;refine⟨_,results_tmp2 rfl _ _ _,rfl,hbw5.grown (grownBy_putObj' w5 _ _) hbw5.size (fun k e=>by cases e;omega)⟩
def Bp (s:ByteArray):List UInt8:=34::Af (Ca s)++ [34]
mutual
def Ak:Val->List UInt8
 | .mk k b n t l o=>
   if k=2 then Lib.formatBool b else if k=3 then Lib.itoa n else if k=4 then Bp t
   else if k=5 then 91::(Br l true++ [93])else if k=6 then 123::(By o true++ [125])else [110,117,108,108]
def Br:List Val->Bool->List UInt8
 | [],_=> []
 |v::r,f=>(if f then []else [44])++(Ak v++Br r false)
def By:List (ByteArray×Val)->Bool->List UInt8
 | [],_=> []
 |p::r,f=>(if f then []else [44])++(J1 p++By r false)
def J1:ByteArray×Val->List UInt8
 |(key,v)=>Bp key++(58::Ak v)
end
mutual
def okV:Val->Prop
 | .mk _ _ n t l o=>Aw t=true/\(-9223372036854775808<=n/\n<=9223372036854775807)/\okL l/\okO o
def okL:List Val->Prop
 | []=>True
 |v::r=>okV v/\okL r
def okO:List (ByteArray×Val)->Prop
 | []=>True
 |p::r=>okP p/\okO r
def okP:ByteArray×Val->Prop
 |(key,v)=>Aw key=true/\okV v
end
def Qa (k:Int):Nat:=
 if k=2 then 113 else if k=3 then 116 else if k=4 then 118 else if k=5 then 120 else if k=6 then 122 else 124
def Lr (k:Int) (p:Nat):Array Value:=
 if k=2\/k=3\/k=4\/k=5\/k=6 then #[.pointer (some ⟨p,0,none⟩)]else #[]
theorem Mi (k:Int) (args:Array Value) (w:World):(callFunc (Qa k) args).run Tryz.prog w=.ok (.enter (Qa k) args) w:=by
 unfold Qa
 split
 . exact enters_of Tryz.func113 (by kernel_rfl) rfl args w
 split
 . exact enters_of Tryz.func116 (by kernel_rfl) rfl args w
 split
 . exact enters_of Tryz.func118 (by kernel_rfl) rfl args w
 split
 . exact enters_of Tryz.func120 (by kernel_rfl) rfl args w
 split
 . exact enters_of Tryz.func122 (by kernel_rfl) rfl args w
 . exact enters_of Tryz.func124 (by kernel_rfl) rfl args w
theorem Pt (k:Int) (b:Bool) (n:Int) (t:ByteArray) (la oa:Option Addr) (ln lc on oc:Nat) (w:World):
 Calls Tryz.prog 79 #[.agg #[.int .i64 k,.bool b,.int .i64 n,.string t,.slice la ln lc,.slice oa on oc]] w fun e w'=>
  e=.returned (.func (.func (Qa k)) #[] (Lr k w.heap.size))/\w.alloc (.cells #[.int .i64 k,.bool b,.int .i64 n,.string t,.slice la ln lc,.slice oa on oc] 27)=w':=by
 rcases(by omega:k=2\/k=3\/k=4\/k=5\/k=6\/(k≠2/\k≠3/\k≠4/\k≠5/\k≠6))with rfl|rfl|rfl|rfl|rfl|⟨h2,h3,h4,h5,h6⟩
 all_goals
  try have e2:(k==2)=false:=by simpa using h2
  try have e3:(k==3)=false:=by simpa using h3
  try have e4:(k==4)=false:=by simpa using h4
  try have e5:(k==5)=false:=by simpa using h5
  try have e6:(k==6)=false:=by simpa using h6
  try have hf:Hid (Qa k=124):=by show _=_;simp[Qa,h2,h3,h4,h5,h6]
  try have hc:Hid (Lr k w.heap.size= #[]):=by show _=_;simp[Lr,h2,h3,h4,h5,h6]
  try clear h2 h3 h4 h5 h6
  go_enter Tryz.func79,Tryz.ntmps79;go_wp2;go_ret
 all_goals first|exact⟨rfl,rfl⟩|exact⟨by rw[hf.out,hc.out];rfl,rfl⟩
def Aab (v:Val):Prop:= ∀(W:World) (B g p:Nat) (keeps:Bool) (acc:List UInt8) (cs:List Value) (k:Int) (b:Bool) (n:Int) (t:ByteArray) (l:List Val) (o:List (ByteArray×Val)),v=.mk k b n t l o->5<=B->Cq W->Ab W B v cs->
    W.heap[p]? =some (.cells cs.toArray 27 (0,0))->p≠g->Wr W B g keeps acc->okV v->v.bulk<=1000000000->acc.length+6*v.bulk<=20000000000->
    Calls Tryz.prog (Qa k) (#[.pointer (some ⟨g,0,none⟩)]++Lr k p) W fun e W'=>e=.returned (.tuple #[])/\Wr W' B g keeps (acc++Ak v)/\Below B W W'/\Gs g W W'
theorem Cq.keep {w w':World} {B:Nat} (h:Cq w) (hb:Below B w w') (h5B:5<=B):Cq w':=by
 obtain⟨h5,⟨h1,h2⟩,h3⟩:=h;refine⟨Nat.le_trans h5 hb.size,⟨fun c hc=> ?_,fun i hi=>⟨?_, ?_⟩⟩, ?_⟩
 . exact(hb.cell (p:=⟨1,c,none⟩) (by show 1<_;omega)).trans (h1 c hc)
 . exact(hb.cell (p:=⟨2,2*i,none⟩) (by show 2<_;omega)).trans (h2 i hi).1
 . exact(hb.cell (p:=⟨2,2*i+1,none⟩) (by show 2<_;omega)).trans (h2 i hi).2
 . have hg:Tryz.prog.globalNamed "internal/strconv.uint64pow10" =some 4:=by kernel_rfl
   unfold Lib.TabIs World.var? at h3 ⊢;rw[hg]at h3 ⊢;simp only[Option.bind_some]at h3 ⊢;rw[hb.block 4 (by omega)];exact h3
theorem Afo (W:World) (k:Nat) (os:Array Obj):Below W.heap.size W (Sort.grow (W.drewN k) os):=
 ⟨rfl,rfl,rfl,by show W.heap.size<=(W.heap++os).size;simp,fun i hi=>by show(W.heap++os)[i]? =W.heap[i]?;rw[Array.getElem?_append_left hi]⟩
theorem Ox (b:Bool):(Lib.formatBool b).length<=5:=by cases b<;>decide
theorem K8 (l:List UInt8):Gz [⟨l.toArray⟩]=l:=by simp[Gz]
theorem Iv {B g:Nat} {keeps:Bool} {acc:List UInt8} {w:World} (ss:List ByteArray) (c:Nat) (h:Wr w B g keeps acc) (hlen:acc.length+(Gz ss).length<=50000000000) (hn:ss.length<=1000):
 Calls Tryz.prog 114 #[.pointer (some ⟨g,0,none⟩),.slice (some ⟨w.heap.size,0,none⟩) ss.length c] (w.alloc (.cells (ss.map Value.string).toArray 9 (0,0))) fun e w'=>e=.returned (.tuple #[])/\Wr w' B g keeps (acc++Gz ss)/\Below B w w'/\Gs g w w':=by
 have hlt:=h.lt;have hb:=h.base;refine(Afv B g keeps acc ss w.heap.size c _ (h.below ((Below.refl _ _).alloc (Nat.le_refl _) _)) (heap_alloc_new _ _) (by omega) hlen hn).mono ?_;rintro e w' ⟨rfl,h1,h2,h3⟩;exact⟨rfl,h1,((Below.refl B w).alloc (by omega) _).trans h2,((Lib.OthersKept.refl _ _ w).alloc _).trans h3⟩
theorem Aes (W:World) (B g p:Nat) (keeps:Bool) (acc:List UInt8) (b:Bool) (v2 v3 v4 v5:Value) (k:Value) (hp:W.heap[p]? =some (.cells #[k,.bool b,v2,v3,v4,v5] 27 (0,0)))
 (hW:Wr W B g keeps acc) (hlen:acc.length<=20000000000):
 Calls Tryz.prog 113 #[.pointer (some ⟨g,0,none⟩),.pointer (some ⟨p,0,none⟩)] W fun e W'=>e=.returned (.tuple #[])/\Wr W' B g keeps (acc++Lib.formatBool b)/\Below B W W'/\Gs g W W':=by
 have c1:W.cell? ⟨p,1,none⟩=some (.bool b):=(Lib.cell_of_heap hp 1).trans rfl;have hj:=Iv [⟨(Lib.formatBool b).toArray⟩] 1 hW (by rw[K8];have:=Ox b;omega) (by simp);rw[K8]at hj;have cB:=Tryz.strconv_FormatBool b W;generalize Lib.formatBool b=L at hj cB ⊢;obtain⟨HJ,CB⟩:=hid2 hj cB;clear hj cB;go_enter Tryz.func113,Tryz.ntmps113;go_wp2_with (first|(go_at_call 115;refine(CB.out).mono ?_;rintro e wx ⟨rfl,hwx⟩;subst hwx)|(go_at_call 114;refine(HJ.out).mono ?_;rintro e w2 ⟨rfl,h1,h2,h3⟩))
 go_end0
 exact⟨rfl,h1,h2,h3⟩
theorem Ag9 (W:World) (B g p:Nat) (keeps:Bool) (acc:List UInt8) (n:Int) (v1 v3 v4 v5:Value) (k:Value) (hp:W.heap[p]? =some (.cells #[k,v1,.int .i64 n,v3,v4,v5] 27 (0,0)))
 (hT:Cq W) (hn0: -9223372036854775808<=n) (hn1:n<=9223372036854775807) (_hpg:p≠g) (hW:Wr W B g keeps acc) (hlen:acc.length<=20000000000):
 Calls Tryz.prog 116 #[.pointer (some ⟨g,0,none⟩),.pointer (some ⟨p,0,none⟩)] W fun e W'=>e=.returned (.tuple #[])/\Wr W' B g keeps (acc++Lib.itoa n)/\Below B W W'/\Gs g W W':=by
 have c1:W.cell? ⟨p,2,none⟩=some (.int .i64 n):=(Lib.cell_of_heap hp 2).trans rfl;have hl:=Lib.itoa_length_le n hn0 hn1;have cB:=Tryz.strconv_FormatInt_10 n hn0 hn1 W hT.2.2;have hj: ∀w1,Below W.heap.size W w1->Calls Tryz.prog 114 #[.pointer (some ⟨g,0,none⟩),.slice (some ⟨w1.heap.size,0,none⟩) 1 1] (w1.alloc (.cells #[.string ⟨(Lib.itoa n).toArray⟩] 9 (0,0))) fun e w'=>e=.returned (.tuple #[])/\Wr w' B g keeps (acc++Lib.itoa n)/\Below B w1 w'/\Gs g w1 w':=fun w1 hb=>by
  have:=Iv [⟨(Lib.itoa n).toArray⟩] 1 (hW.below hb) (by rw[K8];omega) (by simp)
  rwa [K8]at this
 have hB:=hW.base;have hlt:=hW.lt;generalize Lib.itoa n=L at hj cB ⊢;obtain⟨HJ,CB⟩:=hid2 hj cB;clear hj cB hl hp;go_enter Tryz.func116,Tryz.ntmps116;go_wp2_with (first|(go_at_call 117;refine(CB.out).mono ?_;rintro e w1 ⟨rfl,kk,os,hwx⟩;have hb1:Below W.heap.size W w1:=hwx▸Afo W kk os;clear hwx)|(go_at_call 114;refine(HJ.out _ hb1).mono ?_;rintro e w2 ⟨rfl,h1,h2,h3⟩))
 go_end0
 exact⟨rfl,h1,(hb1.mono (by omega)).trans h2,fun j o hj hg ho=>h3 j o ((hb1.block j (Array.getElem?_eq_some_iff.1 hj).1).trans hj) hg ho⟩
theorem Aet (W:World) (B g:Nat) (keeps:Bool) (acc:List UInt8) (hW:Wr W B g keeps acc) (hlen:acc.length<=20000000000):
 Calls Tryz.prog 124 #[.pointer (some ⟨g,0,none⟩)] W fun e W'=>e=.returned (.tuple #[])/\Wr W' B g keeps (acc++ [110,117,108,108])/\Below B W W'/\Gs g W W':=by
 have hj:=Iv [⟨#[110,117,108,108]⟩] 1 hW (by simp[Gz];omega) (by simp);have HJ:=Lib.hid hj;clear hj;go_enter Tryz.func124,Tryz.ntmps124;go_wp2_with (go_at_call 114;refine(HJ.out).mono ?_;rintro e w2 ⟨rfl,h1,h2,h3⟩)
 go_end0
 exact⟨rfl,h1,h2,h3⟩
theorem Tp (s:ByteArray) (w:World) (hT:Cq w) (hs:s.size<=1000000000) (hv:Aw s=true):
 Calls Tryz.prog 119 #[.string s] w fun e w'=>e=.returned (.string ⟨(Bp s).toArray⟩)/\Below w.heap.size w w':=by
 have cQ:=Abt s w hT hs hv;unfold Bp;generalize 34::Af (Ca s)++ [34]=L at cQ ⊢;have CQ:=Lib.hid cQ;clear cQ;go_enter Tryz.func119,Tryz.ntmps119;go_wp2_with (go_at_call 167;refine(CQ.out).mono ?_;rintro e w2 ⟨rfl,h1⟩);go_ret;exact⟨rfl,h1⟩
theorem L6 (s:ByteArray):(Bp s).length<=6*s.size+2:=by
 have e1:=Jw (Ca s);have e3:=Iy s.size s.data.toList 0;unfold Ca at e1;unfold Bp Ca;simp only[List.length_cons,List.length_append,List.length_nil];omega
theorem Aeu (W:World) (B g p:Nat) (keeps:Bool) (acc:List UInt8) (t:ByteArray) (v1 v2 v4 v5:Value) (k:Value) (hp:W.heap[p]? =some (.cells #[k,v1,v2,.string t,v4,v5] 27 (0,0)))
 (hT:Cq W) (hv:Aw t=true) (ht:t.size<=1000000000) (_hpg:p≠g) (hW:Wr W B g keeps acc) (hlen:acc.length<=20000000000):
 Calls Tryz.prog 118 #[.pointer (some ⟨g,0,none⟩),.pointer (some ⟨p,0,none⟩)] W fun e W'=>e=.returned (.tuple #[])/\Wr W' B g keeps (acc++Bp t)/\Below B W W'/\Gs g W W':=by
 have c1:W.cell? ⟨p,3,none⟩=some (.string t):=(Lib.cell_of_heap hp 3).trans rfl;have hl:=L6 t;have cB:=Tp t W hT ht hv;have hj: ∀w1,Below W.heap.size W w1->Calls Tryz.prog 114 #[.pointer (some ⟨g,0,none⟩),.slice (some ⟨w1.heap.size,0,none⟩) 1 1] (w1.alloc (.cells #[.string ⟨(Bp t).toArray⟩] 9 (0,0))) fun e w'=>e=.returned (.tuple #[])/\Wr w' B g keeps (acc++Bp t)/\Below B w1 w'/\Gs g w1 w':=fun w1 hb=>by
  have:=Iv [⟨(Bp t).toArray⟩] 1 (hW.below hb) (by rw[K8];omega) (by simp)
  rwa [K8]at this
 have hB:=hW.base;have hlt:=hW.lt;generalize Bp t=L at hj cB ⊢;obtain⟨HJ,CB⟩:=hid2 hj cB;clear hj cB hl hp;go_enter Tryz.func118,Tryz.ntmps118;go_wp2_with (first|(go_at_call 119;refine(CB.out).mono ?_;rintro e w1 ⟨rfl,hb1⟩)|(go_at_call 114;refine(HJ.out _ hb1).mono ?_;rintro e w2 ⟨rfl,h1,h2,h3⟩))
 go_end0
 exact⟨rfl,h1,(hb1.mono (by omega)).trans h2,fun j o hj hg ho=>h3 j o ((hb1.block j (Array.getElem?_eq_some_iff.1 hj).1).trans hj) hg ho⟩
theorem Qb (i:Int) (w:World):Calls Tryz.prog 121 #[.int .i64 i] w fun e w'=>e=.returned (.string ⟨(if i=0 then []else [44]:List UInt8).toArray⟩)/\w=w':=by
 by_cases h:i=0
 . subst h;go_enter Tryz.func121,Tryz.ntmps121;go_wp2;go_ret;exact⟨rfl,rfl⟩
 . have e:(i==0)=false:=by simpa using h
   rw[if_neg h];clear h;go_enter Tryz.func121,Tryz.ntmps121;go_wp2;go_ret;exact⟨rfl,rfl⟩
structure MKey {α:Type} [DecidableEq α] (P:Program) (kt:TypeId) (f:α->Value):Prop where
 under: ∃d,P.underlying kt=some d/\ ∀a b,Instr.sameNow d (f a) (f b)=some (decide (a=b))
 check: ∀e w a,(Instr.checkKey e 10000 kt (f a)).run P w=.ok () w
theorem Ae7 (a b:ByteArray):(a==b)=decide (a=b):=by
 obtain⟨a⟩:=a;obtain⟨b⟩:=b;have h:((⟨a⟩:ByteArray)==⟨b⟩)=(a==b):=rfl;rw[h];by_cases e:a=b<;>simp[e]
theorem Ti {P:Program} {kt:TypeId} (h:P.underlying kt=some .string):MKey P kt Value.string:=by
 refine⟨⟨_,h,fun a b=> ?_⟩,fun e w a=> ?_⟩
 . simp only[Instr.sameNow]
   congr 1
   exact Ae7 a b
 . have key: ∀n,(Instr.checkKey e (n+1) kt (.string a)).run P w=.ok () w:=fun n=>by simp[Instr.checkKey,run_underlying h]
   exact key 9999
theorem Al5 {P:Program} {kt:TypeId} {q:IntKind} (h:P.underlying kt=some (.int q)):MKey P kt (Value.int q):=by
 refine⟨⟨_,h,fun a b=> ?_⟩,fun e w a=> ?_⟩
 . simp only[Instr.sameNow,if_true]
   congr 1
 . have key: ∀n,(Instr.checkKey e (n+1) kt (.int q a)).run P w=.ok () w:=fun n=>by simp[Instr.checkKey,run_underlying h]
   exact key 9999
section
variable {α:Type}
def Mj (f:α->Value):List (α×Value)->Nat->List MapEntry
 | [],_=> []
 |(k,v)::r,i=>{key:=f k,val:=v,born:=i}::Mj f r (i+1)
def Da (f:α->Value) (w:World) (g:Nat) (kv:List (α×Value)):Prop:=w.heap[g]? =some (.map (Mj f kv 0).toArray kv.length)
def Dt [DecidableEq α] (a:α):List (α×Value)->Option Value
 | []=>none
 |(k,v)::r=>if a=k then some v else Dt a r
variable {f:α->Value} {P:Program} {kt et t:TypeId} {w w':World} {g:Nat} {kv:List (α×Value)}
theorem Ri: ∀(kv:List (α×Value)) (i:Nat) (k:α) (v:Value),Mj f (kv++ [(k,v)]) i=Mj f kv i++ [{key:=f k,val:=v,born:=i+kv.length}]
 | [],i,k,v=>by simp[Mj]
 |(a,b)::r,i,k,v=>by
  simp only[List.cons_append,Mj,Ri r,List.length_cons];rw[show i+1+r.length=i+(r.length+1)from by omega]
theorem Da.lt (h:Da f w g kv):g<w.heap.size:=by
 rcases Nat.lt_or_ge g w.heap.size with h1|h1
 . exact h1
 . unfold Da at h;rw[Array.getElem?_eq_none h1]at h;cases h
theorem Da.keep (h:Da f w g kv) (hk:w'.heap[g]? =w.heap[g]?):Da f w' g kv:=hk.trans h
theorem Da.below {B:Nat} (h:Da f w g kv) (hb:Below B w w') (hg:g<B):Da f w' g kv:=(hb.block g hg).trans h
theorem Da.alloc (h:Da f w g kv) (o:Obj):Da f (w.alloc o) g kv:=(Below.heap_alloc w o g h.lt).trans h
theorem Da.new (w:World):Da f (w.alloc (.map #[] 0)) w.heap.size []:=heap_alloc_new w _
theorem Da.setCell (h:Da f w g kv) {p:Addr} (hp:g≠p.block) (u:Value):Da f (w.setCell p u) g kv:=(Below.heap_setCell w p u g hp).trans h
variable [DecidableEq α]
theorem Sj {d:TypeDesc} (hd: ∀a b,Instr.sameNow d (f a) (f b)=some (decide (a=b))) (a:α): ∀(kv:List (α×Value)) (i j:Nat),∃q,Instr.findNow d (f a) (Mj f kv i) j=some q/\q.map (·.2)=Dt a kv
 | [],_,_=>⟨none,rfl,rfl⟩
 |(k,v)::r,i,j=>by
  by_cases h:a=k
  . exact⟨some (j,v),by simp[Mj,Instr.findNow,hd,h],by simp[Dt,h]⟩
  . obtain⟨q,h1,h2⟩:=Sj hd a r (i+1) (j+1);exact⟨q,by simp[Mj,Instr.findNow,hd,h,h1],by rw[h2];simp[Dt,h]⟩
theorem O8 (K:MKey P kt f) (ht:P.underlying t=some (.map kt et)) (h:Da f w g kv) {a:α} (hn:Dt a kv=none) (v:Value):
 ∃w',(Instr.mapUpdate t (.map (some g)) (f a) v).run P w=.ok () w'/\Da f w' g (kv++ [(a,v)])/\w.grownBy w' (some g)/\w'.heap.size=w.heap.size:=by
 obtain⟨d,hd,hs⟩:=K.under;obtain⟨q,h1,h2⟩:=Sj hs a kv 0 0;rw[hn]at h2;have hq:q=none:=by cases q<;>simp_all
 subst hq;have hck:=K.check false w a;have hfk:(Instr.findKey kt (f a) (Mj f kv 0)).run P w=.ok none w:=by simp[Instr.findKey,Sem.run_bind,run_underlying hd,h1]
 have hlt:=h.lt;refine⟨{w with heap:=w.heap.setIfInBounds g (.map ((Mj f kv 0).toArray.push {key:=f a,val:=v,born:=kv.length}) (kv.length+1))}, ?_, ?_, ?_, ?_⟩
 . have hb:w.heap[g]? =some (.map (Mj f kv 0).toArray kv.length):=h;unfold Instr.mapUpdate;simp only[Sem.run_bind,run_underlying ht,Result.andThen,getObj,Sem.run,hb,hck,hfk,setObj]
 . unfold Da;simp[hlt,Ri]
 . exact⟨rfl,rfl,rfl,by simp,fun k hk hne=>by simp only[Array.getElem?_setIfInBounds];rw[if_neg];rintro rfl;exact hne rfl⟩
 . simp
theorem Bx {ops:Array Oper} {rest:List Oper} {o:Oper} {a:Act} {Q:Exit->Act->World->Prop} (hg:o.guard=none) (m x u:Operand) (t:TypeId) (hop:o.op=Op.insert t m x u)
 (K:MKey P kt f) (ht:P.underlying t=some (.map kt et)) (hm:a.eval m=.map (some g)) (h:Da f w g kv) {k:α} {v:Value} (hx:a.eval x=f k) (hv:a.eval u=v) (hn:Dt k kv=none)
 (hK: ∀w',Da f w' g (kv++ [(k,v)])->w.grownBy w' (some g)->w'.heap.size=w.heap.size->wpList P ops Q rest (a.put o.dst undef) w'):wpList P ops Q (o::rest) a w:=by
 refine wpList_plain hg fun K' hK'=> ?_;obtain⟨w',hrun,r1,r2,r3⟩:=O8 K ht h hn v;unfold Oper.wp;simp[execOp,hop,hm,hx,hv,hrun,Result.andThen];exact hK' _ _ (hK w' r1 r2 r3)
theorem Km (K:MKey P kt f) (ht:P.underlying t=some (.map kt et)) (h:Da f w g kv) (a:α) {z:Value} (hz: ∀w,(zeroValue et).run P w=.ok z w) (c:Bool):
 (Instr.lookup t (.map (some g)) (f a) c).run P w=.ok (if c then .tuple #[(Dt a kv).getD z,.bool (Dt a kv).isSome]else(Dt a kv).getD z) w:=by
 obtain⟨d,hd,hs⟩:=K.under;obtain⟨q,h1,h2⟩:=Sj hs a kv 0 0;have hck:=fun e=>K.check e w a;have hfk:(Instr.findKey kt (f a) (Mj f kv 0)).run P w=.ok q w:=by simp[Instr.findKey,Sem.run_bind,run_underlying hd,h1]
 have hb:w.heap[g]? =some (.map (Mj f kv 0).toArray kv.length):=h;unfold Instr.lookup;simp only[Sem.run_bind,run_underlying ht,Result.andThen,getObj,Sem.run,hb]
 cases q with
 |none=>
  have:Dt a kv=none:=by cases hq:Dt a kv<;>simp_all
  rw[this]
  cases c<;>simp[hck,hfk,hz w,Result.andThen]
 |some p=>
  obtain⟨i,v⟩:=p;have:Dt a kv=some v:=by rw[<-h2];rfl
  rw[this]
  cases c<;>simp[hck,hfk]
end
end Go.Proofs.YtmglfdckpjegdaaGreatDoor
