/- Parts: Rows that a call builds by append: several data at once; a row's literal. Plain. No condition. -/
import Derived.Lib.MapLaws
import Derived.Lib.TrimUEq
import Derived.LoopIn
import Derived.LoopNIn
import Derived.Lib.RuneBytes
import Derived.Test.YtolnhkmhfblhkaaGreatDoorKSn2
import Derived.Test.YtolnhkmhfblhkaaGreatDoorKSn4
set_option maxHeartbeats 20000000
set_option maxRecDepth 100000
namespace Go.Proofs.YtolnhkmhfblhkaaGreatDoor
open Go.RowKit
attribute [local go_sem] Oper.semAt_some
def Ar:Nat->List UInt8->Nat->List (Nat×Nat)
 |0,_,_=> []
 |n+1,l,p=>if l= []then []else if(Lib.decodeL l).1=65533/\(Lib.decodeL l).2=1 then []else(p,(Lib.decodeL l).1)::Ar n (l.drop (Lib.decodeL l).2) (p+(Lib.decodeL l).2)
def B6 (s:ByteArray):List (Nat×Nat):=Ar s.size s.data.toList 0
theorem Gk (s:ByteArray) (k:Nat) (h:k<s.size):(if(s.extract k s.size).size=0 then(65533,0)else Utf8.decode (s.extract k s.size) 0)=Lib.decodeL (s.data.toList.drop k):=by
 have e:(s.extract k s.size)=⟨(s.data.toList.drop k).toArray⟩:=by
  apply ByteArray.ext;apply Array.ext';rw[Lib.extract_data];dsimp only;rw[List.take_of_length_le (by rw[List.length_drop,<-Lib.size_eq];omega)]
 rw[if_neg (by rw[ByteArray.size_extract];omega),e];rfl
theorem Gc (s:ByteArray) (w:World):
 Calls Tryz.prog 161 #[.string s] w fun e w'=>e=.returned (.func (.func 203) #[] #[.pointer (some ⟨w.heap.size,0,none⟩)])/\w.alloc (.cells #[.string s] 9)=w':=by
 go_enter Tryz.func161,Tryz.ntmps161;go_wp2;go_ret;exact⟨rfl,rfl⟩
theorem F5 (s:ByteArray) (b:Nat) (hs:s.size<=1000000000):
 Hh Tryz.prog 203 #[.pointer (some ⟨b,0,none⟩)] (fun x:Nat×Nat=> #[.int .i64 x.1,.int .i32 x.2]) (B6 s) (fun A=>A.cell? ⟨b,0,none⟩=some (.string s)/\A8 A):=by
 intro n l J W hJn hJb hY h0;refine callsIn_of_wp Tryz.func203 rfl trivial ?_ rfl;simp only[Tryz.ntmps203,List.size_toArray,List.length_cons,List.length_nil,Nat.reduceAdd,Nat.reduceSub,Array.replicate_succ,Array.replicate_zero,List.push_toArray,List.append_toArray,List.nil_append,List.cons_append]
 gi_wp2
 gi_loopw [3] (fun i wr=> ∃(pre:List (Nat×Nat)) (f k:Nat),i=.int .i64 k/\k<=s.size/\s.size - k<=f/\Hid (B6 s=pre++Ar f (s.data.toList.drop k) k)/\J pre wr) (fun i _=>s.size - (intOf i).toNat)
 case atStart=>exact⟨[],s.size,0,rfl,Nat.zero_le _,by omega,rfl,h0⟩
 case round=>
  obtain⟨pre,f,k,rfl,hk,hf,hr,hJ⟩:=hrel;have hcr:wr.cell? ⟨b,0,none⟩=some (.string s):=(hJb _ _ hJ).1;have hTr:A8 wr:=(hJb _ _ hJ).2;by_cases hlt:k<s.size
  . have hne:s.data.toList.drop k≠ []:=by
     intro e;have:=congrArg List.length e;rw[List.length_drop,<-Lib.size_eq]at this;simp at this;omega
    obtain⟨f,rfl⟩: ∃f',f=f'+1:=⟨f - 1,by omega⟩;have cD:=Tryz.utf8_DecodeRuneInString (s.extract k s.size) wr hTr.2.1;have hdc:Lib.decodeGo (s.extract k s.size)=Lib.decodeL (s.data.toList.drop k):=Gk s k hlt;have hw1:=Lib.decodeL_width (s.data.toList.drop k);have hw2:=Lib.decodeL_le _ hne;have hw3:=Lib.decodeL_rune (s.data.toList.drop k);rw[List.length_drop,<-Lib.size_eq]at hw2;have hr':=hr.out;simp only[Ar]at hr';rw[if_neg hne,List.drop_drop]at hr';rw[hdc]at cD;generalize Lib.decodeL (s.data.toList.drop k)=D at cD hw1 hw2 hw3 hr';obtain⟨r,z⟩:=D;simp only at cD hw1 hw2 hw3 hr';have CD:=qz cD;clear cD hdc hne hr;by_cases hbad:r=65533/\z=1
    . rw[if_pos hbad,List.append_nil]at hr';have Hr:=qz hr';obtain⟨hr1,hz1⟩:=hbad;have e1:((r:Int)==65533)=true:=by simp;omega
      have e2:((z:Int)==1)=true:=by simp;omega
      clear hr' hr1 hz1
      gi_wp2_with (refine⟨trivial, ?_⟩;gi_at_call 204;refine(callsIn_wide.2 CD.out).mono ?_;rintro e w2 ⟨rfl,hb2⟩;have hJ2:=hJn _ _ _ hJ hb2)
      refine bodyPost_ret (results_none rfl _ _ _) rfl ?_;exact⟨⟨_,rfl⟩,by rw[Hr.out];exact hJ2⟩
    . rw[if_neg hbad]at hr';have Hr:=qz hr';have Hr2:Hid (B6 s=(pre++ [(k,r)])++Ar f (s.data.toList.drop (k+z)) (k+z)):=by
       show B6 s=_;rw[hr'];simp
      clear hr';rcases(by omega:r≠65533\/(r=65533/\z≠1))with h1|⟨h1,h2⟩
      . have e1:((r:Int)==65533)=false:=by simp;omega
        clear h1 hbad
        gi_wp2_with (refine⟨trivial, ?_⟩;gi_at_call 204;refine(callsIn_wide.2 CD.out).mono ?_;rintro e w2 ⟨rfl,hb2⟩;obtain⟨fn,tmps,assign,body,hy,hR⟩:=hY pre (k,r) _ w2 Hr.out (hJn _ _ _ hJ hb2);dsimp only at hy)
        refine hR.mono ?_;rintro e W3 ⟨rfl,hJ3⟩;clear hy hR
        gi_wp2
        go_roundw
        case rel=>exact⟨pre++ [(k,r)],f,k+z,by go_num,by omega,by omega,Hr2,hJ3⟩
        case measure=>simp[intOf];omega
      . have e1:((r:Int)==65533)=true:=by simp;omega
        have e2:((z:Int)==1)=false:=by simp;omega
        clear h1 h2 hbad
        gi_wp2_with (refine⟨trivial, ?_⟩;gi_at_call 204;refine(callsIn_wide.2 CD.out).mono ?_;rintro e w2 ⟨rfl,hb2⟩;obtain⟨fn,tmps,assign,body,hy,hR⟩:=hY pre (k,r) _ w2 Hr.out (hJn _ _ _ hJ hb2);dsimp only at hy)
        refine hR.mono ?_;rintro e W3 ⟨rfl,hJ3⟩;clear hy hR
        gi_wp2
        go_roundw
        case rel=>exact⟨pre++ [(k,r)],f,k+z,by go_num,by omega,by omega,Hr2,hJ3⟩
        case measure=>simp[intOf];omega
  . obtain rfl:k=s.size:=by omega
    have hr':=hr.out;rw[List.drop_eq_nil_of_le (by rw[<-Lib.size_eq];omega)]at hr';have hz:Ar f [] s.size= []:=by cases f<;>simp[Ar]
    rw[hz,List.append_nil]at hr';have Hr:=qz hr';clear hr hr'
    gi_wp2
    go_end0
    exact⟨⟨_,rfl⟩,by rw[Hr.out];exact hJ⟩
attribute [local go_sem] Oper.semAt_some
def Ak:List (Int×Int):= [(34,34),(92,92),(8,98),(9,116),(10,110),(12,102),(13,114)]
def Cp:List (Int×Int)->Nat->List MapEntry
 | [],_=> []
 |(k,v)::r,i=>{key:=.int .i32 k,val:=.int .i32 v,born:=i}::Cp r (i+1)
def Bz (w:World) (kv:List (Int×Int)):World:=w.alloc (.map (Cp kv 0).toArray kv.length)
def A1 (a:Int):List (Int×Int)->Option Int
 | []=>none
 |(k,v)::r=>if a=k then some v else A1 a r
theorem Cl (a:Int): ∀(kv:List (Int×Int)) (i j:Nat),∃q,Instr.findNow (.int .i32) (.int .i32 a) (Cp kv i) j=some q/\q.map (·.2)=(A1 a kv).map (Value.int .i32)
 | [],_,_=>⟨none,rfl,rfl⟩
 |(k,v)::r,i,j=>by
  by_cases h:a=k
  . subst h;exact⟨some (j,.int .i32 v),by simp[Cp,Instr.findNow,Instr.sameNow],by simp[A1]⟩
  . obtain⟨q,h1,h2⟩:=Cl a r (i+1) (j+1);refine⟨q, ?_,by rw[h2];simp[A1,h]⟩;have:(a==k)=false:=by simpa using h
    simp[Cp,Instr.findNow,Instr.sameNow,this,h1]
theorem D6: ∀(kv:List (Int×Int)) (i:Nat) (k v:Int),Cp (kv++ [(k,v)]) i=Cp kv i++ [{key:=.int .i32 k,val:=.int .i32 v,born:=i+kv.length}]
 | [],i,k,v=>by simp[Cp]
 |(a,b)::r,i,k,v=>by
  simp only[List.cons_append,Cp,D6 r,List.length_cons];rw[show i+1+r.length=i+(r.length+1)from by omega]
theorem Jl (w:World) (x y:Obj):(w.alloc x).heap.setIfInBounds w.heap.size y=(w.alloc y).heap:=by
 show(w.heap.push x).setIfInBounds w.heap.size y=w.heap.push y;apply Array.ext
 . simp
 . intro i h1 h2;rw[Array.getElem_setIfInBounds (by simpa using h1)];rw[Array.getElem_push,Array.getElem_push];by_cases hi:w.heap.size=i
   . subst hi;simp
   . rw[if_neg hi];have:i<w.heap.size:=by simp at h1;omega
     simp[this]
theorem J4 (e:Bool) (k:Int) (n:Nat) (w:World):(Instr.checkKey e (n+1) 21 (.int .i32 k)).run Tryz.prog w=.ok () w:=by
 simp[Instr.checkKey,run_underlying Tryz.underlying21]
theorem Eb (e:Bool) (k:Int) (w:World):(Instr.checkKey e 10000 21 (.int .i32 k)).run Tryz.prog w=.ok () w:=J4 e k 9999 w
theorem Bd (w:World) (kv:List (Int×Int)) (k v:Int) (h:A1 k kv=none):
 (Instr.mapUpdate 230 (.map (some w.heap.size)) (.int .i32 k) (.int .i32 v)).run Tryz.prog (Bz w kv)=.ok () (Bz w (kv++ [(k,v)])):=by
 have hb:(Bz w kv).heap[w.heap.size]? =some (.map (Cp kv 0).toArray kv.length):=heap_alloc_new _ _;obtain⟨q,h1,h2⟩:=Cl k kv 0 0;rw[h]at h2;have hq:q=none:=by cases q<;>simp_all
 subst hq;have hck:=Eb false k (Bz w kv);have hfk:(Instr.findKey 21 (.int .i32 k) (Cp kv 0)).run Tryz.prog (Bz w kv)=.ok none (Bz w kv):=by
  simp[Instr.findKey,Sem.run_bind,run_underlying Tryz.underlying21,h1]
 unfold Instr.mapUpdate;simp only[Sem.run_bind,run_underlying Tryz.underlying230,Result.andThen,getObj,Sem.run,hb,hck,hfk,setObj];simp only[Bz,D6,List.length_append,List.length_cons,List.length_nil,Nat.zero_add];rw[Jl,List.push_toArray];rfl
theorem Gz (w:World) (b:Nat) (kv:List (Int×Int)) (k:Int) (hb:w.heap[b]? =some (.map (Cp kv 0).toArray kv.length)):
 (Instr.lookup 230 (.map (some b)) (.int .i32 k) true).run Tryz.prog w=.ok (.tuple #[.int .i32 ((A1 k kv).getD 0),.bool (A1 k kv).isSome]) w:=by
 obtain⟨q,h1,h2⟩:=Cl k kv 0 0;have hck:=fun e=>Eb e k w;have hfk:(Instr.findKey 21 (.int .i32 k) (Cp kv 0)).run Tryz.prog w=.ok q w:=by
  simp[Instr.findKey,Sem.run_bind,run_underlying Tryz.underlying21,h1]
 unfold Instr.lookup;simp only[Sem.run_bind,run_underlying Tryz.underlying230,Result.andThen,getObj,Sem.run,hb]
 cases q with
 |none=>
  have:A1 k kv=none:=by cases hq:A1 k kv<;>simp_all
  rw[this];have hz:(zeroValue 21).run Tryz.prog w=.ok (.int .i32 0) w:=Tryz.zeroValue21 w;simp[hck,hfk,hz,Result.andThen]
 |some p=>
  obtain⟨i,v⟩:=p;obtain⟨u,hu⟩: ∃u,A1 k kv=some u:=by cases hq:A1 k kv<;>simp_all
  rw[hu]at h2 ⊢;simp at h2;subst h2;simp[hck,hfk]
theorem Fc (w:World):
 Calls Tryz.prog 164 #[] w fun e w'=>e=.returned (.map (some w.heap.size))/\Bz w Ak=w':=by
 have hmm:(Instr.makeMap 230 none).run Tryz.prog w=.ok (.map (some w.heap.size)) (Bz w []):=run_makeMap _ w;have u1:=Bd w [] 34 34 rfl;have u2:=Bd w [(34,34)] 92 92 rfl;have u3:=Bd w [(34,34),(92,92)] 8 98 rfl;have u4:=Bd w [(34,34),(92,92),(8,98)] 9 116 rfl;have u5:=Bd w [(34,34),(92,92),(8,98),(9,116)] 10 110 rfl;have u6:=Bd w [(34,34),(92,92),(8,98),(9,116),(10,110)] 12 102 rfl;have u7:=Bd w [(34,34),(92,92),(8,98),(9,116),(10,110),(12,102)] 13 114 rfl;simp only[List.nil_append,List.cons_append]at u1 u2 u3 u4 u5 u6 u7;go_enter Tryz.func164,Tryz.ntmps164;go_wp2;go_ret;exact⟨rfl,rfl⟩
attribute [local go_sem] Oper.semAt_some
def Ex (n:Nat):UInt8:=if n<10 then UInt8.ofNat (48+n)else UInt8.ofNat (87+n)
def Aq (r:Nat):List UInt8:=
 if 32<=r/\r≠34/\r≠92 then Lib.encodeRune r
 else match A1 r Ak with
  |some c=> [92,UInt8.ofNat c.toNat]
  |none=> [92,117,48,48,Ex (r / 16),Ex (r % 16)]
def Ae (l:List (Nat×Nat)):List UInt8:=l.flatMap fun x=>Aq x.2
theorem Ej (r:Int) (w:World):Calls Tryz.prog 162 #[.int .i32 r] w fun e w'=>e=.returned (.bool (decide (32<=r/\r≠34/\r≠92)))/\w=w':=by
 go_enter Tryz.func162,Tryz.ntmps162;go_wp2
 all_goals go_ret
 all_goals refine⟨Kq ?_,rfl⟩
 all_goals first|(simp_all;done)|(simp_all;omega)|(rw[Bool.eq_iff_iff];simp_all)
theorem Ax {r:Int} {B:Bool} (h:decide (32<=r/\r≠34/\r≠92)=B) (w:World):Calls Tryz.prog 162 #[.int .i32 r] w fun e w'=>e=.returned (.bool B)/\w=w':=by
 subst h;exact Ej _ _
theorem Cw (w:World):
 Calls Tryz.prog 164 #[] w fun e w'=>e=.returned (.map (some w.heap.size))/\w.alloc (.map (Cp Ak 0).toArray Ak.length)=w':=Fc w
def I9 (W:World) (lb D:Nat) (m:Option Nat):Prop:=
 W.heap[lb]? =some (.cells #[.map m] 230 (0,0))/\ ∀mb,m=some mb->D+1<mb/\W.heap[mb]? =some (.map (Cp Ak 0).toArray Ak.length)
theorem Ki:liesAt Tryz.prog Tryz.prog.depth 88 (2 / Tryz.prog.cellsOf 88) 0 88 1=true:=by kernel_rfl
def BB (w:World) (B g:Nat) (bs:List UInt8):Prop:= ∃p v,Dh w B g 0 88 #[p,v] bs
theorem Dh.keep {A W:World} {B g o:Nat} {t:TypeId} {cs:Array Value} {bs:List UInt8} (h:Dh A B g o t cs bs) {row:Option Nat} (hg:A.grownBy W row) (hr: ∀k,row=some k-> ∃ob:Obj,A.heap[k]? =some ob/\ob.isCells=false):Dh W B g o t cs bs:=by
 obtain⟨hB,hb,ht,hs,h0,v,h1,hown⟩:=h;refine⟨hB,(grownBy_keeps_cells hg hr hb rfl).trans hb,ht,hs,h0,v,h1,hown.kept hg ?_⟩
 cases hv:v.ownBlock with
 |none=>exact .inl rfl
 |some k=>
  refine .inr fun e=> ?_;obtain⟨ob,ho,hc⟩:=hr k e.symm;obtain⟨c,fz,hk⟩:=Bw hown k hv;rw[hk]at ho
  cases ho
  cases hc
theorem D4 {A W:World} (h:Below A.heap.size A W):A.grownBy W none:=⟨h.os,h.tape,h.output,h.size,fun i hi _=>h.block i hi⟩
theorem BB.below {A W:World} {B g:Nat} {bs:List UInt8} (h:BB A B g bs) (hb:Below A.heap.size A W):BB W B g bs:=by
 obtain⟨p,v,h⟩:=h;exact⟨p,v,h.keep (D4 hb) (fun k e=>by cases e)⟩
theorem BB.put {A:World} {B g k:Nat} {bs:List UInt8} {o o':Obj} (h:BB A B g bs) (ho:A.heap[k]? =some o) (hc:o.isCells=false):BB (A.putObj k o') B g bs:=by
 obtain⟨p,v,h⟩:=h;exact⟨p,v,h.keep (grownBy_putObj' A k o') (fun j e=>by cases e;exact⟨o,ho,hc⟩)⟩
theorem BB.lt {A:World} {B g:Nat} {bs:List UInt8} (h:BB A B g bs):g<A.heap.size:=by
 obtain⟨p,v,h⟩:=h;exact h.lt
theorem BB.base {A:World} {B g:Nat} {bs:List UInt8} (h:BB A B g bs):B<=g:=by
 obtain⟨p,v,h⟩:=h;exact h.1
theorem BB.store {A:World} {B g k:Nat} {bs:List UInt8} {cs:Array Value} {t:TypeId} (h:BB A B g bs) (hk:A.heap[k]? =some (.cells cs t (0,0))) (ht:t≠5) (hne:k≠g) (i:Nat) (u:Value):BB (A.setCell ⟨k,i,none⟩ u) B g bs:=by
 obtain⟨p,v,hB,hb,ht',hs,h0,v',h1,hown⟩:=h;refine⟨p,v,hB,(Below.heap_setCell _ _ _ _ (fun e=>hne e.symm)).trans hb,ht',hs,h0,v',h1, ?_⟩;exact hown.kept (row:=some k) ⟨rfl,rfl,rfl,by simp[World.setCell],fun j _ hj=>Below.heap_setCell _ _ _ _ (fun e=>hj (by simp[e]))⟩ (Or.inr (Lib.ownBlock_ne hown hk ht))
theorem Bg {B g:Nat} {bs:List UInt8} (c:Int) (hc0:0<=c) (hc1:c<256) {w:World} (h:BB w B g bs) (hlen:bs.length<=100000000000):
 Calls Tryz.prog 160 #[.pointer (some ⟨g,0,none⟩),.int .u8 c] w fun e w'=>e=.returned .nilIface/\BB w' B g (bs++ [UInt8.ofNat c.toNat])/\Below B w w'/\A4 g w w':=by
 obtain⟨p,v,h⟩:=h;refine(Ee B g 0 _ _ bs c hc0 hc1 w h Ki (by omega) (by have:=h.lt;have:=h.1;omega)).mono ?_;rintro e w' ⟨rfl,⟨v',h'⟩,hb,hk⟩;exact⟨rfl,⟨_,v',h'⟩,hb,hk⟩
theorem C1 {B g:Nat} {bs:List UInt8} (u:UInt8) {w:World} (h:BB w B g bs) (hlen:bs.length<=100000000000):
 Calls Tryz.prog 160 #[.pointer (some ⟨g,0,none⟩),.int .u8 u.toNat] w fun e w'=>e=.returned .nilIface/\BB w' B g (bs++ [u])/\Below B w w'/\A4 g w w':=by
 have hu:=u.toNat_lt;have h1:=Bg (u.toNat:Int) (by omega) (by omega) h hlen;have e:UInt8.ofNat (Int.toNat (u.toNat:Int))=u:=by rw[Int.toNat_natCast];simp
 rwa [e]at h1
theorem Em: ∀n:Fin 16,(⟨#[48,49,50,51,52,53,54,55,56,57,97,98,99,100,101,102]⟩:ByteArray)[n.val]'(by simp[ByteArray.size])=Ex n.val:=by decide
theorem Lh: ∀n:Fin 32,bits .and .i32 ((n.val:Nat):Int) 15=((n.val:Nat):Int) % 16:=by decide
theorem Cj {B g:Nat} {bs:List UInt8} (r:Int) (hr0:0<=r) (hr1:r<=2147483647) {w:World} (h:BB w B g bs) (hlen:bs.length<=100000000000):
 Calls Tryz.prog 163 #[.pointer (some ⟨g,0,none⟩),.int .i32 r] w fun e w'=>(∃k:Int,e=.returned (.tuple #[.int .i64 k,.nilIface]))/\BB w' B g (bs++Lib.encodeRune r)/\Below B w w'/\A4 g w w':=by
 obtain⟨p,v,h⟩:=h;refine(Ef B g 0 _ _ bs r (by omega) hr1 w h Ki (by omega) (by have:=h.lt;have:=h.1;omega)).mono ?_;rintro e w' ⟨hk0,⟨v',h'⟩,hb,hk⟩;exact⟨hk0,⟨_,v',h'⟩,hb,hk⟩
theorem Cq {B g:Nat} {bs:List UInt8} (s:ByteArray) {w:World} (h:BB w B g bs) (hlen:bs.length+s.size<=100000000000):
 Calls Tryz.prog 118 #[.pointer (some ⟨g,0,none⟩),.string s] w fun e w'=>e=.returned (.tuple #[.int .i64 s.size,.nilIface])/\BB w' B g (bs++s.data.toList)/\Below B w w'/\A4 g w w':=by
 obtain⟨p,v,h⟩:=h;refine(Cb B g 0 _ _ bs s w h Ki (by omega) (by have:=h.lt;have:=h.1;omega)).mono ?_;rintro e w' ⟨rfl,⟨v',h'⟩,hb,hk⟩;exact⟨rfl,⟨_,v',h'⟩,hb,hk⟩
theorem Jm {B g:Nat} {bs:List UInt8} {w:World} (h:BB w B g bs) (h0:bs≠ []):
 Calls Tryz.prog 35 #[.pointer (some ⟨g,0,none⟩)] w fun e w'=>e=.returned (.string ⟨bs.toArray⟩)/\Below B w w'/\A4 g w w':=by
 obtain⟨p,v,h⟩:=h;exact Di B g 0 _ _ bs w h h0
theorem C9 {a c:Int} (h:A1 a Ak=some c):34<=c/\c<128:=by
 simp only[Ak,A1]at h
 repeat' split at h
 all_goals first|(cases h;done)|(simp at h;omega)
theorem Dp {c:Int} (h0:0<=c) (h1:c<128):Lib.encodeRune c= [UInt8.ofNat c.toNat]:=by
 unfold Lib.encodeRune;rw[Lib.encodeRuneZ_one h0 (by omega)];rfl
theorem Dq {r:Nat} (h:A1 r Ak=none) (h2: ¬(32<=r/\r≠34/\r≠92)):r<32:=by
 simp only[Ak,A1]at h
 repeat' split at h
 all_goals first|(cases h;done)|omega
theorem Ff (r:Nat):(Aq r).length<=6:=by
 unfold Aq
 split
 . unfold Lib.encodeRune Lib.encodeRuneZ
   repeat' split
   all_goals simp
 . split<;>simp
theorem B5 (l:List (Nat×Nat)):(Ae l).length<=6*l.length:=by
 unfold Ae
 induction l with
 |nil=>simp
 |cons x r ih=>simp only[List.flatMap_cons,List.length_append,List.length_cons];have:=Ff x.2;omega
theorem Bm: ∀(n:Nat) (l:List UInt8) (p:Nat),(Ar n l p).length<=n
 |0,_,_=>by simp[Ar]
 |n+1,l,p=>by
  simp only[Ar]
  split
  . simp
  . split
    . simp
    . simp only[List.length_cons];have:=Bm n (l.drop (Lib.decodeL l).2) (p+(Lib.decodeL l).2);omega
theorem Ds: ∀(n:Nat) (l:List UInt8) (p:Nat),∀x ∈ Ar n l p,x.2<=1114111
 |0,_,_,x,h=>by simp[Ar]at h
 |n+1,l,p,x,h=>by
  simp only[Ar]at h
  split at h
  . simp at h
  . split at h
    . simp at h
    . rcases List.mem_cons.1 h with rfl|h
      . exact Lib.decodeL_rune l
      . exact Ds n _ _ x h
def Wr (W:World) (B g:Nat) (keeps:Bool) (acc:List UInt8):Prop:=
 ∃p v,Dh W B g 1 90 #[.bool keeps,p,v,.int .i64 (acc.length:Int)] (if keeps then acc else [])
theorem Lv:liesAt Tryz.prog Tryz.prog.depth 90 (4 / Tryz.prog.cellsOf 90) 1 88 1=true:=by kernel_rfl
theorem Dh.other {w:World} {B g o:Nat} {t:TypeId} {cs:Array Value} {bs:List UInt8} (h:Dh w B g o t cs bs) (i:Nat) (hi:i≠o) (hi2:i≠o+1) (u:Value):
 Dh (w.setCell ⟨g,i,none⟩ u) B g o t (cs.setIfInBounds i u) bs:=by
 obtain⟨hB,hb,ht,hs,h0,v,h1,hown⟩:=h;refine⟨hB,Bx hb _,ht,by simpa using hs, ?_,v,by rw[Array.getElem?_setIfInBounds,if_neg hi2];exact h1, ?_⟩
 . rw[Array.getElem?_setIfInBounds,if_neg hi];exact h0
 . exact hown.kept (row:=some g) ⟨rfl,rfl,rfl,by simp[World.setCell],fun k _ hk=>Below.heap_setCell _ _ _ _ (fun e=>hk (by simp[e]))⟩ (Or.inr (Lib.ownBlock_ne hown hb ht))
theorem Wr.below {A W:World} {B g:Nat} {k:Bool} {acc:List UInt8} (h:Wr A B g k acc) (hb:Below A.heap.size A W):Wr W B g k acc:=by
 obtain⟨p,v,h⟩:=h;exact⟨p,v,h.keep (D4 hb) (fun k e=>by cases e)⟩
theorem Wr.put {A:World} {B g k:Nat} {b:Bool} {acc:List UInt8} {o o':Obj} (h:Wr A B g b acc) (ho:A.heap[k]? =some o) (hc:o.isCells=false):Wr (A.putObj k o') B g b acc:=by
 obtain⟨p,v,h⟩:=h;exact⟨p,v,h.keep (grownBy_putObj' A k o') (fun j e=>by cases e;exact⟨o,ho,hc⟩)⟩
theorem Wr.lt {A:World} {B g:Nat} {k:Bool} {acc:List UInt8} (h:Wr A B g k acc):g<A.heap.size:=by
 obtain⟨p,v,h⟩:=h;exact h.lt
theorem Wr.base {A:World} {B g:Nat} {k:Bool} {acc:List UInt8} (h:Wr A B g k acc):B<=g:=by
 obtain⟨p,v,h⟩:=h;exact h.1
def A5 (ss:List ByteArray):List UInt8:=ss.flatMap fun s=>s.data.toList
theorem Jt (ss:List ByteArray) (s:ByteArray):A5 (ss++ [s])=A5 ss++s.data.toList:=by simp[A5]
theorem Ii (B g:Nat) (keeps:Bool) (acc:List UInt8) (ss:List ByteArray) (b c:Nat) (w:World) (h:Wr w B g keeps acc) (hp:w.heap[b]? =some (.cells (ss.map Value.string).toArray 9 (0,0))) (hbg:b≠g)
 (hlen:acc.length+(A5 ss).length<=50000000000) (hn:ss.length<=1000):
 Calls Tryz.prog 60 #[.pointer (some ⟨g,0,none⟩),.slice (some ⟨b,0,none⟩) ss.length c] w fun e w'=>e=.returned (.tuple #[])/\Wr w' B g keeps (acc++A5 ss)/\Below B w w'/\A4 g w w':=by
 go_enter Tryz.func60,Tryz.ntmps60;go_wp2;go_loopw [8] (fun i wr=> ∃k:Nat,k<=ss.length/\i=.int .i64 k/\Wr wr B g keeps (acc++A5 (ss.take k))/\Below B w wr/\A4 g w wr) (fun i _=>ss.length - (intOf i).toNat)
 case atStart=>exact⟨0,Nat.zero_le _,rfl,by simpa[A5]using h,Below.refl _ _,Lib.OthersKept.refl _ _ _⟩
 case round=>
  obtain⟨k,hk,rfl,hw,hb,hkp⟩:=hrel;by_cases hlt:k<ss.length
  . obtain⟨s,hs⟩: ∃s,ss[k]? =some s:=⟨_,List.getElem?_eq_getElem hlt⟩;have htk:ss.take (k+1)=ss.take k++ [s]:=by rw[List.take_add_one,hs];rfl
    have hfl:(A5 ss).length=(A5 (ss.take k)).length+s.size+(A5 (ss.drop (k+1))).length:=by
     have:ss=ss.take k++ [s]++ss.drop (k+1):=by rw[<-htk,List.take_append_drop]
     have h2:=congrArg (fun l=>(A5 l).length) this;simp only[A5,List.flatMap_append,List.length_append,List.flatMap_cons,List.flatMap_nil,List.append_nil]at h2 ⊢;rw[h2,Lib.size_eq]
    have hpr:=hkp _ _ hp (by simpa using hbg) (fun c fz e=>by cases e);have cp:wr.cell? ⟨b,k,none⟩=some (.string s):=by rw[Lib.cell_of_heap hpr];simp[hs]
    obtain⟨p,v,hbl⟩:=hw;have hbl':=hbl;obtain⟨hB,hbk,ht,_,_,_⟩:=hbl';have g0:wr.cell? ⟨g,0,none⟩=some (.bool keeps):=by rw[Lib.cell_of_heap hbk];rfl
    have g3:wr.cell? ⟨g,3,none⟩=some (.int .i64 ((acc++A5 (ss.take k)).length:Int)):=by rw[Lib.cell_of_heap hbk];rfl
    have f3:wr.frozen? ⟨g,3,none⟩=false:=Lib.frozen_of_heap hbk 3;have hln:(acc++A5 (ss.take k)).length<=50000000000:=by rw[List.length_append];omega
    have hln2:(acc++A5 (ss.take k)).length+s.size<=50000000000:=by rw[List.length_append];omega
    have hz:=hbl.lt;have hfin:acc++A5 (ss.take (k+1))=(acc++A5 (ss.take k))++s.data.toList:=by rw[htk,Jt,List.append_assoc]
    generalize acc++A5 (ss.take k)=L at*
    have Hfin:=qz hfin;have He:=qz (show((L.length:Int)+(s.size:Int))=((L++s.data.toList).length:Int)from by rw[List.length_append,<-Lib.size_eq];omega);clear hfin hbk htk hfl
    cases keeps
    . have hbs:Dh (wr.setCell ⟨g,3,none⟩ (.int .i64 ((L.length:Int)+(s.size:Int)))) B g 1 90 #[.bool false,p,v,.int .i64 ((L.length:Int)+(s.size:Int))] []:=hbl.other 3 (by omega) (by omega) _;go_wp2;go_roundw
      case rel=>
       refine⟨k+1,by omega,by go_num, ?_,hb.setCell (p:=⟨g,3,none⟩) hB _,hkp.setCell ⟨g,3,none⟩ rfl _⟩;rw[Hfin.out];rw[He.out]at hbs ⊢;exact⟨p,v,hbs⟩
      case measure=>simp[intOf];omega
    . have hbs:Dh (wr.setCell ⟨g,3,none⟩ (.int .i64 ((L.length:Int)+(s.size:Int)))) B g 1 90 #[.bool true,p,v,.int .i64 ((L.length:Int)+(s.size:Int))] L:=hbl.other 3 (by omega) (by omega) _;go_wp2_with (go_at_call 118;refine(Cb B g 1 _ _ L s _ hbs Lv (by omega) (by simp[World.setCell];omega)).mono ?_;rintro e w2 ⟨rfl,⟨v',hb2⟩,hbw2,hk2⟩);go_roundw
      case rel=>
       refine⟨k+1,by omega,by go_num, ?_,(hb.setCell (p:=⟨g,3,none⟩) hB _).trans hbw2,(hkp.setCell ⟨g,3,none⟩ rfl _).trans hk2⟩;rw[Hfin.out];rw[He.out]at hb2;exact⟨_,v',hb2⟩
      case measure=>simp[intOf];omega
  . obtain rfl:k=ss.length:=by omega
    rw[List.take_length]at hw;have Hw:=qz hw;clear hw;go_wp2
    go_end0
    exact⟨rfl,Hw.out,hb,hkp⟩
attribute [local go_sem] Oper.semAt_some
def QI (w:World) (g lb d:Nat) (pre:List (Nat×Nat)) (W:World):Prop:=
 Below w.heap.size w W/\BB W w.heap.size g (34::Ae pre)/\ ∃m,I9 W lb d m
theorem Gb (s:ByteArray) (w:World) (hT:A8 w) (hs:s.size<=1000000000) (hv:A7 s=true):
 Calls Tryz.prog 121 #[.string s] w fun e w'=>e=.returned (.tuple #[.string ⟨(34::Ae (B6 s)++ [34]).toArray⟩,.int .i64 0])/\Below w.heap.size w w':=by
 refine(callsIn_wide (n:=12)).1 ?_;refine callsIn_of_wp_marks Tryz.func121 rfl trivial ?_ rfl;simp only[Tryz.ntmps121,List.size_toArray,List.length_cons,List.length_nil,Nat.reduceAdd,Nat.reduceSub,Array.replicate_succ,Array.replicate_zero,List.push_toArray,List.append_toArray,List.nil_append,List.cons_append]
 gi_wp2_with (refine⟨trivial, ?_⟩;gi_at_call 117;refine(callsIn_wide.2 (Am hv _ (by omega) hT)).mono ?_;rintro e w1 ⟨rfl,hb1⟩)
 have hz1:=hb1.size;have hB1:BB ((w1.alloc (.cells #[.map none] 230)).alloc (.cells #[.pointer none,.slice none 0 0] 88)) w.heap.size (w1.heap.size+1) []:=
  ⟨_,_,by omega,by rw[<-World.size_alloc w1 (.cells #[.map none] 230)];exact heap_alloc_new _ _,by decide,by simp,.inl rfl,.slice none 0 0,rfl,World.ownsRow_nil _ _ _ _⟩
 have hL1:((w1.alloc (.cells #[.map none] 230)).alloc (.cells #[.pointer none,.slice none 0 0] 88)).heap[w1.heap.size]? =some (.cells #[.map none] 230 (0,0)):=
  (Below.heap_alloc _ _ _ (by simp)).trans (heap_alloc_new _ _)
 have hbx:Below w.heap.size w ((w1.alloc (.cells #[.map none] 230)).alloc (.cells #[.pointer none,.slice none 0 0] 88)):=(hb1.alloc hz1 _).alloc (by simp;omega) _
 gi_wp2_with (first|(refine⟨trivial, ?_⟩;gi_at_call 160;refine(callsIn_wide.2 (Bg 34 (by omega) (by omega) hB1 (by simp))).mono ?_;rintro e w2 ⟨rfl,hB2,hb2,hk2⟩)|(refine⟨trivial, ?_⟩;gi_at_call 161;refine(callsIn_wide.2 (Gc _ _)).mono ?_;rintro e w3 ⟨rfl,rfl⟩))
 have hz2:=hb2.size;simp only[World.size_alloc]at hz2;have hL2:w2.heap[w1.heap.size]? =some (.cells #[.map none] 230 (0,0)):=hk2 _ _ hL1 (by simp) (fun c fz e=>by cases e);have hbw2:Below w.heap.size w w2:=hbx.trans hb2;clear hB1 hL1 hb1 hk2 hb2 hbx;have hnew:=heap_alloc_new w2 (.cells #[.string s] 9);have hT3:A8 (w2.alloc (.cells #[.string s] 9)):=hT.below (hbw2.alloc (by omega) _);have hyld:=F5 s w2.heap.size hs;have hB3:BB (w2.alloc (.cells #[.string s] 9)) w.heap.size (w1.heap.size+1) (34::Ae []):=hB2.below ((Below.refl _ _).alloc (Nat.le_refl _) _);have hL3:=(Below.heap_alloc w2 (.cells #[.string s] 9) w1.heap.size (by omega)).trans hL2;have hbw3:Below w.heap.size w (w2.alloc (.cells #[.string s] 9)):=hbw2.alloc (by omega) _;have hz3:w2.heap.size+1=(w2.alloc (.cells #[.string s] 9)).heap.size:=by simp
 generalize w2.alloc (.cells #[.string s] 9)=w3 at*
 refine Dv (n:=10) (gf:=203) (lb:= #[.pointer (some ⟨w2.heap.size,0,none⟩)]) rfl (enters_of Tryz.func203 (by kernel_rfl) rfl) hyld (fun _=>rfl)
  (fun pre W=>QI w (w1.heap.size+1) w1.heap.size w3.heap.size pre W/\W.heap[w2.heap.size]? =some (.cells #[.string s] 9 (0,0))) ?hIn ?hIp ?hIb ?h0 ?a1 ?assign ?body ?done
 case assign=>
  intro l x W K hK
  gi_wp2
  exact hK
 case h0=>exact⟨⟨hbw3,hB3,none,hL3,fun _ h=>by cases h⟩,hnew⟩
 case hIb=>
  rintro pre A ⟨⟨h1,h2,h3⟩,h4⟩;exact⟨(Lib.cell_of_heap h4 0).trans rfl,hT.below h1⟩
 case hIn=>
  rintro pre A B ⟨⟨h1,h2,m,h3,h5⟩,h4⟩ hb;refine⟨⟨h1.trans (hb.mono h1.size),h2.below hb,m,(hb.block _ (Array.getElem?_eq_some_iff.1 h3).1).trans h3,fun mb e=>⟨(h5 mb e).1,(hb.block _ (Array.getElem?_eq_some_iff.1 (h5 mb e).2).1).trans (h5 mb e).2⟩⟩,(hb.block _ (Array.getElem?_eq_some_iff.1 h4).1).trans h4⟩
 case hIp=>
  rintro pre A k o o' ⟨⟨h1,h2,m,h3,h5⟩,h4⟩ ho hc hk;have hkw:w.heap.size<=k:=by omega
  have hk1:k<A.heap.size:=(Array.getElem?_eq_some_iff.1 ho).1;refine⟨⟨h1.grown (grownBy_putObj' A k o') (by omega) (fun j e=>by cases e;exact hkw),h2.put ho hc,m, ?_,fun mb e=>⟨(h5 mb e).1, ?_⟩⟩, ?_⟩
  . rw[World.putObj_heap_other (by omega)];exact h3
  . have:=(h5 mb e).1;rw[World.putObj_heap_other (by omega)];exact(h5 mb e).2
  . rw[World.putObj_heap_other (by omega)];exact h4
 case body=>
  rintro l pre x rest W hx ⟨⟨h1,h2,m,h3,h5⟩,h4⟩ ⟨ds,hds⟩ ⟨rc,hrc⟩;have hlen:(Ae pre).length<=6000000000:=by
   have e1:=B5 pre;have e2:=congrArg List.length hx;have e3:=Bm s.size s.data.toList 0;simp only[List.length_append,List.length_cons]at e2;unfold B6 at e2;omega
  have hr:x.2<=1114111:=Ds s.size s.data.toList 0 x (by show x ∈ B6 s;rw[hx];simp);have hsn:Ae (pre++ [x])=Ae pre++Aq x.2:=by simp[Ae]
  obtain⟨p,r⟩:=x;simp only at hr hsn;have hz:=h1.size;have hDm:w3.heap.size+1<W.heap.size:=(Array.getElem?_eq_some_iff.1 hrc).1;have hdt:w1.heap.size+1<w3.heap.size:=by omega
  have hsb:w2.heap.size<w3.heap.size:=by omega
  have hsa:w1.heap.size+1<w2.heap.size:=by omega
  have fin: ∀(a:Act) (X:World) (bs:List UInt8),BB X w.heap.size (w1.heap.size+1) bs->bs=34::Ae (pre++ [(p,r)])->Below w.heap.size w X->(∃m,I9 X w1.heap.size w3.heap.size m)->
   X.heap[w3.heap.size]? =some (.deferred ds)->X.heap[w3.heap.size+1]? =some (.loop rc)->X.heap[w2.heap.size]? =some (.cells #[.string s] 9 (0,0))->
   Fy (fun X=>QI w (w1.heap.size+1) w1.heap.size w3.heap.size (pre++ [(p,r)]) X/\X.heap[w2.heap.size]? =some (.cells #[.string s] 9 (0,0))) w3.heap.size W .normal a X:=by
   intro a X bs hb e hbw hl hd hr2 hbox;subst e;exact⟨hd.trans hds.symm,hr2.trans hrc.symm,⟨hbw,hb,hl⟩,hbox⟩
  have Fin:=qz fin;clear fin;by_cases hst:32<=r/\r≠34/\r≠92
  . have hq:Aq r=Lib.encodeRune r:=by unfold Aq;rw[if_pos hst]
    have hB:decide (32<=(r:Int)/\(r:Int)≠34/\(r:Int)≠92)=true:=by simp;omega
    have Hq:Hid ((34::Ae pre)++Lib.encodeRune r=34::Ae (pre++ [(p,r)])):=by
     show _=_;rw[hsn,hq];rfl
    clear hsn hq hst hx
    gi_wp2_with (first|(refine⟨trivial, ?_⟩;gi_at_call 162;refine(CallsIn.inRound l (callsIn_wide.2 (Ax hB _))).mono ?_;rintro e wx ⟨rfl,rfl⟩)|(refine⟨trivial, ?_⟩;gi_at_call 163;refine(CallsIn.inRound l (callsIn_wide.2 (Cj (r:Int) (by omega) (by omega) h2 (by simp;omega)))).mono ?_;rintro e w4 ⟨⟨kk,rfl⟩,hB4,hb4,hk4⟩))
    exact Fin.out _ _ _ hB4 Hq.out (h1.trans hb4) ⟨m,hk4 _ _ h3 (by simp) (fun c fz e=>by cases e),fun mb e=>⟨(h5 mb e).1,hk4 _ _ (h5 mb e).2 (by have:=(h5 mb e).1;simp;omega) (fun c fz e=>by cases e)⟩⟩
     (hk4 _ _ hds (by simp;omega) (fun c fz e=>by cases e)) (hk4 _ _ hrc (by simp;omega) (fun c fz e=>by cases e)) (hk4 _ _ h4 (by simp;omega) (fun c fz e=>by cases e))
  . have hB:decide (32<=(r:Int)/\(r:Int)≠34/\(r:Int)≠92)=false:=by simp;omega
    have hnil:=fun(wx:World) (m0:Option Nat)=>run_eql_map_nil (P:=Tryz.prog) wx 230 _ _ m0 Tryz.underlying230;rcases m with _|mb
    ·
     obtain⟨X,hX⟩: ∃X,(W.setCell ⟨w1.heap.size,0,none⟩ (.map (some W.heap.size))).alloc (.map (Cp Ak 0).toArray Ak.length)=X:=⟨_,rfl⟩;have hsz:(W.setCell ⟨w1.heap.size,0,none⟩ (.map (some W.heap.size))).heap.size=W.heap.size:=by simp[World.setCell]
     have hXk: ∀k,k≠w1.heap.size->k<W.heap.size->X.heap[k]? =W.heap[k]? :=fun k hk hk'=>by
      rw[<-hX,Below.heap_alloc _ _ _ (by omega),Below.heap_setCell _ _ _ _ hk]
     have hXB:BB X w.heap.size (w1.heap.size+1) (34::Ae pre):=by
      rw[<-hX];exact(h2.store h3 (by decide) (by omega) 0 _).below ((Below.refl _ _).alloc (Nat.le_refl _) _)
     have hXw:Below w.heap.size w X:=by
      rw[<-hX];exact(h1.setCell (p:=⟨w1.heap.size,0,none⟩) hz1 _).alloc (by omega) _
     have hXl:X.heap[w1.heap.size]? =some (.cells #[.map (some W.heap.size)] 230 (0,0)):=by
      rw[<-hX,Below.heap_alloc _ _ _ (by omega)];exact Bx h3 _
     have hXm:X.heap[W.heap.size]? =some (.map (Cp Ak 0).toArray Ak.length):=by
      rw[<-hX];have:=heap_alloc_new (W.setCell ⟨w1.heap.size,0,none⟩ (.map (some W.heap.size))) (.map (Cp Ak 0).toArray Ak.length)
      rwa [hsz]at this
     have hXd:=(hXk _ (by omega) (by omega)).trans hds;have hXr:=(hXk _ (by omega) (by omega)).trans hrc;have hX4:=(hXk _ (by omega) (by omega)).trans h4;have c3:W.cell? ⟨w1.heap.size,0,none⟩=some (.map none):=(Lib.cell_of_heap h3 0).trans rfl;have f3:W.frozen? ⟨w1.heap.size,0,none⟩=false:=Lib.frozen_of_heap h3 0;have hlb:w1.heap.size<W.heap.size:=by omega
     have hlk:=Gz X W.heap.size Ak r hXm;have hmb:w3.heap.size+1<W.heap.size:=hDm;subst hX
     cases hf:A1 (r:Int) Ak with
     |some c=>
      rw[hf]at hlk;simp only[Option.getD_some,Option.isSome_some]at hlk;have hc:=C9 hf;have hc0:=hc.1;have hc1:=hc.2;have hq:Aq r= [92,UInt8.ofNat c.toNat]:=by unfold Aq;rw[if_neg hst,hf]
      have Hq:Hid (((34::Ae pre)++ [UInt8.ofNat (Int.toNat 92)])++Lib.encodeRune c=34::Ae (pre++ [(p,r)])):=by
       show _=_;rw[hsn,hq,Dp (by omega) hc1];simp
      clear hsn hq hst hx hf hc h5 h2
      gi_wp2_with (first|(refine⟨trivial, ?_⟩;gi_at_call 162;refine(CallsIn.inRound l (callsIn_wide.2 (Ax hB _))).mono ?_;rintro e wx ⟨rfl,rfl⟩)|(refine⟨trivial, ?_⟩;gi_at_call 164;refine(CallsIn.inRound l (callsIn_wide.2 (Cw _))).mono ?_;rintro e wx ⟨rfl,rfl⟩)|(refine⟨trivial, ?_⟩;gi_at_call 160;refine(CallsIn.inRound l (callsIn_wide.2 (Bg 92 (by omega) (by omega) hXB (by simp;omega)))).mono ?_;rintro e w4 ⟨rfl,hB4,hb4,hk4⟩)|(refine⟨trivial, ?_⟩;gi_at_call 163;refine(CallsIn.inRound l (callsIn_wide.2 (Cj c (by omega) (by omega) hB4 (by simp;omega)))).mono ?_;rintro e w5 ⟨⟨kk,rfl⟩,hB5,hb5,hk5⟩))
      have hkk:=hk4.trans hk5;exact Fin.out _ _ _ hB5 Hq.out ((hXw.trans hb4).trans hb5) ⟨some W.heap.size,hkk _ _ hXl (by simp) (fun c fz e=>by cases e),fun m' e=>by cases e;exact⟨hmb,hkk _ _ hXm (by simp;omega) (fun c fz e=>by cases e)⟩⟩
       (hkk _ _ hXd (by simp;omega) (fun c fz e=>by cases e)) (hkk _ _ hXr (by simp;omega) (fun c fz e=>by cases e)) (hkk _ _ hX4 (by simp;omega) (fun c fz e=>by cases e))
     |none=>
      rw[hf]at hlk;simp only[Option.getD_none,Option.isSome_none]at hlk;have hr32:=Dq hf hst;have hq:Aq r= [92,117,48,48,Ex (r / 16),Ex (r % 16)]:=by unfold Aq;rw[if_neg hst,hf]
      gi_wp2_with (first|(refine⟨trivial, ?_⟩;gi_at_call 162;refine(CallsIn.inRound l (callsIn_wide.2 (Ax hB _))).mono ?_;rintro e wx ⟨rfl,rfl⟩)|(refine⟨trivial, ?_⟩;gi_at_call 164;refine(CallsIn.inRound l (callsIn_wide.2 (Cw _))).mono ?_;rintro e wx ⟨rfl,rfl⟩)|(refine⟨trivial, ?_⟩;gi_at_call 118;refine(CallsIn.inRound l (callsIn_wide.2 (Cq ⟨#[92,117,48,48]⟩ hXB (by simp[ByteArray.size];omega)))).mono ?_;rintro e w4 ⟨rfl,hB4,hb4,hk4⟩))
      refine⟨trivial, ?_⟩;refine(CallsIn.inRound l (callsIn_wide.2 (C1 _ hB4 (by simp;omega)))).mono ?_;rintro e w5 ⟨rfl,hB5,hb5,hk5⟩;rw[Em ⟨r / 16,by omega⟩]at hB5;have hand:=Lh ⟨r,hr32⟩;dsimp only at hand;have hm0:0<=(r:Int) % 16:=by omega
      have hm1:(r:Int) % 16<16:=by omega
      have hm2:r % 16<16:=by omega
      gi_wp2_with fail
      refine⟨trivial, ?_⟩;refine(CallsIn.inRound l (callsIn_wide.2 (C1 _ hB5 (by simp;omega)))).mono ?_;rintro e w6 ⟨rfl,hB6,hb6,hk6⟩;rw[Em ⟨r % 16,by omega⟩]at hB6
      gi_wp2_with fail
      have hkk:=(hk4.trans hk5).trans hk6;have Hq:(((34::Ae pre)++ [92,117,48,48])++ [Ex (r / 16)])++ [Ex (r % 16)]=34::Ae (pre++ [(p,r)]):=by
       rw[hsn,hq];simp
      exact Fin.out _ _ _ hB6 Hq (((hXw.trans hb4).trans hb5).trans hb6) ⟨some W.heap.size,hkk _ _ hXl (by simp) (fun c fz e=>by cases e),fun m' e=>by cases e;exact⟨hmb,hkk _ _ hXm (by simp;omega) (fun c fz e=>by cases e)⟩⟩
       (hkk _ _ hXd (by simp;omega) (fun c fz e=>by cases e)) (hkk _ _ hXr (by simp;omega) (fun c fz e=>by cases e)) (hkk _ _ hX4 (by simp;omega) (fun c fz e=>by cases e))
    ·
     have hXm:=(h5 mb rfl).2;have hmb:=(h5 mb rfl).1;have c3:W.cell? ⟨w1.heap.size,0,none⟩=some (.map (some mb)):=(Lib.cell_of_heap h3 0).trans rfl;have hlk:=Gz W mb Ak r hXm;have hXB:=h2;have hXw:=h1;have hXl:=h3;have hXd:=hds;have hXr:=hrc;have hX4:=h4
     cases hf:A1 (r:Int) Ak with
     |some c=>
      rw[hf]at hlk;simp only[Option.getD_some,Option.isSome_some]at hlk;have hc:=C9 hf;have hc0:=hc.1;have hc1:=hc.2;have hq:Aq r= [92,UInt8.ofNat c.toNat]:=by unfold Aq;rw[if_neg hst,hf]
      have Hq:Hid (((34::Ae pre)++ [UInt8.ofNat (Int.toNat 92)])++Lib.encodeRune c=34::Ae (pre++ [(p,r)])):=by
       show _=_;rw[hsn,hq,Dp (by omega) hc1];simp
      clear hsn hq hst hx hf hc h5 h2
      gi_wp2_with (first|(refine⟨trivial, ?_⟩;gi_at_call 162;refine(CallsIn.inRound l (callsIn_wide.2 (Ax hB _))).mono ?_;rintro e wx ⟨rfl,rfl⟩)|(refine⟨trivial, ?_⟩;gi_at_call 160;refine(CallsIn.inRound l (callsIn_wide.2 (Bg 92 (by omega) (by omega) hXB (by simp;omega)))).mono ?_;rintro e w4 ⟨rfl,hB4,hb4,hk4⟩)|(refine⟨trivial, ?_⟩;gi_at_call 163;refine(CallsIn.inRound l (callsIn_wide.2 (Cj c (by omega) (by omega) hB4 (by simp;omega)))).mono ?_;rintro e w5 ⟨⟨kk,rfl⟩,hB5,hb5,hk5⟩))
      have hkk:=hk4.trans hk5;exact Fin.out _ _ _ hB5 Hq.out ((hXw.trans hb4).trans hb5) ⟨some mb,hkk _ _ hXl (by simp) (fun c fz e=>by cases e),fun m' e=>by cases e;exact⟨hmb,hkk _ _ hXm (by simp;omega) (fun c fz e=>by cases e)⟩⟩
       (hkk _ _ hXd (by simp;omega) (fun c fz e=>by cases e)) (hkk _ _ hXr (by simp;omega) (fun c fz e=>by cases e)) (hkk _ _ hX4 (by simp;omega) (fun c fz e=>by cases e))
     |none=>
      rw[hf]at hlk;simp only[Option.getD_none,Option.isSome_none]at hlk;have hr32:=Dq hf hst;have hq:Aq r= [92,117,48,48,Ex (r / 16),Ex (r % 16)]:=by unfold Aq;rw[if_neg hst,hf]
      gi_wp2_with (first|(refine⟨trivial, ?_⟩;gi_at_call 162;refine(CallsIn.inRound l (callsIn_wide.2 (Ax hB _))).mono ?_;rintro e wx ⟨rfl,rfl⟩)|(refine⟨trivial, ?_⟩;gi_at_call 118;refine(CallsIn.inRound l (callsIn_wide.2 (Cq ⟨#[92,117,48,48]⟩ hXB (by simp[ByteArray.size];omega)))).mono ?_;rintro e w4 ⟨rfl,hB4,hb4,hk4⟩))
      refine⟨trivial, ?_⟩;refine(CallsIn.inRound l (callsIn_wide.2 (C1 _ hB4 (by simp;omega)))).mono ?_;rintro e w5 ⟨rfl,hB5,hb5,hk5⟩;rw[Em ⟨r / 16,by omega⟩]at hB5;have hand:=Lh ⟨r,hr32⟩;dsimp only at hand;have hm0:0<=(r:Int) % 16:=by omega
      have hm1:(r:Int) % 16<16:=by omega
      have hm2:r % 16<16:=by omega
      gi_wp2_with fail
      refine⟨trivial, ?_⟩;refine(CallsIn.inRound l (callsIn_wide.2 (C1 _ hB5 (by simp;omega)))).mono ?_;rintro e w6 ⟨rfl,hB6,hb6,hk6⟩;rw[Em ⟨r % 16,by omega⟩]at hB6
      gi_wp2_with fail
      have hkk:=(hk4.trans hk5).trans hk6;have Hq:(((34::Ae pre)++ [92,117,48,48])++ [Ex (r / 16)])++ [Ex (r % 16)]=34::Ae (pre++ [(p,r)]):=by
       rw[hsn,hq];simp
      exact Fin.out _ _ _ hB6 Hq (((hXw.trans hb4).trans hb5).trans hb6) ⟨some mb,hkk _ _ hXl (by simp) (fun c fz e=>by cases e),fun m' e=>by cases e;exact⟨hmb,hkk _ _ hXm (by simp;omega) (fun c fz e=>by cases e)⟩⟩
       (hkk _ _ hXd (by simp;omega) (fun c fz e=>by cases e)) (hkk _ _ hXr (by simp;omega) (fun c fz e=>by cases e)) (hkk _ _ hX4 (by simp;omega) (fun c fz e=>by cases e))
 case done=>
  rintro W ⟨⟨h1,h2,m,h3,h5⟩,h4⟩ hds;have hdt:w1.heap.size+1<w3.heap.size:=by omega
  have hlen:(Ae (B6 s)).length<=6000000000:=by
   have e1:=B5 (B6 s);have e3:=Bm s.size s.data.toList 0;unfold B6 at e1 ⊢;omega
  gi_wp2_with (first|(refine⟨trivial, ?_⟩;gi_at_call 160;refine(callsIn_wide.2 (Bg 34 (by omega) (by omega) h2 (by simp;omega))).mono ?_;rintro e w4 ⟨rfl,hB4,hb4,hk4⟩)|(refine⟨trivial, ?_⟩;gi_at_call 35;refine(callsIn_wide.2 (Jm hB4 (by simp))).mono ?_;rintro e w5 ⟨rfl,hb5,hk5⟩))
  have hd4:=hk4 _ _ hds (by simp;omega) (fun c fz e=>by cases e);have hd5:=hk5 _ _ hd4 (by simp;omega) (fun c fz e=>by cases e);refine⟨by simp,.inl ⟨_,_,rfl,run_takeDeferred hd5, ?_⟩⟩;have hbw5:Below w.heap.size w w5:=(h1.trans hb4).trans hb5;refine⟨_,results_tmp2 rfl _ _ _,rfl,hbw5.grown (grownBy_putObj' w5 _ _) hbw5.size (fun k e=>by cases e;omega)⟩
theorem Bn.lit {S0:Nat->Prop} {b:Nat} {t:TypeId} {w:World} {d:D} {cs:Array Value} (hb:b<=w.heap.size) (hd:d.cells=cs.size) (h:Ay (fun i=>S0 i/\i≠w.heap.size) (w.alloc (.cells cs t)) d cs.toList):
 Bn S0 b t cs.size (w.alloc (.cells cs t)) [d] (.slice (some ⟨w.heap.size,0,none⟩) 1 1):=by
 refine⟨cs.toList,⟨by simp,.inr ⟨w.heap.size,1,cs,rfl,hb,heap_alloc_new w _,Nat.le_refl _,by unfold maxLen;omega,by simp, ?_⟩⟩,fun x hx=> ?_,At.one (h.mono fun i _ hi=>⟨hi.1,fun e=>hi.2 (Option.some.inj (e:some w.heap.size=some i)).symm⟩)⟩
 . simp only[List.length_cons,List.length_nil,Nat.zero_add,Nat.one_mul];rw[<-Array.length_toList,List.take_length]
 . simp only[List.mem_cons,List.not_mem_nil,or_false]at hx;rw[hx];exact hd
section
variable {P:Program}
theorem F3 {t ty e:TypeId} {i:TypeInfo} {z:Value} {sz bytes:Nat} (ht:P.underlying t=some (.slice e)) (hi:P.info? e=some i) (hz:i.zero=some z) (hsize:i.size=sz) (hby:i.bytes=bytes) (hzs:z.cells.size=sz) (hsz:0<sz)
 {S0:Nat->Prop} {b:Nat} {w:World} {l:List D} {V:Value} (hrow:Bn S0 b e sz w l V) (hbw:b<=w.heap.size) {dl:List D} {cs:List Value} (hd: ∀d ∈ dl,d.cells=sz) (hx:At (fun i=>S0 i/\V.ownBlock≠some i) w dl cs)
 {B:Nat} {A:Option Addr} {n c:Nat} (hr:An w B sz A n cs) (hn:n=dl.length) (h63:l.length+n<=maxLen) (hbytes:(l.length+n)*bytes<=140737488355328):
 ∃V' w6,(Builtin.append_ #[t,t] ty #[V,.slice A n c]).run P w=.ok V' w6/\Bn S0 b e sz w6 (l++dl) V'/\w.grownBy w6 V.ownBlock/\(V'.ownBlock=V.ownBlock\/V'.ownBlock=some w.heap.size):=by
 subst hn;obtain⟨ns,h1,h2,h3⟩:=hrow;obtain⟨V',w6,hrun,g1,g2,g3⟩:=Cy (P:=P) w b t ty e i z sz bytes ht hi hz hsize hby hzs hsz V l.length ns h1 B A dl.length c cs hr hx.now.len.2 h63 hbytes hbw;refine⟨V',w6,hrun,⟨ns++cs,by rw[List.length_append];exact g1, ?_, ?_⟩,g2,g3⟩
 . intro x hx';rcases List.mem_append.1 hx' with hx'|hx'
   . exact h2 x hx'
   . exact hd x hx'
 . have key: ∀p:Addr,V.ownBlock≠some p.block->p.block<w.heap.size->V'.ownBlock≠some p.block:=by
    intro p p1 p2;rcases g3 with e3|e3
    . rw[e3];exact p1
    . rw[e3];intro e4;have:=Option.some.inj e4;omega
   have hag: ∀w'':World,w6.heap.size<=w''.heap.size->(∀p:Addr,S0 p.block/\V'.ownBlock≠some p.block->p.block<w6.heap.size->w''.cell? p=w6.cell? p)-> ∀p:Addr,S0 p.block/\V.ownBlock≠some p.block->p.block<w.heap.size->w''.cell? p=w.cell? p:=by
    intro w'' k1 k2 p p1 p2;rw[k2 p ⟨p1.1,key p p1.2 p2⟩ (Nat.lt_of_lt_of_le p2 g2.size)];exact World.cell?_of_block (g2.block p.block p2 (fun e=>p1.2 e.symm))
   intro w'' k1 k2;have a1:=Aa.more (h3 w'' (Nat.le_trans g2.size k1) (hag w'' k1 k2)) g2.size;have a2:=Aa.more (hx w'' (Nat.le_trans g2.size k1) (hag w'' k1 k2)) g2.size;exact a1.app a2
theorem G6 {o:Oper} {a:Act} {w:World} {K:Act->World->Prop} {Q:Exit->Act->World->Prop} (s x:Operand) (t:TypeId) {e:TypeId}
 (ho:o.op=.call {callee:=.builtin .append,args:= #[s,x],argTypes:= #[t,t]}) {i:TypeInfo} {z:Value} {sz bytes:Nat} (ht:P.underlying t=some (.slice e)) (hi:P.info? e=some i) (hz:i.zero=some z) (hsize:i.size=sz) (hby:i.bytes=bytes) (hzs:z.cells.size=sz) (hsz:0<sz)
 {S0:Nat->Prop} {b:Nat} {l:List D} {V:Value} (hs:a.eval s=V) (hrow:Bn S0 b e sz w l V) (hbw:b<=w.heap.size) {dl:List D} {cs:List Value} (hd: ∀d ∈ dl,d.cells=sz) (hf:At (fun i=>S0 i/\V.ownBlock≠some i) w dl cs)
 {B:Nat} {A:Option Addr} {n c:Nat} (hx:a.eval x=.slice A n c) (hr:An w B sz A n cs) (hn:n=dl.length) (h63:l.length+n<=maxLen) (hbytes:(l.length+n)*bytes<=140737488355328)
 (h: ∀V' w6,Bn S0 b e sz w6 (l++dl) V'->w.grownBy w6 V.ownBlock->(V'.ownBlock=V.ownBlock\/V'.ownBlock=some w.heap.size)->K (a.put o.dst V') w6):o.wp P a w K Q:=by
 obtain⟨V',w6,hrun,g1,g2,g3⟩:=F3 (ty:=o.type) (c:=c) ht hi hz hsize hby hzs hsz hrow hbw hd hf hr hn h63 hbytes;unfold Oper.wp execOp;simp only[ho,resolve,invoke,builtin,Sem.run_bind,Sem.run_pure,Result.andThen_ok,List.map_toArray,List.map_cons,List.map_nil,hs,hx,hrun];exact h V' w6 g1 g2 g3
theorem Ek {ops:Array Oper} {rest:List Oper} {o:Oper} {a:Act} {w:World} {Q:Exit->Act->World->Prop} (hgd:o.guard=none) (s x:Operand) (t:TypeId) {e:TypeId}
 (ho:o.op=.call {callee:=.builtin .append,args:= #[s,x],argTypes:= #[t,t]}) {i:TypeInfo} {z:Value} {sz bytes:Nat} (ht:P.underlying t=some (.slice e)) (hi:P.info? e=some i) (hz:i.zero=some z) (hsize:i.size=sz) (hby:i.bytes=bytes) (hzs:z.cells.size=sz) (hsz:0<sz)
 {S0:Nat->Prop} {b:Nat} {l:List D} {V:Value} (hs:a.eval s=V) (hrow:Bn S0 b e sz w l V) (hbw:b<=w.heap.size) {dl:List D} {cs:List Value} (hd: ∀d ∈ dl,d.cells=sz) (hf:At (fun i=>S0 i/\V.ownBlock≠some i) w dl cs)
 {B:Nat} {A:Option Addr} {n c:Nat} (hx:a.eval x=.slice A n c) (hr:An w B sz A n cs) (hn:n=dl.length) (h63:l.length+n<=maxLen) (hbytes:(l.length+n)*bytes<=140737488355328)
 (h: ∀V' w6,Bn S0 b e sz w6 (l++dl) V'->w.grownBy w6 V.ownBlock->(V'.ownBlock=V.ownBlock\/V'.ownBlock=some w.heap.size)->wpList P ops Q rest (a.put o.dst V') w6):wpList P ops Q (o::rest) a w:=
 wpList_plain hgd fun _ hK=>G6 s x t ho ht hi hz hsize hby hzs hsz hs hrow hbw hd hf hx hr hn h63 hbytes fun V' w6 h2 h3 h4=>hK _ _ (h V' w6 h2 h3 h4)
end
end Go.Proofs.YtolnhkmhfblhkaaGreatDoor
