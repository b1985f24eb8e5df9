/- Parts: utf.Quote: the walk. Condition: a text shorter than 10^9. -/
import Derived.Lib.MapLaws
import Derived.Lib.TrimUEq
import Derived.LoopIn
import Derived.LoopNIn
import Derived.Lib.RuneBytes
import Derived.Test.YtkmcjfkokoidcaaGreatDoorKFa5
set_option maxHeartbeats 20000000
set_option maxRecDepth 100000
namespace Go.Proofs.YtkmcjfkokoidcaaGreatDoor
open Go.RowKit
attribute [local go_sem] Oper.semAt_some
def Ax:Nat->List UInt8->Nat->List (Nat×Nat)
 |0,_,_=> []
 |n+1,l,p=>if l= []then []else if(Lib.decodeL l).1=65533/\(Lib.decodeL l).2=1 then []else(p,(Lib.decodeL l).1)::Ax n (l.drop (Lib.decodeL l).2) (p+(Lib.decodeL l).2)
def Bw (s:ByteArray):List (Nat×Nat):=Ax s.size s.data.toList 0
theorem Rs (s:ByteArray) (k:Nat) (h:k<s.size):(if(s.extract k s.size).size=0 then(65533,0)else Utf8.decode (s.extract k s.size) 0)=Lib.decodeL (s.data.toList.drop k):=by
 have e:(s.extract k s.size)=⟨(s.data.toList.drop k).toArray⟩:=by
  apply ByteArray.ext;apply Array.ext';rw[Lib.extract_data];dsimp only;rw[List.take_of_length_le (by rw[List.length_drop,<-Lib.size_eq];omega)]
 rw[if_neg (by rw[ByteArray.size_extract];omega),e];rfl
theorem Ro (s:ByteArray) (w:World):
 Calls Tryz.prog 242 #[.string s] w fun e w'=>e=.returned (.func (.func 282) #[] #[.pointer (some ⟨w.heap.size,0,none⟩)])/\w.alloc (.cells #[.string s] 9)=w':=by
 go_enter Tryz.func242,Tryz.ntmps242;go_wp2;go_ret;exact⟨rfl,rfl⟩
theorem Z8 (s:ByteArray) (b:Nat) (hs:s.size<=1000000000):
 Ajm Tryz.prog 282 #[.pointer (some ⟨b,0,none⟩)] (fun x:Nat×Nat=> #[.int .i64 x.1,.int .i32 x.2]) (Bw s) (fun A=>A.cell? ⟨b,0,none⟩=some (.string s)/\Cm A):=by
 intro n l J W hJn hJb hY h0;refine callsIn_of_wp Tryz.func282 rfl trivial ?_ rfl;simp only[Tryz.ntmps282,List.size_toArray,List.length_cons,List.length_nil,Nat.reduceAdd,Nat.reduceSub,Array.replicate_succ,Array.replicate_zero,List.push_toArray,List.append_toArray,List.nil_append,List.cons_append]
 gi_wp2
 gi_loopw [3] (fun i wr=> ∃(pre:List (Nat×Nat)) (f k:Nat),i=.int .i64 k/\k<=s.size/\s.size - k<=f/\Hid (Bw s=pre++Ax f (s.data.toList.drop k) k)/\J pre wr) (fun i _=>s.size - (intOf i).toNat)
 case atStart=>exact⟨[],s.size,0,rfl,Nat.zero_le _,by omega,rfl,h0⟩
 case round=>
  obtain⟨pre,f,k,rfl,hk,hf,hr,hJ⟩:=hrel;have hcr:wr.cell? ⟨b,0,none⟩=some (.string s):=(hJb _ _ hJ).1;have hTr:Cm wr:=(hJb _ _ hJ).2;by_cases hlt:k<s.size
  . have hne:s.data.toList.drop k≠ []:=by
     intro e;have:=congrArg List.length e;rw[List.length_drop,<-Lib.size_eq]at this;simp at this;omega
    obtain⟨f,rfl⟩: ∃f',f=f'+1:=⟨f - 1,by omega⟩;have cD:=Tryz.utf8_DecodeRuneInString (s.extract k s.size) wr hTr.2.1;have hdc:Lib.decodeGo (s.extract k s.size)=Lib.decodeL (s.data.toList.drop k):=Rs s k hlt;have hw1:=Lib.decodeL_width (s.data.toList.drop k);have hw2:=Lib.decodeL_le _ hne;have hw3:=Lib.decodeL_rune (s.data.toList.drop k);rw[List.length_drop,<-Lib.size_eq]at hw2;have hr':=hr.out;simp only[Ax]at hr';rw[if_neg hne,List.drop_drop]at hr';rw[hdc]at cD;generalize Lib.decodeL (s.data.toList.drop k)=D at cD hw1 hw2 hw3 hr';obtain⟨r,z⟩:=D;simp only at cD hw1 hw2 hw3 hr';have CD:=qz cD;clear cD hdc hne hr;by_cases hbad:r=65533/\z=1
    . rw[if_pos hbad,List.append_nil]at hr';have Hr:=qz hr';obtain⟨hr1,hz1⟩:=hbad;have e1:((r:Int)==65533)=true:=by simp;omega
      have e2:((z:Int)==1)=true:=by simp;omega
      clear hr' hr1 hz1
      gi_wp2_with (refine⟨trivial, ?_⟩;gi_at_call 283;refine(callsIn_wide.2 CD.out).mono ?_;rintro e w2 ⟨rfl,hb2⟩;have hJ2:=hJn _ _ _ hJ hb2)
      refine bodyPost_ret (results_none rfl _ _ _) rfl ?_;exact⟨⟨_,rfl⟩,by rw[Hr.out];exact hJ2⟩
    . rw[if_neg hbad]at hr';have Hr:=qz hr';have Hr2:Hid (Bw s=(pre++ [(k,r)])++Ax f (s.data.toList.drop (k+z)) (k+z)):=by
       show Bw s=_;rw[hr'];simp
      clear hr';rcases(by omega:r≠65533\/(r=65533/\z≠1))with h1|⟨h1,h2⟩
      . have e1:((r:Int)==65533)=false:=by simp;omega
        clear h1 hbad
        gi_wp2_with (refine⟨trivial, ?_⟩;gi_at_call 283;refine(callsIn_wide.2 CD.out).mono ?_;rintro e w2 ⟨rfl,hb2⟩;obtain⟨fn,tmps,assign,body,hy,hR⟩:=hY pre (k,r) _ w2 Hr.out (hJn _ _ _ hJ hb2);dsimp only at hy)
        refine hR.mono ?_;rintro e W3 ⟨rfl,hJ3⟩;clear hy hR
        gi_wp2
        go_roundw
        case rel=>exact⟨pre++ [(k,r)],f,k+z,by go_num,by omega,by omega,Hr2,hJ3⟩
        case measure=>simp[intOf];omega
      . have e1:((r:Int)==65533)=true:=by simp;omega
        have e2:((z:Int)==1)=false:=by simp;omega
        clear h1 h2 hbad
        gi_wp2_with (refine⟨trivial, ?_⟩;gi_at_call 283;refine(callsIn_wide.2 CD.out).mono ?_;rintro e w2 ⟨rfl,hb2⟩;obtain⟨fn,tmps,assign,body,hy,hR⟩:=hY pre (k,r) _ w2 Hr.out (hJn _ _ _ hJ hb2);dsimp only at hy)
        refine hR.mono ?_;rintro e W3 ⟨rfl,hJ3⟩;clear hy hR
        gi_wp2
        go_roundw
        case rel=>exact⟨pre++ [(k,r)],f,k+z,by go_num,by omega,by omega,Hr2,hJ3⟩
        case measure=>simp[intOf];omega
  . obtain rfl:k=s.size:=by omega
    have hr':=hr.out;rw[List.drop_eq_nil_of_le (by rw[<-Lib.size_eq];omega)]at hr';have hz:Ax f [] s.size= []:=by cases f<;>simp[Ax]
    rw[hz,List.append_nil]at hr';have Hr:=qz hr';clear hr hr'
    gi_wp2
    go_end0
    exact⟨⟨_,rfl⟩,by rw[Hr.out];exact hJ⟩
attribute [local go_sem] Oper.semAt_some
def B3:List (Int×Int):= [(34,34),(92,92),(8,98),(9,116),(10,110),(12,102),(13,114)]
def Jk:List (Int×Int)->Nat->List MapEntry
 | [],_=> []
 |(k,v)::r,i=>{key:=.int .i32 k,val:=.int .i32 v,born:=i}::Jk r (i+1)
def H9 (w:World) (kv:List (Int×Int)):World:=w.alloc (.map (Jk kv 0).toArray kv.length)
def D6 (a:Int):List (Int×Int)->Option Int
 | []=>none
 |(k,v)::r=>if a=k then some v else D6 a r
theorem Ma (a:Int): ∀(kv:List (Int×Int)) (i j:Nat),∃q,Instr.findNow (.int .i32) (.int .i32 a) (Jk kv i) j=some q/\q.map (·.2)=(D6 a kv).map (Value.int .i32)
 | [],_,_=>⟨none,rfl,rfl⟩
 |(k,v)::r,i,j=>by
  by_cases h:a=k
  . subst h;exact⟨some (j,.int .i32 v),by simp[Jk,Instr.findNow,Instr.sameNow],by simp[D6]⟩
  . obtain⟨q,h1,h2⟩:=Ma a r (i+1) (j+1);refine⟨q, ?_,by rw[h2];simp[D6,h]⟩;have:(a==k)=false:=by simpa using h
    simp[Jk,Instr.findNow,Instr.sameNow,this,h1]
theorem Rt: ∀(kv:List (Int×Int)) (i:Nat) (k v:Int),Jk (kv++ [(k,v)]) i=Jk kv i++ [{key:=.int .i32 k,val:=.int .i32 v,born:=i+kv.length}]
 | [],i,k,v=>by simp[Jk]
 |(a,b)::r,i,k,v=>by
  simp only[List.cons_append,Jk,Rt r,List.length_cons];rw[show i+1+r.length=i+(r.length+1)from by omega]
theorem Ag6 (w:World) (x y:Obj):(w.alloc x).heap.setIfInBounds w.heap.size y=(w.alloc y).heap:=by
 show(w.heap.push x).setIfInBounds w.heap.size y=w.heap.push y;apply Array.ext
 . simp
 . intro i h1 h2;rw[Array.getElem_setIfInBounds (by simpa using h1)];rw[Array.getElem_push,Array.getElem_push];by_cases hi:w.heap.size=i
   . subst hi;simp
   . rw[if_neg hi];have:i<w.heap.size:=by simp at h1;omega
     simp[this]
theorem Aiq (e:Bool) (k:Int) (n:Nat) (w:World):(Instr.checkKey e (n+1) 21 (.int .i32 k)).run Tryz.prog w=.ok () w:=by
 simp[Instr.checkKey,run_underlying Tryz.underlying21]
theorem Sb (e:Bool) (k:Int) (w:World):(Instr.checkKey e 10000 21 (.int .i32 k)).run Tryz.prog w=.ok () w:=Aiq e k 9999 w
theorem Cr (w:World) (kv:List (Int×Int)) (k v:Int) (h:D6 k kv=none):
 (Instr.mapUpdate 296 (.map (some w.heap.size)) (.int .i32 k) (.int .i32 v)).run Tryz.prog (H9 w kv)=.ok () (H9 w (kv++ [(k,v)])):=by
 have hb:(H9 w kv).heap[w.heap.size]? =some (.map (Jk kv 0).toArray kv.length):=heap_alloc_new _ _;obtain⟨q,h1,h2⟩:=Ma k kv 0 0;rw[h]at h2;have hq:q=none:=by cases q<;>simp_all
 subst hq;have hck:=Sb false k (H9 w kv);have hfk:(Instr.findKey 21 (.int .i32 k) (Jk kv 0)).run Tryz.prog (H9 w kv)=.ok none (H9 w kv):=by
  simp[Instr.findKey,Sem.run_bind,run_underlying Tryz.underlying21,h1]
 unfold Instr.mapUpdate;simp only[Sem.run_bind,run_underlying Tryz.underlying296,Result.andThen,getObj,Sem.run,hb,hck,hfk,setObj];simp only[H9,Rt,List.length_append,List.length_cons,List.length_nil,Nat.zero_add];rw[Ag6,List.push_toArray];rfl
theorem U2 (w:World) (b:Nat) (kv:List (Int×Int)) (k:Int) (hb:w.heap[b]? =some (.map (Jk kv 0).toArray kv.length)):
 (Instr.lookup 296 (.map (some b)) (.int .i32 k) true).run Tryz.prog w=.ok (.tuple #[.int .i32 ((D6 k kv).getD 0),.bool (D6 k kv).isSome]) w:=by
 obtain⟨q,h1,h2⟩:=Ma k kv 0 0;have hck:=fun e=>Sb e k w;have hfk:(Instr.findKey 21 (.int .i32 k) (Jk kv 0)).run Tryz.prog w=.ok q w:=by
  simp[Instr.findKey,Sem.run_bind,run_underlying Tryz.underlying21,h1]
 unfold Instr.lookup;simp only[Sem.run_bind,run_underlying Tryz.underlying296,Result.andThen,getObj,Sem.run,hb]
 cases q with
 |none=>
  have:D6 k kv=none:=by cases hq:D6 k kv<;>simp_all
  rw[this];have hz:(zeroValue 21).run Tryz.prog w=.ok (.int .i32 0) w:=Tryz.zeroValue21 w;simp[hck,hfk,hz,Result.andThen]
 |some p=>
  obtain⟨i,v⟩:=p;obtain⟨u,hu⟩: ∃u,D6 k kv=some u:=by cases hq:D6 k kv<;>simp_all
  rw[hu]at h2 ⊢;simp at h2;subst h2;simp[hck,hfk]
theorem Vo (w:World):
 Calls Tryz.prog 245 #[] w fun e w'=>e=.returned (.map (some w.heap.size))/\H9 w B3=w':=by
 have hmm:(Instr.makeMap 296 none).run Tryz.prog w=.ok (.map (some w.heap.size)) (H9 w []):=run_makeMap _ w;have u1:=Cr w [] 34 34 rfl;have u2:=Cr w [(34,34)] 92 92 rfl;have u3:=Cr w [(34,34),(92,92)] 8 98 rfl;have u4:=Cr w [(34,34),(92,92),(8,98)] 9 116 rfl;have u5:=Cr w [(34,34),(92,92),(8,98),(9,116)] 10 110 rfl;have u6:=Cr w [(34,34),(92,92),(8,98),(9,116),(10,110)] 12 102 rfl;have u7:=Cr w [(34,34),(92,92),(8,98),(9,116),(10,110),(12,102)] 13 114 rfl;simp only[List.nil_append,List.cons_append]at u1 u2 u3 u4 u5 u6 u7;go_enter Tryz.func245,Tryz.ntmps245;go_wp2;go_ret;exact⟨rfl,rfl⟩
attribute [local go_sem] Oper.semAt_some
def Mb (n:Nat):UInt8:=if n<10 then UInt8.ofNat (48+n)else UInt8.ofNat (87+n)
def Ai (r:Nat):List UInt8:=
 if 32<=r/\r≠34/\r≠92 then Lib.encodeRune r
 else match D6 r B3 with
  |some c=> [92,UInt8.ofNat c.toNat]
  |none=> [92,117,48,48,Mb (r / 16),Mb (r % 16)]
def Ae (l:List (Nat×Nat)):List UInt8:=l.flatMap fun x=>Ai x.2
theorem Sz (r:Int) (w:World):Calls Tryz.prog 243 #[.int .i32 r] w fun e w'=>e=.returned (.bool (decide (32<=r/\r≠34/\r≠92)))/\w=w':=by
 go_enter Tryz.func243,Tryz.ntmps243;go_wp2
 all_goals go_ret
 all_goals refine⟨Ac1 ?_,rfl⟩
 all_goals first|(simp_all;done)|(simp_all;omega)|(rw[Bool.eq_iff_iff];simp_all)
theorem Dd {r:Int} {B:Bool} (h:decide (32<=r/\r≠34/\r≠92)=B) (w:World):Calls Tryz.prog 243 #[.int .i32 r] w fun e w'=>e=.returned (.bool B)/\w=w':=by
 subst h;exact Sz _ _
theorem Na (w:World):
 Calls Tryz.prog 245 #[] w fun e w'=>e=.returned (.map (some w.heap.size))/\w.alloc (.map (Jk B3 0).toArray B3.length)=w':=Vo w
def Af3 (W:World) (lb D:Nat) (m:Option Nat):Prop:=
 W.heap[lb]? =some (.cells #[.map m] 296 (0,0))/\ ∀mb,m=some mb->D+1<mb/\W.heap[mb]? =some (.map (Jk B3 0).toArray B3.length)
theorem Akx:liesAt Tryz.prog Tryz.prog.depth 133 (2 / Tryz.prog.cellsOf 133) 0 133 1=true:=by kernel_rfl
def BB (w:World) (B g:Nat) (bs:List UInt8):Prop:= ∃p v,Pj w B g 0 133 #[p,v] bs
theorem Pj.keep {A W:World} {B g o:Nat} {t:TypeId} {cs:Array Value} {bs:List UInt8} (h:Pj A B g o t cs bs) {row:Option Nat} (hg:A.grownBy W row) (hr: ∀k,row=some k-> ∃ob:Obj,A.heap[k]? =some ob/\ob.isCells=false):Pj W B g o t cs bs:=by
 obtain⟨hB,hb,ht,hs,h0,v,h1,hown⟩:=h;refine⟨hB,(grownBy_keeps_cells hg hr hb rfl).trans hb,ht,hs,h0,v,h1,hown.kept hg ?_⟩
 cases hv:v.ownBlock with
 |none=>exact .inl rfl
 |some k=>
  refine .inr fun e=> ?_;obtain⟨ob,ho,hc⟩:=hr k e.symm;obtain⟨c,fz,hk⟩:=Jv hown k hv;rw[hk]at ho
  cases ho
  cases hc
theorem Rq {A W:World} (h:Below A.heap.size A W):A.grownBy W none:=⟨h.os,h.tape,h.output,h.size,fun i hi _=>h.block i hi⟩
theorem BB.below {A W:World} {B g:Nat} {bs:List UInt8} (h:BB A B g bs) (hb:Below A.heap.size A W):BB W B g bs:=by
 obtain⟨p,v,h⟩:=h;exact⟨p,v,h.keep (Rq hb) (fun k e=>by cases e)⟩
theorem BB.put {A:World} {B g k:Nat} {bs:List UInt8} {o o':Obj} (h:BB A B g bs) (ho:A.heap[k]? =some o) (hc:o.isCells=false):BB (A.putObj k o') B g bs:=by
 obtain⟨p,v,h⟩:=h;exact⟨p,v,h.keep (grownBy_putObj' A k o') (fun j e=>by cases e;exact⟨o,ho,hc⟩)⟩
theorem BB.lt {A:World} {B g:Nat} {bs:List UInt8} (h:BB A B g bs):g<A.heap.size:=by
 obtain⟨p,v,h⟩:=h;exact h.lt
theorem BB.base {A:World} {B g:Nat} {bs:List UInt8} (h:BB A B g bs):B<=g:=by
 obtain⟨p,v,h⟩:=h;exact h.1
theorem BB.store {A:World} {B g k:Nat} {bs:List UInt8} {cs:Array Value} {t:TypeId} (h:BB A B g bs) (hk:A.heap[k]? =some (.cells cs t (0,0))) (ht:t≠5) (hne:k≠g) (i:Nat) (u:Value):BB (A.setCell ⟨k,i,none⟩ u) B g bs:=by
 obtain⟨p,v,hB,hb,ht',hs,h0,v',h1,hown⟩:=h;refine⟨p,v,hB,(Below.heap_setCell _ _ _ _ (fun e=>hne e.symm)).trans hb,ht',hs,h0,v',h1, ?_⟩;exact hown.kept (row:=some k) ⟨rfl,rfl,rfl,by simp[World.setCell],fun j _ hj=>Below.heap_setCell _ _ _ _ (fun e=>hj (by simp[e]))⟩ (Or.inr (Lib.ownBlock_ne hown hk ht))
theorem Gw {B g:Nat} {bs:List UInt8} (c:Int) (hc0:0<=c) (hc1:c<256) {w:World} (h:BB w B g bs) (hlen:bs.length<=100000000000):
 Calls Tryz.prog 241 #[.pointer (some ⟨g,0,none⟩),.int .u8 c] w fun e w'=>e=.returned .nilIface/\BB w' B g (bs++ [UInt8.ofNat c.toNat])/\Below B w w'/\Fh g w w':=by
 obtain⟨p,v,h⟩:=h;refine(Sr B g 0 _ _ bs c hc0 hc1 w h Akx (by omega) (by have:=h.lt;have:=h.1;omega)).mono ?_;rintro e w' ⟨rfl,⟨v',h'⟩,hb,hk⟩;exact⟨rfl,⟨_,v',h'⟩,hb,hk⟩
theorem Nt {B g:Nat} {bs:List UInt8} (u:UInt8) {w:World} (h:BB w B g bs) (hlen:bs.length<=100000000000):
 Calls Tryz.prog 241 #[.pointer (some ⟨g,0,none⟩),.int .u8 u.toNat] w fun e w'=>e=.returned .nilIface/\BB w' B g (bs++ [u])/\Below B w w'/\Fh g w w':=by
 have hu:=u.toNat_lt;have h1:=Gw (u.toNat:Int) (by omega) (by omega) h hlen;have e:UInt8.ofNat (Int.toNat (u.toNat:Int))=u:=by rw[Int.toNat_natCast];simp
 rwa [e]at h1
theorem Td: ∀n:Fin 16,(⟨#[48,49,50,51,52,53,54,55,56,57,97,98,99,100,101,102]⟩:ByteArray)[n.val]'(by simp[ByteArray.size])=Mb n.val:=by decide
theorem Ang: ∀n:Fin 32,bits .and .i32 ((n.val:Nat):Int) 15=((n.val:Nat):Int) % 16:=by decide
theorem Jo {B g:Nat} {bs:List UInt8} (r:Int) (hr0:0<=r) (hr1:r<=2147483647) {w:World} (h:BB w B g bs) (hlen:bs.length<=100000000000):
 Calls Tryz.prog 244 #[.pointer (some ⟨g,0,none⟩),.int .i32 r] w fun e w'=>(∃k:Int,e=.returned (.tuple #[.int .i64 k,.nilIface]))/\BB w' B g (bs++Lib.encodeRune r)/\Below B w w'/\Fh g w w':=by
 obtain⟨p,v,h⟩:=h;refine(Ss B g 0 _ _ bs r (by omega) hr1 w h Akx (by omega) (by have:=h.lt;have:=h.1;omega)).mono ?_;rintro e w' ⟨hk0,⟨v',h'⟩,hb,hk⟩;exact⟨hk0,⟨_,v',h'⟩,hb,hk⟩
theorem J3 {B g:Nat} {bs:List UInt8} (s:ByteArray) {w:World} (h:BB w B g bs) (hlen:bs.length+s.size<=100000000000):
 Calls Tryz.prog 193 #[.pointer (some ⟨g,0,none⟩),.string s] w fun e w'=>e=.returned (.tuple #[.int .i64 s.size,.nilIface])/\BB w' B g (bs++s.data.toList)/\Below B w w'/\Fh g w w':=by
 obtain⟨p,v,h⟩:=h;refine(Ko B g 0 _ _ bs s w h Akx (by omega) (by have:=h.lt;have:=h.1;omega)).mono ?_;rintro e w' ⟨rfl,⟨v',h'⟩,hb,hk⟩;exact⟨rfl,⟨_,v',h'⟩,hb,hk⟩
theorem Ag7 {B g:Nat} {bs:List UInt8} {w:World} (h:BB w B g bs) (h0:bs≠ []):
 Calls Tryz.prog 75 #[.pointer (some ⟨g,0,none⟩)] w fun e w'=>e=.returned (.string ⟨bs.toArray⟩)/\Below B w w'/\Fh g w w':=by
 obtain⟨p,v,h⟩:=h;exact Pt B g 0 _ _ bs w h h0
theorem Oo {a c:Int} (h:D6 a B3=some c):34<=c/\c<128:=by
 simp only[B3,D6]at h
 repeat' split at h
 all_goals first|(cases h;done)|(simp at h;omega)
theorem L8 {c:Int} (h0:0<=c) (h1:c<128):Lib.encodeRune c= [UInt8.ofNat c.toNat]:=by
 unfold Lib.encodeRune;rw[Lib.encodeRuneZ_one h0 (by omega)];rfl
theorem Qc {r:Nat} (h:D6 r B3=none) (h2: ¬(32<=r/\r≠34/\r≠92)):r<32:=by
 simp only[B3,D6]at h
 repeat' split at h
 all_goals first|(cases h;done)|omega
theorem Vw (r:Nat):(Ai r).length<=6:=by
 unfold Ai
 split
 . unfold Lib.encodeRune Lib.encodeRuneZ
   repeat' split
   all_goals simp
 . split<;>simp
theorem G5 (l:List (Nat×Nat)):(Ae l).length<=6*l.length:=by
 unfold Ae
 induction l with
 |nil=>simp
 |cons x r ih=>simp only[List.flatMap_cons,List.length_append,List.length_cons];have:=Vw x.2;omega
theorem Gd: ∀(n:Nat) (l:List UInt8) (p:Nat),(Ax n l p).length<=n
 |0,_,_=>by simp[Ax]
 |n+1,l,p=>by
  simp only[Ax]
  split
  . simp
  . split
    . simp
    . simp only[List.length_cons];have:=Gd n (l.drop (Lib.decodeL l).2) (p+(Lib.decodeL l).2);omega
theorem Ql: ∀(n:Nat) (l:List UInt8) (p:Nat),∀x ∈ Ax n l p,x.2<=1114111
 |0,_,_,x,h=>by simp[Ax]at h
 |n+1,l,p,x,h=>by
  simp only[Ax]at h
  split at h
  . simp at h
  . split at h
    . simp at h
    . rcases List.mem_cons.1 h with rfl|h
      . exact Lib.decodeL_rune l
      . exact Ql n _ _ x h
attribute [local go_sem] Oper.semAt_some
def QI (w:World) (g lb d:Nat) (pre:List (Nat×Nat)) (W:World):Prop:=
 Below w.heap.size w W/\BB W w.heap.size g (34::Ae pre)/\ ∃m,Af3 W lb d m
theorem Aan (s:ByteArray) (w:World) (hT:Cm w) (hs:s.size<=1000000000) (hv:A9 s=true):
 Calls Tryz.prog 196 #[.string s] w fun e w'=>e=.returned (.tuple #[.string ⟨(34::Ae (Bw s)++ [34]).toArray⟩,.int .i64 0])/\Below w.heap.size w w':=by
 refine(callsIn_wide (n:=12)).1 ?_;refine callsIn_of_wp_marks Tryz.func196 rfl trivial ?_ rfl;simp only[Tryz.ntmps196,List.size_toArray,List.length_cons,List.length_nil,Nat.reduceAdd,Nat.reduceSub,Array.replicate_succ,Array.replicate_zero,List.push_toArray,List.append_toArray,List.nil_append,List.cons_append]
 gi_wp2_with (refine⟨trivial, ?_⟩;gi_at_call 159;refine(callsIn_wide.2 (Cl hv _ (by omega) hT)).mono ?_;rintro e w1 ⟨rfl,hb1⟩)
 have hz1:=hb1.size;have hB1:BB ((w1.alloc (.cells #[.map none] 296)).alloc (.cells #[.pointer none,.slice none 0 0] 133)) w.heap.size (w1.heap.size+1) []:=
  ⟨_,_,by omega,by rw[<-World.size_alloc w1 (.cells #[.map none] 296)];exact heap_alloc_new _ _,by decide,by simp,.inl rfl,.slice none 0 0,rfl,World.ownsRow_nil _ _ _ _⟩
 have hL1:((w1.alloc (.cells #[.map none] 296)).alloc (.cells #[.pointer none,.slice none 0 0] 133)).heap[w1.heap.size]? =some (.cells #[.map none] 296 (0,0)):=
  (Below.heap_alloc _ _ _ (by simp)).trans (heap_alloc_new _ _)
 have hbx:Below w.heap.size w ((w1.alloc (.cells #[.map none] 296)).alloc (.cells #[.pointer none,.slice none 0 0] 133)):=(hb1.alloc hz1 _).alloc (by simp;omega) _
 gi_wp2_with (first|(refine⟨trivial, ?_⟩;gi_at_call 241;refine(callsIn_wide.2 (Gw 34 (by omega) (by omega) hB1 (by simp))).mono ?_;rintro e w2 ⟨rfl,hB2,hb2,hk2⟩)|(refine⟨trivial, ?_⟩;gi_at_call 242;refine(callsIn_wide.2 (Ro _ _)).mono ?_;rintro e w3 ⟨rfl,rfl⟩))
 have hz2:=hb2.size;simp only[World.size_alloc]at hz2;have hL2:w2.heap[w1.heap.size]? =some (.cells #[.map none] 296 (0,0)):=hk2 _ _ hL1 (by simp) (fun c fz e=>by cases e);have hbw2:Below w.heap.size w w2:=hbx.trans hb2;clear hB1 hL1 hb1 hk2 hb2 hbx;have hnew:=heap_alloc_new w2 (.cells #[.string s] 9);have hT3:Cm (w2.alloc (.cells #[.string s] 9)):=hT.below (hbw2.alloc (by omega) _);have hyld:=Z8 s w2.heap.size hs;have hB3:BB (w2.alloc (.cells #[.string s] 9)) w.heap.size (w1.heap.size+1) (34::Ae []):=hB2.below ((Below.refl _ _).alloc (Nat.le_refl _) _);have hL3:=(Below.heap_alloc w2 (.cells #[.string s] 9) w1.heap.size (by omega)).trans hL2;have hbw3:Below w.heap.size w (w2.alloc (.cells #[.string s] 9)):=hbw2.alloc (by omega) _;have hz3:w2.heap.size+1=(w2.alloc (.cells #[.string s] 9)).heap.size:=by simp
 generalize w2.alloc (.cells #[.string s] 9)=w3 at*
 refine Aai (n:=10) (gf:=282) (lb:= #[.pointer (some ⟨w2.heap.size,0,none⟩)]) rfl (enters_of Tryz.func282 (by kernel_rfl) rfl) hyld (fun _=>rfl)
  (fun pre W=>QI w (w1.heap.size+1) w1.heap.size w3.heap.size pre W/\W.heap[w2.heap.size]? =some (.cells #[.string s] 9 (0,0))) ?hIn ?hIp ?hIb ?h0 ?a1 ?assign ?body ?done
 case assign=>
  intro l x W K hK
  gi_wp2
  exact hK
 case h0=>exact⟨⟨hbw3,hB3,none,hL3,fun _ h=>by cases h⟩,hnew⟩
 case hIb=>
  rintro pre A ⟨⟨h1,h2,h3⟩,h4⟩;exact⟨(Lib.cell_of_heap h4 0).trans rfl,hT.below h1⟩
 case hIn=>
  rintro pre A B ⟨⟨h1,h2,m,h3,h5⟩,h4⟩ hb;refine⟨⟨h1.trans (hb.mono h1.size),h2.below hb,m,(hb.block _ (Array.getElem?_eq_some_iff.1 h3).1).trans h3,fun mb e=>⟨(h5 mb e).1,(hb.block _ (Array.getElem?_eq_some_iff.1 (h5 mb e).2).1).trans (h5 mb e).2⟩⟩,(hb.block _ (Array.getElem?_eq_some_iff.1 h4).1).trans h4⟩
 case hIp=>
  rintro pre A k o o' ⟨⟨h1,h2,m,h3,h5⟩,h4⟩ ho hc hk;have hkw:w.heap.size<=k:=by omega
  have hk1:k<A.heap.size:=(Array.getElem?_eq_some_iff.1 ho).1;refine⟨⟨h1.grown (grownBy_putObj' A k o') (by omega) (fun j e=>by cases e;exact hkw),h2.put ho hc,m, ?_,fun mb e=>⟨(h5 mb e).1, ?_⟩⟩, ?_⟩
  . rw[World.putObj_heap_other (by omega)];exact h3
  . have:=(h5 mb e).1;rw[World.putObj_heap_other (by omega)];exact(h5 mb e).2
  . rw[World.putObj_heap_other (by omega)];exact h4
 case body=>
  rintro l pre x rest W hx ⟨⟨h1,h2,m,h3,h5⟩,h4⟩ ⟨ds,hds⟩ ⟨rc,hrc⟩;have hlen:(Ae pre).length<=6000000000:=by
   have e1:=G5 pre;have e2:=congrArg List.length hx;have e3:=Gd s.size s.data.toList 0;simp only[List.length_append,List.length_cons]at e2;unfold Bw at e2;omega
  have hr:x.2<=1114111:=Ql s.size s.data.toList 0 x (by show x ∈ Bw s;rw[hx];simp);have hsn:Ae (pre++ [x])=Ae pre++Ai x.2:=by simp[Ae]
  obtain⟨p,r⟩:=x;simp only at hr hsn;have hz:=h1.size;have hDm:w3.heap.size+1<W.heap.size:=(Array.getElem?_eq_some_iff.1 hrc).1;have hdt:w1.heap.size+1<w3.heap.size:=by omega
  have hsb:w2.heap.size<w3.heap.size:=by omega
  have hsa:w1.heap.size+1<w2.heap.size:=by omega
  have fin: ∀(a:Act) (X:World) (bs:List UInt8),BB X w.heap.size (w1.heap.size+1) bs->bs=34::Ae (pre++ [(p,r)])->Below w.heap.size w X->(∃m,Af3 X w1.heap.size w3.heap.size m)->
   X.heap[w3.heap.size]? =some (.deferred ds)->X.heap[w3.heap.size+1]? =some (.loop rc)->X.heap[w2.heap.size]? =some (.cells #[.string s] 9 (0,0))->
   Aem (fun X=>QI w (w1.heap.size+1) w1.heap.size w3.heap.size (pre++ [(p,r)]) X/\X.heap[w2.heap.size]? =some (.cells #[.string s] 9 (0,0))) w3.heap.size W .normal a X:=by
   intro a X bs hb e hbw hl hd hr2 hbox;subst e;exact⟨hd.trans hds.symm,hr2.trans hrc.symm,⟨hbw,hb,hl⟩,hbox⟩
  have Fin:=qz fin;clear fin;by_cases hst:32<=r/\r≠34/\r≠92
  . have hq:Ai r=Lib.encodeRune r:=by unfold Ai;rw[if_pos hst]
    have hB:decide (32<=(r:Int)/\(r:Int)≠34/\(r:Int)≠92)=true:=by simp;omega
    have Hq:Hid ((34::Ae pre)++Lib.encodeRune r=34::Ae (pre++ [(p,r)])):=by
     show _=_;rw[hsn,hq];rfl
    clear hsn hq hst hx
    gi_wp2_with (first|(refine⟨trivial, ?_⟩;gi_at_call 243;refine(CallsIn.inRound l (callsIn_wide.2 (Dd hB _))).mono ?_;rintro e wx ⟨rfl,rfl⟩)|(refine⟨trivial, ?_⟩;gi_at_call 244;refine(CallsIn.inRound l (callsIn_wide.2 (Jo (r:Int) (by omega) (by omega) h2 (by simp;omega)))).mono ?_;rintro e w4 ⟨⟨kk,rfl⟩,hB4,hb4,hk4⟩))
    exact Fin.out _ _ _ hB4 Hq.out (h1.trans hb4) ⟨m,hk4 _ _ h3 (by simp) (fun c fz e=>by cases e),fun mb e=>⟨(h5 mb e).1,hk4 _ _ (h5 mb e).2 (by have:=(h5 mb e).1;simp;omega) (fun c fz e=>by cases e)⟩⟩
     (hk4 _ _ hds (by simp;omega) (fun c fz e=>by cases e)) (hk4 _ _ hrc (by simp;omega) (fun c fz e=>by cases e)) (hk4 _ _ h4 (by simp;omega) (fun c fz e=>by cases e))
  . have hB:decide (32<=(r:Int)/\(r:Int)≠34/\(r:Int)≠92)=false:=by simp;omega
    have hnil:=fun(wx:World) (m0:Option Nat)=>run_eql_map_nil (P:=Tryz.prog) wx 296 _ _ m0 Tryz.underlying296;rcases m with _|mb
    ·
     obtain⟨X,hX⟩: ∃X,(W.setCell ⟨w1.heap.size,0,none⟩ (.map (some W.heap.size))).alloc (.map (Jk B3 0).toArray B3.length)=X:=⟨_,rfl⟩;have hsz:(W.setCell ⟨w1.heap.size,0,none⟩ (.map (some W.heap.size))).heap.size=W.heap.size:=by simp[World.setCell]
     have hXk: ∀k,k≠w1.heap.size->k<W.heap.size->X.heap[k]? =W.heap[k]? :=fun k hk hk'=>by
      rw[<-hX,Below.heap_alloc _ _ _ (by omega),Below.heap_setCell _ _ _ _ hk]
     have hXB:BB X w.heap.size (w1.heap.size+1) (34::Ae pre):=by
      rw[<-hX];exact(h2.store h3 (by decide) (by omega) 0 _).below ((Below.refl _ _).alloc (Nat.le_refl _) _)
     have hXw:Below w.heap.size w X:=by
      rw[<-hX];exact(h1.setCell (p:=⟨w1.heap.size,0,none⟩) hz1 _).alloc (by omega) _
     have hXl:X.heap[w1.heap.size]? =some (.cells #[.map (some W.heap.size)] 296 (0,0)):=by
      rw[<-hX,Below.heap_alloc _ _ _ (by omega)];exact Jw h3 _
     have hXm:X.heap[W.heap.size]? =some (.map (Jk B3 0).toArray B3.length):=by
      rw[<-hX];have:=heap_alloc_new (W.setCell ⟨w1.heap.size,0,none⟩ (.map (some W.heap.size))) (.map (Jk B3 0).toArray B3.length)
      rwa [hsz]at this
     have hXd:=(hXk _ (by omega) (by omega)).trans hds;have hXr:=(hXk _ (by omega) (by omega)).trans hrc;have hX4:=(hXk _ (by omega) (by omega)).trans h4;have c3:W.cell? ⟨w1.heap.size,0,none⟩=some (.map none):=(Lib.cell_of_heap h3 0).trans rfl;have f3:W.frozen? ⟨w1.heap.size,0,none⟩=false:=Lib.frozen_of_heap h3 0;have hlb:w1.heap.size<W.heap.size:=by omega
     have hlk:=U2 X W.heap.size B3 r hXm;have hmb:w3.heap.size+1<W.heap.size:=hDm;subst hX
     cases hf:D6 (r:Int) B3 with
     |some c=>
      rw[hf]at hlk;simp only[Option.getD_some,Option.isSome_some]at hlk;have hc:=Oo hf;have hc0:=hc.1;have hc1:=hc.2;have hq:Ai r= [92,UInt8.ofNat c.toNat]:=by unfold Ai;rw[if_neg hst,hf]
      have Hq:Hid (((34::Ae pre)++ [UInt8.ofNat (Int.toNat 92)])++Lib.encodeRune c=34::Ae (pre++ [(p,r)])):=by
       show _=_;rw[hsn,hq,L8 (by omega) hc1];simp
      clear hsn hq hst hx hf hc h5 h2
      gi_wp2_with (first|(refine⟨trivial, ?_⟩;gi_at_call 243;refine(CallsIn.inRound l (callsIn_wide.2 (Dd hB _))).mono ?_;rintro e wx ⟨rfl,rfl⟩)|(refine⟨trivial, ?_⟩;gi_at_call 245;refine(CallsIn.inRound l (callsIn_wide.2 (Na _))).mono ?_;rintro e wx ⟨rfl,rfl⟩)|(refine⟨trivial, ?_⟩;gi_at_call 241;refine(CallsIn.inRound l (callsIn_wide.2 (Gw 92 (by omega) (by omega) hXB (by simp;omega)))).mono ?_;rintro e w4 ⟨rfl,hB4,hb4,hk4⟩)|(refine⟨trivial, ?_⟩;gi_at_call 244;refine(CallsIn.inRound l (callsIn_wide.2 (Jo c (by omega) (by omega) hB4 (by simp;omega)))).mono ?_;rintro e w5 ⟨⟨kk,rfl⟩,hB5,hb5,hk5⟩))
      have hkk:=hk4.trans hk5;exact Fin.out _ _ _ hB5 Hq.out ((hXw.trans hb4).trans hb5) ⟨some W.heap.size,hkk _ _ hXl (by simp) (fun c fz e=>by cases e),fun m' e=>by cases e;exact⟨hmb,hkk _ _ hXm (by simp;omega) (fun c fz e=>by cases e)⟩⟩
       (hkk _ _ hXd (by simp;omega) (fun c fz e=>by cases e)) (hkk _ _ hXr (by simp;omega) (fun c fz e=>by cases e)) (hkk _ _ hX4 (by simp;omega) (fun c fz e=>by cases e))
     |none=>
      rw[hf]at hlk;simp only[Option.getD_none,Option.isSome_none]at hlk;have hr32:=Qc hf hst;have hq:Ai r= [92,117,48,48,Mb (r / 16),Mb (r % 16)]:=by unfold Ai;rw[if_neg hst,hf]
      gi_wp2_with (first|(refine⟨trivial, ?_⟩;gi_at_call 243;refine(CallsIn.inRound l (callsIn_wide.2 (Dd hB _))).mono ?_;rintro e wx ⟨rfl,rfl⟩)|(refine⟨trivial, ?_⟩;gi_at_call 245;refine(CallsIn.inRound l (callsIn_wide.2 (Na _))).mono ?_;rintro e wx ⟨rfl,rfl⟩)|(refine⟨trivial, ?_⟩;gi_at_call 193;refine(CallsIn.inRound l (callsIn_wide.2 (J3 ⟨#[92,117,48,48]⟩ hXB (by simp[ByteArray.size];omega)))).mono ?_;rintro e w4 ⟨rfl,hB4,hb4,hk4⟩))
      refine⟨trivial, ?_⟩;refine(CallsIn.inRound l (callsIn_wide.2 (Nt _ hB4 (by simp;omega)))).mono ?_;rintro e w5 ⟨rfl,hB5,hb5,hk5⟩;rw[Td ⟨r / 16,by omega⟩]at hB5;have hand:=Ang ⟨r,hr32⟩;dsimp only at hand;have hm0:0<=(r:Int) % 16:=by omega
      have hm1:(r:Int) % 16<16:=by omega
      have hm2:r % 16<16:=by omega
      gi_wp2_with fail
      refine⟨trivial, ?_⟩;refine(CallsIn.inRound l (callsIn_wide.2 (Nt _ hB5 (by simp;omega)))).mono ?_;rintro e w6 ⟨rfl,hB6,hb6,hk6⟩;rw[Td ⟨r % 16,by omega⟩]at hB6
      gi_wp2_with fail
      have hkk:=(hk4.trans hk5).trans hk6;have Hq:(((34::Ae pre)++ [92,117,48,48])++ [Mb (r / 16)])++ [Mb (r % 16)]=34::Ae (pre++ [(p,r)]):=by
       rw[hsn,hq];simp
      exact Fin.out _ _ _ hB6 Hq (((hXw.trans hb4).trans hb5).trans hb6) ⟨some W.heap.size,hkk _ _ hXl (by simp) (fun c fz e=>by cases e),fun m' e=>by cases e;exact⟨hmb,hkk _ _ hXm (by simp;omega) (fun c fz e=>by cases e)⟩⟩
       (hkk _ _ hXd (by simp;omega) (fun c fz e=>by cases e)) (hkk _ _ hXr (by simp;omega) (fun c fz e=>by cases e)) (hkk _ _ hX4 (by simp;omega) (fun c fz e=>by cases e))
    ·
     have hXm:=(h5 mb rfl).2;have hmb:=(h5 mb rfl).1;have c3:W.cell? ⟨w1.heap.size,0,none⟩=some (.map (some mb)):=(Lib.cell_of_heap h3 0).trans rfl;have hlk:=U2 W mb B3 r hXm;have hXB:=h2;have hXw:=h1;have hXl:=h3;have hXd:=hds;have hXr:=hrc;have hX4:=h4
     cases hf:D6 (r:Int) B3 with
     |some c=>
      rw[hf]at hlk;simp only[Option.getD_some,Option.isSome_some]at hlk;have hc:=Oo hf;have hc0:=hc.1;have hc1:=hc.2;have hq:Ai r= [92,UInt8.ofNat c.toNat]:=by unfold Ai;rw[if_neg hst,hf]
      have Hq:Hid (((34::Ae pre)++ [UInt8.ofNat (Int.toNat 92)])++Lib.encodeRune c=34::Ae (pre++ [(p,r)])):=by
       show _=_;rw[hsn,hq,L8 (by omega) hc1];simp
      clear hsn hq hst hx hf hc h5 h2
      gi_wp2_with (first|(refine⟨trivial, ?_⟩;gi_at_call 243;refine(CallsIn.inRound l (callsIn_wide.2 (Dd hB _))).mono ?_;rintro e wx ⟨rfl,rfl⟩)|(refine⟨trivial, ?_⟩;gi_at_call 241;refine(CallsIn.inRound l (callsIn_wide.2 (Gw 92 (by omega) (by omega) hXB (by simp;omega)))).mono ?_;rintro e w4 ⟨rfl,hB4,hb4,hk4⟩)|(refine⟨trivial, ?_⟩;gi_at_call 244;refine(CallsIn.inRound l (callsIn_wide.2 (Jo c (by omega) (by omega) hB4 (by simp;omega)))).mono ?_;rintro e w5 ⟨⟨kk,rfl⟩,hB5,hb5,hk5⟩))
      have hkk:=hk4.trans hk5;exact Fin.out _ _ _ hB5 Hq.out ((hXw.trans hb4).trans hb5) ⟨some mb,hkk _ _ hXl (by simp) (fun c fz e=>by cases e),fun m' e=>by cases e;exact⟨hmb,hkk _ _ hXm (by simp;omega) (fun c fz e=>by cases e)⟩⟩
       (hkk _ _ hXd (by simp;omega) (fun c fz e=>by cases e)) (hkk _ _ hXr (by simp;omega) (fun c fz e=>by cases e)) (hkk _ _ hX4 (by simp;omega) (fun c fz e=>by cases e))
     |none=>
      rw[hf]at hlk;simp only[Option.getD_none,Option.isSome_none]at hlk;have hr32:=Qc hf hst;have hq:Ai r= [92,117,48,48,Mb (r / 16),Mb (r % 16)]:=by unfold Ai;rw[if_neg hst,hf]
      gi_wp2_with (first|(refine⟨trivial, ?_⟩;gi_at_call 243;refine(CallsIn.inRound l (callsIn_wide.2 (Dd hB _))).mono ?_;rintro e wx ⟨rfl,rfl⟩)|(refine⟨trivial, ?_⟩;gi_at_call 193;refine(CallsIn.inRound l (callsIn_wide.2 (J3 ⟨#[92,117,48,48]⟩ hXB (by simp[ByteArray.size];omega)))).mono ?_;rintro e w4 ⟨rfl,hB4,hb4,hk4⟩))
      refine⟨trivial, ?_⟩;refine(CallsIn.inRound l (callsIn_wide.2 (Nt _ hB4 (by simp;omega)))).mono ?_;rintro e w5 ⟨rfl,hB5,hb5,hk5⟩;rw[Td ⟨r / 16,by omega⟩]at hB5;have hand:=Ang ⟨r,hr32⟩;dsimp only at hand;have hm0:0<=(r:Int) % 16:=by omega
      have hm1:(r:Int) % 16<16:=by omega
      have hm2:r % 16<16:=by omega
      gi_wp2_with fail
      refine⟨trivial, ?_⟩;refine(CallsIn.inRound l (callsIn_wide.2 (Nt _ hB5 (by simp;omega)))).mono ?_;rintro e w6 ⟨rfl,hB6,hb6,hk6⟩;rw[Td ⟨r % 16,by omega⟩]at hB6
      gi_wp2_with fail
      have hkk:=(hk4.trans hk5).trans hk6;have Hq:(((34::Ae pre)++ [92,117,48,48])++ [Mb (r / 16)])++ [Mb (r % 16)]=34::Ae (pre++ [(p,r)]):=by
       rw[hsn,hq];simp
      exact Fin.out _ _ _ hB6 Hq (((hXw.trans hb4).trans hb5).trans hb6) ⟨some mb,hkk _ _ hXl (by simp) (fun c fz e=>by cases e),fun m' e=>by cases e;exact⟨hmb,hkk _ _ hXm (by simp;omega) (fun c fz e=>by cases e)⟩⟩
       (hkk _ _ hXd (by simp;omega) (fun c fz e=>by cases e)) (hkk _ _ hXr (by simp;omega) (fun c fz e=>by cases e)) (hkk _ _ hX4 (by simp;omega) (fun c fz e=>by cases e))
 case done=>
  rintro W ⟨⟨h1,h2,m,h3,h5⟩,h4⟩ hds;have hdt:w1.heap.size+1<w3.heap.size:=by omega
  have hlen:(Ae (Bw s)).length<=6000000000:=by
   have e1:=G5 (Bw s);have e3:=Gd s.size s.data.toList 0;unfold Bw at e1 ⊢;omega
  gi_wp2_with (first|(refine⟨trivial, ?_⟩;gi_at_call 241;refine(callsIn_wide.2 (Gw 34 (by omega) (by omega) h2 (by simp;omega))).mono ?_;rintro e w4 ⟨rfl,hB4,hb4,hk4⟩)|(refine⟨trivial, ?_⟩;gi_at_call 75;refine(callsIn_wide.2 (Ag7 hB4 (by simp))).mono ?_;rintro e w5 ⟨rfl,hb5,hk5⟩))
  have hd4:=hk4 _ _ hds (by simp;omega) (fun c fz e=>by cases e);have hd5:=hk5 _ _ hd4 (by simp;omega) (fun c fz e=>by cases e);refine⟨by simp,.inl ⟨_,_,rfl,run_takeDeferred hd5, ?_⟩⟩;have hbw5:Below w.heap.size w w5:=(h1.trans hb4).trans hb5;refine⟨_,results_tmp2 rfl _ _ _,rfl,hbw5.grown (grownBy_putObj' w5 _ _) hbw5.size (fun k e=>by cases e;omega)⟩
end Go.Proofs.YtkmcjfkokoidcaaGreatDoor
