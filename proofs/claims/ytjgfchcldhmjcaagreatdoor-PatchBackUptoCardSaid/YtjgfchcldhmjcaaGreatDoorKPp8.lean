/- Parts: parse.reader: its world, and its small functions: wrong, skip, comes. Condition: a text of at most 10^9 bytes. -/
import Derived.Lib.TrimUEq
import Derived.LoopIn
import Derived.LoopNIn
import Derived.Lib.ItoaLen
import Derived.Deep.LoopGhost
import Derived.Test.YtjgfchcldhmjcaaGreatDoorKPp6
set_option maxHeartbeats 20000000
set_option maxRecDepth 100000
namespace Go.Proofs.YtjgfchcldhmjcaaGreatDoor
open Go.RowKit
attribute [local go_sem] Oper.semAt_some
def Au:Nat->List UInt8->Nat->List (Nat×Nat)
 |0,_,_=> []
 |n+1,l,p=>if l= []then []else if(Lib.decodeL l).1=65533/\(Lib.decodeL l).2=1 then []else(p,(Lib.decodeL l).1)::Au n (l.drop (Lib.decodeL l).2) (p+(Lib.decodeL l).2)
def Bw (s:ByteArray):List (Nat×Nat):=Au s.size s.data.toList 0
theorem Qu (s:ByteArray) (k:Nat) (h:k<s.size):(if(s.extract k s.size).size=0 then(65533,0)else Utf8.decode (s.extract k s.size) 0)=Lib.decodeL (s.data.toList.drop k):=by
 have e:(s.extract k s.size)=⟨(s.data.toList.drop k).toArray⟩:=by
  apply ByteArray.ext;apply Array.ext';rw[Lib.extract_data];dsimp only;rw[List.take_of_length_le (by rw[List.length_drop,<-Lib.size_eq];omega)]
 rw[if_neg (by rw[ByteArray.size_extract];omega),e];rfl
theorem Qs (s:ByteArray) (w:World):
 Calls Tryz.prog 267 #[.string s] w fun e w'=>e=.returned (.func (.func 311) #[] #[.pointer (some ⟨w.heap.size,0,none⟩)])/\w.alloc (.cells #[.string s] 9)=w':=by
 go_enter Tryz.func267,Tryz.ntmps267;go_wp2;go_ret;exact⟨rfl,rfl⟩
theorem Yl (s:ByteArray) (b:Nat) (Z:s.size<=1000000000):
 Ahp Tryz.prog 311 #[.pointer (some ⟨b,0,none⟩)] (fun x:Nat×Nat=> #[.int .i64 x.1,.int .i32 x.2]) (Bw s) (fun A=>A.cell? ⟨b,0,none⟩=some (.string s)/\Cj A):=by
 intro n l J W h u P h0;refine callsIn_of_wp Tryz.func311 rfl trivial ?_ rfl;simp only[Tryz.ntmps311,List.size_toArray,List.length_cons,List.length_nil,Nat.reduceAdd,Nat.reduceSub,Array.replicate_succ,Array.replicate_zero,List.push_toArray,List.append_toArray,List.nil_append,List.cons_append]
 gi_wp2
 gi_loopw [3] (fun i wr=> ∃(pre:List (Nat×Nat)) (f k:Nat),i=.int .i64 k/\k<=s.size/\s.size - k<=f/\Hid (Bw s=pre++Au f (s.data.toList.drop k) k)/\J pre wr) (fun i _=>s.size - (intOf i).toNat)
 case atStart=>exact⟨[],s.size,0,rfl,Nat.zero_le _,by omega,rfl,h0⟩
 case round=>
  obtain⟨pre,f,k,rfl,Y,X,E,p⟩:=hrel;have U:wr.cell? ⟨b,0,none⟩=some (.string s):=(u _ _ p).1;have K:Cj wr:=(u _ _ p).2;by_cases L:k<s.size
  . have j:s.data.toList.drop k≠ []:=by
     intro e;have:=congrArg List.length e;rw[List.length_drop,<-Lib.size_eq]at this;simp at this;omega
    obtain⟨f,rfl⟩: ∃S,f=S+1:=⟨f - 1,by omega⟩;have t:=Tryz.utf8_DecodeRuneInString (s.extract k s.size) wr K.2.1;have w:Lib.decodeGo (s.extract k s.size)=Lib.decodeL (s.data.toList.drop k):=Qu s k L;have y:=Lib.decodeL_width (s.data.toList.drop k);have m:=Lib.decodeL_le _ j;have B:=Lib.decodeL_rune (s.data.toList.drop k);rw[List.length_drop,<-Lib.size_eq]at m;have a:=E.out;simp only[Au]at a;rw[if_neg j,List.drop_drop]at a;rw[w]at t;generalize Lib.decodeL (s.data.toList.drop k)=D at t y m B a;obtain⟨r,z⟩:=D;simp only at t y m B a;have G:=qz t;clear t w j E;by_cases c:r=65533/\z=1
    . rw[if_pos c,List.append_nil]at a;have o:=qz a;obtain⟨M,N⟩:=c;have O:((r:Int)==65533)=true:=by simp;omega
      have R:((z:Int)==1)=true:=by simp;omega
      clear a M N
      gi_wp2_with (refine⟨trivial, ?_⟩;gi_at_call 312;refine(callsIn_wide.2 G.out).mono ?_;rintro e F ⟨rfl,d⟩;have I:=h _ _ _ p d)
      refine bodyPost_ret (results_none rfl _ _ _) rfl ?_;exact⟨⟨_,rfl⟩,by rw[o.out];exact I⟩
    . rw[if_neg c]at a;have o:=qz a;have q:Hid (Bw s=(pre++ [(k,r)])++Au f (s.data.toList.drop (k+z)) (k+z)):=by
       show Bw s=_;rw[a];simp
      clear a;rcases(by omega:r≠65533\/(r=65533/\z≠1))with H|⟨H,T⟩
      . have O:((r:Int)==65533)=false:=by simp;omega
        clear H c
        gi_wp2_with (refine⟨trivial, ?_⟩;gi_at_call 312;refine(callsIn_wide.2 G.out).mono ?_;rintro e F ⟨rfl,d⟩;obtain⟨fn,tmps,assign,body,C,v⟩:=P pre (k,r) _ F o.out (h _ _ _ p d);dsimp only at C)
        refine v.mono ?_;rintro e Q ⟨rfl,g⟩;clear C v
        gi_wp2
        go_roundw
        case rel=>exact⟨pre++ [(k,r)],f,k+z,by go_num,by omega,by omega,q,g⟩
        case measure=>simp[intOf];omega
      . have O:((r:Int)==65533)=true:=by simp;omega
        have R:((z:Int)==1)=false:=by simp;omega
        clear H T c
        gi_wp2_with (refine⟨trivial, ?_⟩;gi_at_call 312;refine(callsIn_wide.2 G.out).mono ?_;rintro e F ⟨rfl,d⟩;obtain⟨fn,tmps,assign,body,C,v⟩:=P pre (k,r) _ F o.out (h _ _ _ p d);dsimp only at C)
        refine v.mono ?_;rintro e Q ⟨rfl,g⟩;clear C v
        gi_wp2
        go_roundw
        case rel=>exact⟨pre++ [(k,r)],f,k+z,by go_num,by omega,by omega,q,g⟩
        case measure=>simp[intOf];omega
  . obtain rfl:k=s.size:=by omega
    have a:=E.out;rw[List.drop_eq_nil_of_le (by rw[<-Lib.size_eq];omega)]at a;have V:Au f [] s.size= []:=by cases f<;>simp[Au]
    rw[V,List.append_nil]at a;have o:=qz a;clear E a
    gi_wp2
    go_end0
    exact⟨⟨_,rfl⟩,by rw[o.out];exact p⟩
attribute [local go_sem] Oper.semAt_some
def Bn:List (Int×Int):= [(34,34),(92,92),(8,98),(9,116),(10,110),(12,102),(13,114)]
def Iz:List (Int×Int)->Nat->List MapEntry
 | [],_=> []
 |(k,v)::r,i=>{key:=.int .i32 k,val:=.int .i32 v,born:=i}::Iz r (i+1)
def G8 (w:World) (kv:List (Int×Int)):World:=w.alloc (.map (Iz kv 0).toArray kv.length)
def Dy (a:Int):List (Int×Int)->Option Int
 | []=>none
 |(k,v)::r=>if a=k then some v else Dy a r
theorem Lb (a:Int): ∀(kv:List (Int×Int)) (i j:Nat),∃q,Instr.findNow (.int .i32) (.int .i32 a) (Iz kv i) j=some q/\q.map (·.2)=(Dy a kv).map (Value.int .i32)
 | [],_,_=>⟨none,rfl,rfl⟩
 |(k,v)::r,i,j=>by
  by_cases h:a=k
  . subst h;exact⟨some (j,.int .i32 v),by simp[Iz,Instr.findNow,Instr.sameNow],by simp[Dy]⟩
  . obtain⟨q,b,c⟩:=Lb a r (i+1) (j+1);refine⟨q, ?_,by rw[c];simp[Dy,h]⟩;have:(a==k)=false:=by simpa using h
    simp[Iz,Instr.findNow,Instr.sameNow,this,b]
theorem Qy: ∀(kv:List (Int×Int)) (i:Nat) (k v:Int),Iz (kv++ [(k,v)]) i=Iz kv i++ [{key:=.int .i32 k,val:=.int .i32 v,born:=i+kv.length}]
 | [],i,k,v=>by simp[Iz]
 |(a,b)::r,i,k,v=>by
  simp only[List.cons_append,Iz,Qy r,List.length_cons];rw[show i+1+r.length=i+(r.length+1)from by omega]
theorem Afa (w:World) (x y:Obj):(w.alloc x).heap.setIfInBounds w.heap.size y=(w.alloc y).heap:=by
 show(w.heap.push x).setIfInBounds w.heap.size y=w.heap.push y;apply Array.ext
 . simp
 . intro i a c;rw[Array.getElem_setIfInBounds (by simpa using a)];rw[Array.getElem_push,Array.getElem_push];by_cases b:w.heap.size=i
   . subst b;simp
   . rw[if_neg b];have:i<w.heap.size:=by simp at a;omega
     simp[this]
theorem Agv (e:Bool) (k:Int) (n:Nat) (w:World):(Instr.checkKey e (n+1) 21 (.int .i32 k)).run Tryz.prog w=.ok () w:=by
 simp[Instr.checkKey,run_underlying Tryz.underlying21]
theorem Rl (e:Bool) (k:Int) (w:World):(Instr.checkKey e 10000 21 (.int .i32 k)).run Tryz.prog w=.ok () w:=Agv e k 9999 w
theorem Ci (w:World) (a:List (Int×Int)) (k v:Int) (h:Dy k a=none):
 (Instr.mapUpdate 336 (.map (some w.heap.size)) (.int .i32 k) (.int .i32 v)).run Tryz.prog (G8 w a)=.ok () (G8 w (a++ [(k,v)])):=by
 have f:(G8 w a).heap[w.heap.size]? =some (.map (Iz a 0).toArray a.length):=heap_alloc_new _ _;obtain⟨q,d,e⟩:=Lb k a 0 0;rw[h]at e;have g:q=none:=by cases q<;>simp_all
 subst g;have b:=Rl false k (G8 w a);have c:(Instr.findKey 21 (.int .i32 k) (Iz a 0)).run Tryz.prog (G8 w a)=.ok none (G8 w a):=by
  simp[Instr.findKey,Sem.run_bind,run_underlying Tryz.underlying21,d]
 unfold Instr.mapUpdate;simp only[Sem.run_bind,run_underlying Tryz.underlying336,Result.andThen,getObj,Sem.run,f,b,c,setObj];simp only[G8,Qy,List.length_append,List.length_cons,List.length_nil,Nat.zero_add];rw[Afa,List.push_toArray];rfl
theorem T7 (w:World) (b:Nat) (a:List (Int×Int)) (k:Int) (h:w.heap[b]? =some (.map (Iz a 0).toArray a.length)):
 (Instr.lookup 336 (.map (some b)) (.int .i32 k) true).run Tryz.prog w=.ok (.tuple #[.int .i32 ((Dy k a).getD 0),.bool (Dy k a).isSome]) w:=by
 obtain⟨q,g,f⟩:=Lb k a 0 0;have c:=fun e=>Rl e k w;have d:(Instr.findKey 21 (.int .i32 k) (Iz a 0)).run Tryz.prog w=.ok q w:=by
  simp[Instr.findKey,Sem.run_bind,run_underlying Tryz.underlying21,g]
 unfold Instr.lookup;simp only[Sem.run_bind,run_underlying Tryz.underlying336,Result.andThen,getObj,Sem.run,h]
 cases q with
 |none=>
  have:Dy k a=none:=by cases hq:Dy k a<;>simp_all
  rw[this];have l:(zeroValue 21).run Tryz.prog w=.ok (.int .i32 0) w:=Tryz.zeroValue21 w;simp[c,d,l,Result.andThen]
 |some p=>
  obtain⟨i,v⟩:=p;obtain⟨u,j⟩: ∃u,Dy k a=some u:=by cases hq:Dy k a<;>simp_all
  rw[j]at f ⊢;simp at f;subst f;simp[c,d]
theorem Uy (w:World):
 Calls Tryz.prog 270 #[] w fun e w'=>e=.returned (.map (some w.heap.size))/\G8 w Bn=w':=by
 have a:(Instr.makeMap 336 none).run Tryz.prog w=.ok (.map (some w.heap.size)) (G8 w []):=run_makeMap _ w;have b:=Ci w [] 34 34 rfl;have c:=Ci w [(34,34)] 92 92 rfl;have d:=Ci w [(34,34),(92,92)] 8 98 rfl;have f:=Ci w [(34,34),(92,92),(8,98)] 9 116 rfl;have g:=Ci w [(34,34),(92,92),(8,98),(9,116)] 10 110 rfl;have h:=Ci w [(34,34),(92,92),(8,98),(9,116),(10,110)] 12 102 rfl;have i:=Ci w [(34,34),(92,92),(8,98),(9,116),(10,110),(12,102)] 13 114 rfl;simp only[List.nil_append,List.cons_append]at b c d f g h i;go_enter Tryz.func270,Tryz.ntmps270;go_wp2;go_ret;exact⟨rfl,rfl⟩
attribute [local go_sem] Oper.semAt_some
def Ld (n:Nat):UInt8:=if n<10 then UInt8.ofNat (48+n)else UInt8.ofNat (87+n)
def Ao (r:Nat):List UInt8:=
 if 32<=r/\r≠34/\r≠92 then Lib.encodeRune r
 else match Dy r Bn with
  |some c=> [92,UInt8.ofNat c.toNat]
  |none=> [92,117,48,48,Ld (r / 16),Ld (r % 16)]
def Aj (l:List (Nat×Nat)):List UInt8:=l.flatMap fun x=>Ao x.2
theorem R9 (r:Int) (w:World):Calls Tryz.prog 268 #[.int .i32 r] w fun e w'=>e=.returned (.bool (decide (32<=r/\r≠34/\r≠92)))/\w=w':=by
 go_enter Tryz.func268,Tryz.ntmps268;go_wp2
 all_goals go_ret
 all_goals refine⟨Aa5 ?_,rfl⟩
 all_goals first|(simp_all;done)|(simp_all;omega)|(rw[Bool.eq_iff_iff];simp_all)
theorem C6 {r:Int} {B:Bool} (h:decide (32<=r/\r≠34/\r≠92)=B) (w:World):Calls Tryz.prog 268 #[.int .i32 r] w fun e w'=>e=.returned (.bool B)/\w=w':=by
 subst h;exact R9 _ _
theorem L6 (w:World):
 Calls Tryz.prog 270 #[] w fun e w'=>e=.returned (.map (some w.heap.size))/\w.alloc (.map (Iz Bn 0).toArray Bn.length)=w':=Uy w
def Aef (W:World) (lb D:Nat) (m:Option Nat):Prop:=
 W.heap[lb]? =some (.cells #[.map m] 336 (0,0))/\ ∀mb,m=some mb->D+1<mb/\W.heap[mb]? =some (.map (Iz Bn 0).toArray Bn.length)
theorem Ai3:liesAt Tryz.prog Tryz.prog.depth 114 (2 / Tryz.prog.cellsOf 114) 0 114 1=true:=by kernel_rfl
def BB (w:World) (B g:Nat) (bs:List UInt8):Prop:= ∃p v,Om w B g 0 114 #[p,v] bs
theorem Om.keep {A W:World} {B g o:Nat} {t:TypeId} {cs:Array Value} {d:List UInt8} (h:Om A B g o t cs d) {row:Option Nat} (i:A.grownBy W row) (l: ∀k,row=some k-> ∃b:Obj,A.heap[k]? =some b/\b.isCells=false):Om W B g o t cs d:=by
 obtain⟨n,f,s,r,h0,v,m,a⟩:=h;refine⟨n,(grownBy_keeps_cells i l f rfl).trans f,s,r,h0,v,m,a.kept i ?_⟩
 cases hv:v.ownBlock with
 |none=>exact .inl rfl
 |some k=>
  refine .inr fun e=> ?_;obtain⟨b,j,p⟩:=l k e.symm;obtain⟨c,u,q⟩:=Jh a k hv;rw[q]at j
  cases j
  cases p
theorem J6 {A W:World} (h:Below A.heap.size A W):A.grownBy W none:=⟨h.os,h.tape,h.output,h.size,fun i a _=>h.block i a⟩
theorem BB.below {A W:World} {B g:Nat} {a:List UInt8} (h:BB A B g a) (b:Below A.heap.size A W):BB W B g a:=by
 obtain⟨p,v,h⟩:=h;exact⟨p,v,h.keep (J6 b) (fun k e=>by cases e)⟩
theorem BB.put {A:World} {B g k:Nat} {a:List UInt8} {o o':Obj} (h:BB A B g a) (c:A.heap[k]? =some o) (b:o.isCells=false):BB (A.putObj k o') B g a:=by
 obtain⟨p,v,h⟩:=h;exact⟨p,v,h.keep (grownBy_putObj' A k o') (fun j e=>by cases e;exact⟨o,c,b⟩)⟩
theorem BB.lt {A:World} {B g:Nat} {a:List UInt8} (h:BB A B g a):g<A.heap.size:=by
 obtain⟨p,v,h⟩:=h;exact h.lt
theorem BB.base {A:World} {B g:Nat} {a:List UInt8} (h:BB A B g a):B<=g:=by
 obtain⟨p,v,h⟩:=h;exact h.1
theorem BB.store {A:World} {B g k:Nat} {d:List UInt8} {cs:Array Value} {t:TypeId} (h:BB A B g d) (o:A.heap[k]? =some (.cells cs t (0,0))) (r:t≠5) (b:k≠g) (i:Nat) (u:Value):BB (A.setCell ⟨k,i,none⟩ u) B g d:=by
 obtain⟨p,v,l,m,c,q,h0,v',f,a⟩:=h;refine⟨p,v,l,(Below.heap_setCell _ _ _ _ (fun e=>b e.symm)).trans m,c,q,h0,v',f, ?_⟩;exact a.kept (row:=some k) ⟨rfl,rfl,rfl,by simp[World.setCell],fun j _ n=>Below.heap_setCell _ _ _ _ (fun e=>n (by simp[e]))⟩ (Or.inr (Lib.ownBlock_ne a o r))
theorem Gx {B g:Nat} {a:List UInt8} (c:Int) (b:0<=c) (d:c<256) {w:World} (h:BB w B g a) (f:a.length<=100000000000):
 Calls Tryz.prog 266 #[.pointer (some ⟨g,0,none⟩),.int .u8 c] w fun e w'=>e=.returned .nilIface/\BB w' B g (a++ [UInt8.ofNat c.toNat])/\Below B w w'/\Fd g w w':=by
 obtain⟨p,v,h⟩:=h;refine(Rs B g 0 _ _ a c b d w h Ai3 (by omega) (by have:=h.lt;have:=h.1;omega)).mono ?_;rintro e w' ⟨rfl,⟨v',i⟩,j,k⟩;exact⟨rfl,⟨_,v',i⟩,j,k⟩
theorem Mo {B g:Nat} {b:List UInt8} (u:UInt8) {w:World} (h:BB w B g b) (a:b.length<=100000000000):
 Calls Tryz.prog 266 #[.pointer (some ⟨g,0,none⟩),.int .u8 u.toNat] w fun e w'=>e=.returned .nilIface/\BB w' B g (b++ [u])/\Below B w w'/\Fd g w w':=by
 have d:=u.toNat_lt;have c:=Gx (u.toNat:Int) (by omega) (by omega) h a;have e:UInt8.ofNat (Int.toNat (u.toNat:Int))=u:=by rw[Int.toNat_natCast];simp
 rwa [e]at c
theorem Sf: ∀n:Fin 16,(⟨#[48,49,50,51,52,53,54,55,56,57,97,98,99,100,101,102]⟩:ByteArray)[n.val]'(by simp[ByteArray.size])=Ld n.val:=by decide
theorem Alo: ∀n:Fin 32,bits .and .i32 ((n.val:Nat):Int) 15=((n.val:Nat):Int) % 16:=by decide
theorem Jd {B g:Nat} {a:List UInt8} (r:Int) (l:0<=r) (c:r<=2147483647) {w:World} (h:BB w B g a) (d:a.length<=100000000000):
 Calls Tryz.prog 269 #[.pointer (some ⟨g,0,none⟩),.int .i32 r] w fun e w'=>(∃k:Int,e=.returned (.tuple #[.int .i64 k,.nilIface]))/\BB w' B g (a++Lib.encodeRune r)/\Below B w w'/\Fd g w w':=by
 obtain⟨p,v,h⟩:=h;refine(Rt B g 0 _ _ a r (by omega) c w h Ai3 (by omega) (by have:=h.lt;have:=h.1;omega)).mono ?_;rintro e w' ⟨b,⟨v',f⟩,i,j⟩;exact⟨b,⟨_,v',f⟩,i,j⟩
theorem Jr {B g:Nat} {a:List UInt8} (s:ByteArray) {w:World} (h:BB w B g a) (b:a.length+s.size<=100000000000):
 Calls Tryz.prog 181 #[.pointer (some ⟨g,0,none⟩),.string s] w fun e w'=>e=.returned (.tuple #[.int .i64 s.size,.nilIface])/\BB w' B g (a++s.data.toList)/\Below B w w'/\Fd g w w':=by
 obtain⟨p,v,h⟩:=h;refine(J5 B g 0 _ _ a s w h Ai3 (by omega) (by have:=h.lt;have:=h.1;omega)).mono ?_;rintro e w' ⟨rfl,⟨v',c⟩,d,f⟩;exact⟨rfl,⟨_,v',c⟩,d,f⟩
theorem Afb {B g:Nat} {a:List UInt8} {w:World} (h:BB w B g a) (h0:a≠ []):
 Calls Tryz.prog 54 #[.pointer (some ⟨g,0,none⟩)] w fun e w'=>e=.returned (.string ⟨a.toArray⟩)/\Below B w w'/\Fd g w w':=by
 obtain⟨p,v,h⟩:=h;exact Ov B g 0 _ _ a w h h0
theorem Nh {a c:Int} (h:Dy a Bn=some c):34<=c/\c<128:=by
 simp only[Bn,Dy]at h
 repeat' split at h
 all_goals first|(cases h;done)|(simp at h;omega)
theorem K9 {c:Int} (h0:0<=c) (a:c<128):Lib.encodeRune c= [UInt8.ofNat c.toNat]:=by
 unfold Lib.encodeRune;rw[Lib.encodeRuneZ_one h0 (by omega)];rfl
theorem Pa {r:Nat} (h:Dy r Bn=none) (a: ¬(32<=r/\r≠34/\r≠92)):r<32:=by
 simp only[Bn,Dy]at h
 repeat' split at h
 all_goals first|(cases h;done)|omega
theorem U4 (r:Nat):(Ao r).length<=6:=by
 unfold Ao
 split
 . unfold Lib.encodeRune Lib.encodeRuneZ
   repeat' split
   all_goals simp
 . split<;>simp
theorem G5 (l:List (Nat×Nat)):(Aj l).length<=6*l.length:=by
 unfold Aj
 induction l with
 |nil=>simp
 |cons x r ih=>simp only[List.flatMap_cons,List.length_append,List.length_cons];have:=U4 x.2;omega
theorem F7: ∀(n:Nat) (l:List UInt8) (p:Nat),(Au n l p).length<=n
 |0,_,_=>by simp[Au]
 |n+1,l,p=>by
  simp only[Au]
  split
  . simp
  . split
    . simp
    . simp only[List.length_cons];have:=F7 n (l.drop (Lib.decodeL l).2) (p+(Lib.decodeL l).2);omega
theorem Pm: ∀(n:Nat) (l:List UInt8) (p:Nat),∀x ∈ Au n l p,x.2<=1114111
 |0,_,_,x,h=>by simp[Au]at h
 |n+1,l,p,x,h=>by
  simp only[Au]at h
  split at h
  . simp at h
  . split at h
    . simp at h
    . rcases List.mem_cons.1 h with rfl|h
      . exact Lib.decodeL_rune l
      . exact Pm n _ _ x h
def Wr (W:World) (B g:Nat) (keeps:Bool) (acc:List UInt8):Prop:=
 ∃p v,Om W B g 1 116 #[.bool keeps,p,v,.int .i64 (acc.length:Int)] (if keeps then acc else [])
theorem Anm:liesAt Tryz.prog Tryz.prog.depth 116 (4 / Tryz.prog.cellsOf 116) 1 114 1=true:=by kernel_rfl
theorem Om.other {w:World} {B g o:Nat} {t:TypeId} {cs:Array Value} {c:List UInt8} (h:Om w B g o t cs c) (i:Nat) (m:i≠o) (b:i≠o+1) (u:Value):
 Om (w.setCell ⟨g,i,none⟩ u) B g o t (cs.setIfInBounds i u) c:=by
 obtain⟨l,d,f,p,h0,v,j,a⟩:=h;refine⟨l,Cg d _,f,by simpa using p, ?_,v,by rw[Array.getElem?_setIfInBounds,if_neg b];exact j, ?_⟩
 . rw[Array.getElem?_setIfInBounds,if_neg m];exact h0
 . exact a.kept (row:=some g) ⟨rfl,rfl,rfl,by simp[World.setCell],fun k _ n=>Below.heap_setCell _ _ _ _ (fun e=>n (by simp[e]))⟩ (Or.inr (Lib.ownBlock_ne a d f))
theorem Wr.below {A W:World} {B g:Nat} {k:Bool} {acc:List UInt8} (h:Wr A B g k acc) (a:Below A.heap.size A W):Wr W B g k acc:=by
 obtain⟨p,v,h⟩:=h;exact⟨p,v,h.keep (J6 a) (fun k e=>by cases e)⟩
theorem Wr.put {A:World} {B g k:Nat} {b:Bool} {acc:List UInt8} {o o':Obj} (h:Wr A B g b acc) (c:A.heap[k]? =some o) (a:o.isCells=false):Wr (A.putObj k o') B g b acc:=by
 obtain⟨p,v,h⟩:=h;exact⟨p,v,h.keep (grownBy_putObj' A k o') (fun j e=>by cases e;exact⟨o,c,a⟩)⟩
theorem Wr.lt {A:World} {B g:Nat} {k:Bool} {acc:List UInt8} (h:Wr A B g k acc):g<A.heap.size:=by
 obtain⟨p,v,h⟩:=h;exact h.lt
theorem Wr.base {A:World} {B g:Nat} {k:Bool} {acc:List UInt8} (h:Wr A B g k acc):B<=g:=by
 obtain⟨p,v,h⟩:=h;exact h.1
def Fk (ss:List ByteArray):List UInt8:=ss.flatMap fun s=>s.data.toList
theorem Afx (a:List ByteArray) (s:ByteArray):Fk (a++ [s])=Fk a++s.data.toList:=by simp[Fk]
theorem Acr (B g:Nat) (d:Bool) (acc:List UInt8) (a:List ByteArray) (b c:Nat) (w:World) (h:Wr w B g d acc) (P:w.heap[b]? =some (.cells (a.map Value.string).toArray 9 (0,0))) (A:b≠g)
 (J:acc.length+(Fk a).length<=50000000000) (W:a.length<=1000):
 Calls Tryz.prog 101 #[.pointer (some ⟨g,0,none⟩),.slice (some ⟨b,0,none⟩) a.length c] w fun e w'=>e=.returned (.tuple #[])/\Wr w' B g d (acc++Fk a)/\Below B w w'/\Fd g w w':=by
 go_enter Tryz.func101,Tryz.ntmps101;go_wp2;go_loopw [8] (fun i wr=> ∃k:Nat,k<=a.length/\i=.int .i64 k/\Wr wr B g d (acc++Fk (a.take k))/\Below B w wr/\Fd g w wr) (fun i _=>a.length - (intOf i).toNat)
 case atStart=>exact⟨0,Nat.zero_le _,rfl,by simpa[Fk]using h,Below.refl _ _,Lib.OthersKept.refl _ _ _⟩
 case round=>
  obtain⟨k,V,rfl,y,z,n⟩:=hrel;by_cases E:k<a.length
  . obtain⟨s,M⟩: ∃s,a[k]? =some s:=⟨_,List.getElem?_eq_getElem E⟩;have r:a.take (k+1)=a.take k++ [s]:=by rw[List.take_add_one,M];rfl
    have C:(Fk a).length=(Fk (a.take k)).length+s.size+(Fk (a.drop (k+1))).length:=by
     have:a=a.take k++ [s]++a.drop (k+1):=by rw[<-r,List.take_append_drop]
     have H:=congrArg (fun l=>(Fk l).length) this;simp only[Fk,List.flatMap_append,List.length_append,List.flatMap_cons,List.flatMap_nil,List.append_nil]at H ⊢;rw[H,Lib.size_eq]
    have F:=n _ _ P (by simpa using A) (fun c S e=>by cases e);have Q:wr.cell? ⟨b,k,none⟩=some (.string s):=by rw[Lib.cell_of_heap F];simp[M]
    obtain⟨p,v,j⟩:=y;have u:=j;obtain⟨I,f,X,_,_,_⟩:=u;have T:wr.cell? ⟨g,0,none⟩=some (.bool d):=by rw[Lib.cell_of_heap f];rfl
    have U:wr.cell? ⟨g,3,none⟩=some (.int .i64 ((acc++Fk (a.take k)).length:Int)):=by rw[Lib.cell_of_heap f];rfl
    have R:wr.frozen? ⟨g,3,none⟩=false:=Lib.frozen_of_heap f 3;have O:(acc++Fk (a.take k)).length<=50000000000:=by rw[List.length_append];omega
    have K:(acc++Fk (a.take k)).length+s.size<=50000000000:=by rw[List.length_append];omega
    have Y:=j.lt;have q:acc++Fk (a.take (k+1))=(acc++Fk (a.take k))++s.data.toList:=by rw[r,Afx,List.append_assoc]
    generalize acc++Fk (a.take k)=L at*
    have o:=qz q;have G:=qz (show((L.length:Int)+(s.size:Int))=((L++s.data.toList).length:Int)from by rw[List.length_append,<-Lib.size_eq];omega);clear q f r C
    cases d
    . have m:Om (wr.setCell ⟨g,3,none⟩ (.int .i64 ((L.length:Int)+(s.size:Int)))) B g 1 116 #[.bool false,p,v,.int .i64 ((L.length:Int)+(s.size:Int))] []:=j.other 3 (by omega) (by omega) _;go_wp2;go_roundw
      case rel=>
       refine⟨k+1,by omega,by go_num, ?_,z.setCell (p:=⟨g,3,none⟩) I _,n.setCell ⟨g,3,none⟩ rfl _⟩;rw[o.out];rw[G.out]at m ⊢;exact⟨p,v,m⟩
      case measure=>simp[intOf];omega
    . have m:Om (wr.setCell ⟨g,3,none⟩ (.int .i64 ((L.length:Int)+(s.size:Int)))) B g 1 116 #[.bool true,p,v,.int .i64 ((L.length:Int)+(s.size:Int))] L:=j.other 3 (by omega) (by omega) _;go_wp2_with (go_at_call 181;refine(J5 B g 1 _ _ L s _ m Anm (by omega) (by simp[World.setCell];omega)).mono ?_;rintro e Z ⟨rfl,⟨v',t⟩,x,D⟩);go_roundw
      case rel=>
       refine⟨k+1,by omega,by go_num, ?_,(z.setCell (p:=⟨g,3,none⟩) I _).trans x,(n.setCell ⟨g,3,none⟩ rfl _).trans D⟩;rw[o.out];rw[G.out]at t;exact⟨_,v',t⟩
      case measure=>simp[intOf];omega
  . obtain rfl:k=a.length:=by omega
    rw[List.take_length]at y;have N:=qz y;clear y;go_wp2
    go_end0
    exact⟨rfl,N.out,z,n⟩
attribute [local go_sem] Oper.semAt_some
def QI (w:World) (g lb d:Nat) (pre:List (Nat×Nat)) (W:World):Prop:=
 Below w.heap.size w W/\BB W w.heap.size g (34::Aj pre)/\ ∃m,Aef W lb d m
theorem Yx (s:ByteArray) (w:World) (hT:Cj w) (hs:s.size<=1000000000) (hv:A6 s=true):
 Calls Tryz.prog 184 #[.string s] w fun e w'=>e=.returned (.tuple #[.string ⟨(34::Aj (Bw s)++ [34]).toArray⟩,.int .i64 0])/\Below w.heap.size w w':=by
 refine(callsIn_wide (n:=12)).1 ?_;refine callsIn_of_wp_marks Tryz.func184 rfl trivial ?_ rfl;simp only[Tryz.ntmps184,List.size_toArray,List.length_cons,List.length_nil,Nat.reduceAdd,Nat.reduceSub,Array.replicate_succ,Array.replicate_zero,List.push_toArray,List.append_toArray,List.nil_append,List.cons_append]
 gi_wp2_with (refine⟨trivial, ?_⟩;gi_at_call 133;refine(callsIn_wide.2 (B4 hv _ (by omega) hT)).mono ?_;rintro e w1 ⟨rfl,ag⟩)
 have ax:=ag.size;have am:BB ((w1.alloc (.cells #[.map none] 336)).alloc (.cells #[.pointer none,.slice none 0 0] 114)) w.heap.size (w1.heap.size+1) []:=
  ⟨_,_,by omega,by rw[<-World.size_alloc w1 (.cells #[.map none] 336)];exact heap_alloc_new _ _,by decide,by simp,.inl rfl,.slice none 0 0,rfl,World.ownsRow_nil _ _ _ _⟩
 have an:((w1.alloc (.cells #[.map none] 336)).alloc (.cells #[.pointer none,.slice none 0 0] 114)).heap[w1.heap.size]? =some (.cells #[.map none] 336 (0,0)):=
  (Below.heap_alloc _ _ _ (by simp)).trans (heap_alloc_new _ _)
 have aq:Below w.heap.size w ((w1.alloc (.cells #[.map none] 336)).alloc (.cells #[.pointer none,.slice none 0 0] 114)):=(ag.alloc ax _).alloc (by simp;omega) _
 gi_wp2_with (first|(refine⟨trivial, ?_⟩;gi_at_call 266;refine(callsIn_wide.2 (Gx 34 (by omega) (by omega) am (by simp))).mono ?_;rintro e D ⟨rfl,ay,ah,ar⟩)|(refine⟨trivial, ?_⟩;gi_at_call 267;refine(callsIn_wide.2 (Qs _ _)).mono ?_;rintro e M ⟨rfl,rfl⟩))
 have bf:=ah.size;simp only[World.size_alloc]at bf;have a2:D.heap[w1.heap.size]? =some (.cells #[.map none] 336 (0,0)):=ar _ _ an (by simp) (fun c f e=>by cases e);have ad:Below w.heap.size w D:=aq.trans ah;clear am an ag ar ah aq;have av:=heap_alloc_new D (.cells #[.string s] 9);have bh:Cj (D.alloc (.cells #[.string s] 9)):=hT.below (ad.alloc (by omega) _);have aw:=Yl s D.heap.size hs;have az:BB (D.alloc (.cells #[.string s] 9)) w.heap.size (w1.heap.size+1) (34::Aj []):=ay.below ((Below.refl _ _).alloc (Nat.le_refl _) _);have a3:=(Below.heap_alloc D (.cells #[.string s] 9) w1.heap.size (by omega)).trans a2;have ap:Below w.heap.size w (D.alloc (.cells #[.string s] 9)):=ad.alloc (by omega) _;have bn:D.heap.size+1=(D.alloc (.cells #[.string s] 9)).heap.size:=by simp
 generalize D.alloc (.cells #[.string s] 9)=M at*
 refine Yu (n:=10) (gf:=311) (lb:= #[.pointer (some ⟨D.heap.size,0,none⟩)]) rfl (enters_of Tryz.func311 (by kernel_rfl) rfl) aw (fun _=>rfl)
  (fun pre W=>QI w (w1.heap.size+1) w1.heap.size M.heap.size pre W/\W.heap[D.heap.size]? =some (.cells #[.string s] 9 (0,0))) ?hIn ?hIp ?hIb ?h0 ?a1 ?assign ?body ?done
 case assign=>
  intro l x W K hK
  gi_wp2
  exact hK
 case h0=>exact⟨⟨ap,az,none,a3,fun _ h=>by cases h⟩,av⟩
 case hIb=>
  rintro pre A ⟨⟨H,J,G⟩,O⟩;exact⟨(Lib.cell_of_heap O 0).trans rfl,hT.below H⟩
 case hIn=>
  rintro pre A B ⟨⟨H,J,m,G,E⟩,O⟩ hb;refine⟨⟨H.trans (hb.mono H.size),J.below hb,m,(hb.block _ (Array.getElem?_eq_some_iff.1 G).1).trans G,fun C e=>⟨(E C e).1,(hb.block _ (Array.getElem?_eq_some_iff.1 (E C e).2).1).trans (E C e).2⟩⟩,(hb.block _ (Array.getElem?_eq_some_iff.1 O).1).trans O⟩
 case hIp=>
  rintro pre A k o o' ⟨⟨H,J,m,G,E⟩,O⟩ ho hc hk;have a9:w.heap.size<=k:=by omega
  have bj:k<A.heap.size:=(Array.getElem?_eq_some_iff.1 ho).1;refine⟨⟨H.grown (grownBy_putObj' A k o') (by omega) (fun j e=>by cases e;exact a9),J.put ho hc,m, ?_,fun C e=>⟨(E C e).1, ?_⟩⟩, ?_⟩
  . rw[World.putObj_heap_other (by omega)];exact G
  . have:=(E C e).1;rw[World.putObj_heap_other (by omega)];exact(E C e).2
  . rw[World.putObj_heap_other (by omega)];exact O
 case body=>
  rintro l pre x rest W hx ⟨⟨H,J,m,G,E⟩,O⟩ ⟨ds,I⟩ ⟨rc,ac⟩;have au:(Aj pre).length<=6000000000:=by
   have e1:=G5 pre;have e2:=congrArg List.length hx;have e3:=F7 s.size s.data.toList 0;simp only[List.length_append,List.length_cons]at e2;unfold Bw at e2;omega
  have hr:x.2<=1114111:=Pm s.size s.data.toList 0 x (by show x ∈ Bw s;rw[hx];simp);have z:Aj (pre++ [x])=Aj pre++Ao x.2:=by simp[Aj]
  obtain⟨p,r⟩:=x;simp only at hr z;have hz:=H.size;have a0:M.heap.size+1<W.heap.size:=(Array.getElem?_eq_some_iff.1 ac).1;have a8:w1.heap.size+1<M.heap.size:=by omega
  have bm:D.heap.size<M.heap.size:=by omega
  have bl:w1.heap.size+1<D.heap.size:=by omega
  have al: ∀(a:Act) (X:World) (bs:List UInt8),BB X w.heap.size (w1.heap.size+1) bs->bs=34::Aj (pre++ [(p,r)])->Below w.heap.size w X->(∃m,Aef X w1.heap.size M.heap.size m)->
   X.heap[M.heap.size]? =some (.deferred ds)->X.heap[M.heap.size+1]? =some (.loop rc)->X.heap[D.heap.size]? =some (.cells #[.string s] 9 (0,0))->
   P7 (fun X=>QI w (w1.heap.size+1) w1.heap.size M.heap.size (pre++ [(p,r)]) X/\X.heap[D.heap.size]? =some (.cells #[.string s] 9 (0,0))) M.heap.size W .normal a X:=by
   intro a X bs hb e a4 hl hd bd ao;subst e;exact⟨hd.trans I.symm,bd.trans ac.symm,⟨a4,hb,hl⟩,ao⟩
  have N:=qz al;clear al;by_cases q:32<=r/\r≠34/\r≠92
  . have L:Ao r=Lib.encodeRune r:=by unfold Ao;rw[if_pos q]
    have hB:decide (32<=(r:Int)/\(r:Int)≠34/\(r:Int)≠92)=true:=by simp;omega
    have Hq:Hid ((34::Aj pre)++Lib.encodeRune r=34::Aj (pre++ [(p,r)])):=by
     show _=_;rw[z,L];rfl
    clear z L q hx
    gi_wp2_with (first|(refine⟨trivial, ?_⟩;gi_at_call 268;refine(CallsIn.inRound l (callsIn_wide.2 (C6 hB _))).mono ?_;rintro e wx ⟨rfl,rfl⟩)|(refine⟨trivial, ?_⟩;gi_at_call 269;refine(CallsIn.inRound l (callsIn_wide.2 (Jd (r:Int) (by omega) (by omega) J (by simp;omega)))).mono ?_;rintro e w4 ⟨⟨kk,rfl⟩,g,i,d⟩))
    exact N.out _ _ _ g Hq.out (H.trans i) ⟨m,d _ _ G (by simp) (fun c f e=>by cases e),fun C e=>⟨(E C e).1,d _ _ (E C e).2 (by have:=(E C e).1;simp;omega) (fun c f e=>by cases e)⟩⟩
     (d _ _ I (by simp;omega) (fun c f e=>by cases e)) (d _ _ ac (by simp;omega) (fun c f e=>by cases e)) (d _ _ O (by simp;omega) (fun c f e=>by cases e))
  . have hB:decide (32<=(r:Int)/\(r:Int)≠34/\(r:Int)≠92)=false:=by simp;omega
    have bg:=fun(wx:World) (m0:Option Nat)=>run_eql_map_nil (P:=Tryz.prog) wx 336 _ _ m0 Tryz.underlying336;rcases m with _|C
    ·
     obtain⟨X,hX⟩: ∃X,(W.setCell ⟨w1.heap.size,0,none⟩ (.map (some W.heap.size))).alloc (.map (Iz Bn 0).toArray Bn.length)=X:=⟨_,rfl⟩;have be:(W.setCell ⟨w1.heap.size,0,none⟩ (.map (some W.heap.size))).heap.size=W.heap.size:=by simp[World.setCell]
     have af: ∀k,k≠w1.heap.size->k<W.heap.size->X.heap[k]? =W.heap[k]? :=fun k hk bi=>by
      rw[<-hX,Below.heap_alloc _ _ _ (by omega),Below.heap_setCell _ _ _ _ hk]
     have S:BB X w.heap.size (w1.heap.size+1) (34::Aj pre):=by
      rw[<-hX];exact(J.store G (by decide) (by omega) 0 _).below ((Below.refl _ _).alloc (Nat.le_refl _) _)
     have Y:Below w.heap.size w X:=by
      rw[<-hX];exact(H.setCell (p:=⟨w1.heap.size,0,none⟩) ax _).alloc (by omega) _
     have U:X.heap[w1.heap.size]? =some (.cells #[.map (some W.heap.size)] 336 (0,0)):=by
      rw[<-hX,Below.heap_alloc _ _ _ (by omega)];exact Cg G _
     have F:X.heap[W.heap.size]? =some (.map (Iz Bn 0).toArray Bn.length):=by
      rw[<-hX];have:=heap_alloc_new (W.setCell ⟨w1.heap.size,0,none⟩ (.map (some W.heap.size))) (.map (Iz Bn 0).toArray Bn.length)
      rwa [be]at this
     have T:=(af _ (by omega) (by omega)).trans I;have V:=(af _ (by omega) (by omega)).trans ac;have R:=(af _ (by omega) (by omega)).trans O;have c3:W.cell? ⟨w1.heap.size,0,none⟩=some (.map none):=(Lib.cell_of_heap G 0).trans rfl;have f3:W.frozen? ⟨w1.heap.size,0,none⟩=false:=Lib.frozen_of_heap G 0;have bk:w1.heap.size<W.heap.size:=by omega
     have y:=T7 X W.heap.size Bn r F;have aa:M.heap.size+1<W.heap.size:=a0;subst hX
     cases hf:Dy (r:Int) Bn with
     |some c=>
      rw[hf]at y;simp only[Option.getD_some,Option.isSome_some]at y;have hc:=Nh hf;have a5:=hc.1;have aj:=hc.2;have L:Ao r= [92,UInt8.ofNat c.toNat]:=by unfold Ao;rw[if_neg q,hf]
      have Hq:Hid (((34::Aj pre)++ [UInt8.ofNat (Int.toNat 92)])++Lib.encodeRune c=34::Aj (pre++ [(p,r)])):=by
       show _=_;rw[z,L,K9 (by omega) aj];simp
      clear z L q hx hf hc E J
      gi_wp2_with (first|(refine⟨trivial, ?_⟩;gi_at_call 268;refine(CallsIn.inRound l (callsIn_wide.2 (C6 hB _))).mono ?_;rintro e wx ⟨rfl,rfl⟩)|(refine⟨trivial, ?_⟩;gi_at_call 270;refine(CallsIn.inRound l (callsIn_wide.2 (L6 _))).mono ?_;rintro e wx ⟨rfl,rfl⟩)|(refine⟨trivial, ?_⟩;gi_at_call 266;refine(CallsIn.inRound l (callsIn_wide.2 (Gx 92 (by omega) (by omega) S (by simp;omega)))).mono ?_;rintro e w4 ⟨rfl,g,i,d⟩)|(refine⟨trivial, ?_⟩;gi_at_call 269;refine(CallsIn.inRound l (callsIn_wide.2 (Jd c (by omega) (by omega) g (by simp;omega)))).mono ?_;rintro e w5 ⟨⟨kk,rfl⟩,t,u,v⟩))
      have b:=d.trans v;exact N.out _ _ _ t Hq.out ((Y.trans i).trans u) ⟨some W.heap.size,b _ _ U (by simp) (fun c f e=>by cases e),fun m' e=>by cases e;exact⟨aa,b _ _ F (by simp;omega) (fun c f e=>by cases e)⟩⟩
       (b _ _ T (by simp;omega) (fun c f e=>by cases e)) (b _ _ V (by simp;omega) (fun c f e=>by cases e)) (b _ _ R (by simp;omega) (fun c f e=>by cases e))
     |none=>
      rw[hf]at y;simp only[Option.getD_none,Option.isSome_none]at y;have ab:=Pa hf q;have L:Ao r= [92,117,48,48,Ld (r / 16),Ld (r % 16)]:=by unfold Ao;rw[if_neg q,hf]
      gi_wp2_with (first|(refine⟨trivial, ?_⟩;gi_at_call 268;refine(CallsIn.inRound l (callsIn_wide.2 (C6 hB _))).mono ?_;rintro e wx ⟨rfl,rfl⟩)|(refine⟨trivial, ?_⟩;gi_at_call 270;refine(CallsIn.inRound l (callsIn_wide.2 (L6 _))).mono ?_;rintro e wx ⟨rfl,rfl⟩)|(refine⟨trivial, ?_⟩;gi_at_call 181;refine(CallsIn.inRound l (callsIn_wide.2 (Jr ⟨#[92,117,48,48]⟩ S (by simp[ByteArray.size];omega)))).mono ?_;rintro e w4 ⟨rfl,g,i,d⟩))
      refine⟨trivial, ?_⟩;refine(CallsIn.inRound l (callsIn_wide.2 (Mo _ g (by simp;omega)))).mono ?_;rintro e w5 ⟨rfl,t,u,v⟩;rw[Sf ⟨r / 16,by omega⟩]at t;have Z:=Alo ⟨r,ab⟩;dsimp only at Z;have ba:0<=(r:Int) % 16:=by omega
      have bb:(r:Int) % 16<16:=by omega
      have bc:r % 16<16:=by omega
      gi_wp2_with fail
      refine⟨trivial, ?_⟩;refine(CallsIn.inRound l (callsIn_wide.2 (Mo _ t (by simp;omega)))).mono ?_;rintro e w6 ⟨rfl,Q,ai,ak⟩;rw[Sf ⟨r % 16,by omega⟩]at Q
      gi_wp2_with fail
      have b:=(d.trans v).trans ak;have Hq:(((34::Aj pre)++ [92,117,48,48])++ [Ld (r / 16)])++ [Ld (r % 16)]=34::Aj (pre++ [(p,r)]):=by
       rw[z,L];simp
      exact N.out _ _ _ Q Hq (((Y.trans i).trans u).trans ai) ⟨some W.heap.size,b _ _ U (by simp) (fun c f e=>by cases e),fun m' e=>by cases e;exact⟨aa,b _ _ F (by simp;omega) (fun c f e=>by cases e)⟩⟩
       (b _ _ T (by simp;omega) (fun c f e=>by cases e)) (b _ _ V (by simp;omega) (fun c f e=>by cases e)) (b _ _ R (by simp;omega) (fun c f e=>by cases e))
    ·
     have F:=(E C rfl).2;have aa:=(E C rfl).1;have c3:W.cell? ⟨w1.heap.size,0,none⟩=some (.map (some C)):=(Lib.cell_of_heap G 0).trans rfl;have y:=T7 W C Bn r F;have S:=J;have Y:=H;have U:=G;have T:=I;have V:=ac;have R:=O
     cases hf:Dy (r:Int) Bn with
     |some c=>
      rw[hf]at y;simp only[Option.getD_some,Option.isSome_some]at y;have hc:=Nh hf;have a5:=hc.1;have aj:=hc.2;have L:Ao r= [92,UInt8.ofNat c.toNat]:=by unfold Ao;rw[if_neg q,hf]
      have Hq:Hid (((34::Aj pre)++ [UInt8.ofNat (Int.toNat 92)])++Lib.encodeRune c=34::Aj (pre++ [(p,r)])):=by
       show _=_;rw[z,L,K9 (by omega) aj];simp
      clear z L q hx hf hc E J
      gi_wp2_with (first|(refine⟨trivial, ?_⟩;gi_at_call 268;refine(CallsIn.inRound l (callsIn_wide.2 (C6 hB _))).mono ?_;rintro e wx ⟨rfl,rfl⟩)|(refine⟨trivial, ?_⟩;gi_at_call 266;refine(CallsIn.inRound l (callsIn_wide.2 (Gx 92 (by omega) (by omega) S (by simp;omega)))).mono ?_;rintro e w4 ⟨rfl,g,i,d⟩)|(refine⟨trivial, ?_⟩;gi_at_call 269;refine(CallsIn.inRound l (callsIn_wide.2 (Jd c (by omega) (by omega) g (by simp;omega)))).mono ?_;rintro e w5 ⟨⟨kk,rfl⟩,t,u,v⟩))
      have b:=d.trans v;exact N.out _ _ _ t Hq.out ((Y.trans i).trans u) ⟨some C,b _ _ U (by simp) (fun c f e=>by cases e),fun m' e=>by cases e;exact⟨aa,b _ _ F (by simp;omega) (fun c f e=>by cases e)⟩⟩
       (b _ _ T (by simp;omega) (fun c f e=>by cases e)) (b _ _ V (by simp;omega) (fun c f e=>by cases e)) (b _ _ R (by simp;omega) (fun c f e=>by cases e))
     |none=>
      rw[hf]at y;simp only[Option.getD_none,Option.isSome_none]at y;have ab:=Pa hf q;have L:Ao r= [92,117,48,48,Ld (r / 16),Ld (r % 16)]:=by unfold Ao;rw[if_neg q,hf]
      gi_wp2_with (first|(refine⟨trivial, ?_⟩;gi_at_call 268;refine(CallsIn.inRound l (callsIn_wide.2 (C6 hB _))).mono ?_;rintro e wx ⟨rfl,rfl⟩)|(refine⟨trivial, ?_⟩;gi_at_call 181;refine(CallsIn.inRound l (callsIn_wide.2 (Jr ⟨#[92,117,48,48]⟩ S (by simp[ByteArray.size];omega)))).mono ?_;rintro e w4 ⟨rfl,g,i,d⟩))
      refine⟨trivial, ?_⟩;refine(CallsIn.inRound l (callsIn_wide.2 (Mo _ g (by simp;omega)))).mono ?_;rintro e w5 ⟨rfl,t,u,v⟩;rw[Sf ⟨r / 16,by omega⟩]at t;have Z:=Alo ⟨r,ab⟩;dsimp only at Z;have ba:0<=(r:Int) % 16:=by omega
      have bb:(r:Int) % 16<16:=by omega
      have bc:r % 16<16:=by omega
      gi_wp2_with fail
      refine⟨trivial, ?_⟩;refine(CallsIn.inRound l (callsIn_wide.2 (Mo _ t (by simp;omega)))).mono ?_;rintro e w6 ⟨rfl,Q,ai,ak⟩;rw[Sf ⟨r % 16,by omega⟩]at Q
      gi_wp2_with fail
      have b:=(d.trans v).trans ak;have Hq:(((34::Aj pre)++ [92,117,48,48])++ [Ld (r / 16)])++ [Ld (r % 16)]=34::Aj (pre++ [(p,r)]):=by
       rw[z,L];simp
      exact N.out _ _ _ Q Hq (((Y.trans i).trans u).trans ai) ⟨some C,b _ _ U (by simp) (fun c f e=>by cases e),fun m' e=>by cases e;exact⟨aa,b _ _ F (by simp;omega) (fun c f e=>by cases e)⟩⟩
       (b _ _ T (by simp;omega) (fun c f e=>by cases e)) (b _ _ V (by simp;omega) (fun c f e=>by cases e)) (b _ _ R (by simp;omega) (fun c f e=>by cases e))
 case done=>
  rintro W ⟨⟨H,J,m,G,E⟩,O⟩ I;have a8:w1.heap.size+1<M.heap.size:=by omega
  have au:(Aj (Bw s)).length<=6000000000:=by
   have e1:=G5 (Bw s);have e3:=F7 s.size s.data.toList 0;unfold Bw at e1 ⊢;omega
  gi_wp2_with (first|(refine⟨trivial, ?_⟩;gi_at_call 266;refine(callsIn_wide.2 (Gx 34 (by omega) (by omega) J (by simp;omega))).mono ?_;rintro e w4 ⟨rfl,g,i,d⟩)|(refine⟨trivial, ?_⟩;gi_at_call 54;refine(callsIn_wide.2 (Afb g (by simp))).mono ?_;rintro e w5 ⟨rfl,u,v⟩))
  have a6:=d _ _ I (by simp;omega) (fun c f e=>by cases e);have a7:=v _ _ a6 (by simp;omega) (fun c f e=>by cases e);refine⟨by simp,.inl ⟨_,_,rfl,run_takeDeferred a7, ?_⟩⟩;have ae:Below w.heap.size w w5:=(H.trans i).trans u;refine⟨_,results_tmp2 rfl _ _ _,rfl,ae.grown (grownBy_putObj' w5 _ _) ae.size (fun k e=>by cases e;omega)⟩
def B8 (s:ByteArray):List UInt8:=34::Aj (Bw s)++ [34]
mutual
def Bd:Val->List UInt8
 | .mk k b n t l o=>
   if k=2 then Lib.formatBool b else if k=3 then Lib.itoa n else if k=4 then B8 t
   else if k=5 then 91::(Cz l true++ [93])else if k=6 then 123::(C0 o true++ [125])else [110,117,108,108]
def Cz:List Val->Bool->List UInt8
 | [],_=> []
 |v::r,f=>(if f then []else [44])++(Bd v++Cz r false)
def C0:List (ByteArray×Val)->Bool->List UInt8
 | [],_=> []
 |p::r,f=>(if f then []else [44])++(Po p++C0 r false)
def Po:ByteArray×Val->List UInt8
 |(key,v)=>B8 key++(58::Bd v)
end
mutual
def okV:Val->Prop
 | .mk _ _ n t l o=>A6 t=true/\(-9223372036854775808<=n/\n<=9223372036854775807)/\okL l/\okO o
def okL:List Val->Prop
 | []=>True
 |v::r=>okV v/\okL r
def okO:List (ByteArray×Val)->Prop
 | []=>True
 |p::r=>okP p/\okO r
def okP:ByteArray×Val->Prop
 |(key,v)=>A6 key=true/\okV v
end
def Nc (k:Int):Nat:=
 if k=2 then 100 else if k=3 then 103 else if k=4 then 105 else if k=5 then 107 else if k=6 then 109 else 111
def Jg (k:Int) (p:Nat):Array Value:=
 if k=2\/k=3\/k=4\/k=5\/k=6 then #[.pointer (some ⟨p,0,none⟩)]else #[]
theorem J8 (k:Int) (args:Array Value) (w:World):(callFunc (Nc k) args).run Tryz.prog w=.ok (.enter (Nc k) args) w:=by
 unfold Nc
 split
 . exact enters_of Tryz.func100 (by kernel_rfl) rfl args w
 split
 . exact enters_of Tryz.func103 (by kernel_rfl) rfl args w
 split
 . exact enters_of Tryz.func105 (by kernel_rfl) rfl args w
 split
 . exact enters_of Tryz.func107 (by kernel_rfl) rfl args w
 split
 . exact enters_of Tryz.func109 (by kernel_rfl) rfl args w
 . exact enters_of Tryz.func111 (by kernel_rfl) rfl args w
theorem Mz (k:Int) (b:Bool) (n:Int) (t:ByteArray) (h l:Option Addr) (j i on oc:Nat) (w:World):
 Calls Tryz.prog 53 #[.agg #[.int .i64 k,.bool b,.int .i64 n,.string t,.slice h j i,.slice l on oc]] w fun e w'=>
  e=.returned (.func (.func (Nc k)) #[] (Jg k w.heap.size))/\w.alloc (.cells #[.int .i64 k,.bool b,.int .i64 n,.string t,.slice h j i,.slice l on oc] 42)=w':=by
 rcases(by omega:k=2\/k=3\/k=4\/k=5\/k=6\/(k≠2/\k≠3/\k≠4/\k≠5/\k≠6))with rfl|rfl|rfl|rfl|rfl|⟨a,c,d,f,g⟩
 all_goals
  try have p:(k==2)=false:=by simpa using a
  try have q:(k==3)=false:=by simpa using c
  try have r:(k==4)=false:=by simpa using d
  try have s:(k==5)=false:=by simpa using f
  try have u:(k==6)=false:=by simpa using g
  try have o:Hid (Nc k=111):=by show _=_;simp[Nc,a,c,d,f,g]
  try have m:Hid (Jg k w.heap.size= #[]):=by show _=_;simp[Jg,a,c,d,f,g]
  try clear a c d f g
  go_enter Tryz.func53,Tryz.ntmps53;go_wp2;go_ret
 all_goals first|exact⟨rfl,rfl⟩|exact⟨by rw[o.out,m.out];rfl,rfl⟩
def W8 (v:Val):Prop:= ∀(W:World) (B g p:Nat) (keeps:Bool) (acc:List UInt8) (cs:List Value) (k:Int) (b:Bool) (n:Int) (t:ByteArray) (l:List Val) (o:List (ByteArray×Val)),v=.mk k b n t l o->5<=B->Cj W->Ab W B v cs->
    W.heap[p]? =some (.cells cs.toArray 42 (0,0))->p≠g->Wr W B g keeps acc->okV v->v.bulk<=1000000000->acc.length+6*v.bulk<=20000000000->
    Calls Tryz.prog (Nc k) (#[.pointer (some ⟨g,0,none⟩)]++Jg k p) W fun e W'=>e=.returned (.tuple #[])/\Wr W' B g keeps (acc++Bd v)/\Below B W W'/\Fd g W W'
theorem Cj.keep {w w':World} {B:Nat} (h:Cj w) (a:Below B w w') (j:5<=B):Cj w':=by
 obtain⟨g,⟨f,d⟩,b⟩:=h;refine⟨Nat.le_trans g a.size,⟨fun c k=> ?_,fun i e=>⟨?_, ?_⟩⟩, ?_⟩
 . exact(a.cell (p:=⟨2,c,none⟩) (by show 2<_;omega)).trans (f c k)
 . exact(a.cell (p:=⟨3,2*i,none⟩) (by show 3<_;omega)).trans (d i e).1
 . exact(a.cell (p:=⟨3,2*i+1,none⟩) (by show 3<_;omega)).trans (d i e).2
 . have l:Tryz.prog.globalNamed "internal/strconv.uint64pow10" =some 4:=by kernel_rfl
   unfold Lib.TabIs World.var? at b ⊢;rw[l]at b ⊢;simp only[Option.bind_some]at b ⊢;rw[a.block 4 (by omega)];exact b
theorem Acp (W:World) (k:Nat) (os:Array Obj):Below W.heap.size W (Sort.grow (W.drewN k) os):=
 ⟨rfl,rfl,rfl,by show W.heap.size<=(W.heap++os).size;simp,fun i a=>by show(W.heap++os)[i]? =W.heap[i]?;rw[Array.getElem?_append_left a]⟩
theorem L3 (b:Bool):(Lib.formatBool b).length<=5:=by cases b<;>decide
theorem Iq (l:List UInt8):Fk [⟨l.toArray⟩]=l:=by simp[Fk]
theorem F6 {B g:Nat} {a:Bool} {acc:List UInt8} {w:World} (b:List ByteArray) (c:Nat) (h:Wr w B g a acc) (d:acc.length+(Fk b).length<=50000000000) (l:b.length<=1000):
 Calls Tryz.prog 101 #[.pointer (some ⟨g,0,none⟩),.slice (some ⟨w.heap.size,0,none⟩) b.length c] (w.alloc (.cells (b.map Value.string).toArray 9 (0,0))) fun e w'=>e=.returned (.tuple #[])/\Wr w' B g a (acc++Fk b)/\Below B w w'/\Fd g w w':=by
 have k:=h.lt;have m:=h.base;refine(Acr B g a acc b w.heap.size c _ (h.below ((Below.refl _ _).alloc (Nat.le_refl _) _)) (heap_alloc_new _ _) (by omega) d l).mono ?_;rintro e w' ⟨rfl,f,i,j⟩;exact⟨rfl,f,((Below.refl B w).alloc (by omega) _).trans i,((Lib.OthersKept.refl _ _ w).alloc _).trans j⟩
theorem Abs (W:World) (B g p:Nat) (a:Bool) (acc:List UInt8) (b:Bool) (s t u v:Value) (k:Value) (r:W.heap[p]? =some (.cells #[k,.bool b,s,t,u,v] 42 (0,0)))
 (q:Wr W B g a acc) (i:acc.length<=20000000000):
 Calls Tryz.prog 100 #[.pointer (some ⟨g,0,none⟩),.pointer (some ⟨p,0,none⟩)] W fun e d=>e=.returned (.tuple #[])/\Wr d B g a (acc++Lib.formatBool b)/\Below B W d/\Fd g W d:=by
 have c1:W.cell? ⟨p,1,none⟩=some (.bool b):=(Lib.cell_of_heap r 1).trans rfl;have c:=F6 [⟨(Lib.formatBool b).toArray⟩] 1 q (by rw[Iq];have:=L3 b;omega) (by simp);rw[Iq]at c;have f:=Tryz.strconv_FormatBool b W;generalize Lib.formatBool b=L at c f ⊢;obtain⟨l,j⟩:=hid2 c f;clear c f;go_enter Tryz.func100,Tryz.ntmps100;go_wp2_with (first|(go_at_call 102;refine(j.out).mono ?_;rintro e x ⟨rfl,h⟩;subst h)|(go_at_call 101;refine(l.out).mono ?_;rintro e w ⟨rfl,m,n,o⟩))
 go_end0
 exact⟨rfl,m,n,o⟩
theorem Aea (W:World) (B g p:Nat) (a:Bool) (acc:List UInt8) (n:Int) (v1 F G H:Value) (k:Value) (r:W.heap[p]? =some (.cells #[k,v1,.int .i64 n,F,G,H] 42 (0,0)))
 (x:Cj W) (d: -9223372036854775808<=n) (f:n<=9223372036854775807) (_hpg:p≠g) (m:Wr W B g a acc) (q:acc.length<=20000000000):
 Calls Tryz.prog 103 #[.pointer (some ⟨g,0,none⟩),.pointer (some ⟨p,0,none⟩)] W fun e i=>e=.returned (.tuple #[])/\Wr i B g a (acc++Lib.itoa n)/\Below B W i/\Fd g W i:=by
 have c1:W.cell? ⟨p,2,none⟩=some (.int .i64 n):=(Lib.cell_of_heap r 2).trans rfl;have A:=Lib.itoa_length_le n d f;have l:=Tryz.strconv_FormatInt_10 n d f W x.2.2;have c: ∀w1,Below W.heap.size W w1->Calls Tryz.prog 101 #[.pointer (some ⟨g,0,none⟩),.slice (some ⟨w1.heap.size,0,none⟩) 1 1] (w1.alloc (.cells #[.string ⟨(Lib.itoa n).toArray⟩] 9 (0,0))) fun e w'=>e=.returned (.tuple #[])/\Wr w' B g a (acc++Lib.itoa n)/\Below B w1 w'/\Fd g w1 w':=fun w1 y=>by
  have:=F6 [⟨(Lib.itoa n).toArray⟩] 1 (m.below y) (by rw[Iq];omega) (by simp)
  rwa [Iq]at this
 have I:=m.base;have C:=m.lt;generalize Lib.itoa n=L at c l ⊢;obtain⟨t,s⟩:=hid2 c l;clear c l A r;go_enter Tryz.func103,Tryz.ntmps103;go_wp2_with (first|(go_at_call 104;refine(s.out).mono ?_;rintro e w1 ⟨rfl,E,os,h⟩;have b:Below W.heap.size W w1:=h▸Acp W E os;clear h)|(go_at_call 101;refine(t.out _ b).mono ?_;rintro e J ⟨rfl,u,v,w⟩))
 go_end0
 exact⟨rfl,u,(b.mono (by omega)).trans v,fun j o c z D=>w j o ((b.block j (Array.getElem?_eq_some_iff.1 c).1).trans c) z D⟩
theorem Abt (W:World) (B g:Nat) (a:Bool) (acc:List UInt8) (j:Wr W B g a acc) (c:acc.length<=20000000000):
 Calls Tryz.prog 111 #[.pointer (some ⟨g,0,none⟩)] W fun e b=>e=.returned (.tuple #[])/\Wr b B g a (acc++ [110,117,108,108])/\Below B W b/\Fd g W b:=by
 have d:=qz (F6 [⟨#[110,117,108,108]⟩] 1 j (by simp[Fk];omega) (by simp));go_enter Tryz.func111,Tryz.ntmps111;go_wp2_with (go_at_call 101;refine(d.out).mono ?_;rintro e k ⟨rfl,f,h,i⟩)
 go_end0
 exact⟨rfl,f,h,i⟩
theorem Rf (s:ByteArray) (w:World) (d:Cj w) (f:s.size<=1000000000) (g:A6 s=true):
 Calls Tryz.prog 106 #[.string s] w fun e w'=>e=.returned (.string ⟨(B8 s).toArray⟩)/\Below w.heap.size w w':=by
 have a:=Yx s w d f g;unfold B8;generalize 34::Aj (Bw s)++ [34]=L at a ⊢;have b:=qz a;clear a;go_enter Tryz.func106,Tryz.ntmps106;go_wp2_with (go_at_call 184;refine(b.out).mono ?_;rintro e h ⟨rfl,c⟩);go_ret;exact⟨rfl,c⟩
theorem Jz (s:ByteArray):(B8 s).length<=6*s.size+2:=by
 have a:=G5 (Bw s);have b:=F7 s.size s.data.toList 0;unfold Bw at a;unfold B8 Bw;simp only[List.length_cons,List.length_append,List.length_nil];omega
theorem Abu (W:World) (B g p:Nat) (a:Bool) (acc:List UInt8) (t:ByteArray) (v1 D E F:Value) (k:Value) (l:W.heap[p]? =some (.cells #[k,v1,D,.string t,E,F] 42 (0,0)))
 (u:Cj W) (C:A6 t=true) (A:t.size<=1000000000) (_hpg:p≠g) (h:Wr W B g a acc) (i:acc.length<=20000000000):
 Calls Tryz.prog 105 #[.pointer (some ⟨g,0,none⟩),.pointer (some ⟨p,0,none⟩)] W fun e d=>e=.returned (.tuple #[])/\Wr d B g a (acc++B8 t)/\Below B W d/\Fd g W d:=by
 have c1:W.cell? ⟨p,3,none⟩=some (.string t):=(Lib.cell_of_heap l 3).trans rfl;have x:=Jz t;have f:=Rf t W u A C;have c: ∀w1,Below W.heap.size W w1->Calls Tryz.prog 101 #[.pointer (some ⟨g,0,none⟩),.slice (some ⟨w1.heap.size,0,none⟩) 1 1] (w1.alloc (.cells #[.string ⟨(B8 t).toArray⟩] 9 (0,0))) fun e w'=>e=.returned (.tuple #[])/\Wr w' B g a (acc++B8 t)/\Below B w1 w'/\Fd g w1 w':=fun w1 v=>by
  have:=F6 [⟨(B8 t).toArray⟩] 1 (h.below v) (by rw[Iq];omega) (by simp)
  rwa [Iq]at this
 have G:=h.base;have y:=h.lt;generalize B8 t=L at c f ⊢;obtain⟨n,m⟩:=hid2 c f;clear c f x l;go_enter Tryz.func105,Tryz.ntmps105;go_wp2_with (first|(go_at_call 106;refine(m.out).mono ?_;rintro e w1 ⟨rfl,b⟩)|(go_at_call 101;refine(n.out _ b).mono ?_;rintro e H ⟨rfl,q,r,s⟩))
 go_end0
 exact⟨rfl,q,(b.mono (by omega)).trans r,fun j o c w z=>s j o ((b.block j (Array.getElem?_eq_some_iff.1 c).1).trans c) w z⟩
theorem Nf (i:Int) (w:World):Calls Tryz.prog 108 #[.int .i64 i] w fun e w'=>e=.returned (.string ⟨(if i=0 then []else [44]:List UInt8).toArray⟩)/\w=w':=by
 by_cases h:i=0
 . subst h;go_enter Tryz.func108,Tryz.ntmps108;go_wp2;go_ret;exact⟨rfl,rfl⟩
 . have e:(i==0)=false:=by simpa using h
   rw[if_neg h];clear h;go_enter Tryz.func108,Tryz.ntmps108;go_wp2;go_ret;exact⟨rfl,rfl⟩
def Aei {α β:Type} (P:Program) (gf:Nat) (lb:Array Value) (encs:α->β->Array Value) (E:α->β->World->Prop) (xs:List α) (N:World->Prop):Prop:=
 ∀(n l:Nat) (J:List α->World->Prop) (W:World),(∀s A B,J s A->Below A.heap.size A B->J s B)->(∀s A,J s A->N A)->
  (∀pre x rest q A,xs=pre++x::rest->J pre A->E x q A->YieldAt Fence.wide n P l (encs x q) A fun e B=>e=.returned (.bool true)/\J (pre++ [x]) B)->
  J [] W->CallsIn Fence.wide (n+1) P gf (#[.func (.yield l) #[] #[]]++lb) W fun e B=>(∃v,e=.returned v)/\J xs B
theorem Vh {j J:Type} {P:Program} {g:Operand} {L:Array Tmp} {assign body:Code} {Q:Exit->Act->World->Prop} {a:Act} {w:World} {n:Nat}
 {gf:Nat} {lb:Array Value} (hg:a.eval g=.func (.func gf) #[] lb) (eg: ∀args w,(callFunc gf args).run P w=.ok (.enter gf args) w)
 {c:j->J->Array Value} {E:j->J->World->Prop} {xs:List j} {N:World->Prop} (V:Aei P gf lb c E xs N) (aa: ∀x q,(c x q).size=L.size)
 (hEp: ∀x q A k o o',E x q A->A.heap[k]? =some o->o.isCells=false->E x q (A.putObj k o'))
 (I:List j->World->Prop) (hIn: ∀s A B,I s A->Below A.heap.size A B->I s B)
 (hIp: ∀s A k o o',I s A->A.heap[k]? =some o->o.isCells=false->(k=w.heap.size\/k=w.heap.size+1)->I s (A.putObj k o'))
 (hIb: ∀s A,I s A->N A) (h0:I [] w) (m:j->J->Act)
 (d: ∀(l:Nat) (x:j) (q:J) (W:World) (K:Act->World->Prop),K (m x q) W->
   assign.wpIn (Fence.wide.inRound l) n P (Exit.then K (fun _ _ _=>False)) {tmps:=(L.zip (c x q)).foldl (fun t (p,v)=>t.setIfInBounds p v) a.tmps,defers:= []} W)
 (y: ∀(l:Nat) (pre:List j) (x:j) (rest:List j) (q:J) (W:World),xs=pre++x::rest->I pre W->E x q W->(∃ds,W.heap[w.heap.size]? =some (.deferred ds))->(∃r,W.heap[w.heap.size+1]? =some (.loop r))->
   body.wpIn (Fence.wide.inRound l) n P (P7 (I (pre++ [x])) w.heap.size W) (m x q) W)
 (z: ∀(W:World),I xs W->W.heap[w.heap.size]? =some (.deferred (some []))->Q .normal {a with defers:={target:=.collected w.heap.size,args:= #[]}::a.defers} W):
 (Code.rangeFunc g L assign body).wpIn Fence.wide (n+1+1) P Q a w:=by
 refine wpIn_rangeFunc ?_;intro fn ac;have ab:Fence.wide.round=none:=rfl;rw[ab];obtain⟨rec,b⟩: ∃rec:LoopState->Option Code->Loop,rec=fun st pe=>{state:=st,pending:=pe,fn,tmps:=a.tmps,params:=L,assign,body,defers:=w.heap.size}:=⟨_,rfl⟩;obtain⟨f,i⟩: ∃f,(w.alloc (.deferred (some []))).alloc (.loop (rec .ready none))=f:=⟨_,rfl⟩;have R:f.heap[w.heap.size+1]? =some (.loop (rec .ready none)):=by
  rw[<-i];have:=World.alloc_heap_new (w.alloc (.deferred (some []))) (.loop (rec .ready none));rwa [World.size_alloc]at this
 have O:f.heap[w.heap.size]? =some (.deferred (some [])):=by
  rw[<-i];exact(Below.heap_alloc _ _ _ (by simp)).trans (World.alloc_heap_new w _)
 have M:I [] f:=by
  rw[<-i];exact hIn _ _ _ h0 (((Below.refl _ w).alloc (Nat.le_refl _) _).alloc (by simp) _)
 refine⟨w.heap.size+1, [{target:=.collected w.heap.size,args:= #[]}],f,{target:=.fn (.func gf) lb,args:= #[.func (.yield (w.heap.size+1)) #[] #[]]},f,gf,
  #[.func (.yield (w.heap.size+1)) #[] #[]]++lb,f, ?_, ?_, ?_, ?_,fun h=>by simp[Fence.wide]at h, ?_⟩
 . rw[<-i,b];exact run_enterLoop_outer _ _ _ _ _
 . simp only[resolve,hg];simp[go_sem]
 . intro f' _;trivial
 . simp[invoke,go_sem,eg]
 . refine(V n (w.heap.size+1)
    (fun pre W=>I pre W/\W.heap[w.heap.size+1]? =some (.loop (rec .ready none))/\W.heap[w.heap.size]? =some (.deferred (some [])))
    f (fun s A B D S=>⟨hIn s A B D.1 S,(S.block _ (Array.getElem?_eq_some_iff.1 D.2.1).1).trans D.2.1,(S.block _ (Array.getElem?_eq_some_iff.1 D.2.2).1).trans D.2.2⟩)
    (fun s A D=>hIb s A D.1) ?_ ⟨M,R,O⟩).mono ?_
   ·
    rintro pre x rest q W hx ⟨T,u,X⟩ hE;have Z:w.heap.size+1<W.heap.size:=(Array.getElem?_eq_some_iff.1 u).1;have hy:=run_yield (P:=P) (args:=c x q) u (by rw[b];exact aa x q);rw[b]at hy;refine⟨fn,_,assign,body,hy,roundIn_of_wpIn trivial (d _ x q W _ ⟨_,run_beginRound u (by rw[b]), ?_⟩)⟩;have H:(W.putObj (w.heap.size+1) (.loop {rec .ready none with state:=.busy})).heap[w.heap.size+1]? =some (.loop {rec .ready none with state:=.busy}):=World.putObj_heap_same Z;have G:(W.putObj (w.heap.size+1) (.loop {rec .ready none with state:=.busy})).heap[w.heap.size]? =some (.deferred (some [])):=(World.putObj_heap_other (by omega)).trans X;refine wpIn_mono (y _ pre x rest q _ hx (hIp _ _ _ _ _ T u rfl (.inr rfl)) (hEp _ _ _ _ _ _ hE u rfl) ⟨_,G⟩ ⟨_,H⟩) ?_;rintro e a3 W3 F
    cases e with
    |normal=>
     obtain⟨h1,h2,U⟩:=F;have C:=h2.trans H;have Y:=h1.trans G;have hr:=run_endRound (P:=P) none C;rw[b]at hr;refine⟨_,_,hr,rfl,hIp _ _ _ _ _ U C rfl (.inr rfl), ?_, ?_⟩
     . rw[World.putObj_heap_same (Array.getElem?_eq_some_iff.1 C).1,b];rfl
     . exact(World.putObj_heap_other (by omega)).trans Y
    |ret=>exact F.elim
    |exit id=>exact F.elim
    |goto t=>exact F.elim
    |panic ch=>exact F.elim
    |outgrown=>exact F.elim
   ·
    rintro e W2 ⟨⟨v,rfl⟩,T,u,X⟩;exact⟨none,_,by have:=run_endLoop (P:=P) u (by rw[b];simp);rw[b]at this;exact this,z _ (hIp _ _ _ _ _ T u rfl (.inr rfl)) ((World.putObj_heap_other (by omega)).trans X)⟩
def La (e q:Int):Ending:=.panicked [{v:=.iface 149 (.agg #[.int .i64 e,.int .i64 q]),recovered:=false}]
def KV (R:Nat):List (Int×Value):=
 let f:=fun n:Nat=>Value.func (.func n) #[.pointer (some ⟨R,0,none⟩)] #[]
 [(110,f 134),(102,f 135),(116,f 136),(34,f 137),(91,f 138),(123,f 139),(45,f 140),
  (48,f 140),(49,f 140),(50,f 140),(51,f 140),(52,f 140),(53,f 140),(54,f 140),(55,f 140),(56,f 140),(57,f 140)]
def Vj (w:World) (R g:Nat) (s:ByteArray) (k:Nat):Prop:=Ap w R 155 #[.string s,.int .i64 k,.map (some g)]
def Bj (R g:Nat) (s:ByteArray) (k':Nat) (w w':World):Prop:=w.grownBy w' (some R)/\Vj w' R g s k'
theorem B2 {w w1 c:World} {r:Option Nat} (h:w.grownBy w1 r) (k:w1.grownBy c r):w.grownBy c r:=
 ⟨k.os.trans h.os,k.tape.trans h.tape,k.output.trans h.output,Nat.le_trans h.size k.size,fun i a b=>(k.block i (Nat.lt_of_lt_of_le a h.size) b).trans (h.block i a b)⟩
theorem F5 {w w1:World} {r:Option Nat} (h:w.grownBy w1 r) (n:Nat):w.grownBy (w1.drewN n) r:=⟨h.os,h.tape,h.output,h.size,h.block⟩
theorem Ig {w w1:World} {r:Option Nat} (h:w.grownBy w1 r) (o:Obj):w.grownBy (w1.alloc o) r:=
 ⟨h.os,h.tape,h.output,Nat.le_trans h.size (by simp),fun i b a=>(Below.heap_alloc w1 o i (Nat.lt_of_lt_of_le b h.size)).trans (h.block i b a)⟩
theorem Kh {w w1 b:World} {r:Option Nat} (h:w.grownBy w1 r) (k:Below w1.heap.size w1 b):w.grownBy b r:=
 ⟨k.os.trans h.os,k.tape.trans h.tape,k.output.trans h.output,Nat.le_trans h.size k.size,fun i a c=>(k.block i (Nat.lt_of_lt_of_le a h.size)).trans (h.block i a c)⟩
theorem L4 {w w1:World} {r:Nat} (h:w.grownBy w1 (some r)) (p:Addr) (b:p.block=r\/w.heap.size<=p.block) (u:Value):w.grownBy (w1.setCell p u) (some r):=
 ⟨h.os,h.tape,h.output,by simpa[World.setCell]using h.size,fun i c a=>(Below.heap_setCell w1 p u i (by
   rintro rfl;rcases b with b|b
   . exact a (by rw[b])
   . omega)).trans (h.block i c a)⟩
theorem P8 {w w1:World} (r:Option Nat) (k:Below w.heap.size w w1):w.grownBy w1 r:=⟨k.os,k.tape,k.output,k.size,fun i a _=>k.block i a⟩
theorem Bj.refl {w:World} {R g k:Nat} {s:ByteArray} (h:Vj w R g s k):Bj R g s k w w:=⟨World.grownBy.refl _ _,h⟩
theorem Bj.trans {w w1 c:World} {R g k b:Nat} {s:ByteArray} (h:Bj R g s k w w1) (a:Bj R g s b w1 c):Bj R g s b w c:=⟨B2 h.1 a.1,a.2⟩
theorem Bj.drewN {w w1:World} {R g k:Nat} {s:ByteArray} (h:Bj R g s k w w1) (n:Nat):Bj R g s k w (w1.drewN n):=⟨F5 h.1 n,h.2⟩
theorem Bj.drew {w w1:World} {R g k:Nat} {s:ByteArray} (h:Bj R g s k w w1):Bj R g s k w w1.drew:=⟨⟨h.1.os,h.1.tape,h.1.output,h.1.size,h.1.block⟩,h.2⟩
theorem Bj.alloc {w w1:World} {R g k:Nat} {s:ByteArray} (h:Bj R g s k w w1) (o:Obj):Bj R g s k w (w1.alloc o):=⟨Ig h.1 o,Ap.alloc h.2 o⟩
theorem Bj.below {w w1 b:World} {R g k:Nat} {s:ByteArray} (h:Bj R g s k w w1) (a:Below w1.heap.size w1 b):Bj R g s k w b:=⟨Kh h.1 a,Ap.below h.2 a (Ap.lt h.2)⟩
theorem Bj.set {w w1:World} {R g k:Nat} {s:ByteArray} (h:Bj R g s k w w1) (a:Nat):Bj R g s a w (w1.setCell ⟨R,1,none⟩ (.int .i64 a)):=
 ⟨L4 h.1 _ (.inl rfl) _,by have:=Ap.set_ h.2 1 (.int .i64 a);exact this⟩
theorem Vj.cells {w:World} {R g k:Nat} {s:ByteArray} (h:Vj w R g s k):w.cell? ⟨R,0,none⟩=some (.string s)/\w.cell? ⟨R,1,none⟩=some (.int .i64 k)/\w.cell? ⟨R,2,none⟩=some (.map (some g))/\w.frozen? ⟨R,1,none⟩=false/\R<w.heap.size:=
 ⟨Ap.cell h 0,Ap.cell h 1,Ap.cell h 2,Ap.frozen h 1,Ap.lt h⟩
theorem Bc (s:ByteArray) {a:Nat} (h:a<s.size):s.data.toList[a]? =some s[a]:=by
 rw[List.getElem?_eq_getElem (by rw[<-Lib.size_eq];exact h)];rfl
theorem Bl (c:UInt8):(c.toNat:Int)<256:=by have:=c.toNat_lt;omega
theorem Ie {c:UInt8} {n:Nat} (a:n<256):((c.toNat:Int)==(n:Int))=(c==UInt8.ofNat n):=by
 rw[Bool.eq_iff_iff];simp only[beq_iff_eq];constructor
 . intro h;have:c.toNat=n:=by omega
   subst this;simp
 . rintro rfl;simp[UInt8.toNat_ofNat',Nat.mod_eq_of_lt a]
theorem Cc (p:Value) (e q:Int) (w:World):Calls Tryz.prog 83 #[p,.int .i64 e,.int .i64 q] w fun r w'=>r=La e q/\w'=w:=by
 go_enter Tryz.func83,Tryz.ntmps83;go_wp2;exact⟨rfl,rfl,rfl⟩
theorem Gj (R g:Nat) (s:ByteArray) (k:Nat) (w:World) (G:s.size<=1000000000) (z:k<=s.size) (h:Vj w R g s k):
 Calls Tryz.prog 82 #[.pointer (some ⟨R,0,none⟩)] w fun e w'=>e=.returned (.tuple #[])/\Bj R g s (Ak s.data.toList k) w w':=by
 obtain⟨P,o⟩: ∃P,Ak s.data.toList k=P:=⟨_,rfl⟩;have q:=qz (And.intro o (Bj.refl h));rw[o];clear h o;go_enter Tryz.func82,Tryz.ntmps82;go_wp2
 go_loopg [] (s.size - k) (fun n wr=> ∃j:Nat,j<=s.size/\n=s.size - j/\Hid (Ak s.data.toList j=P/\Bj R g s j w wr))
 case atStart=>exact⟨k,z,rfl,q⟩
 case round=>
  obtain⟨j,F,rfl,b⟩:=hrel;clear q;obtain⟨c0,c1,_,D,E⟩:=b.out.2.2.cells;by_cases p:j<s.size
  . obtain⟨c,x⟩: ∃c,s[j]=c:=⟨_,rfl⟩;have m:s.data.toList[j]? =some c:=by rw[Bc s p,x]
    have y:=Bl c;have B:(j:Int)<(s.size:Int):=by omega
    have H:(0:Int)<=(j:Int):=by omega
    by_cases a:Ef c=true
    . have d:Hid (Ak s.data.toList (j+1)=P/\ ∀nq,Bj R g s (j+1) w ((wr.drewN nq).setCell ⟨R,1,none⟩ (.int .i64 ((j+1:Nat):Int)))):=
       ⟨by rw[<-Qg m a];exact b.out.1,fun nq=>(b.out.2.drewN nq).set _⟩
      unfold Ef at a;simp only[Bool.or_eq_true,beq_iff_eq]at a;clear m b;rcases a with((a|a)|a)|a
      all_goals
       subst a;go_wp2;go_quiet (fail);go_wp2;go_quiet (fail);go_wp2
       go_roundg (s.size - (j+1))
       case measure=>omega
       case rel=>exact⟨j+1,by omega,rfl,d.out.1,d.out.2 _⟩
    . have d:Hid (j=P/\ ∀nq,Bj R g s j w (wr.drewN nq)):=⟨by rw[<-b.out.1,Dr m (by simpa using a)],fun nq=>b.out.2.drewN nq⟩;unfold Ef at a;simp only[Bool.or_eq_true,beq_iff_eq,not_or]at a;obtain⟨⟨⟨r,f⟩,i⟩,l⟩:=a;have ne: ∀n:Nat,n<256->c≠UInt8.ofNat n->((c.toNat:Int)==(n:Int))=false:=fun n A h=>by rw[Ie A];simpa using h
      have C:((c.toNat:Int)==9)=false:=ne 9 (by decide) r;have t:((c.toNat:Int)==10)=false:=ne 10 (by decide) f;have u:((c.toNat:Int)==13)=false:=ne 13 (by decide) i;have v:((c.toNat:Int)==32)=false:=ne 32 (by decide) l;clear ne r f i l m b;go_wp2;go_quiet (fail);go_wp2;go_quiet (fail);go_wp2;refine bodyPost_ret (results_none rfl _ _ _) rfl ?_;refine⟨rfl, ?_⟩;rw[<-d.out.1];exact d.out.2 _
  . have d:Hid (j=P/\ ∀nq,Bj R g s j w (wr.drewN nq)):=⟨by rw[<-b.out.1,Ph (by rw[<-Lib.size_eq];omega)],fun nq=>b.out.2.drewN nq⟩;have B: ¬((j:Int)<(s.size:Int)):=by omega
    clear b;go_wp2;go_quiet (fail);go_wp2
    go_end0
    refine⟨rfl, ?_⟩;rw[<-d.out.1];exact d.out.2 _
theorem Ac (s:ByteArray):s.data.toList.length=s.size:=by rw[Array.length_toList];rfl
theorem Bq {s:ByteArray} {k:Nat} (a:k<=s.size):Ak s.data.toList k<=s.size:=by
 have:=Fb (s:=s.data.toList) (p:=k) (by rw[Ac];exact a)
 rwa [Ac]at this
theorem Aff (R g:Nat) (s:ByteArray) (k:Nat) (c:UInt8) (w:World) (o:s.size<=1000000000) (i:k<=s.size) (h:Vj w R g s k) (a:s.data.toList[Ak s.data.toList k]? =some c):
 Calls Tryz.prog 201 #[.pointer (some ⟨R,0,none⟩),.int .u8 c.toNat] w fun e w'=>e=.returned (.bool true)/\Bj R g s (Ak s.data.toList k+1) w w':=by
 have d:=Gj R g s k w o i h;have m:=Bq i;generalize Ak s.data.toList k=P at d m a ⊢;have f:P<s.size:=by have:=B7 a;rwa [Ac]at this
 have t:s[P]=c:=by rw[Bc s f]at a;exact Option.some.inj a
 have n:=Bl c;have u:(0:Int)<=(P:Int):=by omega
 have v:(P:Int)<(s.size:Int):=by omega
 have p:((P:Int)==(s.size:Int))=false:=by rw[beq_eq_false_iff_ne];omega
 clear a h;have l:=qz d;clear d;go_enter Tryz.func201,Tryz.ntmps201;go_wp2_with (fail);(with_reducible refine(l.out).mono ?_);rintro e w1 ⟨rfl,b⟩;obtain⟨c0,c1,_,q,r⟩:=b.2.cells;have j:=qz b;clear b;go_wp2;go_quiet (fail);go_wp2;go_ret;exact⟨rfl,(j.out.drewN _).set _⟩
theorem Ah3 (R g:Nat) (s:ByteArray) (k:Nat) (c:UInt8) (w:World) (u:s.size<=1000000000) (m:k<=s.size) (h:Vj w R g s k) (d: ¬(s.data.toList[Ak s.data.toList k]? =some c)):
 Calls Tryz.prog 201 #[.pointer (some ⟨R,0,none⟩),.int .u8 c.toNat] w fun e w'=>e=.returned (.bool false)/\Bj R g s (Ak s.data.toList k) w w':=by
 have b:=Gj R g s k w u m h;have q:=Bq m;generalize Ak s.data.toList k=P at b q d ⊢;have z:(0:Int)<=(P:Int):=by omega
 by_cases j:P<s.size
 . obtain⟨x,v⟩: ∃x,s[P]=x:=⟨_,rfl⟩;have l:((x.toNat:Int)==(c.toNat:Int))=false:=by
    rw[Bc s j,v]at d;rw[beq_eq_false_iff_ne];intro e;exact d (by rw[UInt8.toNat_inj.1 (by omega:x.toNat=c.toNat)])
   have n:((x.toNat:Int) != (c.toNat:Int))=true:=by unfold bne;rw[l];rfl
   have t:=Bl c;have y:=Bl x;have A:(P:Int)<(s.size:Int):=by omega
   have o:((P:Int)==(s.size:Int))=false:=by rw[beq_eq_false_iff_ne];omega
   clear d h;have i:=qz b;clear b;go_enter Tryz.func201,Tryz.ntmps201;go_wp2_with (fail);(with_reducible refine(i.out).mono ?_);rintro e w1 ⟨rfl,a⟩;obtain⟨c0,c1,_,p,r⟩:=a.2.cells;have f:=qz a;clear a;go_wp2;go_quiet (fail);go_wp2;go_ret;exact⟨rfl,f.out.drewN _⟩
 . obtain rfl:P=s.size:=by omega
   have o:((s.size:Int)==(s.size:Int))=true:=by simp
   clear d h;have i:=qz b;clear b;go_enter Tryz.func201,Tryz.ntmps201;go_wp2_with (fail);(with_reducible refine(i.out).mono ?_);rintro e w1 ⟨rfl,a⟩;obtain⟨c0,c1,_,p,r⟩:=a.2.cells;have f:=qz a;clear a;go_wp2;go_quiet (fail);go_wp2;go_ret;exact⟨rfl,f.out.drewN _⟩
theorem Zi (R g:Nat) (s:ByteArray) (k:Nat) (c:UInt8) {B:Bool} (w:World) (d:s.size<=1000000000) (b:k<=s.size) (h:Vj w R g s k) (f:decide (s.data.toList[Ak s.data.toList k]? =some c)=B):
 Calls Tryz.prog 201 #[.pointer (some ⟨R,0,none⟩),.int .u8 c.toNat] w fun e w'=>e=.returned (.bool B)/\Bj R g s (if B=true then Ak s.data.toList k+1 else Ak s.data.toList k) w w':=by
 subst f;by_cases a:s.data.toList[Ak s.data.toList k]? =some c
 . rw[decide_eq_true a,if_pos rfl];exact Aff R g s k c w d b h a
 . rw[decide_eq_false a,if_neg (by decide)];exact Ah3 R g s k c w d b h a
end Go.Proofs.YtjgfchcldhmjcaaGreatDoor
