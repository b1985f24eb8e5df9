/- Parts: parse.newReader: a reader at the beginning of a text. No condition. Printed by mknewr.py. -/
import Derived.Shelf.Spec.SlicesInsertGrow
import Derived.Shelf.SlSortFuncK.WholeK
import Derived.Shelf.GgSortFunc.Tiny
import Derived.LoopTactic
import Derived.Deep.Cut
import Derived.Test.YtjgfchcldhmjcaaGreatDoorKPp9
import Derived.Test.YtjgfchcldhmjcaaGreatDoorKPp10
set_option maxHeartbeats 20000000
set_option maxRecDepth 100000
namespace Go.Proofs.YtjgfchcldhmjcaaGreatDoor
open Go Go.RowKit Go.Lib
theorem Alr:(Tryz.prog.info? 103).map (fun i=>(i.zero,i.size,i.bytes))=some (some (.agg #[.string ⟨#[]⟩,.int .i64 0,.bool false,.int .i64 0,.string ⟨#[]⟩,.slice none 0 0,.slice none 0 0]),7,104):=by kernel_rfl
theorem Z4 (b:Nat) (w:World) (V:Value) (n:Nat) (xs:List Value) (i:w.ownsRow b 103 7 V n xs) (z:b<=w.heap.size) (D:n<=1000) (x:Nat) (ys:List Value) (C:ys.length=7) (f: ∀j v,ys[j]? =some v->w.cell? ⟨x,j,none⟩=some v) (p: ∀u ∈ ys,u.oneCell'=true):
 Calls Tryz.prog 222 #[V,.int .i64 n,.slice (some ⟨x,0,none⟩) 1 1] w fun e w'=> ∃V',e=.returned V'/\w'.ownsRow b 103 7 V' (n+1) (xs++ys)/\w.grownBy w' V.ownBlock/\(V'.ownBlock=V.ownBlock\/V'.ownBlock=some w.heap.size):=by
 obtain⟨B,q,r,t,s⟩:=info_parts Alr;obtain⟨V',w',c,k,l,_,m⟩:=run_append_own_at (P:=Tryz.prog) (w:=w) b 166 166 103 B _ 7 104 Tryz.underlying166 q r t s rfl (by omega) V n xs i ⟨x,0,none⟩ 1 1 ys (by omega) (fun j u A=>by rw[De,Nat.zero_add];exact f j u A) p (by simp only[maxLen];omega) (by omega) z;have d:=i;rcases d.2 with⟨rfl,rfl⟩|⟨g,cap,cur,rfl,hbg,hg,hnc,hcm,_⟩
 . have h: ∃a,Ending.returned V'=.returned a/\w'.ownsRow b 103 7 a (0+1) (xs++ys)/\w.grownBy w' (Value.slice none 0 0).ownBlock/\(a.ownBlock=(Value.slice none 0 0).ownBlock\/a.ownBlock=some w.heap.size):=⟨V',rfl,k,l,m⟩;have o:=qz h;clear i d k l m h f p;go_enter Tryz.func222,Tryz.ntmps222;go_wp2_with (at_builtin;refine Lib.wpList_append_run _ rfl _ _ _ _ rfl _ _ rfl rfl _ _ c ?_);go_ret;exact o.out
 . have h: ∃a,Ending.returned V'=.returned a/\w'.ownsRow b 103 7 a (n+1) (xs++ys)/\w.grownBy w' (Value.slice (some ⟨g,0,none⟩) n cap).ownBlock/\(a.ownBlock=(Value.slice (some ⟨g,0,none⟩) n cap).ownBlock\/a.ownBlock=some w.heap.size):=⟨V',rfl,k,l,m⟩;have o:=qz h;have y:cap<=9223372036854775807:=by simp only[maxLen]at hcm;omega
   clear i d k l m h f p hg hcm;go_enter Tryz.func222,Tryz.ntmps222;go_wp2_with (at_builtin;refine Lib.wpList_append_run _ rfl _ _ _ _ rfl _ _ rfl rfl _ _ c ?_)
   all_goals(go_ret;exact o.out)
theorem Af7 (b:Nat) (w:World) (g n i:Nat) (r:Array Value) (xs:List Value) (hb:b<=w.heap.size) (hg:w.heap[g]? =some (.cells r 103 (0,0))) (T:r.size=n*7) (hx:r.toList.take (n*7)=xs) (hi:i<n) (hn:n<=1000) (ac: ∀u ∈ xs,u.oneCell'=true)
 (vb:Nat) (ys:List Value) (hl:ys.length=7) (Y: ∀j v,ys[j]? =some v->w.cell? ⟨vb,j,none⟩=some v) (h1: ∀u ∈ ys,u.oneCell'=true):
 Calls Tryz.prog 222 #[.slice (some ⟨g,0,none⟩) n n,.int .i64 i,.slice (some ⟨vb,0,none⟩) 1 1] w fun e w'=> ∃V',e=.returned V'/\w'.ownsRow b 103 7 V' (n+1) (xs.take (i*7)++ys++xs.drop (i*7))/\Below w.heap.size w w'/\V'.ownBlock=some w.heap.size:=by
 obtain⟨i0,U,ak,ab,aa⟩:=info_parts Alr;have d:xs.length=n*7:=by rw[<-hx,List.length_take,Array.length_toList,T];omega
 have ai:r.toList=xs:=by rw[<-hx,List.take_of_length_le];rw[Array.length_toList,T];exact Nat.le_refl _
 have an:g<w.heap.size:=(Array.getElem?_eq_some_iff.1 hg).1;have ap:vb<w.heap.size:=World.block_lt_of_cell? w _ (Y 0 _ (List.getElem?_eq_getElem (by omega)));have Z: ∀(W:World),W.heap[g]? =w.heap[g]? -> ∀j u,xs[j]? =some u->W.cell? ⟨g,j,none⟩=some u:=fun W O j u hu=>by
  refine(cell_of_row _ _ _ _ _ _ (O.trans hg)).trans ?_;rw[<-Array.getElem?_toList,ai];exact hu
 have X:(Tryz.prog.info? 103).map (·.size)=some 7:=by rw[U];simp[ab]
 have a2: ¬((i:Int)=(n:Int)):=by omega
 have a3:(n:Int)<(n:Int)+1:=by omega
 have aj:(n:Int)+1 - (i:Int)=((n+1 - i:Nat):Int):=by omega
 have V:i+(n+1 - i)=n+1:=by omega
 have E:(Builtin.firstCells i0.size i (.slice (some ⟨g,0,none⟩) i n)).run Tryz.prog w.drew=.ok (xs.take (i*7)).toArray w.drew:=by
  rw[ab];refine run_firstCells_some w.drew 7 i ⟨g,0,none⟩ i n (xs.take (i*7)) (by rw[List.length_take];omega) (fun j v f=> ?_);rw[De,Nat.zero_add];rw[List.getElem?_take]at f
  split at f
  . exact Z w.drew rfl j v f
  . cases f
 have z: ∀ty,(Builtin.append_ #[166,3] ty #[.slice (some ⟨g,0,none⟩) i n,.int .i64 ((n:Int)+1 - (i:Int))]).run Tryz.prog w=.ok (.slice (some ⟨w.heap.size,0,none⟩) (n+1) (grownCap w (n+1) n 103)) (w.drew.alloc (.cells ((xs.take (i*7)).toArray++Builtin.zeroCells (Value.cells (.agg #[.string ⟨#[]⟩,.int .i64 0,.bool false,.int .i64 0,.string ⟨#[]⟩,.slice none 0 0,.slice none 0 0])) (n+1 - i)++Builtin.zeroCells (Value.cells (.agg #[.string ⟨#[]⟩,.int .i64 0,.bool false,.int .i64 0,.string ⟨#[]⟩,.slice none 0 0,.slice none 0 0])) (grownCap w (n+1) n 103 - (n+1))) 103)):=fun ty=>by
  have h:=Lib.run_append_grow_zeros (P:=Tryz.prog) w 166 3 ty 103 i0 _ .i64 .i64 Tryz.underlying166 Tryz.underlying3 U ak (some ⟨g,0,none⟩) i n (xs.take (i*7)) E (n+1 - i) (by omega) (by omega) (by omega) (by omega) (by rw[aa];omega) (by rw[aa,V];exact growslice_fits (by omega) (by omega));rw[V]at h;rw[aj];exact h
 obtain⟨G,hG⟩: ∃G,G=grownCap w (n+1) n 103:=⟨_,rfl⟩;have am:n+1<=G:=by rw[hG];exact grownCap_ge w _ _ _
 have l:G<=maxLen:=by rw[hG];exact grownCap_le_maxLen w (n+1) n 103 (by unfold maxLen;omega)
 have av:G<=9223372036854775807:=by simp only[maxLen]at l;omega
 rw[<-hG]at z;obtain⟨MM,L⟩: ∃MM:List Value,(Builtin.zeroCells (Value.cells (.agg #[.string ⟨#[]⟩,.int .i64 0,.bool false,.int .i64 0,.string ⟨#[]⟩,.slice none 0 0,.slice none 0 0])) (n+1 - i)).toList=MM:=⟨_,rfl⟩;obtain⟨ZZ,Q⟩: ∃ZZ:List Value,(Builtin.zeroCells (Value.cells (.agg #[.string ⟨#[]⟩,.int .i64 0,.bool false,.int .i64 0,.string ⟨#[]⟩,.slice none 0 0,.slice none 0 0])) (G - (n+1))).toList=ZZ:=⟨_,rfl⟩;have M:MM.length=(n+1 - i)*7:=by rw[<-L];simp[Builtin.zeroCells,Value.cells];try omega
 have ae:ZZ.length=(G - (n+1))*7:=by rw[<-Q];simp[Builtin.zeroCells,Value.cells];try omega
 have C:(xs.take (i*7)).toArray++Builtin.zeroCells (Value.cells (.agg #[.string ⟨#[]⟩,.int .i64 0,.bool false,.int .i64 0,.string ⟨#[]⟩,.slice none 0 0,.slice none 0 0])) (n+1 - i)++Builtin.zeroCells (Value.cells (.agg #[.string ⟨#[]⟩,.int .i64 0,.bool false,.int .i64 0,.string ⟨#[]⟩,.slice none 0 0,.slice none 0 0])) (G - (n+1))=(xs.take (i*7)++MM++ZZ).toArray:=by
  apply Array.ext';simp[<-L,<-Q]
 rw[C]at z;obtain⟨F,s⟩: ∃R:List Value,xs.take (i*7)++MM++ZZ=R:=⟨_,rfl⟩;rw[s]at z;have N:F.length=G*7:=by
  rw[<-s,List.length_append,List.length_append,List.length_take,M,ae,d];omega
 obtain⟨A,t⟩: ∃R:List Value,F.take (i*7)++ys++F.drop (i*7+ys.length)=R:=⟨_,rfl⟩;obtain⟨R2,x⟩: ∃R:List Value,A.take ((i+1)*7)++xs.drop (i*7)++A.drop ((i+1)*7+(xs.drop (i*7)).length)=R:=⟨_,rfl⟩;have q:A.length=G*7:=by
  rw[<-t,List.length_append,List.length_append,List.length_take,List.length_drop,N,hl];omega
 have D:R2=xs.take (i*7)++ys++xs.drop (i*7)++ZZ:=by
  rw[<-x,<-t,<-s];exact Ads _ _ _ ys (xs.drop (i*7)) (i*7) ((i+1)*7) (by rw[List.length_take,d];omega) (by rw[M,hl,List.length_drop,d];omega) (by rw[hl];omega)
 have B:R2.length=G*7:=by
  rw[<-x,List.length_append,List.length_append,List.length_take,List.length_drop,List.length_drop,q,d];omega
 have af: ∀(W:World),W.heap[w.heap.size]? =some (.cells F.toArray 103 (0,0))->(∀j,j<w.heap.size->W.heap[j]? =w.heap[j]?)-> ∀ty o H k,o=i*7->H=n+1 - i->(Builtin.copy_ #[166,166] ty #[.slice (some ⟨w.heap.size,o,none⟩) H k,.slice (some ⟨vb,0,none⟩) 1 1]).run Tryz.prog W=.ok (goInt 1) (W.setRow w.heap.size A.toArray):=fun W O hk ty o H k ho hd=>by
  subst ho hd;have c:Nat.min 1 (n+1 - i)=1:=by show min 1 (n+1 - i)=1;omega
  have:=Np (P:=Tryz.prog) W 166 166 ty 103 7 w.heap.size (i*7) (n+1 - i) k ⟨vb,0,none⟩ 1 1 F.toArray 103 ys Tryz.underlying166 X O (by rw[hl,c]) (fun j v f=>by rw[De,Nat.zero_add];exact(World.cell?_of_block (hk vb ap)).trans (Y j v f)) (by rw[hl];simp only[List.size_toArray,N];omega) h1;rw[c]at this;refine this.trans ?_;rw[<-t];rfl
 have ah: ∀(W:World),W.heap[w.heap.size]? =some (.cells A.toArray 103 (0,0))->(∀j,j<w.heap.size->W.heap[j]? =w.heap[j]?)-> ∀ty o so H k sl sc,o=(i+1)*7->so=i*7->H=n - i->sl=n - i->(Builtin.copy_ #[166,166] ty #[.slice (some ⟨w.heap.size,o,none⟩) H k,.slice (some ⟨g,so,none⟩) sl sc]).run Tryz.prog W=.ok (goInt (n - i:Nat)) (W.setRow w.heap.size R2.toArray):=fun W O hk ty o so H k sl sc ho ao hd hs=>by
  subst ho ao hd hs;have c:Nat.min (n - i) (n - i)=n - i:=Nat.min_self _;have:=Np (P:=Tryz.prog) W 166 166 ty 103 7 w.heap.size ((i+1)*7) (n - i) k ⟨g,i*7,none⟩ (n - i) sc A.toArray 103 (xs.drop (i*7)) Tryz.underlying166 X O (by rw[List.length_drop,d,c];omega) (fun j v f=>by rw[De];exact Z W (hk g an) _ v (by rwa [List.getElem?_drop]at f)) (by rw[List.length_drop,d];simp only[List.size_toArray,q];omega) (fun v hv=>ac v (List.mem_of_mem_drop hv));rw[c]at this;refine this.trans ?_;rw[<-x]
 have hP: ∀W:World,Below w.heap.size w W->W.heap[w.heap.size]? =some (.cells R2.toArray 103 (0,0))-> ∃V',Ending.returned (.slice (some ⟨w.heap.size,0,none⟩) (n+1) G)=.returned V'/\W.ownsRow b 103 7 V' (n+1) (xs.take (i*7)++ys++xs.drop (i*7))/\Below w.heap.size w W/\V'.ownBlock=some w.heap.size:=fun W hB O=>
  ⟨_,rfl,Adb hb O am l (by simpa using B) (by
    show List.take _ R2=_;rw[D,List.take_left'];rw[List.length_append,List.length_append,List.length_take,List.length_drop,d,hl];omega),hB,rfl⟩
 have au: ¬(G=i):=by omega
 have aq: ¬(G=i+1):=by omega
 have ay: ¬(n=i):=by omega
 have a1:IntKind.i64.wrap ((i:Int)+1)=(i:Int)+1:=by rw[IntKind.wrap_i64];omega
 have aw:(0:Int)<=(i:Int)+1:=by omega
 have az:i<=n:=by omega
 have a0:((i:Int)+1).toNat=i+1:=by omega
 have ax:(i:Int)<=(n:Int):=by omega
 obtain⟨W0,ad⟩: ∃W:World,(w.alloc (.cells F.toArray 103)).drew=W:=⟨_,rfl⟩;have I:Below w.heap.size w W0:=ad▸Below.drew ((Below.refl _ _).alloc (Nat.le_refl _) _);have m:W0.heap[w.heap.size]? =some (.cells F.toArray 103 (0,0)):=ad▸heap_alloc_new w _;have ag:=fun ty k=>af W0 m (fun j f=>I.block j f) ty _ _ k rfl rfl;obtain⟨W1,y⟩: ∃W:World,W0.setRow w.heap.size A.toArray=W:=⟨_,rfl⟩;rw[y]at ag;have J:Below w.heap.size w W1.drew:=y▸Below.drew (Vm I (Nat.le_refl _) _);have p:W1.drew.heap[w.heap.size]? =some (.cells A.toArray 103 (0,0)):=y▸setRow_heap W0 _ _ _ _ _ m;have ar:=fun ty k sc=>ah W1.drew p (fun j f=>J.block j f) ty _ _ _ k _ sc rfl rfl rfl rfl;have al:=qz (hP (W1.drew.setRow w.heap.size R2.toArray) (Vm J (Nat.le_refl _) _) (setRow_heap W1.drew _ _ _ _ _ p));skip;clear af ah hP E D x t s C L Q M ae Z ai hx hg Y h1 ac U ak ab aa N q B hG X aj V d T l I m J p y;go_enter Tryz.func222,Tryz.ntmps222;go_wp2_with (at_builtin;refine Lib.wpList_append_run _ rfl _ _ _ _ rfl _ _ rfl rfl _ _ (z _) ?_);refine wp_region_held_drew (S:=fun _=>True) (by kernel_rfl) trivial (fun a=> ?_);refine tkH 0 a ?_;refine tkH 1 a ?_;refine tkH 2 a ?_;refine tkH 3 a ?_;refine tkH 4 a ?_;refine tkH 5 a ?_;refine tkH 6 a ?_;refine tkH 7 a ?_;refine rd1 8 fun K hK=> ?_;go_simp;refine hK.out _ _ trivial (fun a=> ?_);clear hK K;refine wpAnyH_done (by kernel_rfl) ?_ _;clear a;go_wp2;go_ret;exact al.out
end Go.Proofs.YtjgfchcldhmjcaaGreatDoor
namespace Go.Proofs.YtjgfchcldhmjcaaGreatDoor
open Go.RowKit
theorem Q7: ∀{l:List Val},(∀v ∈ l,∀d a:Int,A0 v a=0->d+Ej v<=65->A0 v d=0)-> ∀{d a:Int},Dn l a=0->(l= []\/d+Ey l<=65)->Dn l d=0
 | [],_,_,_,_,_=>by simp[Dn]
 |v::r,ih,d,a,h,b=>by
  have b:=b.resolve_left (by simp);simp only[Ey]at b;simp only[Dn]at h ⊢;by_cases h0:A0 v a=0
  . rw[if_pos h0]at h;rw[if_pos (ih v (by simp) d a h0 (by omega))];exact Q7 (fun x c=>ih x (by simp[c])) h (.inr (by omega))
  . rw[if_neg h0]at h;exact absurd h h0
theorem Q8: ∀{l:List (ByteArray×Val)},(∀m ∈ l,∀d a:Int,A0 m.2 a=0->d+Ej m.2<=65->A0 m.2 d=0)-> ∀{last:Option ByteArray} {d a:Int},Di l last a=0->(l= []\/d+Ip l<=65)->Di l last d=0
 | [],_,_,_,_,_,_=>by simp[Di]
 |(key,v)::r,ih,last,d,a,h,b=>by
  have b:=b.resolve_left (by simp);simp only[Ip,Zo]at b;simp only[Di]at h ⊢;by_cases h0:Ob (key,v) last a=0
  . rw[if_pos h0]at h;have f:Ob (key,v) last d=0:=by
     simp only[Ob]at h0 ⊢;by_cases e:A6 key=true
     . rw[if_pos e]at h0 ⊢
       cases last with
       |none=>exact ih (key,v) (by simp) d a h0 (by simp only;omega)
       |some q=>
        simp only at h0 ⊢;by_cases c:leB key q=true
        . rw[if_pos c]at h0;cases h0
        . rw[if_neg c]at h0 ⊢;exact ih (key,v) (by simp) d a h0 (by simp only;omega)
     . rw[if_neg e]at h0;cases h0
    rw[if_pos f];exact Q8 (fun x g=>ih x (by simp[g])) h (.inr (by omega))
  . rw[if_neg h0]at h;exact absurd h h0
theorem Z9: ∀(v:Val) (d f:Int),A0 v f=0->d+Ej v<=65->A0 v d=0:=by
 refine Val.ind ?_;intro k b n t l o r s d f h c;obtain⟨g,_,i,j,m⟩:=Fm h;obtain⟨_,_,u,w⟩:=My g;simp only[Ej]at c;have p:Dn l (d+1)=0:=by
  refine Q7 r j ?_;rcases u with e|e
  . rw[if_pos e]at c;exact .inr (by omega)
  . exact .inl (List.length_eq_zero_iff.1 e)
 have q:Di o none (d+1)=0:=by
  refine Q8 s m ?_;rcases w with e|e
  . rw[if_neg (by omega),if_pos e]at c;exact .inr (by omega)
  . exact .inl (List.length_eq_zero_iff.1 e)
 have a: ¬64<d:=by
  have:0<=(if k=5 then Ey l else if k=6 then Ip o else 0):=Nat.zero_le _;omega
 simp only[A0];rw[if_neg (by rw[g];simp),if_neg a,if_pos i,if_pos p,q]
theorem Je {r:Nat} (h:D0 r): ∀c ∈ Lib.encodeRune (r:Int),(r<128/\c.toNat=r)\/(128<=r/\128<=c.toNat):=by
 intro c b;unfold D0 at h;unfold Lib.encodeRune at b;obtain⟨z,a,rfl⟩:=List.mem_map.1 b;have key:(r<128/\z=r)\/(128<=r/\128<=z/\z<256):=by
  unfold Lib.encodeRuneZ at a
  split at a
  . simp at a;omega
  split at a
  . simp at a;omega
  split at a
  . simp at a;omega
  split at a
  . simp at a;omega
  . omega
 have e:z.toNat.toUInt8.toNat=z.toNat:=by
  have:z.toNat<256:=by omega
  simp[Nat.toUInt8,UInt8.toNat_ofNat',Nat.mod_eq_of_lt this]
 rw[e];omega
theorem Abm {c:UInt8} (h:c.toNat<128) (rest:List UInt8):Lib.validD (c::rest)=Lib.validD rest:=by
 rw[Kf (by simp),C5];have e:Lib.decodeN (c::rest).length ((c::rest).getD 0 0).toNat ((c::rest).getD 1 0).toNat ((c::rest).getD 2 0).toNat ((c::rest).getD 3 0).toNat=(c.toNat,1):=by
  unfold Lib.decodeN;rw[if_pos (by simpa using h)];simp
 rw[e,if_neg (by simp only;omega)];rfl
theorem Ps: ∀(a:List UInt8),(∀c ∈ a,c.toNat<128)-> ∀rest,Lib.validD (a++rest)=Lib.validD rest
 | [],_,rest=>rfl
 |c::a,h,rest=>by
  rw[List.cons_append,Abm (h c (by simp))];exact Ps a (fun x b=>h x (by simp[b])) rest
theorem Ht {z:Int} (h0:0<=z) (a:z<256):(z.toNat.toUInt8).toNat=z.toNat:=by
 have:z.toNat<256:=by omega
 simp[Nat.toUInt8,UInt8.toNat_ofNat',Nat.mod_eq_of_lt this]
theorem Ln {l:List UInt8} {r n:Nat} (a:l≠ []) (h:Lib.decodeL l=(r,n)) (b:n≠1):Lib.validD l=Lib.validD (l.drop n):=by
 rw[Kf a,h,if_neg (by simp only;omega)]
theorem Ad3 {r:Nat} (h:D0 r) (rest:List UInt8):Lib.validD (Lib.encodeRune (r:Int)++rest)=Lib.validD rest:=by
 unfold D0 at h;by_cases c1:r<128
 . refine Ps _ (fun c e=> ?_) rest;have:=Je (r:=r) (by unfold D0;exact h) c e;omega
 unfold Lib.encodeRune;by_cases c2:r<2048
 . rw[Lib.encodeRuneZ_two (by omega) (by omega)];simp only[List.map_cons,List.map_nil,List.cons_append,List.nil_append];have a1:((192+(r:Int) / 64).toNat.toUInt8).toNat=192+r / 64:=by rw[Ht (by omega) (by omega)];omega
   have a:((128+(r:Int) % 64).toNat.toUInt8).toNat=128+r % 64:=by rw[Ht (by omega) (by omega)];omega
   generalize (192+(r:Int) / 64).toNat.toUInt8=x1 at*
   generalize (128+(r:Int) % 64).toNat.toUInt8=x2 at*
   refine Ln (l:=x1::x2::rest) (r:=r) (n:=2) (by simp) ?_ (by decide);rw[C5];simp only[List.getD_cons_zero,List.getD_cons_succ,a1,a,List.length_cons];unfold Lib.decodeN;rw[if_neg (by omega),if_pos (by omega),if_pos (by omega)];exact Prod.ext (by simp only;omega) rfl
 by_cases c3:r<65536
 . rw[Lib.encodeRuneZ_three (by omega)];simp only[List.map_cons,List.map_nil,List.cons_append,List.nil_append];have a1:((224+(r:Int) / 4096).toNat.toUInt8).toNat=224+r / 4096:=by rw[Ht (by omega) (by omega)];omega
   have a:((128+(r:Int) / 64 % 64).toNat.toUInt8).toNat=128+r / 64 % 64:=by rw[Ht (by omega) (by omega)];omega
   have b:((128+(r:Int) % 64).toNat.toUInt8).toNat=128+r % 64:=by rw[Ht (by omega) (by omega)];omega
   generalize (224+(r:Int) / 4096).toNat.toUInt8=x1 at*
   generalize (128+(r:Int) / 64 % 64).toNat.toUInt8=x2 at*
   generalize (128+(r:Int) % 64).toNat.toUInt8=x3 at*
   refine Ln (l:=x1::x2::x3::rest) (r:=r) (n:=3) (by simp) ?_ (by decide);rw[C5];simp only[List.getD_cons_zero,List.getD_cons_succ,a1,a,b,List.length_cons];unfold Lib.decodeN;have d1:r / 64 / 64=r / 4096:=by omega
   rw[if_neg (by omega),if_neg (by omega),if_pos (by omega),if_pos (by omega)];exact Prod.ext (by simp only;omega) rfl
 . rw[Lib.encodeRuneZ_four (by omega) (by omega)];simp only[List.map_cons,List.map_nil,List.cons_append,List.nil_append];have a1:((240+(r:Int) / 262144).toNat.toUInt8).toNat=240+r / 262144:=by rw[Ht (by omega) (by omega)];omega
   have a:((128+(r:Int) / 4096 % 64).toNat.toUInt8).toNat=128+r / 4096 % 64:=by rw[Ht (by omega) (by omega)];omega
   have b:((128+(r:Int) / 64 % 64).toNat.toUInt8).toNat=128+r / 64 % 64:=by rw[Ht (by omega) (by omega)];omega
   have d:((128+(r:Int) % 64).toNat.toUInt8).toNat=128+r % 64:=by rw[Ht (by omega) (by omega)];omega
   generalize (240+(r:Int) / 262144).toNat.toUInt8=x0 at*
   generalize (128+(r:Int) / 4096 % 64).toNat.toUInt8=x1 at*
   generalize (128+(r:Int) / 64 % 64).toNat.toUInt8=x2 at*
   generalize (128+(r:Int) % 64).toNat.toUInt8=x3 at*
   refine Ln (l:=x0::x1::x2::x3::rest) (r:=r) (n:=4) (by simp) ?_ (by decide);rw[C5];simp only[List.getD_cons_zero,List.getD_cons_succ,a1,a,b,d,List.length_cons];unfold Lib.decodeN;rw[if_neg (by omega),if_neg (by omega),if_neg (by omega),if_pos (by omega),if_pos (by omega)];exact Prod.ext (by simp only;omega) rfl
theorem Ah8 {r:Nat} (h:D0 r) (rest:List UInt8):Lib.decodeL (Lib.encodeRune (r:Int)++rest)=(r,(Lib.encodeRune (r:Int)).length):=by
 unfold D0 at h;by_cases c1:r<128
 . have e:Lib.encodeRune (r:Int)= [UInt8.ofNat r]:=by
    rw[K9 (by omega) (by omega)];simp
   have d:(UInt8.ofNat r).toNat=r:=by simp[UInt8.toNat_ofNat'];omega
   rw[e,C5];show Lib.decodeN _ _ _ _ _=(r,1);unfold Lib.decodeN;simp only[List.cons_append,List.nil_append,List.getD_cons_zero,d];rw[if_pos c1]
 unfold Lib.encodeRune;by_cases c2:r<2048
 . rw[Lib.encodeRuneZ_two (by omega) (by omega)];simp only[List.map_cons,List.map_nil,List.cons_append,List.nil_append,List.length_cons,List.length_nil];have a1:((192+(r:Int) / 64).toNat.toUInt8).toNat=192+r / 64:=by rw[Ht (by omega) (by omega)];omega
   have a:((128+(r:Int) % 64).toNat.toUInt8).toNat=128+r % 64:=by rw[Ht (by omega) (by omega)];omega
   generalize (192+(r:Int) / 64).toNat.toUInt8=x1 at*
   generalize (128+(r:Int) % 64).toNat.toUInt8=x2 at*
   rw[C5];simp only[List.getD_cons_zero,List.getD_cons_succ,a1,a,List.length_cons];unfold Lib.decodeN;rw[if_neg (by omega),if_pos (by omega),if_pos (by omega)];exact Prod.ext (by simp only;omega) rfl
 by_cases c3:r<65536
 . rw[Lib.encodeRuneZ_three (by omega)];simp only[List.map_cons,List.map_nil,List.cons_append,List.nil_append,List.length_cons,List.length_nil];have a1:((224+(r:Int) / 4096).toNat.toUInt8).toNat=224+r / 4096:=by rw[Ht (by omega) (by omega)];omega
   have a:((128+(r:Int) / 64 % 64).toNat.toUInt8).toNat=128+r / 64 % 64:=by rw[Ht (by omega) (by omega)];omega
   have b:((128+(r:Int) % 64).toNat.toUInt8).toNat=128+r % 64:=by rw[Ht (by omega) (by omega)];omega
   generalize (224+(r:Int) / 4096).toNat.toUInt8=x1 at*
   generalize (128+(r:Int) / 64 % 64).toNat.toUInt8=x2 at*
   generalize (128+(r:Int) % 64).toNat.toUInt8=x3 at*
   rw[C5];simp only[List.getD_cons_zero,List.getD_cons_succ,a1,a,b,List.length_cons];unfold Lib.decodeN;have d1:r / 64 / 64=r / 4096:=by omega
   rw[if_neg (by omega),if_neg (by omega),if_pos (by omega),if_pos (by omega)];exact Prod.ext (by simp only;omega) rfl
 . rw[Lib.encodeRuneZ_four (by omega) (by omega)];simp only[List.map_cons,List.map_nil,List.cons_append,List.nil_append,List.length_cons,List.length_nil];have a1:((240+(r:Int) / 262144).toNat.toUInt8).toNat=240+r / 262144:=by rw[Ht (by omega) (by omega)];omega
   have a:((128+(r:Int) / 4096 % 64).toNat.toUInt8).toNat=128+r / 4096 % 64:=by rw[Ht (by omega) (by omega)];omega
   have b:((128+(r:Int) / 64 % 64).toNat.toUInt8).toNat=128+r / 64 % 64:=by rw[Ht (by omega) (by omega)];omega
   have c:((128+(r:Int) % 64).toNat.toUInt8).toNat=128+r % 64:=by rw[Ht (by omega) (by omega)];omega
   generalize (240+(r:Int) / 262144).toNat.toUInt8=x0 at*
   generalize (128+(r:Int) / 4096 % 64).toNat.toUInt8=x1 at*
   generalize (128+(r:Int) / 64 % 64).toNat.toUInt8=x2 at*
   generalize (128+(r:Int) % 64).toNat.toUInt8=x3 at*
   rw[C5];simp only[List.getD_cons_zero,List.getD_cons_succ,a1,a,b,c,List.length_cons];unfold Lib.decodeN;rw[if_neg (by omega),if_neg (by omega),if_neg (by omega),if_pos (by omega),if_pos (by omega)];exact Prod.ext (by simp only;omega) rfl
theorem Afs (r:Int):Lib.encodeRune r≠ []:=by
 unfold Lib.encodeRune Lib.encodeRuneZ
 repeat' split
 all_goals simp
def Al0 (c:UInt8):Nat:=if c.toNat<58 then c.toNat - 48 else c.toNat - 87
def Anw (c:UInt8):Nat:=if c.toNat=98 then 8 else if c.toNat=116 then 9 else if c.toNat=110 then 10 else if c.toNat=102 then 12 else if c.toNat=114 then 13 else c.toNat
theorem Agz: ∀r:Fin 128,(r.val<32\/r.val=34\/r.val=92)->((Ao r.val).getD 0 0=92/\(((Ao r.val).length=2/\(Ao r.val).getD 1 0≠117/\Anw ((Ao r.val).getD 1 0)=r.val)\/
 ((Ao r.val).length=6/\(Ao r.val).getD 1 0=117/\Al0 ((Ao r.val).getD 4 0)*16+Al0 ((Ao r.val).getD 5 0)=r.val))):=by decide+kernel
theorem R7 {r:Nat} (h:D0 r): ∃c y,Ao r=c::y/\c≠34:=by
 by_cases g:32<=r/\r≠34/\r≠92
 . have e:Ao r=Lib.encodeRune r:=by unfold Ao;rw[if_pos g]
   rw[e];have d:=Je h
   cases he:Lib.encodeRune (r:Int)with
   |nil=>exact absurd he (Afs r)
   |cons c y=>
    rw[he]at d;have:=d c (by simp);refine⟨c,y,rfl,fun f=> ?_⟩;subst f;have i:(34:UInt8).toNat=34:=rfl;omega
 . obtain⟨h0,b⟩:=Agz ⟨r,by omega⟩ (by simp only;omega);simp only at h0 b
   cases he:Ao r with
   |nil=>rw[he]at b;simp at b
   |cons c y=>
    rw[he]at h0;have a:c=92:=h0;exact⟨c,y,rfl,by rw[a];decide⟩
theorem T8: ∀(n:Nat) (l:List UInt8) (p:Nat),l.length<=n->Lib.validD l=true->(Au n l p).flatMap (fun x=>Lib.encodeRune (x.2:Int))=l
 |0,l,p,h,_=>by
  have:l= []:=List.length_eq_zero_iff.1 (by omega);subst this;rfl
 |n+1,l,p,h,hv=>by
  by_cases a:l= []
  . subst a;simp[Au]
  . rw[Kf a]at hv
    split at hv
    . cases hv
    rename_i b;have d:=Lib.decodeL_width l;have c:=Lib.decodeL_le l a;simp only[Au];rw[if_neg a,if_neg b,List.flatMap_cons,Lib.encode_decode l a b,T8 n _ _ (by rw[List.length_drop];omega) hv];exact List.take_append_drop _ _
theorem Amx {k:Int} {b:Bool} {n:Int} {t:ByteArray} {i on:Nat} (h:Fo k b n t i on=false):(k=2\/b=false)/\(k=3\/n=0):=by
 unfold Fo at h;by_cases a:k=1
 . subst a;simp at h;exact⟨.inr h.1.1.1.1,.inr h.1.1.1.2⟩
 by_cases c:k=2
 . subst c;simp at h;exact⟨.inl rfl,.inr h.1.1.1⟩
 by_cases d:k=3
 . subst d;simp at h;exact⟨.inr h.1.1.1,.inl rfl⟩
 by_cases e:k=4
 . subst e;simp at h;exact⟨.inr h.1.1.1,.inr h.1.1.2⟩
 by_cases f:k=5
 . subst f;simp at h;exact⟨.inr h.1.1.1,.inr h.1.1.2⟩
 by_cases g:k=6
 . subst g;simp at h;exact⟨.inr h.1.1.1,.inr h.1.1.2⟩
 simp[a,c,d,e,f,g]at h
theorem N2 (u:Nat): ∀c ∈ F3 u,48<=c.toNat/\c.toNat<=57:=by
 induction u using Nat.strongRecOn with
 |_ u ih=>
  intro c a;by_cases h:u=0
  . subst h;rw[Hy]at a
    cases a
  . rw[Kp h]at a;rcases List.mem_append.1 a with a|a
    . exact ih (u / 10) (by omega) c a
    . simp only[List.mem_singleton]at a;subst a;have: ∀d:Fin 10,48<=(dgt d.val).toNat/\(dgt d.val).toNat<=57:=by decide
      exact this ⟨u % 10,by omega⟩
def Amw (l:List UInt8):Nat:=l.foldl (fun a c=>a*10+(c.toNat - 48)) 0
theorem Agf (u:Nat):Amw (F3 u)=u:=by
 induction u using Nat.strongRecOn with
 |_ u ih=>
  by_cases h:u=0
  . subst h;rw[Hy];rfl
  . rw[Kp h];unfold Amw;rw[List.foldl_append];have:=ih (u / 10) (by omega);unfold Amw at this;rw[this];have a: ∀d:Fin 10,(dgt d.val).toNat - 48=d.val:=by decide
    have:=a ⟨u % 10,by omega⟩;simp only[List.foldl_cons,List.foldl_nil];simp only at this;omega
theorem Acq (n:Int): ∀c ∈ Lib.itoa n,c.toNat=45\/(48<=c.toNat/\c.toNat<=57):=by
 intro c a;by_cases h:n<0
 . have e:Lib.itoa n=45::F3 n.natAbs:=by rw[Lib.itoa,if_pos h,Jt _ (by omega)]
   rw[e]at a;rcases List.mem_cons.1 a with rfl|a
   . exact .inl rfl
   . exact .inr (N2 _ c a)
 . by_cases h0:n=0
   . subst h0;have e:Lib.itoa 0= [48]:=by
      rw[Lib.itoa,if_neg (by omega)];exact Lib.decDigits_one (i:=0) (by omega)
     rw[e]at a;simp only[List.mem_singleton]at a;subst a;exact .inr (by decide)
   . have e:Lib.itoa n=F3 n.toNat:=by rw[Lib.itoa,if_neg h,Jt _ (by omega)]
     rw[e]at a;exact .inr (N2 _ c a)
def Fi:ByteArray:=⟨#[]⟩
def L7:Val:=.mk 1 false 0 Fi [] []
def G9 (b:Bool):Val:=.mk 2 b 0 Fi [] []
def Oa (n:Int):Val:=.mk 3 false n Fi [] []
def Abk (l:List UInt8):Val:=.mk 4 false 0 ⟨l.toArray⟩ [] []
def R3 (l:List Val):Val:=.mk 5 false 0 Fi l []
def Oc (o:List (ByteArray×Val)):Val:=.mk 6 false 0 Fi [] o
def Rd.map {α β:Type} (g:α->β):Rd α->Rd β
 | .ok a q=> .ok (g a) q
 | .bad e q=> .bad e q
def Cp (s:List UInt8) (p:Nat) (w:List UInt8) (v:Val):Rd Val:=if w.isPrefixOf (s.drop p)=true then .ok v (p+w.length)else .bad 4 p
def Gr (l:List (ByteArray×Val)):List (ByteArray×Val):=(Bg l []).getD []
def Gf (k:ByteArray) (l:List (ByteArray×Val)):Bool:=l.any fun m=>decide (m.1=k)
def D9 (c:UInt8):Bool:=Ck c||c==45||c==34||c==91||c==123||c==110||c==116||c==102
mutual
def Bb:Nat->List UInt8->Nat->Int->Rd Val
 |0,s,p,_=> .bad 4 (Ak s p)
 |f+1,s,p,d=>match s[Ak s p]? with
  |none=> .bad 4 (Ak s p)
  |some c=>
   if D9 c=false then .bad 4 (Ak s p)
   else if 64<d then .bad 5 (Ak s p)
   else if c=91 then Hd f s (Ak s p) d
   else if c=123 then Lh f s (Ak s p) d
   else if c=34 then(Cs s (Ak s p)).map Abk
   else if c=110 then Cp s (Ak s p) [110,117,108,108] L7
   else if c=116 then Cp s (Ak s p) [116,114,117,101] (G9 true)
   else if c=102 then Cp s (Ak s p) [102,97,108,115,101] (G9 false)
   else(Cl s (Ak s p)).map Oa
def Hd:Nat->List UInt8->Nat->Int->Rd Val
 |0,s,p,_=> .bad 4 (Ak s (p+1))
 |f+1,s,p,d=>if s[Ak s (p+1)]? =some 93 then .ok (R3 []) (Ak s (p+1)+1)else Dk f s (Ak s (p+1)) d []
def Lh:Nat->List UInt8->Nat->Int->Rd Val
 |0,s,p,_=> .bad 4 (Ak s (p+1))
 |f+1,s,p,d=>if s[Ak s (p+1)]? =some 125 then .ok (Oc []) (Ak s (p+1)+1)else Bi f s (Ak s (p+1)) d []
def Dk:Nat->List UInt8->Nat->Int->List Val->Rd Val
 |0,s,p,_,_=> .bad 4 (Ak s p)
 |f+1,s,p,d,acc=>match Bb f s p (d+1)with
  | .bad e q=> .bad e q
  | .ok v q=>if s[Ak s q]? =some 44 then Dk f s (Ak s q+1) d (acc++ [v])else if s[Ak s q]? =some 93 then .ok (R3 (acc++ [v])) (Ak s q+1)else .bad 4 (Ak s q)
def Bi:Nat->List UInt8->Nat->Int->List (ByteArray×Val)->Rd Val
 |0,s,p,_,_=> .bad 4 (Ak s p)
 |f+1,s,p,d,acc=>match Cs s (Ak s p)with
  | .bad e q=> .bad e q
  | .ok k q=>if Gf ⟨k.toArray⟩ acc=true then .bad 8 (Ak s p)
    else if s[Ak s q]? =some 58 then E9 f s (Ak s q+1) d acc ⟨k.toArray⟩
    else .bad 4 (Ak s q)
def E9:Nat->List UInt8->Nat->Int->List (ByteArray×Val)->ByteArray->Rd Val
 |0,s,p,_,_,_=> .bad 4 (Ak s p)
 |f+1,s,p,d,acc,k=>match Bb f s p (d+1)with
  | .bad e q=> .bad e q
  | .ok v q=>if s[Ak s q]? =some 44 then Bi f s (Ak s q+1) d (acc++ [(k,v)])else if s[Ak s q]? =some 125 then .ok (Oc (Gr (acc++ [(k,v)]))) (Ak s q+1)else .bad 4 (Ak s q)
end
def Eh (s:List UInt8):Rd Val:=match Bb (4*s.length+4) s 0 1 with
 | .bad e q=> .bad e q
 | .ok v q=>if Ak s q<s.length then .bad 4 (Ak s q)else .ok v (Ak s q)
theorem Rd.within.from {c:Type} {p b n:Nat} {r:Rd c} (h:r.within b n) (d:p<=b):r.within p n:=by
 cases r with
 |ok a q=>exact⟨by have:=h.1;omega,h.2⟩
 |bad e q=>exact⟨by have:=h.1;omega,h.2⟩
theorem Rd.within.map {a b:Type} {g:a->b} {p n:Nat} {r:Rd a} (h:r.within p n):(r.map g).within p n:=by
 cases r<;>exact h
theorem Kl {s:List UInt8} {p:Nat} (h:p<s.length) {w:List UInt8} (c:w≠ []) (v:Val):(Cp s p w v).within p s.length:=by
 unfold Cp
 split
 . rename_i b;have a:=(List.isPrefixOf_iff_prefix.1 b).length_le;rw[List.length_drop]at a;have:0<w.length:=List.length_pos_iff.2 c;exact⟨by omega,by omega⟩
 . exact⟨Nat.le_refl _,by omega,by decide,by decide⟩
theorem Eg {c:Type} {s:List UInt8} {p:Nat} (h:p<=s.length) (e:Int) (a:1<=e) (b:e<=18):(Rd.bad e (Ak s p):Rd c).within p s.length:=⟨Bv s p,Fb h,a,b⟩
theorem Ee: ∀(f:Nat),(∀s p d,p<=s.length->(Bb f s p d).within p s.length)/\(∀s p d,p<s.length->(Hd f s p d).within p s.length)/\(∀s p d,p<s.length->(Lh f s p d).within p s.length)/\
 (∀s p d acc,p<=s.length->(Dk f s p d acc).within p s.length)/\(∀s p d acc,p<=s.length->(Bi f s p d acc).within p s.length)/\(∀s p d acc k,p<=s.length->(E9 f s p d acc k).within p s.length):=by
 intro f
 induction f with
 |zero=>
  refine⟨fun s p d h=> ?_,fun s p d h=> ?_,fun s p d h=> ?_,fun s p d acc h=> ?_,fun s p d acc h=> ?_,fun s p d acc k h=> ?_⟩
  . unfold Bb;exact Eg h _ (by decide) (by decide)
  . unfold Hd;exact(Eg (p:=p+1) h _ (by decide) (by decide)).from (by omega)
  . unfold Lh;exact(Eg (p:=p+1) h _ (by decide) (by decide)).from (by omega)
  . unfold Dk;exact Eg h _ (by decide) (by decide)
  . unfold Bi;exact Eg h _ (by decide) (by decide)
  . unfold E9;exact Eg h _ (by decide) (by decide)
 |succ f ih=>
  obtain⟨iv,w,x,r,t,u⟩:=ih;refine⟨fun s p d h=> ?_,fun s p d h=> ?_,fun s p d h=> ?_,fun s p d acc h=> ?_,fun s p d acc h=> ?_,fun s p d acc k h=> ?_⟩
  . unfold Bb;have j:=Fb h;have g:=Bv s p
    cases a:s[Ak s p]? with
    |none=>exact Eg h _ (by decide) (by decide)
    |some c=>
     have l:=B7 a;simp only
     split
     . exact Eg h _ (by decide) (by decide)
     split
     . exact Eg h _ (by decide) (by decide)
     split
     . exact(w s _ d l).from g
     split
     . exact(x s _ d l).from g
     split
     . exact((Eu j).map).from g
     split
     . exact(Kl l (by simp) _).from g
     split
     . exact(Kl l (by simp) _).from g
     split
     . exact(Kl l (by simp) _).from g
     . exact((Lp l).map).from g
  . unfold Hd;have j:=Fb (s:=s) (p:=p+1) h;have g:=Bv s (p+1)
    split
    . rename_i a;exact⟨by omega,by have:=B7 a;omega⟩
    . exact(r s _ d [] j).from (by omega)
  . unfold Lh;have j:=Fb (s:=s) (p:=p+1) h;have g:=Bv s (p+1)
    split
    . rename_i a;exact⟨by omega,by have:=B7 a;omega⟩
    . exact(t s _ d [] j).from (by omega)
  . unfold Dk;have b:=iv s p (d+1) h
    cases hr:Bb f s p (d+1)with
    |bad e q=>rw[hr]at b;exact b
    |ok v q=>
     rw[hr]at b;obtain⟨o,i⟩:=b;have j:=Fb i;have g:=Bv s q;simp only
     split
     . rename_i a;exact(r s _ d _ (B7 a)).from (by omega)
     split
     . rename_i a;exact⟨by omega,B7 a⟩
     . exact(Eg i _ (by decide) (by decide)).from (by omega)
  . unfold Bi;have n:=Fb h;have m:=Bv s p;have b:=Eu n
    cases hr:Cs s (Ak s p)with
    |bad e q=>rw[hr]at b;exact b.from m
    |ok k q=>
     rw[hr]at b;obtain⟨o,i⟩:=b;have j:=Fb i;have g:=Bv s q;simp only
     split
     . exact Eg h _ (by decide) (by decide)
     split
     . rename_i a;exact(u s _ d _ _ (B7 a)).from (by omega)
     . exact(Eg i _ (by decide) (by decide)).from (by omega)
  . unfold E9;have b:=iv s p (d+1) h
    cases hr:Bb f s p (d+1)with
    |bad e q=>rw[hr]at b;exact b
    |ok v q=>
     rw[hr]at b;obtain⟨o,i⟩:=b;have j:=Fb i;have g:=Bv s q;simp only
     split
     . rename_i a;exact(t s _ d _ (B7 a)).from (by omega)
     split
     . rename_i a;exact⟨by omega,B7 a⟩
     . exact(Eg i _ (by decide) (by decide)).from (by omega)
theorem Se (r:Int):(Lib.encodeRune r).length<=4:=by
 have:=(Lib.encodeRuneZ_length r).2;unfold Lib.encodeRune
 rwa [List.length_map]
theorem Aid {r:Int} (h0:0<=r) (h:r<128):(Lib.encodeRune r).length=1:=by
 unfold Lib.encodeRune;rw[List.length_map,Lib.encodeRuneZ_one h0 (by omega)];rfl
theorem S8 {l:List UInt8} {r n:Nat} (h:E5 l=.ok r n):(Lib.encodeRune (r:Int)).length<=n:=by
 have b:=(Ms h).2.2.1;have d:=Se (r:Int);by_cases e:4<=n
 . omega
 have a:r<128\/6<=n:=by
  unfold E5 at h
  cases hu:Dd l with
  |some u=>
   rw[hu]at h;simp only[Fp]at h
   split at h
   . simp only[Rd.ok.injEq]at h;omega
   split at h
   . cases h
   cases hm:Dd (l.drop 6)with
   |none=>rw[hm]at h;cases h
   |some m=>
    rw[hm]at h;simp only at h
    split at h
    . cases h
    . simp only[Rd.ok.injEq]at h;omega
  |none=>
   rw[hu]at h;simp only[Qb]at h
   cases hc:l[1]? with
   |none=>rw[hc]at h;cases h
   |some c=>
    rw[hc]at h;simp only at h
    cases he:Fj c with
    |none=>rw[he]at h;cases h
    |some x=>
     rw[he]at h;simp only[Rd.ok.injEq]at h;have:x<=92:=by
      unfold Fj at he
      repeat' split at he
      all_goals first|(simp at he;omega)|cases he
     omega
 rcases a with a|a
 . have:=Aid (r:=(r:Int)) (by omega) (by omega);omega
 . omega
def N3 (rs:List Nat):List UInt8:=rs.flatMap fun(r:Nat)=>Lib.encodeRune (r:Int)
theorem Wx: ∀{rs:List Nat},(∀r ∈ rs,D0 r)->Lib.validD (N3 rs)=true
 | [],_=>rfl
 |r::rs,h=>by
  have e:N3 (r::rs)=Lib.encodeRune (r:Int)++N3 rs:=rfl;rw[e,Ad3 (h r (by simp))];exact Wx fun x a=>h x (by simp[a])
theorem N0 {l:List UInt8} (b:l≠ []) (h: ¬((Lib.decodeL l).1=65533/\(Lib.decodeL l).2=1)):D0 (Lib.decodeL l).1:=by
 have a:=Ow l;rw[K4 l b,if_neg h]at a;have:=Lib.decodeL_width l;unfold D0;simp only at a;omega
theorem Yq: ∀(f:Nat) (s:List UInt8) (i:Nat) (out a:List UInt8) (q:Nat),Fg f s i out=.ok a q->(∃rs,(∀r ∈ rs,D0 r)/\out=N3 rs)->(∃rs,(∀r ∈ rs,D0 r)/\a=N3 rs)/\a.length+i+1<=out.length+q
 |0,s,i,out,a,q,h,_=>by unfold Fg at h;cases h
 |f+1,s,i,out,a,q,h,ho=>by
  unfold Fg at h
  cases hc:s[i]? with
  |none=>rw[hc]at h;cases h
  |some c=>
   rw[hc]at h;have u:=B7 hc;have d:s.drop i≠ []:=by rw[Ep hc];simp
   simp only at h
   split at h
   . simp only[Rd.ok.injEq]at h;obtain⟨rfl,rfl⟩:=h;exact⟨ho,by omega⟩
   split at h
   . cases h
   obtain⟨rs,m,o⟩:=ho
   split at h
   . cases he:E5 (s.drop i)with
     |bad e x=>rw[he]at h;cases h
     |ok r n=>
      rw[he]at h;have g:=Ms he;have t:=S8 he;have j:D0 r:=⟨g.1,g.2.1⟩;obtain⟨k,l⟩:=Yq f s _ _ _ _ h ⟨rs++ [r],fun x b=>by
       rcases List.mem_append.1 b with b|b
       . exact m x b
       . simp only[List.mem_singleton]at b;rw[b];exact j,by simp[N3,o]⟩
      rw[List.length_append]at l;exact⟨k,by omega⟩
   split at h
   . cases h
   . rename_i p;have j:=N0 d p;obtain⟨k,l⟩:=Yq f s _ _ _ _ h ⟨rs++ [(Lib.decodeL (s.drop i)).1],fun x b=>by
      rcases List.mem_append.1 b with b|b
      . exact m x b
      . simp only[List.mem_singleton]at b;rw[b];exact j,by simp[N3,o,Lib.encode_decode _ d p]⟩
     rw[List.length_append,List.length_take]at l;exact⟨k,by omega⟩
theorem Mm {s:List UInt8} {p q:Nat} {a:List UInt8} (h:Cs s p=.ok a q):Lib.validD a=true/\a.length+p+2<=q:=by
 unfold Cs at h
 split at h
 . obtain⟨⟨rs,c,b⟩,d⟩:=Yq _ _ _ _ _ _ h ⟨[],fun r e=>(by cases e),rfl⟩;rw[b];refine⟨Wx c, ?_⟩;rw[<-b];simp only[List.length_nil]at d;omega
 . cases h
theorem Aai {s:List UInt8} {p q:Nat} {n:Int} (h:Cl s p=.ok n q): -9223372036854775808<=n/\n<=9223372036854775807:=by
 unfold Cl Lg Ec at h
 repeat' split at h
 all_goals first|(simp only[Rd.ok.injEq]at h;omega)|cases h
theorem Vq: ∀(a b:List Val),A5 (a++b)=A5 a+A5 b
 | [],b=>by simp[A5]
 |x::r,b=>by simp only[List.cons_append,A5,Vq r b];omega
theorem Aer: ∀{a b:List Val},Na a->Na b->Na (a++b)
 | [],_,_,h=>h
 |x::r,b,h,h'=>by
  simp only[List.cons_append,Na]at h ⊢;exact⟨h.1,Aer h.2 h'⟩
theorem Ady (l:List (ByteArray×Val)):Af (Gr l)<=Af l:=by
 unfold Gr
 cases h:Bg l []with
 |none=>simp[Af]
 |some o=>have:=L8 h;simp only[Af]at this;simp only[Option.getD_some];omega
theorem Aj5 {l:List (ByteArray×Val)} (a:I6 l):I6 (Gr l):=by
 unfold Gr
 cases h:Bg l []with
 |none=>simp[I6]
 |some o=>exact Wd h (by simp[I6]) a
theorem eb:Fi.size=0:=rfl
def Rd.sized (base p:Nat) (C:Nat):Rd Val->Prop
 | .ok v q=>v.bulk+base<=C+6*(q - p)/\p<q/\I9 v
 | .bad _ _=>True
theorem Wo: ∀(f:Nat),(∀s p d,p<=s.length->(Bb f s p d).sized 0 p 0)/\(∀s p d,p<s.length->(Hd f s p d).sized 0 p 0)/\(∀s p d,p<s.length->(Lh f s p d).sized 0 p 0)/\
 (∀s p d acc,p<=s.length->Na acc->(Dk f s p d acc).sized 0 p (6+A5 acc))/\(∀s p d acc,p<=s.length->I6 acc->(Bi f s p d acc).sized 0 p (6+Af acc))/\
 (∀s p d acc k,p<=s.length->I6 acc->(E9 f s p d acc k).sized 0 p (7+Af acc+k.size)):=by
 intro f
 induction f with
 |zero=>
  refine⟨fun s p d h=> ?_,fun s p d h=> ?_,fun s p d h=> ?_,fun s p d acc h _=> ?_,fun s p d acc h _=> ?_,fun s p d acc k h _=> ?_⟩
  . unfold Bb;trivial
  . unfold Hd;trivial
  . unfold Lh;trivial
  . unfold Dk;trivial
  . unfold Bi;trivial
  . unfold E9;trivial
 |succ f ih=>
  obtain⟨iv,N,O,H,I,M⟩:=ih;have z:=Ee f;have i: ∀{p F q:Nat} {r:Rd Val},p<=F->r.sized 0 F 0->r.sized 0 p 0:=by
   intro p F q r w b
   cases r with
   |ok v q=>exact⟨by have:=b.1;omega,by have:=b.2.1;omega,b.2.2⟩
   |bad e q=>trivial
  refine⟨fun s p d h=> ?_,fun s p d h=> ?_,fun s p d h=> ?_,fun s p d acc h u=> ?_,fun s p d acc h u=> ?_,fun s p d acc k h u=> ?_⟩
  . unfold Bb;have w:=Fb h;have l:=Bv s p
    cases j:s[Ak s p]? with
    |none=>trivial
    |some c=>
     have C:=B7 j;simp only
     split
     . trivial
     split
     . trivial
     split
     . exact i (q:=0) l (N s _ d C)
     split
     . exact i (q:=0) l (O s _ d C)
     split
     . cases x:Cs s (Ak s p)with
       |bad e q=>trivial
       |ok a q=>
        obtain⟨_,A⟩:=Mm x;refine⟨?_,by omega,by simp[Abk,I9,Na,I6]⟩;simp only[Abk,Val.bulk,A5,Af,M5];omega
     split
     . unfold Cp
       split
       . refine⟨?_,by simp only[List.length_cons,List.length_nil];omega,by simp[L7,I9,Na,I6]⟩;simp only[L7,Val.bulk,A5,Af,eb,List.length_cons,List.length_nil];omega
       . trivial
     split
     . unfold Cp
       split
       . refine⟨?_,by simp only[List.length_cons,List.length_nil];omega,by simp[G9,I9,Na,I6]⟩;simp only[G9,Val.bulk,A5,Af,eb,List.length_cons,List.length_nil];omega
       . trivial
     split
     . unfold Cp
       split
       . refine⟨?_,by simp only[List.length_cons,List.length_nil];omega,by simp[G9,I9,Na,I6]⟩;simp only[G9,Val.bulk,A5,Af,eb,List.length_cons,List.length_nil];omega
       . trivial
     . have g:=Lp C
       cases x:Cl s (Ak s p)with
       |bad e q=>trivial
       |ok n q=>
        have L:=Aai x;rw[x]at g;have:=g.1;refine⟨?_,by omega,by simp only[Oa,I9,Na,I6];exact⟨L,trivial,trivial⟩⟩;simp only[Oa,Val.bulk,A5,Af,eb];omega
  . unfold Hd;have w:=Fb (s:=s) (p:=p+1) h;have l:=Bv s (p+1)
    split
    . refine⟨?_,by omega,by simp[R3,I9,Na,I6]⟩;simp only[R3,Val.bulk,A5,Af,eb];omega
    . have:=H s _ d [] w (by simp[Na])
      cases b:Dk f s (Ak s (p+1)) d []with
      |bad e q=>trivial
      |ok v q=>
       rw[b]at this;obtain⟨t,A,B⟩:=this;simp only[A5]at t;exact⟨by omega,by omega,B⟩
  . unfold Lh;have w:=Fb (s:=s) (p:=p+1) h;have l:=Bv s (p+1)
    split
    . refine⟨?_,by omega,by simp[Oc,I9,Na,I6]⟩;simp only[Oc,Val.bulk,A5,Af,eb];omega
    . have:=I s _ d [] w (by simp[I6])
      cases b:Bi f s (Ak s (p+1)) d []with
      |bad e q=>trivial
      |ok v q=>
       rw[b]at this;obtain⟨t,A,B⟩:=this;simp only[Af]at t;exact⟨by omega,by omega,B⟩
  . unfold Dk;have y:=iv s p (d+1) h;have g:=z.1 s p (d+1) h
    cases b:Bb f s p (d+1)with
    |bad e q=>trivial
    |ok v q=>
     rw[b]at y g;obtain⟨t,A⟩:=g;obtain⟨P,_,E⟩:=y;have l:=Bv s q;have J:A5 (acc++ [v])=A5 acc+v.bulk:=by rw[Vq];simp[A5]
     have o:Na (acc++ [v]):=Aer u ⟨E,trivial⟩;simp only
     split
     . rename_i j;have:=H s _ d _ (B7 j) o
       cases hr2:Dk f s (Ak s q+1) d (acc++ [v])with
       |bad e q=>trivial
       |ok v' q'=>
        rw[hr2]at this;obtain⟨a1,G,m⟩:=this;exact⟨by omega,by omega,m⟩
     split
     . refine⟨?_,by omega, ?_⟩
       . simp only[R3,Val.bulk,Af,eb];omega
       . simp only[R3,I9,I6];exact⟨by omega,o,trivial⟩
     . trivial
  . unfold Bi;have D:=Fb h;have K:=Bv s p;have g:=Eu D
    cases b:Cs s (Ak s p)with
    |bad e q=>trivial
    |ok k q=>
     rw[b]at g;have x:=(Mm b).2;have l:=Bv s q;simp only
     split
     . trivial
     split
     . rename_i j;have:=M s _ d acc ⟨k.toArray⟩ (B7 j) u
       cases hr2:E9 f s (Ak s q+1) d acc ⟨k.toArray⟩with
       |bad e q=>trivial
       |ok v' q'=>
        rw[hr2]at this;obtain⟨a1,G,m⟩:=this;rw[M5]at a1;exact⟨by omega,by omega,m⟩
     . trivial
  . unfold E9;have y:=iv s p (d+1) h;have g:=z.1 s p (d+1) h
    cases b:Bb f s p (d+1)with
    |bad e q=>trivial
    |ok v q=>
     rw[b]at y g;obtain⟨t,A⟩:=g;obtain⟨P,_,E⟩:=y;have l:=Bv s q;have J:Af (acc++ [(k,v)])=Af acc+(1+k.size+v.bulk):=by rw[Gn];simp[Af,E7]
     have o:I6 (acc++ [(k,v)]):=Sg u ⟨E,trivial⟩;simp only
     split
     . rename_i j;have:=I s _ d _ (B7 j) o
       cases hr2:Bi f s (Ak s q+1) d (acc++ [(k,v)])with
       |bad e q=>trivial
       |ok v' q'=>
        rw[hr2]at this;obtain⟨a1,G,m⟩:=this;exact⟨by omega,by omega,m⟩
     split
     . have Q:=Ady (acc++ [(k,v)]);refine⟨?_,by omega, ?_⟩
       . simp only[Oc,Val.bulk,A5,eb];omega
       . simp only[Oc,I9,Na];exact⟨by omega,trivial,Aj5 o⟩
     . trivial
theorem le_of_lt {a b:ByteArray} (h:Er b a=true):leB a b=false:=by
 unfold leB;have c:=Tm h;unfold Er at c;rw[c,Bool.false_or]
 cases e:(a.toList==b.toList)with
 |false=>rfl
 |true=>
  have:a=b:=toList_inj (by simpa using e);subst this;rw[Ds]at h;cases h
theorem Z7: ∀{l:List (ByteArray×Val)} {last:Option ByteArray} {d:Int},Dg l->(∀m ∈ l,A6 m.1=true/\A0 m.2 d=0)->(∀q,last=some q-> ∀m ∈ l,Er q m.1=true)->Di l last d=0
 | [],_,_,_,_,_=>by simp[Di]
 |(k,v)::r,last,d,ha,hm,hq=>by
  obtain⟨e,f⟩:=List.pairwise_cons.1 ha;obtain⟨h,c⟩:=hm (k,v) (by simp);have g:Ob (k,v) last d=0:=by
   simp only[Ob];rw[if_pos h]
   cases last with
   |none=>exact c
   |some q=>
    have:=le_of_lt (hq q rfl (k,v) (by simp));simp only at this ⊢;rw[this,if_neg (by decide)];exact c
  simp only[Di];rw[if_pos g];refine Z7 f (fun m a=>hm m (by simp[a])) (fun q b m a=> ?_);obtain rfl:=Option.some.inj b;exact e m a
theorem Aex: ∀{l:List Val} {d:Int},(∀v ∈ l,A0 v d=0)->Dn l d=0
 | [],_,_=>by simp[Dn]
 |v::r,d,h=>by
  simp only[Dn];rw[if_pos (h v (by simp))];exact Aex fun x a=>h x (by simp[a])
theorem Tc {k:ByteArray} {l:List (ByteArray×Val)}:Gf k l=true ↔ k ∈ l.map (·.1):=by
 unfold Gf;simp[List.any_eq_true]
theorem Og {l:List (ByteArray×Val)} (h:(l.map (·.1)).Nodup):Bg l []=some (Gr l)/\Dg (Gr l)/\(Gr l).Perm l:=by
 unfold Gr
 cases e:Bg l []with
 |none=>exact absurd (by rw[List.append_nil];exact h) (L9 e)
 |some o=>
  obtain⟨b,a⟩:=Kd e List.Pairwise.nil;rw[List.append_nil]at a;exact⟨rfl,b,a⟩
theorem Ac5 {l:List (ByteArray×Val)} {k:ByteArray} {v:Val} (h:(l.map (·.1)).Nodup) (d:Gf k l=false):((l++ [(k,v)]).map (·.1)).Nodup:=by
 rw[List.map_append,List.nodup_append];refine⟨h,by simp,fun a f b c=> ?_⟩;simp only[List.map_cons,List.map_nil,List.mem_singleton]at c;subst c;intro e;subst e;rw[Tc.2 f]at d;cases d
theorem Ai6 {d:Int} (h:d<=64):A0 L7 d=0:=by
 simp only[L7,A0,List.length_nil];rw[if_neg (by decide+kernel),if_neg (by omega),if_pos (by decide+kernel)];simp[Dn,Di]
theorem Aaa (b:Bool) {d:Int} (h:d<=64):A0 (G9 b) d=0:=by
 simp only[G9,A0,List.length_nil];rw[if_neg (by cases b<;>decide+kernel),if_neg (by omega),if_pos (by decide+kernel)];simp[Dn,Di]
theorem Ak4 (n:Int) {d:Int} (h:d<=64):A0 (Oa n) d=0:=by
 simp only[Oa,A0,List.length_nil];rw[if_neg (by simp[Fo,Fi]),if_neg (by omega),if_pos (by decide+kernel)];simp[Dn,Di]
theorem Ak5 {a:List UInt8} (b:Lib.validD a=true) {d:Int} (h:d<=64):A0 (Abk a) d=0:=by
 simp only[Abk,A0,List.length_nil];rw[if_neg (by simp[Fo]),if_neg (by omega),if_pos (by exact b)];simp[Dn,Di]
theorem Aey {l:List Val} {d:Int} (h:d<=64) (a: ∀v ∈ l,A0 v (d+1)=0):A0 (R3 l) d=0:=by
 simp only[R3,A0,List.length_nil];rw[if_neg (by simp[Fo,Fi]),if_neg (by omega),if_pos (by decide+kernel),if_pos (Aex a)];simp[Di]
theorem Aac {o:List (ByteArray×Val)} {d:Int} (h:d<=64) (a:Dg o) (b: ∀m ∈ o,A6 m.1=true/\A0 m.2 (d+1)=0):A0 (Oc o) d=0:=by
 simp only[Oc,A0,List.length_nil];rw[if_neg (by simp[Fo,Fi]),if_neg (by omega),if_pos (by decide+kernel),if_pos (by simp[Dn])];exact Z7 a b (fun q c=>by cases c)
def Rd.mayIt (d:Int):Rd Val->Prop
 | .ok v _=>A0 v d=0
 | .bad _ _=>True
theorem Ak3: ∀(f:Nat),(∀s p d,(Bb f s p d).mayIt d)/\(∀s p d,d<=64->(Hd f s p d).mayIt d)/\(∀s p d,d<=64->(Lh f s p d).mayIt d)/\
 (∀s p d acc,d<=64->(∀v ∈ acc,A0 v (d+1)=0)->(Dk f s p d acc).mayIt d)/\
 (∀s p d acc,d<=64->(∀m ∈ acc,A6 m.1=true/\A0 m.2 (d+1)=0)->(acc.map (·.1)).Nodup->(Bi f s p d acc).mayIt d)/\
 (∀s p d acc k,d<=64->(∀m ∈ acc,A6 m.1=true/\A0 m.2 (d+1)=0)->(acc.map (·.1)).Nodup->Gf k acc=false->A6 k=true->(E9 f s p d acc k).mayIt d):=by
 intro f
 induction f with
 |zero=>
  refine⟨fun s p d=> ?_,fun s p d _=> ?_,fun s p d _=> ?_,fun s p d acc _ _=> ?_,fun s p d acc _ _ _=> ?_,fun s p d acc k _ _ _ _ _=> ?_⟩
  . unfold Bb;trivial
  . unfold Hd;trivial
  . unfold Lh;trivial
  . unfold Dk;trivial
  . unfold Bi;trivial
  . unfold E9;trivial
 |succ f ih=>
  obtain⟨iv,A,B,w,y,z⟩:=ih;refine⟨fun s p d=> ?_,fun s p d h=> ?_,fun s p d h=> ?_,fun s p d acc h l=> ?_,fun s p d acc h l t=> ?_,fun s p d acc k h l t r i=> ?_⟩
  . unfold Bb
    cases hc:s[Ak s p]? with
    |none=>trivial
    |some c=>
     simp only
     split
     . trivial
     split
     . trivial
     rename_i E;have b:d<=64:=by omega
     split
     . exact A s _ d b
     split
     . exact B s _ d b
     split
     . cases hu:Cs s (Ak s p)with
       |bad e q=>trivial
       |ok a q=>exact Ak5 (Mm hu).1 b
     split
     . unfold Cp
       split
       . exact Ai6 b
       . trivial
     split
     . unfold Cp
       split
       . exact Aaa true b
       . trivial
     split
     . unfold Cp
       split
       . exact Aaa false b
       . trivial
     . cases hu:Cl s (Ak s p)with
       |bad e q=>trivial
       |ok n q=>exact Ak4 n b
  . unfold Hd
    split
    . exact Aey h (fun v i=>by cases i)
    . exact w s _ d [] h (fun v i=>by cases i)
  . unfold Lh
    split
    . exact Aac h List.Pairwise.nil (fun v i=>by cases i)
    . exact y s _ d [] h (fun v i=>by cases i) (by simp)
  . unfold Dk;have i:=iv s p (d+1)
    cases hr:Bb f s p (d+1)with
    |bad e q=>trivial
    |ok v q=>
     rw[hr]at i;have j: ∀x ∈ acc++ [v],A0 x (d+1)=0:=by
      intro x g;rcases List.mem_append.1 g with g|g
      . exact l x g
      . simp only[List.mem_singleton]at g;rw[g];exact i
     simp only
     split
     . exact w s _ d _ h j
     split
     . exact Aey h j
     . trivial
  . unfold Bi
    cases hr:Cs s (Ak s p)with
    |bad e q=>trivial
    |ok k q=>
     simp only
     split
     . trivial
     rename_i r
     split
     . exact z s _ d acc ⟨k.toArray⟩ h l t (by simpa using r) (Mm hr).1
     . trivial
  . unfold E9;have o:=iv s p (d+1)
    cases hr:Bb f s p (d+1)with
    |bad e q=>trivial
    |ok v q=>
     rw[hr]at o;have j: ∀x ∈ acc++ [(k,v)],A6 x.1=true/\A0 x.2 (d+1)=0:=by
      intro x g;rcases List.mem_append.1 g with g|g
      . exact l x g
      . simp only[List.mem_singleton]at g;rw[g];exact⟨i,o⟩
     have u:=Ac5 (v:=v) t r;simp only
     split
     . exact y s _ d _ h j u
     split
     . obtain⟨_,C,D⟩:=Og u;exact Aac h C (fun m o=>j m (D.mem_iff.1 o))
     . trivial
theorem Aha {f:Nat} {s:List UInt8} {p q:Nat} {d:Int} {v:Val} (h:Bb f s p d=.ok v q):A0 v d=0:=by
 have:=(Ak3 f).1 s p d;rw[h]at this;exact this
theorem M3 {s:List UInt8} {v:Val} {q:Nat} (h:Eh s=.ok v q):A0 v 1=0/\q=s.length/\v.bulk<=6*s.length/\I9 v:=by
 unfold Eh at h
 cases hr:Bb (4*s.length+4) s 0 1 with
 |bad e q=>rw[hr]at h;cases h
 |ok v' q'=>
  rw[hr]at h;simp only at h;have b:=(Ee (4*s.length+4)).1 s 0 1 (Nat.zero_le _);have a:=(Wo (4*s.length+4)).1 s 0 1 (Nat.zero_le _);rw[hr]at b a;have c:=Fb b.2
  split at h
  . cases h
  . simp only[Rd.ok.injEq]at h;obtain⟨rfl,rfl⟩:=h;have d:=a.1;have f:=b.2;exact⟨Aha hr,by omega,by omega,a.2.2⟩
abbrev Mx:Type:=ByteArray×(Val×((Option Addr×Nat)×(Option Addr×Nat)))
instance:Inhabited Val:=⟨.mk 0 false 0 ⟨#[]⟩ [] []⟩
def G0:Mx->List Value
 |(key,(.mk k b n t l o,((la,lc),(oa,oc))))=> [.string key,.int .i64 k,.bool b,.int .i64 n,.string t,.slice la l.length lc,.slice oa o.length oc]
def Nb (x:Mx):ByteArray×Val:=(x.1,x.2.1)
theorem O3 (x:Mx):(G0 x).length=7:=by
 obtain⟨key,⟨k,b,n,t,l,o⟩,⟨a,c⟩,d,oc⟩:=x;rfl
theorem Aic (x:Mx): ∀v ∈ G0 x,v.oneCell'=true:=by
 obtain⟨key,⟨k,b,n,t,l,o⟩,⟨c,d⟩,e,oc⟩:=x;intro v a;simp only[G0,List.mem_cons,List.not_mem_nil,or_false]at a;rcases a with rfl|rfl|rfl|rfl|rfl|rfl|rfl<;>rfl
theorem S7 (x:Mx):(G0 x)[0]! =.string x.1:=by
 obtain⟨key,⟨k,b,n,t,l,o⟩,⟨a,c⟩,d,oc⟩:=x;rfl
def ltM (x y:Mx):Bool:=Er x.1 y.1
theorem Aoe:Go.Sort.SWO ltM where
 irrefl x:=Ds _
 trans x y z h k:=Dq h k
 ntrans x y z h k:=by
  unfold ltM at*
  cases e:Er x.1 z.1 with
  |false=>rfl
  |true=>
   rcases Kb x.1 y.1 with p|p|p
   . rw[h]at p;cases p
   . rw[p]at e;rw[k]at e;cases e
   . have:=Dq p e;rw[k]at this;cases this
theorem Anl (blk a c d size:Nat) (W:World) (G:Nat->ByteArray) (l:W.cell? ⟨d,0,none⟩=some (.slice (some ⟨blk,a,none⟩) size c))
 (b: ∀t,t<size->W.cell? ⟨blk,a+t*7,none⟩=some (.string (G t))) (i j:Nat) (f:i<size) (g:j<size) (_hsz:size<4611686018427387904):
 Calls Tryz.prog 99 #[.int .i64 i,.int .i64 j,.pointer (some ⟨d,0,none⟩)] W fun e w'=>e=.returned (.bool (Er (G i) (G j)))/\ ∃q,w'=W.drewN q:=by
 have h:=b i f;have k:=b j g;clear b;have m:(i:Int)<(size:Int):=by omega
 have n:(j:Int)<(size:Int):=by omega
 go_enter Tryz.func99,Tryz.ntmps99;go_wp2;go_quiet (fail);go_wp2;go_ret;exact⟨rfl,nq,rfl⟩
noncomputable def Aly:TypeInfo:=(Tryz.prog.info? 40).get (by kernel_rfl)
noncomputable def Wq:TypeInfo:=(Tryz.prog.info? 111).get (by kernel_rfl)
theorem Ant (n:Nat) (e:2<=n):Lib.swapperK n Wq 25=9:=by
 have a:Wq.hasPointers=true:=by kernel_rfl
 have b:Wq.bytes=104:=by kernel_rfl
 have c:(n==0)=false:=by simp;omega
 have d:(n==1)=false:=by simp;omega
 simp[Lib.swapperK,a,b,c,d]
def Ahm (w:World) (blk:Nat) (d:Array Mx) (e:Ending) (w':World):Prop:=e=.returned (.tuple #[])/\ ∃d':Array Mx,d'.size=d.size/\d'.toList.Perm d.toList/\Go.Sort.SortedIn ltM 0 d.size d'/\
 (∀i,i<d.size-> ∀j,j<7->w'.cell? ⟨blk,i*7+j,none⟩=some (G0 d'[i]!)[j]!)/\(∀b,b<w.heap.size->b≠blk->w'.heap[b]? =w.heap[b]?)/\w.heap.size<=w'.heap.size/\w'.os=w.os/\w'.tape=w.tape/\w'.output=w.output
theorem Adx (blk c l:Nat) (d:Array Mx) (C:2<=d.size) (B:d.size<4611686018427387904) (w:World) (s:Go.Sort.HoldsK G0 7 w blk 0 d) (f:blk<w.heap.size)
 (r:w.cell? ⟨l,0,none⟩=some (.slice (some ⟨blk,0,none⟩) d.size c)) (p:l<w.heap.size) (q:l≠blk):
 Calls Tryz.prog 98 #[.iface 40 (.slice (some ⟨blk,0,none⟩) d.size c),.func (.func 99) #[] #[.pointer (some ⟨l,0,none⟩)]] w (Ahm w blk d):=by
 have h:LessReadsK Tryz.prog 99 #[.pointer (some ⟨l,0,none⟩)] G0 7 ltM blk 0 d.size w:=by
  intro m os o J i j E x;have e:sortWorldK G0 7 w blk 0 m o os=Go.Sort.putRowK G0 7 (Go.Sort.grow (Go.Sort.ahead w m) os) blk 0 o:=by
   unfold sortWorldK;rw[Go.Sort.putRowK_grow _ _ (Go.Sort.ahead w m) _ blk 0 _ f]
  have v:Go.Sort.HoldsK G0 7 (Go.Sort.grow (Go.Sort.ahead w m) os) blk 0 d:=Go.Sort.holdsK_grow _ _ _ _ blk 0 d f (Go.Sort.holdsK_ahead _ _ _ _ _ _ _ s);refine Anl blk 0 c l d.size _ (fun t=>o[t]!.1) ?_ (fun t K=> ?_) i j E x (by omega)
  . rw[e,Go.Sort.cell?_putRowK_other _ _ _ blk 0 o _ (by exact q),Go.Sort.cell?_grow _ _ _ (by exact p)];exact r
  . rw[e,<-S7];exact((Go.Sort.holdsK_putRowK _ _ _ blk 0 d o v J).cell (i:=t) (c:=0) (by omega) (by omega)).1
 have D:=Any.sort_Slice_cells_sorted Tryz.sortSlice_lays 40 111 Aly Wq (by kernel_rfl) (by kernel_rfl) (by kernel_rfl) (by kernel_rfl) 25 (fun _=>by kernel_rfl) G0 7 O3 (by kernel_rfl) (fun _=>by kernel_rfl)
  Aic ltM Aoe 99 _
  (enters_of Tryz.func99 (by kernel_rfl) rfl) blk 0 c d C B 250 (by rw[Ant _ C];kernel_rfl) false
  (fun args W=>run_callFunc_extern Tryz.func250 (by kernel_rfl) (by kernel_rfl) (by kernel_rfl) (e:=Extern.ReflectliteSwapper.swap false) (by kernel_rfl) args W) w h s f
 change Calls Tryz.prog 98 _ _ _ at D;refine D.mono ?_;rintro e w' ⟨rfl,g,n,os,⟨k,_,I⟩,A,rfl⟩;have z:g.toList.Perm d.toList:=by
  have F:g.extract 0 d.size=g:=by rw[<-k];simp
  have G:d.extract 0 d.size=d:=by simp
  rwa [F,G]at I
 have u:Go.Sort.HoldsK G0 7 (Go.Sort.putRowK G0 7 (Go.Sort.ahead w n) blk 0 g) blk 0 g:=Go.Sort.holdsK_putRowK _ _ _ blk 0 d g (Go.Sort.holdsK_ahead _ _ _ _ _ _ _ s) k;have a:(Go.Sort.putRowK G0 7 (Go.Sort.ahead w n) blk 0 g).heap.size=w.heap.size:=by
  simp[Go.Sort.putRowK,Go.Sort.putRow,Go.Sort.mapBlock,Go.Sort.ahead]
 refine⟨rfl,g,k,z,A,fun i E j x=> ?_,fun b H y=> ?_,by rw[Go.Sort.size_grow,a];omega,rfl,rfl,rfl⟩
 . rw[Go.Sort.cell?_grow _ _ _ (by show blk<_;rw[a];exact f)];have:=(u.cell (i:=i) (c:=j) (by omega) x).1
   rwa [Nat.zero_add]at this
 . show((Go.Sort.putRowK G0 7 (Go.Sort.ahead w n) blk 0 g).heap++os)[b]? =_;rw[Array.getElem?_append_left (by rw[a];exact H)];simp only[Go.Sort.putRowK,Go.Sort.putRow,Go.Sort.mapBlock,Go.Sort.ahead,Array.getElem?_modify];rw[if_neg (fun e=>y e.symm)]
theorem Ag1 (p:Option Addr) (n c a:Nat) (d:n<=1) (w:World):
 Calls Tryz.prog 98 #[.iface 40 (.slice p n c),.func (.func 99) #[] #[.pointer (some ⟨a,0,none⟩)]] w fun e w'=>e=.returned (.tuple #[])/\Below w.heap.size w w':=by
 have key: ∀f,Tryz.prog.funcs.findIdx? (·.name== "internal/reflectlite" ++ ".Swapper$" ++toString (Lib.swapperK n Wq 25))=some f->
  Calls Tryz.prog 98 #[.iface 40 (.slice p n c),.func (.func 99) #[] #[.pointer (some ⟨a,0,none⟩)]] w fun e w'=>e=.returned (.tuple #[])/\Below w.heap.size w w':=by
  intro f g;have b:=Any.sort_Slice_tiny Tryz.sortSlice_lays 40 111 Aly Wq (by kernel_rfl) (by kernel_rfl) (by kernel_rfl) (by kernel_rfl) 25 (fun _=>by kernel_rfl) p n c d f g (.func 99) #[] #[.pointer (some ⟨a,0,none⟩)] w;change Calls Tryz.prog 98 _ _ _ at b;refine b.mono ?_;rintro e w' ⟨rfl,os,rfl⟩;refine⟨rfl,⟨rfl,rfl,rfl,by rw[Go.Sort.size_grow];omega,fun i h=> ?_⟩⟩;show(w.heap++os)[i]? =_;exact Array.getElem?_append_left h
 rcases Nat.eq_zero_or_pos n with rfl|h0
 . exact key 242 (by kernel_rfl)
 . obtain rfl:n=1:=by omega
   exact key 243 (by kernel_rfl)
abbrev Lx:TypeId:=153
theorem Dt:MKey Tryz.prog 5 (Value.int .u8):=Aja Tryz.underlying5
section
variable {α:Type} [DecidableEq α] {f:α->Value} {P:Program} {kt et t:TypeId} {w w':World} {g:Nat} {kv:List (α×Value)}
theorem Bm {a k:α} {v:Value} {r:List (α×Value)} (h:a≠k) (b:Dw a r=none):Dw a ((k,v)::r)=none:=by
 simp only[Dw,if_neg h];exact b
end
structure NR (s:ByteArray) (w wr:World) (m:Option Nat) (kv:List (Int×Value)):Prop where
 below:Below w.heap.size w wr
 map:Co (Value.int .u8) wr (w.heap.size+1) kv
 blk:Ap wr w.heap.size 155 #[.string s,.int .i64 0,.map m]
theorem NR.ins {s:ByteArray} {w wr w':World} {m:Option Nat} {d a:List (Int×Value)} (h:NR s w wr m d) (c:Co (Value.int .u8) w' (w.heap.size+1) a) (b:wr.grownBy w' (some (w.heap.size+1))):NR s w w' m a:=
 ⟨h.below.grown b h.below.size fun k e=>by have:=Option.some.inj e;omega,c,h.blk.grown b (by intro e;have:=Option.some.inj e;omega)⟩
theorem NR.set {s:ByteArray} {w wr:World} {m:Option Nat} {a:List (Int×Value)} (h:NR s w wr m a):NR s w (wr.setCell ⟨w.heap.size,2,none⟩ (.map (some (w.heap.size+1)))) (some (w.heap.size+1)) a:=
 ⟨h.below.setCell (Nat.le_refl _) _,h.map.setCell (by show w.heap.size+1≠w.heap.size;omega) _,by have:=h.blk.set_ 2 (.map (some (w.heap.size+1)));exact this⟩
theorem Ake (R:Nat): ∀j:Nat,j<10->Dw (48+(j:Int)) ((KV R).take (7+j))=none/\(KV R).take (7+j)++ [(48+(j:Int),Value.func (.func 140) #[.pointer (some ⟨R,0,none⟩)] #[])]=(KV R).take (7+(j+1)):=by
 intro j a
 match j,a with
 |0,_|1,_|2,_|3,_|4,_|5,_|6,_|7,_|8,_|9,_=>exact⟨by simp[KV,Dw],rfl⟩
theorem R4 (s:ByteArray) (w:World):Calls Tryz.prog 80 #[.string s] w fun e w'=>e=.returned (.pointer (some ⟨w.heap.size,0,none⟩))/\NR s w w' (some (w.heap.size+1)) (KV w.heap.size):=by
 have E:=fun W=>run_makeMap (P:=Tryz.prog) Lx W;have v:NR s w ((w.alloc (.cells #[.string s,.int .i64 0,.map none] 155)).alloc (.map #[] 0)) none []:=by
  have:=Co.new (f:=Value.int .u8) (w.alloc (.cells #[.string s,.int .i64 0,.map none] 155));rw[World.size_alloc]at this;exact⟨((Below.refl _ _).alloc (Nat.le_refl _) _).alloc (by simp) _,this,(Ap.new _ _ _).alloc _⟩
 have q:=qz v;clear v;go_enter Tryz.func80,Tryz.ntmps80;go_upto_region 2 with(fail);go_upto_region 3 with(first
  |(((with_reducible refine Ce rfl (.tmp 9) _ _ Lx rfl Dt Tryz.underlying153 rfl q.out.map (k:=110) rfl rfl rfl ?_));intro w1 a b o;have d:=qz (q.out.ins a b);(have t:=d.out.blk.cell 2);(have r:=d.out.blk.frozen 2);(have c:=d.out.blk.lt);clear a b o q)
  |(((with_reducible refine Ce rfl (.tmp 9) _ _ Lx rfl Dt Tryz.underlying153 rfl d.out.map (k:=102) rfl rfl (Bm (by decide) rfl) ?_));intro H a b o;have g:=qz (d.out.ins a b);(have t:=g.out.blk.cell 2);(have r:=g.out.blk.frozen 2);(have c:=g.out.blk.lt);clear a b o d)
  |(((with_reducible refine Ce rfl (.tmp 9) _ _ Lx rfl Dt Tryz.underlying153 rfl g.out.map (k:=116) rfl rfl (Bm (by decide) (Bm (by decide) rfl)) ?_));intro I a b o;have h:=qz (g.out.ins a b);(have t:=h.out.blk.cell 2);(have r:=h.out.blk.frozen 2);(have c:=h.out.blk.lt);clear a b o g)
  |(((with_reducible refine Ce rfl (.tmp 9) _ _ Lx rfl Dt Tryz.underlying153 rfl h.out.map (k:=34) rfl rfl (Bm (by decide) (Bm (by decide) (Bm (by decide) rfl))) ?_));intro w4 a b o;have l:=qz (h.out.ins a b);(have t:=l.out.blk.cell 2);(have r:=l.out.blk.frozen 2);(have c:=l.out.blk.lt);clear a b o h)
  |(((with_reducible refine Ce rfl (.tmp 9) _ _ Lx rfl Dt Tryz.underlying153 rfl l.out.map (k:=91) rfl rfl (Bm (by decide) (Bm (by decide) (Bm (by decide) (Bm (by decide) rfl)))) ?_));intro J a b o;have m:=qz (l.out.ins a b);(have t:=m.out.blk.cell 2);(have r:=m.out.blk.frozen 2);(have c:=m.out.blk.lt);clear a b o l)
  |(((with_reducible refine Ce rfl (.tmp 9) _ _ Lx rfl Dt Tryz.underlying153 rfl m.out.map (k:=123) rfl rfl (Bm (by decide) (Bm (by decide) (Bm (by decide) (Bm (by decide) (Bm (by decide) rfl))))) ?_));intro w6 a b o;have n:=qz (m.out.ins a b);(have t:=n.out.blk.cell 2);(have r:=n.out.blk.frozen 2);(have c:=n.out.blk.lt);clear a b o m)
  |(((with_reducible refine Ce rfl (.tmp 9) _ _ Lx rfl Dt Tryz.underlying153 rfl n.out.map (k:=45) rfl rfl (Bm (by decide) (Bm (by decide) (Bm (by decide) (Bm (by decide) (Bm (by decide) (Bm (by decide) rfl)))))) ?_));intro C a b o;have p:=qz (n.out.ins a b);(have t:=p.out.blk.cell 2);(have r:=p.out.blk.frozen 2);(have c:=p.out.blk.lt);clear a b o n))
 have h0:NR s w (C.setCell ⟨w.heap.size,2,none⟩ (.map (some (w.heap.size+1)))) (some (w.heap.size+1)) ((KV w.heap.size).take (7+0)):=p.out.set;generalize C.setCell ⟨w.heap.size,2,none⟩ (.map (some (w.heap.size+1)))=w8 at h0 ⊢;clear t r c p;have y:=qz h0;clear h0;go_wp2;go_loopw [4] (fun i wr=> ∃j:Nat,i=.int .u8 (48+(j:Int))/\j<=10/\Hid (NR s w wr (some (w.heap.size+1)) ((KV w.heap.size).take (7+j)))) (fun i _=>58 - (intOf i).toNat)
 case atStart=>exact⟨0,rfl,by omega,y⟩
 case round=>
  obtain⟨j,rfl,F,u⟩:=hrel;clear y;have c2:=u.out.blk.cell 2;have c:=u.out.blk.lt;by_cases x:j<10
  . obtain⟨A,z⟩:=Ake w.heap.size j x;have G:decide ((48:Int)+(j:Int)<=57)=true:=decide_eq_true (by omega);obtain⟨K,B,a,b,_⟩:=Mg Dt Tryz.underlying153 u.out.map A (Value.func (.func 140) #[.pointer (some ⟨w.heap.size,0,none⟩)] #[]);rw[z]at a;have D:=qz (u.out.ins a b);clear a b u A z;go_wp2;go_roundw
    case rel=>exact⟨j+1,by go_num,by omega,D⟩
    case measure=>simp[intOf];omega
  . obtain rfl:j=10:=by omega
    go_wp2;go_ret;exact⟨rfl,u.out⟩
end Go.Proofs.YtjgfchcldhmjcaaGreatDoor
