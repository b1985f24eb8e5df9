/- Parts: Nodes that hang on certain blocks alone. Plain. No condition. -/
import Derived.Test.YtkmcjfkokoidcaaGreatDoorKFa8
import Derived.Test.YtkmcjfkokoidcaaGreatDoorKFa11
import Derived.Test.YtkmcjfkokoidcaaGreatDoorKFa12
import Derived.Test.YtkmcjfkokoidcaaGreatDoorKFa13
set_option maxHeartbeats 20000000
namespace Go.Proofs.YtkmcjfkokoidcaaGreatDoor
open Go Go.RowKit
abbrev Vh:TypeId:=176
def dPt (b:Nat):D:=.leaf (.pointer (some ⟨b,0,none⟩))
def Bb (l:List Nat):List D:=l.map dPt
theorem O4 (l:List Nat): ∀d ∈ Bb l,d.cells=1:=by
 intro d hd;obtain⟨b,_,rfl⟩:=List.mem_map.1 hd;rfl
theorem A8 (l:List Nat):(Bb l).length=l.length:=List.length_map ..
def Ex (n:Nd):ByteArray:=((Bi n).getLast?.map (·.1)).getD ByteArray.empty
mutual
def Cd (w:World) (B:Nat):Nd->Nat->Prop
 | .leaf es,b=>b<B/\ ∃a c,Ag w B (.row 7 (dO es)) [.slice a es.length c]/\
    Aj w b Vh #[.slice a es.length c,.slice none 0 0,.int .i64 0,.int .i64 es.length,.string (A7 (.leaf es)),.string (Ex (.leaf es)),.bool false]
 | .inner ks,b=>b<B/\ ∃bs a c,Ag w B (.row 1 (Bb bs)) [.slice a ks.length c]/\
    Aj w b Vh #[.slice none 0 0,.slice a ks.length c,.int .i64 (Ms (.inner ks)),.int .i64 (Bg ks).length,.string (A7 (.inner ks)),.string (Ex (.inner ks)),.bool false]/\A6 w B ks bs
def A6 (w:World) (B:Nat):List Nd->List Nat->Prop
 | [],bs=>bs= []
 |k::r,bs=> ∃b t,bs=b::t/\Cd w B k b/\A6 w B r t
end
theorem A6.imp {w w':World} {B B':Nat}: ∀{ks:List Nd},(∀k ∈ ks,∀b,Cd w B k b->Cd w' B' k b)-> ∀{bs},A6 w B ks bs->A6 w' B' ks bs
 | [],_,_,h=>h
 |k::r,ih,bs,h=>by
  simp only[A6]at h ⊢;obtain⟨b,t,e,h1,h2⟩:=h;exact⟨b,t,e,ih k (by simp) b h1,A6.imp (fun x hx=>ih x (by simp[hx])) h2⟩
theorem Cd.imp {w w':World} {B B':Nat} (hB:B<=B') (hk: ∀i,i<B->w'.heap[i]? =w.heap[i]?): ∀{n:Nd} {b:Nat},Cd w B n b->Cd w' B' n b:=by
 intro n;refine Nd.ind (p:=fun n=> ∀{b:Nat},Cd w B n b->Cd w' B' n b) ?_ ?_ n
 . intro es b h;simp only[Cd]at h ⊢;obtain⟨h0,a,c,h1,h2⟩:=h;exact⟨by omega,a,c,h1.imp hB fun p hp=>World.cell?_of_block (hk p.block hp),(hk b h0).trans h2⟩
 . intro ks ih b h;simp only[Cd]at h ⊢;obtain⟨h0,bs,a,c,h1,h2,h3⟩:=h;exact⟨by omega,bs,a,c,h1.imp hB fun p hp=>World.cell?_of_block (hk p.block hp),(hk b h0).trans h2,A6.imp (fun k hk' _ hb=>ih k hk' hb) h3⟩
theorem Cd.below {w w':World} {B:Nat} {n:Nd} {b:Nat} (h:Cd w B n b) (hb:Below B w w'):Cd w' B n b:=h.imp (Nat.le_refl _) fun i hi=>hb.block i hi
theorem Cd.more {w:World} {B B':Nat} {n:Nd} {b:Nat} (h:Cd w B n b) (hB:B<=B'):Cd w B' n b:=h.imp hB fun _ _=>rfl
theorem Cd.later {w w':World} {n:Nd} {b:Nat} (h:Cd w w.heap.size n b) (hb:Below w.heap.size w w'):Cd w' w'.heap.size n b:=(h.below hb).more hb.size
theorem A6.below {w w':World} {B:Nat} {ks:List Nd} {bs:List Nat} (h:A6 w B ks bs) (hb:Below B w w'):A6 w' B ks bs:=A6.imp (fun _ _ _ h=>h.below hb) h
theorem A6.more {w:World} {B B':Nat} {ks:List Nd} {bs:List Nat} (h:A6 w B ks bs) (hB:B<=B'):A6 w B' ks bs:=A6.imp (fun _ _ _ h=>h.more hB) h
theorem A6.later {w w':World} {ks:List Nd} {bs:List Nat} (h:A6 w w.heap.size ks bs) (hb:Below w.heap.size w w'):A6 w' w'.heap.size ks bs:=(h.below hb).more hb.size
theorem Cd.lt {w:World} {B:Nat} {n:Nd} {b:Nat} (h:Cd w B n b):b<B:=by
 cases n<;>(simp only[Cd]at h;exact h.1)
theorem A6.len {w:World} {B:Nat}: ∀{ks:List Nd} {bs:List Nat},A6 w B ks bs->bs.length=ks.length
 | [],bs,h=>by
   simp only[A6]at h;rw[h];rfl
 |k::r,bs,h=>by
  simp only[A6]at h;obtain⟨b,t,rfl,_,h2⟩:=h;simp[A6.len h2]
theorem A6.at_ {w:World} {B:Nat}: ∀{ks:List Nd} {bs:List Nat},A6 w B ks bs-> ∀{i:Nat} {k:Nd},ks[i]? =some k-> ∃b,bs[i]? =some b/\Cd w B k b
 | [],bs,h,i,k,hi=>by simp at hi
 |x::r,bs,h,i,k,hi=>by
  simp only[A6]at h;obtain⟨b,t,rfl,h1,h2⟩:=h
  cases i with
  |zero=>
   simp only[List.getElem?_cons_zero,Option.some.injEq]at hi;subst hi;exact⟨b,rfl,h1⟩
  |succ i=>
   simp only[List.getElem?_cons_succ]at hi ⊢;exact A6.at_ h2 hi
theorem A6.app {w:World} {B:Nat}: ∀{ks ks':List Nd} {bs bs':List Nat},A6 w B ks bs->A6 w B ks' bs'->A6 w B (ks++ks') (bs++bs')
 | [],ks',bs,bs',h,h'=>by
   simp only[A6]at h;subst h;exact h'
 |k::r,ks',bs,bs',h,h'=>by
  simp only[A6]at h;obtain⟨b,t,rfl,h1,h2⟩:=h;simp only[List.cons_append,A6];exact⟨b,t++bs',rfl,h1,A6.app h2 h'⟩
theorem A6.one {w:World} {B:Nat} {k:Nd} {b:Nat} (h:Cd w B k b):A6 w B [k] [b]:=by
 simp only[A6];exact⟨b, [],rfl,h,rfl⟩
theorem A6.split {w:World} {B:Nat}: ∀{ks:List Nd} {bs:List Nat} (i:Nat),A6 w B ks bs->A6 w B (ks.take i) (bs.take i)/\A6 w B (ks.drop i) (bs.drop i)
 | [],bs,i,h=>by
   simp only[A6]at h;subst h;simp[A6]
 |k::r,bs,0,h=>by
  simp only[List.take_zero,List.drop_zero];exact⟨by simp only[A6],h⟩
 |k::r,bs,i+1,h=>by
  simp only[A6]at h;obtain⟨b,t,rfl,h1,h2⟩:=h;obtain⟨a1,a2⟩:=A6.split i h2;simp only[List.take_succ_cons,List.drop_succ_cons,A6];exact⟨⟨b,t.take i,rfl,h1,a1⟩,a2⟩
theorem A6.set {w:World} {B:Nat}: ∀{ks:List Nd} {bs:List Nat} (i:Nat) {k:Nd} {b:Nat},A6 w B ks bs->Cd w B k b->A6 w B (ks.set i k) (bs.set i b)
 | [],bs,i,k,b,h,_=>by
   simp only[A6]at h;subst h;simp[A6]
 |x::r,bs,0,k,b,h,hk=>by
  simp only[A6]at h;obtain⟨b',t,rfl,h1,h2⟩:=h;simp only[tk5,A6];exact⟨b,t,rfl,hk,h2⟩
 |x::r,bs,i+1,k,b,h,hk=>by
  simp only[A6]at h;obtain⟨b',t,rfl,h1,h2⟩:=h;simp only[tk6,A6];exact⟨b',t.set i b,rfl,h1,A6.set i h2 hk⟩
def Yo (w:World) (B:Nat):Option (Nat×Nd)->Option Addr->Prop
 |none,p=>p=none
 |some (_,n),p=> ∃b,p=some ⟨b,0,none⟩/\Cd w B n b
theorem Yo.below {w w':World} {B:Nat} {t:Option (Nat×Nd)} {p:Option Addr} (h:Yo w B t p) (hb:Below B w w'):Yo w' B t p:=by
 cases t with
 |none=>exact h
 |some t=>
  obtain⟨b,e,h1⟩:=h;exact⟨b,e,h1.below hb⟩
theorem Yo.more {w:World} {B B':Nat} {t:Option (Nat×Nd)} {p:Option Addr} (h:Yo w B t p) (hB:B<=B'):Yo w B' t p:=by
 cases t with
 |none=>exact h
 |some t=>
  obtain⟨b,e,h1⟩:=h;exact⟨b,e,h1.more hB⟩
theorem Yo.later {w w':World} {t:Option (Nat×Nd)} {p:Option Addr} (h:Yo w w.heap.size t p) (hb:Below w.heap.size w w'):Yo w' w'.heap.size t p:=(h.below hb).more hb.size
theorem Cd.blk {w:World} {B:Nat} {n:Nd} {b:Nat} (h:Cd w B n b): ∃ea en ec ka kn kc,Aj w b Vh #[.slice ea en ec,.slice ka kn kc,.int .i64 (Ms n),.int .i64 (Bi n).length,.string (A7 n),.string (Ex n),.bool false]/\en+kn=Bh n:=by
 cases n with
 |leaf es=>
  simp only[Cd]at h;obtain⟨_,a,c,_,hx⟩:=h;exact⟨a,es.length,c,none,0,0,by simpa[Ms,Bi]using hx,by simp[Bh]⟩
 |inner ks=>
  simp only[Cd]at h;obtain⟨_,bs,a,c,_,hx,_⟩:=h;exact⟨none,0,0,a,ks.length,c,by simpa[Bi]using hx,by simp[Bh]⟩
theorem Cx {w:World} {B:Nat} {n:Nd} {b:Nat} (h:Cd w B n b):Calls Tryz.prog 96 #[.pointer (some ⟨b,0,none⟩)] w fun e w'=>e=.returned (.int .i64 (Ms n))/\w=w':=by
 obtain⟨ea,en,ec,ka,kn,kc,hx,_⟩:=h.blk;have c2:=hx.cell 2;have hl:=hx.lt;clear hx h;go_enter Tryz.func96,Tryz.ntmps96;go_wp2;go_ret;exact⟨rfl,rfl⟩
theorem Ku (w:World):Calls Tryz.prog 96 #[.pointer none] w fun e w'=>e=.returned (.int .i64 0)/\w=w':=by
 go_enter Tryz.func96,Tryz.ntmps96;go_wp2;go_ret;exact⟨rfl,rfl⟩
theorem G3 {w:World} {B:Nat} {n:Nd} {b:Nat} (h:Cd w B n b):Calls Tryz.prog 58 #[.pointer (some ⟨b,0,none⟩)] w fun e w'=>e=.returned (.int .i64 (Bi n).length)/\w=w':=by
 obtain⟨ea,en,ec,ka,kn,kc,hx,_⟩:=h.blk;have c3:=hx.cell 3;have hl:=hx.lt;clear hx h;go_enter Tryz.func58,Tryz.ntmps58;go_wp2;go_ret;exact⟨rfl,rfl⟩
theorem Un (w:World):Calls Tryz.prog 58 #[.pointer none] w fun e w'=>e=.returned (.int .i64 0)/\w=w':=by
 go_enter Tryz.func58,Tryz.ntmps58;go_wp2;go_ret;exact⟨rfl,rfl⟩
theorem Qe {w:World} {B:Nat} {n:Nd} {b:Nat} (h:Cd w B n b):Calls Tryz.prog 166 #[.pointer (some ⟨b,0,none⟩)] w fun e w'=>e=.returned (.string (A7 n))/\w=w':=by
 obtain⟨ea,en,ec,ka,kn,kc,hx,_⟩:=h.blk;have c4:=hx.cell 4;have hl:=hx.lt;clear hx h;go_enter Tryz.func166,Tryz.ntmps166;go_wp2;go_ret;exact⟨rfl,rfl⟩
theorem Ace {w:World} {B:Nat} {n:Nd} {b:Nat} (h:Cd w B n b):Calls Tryz.prog 202 #[.pointer (some ⟨b,0,none⟩)] w fun e w'=>e=.returned (.string (Ex n))/\w=w':=by
 obtain⟨ea,en,ec,ka,kn,kc,hx,_⟩:=h.blk;have c5:=hx.cell 5;have hl:=hx.lt;clear hx h;go_enter Tryz.func202,Tryz.ntmps202;go_wp2;go_ret;exact⟨rfl,rfl⟩
theorem Je {w:World} {B:Nat} {n:Nd} {b:Nat} (h:Cd w B n b) (hs:Bh n<=100):Calls Tryz.prog 106 #[.pointer (some ⟨b,0,none⟩)] w fun e w'=>e=.returned (.int .i64 (Bh n))/\Below w.heap.size w w':=by
 obtain⟨ea,en,ec,ka,kn,kc,hx,he⟩:=h.blk;have hSS:(fun Y:World=>Y.cell? ⟨b,0,none⟩=some (.slice ea en ec)/\Y.cell? ⟨b,1,none⟩=some (.slice ka kn kc)) w.drew:=⟨hx.cell 0,hx.cell 1⟩;have hb:=Below.drew (Below.refl w.heap.size w);have e1:((Bh n:Nat):Int)=(en:Int)+(kn:Int):=by omega
 have e2:IntKind.i64.wrap ((en:Int)+(kn:Int))=(en:Int)+(kn:Int):=IntWalk.i64_in _ (by omega);rw[e1];clear hx h e1 he hs;go_enter Tryz.func106,Tryz.ntmps106;go_upto_region 3 with(fail);refine wp_region_held_drew (S:=fun Y:World=>Y.cell? ⟨b,0,none⟩=some (.slice ea en ec)/\Y.cell? ⟨b,1,none⟩=some (.slice ka kn kc)) (by kernel_rfl) hSS (fun hHeld=> ?_);refine tkH 0 hHeld ?_;refine tkH 1 hHeld ?_;refine tkH 2 hHeld ?_;refine tkH 3 hHeld ?_;refine tkH 4 hHeld ?_;refine tkH 5 hHeld ?_;refine tkH 6 hHeld ?_;refine tkH 7 hHeld ?_;refine tkH 8 hHeld ?_;refine tkH 9 hHeld ?_;refine tkH 10 hHeld ?_;refine tkH 11 hHeld ?_;refine wpAnyH_done (by kernel_rfl) ?_ _;clear hHeld hSS;go_wp2;go_ret;exact⟨rfl,hb⟩
theorem Zl {w:World} {B:Nat} {n:Nd} {b:Nat} (h:Cd w B n b) (hs:Bh n<=100):Calls Tryz.prog 169 #[.pointer (some ⟨b,0,none⟩),.bool false] w fun e w'=>e=.returned (.bool (decide (4<=Bh n)))/\Below w.heap.size w w':=by
 have HZ:=qz (Je h hs);obtain⟨ea,en,ec,ka,kn,kc,hx,he⟩:=h.blk;have c6:=hx.cell 6;have hl:=hx.lt;clear hx h;go_enter Tryz.func169,Tryz.ntmps169;go_wp2_with (fail);(with_reducible refine(HZ.out).mono ?_);rintro e w1 ⟨rfl,hb1⟩;go_wp2;go_ret;refine⟨?_,hb1⟩;show Ending.returned (.bool (decide ((4:Int)<=(Bh n:Nat))))=_;rw[show decide ((4:Int)<=(Bh n:Nat))=decide (4<=Bh n)from by rw[decide_eq_decide];omega]
theorem Nk {l:List UInt8} (h:l≠ []) (f p:Nat):
 ((Gk l).2=0/\Ax (f+1) l p= [])\/(∃n r:Nat,Gk l=((r:Int),(n:Int))/\1<=n/\n<=l.length/\Ax (f+1) l p=(p,r)::Ax f (l.drop n) (p+n)):=by
 have hg:=Oz l h;unfold J7 at hg;by_cases hb:(Lib.decodeL l).1=65533/\(Lib.decodeL l).2=1
 . rw[if_pos hb]at hg;rw[hg];refine .inl ⟨rfl, ?_⟩;simp only[Ax];rw[if_neg h,if_pos hb]
 . rw[if_neg hb]at hg;have hw:=Lib.decodeL_width l;refine .inr ⟨(Lib.decodeL l).2,(Lib.decodeL l).1,hg,hw,Lib.decodeL_le l h, ?_⟩;simp only[Ax];rw[if_neg h,if_neg hb]
def Mm (v1 v2:Value):Prop:= ∀g,v1.ownBlock=some g->v2.ownBlock≠some g
theorem Mm.ne {v1 v2:Value} (h:Mm v1 v2):v1.ownBlock=none\/v1.ownBlock≠v2.ownBlock:=by
 cases e:v1.ownBlock with
 |none=>exact .inl rfl
 |some g=>exact .inr fun e'=>h g e (by rw[<-e'])
theorem Mm.symm {v1 v2:Value} (h:Mm v1 v2):Mm v2 v1:=fun g e e'=>h g e' e
theorem Mm.step {v1 v1' v2:Value} {w:World} {B n N:Nat} {e:TypeId} {size:Nat} {xs:List Value} (h:Mm v1 v2) (h2:w.ownsRow B e size v2 n xs) (h4:v1'.ownBlock=v1.ownBlock\/v1'.ownBlock=some N) (hN:w.heap.size<=N):Mm v1' v2:=by
 intro g e1 e2;rcases h4 with h4|h4
 . exact h g (by rw[<-h4];exact e1) e2
 . rw[h4]at e1;obtain rfl:=Option.some.inj e1;have:=(h2.lt _ e2).2;omega
theorem Aki:(Tryz.prog.info? 3).map (fun i=>(i.zero,i.size,i.bytes))=some (some (.int .i64 0),1,8):=by kernel_rfl
set_option maxRecDepth 20000 in
theorem Ym (s:ByteArray) (w:World) (hs:s.size<=1000000000):
 Calls Tryz.prog 141 #[.string s] w fun e w'=>(∃v1 v2,e=.returned (.tuple #[v1,v2])/\w'.ownsRow w.heap.size 3 1 v1 (Bw s).length ((Bw s).map fun x=>Value.int .i64 x.2))/\Below w.heap.size w w':=by
 obtain⟨i0,hi,hz0,hz1,hz2⟩:=info_parts Aki;obtain⟨HI,HZ0,HZ1,HZ2⟩:=hid4 hi hz0 hz1 hz2;clear hi hz0 hz1 hz2;have Hown0:Hid (w.ownsRow w.heap.size 3 1 (.slice none 0 0) 0 []):=World.ownsRow_nil _ _ _ _;have Hap0:Hid (Mm (.slice none 0 0) (.slice none 0 0)):=qz (fun g e=>by simp[Value.ownBlock]at e);go_enter Tryz.func141,Tryz.ntmps141;go_wp2;go_loopw [4,5,6] (fun v1 v2 i wr=> ∃(pre:List (Nat×Nat)) (f k:Nat),i=.int .i64 k/\k<=s.size/\s.size - k<=f/\Hid (Bw s=pre++Ax f (s.data.toList.drop k) k)/\pre.length<=k/\
  Hid (wr.ownsRow w.heap.size 3 1 v1 pre.length (pre.map fun x=>Value.int .i64 x.2))/\Hid (wr.ownsRow w.heap.size 3 1 v2 pre.length (pre.map fun x=>Value.int .i64 x.1))/\Hid (Mm v1 v2)/\Hid (Below w.heap.size w wr)) (fun _ _ i _=>s.size - (intOf i).toNat)
 case atStart=>exact⟨[],s.size,0,rfl,Nat.zero_le _,by omega,rfl,Nat.le_refl _,Hown0,Hown0,Hap0,Below.refl _ _⟩
 case round=>
  obtain⟨pre,f,k,rfl,hk,hf,hr,hpk,ho1,ho2,hap,hbw⟩:=hrel;clear Hown0 Hap0;by_cases hlt:k<s.size
  . have hne:s.data.toList.drop k≠ []:=by
     intro e;have:=congrArg List.length e;rw[List.length_drop,<-Lib.size_eq]at this;simp at this;omega
    obtain⟨f,rfl⟩: ∃f',f=f'+1:=⟨f - 1,by omega⟩;have hA:=Aak s k wr (by omega) (by omega);rcases Nk hne f k with⟨h0,hv⟩|⟨n,r,hn,hn1,hn2,hv⟩
    . have hr':=hr.out;rw[hv,List.append_nil]at hr';rw[h0]at hA;generalize (Gk (s.data.toList.drop k)).1=R at hA;obtain⟨HA,HR⟩:=hid2 hA hr';clear hA h0 hv hne hr hr';go_wp2_with (fail);(with_reducible refine HA.out.mono ?_);rintro e w' ⟨rfl,rfl⟩;clear HA;go_wp2;go_ret2;exact⟨⟨u4,u5,rfl,by rw[HR.out];exact ho1.out⟩,hbw.out⟩
    . have hr':=hr.out;rw[hv,List.drop_drop]at hr';rw[hn]at hA;rw[List.length_drop,<-Lib.size_eq]at hn2;obtain⟨HA,HR⟩:=hid2 hA hr';have hb1:w.heap.size<=wr.heap.size:=hbw.out.size;clear hA hn hv hne hr hr';have e0:((n:Int)==0)=false:=by simp;omega
      go_wp2_with (fail);(with_reducible refine HA.out.mono ?_);rintro e w' ⟨rfl,rfl⟩;clear HA;go_wp2_with (at_builtin;refine wpList_append_own_at _ rfl (.tmp 21) (.tmp 23) 210 rfl w.heap.size 3 i0 (.int .i64 0) 1 8 Tryz.underlying210 HI.out HZ0.out HZ1.out HZ2.out rfl (by decide) u4 pre.length _ rfl (ho1.out.alloc _) ⟨wr.heap.size,0,none⟩ 1 1 [.int .i64 r] rfl rfl ?c1 ?c2 ?c3 ?c4 ?c5 ?_)
      case c1=>
       intro j u hj
       match j,hj with
       |0,hj=>simp at hj;subst hj;simp[Addr.add]
      case c2=>intro u hu;simp at hu;subst hu;rfl
      case c3=>unfold maxLen;omega
      case c4=>omega
      case c5=>simp;omega
      intro v1' w2 hown1 hgrow1 _ hat1;have ho1':=qz hown1;have ho2':=qz ((ho2.out.alloc (.cells #[.int .i64 r] 3)).kept hgrow1 hap.out.symm.ne);have hap':=qz (Mm.step hap.out ho2.out hat1 (by omega));have hbw2:=qz ((hbw.out.alloc hb1 (.cells #[.int .i64 r] 3)).grown hgrow1 (by simp;omega) (fun k hk=>(ho1.out.lt k hk).1));have hb2:w.heap.size<=w2.heap.size:=hbw2.out.size;clear hown1 hgrow1 hat1 ho1 ho2 hap hbw hb1;go_wp2_with (at_builtin;refine wpList_append_own_at _ rfl (.tmp 25) (.tmp 27) 210 rfl w.heap.size 3 i0 (.int .i64 0) 1 8 Tryz.underlying210 HI.out HZ0.out HZ1.out HZ2.out rfl (by decide) u5 pre.length _ rfl (ho2'.out.alloc _) ⟨w2.heap.size,0,none⟩ 1 1 [.int .i64 k] rfl rfl ?d1 ?d2 ?d3 ?d4 ?d5 ?_)
      case d1=>
       intro j u hj
       match j,hj with
       |0,hj=>simp at hj;subst hj;simp[Addr.add]
      case d2=>intro u hu;simp at hu;subst hu;rfl
      case d3=>unfold maxLen;omega
      case d4=>omega
      case d5=>simp;omega
      intro v2' w3 hown2 hgrow2 _ hat2;have ho2'':=qz hown2;have ho1'':=qz ((ho1'.out.alloc (.cells #[.int .i64 k] 3)).kept hgrow2 hap'.out.ne);have hap'':=qz (Mm.step hap'.out.symm ho1'.out hat2 (by omega)).symm;have hbw3:=qz ((hbw2.out.alloc hb2 (.cells #[.int .i64 k] 3)).grown hgrow2 (by simp;omega) (fun k hk=>(ho2'.out.lt k hk).1));clear hown2 hgrow2 hat2 ho1' ho2' hap' hbw2 hb2;go_wp2;go_roundw
      case rel=>exact⟨pre++ [(k,r)],f,k+n,by go_num,by omega,by omega,qz (by rw[List.append_assoc];exact HR.out),by simp;omega,qz (by rw[List.length_append,List.map_append];exact ho1''.out),qz (by rw[List.length_append,List.map_append];exact ho2''.out),hap'',hbw3⟩
      case measure=>simp only[intOf];omega
  . obtain rfl:k=s.size:=by omega
    have hr':=hr.out;have e:Ax f (s.data.toList.drop s.size) s.size= []:=by
     rw[List.drop_eq_nil_of_le (by rw[<-Lib.size_eq];omega)]
     cases f<;>simp[Ax]
    rw[e,List.append_nil]at hr';have HR:=qz hr';clear hr hr' e;go_wp2;go_ret2;exact⟨⟨u4,u5,rfl,by rw[HR.out];exact ho1.out⟩,hbw.out⟩
def Ud:List UInt8:= [34,92,47,98,102,110,114,116]
theorem Vx: ∀j:Fin 8,j.val≠2->Ai ((L6.getD j.val 0).toNat)= [92,Ud.getD j.val 0]:=by decide
def Rn (r:Nat) (j:Nat):Prop:= ∀i:Nat,i<j->i≠2->L6.getD i 0≠(r:Int)
theorem Rn.all {r:Nat} (h:Rn r 8):r≠34/\r≠92/\r≠8/\r≠12/\r≠10/\r≠13/\r≠9:=by
 have h0:=h 0 (by omega) (by omega);have h1:=h 1 (by omega) (by omega);have h3:=h 3 (by omega) (by omega);have h4:=h 4 (by omega) (by omega);have h5:=h 5 (by omega) (by omega);have h6:=h 6 (by omega) (by omega);have h7:=h 7 (by omega) (by omega);simp[L6]at h0 h1 h3 h4 h5 h6 h7;omega
theorem Zy {r:Nat} (h:Rn r 8):Ai r=if r<32 then [92,117,48,48,Mb (r / 16),Mb (r % 16)]else Lib.encodeRune r:=by
 obtain⟨a1,a2,a3,a4,a5,a6,a7⟩:=h.all;unfold Ai;by_cases h32:r<32
 . rw[if_neg (by omega),if_pos h32];have:D6 (r:Int) B3=none:=by
    simp only[B3,D6]
    repeat rw[if_neg (by omega)]
   rw[this]
 . rw[if_pos (by omega),if_neg h32]
theorem Rn.step {r j:Nat} (h:Rn r j) (hj:j=2\/L6.getD j 0≠(r:Int)):Rn r (j+1):=by
 intro i hi h2;by_cases he:i=j
 . subst he;rcases hj with hj|hj
   . exact absurd hj h2
   . exact hj
 . exact h i (by omega) h2
def Dc (r:Nat):Prop:=r<=1114111/\ ¬(55296<=r/\r<57344)
theorem Aat (F:Option Int) (n:Nat) (least:Int):(Dq F n least).2=0\/((Dq F n least).1<=1114111/\ ¬(55296<=(Dq F n least).1/\(Dq F n least).1<57344)):=by
 unfold Dq
 split
 . simp
 . split
   . simp
   . rename_i h
     right
     simp only;omega
theorem Lz (rest:List UInt8) (n:Nat) (r0 least:Int):(Ci rest n r0 least).2=0\/((Ci rest n r0 least).1<=1114111/\ ¬(55296<=(Ci rest n r0 least).1/\(Ci rest n r0 least).1<57344)):=by
 unfold Ci
 split
 . exact .inl rfl
 . exact Aat _ _ _
theorem Pu (l:List UInt8):(Gk l).2=0\/((Gk l).1<=1114111/\ ¬(55296<=(Gk l).1/\(Gk l).1<57344)):=by
 cases l with
 |nil=>exact .inl rfl
 |cons c rest=>
  rw[Gs];by_cases h1:(c.toNat:Int)<128
  . rw[if_pos h1]
    right
    simp only;omega
  rw[if_neg h1]
  split
  . exact Lz _ _ _ _
  split
  . exact Lz _ _ _ _
  split
  . exact Lz _ _ _ _
  . exact .inl rfl
theorem Dw: ∀(n:Nat) (l:List UInt8) (p:Nat),∀x ∈ Ax n l p,Dc x.2
 |0,_,_,x,hx=>by simp[Ax]at hx
 |n+1,l,p,x,hx=>by
  by_cases h:l= []
  . subst h;simp[Ax]at hx
  . rcases Nk h n p with⟨_,e⟩|⟨m,r,hn,h1,_,e⟩
    . rw[e]at hx
      cases hx
    . rw[e]at hx;rcases List.mem_cons.1 hx with rfl|hx
      . have:=Pu l;rw[hn]at this;unfold Dc;simp only at this ⊢;omega
      . exact Dw n _ _ x hx
theorem Agy (d:Nat) (hd:d<16) (w:World):(Instr.slice 9 (.string ⟨#[48,49,50,51,52,53,54,55,56,57,97,98,99,100,101,102]⟩) (some (.int .i64 d)) (some (.int .i64 ((d:Int)+1))) none).run Tryz.prog w=.ok (.string ⟨#[Mb d]⟩) w:=by
 have:=Z5 ⟨#[48,49,50,51,52,53,54,55,56,57,97,98,99,100,101,102]⟩ d (d+1) (by omega) (by show d+1<=16;omega) w;have e: ∀d:Fin 16,(⟨#[48,49,50,51,52,53,54,55,56,57,97,98,99,100,101,102]⟩:ByteArray).extract d.val (d.val+1)=⟨#[Mb d.val]⟩:=by decide
 rw[e ⟨d,hd⟩]at this;exact this
theorem Ana (d:Nat) (hd:d<8) (w:World):(Instr.slice 9 (.string ⟨#[34,92,47,98,102,110,114,116]⟩) (some (.int .i64 d)) (some (.int .i64 ((d:Int)+1))) none).run Tryz.prog w=.ok (.string ⟨#[Ud.getD d 0]⟩) w:=by
 have:=Z5 ⟨#[34,92,47,98,102,110,114,116]⟩ d (d+1) (by omega) (by show d+1<=8;omega) w;have e: ∀d:Fin 8,(⟨#[34,92,47,98,102,110,114,116]⟩:ByteArray).extract d.val (d.val+1)=⟨#[Ud.getD d.val 0]⟩:=by decide
 rw[e ⟨d,hd⟩]at this;exact this
mutual
def Bm (S:Nat->Prop) (w:World):Nd->Nat->Prop
 | .leaf es,b=>S b/\b<w.heap.size/\ ∃a c,Ah S w (.row 7 (dO es)) [.slice a es.length c]/\
    Aj w b Vh #[.slice a es.length c,.slice none 0 0,.int .i64 0,.int .i64 es.length,.string (A7 (.leaf es)),.string (Ex (.leaf es)),.bool false]
 | .inner ks,b=>S b/\b<w.heap.size/\ ∃bs a c,Ah S w (.row 1 (Bb bs)) [.slice a ks.length c]/\
    Aj w b Vh #[.slice none 0 0,.slice a ks.length c,.int .i64 (Ms (.inner ks)),.int .i64 (Bg ks).length,.string (A7 (.inner ks)),.string (Ex (.inner ks)),.bool false]/\Ar S w ks bs
def Ar (S:Nat->Prop) (w:World):List Nd->List Nat->Prop
 | [],bs=>bs= []
 |k::r,bs=> ∃b t,bs=b::t/\Bm S w k b/\Ar S w r t
end
theorem Ar.imp' {S T:Nat->Prop} {w w':World}: ∀{ks:List Nd},(∀k ∈ ks,∀b,Bm S w k b->Bm T w' k b)-> ∀{bs},Ar S w ks bs->Ar T w' ks bs
 | [],_,_,h=>by
   simp only[Ar]at h ⊢;exact h
 |k::r,ih,bs,h=>by
  simp only[Ar]at h ⊢;obtain⟨b,t,e,h1,h2⟩:=h;exact⟨b,t,e,ih k (by simp) b h1,Ar.imp' (fun x hx=>ih x (by simp[hx])) h2⟩
theorem Bm.imp {S T:Nat->Prop} {w w':World} (hS: ∀i,i<w'.heap.size->S i->T i) (hs:w.heap.size<=w'.heap.size) (hk: ∀i,S i->i<w.heap.size->w'.heap[i]? =w.heap[i]?): ∀{n:Nd} {b:Nat},Bm S w n b->Bm T w' n b:=by
 have hc: ∀p:Addr,S p.block->p.block<w.heap.size->w'.cell? p=w.cell? p:=fun p p1 p2=>World.cell?_of_block (hk p.block p1 p2);intro n;refine Nd.ind (p:=fun n=> ∀{b:Nat},Bm S w n b->Bm T w' n b) ?_ ?_ n
 . intro es b h;simp only[Bm]at h ⊢;obtain⟨h0,hl,a,c,h1,h2⟩:=h;exact⟨hS b (by omega) h0,by omega,a,c,(h1.later hs hc).mono hS,(hk b h0 hl).trans h2⟩
 . intro ks ih b h;simp only[Bm]at h ⊢;obtain⟨h0,hl,bs,a,c,h1,h2,h3⟩:=h;exact⟨hS b (by omega) h0,by omega,bs,a,c,(h1.later hs hc).mono hS,(hk b h0 hl).trans h2,Ar.imp' (fun k hk' _ hb=>ih k hk' hb) h3⟩
theorem A6.of_in {S:Nat->Prop} {w:World}: ∀{ks:List Nd},(∀k ∈ ks,∀b,Bm S w k b->Cd w w.heap.size k b)-> ∀{bs},Ar S w ks bs->A6 w w.heap.size ks bs
 | [],_,_,h=>by
   simp only[Ar,A6]at h ⊢;exact h
 |k::r,ih,bs,h=>by
  simp only[Ar,A6]at h ⊢;obtain⟨b,t,e,h1,h2⟩:=h;exact⟨b,t,e,ih k (by simp) b h1,A6.of_in (fun x hx=>ih x (by simp[hx])) h2⟩
theorem Bm.now {S:Nat->Prop} {w:World}: ∀{n:Nd} {b:Nat},Bm S w n b->Cd w w.heap.size n b:=by
 intro n;refine Nd.ind (p:=fun n=> ∀{b:Nat},Bm S w n b->Cd w w.heap.size n b) ?_ ?_ n
 . intro es b h;simp only[Bm]at h;simp only[Cd];obtain⟨_,hl,a,c,h1,h2⟩:=h;exact⟨hl,a,c,h1.now,h2⟩
 . intro ks ih b h;simp only[Bm]at h;simp only[Cd];obtain⟨_,hl,bs,a,c,h1,h2,h3⟩:=h;exact⟨hl,bs,a,c,h1.now,h2,A6.of_in (fun k hk _ hb=>ih k hk hb) h3⟩
theorem Ar.now {S:Nat->Prop} {w:World} {ks:List Nd} {bs:List Nat} (h:Ar S w ks bs):A6 w w.heap.size ks bs:=A6.of_in (fun _ _ _ hk=>hk.now) h
theorem Ar.of_at {B:Nat} {w:World}: ∀{ks:List Nd},(∀k ∈ ks,∀b,Cd w B k b->Bm (fun i=>i<B) w k b)-> ∀{bs},A6 w B ks bs->Ar (fun i=>i<B) w ks bs
 | [],_,_,h=>by
   simp only[Ar,A6]at h ⊢;exact h
 |k::r,ih,bs,h=>by
  simp only[Ar,A6]at h ⊢;obtain⟨b,t,e,h1,h2⟩:=h;exact⟨b,t,e,ih k (by simp) b h1,Ar.of_at (fun x hx=>ih x (by simp[hx])) h2⟩
theorem Bm.of_old {B:Nat} {w:World} {n:Nd} {b:Nat} (h:Cd w B n b) (hB:B<=w.heap.size):Bm (fun i=>i<B) w n b:=by
 revert b
 refine Nd.ind (p:=fun n=> ∀{b:Nat},Cd w B n b->Bm (fun i=>i<B) w n b) ?_ ?_ n
 . intro es b h;simp only[Cd]at h;simp only[Bm];obtain⟨hl,a,c,h1,h2⟩:=h;exact⟨hl,by omega,a,c,Ah.of_old h1 hB (Below.refl _ _),h2⟩
 . intro ks ih b h;simp only[Cd]at h;simp only[Bm];obtain⟨hl,bs,a,c,h1,h2,h3⟩:=h;exact⟨hl,by omega,bs,a,c,Ah.of_old h1 hB (Below.refl _ _),h2,Ar.of_at (fun k hk _ hb=>ih k hk hb) h3⟩
section
variable {S T:Nat->Prop} {w w':World} {n:Nd} {b:Nat}
theorem Ar.imp {ks:List Nd} {bs:List Nat} (hS: ∀i,i<w'.heap.size->S i->T i) (hs:w.heap.size<=w'.heap.size) (hk: ∀i,S i->i<w.heap.size->w'.heap[i]? =w.heap[i]?) (h:Ar S w ks bs):Ar T w' ks bs:=Ar.imp' (fun _ _ _ h=>h.imp hS hs hk) h
theorem Ar.of_old {B:Nat} {ks:List Nd} {bs:List Nat} (h:A6 w B ks bs) (hB:B<=w.heap.size):Ar (fun i=>i<B) w ks bs:=Ar.of_at (fun _ _ _ hk=>Bm.of_old hk hB) h
theorem Bm.mono (h:Bm S w n b) (hST: ∀i,i<w.heap.size->S i->T i):Bm T w n b:=h.imp hST (Nat.le_refl _) fun _ _ _=>rfl
theorem Ar.mono {ks:List Nd} {bs:List Nat} (h:Ar S w ks bs) (hST: ∀i,i<w.heap.size->S i->T i):Ar T w ks bs:=h.imp hST (Nat.le_refl _) fun _ _ _=>rfl
theorem Bm.later (h:Bm S w n b) (hs:w.heap.size<=w'.heap.size) (hk: ∀i,S i->i<w.heap.size->w'.heap[i]? =w.heap[i]?):Bm S w' n b:=h.imp (fun _ _ h=>h) hs hk
theorem Ar.later {ks:List Nd} {bs:List Nat} (h:Ar S w ks bs) (hs:w.heap.size<=w'.heap.size) (hk: ∀i,S i->i<w.heap.size->w'.heap[i]? =w.heap[i]?):Ar S w' ks bs:=h.imp (fun _ _ h=>h) hs hk
theorem Bm.below (h:Bm S w n b) (hb:Below w.heap.size w w'):Bm S w' n b:=h.later hb.size fun i _ hi=>hb.block i hi
theorem Ar.below {ks:List Nd} {bs:List Nat} (h:Ar S w ks bs) (hb:Below w.heap.size w w'):Ar S w' ks bs:=h.later hb.size fun i _ hi=>hb.block i hi
theorem Ar.at_: ∀{ks:List Nd} {bs:List Nat},Ar S w ks bs-> ∀{i:Nat} {k:Nd},ks[i]? =some k-> ∃b,bs[i]? =some b/\Bm S w k b
 | [],bs,h,i,k,hi=>by simp at hi
 |x::r,bs,h,i,k,hi=>by
  simp only[Ar]at h;obtain⟨b,t,rfl,h1,h2⟩:=h
  cases i with
  |zero=>
   simp only[List.getElem?_cons_zero,Option.some.injEq]at hi;subst hi;exact⟨b,rfl,h1⟩
  |succ i=>
   simp only[List.getElem?_cons_succ]at hi ⊢;exact Ar.at_ h2 hi
theorem Ar.app: ∀{ks ks':List Nd} {bs bs':List Nat},Ar S w ks bs->Ar S w ks' bs'->Ar S w (ks++ks') (bs++bs')
 | [],ks',bs,bs',h,h'=>by
   simp only[Ar]at h;subst h;exact h'
 |k::r,ks',bs,bs',h,h'=>by
  simp only[Ar]at h;obtain⟨b,t,rfl,h1,h2⟩:=h;simp only[List.cons_append,Ar];exact⟨b,t++bs',rfl,h1,Ar.app h2 h'⟩
theorem Ar.one (h:Bm S w n b):Ar S w [n] [b]:=by
 simp only[Ar];exact⟨b, [],rfl,h,rfl⟩
theorem Ar.split: ∀{ks:List Nd} {bs:List Nat},Ar S w ks bs-> ∀(i:Nat),Ar S w (ks.take i) (bs.take i)/\Ar S w (ks.drop i) (bs.drop i)
 | [],bs,h,i=>by
   simp only[Ar]at h;subst h;simp[Ar]
 |k::r,bs,h,0=>by
  simp only[List.take_zero,List.drop_zero];exact⟨by simp only[Ar],h⟩
 |k::r,bs,h,i+1=>by
  simp only[Ar]at h;obtain⟨b,t,rfl,h1,h2⟩:=h;obtain⟨a1,a2⟩:=Ar.split h2 i;simp only[List.take_succ_cons,List.drop_succ_cons,Ar];exact⟨⟨b,t.take i,rfl,h1,a1⟩,a2⟩
theorem Ar.set: ∀{ks:List Nd} {bs:List Nat},Ar S w ks bs-> ∀(i:Nat) {n:Nd} {b:Nat},Bm S w n b->Ar S w (ks.set i n) (bs.set i b)
 | [],bs,h,i,n,b,_=>by
   simp only[Ar]at h;subst h;simp[Ar]
 |x::r,bs,h,0,n,b,hk=>by
  simp only[Ar]at h;obtain⟨b',t,rfl,h1,h2⟩:=h;simp only[tk5,Ar];exact⟨b,t,rfl,hk,h2⟩
 |x::r,bs,h,i+1,n,b,hk=>by
  simp only[Ar]at h;obtain⟨b',t,rfl,h1,h2⟩:=h;simp only[tk6,Ar];exact⟨b',t.set i b,rfl,h1,Ar.set h2 i hk⟩
end
end Go.Proofs.YtkmcjfkokoidcaaGreatDoor
