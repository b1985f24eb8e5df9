/- Parts: commonplaceref02.Copy: what its contract says. No condition. -/
import Derived.Deep.MidRow
import Derived.Lib.ItoaLen
import Derived.Test.YtnkmhaachfgaoaaGreatDoorKPq5
import Derived.Test.YtnkmhaachfgaoaaGreatDoorKPq6
import Derived.Test.YtnkmhaachfgaoaaGreatDoorKPq7
import Derived.Test.YtnkmhaachfgaoaaGreatDoorKPq8
set_option maxHeartbeats 20000000
set_option maxRecDepth 100000
namespace Go.Proofs.YtnkmhaachfgaoaaGreatDoor
open Go Go.RowKit
abbrev Sc:TypeId:=130
def Se (b:Nat):D:=.leaf (.pointer (some ⟨b,0,none⟩))
def Ar (l:List Nat):List D:=l.map Se
theorem Mv (l:List Nat): ∀d ∈ Ar l,d.cells=1:=by
 intro d hd;obtain⟨b,_,rfl⟩:=List.mem_map.1 hd;rfl
theorem Av (l:List Nat):(Ar l).length=l.length:=List.length_map ..
def Ca (n:Nd):ByteArray:=((A6 n).getLast?.map (·.1)).getD ByteArray.empty
mutual
def By (w:World) (B:Nat):Nd->Nat->Prop
 | .leaf es,b=>b<B/\ ∃a c,Ae w B (.row 7 (dO es)) [.slice a es.length c]/\
    Ah w b Sc #[.slice a es.length c,.slice none 0 0,.int .i64 0,.int .i64 es.length,.string (Ao (.leaf es)),.string (Ca (.leaf es)),.bool false]
 | .inner ks,b=>b<B/\ ∃bs a c,Ae w B (.row 1 (Ar bs)) [.slice a ks.length c]/\
    Ah w b Sc #[.slice none 0 0,.slice a ks.length c,.int .i64 (I8 (.inner ks)),.int .i64 (Ap ks).length,.string (Ao (.inner ks)),.string (Ca (.inner ks)),.bool false]/\Ay w B ks bs
def Ay (w:World) (B:Nat):List Nd->List Nat->Prop
 | [],bs=>bs= []
 |k::r,bs=> ∃b t,bs=b::t/\By w B k b/\Ay w B r t
end
theorem Ay.imp {w w':World} {B B':Nat}: ∀{ks:List Nd},(∀k ∈ ks,∀b,By w B k b->By w' B' k b)-> ∀{bs},Ay w B ks bs->Ay w' B' ks bs
 | [],_,_,h=>h
 |k::r,ih,bs,h=>by
  simp only[Ay]at h ⊢;obtain⟨b,t,e,h1,h2⟩:=h;exact⟨b,t,e,ih k (by simp) b h1,Ay.imp (fun x hx=>ih x (by simp[hx])) h2⟩
theorem By.imp {w w':World} {B B':Nat} (hB:B<=B') (hk: ∀i,i<B->w'.heap[i]? =w.heap[i]?): ∀{n:Nd} {b:Nat},By w B n b->By w' B' n b:=by
 intro n;refine Nd.ind (p:=fun n=> ∀{b:Nat},By w B n b->By w' B' n b) ?_ ?_ n
 . intro es b h;simp only[By]at h ⊢;obtain⟨h0,a,c,h1,h2⟩:=h;exact⟨by omega,a,c,h1.imp hB fun p hp=>World.cell?_of_block (hk p.block hp),(hk b h0).trans h2⟩
 . intro ks ih b h;simp only[By]at h ⊢;obtain⟨h0,bs,a,c,h1,h2,h3⟩:=h;exact⟨by omega,bs,a,c,h1.imp hB fun p hp=>World.cell?_of_block (hk p.block hp),(hk b h0).trans h2,Ay.imp (fun k hk' _ hb=>ih k hk' hb) h3⟩
theorem By.below {w w':World} {B:Nat} {n:Nd} {b:Nat} (h:By w B n b) (hb:Below B w w'):By w' B n b:=h.imp (Nat.le_refl _) fun i hi=>hb.block i hi
theorem By.more {w:World} {B B':Nat} {n:Nd} {b:Nat} (h:By w B n b) (hB:B<=B'):By w B' n b:=h.imp hB fun _ _=>rfl
theorem By.later {w w':World} {n:Nd} {b:Nat} (h:By w w.heap.size n b) (hb:Below w.heap.size w w'):By w' w'.heap.size n b:=(h.below hb).more hb.size
theorem Ay.below {w w':World} {B:Nat} {ks:List Nd} {bs:List Nat} (h:Ay w B ks bs) (hb:Below B w w'):Ay w' B ks bs:=Ay.imp (fun _ _ _ h=>h.below hb) h
theorem Ay.more {w:World} {B B':Nat} {ks:List Nd} {bs:List Nat} (h:Ay w B ks bs) (hB:B<=B'):Ay w B' ks bs:=Ay.imp (fun _ _ _ h=>h.more hB) h
theorem Ay.later {w w':World} {ks:List Nd} {bs:List Nat} (h:Ay w w.heap.size ks bs) (hb:Below w.heap.size w w'):Ay w' w'.heap.size ks bs:=(h.below hb).more hb.size
theorem By.lt {w:World} {B:Nat} {n:Nd} {b:Nat} (h:By w B n b):b<B:=by
 cases n<;>(simp only[By]at h;exact h.1)
theorem Ay.len {w:World} {B:Nat}: ∀{ks:List Nd} {bs:List Nat},Ay w B ks bs->bs.length=ks.length
 | [],bs,h=>by
   simp only[Ay]at h;rw[h];rfl
 |k::r,bs,h=>by
  simp only[Ay]at h;obtain⟨b,t,rfl,_,h2⟩:=h;simp[Ay.len h2]
theorem Ay.at_ {w:World} {B:Nat}: ∀{ks:List Nd} {bs:List Nat},Ay w B ks bs-> ∀{i:Nat} {k:Nd},ks[i]? =some k-> ∃b,bs[i]? =some b/\By w B k b
 | [],bs,h,i,k,hi=>by simp at hi
 |x::r,bs,h,i,k,hi=>by
  simp only[Ay]at h;obtain⟨b,t,rfl,h1,h2⟩:=h
  cases i with
  |zero=>
   simp only[List.getElem?_cons_zero,Option.some.injEq]at hi;subst hi;exact⟨b,rfl,h1⟩
  |succ i=>
   simp only[List.getElem?_cons_succ]at hi ⊢;exact Ay.at_ h2 hi
theorem Ay.app {w:World} {B:Nat}: ∀{ks ks':List Nd} {bs bs':List Nat},Ay w B ks bs->Ay w B ks' bs'->Ay w B (ks++ks') (bs++bs')
 | [],ks',bs,bs',h,h'=>by
   simp only[Ay]at h;subst h;exact h'
 |k::r,ks',bs,bs',h,h'=>by
  simp only[Ay]at h;obtain⟨b,t,rfl,h1,h2⟩:=h;simp only[List.cons_append,Ay];exact⟨b,t++bs',rfl,h1,Ay.app h2 h'⟩
theorem Ay.one {w:World} {B:Nat} {k:Nd} {b:Nat} (h:By w B k b):Ay w B [k] [b]:=by
 simp only[Ay];exact⟨b, [],rfl,h,rfl⟩
theorem Ay.split {w:World} {B:Nat}: ∀{ks:List Nd} {bs:List Nat} (i:Nat),Ay w B ks bs->Ay w B (ks.take i) (bs.take i)/\Ay w B (ks.drop i) (bs.drop i)
 | [],bs,i,h=>by
   simp only[Ay]at h;subst h;simp[Ay]
 |k::r,bs,0,h=>by
  simp only[List.take_zero,List.drop_zero];exact⟨by simp only[Ay],h⟩
 |k::r,bs,i+1,h=>by
  simp only[Ay]at h;obtain⟨b,t,rfl,h1,h2⟩:=h;obtain⟨a1,a2⟩:=Ay.split i h2;simp only[List.take_succ_cons,List.drop_succ_cons,Ay];exact⟨⟨b,t.take i,rfl,h1,a1⟩,a2⟩
theorem Ay.set {w:World} {B:Nat}: ∀{ks:List Nd} {bs:List Nat} (i:Nat) {k:Nd} {b:Nat},Ay w B ks bs->By w B k b->Ay w B (ks.set i k) (bs.set i b)
 | [],bs,i,k,b,h,_=>by
   simp only[Ay]at h;subst h;simp[Ay]
 |x::r,bs,0,k,b,h,hk=>by
  simp only[Ay]at h;obtain⟨b',t,rfl,h1,h2⟩:=h;simp only[tk5,Ay];exact⟨b,t,rfl,hk,h2⟩
 |x::r,bs,i+1,k,b,h,hk=>by
  simp only[Ay]at h;obtain⟨b',t,rfl,h1,h2⟩:=h;simp only[tk6,Ay];exact⟨b',t.set i b,rfl,h1,Ay.set i h2 hk⟩
def Uh (w:World) (B:Nat):Option (Nat×Nd)->Option Addr->Prop
 |none,p=>p=none
 |some (_,n),p=> ∃b,p=some ⟨b,0,none⟩/\By w B n b
theorem Uh.below {w w':World} {B:Nat} {t:Option (Nat×Nd)} {p:Option Addr} (h:Uh w B t p) (hb:Below B w w'):Uh w' B t p:=by
 cases t with
 |none=>exact h
 |some t=>
  obtain⟨b,e,h1⟩:=h;exact⟨b,e,h1.below hb⟩
theorem Uh.more {w:World} {B B':Nat} {t:Option (Nat×Nd)} {p:Option Addr} (h:Uh w B t p) (hB:B<=B'):Uh w B' t p:=by
 cases t with
 |none=>exact h
 |some t=>
  obtain⟨b,e,h1⟩:=h;exact⟨b,e,h1.more hB⟩
theorem Uh.later {w w':World} {t:Option (Nat×Nd)} {p:Option Addr} (h:Uh w w.heap.size t p) (hb:Below w.heap.size w w'):Uh w' w'.heap.size t p:=(h.below hb).more hb.size
theorem By.blk {w:World} {B:Nat} {n:Nd} {b:Nat} (h:By w B n b): ∃ea en ec ka kn kc,Ah w b Sc #[.slice ea en ec,.slice ka kn kc,.int .i64 (I8 n),.int .i64 (A6 n).length,.string (Ao n),.string (Ca n),.bool false]/\en+kn=A7 n:=by
 cases n with
 |leaf es=>
  simp only[By]at h;obtain⟨_,a,c,_,hx⟩:=h;exact⟨a,es.length,c,none,0,0,by simpa[I8,A6]using hx,by simp[A7]⟩
 |inner ks=>
  simp only[By]at h;obtain⟨_,bs,a,c,_,hx,_⟩:=h;exact⟨none,0,0,a,ks.length,c,by simpa[A6]using hx,by simp[A7]⟩
theorem Cl {w:World} {B:Nat} {n:Nd} {b:Nat} (h:By w B n b):Calls Tryz.prog 88 #[.pointer (some ⟨b,0,none⟩)] w fun e w'=>e=.returned (.int .i64 (I8 n))/\w=w':=by
 obtain⟨ea,en,ec,ka,kn,kc,hx,_⟩:=h.blk;have c2:=hx.cell 2;have hl:=hx.lt;clear hx h;go_enter Tryz.func88,Tryz.ntmps88;go_wp2;go_ret;exact⟨rfl,rfl⟩
theorem Pg (w:World):Calls Tryz.prog 88 #[.pointer none] w fun e w'=>e=.returned (.int .i64 0)/\w=w':=by
 go_enter Tryz.func88,Tryz.ntmps88;go_wp2;go_ret;exact⟨rfl,rfl⟩
theorem F7 {w:World} {B:Nat} {n:Nd} {b:Nat} (h:By w B n b):Calls Tryz.prog 51 #[.pointer (some ⟨b,0,none⟩)] w fun e w'=>e=.returned (.int .i64 (A6 n).length)/\w=w':=by
 obtain⟨ea,en,ec,ka,kn,kc,hx,_⟩:=h.blk;have c3:=hx.cell 3;have hl:=hx.lt;clear hx h;go_enter Tryz.func51,Tryz.ntmps51;go_wp2;go_ret;exact⟨rfl,rfl⟩
theorem Ro (w:World):Calls Tryz.prog 51 #[.pointer none] w fun e w'=>e=.returned (.int .i64 0)/\w=w':=by
 go_enter Tryz.func51,Tryz.ntmps51;go_wp2;go_ret;exact⟨rfl,rfl⟩
theorem N4 {w:World} {B:Nat} {n:Nd} {b:Nat} (h:By w B n b):Calls Tryz.prog 156 #[.pointer (some ⟨b,0,none⟩)] w fun e w'=>e=.returned (.string (Ao n))/\w=w':=by
 obtain⟨ea,en,ec,ka,kn,kc,hx,_⟩:=h.blk;have c4:=hx.cell 4;have hl:=hx.lt;clear hx h;go_enter Tryz.func156,Tryz.ntmps156;go_wp2;go_ret;exact⟨rfl,rfl⟩
theorem Yb {w:World} {B:Nat} {n:Nd} {b:Nat} (h:By w B n b):Calls Tryz.prog 171 #[.pointer (some ⟨b,0,none⟩)] w fun e w'=>e=.returned (.string (Ca n))/\w=w':=by
 obtain⟨ea,en,ec,ka,kn,kc,hx,_⟩:=h.blk;have c5:=hx.cell 5;have hl:=hx.lt;clear hx h;go_enter Tryz.func171,Tryz.ntmps171;go_wp2;go_ret;exact⟨rfl,rfl⟩
theorem Ph {w:World} {B:Nat} {n:Nd} {b:Nat} (h:By w B n b) (hs:A7 n<=100):Calls Tryz.prog 98 #[.pointer (some ⟨b,0,none⟩)] w fun e w'=>e=.returned (.int .i64 (A7 n))/\Below w.heap.size w w':=by
 obtain⟨ea,en,ec,ka,kn,kc,hx,he⟩:=h.blk;have hSS:(fun Y:World=>Y.cell? ⟨b,0,none⟩=some (.slice ea en ec)/\Y.cell? ⟨b,1,none⟩=some (.slice ka kn kc)) w.drew:=⟨hx.cell 0,hx.cell 1⟩;have hb:=Below.drew (Below.refl w.heap.size w);have e1:((A7 n:Nat):Int)=(en:Int)+(kn:Int):=by omega
 have e2:IntKind.i64.wrap ((en:Int)+(kn:Int))=(en:Int)+(kn:Int):=IntWalk.i64_in _ (by omega);rw[e1];clear hx h e1 he hs;go_enter Tryz.func98,Tryz.ntmps98;go_upto_region 3 with(fail);refine wp_region_held_drew (S:=fun Y:World=>Y.cell? ⟨b,0,none⟩=some (.slice ea en ec)/\Y.cell? ⟨b,1,none⟩=some (.slice ka kn kc)) (by kernel_rfl) hSS (fun hHeld=> ?_);refine tkH 0 hHeld ?_;refine tkH 1 hHeld ?_;refine tkH 2 hHeld ?_;refine tkH 3 hHeld ?_;refine tkH 4 hHeld ?_;refine tkH 5 hHeld ?_;refine tkH 6 hHeld ?_;refine tkH 7 hHeld ?_;refine tkH 8 hHeld ?_;refine tkH 9 hHeld ?_;refine tkH 10 hHeld ?_;refine tkH 11 hHeld ?_;refine wpAnyH_done (by kernel_rfl) ?_ _;clear hHeld hSS;go_wp2;go_ret;exact⟨rfl,hb⟩
theorem U8 {w:World} {B:Nat} {n:Nd} {b:Nat} (h:By w B n b) (hs:A7 n<=100):Calls Tryz.prog 159 #[.pointer (some ⟨b,0,none⟩),.bool false] w fun e w'=>e=.returned (.bool (decide (4<=A7 n)))/\Below w.heap.size w w':=by
 have HZ:=qz (Ph h hs);obtain⟨ea,en,ec,ka,kn,kc,hx,he⟩:=h.blk;have c6:=hx.cell 6;have hl:=hx.lt;clear hx h;go_enter Tryz.func159,Tryz.ntmps159;go_wp2_with (fail);(with_reducible refine(HZ.out).mono ?_);rintro e w1 ⟨rfl,hb1⟩;go_wp2;go_ret;refine⟨?_,hb1⟩;show Ending.returned (.bool (decide ((4:Int)<=(A7 n:Nat))))=_;rw[show decide ((4:Int)<=(A7 n:Nat))=decide (4<=A7 n)from by rw[decide_eq_decide];omega]
mutual
def Bj (S:Nat->Prop) (w:World):Nd->Nat->Prop
 | .leaf es,b=>S b/\b<w.heap.size/\ ∃a c,Ag S w (.row 7 (dO es)) [.slice a es.length c]/\
    Ah w b Sc #[.slice a es.length c,.slice none 0 0,.int .i64 0,.int .i64 es.length,.string (Ao (.leaf es)),.string (Ca (.leaf es)),.bool false]
 | .inner ks,b=>S b/\b<w.heap.size/\ ∃bs a c,Ag S w (.row 1 (Ar bs)) [.slice a ks.length c]/\
    Ah w b Sc #[.slice none 0 0,.slice a ks.length c,.int .i64 (I8 (.inner ks)),.int .i64 (Ap ks).length,.string (Ao (.inner ks)),.string (Ca (.inner ks)),.bool false]/\Am S w ks bs
def Am (S:Nat->Prop) (w:World):List Nd->List Nat->Prop
 | [],bs=>bs= []
 |k::r,bs=> ∃b t,bs=b::t/\Bj S w k b/\Am S w r t
end
theorem Am.imp' {S T:Nat->Prop} {w w':World}: ∀{ks:List Nd},(∀k ∈ ks,∀b,Bj S w k b->Bj T w' k b)-> ∀{bs},Am S w ks bs->Am T w' ks bs
 | [],_,_,h=>by
   simp only[Am]at h ⊢;exact h
 |k::r,ih,bs,h=>by
  simp only[Am]at h ⊢;obtain⟨b,t,e,h1,h2⟩:=h;exact⟨b,t,e,ih k (by simp) b h1,Am.imp' (fun x hx=>ih x (by simp[hx])) h2⟩
theorem Bj.imp {S T:Nat->Prop} {w w':World} (hS: ∀i,i<w'.heap.size->S i->T i) (hs:w.heap.size<=w'.heap.size) (hk: ∀i,S i->i<w.heap.size->w'.heap[i]? =w.heap[i]?): ∀{n:Nd} {b:Nat},Bj S w n b->Bj T w' n b:=by
 have hc: ∀p:Addr,S p.block->p.block<w.heap.size->w'.cell? p=w.cell? p:=fun p p1 p2=>World.cell?_of_block (hk p.block p1 p2);intro n;refine Nd.ind (p:=fun n=> ∀{b:Nat},Bj S w n b->Bj T w' n b) ?_ ?_ n
 . intro es b h;simp only[Bj]at h ⊢;obtain⟨h0,hl,a,c,h1,h2⟩:=h;exact⟨hS b (by omega) h0,by omega,a,c,(h1.later hs hc).mono hS,(hk b h0 hl).trans h2⟩
 . intro ks ih b h;simp only[Bj]at h ⊢;obtain⟨h0,hl,bs,a,c,h1,h2,h3⟩:=h;exact⟨hS b (by omega) h0,by omega,bs,a,c,(h1.later hs hc).mono hS,(hk b h0 hl).trans h2,Am.imp' (fun k hk' _ hb=>ih k hk' hb) h3⟩
theorem Ay.of_in {S:Nat->Prop} {w:World}: ∀{ks:List Nd},(∀k ∈ ks,∀b,Bj S w k b->By w w.heap.size k b)-> ∀{bs},Am S w ks bs->Ay w w.heap.size ks bs
 | [],_,_,h=>by
   simp only[Am,Ay]at h ⊢;exact h
 |k::r,ih,bs,h=>by
  simp only[Am,Ay]at h ⊢;obtain⟨b,t,e,h1,h2⟩:=h;exact⟨b,t,e,ih k (by simp) b h1,Ay.of_in (fun x hx=>ih x (by simp[hx])) h2⟩
theorem Bj.now {S:Nat->Prop} {w:World}: ∀{n:Nd} {b:Nat},Bj S w n b->By w w.heap.size n b:=by
 intro n;refine Nd.ind (p:=fun n=> ∀{b:Nat},Bj S w n b->By w w.heap.size n b) ?_ ?_ n
 . intro es b h;simp only[Bj]at h;simp only[By];obtain⟨_,hl,a,c,h1,h2⟩:=h;exact⟨hl,a,c,h1.now,h2⟩
 . intro ks ih b h;simp only[Bj]at h;simp only[By];obtain⟨_,hl,bs,a,c,h1,h2,h3⟩:=h;exact⟨hl,bs,a,c,h1.now,h2,Ay.of_in (fun k hk _ hb=>ih k hk hb) h3⟩
theorem Am.now {S:Nat->Prop} {w:World} {ks:List Nd} {bs:List Nat} (h:Am S w ks bs):Ay w w.heap.size ks bs:=Ay.of_in (fun _ _ _ hk=>hk.now) h
theorem Am.of_at {B:Nat} {w:World}: ∀{ks:List Nd},(∀k ∈ ks,∀b,By w B k b->Bj (fun i=>i<B) w k b)-> ∀{bs},Ay w B ks bs->Am (fun i=>i<B) w ks bs
 | [],_,_,h=>by
   simp only[Am,Ay]at h ⊢;exact h
 |k::r,ih,bs,h=>by
  simp only[Am,Ay]at h ⊢;obtain⟨b,t,e,h1,h2⟩:=h;exact⟨b,t,e,ih k (by simp) b h1,Am.of_at (fun x hx=>ih x (by simp[hx])) h2⟩
theorem Bj.of_old {B:Nat} {w:World} {n:Nd} {b:Nat} (h:By w B n b) (hB:B<=w.heap.size):Bj (fun i=>i<B) w n b:=by
 revert b
 refine Nd.ind (p:=fun n=> ∀{b:Nat},By w B n b->Bj (fun i=>i<B) w n b) ?_ ?_ n
 . intro es b h;simp only[By]at h;simp only[Bj];obtain⟨hl,a,c,h1,h2⟩:=h;exact⟨hl,by omega,a,c,Ag.of_old h1 hB (Below.refl _ _),h2⟩
 . intro ks ih b h;simp only[By]at h;simp only[Bj];obtain⟨hl,bs,a,c,h1,h2,h3⟩:=h;exact⟨hl,by omega,bs,a,c,Ag.of_old h1 hB (Below.refl _ _),h2,Am.of_at (fun k hk _ hb=>ih k hk hb) h3⟩
section
variable {S T:Nat->Prop} {w w':World} {n:Nd} {b:Nat}
theorem Am.imp {ks:List Nd} {bs:List Nat} (hS: ∀i,i<w'.heap.size->S i->T i) (hs:w.heap.size<=w'.heap.size) (hk: ∀i,S i->i<w.heap.size->w'.heap[i]? =w.heap[i]?) (h:Am S w ks bs):Am T w' ks bs:=Am.imp' (fun _ _ _ h=>h.imp hS hs hk) h
theorem Am.of_old {B:Nat} {ks:List Nd} {bs:List Nat} (h:Ay w B ks bs) (hB:B<=w.heap.size):Am (fun i=>i<B) w ks bs:=Am.of_at (fun _ _ _ hk=>Bj.of_old hk hB) h
theorem Bj.mono (h:Bj S w n b) (hST: ∀i,i<w.heap.size->S i->T i):Bj T w n b:=h.imp hST (Nat.le_refl _) fun _ _ _=>rfl
theorem Am.mono {ks:List Nd} {bs:List Nat} (h:Am S w ks bs) (hST: ∀i,i<w.heap.size->S i->T i):Am T w ks bs:=h.imp hST (Nat.le_refl _) fun _ _ _=>rfl
theorem Bj.later (h:Bj S w n b) (hs:w.heap.size<=w'.heap.size) (hk: ∀i,S i->i<w.heap.size->w'.heap[i]? =w.heap[i]?):Bj S w' n b:=h.imp (fun _ _ h=>h) hs hk
theorem Am.later {ks:List Nd} {bs:List Nat} (h:Am S w ks bs) (hs:w.heap.size<=w'.heap.size) (hk: ∀i,S i->i<w.heap.size->w'.heap[i]? =w.heap[i]?):Am S w' ks bs:=h.imp (fun _ _ h=>h) hs hk
theorem Bj.below (h:Bj S w n b) (hb:Below w.heap.size w w'):Bj S w' n b:=h.later hb.size fun i _ hi=>hb.block i hi
theorem Am.below {ks:List Nd} {bs:List Nat} (h:Am S w ks bs) (hb:Below w.heap.size w w'):Am S w' ks bs:=h.later hb.size fun i _ hi=>hb.block i hi
theorem Am.at_: ∀{ks:List Nd} {bs:List Nat},Am S w ks bs-> ∀{i:Nat} {k:Nd},ks[i]? =some k-> ∃b,bs[i]? =some b/\Bj S w k b
 | [],bs,h,i,k,hi=>by simp at hi
 |x::r,bs,h,i,k,hi=>by
  simp only[Am]at h;obtain⟨b,t,rfl,h1,h2⟩:=h
  cases i with
  |zero=>
   simp only[List.getElem?_cons_zero,Option.some.injEq]at hi;subst hi;exact⟨b,rfl,h1⟩
  |succ i=>
   simp only[List.getElem?_cons_succ]at hi ⊢;exact Am.at_ h2 hi
theorem Am.app: ∀{ks ks':List Nd} {bs bs':List Nat},Am S w ks bs->Am S w ks' bs'->Am S w (ks++ks') (bs++bs')
 | [],ks',bs,bs',h,h'=>by
   simp only[Am]at h;subst h;exact h'
 |k::r,ks',bs,bs',h,h'=>by
  simp only[Am]at h;obtain⟨b,t,rfl,h1,h2⟩:=h;simp only[List.cons_append,Am];exact⟨b,t++bs',rfl,h1,Am.app h2 h'⟩
theorem Am.one (h:Bj S w n b):Am S w [n] [b]:=by
 simp only[Am];exact⟨b, [],rfl,h,rfl⟩
theorem Am.split: ∀{ks:List Nd} {bs:List Nat},Am S w ks bs-> ∀(i:Nat),Am S w (ks.take i) (bs.take i)/\Am S w (ks.drop i) (bs.drop i)
 | [],bs,h,i=>by
   simp only[Am]at h;subst h;simp[Am]
 |k::r,bs,h,0=>by
  simp only[List.take_zero,List.drop_zero];exact⟨by simp only[Am],h⟩
 |k::r,bs,h,i+1=>by
  simp only[Am]at h;obtain⟨b,t,rfl,h1,h2⟩:=h;obtain⟨a1,a2⟩:=Am.split h2 i;simp only[List.take_succ_cons,List.drop_succ_cons,Am];exact⟨⟨b,t.take i,rfl,h1,a1⟩,a2⟩
theorem Am.set: ∀{ks:List Nd} {bs:List Nat},Am S w ks bs-> ∀(i:Nat) {n:Nd} {b:Nat},Bj S w n b->Am S w (ks.set i n) (bs.set i b)
 | [],bs,h,i,n,b,_=>by
   simp only[Am]at h;subst h;simp[Am]
 |x::r,bs,h,0,n,b,hk=>by
  simp only[Am]at h;obtain⟨b',t,rfl,h1,h2⟩:=h;simp only[tk5,Am];exact⟨b,t,rfl,hk,h2⟩
 |x::r,bs,h,i+1,n,b,hk=>by
  simp only[Am]at h;obtain⟨b',t,rfl,h1,h2⟩:=h;simp only[tk6,Am];exact⟨b',t.set i b,rfl,h1,Am.set h2 i hk⟩
end
section
variable {P:Program}
theorem E6 (b:Nat): ∀(vs:List Value) (o:Nat) (w:World),w.setCells b o vs=A8 w b o vs
 | [],_,_=>rfl
 |_::r,o,_=>by rw[World.setCells,A8,E6 b r]
end
end Go.Proofs.YtnkmhaachfgaoaaGreatDoor
namespace Go.Proofs.YtnkmhaachfgaoaaGreatDoor
theorem Mt {α:Type} (p:α->Bool): ∀{l:List α},(l.Pairwise fun a b=>p a=true->p b=true)->l.countP (fun a=> !p a)=l.findIdx p
 | [],_=>by simp
 |x::r,h=>by
  obtain⟨h1,h2⟩:=List.pairwise_cons.1 h;rw[List.countP_cons,List.findIdx_cons,Mt p h2]
  cases hx:p x with
  |true=>
   have:r.findIdx p=0\/r= []:=by
    cases r with
    |nil=>exact .inr rfl
    |cons y s=>exact .inl (by rw[List.findIdx_cons,h1 y (by simp) hx];rfl)
   rcases this with e|e
   . simp[e]
   . subst e;simp
  |false=>simp
theorem Mc {α:Type} (l:List α) (f:α->Bool):(List.range l.length).countP (fun i=>(l[i]?.map f).getD false)=l.countP f:=by
 have h:(List.range l.length).map (fun i=>(l[i]?.map f).getD false)=l.map f:=by
  apply List.ext_getElem
  . simp
  . intro i h1 h2;simp at h1 h2;simp[h2]
 have e1:(List.range l.length).countP (fun i=>(l[i]?.map f).getD false)=((List.range l.length).map (fun i=>(l[i]?.map f).getD false)).countP id:=by rw[List.countP_map];rfl
 have e2:l.countP f=(l.map f).countP id:=by rw[List.countP_map];rfl
 rw[e1,e2,h]
theorem Abp (k:ByteArray): ∀l:List Ax,Cy k l=l.findIdx fun e=> !Bn e.1 k
 | []=>by simp[Cy]
 |(a,x)::r=>by
  rw[List.findIdx_cons];simp only[Cy];by_cases h:Bn a k=true
  . rw[if_pos h,h,Abp k r];simp
  . rw[if_neg h];have:Bn a k=false:=by simpa using h
    rw[this];simp
theorem Aec {k:ByteArray} {l:List Ax} (h:Az l):l.Pairwise fun a b=>(!Bn a.1 k)=true->(!Bn b.1 k)=true:=by
 refine h.imp fun {a b} hab ha=> ?_
 cases hb:Bn b.1 k with
 |false=>rfl
 |true=>rw[Bw hab hb]at ha;exact ha
theorem Aeq {k:ByteArray} {l:List Ax} (h:Az l):(List.range l.length).countP (fun i=>(l[i]?.map fun e=>Bn e.1 k).getD false)=Cy k l:=by
 rw[Mc,Abp,<-Mt _ (Aec h)]
 congr 1
 funext e
 simp
end Go.Proofs.YtnkmhaachfgaoaaGreatDoor
namespace Go.Proofs.YtnkmhaachfgaoaaGreatDoor
open Go.RowKit
def Wr (W:World) (B g:Nat) (keeps:Bool) (acc:List UInt8):Prop:=
 ∃p v,Nf W B g 1 136 #[.bool keeps,p,v,.int .i64 (acc.length:Int)] (if keeps then acc else [])
theorem Aje:liesAt Tryz.prog Tryz.prog.depth 136 (4 / Tryz.prog.cellsOf 136) 1 134 1=true:=by kernel_rfl
theorem Nf.other {w:World} {B g o:Nat} {t:TypeId} {cs:Array Value} {bs:List UInt8} (h:Nf w B g o t cs bs) (i:Nat) (hi:i≠o) (hi2:i≠o+1) (u:Value):
 Nf (w.setCell ⟨g,i,none⟩ u) B g o t (cs.setIfInBounds i u) bs:=by
 obtain⟨hB,hb,ht,hs,h0,v,h1,hown⟩:=h;refine⟨hB,B6 hb _,ht,by simpa using hs, ?_,v,by rw[Array.getElem?_setIfInBounds,if_neg hi2];exact h1, ?_⟩
 . rw[Array.getElem?_setIfInBounds,if_neg hi];exact h0
 . exact hown.kept (row:=some g) ⟨rfl,rfl,rfl,by simp[World.setCell],fun k _ hk=>Below.heap_setCell _ _ _ _ (fun e=>hk (by simp[e]))⟩ (Or.inr (Lib.ownBlock_ne hown hb ht))
theorem Wr.below {A W:World} {B g:Nat} {k:Bool} {acc:List UInt8} (h:Wr A B g k acc) (hb:Below A.heap.size A W):Wr W B g k acc:=by
 obtain⟨p,v,h⟩:=h;exact⟨p,v,h.keep (I0 hb) (fun k e=>by cases e)⟩
theorem Wr.put {A:World} {B g k:Nat} {b:Bool} {acc:List UInt8} {o o':Obj} (h:Wr A B g b acc) (ho:A.heap[k]? =some o) (hc:o.isCells=false):Wr (A.putObj k o') B g b acc:=by
 obtain⟨p,v,h⟩:=h;exact⟨p,v,h.keep (grownBy_putObj' A k o') (fun j e=>by cases e;exact⟨o,ho,hc⟩)⟩
theorem Wr.lt {A:World} {B g:Nat} {k:Bool} {acc:List UInt8} (h:Wr A B g k acc):g<A.heap.size:=by
 obtain⟨p,v,h⟩:=h;exact h.lt
theorem Wr.base {A:World} {B g:Nat} {k:Bool} {acc:List UInt8} (h:Wr A B g k acc):B<=g:=by
 obtain⟨p,v,h⟩:=h;exact h.1
def Eh (ss:List ByteArray):List UInt8:=ss.flatMap fun s=>s.data.toList
theorem Acu (ss:List ByteArray) (s:ByteArray):Eh (ss++ [s])=Eh ss++s.data.toList:=by simp[Eh]
theorem Aae (B g:Nat) (keeps:Bool) (acc:List UInt8) (ss:List ByteArray) (b c:Nat) (w:World) (h:Wr w B g keeps acc) (hp:w.heap[b]? =some (.cells (ss.map Value.string).toArray 9 (0,0))) (hbg:b≠g)
 (hlen:acc.length+(Eh ss).length<=50000000000) (hn:ss.length<=1000):
 Calls Tryz.prog 130 #[.pointer (some ⟨g,0,none⟩),.slice (some ⟨b,0,none⟩) ss.length c] w fun e w'=>e=.returned (.tuple #[])/\Wr w' B g keeps (acc++Eh ss)/\Below B w w'/\Ef g w w':=by
 go_enter Tryz.func130,Tryz.ntmps130;go_wp2;go_loopw [8] (fun i wr=> ∃k:Nat,k<=ss.length/\i=.int .i64 k/\Wr wr B g keeps (acc++Eh (ss.take k))/\Below B w wr/\Ef g w wr) (fun i _=>ss.length - (intOf i).toNat)
 case atStart=>exact⟨0,Nat.zero_le _,rfl,by simpa[Eh]using h,Below.refl _ _,Lib.OthersKept.refl _ _ _⟩
 case round=>
  obtain⟨k,hk,rfl,hw,hb,hkp⟩:=hrel;by_cases hlt:k<ss.length
  . obtain⟨s,hs⟩: ∃s,ss[k]? =some s:=⟨_,List.getElem?_eq_getElem hlt⟩;have htk:ss.take (k+1)=ss.take k++ [s]:=by rw[List.take_add_one,hs];rfl
    have hfl:(Eh ss).length=(Eh (ss.take k)).length+s.size+(Eh (ss.drop (k+1))).length:=by
     have:ss=ss.take k++ [s]++ss.drop (k+1):=by rw[<-htk,List.take_append_drop]
     have h2:=congrArg (fun l=>(Eh l).length) this;simp only[Eh,List.flatMap_append,List.length_append,List.flatMap_cons,List.flatMap_nil,List.append_nil]at h2 ⊢;rw[h2,Lib.size_eq]
    have hpr:=hkp _ _ hp (by simpa using hbg) (fun c fz e=>by cases e);have cp:wr.cell? ⟨b,k,none⟩=some (.string s):=by rw[Lib.cell_of_heap hpr];simp[hs]
    obtain⟨p,v,hbl⟩:=hw;have hbl':=hbl;obtain⟨hB,hbk,ht,_,_,_⟩:=hbl';have g0:wr.cell? ⟨g,0,none⟩=some (.bool keeps):=by rw[Lib.cell_of_heap hbk];rfl
    have g3:wr.cell? ⟨g,3,none⟩=some (.int .i64 ((acc++Eh (ss.take k)).length:Int)):=by rw[Lib.cell_of_heap hbk];rfl
    have f3:wr.frozen? ⟨g,3,none⟩=false:=Lib.frozen_of_heap hbk 3;have hln:(acc++Eh (ss.take k)).length<=50000000000:=by rw[List.length_append];omega
    have hln2:(acc++Eh (ss.take k)).length+s.size<=50000000000:=by rw[List.length_append];omega
    have hz:=hbl.lt;have hfin:acc++Eh (ss.take (k+1))=(acc++Eh (ss.take k))++s.data.toList:=by rw[htk,Acu,List.append_assoc]
    generalize acc++Eh (ss.take k)=L at*
    have Hfin:=qz hfin;have He:=qz (show((L.length:Int)+(s.size:Int))=((L++s.data.toList).length:Int)from by rw[List.length_append,<-Lib.size_eq];omega);clear hfin hbk htk hfl
    cases keeps
    . have hbs:Nf (wr.setCell ⟨g,3,none⟩ (.int .i64 ((L.length:Int)+(s.size:Int)))) B g 1 136 #[.bool false,p,v,.int .i64 ((L.length:Int)+(s.size:Int))] []:=hbl.other 3 (by omega) (by omega) _;go_wp2;go_roundw
      case rel=>
       refine⟨k+1,by omega,by go_num, ?_,hb.setCell (p:=⟨g,3,none⟩) hB _,hkp.setCell ⟨g,3,none⟩ rfl _⟩;rw[Hfin.out];rw[He.out]at hbs ⊢;exact⟨p,v,hbs⟩
      case measure=>simp[intOf];omega
    . have hbs:Nf (wr.setCell ⟨g,3,none⟩ (.int .i64 ((L.length:Int)+(s.size:Int)))) B g 1 136 #[.bool true,p,v,.int .i64 ((L.length:Int)+(s.size:Int))] L:=hbl.other 3 (by omega) (by omega) _;go_wp2_with (go_at_call 180;refine(Iz B g 1 _ _ L s _ hbs Aje (by omega) (by simp[World.setCell];omega)).mono ?_;rintro e w2 ⟨rfl,⟨v',hb2⟩,hbw2,hk2⟩);go_roundw
      case rel=>
       refine⟨k+1,by omega,by go_num, ?_,(hb.setCell (p:=⟨g,3,none⟩) hB _).trans hbw2,(hkp.setCell ⟨g,3,none⟩ rfl _).trans hk2⟩;rw[Hfin.out];rw[He.out]at hb2;exact⟨_,v',hb2⟩
      case measure=>simp[intOf];omega
  . obtain rfl:k=ss.length:=by omega
    rw[List.take_length]at hw;have Hw:=qz hw;clear hw;go_wp2
    go_end0
    exact⟨rfl,Hw.out,hb,hkp⟩
def Df (s:ByteArray):List UInt8:=34::As (E4 s)++ [34]
mutual
def Cg:Val->List UInt8
 | .mk k b n t l o=>
   if k=2 then Lib.formatBool b else if k=3 then Lib.itoa n else if k=4 then Df t
   else if k=5 then 91::(Cw l true++ [93])else if k=6 then 123::(Cx o true++ [125])else [110,117,108,108]
def Cw:List Val->Bool->List UInt8
 | [],_=> []
 |v::r,f=>(if f then []else [44])++(Cg v++Cw r false)
def Cx:List (ByteArray×Val)->Bool->List UInt8
 | [],_=> []
 |p::r,f=>(if f then []else [44])++(Yy p++Cx r false)
def Yy:ByteArray×Val->List UInt8
 |(key,v)=>Df key++(58::Cg v)
end
mutual
def Ze:Val->Prop
 | .mk _ _ n t l o=>A4 t=true/\(-9223372036854775808<=n/\n<=9223372036854775807)/\Zd l/\okO o
def Zd:List Val->Prop
 | []=>True
 |v::r=>Ze v/\Zd r
def okO:List (ByteArray×Val)->Prop
 | []=>True
 |p::r=>okP p/\okO r
def okP:ByteArray×Val->Prop
 |(key,v)=>A4 key=true/\Ze v
end
def L9 (k:Int):Nat:=
 if k=2 then 129 else if k=3 then 132 else if k=4 then 134 else if k=5 then 136 else if k=6 then 138 else 140
def Hg (k:Int) (p:Nat):Array Value:=
 if k=2\/k=3\/k=4\/k=5\/k=6 then #[.pointer (some ⟨p,0,none⟩)]else #[]
theorem I6 (k:Int) (args:Array Value) (w:World):(callFunc (L9 k) args).run Tryz.prog w=.ok (.enter (L9 k) args) w:=by
 unfold L9
 split
 . exact enters_of Tryz.func129 (by kernel_rfl) rfl args w
 split
 . exact enters_of Tryz.func132 (by kernel_rfl) rfl args w
 split
 . exact enters_of Tryz.func134 (by kernel_rfl) rfl args w
 split
 . exact enters_of Tryz.func136 (by kernel_rfl) rfl args w
 split
 . exact enters_of Tryz.func138 (by kernel_rfl) rfl args w
 . exact enters_of Tryz.func140 (by kernel_rfl) rfl args w
theorem L1 (k:Int) (b:Bool) (n:Int) (t:ByteArray) (la oa:Option Addr) (ln lc on oc:Nat) (w:World):
 Calls Tryz.prog 79 #[.agg #[.int .i64 k,.bool b,.int .i64 n,.string t,.slice la ln lc,.slice oa on oc]] w fun e w'=>
  e=.returned (.func (.func (L9 k)) #[] (Hg k w.heap.size))/\w.alloc (.cells #[.int .i64 k,.bool b,.int .i64 n,.string t,.slice la ln lc,.slice oa on oc] 40)=w':=by
 rcases(by omega:k=2\/k=3\/k=4\/k=5\/k=6\/(k≠2/\k≠3/\k≠4/\k≠5/\k≠6))with rfl|rfl|rfl|rfl|rfl|⟨h2,h3,h4,h5,h6⟩
 all_goals
  try have e2:(k==2)=false:=by simpa using h2
  try have e3:(k==3)=false:=by simpa using h3
  try have e4:(k==4)=false:=by simpa using h4
  try have e5:(k==5)=false:=by simpa using h5
  try have e6:(k==6)=false:=by simpa using h6
  try have hf:Hid (L9 k=140):=by show _=_;simp[L9,h2,h3,h4,h5,h6]
  try have hc:Hid (Hg k w.heap.size= #[]):=by show _=_;simp[Hg,h2,h3,h4,h5,h6]
  try clear h2 h3 h4 h5 h6
  go_enter Tryz.func79,Tryz.ntmps79;go_wp2;go_ret
 all_goals first|exact⟨rfl,rfl⟩|exact⟨by rw[hf.out,hc.out];rfl,rfl⟩
def Ui (v:Val):Prop:= ∀(W:World) (B g p:Nat) (keeps:Bool) (acc:List UInt8) (cs:List Value) (k:Int) (b:Bool) (n:Int) (t:ByteArray) (l:List Val) (o:List (ByteArray×Val)),v=.mk k b n t l o->5<=B->Cr W->Ab W B v cs->
    W.heap[p]? =some (.cells cs.toArray 40 (0,0))->p≠g->Wr W B g keeps acc->Ze v->v.bulk<=1000000000->acc.length+6*v.bulk<=20000000000->
    Calls Tryz.prog (L9 k) (#[.pointer (some ⟨g,0,none⟩)]++Hg k p) W fun e W'=>e=.returned (.tuple #[])/\Wr W' B g keeps (acc++Cg v)/\Below B W W'/\Ef g W W'
theorem Cr.keep {w w':World} {B:Nat} (h:Cr w) (hb:Below B w w') (h5B:5<=B):Cr w':=by
 obtain⟨h5,⟨h1,h2⟩,h3⟩:=h;refine⟨Nat.le_trans h5 hb.size,⟨fun c hc=> ?_,fun i hi=>⟨?_, ?_⟩⟩, ?_⟩
 . exact(hb.cell (p:=⟨2,c,none⟩) (by show 2<_;omega)).trans (h1 c hc)
 . exact(hb.cell (p:=⟨3,2*i,none⟩) (by show 3<_;omega)).trans (h2 i hi).1
 . exact(hb.cell (p:=⟨3,2*i+1,none⟩) (by show 3<_;omega)).trans (h2 i hi).2
 . have hg:Tryz.prog.globalNamed "internal/strconv.uint64pow10" =some 4:=by kernel_rfl
   unfold Lib.TabIs World.var? at h3 ⊢;rw[hg]at h3 ⊢;simp only[Option.bind_some]at h3 ⊢;rw[hb.block 4 (by omega)];exact h3
theorem Aac (W:World) (k:Nat) (os:Array Obj):Below W.heap.size W (Sort.grow (W.drewN k) os):=
 ⟨rfl,rfl,rfl,by show W.heap.size<=(W.heap++os).size;simp,fun i hi=>by show(W.heap++os)[i]? =W.heap[i]?;rw[Array.getElem?_append_left hi]⟩
theorem Lb (b:Bool):(Lib.formatBool b).length<=5:=by cases b<;>decide
theorem Gu (l:List UInt8):Eh [⟨l.toArray⟩]=l:=by simp[Eh]
theorem Ez {B g:Nat} {keeps:Bool} {acc:List UInt8} {w:World} (ss:List ByteArray) (c:Nat) (h:Wr w B g keeps acc) (hlen:acc.length+(Eh ss).length<=50000000000) (hn:ss.length<=1000):
 Calls Tryz.prog 130 #[.pointer (some ⟨g,0,none⟩),.slice (some ⟨w.heap.size,0,none⟩) ss.length c] (w.alloc (.cells (ss.map Value.string).toArray 9 (0,0))) fun e w'=>e=.returned (.tuple #[])/\Wr w' B g keeps (acc++Eh ss)/\Below B w w'/\Ef g w w':=by
 have hlt:=h.lt;have hb:=h.base;refine(Aae B g keeps acc ss w.heap.size c _ (h.below ((Below.refl _ _).alloc (Nat.le_refl _) _)) (heap_alloc_new _ _) (by omega) hlen hn).mono ?_;rintro e w' ⟨rfl,h1,h2,h3⟩;exact⟨rfl,h1,((Below.refl B w).alloc (by omega) _).trans h2,((Lib.OthersKept.refl _ _ w).alloc _).trans h3⟩
theorem Za (W:World) (B g p:Nat) (keeps:Bool) (acc:List UInt8) (b:Bool) (v2 v3 v4 v5:Value) (k:Value) (hp:W.heap[p]? =some (.cells #[k,.bool b,v2,v3,v4,v5] 40 (0,0)))
 (hW:Wr W B g keeps acc) (hlen:acc.length<=20000000000):
 Calls Tryz.prog 129 #[.pointer (some ⟨g,0,none⟩),.pointer (some ⟨p,0,none⟩)] W fun e W'=>e=.returned (.tuple #[])/\Wr W' B g keeps (acc++Lib.formatBool b)/\Below B W W'/\Ef g W W':=by
 have c1:W.cell? ⟨p,1,none⟩=some (.bool b):=(Lib.cell_of_heap hp 1).trans rfl;have hj:=Ez [⟨(Lib.formatBool b).toArray⟩] 1 hW (by rw[Gu];have:=Lb b;omega) (by simp);rw[Gu]at hj;have cB:=Tryz.strconv_FormatBool b W;generalize Lib.formatBool b=L at hj cB ⊢;obtain⟨HJ,CB⟩:=hid2 hj cB;clear hj cB;go_enter Tryz.func129,Tryz.ntmps129;go_wp2_with (first|(go_at_call 131;refine(CB.out).mono ?_;rintro e wx ⟨rfl,hwx⟩;subst hwx)|(go_at_call 130;refine(HJ.out).mono ?_;rintro e w2 ⟨rfl,h1,h2,h3⟩))
 go_end0
 exact⟨rfl,h1,h2,h3⟩
theorem Abg (W:World) (B g p:Nat) (keeps:Bool) (acc:List UInt8) (n:Int) (v1 v3 v4 v5:Value) (k:Value) (hp:W.heap[p]? =some (.cells #[k,v1,.int .i64 n,v3,v4,v5] 40 (0,0)))
 (hT:Cr W) (hn0: -9223372036854775808<=n) (hn1:n<=9223372036854775807) (_hpg:p≠g) (hW:Wr W B g keeps acc) (hlen:acc.length<=20000000000):
 Calls Tryz.prog 132 #[.pointer (some ⟨g,0,none⟩),.pointer (some ⟨p,0,none⟩)] W fun e W'=>e=.returned (.tuple #[])/\Wr W' B g keeps (acc++Lib.itoa n)/\Below B W W'/\Ef g W W':=by
 have c1:W.cell? ⟨p,2,none⟩=some (.int .i64 n):=(Lib.cell_of_heap hp 2).trans rfl;have hl:=Lib.itoa_length_le n hn0 hn1;have cB:=Tryz.strconv_FormatInt_10 n hn0 hn1 W hT.2.2;have hj: ∀w1,Below W.heap.size W w1->Calls Tryz.prog 130 #[.pointer (some ⟨g,0,none⟩),.slice (some ⟨w1.heap.size,0,none⟩) 1 1] (w1.alloc (.cells #[.string ⟨(Lib.itoa n).toArray⟩] 9 (0,0))) fun e w'=>e=.returned (.tuple #[])/\Wr w' B g keeps (acc++Lib.itoa n)/\Below B w1 w'/\Ef g w1 w':=fun w1 hb=>by
  have:=Ez [⟨(Lib.itoa n).toArray⟩] 1 (hW.below hb) (by rw[Gu];omega) (by simp)
  rwa [Gu]at this
 have hB:=hW.base;have hlt:=hW.lt;generalize Lib.itoa n=L at hj cB ⊢;obtain⟨HJ,CB⟩:=hid2 hj cB;clear hj cB hl hp;go_enter Tryz.func132,Tryz.ntmps132;go_wp2_with (first|(go_at_call 133;refine(CB.out).mono ?_;rintro e w1 ⟨rfl,kk,os,hwx⟩;have hb1:Below W.heap.size W w1:=hwx▸Aac W kk os;clear hwx)|(go_at_call 130;refine(HJ.out _ hb1).mono ?_;rintro e w2 ⟨rfl,h1,h2,h3⟩))
 go_end0
 exact⟨rfl,h1,(hb1.mono (by omega)).trans h2,fun j o hj hg ho=>h3 j o ((hb1.block j (Array.getElem?_eq_some_iff.1 hj).1).trans hj) hg ho⟩
theorem Zb (W:World) (B g:Nat) (keeps:Bool) (acc:List UInt8) (hW:Wr W B g keeps acc) (hlen:acc.length<=20000000000):
 Calls Tryz.prog 140 #[.pointer (some ⟨g,0,none⟩)] W fun e W'=>e=.returned (.tuple #[])/\Wr W' B g keeps (acc++ [110,117,108,108])/\Below B W W'/\Ef g W W':=by
 have HJ:=qz (Ez [⟨#[110,117,108,108]⟩] 1 hW (by simp[Eh];omega) (by simp));go_enter Tryz.func140,Tryz.ntmps140;go_wp2_with (go_at_call 130;refine(HJ.out).mono ?_;rintro e w2 ⟨rfl,h1,h2,h3⟩)
 go_end0
 exact⟨rfl,h1,h2,h3⟩
theorem Pm (s:ByteArray) (w:World) (hT:Cr w) (hs:s.size<=1000000000) (hv:A4 s=true):
 Calls Tryz.prog 135 #[.string s] w fun e w'=>e=.returned (.string ⟨(Df s).toArray⟩)/\Below w.heap.size w w':=by
 have cQ:=Wh s w hT hs hv;unfold Df;generalize 34::As (E4 s)++ [34]=L at cQ ⊢;have CQ:=qz cQ;clear cQ;go_enter Tryz.func135,Tryz.ntmps135;go_wp2_with (go_at_call 183;refine(CQ.out).mono ?_;rintro e w2 ⟨rfl,h1⟩);go_ret;exact⟨rfl,h1⟩
theorem Ip (s:ByteArray):(Df s).length<=6*s.size+2:=by
 have e1:=F8 (E4 s);have e3:=E5 s.size s.data.toList 0;unfold E4 at e1;unfold Df E4;simp only[List.length_cons,List.length_append,List.length_nil];omega
theorem Zc (W:World) (B g p:Nat) (keeps:Bool) (acc:List UInt8) (t:ByteArray) (v1 v2 v4 v5:Value) (k:Value) (hp:W.heap[p]? =some (.cells #[k,v1,v2,.string t,v4,v5] 40 (0,0)))
 (hT:Cr W) (hv:A4 t=true) (ht:t.size<=1000000000) (_hpg:p≠g) (hW:Wr W B g keeps acc) (hlen:acc.length<=20000000000):
 Calls Tryz.prog 134 #[.pointer (some ⟨g,0,none⟩),.pointer (some ⟨p,0,none⟩)] W fun e W'=>e=.returned (.tuple #[])/\Wr W' B g keeps (acc++Df t)/\Below B W W'/\Ef g W W':=by
 have c1:W.cell? ⟨p,3,none⟩=some (.string t):=(Lib.cell_of_heap hp 3).trans rfl;have hl:=Ip t;have cB:=Pm t W hT ht hv;have hj: ∀w1,Below W.heap.size W w1->Calls Tryz.prog 130 #[.pointer (some ⟨g,0,none⟩),.slice (some ⟨w1.heap.size,0,none⟩) 1 1] (w1.alloc (.cells #[.string ⟨(Df t).toArray⟩] 9 (0,0))) fun e w'=>e=.returned (.tuple #[])/\Wr w' B g keeps (acc++Df t)/\Below B w1 w'/\Ef g w1 w':=fun w1 hb=>by
  have:=Ez [⟨(Df t).toArray⟩] 1 (hW.below hb) (by rw[Gu];omega) (by simp)
  rwa [Gu]at this
 have hB:=hW.base;have hlt:=hW.lt;generalize Df t=L at hj cB ⊢;obtain⟨HJ,CB⟩:=hid2 hj cB;clear hj cB hl hp;go_enter Tryz.func134,Tryz.ntmps134;go_wp2_with (first|(go_at_call 135;refine(CB.out).mono ?_;rintro e w1 ⟨rfl,hb1⟩)|(go_at_call 130;refine(HJ.out _ hb1).mono ?_;rintro e w2 ⟨rfl,h1,h2,h3⟩))
 go_end0
 exact⟨rfl,h1,(hb1.mono (by omega)).trans h2,fun j o hj hg ho=>h3 j o ((hb1.block j (Array.getElem?_eq_some_iff.1 hj).1).trans hj) hg ho⟩
theorem Ma (i:Int) (w:World):Calls Tryz.prog 137 #[.int .i64 i] w fun e w'=>e=.returned (.string ⟨(if i=0 then []else [44]:List UInt8).toArray⟩)/\w=w':=by
 by_cases h:i=0
 . subst h;go_enter Tryz.func137,Tryz.ntmps137;go_wp2;go_ret;exact⟨rfl,rfl⟩
 . have e:(i==0)=false:=by simpa using h
   rw[if_neg h];clear h;go_enter Tryz.func137,Tryz.ntmps137;go_wp2;go_ret;exact⟨rfl,rfl⟩
def Ke:List Int:= [34,92,47,8,12,10,13,9]
theorem Wi (k:Nat) (c:Int) (h:Ke[k]? =some c) (w:World):
 Calls Tryz.prog 144 #[.int .i64 k] w fun e w'=>e=.returned (.int .i64 c)/\Below w.heap.size w w':=by
 have hk:k<8:=(List.getElem?_eq_some_iff.1 h).1;rcases(by omega:k=0\/k=1\/k=2\/k=3\/k=4\/k=5\/k=6\/k=7)with rfl|rfl|rfl|rfl|rfl|rfl|rfl|rfl
 all_goals
  (obtain rfl:=Option.some.inj h
   clear h hk;go_enter Tryz.func144,Tryz.ntmps144;go_wp2;go_ret;exact⟨rfl,(Below.refl _ _).alloc (Nat.le_refl _) _⟩)
theorem Sb (v:Val) (cs:List Value) (w:World) (hV:Ab w w.heap.size v cs) (hb:v.bulk<=100000000):
 Calls Tryz.prog 109 #[.agg cs.toArray] w (J8 w v):=by
 obtain⟨k,b,n,t,l,o⟩:=v;simp only[Ab]at hV;obtain⟨la,lc,oa,oc,rfl,hla,hoa⟩:=hV;simp only[Val.bulk]at hb;by_cases h5:k=5
 . subst h5;exact Y9 b n t l o la oa oc lc w hla (by omega)
 by_cases h6:k=6
 . subst h6;exact Abc b n t l o la oa oc lc w hoa (by omega)
 have Hw:=qz (show within (.mk k b n t l o)= []from by simp[within,h5,h6]);have e5:(k==5)=false:=by simpa using h5
 have e6:(k==6)=false:=by simpa using h6
 clear hla hoa hb h5 h6;go_enter Tryz.func109,Tryz.ntmps109;go_wp2;go_ret;exact⟨⟨none,0,by rw[Hw.out];rfl,.inl Hw.out⟩,(Below.refl _ _).alloc (Nat.le_refl _) _⟩
theorem Ti: ∀o:List (ByteArray×Val),Gs o=Ea (o.map (·.2))
 | []=>rfl
 |(k,v)::r=>by simp only[Gs,W9,List.map_cons,Ea,Ti r]
theorem Ur (v:Val):Dy v=1+Ea (within v):=by
 obtain⟨k,b,n,t,l,o⟩:=v;simp only[Dy,within];by_cases h5:k=5
 . simp[h5]
 by_cases h6:k=6
 . simp[h6,Ti]
 . simp[h5,h6,Ea]
theorem Tg: ∀o:List (ByteArray×Val),Bc (o.map (·.2))<=Ac o
 | []=>by simp[Bc]
 |(k,v)::r=>by
  have:=Tg r;simp only[List.map_cons,Bc,Ac,Dg];omega
theorem Y8 (v:Val):Bc (within v)<=v.bulk:=by
 obtain⟨k,b,n,t,l,o⟩:=v;have:=Tg o;simp only[within,Val.bulk]
 split
 . omega
 split
 . omega
 . simp[Bc]
def Zi (v:Val):Prop:= ∀(cs:List Value) (w:World),Ab w w.heap.size v cs->v.bulk<=100000000->
    Calls Tryz.prog 67 #[.agg cs.toArray] w fun e w'=>e=.returned (.int .i64 (Dy v))/\Below w.heap.size w w'
theorem Aa0 (v:Val) (IH: ∀x ∈ within v,Zi x):Zi v:=by
 intro cs w hV hb;have hV':=hV;have hbw:=Y8 v;have hlw:=Ct (within v);have hdw:=Ns (within v) (fun x _=>Jr x);have hW0:=fun w' (h:Below w.heap.size w w')=>Sb v cs w' (Ab.more h.size _ _ (hV.below h)) hb;rw[Ur];unfold J8 at hW0;generalize within v=L at*
 obtain⟨k,b,n,t,l,o⟩:=v;simp only[Ab]at hV';obtain⟨la,lc,oa,oc,rfl,_,_⟩:=hV';obtain⟨HI,HW⟩:=hid2 IH hW0;obtain⟨M,hM⟩: ∃M,Ea L=M:=⟨_,rfl⟩;rw[hM]at hdw ⊢;have H0:Hid (max 0 (Ea (L.drop 0))=M):=by show _=_;rw[List.drop_zero,hM];simp
 have HB1:Hid (Below w.heap.size w (w.alloc (.cells (Dk k b n t la l.length lc oa o.length oc).toArray 40))):=(Below.refl _ _).alloc (Nat.le_refl _) _;clear IH hW0 hM hV;go_enter Tryz.func67,Tryz.ntmps67;go_wp2_with (fail);(with_reducible refine(HW.out _ HB1.out).mono ?_);rintro e w2 ⟨⟨la',lc',rfl,hsl⟩,hb2⟩;have Hsl:=qz hsl;have HB2:=qz (HB1.out.trans (hb2.mono HB1.out.size));clear hsl hb2 HB1 HW;go_wp2_with (fail);have HBr:Hid (Below w2.heap.size w2 w2):=Below.refl _ _;go_loopw [3,5] (fun m i wr=> ∃D k:Nat,m=.int .i64 D/\i=.int .i64 k/\k<=L.length/\Hid (max D (Ea (L.drop k))=M)/\D<=M/\Hid (Below w2.heap.size w2 wr)) (fun _ i _=>L.length - (intOf i).toNat)
 case atStart=>exact⟨0,0,rfl,rfl,Nat.zero_le _,H0,Nat.zero_le _,HBr⟩
 case round=>
  obtain⟨D,k,rfl,rfl,hk,hD,hDM,hbw⟩:=hrel;clear H0 HBr;by_cases hlt:k<L.length
  . obtain⟨g,off,rfl,hg,hL⟩: ∃g off,la'=some ⟨g,off,none⟩/\g<w2.heap.size/\Aj w2 w2.heap.size L g off:=by
     rcases Hsl.out with h|h
     . rw[h]at hlt;simp at hlt
     . exact h
    obtain⟨x,hx⟩: ∃v,L[k]? =some v:=⟨_,List.getElem?_eq_getElem hlt⟩;have hmem:x ∈ L:=List.mem_of_getElem? hx;have hbv:=Da hmem;have hdv:=Jr x;have hdrop:L.drop k=x::L.drop (k+1):=Ch hx;have hD':=hD.out;rw[hdrop]at hD';simp only[Ea]at hD';have IHx:=HI.out x hmem;have hz:=hbw.out.size;obtain⟨m,hm⟩: ∃m,Dy x=m:=⟨_,rfl⟩;obtain⟨k',b',n',t',l',o'⟩:=x;obtain⟨la',lc',oa',oc',hvs,c0,c1,c2,c3,c4,c5⟩:=(hL.below hg hbw.out).six hx;have CT:=IHx _ wr (Ab.more hz _ _ hvs) (by omega);rw[hm]at CT hD' hdv;have hCT:=qz CT;have Hn:Hid (max (max D m) (Ea (L.drop (k+1)))=M):=by show _=_;omega
    have hmM:max D m<=M:=by omega
    clear CT hD hD' hdrop IHx hm hvs hx hmem hL hg hdv hbv;by_cases hgt:D<m
    . have e1:max D m=m:=by omega
      rw[e1]at Hn hmM;clear e1;go_wp2_with (fail);(with_reducible refine hCT.out.mono ?_);rintro e w4 ⟨rfl,hb4⟩;have hbw4:=qz (hbw.out.trans (hb4.mono hz));clear hb4 hbw hCT;go_wp2;go_roundw
      case rel=>exact⟨m,k+1,rfl,by go_num,by omega,Hn,hmM,hbw4⟩
      case measure=>simp only[intOf];omega
    . have e1:max D m=D:=by omega
      rw[e1]at Hn hmM;clear e1;go_wp2_with (fail);(with_reducible refine hCT.out.mono ?_);rintro e w4 ⟨rfl,hb4⟩;have hbw4:=qz (hbw.out.trans (hb4.mono hz));clear hb4 hbw hCT;go_wp2;go_roundw
      case rel=>exact⟨D,k+1,rfl,by go_num,by omega,Hn,hmM,hbw4⟩
      case measure=>simp only[intOf];omega
  . obtain rfl:k=L.length:=by omega
    have hD':=hD.out;rw[List.drop_length]at hD';simp only[Ea]at hD';obtain rfl:D=M:=by omega
    have Hc:=qz (show(D:Int)+1=((1+D:Nat):Int)from by omega);clear hD hD';go_wp2;go_ret;exact⟨by rw[<-Hc.out];rfl,HB2.out.trans (hbw.out.mono HB2.out.size)⟩
theorem Yl: ∀v,Zi v:=by
 refine Val.ind ?_;intro k b n t l o IHl IHo;refine Aa0 _ (fun x hx=> ?_);simp only[within]at hx
 split at hx
 . exact IHl x hx
 split at hx
 . obtain⟨m,hm,rfl⟩:=List.mem_map.1 hx;exact IHo m hm
 . cases hx
def Adz (v:Val):Prop:= ∀(cs:List Value) (w:World),Ab w w.heap.size v cs->v.bulk<=100000000->
    Calls Tryz.prog 35 #[.agg cs.toArray] w fun e w'=>(∃cs',e=.returned (.agg (cs':List Value).toArray)/\cs'.length=6/\Mo w w' v cs')/\Below w.heap.size w w'
end Go.Proofs.YtnkmhaachfgaoaaGreatDoor
