/- Parts: The mutators' readers of del and move: what they make of their members. Condition: at most 10^6 members. -/
import Derived.Test.YtobmaegpfbheoaaGreatDoorKPf13
import Derived.Test.YtobmaegpfbheoaaGreatDoorKPushForms1
set_option maxHeartbeats 20000000
set_option maxRecDepth 100000
namespace Go.Proofs.YtobmaegpfbheoaaGreatDoor
open Go Go.RowKit
def kOf:Option Val->Int
 |none=>0
 |some (.mk k _ _ _ _ _)=>k
def tOf:Option Val->ByteArray
 |none=>⟨#[]⟩
 |some (.mk _ _ _ t _ _)=>t
theorem M0.six {o:List (ByteArray×Val)} {key:ByteArray} {w w':World} {e:Ending} (h:M0 o key w e w'):Below w.heap.size w w'/\ ∃b n la ln lc oa on oc,
 e=.returned (.tuple #[.agg #[.int .i64 (kOf (Fo key o)),.bool b,.int .i64 n,.string (tOf (Fo key o)),.slice la ln lc,.slice oa on oc],.bool (Fo key o).isSome])/\
 ∀x,Fo key o=some x->Ag w w.heap.size (dV x) [.int .i64 (kOf (Fo key o)),.bool b,.int .i64 n,.string (tOf (Fo key o)),.slice la ln lc,.slice oa on oc]:=by
 obtain⟨hb,h⟩:=h;refine⟨hb, ?_⟩
 cases hf:Fo key o with
 |none=>
  rw[hf]at h;exact⟨false,0,none,0,0,none,0,0,h,fun x e=>by cases e⟩
 |some x=>
  rw[hf]at h;obtain⟨cs,rfl,hh⟩:=h;obtain⟨k,b,n,t,l,ob⟩:=x;have h6:=Cr _ _ hh;simp only[Ab]at h6;obtain⟨la,lc,oa,oc,rfl,_,_⟩:=h6;exact⟨b,n,la,l.length,lc,oa,ob.length,oc,rfl,fun y e=>by cases e;exact hh⟩
abbrev Rq (c:Int):Ending:=.panicked [{v:=.iface 172 (.agg #[.int .i64 c]),recovered:=false}]
abbrev zV0:Val:=.mk 0 false 0 ⟨#[]⟩ [] []
theorem Zi (w:World) (B:Nat):Ag w B (dV zV0) [.int .i64 0,.bool false,.int .i64 0,.string ⟨#[]⟩,.slice none 0 0,.slice none 0 0]:=by
 refine Cv _ _ ?_;simp only[Ab];exact⟨none,0,none,0,rfl,by simp,by simp⟩
theorem M0.held {o:List (ByteArray×Val)} {key:ByteArray} {w w':World} {e:Ending} (h:M0 o key w e w'):Below w.heap.size w w'/\ ∃k b n t l ob la lc oa oc,(Fo key o).getD zV0=.mk k b n t l ob/\
 e=.returned (.tuple #[.agg #[.int .i64 k,.bool b,.int .i64 n,.string t,.slice la (l:List Val).length lc,.slice oa (ob:List (ByteArray×Val)).length oc],.bool (Fo key o).isSome])/\
 Ag w w.heap.size (dV (.mk k b n t l ob)) [.int .i64 k,.bool b,.int .i64 n,.string t,.slice la l.length lc,.slice oa ob.length oc]:=by
 obtain⟨hb,h⟩:=h;refine⟨hb, ?_⟩
 cases hf:Fo key o with
 |none=>
  rw[hf]at h;exact⟨0,false,0,⟨#[]⟩, [], [],none,0,none,0,rfl,h,Zi _ _⟩
 |some x=>
  rw[hf]at h;obtain⟨cs,rfl,hh⟩:=h;obtain⟨k,b,n,t,l,ob⟩:=x;have h6:=Cr _ _ hh;simp only[Ab]at h6;obtain⟨la,lc,oa,oc,rfl,_,_⟩:=h6;exact⟨k,b,n,t,l,ob,la,lc,oa,oc,rfl,rfl,hh⟩
theorem Bg (s:ByteArray) (w:World):Calls Tryz.prog 42 #[.string s] w fun e w'=>e=.returned (.agg #[.int .i64 4,.bool false,.int .i64 0,.string s,.slice none 0 0,.slice none 0 0])/\Below w.heap.size w w':=by
 go_enter Tryz.func42,Tryz.ntmps42;go_wp2;exact bodyPost_ret (Au rfl rfl (Aj.new w 42 #[.int .i64 4,.bool false,.int .i64 0,.string s,.slice none 0 0,.slice none 0 0])) rfl ⟨rfl,Aa _ _⟩
theorem Ia (n:Int) (w:World):Calls Tryz.prog 30 #[.int .i64 n] w fun e w'=>e=.returned (.agg #[.int .i64 3,.bool false,.int .i64 n,.string ⟨#[]⟩,.slice none 0 0,.slice none 0 0])/\Below w.heap.size w w':=by
 go_enter Tryz.func30,Tryz.ntmps30;go_wp2;exact bodyPost_ret (Au rfl rfl (Aj.new w 42 #[.int .i64 3,.bool false,.int .i64 n,.string ⟨#[]⟩,.slice none 0 0,.slice none 0 0])) rfl ⟨rfl,Aa _ _⟩
theorem Kl (a:Option Addr) (n c:Nat) (w:World):Calls Tryz.prog 32 #[.slice a n c] w fun e w'=>e=.returned (.agg #[.int .i64 5,.bool false,.int .i64 0,.string ⟨#[]⟩,.slice a n c,.slice none 0 0])/\Below w.heap.size w w':=by
 go_enter Tryz.func32,Tryz.ntmps32;go_wp2;exact bodyPost_ret (Au rfl rfl (Aj.new w 42 #[.int .i64 5,.bool false,.int .i64 0,.string ⟨#[]⟩,.slice a n c,.slice none 0 0])) rfl ⟨rfl,Aa _ _⟩
theorem Bj (a:Option Addr) (n c:Nat) (w:World):Calls Tryz.prog 44 #[.slice a n c] w fun e w'=>e=.returned (.agg #[.int .i64 6,.bool false,.int .i64 0,.string ⟨#[]⟩,.slice none 0 0,.slice a n c])/\Below w.heap.size w w':=by
 go_enter Tryz.func44,Tryz.ntmps44;go_wp2;exact bodyPost_ret (Au rfl rfl (Aj.new w 42 #[.int .i64 6,.bool false,.int .i64 0,.string ⟨#[]⟩,.slice none 0 0,.slice a n c])) rfl ⟨rfl,Aa _ _⟩
theorem Cw {k:Int} (h1:1<=k) (h7:k<=7) (w:World):Calls Tryz.prog 45 #[.int .i64 k] w fun e w'=>e=.returned (.string (Dt k))/\Below w.heap.size w w':=by
 rcases(show k=1\/k=2\/k=3\/k=4\/k=5\/k=6\/k=7 by omega)with rfl|rfl|rfl|rfl|rfl|rfl|rfl
 all_goals
  go_enter Tryz.func45,Tryz.ntmps45;go_wp2;go_ret;exact⟨rfl,Aa _ _⟩
abbrev Tpr:TypeId:=131
theorem Acm {S:Nat->Prop} {w:World} {key:ByteArray} {v:Val} {cs:List Value} (h:Ac S w (dV v) cs):Ac S w (dP (key,v)) (.string key::cs):=fun w'' h1 h2=>⟨[.string key],cs,rfl,⟨rfl,rfl⟩,cs, [],(List.append_nil _).symm,h w'' h1 h2,rfl⟩
structure MB (S:Nat->Prop) (w:World) (six:Array Value) (o:List (ByteArray×Val)) (q:Nat) (wr:World) (V:Value):Prop where
 below:Below w.heap.size w wr
 box:Aj wr w.heap.size 42 six
 row:Bw S (w.heap.size+1) Tpr 7 wr (dO (o.take q)) V
theorem MB.later {S:Nat->Prop} {w wr w':World} {six:Array Value} {o:List (ByteArray×Val)} {q:Nat} {V:Value} (h:MB S w six o q wr V) (hb:Below wr.heap.size wr w'):MB S w six o q w' V:=
 ⟨h.below.trans (hb.mono h.below.size),h.box.below hb h.box.lt,h.row.below hb⟩
theorem Oa (V:Value) (k:ByteArray) (a0 a1 a2 a3 a4 a5:Value) (w:World):Calls Tryz.prog 43 #[V,.bool false,.string k,.agg #[a0,a1,a2,a3,a4,a5]] w fun e w'=>e=.returned V/\Below w.heap.size w w':=by
 go_enter Tryz.func43,Tryz.ntmps43;go_wp2;go_ret;exact⟨rfl,Aa _ _⟩
def K5 (S:Nat->Prop) (b:Nat) (acc:List (ByteArray×Val)) (V:Value) (w:World) (e:Ending) (w':World):Prop:= ∃V',e=.returned V'/\Bw S b 74 7 w' (dO acc) V'/\w.grownBy w' V.ownBlock/\(V'.ownBlock=V.ownBlock\/ ∃g,V'.ownBlock=some g/\w.heap.size<=g)
theorem Me (S:Nat->Prop) (b:Nat) (acc:List (ByteArray×Val)) (a:Option Addr) (n c:Nat) (key:ByteArray) (k':Int) (b':Bool) (n':Int) (t':ByteArray) (l':List Val) (o':List (ByteArray×Val)) (la lc oa oc) (w:World) (hn:acc.length=n) (hl:n<=1000000)
 (hrow:Bw S b 74 7 w (dO acc) (.slice a n c)) (hbw:b<=w.heap.size) (hv:Ac (fun i=>S i/\(Value.slice a n c).ownBlock≠some i) w (dV (.mk k' b' n' t' l' o')) [.int .i64 k',.bool b',.int .i64 n',.string t',.slice la l'.length lc,.slice oa o'.length oc]):
 Calls Tryz.prog 43 #[.slice a n c,.bool true,.string key,.agg #[.int .i64 k',.bool b',.int .i64 n',.string t',.slice la l'.length lc,.slice oa o'.length oc]] w (K5 S b (acc++ [(key,.mk k' b' n' t' l' o')]) (.slice a n c) w):=by
 obtain⟨j0,hj,hy0,hy1,hy2⟩:=info_parts Tb;subst hn;have hA:=(Aa w (.cells #[.int .i64 k',.bool b',.int .i64 n',.string t',.slice la l'.length lc,.slice oa o'.length oc] 42));have hB:=hA.alloc hA.size (.cells #[.string key,.int .i64 k',.bool b',.int .i64 n',.string t',.slice la l'.length lc,.slice oa o'.length oc] 74);have Hrow2:=qz (hrow.below hB);have Hx2:=qz ((Acm (key:=key) hv).below hB);have hl2:(dO acc).length=acc.length:=Eb acc;have hrd:=Mj (w.alloc (.cells #[.int .i64 k',.bool b',.int .i64 n',.string t',.slice la l'.length lc,.slice oa o'.length oc] 42)) (.string key) (.int .i64 k') (.bool b') (.int .i64 n') (.string t') (.slice la l'.length lc) (.slice oa o'.length oc);rw[World.size_alloc]at hrd;have hsB:=hB.size;obtain⟨PO,hPO⟩: ∃P,K5 S b (acc++ [(key,.mk k' b' n' t' l' o')]) (.slice a acc.length c) w=P:=⟨_,rfl⟩;rw[hPO];have HLo:=qz (show(dO acc).length+1<=maxLen/\((dO acc).length+1)*104<=140737488355328/\b<=((w.alloc (.cells #[.int .i64 k',.bool b',.int .i64 n',.string t',.slice la l'.length lc,.slice oa o'.length oc] 42)).alloc (.cells #[.string key,.int .i64 k',.bool b',.int .i64 n',.string t',.slice la l'.length lc,.slice oa o'.length oc] 74)).heap.size from by rw[hl2];exact⟨by simp only[maxLen];omega,by omega,by omega⟩);have Hap:=qz (show dO acc++ [dP (key,.mk k' b' n' t' l' o')]=dO (acc++ [(key,.mk k' b' n' t' l' o')])from by rw[E8,E8];simp);obtain⟨Hj,Hy0,Hy1,Hy2,HPO,Hrd,HB⟩:=hid7 hj hy0 hy1 hy2 hPO hrd hB;clear hj hy0 hy1 hy2 hPO hrd hB;clear hrow hv hA;go_enter Tryz.func43,Tryz.ntmps43;go_wp2_with (at_builtin;refine Dn rfl (.tmp 12) (.tmp 16) 40 rfl Tryz.underlying40 Hj.out Hy0.out Hy1.out Hy2.out rfl (by omega) rfl Hrow2.out HLo.out.2.2 (Eo _) Hx2.out rfl Hrd.out HLo.out.1 HLo.out.2.1 ?_;intro V6 w6 hrow6 hg6 hat6);rw[<-HPO.out];rw[Hap.out]at hrow6;exact⟨V6,rfl,hrow6,Jf (Li _ HB.out) hg6,hat6.imp id fun e=>⟨_,e,by simp;omega⟩⟩
abbrev Ey:TypeId:=45
abbrev z19:Array Value:= #[.int .i64 0,.string ⟨#[]⟩,.string ⟨#[]⟩,.int .i64 0,.bool false,.int .i64 0,.bool false,.int .i64 0,.string ⟨#[]⟩,.slice none 0 0,.slice none 0 0,.bool false,.int .i64 0,.bool false,.int .i64 0,.string ⟨#[]⟩,.slice none 0 0,.slice none 0 0,.slice none 0 0]
structure RB (w wr:World) (cs:Array Value):Prop where
 below:Below w.heap.size w wr
 res:Aj wr w.heap.size Ey cs
theorem RB.call {w wr w':World} {cs:Array Value} (h:RB w wr cs) (hb:Below wr.heap.size wr w'):RB w w' cs:=⟨h.below.trans (hb.mono h.below.size),h.res.below hb h.res.lt⟩
end Go.Proofs.YtobmaegpfbheoaaGreatDoor
