/- Parts: commonplaceref02.numbers and texts. Condition: texts of at most 10^9 bytes. -/
import Derived.Deep.MidRow
import Derived.Deep.RegionWith
import Derived.Test.YtkmcjfkokoidcaaGreatDoorKFb8
import Derived.Test.YtkmcjfkokoidcaaGreatDoorKFb9
set_option maxHeartbeats 20000000
set_option maxRecDepth 100000
namespace Go.Proofs.YtkmcjfkokoidcaaGreatDoor
open Go.RowKit
theorem Aa (w:World) (o:Obj):Below w.heap.size w (w.alloc o):=(Below.refl _ _).alloc (Nat.le_refl _) _
theorem Ue {W w1:World} (hb:Below W.heap.size W w1):(∀b o,b<W.heap.size->w1.cell? ⟨b,o,none⟩=W.cell? ⟨b,o,none⟩)/\(∀b o,b<W.heap.size->w1.frozen? ⟨b,o,none⟩=W.frozen? ⟨b,o,none⟩):=
 ⟨fun b o h=>hb.cell (p:=⟨b,o,none⟩) h,fun b o h=>hb.frozen (p:=⟨b,o,none⟩) h⟩
end Go.Proofs.YtkmcjfkokoidcaaGreatDoor
namespace Go.Proofs.YtkmcjfkokoidcaaGreatDoor
end Go.Proofs.YtkmcjfkokoidcaaGreatDoor
namespace Go.Proofs.YtkmcjfkokoidcaaGreatDoor
open Go Go.RowKit
theorem Abg {w:World} {B n c:Nat} {l:List (ByteArray×Val)} {a:Option Addr} (h:Ah w B (.row 7 (dO l)) [.slice a n c]) {q:Nat} {key:ByteArray} {k':Int} {b':Bool} {n':Int} {t':ByteArray} {l':List Val} {o':List (ByteArray×Val)} (hi:l[q]? =some (key,.mk k' b' n' t' l' o')):
 ∃g off,a=some ⟨g,off,none⟩/\g<B/\ ∃la lc oa oc,Ah w B (dV (.mk k' b' n' t' l' o')) [.int .i64 k',.bool b',.int .i64 n',.string t',.slice la l'.length lc,.slice oa o'.length oc]/\
  w.cell? ⟨g,off+q*7,none⟩=some (.string key)/\w.cell? ⟨g,off+q*7+1,none⟩=some (.int .i64 k')/\w.cell? ⟨g,off+q*7+2,none⟩=some (.bool b')/\
  w.cell? ⟨g,off+q*7+3,none⟩=some (.int .i64 n')/\w.cell? ⟨g,off+q*7+4,none⟩=some (.string t')/\w.cell? ⟨g,off+q*7+5,none⟩=some (.slice la l'.length lc)/\w.cell? ⟨g,off+q*7+6,none⟩=some (.slice oa o'.length oc):=by
 obtain⟨g,off,ea,hg,cs,h1,_,h3⟩:=h.at_ (i:=q) (d:=dP (key,.mk k' b' n' t' l' o')) (by rw[Bl,List.getElem?_map,hi];rfl);unfold dP at h1;simp only[Ah]at h1;obtain⟨_,_,rfl,⟨rfl,_⟩,cv,_,rfl,h4,rfl⟩:=h1;have h6:=Cb _ _ h4;simp only[Ac]at h6;obtain⟨la,lc,oa,oc,rfl,_,_⟩:=h6;exact⟨g,off,ea,hg,la,lc,oa,oc,h4,h3 0 _ rfl,h3 1 _ rfl,h3 2 _ rfl,h3 3 _ rfl,h3 4 _ rfl,h3 5 _ rfl,h3 6 _ rfl⟩
theorem Ad3 {key:ByteArray} {v:Val} (w:World) (B:Nat) (cs:List Value) (h:Ah w B (dP (key,v)) cs):cs[0]? =some (.string key):=by
 unfold dP at h;simp only[Ah]at h;obtain⟨_,_,rfl,⟨rfl,_⟩,_⟩:=h;rfl
theorem Ag8 {key:ByteArray} {v:Val} {w:World} {B:Nat} {u:Value} {cs:List Value} (h:Ah w B (dP (key,v)) (u::cs)):Ah w B (dV v) cs:=by
 unfold dP at h;simp only[Ah]at h;obtain⟨_,_,e,⟨rfl,_⟩,cv,_,rfl,h4,rfl⟩:=h;simp only[List.cons_append,List.nil_append,List.append_nil,List.cons.injEq]at e;rw[e.2];exact h4
def Fz:List Int:= [34,92,47,8,12,10,13,9]
theorem O1 (k:Nat) (c:Int) (h:Fz[k]? =some c) (w:World):
 Calls Tryz.prog 142 #[.int .i64 k] w fun e w'=>e=.returned (.int .i64 c)/\Below w.heap.size w w':=by
 have hk:k<8:=(List.getElem?_eq_some_iff.1 h).1;rcases(by omega:k=0\/k=1\/k=2\/k=3\/k=4\/k=5\/k=6\/k=7)with rfl|rfl|rfl|rfl|rfl|rfl|rfl|rfl
 all_goals
  (obtain rfl:=Option.some.inj h
   clear h hk;go_enter Tryz.func142,Tryz.ntmps142;go_wp2;go_ret;exact⟨rfl,(Below.refl _ _).alloc (Nat.le_refl _) _⟩)
def Ahn (k:Int) (b:Bool) (n:Int) (t:ByteArray) (ln on:Nat):Bool:=decide (k=0)&& !b&&decide (n=0)&&t.toList.isEmpty&&decide (ln=0)&&decide (on=0)
theorem Aj.nxt (w:World) (o:Obj) (t:TypeId) (cs:Array Value):Aj ((w.alloc o).alloc (.cells cs t)) (w.heap.size+1) t cs:=by
 have:=Aj.new (w.alloc o) t cs
 rwa [World.size_alloc]at this
section
variable {P:Program}
end
theorem KB.put {S:Nat->Prop} (w:World) {k:Nat} (hk:S k) (o:Obj):KB S w (w.putObj k o):=⟨rfl,rfl,rfl,by simp[World.putObj],fun j _ h2=>World.putObj_heap_other (fun e=>h2 (e▸hk))⟩
theorem A0.lit {S0:Nat->Prop} {b:Nat} {t:TypeId} {w:World} {d:D} {cs:Array Value} (hb:b<=w.heap.size) (hd:d.cells=cs.size) (h:Ai (fun i=>S0 i/\i≠w.heap.size) (w.alloc (.cells cs t)) d cs.toList):
 A0 S0 b t cs.size (w.alloc (.cells cs t)) [d] (.slice (some ⟨w.heap.size,0,none⟩) 1 1):=by
 refine⟨cs.toList,⟨by simp,.inr ⟨w.heap.size,1,cs,rfl,hb,heap_alloc_new w _,Nat.le_refl _,by unfold maxLen;omega,by simp, ?_⟩⟩,fun x hx=> ?_,At.one (h.mono fun i _ hi=>⟨hi.1,fun e=>hi.2 (Option.some.inj (e:some w.heap.size=some i)).symm⟩)⟩
 . simp only[List.length_cons,List.length_nil,Nat.zero_add,Nat.one_mul];rw[<-Array.length_toList,List.take_length]
 . simp only[List.mem_cons,List.not_mem_nil,or_false]at hx;rw[hx];exact hd
section
variable {P:Program}
theorem Ve {t ty e:TypeId} {i:TypeInfo} {z:Value} {sz bytes:Nat} (ht:P.underlying t=some (.slice e)) (hi:P.info? e=some i) (hz:i.zero=some z) (hsize:i.size=sz) (hby:i.bytes=bytes) (hzs:z.cells.size=sz) (hsz:0<sz)
 {S0:Nat->Prop} {b:Nat} {w:World} {l:List D} {V:Value} (hrow:A0 S0 b e sz w l V) (hbw:b<=w.heap.size) {dl:List D} {cs:List Value} (hd: ∀d ∈ dl,d.cells=sz) (hx:At (fun i=>S0 i/\V.ownBlock≠some i) w dl cs)
 {B:Nat} {A:Option Addr} {n c:Nat} (hr:A7 w B sz A n cs) (hn:n=dl.length) (h63:l.length+n<=maxLen) (hbytes:(l.length+n)*bytes<=140737488355328):
 ∃V' w6,(Builtin.append_ #[t,t] ty #[V,.slice A n c]).run P w=.ok V' w6/\A0 S0 b e sz w6 (l++dl) V'/\w.grownBy w6 V.ownBlock/\(V'.ownBlock=V.ownBlock\/V'.ownBlock=some w.heap.size):=by
 subst hn;obtain⟨ns,h1,h2,h3⟩:=hrow;obtain⟨V',w6,hrun,g1,g2,g3⟩:=F5 (P:=P) w b t ty e i z sz bytes ht hi hz hsize hby hzs hsz V l.length ns h1 B A dl.length c cs hr hx.now.len.2 h63 hbytes hbw;refine⟨V',w6,hrun,⟨ns++cs,by rw[List.length_append];exact g1, ?_, ?_⟩,g2,g3⟩
 . intro x hx';rcases List.mem_append.1 hx' with hx'|hx'
   . exact h2 x hx'
   . exact hd x hx'
 . have key: ∀p:Addr,V.ownBlock≠some p.block->p.block<w.heap.size->V'.ownBlock≠some p.block:=by
    intro p p1 p2;rcases g3 with e3|e3
    . rw[e3];exact p1
    . rw[e3];intro e4;have:=Option.some.inj e4;omega
   have hag: ∀w'':World,w6.heap.size<=w''.heap.size->(∀p:Addr,S0 p.block/\V'.ownBlock≠some p.block->p.block<w6.heap.size->w''.cell? p=w6.cell? p)-> ∀p:Addr,S0 p.block/\V.ownBlock≠some p.block->p.block<w.heap.size->w''.cell? p=w.cell? p:=by
    intro w'' k1 k2 p p1 p2;rw[k2 p ⟨p1.1,key p p1.2 p2⟩ (Nat.lt_of_lt_of_le p2 g2.size)];exact World.cell?_of_block (g2.block p.block p2 (fun e=>p1.2 e.symm))
   intro w'' k1 k2;have a1:=Ag.more (h3 w'' (Nat.le_trans g2.size k1) (hag w'' k1 k2)) g2.size;have a2:=Ag.more (hx w'' (Nat.le_trans g2.size k1) (hag w'' k1 k2)) g2.size;exact a1.app a2
theorem Yo {o:Oper} {a:Act} {w:World} {K:Act->World->Prop} {Q:Exit->Act->World->Prop} (s x:Operand) (t:TypeId) {e:TypeId}
 (ho:o.op=.call {callee:=.builtin .append,args:= #[s,x],argTypes:= #[t,t]}) {i:TypeInfo} {z:Value} {sz bytes:Nat} (ht:P.underlying t=some (.slice e)) (hi:P.info? e=some i) (hz:i.zero=some z) (hsize:i.size=sz) (hby:i.bytes=bytes) (hzs:z.cells.size=sz) (hsz:0<sz)
 {S0:Nat->Prop} {b:Nat} {l:List D} {V:Value} (hs:a.eval s=V) (hrow:A0 S0 b e sz w l V) (hbw:b<=w.heap.size) {dl:List D} {cs:List Value} (hd: ∀d ∈ dl,d.cells=sz) (hf:At (fun i=>S0 i/\V.ownBlock≠some i) w dl cs)
 {B:Nat} {A:Option Addr} {n c:Nat} (hx:a.eval x=.slice A n c) (hr:A7 w B sz A n cs) (hn:n=dl.length) (h63:l.length+n<=maxLen) (hbytes:(l.length+n)*bytes<=140737488355328)
 (h: ∀V' w6,A0 S0 b e sz w6 (l++dl) V'->w.grownBy w6 V.ownBlock->(V'.ownBlock=V.ownBlock\/V'.ownBlock=some w.heap.size)->K (a.put o.dst V') w6):o.wp P a w K Q:=by
 obtain⟨V',w6,hrun,g1,g2,g3⟩:=Ve (ty:=o.type) (c:=c) ht hi hz hsize hby hzs hsz hrow hbw hd hf hr hn h63 hbytes;unfold Oper.wp execOp;simp only[ho,resolve,invoke,builtin,Sem.run_bind,Sem.run_pure,Result.andThen_ok,List.map_toArray,List.map_cons,List.map_nil,hs,hx,hrun];exact h V' w6 g1 g2 g3
theorem Df {ops:Array Oper} {rest:List Oper} {o:Oper} {a:Act} {w:World} {Q:Exit->Act->World->Prop} (hgd:o.guard=none) (s x:Operand) (t:TypeId) {e:TypeId}
 (ho:o.op=.call {callee:=.builtin .append,args:= #[s,x],argTypes:= #[t,t]}) {i:TypeInfo} {z:Value} {sz bytes:Nat} (ht:P.underlying t=some (.slice e)) (hi:P.info? e=some i) (hz:i.zero=some z) (hsize:i.size=sz) (hby:i.bytes=bytes) (hzs:z.cells.size=sz) (hsz:0<sz)
 {S0:Nat->Prop} {b:Nat} {l:List D} {V:Value} (hs:a.eval s=V) (hrow:A0 S0 b e sz w l V) (hbw:b<=w.heap.size) {dl:List D} {cs:List Value} (hd: ∀d ∈ dl,d.cells=sz) (hf:At (fun i=>S0 i/\V.ownBlock≠some i) w dl cs)
 {B:Nat} {A:Option Addr} {n c:Nat} (hx:a.eval x=.slice A n c) (hr:A7 w B sz A n cs) (hn:n=dl.length) (h63:l.length+n<=maxLen) (hbytes:(l.length+n)*bytes<=140737488355328)
 (h: ∀V' w6,A0 S0 b e sz w6 (l++dl) V'->w.grownBy w6 V.ownBlock->(V'.ownBlock=V.ownBlock\/V'.ownBlock=some w.heap.size)->wpList P ops Q rest (a.put o.dst V') w6):wpList P ops Q (o::rest) a w:=
 wpList_plain hgd fun _ hK=>Yo s x t ho ht hi hz hsize hby hzs hsz hs hrow hbw hd hf hx hr hn h63 hbytes fun V' w6 h2 h3 h4=>hK _ _ (h V' w6 h2 h3 h4)
end
def Jl (p:Prop) (w:World) (e:Ending) (w':World):Prop:= ∃B:Bool,e=.returned (.bool B)/\(B=true ↔ p)/\Below w.heap.size w w'
theorem Jl.no {p:Prop} {w w':World} (h: ¬p) (hb:Below w.heap.size w w'):Jl p w (.returned (.bool false)) w':=⟨false,rfl,by simp[h],hb⟩
theorem Jl.yes {p:Prop} {w w':World} (h:p) (hb:Below w.heap.size w w'):Jl p w (.returned (.bool true)) w':=⟨true,rfl,by simp[h],hb⟩
theorem Lq (w:World) (o o':Obj):Below w.heap.size w ((w.alloc o).alloc o'):=(Aa w o).alloc (by simp) _
def EA (w:World) (b1 b2:Array Value) (wr:World):Prop:=Below w.heap.size w wr/\Aj wr w.heap.size 37 b1/\Aj wr (w.heap.size+1) 37 b2
theorem EA.step {w:World} {b1 b2:Array Value} {wr w4:World} (h:EA w b1 b2 wr) (hb:Below wr.heap.size wr w4):EA w b1 b2 w4:=⟨h.1.trans (hb.mono h.1.size),h.2.1.below hb h.2.1.lt,h.2.2.below hb h.2.2.lt⟩
theorem KB.many {S:Nat->Prop} (w:World) (g o:Nat) (hg:S g) (vs:List Value):KB S w (An w g o vs):=by
 induction vs generalizing w o with
 |nil=>exact KB.of_below (Below.refl _ _)
 |cons v r ih=>exact(KB.set w ⟨g,o,none⟩ hg v).trans (ih _ _) fun _ _ h=>h
def Ahu (R g:Nat) (s:ByteArray) (w:World) (r:Rd Val) (e:Ending) (w':World):Prop:=match r with
 | .ok _ q=>e=.returned (.tuple #[])/\Bd R g s q w w'
 | .bad c q=>e=Ju c q/\w.grownBy w' (some R)
theorem Mq (R g:Nat) (s t:ByteArray) (k:Nat) (v:Val) (w:World) (hs:s.size<=1000000000) (hk:k<=s.size) (ht:t.size<=100) (h:S5 w R g s k):
 Calls Tryz.prog 204 #[.pointer (some ⟨R,0,none⟩),.string t] w (Ahu R g s w (C2 s.data.toList k t.data.toList v)):=by
 have hext:(s.extract k s.size).data.toList=s.data.toList.drop k:=by
  rw[Lib.extract_data];exact List.take_of_length_le (by rw[List.length_drop,Ab];omega)
 have hH:=fun W=>Tryz.strings_HasPrefix (s.extract k s.size) t W;rw[hext]at hH;have hB:Lib.hasPrefix (s.data.toList.drop k) t.data.toList=t.data.toList.isPrefixOf (s.data.toList.drop k):=rfl;rw[hB]at hH;clear hB hext;have i0:(0:Int)<=(k:Int):=by omega
 have i1:(k:Int)<=(s.size:Int):=by omega
 obtain⟨c0,c1,_,f1,hR⟩:=h.cells;have H:=qz h;clear h;unfold C2
 cases hp:t.data.toList.isPrefixOf (s.data.toList.drop k)with
 |true=>
  rw[hp]at hH;rw[if_pos rfl,Ab];have hle:k+t.size<=s.size:=by
   have:=(List.isPrefixOf_iff_prefix.1 hp).length_le;rw[List.length_drop,Ab,Ab]at this;omega
  clear hp;have HH:=qz hH;clear hH;go_enter Tryz.func204,Tryz.ntmps204;go_wp2;go_quiet ((go_at_call 247;exact Calls.quiet_of_same (HH.out _)));go_wp2
  go_end0
  exact⟨rfl,((Bd.refl H.out).drewN _).set _⟩
 |false=>
  rw[hp]at hH;rw[if_neg (by decide)];clear hp;have HW:=qz (fun W=>Ca (.pointer (some ⟨R,0,none⟩)) 4 k W);have HH:=qz hH;clear hH;go_enter Tryz.func204,Tryz.ntmps204;go_wp2;go_quiet ((go_at_call 247;exact Calls.quiet_of_same (HH.out _)));go_wp2_with (fail);(with_reducible refine(HW.out _).mono ?_);rintro e w1 ⟨rfl,rfl⟩;exact⟨rfl,rfl,E9 (World.grownBy.refl _ _) _⟩
def Mh (a b:Int):Int:=if a<b then -1 else if b<a then 1 else 0
theorem E2 {a b:Int}:Mh a b=0 ↔ a=b:=by
 unfold Mh
 split
 . constructor<;>intro h<;>omega
 split
 . constructor<;>intro h<;>omega
 . constructor<;>intro h<;>omega
theorem E0 (a b:Int) (w:World):Calls Tryz.prog 90 #[.int .i64 a,.int .i64 b] w fun e w'=>e=.returned (.int .i64 (Mh a b))/\w'=w:=by
 unfold Mh;by_cases h1:a<b
 . rw[if_pos h1];go_enter Tryz.func90,Tryz.ntmps90;go_wp2;go_ret;exact⟨rfl,rfl⟩
 rw[if_neg h1];by_cases h2:b<a
 . rw[if_pos h2];go_enter Tryz.func90,Tryz.ntmps90;go_wp2;go_ret;exact⟨rfl,rfl⟩
 . rw[if_neg h2];go_enter Tryz.func90,Tryz.ntmps90;go_wp2;go_ret;exact⟨rfl,rfl⟩
def Hl (a b:ByteArray) (w:World) (e:Ending) (w':World):Prop:= ∃c:Int,e=.returned (.int .i64 c)/\(c=0 ↔ a=b)/\Below w.heap.size w w'
theorem Hl.of {a b:ByteArray} {w w':World} {c:Int} (h:c=0 ↔ a=b) (hb:Below w.heap.size w w'):Hl a b w (.returned (.int .i64 c)) w':=⟨c,rfl,h,hb⟩
theorem Pw (a b:ByteArray) (w:World) (ha:a.size<=1000000000) (hb:b.size<=1000000000):
 Calls Tryz.prog 91 #[.string a,.string b] w (Hl a b w):=by
 have H0:Hid (a.data.toList.take 0=b.data.toList.take 0):=by show _=_;simp
 have HB:Hid (Below w.heap.size w w):=Below.refl _ _;go_enter Tryz.func91,Tryz.ntmps91;go_wp2_with (fail);go_loopw [5] (fun i wr=> ∃k:Nat,i=.int .i64 k/\k<=a.size/\k<=b.size/\Hid (a.data.toList.take k=b.data.toList.take k)/\Hid (Below w.heap.size w wr)) (fun i _=>a.size - (intOf i).toNat)
 case atStart=>exact⟨0,rfl,Nat.zero_le _,Nat.zero_le _,H0,HB⟩
 case round=>
  obtain⟨k,rfl,hka,hkb,ht,hbw⟩:=hrel;clear H0 HB;by_cases hlt:k<a.size
  . by_cases hlt2:k<b.size
    . obtain⟨x,hx⟩: ∃x,a[k]=x:=⟨_,rfl⟩;obtain⟨y,hy⟩: ∃y,b[k]=y:=⟨_,rfl⟩;have hax:a.data.toList[k]? =some x:=by
       rw[Array.getElem?_toList,<-hx];exact Array.getElem?_eq_getElem (by exact hlt)
      have hby:b.data.toList[k]? =some y:=by
       rw[Array.getElem?_toList,<-hy];exact Array.getElem?_eq_getElem (by exact hlt2)
      have hxb:(x.toNat:Int)<256:=by have:=x.toNat_lt;omega
      have hyb:(y.toNat:Int)<256:=by have:=y.toNat_lt;omega
      by_cases hxy:x=y
      . subst hxy;have Hn:Hid (a.data.toList.take (k+1)=b.data.toList.take (k+1)):=by
         show _=_;rw[List.take_add_one,List.take_add_one,ht.out,hax,hby]
        clear ht hax hby;go_wp2_with (fail);go_quiet (fail);have hbw2:=qz (A4 hbw.out nq);clear hbw;go_wp2;go_roundw
        case rel=>exact⟨k+1,by go_num,by omega,by omega,Hn,hbw2⟩
        case measure=>simp only[intOf];omega
      . have hxn:x.toNat≠y.toNat:=fun e=>hxy (UInt8.toNat_inj.1 e);have h1:((x.toNat:Int)==(y.toNat:Int))=false:=by simp;omega
        have h2:((x.toNat:Int) != (y.toNat:Int))=true:=by simp[bne];omega
        have hab:a≠b:=by
         rintro rfl;rw[hax]at hby;exact hxy (Option.some.inj hby)
        have hc:Mh (x.toNat:Int) (y.toNat:Int)≠0:=by rw[Ne,E2];omega
        obtain⟨C,hC⟩: ∃C,Mh (x.toNat:Int) (y.toNat:Int)=C:=⟨_,rfl⟩;have cN:=fun w=>E0 (x.toNat:Int) (y.toNat:Int) w;rw[hC]at cN hc;have HN:=qz cN;have Hc:Hid (C=0 ↔ a=b):=⟨fun e=>absurd e hc,fun e=>absurd e hab⟩;clear ht hax hby hxy hxn hab hc hC cN;go_wp2_with (fail);go_quiet (fail);have hbw2:=A4 hbw.out nq;clear hbw;generalize wr.drewN nq=w9 at hbw2 ⊢;have Hbw2:=qz hbw2;clear hbw2;go_wp2_with (fail);go_quiet ((go_at_call 90;exact Calls.quiet_of_same (HN.out _)));have hbw3:=qz (A4 Hbw2.out nq);clear Hbw2;go_wp2;go_ret;exact Hl.of Hc.out hbw3.out
    . have hkb':k=b.size:=by omega
      subst hkb';have hc:Mh (a.size:Int) (b.size:Int)≠0:=by rw[Ne,E2];omega
      have hab:a≠b:=by rintro rfl;omega
      obtain⟨C,hC⟩: ∃C,Mh (a.size:Int) (b.size:Int)=C:=⟨_,rfl⟩;have cN:=fun w=>E0 (a.size:Int) (b.size:Int) w;rw[hC]at cN hc;have HN:=qz cN;have Hc:Hid (C=0 ↔ a=b):=⟨fun e=>absurd e hc,fun e=>absurd e hab⟩;clear ht hab hc hC cN;go_wp2_with (fail);(with_reducible refine(HN.out _).mono ?_);rintro e w' ⟨rfl,rfl⟩;go_wp2;go_ret;exact Hl.of Hc.out hbw.out
  . have hka':k=a.size:=by omega
    subst hka';obtain⟨C,hC⟩: ∃C,Mh (a.size:Int) (b.size:Int)=C:=⟨_,rfl⟩;have cN:=fun w=>E0 (a.size:Int) (b.size:Int) w;rw[hC]at cN;have HN:=qz cN;have Hc:Hid (C=0 ↔ a=b):=by
     show _ ↔ _;rw[<-hC,E2];constructor
     . intro h;have hs:a.size=b.size:=by omega
       have:=ht.out;rw[hs,List.take_of_length_le (by rw[Array.length_toList];exact Nat.le_of_eq hs),List.take_of_length_le (by rw[Array.length_toList];exact Nat.le_refl _)]at this;exact ByteArray.ext (Array.ext' this)
     . rintro rfl;rfl
    clear ht hC cN;go_wp2_with (fail);(with_reducible refine(HN.out _).mono ?_);rintro e w' ⟨rfl,rfl⟩;go_wp2;go_ret;exact Hl.of Hc.out hbw.out
end Go.Proofs.YtkmcjfkokoidcaaGreatDoor
