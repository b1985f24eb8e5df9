/- Parts: commonplaceref02.Copy: what its contract says. No condition. -/
import Derived.Deep.MidRow
import Derived.Test.YtdbejcbbhomdbaaGreatDoorZPtShelf
import Derived.Lib.OthersKept
import Derived.Lib.FrozenHead2
import Derived.Shelf.Strings.BuilderK
import Derived.Test.YtdbejcbbhomdbaaGreatDoorKPt1
import Derived.Test.YtdbejcbbhomdbaaGreatDoorKPt2
set_option maxHeartbeats 20000000
set_option maxRecDepth 100000
namespace Go.Proofs.YtdbejcbbhomdbaaGreatDoor
open Go.RowKit
def Cg (a b:ByteArray):Bool:=Op.bytesLess a.toList b.toList
def Fh (k:ByteArray):List (ByteArray×Val)->Nat
 | []=>0
 |p::r=>if Cg p.1 k then Fh k r+1 else 0
def Ev (k:ByteArray) (acc:List (ByteArray×Val)):Bool:=(acc[Fh k acc]?).any fun p=>p.1.toList==k.toList
def Aaf (m:ByteArray×Val) (acc:List (ByteArray×Val)):List (ByteArray×Val):=acc.take (Fh m.1 acc)++([m]++acc.drop (Fh m.1 acc))
def C3:List (ByteArray×Val)->List (ByteArray×Val)->Option (List (ByteArray×Val))
 | [],acc=>some acc
 |m::r,acc=>if Ev m.1 acc then none else C3 r (Aaf m acc)
theorem Wv (k:ByteArray): ∀acc,Fh k acc<=acc.length
 | []=>Nat.zero_le _
 |p::r=>by
  have:=Wv k r;simp only[Fh,List.length_cons]
  split<;>omega
theorem Zi (m:ByteArray×Val) (acc:List (ByteArray×Val)):Ag (Aaf m acc)=Ag acc+Ez m:=by
 have h:=congrArg Ag (List.take_append_drop (Fh m.1 acc) acc);rw[Dl]at h;simp only[Aaf,Dl,Ag];omega
theorem Nq: ∀{l acc o:List (ByteArray×Val)},C3 l acc=some o->Ag o=Ag acc+Ag l
 | [],acc,o,h=>by
   simp only[C3,Option.some.injEq]at h;subst h;simp[Ag]
 |m::r,acc,o,h=>by
  simp only[C3]at h;by_cases hh:Ev m.1 acc=true
  . rw[if_pos hh]at h;cases h
  . rw[if_neg hh]at h;rw[Nq h,Zi];simp only[Ag];omega
theorem D1: ∀x:List UInt8,Op.bytesLess x x=false
 | []=>rfl
 |a::x=>by simp[Op.bytesLess,D1 x,UInt8.lt_irrefl]
theorem Jj: ∀{x y z:List UInt8},Op.bytesLess x y=true->Op.bytesLess y z=true->Op.bytesLess x z=true
 |_, [],_,h,_=>by cases ‹List UInt8› <;>simp[Op.bytesLess]at h
 |_,_::_, [],_,h=>by simp[Op.bytesLess]at h
 | [],_::_,_::_,_,_=>rfl
 |a::x,b::y,c::z,h,k=>by
  simp only[Op.bytesLess,Bool.or_eq_true,Bool.and_eq_true,decide_eq_true_eq,beq_iff_eq]at h k ⊢;rcases h with h|⟨rfl,h⟩<;>rcases k with k|⟨rfl,k⟩
  . exact .inl (UInt8.lt_trans h k)
  . exact .inl h
  . exact .inl k
  . exact .inr ⟨rfl,Jj h k⟩
theorem Sm: ∀(x y:List UInt8),Op.bytesLess x y=true\/x=y\/Op.bytesLess y x=true
 | [], []=> .inr (.inl rfl)
 | [],_::_=> .inl rfl
 |_::_, []=> .inr (.inr rfl)
 |a::x,b::y=>by
  simp only[Op.bytesLess,Bool.or_eq_true,Bool.and_eq_true,decide_eq_true_eq,beq_iff_eq];rcases Nat.lt_trichotomy a.toNat b.toNat with h|h|h
  . exact .inl (.inl (UInt8.lt_iff_toNat_lt.2 h))
  . have hab:a=b:=UInt8.toNat_inj.1 h;subst hab;rcases Sm x y with h|h|h
    . exact .inl (.inr ⟨rfl,h⟩)
    . exact .inr (.inl (by rw[h]))
    . exact .inr (.inr (.inr ⟨rfl,h⟩))
  . exact .inr (.inr (.inl (UInt8.lt_iff_toNat_lt.2 h)))
theorem Fg {a b:ByteArray} (h:a.toList=b.toList):a=b:=by
 rw[Lib.toList_data,Lib.toList_data]at h;exact ByteArray.ext (Array.ext' h)
theorem Cr (a:ByteArray):Cg a a=false:=D1 _
theorem Cc {a b c:ByteArray} (h:Cg a b=true) (k:Cg b c=true):Cg a c=true:=Jj h k
theorem Ix (a b:ByteArray):Cg a b=true\/a=b\/Cg b a=true:=by
 rcases Sm a.toList b.toList with h|h|h
 . exact .inl h
 . exact .inr (.inl (Fg h))
 . exact .inr (.inr h)
theorem L4 {a b:ByteArray} (h:Cg a b=true):Cg b a=false:=by
 cases e:Cg b a with
 |false=>rfl
 |true=>have:=Cc h e;rw[Cr]at this;cases this
def Bq (l:List (ByteArray×Val)):Prop:=l.Pairwise fun a b=>Cg a.1 b.1=true
theorem Re (k:ByteArray): ∀{acc:List (ByteArray×Val)},Bq acc->Ev k acc=false->(∀p ∈ acc.take (Fh k acc),Cg p.1 k=true)/\(∀p ∈ acc.drop (Fh k acc),Cg k p.1=true)
 | [],_,_=>by simp
 |q::r,ha,hh=>by
  obtain⟨h1,h2⟩:=List.pairwise_cons.1 ha;by_cases hq:Cg q.1 k=true
  . have hh':Ev k r=false:=by
     unfold Ev at hh ⊢;simpa only[Fh,if_pos hq,List.getElem?_cons_succ]using hh
    obtain⟨a,b⟩:=Re k h2 hh';simp only[Fh,if_pos hq,List.take_succ_cons,List.drop_succ_cons];refine⟨fun p hp=> ?_,b⟩;rcases List.mem_cons.1 hp with rfl|hp
    . exact hq
    . exact a p hp
  . simp only[Fh,if_neg hq,List.take_zero,List.drop_zero];refine⟨fun p hp=>(by cases hp), ?_⟩;have hne:q.1≠k:=by
     intro e;unfold Ev at hh;simp only[Fh,if_neg hq,List.getElem?_cons_zero,Option.any_some]at hh;rw[e]at hh;simp at hh
    have hkq:Cg k q.1=true:=by
     rcases Ix q.1 k with h|h|h
     . exact absurd h hq
     . exact absurd h hne
     . exact h
    intro p hp;rcases List.mem_cons.1 hp with rfl|hp
    . exact hkq
    . exact Cc hkq (h1 p hp)
theorem Ac2 {m:ByteArray×Val} {acc:List (ByteArray×Val)} (ha:Bq acc) (hh:Ev m.1 acc=false):Bq (Aaf m acc):=by
 obtain⟨h1,h2⟩:=Re m.1 ha hh;have h3:Bq (acc.take (Fh m.1 acc)++acc.drop (Fh m.1 acc)):=by rw[List.take_append_drop];exact ha
 obtain⟨h4,h5,h6⟩:=List.pairwise_append.1 h3;refine List.pairwise_append.2 ⟨h4,List.pairwise_cons.2 ⟨h2,h5⟩,fun a ha b hb=> ?_⟩;rcases List.mem_cons.1 hb with rfl|hb
 . exact h1 a ha
 . exact h6 a ha b hb
theorem Rx (m:ByteArray×Val) (acc:List (ByteArray×Val)):(Aaf m acc).Perm (m::acc):=by
 have h:(acc.take (Fh m.1 acc)++([m]++acc.drop (Fh m.1 acc))).Perm ([m]++(acc.take (Fh m.1 acc)++acc.drop (Fh m.1 acc))):=by
  rw[<-List.append_assoc,<-List.append_assoc];exact List.Perm.append_right _ List.perm_append_comm
 rw[List.take_append_drop]at h;exact h
theorem Ab5 {k:ByteArray} {acc:List (ByteArray×Val)} (h:Ev k acc=true): ∃v,(k,v) ∈ acc:=by
 unfold Ev at h
 cases e:acc[Fh k acc]? with
 |none=>rw[e]at h;cases h
 |some p=>
  rw[e]at h;have hk:p.1=k:=Fg (by simpa using h);exact⟨p.2,by rw[<-hk];exact List.mem_of_getElem? e⟩
theorem Jq: ∀{l acc o:List (ByteArray×Val)},C3 l acc=some o->Bq acc->Bq o/\o.Perm (l++acc)
 | [],acc,o,h,ha=>by
   simp only[C3,Option.some.injEq]at h;subst h;exact⟨ha,List.Perm.refl _⟩
 |m::r,acc,o,h,ha=>by
  simp only[C3]at h;by_cases hh:Ev m.1 acc=true
  . rw[if_pos hh]at h;cases h
  . rw[if_neg hh]at h;obtain⟨h1,h2⟩:=Jq h (Ac2 ha (by simpa using hh));exact⟨h1,h2.trans ((List.Perm.append_left r (Rx m acc)).trans List.perm_middle)⟩
theorem T3 {l:List (ByteArray×Val)} (h:Bq l):(l.map (·.1)).Nodup:=by
 rw[List.Nodup,List.pairwise_map];exact h.imp fun hab e=>by rw[e,Cr]at hab;cases hab
theorem Nr: ∀{l acc:List (ByteArray×Val)},C3 l acc=none-> ¬((l++acc).map (·.1)).Nodup
 | [],acc,h=>by simp[C3]at h
 |m::r,acc,h=>by
  simp only[C3]at h;by_cases hh:Ev m.1 acc=true
  . obtain⟨v,hv⟩:=Ab5 hh;intro hn;rw[List.cons_append,List.map_cons,List.nodup_cons]at hn;exact hn.1 (List.mem_map.2 ⟨(m.1,v),List.mem_append.2 (.inr hv),rfl⟩)
  . rw[if_neg hh]at h;intro hn;refine Nr h ?_;have hp:((r++Aaf m acc).map (·.1)).Perm ((m::r++acc).map (·.1)):=((List.Perm.append_left r (Rx m acc)).trans List.perm_middle).map _;exact hp.nodup_iff.2 hn
theorem O2: ∀{a b:List (ByteArray×Val)},Bq a->Bq b->a.Perm b->a=b
 | [],b,_,_,h=>(List.Perm.nil_eq h)
 |x::a, [],_,_,h=>by have:=h.length_eq;simp at this
 |x::a,y::b,ha,hb,h=>by
  obtain⟨h1,h2⟩:=List.pairwise_cons.1 ha;obtain⟨h3,h4⟩:=List.pairwise_cons.1 hb;have hxy:x=y:=by
   rcases List.mem_cons.1 (h.mem_iff.1 (List.mem_cons_self (a:=x)))with e|hx
   . exact e
   . rcases List.mem_cons.1 (h.mem_iff.2 (List.mem_cons_self (a:=y)))with e|hy
     . exact e.symm
     . have p:=h3 x hx;have q:=h1 y hy;rw[L4 p]at q
       cases q
  subst hxy;rw[O2 h2 h4 (List.perm_cons _ |>.1 h)]
theorem Qo {l d:List (ByteArray×Val)} (hp:d.Perm l) (ha:Bq d):C3 l []=some d:=by
 cases e:C3 l []with
 |none=>
  exfalso
  refine Nr e ?_;rw[List.append_nil];exact(hp.map (·.1)).nodup_iff.1 (T3 ha)
 |some o=>
  obtain⟨h1,h2⟩:=Jq e List.Pairwise.nil;rw[List.append_nil]at h2;rw[O2 ha h1 (hp.trans h2.symm)]
theorem Tc {l d:List (ByteArray×Val)} (hp:d.Perm l) (ht: ¬(d.map (·.1)).Nodup):C3 l []=none:=by
 cases e:C3 l []with
 |none=>rfl
 |some o=>
  obtain⟨h1,h2⟩:=Jq e List.Pairwise.nil;rw[List.append_nil]at h2;exact absurd ((hp.trans h2.symm).map (·.1) |>.nodup_iff.2 (T3 h1)) ht
theorem Ab (w:World) (o:Obj):Below w.heap.size w (w.alloc o):=(Below.refl _ _).alloc (Nat.le_refl _) _
theorem Abe (n:Nat):((n:Int)==0)=decide (n=0):=by rw[Bool.eq_iff_iff];simp
theorem Adm (a b:Int):(a != b)=decide (a≠b):=by rw[Bool.eq_iff_iff];simp
theorem Adl (a b:Int):(a==b)=decide (a=b):=by rw[Bool.eq_iff_iff];simp
theorem Cn {W w1:World} (hb:Below W.heap.size W w1):(∀b o,b<W.heap.size->w1.cell? ⟨b,o,none⟩=W.cell? ⟨b,o,none⟩)/\(∀b o,b<W.heap.size->w1.frozen? ⟨b,o,none⟩=W.frozen? ⟨b,o,none⟩):=
 ⟨fun b o h=>hb.cell (p:=⟨b,o,none⟩) h,fun b o h=>hb.frozen (p:=⟨b,o,none⟩) h⟩
section
variable {P:Program}
end
end Go.Proofs.YtdbejcbbhomdbaaGreatDoor
namespace Go.Proofs.YtdbejcbbhomdbaaGreatDoor
open Go.RowKit Go.Shelf
def Lo (w:World) (B g o:Nat) (t:TypeId) (cs:Array Value) (bs:List UInt8):Prop:=
 B<=g/\w.heap[g]? =some (.cells cs t (0,0))/\t≠5/\o+1<cs.size/\(cs[o]? =some (.pointer none)\/cs[o]? =some (.pointer (some ⟨g,o,none⟩)))/\
  ∃v,cs[o+1]? =some v/\w.ownsRow B 5 1 v bs.length (Lib.byteCells bs)
def K5 (g o:Nat) (cs:Array Value) (v:Value):Array Value:=(cs.setIfInBounds o (.pointer (some ⟨g,o,none⟩))).setIfInBounds (o+1) v
theorem Lo.lt {w:World} {B g o:Nat} {t:TypeId} {cs:Array Value} {bs:List UInt8} (h:Lo w B g o t cs bs):g<w.heap.size:=by
 rcases Nat.lt_or_ge g w.heap.size with h'|h'
 . exact h'
 . have:=h.2.1;simp[Array.getElem?_eq_none h']at this
abbrev Dw (g:Nat) (w w':World):Prop:=Lib.OthersKept 5 (some g) w w'
theorem Br {w:World} {g i:Nat} {cs:Array Value} {t:TypeId} (h:w.heap[g]? =some (.cells cs t (0,0))) (u:Value):(w.setCell ⟨g,i,none⟩ u).heap[g]? =some (.cells (cs.setIfInBounds i u) t (0,0)):=by
 simp[World.setCell,Array.getElem?_modify,h]
theorem Lo.used {w:World} {B g o:Nat} {t:TypeId} {cs:Array Value} {bs:List UInt8} (h:Lo w B g o t cs bs):
 Lo (w.setCell ⟨g,o,none⟩ (.pointer (some ⟨g,o,none⟩))) B g o t (cs.setIfInBounds o (.pointer (some ⟨g,o,none⟩))) bs:=by
 obtain⟨hB,hb,ht,hs,h0,v,h1,hown⟩:=h;refine⟨hB,Br hb _,ht,by simpa using hs,.inr (by rw[Array.getElem?_setIfInBounds_self_of_lt (by omega)]),v,by rw[Array.getElem?_setIfInBounds,if_neg (by omega)];exact h1, ?_⟩;exact hown.kept (row:=some g) ⟨rfl,rfl,rfl,by simp[World.setCell],fun k _ hk=>Below.heap_setCell _ _ _ _ (fun e=>hk (by simp[e]))⟩ (Or.inr (Lib.ownBlock_ne hown hb ht))
theorem F2 (B g o:Nat) (t:TypeId) (cs:Array Value) (bs:List UInt8) (w:World) (h:Lo w B g o t cs bs) (hl:liesAt Tryz.prog Tryz.prog.depth t (cs.size / Tryz.prog.cellsOf t) o 129 1=true):
 Calls Tryz.prog 210 #[.pointer (some ⟨g,o,none⟩)] w fun e w'=>e=.returned (.tuple #[])/\Lo w' B g o t (cs.setIfInBounds o (.pointer (some ⟨g,o,none⟩))) bs/\Below B w w'/\Dw g w w':=by
 have hu:=h.used;obtain⟨hB,hb,ht,hs,h0,v,h1,hown⟩:=h;obtain⟨j,hj,hj2⟩: ∃j,Tryz.prog.info? 129=some j/\j.size=2:=by
  have:(Tryz.prog.info? 129).map (·.size)=some 2:=by kernel_rfl
  cases hq:Tryz.prog.info? 129 with
  |none=>simp[hq]at this
  |some j=>exact⟨j,rfl,by simpa[hq]using this⟩
 have hsh:w.shape? g=some (t,cs.size):=by simp[World.shape?,hb]
 rcases h0 with h0|h0
 . have c0:w.cell? ⟨g,o,none⟩=some (.pointer none):=by rw[Lib.cell_of_heap hb];exact h0
   have f0:w.frozen? ⟨g,o,none⟩=false:=Lib.frozen_of_heap hb o;go_enter Tryz.func210,Tryz.ntmps210;go_wp2;rw[Lib.run_to_unsafe (P:=Tryz.prog) w (src:=126) (dst:=213) (t:=129) ⟨g,o,none⟩ Tryz.underlying126 Tryz.underlying213 hj (by omega) hsh (by show o<cs.size;omega)];simp only[Result.andThen];rw[Oper.upon_value];go_wp2;rw[run_callFunc_extern Tryz.func232 (by kernel_rfl) (by kernel_rfl) (by kernel_rfl) (e:=Extern.AbiNoEscape.same) (by kernel_rfl)];rw[Lib.run_noEscape];simp only[Result.andThen];rw[Oper.upon_value];go_wp2;rw[Lib.run_from_unsafe (P:=Tryz.prog) w (src:=213) (dst:=126) (u:=129) ⟨g,o,none⟩ Tryz.underlying213 Tryz.underlying126 hj hsh hl];simp only[Result.andThen];rw[Oper.upon_value];go_wp2
   go_end0
   exact⟨rfl,hu,(Below.refl B w).setCell (p:=⟨g,o,none⟩) hB _,(Lib.OthersKept.refl _ _ w).setCell ⟨g,o,none⟩ rfl _⟩
 . have c0:w.cell? ⟨g,o,none⟩=some (.pointer (some ⟨g,o,none⟩)):=by rw[Lib.cell_of_heap hb];exact h0
   have hself:cs.setIfInBounds o (.pointer (some ⟨g,o,none⟩))=cs:=by
    apply Array.ext_getElem?
    intro i;rw[Array.getElem?_setIfInBounds]
    split
    . rename_i h;subst h;rw[if_pos (by omega),h0]
    . rfl
   have neq:=Lib.run_neq_ptr_same (P:=Tryz.prog) w (tp:=126) (te:=129) ⟨g,o,none⟩ Tryz.underlying126 hj;go_enter Tryz.func210,Tryz.ntmps210;go_wp2
   go_end0
   exact⟨rfl,by rw[hself];exact⟨hB,hb,ht,hs,.inr h0,v,h1,hown⟩,Below.refl _ _,Lib.OthersKept.refl _ _ _⟩
theorem U2:(Tryz.prog.info? 5).map (fun i=>(i.zero,i.size,i.bytes))=some (some (.int .u8 0),1,1):=by kernel_rfl
theorem Lo.put {w1 w2:World} {B g o:Nat} {t:TypeId} {cs:Array Value} {bs bs':List UInt8} (h:Lo w1 B g o t (cs.setIfInBounds o (.pointer (some ⟨g,o,none⟩))) bs) (hos:o+1<cs.size)
 (hb2:w2.heap[g]? =some (.cells (cs.setIfInBounds o (.pointer (some ⟨g,o,none⟩))) t (0,0))) {v':Value} (hown':w2.ownsRow B 5 1 v' bs'.length (Lib.byteCells bs')):
 Lo (w2.setCell ⟨g,o+1,none⟩ v') B g o t (K5 g o cs v') bs':=by
 obtain⟨hB,_,ht,hs,h0,_⟩:=h;refine⟨hB,Br hb2 _,ht,by simpa[K5]using hs,.inr ?_,v', ?_, ?_⟩
 . unfold K5;rw[Array.getElem?_setIfInBounds,if_neg (by omega),Array.getElem?_setIfInBounds_self_of_lt (by omega)]
 . unfold K5;rw[Array.getElem?_setIfInBounds_self_of_lt (by simpa using hs)]
 . exact hown'.kept (row:=some g) ⟨rfl,rfl,rfl,by simp[World.setCell],fun k _ hk=>Below.heap_setCell _ _ _ _ (fun e=>hk (by simp[e]))⟩ (Or.inr (Lib.ownBlock_ne hown' hb2 ht))
theorem Gb {w:World} {B:Nat} {e:TypeId} {v:Value} {n:Nat} {xs:List Value} (h:w.ownsRow B e 1 v n xs): ∀g,v.ownBlock=some g-> ∃c fz,w.heap[g]? =some (.cells c e fz):=by
 intro g hg;rcases h.2 with⟨rfl,_⟩|⟨g',cap,cur,rfl,_,hgg,_⟩
 . simp[Value.ownBlock]at hg
 . simp[Value.ownBlock]at hg;subst hg;exact⟨cur,_,hgg⟩
theorem Fb (a b:List UInt8):Lib.byteCells (a++b)=Lib.byteCells a++Lib.byteCells b:=by simp[Lib.byteCells]
theorem Gt (B g o:Nat) (t:TypeId) (cs:Array Value) (bs:List UInt8) (s:ByteArray) (w:World) (h:Lo w B g o t cs bs) (hl:liesAt Tryz.prog Tryz.prog.depth t (cs.size / Tryz.prog.cellsOf t) o 129 1=true)
 (hlen:bs.length+s.size<=140737488355328) (hBw:B<=w.heap.size):
 Calls Tryz.prog 164 #[.pointer (some ⟨g,o,none⟩),.string s] w fun e w'=>e=.returned (.tuple #[.int .i64 s.size,.nilIface])/\
  (∃v,Lo w' B g o t (K5 g o cs v) (bs++s.data.toList))/\Below B w w'/\Dw g w w':=by
 obtain⟨i0,hi,hz0,hz1,hz2⟩:=info_parts U2;have hos:o+1<cs.size:=h.2.2.2.1;go_enter Tryz.func164,Tryz.ntmps164;go_wp2_with (go_at_call 210;refine(F2 B g o t cs bs _ h hl).mono ?_);rintro e w1 ⟨rfl,h1,hb1,hk1⟩;have h1':=h1;obtain⟨hB,hbk,ht,hs,h0,v,hv,hown⟩:=h1;have c1:w1.cell? ⟨g,o+1,none⟩=some v:=by rw[Lib.cell_of_heap hbk];exact hv
 clear h hv h0;go_wp2_with (at_builtin;refine Lib.wpList_append_own_string _ rfl _ _ 127 9 rfl B 5 i0 Tryz.underlying127 Tryz.underlying9 hi hz0 hz1 hz2 _ _ _ rfl hown s rfl ?c3 ?c4 ?c5 ?_)
 case c3=>unfold maxLen;omega
 case c4=>omega
 case c5=>have:=hb1.size;omega
 intro v' w2 hown' hgrow _;have hne:=Lib.ownBlock_ne hown hbk ht;have hlt:g<w1.heap.size:=h1'.lt;have hb2:w2.heap[g]? =some (.cells (cs.setIfInBounds o (.pointer (some ⟨g,o,none⟩))) t (0,0)):=by
  rw[hgrow.block g hlt (fun e=>hne e.symm)];exact hbk
 have d1:w2.cell? ⟨g,o+1,none⟩=some v:=by rw[Lib.cell_of_heap hb2,<-Lib.cell_of_heap hbk];exact c1
 have f1:w2.frozen? ⟨g,o+1,none⟩=false:=Lib.frozen_of_heap hb2 _;have hk2:=hk1.grown hgrow (Gb hown);have hbw2:=hb1.grown hgrow (by have:=hb1.size;omega) (fun k hk=>(hown.lt k hk).1);obtain⟨ao,n',cap,rfl⟩: ∃ao n' cap,v'=.slice ao n' cap:=by
  rcases hown'.2 with⟨hv,_⟩|⟨g,cap,cur,hv,_⟩
  . exact⟨_,_,_,hv⟩
  . exact⟨_,_,_,hv⟩
 have hfin:=Lo.put h1' hos hb2 (bs':=bs++s.data.toList) (v':=.slice ao n' cap) (by
  rw[Fb,List.length_append];have e:s.data.toList.length=s.size:=by rw[<-Lib.size_eq]
  rw[e];exact hown')
 clear hown hown' hgrow c1 hbk hb2 h1' hb1 hk1 hne;go_wp2;go_ret2;exact⟨rfl,⟨_,hfin⟩,hbw2.setCell (p:=⟨g,o+1,none⟩) hB _,hk2.setCell ⟨g,o+1,none⟩ rfl _⟩
theorem Ob (B g o:Nat) (t:TypeId) (cs:Array Value) (bs:List UInt8) (c:Int) (hc0:0<=c) (hc1:c<256) (w:World) (h:Lo w B g o t cs bs) (hl:liesAt Tryz.prog Tryz.prog.depth t (cs.size / Tryz.prog.cellsOf t) o 129 1=true)
 (hlen:bs.length+1<=140737488355328) (hBw:B<=w.heap.size):
 Calls Tryz.prog 215 #[.pointer (some ⟨g,o,none⟩),.int .u8 c] w fun e w'=>e=.returned .nilIface/\
  (∃v,Lo w' B g o t (K5 g o cs v) (bs++ [UInt8.ofNat c.toNat]))/\Below B w w'/\Dw g w w':=by
 obtain⟨i0,hi,hz0,hz1,hz2⟩:=info_parts U2;have hos:o+1<cs.size:=h.2.2.2.1;go_enter Tryz.func215,Tryz.ntmps215;go_wp2_with (go_at_call 210;refine(F2 B g o t cs bs _ h hl).mono ?_);rintro e w1 ⟨rfl,h1,hb1,hk1⟩;have h1':=h1;obtain⟨hB,hbk,ht,hs,h0,v,hv,hown⟩:=h1;have c1:w1.cell? ⟨g,o+1,none⟩=some v:=by rw[Lib.cell_of_heap hbk];exact hv
 clear h hv h0;go_wp2_with (at_builtin;refine wpList_append_own _ rfl _ _ 127 rfl B 5 i0 (.int .u8 0) 1 1 Tryz.underlying127 hi hz0 hz1 hz2 rfl (by decide) _ _ _ rfl (hown.alloc _) ⟨w1.heap.size,0,none⟩ 1 1 [.int .u8 c] rfl rfl ?c1 ?c2 ?c3 ?c4 ?c5 ?_)
 case c1=>
  intro j u hj
  match j,hj with
  |0,hj=>simp at hj;subst hj;simp[Addr.add]
 case c2=>intro u hu;simp at hu;subst hu;rfl
 case c3=>unfold maxLen;omega
 case c4=>omega
 case c5=>have:=hb1.size;simp;omega
 intro v' w2 hown' hgrow _;have hne:=Lib.ownBlock_ne hown hbk ht;have hlt:g<w1.heap.size:=h1'.lt;have hb2:w2.heap[g]? =some (.cells (cs.setIfInBounds o (.pointer (some ⟨g,o,none⟩))) t (0,0)):=by
  rw[hgrow.block g (by simp;omega) (fun e=>hne e.symm),Lib.alloc_old w1 _ g hlt];exact hbk
 have d1:w2.cell? ⟨g,o+1,none⟩=some v:=by rw[Lib.cell_of_heap hb2,<-Lib.cell_of_heap hbk];exact c1
 have f1:w2.frozen? ⟨g,o+1,none⟩=false:=Lib.frozen_of_heap hb2 _;have hk2:=(hk1.alloc _).grown hgrow (Gb (hown.alloc _));have hbw2:=(hb1.alloc (by have:=hb1.size;omega) _).grown hgrow (by have:=hb1.size;simp;omega) (fun k hk=>(hown.lt k hk).1);obtain⟨ao,n',cap,rfl⟩: ∃ao n' cap,v'=.slice ao n' cap:=by
  rcases hown'.2 with⟨hv,_⟩|⟨g,cap,cur,hv,_⟩
  . exact⟨_,_,_,hv⟩
  . exact⟨_,_,_,hv⟩
 have hfin:=Lo.put h1' hos hb2 (bs':=bs++ [UInt8.ofNat c.toNat]) (v':=.slice ao n' cap) (by
  rw[Fb,List.length_append];have e:Lib.byteCells [UInt8.ofNat c.toNat]= [.int .u8 c]:=by
   simp[Lib.byteCells];omega
  rw[e];exact hown')
 clear hown hown' hgrow c1 hbk hb2 h1' hb1 hk1 hne;go_wp2;go_ret;exact⟨rfl,⟨_,hfin⟩,hbw2.setCell (p:=⟨g,o+1,none⟩) hB _,hk2.setCell ⟨g,o+1,none⟩ rfl _⟩
theorem Oh (r:Int):Lib.runeCells r=Lib.byteCells (Lib.encodeRune r):=(Lib.byteCells_encodeRune r).symm
theorem Oc (B g o:Nat) (t:TypeId) (cs:Array Value) (bs:List UInt8) (r:Int) (hr0: -2147483648<=r) (hr1:r<=2147483647) (w:World) (h:Lo w B g o t cs bs) (hl:liesAt Tryz.prog Tryz.prog.depth t (cs.size / Tryz.prog.cellsOf t) o 129 1=true)
 (hlen:bs.length+4<=140737488355328) (hBw:B<=w.heap.size):
 Calls Tryz.prog 218 #[.pointer (some ⟨g,o,none⟩),.int .i32 r] w fun e w'=>(∃k:Int,e=.returned (.tuple #[.int .i64 k,.nilIface]))/\
  (∃v,Lo w' B g o t (K5 g o cs v) (bs++Lib.encodeRune r))/\Below B w w'/\Dw g w w':=by
 have hos:o+1<cs.size:=h.2.2.2.1;go_enter Tryz.func218,Tryz.ntmps218;go_wp2_with (go_at_call 210;refine(F2 B g o t cs bs _ h hl).mono ?_);rintro e w1 ⟨rfl,h1,hb1,hk1⟩;have h1':=h1;obtain⟨hB,hbk,ht,hs,h0,v,hv,hown⟩:=h1;have c1:w1.cell? ⟨g,o+1,none⟩=some v:=by rw[Lib.cell_of_heap hbk];exact hv
 clear h hv h0;obtain⟨ao,n0,cap,rfl⟩: ∃ao n' cap,v=.slice ao n' cap:=by
  rcases hown.2 with⟨hv,_⟩|⟨g,cap,cur,hv,_⟩
  . exact⟨_,_,_,hv⟩
  . exact⟨_,_,_,hv⟩
 go_wp2_with (go_at_call 239;refine(Tryz.utf8_AppendRune_plain B _ _ _ r hr0 hr1 _ hown (by omega) (by have:=hb1.size;omega)).mono ?_);rintro e w2 ⟨v',rfl,hown',ob,hgrow⟩;have hne:=Lib.ownBlock_ne hown hbk ht;have hlt:g<w1.heap.size:=h1'.lt;have hb2:w2.heap[g]? =some (.cells (cs.setIfInBounds o (.pointer (some ⟨g,o,none⟩))) t (0,0)):=by
  rw[hgrow.block g (by simp;omega) (fun e=>hne e.symm),Lib.alloc_old w1 _ g hlt];exact hbk
 have d1:w2.cell? ⟨g,o+1,none⟩=some (.slice ao n0 cap):=by rw[Lib.cell_of_heap hb2,<-Lib.cell_of_heap hbk];exact c1
 have f1:w2.frozen? ⟨g,o+1,none⟩=false:=Lib.frozen_of_heap hb2 _;have hk2:=(hk1.alloc ob).grown hgrow (Gb (hown.alloc _));have hbw2:=(hb1.alloc (by have:=hb1.size;omega) ob).grown hgrow (by have:=hb1.size;simp;omega) (fun k hk=>(hown.lt k hk).1);obtain⟨ao',n',cap',rfl⟩: ∃ao n' cap,v'=.slice ao n' cap:=by
  rcases hown'.2 with⟨hv,_⟩|⟨g,cap,cur,hv,_⟩
  . exact⟨_,_,_,hv⟩
  . exact⟨_,_,_,hv⟩
 have hfin:=Lo.put h1' hos hb2 (bs':=bs++Lib.encodeRune r) (v':=.slice ao' n' cap') (by
  rw[Fb,List.length_append];rw[Oh]at hown';simpa[Lib.byteCells]using hown')
 have e1:(w2.setCell ⟨g,o+1,none⟩ (.slice ao' n' cap')).cell? ⟨g,o+1,none⟩=some (.slice ao' n' cap'):=World.cell?_setCell_same' _ _ _ (by rw[d1];rfl);clear hown hown' hgrow c1 hbk hb2 h1' hb1 hk1 hne;go_wp2;go_ret2;exact⟨⟨_,rfl⟩,⟨_,hfin⟩,hbw2.setCell (p:=⟨g,o+1,none⟩) hB _,hk2.setCell ⟨g,o+1,none⟩ rfl _⟩
theorem Lu (B g o:Nat) (t:TypeId) (cs:Array Value) (l:List UInt8) (w:World) (h:Lo w B g o t cs l) (hl0:l≠ []):
 Calls Tryz.prog 82 #[.pointer (some ⟨g,o,none⟩)] w fun e w'=>e=.returned (.string ⟨l.toArray⟩)/\Below B w w'/\Dw g w w':=by
 obtain⟨hB,hbk,ht,hs,h0,v,hv,hown⟩:=h;have hl1:l.length≠0:=by simpa using hl0
 obtain⟨gg,cap,cur,rfl,hbg,hg,hnc,hcm,hcs,htake⟩: ∃gg cap cur,v=.slice (some ⟨gg,0,none⟩) l.length cap/\B<=gg/\w.heap[gg]? =some (.cells cur 5 (0,0))/\l.length<=cap/\cap<=maxLen/\cur.size=cap*1/\cur.toList.take (l.length*1)=Lib.byteCells l:=by
  rcases hown.2 with⟨_,hz⟩|⟨gg,cap,cur,hv,r⟩
  . exact absurd hz hl1
  . exact⟨gg,cap,cur,hv,r⟩
 have c1:w.drew.cell? ⟨g,o+1,none⟩=some (.slice (some ⟨gg,0,none⟩) l.length cap):=by
  have:w.drew.heap[g]? =some (.cells cs t (0,0)):=hbk;rw[Lib.cell_of_heap this];exact hv
 have hSD:(Builtin.unsafeSliceData_ #[127] 182 #[.slice (some ⟨gg,0,none⟩) l.length cap]).run Tryz.prog w.drew=.ok (.pointer (some ⟨gg,0,none⟩)) w.drew:=
  Lib.run_unsafeSliceData_row _ _ _ _ _ _ (by omega)
 have hUS:(Builtin.unsafeString_ #[182,3] 9 #[.pointer (some ⟨gg,0,none⟩),.int .i64 l.length]).run Tryz.prog w.drew=.ok (.string ⟨l.toArray⟩) (w.drew.freeze ⟨gg,0,none⟩ l.length):=by
  refine Lib.run_unsafeString_row w.drew 182 3 9 5 Tryz.underlying182 (by kernel_rfl) gg cur.size (by have hg':w.drew.heap[gg]? =some (.cells cur 5 (0,0)):=hg;simp[World.shape?,hg']) l hl0 (by omega) (by unfold maxLen at hcm;omega) ?_;intro j x hx;have:=hown.cells (g:=gg) rfl j (.int .u8 x.toNat) (by simp[Lib.byteCells,hx]);exact this
 clear hv h0;go_enter Tryz.func82,Tryz.ntmps82;go_wp2;go_region
 all_goals(go_wp2;go_ret;exact⟨rfl,Lib.below_freeze (Below.drew (Below.refl B w)) (p:=⟨gg,0,none⟩) hbg _,((Lib.OthersKept.refl _ _ w).drew).freeze ⟨gg,0,none⟩ _ ⟨cur,_,hg⟩⟩)
end Go.Proofs.YtdbejcbbhomdbaaGreatDoor
namespace Go.Proofs.YtdbejcbbhomdbaaGreatDoor
open Go.RowKit
def Aa0 (v:Val):Prop:= ∀(cs:List Value) (w:World),Aa w w.heap.size v cs->v.bulk<=100000000->
    Calls Tryz.prog 40 #[.agg cs.toArray] w fun e w'=>(∃cs',e=.returned (.agg (cs':List Value).toArray)/\cs'.length=6/\K4 w w' v cs')/\Below w.heap.size w w'
end Go.Proofs.YtdbejcbbhomdbaaGreatDoor
