/- Parts: Rows that a call builds by append: several data at once; a row's literal. Plain. No condition. -/
import Derived.Shelf.SlSortFuncK.WholeK
import Derived.Shelf.GgSortFunc.Tiny
import Derived.Test.YtobmaegpfbheoaaGreatDoorKPf14
set_option maxHeartbeats 20000000
set_option maxRecDepth 100000
namespace Go.Proofs.YtobmaegpfbheoaaGreatDoor
open Go.RowKit
def P5 (a b:ByteArray):Bool:=Op.bytesLess a.toList b.toList
def Rr (k:ByteArray):List (ByteArray×Val)->Nat
 | []=>0
 |p::r=>if P5 p.1 k then Rr k r+1 else 0
def Nr (k:ByteArray) (acc:List (ByteArray×Val)):Bool:=(acc[Rr k acc]?).any fun p=>p.1.toList==k.toList
def X4 (m:ByteArray×Val) (acc:List (ByteArray×Val)):List (ByteArray×Val):=acc.take (Rr m.1 acc)++([m]++acc.drop (Rr m.1 acc))
def C6:List (ByteArray×Val)->List (ByteArray×Val)->Option (List (ByteArray×Val))
 | [],acc=>some acc
 |m::r,acc=>if Nr m.1 acc then none else C6 r (X4 m acc)
theorem Xk (m:ByteArray×Val) (acc:List (ByteArray×Val)):Av (X4 m acc)=Av acc+Ds m:=by
 have h:=congrArg Av (List.take_append_drop (Rr m.1 acc) acc);rw[La]at h;simp only[X4,La,Av];omega
theorem Mf: ∀{l acc o:List (ByteArray×Val)},C6 l acc=some o->Av o=Av acc+Av l
 | [],acc,o,h=>by
   simp only[C6,Option.some.injEq]at h;subst h;simp[Av]
 |m::r,acc,o,h=>by
  simp only[C6]at h;by_cases hh:Nr m.1 acc=true
  . rw[if_pos hh]at h;cases h
  . rw[if_neg hh]at h;rw[Mf h,Xk];simp only[Av];omega
theorem Sc (v:Val) (cs:List Value) (w:World) (hT:B7 w) (hV:Ab w w.heap.size v cs) (hb:v.bulk<=1000000000) (hok:Ui v):
 Calls Tryz.prog 164 #[.agg cs.toArray] w fun e w'=>e=.returned (.int .i64 (Bd v).length)/\Below w.heap.size w w':=by
 have hV':=hV;obtain⟨k,b,n,t,l,o⟩:=v;simp only[Ab]at hV';obtain⟨la,lc,oa,oc,rfl,_,_⟩:=hV';obtain⟨w1,hw1⟩: ∃w1,w.alloc (.cells (Df k b n t la l.length lc oa o.length oc).toArray 42)=w1:=⟨_,rfl⟩;have hb1:Below w.heap.size w w1:=hw1▸(Below.refl _ _).alloc (Nat.le_refl _) _;have hz1:w1.heap.size=w.heap.size+1:=by rw[<-hw1];simp
 have hc:=K4 k b n t l o la oa lc oc false w1 (hT.below hb1) (Ab.more hb1.size _ _ (hV.below hb1)) hb hok;have HO:=qz (fun w=>Iz k b n t la oa l.length lc o.length oc w);rw[hz1]at hc;generalize Bd (.mk k b n t l o)=L at*
 have ent:=Ga;obtain⟨HC,HAB⟩:=hid2 hc hb1;subst hw1;clear hc hV hb hok hT hz1 hb1;go_enter Tryz.func164,Tryz.ntmps164;go_wp2_with (first|(go_at_call 53;refine(HO.out _).mono ?_;rintro e w2 ⟨rfl,rfl⟩)|(go_at_fn (Jd k);refine(HC.out).mono ?_;rintro e w4 ⟨rfl,h6,h7⟩;have hW4:=h6;obtain⟨pp,vv,hbld⟩:=hW4;have g3:w4.cell? ⟨w.heap.size+1,3,none⟩=some (.int .i64 (L.length:Int)):=by(rw[Lib.cell_of_heap hbld.2.1];rfl)));go_ret;exact⟨rfl,HAB.out.trans (h7.mono (by simp))⟩
theorem Mc: ∀{l:List Val},(∀v ∈ l,∀d d':Int,A9 v d'=0->d+Da v<=65->A9 v d=0)-> ∀{d d':Int},Cy l d'=0->(l= []\/d+Dk l<=65)->Cy l d=0
 | [],_,_,_,_,_=>by simp[Cy]
 |v::r,ih,d,d',h,hd=>by
  have hd:=hd.resolve_left (by simp);simp only[Dk]at hd;simp only[Cy]at h ⊢;by_cases h0:A9 v d'=0
  . rw[if_pos h0]at h;rw[if_pos (ih v (by simp) d d' h0 (by omega))];exact Mc (fun x hx=>ih x (by simp[hx])) h (.inr (by omega))
  . rw[if_neg h0]at h;exact absurd h h0
theorem Md: ∀{l:List (ByteArray×Val)},(∀m ∈ l,∀d d':Int,A9 m.2 d'=0->d+Da m.2<=65->A9 m.2 d=0)-> ∀{last:Option ByteArray} {d d':Int},Cf l last d'=0->(l= []\/d+Fh l<=65)->Cf l last d=0
 | [],_,_,_,_,_,_=>by simp[Cf]
 |(key,v)::r,ih,last,d,d',h,hd=>by
  have hd:=hd.resolve_left (by simp);simp only[Fh,Sk]at hd;simp only[Cf]at h ⊢;by_cases h0:N3 (key,v) last d'=0
  . rw[if_pos h0]at h;have h1:N3 (key,v) last d=0:=by
     simp only[N3]at h0 ⊢;by_cases hv:Al key=true
     . rw[if_pos hv]at h0 ⊢
       cases last with
       |none=>exact ih (key,v) (by simp) d d' h0 (by simp only;omega)
       |some q=>
        simp only at h0 ⊢;by_cases hl:M5 key q=true
        . rw[if_pos hl]at h0;cases h0
        . rw[if_neg hl]at h0 ⊢;exact ih (key,v) (by simp) d d' h0 (by simp only;omega)
     . rw[if_neg hv]at h0;cases h0
    rw[if_pos h1];exact Md (fun x hx=>ih x (by simp[hx])) h (.inr (by omega))
  . rw[if_neg h0]at h;exact absurd h h0
theorem S9: ∀(v:Val) (d d':Int),A9 v d'=0->d+Da v<=65->A9 v d=0:=by
 refine Val.ind ?_;intro k b n t l o hl ho d d' h hd;obtain⟨h1,_,h3,h4,h5⟩:=N4 h;obtain⟨_,_,k5,k6⟩:=Lu h1;simp only[Da]at hd;have hL:Cy l (d+1)=0:=by
  refine Mc hl h4 ?_;rcases k5 with e|e
  . rw[if_pos e]at hd;exact .inr (by omega)
  . exact .inl (List.length_eq_zero_iff.1 e)
 have hO:Cf o none (d+1)=0:=by
  refine Md ho h5 ?_;rcases k6 with e|e
  . rw[if_neg (by omega),if_pos e]at hd;exact .inr (by omega)
  . exact .inl (List.length_eq_zero_iff.1 e)
 have h64: ¬64<d:=by
  have:0<=(if k=5 then Dk l else if k=6 then Fh o else 0):=Nat.zero_le _;omega
 simp only[A9];rw[if_neg (by rw[h1];simp),if_neg h64,if_pos h3,if_pos hL,hO]
theorem Ps: ∀x:List UInt8,Op.bytesLess x x=false
 | []=>rfl
 |a::x=>by simp[Op.bytesLess,Ps x,UInt8.lt_irrefl]
theorem R6: ∀{x y z:List UInt8},Op.bytesLess x y=true->Op.bytesLess y z=true->Op.bytesLess x z=true
 |_, [],_,h,_=>by cases ‹List UInt8› <;>simp[Op.bytesLess]at h
 |_,_::_, [],_,h=>by simp[Op.bytesLess]at h
 | [],_::_,_::_,_,_=>rfl
 |a::x,b::y,c::z,h,k=>by
  simp only[Op.bytesLess,Bool.or_eq_true,Bool.and_eq_true,decide_eq_true_eq,beq_iff_eq]at h k ⊢;rcases h with h|⟨rfl,h⟩<;>rcases k with k|⟨rfl,k⟩
  . exact .inl (UInt8.lt_trans h k)
  . exact .inl h
  . exact .inl k
  . exact .inr ⟨rfl,R6 h k⟩
theorem Yx: ∀(x y:List UInt8),Op.bytesLess x y=true\/x=y\/Op.bytesLess y x=true
 | [], []=> .inr (.inl rfl)
 | [],_::_=> .inl rfl
 |_::_, []=> .inr (.inr rfl)
 |a::x,b::y=>by
  simp only[Op.bytesLess,Bool.or_eq_true,Bool.and_eq_true,decide_eq_true_eq,beq_iff_eq];rcases Nat.lt_trichotomy a.toNat b.toNat with h|h|h
  . exact .inl (.inl (UInt8.lt_iff_toNat_lt.2 h))
  . have hab:a=b:=UInt8.toNat_inj.1 h;subst hab;rcases Yx x y with h|h|h
    . exact .inl (.inr ⟨rfl,h⟩)
    . exact .inr (.inl (by rw[h]))
    . exact .inr (.inr (.inr ⟨rfl,h⟩))
  . exact .inr (.inr (.inl (UInt8.lt_iff_toNat_lt.2 h)))
theorem F3 {a b:ByteArray} (h:a.toList=b.toList):a=b:=by
 rw[Lib.toList_data,Lib.toList_data]at h;exact ByteArray.ext (Array.ext' h)
theorem G3 (a:ByteArray):P5 a a=false:=Ps _
theorem Gl {a b c:ByteArray} (h:P5 a b=true) (k:P5 b c=true):P5 a c=true:=R6 h k
theorem Q5 (a b:ByteArray):P5 a b=true\/a=b\/P5 b a=true:=by
 rcases Yx a.toList b.toList with h|h|h
 . exact .inl h
 . exact .inr (.inl (F3 h))
 . exact .inr (.inr h)
theorem Sz {a b:ByteArray} (h:P5 a b=true):P5 b a=false:=by
 cases e:P5 b a with
 |false=>rfl
 |true=>have:=Gl h e;rw[G3]at this;cases this
def K6 (l:List (ByteArray×Val)):Prop:=l.Pairwise fun a b=>P5 a.1 b.1=true
theorem Pr (k:ByteArray): ∀{acc:List (ByteArray×Val)},K6 acc->Nr k acc=false->(∀p ∈ acc.take (Rr k acc),P5 p.1 k=true)/\(∀p ∈ acc.drop (Rr k acc),P5 k p.1=true)
 | [],_,_=>by simp
 |q::r,ha,hh=>by
  obtain⟨h1,h2⟩:=List.pairwise_cons.1 ha;by_cases hq:P5 q.1 k=true
  . have hh':Nr k r=false:=by
     unfold Nr at hh ⊢;simpa only[Rr,if_pos hq,List.getElem?_cons_succ]using hh
    obtain⟨a,b⟩:=Pr k h2 hh';simp only[Rr,if_pos hq,List.take_succ_cons,List.drop_succ_cons];refine⟨fun p hp=> ?_,b⟩;rcases List.mem_cons.1 hp with rfl|hp
    . exact hq
    . exact a p hp
  . simp only[Rr,if_neg hq,List.take_zero,List.drop_zero];refine⟨fun p hp=>(by cases hp), ?_⟩;have hne:q.1≠k:=by
     intro e;unfold Nr at hh;simp only[Rr,if_neg hq,List.getElem?_cons_zero,Option.any_some]at hh;rw[e]at hh;simp at hh
    have hkq:P5 k q.1=true:=by
     rcases Q5 q.1 k with h|h|h
     . exact absurd h hq
     . exact absurd h hne
     . exact h
    intro p hp;rcases List.mem_cons.1 hp with rfl|hp
    . exact hkq
    . exact Gl hkq (h1 p hp)
theorem Z3 {m:ByteArray×Val} {acc:List (ByteArray×Val)} (ha:K6 acc) (hh:Nr m.1 acc=false):K6 (X4 m acc):=by
 obtain⟨h1,h2⟩:=Pr m.1 ha hh;have h3:K6 (acc.take (Rr m.1 acc)++acc.drop (Rr m.1 acc)):=by rw[List.take_append_drop];exact ha
 obtain⟨h4,h5,h6⟩:=List.pairwise_append.1 h3;refine List.pairwise_append.2 ⟨h4,List.pairwise_cons.2 ⟨h2,h5⟩,fun a ha b hb=> ?_⟩;rcases List.mem_cons.1 hb with rfl|hb
 . exact h1 a ha
 . exact h6 a ha b hb
theorem Qc (m:ByteArray×Val) (acc:List (ByteArray×Val)):(X4 m acc).Perm (m::acc):=by
 have h:(acc.take (Rr m.1 acc)++([m]++acc.drop (Rr m.1 acc))).Perm ([m]++(acc.take (Rr m.1 acc)++acc.drop (Rr m.1 acc))):=by
  rw[<-List.append_assoc,<-List.append_assoc];exact List.Perm.append_right _ List.perm_append_comm
 rw[List.take_append_drop]at h;exact h
theorem Zh {k:ByteArray} {acc:List (ByteArray×Val)} (h:Nr k acc=true): ∃v,(k,v) ∈ acc:=by
 unfold Nr at h
 cases e:acc[Rr k acc]? with
 |none=>rw[e]at h;cases h
 |some p=>
  rw[e]at h;have hk:p.1=k:=F3 (by simpa using h);exact⟨p.2,by rw[<-hk];exact List.mem_of_getElem? e⟩
theorem Ic: ∀{l acc o:List (ByteArray×Val)},C6 l acc=some o->K6 acc->K6 o/\o.Perm (l++acc)
 | [],acc,o,h,ha=>by
   simp only[C6,Option.some.injEq]at h;subst h;exact⟨ha,List.Perm.refl _⟩
 |m::r,acc,o,h,ha=>by
  simp only[C6]at h;by_cases hh:Nr m.1 acc=true
  . rw[if_pos hh]at h;cases h
  . rw[if_neg hh]at h;obtain⟨h1,h2⟩:=Ic h (Z3 ha (by simpa using hh));exact⟨h1,h2.trans ((List.Perm.append_left r (Qc m acc)).trans List.perm_middle)⟩
theorem R0 {l:List (ByteArray×Val)} (h:K6 l):(l.map (·.1)).Nodup:=by
 rw[List.Nodup,List.pairwise_map];exact h.imp fun hab e=>by rw[e,G3]at hab;cases hab
theorem Mg: ∀{l acc:List (ByteArray×Val)},C6 l acc=none-> ¬((l++acc).map (·.1)).Nodup
 | [],acc,h=>by simp[C6]at h
 |m::r,acc,h=>by
  simp only[C6]at h;by_cases hh:Nr m.1 acc=true
  . obtain⟨v,hv⟩:=Zh hh;intro hn;rw[List.cons_append,List.map_cons,List.nodup_cons]at hn;exact hn.1 (List.mem_map.2 ⟨(m.1,v),List.mem_append.2 (.inr hv),rfl⟩)
  . rw[if_neg hh]at h;intro hn;refine Mg h ?_;have hp:((r++X4 m acc).map (·.1)).Perm ((m::r++acc).map (·.1)):=((List.Perm.append_left r (Qc m acc)).trans List.perm_middle).map _;exact hp.nodup_iff.2 hn
theorem Nb: ∀{a b:List (ByteArray×Val)},K6 a->K6 b->a.Perm b->a=b
 | [],b,_,_,h=>(List.Perm.nil_eq h)
 |x::a, [],_,_,h=>by have:=h.length_eq;simp at this
 |x::a,y::b,ha,hb,h=>by
  obtain⟨h1,h2⟩:=List.pairwise_cons.1 ha;obtain⟨h3,h4⟩:=List.pairwise_cons.1 hb;have hxy:x=y:=by
   rcases List.mem_cons.1 (h.mem_iff.1 (List.mem_cons_self (a:=x)))with e|hx
   . exact e
   . rcases List.mem_cons.1 (h.mem_iff.2 (List.mem_cons_self (a:=y)))with e|hy
     . exact e.symm
     . have p:=h3 x hx;have q:=h1 y hy;rw[Sz p]at q
       cases q
  subst hxy;rw[Nb h2 h4 (List.perm_cons _ |>.1 h)]
theorem O5 {l d:List (ByteArray×Val)} (hp:d.Perm l) (ha:K6 d):C6 l []=some d:=by
 cases e:C6 l []with
 |none=>
  exfalso
  refine Mg e ?_;rw[List.append_nil];exact(hp.map (·.1)).nodup_iff.1 (R0 ha)
 |some o=>
  obtain⟨h1,h2⟩:=Ic e List.Pairwise.nil;rw[List.append_nil]at h2;rw[Nb ha h1 (hp.trans h2.symm)]
theorem Q8 {l d:List (ByteArray×Val)} (hp:d.Perm l) (ht: ¬(d.map (·.1)).Nodup):C6 l []=none:=by
 cases e:C6 l []with
 |none=>rfl
 |some o=>
  obtain⟨h1,h2⟩:=Ic e List.Pairwise.nil;rw[List.append_nil]at h2;exact absurd ((hp.trans h2.symm).map (·.1) |>.nodup_iff.2 (R0 h1)) ht
abbrev Mx:Type:=ByteArray×(Val×((Option Addr×Nat)×(Option Addr×Nat)))
instance:Inhabited Val:=⟨.mk 0 false 0 ⟨#[]⟩ [] []⟩
def Ep:Mx->List Value
 |(key,(.mk k b n t l o,((la,lc),(oa,oc))))=> [.string key,.int .i64 k,.bool b,.int .i64 n,.string t,.slice la l.length lc,.slice oa o.length oc]
def Jc (x:Mx):ByteArray×Val:=(x.1,x.2.1)
theorem Kg (x:Mx):(Ep x).length=7:=by
 obtain⟨key,⟨k,b,n,t,l,o⟩,⟨la,lc⟩,oa,oc⟩:=x;rfl
theorem Zd (x:Mx): ∀v ∈ Ep x,v.oneCell'=true:=by
 obtain⟨key,⟨k,b,n,t,l,o⟩,⟨la,lc⟩,oa,oc⟩:=x;intro v hv;simp only[Ep,List.mem_cons,List.not_mem_nil,or_false]at hv;rcases hv with rfl|rfl|rfl|rfl|rfl|rfl|rfl<;>rfl
theorem Np (x:Mx):(Ep x)[0]! =.string x.1:=by
 obtain⟨key,⟨k,b,n,t,l,o⟩,⟨la,lc⟩,oa,oc⟩:=x;rfl
def Zo (x y:Mx):Bool:=P5 x.1 y.1
theorem Adc:Go.Sort.SWO Zo where
 irrefl x:=G3 _
 trans x y z h k:=Gl h k
 ntrans x y z h k:=by
  unfold Zo at*
  cases e:P5 x.1 z.1 with
  |false=>rfl
  |true=>
   rcases Q5 x.1 y.1 with p|p|p
   . rw[h]at p;cases p
   . rw[p]at e;rw[k]at e;cases e
   . have:=Gl p e;rw[k]at this;cases this
theorem Aco (blk off c Bs size:Nat) (W:World) (G:Nat->ByteArray) (hs:W.cell? ⟨Bs,0,none⟩=some (.slice (some ⟨blk,off,none⟩) size c))
 (hc: ∀t,t<size->W.cell? ⟨blk,off+t*7,none⟩=some (.string (G t))) (i j:Nat) (hi:i<size) (hj:j<size) (_hsz:size<4611686018427387904):
 Calls Tryz.prog 94 #[.int .i64 i,.int .i64 j,.pointer (some ⟨Bs,0,none⟩)] W fun e w'=>e=.returned (.bool (P5 (G i) (G j)))/\ ∃q,w'=W.drewN q:=by
 have ci:=hc i hi;have cj:=hc j hj;clear hc;have i1:(i:Int)<(size:Int):=by omega
 have j1:(j:Int)<(size:Int):=by omega
 go_enter Tryz.func94,Tryz.ntmps94;go_wp2;go_quiet (fail);go_wp2;go_ret;exact⟨rfl,nq,rfl⟩
noncomputable def Abn:TypeInfo:=(Tryz.prog.info? 40).get (by kernel_rfl)
noncomputable def Qf:TypeInfo:=(Tryz.prog.info? 74).get (by kernel_rfl)
theorem Acx (n:Nat) (h2:2<=n):Lib.swapperK n Qf 25=9:=by
 have a:Qf.hasPointers=true:=by kernel_rfl
 have b:Qf.bytes=104:=by kernel_rfl
 have c:(n==0)=false:=by simp;omega
 have d:(n==1)=false:=by simp;omega
 simp[Lib.swapperK,a,b,c,d]
def Yu (w:World) (blk:Nat) (d:Array Mx) (e:Ending) (w':World):Prop:=e=.returned (.tuple #[])/\ ∃d':Array Mx,d'.size=d.size/\d'.toList.Perm d.toList/\Go.Sort.SortedIn Zo 0 d.size d'/\
 (∀i,i<d.size-> ∀j,j<7->w'.cell? ⟨blk,i*7+j,none⟩=some (Ep d'[i]!)[j]!)/\(∀b,b<w.heap.size->b≠blk->w'.heap[b]? =w.heap[b]?)/\w.heap.size<=w'.heap.size/\w'.os=w.os/\w'.tape=w.tape/\w'.output=w.output
theorem Wh (blk c Bs:Nat) (d:Array Mx) (h2:2<=d.size) (hsz:d.size<4611686018427387904) (w:World) (hH:Go.Sort.HoldsK Ep 7 w blk 0 d) (hblk:blk<w.heap.size)
 (hBs:w.cell? ⟨Bs,0,none⟩=some (.slice (some ⟨blk,0,none⟩) d.size c)) (hB1:Bs<w.heap.size) (hB2:Bs≠blk):
 Calls Tryz.prog 93 #[.iface 40 (.slice (some ⟨blk,0,none⟩) d.size c),.func (.func 94) #[] #[.pointer (some ⟨Bs,0,none⟩)]] w (Yu w blk d):=by
 have hless:LessReadsK Tryz.prog 94 #[.pointer (some ⟨Bs,0,none⟩)] Ep 7 Zo blk 0 d.size w:=by
  intro m os dk hs i j hi hj;have e:sortWorldK Ep 7 w blk 0 m dk os=Go.Sort.putRowK Ep 7 (Go.Sort.grow (Go.Sort.ahead w m) os) blk 0 dk:=by
   unfold sortWorldK;rw[Go.Sort.putRowK_grow _ _ (Go.Sort.ahead w m) _ blk 0 _ hblk]
  have hHg:Go.Sort.HoldsK Ep 7 (Go.Sort.grow (Go.Sort.ahead w m) os) blk 0 d:=Go.Sort.holdsK_grow _ _ _ _ blk 0 d hblk (Go.Sort.holdsK_ahead _ _ _ _ _ _ _ hH);refine Aco blk 0 c Bs d.size _ (fun t=>dk[t]!.1) ?_ (fun t ht=> ?_) i j hi hj (by omega)
  . rw[e,Go.Sort.cell?_putRowK_other _ _ _ blk 0 dk _ (by exact hB2),Go.Sort.cell?_grow _ _ _ (by exact hB1)];exact hBs
  . rw[e,<-Np];exact((Go.Sort.holdsK_putRowK _ _ _ blk 0 d dk hHg hs).cell (i:=t) (c:=0) (by omega) (by omega)).1
 have hS:=Any.sort_Slice_cells_sorted Tryz.sortSlice_lays 40 74 Abn Qf (by kernel_rfl) (by kernel_rfl) (by kernel_rfl) (by kernel_rfl) 25 (fun _=>by kernel_rfl) Ep 7 Kg (by kernel_rfl) (fun _=>by kernel_rfl)
  Zd Zo Adc 94 _
  (enters_of Tryz.func94 (by kernel_rfl) rfl) blk 0 c d h2 hsz 184 (by rw[Acx _ h2];kernel_rfl) false
  (fun args W=>run_callFunc_extern Tryz.func184 (by kernel_rfl) (by kernel_rfl) (by kernel_rfl) (e:=Extern.ReflectliteSwapper.swap false) (by kernel_rfl) args W) w hless hH hblk
 change Calls Tryz.prog 93 _ _ _ at hS;refine hS.mono ?_;rintro e w' ⟨rfl,d',n,os,⟨hs',_,hp⟩,hso,rfl⟩;have hp':d'.toList.Perm d.toList:=by
  have e1:d'.extract 0 d.size=d':=by rw[<-hs'];simp
  have e2:d.extract 0 d.size=d:=by simp
  rwa [e1,e2]at hp
 have hH2:Go.Sort.HoldsK Ep 7 (Go.Sort.putRowK Ep 7 (Go.Sort.ahead w n) blk 0 d') blk 0 d':=Go.Sort.holdsK_putRowK _ _ _ blk 0 d d' (Go.Sort.holdsK_ahead _ _ _ _ _ _ _ hH) hs';have hsize:(Go.Sort.putRowK Ep 7 (Go.Sort.ahead w n) blk 0 d').heap.size=w.heap.size:=by
  simp[Go.Sort.putRowK,Go.Sort.putRow,Go.Sort.mapBlock,Go.Sort.ahead]
 refine⟨rfl,d',hs',hp',hso,fun i hi j hj=> ?_,fun b hb hne=> ?_,by rw[Go.Sort.size_grow,hsize];omega,rfl,rfl,rfl⟩
 . rw[Go.Sort.cell?_grow _ _ _ (by show blk<_;rw[hsize];exact hblk)];have:=(hH2.cell (i:=i) (c:=j) (by omega) hj).1
   rwa [Nat.zero_add]at this
 . show((Go.Sort.putRowK Ep 7 (Go.Sort.ahead w n) blk 0 d').heap++os)[b]? =_;rw[Array.getElem?_append_left (by rw[hsize];exact hb)];simp only[Go.Sort.putRowK,Go.Sort.putRow,Go.Sort.mapBlock,Go.Sort.ahead,Array.getElem?_modify];rw[if_neg (fun e=>hne e.symm)]
theorem Yd (p:Option Addr) (n c Bs:Nat) (h1:n<=1) (w:World):
 Calls Tryz.prog 93 #[.iface 40 (.slice p n c),.func (.func 94) #[] #[.pointer (some ⟨Bs,0,none⟩)]] w fun e w'=>e=.returned (.tuple #[])/\Below w.heap.size w w':=by
 have key: ∀f,Tryz.prog.funcs.findIdx? (·.name== "internal/reflectlite" ++ ".Swapper$" ++toString (Lib.swapperK n Qf 25))=some f->
  Calls Tryz.prog 93 #[.iface 40 (.slice p n c),.func (.func 94) #[] #[.pointer (some ⟨Bs,0,none⟩)]] w fun e w'=>e=.returned (.tuple #[])/\Below w.heap.size w w':=by
  intro f hf;have hS:=Any.sort_Slice_tiny Tryz.sortSlice_lays 40 74 Abn Qf (by kernel_rfl) (by kernel_rfl) (by kernel_rfl) (by kernel_rfl) 25 (fun _=>by kernel_rfl) p n c h1 f hf (.func 94) #[] #[.pointer (some ⟨Bs,0,none⟩)] w;change Calls Tryz.prog 93 _ _ _ at hS;refine hS.mono ?_;rintro e w' ⟨rfl,os,rfl⟩;refine⟨rfl,⟨rfl,rfl,rfl,by rw[Go.Sort.size_grow];omega,fun i hi=> ?_⟩⟩;show(w.heap++os)[i]? =_;exact Array.getElem?_append_left hi
 rcases Nat.eq_zero_or_pos n with rfl|h0
 . exact key 176 (by kernel_rfl)
 . obtain rfl:n=1:=by omega
   exact key 177 (by kernel_rfl)
def Xh (w:World) (o:List (ByteArray×Val)) (e:Ending) (w':World):Prop:= ∃V ns,e=.returned V/\w'.ownsRow w.heap.size 74 7 V o.length ns/\Ae w w.heap.size (dO o) ns/\Below w.heap.size w w'
theorem Sf (o:List (ByteArray×Val)) (a:Option Addr) (n c:Nat) (w:World) (h:Ag w w.heap.size (.row 7 (dO o)) [.slice a n c]) (hn:o.length<=100000000):
 Calls Tryz.prog 92 #[.slice a n c] w (Xh w o):=by
 have hl:=h.row_len;rw[Eb]at hl;subst hl;obtain⟨ns,hr,hA,ho⟩:=h.reads;have hnil:=fun W=>Lib.run_eql_slice_nil (P:=Tryz.prog) W 40 74 a o.length c 0 0 Tryz.underlying40
 cases a with
 |none=>
  have h0:o.length=0:=by
   rcases Nat.eq_zero_or_pos o.length with h0|h0
   . exact h0
   . obtain⟨ad,e,_⟩:=hr.2 h0
     cases e
  have hns:ns= []:=List.eq_nil_of_length_eq_zero (by rw[hr.1,h0]);subst hns;obtain⟨H0,HA⟩:=hid2 h0 hA;clear h0 hA;clear h hr ho;go_enter Tryz.func92,Tryz.ntmps92;go_wp2;go_ret;exact⟨.slice none 0 0, [],rfl,by rw[H0.out];exact World.ownsRow_nil _ _ _ _,HA.out,Below.refl _ _⟩
 |some ad=>
  obtain⟨j0,hj,hy0,hy1,hy2⟩:=info_parts Sv;obtain⟨Hj,Hy0,Hy1,Hy2,Hr,HA,Ho⟩:=hid7 hj hy0 hy1 hy2 hr hA ho;clear hj hy0 hy1 hy2 hr hA ho;clear h;go_enter Tryz.func92,Tryz.ntmps92;have HOwn:Hid ((w.alloc (.cells #[] 74)).ownsRow w.heap.size 74 7 (.slice (some ⟨w.heap.size,0,none⟩) 0 0) 0 []):=
   ⟨by simp,.inr ⟨w.heap.size,0, #[],rfl,Nat.le_refl _,heap_alloc_new _ _,Nat.le_refl _,by unfold maxLen;omega,by simp,by simp⟩⟩
  go_wp2_with (at_builtin;refine K2 _ rfl (.tmp 5) (.tmp 6) 40 rfl w.heap.size 74 j0 (.agg #[.string ⟨#[]⟩,.int .i64 0,.bool false,.int .i64 0,.string ⟨#[]⟩,.slice none 0 0,.slice none 0 0]) 7 104 Tryz.underlying40 Hj.out Hy0.out Hy1.out Hy2.out rfl (by omega) (.slice (some ⟨w.heap.size,0,none⟩) 0 0) 0 [] rfl HOwn.out w.heap.size _ o.length _ ns rfl ?c0 ?c1 ?c2 ?c3 ?c4 ?_)
  case c0=>exact Hr.out.alloc (Nat.le_refl _) _
  case c1=>exact Ho.out
  case c2=>unfold maxLen;omega
  case c3=>omega
  case c4=>simp
  intro v1 w1 hown1 hgrow1 _;have Hb:Hid (Below w.heap.size w w1):=((Below.refl _ _).alloc (Nat.le_refl _) _).grown hgrow1 (by simp) (fun g hg=>by simp[Value.ownBlock]at hg;omega);have Hown1:=qz hown1;clear hown1;clear hgrow1;go_wp2;go_ret;exact⟨v1,ns,rfl,by simpa using Hown1.out,HA.out,Hb.out⟩
theorem Bw.lit {S0:Nat->Prop} {b:Nat} {t:TypeId} {w:World} {d:D} {cs:Array Value} (hb:b<=w.heap.size) (hd:d.cells=cs.size) (h:Ac (fun i=>S0 i/\i≠w.heap.size) (w.alloc (.cells cs t)) d cs.toList):
 Bw S0 b t cs.size (w.alloc (.cells cs t)) [d] (.slice (some ⟨w.heap.size,0,none⟩) 1 1):=by
 refine⟨cs.toList,⟨by simp,.inr ⟨w.heap.size,1,cs,rfl,hb,heap_alloc_new w _,Nat.le_refl _,by unfold maxLen;omega,by simp, ?_⟩⟩,fun x hx=> ?_,Ao.one (h.mono fun i _ hi=>⟨hi.1,fun e=>hi.2 (Option.some.inj (e:some w.heap.size=some i)).symm⟩)⟩
 . simp only[List.length_cons,List.length_nil,Nat.zero_add,Nat.one_mul];rw[<-Array.length_toList,List.take_length]
 . simp only[List.mem_cons,List.not_mem_nil,or_false]at hx;rw[hx];exact hd
section
variable {P:Program}
theorem Re {t ty e:TypeId} {i:TypeInfo} {z:Value} {sz bytes:Nat} (ht:P.underlying t=some (.slice e)) (hi:P.info? e=some i) (hz:i.zero=some z) (hsize:i.size=sz) (hby:i.bytes=bytes) (hzs:z.cells.size=sz) (hsz:0<sz)
 {S0:Nat->Prop} {b:Nat} {w:World} {l:List D} {V:Value} (hrow:Bw S0 b e sz w l V) (hbw:b<=w.heap.size) {dl:List D} {cs:List Value} (hd: ∀d ∈ dl,d.cells=sz) (hx:Ao (fun i=>S0 i/\V.ownBlock≠some i) w dl cs)
 {B:Nat} {A:Option Addr} {n c:Nat} (hr:Bc w B sz A n cs) (hn:n=dl.length) (h63:l.length+n<=maxLen) (hbytes:(l.length+n)*bytes<=140737488355328):
 ∃V' w6,(Builtin.append_ #[t,t] ty #[V,.slice A n c]).run P w=.ok V' w6/\Bw S0 b e sz w6 (l++dl) V'/\w.grownBy w6 V.ownBlock/\(V'.ownBlock=V.ownBlock\/V'.ownBlock=some w.heap.size):=by
 subst hn;obtain⟨ns,h1,h2,h3⟩:=hrow;obtain⟨V',w6,hrun,g1,g2,g3⟩:=Dw (P:=P) w b t ty e i z sz bytes ht hi hz hsize hby hzs hsz V l.length ns h1 B A dl.length c cs hr hx.now.len.2 h63 hbytes hbw;refine⟨V',w6,hrun,⟨ns++cs,by rw[List.length_append];exact g1, ?_, ?_⟩,g2,g3⟩
 . intro x hx';rcases List.mem_append.1 hx' with hx'|hx'
   . exact h2 x hx'
   . exact hd x hx'
 . have key: ∀p:Addr,V.ownBlock≠some p.block->p.block<w.heap.size->V'.ownBlock≠some p.block:=by
    intro p p1 p2;rcases g3 with e3|e3
    . rw[e3];exact p1
    . rw[e3];intro e4;have:=Option.some.inj e4;omega
   have hag: ∀w'':World,w6.heap.size<=w''.heap.size->(∀p:Addr,S0 p.block/\V'.ownBlock≠some p.block->p.block<w6.heap.size->w''.cell? p=w6.cell? p)-> ∀p:Addr,S0 p.block/\V.ownBlock≠some p.block->p.block<w.heap.size->w''.cell? p=w.cell? p:=by
    intro w'' k1 k2 p p1 p2;rw[k2 p ⟨p1.1,key p p1.2 p2⟩ (Nat.lt_of_lt_of_le p2 g2.size)];exact World.cell?_of_block (g2.block p.block p2 (fun e=>p1.2 e.symm))
   intro w'' k1 k2;have a1:=Ae.more (h3 w'' (Nat.le_trans g2.size k1) (hag w'' k1 k2)) g2.size;have a2:=Ae.more (hx w'' (Nat.le_trans g2.size k1) (hag w'' k1 k2)) g2.size;exact a1.app a2
theorem T9 {o:Oper} {a:Act} {w:World} {K:Act->World->Prop} {Q:Exit->Act->World->Prop} (s x:Operand) (t:TypeId) {e:TypeId}
 (ho:o.op=.call {callee:=.builtin .append,args:= #[s,x],argTypes:= #[t,t]}) {i:TypeInfo} {z:Value} {sz bytes:Nat} (ht:P.underlying t=some (.slice e)) (hi:P.info? e=some i) (hz:i.zero=some z) (hsize:i.size=sz) (hby:i.bytes=bytes) (hzs:z.cells.size=sz) (hsz:0<sz)
 {S0:Nat->Prop} {b:Nat} {l:List D} {V:Value} (hs:a.eval s=V) (hrow:Bw S0 b e sz w l V) (hbw:b<=w.heap.size) {dl:List D} {cs:List Value} (hd: ∀d ∈ dl,d.cells=sz) (hf:Ao (fun i=>S0 i/\V.ownBlock≠some i) w dl cs)
 {B:Nat} {A:Option Addr} {n c:Nat} (hx:a.eval x=.slice A n c) (hr:Bc w B sz A n cs) (hn:n=dl.length) (h63:l.length+n<=maxLen) (hbytes:(l.length+n)*bytes<=140737488355328)
 (h: ∀V' w6,Bw S0 b e sz w6 (l++dl) V'->w.grownBy w6 V.ownBlock->(V'.ownBlock=V.ownBlock\/V'.ownBlock=some w.heap.size)->K (a.put o.dst V') w6):o.wp P a w K Q:=by
 obtain⟨V',w6,hrun,g1,g2,g3⟩:=Re (ty:=o.type) (c:=c) ht hi hz hsize hby hzs hsz hrow hbw hd hf hr hn h63 hbytes;unfold Oper.wp execOp;simp only[ho,resolve,invoke,builtin,Sem.run_bind,Sem.run_pure,Result.andThen_ok,List.map_toArray,List.map_cons,List.map_nil,hs,hx,hrun];exact h V' w6 g1 g2 g3
theorem G8 {ops:Array Oper} {rest:List Oper} {o:Oper} {a:Act} {w:World} {Q:Exit->Act->World->Prop} (hgd:o.guard=none) (s x:Operand) (t:TypeId) {e:TypeId}
 (ho:o.op=.call {callee:=.builtin .append,args:= #[s,x],argTypes:= #[t,t]}) {i:TypeInfo} {z:Value} {sz bytes:Nat} (ht:P.underlying t=some (.slice e)) (hi:P.info? e=some i) (hz:i.zero=some z) (hsize:i.size=sz) (hby:i.bytes=bytes) (hzs:z.cells.size=sz) (hsz:0<sz)
 {S0:Nat->Prop} {b:Nat} {l:List D} {V:Value} (hs:a.eval s=V) (hrow:Bw S0 b e sz w l V) (hbw:b<=w.heap.size) {dl:List D} {cs:List Value} (hd: ∀d ∈ dl,d.cells=sz) (hf:Ao (fun i=>S0 i/\V.ownBlock≠some i) w dl cs)
 {B:Nat} {A:Option Addr} {n c:Nat} (hx:a.eval x=.slice A n c) (hr:Bc w B sz A n cs) (hn:n=dl.length) (h63:l.length+n<=maxLen) (hbytes:(l.length+n)*bytes<=140737488355328)
 (h: ∀V' w6,Bw S0 b e sz w6 (l++dl) V'->w.grownBy w6 V.ownBlock->(V'.ownBlock=V.ownBlock\/V'.ownBlock=some w.heap.size)->wpList P ops Q rest (a.put o.dst V') w6):wpList P ops Q (o::rest) a w:=
 wpList_plain hgd fun _ hK=>T9 s x t ho ht hi hz hsize hby hzs hsz hs hrow hbw hd hf hx hr hn h63 hbytes fun V' w6 h2 h3 h4=>hK _ _ (h V' w6 h2 h3 h4)
end
end Go.Proofs.YtobmaegpfbheoaaGreatDoor
