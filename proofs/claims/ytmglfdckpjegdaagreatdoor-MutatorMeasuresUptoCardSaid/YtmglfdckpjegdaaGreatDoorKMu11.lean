/- Parts: value.Deep: how deep a value is. Condition: a bulk of at most 10^8. -/
import Derived.Deep.RegionHeld3
import Derived.Test.YtmglfdckpjegdaaGreatDoorKMu10
set_option maxHeartbeats 20000000
namespace Go.Proofs.YtmglfdckpjegdaaGreatDoor
open Go Go.RowKit
section
variable {P:Program} {md:Region.Mode} {ops:Array Oper} {Q:Exit->Act->World->Prop} {S:World->Prop}
theorem tkH (i:Nat) {oi:Oper} {v:Value} {fuel:Nat} {listed:Array Bool} {a a':Act} {w:World} (hS:S w) (h:wpAnyH P md ops Q S fuel (listed.setIfInBounds i true) a' w)
 (hi:ops[i]? =some oi:=by rfl) (hs:Region.noSelect ops=true:=by kernel_rfl) (hf:Region.free md ops listed i=true:=by kernel_rfl) (hr:(Region.ready md ops listed).contains i=true:=by kernel_rfl)
 (hQ: ∀c a w,Q (.panic c) (a.put oi.dst v) w->Q (.panic c) a w:=by exact fun _ _ _ h=>h) (hw:Region.wanted oi (yielded ops a.tmps)=true:=by kernel_rfl)
 (hy: ∀w,S w->(execOp a.eval oi).run P w=.ok (.value v) w:=by(intro X hSw;(repeat (obtain⟨_,hSw⟩:=hSw));first|(go_simp;done)|(go_simp;with_reducible rfl)))
 (hn:a.put oi.dst v=a':=by((try simp only[Act.put,List.getElem_toArray,List.getElem_cons_succ,List.getElem_cons_zero,List.setIfInBounds_toArray,List.set_cons_zero,List.set_cons_succ]);exact rfl)):wpAnyH P md ops Q S (fuel+1) listed a w:=
 wpAnyH_take hi hs hf hr hQ (Or.inl ⟨hw,hy⟩) hS (hn▸h)
end
theorem X9: ∀x:List UInt8,Op.bytesLess x x=false
 | []=>rfl
 |a::x=>by simp[Op.bytesLess,X9 x,UInt8.lt_irrefl]
theorem Ab3: ∀{x y z:List UInt8},Op.bytesLess x y=true->Op.bytesLess y z=true->Op.bytesLess x z=true
 |_, [],_,h,_=>by cases ‹List UInt8› <;>simp[Op.bytesLess]at h
 |_,_::_, [],_,h=>by simp[Op.bytesLess]at h
 | [],_::_,_::_,_,_=>rfl
 |a::x,b::y,c::z,h,k=>by
  simp only[Op.bytesLess,Bool.or_eq_true,Bool.and_eq_true,decide_eq_true_eq,beq_iff_eq]at h k ⊢;rcases h with h|⟨rfl,h⟩<;>rcases k with k|⟨rfl,k⟩
  . exact .inl (UInt8.lt_trans h k)
  . exact .inl h
  . exact .inl k
  . exact .inr ⟨rfl,Ab3 h k⟩
theorem Aks: ∀(x y:List UInt8),Op.bytesLess x y=true\/x=y\/Op.bytesLess y x=true
 | [], []=> .inr (.inl rfl)
 | [],_::_=> .inl rfl
 |_::_, []=> .inr (.inr rfl)
 |a::x,b::y=>by
  simp only[Op.bytesLess,Bool.or_eq_true,Bool.and_eq_true,decide_eq_true_eq,beq_iff_eq];rcases Nat.lt_trichotomy a.toNat b.toNat with h|h|h
  . exact .inl (.inl (UInt8.lt_iff_toNat_lt.2 h))
  . have hab:a=b:=UInt8.toNat_inj.1 h;subst hab;rcases Aks x y with h|h|h
    . exact .inl (.inr ⟨rfl,h⟩)
    . exact .inr (.inl (by rw[h]))
    . exact .inr (.inr (.inr ⟨rfl,h⟩))
  . exact .inr (.inr (.inl (UInt8.lt_iff_toNat_lt.2 h)))
theorem Fq {a b:ByteArray} (h:a.toList=b.toList):a=b:=by
 rw[Lib.toList_data,Lib.toList_data]at h;exact ByteArray.ext (Array.ext' h)
theorem I7 (a:ByteArray):N4 a a=false:=X9 _
theorem Kh {a b c:ByteArray} (h:N4 a b=true) (k:N4 b c=true):N4 a c=true:=Ab3 h k
theorem Up (a b:ByteArray):N4 a b=true\/a=b\/N4 b a=true:=by
 rcases Aks a.toList b.toList with h|h|h
 . exact .inl h
 . exact .inr (.inl (Fq h))
 . exact .inr (.inr h)
theorem Ac5 {a b:ByteArray} (h:N4 a b=true):N4 b a=false:=by
 cases e:N4 b a with
 |false=>rfl
 |true=>have:=Kh h e;rw[I7]at this;cases this
def J5 (l:List (ByteArray×Val)):Prop:=l.Pairwise fun a b=>N4 a.1 b.1=true
theorem X8 (k:ByteArray): ∀{acc:List (ByteArray×Val)},J5 acc->Ua k acc=false->(∀p ∈ acc.take (atO k acc),N4 p.1 k=true)/\(∀p ∈ acc.drop (atO k acc),N4 k p.1=true)
 | [],_,_=>by simp
 |q::r,ha,hh=>by
  obtain⟨h1,h2⟩:=List.pairwise_cons.1 ha;by_cases hq:N4 q.1 k=true
  . have hh':Ua k r=false:=by
     unfold Ua at hh ⊢;simpa only[atO,if_pos hq,List.getElem?_cons_succ]using hh
    obtain⟨a,b⟩:=X8 k h2 hh';simp only[atO,if_pos hq,List.take_succ_cons,List.drop_succ_cons];refine⟨fun p hp=> ?_,b⟩;rcases List.mem_cons.1 hp with rfl|hp
    . exact hq
    . exact a p hp
  . simp only[atO,if_neg hq,List.take_zero,List.drop_zero];refine⟨fun p hp=>(by cases hp), ?_⟩;have hne:q.1≠k:=by
     intro e;unfold Ua at hh;simp only[atO,if_neg hq,List.getElem?_cons_zero,Option.any_some]at hh;rw[e]at hh;simp at hh
    have hkq:N4 k q.1=true:=by
     rcases Up q.1 k with h|h|h
     . exact absurd h hq
     . exact absurd h hne
     . exact h
    intro p hp;rcases List.mem_cons.1 hp with rfl|hp
    . exact hkq
    . exact Kh hkq (h1 p hp)
theorem Ams {m:ByteArray×Val} {acc:List (ByteArray×Val)} (ha:J5 acc) (hh:Ua m.1 acc=false):J5 (Agi m acc):=by
 obtain⟨h1,h2⟩:=X8 m.1 ha hh;have h3:J5 (acc.take (atO m.1 acc)++acc.drop (atO m.1 acc)):=by rw[List.take_append_drop];exact ha
 obtain⟨h4,h5,h6⟩:=List.pairwise_append.1 h3;refine List.pairwise_append.2 ⟨h4,List.pairwise_cons.2 ⟨h2,h5⟩,fun a ha b hb=> ?_⟩;rcases List.mem_cons.1 hb with rfl|hb
 . exact h1 a ha
 . exact h6 a ha b hb
theorem Zl (m:ByteArray×Val) (acc:List (ByteArray×Val)):(Agi m acc).Perm (m::acc):=by
 have h:(acc.take (atO m.1 acc)++([m]++acc.drop (atO m.1 acc))).Perm ([m]++(acc.take (atO m.1 acc)++acc.drop (atO m.1 acc))):=by
  rw[<-List.append_assoc,<-List.append_assoc];exact List.Perm.append_right _ List.perm_append_comm
 rw[List.take_append_drop]at h;exact h
theorem All {k:ByteArray} {acc:List (ByteArray×Val)} (h:Ua k acc=true): ∃v,(k,v) ∈ acc:=by
 unfold Ua at h
 cases e:acc[atO k acc]? with
 |none=>rw[e]at h;cases h
 |some p=>
  rw[e]at h;have hk:p.1=k:=Fq (by simpa using h);exact⟨p.2,by rw[<-hk];exact List.mem_of_getElem? e⟩
theorem O5: ∀{l acc o:List (ByteArray×Val)},Fc l acc=some o->J5 acc->J5 o/\o.Perm (l++acc)
 | [],acc,o,h,ha=>by
   simp only[Fc,Option.some.injEq]at h;subst h;exact⟨ha,List.Perm.refl _⟩
 |m::r,acc,o,h,ha=>by
  simp only[Fc]at h;by_cases hh:Ua m.1 acc=true
  . rw[if_pos hh]at h;cases h
  . rw[if_neg hh]at h;obtain⟨h1,h2⟩:=O5 h (Ams ha (by simpa using hh));exact⟨h1,h2.trans ((List.Perm.append_left r (Zl m acc)).trans List.perm_middle)⟩
theorem Abv {l:List (ByteArray×Val)} (h:J5 l):(l.map (·.1)).Nodup:=by
 rw[List.Nodup,List.pairwise_map];exact h.imp fun hab e=>by rw[e,I7]at hab;cases hab
theorem O4: ∀{l acc:List (ByteArray×Val)},Fc l acc=none-> ¬((l++acc).map (·.1)).Nodup
 | [],acc,h=>by simp[Fc]at h
 |m::r,acc,h=>by
  simp only[Fc]at h;by_cases hh:Ua m.1 acc=true
  . obtain⟨v,hv⟩:=All hh;intro hn;rw[List.cons_append,List.map_cons,List.nodup_cons]at hn;exact hn.1 (List.mem_map.2 ⟨(m.1,v),List.mem_append.2 (.inr hv),rfl⟩)
  . rw[if_neg hh]at h;intro hn;refine O4 h ?_;have hp:((r++Agi m acc).map (·.1)).Perm ((m::r++acc).map (·.1)):=((List.Perm.append_left r (Zl m acc)).trans List.perm_middle).map _;exact hp.nodup_iff.2 hn
theorem Qi: ∀{a b:List (ByteArray×Val)},J5 a->J5 b->a.Perm b->a=b
 | [],b,_,_,h=>(List.Perm.nil_eq h)
 |x::a, [],_,_,h=>by have:=h.length_eq;simp at this
 |x::a,y::b,ha,hb,h=>by
  obtain⟨h1,h2⟩:=List.pairwise_cons.1 ha;obtain⟨h3,h4⟩:=List.pairwise_cons.1 hb;have hxy:x=y:=by
   rcases List.mem_cons.1 (h.mem_iff.1 (List.mem_cons_self (a:=x)))with e|hx
   . exact e
   . rcases List.mem_cons.1 (h.mem_iff.2 (List.mem_cons_self (a:=y)))with e|hy
     . exact e.symm
     . have p:=h3 x hx;have q:=h1 y hy;rw[Ac5 p]at q
       cases q
  subst hxy;rw[Qi h2 h4 (List.perm_cons _ |>.1 h)]
theorem Xn {l d:List (ByteArray×Val)} (hp:d.Perm l) (ha:J5 d):Fc l []=some d:=by
 cases e:Fc l []with
 |none=>
  exfalso
  refine O4 e ?_;rw[List.append_nil];exact(hp.map (·.1)).nodup_iff.1 (Abv ha)
 |some o=>
  obtain⟨h1,h2⟩:=O5 e List.Pairwise.nil;rw[List.append_nil]at h2;rw[Qi ha h1 (hp.trans h2.symm)]
def Gx:ByteArray:=⟨#[]⟩
def O3:Val:=.mk 1 false 0 Gx [] []
def J6 (b:Bool):Val:=.mk 2 b 0 Gx [] []
def Sn (n:Int):Val:=.mk 3 false n Gx [] []
def Aei (l:List UInt8):Val:=.mk 4 false 0 ⟨l.toArray⟩ [] []
def Uc (l:List Val):Val:=.mk 5 false 0 Gx l []
def Su (o:List (ByteArray×Val)):Val:=.mk 6 false 0 Gx [] o
def Rd.map {α β:Type} (g:α->β):Rd α->Rd β
 | .ok a q=> .ok (g a) q
 | .bad e q=> .bad e q
def Ec (s:List UInt8) (p:Nat) (w:List UInt8) (v:Val):Rd Val:=if w.isPrefixOf (s.drop p)=true then .ok v (p+w.length)else .bad 4 p
def J0 (l:List (ByteArray×Val)):List (ByteArray×Val):=(Fc l []).getD []
def Na (k:ByteArray) (l:List (ByteArray×Val)):Bool:=l.any fun m=>decide (m.1=k)
def Ik (c:UInt8):Bool:=E3 c||c==45||c==34||c==91||c==123||c==110||c==116||c==102
mutual
def Ch:Nat->List UInt8->Nat->Int->Rd Val
 |0,s,p,_=> .bad 4 (Ay s p)
 |f+1,s,p,d=>match s[Ay s p]? with
  |none=> .bad 4 (Ay s p)
  |some c=>
   if Ik c=false then .bad 4 (Ay s p)
   else if 64<d then .bad 5 (Ay s p)
   else if c=91 then L2 f s (Ay s p) d
   else if c=123 then P9 f s (Ay s p) d
   else if c=34 then(Fk s (Ay s p)).map Aei
   else if c=110 then Ec s (Ay s p) [110,117,108,108] O3
   else if c=116 then Ec s (Ay s p) [116,114,117,101] (J6 true)
   else if c=102 then Ec s (Ay s p) [102,97,108,115,101] (J6 false)
   else(Eb s (Ay s p)).map Sn
def L2:Nat->List UInt8->Nat->Int->Rd Val
 |0,s,p,_=> .bad 4 (Ay s (p+1))
 |f+1,s,p,d=>if s[Ay s (p+1)]? =some 93 then .ok (Uc []) (Ay s (p+1)+1)else Fa f s (Ay s (p+1)) d []
def P9:Nat->List UInt8->Nat->Int->Rd Val
 |0,s,p,_=> .bad 4 (Ay s (p+1))
 |f+1,s,p,d=>if s[Ay s (p+1)]? =some 125 then .ok (Su []) (Ay s (p+1)+1)else Cc f s (Ay s (p+1)) d []
def Fa:Nat->List UInt8->Nat->Int->List Val->Rd Val
 |0,s,p,_,_=> .bad 4 (Ay s p)
 |f+1,s,p,d,acc=>match Ch f s p (d+1)with
  | .bad e q=> .bad e q
  | .ok v q=>if s[Ay s q]? =some 44 then Fa f s (Ay s q+1) d (acc++ [v])else if s[Ay s q]? =some 93 then .ok (Uc (acc++ [v])) (Ay s q+1)else .bad 4 (Ay s q)
def Cc:Nat->List UInt8->Nat->Int->List (ByteArray×Val)->Rd Val
 |0,s,p,_,_=> .bad 4 (Ay s p)
 |f+1,s,p,d,acc=>match Fk s (Ay s p)with
  | .bad e q=> .bad e q
  | .ok k q=>if Na ⟨k.toArray⟩ acc=true then .bad 8 (Ay s p)
    else if s[Ay s q]? =some 58 then Ie f s (Ay s q+1) d acc ⟨k.toArray⟩
    else .bad 4 (Ay s q)
def Ie:Nat->List UInt8->Nat->Int->List (ByteArray×Val)->ByteArray->Rd Val
 |0,s,p,_,_,_=> .bad 4 (Ay s p)
 |f+1,s,p,d,acc,k=>match Ch f s p (d+1)with
  | .bad e q=> .bad e q
  | .ok v q=>if s[Ay s q]? =some 44 then Cc f s (Ay s q+1) d (acc++ [(k,v)])else if s[Ay s q]? =some 125 then .ok (Su (J0 (acc++ [(k,v)]))) (Ay s q+1)else .bad 4 (Ay s q)
end
def Fd (s:List UInt8):Rd Val:=match Ch (4*s.length+4) s 0 1 with
 | .bad e q=> .bad e q
 | .ok v q=>if Ay s q<s.length then .bad 4 (Ay s q)else .ok v (Ay s q)
theorem Rd.within.from {α:Type} {p p' n:Nat} {r:Rd α} (h:r.within p' n) (hp:p<=p'):r.within p n:=by
 cases r with
 |ok a q=>exact⟨by have:=h.1;omega,h.2⟩
 |bad e q=>exact⟨by have:=h.1;omega,h.2⟩
theorem Rd.within.map {α β:Type} {g:α->β} {p n:Nat} {r:Rd α} (h:r.within p n):(r.map g).within p n:=by
 cases r<;>exact h
theorem My {s:List UInt8} {p:Nat} (h:p<s.length) {w:List UInt8} (hw:w≠ []) (v:Val):(Ec s p w v).within p s.length:=by
 unfold Ec
 split
 . rename_i hp;have hp':=(List.isPrefixOf_iff_prefix.1 hp).length_le;rw[List.length_drop]at hp';have:0<w.length:=List.length_pos_iff.2 hw;exact⟨by omega,by omega⟩
 . exact⟨Nat.le_refl _,by omega,by decide,by decide⟩
theorem Ft {α:Type} {s:List UInt8} {p:Nat} (h:p<=s.length) (e:Int) (h1:1<=e) (h2:e<=18):(Rd.bad e (Ay s p):Rd α).within p s.length:=⟨Dx s p,Gr h,h1,h2⟩
theorem Kp: ∀(f:Nat),(∀s p d,p<=s.length->(Ch f s p d).within p s.length)/\(∀s p d,p<s.length->(L2 f s p d).within p s.length)/\(∀s p d,p<s.length->(P9 f s p d).within p s.length)/\
 (∀s p d acc,p<=s.length->(Fa f s p d acc).within p s.length)/\(∀s p d acc,p<=s.length->(Cc f s p d acc).within p s.length)/\(∀s p d acc k,p<=s.length->(Ie f s p d acc k).within p s.length):=by
 intro f
 induction f with
 |zero=>
  refine⟨fun s p d h=> ?_,fun s p d h=> ?_,fun s p d h=> ?_,fun s p d acc h=> ?_,fun s p d acc h=> ?_,fun s p d acc k h=> ?_⟩
  . unfold Ch;exact Ft h _ (by decide) (by decide)
  . unfold L2;exact(Ft (p:=p+1) h _ (by decide) (by decide)).from (by omega)
  . unfold P9;exact(Ft (p:=p+1) h _ (by decide) (by decide)).from (by omega)
  . unfold Fa;exact Ft h _ (by decide) (by decide)
  . unfold Cc;exact Ft h _ (by decide) (by decide)
  . unfold Ie;exact Ft h _ (by decide) (by decide)
 |succ f ih=>
  obtain⟨iv,il,io,ii,im,ik⟩:=ih;refine⟨fun s p d h=> ?_,fun s p d h=> ?_,fun s p d h=> ?_,fun s p d acc h=> ?_,fun s p d acc h=> ?_,fun s p d acc k h=> ?_⟩
  . unfold Ch;have hp:=Gr h;have hg:=Dx s p
    cases hc:s[Ay s p]? with
    |none=>exact Ft h _ (by decide) (by decide)
    |some c=>
     have hl:=Dp hc;simp only
     split
     . exact Ft h _ (by decide) (by decide)
     split
     . exact Ft h _ (by decide) (by decide)
     split
     . exact(il s _ d hl).from hg
     split
     . exact(io s _ d hl).from hg
     split
     . exact((J2 hp).map).from hg
     split
     . exact(My hl (by simp) _).from hg
     split
     . exact(My hl (by simp) _).from hg
     split
     . exact(My hl (by simp) _).from hg
     . exact((Oe hl).map).from hg
  . unfold L2;have hp:=Gr (s:=s) (p:=p+1) h;have hg:=Dx s (p+1)
    split
    . rename_i hc;exact⟨by omega,by have:=Dp hc;omega⟩
    . exact(ii s _ d [] hp).from (by omega)
  . unfold P9;have hp:=Gr (s:=s) (p:=p+1) h;have hg:=Dx s (p+1)
    split
    . rename_i hc;exact⟨by omega,by have:=Dp hc;omega⟩
    . exact(im s _ d [] hp).from (by omega)
  . unfold Fa;have hv:=iv s p (d+1) h
    cases hr:Ch f s p (d+1)with
    |bad e q=>rw[hr]at hv;exact hv
    |ok v q=>
     rw[hr]at hv;obtain⟨h1,h2⟩:=hv;have hp:=Gr h2;have hg:=Dx s q;simp only
     split
     . rename_i hc;exact(ii s _ d _ (Dp hc)).from (by omega)
     split
     . rename_i hc;exact⟨by omega,Dp hc⟩
     . exact(Ft h2 _ (by decide) (by decide)).from (by omega)
  . unfold Cc;have hp0:=Gr h;have hg0:=Dx s p;have hv:=J2 hp0
    cases hr:Fk s (Ay s p)with
    |bad e q=>rw[hr]at hv;exact hv.from hg0
    |ok k q=>
     rw[hr]at hv;obtain⟨h1,h2⟩:=hv;have hp:=Gr h2;have hg:=Dx s q;simp only
     split
     . exact Ft h _ (by decide) (by decide)
     split
     . rename_i hc;exact(ik s _ d _ _ (Dp hc)).from (by omega)
     . exact(Ft h2 _ (by decide) (by decide)).from (by omega)
  . unfold Ie;have hv:=iv s p (d+1) h
    cases hr:Ch f s p (d+1)with
    |bad e q=>rw[hr]at hv;exact hv
    |ok v q=>
     rw[hr]at hv;obtain⟨h1,h2⟩:=hv;have hp:=Gr h2;have hg:=Dx s q;simp only
     split
     . rename_i hc;exact(im s _ d _ (Dp hc)).from (by omega)
     split
     . rename_i hc;exact⟨by omega,Dp hc⟩
     . exact(Ft h2 _ (by decide) (by decide)).from (by omega)
theorem S6 (v:Val) (cs:List Value) (w:World) (hT:Cq w) (hV:Ab w w.heap.size v cs) (hb:v.bulk<=1000000000) (hok:okV v):
 Calls Tryz.prog 47 #[.agg cs.toArray] w fun e w'=>e=.returned (.int .i64 (Ak v).length)/\Below w.heap.size w w':=by
 have hV':=hV;obtain⟨k,b,n,t,l,o⟩:=v;simp only[Ab]at hV';obtain⟨la,lc,oa,oc,rfl,_,_⟩:=hV';obtain⟨w1,hw1⟩: ∃w1,w.alloc (.cells (Fu k b n t la l.length lc oa o.length oc).toArray 27)=w1:=⟨_,rfl⟩;have hb1:Below w.heap.size w w1:=hw1▸(Below.refl _ _).alloc (Nat.le_refl _) _;have hz1:w1.heap.size=w.heap.size+1:=by rw[<-hw1];simp
 have hc:=Sa k b n t l o la oa lc oc false w1 (hT.below hb1) (Ab.more hb1.size _ _ (hV.below hb1)) hb hok;have hown:=fun w=>Pt k b n t la oa l.length lc o.length oc w;rw[hz1]at hc;generalize Ak (.mk k b n t l o)=L at*
 have ent:=Mi;obtain⟨HC,HO,HAB⟩:=hid3 hc hown hb1;subst hw1;clear hc hown hV hb hok hT hz1 hb1;go_enter Tryz.func47,Tryz.ntmps47;go_wp2_with (first|(go_at_call 79;refine(HO.out _).mono ?_;rintro e w2 ⟨rfl,rfl⟩)|(go_at_fn (Qa k);refine(HC.out).mono ?_;rintro e w4 ⟨rfl,h6,h7⟩;have hW4:=h6;obtain⟨pp,vv,hbld⟩:=hW4;have g3:w4.cell? ⟨w.heap.size+1,3,none⟩=some (.int .i64 (L.length:Int)):=by(rw[Lib.cell_of_heap hbld.2.1];rfl)));go_ret;exact⟨rfl,HAB.out.trans (h7.mono (by simp))⟩
theorem Af3: ∀(v:Val),Akg v:=by
 refine Val.ind ?_;intro k b n t l o ihl iho cs d w hV hb h0 h65;simp only[Ab]at hV;obtain⟨la,lc,oa,oc,rfl,hL,hO⟩:=hV;simp only[Val.bulk]at hb;by_cases hodd:Fy k b n t l.length o.length=true
 . have hm:Az (.mk k b n t l o) d=9:=by simp only[Az,hodd,if_true]
   rw[hm];clear hm ihl iho hL hO;go_enter Tryz.func169,Tryz.ntmps169;go_wp2_with (go_at_call 200;refine(K4 hodd _).mono ?_;rintro e w' ⟨rfl,hb1⟩);go_ret;exact⟨rfl,((Below.refl _ _).alloc (Nat.le_refl _) _).trans (hb1.mono (by simp))⟩
 have hodd':Fy k b n t l.length o.length=false:=by simpa using hodd
 clear hodd;by_cases h64:64<d
 . have hm:Az (.mk k b n t l o) d=5:=by simp only[Az,hodd',Bool.false_eq_true,if_false,h64,if_true]
   rw[hm];clear hm ihl iho hL hO;go_enter Tryz.func169,Tryz.ntmps169;go_wp2_with (go_at_call 200;refine(K4 hodd' _).mono ?_;rintro e w' ⟨rfl,hb1⟩);go_ret;exact⟨rfl,((Below.refl _ _).alloc (Nat.le_refl _) _).trans (hb1.mono (by simp))⟩
 by_cases hval:Aw t=true
 . obtain⟨hk,ht,hl,ho⟩:=Ii hodd';by_cases hl0:l= []
   . subst hl0;have hm:Az (.mk k b n t [] o) d=Ds o none (d+1):=by
      simp only[Az,hodd',Bool.false_eq_true,if_false,h64,hval,if_true,Df]
     rw[hm];rcases hO with rfl|⟨g,off,rfl,hg,hO⟩
     . exact Ac9 k b n t [] la oa lc oc d w 0 0 (.inl rfl) (by simp only[Av]at hb ⊢;omega) h0 (by omega) iho hodd' hval
     . exact Ac9 k b n t o la _ lc oc d w g off (.inr ⟨rfl,hg,hO⟩) (by omega) h0 (by omega) iho hodd' hval
   . have hl1:0<l.length:=List.length_pos_iff.2 hl0;obtain rfl:o= []:=List.eq_nil_of_length_eq_zero (by omega);have hm:Az (.mk k b n t l []) d=Df l (d+1):=by
      simp only[Az,hodd',Bool.false_eq_true,if_false,h64,hval,if_true,Ds]
      split<;>simp_all
     rw[hm];rcases hL with rfl|⟨g,off,rfl,hg,hL⟩
     . exact absurd rfl hl0
     . exact Ai9 k b n t l _ oa lc oc d w g off (.inr ⟨rfl,hg,hL⟩) (by omega) h0 (by omega) ihl hodd' hval
 . have hval':Aw t=false:=by simpa using hval
   have hm:Az (.mk k b n t l o) d=3:=by simp only[Az,hodd',Bool.false_eq_true,if_false,h64,hval']
   rw[hm];clear hm ihl iho hL hO hval;go_enter Tryz.func169,Tryz.ntmps169;go_wp2_with (first|(go_at_call 200;refine(K4 hodd' _).mono ?_;rintro e w1 ⟨rfl,hb1⟩;obtain⟨hc1,hf1⟩:=Jm hb1;have hz1:=hb1.size;simp only[World.size_alloc]at hz1;have hbw1:Below w.heap.size w w1:=((Below.refl _ _).alloc (Nat.le_refl _) _).trans (hb1.mono (by simp)))|(go_at_call 84;refine(Db hval' _ (by omega)).mono ?_;rintro e w2 ⟨rfl,rfl⟩));go_ret;exact⟨rfl,hbw1⟩
theorem Aez (v:Val) (cs:List Value) (w:World) (hV:Ab w w.heap.size v cs) (hb:v.bulk<=1000000000):
 Calls Tryz.prog 128 #[.agg cs.toArray] w fun e w'=>e=.returned (.int .i64 (Az v 1))/\Below w.heap.size w w':=by
 have hV':=hV;obtain⟨k,b,n,t,l,o⟩:=v;simp only[Ab]at hV';obtain⟨la,lc,oa,oc,rfl,_,_⟩:=hV';have hc:=Af3 _ _ 1 (w.alloc (.cells #[.int .i64 k,.bool b,.int .i64 n,.string t,.slice la l.length lc,.slice oa o.length oc] 27)) (Ab.more (by simp) _ _ (hV.below ((Below.refl _ _).alloc (Nat.le_refl _) _))) hb (by omega) (by omega);generalize Az _ _=m at hc ⊢;have H:=Lib.hid hc;clear hc hV;go_enter Tryz.func128,Tryz.ntmps128;go_wp2_with (go_at_call 169;refine(H.out).mono ?_;rintro e w' ⟨rfl,hb1⟩);go_ret;exact⟨rfl,((Below.refl _ _).alloc (Nat.le_refl _) _).trans (hb1.mono (by simp))⟩
mutual
def F7:Val->Nat
 | .mk k _ _ _ l o=>1+(if k=5 then Gj l else if k=6 then K5 o else 0)
def Gj:List Val->Nat
 | []=>0
 |v::r=>max (F7 v) (Gj r)
def K5:List (ByteArray×Val)->Nat
 | []=>0
 |p::r=>max (Acf p) (K5 r)
def Acf:ByteArray×Val->Nat
 |(_,v)=>F7 v
end
theorem Rh: ∀(l:List Val),(∀v ∈ l,F7 v<=v.bulk)->Gj l<=Bd l
 | [],_=>by simp[Gj]
 |v::r,h=>by
  have h1:=h v (by simp);have h2:=Rh r (fun x hx=>h x (by simp[hx]));simp only[Gj,Bd];omega
theorem U4: ∀(l:List (ByteArray×Val)),(∀m ∈ l,F7 m.2<=m.2.bulk)->K5 l<=Av l
 | [],_=>by simp[K5]
 |(k,v)::r,h=>by
  have h1:=h (k,v) (by simp);have h2:=U4 r (fun x hx=>h x (by simp[hx]));simp only[K5,Acf,Av,Gi];simp only at h1;omega
theorem M5: ∀v:Val,F7 v<=v.bulk:=by
 refine Val.ind ?_;intro k b n t l o hl ho;have h1:=Rh l hl;have h2:=U4 o ho;simp only[F7,Val.bulk]
 split
 . omega
 split<;>omega
def Akc (v:Val):Prop:= ∀(cs:List Value) (w:World),Ab w w.heap.size v cs->v.bulk<=100000000->
    Calls Tryz.prog 163 #[.agg cs.toArray] w fun e w'=>e=.returned (.int .i64 (F7 v))/\Below w.heap.size w w'
set_option maxRecDepth 100000 in
theorem Aik (b:Bool) (n:Int) (t:ByteArray) (l:List Val) (on:Nat) (IH: ∀v ∈ l,Akc v) (la oa:Option Addr) (oc lc:Nat) (w:World) (hl:l= []\/ ∃g off,la=some ⟨g,off,none⟩/\g<w.heap.size/\A1 w w.heap.size l g off)
 (hb:Bd l<=100000000):
 Calls Tryz.prog 163 #[.agg #[.int .i64 5,.bool b,.int .i64 n,.string t,.slice la l.length lc,.slice oa on oc]] w fun e w'=>e=.returned (.int .i64 (1+(Gj l:Int)))/\Below w.heap.size w w':=by
 have hln:=Ee l;have hdl:=Rh l (fun v _=>M5 v);obtain⟨M,hM⟩: ∃M,Gj l=M:=⟨_,rfl⟩;rw[hM]at hdl ⊢;have H0:Hid (max 0 (Gj (l.drop 0))=M):=by show _=_;rw[List.drop_zero,hM];simp
 have HI:=Lib.hid IH;clear IH hM;go_enter Tryz.func163,Tryz.ntmps163;go_wp2_with (fail);have HB1:Hid (Below w.heap.size w (w.alloc (.cells #[.int .i64 5,.bool b,.int .i64 n,.string t,.slice la l.length lc,.slice oa on oc] 27))):=(Below.refl _ _).alloc (Nat.le_refl _) _;go_loopw [3,15] (fun m i wr=> ∃D k:Nat,m=.int .i64 D/\i=.int .i64 k/\k<=l.length/\Hid (max D (Gj (l.drop k))=M)/\D<=M/\Hid (Below w.heap.size w wr)) (fun _ i _=>l.length - (intOf i).toNat)
 case atStart=>exact⟨0,0,rfl,rfl,Nat.zero_le _,H0,Nat.zero_le _,HB1⟩
 case round=>
  obtain⟨D,k,rfl,rfl,hk,hD,hDM,hbw⟩:=hrel;clear H0 HB1;by_cases hlt:k<l.length
  . obtain⟨g,off,rfl,hg,hL⟩: ∃g off,la=some ⟨g,off,none⟩/\g<w.heap.size/\A1 w w.heap.size l g off:=by
     rcases hl with rfl|h
     . simp at hlt
     . exact h
    obtain⟨x,hx⟩: ∃v,l[k]? =some v:=⟨_,List.getElem?_eq_getElem hlt⟩;have hmem:x ∈ l:=List.mem_of_getElem? hx;have hbv:=Er hmem;have hdv:=M5 x;have hdrop:l.drop k=x::l.drop (k+1):=En hx;have hD':=hD.out;rw[hdrop]at hD';simp only[Gj]at hD';have IHx:=HI.out x hmem;have hz:=hbw.out.size;obtain⟨m,hm⟩: ∃m,F7 x=m:=⟨_,rfl⟩;obtain⟨k',b',n',t',l',o'⟩:=x;obtain⟨la',lc',oa',oc',hvs,c0,c1,c2,c3,c4,c5⟩:=(hL.below hg hbw.out).six hx;have CT:=IHx _ (wr.alloc (.cells #[.int .i64 k',.bool b',.int .i64 n',.string t',.slice la' l'.length lc',.slice oa' o'.length oc'] 27)) (Ab.more (by simp;omega) _ _ (hvs.below ((Below.refl _ _).alloc hz _))) (by omega);rw[hm]at CT hD' hdv;have hCT:=Lib.hid CT;have Hn:Hid (max (max D m) (Gj (l.drop (k+1)))=M):=by show _=_;omega
    have hmM:max D m<=M:=by omega
    have hbA:Hid (Below w.heap.size w (wr.alloc (.cells #[.int .i64 k',.bool b',.int .i64 n',.string t',.slice la' l'.length lc',.slice oa' o'.length oc'] 27))):=hbw.out.alloc hz _;clear CT hD hD' hdrop IHx hm hvs hx hmem hL hg hdv hbv;by_cases hgt:D<m
    . have e1:max D m=m:=by omega
      rw[e1]at Hn hmM;clear e1;go_wp2_with (fail);(with_reducible refine hCT.out.mono ?_);rintro e w4 ⟨rfl,hb4⟩;have hbw4:=Lib.hid (hbA.out.trans (hb4.mono hbA.out.size));clear hb4 hbw hbA hCT;go_wp2;go_roundw
      case rel=>exact⟨m,k+1,by congr 1;omega,by go_num,by omega,Hn,hmM,hbw4⟩
      case measure=>simp only[intOf];omega
    . have e1:max D m=D:=by omega
      rw[e1]at Hn hmM;clear e1;go_wp2_with (fail);(with_reducible refine hCT.out.mono ?_);rintro e w4 ⟨rfl,hb4⟩;have hbw4:=Lib.hid (hbA.out.trans (hb4.mono hbA.out.size));clear hb4 hbw hbA hCT;go_wp2;go_roundw
      case rel=>exact⟨D,k+1,by congr 1;omega,by go_num,by omega,Hn,hmM,hbw4⟩
      case measure=>simp only[intOf];omega
  . obtain rfl:k=l.length:=by omega
    have hD':=hD.out;rw[List.drop_length]at hD';simp only[Gj]at hD';obtain rfl:D=M:=by omega
    clear hD hD' hl;go_wp2;go_ret;exact⟨rfl,hbw.out⟩
set_option maxRecDepth 100000 in
theorem Ala (b:Bool) (n:Int) (t:ByteArray) (l:List (ByteArray×Val)) (ln:Nat) (IH: ∀m ∈ l,Akc m.2) (la oa:Option Addr) (oc lc:Nat) (w:World) (hl:l= []\/ ∃g off,oa=some ⟨g,off,none⟩/\g<w.heap.size/\A5 w w.heap.size l g off)
 (hb:Av l<=100000000):
 Calls Tryz.prog 163 #[.agg #[.int .i64 6,.bool b,.int .i64 n,.string t,.slice la ln lc,.slice oa l.length oc]] w fun e w'=>e=.returned (.int .i64 (1+(K5 l:Int)))/\Below w.heap.size w w':=by
 have hln:=Dj l;have hdl:=U4 l (fun m _=>M5 m.2);obtain⟨M,hM⟩: ∃M,K5 l=M:=⟨_,rfl⟩;rw[hM]at hdl ⊢;have H0:Hid (max 0 (K5 (l.drop 0))=M):=by show _=_;rw[List.drop_zero,hM];simp
 have HI:=Lib.hid IH;clear IH hM;go_enter Tryz.func163,Tryz.ntmps163;go_wp2_with (fail);have HB1:Hid (Below w.heap.size w (w.alloc (.cells #[.int .i64 6,.bool b,.int .i64 n,.string t,.slice la ln lc,.slice oa l.length oc] 27))):=(Below.refl _ _).alloc (Nat.le_refl _) _;go_loopw [3,29] (fun m i wr=> ∃D k:Nat,m=.int .i64 D/\i=.int .i64 k/\k<=l.length/\Hid (max D (K5 (l.drop k))=M)/\D<=M/\Hid (Below w.heap.size w wr)) (fun _ i _=>l.length - (intOf i).toNat)
 case atStart=>exact⟨0,0,rfl,rfl,Nat.zero_le _,H0,Nat.zero_le _,HB1⟩
 case round=>
  obtain⟨D,k,rfl,rfl,hk,hD,hDM,hbw⟩:=hrel;clear H0 HB1;by_cases hlt:k<l.length
  . obtain⟨g,off,rfl,hg,hL⟩: ∃g off,oa=some ⟨g,off,none⟩/\g<w.heap.size/\A5 w w.heap.size l g off:=by
     rcases hl with rfl|h
     . simp at hlt
     . exact h
    obtain⟨⟨key,x⟩,hx⟩: ∃v,l[k]? =some v:=⟨_,List.getElem?_eq_getElem hlt⟩;have hmem:(key,x) ∈ l:=List.mem_of_getElem? hx;have hbv:=Ef hmem;simp only at hbv;have hdv:=M5 x;have hdrop:l.drop k=(key,x)::l.drop (k+1):=En hx;have hD':=hD.out;rw[hdrop]at hD';simp only[K5,Acf]at hD';have IHx:=HI.out _ hmem;have hz:=hbw.out.size;obtain⟨m,hm⟩: ∃m,F7 x=m:=⟨_,rfl⟩;obtain⟨k',b',n',t',l',o'⟩:=x;obtain⟨la',lc',oa',oc',hvs,c0,c1,c2,c3,c4,c5,c6⟩:=(hL.below hg hbw.out).seven hx;have CT:=IHx _ (wr.alloc (.cells #[.string key,.int .i64 k',.bool b',.int .i64 n',.string t',.slice la' l'.length lc',.slice oa' o'.length oc'] 63)) (Ab.more (by simp;omega) _ _ (hvs.below ((Below.refl _ _).alloc hz _))) (show(Val.mk k' b' n' t' l' o').bulk<=100000000 from by omega);simp only[hm]at CT;rw[hm]at hD' hdv;have hCT:=Lib.hid CT;have Hn:Hid (max (max D m) (K5 (l.drop (k+1)))=M):=by show _=_;omega
    have hmM:max D m<=M:=by omega
    have hbA:Hid (Below w.heap.size w (wr.alloc (.cells #[.string key,.int .i64 k',.bool b',.int .i64 n',.string t',.slice la' l'.length lc',.slice oa' o'.length oc'] 63))):=hbw.out.alloc hz _;clear CT hD hD' hdrop IHx hm hvs hx hmem hL hg hdv hbv;have hmx:max (D:Int) (m:Int)=((max D m:Nat):Int):=by omega
    generalize max D m=Dm at*
    have Hmx:=Lib.hid hmx;clear hmx;go_wp2_with (fail);(with_reducible refine hCT.out.mono ?_);rintro e w4 ⟨rfl,hb4⟩;have hbw4:=Lib.hid (hbA.out.trans (hb4.mono hbA.out.size));clear hb4 hbw hbA hCT;go_wp2;go_roundw
    case rel=>exact⟨Dm,k+1,by rw[Hmx.out],by go_num,by omega,Hn,hmM,hbw4⟩
    case measure=>simp only[intOf];omega
  . obtain rfl:k=l.length:=by omega
    have hD':=hD.out;rw[List.drop_length]at hD';simp only[K5]at hD';obtain rfl:D=M:=by omega
    clear hD hD' hl;go_wp2;go_ret;exact⟨rfl,hbw.out⟩
set_option maxRecDepth 100000 in
theorem Afg: ∀v,Akc v:=by
 refine Val.ind ?_;intro k b n t l o IHl IHo cs w hV hb;simp only[Ab]at hV;obtain⟨la,lc,oa,oc,rfl,hla,hoa⟩:=hV;simp only[Val.bulk]at hb;by_cases h5:k=5
 . subst h5;have:=Aik b n t l o.length IHl la oa oc lc w hla (by omega);simpa[F7]using this
 by_cases h6:k=6
 . subst h6;have:=Ala b n t o l.length IHo la oa oc lc w hoa (by omega);simpa[F7]using this
 have e:F7 (.mk k b n t l o)=1:=by simp[F7,h5,h6]
 rw[e];have e5:(k==5)=false:=by simpa using h5
 have e6:(k==6)=false:=by simpa using h6
 clear e IHl IHo hla hoa hb h5 h6;go_enter Tryz.func163,Tryz.ntmps163;go_wp2;go_ret;exact⟨rfl,(Below.refl _ _).alloc (Nat.le_refl _) _⟩
end Go.Proofs.YtmglfdckpjegdaaGreatDoor
