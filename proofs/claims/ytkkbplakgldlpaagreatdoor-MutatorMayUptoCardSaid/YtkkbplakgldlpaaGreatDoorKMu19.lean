/- Parts, joined: Texts are read as the values that they are texts of, whatever blanks stand between their parts. Plain. No condition. commonplaceref02.Deep: how deep a value is. Condition: a bulk of at most 10^8. A value that may be may stand deeper, as long as it is not too deep. Plain. No condition. A row of members sorted by their keys, by slices.SortFunc. Condition: no key twice. -/
import Derived.Test.YtkkbplakgldlpaaGreatDoorProg
import Derived.Test.YtkkbplakgldlpaaGreatDoorZShelf
import Derived.Test.YtkkbplakgldlpaaGreatDoorZShelfS
import Derived.Shelf.SlSortCmp.WholeK
import Derived.WalkKit
import Derived.Test.YtkkbplakgldlpaaGreatDoorKMu6
import Derived.Test.YtkkbplakgldlpaaGreatDoorKMu10
import Derived.Test.YtkkbplakgldlpaaGreatDoorKMu12
import Derived.Test.YtkkbplakgldlpaaGreatDoorKMu14
import Derived.Test.YtkkbplakgldlpaaGreatDoorKMu17
namespace Go.Proofs.YtkkbplakgldlpaaGreatDoor
open Go.RowKit
def StopD (x:List UInt8):Prop:= ∀c y,x=c::y→isDig c=false
def Blanks (g:List UInt8):Prop:= ∀c ∈ g,isBlank c=true
theorem drop_app {s a x:List UInt8} {p:Nat} (h:s.drop p=a++x):s.drop (p+a.length)=x:=by
 rw[←List.drop_drop,h,List.drop_left]
theorem drop_len {s a x:List UInt8} {p:Nat} (h:s.drop p=a++x) (hp:p≤s.length):p+a.length≤s.length:=by
 have:=congrArg List.length h
 rw[List.length_drop,List.length_append]at this;omega
theorem get_drop {s x:List UInt8} {p:Nat} {c:UInt8} (h:s.drop p=c::x):s[p]? =some c:=by
 have:=List.getElem?_drop (xs:=s) (i:=p) (j:=0)
 rw[h]at this
 simpa using this.symm
theorem past_blanks: ∀{g:List UInt8},Blanks g→ ∀{s x:List UInt8} {p:Nat},s.drop p=g++x→past s p=past s (p+g.length)
 | [],_,_,_,_,_=>rfl
 |c::g,hg,s,x,p,h=>by
  rw[past_step (get_drop h) (hg c (by simp))]
  have h2:s.drop (p+1)=g++x:=drop_app (a:= [c]) (x:=g++x) (by simpa using h)
  rw[past_blanks (fun c hc=>hg c (by simp[hc])) h2,List.length_cons]
  congr 1;omega
theorem value_past {f:Nat} {s:List UInt8} {p p':Nat} {d:Int} (h:past s p=past s p'):valueF f s p d=valueF f s p' d:=by
 cases f with
 |zero=>unfold valueF;rw[h]
 |succ f=>unfold valueF;rw[h]
def ReadsV (t:List UInt8) (v:Val) (d:Int):Prop:= ∀f s p x,p≤s.length→s.drop p=t++x→StopD x→4*(s.length - p)+1≤f→ ∃q,valueF f s p d=.ok v q∧past s q=past s (p+t.length)
theorem StopD.blanks {g x:List UInt8} (hg:Blanks g) (hx:StopD x):StopD (g++x):=by
 intro c y h
 cases g with
 |nil=>exact hx c y h
 |cons a g=>
  have:a=c:=(List.cons.inj h).1
  subst this
  have:=hg a (by simp)
  unfold isBlank at this
  simp only[Bool.or_eq_true,beq_iff_eq]at this
  rcases this with((rfl|rfl)|rfl)|rfl<;>decide
theorem StopD.nil:StopD []:=by intro c y e;cases e
theorem ReadsV.ahead {t:List UInt8} {v:Val} {d:Int} (h:ReadsV t v d) {g:List UInt8} (hg:Blanks g):ReadsV (g++t) v d:=by
 intro f s p x hp hs hx hf
 rw[List.append_assoc]at hs
 have h1:=past_blanks hg hs
 have h2:=drop_app hs
 have h3:=drop_len hs hp
 obtain⟨q,h4,h5⟩:=h f s (p+g.length) x h3 h2 hx (by omega)
 refine⟨q,by rw[value_past h1];exact h4, ?_⟩
 rw[h5,List.length_append]
 congr 1;omega
structure Mem where
 pre:List UInt8
 mid:List UInt8
 txt:List UInt8
 key:ByteArray
 val:Val
def Mem.pair (m:Mem):ByteArray×Val:=(m.key,m.val)
end Go.Proofs.YtkkbplakgldlpaaGreatDoor

namespace Go.Proofs.YtkkbplakgldlpaaGreatDoor
open Go.RowKit
theorem RWithin_calls (v:Val) (cs:List Value) (w:World) (hV:HoldsV w w.heap.size v cs) (hb:v.bulk≤100000000):
 Calls Tryz.prog 162 #[.agg cs.toArray] w (WithinPost w v):=by
 obtain⟨k,b,n,t,l,o⟩:=v
 simp only[HoldsV]at hV
 obtain⟨la,lc,oa,oc,rfl,hla,hoa⟩:=hV
 simp only[Val.bulk]at hb
 by_cases h5:k=5
 · subst h5
   exact within_list b n t l o la oa oc lc w hla (by omega)
 by_cases h6:k=6
 · subst h6
   exact within_obj b n t l o la oa oc lc w hoa (by omega)
 have hw:within (.mk k b n t l o)= []:=by simp[within,h5,h6]
 have Hw:=Lib.hid hw
 have e5:(k==5)=false:=by simpa using h5
 have e6:(k==6)=false:=by simpa using h6
 clear hw hla hoa hb h5 h6
 go_enter Tryz.func162,Tryz.ntmps162
 go_wp2
 go_ret
 exact⟨⟨none,0,by rw[Hw.out];rfl,.inl Hw.out⟩,(Below.refl _ _).alloc (Nat.le_refl _) _⟩
theorem deepO_map: ∀o:List (ByteArray×Val),deepO o=deepL (o.map (·.2))
 | []=>rfl
 |(k,v)::r=>by simp only[deepO,deepP,List.map_cons,deepL,deepO_map r]
theorem deepV_within (v:Val):deepV v=1+deepL (within v):=by
 obtain⟨k,b,n,t,l,o⟩:=v
 simp only[deepV,within]
 by_cases h5:k=5
 · simp[h5]
 by_cases h6:k=6
 · simp[h6,deepO_map]
 · simp[h5,h6,deepL]
theorem bulkO_map: ∀o:List (ByteArray×Val),bulkL (o.map (·.2))≤bulkO o
 | []=>by simp[bulkL]
 |(k,v)::r=>by
  have:=bulkO_map r
  simp only[List.map_cons,bulkL,bulkO,bulkP]
  omega
theorem within_bulk (v:Val):bulkL (within v)≤v.bulk:=by
 obtain⟨k,b,n,t,l,o⟩:=v
 have:=bulkO_map o
 simp only[within,Val.bulk]
 split
 · omega
 split
 · omega
 · simp[bulkL]
def RDeepC (v:Val):Prop:= ∀(cs:List Value) (w:World),HoldsV w w.heap.size v cs→v.bulk≤100000000→
    Calls Tryz.prog 109 #[.agg cs.toArray] w fun e w'=>e=.returned (.int .i64 (deepV v))∧Below w.heap.size w w'
set_option maxRecDepth 100000 in
set_option maxHeartbeats 2000000 in
theorem rdeep_step (v:Val) (IH: ∀x ∈ within v,RDeepC x):RDeepC v:=by
 intro cs w hV hb
 have hV':=hV
 have hbw:=within_bulk v
 have hlw:=bulkL_len (within v)
 have hdw:=deepL_le (within v) (fun x _=>deepV_le x)
 have hW0:=fun w' (h:Below w.heap.size w w')=>RWithin_calls v cs w' (HoldsV.more h.size _ _ (hV.below h)) hb
 rw[deepV_within]
 unfold WithinPost at hW0
 generalize within v=L at*
 obtain⟨k,b,n,t,l,o⟩:=v
 simp only[HoldsV]at hV'
 obtain⟨la,lc,oa,oc,rfl,_,_⟩:=hV'
 have HI:=Lib.hid IH
 have HW:=Lib.hid hW0
 obtain⟨M,hM⟩: ∃M,deepL L=M:=⟨_,rfl⟩
 rw[hM]at hdw ⊢
 have H0:Hid (max 0 (deepL (L.drop 0))=M):=by show _=_;rw[List.drop_zero,hM];simp
 have HB1:Hid (Below w.heap.size w (w.alloc (.cells (cells6 k b n t la l.length lc oa o.length oc).toArray 27))):=(Below.refl _ _).alloc (Nat.le_refl _) _
 clear IH hW0 hM hV
 go_enter Tryz.func109,Tryz.ntmps109
 go_wp2_with (fail)
 with_reducible refine(HW.out _ HB1.out).mono ?_
 rintro e w2 ⟨⟨la',lc',rfl,hsl⟩,hb2⟩
 have Hsl:=Lib.hid hsl
 have HB2:=Lib.hid (HB1.out.trans (hb2.mono HB1.out.size))
 clear hsl hb2 HB1 HW
 go_wp2_with (fail)
 have HBr:Hid (Below w2.heap.size w2 w2):=Below.refl _ _
 go_loopw [3,5] (fun m i wr=> ∃D k:Nat,m=.int .i64 D∧i=.int .i64 k∧k≤L.length∧Hid (max D (deepL (L.drop k))=M)∧D≤M∧Hid (Below w2.heap.size w2 wr)) (fun _ i _=>L.length - (intOf i).toNat)
 case atStart=>exact⟨0,0,rfl,rfl,Nat.zero_le _,H0,Nat.zero_le _,HBr⟩
 case round=>
  obtain⟨D,k,rfl,rfl,hk,hD,hDM,hbw⟩:=hrel
  clear H0 HBr
  by_cases hlt:k<L.length
  · obtain⟨g,off,rfl,hg,hL⟩: ∃g off,la'=some ⟨g,off,none⟩∧g<w2.heap.size∧HoldsL w2 w2.heap.size L g off:=by
     rcases Hsl.out with h|h
     · rw[h]at hlt;simp at hlt
     · exact h
    obtain⟨x,hx⟩: ∃v,L[k]? =some v:=⟨_,List.getElem?_eq_getElem hlt⟩
    have hmem:x ∈ L:=List.mem_of_getElem? hx
    have hbv:=bulkL_mem hmem
    have hdv:=deepV_le x
    have hdrop:L.drop k=x::L.drop (k+1):=drop_of_get hx
    have hD':=hD.out
    rw[hdrop]at hD'
    simp only[deepL]at hD'
    have IHx:=HI.out x hmem
    have hz:=hbw.out.size
    obtain⟨m,hm⟩: ∃m,deepV x=m:=⟨_,rfl⟩
    obtain⟨k',b',n',t',l',o'⟩:=x
    obtain⟨la',lc',oa',oc',hvs,c0,c1,c2,c3,c4,c5⟩:=(hL.below hg hbw.out).six hx
    have CT:=IHx _ wr (HoldsV.more hz _ _ hvs) (by omega)
    rw[hm]at CT hD' hdv
    have hCT:=Lib.hid CT
    have Hn:Hid (max (max D m) (deepL (L.drop (k+1)))=M):=by show _=_;omega
    have hmM:max D m≤M:=by omega
    clear CT hD hD' hdrop IHx hm hvs hx hmem hL hg hdv hbv
    by_cases hgt:D<m
    · have e1:max D m=m:=by omega
      rw[e1]at Hn hmM
      clear e1
      go_wp2_with (fail)
      with_reducible refine hCT.out.mono ?_
      rintro e w4 ⟨rfl,hb4⟩
      have hbw4:=Lib.hid (hbw.out.trans (hb4.mono hz))
      clear hb4 hbw hCT
      go_wp2
      go_roundw
      case rel=>exact⟨m,k+1,rfl,by go_num,by omega,Hn,hmM,hbw4⟩
      case measure=>simp only[intOf];omega
    · have e1:max D m=D:=by omega
      rw[e1]at Hn hmM
      clear e1
      go_wp2_with (fail)
      with_reducible refine hCT.out.mono ?_
      rintro e w4 ⟨rfl,hb4⟩
      have hbw4:=Lib.hid (hbw.out.trans (hb4.mono hz))
      clear hb4 hbw hCT
      go_wp2
      go_roundw
      case rel=>exact⟨D,k+1,rfl,by go_num,by omega,Hn,hmM,hbw4⟩
      case measure=>simp only[intOf];omega
  · obtain rfl:k=L.length:=by omega
    have hD':=hD.out
    rw[List.drop_length]at hD'
    simp only[deepL]at hD'
    obtain rfl:D=M:=by omega
    have hc:(D:Int)+1=((1+D:Nat):Int):=by omega
    have Hc:=Lib.hid hc
    clear hD hD' hc
    go_wp2
    go_ret
    exact⟨by rw[←Hc.out];rfl,HB2.out.trans (hbw.out.mono HB2.out.size)⟩
theorem rdeep_calls: ∀v,RDeepC v:=by
 refine Val.ind ?_
 intro k b n t l o IHl IHo
 refine rdeep_step _ (fun x hx=> ?_)
 simp only[within]at hx
 split at hx
 · exact IHl x hx
 split at hx
 · obtain⟨m,hm,rfl⟩:=List.mem_map.1 hx
   exact IHo m hm
 · cases hx
end Go.Proofs.YtkkbplakgldlpaaGreatDoor

namespace Go.Proofs.YtkkbplakgldlpaaGreatDoor
open Go.RowKit
theorem mayL_deeper: ∀{l:List Val},(∀v ∈ l,∀d d':Int,mayV v d'=0→d+deepV v≤65→mayV v d=0)→ ∀{d d':Int},mayL l d'=0→(l= []∨d+deepL l≤65)→mayL l d=0
 | [],_,_,_,_,_=>by simp[mayL]
 |v::r,ih,d,d',h,hd=>by
  have hd:=hd.resolve_left (by simp)
  simp only[deepL]at hd
  simp only[mayL]at h ⊢
  by_cases h0:mayV v d'=0
  · rw[if_pos h0]at h
    rw[if_pos (ih v (by simp) d d' h0 (by omega))]
    exact mayL_deeper (fun x hx=>ih x (by simp[hx])) h (.inr (by omega))
  · rw[if_neg h0]at h
    exact absurd h h0
theorem mayO_deeper: ∀{l:List (ByteArray×Val)},(∀m ∈ l,∀d d':Int,mayV m.2 d'=0→d+deepV m.2≤65→mayV m.2 d=0)→ ∀{last:Option ByteArray} {d d':Int},mayO l last d'=0→(l= []∨d+deepO l≤65)→mayO l last d=0
 | [],_,_,_,_,_,_=>by simp[mayO]
 |(key,v)::r,ih,last,d,d',h,hd=>by
  have hd:=hd.resolve_left (by simp)
  simp only[deepO,deepP]at hd
  simp only[mayO]at h ⊢
  by_cases h0:mayP (key,v) last d'=0
  · rw[if_pos h0]at h
    have h1:mayP (key,v) last d=0:=by
     simp only[mayP]at h0 ⊢
     by_cases hv:validB key=true
     · rw[if_pos hv]at h0 ⊢
       cases last with
       |none=>exact ih (key,v) (by simp) d d' h0 (by simp only;omega)
       |some q=>
        simp only at h0 ⊢
        by_cases hl:leB key q=true
        · rw[if_pos hl]at h0;cases h0
        · rw[if_neg hl]at h0 ⊢
          exact ih (key,v) (by simp) d d' h0 (by simp only;omega)
     · rw[if_neg hv]at h0;cases h0
    rw[if_pos h1]
    exact mayO_deeper (fun x hx=>ih x (by simp[hx])) h (.inr (by omega))
  · rw[if_neg h0]at h
    exact absurd h h0
theorem mayV_deeper: ∀(v:Val) (d d':Int),mayV v d'=0→d+deepV v≤65→mayV v d=0:=by
 refine Val.ind ?_
 intro k b n t l o hl ho d d' h hd
 obtain⟨h1,_,h3,h4,h5⟩:=mayV_parts h
 obtain⟨_,_,k5,k6⟩:=odd_parts h1
 simp only[deepV]at hd
 have hL:mayL l (d+1)=0:=by
  refine mayL_deeper hl h4 ?_
  rcases k5 with e|e
  · rw[if_pos e]at hd;exact .inr (by omega)
  · exact .inl (List.length_eq_zero_iff.1 e)
 have hO:mayO o none (d+1)=0:=by
  refine mayO_deeper ho h5 ?_
  rcases k6 with e|e
  · rw[if_neg (by omega),if_pos e]at hd;exact .inr (by omega)
  · exact .inl (List.length_eq_zero_iff.1 e)
 have h64: ¬64<d:=by
  have:0≤(if k=5 then deepL l else if k=6 then deepO o else 0):=Nat.zero_le _
  omega
 simp only[mayV]
 rw[if_neg (by rw[h1];simp),if_neg h64,if_pos h3,if_pos hL,hO]
end Go.Proofs.YtkkbplakgldlpaaGreatDoor

namespace Go.Proofs.YtkkbplakgldlpaaGreatDoor
open Go Go.RowKit
theorem cmp_neg_iff: ∀a b:List UInt8,Lib.compareBytes a b<0 ↔ Op.bytesLess a b=true
 | [], []=>by decide
 | [],_::_=>by simp[Lib.compareBytes,Op.bytesLess]
 |_::_, []=>by simp[Lib.compareBytes,Op.bytesLess]
 |a::x,b::y=>by
  have ih:=cmp_neg_iff x y
  have e1:Lib.compareBytes (a::x) (b::y)=if a<b then -1 else if b<a then 1 else Lib.compareBytes x y:=rfl
  have e2:Op.bytesLess (a::x) (b::y)=(decide (a<b)||(a==b&&Op.bytesLess x y)):=rfl
  rw[e1,e2]
  by_cases h:a<b
  · rw[if_pos h];simp[h]
  · rw[if_neg h]
    by_cases h':b<a
    · rw[if_pos h']
      have hne:(a==b)=false:=by rw[beq_eq_false_iff_ne];rintro rfl;exact absurd h' h
      simp[h,hne]
    · rw[if_neg h',ih]
      have hab:a=b:=UInt8.toNat_inj.1 (by rw[UInt8.lt_iff_toNat_lt]at h h';omega)
      subst hab
      simp[h]
theorem cmp_neg (a b:List UInt8):decide (Lib.compareBytes a b<0)=Op.bytesLess a b:=by
 rw[Bool.eq_iff_iff,decide_eq_true_iff];exact cmp_neg_iff a b
structure MC where
 key:ByteArray
 val:Val
 cs:List Value
 len:cs.length=6
 one: ∀v ∈ cs,v.oneCell'=true
instance:Inhabited MC:=⟨⟨emptyB,nullV, [.int .i64 0,.int .i64 0,.int .i64 0,.int .i64 0,.int .i64 0,.int .i64 0],rfl,by simp[Value.oneCell']⟩⟩
def MC.enc (x:MC):List Value:=.string x.key::x.cs
def MC.pair (x:MC):ByteArray×Val:=(x.key,x.val)
def cfM (x y:MC):Int:=Lib.compareBytes x.key.data.toList y.key.data.toList
theorem ltMC (x y:MC):ltOf cfM x y=ltB x.key y.key:=by
 unfold ltOf cfM ltB
 rw[cmp_neg,Lib.toList_data,Lib.toList_data]
theorem swoMC:Sort.SWO (ltOf cfM) where
 irrefl x:=by rw[ltMC];exact ltB_irrefl _
 trans x y z:=by simp only[ltMC];exact ltB_trans
 ntrans x y z:=by
  simp only[ltMC]
  intro h1 h2
  cases h3:ltB x.key z.key with
  |false=>rfl
  |true=>
   exfalso
   rcases ltB_tri y.key x.key with h|h|h
   · have:=ltB_trans h h3;rw[h2]at this;cases this
   · rw[←h]at h3;rw[h2]at h3;cases h3
   · rw[h1]at h;cases h
theorem encMC_len (x:MC):x.enc.length=7:=by simp[MC.enc,x.len]
theorem encMC_one (x:MC): ∀v ∈ x.enc,v.oneCell'=true:=by
 intro v hv
 rcases List.mem_cons.1 hv with rfl|hv
 · rfl
 · exact x.one v hv
theorem six_list {l:List Value} (h:l.length=6): ∃a b c d e f,l= [a,b,c,d,e,f]:=by
 match l,h with
 | [a,b,c,d,e,f],_=>exact⟨a,b,c,d,e,f,rfl⟩
set_option maxRecDepth 100000 in
set_option maxHeartbeats 2000000 in
theorem closeM (x y:MC) (W:World):Calls Tryz.prog 174 #[.agg x.enc.toArray,.agg y.enc.toArray] W fun e w'=>e=.returned (.int .i64 (cfM x y))∧ ∃q os,w'=Sort.grow (W.drewN q) os:=by
 obtain⟨kx,vx,cx,lx,ox⟩:=x
 obtain⟨ky,vy,cy,ly,oy⟩:=y
 obtain⟨a0,a1,a2,a3,a4,a5,rfl⟩:=six_list lx
 obtain⟨b0,b1,b2,b3,b4,b5,rfl⟩:=six_list ly
 have hC:=fun W=>Tryz.strings_Compare kx ky W
 have hA:=Sort.alloc_eq_grow
 simp only[MC.enc,cfM]
 generalize Lib.compareBytes kx.data.toList ky.data.toList=r at hC ⊢
 have n0:=ox a0 (by simp)
 have n1:=ox a1 (by simp)
 have n2:=ox a2 (by simp)
 have n3:=ox a3 (by simp)
 have n4:=ox a4 (by simp)
 have n5:=ox a5 (by simp)
 have m0:=oy b0 (by simp)
 have m1:=oy b1 (by simp)
 have m2:=oy b2 (by simp)
 have m3:=oy b3 (by simp)
 have m4:=oy b4 (by simp)
 have m5:=oy b5 (by simp)
 have HC:=Lib.hid hC
 have HA:=Lib.hid hA
 clear hC hA
 go_enter Tryz.func174,Tryz.ntmps174
 go_wp2_with (fail)
 with_reducible refine(HC.out _).mono ?_
 rintro e w2 ⟨rfl,rfl⟩
 go_wp2
 go_ret
 refine⟨rfl,0, #[.cells #[.string kx,a0,a1,a2,a3,a4,a5] 63,.cells #[.string ky,b0,b1,b2,b3,b4,b5] 63], ?_⟩
 rw[HA.out,HA.out,Sort.grow_grow]
 rfl
theorem flat_at (k:Nat) (hk:0<k): ∀(l:List MC) (t:Nat),(∀x ∈ l,x.enc.length=k)→(l.flatMap MC.enc)[t]? =(l[t / k]?).bind fun x=>x.enc[t % k]?
 | [],t,_=>by simp
 |x::r,t,h=>by
  have hx:=h x (by simp)
  rw[List.flatMap_cons]
  by_cases ht:t<k
  · rw[List.getElem?_append_left (by omega),Nat.div_eq_of_lt ht,Nat.mod_eq_of_lt ht];simp
  · rw[List.getElem?_append_right (by omega),hx,flat_at k hk r (t - k) (fun y hy=>h y (by simp[hy]))]
    have h1:t / k=(t - k) / k+1:=by rw[Nat.div_eq_sub_div hk (by omega)]
    have h2:t % k=(t - k) % k:=Nat.mod_eq_sub_mod (by omega)
    rw[h1,h2,List.getElem?_cons_succ]
theorem flatMC_len: ∀l:List MC,(l.flatMap MC.enc).length=l.length*7
 | []=>rfl
 |x::r=>by rw[List.flatMap_cons,List.length_append,flatMC_len r,encMC_len,List.length_cons];omega
theorem flatK_eq (l:List MC):Sort.flatK MC.enc 7 l.toArray=(l.flatMap MC.enc).toArray:=by
 apply Array.ext
 · rw[Sort.size_flatK,List.size_toArray,List.size_toArray,flatMC_len]
 · intro t h1 h2
   rw[Sort.size_flatK,List.size_toArray]at h1
   have e1:=Sort.get_flatK MC.enc 7 l.toArray t (by simpa using h1)
   have e2:=flat_at 7 (by decide) l t (fun x _=>encMC_len x)
   have hd:t / 7<l.length:=by omega
   have hm:t % 7<(l[t / 7]).enc.length:=by rw[encMC_len];omega
   rw[List.getElem?_eq_getElem hd,Option.bind_some,List.getElem?_eq_getElem hm]at e2
   have e3:(l.flatMap MC.enc)[t]'(by simpa using h2)=(l[t / 7]).enc[t % 7]:=by
    rw[List.getElem?_eq_getElem (by simpa using h2)]at e2;exact Option.some.inj e2
   rw[getElem!_pos _ t (by rw[Sort.size_flatK];simpa using h1)]at e1
   rw[e1,List.getElem_toArray,e3]
   have e4:(l.toArray)[t / 7]! =l[t / 7]:=by rw[getElem!_pos _ _ (by simpa using hd)];simp
   rw[e4,getElem!_pos (l[t / 7]).enc (t % 7) hm]
theorem cells_of {F:World→Prop} {B:Nat}: ∀(acc:List (ByteArray×Val)) (ns:List Value),(∃w,F w)→(∀w'',F w''→HoldsA w'' B (dO acc) ns)→
 ∃d:List MC,d.map MC.pair=acc∧ns=d.flatMap MC.enc∧ ∀w'',F w''→ ∀x ∈ d,Holds w'' B (dP x.pair) x.enc
 | [],ns,⟨w,hw⟩,h=>⟨[],rfl,h w hw,by simp⟩
 |m::r,ns,⟨w,hw⟩,h=>by
  have h0:=h w hw
  simp only[dO,HoldsA]at h0
  obtain⟨c1,c2,rfl,h1,h2⟩:=h0
  have l1:=h1.len
  rw[dP_cells]at l1
  have h1':=h1
  obtain⟨k,v⟩:=m
  simp only[dP,Holds,HoldsA]at h1'
  obtain⟨e1,e2,rfl,⟨rfl,_⟩,e3,e4,rfl,hV,rfl⟩:=h1'
  rw[List.append_nil]at*
  have l6:e3.length=6:=by have:=l1.1;simp at this;omega
  have key: ∀w'',F w''→Holds w'' B (dP (k,v)) (.string k::e3)∧HoldsA w'' B (dO r) c2:=by
   intro w'' hw''
   have h3:=h w'' hw''
   simp only[dO,HoldsA]at h3
   obtain⟨f1,f2,e,g1,g2⟩:=h3
   have l2:=g1.len.1
   rw[dP_cells]at l2
   obtain⟨rfl,rfl⟩:=List.append_inj e (by rw[l2];simpa using l6)
   exact⟨g1,g2⟩
  obtain⟨d,d1,d2,d3⟩:=cells_of r c2 ⟨w,hw⟩ (fun w'' hw''=>(key w'' hw'').2)
  refine⟨⟨k,v,e3,l6,fun u hu=>l1.2 u (by simp[hu])⟩::d,by simp[MC.pair,d1],by simp[MC.enc,d2],fun w'' hw'' x hx=> ?_⟩
  rcases List.mem_cons.1 hx with rfl|hx
  · exact(key w'' hw'').1
  · exact d3 w'' hw'' x hx
theorem holds_of_cells {w:World} {B:Nat}: ∀(d:List MC),(∀x ∈ d,Holds w B (dP x.pair) x.enc)→HoldsA w B (dO (d.map MC.pair)) (d.flatMap MC.enc)
 | [],_=>rfl
 |x::r,h=>by
  simp only[List.map_cons,dO,List.flatMap_cons,HoldsA]
  exact⟨x.enc,_,rfl,h x (by simp),holds_of_cells r (fun y hy=>h y (by simp[hy]))⟩
theorem sorted_pairs {d d':List MC} (hp:d'.Perm d) (hn:((d.map MC.pair).map (·.1)).Nodup) (hs: ∀i j,(hij:i<j)→(h:j<d'.length)→ltB (d'[j]).key (d'[i]'(by omega)).key=false):d'.map MC.pair=sortO (d.map MC.pair):=by
 obtain⟨_,s2,s3⟩:=sortO_some hn
 refine asc_unique ?_ s2 ((hp.map MC.pair).trans s3.symm)
 have hn':((d'.map MC.pair).map (·.1)).Nodup:=(((hp.map MC.pair).map (·.1)).nodup_iff).2 hn
 unfold ascO
 rw[List.pairwise_iff_getElem]
 intro i j hi hj hij
 simp only[List.length_map]at hi hj
 simp only[List.getElem_map,MC.pair]
 rcases ltB_tri (d'[i]).key (d'[j]).key with h|h|h
 · exact h
 · rw[List.map_map,List.nodup_iff_pairwise_ne,List.pairwise_iff_getElem]at hn'
   exact absurd (by rw[List.getElem_map,List.getElem_map];exact h) (hn' i j (by simpa using hi) (by simpa using hj) hij)
 · rw[hs i j hij hj]at h;cases h
theorem put_heap {w:World} {g n:Nat} {os:Array Obj} {cur F:Array Value} {e:TypeId} {fr:Nat×Nat} (hb:w.heap[g]? =some (.cells cur e fr)):
 (Sort.grow (Sort.putRow id (Sort.ahead w n) g 0 F) os).heap[g]? =some (.cells (Sort.putCells id 0 F cur) e fr):=by
 have hg:g<w.heap.size:=(Array.getElem?_eq_some_iff.1 hb).1
 rw[Sort.heap_grow_old _ _ (by simpa using hg)]
 simp[Sort.putRow,Sort.mapBlock,Sort.ahead,Array.getElem?_modify,hb,Sort.onCells]
theorem put_grownBy {w:World} {g n:Nat} {os:Array Obj} (F:Array Value):w.grownBy (Sort.grow (Sort.putRow id (Sort.ahead w n) g 0 F) os) (some g):=by
 refine⟨rfl,rfl,rfl,by simp,fun k hk hne=> ?_⟩
 rw[Sort.heap_grow_old _ _ (by simpa using hk)]
 have:g≠k:=fun e=>hne (by rw[e])
 simp[Sort.putRow,Sort.mapBlock,Sort.ahead,Array.getElem?_modify,this]
set_option maxHeartbeats 1000000 in
theorem sortRow_calls {b:Nat} {w:World} {acc:List (ByteArray×Val)} {V:Value} (hr:RowD b 63 7 w (dO acc) V) (hb:b≤w.heap.size) (hn:(acc.map (·.1)).Nodup) (hlen:acc.length≤1000000000):
 Calls Tryz.prog 173 #[V,.func (.func 174) #[] #[]] w fun e w'=>e=.returned (.tuple #[])∧w.grownBy w' V.ownBlock∧Fresh b w' (.row 7 (dO (sortO acc))) [V]:=by
 have hr0:=hr
 obtain⟨ns,h1,h2,h3⟩:=hr
 rcases h1.2 with⟨rfl,h0⟩|⟨g,cap,cur,rfl,hbg,hg,hnc,_,hsz,htk⟩
 · have hl:acc= []:=by rw[dO_len]at h0;exact List.eq_nil_of_length_eq_zero h0
   subst hl
   refine(AnyF.slices_SortFunc_none Tryz.sortFunc none 0 (.func (.func 174) #[] #[]) w).mono ?_
   rintro e w' ⟨rfl,rfl⟩
   exact⟨rfl,World.grownBy.refl _ _,fun _ _ _=>⟨none,0,rfl,by simp[sortO,objAll,dO], [],rfl,by simp[sortO,objAll,dO]⟩⟩
 · have hgl:=(Array.getElem?_eq_some_iff.1 hg).1
   obtain⟨d,rfl,rfl,d3⟩:=cells_of (F:=fun w''=>w.heap.size≤w''.heap.size∧ ∀p:Addr,b≤p.block→p.block<w.heap.size→(Value.slice (some ⟨g,0,none⟩) (dO acc).length cap).ownBlock≠some p.block→w''.cell? p=w.cell? p) acc ns ⟨w,Nat.le_refl _,fun _ _ _ _=>rfl⟩ (fun w'' hw=>h3 w'' hw.1 hw.2)
   have hdl:(dO (d.map MC.pair)).length=d.toArray.size:=by rw[dO_len];simp
   have hH:Sort.HoldsK MC.enc 7 w g 0 d.toArray:=by
    unfold Sort.HoldsK
    rw[flatK_eq]
    intro j hj
    have hj':j<(d.flatMap MC.enc).length:=by simpa using hj
    have h5:=h1.cells (g:=g) rfl j ((d.flatMap MC.enc)[j]) (List.getElem?_eq_getElem hj')
    rw[add_plain']at h5
    rw[getElem!_pos _ j hj]
    exact⟨h5,(show Blk w g 63 cur from hg).frozen _⟩
   have eg: ∀args w,(callFunc 174 args).run Tryz.prog w=.ok (.enter 174 args) w:=enters_of Tryz.func174 (by kernel_rfl) rfl
   have hC:CmpLays Tryz.prog 174 #[] MC.enc 7 cfM g 0 d.toArray.size w:=fun m os dk _ x y=>closeM x y _
   have hS:=AnyQ.slices_SortFunc Tryz.sortFunc 7 (fun w=>by kernel_rfl) (fun w=>by kernel_rfl) MC.enc encMC_len encMC_one cfM swoMC 174 #[] g 0 cap d.toArray w eg hC hH hgl (by simp at hlen ⊢;omega)
   rw[hdl]
   refine hS.mono ?_
   rintro e w' ⟨rfl,d',n,os,hp,hso,rfl⟩
   obtain⟨p1,_,p3⟩:=hp
   rw[Array.extract_size,←p1,Array.extract_size]at p3
   have hpe:d'.toList.Perm d:=by simpa using p3
   have hsp:=sorted_pairs hpe hn (fun i j hij hj=>by
    have:=hso i j (Nat.zero_le _) hij (by rw[←p1];simpa using hj)
    rw[ltMC,getElem!_pos d' j (by simpa using hj),getElem!_pos d' i (by have:j<d'.size:=(by simpa using hj);omega)]at this
    simpa using this)
   have hF:Sort.flatK MC.enc 7 d'=(d'.toList.flatMap MC.enc).toArray:=by rw[←flatK_eq]
   have hgb:w.grownBy (sortWorldK MC.enc 7 w g 0 n d' os) (some g):=put_grownBy _
   refine⟨rfl,hgb,fun w'' k1 k2=> ?_⟩
   have hsl:(sortO (d.map MC.pair)).length=d.toArray.size:=by rw[←hsp,List.length_map,Array.length_toList,p1]
   refine⟨_,cap,by rw[dO_len,hsl],dO_cells _,d'.toList.flatMap MC.enc, ?_,.inr ⟨g,0,rfl,Nat.lt_of_lt_of_le hgl hgb.size,fun j u hu=> ?_⟩⟩
   · rw[←hsp]
     refine holds_of_cells _ fun x hx=> ?_
     have hxd:x ∈ d:=hpe.mem_iff.1 hx
     refine Holds.more (d3 w'' ⟨Nat.le_trans hgb.size k1,fun p q1 q2 q3=> ?_⟩ x hxd) hgb.size
     exact(k2 p q1 (Nat.lt_of_lt_of_le q2 hgb.size)).trans (World.cell?_of_block (hgb.block p.block q2 (fun e=>q3 e.symm)))
   · rw[Nat.zero_add]
     have hj:j<(d'.toList.flatMap MC.enc).length:=(List.getElem?_eq_some_iff.1 hu).1
     have hjs:j<cur.size:=by
      rw[flatMC_len,Array.length_toList,p1]at hj
      rw[hsz]
      have:d.toArray.size≤cap:=by rw[←hdl];exact hnc
      have:=Nat.mul_le_mul_right 7 this
      omega
     refine(k2 ⟨g,j,none⟩ hbg (Nat.lt_of_lt_of_le hgl hgb.size)).trans ?_
     have hh:=put_heap (n:=n) (os:=os) (F:=Sort.flatK MC.enc 7 d') hg
     have hc:=(show Blk (Sort.grow (Sort.putRow id (Sort.ahead w n) g 0 (Sort.flatK MC.enc 7 d')) os) g 63 _ from hh).cell j
     refine hc.trans ?_
     rw[hF]
     have hjl:j<(d'.toList.map fun a=>a.enc.length).sum:=by rw[←List.length_flatMap];exact hj
     simp[Sort.putCells,hjs,hjl]
     exact(List.getElem?_eq_some_iff.1 hu).2
end Go.Proofs.YtkkbplakgldlpaaGreatDoor
