/- Parts, joined: An object's keys: it has just these names, if it has as many members and each is one of them; or if it has each of them and no more. Plain. No condition. Texts are read as the values that they are texts of, whatever blanks stand between their parts. Plain. No condition. A value's own text is read as that value. Plain. No condition. A value's parts; a value that may be is what its Kind says. Plain. No condition. What a list of ops is read of, or why of none. Plain. No condition. pull.responseNumbers: where an answer's numbers stand. No condition. -/
import Derived.Test.YtackmnbpfbaemaaGreatDoorProg
import Derived.Deep.RegionHeld3
import Derived.Below
import Derived.Test.YtackmnbpfbaemaaGreatDoorKPb4
import Derived.Test.YtackmnbpfbaemaaGreatDoorKPb16
import Derived.Test.YtackmnbpfbaemaaGreatDoorKPb21
import Derived.Test.YtackmnbpfbaemaaGreatDoorKPb27
namespace Go.Proofs.YtackmnbpfbaemaaGreatDoor
abbrev ascK (l:List ByteArray):Prop:=l.Pairwise fun a b=>ltB a b=true
theorem ascK_of {o:List (ByteArray×Val)} (h:ascO o):ascK (o.map (·.1)):=List.pairwise_map.2 h
theorem asc_sub: ∀(b:List ByteArray) {a:List ByteArray},ascK a→ascK b→(∀x ∈ a,x ∈ b)→a.Sublist b
 | [],a,_,_,h=>by
   cases a with
   |nil=>exact .slnil
   |cons x r=>exact absurd (h x (by simp)) (by simp)
 |y::b, [],_,_,_=>List.nil_sublist _
 |y::b,x::a,ha,hb,h=>by
  obtain⟨ha1,ha2⟩:=List.pairwise_cons.1 ha
  obtain⟨hb1,hb2⟩:=List.pairwise_cons.1 hb
  by_cases e:x=y
  · subst e
    refine(asc_sub b ha2 hb2 fun z hz=> ?_).cons_cons x
    rcases List.mem_cons.1 (h z (List.mem_cons_of_mem _ hz))with rfl|hm
    · have:=ha1 z hz
      rw[ltB_irrefl]at this
      cases this
    · exact hm
  · have hx:x ∈ b:=by
     rcases List.mem_cons.1 (h x (by simp))with e2|hm
     · exact absurd e2 e
     · exact hm
    have hyx:=hb1 x hx
    refine(asc_sub b ha hb2 fun z hz=> ?_).cons y
    rcases List.mem_cons.1 (h z hz)with e2|hm
    · subst e2
      rcases List.mem_cons.1 hz with e3|hz2
      · exact absurd e3.symm e
      · have h3:=ltB_trans hyx (ha1 z hz2)
        rw[ltB_irrefl]at h3
        cases h3
    · exact hm
theorem asc_same {a b:List ByteArray} (ha:ascK a) (hb:ascK b) (h: ∀x ∈ a,x ∈ b) (hl:a.length=b.length):a=b:=(asc_sub b ha hb h).eq_of_length hl
theorem keys_are {o:List (ByteArray×Val)} {names:List ByteArray} (ho:ascO o) (hn:ascK names):
 (o.length=names.length∧ ∀p ∈ o,p.1 ∈ names) ↔ o.map (·.1)=names:=by
 constructor
 · rintro⟨hl,hm⟩
   refine asc_same (ascK_of ho) hn (fun x hx=> ?_) (by rw[List.length_map];exact hl)
   obtain⟨p,hp,rfl⟩:=List.mem_map.1 hx
   exact hm p hp
 · rintro rfl
   exact⟨by rw[List.length_map],fun p hp=>List.mem_map.2 ⟨p,hp,rfl⟩⟩
theorem keys_just {o:List (ByteArray×Val)} {names:List ByteArray} (ho:ascO o) (hn:ascK names):
 (names.length=o.length∧ ∀x ∈ names,x ∈ o.map (·.1)) ↔ o.map (·.1)=names:=by
 constructor
 · rintro⟨hl,hm⟩
   exact(asc_same hn (ascK_of ho) hm (by rw[List.length_map];exact hl)).symm
 · rintro rfl
   exact⟨by rw[List.length_map],fun x hx=>hx⟩
def findO (k:ByteArray):List (ByteArray×Val)→Option Val
 | []=>none
 |p::r=>if p.1=k then some p.2 else findO k r
theorem findO_some {k:ByteArray}: ∀{o:List (ByteArray×Val)} {v:Val},findO k o=some v→(k,v) ∈ o
 | [],_,h=>by cases h
 |p::r,v,h=>by
  unfold findO at h
  split at h
  · rename_i e
    cases h
    subst e
    exact List.mem_cons_self ..
  · exact List.mem_cons_of_mem _ (findO_some h)
theorem findO_none {k:ByteArray}: ∀{o:List (ByteArray×Val)},findO k o=none ↔ k ∉ o.map (·.1)
 | []=>by simp[findO]
 |p::r=>by
  unfold findO
  by_cases e:p.1=k
  · rw[if_pos e];simp[e]
  · rw[if_neg e,findO_none (o:=r)];simp[Ne.symm e]
end Go.Proofs.YtackmnbpfbaemaaGreatDoor

namespace Go.Proofs.YtackmnbpfbaemaaGreatDoor
open Go.RowKit
def StopD (x:List UInt8):Prop:= ∀c y,x=c::y→isDig c=false
def Blanks (g:List UInt8):Prop:= ∀c ∈ g,isBlank c=true
theorem drop_app {s a x:List UInt8} {p:Nat} (h:s.drop p=a++x):s.drop (p+a.length)=x:=by
 rw[←List.drop_drop,h,List.drop_left]
theorem drop_len {s a x:List UInt8} {p:Nat} (h:s.drop p=a++x) (hp:p≤s.length):p+a.length≤s.length:=by
 have:=congrArg List.length h
 rw[List.length_drop,List.length_append]at this;omega
theorem get_drop {s x:List UInt8} {p:Nat} {c:UInt8} (h:s.drop p=c::x):s[p]? =some c:=by
 have:=List.getElem?_drop (xs:=s) (i:=p) (j:=0)
 rw[h]at this
 simpa using this.symm
theorem past_blanks: ∀{g:List UInt8},Blanks g→ ∀{s x:List UInt8} {p:Nat},s.drop p=g++x→past s p=past s (p+g.length)
 | [],_,_,_,_,_=>rfl
 |c::g,hg,s,x,p,h=>by
  rw[past_step (get_drop h) (hg c (by simp))]
  have h2:s.drop (p+1)=g++x:=drop_app (a:= [c]) (x:=g++x) (by simpa using h)
  rw[past_blanks (fun c hc=>hg c (by simp[hc])) h2,List.length_cons]
  congr 1;omega
theorem value_past {f:Nat} {s:List UInt8} {p p':Nat} {d:Int} (h:past s p=past s p'):valueF f s p d=valueF f s p' d:=by
 cases f with
 |zero=>unfold valueF;rw[h]
 |succ f=>unfold valueF;rw[h]
def ReadsV (t:List UInt8) (v:Val) (d:Int):Prop:= ∀f s p x,p≤s.length→s.drop p=t++x→StopD x→4*(s.length - p)+1≤f→ ∃q,valueF f s p d= .ok v q∧past s q=past s (p+t.length)
theorem StopD.blanks {g x:List UInt8} (hg:Blanks g) (hx:StopD x):StopD (g++x):=by
 intro c y h
 cases g with
 |nil=>exact hx c y h
 |cons a g=>
  have:a=c:=(List.cons.inj h).1
  subst this
  have:=hg a (by simp)
  unfold isBlank at this
  simp only[Bool.or_eq_true,beq_iff_eq]at this
  rcases this with((rfl|rfl)|rfl)|rfl<;>decide
theorem StopD.of {c:UInt8} {y:List UInt8} (h:isDig c=false):StopD (c::y):=by
 intro c' y' e
 rw[←(List.cons.inj e).1];exact h
theorem StopD.nil:StopD []:=by intro c y e;cases e
theorem ReadsV.ahead {t:List UInt8} {v:Val} {d:Int} (h:ReadsV t v d) {g:List UInt8} (hg:Blanks g):ReadsV (g++t) v d:=by
 intro f s p x hp hs hx hf
 rw[List.append_assoc]at hs
 have h1:=past_blanks hg hs
 have h2:=drop_app hs
 have h3:=drop_len hs hp
 obtain⟨q,h4,h5⟩:=h f s (p+g.length) x h3 h2 hx (by omega)
 refine⟨q,by rw[value_past h1];exact h4, ?_⟩
 rw[h5,List.length_append]
 congr 1;omega
theorem valueF_step {f:Nat} {s:List UInt8} {p:Nat} {d:Int} {c:UInt8} (hc:s[p]? =some c) (hb:startsV c=true) (hd:d≤64) (hbl:isBlank c=false):valueF (f+1) s p d=
 (if c=91 then listF f s p d
   else if c=123 then objF f s p d
   else if c=34 then(unqAt s p).map txtV
   else if c=110 then wordAt s p [110,117,108,108] nullV
   else if c=116 then wordAt s p [116,114,117,101] (boolV true)
   else if c=102 then wordAt s p [102,97,108,115,101] (boolV false)
   else(numberAt s p).map intV):=by
 conv=>lhs;unfold valueF
 rw[past_stop hc hbl,hc]
 simp only
 rw[if_neg (by rw[hb];decide),if_neg (by omega)]
theorem word_at {s w x:List UInt8} {p:Nat} (h:s.drop p=w++x) (v:Val):wordAt s p w v= .ok v (p+w.length):=by
 unfold wordAt
 rw[h,if_pos (by rw[List.isPrefixOf_iff_prefix];exact⟨x,rfl⟩)]
theorem read_null {d:Int} (hd:d≤64):ReadsV [110,117,108,108] nullV d:=by
 intro f s p x hp hs hx hf
 obtain⟨f,rfl⟩: ∃f',f=f'+1:=⟨f - 1,by omega⟩
 refine⟨_, ?_,rfl⟩
 rw[valueF_step (get_drop hs) (by decide) hd (by decide),if_neg (by decide),if_neg (by decide),if_neg (by decide),if_pos rfl]
 exact word_at hs _
theorem read_true {d:Int} (hd:d≤64):ReadsV [116,114,117,101] (boolV true) d:=by
 intro f s p x hp hs hx hf
 obtain⟨f,rfl⟩: ∃f',f=f'+1:=⟨f - 1,by omega⟩
 refine⟨_, ?_,rfl⟩
 rw[valueF_step (get_drop hs) (by decide) hd (by decide),if_neg (by decide),if_neg (by decide),if_neg (by decide),if_neg (by decide),if_pos rfl]
 exact word_at hs _
theorem read_false {d:Int} (hd:d≤64):ReadsV [102,97,108,115,101] (boolV false) d:=by
 intro f s p x hp hs hx hf
 obtain⟨f,rfl⟩: ∃f',f=f'+1:=⟨f - 1,by omega⟩
 refine⟨_, ?_,rfl⟩
 rw[valueF_step (get_drop hs) (by decide) hd (by decide),if_neg (by decide),if_neg (by decide),if_neg (by decide),if_neg (by decide),if_neg (by decide),if_pos rfl]
 exact word_at hs _
theorem dig_iff {c:UInt8}:isDig c=true ↔ 48≤c.toNat∧c.toNat≤57:=by unfold isDig;simp
theorem digN_app: ∀{a x:List UInt8},(∀c ∈ a,isDig c=true)→StopD x→digN (a++x)=a.length
 | [], [],_,_=>rfl
 | [],c::y,_,hx=>by
   show digN (c::y)=0
   unfold digN
   rw[if_neg (by rw[hx c y rfl];decide)]
 |c::a,x,ha,hx=>by
  rw[List.cons_append]
  unfold digN
  rw[if_pos (ha c (by simp)),digN_app (fun y hy=>ha y (by simp[hy])) hx,List.length_cons]
theorem digs_first {u:Nat} (h:u≠0): ∃c y,digs u=c::y∧c≠48:=by
 induction u using Nat.strongRecOn with
 |_ u ih=>
  rw[digs_pos h]
  by_cases h0:u / 10=0
  · rw[h0,digs_zero,List.nil_append]
    refine⟨_, [],rfl, ?_⟩
    have hd: ∀d:Fin 10,d.val≠0→dgt d.val≠48:=by decide
    exact hd ⟨u % 10,by omega⟩ (by simp only;omega)
  · obtain⟨c,y,e,hc⟩:=ih (u / 10) (by omega) h0
    exact⟨c,y++ [dgt (u % 10)],by rw[e];rfl,hc⟩
theorem digs_ne {u:Nat} (h:u≠0):digs u≠ []:=by
 obtain⟨c,y,e,_⟩:=digs_first h
 rw[e];simp
theorem dig_end {s a x:List UInt8} {f:Nat} (h:s.drop f=a++x) (ha: ∀c ∈ a,isDig c=true) (hx:StopD x):digEnd s f=f+a.length∧(s.drop f).take (digEnd s f - f)=a:=by
 have e:digEnd s f=f+a.length:=by unfold digEnd;rw[h,digN_app ha hx]
 refine⟨e, ?_⟩
 rw[e,h,Nat.add_sub_cancel_left,List.take_left']
 rfl
theorem numberAt_pos {s a x:List UInt8} {p:Nat} (h:s.drop p=a++x) (ha: ∀c ∈ a,isDig c=true) (hx:StopD x) (hne:a≠ []) (hz:a[0]? =some 48→a.length=1):numberAt s p=numRes false (digV a) p (p+a.length):=by
 obtain⟨c,y,rfl⟩: ∃c y,a=c::y:=by cases a with
  |nil=>exact absurd rfl hne
  |cons c y=>exact⟨c,y,rfl⟩
 obtain⟨e1,e2⟩:=dig_end h ha hx
 have hc:s[p]? =some c:=get_drop h
 have hd:=dig_iff.1 (ha c (by simp))
 have h45: ¬(s[p]? =some 45):=by
  rw[hc]
  intro e
  have:c=45:=Option.some.inj e
  subst this
  have:(45:UInt8).toNat=45:=rfl
  omega
 unfold numberAt
 rw[if_neg h45]
 unfold numFrom
 rw[e2,e1,if_neg (by simp),decide_eq_false h45,if_neg]
 rintro⟨h1,h2⟩
 rw[hc]at h1
 have:=hz (by simpa using h1)
 omega
theorem numberAt_neg {s a x:List UInt8} {p:Nat} (h:s.drop p=45::(a++x)) (ha: ∀c ∈ a,isDig c=true) (hx:StopD x) (hne:a≠ []) (hz:a[0]? =some 48→a.length=1):numberAt s p=numRes true (digV a) p (p+1+a.length):=by
 have h1:s.drop (p+1)=a++x:=drop_app (a:= [45]) h
 obtain⟨c,y,rfl⟩: ∃c y,a=c::y:=by cases a with
  |nil=>exact absurd rfl hne
  |cons c y=>exact⟨c,y,rfl⟩
 obtain⟨e1,e2⟩:=dig_end h1 ha hx
 have hc:s[p+1]? =some c:=get_drop h1
 have h45:s[p]? =some 45:=get_drop h
 unfold numberAt
 rw[if_pos h45]
 unfold numFrom
 rw[e2,e1,if_neg (by simp),decide_eq_true h45,if_neg]
 rintro⟨h2,h3⟩
 rw[hc]at h2
 have:=hz (by simpa using h2)
 omega
theorem digV_digs (u:Nat):digV (digs u)=u:=numD_digs u
def decS (u:Nat):List UInt8:=if u=0 then [48]else digs u
theorem decS_dig (u:Nat):(∀c ∈ decS u,isDig c=true)∧decS u≠ []∧((decS u)[0]? =some 48→(decS u).length=1)∧digV (decS u)=u:=by
 unfold decS
 split
 · rename_i h
   subst h
   exact⟨by decide,by decide,fun _=>rfl,rfl⟩
 · rename_i h
   refine⟨fun c hc=>dig_iff.2 (digs_range u c hc),digs_ne h,fun e=> ?_,digV_digs u⟩
   obtain⟨c,y,e1,hc⟩:=digs_first h
   rw[e1]at e
   simp only[List.getElem?_cons_zero,Option.some.injEq]at e
   exact absurd e hc
theorem itoa_decS (n:Int):Lib.itoa n=if n<0 then 45::decS n.natAbs else decS n.toNat:=by
 by_cases h:n<0
 · rw[if_pos h,Lib.itoa,if_pos h,←digs_dec _ (by omega)]
   unfold decS
   rw[if_neg (by omega)]
 · rw[if_neg h,Lib.itoa,if_neg h]
   unfold decS
   by_cases h0:n=0
   · subst h0
     show Lib.decDigits 0=if(0:Nat)=0 then [48]else digs 0
     rw[if_pos rfl]
     exact Lib.decDigits_one (i:=0) (by omega)
   · rw[if_neg (by omega),digs_dec _ (by omega)]
theorem number_itoa {n:Int} (h: -9223372036854775808≤n∧n≤9223372036854775807) {s x:List UInt8} {p:Nat} (hs:s.drop p=Lib.itoa n++x) (hx:StopD x):numberAt s p= .ok n (p+(Lib.itoa n).length):=by
 rw[itoa_decS]at hs ⊢
 split at hs
 · rename_i hn
   obtain⟨h1,h2,h3,h4⟩:=decS_dig n.natAbs
   rw[numberAt_neg hs h1 hx h2 h3,h4,if_pos hn]
   unfold numRes
   rw[if_pos rfl,if_neg (by omega),List.length_cons]
   congr 1
   · omega
   · omega
 · rename_i hn
   obtain⟨h1,h2,h3,h4⟩:=decS_dig n.toNat
   rw[numberAt_pos hs h1 hx h2 h3,h4,if_neg hn]
   unfold numRes
   rw[if_neg (by decide),if_neg (by omega)]
   congr 1
   omega
theorem starts_num {c:UInt8} (h:isDig c=true∨c=45):startsV c=true∧isBlank c=false∧c≠91∧c≠123∧c≠34∧c≠110∧c≠116∧c≠102:=by
 rcases h with h|rfl
 · have hd:=dig_iff.1 h
   have ne: ∀k:UInt8,(k.toNat<48∨57<k.toNat)→c≠k:=by
    rintro k hk rfl;omega
   refine⟨by unfold startsV;rw[h];rfl, ?_,ne _ (by decide),ne _ (by decide),ne _ (by decide),ne _ (by decide),ne _ (by decide),ne _ (by decide)⟩
   unfold isBlank
   simp only[Bool.or_eq_false_iff,beq_eq_false_iff_ne]
   exact⟨⟨⟨ne _ (by decide),ne _ (by decide)⟩,ne _ (by decide)⟩,ne _ (by decide)⟩
 · decide
theorem value_num {f:Nat} {s:List UInt8} {p:Nat} {d:Int} (hd:d≤64) {c:UInt8} (hc:s[p]? =some c) (h:isDig c=true∨c=45):valueF (f+1) s p d=(numberAt s p).map intV:=by
 obtain⟨h1,h2,h3,h4,h5,h6,h7,h8⟩:=starts_num h
 rw[valueF_step hc h1 hd h2,if_neg h3,if_neg h4,if_neg h5,if_neg h6,if_neg h7,if_neg h8]
theorem read_int {n:Int} (h: -9223372036854775808≤n∧n≤9223372036854775807) {d:Int} (hd:d≤64):ReadsV (Lib.itoa n) (intV n) d:=by
 intro f s p x hp hs hx hf
 obtain⟨f,rfl⟩: ∃f',f=f'+1:=⟨f - 1,by omega⟩
 refine⟨_, ?_,rfl⟩
 obtain⟨c,y,e⟩: ∃c y,Lib.itoa n=c::y:=by
  cases hi:Lib.itoa n with
  |nil=>exact absurd hi (itoa_ne n)
  |cons c y=>exact⟨c,y,rfl⟩
 have hc:s[p]? =some c:=get_drop (x:=y++x) (by rw[hs,e];rfl)
 have hr:=itoa_range n c (by rw[e];simp)
 have hr':isDig c=true∨c=45:=by
  rcases hr with hr|hr
  · exact .inr (UInt8.toNat_inj.1 hr)
  · exact .inl (dig_iff.2 hr)
 rw[value_num hd hc hr',number_itoa h hs hx]
 rfl
theorem esc_facts: ∀r:Fin 128,(r.val<32∨r.val=34∨r.val=92)→(quoteRune r.val).getD 0 0=92∧(((quoteRune r.val).length=2∧(quoteRune r.val).getD 1 0≠117∧escLet ((quoteRune r.val).getD 1 0)=some r.val)∨
 ((quoteRune r.val).length=6∧(quoteRune r.val).getD 1 0=117∧hexF ((quoteRune r.val).drop 2) 4 0=some r.val)):=by decide+kernel
theorem hexF_app: ∀(k:Nat) (l x:List UInt8) (n r:Nat),hexF l k n=some r→hexF (l++x) k n=some r
 |0,l,x,n,r,h=>by cases l<;>(cases x<;>simpa[hexF]using h)
 |k+1, [],x,n,r,h=>by simp[hexF]at h
 |k+1,c::l,x,n,r,h=>by
  rw[List.cons_append]
  simp only[hexF]at h ⊢
  cases hd:hexD c with
  |none=>rw[hd]at h;cases h
  |some d=>
   rw[hd]at h
   exact hexF_app k l x _ r h
theorem esc_quote {r:Nat} (hr:r<32∨r=34∨r=92) (x:List UInt8):escL (quoteRune r++x)= .ok r (quoteRune r).length∧ ∃y,quoteRune r=92::y:=by
 obtain⟨h0,h1⟩:=esc_facts ⟨r,by omega⟩ hr
 simp only at h0 h1
 obtain⟨a,y,e⟩: ∃a y,quoteRune r=a::y:=by
  cases hq:quoteRune r with
  |nil=>rw[hq]at h1;simp at h1
  |cons a y=>exact⟨a,y,rfl⟩
 have ha:a=92:=by rw[e]at h0;exact h0
 subst ha
 refine⟨?_,y,e⟩
 rw[e]at h1 ⊢
 rcases h1 with⟨hl,h2,h3⟩|⟨hl,h2,h3⟩
 · match y,hl with
   | [c],_=>
     have h2':c≠117:=h2
     have h3':escLet c=some r:=h3
     unfold escL unitL
     rw[if_pos (by right;right;simpa using h2')]
     simp only[letL,List.cons_append,List.nil_append,List.getElem?_cons_succ,List.getElem?_cons_zero]
     rw[h3']
     rfl
 · match y,hl with
   | [c,d,e1,e2,e3],_=>
     have h2':c=117:=h2
     subst h2'
     have h3':hexF [d,e1,e2,e3] 4 0=some r:=h3
     have h4:=hexF_app 4 _ x _ _ h3'
     unfold escL unitL
     rw[if_neg (by simp)]
     simp only[List.cons_append,List.nil_append,List.drop_succ_cons,List.drop_zero]at h4 ⊢
     rw[h4]
     simp only[pairL]
     rw[if_pos (by omega)]
     rfl
theorem unq_runes: ∀(L:List (Nat×Nat)),(∀x ∈ L,scalar x.2)→ ∀(f:Nat) (s x:List UInt8) (i:Nat) (out:List UInt8),s.drop i=quoteRunes L++34::x→i≤s.length→s.length - i≤f→
 unqF f s i out= .ok (out++L.flatMap fun y=>Lib.encodeRune (y.2:Int)) (i+(quoteRunes L).length+1)
 | [],_,f,s,x,i,out,h,hi,hf=>by
   have h':s.drop i=34::x:=h
   have hc:=get_drop h'
   have:=get_lt hc
   obtain⟨f,rfl⟩: ∃f',f=f'+1:=⟨f - 1,by omega⟩
   unfold unqF
   rw[hc]
   simp[quoteRunes]
 |a::L,hL,f,s,x,i,out,h,hi,hf=>by
  have ha:=hL a (by simp)
  have e2:quoteRunes (a::L)=quoteRune a.2++quoteRunes L:=by simp[quoteRunes]
  rw[e2,List.append_assoc]at h
  obtain⟨c,y,hq,hn⟩:=quoteRune_first ha
  have hc:s[i]? =some c:=get_drop (x:=y++(quoteRunes L++34::x)) (by rw[h,hq];rfl)
  have hlt:=get_lt hc
  obtain⟨f,rfl⟩: ∃f',f=f'+1:=⟨f - 1,by omega⟩
  have hlen:0<(quoteRune a.2).length:=by rw[hq];simp
  have h1:=drop_app h
  have h2:=drop_len h hi
  have rec_:=unq_runes L (fun z hz=>hL z (by simp[hz])) f s x (i+(quoteRune a.2).length) (out++Lib.encodeRune (a.2:Int)) h1 h2 (by omega)
  have efin:(Rd.ok (out++Lib.encodeRune (a.2:Int)++L.flatMap fun y=>Lib.encodeRune (y.2:Int)) (i+(quoteRune a.2).length+(quoteRunes L).length+1):Rd (List UInt8))= .ok (out++(a::L).flatMap fun y=>Lib.encodeRune (y.2:Int)) (i+(quoteRunes (a::L)).length+1):=by
   rw[List.flatMap_cons,List.append_assoc,e2,List.length_append]
   congr 1
   omega
  rw[←efin,←rec_]
  conv=>lhs;unfold unqF
  rw[hc]
  simp only
  rw[if_neg hn]
  by_cases hp:32≤a.2∧a.2≠34∧a.2≠92
  · have e:quoteRune a.2=Lib.encodeRune a.2:=by unfold quoteRune;rw[if_pos hp]
    have hb:=encode_bytes ha c (by rw[←e,hq];simp)
    have c32: ¬c.toNat<32:=by omega
    have c92:c≠92:=by
     rintro rfl
     have:(92:UInt8).toNat=92:=rfl
     omega
    have hdec:Lib.decodeL (s.drop i)=(a.2,(Lib.encodeRune (a.2:Int)).length):=by rw[h,e];exact dec_rune ha _
    have hnot: ¬((Lib.decodeL (s.drop i)).1=65533∧(Lib.decodeL (s.drop i)).2=1):=by
     rw[hdec]
     rintro⟨e1,e3⟩
     simp only at e1 e3
     rw[e1]at e3
     have:(Lib.encodeRune ((65533:Nat):Int)).length=3:=by decide+kernel
     omega
    rw[if_neg c32,if_neg c92,if_neg hnot,hdec,h,e]
    simp only
    rw[List.take_left']
    rfl
  · obtain⟨h3,y',h4⟩:=esc_quote (r:=a.2) (by omega) (quoteRunes L++34::x)
    have c92:c=92:=by
     rw[hq]at h4
     exact(List.cons.inj h4).1
    subst c92
    rw[if_neg (by decide),if_pos rfl,h,h3]
theorem unq_quote {a:ByteArray} (ha:validB a=true) {s x:List UInt8} {p:Nat} (h:s.drop p=quoteB a++x):unqAt s p= .ok a.data.toList (p+(quoteB a).length):=by
 unfold quoteB at h
 rw[List.append_assoc]at h
 have h':s.drop p=34::(quoteRunes (runes a)++34::x):=h
 have hc:=get_drop h'
 have hl:=get_lt hc
 have h1:s.drop (p+1)=quoteRunes (runes a)++34::x:=drop_app (a:= [34]) h'
 unfold unqAt
 rw[if_pos hc,unq_runes (runes a) (runesFrom_scalar _ _ _) _ s x (p+1) [] h1 (by omega) (by omega)]
 unfold quoteB runes
 rw[runes_back a.size a.data.toList 0 (by rw[size_list];exact Nat.le_refl _) ha]
 rw[List.nil_append]
 congr 1
 simp only[List.length_append,List.length_cons,List.length_nil]
 omega
theorem ba_back (a:ByteArray):(⟨a.data.toList.toArray⟩:ByteArray)=a:=by
 apply ByteArray.ext
 simp
theorem read_txt {a:ByteArray} (ha:validB a=true) {d:Int} (hd:d≤64):ReadsV (quoteB a) (.mk 4 false 0 a [] []) d:=by
 intro f s p x hp hs hx hf
 obtain⟨f,rfl⟩: ∃f',f=f'+1:=⟨f - 1,by omega⟩
 have hc:s[p]? =some 34:=get_drop (x:=quoteRunes (runes a)++ [34]++x) (by rw[hs];rfl)
 refine⟨_, ?_,rfl⟩
 rw[valueF_step hc (by decide) hd (by decide),if_neg (by decide),if_neg (by decide),if_pos rfl,unq_quote ha hs]
 simp only[Rd.map,txtV,ba_back]
def joinC:List (List UInt8)→List UInt8
 | []=> []
 | [t]=>t
 |t::u::r=>t++44::joinC (u::r)
theorem items_read {d:Int} (hd:d≤64): ∀(l:List (List UInt8×Val)),l≠ []→(∀y ∈ l,ReadsV y.1 y.2 (d+1))→ ∀(f:Nat) (s x:List UInt8) (p:Nat) (acc:List Val),p≤s.length→s.drop p=joinC (l.map (·.1))++93::x→4*(s.length - p)+2≤f→
 itemsF f s p d acc= .ok (lstV (acc++l.map (·.2))) (p+(joinC (l.map (·.1))).length+1)
 | [y],_,hl,f,s,x,p,acc,hp,h,hf=>by
   obtain⟨f,rfl⟩: ∃f',f=f'+1:=⟨f - 1,by omega⟩
   have h':s.drop p=y.1++93::x:=h
   obtain⟨q,h1,h2⟩:=hl y (by simp) f s p (93::x) hp h' (StopD.of (by decide)) (by omega)
   have h3:=get_drop (drop_app h')
   rw[past_stop h3 (by decide)]at h2
   conv=>lhs;unfold itemsF
   rw[h1]
   simp only
   rw[h2,h3,if_neg (by decide),if_pos rfl]
   rfl
 |y::z::r,_,hl,f,s,x,p,acc,hp,h,hf=>by
  obtain⟨f,rfl⟩: ∃f',f=f'+1:=⟨f - 1,by omega⟩
  have h':s.drop p=y.1++44::(joinC ((z::r).map (·.1))++93::x):=by
   rw[h]
   simp only[List.map_cons,joinC,List.append_assoc,List.cons_append]
  obtain⟨q,h1,h2⟩:=hl y (by simp) f s p _ hp h' (StopD.of (by decide)) (by omega)
  have h3:=get_drop (drop_app h')
  have h4:=get_lt h3
  rw[past_stop h3 (by decide)]at h2
  have h5:s.drop (p+y.1.length+1)=joinC ((z::r).map (·.1))++93::x:=drop_app (a:= [44]) (drop_app h')
  conv=>lhs;unfold itemsF
  rw[h1]
  simp only
  rw[h2,h3,if_pos rfl,items_read hd (z::r) (by simp) (fun w hw=>hl w (by simp[hw])) f s x _ (acc++ [y.2]) (by omega) h5 (by omega)]
  congr 1
  · simp
  · simp only[List.map_cons,joinC,List.length_append,List.length_cons];omega
theorem joinC_ne {y:List UInt8} {r:List (List UInt8)}: ∃z,joinC (y::r)=y++z:=by
 cases r with
 |nil=>exact⟨[],by simp[joinC]⟩
 |cons u r=>exact⟨44::joinC (u::r),rfl⟩
theorem reads_first {t:List UInt8} {v:Val} {d:Int} (h:ReadsV t v d) {s x:List UInt8} {p:Nat} (hp:p≤s.length) (hs:s.drop p=t++x) (hx:StopD x): ∃c,s[past s p]? =some c∧startsV c=true:=by
 obtain⟨q,h1,_⟩:=h (4*(s.length - p)+1) s p x hp hs hx (Nat.le_refl _)
 unfold valueF at h1
 cases hc:s[past s p]? with
 |none=>rw[hc]at h1;cases h1
 |some c=>
  rw[hc]at h1
  simp only at h1
  refine⟨c,rfl, ?_⟩
  cases hb:startsV c with
  |true=>rfl
  |false=>rw[hb,if_pos rfl]at h1;cases h1
theorem read_list {d:Int} (hd:d≤64) {l:List (List UInt8×Val)} (hl: ∀y ∈ l,ReadsV y.1 y.2 (d+1)) {g:List UInt8} (hg:Blanks g) (hne:l≠ []→g= []):
 ReadsV (91::(g++joinC (l.map (·.1))++ [93])) (lstV (l.map (·.2))) d:=by
 intro f s p x hp hs hx hf
 obtain⟨f,rfl⟩: ∃f',f=f'+1:=⟨f - 1,by omega⟩
 have hc:s[p]? =some 91:=get_drop hs
 have hlt:=get_lt hc
 obtain⟨f,rfl⟩: ∃f',f=f'+1:=⟨f - 1,by omega⟩
 have h1:s.drop (p+1)=g++(joinC (l.map (·.1))++93::x):=by
  refine drop_app (a:= [91]) ?_
  rw[hs];simp
 rw[valueF_step hc (by decide) hd (by decide),if_pos rfl]
 unfold listF
 cases l with
 |nil=>
  have h2:=drop_app h1
  have h3:s[p+1+g.length]? =some 93:=get_drop h2
  rw[past_blanks hg h1,past_stop h3 (by decide),if_pos h3]
  refine⟨_,rfl, ?_⟩
  simp only[List.map_nil,joinC,List.append_nil,List.length_cons,List.length_append,List.length_nil]
  congr 1;omega
 |cons y r=>
  obtain rfl:=hne (by simp)
  rw[List.nil_append]at h1
  obtain⟨z,hz⟩:=joinC_ne (y:=y.1) (r:=r.map (·.1))
  have hfirst: ∃c,s[past s (p+1)]? =some c∧startsV c=true:=by
   cases r with
   |nil=>
    refine reads_first (hl y (by simp)) (p:=p+1) (x:=93::x) (by omega) ?_ (StopD.of (by decide))
    rw[h1];rfl
   |cons w r=>
    refine reads_first (hl y (by simp)) (p:=p+1) (x:=44::(joinC ((w::r).map (·.1))++93::x)) (by omega) ?_ (StopD.of (by decide))
    rw[h1]
    simp only[List.map_cons,joinC,List.append_assoc,List.cons_append]
  obtain⟨c,h3,h4⟩:=hfirst
  have hn93: ¬(s[past s (p+1)]? =some 93):=by
   rw[h3];intro e;rw[Option.some.inj e]at h4;revert h4;decide
  rw[if_neg hn93]
  have hit:=items_read hd (y::r) (by simp) hl f s x (p+1) [] (by omega) h1 (by omega)
  have hpast:itemsF f s (past s (p+1)) d []=itemsF f s (p+1) d []:=by
   cases f with
   |zero=>unfold itemsF;rw[past_past]
   |succ f=>unfold itemsF;rw[value_past (past_past s (p+1))]
  rw[hpast,hit]
  refine⟨_,by rw[List.nil_append], ?_⟩
  simp only[List.nil_append,List.length_cons,List.length_append,List.length_nil]
  congr 1;omega
structure Mem where
 pre:List UInt8
 mid:List UInt8
 txt:List UInt8
 key:ByteArray
 val:Val
def Mem.text (m:Mem):List UInt8:=m.pre++(quoteB m.key++(m.mid++58::m.txt))
def Mem.pair (m:Mem):ByteArray×Val:=(m.key,m.val)
def Mem.good (d:Int) (m:Mem):Prop:=Blanks m.pre∧Blanks m.mid∧validB m.key=true∧ReadsV m.txt m.val d
theorem quoteB_cons (a:ByteArray):quoteB a=34::(quoteRunes (runes a)++ [34]):=rfl
theorem member_read {d:Int} {m:Mem} (hm:m.good (d+1)) {f:Nat} {s x:List UInt8} {p:Nat} {acc:List (ByteArray×Val)} (hp:p≤s.length) (h:s.drop p=m.text++x) (hx:StopD x) (hf:4*(s.length - p)+2≤f):
 (hasK m.key acc=true→membersF f s p d acc= .bad 8 (p+m.pre.length))∧
 (hasK m.key acc=false→ ∃g q,f=g+2∧past s q=past s (p+m.text.length)∧membersF f s p d acc=(if s[past s q]? =some 44 then membersF g s (past s q+1) d (acc++ [m.pair])else if s[past s q]? =some 125 then .ok (objV (sortO (acc++ [m.pair]))) (past s q+1)else .bad 4 (past s q))):=by
 obtain⟨g1,g2,hv,hr⟩:=hm
 unfold Mem.text at h
 rw[List.append_assoc,List.append_assoc,List.append_assoc]at h
 have h1:=drop_app h
 have l1:=drop_len h hp
 have h2:=drop_app h1
 have l2:=drop_len h1 l1
 have h3:=drop_app h2
 have l3:=drop_len h2 l2
 have h4:s.drop (p+m.pre.length+(quoteB m.key).length+m.mid.length+1)=m.txt++x:=drop_app (a:= [58]) h3
 have c34:s[p+m.pre.length]? =some 34:=get_drop (x:=quoteRunes (runes m.key)++ [34]++(m.mid++([58]++m.txt++x))) (by rw[h1];rfl)
 have c58:=get_drop h3
 have lt58:=get_lt c58
 have e1:past s p=p+m.pre.length:=by rw[past_blanks g1 h,past_stop c34 (by decide)]
 have e2:=unq_quote hv h1
 have e3:past s (p+m.pre.length+(quoteB m.key).length)=p+m.pre.length+(quoteB m.key).length+m.mid.length:=by rw[past_blanks g2 h2,past_stop c58 (by decide)]
 have hql:2≤(quoteB m.key).length:=by rw[quoteB_cons];simp
 obtain⟨f,rfl⟩: ∃f',f=f'+2:=⟨f - 2,by omega⟩
 constructor
 · intro hk
   conv=>lhs;unfold membersF
   rw[e1,e2]
   simp only
   rw[ba_back,if_pos hk]
 · intro hk
   obtain⟨q,h5,h6⟩:=hr f s _ x (by omega) h4 hx (by omega)
   refine⟨f,q,rfl, ?_, ?_⟩
   · rw[h6]
     unfold Mem.text
     simp only[List.length_append,List.length_cons]
     congr 1;omega
   · conv=>lhs;unfold membersF
     rw[e1,e2]
     simp only
     rw[ba_back,if_neg (by rw[hk];decide),e3,c58,if_pos rfl]
     conv=>lhs;unfold memberF
     rw[h5]
     rfl
theorem members_read {d:Int}: ∀(l:List Mem),l≠ []→(∀m ∈ l,m.good (d+1))→ ∀(f:Nat) (s x:List UInt8) (p:Nat) (acc:List (ByteArray×Val)),((acc++l.map Mem.pair).map (·.1)).Nodup→p≤s.length→s.drop p=joinC (l.map Mem.text)++125::x→4*(s.length - p)+2≤f→
 membersF f s p d acc= .ok (objV (sortO (acc++l.map Mem.pair))) (p+(joinC (l.map Mem.text)).length+1)
 | [m],_,hl,f,s,x,p,acc,hn,hp,h,hf=>by
   have h':s.drop p=m.text++125::x:=h
   have hk:hasK m.key acc=false:=by
    cases e:hasK m.key acc with
    |false=>rfl
    |true=>
     rw[List.map_append,List.nodup_append]at hn
     exact absurd rfl (hn.2.2 m.key (hasK_iff.1 e) m.key (by simp[Mem.pair]))
   obtain⟨g,q,_,h2,h3⟩:=(member_read (hl m (by simp)) (acc:=acc) hp h' (StopD.of (by decide)) hf).2 hk
   have h4:=get_drop (drop_app h')
   rw[past_stop h4 (by decide)]at h2
   rw[h3,h2,h4,if_neg (by decide),if_pos rfl]
   rfl
 |m::z::r,_,hl,f,s,x,p,acc,hn,hp,h,hf=>by
  have h':s.drop p=m.text++44::(joinC ((z::r).map Mem.text)++125::x):=by
   rw[h]
   simp only[List.map_cons,joinC,List.append_assoc,List.cons_append]
  have hk:hasK m.key acc=false:=by
   cases e:hasK m.key acc with
   |false=>rfl
   |true=>
    rw[List.map_append,List.nodup_append]at hn
    exact absurd rfl (hn.2.2 m.key (hasK_iff.1 e) m.key (by simp[Mem.pair]))
  obtain⟨g,q,hg,h2,h3⟩:=(member_read (hl m (by simp)) (acc:=acc) hp h' (StopD.of (by decide)) hf).2 hk
  have h4:=get_drop (drop_app h')
  have h6:=get_lt h4
  rw[past_stop h4 (by decide)]at h2
  have h5:s.drop (p+m.text.length+1)=joinC ((z::r).map Mem.text)++125::x:=drop_app (a:= [44]) (drop_app h')
  rw[h3,h2,h4,if_pos rfl,members_read (z::r) (by simp) (fun w hw=>hl w (by simp[hw])) g s x _ (acc++ [m.pair]) (by simpa using hn) (by omega) h5 (by omega)]
  congr 1
  · simp
  · simp only[List.map_cons,joinC,List.length_append,List.length_cons];omega
theorem members_past {f:Nat} {s:List UInt8} {p:Nat} {d:Int} {acc:List (ByteArray×Val)}:membersF f s (past s p) d acc=membersF f s p d acc:=by
 cases f with
 |zero=>unfold membersF;rw[past_past]
 |succ f=>unfold membersF;rw[past_past]
theorem obj_step {d:Int} (hd:d≤64) {f:Nat} {s:List UInt8} {p:Nat} (hc:s[p]? =some 123) (hn: ¬(s[past s (p+1)]? =some 125)):valueF (f+2) s p d=membersF f s (p+1) d []:=by
 rw[valueF_step hc (by decide) hd (by decide),if_neg (by decide),if_pos rfl]
 unfold objF
 rw[if_neg hn,members_past]
theorem mem_first {d:Int} {m:Mem} (hm:m.good d) {s x:List UInt8} {p:Nat} (h:s.drop p=m.text++x):s[past s p]? =some 34:=by
 unfold Mem.text at h
 rw[List.append_assoc,List.append_assoc]at h
 have h1:=drop_app h
 have c34:s[p+m.pre.length]? =some 34:=get_drop (x:=quoteRunes (runes m.key)++ [34]++(m.mid++58::m.txt++x)) (by rw[h1];rfl)
 rw[past_blanks hm.1 h,past_stop c34 (by decide),c34]
theorem read_obj {d:Int} (hd:d≤64) {l:List Mem} (hl: ∀m ∈ l,m.good (d+1)) (hn:((l.map Mem.pair).map (·.1)).Nodup) {g:List UInt8} (hg:Blanks g) (hne:l≠ []→g= []):
 ReadsV (123::(g++joinC (l.map Mem.text)++ [125])) (objV (sortO (l.map Mem.pair))) d:=by
 intro f s p x hp hs hx hf
 have hc:s[p]? =some 123:=get_drop hs
 have hlt:=get_lt hc
 obtain⟨f,rfl⟩: ∃f',f=f'+2:=⟨f - 2,by omega⟩
 have h1:s.drop (p+1)=g++(joinC (l.map Mem.text)++125::x):=by
  refine drop_app (a:= [123]) ?_
  rw[hs];simp
 cases l with
 |nil=>
  have h2:=drop_app h1
  have h3:s[p+1+g.length]? =some 125:=get_drop h2
  rw[valueF_step hc (by decide) hd (by decide),if_neg (by decide),if_pos rfl]
  unfold objF
  rw[past_blanks hg h1,past_stop h3 (by decide),if_pos h3]
  refine⟨_,rfl, ?_⟩
  simp only[List.map_nil,joinC,List.append_nil,List.length_cons,List.length_append,List.length_nil]
  congr 1;omega
 |cons y r=>
  obtain rfl:=hne (by simp)
  rw[List.nil_append]at h1
  have hfirst:s[past s (p+1)]? =some 34:=by
   cases r with
   |nil=>exact mem_first (hl y (by simp)) (x:=125::x) (by rw[h1];rfl)
   |cons w r=>
    refine mem_first (hl y (by simp)) (x:=44::(joinC ((w::r).map Mem.text)++125::x)) ?_
    rw[h1]
    simp only[List.map_cons,joinC,List.append_assoc,List.cons_append]
  rw[obj_step hd hc (by rw[hfirst];decide)]
  rw[members_read (y::r) (by simp) hl f s x (p+1) [] (by simpa using hn) (by omega) h1 (by omega)]
  refine⟨_,by rw[List.nil_append], ?_⟩
  simp only[List.nil_append,List.length_cons,List.length_append,List.length_nil]
  congr 1;omega
end Go.Proofs.YtackmnbpfbaemaaGreatDoor

namespace Go.Proofs.YtackmnbpfbaemaaGreatDoor
open Go.RowKit
theorem mayO_rise: ∀{l:List (ByteArray×Val)} {last:Option ByteArray} {d:Int},mayO l last d=0→ascO l∧ ∀q,last=some q→ ∀m ∈ l,ltB q m.1=true
 | [],_,_,_=>⟨List.Pairwise.nil,fun q _ m hm=>by cases hm⟩
 |(k,v)::r,last,d,h=>by
  simp only[mayO]at h
  by_cases hP:mayP (k,v) last d=0
  · rw[if_pos hP]at h
    obtain⟨h1,h2⟩:=mayO_rise h
    refine⟨List.pairwise_cons.2 ⟨fun m hm=>h2 k rfl m hm,h1⟩,fun q hq m hm=> ?_⟩
    subst hq
    have hqk:ltB q k=true:=by
     simp only[mayP]at hP
     split at hP
     · split at hP
       · cases hP
       · rename_i hle
         unfold leB at hle
         simp only[Bool.or_eq_true,not_or]at hle
         rcases ltB_tri q k with t|t|t
         · exact t
         · subst t;exact absurd (by simp) hle.2
         · exact absurd t hle.1
     · cases hP
    rcases List.mem_cons.1 hm with rfl|hm
    · exact hqk
    · exact ltB_trans hqk (h2 k rfl m hm)
  · rw[if_neg hP]at h;exact absurd h hP
theorem textL_join: ∀(l:List Val),textL l true=joinC (l.map textV)
 | []=>rfl
 | [v]=>by simp[textL,joinC]
 |v::u::r=>by
  have ih:=textL_join (u::r)
  simp only[textL,if_true,List.nil_append,List.map_cons,joinC]at ih ⊢
  rw[←ih]
  simp
theorem textO_join: ∀(l:List (ByteArray×Val)),textO l true=joinC (l.map textP)
 | []=>rfl
 | [v]=>by simp[textO,joinC]
 |v::u::r=>by
  have ih:=textO_join (u::r)
  simp only[textO,if_true,List.nil_append,List.map_cons,joinC]at ih ⊢
  rw[←ih]
  simp
def memOf (m:ByteArray×Val):Mem:=⟨[], [],textV m.2,m.1,m.2⟩
theorem memOf_text (m:ByteArray×Val):(memOf m).text=textP m:=by
 obtain⟨k,v⟩:=m
 simp[memOf,Mem.text,textP]
theorem memOf_pair (l:List (ByteArray×Val)):(l.map memOf).map Mem.pair=l:=by
 rw[List.map_map]
 conv=>rhs;rw[←List.map_id l]
 exact List.map_congr_left fun x _=>rfl
theorem memOf_texts (l:List (ByteArray×Val)):(l.map memOf).map Mem.text=l.map textP:=by
 rw[List.map_map]
 exact List.map_congr_left fun x _=>memOf_text x
theorem sortO_self {l:List (ByteArray×Val)} (h:ascO l):sortO l=l:=by
 unfold sortO
 rw[objAll_sorted (List.Perm.refl l) h];rfl
theorem blanks_nil:Blanks []:=fun c h=>by cases h
theorem read_text: ∀(v:Val) (d:Int),mayV v d=0→inV v→ReadsV (textV v) v d:=by
 refine Val.ind ?_
 intro k b n t l o hl ho d h hi
 obtain⟨h1,hd,hv,h4,h5⟩:=mayV_parts h
 obtain⟨hk,ht,hln,hon⟩:=odd_parts h1
 obtain⟨hb,hn⟩:=odd_bn h1
 simp only[inV]at hi
 have e1:k≠5→l= []:=fun e=>List.eq_nil_of_length_eq_zero (hln.resolve_left e)
 have e2:k≠6→o= []:=fun e=>List.eq_nil_of_length_eq_zero (hon.resolve_left e)
 have e3:k≠4→t=emptyB:=fun e=>ht.resolve_left e
 have e4:k≠2→b=false:=fun e=>hb.resolve_left e
 have e5:k≠3→n=0:=fun e=>hn.resolve_left e
 rcases hk with rfl|rfl|rfl|rfl|rfl|rfl
 · rw[e1 (by decide),e2 (by decide),e3 (by decide),e4 (by decide),e5 (by decide)]
   have e:textV (.mk 1 false 0 emptyB [] [])= [110,117,108,108]:=by simp[textV]
   rw[e]
   exact read_null hd
 · rw[e1 (by decide),e2 (by decide),e3 (by decide),e5 (by decide)]
   cases b
   · exact read_false hd
   · exact read_true hd
 · rw[e1 (by decide),e2 (by decide),e3 (by decide),e4 (by decide)]
   have e:textV (.mk 3 false n emptyB [] [])=Lib.itoa n:=by simp[textV]
   rw[e]
   exact read_int hi.1 hd
 · rw[e1 (by decide),e2 (by decide),e4 (by decide),e5 (by decide)]
   have e:textV (.mk 4 false 0 t [] [])=quoteB t:=by simp[textV]
   rw[e]
   exact read_txt hv hd
 · rw[e2 (by decide),e3 (by decide),e4 (by decide),e5 (by decide)]
   have e:textV (.mk 5 false 0 emptyB l [])=91::([]++joinC ((l.map fun v=>(textV v,v)).map (·.1))++ [93]):=by
    simp only[textV,textL_join,List.map_map,List.nil_append]
    rfl
   rw[e]
   have key:=read_list hd (l:=l.map fun v=>(textV v,v)) (fun y hy=>by
    obtain⟨v,hv,rfl⟩:=List.mem_map.1 hy
    exact hl v hv (d+1) (mayL_all h4 v hv) (inL_mem hi.2.1 hv)) blanks_nil (fun _=>rfl)
   have e6:(l.map fun v=>(textV v,v)).map (·.2)=l:=by
    rw[List.map_map]
    conv=>rhs;rw[←List.map_id l]
    exact List.map_congr_left fun x _=>rfl
   rw[e6]at key
   exact key
 · rw[e1 (by decide),e3 (by decide),e4 (by decide),e5 (by decide)]
   have hr:=(mayO_rise h5).1
   have e:textV (.mk 6 false 0 emptyB [] o)=123::([]++joinC ((o.map memOf).map Mem.text)++ [125]):=by
    rw[memOf_texts,←textO_join]
    simp[textV]
   rw[e]
   have key:=read_obj hd (l:=o.map memOf) (fun m hm=>by
    obtain⟨x,hx,rfl⟩:=List.mem_map.1 hm
    obtain⟨k1,k2⟩:=mayO_all h5 x hx
    exact⟨blanks_nil,blanks_nil,k1,ho x hx (d+1) k2 (inO_mem hi.2.2 hx)⟩) (by rw[memOf_pair];exact asc_keys hr) blanks_nil (fun _=>rfl)
   rw[memOf_pair,sortO_self hr]at key
   exact key
theorem parse_reads {t:List UInt8} {v:Val} (h:ReadsV t v 1):parseL t= .ok v t.length:=by
 obtain⟨q,h1,h2⟩:=h (4*t.length+4) t 0 [] (Nat.zero_le _) (by simp) StopD.nil (by omega)
 unfold parseL
 rw[h1]
 simp only
 rw[h2,Nat.zero_add,past_end (Nat.le_refl _),if_neg (by omega)]
theorem parse_text {v:Val} (h:mayV v 1=0) (hi:inV v):parseL (textV v)= .ok v (textV v).length:=parse_reads (read_text v 1 h hi)
end Go.Proofs.YtackmnbpfbaemaaGreatDoor

namespace Go.Proofs.YtackmnbpfbaemaaGreatDoor
def kindV:Val→Int
 | .mk k _ _ _ _ _=>k
def intV':Val→Int
 | .mk _ _ n _ _ _=>n
def objV':Val→List (ByteArray×Val)
 | .mk _ _ _ _ _ o=>o
def txtV':Val→ByteArray
 | .mk _ _ _ t _ _=>t
def lstV':Val→List Val
 | .mk _ _ _ _ l _=>l
theorem iv_of {v:Val} {d:Int} (h:mayV v d=0) (hk:kindV v=3):v=iv (intV' v):=by
 obtain⟨k,b,n,t,l,o⟩:=v
 have hk':k=3:=hk
 subst hk'
 obtain⟨ho,_⟩:=mayV_parts h
 simp only[oddB]at ho
 simp only[show((3:Int)==1)=false from rfl,show((3:Int)==2)=false from rfl,show((3:Int)==3)=true from rfl,if_true,Bool.false_eq_true,if_false,Bool.or_eq_false_iff,bne_eq_false_iff_eq,Bool.not_eq_false',List.length_eq_zero_iff,List.isEmpty_iff]at ho
 obtain⟨⟨⟨hb,ht⟩,hl⟩,ho⟩:=ho
 subst hb hl ho
 have:t=nil0:=toList_inj (by rw[ht];simp[Lib.toList_data])
 subst this
 rfl
theorem ov_of {v:Val} {d:Int} (h:mayV v d=0) (hk:kindV v=6):v=ov (objV' v):=by
 obtain⟨k,b,n,t,l,o⟩:=v
 have hk':k=6:=hk
 subst hk'
 obtain⟨ho,_⟩:=mayV_parts h
 simp only[oddB]at ho
 simp only[show((6:Int)==1)=false from rfl,show((6:Int)==2)=false from rfl,show((6:Int)==3)=false from rfl,show((6:Int)==4)=false from rfl,show((6:Int)==5)=false from rfl,show((6:Int)==6)=true from rfl,if_true,Bool.false_eq_true,if_false,Bool.or_eq_false_iff,bne_eq_false_iff_eq,Bool.not_eq_false',List.length_eq_zero_iff,List.isEmpty_iff]at ho
 obtain⟨⟨⟨hb,hn⟩,ht⟩,hl⟩:=ho
 subst hb hn hl
 have:t=nil0:=toList_inj (by rw[ht];simp[Lib.toList_data])
 subst this
 rfl
theorem tv_of {v:Val} {d:Int} (h:mayV v d=0) (hk:kindV v=4):v=tv (txtV' v):=by
 obtain⟨k,b,n,t,l,o⟩:=v
 have hk':k=4:=hk
 subst hk'
 obtain⟨ho,_⟩:=mayV_parts h
 simp only[oddB]at ho
 simp only[show((4:Int)==1)=false from rfl,show((4:Int)==2)=false from rfl,show((4:Int)==3)=false from rfl,show((4:Int)==4)=true from rfl,if_true,Bool.false_eq_true,if_false,Bool.or_eq_false_iff,bne_eq_false_iff_eq,List.length_eq_zero_iff]at ho
 obtain⟨⟨⟨hb,hn⟩,hl⟩,ho⟩:=ho
 subst hb hn hl ho
 rfl
theorem lv_of {v:Val} {d:Int} (h:mayV v d=0) (hk:kindV v=5):v=lv (lstV' v):=by
 obtain⟨k,b,n,t,l,o⟩:=v
 have hk':k=5:=hk
 subst hk'
 obtain⟨ho,_⟩:=mayV_parts h
 simp only[oddB]at ho
 simp only[show((5:Int)==1)=false from rfl,show((5:Int)==2)=false from rfl,show((5:Int)==3)=false from rfl,show((5:Int)==4)=false from rfl,show((5:Int)==5)=true from rfl,if_true,Bool.false_eq_true,if_false,Bool.or_eq_false_iff,bne_eq_false_iff_eq,Bool.not_eq_false',List.length_eq_zero_iff,List.isEmpty_iff]at ho
 obtain⟨⟨⟨hb,hn⟩,ht⟩,ho⟩:=ho
 subst hb hn ho
 have:t=nil0:=toList_inj (by rw[ht];simp[Lib.toList_data])
 subst this
 rfl
end Go.Proofs.YtackmnbpfbaemaaGreatDoor

namespace Go.Proofs.YtackmnbpfbaemaaGreatDoor
abbrev noV:Val:= .mk 0 false 0 nil0 [] []
abbrev noOp:POp:=⟨0,nil0,noV⟩
def readOp (v:Val):Int×POp:=
 if kindV v≠6 then(9,noOp)else
 match findO kOp (objV' v)with
 |none=>(10,noOp)
 |some nm=>
  if kindV nm≠4 then(9,noOp)
  else if txtV' nm=sClear then(if(objV' v).length=1 then(0,⟨3,nil0,noV⟩)else(10,noOp))
  else if txtV' nm=sPut then
   (match objV' v with
   | [(a,x),(b,_),(c,y)]=>if a=kKey∧b=kOp∧c=kVal then(if kindV x=4 then(0,⟨1,txtV' x,y⟩)else(9,noOp))else(10,noOp)
   |_=>(10,noOp))
  else if txtV' nm=sDel then
   (match objV' v with
   | [(a,x),(b,_)]=>if a=kKey∧b=kOp then(if kindV x=4 then(0,⟨2,txtV' x,noV⟩)else(9,noOp))else(10,noOp)
   |_=>(10,noOp))
  else(12,noOp)
theorem readOp_put (key:ByteArray) (v:Val):readOp (objQ ⟨1,key,v⟩)=(0,⟨1,key,v⟩):=by
 unfold objQ
 rw[if_pos rfl]
 kernel_rfl
theorem readOp_del (key:ByteArray) (v:Val):readOp (objQ ⟨2,key,v⟩)=(0,⟨2,key,noV⟩):=by
 unfold objQ
 rw[if_neg (show ¬(2:Int)=1 by omega),if_pos rfl]
 kernel_rfl
theorem readOp_clear (key:ByteArray) (v:Val):readOp (objQ ⟨3,key,v⟩)=(0,⟨3,nil0,noV⟩):=by
 unfold objQ
 rw[if_neg (show ¬(3:Int)=1 by omega),if_neg (show ¬(3:Int)=2 by omega)]
 kernel_rfl
theorem readOp_back {v:Val} {d:Int} {p:POp} (hm:mayV v d=0) (h:readOp v=(0,p)):v=objQ p∧strangeB p=false:=by
 unfold readOp at h
 split at h
 · cases h
 rename_i hk
 have hk6:kindV v=6:=by omega
 have hv:=ov_of hm hk6
 have hall: ∀m ∈ objV' v,mayV m.2 (d+1)=0:=by
  obtain⟨k,b,n,t,l,o⟩:=v
  intro m hmm
  exact(mayO_all (mayV_parts hm).2.2.2.2 m hmm).2
 split at h
 · cases h
 rename_i nm hnm
 split at h
 · cases h
 rename_i hk4
 have hmem:=findO_some hnm
 have hnt:nm=tv (txtV' nm):=tv_of (hall _ hmem) (show kindV nm=4 by omega)
 split at h
 · rename_i e
   split at h
   · rename_i hl
     cases h
     obtain⟨q,hq⟩:=List.length_eq_one_iff.1 hl
     rw[hq]at hmem
     have:=List.mem_singleton.1 hmem
     rw[hv,hq,←this,hnt,e]
     exact⟨by kernel_rfl,by kernel_rfl⟩
   · cases h
 · rename_i ec
   split at h
   · rename_i e
     split at h
     · rename_i a x b z c y hq
       split at h
       · rename_i hn
         obtain⟨rfl,rfl,rfl⟩:=hn
         split at h
         · rename_i hx
           cases h
           have hxt:x=tv (txtV' x):=tv_of (hall (kKey,x) (by rw[hq];simp)) hx
           have hz:z=nm:=by
            rw[hq]at hnm
            exact Option.some.inj hnm
           rw[hv,hq,hz,hnt,e]
           refine⟨?_,rfl⟩
           rw[hxt]
           rfl
         · cases h
       · cases h
     · cases h
   · rename_i ep
     split at h
     · rename_i e
       split at h
       · rename_i a x b z hq
         split at h
         · rename_i hn
           obtain⟨rfl,rfl⟩:=hn
           split at h
           · rename_i hx
             cases h
             have hxt:x=tv (txtV' x):=tv_of (hall (kKey,x) (by rw[hq];simp)) hx
             have hz:z=nm:=by
              rw[hq]at hnm
              exact Option.some.inj hnm
             rw[hv,hq,hz,hnt,e]
             refine⟨?_,by kernel_rfl⟩
             rw[hxt]
             rfl
           · cases h
         · cases h
       · cases h
     · cases h
def readOps:List Val→Int×List POp
 | []=>(0, [])
 |v::r=>if(readOp v).1≠0 then((readOp v).1, [])else if(readOps r).1≠0 then((readOps r).1, [])else(0,(readOp v).2::(readOps r).2)
def opsOf (v:Val):Int×List POp:=
 if mayV v 1≠0 then(mayV v 1, [])else if kindV v≠5 then(9, [])else if(readOps (lstV' v)).1≠0 then((readOps (lstV' v)).1, [])
 else if mayOps none (readOps (lstV' v)).2=0 then(0,(readOps (lstV' v)).2)else(mayOps none (readOps (lstV' v)).2, [])
theorem readOps_back: ∀{l:List Val} {d:Int} {r:List POp},(∀v ∈ l,mayV v d=0)→readOps l=(0,r)→l=r.map objQ
 | [],_,r,_,h=>by
   unfold readOps at h
   cases h
   rfl
 |v::l,d,r,hm,h=>by
  unfold readOps at h
  split at h
  · rename_i h1
    exact absurd (congrArg Prod.fst h) h1
  · rename_i h1
    split at h
    · rename_i h2
      exact absurd (congrArg Prod.fst h) h2
    · rename_i h2
      have e:=congrArg Prod.snd h
      simp only at e
      rw[←e,List.map_cons,←readOps_back (fun x hx=>hm x (List.mem_cons_of_mem _ hx)) (Prod.ext (by simpa using h2) rfl)]
      rw[←(readOp_back (hm v (List.mem_cons_self ..)) (Prod.ext (by simpa using h1) rfl)).1]
theorem readOps_map: ∀{l:List POp},(∀p ∈ l,readOp (objQ p)=(0,p))→readOps (l.map objQ)=(0,l)
 | [],_=>rfl
 |p::l,h=>by
  have h1:=h p (List.mem_cons_self ..)
  have h2:=readOps_map fun q hq=>h q (List.mem_cons_of_mem _ hq)
  rw[List.map_cons]
  unfold readOps
  rw[h1,h2]
  rfl
theorem zeroB_noV {v:Val} (h:zeroB v=true):v=noV:=by
 obtain⟨k,b,n,t,l,o⟩:=v
 have h':zero6B k b n t l.length o.length=true:=h
 unfold zero6B at h'
 simp only[Bool.and_eq_true,decide_eq_true_eq,Bool.not_eq_true',List.length_eq_zero_iff,List.isEmpty_iff]at h'
 obtain⟨⟨⟨⟨⟨rfl,rfl⟩,rfl⟩,ht⟩,rfl⟩,rfl⟩:=h'
 have:t=nil0:=toList_inj (by rw[ht];simp[Lib.toList_data])
 subst this
 rfl
theorem readOp_obj {p:POp} (h:strangeB p=false):readOp (objQ p)=(0,p):=by
 obtain⟨k,key,v⟩:=p
 unfold strangeB at h
 simp only at h
 by_cases h1:k=1
 · subst h1;exact readOp_put key v
 rw[if_neg h1]at h
 by_cases h2:k=2
 · subst h2
   rw[if_pos rfl]at h
   have hz:=zeroB_noV (v:=v) (by simpa using h)
   subst hz
   exact readOp_del key noV
 rw[if_neg h2]at h
 by_cases h3:k=3
 · subst h3
   rw[if_pos rfl]at h
   simp only[Bool.or_eq_false_iff,Bool.not_eq_false',List.isEmpty_iff]at h
   obtain⟨hk,hv⟩:=h
   have hz:=zeroB_noV hv
   have hk2:key=nil0:=toList_inj (by rw[hk];simp[Lib.toList_data])
   subst hz hk2
   exact readOp_clear nil0 noV
 · rw[if_neg h3]at h;cases h
theorem mayOps_plain: ∀{l:List POp} {prev:Option POp},mayOps prev l=0→ ∀p ∈ l,strangeB p=false
 | [],_,_,p,hp=>by cases hp
 |q::l,prev,h,p,hp=>by
  unfold mayOps at h
  split at h
  · cases h
  rename_i h1
  have hs:strangeB q=false:=by
   cases hq:strangeB q with
   |false=>rfl
   |true=>exact absurd (by rw[hq];simp) h1
  rcases List.mem_cons.1 hp with rfl|hp
  · exact hs
  have key:mayOps (some q) l=0→strangeB p=false:=fun hr=>mayOps_plain hr p hp
  split at h
  · exact key h
  · split at h
    · cases h
    · split at h
      · exact key h
      · split at h
        · exact key h
        · rename_i hf
          exact absurd h hf
theorem opsOf_list {l:List POp} (hm:mayOps none l=0) (hv:mayV (listQ l) 1=0):opsOf (listQ l)=(0,l):=by
 have hr:=readOps_map fun p hp=>readOp_obj (mayOps_plain hm p hp)
 unfold opsOf
 rw[if_neg (by rw[hv];omega),if_neg (show ¬kindV (listQ l)≠5 from fun h=>h rfl),show lstV' (listQ l)=l.map objQ from rfl,hr]
 simp only
 rw[if_neg (by omega),if_pos hm]
theorem opsOf_back {v:Val} {r:List POp} (h:opsOf v=(0,r)):mayV v 1=0∧v=listQ r∧mayOps none r=0:=by
 unfold opsOf at h
 split at h
 · rename_i h1
   exact absurd (congrArg Prod.fst h) h1
 rename_i h1
 split at h
 · cases h
 rename_i h2
 split at h
 · rename_i h3
   exact absurd (congrArg Prod.fst h) h3
 rename_i h3
 split at h
 · rename_i h4
   have e:=congrArg Prod.snd h
   simp only at e
   have hm:mayV v 1=0:=by omega
   have hall: ∀x ∈ lstV' v,mayV x 2=0:=by
    obtain⟨k,b,n,t,l,o⟩:=v
    exact mayL_all (mayV_parts hm).2.2.2.1
   have hl:=readOps_back hall (Prod.ext (by simpa using h3) rfl)
   refine⟨hm, ?_,by rw[←e];exact h4⟩
   rw[←e]
   unfold listQ
   rw[←hl]
   exact lv_of hm (by omega)
 · rename_i h4
   exact absurd (congrArg Prod.fst h) h4
end Go.Proofs.YtackmnbpfbaemaaGreatDoor

namespace Go.Proofs.YtackmnbpfbaemaaGreatDoor
open Go Go.RowKit
def respNF (X:Nat) (k:ByteArray):Option Value:=
 if k=kBase then some (.pointer (some ⟨X,1,none⟩))else if k=kClient then some (.pointer (some ⟨X,0,none⟩))else if k=kCookie then some (.pointer (some ⟨X,2,none⟩))else if k=kLast then some (.pointer (some ⟨X,3,none⟩))else none
theorem respN_out (X:Nat) {k:ByteArray} (h:k ∉ [kBase,kClient,kCookie,kLast]):respNF X k=none:=by
 simp only[List.mem_cons,List.not_mem_nil,or_false,not_or]at h
 unfold respNF
 simp only[h,if_false]
def respNK:Nat→ByteArray:=fun i=>if i=4 then kBase else if i=8 then kClient else if i=12 then kCookie else kLast
def respNV (X:Nat):Nat→Value:=fun i=>if i=4 then .pointer (some ⟨X,1,none⟩)else if i=8 then .pointer (some ⟨X,0,none⟩)else if i=12 then .pointer (some ⟨X,2,none⟩)else .pointer (some ⟨X,3,none⟩)
set_option maxRecDepth 100000 in
set_option maxHeartbeats 4000000 in
theorem respN_calls (X:Nat) (w:World):Calls Tryz.prog 36 #[.pointer (some ⟨X,0,none⟩)] w fun e w'=> ∃g,e= .returned (.map (some g))∧w.heap.size≤g∧LookIs w' g 4 (respNF X)∧Below w.heap.size w w':=by
 have hmm:=fun W=>run_makeMap (P:=Tryz.prog) 101 W
 go_enter Tryz.func36,Tryz.ntmps36
 go_wp2_with (fail)
 refine wp_region_held_drew (S:=fun _=>True) (by kernel_rfl) trivial (fun hHeld=> ?_)
 refine wpAnyH_take (i:=1) (v:= ?_) rfl (by kernel_rfl) (by kernel_rfl) (by kernel_rfl) (fun _ _ _ h=>h) (Or.inl ⟨by kernel_rfl, ?_⟩) hHeld ?_
 rotate_left
 · intro X hSw
   first|(go_simp;done)|(go_simp;with_reducible rfl)
 try simp only[Act.put,List.getElem_toArray,List.getElem_cons_succ,List.getElem_cons_zero,List.setIfInBounds_toArray,List.set_cons_zero,List.set_cons_succ]
 refine wpAnyH_take (i:=2) (v:= ?_) rfl (by kernel_rfl) (by kernel_rfl) (by kernel_rfl) (fun _ _ _ h=>h) (Or.inl ⟨by kernel_rfl, ?_⟩) hHeld ?_
 rotate_left
 · intro X hSw
   first|(go_simp;done)|(go_simp;with_reducible rfl)
 try simp only[Act.put,List.getElem_toArray,List.getElem_cons_succ,List.getElem_cons_zero,List.setIfInBounds_toArray,List.set_cons_zero,List.set_cons_succ]
 refine wpAnyH_take (i:=3) (v:= ?_) rfl (by kernel_rfl) (by kernel_rfl) (by kernel_rfl) (fun _ _ _ h=>h) (Or.inl ⟨by kernel_rfl, ?_⟩) hHeld ?_
 rotate_left
 · intro X hSw
   first|(go_simp;done)|(go_simp;with_reducible rfl)
 try simp only[Act.put,List.getElem_toArray,List.getElem_cons_succ,List.getElem_cons_zero,List.setIfInBounds_toArray,List.set_cons_zero,List.set_cons_succ]
 refine wpAnyH_take (i:=5) (v:= ?_) rfl (by kernel_rfl) (by kernel_rfl) (by kernel_rfl) (fun _ _ _ h=>h) (Or.inl ⟨by kernel_rfl, ?_⟩) hHeld ?_
 rotate_left
 · intro X hSw
   first|(go_simp;done)|(go_simp;with_reducible rfl)
 try simp only[Act.put,List.getElem_toArray,List.getElem_cons_succ,List.getElem_cons_zero,List.setIfInBounds_toArray,List.set_cons_zero,List.set_cons_succ]
 refine wpAnyH_take (i:=6) (v:= ?_) rfl (by kernel_rfl) (by kernel_rfl) (by kernel_rfl) (fun _ _ _ h=>h) (Or.inl ⟨by kernel_rfl, ?_⟩) hHeld ?_
 rotate_left
 · intro X hSw
   first|(go_simp;done)|(go_simp;with_reducible rfl)
 try simp only[Act.put,List.getElem_toArray,List.getElem_cons_succ,List.getElem_cons_zero,List.setIfInBounds_toArray,List.set_cons_zero,List.set_cons_succ]
 refine wpAnyH_take (i:=7) (v:= ?_) rfl (by kernel_rfl) (by kernel_rfl) (by kernel_rfl) (fun _ _ _ h=>h) (Or.inl ⟨by kernel_rfl, ?_⟩) hHeld ?_
 rotate_left
 · intro X hSw
   first|(go_simp;done)|(go_simp;with_reducible rfl)
 try simp only[Act.put,List.getElem_toArray,List.getElem_cons_succ,List.getElem_cons_zero,List.setIfInBounds_toArray,List.set_cons_zero,List.set_cons_succ]
 refine wpAnyH_take (i:=9) (v:= ?_) rfl (by kernel_rfl) (by kernel_rfl) (by kernel_rfl) (fun _ _ _ h=>h) (Or.inl ⟨by kernel_rfl, ?_⟩) hHeld ?_
 rotate_left
 · intro X hSw
   first|(go_simp;done)|(go_simp;with_reducible rfl)
 try simp only[Act.put,List.getElem_toArray,List.getElem_cons_succ,List.getElem_cons_zero,List.setIfInBounds_toArray,List.set_cons_zero,List.set_cons_succ]
 refine wpAnyH_take (i:=10) (v:= ?_) rfl (by kernel_rfl) (by kernel_rfl) (by kernel_rfl) (fun _ _ _ h=>h) (Or.inl ⟨by kernel_rfl, ?_⟩) hHeld ?_
 rotate_left
 · intro X hSw
   first|(go_simp;done)|(go_simp;with_reducible rfl)
 try simp only[Act.put,List.getElem_toArray,List.getElem_cons_succ,List.getElem_cons_zero,List.setIfInBounds_toArray,List.set_cons_zero,List.set_cons_succ]
 refine wpAnyH_take (i:=11) (v:= ?_) rfl (by kernel_rfl) (by kernel_rfl) (by kernel_rfl) (fun _ _ _ h=>h) (Or.inl ⟨by kernel_rfl, ?_⟩) hHeld ?_
 rotate_left
 · intro X hSw
   first|(go_simp;done)|(go_simp;with_reducible rfl)
 try simp only[Act.put,List.getElem_toArray,List.getElem_cons_succ,List.getElem_cons_zero,List.setIfInBounds_toArray,List.set_cons_zero,List.set_cons_succ]
 refine wpAnyH_take (i:=13) (v:= ?_) rfl (by kernel_rfl) (by kernel_rfl) (by kernel_rfl) (fun _ _ _ h=>h) (Or.inl ⟨by kernel_rfl, ?_⟩) hHeld ?_
 rotate_left
 · intro X hSw
   first|(go_simp;done)|(go_simp;with_reducible rfl)
 try simp only[Act.put,List.getElem_toArray,List.getElem_cons_succ,List.getElem_cons_zero,List.setIfInBounds_toArray,List.set_cons_zero,List.set_cons_succ]
 refine wpAnyH_take (i:=14) (v:= ?_) rfl (by kernel_rfl) (by kernel_rfl) (by kernel_rfl) (fun _ _ _ h=>h) (Or.inl ⟨by kernel_rfl, ?_⟩) hHeld ?_
 rotate_left
 · intro X hSw
   first|(go_simp;done)|(go_simp;with_reducible rfl)
 try simp only[Act.put,List.getElem_toArray,List.getElem_cons_succ,List.getElem_cons_zero,List.setIfInBounds_toArray,List.set_cons_zero,List.set_cons_succ]
 refine wpAnyH_take (i:=15) (v:= ?_) rfl (by kernel_rfl) (by kernel_rfl) (by kernel_rfl) (fun _ _ _ h=>h) (Or.inl ⟨by kernel_rfl, ?_⟩) hHeld ?_
 rotate_left
 · intro X hSw
   first|(go_simp;done)|(go_simp;with_reducible rfl)
 try simp only[Act.put,List.getElem_toArray,List.getElem_cons_succ,List.getElem_cons_zero,List.setIfInBounds_toArray,List.set_cons_zero,List.set_cons_succ]
 refine wpAnyH_ready (rs:= [0]) (by kernel_rfl) (by simp) ?_
 refine AllReadyH.cons rfl (fun K hK=> ?_) AllReadyH.nil
 go_simp
 refine hK.out _ _ trivial (fun hHeld=> ?_)
 clear hK K hmm
 try simp only[Act.put,List.setIfInBounds_toArray,List.set_cons_zero,List.set_cons_succ]
 have hB0:Below w.heap.size w (w.alloc (.map #[] 0)).drew:=Below.drew ((Below.refl _ _).alloc (Nat.le_refl _) _)
 have hL0:LookIs (w.alloc (.map #[] 0)).drew w.heap.size 0 fun _=>none:=(LookIs.new w).keep rfl
 generalize (w.alloc (.map #[] 0)).drew=W0 at hB0 hL0 ⊢
 change wpAnyH _ _ _ _ _ (2+4) #[true,true,true,true,false,true,true,true,false,true,true,true,false,true,true,true,false,false,false] _ _
 refine inserts_any (E:= #[true,true,true,true,true,true,true,true,true,true,true,true,true,true,true,true,true,false,false]) (w0:=w) (fuel:=2) mkey_str Tryz.underlying101 respNK (respNV X) [4,8,12,16] (Nat.le_refl _) ?_ (by decide+kernel) (respNF X) 4 ?_ 4 [4,8,12,16] _ _ 0 W0 (fun _ h=>h) (by decide) ?_ rfl hL0 (fun _ _=>rfl) ?_ ?_ hB0
 · intro i hi
   simp only[List.mem_cons,List.not_mem_nil,or_false]at hi
   rcases hi with rfl|rfl|rfl|rfl
   all_goals exact⟨_,_,_,_,rfl,fun _=>rfl,rfl,rfl,rfl,rfl,rfl⟩
 · intro W hL hB
   have HL:=Lib.hid hL
   have HB:=Lib.hid hB
   clear hL hB
   refine wpAnyH_take (i:=17) (v:= ?_) rfl (by kernel_rfl) (by kernel_rfl) (by kernel_rfl) (fun _ _ _ h=>h) (Or.inl ⟨by kernel_rfl, ?_⟩) hHeld ?_
   rotate_left
   · intro X hSw
     first|(go_simp;done)|(go_simp;with_reducible rfl)
   try simp only[Act.put,List.getElem_toArray,List.getElem_cons_succ,List.getElem_cons_zero,List.setIfInBounds_toArray,List.set_cons_zero,List.set_cons_succ]
   refine wpAnyH_take (i:=18) (v:= ?_) rfl (by kernel_rfl) (by kernel_rfl) (by kernel_rfl) (fun _ _ _ h=>h) (Or.inl ⟨by kernel_rfl, ?_⟩) hHeld ?_
   rotate_left
   · intro X hSw
     first|(go_simp;done)|(go_simp;with_reducible rfl)
   try simp only[Act.put,List.getElem_toArray,List.getElem_cons_succ,List.getElem_cons_zero,List.setIfInBounds_toArray,List.set_cons_zero,List.set_cons_succ]
   refine wpAnyH_done (by kernel_rfl) ?_ _
   clear hHeld
   go_wp2
   go_ret
   exact⟨_,rfl,Nat.le_refl _,HL.out,HB.out⟩
 · kernel_rfl
 · intro i hi
   simp only[List.mem_cons,List.not_mem_nil,or_false]at hi
   rcases hi with rfl|rfl|rfl|rfl
   all_goals kernel_rfl
 · intro k hk
   refine(respN_out X ?_).symm
   simp only[List.mem_cons,List.not_mem_nil,or_false,not_or]
   exact⟨hk 4 (by simp),hk 8 (by simp),hk 12 (by simp),hk 16 (by simp)⟩
end Go.Proofs.YtackmnbpfbaemaaGreatDoor
