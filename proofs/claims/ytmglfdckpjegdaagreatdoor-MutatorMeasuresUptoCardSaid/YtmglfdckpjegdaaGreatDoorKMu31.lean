/- Parts: What the pulls' rows' listed errors give the walks. No condition. -/
import Derived.Test.YtmglfdckpjegdaaGreatDoorKMu28
import Derived.Test.YtmglfdckpjegdaaGreatDoorKMu29
namespace Go.Proofs.YtmglfdckpjegdaaGreatDoor
theorem Ac6:N4 Ai An=true:=by decide+kernel
theorem Ai7:N4 Ar Fb=true:=by decide+kernel
theorem Aly:N4 Od Ar=true:=by decide+kernel
theorem Ai6:N4 Dn Nj=true:=by decide+kernel
theorem Aoe:N4 Gu Me=true:=by decide+kernel
theorem Yy:N4 Ar C4=true:=by decide+kernel
theorem Alz:N4 Ln Ar=true:=by decide+kernel
theorem Aad {a b:ByteArray} (h:N4 a b=true):Xb [a,b]:=by
 simp only[Xb,List.pairwise_cons,List.mem_cons,List.not_mem_nil,or_false,forall_eq,List.Pairwise.nil,and_true,false_imp_iff,implies_true];exact h
theorem Aic {a b c:ByteArray} (h:N4 a b=true) (k:N4 b c=true):Xb [a,b,c]:=by
 refine List.pairwise_cons.2 ⟨fun x hx=> ?_,Aad k⟩;rcases List.mem_cons.1 hx with rfl|hx
 . exact h
 . rw[List.mem_singleton.1 hx];exact Kh h k
theorem Uq {a b:ByteArray} {o:List (ByteArray×Val)} (hl:N4 a b=true) (ha:J5 o) (h:Ji [a,b] [] o=true):o= [(a,At a o),(b,At b o)]:=by
 obtain⟨h1,h2⟩:=Lz.1 h;have:=Ru ha (Aad hl) (fun p hp=>by simpa using h1 p hp);have e1:=De.2 (h2 a (by simp));have e2:=De.2 (h2 b (by simp));simpa[Wb,e1,e2]using this
theorem Aoo {a:ByteArray} {o:List (ByteArray×Val)} (ha:J5 o) (h:Ji [a] [] o=true):o= [(a,At a o)]:=by
 obtain⟨h1,h2⟩:=Lz.1 h;have:=Ru (names:= [a]) ha (by simp[Xb]) (fun p hp=>by simpa using h1 p hp);have e1:=De.2 (h2 a (by simp));simpa[Wb,e1]using this
theorem Ahu {a b:ByteArray} {o:List (ByteArray×Val)} (hl:N4 a b=true) (ha:J5 o) (h:Ji [a] [b] o=true):o=(a,At a o)::(if(As b o).isSome then [(b,At b o)]else []):=by
 obtain⟨h1,h2⟩:=Lz.1 h;have:=Ru ha (Aad hl) (fun p hp=>by simpa using h1 p hp);have e1:=De.2 (h2 a (by simp))
 cases hb:(As b o).isSome<;>simpa[Wb,e1,hb]using this
theorem Aon {a b c:ByteArray} {o:List (ByteArray×Val)} (hl:N4 a b=true) (hk:N4 b c=true) (ha:J5 o) (h:Ji [b] [a,c] o=true):
 o=(if(As a o).isSome then [(a,At a o)]else [])++(b,At b o)::(if(As c o).isSome then [(c,At c o)]else []):=by
 obtain⟨h1,h2⟩:=Lz.1 h;have:=Ru ha (Aic hl hk) (fun p hp=>by
  have:=h1 p hp;simp only[List.mem_cons,List.not_mem_nil,or_false,List.cons_append,List.nil_append]at this ⊢;rcases this with e|e|e
  . exact .inr (.inl e)
  . exact .inl e
  . exact .inr (.inr e))
 have e1:=De.2 (h2 b (by simp))
 cases hc:(As a o).isSome<;>cases hd:(As c o).isSome<;>simpa[Wb,e1,hc,hd]using this
theorem Ac2 {s:ByteArray} {k:Int} (h:Jq s=some k):1<=k/\k<=7/\s=B9 k:=by
 unfold Jq at h
 repeat' split at h
 all_goals first
  |(rename_i e;cases h;exact⟨by omega,by omega,by rw[e];rfl⟩)
  |cases h
theorem Ui {k:ByteArray} {o:List (ByteArray×Val)} {d:Int} (h: ∀m ∈ o,Az m.2 d=0) (hf:(As k o).isSome=true):Az (At k o) d=0:=by
 unfold At
 cases e:As k o with
 |none=>rw[e]at hf;cases hf
 |some v=>exact h _ (E0 e)
theorem U8 {f:Val->Int×Mut} {d:Int} (hf: ∀x m,Az x d=0->f x=(0,m)->x=Bb m): ∀{l:List Val} {r:List Mut},(∀x ∈ l,Az x d=0)->A6 f l=(0,r)->l=Be r
 | [],r,_,h=>by
   unfold A6 at h
   cases h
   rfl
 |v::l,r,hm,h=>by
  unfold A6 at h
  split at h
  . rename_i h1;exact absurd (congrArg Prod.fst h) h1
  . rename_i h1
    split at h
    . rename_i h2;exact absurd (congrArg Prod.fst h) h2
    . rename_i h2;have e:=congrArg Prod.snd h;simp only at e;have e1:=hf v _ (hm v (List.mem_cons_self ..)) (Prod.ext (by simpa using h1) rfl);have e2:=U8 hf (fun x hx=>hm x (List.mem_cons_of_mem _ hx)) (r:=(A6 f l).2) (Prod.ext (by simpa using h2) rfl);rw[<-e];simp only[Be];rw[<-e1,<-e2]
theorem Y8 (L:List Mut):Bb (.mk 7 Cp Cp 0 false Jj false Jj L)=ov [(Ai,ov [(Gu,lv (Be L))]),(An,tv (B9 7))]:=by
 have e0:Cp.toList.isEmpty=true:=by simp[Lib.toList_data]
 simp only[Bb];rw[e0];rfl
theorem Adm {key:ByteArray} {had:Bool} {was:Val} (L:List Mut) (h:key.toList.isEmpty=false):Bb (.mk 7 key Cp 0 had was false Jj L)=ov [(Ai,ov [(Gu,lv (Be L)),(Me,ov (Bf key had was))]),(An,tv (B9 7))]:=by
 simp only[Bb];rw[h];rfl
theorem Y7 (a b:ByteArray):Bb (.mk 6 a b 0 false Jj false Jj [])=ov [(Ai,ov [(Dn,tv a),(Nj,tv b)]),(An,tv (B9 6))]:=by
 simp only[Bb];rfl
theorem Adl (a:ByteArray) (n:Int):Bb (.mk 3 a Cp n false Jj false Jj [])=ov [(Ai,ov [(Od,iv n),(Ar,tv a)]),(An,tv (B9 3))]:=by
 simp only[Bb];rfl
theorem Adk (a:ByteArray):Bb (.mk 2 a Cp 0 false Jj false Jj [])=ov [(Ai,ov [(Ar,tv a)]),(An,tv (B9 2))]:=by
 simp only[Bb];rfl
theorem Adj (a:ByteArray) (had:Bool) (was:Val) (has:Bool) (v:Val):Bb (.mk 4 a Cp 0 had was has v [])=ov [(Ai,ov ((if has then [(Ln,v)]else [])++Bf a had was)),(An,tv (B9 4))]:=by
 simp only[Bb];rfl
theorem Acs {g:Val} {l:List Mut} {m:Mut} {d:Int} (hm:Az g d=0) (h:Jp g l=(0,m)): ∃key had was,m=.mk 7 key Cp 0 had was false Jj l/\key.toList.isEmpty=false/\g=ov (Bf key had was):=by
 unfold Jp at h
 split at h
 . cases h
 rename_i hk
 split at h
 . cases h
 rename_i hf
 split at h
 . cases h
 rename_i h4
 split at h
 . cases h
 rename_i h8;have ha:J5 (Bu g):=by
  obtain⟨k,b,n,t,l,o⟩:=g;exact(Nb (Bv hm).2.2.2.2).1
 have hall:=Aa4 hm;have hfit:Ji [Ar] [C4] (Bu g)=true:=by simpa using hf
 have ho:=Ahu Yy ha hfit;have hkey:At Ar (Bu g)=tv (Ep (At Ar (Bu g))):=Aeh (Ui hall (De.2 ((Lz.1 hfit).2 Ar (by simp)))) (by omega);refine⟨_,_,_,(congrArg Prod.snd h).symm,by simpa using h8, ?_⟩;have hg:=Amk hm (by omega);unfold Bf;rw[<-hkey];exact hg.trans (congrArg ov ho)
theorem Ae4 {f:Val->Int×Mut} {d:Int} (hf: ∀x m,Az x (d+1)=0->f x=(0,m)->x=Bb m) {k:Int} {o:List (ByteArray×Val)} {m:Mut} (h1:1<=k) (h7:k<=7) (ha:J5 o) (hall: ∀p ∈ o,Az p.2 d=0)
 (hfit:Ji (Ip k) (Ac7 k) o=true) (h:Bt f k o=(0,m)):Bb m=ov [(Ai,ov o),(An,tv (B9 k))]:=by
 have hin:=(Lz.1 hfit).2;have hat: ∀x ∈ Ip k,Az (At x o) d=0:=fun x hx=>Ui hall (De.2 (hin x hx));unfold Bt at h;by_cases e7:k=7
 . subst e7;rw[if_pos rfl]at h;have ho:=Ahu (a:=Gu) (b:=Me) Aoe ha hfit;have hdo:=hat Gu (by simp[Ip])
   split at h
   . cases h
   rename_i h5
   split at h
   . rename_i he;exact absurd (congrArg Prod.fst h) he
   rename_i he;have hl:=Aqq hdo (by omega);have hmem: ∀x ∈ Im (At Gu o),Az x (d+1)=0:=by
    revert hdo
    generalize At Gu o=D;intro hdo;obtain⟨k',b,n,t,l,o'⟩:=D;exact Ha (Bv hdo).2.2.2.1
   have hM:=U8 (d:=d+1) hf (r:=(A6 f (Im (At Gu o))).2) hmem (Prod.ext (by simpa using he) rfl);generalize (A6 f (Im (At Gu o))).2=L at h hM;rw[hM]at hl
   cases hg:As Me o with
   |none=>
    rw[hg]at h ho;have em:=(congrArg Prod.snd h).symm;simp only at em;rw[em,Y8,<-hl];exact congrArg (fun z=>ov [(Ai,ov z),(An,tv (B9 7))]) ho.symm
   |some g=>
    rw[hg]at h ho;obtain⟨key,had,was,em,hne,eg⟩:=Acs (hall _ (E0 hg)) h;have eat:At Me o=g:=by unfold At;rw[hg];rfl
    rw[em,Adm _ hne,<-hl,<-show g=_ from eg,<-eat];exact congrArg (fun z=>ov [(Ai,ov z),(An,tv (B9 7))]) ho.symm
 rw[if_neg e7]at h;by_cases e6:k=6
 . subst e6;rw[if_pos rfl]at h;have ho:=Uq (a:=Dn) (b:=Nj) Ai6 ha hfit
   split at h
   . cases h
   rename_i hc;have f1:=Aeh (hat Dn (by simp[Ip])) (by omega);have f2:=Aeh (hat Nj (by simp[Ip])) (by omega);have em:=(congrArg Prod.snd h).symm;simp only at em;rw[em,Y7,<-f1,<-f2];exact congrArg (fun z=>ov [(Ai,ov z),(An,tv (B9 6))]) ho.symm
 rw[if_neg e6]at h
 split at h
 . cases h
 rename_i h3
 split at h
 . cases h
 rename_i h4;have hkm:Ar ∈ Ip k:=by
  rcases(show k=1\/k=2\/k=3\/k=4\/k=5 by omega)with rfl|rfl|rfl|rfl|rfl<;>simp[Ip]
 have hkey:=Aeh (hat Ar hkm) (by omega);by_cases e3:k=3
 . subst e3;rw[if_pos rfl]at h;have ho:=Uq (a:=Od) (b:=Ar) Aly ha hfit;have f1:=Aqo (hat Od (by simp[Ip])) (by omega);have em:=(congrArg Prod.snd h).symm;simp only at em;rw[em,Adl,<-f1,<-hkey];exact congrArg (fun z=>ov [(Ai,ov z),(An,tv (B9 3))]) ho.symm
 rw[if_neg e3]at h;by_cases e4:k=4
 . subst e4;rw[if_pos rfl]at h;have ho:=Aon (a:=Ln) (b:=Ar) (c:=C4) Alz Yy ha hfit;have em:=(congrArg Prod.snd h).symm;simp only at em;rw[em,Adj];unfold Bf;rw[<-hkey];exact congrArg (fun z=>ov [(Ai,ov z),(An,tv (B9 4))]) ho.symm
 rw[if_neg e4]at h;by_cases e2:k=2
 . subst e2;rw[if_pos rfl]at h;have ho:=Aoo (a:=Ar) ha hfit;have em:=(congrArg Prod.snd h).symm;simp only at em;rw[em,Adk,<-hkey];exact congrArg (fun z=>ov [(Ai,ov z),(An,tv (B9 2))]) ho.symm
 rw[if_neg e2]at h;have e15:k=1\/k=5:=by omega
 have em:=(congrArg Prod.snd h).symm;simp only at em;have ho:o= [(Ar,At Ar o),(Fb,At Fb o)]:=Uq Ai7 ha (by
  rcases e15 with rfl|rfl<;>exact hfit)
 rw[em];simp only[Bb];rw[if_pos e15,<-hkey];exact congrArg (fun z=>ov [(Ai,ov z),(An,tv (B9 k))]) ho.symm
theorem Wc: ∀(f:Nat) {v:Val} {d:Int} {m:Mut},Az v d=0->Cn f v=(0,m)->v=Bb m
 |0,v,d,m,_,h=>by
  unfold Cn at h
  cases h
 |f+1,v,d,m,hm,h=>by
  unfold Cn at h
  split at h
  . cases h
  rename_i hk
  split at h
  . cases h
  rename_i hft
  split at h
  . cases h
  rename_i h4
  split at h
  . cases h
  rename_i k hkind
  split at h
  . cases h
  rename_i ha6
  split at h
  . cases h
  rename_i hfa;obtain⟨k1,k7,hname⟩:=Ac2 hkind;have ha:J5 (Bu v):=by
   obtain⟨k,b,n,t,l,o⟩:=v;exact(Nb (Bv hm).2.2.2.2).1
  have hall:=Aa4 hm;have hfit:Ji [Ai,An] [] (Bu v)=true:=by simpa using hft
  have hin:=(Lz.1 hfit).2;have ho:=Uq Ac6 ha hfit;have hma:=Ui hall (De.2 (hin Ai (by simp)));have hmn:=Ui hall (De.2 (hin An (by simp)));have en:=Aeh hmn (by omega);have ea:=Amk hma (by omega);have haa:J5 (Bu (At Ai (Bu v))):=by
   revert hma
   generalize At Ai (Bu v)=A;intro hma;obtain⟨k,b,n,t,l,o⟩:=A;exact(Nb (Bv hma).2.2.2.2).1
  have hres:=Ae4 (d:=d+1+1) (f:=Cn f) (fun x m' hx he=>Wc f hx he) k1 k7 haa (Aa4 hma) (by simpa using hfa) h;rw[hres,<-ea,<-hname,<-en];exact(Amk hm (by omega)).trans (congrArg ov ho)
theorem Af8 {v:Val} {m:Mut} (h:L4 v=(0,m)):v=Bb m/\Bk m=0/\Az v 1=0:=by
 unfold L4 at h
 split at h
 . rename_i h1;exact absurd (congrArg Prod.fst h) h1
 rename_i h1
 split at h
 . rename_i h2;exact absurd (congrArg Prod.fst h) h2
 rename_i h2
 split at h
 . rename_i h3;exact absurd (congrArg Prod.fst h) h3
 rename_i h3;have e:=congrArg Prod.snd h;simp only at e;have hm:Az v 1=0:=by omega
 refine⟨Wc 65 hm (Prod.ext (by simpa using h2) e), ?_,hm⟩;rw[<-e];simpa using h3
theorem Aay {k:Int} (h1:1<=k) (h7:k<=7):Jq (B9 k)=some k:=by
 rcases(show k=1\/k=2\/k=3\/k=4\/k=5\/k=6\/k=7 by omega)with rfl|rfl|rfl|rfl|rfl|rfl|rfl<;>decide+kernel
theorem E6 (f:Nat) {k:Int} {O:List (ByteArray×Val)} (h1:1<=k) (h7:k<=7) (hfit:Ji (Ip k) (Ac7 k) O=true):Cn (f+1) (ov [(Ai,ov O),(An,tv (B9 k))])=Bt (Cn f) k O:=by
 have e1:Cf (ov [(Ai,ov O),(An,tv (B9 k))])=6:=rfl;have e2:Bu (ov [(Ai,ov O),(An,tv (B9 k))])= [(Ai,ov O),(An,tv (B9 k))]:=rfl;have e3:Ji [Ai,An] [] [(Ai,ov O),(An,tv (B9 k))]=true:=by kernel_rfl
 have e4:At An [(Ai,ov O),(An,tv (B9 k))]=tv (B9 k):=by kernel_rfl
 have e5:At Ai [(Ai,ov O),(An,tv (B9 k))]=ov O:=by kernel_rfl
 rw[Cn,e1,e2,e3,e4,e5];rw[if_neg (by omega),if_neg (by simp),if_neg (show ¬Cf (tv (B9 k))≠4 from fun h=>h rfl),show Ep (tv (B9 k))=B9 k from rfl,Aay h1 h7];simp only;rw[if_neg (show ¬Cf (ov O)≠6 from fun h=>h rfl),show Bu (ov O)=O from rfl,hfit,if_neg (by simp)]
theorem Ym {f:Val->Int×Mut}: ∀{l:List Mut},(∀m ∈ l,f (Bb m)=(0,m))->A6 f (Be l)=(0,l)
 | [],_=>rfl
 |m::l,h=>by
  have h1:=h m (List.mem_cons_self ..);have h2:=Ym fun q hq=>h q (List.mem_cons_of_mem _ hq);simp only[Be];unfold A6;rw[h1,h2];rfl
theorem Gy {t:ByteArray} (h:t.toList.isEmpty=true):t=Cp:=Fq (by rw[List.isEmpty_iff.1 h];simp[Lib.toList_data])
theorem Sx: ∀(m:Mut) (e:Int) (f:Nat),Dv m e=0->7<=(f:Int)+e->Cn f (Bb m)=(0,m):=by
 refine Mut.ind ?_;intro k key dst n had was has v l IH e f hm hfe;obtain⟨hb,he6,hkey,_,_,hms⟩:=E4 hm;obtain⟨f,rfl⟩: ∃g,f=g+1:=⟨f - 1,by omega⟩;have hIH: ∀m ∈ l,Cn f (Bb m)=(0,m):=fun m hmm=>IH m hmm (e+1) f (Ic hms m hmm) (by omega);unfold Ao at hb;simp only[Bool.and_eq_true,Bool.or_eq_true,decide_eq_true_eq,Bool.not_eq_true']at hb;obtain⟨⟨⟨⟨⟨⟨⟨⟨h1,h7⟩,b1⟩,b2⟩,b3⟩,b4⟩,b5⟩,b6⟩,b7⟩:=hb;rcases(show k=1\/k=2\/k=3\/k=4\/k=5\/k=6\/k=7 by omega)with rfl|rfl|rfl|rfl|rfl|rfl|rfl
 . have d1:=Gy (b1.resolve_left (by omega));have d2:n=0:=b2.resolve_left (by omega);have d3:had=false:=b3.resolve_left (by omega);have d4:has=false:=b4.resolve_left (by omega);have d7:=List.length_eq_zero_iff.1 (b7.resolve_left (by omega));subst d1 d2 d3 d4 d7;have d5:=D5 (b5.resolve_left (by simp));subst d5;have eo:Bb (.mk 1 key Cp 0 false Jj false v [])=ov [(Ai,ov [(Ar,tv key),(Fb,v)]),(An,tv (B9 1))]:=by simp only[Bb];rfl
   rw[eo,E6 f h1 h7 (by kernel_rfl)];show Bt _ _ _=_
   kernel_rfl
 . have d1:=Gy (b1.resolve_left (by omega));have d2:n=0:=b2.resolve_left (by omega);have d3:had=false:=b3.resolve_left (by omega);have d4:has=false:=b4.resolve_left (by omega);have d7:=List.length_eq_zero_iff.1 (b7.resolve_left (by omega));subst d1 d2 d3 d4 d7;have d5:=D5 (b5.resolve_left (by simp));have d6:=D5 (b6.resolve_left (by simp));subst d5 d6;rw[Adk,E6 f h1 h7 (by kernel_rfl)];show Bt _ _ _=_
   kernel_rfl
 . have d1:=Gy (b1.resolve_left (by omega));have d3:had=false:=b3.resolve_left (by omega);have d4:has=false:=b4.resolve_left (by omega);have d7:=List.length_eq_zero_iff.1 (b7.resolve_left (by omega));subst d1 d3 d4 d7;have d5:=D5 (b5.resolve_left (by simp));have d6:=D5 (b6.resolve_left (by simp));subst d5 d6;rw[Adl,E6 f h1 h7 (by kernel_rfl)];show Bt _ _ _=_
   kernel_rfl
 . have d1:=Gy (b1.resolve_left (by omega));have d2:n=0:=b2.resolve_left (by omega);have d7:=List.length_eq_zero_iff.1 (b7.resolve_left (by omega));subst d1 d2 d7;rw[Adj]
   cases had<;>cases has
   . have d5:=D5 (b5.resolve_left (by simp));have d6:=D5 (b6.resolve_left (by simp));subst d5 d6;rw[E6 f h1 h7 (by kernel_rfl)];show Bt _ _ _=_
     kernel_rfl
   . have d5:=D5 (b5.resolve_left (by simp));subst d5;rw[E6 f h1 h7 (by kernel_rfl)];show Bt _ _ _=_
     kernel_rfl
   . have d6:=D5 (b6.resolve_left (by simp));subst d6;rw[E6 f h1 h7 (by kernel_rfl)];show Bt _ _ _=_
     kernel_rfl
   . rw[E6 f h1 h7 (by kernel_rfl)];show Bt _ _ _=_
     kernel_rfl
 . have d1:=Gy (b1.resolve_left (by omega));have d2:n=0:=b2.resolve_left (by omega);have d3:had=false:=b3.resolve_left (by omega);have d4:has=false:=b4.resolve_left (by omega);have d7:=List.length_eq_zero_iff.1 (b7.resolve_left (by omega));subst d1 d2 d3 d4 d7;have d5:=D5 (b5.resolve_left (by simp));subst d5;have eo:Bb (.mk 5 key Cp 0 false Jj false v [])=ov [(Ai,ov [(Ar,tv key),(Fb,v)]),(An,tv (B9 5))]:=by simp only[Bb];rfl
   rw[eo,E6 f h1 h7 (by kernel_rfl)];show Bt _ _ _=_
   kernel_rfl
 . have d2:n=0:=b2.resolve_left (by omega);have d3:had=false:=b3.resolve_left (by omega);have d4:has=false:=b4.resolve_left (by omega);have d7:=List.length_eq_zero_iff.1 (b7.resolve_left (by omega));subst d2 d3 d4 d7;have d5:=D5 (b5.resolve_left (by simp));have d6:=D5 (b6.resolve_left (by simp));subst d5 d6;rw[Y7,E6 f h1 h7 (by kernel_rfl)];show Bt _ _ _=_
   kernel_rfl
 . have d1:=Gy (b1.resolve_left (by omega));have d2:n=0:=b2.resolve_left (by omega);have d4:has=false:=b4.resolve_left (by omega);subst d1 d2 d4;have d6:=D5 (b6.resolve_left (by simp));subst d6;have hE:=Ym hIH
   cases hk:key.toList.isEmpty with
   |true=>
    have d8:=Gy hk;subst d8;unfold Dr at hkey;rw[if_neg (by omega),if_pos ⟨rfl,hk⟩]at hkey;have d3:had=false:=by simpa using hkey
    subst d3;have d5:=D5 (b5.resolve_left (by simp));subst d5;rw[Y8,E6 f h1 h7 (by kernel_rfl)];have ea:At Gu [(Gu,lv (Be l))]=lv (Be l):=by kernel_rfl
    have ef:As Me [(Gu,lv (Be l))]=none:=by kernel_rfl
    unfold Bt;rw[if_pos rfl,ea,ef,show Im (lv (Be l))=Be l from rfl,hE,if_neg (show ¬Cf (lv (Be l))≠5 from fun h=>h rfl)];rfl
   |false=>
    rw[Adm l hk];generalize hg:ov (Bf key had was)=g;rw[E6 f h1 h7 (by kernel_rfl)];have ea:At Gu [(Gu,lv (Be l)),(Me,g)]=lv (Be l):=by kernel_rfl
    have ef:As Me [(Gu,lv (Be l)),(Me,g)]=some g:=by kernel_rfl
    unfold Bt;rw[if_pos rfl,ea,ef,show Im (lv (Be l))=Be l from rfl,hE,if_neg (show ¬Cf (lv (Be l))≠5 from fun h=>h rfl),if_neg (fun h=>h rfl)];simp only;subst hg;have hG:Jp (ov (Bf key had was)) l=(0,.mk 7 key Cp 0 had was false Jj l):=by
     cases had with
     |false=>
      have d5:=D5 (b5.resolve_left (by simp));subst d5;have e1:Ji [Ar] [C4] (Bf key false Jj)=true:=by kernel_rfl
      have e2:At Ar (Bf key false Jj)=tv key:=by kernel_rfl
      have e3:As C4 (Bf key false Jj)=none:=by kernel_rfl
      unfold Jp;rw[show Bu (ov (Bf key false Jj))=Bf key false Jj from rfl,e1,e2,if_neg (show ¬Cf (ov (Bf key false Jj))≠6 from fun h=>h rfl),if_neg (by simp),if_neg (show ¬Cf (tv key)≠4 from fun h=>h rfl),show Ep (tv key)=key from rfl,hk,if_neg (by simp)];unfold At;rw[e3];rfl
     |true=>
      have e1:Ji [Ar] [C4] (Bf key true was)=true:=by kernel_rfl
      have e2:At Ar (Bf key true was)=tv key:=by kernel_rfl
      have e3:As C4 (Bf key true was)=some was:=by kernel_rfl
      unfold Jp;rw[show Bu (ov (Bf key true was))=Bf key true was from rfl,e1,e2,if_neg (show ¬Cf (ov (Bf key true was))≠6 from fun h=>h rfl),if_neg (by simp),if_neg (show ¬Cf (tv key)≠4 from fun h=>h rfl),show Ep (tv key)=key from rfl,hk,if_neg (by simp)];unfold At;rw[e3];rfl
    exact hG
theorem N7 {m:Mut} (h:Bk m=0):Dv m 1=0:=by
 unfold Bk at h
 split at h
 . cases h
 . exact h
theorem Y6 {m:Mut} (h:Bk m=0) (hv:Az (Bb m) 1=0):L4 (Bb m)=(0,m):=by
 have hr:=Sx m 1 65 (N7 h) (by omega);unfold L4;rw[hv,hr,if_neg (by omega),if_neg (fun h=>h rfl),if_neg (fun h'=>h' h)]
def Ea (s:List UInt8):Int×Mut:=match Fd s with
 | .bad c _=>(c,Lp)
 | .ok v _=>L4 v
theorem An2:Ea [123,34,97,114,103,115,34,58,123,125,44,34,110,97,109,101,34,58,34,100,101,108,34,125]=(10,Lp):=by kernel_rfl
theorem An3:Ea [123,34,97,114,103,115,34,58,123,34,107,101,121,34,58,49,125,44,34,110,97,109,101,34,58,34,100,101,108,34,125]=(9,Lp):=by kernel_rfl
theorem An4:Ea [123,34,97,114,103,115,34,58,123,34,107,101,121,34,58,34,34,125,44,34,110,97,109,101,34,58,34,100,101,108,34,125]=(8,Lp):=by kernel_rfl
theorem An5:Ea [123,34,97,114,103,115,34,58,49,44,34,110,97,109,101,34,58,34,120,34,125]=(12,Lp):=by kernel_rfl
def So:Mut:=.mk 3 ⟨#[110]⟩ Cp 2 false Jj false Jj []
theorem Yw:Bk So=0:=by decide+kernel
theorem Aob:Ak (Bb So)= [123,34,97,114,103,115,34,58,123,34,98,121,34,58,50,44,34,107,101,121,34,58,34,110,34,125,44,34,110,97,109,101,34,58,34,105,110,99,34,125]:=by kernel_rfl
def Sp:Mut:=.mk 4 ⟨#[107]⟩ Cp 0 false Jj true (iv 1) []
theorem Yx:Bk Sp=0:=by decide+kernel
theorem Aoc:Ak (Bb Sp)= [123,34,97,114,103,115,34,58,123,34,105,115,34,58,49,44,34,107,101,121,34,58,34,107,34,125,44,34,110,97,109,101,34,58,34,99,97,115,34,125]:=by kernel_rfl
end Go.Proofs.YtmglfdckpjegdaaGreatDoor
namespace Go.Proofs.YtmglfdckpjegdaaGreatDoor
open Go.RowKit Go.ChangeShapes Go.WideShapes Go.ChangeAt
theorem Ag1 {H:Type} {enc:TypeId×Value->H} {P:Program} {w:World} {base fuel:Nat} {sp:Nat->Bool} {t:TypeId} {ms:Array (String×TypeId)} {cs:List Value} {name:String} {d:DataW H} {p:List MemPlace} (ht:P.underlying t=some (.interface ms))
 (h:DataW.trod enc P w base sp false fuel t cs=some (.iface name d,p)): ∃u v,cs= [.iface u v]:=by
 cases fuel with
 |zero=>simp[DataW.trod]at h
 |succ n=>
  unfold DataW.trod at h;rw[ht]at h
  split at h<;>first|exact⟨_,_,rfl⟩|simp_all
theorem Aom {W:World} (h:Lib.VarReads Tryz.prog W "strconv.ErrRange" Rows.laid_strconv_ErrRange):P4 W:=by
 obtain⟨g',t',cs,fuel,p,hg',ht',hvar,hd⟩:=h;have hg:Tryz.prog.globalNamed "strconv.ErrRange" =some 6:=by kernel_rfl
 have hty:(Tryz.prog.globals[6]?).map (·.type)=some 182:=by kernel_rfl
 obtain rfl:=Option.some.inj (hg.symm.trans hg');obtain rfl:=Option.some.inj (hty.symm.trans ht');unfold World.var? at hvar;rw[hg]at hvar;simp only[Option.bind_some]at hvar
 split at hvar
 . rename_i cs' t' fz hh;simp only[Option.some.injEq]at hvar;subst hvar;obtain⟨u,v,e⟩:=Ag1 Tryz.underlying182 hd;obtain⟨l⟩:=cs';simp only at e;subst e;refine⟨u,v, ?_⟩;unfold World.cell?
   rw[hh];rfl
 . cases hvar
theorem Rt {W:World} (h:laidMetH Tryz.prog Rows.mutatorBackRow.laid W):P4 W:=by
 have hL:laidMet Tryz.prog Rows.mutatorBackRow.laid W:=by
  have:=(laidMetH_iff.1 h).1;have e:(Rows.mutatorBackRow.laid.filter fun x=>x.2.handleName?.isNone)=Rows.mutatorBackRow.laid:=by kernel_rfl
  rwa [e]at this
 exact Aom (Lib.laidMet.reads hL (n:= "strconv.ErrRange") (by simp[Rows.mutatorBackRow]))
end Go.Proofs.YtmglfdckpjegdaaGreatDoor
