/- Parts: A mutator's keys: the program's way and the document's. Plain. No condition. -/
import Derived.Lib.SlicesCompact
import Derived.Test.YtmglfdckpjegdaaGreatDoorKMu17
namespace Go.Proofs.YtmglfdckpjegdaaGreatDoor
open Go.Lib
abbrev BL:=List UInt8
mutual
def Anh:Mut->List BL
 | .mk k key _ _ _ _ _ _ l=>(if k≠6/\key.toList≠ []then [key.toList]else [])++Abq l
def Abq:List Mut->List BL
 | []=> []
 |m::r=>Anh m++Abq r
end
def Ahp:List BL->BL->List BL
 | [],k=> [k]
 |x::r,k=>if k<=x then(if k<x then k::x::r else x::r)else x::Ahp r k
mutual
def Ani:Mut->List BL
 | .mk k key _ _ _ _ _ _ l=>Agc l (if k≠6/\key.toList≠ []then [key.toList]else [])
def Agc:List Mut->List BL->List BL
 | [],out=>out
 |m::r,out=>Agc r ((Ani m).foldl Ahp out)
end
def Aq3 (l:List BL):Prop:=l.Pairwise (· < ·)
theorem Aqu {a b:BL} (h:a<=b):a<b\/a=b:=by
 by_cases h1:a<b
 . exact .inl h1
 . exact .inr (List.le_antisymm h (List.not_lt.1 h1))
theorem Aq8 {k x:BL}: ∀{l:List BL},x ∈ Ahp l k ↔ x=k\/x ∈ l
 | []=>by simp[Ahp]
 |y::r=>by
  simp only[Ahp];by_cases h:k<=y
  . rw[if_pos h];by_cases h1:k<y
    . rw[if_pos h1,List.mem_cons]
    . rw[if_neg h1];rcases Aqu h with h2|rfl
      . exact absurd h2 h1
      . simp
  . rw[if_neg h,List.mem_cons,Aq8,List.mem_cons];constructor
    . rintro(h|h|h)
      . exact .inr (.inl h)
      . exact .inl h
      . exact .inr (.inr h)
    . rintro(h|h|h)
      . exact .inr (.inl h)
      . exact .inl h
      . exact .inr (.inr h)
theorem Arn {k:BL}: ∀{l:List BL},Aq3 l->Aq3 (Ahp l k)
 | [],_=>by simp[Ahp,Aq3]
 |y::r,h=>by
  obtain⟨h1,h2⟩:=List.pairwise_cons.1 h;simp only[Ahp];by_cases hk:k<=y
  . rw[if_pos hk];by_cases hl:k<y
    . rw[if_pos hl];refine List.pairwise_cons.2 ⟨fun z hz=> ?_,h⟩;rcases List.mem_cons.1 hz with rfl|hz
      . exact hl
      . exact List.lt_trans hl (h1 z hz)
    . rw[if_neg hl];exact h
  . rw[if_neg hk];refine List.pairwise_cons.2 ⟨fun z hz=> ?_,Arn h2⟩;rcases Aq8.1 hz with rfl|hz
    . exact List.not_le.1 hk
    . exact h1 z hz
theorem Aq6 {x:BL}: ∀{l out:List BL},x ∈ l.foldl Ahp out ↔ x ∈ l\/x ∈ out
 | [],out=>by simp
 |k::r,out=>by
  rw[List.foldl_cons,Aq6,Aq8,List.mem_cons];constructor
  . rintro(h|h|h)
    . exact .inl (.inr h)
    . exact .inl (.inl h)
    . exact .inr h
  . rintro((h|h)|h)
    . exact .inr (.inl h)
    . exact .inl h
    . exact .inr (.inr h)
theorem Aq5: ∀{l out:List BL},Aq3 out->Aq3 (l.foldl Ahp out)
 | [],_,h=>h
 |k::r,out,h=>by
  rw[List.foldl_cons];exact Aq5 (l:=r) (Arn h)
theorem Ash: ∀m:Mut,Aq3 (Ani m)/\ ∀x,x ∈ Ani m ↔ x ∈ Anh m:=by
 refine Mut.ind ?_;intro k key dst n had was has v l hl;have hs: ∀(q:List Mut),(∀m ∈ q,m ∈ l)-> ∀out,Aq3 out->Aq3 (Agc q out)/\ ∀x,x ∈ Agc q out ↔ x ∈ Abq q\/x ∈ out:=by
  intro q
  induction q with
  |nil=>intro _ out ho;exact⟨ho,fun x=>by simp[Agc,Abq]⟩
  |cons m r ih=>
   intro hq out ho;obtain⟨i1,i2⟩:=ih (fun m hm=>hq m (by simp[hm])) ((Ani m).foldl Ahp out) (Aq5 ho);refine⟨i1,fun x=> ?_⟩;have:=(hl m (hq m (by simp))).2 x;simp only[Agc,Abq];rw[i2 x,Aq6,this,List.mem_append];constructor
   . rintro(h|h|h)
     . exact .inl (.inr h)
     . exact .inl (.inl h)
     . exact .inr h
   . rintro((h|h)|h)
     . exact .inr (.inl h)
     . exact .inl h
     . exact .inr (.inr h)
 simp only[Ani,Anh];obtain⟨i1,i2⟩:=hs l (fun _ h=>h) (if k≠6/\key.toList≠ []then [key.toList]else []) (by split<;>simp[Aq3]);refine⟨i1,fun x=> ?_⟩;rw[i2,List.mem_append];exact Or.comm
theorem Ar7: ∀{a b:List BL},Aq3 a->Aq3 b->(∀x,x ∈ a ↔ x ∈ b)->a=b
 | [], [],_,_,_=>rfl
 | [],y::r,_,_,h=>absurd ((h y).2 (by simp)) (by simp)
 |x::r, [],_,_,h=>absurd ((h x).1 (by simp)) (by simp)
 |x::r,y::s,ha,hb,h=>by
  obtain⟨a1,a2⟩:=List.pairwise_cons.1 ha;obtain⟨b1,b2⟩:=List.pairwise_cons.1 hb;have e:x=y:=by
   rcases List.mem_cons.1 ((h x).1 (by simp))with e|hx
   . exact e
   rcases List.mem_cons.1 ((h y).2 (by simp))with e|hy
   . exact e.symm
   exact absurd (List.lt_trans (b1 x hx) (a1 y hy)) (List.lt_irrefl y)
  subst e;rw[Ar7 a2 b2 fun z=> ?_];have hz:=h z;constructor
  . intro hr;rcases List.mem_cons.1 (hz.1 (List.mem_cons_of_mem _ hr))with rfl|hs
    . exact absurd (a1 z hr) (List.lt_irrefl z)
    . exact hs
  . intro hs;rcases List.mem_cons.1 (hz.2 (List.mem_cons_of_mem _ hs))with rfl|hr
    . exact absurd (b1 z hs) (List.lt_irrefl z)
    . exact hr
theorem Aq9 {d:Array BL} (hs: ∀i j,i<j->j<d.size->d[i]! <=d[j]!): ∀m,m<=d.size->Aq3 (compactUpTo d m)/\ ∀x,x ∈ compactUpTo d m ↔ ∃j,j<m/\d[j]! =x
 |0,_=>⟨by simp[compactUpTo,Aq3],fun x=>by simp[compactUpTo]⟩
 |m+1,hm=>by
  obtain⟨i1,i2⟩:=Aq9 hs m (by omega);rw[compactUpTo_succ];by_cases hk:keeps d m=true
  . rw[if_pos hk];refine⟨List.pairwise_append.2 ⟨i1,by simp,fun a ha b hb=> ?_⟩,fun x=> ?_⟩
    . obtain rfl:=List.mem_singleton.1 hb;obtain⟨j,hj,rfl⟩:=(i2 a).1 ha;have hne:d[m]! ≠d[m - 1]! :=by
       have:=of_decide_eq_true hk;rcases this with h|h
       . omega
       . exact h
      have h1:d[m - 1]! <d[m]! :=by
       rcases Aqu (hs (m - 1) m (by omega) (by omega))with h|h
       . exact h
       . exact absurd h.symm hne
      by_cases e:j=m - 1
      . rw[e];exact h1
      . rcases Aqu (hs j (m - 1) (by omega) (by omega))with h|h
        . exact List.lt_trans h h1
        . rw[h];exact h1
    . rw[List.mem_append,i2,List.mem_singleton];constructor
      . rintro(⟨j,h1,h2⟩|rfl)
        . exact⟨j,by omega,h2⟩
        . exact⟨m,by omega,rfl⟩
      . rintro⟨j,h1,h2⟩;by_cases e:j=m
        . subst e;exact .inr h2.symm
        . exact .inl ⟨j,by omega,h2⟩
  . rw[if_neg hk,List.append_nil];refine⟨i1,fun x=> ?_⟩;have hn: ¬(m=0\/d[m]! ≠d[m - 1]!):=fun h=>hk (decide_eq_true h);have h0:m≠0:=fun h=>hn (.inl h);have he:d[m]! =d[m - 1]! :=Classical.byContradiction fun h=>hn (.inr h);rw[i2];constructor
    . rintro⟨j,h1,h2⟩;exact⟨j,by omega,h2⟩
    . rintro⟨j,h1,h2⟩;by_cases e:j=m
      . subst e;exact⟨j - 1,by omega,he▸h2⟩
      . exact⟨j,by omega,h2⟩
theorem Ar6 (m:Mut):compactUpTo ((Anh m).mergeSort fun x y=>decide (x<=y)).toArray (Anh m).length=Ani m:=by
 have hl:((Anh m).mergeSort fun x y=>decide (x<=y)).length=(Anh m).length:=List.length_mergeSort _;have hp:=List.mergeSort_perm (Anh m) (fun x y=>decide (x<=y));have ht: ∀a b c:BL,decide (a<=b)=true->decide (b<=c)=true->decide (a<=c)=true:=by
  intro a b c h1 h2;exact decide_eq_true (List.le_trans (of_decide_eq_true h1) (of_decide_eq_true h2))
 have hto: ∀a b:BL,(decide (a<=b)||decide (b<=a))=true:=by
  intro a b;rcases List.le_total a b with h|h<;>simp[h]
 have hs:=List.pairwise_mergeSort ht hto (Anh m);obtain⟨r1,r2⟩:=Ash m;generalize hz:((Anh m).mergeSort fun x y=>decide (x<=y))=z at hl hp hs ⊢;have hso: ∀i j,i<j->j<z.toArray.size->z.toArray[i]! <=z.toArray[j]! :=by
  intro i j hij hj;have hj':j<z.length:=by simpa using hj
  have:=List.pairwise_iff_getElem.1 hs i j (by omega) hj' hij;have e1:z.toArray[i]! =z[i]:=by simp[getElem!_pos,show i<z.length by omega]
  have e2:z.toArray[j]! =z[j]:=by simp[getElem!_pos,hj']
  rw[e1,e2];exact of_decide_eq_true this
 obtain⟨c1,c2⟩:=Aq9 hso z.length (by simp);rw[<-hl];refine Ar7 c1 r1 fun x=> ?_;rw[c2,r2,<-hp.mem_iff,List.mem_iff_getElem];constructor
 . rintro⟨j,h1,h2⟩;exact⟨j,h1,by rw[<-h2];simp[getElem!_pos,h1]⟩
 . rintro⟨j,h1,h2⟩;exact⟨j,h1,by rw[<-h2];simp[getElem!_pos,h1]⟩
end Go.Proofs.YtmglfdckpjegdaaGreatDoor
