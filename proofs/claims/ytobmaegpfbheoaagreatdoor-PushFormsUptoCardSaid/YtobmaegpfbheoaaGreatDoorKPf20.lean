/- Parts: A mutator's object, as data: it may be, where the mutator may. Plain. No condition. -/
import Derived.Test.YtobmaegpfbheoaaGreatDoorKPf17
namespace Go.Proofs.YtobmaegpfbheoaaGreatDoor
open Go.RowKit
abbrev Am:ByteArray:=⟨#[97,114,103,115]⟩
abbrev An:ByteArray:=⟨#[110,97,109,101]⟩
abbrev O0:ByteArray:=⟨#[98,121]⟩
abbrev Ma:ByteArray:=⟨#[105,115]⟩
abbrev G2:ByteArray:=⟨#[119,97,115]⟩
abbrev D0:ByteArray:=⟨#[102,114,111,109]⟩
abbrev Ot:ByteArray:=⟨#[116,111]⟩
abbrev Lk:ByteArray:=⟨#[100,111]⟩
abbrev Oq:ByteArray:=⟨#[105,102]⟩
abbrev F7:ByteArray:=⟨#[105,100]⟩
abbrev Co:ByteArray:=⟨#[109,117,116,97,116,111,114]⟩
abbrev O1:ByteArray:=⟨#[99,108,105,101,110,116]⟩
abbrev Jh:ByteArray:=⟨#[108,105,115,116]⟩
abbrev Ls:ByteArray:=⟨#[112,117,116]⟩
abbrev Lq:ByteArray:=⟨#[100,101,108]⟩
abbrev Lr:ByteArray:=⟨#[105,110,99]⟩
abbrev Ko:ByteArray:=⟨#[99,97,115]⟩
abbrev Lp:ByteArray:=⟨#[97,112,112,101,110,100]⟩
abbrev Gn:ByteArray:=⟨#[109,111,118,101]⟩
abbrev Lt:ByteArray:=⟨#[115,101,113]⟩
def Dt (k:Int):ByteArray:=if k=1 then Ls else if k=2 then Lq else if k=3 then Lr else if k=4 then Ko else if k=5 then Lp else if k=6 then Gn else Lt
def Ba (key:ByteArray) (had:Bool) (was:Val):List (ByteArray×Val):=(A1,tv key)::(if had then [(G2,was)]else [])
mutual
def C5:Mut->Val
 | .mk k key dst n had was has v l=>ov [(Am,ov (if k=1\/k=5 then [(A1,tv key),(Fj,v)]else if k=2 then [(A1,tv key)]else if k=3 then [(O0,iv n),(A1,tv key)]
    else if k=4 then(if has then [(Ma,v)]else [])++Ba key had was
    else if k=6 then [(D0,tv key),(Ot,tv dst)]
    else(Lk,lv (A8 l))::(if key.toList.isEmpty then []else [(Oq,ov (Ba key had was))]))),(An,tv (Dt k))]
def A8:List Mut->List Val
 | []=> []
 |m::r=>C5 m::A8 r
end
theorem Gm: ∀l:List Mut,A8 l=l.map C5
 | []=>rfl
 |m::r=>by simp only[A8,List.map_cons,Gm r]
theorem Ek (l:List Mut):(A8 l).length=l.length:=by rw[Gm,List.length_map]
theorem V2 (k:Int):Al (Dt k)=true:=by
 unfold Dt
 split
 . decide
 split
 . decide
 split
 . decide
 split
 . decide
 split
 . decide
 split
 . decide
 . decide
theorem Es (k:ByteArray): ∀q,(none:Option ByteArray)=some q->M5 k q=false:=fun _ e=>by cases e
theorem Gt {k p:ByteArray} (h:M5 k p=false): ∀q,some p=some q->M5 k q=false:=fun _ e=>by cases e;exact h
theorem N5 {v:Val} {d:Int} (h:C3 v=0) (hd:d<=48):A9 v d=0:=by
 obtain⟨f1,f2,_⟩:=Vi h;exact S9 v _ 1 f1 (by omega)
theorem Mm {s:ByteArray} (h:Cq s=true):Al s=true:=by
 unfold Cq at h;simp only[Bool.and_eq_true]at h;exact h.2
theorem Ju {k:Int} {key dst:ByteArray} {n:Int} {had:Bool} {was:Val} {has:Bool} {v:Val} {l:List Mut} {d:Int} (h:D1 (.mk k key dst n had was has v l) d=0):
 Ai k dst n had (Cx was) has (Cx v) l.length=true/\d<=6/\Cd k key dst had=true/\(had=true->C3 was=0)/\((has||decide (k=1)||decide (k=5))=true->C3 v=0)/\H9 l (d+1)=0:=by
 simp only[D1]at h;by_cases h1:Ai k dst n had (Cx was) has (Cx v) l.length=false
 . rw[if_pos h1]at h;cases h
 rw[if_neg h1]at h;by_cases h2:6<d
 . rw[if_pos h2]at h;cases h
 rw[if_neg h2]at h;by_cases h3:Cd k key dst had=false
 . rw[if_pos h3]at h;cases h
 rw[if_neg h3]at h;by_cases h4:had=true/\C3 was≠0
 . rw[if_pos h4]at h;exact absurd h h4.2
 rw[if_neg h4]at h;by_cases h5:(has||decide (k=1)||decide (k=5))=true/\C3 v≠0
 . rw[if_pos h5]at h;exact absurd h h5.2
 rw[if_neg h5]at h;exact⟨by simpa using h1,by omega,by simpa using h3,fun e=>by by_cases e2:C3 was=0;exact e2;exact absurd ⟨e,e2⟩ h4,fun e=>by by_cases e2:C3 v=0;exact e2;exact absurd ⟨e,e2⟩ h5,h⟩
theorem Lm {l:List Mut} {d:Int} (h:H9 l d=0): ∀m ∈ l,D1 m d=0:=by
 induction l with
 |nil=>intro m hm;cases hm
 |cons x r ih=>
  simp only[H9]at h;by_cases hx:D1 x d=0
  . rw[if_pos hx]at h;intro m hm;rcases List.mem_cons.1 hm with rfl|hm
    . exact hx
    . exact ih h m hm
  . rw[if_neg hx]at h;exact absurd h hx
theorem K8 {k:Int} {dst:ByteArray} {n:Int} {had wasZ has valZ:Bool} {ln:Nat} (h:Ai k dst n had wasZ has valZ ln=true):1<=k/\k<=7:=by
 unfold Ai at h;simp only[Bool.and_eq_true,decide_eq_true_eq]at h;exact⟨by omega,by omega⟩
theorem Ln {key:ByteArray} {had:Bool} {was:Val} {d:Int} (hk:Al key=true) (hw:had=true->C3 was=0) (hd:d<=48) {last:Option ByteArray} (hl: ∀q,last=some q->M5 A1 q=false):Cf (Ba key had was) last d=0:=by
 have v1:Al A1=true:=by decide
 have v2:Al G2=true:=by decide
 have l1:M5 G2 A1=false:=by decide+kernel
 unfold Ba;refine Bx v1 (Jv hk (by omega)) hl ?_
 cases had with
 |false=>simp[Cf]
 |true=>simpa using Bx v2 (N5 (hw rfl) hd) (Gt l1) (by simp[Cf])
theorem Zq: ∀(m:Mut) (e d:Int),D1 m e=0->1<=e->d+3*(6 - e)<=40->A9 (C5 m) d=0:=by
 refine Mut.ind ?_;intro k key dst n had was has v l IH e d h he hd;obtain⟨h1,h2,h3,h4,h5,h6⟩:=Ju h;obtain⟨k1,k7⟩:=K8 h1;have b1:Al Am=true:=by decide
 have b2:Al An=true:=by decide
 have b3:Al A1=true:=by decide
 have b4:Al Fj=true:=by decide
 have b5:Al O0=true:=by decide
 have b6:Al Ma=true:=by decide
 have b7:Al D0=true:=by decide
 have b8:Al Ot=true:=by decide
 have b9:Al Lk=true:=by decide
 have b10:Al Oq=true:=by decide
 have l1:M5 An Am=false:=by decide+kernel
 have l2:M5 Fj A1=false:=by decide+kernel
 have l3:M5 A1 O0=false:=by decide+kernel
 have l4:M5 A1 Ma=false:=by decide+kernel
 have l5:M5 Ot D0=false:=by decide+kernel
 have l6:M5 Oq Lk=false:=by decide+kernel
 simp only[C5];refine N6 (by omega) (Bx b1 (N6 (by omega) ?_) (Es _) (Bx b2 (Jv (V2 k) (by omega)) (Gt l1) (by simp[Cf])));by_cases e1:k=1\/k=5
 . rw[if_pos e1];have hkey:Al key=true:=F1 (by unfold Cd at h3;rwa [if_neg (by omega),if_neg (by rintro⟨rfl,_⟩;omega)]at h3);have hf:C3 v=0:=h5 (by rcases e1 with rfl|rfl<;>simp);exact Bx b3 (Jv hkey (by omega)) (Es _) (Bx b4 (N5 hf (by omega)) (Gt l2) (by simp[Cf]))
 rw[if_neg e1];by_cases e2:k=2
 . rw[if_pos e2];have hkey:Al key=true:=F1 (by unfold Cd at h3;rwa [if_neg (by omega),if_neg (by rintro⟨rfl,_⟩;omega)]at h3);exact Bx b3 (Jv hkey (by omega)) (Es _) (by simp[Cf])
 rw[if_neg e2];by_cases e3:k=3
 . rw[if_pos e3];have hkey:Al key=true:=F1 (by unfold Cd at h3;rwa [if_neg (by omega),if_neg (by rintro⟨rfl,_⟩;omega)]at h3);exact Bx b5 (Vx (by omega)) (Es _) (Bx b3 (Jv hkey (by omega)) (Gt l3) (by simp[Cf]))
 rw[if_neg e3];by_cases e4:k=4
 . rw[if_pos e4];have hkey:Al key=true:=F1 (by unfold Cd at h3;rwa [if_neg (by omega),if_neg (by rintro⟨rfl,_⟩;omega)]at h3)
   cases has with
   |false=>simpa using Ln hkey h4 (by omega) (Es _)
   |true=>exact Bx b6 (N5 (h5 (by simp)) (by omega)) (Es _) (Ln hkey h4 (by omega) (Gt l4))
 rw[if_neg e4];by_cases e6:k=6
 . rw[if_pos e6];unfold Cd at h3;rw[if_pos e6,Bool.and_eq_true]at h3;exact Bx b7 (Jv (Mm h3.1) (by omega)) (Es _) (Bx b8 (Jv (Mm h3.2) (by omega)) (Gt l5) (by simp[Cf]))
 rw[if_neg e6];obtain rfl:k=7:=by omega
 have hdo: ∀f:Int,f=d+1+1->A9 (lv (A8 l)) f=0:=by
  rintro f rfl;refine Zp (by omega) ?_;rw[Gm];refine S6 fun x hx=> ?_;obtain⟨m,hm,rfl⟩:=List.mem_map.1 hx;exact IH m hm (e+1) _ (Lm h6 m hm) (by omega) (by omega)
 refine Bx b9 (hdo _ rfl) (Es _) ?_;by_cases hke:key.toList.isEmpty=true
 . rw[if_pos hke];simp[Cf]
 . rw[if_neg hke];have hkey:Al key=true:=F1 (by unfold Cd at h3;rwa [if_neg (by omega),if_neg (by rintro⟨_,h⟩;exact hke h)]at h3);exact Bx b10 (N6 (by omega) (Ln hkey h4 (by omega) (Es _))) (Gt l6) (by simp[Cf])
theorem L9 (s:ByteArray):Jg (tv s):=by simp only[tv,Jg,Oz,P2];exact⟨by omega,trivial,trivial⟩
theorem Ab2 {n:Int} (h: -9223372036854775808<=n/\n<=9223372036854775807):Jg (iv n):=by simp only[iv,Jg,Oz,P2];exact⟨h,trivial,trivial⟩
theorem St {o:List (ByteArray×Val)} (h:P2 o):Jg (ov o):=by simp only[ov,Jg,Oz];exact⟨by omega,trivial,h⟩
theorem Abj {l:List Val} (h:Oz l):Jg (lv l):=by simp only[lv,Jg,P2];exact⟨by omega,h,trivial⟩
theorem Nw (key:ByteArray) (had:Bool) {was:Val} (h:Jg was):P2 (Ba key had was):=by
 unfold Ba
 cases had with
 |false=>exact⟨L9 key,trivial⟩
 |true=>exact⟨L9 key,h,trivial⟩
theorem Wz: ∀{l:List Mut},(∀m ∈ l,Jg (C5 m))->Oz (A8 l)
 | [],_=>trivial
 |m::r,h=>⟨h m (by simp),Wz fun x hx=>h x (by simp[hx])⟩
theorem Aaq: ∀m:Mut,Ug m->Jg (C5 m):=by
 refine Mut.ind ?_;intro k key dst n had was has v l IH h;simp only[Ug]at h;obtain⟨h1,h2,h3,h4⟩:=h;simp only[C5];refine St ⟨St ?_,L9 (Dt k),trivial⟩
 split
 . exact⟨L9 key,h3,trivial⟩
 split
 . exact⟨L9 key,trivial⟩
 split
 . exact⟨Ab2 h1,L9 key,trivial⟩
 split
 . cases has with
   |false=>exact Nw key had h2
   |true=>exact⟨h3,Nw key had h2⟩
 split
 . exact⟨L9 key,L9 dst,trivial⟩
 . refine⟨Abj (Wz fun m hm=>IH m hm (Nv hm h4)), ?_⟩
   split
   . trivial
   . exact⟨St (Nw key had h2),trivial⟩
theorem U2 (key:ByteArray) (had:Bool) (was:Val):Av (Ba key had was)<=20+key.size+was.bulk:=by
 have e1:(⟨#[]⟩:ByteArray).size=0:=rfl;have e2:A1.size=3:=rfl;have e3:G2.size=3:=rfl;unfold Ba
 cases had with
 |false=>simp only[Bool.false_eq_true,if_false,Av,Ds,tv,Val.bulk,A0,e2];omega
 |true=>simp only[if_true,Av,Ds,tv,Val.bulk,A0,e2,e3];omega
theorem Xv (k:Int):(Dt k).size<=6:=by
 unfold Dt
 split
 . decide
 split
 . decide
 split
 . decide
 split
 . decide
 split
 . decide
 split
 . decide
 . decide
theorem Pw: ∀m:Mut,(C5 m).bulk<=12*Cg m:=by
 refine Mut.ind ?_;intro k key dst n had was has v l IH;have hl:A0 (A8 l)<=12*Dr l:=by
  induction l with
  |nil=>simp[A8,A0]
  |cons m r ih=>
   have h1:=IH m (by simp);have h2:=ih fun x hx=>IH x (by simp[hx]);simp only[A8,A0,Dr];omega
 have hg:=U2 key had was;have hn:=Xv k;have e1:(⟨#[]⟩:ByteArray).size=0:=rfl;have c1:Am.size=4:=rfl;have c2:An.size=4:=rfl;have c3:A1.size=3:=rfl;have c4:Fj.size=5:=rfl;have c5:O0.size=2:=rfl;have c6:Ma.size=2:=rfl;have c7:D0.size=4:=rfl;have c8:Ot.size=2:=rfl;have c9:Lk.size=2:=rfl;have c10:Oq.size=2:=rfl;simp only[C5,Cg]
 split
 . simp only[ov,tv,Val.bulk,A0,Av,Ds,e1,c1,c2,c3,c4];omega
 split
 . simp only[ov,tv,Val.bulk,A0,Av,Ds,e1,c1,c2,c3];omega
 split
 . simp only[ov,tv,iv,Val.bulk,A0,Av,Ds,e1,c1,c2,c3,c5];omega
 split
 . cases has with
   |false=>simp only[Bool.false_eq_true,if_false,List.nil_append,ov,tv,Val.bulk,A0,Av,Ds,e1,c1,c2];omega
   |true=>simp only[if_true,List.singleton_append,ov,tv,Val.bulk,A0,Av,Ds,e1,c1,c2,c6];omega
 split
 . simp only[ov,tv,Val.bulk,A0,Av,Ds,e1,c1,c2,c7,c8];omega
 . split
   . simp only[ov,lv,tv,Val.bulk,A0,Av,Ds,e1,c1,c2,c9];omega
   . simp only[ov,lv,tv,Val.bulk,A0,Av,Ds,e1,c1,c2,c9,c10];omega
def Dl (p:Num):Val:=ov [(F7,iv p.id),(Co,C5 p.m)]
def Db (c:Int) (l:List Num):List (ByteArray×Val):= [(O1,iv c),(Jh,lv (l.map Dl))]
end Go.Proofs.YtobmaegpfbheoaaGreatDoor
