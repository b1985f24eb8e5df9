/- Parts: tree.get's search: where it ends. Condition: at most 8 places. -/
import Derived.Test.YtkmcjfkokoidcaaGreatDoorKFa33
import Derived.Test.YtkmcjfkokoidcaaGreatDoorKFa38
set_option maxHeartbeats 20000000
set_option maxRecDepth 100000
namespace Go.Proofs.YtkmcjfkokoidcaaGreatDoor
open Go Go.RowKit
abbrev Ape (p:Nat->Bool) (z:Int) (W:World) (e:Ending) (W':World):Prop:= ∃c:Bool,e=.returned (.bool c)/\c=p z.toNat/\Below W.heap.size W W'
def Ajd (p:Nat->Bool) (n:Nat) (w:World) (e:Ending) (w':World):Prop:= ∃k:Nat,e=.returned (.int .i64 k)/\k<=n/\(k=0\/p (k - 1)=false)/\(k=n\/p k=true)/\Below w.heap.size w w'
theorem On (p:Nat->Bool) (g1 g2:Value) (n:Nat) (w:World) (hn:n<=8) (hf: ∀W,Below w.heap.size w W-> ∀i:Nat,i<n->Calls Tryz.prog 107 #[.int .i64 i,g1,g2] W fun e w'=>e=.returned (.bool (p i))/\Below W.heap.size W w'):
 Calls Tryz.prog 105 #[.int .i64 n,.func (.func 107) #[] #[g1,g2]] w (Ajd p n w):=by
 obtain⟨PO,hPO⟩: ∃P:Ending->World->Prop,Ajd p n w=P:=⟨_,rfl⟩;rw[hPO];have hF: ∀W,Below w.heap.size w W-> ∀z:Int,(∃i:Nat,z=i/\i<n)->Calls Tryz.prog 107 #[.int .i64 z,g1,g2] W (Ape p z W):=fun W hW z ⟨i,e,hi⟩=>by
  subst e;exact(hf W hW i hi).mono fun e' w' h=>⟨_,h.1,rfl,h.2⟩
 have H0:=qz (Below.refl w.heap.size w);obtain⟨HF,HPO⟩:=hid2 hF hPO;clear hF hPO;clear hf;go_enter Tryz.func105,Tryz.ntmps105;go_wp2_with (fail);go_loopw [5,6] (fun i j wr=> ∃q r:Nat,i=.int .i64 q/\j=.int .i64 r/\q<=r/\r<=n/\Hid (q=0\/p (q - 1)=false)/\Hid (r=n\/p r=true)/\Hid (Below w.heap.size w wr)) (fun i j _=>(intOf j).toNat - (intOf i).toNat)
 case atStart=>exact⟨0,n,rfl,rfl,Nat.zero_le _,Nat.le_refl _,qz (.inl rfl),qz (.inl rfl),H0⟩
 case round=>
  obtain⟨q,r,rfl,rfl,hqr,hr,hp1,hp2,hb⟩:=hrel;clear H0;by_cases hlt:q<r
  . have hz:=hb.out.size;have y1:(q:Int)<(r:Int):=by omega
    obtain⟨s,hs⟩: ∃s,q+r=s:=⟨_,rfl⟩;have hw:IntKind.i64.wrap ((q:Int)+(r:Int))=((q+r:Nat):Int):=by
     rw[show((q+r:Nat):Int)=(q:Int)+(r:Int)from by omega];exact IntWalk.i64_in _ (by omega)
    rw[hs]at hw;go_wp2_with (fail);obtain⟨m,hm⟩: ∃m:Nat,(s:Int) / 2=m:=⟨s / 2,by omega⟩;rw[hm];have Hmq:Hid (q<=m/\m<r):=by
     show _/\_;omega
    have Hlt:Hid (m<n):=by
     show m<n;have:=Hmq.out;omega
    clear hm hw hs;(with_reducible refine(HF.out _ hb.out _ ⟨m,rfl,Hlt.out⟩).mono ?_);rintro e w2 ⟨c,rfl,hc,hb2⟩;have hw2:IntKind.i64.wrap ((m:Int)+1)=(m:Int)+1:=IntWalk.i64_in _ (by have:=Hlt.out;omega);have HB:=qz (hb.out.trans (hb2.mono hz));have Hc:Hid (c=p m):=hc;clear hb2 hc
    cases c
    . go_wp2;go_roundw
      case rel=>exact⟨m+1,r,by go_num,rfl,by have:=Hmq.out;omega,hr,qz (.inr Hc.out.symm),hp2,HB⟩
      case measure=>
       have:=Hmq.out;simp only[intOf];omega
    . go_wp2;go_roundw
      case rel=>exact⟨q,m,rfl,rfl,by have:=Hmq.out;omega,by have:=Hmq.out;omega,hp1,qz (.inr Hc.out.symm),HB⟩
      case measure=>
       have:=Hmq.out;simp only[intOf];omega
  . obtain rfl:q=r:=by omega
    have HP:Hid (PO (.returned (.int .i64 q)) wr):=by
     show PO _ _;rw[<-HPO.out];exact⟨q,rfl,hr,hp1.out,hp2.out,hb.out⟩
    have y1: ¬(q:Int)<(q:Int):=by omega
    clear hb;go_wp2;exact HP.out
end Go.Proofs.YtkmcjfkokoidcaaGreatDoor
