/- Parts: A block behind another new one. Plain. No condition. -/
import Derived.Test.YtnkmhaachfgaoaaGreatDoorKPq21
namespace Go.Proofs.YtnkmhaachfgaoaaGreatDoor
open Go Go.RowKit
def J0 (x y:Ax):Bool:=decide (x.1=y.1)&&Bu x.2 y.2
theorem Aa4 (x y:Ax) (r s:List Ax):D0 (x::r) (y::s)=(J0 x y&&D0 r s):=by
 obtain⟨a,x⟩:=x;obtain⟨b,y⟩:=y;simp only[D0,J0,Bool.and_assoc]
theorem Fw: ∀{a b:List Ax},D0 a b=true ↔ a.length=b.length/\ ∀(j:Nat) x y,a[j]? =some x->b[j]? =some y->J0 x y=true
 | [], []=>by simp[D0]
 | [],_::_=>by simp[D0]
 |_::_, []=>by simp[D0]
 |x::r,y::s=>by
  rw[Aa4,Bool.and_eq_true,Fw (a:=r) (b:=s)];constructor
  . rintro⟨h1,h2,h3⟩;refine⟨by simp[h2],fun j u v hu hv=> ?_⟩
    cases j with
    |zero=>simp at hu hv;subst hu;subst hv;exact h1
    |succ j=>exact h3 j u v (by simpa using hu) (by simpa using hv)
  . rintro⟨h1,h2⟩;exact⟨h2 0 x y rfl rfl,by simpa using h1,fun j u v hu hv=>h2 (j+1) u v (by simpa using hu) (by simpa using hv)⟩
theorem Aff {a b:ByteArray} (h:a≠b):(a==b)=false/\(a != b)=true/\(a.toList==b.toList)=false/\(a.toList != b.toList)=true:=by
 have h1:(a==b)=false:=by
  obtain⟨a⟩:=a;obtain⟨b⟩:=b;have e:((⟨a⟩:ByteArray)==⟨b⟩)=(a==b):=rfl;rw[e];simpa using h
 have h2:(a.toList==b.toList)=false:=by
  rw[ByteArray.toList_eq,ByteArray.toList_eq,beq_eq_false_iff_ne];intro e;exact h (by
   obtain⟨⟨a⟩⟩:=a;obtain⟨⟨b⟩⟩:=b;simpa using e)
 exact⟨h1,by rw[bne,h1];rfl,h2,by rw[bne,h2];rfl⟩
theorem Afe (a:ByteArray):(a==a)=true/\(a != a)=false/\(a.toList==a.toList)=true/\(a.toList != a.toList)=false:=by
 have h1:(a==a)=true:=by
  obtain⟨a⟩:=a;have e:((⟨a⟩:ByteArray)==⟨a⟩)=(a==a):=rfl;rw[e];simp
 exact⟨h1,by rw[bne,h1];rfl,by simp,by simp⟩
theorem Ah.nxt (w:World) (o:Obj) (t:TypeId) (cs:Array Value):Ah ((w.alloc o).alloc (.cells cs t)) (w.heap.size+1) t cs:=by
 have:=Ah.new (w.alloc o) t cs
 rwa [World.size_alloc]at this
end Go.Proofs.YtnkmhaachfgaoaaGreatDoor
