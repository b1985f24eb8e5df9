/- Parts: Four bytes put together as a sum, the lowest first. Plain. No condition. -/
import Derived.Laws.BitsAllLaws
import Derived.Test.YtolnhkmhfblhkaaGreatDoorKSn3
namespace Go.Proofs.YtolnhkmhfblhkaaGreatDoor
open Go
theorem Ix (a b k:Nat) (h:a<2 ^ k):a ||| (b*2 ^ k)=a+b*2 ^ k:=by
 rw[Nat.or_comm,<-Nat.shiftLeft_eq,<-Nat.shiftLeft_add_eq_or_of_lt h,Nat.add_comm]
theorem L3 (a b:Nat) (ha:a<256) (hb:b<256):bits .or .u32 (a:Int) ((b:Int)*256)=((a+b*256:Nat):Int):=by
 have h:=u32_or_nat a (b*256) (by omega) (by omega);rw[Ix a b 8 ha]at h;rw[<-h];rfl
theorem Lm (a b:Nat) (ha:a<65536) (hb:b<256):bits .or .u32 (a:Int) ((b:Int)*65536)=((a+b*65536:Nat):Int):=by
 have h:=u32_or_nat a (b*65536) (by omega) (by omega);rw[Ix a b 16 ha]at h;rw[<-h];rfl
theorem L1 (a b:Nat) (ha:a<16777216) (hb:b<256):bits .or .u32 (a:Int) ((b:Int)*16777216)=((a+b*16777216:Nat):Int):=by
 have h:=u32_or_nat a (b*16777216) (by omega) (by omega);rw[Ix a b 24 ha]at h;rw[<-h];rfl
theorem K2 {l:List UInt8} (h:l.length=4): ∃p q r s,l= [p,q,r,s]:=by
 match l,h with
 | [p,q,r,s],_=>exact⟨p,q,r,s,rfl⟩
theorem Im (p q r s:UInt8):Fm [p,q,r,s]=p.toNat+q.toNat*256+r.toNat*65536+s.toNat*16777216:=by
 simp only[Fm];omega
end Go.Proofs.YtolnhkmhfblhkaaGreatDoor
