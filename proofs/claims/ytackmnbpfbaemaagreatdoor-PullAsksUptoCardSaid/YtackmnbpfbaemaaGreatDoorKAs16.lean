/- Parts, joined: What may stand deep may stand higher; what is within a value that may be, may be. Plain. No condition. A value's text is a text, and clean. Plain. No condition. Values that may be and have the same text are the same. Plain. No condition. -/
import Derived.Test.YtackmnbpfbaemaaGreatDoorProg
import Derived.Test.YtackmnbpfbaemaaGreatDoorKAs13
import Derived.Test.YtackmnbpfbaemaaGreatDoorKAs14
namespace Go.Proofs.YtackmnbpfbaemaaGreatDoor
open Go.RowKit
theorem mayL_all: ∀{l:List Val} {d:Int},mayL l d=0→ ∀v ∈ l,mayV v d=0
 |v::r,d,h,x,hx=>by
  simp only[mayL]at h
  split at h
  · rename_i h0
    rcases List.mem_cons.1 hx with rfl|hx
    · exact h0
    · exact mayL_all h x hx
  · rename_i h0
    exact absurd h h0
theorem mayO_all: ∀{l:List (ByteArray×Val)} {last:Option ByteArray} {d:Int},mayO l last d=0→ ∀m ∈ l,validB m.1=true∧mayV m.2 d=0
 |(key,v)::r,last,d,h,x,hx=>by
  simp only[mayO]at h
  split at h
  · rename_i h0
    rcases List.mem_cons.1 hx with rfl|hx
    · simp only[mayP]at h0
      split at h0
      · rename_i hv
        refine⟨hv, ?_⟩
        cases last with
        |none=>exact h0
        |some q=>
         simp only at h0
         split at h0
         · cases h0
         · exact h0
      · cases h0
    · exact mayO_all h x hx
  · rename_i h0
    exact absurd h h0
theorem mayV_parts {k:Int} {b:Bool} {n:Int} {t:ByteArray} {l:List Val} {o:List (ByteArray×Val)} {d:Int} (h:mayV (.mk k b n t l o) d=0):
 oddB k b n t l.length o.length=false∧d≤64∧validB t=true∧mayL l (d+1)=0∧mayO o none (d+1)=0:=by
 simp only[mayV]at h
 split at h
 · cases h
 rename_i h1
 split at h
 · cases h
 split at h
 · rename_i hv
   split at h
   · rename_i h0
     exact⟨by simpa using h1,by omega,hv,h0,h⟩
   · rename_i h0
     exact absurd h h0
 · cases h
theorem inL_mem {l:List Val} (h:inL l) {x:Val} (hx:x ∈ l):inV x:=by
 induction l with
 |nil=>cases hx
 |cons y r ih=>
  simp only[inL]at h
  rcases List.mem_cons.1 hx with rfl|hx
  · exact h.1
  · exact ih h.2 hx
theorem inO_mem {l:List (ByteArray×Val)} (h:inO l) {x:ByteArray×Val} (hx:x ∈ l):inV x.2:=by
 induction l with
 |nil=>cases hx
 |cons y r ih=>
  obtain⟨key,v⟩:=y
  simp only[inO,inP]at h
  rcases List.mem_cons.1 hx with rfl|hx
  · exact h.1
  · exact ih h.2 hx
theorem textL_app: ∀(a b:List Val) (f:Bool),textL (a++b) f=textL a f++textL b (f&&a.isEmpty)
 | [],b,f=>by simp[textL]
 |x::r,b,f=>by simp only[List.cons_append,textL,textL_app r b false];simp
theorem textL_take_len (l:List Val) (k:Nat) (f:Bool):(textL (l.take k) f).length≤(textL l f).length:=by
 have:=textL_app (l.take k) (l.drop k) f
 rw[List.take_append_drop]at this
 rw[this]
 simp
theorem textO_app: ∀(a b:List (ByteArray×Val)) (f:Bool),textO (a++b) f=textO a f++textO b (f&&a.isEmpty)
 | [],b,f=>by simp[textO]
 |x::r,b,f=>by simp only[List.cons_append,textO,textO_app r b false];simp
theorem textO_take_len (l:List (ByteArray×Val)) (k:Nat) (f:Bool):(textO (l.take k) f).length≤(textO l f).length:=by
 have:=textO_app (l.take k) (l.drop k) f
 rw[List.take_append_drop]at this
 rw[this]
 simp
theorem size_list (s:ByteArray):s.data.toList.length=s.size:=by rw[Array.length_toList];rfl
theorem size_mk (l:List UInt8):(⟨l.toArray⟩:ByteArray).size=l.length:=rfl
end Go.Proofs.YtackmnbpfbaemaaGreatDoor

namespace Go.Proofs.YtackmnbpfbaemaaGreatDoor
open Go.RowKit
theorem encode_bytes {r:Nat} (h:scalar r): ∀c ∈ Lib.encodeRune (r:Int),(r<128∧c.toNat=r)∨(128≤r∧128≤c.toNat):=by
 intro c hc
 unfold scalar at h
 unfold Lib.encodeRune at hc
 obtain⟨z,hz,rfl⟩:=List.mem_map.1 hc
 have key:(r<128∧z=r)∨(128≤r∧128≤z∧z<256):=by
  unfold Lib.encodeRuneZ at hz
  split at hz
  · simp at hz;omega
  split at hz
  · simp at hz;omega
  split at hz
  · simp at hz;omega
  split at hz
  · simp at hz;omega
  · omega
 have e:z.toNat.toUInt8.toNat=z.toNat:=by
  have:z.toNat<256:=by omega
  simp[Nat.toUInt8,UInt8.toNat_ofNat',Nat.mod_eq_of_lt this]
 rw[e]
 omega
theorem valid_ascii {c:UInt8} (h:c.toNat<128) (rest:List UInt8):Lib.validD (c::rest)=Lib.validD rest:=by
 rw[validD_step (by simp),decodeL_eq]
 have e:Lib.decodeN (c::rest).length ((c::rest).getD 0 0).toNat ((c::rest).getD 1 0).toNat ((c::rest).getD 2 0).toNat ((c::rest).getD 3 0).toNat=(c.toNat,1):=by
  unfold Lib.decodeN
  rw[if_pos (by simpa using h)]
  simp
 rw[e,if_neg (by simp only;omega)]
 rfl
theorem valid_asciis: ∀(a:List UInt8),(∀c ∈ a,c.toNat<128)→ ∀rest,Lib.validD (a++rest)=Lib.validD rest
 | [],_,rest=>rfl
 |c::a,h,rest=>by
  rw[List.cons_append,valid_ascii (h c (by simp))]
  exact valid_asciis a (fun x hx=>h x (by simp[hx])) rest
theorem u8_of {z:Int} (h0:0≤z) (h1:z<256):(z.toNat.toUInt8).toNat=z.toNat:=by
 have:z.toNat<256:=by omega
 simp[Nat.toUInt8,UInt8.toNat_ofNat',Nat.mod_eq_of_lt this]
theorem valid_of_dec {l:List UInt8} {r n:Nat} (hne:l≠ []) (h:Lib.decodeL l=(r,n)) (hn:n≠1):Lib.validD l=Lib.validD (l.drop n):=by
 rw[validD_step hne,h,if_neg (by simp only;omega)]
theorem valid_rune {r:Nat} (h:scalar r) (rest:List UInt8):Lib.validD (Lib.encodeRune (r:Int)++rest)=Lib.validD rest:=by
 unfold scalar at h
 by_cases c1:r<128
 · refine valid_asciis _ (fun c hc=> ?_) rest
   have:=encode_bytes (r:=r) (by unfold scalar;exact h) c hc
   omega
 unfold Lib.encodeRune
 by_cases c2:r<2048
 · rw[Lib.encodeRuneZ_two (by omega) (by omega)]
   simp only[List.map_cons,List.map_nil,List.cons_append,List.nil_append]
   have a1:((192+(r:Int) / 64).toNat.toUInt8).toNat=192+r / 64:=by rw[u8_of (by omega) (by omega)];omega
   have a2:((128+(r:Int) % 64).toNat.toUInt8).toNat=128+r % 64:=by rw[u8_of (by omega) (by omega)];omega
   generalize (192+(r:Int) / 64).toNat.toUInt8=x1 at*
   generalize (128+(r:Int) % 64).toNat.toUInt8=x2 at*
   refine valid_of_dec (l:=x1::x2::rest) (r:=r) (n:=2) (by simp) ?_ (by decide)
   rw[decodeL_eq]
   simp only[List.getD_cons_zero,List.getD_cons_succ,a1,a2,List.length_cons]
   unfold Lib.decodeN
   rw[if_neg (by omega),if_pos (by omega),if_pos (by omega)]
   exact Prod.ext (by simp only;omega) rfl
 by_cases c3:r<65536
 · rw[Lib.encodeRuneZ_three (by omega)]
   simp only[List.map_cons,List.map_nil,List.cons_append,List.nil_append]
   have a1:((224+(r:Int) / 4096).toNat.toUInt8).toNat=224+r / 4096:=by rw[u8_of (by omega) (by omega)];omega
   have a2:((128+(r:Int) / 64 % 64).toNat.toUInt8).toNat=128+r / 64 % 64:=by rw[u8_of (by omega) (by omega)];omega
   have a3:((128+(r:Int) % 64).toNat.toUInt8).toNat=128+r % 64:=by rw[u8_of (by omega) (by omega)];omega
   generalize (224+(r:Int) / 4096).toNat.toUInt8=x1 at*
   generalize (128+(r:Int) / 64 % 64).toNat.toUInt8=x2 at*
   generalize (128+(r:Int) % 64).toNat.toUInt8=x3 at*
   refine valid_of_dec (l:=x1::x2::x3::rest) (r:=r) (n:=3) (by simp) ?_ (by decide)
   rw[decodeL_eq]
   simp only[List.getD_cons_zero,List.getD_cons_succ,a1,a2,a3,List.length_cons]
   unfold Lib.decodeN
   have d1:r / 64 / 64=r / 4096:=by omega
   rw[if_neg (by omega),if_neg (by omega),if_pos (by omega),if_pos (by omega)]
   exact Prod.ext (by simp only;omega) rfl
 · rw[Lib.encodeRuneZ_four (by omega) (by omega)]
   simp only[List.map_cons,List.map_nil,List.cons_append,List.nil_append]
   have a1:((240+(r:Int) / 262144).toNat.toUInt8).toNat=240+r / 262144:=by rw[u8_of (by omega) (by omega)];omega
   have a2:((128+(r:Int) / 4096 % 64).toNat.toUInt8).toNat=128+r / 4096 % 64:=by rw[u8_of (by omega) (by omega)];omega
   have a3:((128+(r:Int) / 64 % 64).toNat.toUInt8).toNat=128+r / 64 % 64:=by rw[u8_of (by omega) (by omega)];omega
   have a4:((128+(r:Int) % 64).toNat.toUInt8).toNat=128+r % 64:=by rw[u8_of (by omega) (by omega)];omega
   generalize (240+(r:Int) / 262144).toNat.toUInt8=x0 at*
   generalize (128+(r:Int) / 4096 % 64).toNat.toUInt8=x1 at*
   generalize (128+(r:Int) / 64 % 64).toNat.toUInt8=x2 at*
   generalize (128+(r:Int) % 64).toNat.toUInt8=x3 at*
   refine valid_of_dec (l:=x0::x1::x2::x3::rest) (r:=r) (n:=4) (by simp) ?_ (by decide)
   rw[decodeL_eq]
   simp only[List.getD_cons_zero,List.getD_cons_succ,a1,a2,a3,a4,List.length_cons]
   unfold Lib.decodeN
   rw[if_neg (by omega),if_neg (by omega),if_neg (by omega),if_pos (by omega),if_pos (by omega)]
   exact Prod.ext (by simp only;omega) rfl
end Go.Proofs.YtackmnbpfbaemaaGreatDoor

namespace Go.Proofs.YtackmnbpfbaemaaGreatDoor
open Go.RowKit
theorem dec_rune {r:Nat} (h:scalar r) (rest:List UInt8):Lib.decodeL (Lib.encodeRune (r:Int)++rest)=(r,(Lib.encodeRune (r:Int)).length):=by
 unfold scalar at h
 by_cases c1:r<128
 · have e:Lib.encodeRune (r:Int)= [UInt8.ofNat r]:=by
    rw[encode_small (by omega) (by omega)];simp
   have hn:(UInt8.ofNat r).toNat=r:=by simp[UInt8.toNat_ofNat'];omega
   rw[e,decodeL_eq]
   show Lib.decodeN _ _ _ _ _=(r,1)
   unfold Lib.decodeN
   simp only[List.cons_append,List.nil_append,List.getD_cons_zero,hn]
   rw[if_pos c1]
 unfold Lib.encodeRune
 by_cases c2:r<2048
 · rw[Lib.encodeRuneZ_two (by omega) (by omega)]
   simp only[List.map_cons,List.map_nil,List.cons_append,List.nil_append,List.length_cons,List.length_nil]
   have a1:((192+(r:Int) / 64).toNat.toUInt8).toNat=192+r / 64:=by rw[u8_of (by omega) (by omega)];omega
   have a2:((128+(r:Int) % 64).toNat.toUInt8).toNat=128+r % 64:=by rw[u8_of (by omega) (by omega)];omega
   generalize (192+(r:Int) / 64).toNat.toUInt8=x1 at*
   generalize (128+(r:Int) % 64).toNat.toUInt8=x2 at*
   rw[decodeL_eq]
   simp only[List.getD_cons_zero,List.getD_cons_succ,a1,a2,List.length_cons]
   unfold Lib.decodeN
   rw[if_neg (by omega),if_pos (by omega),if_pos (by omega)]
   exact Prod.ext (by simp only;omega) rfl
 by_cases c3:r<65536
 · rw[Lib.encodeRuneZ_three (by omega)]
   simp only[List.map_cons,List.map_nil,List.cons_append,List.nil_append,List.length_cons,List.length_nil]
   have a1:((224+(r:Int) / 4096).toNat.toUInt8).toNat=224+r / 4096:=by rw[u8_of (by omega) (by omega)];omega
   have a2:((128+(r:Int) / 64 % 64).toNat.toUInt8).toNat=128+r / 64 % 64:=by rw[u8_of (by omega) (by omega)];omega
   have a3:((128+(r:Int) % 64).toNat.toUInt8).toNat=128+r % 64:=by rw[u8_of (by omega) (by omega)];omega
   generalize (224+(r:Int) / 4096).toNat.toUInt8=x1 at*
   generalize (128+(r:Int) / 64 % 64).toNat.toUInt8=x2 at*
   generalize (128+(r:Int) % 64).toNat.toUInt8=x3 at*
   rw[decodeL_eq]
   simp only[List.getD_cons_zero,List.getD_cons_succ,a1,a2,a3,List.length_cons]
   unfold Lib.decodeN
   have d1:r / 64 / 64=r / 4096:=by omega
   rw[if_neg (by omega),if_neg (by omega),if_pos (by omega),if_pos (by omega)]
   exact Prod.ext (by simp only;omega) rfl
 · rw[Lib.encodeRuneZ_four (by omega) (by omega)]
   simp only[List.map_cons,List.map_nil,List.cons_append,List.nil_append,List.length_cons,List.length_nil]
   have a1:((240+(r:Int) / 262144).toNat.toUInt8).toNat=240+r / 262144:=by rw[u8_of (by omega) (by omega)];omega
   have a2:((128+(r:Int) / 4096 % 64).toNat.toUInt8).toNat=128+r / 4096 % 64:=by rw[u8_of (by omega) (by omega)];omega
   have a3:((128+(r:Int) / 64 % 64).toNat.toUInt8).toNat=128+r / 64 % 64:=by rw[u8_of (by omega) (by omega)];omega
   have a4:((128+(r:Int) % 64).toNat.toUInt8).toNat=128+r % 64:=by rw[u8_of (by omega) (by omega)];omega
   generalize (240+(r:Int) / 262144).toNat.toUInt8=x0 at*
   generalize (128+(r:Int) / 4096 % 64).toNat.toUInt8=x1 at*
   generalize (128+(r:Int) / 64 % 64).toNat.toUInt8=x2 at*
   generalize (128+(r:Int) % 64).toNat.toUInt8=x3 at*
   rw[decodeL_eq]
   simp only[List.getD_cons_zero,List.getD_cons_succ,a1,a2,a3,a4,List.length_cons]
   unfold Lib.decodeN
   rw[if_neg (by omega),if_neg (by omega),if_neg (by omega),if_pos (by omega),if_pos (by omega)]
   exact Prod.ext (by simp only;omega) rfl
theorem encode_ne (r:Int):Lib.encodeRune r≠ []:=by
 unfold Lib.encodeRune Lib.encodeRuneZ
 repeat' split
 all_goals simp
def unhex (c:UInt8):Nat:=if c.toNat<58 then c.toNat - 48 else c.toNat - 87
def unlet (c:UInt8):Nat:=if c.toNat=98 then 8 else if c.toNat=116 then 9 else if c.toNat=110 then 10 else if c.toNat=102 then 12 else if c.toNat=114 then 13 else c.toNat
theorem small_esc: ∀r:Fin 128,(r.val<32∨r.val=34∨r.val=92)→((quoteRune r.val).getD 0 0=92∧(((quoteRune r.val).length=2∧(quoteRune r.val).getD 1 0≠117∧unlet ((quoteRune r.val).getD 1 0)=r.val)∨
 ((quoteRune r.val).length=6∧(quoteRune r.val).getD 1 0=117∧unhex ((quoteRune r.val).getD 4 0)*16+unhex ((quoteRune r.val).getD 5 0)=r.val))):=by decide+kernel
theorem quoteRune_first {r:Nat} (h:scalar r): ∃c y,quoteRune r=c::y∧c≠34:=by
 by_cases hp:32≤r∧r≠34∧r≠92
 · have e:quoteRune r=Lib.encodeRune r:=by unfold quoteRune;rw[if_pos hp]
   rw[e]
   have hb:=encode_bytes h
   cases he:Lib.encodeRune (r:Int)with
   |nil=>exact absurd he (encode_ne r)
   |cons c y=>
    rw[he]at hb
    have:=hb c (by simp)
    refine⟨c,y,rfl,fun e'=> ?_⟩
    subst e'
    have e2:(34:UInt8).toNat=34:=rfl
    omega
 · obtain⟨h0,h1⟩:=small_esc ⟨r,by omega⟩ (by simp only;omega)
   simp only at h0 h1
   cases he:quoteRune r with
   |nil=>rw[he]at h1;simp at h1
   |cons c y=>
    rw[he]at h0
    have h0':c=92:=h0
    exact⟨c,y,rfl,by rw[h0'];decide⟩
theorem runes_back: ∀(n:Nat) (l:List UInt8) (p:Nat),l.length≤n→Lib.validD l=true→(runesFrom n l p).flatMap (fun x=>Lib.encodeRune (x.2:Int))=l
 |0,l,p,h,_=>by
  have:l= []:=List.length_eq_zero_iff.1 (by omega)
  subst this
  rfl
 |n+1,l,p,h,hv=>by
  by_cases hl:l= []
  · subst hl;simp[runesFrom]
  · rw[validD_step hl]at hv
    split at hv
    · cases hv
    rename_i hg
    have hw:=Lib.decodeL_width l
    have hle:=Lib.decodeL_le l hl
    simp only[runesFrom]
    rw[if_neg hl,if_neg hg,List.flatMap_cons,Lib.encode_decode l hl hg,runes_back n _ _ (by rw[List.length_drop];omega) hv]
    exact List.take_append_drop _ _
end Go.Proofs.YtackmnbpfbaemaaGreatDoor
