/- Parts: A text's bytes: what '[]byte(s)' makes. No condition. -/
import Derived.RangeFuncOwn
import Derived.Sort.CutIn
import Derived.Shelf.Abstract
import Derived.Lib.UnsafeStr
import Derived.Test.YtolnhkmhfblhkaaGreatDoorKSn5
set_option maxHeartbeats 20000000
set_option maxRecDepth 100000
namespace Go.Proofs.YtolnhkmhfblhkaaGreatDoor
open Go.RowKit
attribute [local go_sem] Oper.semAt_some
theorem Ib (a:Option Addr) (n c:Nat) (w:World):Calls Tryz.prog 166 #[.slice a n c] w fun e w'=>e=.returned (.func (.func 207) #[] #[.pointer (some ⟨w.heap.size,0,none⟩)])/\w.alloc (.cells #[.slice a n c] 30)=w':=by
 go_enter Tryz.func166,Tryz.ntmps166;go_wp2;go_ret;exact⟨rfl,rfl⟩
theorem Gl (l:List UInt8) (a:Option Addr) (n c:Nat) (b B:Nat) (hl:l.length<=1000000000):
 Hh Tryz.prog 207 #[.pointer (some ⟨b,0,none⟩)] (fun x:UInt8=> #[.int .u8 x.toNat]) l (fun A=>A.cell? ⟨b,0,none⟩=some (.slice a n c)/\Ac A B (.row 1 (dB l)) [.slice a n c]):=by
 intro n0 l0 J W hJn hJb hY h0;have hc0:=(hJb _ _ h0).1;obtain rfl:=Jr (hJb _ _ h0).2;refine callsIn_of_wp Tryz.func207 rfl trivial ?_ rfl;simp only[Tryz.ntmps207,List.size_toArray,List.length_cons,List.length_nil,Nat.reduceAdd,Nat.reduceSub,Array.replicate_succ,Array.replicate_zero,List.push_toArray,List.append_toArray,List.nil_append,List.cons_append]
 gi_wp2
 gi_loopw [7] (fun i wr=> ∃(k:Nat),i=.int .i64 k/\k<=l.length/\J (l.take k) wr) (fun i _=>l.length - (intOf i).toNat)
 case atStart=>exact⟨0,rfl,Nat.zero_le _,h0⟩
 case round=>
  obtain⟨k,rfl,hk,hJ⟩:=hrel;by_cases hlt:k<l.length
  . obtain⟨x,hx⟩: ∃x,l[k]? =some x:=⟨_,List.getElem?_eq_getElem hlt⟩;obtain⟨g,off,rfl,hg,hcell⟩:=Eu (hJb _ _ hJ).2 hx;have hsp:l=l.take k++x::l.drop (k+1):=by
     obtain⟨_,rfl⟩:=List.getElem?_eq_some_iff.1 hx;rw[<-List.drop_eq_getElem_cons hlt,List.take_append_drop]
    have htk:l.take (k+1)=l.take k++ [x]:=by
     obtain⟨_,rfl⟩:=List.getElem?_eq_some_iff.1 hx;exact List.take_succ_eq_append_getElem hlt
    have hk1:(k:Int)<(l.length:Int):=by omega
    obtain⟨Hsp,Htk,Hx⟩:=hid3 hsp htk hx;clear hsp htk hx;obtain⟨fn,tmps,assign,body,hy,hR⟩:=hY (l.take k) x _ wr Hsp.out hJ
    gi_wp2
    refine hR.mono ?_;rintro e W3 ⟨rfl,hJ3⟩;clear hy hR
    gi_wp2
    go_roundw
    case rel=>exact⟨k+1,by go_num,by omega,by rw[Htk.out];exact hJ3⟩
    case measure=>simp[intOf];omega
  . obtain rfl:k=l.length:=by omega
    rw[List.take_length]at hJ
    gi_wp2
    go_end0
    exact⟨⟨_,rfl⟩,hJ⟩
theorem K0 (s:Nat) (h:s<4294967296):4294967295 ^^^ s=4294967295 - s:=by
 have h2:s<2 ^ 32:=by omega
 rw[show 4294967295 - s=2 ^ 32 - (s+1)from by omega,show(4294967295:Nat)=2 ^ 32 - 1 from rfl];apply Nat.eq_of_testBit_eq;intro i;rw[Nat.testBit_xor,Nat.testBit_two_pow_sub_one,Nat.testBit_two_pow_sub_succ h2];by_cases hi:i<32
 . simp[hi]
 . have:s.testBit i=false:=Nat.testBit_lt_two_pow (Nat.lt_of_lt_of_le h2 (Nat.pow_le_pow_right (by omega) (by omega)));simp[hi,this]
theorem Jd (s:Nat) (h:s<4294967296):bits .xor .u32 IntKind.u32.max (s:Int)=((4294967295 - s:Nat):Int):=by
 rw[<-K0 s h];exact u32_xor_nat 4294967295 s (by omega) h
abbrev Fu:Array Value:= #[.int .u32 (Aj 4 0:Nat),.int .u32 (Aj 4 1:Nat),.int .u32 (Aj 4 2:Nat),.int .u32 (Aj 4 3:Nat),.int .u32 (Aj 4 4:Nat),.int .u32 (Aj 4 5:Nat),.int .u32 (Aj 4 6:Nat),.int .u32 (Aj 4 7:Nat),.int .u32 (Aj 4 8:Nat),.int .u32 (Aj 4 9:Nat),.int .u32 (Aj 4 10:Nat),.int .u32 (Aj 4 11:Nat),.int .u32 (Aj 4 12:Nat),.int .u32 (Aj 4 13:Nat),.int .u32 (Aj 4 14:Nat),.int .u32 (Aj 4 15:Nat)]
theorem G4 (k:Nat) (h:k<16):Fu[k]? =some (.int .u32 (Aj 4 k:Nat)):=by
 match k,h with
 |0,_=>rfl|1,_=>rfl|2,_=>rfl|3,_=>rfl|4,_=>rfl|5,_=>rfl|6,_=>rfl|7,_=>rfl|8,_=>rfl|9,_=>rfl|10,_=>rfl|11,_=>rfl|12,_=>rfl|13,_=>rfl|14,_=>rfl|15,_=>rfl
 |k+16,h=>exact absurd h (by omega)
def CI (w:World) (T r0:Nat) (sv:Value) (pre:List UInt8) (W:World):Prop:=
 Below w.heap.size w W/\As W T 240 Fu/\As W (T+1) 122 #[.int .u32 (Bh r0 pre:Nat)]/\As W (T+2) 30 #[sv]
theorem As.put {w:World} {g k:Nat} {t:TypeId} {cs:Array Value} (h:As w g t cs) (hk:g≠k) (o:Obj):As (w.putObj k o) g t cs:=(World.putObj_heap_other (by omega)).trans h
theorem J2 {a w:World} {row:Option Nat} (h:a.grownBy w row):a.grownBy w.drew row:=⟨h.os,h.tape,h.output,h.size,h.block⟩
theorem F0 {a w:World} {g:Nat} (h:a.grownBy w (some g)) {p:Addr} (hp:p.block=g\/a.heap.size<=p.block) (u:Value):a.grownBy (w.setCell p u) (some g):=
 ⟨h.os,h.tape,h.output,by simpa[World.setCell]using h.size,fun i hi hne=>(Below.heap_setCell w p u i (by
   rintro rfl;rcases hp with hp|hp
   . exact hne (by rw[hp])
   . omega)).trans (h.block i hi hne)⟩
structure RegIs (W X:World) (R r:Nat):Prop where
 grown:W.grownBy X (some R)
 blk:As X R 122 #[.int .u32 r]
theorem RegIs.refl {W:World} {R r:Nat} (h:As W R 122 #[.int .u32 r]):RegIs W W R r:=⟨World.grownBy.refl W _,h⟩
theorem RegIs.drew {W X:World} {R r:Nat} (h:RegIs W X R r):RegIs W X.drew R r:=⟨J2 h.grown,h.blk⟩
theorem RegIs.set_ {W X:World} {R r:Nat} (h:RegIs W X R r) (r':Nat):RegIs W (X.setCell ⟨R,0,none⟩ (.int .u32 r')) R r':=⟨F0 h.grown (.inl rfl) _,h.blk.set_ 0 _⟩
theorem Ir (s:Nat) (hs:s<4294967296) (l:List UInt8) (a:Option Addr) (n c:Nat) (w:World) (h:Ac w w.heap.size (.row 1 (dB l)) [.slice a n c]) (hl:l.length<=1000000000):
 Calls Tryz.prog 123 #[.int .u32 s,.slice a n c] w fun e w'=>e=.returned (.int .u32 (Ap s l:Nat))/\Below w.heap.size w w':=by
 have hX0:=Jd s hs;obtain⟨r0,hr0⟩: ∃r,4294967295 - s=r:=⟨_,rfl⟩;have hr0l:r0<4294967296:=by omega
 rw[hr0]at hX0;have hm:Ap s l=4294967295 - Bh r0 l:=by unfold Ap;rw[hr0]
 have H:=qz h;clear h hr0;refine(callsIn_wide (n:=12)).1 ?_;refine callsIn_of_wp_marks Tryz.func123 rfl trivial ?_ rfl;simp only[Tryz.ntmps123,List.size_toArray,List.length_cons,List.length_nil,Nat.reduceAdd,Nat.reduceSub,Array.replicate_succ,Array.replicate_zero,List.push_toArray,List.append_toArray,List.nil_append,List.cons_append]
 gi_wp2_with (first|(refine⟨trivial, ?_⟩;gi_at_call 165;refine(callsIn_wide.2 (G2 _)).mono ?_;rintro e w1 ⟨rfl,hb1⟩)|(refine⟨trivial, ?_⟩;gi_at_call 166;refine(callsIn_wide.2 (Ib _ _ _ _)).mono ?_;rintro e w2 ⟨rfl,rfl⟩))
 have hz1:=hb1.size;have hI0:CI w w1.heap.size r0 (.slice a n c) [] (((w1.alloc (.cells Fu 240)).alloc (.cells #[.int .u32 r0] 122)).alloc (.cells #[.slice a n c] 30)):=by
  refine⟨(((hb1.alloc hz1 _).alloc (by simp;omega) _).alloc (by simp;omega) _),((As.new _ _ _).alloc _).alloc _, ?_, ?_⟩
  . have:=(As.new (w1.alloc (.cells Fu 240)) 122 #[.int .u32 r0]).alloc (.cells #[.slice a n c] 30)
    rwa [World.size_alloc]at this
  . have:=As.new ((w1.alloc (.cells Fu 240)).alloc (.cells #[.int .u32 r0] 122)) 30 #[.slice a n c]
    rwa [World.size_alloc,World.size_alloc]at this
 have hsz:w1.heap.size+3=(((w1.alloc (.cells Fu 240)).alloc (.cells #[.int .u32 r0] 122)).alloc (.cells #[.slice a n c] 30)).heap.size:=by simp
 have hyld:=Gl l a n c (w1.heap.size+2) w.heap.size hl;generalize w1.heap.size=T at*
 generalize ((w1.alloc _).alloc _).alloc _=w3 at*
 refine Dv (n:=10) (gf:=207) (lb:= #[.pointer (some ⟨T+2,0,none⟩)]) rfl (enters_of Tryz.func207 (by kernel_rfl) rfl) hyld (fun _=>rfl)
  (CI w T r0 (.slice a n c)) ?hIn ?hIp ?hIb ?h0 ?a1 ?assign ?body ?done
 case assign=>
  intro l x W K hK
  gi_wp2
  exact hK
 case h0=>exact hI0
 case hIb=>
  rintro pre A ⟨h1,_,_,h4⟩;exact⟨h4.cell 0,H.out.below h1⟩
 case hIn=>
  rintro pre A B ⟨h1,h2,h3,h4⟩ hb;exact⟨h1.trans (hb.mono h1.size),h2.below hb h2.lt,h3.below hb h3.lt,h4.below hb h4.lt⟩
 case hIp=>
  rintro pre A k o o' ⟨h1,h2,h3,h4⟩ ho hc hk;have hkw:w.heap.size<=k:=by omega
  exact⟨h1.grown (grownBy_putObj' A k o') (by have:=(Array.getElem?_eq_some_iff.1 ho).1;omega) (fun j e=>by cases e;exact hkw),h2.put (by omega) _,h3.put (by omega) _,h4.put (by omega) _⟩
 case body=>
  rintro lp pre x rest W hx ⟨h1,h2,h3,h4⟩ ⟨ds,hds⟩ ⟨rc,hrc⟩;obtain⟨r,hr⟩: ∃r,Bh r0 pre=r:=⟨_,rfl⟩;have hrl:r<4294967296:=by rw[<-hr];exact Dm pre hr0l
  have hxl:x.toNat<256:=x.toNat_lt;rw[hr]at h3;obtain⟨y,hy⟩: ∃y,x.toNat=y:=⟨_,rfl⟩;rw[hy]at hxl;obtain⟨r1,hr1⟩: ∃r1,r ^^^ y=r1:=⟨_,rfl⟩;have hX1:=u32_xor_nat r y hrl (by omega);rw[hr1]at hX1;have hl1:r1<4294967296:=by rw[<-hr1];exact Nat.xor_lt_two_pow (n:=32) hrl (by omega)
  obtain⟨k1,hk1⟩: ∃k,r1 % 16=k:=⟨_,rfl⟩;have hk1l:k1<16:=by omega
  have hA1:bits .and .u32 (r1:Int) 15=(k1:Int):=by rw[<-hk1,<-nat_mask4];exact u32_and_nat r1 15 hl1 (by omega)
  obtain⟨t1,ht1⟩: ∃t,Aj 4 k1=t:=⟨_,rfl⟩;have htl1:t1<4294967296:=by rw[<-ht1];exact D3 4 (by omega)
  obtain⟨r2,hr2⟩: ∃r,Lq r1=r:=⟨_,rfl⟩;have hB1:bits .xor .u32 ((r1:Int) / 16) (t1:Int)=(r2:Int):=by
   rw[show((r1:Int) / 16)=((r1 / 16:Nat):Int)from by omega,u32_xor_nat _ _ (by omega) htl1,<-hr2,<-ht1,<-hk1];rfl
  have hl2:r2<4294967296:=by rw[<-hr2,It];exact D3 4 hl1
  obtain⟨k2,hk2⟩: ∃k,r2 % 16=k:=⟨_,rfl⟩;have hk2l:k2<16:=by omega
  have hA2:bits .and .u32 (r2:Int) 15=(k2:Int):=by rw[<-hk2,<-nat_mask4];exact u32_and_nat r2 15 hl2 (by omega)
  obtain⟨t2,ht2⟩: ∃t,Aj 4 k2=t:=⟨_,rfl⟩;have htl2:t2<4294967296:=by rw[<-ht2];exact D3 4 (by omega)
  obtain⟨r3,hr3⟩: ∃r,Lq r2=r:=⟨_,rfl⟩;have hB2:bits .xor .u32 ((r2:Int) / 16) (t2:Int)=(r3:Int):=by
   rw[show((r2:Int) / 16)=((r2 / 16:Nat):Int)from by omega,u32_xor_nat _ _ (by omega) htl2,<-hr3,<-ht2,<-hk2];rfl
  have hfin:Bh r0 (pre++ [x])=r3:=by rw[Et,hr,hy,hr1,I2,<-K7,hr2,hr3]
  have d1:W.cell? ⟨T,k1,none⟩=some (.int .u32 t1):=(h2.cell k1).trans (by rw[G4 k1 hk1l,ht1]);have d2:W.cell? ⟨T,k2,none⟩=some (.int .u32 t2):=(h2.cell k2).trans (by rw[G4 k2 hk2l,ht2]);have dr:W.cell? ⟨T+1,0,none⟩=some (.int .u32 r):=h3.cell 0;have fr:W.frozen? ⟨T+1,0,none⟩=false:=h3.frozen 0;have i1:(0:Int)<=k1:=by omega
  have i2:(k1:Int)<16:=by omega
  have i3:(0:Int)<=k2:=by omega
  have i4:(k2:Int)<16:=by omega
  have hlt:=h4.lt;rw[hy];obtain⟨H1,H2,H3,H4,Hx,Hfin⟩:=hid6 h1 h2 h3 h4 hx hfin;clear h1 h2 h3 h4 hx hfin;obtain⟨Hds,Hrc⟩:=hid2 hds hrc;clear hds hrc;clear hr hy hr1 hk1 ht1 hr2 hk2 ht2 hr3
  gi_upto_region 6 with(fail)
  gi_cut []from 32 (fun wx=>RegIs W wx (T+1) r2)
  case first=>
   clear d2 hA2 hB2;have HR:=qz (((RegIs.refl H3.out).set_ r1).drew.set_ r2)
   gi_region
   all_goals(gi_wp2;gi_meet;exact HR.out)
  case rest=>
   have d2':wc.cell? ⟨T,k2,none⟩=some (.int .u32 t2):=(World.cell?_of_block (hcut.grown.block T (by omega) (by simp))).trans d2;have dr':wc.cell? ⟨T+1,0,none⟩=some (.int .u32 r2):=hcut.blk.cell 0;have fr':wc.frozen? ⟨T+1,0,none⟩=false:=hcut.blk.frozen 0;have HR:=qz ((hcut.drew).set_ r3);have fin: ∀(A:Act) (X:World),RegIs W X (T+1) r3->Fy (CI w T r0 (.slice a n c) (pre++ [x])) w3.heap.size W .normal A X:=by
    intro A X ⟨g1,g2⟩;have hw:=H1.out;have hlt':=(Array.getElem?_eq_some_iff.1 Hrc.out).1;exact⟨g1.block _ (by omega) (by simp;omega),g1.block _ (by omega) (by simp;omega),hw.grown g1 (by omega) (fun j e=>by cases e;omega),(g1.block T (by omega) (by simp)).trans H2.out,by rw[Hfin.out];exact g2,(g1.block (T+2) (by omega) (by simp)).trans H4.out⟩
   clear d2 d1 dr hA1 hB1;obtain⟨Hcut,Fin⟩:=hid2 hcut fin;clear hcut fin
   gi_wp2
   gi_region
   all_goals(gi_wp2;exact Fin.out _ _ HR.out)
 case done=>
  rintro W ⟨h1,h2,h3,h4⟩ hd;have hcl:=Dm l hr0l;generalize Bh r0 l=rl at h3 hm hcl;have hX9:=Jd rl hcl;have c9:W.cell? ⟨T+1,0,none⟩=some (.int .u32 rl):=h3.cell 0;obtain⟨m,hm2⟩: ∃m,4294967295 - rl=m:=⟨_,rfl⟩;rw[hm2]at hm hX9;clear hm2;have hww:w.heap.size<=w3.heap.size:=by omega
  obtain⟨H1,H2,H3,H4,Hm⟩:=hid5 h1 h2 h3 h4 hm;clear h1 h2 h3 h4 hm
  gi_wp2
  refine⟨by simp,.inl ⟨_,_,rfl,run_takeDeferred hd, ?_⟩⟩;refine⟨_,results_tmp rfl _ _ _,by rw[Hm.out];rfl, ?_⟩;exact(H1.out.grown (grownBy_putObj' W _ _) H1.out.size (fun k e=>by cases e;omega))
def Ah (l:List UInt8):List Value:=l.map fun x=> .int .u8 x.toNat
theorem Hs (l:List UInt8):(Ah l).length=l.length:=List.length_map ..
theorem Ho (l r:List UInt8):Ah (l++r)=Ah l++Ah r:=List.map_append ..
theorem Ht (l:List UInt8): ∀u ∈ Ah l,u.oneCell'=true:=by
 intro u hu;obtain⟨x,_,rfl⟩:=List.mem_map.1 hu;rfl
theorem Do (w:World) (B:Nat): ∀l,Aa w B (dB l) (Ah l)
 | []=>rfl
 |x::r=>⟨[.int .u8 x.toNat],Ah r,rfl,⟨rfl,rfl⟩,Do w B r⟩
theorem D5 {w:World} {B:Nat}: ∀{l:List UInt8} {ns:List Value},Aa w B (dB l) ns->ns=Ah l
 | [],_,h=>h
 |x::r,_,h=>by
  obtain⟨c1,c2,rfl,⟨rfl,_⟩,h2⟩:=h;rw[D5 h2];rfl
theorem Ct {w:World} {B n c:Nat} {l:List UInt8} {a:Option Addr} (h:Ac w B (.row 1 (dB l)) [.slice a n c]):n=l.length/\An w B 1 a n (Ah l):=by
 have hn:=Jr h;obtain⟨ns,h1,h2,_⟩:=h.reads;rw[D5 h2]at h1;exact⟨hn,h1⟩
theorem Ch {w:World} {g:Nat} {t:TypeId} {x:UInt8} (h:As w g t #[.int .u8 x.toNat]):An w (g+1) 1 (some ⟨g,0,none⟩) 1 (Ah [x]):=by
 refine⟨rfl,fun _=>⟨_,rfl,by simp,fun j u hu=> ?_⟩⟩
 match j,hu with
 |0,hu=>
  rw[show(⟨g,0,none⟩:Addr).add 0=⟨g,0,none⟩from rfl];exact(h.cell 0).trans hu
theorem Dz {b:Nat} {wr:World} {v:Value} {l:List UInt8} (h:wr.ownsRow b 5 1 v l.length (Ah l)):
 ∃a c,v=.slice a l.length (l.length+c)/\Av b wr (.row 1 (dB l)) [.slice a l.length (l.length+c)]:=by
 have h':=h;rcases h.2 with⟨rfl,h0⟩|⟨g,cap,cur,rfl,hbg,hg,hnc,_⟩
 . have hl:l= []:=List.eq_nil_of_length_eq_zero h0;subst hl;exact⟨none,0,rfl,fun _ _ _=>⟨none,0,rfl,Dn _, [],rfl,.inl rfl⟩⟩
 . have hgl:=(Array.getElem?_eq_some_iff.1 hg).1;obtain⟨d,rfl⟩:=Nat.exists_eq_add_of_le hnc;refine⟨_,d,rfl,fun w'' k1 k2=>⟨_,_,by rw[Fx],Dn _,Ah l,Do _ _ _,.inr ⟨g,0,rfl,hgl,fun j u hu=> ?_⟩⟩⟩;have h5:=h'.cells (g:=g) rfl j u hu;rw[Ci]at h5;exact(k2 _ hbg hgl).trans h5
theorem D2 {P:Program} {t t' e e':TypeId} {i:TypeInfo} (ht:P.underlying t=some (.slice e)) (ht':P.underlying t'=some (.slice e')) (hi:P.info? e=some i) (ty:TypeId) (b:Option Addr) (n c:Nat) (y:Value) (w:World):
 (Builtin.append_ #[t,t'] ty #[.slice b n c,y]).run P w=(Builtin.append_ #[t,t] ty #[.slice b n c,y]).run P w:=by
 simp[Builtin.append_,run_underlying ht,run_underlying ht',sizeOf,typeInfo,hi]
theorem Jj:(Tryz.prog.info? 5).map (fun i=>(i.zero,i.size,i.bytes))=some (some (.int .u8 0),1,1):=by kernel_rfl
theorem F9 {o:Oper} {a:Act} {w:World} {K:Act->World->Prop} {Q:Exit->Act->World->Prop} (s x:Operand) (t t' e':TypeId)
 (ho:o.op=.call {callee:=.builtin .append,args:= #[s,x],argTypes:= #[t,t']}) (ht:Tryz.prog.underlying t=some (.slice 5)) (ht':Tryz.prog.underlying t'=some (.slice e'))
 (base:Nat) (v:Value) (l:List UInt8) (hs:a.eval s=v) (hown:w.ownsRow base 5 1 v l.length (Ah l))
 (B:Nat) (A:Option Addr) (m c:Nat) (r:List UInt8) (hx:a.eval x=.slice A m c) (hr:An w B 1 A m (Ah r)) (hlen:l.length+r.length<=4000000000) (hbase:base<=w.heap.size)
 (h: ∀v' w',w'.ownsRow base 5 1 v' (l++r).length (Ah (l++r))->w.grownBy w' v.ownBlock->(v'.ownBlock=v.ownBlock\/v'.ownBlock=some w.heap.size)->K (a.put o.dst v') w'):o.wp Tryz.prog a w K Q:=by
 obtain⟨i0,hi,hz,hz1,hz2⟩:=info_parts Jj;have hm:m=r.length:=by have:=hr.1;rw[Hs]at this;omega
 subst hm;obtain⟨v',w',hrun,h2,h3,h4⟩:=Cy (P:=Tryz.prog) w base t o.type 5 i0 (.int .u8 0) 1 1 ht hi hz hz1 hz2 rfl (by omega) v l.length (Ah l) hown B A _ c (Ah r) hr (Ht r)
  (by simp only[maxLen];omega) (by omega) hbase
 obtain⟨b0,n0,c0,rfl⟩: ∃b0 n0 c0,v=.slice b0 n0 c0:=by
  rcases hown.2 with⟨rfl,_⟩|⟨g,cap,cur,rfl,_⟩<;>exact⟨_,_,_,rfl⟩
 rw[<-D2 ht ht' hi]at hrun;unfold Oper.wp execOp;simp only[ho,resolve,invoke,builtin,Sem.run_bind,Sem.run_pure,Result.andThen_ok,List.map_toArray,List.map_cons,List.map_nil,hs,hx,hrun];exact h v' w' (by rw[List.length_append,Ho];exact h2) h3 h4
theorem Ai {ops:Array Oper} {rest:List Oper} {o:Oper} {a:Act} {w:World} {Q:Exit->Act->World->Prop} (hgd:o.guard=none) (s x:Operand) (t t' e':TypeId)
 (ho:o.op=.call {callee:=.builtin .append,args:= #[s,x],argTypes:= #[t,t']}) (ht:Tryz.prog.underlying t=some (.slice 5)) (ht':Tryz.prog.underlying t'=some (.slice e'))
 (base:Nat) (v:Value) (l:List UInt8) (hs:a.eval s=v) (hown:w.ownsRow base 5 1 v l.length (Ah l))
 (B:Nat) (A:Option Addr) (m c:Nat) (r:List UInt8) (hx:a.eval x=.slice A m c) (hr:An w B 1 A m (Ah r)) (hlen:l.length+r.length<=4000000000) (hbase:base<=w.heap.size)
 (h: ∀v' w',w'.ownsRow base 5 1 v' (l++r).length (Ah (l++r))->w.grownBy w' v.ownBlock->(v'.ownBlock=v.ownBlock\/v'.ownBlock=some w.heap.size)->wpList Tryz.prog ops Q rest (a.put o.dst v') w'):wpList Tryz.prog ops Q (o::rest) a w:=
 wpList_plain hgd fun _ hK=>F9 s x t t' e' ho ht ht' base v l hs hown B A m c r hx hr hlen hbase fun v' w' h2 h3 h4=>hK _ _ (h v' w' h2 h3 h4)
theorem Ll (r c:Nat) (hr:r<4294967296) (w:World):Calls Tryz.prog 140 #[.int .u32 r,.int .u32 ((c:Int) % 2)] w fun e w'=>e=.returned (.int .u32 (Eg r (c % 2):Nat))/\w=w':=by
 have h:=Jv r (c % 2) hr (by omega) w;rw[show((c % 2:Nat):Int)=(c:Int) % 2 from by omega]at h;exact h
theorem La (r:Nat) (x:UInt8):K9 8 r x.toNat=st8 (r ^^^ x.toNat):=by rw[Kp 8 r _ (by have:=x.toNat_lt;omega),I2]
theorem K3 {r b:Nat} (hr:r<4294967296) (hb:b<2):Eg r b<4294967296:=by
 rw[Jb r b hb];exact Ks (Nat.xor_lt_two_pow (n:=32) hr (by omega))
theorem Gx (s:Nat) (hs:s<4294967296) (l:List UInt8) (a:Option Addr) (n c:Nat) (w:World) (h:Ac w w.heap.size (.row 1 (dB l)) [.slice a n c]) (hl:l.length<=1000000000):
 Calls Tryz.prog 91 #[.int .u32 s,.slice a n c] w fun e w'=>e=.returned (.int .u32 (Ap s l:Nat))/\w=w':=by
 obtain rfl:=Jr h;obtain⟨r0,hr0⟩: ∃r,4294967295 - s=r:=⟨_,rfl⟩;have e0:(4294967295:Int) - (s:Int)=(r0:Int):=by omega
 have hr0l:r0<4294967296:=by omega
 have Hm:=qz (show Ap s l=4294967295 - Bh r0 l from by unfold Ap;rw[hr0]);obtain⟨E0,H⟩:=hid2 e0 h;clear h;clear e0 hr0;go_enter Tryz.func91,Tryz.ntmps91;go_wp2_with (fail)
 go_loop [5,6] (fun r i=> ∃k:Nat,k<=l.length/\i=.int .i64 k/\r=.int .u32 (Bh r0 (l.take k):Nat)) (fun _ i=>l.length - (intOf i).toNat)
 case atStart=>exact⟨0,Nat.zero_le _,rfl,by rw[E0.out];rfl⟩
 case round=>
  obtain⟨k,hk,rfl,rfl⟩:=hrel;by_cases hlt:k<l.length
  . obtain⟨x,hx⟩: ∃x,l[k]? =some x:=⟨_,List.getElem?_eq_getElem hlt⟩;obtain⟨g,off,rfl,hg,hcell⟩:=Eu H.out hx;have htk:l.take (k+1)=l.take k++ [x]:=by
     obtain⟨_,rfl⟩:=List.getElem?_eq_some_iff.1 hx;exact List.take_succ_eq_append_getElem hlt
    have hfin:K9 8 (Bh r0 (l.take k)) x.toNat=Bh r0 (l.take (k+1)):=by rw[htk,Et,La]
    have hRl:=Dm (l.take k) hr0l;have hXl:x.toNat<256:=x.toNat_lt;obtain⟨R9,hR9⟩: ∃R9,Bh r0 (l.take (k+1))=R9:=⟨_,rfl⟩;rw[hR9]at hfin;generalize Bh r0 (l.take k)=R at hfin hRl ⊢;generalize x.toNat=C at hfin hXl hcell;obtain⟨Hfin,Htk,Hx,HR9⟩:=hid4 hfin htk hx hR9;clear hfin htk hx hR9;go_wp2_with (fail)
    go_loop [5,7,8] (fun r c k=> ∃q r' c':Nat,q<=8/\k=.int .i64 q/\r=.int .u32 r'/\c=.int .u32 c'/\r'<4294967296/\c'<256/\Hid (K9 (8 - q) r' c'=R9)) (fun _ _ i=>8 - (intOf i).toNat)
    case atStart=>exact⟨0,R,C,by omega,rfl,rfl,rfl,hRl,hXl,Hfin⟩
    case round=>
     obtain⟨q,r',c',hq,rfl,rfl,rfl,hrl,hcl,hR⟩:=hrel;by_cases hq8:q<8
     . have hn:Hid (K9 (8 - (q+1)) (Eg r' (c' % 2)) (c' / 2)=R9):=by
        have:=hR.out;rw[show 8 - q=(8 - (q+1))+1 from by omega]at this;simp only[K9]at this;exact this
       have hl2:=K3 (b:=c' % 2) hrl (by omega);have hC:=qz (fun W=>Ll r' c' hrl W);clear hR;go_wp2_with (go_at_call 140;with_reducible refine(hC.out _).mono ?_;rintro e w2 ⟨rfl,rfl⟩)
       go_round
       case rel=>exact⟨q+1,Eg r' (c' % 2),c' / 2,by omega,by go_num,rfl,by go_num,hl2,by omega,hn⟩
       case measure=>simp[intOf];omega
     . obtain rfl:q=8:=by omega
       obtain rfl:r'=R9:=hR.out;clear hR;go_wp2
       go_round
       case rel=>exact⟨k+1,by omega,by go_num,by rw[HR9.out]⟩
       case measure=>simp[intOf];omega
  . obtain rfl:k=l.length:=by omega
    rw[List.take_length];have hcl:=Dm l hr0l;have E9:=qz (show(4294967295:Int) - (Bh r0 l:Int)=((Ap s l:Nat):Int)from by rw[Hm.out];omega);go_wp2;go_ret;exact⟨by rw[<-E9.out];rfl,rfl⟩
theorem Fs (l:List UInt8) (a:Option Addr) (n c:Nat) (w:World) (h:Ac w w.heap.size (.row 1 (dB l)) [.slice a n c]) (hl:l.length<=1000000000):
 Calls Tryz.prog 72 #[.slice a n c] w fun e w'=>e=.returned (.int .u32 (Ap 0 l:Nat))/\Below w.heap.size w w':=by
 have hC:=Ir 0 (by omega) l a n c w h hl;rw[show((0:Nat):Int)=0 from rfl]at hC;obtain⟨HC,H⟩:=hid2 hC h;clear hC h;go_enter Tryz.func72,Tryz.ntmps72;go_wp2_with (go_at_call 123;with_reducible refine(HC.out).mono ?_;rintro e w2 ⟨rfl,hb⟩);go_ret;exact⟨rfl,hb⟩
theorem Iz (l:List UInt8) (a:Option Addr) (n c:Nat) (w:World) (h:Ac w w.heap.size (.row 1 (dB l)) [.slice a n c]) (hl:l.length<=1000000000):
 Calls Tryz.prog 50 #[.slice a n c] w fun e w'=>e=.returned (.int .u32 (Ap 0 l:Nat))/\w=w':=by
 have hC:=Gx 0 (by omega) l a n c w h hl;rw[show((0:Nat):Int)=0 from rfl]at hC;obtain⟨HC,H⟩:=hid2 hC h;clear hC h;go_enter Tryz.func50,Tryz.ntmps50;go_wp2_with (go_at_call 91;with_reducible refine(HC.out).mono ?_;rintro e w2 ⟨rfl,rfl⟩);go_ret;exact⟨rfl,rfl⟩
def Be (l:List UInt8) (w:World) (e:Ending) (w':World):Prop:= ∃a c,e=.returned (.slice a l.length (l.length+c))/\Av w.heap.size w' (.row 1 (dB l)) [.slice a l.length (l.length+c)]/\Below w.heap.size w w'
theorem Be.of {l:List UInt8} {w w':World} {v:Value} (h:w'.ownsRow w.heap.size 5 1 v l.length (Ah l)) (hb:Below w.heap.size w w'):Be l w (.returned v) w':=by
 obtain⟨a,c,rfl,hf⟩:=Dz h;exact⟨a,c,rfl,hf,hb⟩
def Ca (s:Nat):Nat->List UInt8
 |0=> []
 |n+1=>UInt8.ofNat (s % 256)::Ca (s / 256) n
theorem Fr (s:Nat):Ca s 4=Dt s:=by
 simp only[Ca,Dt,Nat.div_div_eq_div_mul]
theorem B0: ∀(n s:Nat),Ca s (n+1)=Ca s n++ [UInt8.ofNat (s / 256 ^ n % 256)]
 |0,s=>by simp[Ca]
 |n+1,s=>by
  rw[Ca,B0 n (s / 256),Ca];rw[Nat.div_div_eq_div_mul,<-Nat.pow_succ',List.cons_append]
theorem E4: ∀(n s:Nat),(Ca s n).length=n
 |0,_=>rfl
 |n+1,s=>by simp[Ca,E4 n]
theorem Du (x:Nat) (h:x<256):Value.int .u8 (x:Int)=.int .u8 ((UInt8.ofNat x).toNat:Nat):=by
 have:(UInt8.ofNat x).toNat=x:=by simp[UInt8.toNat_ofNat'];omega
 rw[this]
theorem Gy (l:List UInt8) (a:Option Addr) (n c:Nat) (w:World) (h:Ac w w.heap.size (.row 1 (dB l)) [.slice a n c]) (hl:l.length<=1000000000):
 Calls Tryz.prog 26 #[.slice a n c] w (Be (B7 l) w):=by
 obtain⟨hn,hR⟩:=Ct h;subst hn;obtain⟨H,HR⟩:=hid2 h hR;clear h hR;go_enter Tryz.func26,Tryz.ntmps26;go_wp2_with (at_builtin;refine Ai rfl (.tmp 6) (.tmp 7) 30 30 5 rfl Tryz.underlying30 Tryz.underlying30 w.heap.size (.slice none 0 0) [] rfl (World.ownsRow_nil _ _ _ _) _ a _ c l rfl HR.out (by simp;omega) (Nat.le_refl _) ?_;intro v1 w1 hown1 hg1 hat1);have hb1:Below w.heap.size w w1:=(Below.refl _ _).grown hg1 (Nat.le_refl _) (by simp[Value.ownBlock]);rw[List.nil_append]at hown1;have hC:=Iz l a l.length c w1 ((H.out.below hb1).more hb1.size) hl;have hcl:=Df 0 l;have hsf:=Fr (Ap 0 l);obtain⟨s0,hs0⟩: ∃s0,Ap 0 l=s0:=⟨_,rfl⟩;rw[hs0]at hC hcl hsf;have Hfin:=qz (show B7 l=l++Ca s0 4 from by unfold B7;rw[hsf,hs0]);obtain⟨HC,Hown1,Hg1,Hb1,Hat1,Hsf,Hs0⟩:=hid7 hC hown1 hg1 hb1 hat1 hsf hs0;clear hC hown1 hg1 hb1 hat1 hsf hs0;go_wp2_with (go_at_call 50;with_reducible refine(HC.out).mono ?_;rintro e w2 ⟨rfl,rfl⟩);go_loopw [3,4,5] (fun v s i wr=> ∃k:Nat,k<=4/\i=.int .i64 k/\s=.int .u32 (s0 / 256 ^ k:Nat)/\Hid (wr.ownsRow w.heap.size 5 1 v (l++Ca s0 k).length (Ah (l++Ca s0 k)))/\Hid (Below w.heap.size w wr)) (fun _ _ i _=>4 - (intOf i).toNat)
 case atStart=>exact⟨0,by omega,rfl,by simp,by rw[show l++Ca s0 0=l from by simp[Ca]];exact Hown1,Hb1⟩
 case round=>
  obtain⟨k,hk,rfl,rfl,hown,hb⟩:=hrel;by_cases hlt:k<4
  . obtain⟨s1,hs1⟩: ∃s1,s0 / 256 ^ k=s1:=⟨_,rfl⟩;have hs1l:s1<4294967296:=by rw[<-hs1];exact Nat.lt_of_le_of_lt (Nat.div_le_self _ _) hcl
    have hnx:s0 / 256 ^ (k+1)=s1 / 256:=by rw[<-hs1,Nat.div_div_eq_div_mul,Nat.pow_succ]
    have hsn:(l++Ca s0 k)++ [UInt8.ofNat (s1 % 256)]=l++Ca s0 (k+1):=by rw[B0,hs1,List.append_assoc]
    rw[hs1];have hz:=hb.out.size;have hlen:=E4 k s0;have ecell:Value.int .u8 ((s1:Int) % 256)=.int .u8 ((UInt8.ofNat (s1 % 256)).toNat:Nat):=by rw[<-Du _ (by omega)];go_num
    have hlit:=(Ch (ecell▸As.new wr 5 #[.int .u8 ((s1:Int) % 256)]:As _ _ _ #[.int .u8 ((UInt8.ofNat (s1 % 256)).toNat:Nat)]));rw[<-ecell]at hlit;obtain⟨Hsn,Hnx,Hs1,Hlen,Hlit,Ecell⟩:=hid6 hsn hnx hs1 hlen hlit ecell;clear hsn hnx hs1 hlen hlit ecell;clear Hown1 Hb1;go_wp2_with (at_builtin;refine Ai rfl (.tmp 15) (.tmp 19) 30 30 5 rfl Tryz.underlying30 Tryz.underlying30 w.heap.size u3 _ rfl (hown.out.alloc _) _ _ _ _ [UInt8.ofNat (s1 % 256)] rfl Hlit.out (by have:=Hlen.out;simp;omega) (by simp;omega) ?_;intro v3 w3 hown3 hg3 hat3);have Hb3:Hid (Below w.heap.size w w3):=(hb.out.alloc (by omega) _).grown hg3 (by simp;omega) (fun j e=>(hown.out.lt j e).1);rw[Hsn.out]at hown3;have Hown3:=qz hown3;clear hown3;clear hown hb hg3 hat3 Hsn;go_wp2;go_roundw
    case rel=>exact⟨k+1,by omega,by go_num,by rw[Hnx.out];go_num,Hown3,Hb3⟩
    case measure=>simp[intOf];omega
  . obtain rfl:k=4:=by omega
    rw[<-Hfin.out]at hown;go_wp2;go_ret;exact Be.of hown.out hb.out
theorem Gh (w:World) (a:Addr) (n:Nat) (p:Addr):(w.freeze a n).cell? p=w.cell? p:=by
 unfold World.freeze
 split
 . rfl
 . unfold World.cell?
   simp only[Array.getElem?_modify];by_cases h:a.block=p.block
   . rw[if_pos h]
     cases hw:w.heap[p.block]? with
     |none=>rfl
     |some o=>cases o<;>rfl
   . rw[if_neg h]
theorem G0 (w:World) (a:Addr) (n:Nat):(w.freeze a n).heap.size=w.heap.size:=by
 unfold World.freeze
 split
 . rfl
 . simp
theorem F4 {P:Program} (src dst e:TypeId) (hs:P.underlying src=some .string) (hd:P.underlying dst=some (.slice e)) (he:P.underlying e=some (.int .u8)) (s:ByteArray) (w:World):
 ∃cap w',(convert src dst (.string s)).run P w=.ok (.slice (some ⟨w.heap.size,0,none⟩) s.size cap) w'/\Below w.heap.size w w'/\w'.heap.size=w.heap.size+1/\
  ∀(j:Nat) (x:UInt8),s.data.toList[j]? =some x->w'.cell? ⟨w.heap.size,j,none⟩=some (.int .u8 x.toNat):=by
 have key: ∀(W:World) (cap:Nat),Below w.heap.size w W->W.heap.size=w.heap.size-> ∃w',(do let a <-newRow e (s.data.map (fun b=>Value.int .u8 b.toNat)++Array.replicate (cap - s.size) (.int .u8 0));markStringish a;pure (Value.slice (some a) s.size cap):Sem Value).run P W=.ok (.slice (some ⟨w.heap.size,0,none⟩) s.size cap) w'/\Below w.heap.size w w'/\w'.heap.size=w.heap.size+1/\
  ∀(j:Nat) (x:UInt8),s.data.toList[j]? =some x->w'.cell? ⟨w.heap.size,j,none⟩=some (.int .u8 x.toNat):=by
  intro W cap hB hz;obtain⟨C,hC⟩: ∃C,s.data.map (fun b=>Value.int .u8 b.toNat)++Array.replicate (cap - s.size) (.int .u8 0)=C:=⟨_,rfl⟩;rw[hC];have hB1:Below w.heap.size w (W.alloc (.cells C e)):=hB.alloc (by omega) _;have hn:=heap_alloc_new W (.cells C e);have hsh:(W.alloc (.cells C e)).shape? W.heap.size=some (e,C.size):=by unfold World.shape?;rw[hn]
  refine⟨(W.alloc (.cells C e)).freeze ⟨W.heap.size,C.size,none⟩ 1, ?_,Lib.below_freeze hB1 (by simp[hz]) _,by rw[G0];simp[hz],fun j x hx=> ?_⟩
  . have hnew:Sem.run P (newRow e C) W=.ok ⟨W.heap.size,0,none⟩ (W.alloc (.cells C e)):=rfl;simp only[Sem.run_bind,hnew,Result.andThen_ok,markStringish,run_shape,hsh,run_freeze,Sem.run_pure];rw[hz]
  . rw[Gh,<-hz,cell_of_row _ _ _ _ _ _ hn,<-hC];have hj:=(List.getElem?_eq_some_iff.1 hx).1;rw[Array.getElem?_append_left (by simpa using hj),Array.getElem?_map];rw[<-Array.getElem?_toList,hx];rfl
 by_cases hf:(Question.appendCap s.size 0 e).forced=true
 . obtain⟨w',h1,h2⟩:=key w 0 (Below.refl _ _) rfl;refine⟨0,w', ?_,h2⟩;rw[<-h1];simp[convert,run_underlying hs,run_underlying hd,run_underlying he,Conv.stringToBytes,hf]
 . obtain⟨w',h1,h2⟩:=key w.drew ((Question.appendCap s.size 0 e).cut (w.tape w.drawn (Question.appendCap s.size 0 e))) (Below.refl _ _).drew rfl;refine⟨((Question.appendCap s.size 0 e).cut (w.tape w.drawn (Question.appendCap s.size 0 e))),w', ?_,h2⟩;rw[<-h1];simp[convert,run_underlying hs,run_underlying hd,run_underlying he,Conv.stringToBytes,hf]
theorem Gi {b g:Nat} {w':World} {l:List UInt8} {n cap:Nat} (hn:n=l.length) (hg:b<=g) (hlt:g<w'.heap.size) (h: ∀(j:Nat) (x:UInt8),l[j]? =some x->w'.cell? ⟨g,j,none⟩=some (.int .u8 x.toNat)):Av b w' (.row 1 (dB l)) [.slice (some ⟨g,0,none⟩) n cap]:=by
 subst hn;intro w'' k1 k2;refine⟨_,cap,by rw[Fx],Dn _,Ah l,Do _ _ _,.inr ⟨g,0,rfl,hlt,fun j u hu=> ?_⟩⟩;rw[k2 _ hg hlt,Nat.zero_add];unfold Ah at hu;rw[List.getElem?_map]at hu;obtain⟨x,hx,rfl⟩:=Option.map_eq_some_iff.1 hu;exact h j x hx
theorem El {P:Program} {ops:Array Oper} {rest:List Oper} {o:Oper} {a:Act} {w:World} {Q:Exit->Act->World->Prop} (hgd:o.guard=none) (src dst e:TypeId) (x:Operand)
 (ho:o.op=.convert src dst x) (hs:P.underlying src=some .string) (hd:P.underlying dst=some (.slice e)) (he:P.underlying e=some (.int .u8)) (s:ByteArray) (hx:a.eval x=.string s)
 (h: ∀cap w',Below w.heap.size w w'->Av w.heap.size w' (.row 1 (dB s.data.toList)) [.slice (some ⟨w.heap.size,0,none⟩) s.size cap]->wpList P ops Q rest (a.put o.dst (.slice (some ⟨w.heap.size,0,none⟩) s.size cap)) w'):wpList P ops Q (o::rest) a w:=
 wpList_plain hgd fun K hK=>by
  obtain⟨cap,w',h1,h2,h3,h4⟩:=F4 src dst e hs hd he s w;unfold Oper.wp execOp;simp only[ho,hx,Sem.run_bind,Sem.run_pure,Result.andThen_ok,h1];exact hK _ _ (h cap w' h2 (Gi (Lib.size_eq s) (Nat.le_refl _) (by omega) h4))
end Go.Proofs.YtolnhkmhfblhkaaGreatDoor
