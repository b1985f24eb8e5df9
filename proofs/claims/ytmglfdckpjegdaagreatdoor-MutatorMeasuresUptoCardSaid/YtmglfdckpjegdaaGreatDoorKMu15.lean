/- Parts: mutator.caught: the error by which a call left that was caught. No condition. -/
import Derived.Defers
import Derived.Recover
import Derived.Laws.Pointers
import Derived.Test.YtmglfdckpjegdaaGreatDoorKMu13
import Derived.Test.YtmglfdckpjegdaaGreatDoorKMu14
set_option maxHeartbeats 20000000
namespace Go.Proofs.YtmglfdckpjegdaaGreatDoor
open Go.RowKit
theorem le_of_lt {a b:ByteArray} (h:N4 b a=true):Vn a b=false:=by
 unfold Vn;have h1:=Ac5 h;unfold N4 at h1;rw[h1,Bool.false_or]
 cases e:(a.toList==b.toList)with
 |false=>rfl
 |true=>
  have:a=b:=Fq (by simpa using e);subst this;rw[I7]at h;cases h
theorem Ac8: ∀{l:List (ByteArray×Val)} {last:Option ByteArray} {d:Int},J5 l->(∀m ∈ l,Aw m.1=true/\Az m.2 d=0)->(∀q,last=some q-> ∀m ∈ l,N4 q m.1=true)->Ds l last d=0
 | [],_,_,_,_,_=>by simp[Ds]
 |(k,v)::r,last,d,ha,hm,hq=>by
  obtain⟨h1,h2⟩:=List.pairwise_cons.1 ha;obtain⟨m1,m2⟩:=hm (k,v) (by simp);have hP:Qr (k,v) last d=0:=by
   simp only[Qr];rw[if_pos m1]
   cases last with
   |none=>exact m2
   |some q=>
    have:=le_of_lt (hq q rfl (k,v) (by simp));simp only at this ⊢;rw[this,if_neg (by decide)];exact m2
  simp only[Ds];rw[if_pos hP];refine Ac8 h2 (fun m hm'=>hm m (by simp[hm'])) (fun q hq' m hm'=> ?_);obtain rfl:=Option.some.inj hq';exact h1 m hm'
theorem Ahq: ∀{l:List Val} {d:Int},(∀v ∈ l,Az v d=0)->Df l d=0
 | [],_,_=>by simp[Df]
 |v::r,d,h=>by
  simp only[Df];rw[if_pos (h v (by simp))];exact Ahq fun x hx=>h x (by simp[hx])
theorem Ve {k:ByteArray} {l:List (ByteArray×Val)}:Na k l=true ↔ k ∈ l.map (·.1):=by
 unfold Na;simp[List.any_eq_true]
theorem Wo {l:List (ByteArray×Val)} (h:(l.map (·.1)).Nodup):Fc l []=some (J0 l)/\J5 (J0 l)/\(J0 l).Perm l:=by
 unfold J0
 cases e:Fc l []with
 |none=>exact absurd (by rw[List.append_nil];exact h) (O4 e)
 |some o=>
  obtain⟨h1,h2⟩:=O5 e List.Pairwise.nil;rw[List.append_nil]at h2;exact⟨rfl,h1,h2⟩
theorem Aga {l:List (ByteArray×Val)} {k:ByteArray} {v:Val} (h:(l.map (·.1)).Nodup) (hk:Na k l=false):((l++ [(k,v)]).map (·.1)).Nodup:=by
 rw[List.map_append,List.nodup_append];refine⟨h,by simp,fun a ha b hb=> ?_⟩;simp only[List.map_cons,List.map_nil,List.mem_singleton]at hb;subst hb;intro e;subst e;rw[Ve.2 ha]at hk;cases hk
theorem Al2 {d:Int} (h:d<=64):Az O3 d=0:=by
 simp only[O3,Az,List.length_nil];rw[if_neg (by decide+kernel),if_neg (by omega),if_pos (by decide+kernel)];simp[Df,Ds]
theorem Adb (b:Bool) {d:Int} (h:d<=64):Az (J6 b) d=0:=by
 simp only[J6,Az,List.length_nil];rw[if_neg (by cases b<;>decide+kernel),if_neg (by omega),if_pos (by decide+kernel)];simp[Df,Ds]
theorem Aog (n:Int) {d:Int} (h:d<=64):Az (Sn n) d=0:=by
 simp only[Sn,Az,List.length_nil];rw[if_neg (by simp[Fy,Gx]),if_neg (by omega),if_pos (by decide+kernel)];simp[Df,Ds]
theorem Aoh {a:List UInt8} (ha:Lib.validD a=true) {d:Int} (h:d<=64):Az (Aei a) d=0:=by
 simp only[Aei,Az,List.length_nil];rw[if_neg (by simp[Fy]),if_neg (by omega),if_pos (by exact ha)];simp[Df,Ds]
theorem Ahr {l:List Val} {d:Int} (h:d<=64) (hl: ∀v ∈ l,Az v (d+1)=0):Az (Uc l) d=0:=by
 simp only[Uc,Az,List.length_nil];rw[if_neg (by simp[Fy,Gx]),if_neg (by omega),if_pos (by decide+kernel),if_pos (Ahq hl)];simp[Ds]
theorem Add {o:List (ByteArray×Val)} {d:Int} (h:d<=64) (ha:J5 o) (ho: ∀m ∈ o,Aw m.1=true/\Az m.2 (d+1)=0):Az (Su o) d=0:=by
 simp only[Su,Az,List.length_nil];rw[if_neg (by simp[Fy,Gx]),if_neg (by omega),if_pos (by decide+kernel),if_pos (by simp[Df])];exact Ac8 ha ho (fun q hq=>by cases hq)
def Rd.mayIt (d:Int):Rd Val->Prop
 | .ok v _=>Az v d=0
 | .bad _ _=>True
theorem Aof: ∀(f:Nat),(∀s p d,(Ch f s p d).mayIt d)/\(∀s p d,d<=64->(L2 f s p d).mayIt d)/\(∀s p d,d<=64->(P9 f s p d).mayIt d)/\
 (∀s p d acc,d<=64->(∀v ∈ acc,Az v (d+1)=0)->(Fa f s p d acc).mayIt d)/\
 (∀s p d acc,d<=64->(∀m ∈ acc,Aw m.1=true/\Az m.2 (d+1)=0)->(acc.map (·.1)).Nodup->(Cc f s p d acc).mayIt d)/\
 (∀s p d acc k,d<=64->(∀m ∈ acc,Aw m.1=true/\Az m.2 (d+1)=0)->(acc.map (·.1)).Nodup->Na k acc=false->Aw k=true->(Ie f s p d acc k).mayIt d):=by
 intro f
 induction f with
 |zero=>
  refine⟨fun s p d=> ?_,fun s p d _=> ?_,fun s p d _=> ?_,fun s p d acc _ _=> ?_,fun s p d acc _ _ _=> ?_,fun s p d acc k _ _ _ _ _=> ?_⟩
  . unfold Ch;trivial
  . unfold L2;trivial
  . unfold P9;trivial
  . unfold Fa;trivial
  . unfold Cc;trivial
  . unfold Ie;trivial
 |succ f ih=>
  obtain⟨iv,il,io,ii,im,ik⟩:=ih;refine⟨fun s p d=> ?_,fun s p d h=> ?_,fun s p d h=> ?_,fun s p d acc h hi=> ?_,fun s p d acc h hi hn=> ?_,fun s p d acc k h hi hn hk hv=> ?_⟩
  . unfold Ch
    cases hc:s[Ay s p]? with
    |none=>trivial
    |some c=>
     simp only
     split
     . trivial
     split
     . trivial
     rename_i hd;have hd':d<=64:=by omega
     split
     . exact il s _ d hd'
     split
     . exact io s _ d hd'
     split
     . cases hu:Fk s (Ay s p)with
       |bad e q=>trivial
       |ok a q=>exact Aoh (R7 hu).1 hd'
     split
     . unfold Ec
       split
       . exact Al2 hd'
       . trivial
     split
     . unfold Ec
       split
       . exact Adb true hd'
       . trivial
     split
     . unfold Ec
       split
       . exact Adb false hd'
       . trivial
     . cases hu:Eb s (Ay s p)with
       |bad e q=>trivial
       |ok n q=>exact Aog n hd'
  . unfold L2
    split
    . exact Ahr h (fun v hv=>by cases hv)
    . exact ii s _ d [] h (fun v hv=>by cases hv)
  . unfold P9
    split
    . exact Add h List.Pairwise.nil (fun v hv=>by cases hv)
    . exact im s _ d [] h (fun v hv=>by cases hv) (by simp)
  . unfold Fa;have hv:=iv s p (d+1)
    cases hr:Ch f s p (d+1)with
    |bad e q=>trivial
    |ok v q=>
     rw[hr]at hv;have e2: ∀x ∈ acc++ [v],Az x (d+1)=0:=by
      intro x hx;rcases List.mem_append.1 hx with hx|hx
      . exact hi x hx
      . simp only[List.mem_singleton]at hx;rw[hx];exact hv
     simp only
     split
     . exact ii s _ d _ h e2
     split
     . exact Ahr h e2
     . trivial
  . unfold Cc
    cases hr:Fk s (Ay s p)with
    |bad e q=>trivial
    |ok k q=>
     simp only
     split
     . trivial
     rename_i hk
     split
     . exact ik s _ d acc ⟨k.toArray⟩ h hi hn (by simpa using hk) (R7 hr).1
     . trivial
  . unfold Ie;have hm:=iv s p (d+1)
    cases hr:Ch f s p (d+1)with
    |bad e q=>trivial
    |ok v q=>
     rw[hr]at hm;have e2: ∀x ∈ acc++ [(k,v)],Aw x.1=true/\Az x.2 (d+1)=0:=by
      intro x hx;rcases List.mem_append.1 hx with hx|hx
      . exact hi x hx
      . simp only[List.mem_singleton]at hx;rw[hx];exact⟨hv,hm⟩
     have e3:=Aga (v:=v) hn hk;simp only
     split
     . exact im s _ d _ h e2 e3
     split
     . obtain⟨_,s2,s3⟩:=Wo e3;exact Add h s2 (fun m hm=>e2 m (s3.mem_iff.1 hm))
     . trivial
theorem Aj7 {f:Nat} {s:List UInt8} {p q:Nat} {d:Int} {v:Val} (h:Ch f s p d=.ok v q):Az v d=0:=by
 have:=(Aof f).1 s p d;rw[h]at this;exact this
theorem Sw {s:List UInt8} {v:Val} {q:Nat} (h:Fd s=.ok v q):Az v 1=0/\q=s.length/\v.bulk<=6*s.length/\Jg v:=by
 unfold Fd at h
 cases hr:Ch (4*s.length+4) s 0 1 with
 |bad e q=>rw[hr]at h;cases h
 |ok v' q'=>
  rw[hr]at h;simp only at h;have hw:=(Kp (4*s.length+4)).1 s 0 1 (Nat.zero_le _);have hs:=(Ajy (4*s.length+4)).1 s 0 1 (Nat.zero_le _);rw[hr]at hw hs;have h2:=Gr hw.2
  split at h
  . cases h
  . simp only[Rd.ok.injEq]at h;obtain⟨rfl,rfl⟩:=h;have h3:=hs.1;have h4:=hw.2;exact⟨Aj7 hr,by omega,by omega,hs.2.2⟩
abbrev Ap:Array Value:= #[.int .i64 0,.bool false,.int .i64 0,.string ⟨#[]⟩,.slice none 0 0,.slice none 0 0]
theorem Ge {B:Nat} {w4:World} {k:Int} {b:Bool} {n:Int} {t:ByteArray} {l:List Val} {o:List (ByteArray×Val)} {cs:List Value} (h:Au B w4 (dV (.mk k b n t l o)) cs): ∃la lc oa oc,cs= [.int .i64 k,.bool b,.int .i64 n,.string t,.slice la l.length lc,.slice oa o.length oc]:=by
 have h1:=B8 _ _ h.now;simp only[Ab]at h1;obtain⟨la,lc,oa,oc,e,_,_⟩:=h1;exact⟨la,lc,oa,oc,e⟩
theorem Bo {w:World} {g:Nat} {t:TypeId} {a0 a1 a2 a3 a4 a5:Value} (h:Al w g t #[a0,a1,a2,a3,a4,a5]):
 w.cell? ⟨g,0,none⟩=some a0/\w.cell? ⟨g,1,none⟩=some a1/\w.cell? ⟨g,2,none⟩=some a2/\w.cell? ⟨g,3,none⟩=some a3/\w.cell? ⟨g,4,none⟩=some a4/\w.cell? ⟨g,5,none⟩=some a5:=
 ⟨h.cell 0,h.cell 1,h.cell 2,h.cell 3,h.cell 4,h.cell 5⟩
theorem D8 {B:Nat} {w:World} {key:ByteArray} {v:Val} {cs:List Value} (h:Au B w (dV v) cs):Au B w (dP (key,v)) (.string key::cs):=fun w'' h1 h2=>⟨[.string key],cs,rfl,⟨rfl,rfl⟩,cs, [],by simp,h w'' h1 h2,rfl⟩
theorem Vs:(Tryz.prog.info? 63).map (fun i=>(i.zero,i.size,i.bytes))=some (some (.agg #[.string ⟨#[]⟩,.int .i64 0,.bool false,.int .i64 0,.string ⟨#[]⟩,.slice none 0 0,.slice none 0 0]),7,104):=by kernel_rfl
theorem Ax {fn:Func} {t:Tmp} {tmps:Array Value} {W:World} {R:Nat} {a0 a1 a2 a3 a4 a5:Value} (h:fn.results= #[.cell t 27]) (hp:tmps.getD t undef=.pointer (some ⟨R,0,none⟩)) (hx:Al W R 27 #[a0,a1,a2,a3,a4,a5]):
 (results fn tmps).run Tryz.prog W=.ok (.agg #[a0,a1,a2,a3,a4,a5]) W:=by
 obtain⟨c0,c1,c2,c3,c4,c5⟩:=Bo hx;clear hx;have hp':tmps[t]?.getD undef=.pointer (some ⟨R,0,none⟩):=by simpa using hp
 simp[results,h,hp',go_sem,c0,c1,c2,c3,c4,c5]
theorem Fl.slice_n {b:Nat} {t:TypeId} {s n:Nat} {wr:World} {l:List D} {V:Value} (h:Fl b t s wr l V) (hn:l.length=n): ∃a c,V=.slice a n c:=by
 subst hn;exact h.slice
theorem Ed {w w6:World} {R b:Nat} {t e:TypeId} {sz:Nat} {l:List D} {V:Value} {cs:Array Value} {wr:World} (h:Al w R t cs) (hg:w.grownBy w6 V.ownBlock) (hr:Fl b e sz wr l V) (hR:R<b):Al w6 R t cs:=
 h.grown hg fun e=>by have:=(hr.base R e.symm).1;omega
theorem Lv {w w6:World} {B b:Nat} {e:TypeId} {sz:Nat} {l:List D} {V:Value} {w0 wr:World} (h:Below B w0 w) (hg:w.grownBy w6 V.ownBlock) (hr:Fl b e sz wr l V) (hB:B<=b) (hBw:B<=w.heap.size):Below B w0 w6:=
 h.grown hg hBw fun k hk=>Nat.le_trans hB (hr.base k hk).1
theorem Lc (w:World) (a0 a1 a2 a3 a4 a5 a6:Value):Cy (w.alloc (.cells #[a0,a1,a2,a3,a4,a5,a6] 63)) (w.heap.size+1) 7 (some ⟨w.heap.size,0,none⟩) 1 [a0,a1,a2,a3,a4,a5,a6]:=Kk (Al.new w 63 #[a0,a1,a2,a3,a4,a5,a6])
theorem Wx:(Tryz.prog.info? 27).map (fun i=>(i.zero,i.size,i.bytes))=some (some (.agg #[.int .i64 0,.bool false,.int .i64 0,.string ⟨#[]⟩,.slice none 0 0,.slice none 0 0]),6,88):=by kernel_rfl
theorem Kl (w:World) (a0 a1 a2 a3 a4 a5:Value):Cy (w.alloc (.cells #[a0,a1,a2,a3,a4,a5] 27)) (w.heap.size+1) 6 (some ⟨w.heap.size,0,none⟩) 1 [a0,a1,a2,a3,a4,a5]:=Kk (Al.new w 27 #[a0,a1,a2,a3,a4,a5])
theorem Du {fn:Func} {t u:Tmp} {tmps:Array Value} {W:World} {R:Nat} {a0 a1 a2 a3 a4 a5:Value} (h:fn.results= #[.cell t 27,.tmp u]) (hp:tmps.getD t undef=.pointer (some ⟨R,0,none⟩)) (hx:Al W R 27 #[a0,a1,a2,a3,a4,a5]):
 (results fn tmps).run Tryz.prog W=.ok (.tuple #[.agg #[a0,a1,a2,a3,a4,a5],tmps.getD u undef]) W:=by
 obtain⟨c0,c1,c2,c3,c4,c5⟩:=Bo hx;clear hx;have hp':tmps[t]?.getD undef=.pointer (some ⟨R,0,none⟩):=by simpa using hp
 simp[results,h,hp',go_sem,c0,c1,c2,c3,c4,c5]
set_option maxRecDepth 100000 in
theorem Ux (p:Addr) (w:World):
 CallsD Tryz.prog 94 #[.pointer (some p)] .returning w fun e u' w'=>e=.returned (.tuple #[])/\u'=.returning/\w'=w:=by
 refine callsD_of_wpS Tryz.func94 rfl fun c₀ cs hu=> ?_;apply wpS_seq;apply wpS_region;simp[wpOpsS,go_sem,recoverD,hu,Tryz.ntmps94,Exit.thenS];refine wpS_of_wp ?_;go_wp2
 cases c₀
 simp_all[bodyPostS,results,Tryz.results94]
theorem Aaf (W:World) (v:Value):(Instr.typeAssert (.iface 137 v) 20 137 true).run Tryz.prog W=.ok (.tuple #[v,.bool true]) W:=by kernel_rfl
set_option maxRecDepth 100000 in
theorem Uy (p:Addr) (c x:Int) (w:World) (hc:w.cell? p=some (.int .i64 x)) (hz:w.frozen? p=false) (hp:p.block<w.heap.size):
 CallsD Tryz.prog 94 #[.pointer (some p)] (.panicking [{v:=.iface 137 (.agg #[.int .i64 c]),recovered:=false}]) w fun e u' w'=>
  e=.returned (.tuple #[])/\u'=.panicking [{v:=.iface 137 (.agg #[.int .i64 c]),recovered:=true}]/\w'=(w.alloc (.cells #[.int .i64 c] 137)).setCell p (.int .i64 c):=by
 have hta:=fun w=>Aaf w (.agg #[.int .i64 c]);have hz2:(w.alloc (.cells #[.int .i64 c] 137)).frozen? p=false:=((Aa w _).frozen hp).trans hz;refine callsD_of_wpS Tryz.func94 rfl fun c₀ cs hu=> ?_;apply wpS_seq;apply wpS_region;simp[wpOpsS,go_sem,recoverD,hu,Tryz.ntmps94,Exit.thenS];refine wpS_of_wp ?_;go_wp2
 cases c₀
 simp_all[bodyPostS,results,Tryz.results94]
theorem U1 {w w1:World} {o:Obj} (hb:Below (w.alloc o).heap.size (w.alloc o) w1):Below w.heap.size w w1:=(Aa w o).trans (hb.mono (by simp))
set_option maxRecDepth 100000 in
theorem Aaj (c:Int) (q:Addr) (w:World)
 (hdo: ∀W,Below w.heap.size w W->Calls Tryz.prog 61 #[.pointer (some q)] W fun e w'=>e=Xg c/\Below W.heap.size W w'):
 Calls Tryz.prog 51 #[.func (.func 61) #[] #[.pointer (some q)]] w fun e w'=>e=.returned (.int .i64 c)/\Below w.heap.size w w':=by
 have hmf: ∀(fn:Fn) (first cap:Array Value) (w:World),(Instr.makeFunc fn first cap).run Tryz.prog w=.ok (.func fn first cap) w:=fun _ _ _ _=>rfl;have hx:=Al.new w 31 #[.int .i64 0];have hD:=hdo _ (Aa w (.cells #[.int .i64 0] 31));have hlt:=hx.lt;by_cases h0:c=0
 . subst h0;rw[M7]at hD;obtain⟨HD,Hx⟩:=hid2 hD hx;clear hD hx;clear hdo
   go_enter_defers Tryz.func51,Tryz.ntmps51
   go_wp2_with (go_at_call 61;(with_reducible refine(HD.out).mono ?_);rintro e w1 ⟨rfl,hb1⟩;have hx1:=Hx.out.below hb1 hlt;have d0:=hx1.cell 0;have f0:=hx1.frozen 0);refine leaves_cons (f:=94) (args:= #[.pointer (some ⟨w.heap.size,0,none⟩)]) (by simp) (by simp[go_sem]) ?_;have hx2:=hx1.set_ 0 (.int .i64 0);have d2:=hx2.cell 0;refine(Ux ⟨w.heap.size,0,none⟩ _).mono ?_;rintro e u' w'' ⟨rfl,rfl,rfl⟩;simp[Leaves,settle,results,Tryz.results51,go_sem,d2];exact(U1 hb1).setCell (Nat.le_refl _) _
 . rw[Es h0]at hD;obtain⟨HD,Hx⟩:=hid2 hD hx;clear hD hx;clear hdo
   go_enter_defers Tryz.func51,Tryz.ntmps51
   go_wp2_with (go_at_call 61;(with_reducible refine(HD.out).mono ?_);rintro e w1 ⟨rfl,hb1⟩;have hx1:=Hx.out.below hb1 hlt;have d0:=hx1.cell 0;have f0:=hx1.frozen 0);refine leaves_cons (f:=94) (args:= #[.pointer (some ⟨w.heap.size,0,none⟩)]) (by simp) (by simp[go_sem]) ?_;have hx2:=(hx1.alloc (.cells #[.int .i64 c] 137)).set_ 0 (.int .i64 c);have d2:=hx2.cell 0;refine(Uy ⟨w.heap.size,0,none⟩ c 0 w1 (by simpa using d0) f0 hx1.lt).mono ?_;rintro e u' w'' ⟨rfl,rfl,rfl⟩;simp[Leaves,settle,results,Tryz.results51,go_sem,d2];exact((U1 hb1).alloc (U1 hb1).size _).setCell (Nat.le_refl _) _
end Go.Proofs.YtmglfdckpjegdaaGreatDoor
