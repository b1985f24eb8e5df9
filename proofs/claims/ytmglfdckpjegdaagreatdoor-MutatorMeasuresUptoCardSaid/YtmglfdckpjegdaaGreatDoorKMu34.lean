/- Parts: The mutators' reader of inc: what it makes of its members. Condition: at most 10^8 members. -/
import Derived.Test.YtmglfdckpjegdaaGreatDoorKMu29
import Derived.Test.YtmglfdckpjegdaaGreatDoorKMu30
set_option maxHeartbeats 20000000
namespace Go.Proofs.YtmglfdckpjegdaaGreatDoor
open Go Go.RowKit
def Zn (r:Val->Int×Mut) (v:Val):Int×Mut:=
 if Cf v≠6 then(9,Lp)else if Ji [Ai,An] [] (Bu v)=false then(10,Lp)else
 if Cf (At An (Bu v))≠4 then(9,Lp)else
 match Jq (Ep (At An (Bu v)))with
 |none=>(12,Lp)
 |some k=>
  if Cf (At Ai (Bu v))≠6 then(9,Lp)else if Ji (Ip k) (Ac7 k) (Bu (At Ai (Bu v)))=false then(10,Lp)else
  Bt r k (Bu (At Ai (Bu v)))
theorem O7 (f:Nat) (v:Val):Cn (f+1) v=Zn (Cn f) v:=rfl
theorem Acu {g:Val} {l:List Mut} (h:(Jp g l).1=0):kM (Jp g l).2=7:=by
 unfold Jp at h ⊢
 split at h
 . cases h
 rename_i h1;rw[if_neg h1]
 split at h
 . cases h
 rename_i h2;rw[if_neg h2]
 split at h
 . cases h
 rename_i h3;rw[if_neg h3]
 split at h
 . cases h
 rename_i h4;rw[if_neg h4];rfl
theorem Ae6 {f:Val->Int×Mut} {k:Int} {o:List (ByteArray×Val)} (h1:1<=k) (h7:k<=7) (h:(Bt f k o).1=0):kM (Bt f k o).2=k:=by
 rcases(show k=1\/k=2\/k=3\/k=4\/k=5\/k=6\/k=7 by omega)with rfl|rfl|rfl|rfl|rfl|rfl|rfl
 . rw[M3 f (.inl rfl)]at h ⊢
   split at h
   . cases h
   . rename_i h1;rw[if_neg h1];rfl
 . rw[Ph]at h ⊢
   split at h
   . cases h
   . rename_i h1;rw[if_neg h1];rfl
 . rw[Pi]at h ⊢
   split at h
   . cases h
   rename_i h1;rw[if_neg h1]
   split at h
   . cases h
   . rename_i h1;rw[if_neg h1];rfl
 . rw[Pg]at h ⊢
   split at h
   . cases h
   . rename_i h1;rw[if_neg h1];rfl
 . rw[M3 f (.inr rfl)]at h ⊢
   split at h
   . cases h
   . rename_i h1;rw[if_neg h1];rfl
 . rw[Nn]at h ⊢
   split at h
   . cases h
   rename_i h1;rw[if_neg h1]
   split at h
   . cases h
   . rename_i h1;rw[if_neg h1];rfl
 . rw[Pj]at h ⊢
   split at h
   . cases h
   rename_i h1;rw[if_neg h1]
   split at h
   . rename_i h2;exact absurd h h2
   rename_i h2;rw[if_neg h2]
   cases hf:As Me o with
   |none=>rfl
   |some g=>
    rw[hf]at h;exact Acu h
section
variable {α:Type} [DecidableEq α] {f:α->Value} {P:Program} {kt et t:TypeId} {w w':World} {g:Nat} {kv:List (α×Value)}
theorem Z5 {op:Oper} {a:Act} {K:Act->World->Prop} {Q:Exit->Act->World->Prop} (t:TypeId) (m x:Operand) (ho:op.op=.lookup t m x true) (Ky:MKey P kt f) (ht:P.underlying t=some (.map kt et)) (h:Da f w g kv) (hm:a.eval m=.map (some g))
 {k:α} (hx:a.eval x=f k) {z:Value} (hz: ∀w,(zeroValue et).run P w=.ok z w) {o:Option Value} (hv:Dt k kv=o) (hK:K (a.put op.dst (.tuple #[o.getD z,.bool o.isSome])) w):op.wp P a w K Q:=by
 have hrun:=Km Ky ht h k hz true;rw[hv]at hrun;unfold Oper.wp;simp only[execOp,ho,hm,hx];simp[hrun,Result.andThen];exact hK
end
theorem W5 {P:Program} {op:Oper} {a:Act} {w:World} {K:Act->World->Prop} {Q:Exit->Act->World->Prop} (y x:Operand) {t:TypeId} (ho:op.op=.call {callee:=.value y,args:= #[x],argTypes:= #[t]}) {fn:Nat} {caps:Array Value} (hf:a.eval y=.func (.func fn) #[] caps) {v:Value} (hx:a.eval x=v)
 (hcf: ∀(args:Array Value) (W:World),(callFunc fn args).run P W=.ok (.enter fn args) W)
 (h:Calls P fn (#[v]++caps) w fun e w'=>match e,w' with
   | .returned v,w''=>K (a.put op.dst v) w''
   | .panicked chain,w''=>Q (.panic chain) a w''
   | .outgrown,_=>LetsOut Q):op.wp P a w K Q:=by
 unfold Oper.wp execOp;simp only[ho,resolve,hf,hx,Deferred.ofValue,invoke,Sem.run_bind,Sem.run_pure,Result.andThen_ok,hcf,List.map_toArray,List.map_cons,List.map_nil,Oper.upon_enter];exact h
theorem Tv (w:World):(zeroValue 97).run Tryz.prog w=.ok (.agg #[.int .i64 0,.slice none 0 0,.nilFunc,.nilFunc]) w:=by kernel_rfl
theorem Anx (w:World) (p q:ByteArray) (x y:Int):Fld (w.alloc (.cells #[.string p,.int .i64 x,.string q,.int .i64 y] Tnd)) w.heap.size 0 [(p,x),(q,y)]:=by
 have hnd:=Al.new w Tnd #[.string p,.int .i64 x,.string q,.int .i64 y];refine⟨hnd.lt,fun j p e=> ?_,fun j p e=> ?_⟩
 . match j,e with
   |0,e=>cases e;exact hnd.cell 0
   |1,e=>cases e;exact hnd.cell 2
   |j+2,e=>simp at e
 . match j,e with
   |0,e=>cases e;exact hnd.cell 1
   |1,e=>cases e;exact hnd.cell 3
   |j+2,e=>simp at e
structure RV (w:World) (six:Array Value) (wr:World):Prop where
 below:Below w.heap.size w wr
 box:Al wr w.heap.size 27 six
 res:Al wr (w.heap.size+1) Ag Cx
theorem RV.call {w wr w':World} {six:Array Value} (h:RV w six wr) (hb:Below wr.heap.size wr w'):RV w six w':=⟨h.below.trans (hb.mono h.below.size),h.box.below hb h.box.lt,h.res.below hb h.res.lt⟩
structure RD (w:World) (six:Array Value) (Y:Nat) (sh:Array Value) (m:Mut) (cs:List Value) (M:Nat) (wx:World):Prop where
 rv:RV w six wx
 var:Al wx M Ag (.int .i64 0::cs).toArray
 sh_:Al wx Y 97 sh
 ne:w.heap.size+1<M
 neY:M≠Y
 dat:Ae (fun i=>w.heap.size<=i/\i≠M/\i≠w.heap.size+1) wx (dM m) (.int .i64 (kM m)::cs)
 len:cs.length=18
 one: ∀u ∈ cs,u.oneCell'=true
theorem Rv (k:Int) {cs:List Value} (h: ∀u ∈ cs,u.oneCell'=true): ∀u ∈ (Value.int .i64 k::cs).toArray.toList,u.oneCell'=true:=by
 intro u hu;rcases List.mem_cons.1 hu with rfl|hu
 . rfl
 . exact h u hu
theorem Aji (v:Value) (cs:List Value):Iw (Value.int .i64 0::cs).toArray 0 [v]=(v::cs).toArray:=by
 simp[Iw]
theorem W7.no {r:Int×Mut} {w w':World} {c:Int} (h:r.1=c) (hc:c≠0) (hb:Below w.heap.size w w'):W7 r w (Gg c) w':=⟨hb,by rw[if_pos (by omega),h]⟩
theorem Aiv {S:Nat->Prop} {k:Int} {o:List (ByteArray×Val)} {w:World}:Kq S k o [(Ai,0),(An,0)] w=fun e w'=>Below w.heap.size w w'/\
 if k≠6 then e=Gg 9 else if Ji [Ai,An] [] o=false then e=Gg 10 else ∃a c,e=.returned (.slice a o.length c)/\Ae (fun i=>S i\/w.heap.size<=i) w' (.row 7 (dO o)) [.slice a o.length c]:=by
 funext e w'
 unfold Kq;rw[Alf]
theorem Alg {S:Nat->Prop} {k:Int} {kd:Int} (h1:1<=kd) (h7:kd<=7) {o:List (ByteArray×Val)} {w:World}:Kq S k o (Cl kd) w=fun e w'=>Below w.heap.size w w'/\
 if k≠6 then e=Gg 9 else if Ji (Ip kd) (Ac7 kd) o=false then e=Gg 10 else ∃a c,e=.returned (.slice a o.length c)/\Ae (fun i=>S i\/w.heap.size<=i) w' (.row 7 (dO o)) [.slice a o.length c]:=by
 funext e w'
 unfold Kq;rw[Alh h1 h7]
set_option maxRecDepth 100000 in
theorem Ajp (r:Val->Int×Mut) (vk:Int) (vb:Bool) (vn:Int) (vt:ByteArray) (vl:List Val) (vo:List (ByteArray×Val)) (vla vlc voa voc) (g:Nat) (kv:List (ByteArray×Value)) (w:World)
 (hV:Holds w w.heap.size (dV (.mk vk vb vn vt vl vo)) [.int .i64 vk,.bool vb,.int .i64 vn,.string vt,.slice vla vl.length vlc,.slice voa vo.length voc]) (hb:(Val.mk vk vb vn vt vl vo).bulk<=100000000)
 (hM:Da Value.string w g kv) (h0: ∀a,Jq a=none->Dt a kv=none)
 (h1: ∀a k,Jq a=some k->1<=k/\k<=7/\ ∃(fn:Nat) (caps:Array Value) (gF wn:Nat) (wcaps:Array Value),Dt a kv=some (.agg #[.int .i64 k,.slice (some ⟨gF,0,none⟩) (Cl k).length (Cl k).length,.func (.func fn) #[] caps,.func (.func wn) #[] wcaps])/\Fld w gF 0 (Cl k)/\(∀(args:Array Value) (W:World),(callFunc fn args).run Tryz.prog W=.ok (.enter fn args) W)/\
   ∀W (a:Option Addr) (c:Nat),Below w.heap.size w W->Holds W W.heap.size (.row 7 (dO (Bu (At Ai vo)))) [.slice a (Bu (At Ai vo)).length c]->Calls Tryz.prog fn (#[.slice a (Bu (At Ai vo)).length c]++caps) W (On (Bt r k (Bu (At Ai vo))) W)):
 Calls Tryz.prog 53 #[.map (some g),.agg #[.int .i64 vk,.bool vb,.int .i64 vn,.string vt,.slice vla vl.length vlc,.slice voa vo.length voc]] w (W7 (Zn r (.mk vk vb vn vt vl vo)) w):=by
 have hI0:RV w #[.int .i64 vk,.bool vb,.int .i64 vn,.string vt,.slice vla vl.length vlc,.slice voa vo.length voc] ((w.alloc (.cells #[.int .i64 vk,.bool vb,.int .i64 vn,.string vt,.slice vla vl.length vlc,.slice voa vo.length voc] 27)).alloc (.cells Cx Ag)):=
  ⟨((Below.refl _ _).alloc (Nat.le_refl _) _).alloc (by simp) _,(Al.new w _ _).alloc _,by simpa using Al.new (w.alloc (.cells #[.int .i64 vk,.bool vb,.int .i64 vn,.string vt,.slice vla vl.length vlc,.slice voa vo.length voc] 27)) Ag Cx⟩
 obtain⟨wi,hwi⟩: ∃wi,(w.alloc (.cells #[.int .i64 vk,.bool vb,.int .i64 vn,.string vt,.slice vla vl.length vlc,.slice voa vo.length voc] 27)).alloc (.cells Cx Ag)=wi:=⟨_,rfl⟩;rw[hwi]at hI0;have hIm:=hI0.call (Aa wi (.cells #[.string Ai,.int .i64 0,.string An,.int .i64 0] Tnd));have hol:7*vo.length<=100000000:=by have:=Dj vo;simp only[Val.bulk]at hb;omega
 have hob: ∀key x,As key vo=some x->x.bulk<=100000000:=fun key x e=>by have h2:1+key.size+x.bulk<=Av vo:=Ef (E0 e);simp only[Val.bulk]at hb;omega
 have hMb:=L3 (fun i=>i<w.heap.size) vk vb vn vt vl vo vla vlc voa voc [(Ai,0),(An,0)] wi.heap.size 0 2 (wi.alloc (.cells #[.string Ai,.int .i64 0,.string An,.int .i64 0] Tnd)) ((Aat (Ae.of_old hV (Nat.le_refl _) (Below.refl _ _))).below hIm.below) (Anx wi Ai An 0 0) (by omega) (by decide);have hlen2:([(Ai,0),(An,0)]:List (ByteArray×Int)).length=2:=rfl;rw[hlen2,Aiv]at hMb;obtain⟨RES,hRES⟩: ∃r',Zn r (.mk vk vb vn vt vl vo)=r':=⟨_,rfl⟩;rw[hRES];unfold Zn at hRES;rw[show Cf (Val.mk vk vb vn vt vl vo)=vk from rfl,show Bu (Val.mk vk vb vn vt vl vo)=vo from rfl]at hRES;obtain⟨x0,x1,x2,x3,x4,x5⟩:=Bo hI0.box;have xl:=hI0.box.lt;obtain⟨HI0,HIm,HMb,Hol,Hob,HM,H0,H1⟩:=hid8 hI0 hIm hMb hol hob hM h0 h1;clear hI0 hIm hMb hol hob hM h0 h1;clear hlen2 hV;go_enter Tryz.func53,Tryz.ntmps53;go_upto_region 1 with(fail);clear hwi;go_wp2_with (fail);(with_reducible refine(HMb.out).mono ?_);rintro e w2 ⟨hb2,hr2⟩;have hI2:=HIm.out.call hb2;by_cases h6:vk≠6
 . rw[if_pos h6]at hr2 hRES;obtain rfl:=hr2;have hP:=W7.no (r:=RES) (c:=9) (by rw[<-hRES]) (by omega) hI2.below;have HP:=Lib.hid hP;clear hP;clear hb2 hI2 h6;go_wp2;exact⟨rfl,HP.out⟩
 rw[if_neg h6]at hr2 hRES;by_cases hfit:Ji [Ai,An] [] vo=false
 . rw[if_pos hfit]at hr2 hRES;obtain rfl:=hr2;have hP:=W7.no (r:=RES) (c:=10) (by rw[<-hRES]) (by omega) hI2.below;have HP:=Lib.hid hP;clear hP;clear hb2 hI2 h6 hfit;go_wp2;exact⟨rfl,HP.out⟩
 rw[if_neg hfit]at hr2 hRES;obtain⟨a2,c2,rfl,hrow2⟩:=hr2;have hF:=K6 vo a2 c2 ⟨#[97,114,103,115]⟩ w2 hrow2.now (by have:=Hol.out;omega);obtain⟨HI2,HF,Hrow2⟩:=hid3 hI2 hF hrow2;clear hI2 hF hrow2;clear hb2 h6 hfit x0 x1 x2 x3 x4 x5;dsimp only;go_upto_region 2 with(fail);go_wp2_with (fail);(with_reducible refine(HF.out).mono ?_);rintro e w3 hp;obtain⟨hb3,ak,ab,an,at',al,ao,ala,alc,aoa,aoc,hg,rfl,ha⟩:=hp.held;have hg':At Ai vo=.mk ak ab an at' al ao:=hg;have hba:(Val.mk ak ab an at' al ao).bulk<=100000000:=by
  rw[<-hg'];unfold At
  cases hf:As Ai vo with
  |none=>decide
  |some x=>exact Hob.out Ai x hf
 rw[hg',show Cf (Val.mk ak ab an at' al ao)=ak from rfl,show Bu (Val.mk ak ab an at' al ao)=ao from rfl]at hRES;have hh1:=H1.out;rw[hg',show Bu (Val.mk ak ab an at' al ao)=ao from rfl]at hh1;generalize (As ⟨#[97,114,103,115]⟩ vo).isSome=B;have hI3:=(HI2.out.call hb3).call (Aa w3 (.cells #[.int .i64 ak,.bool ab,.int .i64 an,.string at',.slice ala al.length alc,.slice aoa ao.length aoc] 27));have hx3:=Al.new w3 27 #[.int .i64 ak,.bool ab,.int .i64 an,.string at',.slice ala al.length alc,.slice aoa ao.length aoc];have ha3:Holds (w3.alloc (.cells #[.int .i64 ak,.bool ab,.int .i64 an,.string at',.slice ala al.length alc,.slice aoa ao.length aoc] 27)) w3.heap.size (dV (.mk ak ab an at' al ao)) [.int .i64 ak,.bool ab,.int .i64 an,.string at',.slice ala al.length alc,.slice aoa ao.length aoc]:=((ha.below hb3).more hb3.size).below (Aa _ _);have hrow3:=(Hrow2.out.below hb3).below (Aa w3 (.cells #[.int .i64 ak,.bool ab,.int .i64 an,.string at',.slice ala al.length alc,.slice aoa ao.length aoc] 27));have hT:=F8 vo a2 c2 ⟨#[110,97,109,101]⟩ (w3.alloc (.cells #[.int .i64 ak,.bool ab,.int .i64 an,.string at',.slice ala al.length alc,.slice aoa ao.length aoc] 27)) hrow3.now (by have:=Hol.out;omega);have hzA:w.heap.size+1<w3.heap.size:=Nat.lt_of_lt_of_le HI2.out.res.lt hb3.size;obtain⟨Z,hZ⟩: ∃Z,w3.heap.size=Z:=⟨_,rfl⟩;obtain⟨wj,hwj⟩: ∃wj,w3.alloc (.cells #[.int .i64 ak,.bool ab,.int .i64 an,.string at',.slice ala al.length alc,.slice aoa ao.length aoc] 27)=wj:=⟨_,rfl⟩;have hzj:wj.heap.size=Z+1:=by rw[<-hwj,<-hZ];simp
 rw[hwj]at hI3 hx3 ha3 hT;rw[hZ]at hx3 ha3 hzA;obtain⟨HI3,Hx3,Ha3,HT,Hh1,Hba,HzA⟩:=hid7 hI3 hx3 ha3 hT hh1 hba hzA;clear hI3 hx3 ha3 hT hh1 hba hzA;clear hp hb3 hg hg' ha hrow3 HF H1;dsimp only;go_upto_region 3 with(fail);clear hwj;go_wp2_with (fail);(with_reducible refine(HT.out).mono ?_);rintro e w4 ⟨hb4,rfl⟩;have hI4:=HI3.out.call hb4;have hx4:=Hx3.out.below hb4 Hx3.out.lt;have ha4:=Ha3.out.below (hb4.mono (by omega));rw[K9,Mn,show(⟨#[110,97,109,101]⟩:ByteArray)=An from rfl];generalize Cf (At An vo)=k at hRES ⊢;generalize Ep (At An vo)=nm at hRES ⊢;by_cases h4:k=4;rotate_left
 . rw[if_neg h4];rw[if_pos h4]at hRES;have hP:=W7.no (r:=RES) (c:=9) (by rw[<-hRES]) (by omega) hI4.below;have HP:=Lib.hid hP;clear hP;clear hb4 hI4 hx4 ha4 h4;go_wp2;exact⟨rfl,HP.out⟩
 subst h4;rw[if_pos rfl];rw[if_neg (by simp)]at hRES;have hM4:=HM.out.below hI4.below HM.out.lt;have hs4:=hb4.size;obtain⟨HI4,Hx4,Ha4,HM4⟩:=hid4 hI4 hx4 ha4 hM4;clear hI4 hx4 ha4 hM4;clear hb4;dsimp only
 iterate 2 go_step
 cases hk:Jq nm with
 |none=>
  rw[hk]at hRES;simp only at hRES;refine Z5 Dw (.tmp 22) (.tmp 24) rfl Ck Tryz.underlying58 HM4.out rfl rfl Tv (H0.out nm hk) ?_;have hN:=fun W=>Ju 12 W;have hP:=W7.no (r:=RES) (c:=12) (by rw[<-hRES]) (by omega) (HI4.out.call (Aa w4 (.cells #[.int .i64 0,.slice none 0 0,.nilFunc,.nilFunc] 97))).below;obtain⟨HP,HN⟩:=hid2 hP hN;clear hP hN;clear hRES;rw[show((none:Option Value).getD (.agg #[.int .i64 0,.slice none 0 0,.nilFunc,.nilFunc]))=.agg #[.int .i64 0,.slice none 0 0,.nilFunc,.nilFunc]from rfl,show(none:Option Value).isSome=false from rfl];dsimp only;go_upto_region 4 with(fail);go_wp2_with (fail);(with_reducible refine(HN.out _).mono ?_);rintro e w5 ⟨rfl,rfl⟩;go_wp2;exact⟨rfl,HP.out⟩
 |some kd=>
  rw[hk]at hRES;simp only at hRES;obtain⟨k1,k7,fn,caps,gF,wn,wcaps,hfind,hFld,hcf,hC⟩:=Hh1.out nm kd hk;refine Z5 Dw (.tmp 22) (.tmp 24) rfl Ck Tryz.underlying58 HM4.out rfl rfl Tv hfind ?_;have hY:=fun W=>D9 12 W;have hI5:=HI4.out.call (Aa w4 (.cells #[.int .i64 kd,.slice (some ⟨gF,0,none⟩) (Cl kd).length (Cl kd).length,.func (.func fn) #[] caps,.func (.func wn) #[] wcaps] 97));have hx5:=Hx4.out.alloc (.cells #[.int .i64 kd,.slice (some ⟨gF,0,none⟩) (Cl kd).length (Cl kd).length,.func (.func fn) #[] caps,.func (.func wn) #[] wcaps] 97);have hs5:=Al.new w4 97 #[.int .i64 kd,.slice (some ⟨gF,0,none⟩) (Cl kd).length (Cl kd).length,.func (.func fn) #[] caps,.func (.func wn) #[] wcaps];have ha5:=Ha4.out.below ((Aa w4 (.cells #[.int .i64 kd,.slice (some ⟨gF,0,none⟩) (Cl kd).length (Cl kd).length,.func (.func fn) #[] caps,.func (.func wn) #[] wcaps] 97)).mono (by omega));rw[show((some (Value.agg #[.int .i64 kd,.slice (some ⟨gF,0,none⟩) (Cl kd).length (Cl kd).length,.func (.func fn) #[] caps,.func (.func wn) #[] wcaps])).getD (.agg #[.int .i64 0,.slice none 0 0,.nilFunc,.nilFunc]))=.agg #[.int .i64 kd,.slice (some ⟨gF,0,none⟩) (Cl kd).length (Cl kd).length,.func (.func fn) #[] caps,.func (.func wn) #[] wcaps]from rfl,show(some (Value.agg #[.int .i64 kd,.slice (some ⟨gF,0,none⟩) (Cl kd).length (Cl kd).length,.func (.func fn) #[] caps,.func (.func wn) #[] wcaps])).isSome=true from rfl];obtain⟨HY,HI5,Hx5,Hs5,Ha5,HRES,HFld,HC,Hcf⟩:=hid9 hY hI5 hx5 hs5 ha5 hRES hFld hC hcf;clear hY hI5 hx5 hs5 ha5 hRES hFld hC hcf;clear hfind HI4 Hx4 Ha4 HM4 HM H0;dsimp only;go_upto_region 4 with(fail);go_wp2_with (fail);(with_reducible refine(HY.out _).mono ?_);rintro e w5 ⟨rfl,rfl⟩;have hY4:w4.heap.size<(w4.alloc (.cells #[.int .i64 kd,.slice (some ⟨gF,0,none⟩) (Cl kd).length (Cl kd).length,.func (.func fn) #[] caps,.func (.func wn) #[] wcaps] 97)).heap.size:=by simp
  have hYZ:Z<w4.heap.size:=by have:=hs4;omega
  have hYw:w.heap.size+1<Z:=HzA.out;generalize w4.alloc (.cells #[.int .i64 kd,.slice (some ⟨gF,0,none⟩) (Cl kd).length (Cl kd).length,.func (.func fn) #[] caps,.func (.func wn) #[] wcaps] 97)=w5 at HI5 Hx5 Hs5 Ha5 hY4 ⊢;generalize w4.heap.size=Y at Hs5 hY4 hYZ ⊢;have hS: ∀X,Al X Y 97 #[.int .i64 kd,.slice (some ⟨gF,0,none⟩) (Cl kd).length (Cl kd).length,.func (.func fn) #[] caps,.func (.func wn) #[] wcaps]->Al X Z 27 #[.int .i64 ak,.bool ab,.int .i64 an,.string at',.slice ala al.length alc,.slice aoa ao.length aoc]->(fun X=>X.cell? ⟨Y,1,none⟩=some (.slice (some ⟨gF,0,none⟩) (Cl kd).length (Cl kd).length)/\X.cell? ⟨Y,2,none⟩=some (.func (.func fn) #[] caps)/\X.cell? ⟨Z,0,none⟩=some (.int .i64 ak)/\X.cell? ⟨Z,1,none⟩=some (.bool ab)/\X.cell? ⟨Z,2,none⟩=some (.int .i64 an)/\X.cell? ⟨Z,3,none⟩=some (.string at')/\X.cell? ⟨Z,4,none⟩=some (.slice ala al.length alc)/\X.cell? ⟨Z,5,none⟩=some (.slice aoa ao.length aoc)) X:=fun X h1 h2=>⟨h1.cell 1,h1.cell 2,h2.cell 0,h2.cell 1,h2.cell 2,h2.cell 3,h2.cell 4,h2.cell 5⟩;have hS0:=hS _ Hs5.out Hx5.out;have hMb5:=fun(W:World) (hB:Below w5.heap.size w5 W)=>L3 (fun i=>i<W.heap.size) ak ab an at' al ao ala alc aoa aoc (Cl kd) gF 0 (Cl kd).length W (Aat (Ae.of_old (((Ha5.out.more (by omega)).below hB).more hB.size) (Nat.le_refl _) (Below.refl _ _))) ((HFld.out.below HI5.out.below).below hB) (by have h:=Hba.out;have:=Dj ao;simp only[Val.bulk]at h;omega) (by unfold Cl;repeat (first|decide|split));simp only[Alg k1 k7]at hMb5;obtain⟨HS,HMb5⟩:=hid2 hS hMb5;clear hS hMb5;have HIw5:=HI5;have Hxw5:=Hx5;have Hsw5:=Hs5;clear HI5 Hx5 Hs5;go_upto_region 5 with(fail);go_cut [10] (fun s wx=> ∃M cs,s=.pointer (some ⟨M,0,none⟩)/\Hid (RD w #[.int .i64 vk,.bool vb,.int .i64 vn,.string vt,.slice vla vl.length vlc,.slice voa vo.length voc] Y #[.int .i64 kd,.slice (some ⟨gF,0,none⟩) (Cl kd).length (Cl kd).length,.func (.func fn) #[] caps,.func (.func wn) #[] wcaps] (Bt r kd ao).2 cs M wx)/\Hid ((Bt r kd ao).1=0)/\Hid (Bt r kd ao=RES))
  case first=>
   refine wp_region_held_drew (S:=(fun X=>X.cell? ⟨Y,1,none⟩=some (.slice (some ⟨gF,0,none⟩) (Cl kd).length (Cl kd).length)/\X.cell? ⟨Y,2,none⟩=some (.func (.func fn) #[] caps)/\X.cell? ⟨Z,0,none⟩=some (.int .i64 ak)/\X.cell? ⟨Z,1,none⟩=some (.bool ab)/\X.cell? ⟨Z,2,none⟩=some (.int .i64 an)/\X.cell? ⟨Z,3,none⟩=some (.string at')/\X.cell? ⟨Z,4,none⟩=some (.slice ala al.length alc)/\X.cell? ⟨Z,5,none⟩=some (.slice aoa ao.length aoc))) (by kernel_rfl) hS0 (fun hHeld=> ?_);refine tkH 0 hHeld ?_;refine tkH 1 hHeld ?_;refine tkH 2 hHeld ?_;refine tkH 3 hHeld ?_;refine tkH 4 hHeld ?_;refine wpAnyH_ready (rs:= [5,7]) (by kernel_rfl) (by simp) ?_;refine AllReadyH.cons rfl (fun K hK=> ?_) (AllReadyH.cons rfl (fun K hK=> ?_) AllReadyH.nil)
   ·
    go_simp;(with_reducible refine(HMb5.out _ (Below.drew (Below.refl _ _))).mono ?_);rintro e w6 ⟨hbx,hr⟩;have hbw6:Below w5.heap.size w5 w6:=(Below.drew (Below.refl _ _)).trans hbx;have hIw6:=HIw5.out.call hbw6;have hxw6:=Hxw5.out.below hbw6 Hxw5.out.lt;have hsw6:=Hsw5.out.below hbw6 Hsw5.out.lt;have hzw6:w5.heap.size<=w6.heap.size:=hbw6.size;have hR:=HRES.out;by_cases h6:ak≠6
    . rw[if_pos h6]at hr hR;obtain rfl:=hr;have hP:=W7.no (r:=RES) (c:=9) (by rw[<-hR]) (by omega) hIw6.below;have HP:=Lib.hid hP;clear hP;clear hK hbx hbw6 hIw6 hxw6 hsw6 h6;go_wp2;exact⟨rfl,HP.out⟩
    rw[if_neg h6]at hr hR;by_cases hfit:Ji (Ip kd) (Ac7 kd) ao=false
    . rw[if_pos hfit]at hr hR;obtain rfl:=hr;have hP:=W7.no (r:=RES) (c:=10) (by rw[<-hR]) (by omega) hIw6.below;have HP:=Lib.hid hP;clear hP;clear hK hbx hbw6 hIw6 hxw6 hsw6 h6 hfit;go_wp2;exact⟨rfl,HP.out⟩
    rw[if_neg hfit]at hr hR;obtain⟨a6,c6,rfl,hrow⟩:=hr;have hSw6:=HS.out _ hsw6 hxw6;obtain⟨HR,HIw6,Hxw6,Hsw6,Hbw6,Hrow⟩:=hid6 hR hIw6 hxw6 hsw6 hbw6 hrow;clear hIw6 hxw6 hsw6 hbw6 hrow;refine hK.out _ _ hSw6 (fun hHeld=> ?_);clear hK K hbx h6 hfit hR
    try simp only[Act.put,tk1,tk2,tk3,tk4,tk5,tk6]
    refine wpAnyH_ready (rs:= [6,7]) (by kernel_rfl) (by simp) ?_;refine AllReadyH.cons rfl (fun K hK=> ?_) (AllReadyH.cons rfl (fun K hK=> ?_) AllReadyH.nil)
    ·
     refine W5 (.tmp 31) (.tmp 35) rfl (v:=.slice a6 ao.length c6) rfl rfl Hcf.out ?_;(with_reducible refine(HC.out w6 a6 c6 HIw6.out.below Hrow.out.now).mono ?_);rintro e w7 ⟨hbw7,hr⟩;have hIw7:=HIw6.out.call hbw7;have hxw7:=Hxw6.out.below hbw7 Hxw6.out.lt;have hsw7:=Hsw6.out.below hbw7 Hsw6.out.lt;have hzw7:w6.heap.size<=w7.heap.size:=hbw7.size;have hR:=HR.out;by_cases hc:(Bt r kd ao).1≠0
     . rw[if_pos hc]at hr;obtain rfl:=hr;have hP:=W7.no (r:=RES) (c:=(Bt r kd ao).1) (by rw[<-hR]) hc hIw7.below;generalize (Bt r kd ao).1=code at hP ⊢;have HP:=Lib.hid hP;clear hP;clear hK hbw7 hIw7 hxw7 hsw7 hc hR;go_wp2;exact⟨rfl,HP.out⟩
     rw[if_neg hc]at hr;obtain⟨cs,rfl,hf⟩:=hr;have hSw7:=HS.out _ hsw7 hxw7;have hcl:=hf.now.len;rw[Ct]at hcl;obtain⟨hl18,hone⟩:=hcl;have hl18:cs.length=18:=by simpa using hl18
     have hone: ∀u ∈ cs,u.oneCell'=true:=fun u hu=>hone u (List.mem_cons_of_mem _ hu);obtain⟨HIw7,Hxw7,Hsw7,Hbw7,Hone,Hc⟩:=hid6 hIw7 hxw7 hsw7 hbw7 hone hc;clear hIw7 hxw7 hsw7 hbw7 hone hc;refine hK.out _ _ hSw7 (fun hHeld=> ?_);clear hK K hR
     try simp only[Act.put,tk1,tk2,tk3,tk4,tk5,tk6]
     refine wpAnyH_ready (rs:= [7]) (by kernel_rfl) (by simp) ?_;refine AllReadyH.cons rfl (fun K hK=> ?_) AllReadyH.nil;go_simp;obtain⟨w8,hww8⟩: ∃x,(w7.alloc (.cells Cx Ag))=x:=⟨_,rfl⟩;have hbw8:Below w7.heap.size w7 w8:=hww8▸Aa _ _;have hvw8:Al w8 w7.heap.size Ag Cx:=hww8▸(Al.new w7 Ag Cx:Al (w7.alloc (.cells Cx Ag)) _ _ _);have hzw8:w8.heap.size=w7.heap.size+1:=by rw[<-hww8];simp
     rw[show(w7.alloc (.cells #[.int .i64 0,.string ⟨#[]⟩,.string ⟨#[]⟩,.int .i64 0,.bool false,.int .i64 0,.bool false,.int .i64 0,.string ⟨#[]⟩,.slice none 0 0,.slice none 0 0,.bool false,.int .i64 0,.bool false,.int .i64 0,.string ⟨#[]⟩,.slice none 0 0,.slice none 0 0,.slice none 0 0] Ag))=w8 from hww8];have hIw8:=HIw7.out.call hbw8;have hxw8:=Hxw7.out.below hbw8 Hxw7.out.lt;have hsw8:=Hsw7.out.below hbw8 Hsw7.out.lt;have hSw8:=HS.out _ hsw8 hxw8;obtain⟨HIw8,Hxw8,Hsw8,Hbw8,Hvw8⟩:=hid5 hIw8 hxw8 hsw8 hbw8 hvw8;clear hIw8 hxw8 hsw8 hbw8 hvw8;refine hK.out _ _ hSw8 (fun hHeld=> ?_);clear hK K hww8
     try simp only[Act.put,tk1,tk2,tk3,tk4,tk5,tk6]
     refine wpAnyH_ready (rs:= [8]) (by kernel_rfl) (by simp) ?_;refine AllReadyH.cons rfl (fun K hK=> ?_) AllReadyH.nil;have hMge:w.heap.size<=w7.heap.size:=by omega
     have hdat:=((Ae.of_fresh hf).mono (T:=fun i=>w.heap.size<=i/\i≠w7.heap.size/\i≠w.heap.size+1) (fun i h1 h2=>⟨by omega,by omega,by omega⟩)).below Hbw8.out;have hs19:Cx.size=(Value.int .i64 0::cs).toArray.size:=by simp[hl18]
     refine A4 (cs:=Cx) Ag (.tmp 10) (.tmp 36) rfl w7.heap.size 0 Hvw8.out (.agg (Value.int .i64 0::cs).toArray) rfl rfl (by simp only[Value.cells];rw[<-hs19];exact Nat.le_of_ble_eq_true rfl) (by simp only[Value.cells];rw[<-hs19];kernel_rfl) (by simp only[Value.cells];exact Rv 0 Hone.out) HIw8.out.below hMge ?_;intro wz hxz hbz hzz hfar;rw[show(Value.agg (Value.int .i64 0::cs).toArray).cells=(Value.int .i64 0::cs).toArray from by simp only[Value.cells],Dd Cx _ hs19]at hxz;have hIz:RV w #[.int .i64 vk,.bool vb,.int .i64 vn,.string vt,.slice vla vl.length vlc,.slice voa vo.length voc] wz:=⟨hbz,(hfar w.heap.size (by omega)).trans HIw8.out.box,(hfar (w.heap.size+1) (by omega)).trans HIw8.out.res⟩;have hsz:Al wz Y 97 _:=(hfar Y (by omega)).trans Hsw8.out;have hxz2:Al wz Z 27 _:=(hfar Z (by omega)).trans Hxw8.out;have hdz:=hdat.later (w':=wz) (by omega) fun p p1 _=>World.cell?_of_block (hfar _ p1.2.1);have HD:Hid (RD w #[.int .i64 vk,.bool vb,.int .i64 vn,.string vt,.slice vla vl.length vlc,.slice voa vo.length voc] Y #[.int .i64 kd,.slice (some ⟨gF,0,none⟩) (Cl kd).length (Cl kd).length,.func (.func fn) #[] caps,.func (.func wn) #[] wcaps] (Bt r kd ao).2 cs w7.heap.size wz):=Lib.hid ⟨hIz,hxz,hsz,by omega,by omega,hdz,hl18,Hone.out⟩;have hSz:=HS.out _ hsz hxz2;have hok0:(Bt r kd ao).1=0:=by have:=Hc.out;omega
     have HOK:=Lib.hid hok0;refine hK.out _ _ hSz (fun hHeld=> ?_);clear hK K hxz hbz hfar hIz hsz hxz2 hdz hSz hdat hs19 hok0
     try simp only[Act.put,tk1,tk2,tk3]
     refine wpAnyH_done (by kernel_rfl) ?_ _;go_wp2;go_meet;exact⟨_,cs,rfl,HD,HOK,HR⟩
    ·
     go_simp;obtain⟨w7,hww7⟩: ∃x,(w6.alloc (.cells Cx Ag))=x:=⟨_,rfl⟩;have hbw7:Below w6.heap.size w6 w7:=hww7▸Aa _ _;have hvw7:Al w7 w6.heap.size Ag Cx:=hww7▸(Al.new w6 Ag Cx:Al (w6.alloc (.cells Cx Ag)) _ _ _);have hzw7:w7.heap.size=w6.heap.size+1:=by rw[<-hww7];simp
     rw[show(w6.alloc (.cells #[.int .i64 0,.string ⟨#[]⟩,.string ⟨#[]⟩,.int .i64 0,.bool false,.int .i64 0,.bool false,.int .i64 0,.string ⟨#[]⟩,.slice none 0 0,.slice none 0 0,.bool false,.int .i64 0,.bool false,.int .i64 0,.string ⟨#[]⟩,.slice none 0 0,.slice none 0 0,.slice none 0 0] Ag))=w7 from hww7];have hIw7:=HIw6.out.call hbw7;have hxw7:=Hxw6.out.below hbw7 Hxw6.out.lt;have hsw7:=Hsw6.out.below hbw7 Hsw6.out.lt;have hSw7:=HS.out _ hsw7 hxw7;obtain⟨HIw7,Hxw7,Hsw7,Hbw7,Hvw7⟩:=hid5 hIw7 hxw7 hsw7 hbw7 hvw7;clear hIw7 hxw7 hsw7 hbw7 hvw7;refine hK.out _ _ hSw7 (fun hHeld=> ?_);clear hK K hww7
     try simp only[Act.put,tk1,tk2,tk3,tk4,tk5,tk6]
     refine wpAnyH_ready (rs:= [6]) (by kernel_rfl) (by simp) ?_;refine AllReadyH.cons rfl (fun K hK=> ?_) AllReadyH.nil;refine W5 (.tmp 31) (.tmp 35) rfl (v:=.slice a6 ao.length c6) rfl rfl Hcf.out ?_;(with_reducible refine(HC.out w7 a6 c6 HIw7.out.below (Hrow.out.below Hbw7.out).now).mono ?_);rintro e w8 ⟨hbw8,hr⟩;have hIw8:=HIw7.out.call hbw8;have hxw8:=Hxw7.out.below hbw8 Hxw7.out.lt;have hsw8:=Hsw7.out.below hbw8 Hsw7.out.lt;have hzw8:w7.heap.size<=w8.heap.size:=hbw8.size;have hR:=HR.out;by_cases hc:(Bt r kd ao).1≠0
     . rw[if_pos hc]at hr;obtain rfl:=hr;have hP:=W7.no (r:=RES) (c:=(Bt r kd ao).1) (by rw[<-hR]) hc hIw8.below;generalize (Bt r kd ao).1=code at hP ⊢;have HP:=Lib.hid hP;clear hP;clear hK hbw8 hIw8 hxw8 hsw8 hc hR;go_wp2;exact⟨rfl,HP.out⟩
     rw[if_neg hc]at hr;obtain⟨cs,rfl,hf⟩:=hr;have hSw8:=HS.out _ hsw8 hxw8;have hcl:=hf.now.len;rw[Ct]at hcl;obtain⟨hl18,hone⟩:=hcl;have hl18:cs.length=18:=by simpa using hl18
     have hone: ∀u ∈ cs,u.oneCell'=true:=fun u hu=>hone u (List.mem_cons_of_mem _ hu);obtain⟨HIw8,Hxw8,Hsw8,Hbw8,Hone,Hc⟩:=hid6 hIw8 hxw8 hsw8 hbw8 hone hc;clear hIw8 hxw8 hsw8 hbw8 hone hc;refine hK.out _ _ hSw8 (fun hHeld=> ?_);clear hK K hR
     try simp only[Act.put,tk1,tk2,tk3,tk4,tk5,tk6]
     have hv8:=Hvw7.out.below Hbw8.out Hvw7.out.lt;refine wpAnyH_ready (rs:= [8]) (by kernel_rfl) (by simp) ?_;refine AllReadyH.cons rfl (fun K hK=> ?_) AllReadyH.nil;have hMge:w.heap.size<=w6.heap.size:=by omega
     have hdat:=(Ae.of_fresh hf).mono (T:=fun i=>w.heap.size<=i/\i≠w6.heap.size/\i≠w.heap.size+1) (fun i h1 h2=>⟨by omega,by omega,by omega⟩);have hs19:Cx.size=(Value.int .i64 0::cs).toArray.size:=by simp[hl18]
     refine A4 (cs:=Cx) Ag (.tmp 10) (.tmp 36) rfl w6.heap.size 0 hv8 (.agg (Value.int .i64 0::cs).toArray) rfl rfl (by simp only[Value.cells];rw[<-hs19];exact Nat.le_of_ble_eq_true rfl) (by simp only[Value.cells];rw[<-hs19];kernel_rfl) (by simp only[Value.cells];exact Rv 0 Hone.out) HIw8.out.below hMge ?_;intro wz hxz hbz hzz hfar;rw[show(Value.agg (Value.int .i64 0::cs).toArray).cells=(Value.int .i64 0::cs).toArray from by simp only[Value.cells],Dd Cx _ hs19]at hxz;have hIz:RV w #[.int .i64 vk,.bool vb,.int .i64 vn,.string vt,.slice vla vl.length vlc,.slice voa vo.length voc] wz:=⟨hbz,(hfar w.heap.size (by omega)).trans HIw8.out.box,(hfar (w.heap.size+1) (by omega)).trans HIw8.out.res⟩;have hsz:Al wz Y 97 _:=(hfar Y (by omega)).trans Hsw8.out;have hxz2:Al wz Z 27 _:=(hfar Z (by omega)).trans Hxw8.out;have hdz:=hdat.later (w':=wz) (by omega) fun p p1 _=>World.cell?_of_block (hfar _ p1.2.1);have HD:Hid (RD w #[.int .i64 vk,.bool vb,.int .i64 vn,.string vt,.slice vla vl.length vlc,.slice voa vo.length voc] Y #[.int .i64 kd,.slice (some ⟨gF,0,none⟩) (Cl kd).length (Cl kd).length,.func (.func fn) #[] caps,.func (.func wn) #[] wcaps] (Bt r kd ao).2 cs w6.heap.size wz):=Lib.hid ⟨hIz,hxz,hsz,by omega,by omega,hdz,hl18,Hone.out⟩;have hSz:=HS.out _ hsz hxz2;have hok0:(Bt r kd ao).1=0:=by have:=Hc.out;omega
     have HOK:=Lib.hid hok0;refine hK.out _ _ hSz (fun hHeld=> ?_);clear hK K hxz hbz hfar hIz hsz hxz2 hdz hSz hdat hs19 hok0
     try simp only[Act.put,tk1,tk2,tk3]
     refine wpAnyH_done (by kernel_rfl) ?_ _;go_wp2;go_meet;exact⟨_,cs,rfl,HD,HOK,HR⟩
   ·
    go_simp;obtain⟨w6,hww6⟩: ∃x,(w5.alloc (.cells Cx Ag)).drew=x:=⟨_,rfl⟩;have hbw6:Below w5.heap.size w5 w6:=hww6▸(Below.drew (Aa _ _));have hvw6:Al w6 w5.heap.size Ag Cx:=hww6▸(Al.new w5 Ag Cx:Al (w5.alloc (.cells Cx Ag)) _ _ _);have hzw6:w6.heap.size=w5.heap.size+1:=by rw[<-hww6];simp
    rw[show(w5.alloc (.cells #[.int .i64 0,.string ⟨#[]⟩,.string ⟨#[]⟩,.int .i64 0,.bool false,.int .i64 0,.bool false,.int .i64 0,.string ⟨#[]⟩,.slice none 0 0,.slice none 0 0,.bool false,.int .i64 0,.bool false,.int .i64 0,.string ⟨#[]⟩,.slice none 0 0,.slice none 0 0,.slice none 0 0] Ag)).drew=w6 from hww6];have hIw6:=HIw5.out.call hbw6;have hxw6:=Hxw5.out.below hbw6 Hxw5.out.lt;have hsw6:=Hsw5.out.below hbw6 Hsw5.out.lt;have hSw6:=HS.out _ hsw6 hxw6;obtain⟨HIw6,Hxw6,Hsw6,Hbw6,Hvw6⟩:=hid5 hIw6 hxw6 hsw6 hbw6 hvw6;clear hIw6 hxw6 hsw6 hbw6 hvw6;refine hK.out _ _ hSw6 (fun hHeld=> ?_);clear hK K hww6
    try simp only[Act.put,tk1,tk2,tk3,tk4,tk5,tk6]
    refine wpAnyH_ready (rs:= [5]) (by kernel_rfl) (by simp) ?_;refine AllReadyH.cons rfl (fun K hK=> ?_) AllReadyH.nil;go_simp;(with_reducible refine(HMb5.out _ Hbw6.out).mono ?_);rintro e w7 ⟨hbx,hr⟩;have hbw7:Below w6.heap.size w6 w7:=hbx;have hIw7:=HIw6.out.call hbw7;have hxw7:=Hxw6.out.below hbw7 Hxw6.out.lt;have hsw7:=Hsw6.out.below hbw7 Hsw6.out.lt;have hzw7:w6.heap.size<=w7.heap.size:=hbw7.size;have hR:=HRES.out;by_cases h6:ak≠6
    . rw[if_pos h6]at hr hR;obtain rfl:=hr;have hP:=W7.no (r:=RES) (c:=9) (by rw[<-hR]) (by omega) hIw7.below;have HP:=Lib.hid hP;clear hP;clear hK hbx hbw7 hIw7 hxw7 hsw7 h6;go_wp2;exact⟨rfl,HP.out⟩
    rw[if_neg h6]at hr hR;by_cases hfit:Ji (Ip kd) (Ac7 kd) ao=false
    . rw[if_pos hfit]at hr hR;obtain rfl:=hr;have hP:=W7.no (r:=RES) (c:=10) (by rw[<-hR]) (by omega) hIw7.below;have HP:=Lib.hid hP;clear hP;clear hK hbx hbw7 hIw7 hxw7 hsw7 h6 hfit;go_wp2;exact⟨rfl,HP.out⟩
    rw[if_neg hfit]at hr hR;obtain⟨a6,c6,rfl,hrow⟩:=hr;have hSw7:=HS.out _ hsw7 hxw7;obtain⟨HR,HIw7,Hxw7,Hsw7,Hbw7,Hrow⟩:=hid6 hR hIw7 hxw7 hsw7 hbw7 hrow;clear hIw7 hxw7 hsw7 hbw7 hrow;refine hK.out _ _ hSw7 (fun hHeld=> ?_);clear hK K hbx h6 hfit hR
    try simp only[Act.put,tk1,tk2,tk3,tk4,tk5,tk6]
    have hv7:=Hvw6.out.below Hbw7.out Hvw6.out.lt;refine wpAnyH_ready (rs:= [6]) (by kernel_rfl) (by simp) ?_;refine AllReadyH.cons rfl (fun K hK=> ?_) AllReadyH.nil;refine W5 (.tmp 31) (.tmp 35) rfl (v:=.slice a6 ao.length c6) rfl rfl Hcf.out ?_;(with_reducible refine(HC.out w7 a6 c6 HIw7.out.below Hrow.out.now).mono ?_);rintro e w8 ⟨hbw8,hr⟩;have hIw8:=HIw7.out.call hbw8;have hxw8:=Hxw7.out.below hbw8 Hxw7.out.lt;have hsw8:=Hsw7.out.below hbw8 Hsw7.out.lt;have hzw8:w7.heap.size<=w8.heap.size:=hbw8.size;have hR:=HR.out;by_cases hc:(Bt r kd ao).1≠0
    . rw[if_pos hc]at hr;obtain rfl:=hr;have hP:=W7.no (r:=RES) (c:=(Bt r kd ao).1) (by rw[<-hR]) hc hIw8.below;generalize (Bt r kd ao).1=code at hP ⊢;have HP:=Lib.hid hP;clear hP;clear hK hbw8 hIw8 hxw8 hsw8 hc hR;go_wp2;exact⟨rfl,HP.out⟩
    rw[if_neg hc]at hr;obtain⟨cs,rfl,hf⟩:=hr;have hSw8:=HS.out _ hsw8 hxw8;have hcl:=hf.now.len;rw[Ct]at hcl;obtain⟨hl18,hone⟩:=hcl;have hl18:cs.length=18:=by simpa using hl18
    have hone: ∀u ∈ cs,u.oneCell'=true:=fun u hu=>hone u (List.mem_cons_of_mem _ hu);obtain⟨HIw8,Hxw8,Hsw8,Hbw8,Hone,Hc⟩:=hid6 hIw8 hxw8 hsw8 hbw8 hone hc;clear hIw8 hxw8 hsw8 hbw8 hone hc;refine hK.out _ _ hSw8 (fun hHeld=> ?_);clear hK K hR
    try simp only[Act.put,tk1,tk2,tk3,tk4,tk5,tk6]
    have hv8:=hv7.below Hbw8.out hv7.lt;refine wpAnyH_ready (rs:= [8]) (by kernel_rfl) (by simp) ?_;refine AllReadyH.cons rfl (fun K hK=> ?_) AllReadyH.nil;have hMge:w.heap.size<=w5.heap.size:=by omega
    have hdat:=(Ae.of_fresh hf).mono (T:=fun i=>w.heap.size<=i/\i≠w5.heap.size/\i≠w.heap.size+1) (fun i h1 h2=>⟨by omega,by omega,by omega⟩);have hs19:Cx.size=(Value.int .i64 0::cs).toArray.size:=by simp[hl18]
    refine A4 (cs:=Cx) Ag (.tmp 10) (.tmp 36) rfl w5.heap.size 0 hv8 (.agg (Value.int .i64 0::cs).toArray) rfl rfl (by simp only[Value.cells];rw[<-hs19];exact Nat.le_of_ble_eq_true rfl) (by simp only[Value.cells];rw[<-hs19];kernel_rfl) (by simp only[Value.cells];exact Rv 0 Hone.out) HIw8.out.below hMge ?_;intro wz hxz hbz hzz hfar;rw[show(Value.agg (Value.int .i64 0::cs).toArray).cells=(Value.int .i64 0::cs).toArray from by simp only[Value.cells],Dd Cx _ hs19]at hxz;have hIz:RV w #[.int .i64 vk,.bool vb,.int .i64 vn,.string vt,.slice vla vl.length vlc,.slice voa vo.length voc] wz:=⟨hbz,(hfar w.heap.size (by omega)).trans HIw8.out.box,(hfar (w.heap.size+1) (by omega)).trans HIw8.out.res⟩;have hsz:Al wz Y 97 _:=(hfar Y (by omega)).trans Hsw8.out;have hxz2:Al wz Z 27 _:=(hfar Z (by omega)).trans Hxw8.out;have hdz:=hdat.later (w':=wz) (by omega) fun p p1 _=>World.cell?_of_block (hfar _ p1.2.1);have HD:Hid (RD w #[.int .i64 vk,.bool vb,.int .i64 vn,.string vt,.slice vla vl.length vlc,.slice voa vo.length voc] Y #[.int .i64 kd,.slice (some ⟨gF,0,none⟩) (Cl kd).length (Cl kd).length,.func (.func fn) #[] caps,.func (.func wn) #[] wcaps] (Bt r kd ao).2 cs w5.heap.size wz):=Lib.hid ⟨hIz,hxz,hsz,by omega,by omega,hdz,hl18,Hone.out⟩;have hSz:=HS.out _ hsz hxz2;have hok0:(Bt r kd ao).1=0:=by have:=Hc.out;omega
    have HOK:=Lib.hid hok0;refine hK.out _ _ hSz (fun hHeld=> ?_);clear hK K hxz hbz hfar hIz hsz hxz2 hdz hSz hdat hs19 hok0
    try simp only[Act.put,tk1,tk2,tk3]
    refine wpAnyH_done (by kernel_rfl) ?_ _;go_wp2;go_meet;exact⟨_,cs,rfl,HD,HOK,HR⟩
  case rest=>
   obtain⟨M,cs,rfl,hD,hok,hR⟩:=hcut;have y0:=hD.out.sh_.cell 0;have yl:=hD.out.sh_.lt;obtain⟨sv,hsv⟩: ∃sv:Array Value,(Value.int .i64 0::cs).toArray=sv:=⟨_,rfl⟩;have hvar:=hD.out.var;rw[hsv]at hvar;have hs1:sv.size=19:=by rw[<-hsv];simp[hD.out.len]
   have Hvar:=Lib.hid hvar;clear hvar;go_upto_region 6 with(fail)
   iterate 11 go_step
   refine A4 22 (.tmp 39) (.tmp 38) rfl M 0 Hvar.out (.int .i64 kd) rfl rfl (by rw[hs1];exact Nat.le_of_ble_eq_true rfl) (by kernel_rfl) (by simp[Value.cells,Value.oneCell']) hD.out.rv.below (by have:=hD.out.ne;omega) ?_;intro w6 hx6 hb6 hs6 hfar;rw[show(Value.int .i64 kd).cells.toList= [.int .i64 kd]from by simp only[Value.cells],<-hsv,Aji]at hx6;have hne:=hD.out.ne;have hbox6:=(hfar w.heap.size (by omega)).trans hD.out.rv.box;have hres6:Al w6 (w.heap.size+1) Ag Cx:=(hfar (w.heap.size+1) (by omega)).trans hD.out.rv.res;have hdat6:=hD.out.dat.later (w':=w6) (by omega) fun p p1 _=>World.cell?_of_block (hfar _ p1.2.1);obtain⟨ca,hca⟩: ∃ca:Array Value,(Value.int .i64 kd::cs).toArray=ca:=⟨_,rfl⟩;have hkk:=Ae6 k1 k7 hok.out;rw[hkk]at hdat6;have hsc:Cx.size=ca.size:=by rw[<-hca];simp[hD.out.len]
   have hcc: ∀u ∈ ca.toList,u.oneCell'=true:=by rw[<-hca];exact Rv kd hD.out.one
   have hdl:Ae (fun i=>w.heap.size<=i/\i≠M/\i≠w.heap.size+1) w6 (dM (Bt r kd ao).2) ca.toList:=by rw[<-hca];exact hdat6
   rw[hca]at hx6;have hfin:RES=(0,(Bt r kd ao).2):=by rw[<-hR.out];exact Prod.ext hok.out rfl
   obtain⟨Hx6,Hb6,Hres6,Hdl,Hfin⟩:=hid5 hx6 hb6 hres6 hdl hfin;clear hx6 hb6 hres6 hdl hfin;clear hfar hbox6 hdat6 hD hok hR y0 hca;dsimp only;go_upto_region 7 with(fail)
   iterate 2 go_step
   refine Ac Ag (.tmp 10) rfl M _ Hx6.out rfl _ Tryz.underlying30 rfl (by rw[<-hsc];kernel_rfl) ?_
   iterate 2 go_step
   refine A4 (cs:=Cx) Ag (.tmp 4) (.tmp 40) rfl (w.heap.size+1) 0 Hres6.out (.agg ca) rfl rfl (by simp only[Value.cells];rw[<-hsc];exact Nat.le_of_ble_eq_true rfl) (by simp only[Value.cells];rw[<-hsc];kernel_rfl) (by simp only[Value.cells];exact hcc) Hb6.out (Nat.le_succ _) ?_;intro w7 hx7 hb7 hs7 hfar;rw[show(Value.agg ca).cells=ca from by simp only[Value.cells],Dd Cx ca hsc]at hx7;have hd7:=(Hdl.out.later (w':=w7) (by omega) fun p p1 _=>World.cell?_of_block (hfar _ p1.2.2)).mono (T:=fun i=>w.heap.size<=i) fun i _ h=>h.1;have hQ:W7 RES w (.returned (.agg ca)) w7:=⟨hb7,by
    rw[Hfin.out,if_neg (by simp)];exact⟨ca,rfl,hd7⟩⟩
   obtain⟨Hx7,HQ⟩:=hid2 hx7 hQ;clear hx7 hQ;clear hfar hd7 hb7
   repeat go_step
   exact bodyPost_ret (Fj rfl rfl Hx7.out Tryz.underlying30 rfl (by rw[<-hsc];kernel_rfl)) rfl HQ.out
abbrev Adq (key:ByteArray) (n:Int):Array Value:= #[.int .i64 0,.string key,.string ⟨#[]⟩,.int .i64 n,.bool false,.int .i64 0,.bool false,.int .i64 0,.string ⟨#[]⟩,.slice none 0 0,.slice none 0 0,.bool false,.int .i64 0,.bool false,.int .i64 0,.string ⟨#[]⟩,.slice none 0 0,.slice none 0 0,.slice none 0 0]
theorem Nl.held2 {o:List (ByteArray×Val)} {key:ByteArray} {w w':World} {e:Ending} (h:Nl o key w e w'):Below w.heap.size w w'/\ ∃la lc oa oc t l ob b,
 e=.returned (.tuple #[.agg #[.int .i64 (Cf (At key o)),.bool b,.int .i64 (Ac0 (At key o)),.string t,.slice la (l:List Val).length lc,.slice oa (ob:List (ByteArray×Val)).length oc],.bool (As key o).isSome]):=by
 obtain⟨hb,k,b,n,t,l,ob,la,lc,oa,oc,hg,he,_⟩:=h.held;have hg':At key o=.mk k b n t l ob:=hg;refine⟨hb,la,lc,oa,oc,t,l,ob,b, ?_⟩;rw[hg'];exact he
set_option maxRecDepth 100000 in
theorem Agp (f:Val->Int×Mut) (o:List (ByteArray×Val)) (a:Option Addr) (c:Nat) (w:World) (h:Holds w w.heap.size (.row 7 (dO o)) [.slice a o.length c]) (hl:o.length<=100000000):
 Calls Tryz.prog 69 #[.slice a o.length c] w (On (Bt f 3 o) w):=by
 have hI0:RB w (w.alloc (.cells Cx Ag)) Cx:=⟨(Below.refl _ _).alloc (Nat.le_refl _) _,Al.new w _ _⟩;obtain⟨wi,hwi⟩: ∃wi,w.alloc (.cells Cx Ag)=wi:=⟨_,rfl⟩;rw[hwi]at hI0;have hF:=K6 o a c ⟨#[98,121]⟩ wi ((h.below hI0.below).more hI0.below.size) hl;have hY:=fun W=>D9 9 W;have hN:=fun W=>Ju 9 W;obtain⟨RES,hRES⟩: ∃r,Bt f 3 o=r:=⟨_,rfl⟩;rw[hRES];rw[Pi]at hRES;obtain⟨HI0,HF,H,HY,HN⟩:=hid5 hI0 hF h hY hN;clear hI0 hF h hY hN;go_enter Tryz.func69,Tryz.ntmps69;go_upto_region 1 with(fail);clear hwi;go_wp2_with (fail);(with_reducible refine(HF.out).mono ?_);rintro e w2 hp;obtain⟨hb2,la,lc,oa,oc,t,l,ob,b,rfl⟩:=hp.held2;rw[show(⟨#[98,121]⟩:ByteArray)=Od from rfl];generalize Cf (At Od o)=k at hRES ⊢;generalize Ac0 (At Od o)=n at hRES ⊢;generalize (As Od o).isSome=B;have hI2:=(HI0.out.call hb2).call (Aa w2 (.cells #[.int .i64 k,.bool b,.int .i64 n,.string t,.slice la l.length lc,.slice oa ob.length oc] 27));have hx2:=Al.new w2 27 #[.int .i64 k,.bool b,.int .i64 n,.string t,.slice la l.length lc,.slice oa ob.length oc];have hord:w.heap.size<w2.heap.size:=Nat.lt_of_lt_of_le HI0.out.res.lt hb2.size;obtain⟨wj,hwj⟩: ∃wj,w2.alloc (.cells #[.int .i64 k,.bool b,.int .i64 n,.string t,.slice la l.length lc,.slice oa ob.length oc] 27)=wj:=⟨_,rfl⟩;rw[hwj]at hI2 hx2;have hP2:Below w.heap.size w wj:=hI2.below;clear hp hb2 HI0 HF;by_cases h4:k=3;rotate_left
 . have e1:(k==3)=false:=by simpa using h4
   rw[if_pos h4]at hRES;have hP:=On.no (r:=RES) (c:=9) (by rw[<-hRES]) (by omega) hP2;have x0:=hx2.cell 0;have xl:=hx2.lt;have HP:=Lib.hid hP;clear hP;clear h4 hP2 hI2;go_upto_region 2 with(fail);clear hwj;go_wp2_with (fail);(with_reducible refine(HN.out _).mono ?_);rintro e w3 ⟨rfl,rfl⟩;go_wp2;exact⟨rfl,HP.out⟩
 subst h4;rw[if_neg (by simp)]at hRES;have x0:=hx2.cell 0;have xl:=hx2.lt;have hT:=fun W (hB:Below wj.heap.size wj W)=>F8 o a c ⟨#[107,101,121]⟩ W ((H.out.below (hP2.trans (hB.mono hP2.size))).more (hP2.trans (hB.mono hP2.size)).size) hl;have hxc:wj.cell? ⟨w2.heap.size,2,none⟩=some (.int .i64 n):=hx2.cell 2;obtain⟨HI2,HT,Hx2,Hxc,Hord⟩:=hid5 hI2 hT hx2 hxc hord;clear hI2 hT hx2 hxc hord;clear hP2;go_upto_region 2 with(fail);clear hwj;go_wp2_with (fail);(with_reducible refine(HY.out _).mono ?_);rintro e w3 ⟨rfl,rfl⟩;clear x0;go_upto_region 3 with(fail);refine wp_region_held_drew (S:=fun W=>W.cell? ⟨w2.heap.size,2,none⟩=some (.int .i64 n)) (by kernel_rfl) Hxc.out (fun hHeld=> ?_);refine tkH 0 hHeld ?_;refine tkH 1 hHeld ?_;refine tkH 2 hHeld ?_;refine wpAnyH_ready (rs:= [3]) (by kernel_rfl) (by simp) ?_;refine AllReadyH.cons rfl (fun K hK=> ?_) AllReadyH.nil;go_simp;(with_reducible refine(HT.out _ (Below.drew (Below.refl _ _))).mono ?_);rintro e w4 ⟨hb4,rfl⟩;have hbr:Below w3.heap.size w3 w4:=(Below.drew (Below.refl _ _)).trans hb4;have hI4:=HI2.out.call hbr;have hxc4:w4.cell? ⟨w2.heap.size,2,none⟩=some (.int .i64 n):=(Hx2.out.below hbr Hx2.out.lt).cell 2;rw[K9,Mn,show(⟨#[107,101,121]⟩:ByteArray)=Ar from rfl];generalize Cf (At Ar o)=k at hRES ⊢;generalize Ep (At Ar o)=u at hRES ⊢;by_cases h4:k=4;rotate_left
 . rw[if_neg h4];rw[if_pos h4]at hRES;have hP:=On.no (r:=RES) (c:=9) (by rw[<-hRES]) (by omega) hI4.below;have HP:=Lib.hid hP;clear hP;clear hK hI4 hxc4 h4 hbr hb4;go_wp2;exact⟨rfl,HP.out⟩
 subst h4;rw[if_pos rfl];rw[if_neg (by simp)]at hRES;obtain⟨HI4,Hxc4,HRES⟩:=hid3 hI4 hxc4 hRES;clear hI4 hxc4 hRES;refine hK.out _ _ Hxc4.out (fun hHeld=> ?_);clear hK K hbr hb4
 try simp only[Act.put,tk4,tk5,tk6]
 refine tkH 4 hHeld ?_;refine wpAnyH_ready (rs:= [5]) (by kernel_rfl) (by simp) ?_;refine AllReadyH.cons rfl (fun K hK=> ?_) AllReadyH.nil;refine A4 (cs:=Cx) Ag (.tmp 2) (.tmp 18) rfl w.heap.size 0 HI4.out.res (.agg (Adq u n)) rfl rfl (Nat.le_of_ble_eq_true rfl) (by kernel_rfl) (by simp[Value.cells,Value.oneCell']) HI4.out.below (Nat.le_refl _) ?_;intro w5 hx5 hb5 _ hfar;have hx6:Al w5 w.heap.size Ag (Adq u n):=by
  have hx:=hx5;rw[show(Value.agg (Adq u n)).cells=Adq u n from by simp only[Value.cells],Dd Cx (Adq u n) rfl]at hx;exact hx
 have hxc5:w5.cell? ⟨w2.heap.size,2,none⟩=some (.int .i64 n):=(World.cell?_of_block (a:=⟨w2.heap.size,2,none⟩) (hfar w2.heap.size (by have:=Hord.out;omega))).trans Hxc4.out;clear hx5 hfar;obtain⟨Hx6,Hb5⟩:=hid2 hx6 hb5;clear hx6 hb5;refine hK.out _ _ hxc5 (fun hHeld=> ?_);clear hK K
 try simp only[Act.put]
 refine wpAnyH_done (by kernel_rfl) ?_ _
 repeat go_step
 exact bodyPost_ret (Fj rfl rfl Hx6.out Tryz.underlying30 rfl (by kernel_rfl)) rfl (On.yes' HRES.out.symm Hb5.out (Gn 3 _ _ _ _ _ (E1 _ _) (E1 _ _) (G7 _ _ _)))
end Go.Proofs.YtmglfdckpjegdaaGreatDoor
