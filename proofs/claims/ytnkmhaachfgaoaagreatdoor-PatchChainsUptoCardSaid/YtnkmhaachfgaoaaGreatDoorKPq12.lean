/- Parts: A row of which a part is taken out in place. Plain. No condition. -/
import Derived.Test.YtnkmhaachfgaoaaGreatDoorKPq9
import Derived.Test.YtnkmhaachfgaoaaGreatDoorKPq10
set_option maxHeartbeats 20000000
namespace Go.Proofs.YtnkmhaachfgaoaaGreatDoor
open Go Go.RowKit
theorem Ae.cutL {w:World} {B s n c:Nat} {l:List D} {a:Option Addr} (h:Ae w B (.row s l) [.slice a n c]) {i:Nat} (hi:i<=l.length) (c':Nat):Ae w B (.row s (l.take i)) [.slice a i c']:=by
 obtain⟨a',c2,e,hs,ns,h1,h2⟩:=h;simp only[List.cons.injEq,Value.slice.injEq,and_true]at e;obtain⟨rfl,_,rfl⟩:=e;refine⟨a,c',by rw[List.length_take,Nat.min_eq_left hi],fun d hd=>hs d (List.mem_of_mem_take hd),ns.take (i*s),(h1.split i hs).1, ?_⟩;rcases h2 with h2|⟨g,off,ea,hg,hc⟩
 . exact .inl (by rw[h2];simp)
 . refine .inr ⟨g,off,ea,hg,fun j u hj=> ?_⟩;rw[List.getElem?_take]at hj;by_cases hlt:j<i*s
   . rw[if_pos hlt]at hj;exact hc j u hj
   . rw[if_neg hlt]at hj;cases hj
theorem Ae.cutR {w:World} {B s n c g off:Nat} {l:List D} (h:Ae w B (.row s l) [.slice (some ⟨g,off,none⟩) n c]) {i m:Nat} (hm:i+m=l.length) (c':Nat):Ae w B (.row s (l.drop i)) [.slice (some ⟨g,off+i*s,none⟩) m c']:=by
 obtain⟨a',c2,e,hs,ns,h1,h2⟩:=h;simp only[List.cons.injEq,Value.slice.injEq,and_true]at e;obtain⟨rfl,_,rfl⟩:=e;refine⟨_,c',by rw[List.length_drop,show l.length - i=m from by omega],fun d hd=>hs d (List.mem_of_mem_drop hd),ns.drop (i*s),(h1.split i hs).2, ?_⟩;rcases h2 with h2|⟨g',off',ea,hg,hc⟩
 . exact .inl (by rw[h2];simp)
 . cases ea
   refine .inr ⟨g,off+i*s,rfl,hg,fun j u hj=> ?_⟩;rw[List.getElem?_drop]at hj;rw[Nat.add_assoc];exact hc _ u hj
theorem An.split {S:Nat->Prop} {w:World} {l:List D} {ns:List Value} {s:Nat} (h:An S w l ns) (hs: ∀d ∈ l,d.cells=s) (i:Nat):An S w (l.take i) (ns.take (i*s))/\An S w (l.drop i) (ns.drop (i*s)):=
 ⟨fun w'' k1 k2=>((h w'' k1 k2).split i hs).1,fun w'' k1 k2=>((h w'' k1 k2).split i hs).2⟩
theorem An.grow {S0:Nat->Prop} {w w':World} {V V':Value} {l:List D} {ns:List Value} (h:An (fun i=>S0 i/\V.ownBlock≠some i) w l ns) (hg:w.grownBy w' V.ownBlock) (ha:V'.ownBlock=V.ownBlock\/V'.ownBlock=some w.heap.size):An (fun i=>S0 i/\V'.ownBlock≠some i) w' l ns:=fun w'' k1 k2=>by
 refine Af.more (h w'' (Nat.le_trans hg.size k1) fun p p1 p2=> ?_) hg.size;have hn:V'.ownBlock≠some p.block:=by
  rcases ha with e|e
  . rw[e];exact p1.2
  . rw[e];intro e4;have:=Option.some.inj e4;omega
 rw[k2 p ⟨p1.1,hn⟩ (Nat.lt_of_lt_of_le p2 hg.size)];exact World.cell?_of_block (hg.block p.block p2 (fun e=>p1.2 e.symm))
theorem Ag.grow {S0:Nat->Prop} {w w':World} {V V':Value} {d:D} {cs:List Value} (h:Ag (fun i=>S0 i/\V.ownBlock≠some i) w d cs) (hg:w.grownBy w' V.ownBlock) (ha:V'.ownBlock=V.ownBlock\/V'.ownBlock=some w.heap.size):Ag (fun i=>S0 i/\V'.ownBlock≠some i) w' d cs:=fun w'' k1 k2=>by
 refine Ae.more (h w'' (Nat.le_trans hg.size k1) fun p p1 p2=> ?_) hg.size;have hn:V'.ownBlock≠some p.block:=by
  rcases ha with e|e
  . rw[e];exact p1.2
  . rw[e];intro e4;have:=Option.some.inj e4;omega
 rw[k2 p ⟨p1.1,hn⟩ (Nat.lt_of_lt_of_le p2 hg.size)];exact World.cell?_of_block (hg.block p.block p2 (fun e=>p1.2 e.symm))
theorem Al.of_ins {S0:Nat->Prop} {b s n i:Nat} {e:TypeId} {w w':World} {l:List D} {d:D} {ns ys:List Value} {V V':Value} (h1:w'.ownsRow b e s V' n (ns.take (i*s)++ys++ns.drop (i*s))) (hs: ∀x ∈ l,x.cells=s) (hd:d.cells=s) (hA:An (fun i=>S0 i/\V.ownBlock≠some i) w l ns) (hx:Ag (fun i=>S0 i/\V.ownBlock≠some i) w d ys)
 (hg:w.grownBy w' V.ownBlock) (ha:V'.ownBlock=V.ownBlock\/V'.ownBlock=some w.heap.size) (hn:n=l.length+1):Al S0 b e s w' (l.take i++ [d]++l.drop i) V':=by
 obtain⟨a1,a2⟩:=(hA.grow hg ha).split hs i;refine⟨_, ?_,fun x hx'=> ?_,(a1.app (An.one (hx.grow hg ha))).app a2⟩
 . rw[show(l.take i++ [d]++l.drop i).length=n from by rw[hn];simp;omega];exact h1
 . rcases List.mem_append.1 hx' with hx'|hx'
   . rcases List.mem_append.1 hx' with hx'|hx'
     . exact hs x (List.mem_of_mem_take hx')
     . rw[List.mem_singleton.1 hx'];exact hd
   . exact hs x (List.mem_of_mem_drop hx')
theorem O0 {cs:Array Value} {ns ys:List Value} {m o:Nat} (hc:cs.toList.take m=ns) (hn:ns.length=m) (ho:o+ys.length<=m):(L8 cs o ys).toList.take m=ns.take o++ys++ns.drop (o+ys.length):=by
 have hm:m<=cs.size:=by
  rw[<-hc,List.length_take,Array.length_toList]at hn;omega
 refine List.ext_getElem? fun j=> ?_;have hcj: ∀j,j<m->cs[j]? =ns[j]? :=fun j hj=>by rw[<-hc,List.getElem?_take,if_pos hj,Array.getElem?_toList]
 rw[List.getElem?_take];by_cases hj:j<m
 . rw[if_pos hj,Array.getElem?_toList,N9 _ _ _ _ (by omega)];by_cases h1:j<o
   . rw[if_neg (by omega),hcj j hj,List.append_assoc,List.getElem?_append_left (by rw[List.length_take];omega),List.getElem?_take,if_pos h1]
   by_cases h2:j<o+ys.length
   . rw[if_pos ⟨by omega,h2⟩,List.append_assoc,List.getElem?_append_right (by rw[List.length_take];omega),List.length_take,Nat.min_eq_left (by omega),List.getElem?_append_left (by omega)]
   . rw[if_neg (by omega),hcj j hj,List.getElem?_append_right (by rw[List.length_append,List.length_take];omega),List.getElem?_drop,List.length_append,List.length_take,Nat.min_eq_left (by omega)]
     congr 1
     omega
 . rw[if_neg hj,List.getElem?_eq_none (by rw[List.length_append,List.length_append,List.length_take,List.length_drop];omega)]
theorem Al.put {S0:Nat->Prop} {b s:Nat} {e:TypeId} {w:World} {l:List D} {d:D} {ys:List Value} {g i n c:Nat} (h:Al S0 b e s w l (.slice (some ⟨g,0,none⟩) n c)) (hi:i<l.length) (hd:d.cells=s) (hx:Ag (fun i=>S0 i/\g≠i) w d ys):
 Al S0 b e s (A8 w g (i*s) ys) (l.set i d) (.slice (some ⟨g,0,none⟩) n c):=by
 obtain⟨ns,h1,h2,h3⟩:=h;have hyl:ys.length=s:=hx.now.len.1.trans hd;have hnl:ns.length=l.length*s:=by rw[h3.now.len.1,D5 h2]
 have hos:i*s+s<=l.length*s:=by
  have:=Nat.mul_le_mul_right s (show i+1<=l.length by omega)
  rwa [Nat.add_mul,Nat.one_mul]at this
 have hsz:=Cm ys w g (i*s);have hf:=fun c (hc:c≠g)=>C8 ys w g (i*s) c hc;rcases h1.2 with⟨e1,_⟩|⟨g',cap,cur,e1,hbg,hg,hnc,hcm,hcs,hcx⟩
 . cases e1
 . cases e1
   have hmv: ∀w'':World,w.heap.size<=w''.heap.size->(∀p:Addr,S0 p.block/\(Value.slice (some ⟨g,0,none⟩) l.length c).ownBlock≠some p.block->p.block<w.heap.size->w''.cell? p=(A8 w g (i*s) ys).cell? p)-> ∀p:Addr,S0 p.block/\g≠p.block->p.block<w.heap.size->w''.cell? p=w.cell? p:=fun w'' k1 k2 p p1 p2=>by
    rw[k2 p ⟨p1.1,fun e=>p1.2 (Option.some.inj e)⟩ p2];exact World.cell?_of_block (hf p.block fun e=>p1.2 e.symm)
   have hA:=h3.split h2;have hval:l.set i d=l.take i++ [d]++l.drop (i+1):=by
    rw[List.set_eq_take_append_cons_drop,if_pos hi];simp
   refine⟨ns.take (i*s)++ys++ns.drop (i*s+ys.length),⟨?_,.inr ⟨g,c,L8 cur (i*s) ys,by rw[List.length_set],hbg,Gm ys hg,by rw[List.length_set];exact hnc,hcm,by rw[Ie];exact hcs, ?_⟩⟩,fun x hx'=> ?_,fun w'' k1 k2=> ?_⟩
   . rw[List.length_set,List.length_append,List.length_append,List.length_take,List.length_drop];omega
   . rw[List.length_set];exact O0 hcx hnl (by omega)
   . rcases List.mem_or_eq_of_mem_set hx' with hx'|rfl
     . exact h2 x hx'
     . exact hd
   . rw[hsz]at k1 k2 ⊢;have hk:=hmv w'' k1 k2;rw[hval,hyl,show i*s+s=(i+1)*s from by rw[Nat.add_mul,Nat.one_mul]];exact(((hA i).1 w'' k1 fun p p1 p2=>hk p ⟨p1.1,fun e=>p1.2 (by rw[e];rfl)⟩ p2).app (Af.one (hx w'' k1 hk))).app ((hA (i+1)).2 w'' k1 fun p p1 p2=>hk p ⟨p1.1,fun e=>p1.2 (by rw[e];rfl)⟩ p2)
theorem Lj {l:List UInt8} (h:l≠ []) (f p:Nat):
 ((Ff l).2=0/\Bd (f+1) l p= [])\/(∃n r:Nat,Ff l=((r:Int),(n:Int))/\1<=n/\n<=l.length/\Bd (f+1) l p=(p,r)::Bd f (l.drop n) (p+n)):=by
 have hg:=Qp l h;unfold Ij at hg;by_cases hb:(Lib.decodeL l).1=65533/\(Lib.decodeL l).2=1
 . rw[if_pos hb]at hg;rw[hg];refine .inl ⟨rfl, ?_⟩;simp only[Bd];rw[if_neg h,if_pos hb]
 . rw[if_neg hb]at hg;have hw:=Lib.decodeL_width l;refine .inr ⟨(Lib.decodeL l).2,(Lib.decodeL l).1,hg,hw,Lib.decodeL_le l h, ?_⟩;simp only[Bd];rw[if_neg h,if_neg hb]
def Kv (v1 v2:Value):Prop:= ∀g,v1.ownBlock=some g->v2.ownBlock≠some g
theorem Kv.ne {v1 v2:Value} (h:Kv v1 v2):v1.ownBlock=none\/v1.ownBlock≠v2.ownBlock:=by
 cases e:v1.ownBlock with
 |none=>exact .inl rfl
 |some g=>exact .inr fun e'=>h g e (by rw[<-e'])
theorem Kv.symm {v1 v2:Value} (h:Kv v1 v2):Kv v2 v1:=fun g e e'=>h g e' e
theorem Kv.step {v1 v1' v2:Value} {w:World} {B n N:Nat} {e:TypeId} {size:Nat} {xs:List Value} (h:Kv v1 v2) (h2:w.ownsRow B e size v2 n xs) (h4:v1'.ownBlock=v1.ownBlock\/v1'.ownBlock=some N) (hN:w.heap.size<=N):Kv v1' v2:=by
 intro g e1 e2;rcases h4 with h4|h4
 . exact h g (by rw[<-h4];exact e1) e2
 . rw[h4]at e1;obtain rfl:=Option.some.inj e1;have:=(h2.lt _ e2).2;omega
theorem Ae9:(Tryz.prog.info? 3).map (fun i=>(i.zero,i.size,i.bytes))=some (some (.int .i64 0),1,8):=by kernel_rfl
set_option maxRecDepth 20000 in
theorem Ug (s:ByteArray) (w:World) (hs:s.size<=1000000000):
 Calls Tryz.prog 143 #[.string s] w fun e w'=>(∃v1 v2,e=.returned (.tuple #[v1,v2])/\w'.ownsRow w.heap.size 3 1 v1 (E4 s).length ((E4 s).map fun x=>Value.int .i64 x.2))/\Below w.heap.size w w':=by
 obtain⟨i0,hi,hz0,hz1,hz2⟩:=info_parts Ae9;obtain⟨HI,HZ0,HZ1,HZ2⟩:=hid4 hi hz0 hz1 hz2;clear hi hz0 hz1 hz2;have Hown0:Hid (w.ownsRow w.heap.size 3 1 (.slice none 0 0) 0 []):=World.ownsRow_nil _ _ _ _;have Hap0:Hid (Kv (.slice none 0 0) (.slice none 0 0)):=qz (fun g e=>by simp[Value.ownBlock]at e);go_enter Tryz.func143,Tryz.ntmps143;go_wp2;go_loopw [4,5,6] (fun v1 v2 i wr=> ∃(pre:List (Nat×Nat)) (f k:Nat),i=.int .i64 k/\k<=s.size/\s.size - k<=f/\Hid (E4 s=pre++Bd f (s.data.toList.drop k) k)/\pre.length<=k/\
  Hid (wr.ownsRow w.heap.size 3 1 v1 pre.length (pre.map fun x=>Value.int .i64 x.2))/\Hid (wr.ownsRow w.heap.size 3 1 v2 pre.length (pre.map fun x=>Value.int .i64 x.1))/\Hid (Kv v1 v2)/\Hid (Below w.heap.size w wr)) (fun _ _ i _=>s.size - (intOf i).toNat)
 case atStart=>exact⟨[],s.size,0,rfl,Nat.zero_le _,by omega,rfl,Nat.le_refl _,Hown0,Hown0,Hap0,Below.refl _ _⟩
 case round=>
  obtain⟨pre,f,k,rfl,hk,hf,hr,hpk,ho1,ho2,hap,hbw⟩:=hrel;clear Hown0 Hap0;by_cases hlt:k<s.size
  . have hne:s.data.toList.drop k≠ []:=by
     intro e;have:=congrArg List.length e;rw[List.length_drop,<-Lib.size_eq]at this;simp at this;omega
    obtain⟨f,rfl⟩: ∃f',f=f'+1:=⟨f - 1,by omega⟩;have hA:=Wd s k wr (by omega) (by omega);rcases Lj hne f k with⟨h0,hv⟩|⟨n,r,hn,hn1,hn2,hv⟩
    . have hr':=hr.out;rw[hv,List.append_nil]at hr';rw[h0]at hA;generalize (Ff (s.data.toList.drop k)).1=R at hA;obtain⟨HA,HR⟩:=hid2 hA hr';clear hA h0 hv hne hr hr';go_wp2_with (fail);(with_reducible refine HA.out.mono ?_);rintro e w' ⟨rfl,rfl⟩;clear HA;go_wp2;go_ret2;exact⟨⟨u4,u5,rfl,by rw[HR.out];exact ho1.out⟩,hbw.out⟩
    . have hr':=hr.out;rw[hv,List.drop_drop]at hr';rw[hn]at hA;rw[List.length_drop,<-Lib.size_eq]at hn2;obtain⟨HA,HR⟩:=hid2 hA hr';have hb1:w.heap.size<=wr.heap.size:=hbw.out.size;clear hA hn hv hne hr hr';have e0:((n:Int)==0)=false:=by simp;omega
      go_wp2_with (fail);(with_reducible refine HA.out.mono ?_);rintro e w' ⟨rfl,rfl⟩;clear HA;go_wp2_with (at_builtin;refine wpList_append_own_at _ rfl (.tmp 21) (.tmp 23) 203 rfl w.heap.size 3 i0 (.int .i64 0) 1 8 Tryz.underlying203 HI.out HZ0.out HZ1.out HZ2.out rfl (by decide) u4 pre.length _ rfl (ho1.out.alloc _) ⟨wr.heap.size,0,none⟩ 1 1 [.int .i64 r] rfl rfl ?c1 ?c2 ?c3 ?c4 ?c5 ?_)
      case c1=>
       intro j u hj
       match j,hj with
       |0,hj=>simp at hj;subst hj;simp[Addr.add]
      case c2=>intro u hu;simp at hu;subst hu;rfl
      case c3=>unfold maxLen;omega
      case c4=>omega
      case c5=>simp;omega
      intro v1' w2 hown1 hgrow1 _ hat1;have ho1':=qz hown1;have ho2':=qz ((ho2.out.alloc (.cells #[.int .i64 r] 3)).kept hgrow1 hap.out.symm.ne);have hap':=qz (Kv.step hap.out ho2.out hat1 (by omega));have hbw2:=qz ((hbw.out.alloc hb1 (.cells #[.int .i64 r] 3)).grown hgrow1 (by simp;omega) (fun k hk=>(ho1.out.lt k hk).1));have hb2:w.heap.size<=w2.heap.size:=hbw2.out.size;clear hown1 hgrow1 hat1 ho1 ho2 hap hbw hb1;go_wp2_with (at_builtin;refine wpList_append_own_at _ rfl (.tmp 25) (.tmp 27) 203 rfl w.heap.size 3 i0 (.int .i64 0) 1 8 Tryz.underlying203 HI.out HZ0.out HZ1.out HZ2.out rfl (by decide) u5 pre.length _ rfl (ho2'.out.alloc _) ⟨w2.heap.size,0,none⟩ 1 1 [.int .i64 k] rfl rfl ?d1 ?d2 ?d3 ?d4 ?d5 ?_)
      case d1=>
       intro j u hj
       match j,hj with
       |0,hj=>simp at hj;subst hj;simp[Addr.add]
      case d2=>intro u hu;simp at hu;subst hu;rfl
      case d3=>unfold maxLen;omega
      case d4=>omega
      case d5=>simp;omega
      intro v2' w3 hown2 hgrow2 _ hat2;have ho2'':=qz hown2;have ho1'':=qz ((ho1'.out.alloc (.cells #[.int .i64 k] 3)).kept hgrow2 hap'.out.ne);have hap'':=qz (Kv.step hap'.out.symm ho1'.out hat2 (by omega)).symm;have hbw3:=qz ((hbw2.out.alloc hb2 (.cells #[.int .i64 k] 3)).grown hgrow2 (by simp;omega) (fun k hk=>(ho2'.out.lt k hk).1));clear hown2 hgrow2 hat2 ho1' ho2' hap' hbw2 hb2;go_wp2;go_roundw
      case rel=>exact⟨pre++ [(k,r)],f,k+n,by go_num,by omega,by omega,qz (by rw[List.append_assoc];exact HR.out),by simp;omega,qz (by rw[List.length_append,List.map_append];exact ho1''.out),qz (by rw[List.length_append,List.map_append];exact ho2''.out),hap'',hbw3⟩
      case measure=>simp only[intOf];omega
  . obtain rfl:k=s.size:=by omega
    have hr':=hr.out;have e:Bd f (s.data.toList.drop s.size) s.size= []:=by
     rw[List.drop_eq_nil_of_le (by rw[<-Lib.size_eq];omega)]
     cases f<;>simp[Bd]
    rw[e,List.append_nil]at hr';have HR:=qz hr';clear hr hr' e;go_wp2;go_ret2;exact⟨⟨u4,u5,rfl,by rw[HR.out];exact ho1.out⟩,hbw.out⟩
def dgt (d:Nat):UInt8:=UInt8.ofNat (48+d)
def G9 (u:Nat):List UInt8:=if _h:u=0 then []else G9 (u / 10)++ [dgt (u % 10)]
termination_by u
decreasing_by omega
theorem Lx:G9 0= []:=by rw[G9,dif_pos rfl]
theorem Q0 {u:Nat} (h:u≠0):G9 u=G9 (u / 10)++ [dgt (u % 10)]:=by rw[G9,dif_neg h]
theorem Qz (u:Nat):u≠0->G9 u=Lib.decDigits u:=by
 induction u using Nat.strongRecOn with
 |_ u ih=>
  intro h;rw[Q0 h,Lib.decDigits];unfold dgt;by_cases h10:u<10
  . rw[dif_pos h10,show u / 10=0 from by omega,Lx,show u % 10=u from by omega,List.nil_append]
  . rw[dif_neg h10,ih (u / 10) (by omega) (by omega)]
theorem Xc {u:Nat} (h:(u:Int)<=9223372036854775808):(G9 u).length<=30:=by
 by_cases h0:u=0
 . subst h0;rw[Lx];simp
 . rw[Qz u h0,Lib.decDigits_length];exact Nat.le_trans (Lib.nDigits_le20 u (by omega)) (by omega)
theorem Vq (S:ByteArray) (d e:Nat) (hd:d<=e) (he:e<=S.size) (w:World):(Instr.slice 9 (.string S) (some (.int .i64 d)) (some (.int .i64 e)) none).run Tryz.prog w=.ok (.string (S.extract d e)) w:=by
 simp[Instr.slice,run_underlying Tryz.underlying9,Instr.sliceBounds,go_sem,hd,he]
theorem Aeu: ∀d:Fin 10,(⟨#[48,49,50,51,52,53,54,55,56,57]⟩:ByteArray).extract d.val (d.val+1)=⟨#[dgt d.val]⟩:=by decide
theorem T3 (d:Nat) (hd:d<10) (w:World):(Instr.slice 9 (.string ⟨#[48,49,50,51,52,53,54,55,56,57]⟩) (some (.int .i64 d)) (some (.int .i64 ((d:Int)+1))) none).run Tryz.prog w=.ok (.string ⟨#[dgt d]⟩) w:=by
 have:=Vq ⟨#[48,49,50,51,52,53,54,55,56,57]⟩ d (d+1) (by omega) (by show d+1<=10;omega) w;rw[Aeu ⟨d,hd⟩]at this;exact this
set_option maxRecDepth 20000 in
theorem Z7 (a:Nat) (ha:a≠0) (hm:(a:Int)<=9223372036854775807) (w:World):
 Calls Tryz.prog 84 #[.int .i64 a] w fun e w'=>e=.returned (.string ⟨(Lib.itoa a).toArray⟩)/\w=w':=by
 have hi:Lib.itoa a=G9 a:=by
  rw[Qz a ha,Lib.itoa,if_neg (by omega)];simp
 rw[hi];have hl:=Xc (u:=a) (by omega);have H0:Hid (G9 a++(⟨#[]⟩:ByteArray).data.toList=G9 a):=by show _=_;simp
 clear hi;go_enter Tryz.func84,Tryz.ntmps84;have ha1:((a:Int)==0)=false:=by simp;omega
 go_wp2
 go_loop [3,4] (fun s m=> ∃(T:ByteArray) (u:Nat),s=.string T/\m=.int .i64 u/\u<=a/\Hid (G9 u++T.data.toList=G9 a)) (fun _ m=>(intOf m).toNat)
 case atStart=>exact⟨_,a,rfl,rfl,Nat.le_refl _,H0⟩
 case round=>
  obtain⟨T,u,rfl,rfl,hu,hT⟩:=hrel;clear H0;have hTs:T.size<=30:=by
   have h1:=congrArg List.length hT.out;rw[List.length_append]at h1;have h2:T.data.toList.length=T.size:=by rw[Array.length_toList];rfl
   omega
  by_cases hu0:u=0
  . subst hu0;have hT':=hT.out;rw[Lx,List.nil_append]at hT';have HE:=qz (show(⟨(G9 a).toArray⟩:ByteArray)=T from by rw[<-hT']);clear hT hT' ha1 hl;have h0:((a:Int)<0)=False:=by simp
    go_wp2;go_ret;exact⟨by rw[HE.out];rfl,rfl⟩
  . have hu1:((u:Int)==0)=false:=by simp;omega
    have hT':Hid (G9 (u / 10)++((⟨#[dgt (u % 10)]⟩:ByteArray)++T).data.toList=G9 a):=by
     have:=hT.out;rw[Q0 hu0]at this;show _=_;rw[<-this,ByteArray.data_append,Array.toList_append];simp
    have hd:=T3 (u % 10) (by omega) w;have hm10:(u:Int) % 10=((u % 10:Nat):Int):=by omega
    have hq10:(u:Int) / 10=((u / 10:Nat):Int):=by omega
    have hlt:u % 10<10:=by omega
    have hqu:u / 10<u:=by omega
    generalize u % 10=d at*
    generalize u / 10=q at*
    have hdn:decide ((d:Int)<0)=false:=by simp
    clear hT ha1 hl;go_wp2
    go_round
    case rel=>exact⟨_,q,rfl,rfl,by omega,hT'⟩
    case measure=>simp[intOf];omega
set_option maxRecDepth 20000 in
theorem Z6 (a:Nat) (ha:a≠0) (hm:(a:Int)<=9223372036854775808) (n:Int) (hn:n= -(a:Int)) (w:World):
 Calls Tryz.prog 84 #[.int .i64 n] w fun e w'=>e=.returned (.string ⟨(Lib.itoa n).toArray⟩)/\w=w':=by
 have hi:Lib.itoa n=45::G9 a:=by
  rw[Qz a ha,Lib.itoa,if_pos (by omega),hn];simp
 rw[hi];have hl:=Xc (u:=a) (by omega);have H0:Hid (G9 a++(⟨#[]⟩:ByteArray).data.toList=G9 a):=by show _=_;simp
 have Hn:=qz hn;have hn1:(n==0)=false:=by simp;omega
 have hn2:n<0:=by omega
 clear hi hn;go_enter Tryz.func84,Tryz.ntmps84;go_wp2
 go_loop [3,4] (fun s m=> ∃(T:ByteArray) (M:Int) (u:Nat),s=.string T/\m=.int .i64 M/\Hid (M= -(u:Int))/\u<=a/\Hid (G9 u++T.data.toList=G9 a)) (fun _ m=>(-(intOf m)).toNat)
 case atStart=>exact⟨_,n,a,rfl,rfl,Hn,Nat.le_refl _,H0⟩
 case round=>
  obtain⟨T,M,u,rfl,rfl,hM,hu,hT⟩:=hrel;clear H0;have hTs:T.size<=30:=by
   have h1:=congrArg List.length hT.out;rw[List.length_append]at h1;have h2:T.data.toList.length=T.size:=by rw[Array.length_toList];rfl
   omega
  have hMu:=hM.out;by_cases hu0:u=0
  . subst hu0;obtain rfl:M=0:=by simpa using hMu
    have hT':=hT.out;rw[Lx,List.nil_append]at hT';have hE:(⟨(45::G9 a).toArray⟩:ByteArray)=⟨#[45]⟩++T:=by
     apply ByteArray.ext;rw[ByteArray.data_append];apply Array.ext';rw[Array.toList_append,hT'];simp
    have HE:=qz hE;clear hT hT' hE hn1 hl hM hMu;go_wp2;go_ret;exact⟨by rw[HE.out];rfl,rfl⟩
  . have hT':Hid (G9 (u / 10)++((⟨#[dgt (u % 10)]⟩:ByteArray)++T).data.toList=G9 a):=by
     have:=hT.out;rw[Q0 hu0]at this;show _=_;rw[<-this,ByteArray.data_append,Array.toList_append];simp
    have hM1:(M==0)=false:=by simp;omega
    have hM2: -9223372036854775808<=M:=by omega
    have hM3:M<0:=by omega
    have hd:=T3 (u % 10) (by omega) w;obtain⟨D,hD⟩: ∃D,M.tmod 10=D:=⟨_,rfl⟩;obtain⟨Q,hQ⟩: ∃Q,M.tdiv 10=Q:=⟨_,rfl⟩;have hD':D= -((u % 10:Nat):Int):=by
     rw[<-hD,hMu,Int.neg_tmod,Int.tmod_eq_emod_of_nonneg (by omega)];omega
    have hQ':Q= -((u / 10:Nat):Int):=by
     rw[<-hQ,hMu,Int.neg_tdiv,Int.tdiv_eq_ediv_of_nonneg (by omega)];omega
    have hlt:u % 10<10:=by omega
    have hqu:u / 10<u:=by omega
    generalize u % 10=d at*
    generalize u / 10=q at*
    have HQ:=qz hQ';have hMQ:M<Q:=by omega
    have hQ1: -9223372036854775808<=Q:=by omega
    have hQ2:Q<=0:=by omega
    have hQ3:Q<=9223372036854775807:=by omega
    by_cases hd0:d=0
    . subst hd0;obtain rfl:D=0:=by simpa using hD'
      have hd1:(Instr.slice 9 (.string ⟨#[48,49,50,51,52,53,54,55,56,57]⟩) (some (.int .i64 0)) (some (.int .i64 1)) none).run Tryz.prog w=.ok (.string ⟨#[dgt 0]⟩) w:=hd;clear hT hn1 hl hM hD' hQ' hMu hd;go_wp2
      go_round
      case rel=>exact⟨_,Q,q,rfl,rfl,HQ,by omega,hT'⟩
      case measure=>simp only[intOf];omega
    . have hDn:D<0:=by omega
      have hDb: -10<D:=by omega
      have hDd: -D=(d:Int):=by omega
      clear hT hn1 hl hM hD' hQ';clear hMu;go_wp2
      go_round
      case rel=>exact⟨_,Q,q,rfl,rfl,HQ,by omega,hT'⟩
      case measure=>simp only[intOf];omega
theorem Ut (n:Int) (h1: -9223372036854775808<=n) (h2:n<=9223372036854775807) (w:World):
 Calls Tryz.prog 84 #[.int .i64 n] w fun e w'=>e=.returned (.string ⟨(Lib.itoa n).toArray⟩)/\w=w':=by
 by_cases h0:n=0
 . subst h0;have e:(⟨(Lib.itoa 0).toArray⟩:ByteArray)=⟨#[48]⟩:=by
    have:Lib.itoa 0= [48]:=by
     rw[Lib.itoa,if_neg (by omega)];exact Lib.decDigits_one (i:=0) (by omega)
    rw[this]
   rw[e];go_enter Tryz.func84,Tryz.ntmps84;go_wp2;go_ret;exact⟨rfl,rfl⟩
 . rcases Int.lt_or_le n 0 with h|h
   . exact Z6 n.natAbs (by omega) (by omega) n (by omega) w
   . have:=Z7 n.toNat (by omega) (by omega) w
     rwa [show((n.toNat:Nat):Int)=n from by omega]at this
theorem An.moved {S:Nat->Prop} {w w':World} {l:List D} {ns:List Value} (h:An S w l ns) (hs:w.heap.size<=w'.heap.size) (hk: ∀p:Addr,S p.block->p.block<w.heap.size->w'.cell? p=w.cell? p):An S w' l ns:=fun w'' k1 k2=>
 Af.more (h w'' (Nat.le_trans hs k1) fun p p1 p2=>(k2 p p1 (Nat.lt_of_lt_of_le p2 hs)).trans (hk p p1 p2)) hs
theorem KB.many {S:Nat->Prop} (w:World) (g o:Nat) (hg:S g) (vs:List Value):KB S w (A8 w g o vs):=by
 induction vs generalizing w o with
 |nil=>exact KB.of_below (Below.refl _ _)
 |cons v r ih=>exact(KB.set w ⟨g,o,none⟩ hg v).trans (ih _ _) fun _ _ h=>h
theorem Al.del {S0:Nat->Prop} {b s g n c:Nat} {t:TypeId} {w:World} {l:List D} (h:Al S0 b t s w l (.slice (some ⟨g,0,none⟩) n c)) {i j:Nat} (hij:i<=j) (hj:j<=l.length) {z:List Value} (hz:z.length=(j - i)*s):
 ∃(cur:Array Value) (news:List Value),n=l.length/\l.length<=c/\c<=maxLen/\cur.size=c*s/\w.heap[g]? =some (.cells cur t (0,0))/\news.length=(l.length - j)*s/\(∀k u,news[k]? =some u->w.cell? ⟨g,j*s+k,none⟩=some u)/\(∀u ∈ news,u.oneCell'=true)/\
  (∀(k:Nat),k<l.length*s->(w.cell? ⟨g,k,none⟩).isSome=true/\w.frozen? ⟨g,k,none⟩=false)/\(∀(k:Nat),k<l.length*s->((A8 w g (i*s) news).cell? ⟨g,k,none⟩).isSome=true/\(A8 w g (i*s) news).frozen? ⟨g,k,none⟩=false)/\
  Al S0 b t s (A8 (A8 w g (i*s) news) g ((i+(l.length - j))*s) z) (l.take i++l.drop j) (.slice (some ⟨g,0,none⟩) (i+(l.length - j)) c):=by
 obtain⟨ns,h1,h2,h3⟩:=h;have hnl:ns.length=l.length*s:=by rw[h3.now.len.1,D5 h2]
 have hA1:=(h3.split h2 i).1;have hA2:=(h3.split h2 j).2;rcases h1.2 with⟨e1,_⟩|⟨g',cap,cur,e1,hbg,hg,hnc,hcm,hcs,hcx⟩
 . cases e1
 cases e1
 have m1:i*s<=j*s:=Nat.mul_le_mul_right _ hij;have m2:j*s<=l.length*s:=Nat.mul_le_mul_right _ hj;have m3:l.length*s<=c*s:=Nat.mul_le_mul_right _ hnc;have e1:(l.length - j)*s=l.length*s - j*s:=Nat.sub_mul _ _ _;have e2:(j - i)*s=j*s - i*s:=Nat.sub_mul _ _ _;have e3:(i+(l.length - j))*s=i*s+(l.length*s - j*s):=by rw[Nat.add_mul,e1]
 have hb:Ah w g t cur:=hg;have hcell: ∀k u,ns[k]? =some u->w.cell? ⟨g,k,none⟩=some u:=fun k u hu=>by
  refine(hb.cell k).trans ?_;rw[<-Array.getElem?_toList];rw[<-hcx,List.getElem?_take]at hu
  split at hu
  . exact hu
  . cases hu
 obtain⟨news,hnews⟩: ∃N,N=ns.drop (j*s):=⟨_,rfl⟩;have hnewl:news.length=l.length*s - j*s:=by rw[hnews,List.length_drop,hnl]
 have g1:=Gm (o:=i*s) news hg;have b1:Ah (A8 w g (i*s) news) g t (L8 cur (i*s) news):=g1;have g2:=Gm (o:=(i+(l.length - j))*s) z g1;have hsome: ∀(W:World) (C:Array Value),Ah W g t C->C.size=c*s-> ∀k,k<l.length*s->(W.cell? ⟨g,k,none⟩).isSome=true/\W.frozen? ⟨g,k,none⟩=false:=fun W C hC hs k hk=>by
  refine⟨?_,hC.frozen k⟩;rw[hC.cell k,Array.getElem?_eq_getElem (by omega)];rfl
 refine⟨cur,news,rfl,hnc,hcm,hcs,hg,by rw[e1];exact hnewl,fun k u hu=>hcell _ _ (by rw[hnews,List.getElem?_drop]at hu;exact hu),fun u hu=>h3.now.len.2 u (List.mem_of_mem_drop (by rw[hnews]at hu;exact hu)),hsome w cur hb hcs,hsome _ _ b1 (by rw[Ie];exact hcs), ?_⟩;have hfar: ∀p:Addr,p.block≠g->(A8 (A8 w g (i*s) news) g ((i+(l.length - j))*s) z).cell? p=w.cell? p:=fun p hp=>
  World.cell?_of_block ((C8 _ _ _ _ _ hp).trans (C8 _ _ _ _ _ hp))
 have hsz:(A8 (A8 w g (i*s) news) g ((i+(l.length - j))*s) z).heap.size=w.heap.size:=by rw[Cm,Cm]
 have hmv: ∀p:Addr,(S0 p.block/\(Value.slice (some ⟨g,0,none⟩) l.length c).ownBlock≠some p.block)->p.block<w.heap.size->(A8 (A8 w g (i*s) news) g ((i+(l.length - j))*s) z).cell? p=w.cell? p:=fun p p1 _=>hfar p fun e=>p1.2 (by rw[e];rfl);refine⟨ns.take (i*s)++news,⟨?_,.inr ⟨g,c,L8 (L8 cur (i*s) news) ((i+(l.length - j))*s) z, ?_,hbg,g2, ?_,hcm,by rw[Ie,Ie];exact hcs, ?_⟩⟩,fun x hx=> ?_, ?_⟩
 . rw[List.length_append,List.length_append,List.length_take,List.length_take,List.length_drop,hnl,hnewl,Nat.min_eq_left (by omega),Nat.min_eq_left (by omega),e3]
 . rw[List.length_append,List.length_take,List.length_drop,Nat.min_eq_left (by omega)]
 . rw[List.length_append,List.length_take,List.length_drop];omega
 . have o1:=O0 (cs:=cur) (ns:=ns) (ys:=news) (m:=l.length*s) (o:=i*s) hcx hnl (by omega);have o2:=O0 (cs:=L8 cur (i*s) news) (ys:=z) (m:=l.length*s) (o:=(i+(l.length - j))*s) o1 (by rw[List.length_append,List.length_append,List.length_take,List.length_drop,hnl,hnewl];omega) (by omega);have l1:(l.take i++l.drop j).length*s=i*s+(l.length*s - j*s):=by
    rw[List.length_append,List.length_take,List.length_drop,Nat.min_eq_left (by omega),e3]
   have l2:(ns.take (i*s)++news).length=i*s+(l.length*s - j*s):=by rw[List.length_append,List.length_take,hnl,hnewl];omega
   rw[l1];have:=congrArg (List.take (i*s+(l.length*s - j*s))) o2;rw[List.take_take,Nat.min_eq_left (by omega)]at this;rw[this,e3,List.append_assoc,List.take_append_of_le_length (by rw[List.length_take,List.length_append,List.length_append,List.length_take,List.length_drop,hnl,hnewl];omega),List.take_take,Nat.min_self,List.take_append_of_le_length (by rw[l2];exact Nat.le_refl _),List.take_of_length_le (by rw[l2];exact Nat.le_refl _)]
 . rcases List.mem_append.1 hx with hx|hx
   . exact h2 x (List.mem_of_mem_take hx)
   . exact h2 x (List.mem_of_mem_drop hx)
 . have a1:=hA1.moved (by rw[hsz];exact Nat.le_refl _) hmv;have a2:=hA2.moved (by rw[hsz];exact Nat.le_refl _) hmv;rw[<-hnews]at a2;have hv:(Value.slice (some ⟨g,0,none⟩) (l.take i++l.drop j).length c).ownBlock=(Value.slice (some ⟨g,0,none⟩) l.length c).ownBlock:=rfl;exact a1.app a2
end Go.Proofs.YtnkmhaachfgaoaaGreatDoor
