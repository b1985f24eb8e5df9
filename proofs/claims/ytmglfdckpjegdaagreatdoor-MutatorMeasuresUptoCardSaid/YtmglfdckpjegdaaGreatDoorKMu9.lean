/- Parts: utf: digit, unit, paired, refused. Condition: a text of at most 10^9 bytes. -/
import Derived.Test.YtmglfdckpjegdaaGreatDoorKMu6
import Derived.Test.YtmglfdckpjegdaaGreatDoorKMu7
set_option maxHeartbeats 20000000
namespace Go.Proofs.YtmglfdckpjegdaaGreatDoor
open Go.RowKit
mutual
def dV:Val->D
 | .mk k b n t l o=> .agg [.leaf (.int .i64 k),.leaf (.bool b),.leaf (.int .i64 n),.leaf (.string t),.row 6 (dL l),.row 7 (dO o)]
def dL:List Val->List D
 | []=> []
 |v::r=>dV v::dL r
def dO:List (ByteArray×Val)->List D
 | []=> []
 |p::r=>dP p::dO r
def dP:ByteArray×Val->D
 |(key,v)=> .agg [.leaf (.string key),dV v]
end
theorem Kc: ∀l,dL l=l.map dV
 | []=>rfl
 |v::r=>by simp[dL,Kc r]
theorem Gb: ∀l,dO l=l.map dP
 | []=>rfl
 |v::r=>by simp[dO,Gb r]
theorem Ez (v:Val):(dV v).cells=6:=by
 obtain⟨k,b,n,t,l,o⟩:=v;rfl
theorem Ey (p:ByteArray×Val):(dP p).cells=7:=by
 obtain⟨k,v⟩:=p;simp only[dP,D.cells,Mq,Ez]
theorem Acb (l:List Val): ∀d ∈ dL l,d.cells=6:=by
 rw[Kc];intro d hd;obtain⟨v,_,rfl⟩:=List.mem_map.1 hd;exact Ez v
theorem Dz (l:List (ByteArray×Val)): ∀d ∈ dO l,d.cells=7:=by
 rw[Gb];intro d hd;obtain⟨v,_,rfl⟩:=List.mem_map.1 hd;exact Ey v
theorem Mr (l:List Val):(dL l).length=l.length:=by rw[Kc,List.length_map]
theorem Fv (l:List (ByteArray×Val)):(dO l).length=l.length:=by rw[Gb,List.length_map]
theorem Aj.six {w:World} {B:Nat} {a b c d:Value} {e f:D} {cs:List Value}:
 Aj w B [.leaf a,.leaf b,.leaf c,.leaf d,e,f] cs ↔ ∃c4 c5,cs= [a,b,c,d]++(c4++c5)/\a.oneCell'=true/\b.oneCell'=true/\c.oneCell'=true/\d.oneCell'=true/\Holds w B e c4/\Holds w B f c5:=by
 constructor
 . rintro⟨_,_,rfl,⟨rfl,ha⟩,_,_,rfl,⟨rfl,hb⟩,_,_,rfl,⟨rfl,hc⟩,_,_,rfl,⟨rfl,hd⟩,c4,_,rfl,h4,c5,_,rfl,h5,rfl⟩;exact⟨c4,c5,by simp,ha,hb,hc,hd,h4,h5⟩
 . rintro⟨c4,c5,rfl,ha,hb,hc,hd,h4,h5⟩;exact⟨[a],_,rfl,⟨rfl,ha⟩, [b],_,rfl,⟨rfl,hb⟩, [c],_,rfl,⟨rfl,hc⟩, [d],_,rfl,⟨rfl,hd⟩,c4,_,rfl,h4,c5, [],by simp,h5,rfl⟩
theorem Aj.toL {w:World} {B:Nat} {g:Nat}: ∀{l:List Val},(∀v ∈ l,∀cs,Holds w B (dV v) cs->Ab w B v cs)-> ∀{ns:List Value} {off:Nat},Aj w B (dL l) ns->(∀j u,ns[j]? =some u->w.cell? ⟨g,off+j,none⟩=some u)->A1 w B l g off
 | [],_,_,_,_,_=>by simp[A1]
 |v::r,ih,ns,off,h,hc=>by
  obtain⟨c1,c2,rfl,h1,h2⟩:=h;have hl:c1.length=6:=h1.len.1.trans (Ez v);simp only[A1];refine⟨⟨c1,ih v (by simp) c1 h1,fun j u hu=>hc j u (by rw[List.getElem?_append_left (List.getElem?_eq_some_iff.1 hu).1];exact hu)⟩,Aj.toL (fun x hx=>ih x (by simp[hx])) h2 (fun j u hu=> ?_)⟩;rw[show off+6+j=off+(6+j)from by omega];refine hc (6+j) u ?_;rw[List.getElem?_append_right (by omega),hl,show 6+j - 6=j from by omega];exact hu
theorem Aj.toO {w:World} {B:Nat} {g:Nat}: ∀{l:List (ByteArray×Val)},(∀m ∈ l,∀cs,Holds w B (dV m.2) cs->Ab w B m.2 cs)-> ∀{ns:List Value} {off:Nat},Aj w B (dO l) ns->(∀j u,ns[j]? =some u->w.cell? ⟨g,off+j,none⟩=some u)->A5 w B l g off
 | [],_,_,_,_,_=>by simp[A5]
 |(key,v)::r,ih,ns,off,h,hc=>by
  obtain⟨c1,c2,rfl,h1,h2⟩:=h;obtain⟨_,c3,rfl,⟨rfl,_⟩,cv,c4,rfl,h3,rfl⟩:=h1;have hl:cv.length=6:=h3.len.1.trans (Ez v);simp only[A5,Om];refine⟨⟨by have:=hc 0 (.string key) rfl;simpa using this,cv,ih (key,v) (by simp) cv h3,fun j u hu=> ?_⟩,Aj.toO (fun x hx=>ih x (by simp[hx])) h2 (fun j u hu=> ?_)⟩
  . have h5:=(List.getElem?_eq_some_iff.1 hu).1;rw[show off+1+j=off+(j+1)from by omega];refine hc (j+1) u ?_;simp only[List.append_nil,List.cons_append,List.nil_append,List.getElem?_cons_succ];rw[List.getElem?_append_left h5];exact hu
  . rw[show off+7+j=off+(6+j+1)from by omega];refine hc (6+j+1) u ?_;simp only[List.append_nil,List.cons_append,List.nil_append,List.getElem?_cons_succ];rw[List.getElem?_append_right (by omega),hl,show 6+j - 6=j from by omega];exact hu
theorem B8 {w:World} {B:Nat}: ∀(v:Val) cs,Holds w B (dV v) cs->Ab w B v cs:=by
 refine Val.ind ?_;intro k b n t l o hl ho cs h;simp only[dV,Holds]at h;obtain⟨c4,c5,rfl,_,_,_,_,⟨a4,n4,rfl,_,ns4,h4,i4⟩,⟨a5,n5,rfl,_,ns5,h5,i5⟩⟩:=Aj.six.1 h;simp only[Ab];refine⟨a4,n4,a5,n5,by simp[Fu,Mr,Fv], ?_, ?_⟩
 . rcases i4 with e|⟨g,off,e,hg,hc⟩
   . refine .inl ?_
     cases l with
     |nil=>rfl
     |cons x r=>simp[dL]at e
   . exact .inr ⟨g,off,e,hg,Aj.toL hl h4 hc⟩
 . rcases i5 with e|⟨g,off,e,hg,hc⟩
   . refine .inl ?_
     cases o with
     |nil=>rfl
     |cons x r=>simp[dO]at e
   . exact .inr ⟨g,off,e,hg,Aj.toO ho h5 hc⟩
theorem Aj.ofL {w:World} {B:Nat} {g:Nat}: ∀{l:List Val},(∀v ∈ l,∀cs,Ab w B v cs->Holds w B (dV v) cs)-> ∀{off:Nat},A1 w B l g off-> ∃ns,Aj w B (dL l) ns/\ ∀j u,ns[j]? =some u->w.cell? ⟨g,off+j,none⟩=some u
 | [],_,_,_=>⟨[],rfl,fun j u h=>by simp at h⟩
 |v::r,ih,off,h=>by
  simp only[A1]at h;obtain⟨⟨cs,h1,hc⟩,h2⟩:=h;have h1':=ih v (by simp) cs h1;have hl:cs.length=6:=h1'.len.1.trans (Ez v);obtain⟨ns,h3,h4⟩:=Aj.ofL (fun x hx=>ih x (by simp[hx])) h2;refine⟨cs++ns,⟨cs,ns,rfl,h1',h3⟩,fun j u hu=> ?_⟩;by_cases hj:j<6
  . rw[List.getElem?_append_left (by omega)]at hu;exact hc j u hu
  . rw[List.getElem?_append_right (by omega),hl]at hu;have:=h4 (j - 6) u hu
    rwa [show off+6+(j - 6)=off+j from by omega]at this
theorem Aj.ofO {w:World} {B:Nat} {g:Nat}: ∀{l:List (ByteArray×Val)},(∀m ∈ l,∀cs,Ab w B m.2 cs->Holds w B (dV m.2) cs)-> ∀{off:Nat},A5 w B l g off-> ∃ns,Aj w B (dO l) ns/\ ∀j u,ns[j]? =some u->w.cell? ⟨g,off+j,none⟩=some u
 | [],_,_,_=>⟨[],rfl,fun j u h=>by simp at h⟩
 |(key,v)::r,ih,off,h=>by
  simp only[A5,Om]at h;obtain⟨⟨h0,cs,h1,hc⟩,h2⟩:=h;have h1':=ih (key,v) (by simp) cs h1;have hl:cs.length=6:=h1'.len.1.trans (Ez v);obtain⟨ns,h3,h4⟩:=Aj.ofO (fun x hx=>ih x (by simp[hx])) h2;refine⟨(.string key::cs)++ns,⟨.string key::cs,ns,rfl,⟨[.string key],cs,rfl,⟨rfl,rfl⟩,cs, [],by simp,h1',rfl⟩,h3⟩,fun j u hu=> ?_⟩
  match j,hu with
  |0,hu=>
   simp at hu;subst hu;exact h0
  |j+1,hu=>
   simp only[List.cons_append,List.getElem?_cons_succ]at hu;by_cases hj:j<6
   . rw[List.getElem?_append_left (by omega)]at hu;have:=hc j u hu
     rwa [show off+1+j=off+(j+1)from by omega]at this
   . rw[List.getElem?_append_right (by omega),hl]at hu;have:=h4 (j - 6) u hu
     rwa [show off+7+(j - 6)=off+(j+1)from by omega]at this
theorem Fp {w:World} {B:Nat}: ∀(v:Val) cs,Ab w B v cs->Holds w B (dV v) cs:=by
 refine Val.ind ?_;intro k b n t l o hl ho cs h;simp only[Ab]at h;obtain⟨la,lc,oa,oc,rfl,h1,h2⟩:=h;simp only[dV,Holds];refine Aj.six.2 ⟨[.slice la l.length lc], [.slice oa o.length oc],rfl,rfl,rfl,rfl,rfl, ?_, ?_⟩
 . rcases h1 with rfl|⟨g,off,e,hg,h1⟩
   . exact⟨la,lc,rfl,Acb _, [],rfl,.inl rfl⟩
   . obtain⟨ns,h3,h4⟩:=Aj.ofL hl h1;exact⟨la,lc,by rw[Mr],Acb _,ns,h3,.inr ⟨g,off,e,hg,h4⟩⟩
 . rcases h2 with rfl|⟨g,off,e,hg,h2⟩
   . exact⟨oa,oc,rfl,Dz _, [],rfl,.inl rfl⟩
   . obtain⟨ns,h3,h4⟩:=Aj.ofO ho h2;exact⟨oa,oc,by rw[Fv],Dz _,ns,h3,.inr ⟨g,off,e,hg,h4⟩⟩
theorem O9 {l:List UInt8} (h:l≠ []) (f p:Nat):
 ((I6 l).2=0/\A8 (f+1) l p= [])\/(∃n r:Nat,I6 l=((r:Int),(n:Int))/\1<=n/\n<=l.length/\A8 (f+1) l p=(p,r)::A8 f (l.drop n) (p+n)):=by
 have hg:=Qj l h;unfold L0 at hg;by_cases hb:(Lib.decodeL l).1=65533/\(Lib.decodeL l).2=1
 . rw[if_pos hb]at hg;rw[hg];refine .inl ⟨rfl, ?_⟩;simp only[A8];rw[if_neg h,if_pos hb]
 . rw[if_neg hb]at hg;have hw:=Lib.decodeL_width l;refine .inr ⟨(Lib.decodeL l).2,(Lib.decodeL l).1,hg,hw,Lib.decodeL_le l h, ?_⟩;simp only[A8];rw[if_neg h,if_neg hb]
def Ob (v1 v2:Value):Prop:= ∀g,v1.ownBlock=some g->v2.ownBlock≠some g
theorem Ob.ne {v1 v2:Value} (h:Ob v1 v2):v1.ownBlock=none\/v1.ownBlock≠v2.ownBlock:=by
 cases e:v1.ownBlock with
 |none=>exact .inl rfl
 |some g=>exact .inr fun e'=>h g e (by rw[<-e'])
theorem Ob.symm {v1 v2:Value} (h:Ob v1 v2):Ob v2 v1:=fun g e e'=>h g e' e
theorem Ob.step {v1 v1' v2:Value} {w:World} {B n N:Nat} {e:TypeId} {size:Nat} {xs:List Value} (h:Ob v1 v2) (h2:w.ownsRow B e size v2 n xs) (h4:v1'.ownBlock=v1.ownBlock\/v1'.ownBlock=some N) (hN:w.heap.size<=N):Ob v1' v2:=by
 intro g e1 e2;rcases h4 with h4|h4
 . exact h g (by rw[<-h4];exact e1) e2
 . rw[h4]at e1;obtain rfl:=Option.some.inj e1;have:=(h2.lt _ e2).2;omega
theorem Aln:(Tryz.prog.info? 3).map (fun i=>(i.zero,i.size,i.bytes))=some (some (.int .i64 0),1,8):=by kernel_rfl
set_option maxRecDepth 20000 in
theorem Aaa (s:ByteArray) (w:World) (hs:s.size<=1000000000):
 Calls Tryz.prog 85 #[.string s] w fun e w'=>(∃v1 v2,e=.returned (.tuple #[v1,v2])/\w'.ownsRow w.heap.size 3 1 v1 (Ca s).length ((Ca s).map fun x=>Value.int .i64 x.2))/\Below w.heap.size w w':=by
 obtain⟨i0,hi,hz0,hz1,hz2⟩:=info_parts Aln;obtain⟨HI,HZ0,HZ1,HZ2⟩:=hid4 hi hz0 hz1 hz2;clear hi hz0 hz1 hz2;have Hown0:Hid (w.ownsRow w.heap.size 3 1 (.slice none 0 0) 0 []):=World.ownsRow_nil _ _ _ _;have Hap0:Hid (Ob (.slice none 0 0) (.slice none 0 0)):=Lib.hid (fun g e=>by simp[Value.ownBlock]at e);go_enter Tryz.func85,Tryz.ntmps85;go_wp2;go_loopw [4,5,6] (fun v1 v2 i wr=> ∃(pre:List (Nat×Nat)) (f k:Nat),i=.int .i64 k/\k<=s.size/\s.size - k<=f/\Hid (Ca s=pre++A8 f (s.data.toList.drop k) k)/\pre.length<=k/\
  Hid (wr.ownsRow w.heap.size 3 1 v1 pre.length (pre.map fun x=>Value.int .i64 x.2))/\Hid (wr.ownsRow w.heap.size 3 1 v2 pre.length (pre.map fun x=>Value.int .i64 x.1))/\Hid (Ob v1 v2)/\Hid (Below w.heap.size w wr)) (fun _ _ i _=>s.size - (intOf i).toNat)
 case atStart=>exact⟨[],s.size,0,rfl,Nat.zero_le _,by omega,rfl,Nat.le_refl _,Hown0,Hown0,Hap0,Below.refl _ _⟩
 case round=>
  obtain⟨pre,f,k,rfl,hk,hf,hr,hpk,ho1,ho2,hap,hbw⟩:=hrel;clear Hown0 Hap0;by_cases hlt:k<s.size
  . have hne:s.data.toList.drop k≠ []:=by
     intro e;have:=congrArg List.length e;rw[List.length_drop,<-Lib.size_eq]at this;simp at this;omega
    obtain⟨f,rfl⟩: ∃f',f=f'+1:=⟨f - 1,by omega⟩;have hA:=Abr s k wr (by omega) (by omega);rcases O9 hne f k with⟨h0,hv⟩|⟨n,r,hn,hn1,hn2,hv⟩
    . have hr':=hr.out;rw[hv,List.append_nil]at hr';rw[h0]at hA;generalize (I6 (s.data.toList.drop k)).1=R at hA;obtain⟨HA,HR⟩:=hid2 hA hr';clear hA h0 hv hne hr hr';go_wp2_with (fail);(with_reducible refine HA.out.mono ?_);rintro e w' ⟨rfl,rfl⟩;clear HA;go_wp2;go_ret2;exact⟨⟨u4,u5,rfl,by rw[HR.out];exact ho1.out⟩,hbw.out⟩
    . have hr':=hr.out;rw[hv,List.drop_drop]at hr';rw[hn]at hA;rw[List.length_drop,<-Lib.size_eq]at hn2;obtain⟨HA,HR⟩:=hid2 hA hr';have hb1:w.heap.size<=wr.heap.size:=hbw.out.size;clear hA hn hv hne hr hr';have e0:((n:Int)==0)=false:=by simp;omega
      go_wp2_with (fail);(with_reducible refine HA.out.mono ?_);rintro e w' ⟨rfl,rfl⟩;clear HA;go_wp2_with (at_builtin;refine wpList_append_own_at _ rfl (.tmp 21) (.tmp 23) 122 rfl w.heap.size 3 i0 (.int .i64 0) 1 8 Tryz.underlying122 HI.out HZ0.out HZ1.out HZ2.out rfl (by decide) u4 pre.length _ rfl (ho1.out.alloc _) ⟨wr.heap.size,0,none⟩ 1 1 [.int .i64 r] rfl rfl ?c1 ?c2 ?c3 ?c4 ?c5 ?_)
      case c1=>
       intro j u hj
       match j,hj with
       |0,hj=>simp at hj;subst hj;simp[Addr.add]
      case c2=>intro u hu;simp at hu;subst hu;rfl
      case c3=>unfold maxLen;omega
      case c4=>omega
      case c5=>simp;omega
      intro v1' w2 hown1 hgrow1 _ hat1;have ho1':=Lib.hid hown1;have ho2':=Lib.hid ((ho2.out.alloc (.cells #[.int .i64 r] 3)).kept hgrow1 hap.out.symm.ne);have hap':=Lib.hid (Ob.step hap.out ho2.out hat1 (by omega));have hbw2:=Lib.hid ((hbw.out.alloc hb1 (.cells #[.int .i64 r] 3)).grown hgrow1 (by simp;omega) (fun k hk=>(ho1.out.lt k hk).1));have hb2:w.heap.size<=w2.heap.size:=hbw2.out.size;clear hown1 hgrow1 hat1 ho1 ho2 hap hbw hb1;go_wp2_with (at_builtin;refine wpList_append_own_at _ rfl (.tmp 25) (.tmp 27) 122 rfl w.heap.size 3 i0 (.int .i64 0) 1 8 Tryz.underlying122 HI.out HZ0.out HZ1.out HZ2.out rfl (by decide) u5 pre.length _ rfl (ho2'.out.alloc _) ⟨w2.heap.size,0,none⟩ 1 1 [.int .i64 k] rfl rfl ?d1 ?d2 ?d3 ?d4 ?d5 ?_)
      case d1=>
       intro j u hj
       match j,hj with
       |0,hj=>simp at hj;subst hj;simp[Addr.add]
      case d2=>intro u hu;simp at hu;subst hu;rfl
      case d3=>unfold maxLen;omega
      case d4=>omega
      case d5=>simp;omega
      intro v2' w3 hown2 hgrow2 _ hat2;have ho2'':=Lib.hid hown2;have ho1'':=Lib.hid ((ho1'.out.alloc (.cells #[.int .i64 k] 3)).kept hgrow2 hap'.out.ne);have hap'':=Lib.hid (Ob.step hap'.out.symm ho1'.out hat2 (by omega)).symm;have hbw3:=Lib.hid ((hbw2.out.alloc hb2 (.cells #[.int .i64 k] 3)).grown hgrow2 (by simp;omega) (fun k hk=>(ho2'.out.lt k hk).1));clear hown2 hgrow2 hat2 ho1' ho2' hap' hbw2 hb2;go_wp2;go_roundw
      case rel=>exact⟨pre++ [(k,r)],f,k+n,by go_num,by omega,by omega,Lib.hid (by rw[List.append_assoc];exact HR.out),by simp;omega,Lib.hid (by rw[List.length_append,List.map_append];exact ho1''.out),Lib.hid (by rw[List.length_append,List.map_append];exact ho2''.out),hap'',hbw3⟩
      case measure=>simp only[intOf];omega
  . obtain rfl:k=s.size:=by omega
    have hr':=hr.out;have e:A8 f (s.data.toList.drop s.size) s.size= []:=by
     rw[List.drop_eq_nil_of_le (by rw[<-Lib.size_eq];omega)]
     cases f<;>simp[A8]
    rw[e,List.append_nil]at hr';have HR:=Lib.hid hr';clear hr hr' e;go_wp2;go_ret2;exact⟨⟨u4,u5,rfl,by rw[HR.out];exact ho1.out⟩,hbw.out⟩
def dgt (d:Nat):UInt8:=UInt8.ofNat (48+d)
def Gt (u:Nat):List UInt8:=if _h:u=0 then []else Gt (u / 10)++ [dgt (u % 10)]
termination_by u
decreasing_by omega
theorem Ke:Gt 0= []:=by rw[Gt,dif_pos rfl]
theorem M6 {u:Nat} (h:u≠0):Gt u=Gt (u / 10)++ [dgt (u % 10)]:=by rw[Gt,dif_neg h]
theorem Jn (u:Nat):u≠0->Gt u=Lib.decDigits u:=by
 induction u using Nat.strongRecOn with
 |_ u ih=>
  intro h;rw[M6 h,Lib.decDigits];unfold dgt;by_cases h10:u<10
  . rw[dif_pos h10,show u / 10=0 from by omega,Ke,show u % 10=u from by omega,List.nil_append]
  . rw[dif_neg h10,ih (u / 10) (by omega) (by omega)]
theorem Acj {u:Nat} (h:(u:Int)<=9223372036854775808):(Gt u).length<=30:=by
 by_cases h0:u=0
 . subst h0;rw[Ke];simp
 . rw[Jn u h0,Lib.decDigits_length];exact Nat.le_trans (Lib.nDigits_le20 u (by omega)) (by omega)
theorem Abf (S:ByteArray) (d e:Nat) (hd:d<=e) (he:e<=S.size) (w:World):(Instr.slice 9 (.string S) (some (.int .i64 d)) (some (.int .i64 e)) none).run Tryz.prog w=.ok (.string (S.extract d e)) w:=by
 simp[Instr.slice,run_underlying Tryz.underlying9,Instr.sliceBounds,go_sem,hd,he]
theorem Alb: ∀d:Fin 10,(⟨#[48,49,50,51,52,53,54,55,56,57]⟩:ByteArray).extract d.val (d.val+1)=⟨#[dgt d.val]⟩:=by decide
theorem Zp (d:Nat) (hd:d<10) (w:World):(Instr.slice 9 (.string ⟨#[48,49,50,51,52,53,54,55,56,57]⟩) (some (.int .i64 d)) (some (.int .i64 ((d:Int)+1))) none).run Tryz.prog w=.ok (.string ⟨#[dgt d]⟩) w:=by
 have:=Abf ⟨#[48,49,50,51,52,53,54,55,56,57]⟩ d (d+1) (by omega) (by show d+1<=10;omega) w;rw[Alb ⟨d,hd⟩]at this;exact this
set_option maxRecDepth 20000 in
theorem Afk (a:Nat) (ha:a≠0) (hm:(a:Int)<=9223372036854775807) (w:World):
 Calls Tryz.prog 44 #[.int .i64 a] w fun e w'=>e=.returned (.string ⟨(Lib.itoa a).toArray⟩)/\w=w':=by
 have hi:Lib.itoa a=Gt a:=by
  rw[Jn a ha,Lib.itoa,if_neg (by omega)];simp
 rw[hi];have hl:=Acj (u:=a) (by omega);have H0:Hid (Gt a++(⟨#[]⟩:ByteArray).data.toList=Gt a):=by show _=_;simp
 clear hi;go_enter Tryz.func44,Tryz.ntmps44;have ha1:((a:Int)==0)=false:=by simp;omega
 go_wp2
 go_loop [3,4] (fun s m=> ∃(T:ByteArray) (u:Nat),s=.string T/\m=.int .i64 u/\u<=a/\Hid (Gt u++T.data.toList=Gt a)) (fun _ m=>(intOf m).toNat)
 case atStart=>exact⟨_,a,rfl,rfl,Nat.le_refl _,H0⟩
 case round=>
  obtain⟨T,u,rfl,rfl,hu,hT⟩:=hrel;clear H0;have hTs:T.size<=30:=by
   have h1:=congrArg List.length hT.out;rw[List.length_append]at h1;have h2:T.data.toList.length=T.size:=by rw[Array.length_toList];rfl
   omega
  by_cases hu0:u=0
  . subst hu0;have hT':=hT.out;rw[Ke,List.nil_append]at hT';have hE:(⟨(Gt a).toArray⟩:ByteArray)=T:=by rw[<-hT']
    have HE:=Lib.hid hE;clear hT hT' hE ha1 hl;have h0:((a:Int)<0)=False:=by simp
    go_wp2;go_ret;exact⟨by rw[HE.out];rfl,rfl⟩
  . have hu1:((u:Int)==0)=false:=by simp;omega
    have hT':Hid (Gt (u / 10)++((⟨#[dgt (u % 10)]⟩:ByteArray)++T).data.toList=Gt a):=by
     have:=hT.out;rw[M6 hu0]at this;show _=_;rw[<-this,ByteArray.data_append,Array.toList_append];simp
    have hd:=Zp (u % 10) (by omega) w;have hm10:(u:Int) % 10=((u % 10:Nat):Int):=by omega
    have hq10:(u:Int) / 10=((u / 10:Nat):Int):=by omega
    have hlt:u % 10<10:=by omega
    have hqu:u / 10<u:=by omega
    generalize u % 10=d at*
    generalize u / 10=q at*
    have hdn:decide ((d:Int)<0)=false:=by simp
    clear hT ha1 hl;go_wp2
    go_round
    case rel=>exact⟨_,q,rfl,rfl,by omega,hT'⟩
    case measure=>simp[intOf];omega
set_option maxRecDepth 20000 in
theorem Afj (a:Nat) (ha:a≠0) (hm:(a:Int)<=9223372036854775808) (n:Int) (hn:n= -(a:Int)) (w:World):
 Calls Tryz.prog 44 #[.int .i64 n] w fun e w'=>e=.returned (.string ⟨(Lib.itoa n).toArray⟩)/\w=w':=by
 have hi:Lib.itoa n=45::Gt a:=by
  rw[Jn a ha,Lib.itoa,if_pos (by omega),hn];simp
 rw[hi];have hl:=Acj (u:=a) (by omega);have H0:Hid (Gt a++(⟨#[]⟩:ByteArray).data.toList=Gt a):=by show _=_;simp
 have Hn:=Lib.hid hn;have hn1:(n==0)=false:=by simp;omega
 have hn2:n<0:=by omega
 clear hi hn;go_enter Tryz.func44,Tryz.ntmps44;go_wp2
 go_loop [3,4] (fun s m=> ∃(T:ByteArray) (M:Int) (u:Nat),s=.string T/\m=.int .i64 M/\Hid (M= -(u:Int))/\u<=a/\Hid (Gt u++T.data.toList=Gt a)) (fun _ m=>(-(intOf m)).toNat)
 case atStart=>exact⟨_,n,a,rfl,rfl,Hn,Nat.le_refl _,H0⟩
 case round=>
  obtain⟨T,M,u,rfl,rfl,hM,hu,hT⟩:=hrel;clear H0;have hTs:T.size<=30:=by
   have h1:=congrArg List.length hT.out;rw[List.length_append]at h1;have h2:T.data.toList.length=T.size:=by rw[Array.length_toList];rfl
   omega
  have hMu:=hM.out;by_cases hu0:u=0
  . subst hu0;obtain rfl:M=0:=by simpa using hMu
    have hT':=hT.out;rw[Ke,List.nil_append]at hT';have hE:(⟨(45::Gt a).toArray⟩:ByteArray)=⟨#[45]⟩++T:=by
     apply ByteArray.ext;rw[ByteArray.data_append];apply Array.ext';rw[Array.toList_append,hT'];simp
    have HE:=Lib.hid hE;clear hT hT' hE hn1 hl hM hMu;go_wp2;go_ret;exact⟨by rw[HE.out];rfl,rfl⟩
  . have hT':Hid (Gt (u / 10)++((⟨#[dgt (u % 10)]⟩:ByteArray)++T).data.toList=Gt a):=by
     have:=hT.out;rw[M6 hu0]at this;show _=_;rw[<-this,ByteArray.data_append,Array.toList_append];simp
    have hM1:(M==0)=false:=by simp;omega
    have hM2: -9223372036854775808<=M:=by omega
    have hM3:M<0:=by omega
    have hd:=Zp (u % 10) (by omega) w;obtain⟨D,hD⟩: ∃D,M.tmod 10=D:=⟨_,rfl⟩;obtain⟨Q,hQ⟩: ∃Q,M.tdiv 10=Q:=⟨_,rfl⟩;have hD':D= -((u % 10:Nat):Int):=by
     rw[<-hD,hMu,Int.neg_tmod,Int.tmod_eq_emod_of_nonneg (by omega)];omega
    have hQ':Q= -((u / 10:Nat):Int):=by
     rw[<-hQ,hMu,Int.neg_tdiv,Int.tdiv_eq_ediv_of_nonneg (by omega)];omega
    have hlt:u % 10<10:=by omega
    have hqu:u / 10<u:=by omega
    generalize u % 10=d at*
    generalize u / 10=q at*
    have HQ:=Lib.hid hQ';have hMQ:M<Q:=by omega
    have hQ1: -9223372036854775808<=Q:=by omega
    have hQ2:Q<=0:=by omega
    have hQ3:Q<=9223372036854775807:=by omega
    by_cases hd0:d=0
    . subst hd0;obtain rfl:D=0:=by simpa using hD'
      have hd1:(Instr.slice 9 (.string ⟨#[48,49,50,51,52,53,54,55,56,57]⟩) (some (.int .i64 0)) (some (.int .i64 1)) none).run Tryz.prog w=.ok (.string ⟨#[dgt 0]⟩) w:=hd;clear hT hn1 hl hM hD' hQ' hMu hd;go_wp2
      go_round
      case rel=>exact⟨_,Q,q,rfl,rfl,HQ,by omega,hT'⟩
      case measure=>simp only[intOf];omega
    . have hDn:D<0:=by omega
      have hDb: -10<D:=by omega
      have hDd: -D=(d:Int):=by omega
      clear hT hn1 hl hM hD' hQ';clear hMu;go_wp2
      go_round
      case rel=>exact⟨_,Q,q,rfl,rfl,HQ,by omega,hT'⟩
      case measure=>simp only[intOf];omega
theorem Aan (n:Int) (h1: -9223372036854775808<=n) (h2:n<=9223372036854775807) (w:World):
 Calls Tryz.prog 44 #[.int .i64 n] w fun e w'=>e=.returned (.string ⟨(Lib.itoa n).toArray⟩)/\w=w':=by
 by_cases h0:n=0
 . subst h0;have e:(⟨(Lib.itoa 0).toArray⟩:ByteArray)=⟨#[48]⟩:=by
    have:Lib.itoa 0= [48]:=by
     rw[Lib.itoa,if_neg (by omega)];exact Lib.decDigits_one (i:=0) (by omega)
    rw[this]
   rw[e];go_enter Tryz.func44,Tryz.ntmps44;go_wp2;go_ret;exact⟨rfl,rfl⟩
 . rcases Int.lt_or_le n 0 with h|h
   . exact Afj n.natAbs (by omega) (by omega) n (by omega) w
   . have:=Afk n.toNat (by omega) (by omega) w
     rwa [show((n.toNat:Nat):Int)=n from by omega]at this
set_option maxRecDepth 100000 in
theorem Anq {c:UInt8} {d:Nat} (h:Xh c=some d) (w:World):Calls Tryz.prog 254 #[.int .u8 c.toNat] w fun e w'=>e=.returned (.tuple #[.int .i32 d,.bool true])/\w=w':=by
 have hcl:=Em c;unfold Xh at h
 split at h
 . rename_i hr;obtain⟨h1,h2⟩:=hr;have e:(d:Int)=(c.toNat:Int) - 48:=by have:=Option.some.inj h;omega
   have l1:(48:Int)<=(c.toNat:Int):=by omega
   have l2:(c.toNat:Int)<=57:=by omega
   rw[e];clear h e h1 h2;go_enter Tryz.func254,Tryz.ntmps254;go_wp2;go_ret2;exact⟨rfl,rfl⟩
 split at h
 . rename_i hn hr;obtain⟨h1,h2⟩:=hr;have e:(d:Int)=(c.toNat:Int) - 97+10:=by have:=Option.some.inj h;omega
   have l0: ¬((c.toNat:Int)<=57):=by omega
   have l1:(97:Int)<=(c.toNat:Int):=by omega
   have l2:(c.toNat:Int)<=102:=by omega
   rw[e];clear h e h1 h2 hn;go_enter Tryz.func254,Tryz.ntmps254;go_wp2;go_ret2;exact⟨rfl,rfl⟩
 split at h
 . rename_i hn1 hn hr;obtain⟨h1,h2⟩:=hr;have e:(d:Int)=(c.toNat:Int) - 65+10:=by have:=Option.some.inj h;omega
   have l0: ¬((c.toNat:Int)<=57):=by omega
   have l3: ¬((97:Int)<=(c.toNat:Int)):=by omega
   have l1:(65:Int)<=(c.toNat:Int):=by omega
   have l2:(c.toNat:Int)<=70:=by omega
   rw[e];clear h e h1 h2 hn hn1;go_enter Tryz.func254,Tryz.ntmps254;go_wp2;go_ret2;exact⟨rfl,rfl⟩
 . cases h
set_option maxRecDepth 100000 in
theorem Aps {c:UInt8} (h:Xh c=none) (w:World):Calls Tryz.prog 254 #[.int .u8 c.toNat] w fun e w'=>e=.returned (.tuple #[.int .i32 0,.bool false])/\w=w':=by
 have hcl:=Em c;unfold Xh at h
 split at h
 . cases h
 split at h
 . cases h
 split at h
 . cases h
 rename_i h1 h2 h3;by_cases a1:(48:Int)<=(c.toNat:Int)<;>by_cases a2:(c.toNat:Int)<=57<;>by_cases a3:(97:Int)<=(c.toNat:Int)<;>by_cases a4:(c.toNat:Int)<=102<;>by_cases a5:(65:Int)<=(c.toNat:Int)<;>by_cases a6:(c.toNat:Int)<=70
 all_goals first|(exfalso;omega)|(clear h h1 h2 h3;go_enter Tryz.func254,Tryz.ntmps254;go_wp2;go_ret2;exact⟨rfl,rfl⟩)
theorem Xy (c:UInt8) (w:World):Calls Tryz.prog 225 #[.int .u8 c.toNat] w fun e w'=>e=.returned (.int .i64 (if c.toNat<32 then 4 else 3))/\w=w':=by
 have hcl:=Em c;by_cases h:c.toNat<32
 . rw[if_pos h];have h':(c.toNat:Int)<32:=by omega
   clear h;go_enter Tryz.func225,Tryz.ntmps225;go_wp2;go_ret;exact⟨rfl,rfl⟩
 . rw[if_neg h];have h': ¬((c.toNat:Int)<32):=by omega
   clear h;go_enter Tryz.func225,Tryz.ntmps225;go_wp2;go_ret;exact⟨rfl,rfl⟩
theorem Zc (a:Nat) (ha:a<2147483648):(BitVec.ofInt 32 (a:Int)).toNat=a:=by
 rw[BitVec.ofInt_natCast,BitVec.toNat_ofNat];exact Nat.mod_eq_of_lt (by omega)
theorem Aqy {n d:Nat} (hn:n<4096) (hd:d<16):bits .or .i32 ((n:Int)*16) (d:Int)=((16*n+d:Nat):Int):=by
 have e:(n:Int)*16=((n*16:Nat):Int):=by omega
 have h:n*16 ||| d=n*16+d:=by
  have:=Nat.shiftLeft_add_eq_or_of_lt (i:=4) (b:=d) (by omega) n;rw[Nat.shiftLeft_eq]at this;exact this.symm
 rw[e];show IntKind.i32.wrap ((BitVec.ofInt 32 ((n*16:Nat):Int) ||| BitVec.ofInt 32 (d:Int)).toNat:Int)=_;rw[BitVec.toNat_or,Zc _ (by omega),Zc _ (by omega),h,IntKind.wrap_i32];omega
def Aej (u:Option Nat):Value:=match u with
 |some n=> .tuple #[.int .i32 n,.bool true]
 |none=> .tuple #[.int .i32 0,.bool false]
set_option maxRecDepth 100000 in
theorem Wv (t:ByteArray) (w:World) (hs:t.size<=1000000000):Calls Tryz.prog 243 #[.string t] w fun e w'=>e=.returned (Aej (Iq t.data.toList))/\w=w':=by
 have hlen:=Aq t;by_cases h6:t.size<6
 . have e:Iq t.data.toList=none:=by unfold Iq;rw[if_pos (by omega)]
   rw[e];have l:(t.size:Int)<6:=by omega
   clear e hlen;go_enter Tryz.func243,Tryz.ntmps243;go_wp2;go_ret2;exact⟨rfl,rfl⟩
 have l6: ¬((t.size:Int)<6):=by omega
 have q0:0<t.size:=by omega
 have q1:1<t.size:=by omega
 obtain⟨a,ha⟩: ∃a,t[0]=a:=⟨_,rfl⟩;obtain⟨b,hb⟩: ∃b,t[1]=b:=⟨_,rfl⟩;have ga:t.data.toList[0]? =some a:=by rw[E2 t q0,ha]
 have gb:t.data.toList[1]? =some b:=by rw[E2 t q1,hb]
 have hal:=Em a;have hbl:=Em b;have ne: ∀(c:UInt8) (n:Nat),n<256->c≠UInt8.ofNat n->((c.toNat:Int)==(n:Int))=false:=fun c n hn h=>by rw[Rg hn];simpa using h
 by_cases h92:a=92;rotate_left
 . have e:Iq t.data.toList=none:=by unfold Iq;rw[if_pos];right;left;rw[ga];simpa using h92
   have e1:=ne a 92 (by decide) h92;rw[e];clear e hlen ga gb ne h92 h6;go_enter Tryz.func243,Tryz.ntmps243;go_wp2;go_ret2;exact⟨rfl,rfl⟩
 by_cases h117:b=117;rotate_left
 . have e:Iq t.data.toList=none:=by unfold Iq;rw[if_pos];right;right;rw[gb];simpa using h117
   have e1:=ne b 117 (by decide) h117;rw[e];subst h92;clear e hlen ga gb ne h117 h6;go_enter Tryz.func243,Tryz.ntmps243;go_wp2;go_ret2;exact⟨rfl,rfl⟩
 subst h92 h117;have e:Iq t.data.toList=Oi (t.data.toList.drop 2) 4 0:=by
  unfold Iq;rw[if_neg];rw[ga,gb];simp;omega
 rw[e];obtain⟨F,hF⟩: ∃F,Oi (t.data.toList.drop 2) 4 0=F:=⟨_,rfl⟩;rw[hF];have H0:=Lib.hid hF;clear e hF ga gb ne hlen;go_enter Tryz.func243,Tryz.ntmps243;go_wp2
 go_loop [4,5] (fun x i=> ∃k n:Nat,2<=k/\k<=6/\i=.int .i64 k/\x=.int .i32 n/\n<16 ^ (k - 2)/\Hid (Oi (t.data.toList.drop k) (6 - k) n=F)) (fun _ i=>6 - (intOf i).toNat)
 case atStart=>exact⟨2,0,by omega,by omega,rfl,rfl,by decide,H0⟩
 case round=>
  obtain⟨k,n,hk2,hk6,rfl,rfl,hn,hf⟩:=hrel;clear H0;by_cases hlt:k<6
  . have hkt:k<t.size:=by omega
    obtain⟨c,hc⟩: ∃c,t[k]=c:=⟨_,rfl⟩;have hg:t.data.toList[k]? =some c:=by rw[E2 t hkt,hc]
    have hcl:=Em c;have hn':n<4096:=by
     have:16 ^ (k - 2)<=16 ^ 3:=Nat.pow_le_pow_right (by decide) (by omega);omega
    have hf':=hf.out;rw[Ks hg,show 6 - k=(6 - (k+1))+1 from by omega]at hf';simp only[Oi]at hf'
    cases hd:Xh c with
    |none=>
     rw[hd]at hf';subst hf';have hD:=fun W=>Aps hd W;have HD:=Lib.hid hD;clear hD;clear hf hd hg;go_wp2_with (fail);(with_reducible refine(HD.out _).mono ?_);rintro e w1 ⟨rfl,rfl⟩;go_wp2;go_ret2;exact⟨rfl,rfl⟩
    |some d=>
     rw[hd]at hf';simp only at hf';have hD:=fun W=>Anq hd W;have hd16:=Ahj hd;have HF:=Lib.hid hf';have hpow:16*n+d<16 ^ (k+1 - 2):=by
      rw[show k+1 - 2=(k - 2)+1 from by omega,Nat.pow_succ];omega
     obtain⟨HP,HD⟩:=hid2 hpow hD;clear hD;clear hf hd hg hf' hn hpow;go_wp2_with (fail);(with_reducible refine(HD.out _).mono ?_);rintro e w1 ⟨rfl,rfl⟩;go_wp2
     go_round
     case rel=>exact⟨k+1,16*n+d,by omega,by omega,by go_num,by rw[Aqy (by omega) (by omega)],HP.out,HF⟩
     case measure=>simp[intOf];omega
  . obtain rfl:k=6:=by omega
    have hf':=hf.out;have e:Oi (t.data.toList.drop 6) (6 - 6) n=some n:=by cases t.data.toList.drop 6<;>rfl
    rw[e]at hf';subst hf';clear hf e;go_wp2;go_ret2;exact⟨rfl,rfl⟩
end Go.Proofs.YtmglfdckpjegdaaGreatDoor
