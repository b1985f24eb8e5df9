/- Parts: utf: digit, unit, paired, refused. Condition: a text of at most 10^9 bytes. -/
import Derived.Lib.ValidU
import Derived.Test.YtkmcjfkokoidcaaGreatDoorKFb8
import Derived.Test.YtkmcjfkokoidcaaGreatDoorKFb9
set_option maxHeartbeats 20000000
set_option maxRecDepth 100000
namespace Go.Proofs.YtkmcjfkokoidcaaGreatDoor
theorem Ahb (l:List UInt8) (k:Nat):((ByteArray.mk l.toArray).get! k)=l.getD k 0:=by
 show l.toArray[k]! =l.getD k 0;rw[getElem!_def];simp only[List.getElem?_toArray,List.getD_eq_getElem?_getD]
 cases l[k]? <;>rfl
theorem Dz (l:List UInt8):Lib.decodeL l=Lib.decodeN l.length (l.getD 0 0).toNat (l.getD 1 0).toNat (l.getD 2 0).toNat (l.getD 3 0).toNat:=by
 unfold Lib.decodeL;rw[Lib.decode_at];simp only[Nat.sub_zero,Nat.zero_add,Ahb];rfl
theorem Ef (l:List UInt8) (r:Int):Co l 0 r=some r:=by cases l<;>rfl
def Gw (l:List UInt8):Prop:=
 Fg l=if(Lib.decodeL l).1=65533/\(Lib.decodeL l).2=1 then(0,0)else(((Lib.decodeL l).1:Int),((Lib.decodeL l).2:Int))
theorem Lj {a b c d:Int} (h:a=c) (k:b=d):(a,b)=(c,d):=by rw[h,k]
theorem Wa (a:UInt8):Gw [a]:=by
 unfold Gw;rw[Dz];have ha:=a.toNat_lt;simp only[Fq,Bt,List.length_nil,List.length_cons,List.getD_cons_zero,Nat.zero_add];generalize a.toNat=x at ha ⊢;unfold Lib.decodeN;simp only[Nat.lt_irrefl,false_and,and_false,if_false]
 repeat' split
 all_goals first|rfl|(exfalso;omega)|(simp_all;done)|(simp_all;omega)
theorem Wb (a b:UInt8):Gw [a,b]:=by
 unfold Gw;rw[Dz];have ha:=a.toNat_lt;have hb:=b.toNat_lt;simp only[Fq,Bt,List.length_nil,List.length_cons,List.getD_cons_zero,List.getD_cons_succ,Nat.zero_add,Nat.reduceAdd,Nat.reduceLT,if_false,if_true,Nat.reduceSub];rw[show Co [b] 1 ((a.toNat:Int) - 192)=_ from Bo b [] 0 _,Ef];generalize a.toNat=x at ha ⊢;generalize b.toNat=y at hb ⊢;unfold Lib.decodeN C1;simp only[Nat.lt_irrefl,false_and,and_false,if_false]
 repeat' split
 all_goals first|rfl|(exfalso;omega)|(apply Lj<;>omega)|(simp_all;done)|(simp_all;omega)
theorem Wc (a b c:UInt8):Gw [a,b,c]:=by
 unfold Gw;rw[Dz];have ha:=a.toNat_lt;have hb:=b.toNat_lt;have hc:=c.toNat_lt;simp only[Fq,Bt,List.length_nil,List.length_cons,List.getD_cons_zero,List.getD_cons_succ,Nat.zero_add,Nat.reduceAdd,Nat.reduceLT,if_false,if_true,Nat.reduceSub];rw[show Co [b,c] 1 ((a.toNat:Int) - 192)=_ from Bo b [c] 0 _,Ef,
  show Co [b,c] 2 ((a.toNat:Int) - 224)=_ from Bo b [c] 1 _,show Co [c] 1 (64*((a.toNat:Int) - 224)+b.toNat - 128)=_ from Bo c [] 0 _,Ef]
 generalize a.toNat=x at ha ⊢;generalize b.toNat=y at hb ⊢;generalize c.toNat=z at hc ⊢;unfold Lib.decodeN C1;simp only[Nat.lt_irrefl,false_and,and_false,if_false]
 repeat' split
 all_goals first|rfl|(exfalso;omega)|(apply Lj<;>omega)|(simp_all;done)|(simp_all;omega)
theorem Wd (a b c d:UInt8) (r:List UInt8):Gw (a::b::c::d::r):=by
 unfold Gw;rw[Dz];have ha:=a.toNat_lt;have hb:=b.toNat_lt;have hc:=c.toNat_lt;have hd:=d.toNat_lt;rw[Fq];have l2: ¬(b::c::d::r).length+1<2:=by simp
 have l3: ¬(b::c::d::r).length+1<3:=by simp
 have l4: ¬(b::c::d::r).length+1<4:=by simp
 have e2:Bt (b::c::d::r) 2 ((a.toNat:Int) - 192) 128=C1 (if(b.toNat:Int)<128\/192<=(b.toNat:Int)then none else some (64*((a.toNat:Int) - 192)+b.toNat - 128)) 2 128:=by
  unfold Bt;rw[if_neg l2,show(2 - 1:Nat)=0+1 from rfl,Bo,Ef]
 have e3:Bt (b::c::d::r) 3 ((a.toNat:Int) - 224) 2048=C1 (if(b.toNat:Int)<128\/192<=(b.toNat:Int)then none else if(c.toNat:Int)<128\/192<=(c.toNat:Int)then none else some (64*(64*((a.toNat:Int) - 224)+b.toNat - 128)+c.toNat - 128)) 3 2048:=by
  unfold Bt;rw[if_neg l3,show(3 - 1:Nat)=1+1 from rfl,Bo,show(1:Nat)=0+1 from rfl,Bo,Ef]
 have e4:Bt (b::c::d::r) 4 ((a.toNat:Int) - 240) 65536=C1 (if(b.toNat:Int)<128\/192<=(b.toNat:Int)then none else if(c.toNat:Int)<128\/192<=(c.toNat:Int)then none else if(d.toNat:Int)<128\/192<=(d.toNat:Int)then none else some (64*(64*(64*((a.toNat:Int) - 240)+b.toNat - 128)+c.toNat - 128)+d.toNat - 128)) 4 65536:=by
  unfold Bt;rw[if_neg l4,show(4 - 1:Nat)=2+1 from rfl,Bo,show(2:Nat)=1+1 from rfl,Bo,show(1:Nat)=0+1 from rfl,Bo,Ef]
 rw[e2,e3,e4];clear e2 e3 e4 l2 l3 l4;have hl:3<(a::b::c::d::r).length:=by simp
 generalize (a::b::c::d::r).length=n at hl;simp only[List.getD_cons_zero,List.getD_cons_succ];generalize a.toNat=x at ha ⊢;generalize b.toNat=y at hb ⊢;generalize c.toNat=z at hc ⊢;generalize d.toNat=u at hd ⊢;unfold Lib.decodeN;by_cases b1:(y:Int)<128\/192<=(y:Int)
 . simp only[if_pos b1];unfold C1
   repeat' split
   all_goals first|rfl|(exfalso;omega)|(apply Lj<;>omega)|(simp_all;done)|(simp_all;omega)
 simp only[if_neg b1];by_cases b2:(z:Int)<128\/192<=(z:Int)
 . simp only[if_pos b2];unfold C1
   repeat' split
   all_goals first|rfl|(exfalso;omega)|(apply Lj<;>omega)|(simp_all;done)|(simp_all;omega)
 simp only[if_neg b2];by_cases b3:(u:Int)<128\/192<=(u:Int)
 . simp only[if_pos b3];unfold C1
   repeat' split
   all_goals first|rfl|(exfalso;omega)|(apply Lj<;>omega)|(simp_all;done)|(simp_all;omega)
 simp only[if_neg b3];unfold C1
 repeat' split
 all_goals first|rfl|(exfalso;omega)|(apply Lj<;>omega)|(simp_all;done)|(simp_all;omega)
theorem Jq (l:List UInt8) (h:l≠ []):Gw l:=
 match l,h with
 | [a],_=>Wa a
 | [a,b],_=>Wb a b
 | [a,b,c],_=>Wc a b c
 |a::b::c::d::r,_=>Wd a b c d r
end Go.Proofs.YtkmcjfkokoidcaaGreatDoor
namespace Go.Proofs.YtkmcjfkokoidcaaGreatDoor
open Go.RowKit
theorem L4: ∀(n m:Nat) (l:List UInt8),l.length<=n->l.length<=m->Lib.validGoD n l=Lib.validGoD m l
 |0,m,l,hn,hm=>by
  obtain rfl:l= []:=List.eq_nil_of_length_eq_zero (by omega)
  cases m<;>simp[Lib.validGoD]
 |n+1,0,l,hn,hm=>by
  obtain rfl:l= []:=List.eq_nil_of_length_eq_zero (by omega);simp[Lib.validGoD]
 |n+1,m+1,l,hn,hm=>by
  simp only[Lib.validGoD];by_cases h:l= []
  . simp[h]
  . rw[if_neg h,if_neg h]
    split
    . rfl
    . have hw:=Lib.decodeL_width l;have hl:0<l.length:=List.length_pos_iff.2 h;exact L4 n m _ (by rw[List.length_drop];omega) (by rw[List.length_drop];omega)
theorem K3 {l:List UInt8} (h:l≠ []):Lib.validD l=if(Lib.decodeL l).1=65533/\(Lib.decodeL l).2=1 then false else Lib.validD (l.drop (Lib.decodeL l).2):=by
 have hw:=Lib.decodeL_width l;have hl:0<l.length:=List.length_pos_iff.2 h;unfold Lib.validD;obtain⟨n,hn⟩: ∃n,l.length=n+1:=⟨l.length - 1,by omega⟩;rw[hn];simp only[Lib.validGoD];rw[if_neg h]
 split
 . rfl
 . exact L4 _ _ _ (by rw[List.length_drop];omega) (Nat.le_refl _)
theorem Add {l:List UInt8} (h:l≠ []):((Fg l).2=0/\Lib.validD l=false)\/(∃n:Nat,(Fg l).2=(n:Int)/\1<=n/\n<=l.length/\Lib.validD l=Lib.validD (l.drop n)):=by
 have hg:=Jq l h;unfold Gw at hg;rw[K3 h];by_cases hb:(Lib.decodeL l).1=65533/\(Lib.decodeL l).2=1
 . rw[if_pos hb]at hg ⊢;rw[hg];exact .inl ⟨rfl,rfl⟩
 . rw[if_neg hb]at hg ⊢;rw[hg];have hw:=Lib.decodeL_width l;exact .inr ⟨(Lib.decodeL l).2,rfl,hw,Lib.decodeL_le l h,rfl⟩
theorem My (s:ByteArray) (w:World) (hs:s.size<=1000000000):
 Calls Tryz.prog 112 #[.string s] w fun e w'=>e=.returned (.bool (A8 s))/\w=w':=by
 obtain⟨V,hV⟩: ∃V,A8 s=V:=⟨_,rfl⟩;rw[hV];have H0:=qz hV;clear hV;go_enter Tryz.func112,Tryz.ntmps112;go_wp2
 go_loop [3] (fun i=> ∃k:Nat,k<=s.size/\i=.int .i64 k/\Hid (Lib.validD (s.data.toList.drop k)=V)) (fun i=>s.size - (intOf i).toNat)
 case atStart=>exact⟨0,Nat.zero_le _,rfl,H0⟩
 case round=>
  obtain⟨k,hk,rfl,hf⟩:=hrel;clear H0;by_cases hlt:k<s.size
  . have hne:s.data.toList.drop k≠ []:=by
     intro e;have:=congrArg List.length e;rw[List.length_drop,<-Lib.size_eq]at this;simp at this;omega
    have hA:=Qt s k w (by omega) (by omega);rcases Add hne with⟨h0,hv⟩|⟨n,hn,hn1,hn2,hv⟩
    . have hf':=hf.out;rw[hv]at hf';subst hf';rw[h0]at hA;generalize (Fg (s.data.toList.drop k)).1=R at hA;have HA:=qz hA;clear hA h0 hv hne hf;go_wp2_with (go_at_call 182;refine(HA.out).mono ?_;rintro e w' ⟨rfl,rfl⟩);go_ret;exact⟨rfl,rfl⟩
    . have hf':=hf.out;rw[hv,List.drop_drop]at hf';have Hf:=qz hf';rw[hn]at hA;rw[List.length_drop,<-Lib.size_eq]at hn2;generalize (Fg (s.data.toList.drop k)).1=R at hA;have HA:=qz hA;clear hA hn hv hne hf hf';have e0:((n:Int)==0)=false:=by simp;omega
      go_wp2_with (go_at_call 182;refine(HA.out).mono ?_;rintro e w' ⟨rfl,rfl⟩)
      go_round
      case rel=>exact⟨k+n,by omega,by go_num,Hf⟩
      case measure=>simp[intOf];omega
  . obtain rfl:k=s.size:=by omega
    have hf':=hf.out;rw[List.drop_eq_nil_of_le (by rw[<-Lib.size_eq];omega)]at hf';have:V=true:=by rw[<-hf'];rfl
    subst this;clear hf hf';go_wp2;go_ret;exact⟨rfl,rfl⟩
theorem Ku {l:List UInt8} (h:l≠ []) (f p:Nat):
 ((Fg l).2=0/\As (f+1) l p= [])\/(∃n r:Nat,Fg l=((r:Int),(n:Int))/\1<=n/\n<=l.length/\As (f+1) l p=(p,r)::As f (l.drop n) (p+n)):=by
 have hg:=Jq l h;unfold Gw at hg;by_cases hb:(Lib.decodeL l).1=65533/\(Lib.decodeL l).2=1
 . rw[if_pos hb]at hg;rw[hg];refine .inl ⟨rfl, ?_⟩;simp only[As];rw[if_neg h,if_pos hb]
 . rw[if_neg hb]at hg;have hw:=Lib.decodeL_width l;refine .inr ⟨(Lib.decodeL l).2,(Lib.decodeL l).1,hg,hw,Lib.decodeL_le l h, ?_⟩;simp only[As];rw[if_neg h,if_neg hb]
def J6 (v1 v2:Value):Prop:= ∀g,v1.ownBlock=some g->v2.ownBlock≠some g
theorem J6.ne {v1 v2:Value} (h:J6 v1 v2):v1.ownBlock=none\/v1.ownBlock≠v2.ownBlock:=by
 cases e:v1.ownBlock with
 |none=>exact .inl rfl
 |some g=>exact .inr fun e'=>h g e (by rw[<-e'])
theorem J6.symm {v1 v2:Value} (h:J6 v1 v2):J6 v2 v1:=fun g e e'=>h g e' e
theorem J6.step {v1 v1' v2:Value} {w:World} {B n N:Nat} {e:TypeId} {size:Nat} {xs:List Value} (h:J6 v1 v2) (h2:w.ownsRow B e size v2 n xs) (h4:v1'.ownBlock=v1.ownBlock\/v1'.ownBlock=some N) (hN:w.heap.size<=N):J6 v1' v2:=by
 intro g e1 e2;rcases h4 with h4|h4
 . exact h g (by rw[<-h4];exact e1) e2
 . rw[h4]at e1;obtain rfl:=Option.some.inj e1;have:=(h2.lt _ e2).2;omega
theorem Aek:(Tryz.prog.info? 3).map (fun i=>(i.zero,i.size,i.bytes))=some (some (.int .i64 0),1,8):=by kernel_rfl
set_option maxRecDepth 20000 in
theorem T8 (s:ByteArray) (w:World) (hs:s.size<=1000000000):
 Calls Tryz.prog 141 #[.string s] w fun e w'=>(∃v1 v2,e=.returned (.tuple #[v1,v2])/\w'.ownsRow w.heap.size 3 1 v1 (Cf s).length ((Cf s).map fun x=>Value.int .i64 x.2))/\Below w.heap.size w w':=by
 obtain⟨i0,hi,hz0,hz1,hz2⟩:=info_parts Aek;obtain⟨HI,HZ0,HZ1,HZ2⟩:=hid4 hi hz0 hz1 hz2;clear hi hz0 hz1 hz2;have Hown0:Hid (w.ownsRow w.heap.size 3 1 (.slice none 0 0) 0 []):=World.ownsRow_nil _ _ _ _;have Hap0:Hid (J6 (.slice none 0 0) (.slice none 0 0)):=qz (fun g e=>by simp[Value.ownBlock]at e);go_enter Tryz.func141,Tryz.ntmps141;go_wp2;go_loopw [4,5,6] (fun v1 v2 i wr=> ∃(pre:List (Nat×Nat)) (f k:Nat),i=.int .i64 k/\k<=s.size/\s.size - k<=f/\Hid (Cf s=pre++As f (s.data.toList.drop k) k)/\pre.length<=k/\
  Hid (wr.ownsRow w.heap.size 3 1 v1 pre.length (pre.map fun x=>Value.int .i64 x.2))/\Hid (wr.ownsRow w.heap.size 3 1 v2 pre.length (pre.map fun x=>Value.int .i64 x.1))/\Hid (J6 v1 v2)/\Hid (Below w.heap.size w wr)) (fun _ _ i _=>s.size - (intOf i).toNat)
 case atStart=>exact⟨[],s.size,0,rfl,Nat.zero_le _,by omega,rfl,Nat.le_refl _,Hown0,Hown0,Hap0,Below.refl _ _⟩
 case round=>
  obtain⟨pre,f,k,rfl,hk,hf,hr,hpk,ho1,ho2,hap,hbw⟩:=hrel;clear Hown0 Hap0;by_cases hlt:k<s.size
  . have hne:s.data.toList.drop k≠ []:=by
     intro e;have:=congrArg List.length e;rw[List.length_drop,<-Lib.size_eq]at this;simp at this;omega
    obtain⟨f,rfl⟩: ∃f',f=f'+1:=⟨f - 1,by omega⟩;have hA:=Qt s k wr (by omega) (by omega);rcases Ku hne f k with⟨h0,hv⟩|⟨n,r,hn,hn1,hn2,hv⟩
    . have hr':=hr.out;rw[hv,List.append_nil]at hr';rw[h0]at hA;generalize (Fg (s.data.toList.drop k)).1=R at hA;obtain⟨HA,HR⟩:=hid2 hA hr';clear hA h0 hv hne hr hr';go_wp2_with (fail);(with_reducible refine HA.out.mono ?_);rintro e w' ⟨rfl,rfl⟩;clear HA;go_wp2;go_ret2;exact⟨⟨u4,u5,rfl,by rw[HR.out];exact ho1.out⟩,hbw.out⟩
    . have hr':=hr.out;rw[hv,List.drop_drop]at hr';rw[hn]at hA;rw[List.length_drop,<-Lib.size_eq]at hn2;obtain⟨HA,HR⟩:=hid2 hA hr';have hb1:w.heap.size<=wr.heap.size:=hbw.out.size;clear hA hn hv hne hr hr';have e0:((n:Int)==0)=false:=by simp;omega
      go_wp2_with (fail);(with_reducible refine HA.out.mono ?_);rintro e w' ⟨rfl,rfl⟩;clear HA;go_wp2_with (at_builtin;refine wpList_append_own_at _ rfl (.tmp 21) (.tmp 23) 210 rfl w.heap.size 3 i0 (.int .i64 0) 1 8 Tryz.underlying210 HI.out HZ0.out HZ1.out HZ2.out rfl (by decide) u4 pre.length _ rfl (ho1.out.alloc _) ⟨wr.heap.size,0,none⟩ 1 1 [.int .i64 r] rfl rfl ?c1 ?c2 ?c3 ?c4 ?c5 ?_)
      case c1=>
       intro j u hj
       match j,hj with
       |0,hj=>simp at hj;subst hj;simp[Addr.add]
      case c2=>intro u hu;simp at hu;subst hu;rfl
      case c3=>unfold maxLen;omega
      case c4=>omega
      case c5=>simp;omega
      intro v1' w2 hown1 hgrow1 _ hat1;have ho1':=qz hown1;have ho2':=qz ((ho2.out.alloc (.cells #[.int .i64 r] 3)).kept hgrow1 hap.out.symm.ne);have hap':=qz (J6.step hap.out ho2.out hat1 (by omega));have hbw2:=qz ((hbw.out.alloc hb1 (.cells #[.int .i64 r] 3)).grown hgrow1 (by simp;omega) (fun k hk=>(ho1.out.lt k hk).1));have hb2:w.heap.size<=w2.heap.size:=hbw2.out.size;clear hown1 hgrow1 hat1 ho1 ho2 hap hbw hb1;go_wp2_with (at_builtin;refine wpList_append_own_at _ rfl (.tmp 25) (.tmp 27) 210 rfl w.heap.size 3 i0 (.int .i64 0) 1 8 Tryz.underlying210 HI.out HZ0.out HZ1.out HZ2.out rfl (by decide) u5 pre.length _ rfl (ho2'.out.alloc _) ⟨w2.heap.size,0,none⟩ 1 1 [.int .i64 k] rfl rfl ?d1 ?d2 ?d3 ?d4 ?d5 ?_)
      case d1=>
       intro j u hj
       match j,hj with
       |0,hj=>simp at hj;subst hj;simp[Addr.add]
      case d2=>intro u hu;simp at hu;subst hu;rfl
      case d3=>unfold maxLen;omega
      case d4=>omega
      case d5=>simp;omega
      intro v2' w3 hown2 hgrow2 _ hat2;have ho2'':=qz hown2;have ho1'':=qz ((ho1'.out.alloc (.cells #[.int .i64 k] 3)).kept hgrow2 hap'.out.ne);have hap'':=qz (J6.step hap'.out.symm ho1'.out hat2 (by omega)).symm;have hbw3:=qz ((hbw2.out.alloc hb2 (.cells #[.int .i64 k] 3)).grown hgrow2 (by simp;omega) (fun k hk=>(ho2'.out.lt k hk).1));clear hown2 hgrow2 hat2 ho1' ho2' hap' hbw2 hb2;go_wp2;go_roundw
      case rel=>exact⟨pre++ [(k,r)],f,k+n,by go_num,by omega,by omega,qz (by rw[List.append_assoc];exact HR.out),by simp;omega,qz (by rw[List.length_append,List.map_append];exact ho1''.out),qz (by rw[List.length_append,List.map_append];exact ho2''.out),hap'',hbw3⟩
      case measure=>simp only[intOf];omega
  . obtain rfl:k=s.size:=by omega
    have hr':=hr.out;have e:As f (s.data.toList.drop s.size) s.size= []:=by
     rw[List.drop_eq_nil_of_le (by rw[<-Lib.size_eq];omega)]
     cases f<;>simp[As]
    rw[e,List.append_nil]at hr';have HR:=qz hr';clear hr hr' e;go_wp2;go_ret2;exact⟨⟨u4,u5,rfl,by rw[HR.out];exact ho1.out⟩,hbw.out⟩
end Go.Proofs.YtkmcjfkokoidcaaGreatDoor
namespace Go.Proofs.YtkmcjfkokoidcaaGreatDoor
theorem Nf {k a:ByteArray} {x:Val} {r:List Bj} (h:C8 a k=true):Cl k ((a,x)::r)=Cl k r/\Da k ((a,x)::r)=Da k r+1:=by
 have e:Da k ((a,x)::r)=Da k r+1:=by simp only[Da,if_pos h]
 refine⟨?_,e⟩;unfold Cl;rw[e,List.getElem?_cons_succ]
theorem Nq (k:ByteArray) (v:Val): ∀l:List Bj,Cm k v l=if Cl k l=true then l.set (Da k l) (k,v)else l.take (Da k l)++ [(k,v)]++l.drop (Da k l)
 | []=>by simp[Cm,Da,Cl]
 |(a,x)::r=>by
  simp only[Cm];by_cases h:C8 a k=true
  . obtain⟨e1,e2⟩:=Nf (x:=x) (r:=r) h;rw[if_pos h,Nq k v r,e1,e2];by_cases hh:Cl k r=true
    . rw[if_pos hh,if_pos hh,tk6]
    . rw[if_neg hh,if_neg hh];simp
  . have e:Da k ((a,x)::r)=0:=by simp only[Da,if_neg h]
    have eh:Cl k ((a,x)::r)=(a.toList==k.toList):=by unfold Cl;rw[e];rfl
    rw[if_neg h,e,eh];by_cases hk:a=k
    . subst hk;rw[if_pos rfl,if_pos (by simp)];rfl
    . rw[if_neg hk,if_neg fun e=>hk (toList_inj (by simpa using e))];rfl
theorem L7 (k:ByteArray) (v:Val): ∀l:List Bj,Ae (Cm k v l)<=Ae l+Ae [(k,v)]
 | []=>by simp[Cm,Ae]
 |(a,x)::r=>by
  have ih:=L7 k v r;simp only[Cm]
  split
  . simp only[Ae]at ih ⊢;omega
  . split
    . simp only[Ae]at ih ⊢;omega
    . simp only[Ae]at ih ⊢;omega
def Gr (h:Nat) (ks:List Nd) (k:ByteArray) (v:Val):List Nd:=
 ks.take (Ay ks k)++(Cp h (ks.getD (Ay ks k) (.leaf [])) k v).1::((Cp h (ks.getD (Ay ks k) (.leaf [])) k v).2.toList++ks.drop (Ay ks k+1))
theorem Aet {h lo:Nat} {ks:List Nd} (k:ByteArray) (v:Val) (hlo:2<=lo) (hn:Ga lo (h+1) (.inner ks)) (ha:B8 (Cg ks)):
 ∃x,ks[Ay ks k]? =some x/\ks.getD (Ay ks k) (.leaf [])=x/\Ga 4 h x/\B8 (Cw x)/\(Cw x).length<=(Cg ks).length/\Ae (Cw x)<=Ae (Cg ks)/\
  Cg (Gr h ks k v)=Cm k v (Cg ks)/\(∀y ∈ Gr h ks k v,Ga 4 h y)/\2<=(Gr h ks k v).length/\(Gr h ks k v).length<=9:=by
 simp only[Ga]at hn;obtain⟨h2,h8,hk⟩:=hn;have hne:ks≠ []:=by intro e;rw[e]at h2;simp at h2;omega
 obtain⟨A,x,C,e,hA,hlow,hhi⟩:=N4 (k:=k) hne hk ha;have hx:Ga 4 h x:=hk x (by rw[e];simp);have hax:B8 (Cw x):=by
  have ha':B8 (Cg ks):=ha;rw[e,Cn]at ha';have:=(List.pairwise_append.1 ha').2.1;simp only[Cg]at this;exact(List.pairwise_append.1 this).1
 obtain⟨i1,i2,i3⟩:=N5 h (k:=k) (v:=v) (Nat.le_refl 4) (.inl (by omega)) (fun _=>by omega) hx hax;have eg:ks.getD (Ay ks k) (.leaf [])=x:=by rw[<-hA,e];simp
 have eq:ks[Ay ks k]? =some x:=by rw[<-hA,e];simp
 have et:ks.take (Ay ks k)=A:=by rw[<-hA,e];simp
 have ed:ks.drop (Ay ks k+1)=C:=by rw[<-hA,e];simp
 have hlen:ks.length=A.length+1+C.length:=by rw[e];simp;omega
 have hR:(Cp h x k v).2.toList.length<=1:=by cases (Cp h x k v).2<;>simp
 have hfl:Cg ks=Cg A++(Cw x++Cg C):=by rw[e,Cn];simp[Cg]
 have hW:Gr h ks k v=A++(Cp h x k v).1::((Cp h x k v).2.toList++C):=by
  unfold Gr;rw[eg,et,ed]
 refine⟨x,eq,eg,hx,hax,by rw[hfl];simp;omega,by rw[hfl,C5,C5];omega, ?_,fun y hy=> ?_,by rw[hW];simp;omega,by rw[hW];simp;omega⟩
 . rw[hW,Cn];simp only[Cg,Cn];have i1':Cw (Cp h x k v).1++Cg (Cp h x k v).2.toList=Cm k v (Cw x):=i1;rw[<-List.append_assoc (Cw (Cp h x k v).1),i1',hfl,Np hlow,Ow hhi]
 . rw[hW]at hy;rcases List.mem_append.1 hy with hy|hy
   . exact hk y (by rw[e];simp[hy])
   rcases List.mem_cons.1 hy with rfl|hy
   . exact i2
   rcases List.mem_append.1 hy with hy|hy
   . exact(i3 y (by simpa using hy)).2
   . exact hk y (by rw[e];simp[hy])
end Go.Proofs.YtkmcjfkokoidcaaGreatDoor
namespace Go.Proofs.YtkmcjfkokoidcaaGreatDoor
open Go Go.RowKit
theorem Afw {c:UInt8} {d:Nat} (h:Me c=some d) (w:World):Calls Tryz.prog 328 #[.int .u8 c.toNat] w fun e w'=>e=.returned (.tuple #[.int .i32 d,.bool true])/\w=w':=by
 have hcl:=Be c;unfold Me at h
 split at h
 . rename_i hr;obtain⟨h1,h2⟩:=hr;have e:(d:Int)=(c.toNat:Int) - 48:=by have:=Option.some.inj h;omega
   have l1:(48:Int)<=(c.toNat:Int):=by omega
   have l2:(c.toNat:Int)<=57:=by omega
   rw[e];clear h e h1 h2;go_enter Tryz.func328,Tryz.ntmps328;go_wp2;go_ret2;exact⟨rfl,rfl⟩
 split at h
 . rename_i hn hr;obtain⟨h1,h2⟩:=hr;have e:(d:Int)=(c.toNat:Int) - 97+10:=by have:=Option.some.inj h;omega
   have l0: ¬((c.toNat:Int)<=57):=by omega
   have l1:(97:Int)<=(c.toNat:Int):=by omega
   have l2:(c.toNat:Int)<=102:=by omega
   rw[e];clear h e h1 h2 hn;go_enter Tryz.func328,Tryz.ntmps328;go_wp2;go_ret2;exact⟨rfl,rfl⟩
 split at h
 . rename_i hn1 hn hr;obtain⟨h1,h2⟩:=hr;have e:(d:Int)=(c.toNat:Int) - 65+10:=by have:=Option.some.inj h;omega
   have l0: ¬((c.toNat:Int)<=57):=by omega
   have l3: ¬((97:Int)<=(c.toNat:Int)):=by omega
   have l1:(65:Int)<=(c.toNat:Int):=by omega
   have l2:(c.toNat:Int)<=70:=by omega
   rw[e];clear h e h1 h2 hn hn1;go_enter Tryz.func328,Tryz.ntmps328;go_wp2;go_ret2;exact⟨rfl,rfl⟩
 . cases h
theorem Ag9 {c:UInt8} (h:Me c=none) (w:World):Calls Tryz.prog 328 #[.int .u8 c.toNat] w fun e w'=>e=.returned (.tuple #[.int .i32 0,.bool false])/\w=w':=by
 have hcl:=Be c;unfold Me at h
 split at h
 . cases h
 split at h
 . cases h
 split at h
 . cases h
 rename_i h1 h2 h3;by_cases a1:(48:Int)<=(c.toNat:Int)<;>by_cases a2:(c.toNat:Int)<=57<;>by_cases a3:(97:Int)<=(c.toNat:Int)<;>by_cases a4:(c.toNat:Int)<=102<;>by_cases a5:(65:Int)<=(c.toNat:Int)<;>by_cases a6:(c.toNat:Int)<=70
 all_goals first|(exfalso;omega)|(clear h h1 h2 h3;go_enter Tryz.func328,Tryz.ntmps328;go_wp2;go_ret2;exact⟨rfl,rfl⟩)
theorem Sq (c:UInt8) (w:World):Calls Tryz.prog 290 #[.int .u8 c.toNat] w fun e w'=>e=.returned (.int .i64 (if c.toNat<32 then 4 else 3))/\w=w':=by
 have hcl:=Be c;by_cases h:c.toNat<32
 . rw[if_pos h];have h':(c.toNat:Int)<32:=by omega
   clear h;go_enter Tryz.func290,Tryz.ntmps290;go_wp2;go_ret;exact⟨rfl,rfl⟩
 . rw[if_neg h];have h': ¬((c.toNat:Int)<32):=by omega
   clear h;go_enter Tryz.func290,Tryz.ntmps290;go_wp2;go_ret;exact⟨rfl,rfl⟩
theorem To (a:Nat) (ha:a<2147483648):(BitVec.ofInt 32 (a:Int)).toNat=a:=by
 rw[BitVec.ofInt_natCast,BitVec.toNat_ofNat];exact Nat.mod_eq_of_lt (by omega)
theorem Aiz {n d:Nat} (hn:n<4096) (hd:d<16):bits .or .i32 ((n:Int)*16) (d:Int)=((16*n+d:Nat):Int):=by
 have e:(n:Int)*16=((n*16:Nat):Int):=by omega
 have h:n*16 ||| d=n*16+d:=by
  have:=Nat.shiftLeft_add_eq_or_of_lt (i:=4) (b:=d) (by omega) n;rw[Nat.shiftLeft_eq]at this;exact this.symm
 rw[e];show IntKind.i32.wrap ((BitVec.ofInt 32 ((n*16:Nat):Int) ||| BitVec.ofInt 32 (d:Int)).toNat:Int)=_;rw[BitVec.toNat_or,To _ (by omega),To _ (by omega),h,IntKind.wrap_i32];omega
def Yi (u:Option Nat):Value:=match u with
 |some n=> .tuple #[.int .i32 n,.bool true]
 |none=> .tuple #[.int .i32 0,.bool false]
theorem R9 (t:ByteArray) (w:World) (hs:t.size<=1000000000):Calls Tryz.prog 314 #[.string t] w fun e w'=>e=.returned (Yi (C4 t.data.toList))/\w=w':=by
 have hlen:=Ab t;by_cases h6:t.size<6
 . have e:C4 t.data.toList=none:=by unfold C4;rw[if_pos (by omega)]
   rw[e];have l:(t.size:Int)<6:=by omega
   clear e hlen;go_enter Tryz.func314,Tryz.ntmps314;go_wp2;go_ret2;exact⟨rfl,rfl⟩
 have l6: ¬((t.size:Int)<6):=by omega
 have q0:0<t.size:=by omega
 have q1:1<t.size:=by omega
 obtain⟨a,ha⟩: ∃a,t[0]=a:=⟨_,rfl⟩;obtain⟨b,hb⟩: ∃b,t[1]=b:=⟨_,rfl⟩;have ga:t.data.toList[0]? =some a:=by rw[A9 t q0,ha]
 have gb:t.data.toList[1]? =some b:=by rw[A9 t q1,hb]
 have hal:=Be a;have hbl:=Be b;have ne: ∀(c:UInt8) (n:Nat),n<256->c≠UInt8.ofNat n->((c.toNat:Int)==(n:Int))=false:=fun c n hn h=>by rw[Gg hn];simpa using h
 by_cases h92:a=92;rotate_left
 . have e:C4 t.data.toList=none:=by unfold C4;rw[if_pos];right;left;rw[ga];simpa using h92
   have e1:=ne a 92 (by decide) h92;rw[e];clear e hlen ga gb ne h92 h6;go_enter Tryz.func314,Tryz.ntmps314;go_wp2;go_ret2;exact⟨rfl,rfl⟩
 by_cases h117:b=117;rotate_left
 . have e:C4 t.data.toList=none:=by unfold C4;rw[if_pos];right;right;rw[gb];simpa using h117
   have e1:=ne b 117 (by decide) h117;rw[e];subst h92;clear e hlen ga gb ne h117 h6;go_enter Tryz.func314,Tryz.ntmps314;go_wp2;go_ret2;exact⟨rfl,rfl⟩
 subst h92 h117;have e:C4 t.data.toList=Km (t.data.toList.drop 2) 4 0:=by
  unfold C4;rw[if_neg];rw[ga,gb];simp;omega
 rw[e];obtain⟨F,hF⟩: ∃F,Km (t.data.toList.drop 2) 4 0=F:=⟨_,rfl⟩;rw[hF];have H0:=qz hF;clear e hF ga gb ne hlen;go_enter Tryz.func314,Tryz.ntmps314;go_wp2
 go_loop [4,5] (fun x i=> ∃k n:Nat,2<=k/\k<=6/\i=.int .i64 k/\x=.int .i32 n/\n<16 ^ (k - 2)/\Hid (Km (t.data.toList.drop k) (6 - k) n=F)) (fun _ i=>6 - (intOf i).toNat)
 case atStart=>exact⟨2,0,by omega,by omega,rfl,rfl,by decide,H0⟩
 case round=>
  obtain⟨k,n,hk2,hk6,rfl,rfl,hn,hf⟩:=hrel;clear H0;by_cases hlt:k<6
  . have hkt:k<t.size:=by omega
    obtain⟨c,hc⟩: ∃c,t[k]=c:=⟨_,rfl⟩;have hg:t.data.toList[k]? =some c:=by rw[A9 t hkt,hc]
    have hcl:=Be c;have hn':n<4096:=by
     have:16 ^ (k - 2)<=16 ^ 3:=Nat.pow_le_pow_right (by decide) (by omega);omega
    have hf':=hf.out;rw[D0 hg,show 6 - k=(6 - (k+1))+1 from by omega]at hf';simp only[Km]at hf'
    cases hd:Me c with
    |none=>
     rw[hd]at hf';subst hf';have HD:=qz (fun W=>Ag9 hd W);clear hf hd hg;go_wp2_with (fail);(with_reducible refine(HD.out _).mono ?_);rintro e w1 ⟨rfl,rfl⟩;go_wp2;go_ret2;exact⟨rfl,rfl⟩
    |some d=>
     rw[hd]at hf';simp only at hf';have HD:=qz (fun W=>Afw hd W);have hd16:=Uu hd;have HF:=qz hf';have hpow:16*n+d<16 ^ (k+1 - 2):=by
      rw[show k+1 - 2=(k - 2)+1 from by omega,Nat.pow_succ];omega
     have HP:=qz hpow;clear hf hd hg hf' hn hpow;go_wp2_with (fail);(with_reducible refine(HD.out _).mono ?_);rintro e w1 ⟨rfl,rfl⟩;go_wp2
     go_round
     case rel=>exact⟨k+1,16*n+d,by omega,by omega,by go_num,by rw[Aiz (by omega) (by omega)],HP.out,HF⟩
     case measure=>simp[intOf];omega
  . obtain rfl:k=6:=by omega
    have hf':=hf.out;have e:Km (t.data.toList.drop 6) (6 - 6) n=some n:=by cases t.data.toList.drop 6<;>rfl
    rw[e]at hf';subst hf';clear hf e;go_wp2;go_ret2;exact⟨rfl,rfl⟩
end Go.Proofs.YtkmcjfkokoidcaaGreatDoor
