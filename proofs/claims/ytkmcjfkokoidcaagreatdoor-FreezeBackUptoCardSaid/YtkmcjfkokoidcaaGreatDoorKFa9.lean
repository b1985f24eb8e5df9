/- Parts: commonplaceref02.numbers and texts. Condition: texts of at most 10^9 bytes. -/
import Derived.Lib.ValidU
import Derived.Lib.ParseIntBCases
import Derived.Deep.RegionWith
import Derived.Test.YtkmcjfkokoidcaaGreatDoorKFa5
import Derived.Test.YtkmcjfkokoidcaaGreatDoorKFa6
set_option maxHeartbeats 20000000
set_option maxRecDepth 100000
namespace Go.Proofs.YtkmcjfkokoidcaaGreatDoor
open Go Go.RowKit
abbrev Bk:Array Value:= #[.int .i64 0,.bool false,.int .i64 0,.string ⟨#[]⟩,.slice none 0 0,.slice none 0 0]
theorem G8 {B:Nat} {w4:World} {k:Int} {b:Bool} {n:Int} {t:ByteArray} {l:List Val} {o:List (ByteArray×Val)} {cs:List Value} (h:Ch B w4 (dV (.mk k b n t l o)) cs): ∃la lc oa oc,cs= [.int .i64 k,.bool b,.int .i64 n,.string t,.slice la l.length lc,.slice oa o.length oc]:=by
 have h1:=Cg _ _ h.now;simp only[Ac]at h1;obtain⟨la,lc,oa,oc,e,_,_⟩:=h1;exact⟨la,lc,oa,oc,e⟩
theorem Bp {w:World} {g:Nat} {t:TypeId} {a0 a1 a2 a3 a4 a5:Value} (h:Aj w g t #[a0,a1,a2,a3,a4,a5]):
 w.cell? ⟨g,0,none⟩=some a0/\w.cell? ⟨g,1,none⟩=some a1/\w.cell? ⟨g,2,none⟩=some a2/\w.cell? ⟨g,3,none⟩=some a3/\w.cell? ⟨g,4,none⟩=some a4/\w.cell? ⟨g,5,none⟩=some a5:=
 ⟨h.cell 0,h.cell 1,h.cell 2,h.cell 3,h.cell 4,h.cell 5⟩
theorem Mz {B:Nat} {w:World} {key:ByteArray} {v:Val} {cs:List Value} (h:Ch B w (dV v) cs):Ch B w (dP (key,v)) (.string key::cs):=fun w'' h1 h2=>⟨[.string key],cs,rfl,⟨rfl,rfl⟩,cs, [],by simp,h w'' h1 h2,rfl⟩
theorem Uh:(Tryz.prog.info? 94).map (fun i=>(i.zero,i.size,i.bytes))=some (some (.agg #[.string ⟨#[]⟩,.int .i64 0,.bool false,.int .i64 0,.string ⟨#[]⟩,.slice none 0 0,.slice none 0 0]),7,104):=by kernel_rfl
theorem Cy {fn:Func} {t:Tmp} {tmps:Array Value} {W:World} {R:Nat} {a0 a1 a2 a3 a4 a5:Value} (h:fn.results= #[.cell t 37]) (hp:tmps.getD t undef=.pointer (some ⟨R,0,none⟩)) (hx:Aj W R 37 #[a0,a1,a2,a3,a4,a5]):
 (results fn tmps).run Tryz.prog W=.ok (.agg #[a0,a1,a2,a3,a4,a5]) W:=by
 obtain⟨c0,c1,c2,c3,c4,c5⟩:=Bp hx;clear hx;have hp':tmps[t]?.getD undef=.pointer (some ⟨R,0,none⟩):=by simpa using hp
 simp[results,h,hp',go_sem,c0,c1,c2,c3,c4,c5]
theorem E5.slice_n {b:Nat} {t:TypeId} {s n:Nat} {wr:World} {l:List D} {V:Value} (h:E5 b t s wr l V) (hn:l.length=n): ∃a c,V=.slice a n c:=by
 subst hn;exact h.slice
theorem Ff {w w6:World} {R b:Nat} {t e:TypeId} {sz:Nat} {l:List D} {V:Value} {cs:Array Value} {wr:World} (h:Aj w R t cs) (hg:w.grownBy w6 V.ownBlock) (hr:E5 b e sz wr l V) (hR:R<b):Aj w6 R t cs:=
 h.grown hg fun e=>by have:=(hr.base R e.symm).1;omega
theorem Nh (w:World) (a0 a1 a2 a3 a4 a5 a6:Value):Bu (w.alloc (.cells #[a0,a1,a2,a3,a4,a5,a6] 94)) (w.heap.size+1) 7 (some ⟨w.heap.size,0,none⟩) 1 [a0,a1,a2,a3,a4,a5,a6]:=F2 (Aj.new w 94 #[a0,a1,a2,a3,a4,a5,a6])
theorem Alz:(Tryz.prog.info? 37).map (fun i=>(i.zero,i.size,i.bytes))=some (some (.agg #[.int .i64 0,.bool false,.int .i64 0,.string ⟨#[]⟩,.slice none 0 0,.slice none 0 0]),6,88):=by kernel_rfl
theorem Ri (w:World) (a0 a1 a2 a3 a4 a5:Value):Bu (w.alloc (.cells #[a0,a1,a2,a3,a4,a5] 37)) (w.heap.size+1) 6 (some ⟨w.heap.size,0,none⟩) 1 [a0,a1,a2,a3,a4,a5]:=F2 (Aj.new w 37 #[a0,a1,a2,a3,a4,a5])
theorem C3 {fn:Func} {t u:Tmp} {tmps:Array Value} {W:World} {R:Nat} {a0 a1 a2 a3 a4 a5:Value} (h:fn.results= #[.cell t 37,.tmp u]) (hp:tmps.getD t undef=.pointer (some ⟨R,0,none⟩)) (hx:Aj W R 37 #[a0,a1,a2,a3,a4,a5]):
 (results fn tmps).run Tryz.prog W=.ok (.tuple #[.agg #[a0,a1,a2,a3,a4,a5],tmps.getD u undef]) W:=by
 obtain⟨c0,c1,c2,c3,c4,c5⟩:=Bp hx;clear hx;have hp':tmps[t]?.getD undef=.pointer (some ⟨R,0,none⟩):=by simpa using hp
 simp[results,h,hp',go_sem,c0,c1,c2,c3,c4,c5]
end Go.Proofs.YtkmcjfkokoidcaaGreatDoor
namespace Go.Proofs.YtkmcjfkokoidcaaGreatDoor
theorem An4 (l:List UInt8) (k:Nat):((ByteArray.mk l.toArray).get! k)=l.getD k 0:=by
 show l.toArray[k]! =l.getD k 0;rw[getElem!_def];simp only[List.getElem?_toArray,List.getD_eq_getElem?_getD]
 cases l[k]? <;>rfl
theorem Db (l:List UInt8):Lib.decodeL l=Lib.decodeN l.length (l.getD 0 0).toNat (l.getD 1 0).toNat (l.getD 2 0).toNat (l.getD 3 0).toNat:=by
 unfold Lib.decodeL;rw[Lib.decode_at];simp only[Nat.sub_zero,Nat.zero_add,An4];rfl
theorem E9 (l:List UInt8) (r:Int):C6 l 0 r=some r:=by cases l<;>rfl
def J8 (l:List UInt8):Prop:=
 Gl l=if(Lib.decodeL l).1=65533/\(Lib.decodeL l).2=1 then(0,0)else(((Lib.decodeL l).1:Int),((Lib.decodeL l).2:Int))
theorem N9 {a b c d:Int} (h:a=c) (k:b=d):(a,b)=(c,d):=by rw[h,k]
theorem Aat (a:UInt8):J8 [a]:=by
 unfold J8;rw[Db];have ha:=a.toNat_lt;simp only[Gt,Ci,List.length_nil,List.length_cons,List.getD_cons_zero,Nat.zero_add];generalize a.toNat=x at ha ⊢;unfold Lib.decodeN;simp only[Nat.lt_irrefl,false_and,and_false,if_false]
 repeat' split
 all_goals first|rfl|(exfalso;omega)|(simp_all;done)|(simp_all;omega)
theorem Aau (a b:UInt8):J8 [a,b]:=by
 unfold J8;rw[Db];have ha:=a.toNat_lt;have hb:=b.toNat_lt;simp only[Gt,Ci,List.length_nil,List.length_cons,List.getD_cons_zero,List.getD_cons_succ,Nat.zero_add,Nat.reduceAdd,Nat.reduceLT,if_false,if_true,Nat.reduceSub];rw[show C6 [b] 1 ((a.toNat:Int) - 192)=_ from Ce b [] 0 _,E9];generalize a.toNat=x at ha ⊢;generalize b.toNat=y at hb ⊢;unfold Lib.decodeN Dq;simp only[Nat.lt_irrefl,false_and,and_false,if_false]
 repeat' split
 all_goals first|rfl|(exfalso;omega)|(apply N9<;>omega)|(simp_all;done)|(simp_all;omega)
theorem Aav (a b c:UInt8):J8 [a,b,c]:=by
 unfold J8;rw[Db];have ha:=a.toNat_lt;have hb:=b.toNat_lt;have hc:=c.toNat_lt;simp only[Gt,Ci,List.length_nil,List.length_cons,List.getD_cons_zero,List.getD_cons_succ,Nat.zero_add,Nat.reduceAdd,Nat.reduceLT,if_false,if_true,Nat.reduceSub];rw[show C6 [b,c] 1 ((a.toNat:Int) - 192)=_ from Ce b [c] 0 _,E9,
  show C6 [b,c] 2 ((a.toNat:Int) - 224)=_ from Ce b [c] 1 _,show C6 [c] 1 (64*((a.toNat:Int) - 224)+b.toNat - 128)=_ from Ce c [] 0 _,E9]
 generalize a.toNat=x at ha ⊢;generalize b.toNat=y at hb ⊢;generalize c.toNat=z at hc ⊢;unfold Lib.decodeN Dq;simp only[Nat.lt_irrefl,false_and,and_false,if_false]
 repeat' split
 all_goals first|rfl|(exfalso;omega)|(apply N9<;>omega)|(simp_all;done)|(simp_all;omega)
theorem Aaw (a b c d:UInt8) (r:List UInt8):J8 (a::b::c::d::r):=by
 unfold J8;rw[Db];have ha:=a.toNat_lt;have hb:=b.toNat_lt;have hc:=c.toNat_lt;have hd:=d.toNat_lt;rw[Gt];have l2: ¬(b::c::d::r).length+1<2:=by simp
 have l3: ¬(b::c::d::r).length+1<3:=by simp
 have l4: ¬(b::c::d::r).length+1<4:=by simp
 have e2:Ci (b::c::d::r) 2 ((a.toNat:Int) - 192) 128=Dq (if(b.toNat:Int)<128\/192<=(b.toNat:Int)then none else some (64*((a.toNat:Int) - 192)+b.toNat - 128)) 2 128:=by
  unfold Ci;rw[if_neg l2,show(2 - 1:Nat)=0+1 from rfl,Ce,E9]
 have e3:Ci (b::c::d::r) 3 ((a.toNat:Int) - 224) 2048=Dq (if(b.toNat:Int)<128\/192<=(b.toNat:Int)then none else if(c.toNat:Int)<128\/192<=(c.toNat:Int)then none else some (64*(64*((a.toNat:Int) - 224)+b.toNat - 128)+c.toNat - 128)) 3 2048:=by
  unfold Ci;rw[if_neg l3,show(3 - 1:Nat)=1+1 from rfl,Ce,show(1:Nat)=0+1 from rfl,Ce,E9]
 have e4:Ci (b::c::d::r) 4 ((a.toNat:Int) - 240) 65536=Dq (if(b.toNat:Int)<128\/192<=(b.toNat:Int)then none else if(c.toNat:Int)<128\/192<=(c.toNat:Int)then none else if(d.toNat:Int)<128\/192<=(d.toNat:Int)then none else some (64*(64*(64*((a.toNat:Int) - 240)+b.toNat - 128)+c.toNat - 128)+d.toNat - 128)) 4 65536:=by
  unfold Ci;rw[if_neg l4,show(4 - 1:Nat)=2+1 from rfl,Ce,show(2:Nat)=1+1 from rfl,Ce,show(1:Nat)=0+1 from rfl,Ce,E9]
 rw[e2,e3,e4];clear e2 e3 e4 l2 l3 l4;have hl:3<(a::b::c::d::r).length:=by simp
 generalize (a::b::c::d::r).length=n at hl;simp only[List.getD_cons_zero,List.getD_cons_succ];generalize a.toNat=x at ha ⊢;generalize b.toNat=y at hb ⊢;generalize c.toNat=z at hc ⊢;generalize d.toNat=u at hd ⊢;unfold Lib.decodeN;by_cases b1:(y:Int)<128\/192<=(y:Int)
 . simp only[if_pos b1];unfold Dq
   repeat' split
   all_goals first|rfl|(exfalso;omega)|(apply N9<;>omega)|(simp_all;done)|(simp_all;omega)
 simp only[if_neg b1];by_cases b2:(z:Int)<128\/192<=(z:Int)
 . simp only[if_pos b2];unfold Dq
   repeat' split
   all_goals first|rfl|(exfalso;omega)|(apply N9<;>omega)|(simp_all;done)|(simp_all;omega)
 simp only[if_neg b2];by_cases b3:(u:Int)<128\/192<=(u:Int)
 . simp only[if_pos b3];unfold Dq
   repeat' split
   all_goals first|rfl|(exfalso;omega)|(apply N9<;>omega)|(simp_all;done)|(simp_all;omega)
 simp only[if_neg b3];unfold Dq
 repeat' split
 all_goals first|rfl|(exfalso;omega)|(apply N9<;>omega)|(simp_all;done)|(simp_all;omega)
theorem Oy (l:List UInt8) (h:l≠ []):J8 l:=
 match l,h with
 | [a],_=>Aat a
 | [a,b],_=>Aau a b
 | [a,b,c],_=>Aav a b c
 |a::b::c::d::r,_=>Aaw a b c d r
end Go.Proofs.YtkmcjfkokoidcaaGreatDoor
namespace Go.Proofs.YtkmcjfkokoidcaaGreatDoor
open Go.RowKit
theorem Ov: ∀(n m:Nat) (l:List UInt8),l.length<=n->l.length<=m->Lib.validGoD n l=Lib.validGoD m l
 |0,m,l,hn,hm=>by
  obtain rfl:l= []:=List.eq_nil_of_length_eq_zero (by omega)
  cases m<;>simp[Lib.validGoD]
 |n+1,0,l,hn,hm=>by
  obtain rfl:l= []:=List.eq_nil_of_length_eq_zero (by omega);simp[Lib.validGoD]
 |n+1,m+1,l,hn,hm=>by
  simp only[Lib.validGoD];by_cases h:l= []
  . simp[h]
  . rw[if_neg h,if_neg h]
    split
    . rfl
    . have hw:=Lib.decodeL_width l;have hl:0<l.length:=List.length_pos_iff.2 h;exact Ov n m _ (by rw[List.length_drop];omega) (by rw[List.length_drop];omega)
theorem Ky {l:List UInt8} (h:l≠ []):Lib.validD l=if(Lib.decodeL l).1=65533/\(Lib.decodeL l).2=1 then false else Lib.validD (l.drop (Lib.decodeL l).2):=by
 have hw:=Lib.decodeL_width l;have hl:0<l.length:=List.length_pos_iff.2 h;unfold Lib.validD;obtain⟨n,hn⟩: ∃n,l.length=n+1:=⟨l.length - 1,by omega⟩;rw[hn];simp only[Lib.validGoD];rw[if_neg h]
 split
 . rfl
 . exact Ov _ _ _ (by rw[List.length_drop];omega) (Nat.le_refl _)
theorem Ai4 {l:List UInt8} (h:l≠ []):((Gl l).2=0/\Lib.validD l=false)\/(∃n:Nat,(Gl l).2=(n:Int)/\1<=n/\n<=l.length/\Lib.validD l=Lib.validD (l.drop n)):=by
 have hg:=Oy l h;unfold J8 at hg;rw[Ky h];by_cases hb:(Lib.decodeL l).1=65533/\(Lib.decodeL l).2=1
 . rw[if_pos hb]at hg ⊢;rw[hg];exact .inl ⟨rfl,rfl⟩
 . rw[if_neg hb]at hg ⊢;rw[hg];have hw:=Lib.decodeL_width l;exact .inr ⟨(Lib.decodeL l).2,rfl,hw,Lib.decodeL_le l h,rfl⟩
theorem Pr (s:ByteArray) (w:World) (hs:s.size<=1000000000):
 Calls Tryz.prog 112 #[.string s] w fun e w'=>e=.returned (.bool (A9 s))/\w=w':=by
 obtain⟨V,hV⟩: ∃V,A9 s=V:=⟨_,rfl⟩;rw[hV];have H0:=qz hV;clear hV;go_enter Tryz.func112,Tryz.ntmps112;go_wp2
 go_loop [3] (fun i=> ∃k:Nat,k<=s.size/\i=.int .i64 k/\Hid (Lib.validD (s.data.toList.drop k)=V)) (fun i=>s.size - (intOf i).toNat)
 case atStart=>exact⟨0,Nat.zero_le _,rfl,H0⟩
 case round=>
  obtain⟨k,hk,rfl,hf⟩:=hrel;clear H0;by_cases hlt:k<s.size
  . have hne:s.data.toList.drop k≠ []:=by
     intro e;have:=congrArg List.length e;rw[List.length_drop,<-Lib.size_eq]at this;simp at this;omega
    have hA:=Aaj s k w (by omega) (by omega);rcases Ai4 hne with⟨h0,hv⟩|⟨n,hn,hn1,hn2,hv⟩
    . have hf':=hf.out;rw[hv]at hf';subst hf';rw[h0]at hA;generalize (Gl (s.data.toList.drop k)).1=R at hA;have HA:=qz hA;clear hA h0 hv hne hf;go_wp2_with (go_at_call 182;refine(HA.out).mono ?_;rintro e w' ⟨rfl,rfl⟩);go_ret;exact⟨rfl,rfl⟩
    . have hf':=hf.out;rw[hv,List.drop_drop]at hf';have Hf:=qz hf';rw[hn]at hA;rw[List.length_drop,<-Lib.size_eq]at hn2;generalize (Gl (s.data.toList.drop k)).1=R at hA;have HA:=qz hA;clear hA hn hv hne hf hf';have e0:((n:Int)==0)=false:=by simp;omega
      go_wp2_with (go_at_call 182;refine(HA.out).mono ?_;rintro e w' ⟨rfl,rfl⟩)
      go_round
      case rel=>exact⟨k+n,by omega,by go_num,Hf⟩
      case measure=>simp[intOf];omega
  . obtain rfl:k=s.size:=by omega
    have hf':=hf.out;rw[List.drop_eq_nil_of_le (by rw[<-Lib.size_eq];omega)]at hf';have:V=true:=by rw[<-hf'];rfl
    subst this;clear hf hf';go_wp2;go_ret;exact⟨rfl,rfl⟩
def L6:List Int:= [34,92,47,8,12,10,13,9]
theorem Aan (k:Nat) (c:Int) (h:L6[k]? =some c) (w:World):
 Calls Tryz.prog 142 #[.int .i64 k] w fun e w'=>e=.returned (.int .i64 c)/\Below w.heap.size w w':=by
 have hk:k<8:=(List.getElem?_eq_some_iff.1 h).1;rcases(by omega:k=0\/k=1\/k=2\/k=3\/k=4\/k=5\/k=6\/k=7)with rfl|rfl|rfl|rfl|rfl|rfl|rfl|rfl
 all_goals
  (obtain rfl:=Option.some.inj h
   clear h hk;go_enter Tryz.func142,Tryz.ntmps142;go_wp2;go_ret;exact⟨rfl,(Below.refl _ _).alloc (Nat.le_refl _) _⟩)
theorem Xo {w:World} {B m:Nat} {v:Value} {ns:List Value} (h:w.ownsRow B 37 6 v m ns):
 ∃la lc,v=.slice la m lc/\(m=0\/ ∃g,la=some ⟨g,0,none⟩/\B<=g/\g<w.heap.size/\ ∀j u,ns[j]? =some u->w.cell? ⟨g,0+j,none⟩=some u):=by
 rcases h.2 with⟨rfl,hz⟩|⟨g,cap,cur,rfl,hbg,hg,_,_,_,_⟩
 . subst hz;exact⟨none,0,rfl,.inl rfl⟩
 . refine⟨_,cap,rfl,.inr ⟨g,rfl,hbg,(Array.getElem?_eq_some_iff.1 hg).1,fun j u hu=> ?_⟩⟩;have:=h.cells (g:=g) rfl j u hu;rw[Go.WideShapes.add_plain]at this;exact this
def Ly (w:World) (v:Val) (e:Ending) (w':World):Prop:=
 (∃la lc,e=.returned (.slice la (within v).length lc)/\(within v= []\/ ∃g off,la=some ⟨g,off,none⟩/\g<w'.heap.size/\Ao w' w'.heap.size (within v) g off))/\Below w.heap.size w w'
theorem Adj (b:Bool) (n:Int) (t:ByteArray) (l:List Val) (o:List (ByteArray×Val)) (la oa:Option Addr) (oc lc:Nat) (w:World) (hl:l= []\/ ∃g off,la=some ⟨g,off,none⟩/\g<w.heap.size/\Ao w w.heap.size l g off)
 (hb:Bf l<=100000000):
 Calls Tryz.prog 183 #[.agg #[.int .i64 5,.bool b,.int .i64 n,.string t,.slice la l.length lc,.slice oa o.length oc]] w (Ly w (.mk 5 b n t l o)):=by
 have hln:=Dt l;have hw:within (.mk 5 b n t l o)=l:=by simp[within]
 by_cases h0:l= []
 . subst h0;clear hl;go_enter Tryz.func183,Tryz.ntmps183;have Hw:=qz hw;clear hw
   cases la
   . go_wp2;go_ret;exact⟨⟨none,0,by rw[Hw.out];rfl,.inl Hw.out⟩,(Below.refl _ _).alloc (Nat.le_refl _) _⟩
   . go_wp2;go_ret;exact⟨⟨none,0,by rw[Hw.out];rfl,.inl Hw.out⟩,(Below.refl _ _).alloc (Nat.le_refl _) _⟩
 . obtain⟨g,off,rfl,hg,hL⟩:=hl.resolve_left h0;obtain⟨i0,hi,hz0,hz1,hz2⟩:=info_parts T8;obtain⟨ns,hrow,hcells⟩:=Ao.row hL;obtain⟨hnl,hno⟩:=hrow.len;obtain⟨HI,HZ0,HZ1,HZ2,Hrow,Hcells,Hw,HN,HO⟩:=hid9 hi hz0 hz1 hz2 hrow hcells hw hnl hno;clear hi hz0 hz1 hz2 hrow hcells hw hnl hno hl hL;obtain⟨w1,hw1⟩: ∃w1,w.alloc (.cells #[.int .i64 5,.bool b,.int .i64 n,.string t,.slice (some ⟨g,off,none⟩) l.length lc,.slice oa o.length oc] 37)=w1:=⟨_,rfl⟩;have HB1:Hid (Below w.heap.size w w1):=hw1▸(Below.refl _ _).alloc (Nat.le_refl _) _;have HX1:=qz (show w1.heap[w.heap.size]? =some (.cells #[.int .i64 5,.bool b,.int .i64 n,.string t,.slice (some ⟨g,off,none⟩) l.length lc,.slice oa o.length oc] 37 (0,0))from by rw[<-hw1];exact heap_alloc_new _ _);have HS1:=qz (show w1.heap.size=w.heap.size+1 from by rw[<-hw1];simp);have Hown:Hid (w1.ownsRow (w.heap.size+1) 37 6 (.slice none 0 0) 0 []):=World.ownsRow_nil _ _ _ _;subst hw1;go_enter Tryz.func183,Tryz.ntmps183;go_wp2_with (at_builtin;refine wpList_append_own _ rfl (.tmp 8) (.tmp 10) 34 rfl (w.heap.size+1) 37 i0 (.agg #[.int .i64 0,.bool false,.int .i64 0,.string ⟨#[]⟩,.slice none 0 0,.slice none 0 0]) 6 88 Tryz.underlying34 HI.out HZ0.out HZ1.out HZ2.out rfl (by decide) (.slice none 0 0) 0 [] rfl Hown.out ⟨g,off,none⟩ l.length lc ns rfl HN.out ?c1 ?c2 ?c3 ?c4 ?c5 ?_)
   case c1=>
    intro j u hj;rw[Go.WideShapes.add_plain];exact(HB1.out.cell (p:=⟨g,off+j,none⟩) hg).trans (Hcells.out j u hj)
   case c2=>exact HO.out
   case c3=>unfold maxLen;omega
   case c4=>omega
   case c5=>simp
   intro v' w2 hown' hgrow _;obtain⟨la',lc',rfl,hsl⟩:=Xo hown';have HbA:=qz ((HB1.out).grown hgrow (by rw[HS1.out];omega) (fun k hk=>by simp[Value.ownBlock]at hk));have hbox2:w2.heap[w.heap.size]? =some (.cells #[.int .i64 5,.bool b,.int .i64 n,.string t,.slice (some ⟨g,off,none⟩) l.length lc,.slice oa o.length oc] 37 (0,0)):=(hgrow.block _ (by rw[HS1.out];omega) (by simp[Value.ownBlock])).trans HX1.out;have d0:w2.cell? ⟨w.heap.size,0,none⟩=some (.int .i64 5):=by rw[Lib.cell_of_heap hbox2];rfl
   have Hsl:=qz hsl;clear hown' hgrow hsl hbox2;go_wp2;go_ret;refine⟨⟨la',lc',by rw[Hw.out];rfl, ?_⟩,HbA.out⟩;rw[Hw.out];refine .inr ?_;rcases Hsl.out with h|⟨g',rfl,_,hg',hc'⟩
   . exact absurd (List.length_eq_zero_iff.1 h) h0
   . exact⟨g',0,rfl,hg',Hrow.out.holds (fun v cs h=>Ac.more HbA.out.size _ _ (h.below HbA.out)) hc'⟩
theorem Afx (b:Bool) (n:Int) (t:ByteArray) (l:List Val) (o:List (ByteArray×Val)) (la oa:Option Addr) (oc lc:Nat) (w:World) (hl:o= []\/ ∃g off,oa=some ⟨g,off,none⟩/\g<w.heap.size/\Ap w w.heap.size o g off)
 (hb:Ab o<=100000000):
 Calls Tryz.prog 183 #[.agg #[.int .i64 6,.bool b,.int .i64 n,.string t,.slice la l.length lc,.slice oa o.length oc]] w (Ly w (.mk 6 b n t l o)):=by
 have hln:=Bc o;have Hw:=qz (show within (.mk 6 b n t l o)=o.map (·.2)from by simp[within]);obtain⟨i0,hi,hz0,hz1,hz2⟩:=info_parts T8;obtain⟨HI,HZ0,HZ1,HZ2⟩:=hid4 hi hz0 hz1 hz2;clear hi hz0 hz1 hz2;obtain⟨w1,hw1⟩: ∃w1,w.alloc (.cells #[.int .i64 6,.bool b,.int .i64 n,.string t,.slice la l.length lc,.slice oa o.length oc] 37)=w1:=⟨_,rfl⟩;have HB1:Hid (Below w.heap.size w w1):=hw1▸(Below.refl _ _).alloc (Nat.le_refl _) _;have HX1:=qz (show w1.heap[w.heap.size]? =some (.cells #[.int .i64 6,.bool b,.int .i64 n,.string t,.slice la l.length lc,.slice oa o.length oc] 37 (0,0))from by rw[<-hw1];exact heap_alloc_new _ _);have Hown:Hid (w1.ownsRow (w.heap.size+1) 37 6 (.slice none 0 0) 0 []):=World.ownsRow_nil _ _ _ _;have HR0:Hid (Mq w w.heap.size ((o.take 0).map (·.2)) []):=rfl;subst hw1;go_enter Tryz.func183,Tryz.ntmps183;go_wp2_with (fail);go_loopw [3,4] (fun v1 i wr=> ∃(k:Nat) (ns:List Value),i=.int .i64 k/\k<=o.length/\Hid (wr.ownsRow (w.heap.size+1) 37 6 v1 k ns)/\Hid (Mq w w.heap.size ((o.take k).map (·.2)) ns)/\Hid (Below w.heap.size w wr)/\
  Hid (wr.heap[w.heap.size]? =some (.cells #[.int .i64 6,.bool b,.int .i64 n,.string t,.slice la l.length lc,.slice oa o.length oc] 37 (0,0)))) (fun _ i _=>o.length - (intOf i).toNat)
 case atStart=>exact⟨0, [],rfl,Nat.zero_le _,Hown,HR0,HB1,HX1⟩
 case round=>
  obtain⟨k,ns,rfl,hk,hown,hrow,hbw,hbx⟩:=hrel;clear Hown HR0 HB1 HX1;have b5:wr.cell? ⟨w.heap.size,5,none⟩=some (.slice oa o.length oc):=by rw[Lib.cell_of_heap hbx.out];rfl
  have hz:w.heap.size<wr.heap.size:=(Array.getElem?_eq_some_iff.1 hbx.out).1;by_cases hlt:k<o.length
  . obtain⟨g,off,rfl,hg,hL⟩: ∃g off,oa=some ⟨g,off,none⟩/\g<w.heap.size/\Ap w w.heap.size o g off:=by
     rcases hl with rfl|h
     . simp at hlt
     . exact h
    obtain⟨⟨key,x⟩,hx⟩: ∃v,o[k]? =some v:=⟨_,List.getElem?_eq_getElem hlt⟩;have htk:(o.take (k+1)).map (·.2)=(o.take k).map (·.2)++ [x]:=by rw[List.take_add_one,hx];simp
    obtain⟨k',b',n',t',l',o'⟩:=x;obtain⟨la',lc',oa',oc',hvs,_,e1,e2,e3,e4,e5,e6⟩:=hL.seven hx;have cc:=fun j (u:Value) (h:w.cell? ⟨g,j,none⟩=some u)=>(hbw.out.cell (p:=⟨g,j,none⟩) hg).trans h;have c1:=cc _ _ e1;have c2:=cc _ _ e2;have c3:=cc _ _ e3;have c4:=cc _ _ e4;have c5:=cc _ _ e5;have c6:=cc _ _ e6;have hrow':=hrow.out.snoc hvs;rw[<-htk]at hrow';have Hrow:=qz hrow';have hno:=qz hvs.len.2;clear hrow' hrow htk hx hL hg e1 e2 e3 e4 e5 e6 cc hvs;go_wp2_with (at_builtin;refine wpList_append_own _ rfl (.tmp 22) (.tmp 29) 34 rfl (w.heap.size+1) 37 i0 (.agg #[.int .i64 0,.bool false,.int .i64 0,.string ⟨#[]⟩,.slice none 0 0,.slice none 0 0]) 6 88 Tryz.underlying34 HI.out HZ0.out HZ1.out HZ2.out rfl (by decide) u3 k ns rfl (hown.out.alloc _) ⟨wr.heap.size,0,none⟩ 1 1 (Ei k' b' n' t' la' l'.length lc' oa' o'.length oc') rfl rfl ?c1 ?c2 ?c3 ?c4 ?c5 ?_)
    case c1=>
     intro j u hj;rw[Go.WideShapes.add_plain];rw[Lib.cell_of_heap (heap_alloc_new wr (.cells #[.int .i64 k',.bool b',.int .i64 n',.string t',.slice la' l'.length lc',.slice oa' o'.length oc'] 37)),Nat.zero_add];simpa using hj
    case c2=>exact hno.out
    case c3=>unfold maxLen;omega
    case c4=>omega
    case c5=>simp;omega
    intro v' w2 hown' hgrow _;have ho':=qz hown';have hbA:=qz ((hbw.out.alloc (by omega) (.cells #[.int .i64 k',.bool b',.int .i64 n',.string t',.slice la' l'.length lc',.slice oa' o'.length oc'] 37)).grown hgrow (by simp;omega) (fun q hq=>by have:=(hown.out.lt q hq).1;omega));have hbx2:Hid (w2.heap[w.heap.size]? =some (.cells #[.int .i64 6,.bool b,.int .i64 n,.string t,.slice la l.length lc,.slice (some ⟨g,off,none⟩) o.length oc] 37 (0,0))):=by
     show _=_;rw[hgrow.block _ (by simp;omega) (fun e=>by have:=(hown.out.lt _ e.symm).1;omega),Lib.alloc_old wr _ _ hz];exact hbx.out
    clear hown' hgrow hown hbw hbx b5 c1 c2 c3 c4 c5 c6 hno;go_wp2;go_roundw
    case rel=>exact⟨k+1,_,by go_num,by omega,ho',Hrow,hbA,hbx2⟩
    case measure=>simp only[intOf];omega
  . obtain rfl:k=o.length:=by omega
    have hr':=hrow.out;rw[List.take_length]at hr';obtain⟨la',lc',rfl,hsl⟩:=Xo hown.out;obtain⟨Hsl,HR⟩:=hid2 hsl hr';have Hlm:Hid (o.length=(o.map (·.2)).length):=by show _=_;simp
    clear hr' hrow hsl hown hl;go_wp2;go_ret;refine⟨⟨la',lc',by rw[Hw.out,<-Hlm.out];rfl, ?_⟩,hbw.out⟩;rw[Hw.out];rcases Hsl.out with h|⟨g',rfl,_,hg',hc'⟩
    . exact .inl (by rw[List.length_eq_zero_iff.1 h];rfl)
    . exact .inr ⟨g',0,rfl,hg',HR.out.holds (fun v cs h=>Ac.more hbw.out.size _ _ (h.below hbw.out)) hc'⟩
def Aod (k:Int) (b:Bool) (n:Int) (t:ByteArray) (ln on:Nat):Bool:=decide (k=0)&& !b&&decide (n=0)&&t.toList.isEmpty&&decide (ln=0)&&decide (on=0)
structure KB (S:Nat->Prop) (w w':World):Prop where
 os:w'.os=w.os
 tape:w'.tape=w.tape
 output:w'.output=w.output
 size:w.heap.size<=w'.heap.size
 block: ∀k,k<w.heap.size-> ¬S k->w'.heap[k]? =w.heap[k]?
theorem KB.trans {S T:Nat->Prop} {w w1 w2:World} (h:KB S w w1) (h':KB T w1 w2) (hT: ∀k,k<w.heap.size->T k->S k):KB S w w2:=
 ⟨h'.os.trans h.os,h'.tape.trans h.tape,h'.output.trans h.output,Nat.le_trans h.size h'.size,fun k h1 h2=>(h'.block k (Nat.lt_of_lt_of_le h1 h.size) fun h3=>h2 (hT k h1 h3)).trans (h.block k h1 h2)⟩
theorem KB.of_below {S:Nat->Prop} {w w':World} (h:Below w.heap.size w w'):KB S w w':=⟨h.os,h.tape,h.output,h.size,fun k h1 _=>h.block k h1⟩
theorem KB.of_grown {S:Nat->Prop} {w w':World} {r:Option Nat} (h:w.grownBy w' r) (hr: ∀k,r=some k->S k):KB S w w':=⟨h.os,h.tape,h.output,h.size,fun k h1 h2=>h.block k h1 fun e=>h2 (hr k e.symm)⟩
theorem KB.set {S:Nat->Prop} (w:World) (p:Addr) (hp:S p.block) (v:Value):KB S w (w.setCell p v):=⟨rfl,rfl,rfl,by simp[World.setCell],fun k _ h2=>Below.heap_setCell _ _ _ _ (fun e=>h2 (e▸hp))⟩
theorem KB.below {S:Nat->Prop} {w w':World} {B:Nat} (h:KB S w w') (hS: ∀k,S k->B<=k) (hB:B<=w.heap.size):Below B w w':=⟨h.os,h.tape,h.output,h.size,fun k h1=>h.block k (Nat.lt_of_lt_of_le h1 hB) fun h2=>Nat.lt_irrefl _ (Nat.lt_of_lt_of_le h1 (hS k h2))⟩
theorem Aj.kb {S:Nat->Prop} {w w':World} {g:Nat} {t:TypeId} {cs:Array Value} (hx:Aj w g t cs) (h:KB S w w') (hn: ¬S g):Aj w' g t cs:=(h.block g hx.lt hn).trans hx
def Ts (acc:Nat) (l:List UInt8):Nat:=l.foldl (fun a c=>a*10+(c.toNat - 48)) acc
theorem Yx: ∀(l:List UInt8) (a:Nat),a<=Ts a l
 | [],a=>Nat.le_refl a
 |c::r,a=>by
  have:=Yx r (a*10+(c.toNat - 48));show a<=Ts (a*10+(c.toNat - 48)) r;omega
theorem Qo: ∀(l:List UInt8) (acc:Nat),(∀c ∈ l,Dy c=true)->Lib.parseUintM 18446744073709551615 acc l=if 18446744073709551615<Ts acc l/\l≠ []then .range else .ok (Ts acc l)
 | [],acc,_=>by simp[Lib.parseUintM,Ts]
 |c::r,acc,h=>by
  have hc:=h c (by simp);unfold Dy at hc;rw[decide_eq_true_iff]at hc;have ih:=Qo r (acc*10+(c.toNat - 48)) (fun x hx=>h x (by simp[hx]));have e:Ts acc (c::r)=Ts (acc*10+(c.toNat - 48)) r:=rfl;have hg:=Yx r (acc*10+(c.toNat - 48));unfold Lib.parseUintM;rw[if_pos hc,e];by_cases h1:1844674407370955162<=acc
  . rw[if_pos h1,if_pos ⟨by omega,by simp⟩]
  . rw[if_neg h1];by_cases h2:18446744073709551615<acc*10+(c.toNat - 48)
    . rw[if_pos h2,if_pos ⟨by omega,by simp⟩]
    . rw[if_neg h2,ih];by_cases hr:r= []
      . subst hr;rw[if_neg (by simp)];have:Ts (acc*10+(c.toNat - 48)) []=acc*10+(c.toNat - 48):=rfl;rw[if_neg (by rw[this];omega)]
      . by_cases h3:18446744073709551615<Ts (acc*10+(c.toNat - 48)) r
        . rw[if_pos ⟨h3,hr⟩,if_pos ⟨h3,by simp⟩]
        . rw[if_neg (fun q=>h3 q.1),if_neg (fun q=>h3 q.1)]
theorem Qn {l:List UInt8} (h: ∀c ∈ l,Dy c=true) (hl:l≠ []):Lib.parseUintB 64 l=if 18446744073709551615<Il l then .range else .ok (Il l):=by
 unfold Lib.parseUintB;rw[if_neg hl];have:=Qo l 0 h;have e:Ts 0 l=Il l:=rfl;rw[e]at this;show Lib.parseUintM 18446744073709551615 0 l=_;rw[this];by_cases h3:18446744073709551615<Il l
 . rw[if_pos ⟨h3,hl⟩,if_pos h3]
 . rw[if_neg (fun q=>h3 q.1),if_neg h3]
theorem Akl {l:List UInt8} (h: ∀c ∈ l,Dy c=true) (hl:l≠ []):Lib.parseIntB 64 l=if 9223372036854775807<Il l then .range else .ok (Il l:Int):=by
 obtain⟨c,r,rfl⟩: ∃c r,l=c::r:=by cases l with|nil=>exact absurd rfl hl|cons c r=>exact⟨c,r,rfl⟩
 have hc:=h c (by simp);unfold Dy at hc;rw[decide_eq_true_iff]at hc;unfold Lib.parseIntB;simp only;rw[if_neg (show ¬(c.toNat=43\/c.toNat=45)by omega),Qn h hl];have hn: ¬(c.toNat=45):=by omega
 by_cases h1:18446744073709551615<Il (c::r)
 . rw[if_pos h1,if_pos (by omega)]
 . rw[if_neg h1];by_cases h2:9223372036854775807<Il (c::r)
   . simp only[hn,not_false_eq_true,true_and,false_and,if_false];rw[if_pos h2,if_pos (by show 9223372036854775808<=_;omega)]
   . simp only[hn,not_false_eq_true,true_and,false_and,if_false];rw[if_neg h2,if_neg (by show ¬(9223372036854775808<=_);omega)]
theorem Akk {l:List UInt8} (h: ∀c ∈ l,Dy c=true) (hl:l≠ []):Lib.parseIntB 64 (45::l)=if 9223372036854775808<Il l then .range else .ok (-(Il l:Int)):=by
 unfold Lib.parseIntB;simp only;rw[if_pos (by decide),Qn h hl];by_cases h1:18446744073709551615<Il l
 . rw[if_pos h1,if_pos (by omega)]
 . rw[if_neg h1];have hn:(45:UInt8).toNat=45:=by decide
   by_cases h2:9223372036854775808<Il l
   . simp only[hn,not_true_eq_false,true_and,false_and,if_false];rw[if_pos h2,if_pos (by show 9223372036854775808<_;omega)]
   . simp only[hn,not_true_eq_false,true_and,false_and,if_false,if_true]
theorem Ahj (s:List UInt8) (f:Nat): ∀c ∈ (s.drop f).take (Cq s f - f),Dy c=true:=by
 intro c hc;obtain⟨i,hi⟩:=List.mem_iff_getElem?.1 hc;have hlt:i<Cq s f - f:=by
  by_cases h:i<Cq s f - f
  . exact h
  . rw[List.getElem?_take_eq_none (by omega)]at hi;cases hi
 rw[List.getElem?_take_of_lt hlt,List.getElem?_drop]at hi;exact Tr s f (f+i) c (by omega) (by omega) hi
theorem Aec {s:List UInt8} {f e:Nat} {x:UInt8} (hx:s[f]? =some x) (hz: ¬x=48) (hf:f<Cq s f) (he:Cq s f=e):Il ((s.drop f).take (e - f))≠0:=by
 subst he;have hd:=Tr s f f x (Nat.le_refl _) hf hx;unfold Dy at hd;rw[decide_eq_true_iff]at hd;have hx48:x.toNat≠48:=fun q=>hz (UInt8.toNat_inj.1 q);obtain⟨n,hn⟩: ∃n,Cq s f - f=n+1:=⟨Cq s f - f - 1,by omega⟩;rw[hn,Iw hx,List.take_succ_cons];have h1:=Yx ((s.drop (f+1)).take n) (0*10+(x.toNat - 48));have e:Il (x::(s.drop (f+1)).take n)=Ts (0*10+(x.toNat - 48)) ((s.drop (f+1)).take n):=rfl;rw[e];omega
def Ir (a b:Int):Int:=if a<b then -1 else if b<a then 1 else 0
theorem Dn {a b:Int}:Ir a b=0 ↔ a=b:=by
 unfold Ir
 split
 . constructor<;>intro h<;>omega
 split
 . constructor<;>intro h<;>omega
 . constructor<;>intro h<;>omega
theorem Fz (a b:Int) (w:World):Calls Tryz.prog 90 #[.int .i64 a,.int .i64 b] w fun e w'=>e=.returned (.int .i64 (Ir a b))/\w'=w:=by
 unfold Ir;by_cases h1:a<b
 . rw[if_pos h1];go_enter Tryz.func90,Tryz.ntmps90;go_wp2;go_ret;exact⟨rfl,rfl⟩
 rw[if_neg h1];by_cases h2:b<a
 . rw[if_pos h2];go_enter Tryz.func90,Tryz.ntmps90;go_wp2;go_ret;exact⟨rfl,rfl⟩
 . rw[if_neg h2];go_enter Tryz.func90,Tryz.ntmps90;go_wp2;go_ret;exact⟨rfl,rfl⟩
def J0 (a b:ByteArray) (w:World) (e:Ending) (w':World):Prop:= ∃c:Int,e=.returned (.int .i64 c)/\(c=0 ↔ a=b)/\Below w.heap.size w w'
theorem J0.of {a b:ByteArray} {w w':World} {c:Int} (h:c=0 ↔ a=b) (hb:Below w.heap.size w w'):J0 a b w (.returned (.int .i64 c)) w':=⟨c,rfl,h,hb⟩
theorem Sh (a b:ByteArray) (w:World) (ha:a.size<=1000000000) (hb:b.size<=1000000000):
 Calls Tryz.prog 91 #[.string a,.string b] w (J0 a b w):=by
 have H0:Hid (a.data.toList.take 0=b.data.toList.take 0):=by show _=_;simp
 have HB:Hid (Below w.heap.size w w):=Below.refl _ _;go_enter Tryz.func91,Tryz.ntmps91;go_wp2_with (fail);go_loopw [5] (fun i wr=> ∃k:Nat,i=.int .i64 k/\k<=a.size/\k<=b.size/\Hid (a.data.toList.take k=b.data.toList.take k)/\Hid (Below w.heap.size w wr)) (fun i _=>a.size - (intOf i).toNat)
 case atStart=>exact⟨0,rfl,Nat.zero_le _,Nat.zero_le _,H0,HB⟩
 case round=>
  obtain⟨k,rfl,hka,hkb,ht,hbw⟩:=hrel;clear H0 HB;by_cases hlt:k<a.size
  . by_cases hlt2:k<b.size
    . obtain⟨x,hx⟩: ∃x,a[k]=x:=⟨_,rfl⟩;obtain⟨y,hy⟩: ∃y,b[k]=y:=⟨_,rfl⟩;have hax:a.data.toList[k]? =some x:=by
       rw[Array.getElem?_toList,<-hx];exact Array.getElem?_eq_getElem (by exact hlt)
      have hby:b.data.toList[k]? =some y:=by
       rw[Array.getElem?_toList,<-hy];exact Array.getElem?_eq_getElem (by exact hlt2)
      have hxb:(x.toNat:Int)<256:=by have:=x.toNat_lt;omega
      have hyb:(y.toNat:Int)<256:=by have:=y.toNat_lt;omega
      by_cases hxy:x=y
      . subst hxy;have Hn:Hid (a.data.toList.take (k+1)=b.data.toList.take (k+1)):=by
         show _=_;rw[List.take_add_one,List.take_add_one,ht.out,hax,hby]
        clear ht hax hby;go_wp2_with (fail);go_quiet (fail);have hbw2:=qz (Bx hbw.out nq);clear hbw;go_wp2;go_roundw
        case rel=>exact⟨k+1,by go_num,by omega,by omega,Hn,hbw2⟩
        case measure=>simp only[intOf];omega
      . have hxn:x.toNat≠y.toNat:=fun e=>hxy (UInt8.toNat_inj.1 e);have h1:((x.toNat:Int)==(y.toNat:Int))=false:=by simp;omega
        have h2:((x.toNat:Int) != (y.toNat:Int))=true:=by simp[bne];omega
        have hab:a≠b:=by
         rintro rfl;rw[hax]at hby;exact hxy (Option.some.inj hby)
        have hc:Ir (x.toNat:Int) (y.toNat:Int)≠0:=by rw[Ne,Dn];omega
        obtain⟨C,hC⟩: ∃C,Ir (x.toNat:Int) (y.toNat:Int)=C:=⟨_,rfl⟩;have cN:=fun w=>Fz (x.toNat:Int) (y.toNat:Int) w;rw[hC]at cN hc;have HN:=qz cN;have Hc:Hid (C=0 ↔ a=b):=⟨fun e=>absurd e hc,fun e=>absurd e hab⟩;clear ht hax hby hxy hxn hab hc hC cN;go_wp2_with (fail);go_quiet (fail);have hbw2:=Bx hbw.out nq;clear hbw;generalize wr.drewN nq=w9 at hbw2 ⊢;have Hbw2:=qz hbw2;clear hbw2;go_wp2_with (fail);go_quiet ((go_at_call 90;exact Calls.quiet_of_same (HN.out _)));have hbw3:=qz (Bx Hbw2.out nq);clear Hbw2;go_wp2;go_ret;exact J0.of Hc.out hbw3.out
    . have hkb':k=b.size:=by omega
      subst hkb';have hc:Ir (a.size:Int) (b.size:Int)≠0:=by rw[Ne,Dn];omega
      have hab:a≠b:=by rintro rfl;omega
      obtain⟨C,hC⟩: ∃C,Ir (a.size:Int) (b.size:Int)=C:=⟨_,rfl⟩;have cN:=fun w=>Fz (a.size:Int) (b.size:Int) w;rw[hC]at cN hc;have HN:=qz cN;have Hc:Hid (C=0 ↔ a=b):=⟨fun e=>absurd e hc,fun e=>absurd e hab⟩;clear ht hab hc hC cN;go_wp2_with (fail);(with_reducible refine(HN.out _).mono ?_);rintro e w' ⟨rfl,rfl⟩;go_wp2;go_ret;exact J0.of Hc.out hbw.out
  . have hka':k=a.size:=by omega
    subst hka';obtain⟨C,hC⟩: ∃C,Ir (a.size:Int) (b.size:Int)=C:=⟨_,rfl⟩;have cN:=fun w=>Fz (a.size:Int) (b.size:Int) w;rw[hC]at cN;have HN:=qz cN;have Hc:Hid (C=0 ↔ a=b):=by
     show _ ↔ _;rw[<-hC,Dn];constructor
     . intro h;have hs:a.size=b.size:=by omega
       have:=ht.out;rw[hs,List.take_of_length_le (by rw[Array.length_toList];exact Nat.le_of_eq hs),List.take_of_length_le (by rw[Array.length_toList];exact Nat.le_refl _)]at this;exact ByteArray.ext (Array.ext' this)
     . rintro rfl;rfl
    clear ht hC cN;go_wp2_with (fail);(with_reducible refine(HN.out _).mono ?_);rintro e w' ⟨rfl,rfl⟩;go_wp2;go_ret;exact J0.of Hc.out hbw.out
end Go.Proofs.YtkmcjfkokoidcaaGreatDoor
