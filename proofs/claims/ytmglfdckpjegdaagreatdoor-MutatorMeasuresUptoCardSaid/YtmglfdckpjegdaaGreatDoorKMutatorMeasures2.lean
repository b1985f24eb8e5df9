/- Parts: mutator.Deep, and the reference's: how deep a mutator is. Condition: a bulk of at most 10^8. -/
import Derived.Test.YtmglfdckpjegdaaGreatDoorKMu24
set_option maxHeartbeats 20000000
namespace Go.Proofs.YtmglfdckpjegdaaGreatDoor
mutual
def F6:Mut->Nat
 | .mk _ _ _ _ _ _ _ _ l=>1+Cu l
def Cu:List Mut->Nat
 | []=>0
 |m::r=>max (F6 m) (Cu r)
end
theorem Ai8 {k:Int} {key dst:ByteArray} {n:Int} {had:Bool} {was:Val} {has:Bool} {v:Val} {l:List Mut} {d e:Int} (h:Dv (.mk k key dst n had was has v l) d=0) (he:e<=6):
 Dv (.mk k key dst n had was has v l) e=Gk l (e+1):=by
 obtain⟨h1,h2,h3,h4,h5,_⟩:=E4 h;simp only[Dv];rw[if_neg (by rw[h1];simp),if_neg (by omega),if_neg (by rw[h3];simp),if_neg (fun c=>c.2 (h4 c.1)),if_neg (fun c=>c.2 (h5 c.1))]
theorem Al1: ∀(m:Mut) (d e:Int),Dv m d=0->Dv m e=if e+F6 m<=7 then 0 else 5:=by
 refine Mut.ind ?_;intro k key dst n had was has v l IH d e h;have hd1:1<=F6 (.mk k key dst n had was has v l):=by simp only[F6];omega
 by_cases he:e<=6
 . rw[Ai8 h he];have hl:=(E4 h).2.2.2.2.2;have: ∀q:List Mut,(∀m ∈ q,m ∈ l)->Gk q (e+1)=if(e+1)+Cu q<=7\/q= []then 0 else 5:=by
    intro q
    induction q with
    |nil=>intro _;simp[Gk]
    |cons m r ih=>
     intro hq;have hm:=IH m (hq m (by simp)) (d+1) (e+1) (Ic hl m (hq m (by simp)));have hr:=ih fun x hx=>hq x (by simp[hx]);have hdm:Cu (m::r)=max (F6 m) (Cu r):=rfl;simp only[Gk];rw[hm,hr];by_cases c1:e+1+(F6 m:Int)<=7
     . rw[if_pos c1,if_pos rfl];by_cases c2:e+1+(Cu r:Int)<=7\/r= []
       . rw[if_pos c2,if_pos];rcases c2 with c2|rfl
         . left;omega
         . left;simp only[Cu]at hdm ⊢;omega
       . rw[if_neg c2,if_neg];rintro(c|c)
         . exact c2 (.inl (by omega))
         . cases c
     . rw[if_neg c1,if_neg (by decide),if_neg];rintro(c|c)
       . omega
       . cases c
   rw[this l fun _ h=>h];have hdm:F6 (.mk k key dst n had was has v l)=1+Cu l:=rfl;by_cases c:e+1+(Cu l:Int)<=7\/l= []
   . rw[if_pos c,if_pos];rcases c with c|rfl
     . omega
     . simp only[Cu]at hdm;omega
   . rw[if_neg c,if_neg];intro c2;exact c (.inl (by omega))
 . obtain⟨h1,_⟩:=E4 h;simp only[Dv];rw[if_neg (by rw[h1];simp),if_pos (by omega),if_neg (by omega)]
abbrev O2:Val:=.mk 0 false 0 Cp [] []
def Ng (l:List Mut):Mut:=.mk 7 Cp Cp 0 false O2 false O2 l
def Fx (m:Mut):Nat->Mut
 |0=>m
 |n+1=>Ng [Fx m n]
theorem Yj (m:Mut): ∀n,F6 (Fx m n)=F6 m+n
 |0=>rfl
 |n+1=>by simp only[Fx,Ng,F6,Cu,Yj m n];omega
theorem Zu (m:Mut): ∀n,Cd (Fx m n)=Cd m+n
 |0=>rfl
 |n+1=>by simp only[Fx,Ng,Cd,Bn,Zu m n];omega
theorem Adn {m:Mut} (h:Dv m 1=0): ∀n:Nat,Dv (Fx m n) (1 - n)=0
 |0=>h
 |n+1=>by
  have ih:=Adn h n;have e:(1:Int) - ((n+1:Nat):Int)+1=1 - n:=by omega
  have hk:Dr 7 Cp Cp false=true:=by decide+kernel
  have hb:Ao 7 Cp 0 false (D0 O2) false (D0 O2) 1=true:=by decide+kernel
  show Dv (.mk 7 Cp Cp 0 false O2 false O2 [Fx m n]) _=0;simp only[Dv,Gk];rw[if_neg (by rw[List.length_singleton,hb];simp),if_neg (by omega),if_neg (by rw[hk];simp),if_neg (fun c=>by cases c.1),if_neg (fun c=>by have:=c.1;simp at this),e,if_pos ih]
theorem Ado {m:Mut} (h:Bk m=0) (n:Nat):Bk (Fx m n)=if 64<Cd m+n then 6 else if F6 m+n<=6 then 0 else 5:=by
 unfold Bk at h ⊢;by_cases h1:64<Cd m
 . rw[if_pos h1]at h;cases h
 rw[if_neg h1]at h;rw[Zu];by_cases h2:64<Cd m+n
 . rw[if_pos h2,if_pos h2]
 . rw[if_neg h2,if_neg h2,Al1 _ _ 1 (Adn h n),Yj];by_cases h3:F6 m+n<=6
   . rw[if_pos h3,if_pos (by omega)]
   . rw[if_neg h3,if_neg (by omega)]
theorem Ah7 (p q:ByteArray×Val):Ak (ov [p,q])=123::(J1 p++44::(J1 q++ [125])):=by simp[ov,Ak,By]
theorem Ah6 (p:ByteArray×Val):Ak (ov [p])=123::(J1 p++ [125]):=by simp[ov,Ak,By]
theorem Ah5 (l:List Val):Ak (lv l)=91::(Br l true++ [93]):=by simp[lv,Ak]
theorem Us (k:ByteArray) (v:Val):J1 (k,v)=Bp k++58::Ak v:=by simp only[J1]
theorem Aht (l:List Mut):Bb (Ng l)=ov [(Ai,ov [(Gu,lv (Be l))]),(An,tv Oj)]:=by
 have h:Cp.toList.isEmpty=true:=by decide+kernel
 simp only[Ng,Bb,B9];rw[if_neg (by decide),if_neg (by decide),if_neg (by decide),if_neg (by decide),if_neg (by decide),if_pos h,if_neg (by decide),if_neg (by decide),if_neg (by decide),if_neg (by decide),if_neg (by decide),if_neg (by decide)]
theorem Am1 (l:List Mut):(Ak (Bb (Ng l))).length=(Ak (Bb (Ng []))).length+(Br (Be l) true).length:=by
 rw[Aht,Aht,Ah7,Ah7,Us Ai,Us Ai,Ah6,Ah6,Us Gu,Us Gu,Ah5,Ah5];generalize J1 (An,tv Oj)=a;generalize Bp Ai=b;generalize Bp Gu=c;have h0:(Br (Be []) true).length=0:=by simp[Be,Br]
 generalize Br (Be []) true=e at h0 ⊢;generalize Br (Be l) true=f;simp only[List.length_append,List.length_cons,List.length_nil];omega
theorem Y9 (m:Mut): ∀n,(Ak (Bb (Fx m n))).length=(Ak (Bb m)).length+n*(Ak (Bb (Ng []))).length
 |0=>by simp[Fx]
 |n+1=>by
  have e:(Br (Be [Fx m n]) true).length=(Ak (Bb (Fx m n))).length:=by simp[Be,Br]
  rw[Fx,Am1,e,Y9 m n,Nat.succ_mul];omega
end Go.Proofs.YtmglfdckpjegdaaGreatDoor
namespace Go.Proofs.YtmglfdckpjegdaaGreatDoor
open Go.RowKit
theorem U3: ∀(a b:List Mut),Cu (a++b)=max (Cu a) (Cu b)
 | [],b=>by simp[Cu]
 |x::r,b=>by simp only[List.cons_append,Cu,U3 r b];omega
theorem Ace {l:List Mut} {q:Nat} {m:Mut} (h:l[q]? =some m):Cu (l.take (q+1))=max (Cu (l.take q)) (F6 m):=by
 rw[List.take_add_one,h,U3];simp[Cu]
theorem Ql: ∀m,F6 m<=Cd m:=by
 refine Mut.ind ?_;intro k key dst n had was has v l hl;have:Cu l<=Bn l:=by
  induction l with
  |nil=>simp[Cu]
  |cons x r ih=>
   have h1:=hl x (by simp);have h2:=ih (fun m hm=>hl m (by simp[hm]));simp only[Cu,Bn];omega
 simp only[F6,Cd];omega
theorem S9 (l:List Mut):Cu l<=Bn l:=by
 induction l with
 |nil=>simp[Cu]
 |cons x r ih=>
  have h1:=Ql x;simp only[Cu,Bn];omega
theorem Wn: ∀(q:Nat) (l:List Mut),Bn (l.take q)<=Bn l
 |0,l=>by simp[Bn]
 |q+1, []=>by simp[Bn]
 |q+1,x::r=>by have:=Wn q r;simp only[List.take_succ_cons,Bn];omega
def Arw (m:Mut):Prop:= ∀(cs:List Value) (w:World),Holds w w.heap.size (dM m) cs->Bm m<=100000000->
 Calls Tryz.prog 29 #[.agg cs.toArray] w fun e w'=>e=.returned (.int .i64 (F6 m))/\Below w.heap.size w w'
set_option maxRecDepth 100000 in
theorem Ar0 (k:Int) (key dst:ByteArray) (n:Int) (had:Bool) (k1:Int) (b1:Bool) (n1:Int) (t1:ByteArray) (l1:List Val) (o1:List (ByteArray×Val)) (has:Bool) (k2:Int) (b2:Bool) (n2:Int) (t2:ByteArray) (l2:List Val) (o2:List (ByteArray×Val)) (l:List Mut) (ih: ∀x ∈ l,Arw x):Arw (Mut.mk k key dst n had (.mk k1 b1 n1 t1 l1 o1) has (.mk k2 b2 n2 t2 l2 o2) l):=by
 intro cs w hM hb;obtain⟨la1,lc1,oa1,oc1,la2,lc2,oa2,oc2,a,c,rfl,hv1,hv2,hl⟩:=Bq hM;have hsz:=Hu (Mut.mk k key dst n had (.mk k1 b1 n1 t1 l1 o1) has (.mk k2 b2 n2 t2 l2 o2) l);have hds:=S9 l;have hls:=Fm l;simp only[Bm]at hb;simp only[Bm,Cd]at hsz;have hI0:Hid (Below w.heap.size w (w.alloc (.cells #[.int .i64 k,.string key,.string dst,.int .i64 n,.bool had,.int .i64 k1,.bool b1,.int .i64 n1,.string t1,.slice la1 l1.length lc1,.slice oa1 o1.length oc1,.bool has,.int .i64 k2,.bool b2,.int .i64 n2,.string t2,.slice la2 l2.length lc2,.slice oa2 o2.length oc2,.slice a l.length c] 30))):=Lib.hid (Aa _ _);have hxb:=Al.new w 30 #[.int .i64 k,.string key,.string dst,.int .i64 n,.bool had,.int .i64 k1,.bool b1,.int .i64 n1,.string t1,.slice la1 l1.length lc1,.slice oa1 o1.length oc1,.bool has,.int .i64 k2,.bool b2,.int .i64 n2,.string t2,.slice la2 l2.length lc2,.slice oa2 o2.length oc2,.slice a l.length c];obtain⟨Ih,Hl,Hxb⟩:=hid3 ih hl hxb;clear ih hl hxb;clear hM hv1 hv2;go_enter Tryz.func29,Tryz.ntmps29;go_wp2_with (fail);go_loopw [3,9] (fun s i wr=> ∃q:Nat,i=.int .i64 q/\q<=l.length/\s=.int .i64 (Cu (l.take q):Nat)/\Hid (Below w.heap.size w wr)) (fun _ i _=>l.length - (intOf i).toNat)
 case atStart=>exact⟨0,rfl,Nat.zero_le _,by simp[Cu],hI0⟩
 case round=>
  obtain⟨q,rfl,hq,rfl,hbw⟩:=hrel;clear hI0;by_cases hlt:q<l.length
  . obtain⟨m,hm⟩: ∃p,l[q]? =some p:=⟨_,List.getElem?_eq_getElem hlt⟩;have hmem:=List.mem_of_getElem? hm;have htk:=Ace hm;have hbm:=D1 hmem;have hsm:=Hu m;have hst:Cu (l.take q)<=Bn l:=Nat.le_trans (S9 _) (Wn _ _);have hdm:=Ql m;have hC:=Ih.out m hmem;obtain⟨k',key',dst',n',had',⟨k1',b1',n1',t1',l1',o1'⟩,has',⟨k2',b2',n2',t2',l2',o2'⟩,l'⟩:=m;have hz:=hbw.out.size;obtain⟨g,off,rfl,hg,cs',hcs,_,hcell⟩:=Ki (Hl.out.below hbw.out) hm;obtain⟨la1',lc1',oa1',oc1',la2',lc2',oa2',oc2',a',c',rfl,_,_,_⟩:=Bq hcs;have hrange:wr.rangeAt g (off+q*19) [.int .i64 k',.string key',.string dst',.int .i64 n',.bool had',.int .i64 k1',.bool b1',.int .i64 n1',.string t1',.slice la1' l1'.length lc1',.slice oa1' o1'.length oc1',.bool has',.int .i64 k2',.bool b2',.int .i64 n2',.string t2',.slice la2' l2'.length lc2',.slice oa2' o2'.length oc2',.slice a' l'.length c']:=hcell;have c0_:=hcell 0 _ rfl;have c1_:=hcell 1 _ rfl;have c2_:=hcell 2 _ rfl;have c3_:=hcell 3 _ rfl;have c4_:=hcell 4 _ rfl;have c5_:=hcell 5 _ rfl;have c6_:=hcell 6 _ rfl;have c7_:=hcell 7 _ rfl;have c8_:=hcell 8 _ rfl;have c9_:=hcell 9 _ rfl;have c10_:=hcell 10 _ rfl;have c11_:=hcell 11 _ rfl;have c12_:=hcell 12 _ rfl;have c13_:=hcell 13 _ rfl;have c14_:=hcell 14 _ rfl;have c15_:=hcell 15 _ rfl;have c16_:=hcell 16 _ rfl;have c17_:=hcell 17 _ rfl;have c18_:=hcell 18 _ rfl;rw[Nat.add_zero]at c0_;have hgr:g<wr.heap.size:=by omega
    have hq1:(q:Int)<(l.length:Int):=by omega
    have hq0:(0:Int)<=q:=by omega
    have hC': ∀W,Below wr.heap.size wr W->Calls Tryz.prog 29 #[.agg #[.int .i64 k',.string key',.string dst',.int .i64 n',.bool had',.int .i64 k1',.bool b1',.int .i64 n1',.string t1',.slice la1' l1'.length lc1',.slice oa1' o1'.length oc1',.bool has',.int .i64 k2',.bool b2',.int .i64 n2',.string t2',.slice la2' l2'.length lc2',.slice oa2' o2'.length oc2',.slice a' l'.length c']] W fun e w'=>e=.returned (.int .i64 (F6 (Mut.mk k' key' dst' n' had' (.mk k1' b1' n1' t1' l1' o1') has' (.mk k2' b2' n2' t2' l2' o2') l')))/\Below W.heap.size W w':=fun W hW=>hC _ W ((hcs.below (hW.mono hz)).more (Nat.le_trans hz hW.size)) (by omega);obtain⟨i1,i4⟩:((Cu (l.take q):Nat):Int)<=1000000000/\((F6 (Mut.mk k' key' dst' n' had' (.mk k1' b1' n1' t1' l1' o1') has' (.mk k2' b2' n2' t2' l2' o2') l'):Nat):Int)<=1000000000:=by omega
    have i2:(0:Int)<=((F6 (Mut.mk k' key' dst' n' had' (.mk k1' b1' n1' t1' l1' o1') has' (.mk k2' b2' n2' t2' l2' o2') l'):Nat):Int):=by omega
    have htk':((Cu (l.take (q+1)):Nat):Int)=max ((Cu (l.take q):Nat):Int) ((F6 (Mut.mk k' key' dst' n' had' (.mk k1' b1' n1' t1' l1' o1') has' (.mk k2' b2' n2' t2' l2' o2') l'):Nat):Int):=by rw[htk];omega
    have i3:(0:Int)<=((Cu (l.take q):Nat):Int):=by omega
    generalize ((F6 (Mut.mk k' key' dst' n' had' (.mk k1' b1' n1' t1' l1' o1') has' (.mk k2' b2' n2' t2' l2' o2') l'):Nat):Int)=S at hC' i2 i4 htk';generalize ((Cu (l.take q):Nat):Int)=T at i1 htk' i3 ⊢;obtain⟨HC',Hbw,Htk'⟩:=hid3 hC' hbw htk';clear hC' hbw htk';clear hC hcs hcell hmem htk hbm hsm hst hdm hm;go_upto_region 4 with(fail);clear c0_ c1_ c2_ c3_ c4_ c5_ c6_ c7_ c8_ c9_ c10_ c11_ c12_ c13_ c14_ c15_ c16_ c17_ c18_
    iterate 5 go_step
    refine wp_load_mid 30 (.tmp 11) rfl g (off+q*19) rfl [.int .i64 k',.string key',.string dst',.int .i64 n',.bool had',.int .i64 k1',.bool b1',.int .i64 n1',.string t1',.slice la1' l1'.length lc1',.slice oa1' o1'.length oc1',.bool has',.int .i64 k2',.bool b2',.int .i64 n2',.string t2',.slice la2' l2'.length lc2',.slice oa2' o2'.length oc2',.slice a' l'.length c'] _ hrange Tryz.underlying30 rfl (by kernel_rfl) ?_
    iterate 5 go_step
    refine Co 30 (.tmp 5) (.tmp 12) rfl #[.int .i64 k',.string key',.string dst',.int .i64 n',.bool had',.int .i64 k1',.bool b1',.int .i64 n1',.string t1',.slice la1' l1'.length lc1',.slice oa1' o1'.length oc1',.bool has',.int .i64 k2',.bool b2',.int .i64 n2',.string t2',.slice la2' l2'.length lc2',.slice oa2' o2'.length oc2',.slice a' l'.length c'] rfl rfl rfl (by kernel_rfl) (by simp[Value.oneCell']) ?_;go_upto_region 5 with(fail)
    iterate 5 go_step
    refine Ac 30 (.tmp 5) rfl wr.heap.size #[.int .i64 k',.string key',.string dst',.int .i64 n',.bool had',.int .i64 k1',.bool b1',.int .i64 n1',.string t1',.slice la1' l1'.length lc1',.slice oa1' o1'.length oc1',.bool has',.int .i64 k2',.bool b2',.int .i64 n2',.string t2',.slice la2' l2'.length lc2',.slice oa2' o2'.length oc2',.slice a' l'.length c'] (Al.new _ _ _) rfl _ Tryz.underlying30 rfl (by kernel_rfl) ?_;go_wp2_with (go_at_call 29;(with_reducible refine(HC'.out _ (Aa _ _)).mono ?_);rintro e w1 ⟨rfl,hb1⟩);have hbf:=(Hbw.out.trans ((Aa wr (.cells #[.int .i64 k',.string key',.string dst',.int .i64 n',.bool had',.int .i64 k1',.bool b1',.int .i64 n1',.string t1',.slice la1' l1'.length lc1',.slice oa1' o1'.length oc1',.bool has',.int .i64 k2',.bool b2',.int .i64 n2',.string t2',.slice la2' l2'.length lc2',.slice oa2' o2'.length oc2',.slice a' l'.length c'] 30)).mono hz)).trans (hb1.mono (by simp;omega));have HB:=Lib.hid hbf;clear hb1 hbf;go_wp2;go_roundw
    case rel=>exact⟨q+1,by go_num,by omega,by rw[Htk'.out],HB⟩
    case measure=>simp only[intOf];omega
  . obtain rfl:q=l.length:=by omega
    have e1:Cu (l.take l.length)=Cu l:=by rw[List.take_length]
    rw[e1];have Hbw:=Lib.hid hbw;clear hbw;go_wp2;go_ret;exact⟨by simp[F6],Hbw.out⟩
theorem Ars: ∀m,Arw m:=by
 refine Mut.ind ?_;intro k key dst n had was has v l IH;obtain⟨k1,b1,n1,t1,l1,o1⟩:=was;obtain⟨k2,b2,n2,t2,l2,o2⟩:=v;exact Ar0 k key dst n had k1 b1 n1 t1 l1 o1 has k2 b2 n2 t2 l2 o2 l IH
def Z9 (m:Mut):Prop:= ∀(cs:List Value) (w:World),Holds w w.heap.size (dM m) cs->Bm m<=100000000->
 Calls Tryz.prog 17 #[.agg cs.toArray] w fun e w'=>e=.returned (.int .i64 (F6 m))/\Below w.heap.size w w'
set_option maxRecDepth 100000 in
theorem Ad7 (k:Int) (key dst:ByteArray) (n:Int) (had:Bool) (k1:Int) (b1:Bool) (n1:Int) (t1:ByteArray) (l1:List Val) (o1:List (ByteArray×Val)) (has:Bool) (k2:Int) (b2:Bool) (n2:Int) (t2:ByteArray) (l2:List Val) (o2:List (ByteArray×Val)) (l:List Mut) (ih: ∀x ∈ l,Z9 x):Z9 (Mut.mk k key dst n had (.mk k1 b1 n1 t1 l1 o1) has (.mk k2 b2 n2 t2 l2 o2) l):=by
 intro cs w hM hb;obtain⟨la1,lc1,oa1,oc1,la2,lc2,oa2,oc2,a,c,rfl,hv1,hv2,hl⟩:=Bq hM;have hsz:=Hu (Mut.mk k key dst n had (.mk k1 b1 n1 t1 l1 o1) has (.mk k2 b2 n2 t2 l2 o2) l);have hds:=S9 l;have hls:=Fm l;simp only[Bm]at hb;simp only[Bm,Cd]at hsz;obtain⟨wi,hwi⟩: ∃wi,w.alloc (.cells #[.int .i64 k,.string key,.string dst,.int .i64 n,.bool had,.int .i64 k1,.bool b1,.int .i64 n1,.string t1,.slice la1 l1.length lc1,.slice oa1 o1.length oc1,.bool has,.int .i64 k2,.bool b2,.int .i64 n2,.string t2,.slice la2 l2.length lc2,.slice oa2 o2.length oc2,.slice a l.length c] 30)=wi:=⟨_,rfl⟩;have hbi:Below w.heap.size w wi:=hwi▸Aa _ _;have hxb:Al wi w.heap.size 30 #[.int .i64 k,.string key,.string dst,.int .i64 n,.bool had,.int .i64 k1,.bool b1,.int .i64 n1,.string t1,.slice la1 l1.length lc1,.slice oa1 o1.length oc1,.bool has,.int .i64 k2,.bool b2,.int .i64 n2,.string t2,.slice la2 l2.length lc2,.slice oa2 o2.length oc2,.slice a l.length c]:=hwi▸Al.new _ _ _;have hI0:Hid (Below wi.heap.size wi wi):=Lib.hid (Below.refl _ _);have hgb:=hxb.lt;obtain⟨Ih,Hl,Hxb,Hbi⟩:=hid4 ih hl hxb hbi;clear ih hl hxb hbi;clear hM hv1 hv2;go_enter Tryz.func17,Tryz.ntmps17;go_wp2_with (fail);clear hwi;go_loopw [3,4] (fun s i wr=> ∃q:Nat,i=.int .i64 q/\q<=l.length/\s=.int .i64 (Cu (l.take q):Nat)/\Hid (Below wi.heap.size wi wr)) (fun _ i _=>l.length - (intOf i).toNat)
 case atStart=>exact⟨0,rfl,Nat.zero_le _,by simp[Cu],hI0⟩
 case round=>
  obtain⟨q,rfl,hq,rfl,hbr⟩:=hrel;clear hI0;have hbw:=Hbi.out.trans (hbr.out.mono Hbi.out.size);have y18:=(Hxb.out.below hbr.out Hxb.out.lt).cell 18;by_cases hlt:q<l.length
  . obtain⟨m,hm⟩: ∃p,l[q]? =some p:=⟨_,List.getElem?_eq_getElem hlt⟩;have hmem:=List.mem_of_getElem? hm;have htk:=Ace hm;have hbm:=D1 hmem;have hsm:=Hu m;have hst:Cu (l.take q)<=Bn l:=Nat.le_trans (S9 _) (Wn _ _);have hdm:=Ql m;have hC:=Ih.out m hmem;obtain⟨k',key',dst',n',had',⟨k1',b1',n1',t1',l1',o1'⟩,has',⟨k2',b2',n2',t2',l2',o2'⟩,l'⟩:=m;have hz:=hbw.size;obtain⟨g,off,rfl,hg,cs',hcs,_,hcell⟩:=Ki (Hl.out.below hbw) hm;obtain⟨la1',lc1',oa1',oc1',la2',lc2',oa2',oc2',a',c',rfl,_,_,_⟩:=Bq hcs;have hrange:wr.rangeAt g (off+q*19) [.int .i64 k',.string key',.string dst',.int .i64 n',.bool had',.int .i64 k1',.bool b1',.int .i64 n1',.string t1',.slice la1' l1'.length lc1',.slice oa1' o1'.length oc1',.bool has',.int .i64 k2',.bool b2',.int .i64 n2',.string t2',.slice la2' l2'.length lc2',.slice oa2' o2'.length oc2',.slice a' l'.length c']:=hcell;have hgr:g<wr.heap.size:=by omega
    have hq1:(q:Int)<(l.length:Int):=by omega
    have hq0:(0:Int)<=q:=by omega
    have hC': ∀W,Below wr.heap.size wr W->Calls Tryz.prog 17 #[.agg #[.int .i64 k',.string key',.string dst',.int .i64 n',.bool had',.int .i64 k1',.bool b1',.int .i64 n1',.string t1',.slice la1' l1'.length lc1',.slice oa1' o1'.length oc1',.bool has',.int .i64 k2',.bool b2',.int .i64 n2',.string t2',.slice la2' l2'.length lc2',.slice oa2' o2'.length oc2',.slice a' l'.length c']] W fun e w'=>e=.returned (.int .i64 (F6 (Mut.mk k' key' dst' n' had' (.mk k1' b1' n1' t1' l1' o1') has' (.mk k2' b2' n2' t2' l2' o2') l')))/\Below W.heap.size W w':=fun W hW=>hC _ W ((hcs.below (hW.mono hz)).more (Nat.le_trans hz hW.size)) (by omega);obtain⟨i1,i4⟩:((Cu (l.take q):Nat):Int)<=1000000000/\((F6 (Mut.mk k' key' dst' n' had' (.mk k1' b1' n1' t1' l1' o1') has' (.mk k2' b2' n2' t2' l2' o2') l'):Nat):Int)<=1000000000:=by omega
    have i2:(0:Int)<=((F6 (Mut.mk k' key' dst' n' had' (.mk k1' b1' n1' t1' l1' o1') has' (.mk k2' b2' n2' t2' l2' o2') l'):Nat):Int):=by omega
    have htk':((Cu (l.take (q+1)):Nat):Int)=max ((Cu (l.take q):Nat):Int) ((F6 (Mut.mk k' key' dst' n' had' (.mk k1' b1' n1' t1' l1' o1') has' (.mk k2' b2' n2' t2' l2' o2') l'):Nat):Int):=by rw[htk];omega
    have i3:(0:Int)<=((Cu (l.take q):Nat):Int):=by omega
    generalize ((F6 (Mut.mk k' key' dst' n' had' (.mk k1' b1' n1' t1' l1' o1') has' (.mk k2' b2' n2' t2' l2' o2') l'):Nat):Int)=S at hC' i2 i4 htk';generalize ((Cu (l.take q):Nat):Int)=T at i1 htk' i3 ⊢;have hC1:=hC' wr (Below.refl _ _);obtain⟨HC1,Hbw,Htk'⟩:=hid3 hC1 hbw htk';clear hC1 hbw htk';clear hC hC' hcs hcell hmem htk hbm hsm hst hdm hm;go_upto_region 5 with(fail)
    iterate 14 go_step
    refine wp_load_mid 30 (.tmp 16) rfl g (off+q*19) rfl [.int .i64 k',.string key',.string dst',.int .i64 n',.bool had',.int .i64 k1',.bool b1',.int .i64 n1',.string t1',.slice la1' l1'.length lc1',.slice oa1' o1'.length oc1',.bool has',.int .i64 k2',.bool b2',.int .i64 n2',.string t2',.slice la2' l2'.length lc2',.slice oa2' o2'.length oc2',.slice a' l'.length c'] _ hrange Tryz.underlying30 rfl (by kernel_rfl) ?_;go_wp2_with (fail);(with_reducible refine(HC1.out).mono ?_);rintro e w1 ⟨rfl,hb1⟩;have HB:=Lib.hid (hbr.out.trans (hb1.mono hbr.out.size));clear hb1;by_cases hgt:T<S
    . have hmx:max T S=S:=by omega
      have htk2:=Htk'.out;rw[hmx]at htk2;have Htk2:=Lib.hid htk2;clear htk2;clear hmx;go_wp2;go_roundw
      case rel=>exact⟨q+1,by go_num,by omega,by rw[Htk2.out],HB⟩
      case measure=>simp only[intOf];omega
    . have hmx:max T S=T:=by omega
      have hle:S<=T:=by omega
      clear hgt;have htk2:=Htk'.out;rw[hmx]at htk2;have Htk2:=Lib.hid htk2;clear htk2;clear hmx;go_wp2;go_roundw
      case rel=>exact⟨q+1,by go_num,by omega,by rw[Htk2.out],HB⟩
      case measure=>simp only[intOf];omega
  . obtain rfl:q=l.length:=by omega
    have e1:Cu (l.take l.length)=Cu l:=by rw[List.take_length]
    rw[e1];have Hbw:=Lib.hid hbw;clear hbw;go_wp2;go_ret;exact⟨by simp[F6];omega,Hbw.out⟩
theorem Abb: ∀m,Z9 m:=by
 refine Mut.ind ?_;intro k key dst n had was has v l IH;obtain⟨k1,b1,n1,t1,l1,o1⟩:=was;obtain⟨k2,b2,n2,t2,l2,o2⟩:=v;exact Ad7 k key dst n had k1 b1 n1 t1 l1 o1 has k2 b2 n2 t2 l2 o2 l IH
end Go.Proofs.YtmglfdckpjegdaaGreatDoor
