/- Parts: What Exact comes to. No condition. -/
import Derived.Defers
import Derived.Recover
import Derived.Laws.Pointers
import Derived.Test.YtkmcjfkokoidcaaGreatDoorKFa31
import Derived.Test.YtkmcjfkokoidcaaGreatDoorKFa32
set_option maxHeartbeats 20000000
set_option maxRecDepth 100000
namespace Go.Proofs.YtkmcjfkokoidcaaGreatDoor
theorem Aar: ∀{a b:List A5},Ay a->Ay b->(∀k,Di k a=Di k b)->a=b
 | [], [],_,_,_=>rfl
 | [],(k,y)::s,_,_,h=>by have:=h k;simp[Di]at this
 |(k,x)::r, [],_,_,h=>by have:=h k;simp[Di]at this
 |(a,x)::r,(b,y)::s,ha,hb,h=>by
  obtain⟨a1,a2⟩:=List.pairwise_cons.1 ha;obtain⟨b1,b2⟩:=List.pairwise_cons.1 hb;have e:a=b:=by
   rcases Kt a b with c|c|c
   . have hB: ∀e ∈ (b,y)::s,Dp a e.1=true:=by
      intro e he;rcases List.mem_cons.1 he with rfl|he
      . exact c
      . exact C0 c (b1 e he)
     have:=h a;rw[N3 hB,Di,if_pos rfl]at this
     cases this
   . exact c
   . have hA: ∀e ∈ (a,x)::r,Dp b e.1=true:=by
      intro e he;rcases List.mem_cons.1 he with rfl|he
      . exact c
      . exact C0 c (a1 e he)
     have:=h b;rw[N3 hA,Di,if_pos rfl]at this
     cases this
  subst e;have hv:x=y:=by
   have:=h a;rw[Di,if_pos rfl,Di,if_pos rfl]at this;exact Option.some.inj this
  rw[hv,Aar a2 b2 fun k=> ?_];have:=h k;by_cases c:a=k
  . subst c;rw[N3 a1,N3 b1]
  . rwa [Xb c,Xb c]at this
def Anv (l:List A5):List A5:=l.foldl (fun u e=>Cf e.1 e.2 u) []
theorem Ux: ∀{l u:List A5},Ay u->Ay (l.foldr (fun e u=>Cf e.1 e.2 u) u)
 | [],_,h=>h
 |_::r,_,h=>Kc (Ux (l:=r) h)
theorem Aa0 {l:List A5} (h:Ay l):Anv l=l:=by
 have: ∀(b P:List A5),Ay (P++b)->b.foldl (fun u e=>Cf e.1 e.2 u) P=P++b:=by
  intro b
  induction b with
  |nil=>intro P _;simp
  |cons e r ih=>
   obtain⟨k,v⟩:=e;intro P hP;have h1: ∀e ∈ P,Dp e.1 k=true:=fun e he=>(List.pairwise_append.1 hP).2.2 e he (k,v) (by simp);have h2:=Acr (v:=v) (A:= []) h1 (by simp);simp only[List.append_nil]at h2;rw[List.foldl_cons,h2,ih (P++ [(k,v)]) (by simpa using hP)];simp
 have:=this l [] (by simpa using h)
 rwa [List.nil_append]at this
theorem T1 {q:ByteArray}: ∀{l u:List A5},Di q (l.foldr (fun e u=>Cf e.1 e.2 u) u)=(Di q l).or (Di q u)
 | [],u=>by simp[Di]
 |(a,x)::r,u=>by
  rw[List.foldr_cons,T2,T1,Di];by_cases h:a=q
  . rw[if_pos h,if_pos h];rfl
  . rw[if_neg h,if_neg h]
open Classical in
theorem Xa {q:ByteArray} {v:Val}: ∀{g:List ByteArray} {u:List A5},Di q (g.foldl (fun u k=>Cf k v u) u)=if q ∈ g then some v else Di q u
 | [],u=>by simp
 |k::r,u=>by
  rw[List.foldl_cons,Xa,T2];by_cases h:q ∈ r
  . rw[if_pos h,if_pos (List.mem_cons_of_mem _ h)]
  . rw[if_neg h];by_cases h1:k=q
    . rw[if_pos h1,if_pos (by simp[h1])]
    . rw[if_neg h1,if_neg];intro c;rcases List.mem_cons.1 c with c|c
      . exact h1 c.symm
      . exact h c
open Classical in
theorem W8 {q:ByteArray} {l:List A5}: ∀{g:List ByteArray} {u:List A5},Di q (g.foldl (fun u k=>if(Di k l).isSome then u else C1 k u) u)=if q ∈ g/\Di q l=none then none else Di q u
 | [],u=>by simp
 |k::r,u=>by
  rw[List.foldl_cons,W8];by_cases h:q ∈ r/\Di q l=none
  . rw[if_pos h,if_pos ⟨List.mem_cons_of_mem _ h.1,h.2⟩]
  . rw[if_neg h];by_cases hs:(Di k l).isSome=true
    . rw[if_pos hs];rw[if_neg];rintro⟨c1,c2⟩;rcases List.mem_cons.1 c1 with rfl|c1
      . rw[c2]at hs;cases hs
      . exact h ⟨c1,c2⟩
    . rw[if_neg hs,Abp];by_cases h1:k=q
      . subst h1;rw[if_pos rfl,if_pos ⟨by simp,by simpa using hs⟩]
      . rw[if_neg h1,if_neg];rintro⟨c1,c2⟩;rcases List.mem_cons.1 c1 with c|c1
        . exact h1 c.symm
        . exact h ⟨c1,c2⟩
theorem Abq {v:Val}: ∀{g:List ByteArray} {u:List A5},Ay u->Ay (g.foldl (fun u k=>Cf k v u) u)
 | [],_,h=>h
 |_::r,_,h=>Abq (g:=r) (Kc h)
theorem Abe {l:List A5}: ∀{g:List ByteArray} {u:List A5},Ay u->Ay (g.foldl (fun u k=>if(Di k l).isSome then u else C1 k u) u)
 | [],_,h=>h
 |k::r,u,h=>by
  rw[List.foldl_cons];refine Abe (g:=r) ?_;by_cases hs:(Di k l).isSome=true
  . rw[if_pos hs];exact h
  . rw[if_neg hs];exact M0 h
theorem Ahv {l:List A5} (h:Ay l) (g:List ByteArray) (v:Val):
 g.foldl (fun u k=>if(Di k l).isSome then u else C1 k u) (l.reverse.foldl (fun u e=>Cf e.1 e.2 u) (g.foldl (fun u k=>Cf k v u) []))=l:=by
 rw[List.foldl_reverse];refine Aar (Abe (Ux (Abq List.Pairwise.nil))) h fun q=> ?_;rw[W8,T1,Xa]
 cases hq:Di q l with
 |some x=>simp
 |none=>
  by_cases c:q ∈ g
  . rw[if_pos ⟨c,rfl⟩]
  . rw[if_neg (fun d=>c d.1),if_neg c];simp[Di]
theorem O5 {k:ByteArray}: ∀{l:List A5},Ay l->C1 k l=(if Cb k l then l.take (Do k l)++l.drop (Do k l+1)else l)
 | [],_=>by simp[C1,Cb]
 |(a,x)::r,ha=>by
  obtain⟨a1,a2⟩:=List.pairwise_cons.1 ha;by_cases h:Dp a k=true
  . have hh:Cb k ((a,x)::r)=Cb k r:=by
     unfold Cb;simp only[Do,if_pos h,List.getElem?_cons_succ]
    have hd:C1 k ((a,x)::r)=(a,x)::C1 k r:=by
     have:=Ab3 h;simp[C1,this]
    rw[hd,hh,O5 a2];simp only[Do,if_pos h,List.take_succ_cons,List.cons_append,List.drop_succ_cons];by_cases c:Cb k r=true
    . rw[if_pos c,if_pos c]
    . rw[if_neg c,if_neg c]
  . by_cases e:a=k
    . subst e;have hh:Cb a ((a,x)::r)=true:=by
       unfold Cb;simp only[Do,if_neg h,List.getElem?_cons_zero,Option.any_some];simp
      have hd:C1 a ((a,x)::r)=C1 a r:=by simp[C1]
      rw[hd,(J5 a1).1,hh,if_pos rfl];simp only[Do,if_neg h,List.take_zero,List.nil_append,List.drop_succ_cons,List.drop_zero]
    . have hk:Dp k a=true:=by
       rcases Kt a k with c|c|c
       . exact absurd c h
       . exact absurd c e
       . exact c
      have hA: ∀z ∈ (a,x)::r,Dp k z.1=true:=by
       intro z hz;rcases List.mem_cons.1 hz with rfl|hz
       . exact hk
       . exact C0 hk (a1 z hz)
      have hh:Cb k ((a,x)::r)=false:=by
       cases c:Cb k ((a,x)::r)with
       |false=>rfl
       |true=>
        unfold Cb at c;simp only[Do,if_neg h,List.getElem?_cons_zero,Option.any_some]at c;exact absurd (Gq (by simpa using c)) e
      rw[(J5 hA).1,hh,if_neg (by simp)]
end Go.Proofs.YtkmcjfkokoidcaaGreatDoor
namespace Go.Proofs.YtkmcjfkokoidcaaGreatDoor
theorem Ah6 {k:ByteArray} (h:Zf k=true):A9 k=true:=by
 unfold Zf at h;simp only[Bool.and_eq_true]at h;exact h.2.2
theorem Fv {l:List A5} (ha:Ay l) (hm:As l=0):Au (ov l) 1=0:=by
 refine An9 (by omega) (Uf ha (fun m h=> ?_) (fun q e=>by cases e));obtain⟨h1,h2⟩:=Q6 hm m h;exact⟨Ah6 h1,Aky h2 (by omega)⟩
theorem Aej {a b:List A5} (ha:Ay a) (hb:Ay b) (ma:As a=0) (mb:As b=0):Am (ov a)=Am (ov b) ↔ En a b=true:=by
 constructor
 . intro e;have h:=Aly (Fv ha ma) (Fv hb mb) e;have:a=b:=by unfold ov at h;injection h
   rw[this];exact Gn b
 . intro e;rw[Ac4 (fun x hx=>(Q6 ma x hx).2) (fun x hx=>(Q6 mb x hx).2) e]
def Cv (v:Val):Int×List A5:=
 if Au v 1≠0 then(Au v 1, [])else match v with
  | .mk k _ _ _ _ o=>if k≠6 then(9, [])else if As o=0 then(0,o)else(As o, [])
theorem Aei {l:List A5} (ha:Ay l) (hm:As l=0):Cv (ov l)=(0,l):=by
 unfold Cv;rw[if_neg (by rw[Fv ha hm];decide)];simp only[ov];rw[if_neg (by decide),if_pos hm]
theorem P8 {v:Val} (h:(Cv v).1=0):v=ov (Cv v).2/\Ay (Cv v).2/\As (Cv v).2=0:=by
 obtain⟨k,b,n,t,l,o⟩:=v;unfold Cv at h ⊢;by_cases h1:Au (.mk k b n t l o) 1≠0
 . rw[if_pos h1]at h;exact absurd h h1
 rw[if_neg h1]at h ⊢;have hm:Au (.mk k b n t l o) 1=0:=Classical.byContradiction h1;simp only at h ⊢;by_cases h2:k≠6
 . rw[if_pos h2]at h;cases h
 rw[if_neg h2]at h ⊢;have hk:k=6:=Classical.byContradiction h2;subst hk;by_cases h3:As o=0
 . rw[if_pos h3];obtain⟨hodd,_,_,_,hO⟩:=Em hm;obtain⟨_,p1,p2,_⟩:=Fa hodd;obtain⟨p4,p5⟩:=Re hodd;refine⟨?_,(N5 hO).1,h3⟩;rw[p4.resolve_left (by decide),p5.resolve_left (by decide),p1.resolve_left (by decide),List.length_eq_zero_iff.1 (p2.resolve_left (by decide))];rfl
 . rw[if_neg h3]at h;exact absurd h h3
theorem W6 {l:List A5} (ha:Ay l) (hm:As l=0) (hi:J8 (ov l)):Fe (Am (ov l))=.ok (ov l) (Am (ov l)).length:=Afc (Fv ha hm) hi
theorem Agi {k:ByteArray} {l:List A5} (h:Cb k l=true):Do k l<l.length:=by
 unfold Cb at h;rcases Nat.lt_or_ge (Do k l) l.length with h1|h1
 . exact h1
 . rw[List.getElem?_eq_none h1]at h
   cases h
theorem Amo {k:ByteArray} {l:List A5} (h:Du k l=false):C1 k l=l:=(Nw fun e he c=>by
 have:Du k l=true:=List.any_eq_true.2 ⟨e,he,by simp[c]⟩;rw[h]at this;cases this).1
theorem Abr {k:ByteArray} {l:List A5} (ha:Ay l):Du k l=Cb k l:=by
 have h:=O5 (k:=k) ha;by_cases hh:Cb k l=true
 . rw[hh]at h ⊢;have hlt:=Agi hh;by_cases hc:Du k l=true
   . exact hc
   . have:=Amo (by simpa using hc:Du k l=false);rw[this,if_pos rfl]at h;have:=congrArg List.length h;rw[List.length_append,List.length_take,List.length_drop]at this;omega
 . have hf:Cb k l=false:=by simpa using hh
   rw[hf]at h ⊢;by_cases hc:Du k l=true
   . have:=Tr ha hc;rw[h,if_neg (by simp)]at this;omega
   . simpa using hc
theorem Aj4 {k:ByteArray} {l:List A5} (ha:Ay l) (h:Cb k l=true):C1 k l=l.take (Do k l)++l.drop (Do k l+1):=by rw[O5 ha,if_pos h]
theorem S8 (k:ByteArray) (l:List A5):(C1 k l).length<=l.length:=List.length_filter_le _ _
theorem L3 (k:ByteArray): ∀l:List A5,Ab (C1 k l)<=Ab l
 | []=>by simp[C1,Ab]
 |e::r=>by
  have ih:=L3 k r;unfold C1 at ih ⊢;rw[List.filter_cons]
  split
  . simp only[Ab];omega
  . simp only[Ab];omega
theorem Ab0 {h lo:Nat} {ks:List Nd} (k:ByteArray) (hlo:2<=lo) (hn:Co lo (h+1) (.inner ks)) (ha:Ay (Bg ks)):
 ∃x,ks[An ks k]? =some x/\ks.getD (An ks k) (.leaf [])=x/\Co 4 h x/\Ay (Bi x)/\(Bi x).length<=(Bg ks).length/\Ab (Bi x)<=Ab (Bg ks)/\
  ∀y,Jf h x k=some y->Co 3 h y/\Bg (ks.set (An ks k) y)=C1 k (Bg ks)/\(∀j z,j≠An ks k->ks[j]? =some z->Co 4 h z)/\
   (Bh y<4->Bg (G2 (ks.set (An ks k) y) (An ks k))=C1 k (Bg ks)/\(∀z ∈ G2 (ks.set (An ks k) y) (An ks k),Co 4 h z)/\1<=(G2 (ks.set (An ks k) y) (An ks k)).length/\(G2 (ks.set (An ks k) y) (An ks k)).length<=8)/\
   (¬Bh y<4-> ∀z ∈ ks.set (An ks k) y,Co 4 h z):=by
 simp only[Co]at hn;obtain⟨h2,h8,hk⟩:=hn;have hne:ks≠ []:=by intro e;rw[e]at h2;simp at h2;omega
 obtain⟨A,x,C,e,hA,hlow,hhi⟩:=H8 (k:=k) hne hk ha;have hx:Co 4 h x:=hk x (by rw[e];simp);have hax:Ay (Bi x):=by
  have ha':Ay (Bg ks):=ha;rw[e,Be]at ha';have:=(List.pairwise_append.1 ha').2.1;simp only[Bg]at this;exact(List.pairwise_append.1 this).1
 have eg:ks.getD (An ks k) (.leaf [])=x:=by rw[<-hA,e];simp
 have eq:ks[An ks k]? =some x:=by rw[<-hA,e];simp
 have hlen:ks.length=A.length+1+C.length:=by rw[e];simp;omega
 have hfl:Bg ks=Bg A++(Bi x++Bg C):=by rw[e,Be];simp[Bg]
 refine⟨x,eq,eg,hx,hax,by rw[hfl];simp;omega,by rw[hfl,Da,Da];omega,fun y hr=> ?_⟩;have ih:=Tf h (k:=k) (lo:=4) (by omega) (fun _=>by omega) hx hax;rw[hr]at ih;obtain⟨_,i2,i3⟩:=ih;have hy:Co 3 h y:=by
  rcases i3 with i3|⟨_,_,_,c⟩
  . exact i3.1
  . omega
 have es:ks.set (An ks k) y=A++y::C:=by rw[<-hA,e];simp
 have hkA: ∀z ∈ A,Co 4 h z:=fun z hz=>hk z (by rw[e];simp[hz]);have hkC: ∀z ∈ C,Co 4 h z:=fun z hz=>hk z (by rw[e];simp[hz]);have hset:Bg (ks.set (An ks k) y)=C1 k (Bg ks):=by
  rw[es,hfl,P4,P4,(S9 hlow).1,(J5 hhi).1,Be,<-i2];simp only[Bg]
 refine⟨hy,hset,fun j z _ hz=>hk z (List.mem_of_getElem? hz),fun h4=> ?_,fun h4 z hz=> ?_⟩
 . obtain⟨m1,m2,m3,m4⟩:=Agt hy (by have:=(Gf hy).1;omega) hkA hkC (by omega);rw[<-hset,es,<-hA];exact⟨m1,m2,by omega,by omega⟩
 . rw[es]at hz;rcases List.mem_append.1 hz with hz|hz
   . exact hkA z hz
   rcases List.mem_cons.1 hz with rfl|hz
   . exact Zp hy (by omega)
   . exact hkC z hz
end Go.Proofs.YtkmcjfkokoidcaaGreatDoor
namespace Go.Proofs.YtkmcjfkokoidcaaGreatDoor
open Go Go.RowKit
theorem Rm (w:World):(zeroValue 148).run Tryz.prog w=.ok .nilFunc w:=by kernel_rfl
theorem RdI.drewN {w0 w:World} {R g k:Nat} {s:ByteArray} (h:RdI w0 w R g s k) (n:Nat):RdI w0 (w.drewN n) R g s k:=⟨⟨h.below.os,h.below.tape,h.below.output,h.below.size,h.below.block⟩,h.ge,h.rd,h.map⟩
theorem Br.undrewN {w w1:World} {R g k:Nat} {s:ByteArray} {n:Nat} (h:Br R g s k (w.drewN n) w1):Br R g s k w w1:=⟨⟨h.1.os,h.1.tape,h.1.output,h.1.size,h.1.block⟩,h.2⟩
theorem Ao2 {R g q:Nat} {s:ByteArray} {w w1 w2:World} {v:Val} {cs:List Value} {j:Nat} (hR:R<w.heap.size) (h1:Br R g s j (w.alloc (.cells Bk 37)) w1) (h2:Br R g s q w1 w2) (hf:Ch w1.heap.size w2 (dV v) cs):
 Aj w2 w.heap.size 37 Bk/\Br R g s q w w2/\Ch w.heap.size w2 (dV v) cs:=
 ⟨(h1.res hR).grown h2.1 (by intro e;have:=Option.some.inj e;omega),h1.unAlloc.trans h2,fun w'' k1 k2=>hf w'' k1 (fun p p1 p2=>k2 p (by have:=h1.unAlloc.1.size;omega) p2)⟩
theorem Gr (n:Nat) (henter: ∀(args:Array Value) (w:World),(callFunc n args).run Tryz.prog w=.ok (.enter n args) w) (w0:World) (R g:Nat) (s:ByteArray) (w:World) (k:Nat) (d:Int) (c:UInt8) (RES:Rd Val) (h:RdI w0 w R g s k) (hs:s.size<=100000000) (hk:k<=s.size) (hd0:0<=d) (hd:d<=64)
 (hc:s.data.toList[Aq s.data.toList k]? =some c) (hfind:E8 (c.toNat:Int) (KV R)=some (.func (.func n) #[.pointer (some ⟨R,0,none⟩)] #[]))
 (hCall: ∀W,RdI w0 W R g s (Aq s.data.toList k)->Calls Tryz.prog n #[.pointer (some ⟨R,0,none⟩),.int .i64 d] W (Gv R g s W RES)):
 Calls Tryz.prog 85 #[.pointer (some ⟨R,0,none⟩),.int .i64 d] w (Gv R g s w RES):=by
 have hR:R<w.heap.size:=Aj.lt h.rd;have hI0:=h.later (Aa w (.cells Bk 37));have hS:=Gp R g s k (w.alloc (.cells Bk 37)) (by omega) hk hI0.rd;generalize Aq s.data.toList k=p at hS hc hCall;have hlt:p<s.size:=by have:=Cz hc;rwa [Al]at this
 have hx:s[p]=c:=by rw[Dx s hlt]at hc;exact Option.some.inj hc
 have hcl:=Dr c;have i0:(0:Int)<=(p:Int):=by omega
 have i1:(p:Int)<(s.size:Int):=by omega
 have e1:((p:Int)==(s.size:Int))=false:=by rw[beq_eq_false_iff_ne];omega
 have l64:decide (d>64)=false:=decide_eq_false (by omega);have l65:decide ((64:Int)<d)=false:=decide_eq_false (by omega);clear hc;obtain⟨HS,HCall,H,HI0,Hfind⟩:=hid5 hS hCall h hI0 hfind;clear hS hCall h hI0 hfind;go_enter Tryz.func85,Tryz.ntmps85;go_wp2_with (fail);(with_reducible refine(HS.out).mono ?_);rintro e w1 ⟨rfl,h1⟩;have hI1:=HI0.out.to h1;obtain⟨c0,c1,c2,f1,_⟩:=h1.2.cells;have hrun:=fun m=>Ln (w:=w1.drewN m) Dz Tryz.underlying149 hI1.map (c.toNat:Int) Rm true;rw[Hfind.out]at hrun;simp only[Option.getD_some,Option.isSome_some,if_true]at hrun;obtain⟨H1,HI1⟩:=hid2 h1 hI1;clear h1 hI1;go_wp2;go_quiet (fail);go_wp2;go_quiet (fail);go_wp2_with (fail);(with_reducible refine(HCall.out _ (HI1.out.drewN _)).mono ?_);rintro e w2 hp
 cases RES with
 |bad c' q=>
  obtain⟨rfl,hg⟩:=hp;exact⟨rfl,rfl,Ck H1.out.unAlloc.1 ⟨hg.os,hg.tape,hg.output,hg.size,hg.block⟩⟩
 |ok v q=>
  obtain⟨⟨cs,rfl,hf4⟩,h4⟩:=hp;obtain⟨kv,bv,nv,tv,lv,ov⟩:=v;obtain⟨la,lc,oa,oc,rfl⟩:=G7 hf4;obtain⟨hxr,hto,hff⟩:=Ao2 hR H1.out h4.undrewN hf4;obtain⟨r0,r1,r2,r3,r4,r5⟩:=Bp hxr;have fz:=hxr.frozen;have hlt4:=hxr.lt;have hxf:=((((((hxr.set_ 0 (.int .i64 kv)).set_ 1 (.bool bv)).set_ 2 (.int .i64 nv)).set_ 3 (.string tv)).set_ 4 (.slice la lv.length lc)).set_ 5 (.slice oa ov.length oc));have hto':=Br.many (Nat.le_refl _) hR [.int .i64 kv,.bool bv,.int .i64 nv,.string tv,.slice la lv.length lc,.slice oa ov.length oc] 0 hto;have hff':Ch w.heap.size (Ak w2 w.heap.size 0 [.int .i64 kv,.bool bv,.int .i64 nv,.string tv,.slice la lv.length lc,.slice oa ov.length oc]) (dV (.mk kv bv nv tv lv ov)) [.int .i64 kv,.bool bv,.int .i64 nv,.string tv,.slice la lv.length lc,.slice oa ov.length oc]:=by
   have hz:=H1.out.1.size;simp only[World.size_alloc]at hz;exact hf4.keep (b':=w.heap.size) (by show w.heap.size<=w1.heap.size;omega) (by rw[Ca];exact Nat.le_refl _) (fun p p1 _=>World.cell?_of_block (A0 _ _ _ _ _ (by have p1':w1.heap.size<=p.block:=p1;omega)))
  obtain⟨Hxr,Hto,Hff,Hxf,Hto',Hff'⟩:=hid6 hxr hto hff hxf hto' hff';clear hxr hto hff hxf hto' hff';clear h4 hf4;go_wp2;exact bodyPost_ret (Cy rfl rfl Hxf.out) rfl ⟨⟨_,rfl,Hff'.out⟩,Hto'.out⟩
theorem Ve (w0:World) (R g:Nat) (s:ByteArray) (w:World) (k:Nat) (d:Int) (h:RdI w0 w R g s k) (hs:s.size<=100000000) (hk:k<=s.size)
 (hc:s.data.toList[Aq s.data.toList k]? =none\/ ∃c,s.data.toList[Aq s.data.toList k]? =some c/\E8 (c.toNat:Int) (KV R)=none):
 Calls Tryz.prog 85 #[.pointer (some ⟨R,0,none⟩),.int .i64 d] w (Gv R g s w (.bad 4 (Aq s.data.toList k))):=by
 have hR:R<w.heap.size:=Aj.lt h.rd;have hI0:=h.later (Aa w (.cells Bk 37));have hS:=Gp R g s k (w.alloc (.cells Bk 37)) (by omega) hk hI0.rd;have hps:=Dv hk;generalize Aq s.data.toList k=p at hS hc hps ⊢;have i0:(0:Int)<=(p:Int):=by omega
 rcases hc with hc|⟨c,hc,hfind⟩
 . have hp:p=s.size:=by
    rw[List.getElem?_eq_none_iff,Al]at hc;omega
   subst hp;have e1:((s.size:Int)==(s.size:Int))=true:=by simp
   clear hc;obtain⟨HS,H,HI0⟩:=hid3 hS h hI0;clear hS h hI0;go_enter Tryz.func85,Tryz.ntmps85;go_wp2_with (fail);(with_reducible refine(HS.out).mono ?_);rintro e w1 ⟨rfl,h1⟩;obtain⟨c0,c1,c2,f1,_⟩:=h1.2.cells;have HW:=qz (fun m=>Cp (.pointer (some ⟨R,0,none⟩)) 4 (s.size:Nat) (w1.drewN m));have H1:=qz h1;clear h1;go_wp2;go_quiet (fail);go_wp2_with (fail);(with_reducible refine(HW.out _).mono ?_);rintro e w10 ⟨rfl,rfl⟩;exact⟨rfl,rfl,F8 H1.out.unAlloc.1 _⟩
 . have hlt:p<s.size:=by have:=Cz hc;rwa [Al]at this
   have hx:s[p]=c:=by rw[Dx s hlt]at hc;exact Option.some.inj hc
   have hcl:=Dr c;have i1:(p:Int)<(s.size:Int):=by omega
   have e1:((p:Int)==(s.size:Int))=false:=by rw[beq_eq_false_iff_ne];omega
   clear hc;obtain⟨HS,H,HI0,Hfind⟩:=hid4 hS h hI0 hfind;clear hS h hI0 hfind;go_enter Tryz.func85,Tryz.ntmps85;go_wp2_with (fail);(with_reducible refine(HS.out).mono ?_);rintro e w1 ⟨rfl,h1⟩;have hI1:=HI0.out.to h1;obtain⟨c0,c1,c2,f1,_⟩:=h1.2.cells;have hrun:=fun m=>Ln (w:=w1.drewN m) Dz Tryz.underlying149 hI1.map (c.toNat:Int) Rm true;rw[Hfind.out]at hrun;simp only[Option.getD_none,Option.isSome_none,if_true]at hrun;have HW:=qz (fun m=>Cp (.pointer (some ⟨R,0,none⟩)) 4 (p:Nat) (w1.drewN m));obtain⟨H1,HI1⟩:=hid2 h1 hI1;clear h1 hI1;go_wp2;go_quiet (fail);go_wp2;go_quiet (fail);go_wp2_with (fail);(with_reducible refine(HW.out _).mono ?_);rintro e w10 ⟨rfl,rfl⟩;exact⟨rfl,rfl,F8 H1.out.unAlloc.1 _⟩
theorem Afv (f:Value) (w0:World) (R g:Nat) (s:ByteArray) (w:World) (k:Nat) (d:Int) (c:UInt8) (h:RdI w0 w R g s k) (hs:s.size<=100000000) (hk:k<=s.size) (hd:64<d)
 (hc:s.data.toList[Aq s.data.toList k]? =some c) (hfind:E8 (c.toNat:Int) (KV R)=some f):
 Calls Tryz.prog 85 #[.pointer (some ⟨R,0,none⟩),.int .i64 d] w (Gv R g s w (.bad 5 (Aq s.data.toList k))):=by
 have hR:R<w.heap.size:=Aj.lt h.rd;have hI0:=h.later (Aa w (.cells Bk 37));have hS:=Gp R g s k (w.alloc (.cells Bk 37)) (by omega) hk hI0.rd;have hps:=Dv hk;generalize Aq s.data.toList k=p at hS hc hps ⊢;have i0:(0:Int)<=(p:Int):=by omega
 have hlt:p<s.size:=by have:=Cz hc;rwa [Al]at this
 have hx:s[p]=c:=by rw[Dx s hlt]at hc;exact Option.some.inj hc
 have hcl:=Dr c;have i1:(p:Int)<(s.size:Int):=by omega
 have e1:((p:Int)==(s.size:Int))=false:=by rw[beq_eq_false_iff_ne];omega
 have l65:decide ((64:Int)<d)=true:=decide_eq_true (by omega);clear hc;obtain⟨HS,H,HI0,Hfind⟩:=hid4 hS h hI0 hfind;clear hS h hI0 hfind;go_enter Tryz.func85,Tryz.ntmps85;go_wp2_with (fail);(with_reducible refine(HS.out).mono ?_);rintro e w1 ⟨rfl,h1⟩;have hI1:=HI0.out.to h1;obtain⟨c0,c1,c2,f1,_⟩:=h1.2.cells;have hrun:=fun m=>Ln (w:=w1.drewN m) Dz Tryz.underlying149 hI1.map (c.toNat:Int) Rm true;rw[Hfind.out]at hrun;simp only[Option.getD_some,Option.isSome_some,if_true]at hrun;have HW:=qz (fun m=>Cp (.pointer (some ⟨R,0,none⟩)) 5 (p:Nat) (w1.drewN m));obtain⟨H1,HI1⟩:=hid2 h1 hI1;clear h1 hI1;go_wp2;go_quiet (fail);go_wp2;go_quiet (fail);go_wp2_with (fail);(with_reducible refine(HW.out _).mono ?_);rintro e w10 ⟨rfl,rfl⟩;exact⟨rfl,rfl,F8 H1.out.unAlloc.1 _⟩
theorem Mv.below {w w':World} (h:Mv w) (hb:Below w.heap.size w w'):Mv w':=by
 obtain⟨te,pe,h⟩:=h;refine⟨te,pe, ?_⟩;rw[hb.cell (p:=⟨6,0,none⟩) ?_]
 . exact h
 . rcases Nat.lt_or_ge 6 w.heap.size with q|q
   . exact q
   . simp[World.cell?,Array.getElem?_eq_none q]at h
def Zg (c:UInt8):Nat:=if c=91 then 148 else if c=123 then 149 else if c=34 then 147 else if c=110 then 144 else if c=116 then 146 else if c=102 then 145 else 150
set_option maxRecDepth 10000 in
theorem Aet (R:Nat) {c:UInt8} (h:F3 c=false):E8 (c.toNat:Int) (KV R)=none:=by
 have e: ∀n:Nat,n<256->(c=UInt8.ofNat n ↔ c.toNat=n):=fun n hn=>⟨fun q=>by rw[q];simp[UInt8.toNat_ofNat',Nat.mod_eq_of_lt hn],fun q=>by subst q;simp⟩;unfold F3 Dy at h;simp only[Bool.or_eq_false_iff,beq_eq_false_iff_ne,ne_eq,decide_eq_false_iff_not]at h;obtain⟨⟨⟨⟨⟨⟨⟨h1,h2⟩,h3⟩,h4⟩,h5⟩,h6⟩,h7⟩,h8⟩:=h;have k2: ¬c.toNat=45:=fun q=>h2 ((e 45 (by decide)).2 q);have k3: ¬c.toNat=34:=fun q=>h3 ((e 34 (by decide)).2 q);have k4: ¬c.toNat=91:=fun q=>h4 ((e 91 (by decide)).2 q);have k5: ¬c.toNat=123:=fun q=>h5 ((e 123 (by decide)).2 q);have k6: ¬c.toNat=110:=fun q=>h6 ((e 110 (by decide)).2 q);have k7: ¬c.toNat=116:=fun q=>h7 ((e 116 (by decide)).2 q);have k8: ¬c.toNat=102:=fun q=>h8 ((e 102 (by decide)).2 q);simp only[KV]
 repeat (first|exact Bv (by omega) rfl|refine Bv (by omega) ?_)
set_option maxRecDepth 10000 in
theorem Aeu (R:Nat) {c:UInt8} (h:F3 c=true):E8 (c.toNat:Int) (KV R)=some (.func (.func (Zg c)) #[.pointer (some ⟨R,0,none⟩)] #[]):=by
 have hc:c=UInt8.ofNat c.toNat:=by simp
 have hn:c.toNat=45\/c.toNat=34\/c.toNat=91\/c.toNat=123\/c.toNat=110\/c.toNat=116\/c.toNat=102\/c.toNat=48\/c.toNat=49\/c.toNat=50\/c.toNat=51\/c.toNat=52\/c.toNat=53\/c.toNat=54\/c.toNat=55\/c.toNat=56\/c.toNat=57:=by
  unfold F3 Dy at h;simp only[Bool.or_eq_true,beq_iff_eq,decide_eq_true_eq]at h;rcases h with((((((h|h)|h)|h)|h)|h)|h)|h
  . omega
  all_goals(subst h;decide)
 rcases hn with q|q|q|q|q|q|q|q|q|q|q|q|q|q|q|q|q
 all_goals
  rw[q]at hc;subst hc;simp[KV,E8,Zg]
theorem Aeg: ∀(args:Array Value) (w:World),(callFunc 148 args).run Tryz.prog w=.ok (.enter 148 args) w:=enters_of Tryz.func148 (by kernel_rfl) rfl
theorem Y4: ∀(args:Array Value) (w:World),(callFunc 149 args).run Tryz.prog w=.ok (.enter 149 args) w:=enters_of Tryz.func149 (by kernel_rfl) rfl
theorem Y6: ∀(args:Array Value) (w:World),(callFunc 147 args).run Tryz.prog w=.ok (.enter 147 args) w:=enters_of Tryz.func147 (by kernel_rfl) rfl
theorem Aeh: ∀(args:Array Value) (w:World),(callFunc 144 args).run Tryz.prog w=.ok (.enter 144 args) w:=enters_of Tryz.func144 (by kernel_rfl) rfl
theorem Ahm: ∀(args:Array Value) (w:World),(callFunc 146 args).run Tryz.prog w=.ok (.enter 146 args) w:=enters_of Tryz.func146 (by kernel_rfl) rfl
theorem Aj8: ∀(args:Array Value) (w:World),(callFunc 145 args).run Tryz.prog w=.ok (.enter 145 args) w:=enters_of Tryz.func145 (by kernel_rfl) rfl
theorem Y0: ∀(args:Array Value) (w:World),(callFunc 150 args).run Tryz.prog w=.ok (.enter 150 args) w:=enters_of Tryz.func150 (by kernel_rfl) rfl
theorem Ai6 (w0:World) (hT0:Cm w0) (hN0:Mv w0) (R g:Nat) (s:ByteArray) (hs:s.size<=100000000): ∀f,Al9 w0 R g s f:=by
 intro f
 induction f using Nat.strongRecOn with
 |_ f ih=>
  intro w k d h hk hf hd0 hd;obtain⟨f,rfl⟩: ∃n,f=n+1:=⟨f - 1,by omega⟩;have hp:=Dv hk;have hp1:=C5 s.data.toList k;unfold Cc
  cases hc:s.data.toList[Aq s.data.toList k]? with
  |none=>exact Ve w0 R g s w k d h hs hk (.inl hc)
  |some c=>
   simp only;have hlt:Aq s.data.toList k<s.size:=by have:=Cz hc;rwa [Al]at this
   by_cases hst:F3 c=false
   . rw[if_pos hst];exact Ve w0 R g s w k d h hs hk (.inr ⟨c,hc,Aet R hst⟩)
   rw[if_neg hst];have hst':F3 c=true:=by simpa using hst
   have hkf:=Aeu R hst';by_cases hdp:64<d
   . rw[if_pos hdp];exact Afv _ w0 R g s w k d c h hs hk hdp hc hkf
   rw[if_neg hdp];have hd64:d<=64:=by omega
   have ih': ∀f',f'<f->Al9 w0 R g s f':=fun f' h'=>ih f' (by omega);have hT: ∀{W},RdI w0 W R g s (Aq s.data.toList k)->Cm W:=fun hW=>hT0.below hW.below;by_cases e1:c=91
   . subst e1;rw[if_pos rfl];exact Gr _ Aeg w0 R g s w k d 91 _ h hs hk hd0 hd64 hc hkf fun W hW=>Z0 w0 R g s f ih' W _ d hW hs hlt (by omega) hd0 hd64
   rw[if_neg e1];by_cases e2:c=123
   . subst e2;rw[if_pos rfl];exact Gr _ Y4 w0 R g s w k d 123 _ h hs hk hd0 hd64 hc hkf fun W hW=>Acz w0 hT0 R g s f ih' W _ d hW hs hlt (by omega) hd0 hd64
   rw[if_neg e2];by_cases e3:c=34
   . subst e3;rw[if_pos rfl];exact Gr _ Y6 w0 R g s w k d 34 _ h hs hk hd0 hd64 hc hkf fun W hW=>Zz R g s _ d W (hT hW) (by omega) hp hW.rd
   rw[if_neg e3];by_cases e4:c=110
   . subst e4;rw[if_pos rfl];exact Gr _ Aeh w0 R g s w k d 110 _ h hs hk hd0 hd64 hc hkf fun W hW=>Ae9 R g s _ d W (by omega) hp hW.rd
   rw[if_neg e4];by_cases e5:c=116
   . subst e5;rw[if_pos rfl];exact Gr _ Ahm w0 R g s w k d 116 _ h hs hk hd0 hd64 hc hkf fun W hW=>Aja R g s _ d W (by omega) hp hW.rd
   rw[if_neg e5];by_cases e6:c=102
   . subst e6;rw[if_pos rfl];exact Gr _ Aj8 w0 R g s w k d 102 _ h hs hk hd0 hd64 hc hkf fun W hW=>Ak1 R g s _ d W (by omega) hp hW.rd
   rw[if_neg e6];have ekn:Zg c=150:=by unfold Zg;rw[if_neg e1,if_neg e2,if_neg e3,if_neg e4,if_neg e5,if_neg e6]
   rw[ekn]at hkf;exact Gr _ Y0 w0 R g s w k d c _ h hs hk hd0 hd64 hc hkf fun W hW=>Acy R g s _ d W (fun W' hW'=>hN0.below (hW.below.grown hW' hW.below.size fun r e=>by have:=Option.some.inj e;have:=hW.ge;omega)) hs hlt hW.rd
structure P3 (w W:World) (a:Array Value) (vb vc:Value):Prop where
 below:Below w.heap.size w W
 blkA:Aj W w.heap.size 37 a
 blkB:Aj W (w.heap.size+1) 3 #[vb]
 blkC:Aj W (w.heap.size+2) 30 #[vc]
theorem P3.later {w W W':World} {a:Array Value} {vb vc:Value} (h:P3 w W a vb vc) (t:Below W.heap.size W W'):P3 w W' a vb vc:=
 ⟨h.below.trans (t.mono h.below.size),h.blkA.below t h.blkA.lt,h.blkB.below t h.blkB.lt,h.blkC.below t h.blkC.lt⟩
theorem P3.setB {w W:World} {a:Array Value} {vb vc:Value} (h:P3 w W a vb vc) (v:Value):P3 w (W.setCell ⟨w.heap.size+1,0,none⟩ v) a v vc:=
 ⟨h.below.setCell (by simp) v,h.blkA.far (by simp) v,h.blkB.set_ 0 v,h.blkC.far (by simp) v⟩
theorem P3.setC {w W:World} {a:Array Value} {vb vc:Value} (h:P3 w W a vb vc) (v:Value):P3 w (W.setCell ⟨w.heap.size+2,0,none⟩ v) a vb v:=
 ⟨h.below.setCell (by simp) v,h.blkA.far (by simp) v,h.blkB.far (by simp) v,h.blkC.set_ 0 v⟩
theorem P3.setA {w W:World} {b0 b1 b2 b3 b4 b5:Value} {vb vc:Value} (h:P3 w W #[b0,b1,b2,b3,b4,b5] vb vc) (a0 a1 a2 a3 a4 a5:Value):P3 w (Ak W w.heap.size 0 [a0,a1,a2,a3,a4,a5]) #[a0,a1,a2,a3,a4,a5] vb vc:=
 ⟨A4 _ h.below (Nat.le_refl _),((((((h.blkA.set_ 0 a0).set_ 1 a1).set_ 2 a2).set_ 3 a3).set_ 4 a4).set_ 5 a5),(A0 _ _ _ _ _ (by omega)).trans h.blkB,(A0 _ _ _ _ _ (by omega)).trans h.blkC⟩
def FS (W:World) (e q:Int) (X:World):Prop:=X.cell? ⟨W.heap.size,0,none⟩=some (.int .i64 e)/\X.cell? ⟨W.heap.size,1,none⟩=some (.int .i64 q)
theorem FS.new (W:World) (e q:Int):FS W e q (W.alloc (.cells #[.int .i64 e,.int .i64 q] 145)).drew:=
 ⟨(Aj.new W 145 #[.int .i64 e,.int .i64 q]).cell 0,(Aj.new W 145 #[.int .i64 e,.int .i64 q]).cell 1⟩
theorem FS.many {W X:World} {e q:Int} (h:FS W e q X) {g:Nat} (hg:g<W.heap.size) (vs:List Value) (o:Nat):FS W e q (Ak X g o vs):=
 ⟨(World.cell?_of_block (A0 vs X g o W.heap.size (by omega))).trans h.1,(World.cell?_of_block (A0 vs X g o W.heap.size (by omega))).trans h.2⟩
theorem FS.set {W X:World} {e q:Int} (h:FS W e q X) {g:Nat} (hg:g<W.heap.size) (v:Value):FS W e q (X.setCell ⟨g,0,none⟩ v):=FS.many h hg [v] 0
theorem P3.start {w W:World} {a:Array Value} {vb vc:Value} (h:P3 w W a vb vc) (o:Obj):P3 w (W.alloc o).drew a vb vc:=(h.later (Aa W o)).later (Below.drew (Below.refl _ _))
theorem Anf {P:Program} {c:Code} {Q:Exit->Act->World->Prop} {a:Act} {w:World} (h: ∀Q':Exit->Act->World->Prop,Hid (∀e a w,NoPanic Q e a w->Q' e a w)->(∀c a d v w,Q' (.panic c) (Act.put a d v) w->Q' (.panic c) a w)->Code.wp P c Q' a w):Code.wp P c Q a w:=
 Code.wp_mono NoPanic.imp (h (NoPanic Q) (qz fun _ _ _ h=>h) (fun _ _ _ _ _ h=>h))
theorem Yq (W:World) (v:Value):(Instr.typeAssert (.iface 145 v) 20 145 true).run Tryz.prog W=.ok (.tuple #[v,.bool true]) W:=by kernel_rfl
theorem Acp (p0 p1 p2:Addr) (w:World):
 CallsD Tryz.prog 83 #[.pointer (some p0),.pointer (some p1),.pointer (some p2)] .returning w fun e u' w'=>e=.returned (.tuple #[])/\u'=.returning/\w'=w:=by
 refine callsD_of_wpS Tryz.func83 rfl fun c₀ cs hu=> ?_;apply wpS_seq;apply wpS_region;simp[wpOpsS,go_sem,recoverD,hu,Tryz.ntmps83,Exit.thenS];refine wpS_of_wp ?_;go_wp2
 cases c₀
 simp_all[bodyPostS,results,Tryz.results83]
theorem R6 (w W:World) (b0 b1 b2 b3 b4 b5 vb vc:Value) (e q:Int) (h:P3 w W #[b0,b1,b2,b3,b4,b5] vb vc):
 CallsD Tryz.prog 83 #[.pointer (some ⟨w.heap.size,0,none⟩),.pointer (some ⟨w.heap.size+1,0,none⟩),.pointer (some ⟨w.heap.size+2,0,none⟩)] (.panicking [{v:=.iface 145 (.agg #[.int .i64 e,.int .i64 q]),recovered:=false}]) W fun e1 u' w'=>
  e1=.returned (.tuple #[])/\u'=.panicking [{v:=.iface 145 (.agg #[.int .i64 e,.int .i64 q]),recovered:=true}]/\P3 w w' Bk (.int .i64 q) (.int .i64 e):=by
 have hta:=fun w=>Yq w (.agg #[.int .i64 e,.int .i64 q]);have HP:=qz (h.later (Aa W (.cells #[.int .i64 e,.int .i64 q] 145)));have HS:=qz (Aj.new W 145 #[.int .i64 e,.int .i64 q]);have hg:=h.blkC.lt;have H:=qz h;clear h;refine callsD_of_wpS Tryz.func83 rfl fun c₀ cs hu=> ?_;apply wpS_seq;apply wpS_region;simp[wpOpsS,go_sem,recoverD,hu,Tryz.ntmps83,Exit.thenS];refine wpS_of_wp ?_;refine Anf fun Q' hn hp=> ?_;have hlay: ∀(b:Value),(#[.pointer (some ⟨w.heap.size,0,none⟩),.pointer (some ⟨w.heap.size+1,0,none⟩),.pointer (some ⟨w.heap.size+2,0,none⟩)]:Array Value)++((Array.replicate 14 undef).setIfInBounds 3 b)= #[.pointer (some ⟨w.heap.size,0,none⟩),.pointer (some ⟨w.heap.size+1,0,none⟩),.pointer (some ⟨w.heap.size+2,0,none⟩),undef,undef,undef,b,undef,undef,undef,undef,undef,undef,undef,undef,undef,undef]:=fun _=>rfl;simp only[hlay];clear hlay;go_wp2;clear hta H;generalize W.alloc (.cells #[.int .i64 e,.int .i64 q] 145)=wi at HP HS ⊢;generalize W.heap.size=g3 at HS hg ⊢;obtain⟨x0,x1,x2,x3,x4,x5⟩:=Bp HP.out.blkA;have fz:=HP.out.blkA.frozen;have y0:=HP.out.blkB.cell 0;have fy:=HP.out.blkB.frozen 0;have z0:=HP.out.blkC.cell 0;have fc:=HP.out.blkC.frozen 0;have s0:=HS.out.cell 0;have s1:=HS.out.cell 1;have k0:w.heap.size≠g3:=by omega
 have k1:w.heap.size+1≠g3:=by omega
 have k2:w.heap.size+2≠g3:=by omega
 simp only[List.getElem?_toArray,List.getElem?_cons_zero,List.getElem?_cons_succ]at y0 z0 s0 s1
 go_region_held3 (fun X=>X.cell? ⟨g3,0,none⟩=some (.int .i64 e)/\X.cell? ⟨g3,1,none⟩=some (.int .i64 q)) (go_keep) (fail)
 all_goals
  clear s0 s1 x0 x1 x2 x3 x4 x5 y0 z0 fz fy fc;have hfin:P3 w (((((((((wi.setCell ⟨w.heap.size,0,none⟩ (.int .i64 0)).setCell ⟨w.heap.size,1,none⟩ (.bool false)).setCell ⟨w.heap.size,2,none⟩ (.int .i64 0)).setCell ⟨w.heap.size,3,none⟩ (.string ⟨#[]⟩)).setCell ⟨w.heap.size,4,none⟩ (.slice none 0 0)).setCell ⟨w.heap.size,5,none⟩ (.slice none 0 0)).setCell ⟨w.heap.size+1,0,none⟩ (.int .i64 q)).setCell ⟨w.heap.size+2,0,none⟩ (.int .i64 e)).drew) Bk (.int .i64 q) (.int .i64 e):=
   (((HP.out.setA (.int .i64 0) (.bool false) (.int .i64 0) (.string ⟨#[]⟩) (.slice none 0 0) (.slice none 0 0)).setB (.int .i64 q)).setC (.int .i64 e)).later (Below.drew (Below.refl _ _))
  have Hfin:=qz hfin;clear hfin;go_wp2;refine hn.out _ _ _ ?_;clear hp hn
  cases c₀
  simp_all[bodyPostS,results,Tryz.results83,NoPanic];exact Hfin.out
theorem P3.grown {w W W':World} {a:Array Value} {vb vc:Value} {R:Nat} (h:P3 w W a vb vc) (t:W.grownBy W' (some R)) (hR:w.heap.size+3<=R):P3 w W' a vb vc:=
 ⟨h.below.grown t h.below.size (fun r e=>by have:=Option.some.inj e;omega),h.blkA.grown t (fun e=>by have:=Option.some.inj e;omega),h.blkB.grown t (fun e=>by have:=Option.some.inj e;omega),h.blkC.grown t (fun e=>by have:=Option.some.inj e;omega)⟩
theorem P3.new (w:World):P3 w (((w.alloc (.cells Bk 37)).alloc (.cells #[.int .i64 0] 3)).alloc (.cells #[.int .i64 0] 30)) Bk (.int .i64 0) (.int .i64 0):=
 ⟨((Aa w _).alloc (by simp) _).alloc (by simp;omega) _,((Aj.new w _ _).alloc _).alloc _,by simpa using(Aj.new (w.alloc (.cells Bk 37)) 3 #[.int .i64 0]).alloc (.cells #[.int .i64 0] 30),by simpa using Aj.new ((w.alloc (.cells Bk 37)).alloc (.cells #[.int .i64 0] 3)) 30 #[.int .i64 0]⟩
theorem Ahr {B:Nat} {w4 w6 w7:World} {R:Nat} {d:D} {cs:List Value} (hf:Ch w4.heap.size w6 d cs) (_h6:w4.heap.size<=w6.heap.size) (h7:w6.grownBy w7 (some R)) (hR:R<w4.heap.size) (hw:B+3<=w4.heap.size) (vs:List Value) (v1 v2:Value):
 Ch B (((Ak w7 B 0 vs).setCell ⟨B+1,0,none⟩ v1).setCell ⟨B+1+1,0,none⟩ v2).drew d cs:=by
 have z7:=h7.size;have e9:((((Ak w7 B 0 vs).setCell ⟨B+1,0,none⟩ v1).setCell ⟨B+1+1,0,none⟩ v2).drew).heap.size=w7.heap.size:=by
  have:=Ca vs w7 B 0;simpa[World.setCell]using this
 refine hf.keep (b':=B) (by omega) (by rw[e9];exact z7) (fun a p1 p2=>World.cell?_of_block ?_);rw[<-h7.block a.block p2 (by intro e;have:=Option.some.inj e;omega)];show(((Ak w7 B 0 vs).setCell ⟨B+1,0,none⟩ v1).setCell ⟨B+1+1,0,none⟩ v2).heap[a.block]? =_;exact(Below.heap_setCell _ _ _ _ (by simp;omega)).trans ((Below.heap_setCell _ _ _ _ (by simp;omega)).trans (A0 _ w7 B 0 a.block (by omega)))
theorem Acn (s:ByteArray) (w:World) (hT:Cm w) (hN:Mv w) (hs:s.size<=100000000):
 Calls Tryz.prog 48 #[.string s] w (Anr w (Fe s.data.toList)):=by
 have hmf: ∀(fn:Fn) (first cap:Array Value) (w:World),(Instr.makeFunc fn first cap).run Tryz.prog w=.ok (.func fn first cap) w:=fun _ _ _ _=>rfl;have hP0:=P3.new w;have hz3:(((w.alloc (.cells Bk 37)).alloc (.cells #[.int .i64 0] 3)).alloc (.cells #[.int .i64 0] 30)).heap.size=w.heap.size+3:=by simp
 obtain⟨w3,hw3⟩: ∃w3,((w.alloc (.cells Bk 37)).alloc (.cells #[.int .i64 0] 3)).alloc (.cells #[.int .i64 0] 30)=w3:=⟨_,rfl⟩;rw[hw3]at hP0 hz3;have hNR:=Sw s w3;have hV:=Ai6 w3 (hT.below hP0.below) (hN.below hP0.below) w3.heap.size (w3.heap.size+1) s hs (4*s.data.toList.length+4);obtain⟨R,hR⟩: ∃R,w3.heap.size=R:=⟨_,rfl⟩;rw[hR]at hNR hV;have hRw:w.heap.size+3<=R:=by omega
 clear hz3;have hwi:=(It (4*s.data.toList.length+4)).1 s.data.toList 0 1 (Nat.zero_le _);obtain⟨RES,hRES⟩: ∃r,Fe s.data.toList=r:=⟨_,rfl⟩;rw[hRES];unfold Fe at hRES;have hV0:=fun(w4:World) h=>hV w4 0 1 h (Nat.zero_le _) (by rw[Al];omega) (by omega) (by omega)
 cases hr:Cc (4*s.data.toList.length+4) s.data.toList 0 1 with
 |bad c q=>
  rw[hr]at hRES hV0;simp only at hRES;subst hRES;clear hV hr hwi;obtain⟨HP0,HV0,HNR⟩:=hid3 hP0 hV0 hNR;clear hP0 hV0 hNR
  go_enter_defers Tryz.func48,Tryz.ntmps48
  go_wp2_with (fail);(with_reducible refine(HNR.out).mono ?_);rintro e w4 ⟨rfl,hnr⟩;have HP4:=qz (HP0.out.later hnr.below);have hI4:RdI w3 w4 R (R+1) s 0:=⟨hnr.below,by omega,by have:=hnr.blk;rw[hR]at this;exact this,by have:=hnr.map;rw[hR]at this;exact this⟩;have HV4:=qz (HV0.out w4 hI4);have HI4:=qz hI4;clear hI4;clear hnr hw3;go_wp2_with (fail);(with_reducible refine(HV4.out).mono ?_);rintro e w5 ⟨rfl,hg5⟩;have hP5:=HP4.out.grown hg5 (by omega);simp only[L9];go_wp2;refine leaves_cons (f:=83) (args:= #[.pointer (some ⟨w.heap.size,0,none⟩),.pointer (some ⟨w.heap.size+1,0,none⟩),.pointer (some ⟨w.heap.size+2,0,none⟩)]) (by simp) (by simp[go_sem]) ?_;refine(R6 w w5 _ _ _ _ _ _ _ _ c (q:Nat) hP5).mono ?_;rintro e u' w6 ⟨rfl,rfl,hP6⟩;have d0:=hP6.blkA.cell 0;obtain⟨d0,d1,d2,d3,d4,d5⟩:=Bp hP6.blkA;have d6:=hP6.blkB.cell 0;have d7:=hP6.blkC.cell 0;simp[Leaves,settle,results,Tryz.results48,go_sem,d0,d1,d2,d3,d4,d5,d6,d7];exact⟨hP6.below,rfl⟩
 |ok v q=>
  rw[hr]at hRES hV0 hwi;simp only at hRES;obtain⟨hw1,hw2⟩:=hwi;rw[Al]at hw2;have hp:=Dv hw2;obtain⟨kv,bv,nv,tv,lv,ov⟩:=v;clear hV hr;obtain⟨HP0,HV0,HNR,HRES⟩:=hid4 hP0 hV0 hNR hRES;clear hP0 hV0 hNR hRES
  go_enter_defers Tryz.func48,Tryz.ntmps48
  go_wp2_with (fail);(with_reducible refine(HNR.out).mono ?_);rintro e w4 ⟨rfl,hnr⟩;have HP4:=qz (HP0.out.later hnr.below);have hI4:RdI w3 w4 R (R+1) s 0:=⟨hnr.below,by omega,by have:=hnr.blk;rw[hR]at this;exact this,by have:=hnr.map;rw[hR]at this;exact this⟩;have hV4:=HV0.out w4 hI4;have hRlt:R<w4.heap.size:=Aj.lt hI4.rd;have hz4:w.heap.size+3<=w4.heap.size:=by have:=hnr.below.size;omega
  obtain⟨HI4,HV4⟩:=hid2 hI4 hV4;clear hI4 hV4;clear hnr hw3 HNR HV0;go_wp2_with (fail);(with_reducible refine(HV4.out).mono ?_);rintro e w5 ⟨⟨cs,rfl,hf5⟩,h5⟩;obtain⟨la,lc,oa,oc,rfl⟩:=G7 hf5;have hP5:=HP4.out.grown h5.1 (by omega);have hz5:=h5.1.size;obtain⟨x0,x1,x2,x3,x4,x5⟩:=Bp hP5.blkA;have fx:=hP5.blkA.frozen;have lx:=hP5.blkA.lt;have hP6:P3 w ((((((w5.setCell ⟨w.heap.size,0,none⟩ (.int .i64 kv)).setCell ⟨w.heap.size,1,none⟩ (.bool bv)).setCell ⟨w.heap.size,2,none⟩ (.int .i64 nv)).setCell ⟨w.heap.size,3,none⟩ (.string tv)).setCell ⟨w.heap.size,4,none⟩ (.slice la lv.length lc)).setCell ⟨w.heap.size,5,none⟩ (.slice oa ov.length oc)) #[.int .i64 kv,.bool bv,.int .i64 nv,.string tv,.slice la lv.length lc,.slice oa ov.length oc] (.int .i64 0) (.int .i64 0):=hP5.setA (.int .i64 kv) (.bool bv) (.int .i64 nv) (.string tv) (.slice la lv.length lc) (.slice oa ov.length oc);have H6:Hid (Wk ((((((w5.setCell ⟨w.heap.size,0,none⟩ (.int .i64 kv)).setCell ⟨w.heap.size,1,none⟩ (.bool bv)).setCell ⟨w.heap.size,2,none⟩ (.int .i64 nv)).setCell ⟨w.heap.size,3,none⟩ (.string tv)).setCell ⟨w.heap.size,4,none⟩ (.slice la lv.length lc)).setCell ⟨w.heap.size,5,none⟩ (.slice oa ov.length oc)) R (R+1) s q):=(A0 [.int .i64 kv,.bool bv,.int .i64 nv,.string tv,.slice la lv.length lc,.slice oa ov.length oc] w5 w.heap.size 0 R (by omega)).trans h5.2;have Hf6:Hid (Ch w4.heap.size ((((((w5.setCell ⟨w.heap.size,0,none⟩ (.int .i64 kv)).setCell ⟨w.heap.size,1,none⟩ (.bool bv)).setCell ⟨w.heap.size,2,none⟩ (.int .i64 nv)).setCell ⟨w.heap.size,3,none⟩ (.string tv)).setCell ⟨w.heap.size,4,none⟩ (.slice la lv.length lc)).setCell ⟨w.heap.size,5,none⟩ (.slice oa ov.length oc)) (dV (.mk kv bv nv tv lv ov)) [.int .i64 kv,.bool bv,.int .i64 nv,.string tv,.slice la lv.length lc,.slice oa ov.length oc]):=hf5.keep (b':=w4.heap.size) (Nat.le_refl _) (by rw[show((((((w5.setCell ⟨w.heap.size,0,none⟩ (.int .i64 kv)).setCell ⟨w.heap.size,1,none⟩ (.bool bv)).setCell ⟨w.heap.size,2,none⟩ (.int .i64 nv)).setCell ⟨w.heap.size,3,none⟩ (.string tv)).setCell ⟨w.heap.size,4,none⟩ (.slice la lv.length lc)).setCell ⟨w.heap.size,5,none⟩ (.slice oa ov.length oc))=Ak w5 w.heap.size 0 [.int .i64 kv,.bool bv,.int .i64 nv,.string tv,.slice la lv.length lc,.slice oa ov.length oc]from rfl,Ca];exact Nat.le_refl _) (fun p p1 _=>World.cell?_of_block (A0 [.int .i64 kv,.bool bv,.int .i64 nv,.string tv,.slice la lv.length lc,.slice oa ov.length oc] w5 w.heap.size 0 p.block (by omega)));obtain⟨HP5,HP6⟩:=hid2 hP5 hP6;clear hP5 hP6;clear h5 hf5;have Hz6:Hid (w4.heap.size<=((((((w5.setCell ⟨w.heap.size,0,none⟩ (.int .i64 kv)).setCell ⟨w.heap.size,1,none⟩ (.bool bv)).setCell ⟨w.heap.size,2,none⟩ (.int .i64 nv)).setCell ⟨w.heap.size,3,none⟩ (.string tv)).setCell ⟨w.heap.size,4,none⟩ (.slice la lv.length lc)).setCell ⟨w.heap.size,5,none⟩ (.slice oa ov.length oc)).heap.size):=by show _<=_;simpa[World.setCell]using hz5
  go_wp2_with (fail);generalize ((((((w5.setCell ⟨w.heap.size,0,none⟩ (.int .i64 kv)).setCell ⟨w.heap.size,1,none⟩ (.bool bv)).setCell ⟨w.heap.size,2,none⟩ (.int .i64 nv)).setCell ⟨w.heap.size,3,none⟩ (.string tv)).setCell ⟨w.heap.size,4,none⟩ (.slice la lv.length lc)).setCell ⟨w.heap.size,5,none⟩ (.slice oa ov.length oc))=w6 at HP6 H6 Hf6 Hz6 ⊢;clear x0 x1 x2 x3 x4 x5 fx lx HP5 HP4 HI4;have hS:=Gp R (R+1) s q w6 (by omega) hw2 H6.out;have hRES:=HRES.out;generalize Aq s.data.toList q=p at hS hp hRES;(with_reducible refine hS.mono ?_);rintro e w7 ⟨rfl,h7⟩;have hP7:=HP6.out.grown h7.1 (by omega);obtain⟨c0,c1,_,_,_⟩:=h7.2.cells;clear hS;by_cases hlt:p<s.size
  . rw[if_pos (by rw[Al];exact hlt)]at hRES;subst hRES;have e1:decide ((p:Int)<(s.size:Int))=true:=decide_eq_true (by omega);have e2:(p:Int)<(s.size:Int):=by omega
    have HW:=qz (Cp (.pointer (some ⟨R,0,none⟩)) 4 (p:Nat) w7);obtain⟨HP7,H7⟩:=hid2 hP7 h7;clear hP7 h7;go_wp2_with (fail);(with_reducible refine(HW.out).mono ?_);rintro e w8 ⟨rfl,rfl⟩;simp only[L9];go_wp2;refine leaves_cons (f:=83) (args:= #[.pointer (some ⟨w.heap.size,0,none⟩),.pointer (some ⟨w.heap.size+1,0,none⟩),.pointer (some ⟨w.heap.size+2,0,none⟩)]) (by simp) (by simp[go_sem]) ?_;refine(R6 w w8 _ _ _ _ _ _ _ _ 4 (p:Nat) HP7.out).mono ?_;rintro e u' w9 ⟨rfl,rfl,hP9⟩;obtain⟨d0,d1,d2,d3,d4,d5⟩:=Bp hP9.blkA;have d6:=hP9.blkB.cell 0;have d7:=hP9.blkC.cell 0;simp[Leaves,settle,results,Tryz.results48,go_sem,d0,d1,d2,d3,d4,d5,d6,d7];exact⟨hP9.below,rfl⟩
  . rw[if_neg (by rw[Al];exact hlt)]at hRES;subst hRES;have e1:decide ((p:Int)<(s.size:Int))=false:=decide_eq_false (by omega);have e2: ¬((p:Int)<(s.size:Int)):=by omega
    obtain⟨x0,x1,x2,x3,x4,x5⟩:=Bp hP7.blkA;have fx:=hP7.blkA.frozen;have lx:=hP7.blkA.lt;have y0:=hP7.blkB.cell 0;have fy:=hP7.blkB.frozen 0;have z0:=hP7.blkC.cell 0;have fc:=hP7.blkC.frozen 0;have n0:w.heap.size≠R:=by omega
    have n1:w.heap.size+1≠R:=by omega
    have n2:w.heap.size+2≠R:=by omega
    have n3:w.heap.size+1+1≠R:=by omega
    have n4:w.heap.size+1+1≠w.heap.size:=by omega
    have n5:w.heap.size+1≠w.heap.size:=by omega
    simp only[List.getElem?_toArray,List.getElem?_cons_zero]at y0 z0;have hA7:Aj ((((((w7.setCell ⟨w.heap.size,0,none⟩ (.int .i64 kv)).setCell ⟨w.heap.size,1,none⟩ (.bool bv)).setCell ⟨w.heap.size,2,none⟩ (.int .i64 nv)).setCell ⟨w.heap.size,3,none⟩ (.string tv)).setCell ⟨w.heap.size,4,none⟩ (.slice la lv.length lc)).setCell ⟨w.heap.size,5,none⟩ (.slice oa ov.length oc)) w.heap.size 37 #[.int .i64 kv,.bool bv,.int .i64 nv,.string tv,.slice la lv.length lc,.slice oa ov.length oc]:=(hP7.setA (.int .i64 kv) (.bool bv) (.int .i64 nv) (.string tv) (.slice la lv.length lc) (.slice oa ov.length oc)).blkA;obtain⟨q0,q1,q2,q3,q4,q5⟩:=Bp hA7;obtain⟨HP7,H7,HA7⟩:=hid3 hP7 h7 hA7;clear hP7 h7 hA7;go_wp2
    go_region_held3 (fun X=>X.cell? ⟨R,0,none⟩=some (.string s)/\X.cell? ⟨R,1,none⟩=some (.int .i64 (p:Nat))/\X.cell? ⟨w.heap.size,0,none⟩=some (.int .i64 kv)/\X.cell? ⟨w.heap.size,1,none⟩=some (.bool bv)/\X.cell? ⟨w.heap.size,2,none⟩=some (.int .i64 nv)/\X.cell? ⟨w.heap.size,3,none⟩=some (.string tv)/\X.cell? ⟨w.heap.size,4,none⟩=some (.slice la lv.length lc)/\X.cell? ⟨w.heap.size,5,none⟩=some (.slice oa ov.length oc)) (go_keep) (fail)
    all_goals
     have HP9:Hid (P3 w (((((((((w7.setCell ⟨w.heap.size,0,none⟩ (.int .i64 kv)).setCell ⟨w.heap.size,1,none⟩ (.bool bv)).setCell ⟨w.heap.size,2,none⟩ (.int .i64 nv)).setCell ⟨w.heap.size,3,none⟩ (.string tv)).setCell ⟨w.heap.size,4,none⟩ (.slice la lv.length lc)).setCell ⟨w.heap.size,5,none⟩ (.slice oa ov.length oc)).setCell ⟨w.heap.size+1,0,none⟩ (.int .i64 (p:Nat))).setCell ⟨w.heap.size+1+1,0,none⟩ (.int .i64 0)).drew) #[.int .i64 kv,.bool bv,.int .i64 nv,.string tv,.slice la lv.length lc,.slice oa ov.length oc] (.int .i64 (p:Nat)) (.int .i64 0)):=(((HP7.out.setA (.int .i64 kv) (.bool bv) (.int .i64 nv) (.string tv) (.slice la lv.length lc) (.slice oa ov.length oc)).setB (.int .i64 (p:Nat))).setC (.int .i64 0)).later (Below.drew (Below.refl _ _));have Hf9:Hid (Ch w.heap.size (((((((((w7.setCell ⟨w.heap.size,0,none⟩ (.int .i64 kv)).setCell ⟨w.heap.size,1,none⟩ (.bool bv)).setCell ⟨w.heap.size,2,none⟩ (.int .i64 nv)).setCell ⟨w.heap.size,3,none⟩ (.string tv)).setCell ⟨w.heap.size,4,none⟩ (.slice la lv.length lc)).setCell ⟨w.heap.size,5,none⟩ (.slice oa ov.length oc)).setCell ⟨w.heap.size+1,0,none⟩ (.int .i64 (p:Nat))).setCell ⟨w.heap.size+1+1,0,none⟩ (.int .i64 0)).drew) (dV (.mk kv bv nv tv lv ov)) [.int .i64 kv,.bool bv,.int .i64 nv,.string tv,.slice la lv.length lc,.slice oa ov.length oc]):=Ahr Hf6.out Hz6.out H7.out.1 hRlt (by omega) [.int .i64 kv,.bool bv,.int .i64 nv,.string tv,.slice la lv.length lc,.slice oa ov.length oc] _ _;clear q0 q1 q2 q3 q4 q5 x0 x1 x2 x3 x4 x5 y0 z0 fx fy fc;go_wp2;refine leaves_cons (f:=83) (args:= #[.pointer (some ⟨w.heap.size,0,none⟩),.pointer (some ⟨w.heap.size+1,0,none⟩),.pointer (some ⟨w.heap.size+2,0,none⟩)]) (by simp) (by simp[go_sem]) ?_;refine(Acp _ _ _ _).mono ?_;rintro e u' w9 ⟨rfl,rfl,rfl⟩;obtain⟨d0,d1,d2,d3,d4,d5⟩:=Bp HP9.out.blkA;have d6:=HP9.out.blkB.cell 0;have d7:=HP9.out.blkC.cell 0;simp only[List.getElem?_toArray,List.getElem?_cons_zero]at d6 d7;generalize (((((((((w7.setCell ⟨w.heap.size,0,none⟩ (.int .i64 kv)).setCell ⟨w.heap.size,1,none⟩ (.bool bv)).setCell ⟨w.heap.size,2,none⟩ (.int .i64 nv)).setCell ⟨w.heap.size,3,none⟩ (.string tv)).setCell ⟨w.heap.size,4,none⟩ (.slice la lv.length lc)).setCell ⟨w.heap.size,5,none⟩ (.slice oa ov.length oc)).setCell ⟨w.heap.size+1,0,none⟩ (.int .i64 (p:Nat))).setCell ⟨w.heap.size+1+1,0,none⟩ (.int .i64 0)).drew)=w9 at HP9 Hf9 d0 d1 d2 d3 d4 d5 d6 d7 ⊢;simp[Leaves,settle,results,Tryz.results48,go_sem,d0,d1,d2,d3,d4,d5,d6,d7];exact⟨HP9.out.below,_,rfl,Hf9.out⟩
theorem Xq {s:List UInt8} {c:Int} {q:Nat} (h:Fe s=.bad c q):1<=c:=by
 unfold Fe at h;have hw:=(It (4*s.length+4)).1 s 0 1 (Nat.zero_le _)
 cases hr:Cc (4*s.length+4) s 0 1 with
 |bad e p=>rw[hr]at h hw;simp only[Rd.bad.injEq]at h;have:=hw.2.2.1;omega
 |ok v p=>
  rw[hr]at h;simp only at h
  split at h
  . simp only[Rd.bad.injEq]at h;omega
  . cases h
end Go.Proofs.YtkmcjfkokoidcaaGreatDoor
