/- Parts: The reference's keys and its zero value. Condition: a bulk of at most 10^8. -/
import Derived.Test.YtmglfdckpjegdaaGreatDoorKMu17
import Derived.Test.YtmglfdckpjegdaaGreatDoorKMu18
import Derived.Test.YtmglfdckpjegdaaGreatDoorKMu20
set_option maxHeartbeats 20000000
namespace Go.Proofs.YtmglfdckpjegdaaGreatDoor
open Go.RowKit
theorem Nb: ∀{l:List (ByteArray×Val)} {last:Option ByteArray} {d:Int},Ds l last d=0->J5 l/\ ∀q,last=some q-> ∀m ∈ l,N4 q m.1=true
 | [],_,_,_=>⟨List.Pairwise.nil,fun q _ m hm=>by cases hm⟩
 |(k,v)::r,last,d,h=>by
  simp only[Ds]at h;by_cases hP:Qr (k,v) last d=0
  . rw[if_pos hP]at h;obtain⟨h1,h2⟩:=Nb h;refine⟨List.pairwise_cons.2 ⟨fun m hm=>h2 k rfl m hm,h1⟩,fun q hq m hm=> ?_⟩;subst hq;have hqk:N4 q k=true:=by
     simp only[Qr]at hP
     split at hP
     . split at hP
       . cases hP
       . rename_i hle;unfold Vn at hle;simp only[Bool.or_eq_true,not_or]at hle;rcases Up q k with t|t|t
         . exact t
         . subst t;exact absurd (by simp) hle.2
         . exact absurd t hle.1
     . cases hP
    rcases List.mem_cons.1 hm with rfl|hm
    . exact hqk
    . exact Kh hqk (h2 k rfl m hm)
  . rw[if_neg hP]at h;exact absurd h hP
theorem Wt: ∀(l:List Val),Br l true=Eh (l.map Ak)
 | []=>rfl
 | [v]=>by simp[Br,Eh]
 |v::u::r=>by
  have ih:=Wt (u::r);simp only[Br,if_true,List.nil_append,List.map_cons,Eh]at ih ⊢;rw[<-ih];simp
theorem Wu: ∀(l:List (ByteArray×Val)),By l true=Eh (l.map J1)
 | []=>rfl
 | [v]=>by simp[By,Eh]
 |v::u::r=>by
  have ih:=Wu (u::r);simp only[By,if_true,List.nil_append,List.map_cons,Eh]at ih ⊢;rw[<-ih];simp
def Y0 (m:ByteArray×Val):Mem:=⟨[], [],Ak m.2,m.1,m.2⟩
theorem Af6 (m:ByteArray×Val):(Y0 m).text=J1 m:=by
 obtain⟨k,v⟩:=m;simp[Y0,Mem.text,J1]
theorem Vr (l:List (ByteArray×Val)):(l.map Y0).map Mem.pair=l:=by
 rw[List.map_map]
 conv=>rhs;rw[<-List.map_id l]
 exact List.map_congr_left fun x _=>rfl
theorem Adf (l:List (ByteArray×Val)):(l.map Y0).map Mem.text=l.map J1:=by
 rw[List.map_map];exact List.map_congr_left fun x _=>Af6 x
theorem Agy {l:List (ByteArray×Val)} (h:J5 l):J0 l=l:=by
 unfold J0;rw[Xn (List.Perm.refl l) h];rfl
theorem Nq:Ol []:=fun c h=>by cases h
theorem Ajn: ∀(v:Val) (d:Int),Az v d=0->Jg v->Ir (Ak v) v d:=by
 refine Val.ind ?_;intro k b n t l o hl ho d h hi;obtain⟨h1,hd,hv,h4,h5⟩:=Bv h;obtain⟨hk,ht,hln,hon⟩:=Ii h1;obtain⟨hb,hn⟩:=Ard h1;simp only[Jg]at hi;have e1:k≠5->l= []:=fun e=>List.eq_nil_of_length_eq_zero (hln.resolve_left e);have e2:k≠6->o= []:=fun e=>List.eq_nil_of_length_eq_zero (hon.resolve_left e);have e3:k≠4->t=Gx:=fun e=>ht.resolve_left e;have e4:k≠2->b=false:=fun e=>hb.resolve_left e;have e5:k≠3->n=0:=fun e=>hn.resolve_left e;rcases hk with rfl|rfl|rfl|rfl|rfl|rfl
 . rw[e1 (by decide),e2 (by decide),e3 (by decide),e4 (by decide),e5 (by decide)];have e:Ak (.mk 1 false 0 Gx [] [])= [110,117,108,108]:=by simp[Ak]
   rw[e];exact Ajm hd
 . rw[e1 (by decide),e2 (by decide),e3 (by decide),e5 (by decide)]
   cases b
   . exact Ago hd
   . exact Ajo hd
 . rw[e1 (by decide),e2 (by decide),e3 (by decide),e4 (by decide)];have e:Ak (.mk 3 false n Gx [] [])=Lib.itoa n:=by simp[Ak]
   rw[e];exact Amu hi.1 hd
 . rw[e1 (by decide),e2 (by decide),e4 (by decide),e5 (by decide)];have e:Ak (.mk 4 false 0 t [] [])=Bp t:=by simp[Ak]
   rw[e];exact Amw hv hd
 . rw[e2 (by decide),e3 (by decide),e4 (by decide),e5 (by decide)];have e:Ak (.mk 5 false 0 Gx l [])=91::([]++Eh ((l.map fun v=>(Ak v,v)).map (·.1))++ [93]):=by
    simp only[Ak,Wt,List.map_map,List.nil_append];rfl
   rw[e];have key:=Ajl hd (l:=l.map fun v=>(Ak v,v)) (fun y hy=>by
    obtain⟨v,hv,rfl⟩:=List.mem_map.1 hy;exact hl v hv (d+1) (Ha h4 v hv) (Ahn hi.2.1 hv)) Nq (fun _=>rfl)
   have e6:(l.map fun v=>(Ak v,v)).map (·.2)=l:=by
    rw[List.map_map]
    conv=>rhs;rw[<-List.map_id l]
    exact List.map_congr_left fun x _=>rfl
   rw[e6]at key;exact key
 . rw[e1 (by decide),e3 (by decide),e4 (by decide),e5 (by decide)];have hr:=(Nb h5).1;have e:Ak (.mk 6 false 0 Gx [] o)=123::([]++Eh ((o.map Y0).map Mem.text)++ [125]):=by
    rw[Adf,<-Wu];simp[Ak]
   rw[e];have key:=Amv hd (l:=o.map Y0) (fun m hm=>by
    obtain⟨x,hx,rfl⟩:=List.mem_map.1 hm;obtain⟨k1,k2⟩:=Jr h5 x hx;exact⟨Nq,Nq,k1,ho x hx (d+1) k2 (Uo hi.2.2 hx)⟩) (by rw[Vr];exact Abv hr) Nq (fun _=>rfl)
   rw[Vr,Agy hr]at key;exact key
theorem Adu {t:List UInt8} {v:Val} (h:Ir t v 1):Fd t=.ok v t.length:=by
 obtain⟨q,h1,h2⟩:=h (4*t.length+4) t 0 [] (Nat.zero_le _) (by simp) Il.nil (by omega);unfold Fd;rw[h1];simp only;rw[h2,Nat.zero_add,Wa (Nat.le_refl _),if_neg (by omega)]
theorem Agf {v:Val} (h:Az v 1=0) (hi:Jg v):Fd (Ak v)=.ok v (Ak v).length:=Adu (Ajn v 1 h hi)
abbrev Cp:ByteArray:=⟨#[]⟩
abbrev Ar:ByteArray:=⟨#[107,101,121]⟩
abbrev Fb:ByteArray:=⟨#[118,97,108,117,101]⟩
def tv (s:ByteArray):Val:=.mk 4 false 0 s [] []
def iv (n:Int):Val:=.mk 3 false n Cp [] []
def lv (l:List Val):Val:=.mk 5 false 0 Cp l []
def ov (o:List (ByteArray×Val)):Val:=.mk 6 false 0 Cp [] o
theorem Qt:Aw Cp=true:=by decide
theorem Ap8 (s:ByteArray):Fy 4 false 0 s 0 0=false:=by simp[Fy]
theorem Ap5 (n:Int):Fy 3 false n Cp 0 0=false:=by simp[Fy,Lib.toList_data]
theorem Ap6 (n:Nat):Fy 5 false 0 Cp n 0=false:=by simp[Fy,Lib.toList_data]
theorem Ap7 (n:Nat):Fy 6 false 0 Cp 0 n=false:=by simp[Fy,Lib.toList_data]
theorem Aaz {k:Int} {b:Bool} {n:Int} {t:ByteArray} {l:List Val} {o:List (ByteArray×Val)} {d:Int} (h1:Fy k b n t l.length o.length=false) (h2:d<=64) (h3:Aw t=true) (h4:Df l (d+1)=0) (h5:Ds o none (d+1)=0):Az (.mk k b n t l o) d=0:=by
 simp only[Az];rw[if_neg (by rw[h1];simp),if_neg (by omega),if_pos h3,if_pos h4];exact h5
theorem Qs {s:ByteArray} {d:Int} (h:Aw s=true) (hd:d<=64):Az (tv s) d=0:=Aaz (Ap8 s) hd h (by simp[Df]) (by simp[Ds])
theorem Ap3 {n d:Int} (hd:d<=64):Az (iv n) d=0:=Aaz (Ap5 n) hd Qt (by simp[Df]) (by simp[Ds])
theorem Ap4 {l:List Val} {d:Int} (hd:d<=64) (h:Df l (d+1)=0):Az (lv l) d=0:=Aaz (Ap6 _) hd Qt h (by simp[Ds])
theorem Af4 {o:List (ByteArray×Val)} {d:Int} (hd:d<=64) (h:Ds o none (d+1)=0):Az (ov o) d=0:=Aaz (Ap7 _) hd Qt (by simp[Df]) h
theorem Ei {key:ByteArray} {v:Val} {r:List (ByteArray×Val)} {d:Int} (hk:Aw key=true) (hv:Az v d=0) {last:Option ByteArray} (hl: ∀q,last=some q->Vn key q=false) (hr:Ds r (some key) d=0):Ds ((key,v)::r) last d=0:=by
 have h1:Qr (key,v) last d=0:=by
  simp only[Qr];rw[if_pos hk]
  cases last with
  |none=>exact hv
  |some q=>
   simp only;rw[if_neg (by rw[hl q rfl];simp)];exact hv
 simp only[Ds];rw[if_pos h1];exact hr
theorem L1 {k:ByteArray} (h:Alt k=true):Aw k=true:=by
 unfold Alt at h;simp only[Bool.and_eq_true]at h;exact h.2.2
theorem Nz {v:Val} (h:Eg v=0):Az v 1=0/\F7 v<=16/\(Ak v).length<=1024:=by
 unfold Eg at h;by_cases h1:Az v 1=0
 . rw[if_pos h1]at h;by_cases h2:16<F7 v
   . rw[if_pos h2]at h;cases h
   rw[if_neg h2]at h;by_cases h3:1024<(Ak v).length
   . rw[if_pos h3]at h;cases h
   exact⟨h1,by omega,by omega⟩
 . rw[if_neg h1]at h;exact absurd h h1
theorem Al0 {l:List Val} {d:Int} (h: ∀v ∈ l,Az v d=0):Df l d=0:=by
 induction l with
 |nil=>simp[Df]
 |cons v r ih=>
  simp only[Df];rw[if_pos (h v (by simp))];exact ih fun x hx=>h x (by simp[hx])
theorem Bq {w:World} {B:Nat} {k:Int} {key dst:ByteArray} {n:Int} {had:Bool} {k1:Int} {b1:Bool} {n1:Int} {t1:ByteArray} {l1:List Val} {o1:List (ByteArray×Val)} {has:Bool} {k2:Int} {b2:Bool} {n2:Int} {t2:ByteArray} {l2:List Val} {o2:List (ByteArray×Val)} {l:List Mut} {cs:List Value} (h:Holds w B (dM (Mut.mk k key dst n had (.mk k1 b1 n1 t1 l1 o1) has (.mk k2 b2 n2 t2 l2 o2) l)) cs):
 ∃la1 lc1 oa1 oc1 la2 lc2 oa2 oc2 a c,cs= [.int .i64 k,.string key,.string dst,.int .i64 n,.bool had,.int .i64 k1,.bool b1,.int .i64 n1,.string t1,.slice la1 l1.length lc1,.slice oa1 o1.length oc1,.bool has,.int .i64 k2,.bool b2,.int .i64 n2,.string t2,.slice la2 l2.length lc2,.slice oa2 o2.length oc2,.slice a l.length c]/\Ab w B (.mk k1 b1 n1 t1 l1 o1) [.int .i64 k1,.bool b1,.int .i64 n1,.string t1,.slice la1 l1.length lc1,.slice oa1 o1.length oc1]/\Ab w B (.mk k2 b2 n2 t2 l2 o2) [.int .i64 k2,.bool b2,.int .i64 n2,.string t2,.slice la2 l2.length lc2,.slice oa2 o2.length oc2]/\Holds w B (.row 19 (Gw l)) [.slice a l.length c]:=by
 simp only[dM,Holds]at h;obtain⟨_,_,rfl,⟨rfl,_⟩,_,_,rfl,⟨rfl,_⟩,_,_,rfl,⟨rfl,_⟩,_,_,rfl,⟨rfl,_⟩,_,_,rfl,⟨rfl,_⟩,x1,_,rfl,h1,_,_,rfl,⟨rfl,_⟩,x2,_,rfl,h2,x3,_,rfl,h3,rfl⟩:=h;have g1:=B8 _ _ h1;have g2:=B8 _ _ h2;have e1:=g1;have e2:=g2;simp only[Ab]at e1 e2;obtain⟨la1,lc1,oa1,oc1,rfl,_,_⟩:=e1;obtain⟨la2,lc2,oa2,oc2,rfl,_,_⟩:=e2;obtain⟨a,c,rfl,hs,hr⟩:=h3;rw[Po];exact⟨la1,lc1,oa1,oc1,la2,lc2,oa2,oc2,a,c,rfl,g1,g2,a,c,by rw[Po],hs,hr⟩
theorem Ki {w:World} {B n c:Nat} {l:List Mut} {a:Option Addr} (h:Holds w B (.row 19 (Gw l)) [.slice a n c]) {q:Nat} {m:Mut} (hi:l[q]? =some m):
 ∃g off,a=some ⟨g,off,none⟩/\g<B/\ ∃cs,Holds w B (dM m) cs/\cs.length=19/\ ∀j u,cs[j]? =some u->w.cell? ⟨g,off+q*19+j,none⟩=some u:=
 h.at_ (i:=q) (d:=dM m) (by rw[Nu,List.getElem?_map,hi];rfl)
theorem Rq {w:World} {g:Nat} {t:TypeId} {a0 a1 a2 a3 a4 a5 a6 a7 a8 a9 a10 a11 a12 a13 a14 a15 a16 a17 a18:Value} (h:Al w g t #[a0,a1,a2,a3,a4,a5,a6,a7,a8,a9,a10,a11,a12,a13,a14,a15,a16,a17,a18]):
 w.cell? ⟨g,0,none⟩=some a0/\w.cell? ⟨g,1,none⟩=some a1/\w.cell? ⟨g,2,none⟩=some a2/\w.cell? ⟨g,3,none⟩=some a3/\w.cell? ⟨g,4,none⟩=some a4/\w.cell? ⟨g,5,none⟩=some a5/\w.cell? ⟨g,6,none⟩=some a6/\w.cell? ⟨g,7,none⟩=some a7/\w.cell? ⟨g,8,none⟩=some a8/\w.cell? ⟨g,9,none⟩=some a9/\w.cell? ⟨g,10,none⟩=some a10/\w.cell? ⟨g,11,none⟩=some a11/\w.cell? ⟨g,12,none⟩=some a12/\w.cell? ⟨g,13,none⟩=some a13/\w.cell? ⟨g,14,none⟩=some a14/\w.cell? ⟨g,15,none⟩=some a15/\w.cell? ⟨g,16,none⟩=some a16/\w.cell? ⟨g,17,none⟩=some a17/\w.cell? ⟨g,18,none⟩=some a18:=⟨h.cell 0,h.cell 1,h.cell 2,h.cell 3,h.cell 4,h.cell 5,h.cell 6,h.cell 7,h.cell 8,h.cell 9,h.cell 10,h.cell 11,h.cell 12,h.cell 13,h.cell 14,h.cell 15,h.cell 16,h.cell 17,h.cell 18⟩
theorem Aok {w:World} {B:Nat} {m:Mut} {cs:List Value} (h:Holds w B (dM m) cs):cs.length=19:=h.len.1.trans (Ct m)
set_option maxRecDepth 100000 in
theorem Xd (c:Int) (M:Nat) (q1 q2:Addr) (w:World) (X:World->Prop) (hM:M<w.heap.size) (hX: ∀W W',W.grownBy W' (some w.heap.size)->X W->X W')
 (hdo: ∀W,Below w.heap.size w W->w.heap.size+1<=W.heap.size->Calls Tryz.prog 52 #[.pointer (some q1),.pointer (some q2)] W fun e w'=>e=Xg c/\W.grownBy w' (some M)/\X w'):
 Calls Tryz.prog 51 #[.func (.func 52) #[] #[.pointer (some q1),.pointer (some q2)]] w fun e w'=>e=.returned (.int .i64 c)/\w.grownBy w' (some M)/\X w':=by
 have hmf: ∀(fn:Fn) (first cap:Array Value) (w:World),(Instr.makeFunc fn first cap).run Tryz.prog w=.ok (.func fn first cap) w:=fun _ _ _ _=>rfl;have hx:=Al.new w 31 #[.int .i64 0];have hD:=hdo _ (Aa w (.cells #[.int .i64 0] 31)) (by simp);have hg0:w.grownBy (w.alloc (.cells #[.int .i64 0] 31)) (some M):=Fo (World.grownBy.refl _ _) _;have hlt:=hx.lt;have hne:some w.heap.size≠some M:=by simp;omega
 by_cases h0:c=0
 . subst h0;rw[M7]at hD;obtain⟨HD,Hx,Hg0,HX,Hne⟩:=hid5 hD hx hg0 hX hne;clear hD hx hg0 hX hne;clear hdo
   go_enter_defers Tryz.func51,Tryz.ntmps51
   go_wp2_with (go_at_call 52;(with_reducible refine(HD.out).mono ?_);rintro e w1 ⟨rfl,hg1,hX1⟩;have hx1:=Hx.out.grown hg1 Hne.out;have d0:=hx1.cell 0;have f0:=hx1.frozen 0);refine leaves_cons (f:=94) (args:= #[.pointer (some ⟨w.heap.size,0,none⟩)]) (by simp) (by simp[go_sem]) ?_;have hx2:=hx1.set_ 0 (.int .i64 0);have d2:=hx2.cell 0;refine(Ux ⟨w.heap.size,0,none⟩ _).mono ?_;rintro e u' w'' ⟨rfl,rfl,rfl⟩;simp[Leaves,settle,results,Tryz.results51,go_sem,d2];exact⟨G8 (B4 Hg0.out hg1) _ (.inr (Nat.le_refl _)) _,HX.out _ _ (G8 (World.grownBy.refl _ _) _ (.inl rfl) _) hX1⟩
 . rw[Es h0]at hD;obtain⟨HD,Hx,Hg0,HX,Hne⟩:=hid5 hD hx hg0 hX hne;clear hD hx hg0 hX hne;clear hdo
   go_enter_defers Tryz.func51,Tryz.ntmps51
   go_wp2_with (go_at_call 52;(with_reducible refine(HD.out).mono ?_);rintro e w1 ⟨rfl,hg1,hX1⟩;have hx1:=Hx.out.grown hg1 Hne.out;have d0:=hx1.cell 0;have f0:=hx1.frozen 0);refine leaves_cons (f:=94) (args:= #[.pointer (some ⟨w.heap.size,0,none⟩)]) (by simp) (by simp[go_sem]) ?_;have hx2:=(hx1.alloc (.cells #[.int .i64 c] 137)).set_ 0 (.int .i64 c);have d2:=hx2.cell 0;refine(Uy ⟨w.heap.size,0,none⟩ c 0 w1 (by simpa using d0) f0 hx1.lt).mono ?_;rintro e u' w'' ⟨rfl,rfl,rfl⟩;simp[Leaves,settle,results,Tryz.results51,go_sem,d2];exact⟨G8 (Fo (B4 Hg0.out hg1) _) _ (.inr (Nat.le_refl _)) _,HX.out _ _ (G8 (Fo (World.grownBy.refl _ _) _) _ (.inl rfl) _) hX1⟩
theorem C9.lit {S0:Nat->Prop} {b:Nat} {t:TypeId} {w:World} {d:D} {cs:Array Value} (hb:b<=w.heap.size) (hd:d.cells=cs.size) (h:Ae (fun i=>S0 i/\i≠w.heap.size) (w.alloc (.cells cs t)) d cs.toList):
 C9 S0 b t cs.size (w.alloc (.cells cs t)) [d] (.slice (some ⟨w.heap.size,0,none⟩) 1 1):=by
 refine⟨cs.toList,⟨by simp,.inr ⟨w.heap.size,1,cs,rfl,hb,heap_alloc_new w _,Nat.le_refl _,by unfold maxLen;omega,by simp, ?_⟩⟩,fun x hx=> ?_,Bg.one (h.mono fun i _ hi=>⟨hi.1,fun e=>hi.2 (Option.some.inj (e:some w.heap.size=some i)).symm⟩)⟩
 . simp only[List.length_cons,List.length_nil,Nat.zero_add,Nat.one_mul];rw[<-Array.length_toList,List.take_length]
 . simp only[List.mem_cons,List.not_mem_nil,or_false]at hx;rw[hx];exact hd
section
variable {P:Program}
theorem Abd {t ty e:TypeId} {i:TypeInfo} {z:Value} {sz bytes:Nat} (ht:P.underlying t=some (.slice e)) (hi:P.info? e=some i) (hz:i.zero=some z) (hsize:i.size=sz) (hby:i.bytes=bytes) (hzs:z.cells.size=sz) (hsz:0<sz)
 {S0:Nat->Prop} {b:Nat} {w:World} {l:List D} {V:Value} (hrow:C9 S0 b e sz w l V) (hbw:b<=w.heap.size) {dl:List D} {cs:List Value} (hd: ∀d ∈ dl,d.cells=sz) (hx:Bg (fun i=>S0 i/\V.ownBlock≠some i) w dl cs)
 {B:Nat} {A:Option Addr} {n c:Nat} (hr:Cy w B sz A n cs) (hn:n=dl.length) (h63:l.length+n<=maxLen) (hbytes:(l.length+n)*bytes<=140737488355328):
 ∃V' w6,(Builtin.append_ #[t,t] ty #[V,.slice A n c]).run P w=.ok V' w6/\C9 S0 b e sz w6 (l++dl) V'/\w.grownBy w6 V.ownBlock/\(V'.ownBlock=V.ownBlock\/V'.ownBlock=some w.heap.size):=by
 subst hn;obtain⟨ns,h1,h2,h3⟩:=hrow;obtain⟨V',w6,hrun,g1,g2,g3⟩:=L8 (P:=P) w b t ty e i z sz bytes ht hi hz hsize hby hzs hsz V l.length ns h1 B A dl.length c cs hr hx.now.len.2 h63 hbytes hbw;refine⟨V',w6,hrun,⟨ns++cs,by rw[List.length_append];exact g1, ?_, ?_⟩,g2,g3⟩
 . intro x hx';rcases List.mem_append.1 hx' with hx'|hx'
   . exact h2 x hx'
   . exact hd x hx'
 . have key: ∀p:Addr,V.ownBlock≠some p.block->p.block<w.heap.size->V'.ownBlock≠some p.block:=by
    intro p p1 p2;rcases g3 with e3|e3
    . rw[e3];exact p1
    . rw[e3];intro e4;have:=Option.some.inj e4;omega
   have hag: ∀w'':World,w6.heap.size<=w''.heap.size->(∀p:Addr,S0 p.block/\V'.ownBlock≠some p.block->p.block<w6.heap.size->w''.cell? p=w6.cell? p)-> ∀p:Addr,S0 p.block/\V.ownBlock≠some p.block->p.block<w.heap.size->w''.cell? p=w.cell? p:=by
    intro w'' k1 k2 p p1 p2;rw[k2 p ⟨p1.1,key p p1.2 p2⟩ (Nat.lt_of_lt_of_le p2 g2.size)];exact World.cell?_of_block (g2.block p.block p2 (fun e=>p1.2 e.symm))
   intro w'' k1 k2;have a1:=Aj.more (h3 w'' (Nat.le_trans g2.size k1) (hag w'' k1 k2)) g2.size;have a2:=Aj.more (hx w'' (Nat.le_trans g2.size k1) (hag w'' k1 k2)) g2.size;exact a1.app a2
theorem Aeq {o:Oper} {a:Act} {w:World} {K:Act->World->Prop} {Q:Exit->Act->World->Prop} (s x:Operand) (t:TypeId) {e:TypeId}
 (ho:o.op=.call {callee:=.builtin .append,args:= #[s,x],argTypes:= #[t,t]}) {i:TypeInfo} {z:Value} {sz bytes:Nat} (ht:P.underlying t=some (.slice e)) (hi:P.info? e=some i) (hz:i.zero=some z) (hsize:i.size=sz) (hby:i.bytes=bytes) (hzs:z.cells.size=sz) (hsz:0<sz)
 {S0:Nat->Prop} {b:Nat} {l:List D} {V:Value} (hs:a.eval s=V) (hrow:C9 S0 b e sz w l V) (hbw:b<=w.heap.size) {dl:List D} {cs:List Value} (hd: ∀d ∈ dl,d.cells=sz) (hf:Bg (fun i=>S0 i/\V.ownBlock≠some i) w dl cs)
 {B:Nat} {A:Option Addr} {n c:Nat} (hx:a.eval x=.slice A n c) (hr:Cy w B sz A n cs) (hn:n=dl.length) (h63:l.length+n<=maxLen) (hbytes:(l.length+n)*bytes<=140737488355328)
 (h: ∀V' w6,C9 S0 b e sz w6 (l++dl) V'->w.grownBy w6 V.ownBlock->(V'.ownBlock=V.ownBlock\/V'.ownBlock=some w.heap.size)->K (a.put o.dst V') w6):o.wp P a w K Q:=by
 obtain⟨V',w6,hrun,g1,g2,g3⟩:=Abd (ty:=o.type) (c:=c) ht hi hz hsize hby hzs hsz hrow hbw hd hf hr hn h63 hbytes;unfold Oper.wp execOp;simp only[ho,resolve,invoke,builtin,Sem.run_bind,Sem.run_pure,Result.andThen_ok,List.map_toArray,List.map_cons,List.map_nil,hs,hx,hrun];exact h V' w6 g1 g2 g3
theorem Og {ops:Array Oper} {rest:List Oper} {o:Oper} {a:Act} {w:World} {Q:Exit->Act->World->Prop} (hgd:o.guard=none) (s x:Operand) (t:TypeId) {e:TypeId}
 (ho:o.op=.call {callee:=.builtin .append,args:= #[s,x],argTypes:= #[t,t]}) {i:TypeInfo} {z:Value} {sz bytes:Nat} (ht:P.underlying t=some (.slice e)) (hi:P.info? e=some i) (hz:i.zero=some z) (hsize:i.size=sz) (hby:i.bytes=bytes) (hzs:z.cells.size=sz) (hsz:0<sz)
 {S0:Nat->Prop} {b:Nat} {l:List D} {V:Value} (hs:a.eval s=V) (hrow:C9 S0 b e sz w l V) (hbw:b<=w.heap.size) {dl:List D} {cs:List Value} (hd: ∀d ∈ dl,d.cells=sz) (hf:Bg (fun i=>S0 i/\V.ownBlock≠some i) w dl cs)
 {B:Nat} {A:Option Addr} {n c:Nat} (hx:a.eval x=.slice A n c) (hr:Cy w B sz A n cs) (hn:n=dl.length) (h63:l.length+n<=maxLen) (hbytes:(l.length+n)*bytes<=140737488355328)
 (h: ∀V' w6,C9 S0 b e sz w6 (l++dl) V'->w.grownBy w6 V.ownBlock->(V'.ownBlock=V.ownBlock\/V'.ownBlock=some w.heap.size)->wpList P ops Q rest (a.put o.dst V') w6):wpList P ops Q (o::rest) a w:=
 wpList_plain hgd fun _ hK=>Aeq s x t ho ht hi hz hsize hby hzs hsz hs hrow hbw hd hf hx hr hn h63 hbytes fun V' w6 h2 h3 h4=>hK _ _ (h V' w6 h2 h3 h4)
end
theorem Agq (s:ByteArray) (w:World) (hs:s.size<=1000000000):Calls Tryz.prog 127 #[.string s] w fun e w'=>e=.returned (.int .i64 (Ub s))/\w=w':=by
 obtain⟨B,hB⟩: ∃B,Aw s=B:=⟨_,rfl⟩;have hC:=fun W=>Db hB W hs;have e0:s.toList.isEmpty=decide (s.size=0):=by
  rw[Lib.toList_data,Lib.size_eq];cases s.data.toList<;>simp
 have hE:Ub s=if s.size=0 then 8 else if 64<s.size then 6 else if B then 0 else 3:=by
  unfold Ub;rw[e0,hB];simp
 have HC:=Lib.hid hC;clear hC;clear hB e0;by_cases h0:s.size=0
 . rw[if_pos h0]at hE;have t0:((s.size:Int)==0)=true:=by rw[beq_iff_eq];omega
   have HE:=Lib.hid hE;clear hE;clear h0;go_enter Tryz.func127,Tryz.ntmps127;go_wp2;go_ret;exact⟨by rw[HE.out];rfl,rfl⟩
 rw[if_neg h0]at hE;have t0:((s.size:Int)==0)=false:=by rw[beq_eq_false_iff_ne];omega
 by_cases h1:64<s.size
 . rw[if_pos h1]at hE;have t1:(64:Int)<(s.size:Int):=by omega
   have HE:=Lib.hid hE;clear hE;clear h0 h1;go_enter Tryz.func127,Tryz.ntmps127;go_wp2;go_ret;exact⟨by rw[HE.out];rfl,rfl⟩
 rw[if_neg h1]at hE;have t1:(s.size:Int)<=64:=by omega
 have HE:=Lib.hid hE;clear hE;clear h0 h1
 cases B with
 |true=>
  go_enter Tryz.func127,Tryz.ntmps127;go_wp2_with (go_at_call 84;(with_reducible refine(HC.out _).mono ?_);rintro e w2 ⟨rfl,rfl⟩);go_ret;exact⟨by rw[HE.out];rfl,rfl⟩
 |false=>
  go_enter Tryz.func127,Tryz.ntmps127;go_wp2_with (go_at_call 84;(with_reducible refine(HC.out _).mono ?_);rintro e w2 ⟨rfl,rfl⟩);go_ret;exact⟨by rw[HE.out];rfl,rfl⟩
abbrev Mc:Val:=.mk 0 false 0 ⟨#[]⟩ [] []
theorem Ni (v:Val):D0 v=true ↔ v=Mc:=by
 obtain⟨k,b,n,t,l,o⟩:=v;simp only[D0,H8,Bool.and_eq_true,decide_eq_true_eq,Bool.not_eq_true',List.length_eq_zero_iff,List.isEmpty_iff,Val.mk.injEq];constructor
 . rintro⟨⟨⟨⟨⟨rfl,rfl⟩,rfl⟩,ht⟩,rfl⟩,rfl⟩;refine⟨rfl,rfl,rfl, ?_,rfl,rfl⟩;rw[Lib.toList_data]at ht;exact ByteArray.ext (Array.ext' ht)
 . rintro⟨rfl,rfl,rfl,rfl,rfl,rfl⟩;exact⟨⟨⟨⟨⟨rfl,rfl⟩,rfl⟩,by rw[Lib.toList_data]⟩,rfl⟩,rfl⟩
theorem Afr (w:World) (B:Nat):Ab w B Mc [.int .i64 0,.bool false,.int .i64 0,.string ⟨#[]⟩,.slice none 0 0,.slice none 0 0]:=by
 simp only[Ab];exact⟨none,0,none,0,rfl,by simp,by simp⟩
theorem Aeb (v:Val) (cs:List Value) (w:World) (hV:Ab w w.heap.size v cs) (hb:v.bulk<=100000000) {B:Bool} (hB:D0 v=B):
 Calls Tryz.prog 12 #[.agg cs.toArray,.agg #[.int .i64 0,.bool false,.int .i64 0,.string ⟨#[]⟩,.slice none 0 0,.slice none 0 0]] w fun e w'=>e=.returned (.bool B)/\Below w.heap.size w w':=by
 refine(Nd v Mc cs _ w hV (Afr _ _) hb (by simp[Val.bulk,Bd,Av,ByteArray.size])).mono ?_;rintro e w' ⟨X,rfl,hX,hb'⟩;refine⟨?_,hb'⟩;rw[<-Ni,hB]at hX
 cases X<;>cases B<;>simp_all
end Go.Proofs.YtmglfdckpjegdaaGreatDoor
