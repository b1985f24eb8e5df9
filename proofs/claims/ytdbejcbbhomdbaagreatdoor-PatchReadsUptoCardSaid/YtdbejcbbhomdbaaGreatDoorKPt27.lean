/- Parts: value.Member: a copy of the value of an object's first member of a key. Condition: a bulk of at most 10^8. -/
import Derived.Test.YtdbejcbbhomdbaaGreatDoorKPt7
import Derived.Test.YtdbejcbbhomdbaaGreatDoorKPt23
set_option maxHeartbeats 20000000
set_option maxRecDepth 100000
namespace Go.Proofs.YtdbejcbbhomdbaaGreatDoor
open Go Go.RowKit
theorem Mw (w:World) (B:Nat) (key s:ByteArray):Ae w B (dP (key,tv s)) [.string key,.int .i64 4,.bool false,.int .i64 0,.string s,.slice none 0 0,.slice none 0 0]:=by
 have h1:Aa w B (tv s) [.int .i64 4,.bool false,.int .i64 0,.string s,.slice none 0 0,.slice none 0 0]:=by
  simp only[tv,Aa];exact⟨none,0,none,0,rfl,by simp,by simp⟩
 exact⟨[.string key],_,rfl,⟨rfl,rfl⟩,_, [],by simp,D0 _ _ h1,rfl⟩
theorem Rq (w:World) (B:Nat) (key:ByteArray) (n:Int):Ae w B (dP (key,iv n)) [.string key,.int .i64 3,.bool false,.int .i64 n,.string ⟨#[]⟩,.slice none 0 0,.slice none 0 0]:=by
 have h1:Aa w B (iv n) [.int .i64 3,.bool false,.int .i64 n,.string ⟨#[]⟩,.slice none 0 0,.slice none 0 0]:=by
  simp only[iv,Aa];exact⟨none,0,none,0,rfl,by simp,by simp⟩
 exact⟨[.string key],_,rfl,⟨rfl,rfl⟩,_, [],by simp,D0 _ _ h1,rfl⟩
def Je (o:List (ByteArray×Val)) (w:World) (e:Ending) (w':World):Prop:=Below w.heap.size w w'/\
 ∃la lc oa oc,e=.returned (.agg #[.int .i64 6,.bool false,.int .i64 0,.string ⟨#[]⟩,.slice la 0 lc,.slice oa o.length oc])/\Bb w.heap.size w' (dV (ov o)) [.int .i64 6,.bool false,.int .i64 0,.string ⟨#[]⟩,.slice la 0 lc,.slice oa o.length oc]
theorem St {B R b':Nat} {w0 w2:World} {o:Obj} {d:D} {cs:List Value} (vs:List Value) (hb:Below B w0 w2) (hBw:B<=w2.heap.size) (hR:B<=R) (hRb:R<b') (hf:Bb b' w2 d cs):
 Below B w0 ((Bd w2 R 0 vs).alloc o)/\Bb B ((Bd w2 R 0 vs).alloc o) d cs:=by
 have h1:=Am vs hb hR (o:=0);refine⟨h1.alloc (by rw[B4];exact hBw) _, ?_⟩;have h2:Bb B (Bd w2 R 0 vs) d cs:=hf.keep (by omega) (by rw[B4];exact Nat.le_refl _) fun p p1 p2=>World.cell?_of_block (Bw vs _ _ _ _ (by omega));exact h2.later (Ab _ _)
theorem Ac7 {w w1:World} {o o':Obj} (h:Below ((w.alloc o).alloc o').heap.size ((w.alloc o).alloc o') w1):w.heap.size<w1.heap.size/\w.heap.size+1<w1.heap.size:=by
 have:=h.size;simp at this;omega
theorem Th {w w1 w2:World} {o o':Obj} (hb1:Below ((w.alloc o).alloc (.cells A0 33)).heap.size ((w.alloc o).alloc (.cells A0 33)) w1) (hb2:Below (w1.alloc o').heap.size (w1.alloc o') w2):Aj w2 (w.heap.size+1) 33 A0:=by
 have h0:Aj ((w.alloc o).alloc (.cells A0 33)) (w.heap.size+1) 33 A0:=by
  have:=Aj.new (w.alloc o) 33 A0
  rwa [World.size_alloc]at this
 have h1:=(h0.below hb1 h0.lt).alloc o';exact h1.below hb2 h1.lt
theorem Xw (W:World) (s:ByteArray):Cz W.heap.size 88 7 (W.alloc (.cells #[.string Bh,.int .i64 4,.bool false,.int .i64 0,.string s,.slice none 0 0,.slice none 0 0] 88)) (dO [(Bh,tv s)]) (.slice (some ⟨W.heap.size,0,none⟩) 1 1):=
 Cz.lit (Nat.le_refl _) rfl (fun w'' B=>Mw w'' B Bh s)
theorem Ro (b:Nat) (w:World) (key s:ByteArray):Bb b w (dP (key,tv s)) [.string key,.int .i64 4,.bool false,.int .i64 0,.string s,.slice none 0 0,.slice none 0 0]:=fun _ _ _=>Mw _ _ _ _
theorem Rf (w:World) (o o':Obj):Below w.heap.size w ((w.alloc o).alloc o'):=((Below.refl w.heap.size w).alloc (Nat.le_refl _) _).alloc (by simp) _
theorem Abz {b:Nat} {w:World} {vs:List Val} {a:Option Addr} {n c:Nat} (h:Bb b w (.row 6 (dL vs)) [.slice a n c]):Bb b w (dV (lv vs)) [.int .i64 5,.bool false,.int .i64 0,.string ⟨#[]⟩,.slice a n c,.slice none 0 0]:=fun w'' h1 h2=>by
 simp only[lv,dV,Ae];exact Af.six.2 ⟨[.slice a n c], [.slice none 0 0],rfl,rfl,rfl,rfl,rfl,h w'' h1 h2,⟨none,0,rfl,by simp[dO], [],rfl,by simp[dO]⟩⟩
theorem Zv {w:World} {g:Nat} {t:TypeId} {cs:Array Value} {l:List D} {s n c:Nat} (h:Aj w g t cs) (hs: ∀d ∈ l,d.cells=s) (hA:Af w w.heap.size l cs.toList) (hn:n=l.length):Ae w w.heap.size (.row s l) [.slice (some ⟨g,0,none⟩) n c]:=by
 subst hn;exact⟨_,c,rfl,hs,cs.toList,hA,.inr ⟨g,0,rfl,h.lt,fun j u hu=>by rw[Nat.zero_add];exact(h.cell j).trans (by rw[<-Array.getElem?_toList];exact hu)⟩⟩
theorem Agp {w:World} {B:Nat}: ∀{o:List (ByteArray×Val)} {ns:List Value},Af w B (dO o) ns-> ∃d:List Mx,d.map Km=o/\ns=d.flatMap E0/\ ∀x ∈ d,Ae w B (dP (Km x)) (E0 x)
 | [],ns,h=>by
   have:ns= []:=h;subst this;exact⟨[],rfl,rfl,fun x hx=>by cases hx⟩
 |(key,v)::r,ns,h=>by
  obtain⟨c1,c2,rfl,h1,h2⟩:=h;obtain⟨d,e1,e2,e3⟩:=Agp h2;have h1':=h1;obtain⟨_,cv,rfl,⟨rfl,_⟩,c3,c4,rfl,h3,rfl⟩:=h1;obtain⟨k,b,n,t,l,o⟩:=v;have h4:=Az _ _ h3;simp only[Aa]at h4;obtain⟨la,lc,oa,oc,rfl,_,_⟩:=h4;refine⟨(key,.mk k b n t l o,(la,lc),oa,oc)::d,by simp[Km,e1],by rw[e2];rfl,fun x hx=> ?_⟩;rcases List.mem_cons.1 hx with rfl|hx
  . simp only[List.append_nil,List.cons_append,List.nil_append]at h1';exact h1'
  . exact e3 x hx
theorem Agj {w:World} {B:Nat}: ∀{d:List Mx},(∀x ∈ d,Ae w B (dP (Km x)) (E0 x))->Af w B (dO (d.map Km)) (d.flatMap E0)
 | [],_=>rfl
 |x::d,h=>⟨E0 x,d.flatMap E0,rfl,h x (by simp),Agj fun y hy=>h y (by simp[hy])⟩
theorem Ph: ∀(d:List Mx) (i j:Nat),i<d.length->j<7->(d.flatMap E0)[i*7+j]? =some (E0 d[i]!)[j]!
 | [],i,j,hi,_=>by simp at hi
 |x::d,0,j,_,hj=>by
  have hl:=Lx x;rw[List.flatMap_cons,List.getElem?_append_left (by omega),Nat.zero_mul,Nat.zero_add,List.getElem?_eq_getElem (by omega)];simp[hl,hj]
 |x::d,i+1,j,hi,hj=>by
  have hl:=Lx x;rw[List.flatMap_cons,List.getElem?_append_right (by omega),hl,show(i+1)*7+j - 7=i*7+j from by omega,Ph d i j (by simpa using hi) hj];simp
theorem Aby (d:List Mx):(d.flatMap E0).length=d.length*7:=by
 induction d with
 |nil=>rfl
 |cons x d ih=>rw[List.flatMap_cons,List.length_append,Lx,ih,List.length_cons];omega
theorem Xd {w:World} {g:Nat} {d:List Mx} (h: ∀i,i<d.length-> ∀j,j<7->w.cell? ⟨g,i*7+j,none⟩=some (E0 d[i]!)[j]!): ∀(t:Nat) (u:Value),(d.flatMap E0)[t]? =some u->w.cell? ⟨g,t,none⟩=some u:=by
 intro t u hu;have ht:=(List.getElem?_eq_some_iff.1 hu).1;rw[Aby]at ht;have e:t=t / 7*7+t % 7:=by omega
 rw[e]at hu ⊢;rw[Ph d _ _ (by omega) (by omega)]at hu;rw[h _ (by omega) _ (by omega)];exact hu
theorem Acw {w:World} {B m s:Nat} {t:TypeId} {v:Value} {ns:List Value} (h:w.ownsRow B t s v m ns):
 ∃a c,v=.slice a m c/\((m=0/\a=none/\c=0)\/ ∃g,a=some ⟨g,0,none⟩/\B<=g/\g<w.heap.size/\m<=c/\(∀(j:Nat) (u:Value),ns[j]? =some u->w.cell? ⟨g,j,none⟩=some u)/\ ∀j,w.frozen? ⟨g,j,none⟩=false):=by
 rcases h.2 with⟨rfl,hz⟩|⟨g,cap,cur,rfl,hbg,hg,hmc,_,_,_⟩
 . subst hz;exact⟨none,0,rfl,.inl ⟨rfl,rfl,rfl⟩⟩
 . refine⟨_,cap,rfl,.inr ⟨g,rfl,hbg,(Array.getElem?_eq_some_iff.1 hg).1,hmc,fun j u hu=> ?_,fun j=>by simp[World.frozen?,hg]⟩⟩;have:=h.cells (g:=g) rfl j u hu
   rwa [Bi,Nat.zero_add]at this
def Aeh (W:World) (a:Option Addr) (d:List Mx) (e:Ending) (w':World):Prop:=e=.returned (.tuple #[])/\ ∃d':List Mx,d'.length=d.length/\d'.Perm d/\(∀i j,i<j->j<d.length->ltM d'[j]! d'[i]! =false)/\
 (d.length=0\/ ∃g,a=some ⟨g,0,none⟩/\g<w'.heap.size/\ ∀i,i<d.length-> ∀j,j<7->w'.cell? ⟨g,i*7+j,none⟩=some (E0 d'[i]!)[j]!)/\
 (∀b,b<W.heap.size->(∀g,a=some ⟨g,0,none⟩->b≠g)->w'.heap[b]? =W.heap[b]?)/\W.heap.size<=w'.heap.size/\w'.os=W.os/\w'.tape=W.tape/\w'.output=W.output
theorem Aaq (a:Option Addr) (c Bs:Nat) (d:List Mx) (hsz:d.length<4611686018427387904) (W:World)
 (h:(d.length=0/\a=none)\/ ∃g,a=some ⟨g,0,none⟩/\g<W.heap.size/\Bs≠g/\(∀i,i<d.length-> ∀j,j<7->W.cell? ⟨g,i*7+j,none⟩=some (E0 d[i]!)[j]!)/\ ∀j,W.frozen? ⟨g,j,none⟩=false)
 (hBs:W.cell? ⟨Bs,0,none⟩=some (.slice a d.length c)) (hB1:Bs<W.heap.size):
 Calls Tryz.prog 112 #[.iface 31 (.slice a d.length c),.func (.func 113) #[] #[.pointer (some ⟨Bs,0,none⟩)]] W (Aeh W a d):=by
 by_cases h2:2<=d.length
 . rcases h with⟨h,_⟩|⟨g,rfl,hg,hne,hc,hf⟩
   . omega
   . have hH:Go.Sort.HoldsK E0 7 W g 0 d.toArray:=by
      intro j hj;rw[Go.Sort.size_flatK,List.size_toArray]at hj;rw[Go.Sort.get_flatK _ _ _ _ (by simpa using hj),Nat.zero_add];refine⟨?_,hf _⟩;have:=hc (j / 7) (by omega) (j % 7) (by omega);rw[show j / 7*7+j % 7=j from by omega]at this;rw[this];simp
     have hS:=X8 g c Bs d.toArray (by simpa using h2) (by simpa using hsz) W hH hg (by simpa using hBs) hB1 hne;simp only[List.size_toArray]at hS;refine hS.mono ?_;rintro e w' ⟨rfl,d',s1,s2,s3,s4,s5,s6,s7⟩;simp only[List.size_toArray]at s1 s3 s4;refine⟨rfl,d'.toList,by simpa using s1,by simpa using s2,fun i j h1 h2=> ?_,.inr ⟨g,rfl,by omega,fun i hi j hj=> ?_⟩,fun b hb hne=>s5 b hb (hne g rfl),s6,s7⟩
     . simp only[Array.getElem!_toList];exact s3 i j (Nat.zero_le _) h1 h2
     . simp only[Array.getElem!_toList];exact s4 i hi j hj
 . refine(Aar a d.length c Bs (by omega) W).mono ?_;rintro e w' ⟨rfl,hb⟩;refine⟨rfl,d,rfl,List.Perm.refl _,fun i j h1 h3=>by omega, ?_,fun b hb1 _=>hb.block b hb1,hb.size,hb.os,hb.tape,hb.output⟩;rcases h with⟨h,_⟩|⟨g,ea,hg,hne,hc,hf⟩
   . exact .inl h
   . exact .inr ⟨g,ea,by have:=hb.size;omega,fun i hi j hj=>(hb.cell (p:=⟨g,i*7+j,none⟩) hg).trans (hc i hi j hj)⟩
theorem Ae5 {d:List Mx} (hs: ∀i j,i<j->j<d.length->ltM d[j]! d[i]! =false) (hn: ∀t,1<=t->t<d.length->(d[t]!).1≠(d[t - 1]!).1):Bq (d.map Km):=by
 have hadj: ∀t,t+1<d.length->ltM d[t]! d[t+1]! =true:=by
  intro t ht;have h1:=hs t (t+1) (by omega) ht;have h2:=hn (t+1) (by omega) ht;rcases Ix (d[t]!).1 (d[t+1]!).1 with p|p|p
  . exact p
  . exact absurd p.symm h2
  . unfold ltM at h1;rw[h1]at p;cases p
 have hlt: ∀k i,i+k+1<d.length->ltM d[i]! d[i+k+1]! =true:=by
  intro k
  induction k with
  |zero=>intro i hi;exact hadj i hi
  |succ k ih=>intro i hi;exact Cc (ih i (by omega)) (hadj (i+k+1) (by omega))
 unfold Bq;rw[List.pairwise_map,List.pairwise_iff_getElem];intro i j hi hj hij;have:=hlt (j - i - 1) i (by omega);rw[show i+(j - i - 1)+1=j from by omega]at this;simpa[ltM,Km,hi,hj]using this
def Ii (v:Val) (key:ByteArray) (w:World) (e:Ending) (w':World):Prop:=Below w.heap.size w w'/\
 if Bf v≠6 then e=.returned (.tuple #[.agg A0,.int .i64 9])else match Ap key (Bg v)with
 |none=>e=.returned (.tuple #[.agg A0,.int .i64 12])
 |some x=> ∃cs:List Value,e=.returned (.tuple #[.agg cs.toArray,.int .i64 0])/\Bb w.heap.size w' (dV x) cs
structure MI (w:World) (six:Array Value) (wr:World):Prop where
 below:Below w.heap.size w wr
 box:Aj wr w.heap.size 33 six
 res:Aj wr (w.heap.size+1) 33 A0
theorem MI.alloc {w wr:World} {six:Array Value} (h:MI w six wr) (o:Obj):MI w six (wr.alloc o):=⟨h.below.alloc h.below.size o,h.box.alloc o,h.res.alloc o⟩
theorem MI.call {w wr w':World} {six:Array Value} (h:MI w six wr) (hb:Below wr.heap.size wr w'):MI w six w':=⟨h.below.trans (hb.mono h.below.size),h.box.below hb h.box.lt,h.res.below hb h.res.lt⟩
theorem S7 (k':Int) (b':Bool) (n':Int) (t':ByteArray) (l':List Val) (o':List (ByteArray×Val)) (la lc oa oc) (key:ByteArray) (w:World)
 (h:Ae w w.heap.size (dV (.mk k' b' n' t' l' o')) [.int .i64 k',.bool b',.int .i64 n',.string t',.slice la l'.length lc,.slice oa o'.length oc]) (hb:(Val.mk k' b' n' t' l' o').bulk<=100000000):
 Calls Tryz.prog 94 #[.agg #[.int .i64 k',.bool b',.int .i64 n',.string t',.slice la l'.length lc,.slice oa o'.length oc],.string key] w (Ii (.mk k' b' n' t' l' o') key w):=by
 have hI0:MI w #[.int .i64 k',.bool b',.int .i64 n',.string t',.slice la l'.length lc,.slice oa o'.length oc] ((w.alloc (.cells #[.int .i64 k',.bool b',.int .i64 n',.string t',.slice la l'.length lc,.slice oa o'.length oc] 33)).alloc (.cells A0 33)):=
  ⟨((Below.refl _ _).alloc (Nat.le_refl _) _).alloc (by simp) _,(Aj.new w _ _).alloc _,by simpa using Aj.new (w.alloc (.cells #[.int .i64 k',.bool b',.int .i64 n',.string t',.slice la l'.length lc,.slice oa o'.length oc] 33)) 33 A0⟩
 obtain⟨wi,hwi⟩: ∃wi,(w.alloc (.cells #[.int .i64 k',.bool b',.int .i64 n',.string t',.slice la l'.length lc,.slice oa o'.length oc] 33)).alloc (.cells A0 33)=wi:=⟨_,rfl⟩;rw[hwi]at hI0;have hl:o'.length<=100000000:=by
  have h1:=Bu o';have h2:Ag o'<=(Val.mk k' b' n' t' l' o').bulk:=by simp only[Val.bulk];omega
  omega
 by_cases hk:k'=6;rotate_left
 . have e1:(k' != 6)=true:=by simpa using hk
   have HP:Hid (∀W,Below w.heap.size w W->Ii (.mk k' b' n' t' l' o') key w (.returned (.tuple #[.agg A0,.int .i64 9])) W):=fun W hW=>⟨hW,by rw[if_pos (show Bf (.mk k' b' n' t' l' o')≠6 from hk)]⟩;obtain⟨r0,r1,r2,r3,r4,r5⟩:=A7 hI0.res;have x0:=hI0.box.cell 0;have xl:=hI0.box.lt;have fz:=hI0.res.frozen;have lt1:=hI0.res.lt;obtain⟨HI0,H⟩:=hid2 hI0 h;clear hI0 h;clear hk;go_enter Tryz.func94,Tryz.ntmps94;go_upto_region 2 with(fail);clear hwi
   repeat go_step
   have hxf:=(((((HI0.out.res.set_ 0 (.int .i64 0)).set_ 1 (.bool false)).set_ 2 (.int .i64 0)).set_ 3 (.string ⟨#[]⟩)).set_ 4 (.slice none 0 0)).set_ 5 (.slice none 0 0);have hbf:=Am [.int .i64 0,.bool false,.int .i64 0,.string ⟨#[]⟩,.slice none 0 0,.slice none 0 0] HI0.out.below (Nat.le_succ w.heap.size) (o:=0);exact bodyPost_ret (Bk rfl rfl hxf) rfl (HP.out _ hbf)
 subst hk;have y0:=hI0.box.cell 0;have y5:=hI0.box.cell 5;have yl:=hI0.box.lt;have Hs0:=qz (show ∀p ∈ o'.take 0,p.1≠key from by simp);obtain⟨HI0,H⟩:=hid2 hI0 h;clear hI0 h;go_enter Tryz.func94,Tryz.ntmps94;go_upto_region 1 with(fail);clear hwi;go_wp2_with (fail);go_loopw [15] (fun i wr=> ∃q:Nat,i=.int .i64 q/\q<=o'.length/\Hid (∀p ∈ o'.take q,p.1≠key)/\Hid (MI w #[.int .i64 6,.bool b',.int .i64 n',.string t',.slice la l'.length lc,.slice oa o'.length oc] wr)) (fun i _=>o'.length - (intOf i).toNat)
 case atStart=>exact⟨0,rfl,Nat.zero_le _,Hs0,HI0⟩
 case round=>
  obtain⟨q,rfl,hq,hin,hI⟩:=hrel;clear HI0 Hs0;have hq0:(0:Int)<=q:=by omega
  by_cases hlt:q<o'.length
  . obtain⟨p,hp⟩: ∃p,o'[q]? =some p:=⟨_,List.getElem?_eq_getElem (by omega)⟩;obtain⟨pkey,⟨pk,pb,pn,pt,pl,po⟩⟩:=p;have hz:=hI.out.below.size;have hbm:(Val.mk pk pb pn pt pl po).bulk<=100000000:=by
     have h1:=Ca (List.mem_of_getElem? hp);have h2:Ag o'<=(Val.mk 6 b' n' t' l' o').bulk:=by simp only[Val.bulk];omega
     simp only at h1;omega
    obtain⟨g,off,rfl,hg,pla,plc,poa,poc,hv,c0,c1,c2,c3,c4,c5,c6⟩:=S6 (Y5 ((H.out.below hI.out.below).more hz)) hp;have hq1:(q:Int)<(o'.length:Int):=by omega
    have hIa:=hI.out.alloc (.cells #[.string pkey,.int .i64 pk,.bool pb,.int .i64 pn,.string pt,.slice pla pl.length plc,.slice poa po.length poc] 88);have hmb:=Aj.new wr 88 #[.string pkey,.int .i64 pk,.bool pb,.int .i64 pn,.string pt,.slice pla pl.length plc,.slice poa po.length poc];have htk:o'.take (q+1)=o'.take q++ [(pkey,.mk pk pb pn pt pl po)]:=by rw[List.take_add_one,hp];simp
    by_cases hkk:pkey=key
    . subst hkk;have e1:(pkey.toList==pkey.toList)=true:=by simp
      have e2:(pkey==pkey)=true:=by rw[O4];simp
      have Hfind:=qz (Lb (o:=o') hin.out hp rfl);have HC:=qz (F0 _ _ (wr.alloc (.cells #[.string pkey,.int .i64 pk,.bool pb,.int .i64 pn,.string pt,.slice pla pl.length plc,.slice poa po.length poc] 88)) (Az _ _ (hv.later (Ab _ _))) hbm);have Hsz:=qz (show wr.heap.size<=(wr.alloc (.cells #[.string pkey,.int .i64 pk,.bool pb,.int .i64 pn,.string pt,.slice pla pl.length plc,.slice poa po.length poc] 88)).heap.size from by simp);obtain⟨HIa,Hmb,Hv,Hp,Htk⟩:=hid5 hIa hmb hv hp htk;clear hIa hmb hv hp htk;clear hI hin;go_wp2_with (fail);(with_reducible refine(HC.out).mono ?_);rintro e w4 ⟨⟨cs4,rfl,hl4,hf4⟩,hb4⟩;obtain⟨xla,xlc,xoa,xoc,rfl⟩:=G0 hf4;have hI4:=HIa.out.call hb4;obtain⟨r0,r1,r2,r3,r4,r5⟩:=A7 hI4.res;have fz:=hI4.res.frozen;have lt1:=hI4.res.lt;have hsz4:=hb4.size;have hlow:=HIa.out.res.lt;obtain⟨HI4,Hf4,Hb4⟩:=hid3 hI4 hf4 hb4;clear hI4 hf4 hb4;dsimp only
      repeat go_step
      have hxf:=(((((HI4.out.res.set_ 0 (.int .i64 pk)).set_ 1 (.bool pb)).set_ 2 (.int .i64 pn)).set_ 3 (.string pt)).set_ 4 (.slice xla pl.length xlc)).set_ 5 (.slice xoa po.length xoc);have hbf:=Am [.int .i64 pk,.bool pb,.int .i64 pn,.string pt,.slice xla pl.length xlc,.slice xoa po.length xoc] HI4.out.below (Nat.le_succ w.heap.size) (o:=0);have hff:=Hf4.out.keep (b':=w.heap.size) (w':=Bd w4 (w.heap.size+1) 0 [.int .i64 pk,.bool pb,.int .i64 pn,.string pt,.slice xla pl.length xlc,.slice xoa po.length xoc]) (by have:=Hsz.out;omega) (by rw[B4];exact Nat.le_refl _) (fun p p1 _=>World.cell?_of_block (Bw _ _ _ _ _ (by omega)));refine bodyPost_ret (Bk rfl rfl hxf) rfl ⟨hbf, ?_⟩;rw[if_neg (show ¬Bf (.mk 6 b' n' t' l' o')≠6 from fun h=>h rfl)];show match Ap pkey o' with|none=>_|some x=>_
      rw[Hfind.out];exact⟨_,rfl,hff⟩
    . have e1:(pkey.toList==key.toList)=false:=by
       rw[T9];simp only[decide_eq_false_iff_not];intro e;apply hkk;obtain⟨⟨a⟩⟩:=pkey;obtain⟨⟨b⟩⟩:=key;simpa[ByteArray.toList_eq]using e
      have e2:(pkey==key)=false:=by rw[O4];simp[hkk]
      have hin':Hid (∀p ∈ o'.take (q+1),p.1≠key):=by
       refine qz ?_;rw[htk];intro p hp;rcases List.mem_append.1 hp with h|h
       . exact hin.out p h
       . obtain rfl:=List.mem_singleton.1 h;exact hkk
      obtain⟨HIa,Hmb,Hv,Hp,Htk⟩:=hid5 hIa hmb hv hp htk;clear hIa hmb hv hp htk;clear hI hin hkk;go_wp2;go_roundw
      case rel=>exact⟨q+1,by go_num,by omega,hin',HIa⟩
      case measure=>simp only[intOf];omega
  . obtain rfl:q=o'.length:=by omega
    have hnone:=Rm (k:=key) (o:=o') (by
     have:=hin.out
     rwa [List.take_length]at this)
    obtain⟨r0,r1,r2,r3,r4,r5⟩:=A7 hI.out.res;have fz:=hI.out.res.frozen;have lt1:=hI.out.res.lt;have Hnone:=qz hnone;clear hnone;clear hin;go_upto_region 9 with(fail)
    repeat go_step
    have hxf:=(((((hI.out.res.set_ 0 (.int .i64 0)).set_ 1 (.bool false)).set_ 2 (.int .i64 0)).set_ 3 (.string ⟨#[]⟩)).set_ 4 (.slice none 0 0)).set_ 5 (.slice none 0 0);have hbf:=Am [.int .i64 0,.bool false,.int .i64 0,.string ⟨#[]⟩,.slice none 0 0,.slice none 0 0] hI.out.below (Nat.le_succ w.heap.size) (o:=0);refine bodyPost_ret (Bk rfl rfl hxf) rfl ⟨hbf, ?_⟩;rw[if_neg (show ¬Bf (.mk 6 b' n' t' l' o')≠6 from fun h=>h rfl)];show match Ap key o' with|none=>_|some x=>_
    rw[Hnone.out];rfl
end Go.Proofs.YtdbejcbbhomdbaaGreatDoor
