/- Parts: parse.reader.key. Condition: a text of at most 10^6 bytes. -/
import Derived.Deep.RegionLaw
import Derived.Lib.SliceRun
import Derived.Test.YtkmcjfkokoidcaaGreatDoorZFaShelfN
import Derived.Test.YtkmcjfkokoidcaaGreatDoorKFa27
set_option maxHeartbeats 20000000
set_option maxRecDepth 100000
namespace Go.Proofs.YtkmcjfkokoidcaaGreatDoor
open Go Go.RowKit
theorem Aw.moved {S:Nat->Prop} {w w':World} {l:List D} {ns:List Value} (h:Aw S w l ns) (hs:w.heap.size<=w'.heap.size) (hk: ∀p:Addr,S p.block->p.block<w.heap.size->w'.cell? p=w.cell? p):Aw S w' l ns:=fun w'' k1 k2=>
 Af.more (h w'' (Nat.le_trans hs k1) fun p p1 p2=>(k2 p p1 (Nat.lt_of_lt_of_le p2 hs)).trans (hk p p1 p2)) hs
theorem KB.many {S:Nat->Prop} (w:World) (g o:Nat) (hg:S g) (vs:List Value):KB S w (Ak w g o vs):=by
 induction vs generalizing w o with
 |nil=>exact KB.of_below (Below.refl _ _)
 |cons v r ih=>exact(KB.set w ⟨g,o,none⟩ hg v).trans (ih _ _) fun _ _ h=>h
theorem At.del {S0:Nat->Prop} {b s g n c:Nat} {t:TypeId} {w:World} {l:List D} (h:At S0 b t s w l (.slice (some ⟨g,0,none⟩) n c)) {i j:Nat} (hij:i<=j) (hj:j<=l.length) {z:List Value} (hz:z.length=(j - i)*s):
 ∃(cur:Array Value) (news:List Value),n=l.length/\l.length<=c/\c<=maxLen/\cur.size=c*s/\w.heap[g]? =some (.cells cur t (0,0))/\news.length=(l.length - j)*s/\(∀k u,news[k]? =some u->w.cell? ⟨g,j*s+k,none⟩=some u)/\(∀u ∈ news,u.oneCell'=true)/\
  (∀(k:Nat),k<l.length*s->(w.cell? ⟨g,k,none⟩).isSome=true/\w.frozen? ⟨g,k,none⟩=false)/\(∀(k:Nat),k<l.length*s->((Ak w g (i*s) news).cell? ⟨g,k,none⟩).isSome=true/\(Ak w g (i*s) news).frozen? ⟨g,k,none⟩=false)/\
  At S0 b t s (Ak (Ak w g (i*s) news) g ((i+(l.length - j))*s) z) (l.take i++l.drop j) (.slice (some ⟨g,0,none⟩) (i+(l.length - j)) c):=by
 obtain⟨ns,h1,h2,h3⟩:=h;have hnl:ns.length=l.length*s:=by rw[h3.now.len.1,Fj h2]
 have hA1:=(h3.split h2 i).1;have hA2:=(h3.split h2 j).2;rcases h1.2 with⟨e1,_⟩|⟨g',cap,cur,e1,hbg,hg,hnc,hcm,hcs,hcx⟩
 . cases e1
 cases e1
 have m1:i*s<=j*s:=Nat.mul_le_mul_right _ hij;have m2:j*s<=l.length*s:=Nat.mul_le_mul_right _ hj;have m3:l.length*s<=c*s:=Nat.mul_le_mul_right _ hnc;have e1:(l.length - j)*s=l.length*s - j*s:=Nat.sub_mul _ _ _;have e2:(j - i)*s=j*s - i*s:=Nat.sub_mul _ _ _;have e3:(i+(l.length - j))*s=i*s+(l.length*s - j*s):=by rw[Nat.add_mul,e1]
 have hb:Aj w g t cur:=hg;have hcell: ∀k u,ns[k]? =some u->w.cell? ⟨g,k,none⟩=some u:=fun k u hu=>by
  refine(hb.cell k).trans ?_;rw[<-Array.getElem?_toList];rw[<-hcx,List.getElem?_take]at hu
  split at hu
  . exact hu
  . cases hu
 obtain⟨news,hnews⟩: ∃N,N=ns.drop (j*s):=⟨_,rfl⟩;have hnewl:news.length=l.length*s - j*s:=by rw[hnews,List.length_drop,hnl]
 have g1:=Kh (o:=i*s) news hg;have b1:Aj (Ak w g (i*s) news) g t (Pc cur (i*s) news):=g1;have g2:=Kh (o:=(i+(l.length - j))*s) z g1;have hsome: ∀(W:World) (C:Array Value),Aj W g t C->C.size=c*s-> ∀k,k<l.length*s->(W.cell? ⟨g,k,none⟩).isSome=true/\W.frozen? ⟨g,k,none⟩=false:=fun W C hC hs k hk=>by
  refine⟨?_,hC.frozen k⟩;rw[hC.cell k,Array.getElem?_eq_getElem (by omega)];rfl
 refine⟨cur,news,rfl,hnc,hcm,hcs,hg,by rw[e1];exact hnewl,fun k u hu=>hcell _ _ (by rw[hnews,List.getElem?_drop]at hu;exact hu),fun u hu=>h3.now.len.2 u (List.mem_of_mem_drop (by rw[hnews]at hu;exact hu)),hsome w cur hb hcs,hsome _ _ b1 (by rw[J1];exact hcs), ?_⟩;have hfar: ∀p:Addr,p.block≠g->(Ak (Ak w g (i*s) news) g ((i+(l.length - j))*s) z).cell? p=w.cell? p:=fun p hp=>
  World.cell?_of_block ((A0 _ _ _ _ _ hp).trans (A0 _ _ _ _ _ hp))
 have hsz:(Ak (Ak w g (i*s) news) g ((i+(l.length - j))*s) z).heap.size=w.heap.size:=by rw[Ca,Ca]
 have hmv: ∀p:Addr,(S0 p.block/\(Value.slice (some ⟨g,0,none⟩) l.length c).ownBlock≠some p.block)->p.block<w.heap.size->(Ak (Ak w g (i*s) news) g ((i+(l.length - j))*s) z).cell? p=w.cell? p:=fun p p1 _=>hfar p fun e=>p1.2 (by rw[e];rfl);refine⟨ns.take (i*s)++news,⟨?_,.inr ⟨g,c,Pc (Pc cur (i*s) news) ((i+(l.length - j))*s) z, ?_,hbg,g2, ?_,hcm,by rw[J1,J1];exact hcs, ?_⟩⟩,fun x hx=> ?_, ?_⟩
 . rw[List.length_append,List.length_append,List.length_take,List.length_take,List.length_drop,hnl,hnewl,Nat.min_eq_left (by omega),Nat.min_eq_left (by omega),e3]
 . rw[List.length_append,List.length_take,List.length_drop,Nat.min_eq_left (by omega)]
 . rw[List.length_append,List.length_take,List.length_drop];omega
 . have o1:=Rf (cs:=cur) (ns:=ns) (ys:=news) (m:=l.length*s) (o:=i*s) hcx hnl (by omega);have o2:=Rf (cs:=Pc cur (i*s) news) (ys:=z) (m:=l.length*s) (o:=(i+(l.length - j))*s) o1 (by rw[List.length_append,List.length_append,List.length_take,List.length_drop,hnl,hnewl];omega) (by omega);have l1:(l.take i++l.drop j).length*s=i*s+(l.length*s - j*s):=by
    rw[List.length_append,List.length_take,List.length_drop,Nat.min_eq_left (by omega),e3]
   have l2:(ns.take (i*s)++news).length=i*s+(l.length*s - j*s):=by rw[List.length_append,List.length_take,hnl,hnewl];omega
   rw[l1];have:=congrArg (List.take (i*s+(l.length*s - j*s))) o2;rw[List.take_take,Nat.min_eq_left (by omega)]at this;rw[this,e3,List.append_assoc,List.take_append_of_le_length (by rw[List.length_take,List.length_append,List.length_append,List.length_take,List.length_drop,hnl,hnewl];omega),List.take_take,Nat.min_self,List.take_append_of_le_length (by rw[l2];exact Nat.le_refl _),List.take_of_length_le (by rw[l2];exact Nat.le_refl _)]
 . rcases List.mem_append.1 hx with hx|hx
   . exact h2 x (List.mem_of_mem_take hx)
   . exact h2 x (List.mem_of_mem_drop hx)
 . have a1:=hA1.moved (by rw[hsz];exact Nat.le_refl _) hmv;have a2:=hA2.moved (by rw[hsz];exact Nat.le_refl _) hmv;rw[<-hnews]at a2;have hv:(Value.slice (some ⟨g,0,none⟩) (l.take i++l.drop j).length c).ownBlock=(Value.slice (some ⟨g,0,none⟩) l.length c).ownBlock:=rfl;exact a1.app a2
theorem Aeb (S0:Nat->Prop) (b g n c i M:Nat) (l:List D) (w:World) (h:At S0 b 24 1 w l (.slice (some ⟨g,0,none⟩) n c)) (hl:l.length=M+1) (hi:i<=M) (hM:M<=1000):
 Calls Tryz.prog 174 #[.slice (some ⟨g,0,none⟩) n c,.int .i64 i,.int .i64 ((i:Int)+1)] w fun e w'=>e=.returned (.slice (some ⟨g,0,none⟩) M c)/\At S0 b 24 1 w' (l.take i++l.drop (i+1)) (.slice (some ⟨g,0,none⟩) M c)/\KB (fun k=>k=g) w w':=by
 obtain⟨PO,hPO⟩: ∃P:Ending->World->Prop,(fun e w'=>e=.returned (.slice (some ⟨g,0,none⟩) M c)/\At S0 b 24 1 w' (l.take i++l.drop (i+1)) (.slice (some ⟨g,0,none⟩) M c)/\KB (fun k=>k=g) w w')=P:=⟨_,rfl⟩;rw[hPO];obtain⟨i0,hi0,hz0,hzs,hzb⟩:=info_parts Agl;have hdw:Below w.heap.size w w.drew:=Below.drew (Below.refl _ w);obtain⟨cur,news,rfl,hnc,hcm,hcs,hg,k1,k2,k3,k4,k5,k6⟩:=(h.below hdw).del (i:=i) (j:=i+1) (by omega) (by omega) (z:= [.pointer none]) (by rw[show i+1 - i=1 from by omega];rfl);rw[hl]at hnc k1 k4 k5 k6 ⊢;have em:i+(M+1 - (i+1))=M:=by omega
 have em2:M+1 - (i+1)=M - i:=by omega
 rw[em2]at k1;rw[em]at k6;obtain⟨W1,hW1⟩: ∃W,Ak w.drew g (i) news=W:=⟨_,rfl⟩;simp only[Nat.mul_one]at k1 k2 k4 k5 k6;rw[hW1]at k5 k6;have hc63:c<=9223372036854775807:=by simp only[maxLen]at hcm;omega
 have hst:=run_storeCells_cells (P:=Tryz.prog) g (M) [.pointer none] 0 W1 (fun j hj=>by rw[Nat.add_zero];exact(k5 (M+j) (by simp only[List.length_cons,List.length_nil]at hj;omega)).1) (fun j hj=>by rw[Nat.add_zero];exact(k5 (M+j) (by simp only[List.length_cons,List.length_nil]at hj;omega)).2) (by simp[Value.oneCell']);simp only[Nat.add_zero]at hst;have hzc:(Builtin.zeroCells (.pointer none:Value).cells 1).toList= [.pointer none]:=by kernel_rfl
 have hcl: ∀ty cc,(Builtin.clear_ #[108] ty #[.slice (some ⟨g,M,none⟩) 1 cc]).run Tryz.prog W1=.ok (.tuple #[]) (W1.setCells g (M) [.pointer none]):=fun ty cc=>by
  simp[Builtin.clear_,run_underlying Tryz.underlying108,hzc,hst]
 have HP:Hid (PO (.returned (.slice (some ⟨g,0,none⟩) M c)) (W1.setCells g (M) [.pointer none])):=by
  show PO _ _;rw[<-hPO,Ge];refine⟨rfl,k6, ?_⟩;rw[<-hW1];exact((KB.of_below hdw).trans ((KB.many (S:=fun k=>k=g) w.drew g (i) rfl news).trans (KB.many (S:=fun k=>k=g) _ g (M) rfl [.pointer none]) fun _ _ h=>h) fun _ _ h=>h)
 have hs:Hid (∀j,j<news.length->(w.drew.cell? ⟨g,0+i*1+j,none⟩).isSome=true/\w.drew.frozen? ⟨g,0+i*1+j,none⟩=false):=fun j hj=>by
  rw[Nat.zero_add,Nat.mul_one];exact k4 _ (by omega)
 obtain⟨A,hA,hsrc⟩: ∃A:Addr,(if c=i+1 then some (⟨g,0,none⟩:Addr)else some ⟨g,(i+1),none⟩)=some A/\Hid (∀j u,news[j]? =some u->w.drew.cell? (A.add j)=some u):=by
  by_cases h:c=i+1
  . refine⟨⟨g,0,none⟩,by rw[if_pos h],fun j u hu=> ?_⟩;have:=(List.getElem?_eq_some_iff.1 hu).1;omega
  . exact⟨⟨g,(i+1),none⟩,by rw[if_neg h],fun j u hu=>by rw[Bn];exact k2 j u hu⟩
 have hW1':w.drew.setCells g (0+i*1) news=W1:=by rw[Ge,Nat.zero_add,Nat.mul_one];exact hW1
 have y1:((M+1:Nat):Int)=(M:Int)+1:=by omega
 have y2:(i:Int)<=(M:Int):=by omega
 have y3: ¬c=M:=by omega
 have y4:M+1 - M=1:=by omega
 have y5:i<=c:=by omega
 have y6:i+1<=c:=by omega
 have y7:M+1<=c:=by omega
 have y8:i<=M+1:=by omega
 have y9: ¬((i:Int)=(i:Int)+1):=by omega
 have y10:(0:Int)<=(i:Int)+1:=by omega
 obtain⟨K1,K3,Hi0,Hzs,HW1',HPO⟩:=hid6 k1 k3 hi0 hzs hW1' hPO;clear k1 k3 hi0 hzs hW1' hPO;clear h k2 k4 k5 k6 hcm hcs hg hz0 hzb hst hzc hdw hW1;go_enter Tryz.func174,Tryz.ntmps174;go_upto_region 5 with(fail);refine wp_region_held_drew (S:=fun _=>True) (by kernel_rfl) trivial (fun hHeld=> ?_);refine tkH 0 hHeld ?_;refine tkH 1 hHeld ?_;refine tkH 2 hHeld ?_;refine tkH 3 hHeld ?_;refine tkH 4 hHeld ?_;refine tkH 5 hHeld ?_;refine Ee 6 fun K hK=> ?_;refine step_append_room rfl (.tmp 22) (.tmp 25) 108 rfl 24 i0 1 Tryz.underlying108 Hi0.out Hzs.out g 0 i c (by simp[Act.eval]) A (M - i) (c - (i+1)) news (by simp[Act.eval]) (by rw[Nat.mul_one];exact K1.out) hsrc.out K3.out (by omega) hs.out ?_;rw[HW1'.out];refine hK.out _ _ trivial (fun hHeld=> ?_);clear hK K
 try simp only[Act.put,tk1,tk2,tk3,tk4,tk5,tk6]
 refine tkH 7 hHeld ?_;refine wpAnyH_done (by kernel_rfl) ?_ _;clear hHeld;go_wp2;exact HP.out
structure RdI (w0 w:World) (R g:Nat) (s:ByteArray) (k:Nat):Prop where
 below:Below w0.heap.size w0 w
 ge:w0.heap.size<=R
 rd:Wk w R g s k
 map:De (Value.int .u8) w g (KV R)
theorem RdI.ne {w0 w:World} {R g k:Nat} {s:ByteArray} (h:RdI w0 w R g s k):g≠R:=by
 rintro rfl;have h1:=h.rd;have h2:=h.map;unfold Wk Aj at h1;unfold De at h2;rw[h1]at h2;simp at h2
theorem RdI.to {w0 w w':World} {R g k k':Nat} {s:ByteArray} (h:RdI w0 w R g s k) (t:Br R g s k' w w'):RdI w0 w' R g s k':=
 ⟨h.below.grown t.1 h.below.size fun r e=>by have:=Option.some.inj e;have:=h.ge;omega,h.ge,t.2,h.map.keep (t.1.block g h.map.lt (by intro e;exact h.ne (Option.some.inj e)))⟩
theorem RdI.later {w0 w w':World} {R g k:Nat} {s:ByteArray} (h:RdI w0 w R g s k) (t:Below w.heap.size w w'):RdI w0 w' R g s k:=
 ⟨h.below.trans (t.mono h.below.size),h.ge,Aj.below h.rd t (Aj.lt h.rd),h.map.below t h.map.lt⟩
def Al9 (w0:World) (R g:Nat) (s:ByteArray) (f:Nat):Prop:= ∀(w:World) (k:Nat) (d:Int),RdI w0 w R g s k->k<=s.size->4*(s.size - k)+1<=f->0<=d->d<=65->
    Calls Tryz.prog 85 #[.pointer (some ⟨R,0,none⟩),.int .i64 d] w (Gv R g s w (Cc f s.data.toList k d))
theorem Br.undrew {w w1:World} {R g k:Nat} {s:ByteArray} (h:Br R g s k w.drew w1):Br R g s k w w1:=⟨⟨h.1.os,h.1.tape,h.1.output,h.1.size,h.1.block⟩,h.2⟩
theorem Iy {w w1:World} {R:Nat} (hR:R<w.heap.size) (h:w.grownBy w1 (some R)): ∃wm:World,wm.heap.size=w.heap.size/\(∀i,i≠R->wm.heap[i]? =w.heap[i]?)/\Below wm.heap.size wm w1:=by
 have hR1:R<w1.heap.size:=by have:=h.size;omega
 refine⟨{w with heap:=w.heap.setIfInBounds R w1.heap[R]},by simp,fun i hi=> ?_, ?_⟩
 . simp only[Array.getElem?_setIfInBounds];rw[if_neg (fun e=>hi e.symm)]
 . refine⟨h.os,h.tape,h.output,by simpa using h.size,fun i hi=> ?_⟩;simp only[Array.size_setIfInBounds]at hi;simp only[Array.getElem?_setIfInBounds];by_cases e:R=i
   . subst e;rw[if_pos rfl,if_pos hi,Array.getElem?_eq_getElem hR1]
   . rw[if_neg e];exact h.block i hi (fun e'=>e (Option.some.inj e').symm)
theorem Br.app {w w5 w6:World} {R g k b:Nat} {s:ByteArray} {e:TypeId} {sz:Nat} {l:List D} {V:Value} {wr:World} (h:Br R g s k w w5) (hg:w5.grownBy w6 V.ownBlock) (hr:E5 b e sz wr l V) (hb:w.heap.size<=b) (hR:R<w.heap.size):Br R g s k w w6:=by
 have hne: ∀i,i<w.heap.size->some i≠V.ownBlock:=fun i hi e=>by have:=(hr.base i e.symm).1;omega
 exact⟨⟨hg.os.trans h.1.os,hg.tape.trans h.1.tape,hg.output.trans h.1.output,Nat.le_trans h.1.size hg.size,fun i hi hn=>(hg.block i (by have:=h.1.size;omega) (hne i hi)).trans (h.1.block i hi hn)⟩,Aj.grown h.2 hg (hne R hR)⟩
theorem Br.setN {w w1:World} {R g k:Nat} {s:ByteArray} (h:Br R g s k w w1) (p:Addr) (hp:w.heap.size<=p.block) (hR:R<w.heap.size) (v:Value):Br R g s k w (w1.setCell p v):=
 ⟨M7 h.1 p (.inr hp) v,Aj.far h.2 (by omega) v⟩
theorem Ec (R g:Nat) (s:ByteArray) (k:Nat) (c:UInt8) (n:Int) (hn:(c.toNat:Int)=n) {B:Bool} (w:World) (hs:s.size<=1000000000) (hk:k<=s.size) (h:Wk w R g s k) (hB:decide (s.data.toList[Aq s.data.toList k]? =some c)=B):
 Calls Tryz.prog 206 #[.pointer (some ⟨R,0,none⟩),.int .u8 n] w fun e w'=>e=.returned (.bool B)/\Br R g s (if B=true then Aq s.data.toList k+1 else Aq s.data.toList k) w w':=by
 subst hn;exact Aa6 R g s k c w hs hk h hB
structure RdL (w wr:World) (R g:Nat) (s:ByteArray) (j:Nat) (cs:Array Value):Prop where
 went:Br R g s j w wr
 res:Aj wr w.heap.size 37 Bk
 var:Aj wr (w.heap.size+1) 37 cs
theorem RdL.to_ {w wr w':World} {R g j j':Nat} {s:ByteArray} {cs:Array Value} (h:RdL w wr R g s j cs) (hR:R<w.heap.size) (t:Br R g s j' wr w'):RdL w w' R g s j' cs:=
 ⟨h.went.trans t,h.res.grown t.1 (by intro e;have:=Option.some.inj e;omega),h.var.grown t.1 (by intro e;have:=Option.some.inj e;omega)⟩
theorem RdL.leave {w wr:World} {R g j:Nat} {s:ByteArray} {cs:Array Value} (h:RdL w wr R g s j cs) (hR:R<w.heap.size) (a0 a1 a2 a3 a4 a5:Value):
 Aj (Ak wr w.heap.size 0 [a0,a1,a2,a3,a4,a5]) w.heap.size 37 #[a0,a1,a2,a3,a4,a5]/\Br R g s j w (Ak wr w.heap.size 0 [a0,a1,a2,a3,a4,a5]):=
 ⟨((((((h.res.set_ 0 a0).set_ 1 a1).set_ 2 a2).set_ 3 a3).set_ 4 a4).set_ 5 a5),Br.many (Nat.le_refl _) hR _ 0 h.went⟩
theorem Ahs {b:Nat} {w:World} {vs:List Val} {a:Option Addr} {n c:Nat} (h:Ch b w (.row 6 (dL vs)) [.slice a n c]):Ch b w (dV (Sv vs)) [.int .i64 5,.bool false,.int .i64 0,.string ⟨#[]⟩,.slice a n c,.slice none 0 0]:=fun w'' h1 h2=>by
 simp only[Sv,Fl,dV,Ag];exact Af.six.2 ⟨[.slice a n c], [.slice none 0 0],rfl,rfl,rfl,rfl,rfl,h w'' h1 h2,⟨none,0,rfl,by simp[dO], [],rfl,by simp[dO]⟩⟩
theorem Aht {b:Nat} {w:World} {o:List (ByteArray×Val)} {a:Option Addr} {n c:Nat} (h:Ch b w (.row 7 (dO o)) [.slice a n c]):Ch b w (dV (Rc o)) [.int .i64 6,.bool false,.int .i64 0,.string ⟨#[]⟩,.slice none 0 0,.slice a n c]:=fun w'' h1 h2=>by
 simp only[Rc,Fl,dV,Ag];exact Af.six.2 ⟨[.slice none 0 0], [.slice a n c],rfl,rfl,rfl,rfl,rfl,⟨none,0,rfl,by simp[dL], [],rfl,by simp[dL]⟩,h w'' h1 h2⟩
structure LRd (w wr:World) (R g:Nat) (s:ByteArray) (d:Int) (RES:Rd Val) (f n j:Nat) (acc:List Val) (V:Value):Prop where
 all:RdL w wr R g s j #[.int .i64 5,.bool false,.int .i64 0,.string ⟨#[]⟩,V,.slice none 0 0]
 row:E5 (w.heap.size+2) 37 6 wr (dL acc) V
 is:D7 n s.data.toList j d acc=RES
 fuel:4*(s.size - j)+2<=n
 lt:n<f
 few:acc.length<=j
theorem Z0 (w0:World) (R g:Nat) (s:ByteArray) (f:Nat) (ih: ∀f',f'<f->Al9 w0 R g s f') (w:World) (k:Nat) (d:Int) (h:RdI w0 w R g s k) (hs:s.size<=100000000) (hk:k<s.size) (hf:4*(s.size - k)<=f) (hd0:0<=d) (hd:d<=64):
 Calls Tryz.prog 148 #[.pointer (some ⟨R,0,none⟩),.int .i64 d] w (Gv R g s w (Ka f s.data.toList k d)):=by
 obtain⟨j0,hj,hy0,hy1,hy2⟩:=info_parts Al0;have hR:R<w.heap.size:=Aj.lt h.rd;obtain⟨f,rfl⟩: ∃n,f=n+1:=⟨f - 1,by omega⟩;have hP:=Dv (s:=s) (k:=k+1) (by omega);have hP1:=C5 s.data.toList (k+1);have hI0:RdL w (((w.setCell ⟨R,1,none⟩ (.int .i64 ((k+1:Nat):Int))).alloc (.cells Bk 37)).alloc (.cells #[.int .i64 5,.bool false,.int .i64 0,.string ⟨#[]⟩,.slice none 0 0,.slice none 0 0] 37)) R g s (k+1) #[.int .i64 5,.bool false,.int .i64 0,.string ⟨#[]⟩,.slice none 0 0,.slice none 0 0]:=by
  refine⟨(((Br.refl h.rd).set _).alloc _).alloc _, ?_, ?_⟩
  . have:=(Aj.new (w.setCell ⟨R,1,none⟩ (.int .i64 ((k+1:Nat):Int))) 37 Bk).alloc (.cells #[.int .i64 5,.bool false,.int .i64 0,.string ⟨#[]⟩,.slice none 0 0,.slice none 0 0] 37);simpa[World.setCell]using this
  . have:=Aj.new ((w.setCell ⟨R,1,none⟩ (.int .i64 ((k+1:Nat):Int))).alloc (.cells Bk 37)) 37 #[.int .i64 5,.bool false,.int .i64 0,.string ⟨#[]⟩,.slice none 0 0,.slice none 0 0];simpa[World.setCell]using this
 obtain⟨c0,c1,_,f1,_⟩:=h.rd.cells;have ek:((k:Int)+1)=((k+1:Nat):Int):=by omega
 obtain⟨RES,hRES⟩: ∃r,Ka (f+1) s.data.toList k d=r:=⟨_,rfl⟩;rw[hRES];unfold Ka at hRES
 cases hB:decide (s.data.toList[Aq s.data.toList (k+1)]? =some 93)with
 |true=>
  have hc:=hB;rw[decide_eq_true_iff]at hc;rw[if_pos hc]at hRES;subst hRES;clear hc;obtain⟨Hj,Hy0,Hy1,Hy2,Ih,H,HI0,Ek,HB⟩:=hid9 hj hy0 hy1 hy2 ih h hI0 ek hB;clear hj hy0 hy1 hy2 ih h hI0 ek hB;go_enter Tryz.func148,Tryz.ntmps148;go_wp2
  go_step3
  go_wp2_with (fail);rw[Ek.out];generalize ((w.setCell ⟨R,1,none⟩ (.int .i64 ((k+1:Nat):Int))).alloc (.cells Bk 37)).alloc (.cells #[.int .i64 5,.bool false,.int .i64 0,.string ⟨#[]⟩,.slice none 0 0,.slice none 0 0] 37)=w1 at HI0 ⊢;have hC:=Ec R g s (k+1) 93 93 (by decide) w1 (by omega) (by omega) HI0.out.went.2 HB.out;rw[if_pos rfl]at hC;(with_reducible refine hC.mono ?_);rintro e w2 ⟨rfl,h2⟩;have hI2:=HI0.out.to_ hR h2;obtain⟨y0,y1,y2,y3,y4,y5⟩:=Bp hI2.var;obtain⟨r0,r1,r2,r3,r4,r5⟩:=Bp hI2.res;have fz:=hI2.res.frozen;have HI2:=qz hI2;clear hI2;clear hC c0 c1 f1 h2 HI0;dsimp only
  repeat go_step
  obtain⟨hxf,hto⟩:=HI2.out.leave hR (.int .i64 5) (.bool false) (.int .i64 0) (.string ⟨#[]⟩) (.slice none 0 0) (.slice none 0 0);rw[Exit.noGoto_ret];exact bodyPost_ret (Cy rfl rfl hxf) rfl ⟨⟨_,rfl,Fo 5 false 0 _⟩,hto⟩
 |false=>
  have hc:=hB;rw[decide_eq_false_iff_not]at hc;rw[if_neg hc]at hRES;clear hc;obtain⟨Hj,Hy0,Hy1,Hy2,Ih,H,HI0,Ek,HB,HRES⟩:=hid10 hj hy0 hy1 hy2 ih h hI0 ek hB hRES;clear hj hy0 hy1 hy2 ih h hI0 ek hB hRES;go_enter Tryz.func148,Tryz.ntmps148;go_wp2
  go_step3
  go_wp2_with (fail);rw[Ek.out];generalize ((w.setCell ⟨R,1,none⟩ (.int .i64 ((k+1:Nat):Int))).alloc (.cells Bk 37)).alloc (.cells #[.int .i64 5,.bool false,.int .i64 0,.string ⟨#[]⟩,.slice none 0 0,.slice none 0 0] 37)=w1 at HI0 ⊢;have hC:=Ec R g s (k+1) 93 93 (by decide) w1 (by omega) (by omega) HI0.out.went.2 HB.out;rw[if_neg (by decide)]at hC;(with_reducible refine hC.mono ?_);rintro e w2 ⟨rfl,h2⟩;have hI2:=HI0.out.to_ hR h2;have HL0:Hid (LRd w w2 R g s d RES (f+1) f (Aq s.data.toList (k+1)) [] (.slice none 0 0)):=⟨hI2,by simpa[dL]using E5.nil _ _ _ _,HRES.out,by omega,by omega,by simp⟩;clear hC c0 c1 f1 h2 HI0 HRES hI2 HB;generalize Aq s.data.toList (k+1)=p1 at HL0 hP hP1;go_wp2
  go_step3
  go_wp2
  go_loopg [] f (fun n wr=> ∃m j acc V,m=n/\j<=s.size/\Hid (LRd w wr R g s d RES (f+1) n j acc V))
  case atStart=>exact⟨f,p1, [],_,rfl,hP,HL0⟩
  case round=>
   obtain⟨n,j,acc,V,rfl,hj,hh⟩:=hrel;clear HL0 hP hP1 p1;have hn2:=hh.out.fuel;have hnf:=hh.out.lt;have hfw:=hh.out.few;obtain⟨n,rfl⟩: ∃m,n=m+1:=⟨n - 1,by omega⟩;have hI:=hh.out.all;have hrow:=hh.out.row;have his:=hh.out.is;obtain⟨aV,cV,rfl⟩:=hrow.slice;have rdi:=H.out.to hI.went;have hC: ∀W,Below wr.heap.size wr W->Calls Tryz.prog 85 #[.pointer (some ⟨R,0,none⟩),.int .i64 (d+1)] W (Gv R g s W (Cc n s.data.toList j (d+1))):=fun W hW=>Ih.out n (by omega) W j (d+1) (rdi.later hW) hj (by omega) (by omega) (by omega);have hw:=(It n).1 s.data.toList j (d+1) (by rw[Al];exact hj);unfold D7 at his;have ewr:IntKind.i64.wrap (d+1)=d+1:=IntWalk.i64_in _ (by omega);have y4:=hI.var.cell 4;have hgv:=hI.var.lt;have dl:(dL acc).length=acc.length:=Qz _
   cases hr:Cc n s.data.toList j (d+1)with
   |bad c q=>
    rw[hr]at hC his;simp only at his;subst his;have Hv0:=qz hI.var.drew;have HRow:=qz hrow;have HRw:=qz (show R<wr.heap.size by have:=hI.went.1.size;omega);obtain⟨HC,HI,Dl⟩:=hid3 hC hI dl;clear hC hI dl;clear hw hr hh rdi y4 hrow;go_upto_region 5 with(fail);refine wp_region_held_drew (S:=fun _=>True) (by kernel_rfl) trivial (fun hHeld=> ?_);refine tkH 0 hHeld ?_;refine tkH 2 hHeld ?_;refine tkH 3 hHeld ?_;refine tkH 4 hHeld ?_;refine wpAnyH_ready (rs:= [1,5]) (by kernel_rfl) (by simp) ?_;refine AllReadyH.cons rfl (fun K hK=> ?_) (AllReadyH.cons rfl (fun K hK=> ?_) AllReadyH.nil)
    . skip;have e4:=Hv0.out.cell 4;go_simp;refine hK.out _ _ trivial (fun hHeld=> ?_);clear hK K e4
      try simp only[Act.put,tk4,tk5,tk6]
      refine wpAnyH_ready (rs:= [5]) (by kernel_rfl) (by simp) ?_;refine AllReadyH.cons rfl (fun K hK=> ?_) AllReadyH.nil;go_simp;(with_reducible refine(HC.out _ (Below.drew (Below.refl _ _))).mono ?_);rintro e w4 ⟨rfl,hg⟩;exact⟨rfl,rfl,Ck HI.out.went.1 ⟨hg.os,hg.tape,hg.output,hg.size,hg.block⟩⟩
    . skip;go_simp;(with_reducible refine(HC.out _ (Below.drew (Below.refl _ _))).mono ?_);rintro e w4 ⟨rfl,hg⟩;exact⟨rfl,rfl,Ck HI.out.went.1 ⟨hg.os,hg.tape,hg.output,hg.size,hg.block⟩⟩
   |ok v q=>
    rw[hr]at hC his hw;simp only at his;obtain⟨hw1,hw2⟩:=hw;rw[Al]at hw2;obtain⟨k',b',n',t',l',o'⟩:=v;have htk:dL acc++ [dV (.mk k' b' n' t' l' o')]=dL (acc++ [.mk k' b' n' t' l' o']):=by rw[O3,O3];simp
    have HLo:Hid ((dL acc).length+1<=maxLen/\((dL acc).length+1)*88<=140737488355328):=by rw[dl];exact⟨by simp only[maxLen];omega,by omega⟩
    have Hv0:=qz hI.var.drew;have HRow:=qz hrow;have HRw:=qz (show R<wr.heap.size by have:=hI.went.1.size;omega);obtain⟨HC,HI,Dl,Htk,His⟩:=hid5 hC hI dl htk his;clear hC hI dl htk his;clear hr hh rdi y4 hrow;go_upto_region 5 with(fail);go_cut [] (fun wx=>Hid (∃V,RdL w wx R g s q #[.int .i64 5,.bool false,.int .i64 0,.string ⟨#[]⟩,V,.slice none 0 0]/\E5 (w.heap.size+2) 37 6 wx (dL (acc++ [.mk k' b' n' t' l' o'])) V))
    case first=>
     refine wp_region_held_drew (S:=fun _=>True) (by kernel_rfl) trivial (fun hHeld=> ?_);refine tkH 0 hHeld ?_;refine tkH 2 hHeld ?_;refine tkH 3 hHeld ?_;refine tkH 4 hHeld ?_;refine wpAnyH_ready (rs:= [1,5]) (by kernel_rfl) (by simp) ?_;refine AllReadyH.cons rfl (fun K hK=> ?_) (AllReadyH.cons rfl (fun K hK=> ?_) AllReadyH.nil)
     . skip;have e4:=Hv0.out.cell 4;go_simp;refine hK.out _ _ trivial (fun hHeld=> ?_);clear hK K e4
       try simp only[Act.put,tk4,tk5,tk6]
       refine wpAnyH_ready (rs:= [5]) (by kernel_rfl) (by simp) ?_;refine AllReadyH.cons rfl (fun K hK=> ?_) AllReadyH.nil;go_simp;(with_reducible refine(HC.out _ (Below.drew (Below.refl _ _))).mono ?_);rintro e w4 ⟨⟨cs,rfl,hf4⟩,h4⟩;obtain⟨la4,lc4,oa4,oc4,rfl⟩:=G7 hf4;obtain⟨wm,hs1,hs2,hs3⟩:=Iy HRw.out h4.undrew.1;have hI4:=HI.out.to_ hR h4.undrew;have Hrow4:=qz (HRow.out.keep (by rw[hs1];exact Nat.le_refl _) (fun i h1 _=>hs2 i (by omega)));have Hf4:Hid (Ch wm.heap.size w4 (dV (.mk k' b' n' t' l' o')) [.int .i64 k',.bool b',.int .i64 n',.string t',.slice la4 l'.length lc4,.slice oa4 o'.length oc4]):=by rw[hs1];exact hf4
       have Hv4:=qz hI4.var;obtain⟨Hs3,HI4⟩:=hid2 hs3 hI4;clear hs3 hI4;clear hf4 h4 hs2;refine hK.out _ _ trivial (fun hHeld=> ?_);clear hK K
       try simp only[Act.put,tk4,tk5,tk6]
       refine wpAnyH_ready (rs:= [6]) (by kernel_rfl) (by simp) ?_;refine AllReadyH.cons rfl (fun K hK=> ?_) AllReadyH.nil;go_simp;have Hv5:=qz (Hv4.out.alloc (.cells #[.int .i64 k',.bool b',.int .i64 n',.string t',.slice la4 l'.length lc4,.slice oa4 o'.length oc4] 37));refine hK.out _ _ trivial (fun hHeld=> ?_);clear hK K
       try simp only[Act.put,tk4,tk5,tk6]
       refine wpAnyH_ready (rs:= [7]) (by kernel_rfl) (by simp) ?_;refine AllReadyH.cons rfl (fun K hK=> ?_) AllReadyH.nil;have hbe:=Hs3.out.alloc Hs3.out.size (.cells #[.int .i64 k',.bool b',.int .i64 n',.string t',.slice la4 l'.length lc4,.slice oa4 o'.length oc4] 37);have hfe:=Hf4.out.later (Aa w4 (.cells #[.int .i64 k',.bool b',.int .i64 n',.string t',.slice la4 l'.length lc4,.slice oa4 o'.length oc4] 37));refine Fd (d:=dV (.mk k' b' n' t' l' o')) (V:=.slice aV (dL acc).length cV) (by rfl) (.tmp 18) (.tmp 23) 34 (by rfl) Tryz.underlying34 Hj.out Hy0.out Hy1.out Hy2.out rfl (by omega) (by rfl) Hrow4.out (by omega) hbe (Fk _) hfe (by rfl) (Rj w4 _ _ _ _ _ _) HLo.out.1 HLo.out.2 ?_;intro V6 w6 hrow6 hg6 hat6;have hto6:=Br.app (HI4.out.went.alloc (.cells #[.int .i64 k',.bool b',.int .i64 n',.string t',.slice la4 l'.length lc4,.slice oa4 o'.length oc4] 37)) hg6 Hrow4.out (by omega) hR;have hres6:=Ff (HI4.out.res.alloc (.cells #[.int .i64 k',.bool b',.int .i64 n',.string t',.slice la4 l'.length lc4,.slice oa4 o'.length oc4] 37)) hg6 Hrow4.out (by omega);have hv6:=Ff Hv5.out hg6 Hrow4.out (by omega);rw[Htk.out]at hrow6;refine hK.out _ _ trivial (fun hHeld=> ?_);clear hK K hg6 hat6 hfe hbe
       try simp only[Act.put,tk4]
       refine tkH 8 hHeld ?_;refine wpAnyH_ready (rs:= [9]) (by kernel_rfl) (by simp) ?_;refine AllReadyH.cons rfl (fun K hK=> ?_) AllReadyH.nil;have e6:=hv6.cell 4;have f6:=hv6.frozen 4;have hg6v:=hv6.lt;obtain⟨a6,c6,rfl⟩:=hrow6.slice;go_simp;refine hK.out _ _ trivial (fun hHeld=> ?_);clear hK K
       try simp only[Act.put,tk4,tk5,tk6]
       refine wpAnyH_done (by kernel_rfl) ?_ _;go_wp2;go_meet;exact⟨_,⟨hto6.setN _ (by simp) hR _,hres6.far (by simp) _,hv6.set_ 4 _⟩,hrow6.keep (by simp[World.setCell]) (fun i h1 _=>Below.heap_setCell _ _ _ _ (by simp;omega))⟩
     . skip;go_simp;(with_reducible refine(HC.out _ (Below.drew (Below.refl _ _))).mono ?_);rintro e w4 ⟨⟨cs,rfl,hf4⟩,h4⟩;obtain⟨la4,lc4,oa4,oc4,rfl⟩:=G7 hf4;obtain⟨wm,hs1,hs2,hs3⟩:=Iy HRw.out h4.undrew.1;have hI4:=HI.out.to_ hR h4.undrew;have Hrow4:=qz (HRow.out.keep (by rw[hs1];exact Nat.le_refl _) (fun i h1 _=>hs2 i (by omega)));have Hf4:Hid (Ch wm.heap.size w4 (dV (.mk k' b' n' t' l' o')) [.int .i64 k',.bool b',.int .i64 n',.string t',.slice la4 l'.length lc4,.slice oa4 o'.length oc4]):=by rw[hs1];exact hf4
       have Hv4:=qz hI4.var;obtain⟨Hs3,HI4⟩:=hid2 hs3 hI4;clear hs3 hI4;clear hf4 h4 hs2;refine hK.out _ _ trivial (fun hHeld=> ?_);clear hK K
       try simp only[Act.put,tk4,tk5,tk6]
       refine wpAnyH_ready (rs:= [1,6]) (by kernel_rfl) (by simp) ?_;refine AllReadyH.cons rfl (fun K hK=> ?_) (AllReadyH.cons rfl (fun K hK=> ?_) AllReadyH.nil)
       . skip;have e4:=Hv4.out.cell 4;go_simp;refine hK.out _ _ trivial (fun hHeld=> ?_);clear hK K e4
         try simp only[Act.put,tk4,tk5,tk6]
         refine wpAnyH_ready (rs:= [6]) (by kernel_rfl) (by simp) ?_;refine AllReadyH.cons rfl (fun K hK=> ?_) AllReadyH.nil;go_simp;have Hv5:=qz (Hv4.out.alloc (.cells #[.int .i64 k',.bool b',.int .i64 n',.string t',.slice la4 l'.length lc4,.slice oa4 o'.length oc4] 37));refine hK.out _ _ trivial (fun hHeld=> ?_);clear hK K
         try simp only[Act.put,tk4,tk5,tk6]
         refine wpAnyH_ready (rs:= [7]) (by kernel_rfl) (by simp) ?_;refine AllReadyH.cons rfl (fun K hK=> ?_) AllReadyH.nil;have hbe:=Hs3.out.alloc Hs3.out.size (.cells #[.int .i64 k',.bool b',.int .i64 n',.string t',.slice la4 l'.length lc4,.slice oa4 o'.length oc4] 37);have hfe:=Hf4.out.later (Aa w4 (.cells #[.int .i64 k',.bool b',.int .i64 n',.string t',.slice la4 l'.length lc4,.slice oa4 o'.length oc4] 37));refine Fd (d:=dV (.mk k' b' n' t' l' o')) (V:=.slice aV (dL acc).length cV) (by rfl) (.tmp 18) (.tmp 23) 34 (by rfl) Tryz.underlying34 Hj.out Hy0.out Hy1.out Hy2.out rfl (by omega) (by rfl) Hrow4.out (by omega) hbe (Fk _) hfe (by rfl) (Rj w4 _ _ _ _ _ _) HLo.out.1 HLo.out.2 ?_;intro V6 w6 hrow6 hg6 hat6;have hto6:=Br.app (HI4.out.went.alloc (.cells #[.int .i64 k',.bool b',.int .i64 n',.string t',.slice la4 l'.length lc4,.slice oa4 o'.length oc4] 37)) hg6 Hrow4.out (by omega) hR;have hres6:=Ff (HI4.out.res.alloc (.cells #[.int .i64 k',.bool b',.int .i64 n',.string t',.slice la4 l'.length lc4,.slice oa4 o'.length oc4] 37)) hg6 Hrow4.out (by omega);have hv6:=Ff Hv5.out hg6 Hrow4.out (by omega);rw[Htk.out]at hrow6;refine hK.out _ _ trivial (fun hHeld=> ?_);clear hK K hg6 hat6 hfe hbe
         try simp only[Act.put,tk4]
         refine tkH 8 hHeld ?_;refine wpAnyH_ready (rs:= [9]) (by kernel_rfl) (by simp) ?_;refine AllReadyH.cons rfl (fun K hK=> ?_) AllReadyH.nil;have e6:=hv6.cell 4;have f6:=hv6.frozen 4;have hg6v:=hv6.lt;obtain⟨a6,c6,rfl⟩:=hrow6.slice;go_simp;refine hK.out _ _ trivial (fun hHeld=> ?_);clear hK K
         try simp only[Act.put,tk4,tk5,tk6]
         refine wpAnyH_done (by kernel_rfl) ?_ _;go_wp2;go_meet;exact⟨_,⟨hto6.setN _ (by simp) hR _,hres6.far (by simp) _,hv6.set_ 4 _⟩,hrow6.keep (by simp[World.setCell]) (fun i h1 _=>Below.heap_setCell _ _ _ _ (by simp;omega))⟩
       . skip;go_simp;have Hv5:=qz (Hv4.out.alloc (.cells #[.int .i64 k',.bool b',.int .i64 n',.string t',.slice la4 l'.length lc4,.slice oa4 o'.length oc4] 37));refine hK.out _ _ trivial (fun hHeld=> ?_);clear hK K
         try simp only[Act.put,tk4,tk5,tk6]
         refine wpAnyH_ready (rs:= [1]) (by kernel_rfl) (by simp) ?_;refine AllReadyH.cons rfl (fun K hK=> ?_) AllReadyH.nil;have e4:=Hv5.out.cell 4;go_simp;refine hK.out _ _ trivial (fun hHeld=> ?_);clear hK K e4
         try simp only[Act.put,tk4,tk5,tk6]
         refine wpAnyH_ready (rs:= [7]) (by kernel_rfl) (by simp) ?_;refine AllReadyH.cons rfl (fun K hK=> ?_) AllReadyH.nil;have hbe:=Hs3.out.alloc Hs3.out.size (.cells #[.int .i64 k',.bool b',.int .i64 n',.string t',.slice la4 l'.length lc4,.slice oa4 o'.length oc4] 37);have hfe:=Hf4.out.later (Aa w4 (.cells #[.int .i64 k',.bool b',.int .i64 n',.string t',.slice la4 l'.length lc4,.slice oa4 o'.length oc4] 37));refine Fd (d:=dV (.mk k' b' n' t' l' o')) (V:=.slice aV (dL acc).length cV) (by rfl) (.tmp 18) (.tmp 23) 34 (by rfl) Tryz.underlying34 Hj.out Hy0.out Hy1.out Hy2.out rfl (by omega) (by rfl) Hrow4.out (by omega) hbe (Fk _) hfe (by rfl) (Rj w4 _ _ _ _ _ _) HLo.out.1 HLo.out.2 ?_;intro V6 w6 hrow6 hg6 hat6;have hto6:=Br.app (HI4.out.went.alloc (.cells #[.int .i64 k',.bool b',.int .i64 n',.string t',.slice la4 l'.length lc4,.slice oa4 o'.length oc4] 37)) hg6 Hrow4.out (by omega) hR;have hres6:=Ff (HI4.out.res.alloc (.cells #[.int .i64 k',.bool b',.int .i64 n',.string t',.slice la4 l'.length lc4,.slice oa4 o'.length oc4] 37)) hg6 Hrow4.out (by omega);have hv6:=Ff Hv5.out hg6 Hrow4.out (by omega);rw[Htk.out]at hrow6;refine hK.out _ _ trivial (fun hHeld=> ?_);clear hK K hg6 hat6 hfe hbe
         try simp only[Act.put,tk4]
         refine tkH 8 hHeld ?_;refine wpAnyH_ready (rs:= [9]) (by kernel_rfl) (by simp) ?_;refine AllReadyH.cons rfl (fun K hK=> ?_) AllReadyH.nil;have e6:=hv6.cell 4;have f6:=hv6.frozen 4;have hg6v:=hv6.lt;obtain⟨a6,c6,rfl⟩:=hrow6.slice;go_simp;refine hK.out _ _ trivial (fun hHeld=> ?_);clear hK K
         try simp only[Act.put,tk4,tk5,tk6]
         refine wpAnyH_done (by kernel_rfl) ?_ _;go_wp2;go_meet;exact⟨_,⟨hto6.setN _ (by simp) hR _,hres6.far (by simp) _,hv6.set_ 4 _⟩,hrow6.keep (by simp[World.setCell]) (fun i h1 _=>Below.heap_setCell _ _ _ _ (by simp;omega))⟩
    obtain⟨V',hI5,hrow5⟩:=hcut.out;have hq':Aq s.data.toList q<=s.size:=Dv hw2;have hq1:=C5 s.data.toList q;clear hcut HC HI Dl Htk Hv0 HRow HRw HLo ewr
    cases h44:decide (s.data.toList[Aq s.data.toList q]? =some 44)with
    |true=>
     have hC44:=Ec R g s q 44 44 (by decide) wc (by omega) hw2 hI5.went.2 h44;rw[if_pos rfl]at hC44;have hc:=h44;rw[decide_eq_true_iff]at hc;have hr':=His.out;rw[if_pos hc]at hr';have hlt8:=Cz hc;rw[Al]at hlt8;clear hc h44;obtain⟨HI5,Hrow5,HC44,Hr'⟩:=hid4 hI5 hrow5 hC44 hr';clear hI5 hrow5 hC44 hr';go_wp2_with (fail);(with_reducible refine(HC44.out).mono ?_);rintro e w8 ⟨rfl,h8⟩;have HN:Hid (LRd w w8 R g s d RES (f+1) n (Aq s.data.toList q+1) (acc++ [.mk k' b' n' t' l' o']) V'):=⟨HI5.out.to_ hR h8,Hrow5.out.keep h8.1.size (fun i h1 h2=>h8.1.block i h2 (by intro e;have:=Option.some.inj e;omega)),Hr'.out,by omega,by omega,by simp;omega⟩;clear h8;go_wp2
     go_roundg n
     case measure=>omega
     case rel=>exact⟨n,_,_,_,rfl,by omega,HN⟩
    |false=>
     have hC44:=Ec R g s q 44 44 (by decide) wc (by omega) hw2 hI5.went.2 h44;rw[if_neg (by decide)]at hC44;have hc:=h44;rw[decide_eq_false_iff_not]at hc;have hr':=His.out;rw[if_neg hc]at hr';clear hc h44
     cases h93:decide (s.data.toList[Aq s.data.toList q]? =some 93)with
     |true=>
      have hc:=h93;rw[decide_eq_true_iff]at hc;rw[if_pos hc]at hr';clear hc;subst hr';obtain⟨HI5,Hrow5,HC44,H93⟩:=hid4 hI5 hrow5 hC44 h93;clear hI5 hrow5 hC44 h93;go_wp2_with (fail);(with_reducible refine(HC44.out).mono ?_);rintro e w8 ⟨rfl,h8⟩;have h93':=H93.out;rw[<-Ea]at h93';have hC93:=Ec R g s (Aq s.data.toList q) 93 93 (by decide) w8 (by omega) hq' h8.2 h93';rw[if_pos rfl,Ea]at hC93;have hI8:=HI5.out.to_ hR h8;have Hrow8:=qz (Hrow5.out.keep h8.1.size (fun i h1 h2=>h8.1.block i h2 (by intro e;have:=Option.some.inj e;omega)));clear h8 h93';obtain⟨HI8,HC93⟩:=hid2 hI8 hC93;clear hI8 hC93;go_wp2_with (fail);(with_reducible refine(HC93.out).mono ?_);rintro e w9 ⟨rfl,h9⟩;have hI9:=HI8.out.to_ hR h9;have hrow9:=Hrow8.out.keep h9.1.size (fun i h1 h2=>h9.1.block i h2 (by intro e;have:=Option.some.inj e;omega));clear h9;obtain⟨y0,y1,y2,y3,y4,y5⟩:=Bp hI9.var;obtain⟨r0,r1,r2,r3,r4,r5⟩:=Bp hI9.res;have fz:=hI9.res.frozen;obtain⟨a',c',rfl,_,hfr,_⟩:=hrow9.close;have el:(dL (acc++ [Val.mk k' b' n' t' l' o'])).length=acc.length+1:=by rw[Qz];simp
      rw[el]at hfr y4;obtain⟨hxf,hto⟩:=hI9.leave hR (.int .i64 5) (.bool false) (.int .i64 0) (.string ⟨#[]⟩) (.slice a' (acc.length+1) c') (.slice none 0 0);have Hff:=qz (Ahs (hfr.keep (b':=w.heap.size) (w':=Ak w9 w.heap.size 0 [.int .i64 5,.bool false,.int .i64 0,.string ⟨#[]⟩,.slice a' (acc.length+1) c',.slice none 0 0]) (by omega) (by rw[Ca];exact Nat.le_refl _) (fun p p1 p2=>World.cell?_of_block (A0 _ _ _ _ _ (by omega)))));obtain⟨HI9,Hrow9,Hxf,Hto,Hfr⟩:=hid5 hI9 hrow9 hxf hto hfr;clear hI9 hrow9 hxf hto hfr;go_upto_region 9 with(fail);go_wp2;rw[Exit.noGoto_ret];exact bodyPost_ret (Cy rfl rfl Hxf.out) rfl ⟨⟨_,rfl,Hff.out⟩,Hto.out⟩
     |false=>
      have hc:=h93;rw[decide_eq_false_iff_not]at hc;rw[if_neg hc]at hr';clear hc;subst hr';obtain⟨HI5,Hrow5,HC44,H93⟩:=hid4 hI5 hrow5 hC44 h93;clear hI5 hrow5 hC44 h93;go_wp2_with (fail);(with_reducible refine(HC44.out).mono ?_);rintro e w8 ⟨rfl,h8⟩;have h93':=H93.out;rw[<-Ea]at h93';have hC93:=Ec R g s (Aq s.data.toList q) 93 93 (by decide) w8 (by omega) hq' h8.2 h93';rw[if_neg (by decide),Ea]at hC93;have HI8:=qz (HI5.out.to_ hR h8);clear h8 h93';have HC93:=qz hC93;clear hC93;go_wp2_with (fail);(with_reducible refine(HC93.out).mono ?_);rintro e w9 ⟨rfl,h9⟩;have HI9:=qz (HI8.out.to_ hR h9);obtain⟨z0,z1,_,_,_⟩:=h9.2.cells;clear h9;have HW:=qz (Cp (.pointer (some ⟨R,0,none⟩)) 4 (Aq s.data.toList q:Nat) w9);go_wp2_with (fail);(with_reducible refine(HW.out).mono ?_);rintro e w10 ⟨rfl,rfl⟩;exact⟨rfl,rfl,HI9.out.went.1⟩
abbrev Aoj:TypeId:=257
theorem Q8:MKey Tryz.prog 9 Value.string:=Aca Tryz.underlying9
def Ub (acc:List (ByteArray×Val)):List (ByteArray×Value):=acc.map fun m=>(m.1,Value.agg #[])
theorem Ahw (a:ByteArray) (m:ByteArray×Val) (r:List (ByteArray×Val)):Lj a (m::r)=(decide (m.1=a)||Lj a r):=rfl
theorem Tw (a:ByteArray): ∀acc:List (ByteArray×Val),E8 a (Ub acc)=if Lj a acc=true then some (.agg #[])else none
 | []=>rfl
 |m::r=>by
  have ih:=Tw a r;show(if a=m.1 then some (Value.agg #[])else E8 a (Ub r))=_;rw[Ahw];by_cases h:a=m.1
  . rw[if_pos h,decide_eq_true h.symm,Bool.true_or,if_pos rfl]
  . rw[if_neg h,ih,decide_eq_false (fun e=>h e.symm),Bool.false_or]
def Aje (R g G:Nat) (s:ByteArray) (acc:List (ByteArray×Val)) (w:World) (r:Rd (List UInt8)) (p:Nat) (e:Ending) (w':World):Prop:=match r with
 | .bad c q=>e=L9 c q/\w.grownBy w' (some R)
 | .ok k q=>if Lj ⟨k.toArray⟩ acc=true then e=L9 8 p/\w.grownBy w' (some R)
   else e=.returned (.string ⟨k.toArray⟩)/\ ∃w1,Br R g s q w w1/\w1.grownBy w' (some G)/\De Value.string w' G (Ub acc++ [(⟨k.toArray⟩,.agg #[])])
theorem De.grown {α:Type} {f:α->Value} {w w':World} {g:Nat} {kv:List (α×Value)} {r:Option Nat} (h:De f w g kv) (t:w.grownBy w' r) (hg:some g≠r):De f w' g kv:=h.keep (t.block g h.lt hg)
theorem Yh (w:World):(zeroValue 309).run Tryz.prog w=.ok (.agg #[]) w:=by kernel_rfl
theorem Acx (R g G:Nat) (s:ByteArray) (acc:List (ByteArray×Val)) (k:Nat) (w:World) (hT: ∀W,w.grownBy W (some R)->Cm W) (hs:s.size<=1000000000) (hk:k<=s.size) (h:Wk w R g s k) (hM:De Value.string w G (Ub acc)) (hG:G≠R):
 Calls Tryz.prog 207 #[.pointer (some ⟨R,0,none⟩),.map (some G)] w (Aje R g G s acc w (Eg s.data.toList (Aq s.data.toList k)) (Aq s.data.toList k)):=by
 have hS:=Gp R g s k w hs hk h;have hp:=Dv hk;generalize Aq s.data.toList k=p at hS hp ⊢;have hne:some G≠some R:=fun e=>hG (Option.some.inj e)
 cases hr:Eg s.data.toList p with
 |bad c q=>
  obtain⟨HS,HT,HM,Hr⟩:=hid4 hS hT hM hr;clear hS hT hM hr;clear h;go_enter Tryz.func207,Tryz.ntmps207;go_wp2_with (fail);(with_reducible refine(HS.out).mono ?_);rintro e w1 ⟨rfl,h1⟩;obtain⟨c0,c1,_,f1,hR⟩:=h1.2.cells;have hQ:=I0 R g s p w1 (HT.out w1 h1.1) hs hp h1.2;rw[Hr.out]at hQ;obtain⟨H1,HQ⟩:=hid2 h1 hQ;clear h1 hQ;go_wp2_with (fail);(with_reducible refine(HQ.out).mono ?_);rintro e w2 ⟨rfl,h2⟩;exact⟨rfl,rfl,Ck H1.out.1 h2⟩
 |ok kk q=>
  unfold Aje;dsimp only;obtain⟨KK,hKK⟩: ∃K:ByteArray,(⟨kk.toArray⟩:ByteArray)=K:=⟨_,rfl⟩;rw[hKK];have hF:=Tw KK acc
  cases hh:Lj KK acc with
  |true=>
   rw[hh,if_pos rfl]at hF;simp only[if_true];obtain⟨HS,HT,HM,Hr,HF,HKK⟩:=hid6 hS hT hM hr hF hKK;clear hS hT hM hr hF hKK;clear h;go_enter Tryz.func207,Tryz.ntmps207;go_wp2_with (fail);(with_reducible refine(HS.out).mono ?_);rintro e w1 ⟨rfl,h1⟩;obtain⟨c0,c1,_,f1,hR⟩:=h1.2.cells;have hQ:=I0 R g s p w1 (HT.out w1 h1.1) hs hp h1.2;rw[Hr.out]at hQ;obtain⟨H1,HQ⟩:=hid2 h1 hQ;clear h1 hQ;go_wp2_with (fail);(with_reducible refine(HQ.out).mono ?_);rintro e w2 ⟨e1,h2⟩;rw[HKK.out]at e1;subst e1;have hM2:=(HM.out.grown H1.out.1 hne).grown h2.1 hne;have hrun:=Ln Q8 Tryz.underlying257 hM2 KK Yh true;rw[HF.out]at hrun;simp only[Option.getD_some,Option.isSome_some,if_true]at hrun;have H12:=qz (Ck H1.out.1 h2.1);have HM2:=qz hM2;clear hM2;clear h2;go_wp2_with (fail);(with_reducible refine(Cp _ _ _ _).mono ?_);rintro e w3 ⟨rfl,rfl⟩;exact⟨rfl,rfl,Iw H12.out _⟩
  |false=>
   rw[hh,if_neg (by decide)]at hF;simp only[Bool.false_eq_true,if_false];obtain⟨HS,HT,HM,Hr,HF,HKK⟩:=hid6 hS hT hM hr hF hKK;clear hS hT hM hr hF hKK;clear h;go_enter Tryz.func207,Tryz.ntmps207;go_wp2_with (fail);(with_reducible refine(HS.out).mono ?_);rintro e w1 ⟨rfl,h1⟩;obtain⟨c0,c1,_,f1,hR⟩:=h1.2.cells;have hQ:=I0 R g s p w1 (HT.out w1 h1.1) hs hp h1.2;rw[Hr.out]at hQ;obtain⟨H1,HQ⟩:=hid2 h1 hQ;clear h1 hQ;go_wp2_with (fail);(with_reducible refine(HQ.out).mono ?_);rintro e w2 ⟨e1,h2⟩;rw[HKK.out]at e1;subst e1;have hM2:=(HM.out.grown H1.out.1 hne).grown h2.1 hne;have hrun:=Ln Q8 Tryz.underlying257 hM2 KK Yh true;rw[HF.out]at hrun;simp only[Option.getD_none,Option.isSome_none,if_true]at hrun;obtain⟨w4,hrun4,hM4,hg4,_⟩:=Nj Q8 Tryz.underlying257 (hM2.alloc (.cells #[] 309)) HF.out (.agg #[]);have h12:=(H1.out.trans h2).alloc (.cells #[] 309);have HG:=qz (And.intro h12 (And.intro hg4 hM4));clear h2 hM2 hM4 hg4 h12;go_wp2;go_ret;exact⟨rfl,_,HG.out.1,HG.out.2.1,HG.out.2.2⟩
end Go.Proofs.YtkmcjfkokoidcaaGreatDoor
