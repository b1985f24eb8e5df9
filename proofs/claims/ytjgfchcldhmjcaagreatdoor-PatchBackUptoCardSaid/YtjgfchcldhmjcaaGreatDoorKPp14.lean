/- Parts: tree.whichKid: the kid in which a key is, or belongs. Condition: at most 1000 kids, rising. -/
import Derived.Deep.DeepCutAuto
import Derived.Laws.MakeOwn
import Derived.Test.YtjgfchcldhmjcaaGreatDoorZPpShelfO
import Derived.Shelf.SlSorted.Search
import Derived.Test.YtjgfchcldhmjcaaGreatDoorKPp11
import Derived.Test.YtjgfchcldhmjcaaGreatDoorKPp12
set_option maxHeartbeats 20000000
set_option maxRecDepth 100000
namespace Go.Proofs.YtjgfchcldhmjcaaGreatDoor
open Go.RowKit
def Jj (w:World) (v:Val) (e:Ending) (w':World):Prop:=(∃cs',e=.returned (.agg (cs':List Value).toArray)/\cs'.length=6/\A7 w.heap.size w' (dV v) cs')/\Below w.heap.size w w'
def Ab2 (v:Val):Prop:= ∀(cs:List Value) (w:World),Ab w w.heap.size v cs->v.bulk<=100000000->Calls Tryz.prog 75 #[.agg cs.toArray] w (Jj w v)
theorem Kj {P:Program} (t e:TypeId) (i:TypeInfo) (z:Value) (g:P.underlying t=some (.slice e)) (f:P.info? e=some i) (j:i.zero=some z)
 (n:Nat) (a:i.bytes*n<=281474976710656) (c:n<=9223372036854775807) (w:World):
 (Instr.makeSlice t (.int .i64 (n:Int)) (.int .i64 (n:Int))).run P w=.ok (.slice (some ⟨w.heap.size,0,none⟩) n n) (w.alloc (.cells (madeCells z.cells (n*i.size)) e)):=by
 have d:(i.bytes:Int)*(n:Int)<=281474976710656:=by
  have h:((i.bytes*n:Nat):Int)<=281474976710656:=by omega
  rwa [Int.natCast_mul]at h
 have b:=run_make (P:=P) w t e i z g f j .i64 .i64 n n (by omega) (by omega) d (by omega);simp only[Int.toNat_natCast]at b;exact b
def VA (w wx:World) (b1 z b3:Array Value) (wr:World):Prop:=
 Below w.heap.size w wr/\Ap wr w.heap.size 42 b1/\Ap wr (w.heap.size+1) 42 z/\Ap wr (w.heap.size+2) 42 b3/\(∀c,w.heap.size+3<=c->c<wx.heap.size->wr.heap[c]? =wx.heap[c]?)/\wx.heap.size<=wr.heap.size/\w.heap.size+3<=wx.heap.size
def Ly (w wx:World) (b1 z b3:Array Value) (g s N:Nat) (t:TypeId) (l:List D) (wr:World):Prop:=VA w wx b1 z b3 wr/\Ew wx.heap.size g t s N wr l
def VP (w wx:World) (b1 z b3:Array Value) (l:List D) (s:Nat) (V:Value) (wr:World):Prop:=VA w wx b1 z b3 wr/\A7 wx.heap.size wr (.row s l) [V]
theorem VP.nil {w f wr:World} {b z e:Array Value} (s:Nat) (h:VA w f b z e wr) (a:Option Addr) (c:Nat):VP w f b z e [] s (.slice a 0 c) wr:=
 ⟨h,fun _ _ _=>⟨a,c,rfl,fun d g=>(by cases g), [],rfl,.inl rfl⟩⟩
theorem Ly.step {w n:World} {e z f:Array Value} {g s N:Nat} {t:TypeId} {l:List D} {wr w4:World} {d:D} {cs:List Value} (h:Ly w n e z f g s N t l wr) (b:Below wr.heap.size wr w4) (y:A7 wr.heap.size w4 d cs) (u:l.length<N) (q:d.cells=s):
 Ly w n e z f g s N t (l++ [d]) (A4 w4 g (l.length*s) cs):=by
 obtain⟨⟨k,A,B,C,r,G,x⟩,m⟩:=h;have E:=m.1;have v:=b.size;have a: ∀{i:Nat} {c:Array Value},i<w.heap.size+3->Ap wr i 42 c->Ap (A4 w4 g (l.length*s) cs) i 42 c:=fun F j=>(Ay cs w4 g _ _ (by omega)).trans (j.below b j.lt);exact⟨⟨As cs (k.trans (b.mono k.size)) (by omega),a (by omega) A,a (by omega) B,a (by omega) C,fun c o p=>(Ay cs w4 g _ _ (by omega)).trans ((b.block c (by omega)).trans (r c o p)),by rw[Ba];omega,x⟩,m.step u q y b⟩
theorem Ly.done {w d:World} {a z b:Array Value} {g s N:Nat} {t:TypeId} {l:List D} {wr:World} (h:Ly w d a z b g s N t l wr) (hN:l.length=N) (c:Nat):VP w d a z b l s (.slice (some ⟨g,0,none⟩) N c) wr:=by
 subst hN;exact⟨h.1,h.2.close c⟩
theorem Xc {W w1:World} (a:Below W.heap.size W w1):(∀b o,b<W.heap.size->w1.cell? ⟨b,o,none⟩=W.cell? ⟨b,o,none⟩)/\(∀b o,b<W.heap.size->w1.frozen? ⟨b,o,none⟩=W.frozen? ⟨b,o,none⟩):=
 ⟨fun b o h=>a.cell (p:=⟨b,o,none⟩) h,fun b o h=>a.frozen (p:=⟨b,o,none⟩) h⟩
theorem Ad5 (k:Int) (b:Bool) (n:Int) (t:ByteArray) (l:List Val) (o:List (ByteArray×Val)) (C D:Option Addr) (oc K:Nat) (w:World) (IH: ∀v ∈ l,Ab2 v) (a2: ∀m ∈ o,Ab2 m.2)
 (hl:l= []\/ ∃g h,C=some ⟨g,h,none⟩/\g<w.heap.size/\Aq w w.heap.size l g h) (ho:o= []\/ ∃g h,D=some ⟨g,h,none⟩/\g<w.heap.size/\An w w.heap.size o g h) (bq:A5 l<=100000000) (br:Af o<=100000000):
 Calls Tryz.prog 75 #[.agg #[.int .i64 k,.bool b,.int .i64 n,.string t,.slice C l.length K,.slice D o.length oc]] w (Jj w (.mk k b n t l o)):=by
 have bs:=C9 l;have bt:=B5 o;obtain⟨i0,hi,bb,bc,bd⟩:=info_parts O7;obtain⟨j0,hj,a8,a9,ba⟩:=info_parts O6;have an:=fun W=>Kj (P:=Tryz.prog) 39 42 i0 _ Tryz.underlying39 hi bb l.length (by rw[bd];omega) (by omega) W;have aa:=fun W=>Kj (P:=Tryz.prog) 40 111 j0 _ Tryz.underlying40 hj a8 o.length (by rw[ba];omega) (by omega) W;rw[bc]at an;rw[a9]at aa;obtain⟨M1,ar⟩: ∃M,madeCells (Value.cells (.agg #[.int .i64 0,.bool false,.int .i64 0,.string ⟨#[]⟩,.slice none 0 0,.slice none 0 0])) (l.length*6)=M:=⟨_,rfl⟩;obtain⟨M2,au⟩: ∃M,madeCells (Value.cells (.agg #[.string ⟨#[]⟩,.int .i64 0,.bool false,.int .i64 0,.string ⟨#[]⟩,.slice none 0 0,.slice none 0 0])) (o.length*7)=M:=⟨_,rfl⟩;simp only[ar]at an;simp only[au]at aa;have ap:=qz (show M1.size=l.length*6 from by rw[<-ar,size_madeCells]);have al:=qz (show M2.size=o.length*7 from by rw[<-au,size_madeCells]);obtain⟨a1,ao,HL,HO⟩:=hid4 IH a2 hl ho;clear IH a2 hl ho ar au hi bb bc bd hj a8 a9 ba;go_enter Tryz.func75,Tryz.ntmps75;go_upto_if 14 with(fail);obtain⟨w0,az⟩: ∃w0,((w.alloc (.cells #[.int .i64 k,.bool b,.int .i64 n,.string t,.slice C l.length K,.slice D o.length oc] 42)).alloc (.cells #[.int .i64 0,.bool false,.int .i64 0,.string ⟨#[]⟩,.slice none 0 0,.slice none 0 0] 42)).alloc (.cells #[.int .i64 k,.bool b,.int .i64 n,.string t,.slice none 0 0,.slice none 0 0] 42)=w0:=⟨_,rfl⟩;have aq:VA w w0 #[.int .i64 k,.bool b,.int .i64 n,.string t,.slice C l.length K,.slice D o.length oc] #[.int .i64 0,.bool false,.int .i64 0,.string ⟨#[]⟩,.slice none 0 0,.slice none 0 0] #[.int .i64 k,.bool b,.int .i64 n,.string t,.slice none 0 0,.slice none 0 0] w0:=by
  rw[<-az];refine⟨(((Below.refl _ _).alloc (Nat.le_refl _) _).alloc (by simp) _).alloc (by simp;omega) _,((Ap.new w 42 #[.int .i64 k,.bool b,.int .i64 n,.string t,.slice C l.length K,.slice D o.length oc]).alloc (.cells #[.int .i64 0,.bool false,.int .i64 0,.string ⟨#[]⟩,.slice none 0 0,.slice none 0 0] 42)).alloc (.cells #[.int .i64 k,.bool b,.int .i64 n,.string t,.slice none 0 0,.slice none 0 0] 42), ?_, ?_,fun _ _ _=>rfl,Nat.le_refl _,by simp⟩
  . have:=(Ap.new (w.alloc (.cells #[.int .i64 k,.bool b,.int .i64 n,.string t,.slice C l.length K,.slice D o.length oc] 42)) 42 #[.int .i64 0,.bool false,.int .i64 0,.string ⟨#[]⟩,.slice none 0 0,.slice none 0 0]).alloc (.cells #[.int .i64 k,.bool b,.int .i64 n,.string t,.slice none 0 0,.slice none 0 0] 42);simpa using this
  . have:=Ap.new ((w.alloc (.cells #[.int .i64 k,.bool b,.int .i64 n,.string t,.slice C l.length K,.slice D o.length oc] 42)).alloc (.cells #[.int .i64 0,.bool false,.int .i64 0,.string ⟨#[]⟩,.slice none 0 0,.slice none 0 0] 42)) 42 #[.int .i64 k,.bool b,.int .i64 n,.string t,.slice none 0 0,.slice none 0 0];simpa using this
 rw[az];clear az;have bu:w.heap.size+3<=w0.heap.size:=aq.2.2.2.2.2.2;have R:=qz aq;clear aq;go_cut [] (fun wx=> ∃a c,Hid (VP w w0 #[.int .i64 k,.bool b,.int .i64 n,.string t,.slice C l.length K,.slice D o.length oc] #[.int .i64 0,.bool false,.int .i64 0,.string ⟨#[]⟩,.slice none 0 0,.slice none 0 0] #[.int .i64 k,.bool b,.int .i64 n,.string t,.slice a l.length c,.slice none 0 0] (dL l) 6 (.slice a l.length c) wx))
 case first=>
  by_cases h0:l= []
  . subst h0;go_wp2;go_meet;exact⟨none,0,VP.nil 6 R.out none 0⟩
  . have a7:0<l.length:=List.length_pos_iff.2 h0;obtain⟨_,y1,y2,y3,_⟩:=R.out;obtain⟨b0,b1,b2,b3,U,b5⟩:=At y1;obtain⟨e0,e1,e2,e3,e4,e5⟩:=At y3;have f3:=y3.frozen 4;have g0:w.heap.size<w0.heap.size:=by omega
    have g2:w.heap.size+2<w0.heap.size:=by omega
    obtain⟨Y1,Y2,Y3⟩:=hid3 y1 y2 y3;clear y1 y2 y3;go_wp2_with (fail);obtain⟨w1,J⟩: ∃w1,(w0.setCell ⟨w.heap.size+1+1,4,none⟩ (.slice (some ⟨w0.heap.size,0,none⟩) l.length l.length)).alloc (.cells M1 42)=w1:=⟨_,rfl⟩;have hV:Ly w w0 #[.int .i64 k,.bool b,.int .i64 n,.string t,.slice C l.length K,.slice D o.length oc] #[.int .i64 0,.bool false,.int .i64 0,.string ⟨#[]⟩,.slice none 0 0,.slice none 0 0] #[.int .i64 k,.bool b,.int .i64 n,.string t,.slice (some ⟨w0.heap.size,0,none⟩) l.length l.length,.slice none 0 0] w0.heap.size 6 l.length 42 (dL (l.take 0)) w1:=by
     rw[<-J];obtain⟨z1,z2,z3,z4,z5,z6,z7⟩:=R.out;refine⟨⟨(z1.setCell (by simp;omega) _).alloc (by simp;omega) _,(z2.far (by simp;omega) _).alloc _,(z3.far (by simp) _).alloc _,(z4.set_ 4 _).alloc _,fun c h1 h2=> ?_,by simp,z7⟩,Ew.start (Nat.le_refl _) ?_ ap.out⟩
     . rw[Lib.alloc_old _ _ _ (by simp;omega),D8 _ _ _ _ (by omega)]
     . have:=heap_alloc_new (w0.setCell ⟨w.heap.size+1+1,4,none⟩ (.slice (some ⟨w0.heap.size,0,none⟩) l.length l.length)) (.cells M1 42);simpa using this
    have HV:=qz hV;rw[J];clear J hV b0 b1 b2 b3 U b5 e0 e1 e2 e3 e4 e5 f3 R Y1 Y2 Y3 ap al an aa;go_loopw [23] (fun i wr=> ∃q:Nat,i=.int .i64 q/\q<=l.length/\Hid (Ly w w0 #[.int .i64 k,.bool b,.int .i64 n,.string t,.slice C l.length K,.slice D o.length oc] #[.int .i64 0,.bool false,.int .i64 0,.string ⟨#[]⟩,.slice none 0 0,.slice none 0 0] #[.int .i64 k,.bool b,.int .i64 n,.string t,.slice (some ⟨w0.heap.size,0,none⟩) l.length l.length,.slice none 0 0] w0.heap.size 6 l.length 42 (dL (l.take q)) wr)) (fun i _=>l.length - (intOf i).toNat)
    case atStart=>exact⟨0,rfl,Nat.zero_le _,HV⟩
    case round=>
     obtain⟨q,rfl,hq,hv⟩:=hrel;clear HV;by_cases Z:q<l.length
     . obtain⟨g,h,rfl,hg,V⟩: ∃g h,C=some ⟨g,h,none⟩/\g<w.heap.size/\Aq w w.heap.size l g h:=HL.out.resolve_left h0;obtain⟨x,hx⟩: ∃v,l[q]? =some v:=⟨_,List.getElem?_eq_getElem Z⟩;have y:=List.mem_of_getElem? hx;have L:=a1.out _ y;have a6:=Dp y;have:=trivial;have ab:dL (l.take (q+1))=dL (l.take q)++ [dV x]:=by rw[List.take_add_one,hx,Gz,Gz];simp
       have z:(dL (l.take q)).length=q:=by rw[K8,List.length_take];omega
       obtain⟨⟨G,x1,x2,x3,hk,ay,a0⟩,hF⟩:=hv.out;have hz:=G.size;have U:=x3.cell 4;obtain⟨N,b',O,Q,l',o'⟩:=x;obtain⟨ad,af,ah,aj,ac,c0,c1,c2,c3,c4,c5⟩:=(V.below hg G).six hx;have hC: ∀W,Below wr.heap.size wr W->Calls Tryz.prog 75 #[.agg #[.int .i64 N,.bool b',.int .i64 O,.string Q,.slice ad l'.length af,.slice ah o'.length aj]] W (Jj W (.mk N b' O Q l' o')):=fun W E=>
        L _ W (Ab.more (Nat.le_trans hz E.size) _ _ (ac.below (E.mono hz))) (by omega)
       have bk:g<wr.heap.size:=by omega
       have ax:w.heap.size+2<wr.heap.size:=x3.lt;have bj:=hF.lt;have s: ∀W,Below wr.heap.size wr W->(∀j,j<6-> ∃u,W.cell? ⟨w0.heap.size,q*6+j,none⟩=some u)/\(∀j,W.frozen? ⟨w0.heap.size,j,none⟩=false):=fun W E=>by
        have h1:=(hF.below E).cell;exact⟨fun j hj=>h1.1 _ (by omega),h1.2⟩
       have y1:(q:Int)<(l.length:Int):=by omega
       have n1:w.heap.size+2≠w0.heap.size:=by omega
       have n2:wr.heap.size≠w0.heap.size:=by omega
       have n3:=n1.symm;have n4:=n2.symm;obtain⟨HC,r,T,f⟩:=hid4 hC s ab z;clear hC s ab z;clear G x1 x2 x3 hF ac hx y L V hk ay a0;go_wp2_with (fail)
       go_region_held3 (fun W=>W.cell? ⟨w.heap.size+2,4,none⟩=some (.slice (some ⟨w0.heap.size,0,none⟩) l.length l.length)/\W.cell? ⟨wr.heap.size,0,none⟩=some (.int .i64 N)/\W.cell? ⟨wr.heap.size,1,none⟩=some (.bool b')/\W.cell? ⟨wr.heap.size,2,none⟩=some (.int .i64 O)/\W.cell? ⟨wr.heap.size,3,none⟩=some (.string Q)/\W.cell? ⟨wr.heap.size,4,none⟩=some (.slice ad l'.length af)/\W.cell? ⟨wr.heap.size,5,none⟩=some (.slice ah o'.length aj)) (go_keep) (first|(go_at_call 75;refine(HC.out _ ?_).mono ?_;(exact(Below.drew ((Below.refl _ _).alloc (Nat.le_refl _) _)));rintro e w4 ⟨⟨bf,rfl,bl,H⟩,F⟩;obtain⟨ae,ag,ai,ak,rfl⟩:=Dc H;have A:Below wr.heap.size wr w4:=((Below.drew ((Below.refl _ _).alloc (Nat.le_refl _) _)).trans (F.mono (by simp)));obtain⟨B,aw⟩:=r.out w4 A;obtain⟨v0,d0⟩:=B 0 (by omega);obtain⟨v1,d1⟩:=B 1 (by omega);obtain⟨v2,d2⟩:=B 2 (by omega);obtain⟨v3,d3⟩:=B 3 (by omega);obtain⟨v4,d4⟩:=B 4 (by omega);obtain⟨v5,d5⟩:=B 5 (by omega);rw[Nat.add_zero]at d0;obtain⟨av,X⟩:=Xc F;have g3:=(A.cell (p:=⟨w.heap.size+2,4,none⟩) ax).trans U;clear B))
       all_goals
        have Y:A7 wr.heap.size w4 (dV (.mk N b' O Q l' o')) [.int .i64 N,.bool b',.int .i64 O,.string Q,.slice ae l'.length ag,.slice ai o'.length ak]:=H.keep (by simp) (Nat.le_refl _) (fun _ _ _=>rfl);have hN:=hv.out.step A Y (by rw[f.out];exact Z) (D7 _);rw[f.out,<-T.out]at hN;have HN:Hid (Ly w w0 #[.int .i64 k,.bool b,.int .i64 n,.string t,.slice (some ⟨g,h,none⟩) l.length K,.slice D o.length oc] #[.int .i64 0,.bool false,.int .i64 0,.string ⟨#[]⟩,.slice none 0 0,.slice none 0 0] #[.int .i64 k,.bool b,.int .i64 n,.string t,.slice (some ⟨w0.heap.size,0,none⟩) l.length l.length,.slice none 0 0] w0.heap.size 6 l.length 42 (dL (l.take (q+1))) ((((((w4.setCell ⟨w0.heap.size,q*6,none⟩ (.int .i64 N)).setCell ⟨w0.heap.size,q*6+1,none⟩ (.bool b')).setCell ⟨w0.heap.size,q*6+2,none⟩ (.int .i64 O)).setCell ⟨w0.heap.size,q*6+3,none⟩ (.string Q)).setCell ⟨w0.heap.size,q*6+4,none⟩ (.slice ae l'.length ag)).setCell ⟨w0.heap.size,q*6+5,none⟩ (.slice ai o'.length ak))):=hN;clear hN Y H F A aw av X g3 hv HC r T f U c0 c1 c2 c3 c4 c5 d0 d1 d2 d3 d4 d5 n1 n2 n3 n4;go_wp2;go_roundw
        case rel=>exact⟨q+1,by go_num,by omega,HN⟩
        case measure=>simp only[intOf];omega
     . obtain rfl:q=l.length:=by omega
       have I:=hv.out;rw[List.take_length]at I;have HD:=qz (I.done (K8 _) l.length);clear hv I;go_wp2;go_meet;exact⟨_,_,HD⟩
 case rest=>
 obtain⟨aL,cL,hP⟩:=hcut;obtain⟨d,bm⟩: ∃d:World,d=wc:=⟨_,rfl⟩;subst bm;have am:VA w d #[.int .i64 k,.bool b,.int .i64 n,.string t,.slice C l.length K,.slice D o.length oc] #[.int .i64 0,.bool false,.int .i64 0,.string ⟨#[]⟩,.slice none 0 0,.slice none 0 0] #[.int .i64 k,.bool b,.int .i64 n,.string t,.slice aL l.length cL,.slice none 0 0] d:=by
  obtain⟨⟨z1,z2,z3,z4,z5,z6,z7⟩,_⟩:=hP.out;exact⟨z1,z2,z3,z4,fun _ _ _=>rfl,Nat.le_refl _,Nat.le_trans z7 z6⟩
 have bv:w.heap.size+3<=d.heap.size:=am.2.2.2.2.2.2;obtain⟨b0,b1,b2,b3,U,b5⟩:=At am.2.1;have S:=qz am;clear am;clear a1 HL R ap an;go_upto_if 38 with(fail);clear b0 b1 b2 b3 U b5;go_cut [] (fun wx=> ∃a c,Hid (VP w d #[.int .i64 k,.bool b,.int .i64 n,.string t,.slice C l.length K,.slice D o.length oc] #[.int .i64 0,.bool false,.int .i64 0,.string ⟨#[]⟩,.slice none 0 0,.slice none 0 0] #[.int .i64 k,.bool b,.int .i64 n,.string t,.slice aL l.length cL,.slice a o.length c] (dO o) 7 (.slice a o.length c) wx))
 case first=>
  by_cases h0:o= []
  . subst h0;go_wp2;go_meet;exact⟨none,0,VP.nil 7 S.out none 0⟩
  . have a7:0<o.length:=List.length_pos_iff.2 h0;obtain⟨_,y1,y2,y3,_⟩:=S.out;obtain⟨b0,b1,b2,b3,U,b5⟩:=At y1;obtain⟨e0,e1,e2,e3,e4,e5⟩:=At y3;have f3:=y3.frozen 5;have g0:w.heap.size<d.heap.size:=by omega
    have g2:w.heap.size+2<d.heap.size:=by omega
    obtain⟨Y1,Y2,Y3⟩:=hid3 y1 y2 y3;clear y1 y2 y3;go_wp2_with (fail);obtain⟨w1,J⟩: ∃w1,(d.setCell ⟨w.heap.size+1+1,5,none⟩ (.slice (some ⟨d.heap.size,0,none⟩) o.length o.length)).alloc (.cells M2 111)=w1:=⟨_,rfl⟩;have hV:Ly w d #[.int .i64 k,.bool b,.int .i64 n,.string t,.slice C l.length K,.slice D o.length oc] #[.int .i64 0,.bool false,.int .i64 0,.string ⟨#[]⟩,.slice none 0 0,.slice none 0 0] #[.int .i64 k,.bool b,.int .i64 n,.string t,.slice aL l.length cL,.slice (some ⟨d.heap.size,0,none⟩) o.length o.length] d.heap.size 7 o.length 111 (dO (o.take 0)) w1:=by
     rw[<-J];obtain⟨z1,z2,z3,z4,z5,z6,z7⟩:=S.out;refine⟨⟨(z1.setCell (by simp;omega) _).alloc (by simp;omega) _,(z2.far (by simp;omega) _).alloc _,(z3.far (by simp) _).alloc _,(z4.set_ 5 _).alloc _,fun c h1 h2=> ?_,by simp,z7⟩,Ew.start (Nat.le_refl _) ?_ al.out⟩
     . rw[Lib.alloc_old _ _ _ (by simp;omega),D8 _ _ _ _ (by omega)]
     . have:=heap_alloc_new (d.setCell ⟨w.heap.size+1+1,5,none⟩ (.slice (some ⟨d.heap.size,0,none⟩) o.length o.length)) (.cells M2 111);simpa using this
    have HV:=qz hV;rw[J];clear J hV b0 b1 b2 b3 U b5 e0 e1 e2 e3 e4 e5 f3 S Y1 Y2 Y3 al aa;go_loopw [47] (fun i wr=> ∃q:Nat,i=.int .i64 q/\q<=o.length/\Hid (Ly w d #[.int .i64 k,.bool b,.int .i64 n,.string t,.slice C l.length K,.slice D o.length oc] #[.int .i64 0,.bool false,.int .i64 0,.string ⟨#[]⟩,.slice none 0 0,.slice none 0 0] #[.int .i64 k,.bool b,.int .i64 n,.string t,.slice aL l.length cL,.slice (some ⟨d.heap.size,0,none⟩) o.length o.length] d.heap.size 7 o.length 111 (dO (o.take q)) wr)) (fun i _=>o.length - (intOf i).toNat)
    case atStart=>exact⟨0,rfl,Nat.zero_le _,HV⟩
    case round=>
     obtain⟨q,rfl,hq,hv⟩:=hrel;clear HV;by_cases Z:q<o.length
     . obtain⟨g,h,rfl,hg,V⟩: ∃g h,D=some ⟨g,h,none⟩/\g<w.heap.size/\An w w.heap.size o g h:=HO.out.resolve_left h0;obtain⟨⟨key,x⟩,hx⟩: ∃v,o[q]? =some v:=⟨_,List.getElem?_eq_getElem Z⟩;have y:=List.mem_of_getElem? hx;have L:=ao.out _ y;have a6:=C4 y;simp only at L a6;have ab:dO (o.take (q+1))=dO (o.take q)++ [dP (key,x)]:=by rw[List.take_add_one,hx,Dx,Dx];simp
       have z:(dO (o.take q)).length=q:=by rw[Cb,List.length_take];omega
       obtain⟨⟨G,x1,x2,x3,hk,ay,a0⟩,hF⟩:=hv.out;have hz:=G.size;have U:=x3.cell 5;obtain⟨N,b',O,Q,l',o'⟩:=x;obtain⟨ad,af,ah,aj,ac,c0,c1,c2,c3,c4,c5,c6⟩:=(V.below hg G).seven hx;have hC: ∀W,Below wr.heap.size wr W->Calls Tryz.prog 75 #[.agg #[.int .i64 N,.bool b',.int .i64 O,.string Q,.slice ad l'.length af,.slice ah o'.length aj]] W (Jj W (.mk N b' O Q l' o')):=fun W E=>
        L _ W (Ab.more (Nat.le_trans hz E.size) _ _ (ac.below (E.mono hz))) (by omega)
       have bk:g<wr.heap.size:=by omega
       have ax:w.heap.size+2<wr.heap.size:=x3.lt;have bj:=hF.lt;have s: ∀W,Below wr.heap.size wr W->(∀j,j<7-> ∃u,W.cell? ⟨d.heap.size,q*7+j,none⟩=some u)/\(∀j,W.frozen? ⟨d.heap.size,j,none⟩=false):=fun W E=>by
        have h1:=(hF.below E).cell;exact⟨fun j hj=>h1.1 _ (by omega),h1.2⟩
       have y1:(q:Int)<(o.length:Int):=by omega
       have n1:w.heap.size+2≠d.heap.size:=by omega
       have n2:wr.heap.size≠d.heap.size:=by omega
       have n3:=n1.symm;have n4:=n2.symm;obtain⟨HC,r,T,f⟩:=hid4 hC s ab z;clear hC s ab z;clear G x1 x2 x3 hF ac hx y L V hk ay a0;go_wp2_with (fail)
       go_region_held3 (fun W=>W.cell? ⟨w.heap.size+2,5,none⟩=some (.slice (some ⟨d.heap.size,0,none⟩) o.length o.length)/\W.cell? ⟨wr.heap.size,0,none⟩=some (.string key)/\W.cell? ⟨wr.heap.size,1,none⟩=some (.int .i64 N)/\W.cell? ⟨wr.heap.size,2,none⟩=some (.bool b')/\W.cell? ⟨wr.heap.size,3,none⟩=some (.int .i64 O)/\W.cell? ⟨wr.heap.size,4,none⟩=some (.string Q)/\W.cell? ⟨wr.heap.size,5,none⟩=some (.slice ad l'.length af)/\W.cell? ⟨wr.heap.size,6,none⟩=some (.slice ah o'.length aj)) (go_keep) (first|(go_at_call 75;refine(HC.out _ ?_).mono ?_;(exact(Below.drew ((Below.refl _ _).alloc (Nat.le_refl _) _)));rintro e w4 ⟨⟨bf,rfl,bl,H⟩,F⟩;obtain⟨ae,ag,ai,ak,rfl⟩:=Dc H;have A:Below wr.heap.size wr w4:=((Below.drew ((Below.refl _ _).alloc (Nat.le_refl _) _)).trans (F.mono (by simp)));obtain⟨B,aw⟩:=r.out w4 A;obtain⟨v0,d0⟩:=B 0 (by omega);obtain⟨v1,d1⟩:=B 1 (by omega);obtain⟨v2,d2⟩:=B 2 (by omega);obtain⟨v3,d3⟩:=B 3 (by omega);obtain⟨v4,d4⟩:=B 4 (by omega);obtain⟨v5,d5⟩:=B 5 (by omega);obtain⟨v6,d6⟩:=B 6 (by omega);rw[Nat.add_zero]at d0;obtain⟨av,X⟩:=Xc F;have g3:=(A.cell (p:=⟨w.heap.size+2,5,none⟩) ax).trans U;clear B))
       all_goals
        have Y:A7 wr.heap.size w4 (dV (.mk N b' O Q l' o')) [.int .i64 N,.bool b',.int .i64 O,.string Q,.slice ae l'.length ag,.slice ai o'.length ak]:=H.keep (by simp) (Nat.le_refl _) (fun _ _ _=>rfl);have hN:=hv.out.step A (Js (key:=key) Y) (by rw[f.out];exact Z) (D6 _);rw[f.out,<-T.out]at hN;have HN:Hid (Ly w d #[.int .i64 k,.bool b,.int .i64 n,.string t,.slice C l.length K,.slice (some ⟨g,h,none⟩) o.length oc] #[.int .i64 0,.bool false,.int .i64 0,.string ⟨#[]⟩,.slice none 0 0,.slice none 0 0] #[.int .i64 k,.bool b,.int .i64 n,.string t,.slice aL l.length cL,.slice (some ⟨d.heap.size,0,none⟩) o.length o.length] d.heap.size 7 o.length 111 (dO (o.take (q+1))) (((((((w4.setCell ⟨d.heap.size,q*7,none⟩ (.string key)).setCell ⟨d.heap.size,q*7+1,none⟩ (.int .i64 N)).setCell ⟨d.heap.size,q*7+2,none⟩ (.bool b')).setCell ⟨d.heap.size,q*7+3,none⟩ (.int .i64 O)).setCell ⟨d.heap.size,q*7+4,none⟩ (.string Q)).setCell ⟨d.heap.size,q*7+5,none⟩ (.slice ae l'.length ag)).setCell ⟨d.heap.size,q*7+6,none⟩ (.slice ai o'.length ak))):=hN;clear hN Y H F A aw av X g3 hv HC r T f U c0 c1 c2 c3 c4 c5 c6 d0 d1 d2 d3 d4 d5 d6 n1 n2 n3 n4;go_wp2;go_roundw
        case rel=>exact⟨q+1,by go_num,by omega,HN⟩
        case measure=>simp only[intOf];omega
     . obtain rfl:q=o.length:=by omega
       have I:=hv.out;rw[List.take_length]at I;have HD:=qz (I.done (Cb _) o.length);clear hv I;go_wp2;go_meet;exact⟨_,_,HD⟩
 case rest=>
 obtain⟨aO,cO,hQ⟩:=hcut;obtain⟨⟨z1,z2,z3,z4,z5,z6,z7⟩,a4⟩:=hQ.out;obtain⟨⟨_,_,_,_,_,k6,k7⟩,a3⟩:=hP.out;obtain⟨e0,e1,e2,e3,e4,e5⟩:=At z4;obtain⟨r0,r1,r2,r3,r4,r5⟩:=At z3;have f2:=fun i=>z3.frozen i;have hz:=qz (And.intro z1 (And.intro z3 (And.intro z5 (And.intro a3 a4))));clear z1 z2 z3 z4 z5 a3 a4 hP hQ ao HO S al aa;go_wp2;obtain⟨W,E⟩: ∃W,((((((wc.setCell ⟨w.heap.size+1,0,none⟩ (.int .i64 k)).setCell ⟨w.heap.size+1,1,none⟩ (.bool b)).setCell ⟨w.heap.size+1,2,none⟩ (.int .i64 n)).setCell ⟨w.heap.size+1,3,none⟩ (.string t)).setCell ⟨w.heap.size+1,4,none⟩ (.slice aL l.length cL)).setCell ⟨w.heap.size+1,5,none⟩ (.slice aO o.length cO))=W:=⟨_,rfl⟩;obtain⟨q1,q3,q5,bn,bo⟩:=hz.out;have a5: ∀c,c≠w.heap.size+1->W.heap[c]? =wc.heap[c]? :=by
  intro c hc;rw[<-E];simp only[D8 _ _ _ _ hc]
 have bp:W.heap.size=wc.heap.size:=by rw[<-E];simp[World.setCell]
 have bh:Below w.heap.size w W:=by
  rw[<-E];exact(((((q1.setCell (by simp) _).setCell (by simp) _).setCell (by simp) _).setCell (by simp) _).setCell (by simp) _).setCell (by simp) _
 have bi:Ap W (w.heap.size+1) 42 #[.int .i64 k,.bool b,.int .i64 n,.string t,.slice aL l.length cL,.slice aO o.length cO]:=by
  rw[<-E];exact(((((q3.set_ 0 _).set_ 1 _).set_ 2 _).set_ 3 _).set_ 4 _).set_ 5 _
 obtain⟨s0,s1,s2,s3,s4,s5⟩:=At bi;have bg:A7 w.heap.size W (dV (.mk k b n t l o)) [.int .i64 k,.bool b,.int .i64 n,.string t,.slice aL l.length cL,.slice aO o.length cO]:=by
  have g1:=bn.keep (b':=w.heap.size) (w':=W) (by omega) (by omega) (fun p p1 p2=>World.cell?_of_block ((a5 _ (by omega)).trans (q5 _ (by omega) p2)));have g2:=bo.keep (b':=w.heap.size) (w':=W) (by omega) (by omega) (fun p p1 p2=>World.cell?_of_block (a5 _ (by omega)));intro be h1 h2;simp only[dV,Ag];exact Ah.six.2 ⟨[.slice aL l.length cL], [.slice aO o.length cO],rfl,rfl,rfl,rfl,rfl,g1 be h1 h2,g2 be h1 h2⟩
 rw[E];exact bodyPost_ret (v:=.agg #[.int .i64 k,.bool b,.int .i64 n,.string t,.slice aL l.length cL,.slice aO o.length cO]) (by simp[results,Tryz.results75,go_sem,s0,s1,s2,s3,s4,s5]) rfl ⟨⟨_,rfl,rfl,bg⟩,bh⟩
theorem Iv: ∀v,Ab2 v:=by
 refine Val.ind ?_;intro k b n t l o f g cs w d e;simp only[Ab]at d;obtain⟨h,i,j,oc,rfl,a,c⟩:=d;simp only[Val.bulk]at e;exact Ad5 k b n t l o h j oc i w f g a c (by omega) (by omega)
theorem Aie:(Tryz.prog.info? 103).map (fun i=>(i.zero,i.size,i.bytes))=some (some (.agg #[.string ⟨#[]⟩,.int .i64 0,.bool false,.int .i64 0,.string ⟨#[]⟩,.slice none 0 0,.slice none 0 0]),7,104):=by kernel_rfl
theorem Ew.rowX {b g:Nat} {t:TypeId} {s:Nat} {wr:World} {l:List D} (h:Ew b g t s l.length wr l) (r:l.length<=maxLen):Bk (fun i=>b<=i) b t s wr l (.slice (some ⟨g,0,none⟩) l.length l.length):=by
 obtain⟨m,B,d,cs,ns,n,f,o,k⟩:=h;have q:=k wr (Nat.le_refl _) (fun _ _ _ _=>rfl);have a:ns.length=l.length*s:=by rw[q.len.1,Ge d]
 have e:cs.toList=ns:=by
  refine List.ext_getElem (by rw[Array.length_toList,f,a]) fun j u v=> ?_;have:=o j _ (List.getElem?_eq_getElem v);rw[<-Array.getElem?_toList,List.getElem?_eq_getElem u]at this;exact Option.some.inj this
 refine⟨ns,⟨a,.inr ⟨g,l.length,cs,rfl,m,n,Nat.le_refl _,r,f, ?_⟩⟩,d,fun c w x=>k c w fun p y z A=>x p ⟨y,fun e=>A (by simp only[Value.ownBlock,Option.some.injEq]at e;exact e.symm)⟩ z⟩;rw[e,<-a,List.take_length]
def CL (w:World) (es:List Cq) (q:Nat) (wr:World):Prop:=Below w.heap.size w wr/\Ew w.heap.size w.heap.size 103 7 es.length wr (dO (es.take q))
def Oo (es:List Cq) (w:World) (e:Ending) (w':World):Prop:=Below w.heap.size w w'/\ ∃g,e=.returned (.slice (some ⟨g,0,none⟩) es.length es.length)/\Bk (fun i=>w.heap.size<=i) w.heap.size 103 7 w' (dO es) (.slice (some ⟨g,0,none⟩) es.length es.length)
theorem Ni (b:List Cq) (a:Option Addr) (n c:Nat) (w:World) (h:Ag w w.heap.size (.row 7 (dO b)) [.slice a n c]) (hb:Af b<=100000000):Calls Tryz.prog 286 #[.slice a n c] w (Oo b w):=by
 have hn:=h.row_len;rw[Cb]at hn;subst hn;have am:=B5 b;obtain⟨j0,hj,Y,Z,aa⟩:=info_parts Aie;have B:=fun W=>Kj (P:=Tryz.prog) 166 103 j0 _ Tryz.underlying166 hj Y b.length (by rw[aa];omega) (by omega) W;rw[Z]at B;obtain⟨M2,t⟩: ∃M,madeCells (Value.cells (.agg #[.string ⟨#[]⟩,.int .i64 0,.bool false,.int .i64 0,.string ⟨#[]⟩,.slice none 0 0,.slice none 0 0])) (b.length*7)=M:=⟨_,rfl⟩;simp only[t]at B;have Q:M2.size=b.length*7:=by rw[<-t,size_madeCells]
 have L:Hid (CL w b 0 (w.alloc (.cells M2 103))):=⟨Aa _ _,Ew.start (Nat.le_refl _) (heap_alloc_new _ _) Q⟩;have H:=qz h;clear h;clear t Q hj Y Z aa;go_enter Tryz.func286,Tryz.ntmps286;go_wp2_with (fail);clear B;go_loopw [11] (fun i wr=> ∃q:Nat,i=.int .i64 q/\q<=b.length/\Hid (CL w b q wr)) (fun i _=>b.length - (intOf i).toNat)
 case atStart=>exact⟨0,rfl,Nat.zero_le _,L⟩
 case round=>
  obtain⟨q,rfl,hq,K⟩:=hrel;clear L;by_cases U:q<b.length
  . obtain⟨⟨key,x⟩,hx⟩: ∃v,b[q]? =some v:=⟨_,List.getElem?_eq_getElem U⟩;have r:=List.mem_of_getElem? hx;have af:=C4 r;simp only at af;have V:dO (b.take (q+1))=dO (b.take q)++ [dP (key,x)]:=by rw[List.take_add_one,hx,Dx,Dx];simp
    have l:(dO (b.take q)).length=q:=by rw[Cb,List.length_take];omega
    obtain⟨z,s⟩:=K.out;have hz:=z.size;obtain⟨C,b',F,J,l',o'⟩:=x;obtain⟨g,an,rfl,hg,ab,ac,ad,ae,X,c0,c1,c2,c3,c4,c5,c6⟩:=Xx ((H.out.below z).more hz) hx;have hC: ∀W,Below wr.heap.size wr W->Calls Tryz.prog 75 #[.agg #[.int .i64 C,.bool b',.int .i64 F,.string J,.slice ab l'.length ac,.slice ad o'.length ae]] W (Jj W (.mk C b' F J l' o')):=fun W hW=>
     Iv _ _ W (Be _ _ ((X.below hW).more hW.size)) (by omega)
    have ak:g<wr.heap.size:=hg;have aj:=s.lt;have k: ∀W,Below wr.heap.size wr W->(∀j,j<7-> ∃u,W.cell? ⟨w.heap.size,q*7+j,none⟩=some u)/\(∀j,W.frozen? ⟨w.heap.size,j,none⟩=false):=fun W hW=>by
     have h1:=(s.below hW).cell;exact⟨fun j hj=>h1.1 _ (by omega),h1.2⟩
    have y1:(q:Int)<(b.length:Int):=by omega
    have n2:wr.heap.size≠w.heap.size:=by omega
    have n4:=n2.symm;obtain⟨HC,f,N,d⟩:=hid4 hC k V l;clear hC k V l;clear z s X hx r;go_wp2_with (fail)
    go_region_held3 (fun W=>W.cell? ⟨wr.heap.size,0,none⟩=some (.string key)/\W.cell? ⟨wr.heap.size,1,none⟩=some (.int .i64 C)/\W.cell? ⟨wr.heap.size,2,none⟩=some (.bool b')/\W.cell? ⟨wr.heap.size,3,none⟩=some (.int .i64 F)/\W.cell? ⟨wr.heap.size,4,none⟩=some (.string J)/\W.cell? ⟨wr.heap.size,5,none⟩=some (.slice ab l'.length ac)/\W.cell? ⟨wr.heap.size,6,none⟩=some (.slice ad o'.length ae)) (go_keep) (first|(go_at_call 75;refine(HC.out _ ?_).mono ?_;(exact(Below.drew ((Below.refl _ _).alloc (Nat.le_refl _) _)));rintro e w4 ⟨⟨ai,rfl,al,A⟩,y⟩;obtain⟨D,E,G,I,rfl⟩:=Dc A;have m:Below wr.heap.size wr w4:=((Below.drew ((Below.refl _ _).alloc (Nat.le_refl _) _)).trans (y.mono (by simp)));obtain⟨p,ah⟩:=f.out w4 m;obtain⟨v0,d0⟩:=p 0 (by omega);obtain⟨v1,d1⟩:=p 1 (by omega);obtain⟨v2,d2⟩:=p 2 (by omega);obtain⟨v3,d3⟩:=p 3 (by omega);obtain⟨v4,d4⟩:=p 4 (by omega);obtain⟨v5,d5⟩:=p 5 (by omega);obtain⟨v6,d6⟩:=p 6 (by omega);rw[Nat.add_zero]at d0;obtain⟨ag,S⟩:=Xc y;clear p))
    all_goals
     have T:A7 wr.heap.size w4 (dV (.mk C b' F J l' o')) [.int .i64 C,.bool b',.int .i64 F,.string J,.slice D l'.length E,.slice G o'.length I]:=A.keep (by simp) (Nat.le_refl _) (fun _ _ _=>rfl);have hN:=K.out.2.step (by rw[d.out];exact U) (D6 _) (Js (key:=key) T) m;rw[d.out,<-N.out]at hN;have HN:Hid (CL w b (q+1) (((((((w4.setCell ⟨w.heap.size,q*7,none⟩ (.string key)).setCell ⟨w.heap.size,q*7+1,none⟩ (.int .i64 C)).setCell ⟨w.heap.size,q*7+2,none⟩ (.bool b')).setCell ⟨w.heap.size,q*7+3,none⟩ (.int .i64 F)).setCell ⟨w.heap.size,q*7+4,none⟩ (.string J)).setCell ⟨w.heap.size,q*7+5,none⟩ (.slice D l'.length E)).setCell ⟨w.heap.size,q*7+6,none⟩ (.slice G o'.length I))):=⟨As [.string key,.int .i64 C,.bool b',.int .i64 F,.string J,.slice D l'.length E,.slice G o'.length I] (K.out.1.trans (m.mono hz)) (Nat.le_refl _) (o:=q*7),hN⟩;clear hN T A y m ah ag S K HC f N d c0 c1 c2 c3 c4 c5 c6 d0 d1 d2 d3 d4 d5 d6 n2 n4;go_wp2;go_roundw
     case rel=>exact⟨q+1,by go_num,by omega,HN⟩
     case measure=>simp only[intOf];omega
  . obtain rfl:q=b.length:=by omega
    obtain⟨R,s⟩:=K.out;rw[List.take_length]at s;have O:Ew w.heap.size w.heap.size 103 7 (dO b).length wr (dO b):=by rw[Cb];exact s
    have hR:=O.rowX (by rw[Cb];unfold maxLen;omega);rw[Cb]at hR;have HR:Hid (Oo b w (.returned (.slice (some ⟨w.heap.size,0,none⟩) b.length b.length)) wr):=⟨R,_,rfl,hR⟩;clear K R s O hR;go_wp2;go_ret;exact HR.out
theorem E3 {w:World} {B n c:Nat} {l:List Cq} {a:Option Addr} (h:Ag w B (.row 7 (dO l)) [.slice a n c]) {q:Nat} {e:Cq} (D:l[q]? =some e):
 ∃g b,a=some ⟨g,b,none⟩/\g<B/\ ∃f k m o p r,Ag w B (dV e.2) [f,k,m,o,p,r]/\w.rangeAt g (b+q*7) [.string e.1,f,k,m,o,p,r]:=by
 obtain⟨g,b,y,C,cs,z,F,A⟩:=h.at_ (i:=q) (d:=dP e) (by rw[Dx,List.getElem?_map,D];rfl);obtain⟨key,v⟩:=e;obtain⟨_,c3,rfl,⟨rfl,_⟩,s,c4,rfl,t,rfl⟩:=z;have x:=t.len.1;rw[D7]at x;obtain⟨f,k,m,o,p,r,rfl⟩: ∃f k m o p r,s= [f,k,m,o,p,r]:=by
  match s,x with
  | [f,k,m,o,p,r],_=>exact⟨f,k,m,o,p,r,rfl⟩
 exact⟨g,b,y,C,f,k,m,o,p,r,t,fun j u E=>A j u (by simpa using E)⟩
theorem X1 (a b:ByteArray) (c d f g h i v1 j k l m n:Value) (w:World):Calls Tryz.prog 339 #[.agg #[.string a,c,d,f,g,h,i],.agg #[.string b,v1,j,k,l,m,n]] w fun e w'=>e=.returned (.bool (Er a b))/\Below w.heap.size w w':=by
 go_enter Tryz.func339,Tryz.ntmps339;go_wp2;go_ret;exact⟨rfl,((Below.refl _ _).alloc (Nat.le_refl _) _).alloc (by simp) _⟩
theorem Tv (f:List Cq) (a:Option Addr) (n c:Nat) (w:World) (h:Ag w w.heap.size (.row 7 (dO f)) [.slice a n c]) (ha:Dg f) (h8:f.length<=1000):
 Calls Tryz.prog 338 #[.slice a n c,.func (.func 339) #[] #[]] w fun e w'=>e=.returned (.bool true)/\Below w.heap.size w w':=by
 have Y:=h.row_len;rw[Cb]at Y;subst Y;have H:=qz h;clear h;go_enter Tryz.func338,Tryz.ntmps338;go_wp2_with (fail);go_loopw [5] (fun i wr=> ∃q:Nat,i=.int .i64 ((q:Int)+1)/\(q=0\/q+1<=f.length)/\Hid (Below w.heap.size w wr)) (fun i _=>f.length - (intOf i).toNat)
 case atStart=>exact⟨0,rfl,.inl rfl,Below.refl _ _⟩
 case round=>
  obtain⟨q,rfl,hq,s⟩:=hrel;by_cases C:q+1<f.length
  . obtain⟨v,l⟩: ∃p,f[q]? =some p:=⟨_,List.getElem?_eq_getElem (by omega)⟩;obtain⟨x,m⟩: ∃p,f[q+1]? =some p:=⟨_,List.getElem?_eq_getElem C⟩;have k:Er v.1 x.1=true:=by
     obtain⟨i1,rfl⟩:=List.getElem?_eq_some_iff.1 l;obtain⟨i2,rfl⟩:=List.getElem?_eq_some_iff.1 m;exact List.pairwise_iff_getElem.1 ha q (q+1) i1 i2 (by omega)
    obtain⟨g,d,rfl,V,D,E,F,G,I,J,_,r1⟩:=E3 H.out l;obtain⟨g',Z,e,_,v1,L,M,N,O,P,_,r2⟩:=E3 H.out m
    cases e
    have hz:=s.out.size;have U: ∀W,Below w.heap.size w W->W.rangeAt g (d+q*7) [.string v.1,D,E,F,G,I,J]/\W.rangeAt g (d+(q+1)*7) [.string x.1,v1,L,M,N,O,P]:=fun W R=>
     ⟨fun j u B=>(R.cell (p:=⟨g,d+q*7+j,none⟩) V).trans (r1 j u B),fun j u B=>(R.cell (p:=⟨g,d+(q+1)*7+j,none⟩) V).trans (r2 j u B)⟩
    have r:=qz (s.out.trans ((Below.drew (Below.refl _ wr)).mono hz));have z:=X1 v.1 x.1 D E F G I J v1 L M N O P;rw[k]at z;have aa:IntKind.i64.wrap ((q:Int)+1)=(q:Int)+1:=IntWalk.i64_in _ (by omega);have ab:IntKind.i64.wrap ((q:Int)+1 - 1)=(q:Int):=by rw[Int.add_sub_cancel];exact IntWalk.i64_in _ (by omega)
    have ac:IntKind.i64.wrap (q:Int)=(q:Int):=IntWalk.i64_in _ (by omega);have y1:(q:Int)+1<(f.length:Int):=by omega
    have y2:(q:Int)<(f.length:Int):=by omega
    have y3:(0:Int)<=q:=by omega
    have y4:((q:Int)+1).toNat=q+1:=by omega
    have y5:(0:Int)<=(q:Int)+1:=by omega
    obtain⟨y,Q⟩:=hid2 U z;clear U z;clear r1 r2 l m k;go_upto_region 4 with(fail);refine wp_region_held_drew (S:=fun X=>X.rangeAt g (d+q*7) [.string v.1,D,E,F,G,I,J]/\X.rangeAt g (d+(q+1)*7) [.string x.1,v1,L,M,N,O,P]) (by kernel_rfl) (y.out _ r.out) (fun b=> ?_);generalize wr.drew=wd at r b ⊢;refine tkH 0 b ?_;refine tkH 1 b ?_;refine tkH 2 b ?_;refine tkH 3 b ?_;refine tkH 4 b ?_;refine wpAnyH_take (i:=5) rfl (by kernel_rfl) (by kernel_rfl) (by kernel_rfl) (fun _ _ _ h=>h) (yieldsIf_load_mid (by kernel_rfl) 103 (.tmp 16) rfl g (d+q*7) rfl _ _ (fun X A=>A.1) Tryz.underlying103 rfl (by kernel_rfl)) b ?_
    try simp only[Act.put,tk1,tk2,tk3,tk4,tk5,tk6]
    refine tkH 6 b ?_;refine tkH 7 b ?_;refine tkH 8 b ?_;refine wpAnyH_take (i:=9) rfl (by kernel_rfl) (by kernel_rfl) (by kernel_rfl) (fun _ _ _ h=>h) (yieldsIf_load_mid (by kernel_rfl) 103 (.tmp 20) rfl g (d+(q+1)*7) rfl _ _ (fun X A=>A.2) Tryz.underlying103 rfl (by kernel_rfl)) b ?_
    try simp only[Act.put,tk1,tk2,tk3,tk4,tk5,tk6]
    refine rd1 10 fun K T=> ?_;go_simp;(with_reducible refine(Q.out _).mono ?_);rintro e w1 ⟨rfl,t⟩;have o:=r.out.trans (t.mono r.out.size);refine T.out _ _ (y.out _ o) (fun b=> ?_);clear T K t;have HN:=qz o;clear o
    try simp only[Act.put,tk1,tk2,tk3,tk4,tk5,tk6]
    refine tkH 11 b ?_;refine wpAnyH_done (by kernel_rfl) ?_ _;clear b y r Q s;go_wp2;go_roundw
    case rel=>exact⟨q+1,by go_num,.inr (by omega),HN⟩
    case measure=>simp only[intOf];omega
  . have y1:(f.length:Int)<=(q:Int)+1:=by omega
    have HI:=qz s.out;clear s;go_wp2;go_ret;exact⟨rfl,HI.out⟩
theorem Aah (j:List Cq) (a:Option Addr) (n c:Nat) (w:World) (h:Ag w w.heap.size (.row 7 (dO j)) [.slice a n c]) (ha:Dg j) (h8:j.length<=8) (hb:Af j<=100000000):
 Calls Tryz.prog 291 #[.slice a n c] w fun e w'=>Below w.heap.size w w'/\ ∃b,e=.returned (.tuple #[.pointer (some ⟨b,0,none⟩),.int .i64 0])/\Df (fun i=>w.heap.size<=i) w' (.leaf j) b:=by
 have hn:=h.row_len;rw[Cb]at hn;subst hn;have HR:=qz (Tv j a j.length c w h ha (by omega));have HC:=qz (fun(W:World) (y:Below w.heap.size w W)=>Ni j a j.length c W ((h.below y).more y.size) hb);have y8:(j.length:Int)<=8:=by omega
 obtain⟨PO,F⟩: ∃P:Ending->World->Prop,(fun e w'=>Below w.heap.size w w'/\ ∃b,e=.returned (.tuple #[.pointer (some ⟨b,0,none⟩),.int .i64 0])/\Df (fun i=>w.heap.size<=i) w' (.leaf j) b)=P:=⟨_,rfl⟩;rw[F];obtain⟨H,M⟩:=hid2 h F;clear h F;go_enter Tryz.func291,Tryz.ntmps291;go_wp2_with (fail);(with_reducible refine(HR.out).mono ?_);rintro e w1 ⟨rfl,k⟩;have t:=qz k;clear k;go_wp2_with (fail);(with_reducible refine(HC.out _ t.out).mono ?_);rintro e D ⟨G,g2,rfl,hV⟩;have A:=t.out.trans (G.mono t.out.size);obtain⟨r,V⟩: ∃r,some (⟨g2,0,none⟩:Addr)=r:=⟨_,rfl⟩;obtain⟨c2,Z⟩: ∃c2,j.length=c2:=⟨_,rfl⟩;rw[V,show(Value.slice r j.length j.length)=.slice r j.length c2 from by rw[<-Z]]at hV ⊢;clear V Z;have U:=hV.base;have hH:=hV.closeIn;have R: ∀(W:World) (f l:ByteArray),Below D.heap.size D W->Ap W D.heap.size Yv #[.slice r j.length c2,.slice none 0 0,.int .i64 0,.int .i64 j.length,.string f,.string l,.bool false]->Cu (.leaf j)=f->Ez (.leaf j)=l->Df (fun i=>w.heap.size<=i) W (.leaf j) D.heap.size:=fun W f l y hx B x=>by
  have ad:=t.out.size;have ae:=G.size;simp only[Df,B,x];refine⟨by omega,hx.lt,r,c2,(hH.below y).mono fun i _ p1=> ?_,hx⟩;rcases p1 with p1|p1
  . omega
  . have:=(U _ p1).1;omega
 have u:=qz (A.alloc A.size (.cells #[.slice r j.length c2,.slice none 0 0,.int .i64 0,.int .i64 j.length,.string ⟨#[]⟩,.string ⟨#[]⟩,.bool false] Yv));have m:=qz (Aa D (.cells #[.slice r j.length c2,.slice none 0 0,.int .i64 0,.int .i64 j.length,.string ⟨#[]⟩,.string ⟨#[]⟩,.bool false] Yv));have v:=qz (Ap.new D Yv #[.slice r j.length c2,.slice none 0 0,.int .i64 0,.int .i64 j.length,.string ⟨#[]⟩,.string ⟨#[]⟩,.bool false]);have L:=A.size;have E:=qz R;clear R;clear G hV U hH A;go_upto_region 4 with(fail);generalize D.alloc (.cells #[.slice r j.length c2,.slice none 0 0,.int .i64 0,.int .i64 j.length,.string ⟨#[]⟩,.string ⟨#[]⟩,.bool false] Yv)=w3 at u m v ⊢;generalize D.heap.size=X at E m v L ⊢;by_cases h0:j= []
 . subst h0;have HP:Hid (PO (.returned (.tuple #[.pointer (some ⟨X,0,none⟩),.int .i64 0])) w3):=by
    show PO _ _;rw[<-M.out];exact⟨u.out,X,rfl,E.out w3 _ _ m.out v.out rfl rfl⟩
   go_wp2;exact HP.out
 . have ab:0<j.length:=List.length_pos_iff.2 h0;obtain⟨B,I⟩: ∃p,j[0]? =some p:=⟨_,List.getElem?_eq_getElem (by omega)⟩;obtain⟨x,J⟩: ∃p,j[j.length - 1]? =some p:=⟨_,List.getElem?_eq_getElem (by omega)⟩;obtain⟨g,q,rfl,hg,u1,u2,u3,u4,u5,u6,_,r1⟩:=E3 H.out I;obtain⟨g',ac,e,_,v1,v2,v3,v4,v5,v6,_,r2⟩:=E3 H.out J
   cases e
   have s1:=r1 0 _ rfl;have s2:=r2 0 _ rfl;simp only[Nat.add_zero,Nat.zero_mul]at s1 s2;have O:Cu (.leaf j)=B.1:=by
    unfold Cu On;rw[List.head?_eq_getElem?,I];rfl
   have Q:Ez (.leaf j)=x.1:=by
    unfold Ez On;rw[List.getLast?_eq_getElem?,J];rfl
   have C: ∀W,Below X w3 W->Ap W X Yv #[.slice r j.length c2,.slice none 0 0,.int .i64 0,.int .i64 j.length,.string B.1,.string x.1,.bool false]->PO (.returned (.tuple #[.pointer (some ⟨X,0,none⟩),.int .i64 0])) W:=fun W y hx=>by
    rw[<-M.out];exact⟨u.out.trans (y.mono L),X,rfl,E.out W _ _ (m.out.trans y) hx O Q⟩
   have hS: ∀W,Below X w3 W->W.cell? ⟨g,q,none⟩=some (.string B.1)/\W.cell? ⟨g,q+(j.length - 1)*7,none⟩=some (.string x.1):=fun W y=>
    have h2:=u.out.trans (y.mono L)
    ⟨(h2.cell (p:=⟨g,q,none⟩) hg).trans s1,(h2.cell (p:=⟨g,q+(j.length - 1)*7,none⟩) hg).trans s2⟩
   have y1:IntKind.i64.wrap ((j.length:Int) - 1)=(j.length:Int) - 1:=IntWalk.i64_in _ (by omega);have y2:((j.length:Int) - 1).toNat=j.length - 1:=by omega
   have y3:(0:Int)<=(j.length:Int) - 1:=by omega
   have y4:(0:Int)<(j.length:Int):=by omega
   have y5:(j.length:Int) - 1<(j.length:Int):=by omega
   have y6:(1:Int)<=(j.length:Int):=by omega
   have z:Below X w3 w3.drew:=Below.drew (Below.refl _ _);have o:=qz v.out.drew;obtain⟨HS,N⟩:=hid2 hS C;clear hS C;clear r1 r2 s1 s2 I J O Q;go_upto_region 5 with(fail);refine wp_region_held_drew (S:=fun Y=>Y.cell? ⟨g,q,none⟩=some (.string B.1)/\Y.cell? ⟨g,q+(j.length - 1)*7,none⟩=some (.string x.1)) (by kernel_rfl) (HS.out _ z) (fun d=> ?_);generalize w3.drew=wd at z o d ⊢;refine tkH 0 d ?_;refine tkH 1 d ?_;refine tkH 2 d ?_;refine tkH 3 d ?_;refine tkH 4 d ?_;refine tkH 5 d ?_;refine tkH 6 d ?_;refine tkH 7 d ?_;refine tkH 8 d ?_;refine tkH 9 d ?_;refine tkH 10 d ?_;refine tkH 11 d ?_;refine tkH 12 d ?_;refine tkH 13 d ?_;refine tkH 14 d ?_;have x4:=o.out.cell 4;have x5:=o.out.cell 5;have fz:=o.out.frozen;have lx:=o.out.lt;refine rd1 15 fun K T=> ?_;go_simp;have s:=o.out.set_ 4 (.string B.1);have k:=z.setCell (p:=⟨X,4,none⟩) (Nat.le_refl _) (.string B.1);refine T.out _ _ (HS.out _ k) (fun d=> ?_);clear T K x4 x5 fz lx;have x5:=s.cell 5;have fz:=s.frozen;have lx:=s.lt;have aa:=qz s;clear s
   try simp only[Act.put,tk1,tk2,tk3,tk4,tk5,tk6]
   refine tkH 16 d ?_;refine tkH 17 d ?_;refine rd1 18 fun K T=> ?_;go_simp;have HP:=qz (N.out _ (k.setCell (p:=⟨X,5,none⟩) (Nat.le_refl _) (.string x.1)) (aa.out.set_ 5 (.string x.1)));refine T.out _ _ (HS.out _ (k.setCell (p:=⟨X,5,none⟩) (Nat.le_refl _) (.string x.1))) (fun d=> ?_);clear T K x5 fz lx k z
   try simp only[Act.put,tk1,tk2,tk3,tk4,tk5,tk6]
   refine wpAnyH_done (by kernel_rfl) ?_ _;clear d HS;go_wp2;exact HP.out
theorem Ajq:(Tryz.prog.info? 98).map (fun i=>(i.zero,i.size,i.bytes))=some (some (.pointer none),1,8):=by kernel_rfl
theorem Z0 (S:Nat->Prop) (w:World) (b:Nat):Ai S w (dPt b) [.pointer (some ⟨b,0,none⟩)]:=fun _ _ _=>⟨rfl,rfl⟩
theorem Bk.keepP {b:Nat} {t:TypeId} {s:Nat} {wr w':World} {l:List D} {V:Value} (h:Bk (fun _=>False) b t s wr l V) (j:wr.heap.size<=w'.heap.size) (f: ∀i,V.ownBlock=some i->i<wr.heap.size->w'.heap[i]? =wr.heap[i]?):Bk (fun _=>False) b t s w' l V:=by
 obtain⟨ns,c,d,e⟩:=h;refine⟨ns,⟨c.1, ?_⟩,d,fun a m _=>Ah.more (e a (by omega) (fun p k _=>k.1.elim)) j⟩;rcases c.2 with⟨rfl,h0⟩|⟨g,cap,cur,rfl,hbg,hg,h5⟩
 . exact .inl ⟨rfl,h0⟩
 . exact .inr ⟨g,cap,cur,rfl,hbg,(f g rfl (Array.getElem?_eq_some_iff.1 hg).1).trans hg,h5⟩
structure IL (w:World) (T:Nat) (ks:List Nd) (bs:List Nat) (q:Nat) (wr:World) (V:Value):Prop where
 below:Below w.heap.size w wr
 blk:Ap wr w.heap.size Yv #[.slice none 0 0,V,.int .i64 ((T:Int)+1),.int .i64 (B9 (ks.take q)).length,.string ⟨#[]⟩,.string ⟨#[]⟩,.bool false]
 row:Bk (fun _=>False) (w.heap.size+1) 98 1 wr (Im (bs.take q)) V
theorem IL.drew {w:World} {T:Nat} {ks:List Nd} {a:List Nat} {q:Nat} {wr:World} {V:Value} (h:IL w T ks a q wr V):IL w T ks a q wr.drew V:=
 ⟨h.below.trans ((Below.drew (Below.refl _ wr)).mono h.below.size),h.blk.drew,h.row.below (Below.drew (Below.refl _ _))⟩
theorem Bk.empty {S0:Nat->Prop} {b s:Nat} {t:TypeId} {w:World} (a:b<=w.heap.size):Bk S0 b t s (w.alloc (.cells #[] t)) [] (.slice (some ⟨w.heap.size,0,none⟩) 0 0):=
 ⟨[],⟨by simp,.inr ⟨w.heap.size,0, #[],rfl,a,heap_alloc_new w _,Nat.le_refl _,by unfold maxLen;omega,by simp,by simp⟩⟩,fun x c=>(by cases c),fun _ _ _=>rfl⟩
theorem Rb {d:List Cq} {b:Nat} {w:World} (h:Ct w w.heap.size (.leaf d) b) (h0:0<d.length) (p:Af d<=100000000):
 Calls Tryz.prog 220 #[.pointer (some ⟨b,0,none⟩)] w (Oo d w):=by
 simp only[Ct]at h;obtain⟨_,a,c,m,l⟩:=h;have k:=Ni d a d.length c w m p;have c1:=l.cell 0;have s:=l.lt;have r:((d.length:Int)==0)=false:=beq_eq_false_iff_ne.2 (by omega);obtain⟨q,f⟩: ∃P:Ending->World->Prop,Oo d w=P:=⟨_,rfl⟩;rw[f]at k ⊢;obtain⟨n,i⟩:=hid2 k f;clear k f;clear m l;go_enter Tryz.func220,Tryz.ntmps220;go_wp2_with (fail);(with_reducible refine(n.out).mono ?_);intro e w1 j;rw[<-i.out]at j;obtain⟨_,g,rfl,_⟩:=id j;rw[i.out]at j;have o:=qz j;clear j;go_wp2;exact o.out
def NP (S:Nat->Prop) (nd:Nd) (w:World) (e:Ending) (w':World):Prop:=Below w.heap.size w w'/\ ∃b,e=.returned (.pointer (some ⟨b,0,none⟩))/\Df (fun i=>S i\/w.heap.size<=i) w' nd b
def Un (S:Nat->Prop) (w:World):Option Nd->Option Addr->Prop
 |none,p=>p=none
 |some n,p=> ∃b,p=some ⟨b,0,none⟩/\Df S w n b
theorem Un.below {S:Nat->Prop} {w w':World} {t:Option Nd} {p:Option Addr} (h:Un S w t p) (c:Below w.heap.size w w'):Un S w' t p:=by
 cases t with
 |none=>exact h
 |some t=>
  obtain⟨b,e,a⟩:=h;exact⟨b,e,a.below c⟩
theorem Un.mono {S T:Nat->Prop} {w:World} {t:Option Nd} {p:Option Addr} (h:Un S w t p) (a: ∀i,i<w.heap.size->S i->T i):Un T w t p:=by
 cases t with
 |none=>exact h
 |some t=>
  obtain⟨b,e,c⟩:=h;exact⟨b,e,c.mono a⟩
theorem It {S:Nat->Prop} {w w1:World} {N:Nat} (h:w.heap.size<=w1.heap.size): ∀(i:Nat),i<N->(S i\/w1.heap.size<=i)->(S i\/w.heap.size<=i):=fun _ _ b=>b.imp id fun a=>Nat.le_trans h a
def SP (S:Nat->Prop) (r:Nd×Option Nd) (w:World) (e:Ending) (w':World):Prop:=Below w.heap.size w w'/\ ∃b q,e=.returned (.tuple #[.pointer (some ⟨b,0,none⟩),.pointer q])/\Df (fun i=>S i\/w.heap.size<=i) w' r.1 b/\Un (fun i=>S i\/w.heap.size<=i) w' r.2 q
theorem Ml (S:Nat->Prop) (d:List Cq) (a:Option Addr) (n c:Nat) (w:World) (h:Ag w w.heap.size (.row 7 (dO d)) [.slice a n c]) (p:Dg d) (o:d.length<=8) (q:Af d<=100000000):Calls Tryz.prog 224 #[.slice a n c] w (NP S (.leaf d) w):=by
 have l:=qz (Aah d a n c w h p o q);obtain⟨k,f⟩: ∃P:Ending->World->Prop,NP S (.leaf d) w=P:=⟨_,rfl⟩;rw[f];have j:=qz f;clear f;clear h;go_enter Tryz.func224,Tryz.ntmps224;go_wp2_with (fail);(with_reducible refine(l.out).mono ?_);rintro e w1 ⟨g,b,rfl,hN⟩;have m:Hid (k (.returned (.pointer (some ⟨b,0,none⟩))) w1):=by
  show k _ _;rw[<-j.out];exact⟨g,b,rfl,hN.mono fun i _ r=> .inr r⟩
 clear g hN;go_wp2;exact m.out
theorem Sr: ∀(a b:List Cq),Af (a++b)=Af a+Af b
 | [],b=>by simp[Af]
 |x::r,b=>by simp[Af,Sr r b];omega
theorem Px (l:List Cq) (i:Nat):Af (l.take i)<=Af l/\Af (l.drop i)<=Af l:=by
 have:=Sr (l.take i) (l.drop i);rw[List.take_append_drop]at this;omega
theorem Ns (S:Nat->Prop) (f:List Cq) (a:Option Addr) (n c:Nat) (w:World) (h:Ag w w.heap.size (.row 7 (dO f)) [.slice a n c]) (N:Dg f) (Z:f.length<=9) (Q:n<=c) (O:Af f<=100000000):
 Calls Tryz.prog 223 #[.slice a n c,.func (.func 224) #[] #[]] w (SP S (J1 f) w):=by
 have X:=h.row_len;rw[Cb]at X;subst X;obtain⟨G,k⟩: ∃P:Ending->World->Prop,SP S (J1 f) w=P:=⟨_,rfl⟩;rw[k];by_cases H:f.length<=8
 . have U:=Ml S f a f.length c w h N H O;have y8:(f.length:Int)<=8:=by omega
   have M:=qz (show J1 f=(.leaf f,none)from by unfold J1;rw[if_pos H]);obtain⟨Y,r⟩:=hid2 U k;clear U k;clear h;go_enter Tryz.func223,Tryz.ntmps223;go_wp2_with (fail);(with_reducible refine(Y.out).mono ?_);rintro e w1 ⟨l,b,rfl,hN⟩;have L:Hid (G (.returned (.tuple #[.pointer (some ⟨b,0,none⟩),.pointer none])) w1):=by
    show G _ _;rw[<-r.out,M.out];exact⟨l,b,none,rfl,hN,rfl⟩
   clear l hN;go_wp2;exact L.out
 . have v:f.length=9:=by omega
   obtain⟨e0,D⟩: ∃p,f[0]? =some p:=⟨_,List.getElem?_eq_getElem (by omega)⟩;obtain⟨g,q,rfl,hg,_⟩:=E3 h D;have t:=List.pairwise_append.1 (show Dg (f.take 4++f.drop 4)from by rw[List.take_append_drop];exact N);have B:dO (f.take 4)=(dO f).take 4:=by rw[Dx,Dx,List.map_take]
   have C:dO (f.drop 4)=(dO f).drop 4:=by rw[Dx,Dx,List.map_drop]
   have E:Ag w w.heap.size (.row 7 (dO (f.take 4))) [.slice (some ⟨g,q,none⟩) 4 c]:=B▸h.cutL (i:=4) (by rw[Cb];omega) c;have F:Ag w w.heap.size (.row 7 (dO (f.drop 4))) [.slice (some ⟨g,q+28,none⟩) 5 (c - 4)]:=C▸h.cutR (i:=4) (m:=5) (by rw[Cb];omega) (c - 4);have I:=qz (fun(W:World) (x:Below w.heap.size w W)=>Ml S (f.take 4) (some ⟨g,q,none⟩) 4 c W ((E.below x).more x.size) t.1 (by rw[List.length_take];omega) (Nat.le_trans (Px f 4).1 O));have J:=qz (fun(W:World) (x:Below w.heap.size w W)=>Ml S (f.drop 4) (some ⟨g,q+28,none⟩) 5 (c - 4) W ((F.below x).more x.size) t.2.1 (by rw[List.length_drop];omega) (Nat.le_trans (Px f 4).2 O));have V:J1 f=(.leaf (f.take 4),some (.leaf (f.drop 4))):=by unfold J1;rw[if_neg H]
   rw[v]at Q ⊢;have z1:4<=c:=by omega
   have z2:(4:Int)<=(c:Int):=by omega
   have z3:(9:Int)<=(c:Int):=by omega
   have z4: ¬c=4:=by omega
   have j:=Below.drew (Below.refl w.heap.size w);obtain⟨r,M⟩:=hid2 k V;clear k V;clear h E F B C D t v Z H N;go_enter Tryz.func223,Tryz.ntmps223;go_upto_region 3 with(fail);refine wp_region_held_drew (S:=fun _=>True) (by kernel_rfl) trivial (fun d=> ?_);generalize w.drew=wd at j ⊢;refine tkH 0 d ?_;refine tkH 1 d ?_;refine tkH 2 d ?_;refine tkH 4 d ?_;refine tkH 5 d ?_;refine tkH 6 d ?_;refine rd1 3 fun K y=> ?_;go_simp;(with_reducible refine(I.out _ j).mono ?_);rintro e w1 ⟨l,R,rfl,z⟩;have o:=j.trans (l.mono j.size);refine y.out _ _ trivial (fun d=> ?_);clear y K l;have u:=qz z;clear z
   try simp only[Act.put,tk1,tk2,tk3,tk4,tk5,tk6]
   refine rd1 7 fun K y=> ?_;go_simp;(with_reducible refine(J.out _ o).mono ?_);rintro e w2 ⟨s,T,rfl,A⟩;have L:Hid (G (.returned (.tuple #[.pointer (some ⟨R,0,none⟩),.pointer (some ⟨T,0,none⟩)])) w2):=by
    show G _ _;rw[<-r.out,M.out];exact⟨o.trans (s.mono o.size),R,_,rfl,(u.out.below s).mono (It j.size),T,rfl,A.mono (It o.size)⟩
   refine y.out _ _ trivial (fun d=> ?_);clear y K s A u o j
   try simp only[Act.put,tk1,tk2,tk3,tk4,tk5,tk6]
   refine tkH 8 d ?_;refine tkH 9 d ?_;refine wpAnyH_done (by kernel_rfl) ?_ _;clear d;go_wp2;exact L.out
theorem Ais {S0:Nat->Prop} (b:Nat) (w:World) (g i m:Nat) (a:List Cq) (d:D) (ys:List Value) (z:Bk S0 b 103 7 w (dO a) (.slice (some ⟨g,0,none⟩) a.length a.length)) (x:b<=w.heap.size) (C:i<=a.length) (y:a.length<=1000)
 (q:d.cells=7) (s:Ai (fun i=>S0 i/\(Value.slice (some ⟨g,0,none⟩) a.length a.length).ownBlock≠some i) w d ys) (f: ∀j v,ys[j]? =some v->w.cell? ⟨m,j,none⟩=some v):
 Calls Tryz.prog 222 #[.slice (some ⟨g,0,none⟩) a.length a.length,.int .i64 i,.slice (some ⟨m,0,none⟩) 1 1] w fun e w'=> ∃V',e=.returned V'/\Bk S0 b 103 7 w' ((dO a).take i++ [d]++(dO a).drop i) V'/\w.grownBy w' (some g):=by
 obtain⟨ns,n,p,l⟩:=z;rw[Cb]at n;obtain⟨c,h⟩:=s.now.len;rw[q]at c;have B:ns.length=a.length*7:=by rw[l.now.len.1,Ge p,Cb]
 have o:=l.now.len.2;rcases Nat.lt_or_ge i a.length with r|A
 . rcases n.2 with⟨e,_⟩|⟨g',cap,cur,e,hbg,hg,hnc,hcm,hcs,hcx⟩
   . cases e
   . cases e
     refine(Af7 b w g a.length i cur ns x hg hcs hcx r y o m ys c f h).mono ?_;rintro e w' ⟨V',rfl,t,k,u⟩;exact⟨V',rfl,Bk.of_ins t p q l s (Q0 k) (.inr u) (by rw[Cb]),Q0 k⟩
 . obtain rfl:i=a.length:=by omega
   refine(Z4 b w _ a.length ns n x y m ys c f h).mono ?_;rintro e w' ⟨V',rfl,t,k,u⟩;refine⟨V',rfl,Bk.of_ins (ns:=ns) (V:=.slice (some ⟨g,0,none⟩) a.length a.length) ?_ p q l s k u (by rw[Cb]),k⟩;rw[List.take_of_length_le (by omega),List.drop_eq_nil_of_le (by omega),List.append_nil];exact t
end Go.Proofs.YtjgfchcldhmjcaaGreatDoor
namespace Go.Proofs.YtjgfchcldhmjcaaGreatDoor
open Go Go.RowKit Go.Sort
theorem Vf (d:List Cq) (k:ByteArray) (a:Option Addr) (n c m o i B:Nat) (y:i<d.length) (_:d.length<=1000) (w:World) (h:Ag w B (.row 7 (dO d)) [.slice a n c]) (s:w.cell? ⟨m,0,none⟩=some (.slice a n c)) (t:w.cell? ⟨o,0,none⟩=some (.string k)):
 Calls Tryz.prog 288 #[.int .i64 i,.pointer (some ⟨m,0,none⟩),.pointer (some ⟨o,0,none⟩)] w fun e w'=>e=.returned (.bool (!((d[i]?.map fun e=>Er e.1 k).getD false)))/\w'=w.drew:=by
 have v:=h.row_len;rw[Cb]at v;subst v;obtain⟨q,j⟩: ∃p,d[i]? =some p:=⟨_,List.getElem?_eq_getElem y⟩;obtain⟨g,f,rfl,z,A,C,D,E,F,G,_,x⟩:=E3 h j;have r:=x 0 _ rfl;simp only[Nat.add_zero]at r;have H:(i:Int)<(d.length:Int):=by omega
 have I:(0:Int)<=i:=by omega
 have u:(!((d[i]?.map fun e=>Er e.1 k).getD false))= !(Op.bytesLess q.1.toList k.toList):=by rw[j];rfl
 rw[u];have l:(fun Y:World=>Y.cell? ⟨m,0,none⟩=some (.slice (some ⟨g,f,none⟩) d.length c)/\Y.cell? ⟨o,0,none⟩=some (.string k)/\Y.cell? ⟨g,f+i*7,none⟩=some (.string q.1)) w.drew:=⟨s,t,r⟩;clear x j u h s t r;go_enter Tryz.func288,Tryz.ntmps288;go_upto_region 1 with(fail);refine wp_region_held_drew (S:=fun Y=>Y.cell? ⟨m,0,none⟩=some (.slice (some ⟨g,f,none⟩) d.length c)/\Y.cell? ⟨o,0,none⟩=some (.string k)/\Y.cell? ⟨g,f+i*7,none⟩=some (.string q.1)) (by kernel_rfl) l (fun b=> ?_);refine tkH 0 b ?_;refine tkH 1 b ?_;refine tkH 2 b ?_;refine tkH 3 b ?_;refine tkH 4 b ?_;refine tkH 5 b ?_;refine tkH 6 b ?_;refine tkH 7 b ?_;refine wpAnyH_done (by kernel_rfl) ?_ _;clear b l;go_wp2;go_ret;exact⟨rfl,rfl⟩
theorem Y9 (w:World) (q:Nat) (os:Array Obj):Below w.heap.size w (grow (w.drewN q) os):=below_grown_sl w.heap.size w q os (Nat.le_refl _)
theorem Akj {k:ByteArray} {a:List Cq} (g:Dg a) (x y:Nat) (j:x<=y) (c:y<a.length) (h:(!((a[x]?.map fun e=>Er e.1 k).getD false))=true):(!((a[y]?.map fun e=>Er e.1 k).getD false))=true:=by
 have d:a[x]? =some a[x]:=List.getElem?_eq_getElem (by omega);have f:a[y]? =some a[y]:=List.getElem?_eq_getElem c;rw[d]at h;rw[f];simp only[Option.map_some,Option.getD_some]at h ⊢;rcases Nat.lt_or_ge x y with b|i
 . have:=List.pairwise_iff_getElem.1 g x y (by omega) c b
   cases hb:Er a[y].1 k with
   |false=>rfl
   |true=>
    rw[Dq this hb]at h;exact h
 . obtain rfl:x=y:=by omega
   exact h
theorem Pp (d:List Cq) (k:ByteArray) (a:Option Addr) (n c:Nat) (w:World) (h:Ag w w.heap.size (.row 7 (dO d)) [.slice a n c]) (T:Dg d) (hn:d.length<=1000):
 Calls Tryz.prog 221 #[.slice a n c,.string k] w fun e w'=>e=.returned (.tuple #[.int .i64 (F9 k d),.bool (E6 k d)])/\Below w.heap.size w w':=by
 obtain⟨PO,z⟩: ∃P:Ending->World->Prop,(fun e w'=>e=.returned (.tuple #[.int .i64 (F9 k d),.bool (E6 k d)])/\Below w.heap.size w w')=P:=⟨_,rfl⟩;rw[z];have C: ∀W,Below w.heap.size w W->PO (.returned (.tuple #[.int .i64 (F9 k d),.bool (E6 k d)])) W:=fun W I=>by
  rw[<-z];exact⟨rfl,I⟩
 clear z;have U:=h.row_len;rw[Cb]at U;subst U;obtain⟨t,v⟩: ∃t,(w.alloc (.cells #[.slice a d.length c] 166)).alloc (.cells #[.string k] 9)=t:=⟨_,rfl⟩;have u:Below w.heap.size w t:=v▸((Aa w (.cells #[.slice a d.length c] 166)).alloc (by simp) _);have f:Ap t w.heap.size 166 #[.slice a d.length c]:=v▸(Ap.new _ _ _).alloc _;have j:Ap t (w.heap.size+1) 9 #[.string k]:=by
  have:=Ap.new (w.alloc (.cells #[.slice a d.length c] 166)) 9 #[.string k]
  rwa [World.size_alloc,v]at this
 have L:=Tryz.sort_Search 288 #[.pointer (some ⟨w.heap.size,0,none⟩),.pointer (some ⟨w.heap.size+1,0,none⟩)] d.length (fun i=> !((d[i]?.map fun e=>Er e.1 k).getD false)) t (fun _ _=>by kernel_rfl) (by omega)
  (fun m os i hi=>by
    have I:=Y9 t m os;refine(Vf d k a d.length c w.heap.size (w.heap.size+1) i w.heap.size hi hn (grow (t.drewN m) os) (h.below (u.trans (I.mono u.size))) ((I.cell (p:=⟨w.heap.size,0,none⟩) f.lt).trans (f.cell 0)) ((I.cell (p:=⟨w.heap.size+1,0,none⟩) j.lt).trans (j.cell 0))).mono ?_;rintro e w' ⟨rfl,rfl⟩;exact⟨rfl,1, #[],by rw[grow_empty];rfl⟩)
  (fun x y h1 h2 h3=>Akj T x y h1 h2 h3)
 simp only[Bool.not_not]at L;rw[Ah4 T]at L;have aa:=Sp k d;have d1:=f.cell 0;have d2:=j.cell 0;have V:=f.lt;have X:=j.lt;obtain⟨HS,E,F,G,H⟩:=hid5 L u f j h;clear L u f j h;go_enter Tryz.func221,Tryz.ntmps221;go_upto_region 1 with(fail);clear v;go_wp2_with (fail);(with_reducible refine(HS.out).mono ?_);rintro e w1 ⟨rfl,q,os,rfl⟩;have l:=Y9 t q os;generalize grow (t.drewN q) os=w1 at l ⊢;have o:=E.out.trans (l.mono E.out.size);have r:=F.out.below l V;have s:=G.out.below l X;clear d1 d2;have d1:=r.cell 0;have d2:=s.cell 0;have l3:=r.lt;have l4:=s.lt;have Q:=qz (o.trans ((Below.drew (Below.refl _ w1)).mono o.size));clear r s l F G V X;by_cases B:F9 k d<d.length
 . obtain⟨R,A⟩: ∃p,d[F9 k d]? =some p:=⟨_,List.getElem?_eq_getElem B⟩;have J:E6 k d=(R.1.toList==k.toList):=by unfold E6;rw[A];rfl
   rw[J]at C;have D:=qz C;clear C;obtain⟨g,K,rfl,hg,u1,u2,u3,u4,u5,u6,_,Z⟩:=E3 (H.out.below o) A;have M:=Z 0 _ rfl;simp only[Nat.add_zero]at M;have N:(F9 k d:Int)<(d.length:Int):=by omega
   have O:(0:Int)<=(F9 k d:Int):=by omega
   generalize F9 k d=P at D B M N O ⊢;clear Z A J H o;go_upto_region 2 with(fail);refine wp_region_held_drew (S:=fun Y:World=>Y.cell? ⟨w.heap.size,0,none⟩=some (.slice (some ⟨g,K,none⟩) d.length c)/\Y.cell? ⟨w.heap.size+1,0,none⟩=some (.string k)/\Y.cell? ⟨g,K+P*7,none⟩=some (.string R.1)) (by kernel_rfl) ⟨d1,d2,M⟩ (fun b=> ?_);refine tkH 0 b ?_;refine tkH 1 b ?_;refine tkH 2 b ?_;refine tkH 3 b ?_;refine tkH 4 b ?_;refine tkH 5 b ?_;refine tkH 6 b ?_;refine tkH 7 b ?_;refine tkH 8 b ?_;refine tkH 9 b ?_;refine tkH 10 b ?_;refine tkH 11 b ?_;refine tkH 12 b ?_;refine tkH 13 b ?_;refine tkH 14 b ?_;refine tkH 15 b ?_;refine wpAnyH_done (by kernel_rfl) ?_ _;clear b;go_wp2;exact D.out _ Q.out
 . have J:E6 k d=false:=by unfold E6;rw[List.getElem?_eq_none (by omega)];rfl
   rw[J]at C;have D:=qz C;clear C;have N: ¬((F9 k d:Int)<(d.length:Int)):=by omega
   have O:decide (F9 k d<d.length)=false:=decide_eq_false B;generalize F9 k d=P at D N O ⊢;clear J H o;go_upto_region 2 with(fail);refine wp_region_held_drew (S:=fun Y:World=>Y.cell? ⟨w.heap.size,0,none⟩=some (.slice a d.length c)/\Y.cell? ⟨w.heap.size+1,0,none⟩=some (.string k)) (by kernel_rfl) ⟨d1,d2⟩ (fun b=> ?_);refine tkH 0 b ?_;refine tkH 1 b ?_;refine tkH 2 b ?_;refine tkH 3 b ?_;refine tkH 4 b ?_;refine tkH 5 b ?_;refine tkN 6 b ?_;refine tkN 7 b ?_;refine tkN 8 b ?_;refine tkN 9 b ?_;refine tkN 10 b ?_;refine tkN 11 b ?_;refine tkN 12 b ?_;refine tkH 13 b ?_;refine tkH 14 b ?_;refine tkH 15 b ?_;refine wpAnyH_done (by kernel_rfl) ?_ _;clear b;go_wp2;exact D.out _ Q.out
end Go.Proofs.YtjgfchcldhmjcaaGreatDoor
