/- Parts: What is read of a value is not more than it, and has numbers of 64 bits. Plain. No condition. -/
import Derived.Test.YtobmaegpfbheoaaGreatDoorKMo30
import Derived.Test.YtobmaegpfbheoaaGreatDoorKMo31
import Derived.Test.YtobmaegpfbheoaaGreatDoorKMo32
set_option maxHeartbeats 20000000
set_option maxRecDepth 100000
namespace Go.Proofs.YtobmaegpfbheoaaGreatDoor
open Go Go.RowKit
def Akf (f:Nat):Prop:= ∀(v:Val) (d:Int) (cs:List Value) (g A R W:Nat) (F:Nat->Nat) (w:World),Shp w g A R W F->Ai w w.heap.size (dV v) cs->Bb v d=0->v.bulk<=100000000->1<=d->d<=65->66<=d+f->
 Calls Tryz.prog 81 #[.map (some g),.agg cs.toArray] w (Te (Df f v) w)
theorem T7 (vk:Int) (vb:Bool) (vn:Int) (vt:ByteArray) (vl:List Val) (vo:List (ByteArray×Val)) (vla vlc voa voc) (A g:Nat) (w:World) (r:Int×Mut) (hA:w.cell? ⟨A,0,none⟩=some (.map (some g))) (hAw:A<w.heap.size)
 (hC: ∀W,Below w.heap.size w W->Calls Tryz.prog 81 #[.map (some g),.agg #[.int .i64 vk,.bool vb,.int .i64 vn,.string vt,.slice vla vl.length vlc,.slice voa vo.length voc]] W (Te r W)):
 Calls Tryz.prog 80 #[.agg #[.int .i64 vk,.bool vb,.int .i64 vn,.string vt,.slice vla vl.length vlc,.slice voa vo.length voc],.pointer (some ⟨A,0,none⟩)] w (Te r w):=by
 have hI0:RV w #[.int .i64 vk,.bool vb,.int .i64 vn,.string vt,.slice vla vl.length vlc,.slice voa vo.length voc] ((w.alloc (.cells #[.int .i64 vk,.bool vb,.int .i64 vn,.string vt,.slice vla vl.length vlc,.slice voa vo.length voc] 42)).alloc (.cells B4 Af)):=
  ⟨((Below.refl _ _).alloc (Nat.le_refl _) _).alloc (by simp) _,(Aj.new w _ _).alloc _,by simpa using Aj.new (w.alloc (.cells #[.int .i64 vk,.bool vb,.int .i64 vn,.string vt,.slice vla vl.length vlc,.slice voa vo.length voc] 42)) Af B4⟩
 obtain⟨wi,hwi⟩: ∃wi,(w.alloc (.cells #[.int .i64 vk,.bool vb,.int .i64 vn,.string vt,.slice vla vl.length vlc,.slice voa vo.length voc] 42)).alloc (.cells B4 Af)=wi:=⟨_,rfl⟩;rw[hwi]at hI0;have HC1:=qz (hC wi hI0.below);have hA1:wi.cell? ⟨A,0,none⟩=some (.map (some g)):=(hI0.below.cell (p:=⟨A,0,none⟩) hAw).trans hA;have hA2:A<wi.heap.size:=Nat.lt_of_lt_of_le hAw hI0.below.size;obtain⟨x0,x1,x2,x3,x4,x5⟩:=Bd hI0.box;have xl:=hI0.box.lt;have HI0:=qz hI0;clear hI0;clear hC hA hAw;go_enter Tryz.func80,Tryz.ntmps80;go_upto_region 1 with(fail);clear hwi;go_wp2_with (fail);(with_reducible refine(HC1.out).mono ?_);rintro e w2 ⟨hb2,hr⟩;have hI2:=HI0.out.call hb2;by_cases hc:r.1≠0
 . rw[if_pos hc]at hr;obtain rfl:=hr;have hP:=Te.no (r:=r) (c:=r.1) rfl hc hI2.below;generalize r.1=code at hP ⊢;have HP:=qz hP;clear hP;clear hb2 hI2 hc;go_wp2;exact⟨rfl,HP.out⟩
 rw[if_neg hc]at hr;obtain⟨ca,rfl,hf⟩:=hr;have hsc:B4.size=ca.size:=by have:=hf.now.len.1;rw[C9]at this;simpa using this.symm
 have hcc: ∀u ∈ ca.toList,u.oneCell'=true:=hf.now.len.2;have hlt:w.heap.size+1<wi.heap.size:=HI0.out.res.lt;obtain⟨HI2,Hf,Hc⟩:=hid3 hI2 hf hc;clear hI2 hf hc;clear hb2 x0 x1 x2 x3 x4 x5;dsimp only
 iterate 2 go_step
 refine Ag (cs:=B4) Af (.tmp 3) (.tmp 6) rfl (w.heap.size+1) 0 HI2.out.res (.agg ca) rfl rfl (by simp only[Value.cells];rw[<-hsc];exact Nat.le_of_ble_eq_true rfl) (by simp only[Value.cells];rw[<-hsc];kernel_rfl) (by simp only[Value.cells];exact hcc) HI2.out.below (Nat.le_succ _) ?_;intro w7 hx7 hb7 hs7 hfar;rw[show(Value.agg ca).cells=ca from by simp only[Value.cells],B3 B4 ca hsc]at hx7;have hd7:An w.heap.size w7 (dM r.2) ca.toList:=Hf.out.keep (by omega) (by omega) fun p p1 _=>World.cell?_of_block (hfar _ (by omega));have HQ:Hid (Te r w (.returned (.agg ca)) w7):=⟨hb7,by rw[if_neg Hc.out];exact⟨ca,rfl,hd7⟩⟩;have Hx7:=qz hx7;clear hx7;clear hfar hd7 hb7
 repeat go_step
 exact bodyPost_ret (Cq rfl rfl Hx7.out Tryz.underlying45 rfl (by rw[<-hsc];kernel_rfl)) rfl HQ.out
theorem Ls {a:ByteArray} {k:Int} (h:Ka a=some k):(a=Nr/\k=1)\/(a=Np/\k=2)\/(a=Nq/\k=3)\/(a=Mn/\k=4)\/(a=No/\k=5)\/(a=Jt/\k=6)\/(a=Ns/\k=7):=by
 unfold Ka at h
 split at h
 . cases h;rename_i e;exact .inl ⟨e,rfl⟩
 split at h
 . cases h;rename_i e;exact .inr (.inl ⟨e,rfl⟩)
 split at h
 . cases h;rename_i e;exact .inr (.inr (.inl ⟨e,rfl⟩))
 split at h
 . cases h;rename_i e;exact .inr (.inr (.inr (.inl ⟨e,rfl⟩)))
 split at h
 . cases h;rename_i e;exact .inr (.inr (.inr (.inr (.inl ⟨e,rfl⟩))))
 split at h
 . cases h;rename_i e;exact .inr (.inr (.inr (.inr (.inr (.inl ⟨e,rfl⟩)))))
 split at h
 . cases h;rename_i e;exact .inr (.inr (.inr (.inr (.inr (.inr ⟨e,rfl⟩)))))
 . cases h
theorem Yp {a:ByteArray} (h:Ka a=none):a≠Nr/\a≠Np/\a≠Nq/\a≠Mn/\a≠No/\a≠Jt/\a≠Ns:=by
 unfold Ka at h
 split at h
 . cases h
 split at h
 . cases h
 split at h
 . cases h
 split at h
 . cases h
 split at h
 . cases h
 split at h
 . cases h
 split at h
 . cases h
 . exact⟨by assumption,by assumption,by assumption,by assumption,by assumption,by assumption,by assumption⟩
theorem N8 {w:World} {g:Nat} {t:TypeId} {cs:Array Value} {fs:List (ByteArray×Int)} (h:Aj w g t cs) (hk: ∀j p,fs[j]? =some p->cs[j*2]? =some (.string p.1)/\cs[j*2+1]? =some (.int .i64 p.2)):Fld w g 0 fs:=
 ⟨h.lt,fun j p e=>by rw[Nat.zero_add];exact(h.cell _).trans (hk j p e).1,fun j p e=>by rw[Nat.zero_add];exact(h.cell _).trans (hk j p e).2⟩
theorem Uo (args:Array Value) (W:World):(callFunc 120 args).run Tryz.prog W=.ok (.enter 120 args) W:=by kernel_rfl
theorem Afk (args:Array Value) (W:World):(callFunc 69 args).run Tryz.prog W=.ok (.enter 69 args) W:=by kernel_rfl
theorem Afl (args:Array Value) (W:World):(callFunc 72 args).run Tryz.prog W=.ok (.enter 72 args) W:=by kernel_rfl
theorem Afm (args:Array Value) (W:World):(callFunc 76 args).run Tryz.prog W=.ok (.enter 76 args) W:=by kernel_rfl
theorem Adp (args:Array Value) (W:World):(callFunc 123 args).run Tryz.prog W=.ok (.enter 123 args) W:=by kernel_rfl
theorem Adq (args:Array Value) (W:World):(callFunc 126 args).run Tryz.prog W=.ok (.enter 126 args) W:=by kernel_rfl
theorem Md (key:ByteArray) (o:List (ByteArray×Val)):(Av key o=none/\A0 key o=L9)\/Av key o=some (A0 key o):=by
 unfold A0
 cases Av key o with
 |none=>exact .inl ⟨rfl,rfl⟩
 |some x=>exact .inr rfl
theorem Afg {key:ByteArray} {o:List (ByteArray×Val)} {last:Option ByteArray} {d:Int} (h:C5 o last d=0) {x:Val} (e:Av key o=some x):Bb x d=0:=(So h _ (Fy e)).2
theorem Rm {key:ByteArray} {o:List (ByteArray×Val)} {x:Val} (e:Av key o=some x):1+key.size+x.bulk<=Au o:=Ef (Fy e)
theorem Adm {k:Int} {b:Bool} {n:Int} {t:ByteArray} {l:List Val} {o:List (ByteArray×Val)} {B:Nat} (h:(Val.mk k b n t l o).bulk<=B) (key:ByteArray):(B0 (A0 key o)).length<=B/\ ∀key2 x,Av key2 (B0 (A0 key o))=some x->x.bulk<=B:=by
 have h2:Au (B0 (A0 key o))<=B:=by
  rcases Md key o with⟨_,e⟩|e
  . rw[e];exact Nat.zero_le _
  . have h3:=Rm e;generalize A0 key o=z at h3 ⊢;obtain⟨k',b',n',t',l',o'⟩:=z;simp only[Val.bulk]at h h3;show Au o'<=B;omega
 refine⟨by have:=C3 (B0 (A0 key o));omega,fun key2 x e=> ?_⟩;have:=Rm e;omega
theorem Ajp {k:Int} {b:Bool} {n:Int} {t:ByteArray} {l:List Val} {o:List (ByteArray×Val)} {d:Int} {B:Nat} (hm:Bb (.mk k b n t l o) d=0) (h:(Val.mk k b n t l o).bulk<=B) {x:Val} (hx:x ∈ Jr (A0 Ja (B0 (A0 Ao o)))):Bb x (d+3)=0/\x.bulk<=B:=by
 rcases Md Ao o with⟨_,e⟩|e
 . rw[e]at hx;rcases Md Ja (B0 L9)with⟨_,e2⟩|e2
   . rw[e2]at hx;exact absurd hx (by show ¬x ∈ ([]:List Val);simp)
   . exact absurd (Fy e2) (by show ¬_ ∈ ([]:List (ByteArray×Val));simp)
 have m1:=Afg (Gx hm).2.2.2.2 e;have b1:=Rm e;simp only[Val.bulk]at h;generalize A0 Ao o=z at hx m1 b1;clear e;obtain⟨k1,b1',n1,t1,l1,o1⟩:=z;change x ∈ Jr (A0 Ja o1)at hx;rcases Md Ja o1 with⟨_,e2⟩|e2
 . rw[e2]at hx;exact absurd hx (by show ¬x ∈ ([]:List Val);simp)
 have m2:=Afg (Gx m1).2.2.2.2 e2;have b2:=Rm e2;simp only[Val.bulk]at b1;generalize A0 Ja o1=z at hx m2 b2;clear e2;obtain⟨k2,b2',n2,t2,l2,o2⟩:=z;change x ∈ l2 at hx;have m3:=Sm (Gx m2).2.2.2.1 x hx;have b3:=Ew hx;simp only[Val.bulk]at b2;exact⟨by rw[show d+3=d+1+1+1 by omega];exact m3,by omega⟩
theorem Lp {k:Int} {fs:List (ByteArray×Int)} {w:World} {g:Nat} (e:Bz k=fs) (h:Fld w g 0 fs):Fld w g 0 (Bz k):=e▸h
theorem Ab5: ∀f,Akf f:=by
 intro f
 induction f with
 |zero=>
  intro v d cs g A R W F w _ _ hm _ _ _ hd;obtain⟨k,b,n,t,l,o⟩:=v;have:=(Gx hm).2.1;omega
 |succ f IH=>
  intro v d cs g A R W F w hS hV hm hb h1 _ hd;obtain⟨k,b,n,t,l,o⟩:=v;have h6:=Co _ _ hV;simp only[Ac]at h6;obtain⟨la,lc,oa,oc,rfl,_,_⟩:=h6;obtain⟨q1,q2⟩:=Adm hb Ao;rw[Mo];refine Aek (Df f) k b n t l o la lc oa oc g _ w hV hb hS.map (fun a h=> ?_) (fun a kd h=> ?_)
  . obtain⟨e1,e2,e3,e4,e5,e6,e7⟩:=Yp h;simp only[C4,if_neg e1,if_neg e2,if_neg e3,if_neg e4,if_neg e5,if_neg e6,if_neg e7]
  . rcases Ls h with⟨rfl,rfl⟩|⟨rfl,rfl⟩|⟨rfl,rfl⟩|⟨rfl,rfl⟩|⟨rfl,rfl⟩|⟨rfl,rfl⟩|⟨rfl,rfl⟩
    . refine⟨by omega,by omega,120, #[],F 1,122, #[],by kernel_rfl,Lp (fs:= [(As,0),(E3,0)]) rfl (N8 hS.f1 fun j p e=> ?_),Uo,fun W' a c hW hr=> ?_⟩
      . match j,e with
        |0,e=>cases e;exact⟨rfl,rfl⟩
        |1,e=>cases e;exact⟨rfl,rfl⟩
        |j+2,e=>simp at e
      . simpa using S3 (Df f) (.inl rfl) _ a c W' hr q1 q2
    . refine⟨by omega,by omega,69, #[],F 2,71, #[],by kernel_rfl,Lp (fs:= [(As,0)]) rfl (N8 hS.f2 fun j p e=> ?_),Afk,fun W' a c hW hr=> ?_⟩
      . match j,e with
        |0,e=>cases e;exact⟨rfl,rfl⟩
        |j+1,e=>simp at e
      . simpa using(Ab3 _ a c W' hr q1).mono fun _ _ h=>Aej (Df f) h
    . refine⟨by omega,by omega,72, #[],F 3,75, #[],by kernel_rfl,Lp (fs:= [(Na,0),(As,0)]) rfl (N8 hS.f3 fun j p e=> ?_),Afl,fun W' a c hW hr=> ?_⟩
      . match j,e with
        |0,e=>cases e;exact⟨rfl,rfl⟩
        |1,e=>cases e;exact⟨rfl,rfl⟩
        |j+2,e=>simp at e
      . simpa using Ab6 (Df f) _ a c W' hr q1
    . refine⟨by omega,by omega,123, #[],F 4,124, #[],by kernel_rfl,Lp (fs:= [(Kg,1),(As,0),(Cp,1)]) rfl (N8 hS.f4 fun j p e=> ?_),Adp,fun W' a c hW hr=> ?_⟩
      . match j,e with
        |0,e=>cases e;exact⟨rfl,rfl⟩
        |1,e=>cases e;exact⟨rfl,rfl⟩
        |2,e=>cases e;exact⟨rfl,rfl⟩
        |j+3,e=>simp at e
      . simpa using Ab1 (Df f) _ a c W' hr q1 q2
    . refine⟨by omega,by omega,120, #[],F 5,122, #[],by kernel_rfl,Lp (fs:= [(As,0),(E3,0)]) rfl (N8 hS.f5 fun j p e=> ?_),Uo,fun W' a c hW hr=> ?_⟩
      . match j,e with
        |0,e=>cases e;exact⟨rfl,rfl⟩
        |1,e=>cases e;exact⟨rfl,rfl⟩
        |j+2,e=>simp at e
      . simpa using S3 (Df f) (.inr rfl) _ a c W' hr q1 q2
    . refine⟨by omega,by omega,76, #[],F 6,77, #[],by kernel_rfl,Lp (fs:= [(De,0),(L8,0)]) rfl (N8 hS.f6 fun j p e=> ?_),Afm,fun W' a c hW hr=> ?_⟩
      . match j,e with
        |0,e=>cases e;exact⟨rfl,rfl⟩
        |1,e=>cases e;exact⟨rfl,rfl⟩
        |j+2,e=>simp at e
      . simpa using Zo (Df f) _ a c W' hr q1
    . refine⟨by omega,by omega,126, #[.pointer (some ⟨R,0,none⟩)],F 7,128, #[.pointer (some ⟨W,0,none⟩)],by kernel_rfl,Lp (fs:= [(Ja,0),(L7,1)]) rfl (N8 hS.f7 fun j p e=> ?_),Adq,fun W' a c hW hr=> ?_⟩
      . match j,e with
        |0,e=>cases e;exact⟨rfl,rfl⟩
        |1,e=>cases e;exact⟨rfl,rfl⟩
        |j+2,e=>simp at e
      . have hS2:=hS.below hW;have hq:=Ab9 (Df f) _ a c A R W' hr q1 q2 (hS2.rd.cell 0) hS2.rd.lt fun x hx W3 cs3 hW3 hx3=>by
         obtain⟨mx,bx⟩:=Ajp hm hb hx;have hS3:=hS2.below hW3;obtain⟨k',b',n',t',l',o'⟩:=x;have h6:=Co _ _ hx3;simp only[Ac]at h6;obtain⟨la',lc',oa',oc',rfl,_,_⟩:=h6;exact T7 k' b' n' t' l' o' la' lc' oa' oc' A g W3 _ (hS3.all_.cell 0) hS3.all_.lt fun W4 hW4=>IH _ (d+3) _ g A R W F W4 (hS3.below hW4) (hx3.later hW4) mx bx (by omega) (by have:=(Gx mx).2.1;omega) (by omega)
        simpa using hq
def OfX (r:Int×Mut) (M b:Nat) (w':World):Prop:=r.1=0-> ∃ca:Array Value,Aj w' M Af ca/\ca.size=19/\An b w' (dM r.2) ca.toList
theorem OfX.grown {r:Int×Mut} {M q:Nat} {W W':World} (h:OfX r M (q+1) W) (hM:M≠q) (hg:W.grownBy W' (some q)):OfX r M (q+1) W':=fun h0=>by
 obtain⟨ca,h1,h2,h3⟩:=h h0;exact⟨ca,h1.grown hg (by simpa using hM),h2,h3.keep (Nat.le_refl _) hg.size fun p p1 p2=>World.cell?_of_block (hg.block _ p2 (by simp;omega))⟩
theorem Aef (vk:Int) (vb:Bool) (vn:Int) (vt:ByteArray) (vl:List Val) (vo:List (ByteArray×Val)) (vla vlc voa voc) (V M b:Nat) (w:World) (hbw:b<=w.heap.size) (hMb:M<b)
 (hV:Ai w w.heap.size (dV (.mk vk vb vn vt vl vo)) [.int .i64 vk,.bool vb,.int .i64 vn,.string vt,.slice vla vl.length vlc,.slice voa vo.length voc]) (hb:(Val.mk vk vb vn vt vl vo).bulk<=100000000) (hm:Bb (.mk vk vb vn vt vl vo) 1=0)
 (hbV:Aj w V 42 #[.int .i64 vk,.bool vb,.int .i64 vn,.string vt,.slice vla vl.length vlc,.slice voa vo.length voc]) (hM:Aj w M Af B4):
 Calls Tryz.prog 173 #[.pointer (some ⟨V,0,none⟩),.pointer (some ⟨M,0,none⟩)] w fun e w'=>e=Tm (Df 65 (.mk vk vb vn vt vl vo)).1/\w.grownBy w' (some M)/\OfX (Df 65 (.mk vk vb vn vt vl vo)) M b w':=by
 have HSh:=qz (fun W=>Ph W);obtain⟨RES,hRES⟩: ∃r',Df 65 (.mk vk vb vn vt vl vo)=r':=⟨_,rfl⟩;rw[hRES];have hVs: ∀X:World,Aj X V 42 #[.int .i64 vk,.bool vb,.int .i64 vn,.string vt,.slice vla vl.length vlc,.slice voa vo.length voc]->(X.cell? ⟨V,0,none⟩=some (.int .i64 vk)/\X.cell? ⟨V,1,none⟩=some (.bool vb)/\X.cell? ⟨V,2,none⟩=some (.int .i64 vn)/\X.cell? ⟨V,3,none⟩=some (.string vt)/\X.cell? ⟨V,4,none⟩=some (.slice vla vl.length vlc)/\X.cell? ⟨V,5,none⟩=some (.slice voa vo.length voc)):=fun X h=>⟨h.cell 0,h.cell 1,h.cell 2,h.cell 3,h.cell 4,h.cell 5⟩;have hS0:=hVs _ hbV;obtain⟨HRES,HV,HbV,HM,HVs,Hm⟩:=hid6 hRES hV hbV hM hVs hm;clear hRES hV hbV hM hVs hm;go_enter Tryz.func173,Tryz.ntmps173;refine wp_region_held_drew (S:=fun X=>X.cell? ⟨V,0,none⟩=some (.int .i64 vk)/\X.cell? ⟨V,1,none⟩=some (.bool vb)/\X.cell? ⟨V,2,none⟩=some (.int .i64 vn)/\X.cell? ⟨V,3,none⟩=some (.string vt)/\X.cell? ⟨V,4,none⟩=some (.slice vla vl.length vlc)/\X.cell? ⟨V,5,none⟩=some (.slice voa vo.length voc)) (by kernel_rfl) hS0 (fun hHeld=> ?_);refine tkH 1 hHeld ?_;refine wpAnyH_ready (rs:= [0]) (by kernel_rfl) (by simp) ?_;refine AllReadyH.cons rfl (fun K hK=> ?_) AllReadyH.nil;go_simp;(with_reducible refine(HSh.out _).mono ?_);rintro e w2 ⟨hb2',g,A,R,Wq,F,rfl,hShp⟩;have hb2:Below w.heap.size w w2:=(Below.drew (Below.refl _ _)).trans hb2';have HV2:=qz (HbV.out.below hb2 HbV.out.lt);have HM2:=qz (HM.out.below hb2 HM.out.lt);have hR:=Ab5 65 (.mk vk vb vn vt vl vo) 1 _ g A R Wq F w2 hShp (HV.out.later hb2) Hm.out hb (by omega) (by omega) (by omega);rw[HRES.out]at hR;have hz2:=hb2.size;obtain⟨Hb2,HR⟩:=hid2 hb2 hR;clear hb2 hR;refine hK.out _ _ (HVs.out _ HV2.out) (fun hHeld=> ?_);clear hK K hShp hb2'
 try simp only[Act.put,tk1,tk2,tk3,tk4,tk5,tk6]
 refine wpAnyH_ready (rs:= [2]) (by kernel_rfl) (by simp) ?_;refine AllReadyH.cons rfl (fun K hK=> ?_) AllReadyH.nil;go_simp;(with_reducible refine(HR.out).mono ?_);rintro e w3 ⟨hb3,hr⟩;have hw3:=Hb2.out.trans (hb3.mono Hb2.out.size);have hV3:=HV2.out.below hb3 HV2.out.lt;have hM3:=HM2.out.below hb3 HM2.out.lt;by_cases hc:RES.1≠0
 . rw[if_pos hc]at hr;obtain rfl:=hr;have HP:Hid (Fg RES.1=Tm RES.1/\w.grownBy w3 (some M)/\OfX RES M b w3):=⟨(Dy hc).symm,Ir _ hw3,fun h=>absurd h hc⟩;clear hK hb3 hw3 hV3 hM3;go_wp2;have:=HP.out;rw[Dy hc]at this ⊢;exact⟨rfl,this⟩
 rw[if_neg hc]at hr;obtain⟨ca,rfl,hf⟩:=hr;have hsc:B4.size=ca.size:=by have:=hf.now.len.1;rw[C9]at this;simpa using this.symm
 have hcc: ∀u ∈ ca.toList,u.oneCell'=true:=hf.now.len.2;have hz3:=hb3.size;obtain⟨Hw3,HV3,HM3,Hf⟩:=hid4 hw3 hV3 hM3 hf;clear hw3 hV3 hM3 hf;refine hK.out _ _ (HVs.out _ HV3.out) (fun hHeld=> ?_);clear hK K hb3
 try simp only[Act.put,tk1,tk2,tk3,tk4,tk5,tk6]
 refine wpAnyH_ready (rs:= [3]) (by kernel_rfl) (by simp) ?_;refine AllReadyH.cons rfl (fun K hK=> ?_) AllReadyH.nil;have hMw:M<w.heap.size:=Nat.lt_of_lt_of_le hMb hbw;refine Ag (cs:=B4) Af (.tmp 1) (.tmp 4) rfl M 0 HM3.out (.agg ca) rfl rfl (by simp only[Value.cells];rw[<-hsc];exact Nat.le_of_ble_eq_true rfl) (by simp only[Value.cells];rw[<-hsc];kernel_rfl) (by simp only[Value.cells];exact hcc) (Hw3.out.mono (Nat.le_of_lt hMw)) (Nat.le_refl M) ?_;intro w4 hx4 hb4 hs4 hfar;rw[show(Value.agg ca).cells=ca from by simp only[Value.cells],B3 B4 ca hsc]at hx4;have hgr:w.grownBy w4 (some M):=⟨hb4.os,hb4.tape,hb4.output,by omega,fun i hi hne=>(hfar i (by simpa using hne)).trans (Hw3.out.block i hi)⟩;have HP:Hid (w.grownBy w4 (some M)/\OfX RES M b w4):=⟨hgr,fun _=>⟨ca,hx4,by rw[<-hsc];rfl,Hf.out.keep (by omega) (by omega) fun p p1 _=>World.cell?_of_block (hfar _ (by omega))⟩⟩;have H0:=qz (show RES.1=0 from by simpa using hc);have hVM:V≠M:=fun e=>by
  have h1:=HbV.out;rw[e]at h1;have h2:=HM.out;have h3:=h1.symm.trans h2;simp at h3
 have hV5:=HVs.out _ ((hfar V hVM).trans HV3.out);refine hK.out _ _ hV5 (fun hHeld=> ?_);clear hK K hx4 hb4 hfar hgr hV5
 try simp only[Act.put,tk1,tk2,tk3]
 refine wpAnyH_done (by kernel_rfl) ?_ _;go_wp2
 go_end0
 exact⟨by rw[H0.out,K4],HP.out⟩
theorem T8 (m:Mut) (y0 y1 y2 y3 y4 y5 y6 y7 y8 y9 y10 y11 y12 y13 y14 y15 y16 y17 y18:Value) (A g:Nat) (w:World) (hA:w.cell? ⟨A,0,none⟩=some (.map (some g))) (hlt:A<w.heap.size)
 (hC: ∀W',Below w.heap.size w W'->Calls Tryz.prog 36 #[.map (some g),.agg #[y0,y1,y2,y3,y4,y5,y6,y7,y8,y9,y10,y11,y12,y13,y14,y15,y16,y17,y18]] W' (Il m W')):
 Calls Tryz.prog 82 #[.agg #[y0,y1,y2,y3,y4,y5,y6,y7,y8,y9,y10,y11,y12,y13,y14,y15,y16,y17,y18],.pointer (some ⟨A,0,none⟩)] w (Il m w):=by
 have h0:Below w.heap.size w ((w.alloc (.cells #[y0,y1,y2,y3,y4,y5,y6,y7,y8,y9,y10,y11,y12,y13,y14,y15,y16,y17,y18] 45)).alloc (.cells Ak 42)):=((Below.refl _ _).alloc (Nat.le_refl _) _).alloc (by simp) _;have Hx0:Hid (Aj ((w.alloc (.cells #[y0,y1,y2,y3,y4,y5,y6,y7,y8,y9,y10,y11,y12,y13,y14,y15,y16,y17,y18] 45)).alloc (.cells Ak 42)) w.heap.size 45 #[y0,y1,y2,y3,y4,y5,y6,y7,y8,y9,y10,y11,y12,y13,y14,y15,y16,y17,y18]):=(Aj.new _ _ _).alloc _;have hr0:Aj ((w.alloc (.cells #[y0,y1,y2,y3,y4,y5,y6,y7,y8,y9,y10,y11,y12,y13,y14,y15,y16,y17,y18] 45)).alloc (.cells Ak 42)) (w.heap.size+1) 42 Ak:=by
  have:=Aj.new (w.alloc (.cells #[y0,y1,y2,y3,y4,y5,y6,y7,y8,y9,y10,y11,y12,y13,y14,y15,y16,y17,y18] 45)) 42 Ak
  rwa [World.size_alloc]at this
 have Hz2:=qz (show w.heap.size+2<=((w.alloc (.cells #[y0,y1,y2,y3,y4,y5,y6,y7,y8,y9,y10,y11,y12,y13,y14,y15,y16,y17,y18] 45)).alloc (.cells Ak 42)).heap.size from by simp);have hA0:=(h0.cell (p:=⟨A,0,none⟩) hlt).trans hA;obtain⟨H0,Hr0,HC⟩:=hid3 h0 hr0 hC;clear h0 hr0 hC;go_enter Tryz.func82,Tryz.ntmps82;go_upto_region 1 with(fail)
 iterate 5 go_step
 refine Ae 45 (.tmp 2) rfl w.heap.size _ Hx0.out rfl _ Tryz.underlying45 rfl (by kernel_rfl) ?_;go_wp2_with (fail);(with_reducible refine(HC.out _ H0.out).mono ?_);rintro e w6 ⟨hb6,oa5,oc5,rfl,hf6⟩;have Hw6:=qz (H0.out.trans (hb6.mono H0.out.size));have hr6:=Hr0.out.below hb6 Hr0.out.lt;obtain⟨c0,c1,c2,c3,c4,c5⟩:=Bd hr6;have fz:=hr6.frozen;have hlt6:=hr6.lt;obtain⟨Hb6,Hr6,Hf6⟩:=hid3 hb6 hr6 hf6;clear hb6 hr6 hf6;clear hA0 hA;dsimp only
 repeat go_step
 have hxf:=((((((Hr6.out.set_ 0 (.int .i64 6)).set_ 1 (.bool false)).set_ 2 (.int .i64 0)).set_ 3 (.string ⟨#[]⟩)).set_ 4 (.slice none 0 0)).set_ 5 (.slice oa5 2 oc5));have hbf:=At [.int .i64 6,.bool false,.int .i64 0,.string ⟨#[]⟩,.slice none 0 0,.slice oa5 2 oc5] Hw6.out (Nat.le_succ w.heap.size) (o:=0);have hff:An w.heap.size (A7 w6 (w.heap.size+1) 0 [.int .i64 6,.bool false,.int .i64 0,.string ⟨#[]⟩,.slice none 0 0,.slice oa5 2 oc5]) (dV (Dt m)) [.int .i64 6,.bool false,.int .i64 0,.string ⟨#[]⟩,.slice none 0 0,.slice oa5 2 oc5]:=
  Hf6.out.keep (b':=w.heap.size) (Nat.le_trans (by omega) Hz2.out) (by rw[Aw];exact Nat.le_refl _) (fun p p1 _=>World.cell?_of_block (Ar _ _ _ _ _ (by have:=Hz2.out;omega)))
 exact bodyPost_ret (Aq rfl rfl hxf) rfl ⟨hbf,oa5,oc5,rfl,hff⟩
theorem E9 {m:Mut} {O:List (ByteArray×Val)} {nm:ByteArray} (e:Dt m=ov [(Ao,ov O),(Ap,tv nm)]):Ou O nm=Il m:=by
 unfold Ou Il;rw[e]
def Ajj (m:Mut):Prop:= ∀(cs:List Value) (d:Int) (g A R W:Nat) (F:Nat->Nat) (w:World),Shp w g A R W F->Fv w->Ai w w.heap.size (dM m) cs->Bm m<=8000000->Gi m d=0->
 Calls Tryz.prog 36 #[.map (some g),.agg cs.toArray] w (Il m w)
theorem Aaa: ∀m,Ajj m:=by
 refine Mut.ind ?_;intro k key dst n had was has v l IH cs d g A R W F w hS hN hM hb hm;obtain⟨k1,b1,n1,t1,l1,o1⟩:=was;obtain⟨k2,b2,n2,t2,l2,o2⟩:=v;obtain⟨la1,lc1,oa1,oc1,la2,lc2,oa2,oc2,a,c,rfl,hv1,hv2,hl⟩:=Bl hM;have hls:=El l;simp only[Bm]at hb;obtain⟨h1,_,_,_,_,h6⟩:=Oa hm;obtain⟨k1',k7'⟩:=Pv h1;have hkk:k=1\/k=2\/k=3\/k=4\/k=5\/k=6\/k=7:=by omega
 have hv1': ∀W',Below w.heap.size w W'->Ac W' W'.heap.size (.mk k1 b1 n1 t1 l1 o1) [.int .i64 k1,.bool b1,.int .i64 n1,.string t1,.slice la1 l1.length lc1,.slice oa1 o1.length oc1]:=fun W' hW=>Ac.more hW.size _ _ (hv1.below hW);have hv2': ∀W',Below w.heap.size w W'->Ac W' W'.heap.size (.mk k2 b2 n2 t2 l2 o2) [.int .i64 k2,.bool b2,.int .i64 n2,.string t2,.slice la2 l2.length lc2,.slice oa2 o2.length oc2]:=fun W' hW=>Ac.more hW.size _ _ (hv2.below hW);rcases hkk with rfl|rfl|rfl|rfl|rfl|rfl|rfl
 . rw[<-E9 (O:= [(As,tv key),(E3,.mk k2 b2 n2 t2 l2 o2)]) (nm:=Nr) (by simp[Dt,Fs])];exact Ai0 _ _ _ _ _ _ _ _ _ _ _ _ _ _ _ _ _ _ _ g A R W F w hS hN (by simp) fun W' hW=>Td _ key _ _ _ _ _ _ _ _ _ _ k2 b2 n2 t2 l2 o2 la2 oa2 lc2 oc2 _ W' (hv2' W' hW) (by omega)
 . rw[<-E9 (O:= [(As,tv key)]) (nm:=Np) (by simp[Dt,Fs])];exact Ai1 _ _ _ _ _ _ _ _ _ _ _ _ _ _ _ _ _ _ _ g A R W F w hS hN (by simp) fun W' _=>Acl _ key _ _ _ _ _ _ _ _ _ _ _ _ _ _ _ _ _ W'
 . rw[<-E9 (O:= [(Na,iv n),(As,tv key)]) (nm:=Nq) (by simp[Dt,Fs])];exact Ai2 _ _ _ _ _ _ _ _ _ _ _ _ _ _ _ _ _ _ _ g A R W F w hS hN (by simp) fun W' _=>Acm _ key _ n _ _ _ _ _ _ _ _ _ _ _ _ _ _ _ W'
 . cases has with
   |false=>
    rw[<-E9 (O:=Br key had (.mk k1 b1 n1 t1 l1 o1)) (nm:=Mn) (by simp[Dt,Fs])];exact Adk _ _ _ _ _ _ _ _ _ _ _ _ _ _ _ _ _ _ _ g A R W F w hS hN (by have:=K5 key had (.mk k1 b1 n1 t1 l1 o1);omega) fun W' hW=>Aiy _ key _ _ had k1 b1 n1 t1 l1 o1 la1 oa1 lc1 oc1 _ _ _ _ _ _ _ W' (hv1' W' hW) (by omega)
   |true=>
    rw[<-E9 (O:=(Kg,.mk k2 b2 n2 t2 l2 o2)::Br key had (.mk k1 b1 n1 t1 l1 o1)) (nm:=Mn) (by simp[Dt,Fs])];exact Adk _ _ _ _ _ _ _ _ _ _ _ _ _ _ _ _ _ _ _ g A R W F w hS hN (by have:=K5 key had (.mk k1 b1 n1 t1 l1 o1);simp;omega) fun W' hW=>Ahh _ key _ _ had k1 b1 n1 t1 l1 o1 la1 oa1 lc1 oc1 k2 b2 n2 t2 l2 o2 la2 oa2 lc2 oc2 _ W' (hv1' W' hW) (by omega) (hv2' W' hW) (by omega)
 . rw[<-E9 (O:= [(As,tv key),(E3,.mk k2 b2 n2 t2 l2 o2)]) (nm:=No) (by simp[Dt,Fs])];exact Ai3 _ _ _ _ _ _ _ _ _ _ _ _ _ _ _ _ _ _ _ g A R W F w hS hN (by simp) fun W' hW=>Td _ key _ _ _ _ _ _ _ _ _ _ k2 b2 n2 t2 l2 o2 la2 oa2 lc2 oc2 _ W' (hv2' W' hW) (by omega)
 . rw[<-E9 (O:= [(De,tv key),(L8,tv dst)]) (nm:=Jt) (by simp[Dt,Fs])];exact Ai4 _ _ _ _ _ _ _ _ _ _ _ _ _ _ _ _ _ _ _ g A R W F w hS hN (by simp) fun W' _=>Z7 _ key dst _ _ _ _ _ _ _ _ _ _ _ _ _ _ _ _ W'
 . rw[<-E9 (O:=(Ja,lv (Bq l))::(if key.toList.isEmpty then []else [(L7,ov (Br key had (.mk k1 b1 n1 t1 l1 o1)))])) (nm:=Ns) (by simp[Dt,Fs])];refine Ai5 _ _ _ _ _ _ _ _ _ _ _ _ _ _ _ _ _ _ _ g A R W F w hS hN (by split<;>simp) fun W' hW=>Ae2 _ key _ _ had k1 b1 n1 t1 l1 o1 la1 oa1 lc1 oc1 _ _ _ _ _ _ _ l a c A W W' (hv1' W' hW) (by omega) ((hl.below hW).more hW.size) (by omega)
    (((hS.below hW).wr).cell 0) ((hS.below hW).wr.lt) fun x hx W2 cs2 hW2 hH2=> ?_
   have hbx:=D3 hx;have hS2:=(hS.below hW).below hW2;have hN2:=(hN.below hW).below hW2;have hmx:=P7 h6 x hx;have hIH:=IH x hx;obtain⟨k',key',dst',n',had',⟨k1',b1',n1',t1',l1',o1'⟩,has',⟨k2',b2',n2',t2',l2',o2'⟩,l'⟩:=x;obtain⟨la1',lc1',oa1',oc1',la2',lc2',oa2',oc2',a',c',rfl,_,_,_⟩:=Bl hH2;exact T8 _ _ _ _ _ _ _ _ _ _ _ _ _ _ _ _ _ _ _ _ A g W2 (hS2.all_.cell 0) hS2.all_.lt fun W3 hW3=>hIH _ (d+1) g A R W F W3 (hS2.below hW3) (hN2.below hW3) ((hH2.below hW3).more hW3.size) (by omega) hmx
end Go.Proofs.YtobmaegpfbheoaaGreatDoor
namespace Go.Proofs.YtobmaegpfbheoaaGreatDoor
def Tg (k:ByteArray) (o:List (ByteArray×Val)):Nat:=match Av k o with
 |none=>0
 |some x=>1+k.size+x.bulk
theorem Ahs (a:ByteArray) (x:Val) (r:List (ByteArray×Val)):Tg a ((a,x)::r)=1+a.size+x.bulk:=by
 unfold Tg Av;rw[if_pos rfl]
theorem Xo {k a:ByteArray} (h:a≠k) (x:Val) (r:List (ByteArray×Val)):Tg k ((a,x)::r)=Tg k r:=by
 unfold Tg;rw[Av,if_neg h]
theorem Adh {a:ByteArray} {x:Val} {r:List (ByteArray×Val)}: ∀{ks:List ByteArray},a ∉ ks->(ks.map fun k=>Tg k ((a,x)::r)).sum=(ks.map fun k=>Tg k r).sum
 | [],_=>rfl
 |k::ks,h=>by
  simp only[List.mem_cons,not_or]at h;simp only[List.map_cons,List.sum_cons,Xo h.1,Adh h.2]
theorem Ahd {a:ByteArray} {x:Val} {r:List (ByteArray×Val)}: ∀{ks:List ByteArray},ks.Nodup->(ks.map fun k=>Tg k ((a,x)::r)).sum<=1+a.size+x.bulk+(ks.map fun k=>Tg k r).sum
 | [],_=>by simp
 |k::ks,h=>by
  rw[List.nodup_cons]at h;simp only[List.map_cons,List.sum_cons];by_cases e:a=k
  . subst e;rw[Ahs,Adh h.1];omega
  . rw[Xo e];have:=Ahd (a:=a) (x:=x) (r:=r) h.2;omega
theorem Acf {ks:List ByteArray} (h:ks.Nodup): ∀o:List (ByteArray×Val),(ks.map fun k=>Tg k o).sum<=Au o
 | []=>by
   have: ∀ks:List ByteArray,(ks.map fun k=>Tg k []).sum=0:=by
    intro ks
    induction ks with
    |nil=>rfl
    |cons k r ih=>simp only[List.map_cons,List.sum_cons,ih];rfl
   rw[this];exact Nat.zero_le _
 |(a,x)::r=>by
  have h1:=Ahd (a:=a) (x:=x) (r:=r) h;have h2:=Acf h r;simp only[Au];have h3:Fi (a,x)=1+a.size+x.bulk:=rfl;omega
theorem Oj {k1 k2:ByteArray} (h:k1≠k2) (o:List (ByteArray×Val)):Tg k1 o+Tg k2 o<=Au o:=by
 have:=Acf (ks:= [k1,k2]) (by simp[h]) o;simpa using this
theorem Ahf {k1 k2 k3:ByteArray} (h:k1≠k2) (h':k1≠k3) (h'':k2≠k3) (o:List (ByteArray×Val)):Tg k1 o+(Tg k2 o+Tg k3 o)<=Au o:=by
 have:=Acf (ks:= [k1,k2,k3]) (by simp[h,h',h'']) o;simpa using this
theorem Ov (k:ByteArray) (o:List (ByteArray×Val)):(A0 k o).bulk<=Tg k o+6:=by
 unfold A0 Tg
 cases Av k o with
 |none=>show L9.bulk<=0+6;decide
 |some x=>show x.bulk<=_;simp only;omega
theorem Gj {k:ByteArray} {o:List (ByteArray×Val)} (h:Cx (A0 k o)≠0):1+k.size+(A0 k o).bulk<=Tg k o:=by
 unfold A0 Tg at*
 cases hf:Av k o with
 |none=>rw[hf]at h;exact absurd rfl h
 |some x=>exact Nat.le_refl _
theorem Jm (v:Val):(E1 v).size+6<=v.bulk:=by
 obtain⟨k,b,n,t,l,o⟩:=v;simp only[Val.bulk];show t.size+6<=_;omega
theorem Sv (v:Val):Au (B0 v)+6<=v.bulk:=by
 obtain⟨k,b,n,t,l,o⟩:=v;simp only[Val.bulk];show Au o+6<=_;omega
theorem Agl (v:Val):Ba (Jr v)+6<=v.bulk:=by
 obtain⟨k,b,n,t,l,o⟩:=v;simp only[Val.bulk];show Ba l+6<=_;omega
theorem R9 {f:Val->Int×Mut} (hf: ∀x,(f x).1=0->Bm (f x).2<=x.bulk): ∀{l:List Val},(A1 f l).1=0->Db (A1 f l).2<=Ba l
 | [],_=>Nat.le_refl _
 |v::l,h=>by
  unfold A1 at h ⊢;by_cases h1:(f v).1≠0
  . rw[if_pos h1]at h;exact absurd h h1
  rw[if_neg h1]at h ⊢;by_cases h2:(A1 f l).1≠0
  . rw[if_pos h2]at h;exact absurd h h2
  rw[if_neg h2];have i1:=hf v (by simpa using h1);have i2:=R9 hf (l:=l) (by simpa using h2);simp only[Db,Ba];omega
theorem Agu:L9.bulk=6:=by decide
theorem Aaq {f:Val->Int×Mut} (hf: ∀x,(f x).1=0->Bm (f x).2<=x.bulk) {k:Int} (h1:1<=k) (h7:k<=7) {o:List (ByteArray×Val)} (h:(Bv f k o).1=0):Bm (Bv f k o).2<=20+Au o:=by
 have z:=Agu;rcases(show(k=1\/k=5)\/k=2\/k=3\/k=4\/k=6\/k=7 by omega)with hk|rfl|rfl|rfl|rfl|rfl
 . rw[K0 f hk]at h ⊢
   split at h
   . cases h
   rename_i h4;rw[if_neg h4];have a1:=Gj (k:=As) (o:=o) (by omega);have a2:=Ov E3 o;have a3:=Jm (A0 As o);have a4:=Oj (k1:=As) (k2:=E3) (by decide) o;simp only[Bm,Db,z];have:Ec.size=0:=rfl;omega
 . rw[Mx]at h ⊢
   split at h
   . cases h
   rename_i h4;rw[if_neg h4];have a1:=Gj (k:=As) (o:=o) (by omega);have a3:=Jm (A0 As o);have a4:=Oj (k1:=As) (k2:=E3) (by decide) o;simp only[Bm,Db,z];have:Ec.size=0:=rfl;omega
 . rw[My]at h ⊢
   split at h
   . cases h
   rename_i h3;rw[if_neg h3]
   split at h
   . cases h
   rename_i h4;rw[if_neg h4];have a1:=Gj (k:=As) (o:=o) (by omega);have a3:=Jm (A0 As o);have a4:=Oj (k1:=As) (k2:=E3) (by decide) o;simp only[Bm,Db,z];have:Ec.size=0:=rfl;omega
 . rw[Mw]at h ⊢
   split at h
   . cases h
   rename_i h4;rw[if_neg h4];have a1:=Gj (k:=As) (o:=o) (by omega);have a2:=Ov Kg o;have a2':=Ov Cp o;have a3:=Jm (A0 As o);have a4:=Ahf (k1:=As) (k2:=Kg) (k3:=Cp) (by decide) (by decide) (by decide) o;simp only[Bm,Db];have:Ec.size=0:=rfl;omega
 . rw[Lh]at h ⊢
   split at h
   . cases h
   rename_i h3;rw[if_neg h3]
   split at h
   . cases h
   rename_i h4;rw[if_neg h4];have a1:=Gj (k:=De) (o:=o) (by omega);have a2:=Gj (k:=L8) (o:=o) (by omega);have a3:=Jm (A0 De o);have a3':=Jm (A0 L8 o);have a4:=Oj (k1:=De) (k2:=L8) (by decide) o;simp only[Bm,Db,z];omega
 . rw[Mz]at h ⊢
   split at h
   . cases h
   rename_i h5;rw[if_neg h5]
   split at h
   . rename_i h2;exact absurd h h2
   rename_i h2;rw[if_neg h2];have a1:=Gj (k:=Ja) (o:=o) (by omega);have a2:=Agl (A0 Ja o);have a3:=R9 hf (l:=Jr (A0 Ja o)) (by simpa using h2);have a4:=Oj (k1:=Ja) (k2:=L7) (by decide) o;have n0:Ec.size=0:=rfl
   cases hg:Av L7 o with
   |none=>
    simp only[Bm,z];omega
   |some g=>
    rw[hg]at h;simp only at h ⊢;have a5:Tg L7 o=1+L7.size+g.bulk:=by unfold Tg;rw[hg]
    unfold Lq at h ⊢
    split at h
    . cases h
    rename_i g1;rw[if_neg g1]
    split at h
    . cases h
    rename_i g2;rw[if_neg g2]
    split at h
    . cases h
    rename_i g3;rw[if_neg g3]
    split at h
    . cases h
    rename_i g4;rw[if_neg g4];have b1:=Gj (k:=As) (o:=B0 g) (by omega);have b2:=Ov Cp (B0 g);have b3:=Jm (A0 As (B0 g));have b4:=Oj (k1:=As) (k2:=Cp) (by decide) (B0 g);have b5:=Sv g;simp only[Bm,z];omega
theorem Ab4: ∀(f:Nat) (v:Val),(Df f v).1=0->Bm (Df f v).2<=v.bulk:=by
 intro f
 induction f with
 |zero=>intro v h;cases h
 |succ f IH=>
  intro v h;rw[Mo]at h ⊢;unfold Vf at h ⊢
  split at h
  . cases h
  rename_i g1;rw[if_neg g1]
  split at h
  . cases h
  rename_i g2;rw[if_neg g2]
  split at h
  . cases h
  rename_i g3;rw[if_neg g3]
  cases hk:Ka (E1 (A0 Ap (B0 v)))with
  |none=>rw[hk]at h;cases h
  |some k=>
   rw[hk]at h;simp only at h ⊢
   split at h
   . cases h
   rename_i g4;rw[if_neg g4]
   split at h
   . cases h
   rename_i g5;rw[if_neg g5];have hk7:1<=k/\k<=7:=by
    rcases Ls hk with⟨_,rfl⟩|⟨_,rfl⟩|⟨_,rfl⟩|⟨_,rfl⟩|⟨_,rfl⟩|⟨_,rfl⟩|⟨_,rfl⟩<;>omega
   have a1:=Aaq IH hk7.1 hk7.2 h;have a2:=Gj (k:=Ao) (o:=B0 v) (by omega);have a3:=Gj (k:=Ap) (o:=B0 v) (by omega);have a4:=Oj (k1:=Ao) (k2:=Ap) (by decide) (B0 v);have a5:=Sv (A0 Ao (B0 v));have a6:=Jm (A0 Ap (B0 v));have a7:=Sv v;have s1:Ao.size=4:=rfl;have s2:Ap.size=4:=rfl;omega
theorem Sh {k:ByteArray} {o:List (ByteArray×Val)} (h:Hh o):It (A0 k o):=by
 rcases Md k o with⟨_,e⟩|e
 . rw[e];simp[It,Lc,Hh]
 . exact Wg h (Fy e)
theorem Abg {v:Val} (h:It v):Hh (B0 v):=by
 obtain⟨k,b,n,t,l,o⟩:=v;exact h.2.2
theorem Ajs {v:Val} (h:It v):Lc (Jr v):=by
 obtain⟨k,b,n,t,l,o⟩:=v;exact h.2.1
theorem Ey:Nv Jy:=by simp[Nv,Sf,It,Lc,Hh]
theorem Ks:It L9:=by simp[It,Lc,Hh]
theorem Ya {f:Val->Int×Mut} (hf: ∀x,It x->Nv (f x).2): ∀{l:List Val},Lc l->Sf (A1 f l).2
 | [],_=>trivial
 |v::l,h=>by
  unfold A1
  split
  . trivial
  split
  . trivial
  . exact⟨hf v h.1,Ya hf h.2⟩
theorem Aff {f:Val->Int×Mut} (hf: ∀x,It x->Nv (f x).2) {k:Int} (h1:1<=k) (h7:k<=7) {o:List (ByteArray×Val)} (ho:Hh o):Nv (Bv f k o).2:=by
 have mk: ∀(k:Int) (key dst:ByteArray) (n:Int) (had:Bool) (was:Val) (has:Bool) (v:Val) (l:List Mut),(-9223372036854775808<=n/\n<=9223372036854775807)->It was->It v->Sf l->Nv (.mk k key dst n had was has v l):=fun _ _ _ _ _ _ _ _ _ a b c d=>⟨a,b,c,d⟩;rcases(show(k=1\/k=5)\/k=2\/k=3\/k=4\/k=6\/k=7 by omega)with hk|rfl|rfl|rfl|rfl|rfl
 . rw[K0 f hk]
   split
   . exact Ey
   . exact mk _ _ _ _ _ _ _ _ _ (by omega) Ks (Sh ho) trivial
 . rw[Mx]
   split
   . exact Ey
   . exact mk _ _ _ _ _ _ _ _ _ (by omega) Ks Ks trivial
 . rw[My]
   split
   . exact Ey
   split
   . exact Ey
   . have:=Sh (k:=Na) ho;refine mk _ _ _ _ _ _ _ _ _ ?_ Ks Ks trivial;generalize A0 Na o=z at this;obtain⟨k,b,n,t,l,o⟩:=z;exact this.1
 . rw[Mw]
   split
   . exact Ey
   . exact mk _ _ _ _ _ _ _ _ _ (by omega) (Sh ho) (Sh ho) trivial
 . rw[Lh]
   split
   . exact Ey
   split
   . exact Ey
   . exact mk _ _ _ _ _ _ _ _ _ (by omega) Ks Ks trivial
 . rw[Mz];have hl:=Ya hf (Ajs (Sh (k:=Ja) ho))
   split
   . exact Ey
   split
   . exact Ey
   cases hg:Av L7 o with
   |none=>exact mk _ _ _ _ _ _ _ _ _ (by omega) Ks Ks hl
   |some g=>
    have hgi:It g:=Wg ho (Fy hg);show Nv (Lq g _).2;unfold Lq
    split
    . exact Ey
    split
    . exact Ey
    split
    . exact Ey
    split
    . exact Ey
    . exact mk _ _ _ _ _ _ _ _ _ (by omega) (Sh (Abg hgi)) Ks hl
theorem Ag6: ∀(f:Nat) (v:Val),It v->Nv (Df f v).2:=by
 intro f
 induction f with
 |zero=>intro v _;exact Ey
 |succ f IH=>
  intro v h;rw[Mo];unfold Vf
  split
  . exact Ey
  split
  . exact Ey
  split
  . exact Ey
  cases hk:Ka (E1 (A0 Ap (B0 v)))with
  |none=>exact Ey
  |some k=>
   dsimp only
   split
   . exact Ey
   split
   . exact Ey
   have hk7:1<=k/\k<=7:=by
    rcases Ls hk with⟨_,rfl⟩|⟨_,rfl⟩|⟨_,rfl⟩|⟨_,rfl⟩|⟨_,rfl⟩|⟨_,rfl⟩|⟨_,rfl⟩<;>omega
   exact Aff IH hk7.1 hk7.2 (Abg (Sh (Abg h)))
end Go.Proofs.YtobmaegpfbheoaaGreatDoor
