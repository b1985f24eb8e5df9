/- Parts: mutator.Of's closure: it reads a value into a variable. Condition: a bulk of at most 10^8. -/
import Derived.Test.YtmglfdckpjegdaaGreatDoorKMu34
import Derived.Test.YtmglfdckpjegdaaGreatDoorKMu35
set_option maxHeartbeats 20000000
namespace Go.Proofs.YtmglfdckpjegdaaGreatDoor
open Go Go.RowKit
def Aqi (f:Nat):Prop:= ∀(v:Val) (d:Int) (cs:List Value) (g A R W:Nat) (F:Nat->Nat) (w:World),Shp w g A R W F->Holds w w.heap.size (dV v) cs->Az v d=0->v.bulk<=100000000->1<=d->d<=65->66<=d+f->
 Calls Tryz.prog 53 #[.map (some g),.agg cs.toArray] w (W7 (Cn f v) w)
set_option maxRecDepth 100000 in
theorem Xz (vk:Int) (vb:Bool) (vn:Int) (vt:ByteArray) (vl:List Val) (vo:List (ByteArray×Val)) (vla vlc voa voc) (A g:Nat) (w:World) (r:Int×Mut) (hA:w.cell? ⟨A,0,none⟩=some (.map (some g))) (hAw:A<w.heap.size)
 (hC: ∀W,Below w.heap.size w W->Calls Tryz.prog 53 #[.map (some g),.agg #[.int .i64 vk,.bool vb,.int .i64 vn,.string vt,.slice vla vl.length vlc,.slice voa vo.length voc]] W (W7 r W)):
 Calls Tryz.prog 77 #[.agg #[.int .i64 vk,.bool vb,.int .i64 vn,.string vt,.slice vla vl.length vlc,.slice voa vo.length voc],.pointer (some ⟨A,0,none⟩)] w (W7 r w):=by
 have hI0:RV w #[.int .i64 vk,.bool vb,.int .i64 vn,.string vt,.slice vla vl.length vlc,.slice voa vo.length voc] ((w.alloc (.cells #[.int .i64 vk,.bool vb,.int .i64 vn,.string vt,.slice vla vl.length vlc,.slice voa vo.length voc] 27)).alloc (.cells Cx Ag)):=
  ⟨((Below.refl _ _).alloc (Nat.le_refl _) _).alloc (by simp) _,(Al.new w _ _).alloc _,by simpa using Al.new (w.alloc (.cells #[.int .i64 vk,.bool vb,.int .i64 vn,.string vt,.slice vla vl.length vlc,.slice voa vo.length voc] 27)) Ag Cx⟩
 obtain⟨wi,hwi⟩: ∃wi,(w.alloc (.cells #[.int .i64 vk,.bool vb,.int .i64 vn,.string vt,.slice vla vl.length vlc,.slice voa vo.length voc] 27)).alloc (.cells Cx Ag)=wi:=⟨_,rfl⟩;rw[hwi]at hI0;have hC1:=hC wi hI0.below;have hA1:wi.cell? ⟨A,0,none⟩=some (.map (some g)):=(hI0.below.cell (p:=⟨A,0,none⟩) hAw).trans hA;have hA2:A<wi.heap.size:=Nat.lt_of_lt_of_le hAw hI0.below.size;obtain⟨x0,x1,x2,x3,x4,x5⟩:=Bo hI0.box;have xl:=hI0.box.lt;obtain⟨HI0,HC1⟩:=hid2 hI0 hC1;clear hI0 hC1;clear hC hA hAw;go_enter Tryz.func77,Tryz.ntmps77;go_upto_region 1 with(fail);clear hwi;go_wp2_with (fail);(with_reducible refine(HC1.out).mono ?_);rintro e w2 ⟨hb2,hr⟩;have hI2:=HI0.out.call hb2;by_cases hc:r.1≠0
 . rw[if_pos hc]at hr;obtain rfl:=hr;have hP:=W7.no (r:=r) (c:=r.1) rfl hc hI2.below;generalize r.1=code at hP ⊢;have HP:=Lib.hid hP;clear hP;clear hb2 hI2 hc;go_wp2;exact⟨rfl,HP.out⟩
 rw[if_neg hc]at hr;obtain⟨ca,rfl,hf⟩:=hr;have hsc:Cx.size=ca.size:=by have:=hf.now.len.1;rw[Ct]at this;simpa using this.symm
 have hcc: ∀u ∈ ca.toList,u.oneCell'=true:=hf.now.len.2;have hlt:w.heap.size+1<wi.heap.size:=HI0.out.res.lt;obtain⟨HI2,Hf,Hc⟩:=hid3 hI2 hf hc;clear hI2 hf hc;clear hb2 x0 x1 x2 x3 x4 x5;dsimp only
 iterate 2 go_step
 refine A4 (cs:=Cx) Ag (.tmp 3) (.tmp 6) rfl (w.heap.size+1) 0 HI2.out.res (.agg ca) rfl rfl (by simp only[Value.cells];rw[<-hsc];exact Nat.le_of_ble_eq_true rfl) (by simp only[Value.cells];rw[<-hsc];kernel_rfl) (by simp only[Value.cells];exact hcc) HI2.out.below (Nat.le_succ _) ?_;intro w7 hx7 hb7 hs7 hfar;rw[show(Value.agg ca).cells=ca from by simp only[Value.cells],Dd Cx ca hsc]at hx7;have hd7:Au w.heap.size w7 (dM r.2) ca.toList:=Hf.out.keep (by omega) (by omega) fun p p1 _=>World.cell?_of_block (hfar _ (by omega));have hQ:W7 r w (.returned (.agg ca)) w7:=⟨hb7,by rw[if_neg Hc.out];exact⟨ca,rfl,hd7⟩⟩;obtain⟨Hx7,HQ⟩:=hid2 hx7 hQ;clear hx7 hQ;clear hfar hd7 hb7
 repeat go_step
 exact bodyPost_ret (Fj rfl rfl Hx7.out Tryz.underlying30 rfl (by rw[<-hsc];kernel_rfl)) rfl HQ.out
theorem N3 {a:ByteArray} {k:Int} (h:Jq a=some k):(a=P8/\k=1)\/(a=P6/\k=2)\/(a=P7/\k=3)\/(a=O1/\k=4)\/(a=P5/\k=5)\/(a=Ll/\k=6)\/(a=Oj/\k=7):=by
 unfold Jq at h
 split at h
 . cases h;rename_i e;exact .inl ⟨e,rfl⟩
 split at h
 . cases h;rename_i e;exact .inr (.inl ⟨e,rfl⟩)
 split at h
 . cases h;rename_i e;exact .inr (.inr (.inl ⟨e,rfl⟩))
 split at h
 . cases h;rename_i e;exact .inr (.inr (.inr (.inl ⟨e,rfl⟩)))
 split at h
 . cases h;rename_i e;exact .inr (.inr (.inr (.inr (.inl ⟨e,rfl⟩))))
 split at h
 . cases h;rename_i e;exact .inr (.inr (.inr (.inr (.inr (.inl ⟨e,rfl⟩)))))
 split at h
 . cases h;rename_i e;exact .inr (.inr (.inr (.inr (.inr (.inr ⟨e,rfl⟩)))))
 . cases h
theorem Ac3 {a:ByteArray} (h:Jq a=none):a≠P8/\a≠P6/\a≠P7/\a≠O1/\a≠P5/\a≠Ll/\a≠Oj:=by
 unfold Jq at h
 split at h
 . cases h
 split at h
 . cases h
 split at h
 . cases h
 split at h
 . cases h
 split at h
 . cases h
 split at h
 . cases h
 split at h
 . cases h
 . exact⟨by assumption,by assumption,by assumption,by assumption,by assumption,by assumption,by assumption⟩
theorem Qp {w:World} {g:Nat} {t:TypeId} {cs:Array Value} {fs:List (ByteArray×Int)} (h:Al w g t cs) (hk: ∀j p,fs[j]? =some p->cs[j*2]? =some (.string p.1)/\cs[j*2+1]? =some (.int .i64 p.2)):Fld w g 0 fs:=
 ⟨h.lt,fun j p e=>by rw[Nat.zero_add];exact(h.cell _).trans (hk j p e).1,fun j p e=>by rw[Nat.zero_add];exact(h.cell _).trans (hk j p e).2⟩
theorem Yf (args:Array Value) (W:World):(callFunc 105 args).run Tryz.prog W=.ok (.enter 105 args) W:=by kernel_rfl
theorem Aku (args:Array Value) (W:World):(callFunc 66 args).run Tryz.prog W=.ok (.enter 66 args) W:=by kernel_rfl
theorem Akv (args:Array Value) (W:World):(callFunc 69 args).run Tryz.prog W=.ok (.enter 69 args) W:=by kernel_rfl
theorem Akw (args:Array Value) (W:World):(callFunc 73 args).run Tryz.prog W=.ok (.enter 73 args) W:=by kernel_rfl
theorem Aig (args:Array Value) (W:World):(callFunc 108 args).run Tryz.prog W=.ok (.enter 108 args) W:=by kernel_rfl
theorem Aih (args:Array Value) (W:World):(callFunc 111 args).run Tryz.prog W=.ok (.enter 111 args) W:=by kernel_rfl
theorem Ot (key:ByteArray) (o:List (ByteArray×Val)):(As key o=none/\At key o=Jj)\/As key o=some (At key o):=by
 unfold At
 cases As key o with
 |none=>exact .inl ⟨rfl,rfl⟩
 |some x=>exact .inr rfl
theorem Ako {key:ByteArray} {o:List (ByteArray×Val)} {last:Option ByteArray} {d:Int} (h:Ds o last d=0) {x:Val} (e:As key o=some x):Az x d=0:=(Jr h _ (E0 e)).2
theorem Uj {key:ByteArray} {o:List (ByteArray×Val)} {x:Val} (e:As key o=some x):1+key.size+x.bulk<=Av o:=Ef (E0 e)
theorem Aib {k:Int} {b:Bool} {n:Int} {t:ByteArray} {l:List Val} {o:List (ByteArray×Val)} {B:Nat} (h:(Val.mk k b n t l o).bulk<=B) (key:ByteArray):(Bu (At key o)).length<=B/\ ∀key2 x,As key2 (Bu (At key o))=some x->x.bulk<=B:=by
 have h2:Av (Bu (At key o))<=B:=by
  rcases Ot key o with⟨_,e⟩|e
  . rw[e];exact Nat.zero_le _
  . have h3:=Uj e;generalize At key o=z at h3 ⊢;obtain⟨k',b',n',t',l',o'⟩:=z;simp only[Val.bulk]at h h3;show Av o'<=B;omega
 refine⟨by have:=Dj (Bu (At key o));omega,fun key2 x e=> ?_⟩;have:=Uj e;omega
theorem Apt {k:Int} {b:Bool} {n:Int} {t:ByteArray} {l:List Val} {o:List (ByteArray×Val)} {d:Int} {B:Nat} (hm:Az (.mk k b n t l o) d=0) (h:(Val.mk k b n t l o).bulk<=B) {x:Val} (hx:x ∈ Im (At Gu (Bu (At Ai o)))):Az x (d+3)=0/\x.bulk<=B:=by
 rcases Ot Ai o with⟨_,e⟩|e
 . rw[e]at hx;rcases Ot Gu (Bu Jj)with⟨_,e2⟩|e2
   . rw[e2]at hx;exact absurd hx (by show ¬x ∈ ([]:List Val);simp)
   . exact absurd (E0 e2) (by show ¬_ ∈ ([]:List (ByteArray×Val));simp)
 have m1:=Ako (Bv hm).2.2.2.2 e;have b1:=Uj e;simp only[Val.bulk]at h;generalize At Ai o=z at hx m1 b1;clear e;obtain⟨k1,b1',n1,t1,l1,o1⟩:=z;change x ∈ Im (At Gu o1)at hx;rcases Ot Gu o1 with⟨_,e2⟩|e2
 . rw[e2]at hx;exact absurd hx (by show ¬x ∈ ([]:List Val);simp)
 have m2:=Ako (Bv m1).2.2.2.2 e2;have b2:=Uj e2;simp only[Val.bulk]at b1;generalize At Gu o1=z at hx m2 b2;clear e2;obtain⟨k2,b2',n2,t2,l2,o2⟩:=z;change x ∈ l2 at hx;have m3:=Ha (Bv m2).2.2.2.1 x hx;have b3:=Er hx;simp only[Val.bulk]at b2;exact⟨by rw[show d+3=d+1+1+1 by omega];exact m3,by omega⟩
theorem N0 {k:Int} {fs:List (ByteArray×Int)} {w:World} {g:Nat} (e:Cl k=fs) (h:Fld w g 0 fs):Fld w g 0 (Cl k):=e▸h
set_option maxRecDepth 100000 in
theorem Agn: ∀f,Aqi f:=by
 intro f
 induction f with
 |zero=>
  intro v d cs g A R W F w _ _ hm _ _ _ hd;obtain⟨k,b,n,t,l,o⟩:=v;have:=(Bv hm).2.1;omega
 |succ f IH=>
  intro v d cs g A R W F w hS hV hm hb h1 _ hd;obtain⟨k,b,n,t,l,o⟩:=v;have h6:=B8 _ _ hV;simp only[Ab]at h6;obtain⟨la,lc,oa,oc,rfl,_,_⟩:=h6;obtain⟨q1,q2⟩:=Aib hb Ai;rw[O7];refine Ajp (Cn f) k b n t l o la lc oa oc g _ w hV hb hS.map (fun a h=> ?_) (fun a kd h=> ?_)
  . obtain⟨e1,e2,e3,e4,e5,e6,e7⟩:=Ac3 h;simp only[Dt,if_neg e1,if_neg e2,if_neg e3,if_neg e4,if_neg e5,if_neg e6,if_neg e7]
  . rcases N3 h with⟨rfl,rfl⟩|⟨rfl,rfl⟩|⟨rfl,rfl⟩|⟨rfl,rfl⟩|⟨rfl,rfl⟩|⟨rfl,rfl⟩|⟨rfl,rfl⟩
    . refine⟨by omega,by omega,105, #[],F 1,107, #[],by kernel_rfl,N0 (fs:= [(Ar,0),(Fb,0)]) rfl (Qp hS.f1 fun j p e=> ?_),Yf,fun W' a c hW hr=> ?_⟩
      . match j,e with
        |0,e=>cases e;exact⟨rfl,rfl⟩
        |1,e=>cases e;exact⟨rfl,rfl⟩
        |j+2,e=>simp at e
      . simpa using Wg (Cn f) (.inl rfl) _ a c W' hr q1 q2
    . refine⟨by omega,by omega,66, #[],F 2,68, #[],by kernel_rfl,N0 (fs:= [(Ar,0)]) rfl (Qp hS.f2 fun j p e=> ?_),Aku,fun W' a c hW hr=> ?_⟩
      . match j,e with
        |0,e=>cases e;exact⟨rfl,rfl⟩
        |j+1,e=>simp at e
      . simpa using(Agm _ a c W' hr q1).mono fun _ _ h=>Ajk (Cn f) h
    . refine⟨by omega,by omega,69, #[],F 3,72, #[],by kernel_rfl,N0 (fs:= [(Od,0),(Ar,0)]) rfl (Qp hS.f3 fun j p e=> ?_),Akv,fun W' a c hW hr=> ?_⟩
      . match j,e with
        |0,e=>cases e;exact⟨rfl,rfl⟩
        |1,e=>cases e;exact⟨rfl,rfl⟩
        |j+2,e=>simp at e
      . simpa using Agp (Cn f) _ a c W' hr q1
    . refine⟨by omega,by omega,108, #[],F 4,109, #[],by kernel_rfl,N0 (fs:= [(Ln,1),(Ar,0),(C4,1)]) rfl (Qp hS.f4 fun j p e=> ?_),Aig,fun W' a c hW hr=> ?_⟩
      . match j,e with
        |0,e=>cases e;exact⟨rfl,rfl⟩
        |1,e=>cases e;exact⟨rfl,rfl⟩
        |2,e=>cases e;exact⟨rfl,rfl⟩
        |j+3,e=>simp at e
      . simpa using Agk (Cn f) _ a c W' hr q1 q2
    . refine⟨by omega,by omega,105, #[],F 5,107, #[],by kernel_rfl,N0 (fs:= [(Ar,0),(Fb,0)]) rfl (Qp hS.f5 fun j p e=> ?_),Yf,fun W' a c hW hr=> ?_⟩
      . match j,e with
        |0,e=>cases e;exact⟨rfl,rfl⟩
        |1,e=>cases e;exact⟨rfl,rfl⟩
        |j+2,e=>simp at e
      . simpa using Wg (Cn f) (.inr rfl) _ a c W' hr q1 q2
    . refine⟨by omega,by omega,73, #[],F 6,74, #[],by kernel_rfl,N0 (fs:= [(Dn,0),(Nj,0)]) rfl (Qp hS.f6 fun j p e=> ?_),Akw,fun W' a c hW hr=> ?_⟩
      . match j,e with
        |0,e=>cases e;exact⟨rfl,rfl⟩
        |1,e=>cases e;exact⟨rfl,rfl⟩
        |j+2,e=>simp at e
      . simpa using Ad8 (Cn f) _ a c W' hr q1
    . refine⟨by omega,by omega,111, #[.pointer (some ⟨R,0,none⟩)],F 7,112, #[.pointer (some ⟨W,0,none⟩)],by kernel_rfl,N0 (fs:= [(Gu,0),(Me,1)]) rfl (Qp hS.f7 fun j p e=> ?_),Aih,fun W' a c hW hr=> ?_⟩
      . match j,e with
        |0,e=>cases e;exact⟨rfl,rfl⟩
        |1,e=>cases e;exact⟨rfl,rfl⟩
        |j+2,e=>simp at e
      . have hS2:=hS.below hW;have hq:=Ags (Cn f) _ a c A R W' hr q1 q2 (hS2.rd.cell 0) hS2.rd.lt fun x hx W3 cs3 hW3 hx3=>by
         obtain⟨mx,bx⟩:=Apt hm hb hx;have hS3:=hS2.below hW3;obtain⟨k',b',n',t',l',o'⟩:=x;have h6:=B8 _ _ hx3;simp only[Ab]at h6;obtain⟨la',lc',oa',oc',rfl,_,_⟩:=h6;exact Xz k' b' n' t' l' o' la' lc' oa' oc' A g W3 _ (hS3.all_.cell 0) hS3.all_.lt fun W4 hW4=>IH _ (d+3) _ g A R W F W4 (hS3.below hW4) (hx3.later hW4) mx bx (by omega) (by have:=(Bv mx).2.1;omega) (by omega)
        simpa using hq
def OfX (r:Int×Mut) (M b:Nat) (w':World):Prop:=r.1=0-> ∃ca:Array Value,Al w' M Ag ca/\ca.size=19/\Au b w' (dM r.2) ca.toList
theorem OfX.grown {r:Int×Mut} {M q:Nat} {W W':World} (h:OfX r M (q+1) W) (hM:M≠q) (hg:W.grownBy W' (some q)):OfX r M (q+1) W':=fun h0=>by
 obtain⟨ca,h1,h2,h3⟩:=h h0;exact⟨ca,h1.grown hg (by simpa using hM),h2,h3.keep (Nat.le_refl _) hg.size fun p p1 p2=>World.cell?_of_block (hg.block _ p2 (by simp;omega))⟩
set_option maxRecDepth 100000 in
theorem Ajh (vk:Int) (vb:Bool) (vn:Int) (vt:ByteArray) (vl:List Val) (vo:List (ByteArray×Val)) (vla vlc voa voc) (V M b:Nat) (w:World) (hbw:b<=w.heap.size) (hMb:M<b)
 (hV:Holds w w.heap.size (dV (.mk vk vb vn vt vl vo)) [.int .i64 vk,.bool vb,.int .i64 vn,.string vt,.slice vla vl.length vlc,.slice voa vo.length voc]) (hb:(Val.mk vk vb vn vt vl vo).bulk<=100000000) (hm:Az (.mk vk vb vn vt vl vo) 1=0)
 (hbV:Al w V 27 #[.int .i64 vk,.bool vb,.int .i64 vn,.string vt,.slice vla vl.length vlc,.slice voa vo.length voc]) (hM:Al w M Ag Cx):
 Calls Tryz.prog 52 #[.pointer (some ⟨V,0,none⟩),.pointer (some ⟨M,0,none⟩)] w fun e w'=>e=Xg (Cn 65 (.mk vk vb vn vt vl vo)).1/\w.grownBy w' (some M)/\OfX (Cn 65 (.mk vk vb vn vt vl vo)) M b w':=by
 have hSh:=fun W=>R3 W;obtain⟨RES,hRES⟩: ∃r',Cn 65 (.mk vk vb vn vt vl vo)=r':=⟨_,rfl⟩;rw[hRES];have hVs: ∀X:World,Al X V 27 #[.int .i64 vk,.bool vb,.int .i64 vn,.string vt,.slice vla vl.length vlc,.slice voa vo.length voc]->(X.cell? ⟨V,0,none⟩=some (.int .i64 vk)/\X.cell? ⟨V,1,none⟩=some (.bool vb)/\X.cell? ⟨V,2,none⟩=some (.int .i64 vn)/\X.cell? ⟨V,3,none⟩=some (.string vt)/\X.cell? ⟨V,4,none⟩=some (.slice vla vl.length vlc)/\X.cell? ⟨V,5,none⟩=some (.slice voa vo.length voc)):=fun X h=>⟨h.cell 0,h.cell 1,h.cell 2,h.cell 3,h.cell 4,h.cell 5⟩;have hS0:=hVs _ hbV;obtain⟨HSh,HRES,HV,HbV,HM,HVs,Hm⟩:=hid7 hSh hRES hV hbV hM hVs hm;clear hSh hRES hV hbV hM hVs hm;go_enter Tryz.func52,Tryz.ntmps52;refine wp_region_held_drew (S:=fun X=>X.cell? ⟨V,0,none⟩=some (.int .i64 vk)/\X.cell? ⟨V,1,none⟩=some (.bool vb)/\X.cell? ⟨V,2,none⟩=some (.int .i64 vn)/\X.cell? ⟨V,3,none⟩=some (.string vt)/\X.cell? ⟨V,4,none⟩=some (.slice vla vl.length vlc)/\X.cell? ⟨V,5,none⟩=some (.slice voa vo.length voc)) (by kernel_rfl) hS0 (fun hHeld=> ?_);refine tkH 1 hHeld ?_;refine wpAnyH_ready (rs:= [0]) (by kernel_rfl) (by simp) ?_;refine AllReadyH.cons rfl (fun K hK=> ?_) AllReadyH.nil;go_simp;(with_reducible refine(HSh.out _).mono ?_);rintro e w2 ⟨hb2',g,A,R,Wq,F,rfl,hShp⟩;have hb2:Below w.heap.size w w2:=(Below.drew (Below.refl _ _)).trans hb2';have hV2:=HbV.out.below hb2 HbV.out.lt;have hM2:=HM.out.below hb2 HM.out.lt;have hR:=Agn 65 (.mk vk vb vn vt vl vo) 1 _ g A R Wq F w2 hShp (HV.out.later hb2) Hm.out hb (by omega) (by omega) (by omega);rw[HRES.out]at hR;have hz2:=hb2.size;obtain⟨Hb2,HV2,HM2,HR⟩:=hid4 hb2 hV2 hM2 hR;clear hb2 hV2 hM2 hR;refine hK.out _ _ (HVs.out _ HV2.out) (fun hHeld=> ?_);clear hK K hShp hb2'
 try simp only[Act.put,tk1,tk2,tk3,tk4,tk5,tk6]
 refine wpAnyH_ready (rs:= [2]) (by kernel_rfl) (by simp) ?_;refine AllReadyH.cons rfl (fun K hK=> ?_) AllReadyH.nil;go_simp;(with_reducible refine(HR.out).mono ?_);rintro e w3 ⟨hb3,hr⟩;have hw3:=Hb2.out.trans (hb3.mono Hb2.out.size);have hV3:=HV2.out.below hb3 HV2.out.lt;have hM3:=HM2.out.below hb3 HM2.out.lt;by_cases hc:RES.1≠0
 . rw[if_pos hc]at hr;obtain rfl:=hr;have hP:Gg RES.1=Xg RES.1/\w.grownBy w3 (some M)/\OfX RES M b w3:=⟨(Es hc).symm,Kg _ hw3,fun h=>absurd h hc⟩;have HP:=Lib.hid hP;clear hP;clear hK hb3 hw3 hV3 hM3;go_wp2;have:=HP.out;rw[Es hc]at this ⊢;exact⟨rfl,this⟩
 rw[if_neg hc]at hr;obtain⟨ca,rfl,hf⟩:=hr;have hsc:Cx.size=ca.size:=by have:=hf.now.len.1;rw[Ct]at this;simpa using this.symm
 have hcc: ∀u ∈ ca.toList,u.oneCell'=true:=hf.now.len.2;have hz3:=hb3.size;obtain⟨Hw3,HV3,HM3,Hf⟩:=hid4 hw3 hV3 hM3 hf;clear hw3 hV3 hM3 hf;refine hK.out _ _ (HVs.out _ HV3.out) (fun hHeld=> ?_);clear hK K hb3
 try simp only[Act.put,tk1,tk2,tk3,tk4,tk5,tk6]
 refine wpAnyH_ready (rs:= [3]) (by kernel_rfl) (by simp) ?_;refine AllReadyH.cons rfl (fun K hK=> ?_) AllReadyH.nil;have hMw:M<w.heap.size:=Nat.lt_of_lt_of_le hMb hbw;refine A4 (cs:=Cx) Ag (.tmp 1) (.tmp 4) rfl M 0 HM3.out (.agg ca) rfl rfl (by simp only[Value.cells];rw[<-hsc];exact Nat.le_of_ble_eq_true rfl) (by simp only[Value.cells];rw[<-hsc];kernel_rfl) (by simp only[Value.cells];exact hcc) (Hw3.out.mono (Nat.le_of_lt hMw)) (Nat.le_refl M) ?_;intro w4 hx4 hb4 hs4 hfar;rw[show(Value.agg ca).cells=ca from by simp only[Value.cells],Dd Cx ca hsc]at hx4;have hgr:w.grownBy w4 (some M):=⟨hb4.os,hb4.tape,hb4.output,by omega,fun i hi hne=>(hfar i (by simpa using hne)).trans (Hw3.out.block i hi)⟩;have hP:w.grownBy w4 (some M)/\OfX RES M b w4:=⟨hgr,fun _=>⟨ca,hx4,by rw[<-hsc];rfl,Hf.out.keep (by omega) (by omega) fun p p1 _=>World.cell?_of_block (hfar _ (by omega))⟩⟩;have h0:RES.1=0:=by simpa using hc
 have hVM:V≠M:=fun e=>by
  have h1:=HbV.out;rw[e]at h1;have h2:=HM.out;have h3:=h1.symm.trans h2;simp at h3
 have hV5:=HVs.out _ ((hfar V hVM).trans HV3.out);obtain⟨HP,H0⟩:=hid2 hP h0;clear hP h0;refine hK.out _ _ hV5 (fun hHeld=> ?_);clear hK K hx4 hb4 hfar hgr hV5
 try simp only[Act.put,tk1,tk2,tk3]
 refine wpAnyH_done (by kernel_rfl) ?_ _;go_wp2
 go_end0
 exact⟨by rw[H0.out,M7],HP.out⟩
end Go.Proofs.YtmglfdckpjegdaaGreatDoor
