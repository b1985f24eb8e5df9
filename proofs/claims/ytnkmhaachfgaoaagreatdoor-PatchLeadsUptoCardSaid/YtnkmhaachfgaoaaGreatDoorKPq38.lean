/- Parts: (tree.Tree).Delete. Condition: a bulk of at most 10^8, a height of at most 90000. -/
import Derived.Test.YtnkmhaachfgaoaaGreatDoorKPq36
set_option maxHeartbeats 20000000
set_option maxRecDepth 100000
namespace Go.Proofs.YtnkmhaachfgaoaaGreatDoor
open Go Go.RowKit
def Lq (S:Nat->Prop) (b:Nat) (o:Option Nd) (w:World) (e:Ending) (w':World):Prop:=Below w.heap.size w w'/\match o with
 |none=>e=.returned (.tuple #[.pointer (some ⟨b,0,none⟩),.bool false])
 |some x=> ∃b',e=.returned (.tuple #[.pointer (some ⟨b',0,none⟩),.bool true])/\Bj (fun i=>S i\/w.heap.size<=i) w' x b'
theorem Aix {l:List Nd} {i:Nat} {x y:Nd} (hx:l[i]? =some x) (hy:l[i+1]? =some y):l=l.take i++x::y::l.drop (i+2):=by
 obtain⟨h1,e1⟩:=List.getElem?_eq_some_iff.1 hx;obtain⟨h2,e2⟩:=List.getElem?_eq_some_iff.1 hy;have e:=(List.take_append_drop i l).symm;rw[List.drop_eq_getElem_cons h1,e1,List.drop_eq_getElem_cons h2,e2]at e;exact e
theorem Adu {l:List Nd} {i:Nat} {x y:Nd} (ha:Az (Ap l)) (hx:l[i]? =some x) (hy:l[i+1]? =some y):Az (A6 x++A6 y)/\(A6 x++A6 y).length<=(Ap l).length/\Ac (A6 x)+Ac (A6 y)<=Ac (Ap l):=by
 have e:=Aix hx hy;have hf:Ap l=Ap (l.take i)++((A6 x++A6 y)++Ap (l.drop (i+2))):=by
  conv=>lhs;rw[e]
  rw[A0];simp[Ap]
 rw[hf]at ha ⊢;refine⟨(List.pairwise_append.1 (List.pairwise_append.1 ha).2.1).1,by simp only[List.length_append];omega,by rw[Eg,Eg,Eg];omega⟩
theorem Y0 (k:ByteArray) (w:World):Calls Tryz.prog 60 #[.pointer none,.string k] w fun e w'=>e=.returned (.tuple #[.pointer none,.bool false])/\Below w.heap.size w w':=by
 obtain⟨PO,hPO⟩: ∃P:Ending->World->Prop,(fun e w'=>e=.returned (.tuple #[.pointer none,.bool false])/\Below w.heap.size w w')=P:=⟨_,rfl⟩;rw[hPO];have HHt:=qz (Pg w);have HEn:=qz (Oy w);have hPl:=Hu [] k none 0 0 w ⟨none,0,rfl,fun d hd=>(by cases hd), [],rfl,.inl rfl⟩ (by simp[Az]) (by simp);rw[show Cy k ([]:List Ax)=0 from rfl,show Bm k ([]:List Ax)=false from rfl]at hPl;obtain⟨HPl,HPO⟩:=hid2 hPl hPO;clear hPl hPO;go_enter Tryz.func60,Tryz.ntmps60;go_wp2_with (fail);(with_reducible refine(HHt.out).mono ?_);rintro e w1 ⟨rfl,rfl⟩;go_wp2_with (fail);(with_reducible refine(HEn.out).mono ?_);rintro e w1 ⟨rfl,rfl⟩;go_wp2_with (fail);(with_reducible refine(HPl.out).mono ?_);rintro e w2 ⟨rfl,hb2⟩;have HP:Hid (PO (.returned (.tuple #[.pointer none,.bool false])) w2):=by
  show PO _ _;rw[<-HPO.out];exact⟨rfl,hb2⟩
 clear hb2;go_wp2;exact HP.out
theorem Yz (S:Nat->Prop) (es:List Ax) (b:Nat) (k:ByteArray) (w:World) (h:By w w.heap.size (.leaf es) b) (h1:1<=es.length) (h8:es.length<=8) (ha:Az es) (hb:Ac es<=100000000):
 Calls Tryz.prog 60 #[.pointer (some ⟨b,0,none⟩),.string k] w (Lq S b (Gx 0 (.leaf es) k) w):=by
 obtain⟨PO,hPO⟩: ∃P:Ending->World->Prop,Lq S b (Gx 0 (.leaf es) k) w=P:=⟨_,rfl⟩;rw[hPO];have hHt:=Cl h;rw[show I8 (.leaf es)=0 from by simp[I8]]at hHt;have HEn:=qz (Ft h (by omega) hb);have ho:Gx 0 (.leaf es) k=if Bm k es=true then some (.leaf (B3 k es))else none:=by
  simp only[Gx];rw[show A6 (.leaf es)=es from rfl,Xm ha]
 obtain⟨HHt,HPO,Ho⟩:=hid3 hHt hPO ho;clear hHt hPO ho;clear h;go_enter Tryz.func60,Tryz.ntmps60;go_wp2_with (fail);(with_reducible refine(HHt.out).mono ?_);rintro e w1 ⟨rfl,rfl⟩;go_wp2_with (fail);(with_reducible refine(HEn.out).mono ?_);rintro e w1 ⟨hb1,g,rfl,hR⟩;have HPl:=qz (Hu es k (some ⟨g,0,none⟩) es.length es.length w1 hR.close ha (by omega));obtain⟨Hb1,HR⟩:=hid2 hb1 hR;clear hb1 hR;go_wp2_with (fail);(with_reducible refine(HPl.out).mono ?_);rintro e w2 ⟨rfl,hb2⟩;have hw2:=Hb1.out.trans (hb2.mono Hb1.out.size);have hR2:=HR.out.below hb2;by_cases hh:Bm k es=true
 . have hlt:=Uz hh;have hce:=Xa ha hh;have hda:=La (k:=k) ha;have hdl:=Qd k es;have hdb:=Kb k es;obtain⟨M,hM⟩: ∃M,es.length=M+1:=⟨es.length - 1,by omega⟩;rw[hh];generalize Cy k es=I at hlt hce ⊢;have hD:=Z3 _ w.heap.size g es.length es.length I M (dO es) w2 hR2 (by rw[At];exact hM) (by omega) (by omega);have e1:(dO es).take I++(dO es).drop (I+1)=dO (B3 k es):=by rw[hce,Bi,Bi,List.map_append,List.map_take,List.map_drop]
   rw[e1]at hD;have hw1:IntKind.i64.wrap ((I:Int)+1)=(I:Int)+1:=IntWalk.i64_in _ (by omega);have hgb:=(hR2.base g rfl).1;have hce2:(B3 k es).length=M:=by
    rw[hce,List.length_append,List.length_take,List.length_drop];omega
   obtain⟨HD,Hw2,Hda,Hdb,Hce2,HM⟩:=hid6 hD hw2 hda hdb hce2 hM;clear hD hw2 hda hdb hce2 hM;clear hR2 hb2 hce e1;go_wp2_with (fail);(with_reducible refine(HD.out).mono ?_);rintro e w3 ⟨rfl,hR3,hk3⟩;have Hw3:Hid (Below w.heap.size w w3):=Hw2.out.trans (hk3.below (fun j hj=>by subst hj;exact hgb) Hw2.out.size);have HC:=qz (Dj S (B3 k es) (some ⟨g,0,none⟩) M es.length w3 hR3.close Hda.out (by omega) (by have:=Hdb.out;omega));clear hR3 hk3;go_wp2_with (fail);(with_reducible refine(HC.out).mono ?_);rintro e w4 ⟨hb4,b4,rfl,hN4⟩;have HP:Hid (PO (.returned (.tuple #[.pointer (some ⟨b4,0,none⟩),.bool true])) w4):=by
    show PO _ _;rw[<-HPO.out,Ho.out,if_pos hh];exact⟨Hw3.out.trans (hb4.mono Hw3.out.size),b4,rfl,hN4.mono (Ej Hw3.out.size)⟩
   clear hb4 hN4;go_wp2;exact HP.out
 . have hf:Bm k es=false:=by simpa using hh
   rw[hf];have HP:Hid (PO (.returned (.tuple #[.pointer (some ⟨b,0,none⟩),.bool false])) w2):=by
    show PO _ _;rw[<-HPO.out,Ho.out,if_neg hh];exact⟨hw2,rfl⟩
   generalize Cy k es=I;clear hw2 hR2 hb2;go_wp2;exact HP.out
theorem Y4 (S:Nat->Prop) (T:Nat) (ks:List Nd) (lo b:Nat) (k:ByteArray) (w:World) (hS:Bj S w (.inner ks) b) (hn:Cb lo (T+1) (.inner ks)) (hlo:2<=lo) (ha:Az (Ap ks)) (hT:T<=100000) (hN:(Ap ks).length<=100000000)
 (hb:Ac (Ap ks)<=100000000) (hI0: ∀(S':Nat->Prop) (x:Nd) (b':Nat) (W:World),Bj S' W x b'->Cb 4 T x->Az (A6 x)->(A6 x).length<=100000000->Ac (A6 x)<=100000000->Calls Tryz.prog 60 #[.pointer (some ⟨b',0,none⟩),.string k] W (Lq S' b' (Gx T x k) W)):
 Calls Tryz.prog 60 #[.pointer (some ⟨b,0,none⟩),.string k] w (Lq S b (Gx (T+1) (.inner ks) k) w):=by
 have h:Bj (fun i=>S i/\i<w.heap.size) w (.inner ks) b:=hS.mono fun i hi h=>⟨h,hi⟩;clear hS;obtain⟨x,hx,eg,hxo,hxa,hxl,hxb,hy⟩:=Afh k hlo hn ha;have hht:(I8 (.inner ks):Int)=(T:Int)+1:=by rw[Lc (.inl (by omega)) hn];rfl
 simp only[Cb]at hn;obtain⟨hn2,hn8,hnk⟩:=hn;have hne: ∀k ∈ ks,A6 k≠ []:=fun y hy=>Kn (by omega) (hnk y hy);obtain⟨PO,hPO⟩: ∃P:Ending->World->Prop,Lq S b (Gx (T+1) (.inner ks) k) w=P:=⟨_,rfl⟩;rw[hPO];have ho:(Gx T x k=none->Gx (T+1) (.inner ks) k=none)/\ ∀y,Gx T x k=some y->Gx (T+1) (.inner ks) k=some (Ce (if A7 y<4 then F6 (ks.set (Ai ks k) y) (Ai ks k)else ks.set (Ai ks k) y)):=by
  refine⟨fun h=> ?_,fun y h=> ?_⟩
  . simp only[Gx];rw[eg,h]
  . simp only[Gx];rw[eg,h]
 have hHt:=Cl h.now;rw[hht]at hHt;have hz:(((T:Int)+1)==0)=false:=beq_eq_false_iff_ne.2 (by omega);have HKi:=qz (Fu h (by omega) (by omega));have hlt:Ai ks k<ks.length:=(List.getElem?_eq_some_iff.1 hx).1;obtain⟨HHt,HPO,HI0,Ho,Hy⟩:=hid5 hHt hPO hI0 ho hy;clear hHt hPO hI0 ho hy;clear h hht eg;go_enter Tryz.func60,Tryz.ntmps60;go_wp2_with (fail);(with_reducible refine(HHt.out).mono ?_);rintro e w1 ⟨rfl,rfl⟩;go_wp2_with (fail);(with_reducible refine(HKi.out).mono ?_);rintro e w1 ⟨bs,hks,hb1,V,rfl,hR⟩;have hbl:=hks.now.len;have hbl2:(Ar bs).length=ks.length:=by rw[Av];exact hbl
 obtain⟨g,c,rfl,hcn,hg1,hg2⟩:=hR.ptr (by intro e;rw[e]at hbl2;simp at hbl2;omega);rw[hbl2]at hR hcn ⊢;have hks1:=hks.below hb1;have HWh:=qz (Og ks bs k (some ⟨g,0,none⟩) ks.length c w1 hR.close hks1.now ha hne (by omega));obtain⟨HR,Hks1,Hb1⟩:=hid3 hR hks1 hb1;clear hR hks1 hb1;clear hks hbl2;go_wp2_with (fail);(with_reducible refine(HWh.out).mono ?_);rintro e w2 ⟨rfl,hb2⟩;have Hbw2:=qz (Hb1.out.trans (hb2.mono Hb1.out.size));have hR2:=HR.out.below hb2;have hks2:=Hks1.out.below hb2;generalize Ai ks k=P at hx hlt Ho Hy ⊢;obtain⟨bx,hbx,hnx⟩:=hks2.at_ hx;have s1:=hR2.ptrAt hbx;have hCx:=HI0.out _ x bx w2 hnx hxo hxa (by omega) (by omega);have lg2:g<w2.heap.size:=(hR2.base g rfl).2;have y1:(P:Int)<(ks.length:Int):=by omega
 have y2:(0:Int)<=(P:Int):=by omega
 obtain⟨HCx,HR2,Hks2⟩:=hid3 hCx hR2 hks2;clear hCx hR2 hks2;clear hnx hbx hb2 HR Hks1 HWh HKi HI0 HHt;go_wp2_with (fail);(with_reducible refine(HCx.out).mono ?_);rintro e w4 ⟨hb4,he⟩;have hbw4:=Hbw2.out.trans (hb4.mono Hbw2.out.size);have hR4:=HR2.out.below hb4;have hks4:=Hks2.out.below hb4
 cases hr:Gx T x k with
 |none=>
  rw[hr]at he
  cases he
  have Ho:=qz (Ho.out.1 hr);have HP:Hid (PO (.returned (.tuple #[.pointer (some ⟨b,0,none⟩),.bool false])) w4):=by
   show PO _ _;rw[<-HPO.out,Ho.out];exact⟨hbw4,rfl⟩
  clear hbw4 hR4 hks4 hb4 hr;go_wp2;exact HP.out
 |some y=>
  rw[hr]at he;have ho:=Ho.out.2 y hr;obtain⟨bA,rfl,hnA⟩:=he;obtain⟨hyo,hset,hoth,hm1,hm2⟩:=Hy.out y hr;have lg:g<w4.heap.size:=Nat.lt_of_lt_of_le lg2 hb4.size;have f0:w4.cell? ⟨g,P,none⟩=some (.pointer (some ⟨bx,0,none⟩)):=(hb4.cell (p:=⟨g,P,none⟩) lg2).trans s1;obtain⟨cur,hbg⟩:=hR4.blk;have fz:=hbg.frozen;have hgw:=(hR4.base g rfl).1;have hgi: ∀i,((S i/\i<w.heap.size)\/w2.heap.size<=i)->i≠g:=fun i i1=>by
   rcases i1 with⟨_,i1⟩|i1<;>omega
  obtain⟨w5,hw5⟩: ∃W,w4.setCell ⟨g,P,none⟩ (.pointer (some ⟨bA,0,none⟩))=W:=⟨_,rfl⟩;have hKB5:KB (fun j=>j=g) w4 w5:=hw5▸KB.set (S:=fun j=>j=g) w4 ⟨g,P,none⟩ rfl _;have hsz5:w5.heap.size=w4.heap.size:=by rw[<-hw5];simp[World.setCell]
  have hnA5:Bj (fun i=>(S i/\i<w.heap.size)\/w2.heap.size<=i) w5 y bA:=hnA.later hKB5.size fun i i1 i2=>hKB5.block i i2 (hgi i i1);have hks5:=(hks4.later hKB5.size fun i i1 i2=>hKB5.block i i2 (hgi i (.inl i1))).mono (T:=fun i=>(S i/\i<w.heap.size)\/w2.heap.size<=i) fun i _ hi=> .inl hi;have hkA5:=hks5.set P hnA5;have hR5:=hR4.put1 (i:=P) (p:=bA) (by omega);rw[hw5]at hR5;have hB5:Below w.heap.size w w5:=hbw4.trans (hKB5.below (fun j hj=>by subst hj;exact hgw) hbw4.size);have hzw2:=Hbw2.out.size;have hasc5:Az (Ap (ks.set P y)):=by rw[hset];exact La ha
  have hlen5:(Ap (ks.set P y)).length<=100000000:=by rw[hset];exact Nat.le_trans (Qd _ _) hN
  have hbk5:Ac (Ap (ks.set P y))<=100000000:=by rw[hset];exact Nat.le_trans (Kb _ _) hb
  have hSz:=Ph hnA5.now (by have:=(E7 hyo).2;omega);have hsl:=(E7 hyo);have hinn: ∀(W:World) (R:List Nd) (br:List Nat) (a:Option Addr) (n c:Nat) (S3:Nat->Prop),Below w.heap.size w W->Ae W W.heap.size (.row 1 (Ar br)) [.slice a n c]->Am S3 W R br->(∀i,S3 i->i<W.heap.size->(S i\/w.heap.size<=i))->Ap R=B3 k (Ap ks)->(∀z ∈ R,Cb 4 T z)->1<=R.length->R.length<=8->Gx (T+1) (.inner ks) k=some (Ce R)->Calls Tryz.prog 58 #[.slice a n c] W fun e W'=> ∃b',e=.returned (.pointer (some ⟨b',0,none⟩))/\PO (.returned (.tuple #[.pointer (some ⟨b',0,none⟩),.bool true])) W':=fun W R br a n c S3 hW hRo hK hS3 hfl hok h1 h8 he=>by
   refine(Co S3 T R br a n c W hRo hK (by rw[hfl];exact La ha) hok h1 h8 (by omega) (by rw[hfl];exact Nat.le_trans (Qd _ _) (by omega))).mono ?_;rintro e W' ⟨hb',b',rfl,hN'⟩;refine⟨b',rfl, ?_⟩;rw[<-HPO.out,he];refine⟨hW.trans (hb'.mono hW.size),b',rfl,(hN'.mono (T:=fun i=>i<W.heap.size/\S3 i\/W.heap.size<=i) fun i hi hh=> ?_).mono fun i hi hh=> ?_⟩
   . rcases Nat.lt_or_ge i W.heap.size with hl|hl
     . rcases hh with hh|hh
       . exact .inl ⟨hl,hh⟩
       . exact .inr hh
     . exact .inr hl
   . rcases hh with⟨h1,h2⟩|hh
     . exact hS3 i h2 h1
     . exact .inr (Nat.le_trans hW.size hh)
  have hlks:(ks.set P y).length=ks.length:=List.length_set;by_cases h4:A7 y<4
  . have hmd: ∃x' y',(ks.set P y)[P - 1]? =some x'/\(ks.set P y)[P - 1+1]? =some y'/\Cb 3 T x'/\Cb 3 T y'/\7<=A7 x'+A7 y'/\(A7 x'=3\/A7 y'=3):=by
     by_cases hp0:P=0
     . subst hp0;obtain⟨z,hz⟩: ∃z,ks[1]? =some z:=⟨_,List.getElem?_eq_getElem (by omega)⟩;have hzo:=hoth 1 z (by omega) hz;have:=(E7 hzo).1;exact⟨y,z,by rw[List.getElem?_set_self (by omega)],by rw[List.getElem?_set_ne (by omega)];exact hz,hyo,Km (by omega) hzo,by omega,.inl (by omega)⟩
     . obtain⟨z,hz⟩: ∃z,ks[P - 1]? =some z:=⟨_,List.getElem?_eq_getElem (by omega)⟩;have hzo:=hoth (P - 1) z (by omega) hz;have:=(E7 hzo).1;exact⟨z,y,by rw[List.getElem?_set_ne (by omega)];exact hz,by rw[show P - 1+1=P from by omega,List.getElem?_set_self (by omega)],Km (by omega) hzo,hyo,by omega,.inr (by omega)⟩
    obtain⟨x',y',hx',hy',ox',oy',h7',h3'⟩:=hmd;obtain⟨t1,t2,t3⟩:=Adu hasc5 hx' hy';obtain⟨m1,m2,m3,m4⟩:=hm1 h4;rw[if_pos h4]at ho;have Ho:=qz ho;clear ho;have hMd:=fun(W:World) (hW:Below w5.heap.size w5 W)=>Aaq (fun i=>(S i/\i<w.heap.size)\/w2.heap.size<=i) T w.heap.size g c P (P - 1) (ks.set P y) (bs.set P bA) x' y' W (by rw[hlks];exact hR5.below hW) (hkA5.below hW) (fun hc=>hgi g hc rfl) (Nat.le_trans hB5.size hW.size) (by omega) rfl hx' hy' (by omega) ox' oy' h7' h3' t1 (by omega) (by omega) (by omega);rw[hlks]at hMd;have y4:((A7 y:Nat):Int)<4:=by omega
    obtain⟨HMd,HSz,Hinn,HB5,M2⟩:=hid5 hMd hSz hinn hB5 m2;clear hMd hSz hinn hB5 m2;have Hw5:=qz hw5;clear hnA5 hks5 hkA5 hR5 hbw4 hR4 hks4 hb4 hnA hKB5 hbg hm1 hm2 hoth Hy HCx HR2 Hks2 t1 t2 t3 hx' hy' ox' oy' h7' h3' hasc5 hlen5 hbk5 hr hw5;go_upto_region 13 with(fail);rw[Hw5.out];clear f0 fz lg;go_wp2_with (fail);(with_reducible refine(HSz.out).mono ?_);rintro e w6 ⟨rfl,hb6⟩;have HC:=qz (HMd.out w6 hb6);have hz6:=hb6.size;have Hw6:=qz (HB5.out.trans (hb6.mono HB5.out.size));clear hb6;generalize (A7 y)=sy at y4 hsl;go_wp2_with (fail);(with_reducible refine(HC.out).mono ?_);rintro e w7 ⟨hk7,V7,bs7,rfl,hr7,hn7⟩;have hw7:Below w.heap.size w w7:=Hw6.out.trans (hk7.below (fun j hj=>by subst hj;exact hgw) Hw6.out.size);obtain⟨N7,hN7⟩: ∃N,(Ar bs7).length=N:=⟨_,rfl⟩;obtain⟨a7,c7,rfl⟩:=hr7.slice_n hN7;have hC2:=Hinn.out w7 _ bs7 a7 N7 c7 _ hw7 hr7.close hn7 (fun i hi _=>by
     rcases hi with(hi|hi)|hi
     . exact .inl hi.1
     . exact .inr (by omega)
     . exact .inr (Nat.le_trans Hw6.out.size hi)) m1 M2.out m3 m4 Ho.out
    have HC2:=qz hC2;clear hC2;clear hr7 hn7 hk7 hN7 hw7 m1 m3 m4;go_wp2_with (fail);(with_reducible refine(HC2.out).mono ?_);rintro e w8 ⟨b8,rfl,hP⟩;have HP:=qz hP;clear hP;go_wp2;exact HP.out
  . have m2:=hm2 h4;rw[if_neg h4]at ho;have Ho:=qz ho;clear ho;have y4: ¬((A7 y:Nat):Int)<4:=by omega
    have HRc:=qz (fun(W:World) (hW:Below w5.heap.size w5 W)=>(hR5.below hW).close);have Hkc:=qz (fun(W:World) (hW:Below w5.heap.size w5 W)=>hkA5.below hW);obtain⟨HSz,Hinn,HB5,M2,Hset,Hlks⟩:=hid6 hSz hinn hB5 m2 hset hlks;clear hSz hinn hB5 m2 hset hlks;have Hw5:=qz hw5;clear hnA5 hks5 hkA5 hR5 hbw4 hR4 hks4 hb4 hnA hKB5 hbg hm1 hm2 hoth Hy HCx HR2 Hks2 hasc5 hlen5 hbk5 hr hw5;go_upto_region 13 with(fail);rw[Hw5.out];clear f0 fz lg;go_wp2_with (fail);(with_reducible refine(HSz.out).mono ?_);rintro e w6 ⟨rfl,hb6⟩;have hw6:=HB5.out.trans (hb6.mono HB5.out.size);have hC2:=Hinn.out w6 (ks.set P y) (bs.set P bA) (some ⟨g,0,none⟩) ks.length c _ hw6 (HRc.out w6 hb6) (Hkc.out w6 hb6) (fun i hi _=>by
     rcases hi with hi|hi
     . exact .inl hi.1
     . exact .inr (by omega)) Hset.out M2.out (by rw[Hlks.out];omega) (by rw[Hlks.out];omega) Ho.out
    have HC2:=qz hC2;clear hC2;clear hw6 hb6;generalize (A7 y)=sy at y4 hsl;go_wp2_with (fail);(with_reducible refine(HC2.out).mono ?_);rintro e w8 ⟨b8,rfl,hP⟩;have HP:=qz hP;clear hP;go_wp2;exact HP.out
theorem R7 (k:ByteArray): ∀(T:Nat) (S:Nat->Prop) (n:Nd) (lo b:Nat) (w:World),Bj S w n b->Cb lo T n->0<lo->(0<T->2<=lo)->Az (A6 n)->T<=100000->(A6 n).length<=100000000->Ac (A6 n)<=100000000->
 Calls Tryz.prog 60 #[.pointer (some ⟨b,0,none⟩),.string k] w (Lq S b (Gx T n k) w)
 |0,S,.leaf es,lo,b,w,h,hn,hlo,_,ha,_,_,hb=>by
  simp only[Cb]at hn;exact Yz S es b k w h.now (by omega) hn.2 ha hb
 |0,_,.inner ks,_,_,_,_,hn,_,_,_,_,_,_=>absurd hn (by simp[Cb])
 |T+1,_,.leaf es,_,_,_,_,hn,_,_,_,_,_,_=>absurd hn (by simp[Cb])
 |T+1,S,.inner ks,lo,b,w,h,hn,_,h2,ha,hT,hN,hb=>
  Y4 S T ks lo b k w h hn (h2 (by omega)) ha (by omega) hN hb fun S' x b' W hx hxo hxa hxl hxb=>R7 k T S' x 4 b' W hx hxo (by omega) (fun _=>by omega) hxa (by omega) hxl hxb
theorem Fv {fn:Func} {t u:Tmp} {tmps:Array Value} {W:World} {R:Nat} {a:Value} (h:fn.results= #[.cell t 27,.tmp u]) (hp:tmps.getD t undef=.pointer (some ⟨R,0,none⟩)) (hx:W.cell? ⟨R,0,none⟩=some a):
 (results fn tmps).run Tryz.prog W=.ok (.tuple #[.agg #[a],tmps.getD u undef]) W:=by
 have hp':tmps[t]?.getD undef=.pointer (some ⟨R,0,none⟩):=by simpa using hp
 simp[results,h,hp',go_sem,hx]
def Abj (S:Nat->Prop) (t:Option (Nat×Nd)×Bool) (w:World) (e:Ending) (w':World):Prop:=Below w.heap.size w w'/\ ∃p,e=.returned (.tuple #[.agg #[.pointer p],.bool t.2])/\C5 (fun i=>S i\/w.heap.size<=i) w' t.1 p
theorem S5 (S:Nat->Prop) (t:Option (Nat×Nd)) (p:Option Addr) (k:ByteArray) (w:World) (hS:C5 S w t p) (hok:M5 t) (hT:htT t<=90000) (hN:(Ba t).length<=100000000) (hb:Ac (Ba t)<=100000000):
 Calls Tryz.prog 33 #[.agg #[.pointer p],.string k] w (Abj S (Kx t k) w):=by
 have ht:=hS.mono (T:=fun i=>S i/\i<w.heap.size) fun i hi h=>⟨h,hi⟩;clear hS;obtain⟨PO,hPO⟩: ∃P:Ending->World->Prop,Abj S (Kx t k) w=P:=⟨_,rfl⟩;rw[hPO];obtain⟨w3,hw3⟩: ∃w3,((w.alloc (.cells #[.pointer p] 27)).alloc (.cells #[.pointer none] 27))=w3:=⟨_,rfl⟩;have hb3:Below w.heap.size w w3:=hw3▸((Aa w (.cells #[.pointer p] 27)).alloc (by simp) _);have hx3:Ah w3 (w.heap.size+1) 27 #[.pointer none]:=by
  have:=Ah.new (w.alloc (.cells #[.pointer p] 27)) 27 #[.pointer none]
  rwa [World.size_alloc,hw3]at this
 have hx1:Ah w3 w.heap.size 27 #[.pointer p]:=hw3▸(Ah.new w 27 #[.pointer p]).alloc _;have hz3:w3.heap.size=w.heap.size+1+1:=by rw[<-hw3];simp
 have e0:=hx1.cell 0;have m1:=hx1.lt;have ht3:=ht.below hb3;have hfin: ∀(W:World) (q:Option Addr),Below w.heap.size w W->C5 (fun i=>(S i/\i<w.heap.size)\/w3.heap.size<=i) W (Kx t k).1 q->Ah W (w.heap.size+1) 27 #[.pointer none]->PO (.returned (.tuple #[.agg #[.pointer q],.bool (Kx t k).2])) (W.setCell ⟨w.heap.size+1,0,none⟩ (.pointer q))/\(W.setCell ⟨w.heap.size+1,0,none⟩ (.pointer q)).cell? ⟨w.heap.size+1,0,none⟩=some (.pointer q):=fun W q hW hq hx=>by
  refine⟨?_,(hx.set_ 0 (.pointer q)).cell 0⟩;rw[<-hPO];exact⟨hW.setCell (p:=⟨w.heap.size+1,0,none⟩) (by simp) _,q,rfl,(hq.later (by simp[World.setCell]) fun i i1 _=>Below.heap_setCell _ _ _ _ (by show i≠w.heap.size+1;rcases i1 with⟨_,i1⟩|i1<;>omega)).mono fun i _ hi=>hi.imp (fun h=>h.1) fun h=>by omega⟩
 clear hx1
 cases t with
 |none=>
  cases ht
  have HC:=qz (Y0 k w3);obtain⟨Hfin,Hb3,Hx3⟩:=hid3 hfin hb3 hx3;clear hfin hb3 hx3;have Hw3:=qz hw3;clear hPO ht3;go_enter Tryz.func33,Tryz.ntmps33;go_wp2_with (fail);(with_reducible refine(HC.out).mono ?_);rintro e w4 ⟨rfl,hb4⟩;have hw4:=Hb3.out.trans (hb4.mono Hb3.out.size);have hx4:=Hx3.out.below hb4 Hx3.out.lt;have d0:=hx4.cell 0;have fz:=hx4.frozen;have lx:=hx4.lt;obtain⟨hP,hxf⟩:=Hfin.out w4 none hw4 rfl hx4;have HCo:=qz (Ro w4);obtain⟨HP,Hxf⟩:=hid2 hP hxf;clear hP hxf;clear hb4 hw4 hx4 e0 m1 hw3;go_wp2_with (fail);(with_reducible refine(HCo.out).mono ?_);rintro e w5 ⟨rfl,rfl⟩;go_wp2_with (fail);exact bodyPost_ret (Fv rfl rfl Hxf.out) rfl HP.out
 |some t=>
  obtain⟨h,n⟩:=t;obtain⟨hn,ha⟩:=hok;obtain⟨b,rfl,hb'⟩:=ht3;obtain⟨l1,l2,l3⟩:=Es h;have HC:=qz (R7 k h _ n (F9 h) b w3 hb' hn l2 l3 ha (by have:h<=90000:=hT;omega) hN hb);have hne:A6 n≠ []:=Kn l2 hn;have hoT:Kx (some (h,n)) k=match Gx h n k with
   |none=>(some (h,n),false)
   |some x=>(if(A6 x).isEmpty then none else some (I8 x,x),true):=rfl
  have Hok2:=qz (Qh h (k:=k) l2 l3 hn ha);obtain⟨Hfin,Hb3,Hx3,Hb',HoT⟩:=hid5 hfin hb3 hx3 hb' hoT;clear hfin hb3 hx3 hb' hoT;have Hw3:=qz hw3;clear hPO ht;go_enter Tryz.func33,Tryz.ntmps33;go_wp2_with (fail);(with_reducible refine(HC.out).mono ?_);rintro e w4 ⟨hb4,he⟩;have hw4:=Hb3.out.trans (hb4.mono Hb3.out.size);have hx4:=Hx3.out.below hb4 Hx3.out.lt;have d0:=hx4.cell 0;have fz:=hx4.frozen;have lx:=hx4.lt
  cases hr:Gx h n k with
  |none=>
   rw[hr]at he;have e2:Kx (some (h,n)) k=(some (h,n),false):=by rw[HoT.out,hr]
   cases he
   have hn4:=Hb'.out.below hb4;have HCo:=qz (F7 hn4.now);obtain⟨hP,hxf⟩:=Hfin.out w4 (some ⟨b,0,none⟩) hw4 (by rw[e2];exact⟨b,rfl,hn4.mono fun i _ hi=> .inl hi⟩) hx4;rw[e2]at hP;have hz:(((A6 n).length:Int)==0)=false:=beq_eq_false_iff_ne.2 (by have:=List.length_pos_iff.2 hne;omega);obtain⟨HP,Hxf⟩:=hid2 hP hxf;clear hP hxf;clear hb4 hw4 hx4 e0 m1 hw3 hn4 e2 hr;generalize (A6 n).length=N at HCo hz;go_wp2_with (fail);(with_reducible refine(HCo.out).mono ?_);rintro e w5 ⟨rfl,rfl⟩;go_wp2_with (fail);exact bodyPost_ret (Fv rfl rfl Hxf.out) rfl HP.out
  |some x=>
   rw[hr]at he;have e2:Kx (some (h,n)) k=(if(A6 x).isEmpty then none else some (I8 x,x),true):=by rw[HoT.out,hr]
   obtain⟨bA,rfl,hnA⟩:=he;have hCo:=F7 hnA.now;by_cases h0:A6 x= []
   . have e3:Kx (some (h,n)) k=(none,true):=by rw[e2,h0];rfl
     obtain⟨hP,hxf⟩:=Hfin.out w4 none hw4 (by rw[e3];rfl) hx4;rw[e3]at hP;rw[h0]at hCo;obtain⟨HP,Hxf,HCo⟩:=hid3 hP hxf hCo;clear hP hxf hCo;clear hb4 hw4 hx4 e0 m1 hw3 hnA e2 hr e3 h0;go_wp2_with (fail);(with_reducible refine(HCo.out).mono ?_);rintro e w5 ⟨rfl,rfl⟩;go_wp2_with (fail);exact bodyPost_ret (Fv rfl rfl Hxf.out) rfl HP.out
   . have e3:Kx (some (h,n)) k=(some (I8 x,x),true):=by
      rw[e2]
      cases hf:A6 x with
      |nil=>exact absurd hf h0
      |cons a r=>rfl
     obtain⟨hP,hxf⟩:=Hfin.out w4 (some ⟨bA,0,none⟩) hw4 (by rw[e3];exact⟨bA,rfl,hnA⟩) hx4;rw[e3]at hP;have hz:(((A6 x).length:Int)==0)=false:=beq_eq_false_iff_ne.2 (by have:=List.length_pos_iff.2 h0;omega);obtain⟨HP,Hxf,HCo⟩:=hid3 hP hxf hCo;clear hP hxf hCo;clear hb4 hw4 hx4 e0 m1 hw3 hnA e2 hr e3 h0;generalize (A6 x).length=N at HCo hz;go_wp2_with (fail);(with_reducible refine(HCo.out).mono ?_);rintro e w5 ⟨rfl,rfl⟩;go_wp2_with (fail);exact bodyPost_ret (Fv rfl rfl Hxf.out) rfl HP.out
end Go.Proofs.YtnkmhaachfgaoaaGreatDoor
