/- Parts: (tree.Tree).Entries. Condition: a bulk of at most 10^8. -/
import Derived.Sort.CutIn
import Derived.Test.YtkmcjfkokoidcaaGreatDoorKFb26
set_option maxHeartbeats 20000000
set_option maxRecDepth 100000
namespace Go.Proofs.YtkmcjfkokoidcaaGreatDoor
open Go Go.RowKit
attribute [local go_sem] Oper.semAt_some
theorem A0.ownBlk {S0:Nat->Prop} {b s i:Nat} {t:TypeId} {wr:World} {l:List D} {V:Value} (h:A0 S0 b t s wr l V) (hi:V.ownBlock=some i): ∃cur,Aj wr i t cur:=by
 obtain⟨ns,h1,_⟩:=h;rcases h1.2 with⟨rfl,_⟩|⟨g,cap,cur,rfl,_,hg,_⟩
 . cases hi
 . cases hi
   exact⟨cur,hg⟩
def OpI (w6:World) (C g:Nat) (X O:Value) (bs:List Nat) (pre:List (Nat×Nat)) (A:World):Prop:=
 ∃V,Aj A C Aim #[X,V,O]/\A0 (fun _=>False) (C+1) 24 1 A (Ce (bs++pre.map (·.2))) V/\KB (fun i=>i=C\/i=g) w6 A/\(V.ownBlock=some g\/ ∃g',V.ownBlock=some g'/\w6.heap.size<=g')
theorem OpI.later {w6:World} {C g:Nat} {X O:Value} {bs:List Nat} {pre:List (Nat×Nat)} {A B:World} (h:OpI w6 C g X O bs pre A) (hb:Below A.heap.size A B):OpI w6 C g X O bs pre B:=by
 obtain⟨V,h1,h2,h3,h4⟩:=h;exact⟨V,h1.below hb h1.lt,h2.below hb,h3.trans (KB.of_below (S:=fun i=>i=C\/i=g) hb) fun _ _ h=>h,h4⟩
theorem OpI.put {w6:World} {C g:Nat} {X O:Value} {bs:List Nat} {pre:List (Nat×Nat)} {A:World} (h:OpI w6 C g X O bs pre A) (hC:C<w6.heap.size) (_:g<w6.heap.size) {k:Nat} {o:Obj} (o':Obj) (ho:A.heap[k]? =some o) (hc:o.isCells=false) (hk:w6.heap.size<=k):OpI w6 C g X O bs pre (A.putObj k o'):=by
 obtain⟨V,h1,h2,h3,h4⟩:=h;refine⟨V,(World.putObj_heap_other (by omega)).trans h1,h2.keepP (by simp[World.putObj]) fun i hi _=>World.putObj_heap_other ?_,⟨h3.os,h3.tape,h3.output,by have:=h3.size;simp[World.putObj];omega,fun j j1 j2=>(World.putObj_heap_other (by omega)).trans (h3.block j j1 j2)⟩,h4⟩;rintro rfl;obtain⟨cur,hcur⟩:=h2.ownBlk hi;rw[show A.heap[i]? =some (Obj.cells cur _ _)from hcur]at ho
 cases ho
 cases hc
theorem A0.reads {S0:Nat->Prop} {b s g n c:Nat} {t:TypeId} {w:World} {l:List D} (h:A0 S0 b t s w l (.slice (some ⟨g,0,none⟩) n c)): ∃ns,A7 w (g+1) s (some ⟨g,0,none⟩) n ns/\At (fun i=>S0 i/\(Value.slice (some ⟨g,0,none⟩) n c).ownBlock≠some i) w l ns/\n=l.length:=by
 obtain⟨ns,h1,h2,h3⟩:=h;rcases h1.2 with⟨e,_⟩|⟨g',cap,cur,e,hbg,hg,hnc,hcm,hcs,hcx⟩
 . cases e
 . cases e
   refine⟨ns,⟨h1.1,fun _=>⟨_,rfl,by simp,fun j u hu=> ?_⟩⟩,h3,rfl⟩;rw[Bf,Nat.zero_add];have hb:Aj w g t cur:=hg;refine(hb.cell j).trans ?_;rw[<-Array.getElem?_toList];rw[<-hcx]at hu;rw[List.getElem?_take]at hu
   split at hu
   . exact hu
   . cases hu
theorem Xo {ks:List Nd} {b:Nat} {w:World} (h:Bz w w.heap.size (.inner ks) b):Calls Tryz.prog 92 #[.pointer (some ⟨b,0,none⟩)] w fun e w'=>e=.returned (.slice none 0 0)/\w=w':=by
 simp only[Bz]at h;obtain⟨_,bs,a,c,_,hx,_⟩:=h;have c1:=hx.cell 0;have lx:=hx.lt;clear hx;go_enter Tryz.func92,Tryz.ntmps92;go_wp2;go_ret;exact⟨rfl,rfl⟩
theorem Zy (w:World):Calls Tryz.prog 157 #[.slice none 0 0] w fun e w'=>e=.returned (.slice none 0 0)/\w=w':=by
 have hnil:=fun(W:World)=>Lib.run_eql_slice_nil (P:=Tryz.prog) W 108 24 none 0 0 0 0 Tryz.underlying108;go_enter Tryz.func157,Tryz.ntmps157;go_wp2;go_ret;exact⟨rfl,rfl⟩
theorem Z2 {es:List Bj} {b:Nat} {w:World} (h:Bz w w.heap.size (.leaf es) b):Calls Tryz.prog 93 #[.pointer (some ⟨b,0,none⟩)] w fun e w'=>e=.returned (.slice none 0 0)/\w=w':=by
 simp only[Bz]at h;obtain⟨_,a,c,_,hx⟩:=h;have c1:=hx.cell 1;have lx:=hx.lt;have HC:=qz (Zy w);clear hx;go_enter Tryz.func93,Tryz.ntmps93;go_wp2_with (fail);(with_reducible refine(HC.out).mono ?_);rintro e w1 ⟨rfl,rfl⟩;go_wp2;go_ret;exact⟨rfl,rfl⟩
theorem Acq (w:World):Calls Tryz.prog 93 #[.pointer none] w fun e w'=>e=.returned (.slice none 0 0)/\w=w':=by
 go_enter Tryz.func93,Tryz.ntmps93;go_wp2;go_ret;exact⟨rfl,rfl⟩
theorem Ad2 (a b:List Bj):dO (a++b)=dO a++dO b:=by rw[Bl,Bl,Bl,List.map_append]
def Jn (B:Nat) (l:List Bj) (V:Value) (w:World) (e:Ending) (w':World):Prop:=KB (fun i=>V.ownBlock=some i) w w'/\ ∃V',e=.returned V'/\A0 (fun i=>B<=i) B 63 7 w' (dO l) V'/\(V'.ownBlock=V.ownBlock\/ ∃g,V'.ownBlock=some g/\w.heap.size<=g)
def GaC (B:Nat) (n:Nd):Prop:= ∀(acc:List Bj) (V:Value) (b:Nat) (w:World),Bx (fun i=>i<B) w n b->B<=w.heap.size->A0 (fun i=>B<=i) B 63 7 w (dO acc) V->gd n->Ae acc+Ae (Cw n)<=100000000->
 Calls Tryz.prog 51 #[V,.pointer (some ⟨b,0,none⟩)] w (Jn B (acc++Cw n) V w)
theorem W9 (B:Nat) (es:List Bj):GaC B (.leaf es):=by
 intro acc V b w hn hB hr hg hb;obtain⟨PO,hPO⟩: ∃P:Ending->World->Prop,Jn B (acc++Cw (.leaf es)) V w=P:=⟨_,rfl⟩;rw[hPO];simp only[Cw]at hb hPO;have HE:=qz (Pf hn.now hg.leaf (by omega));have hla:=Ba acc;have hle:=Ba es;have hbase:=hr.base;obtain⟨j0,hj,hy0,hy1,hy2⟩:=info_parts H9;have hLo:Hid ((dO acc).length+es.length<=maxLen/\((dO acc).length+es.length)*104<=140737488355328):=by rw[Ax];exact⟨by simp only[maxLen];omega,by omega⟩
 obtain⟨aV,cV,rfl⟩:=hr.slice;have Hdl:=qz (Ax es);obtain⟨HPO,Hn,Hr,Hj,Hy0,Hy1,Hy2,Hbase⟩:=hid8 hPO hn hr hj hy0 hy1 hy2 hbase;clear hPO hn hr hj hy0 hy1 hy2 hbase;go_enter Tryz.func51,Tryz.ntmps51;go_wp2_with (fail);(with_reducible refine(HE.out).mono ?_);rintro e w1 ⟨hb1,g1,rfl,hR1⟩;obtain⟨ns,hrd,hA,hnn⟩:=hR1.reads;clear hnn;have hg1:=hR1.base g1 rfl;have hz1:=hb1.size;have HA':Hid (At (fun i=>B<=i/\(Value.slice aV (dO acc).length cV).ownBlock≠some i) w1 (dO es) ns):=fun w'' k1 k2=>hA w'' k1 fun p p1 p2=>k2 p ⟨by omega,fun e=>by have:=(Hbase.out p.block e).2;omega⟩ p2;have Hr1:=qz (Hr.out.below hb1);obtain⟨Hrd,Hb1⟩:=hid2 hrd hb1;clear hrd hb1;clear hR1 hA;go_wp2_with (at_builtin;apply Shut.out);unfold Shut;refine Df rfl (.tmp 7) (.tmp 9) 22 rfl Tryz.underlying22 Hj.out Hy0.out Hy1.out Hy2.out rfl (by omega) rfl Hr1.out (by omega) (F2 _) HA'.out rfl Hrd.out Hdl.out.symm hLo.out.1 hLo.out.2 ?_;intro V6 w6 hrow6 hg6 hat6;have hn6:=(Hn.out.below Hb1.out).later hg6.size fun i i1 i2=>hg6.block i i2 fun e=>by have:=(Hbase.out i e.symm).1;omega
 have hK:=Z2 hn6.now;have e6:dO acc++dO es=dO (acc++es):=(Ad2 acc es).symm;rw[e6]at hrow6;have hP:Jn B (acc++es) (.slice aV (dO acc).length cV) w (.returned V6) w6:=by
  refine⟨(KB.of_below Hb1.out).trans (KB.of_grown (S:=fun i=>(Value.slice aV (dO acc).length cV).ownBlock=some i) hg6 fun k e=>e) fun _ _ h=>h,V6,rfl,hrow6, ?_⟩;rcases hat6 with e|e
  . exact .inl e
  . exact .inr ⟨_,e,by omega⟩
 rw[HPO.out]at hP;obtain⟨HP,HK⟩:=hid2 hP hK;clear hK;clear hP hrow6 hg6 hat6 hn6;go_wp2_with (fail);(with_reducible refine(HK.out).mono ?_);rintro e w7 ⟨rfl,rfl⟩;obtain⟨a6,c6,rfl⟩: ∃a6 c6,V6=.slice a6 (dO (acc++es)).length c6:=by
  have h:=HP.out;rw[<-HPO.out]at h;obtain⟨_,V',e,hr,_⟩:=h
  cases e
  exact hr.slice
 go_wp2_with (fail);go_loopw [0,14] (fun V i wr=>V=.slice a6 (dO (acc++es)).length c6/\i=.int .i64 0/\wr=w6) (fun _ _ _=>0)
 case atStart=>exact⟨rfl,rfl,rfl⟩
 case round=>
  obtain⟨rfl,rfl,rfl⟩:=hrel;go_wp2;exact HP.out
def GaI (B:Nat) (acc:List Bj) (ks:List Nd) (V2:Value) (w3:World) (q:Nat) (wr:World) (V:Value):Prop:=KB (fun i=>V2.ownBlock=some i) w3 wr/\A0 (fun i=>B<=i) B 63 7 wr (dO (acc++Cg (ks.take q))) V/\(V.ownBlock=V2.ownBlock\/ ∃g,V.ownBlock=some g/\w3.heap.size<=g)
theorem Ut (B:Nat) (ks:List Nd) (IH: ∀k ∈ ks,GaC B k):GaC B (.inner ks):=by
 intro acc V b w hn hB hr hg hb;obtain⟨PO,hPO⟩: ∃P:Ending->World->Prop,Jn B (acc++Cw (.inner ks)) V w=P:=⟨_,rfl⟩;rw[hPO];simp only[Cw]at hb hPO;obtain⟨k2,k8,kg⟩:=hg.inner;have hE:=Xo hn.now;have hla:=Ba acc;have hbase:=hr.base;obtain⟨j0,hj,hy0,hy1,hy2⟩:=info_parts H9;have hLo:Hid ((dO acc).length+0<=maxLen/\((dO acc).length+0)*104<=140737488355328):=by rw[Ax];exact⟨by simp only[maxLen];omega,by omega⟩
 obtain⟨aV,cV,rfl⟩:=hr.slice;have HX:Hid (At (fun i=>B<=i/\(Value.slice aV (dO acc).length cV).ownBlock≠some i) w [] []):=fun _ _ _=>rfl;have Hrd:Hid (A7 w 0 7 none 0 []):=⟨rfl,fun h=>absurd h (by omega)⟩;obtain⟨HIx,HE,HPO,Hn,Hr,Hj,Hy0,Hy1,Hy2,Hbase,Kg⟩:=hid11 IH hE hPO hn hr hj hy0 hy1 hy2 hbase kg;clear hE hPO hn hr hj hy0 hy1 hy2 hbase kg;clear IH;go_enter Tryz.func51,Tryz.ntmps51;go_wp2_with (fail);(with_reducible refine(HE.out).mono ?_);rintro e w1 ⟨rfl,rfl⟩;go_wp2_with (at_builtin;apply Shut.out);unfold Shut;refine Df rfl (.tmp 7) (.tmp 9) 22 rfl Tryz.underlying22 Hj.out Hy0.out Hy1.out Hy2.out rfl (by omega) rfl Hr.out (by omega) (fun d hd=>by cases hd) HX.out rfl Hrd.out rfl hLo.out.1 hLo.out.2 ?_;intro V6 w6 hrow6 hg6 hat6;rw[List.append_nil]at hrow6;obtain⟨a6,c6,rfl⟩:=hrow6.slice;have hn6:=Hn.out.later hg6.size fun i i1 i2=>hg6.block i i2 fun e=>by have:=(Hbase.out i e.symm).1;omega
 have HK:=qz (Kq hn6 (by omega) (by omega));have hg6z:=hg6.size;have Hat6:Hid ((Value.slice a6 (dO acc).length c6).ownBlock=(Value.slice aV (dO acc).length cV).ownBlock\/(Value.slice a6 (dO acc).length c6).ownBlock=some w.heap.size):=hat6;have Hg6:Hid (w.grownBy w6 (Value.slice aV (dO acc).length cV).ownBlock):=hg6;obtain⟨Hn6,Hrow6⟩:=hid2 hn6 hrow6;clear hn6 hrow6;go_wp2_with (fail);(with_reducible refine(HK.out).mono ?_);rintro e w7 ⟨bs,hbs,hb7,V7,rfl,hR7⟩;have hkl:=hbs.now.len;obtain⟨gk,ck,rfl,_,hgk,hgk2⟩:=hR7.ptr (by intro e;have:=congrArg List.length e;rw[Bm,List.length_nil]at this;omega);rw[Bm,hkl];have hcell: ∀i b,bs[i]? =some b->w7.cell? ⟨gk,0+i,none⟩=some (.pointer (some ⟨b,0,none⟩)):=by
  intro i b hi;obtain⟨g',off,e,_,cs,h1,_,h3⟩:=hR7.close.at_ (i:=i) (d:=dPt b) (by simp[Ce,hi])
  cases e
  obtain⟨rfl,_⟩:=h1;have:=h3 0 _ rfl;simpa using this
 have Hn7:=qz (hbs.below hb7);have HI0:Hid (GaI B acc ks (.slice a6 (dO acc).length c6) w7 0 w7 (.slice a6 (dO acc).length c6)):=⟨KB.of_below (Below.refl _ _),by simpa[Cg]using Hrow6.out.below hb7,.inl rfl⟩;have Hb6:=qz Hrow6.out.base;have hz7:=hb7.size;obtain⟨Hcell,Hkl,Hb7⟩:=hid3 hcell hkl hb7;clear hcell hkl hb7;clear hbs hR7 HK HE Hrow6 Hn6;go_wp2_with (fail);go_loopw [0,14] (fun V i wr=> ∃q:Nat,i=.int .i64 q/\q<=ks.length/\Hid (GaI B acc ks (.slice a6 (dO acc).length c6) w7 q wr V)) (fun _ i _=>ks.length - (intOf i).toNat)
 case atStart=>exact⟨0,rfl,Nat.zero_le _,HI0⟩
 case round=>
  obtain⟨q,rfl,hq,hI⟩:=hrel;clear HI0;obtain⟨i1,i2,i3⟩:=hI.out;by_cases hlt:q<ks.length
  . obtain⟨k,hk⟩: ∃k,ks[q]? =some k:=⟨_,List.getElem?_eq_getElem hlt⟩;obtain⟨bq,hbq,hkq⟩:=Hn7.out.at_ hk;have hkeep: ∀i,i<B\/i=gk->i<w7.heap.size->wr.heap[i]? =w7.heap[i]? :=fun i h1 h2=>i1.block i h2 fun e=>by
     have:=Hb6.out i e;have:=hgk;omega
    have hz:=i1.size;have s0:wr.cell? ⟨gk,q,none⟩=some (.pointer (some ⟨bq,0,none⟩)):=by
     have h:=(World.cell?_of_block (hkeep gk (.inr rfl) hgk2):wr.cell? ⟨gk,0+q,none⟩=w7.cell? ⟨gk,0+q,none⟩).trans (Hcell.out q bq hbq)
     rwa [Nat.zero_add]at h
    have hkr:=hkq.later hz fun i h1 h2=>hkeep i (.inl h1) h2;have hmem:=List.mem_of_getElem? hk;have hbk:Ae (Cg (ks.take q))+Ae (Cw k)<=Ae (Cg ks):=by
     have e0:ks.drop q=k::ks.drop (q+1):=by
      rw[List.drop_eq_getElem_cons hlt];have h:=List.getElem?_eq_getElem hlt;rw[hk]at h;rw[<-Option.some.inj h]
     have e1:ks=ks.take q++k::ks.drop (q+1):=by rw[<-e0,List.take_append_drop]
     have e2:=congrArg (fun l=>Ae (Cg l)) e1;simp only[Cn,Cg,C5]at e2;omega
    obtain⟨aR,cR,rfl⟩:=i2.slice;have hC:=HIx.out k hmem (acc++Cg (ks.take q)) _ bq wr hkr (by omega) i2 (Kg.out k hmem) (by rw[C5];omega);have q1:(q:Int)<(ks.length:Int):=by omega
    have q0:(0:Int)<=q:=by omega
    have q2:IntKind.i64.wrap ((q:Int)+1)=((q+1:Nat):Int):=by rw[IntWalk.i64_in _ (by omega)];omega
    have lgk:gk<wr.heap.size:=by omega
    have htk:acc++Cg (ks.take q)++Cw k=acc++Cg (ks.take (q+1)):=by
     rw[List.take_add_one,hk,Option.toList_some,Cn,Nc,List.append_assoc]
    rw[htk]at hC;obtain⟨HC,I1,I3⟩:=hid3 hC i1 i3;clear hC i1 i3;clear i2 hkr hkq hbq hI hkeep;go_wp2_with (fail);(with_reducible refine(HC.out).mono ?_);rintro e w8 ⟨hk8,V8,rfl,hr8,hat8⟩;have HI8:Hid (GaI B acc ks (.slice a6 (dO acc).length c6) w7 (q+1) w8 V8):=by
     show GaI _ _ _ _ _ _ _ _;refine⟨I1.out.trans hk8 fun k h1 h2=> ?_,hr8, ?_⟩
     . rcases I3.out with e|⟨g,e,h⟩
       . rw[<-e];exact h2
       . rw[e]at h2;have:=Option.some.inj h2;omega
     . rcases hat8 with e|⟨g,e,h⟩
       . rw[e];exact I3.out
       . exact .inr ⟨g,e,by have:=I1.out.size;omega⟩
    obtain⟨a8,c8,rfl⟩:=hr8.slice;clear hk8 hr8 hat8;go_wp2;go_roundw
    case rel=>exact⟨q+1,by go_num,by omega,HI8⟩
    case measure=>simp only[intOf];omega
  . obtain rfl:q=ks.length:=by omega
    rw[List.take_length]at i2;obtain⟨aR,cR,rfl⟩:=i2.slice;have hP:Jn B (acc++Cg ks) (.slice aV (dO acc).length cV) w (.returned (.slice aR (dO (acc++Cg ks)).length cR)) wr:=by
     refine⟨((KB.of_grown (S:=fun i=>(Value.slice aV (dO acc).length cV).ownBlock=some i) Hg6.out fun k e=>e).trans (KB.of_below (S:=fun i=>(Value.slice aV (dO acc).length cV).ownBlock=some i) Hb7.out) fun _ _ h=>h).trans i1 fun k h1 h2=> ?_,_,rfl,i2, ?_⟩
     . rcases Hat6.out with e|e
       . rw[<-e];exact h2
       . rw[e]at h2;have:=Option.some.inj h2;omega
     . rcases i3 with e|⟨g,e,h⟩
       . rw[e];rcases Hat6.out with e|e
         . exact .inl e
         . exact .inr ⟨_,e,by omega⟩
       . exact .inr ⟨g,e,by omega⟩
    rw[HPO.out]at hP;have HP:=qz hP;clear hP i1 i2 i3 hI;have q1: ¬(ks.length:Int)<(ks.length:Int):=by omega
    go_wp2;exact HP.out
theorem Us (B:Nat): ∀n,GaC B n:=Nd.ind (W9 B) (Ut B)
abbrev Vz:TypeId:=55
theorem At.base {S:Nat->Prop} {w0 w:World} {l:List D} {cs:List Value} (h:At S w0 l cs) (hb:Below w0.heap.size w0 w):At (fun i=>S i/\i<w0.heap.size) w l cs:=fun w'' h1 h2=>
 Ag.more (h w'' (Nat.le_trans hb.size h1) fun p p1 p2=>(h2 p ⟨p1,p2⟩ (Nat.lt_of_lt_of_le p2 hb.size)).trans (hb.cell p2)) hb.size
theorem At.mono {S T:Nat->Prop} {w:World} {l:List D} {cs:List Value} (h:At S w l cs) (hST: ∀i,i<w.heap.size->S i->T i):At T w l cs:=fun w'' h1 h2=>h w'' h1 fun p p1 p2=>h2 p (hST _ p2 p1) p2
theorem A0.cut {S0:Nat->Prop} {b s g n c:Nat} {t:TypeId} {w:World} {l:List D} (h:A0 S0 b t s w l (.slice (some ⟨g,0,none⟩) n c)) (i:Nat) (hi:i<=l.length):
 ∃n1 n2,A7 w (g+1) s (some ⟨g,0,none⟩) i n1/\A7 w (g+1) s (some ⟨g,i*s,none⟩) (l.length - i) n2/\At (fun j=>S0 j/\(Value.slice (some ⟨g,0,none⟩) n c).ownBlock≠some j) w (l.take i) n1/\At (fun j=>S0 j/\(Value.slice (some ⟨g,0,none⟩) n c).ownBlock≠some j) w (l.drop i) n2:=by
 obtain⟨ns,h1,h2,h3⟩:=h;have hA:=h3.split h2 i;rcases h1.2 with⟨e,_⟩|⟨g',cap,cur,e,hbg,hg,hnc,hcm,hcs,hcx⟩
 . cases e
 . cases e
   have hb:Aj w g t cur:=hg;have hcell: ∀j u,ns[j]? =some u->w.cell? ⟨g,j,none⟩=some u:=fun j u hu=>by
    refine(hb.cell j).trans ?_;rw[<-Array.getElem?_toList];rw[<-hcx,List.getElem?_take]at hu
    split at hu
    . exact hu
    . cases hu
   have hl:=h1.1;have hm:i*s<=l.length*s:=Nat.mul_le_mul_right _ hi;refine⟨ns.take (i*s),ns.drop (i*s),⟨by rw[List.length_take];omega,fun _=>⟨_,rfl,by simp,fun j u hu=> ?_⟩⟩,⟨by rw[List.length_drop,hl,Nat.sub_mul],fun _=>⟨_,rfl,by simp,fun j u hu=> ?_⟩⟩,hA.1,hA.2⟩
   . rw[Bf,Nat.zero_add];rw[List.getElem?_take]at hu
     split at hu
     . exact hcell j u hu
     . cases hu
   . rw[Bf];rw[List.getElem?_drop]at hu;exact hcell _ u hu
def Abp (S0:Nat->Prop) (b:Nat) (w:World) (M:Nat) (V:Value) (l:List Bj):Prop:=Aj w M Vz #[V]/\A0 S0 b 63 7 w (dO l) V/\V.ownBlock≠some M
theorem Ae7 (k:ByteArray) (v:Val) (l:List Bj):Cm k v l=l.take (Da k l)++ [(k,v)]++l.drop (if Cl k l=true then Da k l+1 else Da k l):=by
 rw[Nq];by_cases h:Cl k l=true
 . rw[if_pos h,if_pos h];have hlt:Da k l<l.length:=by
    unfold Cl at h;rcases Nat.lt_or_ge (Da k l) l.length with h1|h1
    . exact h1
    . rw[List.getElem?_eq_none h1]at h
      cases h
   rw[List.set_eq_take_append_cons_drop,if_pos hlt];simp
 . rw[if_neg h,if_neg h]
def Qu (S0:Nat->Prop) (b M:Nat) (l:List Bj) (w:World) (e:Ending) (w':World):Prop:=e=.returned (.tuple #[])/\KB (fun i=>i=M) w w'/\ ∃V',Abp S0 b w' M V' l
theorem Ac3 {S0:Nat->Prop} {b n c:Nat} {w:World} {l:List Bj} {a:Option Addr} (h:A0 S0 b 63 7 w (dO l) (.slice a n c)) (i j:Nat) (hi:i<=l.length) (hj:j<=l.length):
 ∃(A1 A2:Option Addr) (n1 n2:List Value) (B1 B2 c2:Nat),(B1<=w.heap.size/\B2<=w.heap.size)/\(∀X,(Instr.slice 22 (.slice a n c) none (some (.int .i64 i)) none).run Tryz.prog X=.ok (.slice A1 i c) X)/\(∀X,(Instr.slice 22 (.slice a n c) (some (.int .i64 j)) none none).run Tryz.prog X=.ok (.slice A2 (l.length - j) c2) X)/\
  A7 w B1 7 A1 i n1/\A7 w B2 7 A2 (l.length - j) n2/\At (fun x=>S0 x/\(Value.slice a n c).ownBlock≠some x) w (dO (l.take i)) n1/\At (fun x=>S0 x/\(Value.slice a n c).ownBlock≠some x) w (dO (l.drop j)) n2:=by
 have hT:dO (l.take i)=(dO l).take i:=by rw[Bl,Bl,List.map_take]
 have hD:dO (l.drop j)=(dO l).drop j:=by rw[Bl,Bl,List.map_drop]
 have hln:=Ax l;rw[hT,hD];have key: ∃cap,c=cap/\n=l.length/\l.length<=cap/\(a=none/\l= []/\cap=0\/ ∃g,a=some ⟨g,0,none⟩):=by
  obtain⟨ns,h1,_⟩:=id h;rcases h1.2 with⟨e,e0⟩|⟨g,cap,cur,e,_,_,hnc,_⟩
  . cases e
    rw[hln]at e0;exact⟨0,rfl,e0.symm,by omega,.inl ⟨rfl,List.eq_nil_of_length_eq_zero e0,rfl⟩⟩
  . cases e
    exact⟨_,rfl,hln,by omega,.inr ⟨g,rfl⟩⟩
 obtain⟨cap,rfl,rfl,hc,ha⟩:=key;have r1: ∀X,(Instr.slice 22 (.slice a l.length c) none (some (.int .i64 i)) none).run Tryz.prog X=.ok (.slice (if c=0 then a else a.map (·.add (0*7))) i c) X:=fun X=>by
  rw[run_slice_h X _ a _ c (by kernel_rfl) .i64 i (by omega) (by omega)];simp[go_sem]
 have r2: ∀X,(Instr.slice 22 (.slice a l.length c) (some (.int .i64 j)) none none).run Tryz.prog X=.ok (.slice (if c=j then a else a.map (·.add (j*7))) (l.length - j) (c - j)) X:=fun X=>by
  rw[run_slice_l X _ a _ c (by kernel_rfl) .i64 j (by omega) (by omega)];simp[go_sem]
 rcases ha with⟨rfl,rfl,rfl⟩|⟨g,rfl⟩
 . obtain rfl:i=0:=by simpa using hi
   obtain rfl:j=0:=by simpa using hj
   refine⟨_,_, [], [],0,0,_,⟨by omega,by omega⟩,r1,r2,⟨rfl,fun h=>absurd h (by simp)⟩,⟨rfl,fun h=>absurd h (by simp)⟩,fun _ _ _=>by simp[dO,Ag],fun _ _ _=>by simp[dO,Ag]⟩
 . obtain⟨n1,n2,c1,_,c3,_⟩:=h.cut i (by omega);obtain⟨m1,m2,_,d2,_,d4⟩:=h.cut j (by omega);rw[hln]at d2;have hgb:=(h.base g rfl).2;refine⟨_,_,n1,m2,g+1,g+1,_,⟨by omega,by omega⟩,r1,r2, ?_, ?_,c3,d4⟩
   . have e:(if c=0 then some (⟨g,0,none⟩:Addr)else(some (⟨g,0,none⟩:Addr)).map (·.add (0*7)))=some ⟨g,0,none⟩:=by
      split
      . rfl
      . simp[Addr.add]
     rw[e];exact c1
   . by_cases hcj:c=j
     . have hz:l.length - j=0:=by omega
       rw[hz]at d2 ⊢;exact⟨d2.1,fun h=>absurd h (by omega)⟩
     . rw[if_neg hcj];have e:(some (⟨g,0,none⟩:Addr)).map (·.add (j*7))=some ⟨g,j*7,none⟩:=by
        show some ((⟨g,0,none⟩:Addr).add (j*7))=_;rw[Bf,Nat.zero_add]
       rw[e];exact d2
theorem A7.below2 {w w':World} {B0 B s n:Nat} {A:Option Addr} {cs:List Value} (h:A7 w B s A n cs) (hB:B<=B0) (hb:Below B0 w w'):A7 w' B s A n cs:=h.below (hb.mono hB)
theorem Zx (S0:Nat->Prop) (b:Nat) (l:List Bj) (M:Nat) (V:Value) (k:ByteArray) (v:Val) (k':Int) (b':Bool) (n':Int) (t':ByteArray) (la:Option Addr) (ln lc:Nat) (oa:Option Addr) (on oc:Nat) (w:World) (hM:Abp S0 b w M V l) (hb:b<=w.heap.size) (hv:Ai S0 w (dV v) [.int .i64 k',.bool b',.int .i64 n',.string t',.slice la ln lc,.slice oa on oc]) (hl:l.length<=50000000) (hSM: ¬S0 M):
 Calls Tryz.prog 42 #[.pointer (some ⟨M,0,none⟩),.string k,.agg #[.int .i64 k',.bool b',.int .i64 n',.string t',.slice la ln lc,.slice oa on oc]] w (Qu S0 b M (Cm k v l) w):=by
 obtain⟨PO,hPO⟩: ∃P:Ending->World->Prop,Qu S0 b M (Cm k v l) w=P:=⟨_,rfl⟩;rw[hPO];obtain⟨m1,m2,m3⟩:=hM;obtain⟨aV,cV,rfl⟩:=m2.slice_n (Ax l);obtain⟨w1,hw1⟩: ∃w1,w.alloc (.cells #[.int .i64 k',.bool b',.int .i64 n',.string t',.slice la ln lc,.slice oa on oc] 37)=w1:=⟨_,rfl⟩;have hb1:Below w.heap.size w w1:=hw1▸Aa _ _;have Hx1:Hid (Aj w1 w.heap.size 37 #[.int .i64 k',.bool b',.int .i64 n',.string t',.slice la ln lc,.slice oa on oc]):=hw1▸Aj.new _ _ _;have lM:=m1.lt;have HA:=qz (Acm k l M aV l.length cV w1 ((m1.below hb1 lM).cell 0) ((m2.below hb1).close) (by omega));obtain⟨j0,hj,hy0,hy1,hy2⟩:=info_parts H9;obtain⟨HPO,M1,M2,M3,Hb1,Hv,Hj,Hy0,Hy1,Hy2⟩:=hid10 hPO m1 m2 m3 hb1 hv hj hy0 hy1 hy2;clear hPO m1 m2 m3 hb1 hv hj hy0 hy1 hy2;go_enter Tryz.func42,Tryz.ntmps42;go_wp2_with (fail);(with_reducible refine(HA.out).mono ?_);rintro e w2 ⟨rfl,hb2⟩;have hW2:=Hb1.out.trans (hb2.mono Hb1.out.size);have hi:=Ob k l;obtain⟨j,hj2,hjl,hput⟩: ∃j:Nat,(j=if Cl k l=true then Da k l+1 else Da k l)/\j<=l.length/\Cm k v l=l.take (Da k l)++ [(k,v)]++l.drop j:=by
  refine⟨_,rfl, ?_,Ae7 k v l⟩;by_cases h:Cl k l=true
  . rw[if_pos h];unfold Cl at h;rcases Nat.lt_or_ge (Da k l) l.length with h1|h1
    . omega
    . rw[List.getElem?_eq_none h1]at h
      cases h
  . rw[if_neg h];exact hi
 obtain⟨A1,A2,n1,n2,B1,B2,c2,⟨hB1,hB2⟩,r1,r2,d1,d2,d3,d4⟩:=Ac3 (M2.out.below hW2) (Da k l) j hi hjl;have D3':Hid (At (fun i=>S0 i/\(Value.slice none 0 0).ownBlock≠some i) w2 (dO (l.take (Da k l))) n1):=d3.mono fun i _ h=>⟨h.1,by simp[Value.ownBlock]⟩;have hlt:(dO (l.take (Da k l))).length=Da k l:=by rw[Ax,List.length_take];omega
 have hld:(dO (l.drop j)).length=l.length - j:=by rw[Ax,List.length_drop]
 have hx2:=Hx1.out.below hb2 Hx1.out.lt;have hm2:=(M1.out.below Hb1.out lM).below hb2 (by have:=Hb1.out.size;omega);obtain⟨x0,x1,x2,x3,x4,x5⟩:=Az hx2;have lx:=hx2.lt;have u0:=hm2.cell 0;have lM2:=hm2.lt;have hz2:=hW2.size;have hcase:(Cl k l=true/\j=Da k l+1)\/(Cl k l=false/\j=Da k l):=by
  cases hh:Cl k l with
  |true=>exact .inl ⟨rfl,by rw[hj2,hh,if_pos rfl]⟩
  |false=>exact .inr ⟨rfl,by rw[hj2,hh,if_neg (by simp)]⟩
 have hv2:=Hv.out.base hW2;generalize Da k l=I at*
 generalize Cl k l=HB at*
 have y1:IntKind.i64.wrap ((I:Int)+1)=((I+1:Nat):Int):=by rw[IntWalk.i64_in _ (by omega)];omega
 obtain⟨D1,D2,D4,Hput,Hlt,Hld,Hx2,Hm2,HW2,Hv2,Hcase,Hjl⟩:=hid12 d1 d2 d4 hput hlt hld hx2 hm2 hW2 hv2 hcase hjl;clear d1 d2 d4 hput hlt hld hx2 hm2 hW2 hv2 hcase hjl;clear hb2 hj2 d3 HA hw1;go_wp2_with (at_builtin;apply Shut.out);unfold Shut;refine Df rfl (.tmp 15) (.tmp 21) 22 rfl Tryz.underlying22 Hj.out Hy0.out Hy1.out Hy2.out rfl (by omega) rfl (A0.nil S0 b 63 7 w2) (by omega) (F2 _) D3'.out rfl D1.out Hlt.out.symm (by simp only[List.length_nil,maxLen];omega) (by simp only[List.length_nil];omega) ?_;intro V3 w3 hr3 hg3 hat3;rw[List.nil_append]at hr3;obtain⟨a3,c3,rfl⟩:=hr3.slice_n Hlt.out;have hb23:Below w2.heap.size w2 w3:=(Below.refl _ w2).grown hg3 (Nat.le_refl _) (fun k hk=>by cases hk);have ho3: ∀g,(Value.slice a3 I c3).ownBlock=some g->w2.heap.size<=g:=fun g e=>by
  rcases hat3 with h|h
  . rw[h]at e;cases e
  . rw[h]at e;have e2:w2.heap.size=g:=Option.some.inj e;omega
 have hx3:=Hx2.out.below hb23 lx;have Hm3:=qz (Hm2.out.below hb23 lM2);have hz3:=hb23.size;clear x0 x1 x2 x3 x4 x5 lx u0 lM2;obtain⟨x0,x1,x2,x3,x4,x5⟩:=Az hx3;have lx:=hx3.lt;have hb34:=Aa w3 (.cells #[.string k,.int .i64 k',.bool b',.int .i64 n',.string t',.slice la ln lc,.slice oa on oc] 63);have Hr4:=qz (hr3.below hb34);have hd4:Ai (fun i=>S0 i/\(Value.slice a3 I c3).ownBlock≠some i) (w3.alloc (.cells #[.string k,.int .i64 k',.bool b',.int .i64 n',.string t',.slice la ln lc,.slice oa on oc] 63)) (dP (k,v)) [.string k,.int .i64 k',.bool b',.int .i64 n',.string t',.slice la ln lc,.slice oa on oc]:=fun w'' q1 q2=>
  ⟨[.string k],_,rfl,⟨rfl,rfl⟩,_, [],by simp,(((Hv2.out.below hb23).below hb34) w'' q1 fun p p1 p2=>q2 p ⟨p1.1,fun e=>by have:=ho3 _ e;omega⟩ p2),rfl⟩
 have Hrd:=qz (Ge (Aj.new w3 63 #[.string k,.int .i64 k',.bool b',.int .i64 n',.string t',.slice la ln lc,.slice oa on oc]));have hz4:=hb34.size;obtain⟨Hd4,Hb23,Hb34,Ho3⟩:=hid4 hd4 hb23 hb34 ho3;clear hd4 hb23 hb34 ho3;clear hr3 hg3 hat3 hx3 D3' D1;go_wp2_with (at_builtin;apply Shut.out);unfold Shut;refine Gz (d:=dP (k,v)) rfl (.tmp 23) (.tmp 27) 22 rfl Tryz.underlying22 Hj.out Hy0.out Hy1.out Hy2.out rfl (by omega) rfl Hr4.out (by omega) (Cs _) Hd4.out rfl Hrd.out (by rw[Hlt.out];simp only[maxLen];omega) (by rw[Hlt.out];omega) ?_;intro V5 w5 hr5 hg5 hat5;have e5:dO (l.take I)++ [dP (k,v)]=dO (l.take I++ [(k,v)]):=by rw[Bl,Bl,List.map_append];rfl
 rw[e5]at hr5;have hl5:(dO (l.take I++ [(k,v)])).length=I+1:=by rw[<-e5,List.length_append,Hlt.out];rfl
 obtain⟨a5,c5,rfl⟩:=hr5.slice_n hl5;have hb35:Below w2.heap.size w2 w5:=(Hb23.out.trans (Hb34.out.mono hz3)).grown hg5 (by omega) (fun k hk=>Ho3.out k hk);have ho5: ∀g,(Value.slice a5 (I+1) c5).ownBlock=some g->w2.heap.size<=g:=fun g e=>by
  rcases hat5 with h|h
  . rw[h]at e;exact Ho3.out g e
  . rw[h]at e;have e2:=Option.some.inj e;omega
 have hm5:=Hm2.out.below hb35 Hm2.out.lt;have hz5:=hb35.size;have u0:=hm5.cell 0;have fzM:=hm5.frozen;have lM5:=hm5.lt;have Hd5:Hid (At (fun i=>S0 i/\(Value.slice a5 (I+1) c5).ownBlock≠some i) w5 (dO (l.drop j)) n2):=(D4.out.base hb35).mono fun i _ h=>⟨h.1.1,fun e=>by have:=ho5 _ e;omega⟩;have hrd5:=A7.below2 D2.out hB2 hb35;have hLo:Hid ((dO (l.take I++ [(k,v)])).length+(l.length - j)<=maxLen/\((dO (l.take I++ [(k,v)])).length+(l.length - j))*104<=140737488355328):=by rw[hl5];exact⟨by simp only[maxLen];omega,by omega⟩
 obtain⟨Hr5,Hrd5,Hb35,Ho5,Hm5,Hl5⟩:=hid6 hr5 hrd5 hb35 ho5 hm5 hl5;clear hr5 hrd5 hb35 ho5 hm5 hl5;clear hg5 hat5 e5 Hr4 Hd4 Hrd Hb23 Hb34 Ho3 Hm3 x0 x1 x2 x3 x4 x5 lx;obtain⟨y2,hy⟩: ∃J:Int,(HB=true/\IntKind.i64.wrap ((I:Int)+1)=(j:Int))\/(HB=false/\(I:Int)=(j:Int)):=⟨0,by
  rcases Hcase.out with⟨h1,h2⟩|⟨h1,h2⟩
  . exact .inl ⟨h1,by rw[y1,h2]⟩
  . exact .inr ⟨h1,by rw[h2]⟩⟩
 have HIj:Hid (I<=l.length):=hi;clear y1 y2 hi;rcases hy with⟨rfl,y1⟩|⟨rfl,y1⟩
 all_goals
  go_wp2_with (at_builtin;apply Shut.out);unfold Shut;refine Df rfl (.tmp 33) (.tmp 39) 22 rfl Tryz.underlying22 Hj.out Hy0.out Hy1.out Hy2.out rfl (by omega) rfl Hr5.out (by omega) (F2 _) Hd5.out rfl Hrd5.out Hld.out.symm hLo.out.1 hLo.out.2 ?_;have hjl:=Hjl.out;intro V7 w7 hr7 hg7 hat7;have e7:=(congrArg dO Hput.out).trans (Ad2 _ _);rw[<-e7]at hr7;have hm7:=Hm5.out.grown hg7 (fun e=>by have:=Ho5.out M e.symm;omega);have hr7':=hr7.base;have ho7: ∀g,V7.ownBlock=some g->w2.heap.size<=g:=fun g e=>by
   rcases hat7 with h|h
   . rw[h]at e;exact Ho5.out g e
   . rw[h]at e;have e2:=Option.some.inj e;omega
  obtain⟨N7,hN7⟩: ∃N7,(dO (Cm k v l)).length=N7:=⟨_,rfl⟩;obtain⟨a7,c7,rfl⟩:=hr7.slice_n hN7;have u7:=hm7.cell 0;have fz7:=hm7.frozen;have lM7:=hm7.lt;have HP:Hid (PO (.returned (.tuple #[])) (w7.setCell ⟨M,0,none⟩ (.slice a7 N7 c7))):=by
   show PO _ _;rw[<-HPO.out];have hW7:=(HW2.out.trans (Hb35.out.mono hz2)).grown hg7 (by omega) (fun q hq=>by have:=Ho5.out q hq;omega);refine⟨rfl,(KB.of_below hW7).trans (KB.set (S:=fun i=>i=M) w7 ⟨M,0,none⟩ rfl _) fun _ _ h=>h,_,hm7.set_ 0 _,hr7.keepN (Nat.le_refl _) (fun i hi=>hi) (by simp[World.setCell]) fun i i1 _=>Below.heap_setCell _ _ _ _ ?_,fun e=>by have:=ho7 M e;omega⟩;show i≠M;rcases i1 with i1|i1
   . exact fun e=>hSM (e▸i1)
   . have:=ho7 i i1;omega
  clear hg7 hat7 hr7 hm7 hN7 e7;go_wp2;exact bodyPost_end (Rw rfl) rfl HP.out
theorem Zk (B:Nat) (acc:List Bj) (V:Value) (w:World) (hB:B<=w.heap.size) (hr:A0 (fun i=>B<=i) B 63 7 w (dO acc) V) (hb:Ae acc<=100000000):Calls Tryz.prog 51 #[V,.pointer none] w (Jn B acc V w):=by
 obtain⟨PO,hPO⟩: ∃P:Ending->World->Prop,Jn B acc V w=P:=⟨_,rfl⟩;rw[hPO];have hE:=Tl w;have hla:=Ba acc;obtain⟨j0,hj,hy0,hy1,hy2⟩:=info_parts H9;have hLo:Hid ((dO acc).length+0<=maxLen/\((dO acc).length+0)*104<=140737488355328):=by rw[Ax];exact⟨by simp only[maxLen];omega,by omega⟩
 obtain⟨aV,cV,rfl⟩:=hr.slice;have HX:Hid (At (fun i=>B<=i/\(Value.slice aV (dO acc).length cV).ownBlock≠some i) w [] []):=fun _ _ _=>rfl;have Hrd:Hid (A7 w 0 7 none 0 []):=⟨rfl,fun h=>absurd h (by omega)⟩;obtain⟨HE,HPO,Hr,Hj,Hy0,Hy1,Hy2⟩:=hid7 hE hPO hr hj hy0 hy1 hy2;clear hE hPO hr hj hy0 hy1 hy2;go_enter Tryz.func51,Tryz.ntmps51;go_wp2_with (fail);(with_reducible refine(HE.out).mono ?_);rintro e w1 ⟨rfl,rfl⟩;go_wp2_with (at_builtin;apply Shut.out);unfold Shut;refine Df rfl (.tmp 7) (.tmp 9) 22 rfl Tryz.underlying22 Hj.out Hy0.out Hy1.out Hy2.out rfl (by omega) rfl Hr.out (by omega) (fun d hd=>by cases hd) HX.out rfl Hrd.out rfl hLo.out.1 hLo.out.2 ?_;intro V6 w6 hrow6 hg6 hat6;rw[List.append_nil]at hrow6;obtain⟨a6,c6,rfl⟩:=hrow6.slice;have HK:=qz (Acq w6);have hP:Jn B acc (.slice aV (dO acc).length cV) w (.returned (.slice a6 (dO acc).length c6)) w6:=by
  refine⟨KB.of_grown (S:=fun i=>(Value.slice aV (dO acc).length cV).ownBlock=some i) hg6 fun k e=>e,_,rfl,hrow6, ?_⟩;rcases hat6 with e|e
  . exact .inl e
  . exact .inr ⟨_,e,Nat.le_refl _⟩
 rw[HPO.out]at hP;have HP:=qz hP;clear hP hrow6 hg6 hat6;go_wp2_with (fail);(with_reducible refine(HK.out).mono ?_);rintro e w7 ⟨rfl,rfl⟩;go_wp2_with (fail);go_loopw [0,14] (fun V i wr=>V=.slice a6 (dO acc).length c6/\i=.int .i64 0/\wr=w6) (fun _ _ _=>0)
 case atStart=>exact⟨rfl,rfl,rfl⟩
 case round=>
  obtain⟨rfl,rfl,rfl⟩:=hrel;go_wp2;exact HP.out
def K4 (es:List Bj) (w:World) (e:Ending) (w':World):Prop:=Below w.heap.size w w'/\ ∃V,e=.returned V/\A0 (fun i=>w.heap.size<=i) w.heap.size 63 7 w' (dO es) V
theorem Pv (t:Option (Nat×Nd)) (p:Option Addr) (w:World) (ht:Il (fun i=>i<w.heap.size) w t p) (ok:Sc t) (hb:Ae (Db t)<=100000000):Calls Tryz.prog 23 #[.agg #[.pointer p]] w (K4 (Db t) w):=by
 obtain⟨PO,hPO⟩: ∃P:Ending->World->Prop,K4 (Db t) w=P:=⟨_,rfl⟩;rw[hPO];have hln:=Ba (Db t);obtain⟨w1,hw1⟩: ∃w1,w.alloc (.cells #[.pointer p] 26)=w1:=⟨_,rfl⟩;have hb1:Below w.heap.size w w1:=hw1▸Aa _ _;have hx1:Aj w1 w.heap.size 26 #[.pointer p]:=hw1▸Aj.new _ _ _;have HL:=qz (Aak _ t p w1.drew ((ht.below hb1).below (Below.drew (Below.refl _ _))));obtain⟨j0,hj,hy0,hy1,hy2⟩:=info_parts H9;have c0:=hx1.cell 0;have lx:=hx1.lt;obtain⟨HPO,Hb1,Hx1,Hj,Hy0,Hy1,Hy2,Ht⟩:=hid8 hPO hb1 hx1 hj hy0 hy1 hy2 ht;clear hPO hb1 hx1 hj hy0 hy1 hy2 ht;go_enter Tryz.func23,Tryz.ntmps23;go_upto_region 1 with(fail);clear hw1;refine wp_region_held_drew (S:=fun Y:World=>Y.cell? ⟨w.heap.size,0,none⟩=some (.pointer p)) (by kernel_rfl) c0 (fun hHeld=> ?_);refine tkH 0 hHeld ?_;refine tkH 3 hHeld ?_;refine tkH 4 hHeld ?_;refine Ie 1 fun K hK=> ?_;go_simp;(with_reducible refine(HL.out).mono ?_);rintro e w2 ⟨rfl,hb2⟩;have hx2:=Hx1.out.drew.below hb2 Hx1.out.drew.lt;refine hK.out _ _ (hx2.cell 0) (fun hHeld=> ?_);clear hK K
 try simp only[Act.put,tk1,tk2,tk3,tk4,tk5,tk6]
 have hW2:Below w.heap.size w w2:=(Hb1.out.trans ((Below.drew (Below.refl _ w1)).mono Hb1.out.size)).trans (hb2.mono Hb1.out.size);obtain⟨N,hN⟩: ∃N,(Db t).length=N:=⟨_,rfl⟩;rw[hN]at hln ⊢;obtain⟨w3,hrun,hown,hgr⟩:=run_make_own (P:=Tryz.prog) w2 w.heap.size 22 63 j0 _ 7 Tryz.underlying22 Hj.out Hy0.out Hy1.out .i64 .i64 N (by rw[Hy2.out];omega) (by simp only[maxLen];omega) hW2.size;have hx3:=hx2.grown hgr (by simp);have hW3:=hW2.grown hgr hW2.size (fun k hk=>by cases hk);have hz2:=hW2.size;have hz3:=hgr.size;have hrow:A0 (fun i=>w.heap.size<=i) w.heap.size 63 7 w3 (dO []) (.slice (some ⟨w2.heap.size,0,none⟩) 0 N):=⟨[],by simpa[dO]using hown,by simp[dO],fun _ _ _=>by simp[dO,Ag]⟩;have hG:Calls Tryz.prog 51 #[.slice (some ⟨w2.heap.size,0,none⟩) 0 N,.pointer p] w3 (Jn w.heap.size (Db t) (.slice (some ⟨w2.heap.size,0,none⟩) 0 N) w3):=by
  cases t with
  |none=>
   have hp:p=none:=Ht.out;subst hp;exact Zk w.heap.size [] _ w3 hW3.size hrow (by simp[Ae])
  |some t=>
   obtain⟨h',n⟩:=t;obtain⟨l1,l2,l3⟩:=Hz h';obtain⟨b,rfl,hn⟩:=(Ht.out.below hW3);have:=Us w.heap.size n [] _ b w3 hn hW3.size hrow ⟨_,h',l2,l3,ok.1⟩ (by simpa[Ae,Db]using hb);simpa[Db]using this
 refine Ie 2 fun K hK=> ?_;go_simp;refine hK.out _ _ (hx3.cell 0) (fun hHeld=> ?_);clear hK K
 try simp only[Act.put,tk1,tk2,tk3,tk4,tk5,tk6]
 refine Ie 5 fun K hK=> ?_;go_simp;(with_reducible refine(hG).mono ?_);rintro e w4 ⟨hk4,V4,rfl,hr4,hat4⟩;have hx4:Aj w4 w.heap.size 26 #[.pointer p]:=hx3.kb hk4 (fun e=>by have e2:w2.heap.size=w.heap.size:=Option.some.inj e;have:=hx2.lt;omega);have hW4:Below w.heap.size w w4:=hW3.trans (hk4.below (fun k e=>by have e2:w2.heap.size=k:=Option.some.inj e;omega) hW3.size);refine hK.out _ _ (hx4.cell 0) (fun hHeld=> ?_);clear hK K;have HP:Hid (PO (.returned V4) w4):=by
  show PO _ _;rw[<-HPO.out];exact⟨hW4,V4,rfl,hr4⟩
 obtain⟨a4,c4,rfl⟩:=hr4.slice;clear hG hk4 hr4 hat4 hW4 hrow
 try simp only[Act.put,tk1,tk2,tk3,tk4,tk5,tk6]
 refine tkH 6 hHeld ?_;refine wpAnyH_done (by kernel_rfl) ?_ _;clear hHeld;go_wp2;exact HP.out
end Go.Proofs.YtkmcjfkokoidcaaGreatDoor
