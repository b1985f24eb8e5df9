/- Parts: What is of a tree, and of a map, later; values that may be, in lists. Plain. No condition. -/
import Derived.Test.YtnkmhaachfgaoaaGreatDoorKPq29
import Derived.Test.YtnkmhaachfgaoaaGreatDoorKPq30
set_option maxHeartbeats 20000000
set_option maxRecDepth 100000
namespace Go.Proofs.YtnkmhaachfgaoaaGreatDoor
open Go Go.RowKit
theorem Al.reads {S0:Nat->Prop} {b s g n c:Nat} {t:TypeId} {w:World} {l:List D} (h:Al S0 b t s w l (.slice (some ⟨g,0,none⟩) n c)): ∃ns,A5 w (g+1) s (some ⟨g,0,none⟩) n ns/\An (fun i=>S0 i/\(Value.slice (some ⟨g,0,none⟩) n c).ownBlock≠some i) w l ns/\n=l.length:=by
 obtain⟨ns,h1,h2,h3⟩:=h;rcases h1.2 with⟨e,_⟩|⟨g',cap,cur,e,hbg,hg,hnc,hcm,hcs,hcx⟩
 . cases e
 . cases e
   refine⟨ns,⟨h1.1,fun _=>⟨_,rfl,by simp,fun j u hu=> ?_⟩⟩,h3,rfl⟩;rw[A9,Nat.zero_add];have hb:Ah w g t cur:=hg;refine(hb.cell j).trans ?_;rw[<-Array.getElem?_toList];rw[<-hcx]at hu;rw[List.getElem?_take]at hu
   split at hu
   . exact hu
   . cases hu
theorem X9 {ks:List Nd} {b:Nat} {w:World} (h:By w w.heap.size (.inner ks) b):Calls Tryz.prog 75 #[.pointer (some ⟨b,0,none⟩)] w fun e w'=>e=.returned (.slice none 0 0)/\w=w':=by
 simp only[By]at h;obtain⟨_,bs,a,c,_,hx,_⟩:=h;have c1:=hx.cell 0;have lx:=hx.lt;clear hx;go_enter Tryz.func75,Tryz.ntmps75;go_wp2;go_ret;exact⟨rfl,rfl⟩
theorem Aar (w:World):Calls Tryz.prog 120 #[.slice none 0 0] w fun e w'=>e=.returned (.slice none 0 0)/\w=w':=by
 have hnil:=fun(W:World)=>Lib.run_eql_slice_nil (P:=Tryz.prog) W 111 25 none 0 0 0 0 Tryz.underlying111;go_enter Tryz.func120,Tryz.ntmps120;go_wp2;go_ret;exact⟨rfl,rfl⟩
theorem Aas {es:List Ax} {b:Nat} {w:World} (h:By w w.heap.size (.leaf es) b):Calls Tryz.prog 76 #[.pointer (some ⟨b,0,none⟩)] w fun e w'=>e=.returned (.slice none 0 0)/\w=w':=by
 simp only[By]at h;obtain⟨_,a,c,_,hx⟩:=h;have c1:=hx.cell 1;have lx:=hx.lt;have HC:=qz (Aar w);clear hx;go_enter Tryz.func76,Tryz.ntmps76;go_wp2_with (fail);(with_reducible refine(HC.out).mono ?_);rintro e w1 ⟨rfl,rfl⟩;go_wp2;go_ret;exact⟨rfl,rfl⟩
theorem Ac4 (w:World):Calls Tryz.prog 76 #[.pointer none] w fun e w'=>e=.returned (.slice none 0 0)/\w=w':=by
 go_enter Tryz.func76,Tryz.ntmps76;go_wp2;go_ret;exact⟨rfl,rfl⟩
theorem Zz (a b:List Ax):dO (a++b)=dO a++dO b:=by rw[Bi,Bi,Bi,List.map_append]
def J4 (B:Nat) (l:List Ax) (V:Value) (w:World) (e:Ending) (w':World):Prop:=KB (fun i=>V.ownBlock=some i) w w'/\ ∃V',e=.returned V'/\Al (fun i=>B<=i) B 71 7 w' (dO l) V'/\(V'.ownBlock=V.ownBlock\/ ∃g,V'.ownBlock=some g/\w.heap.size<=g)
def GaC (B:Nat) (n:Nd):Prop:= ∀(acc:List Ax) (V:Value) (b:Nat) (w:World),Bj (fun i=>i<B) w n b->B<=w.heap.size->Al (fun i=>B<=i) B 71 7 w (dO acc) V->gd n->Ac acc+Ac (A6 n)<=100000000->
 Calls Tryz.prog 45 #[V,.pointer (some ⟨b,0,none⟩)] w (J4 B (acc++A6 n) V w)
theorem Xh (B:Nat) (es:List Ax):GaC B (.leaf es):=by
 intro acc V b w hn hB hr hg hb;obtain⟨PO,hPO⟩: ∃P:Ending->World->Prop,J4 B (acc++A6 (.leaf es)) V w=P:=⟨_,rfl⟩;rw[hPO];simp only[A6]at hb hPO;have HE:=qz (Ft hn.now hg.leaf (by omega));have hla:=Aw acc;have hle:=Aw es;have hbase:=hr.base;obtain⟨j0,hj,hy0,hy1,hy2⟩:=info_parts Gt;have hLo:Hid ((dO acc).length+es.length<=maxLen/\((dO acc).length+es.length)*104<=140737488355328):=by rw[At];exact⟨by simp only[maxLen];omega,by omega⟩
 obtain⟨aV,cV,rfl⟩:=hr.slice;have Hdl:=qz (At es);obtain⟨HPO,Hn,Hr,Hj,Hy0,Hy1,Hy2,Hbase⟩:=hid8 hPO hn hr hj hy0 hy1 hy2 hbase;clear hPO hn hr hj hy0 hy1 hy2 hbase;go_enter Tryz.func45,Tryz.ntmps45;go_wp2_with (fail);(with_reducible refine(HE.out).mono ?_);rintro e w1 ⟨hb1,g1,rfl,hR1⟩;obtain⟨ns,hrd,hA,hnn⟩:=hR1.reads;clear hnn;have hg1:=hR1.base g1 rfl;have hz1:=hb1.size;have HA':Hid (An (fun i=>B<=i/\(Value.slice aV (dO acc).length cV).ownBlock≠some i) w1 (dO es) ns):=fun w'' k1 k2=>hA w'' k1 fun p p1 p2=>k2 p ⟨by omega,fun e=>by have:=(Hbase.out p.block e).2;omega⟩ p2;have Hr1:=qz (Hr.out.below hb1);obtain⟨Hrd,Hb1⟩:=hid2 hrd hb1;clear hrd hb1;clear hR1 hA;go_wp2_with (at_builtin;apply Shut.out);unfold Shut;refine B8 rfl (.tmp 7) (.tmp 9) 22 rfl Tryz.underlying22 Hj.out Hy0.out Hy1.out Hy2.out rfl (by omega) rfl Hr1.out (by omega) (Dh _) HA'.out rfl Hrd.out Hdl.out.symm hLo.out.1 hLo.out.2 ?_;intro V6 w6 hrow6 hg6 hat6;have hn6:=(Hn.out.below Hb1.out).later hg6.size fun i i1 i2=>hg6.block i i2 fun e=>by have:=(Hbase.out i e.symm).1;omega
 have hK:=Aas hn6.now;have e6:dO acc++dO es=dO (acc++es):=(Zz acc es).symm;rw[e6]at hrow6;have hP:J4 B (acc++es) (.slice aV (dO acc).length cV) w (.returned V6) w6:=by
  refine⟨(KB.of_below Hb1.out).trans (KB.of_grown (S:=fun i=>(Value.slice aV (dO acc).length cV).ownBlock=some i) hg6 fun k e=>e) fun _ _ h=>h,V6,rfl,hrow6, ?_⟩;rcases hat6 with e|e
  . exact .inl e
  . exact .inr ⟨_,e,by omega⟩
 rw[HPO.out]at hP;obtain⟨HP,HK⟩:=hid2 hP hK;clear hK;clear hP hrow6 hg6 hat6 hn6;go_wp2_with (fail);(with_reducible refine(HK.out).mono ?_);rintro e w7 ⟨rfl,rfl⟩;obtain⟨a6,c6,rfl⟩: ∃a6 c6,V6=.slice a6 (dO (acc++es)).length c6:=by
  have h:=HP.out;rw[<-HPO.out]at h;obtain⟨_,V',e,hr,_⟩:=h
  cases e
  exact hr.slice
 go_wp2_with (fail);go_loopw [0,14] (fun V i wr=>V=.slice a6 (dO (acc++es)).length c6/\i=.int .i64 0/\wr=w6) (fun _ _ _=>0)
 case atStart=>exact⟨rfl,rfl,rfl⟩
 case round=>
  obtain⟨rfl,rfl,rfl⟩:=hrel;go_wp2;exact HP.out
def GaI (B:Nat) (acc:List Ax) (ks:List Nd) (V2:Value) (w3:World) (q:Nat) (wr:World) (V:Value):Prop:=KB (fun i=>V2.ownBlock=some i) w3 wr/\Al (fun i=>B<=i) B 71 7 wr (dO (acc++Ap (ks.take q))) V/\(V.ownBlock=V2.ownBlock\/ ∃g,V.ownBlock=some g/\w3.heap.size<=g)
theorem Uw (B:Nat) (ks:List Nd) (IH: ∀k ∈ ks,GaC B k):GaC B (.inner ks):=by
 intro acc V b w hn hB hr hg hb;obtain⟨PO,hPO⟩: ∃P:Ending->World->Prop,J4 B (acc++A6 (.inner ks)) V w=P:=⟨_,rfl⟩;rw[hPO];simp only[A6]at hb hPO;obtain⟨k2,k8,kg⟩:=hg.inner;have hE:=X9 hn.now;have hla:=Aw acc;have hbase:=hr.base;obtain⟨j0,hj,hy0,hy1,hy2⟩:=info_parts Gt;have hLo:Hid ((dO acc).length+0<=maxLen/\((dO acc).length+0)*104<=140737488355328):=by rw[At];exact⟨by simp only[maxLen];omega,by omega⟩
 obtain⟨aV,cV,rfl⟩:=hr.slice;have HX:Hid (An (fun i=>B<=i/\(Value.slice aV (dO acc).length cV).ownBlock≠some i) w [] []):=fun _ _ _=>rfl;have Hrd:Hid (A5 w 0 7 none 0 []):=⟨rfl,fun h=>absurd h (by omega)⟩;obtain⟨HIx,HE,HPO,Hn,Hr,Hj,Hy0,Hy1,Hy2,Hbase,Kg⟩:=hid11 IH hE hPO hn hr hj hy0 hy1 hy2 hbase kg;clear hE hPO hn hr hj hy0 hy1 hy2 hbase kg;clear IH;go_enter Tryz.func45,Tryz.ntmps45;go_wp2_with (fail);(with_reducible refine(HE.out).mono ?_);rintro e w1 ⟨rfl,rfl⟩;go_wp2_with (at_builtin;apply Shut.out);unfold Shut;refine B8 rfl (.tmp 7) (.tmp 9) 22 rfl Tryz.underlying22 Hj.out Hy0.out Hy1.out Hy2.out rfl (by omega) rfl Hr.out (by omega) (fun d hd=>by cases hd) HX.out rfl Hrd.out rfl hLo.out.1 hLo.out.2 ?_;intro V6 w6 hrow6 hg6 hat6;rw[List.append_nil]at hrow6;obtain⟨a6,c6,rfl⟩:=hrow6.slice;have hn6:=Hn.out.later hg6.size fun i i1 i2=>hg6.block i i2 fun e=>by have:=(Hbase.out i e.symm).1;omega
 have HK:=qz (Fu hn6 (by omega) (by omega));have hg6z:=hg6.size;have Hat6:Hid ((Value.slice a6 (dO acc).length c6).ownBlock=(Value.slice aV (dO acc).length cV).ownBlock\/(Value.slice a6 (dO acc).length c6).ownBlock=some w.heap.size):=hat6;have Hg6:Hid (w.grownBy w6 (Value.slice aV (dO acc).length cV).ownBlock):=hg6;obtain⟨Hn6,Hrow6⟩:=hid2 hn6 hrow6;clear hn6 hrow6;go_wp2_with (fail);(with_reducible refine(HK.out).mono ?_);rintro e w7 ⟨bs,hbs,hb7,V7,rfl,hR7⟩;have hkl:=hbs.now.len;obtain⟨gk,ck,rfl,_,hgk,hgk2⟩:=hR7.ptr (by intro e;have:=congrArg List.length e;rw[Av,List.length_nil]at this;omega);rw[Av,hkl];have hcell: ∀i b,bs[i]? =some b->w7.cell? ⟨gk,0+i,none⟩=some (.pointer (some ⟨b,0,none⟩)):=by
  intro i b hi;obtain⟨g',off,e,_,cs,h1,_,h3⟩:=hR7.close.at_ (i:=i) (d:=Se b) (by simp[Ar,hi])
  cases e
  obtain⟨rfl,_⟩:=h1;have:=h3 0 _ rfl;simpa using this
 have Hn7:=qz (hbs.below hb7);have HI0:Hid (GaI B acc ks (.slice a6 (dO acc).length c6) w7 0 w7 (.slice a6 (dO acc).length c6)):=⟨KB.of_below (Below.refl _ _),by simpa[Ap]using Hrow6.out.below hb7,.inl rfl⟩;have Hb6:=qz Hrow6.out.base;have hz7:=hb7.size;obtain⟨Hcell,Hkl,Hb7⟩:=hid3 hcell hkl hb7;clear hcell hkl hb7;clear hbs hR7 HK HE Hrow6 Hn6;go_wp2_with (fail);go_loopw [0,14] (fun V i wr=> ∃q:Nat,i=.int .i64 q/\q<=ks.length/\Hid (GaI B acc ks (.slice a6 (dO acc).length c6) w7 q wr V)) (fun _ i _=>ks.length - (intOf i).toNat)
 case atStart=>exact⟨0,rfl,Nat.zero_le _,HI0⟩
 case round=>
  obtain⟨q,rfl,hq,hI⟩:=hrel;clear HI0;obtain⟨i1,i2,i3⟩:=hI.out;by_cases hlt:q<ks.length
  . obtain⟨k,hk⟩: ∃k,ks[q]? =some k:=⟨_,List.getElem?_eq_getElem hlt⟩;obtain⟨bq,hbq,hkq⟩:=Hn7.out.at_ hk;have hkeep: ∀i,i<B\/i=gk->i<w7.heap.size->wr.heap[i]? =w7.heap[i]? :=fun i h1 h2=>i1.block i h2 fun e=>by
     have:=Hb6.out i e;have:=hgk;omega
    have hz:=i1.size;have s0:wr.cell? ⟨gk,q,none⟩=some (.pointer (some ⟨bq,0,none⟩)):=by
     have h:=(World.cell?_of_block (hkeep gk (.inr rfl) hgk2):wr.cell? ⟨gk,0+q,none⟩=w7.cell? ⟨gk,0+q,none⟩).trans (Hcell.out q bq hbq)
     rwa [Nat.zero_add]at h
    have hkr:=hkq.later hz fun i h1 h2=>hkeep i (.inl h1) h2;have hmem:=List.mem_of_getElem? hk;have hbk:Ac (Ap (ks.take q))+Ac (A6 k)<=Ac (Ap ks):=by
     have e0:ks.drop q=k::ks.drop (q+1):=by
      rw[List.drop_eq_getElem_cons hlt];have h:=List.getElem?_eq_getElem hlt;rw[hk]at h;rw[<-Option.some.inj h]
     have e1:ks=ks.take q++k::ks.drop (q+1):=by rw[<-e0,List.take_append_drop]
     have e2:=congrArg (fun l=>Ac (Ap l)) e1;simp only[A0,Ap,Cu]at e2;omega
    obtain⟨aR,cR,rfl⟩:=i2.slice;have hC:=HIx.out k hmem (acc++Ap (ks.take q)) _ bq wr hkr (by omega) i2 (Kg.out k hmem) (by rw[Cu];omega);have q1:(q:Int)<(ks.length:Int):=by omega
    have q0:(0:Int)<=q:=by omega
    have q2:IntKind.i64.wrap ((q:Int)+1)=((q+1:Nat):Int):=by rw[IntWalk.i64_in _ (by omega)];omega
    have lgk:gk<wr.heap.size:=by omega
    have htk:acc++Ap (ks.take q)++A6 k=acc++Ap (ks.take (q+1)):=by
     rw[List.take_add_one,hk,Option.toList_some,A0,I7,List.append_assoc]
    rw[htk]at hC;obtain⟨HC,I1,I3⟩:=hid3 hC i1 i3;clear hC i1 i3;clear i2 hkr hkq hbq hI hkeep;go_wp2_with (fail);(with_reducible refine(HC.out).mono ?_);rintro e w8 ⟨hk8,V8,rfl,hr8,hat8⟩;have HI8:Hid (GaI B acc ks (.slice a6 (dO acc).length c6) w7 (q+1) w8 V8):=by
     show GaI _ _ _ _ _ _ _ _;refine⟨I1.out.trans hk8 fun k h1 h2=> ?_,hr8, ?_⟩
     . rcases I3.out with e|⟨g,e,h⟩
       . rw[<-e];exact h2
       . rw[e]at h2;have:=Option.some.inj h2;omega
     . rcases hat8 with e|⟨g,e,h⟩
       . rw[e];exact I3.out
       . exact .inr ⟨g,e,by have:=I1.out.size;omega⟩
    obtain⟨a8,c8,rfl⟩:=hr8.slice;clear hk8 hr8 hat8;go_wp2;go_roundw
    case rel=>exact⟨q+1,by go_num,by omega,HI8⟩
    case measure=>simp only[intOf];omega
  . obtain rfl:q=ks.length:=by omega
    rw[List.take_length]at i2;obtain⟨aR,cR,rfl⟩:=i2.slice;have hP:J4 B (acc++Ap ks) (.slice aV (dO acc).length cV) w (.returned (.slice aR (dO (acc++Ap ks)).length cR)) wr:=by
     refine⟨((KB.of_grown (S:=fun i=>(Value.slice aV (dO acc).length cV).ownBlock=some i) Hg6.out fun k e=>e).trans (KB.of_below (S:=fun i=>(Value.slice aV (dO acc).length cV).ownBlock=some i) Hb7.out) fun _ _ h=>h).trans i1 fun k h1 h2=> ?_,_,rfl,i2, ?_⟩
     . rcases Hat6.out with e|e
       . rw[<-e];exact h2
       . rw[e]at h2;have:=Option.some.inj h2;omega
     . rcases i3 with e|⟨g,e,h⟩
       . rw[e];rcases Hat6.out with e|e
         . exact .inl e
         . exact .inr ⟨_,e,by omega⟩
       . exact .inr ⟨g,e,by omega⟩
    rw[HPO.out]at hP;have HP:=qz hP;clear hP i1 i2 i3 hI;have q1: ¬(ks.length:Int)<(ks.length:Int):=by omega
    go_wp2;exact HP.out
theorem Uv (B:Nat): ∀n,GaC B n:=Nd.ind (Xh B) (Uw B)
abbrev Wk:TypeId:=52
theorem An.base {S:Nat->Prop} {w0 w:World} {l:List D} {cs:List Value} (h:An S w0 l cs) (hb:Below w0.heap.size w0 w):An (fun i=>S i/\i<w0.heap.size) w l cs:=fun w'' h1 h2=>
 Af.more (h w'' (Nat.le_trans hb.size h1) fun p p1 p2=>(h2 p ⟨p1,p2⟩ (Nat.lt_of_lt_of_le p2 hb.size)).trans (hb.cell p2)) hb.size
theorem An.mono {S T:Nat->Prop} {w:World} {l:List D} {cs:List Value} (h:An S w l cs) (hST: ∀i,i<w.heap.size->S i->T i):An T w l cs:=fun w'' h1 h2=>h w'' h1 fun p p1 p2=>h2 p (hST _ p2 p1) p2
theorem Al.cut {S0:Nat->Prop} {b s g n c:Nat} {t:TypeId} {w:World} {l:List D} (h:Al S0 b t s w l (.slice (some ⟨g,0,none⟩) n c)) (i:Nat) (hi:i<=l.length):
 ∃n1 n2,A5 w (g+1) s (some ⟨g,0,none⟩) i n1/\A5 w (g+1) s (some ⟨g,i*s,none⟩) (l.length - i) n2/\An (fun j=>S0 j/\(Value.slice (some ⟨g,0,none⟩) n c).ownBlock≠some j) w (l.take i) n1/\An (fun j=>S0 j/\(Value.slice (some ⟨g,0,none⟩) n c).ownBlock≠some j) w (l.drop i) n2:=by
 obtain⟨ns,h1,h2,h3⟩:=h;have hA:=h3.split h2 i;rcases h1.2 with⟨e,_⟩|⟨g',cap,cur,e,hbg,hg,hnc,hcm,hcs,hcx⟩
 . cases e
 . cases e
   have hb:Ah w g t cur:=hg;have hcell: ∀j u,ns[j]? =some u->w.cell? ⟨g,j,none⟩=some u:=fun j u hu=>by
    refine(hb.cell j).trans ?_;rw[<-Array.getElem?_toList];rw[<-hcx,List.getElem?_take]at hu
    split at hu
    . exact hu
    . cases hu
   have hl:=h1.1;have hm:i*s<=l.length*s:=Nat.mul_le_mul_right _ hi;refine⟨ns.take (i*s),ns.drop (i*s),⟨by rw[List.length_take];omega,fun _=>⟨_,rfl,by simp,fun j u hu=> ?_⟩⟩,⟨by rw[List.length_drop,hl,Nat.sub_mul],fun _=>⟨_,rfl,by simp,fun j u hu=> ?_⟩⟩,hA.1,hA.2⟩
   . rw[A9,Nat.zero_add];rw[List.getElem?_take]at hu
     split at hu
     . exact hcell j u hu
     . cases hu
   . rw[A9];rw[List.getElem?_drop]at hu;exact hcell _ u hu
def J6 (S0:Nat->Prop) (b:Nat) (w:World) (M:Nat) (V:Value) (l:List Ax):Prop:=Ah w M Wk #[V]/\Al S0 b 71 7 w (dO l) V/\V.ownBlock≠some M
theorem Af5 (k:ByteArray) (v:Val) (l:List Ax):Bz k v l=l.take (Cy k l)++ [(k,v)]++l.drop (if Bm k l=true then Cy k l+1 else Cy k l):=by
 rw[Ob];by_cases h:Bm k l=true
 . rw[if_pos h,if_pos h];have hlt:Cy k l<l.length:=by
    unfold Bm at h;rcases Nat.lt_or_ge (Cy k l) l.length with h1|h1
    . exact h1
    . rw[List.getElem?_eq_none h1]at h
      cases h
   rw[List.set_eq_take_append_cons_drop,if_pos hlt];simp
 . rw[if_neg h,if_neg h]
def SPb (S:Nat->Prop) (b:Nat) (r:Nd×Option Nd) (w:World) (e:Ending) (w':World):Prop:=Below b w w'/\ ∃b1 q,e=.returned (.tuple #[.pointer (some ⟨b1,0,none⟩),.pointer q])/\Bj (fun i=>S i\/w.heap.size<=i) w' r.1 b1/\Nj (fun i=>S i\/w.heap.size<=i) w' r.2 q
theorem Al.entAt {S0:Nat->Prop} {b g n c q:Nat} {w:World} {l:List Ax} (h:Al S0 b 71 7 w (dO l) (.slice (some ⟨g,0,none⟩) n c)) {k:ByteArray} {v:Val} (hi:l[q]? =some (k,v)):
 ∃k' b' n' t' la ln lc oa on oc,Ag (fun i=>S0 i\/i=g) w (dV v) [.int .i64 k',.bool b',.int .i64 n',.string t',.slice la ln lc,.slice oa on oc]/\w.rangeAt g (q*7) [.string k,.int .i64 k',.bool b',.int .i64 n',.string t',.slice la ln lc,.slice oa on oc]:=by
 have h1:=h.closeIn;obtain⟨kk,bb,nn,tt,ll,oo⟩:=v;obtain⟨g',off,e,hg,la,lc,oa,oc,hv,c0,c1,c2,c3,c4,c5,c6⟩:=F5 h1 hi
 cases e
 rw[Nat.zero_add]at c0 c1 c2 c3 c4 c5 c6;refine⟨_,_,_,_,_,_,_,_,_,_,hv.mono fun i _ hi=>hi.imp id fun e=>(Option.some.inj e).symm,fun j u hj=> ?_⟩
 match j with
 |0=>cases hj;exact c0
 |1=>cases hj;exact c1
 |2=>cases hj;exact c2
 |3=>cases hj;exact c3
 |4=>cases hj;exact c4
 |5=>cases hj;exact c5
 |6=>cases hj;exact c6
 |j+7=>simp at hj
theorem Ve (S:Nat->Prop) (b gl gr:Nat) (l r:List Ax) (w:World) (hl:Al (fun i=>i≠gr) b 71 7 w (dO l) (.slice (some ⟨gl,0,none⟩) l.length l.length)) (hr:Al (fun i=>i≠gl) b 71 7 w (dO r) (.slice (some ⟨gr,0,none⟩) r.length r.length)) (hne:gl≠gr) (hb:b<=w.heap.size)
 (h8:l.length<=8) (hr3:r.length=3) (h4:4<l.length) (ha:Az (l++r)) (hbk:Ac l+Ac r<=100000000):
 Calls Tryz.prog 163 #[.slice (some ⟨gl,0,none⟩) l.length l.length,.slice (some ⟨gr,0,none⟩) r.length r.length,.func (.func 92) #[] #[]] w (SPb S b (Gg l r) w):=by
 obtain⟨PO,hPO⟩: ∃P:Ending->World->Prop,SPb S b (Gg l r) w=P:=⟨_,rfl⟩;rw[hPO];have he:Gg l r=(.leaf (l.take (l.length - 1)),some (.leaf (l.drop (l.length - 1)++r))):=by unfold Gg;rw[if_pos h4,List.dropLast_eq_take]
 obtain⟨M,hM⟩: ∃M,l.length=M+1:=⟨l.length - 1,by omega⟩;rw[show l.length - 1=M from by omega]at he;obtain⟨⟨k,v⟩,hx⟩: ∃v,l[M]? =some v:=⟨_,List.getElem?_eq_getElem (by omega)⟩;obtain⟨k',b',n',t',la,ln,lc,oa,on,oc,hv,r1⟩:=hl.entAt hx;have hdl:l.drop M= [(k,v)]:=by
  rw[List.drop_eq_getElem_cons (by omega),List.drop_of_length_le (by omega)];have:=(List.getElem?_eq_some_iff.1 hx).2;rw[this]
 rw[hdl]at he;have hbk2:Ac ([(k,v)]++r)<=100000000:=by
  have:=(Jn l M).2;rw[hdl]at this;rw[Eg];omega
 have hpw:=List.pairwise_append.1 ha;have hsp:=List.pairwise_append.1 (show Az (l.take M++l.drop M)from by rw[List.take_append_drop];exact hpw.1);have ha2:Az ([(k,v)]++r):=by
  refine List.pairwise_append.2 ⟨List.pairwise_singleton _ _,hpw.2.1,fun x hx' y hy=> ?_⟩;rw[List.mem_singleton.1 hx'];exact hpw.2.2 _ (List.mem_of_getElem? hx) y hy
 have hd1:dO (l.take M)=(dO l).take M:=by rw[Bi,Bi,List.map_take]
 have hl1:Ae w w.heap.size (.row 7 (dO (l.take M))) [.slice (some ⟨gl,0,none⟩) M l.length]:=hd1▸hl.close.cutL (i:=M) (by rw[At];omega) l.length;have hC1:=fun(W:World) (hB:Below w.heap.size w W)=>Dj (fun _=>False) (l.take M) (some ⟨gl,0,none⟩) M l.length W ((hl1.below hB).more hB.size) hsp.1 (by rw[List.length_take];omega) (Nat.le_trans (Jn l M).1 (by omega));rw[hM]at hC1 ⊢;rw[hr3]at hr ⊢;have s0:w.cell? ⟨gl,M*7,none⟩=some (.string k):=by simpa using r1 0 _ rfl
 have s1:=r1 1 _ rfl;have s2:=r1 2 _ rfl;have s3:=r1 3 _ rfl;have s4:=r1 4 _ rfl;have s5:=r1 5 _ rfl;have s6:=r1 6 _ rfl;have y0:(4:Int)<(M:Int)+1:=by omega
 have y1:IntKind.i64.wrap ((M:Int)+1 - 1)=(M:Int):=by rw[IntWalk.i64_in _ (by omega)];omega
 have y2:(M:Int)<(M:Int)+1:=by omega
 have y3:(M:Int)<=(M:Int)+1:=by omega
 have lgl:=(hl.base gl rfl).2;have lgr:=(hr.base gr rfl).2;have hrb:=(hr.base gr rfl).1;obtain⟨Hl,Hr,HC1,HPO,He,Hv⟩:=hid6 hl hr hC1 hPO he hv;clear hl hr hC1 hPO he hv;clear hdl hpw hsp hd1 hl1 r1 hx;go_enter Tryz.func163,Tryz.ntmps163;go_upto_region 3 with(fail);refine wp_region_held_drew (S:=fun Y:World=>Y.cell? ⟨gl,M*7,none⟩=some (.string k)/\Y.cell? ⟨gl,M*7+1,none⟩=some (.int .i64 k')/\Y.cell? ⟨gl,M*7+2,none⟩=some (.bool b')/\Y.cell? ⟨gl,M*7+3,none⟩=some (.int .i64 n')/\Y.cell? ⟨gl,M*7+4,none⟩=some (.string t')/\Y.cell? ⟨gl,M*7+5,none⟩=some (.slice la ln lc)/\Y.cell? ⟨gl,M*7+6,none⟩=some (.slice oa on oc)) (by kernel_rfl) ⟨s0,s1,s2,s3,s4,s5,s6⟩ (fun hHeld=> ?_);have hbd:Below w.heap.size w w.drew:=Below.drew (Below.refl _ w);generalize w.drew=wd at hbd hHeld ⊢;refine tkH 0 hHeld ?_;refine tkH 1 hHeld ?_;refine tkH 2 hHeld ?_;refine tkH 3 hHeld ?_;refine tkH 5 hHeld ?_;refine tkH 6 hHeld ?_;refine tkH 7 hHeld ?_;refine tkH 8 hHeld ?_;refine tkH 9 hHeld ?_;refine tkH 10 hHeld ?_;have hS: ∀(W:World),Below w.heap.size w W->W.cell? ⟨gl,M*7,none⟩=some (.string k)/\W.cell? ⟨gl,M*7+1,none⟩=some (.int .i64 k')/\W.cell? ⟨gl,M*7+2,none⟩=some (.bool b')/\W.cell? ⟨gl,M*7+3,none⟩=some (.int .i64 n')/\W.cell? ⟨gl,M*7+4,none⟩=some (.string t')/\W.cell? ⟨gl,M*7+5,none⟩=some (.slice la ln lc)/\W.cell? ⟨gl,M*7+6,none⟩=some (.slice oa on oc):=fun W hB=>by
  have hc: ∀o,W.cell? ⟨gl,o,none⟩=w.cell? ⟨gl,o,none⟩:=fun o=>hB.cell (p:=⟨gl,o,none⟩) lgl;exact⟨(hc _).trans s0,(hc _).trans s1,(hc _).trans s2,(hc _).trans s3,(hc _).trans s4,(hc _).trans s5,(hc _).trans s6⟩
 obtain⟨HS,Hbd⟩:=hid2 hS hbd;clear hS hbd;refine rd2 4 11 (fun K hK=> ?gA) (fun K hK=> ?gB)
 case' gA=>
  go_simp;(with_reducible refine(HC1.out _ Hbd.out).mono ?_);rintro e w1 ⟨hb1,b1,rfl,hN1⟩;have hw1:=Hbd.out.trans (hb1.mono Hbd.out.size);refine hK.out _ _ (HS.out _ hw1) (fun hHeld=> ?_);clear hK K hb1
  try simp only[Act.put,tk1,tk2,tk3,tk4,tk5,tk6]
  have hb2:=Aa w1 (.cells #[.string k,.int .i64 k',.bool b',.int .i64 n',.string t',.slice la ln lc,.slice oa on oc] 71);have HX:=qz (Ah.new w1 71 #[.string k,.int .i64 k',.bool b',.int .i64 n',.string t',.slice la ln lc,.slice oa on oc]);have Hw2:=qz (hw1.trans (hb2.mono hw1.size));have HN2:=qz ((hN1.below hb2).mono (T:=fun i=>w.heap.size<=i) fun i _ hi=>hi.elim False.elim fun h=>Nat.le_trans Hbd.out.size h);have Hvb:=qz hw1.size;clear hb2 hw1 hN1;refine C4 11 fun K hK=> ?_;go_simp;refine hK.out _ _ (HS.out _ Hw2.out) (fun hHeld=> ?_);clear hK K
  try simp only[Act.put,tk1,tk2,tk3,tk4,tk5,tk6]
  generalize w1.heap.size=vb at HX Hvb ⊢;generalize w1.alloc (.cells #[.string k,.int .i64 k',.bool b',.int .i64 n',.string t',.slice la ln lc,.slice oa on oc] 71)=W at HX Hw2 HN2 hHeld ⊢
 case' gB=>
  go_simp;have hb2:=Aa wd (.cells #[.string k,.int .i64 k',.bool b',.int .i64 n',.string t',.slice la ln lc,.slice oa on oc] 71);have hX:=Ah.new wd 71 #[.string k,.int .i64 k',.bool b',.int .i64 n',.string t',.slice la ln lc,.slice oa on oc];have hw1:=Hbd.out.trans (hb2.mono Hbd.out.size);have hvb:w.heap.size<=wd.heap.size:=Hbd.out.size;refine hK.out _ _ (HS.out _ hw1) (fun hHeld=> ?_);clear hK K hb2
  try simp only[Act.put,tk1,tk2,tk3,tk4,tk5,tk6]
  refine C4 4 fun K hK=> ?_;go_simp;(with_reducible refine(HC1.out _ hw1).mono ?_);rintro e W ⟨hb1,b1,rfl,hN1⟩;have Hw2:=qz (hw1.trans (hb1.mono hw1.size));have HX:=qz (hX.below hb1 hX.lt);have HN2:=qz (hN1.mono (T:=fun i=>w.heap.size<=i) fun i _ hi=>hi.elim False.elim fun h=>Nat.le_trans hw1.size h);have Hvb:=qz hvb;clear hvb;clear hb1 hw1 hN1;refine hK.out _ _ (HS.out _ Hw2.out) (fun hHeld=> ?_);clear hK K
  try simp only[Act.put,tk1,tk2,tk3,tk4,tk5,tk6]
  generalize wd.heap.size=vb at HX Hvb ⊢
 all_goals
  clear HC1 Hbd;have hv2:Ag (fun i=>True/\(Value.slice (some ⟨gr,0,none⟩) r.length r.length).ownBlock≠some i) W (dP (k,v)) (.string k:: [.int .i64 k',.bool b',.int .i64 n',.string t',.slice la ln lc,.slice oa on oc]):=fun w'' q1 q2=>
   Nr ((Hv.out.below Hw2.out) w'' q1 fun p p1 p2=>q2 p ⟨trivial,fun e=>by
    have e2:gr=p.block:=Option.some.inj e;rcases p1 with p1|p1
    . exact p1 e2.symm
    . omega⟩ p2)
  have hrW:=(Hr.out.below Hw2.out).mono (T0:=fun _=>True) fun _ _=>trivial;rw[<-hr3]at hrW;have hI:=Xv b W gr 0 vb r (dP (k,v)) (.string k:: [.int .i64 k',.bool b',.int .i64 n',.string t',.slice la ln lc,.slice oa on oc]) hrW (Nat.le_trans hb Hw2.out.size) (Nat.zero_le _) (by omega) (Dr _) hv2 (fun j u hj=>(HX.out.cell j).trans (by rw[<-Array.getElem?_toList];exact hj));rw[hr3,show((0:Nat):Int)=0 from rfl]at hI;have hgW:gr<W.heap.size:=Nat.lt_of_lt_of_le lgr Hw2.out.size;have HI:=qz hI;clear hI;clear hv2 hrW HX;refine C4 12 fun K hK=> ?_;go_simp;(with_reducible refine(HI.out).mono ?_);rintro e W2 ⟨V2,rfl,hr2,hg2⟩;have HBb:Hid (Below b w W2):=(Hw2.out.mono hb).grown hg2 (Nat.le_trans hb Hw2.out.size) (fun j hj=>by cases hj;exact(hrb));have e2:(dO r).take 0++ [dP (k,v)]++(dO r).drop 0=dO ([(k,v)]++r):=by simp[dO]
  rw[e2]at hr2;have l2:(dO ([(k,v)]++r)).length=4:=by rw[At];simp[hr3]
  obtain⟨a2,c2,rfl⟩:=hr2.slice_n l2;have HC2:=qz (Dj (fun _=>False) ([(k,v)]++r) a2 4 c2 W2 hr2.close ha2 (by simp[hr3]) hbk2);have HN3:=qz (HN2.out.later hg2.size fun i h1 h2=>hg2.block i h2 (fun e=>by have:=Option.some.inj e;omega));have hcl: ∀o,W2.cell? ⟨gl,o,none⟩=W.cell? ⟨gl,o,none⟩:=fun o=>World.cell?_of_block (hg2.block gl (Nat.lt_of_lt_of_le lgl Hw2.out.size) (fun e=>hne (Option.some.inj e)));have hzW:=hg2.size;have hzw:=Hw2.out.size;refine hK.out _ _ (by
   obtain⟨a0,a1,a2,a3,a4,a5,a6⟩:=hHeld;exact⟨(hcl _).trans a0,(hcl _).trans a1,(hcl _).trans a2,(hcl _).trans a3,(hcl _).trans a4,(hcl _).trans a5,(hcl _).trans a6⟩) (fun hHeld=> ?_)
  clear hK K hr2 hg2 e2 l2 HI hcl
  try simp only[Act.put,tk1,tk2,tk3,tk4,tk5,tk6]
  refine C4 13 fun K hK=> ?_;go_simp;(with_reducible refine(HC2.out).mono ?_);rintro e W3 ⟨hb3,b3,rfl,hN4⟩;have HP:Hid (PO (.returned (.tuple #[.pointer (some ⟨b1,0,none⟩),.pointer (some ⟨b3,0,none⟩)])) W3):=by
   show PO _ _;rw[<-HPO.out,He.out];exact⟨HBb.out.trans (hb3.mono (Nat.le_trans (Nat.le_trans hb hzw) hzW)),b1,_,rfl,(HN3.out.below hb3).mono (fun i _ h=> .inr h),b3,rfl,hN4.mono fun i _ h=> .inr (h.elim False.elim fun h=>Nat.le_trans (Nat.le_trans hzw hzW) h)⟩
  refine hK.out _ _ (by
   have hcl: ∀o,W3.cell? ⟨gl,o,none⟩=W2.cell? ⟨gl,o,none⟩:=fun o=>hb3.cell (p:=⟨gl,o,none⟩) (by show gl<_;omega);obtain⟨a0,a1,a2,a3,a4,a5,a6⟩:=hHeld;exact⟨(hcl _).trans a0,(hcl _).trans a1,(hcl _).trans a2,(hcl _).trans a3,(hcl _).trans a4,(hcl _).trans a5,(hcl _).trans a6⟩) (fun hHeld=> ?_)
  clear hK K hb3 hN4
  try simp only[Act.put,tk1,tk2,tk3,tk4,tk5,tk6]
  refine tkH 14 hHeld ?_;refine tkH 15 hHeld ?_;refine wpAnyH_done (by kernel_rfl) ?_ _;clear hHeld;go_wp2;exact HP.out
theorem Uc (v:Val):Fy.bulk<=v.bulk:=by
 have h1:Fy.bulk=6:=by decide
 have:=v.bulk_pos;omega
theorem Qr (a b:List Ax):Bo ((Bq a b).map Cj)<=2*(Ac a+Ac b):=by
 fun_induction Bq a b with
 |case1=>simp[Bo]
 |case2 k v s ih=>simp only[List.map_cons,Cj,Bo,Ac,Dg]at ih ⊢;have:=v.bulk_pos;omega
 |case3 k v r ih=>simp only[List.map_cons,Cj,Bo,Ac,Dg]at ih ⊢;have:=Uc v;omega
 |case4 a x r b y s h ih=>simp only[List.map_cons,Cj,Bo,Ac,Dg]at ih ⊢;have:=Uc x;omega
 |case5 a x r b y s h h2 ih=>simp only[List.map_cons,Cj,Bo,Ac,Dg]at ih ⊢;have:=y.bulk_pos;omega
 |case6 a x r b y s h h2 h3 ih=>simp only[Ac,Dg]at ih ⊢;omega
 |case7 a x r b y s h h2 h3 ih=>
  obtain rfl:a=b:=by
   rcases Fb a b with c|c|c
   . exact absurd c h
   . exact c
   . exact absurd c h2
  simp only[List.map_cons,Cj,Bo,Ac,Dg]at ih ⊢;have:=y.bulk_pos;omega
theorem Aa1 (b:List Ax):Bo (B5 b)<=10+2*Ac b:=by
 have h:Bo (b.map fun e=>(⟨1,e.1,e.2⟩:POp))<=2*Ac b:=by
  induction b with
  |nil=>simp[Bo]
  |cons e r ih=>
   obtain⟨k,v⟩:=e;simp only[List.map_cons,Bo,Ac,Dg]at ih ⊢;have:=v.bulk_pos;omega
 have h1:Fy.bulk=6:=by decide
 unfold B5;simp only[Bo];have:ByteArray.size ⟨#[]⟩=0:=rfl;omega
theorem Ko {t:Option (Nat×Nd)} (h:M5 t):Az (Ba t):=by
 match t,h with
 |none,_=>exact List.Pairwise.nil
 |some (_,_),h=>exact h.2
theorem J6.later {b:Nat} {w w':World} {M:Nat} {V:Value} {l:List Ax} {S0:Nat->Prop} (h:J6 S0 b w M V l) (hb:Below w.heap.size w w'): ∃a c,w'.cell? ⟨M,0,none⟩=some (.slice a l.length c)/\Ag (fun i=>i<w.heap.size) w' (.row 7 (dO l)) [.slice a l.length c]/\M<w.heap.size:=by
 obtain⟨h1,h2,_⟩:=h;obtain⟨a,c,rfl⟩:=h2.slice_n (At l);refine⟨a,c,(hb.cell (p:=⟨M,0,none⟩) h1.lt).trans (h1.cell 0), ?_,h1.lt⟩;have h3:Ag (fun i=>i<w.heap.size) w (.row 7 (dO l)) [.slice a l.length c]:=Ag.of_old h2.close (Nat.le_refl _) (Below.refl _ _);exact h3.below hb
theorem Ae6 {l:List Ax} (h: ∀e ∈ l,M4 e.2):J2 l:=by
 induction l with
 |nil=>trivial
 |cons x r ih=>
  obtain⟨k,v⟩:=x;exact⟨h (k,v) (by simp),ih fun e he=>h e (by simp[he])⟩
theorem Ae7 {k:ByteArray} {v:Val} {l:List Ax} (hv:M4 v) (hl:J2 l):J2 (Bz k v l):=Ae6 fun e he=>by
 rcases Rw he with rfl|h
 . exact hv
 . exact I9 hl h
theorem Xq: ∀(es l:List Ax),J2 es->J2 l->J2 (es.foldl (fun l e=>Bz e.1 e.2 l) l)
 | [],_,_,h=>h
 |e::r,l,h,hl=>Xq r (Bz e.1 e.2 l) (Ae6 fun x hx=>I9 h (by simp[hx])) (Ae7 (I9 h (by simp)) hl)
theorem Js {es:List Ax} (h:J2 es):J2 (Jd es):=Xq es [] h trivial
theorem Xr:M4 Fy:=by simp[M4,U0,J2]
theorem U1 {a b:List Ax} (hb:J2 b):inQ ((Bq a b).map Cj):=by
 intro p hp;obtain⟨c,hc,rfl⟩:=List.mem_map.1 hp;obtain⟨k,was,is⟩:=c
 cases is with
 |none=>exact Xr
 |some v=>
  rcases Mr _ a b (Nat.le_refl _) _ hc v rfl with h|⟨x,_,e,he,h,_⟩
  . exact I9 hb h
  . exact h▸I9 hb he
theorem Acw {b:List Ax} (hb:J2 b):inQ (B5 b):=by
 intro p hp;rcases List.mem_cons.1 hp with rfl|hp
 . exact Xr
 . obtain⟨e,he,rfl⟩:=List.mem_map.1 hp;exact I9 hb he
end Go.Proofs.YtnkmhaachfgaoaaGreatDoor
