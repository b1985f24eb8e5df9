/- Parts: commonplaceref09.Changes: the document's changes of two lists of entries. Condition: a bulk of at most 10^7. -/
import Derived.Test.YtdbejcbbhomdbaaGreatDoorKPu39
set_option maxHeartbeats 20000000
set_option maxRecDepth 100000
namespace Go.Proofs.YtdbejcbbhomdbaaGreatDoor
open Go Go.RowKit
def Up (D:Nat->Prop) (o:Option Val) (w:World) (e:Ending) (w':World):Prop:=Below w.heap.size w w'/\ ∃k' b' n' t' la ln lc oa on oc,e=.returned (.tuple #[.agg #[.int .i64 k',.bool b',.int .i64 n',.string t',.slice la ln lc,.slice oa on oc],.bool o.isSome])/\C0 D w' o [.int .i64 k',.bool b',.int .i64 n',.string t',.slice la ln lc,.slice oa on oc]
theorem Vb {w1:World} {R:Nat} {x0 x1 x2 x3 x4 x5:Value} (hR:Ao w1 R 33 #[x0,x1,x2,x3,x4,x5]) (v0 v1 v2 v3 v4 v5:Value):
 Ao ((((((w1.setCell ⟨R,0,none⟩ v0).setCell ⟨R,1,none⟩ v1).setCell ⟨R,2,none⟩ v2).setCell ⟨R,3,none⟩ v3).setCell ⟨R,4,none⟩ v4).setCell ⟨R,5,none⟩ v5) R 33 #[v0,v1,v2,v3,v4,v5]:=(((((hR.set_ 0 v0).set_ 1 v1).set_ 2 v2).set_ 3 v3).set_ 4 v4).set_ 5 v5
theorem Pg {w w1:World} {R:Nat} (h:Below w.heap.size w w1) (hR:w.heap.size<=R) (v0 v1 v2 v3 v4 v5:Value):
 Below w.heap.size w ((((((w1.setCell ⟨R,0,none⟩ v0).setCell ⟨R,1,none⟩ v1).setCell ⟨R,2,none⟩ v2).setCell ⟨R,3,none⟩ v3).setCell ⟨R,4,none⟩ v4).setCell ⟨R,5,none⟩ v5):=Bf [v0,v1,v2,v3,v4,v5] h hR (o:=0)
theorem Mn (k:ByteArray) (l:List A0) (D:Nat->Prop) (a:Option Addr) (n c:Nat) (w:World) (h:Ag D w (.row 7 (dO l)) [.slice a n c]) (_hD: ∀i,D i->i<w.heap.size) (hl:l.length<=100000000):
 Calls Tryz.prog 92 #[.slice a n c,.string k] w (Up D (Bh k l) w):=by
 obtain⟨PO,hPO⟩: ∃P:Ending->World->Prop,Up D (Bh k l) w=P:=⟨_,rfl⟩;rw[hPO];have hn:=h.now.row_len;rw[Az]at hn;subst hn;obtain⟨w1,hw1⟩: ∃w1,w.alloc (.cells Cc 33)=w1:=⟨_,rfl⟩;have Hb1:Hid (Below w.heap.size w w1):=hw1▸Ac _ _;have hR1:Ao w1 w.heap.size 33 Cc:=hw1▸Ao.new _ _ _;obtain⟨z0,z1,z2,z3,z4,z5⟩:=Co hR1;have fz:=hR1.frozen;have lx:=hR1.lt;have H0:Hid (Bh k l=Bh k (l.drop 0)):=by show _=_;simp
 obtain⟨H,HPO,HR1⟩:=hid3 h hPO hR1;clear h hPO hR1;go_enter Tryz.func92,Tryz.ntmps92;go_wp2_with (fail);go_loopw [6] (fun i wr=> ∃q:Nat,i=.int .i64 q/\q<=l.length/\wr=w1/\Hid (Bh k l=Bh k (l.drop q))) (fun i _=>l.length - (intOf i).toNat)
 case atStart=>exact⟨0,rfl,Nat.zero_le _,by first|rfl|trivial,H0⟩
 case round=>
  obtain⟨q,rfl,hq,hwr,hI⟩:=hrel;obtain rfl:=hwr.symm;clear H0;by_cases hlt:q<l.length
  . obtain⟨⟨key,⟨k',b',n',t',l',o'⟩⟩,hx⟩: ∃v,l[q]? =some v:=⟨_,List.getElem?_eq_getElem hlt⟩;obtain⟨g,off,rfl,hg,la,lc,oa,oc,hv,d0,d1,d2,d3,d4,d5,d6⟩:=Hu H.out hx;obtain⟨c0,c1,c2,c3,c4,c5,c6⟩:w1.cell? ⟨g,off+q*7,none⟩=some (.string key)/\w1.cell? ⟨g,off+q*7+1,none⟩=some (.int .i64 k')/\w1.cell? ⟨g,off+q*7+2,none⟩=some (.bool b')/\w1.cell? ⟨g,off+q*7+3,none⟩=some (.int .i64 n')/\w1.cell? ⟨g,off+q*7+4,none⟩=some (.string t')/\w1.cell? ⟨g,off+q*7+5,none⟩=some (.slice la l'.length lc)/\w1.cell? ⟨g,off+q*7+6,none⟩=some (.slice oa o'.length oc):=⟨(Hb1.out.cell hg).trans d0,(Hb1.out.cell hg).trans d1,(Hb1.out.cell hg).trans d2,(Hb1.out.cell hg).trans d3,(Hb1.out.cell hg).trans d4,(Hb1.out.cell hg).trans d5,(Hb1.out.cell hg).trans d6⟩;have hgr:g<w1.heap.size:=by have:=Hb1.out.size;omega
    have hdr:l.drop q=(key,.mk k' b' n' t' l' o')::l.drop (q+1):=by
     rw[List.drop_eq_getElem_cons hlt];have h:=List.getElem?_eq_getElem hlt;rw[hx]at h;rw[<-Option.some.inj h]
    have q1:(q:Int)<(l.length:Int):=by omega
    have q0:(0:Int)<=q:=by omega
    by_cases hk:key=k
    . subst hk;have hke:(key.toList==key.toList)=true:=by simp
      have hB:=Pg (R:=w.heap.size) Hb1.out (Nat.le_refl _) (.int .i64 k') (.bool b') (.int .i64 n') (.string t') (.slice la l'.length lc) (.slice oa o'.length oc);have HS:=qz (Vb HR1.out (.int .i64 k') (.bool b') (.int .i64 n') (.string t') (.slice la l'.length lc) (.slice oa o'.length oc));have HP:Hid (PO (.returned (.tuple #[.agg #[.int .i64 k',.bool b',.int .i64 n',.string t',.slice la l'.length lc,.slice oa o'.length oc],.bool true])) ((((((w1.setCell ⟨w.heap.size,0,none⟩ (.int .i64 k')).setCell ⟨w.heap.size,1,none⟩ (.bool b')).setCell ⟨w.heap.size,2,none⟩ (.int .i64 n')).setCell ⟨w.heap.size,3,none⟩ (.string t')).setCell ⟨w.heap.size,4,none⟩ (.slice la l'.length lc)).setCell ⟨w.heap.size,5,none⟩ (.slice oa o'.length oc))):=by
       show PO _ _;rw[<-HPO.out];have e1:Bh key l=some (.mk k' b' n' t' l' o'):=by rw[hI.out,hdr,Bh,if_pos rfl]
       rw[e1];exact⟨hB,_,_,_,_,_,_,_,_,_,_,rfl,Ag.below (S:=D) hv hB⟩
      clear hB hI hdr hv d0 d1 d2 d3 d4 d5 d6 hx;go_wp2;exact bodyPost_ret (Dq rfl rfl HS.out) rfl HP.out
    . have hke:(key.toList==k.toList)=false:=by
       refine beq_eq_false_iff_ne.2 fun e=>hk (Du e)
      have HN:Hid (Bh k l=Bh k (l.drop (q+1))):=by
       show _=_;rw[hI.out,hdr,Bh,if_neg hk]
      clear hI hdr hv d0 d1 d2 d3 d4 d5 d6 hx hk;go_wp2;go_roundw
      case rel=>exact⟨q+1,by go_num,by omega,by first|rfl|trivial,HN⟩
      case measure=>simp only[intOf];omega
  . obtain rfl:q=l.length:=by omega
    have hB:=Pg (R:=w.heap.size) Hb1.out (Nat.le_refl _) (.int .i64 0) (.bool false) (.int .i64 0) (.string ⟨#[]⟩) (.slice none 0 0) (.slice none 0 0);have hS:=Vb HR1.out (.int .i64 0) (.bool false) (.int .i64 0) (.string ⟨#[]⟩) (.slice none 0 0) (.slice none 0 0);have HP:Hid (PO (.returned (.tuple #[.agg #[.int .i64 0,.bool false,.int .i64 0,.string ⟨#[]⟩,.slice none 0 0,.slice none 0 0],.bool false])) ((((((w1.setCell ⟨w.heap.size,0,none⟩ (.int .i64 0)).setCell ⟨w.heap.size,1,none⟩ (.bool false)).setCell ⟨w.heap.size,2,none⟩ (.int .i64 0)).setCell ⟨w.heap.size,3,none⟩ (.string ⟨#[]⟩)).setCell ⟨w.heap.size,4,none⟩ (.slice none 0 0)).setCell ⟨w.heap.size,5,none⟩ (.slice none 0 0))):=by
     show PO _ _;rw[<-HPO.out];have e1:Bh k l=none:=by rw[hI.out,List.drop_length];rfl
     rw[e1];exact⟨hB,_,_,_,_,_,_,_,_,_,_,rfl,rfl⟩
    have q1: ¬(l.length:Int)<(l.length:Int):=by omega
    have HS:=qz hS;clear hS;clear hB hI;go_wp2;exact bodyPost_ret (Dq rfl rfl HS.out) rfl HP.out
def dC (x:Lv):D:=.agg [.leaf (.string x.1),.leaf (.bool x.2.1.isSome),dV (x.2.1.getD A6),.leaf (.bool x.2.2.isSome),dV (x.2.2.getD A6)]
def Ss (l:List Lv):List D:=l.map dC
theorem Q8 (x:Lv):(dC x).cells=15:=by simp only[dC,D.cells,Fg,Cr]
theorem Uv (l:List Lv):(Ss l).length=l.length:=List.length_map ..
theorem Q9 (l:List Lv) (x:Lv):Ss (l++ [x])=Ss l++ [dC x]:=by simp[Ss]
theorem C0.getD {D:Nat->Prop} {A:World} {o:Option Val} {cs:List Value} (h:C0 D A o cs):Ag D A (dV (o.getD A6)) cs:=by
 cases o with
 |none=>
  have e:cs=Kj:=h;subst e;exact fun _ _ _=>Dv _ _
 |some v=>exact h
theorem Aao {D:Nat->Prop} {A:World} {key:ByteArray} {oa ob:Option Val} {c1 c2:List Value} (h1:C0 D A oa c1) (h2:C0 D A ob c2):Ag D A (dC (key,oa,ob)) ([.string key,.bool oa.isSome]++c1++ [.bool ob.isSome]++c2):=fun w'' q1 q2=>
 ⟨[.string key], [.bool oa.isSome]++(c1++([.bool ob.isSome]++c2)),by simp only[List.append_assoc,List.cons_append,List.nil_append],⟨rfl,rfl⟩, [.bool oa.isSome],c1++([.bool ob.isSome]++c2),rfl,⟨rfl,rfl⟩,c1, [.bool ob.isSome]++c2,rfl,h1.getD w'' q1 q2, [.bool ob.isSome],c2,rfl,⟨rfl,rfl⟩,c2, [],(List.append_nil _).symm,h2.getD w'' q1 q2,rfl⟩
theorem Xp:(Tryz.prog.info? L3).map (fun i=>(i.zero,i.size,i.bytes))=some (some (.agg Jv),15,208):=by kernel_rfl
theorem Kf (l:List ByteArray): ∀u:List A0,(l.foldl (fun u k=>A7 k A6 u) u).length<=u.length+l.length:=by
 induction l with
 |nil=>intro u;simp
 |cons k r ih=>
  intro u;have h1:=ih (A7 k A6 u);have h2:=(Fk (k:=k) (v:=A6) u).1;simp only[List.foldl_cons,List.length_cons];omega
theorem Wp {x y:Option Val} (h:x.isSome=y.isSome):Oc x y=Bt (x.getD A6) (y.getD A6):=by
 cases x<;>cases y<;>simp_all[Oc,Pf]
theorem Aag {x y:Option Val} (h: ¬x.isSome=y.isSome):Oc x y=false:=by
 cases x<;>cases y<;>simp_all[Oc]
theorem Ox {k:ByteArray} {l:List A0}:((Bh k l).getD A6).bulk<=Af l+100:=by
 induction l with
 |nil=>simp only[Bh,Option.getD_none];decide
 |cons e r ih=>
  obtain⟨a,x⟩:=e;simp only[Bh]
  split
  . simp only[Af,Cp,Option.getD_some];omega
  . simp only[Af];omega
def RkI (w:World) (u:List A0) (wr:World):Prop:=Below w.heap.size w wr/\ ∃V,Sy (fun i=>i<w.heap.size) w.heap.size wr w.heap.size V u
def RcI (D:Nat->Prop) (a b:List A0) (_w w2:World) (q:Nat) (wr:World) (V:Value):Prop:=Below w2.heap.size w2 wr/\An D w2.heap.size L3 15 wr (Ss (((F3 a b).take q).filterMap (E4 a b))) V
def Qt (D:Nat->Prop) (l:List Lv) (w:World) (e:Ending) (w':World):Prop:=Below w.heap.size w w'/\ ∃V,e=.returned V/\An D w.heap.size L3 15 w' (Ss l) V
theorem Nb (a b:List A0) (D:Nat->Prop) (sa sb:Option Addr) (na ca nb cb:Nat) (w:World) (ha:Ag D w (.row 7 (dO a)) [.slice sa na ca]) (hb:Ag D w (.row 7 (dO b)) [.slice sb nb cb]) (hD: ∀i,D i->i<w.heap.size) (aa:Bb a) (ab:Bb b) (ba:Af a<=50000000) (bb:Af b<=50000000):
 Calls Tryz.prog 55 #[.slice sa na ca,.slice sb nb cb] w (Qt D (Bx a b) w):=by
 obtain⟨PO,hPO⟩: ∃P:Ending->World->Prop,Qt D (Bx a b) w=P:=⟨_,rfl⟩;rw[hPO];have hn:=ha.now.row_len;rw[Az]at hn;subst hn;have hn:=hb.now.row_len;rw[Az]at hn;subst hn;have la:=Aw a;have lb:=Aw b;have Hkeys:=qz (Vu aa ab A6);have HI0:Hid (RkI w (((a.map (·.1)).take 0).foldl (fun u k=>A7 k A6 u) []) (w.alloc (.cells #[.slice none 0 0] Xd))):=⟨Ac _ _,_,Ao.new _ _ _,by simpa[dO]using An.nil (fun i=>i<w.heap.size) w.heap.size 84 7 (w.alloc (.cells #[.slice none 0 0] Xd)),fun e=>by cases e⟩;obtain⟨j0,hj,hy0,hy1,hy2⟩:=info_parts Xp;obtain⟨Ha,Hb,HPO,Hj,Hy0,Hy1,Hy2,Aa,Ab⟩:=hid9 ha hb hPO hj hy0 hy1 hy2 aa ab;clear ha hb hPO hj hy0 hy1 hy2 aa ab;go_enter Tryz.func55,Tryz.ntmps55;go_wp2_with (fail);go_loopw [6] (fun i wr=> ∃q:Nat,i=.int .i64 q/\q<=a.length/\Hid (RkI w (((a.map (·.1)).take q).foldl (fun u k=>A7 k A6 u) []) wr)) (fun i _=>a.length - (intOf i).toNat)
 case atStart=>exact⟨0,rfl,Nat.zero_le _,HI0⟩
 case round=>
  obtain⟨q,rfl,hq,hI⟩:=hrel;clear HI0;obtain⟨hbw,V,hM⟩:=hI.out;by_cases hlt:q<a.length
  . obtain⟨⟨key,x⟩,hx⟩: ∃v,a[q]? =some v:=⟨_,List.getElem?_eq_getElem hlt⟩;obtain⟨g,off,rfl,hg,u1,u2,u3,u4,u5,u6,_,r1⟩:=Bz Ha.out.now hx;have s0:=(hbw.cell (p:=⟨g,off+q*7,none⟩) hg).trans (by simpa using r1 0 _ rfl);have hz:=hbw.size;have hgr:g<wr.heap.size:=by omega
    have htk:(((a.map (·.1)).take (q+1)).foldl (fun u k=>A7 k A6 u) [])=A7 key A6 (((a.map (·.1)).take q).foldl (fun u k=>A7 k A6 u) []):=by
     rw[List.take_add_one,List.getElem?_map,hx];simp
    have hpl:=Kf ((a.map (·.1)).take q) [];have hC:=Jn (fun i=>i<w.heap.size) w.heap.size (((a.map (·.1)).take q).foldl (fun u k=>A7 k A6 u) []) w.heap.size V key A6 0 false 0 ⟨#[]⟩ none 0 0 none 0 0 wr hM hz (fun _ _ _=>Dv _ _) (by rw[List.length_take,List.length_map]at hpl;simp only[List.length_nil]at hpl;omega) (by omega);rw[<-htk]at hC;have q1:(q:Int)<(a.length:Int):=by omega
    have q0:(0:Int)<=q:=by omega
    obtain⟨HC,Hbw⟩:=hid2 hC hbw;clear hC hbw;clear hI hM htk hx r1 hpl;go_wp2_with (fail);(with_reducible refine(HC.out).mono ?_);rintro e wq ⟨rfl,hk2,V2,hM2⟩;have HI2:Hid (RkI w (((a.map (·.1)).take (q+1)).foldl (fun u k=>A7 k A6 u) []) wq):=⟨Hbw.out.trans (hk2.below (fun k h=>by subst h;exact Nat.le_refl _) hz),V2,hM2⟩;clear hk2 hM2;go_wp2;go_roundw
    case rel=>exact⟨q+1,by go_num,by omega,HI2⟩
    case measure=>simp only[intOf];omega
  . obtain rfl:q=a.length:=by omega
    have q1: ¬(a.length:Int)<(a.length:Int):=by omega
    have hfull:((a.map (·.1)).take a.length)=a.map (·.1):=List.take_of_length_le (by simp);rw[hfull]at hM;have hK1l:=Kf (a.map (·.1)) [];generalize hK1:((a.map (·.1)).foldl (fun u k=>A7 k A6 u) [])=K1 at hM hK1l;have HK1l:Hid (K1.length<=0+a.length):=by
     show _<=_;rw[List.length_map]at hK1l;exact hK1l
    have HI1:Hid (RkI w (((b.map (·.1)).take 0).foldl (fun u k=>A7 k A6 u) K1) wr):=⟨hbw,V,by simpa using hM⟩;have HK1:=qz hK1;clear hI hM hbw hK1l hfull hK1;go_wp2_with (fail);go_loopw [7] (fun i wr=> ∃q:Nat,i=.int .i64 q/\q<=b.length/\Hid (RkI w (((b.map (·.1)).take q).foldl (fun u k=>A7 k A6 u) K1) wr)) (fun i _=>b.length - (intOf i).toNat)
    case atStart=>exact⟨0,rfl,Nat.zero_le _,HI1⟩
    case round=>
     obtain⟨q,rfl,hq,hI⟩:=hrel;clear HI1;obtain⟨hbw,V,hM⟩:=hI.out;by_cases hlt:q<b.length
     . obtain⟨⟨key,x⟩,hx⟩: ∃v,b[q]? =some v:=⟨_,List.getElem?_eq_getElem hlt⟩;obtain⟨g,off,rfl,hg,u1,u2,u3,u4,u5,u6,_,r1⟩:=Bz Hb.out.now hx;have s0:=(hbw.cell (p:=⟨g,off+q*7,none⟩) hg).trans (by simpa using r1 0 _ rfl);have hz:=hbw.size;have hgr:g<wr.heap.size:=by omega
       have htk:(((b.map (·.1)).take (q+1)).foldl (fun u k=>A7 k A6 u) K1)=A7 key A6 (((b.map (·.1)).take q).foldl (fun u k=>A7 k A6 u) K1):=by
        rw[List.take_add_one,List.getElem?_map,hx];simp
       have hpl:=Kf ((b.map (·.1)).take q) K1;have hC:=Jn (fun i=>i<w.heap.size) w.heap.size (((b.map (·.1)).take q).foldl (fun u k=>A7 k A6 u) K1) w.heap.size V key A6 0 false 0 ⟨#[]⟩ none 0 0 none 0 0 wr hM hz (fun _ _ _=>Dv _ _) (by rw[List.length_take,List.length_map]at hpl;have:=HK1l.out;omega) (by omega);rw[<-htk]at hC;have q1:(q:Int)<(b.length:Int):=by omega
       have q0:(0:Int)<=q:=by omega
       obtain⟨HC,Hbw⟩:=hid2 hC hbw;clear hC hbw;clear hI hM htk hx r1 hpl;go_wp2_with (fail);(with_reducible refine(HC.out).mono ?_);rintro e wq ⟨rfl,hk2,V2,hM2⟩;have HI2:Hid (RkI w (((b.map (·.1)).take (q+1)).foldl (fun u k=>A7 k A6 u) K1) wq):=⟨Hbw.out.trans (hk2.below (fun k h=>by subst h;exact Nat.le_refl _) hz),V2,hM2⟩;clear hk2 hM2;go_wp2;go_roundw
       case rel=>exact⟨q+1,by go_num,by omega,HI2⟩
       case measure=>simp only[intOf];omega
     . obtain rfl:q=b.length:=by omega
       have q1: ¬(b.length:Int)<(b.length:Int):=by omega
       have hfull:((b.map (·.1)).take b.length)=b.map (·.1):=List.take_of_length_le (by simp);rw[hfull]at hM;have hL:((b.map (·.1)).foldl (fun u k=>A7 k A6 u) K1)=(F3 a b).map fun k=>(k,A6):=by rw[<-HK1.out];exact Hkeys.out
       rw[hL]at hM;obtain⟨M1,M2,M3⟩:=hM;have hml:(dO ((F3 a b).map fun k=>(k,A6))).length=(F3 a b).length:=by rw[Az,List.length_map]
       obtain⟨aM,cM,rfl⟩:=M2.slice_n hml;have hkl:(F3 a b).length<=20000000:=by
        have h1:=Kf (b.map (·.1)) K1;rw[hL,List.length_map,List.length_map]at h1;have:=HK1l.out;omega
       have hrow7:=M2.close;have m0:=M1.cell 0;have lM:=M1.lt;obtain⟨w2,hw2⟩: ∃w2,w2=wr:=⟨_,rfl⟩;rw[<-hw2]at hbw m0 lM hrow7 ⊢;have HI2:Hid (RcI D a b w w2 0 w2 (.slice none 0 0)):=⟨Below.refl _ _,by simpa[Ss]using An.nil D w2.heap.size L3 15 w2⟩;obtain⟨Hkl,Hrow7,Hbw⟩:=hid3 hkl hrow7 hbw;clear hrow7 hbw;clear hI M1 M2 M3 hL hfull hw2 hml hkl;go_wp2_with (fail);go_loopw [8,9] (fun V i wr=> ∃q:Nat,i=.int .i64 q/\q<=(F3 a b).length/\Hid (RcI D a b w w2 q wr V)) (fun _ i _=>(F3 a b).length - (intOf i).toNat)
       case atStart=>exact⟨0,rfl,Nat.zero_le _,HI2⟩
       case round=>
        obtain⟨q,rfl,hq,hI⟩:=hrel;clear HI2;obtain⟨hW,hrow⟩:=hI.out;have hzw:w.heap.size<=w2.heap.size:=Hbw.out.size;have hz2:=hW.size;obtain⟨nV,hsz⟩: ∃nV,(Ss (((F3 a b).take q).filterMap (E4 a b))).length=nV:=⟨_,rfl⟩;have hnV:nV<=q:=by
         rw[<-hsz,Uv];refine Nat.le_trans (List.length_filterMap_le _ _) ?_;rw[List.length_take];omega
        obtain⟨aV,cV,rfl⟩:=hrow.slice_n hsz;have m1:=(hW.cell (p:=⟨w.heap.size,0,none⟩) lM).trans m0;have lMr:w.heap.size<wr.heap.size:=by omega
        have hkl:=Hkl.out;by_cases hlt:q<(F3 a b).length
        . obtain⟨key,hx⟩: ∃v,(F3 a b)[q]? =some v:=⟨_,List.getElem?_eq_getElem hlt⟩;obtain⟨g,off,rfl,hg,u1,u2,u3,u4,u5,u6,_,r1⟩:=Bz Hrow7.out (q:=q) (e:=(key,A6)) (by rw[List.getElem?_map,hx];rfl);have s0:=(hW.cell (p:=⟨g,off+q*7,none⟩) hg).trans (by simpa using r1 0 _ rfl);have hgr:g<wr.heap.size:=by omega
          have q1:(q:Int)<((F3 a b).length:Int):=by omega
          have q0:(0:Int)<=q:=by omega
          have hbwr:=Hbw.out.trans (hW.mono hzw);have htk:((F3 a b).take (q+1)).filterMap (E4 a b)=if Oc (Bh key a) (Bh key b)=true then((F3 a b).take q).filterMap (E4 a b)else((F3 a b).take q).filterMap (E4 a b)++ [(key,Bh key a,Bh key b)]:=by
           rw[List.take_add_one,hx,Option.toList_some,List.filterMap_append,List.filterMap_cons,List.filterMap_nil];have e:E4 a b key=if Oc (Bh key a) (Bh key b)then none else some (key,Bh key a,Bh key b):=rfl;rw[e];by_cases hs:Oc (Bh key a) (Bh key b)=true
           . rw[if_pos hs,if_pos hs];simp
           . rw[if_neg hs,if_neg hs]
          have hg1:=Mn key a D sa a.length ca wr (Ha.out.below hbwr) (fun i hi=>Nat.lt_of_lt_of_le (hD i hi) hbwr.size) (by omega);have hba:=Ox (k:=key) (l:=a);have hbb:=Ox (k:=key) (l:=b);have hg2:=fun(W:World) (hB:Below w.heap.size w W)=>Mn key b D sb b.length cb W (Hb.out.below hB) (fun i hi=>Nat.lt_of_lt_of_le (hD i hi) hB.size) (by omega);generalize Bh key a=oa at hg1 htk hba;generalize Bh key b=ob at hg2 htk hbb;have hbase:=hrow.base;obtain⟨Hg1,Hg2,Htk,Hbwr⟩:=hid4 hg1 hg2 htk hbwr;clear hg1 hg2 htk hbwr;clear hI r1 hx;go_wp2_with (fail);(with_reducible refine(Hg1.out).mono ?_);rintro e w3 ⟨hb3,k1',b1',n1',t1',la1,ln1,lc1,oa1,on1,oc1,rfl,hs1⟩;have hb34:=Ac w3 (.cells #[.int .i64 k1',.bool b1',.int .i64 n1',.string t1',.slice la1 ln1 lc1,.slice oa1 on1 oc1] 33);have hW4:=(Hbwr.out.trans (hb3.mono Hbwr.out.size)).trans (hb34.mono (by have:=Hbwr.out.size;have:=hb3.size;omega));have HC2:=qz (Hg2.out _ hW4);have Hx4:=qz (Ao.new w3 33 #[.int .i64 k1',.bool b1',.int .i64 n1',.string t1',.slice la1 ln1 lc1,.slice oa1 on1 oc1]);obtain⟨Hs1,Hb3,Hb34,HW4⟩:=hid4 hs1 hb3 hb34 hW4;clear hb34 hW4;clear hs1 hb3;go_wp2_with (fail);(with_reducible refine(HC2.out).mono ?_);rintro e w5 ⟨hb5,k2',b2',n2',t2',la2,ln2,lc2,oa2,on2,oc2,rfl,hs2⟩;go_upto_region 17 with(fail);obtain⟨w6,hw6⟩: ∃w6,w5.alloc (.cells #[.int .i64 k2',.bool b2',.int .i64 n2',.string t2',.slice la2 ln2 lc2,.slice oa2 on2 oc2] 33)=w6:=⟨_,rfl⟩;have hb56:Below w5.heap.size w5 w6:=hw6▸Ac _ _;have hy6:Ao w6 w5.heap.size 33 #[.int .i64 k2',.bool b2',.int .i64 n2',.string t2',.slice la2 ln2 lc2,.slice oa2 on2 oc2]:=hw6▸Ao.new _ _ _;have hz3:=Hb3.out.size;have hz34:=Hb34.out.size;have hz5:=hb5.size;have hx6:=(Hx4.out.below hb5 Hx4.out.lt).below hb56 (by have:=Hx4.out.lt;omega);have hs16:=(((Hs1.out.keep (fun _ _ h=>h) Hb34.out.size fun i _ hi=>Hb34.out.block i hi).keep (fun _ _ h=>h) hb5.size fun i _ hi=>hb5.block i hi).keep (fun _ _ h=>h) hb56.size fun i _ hi=>hb56.block i hi);have hs26:=hs2.keep (fun _ _ h=>h) hb56.size fun i _ hi=>hb56.block i hi;have hwr6:Below wr.heap.size wr w6:=((Hb3.out.trans (Hb34.out.mono hz3)).trans (hb5.mono (by omega))).trans (hb56.mono (by omega));rw[hw6];obtain⟨x0,x1,x2,x3,x4,x5⟩:=Co hx6;obtain⟨z0,z1,z2,z3,z4,z5⟩:=Co hy6;have lx:=hx6.lt;have ly:=hy6.lt;have hrow:=hrow.below hwr6;have hW:=hW.trans (hwr6.mono hz2);clear hw6 hb5 hb56 hs2 HC2 Hs1 Hb3 Hb34 Hx4 HW4 s0 m1 hz34 hz5;by_cases hne:oa.isSome=ob.isSome
          . have hcm:=Wq (oa.getD A6) (ob.getD A6) [.int .i64 k1',.bool b1',.int .i64 n1',.string t1',.slice la1 ln1 lc1,.slice oa1 on1 oc1] [.int .i64 k2',.bool b2',.int .i64 n2',.string t2',.slice la2 ln2 lc2,.slice oa2 on2 oc2] w6 (Bj _ _ hs16.getD.now) (Bj _ _ hs26.getD.now) (by omega) (by omega);have hes:=Wp hne;have hbne:(oa.isSome != ob.isSome)=false:=by rw[hne];simp
            obtain⟨Hcm,Hs16,Hs26,Hrow,HW,Hx6,Hy6⟩:=hid7 hcm hs16 hs26 hrow hW hx6 hy6;clear hcm hs16 hs26 hrow hW hx6 hy6;go_wp2_with (fail);(with_reducible refine(Hcm.out).mono ?_);rintro e w7 ⟨cc,rfl,hcc,hb7⟩;have hs1:=Hs16.out.keep (fun _ _ h=>h) hb7.size fun i _ hi=>hb7.block i hi;have hs2:=Hs26.out.keep (fun _ _ h=>h) hb7.size fun i _ hi=>hb7.block i hi;have hx7:=Hx6.out.below hb7 lx;have hy7:=Hy6.out.below hb7 ly;clear x0 x1 x2 x3 x4 x5 z0 z1 z2 z3 z4 z5 lx ly;obtain⟨x0,x1,x2,x3,x4,x5⟩:=Co hx7;obtain⟨z0,z1,z2,z3,z4,z5⟩:=Co hy7;have lx:=hx7.lt;have ly:=hy7.lt;have hrow:=Hrow.out.below hb7;have hW:=HW.out.trans (hb7.mono HW.out.size);clear hx7 hy7 hb7;by_cases hc0:cc=0
            . subst hc0;have HN:Hid (RcI D a b w w2 (q+1) w7 (.slice aV nV cV)):=by
               refine⟨hW, ?_⟩;rw[Htk.out,hes,if_pos (hcc.1 rfl)];exact hrow
              clear hrow hW hs1 hs2 hcc;go_wp2;go_roundw
              case rel=>exact⟨q+1,by go_num,by omega,HN⟩
              case measure=>simp only[intOf];omega
            . have hsam: ¬Oc oa ob=true:=by rw[hes];exact fun h=>hc0 (hcc.2 h)
              have hc1:(cc != 0)=true:=by simpa using hc0
              clear hcc hc0;have hbn:=Ac w7 (.cells #[.string key,.bool ob.isSome,.int .i64 k1',.bool b1',.int .i64 n1',.string t1',.slice la1 ln1 lc1,.slice oa1 on1 oc1,.bool ob.isSome,.int .i64 k2',.bool b2',.int .i64 n2',.string t2',.slice la2 ln2 lc2,.slice oa2 on2 oc2] L3);have Hrn:=qz (hrow.below hbn);have hdn:Ag (fun i=>D i/\(Value.slice aV nV cV).ownBlock≠some i) (w7.alloc (.cells #[.string key,.bool ob.isSome,.int .i64 k1',.bool b1',.int .i64 n1',.string t1',.slice la1 ln1 lc1,.slice oa1 on1 oc1,.bool ob.isSome,.int .i64 k2',.bool b2',.int .i64 n2',.string t2',.slice la2 ln2 lc2,.slice oa2 on2 oc2] L3)) (dC (key,oa,ob)) [.string key,.bool ob.isSome,.int .i64 k1',.bool b1',.int .i64 n1',.string t1',.slice la1 ln1 lc1,.slice oa1 on1 oc1,.bool ob.isSome,.int .i64 k2',.bool b2',.int .i64 n2',.string t2',.slice la2 ln2 lc2,.slice oa2 on2 oc2]:=
               (((by have h:=Aao hs1 hs2 (key:=key);rw[hne]at h;exact h:Ag D w7 (dC (key,oa,ob)) [.string key,.bool ob.isSome,.int .i64 k1',.bool b1',.int .i64 n1',.string t1',.slice la1 ln1 lc1,.slice oa1 on1 oc1,.bool ob.isSome,.int .i64 k2',.bool b2',.int .i64 n2',.string t2',.slice la2 ln2 lc2,.slice oa2 on2 oc2])).below hbn).mono fun i _ hi=>⟨hi,fun e=>by have:=(hbase i e).1;have:=hD i hi;omega⟩
              have Hrd:=qz (B5 (Ao.new w7 L3 #[.string key,.bool ob.isSome,.int .i64 k1',.bool b1',.int .i64 n1',.string t1',.slice la1 ln1 lc1,.slice oa1 on1 oc1,.bool ob.isSome,.int .i64 k2',.bool b2',.int .i64 n2',.string t2',.slice la2 ln2 lc2,.slice oa2 on2 oc2]));have hzn:=hbn.size;have HWn:=qz (hW.trans (hbn.mono hW.size));obtain⟨Hdn,Hbase,Hsz⟩:=hid3 hdn hbase hsz;clear hdn hbase hsz;clear hs1 hs2 hrow hbn hW;go_wp2_with (at_builtin;apply Shut.out);unfold Shut;refine B7 (d:=dC (key,oa,ob)) rfl (.tmp 83) (.tmp 90) 103 rfl Tryz.underlying103 Hj.out Hy0.out Hy1.out Hy2.out rfl (by omega) rfl Hrn.out HWn.out.size (Q8 _) Hdn.out rfl Hrd.out (by rw[Hsz.out];simp only[maxLen];omega) (by rw[Hsz.out];omega) ?_;intro V8 w8 hr8 hg8 hat8;have HN:Hid (RcI D a b w w2 (q+1) w8 V8):=by
               show RcI _ _ _ _ _ _ _ _;refine⟨HWn.out.grown hg8 HWn.out.size (fun k hk=>(Hbase.out k hk).1), ?_⟩;rw[Htk.out,if_neg hsam];rw[Q9];exact hr8
              have hs8:(Ss (((F3 a b).take q).filterMap (E4 a b))++ [dC (key,oa,ob)]).length=nV+1:=by rw[List.length_append,Hsz.out];rfl
              obtain⟨a8,c8,rfl⟩:=hr8.slice_n hs8;clear hr8 hg8 hat8 hs8 Hrn Hdn Hrd;go_wp2;go_roundw
              case rel=>exact⟨q+1,by go_num,by omega,HN⟩
              case measure=>simp only[intOf];omega
          . have hsam: ¬Oc oa ob=true:=by rw[Aag hne];simp
            have hbne:(oa.isSome != ob.isSome)=true:=by simpa using hne
            have hbn2:(oa.isSome ^^ ob.isSome)=true:=by simpa using hne
            have hbn3:(oa.isSome==ob.isSome)=false:=by simpa using hne
            have hs1:=hs16;have hs2:=hs26;clear hs16 hs26 hx6 hy6 hne;have hbn:=Ac w6 (.cells #[.string key,.bool oa.isSome,.int .i64 k1',.bool b1',.int .i64 n1',.string t1',.slice la1 ln1 lc1,.slice oa1 on1 oc1,.bool ob.isSome,.int .i64 k2',.bool b2',.int .i64 n2',.string t2',.slice la2 ln2 lc2,.slice oa2 on2 oc2] L3);have Hrn:=qz (hrow.below hbn);have hdn:Ag (fun i=>D i/\(Value.slice aV nV cV).ownBlock≠some i) (w6.alloc (.cells #[.string key,.bool oa.isSome,.int .i64 k1',.bool b1',.int .i64 n1',.string t1',.slice la1 ln1 lc1,.slice oa1 on1 oc1,.bool ob.isSome,.int .i64 k2',.bool b2',.int .i64 n2',.string t2',.slice la2 ln2 lc2,.slice oa2 on2 oc2] L3)) (dC (key,oa,ob)) [.string key,.bool oa.isSome,.int .i64 k1',.bool b1',.int .i64 n1',.string t1',.slice la1 ln1 lc1,.slice oa1 on1 oc1,.bool ob.isSome,.int .i64 k2',.bool b2',.int .i64 n2',.string t2',.slice la2 ln2 lc2,.slice oa2 on2 oc2]:=
             ((Aao hs1 hs2).below hbn).mono fun i _ hi=>⟨hi,fun e=>by have:=(hbase i e).1;have:=hD i hi;omega⟩
            have Hrd:=qz (B5 (Ao.new w6 L3 #[.string key,.bool oa.isSome,.int .i64 k1',.bool b1',.int .i64 n1',.string t1',.slice la1 ln1 lc1,.slice oa1 on1 oc1,.bool ob.isSome,.int .i64 k2',.bool b2',.int .i64 n2',.string t2',.slice la2 ln2 lc2,.slice oa2 on2 oc2]));have hzn:=hbn.size;have HWn:=qz (hW.trans (hbn.mono hW.size));obtain⟨Hdn,Hbase,Hsz⟩:=hid3 hdn hbase hsz;clear hdn hbase hsz;clear hs1 hs2 hrow hbn hW;go_wp2_with (at_builtin;apply Shut.out);unfold Shut;refine B7 (d:=dC (key,oa,ob)) rfl (.tmp 83) (.tmp 90) 103 rfl Tryz.underlying103 Hj.out Hy0.out Hy1.out Hy2.out rfl (by omega) rfl Hrn.out HWn.out.size (Q8 _) Hdn.out rfl Hrd.out (by rw[Hsz.out];simp only[maxLen];omega) (by rw[Hsz.out];omega) ?_;intro V8 w8 hr8 hg8 hat8;have HN:Hid (RcI D a b w w2 (q+1) w8 V8):=by
             show RcI _ _ _ _ _ _ _ _;refine⟨HWn.out.grown hg8 HWn.out.size (fun k hk=>(Hbase.out k hk).1), ?_⟩;rw[Htk.out,if_neg hsam];rw[Q9];exact hr8
            have hs8:(Ss (((F3 a b).take q).filterMap (E4 a b))++ [dC (key,oa,ob)]).length=nV+1:=by rw[List.length_append,Hsz.out];rfl
            obtain⟨a8,c8,rfl⟩:=hr8.slice_n hs8;clear hr8 hg8 hat8 hs8 Hrn Hdn Hrd;go_wp2;go_roundw
            case rel=>exact⟨q+1,by go_num,by omega,HN⟩
            case measure=>simp only[intOf];omega
        . obtain rfl:q=(F3 a b).length:=by omega
          rw[List.take_length,<-Ga _ a b (Nat.le_refl _) Aa.out Ab.out]at hrow;have HP:Hid (PO (.returned (.slice aV nV cV)) wr):=by
           show PO _ _;rw[<-HPO.out];exact⟨Hbw.out.trans (hW.mono hzw),_,rfl,hrow.keepN hzw (fun i h=>h) (Nat.le_refl _) fun _ _ _=>rfl⟩
          have q1: ¬((F3 a b).length:Int)<((F3 a b).length:Int):=by omega
          clear hI hrow hW;go_wp2;exact HP.out
end Go.Proofs.YtdbejcbbhomdbaaGreatDoor
