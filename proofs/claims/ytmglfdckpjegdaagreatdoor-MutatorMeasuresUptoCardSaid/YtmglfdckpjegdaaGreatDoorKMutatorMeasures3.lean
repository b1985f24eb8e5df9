/- Parts: commonplaceref11.add: a key put into rising ones. Condition: at most 10^9 keys. -/
import Derived.Sort.Walk0
import Derived.Test.YtmglfdckpjegdaaGreatDoorKMu27
import Derived.Test.YtmglfdckpjegdaaGreatDoorKMutatorMeasures1
set_option maxHeartbeats 20000000
namespace Go.Proofs.YtmglfdckpjegdaaGreatDoor
open Go Go.RowKit
def bsK (l:BL):ByteArray:=⟨l.toArray⟩
def dK (l:List BL):List D:=l.map fun s=> .leaf (.string (bsK s))
theorem Ail (l:List BL):(dK l).length=l.length:=List.length_map ..
theorem Apo (a b:List BL):dK (a++b)=dK a++dK b:=List.map_append ..
theorem Ao8 (s:ByteArray):bsK s.toList=s:=by
 unfold bsK;rw[Lib.toList_data]
theorem Arq {l:List Mut} {q:Nat} {m:Mut} (h:l[q]? =some m):Abq (l.take (q+1))=Abq (l.take q)++Anh m:=by
 induction l generalizing q with
 |nil=>simp at h
 |cons x r ih=>
  cases q with
  |zero=>
   simp only[List.getElem?_cons_zero,Option.some.injEq]at h;subst h;simp[Abq]
  |succ q=>
   simp only[List.getElem?_cons_succ]at h;simp only[List.take_succ_cons,Abq,ih h,List.append_assoc]
theorem Ara: ∀(l:List Mut) (q:Nat),(Abq (l.take q)).length<=(Abq l).length
 | [],q=>by simp[Abq]
 |x::r,0=>by simp[Abq]
 |x::r,q+1=>by
  have:=Ara r q;simp only[List.take_succ_cons,Abq,List.length_append];omega
theorem Aq1:(Tryz.prog.info? 9).map (fun i=>(i.zero,i.size,i.bytes))=some (some (.string ⟨#[]⟩),1,16):=by kernel_rfl
structure KB (S:Nat->Prop) (w w':World):Prop where
 os:w'.os=w.os
 tape:w'.tape=w.tape
 output:w'.output=w.output
 size:w.heap.size<=w'.heap.size
 block: ∀k,k<w.heap.size-> ¬S k->w'.heap[k]? =w.heap[k]?
theorem KB.trans {S T:Nat->Prop} {w w1 w2:World} (h:KB S w w1) (h':KB T w1 w2) (hT: ∀k,k<w.heap.size->T k->S k):KB S w w2:=
 ⟨h'.os.trans h.os,h'.tape.trans h.tape,h'.output.trans h.output,Nat.le_trans h.size h'.size,fun k h1 h2=>(h'.block k (Nat.lt_of_lt_of_le h1 h.size) fun h3=>h2 (hT k h1 h3)).trans (h.block k h1 h2)⟩
theorem KB.of_below {S:Nat->Prop} {w w':World} (h:Below w.heap.size w w'):KB S w w':=⟨h.os,h.tape,h.output,h.size,fun k h1 _=>h.block k h1⟩
theorem KB.of_grown {S:Nat->Prop} {w w':World} {r:Option Nat} (h:w.grownBy w' r) (hr: ∀k,r=some k->S k):KB S w w':=⟨h.os,h.tape,h.output,h.size,fun k h1 h2=>h.block k h1 fun e=>h2 (hr k e.symm)⟩
theorem KB.set {S:Nat->Prop} (w:World) (p:Addr) (hp:S p.block) (v:Value):KB S w (w.setCell p v):=⟨rfl,rfl,rfl,by simp[World.setCell],fun k _ h2=>Below.heap_setCell _ _ _ _ (fun e=>h2 (e▸hp))⟩
theorem KB.below {S:Nat->Prop} {w w':World} {B:Nat} (h:KB S w w') (hS: ∀k,S k->B<=k) (hB:B<=w.heap.size):Below B w w':=⟨h.os,h.tape,h.output,h.size,fun k h1=>h.block k (Nat.lt_of_lt_of_le h1 hB) fun h2=>Nat.lt_irrefl _ (Nat.lt_of_lt_of_le h1 (hS k h2))⟩
theorem Al.kb {S:Nat->Prop} {w w':World} {g:Nat} {t:TypeId} {cs:Array Value} (hx:Al w g t cs) (h:KB S w w') (hn: ¬S g):Al w' g t cs:=(h.block g hx.lt hn).trans hx
theorem C9.kb {S0 S:Nat->Prop} {b:Nat} {t:TypeId} {w w':World} {l:List BL} {V:Value} (h:C9 S0 b t 1 w (dK l) V) (hk:KB S w w') (hn: ∀g,V.ownBlock=some g-> ¬S g):C9 S0 b t 1 w' (dK l) V:=by
 obtain⟨ns,h1,h2,h3⟩:=h;refine⟨ns,⟨h1.1, ?_⟩,h2, ?_⟩
 . rcases h1.2 with⟨rfl,h0⟩|⟨g,cap,cur,rfl,hbg,hg,h5⟩
   . exact .inl ⟨rfl,h0⟩
   . exact .inr ⟨g,cap,cur,rfl,hbg,(hk.block g (Array.getElem?_eq_some_iff.1 hg).1 (hn g rfl)).trans hg,h5⟩
 . intro w'' k1 k2;have hA: ∀(l:List BL) (B B':Nat) (w1 w2:World) (ns:List Value),Aj w1 B (dK l) ns->Aj w2 B' (dK l) ns:=by
    intro l
    induction l with
    |nil=>intro B B' w1 w2 ns h;exact h
    |cons x r ih=>
     intro B B' w1 w2 ns h;obtain⟨c1,c2,rfl,h4,h5⟩:=h;exact⟨c1,c2,rfl,h4,ih _ _ _ _ _ h5⟩
   exact hA _ _ _ _ _ _ (h3 w (Nat.le_refl _) fun _ _ _=>rfl)
abbrev fvK (L G:Nat):Value:=.func (.func 57) #[] #[.pointer (some ⟨L,0,none⟩),.pointer (some ⟨G,0,none⟩)]
structure K1I (w:World) (L G b:Nat) (r0:Option Nat) (box:Array Value) (acc:List BL) (wr:World) (V:Value):Prop where
 kb:KB (fun k=>k=L\/r0=some k) w wr
 box:Al wr w.heap.size Ag box
 l:Al wr L 54 #[V]
 g:Al wr G 83 #[fvK L G]
 row:C9 (fun _=>False) b 9 1 wr (dK acc) V
 own:V.ownBlock=r0\/ ∃g,V.ownBlock=some g/\w.heap.size<g
def Ark (L b:Nat) (r0:Option Nat) (acc:List BL) (w:World) (e:Ending) (w':World):Prop:=e=.returned (.tuple #[])/\ ∃V',KB (fun k=>k=L\/r0=some k) w w'/\Al w' L 54 #[V']/\C9 (fun _=>False) b 9 1 w' (dK acc) V'/\(V'.ownBlock=r0\/ ∃g,V'.ownBlock=some g/\w.heap.size<=g)
def K1C (m:Mut):Prop:= ∀(cs:List Value) (w:World) (B0 L G b:Nat) (acc:List BL) (V:Value),Holds w B0 (dM m) cs->B0<=L->B0<=G->L≠G->L<b->G<b->b<=w.heap.size->Al w L 54 #[V]->Al w G 83 #[fvK L G]->
 C9 (fun _=>False) b 9 1 w (dK acc) V->Bm m<=100000000->acc.length+(Anh m).length<=1000000000->
 Calls Tryz.prog 57 #[.agg cs.toArray,.pointer (some ⟨L,0,none⟩),.pointer (some ⟨G,0,none⟩)] w (Ark L b V.ownBlock (acc++Anh m) w)
theorem K1I.below {w:World} {L G b:Nat} {r0:Option Nat} {box:Array Value} {acc:List BL} {wr w':World} {V:Value} (h:K1I w L G b r0 box acc wr V) (hb:Below wr.heap.size wr w'):K1I w L G b r0 box acc w' V:=
 ⟨h.kb.trans (KB.of_below hb) fun _ _ h=>h,h.box.below hb h.box.lt,h.l.below hb h.l.lt,h.g.below hb h.g.lt,h.row.below hb,h.own⟩
theorem K1I.own_box {w:World} {L G b:Nat} {r0:Option Nat} {box:Array Value} {acc:List BL} {wr:World} {V:Value} (h:K1I w L G b r0 box acc wr V) (hr: ∀g,r0=some g->b<=g/\g<w.heap.size):V.ownBlock≠some w.heap.size:=fun e=>by
 rcases h.own with h1|⟨g,h1,h2⟩
 . have:=(hr _ (h1.symm.trans e)).2;omega
 . rw[e]at h1;cases h1;omega
theorem K1I.old {w:World} {L G b:Nat} {r0:Option Nat} {box:Array Value} {acc:List BL} {wr:World} {V:Value} (h:K1I w L G b r0 box acc wr V) {k:Nat} (hk:k<w.heap.size) (e:V.ownBlock=some k):r0=some k:=by
 rcases h.own with h1|⟨g,h1,h2⟩
 . exact h1.symm.trans e
 . rw[e]at h1;cases h1;omega
theorem K1I.put {w:World} {L G b:Nat} {r0:Option Nat} {box:Array Value} {acc:List BL} {wr w6:World} {V V6:Value} {s:ByteArray} (h:K1I w L G b r0 box acc wr V) (hL:L<b) (hG:G<b) (hLG:L≠G) (hbw:b<=w.heap.size) (hr: ∀g,r0=some g->b<=g/\g<w.heap.size)
 (hrow6:C9 (fun _=>False) b 9 1 w6 (dK (acc++ [s.toList])) V6) (hg6:(wr.alloc (.cells #[.string s] 9)).grownBy w6 V.ownBlock) (hat6:V6.ownBlock=V.ownBlock\/V6.ownBlock=some (wr.alloc (.cells #[.string s] 9)).heap.size):
 K1I w L G b r0 box (acc++ [s.toList]) (w6.setCell ⟨L,0,none⟩ V6) V6:=by
 have hba:=h.row.base;have hb6:=hrow6.base;have h1:=h.below (Aa wr (.cells #[.string s] 9));have hbx:=h.box.lt;have hsz:(wr.alloc (.cells #[.string s] 9)).heap.size=wr.heap.size+1:=World.size_alloc _ _;refine⟨?_, ?_, ?_, ?_, ?_, ?_⟩
 . refine(h1.kb.trans (KB.of_grown (S:=fun k=>V.ownBlock=some k) hg6 fun k e=>e) fun k hk e=> .inr (h.old hk e)).trans (KB.set (S:=fun k=>k=L) w6 ⟨L,0,none⟩ rfl V6) fun k _ e=> .inl e
 . exact(h1.box.grown hg6 fun e=>h.own_box hr e.symm).far (by show w.heap.size≠L;omega) _
 . have:=(h1.l.grown hg6 fun e=>by have:=hba _ e.symm;omega).set_ 0 V6;exact this
 . exact(h1.g.grown hg6 fun e=>by have:=hba _ e.symm;omega).far (by show G≠L;omega) _
 . exact hrow6.kb (KB.set (S:=fun k=>k=L) w6 ⟨L,0,none⟩ rfl V6) fun g e e'=>by have:=hb6 g e;omega
 . rcases hat6 with e|e
   . rw[e];exact h.own
   . exact .inr ⟨_,e,by omega⟩
theorem K1I.call {w:World} {L G b:Nat} {r0:Option Nat} {box:Array Value} {acc acc':List BL} {wr w':World} {V:Value} {e:Ending} (h:K1I w L G b r0 box acc wr V) (hL:L<b) (hG:G<b) (hLG:L≠G) (hbw:b<=w.heap.size) (hr: ∀g,r0=some g->b<=g/\g<w.heap.size)
 (hp:Ark L b V.ownBlock acc' wr e w'):e=.returned (.tuple #[])/\ ∃V',K1I w L G b r0 box acc' w' V':=by
 obtain⟨rfl,V',h1,h2,h3,h4⟩:=hp;have hba:=h.row.base;have hbx:=h.box.lt;refine⟨rfl,V',h.kb.trans h1 ?_, ?_,h2, ?_,h3, ?_⟩
 . rintro k hk (e|e)
   . exact .inl e
   . exact .inr (h.old hk e)
 . refine h.box.kb h1 ?_;rintro(e|e)
   . omega
   . exact h.own_box hr e
 . refine h.g.kb h1 ?_;rintro(e|e)
   . omega
   . have:=hba _ e;omega
 . rcases h4 with e|⟨g,e,hg⟩
   . rw[e];exact h.own
   . exact .inr ⟨g,e,by omega⟩
theorem Aev (S:Nat->Prop) (w:World) (s:ByteArray):Ae S w (.leaf (.string s)) [.string s]:=fun _ _ _=>⟨rfl,rfl⟩
set_option maxRecDepth 100000 in
theorem Ary (k:Int) (key:ByteArray) (y2 y3 y4 y5 y6 y7 y8 y9 y10 y11 y12 y13 y14 y15 y16 y17:Value) (l:List Mut) (a:Option Addr) (c:Nat) (w:World) (B0 L G b:Nat) (acc:List BL) (V:Value)
 (hl:Holds w B0 (.row 19 (Gw l)) [.slice a l.length c]) (hL:B0<=L) (hG:B0<=G) (hLG:L≠G) (hLb:L<b) (hGb:G<b) (hbw:b<=w.heap.size) (hxL:Al w L 54 #[V]) (hxG:Al w G 83 #[fvK L G])
 (hrow:C9 (fun _=>False) b 9 1 w (dK acc) V) (hbl:C3 l<=100000000) (own:List BL) (hown:(if k≠6/\key.toList≠ []then [key.toList]else [])=own) (hlen:acc.length+own.length+(Abq l).length<=1000000000) (ih: ∀x ∈ l,K1C x):
 Calls Tryz.prog 57 #[.agg #[.int .i64 k,.string key,y2,y3,y4,y5,y6,y7,y8,y9,y10,y11,y12,y13,y14,y15,y16,y17,.slice a l.length c],.pointer (some ⟨L,0,none⟩),.pointer (some ⟨G,0,none⟩)] w (Ark L b V.ownBlock (acc++own++Abq l) w):=by
 obtain⟨j0,hj,hy0,hy1,hy2⟩:=info_parts Aq1;obtain⟨BX,hBX⟩: ∃b:Array Value, #[.int .i64 k,.string key,y2,y3,y4,y5,y6,y7,y8,y9,y10,y11,y12,y13,y14,y15,y16,y17,.slice a l.length c]=b:=⟨_,rfl⟩;have hcell: ∀W,Al W w.heap.size Ag BX->W.cell? ⟨w.heap.size,0,none⟩=some (.int .i64 k)/\W.cell? ⟨w.heap.size,1,none⟩=some (.string key)/\W.cell? ⟨w.heap.size,18,none⟩=some (.slice a l.length c):=fun W hx=>by
  subst hBX;exact⟨hx.cell 0,hx.cell 1,hx.cell 18⟩
 rw[hBX];clear hBX;obtain⟨PO,hPO⟩: ∃P,Ark L b V.ownBlock (acc++own++Abq l) w=P:=⟨_,rfl⟩;rw[hPO];have hr0:=hrow.base;have hI0:K1I w L G b V.ownBlock BX acc (w.alloc (.cells BX Ag)) V:=⟨KB.of_below (Aa w _),Al.new _ _ _,hxL.alloc _,hxG.alloc _,hrow.below (Aa w _),.inl rfl⟩;generalize V.ownBlock=r0 at hI0 hPO hr0;obtain⟨w0,hw0⟩: ∃w0,w.alloc (.cells BX Ag)=w0:=⟨_,rfl⟩;rw[hw0]at hI0;obtain⟨x0,x1,x18⟩:=hcell _ hI0.box;have xl:=hI0.box.lt;obtain⟨HPO,Hcell,HI0,Hj,Hy0,Hy1,Hy2,Hl,Ih,Hr0,Hown⟩:=hid11 hPO hcell hI0 hj hy0 hy1 hy2 hl ih hr0 hown;clear hPO hcell hI0 hj hy0 hy1 hy2 hl ih hr0 hown;clear hrow hxL hxG;go_enter Tryz.func57,Tryz.ntmps57;go_upto_region 1 with(fail);clear hw0;obtain⟨P,hP⟩: ∃P:Bool,decide (k≠6/\key.toList≠ [])=P:=⟨_,rfl⟩;have HP:=Lib.hid hP;clear hP;go_cut [13] (fun s wx=>s=.bool P/\wx=w0)
 case first=>
  by_cases hk:k=6
  . have:P=false:=by rw[<-HP.out];simp[hk]
    subst this;subst hk;go_wp2;go_meet;exact⟨rfl,rfl⟩
  . have e1:(k != 6)=true:=by simpa using hk
    cases hk2:key.toList.isEmpty with
    |true=>
     have:P=false:=by rw[<-HP.out];simp at hk2;simp[hk2]
     subst this;go_wp2;go_meet;exact⟨rfl,rfl⟩
    |false=>
     have:P=true:=by rw[<-HP.out];simp at hk2;simp[hk,hk2]
     subst this;go_wp2;go_meet;exact⟨rfl,rfl⟩
 obtain⟨rfl,e0⟩:=hcut;have e0:=e0.symm;subst e0;have hown2:own=if P=true then [key.toList]else []:=by rw[<-Hown.out,<-HP.out];simp
 clear x0;go_upto_if 13 with(fail);go_cut [] (fun wx=> ∃V1,Hid (K1I w L G b r0 BX (acc++own) wx V1))
 case first=>
  cases P with
  |true=>
   have ho:own= [key.toList]:=hown2;subst ho;have hrow1:=HI0.out.row.below (Aa w0 (.cells #[.string key] 9));have hrd:=Kk (Al.new w0 9 #[.string key]);have hLo:(dK acc).length+1<=maxLen/\((dK acc).length+1)*16<=140737488355328/\b<=(w0.alloc (.cells #[.string key] 9)).heap.size:=by
    rw[Ail];simp only[List.length_cons,List.length_nil]at hlen;have:=HI0.out.kb.size;exact⟨by simp only[maxLen];omega,by omega,by simp;omega⟩
   have eL:=HI0.out.l.cell 0;have gL:=HI0.out.l.lt;have hap:dK acc++ [.leaf (.string key)]=dK (acc++ [key.toList]):=by rw[Apo];simp[dK,Ao8]
   have hxL1:=HI0.out.l.alloc (.cells #[.string key] 9);have hne: ∀g,V.ownBlock=some g->g≠L:=fun g e=>by have:=HI0.out.row.base g e;omega
   obtain⟨Hrow1,Hrd,HLo,Hap,HxL1,Hne⟩:=hid6 hrow1 hrd hLo hap hxL1 hne;clear hrow1 hrd hLo hap hxL1 hne;clear hown2;go_wp2_with (at_builtin;apply Shut.out);unfold Shut;refine Fh rfl (.tmp 14) (.tmp 17) 54 rfl Tryz.underlying54 Hj.out Hy0.out Hy1.out Hy2.out rfl (by omega) rfl Hrow1.out HLo.out.2.2 rfl (Aev _ _ key) rfl Hrd.out HLo.out.1 HLo.out.2.1 ?_;intro V6 w6 hrow6 hg6 hat6;rw[Hap.out]at hrow6;have hx6:=HxL1.out.grown hg6 (fun e=>Hne.out _ e.symm rfl);have e6:=hx6.cell 0;have f6:=hx6.frozen 0;have l6:=hx6.lt;have HN:=Lib.hid (HI0.out.put hLb hGb hLG hbw Hr0.out hrow6 hg6 hat6);obtain⟨a6,c6,rfl⟩:=hrow6.slice;clear hrow6 hg6 hat6 hx6 x1 x18 eL;go_wp2;go_meet;exact⟨_,HN⟩
  |false=>
   have ho:own= []:=hown2;subst ho;have HN:Hid (K1I w L G b r0 BX (acc++ []) w0 V):=by rw[List.append_nil];exact HI0
   clear hown2;go_wp2;go_meet;exact⟨_,HN⟩
 case rest=>
  obtain⟨V1,hI1⟩:=hcut;have x18:=(Hcell.out _ hI1.out.box).2.2;have xl1:=hI1.out.box.lt;have h00:acc++own++Abq (l.take 0)=acc++own:=by simp[Abq]
  have hI2:=hI1;rw[<-h00]at hI2;have hls:=Fm l;clear HI0 hI1 x1 xl h00 hown2;go_wp2_with (fail);go_loopw [22] (fun i wr=> ∃q:Nat,i=.int .i64 q/\q<=l.length/\ ∃V,Hid (K1I w L G b r0 BX (acc++own++Abq (l.take q)) wr V)) (fun i _=>l.length - (intOf i).toNat)
  case atStart=>exact⟨0,rfl,Nat.zero_le _,_,hI2⟩
  case round=>
   obtain⟨q,rfl,hq,V2,hI⟩:=hrel;clear hI2 x18 xl1;by_cases hlt:q<l.length
   . obtain⟨m,hm⟩: ∃p,l[q]? =some p:=⟨_,List.getElem?_eq_getElem hlt⟩;have hmem:=List.mem_of_getElem? hm;have hbw0:Below B0 w wr:=hI.out.kb.below (by
      rintro k (e|e)
      . omega
      . have:=(Hr0.out _ e).1;omega) (by omega)
     obtain⟨g,off,rfl,hg,cs',hcs,hn1,hcl⟩:=Ki (Hl.out.below hbw0) hm;have hrange:wr.rangeAt g (off+q*19) cs':=hcl;have hs1:cs'.toArray.size=19:=by simpa using hn1
     have ho1:cs'.toArray.all (·.oneCell')=true:=by rw[Array.all_eq_true];intro i hi;exact hcs.len.2 _ (by simp)
     have hi1:(Tryz.prog.info? Ag).map (·.size)=some cs'.length:=by rw[hn1];kernel_rfl
     have hgt:=Arq hm;have hgl:(Abq (l.take (q+1))).length<=(Abq l).length:=Ara l (q+1);have hbm:=D1 hmem;have hI3:=hI.out.below (Aa wr (.cells cs'.toArray Ag));have hC:=Ih.out m hmem cs' (wr.alloc (.cells cs'.toArray Ag)) B0 L G b (acc++own++Abq (l.take q)) V2 (hcs.below ((Aa wr _).mono (by have:=hI.out.kb.size;omega))) hL hG hLG hLb hGb (by have:=hI3.kb.size;omega) hI3.l hI3.g hI3.row (by omega) (by
      rw[hgt,List.length_append]at hgl;simp only[List.length_append];omega)
     have hx1:=Al.new wr Ag cs'.toArray;have hap:acc++own++Abq (l.take q)++Anh m=acc++own++Abq (l.take (q+1)):=by rw[hgt,List.append_assoc]
     rw[hap]at hC;have eG:=hI3.g.cell 0;have z1:g<wr.heap.size:=by have:=hI.out.kb.size;omega
     have z5:(q:Int)<(l.length:Int):=by omega
     have z6:(0:Int)<=q:=by omega
     obtain⟨HC,HI3,Hx1⟩:=hid3 hC hI3 hx1;clear hC hI3 hx1;clear hm hmem hcs hcl hgt hgl hap hbw0;go_upto_region 5 with(fail)
     iterate 5 go_step
     refine wp_load_mid Ag (.tmp 24) rfl g (off+q*19) rfl cs' _ hrange Tryz.underlying30 rfl hi1 ?_
     iterate 5 go_step
     refine Co Ag (.tmp 5) (.tmp 25) rfl (cs0:=Cx) cs'.toArray rfl rfl hs1.symm (by rw[hs1];kernel_rfl) ho1 ?_;generalize wr.alloc (.cells cs'.toArray Ag)=w2 at HC HI3 Hx1 eG ⊢;go_upto_region 6 with(fail)
     iterate 5 go_step
     refine Ac Ag (.tmp 5) rfl wr.heap.size _ Hx1.out rfl _ Tryz.underlying30 rfl (by rw[hs1];kernel_rfl) ?_;go_wp2_with (fail);(with_reducible refine(HC.out).mono ?_);intro e w4 hp;obtain⟨rfl,V4,hI4⟩:=HI3.out.call hLb hGb hLG hbw Hr0.out hp;have HN:=Lib.hid hI4;clear hp hI4 HI3 HC Hx1 eG hI hrange;go_wp2;go_roundw
     case rel=>exact⟨q+1,by go_num,by omega,_,HN⟩
     case measure=>simp only[intOf];omega
   . obtain rfl:q=l.length:=by omega
     have hfin:=hI.out;rw[List.take_length]at hfin;have Hfin:=Lib.hid hfin;clear hfin;clear hI;go_wp2;rw[<-HPO.out];refine bodyPost_ret (results_none rfl _ _ _) rfl ?_;exact⟨rfl,V2,Hfin.out.kb,Hfin.out.l,Hfin.out.row,Hfin.out.own.imp id fun⟨g,e,h⟩=>⟨g,e,Nat.le_of_lt h⟩⟩
theorem Arr: ∀m,K1C m:=by
 refine Mut.ind ?_;intro k key dst n had was has v l IH cs w B0 L G b acc V h hL hG hLG hLb hGb hbw hxL hxG hrow hb hlen;obtain⟨k1,b1,n1,t1,l1,o1⟩:=was;obtain⟨k2,b2,n2,t2,l2,o2⟩:=v;obtain⟨la1,lc1,oa1,oc1,la2,lc2,oa2,oc2,a,c,rfl,_,_,hl⟩:=Bq h;simp only[Bm]at hb;simp only[Anh,List.length_append]at hlen ⊢;rw[<-List.append_assoc];exact Ary k key _ _ _ _ _ _ _ _ _ _ _ _ _ _ _ _ l a c w B0 L G b acc V hl hL hG hLG hLb hGb hbw hxL hxG hrow (by omega) _ rfl (by omega) IH
theorem Arp {w:World} {B n c:Nat} {l:List BL} {a:Option Addr} (h:Holds w B (.row 1 (dK l)) [.slice a n c]) {q:Nat} {s:BL} (hi:l[q]? =some s):
 ∃g off,a=some ⟨g,off,none⟩/\g<B/\w.cell? ⟨g,off+q,none⟩=some (.string (bsK s)):=by
 obtain⟨g,off,ea,hg,cs,h1,_,h3⟩:=h.at_ (i:=q) (d:=.leaf (.string (bsK s))) (by unfold dK;rw[List.getElem?_map,hi];rfl);obtain⟨rfl,_⟩:=h1;exact⟨g,off,ea,hg,by have:=h3 0 _ rfl;simpa using this⟩
theorem Asp {w:World} {B n c:Nat} {l:List BL} {a:Option Addr} (h:Holds w B (.row 1 (dK l)) [.slice a n c]):n=l.length:=by rw[h.row_len,Ail]
theorem Aqv {k:BL}: ∀{a r:List BL},(∀x ∈ a, ¬k<=x)->Ahp (a++r) k=a++Ahp r k
 | [],r,_=>rfl
 |x::a,r,h=>by
  simp only[List.cons_append,Ahp];rw[if_neg (h x (by simp)),Aqv fun y hy=>h y (by simp[hy])]
theorem Aro {k y:BL}: ∀{a:List BL},(∃x ∈ a,k<=x)->Ahp (a++ [y]) k=Ahp a k++ [y]
 | [],⟨x,h,_⟩=>by cases h
 |z::a,⟨x,h,hk⟩=>by
  simp only[List.cons_append,Ahp];by_cases hz:k<=z
  . rw[if_pos hz,if_pos hz]
    split<;>simp
  . rw[if_neg hz,if_neg hz,List.cons_append];rcases List.mem_cons.1 h with rfl|h
    . exact absurd hk hz
    . rw[Aro ⟨x,h,hk⟩]
theorem Aq7 (k:BL): ∀l:List BL,(Ahp l k).length<=l.length+1
 | []=>by simp[Ahp]
 |x::r=>by
  have:=Aq7 k r;simp only[Ahp]
  split
  . split<;>simp
  . simp only[List.length_cons];omega
def Aew (l:List BL) (k:BL) (q:Nat) (put:Bool) (out:List BL):Prop:=
 if put then out=Ahp (l.take q) k/\ ∃x ∈ l.take q,k<=x else out=l.take q/\ ∀x ∈ l.take q, ¬k<=x
theorem Aew.hit {l:List BL} {k:BL} {q:Nat} {out:List BL} {y:BL} (h:Aew l k q true out) (hy:l[q]? =some y):Aew l k (q+1) true (out++ [y]):=by
 unfold Aew at h ⊢;rw[if_pos rfl]at h ⊢;obtain⟨rfl,x,hx,hk⟩:=h;rw[List.take_add_one,hy];exact⟨(Aro ⟨x,hx,hk⟩).symm,x,by simp[hx],hk⟩
theorem Aew.skip {l:List BL} {k:BL} {q:Nat} {out:List BL} {y:BL} (h:Aew l k q false out) (hy:l[q]? =some y) (hk: ¬k<=y):Aew l k (q+1) false (out++ [y]):=by
 unfold Aew at h ⊢;rw[if_neg (by simp)]at h ⊢;obtain⟨rfl,h2⟩:=h;rw[List.take_add_one,hy];refine⟨rfl,fun x hx=> ?_⟩;simp only[Option.toList_some,List.mem_append,List.mem_cons,List.not_mem_nil,or_false]at hx;rcases hx with hx|rfl
 . exact h2 x hx
 . exact hk
theorem Aew.new {l:List BL} {k:BL} {q:Nat} {out:List BL} {y:BL} (h:Aew l k q false out) (hy:l[q]? =some y) (hk:k<=y):Aew l k (q+1) true (out++(if k<y then [k]else [])++ [y]):=by
 unfold Aew at h ⊢;rw[if_neg (by simp)]at h;rw[if_pos rfl];obtain⟨rfl,h2⟩:=h;rw[List.take_add_one,hy];refine⟨?_,y,by simp,hk⟩;simp only[Option.toList_some];rw[Aqv h2];simp only[Ahp,if_pos hk]
 split<;>simp
theorem Aew.done_yes {l:List BL} {k:BL} {out:List BL} (h:Aew l k l.length true out):out=Ahp l k:=by
 unfold Aew at h;rw[if_pos rfl,List.take_length]at h;exact h.1
theorem Aew.done_no {l:List BL} {k:BL} {out:List BL} (h:Aew l k l.length false out):out++ [k]=Ahp l k:=by
 unfold Aew at h;rw[if_neg (by simp),List.take_length]at h;obtain⟨rfl,h2⟩:=h;have:=Aqv (r:= []) h2;rw[List.append_nil]at this;rw[this];rfl
theorem Aew.len {l:List BL} {k:BL} {q:Nat} {put:Bool} {out:List BL} (h:Aew l k q put out) (hq:q<=l.length):out.length<=q+1:=by
 unfold Aew at h
 cases put with
 |true=>
  rw[if_pos rfl]at h;rw[h.1];have:=Aq7 k (l.take q);rw[List.length_take]at this;omega
 |false=>
  rw[if_neg (by simp)]at h;rw[h.1,List.length_take];omega
structure RAI (w:World) (wr:World) (out:List BL) (V:Value):Prop where
 below:Below w.heap.size w wr
 row:C9 (fun _=>False) w.heap.size 9 1 wr (dK out) V
def Arl (l:List BL) (w:World) (e:Ending) (w':World):Prop:= ∃V,e=.returned V/\RAI w w' l V
theorem RAI.app {w wr w6:World} {out:List BL} {V V6:Value} {s:ByteArray} (h:RAI w wr out V) (hrow6:C9 (fun _=>False) w.heap.size 9 1 w6 (dK (out++ [s.toList])) V6) (hg6:(wr.alloc (.cells #[.string s] 9)).grownBy w6 V.ownBlock):RAI w w6 (out++ [s.toList]) V6:=by
 have hba:=h.row.base;have h1:=h.below.alloc h.below.size (.cells #[.string s] 9);exact⟨h1.grown hg6 h1.size fun k e=>(hba k e).1,hrow6⟩
set_option maxRecDepth 100000 in
theorem Ar2 (l:List BL) (a:Option Addr) (n c:Nat) (k:ByteArray) (w:World) (hl:Holds w w.heap.size (.row 1 (dK l)) [.slice a n c]) (hlen:l.length<=1000000000):
 Calls Tryz.prog 60 #[.slice a n c,.string k] w (Arl (Ahp l k.toList) w):=by
 obtain⟨j0,hj,hy0,hy1,hy2⟩:=info_parts Aq1;obtain rfl:=Asp hl;have hA0:Aew l k.toList 0 false []:=by unfold Aew;rw[if_neg (by simp)];simp
 have hR0:RAI w w [] (.slice none 0 0):=⟨Below.refl _ _,by simpa[dK]using C9.nil _ _ _ _ _⟩;obtain⟨PO,hPO⟩: ∃P,Arl (Ahp l k.toList) w=P:=⟨_,rfl⟩;rw[hPO];obtain⟨Hl,Hj,Hy0,Hy1,Hy2,HA0,HR0,HPO⟩:=hid8 hl hj hy0 hy1 hy2 hA0 hR0 hPO;clear hl hj hy0 hy1 hy2 hA0 hR0 hPO;go_enter Tryz.func60,Tryz.ntmps60;go_wp2_with (fail);go_loopw [5,6,7] (fun O P I wr=> ∃q:Nat,I=.int .i64 q/\q<=l.length/\ ∃put out,P=.bool put/\Hid (Aew l k.toList q put out)/\Hid (RAI w wr out O)) (fun _ _ i _=>l.length - (intOf i).toNat)
 case atStart=>exact⟨0,rfl,Nat.zero_le _,false, [],rfl,HA0,HR0⟩
 case round=>
  obtain⟨q,rfl,hq,put,out,rfl,hA,hR⟩:=hrel;clear HA0 HR0;by_cases hlt:q<l.length
  . obtain⟨y,hy⟩: ∃y,l[q]? =some y:=⟨_,List.getElem?_eq_getElem hlt⟩;obtain⟨g,off,rfl,hg,cw⟩:=Arp Hl.out hy;obtain⟨Y,hY⟩: ∃t,bsK y=t:=⟨_,rfl⟩;have hYl:Y.toList=y:=by rw[<-hY,Lib.toList_data];simp[bsK]
    rw[hY]at cw;have c0:=(hR.out.below.cell (p:=⟨g,off+q,none⟩) hg).trans cw;have hol:=hA.out.len (by omega);have hz:=hR.out.below.size;have hgr:g<wr.heap.size:=by omega
    have z5:(q:Int)<(l.length:Int):=by omega
    have z6:(0:Int)<=q:=by omega
    clear hY;subst hYl
    cases put with
    |true=>
     have hrow6:=hR.out.row.below (Aa wr (.cells #[.string Y] 9));have hrd6:=Kk (Al.new wr 9 #[.string Y]);have hLo6:(dK out).length+1<=maxLen/\((dK out).length+1)*16<=140737488355328/\w.heap.size<=(wr.alloc (.cells #[.string Y] 9)).heap.size:=by
      rw[Ail];have:=hR.out.below.size;exact⟨by simp only[maxLen];omega,by omega,by simp;omega⟩
     have hap6:dK out++ [.leaf (.string Y)]=dK (out++ [Y.toList]):=by rw[Apo];simp[dK,Ao8]
     obtain⟨Hrow6,Hrd6,HLo6,Hap6⟩:=hid4 hrow6 hrd6 hLo6 hap6;clear hrow6 hrd6 hLo6 hap6;go_wp2_with (at_builtin;apply Shut.out);unfold Shut;refine Fh rfl (.tmp 34) (.tmp 39) 54 rfl Tryz.underlying54 Hj.out Hy0.out Hy1.out Hy2.out rfl (by omega) rfl Hrow6.out HLo6.out.2.2 rfl (Aev _ _ Y) rfl Hrd6.out HLo6.out.1 HLo6.out.2.1 ?_;intro V6 w6 hr6 hg6 hat6;rw[Hap6.out]at hr6;have HR6:=Lib.hid (hR.out.app hr6 hg6);clear hr6 hg6 hat6 Hrow6 Hrd6 HLo6 Hap6;clear c0;have HA':=Lib.hid (hA.out.hit hy);go_wp2;go_roundw
     case rel=>exact⟨q+1,by go_num,by omega,true,_,rfl,HA',HR6⟩
     case measure=>simp only[intOf];omega
    |false=>
     by_cases h1:k.toList<Y.toList
     . have f1:Op.bytesLess k.toList Y.toList=true:=by rw[bytesLess_eq];simpa using h1
       have hst:=hA.out.new hy (List.le_of_lt h1);rw[if_pos h1]at hst;clear h1;have hrow6:=hR.out.row.below (Aa wr (.cells #[.string k] 9));have hrd6:=Kk (Al.new wr 9 #[.string k]);have hLo6:(dK out).length+1<=maxLen/\((dK out).length+1)*16<=140737488355328/\w.heap.size<=(wr.alloc (.cells #[.string k] 9)).heap.size:=by
        rw[Ail];have:=hR.out.below.size;exact⟨by simp only[maxLen];omega,by omega,by simp;omega⟩
       have hap6:dK out++ [.leaf (.string k)]=dK (out++ [k.toList]):=by rw[Apo];simp[dK,Ao8]
       obtain⟨Hrow6,Hrd6,HLo6,Hap6⟩:=hid4 hrow6 hrd6 hLo6 hap6;clear hrow6 hrd6 hLo6 hap6;go_wp2_with (at_builtin;apply Shut.out);unfold Shut;refine Fh rfl (.tmp 30) (.tmp 32) 54 rfl Tryz.underlying54 Hj.out Hy0.out Hy1.out Hy2.out rfl (by omega) rfl Hrow6.out HLo6.out.2.2 rfl (Aev _ _ k) rfl Hrd6.out HLo6.out.1 HLo6.out.2.1 ?_;intro V6 w6 hr6 hg6 hat6;rw[Hap6.out]at hr6;have HR6:=Lib.hid (hR.out.app hr6 hg6);clear hr6 hg6 hat6 Hrow6 Hrd6 HLo6 Hap6;have c6:=(HR6.out.below.cell (p:=⟨g,off+q,none⟩) hg).trans cw;have hgr6:g<w6.heap.size:=by have:=HR6.out.below.size;omega
       have hol6:(out++ [k.toList]).length<=q+2:=by simp;omega
       clear c0;have hrow7:=HR6.out.row.below (Aa w6 (.cells #[.string Y] 9));have hrd7:=Kk (Al.new w6 9 #[.string Y]);have hLo7:(dK (out++ [k.toList])).length+1<=maxLen/\((dK (out++ [k.toList])).length+1)*16<=140737488355328/\w.heap.size<=(w6.alloc (.cells #[.string Y] 9)).heap.size:=by
        rw[Ail];have:=HR6.out.below.size;exact⟨by simp only[maxLen];omega,by omega,by simp;omega⟩
       have hap7:dK (out++ [k.toList])++ [.leaf (.string Y)]=dK ((out++ [k.toList])++ [Y.toList]):=by rw[Apo];simp[dK,Ao8]
       obtain⟨Hrow7,Hrd7,HLo7,Hap7⟩:=hid4 hrow7 hrd7 hLo7 hap7;clear hrow7 hrd7 hLo7 hap7;go_wp2_with (at_builtin;apply Shut.out);unfold Shut;refine Fh rfl (.tmp 34) (.tmp 39) 54 rfl Tryz.underlying54 Hj.out Hy0.out Hy1.out Hy2.out rfl (by omega) rfl Hrow7.out HLo7.out.2.2 rfl (Aev _ _ Y) rfl Hrd7.out HLo7.out.1 HLo7.out.2.1 ?_;intro V7 w7 hr7 hg7 hat7;rw[Hap7.out]at hr7;have HR7:=Lib.hid (HR6.out.app hr7 hg7);clear hr7 hg7 hat7 Hrow7 Hrd7 HLo7 Hap7;clear c6;have HA':=Lib.hid hst;go_wp2;go_roundw
       case rel=>exact⟨q+1,by go_num,by omega,true,_,rfl,HA',HR7⟩
       case measure=>simp only[intOf];omega
     have f1:Op.bytesLess k.toList Y.toList=false:=by rw[bytesLess_eq];simpa using h1
     by_cases h2:k.toList=Y.toList
     . have f2:(k.toList==Y.toList)=true:=by simpa using h2
       have hst:=hA.out.new hy (by rw[h2];exact List.le_refl _);rw[if_neg h1,List.append_nil]at hst;clear h1 h2;have hrow6:=hR.out.row.below (Aa wr (.cells #[.string Y] 9));have hrd6:=Kk (Al.new wr 9 #[.string Y]);have hLo6:(dK out).length+1<=maxLen/\((dK out).length+1)*16<=140737488355328/\w.heap.size<=(wr.alloc (.cells #[.string Y] 9)).heap.size:=by
        rw[Ail];have:=hR.out.below.size;exact⟨by simp only[maxLen];omega,by omega,by simp;omega⟩
       have hap6:dK out++ [.leaf (.string Y)]=dK (out++ [Y.toList]):=by rw[Apo];simp[dK,Ao8]
       obtain⟨Hrow6,Hrd6,HLo6,Hap6⟩:=hid4 hrow6 hrd6 hLo6 hap6;clear hrow6 hrd6 hLo6 hap6;go_wp2_with (at_builtin;apply Shut.out);unfold Shut;refine Fh rfl (.tmp 34) (.tmp 39) 54 rfl Tryz.underlying54 Hj.out Hy0.out Hy1.out Hy2.out rfl (by omega) rfl Hrow6.out HLo6.out.2.2 rfl (Aev _ _ Y) rfl Hrd6.out HLo6.out.1 HLo6.out.2.1 ?_;intro V6 w6 hr6 hg6 hat6;rw[Hap6.out]at hr6;have HR6:=Lib.hid (hR.out.app hr6 hg6);clear hr6 hg6 hat6 Hrow6 Hrd6 HLo6 Hap6;clear c0;have HA':=Lib.hid hst;go_wp2;go_roundw
       case rel=>exact⟨q+1,by go_num,by omega,true,_,rfl,HA',HR6⟩
       case measure=>simp only[intOf];omega
     . have f2:(k.toList==Y.toList)=false:=by simpa using h2
       have hst:=hA.out.skip hy (fun h=>(Aqu h).elim h1 h2);clear h1 h2;have hrow6:=hR.out.row.below (Aa wr (.cells #[.string Y] 9));have hrd6:=Kk (Al.new wr 9 #[.string Y]);have hLo6:(dK out).length+1<=maxLen/\((dK out).length+1)*16<=140737488355328/\w.heap.size<=(wr.alloc (.cells #[.string Y] 9)).heap.size:=by
        rw[Ail];have:=hR.out.below.size;exact⟨by simp only[maxLen];omega,by omega,by simp;omega⟩
       have hap6:dK out++ [.leaf (.string Y)]=dK (out++ [Y.toList]):=by rw[Apo];simp[dK,Ao8]
       obtain⟨Hrow6,Hrd6,HLo6,Hap6⟩:=hid4 hrow6 hrd6 hLo6 hap6;clear hrow6 hrd6 hLo6 hap6;go_wp2_with (at_builtin;apply Shut.out);unfold Shut;refine Fh rfl (.tmp 34) (.tmp 39) 54 rfl Tryz.underlying54 Hj.out Hy0.out Hy1.out Hy2.out rfl (by omega) rfl Hrow6.out HLo6.out.2.2 rfl (Aev _ _ Y) rfl Hrd6.out HLo6.out.1 HLo6.out.2.1 ?_;intro V6 w6 hr6 hg6 hat6;rw[Hap6.out]at hr6;have HR6:=Lib.hid (hR.out.app hr6 hg6);clear hr6 hg6 hat6 Hrow6 Hrd6 HLo6 Hap6;clear c0;have HA':=Lib.hid hst;go_wp2;go_roundw
       case rel=>exact⟨q+1,by go_num,by omega,false,_,rfl,HA',HR6⟩
       case measure=>simp only[intOf];omega
  . obtain rfl:q=l.length:=by omega
    have hol:=hA.out.len (by omega)
    cases put with
    |true=>
     have hd:=hA.out.done_yes;have Hd:=Lib.hid hd;clear hd;clear hA;go_wp2;rw[<-HPO.out];exact⟨_,rfl,by rw[<-Hd.out];exact hR.out⟩
    |false=>
     have hd:=hA.out.done_no;have Hd:=Lib.hid hd;clear hd;clear hA;have hrow6:=hR.out.row.below (Aa wr (.cells #[.string k] 9));have hrd6:=Kk (Al.new wr 9 #[.string k]);have hLo6:(dK out).length+1<=maxLen/\((dK out).length+1)*16<=140737488355328/\w.heap.size<=(wr.alloc (.cells #[.string k] 9)).heap.size:=by
      rw[Ail];have:=hR.out.below.size;exact⟨by simp only[maxLen];omega,by omega,by simp;omega⟩
     have hap6:dK out++ [.leaf (.string k)]=dK (out++ [k.toList]):=by rw[Apo];simp[dK,Ao8]
     obtain⟨Hrow6,Hrd6,HLo6,Hap6⟩:=hid4 hrow6 hrd6 hLo6 hap6;clear hrow6 hrd6 hLo6 hap6;go_wp2_with (at_builtin;apply Shut.out);unfold Shut;refine Fh rfl (.tmp 43) (.tmp 45) 54 rfl Tryz.underlying54 Hj.out Hy0.out Hy1.out Hy2.out rfl (by omega) rfl Hrow6.out HLo6.out.2.2 rfl (Aev _ _ k) rfl Hrd6.out HLo6.out.1 HLo6.out.2.1 ?_;intro V6 w6 hr6 hg6 hat6;rw[Hap6.out]at hr6;have HR6:=Lib.hid (hR.out.app hr6 hg6);clear hr6 hg6 hat6 Hrow6 Hrd6 HLo6 Hap6;go_wp2;rw[<-HPO.out];exact⟨_,rfl,by rw[<-Hd.out];exact HR6.out⟩
end Go.Proofs.YtmglfdckpjegdaaGreatDoor
