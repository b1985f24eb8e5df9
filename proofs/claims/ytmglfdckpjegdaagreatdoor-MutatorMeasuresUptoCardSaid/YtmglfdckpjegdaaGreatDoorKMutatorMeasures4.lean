/- Parts: commonplaceref11.Keys: a mutator's keys, as the document has them. Condition: a bulk of at most 10^8. -/
import Derived.Test.YtmglfdckpjegdaaGreatDoorZShelfK
import Derived.Sort.Grow
import Derived.Laws.EntriesVeiled
import Derived.Lib.RowBridge
import Derived.Test.YtmglfdckpjegdaaGreatDoorKMutatorMeasures3
set_option maxHeartbeats 20000000
namespace Go.Proofs.YtmglfdckpjegdaaGreatDoor
open Go Go.RowKit
theorem Asa: ∀m:Mut,(Anh m).length<=Bm m:=by
 refine Mut.ind ?_;intro k key dst n had was has v l IH;have hl: ∀l:List Mut,(∀m ∈ l,(Anh m).length<=Bm m)->(Abq l).length<=C3 l:=by
  intro l
  induction l with
  |nil=>intro _;simp[Abq,C3]
  |cons x r ih=>
   intro h;have h1:=h x (by simp);have h2:=ih fun m hm=>h m (by simp[hm]);simp only[Abq,C3,List.length_append];omega
 have:=hl l IH;simp only[Anh,Bm,List.length_append]
 split<;>simp only[List.length_cons,List.length_nil]<;>omega
theorem Asd {m:Mut} (h:Anh m= []):Ani m= []:=by
 have:=Ar6 m;rw[h]at this;simpa[Lib.compactUpTo]using this.symm
theorem Asb {S0:Nat->Prop} {b n:Nat} {t:TypeId} {w:World} {l:List BL} {V:Value} (h:C9 S0 b t 1 w (dK l) V) (hn:l.length=n) (h0:0<n):
 ∃g cap,V=.slice (some ⟨g,0,none⟩) n cap/\b<=g/\g<w.heap.size/\n<=cap/\Go.Sort.Holds encStr w g 0 l.toArray:=by
 subst hn;have hb:=h.base;obtain⟨a,c,rfl⟩:=h.slice_n (Ail l);have hcl:=h.close;have h':=h;obtain⟨ns,h1,h2,h3⟩:=h;rcases h1.2 with⟨_,e⟩|⟨g,cap,cur,e,hbg,hg,hnc,_⟩
 . rw[Ail]at e;omega
 . rw[Ail]at e hnc
   cases e
   have hx:Al w g t cur:=hg;refine⟨g,_,rfl,hbg,hx.lt,hnc,fun j hj=> ?_⟩;have hj':j<l.length:=by simpa using hj
   obtain⟨g',off,e',_,hc⟩:=Arp hcl (q:=j) (s:=l[j]) (List.getElem?_eq_getElem hj')
   cases e'
   refine⟨?_,by have:=hx.frozen (0+j);simpa using this⟩;rw[hc];simp[bsK,hj']
theorem Ari {B n g:Nat} {d:Array BL} {os:Array Obj} {w:World} (h:B<=g) (hB:B<=w.heap.size):Below B w (Go.Sort.grow (Go.Sort.putRow encStr (Go.Sort.ahead w n) g 0 d) os):=by
 refine⟨rfl,rfl,rfl,by simp[Go.Sort.ahead],fun k hk=> ?_⟩;rw[Go.Sort.heap_grow_old _ _ (by simp[Go.Sort.ahead];omega)];simp only[Go.Sort.putRow,Go.Sort.mapBlock,Go.Sort.ahead,Array.getElem?_modify];rw[if_neg (by omega)]
theorem Arj {n g:Nat} {d0 d:Array BL} {os:Array Obj} {w:World} (hg:g<w.heap.size) (h:Go.Sort.Holds encStr w g 0 d0) (hs:d.size=d0.size):Go.Sort.Holds encStr (Go.Sort.grow (Go.Sort.putRow encStr (Go.Sort.ahead w n) g 0 d) os) g 0 d:=
 Go.Sort.holds_grow _ _ _ _ _ _ (by simpa[Go.Sort.ahead]using hg) (Go.Sort.holds_putRow encStr (Go.Sort.ahead w n) g 0 d0 d h hs)
theorem Ar4 {g c:Nat} {d:Array BL} {l:List BL} {r:List BL} {w:World} (hg:g<w.heap.size) (h:Go.Sort.Holds encStr w g 0 d) (hd:d=(l++r).toArray):Holds w w.heap.size (.row 1 (dK l)) [.slice (some ⟨g,0,none⟩) l.length c]:=by
 subst hd;have hH: ∀(l:List BL),Aj w w.heap.size (dK l) (l.map fun s=>Value.string (bsK s)):=by
  intro l
  induction l with
  |nil=>rfl
  |cons s r ih=>exact⟨[.string (bsK s)],_,rfl,⟨rfl,rfl⟩,ih⟩
 refine⟨_,c,by rw[Ail], ?_,_,hH l,.inr ⟨g,0,rfl,hg,fun j u hu=> ?_⟩⟩
 . intro x hx;obtain⟨y,_,rfl⟩:=List.mem_map.1 hx;rfl
 . rw[List.getElem?_map]at hu;obtain⟨s,hs,rfl⟩:=Option.map_eq_some_iff.1 hu;have hj:=(List.getElem?_eq_some_iff.1 hs).1;have:=(h j (by simp;omega)).1;rw[Nat.zero_add]at this ⊢;rw[this];have e:(l++r).toArray[j]! =s:=by
    rw[getElem!_pos _ _ (by simp;omega)];simp only[tk1];rw[List.getElem_append_left hj];exact(List.getElem?_eq_some_iff.1 hs).2
   rw[e];rfl
def Aqt (m:Mut) (w:World) (e:Ending) (w':World):Prop:=Below w.heap.size w w'/\ ∃a c,e=.returned (.slice a (Ani m).length c)/\Holds w' w'.heap.size (.row 1 (dK (Ani m))) [.slice a (Ani m).length c]
set_option maxRecDepth 100000 in
theorem Arz (m:Mut) (cs:List Value) (w:World) (h:Holds w w.heap.size (dM m) cs) (hb:Bm m<=100000000):
 Calls Tryz.prog 30 #[.agg cs.toArray] w (Aqt m w):=by
 have hs19:cs.length=19:=by have:=h.len.1;rwa [Ct]at this
 have hgl:=Asa m;have h1:=fun(W:World) (hB:Below w.heap.size w W) (hb:w.heap.size+1+2<=W.heap.size) hx hg hr=>Arr m cs W w.heap.size (w.heap.size+1) (w.heap.size+1+1) (w.heap.size+1+2) [] (.slice none 0 0) (h.below hB) (by omega) (by omega) (by omega) (by omega) (by omega) hb hx hg hr (by omega) (by simp;omega);simp only[List.nil_append]at h1;have hke:=Ar6 m;have hrn:=Asd (m:=m);obtain⟨gl,hgm⟩: ∃l,Anh m=l:=⟨_,rfl⟩;have hKP:Aqt m w=fun e w'=>Below w.heap.size w w'/\ ∃a c,e=.returned (.slice a (Ani m).length c)/\Holds w' w'.heap.size (.row 1 (dK (Ani m))) [.slice a (Ani m).length c]:=rfl;rw[hKP];clear hKP;rw[hgm]at h1 hke hrn hgl;generalize Ani m=rk at hke hrn ⊢;obtain⟨ca,hca⟩: ∃ca,cs.toArray=ca:=⟨_,rfl⟩;have hs1:ca.size=19:=by rw[<-hca];simpa using hs19
 rw[hca]at h1 ⊢;obtain⟨PO,hPO⟩: ∃P:Ending->World->Prop,(fun e w'=>Below w.heap.size w w'/\ ∃a c,e=.returned (.slice a rk.length c)/\Holds w' w'.heap.size (.row 1 (dK rk)) [.slice a rk.length c])=P:=⟨_,rfl⟩;rw[hPO];obtain⟨H1,HPO,Hke,Hrn⟩:=hid4 h1 hPO hke hrn;clear h1 hPO hke hrn;clear h hca hgm;go_enter Tryz.func30,Tryz.ntmps30;go_upto_region 4 with(fail);have hw3:Below w.heap.size w (((w.alloc (.cells ca Ag)).alloc (.cells #[.slice none 0 0] 54)).alloc (.cells #[fvK (w.heap.size+1) (w.heap.size+1+1)] 83)):=(Bj _ _ _).alloc (by simp;omega) _;have hx3:Al (((w.alloc (.cells ca Ag)).alloc (.cells #[.slice none 0 0] 54)).alloc (.cells #[fvK (w.heap.size+1) (w.heap.size+1+1)] 83)) w.heap.size Ag ca:=((Al.new _ _ _).alloc _).alloc _;have hL3:Al (((w.alloc (.cells ca Ag)).alloc (.cells #[.slice none 0 0] 54)).alloc (.cells #[fvK (w.heap.size+1) (w.heap.size+1+1)] 83)) (w.heap.size+1) 54 #[.slice none 0 0]:=by
  have:=(Al.new (w.alloc (.cells ca Ag)) 54 #[.slice none 0 0]).alloc (.cells #[fvK (w.heap.size+1) (w.heap.size+1+1)] 83);simpa using this
 have hG3:Al (((w.alloc (.cells ca Ag)).alloc (.cells #[.slice none 0 0] 54)).alloc (.cells #[fvK (w.heap.size+1) (w.heap.size+1+1)] 83)) (w.heap.size+1+1) 83 #[fvK (w.heap.size+1) (w.heap.size+1+1)]:=by
  have:=Al.new ((w.alloc (.cells ca Ag)).alloc (.cells #[.slice none 0 0] 54)) 83 #[fvK (w.heap.size+1) (w.heap.size+1+1)];simpa using this
 have hz3:w.heap.size+1+2<=(((w.alloc (.cells ca Ag)).alloc (.cells #[.slice none 0 0] 54)).alloc (.cells #[fvK (w.heap.size+1) (w.heap.size+1+1)] 83)).heap.size:=by simp
 generalize (((w.alloc (.cells ca Ag)).alloc (.cells #[.slice none 0 0] 54)).alloc (.cells #[fvK (w.heap.size+1) (w.heap.size+1+1)] 83))=w3 at hw3 hx3 hL3 hG3 hz3 ⊢;have hC:=H1.out w3 hw3 hz3 hL3 hG3 (by simpa[dK]using C9.nil _ _ _ _ _);have eG:=hG3.cell 0;have gG:=hG3.lt;obtain⟨Hw3,Hx3,HC⟩:=hid3 hw3 hx3 hC;clear hw3 hx3 hC;clear hL3 hG3 H1
 iterate 5 go_step
 refine Ac Ag (.tmp 1) rfl w.heap.size _ Hx3.out rfl _ Tryz.underlying30 rfl (by rw[hs1];kernel_rfl) ?_;go_wp2_with (fail);(with_reducible refine(HC.out).mono ?_);rintro e w4 ⟨rfl,V4,hk4,hL4,hrow4,_⟩;have hw4:Below w.heap.size w w4:=Hw3.out.trans (hk4.below (by
  rintro k (e|e)
  . omega
  . cases e) Hw3.out.size)
 have hcl4:=hrow4.base;obtain⟨a4,c4,rfl⟩:=hrow4.slice_n (Ail gl);have e4:=hL4.cell 0;have l4:=hL4.lt;by_cases hgn:gl.length=0
 . have hgl0:gl= []:=List.eq_nil_of_length_eq_zero hgn;have hr0:=Hrn.out hgl0;subst hgl0;subst hr0;have hS:=fun W=>Tryz.slices_Sort_string_none a4 c4 W;have hCm:=fun W=>Tryz.slices_Compact_string_empty a4 c4 W;obtain⟨Hw4,HS,HCm⟩:=hid3 hw4 hS hCm;clear hw4 hS hCm;clear hk4 hL4 hrow4 HC;simp only[List.length_nil]at e4;go_wp2_with (fail);(with_reducible refine(HS.out _).mono ?_);rintro e w5 ⟨rfl,rfl⟩;go_wp2_with (fail);(with_reducible refine(HCm.out _).mono ?_);rintro e w6 ⟨rfl,rfl⟩;go_wp2;rw[<-HPO.out];exact⟨Hw4.out,a4,c4,rfl,a4,c4,rfl,by simp[dK], [],rfl,.inl rfl⟩
 . obtain⟨g,cap,he,hbg,hgw,hcap,hH⟩:=Asb hrow4 rfl (by omega)
   cases he
   have hS:=Tryz.slices_Sort_string g 0 c4 gl w4 hH hgw (by omega);obtain⟨Hw4,HS⟩:=hid2 hw4 hS;clear hw4 hS;clear hk4 hrow4 HC;go_wp2_with (fail);(with_reducible refine(HS.out).mono ?_);rintro e w5 ⟨rfl,ns,os,rfl⟩;have hsl:(gl.mergeSort fun x y=>decide (x<=y)).toArray.size=gl.length:=by simp
   have hb5:=Ari (B:=w.heap.size+1+2) (n:=ns) (d:=(gl.mergeSort fun x y=>decide (x<=y)).toArray) (os:=os) hbg (w:=w4) (by omega);have hH5:=Arj (n:=ns) (os:=os) (d:=(gl.mergeSort fun x y=>decide (x<=y)).toArray) hgw hH (by simp);generalize Go.Sort.grow (Go.Sort.putRow encStr (Go.Sort.ahead w4 ns) g 0 (gl.mergeSort fun x y=>decide (x<=y)).toArray) os=w5 at hb5 hH5 ⊢;have e5:=(hb5.cell (p:=⟨w.heap.size+1,0,none⟩) (by show w.heap.size+1<_;omega)).trans e4;have hz5:=hb5.size;have l5:w.heap.size+1<w5.heap.size:=by omega
   have hgw5:g<w5.heap.size:=by omega
   have hw5:Below w.heap.size w w5:=Hw4.out.trans (hb5.mono (by omega));have hCm:=Tryz.slices_Compact_string_arr g 0 c4 (gl.mergeSort fun x y=>decide (x<=y)).toArray w5 hH5 (by omega) (by omega);have hle:=Lib.compact_length_le (gl.mergeSort fun x y=>decide (x<=y));unfold Lib.compact at hle;rw[List.length_mergeSort]at hle;rw[hsl]at hCm;rw[Hke.out]at hCm hle;generalize (gl.mergeSort fun x y=>decide (x<=y)).toArray=d at hCm hH5 hsl;obtain⟨HCm,Hw5⟩:=hid2 hCm hw5;clear hCm hw5;clear hb5 e4 l4 HS;go_wp2_with (fail);(with_reducible refine(HCm.out).mono ?_);rintro e w6 ⟨rfl,q,rfl⟩;rw[<-Go.Sort.grow_empty (Go.Sort.putRow encStr (Go.Sort.ahead w5 q) g 0 _)];have hb6:=Ari (B:=w.heap.size+1+2) (n:=q) (d:=(rk++List.replicate (gl.length - rk.length) []).toArray) (os:= #[]) hbg (w:=w5) (by omega);have hH6:=Arj (n:=q) (os:= #[]) (d:=(rk++List.replicate (gl.length - rk.length) []).toArray) hgw5 hH5 (by simp;omega);generalize Go.Sort.grow (Go.Sort.putRow encStr (Go.Sort.ahead w5 q) g 0 (rk++List.replicate (gl.length - rk.length) []).toArray) #[]=w6 at hb6 hH6 ⊢;have hgw6:g<w6.heap.size:=by have:=hb6.size;omega
   have hfin:=Ar4 (c:=c4) hgw6 hH6 rfl;have hw6:Below w.heap.size w w6:=Hw5.out.trans (hb6.mono (by omega));obtain⟨Hfin,Hw6⟩:=hid2 hfin hw6;clear hfin hw6;clear hb6 hH6 hH5 HCm e5;go_wp2;rw[<-HPO.out];exact⟨Hw6.out,_,_,rfl,Hfin.out⟩
theorem Arh (m:Mut): ∀(a:List Mut) (out:List BL),Agc (a++ [m]) out=(Ani m).foldl Ahp (Agc a out)
 | [],out=>rfl
 |x::a,out=>by simp only[List.cons_append,Agc,Arh m a]
theorem Aqw: ∀(l out:List BL),(l.foldl Ahp out).length<=out.length+l.length
 | [],out=>by simp
 |x::l,out=>by
  have h1:=Aqw l (Ahp out x);have h2:=Aq7 x out;simp only[List.foldl_cons,List.length_cons];omega
theorem Aq2: ∀(l:List Mut) (out:List BL),(∀m ∈ l,(Ani m).length<=Bm m)->(Agc l out).length<=out.length+C3 l
 | [],out,_=>by simp[Agc,C3]
 |x::r,out,h=>by
  have h1:=Aq2 r ((Ani x).foldl Ahp out) fun m hm=>h m (by simp[hm]);have h2:=Aqw (Ani x) out;have h3:=h x (by simp);simp only[Agc,C3];omega
theorem Arg: ∀m:Mut,(Ani m).length<=Bm m:=by
 refine Mut.ind ?_;intro k key dst n had was has v l IH;have h1:=Aq2 l (if k≠6/\key.toList≠ []then [key.toList]else []) IH;simp only[Ani,Bm];have:(if k≠6/\key.toList≠ []then [key.toList]else []).length<=1:=by split<;>simp
 omega
theorem Aq4: ∀(l:List Mut) (q:Nat),C3 (l.take q)<=C3 l
 | [],q=>by simp[C3]
 |x::r,0=>by simp[C3]
 |x::r,q+1=>by
  have:=Aq4 r q;simp only[List.take_succ_cons,C3];omega
theorem Arb {w:World} {B:Nat} {l:List BL} {V:Value} (h:Holds w B (.row 1 (dK l)) [V]): ∃a c,V=.slice a l.length c:=by
 obtain⟨a,c,e,_⟩:=h;rw[Ail]at e
 cases e
 exact⟨a,c,rfl⟩
structure RKI (w:World) (box:Array Value) (out:List BL) (wr:World) (O:Value):Prop where
 below:Below w.heap.size w wr
 box:Al wr w.heap.size Ag box
 row:Holds wr wr.heap.size (.row 1 (dK out)) [O]
theorem RKI.call {w wr w':World} {box:Array Value} {out:List BL} {O:Value} (h:RKI w box out wr O) (hb:Below wr.heap.size wr w'):RKI w box out w' O:=
 ⟨h.below.trans (hb.mono h.below.size),h.box.below hb h.box.lt,(h.row.below hb).more hb.size⟩
theorem RKI.next {w wr w':World} {box:Array Value} {out out':List BL} {O:Value} {e:Ending} (h:RKI w box out wr O) (hp:Arl out' wr e w'): ∃O',e=.returned O'/\RKI w box out' w' O':=by
 obtain⟨V,rfl,h1,h2⟩:=hp;obtain⟨a,c,rfl⟩:=h2.slice_n (Ail out');exact⟨_,rfl,h.below.trans (h1.mono h.below.size),h.box.below h1 h.box.lt,h2.close⟩
def RKC (m:Mut):Prop:= ∀(cs:List Value) (w:World),Holds w w.heap.size (dM m) cs->Bm m<=100000000->Calls Tryz.prog 31 #[.agg cs.toArray] w (Aqt m w)
theorem Asg (w:World):Holds w w.heap.size (.row 1 (dK [])) [.slice none 0 0]:=⟨none,0,rfl,by simp[dK], [],rfl,.inl rfl⟩
set_option maxRecDepth 100000 in
theorem Ar3 (k:Int) (key:ByteArray) (y2 y3 y4 y5 y6 y7 y8 y9 y10 y11 y12 y13 y14 y15 y16 y17:Value) (l:List Mut) (a:Option Addr) (c:Nat) (w:World)
 (hl:Holds w w.heap.size (.row 19 (Gw l)) [.slice a l.length c]) (hbl:C3 l<=100000000) (own:List BL) (hown:(if k≠6/\key.toList≠ []then [key.toList]else [])=own) (ih: ∀x ∈ l,RKC x):
 Calls Tryz.prog 31 #[.agg #[.int .i64 k,.string key,y2,y3,y4,y5,y6,y7,y8,y9,y10,y11,y12,y13,y14,y15,y16,y17,.slice a l.length c]] w fun e w'=>Below w.heap.size w w'/\ ∃a c,e=.returned (.slice a (Agc l own).length c)/\Holds w' w'.heap.size (.row 1 (dK (Agc l own))) [.slice a (Agc l own).length c]:=by
 obtain⟨j0,hj,hy0,hy1,hy2⟩:=info_parts Aq1;obtain⟨BX,hBX⟩: ∃b:Array Value, #[.int .i64 k,.string key,y2,y3,y4,y5,y6,y7,y8,y9,y10,y11,y12,y13,y14,y15,y16,y17,.slice a l.length c]=b:=⟨_,rfl⟩;have hcell: ∀W,Al W w.heap.size Ag BX->W.cell? ⟨w.heap.size,0,none⟩=some (.int .i64 k)/\W.cell? ⟨w.heap.size,1,none⟩=some (.string key)/\W.cell? ⟨w.heap.size,18,none⟩=some (.slice a l.length c):=fun W hx=>by
  subst hBX;exact⟨hx.cell 0,hx.cell 1,hx.cell 18⟩
 rw[hBX];clear hBX;obtain⟨PO,hPO⟩: ∃P:Ending->World->Prop,(fun e w'=>Below w.heap.size w w'/\ ∃a c,e=.returned (.slice a (Agc l own).length c)/\Holds w' w'.heap.size (.row 1 (dK (Agc l own))) [.slice a (Agc l own).length c])=P:=⟨_,rfl⟩;rw[hPO];have hol:own.length<=1:=by rw[<-hown];split<;>simp
 have hI0:RKI w BX [] (w.alloc (.cells BX Ag)) (.slice none 0 0):=⟨Aa _ _,Al.new _ _ _,Asg _⟩;obtain⟨w0,hw0⟩: ∃w0,w.alloc (.cells BX Ag)=w0:=⟨_,rfl⟩;rw[hw0]at hI0;obtain⟨x0,x1,_⟩:=hcell _ hI0.box;have xl:=hI0.box.lt;obtain⟨HPO,Hcell,HI0,Hj,Hy0,Hy1,Hy2,Hl,Ih,Hown⟩:=hid10 hPO hcell hI0 hj hy0 hy1 hy2 hl ih hown;clear hPO hcell hI0 hj hy0 hy1 hy2 hl ih hown;go_enter Tryz.func31,Tryz.ntmps31;go_upto_region 2 with(fail);clear hw0;obtain⟨P,hP⟩: ∃P:Bool,decide (k≠6/\key.toList≠ [])=P:=⟨_,rfl⟩;have HP:=Lib.hid hP;clear hP;go_cut [14] (fun s wx=>s=.bool P/\wx=w0)
 case first=>
  by_cases hk:k=6
  . have:P=false:=by rw[<-HP.out];simp[hk]
    subst this;subst hk;go_wp2;go_meet;exact⟨rfl,rfl⟩
  . have e1:(k != 6)=true:=by simpa using hk
    cases hk2:key.toList.isEmpty with
    |true=>
     have:P=false:=by rw[<-HP.out];simp at hk2;simp[hk2]
     subst this;go_wp2;go_meet;exact⟨rfl,rfl⟩
    |false=>
     have:P=true:=by rw[<-HP.out];simp at hk2;simp[hk,hk2]
     subst this;go_wp2;go_meet;exact⟨rfl,rfl⟩
 obtain⟨rfl,e0⟩:=hcut;have e0:=e0.symm;subst e0;have hown2:own=if P=true then [key.toList]else []:=by rw[<-Hown.out,<-HP.out];simp
 clear x0;go_upto_if 14 with(fail);go_cut [3] (fun O wx=>Hid (RKI w BX own wx O))
 case first=>
  cases P with
  |true=>
   have ho:own= [key.toList]:=hown2;subst ho;have hrow1:C9 (fun _=>False) (w0.alloc (.cells #[.string key] 9)).heap.size 9 1 (w0.alloc (.cells #[.string key] 9)) (dK []) (.slice none 0 0):=by simpa[dK]using C9.nil _ _ _ _ _
   have hrd:=Kk (Al.new w0 9 #[.string key]);have hap:dK []++ [.leaf (.string key)]=dK [key.toList]:=by simp[dK,Ao8]
   have hI1:=HI0.out.call (Aa w0 (.cells #[.string key] 9));obtain⟨Hrow1,Hrd,Hap,HI1⟩:=hid4 hrow1 hrd hap hI1;clear hrow1 hrd hap hI1;clear hown2;go_wp2_with (at_builtin;apply Shut.out);unfold Shut;refine Fh rfl (.tmp 15) (.tmp 18) 54 rfl Tryz.underlying54 Hj.out Hy0.out Hy1.out Hy2.out rfl (by omega) rfl Hrow1.out (Nat.le_refl _) rfl (Aev _ _ key) rfl Hrd.out (by simp[dK,maxLen]) (by simp[dK]) ?_;intro V6 w6 hrow6 hg6 hat6;rw[Hap.out]at hrow6;obtain⟨a6,c6,rfl⟩:=hrow6.slice_n (Ail [key.toList]);have hb6:Below (w0.alloc (.cells #[.string key] 9)).heap.size (w0.alloc (.cells #[.string key] 9)) w6:=(Below.refl _ _).grown hg6 (Nat.le_refl _) fun k e=>by cases e
   have hI6:RKI w BX [key.toList] w6 (.slice a6 [key.toList].length c6):=⟨(HI1.out.call hb6).below,(HI1.out.call hb6).box,hrow6.close⟩;have HI6:=Lib.hid hI6;clear hI6;clear hrow6 hg6 hat6 hb6 x1;go_wp2;go_meet;exact HI6
  |false=>
   have ho:own= []:=hown2;subst ho;clear hown2;go_wp2;go_meet;exact HI0
 case rest=>
  have h00:Agc (l.take 0) own=own:=by simp[Agc]
  have hI2:=hcut;rw[<-h00]at hI2;have x18:=(Hcell.out _ hcut.out.box).2.2;have xl1:=hcut.out.box.lt;have hls:=Fm l;clear HI0 hown2 x1 xl h00;go_wp2_with (fail);go_loopw [3,4] (fun O i wr=> ∃q:Nat,i=.int .i64 q/\q<=l.length/\Hid (RKI w BX (Agc (l.take q) own) wr O)) (fun _ i _=>l.length - (intOf i).toNat)
  case atStart=>exact⟨0,rfl,Nat.zero_le _,hI2⟩
  case round=>
   obtain⟨q,rfl,hq,hI⟩:=hrel;clear hI2 x18 xl1;have x18:=(Hcell.out _ hI.out.box).2.2;have xlr:=hI.out.box.lt;by_cases hlt:q<l.length
   . obtain⟨m,hm⟩: ∃p,l[q]? =some p:=⟨_,List.getElem?_eq_getElem hlt⟩;have hmem:=List.mem_of_getElem? hm;have hbm:=D1 hmem;have hbw:=hI.out.below;have hz:=hbw.size;obtain⟨g,off,rfl,hg,cs',hcs,hn1,hcl⟩:=Ki (Hl.out.below hbw) hm;have hrange:wr.rangeAt g (off+q*19) cs':=hcl;have hi1:(Tryz.prog.info? Ag).map (·.size)=some cs'.length:=by rw[hn1];kernel_rfl
     have hC:=Ih.out m hmem cs' wr (hcs.more hz) (by omega);have hrl:=Arg m;have hol2:=Aq2 (l.take q) own fun m _=>Arg m;have hbt:C3 (l.take q)<=C3 l:=Aq4 l q;have hsn:Agc (l.take (q+1)) own=(Ani m).foldl Ahp (Agc (l.take q) own):=by rw[List.take_add_one,hm];exact Arh m _ _
     have z1:g<wr.heap.size:=by omega
     have z5:(q:Int)<(l.length:Int):=by omega
     have z6:(0:Int)<=q:=by omega
     obtain⟨HC,Hsn⟩:=hid2 hC hsn;clear hC hsn;clear hm hmem hcs hcl;go_upto_region 7 with(fail)
     iterate 14 go_step
     refine wp_load_mid Ag (.tmp 30) rfl g (off+q*19) rfl cs' _ hrange Tryz.underlying30 rfl hi1 ?_;go_wp2_with (fail);(with_reducible refine(HC.out).mono ?_);rintro e w4 ⟨hb4,al,cl,rfl,hR4⟩;have hI4:=hI.out.call hb4;obtain⟨HI4,HR4⟩:=hid2 hI4 hR4;clear hI4 hR4;clear HC hI hb4 hrange x18 xlr hbw hz z1;generalize Agc (l.take q) own=out0 at HI4 Hsn hol2;generalize hRK:Ani m=rk at HR4 Hsn hrl ⊢;clear hRK;clear wr;go_wp2_with (fail);go_loopw [3,6] (fun O i wr=> ∃j:Nat,i=.int .i64 j/\j<=rk.length/\Hid (RKI w BX ((rk.take j).foldl Ahp out0) wr O)/\Hid (Holds wr wr.heap.size (.row 1 (dK rk)) [.slice al rk.length cl])) (fun _ i _=>rk.length - (intOf i).toNat)
     case atStart=>exact⟨0,rfl,Nat.zero_le _,HI4,HR4⟩
     case round=>
      obtain⟨j,rfl,hj,hJ,hK⟩:=hrel;clear HI4 HR4;by_cases hlt2:j<rk.length
      . obtain⟨s,hs⟩: ∃s,rk[j]? =some s:=⟨_,List.getElem?_eq_getElem hlt2⟩;obtain⟨g2,off2,rfl,hg2,c0⟩:=Arp hK.out hs;have hfl:=Aqw (rk.take j) out0;rw[List.length_take]at hfl;obtain⟨ao,co,rfl⟩:=Arb hJ.out.row;have hA:=Ar2 ((rk.take j).foldl Ahp out0) ao _ co (bsK s) wr hJ.out.row (by omega);have hnx:Ahp ((rk.take j).foldl Ahp out0) (bsK s).toList=(rk.take (j+1)).foldl Ahp out0:=by
         rw[show(bsK s).toList=s by rw[Lib.toList_data];simp[bsK],List.take_add_one,hs];simp
        rw[hnx]at hA;have y5:(j:Int)<(rk.length:Int):=by omega
        have y6:(0:Int)<=j:=by omega
        have HA:=Lib.hid hA;clear hA;clear hs hnx;go_wp2_with (fail);(with_reducible refine(HA.out).mono ?_);intro e w6 hp;have hK6:Holds w6 w6.heap.size (.row 1 (dK rk)) [.slice (some ⟨g2,off2,none⟩) rk.length cl]:=by
         obtain⟨_,_,h1⟩:=hp;exact(hK.out.below h1.below).more h1.below.size
        obtain⟨O',rfl,hJ6⟩:=hJ.out.next hp
        obtain⟨HK6,HJ6⟩:=hid2 hK6 hJ6;clear hK6 hJ6;clear hp HA hJ hK c0;go_wp2;go_roundw
        case rel=>exact⟨j+1,by go_num,by omega,HJ6,HK6⟩
        case measure=>simp only[intOf];omega
      . obtain rfl:j=rk.length:=by omega
        have hJ2:=hJ;rw[List.take_length,<-Hsn.out]at hJ2;clear hJ hK;go_wp2;go_roundw
        case rel=>exact⟨q+1,by go_num,by omega,hJ2⟩
        case measure=>simp only[intOf];omega
   . obtain rfl:q=l.length:=by omega
     have hI2:=hI;rw[List.take_length]at hI2;obtain⟨ao,co,rfl⟩:=Arb hI2.out.row;clear hI;go_wp2;rw[<-HPO.out];exact⟨hI2.out.below,ao,co,rfl,hI2.out.row⟩
theorem Art: ∀m,RKC m:=by
 refine Mut.ind ?_;intro k key dst n had was has v l IH cs w h hb;obtain⟨k1,b1,n1,t1,l1,o1⟩:=was;obtain⟨k2,b2,n2,t2,l2,o2⟩:=v;obtain⟨la1,lc1,oa1,oc1,la2,lc2,oa2,oc2,a,c,rfl,_,_,hl⟩:=Bq h;simp only[Bm]at hb;exact Ar3 k key _ _ _ _ _ _ _ _ _ _ _ _ _ _ _ _ l a c w hl (by omega) _ rfl IH
end Go.Proofs.YtmglfdckpjegdaaGreatDoor
