/- Parts: A mutator's guard, and what MutCas writes: the pairs. Condition: values of a bulk of at most 10^8. -/
import Derived.Test.YtobmaegpfbheoaaGreatDoorKPf19
import Derived.Test.YtobmaegpfbheoaaGreatDoorKPf20
set_option maxHeartbeats 20000000
set_option maxRecDepth 100000
namespace Go.Proofs.YtobmaegpfbheoaaGreatDoor
open Go Go.RowKit
theorem A4 (s:ByteArray) (w:World):Calls Tryz.prog 67 #[.string s] w fun e w'=>e=.returned (.agg #[.int .i64 4,.bool false,.int .i64 0,.string s,.slice none 0 0,.slice none 0 0])/\Below w.heap.size w w':=by
 go_enter Tryz.func67,Tryz.ntmps67;go_wp2;exact bodyPost_ret (v:=.agg #[.int .i64 4,.bool false,.int .i64 0,.string s,.slice none 0 0,.slice none 0 0]) (by simp[results,Tryz.results67,go_sem]) rfl ⟨rfl,(Below.refl _ _).alloc (Nat.le_refl _) _⟩
def Cz (b:Nat) (w:World) (o:List (ByteArray×Val)) (V:Value):Prop:= ∃g c ns,V=.slice (some ⟨g,0,none⟩) o.length c/\b<=g/\g<w.heap.size/\Az b w (dO o) ns/\ ∀j u,ns[j]? =some u->w.cell? ⟨g,j,none⟩=some u
def B1 (o:List (ByteArray×Val)) (w:World) (e:Ending) (w':World):Prop:=Below w.heap.size w w'/\ ∃V,e=.returned V/\Cz w.heap.size w' o V
theorem Cj {b:Nat} {w:World} {t:TypeId} {cs:Array Value} {o:List (ByteArray×Val)} {n c:Nat} (hb:b<=w.heap.size) (hn:n=o.length) (h:Az b (w.alloc (.cells cs t)) (dO o) cs.toList):Cz b (w.alloc (.cells cs t)) o (.slice (some ⟨w.heap.size,0,none⟩) n c):=by
 subst hn;have hx:=Aj.new w t cs;exact⟨_,c,cs.toList,rfl,hb,hx.lt,h,fun j u hu=>(hx.cell j).trans (by rw[<-Array.getElem?_toList];exact hu)⟩
theorem Az.app {b:Nat} {w:World} {l r:List D} {cs es:List Value} (h:Az b w l cs) (k:Az b w r es):Az b w (l++r) (cs++es):=fun w'' h1 h2=>(h w'' h1 h2).app (k w'' h1 h2)
theorem Az.one {b:Nat} {w:World} {d:D} {cs:List Value} (h:Ax b w d cs):Az b w [d] cs:=fun w'' h1 h2=>Ae.one (h w'' h1 h2)
theorem Xn (b:Nat) (w:World) (key:ByteArray) (n:Int):Ax b w (dP (key,iv n)) [.string key,.int .i64 3,.bool false,.int .i64 n,.string ⟨#[]⟩,.slice none 0 0,.slice none 0 0]:=fun _ _ _=>Lj _ _ _ _
theorem Wn (y0:Value) (key:ByteArray) (y2 y3 y4 y5 y6 y7 y8 y9 y10 y11 y12 y13 y14 y15 y16 y17 y18:Value) (w:World):
 Calls Tryz.prog 71 #[.agg #[y0,.string key,y2,y3,y4,y5,y6,y7,y8,y9,y10,y11,y12,y13,y14,y15,y16,y17,y18]] w (B1 [(A1,tv key)] w):=by
 have HC:=qz (fun W=>A4 key W);go_enter Tryz.func71,Tryz.ntmps71;go_wp2_with (fail);(with_reducible refine(HC.out _).mono ?_);rintro e w1 ⟨rfl,hb1⟩;have hbw:=(Aa w _).trans (hb1.mono (by simp));have hz:=hbw.size;have Hbw:=qz hbw;clear hbw;go_wp2;go_ret;exact⟨Hbw.out.alloc hz _,_,rfl,Cj hz rfl (Az.one (Ci _ _ A1 key))⟩
theorem T8 (y0:Value) (key dst:ByteArray) (y3 y4 y5 y6 y7 y8 y9 y10 y11 y12 y13 y14 y15 y16 y17 y18:Value) (w:World):
 Calls Tryz.prog 77 #[.agg #[y0,.string key,.string dst,y3,y4,y5,y6,y7,y8,y9,y10,y11,y12,y13,y14,y15,y16,y17,y18]] w (B1 [(D0,tv key),(Ot,tv dst)] w):=by
 have HC:=qz (fun W=>A4 key W);have HD:=qz (fun W=>A4 dst W);obtain⟨wi,hwi⟩: ∃wi,w.alloc (.cells #[y0,.string key,.string dst,y3,y4,y5,y6,y7,y8,y9,y10,y11,y12,y13,y14,y15,y16,y17,y18] 45)=wi:=⟨_,rfl⟩;have Hbi:Hid (Below w.heap.size w wi):=hwi▸Aa _ _;have hxb:Aj wi w.heap.size 45 #[y0,.string key,.string dst,y3,y4,y5,y6,y7,y8,y9,y10,y11,y12,y13,y14,y15,y16,y17,y18]:=hwi▸Aj.new _ _ _;have d1:=hxb.cell 1;have d2:=hxb.cell 2;have hgb:=hxb.lt;have Hxb:=qz hxb;clear hxb;go_enter Tryz.func77,Tryz.ntmps77;go_upto_region 1 with(fail);clear hwi
 go_region_held3 (fun W=>W.cell? ⟨w.heap.size,1,none⟩=some (.string key)/\W.cell? ⟨w.heap.size,2,none⟩=some (.string dst)) (go_keep) (first
  |(go_at_call 67;refine(HC.out _).mono ?_;rintro e w2 ⟨rfl,hb2⟩;have hbr2:Below wi.heap.size wi w2:=((Below.drew (Below.refl _ _)).trans hb2);obtain⟨hc2,hg2⟩:=At hbr2)
  |(go_at_call 67;refine(HD.out _).mono ?_;rintro e w3 ⟨rfl,hb3⟩;have hbr3:=hbr2.trans (hb3.mono hbr2.size);obtain⟨hc3,hg3⟩:=At hbr3))
 all_goals
  have HB:=qz (Hbi.out.trans (hbr3.mono Hbi.out.size));clear hc2 hg2 hc3 hg3 hb2 hb3 hbr2 hbr3;go_wp2;go_ret;exact⟨HB.out.alloc HB.out.size _,_,rfl,Cj HB.out.size rfl ((Az.one (Ci _ _ D0 key)).app (Az.one (Ci _ _ Ot dst)))⟩
theorem Wo (y0:Value) (key:ByteArray) (y2:Value) (n:Int) (y4 y5 y6 y7 y8 y9 y10 y11 y12 y13 y14 y15 y16 y17 y18:Value) (w:World):
 Calls Tryz.prog 75 #[.agg #[y0,.string key,y2,.int .i64 n,y4,y5,y6,y7,y8,y9,y10,y11,y12,y13,y14,y15,y16,y17,y18]] w (B1 [(O0,iv n),(A1,tv key)] w):=by
 have hC:=fun W=>A4 key W;go_enter Tryz.func75,Tryz.ntmps75;go_upto_region 2 with(fail);obtain⟨wi,hwi⟩: ∃wi,(w.alloc (.cells #[y0,.string key,y2,.int .i64 n,y4,y5,y6,y7,y8,y9,y10,y11,y12,y13,y14,y15,y16,y17,y18] 45)).alloc (.cells #[.int .i64 3,.bool false,.int .i64 n,.string ⟨#[]⟩,.slice none 0 0,.slice none 0 0] 42)=wi:=⟨_,rfl⟩;have Hbi:Hid (Below w.heap.size w wi):=hwi▸((Aa _ _).alloc (by simp) _);have hxb:Aj wi w.heap.size 45 #[y0,.string key,y2,.int .i64 n,y4,y5,y6,y7,y8,y9,y10,y11,y12,y13,y14,y15,y16,y17,y18]:=hwi▸(Aj.new _ _ _).alloc _;have hxv:Aj wi (w.heap.size+1) 42 #[.int .i64 3,.bool false,.int .i64 n,.string ⟨#[]⟩,.slice none 0 0,.slice none 0 0]:=by
  rw[<-hwi];have:=Aj.new (w.alloc (.cells #[y0,.string key,y2,.int .i64 n,y4,y5,y6,y7,y8,y9,y10,y11,y12,y13,y14,y15,y16,y17,y18] 45)) 42 #[.int .i64 3,.bool false,.int .i64 n,.string ⟨#[]⟩,.slice none 0 0,.slice none 0 0]
  rwa [World.size_alloc]at this
 have d1:=hxb.cell 1;obtain⟨v0,v1,v2,v3,v4,v5⟩:=B0 hxv;have hgb:=hxb.lt;have hgv:=hxv.lt;obtain⟨HC,Hxb,Hxv⟩:=hid3 hC hxb hxv;clear hC hxb hxv;rw[hwi];clear hwi
 go_region_held3 (fun W=>W.cell? ⟨w.heap.size,1,none⟩=some (.string key)/\W.cell? ⟨w.heap.size+1,0,none⟩=some (.int .i64 3)/\W.cell? ⟨w.heap.size+1,1,none⟩=some (.bool false)/\W.cell? ⟨w.heap.size+1,2,none⟩=some (.int .i64 n)/\W.cell? ⟨w.heap.size+1,3,none⟩=some (.string ⟨#[]⟩)/\W.cell? ⟨w.heap.size+1,4,none⟩=some (.slice none 0 0)/\W.cell? ⟨w.heap.size+1,5,none⟩=some (.slice none 0 0)) (go_keep) (first
  |(go_at_call 67;refine(HC.out _).mono ?_;rintro e w2 ⟨rfl,hb2⟩;have hbr2:Below wi.heap.size wi w2:=((Below.drew (Below.refl _ _)).trans hb2);obtain⟨hc2,hg2⟩:=At hbr2))
 all_goals
  have HB:=qz (Hbi.out.trans (hbr2.mono Hbi.out.size));clear hc2 hg2 hb2 hbr2;go_wp2;go_ret;exact⟨HB.out.alloc HB.out.size _,_,rfl,Cj HB.out.size rfl ((Az.one (Xn _ _ O0 n)).app (Az.one (Ci _ _ A1 key)))⟩
theorem Oo (y0:Value) (key:ByteArray) (y2 y3 y4 y5 y6 y7 y8 y9 y10 y11:Value) (k:Int) (b:Bool) (n:Int) (t:ByteArray) (l:List Val) (o:List (ByteArray×Val)) (la oa:Option Addr) (lc oc:Nat) (y18:Value) (w:World)
 (hV:Ab w w.heap.size (.mk k b n t l o) [.int .i64 k,.bool b,.int .i64 n,.string t,.slice la l.length lc,.slice oa o.length oc]) (hb:(Val.mk k b n t l o).bulk<=100000000):
 Calls Tryz.prog 122 #[.agg #[y0,.string key,y2,y3,y4,y5,y6,y7,y8,y9,y10,y11,.int .i64 k,.bool b,.int .i64 n,.string t,.slice la l.length lc,.slice oa o.length oc,y18]] w (B1 [(A1,tv key),(Fj,.mk k b n t l o)] w):=by
 have HC:=qz (fun W=>A4 key W);have HD:Hid (∀W,Below w.heap.size w W->Calls Tryz.prog 34 #[.agg #[.int .i64 k,.bool b,.int .i64 n,.string t,.slice la l.length lc,.slice oa o.length oc]] W (Ez W (.mk k b n t l o))):=fun W hB=>Ge _ _ W (Ab.more hB.size _ _ (hV.below hB)) hb;obtain⟨wi,hwi⟩: ∃wi,w.alloc (.cells #[y0,.string key,y2,y3,y4,y5,y6,y7,y8,y9,y10,y11,.int .i64 k,.bool b,.int .i64 n,.string t,.slice la l.length lc,.slice oa o.length oc,y18] 45)=wi:=⟨_,rfl⟩;have Hbi:Hid (Below w.heap.size w wi):=hwi▸Aa _ _;have hxb:Aj wi w.heap.size 45 #[y0,.string key,y2,y3,y4,y5,y6,y7,y8,y9,y10,y11,.int .i64 k,.bool b,.int .i64 n,.string t,.slice la l.length lc,.slice oa o.length oc,y18]:=hwi▸Aj.new _ _ _;have d1:=hxb.cell 1;have d12:=hxb.cell 12;have d13:=hxb.cell 13;have d14:=hxb.cell 14;have d15:=hxb.cell 15;have d16:=hxb.cell 16;have d17:=hxb.cell 17;have hgb:=hxb.lt;have Hxb:=qz hxb;clear hxb;clear hV;go_enter Tryz.func122,Tryz.ntmps122;go_upto_region 1 with(fail);clear hwi
 go_region_held3 (fun W=>W.cell? ⟨w.heap.size,1,none⟩=some (.string key)/\W.cell? ⟨w.heap.size,12,none⟩=some (.int .i64 k)/\W.cell? ⟨w.heap.size,13,none⟩=some (.bool b)/\W.cell? ⟨w.heap.size,14,none⟩=some (.int .i64 n)/\W.cell? ⟨w.heap.size,15,none⟩=some (.string t)/\W.cell? ⟨w.heap.size,16,none⟩=some (.slice la l.length lc)/\W.cell? ⟨w.heap.size,17,none⟩=some (.slice oa o.length oc)) (go_keep) (first
  |(go_at_call 67;refine(HC.out _).mono ?_;rintro e w2 ⟨rfl,hb2⟩;have hbr2:Below wi.heap.size wi w2:=((Below.drew (Below.refl _ _)).trans hb2);obtain⟨hc2,hg2⟩:=At hbr2)
  |(go_at_call 34;refine(HD.out _ (Hbi.out.trans (hbr2.mono Hbi.out.size))).mono ?_;rintro e w3 ⟨⟨cs4,rfl,hl4,hf4⟩,hb3⟩;obtain⟨la2,lc2,oa2,oc2,rfl⟩:=I8 hf4;have hbr3:=hbr2.trans (hb3.mono hbr2.size);have hff:=hf4.keep (b':=w.heap.size) (w':=w3) (Nat.le_trans Hbi.out.size hbr2.size) (Nat.le_refl _) (fun _ _ _=>rfl);have Hff:=qz hff;obtain⟨hc3,hg3⟩:=At hbr3;clear hf4 hff))
 all_goals
  have HB:=qz (Hbi.out.trans (hbr3.mono Hbi.out.size));clear hc2 hg2 hc3 hg3 hb2 hb3 hbr2 hbr3;go_wp2;go_ret;exact⟨HB.out.alloc HB.out.size _,_,rfl,Cj HB.out.size rfl ((Az.one (Ci _ _ A1 key)).app (Az.one ((Ct (key:=Fj) Hff.out).later (Aa _ _))))⟩
theorem Az.at_ {b s:Nat} {w:World} {l:List D} {ns:List Value} (hs: ∀d ∈ l,d.cells=s) (h:Az b w l ns) {i:Nat} {d:D} (hi:l[i]? =some d):
 ∃cs,Ax b w d cs/\cs.length=s/\ ∀j u,cs[j]? =some u->ns[i*s+j]? =some u:=by
 have hd:=hs d (List.mem_of_getElem? hi);have key: ∀w'':World,w.heap.size<=w''.heap.size->(∀p:Addr,b<=p.block->p.block<w.heap.size->w''.cell? p=w.cell? p)->Ag w'' w.heap.size d ((ns.drop (i*s)).take s)/\((ns.drop (i*s)).take s).length=s:=by
  intro w'' h1 h2;obtain⟨cs,g1,g2,g3⟩:=Ae.at_ hs (h w'' h1 h2) hi;have:cs=(ns.drop (i*s)).take s:=by
   refine List.ext_getElem? fun j=> ?_;rw[List.getElem?_take,List.getElem?_drop];by_cases hj:j<s
   . rw[if_pos hj];exact(g3 j _ (List.getElem?_eq_getElem (by omega))).symm▸List.getElem?_eq_getElem (by omega)
   . rw[if_neg hj,List.getElem?_eq_none (by omega)]
  rw[<-this];exact⟨g1,g2⟩
 refine⟨_,fun w'' h1 h2=>(key w'' h1 h2).1,(key w (Nat.le_refl _) fun _ _ _=>rfl).2,fun j u hu=> ?_⟩;rw[List.getElem?_take,List.getElem?_drop]at hu;by_cases hj:j<s
 . rwa [if_pos hj]at hu
 . rw[if_neg hj]at hu;cases hu
structure LM (b:Nat) (w:World) (o:List (ByteArray×Val)) (q:Nat) (wr:World) (V:Value):Prop where
 below:Below w.heap.size w wr
 res:Aj wr w.heap.size 42 Af
 var:Aj wr (w.heap.size+1) 42 #[.int .i64 6,.bool false,.int .i64 0,.string ⟨#[]⟩,.slice none 0 0,V]
 row:Bw (fun i=>(b<=i/\i<w.heap.size)\/w.heap.size+1<i) (w.heap.size+2) 74 7 wr (dO (o.take q)) V
theorem Ya {B:Nat} {w4:World} {key:ByteArray} {k:Int} {b:Bool} {n:Int} {t:ByteArray} {l:List Val} {o:List (ByteArray×Val)} {cs:List Value} (h:Ax B w4 (dP (key,.mk k b n t l o)) cs): ∃la lc oa oc,cs= [.string key,.int .i64 k,.bool b,.int .i64 n,.string t,.slice la l.length lc,.slice oa o.length oc]:=by
 obtain⟨_,_,rfl,⟨rfl,_⟩,c1,_,rfl,h1,rfl⟩:=h.now;have h2:=Cr _ _ h1;simp only[Ab]at h2;obtain⟨la,lc,oa,oc,rfl,_,_⟩:=h2;exact⟨la,lc,oa,oc,rfl⟩
theorem Bw.keepS {S0:Nat->Prop} {b:Nat} {t:TypeId} {s:Nat} {wr w':World} {l:List D} {V:Value} (h:Bw S0 b t s wr l V) (hs:wr.heap.size<=w'.heap.size) (hk: ∀i,(S0 i\/V.ownBlock=some i)->i<wr.heap.size->w'.heap[i]? =wr.heap[i]?):Bw S0 b t s w' l V:=by
 obtain⟨ns,h1,h2,h3⟩:=h;have hl:=h1.lt;refine⟨ns,⟨h1.1, ?_⟩,h2,fun w'' k1 k2=>Ae.more (h3 w'' (by omega) (fun p p1 p2=>(k2 p p1 (by omega)).trans (World.cell?_of_block (hk p.block (.inl p1.1) p2)))) hs⟩;rcases h1.2 with⟨rfl,h0⟩|⟨g,cap,cur,rfl,hbg,hg,h5⟩
 . exact .inl ⟨rfl,h0⟩
 . exact .inr ⟨g,cap,cur,rfl,hbg,(hk g (.inr rfl) (Array.getElem?_eq_some_iff.1 hg).1).trans hg,h5⟩
theorem A6 (b:Nat) (o:List (ByteArray×Val)) (V0:Value) (w:World) (hbw:b<=w.heap.size) (hP:Cz b w o V0) (ho:o.length<=1000000):
 Calls Tryz.prog 66 #[V0] w fun e w'=>Below w.heap.size w w'/\ ∃oa oc,e=.returned (.agg #[.int .i64 6,.bool false,.int .i64 0,.string ⟨#[]⟩,.slice none 0 0,.slice oa o.length oc])/\Ax b w' (dV (ov o)) [.int .i64 6,.bool false,.int .i64 0,.string ⟨#[]⟩,.slice none 0 0,.slice oa o.length oc]:=by
 obtain⟨g,c,ns,rfl,hbg,hgw,hfa,hcell⟩:=hP;obtain⟨j0,hj,hy0,hy1,hy2⟩:=info_parts Tb;have hI0:LM b w o 0 ((w.alloc (.cells Af 42)).alloc (.cells #[.int .i64 6,.bool false,.int .i64 0,.string ⟨#[]⟩,.slice none 0 0,.slice none 0 0] 42)) (.slice none 0 0):=
  ⟨((Below.refl _ _).alloc (Nat.le_refl _) _).alloc (by simp) _,(Aj.new _ _ _).alloc _,by simpa using Aj.new (w.alloc (.cells Af 42)) 42 #[.int .i64 6,.bool false,.int .i64 0,.string ⟨#[]⟩,.slice none 0 0,.slice none 0 0],by simpa[dO]using Bw.nil _ _ _ _ _⟩
 obtain⟨Hj,Hy0,Hy1,Hy2,HI0,Hfa,Hcell⟩:=hid7 hj hy0 hy1 hy2 hI0 hfa hcell;clear hj hy0 hy1 hy2 hI0 hfa hcell;go_enter Tryz.func66,Tryz.ntmps66;go_wp2_with (fail);go_loopw [9] (fun i wr=> ∃q:Nat,i=.int .i64 q/\q<=o.length/\ ∃V,Hid (LM b w o q wr V)) (fun i _=>o.length - (intOf i).toNat)
 case atStart=>exact⟨0,rfl,Nat.zero_le _,_,HI0⟩
 case round=>
  obtain⟨q,rfl,hq,V,hI⟩:=hrel;clear HI0;by_cases hlt:q<o.length
  . obtain⟨⟨key,v⟩,hp⟩: ∃p,o[q]? =some p:=⟨_,List.getElem?_eq_getElem hlt⟩;have htk:dO (o.take q)++ [dP (key,v)]=dO (o.take (q+1)):=by rw[List.take_add_one,hp,E8,E8];simp
    obtain⟨cs,hf,hl7,hat⟩:=Az.at_ (B3 o) Hfa.out (i:=q) (d:=dP (key,v)) (by rw[E8,List.getElem?_map,hp];rfl);obtain⟨k',b',n',t',l',o'⟩:=v;obtain⟨la',lc',oa',oc',rfl⟩:=Ya hf;have hbr:=hI.out.below;have hz:=hbr.size;have hc: ∀j u, [Value.string key,.int .i64 k',.bool b',.int .i64 n',.string t',.slice la' l'.length lc',.slice oa' o'.length oc'][j]? =some u->wr.cell? ⟨g,q*7+j,none⟩=some u:=fun j u hu=>(hbr.cell (p:=⟨g,q*7+j,none⟩) hgw).trans (Hcell.out _ _ (hat j u hu));have c0:=hc 0 _ rfl;have c1:=hc 1 _ rfl;have c2:=hc 2 _ rfl;have c3:=hc 3 _ rfl;have c4:=hc 4 _ rfl;have c5:=hc 5 _ rfl;have c6:=hc 6 _ rfl;rw[Nat.add_zero]at c0;have hgr:g<wr.heap.size:=by omega
    obtain⟨aV,cV,rfl⟩:=hI.out.row.slice;have hdl:(dO (o.take q)).length=q:=by rw[Eb,List.length_take];omega
    have hLo:Hid ((dO (o.take q)).length+1<=maxLen/\((dO (o.take q)).length+1)*104<=140737488355328):=by rw[hdl];exact⟨by simp only[maxLen];omega,by omega⟩
    have hxv:=hI.out.var;have hxr:=hI.out.res;have y5:=hxv.cell 5;have f5:=hxv.frozen 5;have hgv:=hxv.lt;have hq1:(q:Int)<(o.length:Int):=by omega
    have hq0:(0:Int)<=q:=by omega
    have hw2:Below wr.heap.size wr ((wr.alloc (.cells #[.string key,.int .i64 k',.bool b',.int .i64 n',.string t',.slice la' l'.length lc',.slice oa' o'.length oc'] 131)).alloc (.cells #[.string key,.int .i64 k',.bool b',.int .i64 n',.string t',.slice la' l'.length lc',.slice oa' o'.length oc'] 74)):=((Below.refl _ _).alloc (Nat.le_refl _) _).alloc (by simp) _;have Hrow2:=qz (hI.out.row.below hw2);have hxi:Ac (fun i=>((b<=i/\i<w.heap.size)\/w.heap.size+1<i)/\(Value.slice aV (dO (o.take q)).length cV).ownBlock≠some i) ((wr.alloc (.cells #[.string key,.int .i64 k',.bool b',.int .i64 n',.string t',.slice la' l'.length lc',.slice oa' o'.length oc'] 131)).alloc (.cells #[.string key,.int .i64 k',.bool b',.int .i64 n',.string t',.slice la' l'.length lc',.slice oa' o'.length oc'] 74)) (dP (key,.mk k' b' n' t' l' o')) [.string key,.int .i64 k',.bool b',.int .i64 n',.string t',.slice la' l'.length lc',.slice oa' o'.length oc']:=
     (((Ac.of_fresh hf).mono (T:=fun i=>b<=i/\i<w.heap.size) (fun i hi h=>⟨h,hi⟩)).below (hbr.trans (hw2.mono hz))).mono (fun i _ hi=>⟨.inl hi,fun e=>by have:=(hI.out.row.base i e).1;omega⟩)
    have Hxv2:=qz (hxv.below hw2 hgv);have Hxr2:=qz (hxr.below hw2 hxr.lt);have Hbw2:=qz (hbr.trans (hw2.mono hz));have hs2:=hw2.size;have hrd:=Mj (wr.alloc (.cells #[.string key,.int .i64 k',.bool b',.int .i64 n',.string t',.slice la' l'.length lc',.slice oa' o'.length oc'] 131)) (.string key) (.int .i64 k') (.bool b') (.int .i64 n') (.string t') (.slice la' l'.length lc') (.slice oa' o'.length oc');rw[World.size_alloc]at hrd;have Hrow0:=qz hI.out.row;obtain⟨Hw2,Hxi,Htk,Hbr,Hxv,Hxr,Hf,Hrd⟩:=hid8 hw2 hxi htk hbr hxv hxr hf hrd;clear hw2 hxi htk hbr hxv hxr hf hrd;clear hc hat hdl;go_upto_region 5 with(fail)
    iterate 26 go_step
    refine Im (d:=dP (key,.mk k' b' n' t' l' o')) (V:=.slice aV (dO (o.take q)).length cV) (.tmp 14) (.tmp 20) 40 rfl Tryz.underlying40 Hj.out Hy0.out Hy1.out Hy2.out rfl (by omega) rfl Hrow2.out (by omega) (Eo _) Hxi.out rfl Hrd.out hLo.out.1 hLo.out.2 ?_;intro V6 w6 hrow6 hg6 hat6;have hxv6:=R7 Hxv2.out hg6 Hrow0.out (.inl (by omega));have e6:=hxv6.cell 5;have g6:=hxv6.frozen 5;have hxr6:=R7 Hxr2.out hg6 Hrow0.out (.inl (by omega));have hw6:=E2 Hbw2.out hg6 Hrow0.out (by omega) (by omega);rw[Htk.out]at hrow6;obtain⟨a6,c6,rfl⟩:=hrow6.slice;have HG:=qz (And.intro hrow6 (And.intro hxv6 (And.intro hxr6 hw6)));clear hrow6 hg6 hat6 hxv6 hxr6 hw6;obtain⟨k1,k2,k3,k4⟩:=HG.out;have hkb:=k1.base;have HN:Hid (LM b w o (q+1) (w6.setCell ⟨w.heap.size+1,5,none⟩ (.slice a6 (dO (o.take (q+1))).length c6)) (.slice a6 (dO (o.take (q+1))).length c6)):=
     ⟨k4.setCell (by simp) _,k3.far (by simp) _,k2.set_ 5 _,k1.keepS (by simp[World.setCell]) (fun i h1 _=>Below.heap_setCell _ _ _ _ (by rcases h1 with h1|h1;(simp;omega);(have:=(hkb i h1).1;simp;omega)))⟩
    clear k1 k2 k3 k4 HG hkb;go_wp2;go_roundw
    case rel=>exact⟨q+1,by go_num,by omega,_,HN⟩
    case measure=>simp only[intOf];omega
  . obtain rfl:q=o.length:=by omega
    have hln:(dO (o.take o.length)).length=o.length:=by rw[Eb,List.take_length]
    obtain⟨aV,cV,rfl⟩:=hI.out.row.slice_n hln;obtain⟨i1,i2,i3,i4⟩:=hI.out;obtain⟨y0,y1,y2,y3,y4,y5⟩:=B0 i3;obtain⟨r0,r1,r2,r3,r4,r5⟩:=B0 i2;have fz:=i2.frozen;have Hq:=qz i4.closeIn;have Hba:=qz i4.base;have hgv:=i3.lt;obtain⟨I1,I2,I3,I4,Hln⟩:=hid5 i1 i2 i3 i4 hln;clear i1 i2 i3 i4 hln;clear hI;go_upto_region 7 with(fail)
    repeat go_step
    have hxf:=((((((I2.out.set_ 0 (.int .i64 6)).set_ 1 (.bool false)).set_ 2 (.int .i64 0)).set_ 3 (.string ⟨#[]⟩)).set_ 4 (.slice none 0 0)).set_ 5 (.slice aV o.length cV));have hbf:=Ap [.int .i64 6,.bool false,.int .i64 0,.string ⟨#[]⟩,.slice none 0 0,.slice aV o.length cV] I1.out (Nat.le_refl _) (o:=0);have hff:Ax b (Ay wr w.heap.size 0 [.int .i64 6,.bool false,.int .i64 0,.string ⟨#[]⟩,.slice none 0 0,.slice aV o.length cV]) (dV (ov o)) [.int .i64 6,.bool false,.int .i64 0,.string ⟨#[]⟩,.slice none 0 0,.slice aV o.length cV]:=by
     have h0:=Hq.out;rw[List.take_length]at h0;have h1:=(Bo h0).later (w':=Ay wr w.heap.size 0 [.int .i64 6,.bool false,.int .i64 0,.string ⟨#[]⟩,.slice none 0 0,.slice aV o.length cV]) (by rw[Aw];exact Nat.le_refl _) (fun p p1 _=>World.cell?_of_block (Ak _ _ _ _ _ (by
      rcases p1 with p1|p1
      . omega
      . have:=(Hba.out _ p1).1;omega)))
     exact h1.mono fun i _ p1=>by
      rcases p1 with p1|p1
      . omega
      . have:=(Hba.out _ p1).1;omega
    exact bodyPost_ret (Au rfl rfl hxf) rfl ⟨hbf,aV,cV,rfl,hff⟩
abbrev Bm:TypeId:=131
theorem I5:(Tryz.prog.info? 131).map (fun i=>(i.zero,i.size,i.bytes))=some (some (.agg #[.string ⟨#[]⟩,.int .i64 0,.bool false,.int .i64 0,.string ⟨#[]⟩,.slice none 0 0,.slice none 0 0]),7,104):=by kernel_rfl
theorem I6 {b:Nat} {w:World} {o:List (ByteArray×Val)} {V:Value} (h:Bw (fun i=>b<=i) b Bm 7 w (dO o) V) (ho:0<o.length):Cz b w o V:=by
 obtain⟨ns,h1,h2,h3⟩:=h;rw[Eb]at h1;obtain⟨g,c,rfl,hg,hlt⟩:=h1.form ho;exact⟨g,c,ns,rfl,hg,hlt,fun w'' k1 k2=>h3 w'' k1 (fun p p1 p2=>k2 p p1.1 p2),fun j u hu=>by have:=h1.cells (g:=g) rfl j u hu;rwa [De,Nat.zero_add]at this⟩
theorem Jx (w:World) (a0 a1 a2 a3 a4 a5 a6:Value):Bc (w.alloc (.cells #[a0,a1,a2,a3,a4,a5,a6] Bm)) (w.heap.size+1) 7 (some ⟨w.heap.size,0,none⟩) 1 [a0,a1,a2,a3,a4,a5,a6]:=Lv (Aj.new w Bm #[a0,a1,a2,a3,a4,a5,a6])
theorem Cz.keep {b:Nat} {w w':World} {o:List (ByteArray×Val)} {V:Value} (h:Cz b w o V) (hb:Below w.heap.size w w'):Cz b w' o V:=by
 obtain⟨g,c,ns,rfl,h1,h2,h3,h4⟩:=h;exact⟨g,c,ns,rfl,h1,Nat.lt_of_lt_of_le h2 hb.size,h3.later hb,fun j u hu=>(hb.cell (p:=⟨g,j,none⟩) h2).trans (h4 j u hu)⟩
theorem Zg (y0:Value) (key:ByteArray) (y2 y3 y5 y6 y7 y8 y9 y10 y11 y12 y13 y14 y15 y16 y17 y18:Value) (w:World) (was:Val):
 Calls Tryz.prog 125 #[.agg #[y0,.string key,y2,y3,.bool false,y5,y6,y7,y8,y9,y10,y11,y12,y13,y14,y15,y16,y17,y18]] w (B1 (Ba key false was) w):=by
 have HC:=qz (fun W=>A4 key W);go_enter Tryz.func125,Tryz.ntmps125;go_wp2_with (fail);(with_reducible refine(HC.out _).mono ?_);rintro e w1 ⟨rfl,hb1⟩;have hbw:=(Aa w _).trans (hb1.mono (by simp));have hz:=hbw.size;have hx1:=(Aj.new w 45 #[y0,.string key,y2,y3,.bool false,y5,y6,y7,y8,y9,y10,y11,y12,y13,y14,y15,y16,y17,y18]).below hb1 (Aj.new _ _ _).lt;have d4:=hx1.cell 4;have hg4:=hx1.lt;obtain⟨Hbw,Hx1,Hb1⟩:=hid3 hbw hx1 hb1;clear hbw hx1 hb1;go_wp2;go_ret;exact⟨Hbw.out.alloc hz _,_,rfl,Cj hz rfl (Az.one (Ci _ _ A1 key))⟩
theorem Xp (y0:Value) (key:ByteArray) (y2 y3:Value) (k:Int) (b:Bool) (n:Int) (t:ByteArray) (l:List Val) (o:List (ByteArray×Val)) (la oa:Option Addr) (lc oc:Nat) (y11 y12 y13 y14 y15 y16 y17 y18:Value) (w:World)
 (hV:Ab w w.heap.size (.mk k b n t l o) [.int .i64 k,.bool b,.int .i64 n,.string t,.slice la l.length lc,.slice oa o.length oc]) (hb:(Val.mk k b n t l o).bulk<=100000000):
 Calls Tryz.prog 125 #[.agg #[y0,.string key,y2,y3,.bool true,.int .i64 k,.bool b,.int .i64 n,.string t,.slice la l.length lc,.slice oa o.length oc,y11,y12,y13,y14,y15,y16,y17,y18]] w (B1 (Ba key true (.mk k b n t l o)) w):=by
 have HC:=qz (fun W=>A4 key W);have HD:Hid (∀W,Below w.heap.size w W->Calls Tryz.prog 34 #[.agg #[.int .i64 k,.bool b,.int .i64 n,.string t,.slice la l.length lc,.slice oa o.length oc]] W (Ez W (.mk k b n t l o))):=fun W hB=>Ge _ _ W (Ab.more hB.size _ _ (hV.below hB)) hb;obtain⟨j0,hj,hy0,hy1,hy2⟩:=info_parts I5;obtain⟨wi,hwi⟩: ∃wi,w.alloc (.cells #[y0,.string key,y2,y3,.bool true,.int .i64 k,.bool b,.int .i64 n,.string t,.slice la l.length lc,.slice oa o.length oc,y11,y12,y13,y14,y15,y16,y17,y18] 45)=wi:=⟨_,rfl⟩;have Hbi:Hid (Below w.heap.size w wi):=hwi▸Aa _ _;have hxb:Aj wi w.heap.size 45 #[y0,.string key,y2,y3,.bool true,.int .i64 k,.bool b,.int .i64 n,.string t,.slice la l.length lc,.slice oa o.length oc,y11,y12,y13,y14,y15,y16,y17,y18]:=hwi▸Aj.new _ _ _;have d1:=hxb.cell 1;have hgb:=hxb.lt;obtain⟨Hxb,Hj,Hy0,Hy1,Hy2⟩:=hid5 hxb hj hy0 hy1 hy2;clear hxb hj hy0 hy1 hy2;clear hV;go_enter Tryz.func125,Tryz.ntmps125;go_upto_region 1 with(fail);clear hwi;go_wp2_with (fail);(with_reducible refine(HC.out _).mono ?_);rintro e w1 ⟨rfl,hb1⟩;have hx1:=Hxb.out.below hb1 hgb;have hz1:=hb1.size;clear d1;obtain⟨w2,hw2⟩: ∃w2,w1.alloc (.cells #[.string A1,.int .i64 4,.bool false,.int .i64 0,.string key,.slice none 0 0,.slice none 0 0] Bm)=w2:=⟨_,rfl⟩;have hb2:Below w1.heap.size w1 w2:=hw2▸Aa _ _;have hx2:=hx1.below hb2 hx1.lt;have hw12:=Hbi.out.trans (hb1.mono Hbi.out.size);have hrow2:Bw (fun i=>w.heap.size<=i) w.heap.size Bm 7 w2 [dP (A1,tv key)] (.slice (some ⟨w1.heap.size,0,none⟩) 1 1):=by
  rw[<-hw2];exact Bw.lit (cs:= #[.string A1,.int .i64 4,.bool false,.int .i64 0,.string key,.slice none 0 0,.slice none 0 0]) hw12.size (Eo _) (Bp _ _ A1 key)
 have Hsz2:=qz (show w2.heap.size=w1.heap.size+1 from by rw[<-hw2];simp);have d4:=hx2.cell 4;have d5:=hx2.cell 5;have d6:=hx2.cell 6;have d7:=hx2.cell 7;have d8:=hx2.cell 8;have d9:=hx2.cell 9;have d10:=hx2.cell 10;have hgb2:=hx2.lt;have Hw22:=qz (hw12.trans (hb2.mono hw12.size));obtain⟨Hb1,Hb2,Hx1,Hx2,Hrow2,Hw12⟩:=hid6 hb1 hb2 hx1 hx2 hrow2 hw12;clear hb1 hb2 hx1 hx2 hrow2 hw12;go_upto_region 3 with(fail);clear hw2;go_wp2_with (fail);(with_reducible refine(HD.out _ Hw22.out).mono ?_);rintro e w3 ⟨⟨cs4,rfl,hl4,hf4⟩,hb3⟩;obtain⟨la2,lc2,oa2,oc2,rfl⟩:=I8 hf4;have Hrow3:=qz (Hrow2.out.below hb3);obtain⟨Hf4,Hb3⟩:=hid2 hf4 hb3;have hz3:=hb3.size;have Hw32:=qz (Hw22.out.trans (hb3.mono Hw22.out.size));clear hf4 hb3 hl4 d4 d5 d6 d7 d8 d9 d10;have hdO:dO (Ba key true (.mk k b n t l o))= [dP (A1,tv key)]++ [dP (G2,.mk k b n t l o)]:=by simp[Ba,dO]
 have HdO:=qz hdO;have hX:Ac (fun i=>w.heap.size<=i/\(Value.slice (some ⟨w1.heap.size,0,none⟩) 1 1).ownBlock≠some i) (w3.alloc (.cells #[.string G2,.int .i64 k,.bool b,.int .i64 n,.string t,.slice la2 l.length lc2,.slice oa2 o.length oc2] Bm)) (dP (G2,.mk k b n t l o)) [.string G2,.int .i64 k,.bool b,.int .i64 n,.string t,.slice la2 l.length lc2,.slice oa2 o.length oc2]:=
  (Ac.of_fresh ((Ct (key:=G2) Hf4.out).later (Aa w3 (.cells #[.string G2,.int .i64 k,.bool b,.int .i64 n,.string t,.slice la2 l.length lc2,.slice oa2 o.length oc2] Bm)))).mono fun i _ hi=>by
    have hi':w2.heap.size<=i:=hi;have h1:=Hw22.out.size;have h2:=Hsz2.out;exact⟨by omega,fun e=>absurd (Option.some.inj (show some w1.heap.size=some i from e)) (by omega)⟩
 have HX:=qz hX;clear hdO hX;go_wp2_with (at_builtin;refine Dn rfl (.tmp 11) (.tmp 16) 123 rfl Tryz.underlying123 Hj.out Hy0.out Hy1.out Hy2.out rfl (by omega) rfl (Hrow3.out.below (Aa _ _)) (Nat.le_trans Hw32.out.size (by simp)) (Eo _) HX.out rfl (Jx _ _ _ _ _ _ _ _) (by simp[maxLen]) (by simp) ?_;intro V6 w6 hrow6 hg6 hat6);rw[<-HdO.out]at hrow6;go_ret;exact⟨E2 (Hw32.out.alloc Hw32.out.size _) hg6 Hrow3.out (Nat.le_refl _) (Nat.le_trans Hw32.out.size (by simp)),V6,rfl,I6 hrow6 (by simp[Ba])⟩
end Go.Proofs.YtobmaegpfbheoaaGreatDoor
