/- Parts: mutator.object: the object of pairs. Condition: at most 10^6 pairs. -/
import Derived.Test.YtobmaegpfbheoaaGreatDoorKMo15
import Derived.Test.YtobmaegpfbheoaaGreatDoorKMo19
set_option maxHeartbeats 20000000
set_option maxRecDepth 100000
namespace Go.Proofs.YtobmaegpfbheoaaGreatDoor
open Go Go.RowKit
theorem Uz (w:World) (B:Nat) (key s:ByteArray):Ai w B (dP (key,tv s)) [.string key,.int .i64 4,.bool false,.int .i64 0,.string s,.slice none 0 0,.slice none 0 0]:=by
 have h1:Ac w B (tv s) [.int .i64 4,.bool false,.int .i64 0,.string s,.slice none 0 0,.slice none 0 0]:=by
  simp only[tv,Ac];exact⟨none,0,none,0,rfl,by simp,by simp⟩
 exact⟨[.string key],_,rfl,⟨rfl,rfl⟩,_, [],by simp,Eo _ _ h1,rfl⟩
theorem Uy (w:World) (B:Nat) (key:ByteArray) (n:Int):Ai w B (dP (key,iv n)) [.string key,.int .i64 3,.bool false,.int .i64 n,.string ⟨#[]⟩,.slice none 0 0,.slice none 0 0]:=by
 have h1:Ac w B (iv n) [.int .i64 3,.bool false,.int .i64 n,.string ⟨#[]⟩,.slice none 0 0,.slice none 0 0]:=by
  simp only[iv,Ac];exact⟨none,0,none,0,rfl,by simp,by simp⟩
 exact⟨[.string key],_,rfl,⟨rfl,rfl⟩,_, [],by simp,Eo _ _ h1,rfl⟩
theorem Dz (b:Nat) (w:World) (key s:ByteArray):An b w (dP (key,tv s)) [.string key,.int .i64 4,.bool false,.int .i64 0,.string s,.slice none 0 0,.slice none 0 0]:=fun _ _ _=>Uz _ _ _ _
theorem Af6 {b:Nat} {w:World} {vs:List Val} {a:Option Addr} {n c:Nat} (h:An b w (.row 6 (dL vs)) [.slice a n c]):An b w (dV (lv vs)) [.int .i64 5,.bool false,.int .i64 0,.string ⟨#[]⟩,.slice a n c,.slice none 0 0]:=fun w'' h1 h2=>by
 simp only[lv,dV,Ai];exact Ah.six.2 ⟨[.slice a n c], [.slice none 0 0],rfl,rfl,rfl,rfl,rfl,h w'' h1 h2,⟨none,0,rfl,by simp[dO], [],rfl,by simp[dO]⟩⟩
theorem Bg (s:ByteArray) (w:World):Calls Tryz.prog 67 #[.string s] w fun e w'=>e=.returned (.agg #[.int .i64 4,.bool false,.int .i64 0,.string s,.slice none 0 0,.slice none 0 0])/\Below w.heap.size w w':=by
 go_enter Tryz.func67,Tryz.ntmps67;go_wp2;exact bodyPost_ret (v:=.agg #[.int .i64 4,.bool false,.int .i64 0,.string s,.slice none 0 0,.slice none 0 0]) (by simp[results,Tryz.results67,go_sem]) rfl ⟨rfl,(Below.refl _ _).alloc (Nat.le_refl _) _⟩
def Et (b:Nat) (w:World) (o:List (ByteArray×Val)) (V:Value):Prop:= ∃g c ns,V=.slice (some ⟨g,0,none⟩) o.length c/\b<=g/\g<w.heap.size/\Bc b w (dO o) ns/\ ∀j u,ns[j]? =some u->w.cell? ⟨g,j,none⟩=some u
def Cn (o:List (ByteArray×Val)) (w:World) (e:Ending) (w':World):Prop:=Below w.heap.size w w'/\ ∃V,e=.returned V/\Et w.heap.size w' o V
theorem D0 {b:Nat} {w:World} {t:TypeId} {cs:Array Value} {o:List (ByteArray×Val)} {n c:Nat} (hb:b<=w.heap.size) (hn:n=o.length) (h:Bc b (w.alloc (.cells cs t)) (dO o) cs.toList):Et b (w.alloc (.cells cs t)) o (.slice (some ⟨w.heap.size,0,none⟩) n c):=by
 subst hn;have hx:=Aj.new w t cs;exact⟨_,c,cs.toList,rfl,hb,hx.lt,h,fun j u hu=>(hx.cell j).trans (by rw[<-Array.getElem?_toList];exact hu)⟩
theorem Bc.app {b:Nat} {w:World} {l r:List D} {cs es:List Value} (h:Bc b w l cs) (k:Bc b w r es):Bc b w (l++r) (cs++es):=fun w'' h1 h2=>(h w'' h1 h2).app (k w'' h1 h2)
theorem Bc.one {b:Nat} {w:World} {d:D} {cs:List Value} (h:An b w d cs):Bc b w [d] cs:=fun w'' h1 h2=>Ah.one (h w'' h1 h2)
theorem Ad2 (b:Nat) (w:World) (key:ByteArray) (n:Int):An b w (dP (key,iv n)) [.string key,.int .i64 3,.bool false,.int .i64 n,.string ⟨#[]⟩,.slice none 0 0,.slice none 0 0]:=fun _ _ _=>Uy _ _ _ _
theorem Acl (y0:Value) (key:ByteArray) (y2 y3 y4 y5 y6 y7 y8 y9 y10 y11 y12 y13 y14 y15 y16 y17 y18:Value) (w:World):
 Calls Tryz.prog 71 #[.agg #[y0,.string key,y2,y3,y4,y5,y6,y7,y8,y9,y10,y11,y12,y13,y14,y15,y16,y17,y18]] w (Cn [(As,tv key)] w):=by
 have HC:=qz (fun W=>Bg key W);go_enter Tryz.func71,Tryz.ntmps71;go_wp2_with (fail);(with_reducible refine(HC.out _).mono ?_);rintro e w1 ⟨rfl,hb1⟩;have hbw:=(Aa w _).trans (hb1.mono (by simp));have hz:=hbw.size;have Hbw:=qz hbw;clear hbw;go_wp2;go_ret;exact⟨Hbw.out.alloc hz _,_,rfl,D0 hz rfl (Bc.one (Dz _ _ As key))⟩
theorem Z7 (y0:Value) (key dst:ByteArray) (y3 y4 y5 y6 y7 y8 y9 y10 y11 y12 y13 y14 y15 y16 y17 y18:Value) (w:World):
 Calls Tryz.prog 77 #[.agg #[y0,.string key,.string dst,y3,y4,y5,y6,y7,y8,y9,y10,y11,y12,y13,y14,y15,y16,y17,y18]] w (Cn [(De,tv key),(L8,tv dst)] w):=by
 have HC:=qz (fun W=>Bg key W);have HD:=qz (fun W=>Bg dst W);obtain⟨wi,hwi⟩: ∃wi,w.alloc (.cells #[y0,.string key,.string dst,y3,y4,y5,y6,y7,y8,y9,y10,y11,y12,y13,y14,y15,y16,y17,y18] 45)=wi:=⟨_,rfl⟩;have Hbi:Hid (Below w.heap.size w wi):=hwi▸Aa _ _;have hxb:Aj wi w.heap.size 45 #[y0,.string key,.string dst,y3,y4,y5,y6,y7,y8,y9,y10,y11,y12,y13,y14,y15,y16,y17,y18]:=hwi▸Aj.new _ _ _;have d1:=hxb.cell 1;have d2:=hxb.cell 2;have hgb:=hxb.lt;have Hxb:=qz hxb;clear hxb;go_enter Tryz.func77,Tryz.ntmps77;go_upto_region 1 with(fail);clear hwi
 go_region_held3 (fun W=>W.cell? ⟨w.heap.size,1,none⟩=some (.string key)/\W.cell? ⟨w.heap.size,2,none⟩=some (.string dst)) (go_keep) (first
  |(go_at_call 67;refine(HC.out _).mono ?_;rintro e w2 ⟨rfl,hb2⟩;have hbr2:Below wi.heap.size wi w2:=((Below.drew (Below.refl _ _)).trans hb2);obtain⟨hc2,hg2⟩:=A8 hbr2)
  |(go_at_call 67;refine(HD.out _).mono ?_;rintro e w3 ⟨rfl,hb3⟩;have hbr3:=hbr2.trans (hb3.mono hbr2.size);obtain⟨hc3,hg3⟩:=A8 hbr3))
 all_goals
  have HB:=qz (Hbi.out.trans (hbr3.mono Hbi.out.size));clear hc2 hg2 hc3 hg3 hb2 hb3 hbr2 hbr3;go_wp2;go_ret;exact⟨HB.out.alloc HB.out.size _,_,rfl,D0 HB.out.size rfl ((Bc.one (Dz _ _ De key)).app (Bc.one (Dz _ _ L8 dst)))⟩
theorem Acm (y0:Value) (key:ByteArray) (y2:Value) (n:Int) (y4 y5 y6 y7 y8 y9 y10 y11 y12 y13 y14 y15 y16 y17 y18:Value) (w:World):
 Calls Tryz.prog 75 #[.agg #[y0,.string key,y2,.int .i64 n,y4,y5,y6,y7,y8,y9,y10,y11,y12,y13,y14,y15,y16,y17,y18]] w (Cn [(Na,iv n),(As,tv key)] w):=by
 have hC:=fun W=>Bg key W;go_enter Tryz.func75,Tryz.ntmps75;go_upto_region 2 with(fail);obtain⟨wi,hwi⟩: ∃wi,(w.alloc (.cells #[y0,.string key,y2,.int .i64 n,y4,y5,y6,y7,y8,y9,y10,y11,y12,y13,y14,y15,y16,y17,y18] 45)).alloc (.cells #[.int .i64 3,.bool false,.int .i64 n,.string ⟨#[]⟩,.slice none 0 0,.slice none 0 0] 42)=wi:=⟨_,rfl⟩;have Hbi:Hid (Below w.heap.size w wi):=hwi▸((Aa _ _).alloc (by simp) _);have hxb:Aj wi w.heap.size 45 #[y0,.string key,y2,.int .i64 n,y4,y5,y6,y7,y8,y9,y10,y11,y12,y13,y14,y15,y16,y17,y18]:=hwi▸(Aj.new _ _ _).alloc _;have hxv:Aj wi (w.heap.size+1) 42 #[.int .i64 3,.bool false,.int .i64 n,.string ⟨#[]⟩,.slice none 0 0,.slice none 0 0]:=by
  rw[<-hwi];have:=Aj.new (w.alloc (.cells #[y0,.string key,y2,.int .i64 n,y4,y5,y6,y7,y8,y9,y10,y11,y12,y13,y14,y15,y16,y17,y18] 45)) 42 #[.int .i64 3,.bool false,.int .i64 n,.string ⟨#[]⟩,.slice none 0 0,.slice none 0 0]
  rwa [World.size_alloc]at this
 have d1:=hxb.cell 1;obtain⟨v0,v1,v2,v3,v4,v5⟩:=Bd hxv;have hgb:=hxb.lt;have hgv:=hxv.lt;obtain⟨HC,Hxb,Hxv⟩:=hid3 hC hxb hxv;clear hC hxb hxv;rw[hwi];clear hwi
 go_region_held3 (fun W=>W.cell? ⟨w.heap.size,1,none⟩=some (.string key)/\W.cell? ⟨w.heap.size+1,0,none⟩=some (.int .i64 3)/\W.cell? ⟨w.heap.size+1,1,none⟩=some (.bool false)/\W.cell? ⟨w.heap.size+1,2,none⟩=some (.int .i64 n)/\W.cell? ⟨w.heap.size+1,3,none⟩=some (.string ⟨#[]⟩)/\W.cell? ⟨w.heap.size+1,4,none⟩=some (.slice none 0 0)/\W.cell? ⟨w.heap.size+1,5,none⟩=some (.slice none 0 0)) (go_keep) (first
  |(go_at_call 67;refine(HC.out _).mono ?_;rintro e w2 ⟨rfl,hb2⟩;have hbr2:Below wi.heap.size wi w2:=((Below.drew (Below.refl _ _)).trans hb2);obtain⟨hc2,hg2⟩:=A8 hbr2))
 all_goals
  have HB:=qz (Hbi.out.trans (hbr2.mono Hbi.out.size));clear hc2 hg2 hb2 hbr2;go_wp2;go_ret;exact⟨HB.out.alloc HB.out.size _,_,rfl,D0 HB.out.size rfl ((Bc.one (Ad2 _ _ Na n)).app (Bc.one (Dz _ _ As key)))⟩
theorem Td (y0:Value) (key:ByteArray) (y2 y3 y4 y5 y6 y7 y8 y9 y10 y11:Value) (k:Int) (b:Bool) (n:Int) (t:ByteArray) (l:List Val) (o:List (ByteArray×Val)) (la oa:Option Addr) (lc oc:Nat) (y18:Value) (w:World)
 (hV:Ac w w.heap.size (.mk k b n t l o) [.int .i64 k,.bool b,.int .i64 n,.string t,.slice la l.length lc,.slice oa o.length oc]) (hb:(Val.mk k b n t l o).bulk<=100000000):
 Calls Tryz.prog 122 #[.agg #[y0,.string key,y2,y3,y4,y5,y6,y7,y8,y9,y10,y11,.int .i64 k,.bool b,.int .i64 n,.string t,.slice la l.length lc,.slice oa o.length oc,y18]] w (Cn [(As,tv key),(E3,.mk k b n t l o)] w):=by
 have HC:=qz (fun W=>Bg key W);have HD:Hid (∀W,Below w.heap.size w W->Calls Tryz.prog 34 #[.agg #[.int .i64 k,.bool b,.int .i64 n,.string t,.slice la l.length lc,.slice oa o.length oc]] W (Ga W (.mk k b n t l o))):=fun W hB=>Hd _ _ W (Ac.more hB.size _ _ (hV.below hB)) hb;obtain⟨wi,hwi⟩: ∃wi,w.alloc (.cells #[y0,.string key,y2,y3,y4,y5,y6,y7,y8,y9,y10,y11,.int .i64 k,.bool b,.int .i64 n,.string t,.slice la l.length lc,.slice oa o.length oc,y18] 45)=wi:=⟨_,rfl⟩;have Hbi:Hid (Below w.heap.size w wi):=hwi▸Aa _ _;have hxb:Aj wi w.heap.size 45 #[y0,.string key,y2,y3,y4,y5,y6,y7,y8,y9,y10,y11,.int .i64 k,.bool b,.int .i64 n,.string t,.slice la l.length lc,.slice oa o.length oc,y18]:=hwi▸Aj.new _ _ _;have d1:=hxb.cell 1;have d12:=hxb.cell 12;have d13:=hxb.cell 13;have d14:=hxb.cell 14;have d15:=hxb.cell 15;have d16:=hxb.cell 16;have d17:=hxb.cell 17;have hgb:=hxb.lt;have Hxb:=qz hxb;clear hxb;clear hV;go_enter Tryz.func122,Tryz.ntmps122;go_upto_region 1 with(fail);clear hwi
 go_region_held3 (fun W=>W.cell? ⟨w.heap.size,1,none⟩=some (.string key)/\W.cell? ⟨w.heap.size,12,none⟩=some (.int .i64 k)/\W.cell? ⟨w.heap.size,13,none⟩=some (.bool b)/\W.cell? ⟨w.heap.size,14,none⟩=some (.int .i64 n)/\W.cell? ⟨w.heap.size,15,none⟩=some (.string t)/\W.cell? ⟨w.heap.size,16,none⟩=some (.slice la l.length lc)/\W.cell? ⟨w.heap.size,17,none⟩=some (.slice oa o.length oc)) (go_keep) (first
  |(go_at_call 67;refine(HC.out _).mono ?_;rintro e w2 ⟨rfl,hb2⟩;have hbr2:Below wi.heap.size wi w2:=((Below.drew (Below.refl _ _)).trans hb2);obtain⟨hc2,hg2⟩:=A8 hbr2)
  |(go_at_call 34;refine(HD.out _ (Hbi.out.trans (hbr2.mono Hbi.out.size))).mono ?_;rintro e w3 ⟨⟨cs4,rfl,hl4,hf4⟩,hb3⟩;obtain⟨la2,lc2,oa2,oc2,rfl⟩:=Eu hf4;have hbr3:=hbr2.trans (hb3.mono hbr2.size);have hff:=hf4.keep (b':=w.heap.size) (w':=w3) (Nat.le_trans Hbi.out.size hbr2.size) (Nat.le_refl _) (fun _ _ _=>rfl);have Hff:=qz hff;obtain⟨hc3,hg3⟩:=A8 hbr3;clear hf4 hff))
 all_goals
  have HB:=qz (Hbi.out.trans (hbr3.mono Hbi.out.size));clear hc2 hg2 hc3 hg3 hb2 hb3 hbr2 hbr3;go_wp2;go_ret;exact⟨HB.out.alloc HB.out.size _,_,rfl,D0 HB.out.size rfl ((Bc.one (Dz _ _ As key)).app (Bc.one ((Da (key:=E3) Hff.out).later (Aa _ _))))⟩
theorem Ce {S:Nat->Prop} {w:World} {o:List (ByteArray×Val)} {a:Option Addr} {n c:Nat} (h:Ab S w (.row 7 (dO o)) [.slice a n c]):Ab S w (dV (ov o)) [.int .i64 6,.bool false,.int .i64 0,.string ⟨#[]⟩,.slice none 0 0,.slice a n c]:=fun w'' h1 h2=>by
 simp only[ov,dV,Ai];exact Ah.six.2 ⟨[.slice none 0 0], [.slice a n c],rfl,rfl,rfl,rfl,rfl,⟨none,0,rfl,by simp[dL], [],rfl,by simp[dL]⟩,h w'' h1 h2⟩
theorem B8 (S:Nat->Prop) (w:World) (key s:ByteArray):Ab S w (dP (key,tv s)) [.string key,.int .i64 4,.bool false,.int .i64 0,.string s,.slice none 0 0,.slice none 0 0]:=fun _ _ _=>Uz _ _ _ _
theorem Gc {S:Nat->Prop} {w:World} {key:ByteArray} {v:Val} {cs:List Value} (h:Ab S w (dV v) cs):Ab S w (dP (key,v)) (.string key::cs):=fun w'' h1 h2=>⟨[.string key],cs,rfl,⟨rfl,rfl⟩,cs, [],by simp,h w'' h1 h2,rfl⟩
theorem Xv {S0:Nat->Prop} {w w6:World} {R b:Nat} {t e:TypeId} {sz:Nat} {l:List D} {V:Value} {cs:Array Value} {wr:World} (h:Aj w R t cs) (hg:w.grownBy w6 V.ownBlock) (hr:Bo S0 b e sz wr l V) (hR:R<b\/wr.heap.size<=R):Aj w6 R t cs:=
 h.grown hg fun e=>by have:=hr.base R e.symm;omega
theorem Im {S0:Nat->Prop} {w w6:World} {B b:Nat} {e:TypeId} {sz:Nat} {l:List D} {V:Value} {w0 wr:World} (h:Below B w0 w) (hg:w.grownBy w6 V.ownBlock) (hr:Bo S0 b e sz wr l V) (hB:B<=b) (hBw:B<=w.heap.size):Below B w0 w6:=
 h.grown hg hBw fun k hk=>Nat.le_trans hB (hr.base k hk).1
theorem Yj (S:Nat->Prop) (w:World) (key:ByteArray) (n:Int):Ab S w (dP (key,iv n)) [.string key,.int .i64 3,.bool false,.int .i64 n,.string ⟨#[]⟩,.slice none 0 0,.slice none 0 0]:=fun _ _ _=>Uy _ _ _ _
theorem Bc.at_ {b s:Nat} {w:World} {l:List D} {ns:List Value} (hs: ∀d ∈ l,d.cells=s) (h:Bc b w l ns) {i:Nat} {d:D} (hi:l[i]? =some d):
 ∃cs,An b w d cs/\cs.length=s/\ ∀j u,cs[j]? =some u->ns[i*s+j]? =some u:=by
 have hd:=hs d (List.mem_of_getElem? hi);have key: ∀w'':World,w.heap.size<=w''.heap.size->(∀p:Addr,b<=p.block->p.block<w.heap.size->w''.cell? p=w.cell? p)->Ai w'' w.heap.size d ((ns.drop (i*s)).take s)/\((ns.drop (i*s)).take s).length=s:=by
  intro w'' h1 h2;obtain⟨cs,g1,g2,g3⟩:=Ah.at_ hs (h w'' h1 h2) hi;have:cs=(ns.drop (i*s)).take s:=by
   refine List.ext_getElem? fun j=> ?_;rw[List.getElem?_take,List.getElem?_drop];by_cases hj:j<s
   . rw[if_pos hj];exact(g3 j _ (List.getElem?_eq_getElem (by omega))).symm▸List.getElem?_eq_getElem (by omega)
   . rw[if_neg hj,List.getElem?_eq_none (by omega)]
  rw[<-this];exact⟨g1,g2⟩
 refine⟨_,fun w'' h1 h2=>(key w'' h1 h2).1,(key w (Nat.le_refl _) fun _ _ _=>rfl).2,fun j u hu=> ?_⟩;rw[List.getElem?_take,List.getElem?_drop]at hu;by_cases hj:j<s
 . rwa [if_pos hj]at hu
 . rw[if_neg hj]at hu;cases hu
structure LM (b:Nat) (w:World) (o:List (ByteArray×Val)) (q:Nat) (wr:World) (V:Value):Prop where
 below:Below w.heap.size w wr
 res:Aj wr w.heap.size 42 Ak
 var:Aj wr (w.heap.size+1) 42 #[.int .i64 6,.bool false,.int .i64 0,.string ⟨#[]⟩,.slice none 0 0,V]
 row:Bo (fun i=>(b<=i/\i<w.heap.size)\/w.heap.size+1<i) (w.heap.size+2) 74 7 wr (dO (o.take q)) V
theorem Aep {B:Nat} {w4:World} {key:ByteArray} {k:Int} {b:Bool} {n:Int} {t:ByteArray} {l:List Val} {o:List (ByteArray×Val)} {cs:List Value} (h:An B w4 (dP (key,.mk k b n t l o)) cs): ∃la lc oa oc,cs= [.string key,.int .i64 k,.bool b,.int .i64 n,.string t,.slice la l.length lc,.slice oa o.length oc]:=by
 obtain⟨_,_,rfl,⟨rfl,_⟩,c1,_,rfl,h1,rfl⟩:=h.now;have h2:=Co _ _ h1;simp only[Ac]at h2;obtain⟨la,lc,oa,oc,rfl,_,_⟩:=h2;exact⟨la,lc,oa,oc,rfl⟩
theorem Bo.keepS {S0:Nat->Prop} {b:Nat} {t:TypeId} {s:Nat} {wr w':World} {l:List D} {V:Value} (h:Bo S0 b t s wr l V) (hs:wr.heap.size<=w'.heap.size) (hk: ∀i,(S0 i\/V.ownBlock=some i)->i<wr.heap.size->w'.heap[i]? =wr.heap[i]?):Bo S0 b t s w' l V:=by
 obtain⟨ns,h1,h2,h3⟩:=h;have hl:=h1.lt;refine⟨ns,⟨h1.1, ?_⟩,h2,fun w'' k1 k2=>Ah.more (h3 w'' (by omega) (fun p p1 p2=>(k2 p p1 (by omega)).trans (World.cell?_of_block (hk p.block (.inl p1.1) p2)))) hs⟩;rcases h1.2 with⟨rfl,h0⟩|⟨g,cap,cur,rfl,hbg,hg,h5⟩
 . exact .inl ⟨rfl,h0⟩
 . exact .inr ⟨g,cap,cur,rfl,hbg,(hk g (.inr rfl) (Array.getElem?_eq_some_iff.1 hg).1).trans hg,h5⟩
theorem Bk (b:Nat) (o:List (ByteArray×Val)) (V0:Value) (w:World) (hbw:b<=w.heap.size) (hP:Et b w o V0) (ho:o.length<=1000000):
 Calls Tryz.prog 66 #[V0] w fun e w'=>Below w.heap.size w w'/\ ∃oa oc,e=.returned (.agg #[.int .i64 6,.bool false,.int .i64 0,.string ⟨#[]⟩,.slice none 0 0,.slice oa o.length oc])/\An b w' (dV (ov o)) [.int .i64 6,.bool false,.int .i64 0,.string ⟨#[]⟩,.slice none 0 0,.slice oa o.length oc]:=by
 obtain⟨g,c,ns,rfl,hbg,hgw,hfa,hcell⟩:=hP;obtain⟨j0,hj,hy0,hy1,hy2⟩:=info_parts O7;have hI0:LM b w o 0 ((w.alloc (.cells Ak 42)).alloc (.cells #[.int .i64 6,.bool false,.int .i64 0,.string ⟨#[]⟩,.slice none 0 0,.slice none 0 0] 42)) (.slice none 0 0):=
  ⟨((Below.refl _ _).alloc (Nat.le_refl _) _).alloc (by simp) _,(Aj.new _ _ _).alloc _,by simpa using Aj.new (w.alloc (.cells Ak 42)) 42 #[.int .i64 6,.bool false,.int .i64 0,.string ⟨#[]⟩,.slice none 0 0,.slice none 0 0],by simpa[dO]using Bo.nil _ _ _ _ _⟩
 obtain⟨Hj,Hy0,Hy1,Hy2,HI0,Hfa,Hcell⟩:=hid7 hj hy0 hy1 hy2 hI0 hfa hcell;clear hj hy0 hy1 hy2 hI0 hfa hcell;go_enter Tryz.func66,Tryz.ntmps66;go_wp2_with (fail);go_loopw [9] (fun i wr=> ∃q:Nat,i=.int .i64 q/\q<=o.length/\ ∃V,Hid (LM b w o q wr V)) (fun i _=>o.length - (intOf i).toNat)
 case atStart=>exact⟨0,rfl,Nat.zero_le _,_,HI0⟩
 case round=>
  obtain⟨q,rfl,hq,V,hI⟩:=hrel;clear HI0;by_cases hlt:q<o.length
  . obtain⟨⟨key,v⟩,hp⟩: ∃p,o[q]? =some p:=⟨_,List.getElem?_eq_getElem hlt⟩;have htk:dO (o.take q)++ [dP (key,v)]=dO (o.take (q+1)):=by rw[List.take_add_one,hp,D4,D4];simp
    obtain⟨cs,hf,hl7,hat⟩:=Bc.at_ (Cu o) Hfa.out (i:=q) (d:=dP (key,v)) (by rw[D4,List.getElem?_map,hp];rfl);obtain⟨k',b',n',t',l',o'⟩:=v;obtain⟨la',lc',oa',oc',rfl⟩:=Aep hf;have hbr:=hI.out.below;have hz:=hbr.size;have hc: ∀j u, [Value.string key,.int .i64 k',.bool b',.int .i64 n',.string t',.slice la' l'.length lc',.slice oa' o'.length oc'][j]? =some u->wr.cell? ⟨g,q*7+j,none⟩=some u:=fun j u hu=>(hbr.cell (p:=⟨g,q*7+j,none⟩) hgw).trans (Hcell.out _ _ (hat j u hu));have c0:=hc 0 _ rfl;have c1:=hc 1 _ rfl;have c2:=hc 2 _ rfl;have c3:=hc 3 _ rfl;have c4:=hc 4 _ rfl;have c5:=hc 5 _ rfl;have c6:=hc 6 _ rfl;rw[Nat.add_zero]at c0;have hgr:g<wr.heap.size:=by omega
    obtain⟨aV,cV,rfl⟩:=hI.out.row.slice;have hdl:(dO (o.take q)).length=q:=by rw[Dg,List.length_take];omega
    have hLo:Hid ((dO (o.take q)).length+1<=maxLen/\((dO (o.take q)).length+1)*104<=140737488355328):=by rw[hdl];exact⟨by simp only[maxLen];omega,by omega⟩
    have hxv:=hI.out.var;have hxr:=hI.out.res;have y5:=hxv.cell 5;have f5:=hxv.frozen 5;have hgv:=hxv.lt;have hq1:(q:Int)<(o.length:Int):=by omega
    have hq0:(0:Int)<=q:=by omega
    have hw2:Below wr.heap.size wr ((wr.alloc (.cells #[.string key,.int .i64 k',.bool b',.int .i64 n',.string t',.slice la' l'.length lc',.slice oa' o'.length oc'] 131)).alloc (.cells #[.string key,.int .i64 k',.bool b',.int .i64 n',.string t',.slice la' l'.length lc',.slice oa' o'.length oc'] 74)):=((Below.refl _ _).alloc (Nat.le_refl _) _).alloc (by simp) _;have Hrow2:=qz (hI.out.row.below hw2);have hxi:Ab (fun i=>((b<=i/\i<w.heap.size)\/w.heap.size+1<i)/\(Value.slice aV (dO (o.take q)).length cV).ownBlock≠some i) ((wr.alloc (.cells #[.string key,.int .i64 k',.bool b',.int .i64 n',.string t',.slice la' l'.length lc',.slice oa' o'.length oc'] 131)).alloc (.cells #[.string key,.int .i64 k',.bool b',.int .i64 n',.string t',.slice la' l'.length lc',.slice oa' o'.length oc'] 74)) (dP (key,.mk k' b' n' t' l' o')) [.string key,.int .i64 k',.bool b',.int .i64 n',.string t',.slice la' l'.length lc',.slice oa' o'.length oc']:=
     (((Ab.of_fresh hf).mono (T:=fun i=>b<=i/\i<w.heap.size) (fun i hi h=>⟨h,hi⟩)).below (hbr.trans (hw2.mono hz))).mono (fun i _ hi=>⟨.inl hi,fun e=>by have:=(hI.out.row.base i e).1;omega⟩)
    have Hxv2:=qz (hxv.below hw2 hgv);have Hxr2:=qz (hxr.below hw2 hxr.lt);have Hbw2:=qz (hbr.trans (hw2.mono hz));have hs2:=hw2.size;have hrd:=E7 (wr.alloc (.cells #[.string key,.int .i64 k',.bool b',.int .i64 n',.string t',.slice la' l'.length lc',.slice oa' o'.length oc'] 131)) (.string key) (.int .i64 k') (.bool b') (.int .i64 n') (.string t') (.slice la' l'.length lc') (.slice oa' o'.length oc');rw[World.size_alloc]at hrd;have Hrow0:=qz hI.out.row;obtain⟨Hw2,Hxi,Htk,Hbr,Hxv,Hxr,Hf,Hrd⟩:=hid8 hw2 hxi htk hbr hxv hxr hf hrd;clear hw2 hxi htk hbr hxv hxr hf hrd;clear hc hat hdl;go_upto_region 5 with(fail)
    iterate 26 go_step
    refine Mu (d:=dP (key,.mk k' b' n' t' l' o')) (V:=.slice aV (dO (o.take q)).length cV) (.tmp 14) (.tmp 20) 40 rfl Tryz.underlying40 Hj.out Hy0.out Hy1.out Hy2.out rfl (by omega) rfl Hrow2.out (by omega) (Cv _) Hxi.out rfl Hrd.out hLo.out.1 hLo.out.2 ?_;intro V6 w6 hrow6 hg6 hat6;have hxv6:=Xv Hxv2.out hg6 Hrow0.out (.inl (by omega));have e6:=hxv6.cell 5;have g6:=hxv6.frozen 5;have hxr6:=Xv Hxr2.out hg6 Hrow0.out (.inl (by omega));have hw6:=Im Hbw2.out hg6 Hrow0.out (by omega) (by omega);rw[Htk.out]at hrow6;obtain⟨a6,c6,rfl⟩:=hrow6.slice;have HG:=qz (And.intro hrow6 (And.intro hxv6 (And.intro hxr6 hw6)));clear hrow6 hg6 hat6 hxv6 hxr6 hw6;obtain⟨k1,k2,k3,k4⟩:=HG.out;have hkb:=k1.base;have HN:Hid (LM b w o (q+1) (w6.setCell ⟨w.heap.size+1,5,none⟩ (.slice a6 (dO (o.take (q+1))).length c6)) (.slice a6 (dO (o.take (q+1))).length c6)):=
     ⟨k4.setCell (by simp) _,k3.far (by simp) _,k2.set_ 5 _,k1.keepS (by simp[World.setCell]) (fun i h1 _=>Below.heap_setCell _ _ _ _ (by rcases h1 with h1|h1;(simp;omega);(have:=(hkb i h1).1;simp;omega)))⟩
    clear k1 k2 k3 k4 HG hkb;go_wp2;go_roundw
    case rel=>exact⟨q+1,by go_num,by omega,_,HN⟩
    case measure=>simp only[intOf];omega
  . obtain rfl:q=o.length:=by omega
    have hln:(dO (o.take o.length)).length=o.length:=by rw[Dg,List.take_length]
    obtain⟨aV,cV,rfl⟩:=hI.out.row.slice_n hln;obtain⟨i1,i2,i3,i4⟩:=hI.out;obtain⟨y0,y1,y2,y3,y4,y5⟩:=Bd i3;obtain⟨r0,r1,r2,r3,r4,r5⟩:=Bd i2;have fz:=i2.frozen;have Hq:=qz i4.closeIn;have Hba:=qz i4.base;have hgv:=i3.lt;obtain⟨I1,I2,I3,I4,Hln⟩:=hid5 i1 i2 i3 i4 hln;clear i1 i2 i3 i4 hln;clear hI;go_upto_region 7 with(fail)
    repeat go_step
    have hxf:=((((((I2.out.set_ 0 (.int .i64 6)).set_ 1 (.bool false)).set_ 2 (.int .i64 0)).set_ 3 (.string ⟨#[]⟩)).set_ 4 (.slice none 0 0)).set_ 5 (.slice aV o.length cV));have hbf:=At [.int .i64 6,.bool false,.int .i64 0,.string ⟨#[]⟩,.slice none 0 0,.slice aV o.length cV] I1.out (Nat.le_refl _) (o:=0);have hff:An b (A7 wr w.heap.size 0 [.int .i64 6,.bool false,.int .i64 0,.string ⟨#[]⟩,.slice none 0 0,.slice aV o.length cV]) (dV (ov o)) [.int .i64 6,.bool false,.int .i64 0,.string ⟨#[]⟩,.slice none 0 0,.slice aV o.length cV]:=by
     have h0:=Hq.out;rw[List.take_length]at h0;have h1:=(Ce h0).later (w':=A7 wr w.heap.size 0 [.int .i64 6,.bool false,.int .i64 0,.string ⟨#[]⟩,.slice none 0 0,.slice aV o.length cV]) (by rw[Aw];exact Nat.le_refl _) (fun p p1 _=>World.cell?_of_block (Ar _ _ _ _ _ (by
      rcases p1 with p1|p1
      . omega
      . have:=(Hba.out _ p1).1;omega)))
     exact h1.mono fun i _ p1=>by
      rcases p1 with p1|p1
      . omega
      . have:=(Hba.out _ p1).1;omega
    exact bodyPost_ret (Aq rfl rfl hxf) rfl ⟨hbf,aV,cV,rfl,hff⟩
end Go.Proofs.YtobmaegpfbheoaaGreatDoor
