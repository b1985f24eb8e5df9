/- Parts: commonplaceref02.Equal: has one value all that the other one has? Condition: a bulk of at most 10^8. -/
import Derived.Test.YtmglfdckpjegdaaGreatDoorZShelfS
import Derived.Shelf.SlSortCmp.WholeK
import Derived.Test.YtmglfdckpjegdaaGreatDoorKMu15
set_option maxHeartbeats 20000000
namespace Go.Proofs.YtmglfdckpjegdaaGreatDoor
open Go Go.RowKit
theorem S7: ∀a b:List UInt8,Lib.compareBytes a b<0 ↔ Op.bytesLess a b=true
 | [], []=>by decide
 | [],_::_=>by simp[Lib.compareBytes,Op.bytesLess]
 |_::_, []=>by simp[Lib.compareBytes,Op.bytesLess]
 |a::x,b::y=>by
  have ih:=S7 x y;have e1:Lib.compareBytes (a::x) (b::y)=if a<b then -1 else if b<a then 1 else Lib.compareBytes x y:=rfl;have e2:Op.bytesLess (a::x) (b::y)=(decide (a<b)||(a==b&&Op.bytesLess x y)):=rfl;rw[e1,e2];by_cases h:a<b
  . rw[if_pos h];simp[h]
  . rw[if_neg h];by_cases h':b<a
    . rw[if_pos h'];have hne:(a==b)=false:=by rw[beq_eq_false_iff_ne];rintro rfl;exact absurd h' h
      simp[h,hne]
    . rw[if_neg h',ih];have hab:a=b:=UInt8.toNat_inj.1 (by rw[UInt8.lt_iff_toNat_lt]at h h';omega);subst hab;simp[h]
theorem Ano (a b:List UInt8):decide (Lib.compareBytes a b<0)=Op.bytesLess a b:=by
 rw[Bool.eq_iff_iff,decide_eq_true_iff];exact S7 a b
structure MC where
 key:ByteArray
 val:Val
 cs:List Value
 len:cs.length=6
 one: ∀v ∈ cs,v.oneCell'=true
instance:Inhabited MC:=⟨⟨Gx,O3, [.int .i64 0,.int .i64 0,.int .i64 0,.int .i64 0,.int .i64 0,.int .i64 0],rfl,by simp[Value.oneCell']⟩⟩
def MC.enc (x:MC):List Value:=.string x.key::x.cs
def MC.pair (x:MC):ByteArray×Val:=(x.key,x.val)
def cfM (x y:MC):Int:=Lib.compareBytes x.key.data.toList y.key.data.toList
theorem Aod (x y:MC):ltOf cfM x y=N4 x.key y.key:=by
 unfold ltOf cfM N4;rw[Ano,Lib.toList_data,Lib.toList_data]
theorem Aqs:Sort.SWO (ltOf cfM) where
 irrefl x:=by rw[Aod];exact I7 _
 trans x y z:=by simp only[Aod];exact Kh
 ntrans x y z:=by
  simp only[Aod];intro h1 h2
  cases h3:N4 x.key z.key with
  |false=>rfl
  |true=>
   exfalso
   rcases Up y.key x.key with h|h|h
   . have:=Kh h h3;rw[h2]at this;cases this
   . rw[<-h]at h3;rw[h2]at h3;cases h3
   . rw[h1]at h;cases h
theorem Pr (x:MC):x.enc.length=7:=by simp[MC.enc,x.len]
theorem Aio (x:MC): ∀v ∈ x.enc,v.oneCell'=true:=by
 intro v hv;rcases List.mem_cons.1 hv with rfl|hv
 . rfl
 . exact x.one v hv
theorem Aef {l:List Value} (h:l.length=6): ∃a b c d e f,l= [a,b,c,d,e,f]:=by
 match l,h with
 | [a,b,c,d,e,f],_=>exact⟨a,b,c,d,e,f,rfl⟩
set_option maxRecDepth 100000 in
theorem App (x y:MC) (W:World):Calls Tryz.prog 177 #[.agg x.enc.toArray,.agg y.enc.toArray] W fun e w'=>e=.returned (.int .i64 (cfM x y))/\ ∃q os,w'=Sort.grow (W.drewN q) os:=by
 obtain⟨kx,vx,cx,lx,ox⟩:=x;obtain⟨ky,vy,cy,ly,oy⟩:=y;obtain⟨a0,a1,a2,a3,a4,a5,rfl⟩:=Aef lx;obtain⟨b0,b1,b2,b3,b4,b5,rfl⟩:=Aef ly;have hC:=fun W=>Tryz.strings_Compare kx ky W;have hA:=Sort.alloc_eq_grow;simp only[MC.enc,cfM];generalize Lib.compareBytes kx.data.toList ky.data.toList=r at hC ⊢;have n0:=ox a0 (by simp);have n1:=ox a1 (by simp);have n2:=ox a2 (by simp);have n3:=ox a3 (by simp);have n4:=ox a4 (by simp);have n5:=ox a5 (by simp);have m0:=oy b0 (by simp);have m1:=oy b1 (by simp);have m2:=oy b2 (by simp);have m3:=oy b3 (by simp);have m4:=oy b4 (by simp);have m5:=oy b5 (by simp);obtain⟨HC,HA⟩:=hid2 hC hA;clear hC hA;go_enter Tryz.func177,Tryz.ntmps177;go_wp2_with (fail);(with_reducible refine(HC.out _).mono ?_);rintro e w2 ⟨rfl,rfl⟩;go_wp2;go_ret;refine⟨rfl,0, #[.cells #[.string kx,a0,a1,a2,a3,a4,a5] 63,.cells #[.string ky,b0,b1,b2,b3,b4,b5] 63], ?_⟩;rw[HA.out,HA.out,Sort.grow_grow];rfl
theorem Ahi (k:Nat) (hk:0<k): ∀(l:List MC) (t:Nat),(∀x ∈ l,x.enc.length=k)->(l.flatMap MC.enc)[t]? =(l[t / k]?).bind fun x=>x.enc[t % k]?
 | [],t,_=>by simp
 |x::r,t,h=>by
  have hx:=h x (by simp);rw[List.flatMap_cons];by_cases ht:t<k
  . rw[List.getElem?_append_left (by omega),Nat.div_eq_of_lt ht,Nat.mod_eq_of_lt ht];simp
  . rw[List.getElem?_append_right (by omega),hx,Ahi k hk r (t - k) (fun y hy=>h y (by simp[hy]))];have h1:t / k=(t - k) / k+1:=by rw[Nat.div_eq_sub_div hk (by omega)]
    have h2:t % k=(t - k) % k:=Nat.mod_eq_sub_mod (by omega);rw[h1,h2,List.getElem?_cons_succ]
theorem Qo: ∀l:List MC,(l.flatMap MC.enc).length=l.length*7
 | []=>rfl
 |x::r=>by rw[List.flatMap_cons,List.length_append,Qo r,Pr,List.length_cons];omega
theorem Acr (l:List MC):Sort.flatK MC.enc 7 l.toArray=(l.flatMap MC.enc).toArray:=by
 apply Array.ext
 . rw[Sort.size_flatK,List.size_toArray,List.size_toArray,Qo]
 . intro t h1 h2;rw[Sort.size_flatK,List.size_toArray]at h1;have e1:=Sort.get_flatK MC.enc 7 l.toArray t (by simpa using h1);have e2:=Ahi 7 (by decide) l t (fun x _=>Pr x);have hd:t / 7<l.length:=by omega
   have hm:t % 7<(l[t / 7]).enc.length:=by rw[Pr];omega
   rw[List.getElem?_eq_getElem hd,Option.bind_some,List.getElem?_eq_getElem hm]at e2;have e3:(l.flatMap MC.enc)[t]'(by simpa using h2)=(l[t / 7]).enc[t % 7]:=by
    rw[List.getElem?_eq_getElem (by simpa using h2)]at e2;exact Option.some.inj e2
   rw[getElem!_pos _ t (by rw[Sort.size_flatK];simpa using h1)]at e1;rw[e1,tk1,e3];have e4:(l.toArray)[t / 7]! =l[t / 7]:=by rw[getElem!_pos _ _ (by simpa using hd)];simp
   rw[e4,getElem!_pos (l[t / 7]).enc (t % 7) hm]
theorem Ab8 {F:World->Prop} {B:Nat}: ∀(acc:List (ByteArray×Val)) (ns:List Value),(∃w,F w)->(∀w'',F w''->Aj w'' B (dO acc) ns)->
 ∃d:List MC,d.map MC.pair=acc/\ns=d.flatMap MC.enc/\ ∀w'',F w''-> ∀x ∈ d,Holds w'' B (dP x.pair) x.enc
 | [],ns,⟨w,hw⟩,h=>⟨[],rfl,h w hw,by simp⟩
 |m::r,ns,⟨w,hw⟩,h=>by
  have h0:=h w hw;simp only[dO,Aj]at h0;obtain⟨c1,c2,rfl,h1,h2⟩:=h0;have l1:=h1.len;rw[Ey]at l1;have h1':=h1;obtain⟨k,v⟩:=m;simp only[dP,Holds,Aj]at h1';obtain⟨e1,e2,rfl,⟨rfl,_⟩,e3,e4,rfl,hV,rfl⟩:=h1';rw[List.append_nil]at*
  have l6:e3.length=6:=by have:=l1.1;simp at this;omega
  have key: ∀w'',F w''->Holds w'' B (dP (k,v)) (.string k::e3)/\Aj w'' B (dO r) c2:=by
   intro w'' hw'';have h3:=h w'' hw'';simp only[dO,Aj]at h3;obtain⟨f1,f2,e,g1,g2⟩:=h3;have l2:=g1.len.1;rw[Ey]at l2;obtain⟨rfl,rfl⟩:=List.append_inj e (by rw[l2];simpa using l6);exact⟨g1,g2⟩
  obtain⟨d,d1,d2,d3⟩:=Ab8 r c2 ⟨w,hw⟩ (fun w'' hw''=>(key w'' hw'').2);refine⟨⟨k,v,e3,l6,fun u hu=>l1.2 u (by simp[hu])⟩::d,by simp[MC.pair,d1],by simp[MC.enc,d2],fun w'' hw'' x hx=> ?_⟩;rcases List.mem_cons.1 hx with rfl|hx
  . exact(key w'' hw'').1
  . exact d3 w'' hw'' x hx
theorem Oz {w:World} {B:Nat}: ∀(d:List MC),(∀x ∈ d,Holds w B (dP x.pair) x.enc)->Aj w B (dO (d.map MC.pair)) (d.flatMap MC.enc)
 | [],_=>rfl
 |x::r,h=>by
  simp only[List.map_cons,dO,List.flatMap_cons,Aj];exact⟨x.enc,_,rfl,h x (by simp),Oz r (fun y hy=>h y (by simp[hy]))⟩
theorem Abj {d d':List MC} (hp:d'.Perm d) (hn:((d.map MC.pair).map (·.1)).Nodup) (hs: ∀i j,(hij:i<j)->(h:j<d'.length)->N4 (d'[j]).key (d'[i]'(by omega)).key=false):d'.map MC.pair=J0 (d.map MC.pair):=by
 obtain⟨_,s2,s3⟩:=Wo hn;refine Qi ?_ s2 ((hp.map MC.pair).trans s3.symm);have hn':((d'.map MC.pair).map (·.1)).Nodup:=(((hp.map MC.pair).map (·.1)).nodup_iff).2 hn;unfold J5;rw[List.pairwise_iff_getElem];intro i j hi hj hij;simp only[List.length_map]at hi hj;simp only[List.getElem_map,MC.pair];rcases Up (d'[i]).key (d'[j]).key with h|h|h
 . exact h
 . rw[List.map_map,List.nodup_iff_pairwise_ne,List.pairwise_iff_getElem]at hn';exact absurd (by rw[List.getElem_map,List.getElem_map];exact h) (hn' i j (by simpa using hi) (by simpa using hj) hij)
 . rw[hs i j hij hj]at h;cases h
theorem Amt {w:World} {g n:Nat} {os:Array Obj} {cur F:Array Value} {e:TypeId} {fr:Nat×Nat} (hb:w.heap[g]? =some (.cells cur e fr)):
 (Sort.grow (Sort.putRow id (Sort.ahead w n) g 0 F) os).heap[g]? =some (.cells (Sort.putCells id 0 F cur) e fr):=by
 have hg:g<w.heap.size:=(Array.getElem?_eq_some_iff.1 hb).1;rw[Sort.heap_grow_old _ _ (by simpa using hg)];simp[Sort.putRow,Sort.mapBlock,Sort.ahead,Array.getElem?_modify,hb,Sort.onCells]
theorem Ady {w:World} {g n:Nat} {os:Array Obj} (F:Array Value):w.grownBy (Sort.grow (Sort.putRow id (Sort.ahead w n) g 0 F) os) (some g):=by
 refine⟨rfl,rfl,rfl,by simp,fun k hk hne=> ?_⟩;rw[Sort.heap_grow_old _ _ (by simpa using hk)];have:g≠k:=fun e=>hne (by rw[e]);simp[Sort.putRow,Sort.mapBlock,Sort.ahead,Array.getElem?_modify,this]
theorem X3 {b:Nat} {w:World} {acc:List (ByteArray×Val)} {V:Value} (hr:Fl b 63 7 w (dO acc) V) (hb:b<=w.heap.size) (hn:(acc.map (·.1)).Nodup) (hlen:acc.length<=1000000000):
 Calls Tryz.prog 176 #[V,.func (.func 177) #[] #[]] w fun e w'=>e=.returned (.tuple #[])/\w.grownBy w' V.ownBlock/\Au b w' (.row 7 (dO (J0 acc))) [V]:=by
 have hr0:=hr;obtain⟨ns,h1,h2,h3⟩:=hr;rcases h1.2 with⟨rfl,h0⟩|⟨g,cap,cur,rfl,hbg,hg,hnc,_,hsz,htk⟩
 . have hl:acc= []:=by rw[Fv]at h0;exact List.eq_nil_of_length_eq_zero h0
   subst hl;refine(AnyF.slices_SortFunc_none Tryz.sortFunc none 0 (.func (.func 177) #[] #[]) w).mono ?_;rintro e w' ⟨rfl,rfl⟩;exact⟨rfl,World.grownBy.refl _ _,fun _ _ _=>⟨none,0,rfl,by simp[J0,Fc,dO], [],rfl,by simp[J0,Fc,dO]⟩⟩
 . have hgl:=(Array.getElem?_eq_some_iff.1 hg).1;obtain⟨d,rfl,rfl,d3⟩:=Ab8 (F:=fun w''=>w.heap.size<=w''.heap.size/\ ∀p:Addr,b<=p.block->p.block<w.heap.size->(Value.slice (some ⟨g,0,none⟩) (dO acc).length cap).ownBlock≠some p.block->w''.cell? p=w.cell? p) acc ns ⟨w,Nat.le_refl _,fun _ _ _ _=>rfl⟩ (fun w'' hw=>h3 w'' hw.1 hw.2);have hdl:(dO (d.map MC.pair)).length=d.toArray.size:=by rw[Fv];simp
   have hH:Sort.HoldsK MC.enc 7 w g 0 d.toArray:=by
    unfold Sort.HoldsK;rw[Acr];intro j hj;have hj':j<(d.flatMap MC.enc).length:=by simpa using hj
    have h5:=h1.cells (g:=g) rfl j ((d.flatMap MC.enc)[j]) (List.getElem?_eq_getElem hj');rw[Gv]at h5;rw[getElem!_pos _ j hj];exact⟨h5,(show Al w g 63 cur from hg).frozen _⟩
   have eg: ∀args w,(callFunc 177 args).run Tryz.prog w=.ok (.enter 177 args) w:=enters_of Tryz.func177 (by kernel_rfl) rfl;have hC:CmpLays Tryz.prog 177 #[] MC.enc 7 cfM g 0 d.toArray.size w:=fun m os dk _ x y=>App x y _;have hS:=AnyQ.slices_SortFunc Tryz.sortFunc 7 (fun w=>by kernel_rfl) (fun w=>by kernel_rfl) MC.enc Pr Aio cfM Aqs 177 #[] g 0 cap d.toArray w eg hC hH hgl (by simp at hlen ⊢;omega);rw[hdl];refine hS.mono ?_;rintro e w' ⟨rfl,d',n,os,hp,hso,rfl⟩;obtain⟨p1,_,p3⟩:=hp;rw[Array.extract_size,<-p1,Array.extract_size]at p3;have hpe:d'.toList.Perm d:=by simpa using p3
   have hsp:=Abj hpe hn (fun i j hij hj=>by
    have:=hso i j (Nat.zero_le _) hij (by rw[<-p1];simpa using hj);rw[Aod,getElem!_pos d' j (by simpa using hj),getElem!_pos d' i (by have:j<d'.size:=(by simpa using hj);omega)]at this;simpa using this)
   have hF:Sort.flatK MC.enc 7 d'=(d'.toList.flatMap MC.enc).toArray:=by rw[<-Acr]
   have hgb:w.grownBy (sortWorldK MC.enc 7 w g 0 n d' os) (some g):=Ady _;refine⟨rfl,hgb,fun w'' k1 k2=> ?_⟩;have hsl:(J0 (d.map MC.pair)).length=d.toArray.size:=by rw[<-hsp,List.length_map,Array.length_toList,p1]
   refine⟨_,cap,by rw[Fv,hsl],Dz _,d'.toList.flatMap MC.enc, ?_,.inr ⟨g,0,rfl,Nat.lt_of_lt_of_le hgl hgb.size,fun j u hu=> ?_⟩⟩
   . rw[<-hsp];refine Oz _ fun x hx=> ?_;have hxd:x ∈ d:=hpe.mem_iff.1 hx;refine Holds.more (d3 w'' ⟨Nat.le_trans hgb.size k1,fun p q1 q2 q3=> ?_⟩ x hxd) hgb.size;exact(k2 p q1 (Nat.lt_of_lt_of_le q2 hgb.size)).trans (World.cell?_of_block (hgb.block p.block q2 (fun e=>q3 e.symm)))
   . rw[Nat.zero_add];have hj:j<(d'.toList.flatMap MC.enc).length:=(List.getElem?_eq_some_iff.1 hu).1;have hjs:j<cur.size:=by
      rw[Qo,Array.length_toList,p1]at hj;rw[hsz];have:d.toArray.size<=cap:=by rw[<-hdl];exact hnc
      have:=Nat.mul_le_mul_right 7 this;omega
     refine(k2 ⟨g,j,none⟩ hbg (Nat.lt_of_lt_of_le hgl hgb.size)).trans ?_;have hh:=Amt (n:=n) (os:=os) (F:=Sort.flatK MC.enc 7 d') hg;have hc:=(show Al (Sort.grow (Sort.putRow id (Sort.ahead w n) g 0 (Sort.flatK MC.enc 7 d')) os) g 63 _ from hh).cell j;refine hc.trans ?_;rw[hF];have hjl:j<(d'.toList.map fun a=>a.enc.length).sum:=by rw[<-List.length_flatMap];exact hj
     simp[Sort.putCells,hjs,hjl];exact(List.getElem?_eq_some_iff.1 hu).2
def Ba (p:Prop) (w:World) (e:Ending) (w':World):Prop:= ∃B:Bool,e=.returned (.bool B)/\(B=true ↔ p)/\Below w.heap.size w w'
theorem Ba.no {p:Prop} {w w':World} (h: ¬p) (hb:Below w.heap.size w w'):Ba p w (.returned (.bool false)) w':=⟨false,rfl,by simp[h],hb⟩
theorem Ba.yes {p:Prop} {w w':World} (h:p) (hb:Below w.heap.size w w'):Ba p w (.returned (.bool true)) w':=⟨true,rfl,by simp[h],hb⟩
def EqC (a:Val):Prop:= ∀(b:Val) (cs cs':List Value) (w:World),Ab w w.heap.size a cs->Ab w w.heap.size b cs'->a.bulk<=100000000->b.bulk<=100000000->
    Calls Tryz.prog 12 #[.agg cs.toArray,.agg cs'.toArray] w (Ba (a=b) w)
theorem Se {B:Nat} {a w:World} (h:Below B a w) (n:Nat):Below B a (w.drewN n):=⟨h.os,h.tape,h.output,h.size,h.block⟩
theorem Bj (w:World) (o o':Obj):Below w.heap.size w ((w.alloc o).alloc o'):=(Aa w o).alloc (by simp) _
theorem Acl {W w1:World} (hb:Below W.heap.size W w1):(∀b o,b<W.heap.size->w1.cell? ⟨b,o,none⟩=W.cell? ⟨b,o,none⟩)/\(∀b o,b<W.heap.size->w1.frozen? ⟨b,o,none⟩=W.frozen? ⟨b,o,none⟩):=
 ⟨fun b o h=>hb.cell (p:=⟨b,o,none⟩) h,fun b o h=>hb.frozen (p:=⟨b,o,none⟩) h⟩
set_option maxRecDepth 100000 in
theorem Anu (k k':Int) (b b':Bool) (n n':Int) (t t':ByteArray) (la oa la' oa':Option Addr) (ln lc on oc ln' lc' on' oc':Nat) (w:World) (p:Prop) (hp: ¬p) (h:k≠k'\/b≠b'\/n≠n'\/t≠t'\/ln≠ln'\/on≠on'):
 Calls Tryz.prog 12 #[.agg #[.int .i64 k,.bool b,.int .i64 n,.string t,.slice la ln lc,.slice oa on oc],.agg #[.int .i64 k',.bool b',.int .i64 n',.string t',.slice la' ln' lc',.slice oa' on' oc']] w (Ba p w):=by
 by_cases hk:k=k';rotate_left
 . have e:(k != k')=true:=by simpa using hk
   clear h hk;go_enter Tryz.func12,Tryz.ntmps12;go_wp2;go_ret;exact Ba.no hp (Bj _ _ _)
 subst hk;by_cases hb:b=b';rotate_left
 . clear h
   cases b<;>cases b'<;>first|exact absurd rfl hb|(clear hb;go_enter Tryz.func12,Tryz.ntmps12;go_wp2;go_ret;exact Ba.no hp (Bj _ _ _))
 subst hb;by_cases hn:n=n';rotate_left
 . have e:(n != n')=true:=by simpa using hn
   clear h hn;go_enter Tryz.func12,Tryz.ntmps12;go_wp2;go_ret;exact Ba.no hp (Bj _ _ _)
 subst hn;by_cases ht:t=t';rotate_left
 . have e:(t.toList != t'.toList)=true:=by simp only[bne_iff_ne];exact fun e=>ht (by rw[Lib.toList_data,Lib.toList_data]at e;exact ByteArray.ext (Array.ext' e))
   have e2:(t.toList==t'.toList)=false:=by simpa using e
   have e3: ¬t.toList=t'.toList:=by simpa using e
   clear h ht;go_enter Tryz.func12,Tryz.ntmps12;go_wp2;go_ret;exact Ba.no hp (Bj _ _ _)
 subst ht;by_cases hln:ln=ln';rotate_left
 . have e:((ln:Int) != (ln':Int))=true:=by simp;omega
   clear h hln;go_enter Tryz.func12,Tryz.ntmps12;go_wp2;go_ret;exact Ba.no hp (Bj _ _ _)
 subst hln;by_cases hon:on=on';rotate_left
 . have e:((on:Int) != (on':Int))=true:=by simp;omega
   clear h hon;go_enter Tryz.func12,Tryz.ntmps12;go_wp2;go_ret;exact Ba.no hp (Bj _ _ _)
 subst hon;simp at h
def EA (w:World) (b1 b2:Array Value) (wr:World):Prop:=Below w.heap.size w wr/\Al wr w.heap.size 27 b1/\Al wr (w.heap.size+1) 27 b2
theorem EA.step {w:World} {b1 b2:Array Value} {wr w4:World} (h:EA w b1 b2 wr) (hb:Below wr.heap.size wr w4):EA w b1 b2 w4:=⟨h.1.trans (hb.mono h.1.size),h.2.1.below hb h.2.1.lt,h.2.2.below hb h.2.2.lt⟩
theorem Qx {α:Type} {l l':List α} {q:Nat} {x x':α} (h:l.take q=l'.take q) (hx:l[q]? =some x) (hx':l'[q]? =some x') (e:x=x'):l.take (q+1)=l'.take (q+1):=by
 rw[List.take_add_one,List.take_add_one,hx,hx',h,e]
theorem Vz {α:Type} {l l':List α} {q:Nat} {x x':α} (hx:l[q]? =some x) (hx':l'[q]? =some x') (e:x≠x'):l≠l':=by
 rintro rfl;rw[hx]at hx';exact e (Option.some.inj hx')
set_option maxRecDepth 100000 in
theorem Anv (k:Int) (b:Bool) (n:Int) (t:ByteArray) (l l':List Val) (o o':List (ByteArray×Val)) (la oa la' oa':Option Addr) (lc oc lc' oc':Nat) (w:World) (IH: ∀v ∈ l,EqC v) (IHo: ∀m ∈ o,EqC m.2)
 (hln:l.length=l'.length) (hon:o.length=o'.length)
 (hl:l= []\/ ∃g off,la=some ⟨g,off,none⟩/\g<w.heap.size/\A1 w w.heap.size l g off) (hl':l'= []\/ ∃g off,la'=some ⟨g,off,none⟩/\g<w.heap.size/\A1 w w.heap.size l' g off)
 (ho:o= []\/ ∃g off,oa=some ⟨g,off,none⟩/\g<w.heap.size/\A5 w w.heap.size o g off) (ho':o'= []\/ ∃g off,oa'=some ⟨g,off,none⟩/\g<w.heap.size/\A5 w w.heap.size o' g off)
 (hbl:Bd l<=100000000) (hbl':Bd l'<=100000000) (hbo:Av o<=100000000) (hbo':Av o'<=100000000):
 Calls Tryz.prog 12 #[.agg #[.int .i64 k,.bool b,.int .i64 n,.string t,.slice la l.length lc,.slice oa o.length oc],.agg #[.int .i64 k,.bool b,.int .i64 n,.string t,.slice la' l.length lc',.slice oa' o.length oc']] w (Ba (l=l'/\o=o') w):=by
 have hlb:=Ee l;have hob:=Dj o;have hA0:EA w #[.int .i64 k,.bool b,.int .i64 n,.string t,.slice la l.length lc,.slice oa o.length oc] #[.int .i64 k,.bool b,.int .i64 n,.string t,.slice la' l.length lc',.slice oa' o.length oc'] ((w.alloc (.cells #[.int .i64 k,.bool b,.int .i64 n,.string t,.slice la l.length lc,.slice oa o.length oc] 27)).alloc (.cells #[.int .i64 k,.bool b,.int .i64 n,.string t,.slice la' l.length lc',.slice oa' o.length oc'] 27)):=by
  refine⟨Bj _ _ _,(Al.new w 27 #[.int .i64 k,.bool b,.int .i64 n,.string t,.slice la l.length lc,.slice oa o.length oc]).alloc _, ?_⟩;have:=Al.new (w.alloc (.cells #[.int .i64 k,.bool b,.int .i64 n,.string t,.slice la l.length lc,.slice oa o.length oc] 27)) 27 #[.int .i64 k,.bool b,.int .i64 n,.string t,.slice la' l.length lc',.slice oa' o.length oc'];simpa using this
 have h00:l.take 0=l'.take 0:=by simp
 obtain⟨HIH,HIHo,HA0,H00,Hln,Hon,Hl,Hl',Ho,Ho'⟩:=hid10 IH IHo hA0 h00 hln hon hl hl' ho ho';clear hA0 h00 hln hon hl hl' ho ho';clear IH IHo;go_enter Tryz.func12,Tryz.ntmps12;go_wp2_with (fail);obtain⟨w0,hw0⟩: ∃w0,(w.alloc (.cells #[.int .i64 k,.bool b,.int .i64 n,.string t,.slice la l.length lc,.slice oa o.length oc] 27)).alloc (.cells #[.int .i64 k,.bool b,.int .i64 n,.string t,.slice la' l.length lc',.slice oa' o.length oc'] 27)=w0:=⟨_,rfl⟩;rw[hw0]at HA0 ⊢;clear hw0;go_loopw [5] (fun i wr=> ∃q:Nat,i=.int .i64 q/\q<=l.length/\Hid (l.take q=l'.take q)/\Hid (EA w #[.int .i64 k,.bool b,.int .i64 n,.string t,.slice la l.length lc,.slice oa o.length oc] #[.int .i64 k,.bool b,.int .i64 n,.string t,.slice la' l.length lc',.slice oa' o.length oc'] wr)) (fun i _=>l.length - (intOf i).toNat)
 case atStart=>exact⟨0,rfl,Nat.zero_le _,H00,HA0⟩
 case round=>
  obtain⟨q,rfl,hq,htk,hea⟩:=hrel;clear H00 HA0;have m1:=hea.out.2.1.cell 4;have m2:=hea.out.2.2.cell 4;by_cases hlt:q<l.length
  . have hlt':q<l'.length:=by have:=Hln.out;omega
    obtain⟨g,off,rfl,hg,hLL⟩: ∃g off,la=some ⟨g,off,none⟩/\g<w.heap.size/\A1 w w.heap.size l g off:=Hl.out.resolve_left (by intro e;rw[e]at hlt;simp at hlt);obtain⟨g',off',rfl,hg',hLL'⟩: ∃g off,la'=some ⟨g,off,none⟩/\g<w.heap.size/\A1 w w.heap.size l' g off:=Hl'.out.resolve_left (by intro e;rw[e]at hlt';simp at hlt');obtain⟨x,hx⟩: ∃v,l[q]? =some v:=⟨_,List.getElem?_eq_getElem hlt⟩;obtain⟨x',hx'⟩: ∃v,l'[q]? =some v:=⟨_,List.getElem?_eq_getElem hlt'⟩;have IHx:=HIH.out _ (List.mem_of_getElem? hx);have hbv:=Er (List.mem_of_getElem? hx);have hbv':=Er (List.mem_of_getElem? hx');have:=trivial;have hbw:=hea.out.1;have hz:=hbw.size;have hT:=fun e=>Qx htk.out hx hx' e;have hN:=fun e=>Vz hx hx' e;obtain⟨xv,hxv⟩: ∃xv,x=xv:=⟨_,rfl⟩;obtain⟨xv',hxv'⟩: ∃xv,x'=xv:=⟨_,rfl⟩;obtain⟨k1,b1,n1,t1,l1,o1⟩:=x;obtain⟨k2,b2,n2,t2,l2,o2⟩:=x';obtain⟨la1,lc1,oa1,oc1,hv1,c0,c1,c2,c3,c4,c5⟩:=(hLL.below hg hbw).six hx;obtain⟨la2,lc2,oa2,oc2,hv2,d0,d1,d2,d3,d4,d5⟩:=(hLL'.below hg' hbw).six hx';have hC: ∀W,Below wr.heap.size wr W->Calls Tryz.prog 12 #[.agg #[.int .i64 k1,.bool b1,.int .i64 n1,.string t1,.slice la1 l1.length lc1,.slice oa1 o1.length oc1],.agg #[.int .i64 k2,.bool b2,.int .i64 n2,.string t2,.slice la2 l2.length lc2,.slice oa2 o2.length oc2]] W (Ba (xv=xv') W):=fun W hW=>by
     rw[<-hxv,<-hxv'];exact IHx _ _ _ W (Ab.more (Nat.le_trans hz hW.size) _ _ (hv1.below (hW.mono hz))) (Ab.more (Nat.le_trans hz hW.size) _ _ (hv2.below (hW.mono hz))) (by omega) (by omega)
    rw[hxv,hxv']at hT hN;have z1:g<wr.heap.size:=by omega
    have z2:g'<wr.heap.size:=by omega
    have z3:w.heap.size<wr.heap.size:=hea.out.2.1.lt;have z4:w.heap.size+1<wr.heap.size:=hea.out.2.2.lt;have z5:(q:Int)<(l.length:Int):=by omega
    obtain⟨HC,HT,HN⟩:=hid3 hC hT hN;clear hC hT hN;clear hbw hv1 hv2 hx hx' IHx hLL hLL' hxv hxv' htk;go_wp2_with (fail)
    go_region_held3 (fun W=>W.cell? ⟨w.heap.size,4,none⟩=some (.slice (some ⟨g,off,none⟩) l.length lc)/\W.cell? ⟨w.heap.size+1,4,none⟩=some (.slice (some ⟨g',off',none⟩) l.length lc')/\W.cell? ⟨g,off+q*6,none⟩=some (.int .i64 k1)/\W.cell? ⟨g,off+q*6+1,none⟩=some (.bool b1)/\W.cell? ⟨g,off+q*6+2,none⟩=some (.int .i64 n1)/\W.cell? ⟨g,off+q*6+3,none⟩=some (.string t1)/\W.cell? ⟨g,off+q*6+4,none⟩=some (.slice la1 l1.length lc1)/\W.cell? ⟨g,off+q*6+5,none⟩=some (.slice oa1 o1.length oc1)/\W.cell? ⟨g',off'+q*6,none⟩=some (.int .i64 k2)/\W.cell? ⟨g',off'+q*6+1,none⟩=some (.bool b2)/\W.cell? ⟨g',off'+q*6+2,none⟩=some (.int .i64 n2)/\W.cell? ⟨g',off'+q*6+3,none⟩=some (.string t2)/\W.cell? ⟨g',off'+q*6+4,none⟩=some (.slice la2 l2.length lc2)/\W.cell? ⟨g',off'+q*6+5,none⟩=some (.slice oa2 o2.length oc2)) (go_keep) (first|(go_at_call 12;refine(HC.out _ ?_).mono ?_;(exact(Below.drew (Below.refl _ _)));rintro e w4 ⟨B,rfl,hB,hb4⟩;have hbr:Below wr.heap.size wr w4:=((Below.drew (Below.refl _ _)).trans hb4);obtain⟨hc4,hf4⟩:=Acl hbr))
    all_goals
     have HE4:Hid (EA w #[.int .i64 k,.bool b,.int .i64 n,.string t,.slice (some ⟨g,off,none⟩) l.length lc,.slice oa o.length oc] #[.int .i64 k,.bool b,.int .i64 n,.string t,.slice (some ⟨g',off',none⟩) l.length lc',.slice oa' o.length oc'] w4):=hea.out.step hbr;clear hb4 hbr hc4 hf4 hea
     cases B with
     |true=>
      have HT':=Lib.hid (HT.out ((hB.1 rfl)));clear hB HT HN;go_wp2;go_roundw
      case rel=>exact⟨q+1,by go_num,by omega,HT',HE4⟩
      case measure=>simp only[intOf];omega
     |false=>
      have hno: ¬(l=l'/\o=o'):=fun h=>HN.out ((fun e=>by have:=hB.2 e;cases this)) h.1;have Hno:=Lib.hid hno;clear hB HT HN hno;go_wp2;go_ret;exact Ba.no Hno.out HE4.out.1
  . obtain rfl:q=l.length:=by omega
    have hE:=htk.out;rw[List.take_length,Hln.out,List.take_length]at hE;have HE:=Lib.hid hE;clear hE;clear htk;have HE0:=HE;clear HE m1 m2;obtain⟨wo,hwo⟩: ∃wo:World,wo=wr:=⟨_,rfl⟩;subst hwo;have hb5:=hea.out.2.1.cell 5;have h01:o.take 0=o'.take 0:=by simp
    have H01:=Lib.hid h01;clear h01;have m4:=hea.out.2.1.cell 4;go_wp2_with (fail);clear m4;go_loopw [6] (fun i wr=> ∃q:Nat,i=.int .i64 q/\q<=o.length/\Hid (o.take q=o'.take q)/\Hid (EA w #[.int .i64 k,.bool b,.int .i64 n,.string t,.slice la l.length lc,.slice oa o.length oc] #[.int .i64 k,.bool b,.int .i64 n,.string t,.slice la' l.length lc',.slice oa' o.length oc'] wr)) (fun i _=>o.length - (intOf i).toNat)
    case atStart=>exact⟨0,rfl,Nat.zero_le _,H01,hea⟩
    case round=>
     obtain⟨q,rfl,hq,htk,hea⟩:=hrel;clear H01;have m1:=hea.out.2.1.cell 5;have m2:=hea.out.2.2.cell 5;by_cases hlt:q<o.length
     . have hlt':q<o'.length:=by have:=Hon.out;omega
       obtain⟨g,off,rfl,hg,hLL⟩: ∃g off,oa=some ⟨g,off,none⟩/\g<w.heap.size/\A5 w w.heap.size o g off:=Ho.out.resolve_left (by intro e;rw[e]at hlt;simp at hlt);obtain⟨g',off',rfl,hg',hLL'⟩: ∃g off,oa'=some ⟨g,off,none⟩/\g<w.heap.size/\A5 w w.heap.size o' g off:=Ho'.out.resolve_left (by intro e;rw[e]at hlt';simp at hlt');obtain⟨⟨key,x⟩,hx⟩: ∃v,o[q]? =some v:=⟨_,List.getElem?_eq_getElem hlt⟩;obtain⟨⟨key',x'⟩,hx'⟩: ∃v,o'[q]? =some v:=⟨_,List.getElem?_eq_getElem hlt'⟩;have IHx:=HIHo.out _ (List.mem_of_getElem? hx);have hbv:=Ef (List.mem_of_getElem? hx);have hbv':=Ef (List.mem_of_getElem? hx');simp only at IHx hbv hbv';have hbw:=hea.out.1;have hz:=hbw.size;have hT:=fun e=>Qx htk.out hx hx' e;have hN:=fun e=>Vz hx hx' e;obtain⟨xv,hxv⟩: ∃xv,x=xv:=⟨_,rfl⟩;obtain⟨xv',hxv'⟩: ∃xv,x'=xv:=⟨_,rfl⟩;obtain⟨k1,b1,n1,t1,l1,o1⟩:=x;obtain⟨k2,b2,n2,t2,l2,o2⟩:=x';obtain⟨la1,lc1,oa1,oc1,hv1,c0,c1,c2,c3,c4,c5,c6⟩:=(hLL.below hg hbw).seven hx;obtain⟨la2,lc2,oa2,oc2,hv2,d0,d1,d2,d3,d4,d5,d6⟩:=(hLL'.below hg' hbw).seven hx';have hC: ∀W,Below wr.heap.size wr W->Calls Tryz.prog 12 #[.agg #[.int .i64 k1,.bool b1,.int .i64 n1,.string t1,.slice la1 l1.length lc1,.slice oa1 o1.length oc1],.agg #[.int .i64 k2,.bool b2,.int .i64 n2,.string t2,.slice la2 l2.length lc2,.slice oa2 o2.length oc2]] W (Ba (xv=xv') W):=fun W hW=>by
        rw[<-hxv,<-hxv'];exact IHx _ _ _ W (Ab.more (Nat.le_trans hz hW.size) _ _ (hv1.below (hW.mono hz))) (Ab.more (Nat.le_trans hz hW.size) _ _ (hv2.below (hW.mono hz))) (by omega) (by omega)
       rw[hxv,hxv']at hT hN;have z1:g<wr.heap.size:=by omega
       have z2:g'<wr.heap.size:=by omega
       have z3:w.heap.size<wr.heap.size:=hea.out.2.1.lt;have z4:w.heap.size+1<wr.heap.size:=hea.out.2.2.lt;have z5:(q:Int)<(o.length:Int):=by omega
       obtain⟨HC,HT,HN⟩:=hid3 hC hT hN;clear hC hT hN;clear hbw hv1 hv2 hx hx' IHx hLL hLL' hxv hxv' htk;by_cases hk:key.toList=key'.toList
       . have hkk:=Fq hk;subst hkk;have e1:(key.toList != key.toList)=false:=by simp
         clear hk;go_wp2_with (fail)
         go_region_held3 (fun W=>W.cell? ⟨w.heap.size,5,none⟩=some (.slice (some ⟨g,off,none⟩) o.length oc)/\W.cell? ⟨w.heap.size+1,5,none⟩=some (.slice (some ⟨g',off',none⟩) o.length oc')/\W.cell? ⟨g,off+q*7,none⟩=some (.string key)/\W.cell? ⟨g,off+q*7+1,none⟩=some (.int .i64 k1)/\W.cell? ⟨g,off+q*7+2,none⟩=some (.bool b1)/\W.cell? ⟨g,off+q*7+3,none⟩=some (.int .i64 n1)/\W.cell? ⟨g,off+q*7+4,none⟩=some (.string t1)/\W.cell? ⟨g,off+q*7+5,none⟩=some (.slice la1 l1.length lc1)/\W.cell? ⟨g,off+q*7+6,none⟩=some (.slice oa1 o1.length oc1)/\W.cell? ⟨g',off'+q*7,none⟩=some (.string key)/\W.cell? ⟨g',off'+q*7+1,none⟩=some (.int .i64 k2)/\W.cell? ⟨g',off'+q*7+2,none⟩=some (.bool b2)/\W.cell? ⟨g',off'+q*7+3,none⟩=some (.int .i64 n2)/\W.cell? ⟨g',off'+q*7+4,none⟩=some (.string t2)/\W.cell? ⟨g',off'+q*7+5,none⟩=some (.slice la2 l2.length lc2)/\W.cell? ⟨g',off'+q*7+6,none⟩=some (.slice oa2 o2.length oc2)) (go_keep) (first|(go_at_call 12;refine(HC.out _ ?_).mono ?_;(exact(Below.drew (Below.refl _ _)));rintro e w4 ⟨B,rfl,hB,hb4⟩;have hbr:Below wr.heap.size wr w4:=((Below.drew (Below.refl _ _)).trans hb4);obtain⟨hc4,hf4⟩:=Acl hbr))
         all_goals
          have HE4:Hid (EA w #[.int .i64 k,.bool b,.int .i64 n,.string t,.slice la l.length lc,.slice (some ⟨g,off,none⟩) o.length oc] #[.int .i64 k,.bool b,.int .i64 n,.string t,.slice la' l.length lc',.slice (some ⟨g',off',none⟩) o.length oc'] w4):=hea.out.step hbr;clear hb4 hbr hc4 hf4 hea
          cases B with
          |true=>
           have HT':=Lib.hid (HT.out (by rw[hB.1 rfl]));clear hB HT HN;go_wp2;go_roundw
           case rel=>exact⟨q+1,by go_num,by omega,HT',HE4⟩
           case measure=>simp only[intOf];omega
          |false=>
           have hno: ¬(l=l'/\o=o'):=fun h=>HN.out (fun e=>by have:=hB.2 (congrArg Prod.snd e);cases this) h.2;have Hno:=Lib.hid hno;clear hB HT HN hno;go_wp2;go_ret;exact Ba.no Hno.out HE4.out.1
       . have e1:(key.toList != key'.toList)=true:=by simpa using hk
         have e2:(key.toList==key'.toList)=false:=by simpa using hk
         have hno: ¬(l=l'/\o=o'):=fun h=>HN.out (fun e=>hk (by have e5:=congrArg Prod.fst e;simp only at e5;rw[e5])) h.2;obtain⟨Hno,Hk⟩:=hid2 hno hk;clear hno hk;clear HC HT HN;go_wp2_with (fail);go_quiet (fail);go_wp2;go_ret;exact Ba.no Hno.out (by first|exact Se hea.out.1 _|exact Se (Se hea.out.1 _) _)
     . obtain rfl:q=o.length:=by omega
       have hE:=htk.out;rw[List.take_length,Hon.out,List.take_length]at hE;have HE:=Lib.hid hE;clear hE;clear htk;go_wp2;go_ret;exact Ba.yes ⟨HE0.out,HE.out⟩ hea.out.1
theorem Nd: ∀a,EqC a:=by
 refine Val.ind ?_;intro k b n t l o hl ho b' cs cs' w hV hV' hb hb';obtain⟨k',b',n',t',l',o'⟩:=b';simp only[Ab]at hV hV';obtain⟨la,lc,oa,oc,rfl,hla,hoa⟩:=hV;obtain⟨la',lc',oa',oc',rfl,hla',hoa'⟩:=hV';simp only[Val.bulk]at hb hb';by_cases hd:k≠k'\/b≠b'\/n≠n'\/t≠t'\/l.length≠l'.length\/o.length≠o'.length
 . exact Anu k k' b b' n n' t t' la oa la' oa' l.length lc o.length oc l'.length lc' o'.length oc' w _ (by rintro⟨⟩;simp at hd) hd
 . simp only[not_or,Decidable.not_not]at hd;obtain⟨rfl,rfl,rfl,rfl,e1,e2⟩:=hd;have:=Anv k b n t l l' o o' la oa la' oa' lc oc lc' oc' w hl ho e1 e2 hla hla' hoa hoa' (by omega) (by omega) (by omega) (by omega);rw[e1,e2]at this;refine(show Fu k b n t la l.length lc oa o.length oc=_ by rw[e1,e2])▸this.mono ?_;rintro e w' ⟨B,rfl,hB,hb⟩;exact⟨B,rfl,by rw[hB];simp,hb⟩
end Go.Proofs.YtmglfdckpjegdaaGreatDoor
