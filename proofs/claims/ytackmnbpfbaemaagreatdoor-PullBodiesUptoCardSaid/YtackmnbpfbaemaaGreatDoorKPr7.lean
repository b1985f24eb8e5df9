/- Parts: A reader of values, byte by byte: what stands at a place of a text, and where that ends, or what is wrong, and where. Plain. No condition. -/
import Derived.Test.YtackmnbpfbaemaaGreatDoorKPr4
import Derived.Test.YtackmnbpfbaemaaGreatDoorKPr5
set_option maxHeartbeats 20000000
namespace Go.Proofs.YtackmnbpfbaemaaGreatDoor
open Go Go.RowKit
theorem Ln {w:World} {g:Nat} {t:TypeId} {cs:Array Value} (h:An w g t cs):Bt w (g+1) cs.size (some ⟨g,0,none⟩) 1 cs.toList:=by
 refine⟨by simp,fun _=>⟨_,rfl,by simp,fun j u hu=> ?_⟩⟩;rw[En,Nat.zero_add];exact(h.cell j).trans (by rw[<-Array.getElem?_toList];exact hu)
theorem C7.lit {b:Nat} {t:TypeId} {w:World} {d:D} {cs:Array Value} (hb:b<=w.heap.size) (hd:d.cells=cs.size) (h: ∀w'' B,Ae w'' B d cs.toList):
 C7 b t cs.size (w.alloc (.cells cs t)) [d] (.slice (some ⟨w.heap.size,0,none⟩) 1 1):=
 ⟨cs.toList,World.ownsRow_lit w cs 1 hb (by simp[maxLen]) (by simp),fun x hx=>by simp at hx;rw[hx];exact hd,fun w'' _ _=>Ag.one (h w'' _)⟩
theorem C7.slice {b:Nat} {t:TypeId} {s:Nat} {wr:World} {l:List D} {V:Value} (h:C7 b t s wr l V): ∃a c,V=.slice a l.length c:=by
 obtain⟨ns,h1,_⟩:=h;rcases h1.2 with⟨rfl,h0⟩|⟨g,cap,cur,rfl,_⟩
 . exact⟨_,_,by rw[h0]⟩
 . exact⟨_,_,rfl⟩
theorem C7.now {b:Nat} {t:TypeId} {s:Nat} {wr:World} {l:List D} {a:Option Addr} {n c:Nat} (h:C7 b t s wr l (.slice a n c)):Ae wr wr.heap.size (.row s l) [.slice a n c]:=by
 obtain⟨a',c',e,_,hf,_⟩:=h.close
 cases e
 exact hf.now
section
variable {P:Program}
theorem Y9 {t ty e:TypeId} {i:TypeInfo} {z:Value} {sz bytes:Nat} (ht:P.underlying t=some (.slice e)) (hi:P.info? e=some i) (hz:i.zero=some z) (hsize:i.size=sz) (hby:i.bytes=bytes) (hzs:z.cells.size=sz) (hsz:0<sz)
 {b:Nat} {wr w:World} {l:List D} {V:Value} (hrow:C7 b e sz wr l V) (hbw:b<=wr.heap.size) (hbe:Below wr.heap.size wr w) {d:D} {cs:List Value} (hd:d.cells=sz) (hx:Ap wr.heap.size w d cs)
 {B:Nat} {A:Option Addr} {c:Nat} (hr:Bt w B sz A 1 cs) (h63:l.length+1<=maxLen) (hbytes:(l.length+1)*bytes<=140737488355328):
 ∃V' w6,(Builtin.append_ #[t,t] ty #[V,.slice A 1 c]).run P w=.ok V' w6/\C7 b e sz w6 (l++ [d]) V'/\w.grownBy w6 V.ownBlock/\(V'.ownBlock=V.ownBlock\/V'.ownBlock=some w.heap.size):=by
 obtain⟨ns,h1,h2,h3⟩:=hrow.below hbe;have h1r:=hrow;obtain⟨ns0,k1,k2,k3⟩:=h1r;have hown:w.ownsRow b e sz V l.length ns0:=by
  refine k1.kept (row:=none) ⟨hbe.os,hbe.tape,hbe.output,hbe.size,fun j hj _=>hbe.block j hj⟩ ?_
  cases hv:V.ownBlock<;>simp
 obtain⟨V',w6,hrun,g1,g2,g3⟩:=G7 (P:=P) w b t ty e i z sz bytes ht hi hz hsize hby hzs hsz V l.length ns0 hown B A 1 c cs hr hx.now.len.2 h63 hbytes (Nat.le_trans hbw hbe.size);refine⟨V',w6,hrun, ?_,g2,g3⟩;refine C7.step hbw k3 k2 hd hx (fun g hg=>(k1.lt g hg).2) g1 ?_ hbe.size g2.size (fun p _ p2=>hbe.cell p2) (fun p _ p2 p3=>World.cell?_of_block (g2.block p.block p2 (fun e=>p3 e.symm)));rcases g3 with g3|g3
 . exact .inl g3
 . exact .inr ⟨_,g3,Nat.le_refl _⟩
theorem Sl {o:Oper} {a:Act} {K:Act->World->Prop} {Q:Exit->Act->World->Prop} (s x:Operand) (t:TypeId) {e:TypeId}
 (ho:o.op=.call {callee:=.builtin .append,args:= #[s,x],argTypes:= #[t,t]}) {i:TypeInfo} {z:Value} {sz bytes:Nat} (ht:P.underlying t=some (.slice e)) (hi:P.info? e=some i) (hz:i.zero=some z) (hsize:i.size=sz) (hby:i.bytes=bytes) (hzs:z.cells.size=sz) (hsz:0<sz)
 {b:Nat} {wr w:World} {l:List D} {V:Value} (hs:a.eval s=V) (hrow:C7 b e sz wr l V) (hbw:b<=wr.heap.size) (hbe:Below wr.heap.size wr w) {d:D} {cs:List Value} (hd:d.cells=sz) (hf:Ap wr.heap.size w d cs)
 {B:Nat} {A:Option Addr} {c:Nat} (hx:a.eval x=.slice A 1 c) (hr:Bt w B sz A 1 cs) (h63:l.length+1<=maxLen) (hbytes:(l.length+1)*bytes<=140737488355328)
 (h: ∀V' w6,C7 b e sz w6 (l++ [d]) V'->w.grownBy w6 V.ownBlock->(V'.ownBlock=V.ownBlock\/V'.ownBlock=some w.heap.size)->K (a.put o.dst V') w6):o.wp P a w K Q:=by
 obtain⟨V',w6,hrun,g1,g2,g3⟩:=Y9 (ty:=o.type) (c:=c) ht hi hz hsize hby hzs hsz hrow hbw hbe hd hf hr h63 hbytes;unfold Oper.wp execOp;simp only[ho,resolve,invoke,builtin,Sem.run_bind,Sem.run_pure,Result.andThen_ok,List.map_toArray,List.map_cons,List.map_nil,hs,hx,hrun];exact h V' w6 g1 g2 g3
theorem Do {ops:Array Oper} {rest:List Oper} {o:Oper} {a:Act} {Q:Exit->Act->World->Prop} (hgd:o.guard=none) (s x:Operand) (t:TypeId) {e:TypeId}
 (ho:o.op=.call {callee:=.builtin .append,args:= #[s,x],argTypes:= #[t,t]}) {i:TypeInfo} {z:Value} {sz bytes:Nat} (ht:P.underlying t=some (.slice e)) (hi:P.info? e=some i) (hz:i.zero=some z) (hsize:i.size=sz) (hby:i.bytes=bytes) (hzs:z.cells.size=sz) (hsz:0<sz)
 {b:Nat} {wr w:World} {l:List D} {V:Value} (hs:a.eval s=V) (hrow:C7 b e sz wr l V) (hbw:b<=wr.heap.size) (hbe:Below wr.heap.size wr w) {d:D} {cs:List Value} (hd:d.cells=sz) (hf:Ap wr.heap.size w d cs)
 {B:Nat} {A:Option Addr} {c:Nat} (hx:a.eval x=.slice A 1 c) (hr:Bt w B sz A 1 cs) (h63:l.length+1<=maxLen) (hbytes:(l.length+1)*bytes<=140737488355328)
 (h: ∀V' w6,C7 b e sz w6 (l++ [d]) V'->w.grownBy w6 V.ownBlock->(V'.ownBlock=V.ownBlock\/V'.ownBlock=some w.heap.size)->wpList P ops Q rest (a.put o.dst V') w6):wpList P ops Q (o::rest) a w:=
 wpList_plain hgd fun _ hK=>Sl s x t ho ht hi hz hsize hby hzs hsz hs hrow hbw hbe hd hf hx hr h63 hbytes fun V' w6 h2 h3 h4=>hK _ _ (h V' w6 h2 h3 h4)
theorem Ea {ops:Array Oper} {o:Oper} {a:Act} {K:Act->World->Prop} {Q:Exit->Act->World->Prop} {E:Prop} (hgd:o.guard=none) (s x:Operand) (t:TypeId) {e:TypeId}
 (ho:o.op=.call {callee:=.builtin .append,args:= #[s,x],argTypes:= #[t,t]}) {i:TypeInfo} {z:Value} {sz bytes:Nat} (ht:P.underlying t=some (.slice e)) (hi:P.info? e=some i) (hz:i.zero=some z) (hsize:i.size=sz) (hby:i.bytes=bytes) (hzs:z.cells.size=sz) (hsz:0<sz)
 {b:Nat} {wr w:World} {l:List D} {V:Value} (hs:a.eval s=V) (hrow:C7 b e sz wr l V) (hbw:b<=wr.heap.size) (hbe:Below wr.heap.size wr w) {d:D} {cs:List Value} (hd:d.cells=sz) (hf:Ap wr.heap.size w d cs)
 {B:Nat} {A:Option Addr} {c:Nat} (hx:a.eval x=.slice A 1 c) (hr:Bt w B sz A 1 cs) (h63:l.length+1<=maxLen) (hbytes:(l.length+1)*bytes<=140737488355328)
 (h: ∀V' w6,C7 b e sz w6 (l++ [d]) V'->w.grownBy w6 V.ownBlock->(V'.ownBlock=V.ownBlock\/V'.ownBlock=some w.heap.size)->K (a.put o.dst V') w6):
 if Region.wanted o (yielded ops a.tmps)=true then Oper.wp P o a w K Q else E:=by
 have hw:Region.wanted o (yielded ops a.tmps)=true:=by simp[Region.wanted,hgd]
 rw[if_pos hw];exact Sl s x t ho ht hi hz hsize hby hzs hsz hs hrow hbw hbe hd hf hx hr h63 hbytes h
end
abbrev Aj:Array Value:= #[.int .i64 0,.bool false,.int .i64 0,.string ⟨#[]⟩,.slice none 0 0,.slice none 0 0]
theorem Ct {B:Nat} {w4:World} {k:Int} {b:Bool} {n:Int} {t:ByteArray} {l:List Val} {o:List (ByteArray×Val)} {cs:List Value} (h:Ap B w4 (dV (.mk k b n t l o)) cs): ∃la lc oa oc,cs= [.int .i64 k,.bool b,.int .i64 n,.string t,.slice la l.length lc,.slice oa o.length oc]:=by
 have h1:=Bv _ _ h.now;simp only[Ac]at h1;obtain⟨la,lc,oa,oc,e,_,_⟩:=h1;exact⟨la,lc,oa,oc,e⟩
theorem Ao {w:World} {g:Nat} {t:TypeId} {a0 a1 a2 a3 a4 a5:Value} (h:An w g t #[a0,a1,a2,a3,a4,a5]):
 w.cell? ⟨g,0,none⟩=some a0/\w.cell? ⟨g,1,none⟩=some a1/\w.cell? ⟨g,2,none⟩=some a2/\w.cell? ⟨g,3,none⟩=some a3/\w.cell? ⟨g,4,none⟩=some a4/\w.cell? ⟨g,5,none⟩=some a5:=
 ⟨h.cell 0,h.cell 1,h.cell 2,h.cell 3,h.cell 4,h.cell 5⟩
theorem Le {B:Nat} {w:World} {key:ByteArray} {v:Val} {cs:List Value} (h:Ap B w (dV v) cs):Ap B w (dP (key,v)) (.string key::cs):=fun w'' h1 h2=>⟨[.string key],cs,rfl,⟨rfl,rfl⟩,cs, [],by simp,h w'' h1 h2,rfl⟩
theorem P6:(Tryz.prog.info? 63).map (fun i=>(i.zero,i.size,i.bytes))=some (some (.agg #[.string ⟨#[]⟩,.int .i64 0,.bool false,.int .i64 0,.string ⟨#[]⟩,.slice none 0 0,.slice none 0 0]),7,104):=by kernel_rfl
theorem B4 {fn:Func} {t:Tmp} {tmps:Array Value} {W:World} {R:Nat} {a0 a1 a2 a3 a4 a5:Value} (h:fn.results= #[.cell t 39]) (hp:tmps.getD t undef=.pointer (some ⟨R,0,none⟩)) (hx:An W R 39 #[a0,a1,a2,a3,a4,a5]):
 (results fn tmps).run Tryz.prog W=.ok (.agg #[a0,a1,a2,a3,a4,a5]) W:=by
 obtain⟨c0,c1,c2,c3,c4,c5⟩:=Ao hx;clear hx;have hp':tmps[t]?.getD undef=.pointer (some ⟨R,0,none⟩):=by simpa using hp
 simp[results,h,hp',go_sem,c0,c1,c2,c3,c4,c5]
theorem C7.slice_n {b:Nat} {t:TypeId} {s n:Nat} {wr:World} {l:List D} {V:Value} (h:C7 b t s wr l V) (hn:l.length=n): ∃a c,V=.slice a n c:=by
 subst hn;exact h.slice
theorem Dc {w w6:World} {R b:Nat} {t e:TypeId} {sz:Nat} {l:List D} {V:Value} {cs:Array Value} {wr:World} (h:An w R t cs) (hg:w.grownBy w6 V.ownBlock) (hr:C7 b e sz wr l V) (hR:R<b):An w6 R t cs:=
 h.grown hg fun e=>by have:=(hr.base R e.symm).1;omega
theorem Jy {w w6:World} {B b:Nat} {e:TypeId} {sz:Nat} {l:List D} {V:Value} {w0 wr:World} (h:Below B w0 w) (hg:w.grownBy w6 V.ownBlock) (hr:C7 b e sz wr l V) (hB:B<=b) (hBw:B<=w.heap.size):Below B w0 w6:=
 h.grown hg hBw fun k hk=>Nat.le_trans hB (hr.base k hk).1
theorem Fi (w:World) (a0 a1 a2 a3 a4 a5 a6:Value):Bt (w.alloc (.cells #[a0,a1,a2,a3,a4,a5,a6] 63)) (w.heap.size+1) 7 (some ⟨w.heap.size,0,none⟩) 1 [a0,a1,a2,a3,a4,a5,a6]:=Ln (An.new w 63 #[a0,a1,a2,a3,a4,a5,a6])
theorem Uy:(Tryz.prog.info? 39).map (fun i=>(i.zero,i.size,i.bytes))=some (some (.agg #[.int .i64 0,.bool false,.int .i64 0,.string ⟨#[]⟩,.slice none 0 0,.slice none 0 0]),6,88):=by kernel_rfl
theorem Lo (w:World) (a0 a1 a2 a3 a4 a5:Value):Bt (w.alloc (.cells #[a0,a1,a2,a3,a4,a5] 39)) (w.heap.size+1) 6 (some ⟨w.heap.size,0,none⟩) 1 [a0,a1,a2,a3,a4,a5]:=Ln (An.new w 39 #[a0,a1,a2,a3,a4,a5])
theorem A9 {fn:Func} {t u:Tmp} {tmps:Array Value} {W:World} {R:Nat} {a0 a1 a2 a3 a4 a5:Value} (h:fn.results= #[.cell t 39,.tmp u]) (hp:tmps.getD t undef=.pointer (some ⟨R,0,none⟩)) (hx:An W R 39 #[a0,a1,a2,a3,a4,a5]):
 (results fn tmps).run Tryz.prog W=.ok (.tuple #[.agg #[a0,a1,a2,a3,a4,a5],tmps.getD u undef]) W:=by
 obtain⟨c0,c1,c2,c3,c4,c5⟩:=Ao hx;clear hx;have hp':tmps[t]?.getD undef=.pointer (some ⟨R,0,none⟩):=by simpa using hp
 simp[results,h,hp',go_sem,c0,c1,c2,c3,c4,c5]
theorem Af {fn:Func} {t u u':Tmp} {tmps:Array Value} {W:World} {R:Nat} {a0 a1 a2 a3 a4 a5:Value} (h:fn.results= #[.cell t 39,.tmp u,.tmp u']) (hp:tmps.getD t undef=.pointer (some ⟨R,0,none⟩)) (hx:An W R 39 #[a0,a1,a2,a3,a4,a5]):
 (results fn tmps).run Tryz.prog W=.ok (.tuple #[.agg #[a0,a1,a2,a3,a4,a5],tmps.getD u undef,tmps.getD u' undef]) W:=by
 obtain⟨c0,c1,c2,c3,c4,c5⟩:=Ao hx;clear hx;have hp':tmps[t]?.getD undef=.pointer (some ⟨R,0,none⟩):=by simpa using hp
 simp[results,h,hp',go_sem,c0,c1,c2,c3,c4,c5]
theorem M4 {l:List UInt8} (h:l≠ []) (f p:Nat):
 ((Gc l).2=0/\A5 (f+1) l p= [])\/(∃n r:Nat,Gc l=((r:Int),(n:Int))/\1<=n/\n<=l.length/\A5 (f+1) l p=(p,r)::A5 f (l.drop n) (p+n)):=by
 have hg:=Lv l h;unfold Jh at hg;by_cases hb:(Lib.decodeL l).1=65533/\(Lib.decodeL l).2=1
 . rw[if_pos hb]at hg;rw[hg];refine .inl ⟨rfl, ?_⟩;simp only[A5];rw[if_neg h,if_pos hb]
 . rw[if_neg hb]at hg;have hw:=Lib.decodeL_width l;refine .inr ⟨(Lib.decodeL l).2,(Lib.decodeL l).1,hg,hw,Lib.decodeL_le l h, ?_⟩;simp only[A5];rw[if_neg h,if_neg hb]
def Ma (v1 v2:Value):Prop:= ∀g,v1.ownBlock=some g->v2.ownBlock≠some g
theorem Ma.ne {v1 v2:Value} (h:Ma v1 v2):v1.ownBlock=none\/v1.ownBlock≠v2.ownBlock:=by
 cases e:v1.ownBlock with
 |none=>exact .inl rfl
 |some g=>exact .inr fun e'=>h g e (by rw[<-e'])
theorem Ma.symm {v1 v2:Value} (h:Ma v1 v2):Ma v2 v1:=fun g e e'=>h g e' e
theorem Ma.step {v1 v1' v2:Value} {w:World} {B n N:Nat} {e:TypeId} {size:Nat} {xs:List Value} (h:Ma v1 v2) (h2:w.ownsRow B e size v2 n xs) (h4:v1'.ownBlock=v1.ownBlock\/v1'.ownBlock=some N) (hN:w.heap.size<=N):Ma v1' v2:=by
 intro g e1 e2;rcases h4 with h4|h4
 . exact h g (by rw[<-h4];exact e1) e2
 . rw[h4]at e1;obtain rfl:=Option.some.inj e1;have:=(h2.lt _ e2).2;omega
theorem Ajn:(Tryz.prog.info? 3).map (fun i=>(i.zero,i.size,i.bytes))=some (some (.int .i64 0),1,8):=by kernel_rfl
set_option maxRecDepth 20000 in
theorem Xr (s:ByteArray) (w:World) (hs:s.size<=1000000000):
 Calls Tryz.prog 86 #[.string s] w fun e w'=>(∃v1 v2,e=.returned (.tuple #[v1,v2])/\w'.ownsRow w.heap.size 3 1 v1 (Cs s).length ((Cs s).map fun x=>Value.int .i64 x.2))/\Below w.heap.size w w':=by
 obtain⟨i0,hi,hz0,hz1,hz2⟩:=info_parts Ajn;obtain⟨HI,HZ0,HZ1,HZ2⟩:=hid4 hi hz0 hz1 hz2;clear hi hz0 hz1 hz2;have Hown0:Hid (w.ownsRow w.heap.size 3 1 (.slice none 0 0) 0 []):=World.ownsRow_nil _ _ _ _;have Hap0:Hid (Ma (.slice none 0 0) (.slice none 0 0)):=Lib.hid (fun g e=>by simp[Value.ownBlock]at e);go_enter Tryz.func86,Tryz.ntmps86;go_wp2;go_loopw [4,5,6] (fun v1 v2 i wr=> ∃(pre:List (Nat×Nat)) (f k:Nat),i=.int .i64 k/\k<=s.size/\s.size - k<=f/\Hid (Cs s=pre++A5 f (s.data.toList.drop k) k)/\pre.length<=k/\
  Hid (wr.ownsRow w.heap.size 3 1 v1 pre.length (pre.map fun x=>Value.int .i64 x.2))/\Hid (wr.ownsRow w.heap.size 3 1 v2 pre.length (pre.map fun x=>Value.int .i64 x.1))/\Hid (Ma v1 v2)/\Hid (Below w.heap.size w wr)) (fun _ _ i _=>s.size - (intOf i).toNat)
 case atStart=>exact⟨[],s.size,0,rfl,Nat.zero_le _,by omega,rfl,Nat.le_refl _,Hown0,Hown0,Hap0,Below.refl _ _⟩
 case round=>
  obtain⟨pre,f,k,rfl,hk,hf,hr,hpk,ho1,ho2,hap,hbw⟩:=hrel;clear Hown0 Hap0;by_cases hlt:k<s.size
  . have hne:s.data.toList.drop k≠ []:=by
     intro e;have:=congrArg List.length e;rw[List.length_drop,<-Lib.size_eq]at this;simp at this;omega
    obtain⟨f,rfl⟩: ∃f',f=f'+1:=⟨f - 1,by omega⟩;have hA:=Ti s k wr (by omega) (by omega);rcases M4 hne f k with⟨h0,hv⟩|⟨n,r,hn,hn1,hn2,hv⟩
    . have hr':=hr.out;rw[hv,List.append_nil]at hr';rw[h0]at hA;generalize (Gc (s.data.toList.drop k)).1=R at hA;obtain⟨HA,HR⟩:=hid2 hA hr';clear hA h0 hv hne hr hr';go_wp2_with (fail);(with_reducible refine HA.out.mono ?_);rintro e w' ⟨rfl,rfl⟩;clear HA;go_wp2;go_ret2;exact⟨⟨u4,u5,rfl,by rw[HR.out];exact ho1.out⟩,hbw.out⟩
    . have hr':=hr.out;rw[hv,List.drop_drop]at hr';rw[hn]at hA;rw[List.length_drop,<-Lib.size_eq]at hn2;obtain⟨HA,HR⟩:=hid2 hA hr';have hb1:w.heap.size<=wr.heap.size:=hbw.out.size;clear hA hn hv hne hr hr';have e0:((n:Int)==0)=false:=by simp;omega
      go_wp2_with (fail);(with_reducible refine HA.out.mono ?_);rintro e w' ⟨rfl,rfl⟩;clear HA;go_wp2_with (at_builtin;refine wpList_append_own_at _ rfl (.tmp 21) (.tmp 23) 150 rfl w.heap.size 3 i0 (.int .i64 0) 1 8 Tryz.underlying150 HI.out HZ0.out HZ1.out HZ2.out rfl (by decide) u4 pre.length _ rfl (ho1.out.alloc _) ⟨wr.heap.size,0,none⟩ 1 1 [.int .i64 r] rfl rfl ?c1 ?c2 ?c3 ?c4 ?c5 ?_)
      case c1=>
       intro j u hj
       match j,hj with
       |0,hj=>simp at hj;subst hj;simp[Addr.add]
      case c2=>intro u hu;simp at hu;subst hu;rfl
      case c3=>unfold maxLen;omega
      case c4=>omega
      case c5=>simp;omega
      intro v1' w2 hown1 hgrow1 _ hat1;have ho1':=Lib.hid hown1;have ho2':=Lib.hid ((ho2.out.alloc (.cells #[.int .i64 r] 3)).kept hgrow1 hap.out.symm.ne);have hap':=Lib.hid (Ma.step hap.out ho2.out hat1 (by omega));have hbw2:=Lib.hid ((hbw.out.alloc hb1 (.cells #[.int .i64 r] 3)).grown hgrow1 (by simp;omega) (fun k hk=>(ho1.out.lt k hk).1));have hb2:w.heap.size<=w2.heap.size:=hbw2.out.size;clear hown1 hgrow1 hat1 ho1 ho2 hap hbw hb1;go_wp2_with (at_builtin;refine wpList_append_own_at _ rfl (.tmp 25) (.tmp 27) 150 rfl w.heap.size 3 i0 (.int .i64 0) 1 8 Tryz.underlying150 HI.out HZ0.out HZ1.out HZ2.out rfl (by decide) u5 pre.length _ rfl (ho2'.out.alloc _) ⟨w2.heap.size,0,none⟩ 1 1 [.int .i64 k] rfl rfl ?d1 ?d2 ?d3 ?d4 ?d5 ?_)
      case d1=>
       intro j u hj
       match j,hj with
       |0,hj=>simp at hj;subst hj;simp[Addr.add]
      case d2=>intro u hu;simp at hu;subst hu;rfl
      case d3=>unfold maxLen;omega
      case d4=>omega
      case d5=>simp;omega
      intro v2' w3 hown2 hgrow2 _ hat2;have ho2'':=Lib.hid hown2;have ho1'':=Lib.hid ((ho1'.out.alloc (.cells #[.int .i64 k] 3)).kept hgrow2 hap'.out.ne);have hap'':=Lib.hid (Ma.step hap'.out.symm ho1'.out hat2 (by omega)).symm;have hbw3:=Lib.hid ((hbw2.out.alloc hb2 (.cells #[.int .i64 k] 3)).grown hgrow2 (by simp;omega) (fun k hk=>(ho2'.out.lt k hk).1));clear hown2 hgrow2 hat2 ho1' ho2' hap' hbw2 hb2;go_wp2;go_roundw
      case rel=>exact⟨pre++ [(k,r)],f,k+n,by go_num,by omega,by omega,Lib.hid (by rw[List.append_assoc];exact HR.out),by simp;omega,Lib.hid (by rw[List.length_append,List.map_append];exact ho1''.out),Lib.hid (by rw[List.length_append,List.map_append];exact ho2''.out),hap'',hbw3⟩
      case measure=>simp only[intOf];omega
  . obtain rfl:k=s.size:=by omega
    have hr':=hr.out;have e:A5 f (s.data.toList.drop s.size) s.size= []:=by
     rw[List.drop_eq_nil_of_le (by rw[<-Lib.size_eq];omega)]
     cases f<;>simp[A5]
    rw[e,List.append_nil]at hr';have HR:=Lib.hid hr';clear hr hr' e;go_wp2;go_ret2;exact⟨⟨u4,u5,rfl,by rw[HR.out];exact ho1.out⟩,hbw.out⟩
theorem Amd {z:Int} (h0:0<=z) (h1:z<256):((z.toNat.toUInt8).toNat:Int)=z:=by
 have:z.toNat<256:=by omega
 simp[Nat.toUInt8,UInt8.toNat_ofNat',Nat.mod_eq_of_lt this];omega
theorem Nn (w:World) (zs:List Int) (hz: ∀z ∈ zs,0<=z/\z<256) (t:TypeId):
 (convert 25 9 (.slice (some ⟨w.heap.size,0,none⟩) zs.length zs.length)).run Tryz.prog (w.alloc (.cells (zs.map (Value.int .u8)).toArray t))=.ok (.string ⟨(zs.map fun z=>z.toNat.toUInt8).toArray⟩) (w.alloc (.cells (zs.map (Value.int .u8)).toArray t)):=by
 have:=run_convert_bytes_back (P:=Tryz.prog) (w.alloc (.cells (zs.map (Value.int .u8)).toArray t)) 25 9 5 ⟨w.heap.size,0,none⟩ zs.length (zs.map fun z=>z.toNat.toUInt8) Tryz.underlying25 Tryz.underlying5 Tryz.underlying9 (by
  intro j hj;rw[List.length_map]at hj;have hh:(w.alloc (.cells (zs.map (Value.int .u8)).toArray t)).heap[w.heap.size]? =some (.cells (zs.map (Value.int .u8)).toArray t (0,0)):=heap_alloc_new _ _;rw[show(⟨w.heap.size,0,none⟩:Addr).add j=⟨w.heap.size,j,none⟩from by unfold Addr.add;split<;>simp_all];rw[Lib.cell_of_heap hh];simp only[List.getElem?_toArray,List.getElem?_map,List.getElem?_eq_getElem hj,Option.map_some,List.getElem_map];rw[Amd (hz _ (List.getElem_mem hj)).1 (hz _ (List.getElem_mem hj)).2])
 rwa [List.length_map]at this
set_option maxRecDepth 20000 in
theorem Lt (r:Int) (h0:0<=r) (h1:r<=1114111) (hs: ¬(55296<=r/\r<57344)) (w:World):
 Calls Tryz.prog 88 #[.int .i64 r] w fun e w'=>e=.returned (.string ⟨(Lib.encodeRune r).toArray⟩)/\Below w.heap.size w w':=by
 by_cases c1:r<128
 . have e:Lib.encodeRune r= [r].map fun z=>z.toNat.toUInt8:=by unfold Lib.encodeRune;rw[Lib.encodeRuneZ_one h0 (by omega)]
   have hB:=Nn w [r] (by intro z hz;simp at hz;omega) 5;rw[e];simp only[List.map_cons,List.map_nil,List.length_cons,List.length_nil]at hB ⊢;go_enter Tryz.func88,Tryz.ntmps88;go_wp2;go_ret;exact⟨rfl,(Below.refl _ _).alloc (Nat.le_refl _) _⟩
 by_cases c2:r<2048
 . have e:Lib.encodeRune r= [192+r / 64,128+r % 64].map fun z=>z.toNat.toUInt8:=by unfold Lib.encodeRune;rw[Lib.encodeRuneZ_two (by omega) (by omega)]
   have hB:=Nn w [192+r / 64,128+r % 64] (by intro z hz;simp at hz;omega) 5;rw[e];have b1:0<=r / 64:=by omega
   have b2:r / 64<32:=by omega
   have b3:0<=r % 64:=by omega
   have b4:r % 64<64:=by omega
   simp only[List.map_cons,List.map_nil,List.length_cons,List.length_nil]at hB ⊢;obtain⟨z1,hz1⟩: ∃z,192+r / 64=z:=⟨_,rfl⟩;obtain⟨z2,hz2⟩: ∃z,128+r % 64=z:=⟨_,rfl⟩;have d1:0<=z1/\z1<256:=by omega
   have d2:0<=z2/\z2<256:=by omega
   rw[hz1,hz2]at hB ⊢;go_enter Tryz.func88,Tryz.ntmps88;go_wp2;go_ret;exact⟨rfl,(Below.refl _ _).alloc (Nat.le_refl _) _⟩
 by_cases c3:r<65536
 . have e:Lib.encodeRune r= [224+r / 4096,128+r / 64 % 64,128+r % 64].map fun z=>z.toNat.toUInt8:=by unfold Lib.encodeRune;rw[Lib.encodeRuneZ_three (by omega)]
   have hB:=Nn w [224+r / 4096,128+r / 64 % 64,128+r % 64] (by intro z hz;simp at hz;omega) 5;rw[e];have b1:0<=r / 4096:=by omega
   have b2:r / 4096<16:=by omega
   have b3:0<=r % 64:=by omega
   have b4:r % 64<64:=by omega
   have b5:0<=r / 64:=by omega
   have b6:0<=r / 64 % 64:=by omega
   have b7:r / 64 % 64<64:=by omega
   simp only[List.map_cons,List.map_nil,List.length_cons,List.length_nil]at hB ⊢;obtain⟨z1,hz1⟩: ∃z,224+r / 4096=z:=⟨_,rfl⟩;obtain⟨z2,hz2⟩: ∃z,128+r / 64 % 64=z:=⟨_,rfl⟩;obtain⟨z3,hz3⟩: ∃z,128+r % 64=z:=⟨_,rfl⟩;have d1:0<=z1/\z1<256:=by omega
   have d2:0<=z2/\z2<256:=by omega
   have d3:0<=z3/\z3<256:=by omega
   rw[hz1,hz2,hz3]at hB ⊢;go_enter Tryz.func88,Tryz.ntmps88;go_wp2;go_ret;exact⟨rfl,(Below.refl _ _).alloc (Nat.le_refl _) _⟩
 . have e:Lib.encodeRune r= [240+r / 262144,128+r / 4096 % 64,128+r / 64 % 64,128+r % 64].map fun z=>z.toNat.toUInt8:=by unfold Lib.encodeRune;rw[Lib.encodeRuneZ_four (by omega) (by omega)]
   have hB:=Nn w [240+r / 262144,128+r / 4096 % 64,128+r / 64 % 64,128+r % 64] (by intro z hz;simp at hz;omega) 5;rw[e];have b1:0<=r / 262144:=by omega
   have b2:r / 262144<8:=by omega
   have b3:0<=r % 64:=by omega
   have b4:r % 64<64:=by omega
   have b5:0<=r / 64:=by omega
   have b6:0<=r / 64 % 64:=by omega
   have b7:r / 64 % 64<64:=by omega
   have b8:0<=r / 4096:=by omega
   have b9:0<=r / 4096 % 64:=by omega
   have b10:r / 4096 % 64<64:=by omega
   simp only[List.map_cons,List.map_nil,List.length_cons,List.length_nil]at hB ⊢;obtain⟨z0,hz0⟩: ∃z,240+r / 262144=z:=⟨_,rfl⟩;obtain⟨z1,hz1⟩: ∃z,128+r / 4096 % 64=z:=⟨_,rfl⟩;obtain⟨z2,hz2⟩: ∃z,128+r / 64 % 64=z:=⟨_,rfl⟩;obtain⟨z3,hz3⟩: ∃z,128+r % 64=z:=⟨_,rfl⟩;have d0:0<=z0/\z0<256:=by omega
   have d1:0<=z1/\z1<256:=by omega
   have d2:0<=z2/\z2<256:=by omega
   have d3:0<=z3/\z3<256:=by omega
   rw[hz0,hz1,hz2,hz3]at hB ⊢;go_enter Tryz.func88,Tryz.ntmps88;go_wp2;go_ret;exact⟨rfl,(Below.refl _ _).alloc (Nat.le_refl _) _⟩
def dgt (d:Nat):UInt8:=UInt8.ofNat (48+d)
def Jr (u:Nat):List UInt8:=if _h:u=0 then []else Jr (u / 10)++ [dgt (u % 10)]
termination_by u
decreasing_by omega
theorem Nd:Jr 0= []:=by rw[Jr,dif_pos rfl]
theorem Ty {u:Nat} (h:u≠0):Jr u=Jr (u / 10)++ [dgt (u % 10)]:=by rw[Jr,dif_neg h]
theorem Tx (u:Nat):u≠0->Jr u=Lib.decDigits u:=by
 induction u using Nat.strongRecOn with
 |_ u ih=>
  intro h;rw[Ty h,Lib.decDigits];unfold dgt;by_cases h10:u<10
  . rw[dif_pos h10,show u / 10=0 from by omega,Nd,show u % 10=u from by omega,List.nil_append]
  . rw[dif_neg h10,ih (u / 10) (by omega) (by omega)]
theorem Aac {u:Nat} (h:(u:Int)<=9223372036854775808):(Jr u).length<=30:=by
 by_cases h0:u=0
 . subst h0;rw[Nd];simp
 . rw[Tx u h0,Lib.decDigits_length];exact Nat.le_trans (Lib.nDigits_le20 u (by omega)) (by omega)
theorem Zb (S:ByteArray) (d e:Nat) (hd:d<=e) (he:e<=S.size) (w:World):(Instr.slice 9 (.string S) (some (.int .i64 d)) (some (.int .i64 e)) none).run Tryz.prog w=.ok (.string (S.extract d e)) w:=by
 simp[Instr.slice,run_underlying Tryz.underlying9,Instr.sliceBounds,go_sem,hd,he]
theorem Ai5: ∀d:Fin 10,(⟨#[48,49,50,51,52,53,54,55,56,57]⟩:ByteArray).extract d.val (d.val+1)=⟨#[dgt d.val]⟩:=by decide
theorem Xe (d:Nat) (hd:d<10) (w:World):(Instr.slice 9 (.string ⟨#[48,49,50,51,52,53,54,55,56,57]⟩) (some (.int .i64 d)) (some (.int .i64 ((d:Int)+1))) none).run Tryz.prog w=.ok (.string ⟨#[dgt d]⟩) w:=by
 have:=Zb ⟨#[48,49,50,51,52,53,54,55,56,57]⟩ d (d+1) (by omega) (by show d+1<=10;omega) w;rw[Ai5 ⟨d,hd⟩]at this;exact this
set_option maxRecDepth 20000 in
theorem Ada (a:Nat) (ha:a≠0) (hm:(a:Int)<=9223372036854775807) (w:World):
 Calls Tryz.prog 53 #[.int .i64 a] w fun e w'=>e=.returned (.string ⟨(Lib.itoa a).toArray⟩)/\w=w':=by
 have hi:Lib.itoa a=Jr a:=by
  rw[Tx a ha,Lib.itoa,if_neg (by omega)];simp
 rw[hi];have hl:=Aac (u:=a) (by omega);have H0:Hid (Jr a++(⟨#[]⟩:ByteArray).data.toList=Jr a):=by show _=_;simp
 clear hi;go_enter Tryz.func53,Tryz.ntmps53;have ha1:((a:Int)==0)=false:=by simp;omega
 go_wp2
 go_loop [3,4] (fun s m=> ∃(T:ByteArray) (u:Nat),s=.string T/\m=.int .i64 u/\u<=a/\Hid (Jr u++T.data.toList=Jr a)) (fun _ m=>(intOf m).toNat)
 case atStart=>exact⟨_,a,rfl,rfl,Nat.le_refl _,H0⟩
 case round=>
  obtain⟨T,u,rfl,rfl,hu,hT⟩:=hrel;clear H0;have hTs:T.size<=30:=by
   have h1:=congrArg List.length hT.out;rw[List.length_append]at h1;have h2:T.data.toList.length=T.size:=by rw[Array.length_toList];rfl
   omega
  by_cases hu0:u=0
  . subst hu0;have hT':=hT.out;rw[Nd,List.nil_append]at hT';have hE:(⟨(Jr a).toArray⟩:ByteArray)=T:=by rw[<-hT']
    have HE:=Lib.hid hE;clear hT hT' hE ha1 hl;have h0:((a:Int)<0)=False:=by simp
    go_wp2;go_ret;exact⟨by rw[HE.out];rfl,rfl⟩
  . have hu1:((u:Int)==0)=false:=by simp;omega
    have hT':Hid (Jr (u / 10)++((⟨#[dgt (u % 10)]⟩:ByteArray)++T).data.toList=Jr a):=by
     have:=hT.out;rw[Ty hu0]at this;show _=_;rw[<-this,ByteArray.data_append,Array.toList_append];simp
    have hd:=Xe (u % 10) (by omega) w;have hm10:(u:Int) % 10=((u % 10:Nat):Int):=by omega
    have hq10:(u:Int) / 10=((u / 10:Nat):Int):=by omega
    have hlt:u % 10<10:=by omega
    have hqu:u / 10<u:=by omega
    generalize u % 10=d at*
    generalize u / 10=q at*
    have hdn:decide ((d:Int)<0)=false:=by simp
    clear hT ha1 hl;go_wp2
    go_round
    case rel=>exact⟨_,q,rfl,rfl,by omega,hT'⟩
    case measure=>simp[intOf];omega
set_option maxRecDepth 20000 in
theorem Ac9 (a:Nat) (ha:a≠0) (hm:(a:Int)<=9223372036854775808) (n:Int) (hn:n= -(a:Int)) (w:World):
 Calls Tryz.prog 53 #[.int .i64 n] w fun e w'=>e=.returned (.string ⟨(Lib.itoa n).toArray⟩)/\w=w':=by
 have hi:Lib.itoa n=45::Jr a:=by
  rw[Tx a ha,Lib.itoa,if_pos (by omega),hn];simp
 rw[hi];have hl:=Aac (u:=a) (by omega);have H0:Hid (Jr a++(⟨#[]⟩:ByteArray).data.toList=Jr a):=by show _=_;simp
 have Hn:=Lib.hid hn;have hn1:(n==0)=false:=by simp;omega
 have hn2:n<0:=by omega
 clear hi hn;go_enter Tryz.func53,Tryz.ntmps53;go_wp2
 go_loop [3,4] (fun s m=> ∃(T:ByteArray) (M:Int) (u:Nat),s=.string T/\m=.int .i64 M/\Hid (M= -(u:Int))/\u<=a/\Hid (Jr u++T.data.toList=Jr a)) (fun _ m=>(-(intOf m)).toNat)
 case atStart=>exact⟨_,n,a,rfl,rfl,Hn,Nat.le_refl _,H0⟩
 case round=>
  obtain⟨T,M,u,rfl,rfl,hM,hu,hT⟩:=hrel;clear H0;have hTs:T.size<=30:=by
   have h1:=congrArg List.length hT.out;rw[List.length_append]at h1;have h2:T.data.toList.length=T.size:=by rw[Array.length_toList];rfl
   omega
  have hMu:=hM.out;by_cases hu0:u=0
  . subst hu0;obtain rfl:M=0:=by simpa using hMu
    have hT':=hT.out;rw[Nd,List.nil_append]at hT';have hE:(⟨(45::Jr a).toArray⟩:ByteArray)=⟨#[45]⟩++T:=by
     apply ByteArray.ext;rw[ByteArray.data_append];apply Array.ext';rw[Array.toList_append,hT'];simp
    have HE:=Lib.hid hE;clear hT hT' hE hn1 hl hM hMu;go_wp2;go_ret;exact⟨by rw[HE.out];rfl,rfl⟩
  . have hT':Hid (Jr (u / 10)++((⟨#[dgt (u % 10)]⟩:ByteArray)++T).data.toList=Jr a):=by
     have:=hT.out;rw[Ty hu0]at this;show _=_;rw[<-this,ByteArray.data_append,Array.toList_append];simp
    have hM1:(M==0)=false:=by simp;omega
    have hM2: -9223372036854775808<=M:=by omega
    have hM3:M<0:=by omega
    have hd:=Xe (u % 10) (by omega) w;obtain⟨D,hD⟩: ∃D,M.tmod 10=D:=⟨_,rfl⟩;obtain⟨Q,hQ⟩: ∃Q,M.tdiv 10=Q:=⟨_,rfl⟩;have hD':D= -((u % 10:Nat):Int):=by
     rw[<-hD,hMu,Int.neg_tmod,Int.tmod_eq_emod_of_nonneg (by omega)];omega
    have hQ':Q= -((u / 10:Nat):Int):=by
     rw[<-hQ,hMu,Int.neg_tdiv,Int.tdiv_eq_ediv_of_nonneg (by omega)];omega
    have hlt:u % 10<10:=by omega
    have hqu:u / 10<u:=by omega
    generalize u % 10=d at*
    generalize u / 10=q at*
    have HQ:=Lib.hid hQ';have hMQ:M<Q:=by omega
    have hQ1: -9223372036854775808<=Q:=by omega
    have hQ2:Q<=0:=by omega
    have hQ3:Q<=9223372036854775807:=by omega
    by_cases hd0:d=0
    . subst hd0;obtain rfl:D=0:=by simpa using hD'
      have hd1:(Instr.slice 9 (.string ⟨#[48,49,50,51,52,53,54,55,56,57]⟩) (some (.int .i64 0)) (some (.int .i64 1)) none).run Tryz.prog w=.ok (.string ⟨#[dgt 0]⟩) w:=hd;clear hT hn1 hl hM hD' hQ' hMu hd;go_wp2
      go_round
      case rel=>exact⟨_,Q,q,rfl,rfl,HQ,by omega,hT'⟩
      case measure=>simp only[intOf];omega
    . have hDn:D<0:=by omega
      have hDb: -10<D:=by omega
      have hDd: -D=(d:Int):=by omega
      clear hT hn1 hl hM hD' hQ';clear hMu;go_wp2
      go_round
      case rel=>exact⟨_,Q,q,rfl,rfl,HQ,by omega,hT'⟩
      case measure=>simp only[intOf];omega
theorem X4 (n:Int) (h1: -9223372036854775808<=n) (h2:n<=9223372036854775807) (w:World):
 Calls Tryz.prog 53 #[.int .i64 n] w fun e w'=>e=.returned (.string ⟨(Lib.itoa n).toArray⟩)/\w=w':=by
 by_cases h0:n=0
 . subst h0;have e:(⟨(Lib.itoa 0).toArray⟩:ByteArray)=⟨#[48]⟩:=by
    have:Lib.itoa 0= [48]:=by
     rw[Lib.itoa,if_neg (by omega)];exact Lib.decDigits_one (i:=0) (by omega)
    rw[this]
   rw[e];go_enter Tryz.func53,Tryz.ntmps53;go_wp2;go_ret;exact⟨rfl,rfl⟩
 . rcases Int.lt_or_le n 0 with h|h
   . exact Ac9 n.natAbs (by omega) (by omega) n (by omega) w
   . have:=Ada n.toNat (by omega) (by omega) w
     rwa [show((n.toNat:Nat):Int)=n from by omega]at this
def Gh:List UInt8:= [34,92,47,98,102,110,114,116]
theorem Vj: ∀j:Fin 8,j.val≠2->Ch ((Gx.getD j.val 0).toNat)= [92,Gh.getD j.val 0]:=by decide
def Ri (r:Nat) (j:Nat):Prop:= ∀i:Nat,i<j->i≠2->Gx.getD i 0≠(r:Int)
theorem Ri.all {r:Nat} (h:Ri r 8):r≠34/\r≠92/\r≠8/\r≠12/\r≠10/\r≠13/\r≠9:=by
 have h0:=h 0 (by omega) (by omega);have h1:=h 1 (by omega) (by omega);have h3:=h 3 (by omega) (by omega);have h4:=h 4 (by omega) (by omega);have h5:=h 5 (by omega) (by omega);have h6:=h 6 (by omega) (by omega);have h7:=h 7 (by omega) (by omega);simp[Gx]at h0 h1 h3 h4 h5 h6 h7;omega
theorem Yx {r:Nat} (h:Ri r 8):Ch r=if r<32 then [92,117,48,48,L3 (r / 16),L3 (r % 16)]else Lib.encodeRune r:=by
 obtain⟨a1,a2,a3,a4,a5,a6,a7⟩:=h.all;unfold Ch;by_cases h32:r<32
 . rw[if_neg (by omega),if_pos h32];have:D1 (r:Int) Bw=none:=by
    simp only[Bw,D1]
    repeat rw[if_neg (by omega)]
   rw[this]
 . rw[if_pos (by omega),if_neg h32]
theorem Ri.step {r j:Nat} (h:Ri r j) (hj:j=2\/Gx.getD j 0≠(r:Int)):Ri r (j+1):=by
 intro i hi h2;by_cases he:i=j
 . subst he;rcases hj with hj|hj
   . exact absurd hj h2
   . exact hj
 . exact h i (by omega) h2
def E4 (r:Nat):Prop:=r<=1114111/\ ¬(55296<=r/\r<57344)
theorem Zt (F:Option Int) (n:Nat) (least:Int):(Dp F n least).2=0\/((Dp F n least).1<=1114111/\ ¬(55296<=(Dp F n least).1/\(Dp F n least).1<57344)):=by
 unfold Dp
 split
 . simp
 . split
   . simp
   . rename_i h
     right
     simp only;omega
theorem Lw (rest:List UInt8) (n:Nat) (r0 least:Int):(Ca rest n r0 least).2=0\/((Ca rest n r0 least).1<=1114111/\ ¬(55296<=(Ca rest n r0 least).1/\(Ca rest n r0 least).1<57344)):=by
 unfold Ca
 split
 . exact .inl rfl
 . exact Zt _ _ _
theorem Ph (l:List UInt8):(Gc l).2=0\/((Gc l).1<=1114111/\ ¬(55296<=(Gc l).1/\(Gc l).1<57344)):=by
 cases l with
 |nil=>exact .inl rfl
 |cons c rest=>
  rw[Gn];by_cases h1:(c.toNat:Int)<128
  . rw[if_pos h1]
    right
    simp only;omega
  rw[if_neg h1]
  split
  . exact Lw _ _ _ _
  split
  . exact Lw _ _ _ _
  split
  . exact Lw _ _ _ _
  . exact .inl rfl
theorem Im: ∀(n:Nat) (l:List UInt8) (p:Nat),∀x ∈ A5 n l p,E4 x.2
 |0,_,_,x,hx=>by simp[A5]at hx
 |n+1,l,p,x,hx=>by
  by_cases h:l= []
  . subst h;simp[A5]at hx
  . rcases M4 h n p with⟨_,e⟩|⟨m,r,hn,h1,_,e⟩
    . rw[e]at hx
      cases hx
    . rw[e]at hx;rcases List.mem_cons.1 hx with rfl|hx
      . have:=Ph l;rw[hn]at this;unfold E4;simp only at this ⊢;omega
      . exact Im n _ _ x hx
theorem Afz (d:Nat) (hd:d<16) (w:World):(Instr.slice 9 (.string ⟨#[48,49,50,51,52,53,54,55,56,57,97,98,99,100,101,102]⟩) (some (.int .i64 d)) (some (.int .i64 ((d:Int)+1))) none).run Tryz.prog w=.ok (.string ⟨#[L3 d]⟩) w:=by
 have:=Zb ⟨#[48,49,50,51,52,53,54,55,56,57,97,98,99,100,101,102]⟩ d (d+1) (by omega) (by show d+1<=16;omega) w;have e: ∀d:Fin 16,(⟨#[48,49,50,51,52,53,54,55,56,57,97,98,99,100,101,102]⟩:ByteArray).extract d.val (d.val+1)=⟨#[L3 d.val]⟩:=by decide
 rw[e ⟨d,hd⟩]at this;exact this
theorem Amb (d:Nat) (hd:d<8) (w:World):(Instr.slice 9 (.string ⟨#[34,92,47,98,102,110,114,116]⟩) (some (.int .i64 d)) (some (.int .i64 ((d:Int)+1))) none).run Tryz.prog w=.ok (.string ⟨#[Gh.getD d 0]⟩) w:=by
 have:=Zb ⟨#[34,92,47,98,102,110,114,116]⟩ d (d+1) (by omega) (by show d+1<=8;omega) w;have e: ∀d:Fin 8,(⟨#[34,92,47,98,102,110,114,116]⟩:ByteArray).extract d.val (d.val+1)=⟨#[Gh.getD d.val 0]⟩:=by decide
 rw[e ⟨d,hd⟩]at this;exact this
mutual
def El:Val->Nat
 | .mk k _ _ _ l o=>1+(if k=5 then Ez l else if k=6 then I5 o else 0)
def Ez:List Val->Nat
 | []=>0
 |v::r=>max (El v) (Ez r)
def I5:List (ByteArray×Val)->Nat
 | []=>0
 |p::r=>max (Aab p) (I5 r)
def Aab:ByteArray×Val->Nat
 |(_,v)=>El v
end
theorem Pq: ∀(l:List Val),(∀v ∈ l,El v<=v.bulk)->Ez l<=Bc l
 | [],_=>by simp[Ez]
 |v::r,h=>by
  have h1:=h v (by simp);have h2:=Pq r (fun x hx=>h x (by simp[hx]));simp only[Ez,Bc];omega
theorem Tv: ∀(l:List (ByteArray×Val)),(∀m ∈ l,El m.2<=m.2.bulk)->I5 l<=Al l
 | [],_=>by simp[I5]
 |(k,v)::r,h=>by
  have h1:=h (k,v) (by simp);have h2:=Tv r (fun x hx=>h x (by simp[hx]));simp only[I5,Aab,Al,Ec];simp only at h1;omega
theorem Lg: ∀v:Val,El v<=v.bulk:=by
 refine Val.ind ?_;intro k b n t l o hl ho;have h1:=Pq l hl;have h2:=Tv o ho;simp only[El,Val.bulk]
 split
 . omega
 split<;>omega
def Aig (v:Val):Prop:= ∀(cs:List Value) (w:World),Ac w w.heap.size v cs->v.bulk<=100000000->
    Calls Tryz.prog 135 #[.agg cs.toArray] w fun e w'=>e=.returned (.int .i64 (El v))/\Below w.heap.size w w'
set_option maxRecDepth 100000 in
theorem Agg (b:Bool) (n:Int) (t:ByteArray) (l:List Val) (on:Nat) (IH: ∀v ∈ l,Aig v) (la oa:Option Addr) (oc lc:Nat) (w:World) (hl:l= []\/ ∃g off,la=some ⟨g,off,none⟩/\g<w.heap.size/\Az w w.heap.size l g off)
 (hb:Bc l<=100000000):
 Calls Tryz.prog 135 #[.agg #[.int .i64 5,.bool b,.int .i64 n,.string t,.slice la l.length lc,.slice oa on oc]] w fun e w'=>e=.returned (.int .i64 (1+(Ez l:Int)))/\Below w.heap.size w w':=by
 have hln:=D3 l;have hdl:=Pq l (fun v _=>Lg v);obtain⟨M,hM⟩: ∃M,Ez l=M:=⟨_,rfl⟩;rw[hM]at hdl ⊢;have H0:Hid (max 0 (Ez (l.drop 0))=M):=by show _=_;rw[List.drop_zero,hM];simp
 have HI:=Lib.hid IH;clear IH hM;go_enter Tryz.func135,Tryz.ntmps135;go_wp2_with (fail);have HB1:Hid (Below w.heap.size w (w.alloc (.cells #[.int .i64 5,.bool b,.int .i64 n,.string t,.slice la l.length lc,.slice oa on oc] 39))):=(Below.refl _ _).alloc (Nat.le_refl _) _;go_loopw [3,15] (fun m i wr=> ∃D k:Nat,m=.int .i64 D/\i=.int .i64 k/\k<=l.length/\Hid (max D (Ez (l.drop k))=M)/\D<=M/\Hid (Below w.heap.size w wr)) (fun _ i _=>l.length - (intOf i).toNat)
 case atStart=>exact⟨0,0,rfl,rfl,Nat.zero_le _,H0,Nat.zero_le _,HB1⟩
 case round=>
  obtain⟨D,k,rfl,rfl,hk,hD,hDM,hbw⟩:=hrel;clear H0 HB1;by_cases hlt:k<l.length
  . obtain⟨g,off,rfl,hg,hL⟩: ∃g off,la=some ⟨g,off,none⟩/\g<w.heap.size/\Az w w.heap.size l g off:=by
     rcases hl with rfl|h
     . simp at hlt
     . exact h
    obtain⟨x,hx⟩: ∃v,l[k]? =some v:=⟨_,List.getElem?_eq_getElem hlt⟩;have hmem:x ∈ l:=List.mem_of_getElem? hx;have hbv:=Eg hmem;have hdv:=Lg x;have hdrop:l.drop k=x::l.drop (k+1):=C3 hx;have hD':=hD.out;rw[hdrop]at hD';simp only[Ez]at hD';have IHx:=HI.out x hmem;have hz:=hbw.out.size;obtain⟨m,hm⟩: ∃m,El x=m:=⟨_,rfl⟩;obtain⟨k',b',n',t',l',o'⟩:=x;obtain⟨la',lc',oa',oc',hvs,c0,c1,c2,c3,c4,c5⟩:=(hL.below hg hbw.out).six hx;have CT:=IHx _ (wr.alloc (.cells #[.int .i64 k',.bool b',.int .i64 n',.string t',.slice la' l'.length lc',.slice oa' o'.length oc'] 39)) (Ac.more (by simp;omega) _ _ (hvs.below ((Below.refl _ _).alloc hz _))) (by omega);rw[hm]at CT hD' hdv;have hCT:=Lib.hid CT;have Hn:Hid (max (max D m) (Ez (l.drop (k+1)))=M):=by show _=_;omega
    have hmM:max D m<=M:=by omega
    have hbA:Hid (Below w.heap.size w (wr.alloc (.cells #[.int .i64 k',.bool b',.int .i64 n',.string t',.slice la' l'.length lc',.slice oa' o'.length oc'] 39))):=hbw.out.alloc hz _;clear CT hD hD' hdrop IHx hm hvs hx hmem hL hg hdv hbv;by_cases hgt:D<m
    . have e1:max D m=m:=by omega
      rw[e1]at Hn hmM;clear e1;go_wp2_with (fail);(with_reducible refine hCT.out.mono ?_);rintro e w4 ⟨rfl,hb4⟩;have hbw4:=Lib.hid (hbA.out.trans (hb4.mono hbA.out.size));clear hb4 hbw hbA hCT;go_wp2;go_roundw
      case rel=>exact⟨m,k+1,by congr 1;omega,by go_num,by omega,Hn,hmM,hbw4⟩
      case measure=>simp only[intOf];omega
    . have e1:max D m=D:=by omega
      rw[e1]at Hn hmM;clear e1;go_wp2_with (fail);(with_reducible refine hCT.out.mono ?_);rintro e w4 ⟨rfl,hb4⟩;have hbw4:=Lib.hid (hbA.out.trans (hb4.mono hbA.out.size));clear hb4 hbw hbA hCT;go_wp2;go_roundw
      case rel=>exact⟨D,k+1,by congr 1;omega,by go_num,by omega,Hn,hmM,hbw4⟩
      case measure=>simp only[intOf];omega
  . obtain rfl:k=l.length:=by omega
    have hD':=hD.out;rw[List.drop_length]at hD';simp only[Ez]at hD';obtain rfl:D=M:=by omega
    clear hD hD' hl;go_wp2;go_ret;exact⟨rfl,hbw.out⟩
set_option maxRecDepth 100000 in
theorem Ai4 (b:Bool) (n:Int) (t:ByteArray) (l:List (ByteArray×Val)) (ln:Nat) (IH: ∀m ∈ l,Aig m.2) (la oa:Option Addr) (oc lc:Nat) (w:World) (hl:l= []\/ ∃g off,oa=some ⟨g,off,none⟩/\g<w.heap.size/\Au w w.heap.size l g off)
 (hb:Al l<=100000000):
 Calls Tryz.prog 135 #[.agg #[.int .i64 6,.bool b,.int .i64 n,.string t,.slice la ln lc,.slice oa l.length oc]] w fun e w'=>e=.returned (.int .i64 (1+(I5 l:Int)))/\Below w.heap.size w w':=by
 have hln:=Cg l;have hdl:=Tv l (fun m _=>Lg m.2);obtain⟨M,hM⟩: ∃M,I5 l=M:=⟨_,rfl⟩;rw[hM]at hdl ⊢;have H0:Hid (max 0 (I5 (l.drop 0))=M):=by show _=_;rw[List.drop_zero,hM];simp
 have HI:=Lib.hid IH;clear IH hM;go_enter Tryz.func135,Tryz.ntmps135;go_wp2_with (fail);have HB1:Hid (Below w.heap.size w (w.alloc (.cells #[.int .i64 6,.bool b,.int .i64 n,.string t,.slice la ln lc,.slice oa l.length oc] 39))):=(Below.refl _ _).alloc (Nat.le_refl _) _;go_loopw [3,29] (fun m i wr=> ∃D k:Nat,m=.int .i64 D/\i=.int .i64 k/\k<=l.length/\Hid (max D (I5 (l.drop k))=M)/\D<=M/\Hid (Below w.heap.size w wr)) (fun _ i _=>l.length - (intOf i).toNat)
 case atStart=>exact⟨0,0,rfl,rfl,Nat.zero_le _,H0,Nat.zero_le _,HB1⟩
 case round=>
  obtain⟨D,k,rfl,rfl,hk,hD,hDM,hbw⟩:=hrel;clear H0 HB1;by_cases hlt:k<l.length
  . obtain⟨g,off,rfl,hg,hL⟩: ∃g off,oa=some ⟨g,off,none⟩/\g<w.heap.size/\Au w w.heap.size l g off:=by
     rcases hl with rfl|h
     . simp at hlt
     . exact h
    obtain⟨⟨key,x⟩,hx⟩: ∃v,l[k]? =some v:=⟨_,List.getElem?_eq_getElem hlt⟩;have hmem:(key,x) ∈ l:=List.mem_of_getElem? hx;have hbv:=C9 hmem;simp only at hbv;have hdv:=Lg x;have hdrop:l.drop k=(key,x)::l.drop (k+1):=C3 hx;have hD':=hD.out;rw[hdrop]at hD';simp only[I5,Aab]at hD';have IHx:=HI.out _ hmem;have hz:=hbw.out.size;obtain⟨m,hm⟩: ∃m,El x=m:=⟨_,rfl⟩;obtain⟨k',b',n',t',l',o'⟩:=x;obtain⟨la',lc',oa',oc',hvs,c0,c1,c2,c3,c4,c5,c6⟩:=(hL.below hg hbw.out).seven hx;have CT:=IHx _ (wr.alloc (.cells #[.string key,.int .i64 k',.bool b',.int .i64 n',.string t',.slice la' l'.length lc',.slice oa' o'.length oc'] 63)) (Ac.more (by simp;omega) _ _ (hvs.below ((Below.refl _ _).alloc hz _))) (show(Val.mk k' b' n' t' l' o').bulk<=100000000 from by omega);simp only[hm]at CT;rw[hm]at hD' hdv;have hCT:=Lib.hid CT;have Hn:Hid (max (max D m) (I5 (l.drop (k+1)))=M):=by show _=_;omega
    have hmM:max D m<=M:=by omega
    have hbA:Hid (Below w.heap.size w (wr.alloc (.cells #[.string key,.int .i64 k',.bool b',.int .i64 n',.string t',.slice la' l'.length lc',.slice oa' o'.length oc'] 63))):=hbw.out.alloc hz _;clear CT hD hD' hdrop IHx hm hvs hx hmem hL hg hdv hbv;have hmx:max (D:Int) (m:Int)=((max D m:Nat):Int):=by omega
    generalize max D m=Dm at*
    have Hmx:=Lib.hid hmx;clear hmx;go_wp2_with (fail);(with_reducible refine hCT.out.mono ?_);rintro e w4 ⟨rfl,hb4⟩;have hbw4:=Lib.hid (hbA.out.trans (hb4.mono hbA.out.size));clear hb4 hbw hbA hCT;go_wp2;go_roundw
    case rel=>exact⟨Dm,k+1,by rw[Hmx.out],by go_num,by omega,Hn,hmM,hbw4⟩
    case measure=>simp only[intOf];omega
  . obtain rfl:k=l.length:=by omega
    have hD':=hD.out;rw[List.drop_length]at hD';simp only[I5]at hD';obtain rfl:D=M:=by omega
    clear hD hD' hl;go_wp2;go_ret;exact⟨rfl,hbw.out⟩
set_option maxRecDepth 100000 in
theorem Ac7: ∀v,Aig v:=by
 refine Val.ind ?_;intro k b n t l o IHl IHo cs w hV hb;simp only[Ac]at hV;obtain⟨la,lc,oa,oc,rfl,hla,hoa⟩:=hV;simp only[Val.bulk]at hb;by_cases h5:k=5
 . subst h5;have:=Agg b n t l o.length IHl la oa oc lc w hla (by omega);simpa[El]using this
 by_cases h6:k=6
 . subst h6;have:=Ai4 b n t o l.length IHo la oa oc lc w hoa (by omega);simpa[El]using this
 have e:El (.mk k b n t l o)=1:=by simp[El,h5,h6]
 rw[e];have e5:(k==5)=false:=by simpa using h5
 have e6:(k==6)=false:=by simpa using h6
 clear e IHl IHo hla hoa hb h5 h6;go_enter Tryz.func135,Tryz.ntmps135;go_wp2;go_ret;exact⟨rfl,(Below.refl _ _).alloc (Nat.le_refl _) _⟩
theorem U5 (v:Val) (cs:List Value) (w:World) (hV:Ac w w.heap.size v cs) (hb:v.bulk<=100000000):
 Calls Tryz.prog 138 #[.agg cs.toArray] w (Lu w v):=by
 obtain⟨k,b,n,t,l,o⟩:=v;simp only[Ac]at hV;obtain⟨la,lc,oa,oc,rfl,hla,hoa⟩:=hV;simp only[Val.bulk]at hb;by_cases h5:k=5
 . subst h5;exact Ab7 b n t l o la oa oc lc w hla (by omega)
 by_cases h6:k=6
 . subst h6;exact Ae3 b n t l o la oa oc lc w hoa (by omega)
 have hw:within (.mk k b n t l o)= []:=by simp[within,h5,h6]
 have Hw:=Lib.hid hw;have e5:(k==5)=false:=by simpa using h5
 have e6:(k==6)=false:=by simpa using h6
 clear hw hla hoa hb h5 h6;go_enter Tryz.func138,Tryz.ntmps138;go_wp2;go_ret;exact⟨⟨none,0,by rw[Hw.out];rfl,.inl Hw.out⟩,(Below.refl _ _).alloc (Nat.le_refl _) _⟩
theorem Wi: ∀o:List (ByteArray×Val),I5 o=Ez (o.map (·.2))
 | []=>rfl
 |(k,v)::r=>by simp only[I5,Aab,List.map_cons,Ez,Wi r]
theorem X0 (v:Val):El v=1+Ez (within v):=by
 obtain⟨k,b,n,t,l,o⟩:=v;simp only[El,within];by_cases h5:k=5
 . simp[h5]
 by_cases h6:k=6
 . simp[h6,Wi]
 . simp[h5,h6,Ez]
theorem Wb: ∀o:List (ByteArray×Val),Bc (o.map (·.2))<=Al o
 | []=>by simp[Bc]
 |(k,v)::r=>by
  have:=Wb r;simp only[List.map_cons,Bc,Al,Ec];omega
theorem Ab6 (v:Val):Bc (within v)<=v.bulk:=by
 obtain⟨k,b,n,t,l,o⟩:=v;have:=Wb o;simp only[within,Val.bulk]
 split
 . omega
 split
 . omega
 . simp[Bc]
def Acj (v:Val):Prop:= ∀(cs:List Value) (w:World),Ac w w.heap.size v cs->v.bulk<=100000000->
    Calls Tryz.prog 98 #[.agg cs.toArray] w fun e w'=>e=.returned (.int .i64 (El v))/\Below w.heap.size w w'
set_option maxRecDepth 100000 in
theorem Aeb (v:Val) (IH: ∀x ∈ within v,Acj x):Acj v:=by
 intro cs w hV hb;have hV':=hV;have hbw:=Ab6 v;have hlw:=D3 (within v);have hdw:=Pq (within v) (fun x _=>Lg x);have hW0:=fun w' (h:Below w.heap.size w w')=>U5 v cs w' (Ac.more h.size _ _ (hV.below h)) hb;rw[X0];unfold Lu at hW0;generalize within v=L at*
 obtain⟨k,b,n,t,l,o⟩:=v;simp only[Ac]at hV';obtain⟨la,lc,oa,oc,rfl,_,_⟩:=hV';obtain⟨HI,HW⟩:=hid2 IH hW0;obtain⟨M,hM⟩: ∃M,Ez L=M:=⟨_,rfl⟩;rw[hM]at hdw ⊢;have H0:Hid (max 0 (Ez (L.drop 0))=M):=by show _=_;rw[List.drop_zero,hM];simp
 have HB1:Hid (Below w.heap.size w (w.alloc (.cells (Eo k b n t la l.length lc oa o.length oc).toArray 39))):=(Below.refl _ _).alloc (Nat.le_refl _) _;clear IH hW0 hM hV;go_enter Tryz.func98,Tryz.ntmps98;go_wp2_with (fail);(with_reducible refine(HW.out _ HB1.out).mono ?_);rintro e w2 ⟨⟨la',lc',rfl,hsl⟩,hb2⟩;have Hsl:=Lib.hid hsl;have HB2:=Lib.hid (HB1.out.trans (hb2.mono HB1.out.size));clear hsl hb2 HB1 HW;go_wp2_with (fail);have HBr:Hid (Below w2.heap.size w2 w2):=Below.refl _ _;go_loopw [3,5] (fun m i wr=> ∃D k:Nat,m=.int .i64 D/\i=.int .i64 k/\k<=L.length/\Hid (max D (Ez (L.drop k))=M)/\D<=M/\Hid (Below w2.heap.size w2 wr)) (fun _ i _=>L.length - (intOf i).toNat)
 case atStart=>exact⟨0,0,rfl,rfl,Nat.zero_le _,H0,Nat.zero_le _,HBr⟩
 case round=>
  obtain⟨D,k,rfl,rfl,hk,hD,hDM,hbw⟩:=hrel;clear H0 HBr;by_cases hlt:k<L.length
  . obtain⟨g,off,rfl,hg,hL⟩: ∃g off,la'=some ⟨g,off,none⟩/\g<w2.heap.size/\Az w2 w2.heap.size L g off:=by
     rcases Hsl.out with h|h
     . rw[h]at hlt;simp at hlt
     . exact h
    obtain⟨x,hx⟩: ∃v,L[k]? =some v:=⟨_,List.getElem?_eq_getElem hlt⟩;have hmem:x ∈ L:=List.mem_of_getElem? hx;have hbv:=Eg hmem;have hdv:=Lg x;have hdrop:L.drop k=x::L.drop (k+1):=C3 hx;have hD':=hD.out;rw[hdrop]at hD';simp only[Ez]at hD';have IHx:=HI.out x hmem;have hz:=hbw.out.size;obtain⟨m,hm⟩: ∃m,El x=m:=⟨_,rfl⟩;obtain⟨k',b',n',t',l',o'⟩:=x;obtain⟨la',lc',oa',oc',hvs,c0,c1,c2,c3,c4,c5⟩:=(hL.below hg hbw.out).six hx;have CT:=IHx _ wr (Ac.more hz _ _ hvs) (by omega);rw[hm]at CT hD' hdv;have hCT:=Lib.hid CT;have Hn:Hid (max (max D m) (Ez (L.drop (k+1)))=M):=by show _=_;omega
    have hmM:max D m<=M:=by omega
    clear CT hD hD' hdrop IHx hm hvs hx hmem hL hg hdv hbv;by_cases hgt:D<m
    . have e1:max D m=m:=by omega
      rw[e1]at Hn hmM;clear e1;go_wp2_with (fail);(with_reducible refine hCT.out.mono ?_);rintro e w4 ⟨rfl,hb4⟩;have hbw4:=Lib.hid (hbw.out.trans (hb4.mono hz));clear hb4 hbw hCT;go_wp2;go_roundw
      case rel=>exact⟨m,k+1,rfl,by go_num,by omega,Hn,hmM,hbw4⟩
      case measure=>simp only[intOf];omega
    . have e1:max D m=D:=by omega
      rw[e1]at Hn hmM;clear e1;go_wp2_with (fail);(with_reducible refine hCT.out.mono ?_);rintro e w4 ⟨rfl,hb4⟩;have hbw4:=Lib.hid (hbw.out.trans (hb4.mono hz));clear hb4 hbw hCT;go_wp2;go_roundw
      case rel=>exact⟨D,k+1,rfl,by go_num,by omega,Hn,hmM,hbw4⟩
      case measure=>simp only[intOf];omega
  . obtain rfl:k=L.length:=by omega
    have hD':=hD.out;rw[List.drop_length]at hD';simp only[Ez]at hD';obtain rfl:D=M:=by omega
    have hc:(D:Int)+1=((1+D:Nat):Int):=by omega
    have Hc:=Lib.hid hc;clear hD hD' hc;go_wp2;go_ret;exact⟨by rw[<-Hc.out];rfl,HB2.out.trans (hbw.out.mono HB2.out.size)⟩
theorem Abe: ∀v,Acj v:=by
 refine Val.ind ?_;intro k b n t l o IHl IHo;refine Aeb _ (fun x hx=> ?_);simp only[within]at hx
 split at hx
 . exact IHl x hx
 split at hx
 . obtain⟨m,hm,rfl⟩:=List.mem_map.1 hx;exact IHo m hm
 . cases hx
def Jf:ByteArray:=⟨#[]⟩
def P7:Val:=.mk 1 false 0 Jf [] []
def Kp (b:Bool):Val:=.mk 2 b 0 Jf [] []
def Sw (n:Int):Val:=.mk 3 false n Jf [] []
def Ah5 (l:List UInt8):Val:=.mk 4 false 0 ⟨l.toArray⟩ [] []
def Vd (l:List Val):Val:=.mk 5 false 0 Jf l []
def Sz (o:List (ByteArray×Val)):Val:=.mk 6 false 0 Jf [] o
def Rd.map {α β:Type} (g:α->β):Rd α->Rd β
 | .ok a q=> .ok (g a) q
 | .bad e q=> .bad e q
def Du (s:List UInt8) (p:Nat) (w:List UInt8) (v:Val):Rd Val:=if w.isPrefixOf (s.drop p)=true then .ok v (p+w.length)else .bad 4 p
def Kf (l:List (ByteArray×Val)):List (ByteArray×Val):=(Bg l []).getD []
def Ji (k:ByteArray) (l:List (ByteArray×Val)):Bool:=l.any fun m=>decide (m.1=k)
def Fs (c:UInt8):Bool:=Dj c||c==45||c==34||c==91||c==123||c==110||c==116||c==102
mutual
def Bq:Nat->List UInt8->Nat->Int->Rd Val
 |0,s,p,_=> .bad 4 (Ar s p)
 |f+1,s,p,d=>match s[Ar s p]? with
  |none=> .bad 4 (Ar s p)
  |some c=>
   if Fs c=false then .bad 4 (Ar s p)
   else if 64<d then .bad 5 (Ar s p)
   else if c=91 then Jm f s (Ar s p) d
   else if c=123 then Nu f s (Ar s p) d
   else if c=34 then(Di s (Ar s p)).map Ah5
   else if c=110 then Du s (Ar s p) [110,117,108,108] P7
   else if c=116 then Du s (Ar s p) [116,114,117,101] (Kp true)
   else if c=102 then Du s (Ar s p) [102,97,108,115,101] (Kp false)
   else(Ei s (Ar s p)).map Sw
def Jm:Nat->List UInt8->Nat->Int->Rd Val
 |0,s,p,_=> .bad 4 (Ar s (p+1))
 |f+1,s,p,d=>if s[Ar s (p+1)]? =some 93 then .ok (Vd []) (Ar s (p+1)+1)else Fe f s (Ar s (p+1)) d []
def Nu:Nat->List UInt8->Nat->Int->Rd Val
 |0,s,p,_=> .bad 4 (Ar s (p+1))
 |f+1,s,p,d=>if s[Ar s (p+1)]? =some 125 then .ok (Sz []) (Ar s (p+1)+1)else Dg f s (Ar s (p+1)) d []
def Fe:Nat->List UInt8->Nat->Int->List Val->Rd Val
 |0,s,p,_,_=> .bad 4 (Ar s p)
 |f+1,s,p,d,acc=>match Bq f s p (d+1)with
  | .bad e q=> .bad e q
  | .ok v q=>if s[Ar s q]? =some 44 then Fe f s (Ar s q+1) d (acc++ [v])else if s[Ar s q]? =some 93 then .ok (Vd (acc++ [v])) (Ar s q+1)else .bad 4 (Ar s q)
def Dg:Nat->List UInt8->Nat->Int->List (ByteArray×Val)->Rd Val
 |0,s,p,_,_=> .bad 4 (Ar s p)
 |f+1,s,p,d,acc=>match Di s (Ar s p)with
  | .bad e q=> .bad e q
  | .ok k q=>if Ji ⟨k.toArray⟩ acc=true then .bad 8 (Ar s p)
    else if s[Ar s q]? =some 58 then Fq f s (Ar s q+1) d acc ⟨k.toArray⟩
    else .bad 4 (Ar s q)
def Fq:Nat->List UInt8->Nat->Int->List (ByteArray×Val)->ByteArray->Rd Val
 |0,s,p,_,_,_=> .bad 4 (Ar s p)
 |f+1,s,p,d,acc,k=>match Bq f s p (d+1)with
  | .bad e q=> .bad e q
  | .ok v q=>if s[Ar s q]? =some 44 then Dg f s (Ar s q+1) d (acc++ [(k,v)])else if s[Ar s q]? =some 125 then .ok (Sz (Kf (acc++ [(k,v)]))) (Ar s q+1)else .bad 4 (Ar s q)
end
def Il (s:List UInt8):Rd Val:=match Bq (4*s.length+4) s 0 1 with
 | .bad e q=> .bad e q
 | .ok v q=>if Ar s q<s.length then .bad 4 (Ar s q)else .ok v (Ar s q)
theorem Rd.within.from {α:Type} {p p' n:Nat} {r:Rd α} (h:r.within p' n) (hp:p<=p'):r.within p n:=by
 cases r with
 |ok a q=>exact⟨by have:=h.1;omega,h.2⟩
 |bad e q=>exact⟨by have:=h.1;omega,h.2⟩
theorem Rd.within.map {α β:Type} {g:α->β} {p n:Nat} {r:Rd α} (h:r.within p n):(r.map g).within p n:=by
 cases r<;>exact h
theorem K5 {s:List UInt8} {p:Nat} (h:p<s.length) {w:List UInt8} (hw:w≠ []) (v:Val):(Du s p w v).within p s.length:=by
 unfold Du
 split
 . rename_i hp;have hp':=(List.isPrefixOf_iff_prefix.1 hp).length_le;rw[List.length_drop]at hp';have:0<w.length:=List.length_pos_iff.2 hw;exact⟨by omega,by omega⟩
 . exact⟨Nat.le_refl _,by omega,by decide,by decide⟩
theorem Ef {α:Type} {s:List UInt8} {p:Nat} (h:p<=s.length) (e:Int) (h1:1<=e) (h2:e<=18):(Rd.bad e (Ar s p):Rd α).within p s.length:=⟨B6 s p,E6 h,h1,h2⟩
theorem Eb: ∀(f:Nat),(∀s p d,p<=s.length->(Bq f s p d).within p s.length)/\(∀s p d,p<s.length->(Jm f s p d).within p s.length)/\(∀s p d,p<s.length->(Nu f s p d).within p s.length)/\
 (∀s p d acc,p<=s.length->(Fe f s p d acc).within p s.length)/\(∀s p d acc,p<=s.length->(Dg f s p d acc).within p s.length)/\(∀s p d acc k,p<=s.length->(Fq f s p d acc k).within p s.length):=by
 intro f
 induction f with
 |zero=>
  refine⟨fun s p d h=> ?_,fun s p d h=> ?_,fun s p d h=> ?_,fun s p d acc h=> ?_,fun s p d acc h=> ?_,fun s p d acc k h=> ?_⟩
  . unfold Bq;exact Ef h _ (by decide) (by decide)
  . unfold Jm;exact(Ef (p:=p+1) h _ (by decide) (by decide)).from (by omega)
  . unfold Nu;exact(Ef (p:=p+1) h _ (by decide) (by decide)).from (by omega)
  . unfold Fe;exact Ef h _ (by decide) (by decide)
  . unfold Dg;exact Ef h _ (by decide) (by decide)
  . unfold Fq;exact Ef h _ (by decide) (by decide)
 |succ f ih=>
  obtain⟨iv,il,io,ii,im,ik⟩:=ih;refine⟨fun s p d h=> ?_,fun s p d h=> ?_,fun s p d h=> ?_,fun s p d acc h=> ?_,fun s p d acc h=> ?_,fun s p d acc k h=> ?_⟩
  . unfold Bq;have hp:=E6 h;have hg:=B6 s p
    cases hc:s[Ar s p]? with
    |none=>exact Ef h _ (by decide) (by decide)
    |some c=>
     have hl:=De hc;simp only
     split
     . exact Ef h _ (by decide) (by decide)
     split
     . exact Ef h _ (by decide) (by decide)
     split
     . exact(il s _ d hl).from hg
     split
     . exact(io s _ d hl).from hg
     split
     . exact((Ex hp).map).from hg
     split
     . exact(K5 hl (by simp) _).from hg
     split
     . exact(K5 hl (by simp) _).from hg
     split
     . exact(K5 hl (by simp) _).from hg
     . exact((Me hl).map).from hg
  . unfold Jm;have hp:=E6 (s:=s) (p:=p+1) h;have hg:=B6 s (p+1)
    split
    . rename_i hc;exact⟨by omega,by have:=De hc;omega⟩
    . exact(ii s _ d [] hp).from (by omega)
  . unfold Nu;have hp:=E6 (s:=s) (p:=p+1) h;have hg:=B6 s (p+1)
    split
    . rename_i hc;exact⟨by omega,by have:=De hc;omega⟩
    . exact(im s _ d [] hp).from (by omega)
  . unfold Fe;have hv:=iv s p (d+1) h
    cases hr:Bq f s p (d+1)with
    |bad e q=>rw[hr]at hv;exact hv
    |ok v q=>
     rw[hr]at hv;obtain⟨h1,h2⟩:=hv;have hp:=E6 h2;have hg:=B6 s q;simp only
     split
     . rename_i hc;exact(ii s _ d _ (De hc)).from (by omega)
     split
     . rename_i hc;exact⟨by omega,De hc⟩
     . exact(Ef h2 _ (by decide) (by decide)).from (by omega)
  . unfold Dg;have hp0:=E6 h;have hg0:=B6 s p;have hv:=Ex hp0
    cases hr:Di s (Ar s p)with
    |bad e q=>rw[hr]at hv;exact hv.from hg0
    |ok k q=>
     rw[hr]at hv;obtain⟨h1,h2⟩:=hv;have hp:=E6 h2;have hg:=B6 s q;simp only
     split
     . exact Ef h _ (by decide) (by decide)
     split
     . rename_i hc;exact(ik s _ d _ _ (De hc)).from (by omega)
     . exact(Ef h2 _ (by decide) (by decide)).from (by omega)
  . unfold Fq;have hv:=iv s p (d+1) h
    cases hr:Bq f s p (d+1)with
    |bad e q=>rw[hr]at hv;exact hv
    |ok v q=>
     rw[hr]at hv;obtain⟨h1,h2⟩:=hv;have hp:=E6 h2;have hg:=B6 s q;simp only
     split
     . rename_i hc;exact(im s _ d _ (De hc)).from (by omega)
     split
     . rename_i hc;exact⟨by omega,De hc⟩
     . exact(Ef h2 _ (by decide) (by decide)).from (by omega)
end Go.Proofs.YtackmnbpfbaemaaGreatDoor
