/- Parts: Why a value may not be: the reference's function, over an object's members. Condition: a bulk of at most 10^9. -/
import Derived.Lib.ItoaLen
import Derived.Test.YtobmaegpfbheoaaGreatDoorKPf7
import Derived.Test.YtobmaegpfbheoaaGreatDoorKPf10
set_option maxHeartbeats 20000000
namespace Go.Proofs.YtobmaegpfbheoaaGreatDoor
open Go Go.RowKit
abbrev Af:Array Value:= #[.int .i64 0,.bool false,.int .i64 0,.string ⟨#[]⟩,.slice none 0 0,.slice none 0 0]
theorem I8 {B:Nat} {w4:World} {k:Int} {b:Bool} {n:Int} {t:ByteArray} {l:List Val} {o:List (ByteArray×Val)} {cs:List Value} (h:Ax B w4 (dV (.mk k b n t l o)) cs): ∃la lc oa oc,cs= [.int .i64 k,.bool b,.int .i64 n,.string t,.slice la l.length lc,.slice oa o.length oc]:=by
 have h1:=Cr _ _ h.now;simp only[Ab]at h1;obtain⟨la,lc,oa,oc,e,_,_⟩:=h1;exact⟨la,lc,oa,oc,e⟩
theorem B0 {w:World} {g:Nat} {t:TypeId} {a0 a1 a2 a3 a4 a5:Value} (h:Aj w g t #[a0,a1,a2,a3,a4,a5]):
 w.cell? ⟨g,0,none⟩=some a0/\w.cell? ⟨g,1,none⟩=some a1/\w.cell? ⟨g,2,none⟩=some a2/\w.cell? ⟨g,3,none⟩=some a3/\w.cell? ⟨g,4,none⟩=some a4/\w.cell? ⟨g,5,none⟩=some a5:=
 ⟨h.cell 0,h.cell 1,h.cell 2,h.cell 3,h.cell 4,h.cell 5⟩
theorem Ct {B:Nat} {w:World} {key:ByteArray} {v:Val} {cs:List Value} (h:Ax B w (dV v) cs):Ax B w (dP (key,v)) (.string key::cs):=fun w'' h1 h2=>⟨[.string key],cs,rfl,⟨rfl,rfl⟩,cs, [],by simp,h w'' h1 h2,rfl⟩
theorem Tb:(Tryz.prog.info? 74).map (fun i=>(i.zero,i.size,i.bytes))=some (some (.agg #[.string ⟨#[]⟩,.int .i64 0,.bool false,.int .i64 0,.string ⟨#[]⟩,.slice none 0 0,.slice none 0 0]),7,104):=by kernel_rfl
theorem Au {fn:Func} {t:Tmp} {tmps:Array Value} {W:World} {R:Nat} {a0 a1 a2 a3 a4 a5:Value} (h:fn.results= #[.cell t 42]) (hp:tmps.getD t undef=.pointer (some ⟨R,0,none⟩)) (hx:Aj W R 42 #[a0,a1,a2,a3,a4,a5]):
 (results fn tmps).run Tryz.prog W=.ok (.agg #[a0,a1,a2,a3,a4,a5]) W:=by
 obtain⟨c0,c1,c2,c3,c4,c5⟩:=B0 hx;clear hx;have hp':tmps[t]?.getD undef=.pointer (some ⟨R,0,none⟩):=by simpa using hp
 simp[results,h,hp',go_sem,c0,c1,c2,c3,c4,c5]
theorem C1.slice_n {b:Nat} {t:TypeId} {s n:Nat} {wr:World} {l:List D} {V:Value} (h:C1 b t s wr l V) (hn:l.length=n): ∃a c,V=.slice a n c:=by
 subst hn;exact h.slice
theorem Fr {w w6:World} {R b:Nat} {t e:TypeId} {sz:Nat} {l:List D} {V:Value} {cs:Array Value} {wr:World} (h:Aj w R t cs) (hg:w.grownBy w6 V.ownBlock) (hr:C1 b e sz wr l V) (hR:R<b):Aj w6 R t cs:=
 h.grown hg fun e=>by have:=(hr.base R e.symm).1;omega
theorem Iq {w w6:World} {B b:Nat} {e:TypeId} {sz:Nat} {l:List D} {V:Value} {w0 wr:World} (h:Below B w0 w) (hg:w.grownBy w6 V.ownBlock) (hr:C1 b e sz wr l V) (hB:B<=b) (hBw:B<=w.heap.size):Below B w0 w6:=
 h.grown hg hBw fun k hk=>Nat.le_trans hB (hr.base k hk).1
theorem Mj (w:World) (a0 a1 a2 a3 a4 a5 a6:Value):Bc (w.alloc (.cells #[a0,a1,a2,a3,a4,a5,a6] 74)) (w.heap.size+1) 7 (some ⟨w.heap.size,0,none⟩) 1 [a0,a1,a2,a3,a4,a5,a6]:=Lv (Aj.new w 74 #[a0,a1,a2,a3,a4,a5,a6])
theorem Kz:(Tryz.prog.info? 42).map (fun i=>(i.zero,i.size,i.bytes))=some (some (.agg #[.int .i64 0,.bool false,.int .i64 0,.string ⟨#[]⟩,.slice none 0 0,.slice none 0 0]),6,88):=by kernel_rfl
theorem Fx (w:World) (a0 a1 a2 a3 a4 a5:Value):Bc (w.alloc (.cells #[a0,a1,a2,a3,a4,a5] 42)) (w.heap.size+1) 6 (some ⟨w.heap.size,0,none⟩) 1 [a0,a1,a2,a3,a4,a5]:=Lv (Aj.new w 42 #[a0,a1,a2,a3,a4,a5])
theorem G7 {fn:Func} {t u:Tmp} {tmps:Array Value} {W:World} {R:Nat} {a0 a1 a2 a3 a4 a5:Value} (h:fn.results= #[.cell t 42,.tmp u]) (hp:tmps.getD t undef=.pointer (some ⟨R,0,none⟩)) (hx:Aj W R 42 #[a0,a1,a2,a3,a4,a5]):
 (results fn tmps).run Tryz.prog W=.ok (.tuple #[.agg #[a0,a1,a2,a3,a4,a5],tmps.getD u undef]) W:=by
 obtain⟨c0,c1,c2,c3,c4,c5⟩:=B0 hx;clear hx;have hp':tmps[t]?.getD undef=.pointer (some ⟨R,0,none⟩):=by simpa using hp
 simp[results,h,hp',go_sem,c0,c1,c2,c3,c4,c5]
theorem Jq: ∀(n m:Nat) (l:List UInt8),l.length<=n->l.length<=m->Lib.validGoD n l=Lib.validGoD m l
 |0,m,l,hn,hm=>by
  obtain rfl:l= []:=List.eq_nil_of_length_eq_zero (by omega)
  cases m<;>simp[Lib.validGoD]
 |n+1,0,l,hn,hm=>by
  obtain rfl:l= []:=List.eq_nil_of_length_eq_zero (by omega);simp[Lib.validGoD]
 |n+1,m+1,l,hn,hm=>by
  simp only[Lib.validGoD];by_cases h:l= []
  . simp[h]
  . rw[if_neg h,if_neg h]
    split
    . rfl
    . have hw:=Lib.decodeL_width l;have hl:0<l.length:=List.length_pos_iff.2 h;exact Jq n m _ (by rw[List.length_drop];omega) (by rw[List.length_drop];omega)
theorem T5 {l:List UInt8} (h:l≠ []):Lib.validD l=if(Lib.decodeL l).1=65533/\(Lib.decodeL l).2=1 then false else Lib.validD (l.drop (Lib.decodeL l).2):=by
 have hw:=Lib.decodeL_width l;have hl:0<l.length:=List.length_pos_iff.2 h;unfold Lib.validD;obtain⟨n,hn⟩: ∃n,l.length=n+1:=⟨l.length - 1,by omega⟩;rw[hn];simp only[Lib.validGoD];rw[if_neg h]
 split
 . rfl
 . exact Jq _ _ _ (by rw[List.length_drop];omega) (Nat.le_refl _)
theorem Yj {l:List UInt8} (h:l≠ []):((Ea l).2=0/\Lib.validD l=false)\/(∃n:Nat,(Ea l).2=(n:Int)/\1<=n/\n<=l.length/\Lib.validD l=Lib.validD (l.drop n)):=by
 have hg:=Nc l h;unfold F0 at hg;rw[T5 h];by_cases hb:(Lib.decodeL l).1=65533/\(Lib.decodeL l).2=1
 . rw[if_pos hb]at hg ⊢;rw[hg];exact .inl ⟨rfl,rfl⟩
 . rw[if_neg hb]at hg ⊢;rw[hg];have hw:=Lib.decodeL_width l;exact .inr ⟨(Lib.decodeL l).2,rfl,hw,Lib.decodeL_le l h,rfl⟩
theorem J4 (s:ByteArray) (w:World) (hs:s.size<=1000000000):
 Calls Tryz.prog 111 #[.string s] w fun e w'=>e=.returned (.bool (Al s))/\w=w':=by
 obtain⟨V,hV⟩: ∃V,Al s=V:=⟨_,rfl⟩;rw[hV];have H0:=qz hV;clear hV;go_enter Tryz.func111,Tryz.ntmps111;go_wp2
 go_loop [3] (fun i=> ∃k:Nat,k<=s.size/\i=.int .i64 k/\Hid (Lib.validD (s.data.toList.drop k)=V)) (fun i=>s.size - (intOf i).toNat)
 case atStart=>exact⟨0,Nat.zero_le _,rfl,H0⟩
 case round=>
  obtain⟨k,hk,rfl,hf⟩:=hrel;clear H0;by_cases hlt:k<s.size
  . have hne:s.data.toList.drop k≠ []:=by
     intro e;have:=congrArg List.length e;rw[List.length_drop,<-Lib.size_eq]at this;simp at this;omega
    have hA:=Rs s k w (by omega) (by omega);rcases Yj hne with⟨h0,hv⟩|⟨n,hn,hn1,hn2,hv⟩
    . have hf':=hf.out;rw[hv]at hf';subst hf';rw[h0]at hA;generalize (Ea (s.data.toList.drop k)).1=R at hA;have HA:=qz hA;clear hA h0 hv hne hf;go_wp2_with (go_at_call 158;refine(HA.out).mono ?_;rintro e w' ⟨rfl,rfl⟩);go_ret;exact⟨rfl,rfl⟩
    . have hf':=hf.out;rw[hv,List.drop_drop]at hf';have Hf:=qz hf';rw[hn]at hA;rw[List.length_drop,<-Lib.size_eq]at hn2;generalize (Ea (s.data.toList.drop k)).1=R at hA;have HA:=qz hA;clear hA hn hv hne hf hf';have e0:((n:Int)==0)=false:=by simp;omega
      go_wp2_with (go_at_call 158;refine(HA.out).mono ?_;rintro e w' ⟨rfl,rfl⟩)
      go_round
      case rel=>exact⟨k+n,by omega,by go_num,Hf⟩
      case measure=>simp[intOf];omega
  . obtain rfl:k=s.size:=by omega
    have hf':=hf.out;rw[List.drop_eq_nil_of_le (by rw[<-Lib.size_eq];omega)]at hf';have:V=true:=by rw[<-hf'];rfl
    subst this;clear hf hf';go_wp2;go_ret;exact⟨rfl,rfl⟩
theorem Ii {l:List UInt8} (h:l≠ []) (f p:Nat):
 ((Ea l).2=0/\A7 (f+1) l p= [])\/(∃n r:Nat,Ea l=((r:Int),(n:Int))/\1<=n/\n<=l.length/\A7 (f+1) l p=(p,r)::A7 f (l.drop n) (p+n)):=by
 have hg:=Nc l h;unfold F0 at hg;by_cases hb:(Lib.decodeL l).1=65533/\(Lib.decodeL l).2=1
 . rw[if_pos hb]at hg;rw[hg];refine .inl ⟨rfl, ?_⟩;simp only[A7];rw[if_neg h,if_pos hb]
 . rw[if_neg hb]at hg;have hw:=Lib.decodeL_width l;refine .inr ⟨(Lib.decodeL l).2,(Lib.decodeL l).1,hg,hw,Lib.decodeL_le l h, ?_⟩;simp only[A7];rw[if_neg h,if_neg hb]
def G5 (v1 v2:Value):Prop:= ∀g,v1.ownBlock=some g->v2.ownBlock≠some g
theorem G5.ne {v1 v2:Value} (h:G5 v1 v2):v1.ownBlock=none\/v1.ownBlock≠v2.ownBlock:=by
 cases e:v1.ownBlock with
 |none=>exact .inl rfl
 |some g=>exact .inr fun e'=>h g e (by rw[<-e'])
theorem G5.symm {v1 v2:Value} (h:G5 v1 v2):G5 v2 v1:=fun g e e'=>h g e' e
theorem G5.step {v1 v1' v2:Value} {w:World} {B n N:Nat} {e:TypeId} {size:Nat} {xs:List Value} (h:G5 v1 v2) (h2:w.ownsRow B e size v2 n xs) (h4:v1'.ownBlock=v1.ownBlock\/v1'.ownBlock=some N) (hN:w.heap.size<=N):G5 v1' v2:=by
 intro g e1 e2;rcases h4 with h4|h4
 . exact h g (by rw[<-h4];exact e1) e2
 . rw[h4]at e1;obtain rfl:=Option.some.inj e1;have:=(h2.lt _ e2).2;omega
theorem Zj:(Tryz.prog.info? 3).map (fun i=>(i.zero,i.size,i.bytes))=some (some (.int .i64 0),1,8):=by kernel_rfl
set_option maxRecDepth 20000 in
theorem Qn (s:ByteArray) (w:World) (hs:s.size<=1000000000):
 Calls Tryz.prog 112 #[.string s] w fun e w'=>(∃v1 v2,e=.returned (.tuple #[v1,v2])/\w'.ownsRow w.heap.size 3 1 v1 (D7 s).length ((D7 s).map fun x=>Value.int .i64 x.2))/\Below w.heap.size w w':=by
 obtain⟨i0,hi,hz0,hz1,hz2⟩:=info_parts Zj;obtain⟨HI,HZ0,HZ1,HZ2⟩:=hid4 hi hz0 hz1 hz2;clear hi hz0 hz1 hz2;have Hown0:Hid (w.ownsRow w.heap.size 3 1 (.slice none 0 0) 0 []):=World.ownsRow_nil _ _ _ _;have Hap0:Hid (G5 (.slice none 0 0) (.slice none 0 0)):=qz (fun g e=>by simp[Value.ownBlock]at e);go_enter Tryz.func112,Tryz.ntmps112;go_wp2;go_loopw [4,5,6] (fun v1 v2 i wr=> ∃(pre:List (Nat×Nat)) (f k:Nat),i=.int .i64 k/\k<=s.size/\s.size - k<=f/\Hid (D7 s=pre++A7 f (s.data.toList.drop k) k)/\pre.length<=k/\
  Hid (wr.ownsRow w.heap.size 3 1 v1 pre.length (pre.map fun x=>Value.int .i64 x.2))/\Hid (wr.ownsRow w.heap.size 3 1 v2 pre.length (pre.map fun x=>Value.int .i64 x.1))/\Hid (G5 v1 v2)/\Hid (Below w.heap.size w wr)) (fun _ _ i _=>s.size - (intOf i).toNat)
 case atStart=>exact⟨[],s.size,0,rfl,Nat.zero_le _,by omega,rfl,Nat.le_refl _,Hown0,Hown0,Hap0,Below.refl _ _⟩
 case round=>
  obtain⟨pre,f,k,rfl,hk,hf,hr,hpk,ho1,ho2,hap,hbw⟩:=hrel;clear Hown0 Hap0;by_cases hlt:k<s.size
  . have hne:s.data.toList.drop k≠ []:=by
     intro e;have:=congrArg List.length e;rw[List.length_drop,<-Lib.size_eq]at this;simp at this;omega
    obtain⟨f,rfl⟩: ∃f',f=f'+1:=⟨f - 1,by omega⟩;have hA:=Rs s k wr (by omega) (by omega);rcases Ii hne f k with⟨h0,hv⟩|⟨n,r,hn,hn1,hn2,hv⟩
    . have hr':=hr.out;rw[hv,List.append_nil]at hr';rw[h0]at hA;generalize (Ea (s.data.toList.drop k)).1=R at hA;obtain⟨HA,HR⟩:=hid2 hA hr';clear hA h0 hv hne hr hr';go_wp2_with (fail);(with_reducible refine HA.out.mono ?_);rintro e w' ⟨rfl,rfl⟩;clear HA;go_wp2;go_ret2;exact⟨⟨u4,u5,rfl,by rw[HR.out];exact ho1.out⟩,hbw.out⟩
    . have hr':=hr.out;rw[hv,List.drop_drop]at hr';rw[hn]at hA;rw[List.length_drop,<-Lib.size_eq]at hn2;obtain⟨HA,HR⟩:=hid2 hA hr';have hb1:w.heap.size<=wr.heap.size:=hbw.out.size;clear hA hn hv hne hr hr';have e0:((n:Int)==0)=false:=by simp;omega
      go_wp2_with (fail);(with_reducible refine HA.out.mono ?_);rintro e w' ⟨rfl,rfl⟩;clear HA;go_wp2_with (at_builtin;refine wpList_append_own_at _ rfl (.tmp 21) (.tmp 23) 167 rfl w.heap.size 3 i0 (.int .i64 0) 1 8 Tryz.underlying167 HI.out HZ0.out HZ1.out HZ2.out rfl (by decide) u4 pre.length _ rfl (ho1.out.alloc _) ⟨wr.heap.size,0,none⟩ 1 1 [.int .i64 r] rfl rfl ?c1 ?c2 ?c3 ?c4 ?c5 ?_)
      case c1=>
       intro j u hj
       match j,hj with
       |0,hj=>simp at hj;subst hj;simp[Addr.add]
      case c2=>intro u hu;simp at hu;subst hu;rfl
      case c3=>unfold maxLen;omega
      case c4=>omega
      case c5=>simp;omega
      intro v1' w2 hown1 hgrow1 _ hat1;have ho1':=qz hown1;have ho2':=qz ((ho2.out.alloc (.cells #[.int .i64 r] 3)).kept hgrow1 hap.out.symm.ne);have hap':=qz (G5.step hap.out ho2.out hat1 (by omega));have hbw2:=qz ((hbw.out.alloc hb1 (.cells #[.int .i64 r] 3)).grown hgrow1 (by simp;omega) (fun k hk=>(ho1.out.lt k hk).1));have hb2:w.heap.size<=w2.heap.size:=hbw2.out.size;clear hown1 hgrow1 hat1 ho1 ho2 hap hbw hb1;go_wp2_with (at_builtin;refine wpList_append_own_at _ rfl (.tmp 25) (.tmp 27) 167 rfl w.heap.size 3 i0 (.int .i64 0) 1 8 Tryz.underlying167 HI.out HZ0.out HZ1.out HZ2.out rfl (by decide) u5 pre.length _ rfl (ho2'.out.alloc _) ⟨w2.heap.size,0,none⟩ 1 1 [.int .i64 k] rfl rfl ?d1 ?d2 ?d3 ?d4 ?d5 ?_)
      case d1=>
       intro j u hj
       match j,hj with
       |0,hj=>simp at hj;subst hj;simp[Addr.add]
      case d2=>intro u hu;simp at hu;subst hu;rfl
      case d3=>unfold maxLen;omega
      case d4=>omega
      case d5=>simp;omega
      intro v2' w3 hown2 hgrow2 _ hat2;have ho2'':=qz hown2;have ho1'':=qz ((ho1'.out.alloc (.cells #[.int .i64 k] 3)).kept hgrow2 hap'.out.ne);have hap'':=qz (G5.step hap'.out.symm ho1'.out hat2 (by omega)).symm;have hbw3:=qz ((hbw2.out.alloc hb2 (.cells #[.int .i64 k] 3)).grown hgrow2 (by simp;omega) (fun k hk=>(ho2'.out.lt k hk).1));clear hown2 hgrow2 hat2 ho1' ho2' hap' hbw2 hb2;go_wp2;go_roundw
      case rel=>exact⟨pre++ [(k,r)],f,k+n,by go_num,by omega,by omega,qz (by rw[List.append_assoc];exact HR.out),by simp;omega,qz (by rw[List.length_append,List.map_append];exact ho1''.out),qz (by rw[List.length_append,List.map_append];exact ho2''.out),hap'',hbw3⟩
      case measure=>simp only[intOf];omega
  . obtain rfl:k=s.size:=by omega
    have hr':=hr.out;have e:A7 f (s.data.toList.drop s.size) s.size= []:=by
     rw[List.drop_eq_nil_of_le (by rw[<-Lib.size_eq];omega)]
     cases f<;>simp[A7]
    rw[e,List.append_nil]at hr';have HR:=qz hr';clear hr hr' e;go_wp2;go_ret2;exact⟨⟨u4,u5,rfl,by rw[HR.out];exact ho1.out⟩,hbw.out⟩
theorem Aa3 {z:Int} (h0:0<=z) (h1:z<256):((z.toNat.toUInt8).toNat:Int)=z:=by
 have:z.toNat<256:=by omega
 simp[Nat.toUInt8,UInt8.toNat_ofNat',Nat.mod_eq_of_lt this];omega
theorem I7 (w:World) (zs:List Int) (hz: ∀z ∈ zs,0<=z/\z<256) (t:TypeId):
 (convert 26 9 (.slice (some ⟨w.heap.size,0,none⟩) zs.length zs.length)).run Tryz.prog (w.alloc (.cells (zs.map (Value.int .u8)).toArray t))=.ok (.string ⟨(zs.map fun z=>z.toNat.toUInt8).toArray⟩) (w.alloc (.cells (zs.map (Value.int .u8)).toArray t)):=by
 have:=run_convert_bytes_back (P:=Tryz.prog) (w.alloc (.cells (zs.map (Value.int .u8)).toArray t)) 26 9 5 ⟨w.heap.size,0,none⟩ zs.length (zs.map fun z=>z.toNat.toUInt8) Tryz.underlying26 Tryz.underlying5 Tryz.underlying9 (by
  intro j hj;rw[List.length_map]at hj;have hh:(w.alloc (.cells (zs.map (Value.int .u8)).toArray t)).heap[w.heap.size]? =some (.cells (zs.map (Value.int .u8)).toArray t (0,0)):=heap_alloc_new _ _;rw[show(⟨w.heap.size,0,none⟩:Addr).add j=⟨w.heap.size,j,none⟩from by unfold Addr.add;split<;>simp_all];rw[Lib.cell_of_heap hh];simp only[List.getElem?_toArray,List.getElem?_map,List.getElem?_eq_getElem hj,Option.map_some,List.getElem_map];rw[Aa3 (hz _ (List.getElem_mem hj)).1 (hz _ (List.getElem_mem hj)).2])
 rwa [List.length_map]at this
set_option maxRecDepth 20000 in
theorem Qm (r:Int) (h0:0<=r) (h1:r<=1114111) (hs: ¬(55296<=r/\r<57344)) (w:World):
 Calls Tryz.prog 114 #[.int .i64 r] w fun e w'=>e=.returned (.string ⟨(Lib.encodeRune r).toArray⟩)/\Below w.heap.size w w':=by
 by_cases c1:r<128
 . have e:Lib.encodeRune r= [r].map fun z=>z.toNat.toUInt8:=by unfold Lib.encodeRune;rw[Lib.encodeRuneZ_one h0 (by omega)]
   have hB:=I7 w [r] (by intro z hz;simp at hz;omega) 5;rw[e];simp only[List.map_cons,List.map_nil,List.length_cons,List.length_nil]at hB ⊢;go_enter Tryz.func114,Tryz.ntmps114;go_wp2;go_ret;exact⟨rfl,(Below.refl _ _).alloc (Nat.le_refl _) _⟩
 by_cases c2:r<2048
 . have e:Lib.encodeRune r= [192+r / 64,128+r % 64].map fun z=>z.toNat.toUInt8:=by unfold Lib.encodeRune;rw[Lib.encodeRuneZ_two (by omega) (by omega)]
   have hB:=I7 w [192+r / 64,128+r % 64] (by intro z hz;simp at hz;omega) 5;rw[e];have b1:0<=r / 64:=by omega
   have b2:r / 64<32:=by omega
   have b3:0<=r % 64:=by omega
   have b4:r % 64<64:=by omega
   simp only[List.map_cons,List.map_nil,List.length_cons,List.length_nil]at hB ⊢;obtain⟨z1,hz1⟩: ∃z,192+r / 64=z:=⟨_,rfl⟩;obtain⟨z2,hz2⟩: ∃z,128+r % 64=z:=⟨_,rfl⟩;have d1:0<=z1/\z1<256:=by omega
   have d2:0<=z2/\z2<256:=by omega
   rw[hz1,hz2]at hB ⊢;go_enter Tryz.func114,Tryz.ntmps114;go_wp2;go_ret;exact⟨rfl,(Below.refl _ _).alloc (Nat.le_refl _) _⟩
 by_cases c3:r<65536
 . have e:Lib.encodeRune r= [224+r / 4096,128+r / 64 % 64,128+r % 64].map fun z=>z.toNat.toUInt8:=by unfold Lib.encodeRune;rw[Lib.encodeRuneZ_three (by omega)]
   have hB:=I7 w [224+r / 4096,128+r / 64 % 64,128+r % 64] (by intro z hz;simp at hz;omega) 5;rw[e];have b1:0<=r / 4096:=by omega
   have b2:r / 4096<16:=by omega
   have b3:0<=r % 64:=by omega
   have b4:r % 64<64:=by omega
   have b5:0<=r / 64:=by omega
   have b6:0<=r / 64 % 64:=by omega
   have b7:r / 64 % 64<64:=by omega
   simp only[List.map_cons,List.map_nil,List.length_cons,List.length_nil]at hB ⊢;obtain⟨z1,hz1⟩: ∃z,224+r / 4096=z:=⟨_,rfl⟩;obtain⟨z2,hz2⟩: ∃z,128+r / 64 % 64=z:=⟨_,rfl⟩;obtain⟨z3,hz3⟩: ∃z,128+r % 64=z:=⟨_,rfl⟩;have d1:0<=z1/\z1<256:=by omega
   have d2:0<=z2/\z2<256:=by omega
   have d3:0<=z3/\z3<256:=by omega
   rw[hz1,hz2,hz3]at hB ⊢;go_enter Tryz.func114,Tryz.ntmps114;go_wp2;go_ret;exact⟨rfl,(Below.refl _ _).alloc (Nat.le_refl _) _⟩
 . have e:Lib.encodeRune r= [240+r / 262144,128+r / 4096 % 64,128+r / 64 % 64,128+r % 64].map fun z=>z.toNat.toUInt8:=by unfold Lib.encodeRune;rw[Lib.encodeRuneZ_four (by omega) (by omega)]
   have hB:=I7 w [240+r / 262144,128+r / 4096 % 64,128+r / 64 % 64,128+r % 64] (by intro z hz;simp at hz;omega) 5;rw[e];have b1:0<=r / 262144:=by omega
   have b2:r / 262144<8:=by omega
   have b3:0<=r % 64:=by omega
   have b4:r % 64<64:=by omega
   have b5:0<=r / 64:=by omega
   have b6:0<=r / 64 % 64:=by omega
   have b7:r / 64 % 64<64:=by omega
   have b8:0<=r / 4096:=by omega
   have b9:0<=r / 4096 % 64:=by omega
   have b10:r / 4096 % 64<64:=by omega
   simp only[List.map_cons,List.map_nil,List.length_cons,List.length_nil]at hB ⊢;obtain⟨z0,hz0⟩: ∃z,240+r / 262144=z:=⟨_,rfl⟩;obtain⟨z1,hz1⟩: ∃z,128+r / 4096 % 64=z:=⟨_,rfl⟩;obtain⟨z2,hz2⟩: ∃z,128+r / 64 % 64=z:=⟨_,rfl⟩;obtain⟨z3,hz3⟩: ∃z,128+r % 64=z:=⟨_,rfl⟩;have d0:0<=z0/\z0<256:=by omega
   have d1:0<=z1/\z1<256:=by omega
   have d2:0<=z2/\z2<256:=by omega
   have d3:0<=z3/\z3<256:=by omega
   rw[hz0,hz1,hz2,hz3]at hB ⊢;go_enter Tryz.func114,Tryz.ntmps114;go_wp2;go_ret;exact⟨rfl,(Below.refl _ _).alloc (Nat.le_refl _) _⟩
def dgt (d:Nat):UInt8:=UInt8.ofNat (48+d)
def Fs (u:Nat):List UInt8:=if _h:u=0 then []else Fs (u / 10)++ [dgt (u % 10)]
termination_by u
decreasing_by omega
theorem Iw:Fs 0= []:=by rw[Fs,dif_pos rfl]
theorem No {u:Nat} (h:u≠0):Fs u=Fs (u / 10)++ [dgt (u % 10)]:=by rw[Fs,dif_neg h]
theorem Nn (u:Nat):u≠0->Fs u=Lib.decDigits u:=by
 induction u using Nat.strongRecOn with
 |_ u ih=>
  intro h;rw[No h,Lib.decDigits];unfold dgt;by_cases h10:u<10
  . rw[dif_pos h10,show u / 10=0 from by omega,Iw,show u % 10=u from by omega,List.nil_append]
  . rw[dif_neg h10,ih (u / 10) (by omega) (by omega)]
theorem Sl {u:Nat} (h:(u:Int)<=9223372036854775808):(Fs u).length<=30:=by
 by_cases h0:u=0
 . subst h0;rw[Iw];simp
 . rw[Nn u h0,Lib.decDigits_length];exact Nat.le_trans (Lib.nDigits_le20 u (by omega)) (by omega)
theorem Rg (S:ByteArray) (d e:Nat) (hd:d<=e) (he:e<=S.size) (w:World):(Instr.slice 9 (.string S) (some (.int .i64 d)) (some (.int .i64 e)) none).run Tryz.prog w=.ok (.string (S.extract d e)) w:=by
 simp[Instr.slice,run_underlying Tryz.underlying9,Instr.sliceBounds,go_sem,hd,he]
theorem Zb: ∀d:Fin 10,(⟨#[48,49,50,51,52,53,54,55,56,57]⟩:ByteArray).extract d.val (d.val+1)=⟨#[dgt d.val]⟩:=by decide
theorem Qd (d:Nat) (hd:d<10) (w:World):(Instr.slice 9 (.string ⟨#[48,49,50,51,52,53,54,55,56,57]⟩) (some (.int .i64 d)) (some (.int .i64 ((d:Int)+1))) none).run Tryz.prog w=.ok (.string ⟨#[dgt d]⟩) w:=by
 have:=Rg ⟨#[48,49,50,51,52,53,54,55,56,57]⟩ d (d+1) (by omega) (by show d+1<=10;omega) w;rw[Zb ⟨d,hd⟩]at this;exact this
set_option maxRecDepth 20000 in
theorem Vf (a:Nat) (ha:a≠0) (hm:(a:Int)<=9223372036854775807) (w:World):
 Calls Tryz.prog 60 #[.int .i64 a] w fun e w'=>e=.returned (.string ⟨(Lib.itoa a).toArray⟩)/\w=w':=by
 have hi:Lib.itoa a=Fs a:=by
  rw[Nn a ha,Lib.itoa,if_neg (by omega)];simp
 rw[hi];have hl:=Sl (u:=a) (by omega);have H0:Hid (Fs a++(⟨#[]⟩:ByteArray).data.toList=Fs a):=by show _=_;simp
 clear hi;go_enter Tryz.func60,Tryz.ntmps60;have ha1:((a:Int)==0)=false:=by simp;omega
 go_wp2
 go_loop [3,4] (fun s m=> ∃(T:ByteArray) (u:Nat),s=.string T/\m=.int .i64 u/\u<=a/\Hid (Fs u++T.data.toList=Fs a)) (fun _ m=>(intOf m).toNat)
 case atStart=>exact⟨_,a,rfl,rfl,Nat.le_refl _,H0⟩
 case round=>
  obtain⟨T,u,rfl,rfl,hu,hT⟩:=hrel;clear H0;have hTs:T.size<=30:=by
   have h1:=congrArg List.length hT.out;rw[List.length_append]at h1;have h2:T.data.toList.length=T.size:=by rw[Array.length_toList];rfl
   omega
  by_cases hu0:u=0
  . subst hu0;have hT':=hT.out;rw[Iw,List.nil_append]at hT';have HE:=qz (show(⟨(Fs a).toArray⟩:ByteArray)=T from by rw[<-hT']);clear hT hT' ha1 hl;have h0:((a:Int)<0)=False:=by simp
    go_wp2;go_ret;exact⟨by rw[HE.out];rfl,rfl⟩
  . have hu1:((u:Int)==0)=false:=by simp;omega
    have hT':Hid (Fs (u / 10)++((⟨#[dgt (u % 10)]⟩:ByteArray)++T).data.toList=Fs a):=by
     have:=hT.out;rw[No hu0]at this;show _=_;rw[<-this,ByteArray.data_append,Array.toList_append];simp
    have hd:=Qd (u % 10) (by omega) w;have hm10:(u:Int) % 10=((u % 10:Nat):Int):=by omega
    have hq10:(u:Int) / 10=((u / 10:Nat):Int):=by omega
    have hlt:u % 10<10:=by omega
    have hqu:u / 10<u:=by omega
    generalize u % 10=d at*
    generalize u / 10=q at*
    have hdn:decide ((d:Int)<0)=false:=by simp
    clear hT ha1 hl;go_wp2
    go_round
    case rel=>exact⟨_,q,rfl,rfl,by omega,hT'⟩
    case measure=>simp[intOf];omega
set_option maxRecDepth 20000 in
theorem Ve (a:Nat) (ha:a≠0) (hm:(a:Int)<=9223372036854775808) (n:Int) (hn:n= -(a:Int)) (w:World):
 Calls Tryz.prog 60 #[.int .i64 n] w fun e w'=>e=.returned (.string ⟨(Lib.itoa n).toArray⟩)/\w=w':=by
 have hi:Lib.itoa n=45::Fs a:=by
  rw[Nn a ha,Lib.itoa,if_pos (by omega),hn];simp
 rw[hi];have hl:=Sl (u:=a) (by omega);have H0:Hid (Fs a++(⟨#[]⟩:ByteArray).data.toList=Fs a):=by show _=_;simp
 have Hn:=qz hn;have hn1:(n==0)=false:=by simp;omega
 have hn2:n<0:=by omega
 clear hi hn;go_enter Tryz.func60,Tryz.ntmps60;go_wp2
 go_loop [3,4] (fun s m=> ∃(T:ByteArray) (M:Int) (u:Nat),s=.string T/\m=.int .i64 M/\Hid (M= -(u:Int))/\u<=a/\Hid (Fs u++T.data.toList=Fs a)) (fun _ m=>(-(intOf m)).toNat)
 case atStart=>exact⟨_,n,a,rfl,rfl,Hn,Nat.le_refl _,H0⟩
 case round=>
  obtain⟨T,M,u,rfl,rfl,hM,hu,hT⟩:=hrel;clear H0;have hTs:T.size<=30:=by
   have h1:=congrArg List.length hT.out;rw[List.length_append]at h1;have h2:T.data.toList.length=T.size:=by rw[Array.length_toList];rfl
   omega
  have hMu:=hM.out;by_cases hu0:u=0
  . subst hu0;obtain rfl:M=0:=by simpa using hMu
    have hT':=hT.out;rw[Iw,List.nil_append]at hT';have hE:(⟨(45::Fs a).toArray⟩:ByteArray)=⟨#[45]⟩++T:=by
     apply ByteArray.ext;rw[ByteArray.data_append];apply Array.ext';rw[Array.toList_append,hT'];simp
    have HE:=qz hE;clear hT hT' hE hn1 hl hM hMu;go_wp2;go_ret;exact⟨by rw[HE.out];rfl,rfl⟩
  . have hT':Hid (Fs (u / 10)++((⟨#[dgt (u % 10)]⟩:ByteArray)++T).data.toList=Fs a):=by
     have:=hT.out;rw[No hu0]at this;show _=_;rw[<-this,ByteArray.data_append,Array.toList_append];simp
    have hM1:(M==0)=false:=by simp;omega
    have hM2: -9223372036854775808<=M:=by omega
    have hM3:M<0:=by omega
    have hd:=Qd (u % 10) (by omega) w;obtain⟨D,hD⟩: ∃D,M.tmod 10=D:=⟨_,rfl⟩;obtain⟨Q,hQ⟩: ∃Q,M.tdiv 10=Q:=⟨_,rfl⟩;have hD':D= -((u % 10:Nat):Int):=by
     rw[<-hD,hMu,Int.neg_tmod,Int.tmod_eq_emod_of_nonneg (by omega)];omega
    have hQ':Q= -((u / 10:Nat):Int):=by
     rw[<-hQ,hMu,Int.neg_tdiv,Int.tdiv_eq_ediv_of_nonneg (by omega)];omega
    have hlt:u % 10<10:=by omega
    have hqu:u / 10<u:=by omega
    generalize u % 10=d at*
    generalize u / 10=q at*
    have HQ:=qz hQ';have hMQ:M<Q:=by omega
    have hQ1: -9223372036854775808<=Q:=by omega
    have hQ2:Q<=0:=by omega
    have hQ3:Q<=9223372036854775807:=by omega
    by_cases hd0:d=0
    . subst hd0;obtain rfl:D=0:=by simpa using hD'
      have hd1:(Instr.slice 9 (.string ⟨#[48,49,50,51,52,53,54,55,56,57]⟩) (some (.int .i64 0)) (some (.int .i64 1)) none).run Tryz.prog w=.ok (.string ⟨#[dgt 0]⟩) w:=hd;clear hT hn1 hl hM hD' hQ' hMu hd;go_wp2
      go_round
      case rel=>exact⟨_,Q,q,rfl,rfl,HQ,by omega,hT'⟩
      case measure=>simp only[intOf];omega
    . have hDn:D<0:=by omega
      have hDb: -10<D:=by omega
      have hDd: -D=(d:Int):=by omega
      clear hT hn1 hl hM hD' hQ';clear hMu;go_wp2
      go_round
      case rel=>exact⟨_,Q,q,rfl,rfl,HQ,by omega,hT'⟩
      case measure=>simp only[intOf];omega
theorem Qw (n:Int) (h1: -9223372036854775808<=n) (h2:n<=9223372036854775807) (w:World):
 Calls Tryz.prog 60 #[.int .i64 n] w fun e w'=>e=.returned (.string ⟨(Lib.itoa n).toArray⟩)/\w=w':=by
 by_cases h0:n=0
 . subst h0;have e:(⟨(Lib.itoa 0).toArray⟩:ByteArray)=⟨#[48]⟩:=by
    have:Lib.itoa 0= [48]:=by
     rw[Lib.itoa,if_neg (by omega)];exact Lib.decDigits_one (i:=0) (by omega)
    rw[this]
   rw[e];go_enter Tryz.func60,Tryz.ntmps60;go_wp2;go_ret;exact⟨rfl,rfl⟩
 . rcases Int.lt_or_le n 0 with h|h
   . exact Ve n.natAbs (by omega) (by omega) n (by omega) w
   . have:=Vf n.toNat (by omega) (by omega) w
     rwa [show((n.toNat:Nat):Int)=n from by omega]at this
theorem Fg {k:Int} {b:Bool} {n:Int} {t:ByteArray} {la oa:Option Addr} {ln lc on oc:Nat} {B:Bool} (h:Ec k b n t ln on=B) (w:World):
 Calls Tryz.prog 209 #[.agg #[.int .i64 k,.bool b,.int .i64 n,.string t,.slice la ln lc,.slice oa on oc]] w fun e w'=>e=.returned (.bool (!B))/\Below w.heap.size w w':=by
 subst h;exact Ux _ _ _ _ _ _ _ _ _ _ _
theorem By {s:ByteArray} {B:Bool} (h:Al s=B) (w:World) (hs:s.size<=1000000000):
 Calls Tryz.prog 111 #[.string s] w fun e w'=>e=.returned (.bool B)/\w=w':=by
 subst h;exact J4 _ _ hs
def Yp (v:Val):Prop:= ∀(cs:List Value) (d:Int) (w:World),Ab w w.heap.size v cs->v.bulk<=1000000000->0<=d->d<=65->
    Calls Tryz.prog 166 #[.agg cs.toArray,.int .i64 d] w fun e w'=>e=.returned (.int .i64 (A9 v d))/\Below w.heap.size w w'
theorem Xs (k:Int) (b:Bool) (n:Int) (t:ByteArray) (l:List Val) (la oa:Option Addr) (lc oc:Nat) (d:Int) (w:World) (g off:Nat) (hla:l= []\/(la=some ⟨g,off,none⟩/\g<w.heap.size/\Aq w w.heap.size l g off))
 (hb:A0 l+t.size<=1000000000) (h0:0<=d) (h64:d<=64) (IH: ∀v ∈ l,Yp v) (hodd:Ec k b n t l.length 0=false) (hval:Al t=true):
 Calls Tryz.prog 166 #[.agg #[.int .i64 k,.bool b,.int .i64 n,.string t,.slice la l.length lc,.slice oa 0 oc],.int .i64 d] w fun e w'=>e=.returned (.int .i64 (Cy l (d+1)))/\Below w.heap.size w w':=by
 have hlen:l.length<=1000000000:=by have:=Dy l;omega
 have h64': ¬(64<d):=by omega
 have H:Hid (Cy (l.drop 0) (d+1)=Cy l (d+1)):=by rw[List.drop_zero];exact rfl
 go_enter Tryz.func166,Tryz.ntmps166;go_wp2_with (first|(go_at_call 209;refine(Fg hodd _).mono ?_;rintro e w1 ⟨rfl,hb1⟩;obtain⟨hc1,hf1⟩:=Em hb1;have hz1:=hb1.size;simp only[World.size_alloc]at hz1;have hbw1:Below w.heap.size w w1:=((Below.refl _ _).alloc (Nat.le_refl _) _).trans (hb1.mono (by simp));have hbox1:w1.heap[w.heap.size]? =some (.cells #[.int .i64 k,.bool b,.int .i64 n,.string t,.slice la l.length lc,.slice oa 0 oc] 42 (0,0)):=(hb1.block _ (by simp)).trans (heap_alloc_new _ _))|(go_at_call 111;refine(By hval _ (by omega)).mono ?_;rintro e w2 ⟨rfl,rfl⟩));clear hb1 hodd hc1 hf1 hz1;go_loopw [5] (fun i wr=> ∃j:Nat,j<=l.length/\i=.int .i64 j/\Hid (Cy (l.drop j) (d+1)=Cy l (d+1))/\Below w.heap.size w wr/\wr.heap[w.heap.size]? =some (.cells #[.int .i64 k,.bool b,.int .i64 n,.string t,.slice la l.length lc,.slice oa 0 oc] 42 (0,0))) (fun i _=>l.length - (intOf i).toNat)
 case atStart=>exact⟨0,Nat.zero_le _,rfl,H,hbw1,hbox1⟩
 case round=>
  obtain⟨j,hj,rfl,hm,hbw,hbox⟩:=hrel;clear H hbw1 hbox1;have hbx:w.heap.size<wr.heap.size:=(Array.getElem?_eq_some_iff.1 hbox).1;have b4:wr.cell? ⟨w.heap.size,4,none⟩=some (.slice la l.length lc):=by rw[Lib.cell_of_heap hbox];rfl
  have b5:wr.cell? ⟨w.heap.size,5,none⟩=some (.slice oa 0 oc):=by rw[Lib.cell_of_heap hbox];rfl
  by_cases hlt:j<l.length
  . obtain⟨rfl,hg,hL⟩:la=some ⟨g,off,none⟩/\g<w.heap.size/\Aq w w.heap.size l g off:=by
     rcases hla with rfl|h
     . simp at hlt
     . exact h
    obtain⟨v,hv⟩: ∃v,l[j]? =some v:=⟨_,List.getElem?_eq_getElem hlt⟩;have hdrop:l.drop j=v::l.drop (j+1):=Ch hv;have hmem:v ∈ l:=List.mem_of_getElem? hv;have hbv:=Ej hmem;have IHv:=qz (IH v hmem);have hm':=hm.out;rw[hdrop]at hm';simp only[Cy]at hm';clear hm hdrop hmem IH;obtain⟨m,hmv⟩: ∃m,A9 v (d+1)=m:=⟨_,rfl⟩;rw[hmv]at hm';have Hmv:=qz hmv;clear hmv;obtain⟨k',b',n',t',l',o'⟩:=v;obtain⟨la',lc',oa',oc',hvs,c0,c1,c2,c3,c4,c5⟩:=(hL.below hg hbw).six hv;clear hla hL hv;have hz:=hbw.size;by_cases hm0:m=0
    . rw[if_pos hm0]at hm';subst hm0;have Hk:=qz hm';clear hm';go_wp2_with (go_at_call 166;refine(IHv.out _ (d+1) _ (Ab.more (by omega) _ _ hvs) (by omega) (by omega) (by omega)).mono ?_;rintro e w2 ⟨he,hb2⟩;rw[Hmv.out]at he;subst he;have hbw2:Below w.heap.size w w2:=hbw.trans (hb2.mono hz);have hbox2:=(hb2.block _ hbx).trans hbox);go_roundw
      case rel=>exact⟨j+1,by omega,by go_num,Hk,hbw2,hbox2⟩
      case measure=>simp[intOf];omega
    . rw[if_neg hm0]at hm';have Hk:=qz hm';clear hm';have hm1:(m==0)=false:=by simpa using hm0
      have hm2:(m != 0)=true:=by simpa using hm0
      go_wp2_with (go_at_call 166;refine(IHv.out _ (d+1) _ (Ab.more (by omega) _ _ hvs) (by omega) (by omega) (by omega)).mono ?_;rintro e w2 ⟨he,hb2⟩;rw[Hmv.out]at he;subst he;have hbw2:Below w.heap.size w w2:=hbw.trans (hb2.mono hz));go_ret;exact⟨by rw[<-Hk.out];rfl,hbw2⟩
  . obtain rfl:j=l.length:=by omega
    have hm':=hm.out;rw[List.drop_length]at hm';have Hm:=qz hm';clear hm hm';go_wp2;go_loopw [8] (fun i wx=>i=.int .i64 0/\wx=wr) (fun _ _=>0)
    case atStart=>exact⟨rfl,rfl⟩
    case round=>
     obtain⟨rfl,rfl⟩:=hrel;go_wp2;go_ret;exact⟨by rw[<-Hm.out];rfl,hbw⟩
theorem S8 (k:Int) (b:Bool) (n:Int) (t:ByteArray) (o:List (ByteArray×Val)) (la oa:Option Addr) (lc oc:Nat) (d:Int) (w:World) (g off:Nat) (hoa:o= []\/(oa=some ⟨g,off,none⟩/\g<w.heap.size/\As w w.heap.size o g off))
 (hb:Av o+t.size<=1000000000) (h0:0<=d) (h64:d<=64) (IH: ∀m ∈ o,Yp m.2) (hodd:Ec k b n t 0 o.length=false) (hval:Al t=true):
 Calls Tryz.prog 166 #[.agg #[.int .i64 k,.bool b,.int .i64 n,.string t,.slice la 0 lc,.slice oa o.length oc],.int .i64 d] w fun e w'=>e=.returned (.int .i64 (Cf o none (d+1)))/\Below w.heap.size w w':=by
 have hlen:o.length<=1000000000:=by have:=Do o;omega
 have h64': ¬(64<d):=by omega
 have H:Hid (Cf (o.drop 0) (Dz o 0) (d+1)=Cf o none (d+1)):=by rw[List.drop_zero];exact rfl
 go_enter Tryz.func166,Tryz.ntmps166;go_wp2_with (first|(go_at_call 209;refine(Fg hodd _).mono ?_;rintro e w1 ⟨rfl,hb1⟩;obtain⟨hc1,hf1⟩:=Em hb1;have hz1:=hb1.size;simp only[World.size_alloc]at hz1;have hbw1:Below w.heap.size w w1:=((Below.refl _ _).alloc (Nat.le_refl _) _).trans (hb1.mono (by simp));have hbox1:w1.heap[w.heap.size]? =some (.cells #[.int .i64 k,.bool b,.int .i64 n,.string t,.slice la 0 lc,.slice oa o.length oc] 42 (0,0)):=(hb1.block _ (by simp)).trans (heap_alloc_new _ _))|(go_at_call 111;refine(By hval _ (by omega)).mono ?_;rintro e w2 ⟨rfl,rfl⟩));clear hb1 hodd hc1 hf1 hz1;go_loopw [5] (fun i wx=>i=.int .i64 0/\wx=w1) (fun _ _=>0)
 case atStart=>exact⟨rfl,rfl⟩
 case round=>
  obtain⟨rfl,rfl⟩:=hrel;have hbx0:w.heap.size<wr.heap.size:=(Array.getElem?_eq_some_iff.1 hbox1).1;have b40:wr.cell? ⟨w.heap.size,4,none⟩=some (.slice la 0 lc):=by rw[Lib.cell_of_heap hbox1];rfl
  go_wp2;clear b40 hbx0
  rename World=>w1
  go_loopw [7,8] (fun q i wr=> ∃j:Nat,∃lk:ByteArray,j<=o.length/\i=.int .i64 j/\q=.string lk/\(0<j->Dz o j=some lk)/\Hid (Cf (o.drop j) (Dz o j) (d+1)=Cf o none (d+1))/\Below w.heap.size w wr/\wr.heap[w.heap.size]? =some (.cells #[.int .i64 k,.bool b,.int .i64 n,.string t,.slice la 0 lc,.slice oa o.length oc] 42 (0,0))) (fun _ i _=>o.length - (intOf i).toNat)
  case atStart=>exact⟨0,ByteArray.empty,Nat.zero_le _,rfl,rfl,fun h=>absurd h (by omega),H,hbw1,hbox1⟩
  case round=>
   obtain⟨j,q,hj,rfl,rfl,hlk,hm,hbw,hbox⟩:=hrel;clear H hbw1 hbox1;have hbx:w.heap.size<wr.heap.size:=(Array.getElem?_eq_some_iff.1 hbox).1;have b5:wr.cell? ⟨w.heap.size,5,none⟩=some (.slice oa o.length oc):=by rw[Lib.cell_of_heap hbox];rfl
   have hz:=hbw.size;by_cases hlt:j<o.length
   . obtain⟨rfl,hg,hL⟩:oa=some ⟨g,off,none⟩/\g<w.heap.size/\As w w.heap.size o g off:=by
      rcases hoa with rfl|h
      . simp at hlt
      . exact h
     obtain⟨⟨key,v⟩,hv⟩: ∃v,o[j]? =some v:=⟨_,List.getElem?_eq_getElem hlt⟩;have hdrop:o.drop j=(key,v)::o.drop (j+1):=Ch hv;have hmem:(key,v) ∈ o:=List.mem_of_getElem? hv;have hbv:=E5 hmem;simp only at hbv;have IHv:=qz (IH (key,v) hmem);have hlast:Dz o (j+1)=some key:=by simp[Dz,hv]
     have Hlast:=qz hlast;have hm':=hm.out;rw[hdrop]at hm';simp only[Cf,N3,<-hlast]at hm';clear hm hdrop hmem IH hlast;have hLr:=hL.below hg hbw;have hgr:g<wr.heap.size:=by omega
     obtain⟨k',b',n',t',l',o'⟩:=v;obtain⟨la',lc',oa',oc',hvs,c0,c1,c2,c3,c4,c5,c6⟩:=hLr.seven hv;clear hL hLr hv hoa;by_cases hval2:Al key=true
     . rw[hval2]at hm';simp only[if_true]at hm';by_cases hjp:0<j
       . rw[hlk hjp]at hm';simp only at hm';have hgd:decide (0<j)=true:=by simpa using hjp
         clear hlk;by_cases hle:M5 key q=true
         . rw[if_pos hle]at hm';unfold M5 at hle;have Hm:=qz hm';clear hm';go_wp2_with (go_at_call 111;refine(By hval2 _ (by omega)).mono ?_;rintro e wv ⟨rfl,rfl⟩);go_ret;exact⟨by rw[<-Hm.out];rfl,hbw⟩
         . rw[if_neg hle]at hm';have hle':(Op.bytesLess key.toList q.toList||key.toList==q.toList)=false:=by simpa[M5]using hle
           clear hle;obtain⟨m,hmv⟩: ∃m,A9 (.mk k' b' n' t' l' o') (d+1)=m:=⟨_,rfl⟩;rw[hmv]at hm';have Hmv:=qz hmv;clear hmv;by_cases hm0:m=0
           . rw[if_pos hm0]at hm';subst hm0;have Hm:=qz hm';clear hm';go_wp2_with (first|(go_at_call 111;refine(By hval2 _ (by omega)).mono ?_;rintro e wv ⟨rfl,rfl⟩)|(go_at_call 166;refine(IHv.out _ (d+1) _ (Ab.more (by omega) _ _ hvs) (by omega) (by omega) (by omega)).mono ?_;rintro e w3 ⟨he,hb3⟩;rw[Hmv.out]at he;subst he;have hbw3:Below w.heap.size w w3:=hbw.trans (hb3.mono hz);have hbox3:=(hb3.block _ hbx).trans hbox));go_roundw
             case rel=>exact⟨j+1,key,by omega,by go_num,rfl,fun _=>Hlast.out,Hm,hbw3,hbox3⟩
             case measure=>simp[intOf];omega
           . rw[if_neg hm0]at hm';have hm1:(m==0)=false:=by simpa using hm0
             have hm2:(m != 0)=true:=by simpa using hm0
             have Hm:=qz hm';clear hm';go_wp2_with (first|(go_at_call 111;refine(By hval2 _ (by omega)).mono ?_;rintro e wv ⟨rfl,rfl⟩)|(go_at_call 166;refine(IHv.out _ (d+1) _ (Ab.more (by omega) _ _ hvs) (by omega) (by omega) (by omega)).mono ?_;rintro e w3 ⟨he,hb3⟩;rw[Hmv.out]at he;subst he;have hbw3:Below w.heap.size w w3:=hbw.trans (hb3.mono hz);have hbox3:=(hb3.block _ hbx).trans hbox));go_ret;exact⟨by rw[<-Hm.out];rfl,hbw3⟩
       . have hlk0:Dz o j=none:=by
          obtain rfl:j=0:=by omega
          rfl
         rw[hlk0]at hm';simp only at hm';have hgd:decide (0<j)=false:=by simpa using hjp
         have hk0:j<=0:=by omega
         clear hlk hlk0;obtain⟨m,hmv⟩: ∃m,A9 (.mk k' b' n' t' l' o') (d+1)=m:=⟨_,rfl⟩;rw[hmv]at hm';have Hmv:=qz hmv;clear hmv;by_cases hm0:m=0
         . rw[if_pos hm0]at hm';subst hm0;have Hm:=qz hm';clear hm';go_wp2_with (first|(go_at_call 111;refine(By hval2 _ (by omega)).mono ?_;rintro e wv ⟨rfl,rfl⟩)|(go_at_call 166;refine(IHv.out _ (d+1) _ (Ab.more (by omega) _ _ hvs) (by omega) (by omega) (by omega)).mono ?_;rintro e w3 ⟨he,hb3⟩;rw[Hmv.out]at he;subst he;have hbw3:Below w.heap.size w w3:=hbw.trans (hb3.mono hz);have hbox3:=(hb3.block _ hbx).trans hbox));go_roundw
           case rel=>exact⟨j+1,key,by omega,by go_num,rfl,fun _=>Hlast.out,Hm,hbw3,hbox3⟩
           case measure=>simp[intOf];omega
         . rw[if_neg hm0]at hm';have hm1:(m==0)=false:=by simpa using hm0
           have hm2:(m != 0)=true:=by simpa using hm0
           have Hm:=qz hm';clear hm';go_wp2_with (first|(go_at_call 111;refine(By hval2 _ (by omega)).mono ?_;rintro e wv ⟨rfl,rfl⟩)|(go_at_call 166;refine(IHv.out _ (d+1) _ (Ab.more (by omega) _ _ hvs) (by omega) (by omega) (by omega)).mono ?_;rintro e w3 ⟨he,hb3⟩;rw[Hmv.out]at he;subst he;have hbw3:Below w.heap.size w w3:=hbw.trans (hb3.mono hz);have hbox3:=(hb3.block _ hbx).trans hbox));go_ret;exact⟨by rw[<-Hm.out];rfl,hbw3⟩
     . have hvf:Al key=false:=by simpa using hval2
       rw[hvf]at hm';have Hm:=qz hm';clear hm' hval2 hlk;go_wp2_with (go_at_call 111;refine(By hvf _ (by omega)).mono ?_;rintro e wv ⟨rfl,rfl⟩);go_ret;exact⟨by rw[<-Hm.out];simp,hbw⟩
   . obtain rfl:j=o.length:=by omega
     have hm':=hm.out;rw[List.drop_length]at hm';have Hm:=qz hm';clear hm hm' hlk hoa IH;go_wp2;go_ret;exact⟨by rw[<-Hm.out];rfl,hbw⟩
end Go.Proofs.YtobmaegpfbheoaaGreatDoor
