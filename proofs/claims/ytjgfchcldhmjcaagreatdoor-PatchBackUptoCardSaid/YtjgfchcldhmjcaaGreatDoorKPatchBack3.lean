/- Parts: What the pulls' rows' listed errors give the walks. No condition. -/
import Derived.ChangeSame
import Derived.WideKeyArgs
import Derived.OpenShut
import Derived.Test.YtjgfchcldhmjcaaGreatDoorKPp32
import Derived.Test.YtjgfchcldhmjcaaGreatDoorKPp34
import Derived.Test.YtjgfchcldhmjcaaGreatDoorKPatchBack1
set_option maxHeartbeats 20000000
set_option maxRecDepth 100000
namespace Go.Proofs.YtjgfchcldhmjcaaGreatDoor
open Go.RowKit Go.ChangeShapes Go.WideShapes Go.ChangeAt
theorem Ag2 {W:World} (h:Lib.VarReads Tryz.prog W "internal/strconv.uint64pow10" (Lib.tabData .u64 Lib.pow10Tab)):Lib.TabIs Tryz.prog W "internal/strconv.uint64pow10" .u64 Lib.pow10Tab:=by
 obtain⟨g,i,cs,fuel,p,b,c,a,e⟩:=h;have f:Tryz.prog.globalNamed "internal/strconv.uint64pow10" =some 4:=by kernel_rfl
 have d:(Tryz.prog.globals[4]?).map (·.type)=some 390:=by kernel_rfl
 obtain rfl:=Option.some.inj (f.symm.trans b);obtain rfl:=Option.some.inj (d.symm.trans c);unfold Lib.TabIs;rw[a,<-Lib.cells_of_tab Tryz.underlying390 Tryz.underlying22 (by kernel_rfl) (by kernel_rfl) e]
theorem Ajb {W:World} (h:Lib.VarReads Tryz.prog W "commonplace/patch.names" Rows.laid_commonplace_patch_names):Km W:=by
 obtain⟨I,G,cs,fuel,p,j,n,a,A⟩:=h;have t:Tryz.prog.globalNamed "commonplace/patch.names" =some 0:=by kernel_rfl
 have o:(Tryz.prog.globals[0]?).map (·.type)=some 141:=by kernel_rfl
 obtain rfl:=Option.some.inj (t.symm.trans j);obtain rfl:=Option.some.inj (o.symm.trans n);obtain⟨xs,m,_,E,D,F,B⟩:=DataW.trod_array Tryz.underlying141 A;have f:Tryz.prog.cellsOf 9=1:=by kernel_rfl
 have g:Tryz.prog.cellsOf 141=4:=by kernel_rfl
 rw[g]at D;have c:=congrArg Prod.fst E;simp only[Rows.laid_commonplace_patch_names,DataW.agg.injEq]at c;have key: ∀i,i<4-> ∀l:List UInt8,([[], [112,117,116], [100,101,108], [99,108,101,97,114]]:List (List UInt8))[i]? =some l->cs[i]? =some (.string ⟨l.toArray⟩):=by
  intro i C l k;have e:=B i C;rw[f,Nat.mul_one]at e;have w:((cs.toList.drop i).take 1)= [cs[i]'(by simpa[Array.length_toList]using(by omega:i<cs.toList.length))]:=by
   rw[List.drop_eq_getElem_cons (by omega)];simp
  rw[w,List.getElem?_eq_getElem (by omega)]at e;obtain⟨s,v,q,_⟩:=DataW.trod_string Tryz.underlying9 e;simp only[List.cons.injEq,and_true]at v;have r:(xs.map (·.1))[i]? =some (DataW.lit (.string s.data.toList):DataW Unit):=by
   rw[List.getElem?_map,List.getElem?_eq_getElem (by omega),Option.map_some,q]
  rw[<-c]at r;have x:s.data.toList=l:=by
   rcases(by omega:i=0\/i=1\/i=2\/i=3)with rfl|rfl|rfl|rfl<;>exact(Lit.string.inj (DataW.lit.inj (Option.some.inj r))).symm.trans (Option.some.inj k)
  have y:i<cs.size:=by rw[<-Array.length_toList];omega
  rw[Array.getElem?_eq_getElem y,v];have z:s=⟨l.toArray⟩:=by
   apply ByteArray.ext;apply Array.ext';rw[x]
  rw[z]
 unfold World.var? at a;rw[t]at a;simp only[Option.bind_some]at a
 split at a
 . rename_i d G H u;simp only[Option.some.injEq]at a;subst a;have b: ∀i,W.cell? ⟨0,i,none⟩=d[i]? :=fun i=>by unfold World.cell?;rw[u];rfl
   exact⟨(b 1).trans (key 1 (by omega) _ rfl),(b 2).trans (key 2 (by omega) _ rfl),(b 3).trans (key 3 (by omega) _ rfl),(Array.getElem?_eq_some_iff.1 u).1⟩
 . cases a
theorem Alj {W:World} (h:laidMetH Tryz.prog Rows.patchBackRow.laid W):Cj W:=by
 have b:laidMet Tryz.prog Rows.patchBackRow.laid W:=by
  have:=(laidMetH_iff.1 h).1;have e:(Rows.patchBackRow.laid.filter fun x=>x.2.handleName?.isNone)=Rows.patchBackRow.laid:=by kernel_rfl
  rwa [e]at this
 have l:Lib.Utf8Tabs 2 3 W:=
  utf8Tabs_of_readsT (U8Types.of196 Tryz.lays196) ⟨by kernel_rfl,by kernel_rfl,by kernel_rfl,by kernel_rfl,by kernel_rfl,by kernel_rfl,by kernel_rfl⟩
   (Lib.laidMet.reads b (n:= "unicode/utf8.first") (d:=Lib.firstData) (by rw[<-Acx];simp[Rows.patchBackRow])) (Lib.laidMet.reads b (n:= "unicode/utf8.acceptRanges") (d:=Lib.acceptData) (by rw[<-Z5];simp[Rows.patchBackRow]))
 have j:=Ag2 (Lib.laidMet.reads b (n:= "internal/strconv.uint64pow10") (d:=Lib.tabData .u64 Lib.pow10Tab) (by rw[<-Acy];simp[Rows.patchBackRow]));have c:Lib.VarReads Tryz.prog W "math/bits.deBruijn64tab" Rows.laid_math_bits_deBruijn64tab:=Lib.laidMet.reads b (by simp[Rows.patchBackRow]);refine⟨?_,l,j⟩;obtain⟨m,q,cs,fuel,p,f,k,a,o⟩:=c;have i:Tryz.prog.globalNamed "math/bits.deBruijn64tab" =some 9:=by kernel_rfl
 obtain rfl:=Option.some.inj (i.symm.trans f);unfold World.var? at a;rw[i]at a;simp only[Option.bind_some]at a;rcases Nat.lt_or_ge 9 W.heap.size with g|g
 . omega
 . rw[Array.getElem?_eq_none g]at a
   cases a
theorem Ac4 {W:World} (h:laidMetH Tryz.prog Rows.patchBackRow.laid W):Km W:=by
 have a:laidMet Tryz.prog Rows.patchBackRow.laid W:=by
  have:=(laidMetH_iff.1 h).1;have e:(Rows.patchBackRow.laid.filter fun x=>x.2.handleName?.isNone)=Rows.patchBackRow.laid:=by kernel_rfl
  rwa [e]at this
 exact Ajb (Lib.laidMet.reads a (by simp[Rows.patchBackRow]))
theorem i64_in {n:Int} (a:(Lit.int .i64 n).wf=true): -9223372036854775808<=n/\n<=9223372036854775807:=by
 have b:IntKind.i64.min= -9223372036854775808:=by decide
 have c:IntKind.i64.max=9223372036854775807:=by decide
 simp only[Lit.wf,b,c,Bool.and_eq_true,decide_eq_true_eq]at a;exact a
section
variable {H:Type} {enc:TypeId×Value->H} {P:Program}
theorem U3 {f:Func} {s:ChangeSpec} {c n d m:Bool} {W q:World} {args:Array Value} {v:Value} {u w:List (DataW H)} {a pa pv:List MemPlace}
 (A:DataW.Whole enc P f.params.toList s.vars c W args.toList u w a)
 (l: ∀(b:Nat) (o:Nat->Bool) (hd:Bool),DataW.TrodAll enc P q b o hd f.resultTypes.toList (v.resultList f.resultTypes.size) (s.fn H (u++w)).results [])
 (e: ∀o:Nat->Bool,(∀p ∈ a,o p.block=true)->DataW.TrodAll enc P q 0 o true f.params.toList args.toList (s.fn H (u++w)).args pa)
 (h: ∀o:Nat->Bool,(∀p ∈ a,o p.block=true)->DataW.TrodVars enc P q o s.vars (s.fn H (u++w)).vars pv)
 (i:a=pa++pv) (C:Below W.heap.size W q)
 (B: ∀(j:Nat) (t:TypeId) (r:Value),f.resultTypes[j]? =some t->(v.resultList f.resultTypes.size)[j]? =some r->Value.okWide P q .any 0 t r):
 s.post enc P f c n d m W args v q:=by
 have y: ∀p ∈ a,p.block<W.heap.size:=fun p g=>A.lt p g;have k: ∀p ∈ a,(fun b=>decide (b<W.heap.size)) p.block=true:=fun p g=>by simpa using y p g
 refine⟨u,w,a, [],pa,pv,A,l _ _ _,e _ k,h _ k,World.keptBut_mono (fun p g=>⟨g, ?_⟩) (C.frame (· ∈ a)),fun _=> ?_⟩
 . rw[i,List.mem_append]at g;exact Or.inr g
 . obtain⟨_,_,_,_,_,F,E⟩:=A;refine⟨B,_,_,([]++pa)++pv,⟨[]++pa,pv,trodAll_append (e _ (fun _ _=>rfl)) (l _ _ _),h _ (fun _ _=>rfl),rfl, ?_, ?_⟩, ?_⟩
   . intro b z g;have x:MemPlace.cell b z ∈ a:=by rw[i];simpa using g
     rw[C.frozen (y _ x)];exact F b z x
   . intro D;have:=E D;rw[i]at this;simpa using this
   . intro p g _;rw[i];simpa using g
end
end Go.Proofs.YtjgfchcldhmjcaaGreatDoor
namespace Go.Proofs.YtjgfchcldhmjcaaGreatDoor
open Go Go.RowKit
def Ul (s:List UInt8):Int×List POp:=match Eh s with
 | .bad c _=>(c, [])
 | .ok v _=>Cx v
theorem Aao {v:Val} (h:(Cx v).1≠0):(Cx v).2= []:=by
 obtain⟨k,b,n,t,l,o⟩:=v;by_cases a:A0 (.mk k b n t l o) 1=0
 . by_cases c:k=5
   . rw[Mb a c]at h ⊢
     split
     . rfl
     . rename_i d;rw[if_neg d]at h
       split
       . rename_i e;rw[if_pos e]at h;exact absurd rfl h
       . rfl
   . unfold Cx;rw[if_neg (by omega),if_pos (show Bo (.mk k b n t l o)≠5 from c)]
 . unfold Cx;rw[if_pos a]
theorem Ajj {s:List UInt8} (h:(Ul s).1≠0):(Ul s).2= []:=by
 unfold Ul at h ⊢
 cases hr:Eh s with
 |bad c q=>rfl
 |ok v q=>
  rw[hr]at h;exact Aao h
def Lw (r:Int×List POp) (w:World) (e:Ending) (w':World):Prop:=Below w.heap.size w w'/\ ∃a c,e=.returned (.tuple #[.slice a r.2.length c,.int .i64 r.1])/\Ag w' w'.heap.size (.row 8 (Eo r.2)) [.slice a r.2.length c]
theorem Z1 (w:World) (B:Nat):Ag w B (.row 8 (Eo [])) [.slice none 0 0]:=⟨none,0,rfl,by simp[Eo], [],rfl,.inl rfl⟩
theorem Lw.no {r:Int×List POp} {w w':World} {c:Int} (h:r=(c, [])) (a:Below w.heap.size w w'):Lw r w (.returned (.tuple #[.slice none 0 0,.int .i64 c])) w':=
 ⟨a,none,0,by rw[h];rfl,by rw[h];exact Z1 _ _⟩
theorem Pi (s:ByteArray) (w:World) (F:Cj w) (hN:Um w) (hs:s.size<=100000000) (k: ∀v q,Eh s.data.toList=.ok v q->v.bulk<=30000000):
 Calls Tryz.prog 18 #[.string s] w (Lw (Ul s.data.toList) w):=by
 obtain⟨t,b⟩: ∃P:Ending->World->Prop,Lw (Ul s.data.toList) w=P:=⟨_,rfl⟩;rw[b];have u:=Aar s w F hN hs;have g: ∀W,Below w.heap.size w W->Cj W:=fun W h=>F.below h
 cases hr:Eh s.data.toList with
 |bad c q=>
  rw[hr]at u;have T:c≠0:=by have:=Wf hr;omega
  have Y:(c != 0)=true:=by simpa using T
  have J:=qz (show Ul s.data.toList=(c, [])from by unfold Ul;rw[hr]);obtain⟨H,d⟩:=hid2 u b;clear u b;clear hr F g k;go_enter Tryz.func18,Tryz.ntmps18;go_wp2_with (fail);(with_reducible refine(H.out).mono ?_);rintro e w4 ⟨a,rfl⟩;have x:Hid (t (.returned (.tuple #[.slice none 0 0,.int .i64 c])) (w4.alloc (.cells #[.int .i64 0,.bool false,.int .i64 0,.string ⟨#[]⟩,.slice none 0 0,.slice none 0 0] 42))):=by
   show t _ _;rw[<-d.out];exact Lw.no J.out (a.alloc a.size _)
  clear a T;go_wp2;exact x.out
 |ok v q=>
  rw[hr]at u;obtain⟨K,L,_,D⟩:=M3 hr;have C:=k _ _ hr;have E:Ul s.data.toList=Cx v:=by unfold Ul;rw[hr]
  have m:=Ajj (s:=s.data.toList);obtain⟨M,b',N,O,l',o'⟩:=v;have z:=fun la oa lc oc W X Z=>Aak M b' N O l' o' la lc oa oc W (g W X) Z C D;unfold Kw at z;rw[<-E]at z;generalize Ul s.data.toList=R at z m b;obtain⟨H,d,V,I⟩:=hid4 u b z m;clear u b z m;clear hr F g K L C D E k;go_enter Tryz.func18,Tryz.ntmps18;go_wp2_with (fail);(with_reducible refine(H.out).mono ?_);rintro e w4 ⟨a,cs,rfl,l⟩;obtain⟨n,o,p,r,rfl⟩:=Dc l;have i:=a.alloc a.size (.cells #[.int .i64 M,.bool b',.int .i64 N,.string O,.slice n l'.length o,.slice p o'.length r] 42);have A:=l.later (Aa w4 (.cells #[.int .i64 M,.bool b',.int .i64 N,.string O,.slice n l'.length o,.slice p o'.length r] 42));have U:=qz (V.out n p o r _ i A.now);have y:=qz i;clear i;clear l A a;go_wp2_with (fail);(with_reducible refine(U.out).mono ?_);rintro e w6 ⟨j,G⟩;have f:=y.out.trans (j.mono y.out.size);by_cases h0:R.1=0
  . rw[if_neg (fun h=>h h0)]at G;obtain⟨Q,S,rfl,B⟩:=G;have x:Hid (t (.returned (.tuple #[.slice Q R.2.length S,.int .i64 0])) w6):=by
     show t _ _;rw[<-d.out];exact⟨f,Q,S,by rw[h0],B.now⟩
    clear j f B h0;go_wp2;exact x.out
  . rw[if_pos h0]at G;subst G;have x:Hid (t (.returned (.tuple #[.slice none 0 0,.int .i64 R.1])) w6):=by
     show t _ _;rw[<-d.out];exact Lw.no (Prod.ext rfl (I.out h0)) f
    clear j f h0;go_wp2;exact x.out
theorem T6 (G: ∀v,Qp v) (s:ByteArray) (w:World) (K:Cj w) (hs:s.size<=5000000):
 Calls Tryz.prog 20 #[.string s] w (Lw (Ul s.data.toList) w):=by
 obtain⟨t,b⟩: ∃P:Ending->World->Prop,Lw (Ul s.data.toList) w=P:=⟨_,rfl⟩;rw[b];have u:=Yg G s w (by omega);have g: ∀W,Below w.heap.size w W->Cj W:=fun W h=>K.below h
 cases hr:Eh s.data.toList with
 |bad c q=>
  rw[hr]at u;have U:c≠0:=by have:=Wf hr;omega
  have Y:(c != 0)=true:=by simpa using U
  have J:=qz (show Ul s.data.toList=(c, [])from by unfold Ul;rw[hr]);obtain⟨H,d⟩:=hid2 u b;clear u b;clear hr K g;go_enter Tryz.func20,Tryz.ntmps20;go_wp2_with (fail);(with_reducible refine(H.out).mono ?_);rintro e w4 ⟨a,rfl⟩;have x:Hid (t (.returned (.tuple #[.slice none 0 0,.int .i64 c])) (w4.alloc (.cells #[.int .i64 0,.bool false,.int .i64 0,.string ⟨#[]⟩,.slice none 0 0,.slice none 0 0] 42))):=by
   show t _ _;rw[<-d.out];exact Lw.no J.out (a.alloc a.size _)
  clear a U;go_wp2;exact x.out
 |ok v q=>
  rw[hr]at u;obtain⟨L,M,C,D⟩:=M3 hr;rw[Ac]at C;have E:Ul s.data.toList=Cx v:=by unfold Ul;rw[hr]
  have m:=Ajj (s:=s.data.toList);obtain⟨N,b',O,Q,l',o'⟩:=v;have z:=fun la oa lc oc W X Z=>Ags N b' O Q l' o' la lc oa oc (fun i=>i<W.heap.size) W W (g W X) (Below.refl _ _) (Ai.of_old Z (Nat.le_refl _) (Below.refl _ _)) (by omega) D;unfold J4 at z;rw[<-E]at z;generalize Ul s.data.toList=R at z m b;obtain⟨H,d,V,I⟩:=hid4 u b z m;clear u b z m;clear hr K g L M C D E;go_enter Tryz.func20,Tryz.ntmps20;go_wp2_with (fail);(with_reducible refine(H.out).mono ?_);rintro e w4 ⟨a,cs,rfl,l⟩;obtain⟨n,o,p,r,rfl⟩:=Dc l;have j:=a.alloc a.size (.cells #[.int .i64 N,.bool b',.int .i64 O,.string Q,.slice n l'.length o,.slice p o'.length r] 42);have A:=l.later (Aa w4 (.cells #[.int .i64 N,.bool b',.int .i64 O,.string Q,.slice n l'.length o,.slice p o'.length r] 42));have G:=qz (V.out n p o r _ j A.now);have y:=qz j;clear j;clear l A a;go_wp2_with (fail);(with_reducible refine(G.out).mono ?_);rintro e w6 ⟨k,F⟩;have f:=y.out.trans (k.mono y.out.size);by_cases h0:R.1=0
  . rw[if_neg (fun h=>h h0)]at F;obtain⟨S,T,rfl,B⟩:=F;have x:Hid (t (.returned (.tuple #[.slice S R.2.length T,.int .i64 0])) w6):=by
     show t _ _;rw[<-d.out];exact⟨f,S,T,by rw[h0],B.now⟩
    clear k f B h0;go_wp2;exact x.out
  . rw[if_pos h0]at F;subst F;have x:Hid (t (.returned (.tuple #[.slice none 0 0,.int .i64 R.1])) w6):=by
     show t _ _;rw[<-d.out];exact Lw.no (Prod.ext rfl (I.out h0)) f
    clear k f h0;go_wp2;exact x.out
end Go.Proofs.YtjgfchcldhmjcaaGreatDoor
namespace Go.Proofs.YtjgfchcldhmjcaaGreatDoor
open Go.RowKit Go.ChangeShapes Go.WideShapes Go.ChangeAt
theorem Ad2 {H:Type} {enc:TypeId×Value->H} {P:Program} {w:World} {base fuel:Nat} {c:Nat->Bool} {t:TypeId} {b:Array (String×TypeId)} {cs:List Value} {name:String} {d:DataW H} {p:List MemPlace} (a:P.underlying t=some (.interface b))
 (h:DataW.trod enc P w base c false fuel t cs=some (.iface name d,p)): ∃u v,cs= [.iface u v]:=by
 cases fuel with
 |zero=>simp[DataW.trod]at h
 |succ n=>
  unfold DataW.trod at h;rw[a]at h
  split at h<;>first|exact⟨_,_,rfl⟩|simp_all
theorem Ak6 {W:World} (h:Lib.VarReads Tryz.prog W "strconv.ErrRange" Rows.laid_strconv_ErrRange):Um W:=by
 obtain⟨n,k,cs,fuel,p,c,d,a,i⟩:=h;have g:Tryz.prog.globalNamed "strconv.ErrRange" =some 7:=by kernel_rfl
 have f:(Tryz.prog.globals[7]?).map (·.type)=some 267:=by kernel_rfl
 obtain rfl:=Option.some.inj (g.symm.trans c);obtain rfl:=Option.some.inj (f.symm.trans d);unfold World.var? at a;rw[g]at a;simp only[Option.bind_some]at a
 split at a
 . rename_i b k m j;simp only[Option.some.injEq]at a;subst a;obtain⟨u,v,e⟩:=Ad2 Tryz.underlying267 i;obtain⟨l⟩:=b;simp only at e;subst e;refine⟨u,v, ?_⟩;unfold World.cell?
   rw[j];rfl
 . cases a
theorem Ajd {W:World} (h:laidMetH Tryz.prog Rows.patchBackRow.laid W):Um W:=by
 have a:laidMet Tryz.prog Rows.patchBackRow.laid W:=by
  have:=(laidMetH_iff.1 h).1;have e:(Rows.patchBackRow.laid.filter fun x=>x.2.handleName?.isNone)=Rows.patchBackRow.laid:=by kernel_rfl
  rwa [e]at this
 exact Ak6 (Lib.laidMet.reads a (n:= "strconv.ErrRange") (by simp[Rows.patchBackRow]))
end Go.Proofs.YtjgfchcldhmjcaaGreatDoor
