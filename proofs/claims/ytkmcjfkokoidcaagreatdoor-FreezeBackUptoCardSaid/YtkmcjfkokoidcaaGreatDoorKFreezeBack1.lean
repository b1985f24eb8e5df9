/- Parts: Pointers to nodes, whether they are the same. No condition. -/
import Derived.Test.YtkmcjfkokoidcaaGreatDoorChecked
import Derived.Test.YtkmcjfkokoidcaaGreatDoorRows
import Derived.Lay
import Derived.Lib.LaidIn
import Derived.Lib.LaidU8T
import Derived.LaidSub
import Derived.Lib.ItoaNum
import Derived.Deep.DeepHandedRow
import Derived.ProofKit
import Derived.ChangeSame
import Derived.WideKeyArgs
import Derived.OpenShut
import Derived.LaidEqlPtr
import Derived.Test.YtkmcjfkokoidcaaGreatDoorKFa31
namespace Go.Proofs.YtkmcjfkokoidcaaGreatDoor
open Go.RowKit Go.ChangeShapes Go.WideShapes Go.ChangeAt
theorem Ng:ownKnob Tryz.prog.godebug=none:=by kernel_rfl
noncomputable def Eu (os:Os):World:=World.laidAll Tryz.prog os Rows.freezeReadsRow.laid
theorem Aev:Rows.laid_unicode_utf8_first=Lib.firstData:=by kernel_rfl
theorem Ab2:Rows.laid_unicode_utf8_acceptRanges (H:=Unit)=Lib.acceptData:=by kernel_rfl
theorem Aew:Rows.laid_internal_strconv_uint64pow10 (H:=Unit)=Lib.tabData .u64 Lib.pow10Tab:=by kernel_rfl
theorem M9 (os:Os) (args:Array Value):laidMet Tryz.prog Rows.freezeReadsRow.laid ((Eu os).forCall (fun _ _=>0) ⟨#[],args, []⟩).memory:=
 laidMet_laidAll _ (by kernel_rfl) (by kernel_rfl)
theorem Aiy {W:World} (h:Lib.VarReads Tryz.prog W "internal/strconv.uint64pow10" (Lib.tabData .u64 Lib.pow10Tab)):Lib.TabIs Tryz.prog W "internal/strconv.uint64pow10" .u64 Lib.pow10Tab:=by
 obtain⟨g',t',cs,fuel,p,hg',ht',hvar,hd⟩:=h;have hg:Tryz.prog.globalNamed "internal/strconv.uint64pow10" =some 4:=by kernel_rfl
 have hty:(Tryz.prog.globals[4]?).map (·.type)=some 337:=by kernel_rfl
 obtain rfl:=Option.some.inj (hg.symm.trans hg');obtain rfl:=Option.some.inj (hty.symm.trans ht');unfold Lib.TabIs;rw[hvar,<-Lib.cells_of_tab Tryz.underlying337 Tryz.underlying291 (by kernel_rfl) (by kernel_rfl) hd]
theorem Aft {H:Type} {enc:TypeId×Value->H} {P:Program} {w:World} {base fuel:Nat} {sp:Nat->Bool} {t:TypeId} {ms:Array (String×TypeId)} {cs:List Value} {name:String} {d:DataW H} {p:List MemPlace} (ht:P.underlying t=some (.interface ms))
 (h:DataW.trod enc P w base sp false fuel t cs=some (.iface name d,p)): ∃u v,cs= [.iface u v]:=by
 cases fuel with
 |zero=>simp[DataW.trod]at h
 |succ n=>
  unfold DataW.trod at h;rw[ht]at h
  split at h<;>first|exact⟨_,_,rfl⟩|simp_all
theorem Am0 {W:World} (h:Lib.VarReads Tryz.prog W "strconv.ErrRange" Rows.laid_strconv_ErrRange):Mv W:=by
 obtain⟨g',t',cs,fuel,p,hg',ht',hvar,hd⟩:=h;have hg:Tryz.prog.globalNamed "strconv.ErrRange" =some 6:=by kernel_rfl
 have hty:(Tryz.prog.globals[6]?).map (·.type)=some 250:=by kernel_rfl
 obtain rfl:=Option.some.inj (hg.symm.trans hg');obtain rfl:=Option.some.inj (hty.symm.trans ht');unfold World.var? at hvar;rw[hg]at hvar;simp only[Option.bind_some]at hvar
 split at hvar
 . rename_i cs' t' fz hh;simp only[Option.some.injEq]at hvar;subst hvar;obtain⟨u,v,e⟩:=Aft Tryz.underlying250 hd;obtain⟨l⟩:=cs';simp only at e;subst e;refine⟨u,v, ?_⟩;unfold World.cell?
   rw[hh];rfl
 . cases hvar
theorem I5 {W:World} (h:laidMetH Tryz.prog Rows.freezeReadsRow.laid W):Cm W/\Mv W:=by
 have hL:laidMet Tryz.prog Rows.freezeReadsRow.laid W:=by
  have:=(laidMetH_iff.1 h).1;have e:(Rows.freezeReadsRow.laid.filter fun x=>x.2.handleName?.isNone)=Rows.freezeReadsRow.laid:=by kernel_rfl
  rwa [e]at this
 have hu:Lib.Utf8Tabs 1 2 W:=
  utf8Tabs_of_readsT (U8Types.of196 Tryz.lays196) ⟨by kernel_rfl,by kernel_rfl,by kernel_rfl,by kernel_rfl,by kernel_rfl,by kernel_rfl,by kernel_rfl⟩
   (Lib.laidMet.reads hL (n:= "unicode/utf8.first") (d:=Lib.firstData) (by rw[<-Aev];simp[Rows.freezeReadsRow])) (Lib.laidMet.reads hL (n:= "unicode/utf8.acceptRanges") (d:=Lib.acceptData) (by rw[<-Ab2];simp[Rows.freezeReadsRow]))
 have hp:=Aiy (Lib.laidMet.reads hL (n:= "internal/strconv.uint64pow10") (d:=Lib.tabData .u64 Lib.pow10Tab) (by rw[<-Aew];simp[Rows.freezeReadsRow]));have hr:=Am0 (Lib.laidMet.reads hL (n:= "strconv.ErrRange") (by simp[Rows.freezeReadsRow]));refine⟨⟨?_,hu,hp⟩,hr⟩;obtain⟨te,pe,hc⟩:=hr;have:=World.block_lt_of_cell? _ _ hc;simp only at this;omega
theorem i64_in {n:Int} (hwf:(Lit.int .i64 n).wf=true): -9223372036854775808<=n/\n<=9223372036854775807:=by
 have h1:IntKind.i64.min= -9223372036854775808:=by decide
 have h2:IntKind.i64.max=9223372036854775807:=by decide
 simp only[Lit.wf,h1,h2,Bool.and_eq_true,decide_eq_true_eq]at hwf;exact hwf
section
variable {H:Type} {enc:TypeId×Value->H} {P:Program}
theorem Gc {f:Func} {s:ChangeSpec} {apart fresh handsOn again:Bool} {W W':World} {args:Array Value} {v:Value} {ds gs:List (DataW H)} {before pa pv:List MemPlace}
 (hW:DataW.Whole enc P f.params.toList s.vars apart W args.toList ds gs before)
 (hres: ∀(b:Nat) (sp:Nat->Bool) (hd:Bool),DataW.TrodAll enc P W' b sp hd f.resultTypes.toList (v.resultList f.resultTypes.size) (s.fn H (ds++gs)).results [])
 (hargs: ∀sp:Nat->Bool,(∀p ∈ before,sp p.block=true)->DataW.TrodAll enc P W' 0 sp true f.params.toList args.toList (s.fn H (ds++gs)).args pa)
 (hvars: ∀sp:Nat->Bool,(∀p ∈ before,sp p.block=true)->DataW.TrodVars enc P W' sp s.vars (s.fn H (ds++gs)).vars pv)
 (hps:before=pa++pv) (hb:Below W.heap.size W W')
 (hok: ∀(j:Nat) (t:TypeId) (r:Value),f.resultTypes[j]? =some t->(v.resultList f.resultTypes.size)[j]? =some r->Value.okWide P W' .any 0 t r):
 s.post enc P f apart fresh handsOn again W args v W':=by
 have hlt: ∀p ∈ before,p.block<W.heap.size:=fun p hp=>hW.lt p hp;have hold: ∀p ∈ before,(fun b=>decide (b<W.heap.size)) p.block=true:=fun p hp=>by simpa using hlt p hp
 refine⟨ds,gs,before, [],pa,pv,hW,hres _ _ _,hargs _ hold,hvars _ hold,World.keptBut_mono (fun p hp=>⟨hp, ?_⟩) (hb.frame (· ∈ before)),fun _=> ?_⟩
 . rw[hps,List.mem_append]at hp;exact Or.inr hp
 . obtain⟨_,_,_,_,_,hz,hn⟩:=hW;refine⟨hok,_,_,([]++pa)++pv,⟨[]++pa,pv,trodAll_append (hargs _ (fun _ _=>rfl)) (hres _ _ _),hvars _ (fun _ _=>rfl),rfl, ?_, ?_⟩, ?_⟩
   . intro b off hp;have hin:MemPlace.cell b off ∈ before:=by rw[hps];simpa using hp
     rw[hb.frozen (hlt _ hin)];exact hz b off hin
   . intro ha;have:=hn ha;rw[hps]at this;simpa using this
   . intro p hp _;rw[hps];simpa using hp
end
end Go.Proofs.YtkmcjfkokoidcaaGreatDoor
namespace Go.Proofs.YtkmcjfkokoidcaaGreatDoor
open Go Go.RowKit
def Lo (x y:A5):Bool:=decide (x.1=y.1)&&Dj x.2 y.2
theorem Afo (x y:A5) (r s:List A5):En (x::r) (y::s)=(Lo x y&&En r s):=by
 obtain⟨a,x⟩:=x;obtain⟨b,y⟩:=y;simp only[En,Lo,Bool.and_assoc]
theorem Gu: ∀{a b:List A5},En a b=true ↔ a.length=b.length/\ ∀(j:Nat) x y,a[j]? =some x->b[j]? =some y->Lo x y=true
 | [], []=>by simp[En]
 | [],_::_=>by simp[En]
 |_::_, []=>by simp[En]
 |x::r,y::s=>by
  rw[Afo,Bool.and_eq_true,Gu (a:=r) (b:=s)];constructor
  . rintro⟨h1,h2,h3⟩;refine⟨by simp[h2],fun j u v hu hv=> ?_⟩
    cases j with
    |zero=>simp at hu hv;subst hu;subst hv;exact h1
    |succ j=>exact h3 j u v (by simpa using hu) (by simpa using hv)
  . rintro⟨h1,h2⟩;exact⟨h2 0 x y rfl rfl,by simpa using h1,fun j u v hu hv=>h2 (j+1) u v (by simpa using hu) (by simpa using hv)⟩
theorem Akr {a b:ByteArray} (h:a≠b):(a==b)=false/\(a != b)=true/\(a.toList==b.toList)=false/\(a.toList != b.toList)=true:=by
 have h1:(a==b)=false:=by
  obtain⟨a⟩:=a;obtain⟨b⟩:=b;have e:((⟨a⟩:ByteArray)==⟨b⟩)=(a==b):=rfl;rw[e];simpa using h
 have h2:(a.toList==b.toList)=false:=by
  rw[ByteArray.toList_eq,ByteArray.toList_eq,beq_eq_false_iff_ne];intro e;exact h (by
   obtain⟨⟨a⟩⟩:=a;obtain⟨⟨b⟩⟩:=b;simpa using e)
 exact⟨h1,by rw[bne,h1];rfl,h2,by rw[bne,h2];rfl⟩
theorem Akq (a:ByteArray):(a==a)=true/\(a != a)=false/\(a.toList==a.toList)=true/\(a.toList != a.toList)=false:=by
 have h1:(a==a)=true:=by
  obtain⟨a⟩:=a;have e:((⟨a⟩:ByteArray)==⟨a⟩)=(a==a):=rfl;rw[e];simp
 exact⟨h1,by rw[bne,h1];rfl,by simp,by simp⟩
theorem Xj:((Tryz.prog.info? Vh).map fun i=>decide (i.size≠0))=some true:=by kernel_rfl
theorem Bm.blk {S:Nat->Prop} {w:World} {n:Nd} {b:Nat} (h:Bm S w n b): ∃cs,Aj w b Vh cs:=by
 cases n<;>simp only[Bm]at h
 . obtain⟨_,_,_,_,_,h⟩:=h;exact⟨_,h⟩
 . obtain⟨_,_,_,_,_,_,h,_⟩:=h;exact⟨_,h⟩
theorem Alj (w:World) (q:Nat):(binOp .eql 24 (.pointer (some ⟨q,0,none⟩)) (.pointer (some ⟨q,0,none⟩))).run Tryz.prog w=.ok (.bool true) w:=by
 have h:=Xj
 cases hj:Tryz.prog.info? Vh with
 |none=>rw[hj]at h;cases h
 |some j=>exact run_eql_ptr_same w _ (by kernel_rfl) hj
theorem Aif {w:World} {q r:Nat} {cs ds:Array Value} (hq:Aj w q Vh cs) (hr:Aj w r Vh ds) (hne:q≠r):(binOp .eql 24 (.pointer (some ⟨q,0,none⟩)) (.pointer (some ⟨r,0,none⟩))).run Tryz.prog w=.ok (.bool false) w:=by
 have h:=Xj
 cases hj:Tryz.prog.info? Vh with
 |none=>rw[hj]at h;cases h
 |some j=>
  rw[hj]at h;exact run_eql_ptr_other w (by kernel_rfl) hj (by simpa using h) (fun e=>hne (by cases e;rfl)) hq hr
end Go.Proofs.YtkmcjfkokoidcaaGreatDoor
