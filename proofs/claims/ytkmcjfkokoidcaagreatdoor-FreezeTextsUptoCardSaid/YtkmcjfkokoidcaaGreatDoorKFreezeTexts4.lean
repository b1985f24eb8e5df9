/- Parts: What the rows' listed tables and errors give the walks. No condition. -/
import Derived.Test.YtkmcjfkokoidcaaGreatDoorKFa31
import Derived.Test.YtkmcjfkokoidcaaGreatDoorKFreezeTexts1
namespace Go.Proofs.YtkmcjfkokoidcaaGreatDoor
open Go.RowKit Go.ChangeShapes Go.WideShapes Go.ChangeAt
theorem Aiy {W:World} (h:Lib.VarReads Tryz.prog W "internal/strconv.uint64pow10" (Lib.tabData .u64 Lib.pow10Tab)):Lib.TabIs Tryz.prog W "internal/strconv.uint64pow10" .u64 Lib.pow10Tab:=by
 obtain⟨g',t',cs,fuel,p,hg',ht',hvar,hd⟩:=h;have hg:Tryz.prog.globalNamed "internal/strconv.uint64pow10" =some 4:=by kernel_rfl
 have hty:(Tryz.prog.globals[4]?).map (·.type)=some 337:=by kernel_rfl
 obtain rfl:=Option.some.inj (hg.symm.trans hg');obtain rfl:=Option.some.inj (hty.symm.trans ht');unfold Lib.TabIs;rw[hvar,<-Lib.cells_of_tab Tryz.underlying337 Tryz.underlying291 (by kernel_rfl) (by kernel_rfl) hd]
theorem Aft {H:Type} {enc:TypeId×Value->H} {P:Program} {w:World} {base fuel:Nat} {sp:Nat->Bool} {t:TypeId} {ms:Array (String×TypeId)} {cs:List Value} {name:String} {d:DataW H} {p:List MemPlace} (ht:P.underlying t=some (.interface ms))
 (h:DataW.trod enc P w base sp false fuel t cs=some (.iface name d,p)): ∃u v,cs= [.iface u v]:=by
 cases fuel with
 |zero=>simp[DataW.trod]at h
 |succ n=>
  unfold DataW.trod at h;rw[ht]at h
  split at h<;>first|exact⟨_,_,rfl⟩|simp_all
theorem Am0 {W:World} (h:Lib.VarReads Tryz.prog W "strconv.ErrRange" Rows.laid_strconv_ErrRange):Mv W:=by
 obtain⟨g',t',cs,fuel,p,hg',ht',hvar,hd⟩:=h;have hg:Tryz.prog.globalNamed "strconv.ErrRange" =some 6:=by kernel_rfl
 have hty:(Tryz.prog.globals[6]?).map (·.type)=some 250:=by kernel_rfl
 obtain rfl:=Option.some.inj (hg.symm.trans hg');obtain rfl:=Option.some.inj (hty.symm.trans ht');unfold World.var? at hvar;rw[hg]at hvar;simp only[Option.bind_some]at hvar
 split at hvar
 . rename_i cs' t' fz hh;simp only[Option.some.injEq]at hvar;subst hvar;obtain⟨u,v,e⟩:=Aft Tryz.underlying250 hd;obtain⟨l⟩:=cs';simp only at e;subst e;refine⟨u,v, ?_⟩;unfold World.cell?
   rw[hh];rfl
 . cases hvar
theorem I5 {W:World} (h:laidMetH Tryz.prog Rows.freezeReadsRow.laid W):Cm W/\Mv W:=by
 have hL:laidMet Tryz.prog Rows.freezeReadsRow.laid W:=by
  have:=(laidMetH_iff.1 h).1;have e:(Rows.freezeReadsRow.laid.filter fun x=>x.2.handleName?.isNone)=Rows.freezeReadsRow.laid:=by kernel_rfl
  rwa [e]at this
 have hu:Lib.Utf8Tabs 1 2 W:=
  utf8Tabs_of_readsT (U8Types.of196 Tryz.lays196) ⟨by kernel_rfl,by kernel_rfl,by kernel_rfl,by kernel_rfl,by kernel_rfl,by kernel_rfl,by kernel_rfl⟩
   (Lib.laidMet.reads hL (n:= "unicode/utf8.first") (d:=Lib.firstData) (by rw[<-Aev];simp[Rows.freezeReadsRow])) (Lib.laidMet.reads hL (n:= "unicode/utf8.acceptRanges") (d:=Lib.acceptData) (by rw[<-Ab2];simp[Rows.freezeReadsRow]))
 have hp:=Aiy (Lib.laidMet.reads hL (n:= "internal/strconv.uint64pow10") (d:=Lib.tabData .u64 Lib.pow10Tab) (by rw[<-Aew];simp[Rows.freezeReadsRow]));have hr:=Am0 (Lib.laidMet.reads hL (n:= "strconv.ErrRange") (by simp[Rows.freezeReadsRow]));refine⟨⟨?_,hu,hp⟩,hr⟩;obtain⟨te,pe,hc⟩:=hr;have:=World.block_lt_of_cell? _ _ hc;simp only at this;omega
end Go.Proofs.YtkmcjfkokoidcaaGreatDoor
