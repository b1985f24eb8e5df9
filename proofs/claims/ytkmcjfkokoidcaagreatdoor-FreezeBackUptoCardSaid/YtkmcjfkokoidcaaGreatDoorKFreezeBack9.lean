/- For every list of entries and every text: the law FreezeBack returns true, and its arguments read as they did. Condition: arguments of bulk at most 1048576. -/
import Derived.Test.YtkmcjfkokoidcaaGreatDoorCards
import Derived.Test.YtkmcjfkokoidcaaGreatDoorTie
import Derived.Test.YtkmcjfkokoidcaaGreatDoorKFreezeBack4
import Derived.Test.YtkmcjfkokoidcaaGreatDoorKFreezeBack8
set_option maxHeartbeats 20000000
set_option maxRecDepth 100000
namespace Go.Proofs.YtkmcjfkokoidcaaGreatDoor.lawFreezeBack
open Go.RowKit Go.ChangeShapes Go.WideShapes Go.ChangeAt
theorem contract (H:Type) (enc:TypeId×Value->H) (W:World) (base:Nat) (args:Array Value) (ds gs:List (DataW H)) (before:List MemPlace)
 (hval: ∀(j:Nat) t v,Tryz.f9.params[j]? =some t->args[j]? =some v->Value.okWide Tryz.prog W .any base t v)
 (hW:DataW.Whole enc Tryz.prog Tryz.f9.params.toList Rows.freezeBackSpec.vars false W args.toList ds gs before) (hk:Rows.uptoSmall H (ds++gs)=true) (hL:laidMetH Tryz.prog Rows.freezeBackUptoRow.laid W):
 Calls Tryz.prog 9 args W fun e W'=> ∃v,e=.returned v/\Rows.freezeBackSpec.post enc Tryz.prog Tryz.f9 false true false false W args v W':=by
 have hW':=hW;obtain⟨p,q,hA0,hV,rfl,hfz,hnd⟩:=hW;have hA:DataW.TrodAll enc Tryz.prog W 0 (fun _=>true) true Tryz.f9.params.toList args.toList ds p:=hA0;rw[Tryz.params9]at hA hval;obtain⟨a0,as0,d0,ds0,p0,q0,hargs,rfl,rfl,h0,r0⟩:=trodAll_cons hA;obtain⟨a1,as1,d1,ds1,p1,q1,rfl,rfl,rfl,h1,r1⟩:=trodAll_cons r0;obtain⟨rfl,rfl,rfl⟩:=trodAll_nil r1;obtain rfl:args= #[a0,a1]:=by cases args;simp_all
 obtain⟨rfl,rfl⟩:=trodVars_none hV;obtain⟨es0,ea0,en0,ec0,rfl,hE0,hi0,hb0⟩:=Gb (hval 0 22 a0 rfl rfl) h0;obtain⟨s1,rfl,hb1⟩:=Sx (hval 1 9 a1 rfl rfl) h1;have hbk:=of_decide_eq_true hk;simp only[List.cons_append,List.nil_append,Rows.uptoBulkAll]at hbk;clear hA0;refine(Tg es0 s1 ea0 en0 ec0 W (I5 hL).1 (I5 hL).2 hE0 (by omega) hi0 (by omega)).mono fun e W' ⟨he,hb⟩=> ?_;subst he;exact⟨_,rfl,Gc (pa:=p0++(p1++([]))) (pv:= []) hW' (fun _ _ _=>trodAll_cons_mk (shut_bool Tryz.underlying4 _) trodAll_mk0) (fun _ hs=>(trodAll_cons_mk (Sg (by kernel_rfl) (by decide+kernel) h0 (fun x hx=>hW'.lt x (by simp[hx])) hb (fun x hx=>hs x (by simp[hx]))) (trodAll_cons_mk (Sg (by kernel_rfl) (by decide+kernel) h1 (fun x hx=>hW'.lt x (by simp[hx])) hb (fun x hx=>hs x (by simp[hx]))) trodAll_mk0))) (fun _ _=>rfl) rfl
  hb (ok_one (by kernel_rfl) rfl (okWide_bool_mk Tryz.underlying4 _))⟩
abbrev wargs:Array Value:= #[.slice none 0 0,.string ⟨#[]⟩]
theorem reads (os:Os) {H:Type} (enc:TypeId×Value->H): ∃places,DataW.whole enc Tryz.prog ((Eu os).forCall (fun _ _=>0) ⟨#[],wargs, []⟩).memory Tryz.f9.params.toList Rows.freezeBackSpec.vars false wargs.toList 8=some ([.nil,.lit (.string [])], [],places):=
 ⟨[],by kernel_rfl⟩
theorem lifted (os:Os) (started:os.Started) (H:Type) (enc:TypeId×Value->H) (F:Stop.Interp):
 ReturnsInHanded {} Tryz.checked os 9 .any ((Rows.OpenSpec.upto Rows.freezeBackSpec).preRow enc Tryz.prog Tryz.f9 Rows.freezeBackUptoRow.domain false Rows.freezeBackUptoRow.laid) (((Rows.OpenSpec.upto Rows.freezeBackSpec).at F).post enc Tryz.prog Tryz.f9 false true false false):=by
 obtain⟨places,hx⟩:=reads os enc;refine returnsInHanded_of_row (C:=Tryz.checked) (s:=Rows.OpenSpec.upto Rows.freezeBackSpec) Ng started (by kernel_rfl) Tryz.func9
  (witness_row_at (enc:=enc) (C:=Tryz.checked) false (Eu os) wargs rfl (by kernel_rfl) (by kernel_rfl) (by kernel_rfl)
    (OpenSpec.preRow_of_cond 8 hx (by kernel_rfl) (fun k hk=>by cases hk;kernel_rfl) (by kernel_rfl) (M9 os _))) ?_
 intro W base args ds gs before hval hW _ hcond _ hL _ _;exact contract H enc W base args ds gs before hval hW (hcond _ rfl) hL
theorem closed:joinedFacts Tryz.prog 9 Tryz.f9 (Rows.OpenSpec.upto Rows.freezeBackSpec).bare Rows.freezeBackUptoRow=true:=by
 unfold joinedFacts;simp only[Bool.and_eq_true]
 and_intros
 all_goals decide+kernel
theorem said:Rows.FreezeBackUptoSaid:=
 OpenClaim.holds_of_cond 9 Tryz.f9 rfl rfl rfl rfl rfl rfl rfl ⟨rfl,rfl,rfl,rfl,rfl⟩ rfl rfl rfl rfl rfl (by kernel_rfl) Tryz.func9 closed
  (of_decide_eq_true (by kernel_rfl)) (by unfold Func.isWrapper;first|(rw[if_pos (by decide+kernel)];kernel_rfl)|(rw[if_neg (by decide+kernel)];exact⟨rfl,rfl⟩))
  (fun os started H enc _ F=>by rw[OpenClaim.pre_eq_preRow];exact lifted os started H enc F)
theorem plain (f:FuncId) (fn:Func) (hf:Tryz.pinned.checked.prog.funcNamed "commonplace/commonplacelaw10.FreezeBack" =some f) (hfn:Tryz.pinned.checked.prog.funcs[f]? =some fn):
 true=Tryz.pinned.checked.prog.looks []/\ ∀(j:Nat) t,fn.params[j]? =some t->Tryz.pinned.checked.prog.wantsStandIn t=false:=by
 obtain rfl:f=9:=Option.some.inj ((show Tryz.prog.funcNamed "commonplace/commonplacelaw10.FreezeBack" =some 9 by kernel_rfl).symm.trans hf) |>.symm
 obtain rfl:fn=Tryz.f9:=(Option.some.inj (Tryz.func9.symm.trans hfn)).symm;refine⟨by kernel_rfl,fun j t ht=> ?_⟩;rw[Tryz.params9]at ht;have hm:=Array.mem_of_getElem? ht;simp only[List.mem_toArray,List.mem_cons,or_false,List.not_mem_nil]at hm;rcases hm with rfl|rfl
 . exact(show Tryz.prog.wantsStandIn 22=false by kernel_rfl)
 . exact(show Tryz.prog.wantsStandIn 9=false by kernel_rfl)
theorem card:Rows.FreezeBackUptoCardSaid:=
 Claim7.holds_tied_plain_at .later [] _ _ _ _ said (fun _ h=>by cases h) (by kernel_rfl) (fun _ h=>by cases h) freezeBackUpto_row_tie rfl ⟨rfl,rfl⟩ (by kernel_rfl) rfl plain (by kernel_rfl)
end Go.Proofs.YtkmcjfkokoidcaaGreatDoor.lawFreezeBack
