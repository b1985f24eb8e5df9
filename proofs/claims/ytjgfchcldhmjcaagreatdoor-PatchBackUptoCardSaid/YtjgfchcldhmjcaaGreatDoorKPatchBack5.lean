/- For every list of ops and every text: the law PatchBack returns true, and its arguments read as they did. Condition: arguments of bulk at most 1048576. -/
import Derived.Test.YtjgfchcldhmjcaaGreatDoorCards
import Derived.Test.YtjgfchcldhmjcaaGreatDoorTie
import Derived.Test.YtjgfchcldhmjcaaGreatDoorKPatchBack2
import Derived.Test.YtjgfchcldhmjcaaGreatDoorKPatchBack4
set_option maxHeartbeats 20000000
set_option maxRecDepth 100000
namespace Go.Proofs.YtjgfchcldhmjcaaGreatDoor.lawPatchBack
open Go.RowKit Go.ChangeShapes Go.WideShapes Go.ChangeAt
theorem contract (H:Type) (enc:TypeId×Value->H) (W:World) (base:Nat) (args:Array Value) (g y:List (DataW H)) (b:List MemPlace)
 (a: ∀(j:Nat) t v,Tryz.f5.params[j]? =some t->args[j]? =some v->Value.okWide Tryz.prog W .any base t v)
 (B:DataW.Whole enc Tryz.prog Tryz.f5.params.toList Rows.patchBackSpec.vars false W args.toList g y b) (N:Rows.uptoSmall H (g++y)=true) (h:laidMetH Tryz.prog Rows.patchBackUptoRow.laid W):
 Calls Tryz.prog 5 args W fun e u=> ∃v,e=.returned v/\Rows.patchBackSpec.post enc Tryz.prog Tryz.f5 false true false false W args v u:=by
 have c:=B;obtain⟨p,q,f,I,rfl,M,O⟩:=B;have A:DataW.TrodAll enc Tryz.prog W 0 (fun _=>true) true Tryz.f5.params.toList args.toList g p:=f;rw[Tryz.params5]at A a;obtain⟨w,D,d0,F,Q,V,i,rfl,rfl,h0,S⟩:=trodAll_cons A;obtain⟨a1,E,d1,G,R,X,rfl,rfl,rfl,z,T⟩:=trodAll_cons S;obtain⟨rfl,rfl,rfl⟩:=trodAll_nil T;obtain rfl:args= #[w,a1]:=by cases args;simp_all
 obtain⟨rfl,rfl⟩:=trodVars_none I;obtain⟨P,o,s,r,rfl,m,n,J⟩:=X7 (a 0 50 w rfl rfl) h0;obtain⟨U,rfl,K⟩:=R5 (a 1 9 a1 rfl rfl) z;have l:=of_decide_eq_true N;simp only[List.cons_append,List.nil_append,Rows.uptoBulkAll]at l;clear f;refine(Uo P U o s r W (Alj h) (Ac4 h) (Ajd h) m (by omega) n (by omega)).mono fun e u ⟨L,k⟩=> ?_;subst L;exact⟨_,rfl,U3 (pa:=Q++(R++([]))) (pv:= []) c (fun _ _ _=>trodAll_cons_mk (shut_bool Tryz.underlying4 _) trodAll_mk0) (fun _ C=>(trodAll_cons_mk (Alz (by kernel_rfl) (by decide+kernel) h0 (fun x d=>c.lt x (by simp[d])) k (fun x d=>C x (by simp[d]))) (trodAll_cons_mk (Alz (by kernel_rfl) (by decide+kernel) z (fun x d=>c.lt x (by simp[d])) k (fun x d=>C x (by simp[d]))) trodAll_mk0))) (fun _ _=>rfl) rfl
  k (ok_one (by kernel_rfl) rfl (okWide_bool_mk Tryz.underlying4 _))⟩
abbrev wargs:Array Value:= #[.slice none 0 0,.string ⟨#[]⟩]
theorem reads (os:Os) {H:Type} (enc:TypeId×Value->H): ∃a,DataW.whole enc Tryz.prog ((Qa os).forCall (fun _ _=>0) ⟨#[],wargs, []⟩).memory Tryz.f5.params.toList Rows.patchBackSpec.vars false wargs.toList 8=some ([.nil,.lit (.string [])], [],a):=
 ⟨[],by kernel_rfl⟩
theorem lifted (os:Os) (a:os.Started) (H:Type) (enc:TypeId×Value->H) (F:Stop.Interp):
 ReturnsInHanded {} Tryz.checked os 5 .any ((Rows.OpenSpec.upto Rows.patchBackSpec).preRow enc Tryz.prog Tryz.f5 Rows.patchBackUptoRow.domain false Rows.patchBackUptoRow.laid) (((Rows.OpenSpec.upto Rows.patchBackSpec).at F).post enc Tryz.prog Tryz.f5 false true false false):=by
 obtain⟨e,l⟩:=reads os enc;refine returnsInHanded_of_row (C:=Tryz.checked) (s:=Rows.OpenSpec.upto Rows.patchBackSpec) Ajl a (by kernel_rfl) Tryz.func5
  (witness_row_at (enc:=enc) (C:=Tryz.checked) false (Qa os) wargs rfl (by kernel_rfl) (by kernel_rfl) (by kernel_rfl)
    (OpenSpec.preRow_of_cond 8 l (by kernel_rfl) (fun k j=>by cases j;kernel_rfl) (by kernel_rfl) (Ai1 os _))) ?_
 intro W base args f g b d i _ c _ h _ _;exact contract H enc W base args f g b d i (c _ rfl) h
theorem closed:joinedFacts Tryz.prog 5 Tryz.f5 (Rows.OpenSpec.upto Rows.patchBackSpec).bare Rows.patchBackUptoRow=true:=by
 unfold joinedFacts;simp only[Bool.and_eq_true]
 and_intros
 all_goals decide+kernel
theorem said:Rows.PatchBackUptoSaid:=
 OpenClaim.holds_of_cond 5 Tryz.f5 rfl rfl rfl rfl rfl rfl rfl ⟨rfl,rfl,rfl,rfl,rfl⟩ rfl rfl rfl rfl rfl (by kernel_rfl) Tryz.func5 closed
  (of_decide_eq_true (by kernel_rfl)) (by unfold Func.isWrapper;first|(rw[if_pos (by decide+kernel)];kernel_rfl)|(rw[if_neg (by decide+kernel)];exact⟨rfl,rfl⟩))
  (fun os a H enc _ F=>by rw[OpenClaim.pre_eq_preRow];exact lifted os a H enc F)
theorem plain (f:FuncId) (fn:Func) (d:Tryz.pinned.checked.prog.funcNamed "commonplace/commonplacelaw14.PatchBack" =some f) (a:Tryz.pinned.checked.prog.funcs[f]? =some fn):
 true=Tryz.pinned.checked.prog.looks []/\ ∀(j:Nat) t,fn.params[j]? =some t->Tryz.pinned.checked.prog.wantsStandIn t=false:=by
 obtain rfl:f=5:=Option.some.inj ((show Tryz.prog.funcNamed "commonplace/commonplacelaw14.PatchBack" =some 5 by kernel_rfl).symm.trans d) |>.symm
 obtain rfl:fn=Tryz.f5:=(Option.some.inj (Tryz.func5.symm.trans a)).symm;refine⟨by kernel_rfl,fun j t c=> ?_⟩;rw[Tryz.params5]at c;have b:=Array.mem_of_getElem? c;simp only[List.mem_toArray,List.mem_cons,or_false,List.not_mem_nil]at b;rcases b with rfl|rfl
 . exact(show Tryz.prog.wantsStandIn 50=false by kernel_rfl)
 . exact(show Tryz.prog.wantsStandIn 9=false by kernel_rfl)
theorem card:Rows.PatchBackUptoCardSaid:=
 Claim7.holds_tied_plain_at .later [] _ _ _ _ said (fun _ h=>by cases h) (by kernel_rfl) (fun _ h=>by cases h) patchBackUpto_row_tie rfl ⟨rfl,rfl⟩ (by kernel_rfl) rfl plain (by kernel_rfl)
end Go.Proofs.YtjgfchcldhmjcaaGreatDoor.lawPatchBack
