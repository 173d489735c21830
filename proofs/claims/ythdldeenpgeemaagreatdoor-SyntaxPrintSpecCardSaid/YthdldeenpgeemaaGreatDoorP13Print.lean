/- SyntaxPrintSpec returns true for all arguments, and leaves them as they were; the variables that the row lists are tied to the program's text. No conditions on the arguments. -/
import Derived.Test.YthdldeenpgeemaaGreatDoorPart5
import Derived.Test.YthdldeenpgeemaaGreatDoorPartJ
import Derived.Test.YthdldeenpgeemaaGreatDoorPartB
set_option maxRecDepth 100000
namespace Go.Proofs.YthdldeenpgeemaaGreatDoor
open Go Go.RowKit Go.Kx Go.Fr Go.ChangeShapes Go.WideShapes Go.ChangeAt

theorem syntaxPrintSpec_reads (os:Os) {H:Type} (enc:TypeId×Value→H): ∃places,DataW.whole enc Tryz.prog ((Xi9 os).forCall (fun _ _=>0) ⟨#[],#[.agg #[.string .empty,.slice none 0 0,.slice none 0 0,.slice none 0 0,.slice none 0 0,.slice none 0 0,.slice none 0 0,.slice none 0 0,.int .i64 0]],[]⟩).memory Tryz.f4.params.toList Rows.syntaxPrintSpecSpec.vars false (#[.agg #[.string .empty,.slice none 0 0,.slice none 0 0,.slice none 0 0,.slice none 0 0,.slice none 0 0,.slice none 0 0,.slice none 0 0,.int .i64 0]]:Array Value).toList 8=some ([.agg [.lit (.string []),.nil,.nil,.nil,.nil,.nil,.nil,.nil,.lit (.int .i64 0)]],[],places):=
  ⟨[],by kernel_rfl⟩
theorem syntaxPrintSpec_laid (os:Os):laidMetH Tryz.prog Rows.syntaxPrintSpecRow.laid ((Xi9 os).forCall (fun _ _=>0) ⟨#[],#[.agg #[.string .empty,.slice none 0 0,.slice none 0 0,.slice none 0 0,.slice none 0 0,.slice none 0 0,.slice none 0 0,.slice none 0 0,.int .i64 0]],[]⟩).memory:=
  laidMet_of_run' 8 Yaw Yaw
theorem syntaxPrintSpec_lifted (os:Os) (started:os.Started) (H:Type) (enc:TypeId×Value→H) (F:Stop.Interp):
    ReturnsInHanded {} Tryz.checked os 4 .any ((OpenSpec.ofChange Rows.syntaxPrintSpecSpec).preRow enc Tryz.prog Tryz.f4 Rows.syntaxPrintSpecRow.domain false Rows.syntaxPrintSpecRow.laid) (((OpenSpec.ofChange Rows.syntaxPrintSpecSpec).at F).post enc Tryz.prog Tryz.f4 false true false false):=by
  obtain ⟨places,hx⟩:=syntaxPrintSpec_reads os enc
  refine Xik (C:=Tryz.checked) (tb:=4) Tryz.own Tryz.laidOut started Yaw Tryz.func4 rfl Tryz.underlying4 rfl Yaw ?_
    (Xcr (enc:=enc) (C:=Tryz.checked) (Xi9 os) #[.agg #[.string .empty,.slice none 0 0,.slice none 0 0,.slice none 0 0,.slice none 0 0,.slice none 0 0,.slice none 0 0,.slice none 0 0,.int .i64 0]] rfl Yaw Yaw Yaw
      (OpenSpec.preRow_of_cond 8 hx Yaw (fun k hk=>by cases hk) Yaw (syntaxPrintSpec_laid os))) ?_
  · intro ds hds
    have hds':ds.length=1:=hds
    match ds,hds' with
    | [d0],_=>rfl
  · intro W args hA0 hL
    have hA:ArgsIn Tryz.prog W Tryz.f4.params.toList args.toList:=hA0
    rw [Tryz.params4] at hA
    obtain ⟨v0,vs0,e0,h0,hA⟩:=hA.cons
    obtain rfl:=hA.nil
    obtain ⟨args⟩:=args
    have e0':args=[v0]:=e0
    subst e0'
    obtain ⟨k0,r0,q0⟩:=Xld h0
    exact Xj8 rfl (Xal k0 r0) (Xh3 hL) (.cons q0 .nil)
theorem syntaxPrintSpec_said:Rows.SyntaxPrintSpecSaid:=
  OpenClaim.holds_of_cond 4 Tryz.f4 rfl rfl rfl rfl rfl rfl rfl ⟨rfl,rfl,rfl,rfl,rfl⟩ rfl rfl rfl rfl rfl Yaw Tryz.func4 Yaw
    (of_decide_eq_true Yaw) Ye3
    (fun os started H enc _ F=>by rw [OpenClaim.pre_eq_preRow];exact syntaxPrintSpec_lifted os started H enc F)
theorem syntaxPrintSpec_plain (f:FuncId) (fn:Func) (hf:Tryz.pinned.checked.prog.funcNamed Rows.syntaxPrintSpecRow.func=some f) (hfn:Tryz.pinned.checked.prog.funcs[f]?=some fn):
    true=Tryz.pinned.checked.prog.looks []∧ ∀(j:Nat) t,fn.params[j]?=some t→Tryz.pinned.checked.prog.wantsStandIn t=false:=by
  obtain rfl:f=4:=Option.some.inj ((show Tryz.prog.funcNamed Rows.syntaxPrintSpecRow.func=some 4 by kernel_rfl).symm.trans hf) |>.symm
  obtain rfl:fn=Tryz.f4:=(Option.some.inj (Tryz.func4.symm.trans hfn)).symm
  refine ⟨by kernel_rfl,fun j t ht=>?_⟩
  have hall:Tryz.f4.params.toList.all (fun t=> !Tryz.prog.wantsStandIn t)=true:=by kernel_rfl
  have hm:t∈Tryz.f4.params.toList:=by
    rw [Array.mem_toList_iff]
    exact Array.mem_of_getElem? ht
  have hw:Tryz.prog.wantsStandIn t=false:=by simpa using List.all_eq_true.1 hall t hm
  exact hw
theorem syntaxPrintSpec_card:Rows.SyntaxPrintSpecCardSaid:=
  Claim7.holds_tied_plain_at .later [] _ _ _ _ syntaxPrintSpec_said (fun _ h=>by cases h) Yaw (fun _ h=>by cases h) syntaxPrintSpec_row_tie rfl ⟨rfl,rfl⟩ Yaw rfl syntaxPrintSpec_plain Yaw
end Go.Proofs.YthdldeenpgeemaaGreatDoor
