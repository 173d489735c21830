/- SyntaxSpec returns true for all arguments, and leaves them as they were; the variables that the row lists are tied to the program's text. No conditions on the arguments. -/
import Derived.Test.YthdldeenpgeemaaGreatDoorPart5
import Derived.Test.YthdldeenpgeemaaGreatDoorPartI
set_option maxRecDepth 100000
namespace Go.Proofs.YthdldeenpgeemaaGreatDoor
open Go Go.RowKit Go.Kx Go.Fr Go.ChangeShapes Go.WideShapes Go.ChangeAt

theorem syntaxSpec_reads (os:Os) {H:Type} (enc:TypeId×Value→H): ∃places,DataW.whole enc Tryz.prog ((Xi9 os).forCall (fun _ _=>0) ⟨#[],#[.string .empty],[]⟩).memory Tryz.f3.params.toList Rows.syntaxSpecSpec.vars false (#[.string .empty]:Array Value).toList 8=some ([.lit (.string [])],[],places):=
  ⟨[],by kernel_rfl⟩
theorem syntaxSpec_laid (os:Os):laidMetH Tryz.prog Rows.syntaxSpecRow.laid ((Xi9 os).forCall (fun _ _=>0) ⟨#[],#[.string .empty],[]⟩).memory:=
  laidMet_of_run' 8 Yaw Yaw
theorem syntaxSpec_lifted (os:Os) (started:os.Started) (H:Type) (enc:TypeId×Value→H) (F:Stop.Interp):
    ReturnsInHanded {} Tryz.checked os 3 .any ((OpenSpec.ofChange Rows.syntaxSpecSpec).preRow enc Tryz.prog Tryz.f3 Rows.syntaxSpecRow.domain false Rows.syntaxSpecRow.laid) (((OpenSpec.ofChange Rows.syntaxSpecSpec).at F).post enc Tryz.prog Tryz.f3 false true false false):=by
  obtain ⟨places,hx⟩:=syntaxSpec_reads os enc
  refine Xik (C:=Tryz.checked) (tb:=4) Tryz.own Tryz.laidOut started Yaw Tryz.func3 rfl Tryz.underlying4 rfl Yaw ?_
    (Xcr (enc:=enc) (C:=Tryz.checked) (Xi9 os) #[.string .empty] rfl Yaw Yaw Yaw
      (OpenSpec.preRow_of_cond 8 hx Yaw (fun k hk=>by cases hk) Yaw (syntaxSpec_laid os))) ?_
  · intro ds hds
    have hds':ds.length=1:=hds
    match ds,hds' with
    | [d0],_=>rfl
  · intro W args hA0 hL
    have hA:ArgsIn Tryz.prog W Tryz.f3.params.toList args.toList:=hA0
    rw [Tryz.params3] at hA
    obtain ⟨v0,vs0,e0,h0,hA⟩:=hA.cons
    obtain rfl:=hA.nil
    obtain ⟨args⟩:=args
    have e0':args=[v0]:=e0
    subst e0'
    obtain ⟨n0,q0,hi0⟩:=ArgIn.text h0 Tryz.underlying9
    exact Xj8 rfl (Xc8 n0) (Xh3 hL) (.cons q0 .nil)
theorem syntaxSpec_said:Rows.SyntaxSpecSaid:=
  OpenClaim.holds_of_cond 3 Tryz.f3 rfl rfl rfl rfl rfl rfl rfl ⟨rfl,rfl,rfl,rfl,rfl⟩ rfl rfl rfl rfl rfl Yaw Tryz.func3 Yaw
    (of_decide_eq_true Yaw) Ye3
    (fun os started H enc _ F=>by rw [OpenClaim.pre_eq_preRow];exact syntaxSpec_lifted os started H enc F)
theorem syntaxSpec_plain (f:FuncId) (fn:Func) (hf:Tryz.pinned.checked.prog.funcNamed Rows.syntaxSpecRow.func=some f) (hfn:Tryz.pinned.checked.prog.funcs[f]?=some fn):
    true=Tryz.pinned.checked.prog.looks []∧ ∀(j:Nat) t,fn.params[j]?=some t→Tryz.pinned.checked.prog.wantsStandIn t=false:=by
  obtain rfl:f=3:=Option.some.inj ((show Tryz.prog.funcNamed Rows.syntaxSpecRow.func=some 3 by kernel_rfl).symm.trans hf) |>.symm
  obtain rfl:fn=Tryz.f3:=(Option.some.inj (Tryz.func3.symm.trans hfn)).symm
  refine ⟨by kernel_rfl,fun j t ht=>?_⟩
  have hall:Tryz.f3.params.toList.all (fun t=> !Tryz.prog.wantsStandIn t)=true:=by kernel_rfl
  have hm:t∈Tryz.f3.params.toList:=by
    rw [Array.mem_toList_iff]
    exact Array.mem_of_getElem? ht
  have hw:Tryz.prog.wantsStandIn t=false:=by simpa using List.all_eq_true.1 hall t hm
  exact hw
theorem syntaxSpec_card:Rows.SyntaxSpecCardSaid:=
  Claim7.holds_tied_plain_at .later [] _ _ _ _ syntaxSpec_said (fun _ h=>by cases h) Yaw (fun _ h=>by cases h) syntaxSpec_row_tie rfl ⟨rfl,rfl⟩ Yaw rfl syntaxSpec_plain Yaw
end Go.Proofs.YthdldeenpgeemaaGreatDoor
