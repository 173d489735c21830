/- NamesParsed returns true for all arguments, and leaves them as they were; the variables that the row lists are tied to the program's text. No conditions on the arguments. -/
import Derived.Test.YthdldeenpgeemaaGreatDoorLz
import Derived.Test.YthdldeenpgeemaaGreatDoorPartF
set_option maxRecDepth 100000
namespace Go.Proofs.YthdldeenpgeemaaGreatDoor
open Go Go.RowKit Go.Kx Go.Fr Go.ChangeShapes Go.WideShapes Go.ChangeAt

theorem namesParsed_reads (os:Os) {H:Type} (enc:TypeId×Value→H): ∃places,DataW.whole enc Tryz.prog ((Xpu os).forCall (fun _ _=>0) ⟨#[],#[.agg #[.string .empty,.slice none 0 0,.slice none 0 0,.slice none 0 0,.slice none 0 0,.slice none 0 0,.slice none 0 0,.slice none 0 0,.int .i64 0]],[]⟩).memory Tryz.f9.params.toList Rows.namesParsedSpec.vars false (#[.agg #[.string .empty,.slice none 0 0,.slice none 0 0,.slice none 0 0,.slice none 0 0,.slice none 0 0,.slice none 0 0,.slice none 0 0,.int .i64 0]]:Array Value).toList 8=some ([.agg [.lit (.string []),.nil,.nil,.nil,.nil,.nil,.nil,.nil,.lit (.int .i64 0)]],[],places):=
  ⟨[],by kernel_rfl⟩
theorem namesParsed_laid (os:Os):laidMetH Tryz.prog Rows.namesParsedRow.laid ((Xpu os).forCall (fun _ _=>0) ⟨#[],#[.agg #[.string .empty,.slice none 0 0,.slice none 0 0,.slice none 0 0,.slice none 0 0,.slice none 0 0,.slice none 0 0,.slice none 0 0,.int .i64 0]],[]⟩).memory:=
  laidMet_of_run' 8 Yat Yat
theorem namesParsed_lifted (os:Os) (started:os.Started) (H:Type) (enc:TypeId×Value→H) (F:Stop.Interp):
    ReturnsInHanded {} Tryz.checked os 9 .any ((OpenSpec.ofChange Rows.namesParsedSpec).preRow enc Tryz.prog Tryz.f9 Rows.namesParsedRow.domain false Rows.namesParsedRow.laid) (((OpenSpec.ofChange Rows.namesParsedSpec).at F).post enc Tryz.prog Tryz.f9 false true false false):=by
  obtain ⟨places,hx⟩:=namesParsed_reads os enc
  refine Xom (C:=Tryz.checked) (tb:=4) Tryz.own Tryz.laidOut started Yat Tryz.func9 rfl Tryz.underlying4 rfl Yat ?_
    (Xh2 (enc:=enc) (C:=Tryz.checked) (Xpu os) #[.agg #[.string .empty,.slice none 0 0,.slice none 0 0,.slice none 0 0,.slice none 0 0,.slice none 0 0,.slice none 0 0,.slice none 0 0,.int .i64 0]] rfl Yat Yat Yat
      (OpenSpec.preRow_of_cond 8 hx Yat (fun k hk=>by cases hk) Yat (namesParsed_laid os))) ?_
  · intro ds hds
    have hds':ds.length=1:=hds
    match ds,hds' with
    | [d0],_=>rfl
  · intro W args hA0 hL
    have hA:ArgsIn Tryz.prog W Tryz.f9.params.toList args.toList:=hA0
    rw [Tryz.params9] at hA
    obtain ⟨v0,vs0,e0,h0,hA⟩:=hA.cons
    obtain rfl:=hA.nil
    obtain ⟨args⟩:=args
    have e0':args=[v0]:=e0
    subst e0'
    obtain ⟨k0,r0,q0⟩:=Xmh h0
    exact Xpt rfl rfl (Xde k0 r0) (⟨Xk0 hL,Xk1 hL⟩) (.cons q0 .nil)
theorem namesParsed_said:Rows.NamesParsedSaid:=
  OpenClaim.holds_of_cond 9 Tryz.f9 rfl rfl rfl rfl rfl rfl rfl ⟨rfl,rfl,rfl,rfl,rfl⟩ rfl rfl rfl rfl rfl Yat Tryz.func9 Yat
    (of_decide_eq_true Yat) (by unfold Func.isWrapper;first|(rw [if_pos Yaa];kernel_rfl)|(rw [if_neg Yaa];exact ⟨rfl,rfl⟩))
    (fun os started H enc _ F=>by rw [OpenClaim.pre_eq_preRow];exact namesParsed_lifted os started H enc F)
theorem namesParsed_plain (f:FuncId) (fn:Func) (hf:Tryz.pinned.checked.prog.funcNamed Rows.namesParsedRow.func=some f) (hfn:Tryz.pinned.checked.prog.funcs[f]?=some fn):
    true=Tryz.pinned.checked.prog.looks []∧ ∀(j:Nat) t,fn.params[j]?=some t→Tryz.pinned.checked.prog.wantsStandIn t=false:=by
  obtain rfl:f=9:=Option.some.inj ((show Tryz.prog.funcNamed Rows.namesParsedRow.func=some 9 by kernel_rfl).symm.trans hf) |>.symm
  obtain rfl:fn=Tryz.f9:=(Option.some.inj (Tryz.func9.symm.trans hfn)).symm
  refine ⟨by kernel_rfl,fun j t ht=>?_⟩
  have hall:Tryz.f9.params.toList.all (fun t=> !Tryz.prog.wantsStandIn t)=true:=by kernel_rfl
  have hm:t∈Tryz.f9.params.toList:=by
    rw [Array.mem_toList_iff]
    exact Array.mem_of_getElem? ht
  have hw:Tryz.prog.wantsStandIn t=false:=by simpa using List.all_eq_true.1 hall t hm
  exact hw
theorem namesParsed_card:Rows.NamesParsedCardSaid:=
  Claim7.holds_tied_plain_at .later [] _ _ _ _ namesParsed_said (fun _ h=>by cases h) Yat (fun _ h=>by cases h) namesParsed_row_tie rfl ⟨rfl,rfl⟩ Yat rfl namesParsed_plain Yat
end Go.Proofs.YthdldeenpgeemaaGreatDoor
