/- RulesTotal returns true for all arguments, and leaves them as they were; the variables that the row lists are tied to the program's text. No conditions on the arguments. -/
import Derived.Test.YthldagplhklbnaaDoorPart3
import Derived.Test.YthldagplhklbnaaDoorPart8
namespace Go.Proofs.YthldagplhklbnaaDoor
open Go Go.RowKit Go.Kx Go.Fr Go.ChangeShapes Go.WideShapes Go.ChangeAt

theorem rulesTotal_reads (os : Os) {H : Type} (enc : TypeId × Value → H) : ∃ places, DataW.whole enc Tryd.prog ((laidW os).forCall (fun _ _ => 0) ⟨#[], #[.agg #[.string .empty, .slice none 0 0, .slice none 0 0, .slice none 0 0, .slice none 0 0, .slice none 0 0, .slice none 0 0, .slice none 0 0, .int .i64 0]], []⟩).memory Tryd.f4.params.toList Rows.rulesTotalSpec.vars false (#[.agg #[.string .empty, .slice none 0 0, .slice none 0 0, .slice none 0 0, .slice none 0 0, .slice none 0 0, .slice none 0 0, .slice none 0 0, .int .i64 0]] : Array Value).toList 8 = some ([.agg [.lit (.string []), .nil, .nil, .nil, .nil, .nil, .nil, .nil, .lit (.int .i64 0)]], [], places) :=
  ⟨[], by kernel_rfl⟩
set_option maxRecDepth 100000 in
theorem rulesTotal_laid (os : Os) : laidMetH Tryd.prog Rows.rulesTotalRow.laid ((laidW os).forCall (fun _ _ => 0) ⟨#[], #[.agg #[.string .empty, .slice none 0 0, .slice none 0 0, .slice none 0 0, .slice none 0 0, .slice none 0 0, .slice none 0 0, .slice none 0 0, .int .i64 0]], []⟩).memory :=
  laidMet_of_run' 8 (by kernel_rfl) (by kernel_rfl)
set_option maxRecDepth 100000 in
theorem rulesTotal_lifted (os : Os) (started : os.Started) (H : Type) (enc : TypeId × Value → H) (F : Stop.Interp) :
    ReturnsInHanded {} Tryd.checked os 4 .any ((OpenSpec.ofChange Rows.rulesTotalSpec).preRow enc Tryd.prog Tryd.f4 Rows.rulesTotalRow.domain false Rows.rulesTotalRow.laid) (((OpenSpec.ofChange Rows.rulesTotalSpec).at F).post enc Tryd.prog Tryd.f4 false true false false) := by
  obtain ⟨places, hx⟩ := rulesTotal_reads os enc
  refine law_tied (C := Tryd.checked) (tb := 4) Tryd.own Tryd.laidOut started (by kernel_rfl) Tryd.func4 rfl Tryd.underlying4 rfl (by kernel_rfl) ?_
    (witness_ref (enc := enc) (C := Tryd.checked) (laidW os) #[.agg #[.string .empty, .slice none 0 0, .slice none 0 0, .slice none 0 0, .slice none 0 0, .slice none 0 0, .slice none 0 0, .slice none 0 0, .int .i64 0]] rfl (by kernel_rfl) (by kernel_rfl) (by kernel_rfl)
      (OpenSpec.preRow_of_cond 8 hx (by kernel_rfl) (fun k hk => by cases hk) (by kernel_rfl) (rulesTotal_laid os))) ?_
  · intro ds hds
    have hds' : ds.length = 1 := hds
    match ds, hds' with
    | [d0], _ => rfl
  · intro W args hA0 hL
    have hA : ArgsIn Tryd.prog W Tryd.f4.params.toList args.toList := hA0
    rw [Tryd.params4] at hA
    obtain ⟨v0, vs0, e0, h0, hA⟩ := hA.cons
    obtain rfl := hA.nil
    obtain ⟨args⟩ := args
    have e0' : args = [v0] := e0
    subst e0'
    obtain ⟨k0, r0, q0⟩ := arg_rules h0
    exact lawT_of (rulesTotal_any k0 r0) (tab_laid hL) (.cons q0 .nil)
theorem rulesTotal_said : Rows.RulesTotalSaid :=
  OpenClaim.holds_of_cond 4 Tryd.f4 rfl rfl rfl rfl rfl rfl rfl ⟨rfl, rfl, rfl, rfl, rfl⟩ rfl rfl rfl rfl rfl (by kernel_rfl) Tryd.func4 (by kernel_rfl)
    (of_decide_eq_true (by kernel_rfl)) (by unfold Func.isWrapper; first | (rw [if_pos (by decide +kernel)]; kernel_rfl) | (rw [if_neg (by decide +kernel)]; exact ⟨rfl, rfl⟩))
    (fun os started H enc _ F => by rw [OpenClaim.pre_eq_preRow]; exact rulesTotal_lifted os started H enc F)
theorem rulesTotal_plain (f : FuncId) (fn : Func) (hf : Tryd.pinned.checked.prog.funcNamed Rows.rulesTotalRow.func = some f) (hfn : Tryd.pinned.checked.prog.funcs[f]? = some fn) :
    false = Tryd.pinned.checked.prog.looks [] ∧ ∀ (j : Nat) t, fn.params[j]? = some t → Tryd.pinned.checked.prog.wantsStandIn t = false := by
  obtain rfl : f = 4 := Option.some.inj ((show Tryd.prog.funcNamed Rows.rulesTotalRow.func = some 4 by kernel_rfl).symm.trans hf) |>.symm
  obtain rfl : fn = Tryd.f4 := (Option.some.inj (Tryd.func4.symm.trans hfn)).symm
  refine ⟨by kernel_rfl, fun j t ht => ?_⟩
  have hall : Tryd.f4.params.toList.all (fun t => !Tryd.prog.wantsStandIn t) = true := by kernel_rfl
  have hm : t ∈ Tryd.f4.params.toList := by
    rw [Array.mem_toList_iff]
    exact Array.mem_of_getElem? ht
  have hw : Tryd.prog.wantsStandIn t = false := by simpa using List.all_eq_true.1 hall t hm
  exact hw
theorem rulesTotal_card : Rows.RulesTotalCardSaid :=
  Claim7.holds_tied_plain_at .later [] _ _ _ _ rulesTotal_said (fun _ h => by cases h) (by kernel_rfl) (fun _ h => by cases h) rulesTotal_row_tie rfl ⟨rfl, rfl⟩ (by kernel_rfl) rfl rulesTotal_plain (by kernel_rfl)
end Go.Proofs.YthldagplhklbnaaDoor
