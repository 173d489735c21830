/- RulesLimits returns true for all arguments, and leaves them as they were; the variables that the row lists are tied to the program's text. No conditions on the arguments. -/
import Derived.Test.YthldagplhklbnaaDoorPart3
import Derived.Test.YthldagplhklbnaaDoorPart10
namespace Go.Proofs.YthldagplhklbnaaDoor
open Go Go.RowKit Go.Kx Go.Fr Go.ChangeShapes Go.WideShapes Go.ChangeAt

theorem rulesLimits_reads (os : Os) {H : Type} (enc : TypeId × Value → H) : ∃ places, DataW.whole enc Tryd.prog ((laidW os).forCall (fun _ _ => 0) ⟨#[], #[.agg #[.string .empty, .slice none 0 0, .slice none 0 0, .slice none 0 0, .slice none 0 0, .slice none 0 0, .slice none 0 0, .slice none 0 0, .int .i64 0], .int .u8 0, .int .u8 0], []⟩).memory Tryd.f5.params.toList Rows.rulesLimitsSpec.vars false (#[.agg #[.string .empty, .slice none 0 0, .slice none 0 0, .slice none 0 0, .slice none 0 0, .slice none 0 0, .slice none 0 0, .slice none 0 0, .int .i64 0], .int .u8 0, .int .u8 0] : Array Value).toList 8 = some ([.agg [.lit (.string []), .nil, .nil, .nil, .nil, .nil, .nil, .nil, .lit (.int .i64 0)], .lit (.int .u8 0), .lit (.int .u8 0)], [], places) :=
  ⟨[], by kernel_rfl⟩
set_option maxRecDepth 100000 in
theorem rulesLimits_laid (os : Os) : laidMetH Tryd.prog Rows.rulesLimitsRow.laid ((laidW os).forCall (fun _ _ => 0) ⟨#[], #[.agg #[.string .empty, .slice none 0 0, .slice none 0 0, .slice none 0 0, .slice none 0 0, .slice none 0 0, .slice none 0 0, .slice none 0 0, .int .i64 0], .int .u8 0, .int .u8 0], []⟩).memory :=
  laidMet_of_run' 8 (by kernel_rfl) (by kernel_rfl)
set_option maxRecDepth 100000 in
theorem rulesLimits_lifted (os : Os) (started : os.Started) (H : Type) (enc : TypeId × Value → H) (F : Stop.Interp) :
    ReturnsInHanded {} Tryd.checked os 5 .any ((OpenSpec.ofChange Rows.rulesLimitsSpec).preRow enc Tryd.prog Tryd.f5 Rows.rulesLimitsRow.domain false Rows.rulesLimitsRow.laid) (((OpenSpec.ofChange Rows.rulesLimitsSpec).at F).post enc Tryd.prog Tryd.f5 false true false false) := by
  obtain ⟨places, hx⟩ := rulesLimits_reads os enc
  refine law_tied (C := Tryd.checked) (tb := 4) Tryd.own Tryd.laidOut started (by kernel_rfl) Tryd.func5 rfl Tryd.underlying4 rfl (by kernel_rfl) ?_
    (witness_ref (enc := enc) (C := Tryd.checked) (laidW os) #[.agg #[.string .empty, .slice none 0 0, .slice none 0 0, .slice none 0 0, .slice none 0 0, .slice none 0 0, .slice none 0 0, .slice none 0 0, .int .i64 0], .int .u8 0, .int .u8 0] rfl (by kernel_rfl) (by kernel_rfl) (by kernel_rfl)
      (OpenSpec.preRow_of_cond 8 hx (by kernel_rfl) (fun k hk => by cases hk) (by kernel_rfl) (rulesLimits_laid os))) ?_
  · intro ds hds
    have hds' : ds.length = 3 := hds
    match ds, hds' with
    | [d0, d1, d2], _ => rfl
  · intro W args hA0 hL
    have hA : ArgsIn Tryd.prog W Tryd.f5.params.toList args.toList := hA0
    rw [Tryd.params5] at hA
    obtain ⟨v0, vs0, e0, h0, hA⟩ := hA.cons
    obtain ⟨v1, vs1, rfl, h1, hA⟩ := hA.cons
    obtain ⟨v2, vs2, rfl, h2, hA⟩ := hA.cons
    obtain rfl := hA.nil
    obtain ⟨args⟩ := args
    have e0' : args = [v0, v1, v2] := e0
    subst e0'
    obtain ⟨k0, r0, q0⟩ := arg_rules h0
    obtain ⟨n1, q1, lo1, hi1⟩ := ArgIn.int_ h1 Tryd.underlying5
    obtain ⟨n2, q2, lo2, hi2⟩ := ArgIn.int_ h2 Tryd.underlying5
    exact lawT_of (rulesLimits_int k0 r0 n1 lo1 hi1 n2 lo2 hi2) (tab_laid hL) (.cons q0 (.cons q1 (.cons q2 .nil)))
theorem rulesLimits_said : Rows.RulesLimitsSaid :=
  OpenClaim.holds_of_cond 5 Tryd.f5 rfl rfl rfl rfl rfl rfl rfl ⟨rfl, rfl, rfl, rfl, rfl⟩ rfl rfl rfl rfl rfl (by kernel_rfl) Tryd.func5 (by kernel_rfl)
    (of_decide_eq_true (by kernel_rfl)) (by unfold Func.isWrapper; first | (rw [if_pos (by decide +kernel)]; kernel_rfl) | (rw [if_neg (by decide +kernel)]; exact ⟨rfl, rfl⟩))
    (fun os started H enc _ F => by rw [OpenClaim.pre_eq_preRow]; exact rulesLimits_lifted os started H enc F)
theorem rulesLimits_plain (f : FuncId) (fn : Func) (hf : Tryd.pinned.checked.prog.funcNamed Rows.rulesLimitsRow.func = some f) (hfn : Tryd.pinned.checked.prog.funcs[f]? = some fn) :
    false = Tryd.pinned.checked.prog.looks [] ∧ ∀ (j : Nat) t, fn.params[j]? = some t → Tryd.pinned.checked.prog.wantsStandIn t = false := by
  obtain rfl : f = 5 := Option.some.inj ((show Tryd.prog.funcNamed Rows.rulesLimitsRow.func = some 5 by kernel_rfl).symm.trans hf) |>.symm
  obtain rfl : fn = Tryd.f5 := (Option.some.inj (Tryd.func5.symm.trans hfn)).symm
  refine ⟨by kernel_rfl, fun j t ht => ?_⟩
  have hall : Tryd.f5.params.toList.all (fun t => !Tryd.prog.wantsStandIn t) = true := by kernel_rfl
  have hm : t ∈ Tryd.f5.params.toList := by
    rw [Array.mem_toList_iff]
    exact Array.mem_of_getElem? ht
  have hw : Tryd.prog.wantsStandIn t = false := by simpa using List.all_eq_true.1 hall t hm
  exact hw
theorem rulesLimits_card : Rows.RulesLimitsCardSaid :=
  Claim7.holds_tied_plain_at .later [] _ _ _ _ rulesLimits_said (fun _ h => by cases h) (by kernel_rfl) (fun _ h => by cases h) rulesLimits_row_tie rfl ⟨rfl, rfl⟩ (by kernel_rfl) rfl rulesLimits_plain (by kernel_rfl)
end Go.Proofs.YthldagplhklbnaaDoor
