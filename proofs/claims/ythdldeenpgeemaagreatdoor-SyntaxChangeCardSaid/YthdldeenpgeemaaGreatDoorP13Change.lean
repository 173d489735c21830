/- SyntaxChange returns true for all arguments, and leaves them as they were; the variables that the row lists are tied to the program's text. No conditions on the arguments. -/
import Derived.Test.YthdldeenpgeemaaGreatDoorPart5
import Derived.Test.YthdldeenpgeemaaGreatDoorPartB
namespace Go.Proofs.YthdldeenpgeemaaGreatDoor
open Go Go.RowKit Go.Kx Go.Fr Go.ChangeShapes Go.WideShapes Go.ChangeAt

theorem syntaxChange_reads (os : Os) {H : Type} (enc : TypeId × Value → H) : ∃ places, DataW.whole enc Tryz.prog ((laidW os).forCall (fun _ _ => 0) ⟨#[], #[.string .empty, .int .i64 0, .agg #[.int .i64 0, .string .empty, .int .i64 0, .int .i64 0]], []⟩).memory Tryz.f6.params.toList Rows.syntaxChangeSpec.vars false (#[.string .empty, .int .i64 0, .agg #[.int .i64 0, .string .empty, .int .i64 0, .int .i64 0]] : Array Value).toList 8 = some ([.lit (.string []), .lit (.int .i64 0), .agg [.lit (.int .i64 0), .lit (.string []), .lit (.int .i64 0), .lit (.int .i64 0)]], [], places) :=
  ⟨[], by kernel_rfl⟩
set_option maxRecDepth 100000 in
theorem syntaxChange_laid (os : Os) : laidMetH Tryz.prog Rows.syntaxChangeRow.laid ((laidW os).forCall (fun _ _ => 0) ⟨#[], #[.string .empty, .int .i64 0, .agg #[.int .i64 0, .string .empty, .int .i64 0, .int .i64 0]], []⟩).memory :=
  laidMet_of_run' 8 (by kernel_rfl) (by kernel_rfl)
set_option maxRecDepth 100000 in
theorem syntaxChange_lifted (os : Os) (started : os.Started) (H : Type) (enc : TypeId × Value → H) (F : Stop.Interp) :
    ReturnsInHanded {} Tryz.checked os 6 .any ((OpenSpec.ofChange Rows.syntaxChangeSpec).preRow enc Tryz.prog Tryz.f6 Rows.syntaxChangeRow.domain false Rows.syntaxChangeRow.laid) (((OpenSpec.ofChange Rows.syntaxChangeSpec).at F).post enc Tryz.prog Tryz.f6 false true false false) := by
  obtain ⟨places, hx⟩ := syntaxChange_reads os enc
  refine law_tied (C := Tryz.checked) (tb := 4) Tryz.own Tryz.laidOut started (by kernel_rfl) Tryz.func6 rfl Tryz.underlying4 rfl (by kernel_rfl) ?_
    (witness_ref (enc := enc) (C := Tryz.checked) (laidW os) #[.string .empty, .int .i64 0, .agg #[.int .i64 0, .string .empty, .int .i64 0, .int .i64 0]] rfl (by kernel_rfl) (by kernel_rfl) (by kernel_rfl)
      (OpenSpec.preRow_of_cond 8 hx (by kernel_rfl) (fun k hk => by cases hk) (by kernel_rfl) (syntaxChange_laid os))) ?_
  · intro ds hds
    have hds' : ds.length = 3 := hds
    match ds, hds' with
    | [d0, d1, d2], _ => rfl
  · intro W args hA0 hL
    have hA : ArgsIn Tryz.prog W Tryz.f6.params.toList args.toList := hA0
    rw [Tryz.params6] at hA
    obtain ⟨v0, vs0, e0, h0, hA⟩ := hA.cons
    obtain ⟨v1, vs1, rfl, h1, hA⟩ := hA.cons
    obtain ⟨v2, vs2, rfl, h2, hA⟩ := hA.cons
    obtain rfl := hA.nil
    obtain ⟨args⟩ := args
    have e0' : args = [v0, v1, v2] := e0
    subst e0'
    obtain ⟨n0, q0, hi0⟩ := ArgIn.text h0 Tryz.underlying9
    obtain ⟨n1, q1, lo1, hi1⟩ := ArgIn.int_ h1 Tryz.underlying3
    obtain ⟨k2, r2, q2⟩ := arg_token h2
    exact lawL_of rfl (syntaxChange_any n0 n1 r2) (lab_laid hL) (.cons q0 (.cons q1 (.cons q2 .nil)))
theorem syntaxChange_said : Rows.SyntaxChangeSaid :=
  OpenClaim.holds_of_cond 6 Tryz.f6 rfl rfl rfl rfl rfl rfl rfl ⟨rfl, rfl, rfl, rfl, rfl⟩ rfl rfl rfl rfl rfl (by kernel_rfl) Tryz.func6 (by kernel_rfl)
    (of_decide_eq_true (by kernel_rfl)) (by unfold Func.isWrapper; first | (rw [if_pos (by decide +kernel)]; kernel_rfl) | (rw [if_neg (by decide +kernel)]; exact ⟨rfl, rfl⟩))
    (fun os started H enc _ F => by rw [OpenClaim.pre_eq_preRow]; exact syntaxChange_lifted os started H enc F)
theorem syntaxChange_plain (f : FuncId) (fn : Func) (hf : Tryz.pinned.checked.prog.funcNamed Rows.syntaxChangeRow.func = some f) (hfn : Tryz.pinned.checked.prog.funcs[f]? = some fn) :
    true = Tryz.pinned.checked.prog.looks [] ∧ ∀ (j : Nat) t, fn.params[j]? = some t → Tryz.pinned.checked.prog.wantsStandIn t = false := by
  obtain rfl : f = 6 := Option.some.inj ((show Tryz.prog.funcNamed Rows.syntaxChangeRow.func = some 6 by kernel_rfl).symm.trans hf) |>.symm
  obtain rfl : fn = Tryz.f6 := (Option.some.inj (Tryz.func6.symm.trans hfn)).symm
  refine ⟨by kernel_rfl, fun j t ht => ?_⟩
  have hall : Tryz.f6.params.toList.all (fun t => !Tryz.prog.wantsStandIn t) = true := by kernel_rfl
  have hm : t ∈ Tryz.f6.params.toList := by
    rw [Array.mem_toList_iff]
    exact Array.mem_of_getElem? ht
  have hw : Tryz.prog.wantsStandIn t = false := by simpa using List.all_eq_true.1 hall t hm
  exact hw
theorem syntaxChange_card : Rows.SyntaxChangeCardSaid :=
  Claim7.holds_tied_plain_at .later [] _ _ _ _ syntaxChange_said (fun _ h => by cases h) (by kernel_rfl) (fun _ h => by cases h) syntaxChange_row_tie rfl ⟨rfl, rfl⟩ (by kernel_rfl) rfl syntaxChange_plain (by kernel_rfl)
end Go.Proofs.YthdldeenpgeemaaGreatDoor
