/- JournalSteps returns true for all arguments of bulk at most 1048576 together, and leaves them as they were. Condition: the bulk. -/
import Derived.Test.YtmghnjahjeinnaaRows
import Derived.Test.YtmghnjahjeinnaaOc
import Derived.Test.YtmghnjahjeinnaaJour7
import Derived.ProofKit
import Derived.JoinedCond
namespace Go.Proofs.Ytmghnjahjeinnaa
open Go.RowKit Go.Kx Go.ChangeShapes Go.WideShapes Go.ChangeAt

set_option maxRecDepth 100000 in
theorem journalSteps_lifted (os : Os) (started : os.Started) (H : Type) (enc : TypeId × Value → H) (F : Stop.Interp) :
    ReturnsInHanded {} Try.checked os 8 .any ((Rows.OpenSpec.upto Rows.journalStepsSpec).pre6 enc Try.prog Try.f8 Rows.journalStepsUptoRow.domain false) (((Rows.OpenSpec.upto Rows.journalStepsSpec).at F).post enc Try.prog Try.f8 false true false false) := by
  refine law_lifted_upto (C := Try.checked) (tb := 4) (s := Rows.journalStepsSpec) Try.own Try.laidOut started (by kernel_rfl) Try.func8 rfl Try.underlying4 rfl (by kernel_rfl) ?_
    (OpenSpec.witness (enc := enc) (C := Try.checked) (s := Rows.OpenSpec.upto Rows.journalStepsSpec) (k := Rows.uptoSmall) rfl false ⟨#[], #[.slice none 0 0, .slice none 0 0], []⟩ 8 (by kernel_rfl) (by kernel_rfl) (by kernel_rfl)
      (x := ([.nil, .nil], [], [])) (by kernel_rfl) rfl (by kernel_rfl)) ?_
  · intro ds hds
    have hds' : ds.length = 2 := hds
    match ds, hds' with
    | [d0, d1], _ => rfl
  · intro W args hA0
    have hA : ArgsU Try.prog W Try.f8.params.toList args.toList := hA0
    rw [Try.params8] at hA
    obtain ⟨v0, vs0, e0, h0, hA⟩ := hA.cons
    obtain ⟨v1, vs1, rfl, h1, hA⟩ := hA.cons
    obtain rfl := hA.nil
    obtain ⟨args⟩ := args
    have e0' : args = [v0, v1] := e0
    subst e0'
    obtain ⟨a0, n0, c0, l0, rfl, q0, r0⟩ := arg_rowsU h0
    obtain ⟨a1, n1, c1, l1, rfl, q1, r1⟩ := arg_rowsU h1
    exact steps_run W a0 n0 c0 l0 a1 n1 c1 l1 q0 r0 q1 r1

theorem journalSteps_upto_holds : Rows.JournalStepsUptoSaid :=
  OpenClaim.holds_of_cond 8 Try.f8 rfl rfl rfl rfl rfl rfl rfl ⟨rfl, rfl, rfl, rfl, rfl⟩ rfl rfl rfl rfl rfl (by kernel_rfl) Try.func8 (by kernel_rfl)
    (of_decide_eq_true (by kernel_rfl)) (by unfold Func.isWrapper; first | (rw [if_pos (by decide +kernel)]; kernel_rfl) | (rw [if_neg (by decide +kernel)]; exact ⟨rfl, rfl⟩))
    (fun os started H enc _ F => journalSteps_lifted os started H enc F)

end Go.Proofs.Ytmghnjahjeinnaa
