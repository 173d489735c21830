/- DiskTogether returns true for all arguments, and leaves them as they were. No conditions. -/
import Derived.Test.YtckcdokfhdckhaaRows
import Derived.Test.YtckcdokfhdckhaaCkTg
import Derived.Test.YtckcdokfhdckhaaRda
import Derived.ProofKit
namespace Go.Proofs.Ytckcdokfhdckhaa
open Go.RowKit Go.Kx Go.ChangeShapes Go.WideShapes Go.ChangeAt

set_option maxRecDepth 100000 in
theorem diskTogether_lifted (os : Os) (started : os.Started) (H : Type) (enc : TypeId × Value → H) :
    ReturnsInHanded {} Try.checked os 8 .any (Rows.diskTogetherSpec.pre6 enc Try.prog Try.f8 Rows.diskTogetherRow.domain false) (Rows.diskTogetherSpec.post enc Try.prog Try.f8 false true false false) := by
  refine law_lifted (C := Try.checked) (tb := 4) Try.own Try.laidOut started (by kernel_rfl) Try.func8 rfl Try.underlying4 rfl (by kernel_rfl) ?_
    (ChangeSpec.witness6 (enc := enc) (C := Try.checked) false ⟨#[], #[.agg #[.slice none 0 0, .slice none 0 0, .int .i64 0, .bool false], .slice none 0 0], []⟩ 8 (by kernel_rfl) (by kernel_rfl) (by kernel_rfl) (by kernel_rfl)) ?_
  · intro ds hds
    have hds' : ds.length = 2 := hds
    match ds, hds' with
    | [d0, d1], _ => rfl
  · intro W args hA0
    have hA : ArgsIn Try.prog W Try.f8.params.toList args.toList := hA0
    rw [Try.params8] at hA
    obtain ⟨v0, vs0, e0, h0, hA⟩ := hA.cons
    obtain ⟨v1, vs1, rfl, h1, hA⟩ := hA.cons
    obtain rfl := hA.nil
    obtain ⟨args⟩ := args
    have e0' : args = [v0, v1] := e0
    subst e0'
    obtain ⟨sa0, sn0, sc0, pa0, pn0, pc0, D0, rfl, q0⟩ := arg_disk h0
    obtain ⟨a1, n1, c1, l1, rfl, q1⟩ := arg_acts h1
    exact together_any W sa0 sn0 sc0 pa0 pn0 pc0 D0 a1 n1 c1 l1 q0 q1

theorem diskTogether_holds : Rows.DiskTogetherSaid :=
  OpenClaim.holds_of_wide 8 Try.f8 rfl rfl rfl rfl rfl rfl rfl ⟨rfl, rfl, rfl, rfl, rfl⟩ rfl rfl rfl rfl rfl (by kernel_rfl) Try.func8 (by kernel_rfl)
    (of_decide_eq_true (by kernel_rfl)) (by unfold Func.isWrapper; first | (rw [if_pos (by decide +kernel)]; kernel_rfl) | (rw [if_neg (by decide +kernel)]; exact ⟨rfl, rfl⟩))
    (fun os started H enc _ => diskTogether_lifted os started H enc)

end Go.Proofs.Ytckcdokfhdckhaa
