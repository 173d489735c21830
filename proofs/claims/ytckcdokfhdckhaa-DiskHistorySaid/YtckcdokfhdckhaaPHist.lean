/- DiskHistory returns true for all arguments, and leaves them as they were. No conditions. -/
import Derived.Test.YtckcdokfhdckhaaRows
import Derived.Test.YtckcdokfhdckhaaHb
import Derived.Test.YtckcdokfhdckhaaRda
import Derived.Test.YtckcdokfhdckhaaRdu
import Derived.ProofKit
namespace Go.Proofs.Ytckcdokfhdckhaa
open Go.RowKit Go.Kx Go.ChangeShapes Go.WideShapes Go.ChangeAt

set_option maxRecDepth 100000 in
theorem diskHistory_lifted (os : Os) (started : os.Started) (H : Type) (enc : TypeId × Value → H) :
    ReturnsInHanded {} Try.checked os 6 .any (Rows.diskHistorySpec.pre6 enc Try.prog Try.f6 Rows.diskHistoryRow.domain false) (Rows.diskHistorySpec.post enc Try.prog Try.f6 false true false false) := by
  refine law_lifted (C := Try.checked) (tb := 4) Try.own Try.laidOut started (by kernel_rfl) Try.func6 rfl Try.underlying4 rfl (by kernel_rfl) ?_
    (ChangeSpec.witness6 (enc := enc) (C := Try.checked) false ⟨#[], #[.slice none 0 0, .int .u8 0], []⟩ 8 (by kernel_rfl) (by kernel_rfl) (by kernel_rfl) (by kernel_rfl)) ?_
  · intro ds hds
    have hds' : ds.length = 2 := hds
    match ds, hds' with
    | [d0, d1], _ => rfl
  · intro W args hA0
    have hA : ArgsIn Try.prog W Try.f6.params.toList args.toList := hA0
    rw [Try.params6] at hA
    obtain ⟨v0, vs0, e0, h0, hA⟩ := hA.cons
    obtain ⟨v1, vs1, rfl, h1, hA⟩ := hA.cons
    obtain rfl := hA.nil
    obtain ⟨args⟩ := args
    have e0' : args = [v0, v1] := e0
    subst e0'
    obtain ⟨a0, n0, c0, l0, rfl, q0⟩ := arg_acts h0
    obtain ⟨n1, rfl⟩ := arg_u8 h1
    exact history_run W a0 n0 c0 l0 n1 q0

theorem diskHistory_holds : Rows.DiskHistorySaid :=
  OpenClaim.holds_of_wide 6 Try.f6 rfl rfl rfl rfl rfl rfl rfl ⟨rfl, rfl, rfl, rfl, rfl⟩ rfl rfl rfl rfl rfl (by kernel_rfl) Try.func6 (by kernel_rfl)
    (of_decide_eq_true (by kernel_rfl)) (by unfold Func.isWrapper; first | (rw [if_pos (by decide +kernel)]; kernel_rfl) | (rw [if_neg (by decide +kernel)]; exact ⟨rfl, rfl⟩))
    (fun os started H enc _ => diskHistory_lifted os started H enc)

end Go.Proofs.Ytckcdokfhdckhaa
