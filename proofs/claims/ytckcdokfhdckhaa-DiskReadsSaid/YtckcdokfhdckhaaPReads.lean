/- DiskReads returns true for all arguments, and leaves them as they were. No conditions. -/
import Derived.Test.YtckcdokfhdckhaaRows
import Derived.Test.YtckcdokfhdckhaaCkZ
import Derived.Test.YtckcdokfhdckhaaRdk
import Derived.ProofKit
namespace Go.Proofs.Ytckcdokfhdckhaa
open Go.RowKit Go.Kx Go.ChangeShapes Go.WideShapes Go.ChangeAt

set_option maxRecDepth 100000 in
theorem diskReads_lifted (os : Os) (started : os.Started) (H : Type) (enc : TypeId × Value → H) :
    ReturnsInHanded {} Try.checked os 7 .any (Rows.diskReadsSpec.pre6 enc Try.prog Try.f7 Rows.diskReadsRow.domain false) (Rows.diskReadsSpec.post enc Try.prog Try.f7 false true false false) := by
  refine law_lifted (C := Try.checked) (tb := 4) Try.own Try.laidOut started (by kernel_rfl) Try.func7 rfl Try.underlying4 rfl (by kernel_rfl) ?_
    (ChangeSpec.witness6 (enc := enc) (C := Try.checked) false ⟨#[], #[.agg #[.slice none 0 0, .slice none 0 0, .int .i64 0, .bool false], .int .i64 0, .int .i64 0, .slice none 0 0, .slice none 0 0], []⟩ 8 (by kernel_rfl) (by kernel_rfl) (by kernel_rfl) (by kernel_rfl)) ?_
  · intro ds hds
    have hds' : ds.length = 5 := hds
    match ds, hds' with
    | [d0, d1, d2, d3, d4], _ => rfl
  · intro W args hA0
    have hA : ArgsIn Try.prog W Try.f7.params.toList args.toList := hA0
    rw [Try.params7] at hA
    obtain ⟨v0, vs0, e0, h0, hA⟩ := hA.cons
    obtain ⟨v1, vs1, rfl, h1, hA⟩ := hA.cons
    obtain ⟨v2, vs2, rfl, h2, hA⟩ := hA.cons
    obtain ⟨v3, vs3, rfl, h3, hA⟩ := hA.cons
    obtain ⟨v4, vs4, rfl, h4, hA⟩ := hA.cons
    obtain rfl := hA.nil
    obtain ⟨args⟩ := args
    have e0' : args = [v0, v1, v2, v3, v4] := e0
    subst e0'
    obtain ⟨sa0, sn0, sc0, pa0, pn0, pc0, D0, rfl, q0⟩ := arg_disk h0
    obtain ⟨n1, rfl, q1⟩ := arg_int h1
    obtain ⟨n2, rfl, q2⟩ := arg_int h2
    obtain ⟨a3, n3, c3, l3, rfl, q3⟩ := arg_bytes h3
    obtain ⟨a4, n4, c4, l4, rfl, q4⟩ := arg_bytes h4
    exact reads_any W sa0 sn0 sc0 pa0 pn0 pc0 D0 n1 n2 a3 n3 c3 l3 a4 n4 c4 l4 q0 q1 q2 q3 q4

theorem diskReads_holds : Rows.DiskReadsSaid :=
  OpenClaim.holds_of_wide 7 Try.f7 rfl rfl rfl rfl rfl rfl rfl ⟨rfl, rfl, rfl, rfl, rfl⟩ rfl rfl rfl rfl rfl (by kernel_rfl) Try.func7 (by kernel_rfl)
    (of_decide_eq_true (by kernel_rfl)) (by unfold Func.isWrapper; first | (rw [if_pos (by decide +kernel)]; kernel_rfl) | (rw [if_neg (by decide +kernel)]; exact ⟨rfl, rfl⟩))
    (fun os started H enc _ => diskReads_lifted os started H enc)

end Go.Proofs.Ytckcdokfhdckhaa
