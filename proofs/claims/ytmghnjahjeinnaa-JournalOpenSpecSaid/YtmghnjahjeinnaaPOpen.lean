/- JournalOpenSpec returns true for all arguments, and leaves them as they were. No conditions. -/
import Derived.Test.YtmghnjahjeinnaaRows
import Derived.Test.YtmghnjahjeinnaaJour6
import Derived.Test.YtmghnjahjeinnaaJour7
import Derived.ProofKit
namespace Go.Proofs.Ytmghnjahjeinnaa
open Go.RowKit Go.Kx Go.ChangeShapes Go.WideShapes Go.ChangeAt

set_option maxRecDepth 100000 in
theorem journalOpenSpec_lifted (os : Os) (started : os.Started) (H : Type) (enc : TypeId × Value → H) :
    ReturnsInHanded {} Try.checked os 3 .any (Rows.journalOpenSpecSpec.pre6 enc Try.prog Try.f3 Rows.journalOpenSpecRow.domain false) (Rows.journalOpenSpecSpec.post enc Try.prog Try.f3 false true false false) := by
  refine law_lifted (C := Try.checked) (tb := 4) Try.own Try.laidOut started (by kernel_rfl) Try.func3 rfl Try.underlying4 rfl (by kernel_rfl) ?_
    (ChangeSpec.witness6 (enc := enc) (C := Try.checked) false ⟨#[], #[.agg #[.slice none 0 0, .slice none 0 0, .int .i64 0, .bool false]], []⟩ 8 (by kernel_rfl) (by kernel_rfl) (by kernel_rfl) (by kernel_rfl)) ?_
  · intro ds hds
    have hds' : ds.length = 1 := hds
    match ds, hds' with
    | [d0], _ => rfl
  · intro W args hA0
    have hA : ArgsIn Try.prog W Try.f3.params.toList args.toList := hA0
    rw [Try.params3] at hA
    obtain ⟨v0, vs0, e0, h0, hA⟩ := hA.cons
    obtain rfl := hA.nil
    obtain ⟨args⟩ := args
    have e0' : args = [v0] := e0
    subst e0'
    obtain ⟨sa0, sn0, sc0, pa0, pn0, pc0, D0, rfl, q0⟩ := arg_disk h0
    exact openSpec_run W sa0 sn0 sc0 pa0 pn0 pc0 D0 q0

theorem journalOpenSpec_holds : Rows.JournalOpenSpecSaid :=
  OpenClaim.holds_of_wide 3 Try.f3 rfl rfl rfl rfl rfl rfl rfl ⟨rfl, rfl, rfl, rfl, rfl⟩ rfl rfl rfl rfl rfl (by kernel_rfl) Try.func3 (by kernel_rfl)
    (of_decide_eq_true (by kernel_rfl)) (by unfold Func.isWrapper; first | (rw [if_pos (by decide +kernel)]; kernel_rfl) | (rw [if_neg (by decide +kernel)]; exact ⟨rfl, rfl⟩))
    (fun os started H enc _ => journalOpenSpec_lifted os started H enc)

end Go.Proofs.Ytmghnjahjeinnaa
