/- JournalSurvives returns true for all arguments of bulk at most 1048576 together, and leaves them as they were. Condition: the bulk. -/
import Derived.Test.YtmghnjahjeinnaaRows
import Derived.Test.YtmghnjahjeinnaaOg
import Derived.Test.YtmghnjahjeinnaaRdc
import Derived.ProofKit
import Derived.JoinedCond
namespace Go.Proofs.Ytmghnjahjeinnaa
open Go.RowKit Go.Kx Go.ChangeShapes Go.WideShapes Go.ChangeAt

set_option maxRecDepth 100000 in
theorem journalSurvives_lifted (os : Os) (started : os.Started) (H : Type) (enc : TypeId × Value → H) (F : Stop.Interp) :
    ReturnsInHanded {} Try.checked os 9 .any ((Rows.OpenSpec.upto Rows.journalSurvivesSpec).pre6 enc Try.prog Try.f9 Rows.journalSurvivesUptoRow.domain false) (((Rows.OpenSpec.upto Rows.journalSurvivesSpec).at F).post enc Try.prog Try.f9 false true false false) := by
  refine law_lifted_upto (C := Try.checked) (tb := 4) (s := Rows.journalSurvivesSpec) Try.own Try.laidOut started (by kernel_rfl) Try.func9 rfl Try.underlying4 rfl (by kernel_rfl) ?_
    (OpenSpec.witness (enc := enc) (C := Try.checked) (s := Rows.OpenSpec.upto Rows.journalSurvivesSpec) (k := Rows.uptoSmall) rfl false ⟨#[], #[.int .u8 0, .slice none 0 0], []⟩ 8 (by kernel_rfl) (by kernel_rfl) (by kernel_rfl)
      (x := ([.lit (.int .u8 0), .nil], [], [])) (by kernel_rfl) rfl (by kernel_rfl)) ?_
  · intro ds hds
    have hds' : ds.length = 2 := hds
    match ds, hds' with
    | [d0, d1], _ => rfl
  · intro W args hA0
    have hA : ArgsU Try.prog W Try.f9.params.toList args.toList := hA0
    rw [Try.params9] at hA
    obtain ⟨v0, vs0, e0, h0, hA⟩ := hA.cons
    obtain ⟨v1, vs1, rfl, h1, hA⟩ := hA.cons
    obtain rfl := hA.nil
    obtain ⟨args⟩ := args
    have e0' : args = [v0, v1] := e0
    subst e0'
    obtain ⟨n0, rfl⟩ := arg_u8 h0.plain
    obtain ⟨a1, n1, c1, l1, rfl, q1, r1⟩ := arg_scriptU h1
    exact survives_run W n0 a1 n1 c1 l1 q1 r1

theorem journalSurvives_upto_holds : Rows.JournalSurvivesUptoSaid :=
  OpenClaim.holds_of_cond 9 Try.f9 rfl rfl rfl rfl rfl rfl rfl ⟨rfl, rfl, rfl, rfl, rfl⟩ rfl rfl rfl rfl rfl (by kernel_rfl) Try.func9 (by kernel_rfl)
    (of_decide_eq_true (by kernel_rfl)) (by unfold Func.isWrapper; first | (rw [if_pos (by decide +kernel)]; kernel_rfl) | (rw [if_neg (by decide +kernel)]; exact ⟨rfl, rfl⟩))
    (fun os started H enc _ F => journalSurvives_lifted os started H enc F)

end Go.Proofs.Ytmghnjahjeinnaa
