/- JournalDamage returns true for all arguments of bulk at most 1048576 together, and leaves them as they were. Condition: the bulk. -/
import Derived.Test.YtmghnjahjeinnaaRows
import Derived.Test.YtmghnjahjeinnaaOf
import Derived.Test.YtmghnjahjeinnaaRdc
import Derived.ProofKit
import Derived.JoinedCond
namespace Go.Proofs.Ytmghnjahjeinnaa
open Go.RowKit Go.Kx Go.ChangeShapes Go.WideShapes Go.ChangeAt

set_option maxRecDepth 100000 in
theorem journalDamage_lifted (os : Os) (started : os.Started) (H : Type) (enc : TypeId × Value → H) (F : Stop.Interp) :
    ReturnsInHanded {} Try.checked os 7 .any ((Rows.OpenSpec.upto Rows.journalDamageSpec).pre6 enc Try.prog Try.f7 Rows.journalDamageUptoRow.domain false) (((Rows.OpenSpec.upto Rows.journalDamageSpec).at F).post enc Try.prog Try.f7 false true false false) := by
  refine law_lifted_upto (C := Try.checked) (tb := 4) (s := Rows.journalDamageSpec) Try.own Try.laidOut started (by kernel_rfl) Try.func7 rfl Try.underlying4 rfl (by kernel_rfl) ?_
    (OpenSpec.witness (enc := enc) (C := Try.checked) (s := Rows.OpenSpec.upto Rows.journalDamageSpec) (k := Rows.uptoSmall) rfl false ⟨#[], #[.slice none 0 0, .int .i64 0, .int .i64 0, .int .u8 0], []⟩ 8 (by kernel_rfl) (by kernel_rfl) (by kernel_rfl)
      (x := ([.nil, .lit (.int .i64 0), .lit (.int .i64 0), .lit (.int .u8 0)], [], [])) (by kernel_rfl) rfl (by kernel_rfl)) ?_
  · intro ds hds
    have hds' : ds.length = 4 := hds
    match ds, hds' with
    | [d0, d1, d2, d3], _ => rfl
  · intro W args hA0
    have hA : ArgsU Try.prog W Try.f7.params.toList args.toList := hA0
    rw [Try.params7] at hA
    obtain ⟨v0, vs0, e0, h0, hA⟩ := hA.cons
    obtain ⟨v1, vs1, rfl, h1, hA⟩ := hA.cons
    obtain ⟨v2, vs2, rfl, h2, hA⟩ := hA.cons
    obtain ⟨v3, vs3, rfl, h3, hA⟩ := hA.cons
    obtain rfl := hA.nil
    obtain ⟨args⟩ := args
    have e0' : args = [v0, v1, v2, v3] := e0
    subst e0'
    obtain ⟨a0, n0, c0, l0, rfl, q0, r0⟩ := arg_rowsU h0
    obtain ⟨n1, rfl, q1⟩ := arg_int h1.plain
    obtain ⟨n2, rfl, q2⟩ := arg_int h2.plain
    obtain ⟨n3, rfl⟩ := arg_u8 h3.plain
    exact damage_run W a0 n0 c0 l0 n1 n2 n3 q0 r0 q1 q2

theorem journalDamage_upto_holds : Rows.JournalDamageUptoSaid :=
  OpenClaim.holds_of_cond 7 Try.f7 rfl rfl rfl rfl rfl rfl rfl ⟨rfl, rfl, rfl, rfl, rfl⟩ rfl rfl rfl rfl rfl (by kernel_rfl) Try.func7 (by kernel_rfl)
    (of_decide_eq_true (by kernel_rfl)) (by unfold Func.isWrapper; first | (rw [if_pos (by decide +kernel)]; kernel_rfl) | (rw [if_neg (by decide +kernel)]; exact ⟨rfl, rfl⟩))
    (fun os started H enc _ F => journalDamage_lifted os started H enc F)

end Go.Proofs.Ytmghnjahjeinnaa
