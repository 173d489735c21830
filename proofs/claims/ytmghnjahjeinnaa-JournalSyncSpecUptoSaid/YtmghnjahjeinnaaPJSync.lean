/- JournalSyncSpec returns true for all arguments of bulk at most 1048576 together, and leaves them as they were. Condition: the bulk. -/
import Derived.Test.YtmghnjahjeinnaaRows
import Derived.Test.YtmghnjahjeinnaaLd
import Derived.Test.YtmghnjahjeinnaaJour7
import Derived.ProofKit
import Derived.JoinedCond
namespace Go.Proofs.Ytmghnjahjeinnaa
open Go.RowKit Go.Kx Go.ChangeShapes Go.WideShapes Go.ChangeAt

set_option maxRecDepth 100000 in
theorem journalSyncSpec_lifted (os : Os) (started : os.Started) (H : Type) (enc : TypeId × Value → H) (F : Stop.Interp) :
    ReturnsInHanded {} Try.checked os 5 .any ((Rows.OpenSpec.upto Rows.journalSyncSpecSpec).pre6 enc Try.prog Try.f5 Rows.journalSyncSpecUptoRow.domain false) (((Rows.OpenSpec.upto Rows.journalSyncSpecSpec).at F).post enc Try.prog Try.f5 false true false false) := by
  refine law_lifted_upto (C := Try.checked) (tb := 4) (s := Rows.journalSyncSpecSpec) Try.own Try.laidOut started (by kernel_rfl) Try.func5 rfl Try.underlying4 rfl (by kernel_rfl) ?_
    (OpenSpec.witness (enc := enc) (C := Try.checked) (s := Rows.OpenSpec.upto Rows.journalSyncSpecSpec) (k := Rows.uptoSmall) rfl false ⟨#[], #[.agg #[.slice none 0 0, .int .i64 0, .int .i64 0], .agg #[.slice none 0 0, .slice none 0 0, .int .i64 0, .bool false]], []⟩ 8 (by kernel_rfl) (by kernel_rfl) (by kernel_rfl)
      (x := ([.agg [.nil, .lit (.int .i64 0), .lit (.int .i64 0)], .agg [.nil, .nil, .lit (.int .i64 0), .lit (.bool false)]], [], [])) (by kernel_rfl) rfl (by kernel_rfl)) ?_
  · intro ds hds
    have hds' : ds.length = 2 := hds
    match ds, hds' with
    | [d0, d1], _ => rfl
  · intro W args hA0
    have hA : ArgsU Try.prog W Try.f5.params.toList args.toList := hA0
    rw [Try.params5] at hA
    obtain ⟨v0, vs0, e0, h0, hA⟩ := hA.cons
    obtain ⟨v1, vs1, rfl, h1, hA⟩ := hA.cons
    obtain rfl := hA.nil
    obtain ⟨args⟩ := args
    have e0' : args = [v0, v1] := e0
    subst e0'
    obtain ⟨a0, n0, c0, o0, m0, s0, rfl, q0, r0⟩ := arg_jourU h0
    obtain ⟨sa1, sn1, sc1, pa1, pn1, pc1, D1, rfl, q1⟩ := arg_disk h1.plain
    exact jsyncSpec_run W a0 n0 c0 o0 m0 s0 sa1 sn1 sc1 pa1 pn1 pc1 D1 q0 r0 q1

theorem journalSyncSpec_upto_holds : Rows.JournalSyncSpecUptoSaid :=
  OpenClaim.holds_of_cond 5 Try.f5 rfl rfl rfl rfl rfl rfl rfl ⟨rfl, rfl, rfl, rfl, rfl⟩ rfl rfl rfl rfl rfl (by kernel_rfl) Try.func5 (by kernel_rfl)
    (of_decide_eq_true (by kernel_rfl)) (by unfold Func.isWrapper; first | (rw [if_pos (by decide +kernel)]; kernel_rfl) | (rw [if_neg (by decide +kernel)]; exact ⟨rfl, rfl⟩))
    (fun os started H enc _ F => journalSyncSpec_lifted os started H enc F)

end Go.Proofs.Ytmghnjahjeinnaa
