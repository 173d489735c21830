/- DiskWriteSpec returns true for every disk, number and bytes, and leaves its arguments as they were. No conditions. -/
import Derived.Test.YtckcdokfhdckhaaRows
import Derived.Test.YtckcdokfhdckhaaCkW
import Derived.Test.YtckcdokfhdckhaaRdk
import Derived.ProofKit
namespace Go.Proofs.Ytckcdokfhdckhaa
open Go.RowKit Go.Kx Go.ChangeShapes Go.WideShapes Go.ChangeAt

set_option maxRecDepth 100000 in
theorem write_spec_lifted (os : Os) (started : os.Started) (H : Type) (enc : TypeId × Value → H) :
    ReturnsInHanded {} Try.checked os 4 .any (Rows.diskWriteSpecSpec.pre6 enc Try.prog Try.f4 Rows.diskWriteSpecRow.domain false) (Rows.diskWriteSpecSpec.post enc Try.prog Try.f4 false true false false) := by
  refine law_lifted (C := Try.checked) (tb := 4) Try.own Try.laidOut started (by kernel_rfl) Try.func4 rfl Try.underlying4 rfl (by kernel_rfl) ?_
    (ChangeSpec.witness6 (enc := enc) (C := Try.checked) false ⟨#[], #[.agg #[.slice none 0 0, .slice none 0 0, .int .i64 0, .bool false], .int .i64 0, .slice none 0 0], []⟩ 8 (by kernel_rfl) (by kernel_rfl) (by kernel_rfl) (by kernel_rfl)) ?_
  · intro ds hds
    have hds' : ds.length = 3 := hds
    match ds, hds' with
    | [d1, d2, d3], _ => rfl
  · intro W args hA0
    have hA : ArgsIn Try.prog W Try.f4.params.toList args.toList := hA0
    rw [Try.params4] at hA
    obtain ⟨v0, vs0, e0, h0, hA⟩ := hA.cons
    obtain ⟨v1, vs1, rfl, h1, hA⟩ := hA.cons
    obtain ⟨v2, vs2, rfl, h2, hA⟩ := hA.cons
    obtain rfl := hA.nil
    obtain ⟨args⟩ := args
    have e0' : args = [v0, v1, v2] := e0
    subst e0'
    obtain ⟨sa, sn, sc, pa, pn, pc, D, rfl, hD⟩ := arg_disk h0
    obtain ⟨n, rfl, hn⟩ := arg_int h1
    obtain ⟨a, bn, c, l, rfl, hl⟩ := arg_bytes h2
    exact writeSpec_any W sa sn sc pa pn pc a bn c D n l hn hD hl

theorem disk_write_spec_holds : Rows.DiskWriteSpecSaid :=
  OpenClaim.holds_of_wide 4 Try.f4 rfl rfl rfl rfl rfl rfl rfl ⟨rfl, rfl, rfl, rfl, rfl⟩ rfl rfl rfl rfl rfl (by kernel_rfl) Try.func4 (by kernel_rfl)
    (of_decide_eq_true (by kernel_rfl)) (by unfold Func.isWrapper; first | (rw [if_pos (by decide +kernel)]; kernel_rfl) | (rw [if_neg (by decide +kernel)]; exact ⟨rfl, rfl⟩))
    (fun os started H enc _ => write_spec_lifted os started H enc)

end Go.Proofs.Ytckcdokfhdckhaa
