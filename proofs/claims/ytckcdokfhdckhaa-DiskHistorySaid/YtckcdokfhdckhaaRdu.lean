/- Bytes as arguments, one by one. -/
import Derived.Test.YtckcdokfhdckhaaJour7
namespace Go.Proofs.Ytckcdokfhdckhaa
open Go.RowKit Go.Kx Go.ChangeShapes Go.WideShapes

theorem arg_u8 {W : World} {v : Value} (h : ArgIn Try.prog W 5 v) : ∃ b : UInt8, v = .int .u8 b.toNat := by
  obtain ⟨n, rfl, h1, h2⟩ := h.int Try.underlying5
  have hw' : (0 : Int) ≤ n ∧ n ≤ 255 := by rw [show IntKind.u8.min = 0 from rfl] at h1; rw [show IntKind.u8.max = 255 from rfl] at h2; exact ⟨h1, h2⟩
  refine ⟨UInt8.ofNat n.toNat, ?_⟩
  rw [UInt8.toNat_ofNat']
  congr 1
  omega

end Go.Proofs.Ytckcdokfhdckhaa
