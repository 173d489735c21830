/- The walk of double. -/
import Derived.Test.YtckcdokfhdckhaaRows
import Derived.Test.YtckcdokfhdckhaaDisk4
import Derived.WalkKit
import Derived.WalkLawsBesides
import Derived.WalkSpells
import Derived.Outline
import Derived.Lib.Hide
import Derived.Deep.OwnRows
namespace Go.Proofs.Ytckcdokfhdckhaa
open Go.RowKit Go.Kx

def doubleB (c : UInt8) : Bytes := ((List.replicate 128 0).set 0 c).set 64 c

def RetB (S : Nat → Prop) (w : World) (b : Bytes) (e : Ending) (w' : World) : Prop :=
  ∃ a n c, e = .returned (.slice a n c) ∧ Sl eByte (Up S w) w' a n c b ∧ Below w.heap.size w w'

theorem zeros_cell (j : Nat) (hj : j < 128) : zeros[j]? = some (.int .u8 0) := by
  rw [zeros_eq, List.getElem?_toArray, List.getElem?_map, List.getElem?_replicate, if_pos hj]; rfl

set_option maxHeartbeats 400000 in
theorem double_any (S : Nat → Prop) (w : World) (c : UInt8) : Calls Try.prog 27 #[.int .u8 c.toNat] w (RetB S w (doubleB c)) := by
  have hmk : ∀ w, (Instr.makeSlice 35 (.int .i64 128) (.int .i64 128)).run Try.prog w = .ok (.slice (some ⟨w.heap.size, 0, none⟩) 128 128) (w.alloc (.cells zeros 5)) := fun w => run_make_row' (P := Try.prog) 35 5 (.int .u8 0) 1 Try.underlying35 cloneY_info rfl .i64 .i64 128 (by decide) (by decide) w
  have z0 := zeros_cell 0 (by decide)
  have z64 := zeros_cell 64 (by decide)
  go_enter Try.func27, Try.ntmps27
  go_wp2
  go_ret
  have hb : Below w.heap.size w (w.alloc (.cells ((zeros.setIfInBounds 0 (.int .u8 c.toNat)).setIfInBounds 64 (.int .u8 c.toNat)) 5)) := by (repeat (first | (with_reducible assumption) | exact Below.refl _ _ | refine Below.setCell ?_ (by first | (simp; done) | (simp; omega) | omega) _ | refine Below.alloc ?_ (by first | (simp; done) | (simp; omega) | omega) _ | refine Below.drew ?_ | refine below_drewN ?_ _))
  have e : (zeros.setIfInBounds 0 (.int .u8 c.toNat)).setIfInBounds 64 (.int .u8 c.toNat) = ((doubleB c).map byteV).toArray := by
    rw [zeros_eq]
    unfold doubleB
    rw [List.map_set, List.map_set]
    simp only [List.setIfInBounds_toArray]
    rfl
  rw [e] at hb ⊢
  refine ⟨_, 128, 128, rfl, ?_, hb⟩
  have := Sl.of_heap (S := Up S w) (World.alloc_heap_new w (.cells ((doubleB c).map byteV).toArray 5)) (.inr (Nat.le_refl _)) (by simp [doubleB])
  rwa [show (doubleB c).length = 128 by simp [doubleB]] at this

end Go.Proofs.Ytckcdokfhdckhaa
