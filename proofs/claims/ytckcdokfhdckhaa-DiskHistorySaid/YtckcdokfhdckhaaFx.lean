/- Arrays of bytes that are loaded whole. No program in sight. -/
import Derived.Test.YtckcdokfhdckhaaFw
namespace Go.Fr
open Go.RowKit Go.Kx
section
variable {C : Cx} {S : (Nat → Prop) → World → World → Prop} {H : Nat → Prop} {env : Env} {loc : List Ent} {dst : Option Tmp} {ty : TypeId} {pos : String} {af : Array Edge} {g : Option (Nat × Bool)}
theorem WT_loadarr {t : TypeId} {x : Operand} {k b T tot : Nat} {bs : List UInt8} {d : TypeDesc} {sz bt : Nat} {z : Value} (hx : ev env x = some (ex (.pointer (some ⟨b, 0, none⟩)))) (he : loc[k]? = some (row b T tot (bs.map ub))) (hlen : bs.length = 4) (hu : C.P.underlying t = some d) [hT : TI C.P t sz bt z] (h4 : sz = 4 := by rfl) (hH : H b := by first | trivial | exact feet_row (k := 0) rfl | exact feet_row (k := 1) rfl | exact feet_row (k := 2) rfl | exact feet_row (k := 3) rfl | exact feet_row (k := 4) rfl | exact feet_row (k := 5) rfl | exact feet_row (k := 6) rfl) (hd : Desc.aggB d = true := by rfl) :
    WT C (Hold H) ⟨dst, .load t x, ty, pos, af, g⟩ (agg (bs.map ub)) env loc := by
  subst h4
  have h := WT_loada (C := C) (dst := dst) (ty := ty) (pos := pos) (af := af) (g := g) hx he hu hH hd (by rw [Nat.zero_add, List.length_map, hlen]; rfl)
  rwa [List.drop_zero, List.take_of_length_le (by rw [List.length_map, hlen]; exact Nat.le_refl _)] at h
end
end Go.Fr
