/- Rows of numbers; a crash's struct; a cut around a block. No program in sight. -/
import Derived.Test.YtckcdokfhdckhaaFu
namespace Go.Fr
open Go.RowKit Go.Kx

def eNat : Enc Nat where
  size := 1
  bytes := 8
  rel _ _ cs a := cs = [.int .i64 (a : Int)]
  len h := by subst h; rfl
  mono h _ := h
def nV (n : Nat) : SP := exI .i64 (n : Int)
def natV (n : Nat) : List SP := [nV n]
theorem fit_one {F : Nat → Prop} {w : World} {cs : List Value} {u : Value} : CellsR F w [ex u] cs ↔ cs = [u] := by
  constructor
  · intro h
    obtain ⟨v, h1, h2⟩ := h.at_ 0 _ rfl
    have hl : cs.length = 1 := h.len
    obtain ⟨x, rfl⟩ := List.length_eq_one_iff.1 hl
    cases h1
    have h3 : v = u := h2
    rw [h3]
  · rintro rfl
    exact .cons rfl .nil
instance fits_nat : Fits eNat natV where
  out h := fit_one.2 h
  inn h := fit_one.1 h
instance {n : Nat} : Sc (nV n) := Sc_ex rfl
instance {n : Nat} : Scs (natV n) := Scs_cons (h := Sc_ex rfl) (k := Scs_nil)
theorem flat_natV (l : List Nat) : l.map nV = l.flatMap natV := by
  induction l with
  | nil => rfl
  | cons b l ih => rw [List.flatMap_cons, ← ih]; rfl

theorem cutb_at (id : Nat) {C : Cx} {c y : Code} {Q : Post} {env : Env} {loc : List Ent} (h : WP C (.seq (.block id c) y) Q env loc) : WP C (.seq (.block id c) y) Q env loc := h
theorem cuts_at (id : Nat) {C : Cx} {ops : Array Oper} {dr : Bool} {x y : Code} {Q : Post} {env : Env} {loc : List Ent} (h : WP C (.seq (.seq (.region id ops dr) x) y) Q env loc) : WP C (.seq (.seq (.region id ops dr) x) y) Q env loc := h
theorem WP_vec3 {C : Cx} {c0 : Code} {Q : Post} {env : Env} {loc : List Ent} {k T sz n : Nat} {v : Value} {ps : List SP} (he : loc[k]? = some (vec v T sz n ps)) (hn : 0 < n) (h : ∀ b c, v = .slice (some ⟨b, 0, none⟩) n c → n ≤ c → c ≤ maxLen → WP C c0 Q env (loc.set k (row b T (c * sz) ps))) : WP C c0 Q env loc := by
  constructor
  intro F a w hR
  obtain ⟨b, c, rfl, h1, h2⟩ := vec_open hR he hn
  exact (h b c rfl h1 h2).out F a w (LeadsS_vec_row he F a w hR)
theorem WT_xorb {C : Cx} {S : (Nat → Prop) → World → World → Prop} {env : Env} {loc : List Ent} {dst : Option Tmp} {ty : TypeId} {pos : String} {af : Array Edge} {g : Option (Nat × Bool)} {x y : Operand} {t u : TypeId} {b c : UInt8} (hx : ev env x = some (exI .u8 (b.toNat : Int))) (hy : ev env y = some (exI .u8 (c.toNat : Int))) : WT C S ⟨dst, .binOp .xor t x y u, ty, pos, af, g⟩ (exI .u8 ((b ^^^ c).toNat : Int)) env loc := by
  rw [UInt8.toNat_xor]
  exact WT_xor hx hy
theorem u64_in {m : Int} (h0 : 0 ≤ m) (h1 : m < 18446744073709551616) : IntKind.u64.wrap m = m := by
  simp [IntKind.wrap, IntKind.bits, IntKind.signed]; omega
theorem u64_nt (m : Int) : Nt (IntKind.u64.wrap m) (m % 18446744073709551616).toNat := ⟨by simp [IntKind.wrap, IntKind.bits, IntKind.signed]; omega⟩
end Go.Fr
