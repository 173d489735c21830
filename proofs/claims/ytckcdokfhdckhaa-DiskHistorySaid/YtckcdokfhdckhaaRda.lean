/- The acts of a script as arguments. -/
import Derived.Test.YtckcdokfhdckhaaRows
import Derived.Test.YtckcdokfhdckhaaJour7
import Derived.ProofKit
namespace Go.Proofs.Ytckcdokfhdckhaa
open Go.RowKit Go.Kx Go.ChangeShapes Go.WideShapes

/-- podiumlaw04.Act -/
structure Act4 where
  sync : Bool
  at_ : UInt8
  byte : UInt8

def eAct : Enc Act4 where
  size := 3
  bytes := 3
  rel _ _ cs x := cs = [.bool x.sync, .int .u8 x.at_.toNat, .int .u8 x.byte.toNat]
  len h := by subst h; rfl
  mono h _ := h

theorem rdAct : Reads Try.prog 46 eAct := by
  intro H enc w fuel cs x h hw
  have hl : cs.length = 3 := (reads_field Try.underlying46 h hw 0 _ rfl (reads_bool Try.underlying4)).1
  obtain ⟨a0, h0⟩ := (reads_field Try.underlying46 h hw 0 _ rfl (reads_bool Try.underlying4)).2
  obtain ⟨a1, h1⟩ := (reads_field Try.underlying46 h hw 1 _ rfl (reads_byte Try.underlying5)).2
  obtain ⟨a2, h2⟩ := (reads_field Try.underlying46 h hw 2 _ rfl (reads_byte Try.underlying5)).2
  match cs, hl with
  | [u0, u1, u2], _ =>
    have e0 : [u0] = [.bool a0] := h0
    have e1 : [u1] = [.int .u8 a1.toNat] := h1
    have e2 : [u2] = [.int .u8 a2.toNat] := h2
    simp only [List.cons.injEq, and_true] at e0 e1 e2
    subst e0 e1 e2
    exact ⟨⟨a0, a1, a2⟩, rfl⟩

theorem rdActs : Reads Try.prog 43 (eSl eAct) := reads_slice Try.underlying43 (by kernel_rfl) (by decide) (by kernel_rfl) rdAct

theorem arg_acts {W : World} {v : Value} (h : ArgIn Try.prog W 43 v) : ∃ a n c l, v = .slice a n c ∧ Sl eAct (fun _ => True) W a n c l := h.slice Try.underlying43 rdActs

theorem Sl.act {S : Nat → Prop} {w wr : World} {a : Option Addr} {n c : Nat} {l : List Act4} (h : Sl eAct S w a n c l) (hb : Below w.heap.size w wr) (k : Nat) (hk : k < l.length) :
    ∃ b off, a = some ⟨b, off, none⟩ ∧ b < w.heap.size ∧ wr.cell? ⟨b, off + k * 3, none⟩ = some (.bool l[k].sync) ∧ wr.cell? ⟨b, off + k * 3 + 1, none⟩ = some (.int .u8 l[k].at_.toNat) ∧ wr.cell? ⟨b, off + k * 3 + 2, none⟩ = some (.int .u8 l[k].byte.toNat) := by
  obtain ⟨b, off, cs, rfl, hS, hlt, hcl, hcell, rfl⟩ := h.elem k hk
  have hc0 := hcell 0 (by simp [eAct])
  have hc1 := hcell 1 (by simp [eAct])
  have hc2 := hcell 2 (by simp [eAct])
  simp only [eAct, Nat.add_zero, List.getElem?_cons_zero, List.getElem?_cons_succ] at hc0 hc1 hc2
  rw [← hb.cell (by simpa using hlt)] at hc0 hc1 hc2
  exact ⟨b, off, rfl, hlt, hc0, hc1, hc2⟩

end Go.Proofs.Ytckcdokfhdckhaa
