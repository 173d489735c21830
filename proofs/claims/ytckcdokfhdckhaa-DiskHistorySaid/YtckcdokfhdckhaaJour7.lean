/- Disks and writes as arguments: from a statement's reading to Lean data. -/
import Derived.Test.YtckcdokfhdckhaaRows
import Derived.Test.YtckcdokfhdckhaaFrame1
import Derived.ProofKit
namespace Go.Proofs.Ytckcdokfhdckhaa
open Go.RowKit Go.Kx Go.ChangeShapes Go.WideShapes

theorem Try.own : ownKnob Try.prog.godebug = none := by kernel_rfl
theorem Try.laidOut : laidOutB Try.prog = true := by kernel_rfl

theorem rdBytes : Reads Try.prog 35 (eSl eByte) := reads_slice Try.underlying35 (by kernel_rfl) (by decide) (by kernel_rfl) (reads_byte Try.underlying5)

theorem rdRows : Reads Try.prog 22 (eSl (eSl eByte)) := reads_slice Try.underlying22 (by kernel_rfl) (by decide) (by kernel_rfl) rdBytes

set_option maxRecDepth 100000 in
theorem rdWrite : Reads Try.prog 54 eWr := by
  intro H enc w fuel cs x h hw
  have hl : cs.length = 2 := (reads_field Try.underlying54 h hw 0 _ rfl (reads_int Try.underlying3)).1
  obtain ⟨a, h1, h2⟩ := (reads_field Try.underlying54 h hw 0 _ rfl (reads_int Try.underlying3)).2
  obtain ⟨l, oa, n, c, h3, h4⟩ := (reads_field Try.underlying54 h hw 1 _ rfl rdBytes).2
  match cs, hl with
  | [u, v], _ =>
    have e1 : [u] = [.int .i64 a] := h1
    have e2 : [v] = [.slice oa n c] := h3
    simp only [List.cons.injEq, and_true] at e1 e2
    subst e1 e2
    exact ⟨⟨a, l⟩, oa, n, c, rfl, h2, h4⟩

theorem rdWrites : Reads Try.prog 23 (eSl eWr) := reads_slice Try.underlying23 (by kernel_rfl) (by decide) (by kernel_rfl) rdWrite

set_option maxRecDepth 100000 in
theorem arg_disk {W : World} {v : Value} (h : ArgIn Try.prog W 25 v) :
    ∃ sa sn sc pa pn pc D, v = .agg #[.slice sa sn sc, .slice pa pn pc, .int .i64 D.left, .bool D.stopped] ∧ DiskAt (fun _ => True) W sa sn sc pa pn pc D := by
  obtain ⟨base, H, enc, d, p, hok, ⟨fuel, hf⟩, hw⟩ := h
  obtain ⟨cs, rfl, hsz⟩ := okWide_struct Try.underlying25 hok
  have hf' : DataW.trod enc Try.prog W 0 (fun _ => true) true fuel 25 cs.toList = some (d, p) := hf
  have hl : cs.toList.length = 4 := (reads_field Try.underlying25 hf' hw 2 _ rfl (reads_int Try.underlying3)).1
  obtain ⟨ls, sa, sn, sc, h1, h1'⟩ := (reads_field Try.underlying25 hf' hw 0 _ rfl rdRows).2
  obtain ⟨lp, pa, pn, pc, h2, h2'⟩ := (reads_field Try.underlying25 hf' hw 1 _ rfl rdWrites).2
  obtain ⟨left, h3, h3'⟩ := (reads_field Try.underlying25 hf' hw 2 _ rfl (reads_int Try.underlying3)).2
  obtain ⟨st, h4⟩ := (reads_field Try.underlying25 hf' hw 3 _ rfl (reads_bool Try.underlying4)).2
  obtain ⟨cs⟩ := cs
  match cs, hl with
  | [u0, u1, u2, u3], _ =>
    have e0 : [u0] = [.slice sa sn sc] := h1
    have e1 : [u1] = [.slice pa pn pc] := h2
    have e2 : [u2] = [.int .i64 left] := h3
    have e3 : [u3] = [.bool st] := h4
    simp only [List.cons.injEq, and_true] at e0 e1 e2 e3
    subst e0 e1 e2 e3
    exact ⟨sa, sn, sc, pa, pn, pc, ⟨ls, lp, left, st⟩, rfl, h1', h2', h3'.1, h3'.2⟩

theorem arg_bytes {W : World} {v : Value} (h : ArgIn Try.prog W 35 v) : ∃ a n c l, v = .slice a n c ∧ Sl eByte (fun _ => True) W a n c l := h.slice Try.underlying35 rdBytes

theorem arg_int {W : World} {v : Value} (h : ArgIn Try.prog W 3 v) : ∃ n : Int, v = .int .i64 n ∧ -9223372036854775808 ≤ n ∧ n ≤ 9223372036854775807 := h.int Try.underlying3

end Go.Proofs.Ytckcdokfhdckhaa
