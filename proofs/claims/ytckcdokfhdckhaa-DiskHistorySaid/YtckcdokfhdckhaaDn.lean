/- The disk's functions, as contracts of the frame, for the disk's laws. -/
import Derived.Test.YtckcdokfhdckhaaRt
import Derived.Test.YtckcdokfhdckhaaCkU
import Derived.Test.YtckcdokfhdckhaaDisk3
import Derived.Test.YtckcdokfhdckhaaDisk1
import Derived.Test.YtckcdokfhdckhaaFrame1
namespace Go.Proofs.Ytckcdokfhdckhaa
open Go Go.RowKit Go.Kx Go.Fr

theorem chk_fr (D : Disk) : FnC Try.prog 15 [dsk D] [] (fun p loc => p = exI .i64 (checkF D) ∧ loc = []) := by
  refine FnC_of fun F w vals h => ?_
  obtain ⟨v, rfl, hv⟩ := cells1 h
  obtain ⟨sa, sn, sc, pa, pn, pc, rfl, h1, h2⟩ := dsk_of hv
  refine (check_any F w sa sn sc pa pn pc D.left D.stopped D.secs D.pend h1 h2).mono ?_
  rintro e w' ⟨rfl, hb⟩
  exact ⟨_, _, rfl, ⟨rfl, rfl⟩, rfl, hb⟩

theorem rchk_fr (D : Disk) : FnC Try.prog 16 [dsk D] [] (fun p loc => p = exI .i64 (checkF D) ∧ loc = []) := by
  refine FnC_of fun F w vals h => ?_
  obtain ⟨v, rfl, hv⟩ := cells1 h
  obtain ⟨sa, sn, sc, pa, pn, pc, rfl, h1, h2⟩ := dsk_of hv
  refine (rcheck_any F w sa sn sc pa pn pc D.left D.stopped D.secs D.pend h1 h2).mono ?_
  rintro e w' ⟨rfl, hb⟩
  exact ⟨_, _, rfl, ⟨rfl, rfl⟩, rfl, hb⟩

/-- A disk's number fits. -/
def DIn (D : Disk) : Prop := -9223372036854775808 ≤ D.left ∧ D.left ≤ 9223372036854775807

theorem restart_fr (D : Disk) (hD : DIn D) : FnC Try.prog 17 [dsk D] [] (fun p loc => p = dsk (restartF D) ∧ loc = []) := by
  refine FnC_of fun F w vals h => ?_
  obtain ⟨v, rfl, hv⟩ := cells1 h
  obtain ⟨sa, sn, sc, pa, pn, pc, rfl, h1, h2⟩ := dsk_of hv
  refine (restart_any F w sa sn sc pa pn pc D ⟨h1, h2, hD.1, hD.2⟩).mono ?_
  rintro e w' ⟨sa, sn, sc, pa, pn, pc, rfl, hD, hb⟩
  exact ⟨_, _, rfl, ⟨rfl, rfl⟩, dsk_to hD.secs hD.pend, hb⟩

theorem stop_fr (D : Disk) (left : Int) (hD : DIn D) (hl : -9223372036854775808 ≤ left ∧ left ≤ 9223372036854775807) : FnC Try.prog 25 [dsk D, exI .i64 left] [] (fun p loc => p = tup [dsk (stopF D left).1, exI .i64 (stopF D left).2] ∧ loc = []) := by
  refine FnC_of fun F w vals h => ?_
  obtain ⟨v, u, rfl, hv, rfl⟩ := h.two
  obtain ⟨sa, sn, sc, pa, pn, pc, rfl, h1, h2⟩ := dsk_of hv
  exact (stop_any F w sa sn sc pa pn pc D left hl ⟨h1, h2, hD.1, hD.2⟩).mono fun e w' h => Fr.RetDisk.fr h

theorem write_fr (D : Disk) (at_ : Int) (b : List UInt8) (hD : DIn D) (hl : -9223372036854775808 ≤ at_ ∧ at_ ≤ 9223372036854775807) : FnC Try.prog 19 [dsk D, exI .i64 at_, isl eByte b] [] (fun p loc => p = tup [dsk (writeF D at_ b).1, exI .i64 (writeF D at_ b).2] ∧ loc = []) := by
  refine FnC_of fun F w vals h => ?_
  obtain ⟨v, u, x, rfl, hv, rfl, ⟨ba, bn, bc, rfl, hb⟩⟩ := h.three
  obtain ⟨sa, sn, sc, pa, pn, pc, rfl, h1, h2⟩ := dsk_of hv
  exact (write_any F w sa sn sc pa pn pc ba bn bc D at_ b hl ⟨h1, h2, hD.1, hD.2⟩ hb).mono fun e w' h => Fr.RetDisk.fr h

theorem sync_fr (D : Disk) (hD : DIn D) : FnC Try.prog 23 [dsk D] [] (fun p loc => p = tup [dsk (syncF D).1, exI .i64 (syncF D).2] ∧ loc = []) := by
  refine FnC_of fun F w vals h => ?_
  obtain ⟨v, rfl, hv⟩ := cells1 h
  obtain ⟨sa, sn, sc, pa, pn, pc, rfl, h1, h2⟩ := dsk_of hv
  exact (sync_any F w sa sn sc pa pn pc D ⟨h1, h2, hD.1, hD.2⟩).mono fun e w' h => Fr.RetDisk.fr h

theorem new_fr (n : Int) : FnC Try.prog 12 [exI .i64 n] [] (fun p loc => p = tup [dsk (newF n).1, exI .i64 (newF n).2] ∧ loc = []) := by
  refine FnC_of fun F w vals h => ?_
  obtain ⟨v, rfl, rfl⟩ := cells1 h
  exact (new_any F w n).mono fun e w' h => Fr.RetDisk.fr h

theorem dsame_fr (D : Disk) (hD : DIn D) : FnC Try.prog 14 [dsk D, dsk D] [] (fun p loc => p = exB true ∧ loc = []) := by
  refine FnC_of fun F w vals h => ?_
  obtain ⟨v, u, rfl, hv, hu⟩ := h.two
  obtain ⟨sa, sn, sc, pa, pn, pc, rfl, h1, h2⟩ := dsk_of hv
  obtain ⟨ta, tn, tc, qa, qn, qc, rfl, k1, k2⟩ := dsk_of hu
  refine (same_true F F w sa sn sc pa pn pc ta tn tc qa qn qc D ⟨h1, h2, hD.1, hD.2⟩ ⟨k1, k2, hD.1, hD.2⟩).mono ?_
  rintro e w' ⟨rfl, hb⟩
  exact ⟨_, _, rfl, ⟨rfl, rfl⟩, rfl, hb⟩

theorem rstop_fr (D : Disk) (left : Int) (hD : DIn D) (hl : -9223372036854775808 ≤ left ∧ left ≤ 9223372036854775807) : FnC Try.prog 26 [dsk D, exI .i64 left] [] (fun p loc => p = tup [dsk (stopF D left).1, exI .i64 (stopF D left).2] ∧ loc = []) := by
  refine FnC_of fun F w vals h => ?_
  obtain ⟨v, u, rfl, hv, rfl⟩ := h.two
  obtain ⟨sa, sn, sc, pa, pn, pc, rfl, h1, h2⟩ := dsk_of hv
  exact (rstop_any F w sa sn sc pa pn pc D left hl ⟨h1, h2, hD.1, hD.2⟩).mono fun e w' h => Fr.RetDisk.fr h

theorem few_fr (D : Disk) : FnC Try.prog 11 [dsk D] [] (fun p loc => (∃ b, p = exB b) ∧ loc = []) := by
  refine FnC_of fun F w vals h => ?_
  obtain ⟨v, rfl, hv⟩ := cells1 h
  obtain ⟨sa, sn, sc, pa, pn, pc, rfl, h1, h2⟩ := dsk_of hv
  refine (few_any F w sa sn sc pa pn pc D.left D.stopped D.secs D.pend h1 h2).mono ?_
  rintro e w' ⟨b, rfl, hb⟩
  exact ⟨_, _, rfl, ⟨⟨b, rfl⟩, rfl⟩, rfl, hb⟩

theorem sane_fr : FnC Try.prog 10 [] [] (fun p loc => p = exB true ∧ loc = []) := by
  refine FnC_of fun F w vals h => ?_
  have e : vals = [] := List.eq_nil_of_length_eq_zero h.len
  subst e
  refine (sane_any w).mono ?_
  rintro e w' ⟨rfl, hb⟩
  exact ⟨_, _, rfl, ⟨rfl, rfl⟩, rfl, hb⟩

/-- A law's contract, without the frame. -/
theorem law_of {P : Program} {f : FuncId} {args : List SP} (h : FnC P f args [] (fun p loc => p = exB true ∧ loc = [])) {w : World} {vals : List Value} (hA : CellsR (fun _ => True) w args vals) : Calls P f vals.toArray w fun e w' => e = .returned (.bool true) ∧ Below w.heap.size w w' := by
  refine (h (fun _ => True) w vals [] ⟨fun e he => absurd he (by simp), fun e he => absurd he (by simp), List.Pairwise.nil⟩ hA).mono ?_
  rintro e w' ⟨v, F', p, loc', rfl, ⟨rfl, rfl⟩, hp, _, hch, _, _⟩
  have hv : v = .bool true := hp
  subst hv
  exact ⟨rfl, hch.os, hch.tape, hch.output, hch.size, fun k hk => hch.block k hk fun ⟨e, he, _⟩ => absurd he (by simp)⟩
end Go.Proofs.Ytckcdokfhdckhaa
