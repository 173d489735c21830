/- The walks of Restart, Stop and the reference's Check, Few, Restart, Stop. -/
import Derived.Test.YtckcdokfhdckhaaRows
import Derived.Test.YtckcdokfhdckhaaCkB
import Derived.WalkKit
import Derived.WalkLawsBesides
import Derived.WalkSpells
import Derived.Outline
import Derived.Lib.Hide
import Derived.Deep.QuietTactic
import Derived.BigQuiet
namespace Go.Proofs.Ytckcdokfhdckhaa
open Go.RowKit Go.Kx

def stopF (d : Disk) (left : Int) : Disk × Int := if Disk.ok d && !d.stopped then (if decide (left < 0) || decide (65536 < left) then (zeroDisk, 1) else ({ d with left := left }, 0)) else (zeroDisk, 40)
def restartF (d : Disk) : Disk := ⟨d.secs, [], -1, false⟩

set_option maxHeartbeats 400000 in
theorem stop_any (S : Nat → Prop) (w : World) (sa : Option Addr) (sn sc : Nat) (pa : Option Addr) (pn pc : Nat) (D : Disk) (left : Int) (h0 : -9223372036854775808 ≤ left ∧ left ≤ 9223372036854775807)
    (h : DiskAt S w sa sn sc pa pn pc D) :
    Calls Try.prog 25 #[.agg #[.slice sa sn sc, .slice pa pn pc, .int .i64 D.left, .bool D.stopped], .int .i64 left] w (RetDisk S w (stopF D left)) := by
  have hb0 : Below w.heap.size w ((w.alloc (.cells #[.slice sa sn sc, .slice pa pn pc, .int .i64 D.left, .bool D.stopped] 25)).alloc (.cells #[.slice none 0 0, .slice none 0 0, .int .i64 0, .bool false] 25)) :=
    ((Below.refl _ _).alloc (Nat.le_refl _) _).alloc (by simp) _
  have H := Lib.hid (runs_any S _ sa sn sc pa pn pc D.left D.stopped D.secs D.pend (h.secs.below hb0) (h.pend.below hb0))
  have HD := Lib.hid h
  clear h
  cases hok : Disk.ok D && !D.stopped with
  | false =>
    rw [show (Disk.ok { secs := D.secs, pend := D.pend, left := D.left, stopped := D.stopped } && !D.stopped) = false from hok] at H
    go_enter Try.func25, Try.ntmps25
    go_wp2_with ((with_reducible refine H.out.mono ?_); rintro e w1 ⟨rfl, hb1⟩; obtain ⟨hcc, hff⟩ := bcell hb1; have hz : w.heap.size + 1 < w1.heap.size := (by have := hb1.size; simp at this; omega))
    refine bodyPost_ret (v := .tuple #[.agg #[.slice none 0 0, .slice none 0 0, .int .i64 0, .bool false], .int .i64 40]) (by simp [results, Try.results25, go_sem, hcc]) rfl ?_
    have hb2 := hb0.trans (hb1.mono (by simp; omega))
    exact RetDisk.zero (by simp only [stopF, hok]; rfl) (by (repeat (first | (with_reducible assumption) | exact Below.refl _ _ | refine Below.setCell ?_ (by first | (simp; done) | (simp; omega) | omega) _ | refine Below.alloc ?_ (by first | (simp; done) | (simp; omega) | omega) _ | refine Below.drew ?_ | refine below_drewN ?_ _)))
  | true =>
    rw [show (Disk.ok { secs := D.secs, pend := D.pend, left := D.left, stopped := D.stopped } && !D.stopped) = true from hok] at H
    go_enter Try.func25, Try.ntmps25
    go_wp2_with ((with_reducible refine H.out.mono ?_); rintro e w1 ⟨rfl, hb1⟩; obtain ⟨hcc, hff⟩ := bcell hb1; have hz : w.heap.size + 1 < w1.heap.size := (by have := hb1.size; simp at this; omega); have hA2 : w1.cell? ⟨w.heap.size, 2, none⟩ = some (.int .i64 D.left) := (hcc _ _ (by simp; omega)).trans (by simp [go_sem]))
    all_goals have hb2 := hb0.trans (hb1.mono (by simp; omega))
    · refine bodyPost_ret (v := .tuple #[.agg #[.slice none 0 0, .slice none 0 0, .int .i64 0, .bool false], .int .i64 1]) (by simp [results, Try.results25, go_sem, hcc]) rfl ?_
      exact RetDisk.zero (by simp only [stopF, hok]; simp [*]) (by (repeat (first | (with_reducible assumption) | exact Below.refl _ _ | refine Below.setCell ?_ (by first | (simp; done) | (simp; omega) | omega) _ | refine Below.alloc ?_ (by first | (simp; done) | (simp; omega) | omega) _ | refine Below.drew ?_ | refine below_drewN ?_ _)))
    · refine bodyPost_ret (v := .tuple #[.agg #[.slice sa sn sc, .slice pa pn pc, .int .i64 left, .bool D.stopped], .int .i64 0]) (by simp [results, Try.results25, go_sem, hcc]) rfl ?_
      exact RetDisk.of (D := { D with left := left }) (by simp only [stopF, hok]; simp [*]) rfl rfl (by (repeat (first | (with_reducible assumption) | exact Below.refl _ _ | refine Below.setCell ?_ (by first | (simp; done) | (simp; omega) | omega) _ | refine Below.alloc ?_ (by first | (simp; done) | (simp; omega) | omega) _ | refine Below.drew ?_ | refine below_drewN ?_ _))) fun hb => ⟨HD.out.secs.mono (keepUp_of_below hb), HD.out.pend.mono (keepUp_of_below hb), h0.1, h0.2⟩
    · refine bodyPost_ret (v := .tuple #[.agg #[.slice none 0 0, .slice none 0 0, .int .i64 0, .bool false], .int .i64 1]) (by simp [results, Try.results25, go_sem, hcc]) rfl ?_
      exact RetDisk.zero (by simp only [stopF, hok]; simp [*]) (by (repeat (first | (with_reducible assumption) | exact Below.refl _ _ | refine Below.setCell ?_ (by first | (simp; done) | (simp; omega) | omega) _ | refine Below.alloc ?_ (by first | (simp; done) | (simp; omega) | omega) _ | refine Below.drew ?_ | refine below_drewN ?_ _)))

end Go.Proofs.Ytckcdokfhdckhaa
