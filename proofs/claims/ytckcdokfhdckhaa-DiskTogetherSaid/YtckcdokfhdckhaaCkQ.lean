/- The walk of disk.Sync, whole. -/
import Derived.Test.YtckcdokfhdckhaaRows
import Derived.Test.YtckcdokfhdckhaaCkP
import Derived.WalkKit
import Derived.WalkLawsBesides
import Derived.WalkSpells
import Derived.Outline
import Derived.Lib.Hide
import Derived.Laws.CopyOwn
import Derived.Deep.OwnRows
import Derived.RangeFuncBox
import Derived.Deep.RegionWith
import Derived.Deep.RegionHeld3
namespace Go.Proofs.Ytckcdokfhdckhaa
open Go.RowKit Go.Kx

set_option maxHeartbeats 1000000 in
theorem sync_any (S : Nat → Prop) (w : World) (sa : Option Addr) (sn sc : Nat) (pa : Option Addr) (pn pc : Nat) (D : Disk) (h : DiskAt S w sa sn sc pa pn pc D) :
    Calls Try.prog 23 #[.agg #[.slice sa sn sc, .slice pa pn pc, .int .i64 D.left, .bool D.stopped]] w (RetDisk S w (syncF D)) := by
  have hlp := h.pend.length
  cases hok : Disk.ok D && !D.stopped with
  | true =>
    by_cases hst : 0 ≤ D.left ∧ D.left < (pn : Int)
    · have e : syncF D = (stopsF D, 40) := by unfold syncF; rw [if_pos hok, if_pos (by rw [hlp]; exact hst)]
      rw [e]
      exact sync_stop S w sa sn sc pa pn pc D h hok hst
    · have e : syncF D = (⟨performF D.secs D.pend, [], if 0 ≤ D.left then D.left - pn else D.left, false⟩, 0) := by unfold syncF; rw [if_pos hok, if_neg (by rw [hlp]; exact hst), hlp]
      rw [e]
      exact sync_go S w sa sn sc pa pn pc D h hok (by omega)
  | false =>
    have e : syncF D = (zeroDisk, 40) := by unfold syncF; rw [if_neg (by simp [hok])]
    have HE := Lib.hid e
    have hb0 : Below w.heap.size w ((w.alloc (.cells #[.slice sa sn sc, .slice pa pn pc, .int .i64 D.left, .bool D.stopped] 25)).alloc (.cells #[.slice none 0 0, .slice none 0 0, .int .i64 0, .bool false] 25)) := by (repeat (first | (with_reducible assumption) | exact Below.refl _ _ | refine Below.setCell ?_ (by first | (simp; done) | (simp; omega) | omega) _ | refine Below.alloc ?_ (by first | (simp; done) | (simp; omega) | omega) _ | refine Below.drew ?_ | refine below_drewN ?_ _))
    have hR0 : ((w.alloc (.cells #[.slice sa sn sc, .slice pa pn pc, .int .i64 D.left, .bool D.stopped] 25)).alloc (.cells #[.slice none 0 0, .slice none 0 0, .int .i64 0, .bool false] 25)).heap[w.heap.size + 1]? = some (.cells #[.slice none 0 0, .slice none 0 0, .int .i64 0, .bool false] 25 (0, 0)) := heap_alloc_at _ _ _ (by simp)
    have HR0 := Lib.hid hR0
    have H := Lib.hid (runs_any S _ sa sn sc pa pn pc D.left D.stopped D.secs D.pend (h.secs.below hb0) (h.pend.below hb0))
    rw [show (Disk.ok { secs := D.secs, pend := D.pend, left := D.left, stopped := D.stopped } && !D.stopped) = false from hok] at H
    clear h hlp hok e hR0
    go_enter Try.func23, Try.ntmps23
    go_wp2_with ((with_reducible refine H.out.mono ?_); rintro e w1 ⟨rfl, hb1⟩; have hz : w.heap.size + 1 < w1.heap.size := (by have := hb1.size; simp at this; omega); obtain ⟨r0, r1, r2, r3, rf⟩ := box4 ((hb1.block (w.heap.size + 1) (by first | (simp; done) | (simp; omega) | omega)).trans HR0.out))
    have hb2 := hb0.trans (hb1.mono (by simp; omega))
    refine bodyPost_ret (v := .tuple #[.agg #[.slice none 0 0, .slice none 0 0, .int .i64 0, .bool false], .int .i64 40]) (by simp [results, Try.results23, go_sem, r0, r1, r2, r3]) rfl ?_
    exact RetDisk.zero HE.out (by (repeat (first | (with_reducible assumption) | exact Below.refl _ _ | refine Below.setCell ?_ (by first | (simp; done) | (simp; omega) | omega) _ | refine Below.alloc ?_ (by first | (simp; done) | (simp; omega) | omega) _ | refine Below.drew ?_ | refine below_drewN ?_ _)))

end Go.Proofs.Ytckcdokfhdckhaa
