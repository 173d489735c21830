/- The walk of disk.Write . -/
import Derived.Test.YtckcdokfhdckhaaRows
import Derived.Test.YtckcdokfhdckhaaCkJ
import Derived.WalkKit
import Derived.WalkLawsBesides
import Derived.WalkSpells
import Derived.Outline
import Derived.Lib.Hide
import Derived.Laws.CopyOwn
import Derived.Deep.OwnRows
import Derived.RangeFuncBox
namespace Go.Proofs.Ytckcdokfhdckhaa
open Go.RowKit Go.Kx

set_option maxHeartbeats 2000000 in
theorem write_any (S : Nat → Prop) (w : World) (sa : Option Addr) (sn sc : Nat) (pa : Option Addr) (pn pc : Nat) (ba : Option Addr) (bn bc : Nat) (D : Disk) (at_ : Int) (b : Bytes) (h0 : -9223372036854775808 ≤ at_ ∧ at_ ≤ 9223372036854775807)
    (h : DiskAt S w sa sn sc pa pn pc D) (hbb : Sl eByte S w ba bn bc b) :
    Calls Try.prog 19 #[.agg #[.slice sa sn sc, .slice pa pn pc, .int .i64 D.left, .bool D.stopped], .int .i64 at_, .slice ba bn bc] w (RetDisk S w (writeF D at_ b)) := by
  have hb0 : Below w.heap.size w ((w.alloc (.cells #[.slice sa sn sc, .slice pa pn pc, .int .i64 D.left, .bool D.stopped] 25)).alloc (.cells #[.slice none 0 0, .slice none 0 0, .int .i64 0, .bool false] 25)) := by (repeat (first | (with_reducible assumption) | exact Below.refl _ _ | refine Below.setCell ?_ (by first | (simp; done) | (simp; omega) | omega) _ | refine Below.alloc ?_ (by first | (simp; done) | (simp; omega) | omega) _ | refine Below.drew ?_ | refine below_drewN ?_ _))
  have hD0 : ((w.alloc (.cells #[.slice sa sn sc, .slice pa pn pc, .int .i64 D.left, .bool D.stopped] 25)).alloc (.cells #[.slice none 0 0, .slice none 0 0, .int .i64 0, .bool false] 25)).heap[w.heap.size]? = some (.cells #[.slice sa sn sc, .slice pa pn pc, .int .i64 D.left, .bool D.stopped] 25 (0, 0)) := by
    rw [Below.heap_alloc _ _ _ (by simp)]; exact heap_alloc_at _ _ _ rfl
  have hR0 : ((w.alloc (.cells #[.slice sa sn sc, .slice pa pn pc, .int .i64 D.left, .bool D.stopped] 25)).alloc (.cells #[.slice none 0 0, .slice none 0 0, .int .i64 0, .bool false] 25)).heap[w.heap.size + 1]? = some (.cells #[.slice none 0 0, .slice none 0 0, .int .i64 0, .bool false] 25 (0, 0)) := heap_alloc_at _ _ _ (by simp)
  have HD0 := Lib.hid hD0
  have HR0 := Lib.hid hR0
  have H := Lib.hid (runs_any S _ sa sn sc pa pn pc D.left D.stopped D.secs D.pend (h.secs.below hb0) (h.pend.below hb0))
  have HD := Lib.hid h
  have HB := Lib.hid hbb
  have hls := Lib.hid h.secs.length
  have hlp := Lib.hid h.pend.length
  have hlb := Lib.hid hbb.length
  have hpn : pn ≤ 4398046511104 := by have := h.pend.bytes; simp [eWr] at this; omega
  have hbn : bn ≤ 140737488355328 := by have := hbb.bytes; simp [eByte] at this; omega
  clear h hbb hD0 hR0
  cases hok : Disk.ok D && !D.stopped with
  | false =>
    rw [show (Disk.ok { secs := D.secs, pend := D.pend, left := D.left, stopped := D.stopped } && !D.stopped) = false from hok] at H
    have hrf : writeF D at_ b = (zeroDisk, 40) := by simp only [writeF, hok]; rfl
    have HRF := Lib.hid hrf
    clear hrf hok
    go_enter Try.func19, Try.ntmps19
    go_wp2_with ((with_reducible refine H.out.mono ?_); rintro e w1 ⟨rfl, hb1⟩; have hz : w.heap.size + 1 < w1.heap.size := (by have := hb1.size; simp at this; omega); obtain ⟨r0, r1, r2, r3, rf⟩ := box4 ((hb1.block (w.heap.size + 1) (by first | (simp; done) | (simp; omega) | omega)).trans HR0.out))
    have hb2 := hb0.trans (hb1.mono (by simp; omega))
    refine bodyPost_ret (v := .tuple #[.agg #[.slice none 0 0, .slice none 0 0, .int .i64 0, .bool false], .int .i64 40]) (by simp [results, Try.results19, go_sem, r0, r1, r2, r3]) rfl ?_
    exact RetDisk.zero HRF.out (by (repeat (first | (with_reducible assumption) | exact Below.refl _ _ | refine Below.setCell ?_ (by first | (simp; done) | (simp; omega) | omega) _ | refine Below.alloc ?_ (by first | (simp; done) | (simp; omega) | omega) _ | refine Below.drew ?_ | refine below_drewN ?_ _)))
  | true =>
    rw [show (Disk.ok { secs := D.secs, pend := D.pend, left := D.left, stopped := D.stopped } && !D.stopped) = true from hok] at H
    by_cases hin : 0 ≤ at_ ∧ at_ < (sn : Int)
    · have hdd : (decide ((0 : Int) ≤ at_) && decide (at_ < (sn : Int))) = true := by simp; omega
      have hpre : writeF D at_ b = (if 128 < b.length then (zeroDisk, 1) else if D.pend.length = 4096 then (zeroDisk, 2) else ({ D with pend := D.pend ++ [⟨at_, pad b⟩] }, 0)) := by
        have e := hls.out
        simp only [writeF, hok, e, hdd]
        rfl
      have HPRE := Lib.hid hpre
      clear hpre
      by_cases h128 : 128 < (bn : Int)
      · have hrf : writeF D at_ b = (zeroDisk, 1) := by rw [HPRE.out, if_pos (by have := hlb.out; omega)]
        have HRF := Lib.hid hrf
        clear hrf hok hin
        go_enter Try.func19, Try.ntmps19
        go_wp2_with (first | ((with_reducible refine H.out.mono ?_); rintro e w1 ⟨rfl, hb1⟩; have hz : w.heap.size + 1 < w1.heap.size := (by have := hb1.size; simp at this; omega); obtain ⟨d0, d1, d2, d3, df⟩ := box4 ((hb1.block (w.heap.size) (by first | (simp; done) | (simp; omega) | omega)).trans HD0.out)) | (go_at_call 36; refine (has_any _ _ _ _ _ _ _ _ _ _).mono ?_; rw [hdd]; rintro e w2 ⟨rfl, hb3⟩; clear d0 d1 d2 d3 df; obtain ⟨r0, r1, r2, r3, rf⟩ := box4 ((hb3.block (w.heap.size + 1) (by first | (simp; done) | (simp; omega) | omega)).trans ((hb1.block (w.heap.size + 1) (by first | (simp; done) | (simp; omega) | omega)).trans HR0.out)); obtain ⟨d0, d1, d2, d3, df⟩ := box4 ((hb3.block (w.heap.size) (by first | (simp; done) | (simp; omega) | omega)).trans ((hb1.block (w.heap.size) (by first | (simp; done) | (simp; omega) | omega)).trans HD0.out))))
        have hb2 := (hb0.trans (hb1.mono (by simp; omega))).trans (hb3.mono (by omega))
        refine bodyPost_ret (v := .tuple #[.agg #[.slice none 0 0, .slice none 0 0, .int .i64 0, .bool false], .int .i64 1]) (by simp [results, Try.results19, go_sem, r0, r1, r2, r3]) rfl ?_
        exact RetDisk.zero HRF.out (by (repeat (first | (with_reducible assumption) | exact Below.refl _ _ | refine Below.setCell ?_ (by first | (simp; done) | (simp; omega) | omega) _ | refine Below.alloc ?_ (by first | (simp; done) | (simp; omega) | omega) _ | refine Below.drew ?_ | refine below_drewN ?_ _)))
      · by_cases hp : (pn : Int) = 4096
        · have hrf : writeF D at_ b = (zeroDisk, 2) := by rw [HPRE.out, if_neg (by have := hlb.out; omega), if_pos (by have := hlp.out; omega)]
          have HRF := Lib.hid hrf
          have hpt : ((pn : Int) == 4096) = true := by simp [hp]
          clear hrf hp hok hin
          go_enter Try.func19, Try.ntmps19
          go_wp2_with (first | ((with_reducible refine H.out.mono ?_); rintro e w1 ⟨rfl, hb1⟩; have hz : w.heap.size + 1 < w1.heap.size := (by have := hb1.size; simp at this; omega); obtain ⟨d0, d1, d2, d3, df⟩ := box4 ((hb1.block (w.heap.size) (by first | (simp; done) | (simp; omega) | omega)).trans HD0.out)) | (go_at_call 36; refine (has_any _ _ _ _ _ _ _ _ _ _).mono ?_; rw [hdd]; rintro e w2 ⟨rfl, hb3⟩; clear d0 d1 d2 d3 df; obtain ⟨r0, r1, r2, r3, rf⟩ := box4 ((hb3.block (w.heap.size + 1) (by first | (simp; done) | (simp; omega) | omega)).trans ((hb1.block (w.heap.size + 1) (by first | (simp; done) | (simp; omega) | omega)).trans HR0.out)); obtain ⟨d0, d1, d2, d3, df⟩ := box4 ((hb3.block (w.heap.size) (by first | (simp; done) | (simp; omega) | omega)).trans ((hb1.block (w.heap.size) (by first | (simp; done) | (simp; omega) | omega)).trans HD0.out))))
          have hb2 := (hb0.trans (hb1.mono (by simp; omega))).trans (hb3.mono (by omega))
          refine bodyPost_ret (v := .tuple #[.agg #[.slice none 0 0, .slice none 0 0, .int .i64 0, .bool false], .int .i64 2]) (by simp [results, Try.results19, go_sem, r0, r1, r2, r3]) rfl ?_
          exact RetDisk.zero HRF.out (by (repeat (first | (with_reducible assumption) | exact Below.refl _ _ | refine Below.setCell ?_ (by first | (simp; done) | (simp; omega) | omega) _ | refine Below.alloc ?_ (by first | (simp; done) | (simp; omega) | omega) _ | refine Below.drew ?_ | refine below_drewN ?_ _)))
        · have hrf : writeF D at_ b = ({ D with pend := D.pend ++ [⟨at_, pad b⟩] }, 0) := by rw [HPRE.out, if_neg (by have := hlb.out; omega), if_neg (by have := hlp.out; omega)]
          rw [hrf]
          exact write_ok S w sa sn sc pa pn pc ba bn bc D at_ b h0 HD.out HB.out hok hin (by omega) (by omega)
    · have hrf : writeF D at_ b = (zeroDisk, 40) := by
        have e := hls.out
        simp only [writeF, hok, e]
        rw [if_neg]
        simp
        omega
      have HRF := Lib.hid hrf
      clear hrf hok
      have hdd : (decide ((0 : Int) ≤ at_) && decide (at_ < (sn : Int))) = false := by simp; omega
      clear hin
      go_enter Try.func19, Try.ntmps19
      go_wp2_with (first | ((with_reducible refine H.out.mono ?_); rintro e w1 ⟨rfl, hb1⟩; have hz : w.heap.size + 1 < w1.heap.size := (by have := hb1.size; simp at this; omega); obtain ⟨d0, d1, d2, d3, df⟩ := box4 ((hb1.block (w.heap.size) (by first | (simp; done) | (simp; omega) | omega)).trans HD0.out)) | (go_at_call 36; refine (has_any _ _ _ _ _ _ _ _ _ _).mono ?_; rw [hdd]; rintro e w2 ⟨rfl, hb3⟩; obtain ⟨r0, r1, r2, r3, rf⟩ := box4 ((hb3.block (w.heap.size + 1) (by first | (simp; done) | (simp; omega) | omega)).trans ((hb1.block (w.heap.size + 1) (by first | (simp; done) | (simp; omega) | omega)).trans HR0.out))))
      have hb2 := (hb0.trans (hb1.mono (by simp; omega))).trans (hb3.mono (by omega))
      refine bodyPost_ret (v := .tuple #[.agg #[.slice none 0 0, .slice none 0 0, .int .i64 0, .bool false], .int .i64 40]) (by simp [results, Try.results19, go_sem, r0, r1, r2, r3]) rfl ?_
      exact RetDisk.zero HRF.out (by (repeat (first | (with_reducible assumption) | exact Below.refl _ _ | refine Below.setCell ?_ (by first | (simp; done) | (simp; omega) | omega) _ | refine Below.alloc ?_ (by first | (simp; done) | (simp; omega) | omega) _ | refine Below.drew ?_ | refine below_drewN ?_ _)))

end Go.Proofs.Ytckcdokfhdckhaa
