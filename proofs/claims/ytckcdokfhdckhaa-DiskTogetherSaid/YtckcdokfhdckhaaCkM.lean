/- The walk of the reference's Write. -/
import Derived.Test.YtckcdokfhdckhaaRows
import Derived.Test.YtckcdokfhdckhaaCkL
import Derived.WalkKit
import Derived.WalkLawsBesides
import Derived.WalkSpells
import Derived.Outline
import Derived.Lib.Hide
import Derived.Laws.CopyOwn
import Derived.Deep.OwnRows
import Derived.RangeFuncBox
namespace Go.Proofs.Ytckcdokfhdckhaa
open Go.RowKit Go.Kx

set_option maxRecDepth 20000 in
set_option maxHeartbeats 2000000 in
theorem rwrite_any (S : Nat → Prop) (w : World) (sa : Option Addr) (sn sc : Nat) (pa : Option Addr) (pn pc : Nat) (ba : Option Addr) (bn bc : Nat) (D : Disk) (at_ : Int) (b : Bytes) (h0 : -9223372036854775808 ≤ at_ ∧ at_ ≤ 9223372036854775807)
    (h : DiskAt S w sa sn sc pa pn pc D) (hbb : Sl eByte S w ba bn bc b) :
    Calls Try.prog 20 #[.agg #[.slice sa sn sc, .slice pa pn pc, .int .i64 D.left, .bool D.stopped], .int .i64 at_, .slice ba bn bc] w (RetDisk S w (writeF D at_ b)) := by
  have hb0 : Below w.heap.size w ((w.alloc (.cells #[.slice sa sn sc, .slice pa pn pc, .int .i64 D.left, .bool D.stopped] 25)).alloc (.cells #[.slice none 0 0, .slice none 0 0, .int .i64 0, .bool false] 25)) := by (repeat (first | (with_reducible assumption) | exact Below.refl _ _ | refine Below.setCell ?_ (by first | (simp; done) | (simp; omega) | omega) _ | refine Below.alloc ?_ (by first | (simp; done) | (simp; omega) | omega) _ | refine Below.drew ?_ | refine below_drewN ?_ _))
  have hR0 : ((w.alloc (.cells #[.slice sa sn sc, .slice pa pn pc, .int .i64 D.left, .bool D.stopped] 25)).alloc (.cells #[.slice none 0 0, .slice none 0 0, .int .i64 0, .bool false] 25)).heap[w.heap.size + 1]? = some (.cells #[.slice none 0 0, .slice none 0 0, .int .i64 0, .bool false] 25 (0, 0)) := heap_alloc_at _ _ _ (by simp)
  have hD0 : ((w.alloc (.cells #[.slice sa sn sc, .slice pa pn pc, .int .i64 D.left, .bool D.stopped] 25)).alloc (.cells #[.slice none 0 0, .slice none 0 0, .int .i64 0, .bool false] 25)).heap[w.heap.size]? = some (.cells #[.slice sa sn sc, .slice pa pn pc, .int .i64 D.left, .bool D.stopped] 25 (0, 0)) := by
    rw [Below.heap_alloc _ _ _ (by simp)]; exact heap_alloc_at _ _ _ rfl
  have H := Lib.hid (rcheck_any S _ sa sn sc pa pn pc D.left D.stopped D.secs D.pend (h.secs.below hb0) (h.pend.below hb0))
  have hls := Lib.hid h.secs.length
  have hlp := Lib.hid h.pend.length
  have hlb := Lib.hid hbb.length
  have hpn : pn ≤ 4398046511104 := by have := h.pend.bytes; simp [eWr] at this; omega
  have hbn : bn ≤ 140737488355328 := by have := hbb.bytes; simp [eByte] at this; omega
  have hckf : checkF ⟨D.secs, D.pend, D.left, D.stopped⟩ = if Disk.ok D then 0 else 40 := rfl
  rw [hckf] at H
  clear hckf
  by_cases hgo : (Disk.ok D = true ∧ D.stopped = false) ∧ (0 ≤ at_ ∧ at_ < (sn : Int)) ∧ bn ≤ 128 ∧ pn ≠ 4096
  · obtain ⟨⟨hok, hst⟩, hin, hb128, hp⟩ := hgo
    have hrf : writeF D at_ b = ({ D with pend := D.pend ++ [⟨at_, pad b⟩] }, 0) := by
      have e := hls.out
      unfold writeF
      rw [if_pos, if_neg (by have := hlb.out; omega), if_neg (by have := hlp.out; omega)]
      rw [hok, hst, e]
      simp
      omega
    rw [hrf]
    exact rwrite_ok S w sa sn sc pa pn pc ba bn bc D at_ b h0 h hbb hok hst hin hb128 hp
  · clear h hbb
    have HD0 := Lib.hid hD0
    have HR0 := Lib.hid hR0
    clear hD0 hR0
    cases hok : Disk.ok D with
    | false =>
      have hrf : writeF D at_ b = (zeroDisk, 40) := by simp only [writeF, hok]; rfl
      have HRF := Lib.hid hrf
      rw [if_neg (by simp [hok])] at H
      clear hrf hok hgo
      go_enter Try.func20, Try.ntmps20
      go_wp2_with ((with_reducible refine H.out.mono ?_); rintro e w1 ⟨rfl, hb1⟩; have hz : w.heap.size + 1 < w1.heap.size := (by have := hb1.size; simp at this; omega); obtain ⟨r0, r1, r2, r3, rf⟩ := box4 ((hb1.block (w.heap.size + 1) (by first | (simp; done) | (simp; omega) | omega)).trans HR0.out); obtain ⟨d0, d1, d2, d3, df⟩ := box4 ((hb1.block (w.heap.size) (by first | (simp; done) | (simp; omega) | omega)).trans HD0.out))
      have hb2 := hb0.trans (hb1.mono (by simp; omega))
      refine bodyPost_ret (v := .tuple #[.agg #[.slice none 0 0, .slice none 0 0, .int .i64 0, .bool false], .int .i64 40]) (by simp [results, Try.results20, go_sem, r0, r1, r2, r3]) rfl ?_
      exact RetDisk.zero HRF.out (by (repeat (first | (with_reducible assumption) | exact Below.refl _ _ | refine Below.setCell ?_ (by first | (simp; done) | (simp; omega) | omega) _ | refine Below.alloc ?_ (by first | (simp; done) | (simp; omega) | omega) _ | refine Below.drew ?_ | refine below_drewN ?_ _)))
    | true =>
      rw [if_pos hok] at H
      cases hst : D.stopped with
      | true =>
        have hrf : writeF D at_ b = (zeroDisk, 40) := by simp only [writeF, hok, hst]; rfl
        have HRF := Lib.hid hrf
        rw [hst] at H hb0 HD0 HR0
        clear hrf hok hst hgo
        go_enter Try.func20, Try.ntmps20
        go_wp2_with ((with_reducible refine H.out.mono ?_); rintro e w1 ⟨rfl, hb1⟩; have hz : w.heap.size + 1 < w1.heap.size := (by have := hb1.size; simp at this; omega); obtain ⟨r0, r1, r2, r3, rf⟩ := box4 ((hb1.block (w.heap.size + 1) (by first | (simp; done) | (simp; omega) | omega)).trans HR0.out); obtain ⟨d0, d1, d2, d3, df⟩ := box4 ((hb1.block (w.heap.size) (by first | (simp; done) | (simp; omega) | omega)).trans HD0.out))
        have hb2 := hb0.trans (hb1.mono (by simp; omega))
        refine bodyPost_ret (v := .tuple #[.agg #[.slice none 0 0, .slice none 0 0, .int .i64 0, .bool false], .int .i64 40]) (by simp [results, Try.results20, go_sem, r0, r1, r2, r3]) rfl ?_
        exact RetDisk.zero HRF.out (by (repeat (first | (with_reducible assumption) | exact Below.refl _ _ | refine Below.setCell ?_ (by first | (simp; done) | (simp; omega) | omega) _ | refine Below.alloc ?_ (by first | (simp; done) | (simp; omega) | omega) _ | refine Below.drew ?_ | refine below_drewN ?_ _)))
      | false =>
        by_cases h1 : at_ < 0
        · have hrf : writeF D at_ b = (zeroDisk, 40) := by unfold writeF; rw [if_neg]; simp; omega
          have HRF := Lib.hid hrf
          rw [hst] at H hb0 HD0 HR0
          clear hrf hok hst hgo
          go_enter Try.func20, Try.ntmps20
          go_wp2_with ((with_reducible refine H.out.mono ?_); rintro e w1 ⟨rfl, hb1⟩; have hz : w.heap.size + 1 < w1.heap.size := (by have := hb1.size; simp at this; omega); obtain ⟨r0, r1, r2, r3, rf⟩ := box4 ((hb1.block (w.heap.size + 1) (by first | (simp; done) | (simp; omega) | omega)).trans HR0.out); obtain ⟨d0, d1, d2, d3, df⟩ := box4 ((hb1.block (w.heap.size) (by first | (simp; done) | (simp; omega) | omega)).trans HD0.out))
          have hb2 := hb0.trans (hb1.mono (by simp; omega))
          refine bodyPost_ret (v := .tuple #[.agg #[.slice none 0 0, .slice none 0 0, .int .i64 0, .bool false], .int .i64 40]) (by simp [results, Try.results20, go_sem, r0, r1, r2, r3]) rfl ?_
          exact RetDisk.zero HRF.out (by (repeat (first | (with_reducible assumption) | exact Below.refl _ _ | refine Below.setCell ?_ (by first | (simp; done) | (simp; omega) | omega) _ | refine Below.alloc ?_ (by first | (simp; done) | (simp; omega) | omega) _ | refine Below.drew ?_ | refine below_drewN ?_ _)))
        · have h1' : 0 ≤ at_ := by omega
          by_cases h2 : (sn : Int) ≤ at_
          · have hrf : writeF D at_ b = (zeroDisk, 40) := by have e := hls.out; unfold writeF; rw [if_neg]; simp; omega
            have HRF := Lib.hid hrf
            rw [hst] at H hb0 HD0 HR0
            clear hrf hok hst hgo h1
            go_enter Try.func20, Try.ntmps20
            go_wp2_with ((with_reducible refine H.out.mono ?_); rintro e w1 ⟨rfl, hb1⟩; have hz : w.heap.size + 1 < w1.heap.size := (by have := hb1.size; simp at this; omega); obtain ⟨r0, r1, r2, r3, rf⟩ := box4 ((hb1.block (w.heap.size + 1) (by first | (simp; done) | (simp; omega) | omega)).trans HR0.out); obtain ⟨d0, d1, d2, d3, df⟩ := box4 ((hb1.block (w.heap.size) (by first | (simp; done) | (simp; omega) | omega)).trans HD0.out))
            have hb2 := hb0.trans (hb1.mono (by simp; omega))
            refine bodyPost_ret (v := .tuple #[.agg #[.slice none 0 0, .slice none 0 0, .int .i64 0, .bool false], .int .i64 40]) (by simp [results, Try.results20, go_sem, r0, r1, r2, r3]) rfl ?_
            exact RetDisk.zero HRF.out (by (repeat (first | (with_reducible assumption) | exact Below.refl _ _ | refine Below.setCell ?_ (by first | (simp; done) | (simp; omega) | omega) _ | refine Below.alloc ?_ (by first | (simp; done) | (simp; omega) | omega) _ | refine Below.drew ?_ | refine below_drewN ?_ _)))
          · have h2' : at_ < (sn : Int) := by omega
            have hpre : writeF D at_ b = (if 128 < b.length then (zeroDisk, 1) else if D.pend.length = 4096 then (zeroDisk, 2) else ({ D with pend := D.pend ++ [⟨at_, pad b⟩] }, 0)) := by
              have e := hls.out
              unfold writeF
              rw [if_pos]
              rw [hok, hst, e]
              simp
              omega
            by_cases h128 : 128 < (bn : Int)
            · have hrf : writeF D at_ b = (zeroDisk, 1) := by rw [hpre, if_pos (by have := hlb.out; omega)]
              have HRF := Lib.hid hrf
              rw [hst] at H hb0 HD0 HR0
              clear hrf hok hst hgo h1 h2 hpre
              go_enter Try.func20, Try.ntmps20
              go_wp2_with ((with_reducible refine H.out.mono ?_); rintro e w1 ⟨rfl, hb1⟩; have hz : w.heap.size + 1 < w1.heap.size := (by have := hb1.size; simp at this; omega); obtain ⟨r0, r1, r2, r3, rf⟩ := box4 ((hb1.block (w.heap.size + 1) (by first | (simp; done) | (simp; omega) | omega)).trans HR0.out); obtain ⟨d0, d1, d2, d3, df⟩ := box4 ((hb1.block (w.heap.size) (by first | (simp; done) | (simp; omega) | omega)).trans HD0.out))
              have hb2 := hb0.trans (hb1.mono (by simp; omega))
              refine bodyPost_ret (v := .tuple #[.agg #[.slice none 0 0, .slice none 0 0, .int .i64 0, .bool false], .int .i64 1]) (by simp [results, Try.results20, go_sem, r0, r1, r2, r3]) rfl ?_
              exact RetDisk.zero HRF.out (by (repeat (first | (with_reducible assumption) | exact Below.refl _ _ | refine Below.setCell ?_ (by first | (simp; done) | (simp; omega) | omega) _ | refine Below.alloc ?_ (by first | (simp; done) | (simp; omega) | omega) _ | refine Below.drew ?_ | refine below_drewN ?_ _)))
            · have hp : (pn : Int) = 4096 := by
                refine Classical.byContradiction fun hp => hgo ⟨⟨hok, hst⟩, ⟨h1', h2'⟩, by omega, by omega⟩
              have hrf : writeF D at_ b = (zeroDisk, 2) := by rw [hpre, if_neg (by have := hlb.out; omega), if_pos (by have := hlp.out; omega)]
              have HRF := Lib.hid hrf
              have hpt : ((pn : Int) == 4096) = true := by simp [hp]
              have h128' : (bn : Int) ≤ 128 := by omega
              rw [hst] at H hb0 HD0 HR0
              clear hrf hok hst hgo h1 h2 hpre hp h128
              go_enter Try.func20, Try.ntmps20
              go_wp2_with ((with_reducible refine H.out.mono ?_); rintro e w1 ⟨rfl, hb1⟩; have hz : w.heap.size + 1 < w1.heap.size := (by have := hb1.size; simp at this; omega); obtain ⟨r0, r1, r2, r3, rf⟩ := box4 ((hb1.block (w.heap.size + 1) (by first | (simp; done) | (simp; omega) | omega)).trans HR0.out); obtain ⟨d0, d1, d2, d3, df⟩ := box4 ((hb1.block (w.heap.size) (by first | (simp; done) | (simp; omega) | omega)).trans HD0.out))
              have hb2 := hb0.trans (hb1.mono (by simp; omega))
              refine bodyPost_ret (v := .tuple #[.agg #[.slice none 0 0, .slice none 0 0, .int .i64 0, .bool false], .int .i64 2]) (by simp [results, Try.results20, go_sem, r0, r1, r2, r3]) rfl ?_
              exact RetDisk.zero HRF.out (by (repeat (first | (with_reducible assumption) | exact Below.refl _ _ | refine Below.setCell ?_ (by first | (simp; done) | (simp; omega) | omega) _ | refine Below.alloc ?_ (by first | (simp; done) | (simp; omega) | omega) _ | refine Below.drew ?_ | refine below_drewN ?_ _)))

end Go.Proofs.Ytckcdokfhdckhaa
