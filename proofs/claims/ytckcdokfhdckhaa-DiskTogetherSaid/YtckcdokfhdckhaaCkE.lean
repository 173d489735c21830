/- The walks of the reference's Few and Stop, and of both Restart. -/
import Derived.Test.YtckcdokfhdckhaaRows
import Derived.Test.YtckcdokfhdckhaaCkD
import Derived.WalkKit
import Derived.WalkLawsBesides
import Derived.WalkSpells
import Derived.Outline
import Derived.Lib.Hide
import Derived.Deep.QuietTactic
import Derived.BigQuiet
namespace Go.Proofs.Ytckcdokfhdckhaa
open Go.RowKit Go.Kx

set_option maxHeartbeats 1000000 in
theorem few_any (S : Nat → Prop) (w : World) (sa : Option Addr) (sn sc : Nat) (pa : Option Addr) (pn pc : Nat) (left : Int) (st : Bool) (secs : List Bytes) (pend : List Wr)
    (hs : Sl (eSl eByte) S w sa sn sc secs) (hp : Sl eWr S w pa pn pc pend) :
    Calls Try.prog 11 #[.agg #[.slice sa sn sc, .slice pa pn pc, .int .i64 left, .bool st]] w (SomeBool w) := by
  have hsn : sn ≤ 140737488355328 := by have := hs.bytes; simp [eSl] at this; omega
  have hpn : pn ≤ 140737488355328 := by have := hp.bytes; simp [eWr] at this; omega
  have hls := Lib.hid hs.length
  have hlp := Lib.hid hp.length
  have HS := Lib.hid hs
  have HP := Lib.hid hp
  clear hs hp
  go_enter Try.func11, Try.ntmps11
  go_wp2
  go_loop [3, 4] (fun n i => ∃ k m : Nat, k ≤ sn ∧ i = .int .i64 k ∧ n = .int .i64 m ∧ m ≤ 9000 + 140737488355329) (fun _ i => sn - (intOf i).toNat)
  case atStart => exact ⟨0, 0, by omega, rfl, rfl, by omega⟩
  case round =>
    obtain ⟨k, m, hk, rfl, rfl, hm⟩ := hrel
    by_cases hlt : k < sn ∧ m ≤ 9000
    · obtain ⟨hlt, hm9⟩ := hlt
      obtain ⟨b, off, oa, n1, c1, rfl, hb, hS, hc0, hx⟩ := Sl.row HS.out (Below.refl _ w) k (by have := hls.out; omega)
      have hn1 := hx.bytes
      simp only [eByte, Nat.mul_one] at hn1
      clear hx
      go_wp2
      go_round
      case rel => exact ⟨k + 1, m + 1 + n1, by omega, by go_num, by go_num, by omega⟩
      case measure => simp [intOf]; omega
    · by_cases hlt2 : k < sn
      all_goals
        first
        | (have _t := hlt2
           have hm9 : (9000 : Int) < m := by omega
           clear hlt)
        | clear hlt
        go_wp2
        go_loop [3, 5] (fun n i => ∃ k m : Nat, k ≤ pn ∧ i = .int .i64 k ∧ n = .int .i64 m ∧ m ≤ 9000 + 140737488355329) (fun _ i => pn - (intOf i).toNat)
        case atStart => exact ⟨0, m, by omega, rfl, rfl, by omega⟩
        case round =>
          obtain ⟨k, m, hk, rfl, rfl, hm⟩ := hrel
          by_cases hlt : k < pn ∧ m ≤ 9000
          · obtain ⟨hlt, hm9⟩ := hlt
            obtain ⟨b, off, oa, n1, cc, rfl, hb, hS, hc0, hc1, hx, hlo, hhi⟩ := Sl.wr HP.out (Below.refl _ w) k (by have := hlp.out; omega)
            have hn1 := hx.bytes
            simp only [eByte, Nat.mul_one] at hn1
            clear hx
            go_wp2
            go_round
            case rel => exact ⟨k + 1, m + 1 + n1, by omega, by go_num, by go_num, by omega⟩
            case measure => simp [intOf]; omega
          · by_cases hlt2 : k < pn
            all_goals
              first
              | (have hm9 : (9000 : Int) < m := by omega
                 clear hlt)
              | clear hlt
              go_wp2
              go_ret
              exact SomeBool.mk (by (repeat (first | (with_reducible assumption) | exact Below.refl _ _ | refine Below.setCell ?_ (by first | (simp; done) | (simp; omega) | omega) _ | refine Below.alloc ?_ (by first | (simp; done) | (simp; omega) | omega) _ | refine Below.drew ?_ | refine below_drewN ?_ _)))

/-- What a function hands back that returns a disk. -/
def RetDisk1 (S : Nat → Prop) (w : World) (r : Disk) (e : Ending) (w' : World) : Prop :=
  ∃ sa sn sc pa pn pc, e = .returned (.agg #[.slice sa sn sc, .slice pa pn pc, .int .i64 r.left, .bool r.stopped]) ∧ DiskAt (Up S w) w' sa sn sc pa pn pc r ∧ Below w.heap.size w w'

theorem restart_any (S : Nat → Prop) (w : World) (sa : Option Addr) (sn sc : Nat) (pa : Option Addr) (pn pc : Nat) (D : Disk) (h : DiskAt S w sa sn sc pa pn pc D) :
    Calls Try.prog 17 #[.agg #[.slice sa sn sc, .slice pa pn pc, .int .i64 D.left, .bool D.stopped]] w (RetDisk1 S w (restartF D)) := by
  have HD := Lib.hid h
  clear h
  go_enter Try.func17, Try.ntmps17
  go_wp2
  refine bodyPost_end (v := .agg #[.slice sa sn sc, .slice none 0 0, .int .i64 (-1), .bool false]) (by simp [results, Try.results17, go_sem]) rfl ?_
  have hb : Below w.heap.size w ((w.alloc (.cells #[.slice sa sn sc, .slice pa pn pc, .int .i64 D.left, .bool D.stopped] 25)).alloc (.cells #[.slice sa sn sc, .slice none 0 0, .int .i64 (-1), .bool false] 25)) := by (repeat (first | (with_reducible assumption) | exact Below.refl _ _ | refine Below.setCell ?_ (by first | (simp; done) | (simp; omega) | omega) _ | refine Below.alloc ?_ (by first | (simp; done) | (simp; omega) | omega) _ | refine Below.drew ?_ | refine below_drewN ?_ _))
  exact ⟨sa, sn, sc, none, 0, 0, rfl, ⟨HD.out.secs.mono (keepUp_of_below hb), Sl.zero _ _ _, by show (-9223372036854775808 : Int) ≤ -1; decide, by show (-1 : Int) ≤ 9223372036854775807; decide⟩, hb⟩

theorem rrestart_any (S : Nat → Prop) (w : World) (sa : Option Addr) (sn sc : Nat) (pa : Option Addr) (pn pc : Nat) (D : Disk) (h : DiskAt S w sa sn sc pa pn pc D) :
    Calls Try.prog 18 #[.agg #[.slice sa sn sc, .slice pa pn pc, .int .i64 D.left, .bool D.stopped]] w (RetDisk1 S w (restartF D)) := by
  have HD := Lib.hid h
  clear h
  go_enter Try.func18, Try.ntmps18
  go_wp2
  refine bodyPost_end (v := .agg #[.slice sa sn sc, .slice none 0 0, .int .i64 (-1), .bool false]) (by simp [results, Try.results18, go_sem]) rfl ?_
  have hb : Below w.heap.size w ((w.alloc (.cells #[.slice sa sn sc, .slice pa pn pc, .int .i64 D.left, .bool D.stopped] 25)).alloc (.cells #[.slice sa sn sc, .slice none 0 0, .int .i64 (-1), .bool false] 25)) := by (repeat (first | (with_reducible assumption) | exact Below.refl _ _ | refine Below.setCell ?_ (by first | (simp; done) | (simp; omega) | omega) _ | refine Below.alloc ?_ (by first | (simp; done) | (simp; omega) | omega) _ | refine Below.drew ?_ | refine below_drewN ?_ _))
  exact ⟨sa, sn, sc, none, 0, 0, rfl, ⟨HD.out.secs.mono (keepUp_of_below hb), Sl.zero _ _ _, by show (-9223372036854775808 : Int) ≤ -1; decide, by show (-1 : Int) ≤ 9223372036854775807; decide⟩, hb⟩

set_option maxHeartbeats 400000 in
theorem rstop_any (S : Nat → Prop) (w : World) (sa : Option Addr) (sn sc : Nat) (pa : Option Addr) (pn pc : Nat) (D : Disk) (left : Int) (h0 : -9223372036854775808 ≤ left ∧ left ≤ 9223372036854775807)
    (h : DiskAt S w sa sn sc pa pn pc D) :
    Calls Try.prog 26 #[.agg #[.slice sa sn sc, .slice pa pn pc, .int .i64 D.left, .bool D.stopped], .int .i64 left] w (RetDisk S w (stopF D left)) := by
  have hb0 : Below w.heap.size w ((w.alloc (.cells #[.slice sa sn sc, .slice pa pn pc, .int .i64 D.left, .bool D.stopped] 25)).alloc (.cells #[.slice none 0 0, .slice none 0 0, .int .i64 0, .bool false] 25)) :=
    ((Below.refl _ _).alloc (Nat.le_refl _) _).alloc (by simp) _
  have H := Lib.hid (rcheck_any S _ sa sn sc pa pn pc D.left D.stopped D.secs D.pend (h.secs.below hb0) (h.pend.below hb0))
  have HD := Lib.hid h
  clear h
  have hckf : checkF ⟨D.secs, D.pend, D.left, D.stopped⟩ = if Disk.ok D then 0 else 40 := rfl
  rw [hckf] at H
  clear hckf
  cases hok : Disk.ok D with
  | false =>
    have hst : stopF D left = (zeroDisk, 40) := by simp only [stopF, hok]; rfl
    have HST := Lib.hid hst
    clear hst
    rw [if_neg (by simp [hok])] at H
    clear hok
    go_enter Try.func26, Try.ntmps26
    go_wp2_with ((with_reducible refine H.out.mono ?_); rintro e w1 ⟨rfl, hb1⟩; obtain ⟨hcc, hff⟩ := bcell hb1; have hz : w.heap.size + 1 < w1.heap.size := (by have := hb1.size; simp at this; omega))
    refine bodyPost_ret (v := .tuple #[.agg #[.slice none 0 0, .slice none 0 0, .int .i64 0, .bool false], .int .i64 40]) (by simp [results, Try.results26, go_sem, hcc]) rfl ?_
    have hb2 := hb0.trans (hb1.mono (by simp; omega))
    exact RetDisk.zero HST.out (by (repeat (first | (with_reducible assumption) | exact Below.refl _ _ | refine Below.setCell ?_ (by first | (simp; done) | (simp; omega) | omega) _ | refine Below.alloc ?_ (by first | (simp; done) | (simp; omega) | omega) _ | refine Below.drew ?_ | refine below_drewN ?_ _)))
  | true =>
    rw [if_pos hok] at H
    cases hst : D.stopped with
    | true =>
      have hst' : stopF D left = (zeroDisk, 40) := by simp only [stopF, hok, hst]; rfl
      have HST := Lib.hid hst'
      rw [hst] at H hb0
      clear hst' hok hst
      go_enter Try.func26, Try.ntmps26
      go_wp2_with ((with_reducible refine H.out.mono ?_); rintro e w1 ⟨rfl, hb1⟩; obtain ⟨hcc, hff⟩ := bcell hb1; have hz : w.heap.size + 1 < w1.heap.size := (by have := hb1.size; simp at this; omega))
      refine bodyPost_ret (v := .tuple #[.agg #[.slice none 0 0, .slice none 0 0, .int .i64 0, .bool false], .int .i64 40]) (by simp [results, Try.results26, go_sem, hcc]) rfl ?_
      have hb2 := hb0.trans (hb1.mono (by simp; omega))
      exact RetDisk.zero HST.out (by (repeat (first | (with_reducible assumption) | exact Below.refl _ _ | refine Below.setCell ?_ (by first | (simp; done) | (simp; omega) | omega) _ | refine Below.alloc ?_ (by first | (simp; done) | (simp; omega) | omega) _ | refine Below.drew ?_ | refine below_drewN ?_ _)))
    | false =>
      have hst' : stopF D left = if decide (left < 0) || decide (65536 < left) then (zeroDisk, 1) else ({ D with left := left }, 0) := by simp only [stopF, hok, hst]; rfl
      have HST := Lib.hid hst'
      have HSS := Lib.hid hst
      rw [hst] at H hb0
      clear hst' hok hst
      go_enter Try.func26, Try.ntmps26
      go_wp2_with ((with_reducible refine H.out.mono ?_); rintro e w1 ⟨rfl, hb1⟩; obtain ⟨hcc, hff⟩ := bcell hb1; have hz : w.heap.size + 1 < w1.heap.size := (by have := hb1.size; simp at this; omega); have hA2 : w1.cell? ⟨w.heap.size, 2, none⟩ = some (.int .i64 D.left) := (hcc _ _ (by simp; omega)).trans (by simp [go_sem]))
      all_goals have hb2 := hb0.trans (hb1.mono (by simp; omega))
      · refine bodyPost_ret (v := .tuple #[.agg #[.slice none 0 0, .slice none 0 0, .int .i64 0, .bool false], .int .i64 1]) (by simp [results, Try.results26, go_sem, hcc]) rfl ?_
        exact RetDisk.zero (by rw [HST.out]; simp [*]) (by (repeat (first | (with_reducible assumption) | exact Below.refl _ _ | refine Below.setCell ?_ (by first | (simp; done) | (simp; omega) | omega) _ | refine Below.alloc ?_ (by first | (simp; done) | (simp; omega) | omega) _ | refine Below.drew ?_ | refine below_drewN ?_ _)))
      · refine bodyPost_ret (v := .tuple #[.agg #[.slice sa sn sc, .slice pa pn pc, .int .i64 left, .bool false], .int .i64 0]) (by simp [results, Try.results26, go_sem, hcc]) rfl ?_
        exact RetDisk.of (D := { D with left := left }) (by rw [HST.out]; simp [*]) rfl HSS.out (by (repeat (first | (with_reducible assumption) | exact Below.refl _ _ | refine Below.setCell ?_ (by first | (simp; done) | (simp; omega) | omega) _ | refine Below.alloc ?_ (by first | (simp; done) | (simp; omega) | omega) _ | refine Below.drew ?_ | refine below_drewN ?_ _))) fun hb => ⟨HD.out.secs.mono (keepUp_of_below hb), HD.out.pend.mono (keepUp_of_below hb), h0.1, h0.2⟩
      · refine bodyPost_ret (v := .tuple #[.agg #[.slice none 0 0, .slice none 0 0, .int .i64 0, .bool false], .int .i64 1]) (by simp [results, Try.results26, go_sem, hcc]) rfl ?_
        exact RetDisk.zero (by rw [HST.out]; simp [*]) (by (repeat (first | (with_reducible assumption) | exact Below.refl _ _ | refine Below.setCell ?_ (by first | (simp; done) | (simp; omega) | omega) _ | refine Below.alloc ?_ (by first | (simp; done) | (simp; omega) | omega) _ | refine Below.drew ?_ | refine below_drewN ?_ _)))

end Go.Proofs.Ytckcdokfhdckhaa
