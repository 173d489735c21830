/- The walk of DiskStopped. -/
import Derived.Test.YtckcdokfhdckhaaRows
import Derived.Test.YtckcdokfhdckhaaCkU
import Derived.WalkKit
import Derived.WalkLawsBesides
import Derived.WalkSpells
import Derived.Outline
import Derived.Lib.Hide
import Derived.Deep.QuietTactic
import Derived.BigQuiet
namespace Go.Proofs.Ytckcdokfhdckhaa
open Go.RowKit Go.Kx

theorem stopped_read (D : Disk) (h : D.stopped = true) (at_ : Int) : readF D at_ = ([], 40) := by simp [readF, h]
theorem stopped_write (D : Disk) (h : D.stopped = true) (at_ : Int) (b : Bytes) : writeF D at_ b = (zeroDisk, 40) := by simp [writeF, h]
theorem stopped_sync (D : Disk) (h : D.stopped = true) : syncF D = (zeroDisk, 40) := by simp [syncF, h]
theorem stopped_stop (D : Disk) (h : D.stopped = true) (left : Int) : stopF D left = (zeroDisk, 40) := by simp [stopF, h]

set_option maxRecDepth 100000 in
set_option maxHeartbeats 4000000 in
theorem stopped_any (w : World) (sa : Option Addr) (sn sc : Nat) (pa : Option Addr) (pn pc : Nat) (D : Disk) (at_ left : Int) (ba : Option Addr) (bn bc : Nat) (b : Bytes) (h : DiskAt Any w sa sn sc pa pn pc D)
    (h0 : -9223372036854775808 ≤ at_ ∧ at_ ≤ 9223372036854775807) (h1 : -9223372036854775808 ≤ left ∧ left ≤ 9223372036854775807) (hbb : Sl eByte Any w ba bn bc b) :
    Calls Try.prog 9 #[.agg #[.slice sa sn sc, .slice pa pn pc, .int .i64 D.left, .bool D.stopped], .int .i64 at_, .int .i64 left, .slice ba bn bc] w fun e w' => e = .returned (.bool true) ∧ Below w.heap.size w w' := by
  have HD0 := Lib.hid (h.mono (S' := fun b => b < w.heap.size) (w' := w) fun b _ hlt => ⟨hlt, rfl⟩)
  have HB0 := Lib.hid (hbb.mono (S' := fun b => b < w.heap.size) (w' := w) fun b _ hlt => ⟨hlt, rfl⟩)
  have hsn : sn ≤ 140737488355328 := by have := h.secs.bytes; simp [eSl] at this; omega
  have hls := Lib.hid h.secs.length
  clear h hbb
  go_enter Try.func9, Try.ntmps9
  go_wp2_with fail
  refine (sane_any _).mono ?_
  rintro e w1 ⟨rfl, hb1⟩
  have b1 : Below w.heap.size w w1 := Below.trans (by (repeat (first | (with_reducible assumption) | exact Below.refl _ _ | refine Below.setCell ?_ (by first | (simp; done) | (simp; omega) | omega) _ | refine Below.alloc ?_ (by first | (simp; done) | (simp; omega) | omega) _ | refine Below.drew ?_ | refine below_drewN ?_ _))) (hb1.mono (by simp))
  have hz1 : w.heap.size < w1.heap.size := by have := hb1.size; simp at this; omega
  have HX1 := Lib.hid (show w1.heap[w.heap.size]? = some (.cells #[.slice sa sn sc, .slice pa pn pc, .int .i64 D.left, .bool D.stopped] 25 (0, 0)) from (hb1.block w.heap.size (by first | (simp; done) | (simp; omega) | omega)).trans (heap_alloc_at _ _ _ rfl))
  have HD1 := Lib.hid (HD0.out.below b1)
  have HB1 := Lib.hid (HB0.out.below b1)
  clear hb1 HD0 HB0
  obtain ⟨x0, x1, x2, x3, xf⟩ := box4 HX1.out
  go_wp2_with fail
  refine (few_any (fun b => b < w.heap.size) _ sa sn sc pa pn pc D.left D.stopped D.secs D.pend HD1.out.secs HD1.out.pend).mono ?_
  rintro e w2 ⟨fb, rfl, hb2⟩
  have K2 := Lib.hid (b1.trans (hb2.mono (by omega)))
  have hz2 : w.heap.size < w2.heap.size := by have := hb2.size; omega
  have HX2 := Lib.hid ((hb2.block w.heap.size hz1).trans HX1.out)
  have HD2 := Lib.hid (HD1.out.below hb2)
  have HB2 := Lib.hid (HB1.out.below hb2)
  clear hb2 b1 HD1 HB1 HX1 x0 x1 x2 x3 xf
  obtain ⟨x0, x1, x2, x3, xf⟩ := box4 HX2.out
  rcases fb with _ | _
  · go_wp2_with fail
    go_ret
    exact ⟨rfl, K2.out⟩
  · rcases hn : decide ((1000 : Int) < (bn : Int)) with _ | _
    · go_wp2_with fail
      refine (restart_any (fun b => b < w.heap.size) _ sa sn sc pa pn pc D HD2.out).mono ?_
      rw [show restartF D = ⟨D.secs, [], -1, false⟩ from rfl]
      rintro e w3 ⟨sa3, sn3, sc3, pa3, pn3, pc3, rfl, hD3, hb3⟩
      obtain rfl : sn3 = sn := hD3.secs.length.symm.trans hls.out
      obtain rfl : pn3 = 0 := hD3.pend.length.symm
      have K3 := Lib.hid (K2.out.trans (hb3.mono (by omega)))
      have hz3 : w.heap.size < w3.heap.size := by have := hb3.size; omega
      have HX3 := Lib.hid ((hb3.block w.heap.size hz2).trans HX2.out)
      have HD3 := Lib.hid (HD2.out.below hb3)
      have HB3 := Lib.hid (HB2.out.below hb3)
      have HE3 := Lib.hid (hD3.mono (S' := Any) (w' := w3) fun b _ _ => ⟨trivial, rfl⟩)
      clear hb3 HD2 HB2 HX2 x0 x1 x2 x3 xf hD3
      go_wp2_with fail
      -- Restart(x)
      refine (restart_any Any _ sa3 sn3 sc3 pa3 0 pc3 ⟨D.secs, [], -1, false⟩ (HE3.out.below (by (repeat (first | (with_reducible assumption) | exact Below.refl _ _ | refine Below.setCell ?_ (by first | (simp; done) | (simp; omega) | omega) _ | refine Below.alloc ?_ (by first | (simp; done) | (simp; omega) | omega) _ | refine Below.drew ?_ | refine below_drewN ?_ _))))).mono ?_
      rw [show restartF ⟨D.secs, [], -1, false⟩ = ⟨D.secs, [], -1, false⟩ from rfl]
      rintro e w4 ⟨sa4, sn4, sc4, pa4, pn4, pc4, rfl, hD4, hb4⟩
      have b4 : Below w3.heap.size w3 w4 := Below.trans (by (repeat (first | (with_reducible assumption) | exact Below.refl _ _ | refine Below.setCell ?_ (by first | (simp; done) | (simp; omega) | omega) _ | refine Below.alloc ?_ (by first | (simp; done) | (simp; omega) | omega) _ | refine Below.drew ?_ | refine below_drewN ?_ _))) (hb4.mono (by simp))
      have hz4 : w3.heap.size < w4.heap.size := by have := hb4.size; simp at this; omega
      have hv4 : w.heap.size < w4.heap.size := by omega
      have K4 := Lib.hid (K3.out.trans (b4.mono (by omega)))
      have HX4 := Lib.hid ((b4.block w.heap.size hz3).trans HX3.out)
      have HY4 := Lib.hid (show w4.heap[w3.heap.size]? = some (.cells #[.slice sa3 sn3 sc3, .slice pa3 0 pc3, .int .i64 (-1), .bool false] 25 (0, 0)) from (hb4.block w3.heap.size (by first | (simp; done) | (simp; omega) | omega)).trans (heap_alloc_at _ _ _ rfl))
      have HD4 := Lib.hid (HD3.out.below b4)
      have HB4 := Lib.hid (HB3.out.below b4)
      have HE4 := Lib.hid (HE3.out.below b4)
      have HF4 := Lib.hid (hD4.mono (S' := Any) (w' := w4) fun b _ _ => ⟨trivial, rfl⟩)
      clear hb4 HD3 HB3 HX3 HE3 hD4
      obtain ⟨y0, y1, y2, y3, yf⟩ := box4 HY4.out
      go_wp2_with fail
      -- Same(x, again)
      refine (same_true Any Any _ sa3 sn3 sc3 pa3 0 pc3 sa4 sn4 sc4 pa4 pn4 pc4 ⟨D.secs, [], -1, false⟩ (HE4.out.below (by (repeat (first | (with_reducible assumption) | exact Below.refl _ _ | refine Below.setCell ?_ (by first | (simp; done) | (simp; omega) | omega) _ | refine Below.alloc ?_ (by first | (simp; done) | (simp; omega) | omega) _ | refine Below.drew ?_ | refine below_drewN ?_ _)))) (HF4.out.below (by (repeat (first | (with_reducible assumption) | exact Below.refl _ _ | refine Below.setCell ?_ (by first | (simp; done) | (simp; omega) | omega) _ | refine Below.alloc ?_ (by first | (simp; done) | (simp; omega) | omega) _ | refine Below.drew ?_ | refine below_drewN ?_ _))))).mono ?_
      rintro e w5 ⟨rfl, hb5⟩
      have b5 : Below w4.heap.size w4 w5 := Below.trans (by (repeat (first | (with_reducible assumption) | exact Below.refl _ _ | refine Below.setCell ?_ (by first | (simp; done) | (simp; omega) | omega) _ | refine Below.alloc ?_ (by first | (simp; done) | (simp; omega) | omega) _ | refine Below.drew ?_ | refine below_drewN ?_ _))) (hb5.mono (by simp))
      have hz5 : w4.heap.size < w5.heap.size := by have := hb5.size; simp at this; omega
      have hv5 : w.heap.size < w5.heap.size := by omega
      have hv5' : w3.heap.size < w5.heap.size := by omega
      have K5 := Lib.hid (K4.out.trans (b5.mono (by omega)))
      have HX5 := Lib.hid ((b5.block w.heap.size (by omega)).trans HX4.out)
      have HY5 := Lib.hid ((b5.block w3.heap.size (by omega)).trans HY4.out)
      have HD5 := Lib.hid (HD4.out.below b5)
      have HB5 := Lib.hid (HB4.out.below b5)
      have HE5 := Lib.hid (HE4.out.below b5)
      clear hb5 HD4 HB4 HX4 HE4 HF4 HY4 y0 y1 y2 y3 yf
      obtain ⟨x0, x1, x2, x3, xf⟩ := box4 HX5.out
      obtain ⟨y0, y1, y2, y3, yf⟩ := box4 HY5.out
      have hnn : ((sn3 : Int) != sn3) = false := by simp
      go_wp2_with fail
      go_loopw [11] (fun i wr => ∃ k q : Nat, k ≤ sn3 ∧ i = .int .i64 k ∧ wr = w5.drewN q) (fun i _ => sn3 - (intOf i).toNat)
      case atStart => exact ⟨0, 0, by omega, rfl, rfl⟩
      case round =>
        obtain ⟨k, q, hk, rfl, rfl⟩ := hrel
        by_cases hlt : k < sn3
        · obtain ⟨b1', off, oa, n1, c1, rfl, hb, hS, hc0, hx⟩ := Sl.row HE5.out.secs (Below.refl _ w5) k (by have := hls.out; show k < D.secs.length; omega)
          obtain ⟨b2', off', oa', n1', c1', rfl, hb', hS', hc0', hx'⟩ := Sl.row HD5.out.secs (Below.refl _ w5) k (by have := hls.out; omega)
          have kd := fun m => conv_bytes (P := Try.prog) hx 35 5 9 Try.underlying35 Try.underlying5 Try.underlying9 (w5.drewN m) (fun _ _ => rfl)
          have kd' := fun m => conv_bytes (P := Try.prog) hx' 35 5 9 Try.underlying35 Try.underlying5 Try.underlying9 (w5.drewN m) (fun _ _ => rfl)
          clear hx hx'
          generalize secs_k : (D.secs[k]'(by have := hls.out; omega)) = x at kd kd'
          have hxx : ((strB x).toList != (strB x).toList) = false := by simp
          clear secs_k
          go_wp2
          go_quiet (fail)
          go_wp2
          exact ⟨⟨k + 1, _, by omega, by go_num, rfl⟩, by simp [intOf]; omega⟩
        · go_wp2_with fail
          obtain ⟨W6, hW6⟩ : ∃ W, W = (w5.drewN q).setCell ⟨w.heap.size, 3, none⟩ (.bool true) := ⟨_, rfl⟩
          rw [← hW6]
          have b6 : Below w.heap.size w5 W6 := by
            have e1 : Below w.heap.size w5 (w5.drewN q) := below_drewN (Below.refl _ _) q
            rw [hW6]; exact e1.setCell (p := ⟨w.heap.size, 3, none⟩) (Nat.le_refl _) _
          have hz6 : w5.heap.size ≤ W6.heap.size := b6.size
          have hk6 : ∀ b, b < w.heap.size → W6.heap[b]? = w5.heap[b]? := fun b hb => b6.block b hb
          have HX6 := Lib.hid (show W6.heap[w.heap.size]? = some (.cells #[.slice sa sn3 sc, .slice pa pn pc, .int .i64 D.left, .bool true] 25 (0, 0)) by
            rw [hW6]
            have e2 := HX5.out
            simp [World.setCell, Array.getElem?_modify, e2])
          have HD6 := Lib.hid (HD5.out.mono (S' := fun b => b < w.heap.size) (w' := W6) fun b hb _ => ⟨hb, hk6 b hb⟩)
          have HB6 := Lib.hid (HB5.out.mono (S' := fun b => b < w.heap.size) (w' := W6) fun b hb _ => ⟨hb, hk6 b hb⟩)
          have K6 := Lib.hid (K5.out.trans b6)
          have hv6 : w.heap.size < W6.heap.size := by omega
          clear hW6 HD5 HB5 HX5 HE5 HY5 hk6 x0 x1 x2 x3 xf y0 y1 y2 y3 yf
          -- the stopped disk
          refine (read_any (fun b => b < w.heap.size) _ sa sn3 sc pa pn pc ⟨D.secs, D.pend, D.left, true⟩ at_ ⟨HD6.out.secs, HD6.out.pend, HD6.out.lo, HD6.out.hi⟩).mono ?_
          rw [stopped_read _ rfl]
          rintro e w7 ⟨ra, rn, rc, rfl, _, hb7⟩
          have hz7 : w.heap.size < w7.heap.size := by have := hb7.size; omega
          have K7 := Lib.hid (K6.out.trans (hb7.mono (by omega)))
          have HX7 := Lib.hid ((hb7.block w.heap.size hv6).trans HX6.out)
          have HD7 := Lib.hid (HD6.out.below hb7)
          have HB7 := Lib.hid (HB6.out.below hb7)
          clear hb7 HD6 HB6 HX6
          obtain ⟨x0, x1, x2, x3, xf⟩ := box4 HX7.out
          go_wp2_with fail
          refine (write_any (fun b => b < w.heap.size) _ sa sn3 sc pa pn pc ba bn bc ⟨D.secs, D.pend, D.left, true⟩ at_ b h0 ⟨HD7.out.secs, HD7.out.pend, HD7.out.lo, HD7.out.hi⟩ HB7.out).mono ?_
          rw [stopped_write _ rfl]
          rintro e w8 ⟨sa8, sn8, sc8, pa8, pn8, pc8, rfl, _, hb8⟩
          have hz8 : w.heap.size < w8.heap.size := by have := hb8.size; omega
          have K8 := Lib.hid (K7.out.trans (hb8.mono (by omega)))
          have HX8 := Lib.hid ((hb8.block w.heap.size hz7).trans HX7.out)
          have HD8 := Lib.hid (HD7.out.below hb8)
          clear hb8 HD7 HB7 HX7 x0 x1 x2 x3 xf
          obtain ⟨x0, x1, x2, x3, xf⟩ := box4 HX8.out
          go_wp2_with fail
          refine (sync_any (fun b => b < w.heap.size) _ sa sn3 sc pa pn pc ⟨D.secs, D.pend, D.left, true⟩ (DiskAt.below ⟨HD8.out.secs, HD8.out.pend, HD8.out.lo, HD8.out.hi⟩ (by (repeat (first | (with_reducible assumption) | exact Below.refl _ _ | refine Below.setCell ?_ (by first | (simp; done) | (simp; omega) | omega) _ | refine Below.alloc ?_ (by first | (simp; done) | (simp; omega) | omega) _ | refine Below.drew ?_ | refine below_drewN ?_ _))))).mono ?_
          rw [stopped_sync _ rfl]
          rintro e w9 ⟨sa9, sn9, sc9, pa9, pn9, pc9, rfl, _, hb9⟩
          have b9 : Below w8.heap.size w8 w9 := Below.trans (by (repeat (first | (with_reducible assumption) | exact Below.refl _ _ | refine Below.setCell ?_ (by first | (simp; done) | (simp; omega) | omega) _ | refine Below.alloc ?_ (by first | (simp; done) | (simp; omega) | omega) _ | refine Below.drew ?_ | refine below_drewN ?_ _))) (hb9.mono (by simp))
          have hz9 : w.heap.size < w9.heap.size := by have := b9.size; omega
          have hz9' : w8.heap.size < w9.heap.size := by have := hb9.size; simp at this; omega
          have K9 := Lib.hid (K8.out.trans (b9.mono (by omega)))
          have HX9 := Lib.hid ((b9.block w.heap.size hz8).trans HX8.out)
          have HD9 := Lib.hid (HD8.out.below b9)
          clear hb9 b9 HD8 HX8 x0 x1 x2 x3 xf
          obtain ⟨x0, x1, x2, x3, xf⟩ := box4 HX9.out
          go_wp2_with fail
          refine (stop_any (fun b => b < w.heap.size) _ sa sn3 sc pa pn pc ⟨D.secs, D.pend, D.left, true⟩ left h1 (DiskAt.below ⟨HD9.out.secs, HD9.out.pend, HD9.out.lo, HD9.out.hi⟩ (by (repeat (first | (with_reducible assumption) | exact Below.refl _ _ | refine Below.setCell ?_ (by first | (simp; done) | (simp; omega) | omega) _ | refine Below.alloc ?_ (by first | (simp; done) | (simp; omega) | omega) _ | refine Below.drew ?_ | refine below_drewN ?_ _))))).mono ?_
          rw [stopped_stop _ rfl]
          rintro e w10 ⟨sa10, sn10, sc10, pa10, pn10, pc10, rfl, _, hb10⟩
          have b10 : Below w9.heap.size w9 w10 := Below.trans (by (repeat (first | (with_reducible assumption) | exact Below.refl _ _ | refine Below.setCell ?_ (by first | (simp; done) | (simp; omega) | omega) _ | refine Below.alloc ?_ (by first | (simp; done) | (simp; omega) | omega) _ | refine Below.drew ?_ | refine below_drewN ?_ _))) (hb10.mono (by simp))
          have hz10 : w9.heap.size < w10.heap.size := by have := hb10.size; simp at this; omega
          have K10 := Lib.hid (K9.out.trans (b10.mono (by omega)))
          clear hb10 b10 HD9 HX9 x0 x1 x2 x3 xf
          go_wp2_with fail
          go_ret
          exact ⟨rfl, K10.out.alloc (by omega) _⟩
    · go_wp2_with fail
      go_ret
      exact ⟨rfl, K2.out⟩

end Go.Proofs.Ytckcdokfhdckhaa
