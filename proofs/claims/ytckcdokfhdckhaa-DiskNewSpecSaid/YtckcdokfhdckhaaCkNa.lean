/- The walk of DiskNewSpec. -/
import Derived.Test.YtckcdokfhdckhaaRows
import Derived.Test.YtckcdokfhdckhaaCkU
import Derived.Test.YtckcdokfhdckhaaCkR
import Derived.WalkKit
import Derived.WalkLawsBesides
import Derived.WalkSpells
import Derived.Outline
import Derived.Lib.Hide
import Derived.Deep.RegionWith
import Derived.Deep.RegionHeld3
import Derived.Deep.DeepCutAuto
namespace Go.Proofs.Ytckcdokfhdckhaa
open Go.RowKit Go.Kx

set_option maxRecDepth 100000 in
set_option maxHeartbeats 8000000 in
theorem newSpec_any (w : World) (n : Int) (sa : Option Addr) (sn sc : Nat) (pa : Option Addr) (pn pc : Nat) (D : Disk) (_h0 : -9223372036854775808 ≤ n ∧ n ≤ 9223372036854775807) (h : DiskAt Any w sa sn sc pa pn pc D) :
    Calls Try.prog 3 #[.int .i64 n, .agg #[.slice sa sn sc, .slice pa pn pc, .int .i64 D.left, .bool D.stopped]] w fun e w' => e = .returned (.bool true) ∧ Below w.heap.size w w' := by
  have HD0 := Lib.hid h
  clear h
  go_enter Try.func3, Try.ntmps3
  go_wp2_with fail
  refine (sane_any _).mono ?_
  rintro e w1 ⟨rfl, hb1⟩
  have b1 : Below w.heap.size w w1 := Below.trans (by (repeat (first | (with_reducible assumption) | exact Below.refl _ _ | refine Below.setCell ?_ (by first | (simp; done) | (simp; omega) | omega) _ | refine Below.alloc ?_ (by first | (simp; done) | (simp; omega) | omega) _ | refine Below.drew ?_ | refine below_drewN ?_ _))) (hb1.mono (by simp))
  have hz1 : w.heap.size < w1.heap.size := by have := hb1.size; simp at this; omega
  have HX1 := Lib.hid (show w1.heap[w.heap.size]? = some (.cells #[.slice sa sn sc, .slice pa pn pc, .int .i64 D.left, .bool D.stopped] 25 (0, 0)) from (hb1.block w.heap.size (by first | (simp; done) | (simp; omega) | omega)).trans (heap_alloc_at _ _ _ rfl))
  have HD1 := Lib.hid (HD0.out.below b1)
  clear hb1 HD0
  obtain ⟨x0, x1, x2, x3, xf⟩ := box4 HX1.out
  go_upto_region 3 with (fail)
  go_cut [21] from 11 to 20 (fun s wr => (∃ q, s = .bool q) ∧ Below w1.heap.size w1 wr)
  case first =>
    rcases c1 : decide ((60 : Int) < n) with _ | _
    · go_wp2_with fail
      refine (few_any Any _ sa sn sc pa pn pc D.left D.stopped D.secs D.pend HD1.out.secs HD1.out.pend).mono ?_
      rintro e w2 ⟨fb, rfl, hb2⟩
      go_wp2_with fail
      go_meet
      exact ⟨⟨_, rfl⟩, hb2⟩
    · rcases c2 : decide (n ≤ (4096 : Int)) with _ | _
      · go_wp2_with fail
        refine (few_any Any _ sa sn sc pa pn pc D.left D.stopped D.secs D.pend HD1.out.secs HD1.out.pend).mono ?_
        rintro e w2 ⟨fb, rfl, hb2⟩
        go_wp2_with fail
        go_meet
        exact ⟨⟨_, rfl⟩, hb2⟩
      · go_wp2_with fail
        go_meet
        exact ⟨⟨_, rfl⟩, Below.refl _ _⟩
  case rest =>
    obtain ⟨⟨q, rfl⟩, hb2⟩ := hcut
    have K2 := Lib.hid (b1.trans (hb2.mono (by omega)))
    have hz2 : w.heap.size < wc.heap.size := by have := hb2.size; omega
    have HX2 := Lib.hid ((hb2.block w.heap.size hz1).trans HX1.out)
    have HD2 := Lib.hid (HD1.out.below hb2)
    clear hb2 b1 HD1 HX1 x0 x1 x2 x3 xf
    rcases q with _ | _
    rotate_left
    · go_wp2_with fail
      go_ret
      exact ⟨rfl, K2.out⟩
    obtain ⟨E, e3, hr3⟩ : ∃ E e3, newF n = (E, e3) := ⟨_, _, rfl⟩
    have HR3 := Lib.hid hr3
    clear hr3
    go_wp2_with fail
    refine (new_any Any _ n).mono ?_
    rw [HR3.out]
    rintro e w3 ⟨sa3, sn3, sc3, pa3, pn3, pc3, rfl, hD3, hb3⟩
    have hz3 : w.heap.size < w3.heap.size := by have := hb3.size; omega
    have K3 := Lib.hid (K2.out.trans (hb3.mono (by omega)))
    have HX3 := Lib.hid ((hb3.block w.heap.size hz2).trans HX2.out)
    have HD3 := Lib.hid (HD2.out.below hb3)
    have HE3 := Lib.hid (hD3.mono (S' := Any) (w' := w3) fun b _ _ => ⟨trivial, rfl⟩)
    clear hb3 HD2 HX2 hD3
    go_wp2_with fail
    refine (rnew_any Any _ n).mono ?_
    rw [HR3.out]
    rintro e w4 ⟨sa4, sn4, sc4, pa4, pn4, pc4, rfl, hD4, hb4⟩
    have b4 : Below w3.heap.size w3 w4 := Below.trans (by (repeat (first | (with_reducible assumption) | exact Below.refl _ _ | refine Below.setCell ?_ (by first | (simp; done) | (simp; omega) | omega) _ | refine Below.alloc ?_ (by first | (simp; done) | (simp; omega) | omega) _ | refine Below.drew ?_ | refine below_drewN ?_ _))) (hb4.mono (by simp))
    have hz4 : w3.heap.size < w4.heap.size := by have := hb4.size; simp at this; omega
    have hv4 : w.heap.size < w4.heap.size := by omega
    have K4 := Lib.hid (K3.out.trans (b4.mono (by omega)))
    have HX4 := Lib.hid ((b4.block w.heap.size hz3).trans HX3.out)
    have HY4 := Lib.hid (show w4.heap[w3.heap.size]? = some (.cells #[.slice sa3 sn3 sc3, .slice pa3 pn3 pc3, .int .i64 E.left, .bool E.stopped] 25 (0, 0)) from (hb4.block w3.heap.size (by first | (simp; done) | (simp; omega) | omega)).trans (heap_alloc_at _ _ _ rfl))
    have HD4 := Lib.hid (HD3.out.below b4)
    have HE4 := Lib.hid (HE3.out.below b4)
    have HF4 := Lib.hid (show DiskAt Any w4 sa4 sn4 sc4 pa4 pn4 pc4 E from hD4.mono (S' := Any) (w' := w4) fun b _ _ => ⟨trivial, rfl⟩)
    clear hb4 HD3 HX3 HE3 hD4
    go_upto_region 7 with (fail)
    obtain ⟨W0, hW0⟩ : ∃ W, W = w4.alloc (.cells #[.slice sa4 sn4 sc4, .slice pa4 pn4 pc4, .int .i64 E.left, .bool E.stopped] 25) := ⟨_, rfl⟩
    have b0 : Below w4.heap.size w4 W0 := by rw [hW0]; (repeat (first | (with_reducible assumption) | exact Below.refl _ _ | refine Below.setCell ?_ (by first | (simp; done) | (simp; omega) | omega) _ | refine Below.alloc ?_ (by first | (simp; done) | (simp; omega) | omega) _ | refine Below.drew ?_ | refine below_drewN ?_ _))
    have hzz : w4.heap.size < W0.heap.size := by rw [hW0]; simp
    have KC := Lib.hid (K4.out.trans (b0.mono (by omega)))
    have HX0 := Lib.hid ((b0.block w.heap.size (by omega)).trans HX4.out)
    have HY0 := Lib.hid ((b0.block w3.heap.size (by omega)).trans HY4.out)
    have HZ0 := Lib.hid (show W0.heap[w4.heap.size]? = some (.cells #[.slice sa4 sn4 sc4, .slice pa4 pn4 pc4, .int .i64 E.left, .bool E.stopped] 25 (0, 0)) by rw [hW0]; exact heap_alloc_at _ _ _ rfl)
    have HDC := Lib.hid (HD4.out.below b0)
    have HE0 := Lib.hid (HE4.out.below b0)
    have HF0 := Lib.hid (HF4.out.below b0)
    have hzc : w.heap.size < W0.heap.size := by omega
    have hzc3 : w3.heap.size < W0.heap.size := by omega
    rw [← hW0]
    clear hW0 b0 HX4 HY4 HD4 HE4 HF4 b4 K4 K3 K2
    obtain ⟨x0, x1, x2, x3, xf⟩ := box4 HX0.out
    obtain ⟨y0, y1, y2, y3, yf⟩ := box4 HY0.out
    obtain ⟨z0, z1, z2, z3, zf⟩ := box4 HZ0.out
    have HXC := HX0
    have hzc4 := hzz
    go_region_held3 (fun w' => w'.cell? ⟨w.heap.size, 0, none⟩ = some (.slice sa sn sc) ∧ w'.cell? ⟨w.heap.size, 1, none⟩ = some (.slice pa pn pc) ∧ w'.cell? ⟨w.heap.size, 2, none⟩ = some (.int .i64 D.left) ∧ w'.cell? ⟨w.heap.size, 3, none⟩ = some (.bool D.stopped) ∧ w'.cell? ⟨w3.heap.size, 0, none⟩ = some (.slice sa3 sn3 sc3) ∧ w'.cell? ⟨w3.heap.size, 1, none⟩ = some (.slice pa3 pn3 pc3) ∧ w'.cell? ⟨w3.heap.size, 2, none⟩ = some (.int .i64 E.left) ∧ w'.cell? ⟨w3.heap.size, 3, none⟩ = some (.bool E.stopped) ∧ w'.cell? ⟨w4.heap.size, 0, none⟩ = some (.slice sa4 sn4 sc4) ∧ w'.cell? ⟨w4.heap.size, 1, none⟩ = some (.slice pa4 pn4 pc4) ∧ w'.cell? ⟨w4.heap.size, 2, none⟩ = some (.int .i64 E.left) ∧ w'.cell? ⟨w4.heap.size, 3, none⟩ = some (.bool E.stopped)) (first | exact ⟨x0, x1, x2, x3, y0, y1, y2, y3, z0, z1, z2, z3⟩ | go_keep)
      (first
        | (go_at_call 14; refine (same_true Any Any _ sa8 sn8 sc8 pa8 pn8 pc8 sa9 sn9 sc9 pa9 pn9 pc9 (restartF D) (HP.out.below (by (repeat (first | (with_reducible assumption) | exact Below.refl _ _ | refine Below.setCell ?_ (by first | (simp; done) | (simp; omega) | omega) _ | refine Below.alloc ?_ (by first | (simp; done) | (simp; omega) | omega) _ | refine Below.drew ?_ | refine below_drewN ?_ _)))) (HQ.out.below (by (repeat (first | (with_reducible assumption) | exact Below.refl _ _ | refine Below.setCell ?_ (by first | (simp; done) | (simp; omega) | omega) _ | refine Below.alloc ?_ (by first | (simp; done) | (simp; omega) | omega) _ | refine Below.drew ?_ | refine below_drewN ?_ _))))).mono ?_; rintro e wN ⟨rfl, hbR⟩; have hW : Below W0.heap.size W0 wN := Below.trans (by (repeat (first | (with_reducible assumption) | exact Below.refl _ _ | refine Below.setCell ?_ (by first | (simp; done) | (simp; omega) | omega) _ | refine Below.alloc ?_ (by first | (simp; done) | (simp; omega) | omega) _ | refine Below.drew ?_ | refine below_drewN ?_ _))) (hbR.mono (by first | (simp; done) | (simp; omega) | omega)); have hWs := hW.size; (try have HP := Lib.hid (HP.out.below (Below.trans (by (repeat (first | (with_reducible assumption) | exact Below.refl _ _ | refine Below.setCell ?_ (by first | (simp; done) | (simp; omega) | omega) _ | refine Below.alloc ?_ (by first | (simp; done) | (simp; omega) | omega) _ | refine Below.drew ?_ | refine below_drewN ?_ _))) (hbR.mono (by first | (simp; done) | (simp; omega) | omega))))); (try have HQ := Lib.hid (HQ.out.below (Below.trans (by (repeat (first | (with_reducible assumption) | exact Below.refl _ _ | refine Below.setCell ?_ (by first | (simp; done) | (simp; omega) | omega) _ | refine Below.alloc ?_ (by first | (simp; done) | (simp; omega) | omega) _ | refine Below.drew ?_ | refine below_drewN ?_ _))) (hbR.mono (by first | (simp; done) | (simp; omega) | omega))))); have hzc : w.heap.size < wN.heap.size := (by omega); have hzc3 : w3.heap.size < wN.heap.size := (by omega); have hzc4 : w4.heap.size < wN.heap.size := (by omega); clear x0 x1 x2 x3 xf y0 y1 y2 y3 yf z0 z1 z2 z3 zf; obtain ⟨x0, x1, x2, x3, xf⟩ := box4 ((hW.block w.heap.size (by omega)).trans HX0.out); obtain ⟨y0, y1, y2, y3, yf⟩ := box4 ((hW.block w3.heap.size (by omega)).trans HY0.out); obtain ⟨z0, z1, z2, z3, zf⟩ := box4 ((hW.block w4.heap.size (by omega)).trans HZ0.out))
        | (go_at_call 14; refine (same_true Any Any _ sa3 sn3 sc3 pa3 pn3 pc3 sa4 sn4 sc4 pa4 pn4 pc4 E (HE0.out.below (by (repeat (first | (with_reducible assumption) | exact Below.refl _ _ | refine Below.setCell ?_ (by first | (simp; done) | (simp; omega) | omega) _ | refine Below.alloc ?_ (by first | (simp; done) | (simp; omega) | omega) _ | refine Below.drew ?_ | refine below_drewN ?_ _)))) (HF0.out.below (by (repeat (first | (with_reducible assumption) | exact Below.refl _ _ | refine Below.setCell ?_ (by first | (simp; done) | (simp; omega) | omega) _ | refine Below.alloc ?_ (by first | (simp; done) | (simp; omega) | omega) _ | refine Below.drew ?_ | refine below_drewN ?_ _))))).mono ?_; rintro e wN ⟨rfl, hbR⟩; have hW : Below W0.heap.size W0 wN := Below.trans (by (repeat (first | (with_reducible assumption) | exact Below.refl _ _ | refine Below.setCell ?_ (by first | (simp; done) | (simp; omega) | omega) _ | refine Below.alloc ?_ (by first | (simp; done) | (simp; omega) | omega) _ | refine Below.drew ?_ | refine below_drewN ?_ _))) (hbR.mono (by first | (simp; done) | (simp; omega) | omega)); have hWs := hW.size; (try have HP := Lib.hid (HP.out.below (Below.trans (by (repeat (first | (with_reducible assumption) | exact Below.refl _ _ | refine Below.setCell ?_ (by first | (simp; done) | (simp; omega) | omega) _ | refine Below.alloc ?_ (by first | (simp; done) | (simp; omega) | omega) _ | refine Below.drew ?_ | refine below_drewN ?_ _))) (hbR.mono (by first | (simp; done) | (simp; omega) | omega))))); (try have HQ := Lib.hid (HQ.out.below (Below.trans (by (repeat (first | (with_reducible assumption) | exact Below.refl _ _ | refine Below.setCell ?_ (by first | (simp; done) | (simp; omega) | omega) _ | refine Below.alloc ?_ (by first | (simp; done) | (simp; omega) | omega) _ | refine Below.drew ?_ | refine below_drewN ?_ _))) (hbR.mono (by first | (simp; done) | (simp; omega) | omega))))); have hzc : w.heap.size < wN.heap.size := (by omega); have hzc3 : w3.heap.size < wN.heap.size := (by omega); have hzc4 : w4.heap.size < wN.heap.size := (by omega); clear x0 x1 x2 x3 xf y0 y1 y2 y3 yf z0 z1 z2 z3 zf; obtain ⟨x0, x1, x2, x3, xf⟩ := box4 ((hW.block w.heap.size (by omega)).trans HX0.out); obtain ⟨y0, y1, y2, y3, yf⟩ := box4 ((hW.block w3.heap.size (by omega)).trans HY0.out); obtain ⟨z0, z1, z2, z3, zf⟩ := box4 ((hW.block w4.heap.size (by omega)).trans HZ0.out))
        | (go_at_call 15; refine (check_any Any _ sa sn sc pa pn pc D.left D.stopped D.secs D.pend (HDC.out.below (by (repeat (first | (with_reducible assumption) | exact Below.refl _ _ | refine Below.setCell ?_ (by first | (simp; done) | (simp; omega) | omega) _ | refine Below.alloc ?_ (by first | (simp; done) | (simp; omega) | omega) _ | refine Below.drew ?_ | refine below_drewN ?_ _)))).secs (HDC.out.below (by (repeat (first | (with_reducible assumption) | exact Below.refl _ _ | refine Below.setCell ?_ (by first | (simp; done) | (simp; omega) | omega) _ | refine Below.alloc ?_ (by first | (simp; done) | (simp; omega) | omega) _ | refine Below.drew ?_ | refine below_drewN ?_ _)))).pend).mono ?_; rintro e wN ⟨rfl, hbR⟩; have hW : Below W0.heap.size W0 wN := Below.trans (by (repeat (first | (with_reducible assumption) | exact Below.refl _ _ | refine Below.setCell ?_ (by first | (simp; done) | (simp; omega) | omega) _ | refine Below.alloc ?_ (by first | (simp; done) | (simp; omega) | omega) _ | refine Below.drew ?_ | refine below_drewN ?_ _))) (hbR.mono (by first | (simp; done) | (simp; omega) | omega)); have hWs := hW.size; (try have HP := Lib.hid (HP.out.below (Below.trans (by (repeat (first | (with_reducible assumption) | exact Below.refl _ _ | refine Below.setCell ?_ (by first | (simp; done) | (simp; omega) | omega) _ | refine Below.alloc ?_ (by first | (simp; done) | (simp; omega) | omega) _ | refine Below.drew ?_ | refine below_drewN ?_ _))) (hbR.mono (by first | (simp; done) | (simp; omega) | omega))))); (try have HQ := Lib.hid (HQ.out.below (Below.trans (by (repeat (first | (with_reducible assumption) | exact Below.refl _ _ | refine Below.setCell ?_ (by first | (simp; done) | (simp; omega) | omega) _ | refine Below.alloc ?_ (by first | (simp; done) | (simp; omega) | omega) _ | refine Below.drew ?_ | refine below_drewN ?_ _))) (hbR.mono (by first | (simp; done) | (simp; omega) | omega))))); have hzc : w.heap.size < wN.heap.size := (by omega); have hzc3 : w3.heap.size < wN.heap.size := (by omega); have hzc4 : w4.heap.size < wN.heap.size := (by omega); clear x0 x1 x2 x3 xf y0 y1 y2 y3 yf z0 z1 z2 z3 zf; obtain ⟨x0, x1, x2, x3, xf⟩ := box4 ((hW.block w.heap.size (by omega)).trans HX0.out); obtain ⟨y0, y1, y2, y3, yf⟩ := box4 ((hW.block w3.heap.size (by omega)).trans HY0.out); obtain ⟨z0, z1, z2, z3, zf⟩ := box4 ((hW.block w4.heap.size (by omega)).trans HZ0.out))
        | (go_at_call 16; refine (rcheck_any Any _ sa sn sc pa pn pc D.left D.stopped D.secs D.pend (HDC.out.below (by (repeat (first | (with_reducible assumption) | exact Below.refl _ _ | refine Below.setCell ?_ (by first | (simp; done) | (simp; omega) | omega) _ | refine Below.alloc ?_ (by first | (simp; done) | (simp; omega) | omega) _ | refine Below.drew ?_ | refine below_drewN ?_ _)))).secs (HDC.out.below (by (repeat (first | (with_reducible assumption) | exact Below.refl _ _ | refine Below.setCell ?_ (by first | (simp; done) | (simp; omega) | omega) _ | refine Below.alloc ?_ (by first | (simp; done) | (simp; omega) | omega) _ | refine Below.drew ?_ | refine below_drewN ?_ _)))).pend).mono ?_; rintro e wN ⟨rfl, hbR⟩; have hW : Below W0.heap.size W0 wN := Below.trans (by (repeat (first | (with_reducible assumption) | exact Below.refl _ _ | refine Below.setCell ?_ (by first | (simp; done) | (simp; omega) | omega) _ | refine Below.alloc ?_ (by first | (simp; done) | (simp; omega) | omega) _ | refine Below.drew ?_ | refine below_drewN ?_ _))) (hbR.mono (by first | (simp; done) | (simp; omega) | omega)); have hWs := hW.size; (try have HP := Lib.hid (HP.out.below (Below.trans (by (repeat (first | (with_reducible assumption) | exact Below.refl _ _ | refine Below.setCell ?_ (by first | (simp; done) | (simp; omega) | omega) _ | refine Below.alloc ?_ (by first | (simp; done) | (simp; omega) | omega) _ | refine Below.drew ?_ | refine below_drewN ?_ _))) (hbR.mono (by first | (simp; done) | (simp; omega) | omega))))); (try have HQ := Lib.hid (HQ.out.below (Below.trans (by (repeat (first | (with_reducible assumption) | exact Below.refl _ _ | refine Below.setCell ?_ (by first | (simp; done) | (simp; omega) | omega) _ | refine Below.alloc ?_ (by first | (simp; done) | (simp; omega) | omega) _ | refine Below.drew ?_ | refine below_drewN ?_ _))) (hbR.mono (by first | (simp; done) | (simp; omega) | omega))))); have hzc : w.heap.size < wN.heap.size := (by omega); have hzc3 : w3.heap.size < wN.heap.size := (by omega); have hzc4 : w4.heap.size < wN.heap.size := (by omega); clear x0 x1 x2 x3 xf y0 y1 y2 y3 yf z0 z1 z2 z3 zf; obtain ⟨x0, x1, x2, x3, xf⟩ := box4 ((hW.block w.heap.size (by omega)).trans HX0.out); obtain ⟨y0, y1, y2, y3, yf⟩ := box4 ((hW.block w3.heap.size (by omega)).trans HY0.out); obtain ⟨z0, z1, z2, z3, zf⟩ := box4 ((hW.block w4.heap.size (by omega)).trans HZ0.out))
        | (go_at_call 17; refine (restart_any Any _ sa sn sc pa pn pc D (HDC.out.below (by (repeat (first | (with_reducible assumption) | exact Below.refl _ _ | refine Below.setCell ?_ (by first | (simp; done) | (simp; omega) | omega) _ | refine Below.alloc ?_ (by first | (simp; done) | (simp; omega) | omega) _ | refine Below.drew ?_ | refine below_drewN ?_ _))))).mono ?_; rintro e wN ⟨sa8, sn8, sc8, pa8, pn8, pc8, rfl, hP, hbR⟩; have hW : Below W0.heap.size W0 wN := Below.trans (by (repeat (first | (with_reducible assumption) | exact Below.refl _ _ | refine Below.setCell ?_ (by first | (simp; done) | (simp; omega) | omega) _ | refine Below.alloc ?_ (by first | (simp; done) | (simp; omega) | omega) _ | refine Below.drew ?_ | refine below_drewN ?_ _))) (hbR.mono (by first | (simp; done) | (simp; omega) | omega)); have hWs := hW.size; (try have HP := Lib.hid (HP.out.below (Below.trans (by (repeat (first | (with_reducible assumption) | exact Below.refl _ _ | refine Below.setCell ?_ (by first | (simp; done) | (simp; omega) | omega) _ | refine Below.alloc ?_ (by first | (simp; done) | (simp; omega) | omega) _ | refine Below.drew ?_ | refine below_drewN ?_ _))) (hbR.mono (by first | (simp; done) | (simp; omega) | omega))))); (try have HQ := Lib.hid (HQ.out.below (Below.trans (by (repeat (first | (with_reducible assumption) | exact Below.refl _ _ | refine Below.setCell ?_ (by first | (simp; done) | (simp; omega) | omega) _ | refine Below.alloc ?_ (by first | (simp; done) | (simp; omega) | omega) _ | refine Below.drew ?_ | refine below_drewN ?_ _))) (hbR.mono (by first | (simp; done) | (simp; omega) | omega))))); have hzc : w.heap.size < wN.heap.size := (by omega); have hzc3 : w3.heap.size < wN.heap.size := (by omega); have hzc4 : w4.heap.size < wN.heap.size := (by omega); clear x0 x1 x2 x3 xf y0 y1 y2 y3 yf z0 z1 z2 z3 zf; obtain ⟨x0, x1, x2, x3, xf⟩ := box4 ((hW.block w.heap.size (by omega)).trans HX0.out); obtain ⟨y0, y1, y2, y3, yf⟩ := box4 ((hW.block w3.heap.size (by omega)).trans HY0.out); obtain ⟨z0, z1, z2, z3, zf⟩ := box4 ((hW.block w4.heap.size (by omega)).trans HZ0.out); have HP := Lib.hid (show DiskAt Any wN sa8 sn8 sc8 pa8 pn8 pc8 (restartF D) from hP.mono (S' := Any) (w' := wN) fun b _ _ => ⟨trivial, rfl⟩); clear hP)
        | (go_at_call 18; refine (rrestart_any Any _ sa sn sc pa pn pc D (HDC.out.below (by (repeat (first | (with_reducible assumption) | exact Below.refl _ _ | refine Below.setCell ?_ (by first | (simp; done) | (simp; omega) | omega) _ | refine Below.alloc ?_ (by first | (simp; done) | (simp; omega) | omega) _ | refine Below.drew ?_ | refine below_drewN ?_ _))))).mono ?_; rintro e wN ⟨sa9, sn9, sc9, pa9, pn9, pc9, rfl, hQ, hbR⟩; have hW : Below W0.heap.size W0 wN := Below.trans (by (repeat (first | (with_reducible assumption) | exact Below.refl _ _ | refine Below.setCell ?_ (by first | (simp; done) | (simp; omega) | omega) _ | refine Below.alloc ?_ (by first | (simp; done) | (simp; omega) | omega) _ | refine Below.drew ?_ | refine below_drewN ?_ _))) (hbR.mono (by first | (simp; done) | (simp; omega) | omega)); have hWs := hW.size; (try have HP := Lib.hid (HP.out.below (Below.trans (by (repeat (first | (with_reducible assumption) | exact Below.refl _ _ | refine Below.setCell ?_ (by first | (simp; done) | (simp; omega) | omega) _ | refine Below.alloc ?_ (by first | (simp; done) | (simp; omega) | omega) _ | refine Below.drew ?_ | refine below_drewN ?_ _))) (hbR.mono (by first | (simp; done) | (simp; omega) | omega))))); (try have HQ := Lib.hid (HQ.out.below (Below.trans (by (repeat (first | (with_reducible assumption) | exact Below.refl _ _ | refine Below.setCell ?_ (by first | (simp; done) | (simp; omega) | omega) _ | refine Below.alloc ?_ (by first | (simp; done) | (simp; omega) | omega) _ | refine Below.drew ?_ | refine below_drewN ?_ _))) (hbR.mono (by first | (simp; done) | (simp; omega) | omega))))); have hzc : w.heap.size < wN.heap.size := (by omega); have hzc3 : w3.heap.size < wN.heap.size := (by omega); have hzc4 : w4.heap.size < wN.heap.size := (by omega); clear x0 x1 x2 x3 xf y0 y1 y2 y3 yf z0 z1 z2 z3 zf; obtain ⟨x0, x1, x2, x3, xf⟩ := box4 ((hW.block w.heap.size (by omega)).trans HX0.out); obtain ⟨y0, y1, y2, y3, yf⟩ := box4 ((hW.block w3.heap.size (by omega)).trans HY0.out); obtain ⟨z0, z1, z2, z3, zf⟩ := box4 ((hW.block w4.heap.size (by omega)).trans HZ0.out); have HQ := Lib.hid (show DiskAt Any wN sa9 sn9 sc9 pa9 pn9 pc9 (restartF D) from hQ.mono (S' := Any) (w' := wN) fun b _ _ => ⟨trivial, rfl⟩); clear hQ))
    all_goals (go_wp2_with fail; go_ret; exact ⟨rfl, KC.out.trans (Below.trans (by (repeat (first | (with_reducible assumption) | exact Below.refl _ _ | refine Below.setCell ?_ (by first | (simp; done) | (simp; omega) | omega) _ | refine Below.alloc ?_ (by first | (simp; done) | (simp; omega) | omega) _ | refine Below.drew ?_ | refine below_drewN ?_ _))) (hW.mono (by omega)))⟩)

end Go.Proofs.Ytckcdokfhdckhaa
