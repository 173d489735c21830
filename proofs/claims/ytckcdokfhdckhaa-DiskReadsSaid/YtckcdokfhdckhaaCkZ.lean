/- The walk of DiskReads. -/
import Derived.Test.YtckcdokfhdckhaaRows
import Derived.Test.YtckcdokfhdckhaaCkU
import Derived.Test.YtckcdokfhdckhaaPl
import Derived.WalkKit
import Derived.WalkLawsBesides
import Derived.WalkSpells
import Derived.Outline
import Derived.Lib.Hide
import Derived.Deep.QuietTactic
import Derived.BigQuiet
namespace Go.Proofs.Ytckcdokfhdckhaa
open Go.RowKit Go.Kx

theorem Sl.cut {α : Type} {E : Enc α} {S : Nat → Prop} {w : World} {a : Option Addr} {n c : Nat} {l : List α} (h : Sl E S w a n c l) (k : Nat) (hk : k ≤ n) : Sl E S w a k c (l.take k) := by
  have hl := h.length
  refine ⟨by rw [List.length_take]; omega, Nat.le_trans hk h.cap, h.capMax, Nat.le_trans (Nat.mul_le_mul_right _ hk) h.bytes, h.nil, fun i hi => ?_⟩
  rw [List.length_take] at hi
  obtain ⟨b, off, cs, h1, h2, h3, h4, h5, h6⟩ := h.elem i (by omega)
  exact ⟨b, off, cs, h1, h2, h3, h4, h5, by rw [List.getElem_take]; exact h6⟩

set_option maxRecDepth 100000 in
set_option maxHeartbeats 4000000 in
theorem reads_any (w : World) (sa : Option Addr) (sn sc : Nat) (pa : Option Addr) (pn pc : Nat) (D : Disk) (at_ other : Int) (ba : Option Addr) (bn bc : Nat) (b : Bytes) (ca : Option Addr) (cn cc : Nat) (c : Bytes)
    (h : DiskAt Any w sa sn sc pa pn pc D) (h0 : -9223372036854775808 ≤ at_ ∧ at_ ≤ 9223372036854775807) (h1 : -9223372036854775808 ≤ other ∧ other ≤ 9223372036854775807)
    (hbb : Sl eByte Any w ba bn bc b) (hcc : Sl eByte Any w ca cn cc c) :
    Calls Try.prog 7 #[.agg #[.slice sa sn sc, .slice pa pn pc, .int .i64 D.left, .bool D.stopped], .int .i64 at_, .int .i64 other, .slice ba bn bc, .slice ca cn cc] w fun e w' => e = .returned (.bool true) ∧ Below w.heap.size w w' := by
  have HD0 := Lib.hid h
  have HB0 := Lib.hid hbb
  have HC0 := Lib.hid hcc
  have hsn : sn ≤ 140737488355328 := by have := h.secs.bytes; simp [eSl] at this; omega
  have hls := Lib.hid h.secs.length
  have hlb := Lib.hid hbb.length
  have hlc := Lib.hid hcc.length
  clear h hbb hcc
  go_enter Try.func7, Try.ntmps7
  go_wp2_with fail
  refine (sane_any _).mono ?_
  rintro e w1 ⟨rfl, hb1⟩
  have b1 : Below w.heap.size w w1 := Below.trans (by (repeat (first | (with_reducible assumption) | exact Below.refl _ _ | refine Below.setCell ?_ (by first | (simp; done) | (simp; omega) | omega) _ | refine Below.alloc ?_ (by first | (simp; done) | (simp; omega) | omega) _ | refine Below.drew ?_ | refine below_drewN ?_ _))) (hb1.mono (by simp))
  have hz1 : w.heap.size < w1.heap.size := by have := hb1.size; simp at this; omega
  have HX1 := Lib.hid (show w1.heap[w.heap.size]? = some (.cells #[.slice sa sn sc, .slice pa pn pc, .int .i64 D.left, .bool D.stopped] 25 (0, 0)) from (hb1.block w.heap.size (by first | (simp; done) | (simp; omega) | omega)).trans (heap_alloc_at _ _ _ rfl))
  have HD1 := Lib.hid (HD0.out.below b1)
  have HB1 := Lib.hid (HB0.out.below b1)
  have HC1 := Lib.hid (HC0.out.below b1)
  clear hb1 HD0 HB0 HC0
  obtain ⟨x0, x1, x2, x3, xf⟩ := box4 HX1.out
  go_wp2_with fail
  refine (few_any Any _ sa sn sc pa pn pc D.left D.stopped D.secs D.pend HD1.out.secs HD1.out.pend).mono ?_
  rintro e w2 ⟨fb, rfl, hb2⟩
  have K2 := Lib.hid (b1.trans (hb2.mono (by omega)))
  have hz2 : w.heap.size < w2.heap.size := by have := hb2.size; omega
  have HX2 := Lib.hid ((hb2.block w.heap.size hz1).trans HX1.out)
  have HD2 := Lib.hid (HD1.out.below hb2)
  have HB2 := Lib.hid (HB1.out.below hb2)
  have HC2 := Lib.hid (HC1.out.below hb2)
  clear hb2 b1 HD1 HB1 HC1 HX1 x0 x1 x2 x3 xf
  obtain ⟨x0, x1, x2, x3, xf⟩ := box4 HX2.out
  rcases fb with _ | _
  · go_wp2_with fail
    go_ret
    exact ⟨rfl, K2.out⟩
  rcases hn : decide ((128 : Int) < (bn : Int)) with _ | _
  rotate_left
  · go_wp2_with fail
    go_ret
    exact ⟨rfl, K2.out⟩
  rcases hm : decide ((128 : Int) < (cn : Int)) with _ | _
  rotate_left
  · go_wp2_with fail
    go_ret
    exact ⟨rfl, K2.out⟩
  have hb128 : b.length ≤ 128 := by have := of_decide_eq_false hn; have := hlb.out; omega
  have hc128 : c.length ≤ 128 := by have := of_decide_eq_false hm; have := hlc.out; omega
  obtain ⟨bf, e3, hr3⟩ : ∃ bf e3, readF D other = (bf, e3) := ⟨_, _, rfl⟩
  obtain ⟨D4, e4, hr4⟩ : ∃ D4 e4, writeF D at_ b = (D4, e4) := ⟨_, _, rfl⟩
  have HR3 := Lib.hid hr3
  have HR4 := Lib.hid hr4
  clear hr3 hr4
  go_wp2_with fail
  refine (read_any Any _ sa sn sc pa pn pc D other HD2.out).mono ?_
  rw [HR3.out]
  rintro e w3 ⟨ra, rn, rc, rfl, hs3, hb3⟩
  have hz3 : w.heap.size < w3.heap.size := by have := hb3.size; omega
  have K3 := Lib.hid (K2.out.trans (hb3.mono (by omega)))
  have HX3 := Lib.hid ((hb3.block w.heap.size hz2).trans HX2.out)
  have HD3 := Lib.hid (HD2.out.below hb3)
  have HB3 := Lib.hid (HB2.out.below hb3)
  have HC3 := Lib.hid (HC2.out.below hb3)
  have HF3 := Lib.hid (show Sl eByte Any w3 ra rn rc bf from hs3.mono (S' := Any) (w' := w3) fun b _ _ => ⟨trivial, rfl⟩)
  clear hb3 hs3 HD2 HB2 HC2 HX2 x0 x1 x2 x3 xf
  obtain ⟨x0, x1, x2, x3, xf⟩ := box4 HX3.out
  go_wp2_with fail
  refine (write_any Any _ sa sn sc pa pn pc ba bn bc D at_ b h0 HD3.out HB3.out).mono ?_
  rw [HR4.out]
  rintro e w4 ⟨sa4, sn4, sc4, pa4, pn4, pc4, rfl, hD4, hb4⟩
  have hz4 : w.heap.size < w4.heap.size := by have := hb4.size; omega
  have K4 := Lib.hid (K3.out.trans (hb4.mono (by omega)))
  have HX4 := Lib.hid ((hb4.block w.heap.size hz3).trans HX3.out)
  have HB4 := Lib.hid (HB3.out.below hb4)
  have HC4 := Lib.hid (HC3.out.below hb4)
  have HF4 := Lib.hid (HF3.out.below hb4)
  have HE4 := Lib.hid (hD4.mono (S' := Any) (w' := w4) fun b _ _ => ⟨trivial, rfl⟩)
  clear hb4 hD4 HD3 HB3 HC3 HF3 HX3 x0 x1 x2 x3 xf
  by_cases he3 : e3 = 0
  rotate_left
  · have he3' : (e3 != 0) = true := by simpa using he3
    clear he3
    go_wp2_with fail
    go_ret
    exact ⟨rfl, K4.out.alloc (by omega) _⟩
  subst he3
  by_cases he4 : e4 = 0
  rotate_left
  · have he4' : (e4 != 0) = true := by simpa using he4
    clear he4
    go_wp2_with fail
    go_ret
    exact ⟨rfl, K4.out.alloc (by omega) _⟩
  subst he4
  obtain ⟨af, mn, l1, l2, l3, l4, l5⟩ := reads_law1 HR3.out HR4.out
  have L1 := Lib.hid l1
  have L2 := Lib.hid l2
  have L3 := Lib.hid l3
  have L4 := Lib.hid l4
  have L5 := Lib.hid l5
  have L6 := Lib.hid (reads_law2 (c := c) HR3.out HR4.out hc128)
  clear l1 l2 l3 l4 l5
  go_wp2_with fail
  refine (read_any Any _ sa4 sn4 sc4 pa4 pn4 pc4 D4 other (HE4.out.below (by (repeat (first | (with_reducible assumption) | exact Below.refl _ _ | refine Below.setCell ?_ (by first | (simp; done) | (simp; omega) | omega) _ | refine Below.alloc ?_ (by first | (simp; done) | (simp; omega) | omega) _ | refine Below.drew ?_ | refine below_drewN ?_ _))))).mono ?_
  rw [L1.out]
  rintro e w5 ⟨ua, un, uc, rfl, hs5, hb5⟩
  have b5 : Below w4.heap.size w4 w5 := Below.trans (by (repeat (first | (with_reducible assumption) | exact Below.refl _ _ | refine Below.setCell ?_ (by first | (simp; done) | (simp; omega) | omega) _ | refine Below.alloc ?_ (by first | (simp; done) | (simp; omega) | omega) _ | refine Below.drew ?_ | refine below_drewN ?_ _))) (hb5.mono (by simp))
  have hz5 : w4.heap.size < w5.heap.size := by have := hb5.size; simp at this; omega
  have hv5 : w.heap.size < w5.heap.size := by omega
  have K5 := Lib.hid (K4.out.trans (b5.mono (by omega)))
  have HX5 := Lib.hid ((b5.block w.heap.size hz4).trans HX4.out)
  have HY5 := Lib.hid (show w5.heap[w4.heap.size]? = some (.cells #[.slice sa4 sn4 sc4, .slice pa4 pn4 pc4, .int .i64 D4.left, .bool D4.stopped] 25 (0, 0)) from (hb5.block w4.heap.size (by first | (simp; done) | (simp; omega) | omega)).trans (heap_alloc_at _ _ _ rfl))
  have HB5 := Lib.hid (HB4.out.below b5)
  have HC5 := Lib.hid (HC4.out.below b5)
  have HF5 := Lib.hid (HF4.out.below b5)
  have HE5 := Lib.hid (HE4.out.below b5)
  have HU5 := Lib.hid (show Sl eByte Any w5 ua un uc af from hs5.mono (S' := Any) (w' := w5) fun b _ _ => ⟨trivial, rfl⟩)
  clear hb5 b5 hs5 HB4 HC4 HF4 HE4 HX4
  obtain ⟨y0, y1, y2, y3, yf⟩ := box4 HY5.out
  go_wp2_with fail
  refine (read_any Any _ sa4 sn4 sc4 pa4 pn4 pc4 D4 at_ HE5.out).mono ?_
  rw [L2.out]
  rintro e w6 ⟨ma, mc1, mc, rfl, hs6, hb6⟩
  have hz6 : w5.heap.size ≤ w6.heap.size := hb6.size
  have hv6 : w.heap.size < w6.heap.size := by omega
  have hv6' : w4.heap.size < w6.heap.size := by omega
  have K6 := Lib.hid (K5.out.trans (hb6.mono (by omega)))
  have HX6 := Lib.hid ((hb6.block w.heap.size hv5).trans HX5.out)
  have HY6 := Lib.hid ((hb6.block w4.heap.size hz5).trans HY5.out)
  have HB6 := Lib.hid (HB5.out.below hb6)
  have HC6 := Lib.hid (HC5.out.below hb6)
  have HF6 := Lib.hid (HF5.out.below hb6)
  have HE6 := Lib.hid (HE5.out.below hb6)
  have HU6 := Lib.hid (HU5.out.below hb6)
  have HM6 := Lib.hid (show Sl eByte Any w6 ma mc1 mc mn from hs6.mono (S' := Any) (w' := w6) fun b _ _ => ⟨trivial, rfl⟩)
  obtain rfl : mc1 = 128 := hs6.length.symm.trans L3.out
  obtain ⟨mb, mo, _, rfl, _⟩ := HM6.out.elem 0 (by rw [L3.out]; decide)
  have hcap : 128 ≤ mc := HM6.out.cap
  have hbn : bn ≤ 128 := by have := hlb.out; omega
  clear hb6 hs6 HB5 HC5 HF5 HE5 HU5 HX5 HY5 y0 y1 y2 y3 yf
  have q1 := fun m => conv_bytes (P := Try.prog) (Sl.cut HM6.out bn hbn) 35 5 9 Try.underlying35 Try.underlying5 Try.underlying9 (w6.drewN m) (fun _ _ => rfl)
  have q2 := fun m => conv_bytes (P := Try.prog) HB6.out 35 5 9 Try.underlying35 Try.underlying5 Try.underlying9 (w6.drewN m) (fun _ _ => rfl)
  have q3 := fun m => conv_bytes (P := Try.prog) HF6.out 35 5 9 Try.underlying35 Try.underlying5 Try.underlying9 (w6.drewN m) (fun _ _ => rfl)
  have q4 := fun m => conv_bytes (P := Try.prog) HU6.out 35 5 9 Try.underlying35 Try.underlying5 Try.underlying9 (w6.drewN m) (fun _ _ => rfl)
  have q0 : bn = b.length := hlb.out.symm
  rw [show mn.take bn = b by rw [q0]; exact L4.out] at q1
  clear q0
  have r1 : ((strB b).toList != (strB b).toList) = false := by simp
  have r2 : ((strB bf).toList != (strB bf).toList) = false := by simp
  go_upto_region 11 with (fail)
  go_cut [106] from 74 to 105 (fun s wr => s = .bool false ∧ Below w6.heap.size w6 wr)
  case first =>
    rcases hne : (at_ != other) with _ | _
    · go_quiet (fail)
      go_wp2_with fail
      go_meet
      exact ⟨rfl, by (repeat (first | (with_reducible assumption) | exact Below.refl _ _ | refine Below.setCell ?_ (by first | (simp; done) | (simp; omega) | omega) _ | refine Below.alloc ?_ (by first | (simp; done) | (simp; omega) | omega) _ | refine Below.drew ?_ | refine below_drewN ?_ _))⟩
    · have hne' : at_ ≠ other := by simpa using hne
      obtain rfl := L5.out hne'
      clear hne'
      go_quiet (fail)
      go_wp2_with fail
      go_meet
      exact ⟨rfl, by (repeat (first | (with_reducible assumption) | exact Below.refl _ _ | refine Below.setCell ?_ (by first | (simp; done) | (simp; omega) | omega) _ | refine Below.alloc ?_ (by first | (simp; done) | (simp; omega) | omega) _ | refine Below.drew ?_ | refine below_drewN ?_ _))⟩
  case rest =>
    obtain ⟨rfl, hb7⟩ := hcut
    have hz7 : w6.heap.size ≤ wc.heap.size := hb7.size
    have hv7 : w.heap.size < wc.heap.size := by omega
    have hv7' : w4.heap.size < wc.heap.size := by omega
    have K7 := Lib.hid (K6.out.trans (hb7.mono (by omega)))
    have HX7 := Lib.hid ((hb7.block w.heap.size hv6).trans HX6.out)
    have HY7 := Lib.hid ((hb7.block w4.heap.size hv6').trans HY6.out)
    have HC7 := Lib.hid (HC6.out.below hb7)
    have HE7 := Lib.hid (HE6.out.below hb7)
    obtain ⟨D8, e8, hr8⟩ : ∃ D8 e8, writeF D4 other c = (D8, e8) := ⟨_, _, rfl⟩
    have HR8 := Lib.hid hr8
    have he8 : e8 = 0 ∨ e8 = 2 := by have := L6.out.2.2.2; rw [hr8] at this; exact this
    have hsl : D4.secs = D.secs := L6.out.2.2.1
    have HSL := Lib.hid hsl
    clear hb7 hr8 hsl q1 q2 q3 q4 r1 r2 HX6 HY6 HC6 HE6 HB6 HF6 HU6 HM6
    obtain ⟨y0, y1, y2, y3, yf⟩ := box4 HY7.out
    go_wp2_with fail
    refine (write_any Any _ sa4 sn4 sc4 pa4 pn4 pc4 ca cn cc D4 other c h1 HE7.out HC7.out).mono ?_
    rw [HR8.out]
    rintro e w8 ⟨sa8, sn8, sc8, pa8, pn8, pc8, rfl, hD8, hb8⟩
    have hz8 : wc.heap.size ≤ w8.heap.size := hb8.size
    have hv8 : w.heap.size < w8.heap.size := by omega
    have K8 := Lib.hid (K7.out.trans (hb8.mono (by omega)))
    have HX8 := Lib.hid ((hb8.block w.heap.size hv7).trans HX7.out)
    have HE8 := Lib.hid (hD8.mono (S' := Any) (w' := w8) fun b _ _ => ⟨trivial, rfl⟩)
    clear hb8 hD8 HC7 HE7 HX7 HY7 y0 y1 y2 y3 yf
    rcases he8 with rfl | rfl
    rotate_left
    · go_wp2_with fail
      go_ret
      exact ⟨rfl, K8.out.alloc (by omega) _⟩
    obtain ⟨D9, e9, hr9⟩ : ∃ D9 e9, syncF D8 = (D9, e9) := ⟨_, _, rfl⟩
    have he9 : e9 = 0 ∨ (e9 = 40 ∧ D9.stopped = true) := by
      have h8 := writeF_zero HR8.out
      have := syncF_cases D8 (by rw [h8.2.2.2.2.2]; exact ok_write h8.1 h8.2.2.1.1 h8.2.2.1.2 h8.2.2.2.1 h8.2.2.2.2.1) (by rw [h8.2.2.2.2.2]; exact h8.2.1)
      rw [hr9] at this
      exact this
    have HR9 := Lib.hid hr9
    clear hr9
    go_wp2_with fail
    refine (sync_any Any _ sa8 sn8 sc8 pa8 pn8 pc8 D8 (HE8.out.below (by (repeat (first | (with_reducible assumption) | exact Below.refl _ _ | refine Below.setCell ?_ (by first | (simp; done) | (simp; omega) | omega) _ | refine Below.alloc ?_ (by first | (simp; done) | (simp; omega) | omega) _ | refine Below.drew ?_ | refine below_drewN ?_ _))))).mono ?_
    rw [HR9.out]
    rintro e w9 ⟨sa9, sn9, sc9, pa9, pn9, pc9, rfl, hD9, hb9⟩
    have b9 : Below w8.heap.size w8 w9 := Below.trans (by (repeat (first | (with_reducible assumption) | exact Below.refl _ _ | refine Below.setCell ?_ (by first | (simp; done) | (simp; omega) | omega) _ | refine Below.alloc ?_ (by first | (simp; done) | (simp; omega) | omega) _ | refine Below.drew ?_ | refine below_drewN ?_ _))) (hb9.mono (by simp))
    have hz9 : w8.heap.size < w9.heap.size := by have := hb9.size; simp at this; omega
    have K9 := Lib.hid (K8.out.trans (b9.mono (by omega)))
    have HX9 := Lib.hid ((b9.block w.heap.size hv8).trans HX8.out)
    have HY9 := Lib.hid (show w9.heap[w8.heap.size]? = some (.cells #[.slice sa8 sn8 sc8, .slice pa8 pn8 pc8, .int .i64 D8.left, .bool D8.stopped] 25 (0, 0)) from (hb9.block w8.heap.size (by first | (simp; done) | (simp; omega) | omega)).trans (heap_alloc_at _ _ _ rfl))
    have HE9 := Lib.hid (HE8.out.below b9)
    have HF9 := Lib.hid (show DiskAt Any w9 sa9 sn9 sc9 pa9 pn9 pc9 D9 from hD9.mono (S' := Any) (w' := w9) fun b _ _ => ⟨trivial, rfl⟩)
    clear hb9 b9 hD9 HE8 HX8
    rcases he9 with rfl | ⟨rfl, hst⟩
    rotate_left
    · go_wp2_with fail
      go_ret
      exact ⟨rfl, K9.out.alloc (by omega) _⟩
    obtain ⟨l1, l2, l3⟩ := reads_law3 HR8.out HR9.out
    have L7 := Lib.hid l1
    have L8 := Lib.hid l2
    have L9 := Lib.hid l3
    clear l1 l2 l3
    have hp9 : pn9 = 0 := by have := HF9.out.pend.length; rw [L7.out] at this; exact this.symm
    subst hp9
    go_wp2_with fail
    obtain ⟨W0, hW0⟩ : ∃ W, W = w9.alloc (.cells #[.slice sa9 sn9 sc9, .slice pa9 0 pc9, .int .i64 D9.left, .bool D9.stopped] 25) := ⟨_, rfl⟩
    have b0 : Below w9.heap.size w9 W0 := by rw [hW0]; (repeat (first | (with_reducible assumption) | exact Below.refl _ _ | refine Below.setCell ?_ (by first | (simp; done) | (simp; omega) | omega) _ | refine Below.alloc ?_ (by first | (simp; done) | (simp; omega) | omega) _ | refine Below.drew ?_ | refine below_drewN ?_ _))
    have hzz : w9.heap.size < W0.heap.size := by rw [hW0]; simp
    have K0 := Lib.hid (K9.out.trans (b0.mono (by omega)))
    have HX0 := Lib.hid ((b0.block w.heap.size (by omega)).trans HX9.out)
    have HY0 := Lib.hid ((b0.block w8.heap.size (by omega)).trans HY9.out)
    have HZ0 := Lib.hid (show W0.heap[w9.heap.size]? = some (.cells #[.slice sa9 sn9 sc9, .slice pa9 0 pc9, .int .i64 D9.left, .bool D9.stopped] 25 (0, 0)) by rw [hW0]; exact heap_alloc_at _ _ _ rfl)
    have HE0 := Lib.hid (HE9.out.below b0)
    have HF0 := Lib.hid (HF9.out.below b0)
    rw [← hW0]
    clear hW0 b0 HX9 HY9 HE9 HF9
    go_loopw [23] (fun i wr => ∃ k : Nat, k ≤ sn ∧ i = .int .i64 k ∧ Below W0.heap.size W0 wr) (fun i _ => sn - (intOf i).toNat)
    case atStart => exact ⟨0, by omega, rfl, Below.refl _ _⟩
    case round =>
      obtain ⟨k, hk, rfl, hbk⟩ := hrel
      have hsz := hbk.size
      obtain ⟨x0, x1, x2, x3, xf⟩ := box4 ((hbk.block w.heap.size (by omega)).trans HX0.out)
      by_cases hlt : k < sn
      · obtain ⟨y0, y1, y2, y3, yf⟩ := box4 ((hbk.block w8.heap.size (by omega)).trans HY0.out)
        obtain ⟨u, u1, u2⟩ := L9.out k (by rw [HSL.out, hls.out]; exact hlt)
        have U1 := Lib.hid u1
        have U2 := Lib.hid u2
        clear u1 u2
        go_wp2_with fail
        refine (read_any Any _ sa8 sn8 sc8 pa8 pn8 pc8 D8 (k : Int) (HE0.out.below hbk)).mono ?_
        rw [U1.out]
        rintro e wa ⟨a1, n1, c1, rfl, hsA, hbA⟩
        have hsA' : Sl eByte Any wa a1 n1 c1 u := hsA.mono (S' := Any) (w' := wa) fun b _ _ => ⟨trivial, rfl⟩
        have hbK : Below W0.heap.size W0 wa := hbk.trans (hbA.mono hsz)
        have HSA := Lib.hid hsA'
        clear hsA hsA' x0 x1 x2 x3 xf y0 y1 y2 y3 yf hbA
        have hza := hbK.size
        obtain ⟨z0, z1, z2, z3, zf⟩ := box4 ((hbK.block w9.heap.size (by omega)).trans HZ0.out)
        go_wp2_with fail
        refine (read_any Any _ sa9 sn9 sc9 pa9 0 pc9 D9 (k : Int) (HF0.out.below hbK)).mono ?_
        rw [U2.out]
        rintro e wb ⟨a2, n2, c2, rfl, hsB, hbB⟩
        have q1 := conv_bytes (P := Try.prog) (HSA.out.below hbB) 35 5 9 Try.underlying35 Try.underlying5 Try.underlying9 wb (fun _ _ => rfl)
        have q2 := conv_bytes (P := Try.prog) hsB 35 5 9 Try.underlying35 Try.underlying5 Try.underlying9 wb (fun _ _ => rfl)
        have hbL : Below W0.heap.size W0 wb := hbK.trans (hbB.mono hza)
        have r1 : ((strB u).toList != (strB u).toList) = false := by simp
        clear hsB hbB z0 z1 z2 z3 zf
        go_wp2_with fail
        exact ⟨⟨k + 1, by omega, by go_num, hbL⟩, by simp [intOf]; omega⟩
      · obtain ⟨z0, z1, z2, z3, zf⟩ := box4 ((hbk.block w9.heap.size (by omega)).trans HZ0.out)
        go_wp2_with fail
        refine (check_any Any _ sa9 sn9 sc9 pa9 0 pc9 D9.left D9.stopped D9.secs D9.pend (HF0.out.below hbk).secs (HF0.out.below hbk).pend).mono ?_
        rw [show checkF ⟨D9.secs, D9.pend, D9.left, D9.stopped⟩ = 0 from L8.out]
        rintro e wz ⟨rfl, hbz⟩
        go_wp2_with fail
        go_ret
        exact ⟨rfl, (K0.out.trans (hbk.mono (by omega))).trans (hbz.mono (by omega))⟩

end Go.Proofs.Ytckcdokfhdckhaa
