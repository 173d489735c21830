/- The walk of DiskWriteSpec. -/
import Derived.Test.YtckcdokfhdckhaaRows
import Derived.Test.YtckcdokfhdckhaaCkU
import Derived.Test.YtckcdokfhdckhaaCkM
import Derived.WalkKit
import Derived.WalkLawsBesides
import Derived.WalkSpells
import Derived.Outline
import Derived.Lib.Hide
namespace Go.Proofs.Ytckcdokfhdckhaa
open Go.RowKit Go.Kx

set_option maxRecDepth 100000 in
set_option maxHeartbeats 4000000 in
theorem writeSpec_any (w : World) (sa : Option Addr) (sn sc : Nat) (pa : Option Addr) (pn pc : Nat) (ba : Option Addr) (bn bc : Nat) (D : Disk) (at_ : Int) (b : Bytes) (h0 : -9223372036854775808 ≤ at_ ∧ at_ ≤ 9223372036854775807)
    (h : DiskAt Any w sa sn sc pa pn pc D) (hbb : Sl eByte Any w ba bn bc b) :
    Calls Try.prog 4 #[.agg #[.slice sa sn sc, .slice pa pn pc, .int .i64 D.left, .bool D.stopped], .int .i64 at_, .slice ba bn bc] w fun e w' => e = .returned (.bool true) ∧ Below w.heap.size w w' := by
  have HD0 := Lib.hid h
  have HB0 := Lib.hid hbb
  clear h hbb
  go_enter Try.func4, Try.ntmps4
  go_wp2_with fail
  refine (sane_any _).mono ?_
  rintro e w1 ⟨rfl, hb1⟩
  have b1 : Below w.heap.size w w1 := Below.trans (by (repeat (first | (with_reducible assumption) | exact Below.refl _ _ | refine Below.setCell ?_ (by first | (simp; done) | (simp; omega) | omega) _ | refine Below.alloc ?_ (by first | (simp; done) | (simp; omega) | omega) _ | refine Below.drew ?_ | refine below_drewN ?_ _))) (hb1.mono (by simp))
  have hz1 : w.heap.size < w1.heap.size := by have := hb1.size; simp at this; omega
  have HX1 := Lib.hid (show w1.heap[w.heap.size]? = some (.cells #[.slice sa sn sc, .slice pa pn pc, .int .i64 D.left, .bool D.stopped] 25 (0, 0)) from (hb1.block w.heap.size (by first | (simp; done) | (simp; omega) | omega)).trans (heap_alloc_at _ _ _ rfl))
  have HD1 := Lib.hid (HD0.out.below b1)
  have HB1 := Lib.hid (HB0.out.below b1)
  clear hb1 HD0 HB0
  obtain ⟨x0, x1, x2, x3, xf⟩ := box4 HX1.out
  go_wp2_with fail
  refine (few_any Any _ sa sn sc pa pn pc D.left D.stopped D.secs D.pend HD1.out.secs HD1.out.pend).mono ?_
  rintro e w2 ⟨fb, rfl, hb2⟩
  have K2 := Lib.hid (b1.trans (hb2.mono (by omega)))
  have hz2 : w.heap.size < w2.heap.size := by have := hb2.size; omega
  have HX2 := Lib.hid ((hb2.block w.heap.size hz1).trans HX1.out)
  have HD2 := Lib.hid (HD1.out.below hb2)
  have HB2 := Lib.hid (HB1.out.below hb2)
  clear hb2 b1 HD1 HB1 HX1 x0 x1 x2 x3 xf
  obtain ⟨x0, x1, x2, x3, xf⟩ := box4 HX2.out
  rcases fb with _ | _
  · go_wp2_with fail
    go_ret
    exact ⟨rfl, K2.out⟩
  · rcases hn : decide ((1000 : Int) < (bn : Int)) with _ | _
    · go_wp2_with fail
      obtain ⟨D3, e3, hr3⟩ : ∃ D3 e3, writeF D at_ b = (D3, e3) := ⟨_, _, rfl⟩
      obtain ⟨R5, e5, hr5⟩ : ∃ R5 e5, readF D at_ = (R5, e5) := ⟨_, _, rfl⟩
      have HR3 := Lib.hid hr3
      have HR5 := Lib.hid hr5
      clear hr3 hr5
      refine (write_any Any _ sa sn sc pa pn pc ba bn bc D at_ b h0 HD2.out HB2.out).mono ?_
      rw [HR3.out]
      rintro e w3 ⟨sa3, sn3, sc3, pa3, pn3, pc3, rfl, hD3, hb3⟩
      have K3 := Lib.hid (K2.out.trans (hb3.mono (by omega)))
      have hz3 : w.heap.size < w3.heap.size := by have := hb3.size; omega
      have HX3 := Lib.hid ((hb3.block w.heap.size hz2).trans HX2.out)
      have HD3 := Lib.hid (HD2.out.below hb3)
      have HB3 := Lib.hid (HB2.out.below hb3)
      have HE3 := Lib.hid (hD3.mono (S' := Any) (w' := w3) fun b _ _ => ⟨trivial, rfl⟩)
      clear hb3 HD2 HB2 HX2 x0 x1 x2 x3 xf hD3
      obtain ⟨x0, x1, x2, x3, xf⟩ := box4 HX3.out
      go_wp2_with fail
      -- ref.Write
      refine (rwrite_any Any _ sa sn sc pa pn pc ba bn bc D at_ b h0 (HD3.out.below (by (repeat (first | (with_reducible assumption) | exact Below.refl _ _ | refine Below.setCell ?_ (by first | (simp; done) | (simp; omega) | omega) _ | refine Below.alloc ?_ (by first | (simp; done) | (simp; omega) | omega) _ | refine Below.drew ?_ | refine below_drewN ?_ _)))) (HB3.out.below (by (repeat (first | (with_reducible assumption) | exact Below.refl _ _ | refine Below.setCell ?_ (by first | (simp; done) | (simp; omega) | omega) _ | refine Below.alloc ?_ (by first | (simp; done) | (simp; omega) | omega) _ | refine Below.drew ?_ | refine below_drewN ?_ _))))).mono ?_
      rw [HR3.out]
      rintro e w4 ⟨sa4, sn4, sc4, pa4, pn4, pc4, rfl, hD4, hb4⟩
      have b4 : Below w3.heap.size w3 w4 := Below.trans (by (repeat (first | (with_reducible assumption) | exact Below.refl _ _ | refine Below.setCell ?_ (by first | (simp; done) | (simp; omega) | omega) _ | refine Below.alloc ?_ (by first | (simp; done) | (simp; omega) | omega) _ | refine Below.drew ?_ | refine below_drewN ?_ _))) (hb4.mono (by simp))
      have hz4 : w3.heap.size < w4.heap.size := by have := hb4.size; simp at this; omega
      have hv4 : w.heap.size < w4.heap.size := by omega
      have K4 := Lib.hid (K3.out.trans (b4.mono (by omega)))
      have HX4 := Lib.hid ((b4.block w.heap.size hz3).trans HX3.out)
      have HY4 := Lib.hid (show w4.heap[w3.heap.size]? = some (.cells #[.slice sa3 sn3 sc3, .slice pa3 pn3 pc3, .int .i64 D3.left, .bool D3.stopped] 25 (0, 0)) from (hb4.block w3.heap.size (by first | (simp; done) | (simp; omega) | omega)).trans (heap_alloc_at _ _ _ rfl))
      have HD4 := Lib.hid (HD3.out.below b4)
      have HE4 := Lib.hid (HE3.out.below b4)
      have HF4 := Lib.hid (hD4.mono (S' := Any) (w' := w4) fun b _ _ => ⟨trivial, rfl⟩)
      clear hb4 HD3 HB3 HX3 HE3 x0 x1 x2 x3 xf hD4
      obtain ⟨x0, x1, x2, x3, xf⟩ := box4 HX4.out
      go_wp2_with fail
      -- disk.Read
      refine (read_any Any _ sa sn sc pa pn pc D at_ (HD4.out.below (by (repeat (first | (with_reducible assumption) | exact Below.refl _ _ | refine Below.setCell ?_ (by first | (simp; done) | (simp; omega) | omega) _ | refine Below.alloc ?_ (by first | (simp; done) | (simp; omega) | omega) _ | refine Below.drew ?_ | refine below_drewN ?_ _))))).mono ?_
      rw [HR5.out]
      rintro e w5 ⟨ua, un, uc, rfl, hs5, hb5⟩
      have b5 : Below w4.heap.size w4 w5 := Below.trans (by (repeat (first | (with_reducible assumption) | exact Below.refl _ _ | refine Below.setCell ?_ (by first | (simp; done) | (simp; omega) | omega) _ | refine Below.alloc ?_ (by first | (simp; done) | (simp; omega) | omega) _ | refine Below.drew ?_ | refine below_drewN ?_ _))) (hb5.mono (by simp))
      have hz5 : w4.heap.size < w5.heap.size := by have := hb5.size; simp at this; omega
      have hv5 : w.heap.size < w5.heap.size := by omega
      have hv5' : w3.heap.size < w5.heap.size := by omega
      have K5 := Lib.hid (K4.out.trans (b5.mono (by omega)))
      have HX5 := Lib.hid ((b5.block w.heap.size (by omega)).trans HX4.out)
      have HY5 := Lib.hid ((b5.block w3.heap.size hz4).trans HY4.out)
      have HZ5 := Lib.hid (show w5.heap[w4.heap.size]? = some (.cells #[.slice sa4 sn4 sc4, .slice pa4 pn4 pc4, .int .i64 D3.left, .bool D3.stopped] 25 (0, 0)) from (hb5.block w4.heap.size (by first | (simp; done) | (simp; omega) | omega)).trans (heap_alloc_at _ _ _ rfl))
      have HD5 := Lib.hid (HD4.out.below b5)
      have HE5 := Lib.hid (HE4.out.below b5)
      have HF5 := Lib.hid (HF4.out.below b5)
      have HU5 := Lib.hid (hs5.mono (S' := Any) (w' := w5) fun b _ _ => ⟨trivial, rfl⟩)
      clear hb5 HD4 HE4 HX4 HF4 HY4 x0 x1 x2 x3 xf hs5
      obtain ⟨x0, x1, x2, x3, xf⟩ := box4 HX5.out
      go_wp2_with fail
      -- ref.Read
      refine (rread_any Any _ sa sn sc pa pn pc D at_ HD5.out).mono ?_
      rw [HR5.out]
      rintro e w6 ⟨va, vn, vc, rfl, hs6, hb6⟩
      have hz6 : w5.heap.size ≤ w6.heap.size := hb6.size
      have hv6 : w3.heap.size < w6.heap.size := by omega
      have hv6' : w4.heap.size < w6.heap.size := by omega
      have K6 := Lib.hid (K5.out.trans (hb6.mono (by omega)))
      have HY6 := Lib.hid ((hb6.block w3.heap.size (by omega)).trans HY5.out)
      have HZ6 := Lib.hid ((hb6.block w4.heap.size (by omega)).trans HZ5.out)
      have HE6 := Lib.hid (HE5.out.below hb6)
      have HF6 := Lib.hid (HF5.out.below hb6)
      have HU6 := Lib.hid (HU5.out.below hb6)
      have HV6 := Lib.hid (hs6.mono (S' := Any) (w' := w6) fun b _ _ => ⟨trivial, rfl⟩)
      clear hb6 HD5 HE5 HX5 HF5 HY5 HZ5 HU5 x0 x1 x2 x3 xf hs6
      obtain ⟨y0, y1, y2, y3, yf⟩ := box4 HY6.out
      obtain ⟨z0, z1, z2, z3, zf⟩ := box4 HZ6.out
      go_wp2_with fail
      -- Same
      refine (same_true Any Any _ sa3 sn3 sc3 pa3 pn3 pc3 sa4 sn4 sc4 pa4 pn4 pc4 D3 HE6.out HF6.out).mono ?_
      rintro e w7 ⟨rfl, hb7⟩
      have K7 := Lib.hid (K6.out.trans (hb7.mono (by omega)))
      have cu : ∀ W : World, (∀ b, b < w7.heap.size → W.heap[b]? = w7.heap[b]?) → (convert 35 9 (.slice ua un uc)).run Try.prog W = .ok (.string (strB R5)) W := fun W hW => conv_bytes (HU6.out.below hb7) 35 5 9 Try.underlying35 Try.underlying5 Try.underlying9 W hW
      have cv : ∀ W : World, (∀ b, b < w7.heap.size → W.heap[b]? = w7.heap[b]?) → (convert 35 9 (.slice va vn vc)).run Try.prog W = .ok (.string (strB R5)) W := fun W hW => conv_bytes (HV6.out.below hb7) 35 5 9 Try.underlying35 Try.underlying5 Try.underlying9 W hW
      have cu7 := cu w7 fun _ _ => rfl
      have cv7 := cv w7 fun _ _ => rfl
      clear cu cv hb7 HE6 HF6 HU6 HV6 y0 y1 y2 y3 yf z0 z1 z2 z3 zf
      go_wp2_with fail
      go_ret
      exact ⟨rfl, K7.out⟩
    · go_wp2_with fail
      go_ret
      exact ⟨rfl, K2.out⟩

end Go.Proofs.Ytckcdokfhdckhaa
