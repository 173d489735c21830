/- The walk of DiskTogether. -/
import Derived.Test.YtckcdokfhdckhaaRows
import Derived.Test.YtckcdokfhdckhaaCkU
import Derived.Test.YtckcdokfhdckhaaPlb
import Derived.WalkKit
import Derived.WalkLawsBesides
import Derived.WalkSpells
import Derived.Outline
import Derived.Lib.Hide
import Derived.Deep.QuietTactic
import Derived.BigQuiet
import Derived.Deep.RegionWith
import Derived.Deep.RegionHeld3
import Derived.Deep.DeepCutAuto
namespace Go.Proofs.Ytckcdokfhdckhaa
open Go.RowKit Go.Kx

/-- A box that holds a disk. -/
def BoxAt (S : Nat → Prop) (g : Nat) (D : Disk) (w : World) : Prop :=
  ∃ sa sn sc pa pn pc, w.heap[g]? = some (.cells #[.slice sa sn sc, .slice pa pn pc, .int .i64 D.left, .bool D.stopped] 25 (0, 0)) ∧ DiskAt S w sa sn sc pa pn pc D
theorem BoxAt.lt {S : Nat → Prop} {g : Nat} {D : Disk} {w : World} (h : BoxAt S g D w) : g < w.heap.size := by
  obtain ⟨_, _, _, _, _, _, h, _⟩ := h
  exact (Array.getElem?_eq_some_iff.1 h).1
theorem BoxAt.keep {S : Nat → Prop} {g : Nat} {D : Disk} {w w' : World} (h : BoxAt S g D w) (hg : w'.heap[g]? = w.heap[g]?) (hk : ∀ b, S b → b < w.heap.size → w'.heap[b]? = w.heap[b]?) : BoxAt S g D w' := by
  obtain ⟨sa, sn, sc, pa, pn, pc, h1, h2⟩ := h
  exact ⟨sa, sn, sc, pa, pn, pc, hg.trans h1, h2.mono fun b hb hlt => ⟨hb, hk b hb hlt⟩⟩
theorem BoxAt.below {S : Nat → Prop} {g : Nat} {D : Disk} {w w' : World} (h : BoxAt S g D w) (hb : Below w.heap.size w w') : BoxAt S g D w' := h.keep (hb.block g h.lt) fun b _ hlt => hb.block b hlt

theorem step_zero {D : Disk} (h : Fresh D) (l : List Act4) : stepF D l 0 = D := by
  obtain ⟨secs, pend, left, st⟩ := D
  have h1 : st = false := h.run
  have h2 : pend = [] := h.none
  subst h1 h2
  simp [stepF, performF]
theorem pile_zero {D : Disk} (h : Fresh D) (l : List Act4) : pileF D l 0 = D := by
  obtain ⟨secs, pend, left, st⟩ := D
  have h2 : pend = [] := h.none
  subst h2
  simp [pileF]

theorem byte_sl {S : Nat → Prop} {W : World} {g : Nat} {t : TypeId} (x : UInt8) (h : W.heap[g]? = some (.cells #[.int .u8 x.toNat] t (0, 0))) (hS : S g) : Sl eByte S W (some ⟨g, 0, none⟩) 1 1 [x] :=
  Sl.of_heap (l := [x]) (t := t) h hS (by simp)

/-- Where the first loop is behind k rounds. -/
def Stage (D : Disk) (l : List Act4) (k : Nat) (X : Disk) (c : Int) : Prop := (c = 0 ∧ X = stepF D l k ∧ (0 ≤ D.left → (k : Int) ≤ D.left)) ∨ (c = 40 ∧ endF D l = (X, 40))

set_option maxRecDepth 100000 in
set_option maxHeartbeats 8000000 in
theorem together_any (w : World) (sa : Option Addr) (sn sc : Nat) (pa : Option Addr) (pn pc : Nat) (D : Disk) (ca : Option Addr) (cn cc : Nat) (l : List Act4)
    (h : DiskAt Any w sa sn sc pa pn pc D) (hll : Sl eAct Any w ca cn cc l) :
    Calls Try.prog 8 #[.agg #[.slice sa sn sc, .slice pa pn pc, .int .i64 D.left, .bool D.stopped], .slice ca cn cc] w fun e w' => e = .returned (.bool true) ∧ Below w.heap.size w w' := by
  have HD0 := Lib.hid (h.mono (S' := fun b => b < w.heap.size) (w' := w) fun b _ hlt => ⟨hlt, rfl⟩)
  have HL := Lib.hid hll
  have hsn : sn ≤ 140737488355328 := by have := h.secs.bytes; simp [eSl] at this; omega
  have hls := Lib.hid h.secs.length
  have hlp := Lib.hid h.pend.length
  have hlc := Lib.hid hll.length
  clear h hll
  go_enter Try.func8, Try.ntmps8
  go_wp2_with fail
  refine (sane_any _).mono ?_
  rintro e w1 ⟨rfl, hb1⟩
  have b1 : Below w.heap.size w w1 := Below.trans (by (repeat (first | (with_reducible assumption) | exact Below.refl _ _ | refine Below.setCell ?_ (by first | (simp; done) | (simp; omega) | omega) _ | refine Below.alloc ?_ (by first | (simp; done) | (simp; omega) | omega) _ | refine Below.drew ?_ | refine below_drewN ?_ _))) (hb1.mono (by simp))
  have hz1 : w.heap.size < w1.heap.size := by have := hb1.size; simp at this; omega
  have HX1 := Lib.hid (show w1.heap[w.heap.size]? = some (.cells #[.slice sa sn sc, .slice pa pn pc, .int .i64 D.left, .bool D.stopped] 25 (0, 0)) from (hb1.block w.heap.size (by first | (simp; done) | (simp; omega) | omega)).trans (heap_alloc_at _ _ _ rfl))
  have HD1 := Lib.hid (HD0.out.below b1)
  clear hb1
  obtain ⟨x0, x1, x2, x3, xf⟩ := box4 HX1.out
  go_wp2_with fail
  refine (few_any (fun b => b < w.heap.size) _ sa sn sc pa pn pc D.left D.stopped D.secs D.pend HD1.out.secs HD1.out.pend).mono ?_
  rintro e w2 ⟨fb, rfl, hb2⟩
  have K2 := Lib.hid (b1.trans (hb2.mono (by omega)))
  have hz2 : w.heap.size < w2.heap.size := by have := hb2.size; omega
  have HX2 := Lib.hid ((hb2.block w.heap.size hz1).trans HX1.out)
  have HD2 := Lib.hid (HD1.out.below hb2)
  clear hb2 b1 HD1 HX1 x0 x1 x2 x3 xf
  obtain ⟨x0, x1, x2, x3, xf⟩ := box4 HX2.out
  rcases fb with _ | _
  · go_wp2_with fail
    go_ret
    exact ⟨rfl, K2.out⟩
  rcases hn : decide ((20 : Int) < (cn : Int)) with _ | _
  rotate_left
  · go_wp2_with fail
    go_ret
    exact ⟨rfl, K2.out⟩
  by_cases hp : pn = 0
  rotate_left
  · have hp' : 0 < pn := by omega
    have hp2 : decide (0 < (pn : Int)) = true := by simp; omega
    clear hp
    go_wp2_with fail
    go_ret
    exact ⟨rfl, K2.out⟩
  subst hp
  by_cases hs : sn = 0
  · subst hs
    go_wp2_with fail
    go_ret
    exact ⟨rfl, K2.out⟩
  have hsb : ((sn : Int) == 0) = false := by simpa using hs
  have h20 : l.length ≤ 20 := by have := of_decide_eq_false hn; have := hlc.out; omega
  have hp0 : D.pend = [] := List.eq_nil_of_length_eq_zero hlp.out
  have hs1 : 1 ≤ sn := by omega
  clear hs
  have HP0 := Lib.hid hp0
  clear hp0
  go_wp2_with fail
  refine (check_any (fun b => b < w.heap.size) _ sa sn sc pa 0 pc D.left D.stopped D.secs D.pend HD2.out.secs HD2.out.pend).mono ?_
  rw [show checkF ⟨D.secs, D.pend, D.left, D.stopped⟩ = if Disk.ok D then 0 else 40 from rfl]
  rintro e w3 ⟨rfl, hb3⟩
  have K3 := Lib.hid (K2.out.trans (hb3.mono (by omega)))
  have hz3 : w.heap.size < w3.heap.size := by have := hb3.size; omega
  have HX3 := Lib.hid ((hb3.block w.heap.size hz2).trans HX2.out)
  have HD3 := Lib.hid (HD2.out.below hb3)
  clear hb3 HD2 HX2 x0 x1 x2 x3 xf K2
  cases hok : Disk.ok D with
  | false =>
    rw [if_neg (by simp)]
    clear hok
    go_wp2_with fail
    go_ret
    exact ⟨rfl, K3.out⟩
  | true =>
    rw [if_pos rfl]
    have HOK := Lib.hid hok
    clear hok
    obtain ⟨x0, x1, x2, x3, xf⟩ := box4 HX3.out
    rcases hst : D.stopped with _ | _
    rotate_left
    · rw [hst] at x3
      go_wp2_with fail
      go_ret
      exact ⟨rfl, K3.out⟩
    have HF : Hid (Fresh D) := ⟨HOK.out, hst, HP0.out⟩
    rw [hst] at x3
    have HST := Lib.hid hst
    clear hst
    go_upto_region 5 with (fail)
    go_cut [5, 6] from 47 to 48 (fun s5 s6 wr => ∃ bx byy, s5 = .pointer (some ⟨bx, 0, none⟩) ∧ s6 = .pointer (some ⟨byy, 0, none⟩) ∧ bx ≠ byy ∧ w3.heap.size ≤ bx ∧ w3.heap.size ≤ byy ∧ Hid (wr.heap[bx]? = some (.cells #[.slice sa sn sc, .slice pa 0 pc, .int .i64 D.left, .bool false] 25 (0, 0))) ∧ Hid (wr.heap[byy]? = some (.cells #[.slice sa sn sc, .slice pa 0 pc, .int .i64 D.left, .bool false] 25 (0, 0))) ∧ Below w3.heap.size w3 wr)
    case first =>
      go_region
      all_goals (go_wp2_with fail; go_meet)
      · refine ⟨_, _, rfl, rfl, by omega, Nat.le_refl _, Nat.le_succ _, ?_, ?_, by (repeat (first | (with_reducible assumption) | exact Below.refl _ _ | refine Below.setCell ?_ (by first | (simp; done) | (simp; omega) | omega) _ | refine Below.alloc ?_ (by first | (simp; done) | (simp; omega) | omega) _ | refine Below.drew ?_ | refine below_drewN ?_ _))⟩
        · exact (Below.heap_alloc _ _ _ (by simp)).trans (heap_alloc_at _ _ _ rfl)
        · exact heap_alloc_at _ _ _ (by simp)
      · refine ⟨_, _, rfl, rfl, by omega, Nat.le_succ _, Nat.le_refl _, ?_, ?_, by (repeat (first | (with_reducible assumption) | exact Below.refl _ _ | refine Below.setCell ?_ (by first | (simp; done) | (simp; omega) | omega) _ | refine Below.alloc ?_ (by first | (simp; done) | (simp; omega) | omega) _ | refine Below.drew ?_ | refine below_drewN ?_ _))⟩
        · exact heap_alloc_at _ _ _ (by simp)
        · exact (Below.heap_alloc _ _ _ (by simp)).trans (heap_alloc_at _ _ _ rfl)
    case rest =>
      obtain ⟨bx, byy, rfl, rfl, hne, hbx, hby, HBX, HBY, hb4⟩ := hcut
      obtain ⟨S0, hS0⟩ : ∃ S0 : Nat → Prop, S0 = fun b => b ≠ bx ∧ b ≠ byy := ⟨_, rfl⟩
      have HS0 := Lib.hid hS0
      have K4 := Lib.hid (K3.out.trans (hb4.mono (by omega)))
      have hbx1 : bx < wc.heap.size := (Array.getElem?_eq_some_iff.1 HBX.out).1
      have hby1 : byy < wc.heap.size := (Array.getElem?_eq_some_iff.1 HBY.out).1
      have HX4 : Hid (wc.heap[w.heap.size]? = some (.cells #[.slice sa sn sc, .slice pa 0 pc, .int .i64 D.left, .bool false] 25 (0, 0))) := by have := (hb4.block w.heap.size hz3).trans HX3.out; rw [HST.out] at this; exact this
      have HD4 : Hid (DiskAt S0 wc sa sn sc pa 0 pc D) := HD3.out.mono fun b hb hlt => ⟨by rw [HS0.out]; exact ⟨by have : b < w.heap.size := hb; omega, by have : b < w.heap.size := hb; omega⟩, hb4.block b hlt⟩
      have HBX4 : Hid (BoxAt S0 bx (stepF D l 0) wc) := by rw [step_zero HF.out]; exact ⟨sa, sn, sc, pa, 0, pc, by rw [HST.out]; exact HBX.out, HD4.out⟩
      have HBY4 : Hid (BoxAt S0 byy (pileF D l 0) wc) := by rw [pile_zero HF.out]; exact ⟨sa, sn, sc, pa, 0, pc, by rw [HST.out]; exact HBY.out, HD4.out⟩
      have HLC : Hid (Sl eAct Any w ca cn cc l) := HL
      have K4w : Hid (Below w.heap.size w wc) := K4
      clear hS0 HBX HBY HD3 HX3 hb4 K3 HD4 x0 x1 x2 x3 xf
      go_wp2_with fail
      go_loopw [7, 8] (fun s7 s8 wr => ∃ (k : Nat) (X : Disk) (c : Int), k ≤ cn ∧ s8 = .int .i64 k ∧ s7 = .int .i64 c ∧ Hid (Stage D l k X c) ∧ Hid (BoxAt S0 bx X wr) ∧ Hid (BoxAt S0 byy (pileF D l 0) wr) ∧ Hid (wr.heap[w.heap.size]? = some (.cells #[.slice sa sn sc, .slice pa 0 pc, .int .i64 D.left, .bool false] 25 (0, 0))) ∧ Hid (Below w.heap.size w wr)) (fun _ s8 _ => cn - (intOf s8).toNat)
      case atStart => exact ⟨0, _, 0, by omega, rfl, rfl, .inl ⟨rfl, rfl, fun h => h⟩, HBX4, HBY4, HX4, K4⟩
      case round =>
        obtain ⟨k, X, c, hk, rfl, rfl, HG, HX, HY, HB, KR⟩ := hrel
        have hzw : w.heap.size < wr.heap.size := (Array.getElem?_eq_some_iff.1 HB.out).1
        go_upto_region 8 with (fail)
        go_cut [56] from 49 to 55 (fun s wr' => s = .bool (decide (k < cn) && decide (c = 0)) ∧ wr' = wr)
        case first =>
          by_cases hlt : k < cn
          · by_cases hc : c = 0
            · subst hc
              go_wp2_with fail
              go_meet
              exact ⟨by simp [hlt], rfl⟩
            · have hcb : (c == 0) = false := by simpa using hc
              go_wp2_with fail
              go_meet
              exact ⟨by simp [hc], rfl⟩
          · go_wp2_with fail
            go_meet
            exact ⟨by simp [hlt], rfl⟩
        case rest =>
          obtain ⟨rfl, rfl⟩ := hcut
          by_cases hgo : k < cn ∧ c = 0
          · obtain ⟨hlt, rfl⟩ := hgo
            obtain ⟨hXe, hle⟩ : X = stepF D l k ∧ (0 ≤ D.left → (k : Int) ≤ D.left) := by
              rcases HG.out with h | h
              · exact h.2
              · exact absurd h.1 (by decide)
            subst hXe
            have HLE := Lib.hid hle
            clear hle HG
            have hkl : k < l.length := by have := hlc.out; omega
            obtain ⟨sb, so, rfl, hsb, a0, a1, a2⟩ := Sl.act HL.out KR.out k hkl
            obtain ⟨x, hx⟩ : ∃ x, x = l[k] := ⟨_, rfl⟩
            rw [← hx] at a0 a1 a2
            have HXK := Lib.hid hx
            clear hx
            have hrem : Int.tmod ((x.at_.toNat : Nat) : Int) (sn : Int) = ((x.at_.toNat % sn : Nat) : Int) := by rw [Int.tmod_eq_emod_of_nonneg (by omega)]; rfl
            have hwr : wrap64 ((x.at_.toNat : Nat) : Int) = ((x.at_.toNat : Nat) : Int) := by have := x.at_.toNat_lt; unfold wrap64; omega
            have hsn0 : ¬ (sn : Int) = 0 := by omega
            have hkc : (k : Int) < cn := by omega
            obtain ⟨z, hz⟩ : ∃ z : Int, z = ((x.at_.toNat % sn : Nat) : Int) := ⟨_, rfl⟩
            have hz0 : -9223372036854775808 ≤ z ∧ z ≤ 9223372036854775807 := by
              have := Nat.mod_lt x.at_.toNat (show 0 < sn by omega)
              omega
            have HZ := Lib.hid hz
            have HZ0 := Lib.hid hz0
            clear hz hz0
            obtain ⟨d0, d1, d2, d3, df⟩ := box4 HB.out
            simp only [hlt, decide_true, Bool.and_self]
            go_upto_region 10 with (fail)
            go_cut [9] from 59 to 68 (fun s wr' => s = .int .i64 z ∧ Below wc.heap.size wc wr')
            case first =>
              go_quiet (fail)
              go_wp2_with fail
              go_meet
              exact ⟨by rw [HZ.out]; rfl, by (repeat (first | (with_reducible assumption) | exact Below.refl _ _ | refine Below.setCell ?_ (by first | (simp; done) | (simp; omega) | omega) _ | refine Below.alloc ?_ (by first | (simp; done) | (simp; omega) | omega) _ | refine Below.drew ?_ | refine below_drewN ?_ _))⟩
            case rest =>
              obtain ⟨rfl, hb5⟩ := hcut
              have hs5 := hb5.size
              have HX5 := Lib.hid (HX.out.below hb5)
              have HY5 := Lib.hid (HY.out.below hb5)
              have HB5 := Lib.hid ((hb5.block w.heap.size hzw).trans HB.out)
              have K5 := Lib.hid (KR.out.trans (hb5.mono (by omega)))
              have a25 := (hb5.cell (p := ⟨sb, so + k * 3 + 2, none⟩) (by have : sb < w.heap.size := hsb; show sb < _; omega)).trans a2
              clear hb5 HX HY HB KR a0 a1 a2 d0 d1 d2 d3 df hrem hwr hsn0
              obtain ⟨ax, an, ac, qx, qn, qc, hbox, hdx⟩ := HX5.out
              have HBOX := Lib.hid hbox
              have HDX := Lib.hid hdx
              have hbxl : bx < wc.heap.size := HX5.out.lt
              have hbyl : byy < wc.heap.size := HY5.out.lt
              clear hbox hdx
              obtain ⟨d0, d1, d2, d3, df⟩ := box4 HBOX.out
              have HNB : Hid (S0 wc.heap.size) := by rw [HS0.out]; exact ⟨by omega, by omega⟩
              have hw : writeF (stepF D l k) z [x.byte] = ({ stepF D l k with pend := [actW D.secs.length x] }, 0) := by
                have := write_step HF.out l k hkl HLE.out
                rw [← HXK.out] at this
                rw [HZ.out, ← hls.out]
                exact this
              have hsy := sync_step HF.out l k hkl h20 HLE.out
              rw [← HXK.out] at hsy
              obtain ⟨Z, hZ⟩ : ∃ Z, Z = ({ stepF D l k with pend := [actW D.secs.length x] } : Disk) := ⟨_, rfl⟩
              rw [← hZ] at hw hsy
              have HW := Lib.hid hw
              have HSY := Lib.hid hsy
              clear hw hsy hZ
              have HNB1 : Hid (S0 (wc.heap.size + 1)) := by rw [HS0.out]; exact ⟨by omega, by omega⟩
              have HSB0 : Hid (Sl eByte S0 ((wc.alloc (.cells #[.int .u8 x.byte.toNat] 5)).drew) (some ⟨wc.heap.size, 0, none⟩) 1 1 [x.byte]) := byte_sl x.byte (heap_alloc_at wc _ _ rfl) HNB.out
              have HDX0 : Hid (DiskAt S0 ((wc.alloc (.cells #[.int .u8 x.byte.toNat] 5)).drew) ax an ac qx qn qc (stepF D l k)) := HDX.out.below (by (repeat (first | (with_reducible assumption) | exact Below.refl _ _ | refine Below.setCell ?_ (by first | (simp; done) | (simp; omega) | omega) _ | refine Below.alloc ?_ (by first | (simp; done) | (simp; omega) | omega) _ | refine Below.drew ?_ | refine below_drewN ?_ _)))
              have HSB1 : Hid (Sl eByte (fun b => S0 b ∧ b ≠ wc.heap.size + 1) (((wc.alloc (.cells #[.int .u8 x.byte.toNat] 5)).alloc (.cells #[.slice none 0 0, .slice none 0 0, .int .i64 0, .bool false] 25)).drew) (some ⟨wc.heap.size, 0, none⟩) 1 1 [x.byte]) := byte_sl x.byte ((Below.heap_alloc (wc.alloc _) _ wc.heap.size (by simp)).trans (heap_alloc_at wc _ _ rfl)) ⟨HNB.out, by omega⟩
              have HDX1 : Hid (DiskAt (fun b => S0 b ∧ b ≠ wc.heap.size + 1) (((wc.alloc (.cells #[.int .u8 x.byte.toNat] 5)).alloc (.cells #[.slice none 0 0, .slice none 0 0, .int .i64 0, .bool false] 25)).drew) ax an ac qx qn qc (stepF D l k)) := (HDX.out.mono (S' := fun b => S0 b ∧ b ≠ wc.heap.size + 1) (w' := wc) fun b hb hlt => ⟨⟨hb, by omega⟩, rfl⟩).below (by (repeat (first | (with_reducible assumption) | exact Below.refl _ _ | refine Below.setCell ?_ (by first | (simp; done) | (simp; omega) | omega) _ | refine Below.alloc ?_ (by first | (simp; done) | (simp; omega) | omega) _ | refine Below.drew ?_ | refine below_drewN ?_ _)))
              have HSB2 : Hid (Sl eByte (fun b => S0 b ∧ b ≠ wc.heap.size) (((wc.alloc (.cells #[.slice none 0 0, .slice none 0 0, .int .i64 0, .bool false] 25)).alloc (.cells #[.int .u8 x.byte.toNat] 5)).drew) (some ⟨wc.heap.size + 1, 0, none⟩) 1 1 [x.byte]) := byte_sl x.byte (heap_alloc_at (wc.alloc _) _ _ (by simp)) ⟨HNB1.out, by omega⟩
              have HDX2 : Hid (DiskAt (fun b => S0 b ∧ b ≠ wc.heap.size) (((wc.alloc (.cells #[.slice none 0 0, .slice none 0 0, .int .i64 0, .bool false] 25)).alloc (.cells #[.int .u8 x.byte.toNat] 5)).drew) ax an ac qx qn qc (stepF D l k)) := (HDX.out.mono (S' := fun b => S0 b ∧ b ≠ wc.heap.size) (w' := wc) fun b hb hlt => ⟨⟨hb, by omega⟩, rfl⟩).below (by (repeat (first | (with_reducible assumption) | exact Below.refl _ _ | refine Below.setCell ?_ (by first | (simp; done) | (simp; omega) | omega) _ | refine Below.alloc ?_ (by first | (simp; done) | (simp; omega) | omega) _ | refine Below.drew ?_ | refine below_drewN ?_ _)))
              have hsbl : sb < wc.heap.size := by have : sb < w.heap.size := hsb; omega
              have e1 : ¬ bx = wc.heap.size := by omega
              have e2 : ¬ bx = wc.heap.size + 1 := by omega
              have e3 : ¬ sb = wc.heap.size := by omega
              have e4 : ¬ sb = wc.heap.size + 1 := by omega
              have e5 : ¬ wc.heap.size = bx := by omega
              have e6 : ¬ wc.heap.size + 1 = bx := by omega
              have e7 : ¬ wc.heap.size = sb := by omega
              have e8 : ¬ wc.heap.size + 1 = sb := by omega
              go_upto_region 11 with (fail)
              go_cut [10, 11] from 70 to 80 (fun s10 s11 wr' => ∃ bz, s10 = .pointer (some ⟨bz, 0, none⟩) ∧ s11 = .int .i64 0 ∧ wc.heap.size ≤ bz ∧ Hid (BoxAt S0 bz Z wr') ∧ Below wc.heap.size wc wr')
              case first =>
                go_region_held3 (fun w' => w'.cell? ⟨bx, 0, none⟩ = some (.slice ax an ac) ∧ w'.cell? ⟨bx, 1, none⟩ = some (.slice qx qn qc) ∧ w'.cell? ⟨bx, 2, none⟩ = some (.int .i64 (stepF D l k).left) ∧ w'.cell? ⟨bx, 3, none⟩ = some (.bool (stepF D l k).stopped) ∧ w'.cell? ⟨sb, so + k * 3 + 2, none⟩ = some (.int .u8 x.byte.toNat)) (first | exact ⟨d0, d1, d2, d3, a25⟩ | go_keep)
                  (first
                    | (go_at_call 19; (with_reducible refine (write_any (fun b => S0 b ∧ b ≠ wc.heap.size + 1) _ ax an ac qx qn qc _ 1 1 (stepF D l k) z [x.byte] HZ0.out HDX1.out HSB1.out).mono ?_); rw [HW.out]; rintro e w6 ⟨za, zn, zc, ya, yn, yc, rfl, hdz, hb6⟩; have b6 : Below wc.heap.size wc w6 := Below.trans (by (repeat (first | (with_reducible assumption) | exact Below.refl _ _ | refine Below.setCell ?_ (by first | (simp; done) | (simp; omega) | omega) _ | refine Below.alloc ?_ (by first | (simp; done) | (simp; omega) | omega) _ | refine Below.drew ?_ | refine below_drewN ?_ _))) (hb6.mono (by first | (simp; done) | (simp; omega) | omega)); have HDZ := Lib.hid (show DiskAt (fun b => S0 b ∧ b ≠ wc.heap.size + 1) w6 za zn zc ya yn yc Z from hdz.mono (S' := (fun b => S0 b ∧ b ≠ wc.heap.size + 1)) (w' := w6) fun b hb _ => ⟨hb.elim id fun h => ⟨(by rw [HS0.out]; simp at h; exact ⟨by omega, by omega⟩), (by simp at h; omega)⟩, rfl⟩); have hzb6 : wc.heap.size + 1 < w6.heap.size := (by have := hb6.size; simp at this; omega); have HZB := Lib.hid (show w6.heap[wc.heap.size + 1]? = some (.cells #[.slice none 0 0, .slice none 0 0, .int .i64 0, .bool false] 25 (0, 0)) from (hb6.block (wc.heap.size + 1) (by first | (simp; done) | (simp; omega) | omega)).trans (heap_alloc_at (wc.alloc _) _ _ (by simp))); obtain ⟨z0, z1, z2, z3, zf⟩ := box4 HZB.out; have b25 := (b6.cell (p := ⟨sb, so + k * 3 + 2, none⟩) (by have : sb < w.heap.size := hsb; show sb < _; omega)).trans a25; clear a25 d0 d1 d2 d3 df hdz hb6; obtain ⟨d0, d1, d2, d3, df⟩ := box4 ((b6.block bx hbxl).trans HBOX.out))
                    | (go_at_call 19; (with_reducible refine (write_any (fun b => S0 b ∧ b ≠ wc.heap.size) _ ax an ac qx qn qc _ 1 1 (stepF D l k) z [x.byte] HZ0.out HDX2.out HSB2.out).mono ?_); rw [HW.out]; rintro e w6 ⟨za, zn, zc, ya, yn, yc, rfl, hdz, hb6⟩; have b6 : Below wc.heap.size wc w6 := Below.trans (by (repeat (first | (with_reducible assumption) | exact Below.refl _ _ | refine Below.setCell ?_ (by first | (simp; done) | (simp; omega) | omega) _ | refine Below.alloc ?_ (by first | (simp; done) | (simp; omega) | omega) _ | refine Below.drew ?_ | refine below_drewN ?_ _))) (hb6.mono (by first | (simp; done) | (simp; omega) | omega)); have HDZ := Lib.hid (show DiskAt (fun b => S0 b ∧ b ≠ wc.heap.size) w6 za zn zc ya yn yc Z from hdz.mono (S' := (fun b => S0 b ∧ b ≠ wc.heap.size)) (w' := w6) fun b hb _ => ⟨hb.elim id fun h => ⟨(by rw [HS0.out]; simp at h; exact ⟨by omega, by omega⟩), (by simp at h; omega)⟩, rfl⟩); have hzb6 : wc.heap.size < w6.heap.size := (by have := hb6.size; simp at this; omega); have HZB := Lib.hid (show w6.heap[wc.heap.size]? = some (.cells #[.slice none 0 0, .slice none 0 0, .int .i64 0, .bool false] 25 (0, 0)) from (hb6.block (wc.heap.size) (by first | (simp; done) | (simp; omega) | omega)).trans ((Below.heap_alloc (wc.alloc _) _ wc.heap.size (by simp)).trans (heap_alloc_at wc _ _ rfl))); obtain ⟨z0, z1, z2, z3, zf⟩ := box4 HZB.out; have b25 := (b6.cell (p := ⟨sb, so + k * 3 + 2, none⟩) (by have : sb < w.heap.size := hsb; show sb < _; omega)).trans a25; clear a25 d0 d1 d2 d3 df hdz hb6; obtain ⟨d0, d1, d2, d3, df⟩ := box4 ((b6.block bx hbxl).trans HBOX.out))
                    | (go_at_call 19; (with_reducible refine (write_any S0 _ ax an ac qx qn qc _ 1 1 (stepF D l k) z [x.byte] HZ0.out HDX0.out HSB0.out).mono ?_); rw [HW.out]; rintro e w6 ⟨za, zn, zc, ya, yn, yc, rfl, hdz, hb6⟩; have b6 : Below wc.heap.size wc w6 := Below.trans (by (repeat (first | (with_reducible assumption) | exact Below.refl _ _ | refine Below.setCell ?_ (by first | (simp; done) | (simp; omega) | omega) _ | refine Below.alloc ?_ (by first | (simp; done) | (simp; omega) | omega) _ | refine Below.drew ?_ | refine below_drewN ?_ _))) (hb6.mono (by first | (simp; done) | (simp; omega) | omega)); have HDZ := Lib.hid (show DiskAt S0 w6 za zn zc ya yn yc Z from hdz.mono (S' := S0) (w' := w6) fun b hb _ => ⟨hb.elim id fun h => (by rw [HS0.out]; simp at h; exact ⟨by omega, by omega⟩), rfl⟩); have b25 := (b6.cell (p := ⟨sb, so + k * 3 + 2, none⟩) (by have : sb < w.heap.size := hsb; show sb < _; omega)).trans a25; clear a25 d0 d1 d2 d3 df hdz hb6; obtain ⟨d0, d1, d2, d3, df⟩ := box4 ((b6.block bx hbxl).trans HBOX.out)))
                all_goals (go_wp2_with fail; go_meet)
                · exact ⟨_, rfl, rfl, b6.size, ⟨za, zn, zc, ya, yn, yc, heap_alloc_at w6 _ _ rfl, HDZ.out.below (by (repeat (first | (with_reducible assumption) | exact Below.refl _ _ | refine Below.setCell ?_ (by first | (simp; done) | (simp; omega) | omega) _ | refine Below.alloc ?_ (by first | (simp; done) | (simp; omega) | omega) _ | refine Below.drew ?_ | refine below_drewN ?_ _)))⟩, Below.trans b6 ((Below.alloc (Below.refl wc.heap.size w6) b6.size _).trans (by (repeat (first | (with_reducible assumption) | exact Below.refl _ _ | refine Below.setCell ?_ (by first | (simp; done) | (simp; omega) | omega) _ | refine Below.alloc ?_ (by first | (simp; done) | (simp; omega) | omega) _ | refine Below.drew ?_ | refine below_drewN ?_ _))))⟩
                · exact ⟨_, rfl, rfl, Nat.le_succ _, ⟨za, zn, zc, ya, yn, yc, (set4 HZB.out).1, HDZ.out.mono fun b hb _ => ⟨hb.1, (set4 HZB.out).2 b hb.2⟩⟩, Below.trans b6 (by (repeat (first | (with_reducible assumption) | exact Below.refl _ _ | refine Below.setCell ?_ (by first | (simp; done) | (simp; omega) | omega) _ | refine Below.alloc ?_ (by first | (simp; done) | (simp; omega) | omega) _ | refine Below.drew ?_ | refine below_drewN ?_ _)))⟩
                · exact ⟨_, rfl, rfl, Nat.le_refl _, ⟨za, zn, zc, ya, yn, yc, (set4 HZB.out).1, HDZ.out.mono fun b hb _ => ⟨hb.1, (set4 HZB.out).2 b hb.2⟩⟩, Below.trans b6 (by (repeat (first | (with_reducible assumption) | exact Below.refl _ _ | refine Below.setCell ?_ (by first | (simp; done) | (simp; omega) | omega) _ | refine Below.alloc ?_ (by first | (simp; done) | (simp; omega) | omega) _ | refine Below.drew ?_ | refine below_drewN ?_ _)))⟩
              case rest =>
                obtain ⟨bz, rfl, rfl, hbz, HZB, hb6⟩ := hcut
                have hs6 := hb6.size
                have HX6 := Lib.hid (HX5.out.below hb6)
                have HY6 := Lib.hid (HY5.out.below hb6)
                have HB6 := Lib.hid ((hb6.block w.heap.size (by omega)).trans HB5.out)
                have K6 := Lib.hid (K5.out.trans (hb6.mono (by omega)))
                have hzb1 : bz < wc.heap.size := HZB.out.lt
                obtain ⟨za, zn, zc, ya, yn, yc, hzbox, hzd⟩ := HZB.out
                have HZD := Lib.hid hzd
                obtain ⟨R, c', hR⟩ : ∃ R c', syncF Z = (R, c') := ⟨_, _, rfl⟩
                have HRR := Lib.hid hR
                have hsy := HSY.out
                rw [hR] at hsy
                have HSZ := Lib.hid hsy
                obtain ⟨z0, z1, z2, z3, zf⟩ := box4 hzbox
                clear hsy hR hzd hzbox hb6 HX5 HY5 HB5 K5 d0 d1 d2 d3 df a25 HSB0 HSB1 HSB2 HDX0 HDX1 HDX2 HDX HBOX HSY
                go_wp2_with fail
                refine (sync_any S0 _ za zn zc ya yn yc Z HZD.out).mono ?_
                rw [HRR.out]
                rintro e w7 ⟨ra, rn, rc, ta, tn, tc, rfl, hdr, hb7⟩
                have hs7 := hb7.size
                have HDR := Lib.hid (show DiskAt S0 w7 ra rn rc ta tn tc R from hdr.mono (S' := S0) (w' := w7) fun b hb _ => ⟨hb.elim id fun h => (by rw [HS0.out]; exact ⟨by omega, by omega⟩), rfl⟩)
                have HX7 := Lib.hid (HX6.out.below hb7)
                have HY7 := Lib.hid (HY6.out.below hb7)
                have HB7 := Lib.hid ((hb7.block w.heap.size (by omega)).trans HB6.out)
                have K7 := Lib.hid (K6.out.trans (hb7.mono (by omega)))
                clear hdr hb7 HX6 HY6 HB6 K6 z0 z1 z2 z3 zf
                obtain ⟨ga, gn, gc, ha, hn', hc', hgb, _⟩ := HX7.out
                have HGB := Lib.hid hgb
                clear hgb
                obtain ⟨d0, d1, d2, d3, df⟩ := box4 HGB.out
                have hbx7 : bx < w7.heap.size := HX7.out.lt
                go_wp2_with fail
                refine ⟨⟨k + 1, R, c', by omega, by go_num, rfl, ?_, ?_, ?_, ?_, ?_⟩, by simp [intOf]; omega⟩
                · rcases HSZ.out with ⟨h1, h2⟩ | ⟨h1, h2⟩
                  · simp only [Prod.mk.injEq] at h1
                    exact .inl ⟨h1.2, h1.1, h2⟩
                  · rw [← h1] at h2
                    have h2' : c' = 40 := h2
                    exact .inr ⟨h2', by rw [← h1, h2']⟩
                · exact ⟨ra, rn, rc, ta, tn, tc, (set4 HGB.out).1, HDR.out.mono fun b hb _ => ⟨hb, (set4 HGB.out).2 b (by rw [HS0.out] at hb; exact hb.1)⟩⟩
                · exact HY7.out.keep ((set4 HGB.out).2 byy (fun e => hne e.symm)) fun b hb _ => (set4 HGB.out).2 b (by rw [HS0.out] at hb; exact hb.1)
                · exact ((set4 HGB.out).2 w.heap.size (by omega)).trans HB7.out
                · exact K7.out.trans (by (repeat (first | (with_reducible assumption) | exact Below.refl _ _ | refine Below.setCell ?_ (by first | (simp; done) | (simp; omega) | omega) _ | refine Below.alloc ?_ (by first | (simp; done) | (simp; omega) | omega) _ | refine Below.drew ?_ | refine below_drewN ?_ _)))
          · have HE : Hid (endF D l = (X, c)) := by
              rcases HG.out with ⟨h1, h2, h3⟩ | ⟨h1, h2⟩
              · have hkn : k = l.length := by have := hlc.out; have : ¬ k < cn := fun h => hgo ⟨h, h1⟩; omega
                subst h1 h2
                rw [hkn] at h3 ⊢
                exact step_end HF.out l h20 h3
              · rw [h1]; exact h2
            have hgb : (decide (k < cn) && decide (c = 0)) = false := by
              rcases Nat.lt_or_ge k cn with h | h
              · have : ¬ c = 0 := fun h2 => hgo ⟨h, h2⟩
                simp [this]
              · simp; omega
            rw [hgb]
            clear hgo hgb HG
            go_wp2_with fail
            go_loopw [12] (fun s12 wr => ∃ (k : Nat), k ≤ cn ∧ s12 = .int .i64 k ∧ Hid (BoxAt S0 bx X wr) ∧ Hid (BoxAt S0 byy (pileF D l k) wr) ∧ Hid (wr.heap[w.heap.size]? = some (.cells #[.slice sa sn sc, .slice pa 0 pc, .int .i64 D.left, .bool false] 25 (0, 0))) ∧ Hid (Below w.heap.size w wr)) (fun s12 _ => cn - (intOf s12).toNat)
            case atStart => exact ⟨0, by omega, rfl, HX, HY, HB, KR⟩
            case round =>
              clear HX HY HB KR hzw
              obtain ⟨k, hk, rfl, HX, HY, HB, KR⟩ := hrel
              have hzw : w.heap.size < wr.heap.size := (Array.getElem?_eq_some_iff.1 HB.out).1
              have hbxl : bx < wr.heap.size := HX.out.lt
              have hbyl : byy < wr.heap.size := HY.out.lt
              by_cases hlt : k < cn
              · have hkl : k < l.length := by have := hlc.out; omega
                obtain ⟨sb, so, rfl, hsb, a0, a1, a2⟩ := Sl.act HL.out KR.out k hkl
                obtain ⟨x, hx⟩ : ∃ x, x = l[k] := ⟨_, rfl⟩
                rw [← hx] at a0 a1 a2
                have HXK := Lib.hid hx
                clear hx
                obtain ⟨z, hz⟩ : ∃ z : Int, z = ((x.at_.toNat % sn : Nat) : Int) := ⟨_, rfl⟩
                have hz0 : -9223372036854775808 ≤ z ∧ z ≤ 9223372036854775807 := by
                  have := Nat.mod_lt x.at_.toNat (show 0 < sn by omega)
                  omega
                have hremB : ((x.at_.toNat : Nat) : Int) % (sn : Int) = z := by rw [hz]; rfl
                have hremA : Int.tmod ((x.at_.toNat : Nat) : Int) (sn : Int) = z := by rw [Int.tmod_eq_emod_of_nonneg (by omega)]; exact hremB
                have hwr : wrap64 ((x.at_.toNat : Nat) : Int) = ((x.at_.toNat : Nat) : Int) := by have := x.at_.toNat_lt; unfold wrap64; omega
                have HZ := Lib.hid hz
                have HZ0 := Lib.hid hz0
                clear hz hz0
                have hsn0 : ¬ (sn : Int) = 0 := by omega
                have hkc : (k : Int) < cn := by omega
                have hsn1 : ¬ sn = 0 := by omega
                have hwk : IntKind.i64.wrap ((x.at_.toNat : Nat) : Int) = ((x.at_.toNat : Nat) : Int) := by have := x.at_.toNat_lt; exact IntWalk.i64_in _ (by omega)
                have hwt : Int.tmod (IntKind.i64.wrap ((x.at_.toNat : Nat) : Int)) (sn : Int) = z := by rw [hwk]; exact hremA
                have hsn2 : ((sn : Int) == 0) = false := by simp; omega
                obtain ⟨c0, c1, c2, c3, cf⟩ := box4 HB.out
                obtain ⟨ax, an, ac, qx, qn, qc, hbox, hdx⟩ := HY.out
                have HBOX := Lib.hid hbox
                have HDX := Lib.hid hdx
                clear hbox hdx
                obtain ⟨d0, d1, d2, d3, df⟩ := box4 HBOX.out
                have HNB : Hid (S0 wr.heap.size) := by rw [HS0.out]; exact ⟨by omega, by omega⟩
                have HNB1 : Hid (S0 (wr.heap.size + 1)) := by rw [HS0.out]; exact ⟨by omega, by omega⟩
                have hw : writeF (pileF D l k) z [x.byte] = (pileF D l (k + 1), 0) := by
                  have := write_pile HF.out l k hkl h20
                  rw [← HXK.out] at this
                  rw [HZ.out, ← hls.out]
                  exact this
                have HW := Lib.hid hw
                clear hw
                have HSB0 : Hid (Sl eByte S0 ((wr.alloc (.cells #[.int .u8 x.byte.toNat] 5)).drew) (some ⟨wr.heap.size, 0, none⟩) 1 1 [x.byte]) := byte_sl x.byte (heap_alloc_at wr _ _ rfl) HNB.out
                have HDX0 : Hid (DiskAt S0 ((wr.alloc (.cells #[.int .u8 x.byte.toNat] 5)).drew) ax an ac qx qn qc (pileF D l k)) := HDX.out.below (by (repeat (first | (with_reducible assumption) | exact Below.refl _ _ | refine Below.setCell ?_ (by first | (simp; done) | (simp; omega) | omega) _ | refine Below.alloc ?_ (by first | (simp; done) | (simp; omega) | omega) _ | refine Below.drew ?_ | refine below_drewN ?_ _)))
                have HSB1 : Hid (Sl eByte (fun b => S0 b ∧ b ≠ wr.heap.size + 1) (((wr.alloc (.cells #[.int .u8 x.byte.toNat] 5)).alloc (.cells #[.slice none 0 0, .slice none 0 0, .int .i64 0, .bool false] 25)).drew) (some ⟨wr.heap.size, 0, none⟩) 1 1 [x.byte]) := byte_sl x.byte ((Below.heap_alloc (wr.alloc _) _ wr.heap.size (by simp)).trans (heap_alloc_at wr _ _ rfl)) ⟨HNB.out, by omega⟩
                have HDX1 : Hid (DiskAt (fun b => S0 b ∧ b ≠ wr.heap.size + 1) (((wr.alloc (.cells #[.int .u8 x.byte.toNat] 5)).alloc (.cells #[.slice none 0 0, .slice none 0 0, .int .i64 0, .bool false] 25)).drew) ax an ac qx qn qc (pileF D l k)) := (HDX.out.mono (S' := fun b => S0 b ∧ b ≠ wr.heap.size + 1) (w' := wr) fun b hb hlt => ⟨⟨hb, by omega⟩, rfl⟩).below (by (repeat (first | (with_reducible assumption) | exact Below.refl _ _ | refine Below.setCell ?_ (by first | (simp; done) | (simp; omega) | omega) _ | refine Below.alloc ?_ (by first | (simp; done) | (simp; omega) | omega) _ | refine Below.drew ?_ | refine below_drewN ?_ _)))
                have HSB2 : Hid (Sl eByte (fun b => S0 b ∧ b ≠ wr.heap.size) (((wr.alloc (.cells #[.slice none 0 0, .slice none 0 0, .int .i64 0, .bool false] 25)).alloc (.cells #[.int .u8 x.byte.toNat] 5)).drew) (some ⟨wr.heap.size + 1, 0, none⟩) 1 1 [x.byte]) := byte_sl x.byte (heap_alloc_at (wr.alloc _) _ _ (by simp)) ⟨HNB1.out, by omega⟩
                have HDX2 : Hid (DiskAt (fun b => S0 b ∧ b ≠ wr.heap.size) (((wr.alloc (.cells #[.slice none 0 0, .slice none 0 0, .int .i64 0, .bool false] 25)).alloc (.cells #[.int .u8 x.byte.toNat] 5)).drew) ax an ac qx qn qc (pileF D l k)) := (HDX.out.mono (S' := fun b => S0 b ∧ b ≠ wr.heap.size) (w' := wr) fun b hb hlt => ⟨⟨hb, by omega⟩, rfl⟩).below (by (repeat (first | (with_reducible assumption) | exact Below.refl _ _ | refine Below.setCell ?_ (by first | (simp; done) | (simp; omega) | omega) _ | refine Below.alloc ?_ (by first | (simp; done) | (simp; omega) | omega) _ | refine Below.drew ?_ | refine below_drewN ?_ _)))
                have hsbl : sb < wr.heap.size := by have : sb < w.heap.size := hsb; omega
                have e1 : ¬ byy = wr.heap.size := by omega
                have e2 : ¬ wr.heap.size = byy := by omega
                have e3 : ¬ byy = wr.heap.size + 1 := by omega
                have e4 : ¬ wr.heap.size + 1 = byy := by omega
                have e5 : ¬ sb = wr.heap.size := by omega
                have e6 : ¬ wr.heap.size = sb := by omega
                have e7 : ¬ sb = wr.heap.size + 1 := by omega
                have e8 : ¬ wr.heap.size + 1 = sb := by omega
                have e9 : ¬ w.heap.size = wr.heap.size := by omega
                have e10 : ¬ wr.heap.size = w.heap.size := by omega
                have e11 : ¬ w.heap.size = wr.heap.size + 1 := by omega
                have e12 : ¬ wr.heap.size + 1 = w.heap.size := by omega
                have hnow : decide ((k : Int) < cn) = true := by simpa using hlt
                go_upto_region 18 with (fail)
                go_cut [13, 14] from 94 to 114 (fun s13 s14 wr' => ∃ bz, s13 = .pointer (some ⟨bz, 0, none⟩) ∧ s14 = .int .i64 0 ∧ wr.heap.size ≤ bz ∧ Hid (BoxAt S0 bz (pileF D l (k + 1)) wr') ∧ Below wr.heap.size wr wr')
                case first =>
                  go_region_held3 (fun w' => w'.cell? ⟨byy, 0, none⟩ = some (.slice ax an ac) ∧ w'.cell? ⟨byy, 1, none⟩ = some (.slice qx qn qc) ∧ w'.cell? ⟨byy, 2, none⟩ = some (.int .i64 (pileF D l k).left) ∧ w'.cell? ⟨byy, 3, none⟩ = some (.bool (pileF D l k).stopped) ∧ w'.cell? ⟨w.heap.size, 0, none⟩ = some (.slice sa sn sc) ∧ w'.cell? ⟨sb, so + k * 3 + 1, none⟩ = some (.int .u8 x.at_.toNat) ∧ w'.cell? ⟨sb, so + k * 3 + 2, none⟩ = some (.int .u8 x.byte.toNat)) (first | exact ⟨d0, d1, d2, d3, c0, a1, a2⟩ | go_keep)
                    (first
                      | (go_at_call 19; (with_reducible refine (write_any (fun b => S0 b ∧ b ≠ wr.heap.size + 1) _ ax an ac qx qn qc _ 1 1 (pileF D l k) z [x.byte] HZ0.out HDX1.out HSB1.out).mono ?_); rw [HW.out]; rintro e w6 ⟨za, zn, zc, ya, yn, yc, rfl, hdz, hb6⟩; have b6 : Below wr.heap.size wr w6 := Below.trans (by (repeat (first | (with_reducible assumption) | exact Below.refl _ _ | refine Below.setCell ?_ (by first | (simp; done) | (simp; omega) | omega) _ | refine Below.alloc ?_ (by first | (simp; done) | (simp; omega) | omega) _ | refine Below.drew ?_ | refine below_drewN ?_ _))) (hb6.mono (by first | (simp; done) | (simp; omega) | omega)); have HDZ := Lib.hid (show DiskAt (fun b => S0 b ∧ b ≠ wr.heap.size + 1) w6 za zn zc ya yn yc (pileF D l (k + 1)) from hdz.mono (S' := (fun b => S0 b ∧ b ≠ wr.heap.size + 1)) (w' := w6) fun b hb _ => ⟨hb.elim id fun h => ⟨(by rw [HS0.out]; simp at h; exact ⟨by omega, by omega⟩), (by simp at h; omega)⟩, rfl⟩); have hzb6 : wr.heap.size + 1 < w6.heap.size := (by have := hb6.size; simp at this; omega); have HZB := Lib.hid (show w6.heap[wr.heap.size + 1]? = some (.cells #[.slice none 0 0, .slice none 0 0, .int .i64 0, .bool false] 25 (0, 0)) from (hb6.block (wr.heap.size + 1) (by first | (simp; done) | (simp; omega) | omega)).trans (heap_alloc_at (wr.alloc _) _ _ (by simp))); obtain ⟨z0, z1, z2, z3, zf⟩ := box4 HZB.out; have b21 := (b6.cell (p := ⟨sb, so + k * 3 + 1, none⟩) (by show sb < _; omega)).trans a1; have b22 := (b6.cell (p := ⟨sb, so + k * 3 + 2, none⟩) (by show sb < _; omega)).trans a2; have b20 := (b6.cell (p := ⟨w.heap.size, 0, none⟩) (by show w.heap.size < _; omega)).trans c0; clear a0 a1 a2 c0 c1 c2 c3 cf d0 d1 d2 d3 df hdz hb6; obtain ⟨d0, d1, d2, d3, df⟩ := box4 ((b6.block byy hbyl).trans HBOX.out))
                      | (go_at_call 19; (with_reducible refine (write_any (fun b => S0 b ∧ b ≠ wr.heap.size) _ ax an ac qx qn qc _ 1 1 (pileF D l k) z [x.byte] HZ0.out HDX2.out HSB2.out).mono ?_); rw [HW.out]; rintro e w6 ⟨za, zn, zc, ya, yn, yc, rfl, hdz, hb6⟩; have b6 : Below wr.heap.size wr w6 := Below.trans (by (repeat (first | (with_reducible assumption) | exact Below.refl _ _ | refine Below.setCell ?_ (by first | (simp; done) | (simp; omega) | omega) _ | refine Below.alloc ?_ (by first | (simp; done) | (simp; omega) | omega) _ | refine Below.drew ?_ | refine below_drewN ?_ _))) (hb6.mono (by first | (simp; done) | (simp; omega) | omega)); have HDZ := Lib.hid (show DiskAt (fun b => S0 b ∧ b ≠ wr.heap.size) w6 za zn zc ya yn yc (pileF D l (k + 1)) from hdz.mono (S' := (fun b => S0 b ∧ b ≠ wr.heap.size)) (w' := w6) fun b hb _ => ⟨hb.elim id fun h => ⟨(by rw [HS0.out]; simp at h; exact ⟨by omega, by omega⟩), (by simp at h; omega)⟩, rfl⟩); have hzb6 : wr.heap.size < w6.heap.size := (by have := hb6.size; simp at this; omega); have HZB := Lib.hid (show w6.heap[wr.heap.size]? = some (.cells #[.slice none 0 0, .slice none 0 0, .int .i64 0, .bool false] 25 (0, 0)) from (hb6.block (wr.heap.size) (by first | (simp; done) | (simp; omega) | omega)).trans ((Below.heap_alloc (wr.alloc _) _ wr.heap.size (by simp)).trans (heap_alloc_at wr _ _ rfl))); obtain ⟨z0, z1, z2, z3, zf⟩ := box4 HZB.out; have b21 := (b6.cell (p := ⟨sb, so + k * 3 + 1, none⟩) (by show sb < _; omega)).trans a1; have b22 := (b6.cell (p := ⟨sb, so + k * 3 + 2, none⟩) (by show sb < _; omega)).trans a2; have b20 := (b6.cell (p := ⟨w.heap.size, 0, none⟩) (by show w.heap.size < _; omega)).trans c0; clear a0 a1 a2 c0 c1 c2 c3 cf d0 d1 d2 d3 df hdz hb6; obtain ⟨d0, d1, d2, d3, df⟩ := box4 ((b6.block byy hbyl).trans HBOX.out))
                      | (go_at_call 19; (with_reducible refine (write_any S0 _ ax an ac qx qn qc _ 1 1 (pileF D l k) z [x.byte] HZ0.out HDX0.out HSB0.out).mono ?_); rw [HW.out]; rintro e w6 ⟨za, zn, zc, ya, yn, yc, rfl, hdz, hb6⟩; have b6 : Below wr.heap.size wr w6 := Below.trans (by (repeat (first | (with_reducible assumption) | exact Below.refl _ _ | refine Below.setCell ?_ (by first | (simp; done) | (simp; omega) | omega) _ | refine Below.alloc ?_ (by first | (simp; done) | (simp; omega) | omega) _ | refine Below.drew ?_ | refine below_drewN ?_ _))) (hb6.mono (by first | (simp; done) | (simp; omega) | omega)); have HDZ := Lib.hid (show DiskAt S0 w6 za zn zc ya yn yc (pileF D l (k + 1)) from hdz.mono (S' := S0) (w' := w6) fun b hb _ => ⟨hb.elim id fun h => (by rw [HS0.out]; simp at h; exact ⟨by omega, by omega⟩), rfl⟩); have b21 := (b6.cell (p := ⟨sb, so + k * 3 + 1, none⟩) (by show sb < _; omega)).trans a1; have b22 := (b6.cell (p := ⟨sb, so + k * 3 + 2, none⟩) (by show sb < _; omega)).trans a2; have b20 := (b6.cell (p := ⟨w.heap.size, 0, none⟩) (by show w.heap.size < _; omega)).trans c0; clear a0 a1 a2 c0 c1 c2 c3 cf d0 d1 d2 d3 df hdz hb6; obtain ⟨d0, d1, d2, d3, df⟩ := box4 ((b6.block byy hbyl).trans HBOX.out)))
                  all_goals (go_wp2_with fail; go_meet)
                  · exact ⟨_, rfl, rfl, b6.size, ⟨za, zn, zc, ya, yn, yc, heap_alloc_at w6 _ _ rfl, HDZ.out.below (by (repeat (first | (with_reducible assumption) | exact Below.refl _ _ | refine Below.setCell ?_ (by first | (simp; done) | (simp; omega) | omega) _ | refine Below.alloc ?_ (by first | (simp; done) | (simp; omega) | omega) _ | refine Below.drew ?_ | refine below_drewN ?_ _)))⟩, Below.trans b6 ((Below.alloc (Below.refl wr.heap.size w6) b6.size _).trans (by (repeat (first | (with_reducible assumption) | exact Below.refl _ _ | refine Below.setCell ?_ (by first | (simp; done) | (simp; omega) | omega) _ | refine Below.alloc ?_ (by first | (simp; done) | (simp; omega) | omega) _ | refine Below.drew ?_ | refine below_drewN ?_ _))))⟩
                  · exact ⟨_, rfl, rfl, Nat.le_succ _, ⟨za, zn, zc, ya, yn, yc, (set4 HZB.out).1, HDZ.out.mono fun b hb _ => ⟨hb.1, (set4 HZB.out).2 b hb.2⟩⟩, Below.trans b6 (by (repeat (first | (with_reducible assumption) | exact Below.refl _ _ | refine Below.setCell ?_ (by first | (simp; done) | (simp; omega) | omega) _ | refine Below.alloc ?_ (by first | (simp; done) | (simp; omega) | omega) _ | refine Below.drew ?_ | refine below_drewN ?_ _)))⟩
                  · exact ⟨_, rfl, rfl, Nat.le_refl _, ⟨za, zn, zc, ya, yn, yc, (set4 HZB.out).1, HDZ.out.mono fun b hb _ => ⟨hb.1, (set4 HZB.out).2 b hb.2⟩⟩, Below.trans b6 (by (repeat (first | (with_reducible assumption) | exact Below.refl _ _ | refine Below.setCell ?_ (by first | (simp; done) | (simp; omega) | omega) _ | refine Below.alloc ?_ (by first | (simp; done) | (simp; omega) | omega) _ | refine Below.drew ?_ | refine below_drewN ?_ _)))⟩
                case rest =>
                  obtain ⟨bz, rfl, rfl, hbz, HZB, hb6⟩ := hcut
                  have hs6 := hb6.size
                  have HX6 := Lib.hid (HX.out.below hb6)
                  have HB6 := Lib.hid ((hb6.block w.heap.size (by omega)).trans HB.out)
                  have K6 := Lib.hid (KR.out.trans (hb6.mono (by omega)))
                  have HGB := Lib.hid ((hb6.block byy (by omega)).trans HBOX.out)
                  have hzb1 : bz < wc.heap.size := HZB.out.lt
                  have hby6 : byy < wc.heap.size := by omega
                  obtain ⟨za, zn, zc, ya, yn, yc, hzbox, hzd⟩ := HZB.out
                  have HZD := Lib.hid hzd
                  obtain ⟨z0, z1, z2, z3, zf⟩ := box4 hzbox
                  clear hzd hzbox hb6 HX HY HB KR c0 c1 c2 c3 cf d0 d1 d2 d3 df a0 a1 a2 HSB0 HSB1 HSB2 HDX0 HDX1 HDX2 HDX HBOX
                  obtain ⟨d0, d1, d2, d3, df⟩ := box4 HGB.out
                  go_wp2_with fail
                  refine ⟨⟨k + 1, by omega, by go_num, ?_, ?_, ?_, ?_⟩, by simp [intOf]; omega⟩
                  · exact HX6.out.keep ((set4 HGB.out).2 bx hne) fun b hb _ => (set4 HGB.out).2 b (by rw [HS0.out] at hb; exact hb.2)
                  · exact ⟨za, zn, zc, ya, yn, yc, (set4 HGB.out).1, HZD.out.mono fun b hb _ => ⟨hb, (set4 HGB.out).2 b (by rw [HS0.out] at hb; exact hb.2)⟩⟩
                  · exact ((set4 HGB.out).2 w.heap.size (by omega)).trans HB6.out
                  · exact K6.out.trans (by (repeat (first | (with_reducible assumption) | exact Below.refl _ _ | refine Below.setCell ?_ (by first | (simp; done) | (simp; omega) | omega) _ | refine Below.alloc ?_ (by first | (simp; done) | (simp; omega) | omega) _ | refine Below.drew ?_ | refine below_drewN ?_ _)))
              · have hkn : k = l.length := by have := hlc.out; omega
                have hnow : decide ((k : Int) < cn) = false := by simp; omega
                obtain ⟨za, zn, zc, ya, yn, yc, hzbox, hzd⟩ := HY.out
                have HZD := Lib.hid hzd
                have HZX := Lib.hid hzbox
                have hend : syncF (pileF D l k) = (X, c) := by rw [hkn]; exact HE.out
                have HEND := Lib.hid hend
                obtain ⟨z0, z1, z2, z3, zf⟩ := box4 hzbox
                clear hzd hzbox hend hkn
                go_wp2_with fail
                refine (sync_any S0 _ za zn zc ya yn yc (pileF D l k) HZD.out).mono ?_
                rw [HEND.out]
                rintro e w7 ⟨ra, rn, rc, ta, tn, tc, rfl, hdr, hb7⟩
                have hs7 := hb7.size
                have HDR := Lib.hid (show DiskAt S0 w7 ra rn rc ta tn tc X from hdr.mono (S' := S0) (w' := w7) fun b hb _ => ⟨hb.elim id fun h => (by rw [HS0.out]; exact ⟨by omega, by omega⟩), rfl⟩)
                have HX7 := Lib.hid (HX.out.below hb7)
                have HGB := Lib.hid ((hb7.block byy (by omega)).trans HZX.out)
                have K7 := Lib.hid (KR.out.trans (hb7.mono (by omega)))
                have hby7 : byy < w7.heap.size := by omega
                clear hdr hb7 z0 z1 z2 z3 zf
                obtain ⟨d0, d1, d2, d3, df⟩ := box4 HGB.out
                have hcc : (c == c) = true := by simp
                go_upto_region 23 with (fail)
                obtain ⟨W8, hW8⟩ : ∃ W, W = (((w7.setCell ⟨byy, 0, none⟩ (.slice ra rn rc)).setCell ⟨byy, 1, none⟩ (.slice ta tn tc)).setCell ⟨byy, 2, none⟩ (.int .i64 X.left)).setCell ⟨byy, 3, none⟩ (.bool X.stopped) := ⟨_, rfl⟩
                rw [← hW8]
                have HY8 := Lib.hid (show W8.heap[byy]? = some (.cells #[.slice ra rn rc, .slice ta tn tc, .int .i64 X.left, .bool X.stopped] 25 (0, 0)) by rw [hW8]; exact (set4 HGB.out).1)
                have hk8 : ∀ b, b ≠ byy → W8.heap[b]? = w7.heap[b]? := fun b hb => by rw [hW8]; exact (set4 HGB.out).2 b hb
                have HDR8 := Lib.hid (HDR.out.mono (S' := S0) (w' := W8) fun b hb _ => ⟨hb, hk8 b (by rw [HS0.out] at hb; exact hb.2)⟩)
                have HX8 := Lib.hid (HX7.out.keep (w' := W8) (hk8 bx hne) fun b hb _ => hk8 b (by rw [HS0.out] at hb; exact hb.2))
                have K8 := Lib.hid (K7.out.trans (show Below w.heap.size w7 W8 by rw [hW8]; (repeat (first | (with_reducible assumption) | exact Below.refl _ _ | refine Below.setCell ?_ (by first | (simp; done) | (simp; omega) | omega) _ | refine Below.alloc ?_ (by first | (simp; done) | (simp; omega) | omega) _ | refine Below.drew ?_ | refine below_drewN ?_ _))))
                obtain ⟨fa, fn, fc, ga, gn, gc, hfb, hfd⟩ := HX8.out
                have HFD := Lib.hid hfd
                clear hW8 hk8 d0 d1 d2 d3 df hfd
                obtain ⟨y0, y1, y2, y3, yf⟩ := box4 HY8.out
                obtain ⟨x0, x1, x2, x3, xf⟩ := box4 hfb
                clear hfb
                have hs8 := K8.out.size
                go_wp2_with fail
                refine (same_true S0 S0 _ fa fn fc ga gn gc ra rn rc ta tn tc X HFD.out HDR8.out).mono ?_
                rintro e w9 ⟨rfl, hb9⟩
                go_wp2_with fail
                go_ret
                exact ⟨rfl, K8.out.trans (hb9.mono (by omega))⟩

end Go.Proofs.Ytckcdokfhdckhaa
