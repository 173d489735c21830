/- The walk of sane. -/
import Derived.Test.YtckcdokfhdckhaaRows
import Derived.Test.YtckcdokfhdckhaaCkT
import Derived.Test.YtckcdokfhdckhaaCkG
import Derived.Test.YtckcdokfhdckhaaDisk1
import Derived.Test.YtckcdokfhdckhaaDisk2
import Derived.WalkKit
import Derived.WalkLawsBesides
import Derived.WalkSpells
import Derived.Outline
import Derived.Lib.Hide
import Derived.Deep.OwnRows
import Derived.Deep.RegionHeld3
import Derived.Deep.DeepCutAuto
namespace Go.Proofs.Ytckcdokfhdckhaa
open Go.RowKit Go.Kx

abbrev Any : Nat → Prop := fun _ => True

def dN : Disk := (newF 2).1
def dW : Disk := (writeF dN 1 [7]).1
def dS : Disk := (stopF dW 1).1
def b8 : Bytes := doubleB 8
def dV : Disk := (writeF dS 0 b8).1
def dY : Disk := (syncF dV).1
def dR : Disk := restartF dY
def dL : Disk := restartF dW
def z129 : Bytes := List.replicate 129 0
def rB : Bytes := (readF dW 1).1
def rOne : Bytes := (readF dR 1).1
def rNone : Bytes := (readF dR 0).1
def rLost : Bytes := (readF dL 1).1
theorem eN : newF 2 = (dN, 0) := by kernel_rfl
theorem eW : writeF dN 1 [7] = (dW, 0) := by kernel_rfl
theorem eR1 : readF dW 1 = (rB, 0) := by kernel_rfl
theorem eR2 : (readF dN 2).2 = 40 := by kernel_rfl
theorem eW2 : (writeF dN 0 z129).2 = 1 := by kernel_rfl
theorem eS : stopF dW 1 = (dS, 0) := by kernel_rfl
theorem eV : writeF dS 0 b8 = (dV, 0) := by kernel_rfl
theorem eY : syncF dV = (dY, 40) := by kernel_rfl
theorem eYs : dY.stopped = true := by kernel_rfl
theorem eOne : readF dR 1 = (rOne, 0) := by kernel_rfl
theorem eNone : readF dR 0 = (rNone, 0) := by kernel_rfl
theorem eLost : readF dL 1 = (rLost, 0) := by kernel_rfl
theorem lB : rB.length = 128 ∧ rB[0]? = some 7 := by constructor <;> kernel_rfl
theorem lOne : rOne.length = 128 ∧ rOne[0]? = some 7 := by constructor <;> kernel_rfl
theorem lNone : rNone.length = 128 ∧ rNone[0]? = some 8 ∧ rNone[64]? = some 0 := by refine ⟨?_, ?_, ?_⟩ <;> kernel_rfl
theorem lLost : rLost.length = 128 ∧ rLost[0]? = some 0 := by constructor <;> kernel_rfl

def zeros129 : Array Value := madeCells #[.int .u8 0] 129
theorem zeros129_sl {S : Nat → Prop} {w : World} {g : Nat} {t : TypeId} (h : w.heap[g]? = some (.cells zeros129 t (0, 0))) (hS : S g) : Sl eByte S w (some ⟨g, 0, none⟩) 129 129 z129 := by
  have e : zeros129 = ((List.replicate 129 (0 : UInt8)).map byteV).toArray := by unfold zeros129; rw [madeCells_rep, rep_map]
  rw [e] at h
  have h2 := Sl.of_heap (S := S) h hS (by rw [List.length_replicate]; decide)
  rw [List.length_replicate] at h2
  exact h2

def AtBox (g : Nat) (D : Disk) (w : World) : Prop :=
  ∃ sa sn sc pa pn pc, w.heap[g]? = some (.cells #[.slice sa sn sc, .slice pa pn pc, .int .i64 D.left, .bool D.stopped] 25 (0, 0)) ∧ DiskAt Any w sa sn sc pa pn pc D

theorem at_byte {S : Nat → Prop} {w : World} {oa : Option Addr} {n c : Nat} {l : Bytes} (h : Sl eByte S w oa n c l) (i : Nat) (v : UInt8) (hv : l[i]? = some v) :
    ∃ b off, oa = some ⟨b, off, none⟩ ∧ b < w.heap.size ∧ w.cell? ⟨b, off + i, none⟩ = some (.int .u8 v.toNat) := by
  obtain ⟨hi, he⟩ := List.getElem?_eq_some_iff.1 hv
  obtain ⟨b, off, cs, h1, _, h3, _, h5, h6⟩ := h.elem i hi
  refine ⟨b, off, h1, h3, ?_⟩
  have e := h5 0 (by decide)
  have h6' : cs = [.int .u8 l[i].toNat] := h6
  rw [h6', he] at e
  simpa [eByte] using e

set_option maxRecDepth 100000 in
set_option maxHeartbeats 4000000 in
theorem sane_any (w : World) : Calls Try.prog 10 #[] w fun e w' => e = .returned (.bool true) ∧ Below w.heap.size w w' := by
  have q1 : (newF 0).2 = 1 := by kernel_rfl
  go_enter Try.func10, Try.ntmps10
  go_wp2_with fail
  refine (new_any Any _ 0).mono ?_
  rintro e w1 ⟨sa1, sn1, sc1, pa1, pn1, pc1, rfl, hD1, hb1⟩
  clear hD1
  go_wp2_with fail
  refine (new_any Any _ 2).mono ?_
  rw [eN]
  rintro e w2 ⟨sa2, sn2, sc2, pa2, pn2, pc2, rfl, hD2, hb2⟩
  have K2 := Lib.hid (show Below w.heap.size w w2 from hb1.trans (Below.trans (by have := hb1.size; (repeat (first | (with_reducible assumption) | exact Below.refl _ _ | refine Below.setCell ?_ (by first | (simp; done) | (simp; omega) | omega) _ | refine Below.alloc ?_ (by first | (simp; done) | (simp; omega) | omega) _ | refine Below.drew ?_ | refine below_drewN ?_ _))) (hb2.mono (by have := hb1.size; simp; omega))))
  have HD2 := Lib.hid hD2
  clear hD2
  go_wp2_with fail
  refine (write_any Any _ sa2 sn2 sc2 pa2 pn2 pc2 (some ⟨w2.heap.size + 1, 0, none⟩) 1 1 dN 1 [7] (by decide) (HD2.out.mono fun b _ hlt => ⟨trivial, Below.block (B := w2.heap.size) (by (repeat (first | (with_reducible assumption) | exact Below.refl _ _ | refine Below.setCell ?_ (by first | (simp; done) | (simp; omega) | omega) _ | refine Below.alloc ?_ (by first | (simp; done) | (simp; omega) | omega) _ | refine Below.drew ?_ | refine below_drewN ?_ _))) b hlt⟩) (Sl.of_heap (l := [7]) (t := 5) (heap_alloc_at _ _ _ (by simp)) trivial (by decide))).mono ?_
  rw [eW]
  rintro e w3 ⟨sa3, sn3, sc3, pa3, pn3, pc3, rfl, hD3, hb3⟩
  have hw3 : Below w2.heap.size w2 w3 := Below.trans (by (repeat (first | (with_reducible assumption) | exact Below.refl _ _ | refine Below.setCell ?_ (by first | (simp; done) | (simp; omega) | omega) _ | refine Below.alloc ?_ (by first | (simp; done) | (simp; omega) | omega) _ | refine Below.drew ?_ | refine below_drewN ?_ _))) (hb3.mono (by simp; omega))
  have HB2 := Lib.hid (show w3.heap[w2.heap.size]? = some (.cells #[.slice sa2 sn2 sc2, .slice pa2 pn2 pc2, .int .i64 dN.left, .bool dN.stopped] 25 (0, 0)) from (hb3.block w2.heap.size (by first | (simp; done) | (simp; omega) | omega)).trans ((Below.heap_alloc _ _ _ (by simp)).trans (heap_alloc_at _ _ _ rfl)))
  have hz2 : w2.heap.size < w3.heap.size := (Array.getElem?_eq_some_iff.1 HB2.out).1
  have HD2a := Lib.hid (HD2.out.mono (S' := Any) fun b _ hlt => ⟨trivial, hw3.block b hlt⟩)
  have HD3 := Lib.hid (hD3.mono (S' := Any) (w' := w3) fun b _ _ => ⟨trivial, rfl⟩)
  clear hD3 HD2 hb3
  obtain ⟨c20, c21, c22, c23, c2f⟩ := box4 HB2.out
  go_wp2_with fail
  -- Read(w, 1)
  refine (read_any Any _ sa3 sn3 sc3 pa3 pn3 pc3 dW 1 (HD3.out.mono fun b _ hlt => ⟨trivial, Below.block (B := w3.heap.size) (by (repeat (first | (with_reducible assumption) | exact Below.refl _ _ | refine Below.setCell ?_ (by first | (simp; done) | (simp; omega) | omega) _ | refine Below.alloc ?_ (by first | (simp; done) | (simp; omega) | omega) _ | refine Below.drew ?_ | refine below_drewN ?_ _))) b hlt⟩)).mono ?_
  rw [eR1]
  rintro e w4 ⟨ab4, nb4, cb4, rfl, hs4, hb4⟩
  have hw4 : Below w3.heap.size w3 w4 := Below.trans (by (repeat (first | (with_reducible assumption) | exact Below.refl _ _ | refine Below.setCell ?_ (by first | (simp; done) | (simp; omega) | omega) _ | refine Below.alloc ?_ (by first | (simp; done) | (simp; omega) | omega) _ | refine Below.drew ?_ | refine below_drewN ?_ _))) (hb4.mono (by simp))
  have HB3 := Lib.hid (show w4.heap[w3.heap.size]? = some (.cells #[.slice sa3 sn3 sc3, .slice pa3 pn3 pc3, .int .i64 dW.left, .bool dW.stopped] 25 (0, 0)) from (hb4.block w3.heap.size (by first | (simp; done) | (simp; omega) | omega)).trans (heap_alloc_at _ _ _ rfl))
  have HB2a := Lib.hid ((hw4.block w2.heap.size hz2).trans HB2.out)
  have hz3 : w3.heap.size < w4.heap.size := (Array.getElem?_eq_some_iff.1 HB3.out).1
  have HD2b := Lib.hid (HD2a.out.below hw4)
  have HD3a := Lib.hid (HD3.out.below hw4)
  have HS4 := Lib.hid (hs4.mono (S' := Any) (w' := w4) fun b _ _ => ⟨trivial, rfl⟩)
  clear hs4 hb4 HB2 HD2a HD3 c20 c21 c22 c23 c2f
  obtain ⟨c20, c21, c22, c23, c2f⟩ := box4 HB2a.out
  obtain ⟨c30, c31, c32, c33, c3f⟩ := box4 HB3.out
  go_wp2_with fail
  -- Read(d, 2)
  refine (read_any Any _ sa2 sn2 sc2 pa2 pn2 pc2 dN 2 HD2b.out).mono ?_
  have eR2' := eR2
  rintro e w5 ⟨ab5, nb5, cb5, rfl, _, hb5⟩
  have hz5 : w4.heap.size ≤ w5.heap.size := hb5.size
  have HB3a := Lib.hid ((hb5.block w3.heap.size hz3).trans HB3.out)
  have HB2b := Lib.hid ((hb5.block w2.heap.size (by omega)).trans HB2a.out)
  have HD2c := Lib.hid (HD2b.out.below hb5)
  have HD3b := Lib.hid (HD3a.out.below hb5)
  have HS4a := Lib.hid (HS4.out.below hb5)
  clear HB3 HB2a HD2b HD3a HS4 c20 c21 c22 c23 c2f c30 c31 c32 c33 c3f
  obtain ⟨c20, c21, c22, c23, c2f⟩ := box4 HB2b.out
  obtain ⟨c30, c31, c32, c33, c3f⟩ := box4 HB3a.out
  have hy2 : w2.heap.size < w5.heap.size := by omega
  have hy3 : w3.heap.size < w5.heap.size := by omega
  have q6 := eW2
  have hmk : ∀ w, (Instr.makeSlice 35 (.int .i64 129) (.int .i64 129)).run Try.prog w = .ok (.slice (some ⟨w.heap.size, 0, none⟩) 129 129) (w.alloc (.cells zeros129 5)) := fun w => run_make_row' (P := Try.prog) 35 5 (.int .u8 0) 1 Try.underlying35 cloneY_info rfl .i64 .i64 129 (by decide) (by decide) w
  go_upto_region 6 with (fail)
  go_cut [12] from 11 to 53 (fun s12 wc => s12 = .int .i64 1 ∧ Below w5.heap.size w5 wc)
  case first =>
    go_region_with (first | (go_at_call 19; refine (write_any Any _ sa2 sn2 sc2 pa2 pn2 pc2 _ 129 129 dN 0 z129 (by decide) (HD2c.out.mono fun b _ hlt => ⟨trivial, Below.block (B := w5.heap.size) (by (repeat (first | (with_reducible assumption) | exact Below.refl _ _ | refine Below.setCell ?_ (by first | (simp; done) | (simp; omega) | omega) _ | refine Below.alloc ?_ (by first | (simp; done) | (simp; omega) | omega) _ | refine Below.drew ?_ | refine below_drewN ?_ _))) b hlt⟩) (by first | exact zeros129_sl (heap_alloc_at _ _ _ rfl) trivial | exact zeros129_sl (heap_alloc_at _ _ _ (by simp)) trivial | exact zeros129_sl ((Below.heap_alloc _ _ _ (by simp)).trans (heap_alloc_at _ _ _ rfl)) trivial)).mono ?_; rintro e w6 ⟨sa6, sn6, sc6, pa6, pn6, pc6, rfl, _, hb6⟩; have hw6 : Below w5.heap.size w5 w6 := Below.trans (by (repeat (first | (with_reducible assumption) | exact Below.refl _ _ | refine Below.setCell ?_ (by first | (simp; done) | (simp; omega) | omega) _ | refine Below.alloc ?_ (by first | (simp; done) | (simp; omega) | omega) _ | refine Below.drew ?_ | refine below_drewN ?_ _))) (hb6.mono (by first | (simp; done) | (simp; omega) | omega)); (try obtain ⟨x0, x1, x2, x3, xf⟩ := box4 ((hb6.block (w5.heap.size + 1) (by first | (simp; done) | (simp; omega) | omega)).trans (heap_alloc_at _ _ _ (by simp)))); (try obtain ⟨x0, x1, x2, x3, xf⟩ := box4 ((hb6.block w5.heap.size (by first | (simp; done) | (simp; omega) | omega)).trans ((Below.heap_alloc _ _ _ (by simp)).trans (heap_alloc_at _ _ _ rfl)))); clear c20 c21 c22 c23; obtain ⟨c20, c21, c22, c23, _⟩ := box4 ((hw6.block w2.heap.size (by omega)).trans HB2b.out)))
    all_goals (have hz6 : w5.heap.size ≤ w6.heap.size := hw6.size; go_wp2_with fail; go_meet; refine ⟨rfl, ?_⟩; first | exact Below.trans hw6 (by (repeat (first | (with_reducible assumption) | exact Below.refl _ _ | refine Below.setCell ?_ (by first | (simp; done) | (simp; omega) | omega) _ | refine Below.alloc ?_ (by first | (simp; done) | (simp; omega) | omega) _ | refine Below.drew ?_ | refine below_drewN ?_ _))) | exact Below.trans hw6 (Below.trans (by (repeat (first | (with_reducible assumption) | exact Below.refl _ _ | refine Below.setCell ?_ (by first | (simp; done) | (simp; omega) | omega) _ | refine Below.alloc ?_ (by first | (simp; done) | (simp; omega) | omega) _ | refine Below.drew ?_ | refine below_drewN ?_ _))) (by (repeat (first | (with_reducible assumption) | exact Below.refl _ _ | refine Below.setCell ?_ (by first | (simp; done) | (simp; omega) | omega) _ | refine Below.alloc ?_ (by first | (simp; done) | (simp; omega) | omega) _ | refine Below.drew ?_ | refine below_drewN ?_ _)))))
  case rest =>
    obtain ⟨rfl, hb6⟩ := hcut
    clear hmk
    have hz6 : w5.heap.size ≤ wc.heap.size := hb6.size
    have K6 := Lib.hid ((((K2.out.trans (hw3.mono (by have := K2.out.size; omega))).trans (hw4.mono (by have := K2.out.size; have := hw3.size; omega))).trans (hb5.mono (by have := K2.out.size; have := hw3.size; have := hw4.size; omega))).trans (hb6.mono (by have := K2.out.size; have := hw3.size; have := hw4.size; omega)))
    have HB3b := Lib.hid ((hb6.block w3.heap.size (by omega)).trans HB3a.out)
    have HB2c := Lib.hid ((hb6.block w2.heap.size (by omega)).trans HB2b.out)
    have HD2d := Lib.hid (HD2c.out.below hb6)
    have HD3c := Lib.hid (HD3b.out.below hb6)
    have HS4b := Lib.hid (HS4a.out.below hb6)
    have hy2b : w2.heap.size < wc.heap.size := by omega
    have hy3b : w3.heap.size < wc.heap.size := by omega
    clear HB3a HB2b HD2c HD3b HS4a c20 c21 c22 c23 c2f c30 c31 c32 c33 c3f hy2 hy3
    obtain ⟨c20, c21, c22, c23, c2f⟩ := box4 HB2c.out
    obtain ⟨c30, c31, c32, c33, c3f⟩ := box4 HB3b.out
    go_wp2_with fail
    -- Stop(w, 1)
    refine (stop_any Any _ sa3 sn3 sc3 pa3 pn3 pc3 dW 1 (by decide) HD3c.out).mono ?_
    rw [eS]
    rintro e w7 ⟨sa7, sn7, sc7, pa7, pn7, pc7, rfl, hD7, hb7⟩
    have hz7 : wc.heap.size ≤ w7.heap.size := hb7.size
    have K7 := Lib.hid (K6.out.trans (hb7.mono (by have := K6.out.size; omega)))
    have HB3c := Lib.hid ((hb7.block w3.heap.size (by omega)).trans HB3b.out)
    have HD3d := Lib.hid (HD3c.out.below hb7)
    have HS4c := Lib.hid (HS4b.out.below hb7)
    have HD7 := Lib.hid (hD7.mono (S' := fun b => b ≠ w7.heap.size) (w' := w7) fun b _ hlt => ⟨Nat.ne_of_lt hlt, rfl⟩)
    have hy3c : w3.heap.size < w7.heap.size := by omega
    clear hD7 HB3b HB2c HD2d HD3c HS4b c20 c21 c22 c23 c2f c30 c31 c32 c33 c3f hy2b hy3b
    obtain ⟨c30, c31, c32, c33, c3f⟩ := box4 HB3c.out
    go_upto_region 8 with (fail)
    obtain ⟨W8, hW8⟩ : ∃ W, W = w7.alloc (.cells #[.slice sa7 sn7 sc7, .slice pa7 pn7 pc7, .int .i64 dS.left, .bool dS.stopped] 25) := ⟨_, rfl⟩
    rw [← hW8]
    have hb8 : Below w7.heap.size w7 W8 := by rw [hW8]; (repeat (first | (with_reducible assumption) | exact Below.refl _ _ | refine Below.setCell ?_ (by first | (simp; done) | (simp; omega) | omega) _ | refine Below.alloc ?_ (by first | (simp; done) | (simp; omega) | omega) _ | refine Below.drew ?_ | refine below_drewN ?_ _))
    have hz8 : w7.heap.size < W8.heap.size := by rw [hW8]; simp
    have HBS := Lib.hid (show W8.heap[w7.heap.size]? = some (.cells #[.slice sa7 sn7 sc7, .slice pa7 pn7 pc7, .int .i64 dS.left, .bool dS.stopped] 25 (0, 0)) by rw [hW8]; exact heap_alloc_at _ _ _ rfl)
    have HD7a := Lib.hid (HD7.out.below hb8)
    have HB3d := Lib.hid ((hb8.block w3.heap.size (by omega)).trans HB3c.out)
    have HD3e := Lib.hid (HD3d.out.below hb8)
    have HS4d := Lib.hid (HS4c.out.below hb8)
    have hy3d : w3.heap.size < W8.heap.size := by omega
    clear hW8 HD7 c30 c31 c32 c33 c3f
    obtain ⟨c30, c31, c32, c33, c3f⟩ := box4 HBS.out
    go_cut [15] from 59 to 64 (fun s15 wd => s15 = .int .i64 0 ∧ AtBox w7.heap.size dV wd ∧ Below w7.heap.size W8 wd)
    case first =>
      go_region_with (first
        | (go_at_call 27; (first | (refine (double_any (fun b => b ≠ w7.heap.size) _ 8).mono ?_) | skip); (first | (rintro e w9 ⟨a9, n9, k9, rfl, hs9, hb9r⟩) | skip); (first | (have hb9 : Below W8.heap.size W8 w9 := Below.trans (by (repeat (first | (with_reducible assumption) | exact Below.refl _ _ | refine Below.setCell ?_ (by first | (simp; done) | (simp; omega) | omega) _ | refine Below.alloc ?_ (by first | (simp; done) | (simp; omega) | omega) _ | refine Below.drew ?_ | refine below_drewN ?_ _))) (hb9r.mono (by first | (simp; done) | (simp; omega) | omega))) | skip); (first | (have hz9 : W8.heap.size ≤ w9.heap.size := hb9.size) | skip); (first | (have HBT := Lib.hid ((hb9.block w7.heap.size hz8).trans HBS.out)) | skip); (first | (have HD9 := Lib.hid (HD7a.out.below hb9)) | skip); (first | (have HS9 := Lib.hid (hs9.mono (S' := fun b => b ≠ w7.heap.size) (w' := w9) fun b hb _ => ⟨hb.elim id (fun h => Nat.ne_of_gt (Nat.lt_of_lt_of_le hz8 h)), rfl⟩)) | skip); (first | (have hy9 : w7.heap.size < w9.heap.size := by omega) | skip); (first | ((try clear c30 c31 c32 c33)) | skip); (first | (obtain ⟨c30, c31, c32, c33, c3f⟩ := box4 HBT.out) | skip))
        | (go_at_call 19; (first | (refine (write_any (fun b => b ≠ w7.heap.size) _ sa7 sn7 sc7 pa7 pn7 pc7 a9 n9 k9 dS 0 b8 (by decide) HD9.out HS9.out).mono ?_) | skip); (first | (rw [eV]) | skip); (first | (rintro e w10 ⟨sa10, sn10, sc10, pa10, pn10, pc10, rfl, hD10, hb10r⟩) | skip); (first | (have hb10 : Below w9.heap.size w9 w10 := Below.trans (by (repeat (first | (with_reducible assumption) | exact Below.refl _ _ | refine Below.setCell ?_ (by first | (simp; done) | (simp; omega) | omega) _ | refine Below.alloc ?_ (by first | (simp; done) | (simp; omega) | omega) _ | refine Below.drew ?_ | refine below_drewN ?_ _))) (hb10r.mono (by first | (simp; done) | (simp; omega) | omega))) | skip); (first | (have hz10 : w9.heap.size ≤ w10.heap.size := hb10.size) | skip); (first | (have HBU := Lib.hid ((hb10.block w7.heap.size hy9).trans HBT.out)) | skip); (first | (have HD10 := Lib.hid (hD10.mono (S' := fun b => b ≠ w7.heap.size) (w' := w10) fun b hb _ => ⟨hb.elim id (fun h => Nat.ne_of_gt (Nat.lt_of_lt_of_le hy9 h)), rfl⟩)) | skip); (first | (have hy10 : w7.heap.size < w10.heap.size := by omega) | skip); (first | ((try clear c30 c31 c32 c33)) | skip); (first | (obtain ⟨c30, c31, c32, c33, c3f⟩ := box4 HBU.out) | skip)))
      all_goals (go_wp2_with fail; go_meet)
      all_goals exact ⟨rfl, ⟨sa10, sn10, sc10, pa10, pn10, pc10, (set4 HBU.out).1, HD10.out.mono fun b hb _ => ⟨trivial, (set4 HBU.out).2 b hb⟩⟩, Below.trans (hb9.mono (by omega)) (Below.trans (hb10.mono (by omega)) (by (repeat (first | (with_reducible assumption) | exact Below.refl _ _ | refine Below.setCell ?_ (by first | (simp; done) | (simp; omega) | omega) _ | refine Below.alloc ?_ (by first | (simp; done) | (simp; omega) | omega) _ | refine Below.drew ?_ | refine below_drewN ?_ _))))⟩
    case rest =>
      obtain ⟨rfl, ⟨sa, sn, sc, pa, pn, pc, HX0, HDV0⟩, hK⟩ := hcut
      have hkz := hK.size
      have K8 := Lib.hid ((K7.out.trans (hb8.mono (by have := K7.out.size; omega))).trans (hK.mono (by have := K7.out.size; omega)))
      have HX := Lib.hid HX0
      have HDV := Lib.hid HDV0
      have hk7 : ∀ b, b < w7.heap.size → wc.heap[b]? = w7.heap[b]? := fun b hb => (hK.block b hb).trans (hb8.block b hb)
      have HD3f := Lib.hid (HD3d.out.mono (S' := Any) (w' := wc) fun b _ hlt => ⟨trivial, hk7 b hlt⟩)
      have HS4e := Lib.hid (HS4c.out.mono (S' := Any) (w' := wc) fun b _ hlt => ⟨trivial, hk7 b hlt⟩)
      have HB3e := Lib.hid ((hk7 w3.heap.size hy3c).trans HB3c.out)
      have hyy7 : w7.heap.size < wc.heap.size := by omega
      have hyy3 : w3.heap.size < wc.heap.size := by omega
      clear HX0 HDV0 HD3d HS4c HB3c HB3d HD3e HS4d HBS HD7a
      obtain ⟨x30, x31, x32, x33, x3f⟩ := box4 HX.out
      go_wp2_with fail
      refine (sync_any Any _ sa sn sc pa pn pc dV HDV.out).mono ?_
      rw [eY]
      rintro e w11 ⟨sa11, sn11, sc11, pa11, pn11, pc11, rfl, hD11, hb11⟩
      have hz11 : wc.heap.size ≤ w11.heap.size := hb11.size
      have K11 := Lib.hid (K8.out.trans (hb11.mono (by have := K8.out.size; omega)))
      have HD11 := Lib.hid (hD11.mono (S' := Any) (w' := w11) fun b _ _ => ⟨trivial, rfl⟩)
      have HD3g := Lib.hid (HD3f.out.below hb11)
      have HS4f := Lib.hid (HS4e.out.below hb11)
      have HB3f := Lib.hid ((hb11.block w3.heap.size hyy3).trans HB3e.out)
      have hys := eYs
      have hzz3 : w3.heap.size < w11.heap.size := by omega
      clear hD11 HD3f HS4e HB3e x30 x31 x32 x33 x3f HX HDV
      obtain ⟨c30, c31, c32, c33, c3f⟩ := box4 HB3f.out
      go_wp2_with fail
      -- Restart(x)
      refine (restart_any (fun b => b ≠ w11.heap.size) _ sa11 sn11 sc11 pa11 pn11 pc11 dY (HD11.out.mono fun b _ hlt => ⟨Nat.ne_of_lt hlt, Below.block (B := w11.heap.size) (by (repeat (first | (with_reducible assumption) | exact Below.refl _ _ | refine Below.setCell ?_ (by first | (simp; done) | (simp; omega) | omega) _ | refine Below.alloc ?_ (by first | (simp; done) | (simp; omega) | omega) _ | refine Below.drew ?_ | refine below_drewN ?_ _))) b hlt⟩)).mono ?_
      obtain ⟨W12, hW12⟩ : ∃ W, W = w11.alloc (.cells #[.slice sa11 sn11 sc11, .slice pa11 pn11 pc11, .int .i64 dY.left, .bool true] 25) := ⟨_, rfl⟩
      rw [← hW12]
      have hb12 : Below w11.heap.size w11 W12 := by rw [hW12]; (repeat (first | (with_reducible assumption) | exact Below.refl _ _ | refine Below.setCell ?_ (by first | (simp; done) | (simp; omega) | omega) _ | refine Below.alloc ?_ (by first | (simp; done) | (simp; omega) | omega) _ | refine Below.drew ?_ | refine below_drewN ?_ _))
      have hz12 : w11.heap.size < W12.heap.size := by rw [hW12]; simp
      have HBX := Lib.hid (show W12.heap[w11.heap.size]? = some (.cells #[.slice sa11 sn11 sc11, .slice pa11 pn11 pc11, .int .i64 dY.left, .bool true] 25 (0, 0)) by rw [hW12]; exact heap_alloc_at _ _ _ rfl)
      have HD3h := Lib.hid (HD3g.out.below hb12)
      have HS4g := Lib.hid (HS4f.out.below hb12)
      have HB3g := Lib.hid ((hb12.block w3.heap.size (by omega)).trans HB3f.out)
      clear hW12
      rw [show restartF dY = dR from rfl]
      rintro e w13 ⟨sa13, sn13, sc13, pa13, pn13, pc13, rfl, hD13, hb13⟩
      have hz13 : W12.heap.size ≤ w13.heap.size := hb13.size
      have HBX2 := Lib.hid ((hb13.block w11.heap.size hz12).trans HBX.out)
      have HS4h := Lib.hid (HS4g.out.below hb13)
      have HB3h := Lib.hid ((hb13.block w3.heap.size (by omega)).trans HB3g.out)
      obtain ⟨x0, x1, x2, x3, xf⟩ := box4 HBX2.out
      have hx13 : w11.heap.size < w13.heap.size := by omega
      go_upto_region 13 with (fail)
      obtain ⟨W14, hW14⟩ : ∃ W, W = (((w13.setCell ⟨w11.heap.size, 0, none⟩ (.slice sa13 sn13 sc13)).setCell ⟨w11.heap.size, 1, none⟩ (.slice pa13 pn13 pc13)).setCell ⟨w11.heap.size, 2, none⟩ (.int .i64 dR.left)).setCell ⟨w11.heap.size, 3, none⟩ (.bool dR.stopped) := ⟨_, rfl⟩
      rw [← hW14]
      have HB14 := Lib.hid (show W14.heap[w11.heap.size]? = some (.cells #[.slice sa13 sn13 sc13, .slice pa13 pn13 pc13, .int .i64 dR.left, .bool dR.stopped] 25 (0, 0)) by rw [hW14]; exact (set4 HBX2.out).1)
      have hk14 : ∀ b, b ≠ w11.heap.size → W14.heap[b]? = w13.heap[b]? := fun b hb => by rw [hW14]; exact (set4 HBX2.out).2 b hb
      have HD14 := Lib.hid (hD13.mono (S' := Any) (w' := W14) fun b hb _ => ⟨trivial, hk14 b (hb.elim id (fun h => Nat.ne_of_gt (Nat.lt_of_lt_of_le hz12 h)))⟩)
      have b14 : Below w11.heap.size w11 W14 := (hb12.trans (hb13.mono (by omega))).trans (by rw [hW14]; (repeat (first | (with_reducible assumption) | exact Below.refl _ _ | refine Below.setCell ?_ (by first | (simp; done) | (simp; omega) | omega) _ | refine Below.alloc ?_ (by first | (simp; done) | (simp; omega) | omega) _ | refine Below.drew ?_ | refine below_drewN ?_ _)))
      have hs14 : w13.heap.size ≤ W14.heap.size := by rw [hW14]; simp
      have k14 : ∀ b, b < w11.heap.size → W14.heap[b]? = w11.heap[b]? := fun b hb => (hk14 b (Nat.ne_of_lt hb)).trans ((hb13.block b (by omega)).trans (hb12.block b hb))
      have HS4i := Lib.hid (HS4f.out.mono (S' := Any) (w' := W14) fun b _ hlt => ⟨trivial, k14 b hlt⟩)
      have HD3i := Lib.hid (HD3g.out.mono (S' := Any) (w' := W14) fun b _ hlt => ⟨trivial, k14 b hlt⟩)
      have HB3i := Lib.hid ((k14 w3.heap.size hzz3).trans HB3f.out)
      have hu16 : w11.heap.size < W14.heap.size := by omega
      have hu3 : w3.heap.size < W14.heap.size := by omega
      clear hW14 x0 x1 x2 x3 xf c30 c31 c32 c33 c3f HS4h HS4g HS4f HD3h HD3g HB3h HB3g HB3f HBX HBX2 hD13 HD11
      obtain ⟨x0, x1, x2, x3, xf⟩ := box4 HB14.out
      go_wp2_with fail
      -- Read(x, 1)
      refine (read_any Any _ sa13 sn13 sc13 pa13 pn13 pc13 dR 1 HD14.out).mono ?_
      rw [eOne]
      rintro e w15 ⟨a15, n15, k15, rfl, hs15, hb15⟩
      have hz15 : W14.heap.size ≤ w15.heap.size := hb15.size
      have HS15 := Lib.hid (hs15.mono (S' := Any) (w' := w15) fun b _ _ => ⟨trivial, rfl⟩)
      have HS4j := Lib.hid (HS4i.out.below hb15)
      have HD3j := Lib.hid (HD3i.out.below hb15)
      have HD14b := Lib.hid (HD14.out.below hb15)
      have HB14b := Lib.hid ((hb15.block w11.heap.size hu16).trans HB14.out)
      have HB3j := Lib.hid ((hb15.block w3.heap.size hu3).trans HB3i.out)
      have hv16 : w11.heap.size < w15.heap.size := by omega
      have hv3 : w3.heap.size < w15.heap.size := by omega
      clear hs15 HS4i HD3i HD14 HB14 HB3i x0 x1 x2 x3 xf
      obtain ⟨x0, x1, x2, x3, xf⟩ := box4 HB14b.out
      obtain ⟨c30, c31, c32, c33, c3f⟩ := box4 HB3j.out
      go_wp2_with fail
      -- Read(x, 0)
      refine (read_any Any _ sa13 sn13 sc13 pa13 pn13 pc13 dR 0 HD14b.out).mono ?_
      rw [eNone]
      rintro e w16 ⟨a16, n16, k16, rfl, hs16, hb16⟩
      have hz16 : w15.heap.size ≤ w16.heap.size := hb16.size
      have HS16 := Lib.hid (hs16.mono (S' := Any) (w' := w16) fun b _ _ => ⟨trivial, rfl⟩)
      have HS15b := Lib.hid (HS15.out.below hb16)
      have HS4k := Lib.hid (HS4j.out.below hb16)
      have HD3k := Lib.hid (HD3j.out.below hb16)
      have HB14c := Lib.hid ((hb16.block w11.heap.size hv16).trans HB14b.out)
      have HB3k := Lib.hid ((hb16.block w3.heap.size hv3).trans HB3j.out)
      have hp16 : w11.heap.size < w16.heap.size := by omega
      have hp3 : w3.heap.size < w16.heap.size := by omega
      clear hs16 HS4j HD3j HD14b HB14b HB3j HS15 x0 x1 x2 x3 xf c30 c31 c32 c33 c3f
      obtain ⟨x0, x1, x2, x3, xf⟩ := box4 HB14c.out
      obtain ⟨c30, c31, c32, c33, c3f⟩ := box4 HB3k.out
      go_wp2_with fail
      -- Restart(w)
      refine (restart_any Any _ sa3 sn3 sc3 pa3 pn3 pc3 dW HD3k.out).mono ?_
      rw [show restartF dW = dL from rfl]
      rintro e w17 ⟨sa17, sn17, sc17, pa17, pn17, pc17, rfl, hD17, hb17⟩
      have hz17 : w16.heap.size ≤ w17.heap.size := hb17.size
      have HD17 := Lib.hid (hD17.mono (S' := Any) (w' := w17) fun b _ _ => ⟨trivial, rfl⟩)
      have HS16b := Lib.hid (HS16.out.below hb17)
      have HS15c := Lib.hid (HS15b.out.below hb17)
      have HS4l := Lib.hid (HS4k.out.below hb17)
      clear hD17 HS16 HS15b HS4k HD3k HB14c HB3k x0 x1 x2 x3 xf c30 c31 c32 c33 c3f
      go_wp2_with fail
      refine (read_any Any _ sa17 sn17 sc17 pa17 pn17 pc17 dL 1 HD17.out).mono ?_
      rw [eLost]
      rintro e w18 ⟨a18, n18, k18, rfl, hs18, hb18⟩
      have HS16c := HS16b.out.below hb18
      have HS15d := HS15c.out.below hb18
      have HS4m := HS4l.out.below hb18
      have l4 := HS4m.length
      have l15 := HS15d.length
      have l16 := HS16c.length
      have l18 := hs18.length
      rw [lB.1] at l4
      rw [lOne.1] at l15
      rw [lNone.1] at l16
      rw [lLost.1] at l18
      subst l4
      subst l15
      subst l16
      subst l18
      obtain ⟨b4, o4, rfl, z4, y4⟩ := at_byte HS4m 0 7 lB.2
      obtain ⟨b15, o15, rfl, z15, y15⟩ := at_byte HS15d 0 7 lOne.2
      obtain ⟨b16, o16, e16, z16, y16⟩ := at_byte HS16c 0 8 lNone.2.1
      obtain ⟨b16', o16', e16', z16', y16'⟩ := at_byte HS16c 64 0 lNone.2.2
      rw [e16] at e16'
      cases e16'
      subst e16
      obtain ⟨b18, o18, rfl, z18, y18⟩ := at_byte hs18 0 0 lLost.2
      clear HS16c HS15d HS4m hs18 HS16b HS15c HS4l HD17
      simp only [Nat.add_zero, UInt8.reduceToNat] at y4 y15 y16 y16' y18
      go_wp2_with fail
      refine (check_any Any _ none 0 0 none 0 0 0 false [] [] (Sl.zero _ _ _) (Sl.zero _ _ _)).mono ?_
      rw [show checkF ⟨[], [], 0, false⟩ = 40 by kernel_rfl]
      rintro e w19 ⟨rfl, hb19⟩
      go_wp2_with fail
      refine (restart_any Any _ none 0 0 none 0 0 zeroDisk (DiskAt.zero _ _)).mono ?_
      rw [show restartF zeroDisk = ⟨[], [], -1, false⟩ by kernel_rfl]
      rintro e w20 ⟨sa20, sn20, sc20, pa20, pn20, pc20, rfl, _, hb20⟩
      have hfd : ∀ w : World, (Instr.field 25 (.agg #[.slice sa20 sn20 sc20, .slice pa20 pn20 pc20, .int .i64 (-1), .bool false]) 2).run Try.prog w = .ok (.int .i64 (-1)) w := fun _ => by kernel_rfl
      go_wp2_with fail
      go_ret
      refine ⟨rfl, ?_⟩
      have s11 := K11.out.size
      have s15 := hb15.size
      have s16 := hb16.size
      have s17 := hb17.size
      have s18 := hb18.size
      have s19 := hb19.size
      exact ((((((((K11.out.trans (b14.mono (by omega))).trans (hb15.mono (by omega))).trans (hb16.mono (by omega))).trans (hb17.mono (by omega))).trans (hb18.mono (by omega))).trans (hb19.mono (by omega))).trans (hb20.mono (by omega))))

end Go.Proofs.Ytckcdokfhdckhaa
