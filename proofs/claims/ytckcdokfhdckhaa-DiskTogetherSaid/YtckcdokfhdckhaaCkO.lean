/- The walk of disk.Sync. -/
import Derived.Test.YtckcdokfhdckhaaRows
import Derived.Test.YtckcdokfhdckhaaCkN
import Derived.WalkKit
import Derived.WalkLawsBesides
import Derived.WalkSpells
import Derived.Outline
import Derived.Lib.Hide
import Derived.Laws.CopyOwn
import Derived.Deep.OwnRows
import Derived.RangeFuncBox
import Derived.Deep.RegionWith
import Derived.Deep.RegionHeld3
namespace Go.Proofs.Ytckcdokfhdckhaa
open Go.RowKit Go.Kx

/-- The sector that is torn. -/
def tornF (x : Wr) (old : Bytes) : Bytes := x.data.take 64 ++ old.drop 64
def nthW (l : List Wr) (i : Nat) : Wr := l.getD i ⟨0, []⟩
def stopsF (d : Disk) : Disk :=
  ⟨(performF d.secs (d.pend.take d.left.toNat)).set (nthW d.pend d.left.toNat).at_.toNat (tornF (nthW d.pend d.left.toNat) ((performF d.secs (d.pend.take d.left.toNat)).getD (nthW d.pend d.left.toNat).at_.toNat [])), [], 0, true⟩
def syncF (d : Disk) : Disk × Int :=
  if Disk.ok d && !d.stopped then
    if 0 ≤ d.left ∧ d.left < (d.pend.length : Int) then (stopsF d, 40)
    else (⟨performF d.secs d.pend, [], if 0 ≤ d.left then d.left - d.pend.length else d.left, false⟩, 0)
  else (zeroDisk, 40)

theorem pend_ok {d : Disk} (h : Disk.ok d = true) : ∀ i (hi : i < d.pend.length), (0 ≤ d.pend[i].at_ ∧ d.pend[i].at_ < (d.secs.length : Int)) ∧ d.pend[i].data.length = 128 := by
  intro i hi
  have h1 := (Disk.ok_out h).2.2.2.2.2.1
  rw [List.any_eq_false] at h1
  have h2 := h1 _ (List.getElem_mem hi)
  simp only [badW, Bool.or_eq_true, decide_eq_true_eq, Bool.not_eq_true', beq_eq_false_iff_ne, ne_eq, not_or] at h2
  omega

set_option maxRecDepth 20000 in
set_option maxHeartbeats 2000000 in
theorem sync_go (S : Nat → Prop) (w : World) (sa : Option Addr) (sn sc : Nat) (pa : Option Addr) (pn pc : Nat) (D : Disk)
    (h : DiskAt S w sa sn sc pa pn pc D) (hok : (Disk.ok D && !D.stopped) = true) (hgo : D.left < 0 ∨ (pn : Int) ≤ D.left) :
    Calls Try.prog 23 #[.agg #[.slice sa sn sc, .slice pa pn pc, .int .i64 D.left, .bool D.stopped]] w (RetDisk S w (⟨performF D.secs D.pend, [], if 0 ≤ D.left then D.left - pn else D.left, false⟩, 0)) := by
  have hb0 : Below w.heap.size w ((w.alloc (.cells #[.slice sa sn sc, .slice pa pn pc, .int .i64 D.left, .bool D.stopped] 25)).alloc (.cells #[.slice none 0 0, .slice none 0 0, .int .i64 0, .bool false] 25)) := by (repeat (first | (with_reducible assumption) | exact Below.refl _ _ | refine Below.setCell ?_ (by first | (simp; done) | (simp; omega) | omega) _ | refine Below.alloc ?_ (by first | (simp; done) | (simp; omega) | omega) _ | refine Below.drew ?_ | refine below_drewN ?_ _))
  have hD0 : ((w.alloc (.cells #[.slice sa sn sc, .slice pa pn pc, .int .i64 D.left, .bool D.stopped] 25)).alloc (.cells #[.slice none 0 0, .slice none 0 0, .int .i64 0, .bool false] 25)).heap[w.heap.size]? = some (.cells #[.slice sa sn sc, .slice pa pn pc, .int .i64 D.left, .bool D.stopped] 25 (0, 0)) := by
    rw [Below.heap_alloc _ _ _ (by simp)]; exact heap_alloc_at _ _ _ rfl
  have hR0 : ((w.alloc (.cells #[.slice sa sn sc, .slice pa pn pc, .int .i64 D.left, .bool D.stopped] 25)).alloc (.cells #[.slice none 0 0, .slice none 0 0, .int .i64 0, .bool false] 25)).heap[w.heap.size + 1]? = some (.cells #[.slice none 0 0, .slice none 0 0, .int .i64 0, .bool false] 25 (0, 0)) := heap_alloc_at _ _ _ (by simp)
  have HD0 := Lib.hid hD0
  have HR0 := Lib.hid hR0
  have H := Lib.hid (runs_any S _ sa sn sc pa pn pc D.left D.stopped D.secs D.pend (h.secs.below hb0) (h.pend.below hb0))
  rw [show (Disk.ok { secs := D.secs, pend := D.pend, left := D.left, stopped := D.stopped } && !D.stopped) = true from hok] at H
  have HD := Lib.hid h
  have hls := Lib.hid h.secs.length
  have hlp := Lib.hid h.pend.length
  have hokD : Disk.ok D = true := by simp only [Bool.and_eq_true] at hok; exact hok.1
  have hpn : pn ≤ 4096 := by have := (Disk.ok_out hokD).2.2.1; have := hlp.out; omega
  have hll : D.left ≤ 65536 ∧ -1 ≤ D.left := ⟨(Disk.ok_out hokD).2.2.2.2.1, (Disk.ok_out hokD).2.2.2.1⟩
  obtain ⟨hll1, hll2⟩ := hll
  have hle1 : w.heap.size ≤ ((w.alloc (.cells #[.slice sa sn sc, .slice pa pn pc, .int .i64 D.left, .bool D.stopped] 25)).alloc (.cells #[.slice none 0 0, .slice none 0 0, .int .i64 0, .bool false] 25)).heap.size := by simp; omega
  have HPF := Lib.hid (fun (w1 : World) (hb : Below w.heap.size w w1) => perform_any (fun b => S b ∧ b < w.heap.size) w1 sa sn sc pa pn pc D.secs D.pend (h.secs.mono fun b hS hlt => ⟨⟨hS, hlt⟩, hb.block b hlt⟩) (h.pend.mono fun b hS hlt => ⟨⟨hS, hlt⟩, hb.block b hlt⟩)
    (fun i hi => by have := (pend_ok hokD i hi).1; have := hls.out; omega))
  clear h hD0 hR0 hok hokD
  by_cases hneg : D.left < 0
  · clear hgo
    go_enter Try.func23, Try.ntmps23
    go_wp2_with ((with_reducible refine H.out.mono ?_); rintro e w1 ⟨rfl, hb1⟩; have hz : w.heap.size + 1 < w1.heap.size := (by have := hb1.size; simp at this; omega); have HD1 := Lib.hid ((hb1.block (w.heap.size) (by first | (simp; done) | (simp; omega) | omega)).trans HD0.out); have HR1 := Lib.hid ((hb1.block (w.heap.size + 1) (by first | (simp; done) | (simp; omega) | omega)).trans HR0.out); obtain ⟨d0, d1, d2, d3, df⟩ := box4 HD1.out; have hbw := hb0.trans (hb1.mono hle1); clear hb1 hb0 H HD0 HR0 hle1)
    go_region_held3 (fun w' => w'.cell? ⟨w.heap.size, 0, none⟩ = some (.slice sa sn sc) ∧ w'.cell? ⟨w.heap.size, 1, none⟩ = some (.slice pa pn pc) ∧ w'.cell? ⟨w.heap.size, 2, none⟩ = some (.int .i64 D.left)) (first | exact ⟨d0, d1, d2⟩ | go_keep) (first | (go_at_call 40; refine (HPF.out _ (by (repeat (first | (with_reducible assumption) | exact Below.refl _ _ | refine Below.setCell ?_ (by first | (simp; done) | (simp; omega) | omega) _ | refine Below.alloc ?_ (by first | (simp; done) | (simp; omega) | omega) _ | refine Below.drew ?_ | refine below_drewN ?_ _)))).mono ?_; rintro e w2 ⟨v, xs, rfl, hown, hel, hb2⟩; clear d0 d1 d2 d3 df; have HD2 := Lib.hid ((hb2.block (w.heap.size) (by first | (simp; done) | (simp; omega) | omega)).trans HD1.out); have HR2 := Lib.hid ((hb2.block (w.heap.size + 1) (by first | (simp; done) | (simp; omega) | omega)).trans HR1.out); obtain ⟨d0, d1, d2, d3, df⟩ := box4 HD2.out; obtain ⟨r0, r1, r2, r3, rf⟩ := box4 HR2.out; obtain ⟨a2, c2, rfl⟩ := own_form hown; have HO2 := Lib.hid hown; have HE2 := Lib.hid hel; clear hown hel HD1 HR1))
    have hb2' : Below w1.heap.size w1 w2 := (below_drewN (Below.refl _ w1) 1).trans hb2
    have HO3 : Hid (w2.ownsRow w1.heap.size 35 1 (.slice a2 (performF D.secs D.pend).length c2) (performF D.secs D.pend).length xs) := HO2.out
    have HE3 : Hid (Elems (eSl eByte) (fun b => (S b ∧ b < w.heap.size) ∧ b < w1.heap.size) w1 xs (performF D.secs D.pend)) := Elems.mono HE2.out fun b hb _ => ⟨hb, rfl⟩
    have hl0 := Lib.hid (performF_length D.secs D.pend)
    clear HO2 HE2 hb2
    obtain ⟨W4, hW4⟩ : ∃ W4, W4 = (((w2.setCell ⟨w.heap.size + 1, 0, none⟩ (.slice a2 (performF D.secs D.pend).length c2)).setCell ⟨w.heap.size + 1, 1, none⟩ (.slice none 0 0)).setCell ⟨w.heap.size + 1, 2, none⟩ (.int .i64 D.left)).setCell ⟨w.heap.size + 1, 3, none⟩ (.bool false) := ⟨_, rfl⟩
    have hb4 : Below w.heap.size w W4 := by
      have hb3 : Below w.heap.size w w2 := hbw.trans (hb2'.mono (by omega))
      rw [hW4]
      (repeat (first | (with_reducible assumption) | exact Below.refl _ _ | refine Below.setCell ?_ (by first | (simp; done) | (simp; omega) | omega) _ | refine Below.alloc ?_ (by first | (simp; done) | (simp; omega) | omega) _ | refine Below.drew ?_ | refine below_drewN ?_ _))
    have h4 := set4 (v0 := .slice a2 (performF D.secs D.pend).length c2) (v1 := .slice none 0 0) (v2 := .int .i64 D.left) (v3 := .bool false) HR2.out
    rw [← hW4] at h4 ⊢
    have H4 := Lib.hid h4.2
    obtain ⟨r0, r1, r2, r3, rf⟩ := box4 h4.1
    clear hW4 h4
    go_wp2
    refine bodyPost_ret (v := .tuple #[.agg #[.slice a2 (performF D.secs D.pend).length c2, .slice none 0 0, .int .i64 (D.left), .bool false], .int .i64 0]) (by simp [results, Try.results23, go_sem, r0, r1, r2, r3]) rfl ?_
    obtain ⟨a3, c3, hv, hs3⟩ := Sl.of_owns (S' := fun b => (S b ∧ b < w.heap.size) ∨ w1.heap.size ≤ b) HO3.out (HE3.out.mono (S' := fun b => (S b ∧ b < w.heap.size) ∨ w1.heap.size ≤ b) fun b hb hlt => ⟨.inl hb.1, hb2'.block b hlt⟩) (by decide) (by have := (HD.out.secs).bytes; rw [hl0.out, hls.out]; exact this) (fun b hb _ => hb) (fun g hg => .inr (HO3.out.lt g hg).1)
    cases hv
    refine RetDisk.of (D := ⟨performF D.secs D.pend, [], D.left, false⟩) (by first | rfl | rw [if_neg (by omega)]) rfl rfl (by (repeat (first | (with_reducible assumption) | exact Below.refl _ _ | refine Below.setCell ?_ (by first | (simp; done) | (simp; omega) | omega) _ | refine Below.alloc ?_ (by first | (simp; done) | (simp; omega) | omega) _ | refine Below.drew ?_ | refine below_drewN ?_ _))) fun hbF => ⟨?_, Sl.zero _ _ _, by show (-9223372036854775808 : Int) ≤ D.left; omega, by show (D.left : Int) ≤ 9223372036854775807; omega⟩
    refine hs3.mono fun k hk hlt => ⟨?_, ?_⟩
    · rcases hk with hk | hk
      · exact .inl hk.1
      · exact .inr (by omega)
    · have k1 : k ≠ w.heap.size + 1 := by rcases hk with hk | hk <;> omega
      first
      | rw [set_other _ _ _ _ _ k1, set_other _ _ _ _ _ k1, set_other _ _ _ _ _ k1, set_other _ _ _ _ _ k1, set_other _ _ _ _ _ k1, H4.out k k1]
      | rw [set_other _ _ _ _ _ k1, set_other _ _ _ _ _ k1, set_other _ _ _ _ _ k1, set_other _ _ _ _ _ k1, H4.out k k1]
  · have hge : (pn : Int) ≤ D.left := by omega
    have h0l : 0 ≤ D.left := by omega
    clear hgo hneg
    go_enter Try.func23, Try.ntmps23
    go_wp2_with ((with_reducible refine H.out.mono ?_); rintro e w1 ⟨rfl, hb1⟩; have hz : w.heap.size + 1 < w1.heap.size := (by have := hb1.size; simp at this; omega); have HD1 := Lib.hid ((hb1.block (w.heap.size) (by first | (simp; done) | (simp; omega) | omega)).trans HD0.out); have HR1 := Lib.hid ((hb1.block (w.heap.size + 1) (by first | (simp; done) | (simp; omega) | omega)).trans HR0.out); obtain ⟨d0, d1, d2, d3, df⟩ := box4 HD1.out; have hbw := hb0.trans (hb1.mono hle1); clear hb1 hb0 H HD0 HR0 hle1)
    go_region_held3 (fun w' => w'.cell? ⟨w.heap.size, 0, none⟩ = some (.slice sa sn sc) ∧ w'.cell? ⟨w.heap.size, 1, none⟩ = some (.slice pa pn pc) ∧ w'.cell? ⟨w.heap.size, 2, none⟩ = some (.int .i64 D.left)) (first | exact ⟨d0, d1, d2⟩ | go_keep) (first | (go_at_call 40; refine (HPF.out _ (by (repeat (first | (with_reducible assumption) | exact Below.refl _ _ | refine Below.setCell ?_ (by first | (simp; done) | (simp; omega) | omega) _ | refine Below.alloc ?_ (by first | (simp; done) | (simp; omega) | omega) _ | refine Below.drew ?_ | refine below_drewN ?_ _)))).mono ?_; rintro e w2 ⟨v, xs, rfl, hown, hel, hb2⟩; clear d0 d1 d2 d3 df; have HD2 := Lib.hid ((hb2.block (w.heap.size) (by first | (simp; done) | (simp; omega) | omega)).trans HD1.out); have HR2 := Lib.hid ((hb2.block (w.heap.size + 1) (by first | (simp; done) | (simp; omega) | omega)).trans HR1.out); obtain ⟨d0, d1, d2, d3, df⟩ := box4 HD2.out; obtain ⟨r0, r1, r2, r3, rf⟩ := box4 HR2.out; obtain ⟨a2, c2, rfl⟩ := own_form hown; have HO2 := Lib.hid hown; have HE2 := Lib.hid hel; clear hown hel HD1 HR1))
    have hb2' : Below w1.heap.size w1 w2 := (below_drewN (Below.refl _ w1) 1).trans hb2
    have HO3 : Hid (w2.ownsRow w1.heap.size 35 1 (.slice a2 (performF D.secs D.pend).length c2) (performF D.secs D.pend).length xs) := HO2.out
    have HE3 : Hid (Elems (eSl eByte) (fun b => (S b ∧ b < w.heap.size) ∧ b < w1.heap.size) w1 xs (performF D.secs D.pend)) := Elems.mono HE2.out fun b hb _ => ⟨hb, rfl⟩
    have hl0 := Lib.hid (performF_length D.secs D.pend)
    clear HO2 HE2 hb2
    obtain ⟨W4, hW4⟩ : ∃ W4, W4 = (((w2.setCell ⟨w.heap.size + 1, 0, none⟩ (.slice a2 (performF D.secs D.pend).length c2)).setCell ⟨w.heap.size + 1, 1, none⟩ (.slice none 0 0)).setCell ⟨w.heap.size + 1, 2, none⟩ (.int .i64 D.left)).setCell ⟨w.heap.size + 1, 3, none⟩ (.bool false) := ⟨_, rfl⟩
    have hb4 : Below w.heap.size w W4 := by
      have hb3 : Below w.heap.size w w2 := hbw.trans (hb2'.mono (by omega))
      rw [hW4]
      (repeat (first | (with_reducible assumption) | exact Below.refl _ _ | refine Below.setCell ?_ (by first | (simp; done) | (simp; omega) | omega) _ | refine Below.alloc ?_ (by first | (simp; done) | (simp; omega) | omega) _ | refine Below.drew ?_ | refine below_drewN ?_ _))
    have h4 := set4 (v0 := .slice a2 (performF D.secs D.pend).length c2) (v1 := .slice none 0 0) (v2 := .int .i64 D.left) (v3 := .bool false) HR2.out
    rw [← hW4] at h4 ⊢
    have H4 := Lib.hid h4.2
    obtain ⟨r0, r1, r2, r3, rf⟩ := box4 h4.1
    clear hW4 h4
    go_wp2
    refine bodyPost_ret (v := .tuple #[.agg #[.slice a2 (performF D.secs D.pend).length c2, .slice none 0 0, .int .i64 (D.left - pn), .bool false], .int .i64 0]) (by simp [results, Try.results23, go_sem, r0, r1, r2, r3]) rfl ?_
    obtain ⟨a3, c3, hv, hs3⟩ := Sl.of_owns (S' := fun b => (S b ∧ b < w.heap.size) ∨ w1.heap.size ≤ b) HO3.out (HE3.out.mono (S' := fun b => (S b ∧ b < w.heap.size) ∨ w1.heap.size ≤ b) fun b hb hlt => ⟨.inl hb.1, hb2'.block b hlt⟩) (by decide) (by have := (HD.out.secs).bytes; rw [hl0.out, hls.out]; exact this) (fun b hb _ => hb) (fun g hg => .inr (HO3.out.lt g hg).1)
    cases hv
    refine RetDisk.of (D := ⟨performF D.secs D.pend, [], D.left - pn, false⟩) (by first | rfl | rw [if_pos (by omega)]) rfl rfl (by (repeat (first | (with_reducible assumption) | exact Below.refl _ _ | refine Below.setCell ?_ (by first | (simp; done) | (simp; omega) | omega) _ | refine Below.alloc ?_ (by first | (simp; done) | (simp; omega) | omega) _ | refine Below.drew ?_ | refine below_drewN ?_ _))) fun hbF => ⟨?_, Sl.zero _ _ _, by show (-9223372036854775808 : Int) ≤ D.left - pn; omega, by show (D.left - pn : Int) ≤ 9223372036854775807; omega⟩
    refine hs3.mono fun k hk hlt => ⟨?_, ?_⟩
    · rcases hk with hk | hk
      · exact .inl hk.1
      · exact .inr (by omega)
    · have k1 : k ≠ w.heap.size + 1 := by rcases hk with hk | hk <;> omega
      first
      | rw [set_other _ _ _ _ _ k1, set_other _ _ _ _ _ k1, set_other _ _ _ _ _ k1, set_other _ _ _ _ _ k1, set_other _ _ _ _ _ k1, H4.out k k1]
      | rw [set_other _ _ _ _ _ k1, set_other _ _ _ _ _ k1, set_other _ _ _ _ _ k1, set_other _ _ _ _ _ k1, H4.out k k1]

end Go.Proofs.Ytckcdokfhdckhaa
