/- The reference disk's Sync, all cases; and its contract in worlds. -/
import Derived.Test.YtckcdokfhdckhaaRs
namespace Go.Proofs.Ytckcdokfhdckhaa
open Go Go.RowKit Go.Kx Go.Fr

theorem dsk_fields (D : Disk) : dsk D = agg [isl (eSl eByte) D.secs, isl eWr D.pend, exI .i64 D.left, exB D.stopped] := rfl
theorem checkF_bad {D : Disk} (h : Disk.ok D = false) : checkF D = 40 := by unfold checkF; rw [if_neg (by simp [h])]
attribute [local irreducible] performF checkF Disk.ok

set_option maxHeartbeats 1000000 in
set_option maxRecDepth 100000 in
theorem rsync_bad (D : Disk) (h : Disk.ok D = false) : FnC Try.prog 24 [agg [isl (eSl eByte) D.secs, isl eWr D.pend, exI .i64 D.left, exB D.stopped]] [] (fun p loc => p = tup [dsk zeroDisk, exI .i64 40] ∧ loc = []) := by
  refine FnC_enter Try.func24 rfl Try.ntmps24 rfl fun w0 F0 out => ?_
  have hC := rchk_frs D
  rw [checkF_bad h] at hC
  (repeat' (first | refine WP_seq ?_ | refine WP_region ?_ | refine WPL_nil ?_ | (apply WPL_t; (first | exact WT_move rfl | exact WT_assign rfl | exact WT_pick (b := true) rfl (fun _ => rfl) (fun e => by cases e) | (apply g_load; first | exact WT_loada2 (k := 1) rfl rfl rfl) | (apply g_bin; first | exact WT_neq rfl rfl) | (apply g_build; first | exact WT_build2 rfl rfl (by repeat (first | exact PartsO.nil)))); exact rfl) | (refine WPL_off rfl rfl rfl rfl rfl ?_) | refine WP_ret ?_ | refine WP_cond_t rfl ?_ | (apply WPL_op0; exact rfl; first | (apply g_callf; first | (refine WO_call Try.func16 rfl hC rfl ?_; rintro _ _ ⟨rfl, rfl⟩)) | (apply g_box; refine WO_box rfl ?_; intro _) | (apply g_alloc; refine WO_alloc ?_; intro _) | (apply g_store; first | refine WO_store (k := 0) (l0 := []) rfl rfl rfl ?_))))
  (refine ⟨.inr rfl, retw (loc' := []) (by first | exact ret2 rfl (.cella (k := 0) rfl rfl rfl rfl inferInstance rfl) (.tmp rfl) (List.nil_sublist _) ⟨rfl, rfl⟩) ?_ ⟨rfl, rfl⟩⟩)
  exact Ims.tup (.cons im_dzs (.cons (.refl _) .nil))

set_option maxHeartbeats 1000000 in
set_option maxRecDepth 100000 in
theorem rsync_stopped (D : Disk) (h : Disk.ok D = true) (hs : D.stopped = true) : FnC Try.prog 24 [agg [isl (eSl eByte) D.secs, isl eWr D.pend, exI .i64 D.left, exB true]] [] (fun p loc => p = tup [dsk zeroDisk, exI .i64 40] ∧ loc = []) := by
  refine FnC_enter Try.func24 rfl Try.ntmps24 rfl fun w0 F0 out => ?_
  have hC := rchk_frs D
  rw [show checkF D = 0 by unfold checkF; rw [if_pos h], dsk_fields, hs] at hC
  (repeat' (first | refine WP_seq ?_ | refine WP_region ?_ | refine WPL_nil ?_ | (apply WPL_t; (first | exact WT_move rfl | exact WT_assign rfl | exact WT_pick (b := false) rfl (fun e => by cases e) (fun _ => rfl) | (apply g_load; first | exact WT_loada2 (k := 1) rfl rfl rfl) | (apply g_bin; first | exact WT_neq rfl rfl) | (apply g_build; first | exact WT_build2 rfl rfl (by repeat (first | exact PartsO.nil)))); exact rfl) | (apply WPL_gt; exact rfl; exact rfl; exact rfl; (first | (apply g_load; first | exact WT_load (k := 1) rfl rfl rfl rfl) | (apply g_fld; first | exact WT_field rfl rfl rfl)); exact rfl) | refine WP_ret ?_ | refine WP_cond_t rfl ?_ | (apply WPL_op0; exact rfl; first | (apply g_callf; first | (refine WO_call Try.func16 rfl hC rfl ?_; rintro _ _ ⟨rfl, rfl⟩)) | (apply g_box; refine WO_box rfl ?_; intro _) | (apply g_alloc; refine WO_alloc ?_; intro _) | (apply g_store; first | refine WO_store (k := 0) (l0 := []) rfl rfl rfl ?_))))
  (refine ⟨.inr rfl, retw (loc' := []) (by first | exact ret2 rfl (.cella (k := 0) rfl rfl rfl rfl inferInstance rfl) (.tmp rfl) (List.nil_sublist _) ⟨rfl, rfl⟩) ?_ ⟨rfl, rfl⟩⟩)
  exact Ims.tup (.cons im_dzs (.cons (.refl _) .nil))

theorem rsync_fr (D : Disk) : FnC Try.prog 24 [dsk D] [] (fun p loc => p = tup [dsk (syncF D).1, exI .i64 (syncF D).2] ∧ loc = []) := by
  obtain ⟨secs, pend, left, st⟩ := D
  cases hok : Disk.ok ⟨secs, pend, left, st⟩ with
  | false =>
    rw [show syncF ⟨secs, pend, left, st⟩ = (zeroDisk, 40) by unfold syncF; rw [if_neg (by simp [hok])]]
    exact rsync_bad ⟨secs, pend, left, st⟩ hok
  | true =>
    cases st with
    | true =>
      rw [show syncF ⟨secs, pend, left, true⟩ = (zeroDisk, 40) by unfold syncF; rw [if_neg (by simp)]]
      exact rsync_stopped ⟨secs, pend, left, true⟩ hok rfl
    | false =>
      by_cases h1 : left < 0
      · rw [show syncF ⟨secs, pend, left, false⟩ = (⟨performF secs pend, [], left, false⟩, 0) by
          unfold syncF; rw [if_pos (by simp [hok]), if_neg (by simp only []; omega)]; simp only []; rw [if_neg (by omega)]]
        exact rsync_neg secs pend left h1 hok
      · by_cases h2 : left < (pend.length : Int)
        · obtain ⟨L, rfl⟩ := Int.eq_ofNat_of_zero_le (show 0 ≤ left by omega)
          rw [show syncF ⟨secs, pend, (L : Int), false⟩ = (stopsF ⟨secs, pend, (L : Int), false⟩, 40) by
            unfold syncF; rw [if_pos (by simp [hok]), if_pos (by simp only []; omega)]]
          exact rsync_stop secs pend L (by omega) hok
        · rw [show syncF ⟨secs, pend, left, false⟩ = (⟨performF secs pend, [], left - pend.length, false⟩, 0) by
            unfold syncF; rw [if_pos (by simp [hok]), if_neg (by simp only []; omega)]; simp only []; rw [if_pos (by omega)]]
          exact rsync_ge secs pend left (by omega) h2 hok
end Go.Proofs.Ytckcdokfhdckhaa
