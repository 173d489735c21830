/- DiskSyncSpec. -/
import Derived.Test.YtckcdokfhdckhaaDn
namespace Go.Proofs.Ytckcdokfhdckhaa
open Go Go.RowKit Go.Kx Go.Fr

theorem syncF_in {D : Disk} (hD : DIn D) : DIn (syncF D).1 := by
  obtain ⟨h1, h2⟩ := hD
  unfold syncF
  split
  · rename_i h
    have hl := (Disk.ok_out (by simp only [Bool.and_eq_true] at h; exact h.1)).2.2.1
    split
    · exact ⟨(by decide : (-9223372036854775808 : Int) ≤ 0), (by decide : (0 : Int) ≤ 9223372036854775807)⟩
    · unfold DIn; dsimp only
      split <;> omega
  · exact ⟨by decide, by decide⟩
theorem stopF_in {D : Disk} {n : Int} (hn : -9223372036854775808 ≤ n ∧ n ≤ 9223372036854775807) : DIn (stopF D n).1 := by
  unfold stopF
  split
  · split
    · exact ⟨by decide, by decide⟩
    · exact hn
  · exact ⟨by decide, by decide⟩

set_option maxHeartbeats 1000000 in
set_option maxRecDepth 100000 in
theorem syncSpec_fr (D : Disk) (left : Int) (hD : DIn D) (hl : -9223372036854775808 ≤ left ∧ left ≤ 9223372036854775807) : FnC Try.prog 5 [dsk D, exI .i64 left] [] (fun p loc => p = exB true ∧ loc = []) := by
  refine FnC_enter Try.func5 rfl Try.ntmps5 rfl fun w0 F0 out => ?_
  have hF := few_fr D
  have hY := sync_fr D hD
  have hR := rsync_fr D
  have hT := stop_fr D left hD hl
  have hU := rstop_fr D left hD hl
  have hS1 := dsame_fr _ (syncF_in hD)
  have hS2 := dsame_fr _ (stopF_in (D := D) hl)
  generalize syncF D = r1 at *
  generalize stopF D left = r2 at *
  obtain ⟨d1, e1⟩ := r1
  obtain ⟨d2, e2⟩ := r2
  dsimp only at hY hR hT hU hS1 hS2
  (repeat' (first | refine WP_seq ?_ | refine WP_region ?_ | refine WPL_nil ?_ | (apply WPL_t; (first | exact WT_move rfl | exact WT_assign rfl | exact WT_pick (b := true) rfl (fun _ => rfl) (fun e => by cases e) | exact WT_extract rfl rfl | (apply g_load; first | exact WT_loada2 (k := 0) rfl rfl rfl | exact WT_loada2 (k := 1) rfl rfl rfl | exact WT_loada2 (k := 2) rfl rfl rfl | exact WT_loada2 (k := 3) rfl rfl rfl) | (apply g_un; first | exact WT_not rfl)); exact rfl) | (apply WPL_gt; exact rfl; exact rfl; exact rfl; (first | exact WT_move rfl | (apply g_load; first | exact WT_loada2 (k := 0) rfl rfl rfl | exact WT_loada2 (k := 1) rfl rfl rfl) | (apply g_bin; first | exact WT_eql rfl rfl)); exact rfl) | refine WP_skip ?_ | refine WP_ret ?_ | refine WP_cond_f rfl ?_ | (apply WPL_op0; exact rfl; first | (apply g_callf; first | (refine WO_call Try.func10 rfl sane_fr rfl ?_; rintro _ _ ⟨rfl, rfl⟩) | (refine WO_call Try.func11 rfl hF rfl ?_; rintro _ _ ⟨⟨_, rfl⟩, rfl⟩) | (refine WO_call Try.func23 rfl hY rfl ?_; rintro _ _ ⟨rfl, rfl⟩) | (refine WO_call Try.func24 rfl hR rfl ?_; rintro _ _ ⟨rfl, rfl⟩) | (refine WO_call Try.func25 rfl hT rfl ?_; rintro _ _ ⟨rfl, rfl⟩) | (refine WO_call Try.func26 rfl hU rfl ?_; rintro _ _ ⟨rfl, rfl⟩) | (refine WO_call Try.func14 rfl hS1 rfl ?_; rintro _ _ ⟨rfl, rfl⟩)) | (apply g_box; refine WO_box rfl ?_; intro _) | (apply g_alloc; refine WO_alloc ?_; intro _) | (apply g_store; first | refine WO_store (k := 0) (l0 := []) rfl rfl rfl ?_)) | (apply WPL_on0; exact rfl; exact rfl; exact rfl; exact rfl; (apply g_callf; first | (refine WO_call Try.func14 rfl hS2 rfl ?_; rintro _ _ ⟨rfl, rfl⟩))) | (refine WPL_case rfl rfl (fun hb => ?_) (fun hb => ?_) <;> (repeat (first | replace hb := dec_t hb | replace hb := dec_f hb)) <;> (try (exfalso; first | omega))) | (refine WP_cond rfl (fun hb => ?_) (fun hb => ?_) <;> (repeat (first | replace hb := not_t hb | replace hb := not_f hb)) <;> (try (exfalso; first | fail)))))
  all_goals (refine ⟨.inr rfl, ret1 rfl (.tmp rfl) (List.nil_sublist _) ⟨?_, rfl⟩⟩)
  all_goals first | rfl | exact absurd rfl hb | (simp; done) | trace_state

theorem syncSpec_run (W : World) (sa : Option Addr) (sn sc : Nat) (pa : Option Addr) (pn pc : Nat) (D : Disk) (left : Int) (hD : DiskAt (fun _ => True) W sa sn sc pa pn pc D) (hl : -9223372036854775808 ≤ left ∧ left ≤ 9223372036854775807) :
    Calls Try.prog 5 #[.agg #[.slice sa sn sc, .slice pa pn pc, .int .i64 D.left, .bool D.stopped], .int .i64 left] W fun e w' => e = .returned (.bool true) ∧ Below W.heap.size W w' :=
  law_of (syncSpec_fr D left ⟨hD.lo, hD.hi⟩ hl) (.cons (dsk_to hD.secs hD.pend) (.cons rfl .nil))
end Go.Proofs.Ytckcdokfhdckhaa
