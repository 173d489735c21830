/- NamesTwice: the walk. -/
import Derived.Test.YtjjjblegnjiaoaaDoorMb
import Derived.Test.YtjjjblegnjiaoaaDoorMc
-- STRINGS
-- ROWS
-- PRUNEC
namespace Go.Proofs.YtjjjblegnjiaoaaDoor
open Go Go.RowKit Go.Kx Go.Fr
theorem resolve_pair {fr : List UInt8 → Bool} {r : RulesD} (h : (r.resolve fr).2 = 0) : r.resolve fr = (r.resolved, 0) := by
  rw [← resolve_ok h, ← h]
theorem check_of {fr : List UInt8 → Bool} {r : RulesD} (h : (r.resolve fr).2 = 0) : r.check fr = if r.resolved = r then 0 else 140 := by
  unfold RulesD.check
  rw [resolve_pair h]
  simp
theorem check_bad {fr : List UInt8 → Bool} {r : RulesD} (h : (r.resolve fr).2 ≠ 0) : r.check fr = (r.resolve fr).2 := by
  unfold RulesD.check
  rw [if_pos h]
theorem resolved_pair {fr : List UInt8 → Bool} {r : RulesD} (h : (r.resolve fr).2 = 0) : r.resolved.resolve fr = (r.resolved, 0) ∧ r.resolved.check fr = 0 := by
  have e := (RulesD.like_resolved r).all fr
  have e1 : r.resolved.resolve fr = (r.resolved, 0) := by rw [e.1, resolve_pair h]
  refine ⟨e1, ?_⟩
  have h2 : (r.resolved.resolve fr).2 = 0 := by rw [e1]
  rw [check_of h2]
  have e3 := resolve_ok h2
  rw [e1] at e3
  rw [if_pos e3.symm]
set_option maxHeartbeats 4000000 in
set_option maxRecDepth 100000 in
theorem namesTwice_any (k : Nat) (r : RulesD) (m : Int) : FnC Tryd.prog 5 [rul k r, exI .i64 m] [Tab] (fun p loc => p = exB true ∧ loc = []) := by
  refine FnC_enter Tryd.func5 rfl Tryd.ntmps5 rfl fun w0 F0 out => ?_
  have h0 := few14_any k r
  by_cases hf : r.few = true
  · rw [hf] at h0
    have h1 := nresolve_any k r hf
    have h2 := changed_any m k r hf
    have hl := (RulesD.like_chg m r).all freeF
    have h3 := nresolve_any k (r.chg m) (hl.2.trans hf)
    rw [hl.1] at h3
    by_cases he : (r.resolve freeF).2 = 0
    · have hp := resolved_pair he
      have hlr := (RulesD.like_resolved r).all freeF
      have h6 := nresolve_any k r.resolved (hlr.2.trans hf)
      have h7 := ncheck_any k (r.chg m) (hl.2.trans hf)
      have h8 := ncheck_any k r.resolved (hlr.2.trans hf)
      have h9 := same14_any k k (r.chg m) r.resolved
      have h4 := same14_any k k r.resolved r.resolved
      rw [decide_eq_true rfl] at h4
      have hc : (r.chg m).check freeF = if r.resolved = r.chg m then 0 else 140 := by
        have e2 : ((r.chg m).resolve freeF).2 = 0 := by rw [hl.1]; exact he
        have e3 : (r.chg m).resolved = r.resolved := by rw [← resolve_ok e2, hl.1, resolve_ok he]
        rw [check_of e2, e3]
      rw [resolve_pair he] at h1 h3
      rw [hp.1] at h6
      rw [hp.2] at h8
      rw [hc] at h7
      clear hc hp hlr hl he
      generalize r.resolved = x at *
      generalize r.chg m = o at *
      by_cases hx : x = o
      · rw [if_pos hx] at h7
        rw [decide_eq_true hx.symm] at h9
        (repeat' (first | refine WP_seq ?_ | refine WP_region ?_ | refine WPL_nil ?_ | (apply WPL_t; (first | exact WT_move rfl | exact WT_assign rfl | exact WT_pick (b := true) rfl (fun _ => rfl) (fun e => by cases e) | exact WT_pick (b := false) rfl (fun e => by cases e) (fun _ => rfl) | exact WT_extract rfl rfl | (apply g_load; first | exact WT_loada2 (k := 0) rfl rfl rfl | exact WT_loada2 (k := 1) rfl rfl rfl | exact WT_loada2 (k := 2) rfl rfl rfl) | (apply g_bin; first | exact WT_eql rfl rfl | exact WT_neq rfl rfl) | (apply g_un; first | exact WT_not rfl)); exact rfl) | (apply WPL_gt; exact rfl; exact rfl; exact rfl; (first | exact WT_move rfl | (apply g_load; first | exact WT_loada2 (k := 0) rfl rfl rfl | exact WT_loada2 (k := 2) rfl rfl rfl | exact WT_loada2 (k := 3) rfl rfl rfl) | (apply g_bin; first | exact WT_eql rfl rfl | exact WT_beq rfl rfl rfl) | (apply g_un; first | exact WT_not rfl)); exact rfl) | refine WP_skip ?_ | refine WP_ret ?_ | refine WP_cond_f rfl ?_ | (apply WPL_op0; exact rfl; first | (apply g_callf; first | (refine WO_callG (.dup 1 rfl rfl .nil) Tryd.func7 rfl sane14_any rfl ?_; rintro _ _ ⟨rfl, rfl⟩) | (refine WO_call Tryd.func8 rfl h0 rfl ?_; rintro _ _ ⟨rfl, rfl⟩) | (refine WO_callG (.dup 1 rfl rfl .nil) Tryd.func9 rfl h1 rfl ?_; rintro _ _ ⟨rfl, rfl⟩) | (refine WO_call Tryd.func18 rfl h2 rfl ?_; rintro _ _ ⟨rfl, rfl⟩) | (refine WO_callG (.dup 3 rfl rfl .nil) Tryd.func9 rfl h3 rfl ?_; rintro _ _ ⟨rfl, rfl⟩) | (refine WO_callG (.dup 4 rfl rfl .nil) Tryd.func9 rfl h6 rfl ?_; rintro _ _ ⟨rfl, rfl⟩) | (refine WO_callG (.dup 5 rfl rfl .nil) Tryd.func12 rfl h7 rfl ?_ (hH := hH_tab); rintro _ _ ⟨rfl, rfl⟩)) | (apply g_box; refine WO_box rfl ?_; intro _) | (apply g_alloc; refine WO_alloc ?_; intro _) | (apply g_store; first | refine WO_store (k := 0) (l0 := []) rfl rfl rfl ?_)) | (apply WPL_on0; exact rfl; exact rfl; exact rfl; exact rfl; (apply g_callf; first | (refine WO_call Tryd.func11 rfl h4 rfl ?_; rintro _ _ ⟨rfl, rfl⟩) | (refine WO_callG (.dup 5 rfl rfl .nil) Tryd.func12 rfl h8 rfl ?_ (hH := hH_tab); rintro _ _ ⟨rfl, rfl⟩) | (refine WO_call Tryd.func11 rfl h9 rfl ?_; rintro _ _ ⟨rfl, rfl⟩)))))
        all_goals (try (exfalso; first | contradiction | omega))
        all_goals (exact ⟨.inr rfl, ret1 rfl (.tmp rfl) (List.nil_sublist _) ⟨congrArg exB (by first | rfl | (simp; done)), rfl⟩⟩)
      · rw [if_neg hx] at h7
        rw [decide_eq_false (fun e => hx e.symm)] at h9
        (repeat' (first | refine WP_seq ?_ | refine WP_region ?_ | refine WPL_nil ?_ | (apply WPL_t; (first | exact WT_move rfl | exact WT_assign rfl | exact WT_pick (b := true) rfl (fun _ => rfl) (fun e => by cases e) | exact WT_pick (b := false) rfl (fun e => by cases e) (fun _ => rfl) | exact WT_extract rfl rfl | (apply g_load; first | exact WT_loada2 (k := 0) rfl rfl rfl | exact WT_loada2 (k := 1) rfl rfl rfl | exact WT_loada2 (k := 2) rfl rfl rfl) | (apply g_bin; first | exact WT_eql rfl rfl | exact WT_neq rfl rfl) | (apply g_un; first | exact WT_not rfl)); exact rfl) | (apply WPL_gt; exact rfl; exact rfl; exact rfl; (first | exact WT_move rfl | (apply g_load; first | exact WT_loada2 (k := 0) rfl rfl rfl | exact WT_loada2 (k := 2) rfl rfl rfl | exact WT_loada2 (k := 3) rfl rfl rfl) | (apply g_bin; first | exact WT_eql rfl rfl | exact WT_beq rfl rfl rfl) | (apply g_un; first | exact WT_not rfl)); exact rfl) | refine WP_skip ?_ | refine WP_ret ?_ | refine WP_cond_f rfl ?_ | (apply WPL_op0; exact rfl; first | (apply g_callf; first | (refine WO_callG (.dup 1 rfl rfl .nil) Tryd.func7 rfl sane14_any rfl ?_; rintro _ _ ⟨rfl, rfl⟩) | (refine WO_call Tryd.func8 rfl h0 rfl ?_; rintro _ _ ⟨rfl, rfl⟩) | (refine WO_callG (.dup 1 rfl rfl .nil) Tryd.func9 rfl h1 rfl ?_; rintro _ _ ⟨rfl, rfl⟩) | (refine WO_call Tryd.func18 rfl h2 rfl ?_; rintro _ _ ⟨rfl, rfl⟩) | (refine WO_callG (.dup 3 rfl rfl .nil) Tryd.func9 rfl h3 rfl ?_; rintro _ _ ⟨rfl, rfl⟩) | (refine WO_callG (.dup 4 rfl rfl .nil) Tryd.func9 rfl h6 rfl ?_; rintro _ _ ⟨rfl, rfl⟩) | (refine WO_callG (.dup 5 rfl rfl .nil) Tryd.func12 rfl h7 rfl ?_ (hH := hH_tab); rintro _ _ ⟨rfl, rfl⟩)) | (apply g_box; refine WO_box rfl ?_; intro _) | (apply g_alloc; refine WO_alloc ?_; intro _) | (apply g_store; first | refine WO_store (k := 0) (l0 := []) rfl rfl rfl ?_)) | (apply WPL_on0; exact rfl; exact rfl; exact rfl; exact rfl; (apply g_callf; first | (refine WO_call Tryd.func11 rfl h4 rfl ?_; rintro _ _ ⟨rfl, rfl⟩) | (refine WO_callG (.dup 5 rfl rfl .nil) Tryd.func12 rfl h8 rfl ?_ (hH := hH_tab); rintro _ _ ⟨rfl, rfl⟩) | (refine WO_call Tryd.func11 rfl h9 rfl ?_; rintro _ _ ⟨rfl, rfl⟩)))))
        all_goals (try (exfalso; first | contradiction | omega))
        all_goals (exact ⟨.inr rfl, ret1 rfl (.tmp rfl) (List.nil_sublist _) ⟨congrArg exB (by first | rfl | (simp; done)), rfl⟩⟩)
    · have h5 := ncheck_any k r hf
      rw [check_bad he] at h5
      generalize r.resolve freeF = z at h1 h3 h5 he
      obtain ⟨x, e⟩ := z
      simp only at h1 h3 h5 he
      have h4 := same14_any k k x x
      rw [decide_eq_true rfl] at h4
      (repeat' (first | refine WP_seq ?_ | refine WP_region ?_ | refine WPL_nil ?_ | (apply WPL_t; (first | exact WT_move rfl | exact WT_assign rfl | exact WT_pick (b := false) rfl (fun e => by cases e) (fun _ => rfl) | exact WT_extract rfl rfl | (apply g_load; first | exact WT_loada2 (k := 0) rfl rfl rfl | exact WT_loada2 (k := 1) rfl rfl rfl | exact WT_loada2 (k := 3) rfl rfl rfl) | (apply g_bin; first | exact WT_eql rfl rfl | exact WT_neq rfl rfl) | (apply g_un; first | exact WT_not rfl)); exact rfl) | (apply WPL_gt; exact rfl; exact rfl; exact rfl; (first | (apply g_load; first | exact WT_loada2 (k := 0) rfl rfl rfl | exact WT_loada2 (k := 2) rfl rfl rfl) | (apply g_un; first | exact WT_not rfl)); exact rfl) | refine WP_skip ?_ | refine WP_ret ?_ | refine WP_cond_f rfl ?_ | (apply WPL_op0; exact rfl; first | (apply g_callf; first | (refine WO_callG (.dup 1 rfl rfl .nil) Tryd.func7 rfl sane14_any rfl ?_; rintro _ _ ⟨rfl, rfl⟩) | (refine WO_call Tryd.func8 rfl h0 rfl ?_; rintro _ _ ⟨rfl, rfl⟩) | (refine WO_callG (.dup 1 rfl rfl .nil) Tryd.func9 rfl h1 rfl ?_; rintro _ _ ⟨rfl, rfl⟩) | (refine WO_call Tryd.func18 rfl h2 rfl ?_; rintro _ _ ⟨rfl, rfl⟩) | (refine WO_callG (.dup 3 rfl rfl .nil) Tryd.func9 rfl h3 rfl ?_; rintro _ _ ⟨rfl, rfl⟩) | (refine WO_callG (.dup 4 rfl rfl .nil) Tryd.func12 rfl h5 rfl ?_ (hH := hH_tab); rintro _ _ ⟨rfl, rfl⟩)) | (apply g_box; refine WO_box rfl ?_; intro _) | (apply g_alloc; refine WO_alloc ?_; intro _) | (apply g_store; first | refine WO_store (k := 0) (l0 := []) rfl rfl rfl ?_)) | (apply WPL_on0; exact rfl; exact rfl; exact rfl; exact rfl; (apply g_callf; first | (refine WO_call Tryd.func11 rfl h4 rfl ?_; rintro _ _ ⟨rfl, rfl⟩))) | (refine WPL_case rfl rfl (fun hb => ?_) (fun hb => ?_) <;> (repeat (first | replace hb := dec_t hb | replace hb := dec_f hb | replace hb := not_t hb | replace hb := not_f hb)) <;> (try (exfalso; first | contradiction))) | (refine WP_cond rfl (fun hb => ?_) (fun hb => ?_) <;> (repeat (first | replace hb := dec_t hb | replace hb := dec_f hb | replace hb := not_t hb | replace hb := not_f hb)) <;> (try (exfalso; first | contradiction)))))
      all_goals (try (exfalso; first | contradiction | omega))
      all_goals (exact ⟨.inr rfl, ret1 rfl (.tmp rfl) (List.nil_sublist _) ⟨congrArg exB (by first | rfl | (simp; done)), rfl⟩⟩)
  · rw [Bool.not_eq_true] at hf
    rw [hf] at h0
    (repeat' (first | refine WP_seq ?_ | refine WP_region ?_ | refine WPL_nil ?_ | (apply WPL_t; (first | exact WT_assign rfl | (apply g_load; first | exact WT_loada2 (k := 0) rfl rfl rfl) | (apply g_un; first | exact WT_not rfl)); exact rfl) | refine WP_skip ?_ | refine WP_ret ?_ | refine WP_cond_t rfl ?_ | refine WP_cond_f rfl ?_ | (apply WPL_op0; exact rfl; first | (apply g_callf; first | (refine WO_callG (.dup 1 rfl rfl .nil) Tryd.func7 rfl sane14_any rfl ?_; rintro _ _ ⟨rfl, rfl⟩) | (refine WO_call Tryd.func8 rfl h0 rfl ?_; rintro _ _ ⟨rfl, rfl⟩)) | (apply g_box; refine WO_box rfl ?_; intro _))))
    all_goals (try (exfalso; first | contradiction | omega))
    all_goals (exact ⟨.inr rfl, ret1 rfl (.tmp rfl) (List.nil_sublist _) ⟨rfl, rfl⟩⟩)
end Go.Proofs.YtjjjblegnjiaoaaDoor
